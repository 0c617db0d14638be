/- What the proof of this claim stands on: the walks of the functions and the plain laws, part 5. -/
import Derived.Test.YtodjjilpibnbeaaGreatDoorFnExactRootMatLib4
set_option linter.unusedVariables false
set_option linter.unusedSimpArgs false
namespace Go.Ab
open Go Go.Proofs
/-! ### Minors and determinants-/
def mnC(n:Nat)(l:List ExV)(r c i:Nat):Nat→List ExV
 |0=>[]
 |j+1=>if i≠r∧j≠c then mnC n l r c i j++[l.getD (i*n+j) ex0]else mnC n l r c i j
def mnR(n:Nat)(l:List ExV)(r c:Nat):Nat→List ExV
 |0=>[]
 |i+1=>mnR n l r c i++mnC n l r c i n
theorem XR{n:Nat}{l:List ExV}{r c i:Nat}:∀j,(mnC n l r c i j).length≤j
 |0=>Nat.le_refl _
 |j+1=>by
  have:=XR (n:=n) (l:=l) (r:=r) (c:=c) (i:=i) j
  rw[mnC];split
  ·rw[List.length_append];simp;omega
  ·omega
theorem JS{n:Nat}{l:List ExV}{r c:Nat}:∀i,(mnR n l r c i).length≤i*n
 |0=>by simp[mnR]
 |i+1=>by
  have h1:=JS (n:=n) (l:=l) (r:=r) (c:=c) i
  have h2:=XR (n:=n) (l:=l) (r:=r) (c:=c) (i:=i) n
  rw[mnR,List.length_append,Nat.succ_mul];omega
theorem Kw(n:Nat)(l:List ExV)(r c:Nat)(hn:1≤n∧n≤4)(hl:l.length=n*n)(hr:r<n)(hc:c<n):Con Tryz.prog 257 false [.ag [.v (.int .i64 (n)),.sl (l).length (qk ExV.cs (l))],.v (.int .i64 r),.v (.int .i64 c)] [] (isA (.ag [.v (.int .i64 (n-1)),.sl (mnR n l r c n).length (qk ExV.cs (mnR n l r c n))])):=by
 refine Con.frzA ?_
 have hq:=jq hn.2
 refine Con.of_aw Tryz.func257 rfl Tryz.ntmps257 (by simp) (by simp) (by simp) (W.sound ?_)
 show @W Tryz.prog 44 ⟨_⟩ ⟨fun x σ=>@q8 _ _ _ ⟨_⟩ _ ⟨_⟩ x σ⟩ _ _
 simp(disch:=omega)only[go_sem]
 have hE:∀i j:Nat,i<n→j<n→i*n+j<l.length:=fun i j hi hj=>by rw[hl];exact q7 hi hj
 refine qj (fun i:Nat=>[(1,.v (.int .i64 r)),(2,.v (.int .i64 c)),(3,.pt 1 0),(6,.pt 2 0),(7,.pt 3 0),(15,.v (.int .i64 n)),(16,.v (.int .i64 i))])
  (fun i=>[(1,.own 0 [.v (.int .i64 n),.sl l.length (qk ExV.cs l)]),(2,.own 0 [.v (.int .i64 0),.v (.slice none 0 0)]),(3,.own 0 [.v (.int .i64 (n-1)),.rf 4 0 (mnR n l r c i).length]),(4,.own 3 (qk ExV.cs (mnR n l r c i)))]) (fun i=>i≤n) (fun i=>n-i) 0 (by omega)
  ((Le.ghostC 90000000 1 4 3 (zo:=0) (cs:=[.v (.int .i64 (n-1)),.v (.slice none 0 0)]) (by simp(disch:=omega)only[go_sem]) rfl (by simp(disch:=omega)only[go_sem])).trans (Le.lst [(1,50000000),(2,80000000),(3,90000000)] _ _ rfl (by simp(disch:=omega)only[go_sem]) (by simp(disch:=omega)only[go_sem,show mnR n l r c 0=[] from rfl,j8,List.length_nil,List.set_cons_succ,List.set_cons_zero]))) ?_
 intro i hi
 simp(disch:=omega)only[go_sem]
 refine qh (fun h1=>?_) (fun h1=>?_)
 ·simp(disch:=omega)only[go_sem,h1]
  generalize hA:mnR n l r c i=A at*
  refine qj (fun j:Nat=>[(1,.v (.int .i64 r)),(2,.v (.int .i64 c)),(3,.pt 1 0),(6,.pt 2 0),(7,.pt 3 0),(8,.v (.int .i64 i)),(15,.v (.int .i64 n)),(16,.v (.int .i64 i)),(20,.v (.int .i64 n)),(21,.v (.int .i64 j))])
   (fun j=>[(1,.own 0 [.v (.int .i64 n),.sl l.length (qk ExV.cs l)]),(2,.own 0 [.v (.int .i64 0),.v (.slice none 0 0)]),(3,.own 0 [.v (.int .i64 (n-1)),.rf 4 0 (A++mnC n l r c i j).length]),(4,.own 3 (qk ExV.cs (A++mnC n l r c i j)))]) (fun j=>j≤n) (fun j=>n-j) 0 (by omega)
   (Le.lst [] _ _ rfl (by simp(disch:=omega)only[go_sem]) (by simp(disch:=omega)only[go_sem,show mnC n l r c i 0=[] from rfl,List.append_nil])) ?_
  intro j hj
  have hs:mnC n l r c i (j+1)=if i≠r∧j≠c then mnC n l r c i j++[l.getD (i*n+j) ex0]else mnC n l r c i j:=rfl
  have hlen:(A++mnC n l r c i j).length≤40:=by
   have h3:=@XR n l r c i j
   have h4:=@JS n l r c i
   rw[hA]at h4
   have:i*n≤n*n:=Nat.mul_le_mul_right n (by omega)
   rw[List.length_append];omega
  generalize hB:mnC n l r c i j=B at*
  simp(disch:=omega)only[go_sem]
  refine qh (fun h2=>?_) (fun h2=>?_)
  ·by_cases c1:i=r
   ·rw[if_neg (fun h=>h.1 c1)]at hs
    simp(disch:=omega)only[go_sem,h2,decide_eq_true (show(i:Int)=r by omega)]
    exact qe (j+1) [] (by show j+1≤n;omega) (by show n-(j+1)<n-j;omega) rfl (by simp(disch:=omega)only[go_sem];try omega) (by simp(disch:=omega)only[go_sem,hs])
   by_cases c2:j=c
   ·rw[if_neg (fun h=>h.2 c2)]at hs
    simp(disch:=omega)only[go_sem,h2,decide_eq_false (show ¬(i:Int)=r by omega),decide_eq_true (show(j:Int)=c by omega)]
    exact qe (j+1) [] (by show j+1≤n;omega) (by show n-(j+1)<n-j;omega) rfl (by simp(disch:=omega)only[go_sem];try omega) (by simp(disch:=omega)only[go_sem,hs])
   ·rw[if_pos ⟨c1,c2⟩]at hs
    have ca:=yL n l i j (hE i j (by omega) (by omega)) (by omega) (by omega) (by omega) (by omega)
    generalize l.getD (i*n+j) ex0=x at*
    simp(disch:=omega)only[go_sem,h2,decide_eq_false (show ¬(i:Int)=r by omega),decide_eq_false (show ¬(j:Int)=c by omega)]
    refine qs rfl [⟨0,[],[]⟩,⟨1,[],[]⟩,⟨2,[1],[]⟩,⟨3,[1,2],[]⟩,⟨4,[1,2],[]⟩,⟨5,[1],[]⟩,⟨6,[1],[]⟩,⟨7,[],[]⟩,⟨8,[],[]⟩,⟨9,[],[]⟩] (by kernel_rfl) ?_
    simp(disch:=omega)only[go_sem]
    refine qa (ca) ?_
    simp(disch:=omega)only[go_sem]
    have hl4:(A++B++[x]).length=(A++B).length+1:=by simp;omega
    exact⟨by omega,qe (j+1) [(4,410000000)] (by show j+1≤n;omega) (by show n-(j+1)<n-j;omega) rfl (by simp(disch:=omega)only[go_sem];try omega) (by simp(disch:=omega)only[go_sem,hs,(List.append_assoc A B [x]).symm,hl4,J6,Qr])⟩
  ·obtain rfl:j=n:=by omega
   have hs2:mnR j l r c (i+1)=A++B:=by rw[mnR,hA,hB]
   simp(disch:=omega)only[go_sem,h2]
   exact qe (i+1) [] (by show i+1≤j;omega) (by show j-(i+1)<j-i;omega) rfl (by simp(disch:=omega)only[go_sem];try omega) (by simp(disch:=omega)only[go_sem,hs2])
 ·obtain rfl:i=n:=by omega
  have hl2:=@JS i l r c i
  simp(disch:=omega)only[go_sem,h1]
  generalize mnR i l r c i=A at*
  refine ql [(0,4)] [.own 3 (qk ExV.cs A)] [] [.ag [.v (.int .i64 (i-1)),.rf 0 0 A.length]] rfl (by simp(disch:=omega)only[go_sem]) (by simp(disch:=omega)only[go_sem]) (by simp) (by simp) ?_
  show qE _ 6 _=_
  simp(disch:=omega)only[go_sem,zg,J6]
def ExV.sgn(x:ExV)(k:Nat):ExV:=if k % 2=1 then x.neg else x
theorem Xi(x:ExV)(k:Nat)(hk:k≤100):Con Tryz.prog 258 false [.ag [.v (.bool (x).s),.sl (lim (x).m).length (qg (lim (x).m)),.v (.int .i64 (x).e)],.v (.int .i64 k)] [] (isA (.ag [.v (.bool (x.sgn k).s),.sl (lim (x.sgn k).m).length (qg (lim (x.sgn k).m)),.v (.int .i64 (x.sgn k).e)])):=by
 refine Con.frzA ?_
 have cn:=acx x
 unfold ExV.sgn
 refine Con.of_w (rs:=[.cell 4 97]) Tryz.func258 rfl Tryz.ntmps258 rfl ?_
 simp(disch:=omega)only[go_sem]
 by_cases h:k % 2=1
 ·rw[if_pos h]
  generalize x.neg=y at*
  simp(disch:=omega)only[go_sem,decide_eq_true (show(k:Int) % 2=1 by omega)]
  refine qa (cn) ?_
  simp(disch:=omega)only[go_sem]
  exact qo
 ·rw[if_neg h]
  simp(disch:=omega)only[go_sem,decide_eq_false (show ¬(k:Int) % 2=1 by omega)]
  exact qo
theorem ExV.sgn_bd{lo hi:Int}{x:ExV}{k:Nat}(h:x.bd lo hi):(x.sgn k).bd lo hi:=by
 unfold ExV.sgn;split
 ·exact ExV.neg_bd h
 ·exact h
def zd:Nat→List ExV→ExV
 |0,_=>ex1
 |n+1,l=>(List.range (n+1)).foldl (fun s j=>s.plus (((l.getD (0*(n+1)+j) ex0).times (zd n (mnR (n+1) l 0 j (n+1)))).sgn j)) ex0
theorem aay{n:Nat}{l:List ExV}{r c i:Nat}(hl:l.length=n*n)(hi:i<n):∀j,j≤n→∀x∈mnC n l r c i j,x∈l
 |0,_,x,hx=>by cases hx
 |j+1,hj,x,hx=>by
  rw[mnC]at hx
  split at hx
  ·rcases List.mem_append.1 hx with hx|hx
   ·exact aay hl hi j (by omega) x hx
   ·rw[List.mem_singleton.1 hx,List.getD_eq_getElem?_getD,List.getElem?_eq_getElem (by rw[hl];exact q7 hi (by omega))]
    exact List.getElem_mem _
  ·exact aay hl hi j (by omega) x hx
theorem jZ{n:Nat}{l:List ExV}{r c:Nat}(hl:l.length=n*n):∀i,i≤n→∀x∈mnR n l r c i,x∈l
 |0,_,x,hx=>by cases hx
 |i+1,hi,x,hx=>by
  rw[mnR]at hx
  rcases List.mem_append.1 hx with hx|hx
  ·exact jZ hl i (by omega) x hx
  ·exact aay hl (by omega) n (Nat.le_refl n) x hx
theorem ab9{n:Nat}{l:List ExV}{r c i:Nat}:∀j,(mnC n l r c i j).length=if i=r then 0 else if c<j then j-1 else j
 |0=>by simp[mnC]
 |j+1=>by
  have:=ab9 (n:=n) (l:=l) (r:=r) (c:=c) (i:=i) j
  rw[mnC]
  by_cases h1:i=r
  ·rw[if_neg (by omega),this];simp[h1]
  ·rw[if_neg h1]at this ⊢
   by_cases h2:j=c
   ·rw[if_neg (by omega),this];split<;>split<;>omega
   ·rw[if_pos ⟨h1,h2⟩,List.length_append,this];simp;split<;>split<;>omega
theorem yw{n:Nat}{l:List ExV}{r c:Nat}(hc:c<n):∀i,(mnR n l r c i).length=(if r<i then i-1 else i)*(n-1)
 |0=>by simp[mnR]
 |i+1=>by
  rw[mnR,List.length_append,yw hc i,ab9]
  by_cases h1:i=r
  ·rw[if_pos h1,if_neg (by omega),if_pos (by omega)];simp
  ·rw[if_neg h1,if_pos hc]
   by_cases h2:r<i
   ·rw[if_pos h2,if_pos (by omega),show i+1-1=(i-1)+1 by omega,Nat.add_mul,Nat.one_mul]
   ·rw[if_neg h2,if_neg (by omega),Nat.add_mul,Nat.one_mul]
theorem j9:∀(n:Nat) {l:List ExV},n≤4→l.length=n*n→gbd (-10000) 10000 l→(zd n l).bd (-10000*n) (10004*n+1)
 |0,l,_,_,_=>⟨fun _=>rfl,by show _≤(0:Int);omega,by show(bl 1:Int)+0≤_;have:bl 1≤1:=zN.2 (by decide);omega⟩
 |n+1,l,hn,hl,hb=>by
  rw[zd]
  refine(Qq (lo:= -10000*(n+1)) (hi:=10004*n+10001) (fun j=>((l.getD (0*(n+1)+j) ex0).times (zd n (mnR (n+1) l 0 j (n+1)))).sgn j) (by omega) (n+1) (fun j hj=>?_)).mono (by omega) (by omega)
  have h1:=qF hb (i:=0*(n+1)+j) (by rw[hl];exact q7 (by omega) hj)
  have h2:=j9 n (l:=mnR (n+1) l 0 j (n+1)) (by omega) (by rw[yw hj,if_pos (by omega)];rfl) (fun x hx=>hb x (jZ hl _ (Nat.le_refl _) x hx))
  exact ExV.sgn_bd ((ExV.times_bd h1 h2).mono (by omega) (by omega))
set_option maxRecDepth 100000 in
theorem abo(n:Nat):∀L:List ExV,n≤4→L.length=n*n→gbd (-10000) 10000 L→Con Tryz.prog 194 false [.ag [.v (.int .i64 (n)),.sl (L).length (qk ExV.cs (L))]] [] (isA (.ag [.v (.bool (zd n L).s),.sl (lim (zd n L).m).length (qg (lim (zd n L).m)),.v (.int .i64 (zd n L).e)])):=by
 induction n with
 |zero=>
  intro L hn hl hb
  refine Con.frzA ?_
  have c1:=acv
  unfold zd
  generalize ex1=y at*
  refine Con.of_w (rs:=[.cell 2 97]) Tryz.func194 rfl Tryz.ntmps194 rfl ?_
  simp(disch:=omega)only[go_sem]
  refine qa (c1) ?_
  simp(disch:=omega)only[go_sem]
  exact qo
 |succ n ih=>
  intro L hn hl hb
  refine Con.frzA ?_
  refine Con.of_w (rs:=[.cell 2 97]) Tryz.func194 rfl Tryz.ntmps194 rfl ?_
  simp(disch:=omega)only[go_sem]
  obtain⟨N,hN⟩:∃N,N=n+1:=⟨_,rfl⟩
  rw[←hN]at hn hl
  have hd:zd (n+1) L=(List.range N).foldl (fun s j=>s.plus (((L.getD (0*N+j) ex0).times (zd n (mnR N L 0 j N))).sgn j)) ex0:=by rw[hN];rfl
  rw[hd,←hN]
  simp(disch:=omega)only[go_sem,decide_eq_false (show ¬(N:Int)=0 by omega)]
  have hb2:=Qq (lo:= -10000*(n+1)) (hi:=10004*n+10001) (fun j=>((L.getD (0*N+j) ex0).times (zd n (mnR N L 0 j N))).sgn j) (by omega)
  obtain⟨D,hD⟩:∃D:Nat→ExV,D=fun k=>(List.range k).foldl (fun s j=>s.plus (((L.getD (0*N+j) ex0).times (zd n (mnR N L 0 j N))).sgn j)) ex0:=⟨_,rfl⟩
  have hDs:∀k,D (k+1)=(D k).plus (((L.getD (0*N+k) ex0).times (zd n (mnR N L 0 k N))).sgn k):=fun k=>by rw[hD];simp only[List.range_succ,List.foldl_append,List.foldl_cons,List.foldl_nil]
  have hD0:D 0=ex0:=by rw[hD];rfl
  have hDN:(List.range N).foldl (fun s j=>s.plus (((L.getD (0*N+j) ex0).times (zd n (mnR N L 0 j N))).sgn j)) ex0=D N:=by rw[hD]
  have hDb:∀k,k≤N→(D k).bd (-40000) 40020:=fun k hk=>by
   rw[hD]
   refine(hb2 k fun j hj=>?_).mono (by omega) (by omega)
   have h1:=qF hb (i:=0*N+j) (by rw[hl];exact q7 (by omega) (by omega))
   have h2:=j9 n (l:=mnR N L 0 j N) (by omega) (by rw[yw (by omega),if_pos (by omega),hN];rfl) (fun x hx=>hb x (jZ hl _ (Nat.le_refl _) x hx))
   exact ExV.sgn_bd ((ExV.times_bd h1 h2).mono (by omega) (by omega))
  rw[hDN]
  clear hb2 hd hDN
  refine qj (fun j:Nat=>[(1,.pt 1 0),(2,.pt 2 0),(3,.pt 3 0),(10,.v (.int .i64 N)),(11,.v (.int .i64 j))])
   (fun j=>[(1,.own 0 [.v (.int .i64 N),.sl L.length (qk ExV.cs L)]),(2,.own 0 [.v (.bool false),.v (.slice none 0 0),.v (.int .i64 0)]),(3,.own 0 [.v (.bool (D j).s),.sl (lim (D j).m).length (qg (lim (D j).m)),.v (.int .i64 (D j).e)])]) (fun j=>j≤N) (fun j=>N-j) 0 (by omega)
   ((Le.nilC 50000000 1 (zo:=0) (cs:=[.v (.bool false),.v (.slice none 0 0),.v (.int .i64 0)]) (by simp(disch:=omega)only[go_sem]) rfl).trans (Le.lst [(1,30000000),(2,40000000),(3,50000000)] _ _ rfl (by simp(disch:=omega)only[go_sem]) (by simp(disch:=omega)only[go_sem,List.set_cons_succ,List.set_cons_zero,hD0,ex0,qt]))) ?_
  intro j hj
  have hs:=hDs j
  have hjb:=hDb j hj
  generalize hA:D j=A at*
  simp(disch:=omega)only[go_sem]
  refine qh (fun h1=>?_) (fun h1=>?_)
  ·have hm:(mnR N L 0 j N).length=n*n:=by rw[yw (by omega),if_pos (by omega),hN];rfl
   have hmb:gbd (-10000) 10000 (mnR N L 0 j N):=fun x hx=>hb x (jZ hl _ (Nat.le_refl _) x hx)
   have ca:=yL N L 0 j (by rw[hl];exact q7 (by omega) (by omega)) (by have:=jq hn;omega) (by omega) (by omega) (by omega)
   have cm:=Kw N L 0 j (by omega) hl (by omega) (by omega)
   have cd:=ih (mnR N L 0 j N) (by omega) hm hmb
   have h1b:=qF hb (i:=0*N+j) (by rw[hl];exact q7 (by omega) (by omega))
   have h2b:=j9 n (by omega) hm hmb
   rw[show((N:Int)-1)=(n:Int) by omega]at cm
   generalize L.getD (0*N+j) ex0=x at*
   generalize zd n (mnR N L 0 j N)=y at*
   generalize mnR N L 0 j N=M at*
   have ct:=ZH x y (h1b.mono (by omega) (by omega)) (h2b.mono (by omega) (by omega))
   have bt:=ExV.times_bd h1b h2b
   generalize x.times y=z at*
   have bs:=ExV.sgn_bd (k:=j) bt
   simp(disch:=omega)only[go_sem,h1]
   refine qs rfl [⟨0,[],[]⟩,⟨1,[0],[]⟩,⟨2,[0,1],[]⟩,⟨4,[0,1],[]⟩,⟨5,[0,1,4],[]⟩,⟨9,[0,1,4],[]⟩,⟨3,[0,4],[]⟩,⟨6,[0],[]⟩,⟨7,[0],[]⟩,⟨8,[0],[]⟩,⟨10,[0],[]⟩,⟨11,[],[]⟩,⟨12,[],[]⟩] (by kernel_rfl) ?_
   simp(disch:=omega)only[go_sem]
   refine qa (ca) ?_
   simp(disch:=omega)only[go_sem]
   refine qa (cm) ?_
   simp(disch:=omega)only[go_sem]
   refine qa (cd) ?_
   simp(disch:=omega)only[go_sem]
   refine qa (ct) ?_
   simp(disch:=omega)only[go_sem]
   refine qa (Xi z j (by omega)) ?_
   simp(disch:=omega)only[go_sem]
   refine qa (y8 A (z.sgn j) (hjb.mono (by omega) (by omega)) (bs.mono (by omega) (by omega))) ?_
   simp(disch:=omega)only[go_sem]
   exact qe (j+1) [] (by show j+1≤N;omega) (by show N-(j+1)<N-j;omega) rfl (by simp(disch:=omega)only[go_sem];try omega) (by simp(disch:=omega)only[go_sem,hs])
  ·obtain rfl:j=N:=by omega
   rw[hA]
   simp(disch:=omega)only[go_sem,h1]
   exact qo
end Go.Ab
namespace Go.Ab
open Go Go.Proofs
theorem KC(x:ExV)(h:x.ok=true):Con Tryz.prog 49 false [.ag [.v (.bool (x).s),.sl (lim (x).m).length (qg (lim (x).m)),.v (.int .i64 (x).e)]] [] (isA (.ag [.v (.bool (x).s),.sl (lim (x).m).length (qg (lim (x).m)),.v (.int .i64 (x).e)])):=by
 refine Con.frzA ?_
 obtain⟨a1,a2,a3,a4,a5⟩:=Q2 h
 have cm:=qP x.s x.m (by omega)
 rw[show(x.s&&decide (x.m≠0))=x.s by
  by_cases h0:x.m=0
  ·rw[(a4 h0).1];rfl
  ·simp[h0]]at cm
 refine Con.of_w (rs:=[.cell 2 44]) Tryz.func49 rfl Tryz.ntmps49 rfl ?_
 simp(disch:=omega)only[go_sem]
 refine qs rfl [⟨0,[],[]⟩,⟨1,[],[]⟩,⟨2,[],[]⟩,⟨3,[2],[]⟩,⟨4,[2],[]⟩,⟨5,[2],[]⟩,⟨7,[2,5],[]⟩,⟨8,[2,5],[]⟩,⟨6,[8],[]⟩,⟨9,[],[]⟩,⟨10,[],[]⟩] (by kernel_rfl) ?_
 simp(disch:=omega)only[go_sem]
 refine qa (cm) ?_
 simp(disch:=omega)only[go_sem]
 exact qo
def aBN(x y:ExV):ExV:=if x.val 3000≤y.val 3000 then x else y
def aBG(x y:ExV):ExV:=if y.val 3000≤x.val 3000 then x else y
section
variable (l:List UInt8)(hl:l.length≤9223372036854775807)(i h:Int)(hi:0≤i∧i≤l.length)
include hl hi
end
end Go.Ab
namespace Go.Ab
open Go Go.Proofs
/-! ### Rounding down and up-/
def rnF(s:Bool)(a b:Nat)(low mode:Int):FlV:=⟨flK s mode (rq s a b mode) low,s,aAa s mode (rq s a b mode) low,aAb s mode (rq s a b mode) low⟩
def upQ(a b:Nat):Nat:=if a % b=0 then a/b else a/b+1
def isN(F:FlV):Bool:=decide (F.k=0)||decide (F.k=1)
def rqB(s:Bool)(a b:Nat)(low mode:Int):Prop:=rq s a b mode≠0∧1024<(bl (rq s a b mode):Int)+low
end Go.Ab
namespace Go.Ab
def stk(A B:Nat):Nat:=2*(A/B)+(if A % B=0 then 0 else 1)
theorem afB{A B j:Nat}(hB:0<B)(hj:1≤j):
  stk A B/2^(j+1)=A/(B*2^j)∧(stk A B % 2^(j+1)=0↔A % (B*2^j)=0)∧
   zF ((stk A B % 2^(j+1)*2:Nat):Int) ((2^(j+1):Nat):Int)=zF ((A % (B*2^j)*2:Nat):Int) ((B*2^j:Nat):Int):=by
 obtain⟨i,rfl⟩:∃i,j=i+1:=⟨j-1,by omega⟩
 have hm:A % B<B:=Nat.mod_lt _ hB
 have hp:0<2^i:=Nat.pow_pos (by omega)
 have e2:(2:Nat)^(i+1)=2*2^i:=Nat.pow_succ'
 have e3:(2:Nat)^(i+1+1)=2*(2*2^i):=by rw[Nat.pow_succ',e2]
 obtain⟨q,hq⟩:∃q,q=A/B:=⟨_,rfl⟩
 obtain⟨r,hr⟩:∃r,r=A % B:=⟨_,rfl⟩
 have d1:A/(B*2^(i+1))=q/(2*2^i):=by rw[e2,←Nat.div_div_eq_div_mul,←hq]
 have d2:A % (B*2^(i+1))=B*(q % (2*2^i))+r:=by
  rw[e2,Nat.mod_mul,←hq,←hr,Nat.add_comm]
 have s1:stk A B/2^(i+1+1)=q/(2*2^i):=by
  unfold stk
  rw[e3,←Nat.div_div_eq_div_mul,←hq]
  congr 1
  split<;>omega
 have s2:stk A B % 2^(i+1+1)=2*(q % (2*2^i))+(if r=0 then 0 else 1):=by
  unfold stk
  rw[e3,Nat.mod_mul,←hq,←hr]
  have h1:(2*q+(if r=0 then 0 else 1))/2=q:=by split<;>omega
  have h2:(2*q+(if r=0 then 0 else 1)) % 2=(if r=0 then 0 else 1):=by split<;>omega
  rw[h1,h2,Nat.add_comm]
 rw[d1,d2,s1,s2]
 have hu:q % (2*2^i)<2*2^i:=Nat.mod_lt _ (by omega)
 generalize q % (2*2^i)=u at*
 rw[←hr]at hm
 refine⟨rfl,?_,?_⟩
 ·rw[Nat.add_eq_zero_iff,Nat.add_eq_zero_iff,Nat.mul_eq_zero,Nat.mul_eq_zero]
  split<;>omega
 ·have key:∀x y X Y:Int,(X<Y↔x<y)→(Y<X↔y<x)→zF X Y=zF x y:=by
   intro x y X Y p q
   unfold zF
   by_cases h1:x<y
   ·rw[if_pos h1,if_pos (p.2 h1)]
   ·rw[if_neg h1,if_neg (fun h=>h1 (p.1 h))]
    by_cases h2:y<x
    ·rw[if_pos h2,if_pos (q.2 h2)]
    ·rw[if_neg h2,if_neg (fun h=>h2 (q.1 h))]
  rw[e2,e3]
  have hB2:B*(2*2^i)=2*(B*2^i):=by grind
  rw[hB2]
  generalize 2^i=h at*
  rcases Nat.lt_trichotomy u h with c|c|c
  ·have c1:B*u+B≤B*h:=by have:=Nat.mul_le_mul_left B (show u+1≤h from c);rw[Nat.mul_add,Nat.mul_one]at this;exact this
   generalize B*u=bu at*
   generalize B*h=bh at*
   refine key _ _ _ _ ?_ ?_<;>split<;>omega
  ·subst c
   generalize B*u=bu at*
   refine key _ _ _ _ ?_ ?_<;>split<;>omega
  ·have c1:B*h+B≤B*u:=by have:=Nat.mul_le_mul_left B (show h+1≤u from c);rw[Nat.mul_add,Nat.mul_one]at this;exact this
   generalize B*u=bu at*
   generalize B*h=bh at*
   refine key _ _ _ _ ?_ ?_<;>split<;>omega
theorem atD{s:Bool}{A B j:Nat}{mode:Int}(hB:0<B)(hj:1≤j):rq s (stk A B) (2^(j+1)) mode=rq s A (B*2^j) mode:=by
 obtain⟨h1,h2,h3⟩:=afB (A:=A) hB hj
 unfold rq
 rw[h1,h3]
 by_cases h:A % (B*2^j)=0
 ·rw[if_pos h,if_pos (h2.2 h)]
 ·rw[if_neg h,if_neg (fun g=>h (h2.1 g))]
end Go.Ab
namespace Go.Ab
def rtB(a:Nat):Nat→Nat
 |0=>0
 |n+1=>if(n+1)*(n+1)≤a then n+1 else rtB a n
def rt(a:Nat):Nat:=rtB a a
end Go.Ab
namespace Go.Ab
open Go Go.Proofs
end Go.Ab
namespace Go.Ab
open Go Go.Proofs
/-! ### A root,rounded-/
def stR(A S:Nat):Nat:=rt (A/S)*4+(if rt (A/S)*rt (A/S)*S=A then 0 else if A*4<(2*rt (A/S)+1)*(2*rt (A/S)+1)*S then 1 else if A*4=(2*rt (A/S)+1)*(2*rt (A/S)+1)*S then 2 else 3)
end Go.Ab
namespace Go.Ab
open Go Go.Proofs
def sqT(m:Nat)(e:Int):Int:=((bl m:Int)+e+1)/2
def sqL(m:Nat)(e:Int):Int:=J2 (sqT m e)
def sqA(m:Nat)(e low:Int):Nat:=stR (ovA m (e-2*low)) (2^(-(e-2*low)).toNat)
def sqV(k:Int)(s:Bool)(m e mode:Int):FlV:=
 if k=3∨k=0 then⟨k,s,m,e⟩else if s=true then⟨3,false,0,0⟩else if k=2 then⟨k,s,m,e⟩else
  ⟨flK false mode (rq false (sqA m.toNat e (sqL m.toNat e)) 4 mode) (sqL m.toNat e),false,aAa false mode (rq false (sqA m.toNat e (sqL m.toNat e)) 4 mode) (sqL m.toNat e),aAb false mode (rq false (sqA m.toNat e (sqL m.toNat e)) 4 mode) (sqL m.toNat e)⟩
def sqG(k:Int)(s:Bool)(m e mode:Int):Int:=
 if k=3∨k=0 then 0 else if s=true then 16 else if k=2 then 0 else
  aAT (sqT m.toNat e) (decide (sqA m.toNat e (sqL m.toNat e) % 4=0)) (rq false (sqA m.toNat e (sqL m.toNat e)) 4 mode) (sqL m.toNat e)
end Go.Ab
namespace Go.Ab
open Go Go.Proofs
def rtE(x:ExV)(low md:Int):ExV:=⟨false,rq false (sqA x.m x.e low) 4 md,low⟩
def aCi(n:Int):Bool:=decide (-3000≤n)&&decide (n≤3000)
end Go.Ab
namespace Go.Ab
open Go Go.Proofs
end Go.Ab
namespace Go.Ab
open Go Go.Proofs
def rkI:Bool→Nat
 |false=>0
 |true=>1
def rkH(x:ExV):Bool→List (Nat×Ob)
 |false=>[(3,.own 1 [.v (.slice none 0 0)])]
 |true=>[(3,.own 1 [.rf 5 0 1]),(5,.own 3 [.v (.bool x.s),.sl (lim x.m).length (qg (lim x.m)),.v (.int .i64 x.e)])]
def ex5:ExV:=⟨false,5,0⟩
end Go.Ab
namespace Go.Ab
open Go Go.Proofs
def aCj(M:List DyV):Prop:=M.length≤16∧∀d∈M,d.xs.length≤200
end Go.Ab
namespace Go.Ab
open Go Go.Proofs
theorem abt(k:Int)(M:List DyV)(h1:M.length≤16)(h2:∀d∈M,d.xs.length≤200):Con Tryz.prog 44 true [.ag [.v (.int .i64 k),.sl M.length (qk DyV.cs M)]] [] (isA (.v (.bool (Vy k M)))):=by
 unfold Vy
 refine Con.of_w (rs:=[.tmp 2]) Tryz.func44 rfl Tryz.ntmps44 rfl ?_
 simp(disch:=omega)only[go_sem]
 by_cases c1:k<1
 ·rw[decide_eq_false (show ¬1≤k by omega),Bool.false_and,Bool.false_and]
  simp(disch:=omega)only[go_sem,c1]
  exact qu
 by_cases c2:4<k
 ·rw[decide_eq_false (show ¬k≤4 by omega),Bool.and_false,Bool.false_and]
  simp(disch:=omega)only[go_sem,c1,c2]
  exact qu
 rw[decide_eq_true (show 1≤k by omega),decide_eq_true (show k≤4 by omega),Bool.true_and,Bool.true_and]
 have hq:0≤k*k∧k*k≤16:=⟨Int.mul_nonneg (by omega) (by omega),Int.mul_le_mul (show k≤4 by omega) (show k≤4 by omega) (by omega) (by omega)⟩
 by_cases c3:(M.length:Int)=k*k
 rotate_left
 ·rw[decide_eq_false c3,Bool.false_and]
  simp(disch:=omega)only[go_sem,c1,c2,decide_eq_false c3]
  exact qu
 rw[decide_eq_true c3,Bool.true_and]
 simp(disch:=omega)only[go_sem,c1,c2,decide_eq_true c3]
 refine qj (fun i:Nat=>[(1,.pt 1 0),(2,.v (.bool false)),(3,.v (.int .i64 i))]) (fun _=>[(1,.own 0 [.v (.int .i64 k),.sl M.length (qk DyV.cs M)])]) (fun i=>i≤M.length∧∀j,j<i→(M.getD j dy0).ok=true) (fun i=>M.length-i) 0 ⟨by omega,fun j hj=>by omega⟩
  (Le.lst [(1,30000000)] _ _ rfl (by simp(disch:=omega)only[go_sem]) (by simp(disch:=omega)only[go_sem])) ?_
 rintro i ⟨hi,hp⟩
 simp(disch:=omega)only[go_sem]
 refine qh (fun h3=>?_) (fun h3=>?_)
 ·have hcut:=Zs (l:=M) Xf (i:=i) (by omega) dy0
  have hmem:M.getD i dy0∈M:=by
   rw[List.getD_eq_getElem?_getD,List.getElem?_eq_getElem (by omega)];exact List.getElem_mem _
  have hx:=h2 _ hmem
  have cd:=Yr (M.getD i dy0).s (M.getD i dy0).xs (M.getD i dy0).e (by omega)
  rw[show dyB (M.getD i dy0).s (M.getD i dy0).xs (M.getD i dy0).e=(M.getD i dy0).ok from rfl]at cd
  have hall:(M.getD i dy0).ok=false→M.all DyV.ok=false:=fun h=>List.all_eq_false.2 ⟨_,hmem,by rw[h];simp⟩
  have hnext:(M.getD i dy0).ok=true→∀j,j<i+1→(M.getD j dy0).ok=true:=fun h j hj=>by
   rcases(by omega:j<i∨j=i)with h'|rfl
   ·exact hp j h'
   ·exact h
  generalize M.getD i dy0=d at*
  simp(disch:=omega)only[go_sem,h3,hcut,DyV.cs]
  refine⟨by omega,by omega,qm cd ?_⟩
  simp(disch:=omega)only[go_sem]
  cases hd:d.ok
  ·rw[hall hd]
   simp(disch:=omega)only[go_sem,hd]
   exact qu
  ·simp(disch:=omega)only[go_sem,hd]
   exact qe (i+1) [] ⟨by omega,hnext hd⟩ (by show M.length-(i+1)<M.length-i;omega) rfl (by simp(disch:=omega)only[go_sem];try omega) (by simp(disch:=omega)only[go_sem])
 ·simp(disch:=omega)only[go_sem,h3]
  have hall:M.all DyV.ok=true:=List.all_eq_true.2 fun d hd=>by
   obtain⟨j,hj,rfl⟩:=List.getElem_of_mem hd
   have:=hp j (by omega)
   rw[List.getD_eq_getElem?_getD,List.getElem?_eq_getElem hj]at this
   exact this
  rw[hall]
  exact qu
theorem aaI{n:Nat}:(gId n).length=n*n:=zj
end Go.Ab
namespace Go.Ab
open Go Go.Proofs
/-! ### Matrices that were told,or not-/
def optM(n N:Nat)(T:List ExV):Prop:=(N=n∧matV n T)∨(N=0∧T=[])
def aAJ(M:List DyV):Prop:=M.length≤16∧∀d∈M,d.xs.length≤200
theorem matV.lens{n:Nat}{L:List ExV}(h:matV n L):aAJ (L.map ExV.dyv):=⟨by rw[List.length_map];exact h.l16,fun d hd=>by
 obtain⟨x,hx,rfl⟩:=List.mem_map.1 hd
 have:=(Q2 (h.ok x hx)).2.2.1
 show(lim x.m).length≤200
 omega⟩
theorem optM.lens{n N:Nat}{T:List ExV}(h:optM n N T):aAJ (T.map ExV.dyv):=by
 rcases h with⟨-,h⟩|⟨-,rfl⟩
 ·exact h.lens
 ·exact⟨by simp,by simp⟩
theorem abr(n:Nat)(L:List ExV)(h:matV n L):Con Tryz.prog 44 true [.ag [.v (.int .i64 (n)),.sl (L).length (qk ExV.cs (L))]] [] (isA (.v (.bool true))):=by
 have c:=abt n (L.map ExV.dyv) h.lens.1 h.lens.2
 rw[Jm,List.length_map,show Vy (n:Int) (L.map ExV.dyv)=true by
  have:=agw (n:Int) L
  rw[show L.map ExV.dyv=L.map ExV.dy from rfl,this]
  unfold asM
  simp only[Bool.and_eq_true,decide_eq_true_eq,List.all_eq_true]
  exact⟨⟨by have:=h.n1;omega,by have:=h.n4;omega⟩,by rw[h.len,Int.natCast_mul],h.ok⟩]at c
 exact c
end Go.Ab
namespace Go.Ab
/-! ### Determinants of integers-/
def sgI(k:Nat):Int:=if k % 2=1 then-1 else 1
def skp(r i:Nat):Nat:=if i<r then i else i+1
def aeG(A:Nat→Nat→Int)(r c:Nat):Nat→Nat→Int:=fun i j=>A (skp r i) (skp c j)
def jD:Nat→(Nat→Nat→Int)→Int
 |0,_=>1
 |n+1,A=>qH (fun j=>sgI j*(A 0 j*jD n (aeG A 0 j))) (n+1)
theorem ai8(A:Nat→Nat→Int):jD 1 A=A 0 0:=by
 simp[jD,qH,sgI]
theorem aeK(A:Nat→Nat→Int):jD 2 A=A 0 0*A 1 1-A 0 1*A 1 0:=by
 simp[jD,qH,sgI,aeG,skp];omega
theorem aeJ(A:Nat→Nat→Int):jD 3 A=A 0 0*(A 1 1*A 2 2-A 1 2*A 2 1)-A 0 1*(A 1 0*A 2 2-A 1 2*A 2 0)+A 0 2*(A 1 0*A 2 1-A 1 1*A 2 0):=by
 rw[jD]
 simp only[aeK,qH,sgI,aeG,skp]
 simp
 omega
theorem anE(A:Nat→Nat→Int):jD 4 A=(A 0 0*A 1 1-A 0 1*A 1 0)*(A 2 2*A 3 3-A 2 3*A 3 2)-(A 0 0*A 1 2-A 0 2*A 1 0)*(A 2 1*A 3 3-A 2 3*A 3 1)
  +(A 0 0*A 1 3-A 0 3*A 1 0)*(A 2 1*A 3 2-A 2 2*A 3 1)+(A 0 1*A 1 2-A 0 2*A 1 1)*(A 2 0*A 3 3-A 2 3*A 3 0)
  -(A 0 1*A 1 3-A 0 3*A 1 1)*(A 2 0*A 3 2-A 2 2*A 3 0)+(A 0 2*A 1 3-A 0 3*A 1 2)*(A 2 0*A 3 1-A 2 1*A 3 0):=by
 rw[jD]
 simp only[aeJ,qH,sgI,aeG,skp]
 simp
 grind
end Go.Ab
namespace Go.Ab
theorem al4{n:Nat}(hn:n≤4)(A:Nat→Nat→Int):jD n (fun i j=>A j i)=jD n A:=by
 rcases(show n=0∨n=1∨n=2∨n=3∨n=4 by omega)with rfl|rfl|rfl|rfl|rfl
 ·rfl
 ·rw[ai8,ai8]
 ·rw[aeK,aeK];grind
 ·rw[aeJ,aeJ];grind
 ·rw[anE,anE];grind
theorem y7:∀{n:Nat} {A B:Nat→Nat→Int},(∀i j,i<n→j<n→A i j=B i j)→jD n A=jD n B
 |0,_,_,_=>rfl
 |n+1,A,B,h=>by
  rw[jD,jD]
  refine qN fun j hj=>?_
  rw[h 0 j (by omega) hj,y7 (n:=n) (A:=aeG A 0 j) (B:=aeG B 0 j) fun i k hi hk=>?_]
  unfold aeG skp
  exact h _ _ (by split<;>omega) (by split<;>omega)
def m2(A:Nat→Nat→Int)(r s c d:Nat):Int:=A r c*A s d-A r d*A s c
theorem Ko(A:Nat→Nat→Int):jD 4 A=m2 A 0 1 0 1*m2 A 2 3 2 3-m2 A 0 1 0 2*m2 A 2 3 1 3+m2 A 0 1 0 3*m2 A 2 3 1 2+m2 A 0 1 1 2*m2 A 2 3 0 3-m2 A 0 1 1 3*m2 A 2 3 0 2+m2 A 0 1 2 3*m2 A 2 3 0 1:=anE A
def yH(n:Nat)(A B:Nat→Nat→Int):Nat→Nat→Int:=fun i j=>qH (fun t=>A i t*B t j) n
theorem aAK(A B:Nat→Nat→Int)(i j:Nat):yH 4 A B i j=A i 0*B 0 j+A i 1*B 1 j+A i 2*B 2 j+A i 3*B 3 j:=by
 simp[yH,qH]
theorem aAL(A B:Nat→Nat→Int)(i j:Nat):yH 3 A B i j=A i 0*B 0 j+A i 1*B 1 j+A i 2*B 2 j:=by
 simp[yH,qH]
theorem aAM(A B:Nat→Nat→Int)(i j:Nat):yH 2 A B i j=A i 0*B 0 j+A i 1*B 1 j:=by
 simp[yH,qH]
theorem aAN(A B:Nat→Nat→Int)(i j:Nat):yH 1 A B i j=A i 0*B 0 j:=by
 simp[yH,qH]
theorem auS(A B:Nat→Nat→Int)(r s c d:Nat):m2 (yH 4 A B) r s c d=m2 A r s 0 1*m2 B 0 1 c d+m2 A r s 0 2*m2 B 0 2 c d+m2 A r s 0 3*m2 B 0 3 c d+m2 A r s 1 2*m2 B 1 2 c d+m2 A r s 1 3*m2 B 1 3 c d+m2 A r s 2 3*m2 B 2 3 c d:=by
 simp only[m2,aAK]
 grind
def q4(B:Nat→Nat→Int)(p q r s:Nat):Int:=m2 B p q 0 1*m2 B r s 2 3-m2 B p q 0 2*m2 B r s 1 3+m2 B p q 0 3*m2 B r s 1 2+m2 B p q 1 2*m2 B r s 0 3-m2 B p q 1 3*m2 B r s 0 2+m2 B p q 2 3*m2 B r s 0 1
theorem Q1(B:Nat→Nat→Int)(p q s:Nat):q4 B p q p s=0:=by unfold q4 m2;grind
theorem akt(B:Nat→Nat→Int)(p q r:Nat):q4 B p q r p=0:=by unfold q4 m2;grind
theorem aks(B:Nat→Nat→Int)(p q s:Nat):q4 B p q q s=0:=by unfold q4 m2;grind
theorem VR(B:Nat→Nat→Int)(p q r:Nat):q4 B p q r q=0:=by unfold q4 m2;grind
theorem aBu(B:Nat→Nat→Int):q4 B 0 1 2 3=jD 4 B:=(Ko B).symm
theorem aBt(B:Nat→Nat→Int):q4 B 0 2 1 3= -jD 4 B:=by rw[Ko];unfold q4 m2;grind
theorem aBs(B:Nat→Nat→Int):q4 B 0 3 1 2=jD 4 B:=by rw[Ko];unfold q4 m2;grind
theorem aBr(B:Nat→Nat→Int):q4 B 1 2 0 3=jD 4 B:=by rw[Ko];unfold q4 m2;grind
theorem aBq(B:Nat→Nat→Int):q4 B 1 3 0 2= -jD 4 B:=by rw[Ko];unfold q4 m2;grind
theorem aBp(B:Nat→Nat→Int):q4 B 2 3 0 1=jD 4 B:=by rw[Ko];unfold q4 m2;grind
theorem ahw(A B:Nat→Nat→Int):jD 4 (yH 4 A B)=m2 A 0 1 0 1*m2 A 2 3 0 1*q4 B 0 1 0 1+m2 A 0 1 0 1*m2 A 2 3 0 2*q4 B 0 1 0 2+m2 A 0 1 0 1*m2 A 2 3 0 3*q4 B 0 1 0 3+m2 A 0 1 0 1*m2 A 2 3 1 2*q4 B 0 1 1 2+m2 A 0 1 0 1*m2 A 2 3 1 3*q4 B 0 1 1 3+m2 A 0 1 0 1*m2 A 2 3 2 3*q4 B 0 1 2 3+m2 A 0 1 0 2*m2 A 2 3 0 1*q4 B 0 2 0 1+m2 A 0 1 0 2*m2 A 2 3 0 2*q4 B 0 2 0 2+m2 A 0 1 0 2*m2 A 2 3 0 3*q4 B 0 2 0 3+m2 A 0 1 0 2*m2 A 2 3 1 2*q4 B 0 2 1 2+m2 A 0 1 0 2*m2 A 2 3 1 3*q4 B 0 2 1 3+m2 A 0 1 0 2*m2 A 2 3 2 3*q4 B 0 2 2 3+m2 A 0 1 0 3*m2 A 2 3 0 1*q4 B 0 3 0 1+m2 A 0 1 0 3*m2 A 2 3 0 2*q4 B 0 3 0 2+m2 A 0 1 0 3*m2 A 2 3 0 3*q4 B 0 3 0 3+m2 A 0 1 0 3*m2 A 2 3 1 2*q4 B 0 3 1 2+m2 A 0 1 0 3*m2 A 2 3 1 3*q4 B 0 3 1 3+m2 A 0 1 0 3*m2 A 2 3 2 3*q4 B 0 3 2 3+m2 A 0 1 1 2*m2 A 2 3 0 1*q4 B 1 2 0 1+m2 A 0 1 1 2*m2 A 2 3 0 2*q4 B 1 2 0 2+m2 A 0 1 1 2*m2 A 2 3 0 3*q4 B 1 2 0 3+m2 A 0 1 1 2*m2 A 2 3 1 2*q4 B 1 2 1 2+m2 A 0 1 1 2*m2 A 2 3 1 3*q4 B 1 2 1 3+m2 A 0 1 1 2*m2 A 2 3 2 3*q4 B 1 2 2 3+m2 A 0 1 1 3*m2 A 2 3 0 1*q4 B 1 3 0 1+m2 A 0 1 1 3*m2 A 2 3 0 2*q4 B 1 3 0 2+m2 A 0 1 1 3*m2 A 2 3 0 3*q4 B 1 3 0 3+m2 A 0 1 1 3*m2 A 2 3 1 2*q4 B 1 3 1 2+m2 A 0 1 1 3*m2 A 2 3 1 3*q4 B 1 3 1 3+m2 A 0 1 1 3*m2 A 2 3 2 3*q4 B 1 3 2 3+m2 A 0 1 2 3*m2 A 2 3 0 1*q4 B 2 3 0 1+m2 A 0 1 2 3*m2 A 2 3 0 2*q4 B 2 3 0 2+m2 A 0 1 2 3*m2 A 2 3 0 3*q4 B 2 3 0 3+m2 A 0 1 2 3*m2 A 2 3 1 2*q4 B 2 3 1 2+m2 A 0 1 2 3*m2 A 2 3 1 3*q4 B 2 3 1 3+m2 A 0 1 2 3*m2 A 2 3 2 3*q4 B 2 3 2 3:=by
 rw[Ko]
 simp only[auS]
 simp only[q4]
 grind
theorem al6(A B:Nat→Nat→Int):jD 4 (yH 4 A B)=jD 4 A*jD 4 B:=by
 rw[ahw]
 rw[Q1 B 0 1 1,Q1 B 0 1 2,Q1 B 0 1 3,aks B 0 1 2,aks B 0 1 3,Q1 B 0 2 1,Q1 B 0 2 2,Q1 B 0 2 3,VR B 0 2 1,aks B 0 2 3,Q1 B 0 3 1,Q1 B 0 3 2,Q1 B 0 3 3,VR B 0 3 1,VR B 0 3 2,akt B 1 2 0,VR B 1 2 0,Q1 B 1 2 2,Q1 B 1 2 3,aks B 1 2 3,akt B 1 3 0,VR B 1 3 0,Q1 B 1 3 2,Q1 B 1 3 3,VR B 1 3 2,akt B 2 3 0,VR B 2 3 0,akt B 2 3 1,VR B 2 3 1,Q1 B 2 3 3]
 rw[aBu,aBt,aBs,aBr,aBq,aBp,Ko A]
 grind
theorem Ya{n:Nat}(hn:n≤4)(A B:Nat→Nat→Int):jD n (yH n A B)=jD n A*jD n B:=by
 rcases(show n=0∨n=1∨n=2∨n=3∨n=4 by omega)with rfl|rfl|rfl|rfl|rfl
 ·rfl
 ·rw[ai8,ai8,ai8,aAN]
 ·rw[aeK,aeK,aeK];simp only[aAM];grind
 ·rw[aeJ,aeJ,aeJ];simp only[aAL];grind
 ·exact al6 A B
end Go.Ab
namespace Go.Ab
def asT(n:Nat)(A:Nat→Nat→Int)(k j:Nat):Int:=sgI (k+j)*jD (n-1) (aeG A j k)
theorem asr{n:Nat}(hn:n≤4)(A:Nat→Nat→Int){i j:Nat}(hi:i<n)(hj:j<n):yH n A (asT n A) i j=if i=j then jD n A else 0:=by
 rcases(show n=1∨n=2∨n=3∨n=4 by omega)with rfl|rfl|rfl|rfl
 ·obtain rfl:i=0:=by omega
  obtain rfl:j=0:=by omega
  rw[aAN,ai8,if_pos rfl]
  simp[asT,sgI,jD]
 ·simp only[aAM,asT,aeK,show 2-1=1 from rfl,ai8]
  rcases(show i=0∨i=1 by omega)with rfl|rfl<;>rcases(show j=0∨j=1 by omega)with rfl|rfl<;>(simp[sgI,aeG,skp];try grind)
 ·simp only[aAL,asT,aeJ,show 3-1=2 from rfl,aeK]
  rcases(show i=0∨i=1∨i=2 by omega)with rfl|rfl|rfl<;>rcases(show j=0∨j=1∨j=2 by omega)with rfl|rfl|rfl<;>(simp[sgI,aeG,skp];try grind)
 ·simp only[aAK,asT,anE,show 4-1=3 from rfl,aeJ]
  rcases(show i=0∨i=1∨i=2∨i=3 by omega)with rfl|rfl|rfl|rfl<;>rcases(show j=0∨j=1∨j=2∨j=3 by omega)with rfl|rfl|rfl|rfl<;>(simp[sgI,aeG,skp];try grind)
end Go.Ab
namespace Go.Ab
open Go Go.Proofs
/-! ### What determinants are worth-/
end Go.Ab
namespace Go.Ab
open Go Go.Proofs
/-! ### Turned matrices-/
def aBR(n:Nat)(l:List ExV):List ExV:=gl n (fun i j=>l.getD (j*n+i) ex0) (n*n)
end Go.Ab
namespace Go.Ab
open Go Go.Proofs
/-! ### Adjugates and minors-/
def acM(n:Nat)(l:List ExV)(a b:Nat):ExV:=(zd (n-1) (mnR n l b a n)).sgn (b+a)
def y4(n:Nat)(l:List ExV):List ExV:=gl n (acM n l) (n*n)
theorem agp{n:Nat}{l:List ExV}{r c:Nat}(hr:r<n)(hc:c<n):(mnR n l r c n).length=(n-1)*(n-1):=by rw[yw hc,if_pos hr]
theorem auO{n:Nat}{l:List ExV}{lo hi:Int}{r c:Nat}(hl:l.length=n*n)(hb:gbd lo hi l):gbd lo hi (mnR n l r c n):=fun x hx=>hb x (jZ hl n (Nat.le_refl n) x hx)
theorem ah8(n:Nat)(l:List ExV)(a b:Nat)(hn:n≤4)(ha:a<n)(hb:b<n)(hl:l.length=n*n)(hd:gbd (-10000) 10000 l):
  Con Tryz.prog 259 false [.v (.int .i64 a),.v (.int .i64 b),.fp [.v (.int .i64 n),.sl l.length (qk ExV.cs l)] 0] [] (isA (.ag [.v (.bool (acM n l a b).s),.sl (lim (acM n l a b).m).length (qg (lim (acM n l a b).m)),.v (.int .i64 (acM n l a b).e)])):=by
 refine Con.frzA ?_
 have cm:=Kw n l b a (by omega) hl hb ha
 have cd:=abo (n-1) (mnR n l b a n) (by omega) (agp hb ha) (auO hl hd)
 rw[show((n:Int)-1)=((n-1:Nat):Int) by omega]at cm
 unfold acM
 generalize zd (n-1) (mnR n l b a n)=y at*
 generalize mnR n l b a n=M at*
 have cs:=Xi y (b+a) (by omega)
 rw[Int.natCast_add]at cs
 generalize y.sgn (b+a)=z at*
 refine Con.of_w (rs:=[.cell 5 97]) Tryz.func259 rfl Tryz.ntmps259 rfl ?_
 simp(disch:=omega)only[go_sem]
 refine qa (cm) ?_
 simp(disch:=omega)only[go_sem]
 refine qa (cd) ?_
 simp(disch:=omega)only[go_sem]
 refine qa (cs) ?_
 simp(disch:=omega)only[go_sem]
 exact qo
theorem aml(n:Nat)(l:List ExV)(hn:n≤4)(hl:l.length=n*n)(hd:gbd (-10000) 10000 l):Con Tryz.prog 195 false [.ag [.v (.int .i64 (n)),.sl (l).length (qk ExV.cs (l))]] [] (isA (.ag [.v (.int .i64 (n)),.sl (y4 n l).length (qk ExV.cs (y4 n l))])):=by
 refine Con.frzA ?_
 have c:=zL n 259 [.fp [.v (.int .i64 n),.sl l.length (qk ExV.cs l)] 0] (acM n l) hn (fun i j hi hj=>ah8 n l i j hn hi hj hl hd) (by simp(disch:=omega)only[go_sem]) (fun h=>rfl) (fun h=>rfl) (fun ks=>by simp(disch:=omega)only[go_sem]) (fun ρ=>rfl)
 change Con _ _ _ _ _ (isA (.ag [.v (.int .i64 (n)),.sl (y4 n l).length (qk ExV.cs (y4 n l))]))at c
 refine Con.of_aw Tryz.func195 rfl Tryz.ntmps195 (by simp) (by simp) (by simp) (AW.seqLe (E:=[(1,.fp [.v (.int .i64 n),.sl l.length (qk ExV.cs l)] 0),(2,.pt 0 0)]) (H:=[(0,.own 0 [.v (.int .i64 0),.v (.slice none 0 0)])]) (W.sound ?_) (W.sound ?_))
 ·show @W Tryz.prog 7 ⟨_⟩ ⟨_⟩ _ _
  simp(disch:=omega)only[go_sem]
  exact(Le.frz 30000000 (z:=0) (ks:=[.v (.int .i64 n),.sl l.length (qk ExV.cs l)]) (by simp(disch:=omega)only[go_sem]) rfl (by simp(disch:=omega)only[go_sem])).trans (Le.lst [(0,40000000)] _ _ rfl (by simp(disch:=omega)only[go_sem]) (by simp(disch:=omega)only[go_sem]))
 show @W Tryz.prog 7 ⟨_⟩ ⟨fun x σ=>@q8 _ _ _ ⟨_⟩ _ ⟨_⟩ x σ⟩ _ _
 simp(disch:=omega)only[go_sem]
 refine qa (c) ?_
 simp(disch:=omega)only[go_sem]
 exact qo
theorem aqM{n:Nat}{l:List ExV}(h4:n≤4)(hl:l.length=n*n)(hd:gbd (-10000) 10000 l):gbd (-30000) 30013 (y4 n l):=
 X5 fun i j hi hj=>ExV.sgn_bd ((j9 (n-1) (by omega) (agp hj hi) (auO hl hd)).mono (by omega) (by omega))
end Go.Ab
namespace Go.Ab
open Go Go.Proofs
section
variable (l:List UInt8)(hl:l.length≤9223372036854775807)(i h:Int)(hi:0≤i∧i≤l.length)
include hl hi
def aBM(r:AV):Prop:=∃L:List DyV,L.length≤101∧(∀d∈L,d.xs.length≤200)∧r=.sl L.length (qk DyV.cs L)
end
end Go.Ab
namespace Go.Ab
open Go Go.Proofs
/-! ### Polynomials of a matrix-/
def aAI(n:Nat)(L:List ExV):Nat→List ExV
 |0=>gId n
 |k+1=>qO n (aAI n L k) L
def aBj(n:Nat)(L p:List ExV):Nat→List ExV
 |0=>zp n (gId n) ex0
 |k+1=>jx n (aBj n L p k) (zp n (aAI n L k) (p.getD k ex0))
theorem QN{n:Nat}{l:List ExV}{y:ExV}{a b c d:Int}(hl:l.length=n*n)(h:gbd a b l)(hy:y.bd c d):gbd (a+c) (b+d) (zp n l y):=
 X5 fun i j hi hj=>ExV.times_bd (qF h (by rw[hl];exact q7 hi hj)) hy
theorem agZ{n:Nat}:gbd 0 1 (gId n):=fun x hx=>by
 unfold gId gl at hx
 obtain⟨t,ht,rfl⟩:=List.mem_map.1 hx
 unfold idF;split<;>decide+kernel
end Go.Ab
namespace Go.Ab
def idI(i j:Nat):Int:=if i=j then 1 else 0
def ayV(n:Nat)(A:Nat→Nat→Int):Nat→Nat→Nat→Int
 |0=>idI
 |k+1=>yH n (ayV n A k) A
def pm3(A:Nat→Nat→Int)(r:Nat):Int:=jD 3 (aeG A r r)
end Go.Ab
namespace Go.Ab
/-! ### Ranks-/
theorem JB{f:Nat→Int}{k:Nat}:∀{m:Nat},k≤m→(∀i,k≤i→f i=0)→qH f m=qH f k
 |0,h,_=>by
  obtain rfl:k=0:=by omega
  rfl
 |m+1,h,hz=>by
  by_cases e:k=m+1
  ·rw[e]
  ·rw[qH,JB (by omega) hz,hz m (by omega),Int.add_zero]
def adf(n k:Nat)(A:Nat→Nat→Int):Prop:=∃(c:Int) (B C:Nat→Nat→Int),c≠0∧∀i j,i<n→j<n→c*A i j=qH (fun t=>B i t*C t j) k
theorem Zn{n k:Nat}{A A':Nat→Nat→Int}(h:∀i j,i<n→j<n→A i j=A' i j):adf n k A→adf n k A'
 |⟨c,B,C,h0,h1⟩=>⟨c,B,C,h0,fun i j hi hj=>by rw[←h i j hi hj];exact h1 i j hi hj⟩
theorem VE{n k:Nat}{A:Nat→Nat→Int}:adf n k A→adf n k (fun i j=>A j i)
 |⟨c,B,C,h0,h1⟩=>⟨c,fun i t=>C t i,fun t j=>B j t,h0,fun i j hi hj=>by
  rw[h1 j i hj hi];exact qN fun t _=>Int.mul_comm _ _⟩
theorem Xw(n k:Nat)(f:Nat→Int)(g:Nat→Nat→Int)(h:Nat→Int):qH (fun s=>qH (fun t=>f t*g t s) k*h s) n=qH (fun t=>f t*qH (fun s=>g t s*h s) n) k:=by
 have e1:qH (fun s=>qH (fun t=>f t*g t s) k*h s) n=qH (fun s=>qH (fun t=>f t*(g t s*h s)) k) n:=
  qN fun s _=>by rw[←YU];exact qN fun t _=>Int.mul_assoc _ _ _
 have e2:qH (fun t=>f t*qH (fun s=>g t s*h s) n) k=qH (fun t=>qH (fun s=>f t*(g t s*h s)) n) k:=
  qN fun t _=>by rw[←Qh]
 rw[e1,e2,YV]
theorem afv{n k:Nat}{A:Nat→Nat→Int}(D:Nat→Nat→Int):adf n k A→adf n k (yH n A D)
 |⟨c,B,C,h0,h1⟩=>⟨c,B,yH n C D,h0,fun i j hi hj=>by
  show c*qH (fun t=>A i t*D t j) n=qH (fun t=>B i t*qH (fun s=>C t s*D s j) n) k
  rw[←Xw,←Qh]
  exact qN fun s hs=>by rw[←h1 i s hi hs,Int.mul_assoc]⟩
theorem VF{n k:Nat}{A:Nat→Nat→Int}(D:Nat→Nat→Int):adf n k A→adf n k (yH n D A)
 |⟨c,B,C,h0,h1⟩=>⟨c,yH n D B,C,h0,fun i j hi hj=>by
  show c*qH (fun t=>D i t*A t j) n=qH (fun t=>qH (fun s=>D i s*B s t) n*C t j) k
  rw[Xw,←Qh]
  exact qN fun s hs=>by rw[←h1 s j hs hj,Int.mul_left_comm]⟩
def dgI(c:Int)(i j:Nat):Int:=if i=j then c else 0
theorem auL{n:Nat}(c:Int)(A:Nat→Nat→Int){i j:Nat}(hi:i<n):yH n (dgI c) A i j=c*A i j:=by
 unfold yH
 rw[jM (j:=i) hi (fun t _ hne=>by unfold dgI;rw[if_neg (fun h=>hne h.symm),Int.zero_mul])]
 unfold dgI;rw[if_pos rfl]
theorem axB{n:Nat}(hn:n≤4){c:Int}(hc:c≠0):jD n (dgI c)≠0:=by
 rcases(show n=0∨n=1∨n=2∨n=3∨n=4 by omega)with rfl|rfl|rfl|rfl|rfl
 ·intro h;cases h
 ·rw[ai8];simp[dgI,hc]
 ·rw[aeK];simp[dgI,hc]
 ·rw[aeJ];simp[dgI,hc]
 ·rw[anE];simp[dgI,hc]
theorem al5{n:Nat}(hn:n≤4)(h1:1≤n){A:Nat→Nat→Int}(h:∀i,A i (n-1)=0):jD n A=0:=by
 rcases(show n=1∨n=2∨n=3∨n=4 by omega)with rfl|rfl|rfl|rfl
 ·have:=h 0
  rw[ai8];simpa using this
 ·have h:∀i,A i 1=0:=h
  rw[aeK];simp[h]
 ·have h:∀i,A i 2=0:=h
  rw[aeJ];simp[h]
 ·have h:∀i,A i 3=0:=h
  rw[anE];simp[h]
theorem ajW{n k:Nat}(hn:n≤4)(hk:k<n){A:Nat→Nat→Int}:adf n k A→jD n A=0
 |⟨c,B,C,h0,h1⟩=>by
  have e:jD n (yH n (dgI c) A)=jD n (yH n (fun i t=>if t<k then B i t else 0) C):=y7 fun i j hi hj=>by
   rw[auL c A hi,h1 i j hi hj]
   show _=qH (fun t=>(if t<k then B i t else 0)*C t j) n
   rw[JB (f:=fun t=>(if t<k then B i t else 0)*C t j) (k:=k) (by omega) (fun t ht=>by rw[if_neg (by omega),Int.zero_mul])]
   exact qN fun t ht=>by rw[if_pos ht]
  rw[Ya hn,Ya hn,al5 hn (by omega) (A:=fun i t=>if t<k then B i t else 0) (fun i=>if_neg (by omega)),Int.zero_mul]at e
  exact(Int.mul_eq_zero.1 e).resolve_left (axB hn h0)
theorem aht{r:Nat}(hr:r≤4){T:Nat→Nat→Int}(hd:∀t,t<r→T t t≠0)(hz:∀s t,t<s→s<r→T s t=0):jD r T≠0:=by
 rcases(show r=0∨r=1∨r=2∨r=3∨r=4 by omega)with rfl|rfl|rfl|rfl|rfl
 ·intro h;cases h
 ·rw[ai8];exact hd 0 (by omega)
 ·rw[aeK,hz 1 0 (by omega) (by omega)]
  simp[hd 0 (by omega),hd 1 (by omega)]
 ·rw[aeJ,hz 1 0 (by omega) (by omega),hz 2 0 (by omega) (by omega),hz 2 1 (by omega) (by omega)]
  simp[hd 0 (by omega),hd 1 (by omega),hd 2 (by omega)]
 ·rw[anE,hz 1 0 (by omega) (by omega),hz 2 0 (by omega) (by omega),hz 2 1 (by omega) (by omega),hz 3 0 (by omega) (by omega),hz 3 1 (by omega) (by omega),hz 3 2 (by omega) (by omega)]
  simp[hd 0 (by omega),hd 1 (by omega),hd 2 (by omega),hd 3 (by omega)]
structure isRank(n:Nat)(A:Nat→Nat→Int)(r:Nat):Prop where
 le:r≤n
 up:adf n r A
 low:∀k,adf n k A→r≤k
 full:r=n→jD n A≠0
theorem isRank.turn{n r s:Nat}{A:Nat→Nat→Int}(h:isRank n A r)(g:isRank n (fun i j=>A j i) s):s=r:=
 Nat.le_antisymm (g.low r (VE h.up)) (h.low s (VE g.up))
theorem isRank.congr{n r:Nat}{A B:Nat→Nat→Int}(h:isRank n A r)(e:∀i j,i<n→j<n→A i j=B i j):isRank n B r:=
 ⟨h.le,Zn e h.up,fun k hk=>h.low k (Zn (fun i j hi hj=>(e i j hi hj).symm) hk),fun hr=>by rw[←y7 e];exact h.full hr⟩
theorem isRank.mul{n r s t:Nat}{A B:Nat→Nat→Int}(h:isRank n A r)(g:isRank n B s)(p:isRank n (yH n A B) t):t≤r∧t≤s:=
 ⟨p.low r (afv B h.up),p.low s (VF A g.up)⟩
structure elim(n:Nat)(A C:Nat→Nat→Int)(r j:Nat):Prop where
 le:r≤n
 rj:r≤j
 u:∃U:Nat→Nat→Int,jD n U≠0∧∀i k,i<n→k<n→C i k=yH n U A i k
 p:∃p:Nat→Nat,∀t,t<r→p t<j∧p t<n∧C t (p t)≠0∧∀s,t<s→s<n→C s (p t)=0
 z:∀i k,r≤i→i<n→k<j→k<n→C i k=0
theorem Y8(n:Nat)(A B C:Nat→Nat→Int)(i j:Nat):yH n (yH n A B) C i j=yH n A (yH n B C) i j:=
 Xw n n (fun t=>A i t) B (fun s=>C s j)
theorem elim.rank{n:Nat}(hn:n≤4){A C:Nat→Nat→Int}{r:Nat}(h:elim n A C r n):isRank n A r:=by
 obtain⟨hle, -,⟨U,hU,hC⟩,⟨p,hp⟩,hz⟩:=h
 have lowC:∀k,adf n k C→r≤k:=fun k hk=>by
  rcases Nat.lt_or_ge k r with g|g
  ·exfalso
   obtain⟨c,B,D,h0,h1⟩:=hk
   have ht:adf r k (fun s t=>C s (p t)):=⟨c,B,fun u t=>D u (p t),h0,fun s t hs ht=>h1 s (p t) (by omega) (hp t ht).2.1⟩
   exact aht (by omega) (fun t ht=>(hp t ht).2.2.1) (fun s t hst hs=>(hp t (by omega)).2.2.2 s hst (by omega)) (ajW (by omega) g ht)
  ·exact g
 refine⟨hle,?_,fun k hk=>lowC k (Zn (fun i j hi hj=>(hC i j hi hj).symm) (VF U hk)),fun hr hd=>?_⟩
 ·
  obtain⟨V,hV⟩:∃V:Nat→Nat→Int,∀i j,i<n→j<n→yH n V U i j=if i=j then jD n U else 0:=by
   refine⟨fun i j=>asT n (fun a b=>U b a) j i,fun i j hi hj=>?_⟩
   have:=asr hn (fun a b=>U b a) hj hi
   rw[al4 hn]at this
   have e2:(if i=j then jD n U else 0)=if j=i then jD n U else 0:=by
    by_cases e:i=j
    ·rw[if_pos e,if_pos e.symm]
    ·rw[if_neg e,if_neg (fun h=>e h.symm)]
   rw[e2,←this]
   exact qN fun t _=>Int.mul_comm _ _
  refine⟨jD n U,V,C,hU,fun i j hi hj=>?_⟩
  have e1:qH (fun t=>V i t*C t j) r=qH (fun t=>V i t*C t j) n:=by
   have:qH (fun t=>V i t*C t j) n=qH (fun t=>if t<r then V i t*C t j else 0) n:=qN fun t ht=>by
    by_cases g:t<r
    ·rw[if_pos g]
    ·rw[if_neg g,hz t j (by omega) ht hj hj,Int.mul_zero]
   rw[this,JB hle (fun t ht=>if_neg (by omega))]
   exact qN fun t ht=>by rw[if_pos ht]
  rw[e1]
  have e2:qH (fun t=>V i t*C t j) n=yH n (yH n V U) A i j:=by
   rw[Y8]
   exact qN fun t ht=>by rw[hC t j ht hj]
  rw[e2]
  show _=qH (fun t=>yH n V U i t*A t j) n
  rw[jM (j:=i) hi (fun t ht hne=>by rw[hV i t hi ht,if_neg (fun h=>hne h.symm),Int.zero_mul]),hV i i hi hi,if_pos rfl]
 ·subst hr
  have h1:jD r C=0:=by
   rw[y7 hC,Ya hn,hd,Int.mul_zero]
  have h2:jD r (yH r C (fun u t=>if u=p t then 1 else 0))=0:=by rw[Ya hn,h1,Int.zero_mul]
  refine aht hn (T:=fun s t=>C s (p t)) (fun t ht=>(hp t ht).2.2.1) (fun s t hst hs=>(hp t (by omega)).2.2.2 s hst (by omega)) ?_
  rw[←h2]
  refine y7 fun i j hi hj=>?_
  show C i (p j)=qH (fun u=>C i u*(if u=p j then 1 else 0)) r
  rw[jM (j:=p j) (hp j hj).2.1 (fun t _ hne=>by rw[if_neg hne,Int.mul_zero]),if_pos rfl,Int.mul_one]
theorem elim.skip{n:Nat}{A C:Nat→Nat→Int}{r j:Nat}(h:elim n A C r j)(hz:∀i,r≤i→i<n→C i j=0):elim n A C r (j+1):=by
 obtain⟨h1,h2,h3,⟨p,hp⟩,h5⟩:=h
 refine⟨h1,by omega,h3,⟨p,fun t ht=>⟨by have:=(hp t ht).1;omega,(hp t ht).2⟩⟩,fun i k hi hin hk hkn=>?_⟩
 rcases(show k<j∨k=j by omega)with g|rfl
 ·exact h5 i k hi hin g hkn
 ·exact hz i hi hin
def swI(a b i:Nat):Nat:=if i=a then b else if i=b then a else i
theorem ahu{n:Nat}(hn:n≤4){a r:Nat}(ha:a<n)(hr:r<n)(hne:a≠r)(p q:Int)(hp:p≠0):jD n (fun i j=>if i=a then(if j=a then p else if j=r then-q else 0)else if i=j then 1 else 0)≠0:=by
 rcases(show n=1∨n=2∨n=3∨n=4 by omega)with rfl|rfl|rfl|rfl
 ·omega
 ·rw[aeK]
  rcases(show a=0∨a=1 by omega)with rfl|rfl<;>rcases(show r=0∨r=1 by omega)with rfl|rfl<;>first|omega|simp[hp]
 ·rw[aeJ]
  rcases(show a=0∨a=1∨a=2 by omega)with rfl|rfl|rfl<;>rcases(show r=0∨r=1∨r=2 by omega)with rfl|rfl|rfl<;>first|omega|simp[hp]
 ·rw[anE]
  rcases(show a=0∨a=1∨a=2∨a=3 by omega)with rfl|rfl|rfl|rfl<;>rcases(show r=0∨r=1∨r=2∨r=3 by omega)with rfl|rfl|rfl|rfl<;>first|omega|simp[hp]
structure elimR(n:Nat)(A C:Nat→Nat→Int)(r j m:Nat):Prop where
 rn:r<n
 rj:r≤j
 jn:j<n
 rm:r<m
 u:∃U:Nat→Nat→Int,jD n U≠0∧∀i k,i<n→k<n→C i k=yH n U A i k
 p:∃p:Nat→Nat,∀t,t<r→p t<j∧p t<n∧C t (p t)≠0∧∀s,t<s→s<n→C s (p t)=0
 z:∀i k,r≤i→i<n→k<j→k<n→C i k=0
 pv:C r j≠0
 zm:∀i,r<i→i<m→i<n→C i j=0
theorem elim.pivot{n:Nat}{A C:Nat→Nat→Int}{r j:Nat}(h:elim n A C r j)(hr:r<n)(hj:j<n)(hp:C r j≠0):elimR n A C r j (r+1):=
 ⟨hr,h.rj,hj,by omega,h.u,h.p,h.z,hp,fun i h1 h2=>by omega⟩
theorem elimR.done{n:Nat}{A C:Nat→Nat→Int}{r j m:Nat}(h:elimR n A C r j m)(hm:n≤m):elim n A C (r+1) (j+1):=by
 obtain⟨h1,h2,h3,h4,h5,⟨p,hp⟩,h7,h8,h9⟩:=h
 refine⟨by omega,by omega,h5,⟨fun t=>if t=r then j else p t,fun t ht=>?_⟩,fun i k hi hin hk hkn=>?_⟩
 ·dsimp only
  by_cases e:t=r
  ·rw[if_pos e,e]
   exact⟨by omega,h3,h8,fun s hs hsn=>h9 s hs (by omega) hsn⟩
  ·rw[if_neg e]
   obtain⟨a,b,c,d⟩:=hp t (by omega)
   exact⟨by omega,b,c,d⟩
 ·rcases(show k<j∨k=j by omega)with g|rfl
  ·exact h7 i k (by omega) hin g hkn
  ·exact h9 i (by omega) (by omega) hin
theorem elimR.step{n:Nat}(hn:n≤4){A C C':Nat→Nat→Int}{r j m:Nat}(h:elimR n A C r j m)(hm:m<n)(h1:∀i k,i<n→k<n→i≠m→C' i k=C i k)(h2:∀k,k<n→C' m k=C m k*C r j-C r k*C m j):elimR n A C' r j (m+1):=by
 obtain⟨g1,g2,g3,g4,⟨U,hU,hC⟩,⟨p,hp⟩,g7,g8,g9⟩:=h
 refine⟨g1,g2,g3,by omega,⟨yH n (fun i k=>if i=m then(if k=m then C r j else if k=r then-C m j else 0)else if i=k then 1 else 0) U,?_,fun i k hi hk=>?_⟩,⟨p,fun t ht=>?_⟩,fun i k hi hin hk hkn=>?_,?_,fun i hi him hin=>?_⟩
 ·rw[Ya hn]
  intro e
  rcases Int.mul_eq_zero.1 e with e|e
  ·exact ahu hn hm g1 (by omega) (C r j) (C m j) g8 e
  ·exact hU e
 ·rw[Y8]
  show C' i k=qH (fun t=>(if i=m then(if t=m then C r j else if t=r then-C m j else 0)else if i=t then 1 else 0)*yH n U A t k) n
  by_cases e:i=m
  ·subst e
   have e2:qH (fun t=>(if i=i then(if t=i then C r j else if t=r then-C i j else 0)else if i=t then 1 else 0)*yH n U A t k) n=qH (fun t=>(if t=i then C r j*C i k else 0)+(if t=r then-C i j*C r k else 0)) n:=qN fun t ht=>by
    rw[if_pos rfl,←hC t k ht hk]
    by_cases a:t=i
    ·rw[if_pos a,if_pos a,if_neg (show ¬t=r by omega),a,Int.add_zero]
    ·rw[if_neg a,if_neg a]
     by_cases b:t=r
     ·rw[if_pos b,if_pos b,b,Int.zero_add]
     ·rw[if_neg b,if_neg b,Int.zero_mul,Int.add_zero]
   rw[e2,JC,jM (j:=i) hi (fun t _ hne=>if_neg hne),jM (j:=r) g1 (fun t _ hne=>if_neg hne),if_pos rfl,if_pos rfl,h2 k hk,Int.mul_comm (C i k),Int.neg_mul,Int.mul_comm (C r k)]
   omega
  ·rw[jM (j:=i) hi (fun t _ hne=>by rw[if_neg e,if_neg (fun h=>hne h.symm),Int.zero_mul]),if_neg e,if_pos rfl,Int.one_mul,h1 i k hi hk e]
   exact hC i k hi hk
 ·obtain⟨a,b,c,d⟩:=hp t ht
  refine⟨a,b,?_,fun s hts hsn=>?_⟩
  ·rw[h1 t (p t) (by omega) b (by omega)];exact c
  ·by_cases e:s=m
   ·rw[e,h2 _ b,d m (by omega) hm,d r (by omega) g1];simp
   ·rw[h1 s _ hsn b e];exact d s hts hsn
 ·by_cases e:i=m
  ·rw[e,h2 k hkn,g7 m k (by omega) hm hk hkn,g7 r k (by omega) g1 hk hkn];simp
  ·rw[h1 i k hin hkn e];exact g7 i k hi hin hk hkn
 ·rw[h1 r j g1 g3 (by omega)];exact g8
 ·by_cases e:i=m
  ·rw[e,h2 j g3,Int.mul_comm];omega
  ·rw[h1 i j hin g3 e];exact g9 i hi (by omega) hin
end Go.Ab
namespace Go.Ab
/-! ### Sums of powers of a matrix,at one scale-/
def p2(k:Nat):Int:=2^k
theorem auq(a b:Nat):p2 (a+b)=p2 a*p2 b:=Int.pow_add 2 a b
def aCa(n:Nat)(P:Nat→Int)(A:Nat→Nat→Int)(m i j:Nat):Int:=qH (fun t=>P t*ayV n A t i j*p2 (40000-3000*(t+1))) m
end Go.Ab
namespace Go.Ab
open Go Go.Proofs
/-! ### What polynomials of a matrix are worth-/
end Go.Ab
namespace Go.Ab
open Go Go.Proofs
/-! ### What rounded quotients are worth-/
end Go.Ab
namespace Go.Ab
end Go.Ab
namespace Go.Ab
open Go Go.Proofs
/-! ### Rational points of intervals-/
def SpV.eK(K:Nat)(s:SpV):Prop:= -(K:Int)≤s.lo.e∧ -(K:Int)≤s.hi.e
def inS(K:Nat)(s:SpV)(N D:Int):Prop:=s.lo.val K*D≤N∧N≤s.hi.val K*D
theorem aj7{s:SpV}(h:s.ok=true):s.eK 3000∧s.lo.val 3000≤s.hi.val 3000∧s.lo.ok=true∧s.hi.ok=true:=by
 have h:(s.lo.ok&&(s.hi.ok&&decide (s.lo.val 3000≤s.hi.val 3000)))=true:=h
 simp only[Bool.and_eq_true,decide_eq_true_eq]at h
 exact⟨⟨(Q2 h.1).1.1,(Q2 h.2.1).1.1⟩,h.2.2,h.1,h.2.1⟩
end Go.Ab
namespace Go.Ab
open Go Go.Proofs
/-! ### Matrices of intervals-/
structure imatV(n:Nat)(S:List SpV):Prop where
 n1:1≤n
 n4:n≤4
 len:S.length=n*n
 ok:∀s∈S,s.ok=true
theorem imatV.l16{n:Nat}{S:List SpV}(h:imatV n S):S.length≤16:=by rw[h.len];exact jq h.n4
theorem imatV.bd{n:Nat}{S:List SpV}(h:imatV n S):sbd (-3000) 4600 S:=fun s hs=>ao5 (h.ok s hs)
def aAP(k:Int)(M:List IvV):Bool:=(decide (1≤k)&&decide (k≤4))&&(decide ((M.length:Int)=k*k)&&M.all ivB)
def fN(n:Nat)(l:List SpV):Nat:=if l.all SpV.fit=true then n else 0
def fT(l:List SpV):List SpV:=if l.all SpV.fit=true then l.map SpV.can else []
def aCC(k:Int)(M:List IvV)(k':Int)(M':List IvV):Bool:=aAP k M&&(aAP k' M'&&decide (k=k'))
def aCq(S:List SpV)(L:List ExV)(k:Nat):Bool:=(List.range k).all fun i=>aBk (S.getD i sp0) (L.getD i ex0)
end Go.Ab
namespace Go.Ab
open Go Go.Proofs
/-! ### Drawn matrices of intervals-/
def aCh(r:AV):Prop:=∃(n:Int) (l:List IvV),l.length≤16∧(∀v∈l,aAO v)∧r=.ag [.v (.int .i64 n),.sl l.length (qk IvV.cs l)]
section
variable (l:List UInt8)(hl:l.length≤9223372036854775807)(i h:Int)(hi:0≤i∧i≤l.length)
include hl hi
end
def aCk(M:List IvV):Prop:=M.length≤16∧∀v∈M,aAO v
end Go.Ab
namespace Go.Ab
open Go Go.Proofs
end Go.Ab
namespace Go.Ab
open Go Go.Proofs
def aAV:ExV:=⟨false,5,1⟩
def aCo:SpV:=⟨aAV,aAV⟩
end Go.Ab
namespace Go.Ab
open Go Go.Proofs
/-! ### Points of matrices of intervals-/
def inM(K:Nat)(S:List SpV)(L:List ExV)(k:Nat):Prop:=∀i,i<k→inS K (S.getD i sp0) ((L.getD i ex0).val K) 1
theorem ats{l:List SpV}{i:Nat}(h:i<l.length):l.getD i sp0∈l:=by
 rw[List.getD_eq_getElem?_getD,List.getElem?_eq_getElem h];exact List.getElem_mem _
theorem imatV.eK{n K:Nat}{S:List SpV}(h:imatV n S)(hK:3000≤K){i:Nat}(hi:i<n*n):(S.getD i sp0).eK K:=by
 have:=(aj7 (h.ok _ (ats (by rw[h.len];exact hi)))).1
 exact⟨by have:=this.1;omega,by have:=this.2;omega⟩
end Go.Ab
namespace Go.Ab
open Go Go.Proofs
/-! ### Widened,rounded and divided matrices of intervals-/
end Go.Ab
namespace Go.Ab
open Go Go.Proofs
def aBL(s t:SpV):Bool:=decide ((agv s t).lo.val 3000≤(agv s t).hi.val 3000)
def dgO(n:Nat)(y:ExV):Nat→List (Option ExV)
 |0=>List.replicate (n*n) none
 |k+1=>(dgO n y k).set (k*n+k) (some y)
theorem aaR{n k:Nat}{y:ExV}:(dgO n y k).length=n*n:=by
 induction k with
 |zero=>simp[dgO]
 |succ k ih=>simp[dgO,ih]
def dgE(n:Nat)(y:ExV):List ExV:=(dgO n y n).map fun o=>o.getD ex0
end Go.Ab
namespace Go.Ab
open Go Go.Proofs
def aAZ(s:SpV):ExV:=s.hi.plus s.lo.neg
end Go.Ab
namespace Go.Ab
open Go Go.Proofs
def ex3:ExV:=⟨false,3,0⟩
end Go.Ab
namespace Go.Ab
open Go Go.Proofs
/-! ### What is held of the exponential of any matrix-/
def hvN(y:ExV):Nat:=if y.m=0 then 0 else(y.top+1).toNat
def gSt(n:Nat)(b:List SpV)(w:Int):Nat→List SpV×List SpV
 |0=>((gId n).map ptS,(gId n).map ptS)
 |i+1=>(axo (gSt n b w i).1 ((Kj n (gSt n b w i).2 b).map fun s=>s.divd (i+1) w),(Kj n (gSt n b w i).2 b).map fun s=>s.divd (i+1) w)
def gSq(n:Nat)(w:Int)(F:List SpV):Nat→List SpV
 |0=>F
 |k+1=>(Kj n (gSq n w F k) (gSq n w F k)).map fun s=>s.out w
def gFt(n:Nat)(b:List SpV)(B:Nat):List SpV:=(gSt n b (-(B:Int)) (tmF B)).1.map fun s=>s.fat (ex1.shift (-(B:Int)))
def gB(n:Nat)(L:List ExV)(s:Nat):List SpV:=(zp n L (ex1.shift (-(s:Int)))).map ptS
def ay8(n:Nat)(L:List ExV)(s B:Nat)(low:Int):List SpV:=(gSq n (-(B:Int)) (gFt n (gB n L s) B) s).map fun s=>s.out (low-4)
end Go.Ab
namespace Go.Ab
/-! ### How far a rounded inverse is off-/
end Go.Ab
namespace Go.Ab
/-! ### Sums of the exponential's row,in whole numbers-/
def ab(x:Int):Int:=(x.natAbs:Int)
structure smallI(n:Nat)(N:Nat→Nat→Int)(c:Int):Prop where
 pos:0<c
 le:2*nrm N n≤c
def fr:Nat→Nat→Int
 |0,_=>1
 |T+1,t=>if t≤T then fr T t*((T:Int)+1)else 1
def eE(n:Nat)(N:Nat→Nat→Int)(c:Int)(T i j:Nat):Int:=qH (fun t=>fr T t*c^(T-t)*ayV n N t i j) (T+1)
def eD(c:Int)(T:Nat):Int:=fr T 0*c^T
end Go.Ab
namespace Go.Ab
/-! ### Products of sums of the exponential's row-/
def cv(u v:Nat→Int)(k:Nat):Int:=qH (fun i=>u i*v (k-i)) (k+1)
end Go.Ab
namespace Go.Ab
/-! ### Squares,and what is aBA a multiple of one-/
def trI(n:Nat)(A:Nat→Nat→Int)(i j:Nat):Int:=if i<n∧j<n then A i j else 0
def sqI(n:Nat):Nat→(Nat→Nat→Int)→Nat→Nat→Int
 |0,M=>M
 |k+1,M=>yH n (sqI n k M) (sqI n k M)
def sqD:Nat→Int→Int
 |0,d=>d
 |k+1,d=>sqD k d*sqD k d
def aBA(n:Nat)(M:Nat→Nat→Int)(D p q:Int):Prop:=∀u v,u<n→v<n→ab (M u v-D*idI u v)*q≤D*p
end Go.Ab
namespace Go.Ab
open Go Go.Proofs
/-! ### Rational points of matrices of intervals-/
def inR(K:Nat)(s:SpV)(N D:Int):Prop:=inS K s (N*p2 K) D
theorem SpV.eK.up{K K':Nat}{s:SpV}(hs:s.eK K)(h:K≤K'):s.eK K':=by
 obtain⟨a,b⟩:=hs
 exact⟨by omega,by omega⟩
def rtM(n:Nat)(S:List SpV)(M:Nat→Nat→Int)(D:Int):Prop:=∃K:Nat,(∀i,i<n*n→(S.getD i sp0).eK K)∧∀i j,i<n→j<n→inR K (S.getD (i*n+j) sp0) (M i j) D
end Go.Ab
namespace Go.Ab
open Go Go.Proofs
/-! ### What is held has all long sums of the exponential's row-/
end Go.Ab
namespace Go.Ab
open Go Go.Proofs
/-! ### What is held is always told:how great its ends are-/
def spA(K:Nat)(s:SpV)(q:Int):Prop:=s.eK K∧ab (s.lo.val K)≤q∧ab (s.hi.val K)≤q
def mgA(n K:Nat)(S:List SpV)(q:Int):Prop:=∀i,i<n*n→spA K (S.getD i sp0) q
def mK(B:Nat):Nat→Int
 |0=>p2 B
 |k+1=>mK B k/2+1
def sK(B:Nat):Nat→Int
 |0=>p2 B
 |k+1=>sK B k+mK B (k+1)
def lK:Nat→Nat
 |0=>3
 |k+1=>2*lK k+2
end Go.Ab
namespace Go.Ab
open Go Go.Proofs
def aiJ(n:Nat)(L:List ExV)(low:Int):Bool:=(decide (-120≤low)&&decide (low≤0))&&decide ((zx n L n).cmp (exN 64)≤0)
theorem Qb(n:Nat)(L:List ExV)(low:Int)(h:matV n L):Con Tryz.prog 51 true [.ag [.v (.int .i64 (n)),.sl (L).length (qk ExV.cs (L))],.v (.int .i64 low)] [] (isA (.v (.bool (aiJ n L low)))):=by
 have cw:=zw low (-120) 0
 have cm:=aeq n L h
 have cg:=Yf n L (by have:=h.l16;omega)
 have cn:=acw n L h.n4 h.len (qq h.bd (by omega) (by omega))
 have bN:=Qk h.len h.bd (by omega) n (Nat.le_refl n)
 have h4:=h.n4
 have cc:=acB (zx n L n) (exN 64) (bN.mono (by omega) (by omega)) ((anA (by decide)).mono (by omega) (by omega))
 unfold aiJ
 generalize zx n L n=y at*
 cases hw:(decide (-120≤low)&&decide (low≤0))
 ·rw[hw]at cw
  refine Con.of_w (rs:=[.tmp 4]) Tryz.func51 rfl Tryz.ntmps51 rfl ?_
  simp(disch:=omega)only[go_sem]
  refine qm (cm) ?_
  simp(disch:=omega)only[go_sem]
  refine qm (cw) ?_
  simp(disch:=omega)only[go_sem]
  exact qu
 ·rw[hw]at cw
  rw[Bool.true_and]
  generalize y.cmp (exN 64)=C at*
  have e64:exN 64=⟨false,64,0⟩:=rfl
  rw[e64]at cc
  refine Con.of_w (rs:=[.tmp 4]) Tryz.func51 rfl Tryz.ntmps51 rfl ?_
  simp(disch:=omega)only[go_sem]
  refine qm (cm) ?_
  simp(disch:=omega)only[go_sem]
  refine qm (cw) ?_
  simp(disch:=omega)only[go_sem]
  refine qa (cg) ?_
  simp(disch:=omega)only[go_sem]
  refine qa (cn) ?_
  simp(disch:=omega)only[go_sem]
  refine qa (jH 64 (by omega)) ?_
  simp(disch:=omega)only[go_sem]
  refine qm (cc) ?_
  simp(disch:=omega)only[go_sem]
  exact qu
end Go.Ab
namespace Go.Ab
open Go Go.Proofs
/-! ### The exponential of a matrix that may be asked for-/
def exS(n:Nat)(L:List ExV):Nat:=hvN (zx n L n)
def ayv(n:Nat)(L:List ExV)(low:Int):Nat:=(12+2*(exS n L:Int)-low).toNat
def exH(n:Nat)(L:List ExV)(low:Int):List SpV:=ay8 n L (exS n L) (ayv n L low) low
structure askF(n:Nat)(L:List ExV)(low:Int):Prop where
 lo: -120≤low∧low≤0
 s8:exS n L≤8
 B:12≤ayv n L low∧ayv n L low≤148
 w:low-2*(exS n L:Int)-12= -(ayv n L low:Int)
 bd:sbd (-3100) 0 (gB n L (exS n L))
 small:smallI n (fun i j=>mv 3000 L n i j) (p2 (3000+exS n L))
theorem aAS{n s:Nat}{L:List ExV}:gB n L s=(zp n L (ex1.shift (-(s:Int)))).map ptS:=rfl
def exT(n:Nat)(L:List ExV)(low:Int):List SpV:=(exH n L low).map SpV.can
end Go.Ab
namespace Go.Ab
open Go Go.Proofs
/-! ### Numbers told in rows of their own-/
def ivO(u v:ExV):AV→List Ob→List Ob→Prop:=fun r hs bs=>((lim u.m)=[]∧(lim v.m)=[]∧r=.tu [.ag [.v (.bool u.s),.v (.slice none 0 0),.v (.int .i64 u.e),.v (.bool v.s),.v (.slice none 0 0),.v (.int .i64 v.e)],.v (.bool true)]∧hs=[])∨((lim u.m)=[]∧r=.tu [.ag [.v (.bool u.s),.v (.slice none 0 0),.v (.int .i64 u.e),.v (.bool v.s),.rf 0 0 (lim v.m).length,.v (.int .i64 v.e)],.v (.bool true)]∧hs=[.own 1 (qg (lim v.m))])∨((lim v.m)=[]∧r=.tu [.ag [.v (.bool u.s),.rf 0 0 (lim u.m).length,.v (.int .i64 u.e),.v (.bool v.s),.v (.slice none 0 0),.v (.int .i64 v.e)],.v (.bool true)]∧hs=[.own 1 (qg (lim u.m))])∨(r=.tu [.ag [.v (.bool u.s),.rf 0 0 (lim u.m).length,.v (.int .i64 u.e),.v (.bool v.s),.rf 1 0 (lim v.m).length,.v (.int .i64 v.e)],.v (.bool true)]∧hs=[.own 1 (qg (lim u.m)),.own 1 (qg (lim v.m))])
end Go.Ab
namespace Go.Ab
open Go Go.Proofs
/-! ### The specification's matrices:everything in its one form-/
theorem Z7{K:Nat}{x y:ExV}(hx: -(K:Int)≤x.e)(hy: -(K:Int)≤y.e)(h:x.val K=y.val K):x.can=y.can:=by
 obtain⟨g1,g2,g3⟩:=arA hx hy h
 show(⟨oS x.s x.m,oM x.m,oE x.m x.e⟩:ExV)=⟨oS y.s y.m,oM y.m,oE y.m y.e⟩
 rw[g1,g2,g3]
theorem ju{K:Nat}{x:ExV}(h: -(K:Int)≤x.e): -(K:Int)≤x.can.e:=aAj h (by omega)
theorem ab0{K:Nat}{x y:ExV}(hx: -(K:Int)≤x.e)(hy: -(K:Int)≤y.e):(x.can.plus y.can).can=(x.plus y).can:=
 Z7 (JM (ju hx) (ju hy)) (JM hx hy) (by rw[yu (ju hx) (ju hy),yu hx hy,jz hx,jz hy])
theorem abA(x:ExV):x.can.can=x.can:=by
 obtain⟨K,hK⟩:∃K:Nat, -(K:Int)≤x.e:=⟨(-x.e).toNat,by omega⟩
 exact Z7 (ju hK) hK (jz hK)
theorem zM{lo hi:Int}{x:ExV}(h:x.bd lo hi)(h1:lo≤0)(h2:0≤hi):x.can.bd lo hi:=by
 obtain⟨a,b,c⟩:=h
 by_cases h0:x.m=0
 ·have e:x.can=ex0:=by
   show(⟨oS x.s x.m,oM x.m,oE x.m x.e⟩:ExV)=_
   rw[h0,jQ];rfl
  rw[e];exact acp h1 h2
 ·have t:=Qf h0
  have e3:x.can.e=x.e+tz x.m:=by show oE x.m x.e=_;unfold oE;rw[if_neg h0]
  have e4:x.can.m*2^tz x.m=x.m:=ZZ
  have hz:x.can.m≠0:=fun e=>by rw[e,Nat.zero_mul]at e4;exact h0 e4.symm
  have e5:bl x.m=bl x.can.m+tz x.m:=by
   have:=ZT (n:=x.can.m) hz (tz x.m)
   rw[e4]at this;exact this
  exact⟨fun h=>absurd h hz,by omega,by omega⟩
theorem yJ{n:Nat}{g:Nat→Nat→ExV}{F:ExV→ExV}{k:Nat}:(gl n g k).map F=gl n (fun i j=>F (g i j)) k:=by
 unfold gl;rw[List.map_map];rfl
theorem ZO(x y:ExV)(hx:x.bd (-400000) 400000)(hy:y.bd (-400000) 400000):Con Tryz.prog 182 false [.ag [.v (.bool (x).s),.sl (lim (x).m).length (qg (lim (x).m)),.v (.int .i64 (x).e)],.ag [.v (.bool (y).s),.sl (lim (y).m).length (qg (lim (y).m)),.v (.int .i64 (y).e)]] [] (isA (.ag [.v (.bool ((x.times y).can).s),.sl (lim ((x.times y).can).m).length (qg (lim ((x.times y).can).m)),.v (.int .i64 ((x.times y).can).e)])):=by
 obtain⟨z1,a1,a2⟩:=hx
 obtain⟨z2,b1,b2⟩:=hy
 exact ahV x.s x.m x.e y.s y.m y.e (by omega) (by omega) (by omega) (by omega)
theorem Yv(k:Int)(M:List DyV)(h1:M.length≤16)(h2:∀d∈M,d.xs.length≤2^39):Con Tryz.prog 44 true [.ag [.v (.int .i64 k),.sl M.length (qk DyV.cs M)]] [] (isA (.v (.bool (Vy k M)))):=by
 unfold Vy
 refine Con.of_w (rs:=[.tmp 2]) Tryz.func44 rfl Tryz.ntmps44 rfl ?_
 simp(disch:=omega)only[go_sem]
 by_cases c1:k<1
 ·rw[decide_eq_false (show ¬1≤k by omega),Bool.false_and,Bool.false_and]
  simp(disch:=omega)only[go_sem,c1]
  exact qu
 by_cases c2:4<k
 ·rw[decide_eq_false (show ¬k≤4 by omega),Bool.and_false,Bool.false_and]
  simp(disch:=omega)only[go_sem,c1,c2]
  exact qu
 rw[decide_eq_true (show 1≤k by omega),decide_eq_true (show k≤4 by omega),Bool.true_and,Bool.true_and]
 have hq:0≤k*k∧k*k≤16:=⟨Int.mul_nonneg (by omega) (by omega),Int.mul_le_mul (show k≤4 by omega) (show k≤4 by omega) (by omega) (by omega)⟩
 by_cases c3:(M.length:Int)=k*k
 rotate_left
 ·rw[decide_eq_false c3,Bool.false_and]
  simp(disch:=omega)only[go_sem,c1,c2,decide_eq_false c3]
  exact qu
 rw[decide_eq_true c3,Bool.true_and]
 simp(disch:=omega)only[go_sem,c1,c2,decide_eq_true c3]
 refine qj (fun i:Nat=>[(1,.pt 1 0),(2,.v (.bool false)),(3,.v (.int .i64 i))]) (fun _=>[(1,.own 0 [.v (.int .i64 k),.sl M.length (qk DyV.cs M)])]) (fun i=>i≤M.length∧∀j,j<i→(M.getD j dy0).ok=true) (fun i=>M.length-i) 0 ⟨by omega,fun j hj=>by omega⟩
  (Le.lst [(1,30000000)] _ _ rfl (by simp(disch:=omega)only[go_sem]) (by simp(disch:=omega)only[go_sem])) ?_
 rintro i ⟨hi,hp⟩
 simp(disch:=omega)only[go_sem]
 refine qh (fun h3=>?_) (fun h3=>?_)
 ·have hcut:=Zs (l:=M) Xf (i:=i) (by omega) dy0
  have hmem:M.getD i dy0∈M:=by
   rw[List.getD_eq_getElem?_getD,List.getElem?_eq_getElem (by omega)];exact List.getElem_mem _
  have hx:=h2 _ hmem
  have cd:=Yr (M.getD i dy0).s (M.getD i dy0).xs (M.getD i dy0).e (by omega)
  rw[show dyB (M.getD i dy0).s (M.getD i dy0).xs (M.getD i dy0).e=(M.getD i dy0).ok from rfl]at cd
  have hall:(M.getD i dy0).ok=false→M.all DyV.ok=false:=fun h=>List.all_eq_false.2 ⟨_,hmem,by rw[h];simp⟩
  have hnext:(M.getD i dy0).ok=true→∀j,j<i+1→(M.getD j dy0).ok=true:=fun h j hj=>by
   rcases(by omega:j<i∨j=i)with h'|rfl
   ·exact hp j h'
   ·exact h
  generalize M.getD i dy0=d at*
  simp(disch:=omega)only[go_sem,h3,hcut,DyV.cs]
  refine⟨by omega,by omega,qm cd ?_⟩
  simp(disch:=omega)only[go_sem]
  cases hd:d.ok
  ·rw[hall hd]
   simp(disch:=omega)only[go_sem,hd]
   exact qu
  ·simp(disch:=omega)only[go_sem,hd]
   exact qe (i+1) [] ⟨by omega,hnext hd⟩ (by show M.length-(i+1)<M.length-i;omega) rfl (by simp(disch:=omega)only[go_sem];try omega) (by simp(disch:=omega)only[go_sem])
 ·simp(disch:=omega)only[go_sem,h3]
  have hall:M.all DyV.ok=true:=List.all_eq_true.2 fun d hd=>by
   obtain⟨j,hj,rfl⟩:=List.getElem_of_mem hd
   have:=hp j (by omega)
   rw[List.getD_eq_getElem?_getD,List.getElem?_eq_getElem hj]at this
   exact this
  rw[hall]
  exact qu
def gcT(n:Nat)(l l':List ExV)(k:Nat):List ExV:=gl n (fun i j=>(ZF n l l' i j n).can) k
set_option maxRecDepth 100000 in
theorem KB(n:Nat)(l l':List ExV)(hn:n≤4)(hl:l.length=n*n)(hl':l'.length=n*n)(hb:gbd (-190000) 190000 l)(hb':gbd (-190000) 190000 l'):Con Tryz.prog 101 false [.ag [.v (.int .i64 (n)),.sl (l).length (qk ExV.cs (l))],.ag [.v (.int .i64 (n)),.sl (l').length (qk ExV.cs (l'))]] [] (isA (.ag [.v (.int .i64 (n)),.sl ((qO n l l').map ExV.can).length (qk ExV.cs ((qO n l l').map ExV.can))])):=by
 refine Con.frzA ?_
 have hq:=jq hn
 have hres:(qO n l l').map ExV.can=gcT n l l' (n*n):=yJ
 rw[hres]
 refine Con.of_aw Tryz.func101 rfl Tryz.ntmps101 (by simp) (by simp) (by simp) (W.sound ?_)
 show @W Tryz.prog 61 ⟨_⟩ ⟨fun x σ=>@q8 _ _ _ ⟨_⟩ _ ⟨_⟩ x σ⟩ _ _
 simp(disch:=omega)only[go_sem]
 refine qz (jS n hn) (by simp(disch:=omega)only[go_sem]) ?_
 rintro r hs ⟨rfl,rfl⟩
 refine⟨by simp[qB];simp(disch:=omega)only[go_sem],?_⟩
 simp(disch:=omega)only[go_sem]
 refine qj (fun i:Nat=>[(2,.pt 2 0),(3,.pt 3 0),(4,.pt 4 0),(5,.v (.int .i64 n)),(6,.pt 5 0),(7,.v (.int .i64 i))])
  (fun i=>[(1,.own 3 (qk ExV.cs (gcT n l l' (i*n))++zA (n*n-i*n) z3)),(2,.own 0 [.v (.int .i64 n),.sl l.length (qk ExV.cs l)]),(3,.own 0 [.v (.int .i64 n),.sl l'.length (qk ExV.cs l')]),(4,.own 0 [.v (.int .i64 0),.v (.slice none 0 0)]),(5,.own 0 [.v (.int .i64 n),.rf 1 0 (n*n)])]) (fun i=>i≤n) (fun i=>n-i) 0 (by omega)
  (Le.lst [(1,160000000),(2,40000000),(3,50000000),(4,60000000),(5,80000000)] _ _ rfl (by simp(disch:=omega)only[go_sem]) (by simp(disch:=omega)only[go_sem,Nat.zero_mul,Nat.sub_zero,show gcT n l l' 0=[] from rfl,j8,List.nil_append])) ?_
 intro i hi
 simp(disch:=omega)only[go_sem]
 refine qh (fun h1=>?_) (fun h1=>?_)
 ·simp(disch:=omega)only[go_sem,h1]
  have hin:i*n≤16:=Nat.mul_le_mul (show i≤4 by omega) hn
  refine qj (fun j:Nat=>[(2,.pt 2 0),(3,.pt 3 0),(4,.pt 4 0),(5,.v (.int .i64 n)),(6,.pt 5 0),(7,.v (.int .i64 i)),(8,.v (.int .i64 j))])
   (fun j=>[(1,.own 3 (qk ExV.cs (gcT n l l' (i*n+j))++zA (n*n-(i*n+j)) z3)),(2,.own 0 [.v (.int .i64 n),.sl l.length (qk ExV.cs l)]),(3,.own 0 [.v (.int .i64 n),.sl l'.length (qk ExV.cs l')]),(4,.own 0 [.v (.int .i64 0),.v (.slice none 0 0)]),(5,.own 0 [.v (.int .i64 n),.rf 1 0 (n*n)])]) (fun j=>j≤n) (fun j=>n-j) 0 (by omega)
   (Le.lst [] _ _ rfl (by simp(disch:=omega)only[go_sem]) (by simp(disch:=omega)only[go_sem,Nat.add_zero])) ?_
  intro j hj
  simp(disch:=omega)only[go_sem]
  refine qh (fun h2=>?_) (fun h2=>?_)
  ·have hij:=q7 (show i<n by omega) (show j<n by omega)
   obtain⟨k0,hk0⟩:∃k0,n*n-(i*n+j)=k0+1:=⟨n*n-(i*n+j)-1,by omega⟩
   have hk1:n*n-(i*n+(j+1))=k0:=by omega
   have hs:gcT n l l' (i*n+(j+1))=gcT n l l' (i*n+j)++[(ZF n l l' i j n).can]:=by
    have:=@agX n (fun i j=>(ZF n l l' i j n).can) (i*n+j)
    have m:=ab8 (n:=n) (i:=i) (j:=j) (by omega)
    rw[m.1,m.2]at this
    exact this
   have hAl:(gcT n l l' (i*n+j)).length=i*n+j:=zj
   have eidx:(i:Int)*(n:Int)+(j:Int)=((gcT n l l' (i*n+j)).length:Int):=by rw[hAl,Int.natCast_add,Int.natCast_mul]
   rw[hk0]
   generalize hA:gcT n l l' (i*n+j)=A at*
   simp(disch:=omega)only[go_sem,h2]
   refine qj (fun k:Nat=>[(2,.pt 2 0),(3,.pt 3 0),(4,.pt 4 0),(5,.v (.int .i64 n)),(6,.pt 5 0),(7,.v (.int .i64 i)),(8,.v (.int .i64 j)),(9,.pt 6 0),(10,.v (.int .i64 k))])
    (fun k=>[(1,.own 3 (qk ExV.cs A++zA (k0+1) z3)),(2,.own 0 [.v (.int .i64 n),.sl l.length (qk ExV.cs l)]),(3,.own 0 [.v (.int .i64 n),.sl l'.length (qk ExV.cs l')]),(4,.own 0 [.v (.int .i64 0),.v (.slice none 0 0)]),(5,.own 0 [.v (.int .i64 n),.rf 1 0 (n*n)]),
     (6,.own 0 [.v (.bool (ZF n l l' i j k).can.s),.sl (lim (ZF n l l' i j k).can.m).length (qg (lim (ZF n l l' i j k).can.m)),.v (.int .i64 (ZF n l l' i j k).can.e)])])
    (fun k=>k≤n) (fun k=>n-k) 0 (by omega)
    ((Le.nilC 110000000 1 (zo:=0) (cs:=[.v (.bool false),.v (.slice none 0 0),.v (.int .i64 0)]) (by simp(disch:=omega)only[go_sem]) rfl).trans (Le.lst [(6,110000000)] _ _ rfl (by simp(disch:=omega)only[go_sem]) (by simp(disch:=omega)only[go_sem,List.set_cons_succ,List.set_cons_zero,show(ZF n l l' i j 0).can=ex0 from VZ ahk,ex0,qt]))) ?_
   intro k hk
   have hD:=J9 (k:=k) (show i<n by omega) (show j<n by omega) hk hl hl' hb hb' (by omega)
   have hsd:=Zc n l l' i j k
   generalize hDD:ZF n l l' i j k=D at*
   simp(disch:=omega)only[go_sem]
   refine qh (fun h3=>?_) (fun h3=>?_)
   ·have hx:=q7 (show i<n by omega) (show k<n by omega)
    have hx':=q7 (show k<n by omega) (show j<n by omega)
    have e1:(i:Int)*(n:Int)+(k:Int)=((i*n+k:Nat):Int):=by rw[Int.natCast_add,Int.natCast_mul]
    have e2:(k:Int)*(n:Int)+(j:Int)=((k*n+j:Nat):Int):=by rw[Int.natCast_add,Int.natCast_mul]
    have hkn:k*n≤16:=Nat.mul_le_mul (show k≤4 by omega) hn
    have hp1:(i:Int)*(n:Int)≤16∧0≤(i:Int)*(n:Int):=by rw[←Int.natCast_mul];omega
    have hp2:(k:Int)*(n:Int)≤16∧0≤(k:Int)*(n:Int):=by rw[←Int.natCast_mul];omega
    have g1:=zJ (l:=l) (i:=i*n+k) (by omega)
    have g2:=zJ (l:=l') (i:=k*n+j) (by omega)
    have b1:=qF hb (show i*n+k<l.length by omega)
    have b2:=qF hb' (show k*n+j<l'.length by omega)
    have l1:i*n+k<l.length:=by omega
    have l2:k*n+j<l'.length:=by omega
    generalize l.getD (i*n+k) ex0=x at*
    generalize l'.getD (k*n+j) ex0=y at*
    generalize i*n+k=p at*
    generalize k*n+j=q at*
    have bt:=ExV.times_bd b1 b2
    have c1:=ZO x y (b1.mono (by omega) (by omega)) (b2.mono (by omega) (by omega))
    have c2:=Qt D.can (x.times y).can (zM (hD.mono (show(-400000:Int)≤_ by omega) (show _≤(400000:Int) by omega)) (by omega) (by omega)) (zM (bt.mono (by omega) (by omega)) (by omega) (by omega))
    rw[ab0 (K:=400000) (by have:=hD.2.1;omega) (by have:=bt.2.1;omega),←hsd]at c2
    simp(disch:=omega)only[go_sem,h3]
    refine qs rfl [⟨0,[],[]⟩,⟨1,[0],[]⟩,⟨2,[0],[]⟩,⟨3,[0,2],[]⟩,⟨4,[0,2],[]⟩,⟨5,[0,2],[]⟩,⟨6,[0,2],[]⟩,⟨7,[0,2],[]⟩,⟨8,[0],[]⟩,⟨9,[0],[]⟩,⟨10,[0,2,9],[]⟩,⟨11,[0,2,9],[]⟩,⟨12,[0,2,9,11],[]⟩,⟨13,[0,2,9,11],[]⟩,⟨14,[0,2,9,11],[]⟩,⟨15,[0,2,9,11],[]⟩,⟨16,[0,2,9,11],[]⟩,⟨17,[0,2,9],[]⟩,⟨18,[0,2,9],[]⟩,⟨19,[0],[]⟩,⟨20,[],[]⟩,⟨21,[],[]⟩] (by kernel_rfl) ?_
    simp(disch:=omega)only[go_sem,e1,e2,g1,g2]
    refine⟨by omega,by omega,by omega,by omega,?_⟩
    refine qa (c1) ?_
    simp(disch:=omega)only[go_sem]
    refine qa (c2) ?_
    simp(disch:=omega)only[go_sem]
    exact qe (k+1) [] (by show k+1≤_;omega) (by show n-(k+1)<n-k;omega) rfl (by simp(disch:=omega)only[go_sem];try omega) (by simp(disch:=omega)only[go_sem])
   ·obtain rfl:n=k:=by omega
    rw[hDD]at hs
    generalize D.can=E at*
    have hp1:(i:Int)*(n:Int)≤16∧0≤(i:Int)*(n:Int):=by rw[←Int.natCast_mul];omega
    have hA2:(A.length:Int)=(i:Int)*(n:Int)+(j:Int):=eidx.symm
    simp(disch:=omega)only[go_sem,h3,eidx]
    rw[Qs]
    refine⟨by omega,by rw[List.length_append,y5,ZV];omega,qe (j+1) [] (by show j+1≤_;omega) (by show n-(j+1)<n-j;omega) rfl (by simp(disch:=omega)only[go_sem];try omega) (by simp(disch:=omega)only[go_sem,hk1,hs])⟩
  ·simp(disch:=omega)only[go_sem,h2]
   obtain rfl:n=j:=by omega
   exact qe (i+1) [] (by show i+1≤_;omega) (by show n-(i+1)<n-i;omega) rfl (by simp(disch:=omega)only[go_sem,Nat.add_mul,Nat.one_mul];try omega) (by simp(disch:=omega)only[go_sem,Nat.add_mul,Nat.one_mul])
 ·simp(disch:=omega)only[go_sem,h1]
  obtain rfl:n=i:=by omega
  have hll:(gcT n l l' (n*n)).length=n*n:=zj
  rw[hll]
  refine ql [(0,1)] [.own 3 (qk ExV.cs (gcT n l l' (n*n)))] [] [.ag [.v (.int .i64 n),.rf 0 0 (n*n)]] rfl (by simp(disch:=omega)only[go_sem]) (by simp(disch:=omega)only[go_sem,Nat.sub_self,YT,List.append_nil]) (by simp) (by simp) ?_
  show qE _ 6 _=_
  simp(disch:=omega)only[go_sem,zg,zv hll]
end Go.Ab
namespace Go.Ab
open Go Go.Proofs
set_option maxRecDepth 100000 in
theorem ahR(n:Int)(l:List ExV)(hl:l.length≤1000)(hok:∀x∈l,x.ok=true):Con Tryz.prog 32 false [.ag [.v (.int .i64 n),.sl l.length (qk ExV.cs l)]] [] (isA (.ag [.v (.int .i64 n),.sl l.length (qk ExV.cs l)])):=by
 refine Con.frzA ?_
 refine Con.of_aw Tryz.func32 rfl Tryz.ntmps32 (by simp) (by simp) (by simp) (W.sound ?_)
 show @W Tryz.prog 27 ⟨_⟩ ⟨fun x σ=>@q8 _ _ _ ⟨_⟩ _ ⟨_⟩ x σ⟩ _ _
 simp(disch:=omega)only[go_sem]
 refine qj (fun i:Nat=>[(1,.pt 2 0),(2,.pt 3 0),(3,.pt 0 0),(4,.v (.int .i64 i))])
  (fun i=>[(0,.own 0 [.v (.int .i64 n),.rf 1 0 i]),(1,.own 3 (qk ExV.cs (mpT l (id) i))),(2,.own 0 [.v (.int .i64 n),.sl l.length (qk ExV.cs l)]),(3,.own 0 [.v (.int .i64 0),.v (.slice none 0 0)])]) (fun i=>i≤l.length) (fun i=>l.length-i) 0 (by omega)
  ((Le.ghostC 50000000 1 1 3 (zo:=0) (cs:=[.v (.int .i64 n),.v (.slice none 0 0)]) (by simp(disch:=omega)only[go_sem]) rfl (by simp(disch:=omega)only[go_sem])).trans (Le.lst [(0,50000000),(2,30000000),(3,40000000)] _ _ rfl (by simp(disch:=omega)only[go_sem]) (by simp(disch:=omega)only[go_sem,XP,j8,List.set_cons_succ,List.set_cons_zero]))) ?_
 intro i hi
 simp(disch:=omega)only[go_sem]
 refine qh (fun h1=>?_) (fun h1=>?_)
 ·have hi2:i<l.length:=by omega
  have hci:=zJ hi2
  have hcut:=zv (jY (F:=id) hi)
  have hml:=jY (F:=id) hi
  have hs:=Q4 (F:=id) ex0 hi2
  have hx:=hok (l.getD i ex0) (by rw[List.getD_eq_getElem?_getD,List.getElem?_eq_getElem hi2];exact List.getElem_mem _)
  generalize l.getD i ex0=x at*
  simp(disch:=omega)only[go_sem,h1]
  refine qs rfl [⟨0,[],[]⟩,⟨1,[],[]⟩,⟨2,[1],[]⟩,⟨3,[1],[]⟩,⟨4,[1,3],[]⟩,⟨5,[1],[]⟩,⟨6,[1],[]⟩,⟨7,[1],[]⟩,⟨8,[1],[]⟩,⟨9,[],[]⟩,⟨10,[],[]⟩,⟨11,[],[]⟩] (by kernel_rfl) ?_
  simp(disch:=omega)only[go_sem,hci]
  refine⟨by omega,by omega,?_⟩
  refine qa (KC x hx) ?_
  simp(disch:=omega)only[go_sem]
  simp(disch:=omega)only[go_sem,hcut,Qr]
  refine⟨⟨by rw[hml];exact Nat.le_refl _,by omega⟩,qe (i+1) [(1,260000000)] (by show i+1≤_;omega) (by show l.length-(i+1)<l.length-i;omega) rfl (by simp(disch:=omega)only[go_sem];try omega) (by simp(disch:=omega)only[go_sem,hs,id_eq])⟩
 ·simp(disch:=omega)only[go_sem,h1]
  obtain rfl:i=l.length:=by omega
  refine ql [(0,1)] [.own 3 (qk ExV.cs (mpT l (id) l.length))] [] [.ag [.v (.int .i64 n),.rf 0 0 l.length]] rfl (by simp(disch:=omega)only[go_sem]) (by simp(disch:=omega)only[go_sem]) (by simp) (by simp) ?_
  show qE _ 6 _=_
  simp(disch:=omega)only[go_sem,zg,Zx,zv (l:=l.map (id)) (k:=l.length) (List.length_map ..),List.map_id,zv (l:=l) (k:=l.length) rfl]
theorem ale{n:Nat}{I:List ExV}(h1:1≤n)(h4:n≤4)(hl:I.length=n*n):Vy n ((I.map ExV.can).map ExV.dyv)=I.all ExV.fit:=by
 have e:I.all ExV.fit=((I.map ExV.can).map ExV.dyv).all DyV.ok:=by
  rw[List.all_map,List.all_map]
  congr 1
  funext x
  exact(ait x).symm
 unfold Vy
 rw[←e,List.length_map,List.length_map,hl,decide_eq_true (show(1:Int)≤(n:Int) by omega),decide_eq_true (show(n:Int)≤4 by omega),decide_eq_true (show((n*n:Nat):Int)=(n:Int)*(n:Int) from Int.natCast_mul n n)]
 rfl
end Go.Ab
namespace Go.Ab
open Go Go.Proofs
theorem yD(xs:List Int)(m:Nat)(hl:xs.length≤2^39)(hx:gd xs)(hv:vl xs=(m:Int)):Con Tryz.prog 188 true [.sl xs.length (qg xs)] [] (isA (.ag [.sl (lim (m)).length (qg (lim (m)))])):=(jK true xs m hl hx hv).natFC
theorem KF(a b:Nat)(la:(lim a).length≤100000)(hb:0<b)(hb2:b<65536):
  Con Tryz.prog 251 false [.ag [.sl (lim (a)).length (qg (lim (a)))],.ag [.sl 1 [.v (.int .i64 (b:Int))]]] [] (isA (.tu [.ag [.sl (lim (a/b)).length (qg (lim (a/b)))],.ag [.sl (lim (a % b)).length (qg (lim (a % b)))]])):=by
 refine Con.frzA ?_
 refine Con.of_w (rs:=[.cell 4 40,.cell 5 40]) Tryz.func251 rfl Tryz.ntmps251 rfl ?_
 simp(disch:=omega)only[go_sem]
 refine qs rfl [⟨0,[],[]⟩,⟨1,[0],[]⟩,⟨2,[0],[]⟩,⟨3,[0],[]⟩,⟨4,[0],[]⟩,⟨9,[0,2,4],[]⟩,⟨5,[],[80000000]⟩,⟨6,[],[80000000]⟩,⟨7,[],[80000000]⟩,⟨8,[],[80000000]⟩,⟨10,[],[]⟩,⟨11,[],[]⟩] (by kernel_rfl) ?_
 simp(disch:=omega)only[go_sem]
 refine qa (KD a b (by omega) hb hb2) ?_
 simp(disch:=omega)only[go_sem]
 refine qs rfl [⟨0,[],[]⟩,⟨1,[0],[]⟩,⟨2,[0],[]⟩,⟨3,[],[]⟩,⟨4,[],[]⟩] (by kernel_rfl) ?_
 simp(disch:=omega)only[go_sem]
 have:=Nat.mod_lt a hb
 refine qa (zK (a % b) (by omega)) ?_
 simp(disch:=omega)only[go_sem]
 exact qo
theorem KG(a b:Nat)(la:(lim a).length≤100000)(lb:(lim b).length≤100000)(hb:b≠0)(hb2:(lim b).length≠1):
  Con Tryz.prog 251 false [.ag [.sl (lim (a)).length (qg (lim (a)))],.ag [.sl (lim (b)).length (qg (lim (b)))]] [] (isA (.tu [.ag [.sl (lim (a/b)).length (qg (lim (a/b)))],.ag [.sl (lim (a % b)).length (qg (lim (a % b)))]])):=by
 refine Con.frzA ?_
 have hA:=q5 a
 have hvA:=qY a
 generalize hAA:lim a=A at*
 refine Con.of_w (rs:=[.cell 4 40,.cell 5 40]) Tryz.func251 rfl Tryz.ntmps251 rfl ?_
 simp(disch:=omega)only[go_sem]
 have hb2':¬((lim b).length:Int)=1:=by omega
 simp(disch:=omega)only[go_sem,hb2']
 refine⟨by omega,?_⟩
 have hbp:(0:Int)<(b:Int):=by omega
 refine qj (fun x:Nat×List Int×Nat×Bool=>[(2,.pt 2 0),(3,.pt 3 0),(4,.pt 4 0),(5,.pt 5 0),(8,.rf 1 0 A.length),(9,.pt 0 0),(10,.v (.int .i64 ((x.1:Int)-1)))])
  (fun x=>[(0,.own 0 [bif x.2.2.2 then .v (.slice none 0 0)else .sl (lim (x.2.2.1)).length (qg (lim (x.2.2.1)))]),(1,.own 1 (qg x.2.1)),(2,.own 0 [.sl A.length (qg A)]),(3,.own 0 [.sl (lim (b)).length (qg (lim (b)))]),(4,.own 0 [.v (.slice none 0 0)]),(5,.own 0 [.v (.slice none 0 0)])])
  (fun x=>x.1≤A.length∧x.2.1.length=A.length∧gd x.2.1∧(x.2.2.1:Int)=vl (A.drop x.1) % (b:Int)∧vl (x.2.1.drop x.1)=vl (A.drop x.1)/(b:Int)∧(x.2.2.2=true→x.2.2.1=0))
  (fun x=>x.1) (A.length,List.replicate A.length 0,0,true) ⟨Nat.le_refl _,by simp,zk _,by simp[vl],by simp[vl],fun _=>rfl⟩
  (Le.lst [(0,110000000),(1,350000000),(2,40000000),(3,50000000),(4,60000000),(5,70000000)] _ _ rfl (by simp(disch:=omega)only[go_sem,List.length_replicate];try omega) (by simp(disch:=omega)only[go_sem,cond_true])) ?_
 rintro⟨k,out,rest,fst⟩ ⟨hk,hol,hog,hr,hov,hfst⟩
 dsimp only at hk hol hog hr hov hfst ⊢
 have hr0:rest<b:=by
  have:=Int.emod_lt_of_pos (vl (A.drop k)) hbp
  omega
 have lr:(lim rest).length≤100000:=Nat.le_trans (yy (Nat.le_of_lt hr0)) lb
 have h1':((k:Int)-1<0∧k=0)∨(0≤(k:Int)-1∧∃i,k=i+1):=by
  by_cases h:k=0
  ·left;omega
  ·right;exact⟨by omega,k-1,by omega⟩
 rcases h1' with⟨h1,rfl⟩|⟨h1,i,rfl⟩
 ·have h2:decide ((0:Int)≤0-1)=false:=by decide
  simp(disch:=omega)only[go_sem,h2]
  refine qs rfl [⟨0,[],[]⟩,⟨2,[],[]⟩,⟨1,[2],[]⟩,⟨3,[2],[]⟩,⟨4,[],[]⟩] (by kernel_rfl) ?_
  cases fst
  ·simp(disch:=omega)only[go_sem,cond_false]
   rw[List.drop_zero,List.drop_zero,hvA,←Int.natCast_ediv]at hov
   rw[List.drop_zero,hvA,←Int.natCast_emod]at hr
   have er:rest=a % b:=by omega
   have cn:=yD out (a/b) (by omega) hog hov
   rw[hol]at cn
   have tO:out.take A.length=out:=List.take_of_length_le (by omega)
   refine qr cn (by simp(disch:=omega)only[go_sem,tO]) ?_
   rintro r hs ⟨rfl,rfl,_⟩
   refine⟨by simp[qB],?_⟩
   simp(disch:=omega)only[go_sem]
   rw[←er]
   exact qo
  ·simp(disch:=omega)only[go_sem,cond_true]
   rw[List.drop_zero,List.drop_zero,hvA,←Int.natCast_ediv]at hov
   rw[List.drop_zero,hvA,←Int.natCast_emod]at hr
   have er:rest=a % b:=by omega
   have cn:=yD out (a/b) (by omega) hog hov
   rw[hol]at cn
   have tO:out.take A.length=out:=List.take_of_length_le (by omega)
   refine qr cn (by simp(disch:=omega)only[go_sem,tO]) ?_
   rintro r hs ⟨rfl,rfl,_⟩
   refine⟨by simp[qB],?_⟩
   simp(disch:=omega)only[go_sem]
   rw[←er]
   rw[hfst rfl,qt]
   exact qo
 ·have ei:((i+1:Nat):Int)-1=(i:Nat):=by omega
  have hx:=qL hA i
  obtain⟨c,hc⟩:=Int.eq_ofNat_of_zero_le hx.1
  have h2:decide (0≤(i:Int))=true:=decide_eq_true (by omega)
  have hvd:=zG (l:=A) (i:=i) (by omega)
  obtain⟨R,hR⟩:∃R:Nat,R=c+65536*rest:=⟨_,rfl⟩
  have hRb:R<b*65536:=by
   have:rest+1≤b:=hr0
   have:=Nat.mul_le_mul_left 65536 this
   omega
  have lRR:(lim R).length≤2^40:=by
   have b2:=Zh (m:=b)
   have b1:=jG b 65536
   have b3:bl 65536≤17:=zN.2 (by omega)
   have:=qx (Nat.le_trans (jh (Nat.le_of_lt hRb)) (Nat.le_trans b1 (Nat.add_le_add b2 b3)))
   omega
  simp(disch:=omega)only[go_sem,ei,h2]
  refine qs rfl [⟨0,[],[]⟩,⟨1,[],[]⟩,⟨2,[1],[]⟩,⟨3,[],[]⟩,⟨4,[],[]⟩,⟨6,[1,4],[]⟩,⟨7,[1,4],[]⟩,⟨5,[7],[]⟩,⟨8,[],[]⟩,⟨9,[],[]⟩,⟨10,[],[]⟩] (by kernel_rfl) ?_
  cases fst
  ·simp(disch:=omega)only[go_sem,cond_false]
   rw[hc]
   refine⟨by omega,by omega,by omega,?_⟩
   have gX:gd ((c:Int)::lim rest):=QM.2 ⟨by omega,q5 rest⟩
   have vX:vl ((c:Int)::lim rest)=(R:Int):=by rw[vl,qY,hR];omega
   have eX:(AV.v (Value.int IntKind.i64 (c:Int))::qg (lim rest))=qg ((c:Int)::lim rest):=rfl
   rw[eX]
   have lX:((c:Int)::lim rest).length=1+(lim rest).length:=by rw[List.length_cons];omega
   have cn:=yD ((c:Int)::lim rest) R (by omega) gX vX
   rw[lX]at cn
   generalize ((c:Int)::lim rest)=X at*
   have tX:X.take (1+(lim rest).length)=X:=List.take_of_length_le (by omega)
   refine qr cn (by simp(disch:=omega)only[go_sem,tX]) ?_
   rintro r hs ⟨rfl,rfl,_⟩
   refine⟨by simp[qB],?_⟩
   simp(disch:=omega)only[go_sem]
   have e6:((65536:Nat):Int)=65536:=rfl
   refine qj (fun y:Nat×Nat=>[(2,.pt 2 0),(3,.pt 3 0),(4,.pt 4 0),(5,.pt 5 0),(8,.rf 1 0 A.length),(9,.pt 0 0),(10,.v (.int .i64 (i:Int))),(11,.v (.int .i64 y.1)),(12,.v (.int .i64 y.2))])
    (fun y=>[(0,.own 0 [.sl (lim (R)).length (qg (lim (R)))]),(1,.own 1 (qg out)),(2,.own 0 [.sl A.length (qg A)]),(3,.own 0 [.sl (lim (b)).length (qg (lim (b)))]),(4,.own 0 [.v (.slice none 0 0)]),(5,.own 0 [.v (.slice none 0 0)])])
    (fun y=>y.1<y.2∧y.2≤65536∧b*y.1≤R∧R<b*y.2)
    (fun y=>y.2-y.1) (0,65536) ⟨by omega,by omega,by omega,by omega⟩
    (Le.lst [] _ _ rfl (by simp(disch:=omega)only[go_sem,e6];try omega) (by simp(disch:=omega)only[go_sem];try rfl)) ?_
   rintro⟨lo,hi⟩ ⟨g1,g2,g3,g4⟩
   dsimp only at g1 g2 g3 g4 ⊢
   simp(disch:=omega)only[go_sem]
   refine qh (fun h5=>?_) (fun h5=>?_)
   ·simp(disch:=omega)only[go_sem,h5]
    obtain⟨mid,hmid⟩:∃mid:Nat,mid=(lo+hi)/2:=⟨_,rfl⟩
    have em:((lo:Int)+(hi:Int))/2=(mid:Int):=by omega
    have lm:(lim mid).length≤1000000:=by have:=qx (m:=mid) (B:=17) (zN.2 (by omega));omega
    have lbm:(lim (b*mid)).length≤2^40:=by
     have b1:=jG b mid
     have b2:=Zh (m:=b)
     have b3:bl mid≤17:=zN.2 (by omega)
     have:=qx (Nat.le_trans b1 (Nat.add_le_add b2 b3))
     omega
    refine qs rfl [⟨0,[],[]⟩,⟨1,[0],[]⟩,⟨4,[0],[]⟩,⟨2,[0,4],[]⟩,⟨3,[4],[]⟩,⟨5,[],[]⟩,⟨6,[],[]⟩] (by kernel_rfl) ?_
    simp(disch:=omega)only[go_sem,em]
    refine qa (zK mid (by omega)) ?_
    simp(disch:=omega)only[go_sem]
    refine qa (yl b mid (by omega) lm) ?_
    simp(disch:=omega)only[go_sem]
    refine qm (Qa (b*mid) R lbm lRR) ?_
    simp(disch:=omega)only[go_sem]
    have hcm:=(aik ((b*mid:Nat):Int) (R:Int)).1
    refine qh (fun h6=>?_) (fun h6=>?_)
    ·simp(disch:=omega)only[go_sem,h6]
     have h7:=hcm.1 h6
     exact qe (mid,hi) [] ⟨by show mid<hi;omega,g2,by show b*mid≤R;omega,g4⟩ (by show hi-mid<hi-lo;omega) rfl (by simp(disch:=omega)only[go_sem];try omega) (by simp(disch:=omega)only[go_sem];try rfl)
    ·simp(disch:=omega)only[go_sem,h6]
     have h7:¬((b*mid:Nat):Int)≤(R:Int):=fun h=>h6 (hcm.2 h)
     exact qe (lo,mid) [] ⟨by show lo<mid;omega,by show mid≤65536;omega,g3,by show R<b*mid;omega⟩ (by show mid-lo<hi-lo;omega) rfl (by simp(disch:=omega)only[go_sem];try omega) (by simp(disch:=omega)only[go_sem];try rfl)
   ·simp(disch:=omega)only[go_sem,h5]
    have ehi:hi=lo+1:=by omega
    subst ehi
    have hlo:R/b=lo:=by
     refine Nat.div_eq_of_lt_le ?_ ?_
     ·rw[Nat.mul_comm];exact g3
     ·rw[Nat.mul_comm];exact g4
    have ll:(lim lo).length≤1000000:=by have:=qx (m:=lo) (B:=17) (zN.2 (by omega));omega
    refine⟨by omega,by omega,?_⟩
    refine qs rfl [⟨0,[],[]⟩,⟨1,[0],[]⟩,⟨2,[0,1],[]⟩,⟨3,[0,1],[]⟩,⟨4,[0],[]⟩,⟨5,[],[]⟩,⟨6,[],[]⟩] (by kernel_rfl) ?_
    simp(disch:=omega)only[go_sem]
    refine qa (zK lo (by omega)) ?_
    simp(disch:=omega)only[go_sem]
    refine qa (yl b lo (by omega) ll) ?_
    simp(disch:=omega)only[go_sem]
    have lR2:(lim R).length≤1000000:=by
     have:=qx (Nat.le_trans (jh (Nat.le_of_lt hRb)) (Nat.le_trans (jG b 65536) (Nat.add_le_add (Zh (m:=b)) (show bl 65536≤17 from zN.2 (by omega)))))
     omega
    refine qa (Qu R (b*lo) g3 lR2) ?_
    simp(disch:=omega)only[go_sem]
    have hsub:R-b*lo=R % b:=by have:=Nat.div_add_mod R b;rw[hlo]at this;omega
    rw[hsub]
    have hV:=Int.emod_add_mul_ediv (vl (A.drop (i+1))) (b:Int)
    have hRI:(R:Int)=(c:Int)+65536*(rest:Int):=by rw[hR];omega
    have hsum:vl (A.drop i)=(R:Int)+(b:Int)*(65536*(vl (A.drop (i+1))/(b:Int))):=by
     rw[hvd,hc,hRI,hr]
     generalize vl (A.drop (i+1))/(b:Int)=q at*
     generalize vl (A.drop (i+1)) % (b:Int)=m at*
     rw[←hV]
     grind
    refine qe (i,out.set i (lo:Int),R % b,false) [] ⟨by show i≤A.length;omega,by simp[hol],yK hog ⟨by omega,by omega⟩,?_,?_,fun h=>by cases h⟩ (by show i<i+1;omega) rfl (by simp(disch:=omega)only[go_sem];try omega) (by simp(disch:=omega)only[go_sem,cond_false])
    ·show((R % b:Nat):Int)=vl (A.drop i) % (b:Int)
     rw[hsum,Int.add_mul_emod_self_left,Int.natCast_emod]
    ·show vl ((out.set i (lo:Int)).drop i)=vl (A.drop i)/(b:Int)
     rw[hsum,Int.add_mul_ediv_left _ _ (by omega),drop_set (by omega),vl,hov,←Int.natCast_ediv,hlo]
  ·simp(disch:=omega)only[go_sem,cond_true]
   rw[hc]
   refine⟨by omega,by omega,?_⟩
   have hr00:rest=0:=hfst rfl
   have gX:gd [(c:Int)]:=QM.2 ⟨by omega,by simp[gd]⟩
   have vX:vl [(c:Int)]=(R:Int):=by rw[vl,vl,hR,hr00];omega
   have eX:[AV.v (Value.int IntKind.i64 (c:Int))]=qg [(c:Int)]:=rfl
   rw[eX]
   have cn:=yD [(c:Int)] R (by simp) gX vX
   rw[List.length_singleton]at cn
   generalize hXX:[(c:Int)]=X at*
   have tX:X.take 1=X:=by rw[←hXX];rfl
   refine qr cn (by simp(disch:=omega)only[go_sem,tX]) ?_
   rintro r hs ⟨rfl,rfl,_⟩
   refine⟨by simp[qB],?_⟩
   simp(disch:=omega)only[go_sem]
   have e6:((65536:Nat):Int)=65536:=rfl
   refine qj (fun y:Nat×Nat=>[(2,.pt 2 0),(3,.pt 3 0),(4,.pt 4 0),(5,.pt 5 0),(8,.rf 1 0 A.length),(9,.pt 0 0),(10,.v (.int .i64 (i:Int))),(11,.v (.int .i64 y.1)),(12,.v (.int .i64 y.2))])
    (fun y=>[(0,.own 0 [.sl (lim (R)).length (qg (lim (R)))]),(1,.own 1 (qg out)),(2,.own 0 [.sl A.length (qg A)]),(3,.own 0 [.sl (lim (b)).length (qg (lim (b)))]),(4,.own 0 [.v (.slice none 0 0)]),(5,.own 0 [.v (.slice none 0 0)])])
    (fun y=>y.1<y.2∧y.2≤65536∧b*y.1≤R∧R<b*y.2)
    (fun y=>y.2-y.1) (0,65536) ⟨by omega,by omega,by omega,by omega⟩
    (Le.lst [] _ _ rfl (by simp(disch:=omega)only[go_sem,e6];try omega) (by simp(disch:=omega)only[go_sem];try rfl)) ?_
   rintro⟨lo,hi⟩ ⟨g1,g2,g3,g4⟩
   dsimp only at g1 g2 g3 g4 ⊢
   simp(disch:=omega)only[go_sem]
   refine qh (fun h5=>?_) (fun h5=>?_)
   ·simp(disch:=omega)only[go_sem,h5]
    obtain⟨mid,hmid⟩:∃mid:Nat,mid=(lo+hi)/2:=⟨_,rfl⟩
    have em:((lo:Int)+(hi:Int))/2=(mid:Int):=by omega
    have lm:(lim mid).length≤1000000:=by have:=qx (m:=mid) (B:=17) (zN.2 (by omega));omega
    have lbm:(lim (b*mid)).length≤2^40:=by
     have b1:=jG b mid
     have b2:=Zh (m:=b)
     have b3:bl mid≤17:=zN.2 (by omega)
     have:=qx (Nat.le_trans b1 (Nat.add_le_add b2 b3))
     omega
    refine qs rfl [⟨0,[],[]⟩,⟨1,[0],[]⟩,⟨4,[0],[]⟩,⟨2,[0,4],[]⟩,⟨3,[4],[]⟩,⟨5,[],[]⟩,⟨6,[],[]⟩] (by kernel_rfl) ?_
    simp(disch:=omega)only[go_sem,em]
    refine qa (zK mid (by omega)) ?_
    simp(disch:=omega)only[go_sem]
    refine qa (yl b mid (by omega) lm) ?_
    simp(disch:=omega)only[go_sem]
    refine qm (Qa (b*mid) R lbm lRR) ?_
    simp(disch:=omega)only[go_sem]
    have hcm:=(aik ((b*mid:Nat):Int) (R:Int)).1
    refine qh (fun h6=>?_) (fun h6=>?_)
    ·simp(disch:=omega)only[go_sem,h6]
     have h7:=hcm.1 h6
     exact qe (mid,hi) [] ⟨by show mid<hi;omega,g2,by show b*mid≤R;omega,g4⟩ (by show hi-mid<hi-lo;omega) rfl (by simp(disch:=omega)only[go_sem];try omega) (by simp(disch:=omega)only[go_sem];try rfl)
    ·simp(disch:=omega)only[go_sem,h6]
     have h7:¬((b*mid:Nat):Int)≤(R:Int):=fun h=>h6 (hcm.2 h)
     exact qe (lo,mid) [] ⟨by show lo<mid;omega,by show mid≤65536;omega,g3,by show R<b*mid;omega⟩ (by show mid-lo<hi-lo;omega) rfl (by simp(disch:=omega)only[go_sem];try omega) (by simp(disch:=omega)only[go_sem];try rfl)
   ·simp(disch:=omega)only[go_sem,h5]
    have ehi:hi=lo+1:=by omega
    subst ehi
    have hlo:R/b=lo:=by
     refine Nat.div_eq_of_lt_le ?_ ?_
     ·rw[Nat.mul_comm];exact g3
     ·rw[Nat.mul_comm];exact g4
    have ll:(lim lo).length≤1000000:=by have:=qx (m:=lo) (B:=17) (zN.2 (by omega));omega
    refine⟨by omega,by omega,?_⟩
    refine qs rfl [⟨0,[],[]⟩,⟨1,[0],[]⟩,⟨2,[0,1],[]⟩,⟨3,[0,1],[]⟩,⟨4,[0],[]⟩,⟨5,[],[]⟩,⟨6,[],[]⟩] (by kernel_rfl) ?_
    simp(disch:=omega)only[go_sem]
    refine qa (zK lo (by omega)) ?_
    simp(disch:=omega)only[go_sem]
    refine qa (yl b lo (by omega) ll) ?_
    simp(disch:=omega)only[go_sem]
    have lR2:(lim R).length≤1000000:=by
     have:=qx (Nat.le_trans (jh (Nat.le_of_lt hRb)) (Nat.le_trans (jG b 65536) (Nat.add_le_add (Zh (m:=b)) (show bl 65536≤17 from zN.2 (by omega)))))
     omega
    refine qa (Qu R (b*lo) g3 lR2) ?_
    simp(disch:=omega)only[go_sem]
    have hsub:R-b*lo=R % b:=by have:=Nat.div_add_mod R b;rw[hlo]at this;omega
    rw[hsub]
    have hV:=Int.emod_add_mul_ediv (vl (A.drop (i+1))) (b:Int)
    have hRI:(R:Int)=(c:Int)+65536*(rest:Int):=by rw[hR];omega
    have hsum:vl (A.drop i)=(R:Int)+(b:Int)*(65536*(vl (A.drop (i+1))/(b:Int))):=by
     rw[hvd,hc,hRI,hr]
     generalize vl (A.drop (i+1))/(b:Int)=q at*
     generalize vl (A.drop (i+1)) % (b:Int)=m at*
     rw[←hV]
     grind
    refine qe (i,out.set i (lo:Int),R % b,false) [] ⟨by show i≤A.length;omega,by simp[hol],yK hog ⟨by omega,by omega⟩,?_,?_,fun h=>by cases h⟩ (by show i<i+1;omega) rfl (by simp(disch:=omega)only[go_sem];try omega) (by simp(disch:=omega)only[go_sem,cond_false])
    ·show((R % b:Nat):Int)=vl (A.drop i) % (b:Int)
     rw[hsum,Int.add_mul_emod_self_left,Int.natCast_emod]
    ·show vl ((out.set i (lo:Int)).drop i)=vl (A.drop i)/(b:Int)
     rw[hsum,Int.add_mul_ediv_left _ _ (by omega),drop_set (by omega),vl,hov,←Int.natCast_ediv,hlo]
end Go.Ab
namespace Go.Ab
open Go Go.Proofs
def quK(N D:Nat):Int:=58-((bl N:Int)-(bl D:Int))
def quA(N D:Nat):Nat:=N*2^(quK N D).toNat
def quB(N D:Nat):Nat:=D*2^(-quK N D).toNat
def quQ(N D:Nat):Nat:=stk (quA N D) (quB N D)
def quT(N D:Nat):Int:=if quB N D*2^58≤quA N D then(bl N:Int)-(bl D:Int)+1 else(bl N:Int)-(bl D:Int)
theorem anl(k:Nat):0<2^k:=Nat.pow_pos (by omega)
theorem ane{s:Bool}{a b a' b' i i':Nat}{mode:Int}(h1:a*2^i=a'*2^i')(h2:b*2^i=b'*2^i'):rq s a b mode=rq s a' b' mode∧(a % b=0↔a' % b'=0):=by
 constructor
 ·rw[←Jl (k:=i),h1,h2,Jl]
 ·have p1:2^i≠0:=Nat.pos_iff_ne_zero.1 (anl i)
  have p2:2^i'≠0:=Nat.pos_iff_ne_zero.1 (anl i')
  have e1:a % b*2^i=a' % b'*2^i':=by rw[←Nat.mul_mod_mul_right,←Nat.mul_mod_mul_right,h1,h2]
  constructor
  ·intro h;rw[h,Nat.zero_mul]at e1;exact(Nat.mul_eq_zero.1 e1.symm).resolve_right p2
  ·intro h;rw[h,Nat.zero_mul]at e1;exact(Nat.mul_eq_zero.1 e1).resolve_right p1
end Go.Ab
namespace Go.Ab
open Go Go.Proofs
end Go.Ab
namespace Go.Ab
open Go Go.Proofs
end Go.Ab
namespace Go.Ab
open Go Go.Proofs
def aCv(xs:List Int)(e:Int):Bool:=
 Y7 xs&&((decide (-800≤e)&&decide (e≤800))&&(decide ((vl xs).toNat % 10≠0)||(decide (xs.length=0)&&decide (e=0))))
def dfV(s:Bool)(m:Nat)(e mode:Int):FlV:=if m=0 then⟨0,s,0,0⟩else flV s (quQ (m*10^e.toNat) (10^(-e).toNat)) (-quK (m*10^e.toNat) (10^(-e).toNat)-1) mode s
def dfG(s:Bool)(m:Nat)(e mode:Int):Int:=if m=0 then 0 else flG s (quQ (m*10^e.toNat) (10^(-e).toNat)) (-quK (m*10^e.toNat) (10^(-e).toNat)-1) mode
end Go.Ab
namespace Go.Ab
open Go Go.Proofs
theorem Xl(a b:Nat)(la:(lim a).length≤100000)(lb:(lim b).length≤100000)(hb:b≠0):Con Tryz.prog 251 false [.ag [.sl (lim (a)).length (qg (lim (a)))],.ag [.sl (lim (b)).length (qg (lim (b)))]] [] (isA (.tu [.ag [.sl (lim (a/b)).length (qg (lim (a/b)))],.ag [.sl (lim (a % b)).length (qg (lim (a % b)))]])):=by
 by_cases h1:(lim b).length=1
 ·have hb2:b<65536:=by have:=Z1 b;rw[h1]at this;simpa using this
  have e:lim b=[(b:Int)]:=by rw[yx hb,Nat.div_eq_of_lt hb2,qt,Nat.mod_eq_of_lt hb2]
  have:=KF a b la (Nat.pos_of_ne_zero hb) hb2
  rw[e];exact this
 ·exact KG a b la lb hb h1
theorem aec(s1:Bool)(m1:Nat)(e1:Int)(s2:Bool)(m2:Nat)(e2 low:Int)(h1:m1≠0)(h2:m2≠0)(hb1:bl m1≤100000)(hb2:bl m2≤100000)(hk: -200000≤e1-e2-low∧e1-e2-low≤200000)
  (he1: -2^39≤e1∧e1≤2^39) (he2: -2^39≤e2∧e2≤2^39) (hlo: -2^39≤low∧low≤2^39) (A B:Nat) (hA:m1*2^(e1-e2-low+2).toNat=A) (hB:m2*2^(-(e1-e2-low+2)).toNat=B):
  Con Tryz.prog 184 false [.ag [.v (.bool (s1)),.sl (lim (m1)).length (qg (lim (m1))),.v (.int .i64 (e1))],.ag [.v (.bool (s2)),.sl (lim (m2)).length (qg (lim (m2))),.v (.int .i64 (e2))],.v (.int .i64 low)] [] (isA (.ag [.v (.bool (oS (s1 != s2) (stk A B))),.sl (lim (oM (stk A B))).length (qg (lim (oM (stk A B)))),.v (.int .i64 (oE (stk A B) (low-3)))])):=by
 refine Con.frzA ?_
 have q1:decide (((lim m1).length:Int)=0)=false:=decide_eq_false (by have:=yg h1;omega)
 have l1:=qx hb1
 have l2:=qx hb2
 have bA:bl A≤300010:=by rw[←hA];have:=ZS m1 (e1-e2-low+2).toNat;omega
 have bB:bl B≤300010:=by rw[←hB];have:=ZS m2 (-(e1-e2-low+2)).toNat;omega
 have lA:=qx bA
 have lB:=qx bB
 have B0:B≠0:=by rw[←hB];exact Nat.mul_ne_zero h2 (Nat.pos_iff_ne_zero.1 (Nat.pow_pos (by omega)))
 have bq:=Qw A B
 have hq1:(lim (A/B)).length≤100000:=by have:=qx (Nat.le_trans bq bA);omega
 have bq2:bl (A/B*2^1)≤300011:=by have:=ZS (A/B) 1;omega
 have hq2:=qx bq2
 have bq3:bl (A/B*2^1+1)≤300012:=by have:=YA (A/B*2^1);omega
 have hq3:=qx bq3
 have hr:(lim (A % B)).length≤100000:=Nat.le_trans (yy (Nat.le_of_lt (Nat.mod_lt A (Nat.pos_of_ne_zero B0)))) (by omega)
 have fin:∀Q:Nat,stk A B=Q→bl Q≤300012→Con Tryz.prog 94 false [.ag [.v (.bool ((s1 != s2)&&decide (Q≠0))),.sl (lim (Q)).length (qg (lim (Q)))],.v (.int .i64 (low-3))] [] (isA (.ag [.v (.bool (oS (s1 != s2) (stk A B))),.sl (lim (oM (stk A B))).length (qg (lim (oM (stk A B)))),.v (.int .i64 (oE (stk A B) (low-3)))])):=fun Q hQ hb=>by
  have:=jI ((s1 != s2)&&decide (Q≠0)) Q (low-3) (by omega) (by omega)
  have e:oS ((s1 != s2)&&decide (Q≠0)) Q=oS (s1 != s2) Q:=by
   unfold oS
   by_cases h0:Q=0
   ·rw[if_pos h0,if_pos h0]
   ·rw[if_neg h0,if_neg h0,decide_eq_true h0,Bool.and_true]
  rw[e]at this
  rw[hQ];exact this
 have d0:stk A B=A/B*2^1+(if A % B=0 then 0 else 1):=by unfold stk;omega
 refine Con.of_w (rs:=[.cell 6 44]) Tryz.func184 rfl Tryz.ntmps184 rfl ?_
 simp(disch:=omega)only[go_sem]
 simp(disch:=omega)only[go_sem,q1]
 refine qh (fun h3=>?_) (fun h3=>?_)
 ·have ek:e1-e2-low+2=(((e1-e2-low+2).toNat:Nat):Int):=by omega
  have e0:(-(e1-e2-low+2)).toNat=0:=by omega
  rw[e0,Nat.pow_zero,Nat.mul_one]at hB
  subst hB
  have cs:=jJ m1 (e1-e2-low+2).toNat (by omega) (by omega)
  rw[hA,←ek]at cs
  simp(disch:=omega)only[go_sem,h3]
  refine qa (cs) ?_
  simp(disch:=omega)only[go_sem]
  refine qa (Xl A m2 (by omega) (by omega) B0) ?_
  simp(disch:=omega)only[go_sem]
  refine qa (jJ (A/m2) 1 (by omega) (by omega)) ?_
  simp(disch:=omega)only[go_sem]
  by_cases hz:A % m2=0
  ·have q2:decide ((0:Int)<((lim (A % m2)).length:Int))=false:=by rw[hz,qt];rfl
   rw[if_pos hz,Nat.add_zero]at d0
   simp(disch:=omega)only[go_sem,q2]
   refine qa (qP (s1 != s2) (A/m2*2^1) (by omega)) ?_
   simp(disch:=omega)only[go_sem]
   refine qa (fin _ d0 (by omega)) ?_
   simp(disch:=omega)only[go_sem]
   exact qo
  ·have q2:decide ((0:Int)<((lim (A % m2)).length:Int))=true:=decide_eq_true (by have:=yg hz;omega)
   rw[if_neg hz]at d0
   simp(disch:=omega)only[go_sem,q2]
   refine qs rfl [⟨0,[],[]⟩,⟨1,[0],[]⟩,⟨2,[],[]⟩,⟨3,[],[]⟩] (by kernel_rfl) ?_
   simp(disch:=omega)only[go_sem]
   refine qa (zK 1 (by omega)) ?_
   simp(disch:=omega)only[go_sem]
   refine qa (ym (A/m2*2^1) 1 (by omega) (by have:=qx (m:=1) (B:=1) (by decide);omega)) ?_
   simp(disch:=omega)only[go_sem]
   refine qa (qP (s1 != s2) (A/m2*2^1+1) (by omega)) ?_
   simp(disch:=omega)only[go_sem]
   refine qa (fin _ d0 (by omega)) ?_
   simp(disch:=omega)only[go_sem]
   exact qo
 ·have ek:0-(e1-e2-low+2)=(((-(e1-e2-low+2)).toNat:Nat):Int):=by omega
  have e0:(e1-e2-low+2).toNat=0:=by omega
  rw[e0,Nat.pow_zero,Nat.mul_one]at hA
  subst hA
  have cs:=jJ m2 (-(e1-e2-low+2)).toNat (by omega) (by omega)
  rw[hB,←ek]at cs
  simp(disch:=omega)only[go_sem,h3]
  refine qa (cs) ?_
  simp(disch:=omega)only[go_sem]
  refine qa (Xl m1 B (by omega) (by omega) B0) ?_
  simp(disch:=omega)only[go_sem]
  refine qa (jJ (m1/B) 1 (by omega) (by omega)) ?_
  simp(disch:=omega)only[go_sem]
  by_cases hz:m1 % B=0
  ·have q2:decide ((0:Int)<((lim (m1 % B)).length:Int))=false:=by rw[hz,qt];rfl
   rw[if_pos hz,Nat.add_zero]at d0
   simp(disch:=omega)only[go_sem,q2]
   refine qa (qP (s1 != s2) (m1/B*2^1) (by omega)) ?_
   simp(disch:=omega)only[go_sem]
   refine qa (fin _ d0 (by omega)) ?_
   simp(disch:=omega)only[go_sem]
   exact qo
  ·have q2:decide ((0:Int)<((lim (m1 % B)).length:Int))=true:=decide_eq_true (by have:=yg hz;omega)
   rw[if_neg hz]at d0
   simp(disch:=omega)only[go_sem,q2]
   refine qs rfl [⟨0,[],[]⟩,⟨1,[0],[]⟩,⟨2,[],[]⟩,⟨3,[],[]⟩] (by kernel_rfl) ?_
   simp(disch:=omega)only[go_sem]
   refine qa (zK 1 (by omega)) ?_
   simp(disch:=omega)only[go_sem]
   refine qa (ym (m1/B*2^1) 1 (by omega) (by have:=qx (m:=1) (B:=1) (by decide);omega)) ?_
   simp(disch:=omega)only[go_sem]
   refine qa (qP (s1 != s2) (m1/B*2^1+1) (by omega)) ?_
   simp(disch:=omega)only[go_sem]
   refine qa (fin _ d0 (by omega)) ?_
   simp(disch:=omega)only[go_sem]
   exact qo
end Go.Ab
namespace Go.Ab
open Go Go.Proofs
/-! ### The specification's numbers of any size,in their one form-/
theorem ais{x:ExV}(h:x.can=x):(x.m % 2=1∨x.m=0)∧(x.m=0→x=ex0):=by
 have e:oM x.m=x.m:=congrArg ExV.m h
 refine⟨by have:=ano x.m;rw[e]at this;exact this,fun h0=>?_⟩
 rw[←h]
 show(⟨oS x.s x.m,oM x.m,oE x.m x.e⟩:ExV)=ex0
 rw[h0,jQ];rfl
theorem y9(x:ExV)(low mode:Int)(hx:x.can=x)(hm:0≤mode∧mode≤4)(bx:x.bd (-400000) 400000)(hl: -400000≤low∧low≤400000):
  Con Tryz.prog 97 false [.ag [.v (.bool (x).s),.sl (lim (x).m).length (qg (lim (x).m)),.v (.int .i64 (x).e)],.v (.int .i64 low),.v (.int .i64 mode)] [] (isA (.tu [.ag [.v (.bool ((x.rnd low mode).can).s),.sl (lim ((x.rnd low mode).can).m).length (qg (lim ((x.rnd low mode).can).m)),.v (.int .i64 ((x.rnd low mode).can).e)],.v (.bool (roX x.m x.e low))])):=by
 obtain⟨ho,hz⟩:=ais hx
 obtain⟨a,b,c⟩:=bx
 have cr:=aba x.s x.m x.e low mode ho a hm (by omega) (by omega) (by omega)
 have e:srE x.s x.m x.e low mode=(x.rnd low mode).can.e:=by
  show _=oE (roM x.s x.m x.e low mode) (roE x.m x.e low)
  rcases ho with ho|h0
  ·exact(ayK ho).2
  ·obtain rfl:=hz h0
   unfold srE roM roE
   have c:low≤ex0.e∨ex0.m=0:=.inr rfl
   rw[if_pos c,if_pos c,if_pos c]
   rfl
 rw[e]at cr
 exact cr
theorem anf{K:Nat}{x:ExV}{low md:Int}(hx: -(K:Int)≤x.e)(hl: -(K:Int)≤low): -(K:Int)≤(x.rnd low md).e:=by
 show-(K:Int)≤roE x.m x.e low
 unfold roE;split<;>omega
theorem as0{K:Nat}{y:ExV}(h0:y.m=0):y.val K=0:=by
 show sv y.s y.m*_=0
 rw[h0];simp[sv]
theorem abY{K:Nat}{s:Bool}{m:Nat}{e low md:Int}(he: -(K:Int)≤e)(h:¬(low≤e∨m=0)):(ExV.rnd ⟨s,m,e⟩ low md).val K=sv s (rq s m (2^(low-e).toNat) md)*p2 (low+(K:Int)).toNat:=by
 unfold ExV.rnd roS roM roE ExV.val
 dsimp only
 rw[if_neg h,if_neg h,if_neg h,ahr]
 rfl
theorem afT{x:ExV}{low md:Int}:(x.can.rnd low md).can=(x.rnd low md).can:=by
 obtain⟨K,hK⟩:∃K:Nat, -(K:Int)≤x.e∧ -(K:Int)≤low:=⟨(max (-x.e) (-low)).toNat,by omega,by omega⟩
 have hc:=ju (K:=K) hK.1
 refine Z7 (K:=K) (anf hc hK.2) (anf hK.1 hK.2) ?_
 by_cases h0:x.m=0
 ·have e1:x.can=ex0:=by
   show(⟨oS x.s x.m,oM x.m,oE x.m x.e⟩:ExV)=ex0
   rw[h0,jQ];rfl
  have e2:∀y:ExV,y.m=0→(y.rnd low md).val K=0:=fun y hy=>by
   refine as0 ?_
   show roM _ _ _ _ _=0
   unfold roM;rw[if_pos (.inr hy)];exact hy
  rw[e1,e2 ex0 rfl,e2 x h0]
 have e3:x.can.e=x.e+tz x.m:=by show oE x.m x.e=_;unfold oE;rw[if_neg h0]
 have e4:x.can.m*2^tz x.m=x.m:=ZZ
 have hz:x.can.m≠0:=fun e=>by rw[e,Nat.zero_mul]at e4;exact h0 e4.symm
 have es:x.can.s=x.s:=by show oS x.s x.m=x.s;unfold oS;rw[if_neg h0]
 by_cases c1:low≤x.e
 ·have u:∀y:ExV,low≤y.e→y.rnd low md=y:=fun y hy=>by
   obtain⟨s,m,e⟩:=y
   unfold ExV.rnd roS roM roE
   dsimp only at hy ⊢
   rw[if_pos (.inl hy),if_pos (.inl hy),if_pos (.inl hy)]
  rw[u x c1,u x.can (by omega),jz hK.1]
 ·have hx:¬(low≤x.e∨x.m=0):=by omega
  have v1:=abY (K:=K) (s:=x.s) (m:=x.m) (e:=x.e) (low:=low) (md:=md) hK.1 hx
  have v1:(x.rnd low md).val K=_:=v1
  rw[v1]
  by_cases c2:low≤x.can.e
  ·have u:x.can.rnd low md=x.can:=by
    generalize x.can=y at*
    obtain⟨s,m,e⟩:=y
    unfold ExV.rnd roS roM roE
    dsimp only at c2 ⊢
    rw[if_pos (.inl c2),if_pos (.inl c2),if_pos (.inl c2)]
   rw[u,jz hK.1]
   obtain⟨j,hj⟩:∃j,tz x.m=j+(low-x.e).toNat:=⟨tz x.m-(low-x.e).toNat,by omega⟩
   have em:x.m=(x.can.m*2^j)*2^(low-x.e).toNat:=by rw[Nat.mul_assoc,←Nat.pow_add,←hj,e4]
   have er:rq x.s x.m (2^(low-x.e).toNat) md=x.can.m*2^j:=by
    have:=@Jl x.s (x.can.m*2^j) 1 (low-x.e).toNat md
    rw[Nat.one_mul,←em,atE]at this
    exact this
   rw[er]
   show sv x.s x.m*p2 (x.e+(K:Int)).toNat=_
   rw[show(low+(K:Int)).toNat=(low-x.e).toNat+(x.e+(K:Int)).toNat by omega,auq,←Int.mul_assoc]
   congr 1
   have e5:((2^(low-x.e).toNat:Nat):Int)=p2 (low-x.e).toNat:=by rw[Int.natCast_pow];rfl
   conv=>lhs;rw[em]
   rw[VJ,e5]
  ·have hx2:¬(low≤x.can.e∨x.can.m=0):=by omega
   have v2:=abY (K:=K) (s:=x.can.s) (m:=x.can.m) (e:=x.can.e) (low:=low) (md:=md) hc hx2
   have v2:(x.can.rnd low md).val K=_:=v2
   rw[v2,es]
   congr 2
   have:=@Jl x.s x.can.m (2^(low-x.can.e).toNat) (tz x.m) md
   rw[e4,←Nat.pow_add]at this
   rw[←this]
   congr 2
   omega
theorem abb(x y:ExV)(low:Int)(h0:x.m=0):Con Tryz.prog 184 false [.ag [.v (.bool (x).s),.sl (lim (x).m).length (qg (lim (x).m)),.v (.int .i64 (x).e)],.ag [.v (.bool (y).s),.sl (lim (y).m).length (qg (lim (y).m)),.v (.int .i64 (y).e)],.v (.int .i64 low)] [] (isA (.ag [.v (.bool (ex0).s),.sl (lim (ex0).m).length (qg (lim (ex0).m)),.v (.int .i64 (ex0).e)])):=by
 refine Con.frzA ?_
 have q1:decide (((lim x.m).length:Int)=0)=true:=by rw[h0,qt];rfl
 refine Con.of_w (rs:=[.cell 6 44]) Tryz.func184 rfl Tryz.ntmps184 rfl ?_
 simp(disch:=omega)only[go_sem,q1]
 exact qo (hp:=by simp(disch:=omega)only[go_sem,ex0,qt])
theorem JO{x y:ExV}{low mode:Int}(h0:x.m=0):(x.over y low mode).can=ex0:=by
 have hq:ovQ (x.s != y.s) x.m x.e y.m y.e low mode=0:=by
  unfold ovQ ovA rq
  rw[h0];simp
 show(⟨oS _ (ovQ _ _ _ _ _ _ _),oM (ovQ (x.s != y.s) x.m x.e y.m y.e low mode),oE (ovQ (x.s != y.s) x.m x.e y.m y.e low mode) low⟩:ExV)=ex0
 rw[hq,jQ];rfl
theorem ZP(x y:ExV)(hx:x.bd (-400000) 400000)(hy:y.bd (-400000) 400000):Con Tryz.prog 92 true [.ag [.v (.bool (x).s),.sl (lim (x).m).length (qg (lim (x).m)),.v (.int .i64 (x).e)],.ag [.v (.bool (y).s),.sl (lim (y).m).length (qg (lim (y).m)),.v (.int .i64 (y).e)]] [] (isA (.v (.int .i64 (x.cmp y)))):=by
 have e:=Yw (K:=400000) (x:=x) (y:=y) (by have:=hx.2.1;omega) (by have:=hy.2.1;omega)
 rw[e]
 obtain⟨a1,a2,a3⟩:=hx
 obtain⟨b1,b2,b3⟩:=hy
 exact ahW 400000 x.s x.m x.e y.s y.m y.e (by omega) (by omega) (by omega) (by omega) (by omega) (by omega) a1 b1
theorem acC(x y:ExV):x.cmp y= -(y.cmp x):=by
 obtain⟨K,hK⟩:∃K:Nat, -(K:Int)≤x.e∧ -(K:Int)≤y.e:=⟨(max (-x.e) (-y.e)).toNat,by omega,by omega⟩
 rw[Yw hK.1 hK.2,Yw hK.2 hK.1]
 unfold zF
 split<;>(try split)<;>(try split)<;>omega
theorem arG(x y:ExV)(hx:x.bd (-400000) 400000)(hy:y.bd (-400000) 400000):Con Tryz.prog 265 false [.ag [.v (.bool (x).s),.sl (lim (x).m).length (qg (lim (x).m)),.v (.int .i64 (x).e)],.ag [.v (.bool (y).s),.sl (lim (y).m).length (qg (lim (y).m)),.v (.int .i64 (y).e)]] [] (isA (.ag [.v (.bool (Q6 x y).s),.sl (lim (Q6 x y).m).length (qg (lim (Q6 x y).m)),.v (.int .i64 (Q6 x y).e)])):=by
 refine Con.frzA ?_
 have cc:=ZP x y hx hy
 have hf:=acC x y
 unfold Q6
 generalize x.cmp y=C at*
 generalize y.cmp x=D at*
 refine Con.of_w (rs:=[.cell 4 44]) Tryz.func265 rfl Tryz.ntmps265 rfl ?_
 simp(disch:=omega)only[go_sem]
 refine qm (cc) ?_
 simp(disch:=omega)only[go_sem]
 by_cases h:C≤0
 ·simp(disch:=omega)only[go_sem,decide_eq_true h]
  rw[if_neg (by omega)]
  exact qo
 ·simp(disch:=omega)only[go_sem,decide_eq_false h]
  rw[if_pos (by omega)]
  exact qo
theorem aa9(x y:ExV)(hx:x.bd (-400000) 400000)(hy:y.bd (-400000) 400000):Con Tryz.prog 152 false [.ag [.v (.bool (x).s),.sl (lim (x).m).length (qg (lim (x).m)),.v (.int .i64 (x).e)],.ag [.v (.bool (y).s),.sl (lim (y).m).length (qg (lim (y).m)),.v (.int .i64 (y).e)]] [] (isA (.ag [.v (.bool (jR x y).s),.sl (lim (jR x y).m).length (qg (lim (jR x y).m)),.v (.int .i64 (jR x y).e)])):=by
 refine Con.frzA ?_
 have cc:=ZP x y hx hy
 have hf:=acC x y
 unfold jR
 generalize x.cmp y=C at*
 generalize y.cmp x=D at*
 refine Con.of_w (rs:=[.cell 4 44]) Tryz.func152 rfl Tryz.ntmps152 rfl ?_
 simp(disch:=omega)only[go_sem]
 refine qm (cc) ?_
 simp(disch:=omega)only[go_sem]
 by_cases h:0≤C
 ·simp(disch:=omega)only[go_sem,decide_eq_true h]
  rw[if_neg (by omega)]
  exact qo
 ·simp(disch:=omega)only[go_sem,decide_eq_false h]
  rw[if_pos (by omega)]
  exact qo
theorem ZN(x:ExV)(hx:x.bd (-400000) 400000):Con Tryz.prog 103 false [.ag [.v (.bool (x).s),.sl (lim (x).m).length (qg (lim (x).m)),.v (.int .i64 (x).e)]] [] (isA (.ag [.v (.bool (x.neg).s),.sl (lim (x.neg).m).length (qg (lim (x.neg).m)),.v (.int .i64 (x.neg).e)])):=by
 have:=qx (m:=x.m) (B:=800000) (by have:=hx.2.1;have:=hx.2.2;omega)
 exact ahU x.s x.m x.e (by omega)
end Go.Ab
namespace Go.Ab
open Go Go.Proofs
def zpT(F:SpV→SpV→SpV)(l l':List SpV)(i:Nat):List SpV:=(List.range i).map fun i=>F (l.getD i sp0) (l'.getD i sp0)
theorem XK{x y:ExV}{low md:Int}(hy0:y.m≠0):(x.can.over y.can low md).can=(x.over y low md).can:=by
 by_cases h0:x.m=0
 ·rw[JO h0,JO (show x.can.m=0 by show oM x.m=0;rw[h0,jQ])]
 have ex:x.can.e=x.e+tz x.m:=by show oE x.m x.e=_;unfold oE;rw[if_neg h0]
 have mx:x.can.m*2^tz x.m=x.m:=ZZ
 have sx:x.can.s=x.s:=by show oS x.s x.m=x.s;unfold oS;rw[if_neg h0]
 have ey:y.can.e=y.e+tz y.m:=by show oE y.m y.e=_;unfold oE;rw[if_neg hy0]
 have my:y.can.m*2^tz y.m=y.m:=ZZ
 have sy:y.can.s=y.s:=by show oS y.s y.m=y.s;unfold oS;rw[if_neg hy0]
 have hq:ovQ (x.s != y.s) x.can.m x.can.e y.can.m y.can.e low md=ovQ (x.s != y.s) x.m x.e y.m y.e low md:=by
  unfold ovQ ovA
  obtain⟨k,hk⟩:∃k,k=x.e-y.e-low:=⟨_,rfl⟩
  obtain⟨k',hk'⟩:∃k',k'=x.can.e-y.can.e-low:=⟨_,rfl⟩
  rw[←hk,←hk']
  refine(ane (i:=tz x.m+k.toNat) (i':=k'.toNat) ?_ ?_).1
  ·rw[←mx]
   rw[mx]
   conv=>rhs;rw[←mx]
   rw[Nat.mul_assoc,Nat.mul_assoc,Nat.mul_assoc,←Nat.pow_add,←Nat.pow_add,←Nat.pow_add]
   congr 2
   omega
  ·conv=>rhs;rw[←my]
   rw[Nat.mul_assoc,Nat.mul_assoc,Nat.mul_assoc,←Nat.pow_add,←Nat.pow_add,←Nat.pow_add]
   congr 2
   omega
 unfold ExV.over
 rw[sx,sy,hq]
set_option maxRecDepth 100000 in
theorem aa8(n:Nat)(l:List ExV)(y:ExV)(hn:n≤4)(hl:l.length=n*n)(hb:gbd (-100000) 100000 l)(hy:y.bd (-100000) 100000):Con Tryz.prog 102 false [.ag [.v (.int .i64 (n)),.sl (l).length (qk ExV.cs (l))],.ag [.v (.bool (y).s),.sl (lim (y).m).length (qg (lim (y).m)),.v (.int .i64 (y).e)]] [] (isA (.ag [.v (.int .i64 n),.sl (l.map (fun x=>(x.times y).can)).length (qk ExV.cs (l.map (fun x=>(x.times y).can)))])):=by
 refine Con.frzA ?_
 have hq:=jq hn
 have hpost:l.map (fun x=>(x.times y).can)=mpT l (fun x=>(x.times y).can) (n*n):=by rw[←hl];exact Zx.symm
 rw[hpost]
 refine Con.of_aw Tryz.func102 rfl Tryz.ntmps102 (by simp) (by simp) (by simp) (W.sound ?_)
 show @W Tryz.prog 29 ⟨_⟩ ⟨fun x σ=>@q8 _ _ _ ⟨_⟩ _ ⟨_⟩ x σ⟩ _ _
 simp(disch:=omega)only[go_sem]
 refine qz (jS n hn) (by simp(disch:=omega)only[go_sem]) ?_
 rintro r hs ⟨rfl,rfl⟩
 refine⟨by simp[qB];simp(disch:=omega)only[go_sem],?_⟩
 simp(disch:=omega)only[go_sem]
 refine qj (fun i:Nat=>[(2,.pt 2 0),(3,.pt 3 0),(4,.pt 4 0),(5,.pt 5 0),(6,.v (.int .i64 i))])
  (fun i=>[(1,.own 3 (qk ExV.cs (mpT l (fun x=>(x.times y).can) i)++zA (n*n-i) z3)),(2,.own 0 [.v (.int .i64 n),.sl l.length (qk ExV.cs l)]),(3,.own 0 [.v (.bool y.s),.sl (lim y.m).length (qg (lim y.m)),.v (.int .i64 y.e)]),(4,.own 0 [.v (.int .i64 0),.v (.slice none 0 0)]),(5,.own 0 [.v (.int .i64 n),.rf 1 0 (n*n)])]) (fun i=>i≤n*n) (fun i=>n*n-i) 0 (by omega)
  (Le.lst [(1,110000000),(2,40000000),(3,50000000),(4,60000000),(5,70000000)] _ _ rfl (by simp(disch:=omega)only[go_sem]) (by simp(disch:=omega)only[go_sem,Nat.sub_zero,show mpT l (fun x=>(x.times y).can) 0=[] from rfl,j8,List.nil_append])) ?_
 intro i hi
 simp(disch:=omega)only[go_sem]
 refine qh (fun h1=>?_) (fun h1=>?_)
 ·have hi2:i<n*n:=by omega
  obtain⟨k0,hk0⟩:∃k0,n*n-i=k0+1:=⟨n*n-i-1,by omega⟩
  have hk1:n*n-(i+1)=k0:=by omega
  have hAl:(mpT l (fun x=>(x.times y).can) i).length=i:=jY (by omega)
  have hs:=Q4 (F:=fun x=>(x.times y).can) ex0 (l:=l) (i:=i) (by omega)
  have hc:=zJ (l:=l) (i:=i) (by omega)
  have hx:=hb (l.getD i ex0) (by rw[List.getD_eq_getElem?_getD,List.getElem?_eq_getElem (by omega)];exact List.getElem_mem _)
  generalize l.getD i ex0=x at*
  have c1:=ZO x y (hx.mono (by omega) (by omega)) (hy.mono (by omega) (by omega))
  generalize (x.times y).can=w at*
  rw[hk0]
  generalize mpT l (fun x=>(x.times y).can) i=A at*
  obtain rfl:A.length=i:=hAl
  simp(disch:=omega)only[go_sem,h1]
  refine qs rfl [⟨0,[],[]⟩,⟨1,[],[]⟩,⟨2,[1],[]⟩,⟨3,[1],[]⟩,⟨4,[1],[]⟩,⟨5,[1,4],[]⟩,⟨6,[1],[]⟩,⟨7,[1],[]⟩,⟨8,[1,4,7],[]⟩,⟨9,[1],[]⟩,⟨10,[],[]⟩,⟨11,[],[]⟩] (by kernel_rfl) ?_
  simp(disch:=omega)only[go_sem,hc]
  refine⟨by omega,by omega,?_⟩
  refine qa (c1) ?_
  simp(disch:=omega)only[go_sem]
  rw[Qs]
  exact⟨by omega,by rw[List.length_append,y5,ZV];omega,qe (A.length+1) [] (by show A.length+1≤n*n;omega) (by show n*n-(A.length+1)<k0+1;omega) rfl (by simp(disch:=omega)only[go_sem];try omega) (by simp(disch:=omega)only[go_sem,hk1,hs])⟩
 ·simp(disch:=omega)only[go_sem,h1]
  obtain rfl:i=n*n:=by omega
  have hll:(mpT l (fun x=>(x.times y).can) (n*n)).length=n*n:=jY (by omega)
  rw[hll]
  refine ql [(0,1)] [.own 3 (qk ExV.cs (mpT l (fun x=>(x.times y).can) (n*n)))] [] [.ag [.v (.int .i64 n),.rf 0 0 (n*n)]] rfl (by simp(disch:=omega)only[go_sem]) (by simp(disch:=omega)only[go_sem,Nat.sub_self,YT,List.append_nil]) (by simp) (by simp) ?_
  show qE _ 6 _=_
  simp(disch:=omega)only[go_sem,zg,zv hll]
def aBF(s t:SpV):SpV:=⟨Xa ((Zb ExV.times s t).map ExV.can),jt ((Zb ExV.times s t).map ExV.can)⟩
def csD(n:Nat)(l l':List SpV)(i j:Nat):Nat→SpV
 |0=>sp0
 |k+1=>((csD n l l' i j k).plus (aBF (l.getD (i*n+k) sp0) (l'.getD (k*n+j) sp0))).can
def scT(n:Nat)(l l':List SpV)(k:Nat):List SpV:=gly n (fun i j=>csD n l l' i j n) k
end Go.Ab
namespace Go.Ab
open Go Go.Proofs
/-! ### The specification's exponential-/
theorem aij(x y:ExV):x.can.cmp y.can=x.cmp y:=by
 obtain⟨K,hK⟩:∃K:Nat, -(K:Int)≤x.e∧ -(K:Int)≤y.e:=⟨(max (-x.e) (-y.e)).toNat,by omega,by omega⟩
 rw[Yw (ju hK.1) (ju hK.2),Yw hK.1 hK.2,jz hK.1,jz hK.2]
theorem ak9(x y:ExV):jR x.can y.can=(jR x y).can:=by
 unfold jR
 rw[aij]
 split<;>rfl
theorem aqe{x y:ExV}:(x.can.plus y.can.neg).can=(x.plus y.neg).can:=by
 obtain⟨K,hK⟩:∃K:Nat, -(K:Int)≤x.e∧ -(K:Int)≤y.e:=⟨(max (-x.e) (-y.e)).toNat,by omega,by omega⟩
 have e1: -(K:Int)≤y.can.neg.e:=ju hK.2
 have e2: -(K:Int)≤y.neg.e:=hK.2
 exact Z7 (JM (ju hK.1) e1) (JM hK.1 e2) (by rw[yu (ju hK.1) e1,yu hK.1 e2,agm,agm,jz hK.1,jz hK.2])
end Go.Ab
namespace Go.Ab
open Go Go.Proofs
/-! ### The specification's own simp(disch:=omega)only[go_sem] to the exponential:sizes and numbers of steps-/
theorem js(x y:ExV):(x.can.plus y).can=(x.plus y).can:=by
 obtain⟨K,hK⟩:∃K:Nat, -(K:Int)≤x.e∧ -(K:Int)≤y.e:=⟨(max (-x.e) (-y.e)).toNat,by omega,by omega⟩
 exact Z7 (JM (ju hK.1) hK.2) (JM hK.1 hK.2) (by rw[yu (ju hK.1) hK.2,yu hK.1 hK.2,jz hK.1])
theorem J7:ex0.can=ex0:=VZ ahk
def csN(n:Nat)(l:List ExV)(j:Nat):Nat→ExV
 |0=>ex0
 |k+1=>((csN n l j k).plus (l.getD (k*n+j) ex0).abs).can
def nsN(n:Nat)(l:List ExV):Nat→ExV
 |0=>ex0
 |j+1=>jR (nsN n l j) (csN n l j n)
theorem aaS{n:Nat}{l:List ExV}{j:Nat}:∀k,csN n l j k=(aes n l j k).can
 |0=>J7.symm
 |k+1=>by
  show((csN n l j k).plus _).can=_
  rw[aaS k,js,KT]
theorem JR{n:Nat}{l:List ExV}:∀j,nsN n l j=(zx n l j).can
 |0=>J7.symm
 |j+1=>by
  show jR (nsN n l j) _=_
  rw[JR j,aaS,ak9,Zv];rfl
theorem ahS(x:ExV)(hx:(lim x.m).length≤2^39):Con Tryz.prog 151 false [.ag [.v (.bool (x).s),.sl (lim (x).m).length (qg (lim (x).m)),.v (.int .i64 (x).e)]] [] (isA (.ag [.v (.bool (x.abs).s),.sl (lim (x.abs).m).length (qg (lim (x.abs).m)),.v (.int .i64 (x.abs).e)])):=by
 refine Con.frzA ?_
 have c:=qP false x.m hx
 rw[Bool.false_and]at c
 unfold ExV.abs
 refine Con.of_w (rs:=[.cell 2 44]) Tryz.func151 rfl Tryz.ntmps151 rfl ?_
 simp(disch:=omega)only[go_sem]
 refine qs rfl [⟨0,[],[]⟩,⟨1,[],[]⟩,⟨2,[],[]⟩,⟨4,[2],[]⟩,⟨5,[2],[]⟩,⟨3,[5],[]⟩,⟨6,[],[]⟩,⟨7,[],[]⟩] (by kernel_rfl) ?_
 simp(disch:=omega)only[go_sem]
 refine qa (c) ?_
 simp(disch:=omega)only[go_sem]
 exact qo
set_option maxRecDepth 100000 in
theorem ZM(n:Nat)(l:List ExV)(hn:n≤4)(hl:l.length=n*n)(hb:gbd (-390000) 390000 l):Con Tryz.prog 93 false [.ag [.v (.int .i64 (n)),.sl (l).length (qk ExV.cs (l))]] [] (isA (.ag [.v (.bool ((zx n l n).can).s),.sl (lim ((zx n l n).can).m).length (qg (lim ((zx n l n).can).m)),.v (.int .i64 ((zx n l n).can).e)])):=by
 refine Con.frzA ?_
 have hq:=jq hn
 rw[←JR]
 refine Con.of_w (rs:=[.cell 2 44]) Tryz.func93 rfl Tryz.ntmps93 rfl ?_
 simp(disch:=omega)only[go_sem]
 refine qj (fun j:Nat=>[(1,.pt 1 0),(2,.pt 2 0),(3,.pt 3 0),(4,.v (.int .i64 j))])
  (fun j=>[(1,.own 0 [.v (.int .i64 n),.sl l.length (qk ExV.cs l)]),(2,.own 0 [.v (.bool false),.v (.slice none 0 0),.v (.int .i64 0)]),(3,.own 0 [.v (.bool (nsN n l j).s),.sl (lim (nsN n l j).m).length (qg (lim (nsN n l j).m)),.v (.int .i64 (nsN n l j).e)])]) (fun j=>j≤n) (fun j=>n-j) 0 (by omega)
  ((Le.nilC 50000000 1 (zo:=0) (cs:=[.v (.bool false),.v (.slice none 0 0),.v (.int .i64 0)]) (by simp(disch:=omega)only[go_sem]) rfl).trans (Le.lst [(1,30000000),(2,40000000),(3,50000000)] _ _ rfl (by simp(disch:=omega)only[go_sem]) (by simp(disch:=omega)only[go_sem,List.set_cons_succ,List.set_cons_zero,show nsN n l 0=ex0 from rfl,ex0,qt]))) ?_
 intro j hj
 have hN:(nsN n l j).bd (-390000) 390004:=by
  rw[JR]
  have:=Qk hl hb (by omega) j hj
  exact(zM this (by omega) (by omega)).mono (by omega) (by omega)
 have hNs:nsN n l (j+1)=jR (nsN n l j) (csN n l j n):=rfl
 generalize hNN:nsN n l j=A at*
 simp(disch:=omega)only[go_sem]
 refine qh (fun h1=>?_) (fun h1=>?_)
 ·simp(disch:=omega)only[go_sem,h1]
  refine qj (fun k:Nat=>[(1,.pt 1 0),(2,.pt 2 0),(3,.pt 3 0),(4,.v (.int .i64 j)),(5,.pt 4 0),(6,.v (.int .i64 k))])
   (fun k=>[(1,.own 0 [.v (.int .i64 n),.sl l.length (qk ExV.cs l)]),(2,.own 0 [.v (.bool false),.v (.slice none 0 0),.v (.int .i64 0)]),(3,.own 0 [.v (.bool A.s),.sl (lim A.m).length (qg (lim A.m)),.v (.int .i64 A.e)]),(4,.own 0 [.v (.bool (csN n l j k).s),.sl (lim (csN n l j k).m).length (qg (lim (csN n l j k).m)),.v (.int .i64 (csN n l j k).e)])]) (fun k=>k≤n) (fun k=>n-k) 0 (by omega)
   ((Le.nilC 70000000 1 (zo:=0) (cs:=[.v (.bool false),.v (.slice none 0 0),.v (.int .i64 0)]) (by simp(disch:=omega)only[go_sem]) rfl).trans (Le.lst [(4,70000000)] _ _ rfl (by simp(disch:=omega)only[go_sem]) (by simp(disch:=omega)only[go_sem,List.set_cons_succ,List.set_cons_zero,show csN n l j 0=ex0 from rfl,ex0,qt]))) ?_
  intro k hk
  have hC:(csN n l j k).bd (-390000) 390004:=by
   rw[aaS]
   have:=abu (k:=k) (show j<n by omega) hk hl hb (by omega)
   exact(zM this (by omega) (by omega)).mono (by omega) (by omega)
  have hCs:csN n l j (k+1)=((csN n l j k).plus (l.getD (k*n+j) ex0).abs).can:=rfl
  generalize hCC:csN n l j k=D at*
  simp(disch:=omega)only[go_sem]
  refine qh (fun h2=>?_) (fun h2=>?_)
  ·have hx:=q7 (show k<n by omega) (show j<n by omega)
   have e1:(k:Int)*(n:Int)+(j:Int)=((k*n+j:Nat):Int):=by rw[Int.natCast_add,Int.natCast_mul]
   have hp1:(k:Int)*(n:Int)≤16∧0≤(k:Int)*(n:Int):=by rw[←Int.natCast_mul];omega
   have g1:=zJ (l:=l) (i:=k*n+j) (by omega)
   have b1:=qF hb (show k*n+j<l.length by omega)
   have l1:k*n+j<l.length:=by omega
   generalize l.getD (k*n+j) ex0=x at*
   generalize k*n+j=p at*
   have c1:=ahS x (by have:=qx (m:=x.m) (B:=800000) (by have:=b1.2;omega);omega)
   have c2:=Qt D x.abs (hC.mono (by omega) (by omega)) (ExV.abs_bd (b1.mono (by omega) (by omega)))
   rw[←hCs]at c2
   simp(disch:=omega)only[go_sem,h2]
   refine qs rfl [⟨0,[],[]⟩,⟨1,[0],[]⟩,⟨2,[0],[]⟩,⟨3,[0,2],[]⟩,⟨4,[0,2],[]⟩,⟨5,[0,2],[]⟩,⟨6,[0,2],[]⟩,⟨7,[0,2,5],[]⟩,⟨8,[0,2],[]⟩,⟨9,[0],[]⟩,⟨10,[0],[]⟩,⟨11,[0],[]⟩,⟨12,[],[]⟩,⟨13,[],[]⟩] (by kernel_rfl) ?_
   simp(disch:=omega)only[go_sem,e1,g1]
   refine⟨by omega,by omega,?_⟩
   refine qa (c1) ?_
   simp(disch:=omega)only[go_sem]
   refine qa (c2) ?_
   simp(disch:=omega)only[go_sem]
   exact qe (k+1) [] (by show k+1≤_;omega) (by show n-(k+1)<n-k;omega) rfl (by simp(disch:=omega)only[go_sem];try omega) (by simp(disch:=omega)only[go_sem])
  ·obtain rfl:n=k:=by omega
   rw[hCC]at hNs
   have cm:=aa9 A D (hN.mono (by omega) (by omega)) (hC.mono (by omega) (by omega))
   rw[←hNs]at cm
   simp(disch:=omega)only[go_sem,h2]
   refine qa (cm) ?_
   simp(disch:=omega)only[go_sem]
   exact qe (j+1) [] (by show j+1≤_;omega) (by show n-(j+1)<n-j;omega) rfl (by simp(disch:=omega)only[go_sem];try omega) (by simp(disch:=omega)only[go_sem])
 ·simp(disch:=omega)only[go_sem,h1]
  obtain rfl:n=j:=by omega
  rw[hNN]
  exact qo
end Go.Ab
namespace Go.Ab
open Go Go.Proofs
theorem Yj(x:ExV)(h:x.bd (-400000) 400000):Con Tryz.prog 94 false [.ag [.v (.bool (x.s)),.sl (lim (x.m)).length (qg (lim (x.m)))],.v (.int .i64 x.e)] [] (isA (.ag [.v (.bool (x.can).s),.sl (lim (x.can).m).length (qg (lim (x.can).m)),.v (.int .i64 (x.can).e)])):=by
 obtain⟨a,b,c⟩:=h
 exact jI x.s x.m x.e (by omega) (by omega)
theorem Yl:Con Tryz.prog 95 false [.v (.int .i64 1)] [] (isA (.ag [.v (.bool (false)),.sl (lim (1)).length (qg (lim (1)))])):=acz 1 (by omega)
def pwE(k:Int):ExV:=⟨false,1,k⟩
theorem aao{k:Int}:(pwE k).can=pwE k:=by
 have h0:oM 1*2^tz 1=1:=ZZ
 have h1:oM 1=1:=Nat.eq_one_of_mul_eq_one_right h0
 have h2:2^tz 1=1:=Nat.eq_one_of_mul_eq_one_left h0
 have h3:tz 1=0:=by
  rcases Nat.eq_zero_or_pos (tz 1)with c|c
  ·exact c
  ·have:2^1≤2^tz 1:=Nat.pow_le_pow_right (by omega) c
   omega
 show(⟨oS false 1,oM 1,oE 1 k⟩:ExV)=⟨false,1,k⟩
 have h4:oE 1 k=k:=by
  unfold oE
  rw[if_neg (by decide),h3];omega
 rw[h1,h4];rfl
theorem atV{k lo hi:Int}(h1:lo≤k)(h2:1+k≤hi):(pwE k).bd lo hi:=⟨fun _=>rfl,h1,by show(bl 1:Int)+k≤hi;have:bl 1≤1:=zN.2 (by decide);omega⟩
theorem acy(k:Int)(h: -300000≤k∧k≤300000):Con Tryz.prog 94 false [.ag [.v (.bool (false)),.sl (lim (1)).length (qg (lim (1)))],.v (.int .i64 k)] [] (isA (.ag [.v (.bool (pwE k).s),.sl (lim (pwE k).m).length (qg (lim (pwE k).m)),.v (.int .i64 (pwE k).e)])):=by
 have:=Yj (pwE k) (atV (by omega) (by omega))
 rw[aao]at this
 exact this
set_option maxRecDepth 100000 in
theorem Vm(n:Nat)(hn:n≤4):Con Tryz.prog 42 false [.v (.int .i64 n)] [] (isA (.ag [.v (.int .i64 (n)),.sl (gId n).length (qk ExV.cs (gId n))])):=by
 refine Con.frzA ?_
 have hq:=jq hn
 have hg:gId n=dgE n (pwE 0):=by
  rcases(show n=0∨n=1∨n=2∨n=3∨n=4 by omega)with rfl|rfl|rfl|rfl|rfl<;>rfl
 have hgl:(dgE n (pwE 0)).length=n*n:=by show(List.map _ _).length=_;rw[List.length_map,aaR]
 have hz0:qk ocs (dgO n (pwE 0) 0)=zA (n*n) z3:=ab3.symm
 have cp:=acy 0 (by omega)
 rw[hg]
 generalize hy:pwE 0=y at*
 refine Con.of_aw Tryz.func42 rfl Tryz.ntmps42 (by simp) (by simp) (by simp) (W.sound ?_)
 show @W Tryz.prog 23 ⟨_⟩ ⟨fun x σ=>@q8 _ _ _ ⟨_⟩ _ ⟨_⟩ x σ⟩ _ _
 simp(disch:=omega)only[go_sem]
 refine qz (jS n hn) (by simp(disch:=omega)only[go_sem]) ?_
 rintro r hs ⟨rfl,rfl⟩
 refine⟨by simp[qB];simp(disch:=omega)only[go_sem],?_⟩
 simp(disch:=omega)only[go_sem]
 refine qj (fun i:Nat=>[(0,.v (.int .i64 n)),(2,.pt 2 0),(3,.pt 3 0),(4,.v (.int .i64 i))])
  (fun i=>[(1,.own 3 (qk ocs (dgO n y i))),(2,.own 0 [.v (.int .i64 0),.v (.slice none 0 0)]),(3,.own 0 [.v (.int .i64 n),.rf 1 0 (n*n)])]) (fun i=>i≤n) (fun i=>n-i) 0 (by omega)
  (Le.lst [(1,80000000),(2,40000000),(3,50000000)] _ _ rfl (by simp(disch:=omega)only[go_sem]) (by simp(disch:=omega)only[go_sem,hz0];try rfl)) ?_
 intro i hi
 simp(disch:=omega)only[go_sem]
 refine qh (fun c1=>?_) (fun c1=>?_)
 ·have hi2:i<n:=by omega
  have hx:=q7 hi2 hi2
  have hl:=@aaR n i y
  have hset:=aga (l:=dgO n y i) (i:=i*n+i) (x:=y) (by omega)
  have e1:(i:Int)*n+i=((i*n+i:Nat):Int):=by rw[Int.natCast_add,Int.natCast_mul]
  have hp1:(i:Int)*(n:Int)≤16∧0≤(i:Int)*(n:Int):=by
   have:i*n≤n*n:=Nat.mul_le_mul_right _ (by omega)
   rw[←Int.natCast_mul];omega
  simp(disch:=omega)only[go_sem,c1]
  refine qs rfl [⟨0,[],[]⟩,⟨1,[],[]⟩,⟨2,[1],[]⟩,⟨3,[1],[]⟩,⟨4,[1],[]⟩,⟨5,[1],[]⟩,⟨6,[1],[]⟩,⟨7,[1],[]⟩,⟨8,[1],[]⟩,⟨9,[],[]⟩,⟨10,[],[]⟩] (by kernel_rfl) ?_
  simp(disch:=omega)only[go_sem,e1]
  refine qa (Yl) ?_
  simp(disch:=omega)only[go_sem]
  refine qa (cp) ?_
  simp(disch:=omega)only[go_sem]
  rw[hset]
  exact⟨⟨by omega,by omega⟩,by rw[hl];omega,qe (i+1) [] (by show i+1≤n;omega) (by show n-(i+1)<n-i;omega) rfl (by simp(disch:=omega)only[go_sem];try omega) (by simp(disch:=omega)only[go_sem,dgO])⟩
 ·simp(disch:=omega)only[go_sem,c1]
  obtain rfl:i=n:=by omega
  have hcut:cut (qk ocs (dgO i y i)) 0 (i*i*3)=qk ocs (dgO i y i):=by
   unfold cut
   rw[List.drop_zero,List.take_of_length_le (by rw[aat,aaR];exact Nat.le_refl _)]
  refine ql [(0,1)] [.own 3 (qk ocs (dgO i y i))] [] [.ag [.v (.int .i64 i),.rf 0 0 (i*i)]] rfl (by simp(disch:=omega)only[go_sem]) (by simp(disch:=omega)only[go_sem]) (by simp) (by simp) ?_
  show qE _ 6 _=_
  rw[hgl]
  simp(disch:=omega)only[go_sem,zg,hcut,ab4]
  rfl
end Go.Ab
namespace Go.Ab
open Go Go.Proofs
/-! ### The specification's exponential,held-/
def aB7(K:Nat)(s:SpV):Prop:=s.eK K∧s.lo.val K≤s.hi.val K
def seK(K:Nat)(l:List SpV):Prop:=∀s∈l,s.eK K
theorem adi{n:Nat}{L:List ExV}{y:ExV}(hl:L.length=n*n):L.map (fun x=>(x.times y).can)=(zp n L y).map ExV.can:=by
 have e:zp n L y=L.map fun x=>x.times y:=by
  have a:L.map (fun x=>x.times y)=mpT L (fun x=>x.times y) (n*n):=by rw[←hl];exact Zx.symm
  rw[a]
  unfold zp gl mpT
  have et:∀t,t/n*n+t % n=t:=fun t=>by rw[Nat.mul_comm];exact Nat.div_add_mod t n
  apply List.ext_getElem
  ·simp[hl]
  ·intro i h1 h2
   simp only[List.length_map,List.length_range]at h1
   simp[et,List.getD_eq_getElem?_getD,List.getElem?_eq_getElem (show i<L.length by omega)]
 rw[e,List.map_map]
 rfl
end Go.Ab
namespace Go.Ab
open Go Go.Proofs
/-! ### The specification's exponential of a matrix and of a number-/
theorem abd(low:Int):Con Tryz.prog 91 true [.v (.int .i64 low)] [] (isA (.v (.bool (decide (-120≤low)&&decide (low≤0))))):=by
 by_cases h1: -120≤low
 ·rw[decide_eq_true h1,Bool.true_and]
  refine Con.of_w (rs:=[.tmp 2]) Tryz.func91 rfl Tryz.ntmps91 rfl ?_
  simp(disch:=omega)only[go_sem,h1]
  exact qu
 ·rw[decide_eq_false h1,Bool.false_and]
  refine Con.of_w (rs:=[.tmp 2]) Tryz.func91 rfl Tryz.ntmps91 rfl ?_
  simp(disch:=omega)only[go_sem,h1]
  exact qu
theorem ZQ(n:Nat)(L:List ExV)(low:Int)(h:matV n L):Con Tryz.prog 40 false [.ag [.v (.int .i64 (n)),.sl (L).length (qk ExV.cs (L))],.v (.int .i64 low)] [] (isA (.v (.bool (aiJ n L low)))):=by
 refine Con.frzA ?_
 have cw:=abd low
 have cm:=abr n L h
 have cn:=ZM n L h.n4 h.len (qq h.bd (by omega) (by omega))
 have bN:=Qk h.len h.bd (by omega) n (Nat.le_refl n)
 have h4:=h.n4
 have bX:(exN 64).bd (-400000) 400000:=(anA (by decide)).mono (by omega) (by omega)
 have cc:=ZP (zx n L n).can (exN 64).can ((zM bN (by omega) (by omega)).mono (by omega) (by omega)) (zM bX (by omega) (by omega))
 rw[aij]at cc
 have c3:Con Tryz.prog 95 false [.v (.int .i64 64)] [] (isA (.ag [.v (.bool (false)),.sl (lim (64)).length (qg (lim (64)))])):=acz 64 (by omega)
 have c4:Con Tryz.prog 94 false [.ag [.v (.bool (false)),.sl (lim (64)).length (qg (lim (64)))],.v (.int .i64 0)] [] (isA (.ag [.v (.bool ((exN 64).can).s),.sl (lim ((exN 64).can).m).length (qg (lim ((exN 64).can).m)),.v (.int .i64 ((exN 64).can).e)])):=Yj (exN 64) bX
 unfold aiJ
 generalize (zx n L n).cmp (exN 64)=C at*
 generalize (zx n L n).can=y at*
 generalize (exN 64).can=z at*
 cases hw:(decide (-120≤low)&&decide (low≤0))
 ·rw[hw]at cw
  refine Con.of_w (rs:=[.tmp 4]) Tryz.func40 rfl Tryz.ntmps40 rfl ?_
  simp(disch:=omega)only[go_sem]
  refine qm (cm) ?_
  simp(disch:=omega)only[go_sem]
  refine qm (cw) ?_
  simp(disch:=omega)only[go_sem]
  exact qo
 ·rw[hw]at cw
  rw[Bool.true_and]
  refine Con.of_w (rs:=[.tmp 4]) Tryz.func40 rfl Tryz.ntmps40 rfl ?_
  simp(disch:=omega)only[go_sem]
  refine qm (cm) ?_
  simp(disch:=omega)only[go_sem]
  refine qm (cw) ?_
  simp(disch:=omega)only[go_sem]
  refine qa (cn) ?_
  simp(disch:=omega)only[go_sem]
  refine qa (c3) ?_
  simp(disch:=omega)only[go_sem]
  refine qa (c4) ?_
  simp(disch:=omega)only[go_sem]
  refine qm (cc) ?_
  simp(disch:=omega)only[go_sem]
  exact qo
/-! ### One number-/
end Go.Ab
namespace Go.Ab
open Go Go.Proofs
theorem Vk(k:Nat):Con Tryz.prog 88 true [.sl 0 [],.v (.int .i64 k)] [] (isA (.v (.int .i64 k))):=by
 refine Con.of_w (rs:=[.tmp 4]) Tryz.func88 rfl Tryz.ntmps88 rfl ?_
 simp(disch:=omega)only[go_sem]
 refine qj (fun _:Nat=>[(0,.sl 0 []),(1,.v (.int .i64 k)),(5,.v (.int .i64 0))]) (fun _=>[]) (fun _=>True) (fun _=>0) 0 trivial (Le.lst [] _ _ rfl (by simp(disch:=omega)only[go_sem]) (by simp(disch:=omega)only[go_sem])) ?_
 intro _ _
 simp(disch:=omega)only[go_sem]
 exact qu
theorem Ky(k:Nat):Con Tryz.prog 127 true [.ag [.sl 0 []],.v (.int .i64 k)] [] (isA (.v (.int .i64 k))):=by
 refine Con.of_w (rs:=[.tmp 4]) Tryz.func127 rfl Tryz.ntmps127 rfl ?_
 simp(disch:=omega)only[go_sem]
 refine qm (Vk k) ?_
 simp(disch:=omega)only[go_sem]
 exact qu
theorem YN(s:Bool)(k:Nat):Con Tryz.prog 60 true [.ag [.v (.bool s),.sl 0 []],.v (.int .i64 k)] [] (isA (.v (.int .i64 k))):=by
 refine Con.of_w (rs:=[.tmp 4]) Tryz.func60 rfl Tryz.ntmps60 rfl ?_
 simp(disch:=omega)only[go_sem]
 refine qm (Ky k) ?_
 simp(disch:=omega)only[go_sem]
 exact qu
theorem aa7(s:Bool)(e:Int)(k:Nat):Con Tryz.prog 20 true [.ag [.v (.bool s),.sl 0 [],.v (.int .i64 e)],.v (.int .i64 k)] [] (isA (.v (.int .i64 k))):=by
 refine Con.of_w (rs:=[.tmp 4]) Tryz.func20 rfl Tryz.ntmps20 rfl ?_
 simp(disch:=omega)only[go_sem]
 refine qm (YN s k) ?_
 simp(disch:=omega)only[go_sem]
 exact qu
theorem abf(k n:Nat)(hn:n≤2^40)(hk:k≤2^40):Con Tryz.prog 128 true [.ag [.sl n (qg (mkI k n))],.v (.int .i64 k)] [] (isA (.v (.int .i64 ((k+n:Nat):Int)))):=by
 have q:decide (((k+n:Nat):Int)<0)=false:=decide_eq_false (by omega)
 refine Con.of_w (rs:=[.tmp 4]) Tryz.func128 rfl Tryz.ntmps128 rfl ?_
 simp(disch:=omega)only[go_sem]
 refine qm (Z6 k n hn hk) ?_
 simp(disch:=omega)only[go_sem]
 simp(disch:=omega)only[go_sem,q]
 exact qu
theorem Vo(s:Bool)(k n:Nat)(hn:n≤2^40)(hk:k≤2^40):Con Tryz.prog 61 true [.ag [.v (.bool s),.sl n (qg (mkI k n))],.v (.int .i64 k)] [] (isA (.v (.int .i64 ((k+n:Nat):Int)))):=by
 have q:decide (((k+n:Nat):Int)<0)=false:=decide_eq_false (by omega)
 refine Con.of_w (rs:=[.tmp 4]) Tryz.func61 rfl Tryz.ntmps61 rfl ?_
 simp(disch:=omega)only[go_sem]
 refine qm (abf k n hn hk) ?_
 simp(disch:=omega)only[go_sem]
 simp(disch:=omega)only[go_sem,q]
 exact qu
theorem Xm(s:Bool)(e:Int)(k n:Nat)(hn:n≤2^40)(hk:k≤2^40):Con Tryz.prog 21 true [.ag [.v (.bool s),.sl n (qg (mkI k n)),.v (.int .i64 e)],.v (.int .i64 k)] [] (isA (.v (.int .i64 ((k+n:Nat):Int)))):=by
 have q:decide (((k+n:Nat):Int)<0)=false:=decide_eq_false (by omega)
 refine Con.of_w (rs:=[.tmp 4]) Tryz.func21 rfl Tryz.ntmps21 rfl ?_
 simp(disch:=omega)only[go_sem]
 refine qm (Vo s k n hn hk) ?_
 simp(disch:=omega)only[go_sem]
 simp(disch:=omega)only[go_sem,q]
 exact qu
end Go.Ab
namespace Go.Ab
open Go Go.Proofs
theorem aia(l:List DyV)(hl:l.length≤1048576)(hx:∀d∈l,d.xs.length≤2^60):Con Tryz.prog 36 true [.sl l.length (qk DyV.cs l),.sl l.length (qk DyV.cs l)] [] (isA (.v (.bool true))):=by
 refine Con.of_w (rs:=[.tmp 4]) Tryz.func36 rfl Tryz.ntmps36 rfl ?_
 simp(disch:=omega)only[go_sem]
 refine qj (fun i:Nat=>[(0,.sl l.length (qk DyV.cs l)),(1,.sl l.length (qk DyV.cs l)),(5,.v (.int .i64 i))]) (fun _=>[]) (fun i=>i≤l.length) (fun i=>l.length-i) 0 (by omega)
  (Le.lst [] _ _ rfl (by simp(disch:=omega)only[go_sem]) (by simp(disch:=omega)only[go_sem])) ?_
 intro i hi
 simp(disch:=omega)only[go_sem]
 refine qh (fun h1=>?_) (fun h1=>?_)
 ·have hi2:i<l.length:=by omega
  have hcut:=ahp (l:=l) (i:=i) hi2
  have hdm:(l.getD i dy0).xs.length≤2^60:=hx _ (by rw[List.getD_eq_getElem?_getD,List.getElem?_eq_getElem hi2];exact List.getElem_mem _)
  generalize l.getD i dy0=d at*
  simp(disch:=omega)only[go_sem,h1]
  refine qs rfl [⟨0,[],[]⟩,⟨1,[],[]⟩,⟨2,[],[]⟩,⟨3,[],[]⟩,⟨4,[3],[]⟩,⟨5,[3],[]⟩,⟨6,[3],[]⟩,⟨7,[3],[]⟩,⟨8,[],[]⟩,⟨9,[],[]⟩] (by kernel_rfl) ?_
  simp(disch:=omega)only[go_sem,hcut]
  refine⟨by omega,by omega,by omega,by omega,?_⟩
  refine qm (Vp d.s d.xs d.e hdm) ?_
  simp(disch:=omega)only[go_sem]
  exact qe (i+1) [] (by show i+1≤_;omega) (by show l.length-(i+1)<l.length-i;omega) rfl (by simp(disch:=omega)only[go_sem];try omega) (by simp(disch:=omega)only[go_sem])
 ·simp(disch:=omega)only[go_sem,h1]
  exact qu
theorem Zf(n:Int)(l:List DyV)(hl:l.length≤1048576)(hx:∀d∈l,d.xs.length≤2^60):Con Tryz.prog 10 true [.ag [.v (.int .i64 n),.sl l.length (qk DyV.cs l)],.ag [.v (.int .i64 n),.sl l.length (qk DyV.cs l)]] [] (isA (.v (.bool true))):=by
 have q:decide (n=n)=true:=decide_eq_true rfl
 refine Con.of_w (rs:=[.tmp 4]) Tryz.func10 rfl Tryz.ntmps10 rfl ?_
 simp(disch:=omega)only[go_sem]
 refine qm (aia l hl hx) ?_
 simp(disch:=omega)only[go_sem]
 exact qu
theorem j0{x:Nat}(hx:20000000≤x):zI x=false:=by
 unfold zI
 have:Nat.blt x 20000000=false:=by
  cases h:Nat.blt x 20000000 with
  |false=>rfl
  |true=>simp[Nat.blt]at h;omega
 rw[this,Bool.and_false]
theorem Qx{ρ:Nat→Nat}{h:Nat→Ob}{c n:Nat}{F:Nat→Ob}(hF:∀j,aap (F j)):YS ρ h c ((List.range n).map F)=fam c n F h:=by
 funext m
 rw[yF]
 unfold fam
 rw[List.length_map,List.length_range]
 by_cases hm:c≤m∧m<c+n
 ·rw[if_pos hm,if_pos hm,List.getD_eq_getElem?_getD,List.getElem?_map,List.getElem?_range (by omega)]
  exact(hF _).2.1 ρ
 ·rw[if_neg hm,if_neg hm]
theorem aak{c n:Nat}{l:List DyV}(hn:n<9000000):ze (rho c []) (qk (dcs 1) (prs l n))=qk (dcs (c+1)) (prs l n):=yk fun p hp=>by
 have:=JK hp
 unfold rho
 rw[if_pos (by omega)];omega
theorem yi{h:Nat→Ob}{c n:Nat}{row:Ob}{F:Nat→Ob}(hh:∀j,j≤n→h (c+j)=.free):qB h c (row::(List.range n).map F):=by
 have key:∀(L:List Ob) (k:Nat),(∀j,j<L.length→h (k+j)=.free)→qB h k L:=by
  intro L
  induction L with
  |nil=>intro k _;trivial
  |cons a L ih=>
   intro k hk
   refine⟨hk 0 (by simp),ih (k+1) fun j hj=>?_⟩
   have:=hk (j+1) (by simpa using hj)
   rwa[show k+1+j=k+(j+1) by omega]
 exact key _ c fun j hj=>hh j (by simp at hj;omega)
set_option maxRecDepth 100000 in
theorem ZG(n:Int)(l:List DyV)(hl:l.length≤1048576)(hx:∀d∈l,d.xs.length≤1048576):Con Tryz.prog 17 false [.ag [.v (.int .i64 n),.sl l.length (qk DyV.cs l)]] []
  (fun r hs bs=>r=.ag [.v (.int .i64 n),.rf 0 0 l.length]∧hs=.own 3 (qk (dcs 1) (prs l l.length))::(List.range l.length).map (agC l)):=by
 refine Con.of_w (rs:=[.cell 2 25]) Tryz.func17 rfl Tryz.ntmps17 rfl ?_
 simp(disch:=omega)only[go_sem]
 refine qz (ad2 l hl hx) (by simp(disch:=omega)only[go_sem]) ?_
 rintro r hs ⟨rfl,rfl⟩
 refine⟨⟨by simp;omega,yi fun j hj=>?_⟩,?_⟩
 ·rw[qi (by omega),qi (by omega),qi (by omega),qi (by omega),Xo (by omega)]
 have hrow:=@aak 110000000 l.length l (by omega)
 simp(disch:=omega)only[go_sem,Qx (zT l),qp,hrow]
 refine J3 (fun m=>110000000+m) (.own 3 (qk (dcs 1) (prs l l.length))) l.length (agC l) [.ag [.v (.int .i64 n),.rf 0 0 l.length]] (by omega) (by simp(disch:=omega)only[go_sem,alm,nmF,jv];try simp) ⟨?_,?_,trivial⟩ (fun j hj=>⟨?_,(zT l j).2.2 _,(zT l j).1⟩) (fun m hm=>j0 (by omega)) (fun m m' hm hm' e=>Nat.add_left_cancel e) (by simp) ⟨rfl,rfl⟩
 ·show Ob.own 3 (ze _ (qk (dcs 1) (prs l l.length)))=_
  rw[yk (a:=1) (b:=110000001) (fun p hp=>by omega),qi (by omega),qi (by omega),qp (by omega),qn]
 ·exact zB fun p hp=>.inr (by have:=JK hp;omega)
 ·rw[(zT l j).2.1,qi (by omega),qi (by omega),show 110000000+(1+j)=110000001+j by omega,qS hj]
end Go.Ab
namespace Go.Ab
open Go Go.Proofs
/-! ### Marks in a row of numbers-/
def prF(f:Nat→DyV)(n:Nat):List (Nat×DyV):=(List.range n).map fun j=>(j,f j)
def zt(f:Nat→DyV)(j:Nat):Ob:=.own 1 (qg (f j).xs)
theorem qw(f:Nat→DyV)(j:Nat):aap (zt f j):=⟨trivial,fun ρ=>by show Ob.own 1 (ze ρ (qg _))=_;rw[yf];rfl,fun p=>by show AllL p (qg _);exact Qo⟩
theorem apv{f:Nat→DyV}{n:Nat}:(prF f n).length=n:=by simp[prF]
theorem zW{f:Nat→DyV}{n:Nat}{p:Nat×DyV}(h:p∈prF f n):p.1<n:=by
 obtain⟨j,hj,rfl⟩:=List.mem_map.1 h
 exact List.mem_range.1 hj
def kAt(k:Nat)(f:Nat→DyV):Nat→Nat
 |0=>k
 |j+1=>kAt k f j+(f j).xs.length+2
def mkd(k:Nat)(f:Nat→DyV)(j:Nat):DyV:=⟨decide (((kAt k f j:Nat):Int) % 3=0),mkI (kAt k f j+1) (f j).xs.length,((kAt k f j+1+(f j).xs.length:Nat):Int)⟩
def yo(k:Nat)(f:Nat→DyV)(i j:Nat):DyV:=if j<i then mkd k f j else f j
theorem agr{k:Nat}{f:Nat→DyV}:yo k f 0=f:=by funext j;exact if_neg (by omega)
theorem aqm{k:Nat}{f:Nat→DyV}{i:Nat}:yo k f i i=f i:=if_neg (by omega)
def jV(S X E:Nat→AV)(n:Nat):List AV:=qk (fun j=>[S j,X j,E j]) (List.range n)
theorem zC{S X E:Nat→AV}{n:Nat}:(jV S X E n).length=n*3:=by
 unfold jV;rw[jN (z:=3) (fun _=>rfl),List.length_range]
theorem ji{S X E:Nat→AV}:∀(n m:Nat),(jV S X E n)[m]? =if m/3<n then some (if m % 3=0 then S (m/3)else if m % 3=1 then X (m/3)else E (m/3))else none
 |0,m=>by rw[if_neg (by omega)];rfl
 |n+1,m=>by
  have e:jV S X E (n+1)=jV S X E n++[S n,X n,E n]:=by
   unfold jV
   rw[List.range_succ,←yU,qT,yt,List.append_nil]
  rw[e]
  rcases Nat.lt_or_ge m (n*3)with c|c
  ·have h1:m/3<n:=by omega
   have h2:m/3<n+1:=by omega
   rw[List.getElem?_append_left (by rw[zC];exact c),ji n m,if_pos h1,if_pos h2]
  ·rw[List.getElem?_append_right (by rw[zC];exact c),zC]
   rcases(show m=n*3∨m=n*3+1∨m=n*3+2∨n*3+3≤m by omega)with rfl|rfl|rfl|c2
   ·rw[if_pos (by omega),if_pos (by omega),show n*3-n*3=0 by omega,show n*3/3=n by omega];rfl
   ·rw[if_pos (by omega),if_neg (by omega),if_pos (by omega),show n*3+1-n*3=1 by omega,show(n*3+1)/3=n by omega];rfl
   ·rw[if_pos (by omega),if_neg (by omega),if_neg (by omega),show n*3+2-n*3=2 by omega,show(n*3+2)/3=n by omega];rfl
   ·rw[if_neg (by omega),List.getElem?_eq_none (by simp;omega)]
theorem afR{S X E:Nat→AV}{n i:Nat}{x:AV}(hi:i<n):wr (jV S X E n) (i*3) [x]=jV (upd S i x) X E n:=by
 show(jV S X E n).set (i*3) x=_
 apply List.ext_getElem?
 intro m
 rw[List.getElem?_set,ji,ji,zC]
 by_cases hm:i*3=m
 ·subst hm
  rw[if_pos rfl,if_pos (by omega),if_pos (by omega),if_pos (by omega),show i*3/3=i by omega,qn]
 ·rw[if_neg hm]
  by_cases h1:m/3<n
  ·rw[if_pos h1,if_pos h1]
   by_cases h2:m % 3=0
   ·rw[if_pos h2,if_pos h2,qi (by omega)]
   ·rw[if_neg h2,if_neg h2]
  ·rw[if_neg h1,if_neg h1]
theorem afS{S X E:Nat→AV}{n i:Nat}{x:AV}(hi:i<n):wr (jV S X E n) (i*3+2) [x]=jV S X (upd E i x) n:=by
 show(jV S X E n).set (i*3+2) x=_
 apply List.ext_getElem?
 intro m
 rw[List.getElem?_set,ji,ji,zC]
 by_cases hm:i*3+2=m
 ·subst hm
  rw[if_pos rfl,if_pos (by omega),if_pos (by omega),if_neg (by omega),if_neg (by omega),show(i*3+2)/3=i by omega,qn]
 ·rw[if_neg hm]
  by_cases h1:m/3<n
  ·rw[if_pos h1,if_pos h1]
   by_cases h2:m % 3=0
   ·rw[if_pos h2,if_pos h2]
   ·rw[if_neg h2,if_neg h2]
    by_cases h3:m % 3=1
    ·rw[if_pos h3,if_pos h3]
    ·rw[if_neg h3,if_neg h3,qi (by omega)]
  ·rw[if_neg h1,if_neg h1]
theorem atH{S X E:Nat→AV}{n i:Nat}(hi:i<n):cut (jV S X E n) (i*3+1) 1=[X i]:=by
 have h:=ji (S:=S) (X:=X) (E:=E) n (i*3+1)
 rw[if_pos (by omega),if_neg (by omega),if_pos (by omega),show(i*3+1)/3=i by omega]at h
 obtain⟨h1,h2⟩:=List.getElem?_eq_some_iff.1 h
 unfold cut
 rw[List.drop_eq_getElem_cons h1,h2]
 rfl
def cS(f:Nat→DyV)(j:Nat):AV:=.v (.bool (f j).s)
def cX(b:Nat)(f:Nat→DyV)(j:Nat):AV:=.rf (b+j) 0 (f j).xs.length
def cE(f:Nat→DyV)(j:Nat):AV:=.v (.int .i64 (f j).e)
theorem arD{b:Nat}{f:Nat→DyV}{n:Nat}:qk (dcs b) (prF f n)=jV (cS f) (cX b f) (cE f) n:=by
 unfold qk jV prF qk
 rw[List.map_map];rfl
theorem V5{h:Nat→Ob}{sz n i:Nat}{S X E:Nat→AV}{K:AV→Prop}(hi:i<n):@yN false sz h (.fp (jV S X E n) (i*3+1)) ⟨K⟩=K (X i):=by
 have hg:=ji (S:=S) (X:=X) (E:=E) n (i*3+1)
 rw[if_pos (by omega),if_neg (by omega),if_pos (by omega),show(i*3+1)/3=i by omega]at hg
 rw[JT,asL,cond_false,zC,List.getD_eq_getElem?_getD,hg]
 exact propext ⟨fun h=>h.2,fun h=>⟨by omega,h⟩⟩
theorem akk{p:Nat→Prop}{S X E:Nat→AV}{n:Nat}(h:∀j,j<n→(S j).All p∧(X j).All p∧(E j).All p):AllL p (jV S X E n):=by
 unfold jV
 have key:∀L:List Nat,(∀j∈L,j<n)→AllL p (qk (fun j=>[S j,X j,E j]) L):=by
  intro L
  induction L with
  |nil=>intro _;trivial
  |cons a L ih=>
   intro hL
   rw[qT]
   obtain⟨h1,h2,h3⟩:=h a (hL a (List.mem_cons_self ..))
   exact⟨h1,h2,h3,ih fun j hj=>hL j (List.mem_cons_of_mem _ hj)⟩
 exact key _ fun j hj=>List.mem_range.1 hj
theorem akj{ρ:Nat→Nat}{S X E:Nat→AV}{n:Nat}(h:∀j,j<n→(S j).ren ρ=S j∧(X j).ren ρ=X j∧(E j).ren ρ=E j):ze ρ (jV S X E n)=jV S X E n:=by
 unfold jV
 have key:∀L:List Nat,(∀j∈L,j<n)→ze ρ (qk (fun j=>[S j,X j,E j]) L)=qk (fun j=>[S j,X j,E j]) L:=by
  intro L
  induction L with
  |nil=>intro _;rfl
  |cons a L ih=>
   intro hL
   obtain⟨h1,h2,h3⟩:=h a (hL a (List.mem_cons_self ..))
   rw[qT,Qj,ih fun j hj=>hL j (List.mem_cons_of_mem _ hj)]
   congr 1
   show [_,_,_]=_
   rw[h1,h2,h3]
 exact key _ fun j hj=>List.mem_range.1 hj
theorem adl{S X E S' X' E':Nat→AV}{n:Nat}(h:∀j,j<n→S j=S' j∧X j=X' j∧E j=E' j):jV S X E n=jV S' X' E' n:=by
 unfold jV qk
 congr 1
 refine List.map_congr_left fun j hj=>?_
 obtain⟨h1,h2,h3⟩:=h j (List.mem_range.1 hj)
 rw[h1,h2,h3]
def isV(a:AV):Prop:=∃x,a=.v x
theorem Le.sameF{σ:St}(E:List (Nat×AV))(n:Nat)(f g:Nat→DyV)(A C:Nat→AV)(hA:∀j,isV (A j))(hC:∀j,isV (C j))
  (hE:Jq id σ.env (nmF [10000000] 10000001 n) E) (h0:σ.hp 10000000=.own 3 (jV A (cX 10000001 f) C n)) (hF:∀j,j<n→σ.hp (10000001+j)=zt g j):
  Le σ ⟨ofL .un E,fam 10000001 n (zt g) (ofH [(10000000,.own 3 (jV A (cX 10000001 f) C n))])⟩:=by
 refine Le.famL id E [(10000000,.own 3 (jV A (cX 10000001 f) C n))] 10000001 n (zt g) rfl (fun q hq=>by rw[List.mem_singleton.1 hq];exact .inl (by show 10000000<10000001;omega)) hE ⟨⟨?_,?_,trivial⟩,trivial⟩
  (fun j hj=>⟨?_,(qw g j).2.2 _,(qw g j).1⟩) (fun m hm=>⟨fun h=>rfl,fun h=>h⟩) (fun m m' hm hm' h=>h)
 ·show Ob.own 3 (ze id _)=σ.hp 10000000
  rw[h0,akj fun j hj=>?_]
  obtain⟨x,hx⟩:=hA j
  obtain⟨y,hy⟩:=hC j
  rw[hx,hy]
  exact⟨rfl,rfl,rfl⟩
 ·show AllL _ _
  refine akk fun j hj=>?_
  obtain⟨x,hx⟩:=hA j
  obtain⟨y,hy⟩:=hC j
  rw[hx,hy]
  exact⟨trivial,.inr (by omega),trivial⟩
 ·rw[(qw g j).2.1]
  exact(hF j hj).symm
theorem aAk(f:Nat→DyV)(j:Nat):isV (cS f j):=⟨_,rfl⟩
theorem aAl(f:Nat→DyV)(j:Nat):isV (cE f j):=⟨_,rfl⟩
theorem auP{k:Nat}{f:Nat→DyV}{i:Nat}:upd (cS (yo k f i)) i (.v (.bool (decide (((kAt k f i:Nat):Int) % 3=0))))=cS (yo k f (i+1)):=by
 funext j
 by_cases hj:j=i
 ·subst hj;rw[qn];unfold cS yo;rw[if_pos (by omega)];rfl
 ·rw[qi hj]
  unfold cS yo
  by_cases h:j<i
  ·rw[if_pos h,if_pos (by omega)]
  ·rw[if_neg h,if_neg (by omega)]
theorem auQ{k:Nat}{f:Nat→DyV}{i:Nat}:upd (cE (yo k f i)) i (.v (.int .i64 ((kAt k f i+1+(f i).xs.length:Nat):Int)))=cE (yo k f (i+1)):=by
 funext j
 by_cases hj:j=i
 ·subst hj;rw[qn];unfold cE yo;rw[if_pos (by omega)];rfl
 ·rw[qi hj]
  unfold cE yo
  by_cases h:j<i
  ·rw[if_pos h,if_pos (by omega)]
  ·rw[if_neg h,if_neg (by omega)]
theorem alc{k:Nat}{f:Nat→DyV}{i j:Nat}(hj:j≠i):zt (yo k f (i+1)) j=zt (yo k f i) j:=by
 unfold zt yo
 by_cases h:j<i
 ·rw[if_pos h,if_pos (by omega)]
 ·rw[if_neg h,if_neg (by omega)]
theorem ags{k:Nat}{f:Nat→DyV}{i:Nat}:zt (yo k f (i+1)) i=.own 1 (qg (mkI (kAt k f i+1) (f i).xs.length)):=by
 unfold zt yo;rw[if_pos (by omega)];rfl
set_option maxRecDepth 100000 in
theorem aa6(f:Nat→DyV)(n k:Nat)(hn:n≤1048576)(hx:∀j,j<n→(f j).xs.length≤1048576)(hkb:∀i,i≤n→kAt k f i≤2^39):Con Tryz.prog 37 false [.rf 10000000 0 n,.v (.int .i64 k)] (.own 3 (qk (dcs 10000001) (prF f n))::(List.range n).map (zt f))
  (fun r hs bs=>r=.v (.int .i64 (kAt k f n))∧hs=[]∧bs=.own 3 (qk (dcs 10000001) (prF (mkd k f) n))::(List.range n).map (zt (mkd k f))):=by
 refine Con.of_aw Tryz.func37 rfl Tryz.ntmps37 (by simp) (by simp;omega) (fun ob ho=>?_) (W.sound ?_)
 ·rcases List.mem_cons.1 ho with rfl|ho
  ·simp
  ·obtain⟨j,hj,rfl⟩:=List.mem_map.1 ho
   simp[zt]
 rw[abw (by omega)]
 show @W Tryz.prog 39 ⟨_⟩ ⟨fun x σ=>@q8 _ _ _ ⟨_⟩ _ ⟨_⟩ x σ⟩ _ _
 simp(disch:=omega)only[go_sem]
 rw[arD]
 refine QK (S:=fun i:Nat=>⟨ofL .un [(0,.rf 10000000 0 n),(1,.v (.int .i64 (kAt k f i))),(5,.v (.int .i64 i))],fam 10000001 n (zt (yo k f i)) (ofH [(10000000,.own 3 (jV (cS (yo k f i)) (cX 10000001 f) (cE (yo k f i)) n))])⟩) (fun i=>i≤n) (fun i=>n-i) 0 (by omega)
  ?_ ?_
 ·show Le _ ⟨ofL .un [(0,.rf 10000000 0 n),(1,.v (.int .i64 (kAt k f 0))),(5,.v (.int .i64 (0:Nat)))],fam 10000001 n (zt (yo k f 0)) (ofH [(10000000,.own 3 (jV (cS (yo k f 0)) (cX 10000001 f) (cE (yo k f 0)) n))])⟩
  rw[agr]
  exact Le.sameF _ n f f (cS f) (cE f) (aAk f) (aAl f) (by simp(disch:=omega)only[go_sem,Jq,nmF,jv,kAt];try simp) (by dsimp only;rw[qp (by omega)];rfl) (fun j hj=>by dsimp only;rw[qS hj])
 intro i hi
 show @W Tryz.prog 39 ⟨_⟩ ⟨_⟩ (ofL .un _) (fam 10000001 n _ (ofH _))
 have hki:=hkb i hi
 simp(disch:=omega)only[go_sem]
 refine qh (fun c1=>?_) (fun c1=>?_)
 ·have hi2:i<n:=by omega
  have hs1:=afR (S:=cS (yo k f i)) (X:=cX 10000001 f) (E:=cE (yo k f i)) (x:=.v (.bool (decide (((kAt k f i:Nat):Int) % 3=0)))) hi2
  have hxi:=hx i hi2
  have e1:((kAt k f i:Nat):Int)+1=((kAt k f i+1:Nat):Int):=by omega
  have hcm:=Z4 (kAt k f i+1) (f i).xs (by omega) (by have:=hkb i hi;omega)
  have hlim:zt (yo k f i) i=.own 1 (qg (f i).xs):=by unfold zt;rw[aqm]
  simp(disch:=omega)only[go_sem,c1,qp,hs1,zC]
  refine⟨by omega,by omega,by omega,?_⟩
  rw[V5 hi2]
  rw[show cX 10000001 f i=.rf (10000001+i) 0 (f i).xs.length from rfl]
  simp(disch:=omega)only[go_sem,e1,qp]
  refine zf false [10000001+i] hcm (by show [snp _ _ 6 (.rf (10000001+i) 0 _),snp _ _ 6 (.v _)]=_;simp[snp,idx,qE]) ?_ rfl (qZ (z:=1) (cs:=qg (f i).xs) ?_ (by simp(disch:=omega)only[go_sem])) (by intro n hn;exact⟨_,List.mem_cons_self ..,by rw[List.mem_singleton.1 hn];rfl⟩) ?_
  ·show [Ob.ren _ (upd _ _ _ (10000001+i))]=_
   rw[qi (by omega),qS hi2,hlim]
   show [Ob.own 1 (ze _ (qg _))]=_
   rw[yf]
  ·rw[qi (by omega),qS hi2,hlim]
  rintro r hs bs ⟨rfl,rfl,rfl⟩-
  refine⟨by simp[qB],?_⟩
  have hne:∀(a b:Ob),(if 10000000=10000001+i then a else b)=b:=fun a b=>if_neg (by omega)
  have hs2:=afS (S:=cS (yo k f (i+1))) (X:=cX 10000001 f) (E:=cE (yo k f i)) (x:=.v (.int .i64 ((kAt k f i+1+(f i).xs.length:Nat):Int))) hi2
  rw[auQ]at hs2
  have e2:((kAt k f i+1+(f i).xs.length:Nat):Int)+1=((kAt k f (i+1):Nat):Int):=by
   show _=((kAt k f i+(f i).xs.length+2:Nat):Int)
   omega
  have hS:=@auP k f i
  simp(disch:=omega)only[go_sem,qp,hne,hS,hs2,zC,e2]
  refine⟨⟨by omega,by omega⟩,by omega,QI (i+1) (by show i+1≤n;omega) (by show n-(i+1)<n-i;omega) (Le.sameF _ n f (yo k f (i+1)) (cS (yo k f (i+1))) (cE (yo k f (i+1))) (aAk _) (aAl _) (by simp(disch:=omega)only[go_sem,Jq,nmF,jv];exact⟨rfl,by omega⟩) ?_ (fun j hj=>?_))⟩
  ·dsimp only
   rw[qn]
  ·dsimp only
   rw[qi (by omega)]
   by_cases hji:j=i
   ·subst hji
    rw[qn,ags]
   ·rw[qi (by omega),qi (by omega),qS hj,alc hji]
 ·simp(disch:=omega)only[go_sem,c1]
  obtain rfl:i=n:=by omega
  have hrow:jV (cS (yo k f i)) (cX 10000001 f) (cE (yo k f i)) i=qk (dcs 10000001) (prF (mkd k f) i):=by
   rw[arD]
   refine adl fun j hj=>?_
   have hm:yo k f i j=mkd k f j:=if_pos hj
   refine⟨by unfold cS;rw[hm],?_,by unfold cE;rw[hm]⟩
   show AV.rf _ _ _=AV.rf _ _ _
   rw[show(mkd k f j).xs.length=(f j).xs.length from QJ _ _]
  have hlm:∀j,j<i→zt (yo k f i) j=zt (mkd k f) j:=fun j hj=>by
   have hm:yo k f i j=mkd k f j:=if_pos hj
   unfold zt;rw[hm]
  rw[hrow]
  refine acn (.own 3 (qk (dcs 10000001) (prF (mkd k f) i))) i (zt (mkd k f)) [.v (.int .i64 (kAt k f i))] (by simp) (by omega) (by simp(disch:=omega)only[go_sem,alm]) ⟨?_,?_,trivial⟩ (fun j hj=>⟨?_,(qw _ j).2.2 _,(qw _ j).1⟩) (by simp) ⟨rfl,rfl,rfl⟩
  ·rw[qp (by omega)]
   show Ob.own 3 (ze id _)=.own 3 _
   rw[ahx (fun p hp=>rfl)]
  ·exact zB fun p hp=>.inr (by have:=zW hp;omega)
  ·rw[(qw _ j).2.1,qS hj,hlm j hj]
end Go.Ab
namespace Go.Ab
open Go
section
variable {P:Program}{L:Nat→Option Blk→Prop}{w0 w:World}{R:Nat→Prop}{ι:Nat→Option Blk}{a:Act}{σ:St}{K:AV→(Nat→Ob)→Prop}
theorem AW.regCallG{N:Nat}{Q:Exit→St→Prop}{e:Nat→AV}{h:Nat→Ob}{id:Nat}{l:List Oper}{y:Code}(k:Nat){pre suf:List Oper}{d ty:Nat}{pos:String}{af:Array Edge}{c}{x:Operand}{f:FuncId}
  (hp:l.take k=pre) (hs:l.drop k=⟨some d,.call c,ty,pos,af,none⟩::suf) {e':Nat→AV} {h':Nat→Ob}
  (h1:@Ch P N ⟨l⟩ ⟨pre⟩ ⟨fun σ'=>Le σ' ⟨e',h'⟩⟩ e h)
  (hd:d<N) (hcal:c.callee=.value x) (hx:evW e' x=.fn f []) (hfn:qy P f) {aa0:List AV} (haa:evL e' c.args.toList=aa0)
  (hcall:KX P f aa0 h' (20000000+10000000*d) (fun v hp'=>@Ch P N ⟨l⟩ ⟨suf⟩ ⟨fun σ=>AW P N y Q σ⟩ (upd e' d v) hp')):
  AW P N (.seq (.region id ⟨l⟩ false) y) Q ⟨e,h⟩:=by
 refine AW.seq fun L w0 R0 a w hi=>wp_region ?_
 have hl2:l=pre++⟨some d,.call c,ty,pos,af,none⟩::suf:=by rw[←hp,←hs,List.take_append_drop]
 have hr:List.range (⟨l⟩:Array Oper).size=List.range' 0 pre.length++(pre.length::(List.range' (pre.length+1) suf.length++[])):=by
  have hsz:(⟨l⟩:Array Oper).size=pre.length+(suf.length+1):=by show l.length=_;rw[hl2,List.length_append,List.length_cons]
  rw[hsz,List.append_nil,List.range_eq_range',List.range'_append_1.symm,Nat.zero_add,List.range'_succ]
 rw[hr]
 refine Qv (K:=fun σ'=>Le σ' ⟨e',h'⟩) (fun σ a w hi2 hle=>?_) pre 0 (fun j hj=>?_) hi h1
 ·have hi3:=hle L w0 R0 N a w hi2
  obtain⟨R,ι,hR,hinv⟩:=hi3.inv
  have hget:(⟨l⟩:Array Oper)[pre.length]? =some ⟨some d,.call c,ty,pos,af,none⟩:=by
   rw[List.getElem?_toArray,hl2,List.getElem?_append_right (Nat.le_refl _),Nat.sub_self];rfl
  simp only[wpOps,hget]
  rw[if_pos (by simp[Region.wanted])]
  refine .inl (af9 (c:=c) (x:=x) (f:=f) (σ:=⟨e',h'⟩) rfl hcal (by rw[zz];exact hx) hfn hinv
   (K:=fun v hp'=>@Ch P N ⟨l⟩ ⟨suf⟩ ⟨fun σ=>AW P N y Q σ⟩ (upd e' d v) hp') ?_ fun x w' R' ι' av hp' hR' hK hx hm hi'=>?_)
  ·have ea:c.args.toList.map (St.ev ⟨e',h'⟩)=aa0:=by
    rw[←haa,yC]
    exact List.map_congr_left fun z _=>zz _ _ _
   rw[ea]
   exact hcall
  ·refine Qv (K:=fun σ=>AW P N y Q σ) (fun σ a w hi4 hq=>?_) suf (pre.length+1) (fun j hj=>?_) (hi3.put (o:=⟨some d,.call c,ty,pos,af,none⟩) hd hR hR' hx hm hi') hK
   ·exact⟨σ,hi4,hq⟩
   rw[List.getElem?_toArray,hl2,List.getElem?_append_right (by omega),show pre.length+1+j-pre.length=j+1 by omega];rfl
 ·rw[List.getElem?_toArray,hl2,Nat.zero_add,List.getElem?_append_left hj]
def Y6(b0 b n:Nat):List Nat:=b0::(List.range n).map (b+ ·)
theorem Zw{b0 b n:Nat}(h:b0<b∨b+n≤b0):(Y6 b0 b n).Nodup:=by
 refine List.nodup_cons.2 ⟨fun hm=>?_,?_⟩
 ·obtain⟨j,hj,e⟩:=List.mem_map.1 hm
  have:=List.mem_range.1 hj
  omega
 ·refine List.Pairwise.map _ (fun x y hxy=>?_) List.nodup_range
  omega
theorem Jn{b0 b n:Nat}:(Y6 b0 b n).length=n+1:=by simp[Y6]
theorem ab6{b0 b n j:Nat}(hj:j<n):(Y6 b0 b n)[j+1]'(by rw[Jn];omega)=b+j:=by simp[Y6]
theorem amK{b0 b n:Nat}(h:b0<b∨b+n≤b0):idx (Y6 b0 b n) b0=some 0:=j6 (Zw h) 0 (by rw[Jn];omega)
theorem acJ{b0 b n j:Nat}(h:b0<b∨b+n≤b0)(hj:j<n):idx (Y6 b0 b n) (b+j)=some (j+1):=by
 have:=j6 (Zw h) (j+1) (by rw[Jn];omega)
 rwa[ab6 hj]at this
theorem aja{G:Nat→Ob}{b:Nat}:∀(n:Nat) (h:Nat→Ob),Qy h ((List.range n).map (b+ ·)) ((List.range n).map G)=fam b n G h:=by
 have key:∀(L:List Nat) (h:Nat→Ob),L.Nodup→∀m,Qy h (L.map (b+ ·)) (L.map G) m=if b≤m∧m-b∈L then G (m-b)else h m:=by
  intro L
  induction L with
  |nil=>intro h _ m;rw[if_neg (by simp)];rfl
  |cons a L ih=>
   intro h hn m
   have hn:=List.nodup_cons.1 hn
   show Qy (upd h (b+a) (G a)) (L.map (b+ ·)) (L.map G) m=_
   rw[ih _ hn.2]
   by_cases h1:b≤m∧m-b∈L
   ·rw[if_pos h1,if_pos ⟨h1.1,List.mem_cons_of_mem _ h1.2⟩]
   ·rw[if_neg h1]
    by_cases h2:m=b+a
    ·subst h2
     rw[qn,if_pos ⟨by omega,by rw[Nat.add_sub_cancel_left];exact List.mem_cons_self ..⟩,Nat.add_sub_cancel_left]
    ·rw[qi h2,if_neg fun h3=>?_]
     rcases List.mem_cons.1 h3.2 with h4|h4
     ·omega
     ·exact h1 ⟨h3.1,h4⟩
 intro n h
 funext m
 rw[key _ h List.nodup_range m]
 unfold fam
 by_cases hm:b≤m∧m<b+n
 ·rw[if_pos hm,if_pos ⟨hm.1,List.mem_range.2 (by omega)⟩]
 ·rw[if_neg hm,if_neg fun h=>hm ⟨h.1,by have:=List.mem_range.1 h.2;omega⟩]
end
end Go.Ab
namespace Go.Ab
open Go Go.Proofs
theorem asj{b0 b n j:Nat}(h:b0<b∨b+n≤b0)(hj:j<n):back (Y6 b0 b n) (b+j)=10000001+j:=by
 unfold back
 rw[acJ h hj]
 show 10000000+(j+1)=_
 omega
theorem atJ{c b0 b n j:Nat}(hj:j<n):rho c (Y6 b0 b n) (10000001+j)=b+j:=by
 unfold rho
 rw[if_neg (by omega),show 10000001+j-10000000=j+1 by omega,List.getD_eq_getElem?_getD,List.getElem?_eq_getElem (by rw[Jn];omega),ab6 hj];rfl
theorem zH{a b n:Nat}{f:Nat→DyV}{ρ:Nat→Nat}(h:∀j,j<n→ρ (a+j)=b+j):ze ρ (qk (dcs a) (prF f n))=qk (dcs b) (prF f n):=yk fun p hp=>h p.1 (zW hp)
theorem Jx{P:Program}{fn:FuncId}{aa0 args:List AV}{h:Nat→Ob}{c:Nat}{K:AV→(Nat→Ob)→Prop}(b0 b n z:Nat)(f g:Nat→DyV)(rv:Value)(hb:b0<b∨b+n≤b0)
  (h0:h b0=.own z (qk (dcs b) (prF f n))) (hF:∀j,j<n→h (b+j)=zt f j)
  (hc:Con P fn false args (.own z (qk (dcs 10000001) (prF f n))::(List.range n).map (zt f)) (fun r hs bs=>r=.v rv∧hs=[]∧bs=.own z (qk (dcs 10000001) (prF g n))::(List.range n).map (zt g)))
  (ha:aa0.map (snp (hpx false (Y6 b0 b n) h) (idx (Y6 b0 b n)) 6)=args)
  (hk:K (.v rv) (fam b n (zt g) (upd h b0 (.own z (qk (dcs b) (prF g n)))))):KX P fn aa0 h c K:=by
 have hbs:(Y6 b0 b n).map (fun m=>(h m).ren (back (Y6 b0 b n)))=.own z (qk (dcs 10000001) (prF f n))::(List.range n).map (zt f):=by
  show(h b0).ren _::((List.range n).map (b+ ·)).map _=_
  rw[h0]
  congr 1
  ·show Ob.own z (ze _ _)=_
   rw[zH fun j hj=>asj hb hj]
  ·rw[List.map_map]
   refine List.map_congr_left fun j hj=>?_
   show(h (b+j)).ren _=_
   rw[hF j (List.mem_range.1 hj),(qw f j).2.1]
 refine⟨false,Y6 b0 b n,_,by rw[ha,hbs];exact hc,Zw hb,fun m hm=>?_,fun r hs bs' hp=>?_⟩
 ·rcases List.mem_cons.1 hm with rfl|hm
  ·exact⟨z,_,h0,zB fun p hp=>by rw[acJ hb (zW hp)];rfl⟩
  ·obtain⟨j,hj,rfl⟩:=List.mem_map.1 hm
   exact⟨1,_,hF j (List.mem_range.1 hj),Qo⟩
 ·obtain⟨rfl,rfl,rfl⟩:=hp
  refine⟨by simp,trivial,fun h=>(by cases h),?_⟩
  have e:Qy (YS (rho c (Y6 b0 b n)) h c []) (Y6 b0 b n) ((Ob.own z (qk (dcs 10000001) (prF g n))::(List.range n).map (zt g)).map (Ob.ren (rho c (Y6 b0 b n))))=fam b n (zt g) (upd h b0 (.own z (qk (dcs b) (prF g n)))):=by
   show Qy (upd h b0 (.own z (ze _ (qk (dcs 10000001) (prF g n))))) ((List.range n).map (b+ ·)) (((List.range n).map (zt g)).map _)=_
   rw[zH fun j hj=>atJ hj,List.map_map,show(List.range n).map (Ob.ren (rho c (Y6 b0 b n))∘zt g)=(List.range n).map (zt g) from List.map_congr_left fun j _=>(qw g j).2.1 _,aja]
  rw[e]
  exact hk
theorem Le.rowD{σ:St}(E:List (Nat×AV))(n:Nat)(f:Nat→DyV)(hE:Jq id σ.env (nmF [10000000] 10000001 n) E)(h0:σ.hp 10000000=.own 3 (qk (dcs 10000001) (prF f n)))(hF:∀j,j<n→σ.hp (10000001+j)=zt f j):
  Le σ ⟨ofL .un E,fam 10000001 n (zt f) (ofH [(10000000,.own 3 (qk (dcs 10000001) (prF f n)))])⟩:=by
 rw[arD]at h0 ⊢
 exact Le.sameF E n f f (cS f) (cE f) (aAk f) (aAl f) hE h0 hF
theorem Xy{h:Nat→Ob}{b0 b n m k:Nat}(hb:b0<b∨b+n≤b0):snp h (idx (Y6 b0 b n)) (k+1) (.rf b0 0 m)=.rf 10000000 0 m:=by
 show(match idx (Y6 b0 b n) b0 with|some i=>AV.rf (10000000+i) 0 m|none=>_)=_
 rw[amK hb]
theorem alU{N:Nat}{post:AV→List Ob→List Ob→Prop}{e:Nat→AV}{h:Nat→Ob}{n nn z:Nat}{g:Nat→DyV}{v:Value}(hnn:nn=n+1)(hn:n<9000000)(h0:h 10000000=.own z (qk (dcs 10000001) (prF g n)))(hF:∀j,j<n→h (10000001+j)=zt g j)
  (hp:post (.v v) [] (.own z (qk (dcs 10000001) (prF g n))::(List.range n).map (zt g))):@aeI N false nn ⟨post⟩ ⟨e⟩ [.v v] h:=by
 refine acn (.own z (qk (dcs 10000001) (prF g n))) n (zt g) [.v v] hnn hn ⟨⟨rfl,trivial⟩,trivial⟩ ⟨?_,?_,trivial⟩ (fun j hj=>⟨?_,(qw _ j).2.2 _,(qw _ j).1⟩) (by simp) hp
 ·rw[h0]
  show Ob.own z (ze id _)=.own z _
  rw[zH fun j hj=>rfl]
 ·exact zB fun p hp=>.inr (by have:=zW hp;omega)
 ·rw[(qw _ j).2.1,hF j hj]
set_option maxRecDepth 100000 in
theorem QP(m:Int)(f:Nat→DyV)(n k:Nat)(hn:n≤1048576)(hx:∀j,j<n→(f j).xs.length≤1048576)(hkb:∀i,i≤n→kAt k f i≤2^39):Con Tryz.prog 13 false [.ag [.v (.int .i64 m),.rf 10000000 0 n],.v (.int .i64 k)] (.own 3 (qk (dcs 10000001) (prF f n))::(List.range n).map (zt f))
  (fun r hs bs=>r=.v (.int .i64 (kAt k f n))∧hs=[]∧bs=.own 3 (qk (dcs 10000001) (prF (mkd k f) n))::(List.range n).map (zt (mkd k f))):=by
 refine Con.of_aw Tryz.func13 rfl Tryz.ntmps13 (by simp) (by simp;omega) (fun ob ho=>?_) ?_
 ·rcases List.mem_cons.1 ho with rfl|ho
  ·simp
  ·obtain⟨j,hj,rfl⟩:=List.mem_map.1 ho
   simp[zt]
 rw[abw (by omega)]
 refine AW.front1 ?_
 show @W Tryz.prog 10 ⟨_⟩ ⟨fun x σ=>@yc ⟨_⟩ ⟨_⟩ x σ⟩ _ _
 simp(disch:=omega)only[go_sem,qp,qI]
 refine AW.regCallG 3 (by simp only[List.take_succ_cons,List.take_zero];rfl) (by simp only[List.drop_succ_cons,List.drop_zero];rfl) (e':=ofL .un [(6,.rf 10000000 0 n),(7,.v (.int .i64 k))]) (h':=fam 10000001 n (zt f) (ofH [(10000000,.own 3 (qk (dcs 10000001) (prF f n)))])) ?_
  (by decide) rfl rfl (by simp(disch:=omega)only[go_sem]) (by rfl) (Jx 10000000 10000001 n 3 f (mkd k f) _ (.inl (by omega)) (by rw[qp (by omega)];rfl) (fun j hj=>qS hj) (aa6 f n k hn hx hkb) ?_ ?_)
 ·simp(disch:=omega)only[go_sem,qp,qI]
  exact Le.rowD _ n f (by simp(disch:=omega)only[go_sem,Jq,nmF,jv];try simp) (by dsimp only;rw[qi (by omega),qp (by omega)];rfl) (fun j hj=>by dsimp only;rw[qi (by omega),qS hj])
 ·show [snp _ _ 6 (.rf 10000000 0 n),snp _ _ 6 (.v _)]=_
  rw[Xy (.inl (by omega))]
  simp[snp,qE]
 ·simp(disch:=omega)only[go_sem,qp,qI]
  refine W.sound ?_
  show @W Tryz.prog 10 ⟨_⟩ ⟨fun x σ=>@q8 _ _ _ ⟨_⟩ _ ⟨_⟩ x σ⟩ _ _
  simp(disch:=omega)only[go_sem,qp,qI]
  exact alU (by simp) (by omega) (by rw[qp (by omega),qn]) (fun j hj=>qS hj) ⟨rfl,rfl,rfl⟩
end Go.Ab
namespace Go.Ab
open Go Go.Proofs
/-! ### Marks in a row of intervals-/
end Go.Ab
namespace Go.Ab
open Go Go.Proofs
/-! ### What is held in a row of intervals-/
def vX(f:Nat→DyV)(j:Nat):AV:=.sl (f j).xs.length (qg (f j).xs)
theorem agx{h:Nat→Ob}{sz n i:Nat}{S X E:Nat→AV}{K:AV→Prop}(hi:i<n):@yN false sz h (.fp (jV S X E n) (i*3)) ⟨K⟩=K (S i):=by
 have hg:=ji (S:=S) (X:=X) (E:=E) n (i*3)
 rw[if_pos (by omega),if_pos (by omega),show i*3/3=i by omega]at hg
 rw[JT,asL,cond_false,zC,List.getD_eq_getElem?_getD,hg]
 exact propext ⟨fun h=>h.2,fun h=>⟨by omega,h⟩⟩
theorem agy{h:Nat→Ob}{sz n i:Nat}{S X E:Nat→AV}{K:AV→Prop}(hi:i<n):@yN false sz h (.fp (jV S X E n) (i*3+2)) ⟨K⟩=K (E i):=by
 have hg:=ji (S:=S) (X:=X) (E:=E) n (i*3+2)
 rw[if_pos (by omega),if_neg (by omega),if_neg (by omega),show(i*3+2)/3=i by omega]at hg
 rw[JT,asL,cond_false,zC,List.getD_eq_getElem?_getD,hg]
 exact propext ⟨fun h=>h.2,fun h=>⟨by omega,h⟩⟩
end Go.Ab
namespace Go.Ab
open Go Go.Proofs
/-! ### Numbers told in rows of their own,in one form (a row may be a ghost)-/
theorem ahd{N:Nat}{post:AV→List Ob→List Ob→Prop}{e:Nat→AV}{h:Nat→Ob}{nm:Nat}(hf:h nm=.free)(hnm:20000000≤nm)(hp:post (.rf 0 0 0) [.own 1 []] []):@aeI N false 0 ⟨post⟩ ⟨e⟩ [.v (.slice none 0 0)] h:=by
 have h1:Le ⟨ZB N e [.v (.slice none 0 0)],h⟩ ⟨upd (ZB N e [.v (.slice none 0 0)]) N (.rf nm 0 0),upd h nm (.own 1 [])⟩:=Le.ghost N nm 1 (by
  show ZB N e _ N=_
  unfold ZB
  have:Nat.blt N N=false:=by
   cases hh:Nat.blt N N with
   |false=>rfl
   |true=>have:=Nat.le_of_ble_eq_true hh;omega
  rw[this,cond_false,Nat.sub_self];rfl) hf
 have h2:Le ⟨upd (ZB N e [.v (.slice none 0 0)]) N (.rf nm 0 0),upd h nm (.own 1 [])⟩ ⟨ofL .un (zX N [.rf 0 0 0]),ofH (yO [.own 1 []] [])⟩:=by
  refine Le.mk (fun m=>if m=0 then nm else m) [(N,.rf 0 0 0)] [(0,.own 1 [])] (fun p hp=>?_) (fun p hp=>?_) (fun p hp q hq _=>?_)
  ·rw[List.mem_singleton.1 hp]
   refine⟨?_,.inl rfl⟩
   show AV.rf (if 0=0 then nm else 0) 0 0=upd _ N _ N
   rw[if_pos rfl,qn]
  ·rw[List.mem_singleton.1 hp]
   refine⟨?_,trivial,by simp,rfl,fun hl=>(by cases hl),fun _=>?_⟩
   ·show Ob.own 1 []=upd _ nm _ (if 0=0 then nm else 0)
    rw[if_pos rfl,qn]
   ·show zI (if 0=0 then nm else 0)=false
    rw[if_pos rfl];exact j0 hnm
  ·rw[List.mem_singleton.1 hp,List.mem_singleton.1 hq]
 refine⟨_,[.own 1 []],[],[.rf 0 0 0],h1.trans h2,Kl (by simp) (by simp),by simp,rfl,fun ob ho=>(by cases ho),fun ob ho=>?_,fun h=>(by cases h),fun h=>(by cases h),rfl,fun i hi=>?_,fun h=>(by cases h),?_,hp⟩
 ·rw[List.append_nil,List.mem_singleton]at ho
  rw[ho];exact trivial
 ·have:i=0:=by simp at hi;omega
  subst this
  show ofL .un (zX N [AV.rf 0 0 0]) (N+0)=_
  rw[yv,if_pos (by omega),show N+0-N=0 by omega]
 ·show rhp [.own 1 []] [] 0≠ .free
  simp[rhp]
theorem ael(xs:List Int)(hl:xs.length≤2^39):Con Tryz.prog 304 false [.sl xs.length (qg xs)] [] (fun r hs bs=>r=.rf 0 0 xs.length∧hs=[.own 1 (qg xs)]):=by
 refine Con.of_aw Tryz.func304 rfl Tryz.ntmps304 (by simp) (by simp) (by simp) (W.sound ?_)
 show @W Tryz.prog 8 ⟨_⟩ ⟨fun x σ=>@q8 _ _ _ ⟨_⟩ _ ⟨_⟩ x σ⟩ _ _
 simp(disch:=omega)only[go_sem]
 refine⟨fun h0=>?_,?_⟩
 ·have:xs=[]:=by cases xs with|nil=>rfl|cons a r=>cases h0
  subst this
  exact ahd (nm:=990000000) (by simp(disch:=omega)only[go_sem]) (by omega) ⟨rfl,rfl⟩
 ·refine⟨by omega,?_⟩
  refine ql [(0,90000000)] [.own 1 (qg xs)] [] [.rf 0 0 xs.length] rfl (by simp(disch:=omega)only[go_sem]) (by simp(disch:=omega)only[go_sem]) (by simp) (by simp) ⟨rfl,rfl⟩
theorem ad9(m:Nat)(hl:(lim m).length≤2^39)(hf:jW m=true):Con Tryz.prog 263 false [.sl (lim (m)).length (qg (lim (m)))] [] (fun r hs bs=>r=.tu [.ag [.rf 0 0 (lim m).length],.v (.bool true)]∧hs=[.own 1 (qg (lim m))]):=by
 have c1:¬((lim m).length:Int)>100:=by unfold jW at hf;simp at hf;omega
 refine Con.of_aw Tryz.func263 rfl Tryz.ntmps263 (by simp) (by simp) (by simp) (W.sound ?_)
 show @W Tryz.prog 11 ⟨_⟩ ⟨fun x σ=>@q8 _ _ _ ⟨_⟩ _ ⟨_⟩ x σ⟩ _ _
 simp(disch:=omega)only[go_sem]
 refine qh (fun c2=>absurd c2 (by omega)) (fun c2=>?_)
 simp(disch:=omega)only[go_sem,c2]
 refine qz (ael (lim m) (by omega)) (by simp(disch:=omega)only[go_sem]) ?_
 rintro r hs ⟨rfl,rfl⟩
 refine⟨by simp[qB];try simp(disch:=omega)only[go_sem],?_⟩
 simp(disch:=omega)only[go_sem]
 refine ql [(0,110000000)] [.own 1 (qg (lim m))] [] [.ag [.rf 0 0 (lim m).length],.v (.bool true)] rfl (by simp(disch:=omega)only[go_sem]) (by simp(disch:=omega)only[go_sem]) (by simp) (by simp) ⟨rfl,rfl⟩
theorem Kq(s:Bool)(m:Nat)(hl:(lim m).length≤2^39)(hf:jW m=true):Con Tryz.prog 202 false [.v (.bool s),.sl (lim (m)).length (qg (lim (m)))] [] (fun r hs bs=>r=.tu [.ag [.v (.bool (s&&decide (m≠0))),.rf 0 0 (lim m).length],.v (.bool true)]∧hs=[.own 1 (qg (lim m))]):=by
 have hq:decide ((0:Int)<((lim m).length:Int))=decide (m≠0):=by
  rw[decide_eq_decide]
  exact⟨fun h e=>by rw[e,qt]at h;simp at h,fun h=>by have:=yg h;omega⟩
 refine Con.of_aw Tryz.func202 rfl Tryz.ntmps202 (by simp) (by simp) (by simp) (W.sound ?_)
 show @W Tryz.prog 24 ⟨_⟩ ⟨fun x σ=>@q8 _ _ _ ⟨_⟩ _ ⟨_⟩ x σ⟩ _ _
 simp(disch:=omega)only[go_sem]
 refine qz (ad9 m hl hf) (by simp(disch:=omega)only[go_sem]) ?_
 rintro r hs ⟨rfl,rfl⟩
 refine⟨by simp[qB];try simp(disch:=omega)only[go_sem],?_⟩
 cases s
 ·simp(disch:=omega)only[go_sem]
  refine ql [(0,120000000)] [.own 1 (qg (lim m))] [] [.ag [.v (.bool (false&&decide (m≠0))),.rf 0 0 (lim m).length],.v (.bool true)] rfl (by simp(disch:=omega)only[go_sem]) (by simp(disch:=omega)only[go_sem]) (by simp) (by simp) ⟨rfl,rfl⟩
 ·simp(disch:=omega)only[go_sem,hq]
  refine ql [(0,120000000)] [.own 1 (qg (lim m))] [] [.ag [.v (.bool (true&&decide (m≠0))),.rf 0 0 (lim m).length],.v (.bool true)] rfl (by simp(disch:=omega)only[go_sem,Bool.true_and]) (by simp(disch:=omega)only[go_sem]) (by simp) (by simp) ⟨rfl,rfl⟩
theorem aid(x:ExV)(hx:x.bd (-400000) 400000)(hf:x.fit=true):Con Tryz.prog 123 false [.ag [.v (.bool (x).s),.sl (lim (x).m).length (qg (lim (x).m)),.v (.int .i64 (x).e)]] [] (fun r hs bs=>r=.tu [.ag [.v (.bool x.can.s),.rf 0 0 (lim x.can.m).length,.v (.int .i64 x.can.e)],.v (.bool true)]∧hs=[.own 1 (qg (lim x.can.m))]):=by
 obtain⟨b1,b2,b3⟩:=hx
 have hb:=Nat.le_trans (jh (auD x.m)) (show bl x.m≤10000000 by omega)
 have hl:=qx hb
 have co:=aa3 x.s x.m x.e (by omega) (by omega)
 have hff:(jW (oM x.m)&&(decide (-3000≤oE x.m x.e)&&decide (oE x.m x.e≤3000)))=true:=hf
 rw[Bool.and_eq_true]at hff
 obtain⟨f1,f2⟩:=hff
 have cw:=Kq (oS x.s x.m) (oM x.m) (by omega) f1
 have hs:(oS x.s x.m&&decide (oM x.m≠0))=oS x.s x.m:=by
  unfold oS
  by_cases h:x.m=0
  ·rw[if_pos h];rfl
  ·rw[if_neg h,decide_eq_true (show oM x.m≠0 from fun e=>h (zZ.1 e)),Bool.and_true]
 rw[hs]at cw
 have ci:=zw (oE x.m x.e) (-3000) 3000
 rw[f2]at ci
 show Con _ _ _ _ _ (fun r hs bs=>r=.tu [.ag [.v (.bool (oS x.s x.m)),.rf 0 0 (lim (oM x.m)).length,.v (.int .i64 (oE x.m x.e))],.v (.bool true)]∧hs=[.own 1 (qg (lim (oM x.m)))])
 generalize oM x.m=M at*
 generalize oS x.s x.m=S at*
 generalize oE x.m x.e=E at*
 refine Con.of_aw Tryz.func123 rfl Tryz.ntmps123 (by simp) (by simp) (by simp) (W.sound ?_)
 show @W Tryz.prog 29 ⟨_⟩ ⟨fun x σ=>@q8 _ _ _ ⟨_⟩ _ ⟨_⟩ x σ⟩ _ _
 simp(disch:=omega)only[go_sem]
 refine qa (co) ?_
 simp(disch:=omega)only[go_sem]
 refine qz cw (by simp(disch:=omega)only[go_sem]) ?_
 rintro r hs ⟨rfl,rfl⟩
 refine⟨by simp[qB];try simp(disch:=omega)only[go_sem],?_⟩
 simp(disch:=omega)only[go_sem]
 refine qm (ci) ?_
 simp(disch:=omega)only[go_sem]
 refine ql [(0,150000000)] [.own 1 (qg (lim M))] [] [.ag [.v (.bool S),.rf 0 0 (lim M).length,.v (.int .i64 E)],.v (.bool true)] rfl (by simp(disch:=omega)only[go_sem]) (by simp(disch:=omega)only[go_sem]) (by simp) (by simp) ⟨rfl,rfl⟩
end Go.Ab
namespace Go.Ab
open Go Go.Proofs
/-! ### A matrix of intervals with rows of its own-/
def ivf(l:List SpV)(j:Nat):DyV:=(if j % 2=0 then(l.getD (j/2) sp0).lo.can else(l.getD (j/2) sp0).hi.can).dyv
theorem akw{f:Nat→DyV}{n:Nat}:prF f (n+1)=prF f n++[(n,f n)]:=by simp[prF,List.range_succ]
theorem XI{b:Nat}{f:Nat→DyV}{n:Nat}:(qk (dcs b) (prF f n)).length=n*3:=by rw[ahz,apv]
def aB9(i m:Nat):Nat:=if m=1 then 330000000 else if m=500000000+2*i then 230000000 else if m=500000000+(2*i+1)then 230000001 else m
end Go.Ab
namespace Go.Ab
open Go Go.Proofs
theorem af3:∀{a b:List AV},AV.pu.puL a→AV.pu.puL b→AV.pu.puL (a++b)
 | [],b,_,h=>h
 |x::a,b,h,h'=>⟨h.1,af3 h.2 h'⟩
theorem ahy{b:Nat}:∀{L:List (Nat×DyV)},AV.pu.puL (qk (dcs b) L)
 | []=>trivial
 |p::L=>by
  rw[qT]
  exact af3 (by simp[dcs,AV.pu,AV.pu.puL]) ahy
theorem agD(f:Nat→DyV)(j:Nat):(zt f j).pu:=by unfold zt;simp[Ob.pu,qQ]
end Go.Ab
namespace Go.Ab
open Go Go.Proofs
/-! ### How much there is in all-/
def smF(f:Nat→DyV):Nat→Nat
 |0=>0
 |j+1=>smF f j+(f j).xs.length
theorem ace{k:Nat}{f:Nat→DyV}:∀i,kAt k f i=k+smF f i+2*i
 |0=>rfl
 |i+1=>by
  show kAt k f i+(f i).xs.length+2=k+(smF f i+(f i).xs.length)+2*(i+1)
  rw[ace i];omega
theorem Jk{f:Nat→DyV}{i:Nat}:∀n,i≤n→smF f i≤smF f n
 |0,h=>by rw[show i=0 by omega];exact Nat.le_refl _
 |n+1,h=>by
  show _≤smF f n+_
  rcases Nat.lt_or_ge i (n+1)with c|c
  ·have:=Jk (f:=f) n (show i≤n by omega);omega
  ·rw[show i=n+1 by omega];exact Nat.le_refl _
theorem aaj{f:Nat→DyV}{i n:Nat}(h:i<n):(f i).xs.length≤smF f n:=by
 have h1:=Jk (f:=f) (i:=i+1) n (by omega)
 have h2:smF f (i+1)=smF f i+(f i).xs.length:=rfl
 omega
theorem ahG(l:List DyV)(left:Nat)(hl:l.length≤9223372036854775807)(hx:∀x∈l,x.xs.length≤9223372036854775807)(h:left≤2^40):
  Con Tryz.prog 39 true [.sl l.length (qk DyV.cs l),.v (.int .i64 left)] [] (fun r hs bs=>∃v:Int,r=.v (.int .i64 v)∧hs=[]∧bs=[]∧(v= -1∨(0≤v∧l.length+smF (fun j=>l.getD j dy0) l.length≤left))):=by
 refine Con.of_aw Tryz.func39 rfl Tryz.ntmps39 (by simp) (by simp) (by simp) (W.sound ?_)
 show @W Tryz.prog 27 ⟨_⟩ ⟨fun x σ=>@q8 _ _ _ ⟨_⟩ _ ⟨_⟩ x σ⟩ _ _
 simp(disch:=omega)only[go_sem]
 refine qh (fun h1=>?_) (fun h1=>?_)
 ·simp(disch:=omega)only[go_sem,h1]
  exact qv (by simp(disch:=omega)only[go_sem]) (by simp(disch:=omega)only[go_sem]) ⟨-1,rfl,rfl,rfl,.inl rfl⟩
 ·simp(disch:=omega)only[go_sem,h1]
  refine qj (fun x:Nat×Nat=>[(0,.sl l.length (qk DyV.cs l)),(1,.v (.int .i64 x.2)),(5,.v (.int .i64 x.1))]) (fun _=>[]) (fun x=>x.1≤l.length∧x.2+l.length+smF (fun j=>l.getD j dy0) x.1=left) (fun x=>l.length-x.1) (0,left-l.length) ⟨by omega,by show left-l.length+l.length+0=left;omega⟩
   (Le.lst [] _ _ rfl (by simp(disch:=omega)only[go_sem];try omega) (by simp(disch:=omega)only[go_sem])) ?_
  rintro⟨i,lf⟩ ⟨hi,hlf⟩
  dsimp only at hi hlf ⊢
  simp(disch:=omega)only[go_sem]
  refine qh (fun h2=>?_) (fun h2=>?_)
  ·have hcut:=Zs (l:=l) Xf (i:=i) (by omega) dy0
   have hmem:l.getD i dy0∈l:=by
    rw[List.getD_eq_getElem?_getD,List.getElem?_eq_getElem (by omega)];exact List.getElem_mem _
   have hsm:smF (fun j=>l.getD j dy0) (i+1)=smF (fun j=>l.getD j dy0) i+(l.getD i dy0).xs.length:=rfl
   have hxm:=hx _ hmem
   have cz:Con Tryz.prog 90 true [.ag (l.getD i dy0).cs,.v (.int .i64 lf)] [] (isA (.v (.int .i64 (szL lf (l.getD i dy0).xs.length)))):=amh (l.getD i dy0).s (l.getD i dy0).xs (l.getD i dy0).e lf hxm (by omega)
   simp(disch:=omega)only[go_sem,h2,hcut]
   refine⟨by omega,by omega,?_⟩
   refine qr cz (by simp(disch:=omega)only[go_sem]) ?_
   rintro r hs ⟨rfl,rfl,_⟩
   refine⟨by simp[qB],?_⟩
   unfold szL
   by_cases h3:(lf:Int)-((l.getD i dy0).xs.length:Int)<0
   ·rw[if_pos h3]
    simp(disch:=omega)only[go_sem]
    exact qv (by simp(disch:=omega)only[go_sem]) (by simp(disch:=omega)only[go_sem]) ⟨-1,rfl,rfl,rfl,.inl rfl⟩
   ·rw[if_neg h3]
    simp(disch:=omega)only[go_sem,h3]
    exact qe (i+1,lf-(l.getD i dy0).xs.length) [] ⟨by show i+1≤_;omega,by show lf-(l.getD i dy0).xs.length+l.length+smF _ (i+1)=left;rw[hsm];omega⟩ (by show l.length-(i+1)<l.length-i;omega) rfl (by simp(disch:=omega)only[go_sem];try omega) (by simp(disch:=omega)only[go_sem])
  ·simp(disch:=omega)only[go_sem,h2]
   obtain rfl:i=l.length:=by omega
   exact qv (by simp(disch:=omega)only[go_sem]) (by simp(disch:=omega)only[go_sem]) ⟨lf,rfl,rfl,rfl,.inr ⟨by omega,by omega⟩⟩
theorem ZI(k:Int)(l:List DyV)(left:Nat)(hl:l.length≤9223372036854775807)(hx:∀x∈l,x.xs.length≤9223372036854775807)(h:left≤2^40):
  Con Tryz.prog 15 true [.ag [.v (.int .i64 k),.sl l.length (qk DyV.cs l)],.v (.int .i64 left)] [] (fun r hs bs=>∃v:Int,r=.v (.int .i64 v)∧hs=[]∧bs=[]∧(v= -1∨(0≤v∧l.length+smF (fun j=>l.getD j dy0) l.length≤left))):=by
 refine Con.of_aw Tryz.func15 rfl Tryz.ntmps15 (by simp) (by simp) (by simp) (W.sound ?_)
 show @W Tryz.prog 12 ⟨_⟩ ⟨fun x σ=>@q8 _ _ _ ⟨_⟩ _ ⟨_⟩ x σ⟩ _ _
 simp(disch:=omega)only[go_sem]
 refine qr (ahG l left hl hx h) (by simp(disch:=omega)only[go_sem]) ?_
 rintro r hs ⟨v,rfl,rfl, -,hv⟩
 refine⟨by simp[qB],?_⟩
 rcases hv with rfl|⟨h0,h1⟩
 ·simp(disch:=omega)only[go_sem]
  exact qv (by simp(disch:=omega)only[go_sem]) (by simp(disch:=omega)only[go_sem]) ⟨-1,rfl,rfl,rfl,.inl rfl⟩
 ·simp(disch:=omega)only[go_sem,decide_eq_false (show ¬v<0 by omega)]
  exact qv (by simp(disch:=omega)only[go_sem]) (by simp(disch:=omega)only[go_sem]) ⟨v,rfl,rfl,rfl,.inr ⟨h0,h1⟩⟩
end Go.Ab
namespace Go.Ab
open Go Go.Proofs
/-! ### What is held in a row of numbers-/
set_option maxRecDepth 100000 in
theorem abh(f:Nat→DyV)(n k:Nat)(hn:n≤1048576)(hx:∀j,j<n→(f j).xs.length≤1048576)(hkb:∀i,i≤n→kAt k f i≤2^39):Con Tryz.prog 38 true [.sl n (jV (cS (mkd k f)) (vX (mkd k f)) (cE (mkd k f)) n),.v (.int .i64 k)] [] (isA (.v (.int .i64 (kAt k f n)))):=by
 refine Con.of_w (rs:=[.tmp 4]) Tryz.func38 rfl Tryz.ntmps38 rfl ?_
 simp(disch:=omega)only[go_sem]
 refine qj (fun i:Nat=>[(0,.sl n (jV (cS (mkd k f)) (vX (mkd k f)) (cE (mkd k f)) n)),(1,.v (.int .i64 (kAt k f i))),(5,.v (.int .i64 i))]) (fun _=>[]) (fun i=>i≤n) (fun i=>n-i) 0 (by omega)
  (Le.lst [] _ _ rfl (by simp(disch:=omega)only[go_sem,kAt]) (by simp(disch:=omega)only[go_sem])) ?_
 intro i hi
 have hki:=hkb i (by omega)
 simp(disch:=omega)only[go_sem]
 refine qh (fun c1=>?_) (fun c1=>?_)
 ·have hi2:i<n:=by omega
  have hki1:=hkb (i+1) (by omega)
  have x0:=hx i hi2
  have l0:=fun(h:Nat→Ob) (K:AV→Prop)=>agx (h:=h) (sz:=1) (S:=cS (mkd k f)) (X:=vX (mkd k f)) (E:=cE (mkd k f)) (K:=K) hi2
  have l1:=fun(h:Nat→Ob) (K:AV→Prop)=>V5 (h:=h) (sz:=1) (S:=cS (mkd k f)) (X:=vX (mkd k f)) (E:=cE (mkd k f)) (K:=K) hi2
  have l2:=fun(h:Nat→Ob) (K:AV→Prop)=>agy (h:=h) (sz:=1) (S:=cS (mkd k f)) (X:=vX (mkd k f)) (E:=cE (mkd k f)) (K:=K) hi2
  have cS0:∀j,cS (mkd k f) j=.v (.bool (decide (((kAt k f j:Nat):Int) % 3=0))):=fun j=>rfl
  have cE0:∀j,cE (mkd k f) j=.v (.int .i64 ((kAt k f j+1+(f j).xs.length:Nat):Int)):=fun j=>rfl
  have vX0:∀j,vX (mkd k f) j=.sl (f j).xs.length (qg (mkI (kAt k f j+1) (f j).xs.length)):=fun j=>by
   unfold vX
   rw[show(mkd k f j).xs.length=(f j).xs.length from QJ _ _];rfl
  rw[cS0]at l0
  rw[vX0]at l1
  rw[cE0]at l2
  have e1:((kAt k f i:Nat):Int)+1=((kAt k f i+1:Nat):Int):=by omega
  have e2:((kAt k f i+1+(f i).xs.length:Nat):Int)+1=((kAt k f (i+1):Nat):Int):=by
   show _=((kAt k f i+(f i).xs.length+2:Nat):Int)
   omega
  have h1:=Z6 (kAt k f i+1) (f i).xs.length (by omega) (by omega)
  have q1:decide (((kAt k f i+1+(f i).xs.length:Nat):Int)<0)=false:=decide_eq_false (by omega)
  have qb:∀b:Bool,(b != b)=false:=fun b=>by cases b<;>rfl
  simp(disch:=omega)only[go_sem,c1,l0,l1,l2,e1,qb,zC]
  refine⟨⟨by omega,by omega⟩,⟨by omega,by omega⟩,?_⟩
  refine qm (h1) ?_
  simp(disch:=omega)only[go_sem]
  simp(disch:=omega)only[go_sem,l2,e2,qb,q1,zC]
  refine⟨⟨by omega,by omega,by omega⟩,qe (i+1) [] (by show i+1≤_;omega) (by show n-(i+1)<n-i;omega) rfl (by simp(disch:=omega)only[go_sem];try omega) (by simp(disch:=omega)only[go_sem])⟩
 ·simp(disch:=omega)only[go_sem,c1]
  obtain rfl:i=n:=by omega
  exact qu
theorem abg(m:Int)(f:Nat→DyV)(n k:Nat)(hn:n≤1048576)(hx:∀j,j<n→(f j).xs.length≤1048576)(hkb:∀i,i≤n→kAt k f i≤2^39):Con Tryz.prog 14 true [.ag [.v (.int .i64 m),.sl n (jV (cS (mkd k f)) (vX (mkd k f)) (cE (mkd k f)) n)],.v (.int .i64 k)] [] (isA (.v (.int .i64 (kAt k f n)))):=by
 have c:=abh f n k hn hx hkb
 have q:decide (((kAt k f n:Nat):Int)<0)=false:=decide_eq_false (by omega)
 generalize kAt k f n=M at*
 refine Con.of_w (rs:=[.tmp 4]) Tryz.func14 rfl Tryz.ntmps14 rfl ?_
 simp(disch:=omega)only[go_sem]
 refine qm (c) ?_
 simp(disch:=omega)only[go_sem]
 simp(disch:=omega)only[go_sem,q]
 exact qu
end Go.Ab
namespace Go.Ab
open Go Go.Proofs
/-! ### A matrix,and a number,with rows of their own-/
def exf(l:List ExV)(j:Nat):DyV:=(l.getD j ex0).can.dyv
def afX(A B i m:Nat):Nat:=if m=1 then A else if m=500000000+i then B else m
theorem XD{A B i:Nat}:afX A B i 1=A:=if_pos rfl
theorem XF{A B i:Nat}:afX A B i (500000000+i)=B:=by unfold afX;rw[if_neg (by omega),if_pos rfl]
theorem XE{A B i j:Nat}(h:j<i):afX A B i (500000000+j)=500000000+j:=by unfold afX;rw[if_neg (by omega),if_neg (by omega)]
theorem Le.moveF{σ:St}(A B:Nat)(E:List (Nat×AV))(z i:Nat)(f:Nat→DyV)(hA:20000000≤A∧A<500000000)(hB:20000000≤B∧B<500000000)(hAB:A≠B)
  (hE:Jq (afX A B i) σ.env (nmF [1] 500000000 (i+1)) E) (h0:σ.hp A=.own z (qk (dcs 500000000) (prF f i)++[.v (.bool (f i).s),.rf B 0 (f i).xs.length,.v (.int .i64 (f i).e)]))
  (hF:∀j,j<i→σ.hp (500000000+j)=zt f j) (h1:σ.hp B=zt f i):Le σ ⟨ofL .un E,fam 500000000 (i+1) (zt f) (ofH [(1,.own z (qk (dcs 500000000) (prF f (i+1))))])⟩:=by
 have hval:∀m,nmF [1] 500000000 (i+1) m→(m=1∧afX A B i m=A)∨(500000000≤m∧m<500000000+i∧afX A B i m=m)∨(m=500000000+i∧afX A B i m=B):=fun m hm=>by
  rcases hm with hm|hm
  ·have hm1:m=1:=by simp[jv]at hm;omega
   subst hm1
   exact .inl ⟨rfl,XD⟩
  ·rcases(show m<500000000+i∨m=500000000+i by omega)with h|h
   ·obtain⟨j,rfl⟩:∃j,m=500000000+j:=⟨m-500000000,by omega⟩
    exact .inr (.inl ⟨by omega,by omega,XE (by omega)⟩)
   ·subst h
    exact .inr (.inr ⟨rfl,XF⟩)
 refine Le.famL (afX A B i) _ _ 500000000 (i+1) (zt f) rfl (fun q hq=>.inl ?_) hE ⟨⟨?_,?_,trivial⟩,trivial⟩ (fun j hj=>⟨?_,(qw _ j).2.2 _,(qw _ j).1⟩) (fun m hm=>?_) (fun m m' hm hm' e=>?_)
 ·rw[List.mem_singleton.1 hq];show 1<500000000;omega
 ·rw[XD,h0]
  show Ob.own z (ze _ _)=_
  rw[akw,←yU,Qj,zH fun j hj=>XE hj]
  show Ob.own z (_++[_,AV.rf (afX A B i (500000000+i)) 0 _,_])=_
  rw[XF];rfl
 ·exact zB fun p hp=>.inr (by have:=zW hp;omega)
 ·rw[(qw _ j).2.1]
  rcases(show j<i∨j=i by omega)with h|rfl
  ·rw[XE h,hF j h]
  ·rw[XF,h1]
 ·rcases hval m hm with⟨rfl,h⟩|⟨a,b,h⟩|⟨a,h⟩
  ·rw[h];exact⟨fun h=>(by cases h),fun _=>j0 hA.1⟩
  ·rw[h];exact⟨fun _=>rfl,fun h=>h⟩
  ·rw[h];exact⟨fun h=>(by rw[j0 (by omega)]at h;cases h),fun _=>j0 hB.1⟩
 ·have a:=hval m hm
  have b:=hval m' hm'
  omega
set_option maxRecDepth 100000 in
theorem amm(l:List ExV)(hl:l.length≤1000)(hb:gbd (-400000) 400000 l)(hall:l.all ExV.fit=true):Con Tryz.prog 197 false [.sl l.length (qk ExV.cs l)] []
  (fun r hs bs=>r=.tu [.rf 0 0 l.length,.v (.bool true)]∧hs=.own 3 (qk (dcs 1) (prF (exf l) l.length))::(List.range l.length).map (zt (exf l))):=by
 refine Con.of_w (rs:=[.tmp 2,.tmp 3]) Tryz.func197 rfl Tryz.ntmps197 rfl ?_
 simp(disch:=omega)only[go_sem]
 refine QK (S:=fun i:Nat=>⟨ofL .un [(2,.v (.slice none 0 0)),(3,.v (.bool false)),(4,.rf 1 0 i),(9,.sl l.length (qk ExV.cs l)),(10,.v (.int .i64 l.length)),(11,.v (.int .i64 i))],fam 500000000 i (zt (exf l)) (ofH [(1,.own 3 (qk (dcs 500000000) (prF (exf l) i)))])⟩) (fun i=>i≤l.length) (fun i=>l.length-i) 0 (by omega)
  (Le.fam0 _ _ _ _ ((Le.ghost 4 1 3 (by simp(disch:=omega)only[go_sem]) (by simp(disch:=omega)only[go_sem])).trans (Le.lst [] _ _ rfl (by simp(disch:=omega)only[go_sem]) (by simp(disch:=omega)only[go_sem,show qk (dcs 500000000) (prF (exf l) 0)=[] from rfl])))) ?_
 intro i hi
 show @W Tryz.prog 28 ⟨_⟩ ⟨_⟩ (ofL .un _) (fam 500000000 i _ (ofH _))
 simp(disch:=omega)only[go_sem]
 refine qh (fun c1=>?_) (fun c1=>?_)
 ·have hi2:i<l.length:=by omega
  have hci:=zJ hi2
  have hx:=qF hb hi2
  have hmem:l.getD i ex0∈l:=by rw[List.getD_eq_getElem?_getD,List.getElem?_eq_getElem hi2];exact List.getElem_mem _
  have hft:(l.getD i ex0).fit=true:=List.all_eq_true.1 hall _ hmem
  have hg:exf l i=(l.getD i ex0).can.dyv:=rfl
  have hcut:cut (qk (dcs 500000000) (prF (exf l) i)) 0 (i*3)=qk (dcs 500000000) (prF (exf l) i):=by
   unfold cut
   rw[List.drop_zero,List.take_of_length_le (by rw[XI];omega)]
  have cd:=aid _ hx hft
  generalize l.getD i ex0=x at*
  generalize x.can=u at*
  simp(disch:=omega)only[go_sem,c1,hci,qp]
  refine⟨by omega,by omega,?_⟩
  refine qz cd (by simp(disch:=omega)only[go_sem]) ?_
  rintro r hs ⟨rfl,rfl⟩
  refine⟨by simp[qB];simp(disch:=omega)only[go_sem,qp],?_⟩
  simp(disch:=omega)only[go_sem,qp,hcut]
  refine⟨⟨by rw[XI];omega,by omega⟩,QI (i+1) (by show i+1≤l.length;omega) (by show l.length-(i+1)<l.length-i;omega) (Le.moveF 270000000 190000000 _ 3 i (exf l) (by omega) (by omega) (by omega) (by simp(disch:=omega)only[go_sem,Jq,nmF,jv,XD];try simp) ?_ (fun j hj=>?_) ?_)⟩
  ·dsimp only
   rw[qn,hg];rfl
  ·dsimp only
   repeat rw[qi (by omega)]
   rw[qS hj]
  ·dsimp only
   rw[qi (by omega),qi (by omega),qi (by omega),qi (by omega),qi (by omega),qn]
   unfold zt;rw[hg];rfl
 ·simp(disch:=omega)only[go_sem,c1,qp]
  obtain rfl:i=l.length:=by omega
  refine J3 (fun m=>if m=0 then 1 else 500000000+(m-1)) (.own 3 (qk (dcs 1) (prF (exf l) l.length))) l.length (zt (exf l)) [.rf 0 0 l.length,.v (.bool true)] (by omega) (by simp(disch:=omega)only[go_sem,alm,nmF,jv];try simp) ⟨?_,?_,trivial⟩ (fun j hj=>⟨?_,(qw _ j).2.2 _,(qw _ j).1⟩) (fun m hm=>?_) (fun m m' hm hm' e=>?_) (by simp) ⟨rfl,rfl⟩
  ·show Ob.own 3 (ze _ (qk (dcs 1) (prF (exf l) l.length)))=_
   rw[zH (a:=1) (b:=500000000) (fun j hj=>by rw[if_neg (by omega)];omega)]
   show _=fam _ _ _ _ 1
   rw[qp (by omega)]
   rfl
  ·exact zB fun p hp=>.inr (by have:=zW hp;omega)
  ·rw[(qw _ j).2.1]
   show _=fam _ _ _ _ (if 1+j=0 then 1 else 500000000+(1+j-1))
   rw[if_neg (by omega),show 1+j-1=j by omega,qS hj]
  ·by_cases h:m=0
   ·rw[if_pos h];rfl
   ·rw[if_neg h];exact j0 (by omega)
  ·have e:(if m=0 then 1 else 500000000+(m-1))=(if m'=0 then 1 else 500000000+(m'-1)):=e
   split at e<;>split at e<;>omega
theorem amk(n:Nat)(l:List ExV)(hl:l.length≤1000)(hb:gbd (-400000) 400000 l)(hall:l.all ExV.fit=true):Con Tryz.prog 120 false [.ag [.v (.int .i64 (n)),.sl (l).length (qk ExV.cs (l))]] []
  (fun r hs bs=>r=.tu [.ag [.v (.int .i64 n),.rf 0 0 l.length],.v (.bool true)]∧hs=.own 3 (qk (dcs 1) (prF (exf l) l.length))::(List.range l.length).map (zt (exf l))):=by
 have cd:=amm l hl hb hall
 have hFp:=qw (exf l)
 generalize exf l=g at*
 refine Con.of_w (rs:=[.cell 2 25,.tmp 3]) Tryz.func120 rfl Tryz.ntmps120 rfl ?_
 simp(disch:=omega)only[go_sem]
 refine qz cd (by simp(disch:=omega)only[go_sem]) ?_
 rintro r hs ⟨rfl,rfl⟩
 refine⟨⟨by simp;omega,yi fun j hj=>?_⟩,?_⟩
 ·rw[qi (by omega),qi (by omega),Xo (by omega)]
 have hrow:ze (rho 110000000 []) (qk (dcs 1) (prF g l.length))=qk (dcs 110000001) (prF g l.length):=zH fun j hj=>by
  unfold rho;rw[if_pos (by omega)];omega
 simp(disch:=omega)only[go_sem,Qx hFp,qp,hrow]
 refine J3 (fun m=>110000000+m) (.own 3 (qk (dcs 1) (prF g l.length))) l.length (zt g) [.ag [.v (.int .i64 n),.rf 0 0 l.length],.v (.bool true)] (by omega) (by simp(disch:=omega)only[go_sem,alm,nmF,jv];try simp) ⟨?_,?_,trivial⟩ (fun j hj=>⟨?_,(qw _ j).2.2 _,(qw _ j).1⟩) (fun m hm=>j0 (by omega)) (fun m m' hm hm' e=>Nat.add_left_cancel e) (by simp) ⟨rfl,rfl⟩
 ·show Ob.own 3 (ze _ (qk (dcs 1) (prF g l.length)))=_
  rw[zH (a:=1) (b:=110000001) (fun j hj=>by omega),qi (by omega),qp (by omega)]
  exact(qn _ _ _).symm
 ·exact zB fun p hp=>.inr (by have:=zW hp;omega)
 ·rw[(qw _ j).2.1,qi (by omega),show 110000000+(1+j)=110000001+j by omega,qS hj]
end Go.Ab
namespace Go.Ab
open Go Go.Proofs
/-! ### The exponential,rounded,with rows of its own-/
def exg(l:List ExV)(x:ExV)(j:Nat):DyV:=if j<l.length then(l.getD j ex0).can.dyv else x.can.dyv
theorem axr{l:List ExV}{x:ExV}{j:Nat}(h:j<l.length):exg l x j=exf l j:=if_pos h
theorem ahf{l:List ExV}{x:ExV}:exg l x l.length=x.can.dyv:=if_neg (by omega)
theorem af5{f g:Nat→DyV}{n:Nat}(h:∀j,j<n→f j=g j):prF f n=prF g n:=List.map_congr_left fun j hj=>by rw[h j (List.mem_range.1 hj)]
theorem adE{f g:Nat→DyV}{n:Nat}(h:∀j,j<n→f j=g j):(List.range n).map (zt f)=(List.range n).map (zt g):=List.map_congr_left fun j hj=>by unfold zt;rw[h j (List.mem_range.1 hj)]
theorem anm{H:List (Nat×Ob)}{s:Nat}(h:∀q∈H,q.1≠s)(hs:20000000≤s):ofH H s=.free:=by
 rcases jw (l:=H) (s:=s) (d:=(bif zI s then .dead else .free:Ob))with⟨w,h2, -⟩|h2
 ·exact absurd rfl (h _ h2)
 ·have:ofH H s=_:=h2
  rw[this,j0 hs];rfl
def alj(g:Nat→DyV)(k:Nat):List Ob:=(List.range k).map (zt g)
@[simp] theorem ayt {g:Nat→DyV} {k:Nat}:(alj g k).length=k:=by simp[alj]
theorem K0{ρ:Nat→Nat}{h:Nat→Ob}{c k:Nat}{g:Nat→DyV}:YS ρ h c (alj g k)=fam c k (zt g) h:=Qx (qw g)
theorem Xd{h:Nat→Ob}{c n:Nat}{row:Ob}{g:Nat→DyV}(hh:∀j,j≤n→h (c+j)=.free):qB h c (row::alj g n):=yi hh
def mnO(n N:Nat)(g:Nat→DyV):AV→List Ob→List Ob→Prop:=fun r hs bs=>r=.tu [.ag [.v (.int .i64 n),.rf 0 0 N],.ag [.v (.bool (g N).s),.rf (N+1) 0 (g N).xs.length,.v (.int .i64 (g N).e)],.v (.bool true)]∧hs=.own 3 (qk (dcs 1) (prF g N))::alj g (N+1)
def mnZ:AV→List Ob→List Ob→Prop:=fun r hs bs=>r=.tu [.ag [.v (.int .i64 0),.v (.slice none 0 0)],.ag [.v (.bool false),.v (.slice none 0 0),.v (.int .i64 0)],.v (.bool false)]∧hs=[]
def akm(R D N m:Nat):Nat:=if m≤N then R+m else D
theorem atK{R D N:Nat}:akm R D N 0=R:=if_pos (by omega)
theorem afV{R D N j:Nat}(h:j<N):akm R D N (1+j)=R+1+j:=by unfold akm;rw[if_pos (by omega)];omega
theorem akl{R D N:Nat}:akm R D N (N+1)=D:=if_neg (by omega)
theorem anx{P:Nat}{cl:Bool}{e:Nat→AV}{h:Nat→Ob}(R D n N:Nat)(g:Nat→DyV)(hN:N<1000)(hR:20000000≤R)(hD:20000000≤D)(hd:D<R∨R+N<D)
  (h0:h R=.own 3 (qk (dcs (R+1)) (prF g N))) (hF:∀j,j<N→h (R+1+j)=zt g j) (h1:h D=zt g N) (hpu:∀f:Nat→DyV,∀j,(zt f j).pu) (hpr:∀L:List (Nat×DyV),AV.pu.puL (qk (dcs 1) L)):
  @aeI P cl 0 ⟨mnO n N g⟩ ⟨e⟩ [.ag [.v (.int .i64 n),.rf R 0 N],.ag [.v (.bool (g N).s),.rf D 0 (g N).xs.length,.v (.int .i64 (g N).e)],.v (.bool true)] h:=by
 have r0:=@atK R D N
 have r1:=@akl R D N
 refine J3 (akm R D N) (.own 3 (qk (dcs 1) (prF g N))) (N+1) (zt g) [.ag [.v (.int .i64 n),.rf 0 0 N],.ag [.v (.bool (g N).s),.rf (N+1) 0 (g N).xs.length,.v (.int .i64 (g N).e)],.v (.bool true)] (by omega) ⟨⟨?_,?_⟩,⟨?_,?_⟩,⟨rfl,trivial⟩,trivial⟩ ⟨?_,?_,trivial⟩ (fun j hj=>⟨?_,(qw _ j).2.2 _,(qw _ j).1⟩) (fun m hm=>?_) (fun m m' hm hm' e=>?_) (fun _=>⟨hpr _,fun j _=>hpu g j,by simp[zb,AV.pu,AV.pu.puL]⟩) ⟨rfl,rfl⟩
 ·show AV.ag [_,AV.rf (akm R D N 0) 0 N]=_
  rw[r0];rfl
 ·exact⟨trivial,.inl (.inl rfl),trivial⟩
 ·show AV.ag [_,AV.rf (akm R D N (N+1)) 0 _,_]=_
  rw[r1];rfl
 ·exact⟨trivial,.inr (by omega),trivial,trivial⟩
 ·rw[r0,h0]
  show Ob.own 3 (ze _ (qk (dcs 1) (prF g N)))=_
  rw[zH (a:=1) (b:=R+1) fun j hj=>afV hj]
 ·exact zB fun p hp=>.inr (by have:=zW hp;omega)
 ·rw[(qw _ j).2.1]
  rcases(show j<N∨j=N by omega)with c|rfl
  ·rw[afV c,hF j c]
  ·rw[show 1+j=j+1 by omega,r1,h1]
 ·unfold akm
  split<;>exact j0 (by omega)
 ·unfold akm at e
  split at e<;>split at e<;>omega
theorem Ye(n:Nat)(l:List ExV)(x:ExV)(hl:l.length<1000)(hb:gbd (-400000) 400000 l)(hx:x.bd (-400000) 400000)(hall:(l.all ExV.fit&&x.fit)=true):Con Tryz.prog 57 false [.ag [.v (.int .i64 (n)),.sl (l).length (qk ExV.cs (l))],.ag [.v (.bool (x).s),.sl (lim (x).m).length (qg (lim (x).m)),.v (.int .i64 (x).e)]] [] (mnO n l.length (exg l x)):=by
 rw[Bool.and_eq_true]at hall
 have cm:=amk n l (by omega) hb hall.1
 have cd:=aid x hx hall.2
 have hc:∀j,j<l.length→exf l j=exg l x j:=fun j hj=>(axr hj).symm
 rw[af5 hc,adE hc]at cm
 have hE:=@ahf l x
 have hFp:=qw (exg l x)
 generalize exg l x=g at*
 generalize x.can=y at*
 refine Con.of_w (rs:=[.cell 4 25,.cell 5 44,.tmp 6]) Tryz.func57 rfl Tryz.ntmps57 rfl ?_
 simp(disch:=omega)only[go_sem]
 refine qz cm (by simp(disch:=omega)only[go_sem]) ?_
 rintro r hs ⟨rfl,rfl⟩
 refine⟨⟨by simp;omega,yi fun j hj=>?_⟩,?_⟩
 ·repeat rw[qi (by omega)]
  rw[Xo (by omega)]
 have hrow:ze (rho 150000000 []) (qk (dcs 1) (prF g l.length))=qk (dcs 150000001) (prF g l.length):=zH fun j hj=>by
  unfold rho;rw[if_pos (by omega)];omega
 simp(disch:=omega)only[go_sem,Qx hFp,qp,hrow]
 refine qz cd (by simp(disch:=omega)only[go_sem]) ?_
 rintro r hs ⟨rfl,rfl⟩
 refine⟨by simp[qB];simp(disch:=omega)only[go_sem,qp,qI],?_⟩
 simp(disch:=omega)only[go_sem,qp,qI]
 refine qs rfl [⟨0,[],[]⟩,⟨1,[0],[]⟩,⟨2,[1],[]⟩,⟨3,[],[]⟩,⟨4,[],[]⟩] (by kernel_rfl) ?_
 simp(disch:=omega)only[go_sem,qp,qI]
 have hye:y.dyv=g l.length:=hE.symm
 have e1:y.s=(g l.length).s:=congrArg DyV.s hye
 have e2:lim y.m=(g l.length).xs:=congrArg DyV.xs hye
 have e3:y.e=(g l.length).e:=congrArg DyV.e hye
 rw[e1,e2,e3]
 refine anx 150000000 200000000 n l.length g (by omega) (by omega) (by omega) (by omega) ?_ (fun j hj=>?_) ?_ agD (fun L=>ahy)
 ·repeat rw[qi (by omega)]
  rw[qp (by omega)]
  repeat rw[qi (by omega)]
  rw[qn]
 ·repeat rw[qi (by omega)]
  rw[show 150000000+1+j=150000001+j by omega,qS hj]
 ·repeat rw[qi (by omega)]
  rw[qn];rfl
theorem Yd(n:Nat)(l:List ExV)(x:ExV)(hl:l.length≤1000)(hb:gbd (-400000) 400000 l)(hx:x.bd (-400000) 400000)(hall:(l.all ExV.fit&&x.fit)=false):Con Tryz.prog 57 false [.ag [.v (.int .i64 (n)),.sl (l).length (qk ExV.cs (l))],.ag [.v (.bool (x).s),.sl (lim (x).m).length (qg (lim (x).m)),.v (.int .i64 (x).e)]] [] mnZ:=by
 have cd:=aa4 n l hl hb
 have cx:=aic x hx
 generalize l.map ExV.can=L at*
 cases hf:l.all ExV.fit<;>cases hg:x.fit
 ·rw[hf,if_neg (by simp)]at cd
  rw[hg,if_neg (by simp)]at cx
  refine Con.of_aw Tryz.func57 rfl Tryz.ntmps57 (by simp) (by simp) (by simp) (W.sound ?_)
  show @W Tryz.prog 31 ⟨_⟩ ⟨fun x σ=>@q8 _ _ _ ⟨_⟩ _ ⟨_⟩ x σ⟩ _ _
  simp(disch:=omega)only[go_sem]
  refine qa (cd) ?_
  simp(disch:=omega)only[go_sem]
  refine qa (cx) ?_
  simp(disch:=omega)only[go_sem]
  refine ql [] [] [] [.ag [.v (.int .i64 0),.v (.slice none 0 0)],.ag [.v (.bool false),.v (.slice none 0 0),.v (.int .i64 0)],.v (.bool false)] rfl (by simp(disch:=omega)only[go_sem]) (by simp(disch:=omega)only[go_sem]) (by simp) (by simp) ⟨rfl,rfl⟩
 ·rw[hf,if_neg (by simp)]at cd
  rw[hg,if_pos rfl]at cx
  refine Con.of_aw Tryz.func57 rfl Tryz.ntmps57 (by simp) (by simp) (by simp) (W.sound ?_)
  show @W Tryz.prog 31 ⟨_⟩ ⟨fun x σ=>@q8 _ _ _ ⟨_⟩ _ ⟨_⟩ x σ⟩ _ _
  simp(disch:=omega)only[go_sem]
  refine qa (cd) ?_
  simp(disch:=omega)only[go_sem]
  refine qa (cx) ?_
  simp(disch:=omega)only[go_sem]
  refine ql [] [] [] [.ag [.v (.int .i64 0),.v (.slice none 0 0)],.ag [.v (.bool false),.v (.slice none 0 0),.v (.int .i64 0)],.v (.bool false)] rfl (by simp(disch:=omega)only[go_sem]) (by simp(disch:=omega)only[go_sem]) (by simp) (by simp) ⟨rfl,rfl⟩
 ·rw[hf,if_pos rfl]at cd
  rw[hg,if_neg (by simp)]at cx
  refine Con.of_aw Tryz.func57 rfl Tryz.ntmps57 (by simp) (by simp) (by simp) (W.sound ?_)
  show @W Tryz.prog 31 ⟨_⟩ ⟨fun x σ=>@q8 _ _ _ ⟨_⟩ _ ⟨_⟩ x σ⟩ _ _
  simp(disch:=omega)only[go_sem]
  refine qa (cd) ?_
  simp(disch:=omega)only[go_sem]
  refine qa (cx) ?_
  simp(disch:=omega)only[go_sem]
  refine ql [] [] [] [.ag [.v (.int .i64 0),.v (.slice none 0 0)],.ag [.v (.bool false),.v (.slice none 0 0),.v (.int .i64 0)],.v (.bool false)] rfl (by simp(disch:=omega)only[go_sem]) (by simp(disch:=omega)only[go_sem]) (by simp) (by simp) ⟨rfl,rfl⟩
 ·rw[hf,hg]at hall
  cases hall
end Go.Ab
namespace Go.Ab
open Go Go.Proofs
/-! ### The law of what is held of a matrix's exponential-/
theorem atY{l:List DyV}{n:Nat}:prs l n=prF (fun j=>l.getD j dy0) n:=rfl
theorem anr(l:List DyV):agC l=zt (fun j=>l.getD j dy0):=rfl
theorem akf{h:Nat→Ob}{b k:Nat}{f:Nat→DyV}{n:Nat}(hF:∀j,j<n→h (b+j)=zt f j):(qk (dcs b) (prF f n)).map (qE h (k+2))=jV (cS f) (vX f) (cE f) n:=by
 have key:∀L:List Nat,(∀j∈L,j<n)→(qk (dcs b) (L.map fun j=>(j,f j))).map (qE h (k+2))=qk (fun j=>[cS f j,vX f j,cE f j]) L:=by
  intro L
  induction L with
  |nil=>intro _;rfl
  |cons a L ih=>
   intro hL
   rw[List.map_cons,qT,qT,List.map_append,ih fun j hj=>hL j (List.mem_cons_of_mem _ hj)]
   congr 1
   show [qE h (k+2) (.v _),qE h (k+2) (.rf (b+a) 0 _),qE h (k+2) (.v _)]=_
   have h1:h (b+a)=.own 1 (qg ((f a).xs++[])):=by rw[List.append_nil];exact hF a (hL a (List.mem_cons_self ..))
   rw[ja h1 rfl]
   rfl
 exact key _ fun j hj=>List.mem_range.1 hj
theorem abX{l:List DyV}:jV (cS fun j=>l.getD j dy0) (vX fun j=>l.getD j dy0) (cE fun j=>l.getD j dy0) l.length=qk DyV.cs l:=by
 have:l=(List.range l.length).map fun j=>l.getD j dy0:=by
  apply List.ext_getElem
  ·simp
  ·intro i h1 h2
   simp[List.getD_eq_getElem?_getD,List.getElem?_eq_getElem h1]
 conv=>rhs;rw[this]
 unfold jV qk
 rw[List.map_map];rfl
theorem yR{h:Nat→Ob}{b0 b z k m n:Nat}{f:Nat→DyV}(h0:h b0=.own z (qk (dcs b) (prF f n)))(hz:m*z=n*3)(hF:∀j,j<n→h (b+j)=zt f j):qE h (k+3) (.rf b0 0 m)=.sl m (jV (cS f) (vX f) (cE f) n):=by
 show(match h b0 with| .own z cs=>AV.sl m ((cut cs 0 (m*z)).map (qE h (k+2)))|_=>.un)=_
 rw[h0]
 show AV.sl m ((cut _ 0 (m*z)).map _)=_
 have hc:cut (qk (dcs b) (prF f n)) 0 (m*z)=qk (dcs b) (prF f n):=by
  unfold cut
  rw[List.drop_zero,List.take_of_length_le (by rw[XI];omega)]
 rw[hc,akf hF]
theorem aaz{l:List DyV}(hx:l.length+smF (fun j=>l.getD j dy0) l.length≤1048576):∀d∈l,d.xs.length≤1048576:=fun d hd=>by
 obtain⟨i,hi,rfl⟩:=List.getElem_of_mem hd
 have:=aaj (f:=fun j=>l.getD j dy0) hi
 rw[List.getD_eq_getElem?_getD,List.getElem?_eq_getElem hi]at this
 simp only[Option.getD_some]at this
 omega
theorem Xh(k:Int)(l:List DyV)(hl:l.length≤1048576)(hx:∀d∈l,d.xs.length≤1048576):Con Tryz.prog 17 false [.ag [.v (.int .i64 k),.sl l.length (qk DyV.cs l)]] [] (isA (.ag [.v (.int .i64 k),.sl l.length (qk DyV.cs l)])):=by
 refine Con.frzA ((ZG k l hl hx).mono ?_)
 rintro r hs bs ⟨rfl,rfl⟩
 show AV.ag [_,qE _ 5 (.rf 0 0 l.length)]=_
 rw[yR (b:=1) (z:=3) (n:=l.length) (f:=fun j=>l.getD j dy0) rfl (by omega) (fun j hj=>?_),abX]
 ·rfl
 ·show rhp _ [] (1+j)=_
  unfold rhp
  rw[if_neg (by omega),show 1+j=j+1 by omega,List.getD_cons_succ,List.getD_eq_getElem?_getD,List.getElem?_map,List.getElem?_range hj];rfl
theorem Xz{h:Nat→Ob}{b0 b k:Nat}{l:List DyV}(h0:h b0=.own 3 (qk (dcs b) (prF (fun j=>l.getD j dy0) l.length)))(hF:∀j,j<l.length→h (b+j)=zt (fun j=>l.getD j dy0) j):qE h (k+3) (.rf b0 0 l.length)=.sl l.length (qk DyV.cs l):=by
 rw[yR (n:=l.length) h0 (by omega) hF,abX]
theorem Le.famI{σ:St}(E:List (Nat×AV))(H:List (Nat×Ob))(b n:Nat)(F:Nat→Ob)(hP:∀j,aap (F j))
  (hn:yW (H.map (·.1))=true) (hlow:∀q∈H,q.1<b∨b+n≤q.1) (hE:Jq id σ.env (nmF (H.map (·.1)) b n) E)
  (hH:∀q∈H,σ.hp q.1=q.2∧q.2.men (nmF (H.map (·.1)) b n)∧q.2.isOwn) (hF:∀j,j<n→σ.hp (b+j)=F j):Le σ ⟨ofL .un E,fam b n F (ofH H)⟩:=by
 have hr:∀o:Ob,o.ren id=o:=fun o=>by
  cases o with
  |own z cs=>show Ob.own z (ze (fun m=>m) cs)=_;rw[Zu]
  |free=>rfl
  |dead=>rfl
 refine Le.famL id E H b n F hn hlow hE ?_ (fun j hj=>⟨by rw[hr];exact(hF j hj).symm,(hP j).2.2 _,(hP j).1⟩) (fun m hm=>⟨fun _=>rfl,fun h=>h⟩) (fun m m' _ _ h=>h)
 have key:∀(L:List (Nat×Ob)) (p:Nat→Prop),(∀q∈L,σ.hp q.1=q.2∧q.2.men p∧q.2.isOwn)→auX id σ.hp p L:=by
  intro L p
  induction L with
  |nil=>intro _;trivial
  |cons a L ih=>
   intro h
   obtain⟨h1,h2,h3⟩:=h a (List.mem_cons_self ..)
   exact⟨⟨by rw[hr];exact h1.symm,h2,h3⟩,ih fun q hq=>h q (List.mem_cons_of_mem _ hq)⟩
 exact key _ _ hH
theorem Le.famI2{σ:St}(E:List (Nat×AV))(H:List (Nat×Ob))(b n:Nat)(F:Nat→Ob)(b2 n2:Nat)(F2:Nat→Ob)(hP:∀j,aap (F j))(hP2:∀j,aap (F2 j))
  (hn:yW (H.map (·.1))=true) (hb:20000000≤b∧20000000≤b2) (hlow:∀q∈H,(q.1<b∨b+n≤q.1)∧(q.1<b2∨b2+n2≤q.1)) (hd:b+n≤b2) (hE:Jq id σ.env (fun m=>nmF (H.map (·.1)) b n m∨(b2≤m∧m<b2+n2)) E)
  (hH:∀q∈H,σ.hp q.1=q.2∧q.2.men (fun m=>nmF (H.map (·.1)) b n m∨(b2≤m∧m<b2+n2))∧q.2.isOwn) (hF:∀j,j<n→σ.hp (b+j)=F j) (hF2:∀j,j<n2→σ.hp (b2+j)=F2 j):
  Le σ ⟨ofL .un E,fam b2 n2 F2 (fam b n F (ofH H))⟩:=by
 have hnd:=z7 hn
 have hget:∀q∈H,fam b2 n2 F2 (fam b n F (ofH H)) q.1=q.2:=fun q hq=>by
  obtain⟨h1,h2⟩:=hlow q hq
  have a:fam b2 n2 F2 (fam b n F (ofH H)) q.1=fam b n F (ofH H) q.1:=if_neg (by omega)
  have c:fam b n F (ofH H) q.1=ofH H q.1:=if_neg (by omega)
  rw[a,c]
  exact XL hnd q hq
 have g1:∀j,j<n→fam b2 n2 F2 (fam b n F (ofH H)) (b+j)=F j:=fun j hj=>by rw[qp (by omega),qS hj]
 have g2:∀j,j<n2→fam b2 n2 F2 (fam b n F (ofH H)) (b2+j)=F2 j:=fun j hj=>qS hj
 have hne:∀m,(nmF (H.map (·.1)) b n m∨(b2≤m∧m<b2+n2))→fam b2 n2 F2 (fam b n F (ofH H)) m≠ .free:=fun m hm=>by
  rcases hm with(hm|hm)|hm
  ·obtain⟨q,hq,rfl⟩:=List.mem_map.1 (Jo.1 hm)
   rw[hget q hq]
   exact zD (hH q hq).2.2
  ·rw[show m=b+(m-b) by omega,g1 _ (by omega)]
   exact zD (hP _).1
  ·rw[show m=b2+(m-b2) by omega,g2 _ (by omega)]
   exact zD (hP2 _).1
 have hsrc:∀m z cs,fam b2 n2 F2 (fam b n F (ofH H)) m=.own z cs→σ.hp m=.own z cs∧AllL (fun m=>nmF (H.map (·.1)) b n m∨(b2≤m∧m<b2+n2)) cs:=by
  intro m z cs e
  by_cases h2:b2≤m∧m<b2+n2
  ·rw[show m=b2+(m-b2) by omega,g2 _ (by omega)]at e
   have hm:=hF2 (m-b2) (by omega)
   rw[show b2+(m-b2)=m by omega,e]at hm
   have:=(hP2 (m-b2)).2.2 (fun m=>nmF (H.map (·.1)) b n m∨(b2≤m∧m<b2+n2))
   rw[e]at this
   exact⟨hm,this⟩
  ·have a:fam b2 n2 F2 (fam b n F (ofH H)) m=fam b n F (ofH H) m:=if_neg h2
   by_cases h1:b≤m∧m<b+n
   ·rw[show m=b+(m-b) by omega,g1 _ (by omega)]at e
    have hm:=hF (m-b) (by omega)
    rw[show b+(m-b)=m by omega,e]at hm
    have:=(hP (m-b)).2.2 (fun m=>nmF (H.map (·.1)) b n m∨(b2≤m∧m<b2+n2))
    rw[e]at this
    exact⟨hm,this⟩
   ·have c:fam b n F (ofH H) m=ofH H m:=if_neg h1
    rw[a,c]at e
    rcases jw (l:=H) (s:=m) (d:=(bif zI m then .dead else .free:Ob))with⟨v,h1,h2⟩|h1
    ·have hv:v=.own z cs:=h2.symm.trans e
     subst hv
     obtain⟨k1,k2, -⟩:=hH _ h1
     exact⟨k1,k2⟩
    ·have:ofH H m=_:=h1
     rw[this]at e
     cases hl:zI m<;>rw[hl]at e<;>cases e
 refine Le.gen id _ _ (fun s=>?_) (fun m z cs e=>?_) (fun m hm=>?_) (fun m m' _ _ _ _ _ _ h=>h)
 ·rcases jw (l:=E) (s:=s) (d:=AV.un)with⟨v,h1,h2⟩|h1
  ·right
   rw[h2]
   obtain⟨k1,k2⟩:=XY hE _ h1
   exact⟨k1,k2.mono hne⟩
  ·exact .inl h1
 ·obtain⟨k1,k2⟩:=hsrc m z cs e
  refine⟨?_,k2.mono hne,fun _=>rfl,fun h=>h⟩
  show σ.hp m=.own z (ze (fun m=>m) cs)
  rw[Zu,k1]
 ·intro hf
  have hm2:m<20000000:=by
   rcases Nat.lt_or_ge m 20000000 with h|h
   ·exact h
   ·rw[j0 h]at hm;cases hm
  have a:fam b2 n2 F2 (fam b n F (ofH H)) m=ofH H m:=by rw[qp (by omega),qp (by omega)]
  rw[a]at hf
  rcases jw (l:=H) (s:=m) (d:=(bif zI m then .dead else .free:Ob))with⟨v,h1,h2⟩|h1
  ·have hv:v=.free:=h2.symm.trans hf
   exact zD (hH _ h1).2.2 hv
  ·have:ofH H m=_:=h1
   rw[this,hm]at hf
   cases hf
end Go.Ab
namespace Go.Ab
open Go Go.Proofs
/-! ### A matrix and a number that were given back-/
def gM(g:Nat→DyV)(N:Nat):List DyV:=(List.range N).map g
theorem anu{g:Nat→DyV}{N:Nat}:(gM g N).length=N:=by simp[gM]
theorem api{g:Nat→DyV}{N:Nat}:jV (cS g) (vX g) (cE g) N=qk DyV.cs (gM g N):=by
 unfold jV qk gM
 rw[List.map_map];rfl
theorem aai{h:Nat→Ob}{b0 b k N:Nat}{g:Nat→DyV}(h0:h b0=.own 3 (qk (dcs b) (prF g N)))(hF:∀j,j<N→h (b+j)=zt g j):qE h (k+3) (.rf b0 0 N)=.sl N (qk DyV.cs (gM g N)):=by
 rw[yR (n:=N) h0 (by omega) hF,api]
theorem JE{h:Nat→Ob}{m k N:Nat}{g:Nat→DyV}(h0:h m=zt g N):qE h (k+2) (.rf m 0 (g N).xs.length)=.sl (g N).xs.length (qg (g N).xs):=ja (zs:=[]) (by rw[h0,List.append_nil];rfl) rfl
theorem aqD{b:Nat}:idx [b] b=some 0:=j6 (nms:=[b]) (by simp) 0 (by simp)
theorem ao7{h:Nat→Ob}{b m k:Nat}:snp h (idx [b]) (k+1) (.rf b 0 m)=.rf 10000000 0 m:=by
 show(match idx [b] b with|some i=>AV.rf (10000000+i) 0 m|none=>_)=_
 rw[aqD]
theorem aiw{P:Program}{fn:FuncId}{aa0 args:List AV}{h:Nat→Ob}{c:Nat}{K:AV→(Nat→Ob)→Prop}(b:Nat)(xs ys:List Int)(rv:Value)(h0:h b=.own 1 (qg xs))
  (hc:Con P fn false args [.own 1 (qg xs)] (fun r hs bs=>r=.v rv∧hs=[]∧bs=[.own 1 (qg ys)])) (ha:aa0.map (snp (hpx false [b] h) (idx [b]) 6)=args) (hk:K (.v rv) (upd h b (.own 1 (qg ys)))):KX P fn aa0 h c K:=by
 refine⟨false,[b],_,by
  rw[ha]
  show Con P fn false args [(h b).ren _] _
  rw[h0]
  show Con P fn false args [Ob.own 1 (ze _ (qg xs))] _
  rw[yf];exact hc,by simp,fun m hm=>?_,fun r hs bs' hp=>?_⟩
 ·rw[List.mem_singleton.1 hm]
  exact⟨1,_,h0,Qo⟩
 ·obtain⟨rfl,rfl,rfl⟩:=hp
  refine⟨by simp,trivial,fun h=>(by cases h),?_⟩
  show K (.v rv) (upd h b (.own 1 (ze _ (qg ys))))
  rw[yf];exact hk
theorem aqj{P:Program}{f:FuncId}{args:List AV}{n N:Nat}{g:Nat→DyV}(hN:N≤16)(h:Con P f true args [] (mnO n N g)):
  Con P f true args [] (isA (.tu [.ag [.v (.int .i64 n),.sl N (qk DyV.cs (gM g N))],.ag [.v (.bool (g N).s),.sl (g N).xs.length (qg (g N).xs),.v (.int .i64 (g N).e)],.v (.bool true)])):=by
 refine Con.frzAC (h.mono ?_)
 rintro r hs bs ⟨rfl,rfl⟩
 have hr:∀j,j<N+1→rhp (.own 3 (qk (dcs 1) (prF g N))::alj g (N+1)) [] (1+j)=zt g j:=fun j hj=>by
  unfold rhp alj
  rw[if_neg (by omega),show 1+j=j+1 by omega,List.getD_cons_succ,List.getD_eq_getElem?_getD,List.getElem?_map,List.getElem?_range hj];rfl
 have e1:=aai (h:=rhp (.own 3 (qk (dcs 1) (prF g N))::alj g (N+1)) []) (b0:=0) (b:=1) (k:=1) (g:=g) (N:=N) rfl (fun j hj=>hr j (by omega))
 have e2:=JE (h:=rhp (.own 3 (qk (dcs 1) (prF g N))::alj g (N+1)) []) (m:=N+1) (k:=2) (g:=g) (N:=N) (by have h3:=hr N (by omega);rw[Nat.add_comm 1 N]at h3;exact h3)
 show AV.tu [AV.ag [_,qE _ 4 (.rf 0 0 N)],AV.ag [_,qE _ 4 (.rf (N+1) 0 _),_],_]=_
 rw[e1,e2];rfl
end Go.Ab
namespace Go.Ab
open Go Go.Proofs
set_option maxRecDepth 100000 in
theorem YK(k:Int)(l:List DyV)(low:Int)(st:Int)(hl:l.length≤9223372036854775807)(hx:∀x∈l,x.xs.length≤9223372036854775807)(n N:Nat)(g:Nat→DyV)(hN:N≤16)(hg:∀j,j≤N→(g j).xs.length≤1000)
  (cs:Con Tryz.prog 16 false [.ag [.v (.int .i64 k),.sl l.length (qk DyV.cs l)],.v (.int .i64 low),.v (.int .i64 st)] [] (isA (.tu [.ag [.v (.int .i64 n),.sl N (qk DyV.cs (gM g N))],.ag [.v (.bool (g N).s),.sl (g N).xs.length (qg (g N).xs),.v (.int .i64 (g N).e)],.v (.bool true)])))
  (ci:Con Tryz.prog 18 true [.ag [.v (.int .i64 k),.sl l.length (qk DyV.cs l)],.v (.int .i64 low),.v (.int .i64 st)] [] (mnO n N g)):
  Con Tryz.prog 4 true [.ag [.v (.int .i64 k),.sl l.length (qk DyV.cs l)],.v (.int .i64 low),.v (.int .i64 st)] [] (isA (.v (.bool true))):=by
 have cz:=ZI k l 1048576 hl hx (by omega)
 refine Con.of_aw Tryz.func4 rfl Tryz.ntmps4 (by simp) (by simp) (by simp) (AW.front3 ?_)
 show @W Tryz.prog 143 ⟨_⟩ ⟨fun x σ=>@yc ⟨_⟩ ⟨_⟩ x σ⟩ _ _
 simp(disch:=omega)only[go_sem]
 refine qr cz (by simp(disch:=omega)only[go_sem]) ?_
 rintro r hs ⟨v,rfl,rfl, -,hv⟩
 refine⟨by simp[qB],?_⟩
 simp(disch:=omega)only[go_sem]
 rcases hv with rfl|⟨h0,h1⟩
 ·refine W.sound ?_
  show @W Tryz.prog 143 ⟨_⟩ ⟨fun x σ=>@q8 _ _ _ ⟨_⟩ _ ⟨_⟩ x σ⟩ _ _
  simp(disch:=omega)only[go_sem]
  exact qu
 have hlen:l.length≤1048576:=by omega
 have hxs:=aaz h1
 have cT:=Xh k l hlen hxs
 have hv0:decide (v<0)=false:=decide_eq_false (by omega)
 refine AW.front3 ?_
 show @W Tryz.prog 143 ⟨_⟩ ⟨fun x σ=>@yc ⟨_⟩ ⟨_⟩ x σ⟩ _ _
 simp(disch:=omega)only[go_sem,hv0]
 refine qa (cT) ?_
 simp(disch:=omega)only[go_sem]
 refine qa (cs) ?_
 simp(disch:=omega)only[go_sem]
 refine qz (ZG k l hlen hxs) (by simp(disch:=omega)only[go_sem]) ?_
 rintro r hs ⟨rfl,rfl⟩
 refine⟨⟨by simp;omega,yi fun j hj=>?_⟩,?_⟩
 ·repeat rw[qi (by omega)]
  rw[Xo (by omega)]
 have hrow:=@aak 380000000 l.length l (by omega)
 simp(disch:=omega)only[go_sem,Qx (zT l),qp,hrow]
 rw[atY,anr]
 refine AW.le (Le.famI [(1,.v (.int .i64 low)),(2,.v (.int .i64 st)),(3,.pt 50000000 0),(6,.v (.bool false)),(8,.pt 100000000 0),(9,.pt 110000000 0),(10,.v (.bool true)),(11,.pt 130000000 0)]
  [(50000000,.own 0 [.v (.int .i64 k),.sl l.length (qk DyV.cs l)]),(100000000,.own 0 [.v (.int .i64 n),.sl N (qk DyV.cs (gM g N))]),(110000000,.own 0 [.v (.bool (g N).s),.sl (g N).xs.length (qg (g N).xs),.v (.int .i64 (g N).e)]),(130000000,.own 0 [.v (.int .i64 k),.rf 380000000 0 l.length]),(380000000,.own 3 (qk (dcs 380000001) (prF (fun j=>l.getD j dy0) l.length)))]
  380000001 l.length (zt fun j=>l.getD j dy0) (qw _) rfl (fun q hq=>.inl ?_) (by simp(disch:=omega)only[go_sem,Jq,nmF,jv];try simp) (fun q hq=>?_) (fun j hj=>?_)) ?_
 ·simp only[List.mem_cons,List.not_mem_nil,or_false]at hq
  rcases hq with rfl|rfl|rfl|rfl|rfl<;>(dsimp only;omega)
 ·simp only[List.mem_cons,List.not_mem_nil,or_false]at hq
  rcases hq with rfl|rfl|rfl|rfl|rfl
  ·refine⟨?_,⟨trivial,trivial,trivial⟩,trivial⟩
   dsimp only
   repeat rw[qi (by omega)]
   rw[qp (by omega)]
   repeat rw[qi (by omega)]
   rw[qn]
  ·refine⟨?_,⟨trivial,trivial,trivial⟩,trivial⟩
   dsimp only
   repeat rw[qi (by omega)]
   rw[qp (by omega)]
   repeat rw[qi (by omega)]
   rw[qn]
  ·refine⟨?_,⟨trivial,trivial,trivial,trivial⟩,trivial⟩
   dsimp only
   repeat rw[qi (by omega)]
   rw[qp (by omega)]
   repeat rw[qi (by omega)]
   rw[qn]
  ·refine⟨?_,⟨trivial,.inl (.inr (.inr (.inr (.inr (.inl rfl))))),trivial⟩,trivial⟩
   dsimp only
   rw[qn]
  ·refine⟨?_,zB fun p hp=>.inr (by have:=zW hp;omega),trivial⟩
   dsimp only
   repeat rw[qi (by omega)]
   rw[qp (by omega),qn]
 ·dsimp only
  repeat rw[qi (by omega)]
  rw[qS hj]
 refine AW.front4 ?_
 show @W Tryz.prog 143 ⟨_⟩ ⟨fun x σ=>@yc ⟨_⟩ ⟨_⟩ x σ⟩ _ _
 simp(disch:=omega)only[go_sem,qp]
 refine qr ci ?_ ?_
 ·show [AV.ag [_,qE _ 5 (.rf 380000000 0 l.length)],_,_]=_
  rw[Xz (b:=380000001) (by rw[qp (by omega)];rfl) (fun j hj=>qS hj)]
  rfl
 rintro r hs ⟨rfl,rfl⟩
 refine⟨⟨by simp;omega,Xd fun j hj=>?_⟩,?_⟩
 ·rw[qI (by omega)]
  refine anm (fun q hq=>?_) (by omega)
  simp only[List.mem_cons,List.not_mem_nil,or_false]at hq
  rcases hq with rfl|rfl|rfl|rfl|rfl<;>(dsimp only;omega)
 have hrow2:ze (rho 430000000 []) (qk (dcs 1) (prF g N))=qk (dcs 430000001) (prF g N):=zH fun j hj=>by
  unfold rho;rw[if_pos (by omega)];omega
 have hend:rho 430000000 [] (N+1)=430000001+N:=by unfold rho;rw[if_pos (by omega)];omega
 have ceq:=Zf n (gM g N) (by rw[anu];omega) (fun d hd=>by
  obtain⟨j,hj,rfl⟩:=List.mem_map.1 hd
  have:=hg j (by have:=List.mem_range.1 hj;omega)
  omega)
 rw[anu]at ceq
 have ceq2:=Vp (g N).s (g N).xs (g N).e (by have:=hg N (Nat.le_refl N);omega)
 have hgN:=hg N (Nat.le_refl N)
 simp(disch:=omega)only[go_sem,K0,qp,qI,hrow2,hend]
 refine qr ceq ?_ ?_
 ·show [AV.ag [_,qE _ 5 (.rf 430000000 0 N)],_]=_
  rw[aai (b:=430000001) ?_ (fun j hj=>?_)]
  ·rfl
  ·repeat rw[qi (by omega)]
   rw[qp (by omega),qn]
  ·repeat rw[qi (by omega)]
   rw[qS (by omega)]
 rintro r hs ⟨rfl,rfl, -⟩
 refine⟨by simp[qB],?_⟩
 simp(disch:=omega)only[go_sem,qp,qI]
 refine qr ceq2 ?_ ?_
 ·show [AV.ag [_,qE _ 5 (.rf (430000001+N) 0 _),_],_]=_
  rw[JE ?_]
  ·rfl
  ·repeat rw[qi (by omega)]
   rw[qS (by omega)]
 rintro r hs ⟨rfl,rfl, -⟩
 refine⟨by simp[qB],?_⟩
 simp(disch:=omega)only[go_sem,show(true != true)=false from rfl]
 refine qs rfl [⟨0,[],[]⟩,⟨1,[0],[]⟩,⟨2,[0],[]⟩,⟨3,[],[]⟩,⟨4,[],[]⟩] (by kernel_rfl) ?_
 simp(disch:=omega)only[go_sem,qp,qI]
 refine qa (cT) ?_
 simp(disch:=omega)only[go_sem]
 refine qr (Zf k l hlen (fun d hd=>Nat.le_trans (hxs d hd) (by omega))) ?_ ?_
 ·show [AV.ag [_,qE _ 5 (.rf 380000000 0 l.length)],_]=_
  rw[Xz (b:=380000001) ?_ (fun j hj=>?_)]
  ·rfl
  ·repeat rw[qi (by omega)]
   rw[qp (by omega)]
   repeat rw[qi (by omega)]
   rw[qp (by omega)];rfl
  ·repeat rw[qi (by omega)]
   rw[qp (by omega)]
   repeat rw[qi (by omega)]
   rw[qS hj]
 rintro r hs ⟨rfl,rfl, -⟩
 refine⟨by simp[qB],?_⟩
 simp(disch:=omega)only[go_sem]
 have hkb0:∀i,i≤l.length→kAt 1 (fun j=>l.getD j dy0) i≤2^39:=fun i hi=>by
  rw[ace]
  have:=Jk (f:=fun j=>l.getD j dy0) (i:=i) l.length hi
  omega
 have hx0:∀j,j<l.length→((fun j=>l.getD j dy0) j).xs.length≤1048576:=fun j hj=>Nat.le_trans (aaj (f:=fun j=>l.getD j dy0) hj) (by omega)
 have cm0:=QP k (fun j=>l.getD j dy0) l.length 1 hlen hx0 hkb0
 refine AW.regCallG 2 (by simp only[List.take_succ_cons,List.take_zero];rfl) (by simp only[List.drop_succ_cons,List.drop_zero];rfl) (e':=ofL .un [(1,.v (.int .i64 low)),(2,.v (.int .i64 st)),(3,.pt 50000000 0),(6,.v (.bool false)),(8,.pt 100000000 0),(9,.pt 110000000 0),(10,.v (.bool true)),(12,.pt 140000000 0),(13,.pt 150000000 0),(14,.v (.bool true)),(65,.ag [.v (.int .i64 k),.rf 380000000 0 l.length]),(66,.v (.int .i64 1))])
  (h':=fam 430000001 (N+1) (zt g) (fam 380000001 l.length (zt fun j=>l.getD j dy0) (ofH [(50000000,.own 0 [.v (.int .i64 k),.sl l.length (qk DyV.cs l)]),(100000000,.own 0 [.v (.int .i64 n),.sl N (qk DyV.cs (gM g N))]),(110000000,.own 0 [.v (.bool (g N).s),.sl (g N).xs.length (qg (g N).xs),.v (.int .i64 (g N).e)]),(140000000,.own 0 [.v (.int .i64 n),.rf 430000000 0 N]),(150000000,.own 0 [.v (.bool (g N).s),.rf (430000001+N) 0 (g N).xs.length,.v (.int .i64 (g N).e)]),(380000000,.own 3 (qk (dcs 380000001) (prF (fun j=>l.getD j dy0) l.length))),(430000000,.own 3 (qk (dcs 430000001) (prF g N)))]))) ?_
  (by decide) rfl rfl (by simp(disch:=omega)only[go_sem]) (by rfl) (Jx 380000000 380000001 l.length 3 (fun j=>l.getD j dy0) (mkd 1 fun j=>l.getD j dy0) _ (.inl (by omega)) ?_ ?_ cm0 ?_ ?_)
 ·simp(disch:=omega)only[go_sem,qp,qI]
  refine Le.famI2 _ _ _ _ _ _ _ _ (qw _) (qw _) rfl (by omega) (fun q hq=>?_) (by omega) (by simp(disch:=omega)only[go_sem,Jq,nmF,jv];try simp) (fun q hq=>?_) (fun j hj=>?_) (fun j hj=>?_)
  ·simp only[List.mem_cons,List.not_mem_nil,or_false]at hq
   rcases hq with rfl|rfl|rfl|rfl|rfl|rfl|rfl<;>exact⟨by dsimp only;omega,by dsimp only;omega⟩
  ·simp only[List.mem_cons,List.not_mem_nil,or_false]at hq
   rcases hq with rfl|rfl|rfl|rfl|rfl|rfl|rfl
   ·refine⟨?_,⟨trivial,trivial,trivial⟩,trivial⟩
    dsimp only
    repeat rw[qi (by omega)]
    rw[qp (by omega)]
    repeat rw[qi (by omega)]
    rw[qp (by omega)];rfl
   ·refine⟨?_,⟨trivial,trivial,trivial⟩,trivial⟩
    dsimp only
    repeat rw[qi (by omega)]
    rw[qp (by omega)]
    repeat rw[qi (by omega)]
    rw[qp (by omega)];rfl
   ·refine⟨?_,⟨trivial,trivial,trivial,trivial⟩,trivial⟩
    dsimp only
    repeat rw[qi (by omega)]
    rw[qp (by omega)]
    repeat rw[qi (by omega)]
    rw[qp (by omega)];rfl
   ·refine⟨?_,⟨trivial,.inl (.inl (.inr (.inr (.inr (.inr (.inr (.inr (.inl rfl)))))))),trivial⟩,trivial⟩
    dsimp only
    repeat rw[qi (by omega)]
    rw[qn]
   ·refine⟨?_,⟨trivial,.inr (by omega),trivial,trivial⟩,trivial⟩
    dsimp only
    repeat rw[qi (by omega)]
    rw[qn]
   ·refine⟨?_,zB fun p hp=>.inl (.inr (by have:=zW hp;omega)),trivial⟩
    dsimp only
    repeat rw[qi (by omega)]
    rw[qp (by omega)]
    repeat rw[qi (by omega)]
    rw[qp (by omega)];rfl
   ·refine⟨?_,zB fun p hp=>.inr (by have:=zW hp;omega),trivial⟩
    dsimp only
    repeat rw[qi (by omega)]
    rw[qp (by omega),qn]
  ·dsimp only
   repeat rw[qi (by omega)]
   rw[qp (by omega)]
   repeat rw[qi (by omega)]
   rw[qS hj]
  ·dsimp only
   repeat rw[qi (by omega)]
   rw[qS hj]
 ·rw[qp (by omega),qp (by omega)];rfl
 ·intro j hj
  rw[qp (by omega),qS hj]
 ·show [AV.ag [snp _ _ 5 (.v _),snp _ _ 5 (.rf 380000000 0 _)],snp _ _ 6 (.v _)]=_
  rw[Xy (.inl (by omega))]
  simp[snp,qE]
 simp(disch:=omega)only[go_sem,qp,qI]
 have hX0:decide (((kAt 1 (fun j=>l.getD j dy0) l.length:Nat):Int)<0)=false:=decide_eq_false (by omega)
 refine AW.front2 ?_
 show @W Tryz.prog 143 ⟨_⟩ ⟨fun x σ=>@yc ⟨_⟩ ⟨_⟩ x σ⟩ _ _
 simp(disch:=omega)only[go_sem,hX0,qp,qI]
 refine qr ceq ?_ ?_
 ·show [AV.ag [_,qE _ 5 (.rf 430000000 0 N)],_]=_
  rw[aai (b:=430000001) ?_ (fun j hj=>?_)]
  ·rfl
  ·rw[qI (by omega)]
   repeat rw[qi (by omega)]
   rw[qp (by omega),qI (by omega)];rfl
  ·rw[qI (by omega)]
   repeat rw[qi (by omega)]
   rw[qS (by omega)]
 rintro r hs ⟨rfl,rfl, -⟩
 refine⟨by simp[qB],?_⟩
 simp(disch:=omega)only[go_sem,qp,qI]
 refine qr ceq2 ?_ ?_
 ·show [AV.ag [_,qE _ 5 (.rf (430000001+N) 0 _),_],_]=_
  rw[JE ?_]
  ·rfl
  ·rw[qI (by omega)]
   repeat rw[qi (by omega)]
   rw[qS (by omega)]
 rintro r hs ⟨rfl,rfl, -⟩
 refine⟨by simp[qB],?_⟩
 simp(disch:=omega)only[go_sem,show(true != true)=false from rfl]
 have hsm2:∀i,i≤N→smF g i≤1000*i:=fun i=>by
  induction i with
  |zero=>intro _;exact Nat.le_refl _
  |succ i ih=>
   intro hi
   have:=hg i (by omega)
   have:=ih (by omega)
   show smF g i+(g i).xs.length≤_
   omega
 have hkb2:∀i,i≤N→kAt 1 g i≤20000:=fun i hi=>by
  rw[ace]
  have:=hsm2 i hi
  omega
 have hx2:∀j,j<N→(g j).xs.length≤1048576:=fun j hj=>by have:=hg j (by omega);omega
 have hkb3:∀i,i≤N→kAt 1 g i≤2^39:=fun i hi=>Nat.le_trans (hkb2 i hi) (by omega)
 have cm1:=QP n g N 1 (by omega) hx2 hkb3
 have chd:=abg n g N 1 (by omega) hx2 hkb3
 have hkN:=hkb2 N (Nat.le_refl N)
 have cm2:=aeb (g N).s (g N).e (kAt 1 g N) (g N).xs (by omega) (by omega)
 have chd2:=Xm (g N).s (g N).e (kAt 1 g N) (g N).xs.length (by omega) (by omega)
 refine AW.regCallG 2 (by simp only[List.take_succ_cons,List.take_zero];rfl) (by simp only[List.drop_succ_cons,List.drop_zero];rfl) (e':=ofL .un [(1,.v (.int .i64 low)),(2,.v (.int .i64 st)),(3,.pt 50000000 0),(6,.v (.bool false)),(8,.pt 100000000 0),(9,.pt 110000000 0),(10,.v (.bool true)),(12,.pt 140000000 0),(13,.pt 150000000 0),(14,.v (.bool true)),(87,.ag [.v (.int .i64 n),.rf 430000000 0 N]),(88,.v (.int .i64 1))])
  (h':=fam 430000001 (N+1) (zt g) (ofH [(50000000,.own 0 [.v (.int .i64 k),.sl l.length (qk DyV.cs l)]),(100000000,.own 0 [.v (.int .i64 n),.sl N (qk DyV.cs (gM g N))]),(110000000,.own 0 [.v (.bool (g N).s),.sl (g N).xs.length (qg (g N).xs),.v (.int .i64 (g N).e)]),(140000000,.own 0 [.v (.int .i64 n),.rf 430000000 0 N]),(150000000,.own 0 [.v (.bool (g N).s),.rf (430000001+N) 0 (g N).xs.length,.v (.int .i64 (g N).e)]),(430000000,.own 3 (qk (dcs 430000001) (prF g N)))])) ?_
  (by decide) rfl rfl (by simp(disch:=omega)only[go_sem]) (by rfl) (Jx 430000000 430000001 N 3 g (mkd 1 g) _ (.inl (by omega)) ?_ ?_ cm1 ?_ ?_)
 ·simp(disch:=omega)only[go_sem,qp,qI]
  refine Le.famI _ _ _ _ _ (qw _) rfl (fun q hq=>.inl ?_) (by simp(disch:=omega)only[go_sem,Jq,nmF,jv];try simp) (fun q hq=>?_) (fun j hj=>?_)
  ·simp only[List.mem_cons,List.not_mem_nil,or_false]at hq
   rcases hq with rfl|rfl|rfl|rfl|rfl|rfl<;>(dsimp only;omega)
  ·simp only[List.mem_cons,List.not_mem_nil,or_false]at hq
   rcases hq with rfl|rfl|rfl|rfl|rfl|rfl
   ·refine⟨?_,⟨trivial,trivial,trivial⟩,trivial⟩
    dsimp only
    rw[qp (by omega)]
    repeat rw[qi (by omega)]
    rw[qp (by omega),qp (by omega)];rfl
   ·refine⟨?_,⟨trivial,trivial,trivial⟩,trivial⟩
    dsimp only
    rw[qp (by omega)]
    repeat rw[qi (by omega)]
    rw[qp (by omega),qp (by omega)];rfl
   ·refine⟨?_,⟨trivial,trivial,trivial,trivial⟩,trivial⟩
    dsimp only
    rw[qp (by omega)]
    repeat rw[qi (by omega)]
    rw[qp (by omega),qp (by omega)];rfl
   ·refine⟨?_,⟨trivial,.inl (.inr (.inr (.inr (.inr (.inr (.inl rfl)))))),trivial⟩,trivial⟩
    dsimp only
    rw[qp (by omega)]
    repeat rw[qi (by omega)]
    rw[qp (by omega),qp (by omega)];rfl
   ·refine⟨?_,⟨trivial,.inr (by omega),trivial,trivial⟩,trivial⟩
    dsimp only
    rw[qp (by omega)]
    repeat rw[qi (by omega)]
    rw[qp (by omega),qp (by omega)];rfl
   ·refine⟨?_,zB fun p hp=>.inr (by have:=zW hp;omega),trivial⟩
    dsimp only
    rw[qI (by omega)]
    repeat rw[qi (by omega)]
    rw[qp (by omega),qI (by omega)];rfl
  ·dsimp only
   rw[qI (by omega)]
   repeat rw[qi (by omega)]
   rw[qS hj]
 ·rw[qp (by omega)];rfl
 ·intro j hj
  exact qS (by omega)
 ·show [AV.ag [snp _ _ 5 (.v _),snp _ _ 5 (.rf 430000000 0 _)],snp _ _ 6 (.v _)]=_
  rw[Xy (.inl (by omega))]
  simp[snp,qE]
 simp(disch:=omega)only[go_sem,qp,qI]
 refine AW.regCallG 2 (by simp only[List.take_succ_cons,List.take_zero];rfl) (by simp only[List.drop_succ_cons,List.drop_zero];rfl) (e':=ofL .un [(1,.v (.int .i64 low)),(2,.v (.int .i64 st)),(3,.pt 50000000 0),(6,.v (.bool false)),(8,.pt 100000000 0),(9,.pt 110000000 0),(10,.v (.bool true)),(12,.pt 140000000 0),(13,.pt 150000000 0),(14,.v (.bool true)),(90,.ag [.v (.bool (g N).s),.rf (430000001+N) 0 (g N).xs.length,.v (.int .i64 (g N).e)]),(91,.v (.int .i64 (kAt 1 g N)))])
  (h':=fam 430000001 (N+1) (zt (yo 1 g N)) (ofH [(50000000,.own 0 [.v (.int .i64 k),.sl l.length (qk DyV.cs l)]),(100000000,.own 0 [.v (.int .i64 n),.sl N (qk DyV.cs (gM g N))]),(110000000,.own 0 [.v (.bool (g N).s),.sl (g N).xs.length (qg (g N).xs),.v (.int .i64 (g N).e)]),(140000000,.own 0 [.v (.int .i64 n),.rf 430000000 0 N]),(150000000,.own 0 [.v (.bool (g N).s),.rf (430000001+N) 0 (g N).xs.length,.v (.int .i64 (g N).e)]),(430000000,.own 3 (qk (dcs 430000001) (prF (mkd 1 g) N)))])) ?_
  (by decide) rfl rfl (by simp(disch:=omega)only[go_sem]) (by rfl) (aiw (430000001+N) (g N).xs (mkI (kAt 1 g N) (g N).xs.length) _ ?_ cm2 ?_ ?_)
 ·simp(disch:=omega)only[go_sem,qp,qI]
  refine Le.famI _ _ _ _ _ (qw _) rfl (fun q hq=>.inl ?_) (by simp(disch:=omega)only[go_sem,Jq,nmF,jv];try simp) (fun q hq=>?_) (fun j hj=>?_)
  ·simp only[List.mem_cons,List.not_mem_nil,or_false]at hq
   rcases hq with rfl|rfl|rfl|rfl|rfl|rfl<;>(dsimp only;omega)
  ·simp only[List.mem_cons,List.not_mem_nil,or_false]at hq
   rcases hq with rfl|rfl|rfl|rfl|rfl|rfl
   ·refine⟨?_,⟨trivial,trivial,trivial⟩,trivial⟩
    dsimp only
    repeat rw[qi (by omega)]
    rw[qp (by omega)]
    repeat rw[qi (by omega)]
    rw[qp (by omega)];rfl
   ·refine⟨?_,⟨trivial,trivial,trivial⟩,trivial⟩
    dsimp only
    repeat rw[qi (by omega)]
    rw[qp (by omega)]
    repeat rw[qi (by omega)]
    rw[qp (by omega)];rfl
   ·refine⟨?_,⟨trivial,trivial,trivial,trivial⟩,trivial⟩
    dsimp only
    repeat rw[qi (by omega)]
    rw[qp (by omega)]
    repeat rw[qi (by omega)]
    rw[qp (by omega)];rfl
   ·refine⟨?_,⟨trivial,.inl (.inr (.inr (.inr (.inr (.inr (.inl rfl)))))),trivial⟩,trivial⟩
    dsimp only
    repeat rw[qi (by omega)]
    rw[qp (by omega)]
    repeat rw[qi (by omega)]
    rw[qp (by omega)];rfl
   ·refine⟨?_,⟨trivial,.inr (by omega),trivial,trivial⟩,trivial⟩
    dsimp only
    repeat rw[qi (by omega)]
    rw[qp (by omega)]
    repeat rw[qi (by omega)]
    rw[qp (by omega)];rfl
   ·refine⟨?_,zB fun p hp=>.inr (by have:=zW hp;omega),trivial⟩
    dsimp only
    repeat rw[qi (by omega)]
    rw[qp (by omega),qn]
  ·dsimp only
   rcases(show j<N∨j=N by omega)with c|rfl
   ·repeat rw[qi (by omega)]
    rw[qS c]
    unfold zt yo
    rw[if_pos c]
   ·repeat rw[qi (by omega)]
    rw[qI (by omega)]
    repeat rw[qi (by omega)]
    rw[qS (by omega)]
    unfold zt yo
    rw[if_neg (by omega)]
 ·rw[qS (by omega)]
  unfold zt yo
  rw[if_neg (by omega)]
 ·show [AV.ag [snp _ _ 5 (.v _),snp _ _ 5 (.rf (430000001+N) 0 _),snp _ _ 5 (.v _)],snp _ _ 6 (.v _)]=_
  rw[ao7]
  simp[snp,qE]
 simp(disch:=omega)only[go_sem,qp,qI]
 have hM0:decide (((kAt 1 g N:Nat):Int)<0)=false:=decide_eq_false (by omega)
 have hM1:decide (((kAt 1 g N+(g N).xs.length:Nat):Int)<0)=false:=decide_eq_false (by omega)
 have hmk:(mkd 1 g N).xs.length=(g N).xs.length:=QJ _ _
 have hml:(mkI (kAt 1 g N) (g N).xs.length).length=(g N).xs.length:=QJ _ _
 have hne:∀(m:Nat) (a b:Ob),m<430000001→(if m=430000001+N then a else b)=b:=fun m a b h=>if_neg (by omega)
 refine W.sound ?_
 show @W Tryz.prog 143 ⟨_⟩ ⟨fun x σ=>@q8 _ _ _ ⟨_⟩ _ ⟨_⟩ x σ⟩ _ _
 simp(disch:=omega)only[go_sem,qp,qI,hne]
 refine qr chd ?_ ?_
 ·show [AV.ag [_,qE _ 5 (.rf 430000000 0 N)],_]=_
  rw[yR (b:=430000001) (z:=3) (n:=N) (f:=mkd 1 g) ?_ (by omega) ?_]
  ·rfl
  ·repeat rw[qi (by omega)]
   rw[qp (by omega)];rfl
  ·intro j hj
   repeat rw[qi (by omega)]
   rw[qS (by omega)]
   unfold zt yo
   rw[if_pos hj]
 rintro r hs ⟨rfl,rfl, -⟩
 refine⟨by simp[qB],?_⟩
 simp(disch:=omega)only[go_sem,hM0,qp,qI,hne]
 refine qr chd2 ?_ ?_
 ·show [AV.ag [_,qE _ 5 (.rf (430000001+N) 0 _),_],_]=_
  rw[ja (l:=mkI (kAt 1 g N) (g N).xs.length) (zs:=[]) ?_ hml]
  ·rfl
  ·repeat rw[qi (by omega)]
   rw[qn,List.append_nil]
 rintro r hs ⟨rfl,rfl, -⟩
 refine⟨by simp[qB],?_⟩
 simp(disch:=omega)only[go_sem,hM1,qp,qI,hne]
 have ciF:Con Tryz.prog 18 true [.ag [.v (.int .i64 k),.sl l.length (qk DyV.cs l)],.v (.int .i64 low),.v (.int .i64 st)] [] (isA (.tu [.ag [.v (.int .i64 n),.sl N (qk DyV.cs (gM g N))],.ag [.v (.bool (g N).s),.sl (g N).xs.length (qg (g N).xs),.v (.int .i64 (g N).e)],.v (.bool true)])):=aqj hN ci
 refine qa (cT) ?_
 simp(disch:=omega)only[go_sem]
 refine qm (ciF) ?_
 simp(disch:=omega)only[go_sem]
 simp(disch:=omega)only[go_sem,qp,qI,hne]
 refine qm (ceq) ?_
 simp(disch:=omega)only[go_sem]
 simp(disch:=omega)only[go_sem,qp,qI,hne]
 refine qm (ceq2) ?_
 simp(disch:=omega)only[go_sem]
 simp(disch:=omega)only[go_sem,show(true != true)=false from rfl,qp,qI,hne]
 refine qr chd ?_ ?_
 ·show [AV.ag [_,qE _ 5 (.rf 430000000 0 N)],_]=_
  rw[yR (b:=430000001) (z:=3) (n:=N) (f:=mkd 1 g) ?_ (by omega) ?_]
  ·rfl
  ·repeat rw[qi (by omega)]
   rw[qp (by omega)];rfl
  ·intro j hj
   repeat rw[qi (by omega)]
   rw[qS (by omega)]
   unfold zt yo
   rw[if_pos hj]
 rintro r hs ⟨rfl,rfl, -⟩
 refine⟨by simp[qB],?_⟩
 simp(disch:=omega)only[go_sem,hM0,qp,qI,hne]
 refine qr chd2 ?_ ?_
 ·show [AV.ag [_,qE _ 5 (.rf (430000001+N) 0 _),_],_]=_
  rw[ja (l:=mkI (kAt 1 g N) (g N).xs.length) (zs:=[]) ?_ hml]
  ·rfl
  ·repeat rw[qi (by omega)]
   rw[qn,List.append_nil]
 rintro r hs ⟨rfl,rfl, -⟩
 refine⟨by simp[qB],?_⟩
 simp(disch:=omega)only[go_sem,hM1]
 exact qu
end Go.Ab
namespace Go.Ab
open Go Go.Proofs
theorem KA(k:Nat):Con Tryz.prog 37 true [.sl 0 [],.v (.int .i64 k)] [] (isA (.v (.int .i64 k))):=by
 refine Con.of_w (rs:=[.tmp 4]) Tryz.func37 rfl Tryz.ntmps37 rfl ?_
 simp(disch:=omega)only[go_sem]
 refine qj (fun _:Nat=>[(0,.sl 0 []),(1,.v (.int .i64 k)),(5,.v (.int .i64 0))]) (fun _=>[]) (fun _=>True) (fun _=>0) 0 trivial (Le.lst [] _ _ rfl (by simp(disch:=omega)only[go_sem]) (by simp(disch:=omega)only[go_sem])) ?_
 intro _ _
 simp(disch:=omega)only[go_sem]
 exact qu
theorem Kz(m:Int)(k:Nat):Con Tryz.prog 13 true [.ag [.v (.int .i64 m),.sl 0 []],.v (.int .i64 k)] [] (isA (.v (.int .i64 k))):=by
 refine Con.of_w (rs:=[.tmp 4]) Tryz.func13 rfl Tryz.ntmps13 rfl ?_
 simp(disch:=omega)only[go_sem]
 refine qm (KA k) ?_
 simp(disch:=omega)only[go_sem]
 exact qu
theorem KJ(k:Nat):Con Tryz.prog 38 true [.sl 0 [],.v (.int .i64 k)] [] (isA (.v (.int .i64 k))):=by
 refine Con.of_w (rs:=[.tmp 4]) Tryz.func38 rfl Tryz.ntmps38 rfl ?_
 simp(disch:=omega)only[go_sem]
 refine qj (fun _:Nat=>[(0,.sl 0 []),(1,.v (.int .i64 k)),(5,.v (.int .i64 0))]) (fun _=>[]) (fun _=>True) (fun _=>0) 0 trivial (Le.lst [] _ _ rfl (by simp(disch:=omega)only[go_sem]) (by simp(disch:=omega)only[go_sem])) ?_
 intro _ _
 simp(disch:=omega)only[go_sem]
 exact qu
theorem KI(m:Int)(k:Nat):Con Tryz.prog 14 true [.ag [.v (.int .i64 m),.sl 0 []],.v (.int .i64 k)] [] (isA (.v (.int .i64 k))):=by
 have q:decide (((k:Nat):Int)<0)=false:=decide_eq_false (by omega)
 refine Con.of_w (rs:=[.tmp 4]) Tryz.func14 rfl Tryz.ntmps14 rfl ?_
 simp(disch:=omega)only[go_sem]
 refine qm (KJ k) ?_
 simp(disch:=omega)only[go_sem]
 simp(disch:=omega)only[go_sem,q]
 exact qu
end Go.Ab
namespace Go.Ab
open Go Go.Proofs
set_option maxRecDepth 100000 in
theorem jj(k:Int)(l:List DyV)(low:Int)(st:Int)(hl:l.length≤9223372036854775807)(hx:∀x∈l,x.xs.length≤9223372036854775807)
  (cs:Con Tryz.prog 16 false [.ag [.v (.int .i64 k),.sl l.length (qk DyV.cs l)],.v (.int .i64 low),.v (.int .i64 st)] [] (isA (.tu [.ag [.v (.int .i64 0),.sl 0 []],.ag [.v (.bool false),.sl 0 [],.v (.int .i64 0)],.v (.bool false)])))
  (ci:Con Tryz.prog 18 true [.ag [.v (.int .i64 k),.sl l.length (qk DyV.cs l)],.v (.int .i64 low),.v (.int .i64 st)] [] mnZ):
  Con Tryz.prog 4 true [.ag [.v (.int .i64 k),.sl l.length (qk DyV.cs l)],.v (.int .i64 low),.v (.int .i64 st)] [] (isA (.v (.bool true))):=by
 have ceq:Con Tryz.prog 10 true [.ag [.v (.int .i64 0),.sl 0 []],.ag [.v (.int .i64 0),.sl 0 []]] [] (isA (.v (.bool true))):=Zf 0 [] (by simp) (by simp)
 have ceq2:Con Tryz.prog 19 true [.ag [.v (.bool false),.sl 0 [],.v (.int .i64 0)],.ag [.v (.bool false),.sl 0 [],.v (.int .i64 0)]] [] (isA (.v (.bool true))):=Vp false [] 0 (by simp)
 have cm1:Con Tryz.prog 13 true [.ag [.v (.int .i64 0),.sl 0 []],.v (.int .i64 1)] [] (isA (.v (.int .i64 1))):=Kz 0 1
 have cm2:Con Tryz.prog 20 true [.ag [.v (.bool false),.sl 0 [],.v (.int .i64 0)],.v (.int .i64 1)] [] (isA (.v (.int .i64 1))):=aa7 false 0 1
 have chd:Con Tryz.prog 14 true [.ag [.v (.int .i64 0),.sl 0 []],.v (.int .i64 1)] [] (isA (.v (.int .i64 1))):=KI 0 1
 have chd2:Con Tryz.prog 21 true [.ag [.v (.bool false),.sl 0 [],.v (.int .i64 0)],.v (.int .i64 1)] [] (isA (.v (.int .i64 1))):=Xm false 0 1 0 (by omega) (by omega)
 have cz:=ZI k l 1048576 hl hx (by omega)
 refine Con.of_aw Tryz.func4 rfl Tryz.ntmps4 (by simp) (by simp) (by simp) (AW.front3 ?_)
 show @W Tryz.prog 143 ⟨_⟩ ⟨fun x σ=>@yc ⟨_⟩ ⟨_⟩ x σ⟩ _ _
 simp(disch:=omega)only[go_sem]
 refine qr cz (by simp(disch:=omega)only[go_sem]) ?_
 rintro r hs ⟨v,rfl,rfl, -,hv⟩
 refine⟨by simp[qB],?_⟩
 simp(disch:=omega)only[go_sem]
 rcases hv with rfl|⟨h0,h1⟩
 ·refine W.sound ?_
  show @W Tryz.prog 143 ⟨_⟩ ⟨fun x σ=>@q8 _ _ _ ⟨_⟩ _ ⟨_⟩ x σ⟩ _ _
  simp(disch:=omega)only[go_sem]
  exact qu
 have hlen:l.length≤1048576:=by omega
 have hxs:=aaz h1
 have cT:=Xh k l hlen hxs
 have hv0:decide (v<0)=false:=decide_eq_false (by omega)
 refine AW.front3 ?_
 show @W Tryz.prog 143 ⟨_⟩ ⟨fun x σ=>@yc ⟨_⟩ ⟨_⟩ x σ⟩ _ _
 simp(disch:=omega)only[go_sem,hv0]
 refine qa (cT) ?_
 simp(disch:=omega)only[go_sem]
 refine qa (cs) ?_
 simp(disch:=omega)only[go_sem]
 refine qz (ZG k l hlen hxs) (by simp(disch:=omega)only[go_sem]) ?_
 rintro r hs ⟨rfl,rfl⟩
 refine⟨⟨by simp;omega,yi fun j hj=>?_⟩,?_⟩
 ·repeat rw[qi (by omega)]
  rw[Xo (by omega)]
 have hrow:=@aak 380000000 l.length l (by omega)
 simp(disch:=omega)only[go_sem,Qx (zT l),qp,hrow]
 rw[atY,anr]
 refine AW.le (Le.famI [(1,.v (.int .i64 low)),(2,.v (.int .i64 st)),(3,.pt 50000000 0),(6,.v (.bool false)),(8,.pt 100000000 0),(9,.pt 110000000 0),(10,.v (.bool false)),(11,.pt 130000000 0)]
  [(50000000,.own 0 [.v (.int .i64 k),.sl l.length (qk DyV.cs l)]),(100000000,.own 0 [.v (.int .i64 0),.sl 0 []]),(110000000,.own 0 [.v (.bool false),.sl 0 [],.v (.int .i64 0)]),(130000000,.own 0 [.v (.int .i64 k),.rf 380000000 0 l.length]),(380000000,.own 3 (qk (dcs 380000001) (prF (fun j=>l.getD j dy0) l.length)))]
  380000001 l.length (zt fun j=>l.getD j dy0) (qw _) rfl (fun q hq=>.inl ?_) (by simp(disch:=omega)only[go_sem,Jq,nmF,jv];try simp) (fun q hq=>?_) (fun j hj=>?_)) ?_
 ·simp only[List.mem_cons,List.not_mem_nil,or_false]at hq
  rcases hq with rfl|rfl|rfl|rfl|rfl<;>(dsimp only;omega)
 ·simp only[List.mem_cons,List.not_mem_nil,or_false]at hq
  rcases hq with rfl|rfl|rfl|rfl|rfl
  ·refine⟨?_,⟨trivial,trivial,trivial⟩,trivial⟩
   dsimp only
   repeat rw[qi (by omega)]
   rw[qp (by omega)]
   repeat rw[qi (by omega)]
   rw[qn]
  ·refine⟨?_,⟨trivial,trivial,trivial⟩,trivial⟩
   dsimp only
   repeat rw[qi (by omega)]
   rw[qp (by omega)]
   repeat rw[qi (by omega)]
   rw[qn]
  ·refine⟨?_,⟨trivial,trivial,trivial,trivial⟩,trivial⟩
   dsimp only
   repeat rw[qi (by omega)]
   rw[qp (by omega)]
   repeat rw[qi (by omega)]
   rw[qn]
  ·refine⟨?_,⟨trivial,.inl (.inr (.inr (.inr (.inr (.inl rfl))))),trivial⟩,trivial⟩
   dsimp only
   rw[qn]
  ·refine⟨?_,zB fun p hp=>.inr (by have:=zW hp;omega),trivial⟩
   dsimp only
   repeat rw[qi (by omega)]
   rw[qp (by omega),qn]
 ·dsimp only
  repeat rw[qi (by omega)]
  rw[qS hj]
 refine AW.front4 ?_
 show @W Tryz.prog 143 ⟨_⟩ ⟨fun x σ=>@yc ⟨_⟩ ⟨_⟩ x σ⟩ _ _
 simp(disch:=omega)only[go_sem,qp]
 refine qr ci ?_ ?_
 ·show [AV.ag [_,qE _ 5 (.rf 380000000 0 l.length)],_,_]=_
  rw[Xz (b:=380000001) (by rw[qp (by omega)];rfl) (fun j hj=>qS hj)]
  rfl
 rintro r hs ⟨rfl,rfl⟩
 refine⟨by simp[qB],?_⟩
 simp(disch:=omega)only[go_sem,qp,qI]
 refine qm (ceq) ?_
 simp(disch:=omega)only[go_sem]
 try simp(disch:=omega)only[go_sem,qp,qI]
 refine qm (ceq2) ?_
 simp(disch:=omega)only[go_sem]
 try simp(disch:=omega)only[go_sem,show(false != false)=false from rfl,qp,qI]
 refine qs rfl [⟨0,[],[]⟩,⟨1,[0],[]⟩,⟨2,[0],[]⟩,⟨3,[],[]⟩,⟨4,[],[]⟩] (by kernel_rfl) ?_
 simp(disch:=omega)only[go_sem,qp,qI]
 refine qa (cT) ?_
 simp(disch:=omega)only[go_sem]
 refine qr (Zf k l hlen (fun d hd=>Nat.le_trans (hxs d hd) (by omega))) ?_ ?_
 ·show [AV.ag [_,qE _ 5 (.rf 380000000 0 l.length)],_]=_
  rw[Xz (b:=380000001) ?_ (fun j hj=>?_)]
  ·rfl
  ·repeat rw[qi (by omega)]
   rw[qp (by omega)];rfl
  ·repeat rw[qi (by omega)]
   rw[qS hj]
 rintro r hs ⟨rfl,rfl, -⟩
 refine⟨by simp[qB],?_⟩
 simp(disch:=omega)only[go_sem]
 have hkb0:∀i,i≤l.length→kAt 1 (fun j=>l.getD j dy0) i≤2^39:=fun i hi=>by
  rw[ace]
  have:=Jk (f:=fun j=>l.getD j dy0) (i:=i) l.length hi
  omega
 have hx0:∀j,j<l.length→((fun j=>l.getD j dy0) j).xs.length≤1048576:=fun j hj=>Nat.le_trans (aaj (f:=fun j=>l.getD j dy0) hj) (by omega)
 have cm0:=QP k (fun j=>l.getD j dy0) l.length 1 hlen hx0 hkb0
 refine AW.regCallG 2 (by simp only[List.take_succ_cons,List.take_zero];rfl) (by simp only[List.drop_succ_cons,List.drop_zero];rfl) (e':=ofL .un [(1,.v (.int .i64 low)),(2,.v (.int .i64 st)),(3,.pt 50000000 0),(6,.v (.bool false)),(8,.pt 100000000 0),(9,.pt 110000000 0),(10,.v (.bool false)),(12,.pt 140000000 0),(13,.pt 150000000 0),(14,.v (.bool false)),(65,.ag [.v (.int .i64 k),.rf 380000000 0 l.length]),(66,.v (.int .i64 1))])
  (h':=fam 380000001 l.length (zt fun j=>l.getD j dy0) (ofH [(50000000,.own 0 [.v (.int .i64 k),.sl l.length (qk DyV.cs l)]),(100000000,.own 0 [.v (.int .i64 0),.sl 0 []]),(110000000,.own 0 [.v (.bool false),.sl 0 [],.v (.int .i64 0)]),(140000000,.own 0 [.v (.int .i64 0),.v (.slice none 0 0)]),(150000000,.own 0 [.v (.bool false),.v (.slice none 0 0),.v (.int .i64 0)]),(380000000,.own 3 (qk (dcs 380000001) (prF (fun j=>l.getD j dy0) l.length)))])) ?_
  (by decide) rfl rfl (by simp(disch:=omega)only[go_sem]) (by rfl) (Jx 380000000 380000001 l.length 3 (fun j=>l.getD j dy0) (mkd 1 fun j=>l.getD j dy0) _ (.inl (by omega)) ?_ ?_ cm0 ?_ ?_)
 ·simp(disch:=omega)only[go_sem,qp,qI]
  refine Le.famI _ _ _ _ _ (qw _) rfl (fun q hq=>.inl ?_) (by simp(disch:=omega)only[go_sem,Jq,nmF,jv];try simp) (fun q hq=>?_) (fun j hj=>?_)
  ·simp only[List.mem_cons,List.not_mem_nil,or_false]at hq
   rcases hq with rfl|rfl|rfl|rfl|rfl|rfl<;>(dsimp only;omega)
  ·simp only[List.mem_cons,List.not_mem_nil,or_false]at hq
   rcases hq with rfl|rfl|rfl|rfl|rfl|rfl
   ·refine⟨?_,⟨trivial,trivial,trivial⟩,trivial⟩
    dsimp only
    repeat rw[qi (by omega)]
    rw[qp (by omega)];rfl
   ·refine⟨?_,⟨trivial,trivial,trivial⟩,trivial⟩
    dsimp only
    repeat rw[qi (by omega)]
    rw[qp (by omega)];rfl
   ·refine⟨?_,⟨trivial,trivial,trivial,trivial⟩,trivial⟩
    dsimp only
    repeat rw[qi (by omega)]
    rw[qp (by omega)];rfl
   ·refine⟨?_,⟨trivial,trivial,trivial⟩,trivial⟩
    dsimp only
    repeat rw[qi (by omega)]
    rw[qn]
   ·refine⟨?_,⟨trivial,trivial,trivial,trivial⟩,trivial⟩
    dsimp only
    repeat rw[qi (by omega)]
    rw[qn]
   ·refine⟨?_,zB fun p hp=>.inr (by have:=zW hp;omega),trivial⟩
    dsimp only
    repeat rw[qi (by omega)]
    rw[qp (by omega)];rfl
  ·dsimp only
   repeat rw[qi (by omega)]
   rw[qS hj]
 ·rw[qp (by omega)];rfl
 ·intro j hj
  exact qS hj
 ·show [AV.ag [snp _ _ 5 (.v _),snp _ _ 5 (.rf 380000000 0 _)],snp _ _ 6 (.v _)]=_
  rw[Xy (.inl (by omega))]
  simp[snp,qE]
 simp(disch:=omega)only[go_sem,qp,qI]
 have hX0:decide (((kAt 1 (fun j=>l.getD j dy0) l.length:Nat):Int)<0)=false:=decide_eq_false (by omega)
 have ciF:Con Tryz.prog 18 true [.ag [.v (.int .i64 k),.sl l.length (qk DyV.cs l)],.v (.int .i64 low),.v (.int .i64 st)] [] (isA (.tu [.ag [.v (.int .i64 0),.sl 0 []],.ag [.v (.bool false),.sl 0 [],.v (.int .i64 0)],.v (.bool false)])):=by
  refine Con.frzAC (ci.mono ?_)
  rintro r hs bs ⟨rfl,rfl⟩
  rfl
 refine W.sound ?_
 show @W Tryz.prog 143 ⟨_⟩ ⟨fun x σ=>@q8 _ _ _ ⟨_⟩ _ ⟨_⟩ x σ⟩ _ _
 simp(disch:=omega)only[go_sem,hX0,qp,qI]
 refine qm (ceq) ?_
 simp(disch:=omega)only[go_sem]
 try simp(disch:=omega)only[go_sem,qp,qI]
 refine qm (ceq2) ?_
 simp(disch:=omega)only[go_sem]
 try simp(disch:=omega)only[go_sem,show(false != false)=false from rfl,qp,qI]
 refine qm (cm1) ?_
 simp(disch:=omega)only[go_sem]
 try simp(disch:=omega)only[go_sem,qp,qI]
 refine qm (cm2) ?_
 simp(disch:=omega)only[go_sem]
 try simp(disch:=omega)only[go_sem,qp,qI]
 refine qm (chd) ?_
 simp(disch:=omega)only[go_sem]
 try simp(disch:=omega)only[go_sem,qp,qI]
 refine qm (chd2) ?_
 simp(disch:=omega)only[go_sem]
 try simp(disch:=omega)only[go_sem,qp,qI]
 refine qa (cT) ?_
 simp(disch:=omega)only[go_sem]
 refine qm (ciF) ?_
 simp(disch:=omega)only[go_sem]
 try simp(disch:=omega)only[go_sem,qp,qI]
 refine qm (ceq) ?_
 simp(disch:=omega)only[go_sem]
 try simp(disch:=omega)only[go_sem,qp,qI]
 refine qm (ceq2) ?_
 simp(disch:=omega)only[go_sem]
 try simp(disch:=omega)only[go_sem,show(false != false)=false from rfl,qp,qI]
 refine qm (chd) ?_
 simp(disch:=omega)only[go_sem]
 try simp(disch:=omega)only[go_sem,qp,qI]
 refine qm (chd2) ?_
 simp(disch:=omega)only[go_sem]
 exact qu
end Go.Ab
namespace Go.Ab
open Go Go.Proofs
section
variable (l:List UInt8)(hl:l.length≤9223372036854775807)(i h:Int)(hi:0≤i∧i≤l.length)
include hl hi
end
end Go.Ab
namespace Go.Ab
open Go Go.Proofs
end Go.Ab
