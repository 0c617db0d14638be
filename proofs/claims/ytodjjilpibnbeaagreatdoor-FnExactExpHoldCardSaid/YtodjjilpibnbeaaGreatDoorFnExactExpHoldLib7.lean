/- What the proof of this claim stands on: the walks of the functions and the plain laws, part 7. -/
import Derived.Test.YtodjjilpibnbeaaGreatDoorFnExactExpHoldLib6
import Derived.Test.YtodjjilpibnbeaaGreatDoorRows
import Derived.Test.YtodjjilpibnbeaaGreatDoorCards
import Derived.Test.YtodjjilpibnbeaaGreatDoorTie
import Derived.Handed
import Derived.ChangeSame
import Derived.JoinedOf
import Derived.RowKit
import Derived.WalkKit
import Derived.ProofKit
import Derived.OpenShut
import Derived.LaidLaws
import Derived.LaidHandle
import Derived.SevenTiedAt
import Derived.Stop.LaidErr
import Derived.Lib.LaidTab
set_option linter.unusedVariables false
set_option linter.unusedSimpArgs false
namespace Go.Ab
open Go Go.Proofs
/-! ### Marks in a row of numbers-/
def prF(f:Nat→DyV)(n:Nat):List (Nat×DyV):=(List.range n).map fun j=>(j,f j)
def zD(f:Nat→DyV)(j:Nat):Ob:=.own 1 (qg (f j).xs)
theorem qI(f:Nat→DyV)(j:Nat):agZ (zD f j):=⟨trivial,fun ρ=>by show Ob.own 1 (zx ρ (qg _))=_;rw[yy];rfl,fun p=>by show AllL p (qg _);exact Zs⟩
theorem aSx{f:Nat→DyV}{n:Nat}:(prF f n).length=n:=by simp[prF]
theorem ju{f:Nat→DyV}{n:Nat}{p:Nat×DyV}(h:p∈prF f n):p.1<n:=by
 obtain⟨j,hj,rfl⟩:=List.mem_map.1 h
 exact List.mem_range.1 hj
def kAt(k:Nat)(f:Nat→DyV):Nat→Nat
 |0=>k
 |j+1=>kAt k f j+(f j).xs.length+2
def mkd(k:Nat)(f:Nat→DyV)(j:Nat):DyV:=⟨decide (((kAt k f j:Nat):Int) % 3=0),mkI (kAt k f j+1) (f j).xs.length,((kAt k f j+1+(f j).xs.length:Nat):Int)⟩
def z8(k:Nat)(f:Nat→DyV)(i j:Nat):DyV:=if j<i then mkd k f j else f j
theorem acB{k:Nat}{f:Nat→DyV}:z8 k f 0=f:=by funext j;exact if_neg (by omega)
theorem avc{k:Nat}{f:Nat→DyV}{i:Nat}:z8 k f i i=f i:=if_neg (by omega)
def jt(S X E:Nat→AV)(n:Nat):List AV:=ql (fun j=>[S j,X j,E j]) (List.range n)
theorem zy{S X E:Nat→AV}{n:Nat}:(jt S X E n).length=n*3:=by
 unfold jt;rw[yd (z:=3) (fun _=>rfl),List.length_range]
theorem jD{S X E:Nat→AV}:∀(n m:Nat),(jt S X E n)[m]? =if m/3<n then some (if m % 3=0 then S (m/3)else if m % 3=1 then X (m/3)else E (m/3))else none
 |0,m=>by rw[if_neg (by omega)];rfl
 |n+1,m=>by
  have e:jt S X E (n+1)=jt S X E n++[S n,X n,E n]:=by
   unfold jt
   rw[List.range_succ,←jj,qQ,ji,List.append_nil]
  rw[e]
  rcases Nat.lt_or_ge m (n*3)with c|c
  ·have h1:m/3<n:=by omega
   have h2:m/3<n+1:=by omega
   rw[List.getElem?_append_left (by rw[zy];exact c),jD n m,if_pos h1,if_pos h2]
  ·rw[List.getElem?_append_right (by rw[zy];exact c),zy]
   rcases(show m=n*3∨m=n*3+1∨m=n*3+2∨n*3+3≤m by omega)with rfl|rfl|rfl|c2
   ·rw[if_pos (by omega),if_pos (by omega),show n*3-n*3=0 by omega,show n*3/3=n by omega];rfl
   ·rw[if_pos (by omega),if_neg (by omega),if_pos (by omega),show n*3+1-n*3=1 by omega,show(n*3+1)/3=n by omega];rfl
   ·rw[if_pos (by omega),if_neg (by omega),if_neg (by omega),show n*3+2-n*3=2 by omega,show(n*3+2)/3=n by omega];rfl
   ·rw[if_neg (by omega),List.getElem?_eq_none (by simp;omega)]
theorem Yb{S X E:Nat→AV}{n i:Nat}{x:AV}(hi:i<n):wr (jt S X E n) (i*3) [x]=jt (upd S i x) X E n:=by
 show(jt S X E n).set (i*3) x=_
 apply List.ext_getElem?
 intro m
 rw[List.getElem?_set,jD,jD,zy]
 by_cases hm:i*3=m
 ·subst hm
  rw[if_pos rfl,if_pos (by omega),if_pos (by omega),if_pos (by omega),show i*3/3=i by omega,qq]
 ·rw[if_neg hm]
  by_cases h1:m/3<n
  ·rw[if_pos h1,if_pos h1]
   by_cases h2:m % 3=0
   ·rw[if_pos h2,if_pos h2,qh (by omega)]
   ·rw[if_neg h2,if_neg h2]
  ·rw[if_neg h1,if_neg h1]
theorem Yc{S X E:Nat→AV}{n i:Nat}{x:AV}(hi:i<n):wr (jt S X E n) (i*3+2) [x]=jt S X (upd E i x) n:=by
 show(jt S X E n).set (i*3+2) x=_
 apply List.ext_getElem?
 intro m
 rw[List.getElem?_set,jD,jD,zy]
 by_cases hm:i*3+2=m
 ·subst hm
  rw[if_pos rfl,if_pos (by omega),if_pos (by omega),if_neg (by omega),if_neg (by omega),show(i*3+2)/3=i by omega,qq]
 ·rw[if_neg hm]
  by_cases h1:m/3<n
  ·rw[if_pos h1,if_pos h1]
   by_cases h2:m % 3=0
   ·rw[if_pos h2,if_pos h2]
   ·rw[if_neg h2,if_neg h2]
    by_cases h3:m % 3=1
    ·rw[if_pos h3,if_pos h3]
    ·rw[if_neg h3,if_neg h3,qh (by omega)]
  ·rw[if_neg h1,if_neg h1]
theorem aX2{S X E:Nat→AV}{n i:Nat}(hi:i<n):cut (jt S X E n) (i*3+1) 1=[X i]:=by
 have h:=jD (S:=S) (X:=X) (E:=E) n (i*3+1)
 rw[if_pos (by omega),if_neg (by omega),if_pos (by omega),show(i*3+1)/3=i by omega]at h
 obtain⟨h1,h2⟩:=List.getElem?_eq_some_iff.1 h
 unfold cut
 rw[List.drop_eq_getElem_cons h1,h2]
 rfl
def cS(f:Nat→DyV)(j:Nat):AV:=.v (.bool (f j).s)
def cX(b:Nat)(f:Nat→DyV)(j:Nat):AV:=.rf (b+j) 0 (f j).xs.length
def cE(f:Nat→DyV)(j:Nat):AV:=.v (.int .i64 (f j).e)
theorem ahx{b:Nat}{f:Nat→DyV}{n:Nat}:ql (dcs b) (prF f n)=jt (cS f) (cX b f) (cE f) n:=by
 unfold ql jt prF ql
 rw[List.map_map];rfl
theorem Qs{h:Nat→Ob}{sz n i:Nat}{S X E:Nat→AV}{K:AV→Prop}(hi:i<n):@Qe false sz h (.fp (jt S X E n) (i*3+1)) ⟨K⟩=K (X i):=by
 have hg:=jD (S:=S) (X:=X) (E:=E) n (i*3+1)
 rw[if_pos (by omega),if_neg (by omega),if_pos (by omega),show(i*3+1)/3=i by omega]at hg
 rw[Ym,aWK,cond_false,zy,List.getD_eq_getElem?_getD,hg]
 exact propext ⟨fun h=>h.2,fun h=>⟨by omega,h⟩⟩
theorem aiK{p:Nat→Prop}{S X E:Nat→AV}{n:Nat}(h:∀j,j<n→(S j).All p∧(X j).All p∧(E j).All p):AllL p (jt S X E n):=by
 unfold jt
 have key:∀L:List Nat,(∀j∈L,j<n)→AllL p (ql (fun j=>[S j,X j,E j]) L):=by
  intro L
  induction L with
  |nil=>intro _;trivial
  |cons a L ih=>
   intro hL
   rw[qQ]
   obtain⟨h1,h2,h3⟩:=h a (hL a (List.mem_cons_self ..))
   exact⟨h1,h2,h3,ih fun j hj=>hL j (List.mem_cons_of_mem _ hj)⟩
 exact key _ fun j hj=>List.mem_range.1 hj
theorem aiI{ρ:Nat→Nat}{S X E:Nat→AV}{n:Nat}(h:∀j,j<n→(S j).ren ρ=S j∧(X j).ren ρ=X j∧(E j).ren ρ=E j):zx ρ (jt S X E n)=jt S X E n:=by
 unfold jt
 have key:∀L:List Nat,(∀j∈L,j<n)→zx ρ (ql (fun j=>[S j,X j,E j]) L)=ql (fun j=>[S j,X j,E j]) L:=by
  intro L
  induction L with
  |nil=>intro _;rfl
  |cons a L ih=>
   intro hL
   obtain⟨h1,h2,h3⟩:=h a (hL a (List.mem_cons_self ..))
   rw[qQ,yS,ih fun j hj=>hL j (List.mem_cons_of_mem _ hj)]
   congr 1
   show [_,_,_]=_
   rw[h1,h2,h3]
 exact key _ fun j hj=>List.mem_range.1 hj
theorem Xn{S X E S' X' E':Nat→AV}{n:Nat}(h:∀j,j<n→S j=S' j∧X j=X' j∧E j=E' j):jt S X E n=jt S' X' E' n:=by
 unfold jt ql
 congr 1
 refine List.map_congr_left fun j hj=>?_
 obtain⟨h1,h2,h3⟩:=h j (List.mem_range.1 hj)
 rw[h1,h2,h3]
def isV(a:AV):Prop:=∃x,a=.v x
theorem Le.sameF{σ:St}(E:List (Nat×AV))(n:Nat)(f g:Nat→DyV)(A C:Nat→AV)(hA:∀j,isV (A j))(hC:∀j,isV (C j))
  (hE:Jj id σ.env (nmF [10000000] 10000001 n) E) (h0:σ.hp 10000000=.own 3 (jt A (cX 10000001 f) C n)) (hF:∀j,j<n→σ.hp (10000001+j)=zD g j):
  Le σ ⟨ofL .un E,fam 10000001 n (zD g) (ofH [(10000000,.own 3 (jt A (cX 10000001 f) C n))])⟩:=by
 refine Le.famL id E [(10000000,.own 3 (jt A (cX 10000001 f) C n))] 10000001 n (zD g) rfl (fun q hq=>by rw[List.mem_singleton.1 hq];exact .inl (by show 10000000<10000001;omega)) hE ⟨⟨?_,?_,trivial⟩,trivial⟩
  (fun j hj=>⟨?_,(qI g j).2.2 _,(qI g j).1⟩) (fun m hm=>⟨fun h=>rfl,fun h=>h⟩) (fun m m' hm hm' h=>h)
 ·show Ob.own 3 (zx id _)=σ.hp 10000000
  rw[h0,aiI fun j hj=>?_]
  obtain⟨x,hx⟩:=hA j
  obtain⟨y,hy⟩:=hC j
  rw[hx,hy]
  exact⟨rfl,rfl,rfl⟩
 ·show AllL _ _
  refine aiK fun j hj=>?_
  obtain⟨x,hx⟩:=hA j
  obtain⟨y,hy⟩:=hC j
  rw[hx,hy]
  exact⟨trivial,.inr (by omega),trivial⟩
 ·rw[(qI g j).2.1]
  exact(hF j hj).symm
theorem aWQ(f:Nat→DyV)(j:Nat):isV (cS f j):=⟨_,rfl⟩
theorem aWR(f:Nat→DyV)(j:Nat):isV (cE f j):=⟨_,rfl⟩
theorem avd{k:Nat}{f:Nat→DyV}{i:Nat}:upd (cS (z8 k f i)) i (.v (.bool (decide (((kAt k f i:Nat):Int) % 3=0))))=cS (z8 k f (i+1)):=by
 funext j
 by_cases hj:j=i
 ·subst hj;rw[qq];unfold cS z8;rw[if_pos (by omega)];rfl
 ·rw[qh hj]
  unfold cS z8
  by_cases h:j<i
  ·rw[if_pos h,if_pos (by omega)]
  ·rw[if_neg h,if_neg (by omega)]
theorem ave{k:Nat}{f:Nat→DyV}{i:Nat}:upd (cE (z8 k f i)) i (.v (.int .i64 ((kAt k f i+1+(f i).xs.length:Nat):Int)))=cE (z8 k f (i+1)):=by
 funext j
 by_cases hj:j=i
 ·subst hj;rw[qq];unfold cE z8;rw[if_pos (by omega)];rfl
 ·rw[qh hj]
  unfold cE z8
  by_cases h:j<i
  ·rw[if_pos h,if_pos (by omega)]
  ·rw[if_neg h,if_neg (by omega)]
theorem Vm{k:Nat}{f:Nat→DyV}{i j:Nat}(hj:j≠i):zD (z8 k f (i+1)) j=zD (z8 k f i) j:=by
 unfold zD z8
 by_cases h:j<i
 ·rw[if_pos h,if_pos (by omega)]
 ·rw[if_neg h,if_neg (by omega)]
theorem Yk{k:Nat}{f:Nat→DyV}{i:Nat}:zD (z8 k f (i+1)) i=.own 1 (qg (mkI (kAt k f i+1) (f i).xs.length)):=by
 unfold zD z8;rw[if_pos (by omega)];rfl
set_option maxRecDepth 100000 in
theorem ahL(f:Nat→DyV)(n k:Nat)(hn:n≤1048576)(hx:∀j,j<n→(f j).xs.length≤1048576)(hkb:∀i,i≤n→kAt k f i≤2^39):Con Tryz.prog 37 false [.rf 10000000 0 n,.v (.int .i64 k)] (.own 3 (ql (dcs 10000001) (prF f n))::(List.range n).map (zD f))
  (fun r hs bs=>r=.v (.int .i64 (kAt k f n))∧hs=[]∧bs=.own 3 (ql (dcs 10000001) (prF (mkd k f) n))::(List.range n).map (zD (mkd k f))):=by
 refine Con.of_aw Tryz.func37 rfl Tryz.ntmps37 (by simp) (by simp;omega) (fun ob ho=>?_) (W.sound ?_)
 ·rcases List.mem_cons.1 ho with rfl|ho
  ·simp
  ·obtain⟨j,hj,rfl⟩:=List.mem_map.1 ho
   simp[zD]
 rw[YU (by omega)]
 show @W Tryz.prog 39 ⟨_⟩ ⟨fun x σ=>@zl _ _ _ ⟨_⟩ _ ⟨_⟩ x σ⟩ _ _
 simp(disch:=omega)only[go_sem]
 rw[ahx]
 refine yV (S:=fun i:Nat=>⟨ofL .un [(0,.rf 10000000 0 n),(1,.v (.int .i64 (kAt k f i))),(5,.v (.int .i64 i))],fam 10000001 n (zD (z8 k f i)) (ofH [(10000000,.own 3 (jt (cS (z8 k f i)) (cX 10000001 f) (cE (z8 k f i)) n))])⟩) (fun i=>i≤n) (fun i=>n-i) 0 (by omega)
  ?_ ?_
 ·show Le _ ⟨ofL .un [(0,.rf 10000000 0 n),(1,.v (.int .i64 (kAt k f 0))),(5,.v (.int .i64 (0:Nat)))],fam 10000001 n (zD (z8 k f 0)) (ofH [(10000000,.own 3 (jt (cS (z8 k f 0)) (cX 10000001 f) (cE (z8 k f 0)) n))])⟩
  rw[acB]
  exact Le.sameF _ n f f (cS f) (cE f) (aWQ f) (aWR f) (by simp(disch:=omega)only[go_sem,Jj,nmF,jq,kAt];try simp) (by dsimp only;rw[qw (by omega)];rfl) (fun j hj=>by dsimp only;rw[qW hj])
 intro i hi
 show @W Tryz.prog 39 ⟨_⟩ ⟨_⟩ (ofL .un _) (fam 10000001 n _ (ofH _))
 have hki:=hkb i hi
 simp(disch:=omega)only[go_sem]
 refine qi (fun c1=>?_) (fun c1=>?_)
 ·have hi2:i<n:=by omega
  have hs1:=Yb (S:=cS (z8 k f i)) (X:=cX 10000001 f) (E:=cE (z8 k f i)) (x:=.v (.bool (decide (((kAt k f i:Nat):Int) % 3=0)))) hi2
  have hxi:=hx i hi2
  have e1:((kAt k f i:Nat):Int)+1=((kAt k f i+1:Nat):Int):=by omega
  have hcm:=QC (kAt k f i+1) (f i).xs (by omega) (by have:=hkb i hi;omega)
  have hlim:zD (z8 k f i) i=.own 1 (qg (f i).xs):=by unfold zD;rw[avc]
  simp(disch:=omega)only[go_sem,c1,qw,hs1,zy]
  refine⟨by omega,by omega,by omega,?_⟩
  rw[Qs hi2]
  rw[show cX 10000001 f i=.rf (10000001+i) 0 (f i).xs.length from rfl]
  simp(disch:=omega)only[go_sem,e1,qw]
  refine zt false [10000001+i] hcm (by show [snp _ _ 6 (.rf (10000001+i) 0 _),snp _ _ 6 (.v _)]=_;simp[snp,idx,qK]) ?_ rfl (zp (z:=1) (cs:=qg (f i).xs) ?_ (by simp(disch:=omega)only[go_sem])) (by intro n hn;exact⟨_,List.mem_cons_self ..,by rw[List.mem_singleton.1 hn];rfl⟩) ?_
  ·show [Ob.ren _ (upd _ _ _ (10000001+i))]=_
   rw[qh (by omega),qW hi2,hlim]
   show [Ob.own 1 (zx _ (qg _))]=_
   rw[yy]
  ·rw[qh (by omega),qW hi2,hlim]
  rintro r hs bs ⟨rfl,rfl,rfl⟩-
  refine⟨by simp[qL],?_⟩
  have hne:∀(a b:Ob),(if 10000000=10000001+i then a else b)=b:=fun a b=>if_neg (by omega)
  have hs2:=Yc (S:=cS (z8 k f (i+1))) (X:=cX 10000001 f) (E:=cE (z8 k f i)) (x:=.v (.int .i64 ((kAt k f i+1+(f i).xs.length:Nat):Int))) hi2
  rw[ave]at hs2
  have e2:((kAt k f i+1+(f i).xs.length:Nat):Int)+1=((kAt k f (i+1):Nat):Int):=by
   show _=((kAt k f i+(f i).xs.length+2:Nat):Int)
   omega
  have hS:=@avd k f i
  simp(disch:=omega)only[go_sem,qw,hne,hS,hs2,zy,e2]
  refine⟨⟨by omega,by omega⟩,by omega,yU (i+1) (by show i+1≤n;omega) (by show n-(i+1)<n-i;omega) (Le.sameF _ n f (z8 k f (i+1)) (cS (z8 k f (i+1))) (cE (z8 k f (i+1))) (aWQ _) (aWR _) (by simp(disch:=omega)only[go_sem,Jj,nmF,jq];exact⟨rfl,by omega⟩) ?_ (fun j hj=>?_))⟩
  ·dsimp only
   rw[qq]
  ·dsimp only
   rw[qh (by omega)]
   by_cases hji:j=i
   ·subst hji
    rw[qq,Yk]
   ·rw[qh (by omega),qh (by omega),qW hj,Vm hji]
 ·simp(disch:=omega)only[go_sem,c1]
  obtain rfl:i=n:=by omega
  have hrow:jt (cS (z8 k f i)) (cX 10000001 f) (cE (z8 k f i)) i=ql (dcs 10000001) (prF (mkd k f) i):=by
   rw[ahx]
   refine Xn fun j hj=>?_
   have hm:z8 k f i j=mkd k f j:=if_pos hj
   refine⟨by unfold cS;rw[hm],?_,by unfold cE;rw[hm]⟩
   show AV.rf _ _ _=AV.rf _ _ _
   rw[show(mkd k f j).xs.length=(f j).xs.length from ZV _ _]
  have hlm:∀j,j<i→zD (z8 k f i) j=zD (mkd k f) j:=fun j hj=>by
   have hm:z8 k f i j=mkd k f j:=if_pos hj
   unfold zD;rw[hm]
  rw[hrow]
  refine ajd (.own 3 (ql (dcs 10000001) (prF (mkd k f) i))) i (zD (mkd k f)) [.v (.int .i64 (kAt k f i))] (by simp) (by omega) (by simp(disch:=omega)only[go_sem,aJV]) ⟨?_,?_,trivial⟩ (fun j hj=>⟨?_,(qI _ j).2.2 _,(qI _ j).1⟩) (by simp) ⟨rfl,rfl,rfl⟩
  ·rw[qw (by omega)]
   show Ob.own 3 (zx id _)=.own 3 _
   rw[awq (fun p hp=>rfl)]
  ·exact zZ fun p hp=>.inr (by have:=ju hp;omega)
  ·rw[(qI _ j).2.1,qW hj,hlm j hj]
end Go.Ab
namespace Go.Ab
open Go
section
variable {P:Program}{L:Nat→Option Blk→Prop}{w0 w:World}{R:Nat→Prop}{ι:Nat→Option Blk}{a:Act}{σ:St}{K:AV→(Nat→Ob)→Prop}
theorem AW.regCallG{N:Nat}{Q:Exit→St→Prop}{e:Nat→AV}{h:Nat→Ob}{id:Nat}{l:List Oper}{y:Code}(k:Nat){pre suf:List Oper}{d ty:Nat}{pos:String}{af:Array Edge}{c}{x:Operand}{f:FuncId}
  (hp:l.take k=pre) (hs:l.drop k=⟨some d,.call c,ty,pos,af,none⟩::suf) {e':Nat→AV} {h':Nat→Ob}
  (h1:@Ch P N ⟨l⟩ ⟨pre⟩ ⟨fun σ'=>Le σ' ⟨e',h'⟩⟩ e h)
  (hd:d<N) (hcal:c.callee=.value x) (hx:evW e' x=.fn f []) (hfn:qt P f) {aa0:List AV} (haa:evL e' c.args.toList=aa0)
  (hcall:ajq P f aa0 h' (20000000+10000000*d) (fun v hp'=>@Ch P N ⟨l⟩ ⟨suf⟩ ⟨fun σ=>AW P N y Q σ⟩ (upd e' d v) hp')):
  AW P N (.seq (.region id ⟨l⟩ false) y) Q ⟨e,h⟩:=by
 refine AW.seq fun L w0 R0 a w hi=>wp_region ?_
 have hl2:l=pre++⟨some d,.call c,ty,pos,af,none⟩::suf:=by rw[←hp,←hs,List.take_append_drop]
 have hr:List.range (⟨l⟩:Array Oper).size=List.range' 0 pre.length++(pre.length::(List.range' (pre.length+1) suf.length++[])):=by
  have hsz:(⟨l⟩:Array Oper).size=pre.length+(suf.length+1):=by show l.length=_;rw[hl2,List.length_append,List.length_cons]
  rw[hsz,List.append_nil,List.range_eq_range',List.range'_append_1.symm,Nat.zero_add,List.range'_succ]
 rw[hr]
 refine JR (K:=fun σ'=>Le σ' ⟨e',h'⟩) (fun σ a w hi2 hle=>?_) pre 0 (fun j hj=>?_) hi h1
 ·have hi3:=hle L w0 R0 N a w hi2
  obtain⟨R,ι,hR,hinv⟩:=hi3.inv
  have hget:(⟨l⟩:Array Oper)[pre.length]? =some ⟨some d,.call c,ty,pos,af,none⟩:=by
   rw[List.getElem?_toArray,hl2,List.getElem?_append_right (Nat.le_refl _),Nat.sub_self];rfl
  simp only[wpOps,hget]
  rw[if_pos (by simp[Region.wanted])]
  refine .inl (aTi (c:=c) (x:=x) (f:=f) (σ:=⟨e',h'⟩) rfl hcal (by rw[zT];exact hx) hfn hinv
   (K:=fun v hp'=>@Ch P N ⟨l⟩ ⟨suf⟩ ⟨fun σ=>AW P N y Q σ⟩ (upd e' d v) hp') ?_ fun x w' R' ι' av hp' hR' hK hx hm hi'=>?_)
  ·have ea:c.args.toList.map (St.ev ⟨e',h'⟩)=aa0:=by
    rw[←haa,Qz]
    exact List.map_congr_left fun z _=>zT _ _ _
   rw[ea]
   exact hcall
  ·refine JR (K:=fun σ=>AW P N y Q σ) (fun σ a w hi4 hq=>?_) suf (pre.length+1) (fun j hj=>?_) (hi3.put (o:=⟨some d,.call c,ty,pos,af,none⟩) hd hR hR' hx hm hi') hK
   ·exact⟨σ,hi4,hq⟩
   rw[List.getElem?_toArray,hl2,List.getElem?_append_right (by omega),show pre.length+1+j-pre.length=j+1 by omega];rfl
 ·rw[List.getElem?_toArray,hl2,Nat.zero_add,List.getElem?_append_left hj]
def Xt(b0 b n:Nat):List Nat:=b0::(List.range n).map (b+ ·)
theorem ZU{b0 b n:Nat}(h:b0<b∨b+n≤b0):(Xt b0 b n).Nodup:=by
 refine List.nodup_cons.2 ⟨fun hm=>?_,?_⟩
 ·obtain⟨j,hj,e⟩:=List.mem_map.1 hm
  have:=List.mem_range.1 hj
  omega
 ·refine List.Pairwise.map _ (fun x y hxy=>?_) List.nodup_range
  omega
theorem JM{b0 b n:Nat}:(Xt b0 b n).length=n+1:=by simp[Xt]
theorem aiU{b0 b n j:Nat}(hj:j<n):(Xt b0 b n)[j+1]'(by rw[JM];omega)=b+j:=by simp[Xt]
theorem aLR{b0 b n:Nat}(h:b0<b∨b+n≤b0):idx (Xt b0 b n) b0=some 0:=y3 (ZU h) 0 (by rw[JM];omega)
theorem aju{b0 b n j:Nat}(h:b0<b∨b+n≤b0)(hj:j<n):idx (Xt b0 b n) (b+j)=some (j+1):=by
 have:=y3 (ZU h) (j+1) (by rw[JM];omega)
 rwa[aiU hj]at this
theorem ax3{G:Nat→Ob}{b:Nat}:∀(n:Nat) (h:Nat→Ob),QT h ((List.range n).map (b+ ·)) ((List.range n).map G)=fam b n G h:=by
 have key:∀(L:List Nat) (h:Nat→Ob),L.Nodup→∀m,QT h (L.map (b+ ·)) (L.map G) m=if b≤m∧m-b∈L then G (m-b)else h m:=by
  intro L
  induction L with
  |nil=>intro h _ m;rw[if_neg (by simp)];rfl
  |cons a L ih=>
   intro h hn m
   have hn:=List.nodup_cons.1 hn
   show QT (upd h (b+a) (G a)) (L.map (b+ ·)) (L.map G) m=_
   rw[ih _ hn.2]
   by_cases h1:b≤m∧m-b∈L
   ·rw[if_pos h1,if_pos ⟨h1.1,List.mem_cons_of_mem _ h1.2⟩]
   ·rw[if_neg h1]
    by_cases h2:m=b+a
    ·subst h2
     rw[qq,if_pos ⟨by omega,by rw[Nat.add_sub_cancel_left];exact List.mem_cons_self ..⟩,Nat.add_sub_cancel_left]
    ·rw[qh h2,if_neg fun h3=>?_]
     rcases List.mem_cons.1 h3.2 with h4|h4
     ·omega
     ·exact h1 ⟨h3.1,h4⟩
 intro n h
 funext m
 rw[key _ h List.nodup_range m]
 unfold fam
 by_cases hm:b≤m∧m<b+n
 ·rw[if_pos hm,if_pos ⟨hm.1,List.mem_range.2 (by omega)⟩]
 ·rw[if_neg hm,if_neg fun h=>hm ⟨h.1,by have:=List.mem_range.1 h.2;omega⟩]
end
end Go.Ab
namespace Go.Ab
open Go Go.Proofs
theorem aWk{b0 b n j:Nat}(h:b0<b∨b+n≤b0)(hj:j<n):back (Xt b0 b n) (b+j)=10000001+j:=by
 unfold back
 rw[aju h hj]
 show 10000000+(j+1)=_
 omega
theorem aX5{c b0 b n j:Nat}(hj:j<n):rho c (Xt b0 b n) (10000001+j)=b+j:=by
 unfold rho
 rw[if_neg (by omega),show 10000001+j-10000000=j+1 by omega,List.getD_eq_getElem?_getD,List.getElem?_eq_getElem (by rw[JM];omega),aiU hj];rfl
theorem jN{a b n:Nat}{f:Nat→DyV}{ρ:Nat→Nat}(h:∀j,j<n→ρ (a+j)=b+j):zx ρ (ql (dcs a) (prF f n))=ql (dcs b) (prF f n):=yF fun p hp=>h p.1 (ju hp)
theorem ZC{P:Program}{fn:FuncId}{aa0 args:List AV}{h:Nat→Ob}{c:Nat}{K:AV→(Nat→Ob)→Prop}(b0 b n z:Nat)(f g:Nat→DyV)(rv:Value)(hb:b0<b∨b+n≤b0)
  (h0:h b0=.own z (ql (dcs b) (prF f n))) (hF:∀j,j<n→h (b+j)=zD f j)
  (hc:Con P fn false args (.own z (ql (dcs 10000001) (prF f n))::(List.range n).map (zD f)) (fun r hs bs=>r=.v rv∧hs=[]∧bs=.own z (ql (dcs 10000001) (prF g n))::(List.range n).map (zD g)))
  (ha:aa0.map (snp (hpx false (Xt b0 b n) h) (idx (Xt b0 b n)) 6)=args)
  (hk:K (.v rv) (fam b n (zD g) (upd h b0 (.own z (ql (dcs b) (prF g n)))))):ajq P fn aa0 h c K:=by
 have hbs:(Xt b0 b n).map (fun m=>(h m).ren (back (Xt b0 b n)))=.own z (ql (dcs 10000001) (prF f n))::(List.range n).map (zD f):=by
  show(h b0).ren _::((List.range n).map (b+ ·)).map _=_
  rw[h0]
  congr 1
  ·show Ob.own z (zx _ _)=_
   rw[jN fun j hj=>aWk hb hj]
  ·rw[List.map_map]
   refine List.map_congr_left fun j hj=>?_
   show(h (b+j)).ren _=_
   rw[hF j (List.mem_range.1 hj),(qI f j).2.1]
 refine⟨false,Xt b0 b n,_,by rw[ha,hbs];exact hc,ZU hb,fun m hm=>?_,fun r hs bs' hp=>?_⟩
 ·rcases List.mem_cons.1 hm with rfl|hm
  ·exact⟨z,_,h0,zZ fun p hp=>by rw[aju hb (ju hp)];rfl⟩
  ·obtain⟨j,hj,rfl⟩:=List.mem_map.1 hm
   exact⟨1,_,hF j (List.mem_range.1 hj),Zs⟩
 ·obtain⟨rfl,rfl,rfl⟩:=hp
  refine⟨by simp,trivial,fun h=>(by cases h),?_⟩
  have e:QT (V7 (rho c (Xt b0 b n)) h c []) (Xt b0 b n) ((Ob.own z (ql (dcs 10000001) (prF g n))::(List.range n).map (zD g)).map (Ob.ren (rho c (Xt b0 b n))))=fam b n (zD g) (upd h b0 (.own z (ql (dcs b) (prF g n)))):=by
   show QT (upd h b0 (.own z (zx _ (ql (dcs 10000001) (prF g n))))) ((List.range n).map (b+ ·)) (((List.range n).map (zD g)).map _)=_
   rw[jN fun j hj=>aX5 hj,List.map_map,show(List.range n).map (Ob.ren (rho c (Xt b0 b n))∘zD g)=(List.range n).map (zD g) from List.map_congr_left fun j _=>(qI g j).2.1 _,ax3]
  rw[e]
  exact hk
theorem Le.rowD{σ:St}(E:List (Nat×AV))(n:Nat)(f:Nat→DyV)(hE:Jj id σ.env (nmF [10000000] 10000001 n) E)(h0:σ.hp 10000000=.own 3 (ql (dcs 10000001) (prF f n)))(hF:∀j,j<n→σ.hp (10000001+j)=zD f j):
  Le σ ⟨ofL .un E,fam 10000001 n (zD f) (ofH [(10000000,.own 3 (ql (dcs 10000001) (prF f n)))])⟩:=by
 rw[ahx]at h0 ⊢
 exact Le.sameF E n f f (cS f) (cE f) (aWQ f) (aWR f) hE h0 hF
theorem J7{h:Nat→Ob}{b0 b n m k:Nat}(hb:b0<b∨b+n≤b0):snp h (idx (Xt b0 b n)) (k+1) (.rf b0 0 m)=.rf 10000000 0 m:=by
 show(match idx (Xt b0 b n) b0 with|some i=>AV.rf (10000000+i) 0 m|none=>_)=_
 rw[aLR hb]
theorem VE{N:Nat}{post:AV→List Ob→List Ob→Prop}{e:Nat→AV}{h:Nat→Ob}{n nn z:Nat}{g:Nat→DyV}{v:Value}(hnn:nn=n+1)(hn:n<9000000)(h0:h 10000000=.own z (ql (dcs 10000001) (prF g n)))(hF:∀j,j<n→h (10000001+j)=zD g j)
  (hp:post (.v v) [] (.own z (ql (dcs 10000001) (prF g n))::(List.range n).map (zD g))):@av8 N false nn ⟨post⟩ ⟨e⟩ [.v v] h:=by
 refine ajd (.own z (ql (dcs 10000001) (prF g n))) n (zD g) [.v v] hnn hn ⟨⟨rfl,trivial⟩,trivial⟩ ⟨?_,?_,trivial⟩ (fun j hj=>⟨?_,(qI _ j).2.2 _,(qI _ j).1⟩) (by simp) hp
 ·rw[h0]
  show Ob.own z (zx id _)=.own z _
  rw[jN fun j hj=>rfl]
 ·exact zZ fun p hp=>.inr (by have:=ju hp;omega)
 ·rw[(qI _ j).2.1,hF j hj]
set_option maxRecDepth 100000 in
theorem YF(m:Int)(f:Nat→DyV)(n k:Nat)(hn:n≤1048576)(hx:∀j,j<n→(f j).xs.length≤1048576)(hkb:∀i,i≤n→kAt k f i≤2^39):Con Tryz.prog 13 false [.ag [.v (.int .i64 m),.rf 10000000 0 n],.v (.int .i64 k)] (.own 3 (ql (dcs 10000001) (prF f n))::(List.range n).map (zD f))
  (fun r hs bs=>r=.v (.int .i64 (kAt k f n))∧hs=[]∧bs=.own 3 (ql (dcs 10000001) (prF (mkd k f) n))::(List.range n).map (zD (mkd k f))):=by
 refine Con.of_aw Tryz.func13 rfl Tryz.ntmps13 (by simp) (by simp;omega) (fun ob ho=>?_) ?_
 ·rcases List.mem_cons.1 ho with rfl|ho
  ·simp
  ·obtain⟨j,hj,rfl⟩:=List.mem_map.1 ho
   simp[zD]
 rw[YU (by omega)]
 refine AW.front1 ?_
 show @W Tryz.prog 10 ⟨_⟩ ⟨fun x σ=>@yq ⟨_⟩ ⟨_⟩ x σ⟩ _ _
 simp(disch:=omega)only[go_sem,qw,zf]
 refine AW.regCallG 3 (by simp only[List.take_succ_cons,List.take_zero];rfl) (by simp only[List.drop_succ_cons,List.drop_zero];rfl) (e':=ofL .un [(6,.rf 10000000 0 n),(7,.v (.int .i64 k))]) (h':=fam 10000001 n (zD f) (ofH [(10000000,.own 3 (ql (dcs 10000001) (prF f n)))])) ?_
  (by decide) rfl rfl (by simp(disch:=omega)only[go_sem]) (by rfl) (ZC 10000000 10000001 n 3 f (mkd k f) _ (.inl (by omega)) (by rw[qw (by omega)];rfl) (fun j hj=>qW hj) (ahL f n k hn hx hkb) ?_ ?_)
 ·simp(disch:=omega)only[go_sem,qw,zf]
  exact Le.rowD _ n f (by simp(disch:=omega)only[go_sem,Jj,nmF,jq];try simp) (by dsimp only;rw[qh (by omega),qw (by omega)];rfl) (fun j hj=>by dsimp only;rw[qh (by omega),qW hj])
 ·show [snp _ _ 6 (.rf 10000000 0 n),snp _ _ 6 (.v _)]=_
  rw[J7 (.inl (by omega))]
  simp[snp,qK]
 ·simp(disch:=omega)only[go_sem,qw,zf]
  refine W.sound ?_
  show @W Tryz.prog 10 ⟨_⟩ ⟨fun x σ=>@zl _ _ _ ⟨_⟩ _ ⟨_⟩ x σ⟩ _ _
  simp(disch:=omega)only[go_sem,qw,zf]
  exact VE (by simp) (by omega) (by rw[qw (by omega),qq]) (fun j hj=>qW hj) ⟨rfl,rfl,rfl⟩
end Go.Ab
namespace Go.Ab
open Go Go.Proofs
/-! ### Marks in a row of intervals-/
theorem Le.sameF6{σ:St}(E:List (Nat×AV))(n:Nat)(f g:Nat→DyV)(A C:Nat→AV)(hA:∀j,isV (A j))(hC:∀j,isV (C j))
  (hE:Jj id σ.env (nmF [10000000] 10000001 n) E) (h0:σ.hp 10000000=.own 6 (jt A (cX 10000001 f) C n)) (hF:∀j,j<n→σ.hp (10000001+j)=zD g j):
  Le σ ⟨ofL .un E,fam 10000001 n (zD g) (ofH [(10000000,.own 6 (jt A (cX 10000001 f) C n))])⟩:=by
 refine Le.famL id E [(10000000,.own 6 (jt A (cX 10000001 f) C n))] 10000001 n (zD g) rfl (fun q hq=>by rw[List.mem_singleton.1 hq];exact .inl (by show 10000000<10000001;omega)) hE ⟨⟨?_,?_,trivial⟩,trivial⟩
  (fun j hj=>⟨?_,(qI g j).2.2 _,(qI g j).1⟩) (fun m hm=>⟨fun h=>rfl,fun h=>h⟩) (fun m m' hm hm' h=>h)
 ·show Ob.own 6 (zx id _)=σ.hp 10000000
  rw[h0,aiI fun j hj=>?_]
  obtain⟨x,hx⟩:=hA j
  obtain⟨y,hy⟩:=hC j
  rw[hx,hy]
  exact⟨rfl,rfl,rfl⟩
 ·show AllL _ _
  refine aiK fun j hj=>?_
  obtain⟨x,hx⟩:=hA j
  obtain⟨y,hy⟩:=hC j
  rw[hx,hy]
  exact⟨trivial,.inr (by omega),trivial⟩
 ·rw[(qI g j).2.1]
  exact(hF j hj).symm
set_option maxRecDepth 100000 in
theorem ahK(f:Nat→DyV)(n k:Nat)(hn:n≤1048576)(hx:∀j,j<2*n→(f j).xs.length≤1048576)(hkb:∀i,i≤2*n→kAt k f i≤2^39):Con Tryz.prog 68 false [.rf 10000000 0 n,.v (.int .i64 k)] (.own 6 (ql (dcs 10000001) (prF f (2*n)))::(List.range (2*n)).map (zD f))
  (fun r hs bs=>r=.v (.int .i64 (kAt k f (2*n)))∧hs=[]∧bs=.own 6 (ql (dcs 10000001) (prF (mkd k f) (2*n)))::(List.range (2*n)).map (zD (mkd k f))):=by
 refine Con.of_aw Tryz.func68 rfl Tryz.ntmps68 (by simp) (by simp;omega) (fun ob ho=>?_) (W.sound ?_)
 ·rcases List.mem_cons.1 ho with rfl|ho
  ·simp
  ·obtain⟨j,hj,rfl⟩:=List.mem_map.1 ho
   simp[zD]
 rw[YU (by omega)]
 show @W Tryz.prog 71 ⟨_⟩ ⟨fun x σ=>@zl _ _ _ ⟨_⟩ _ ⟨_⟩ x σ⟩ _ _
 simp(disch:=omega)only[go_sem]
 rw[ahx]
 refine yV (S:=fun i:Nat=>⟨ofL .un [(0,.rf 10000000 0 n),(1,.v (.int .i64 (kAt k f (2*i)))),(5,.v (.int .i64 i))],fam 10000001 (2*n) (zD (z8 k f (2*i))) (ofH [(10000000,.own 6 (jt (cS (z8 k f (2*i))) (cX 10000001 f) (cE (z8 k f (2*i))) (2*n)))])⟩) (fun i=>i≤n) (fun i=>n-i) 0 (by omega)
  ?_ ?_
 ·show Le _ ⟨ofL .un [(0,.rf 10000000 0 n),(1,.v (.int .i64 (kAt k f 0))),(5,.v (.int .i64 (0:Nat)))],fam 10000001 (2*n) (zD (z8 k f 0)) (ofH [(10000000,.own 6 (jt (cS (z8 k f 0)) (cX 10000001 f) (cE (z8 k f 0)) (2*n)))])⟩
  rw[acB]
  exact Le.sameF6 _ (2*n) f f (cS f) (cE f) (aWQ f) (aWR f) (by simp(disch:=omega)only[go_sem,Jj,nmF,jq,kAt];try simp) (by dsimp only;rw[qw (by omega)];rfl) (fun j hj=>by dsimp only;rw[qW hj])
 intro i hi
 show @W Tryz.prog 71 ⟨_⟩ ⟨_⟩ (ofL .un _) (fam 10000001 (2*n) _ (ofH _))
 have hki:=hkb (2*i) (by omega)
 simp(disch:=omega)only[go_sem]
 refine qi (fun c1=>?_) (fun c1=>?_)
 ·have hi2:i<n:=by omega
  have hki1:=hkb (2*i+1) (by omega)
  have a0:2*i*3=i*6:=by omega
  have a1:(2*i+1)*3=i*6+3:=by omega
  have hs1:=Yb (S:=cS (z8 k f (2*i))) (X:=cX 10000001 f) (E:=cE (z8 k f (2*i))) (n:=2*n) (i:=2*i) (x:=.v (.bool (decide (((kAt k f (2*i):Nat):Int) % 3=0)))) (by omega)
  rw[a0,avd]at hs1
  have hs2:=Yc (S:=cS (z8 k f (2*i+1))) (X:=cX 10000001 f) (E:=cE (z8 k f (2*i))) (n:=2*n) (i:=2*i) (x:=.v (.int .i64 ((kAt k f (2*i)+1+(f (2*i)).xs.length:Nat):Int))) (by omega)
  rw[a0,ave]at hs2
  have hs3:=Yb (S:=cS (z8 k f (2*i+1))) (X:=cX 10000001 f) (E:=cE (z8 k f (2*i+1))) (n:=2*n) (i:=2*i+1) (x:=.v (.bool (decide (((kAt k f (2*i+1):Nat):Int) % 3=0)))) (by omega)
  rw[a1,avd]at hs3
  have hs4:=Yc (S:=cS (z8 k f (2*i+1+1))) (X:=cX 10000001 f) (E:=cE (z8 k f (2*i+1))) (n:=2*n) (i:=2*i+1) (x:=.v (.int .i64 ((kAt k f (2*i+1)+1+(f (2*i+1)).xs.length:Nat):Int))) (by omega)
  rw[a1,ave]at hs4
  have hl1:=fun(h:Nat→Ob) (K:AV→Prop)=>Qs (h:=h) (sz:=1) (S:=cS (z8 k f (2*i+1))) (X:=cX 10000001 f) (E:=cE (z8 k f (2*i))) (K:=K) (show 2*i<2*n by omega)
  rw[a0]at hl1
  have hl2:=fun(h:Nat→Ob) (K:AV→Prop)=>Qs (h:=h) (sz:=1) (S:=cS (z8 k f (2*i+1+1))) (X:=cX 10000001 f) (E:=cE (z8 k f (2*i+1))) (K:=K) (show 2*i+1<2*n by omega)
  rw[a1]at hl2
  have hc0:cX 10000001 f (2*i)=.rf (10000001+2*i) 0 (f (2*i)).xs.length:=rfl
  have hc1:cX 10000001 f (2*i+1)=.rf (10000001+(2*i+1)) 0 (f (2*i+1)).xs.length:=rfl
  rw[hc0]at hl1
  rw[hc1]at hl2
  have x0:=hx (2*i) (by omega)
  have x1:=hx (2*i+1) (by omega)
  have e1:((kAt k f (2*i):Nat):Int)+1=((kAt k f (2*i)+1:Nat):Int):=by omega
  have e2:((kAt k f (2*i)+1+(f (2*i)).xs.length:Nat):Int)+1=((kAt k f (2*i+1):Nat):Int):=by
   show _=((kAt k f (2*i)+(f (2*i)).xs.length+2:Nat):Int)
   omega
  have e3:((kAt k f (2*i+1):Nat):Int)+1=((kAt k f (2*i+1)+1:Nat):Int):=by omega
  have e4:((kAt k f (2*i+1)+1+(f (2*i+1)).xs.length:Nat):Int)+1=((kAt k f (2*i+1+1):Nat):Int):=by
   show _=((kAt k f (2*i+1)+(f (2*i+1)).xs.length+2:Nat):Int)
   omega
  have hcm:=QC (kAt k f (2*i)+1) (f (2*i)).xs (by omega) (by omega)
  have hcm2:=QC (kAt k f (2*i+1)+1) (f (2*i+1)).xs (by omega) (by omega)
  have hlim:zD (z8 k f (2*i)) (2*i)=.own 1 (qg (f (2*i)).xs):=by unfold zD;rw[avc]
  have hlim2:zD (z8 k f (2*i)) (2*i+1)=.own 1 (qg (f (2*i+1)).xs):=by unfold zD z8;rw[if_neg (by omega)]
  simp(disch:=omega)only[go_sem,c1,qw,hs1,zy,hl1,e1]
  refine⟨by omega,by omega,by omega,?_⟩
  refine zt false [10000001+2*i] hcm (by show [snp _ _ 6 (.rf (10000001+2*i) 0 _),snp _ _ 6 (.v _)]=_;simp[snp,idx,qK]) ?_ rfl (zp (z:=1) (cs:=qg (f (2*i)).xs) ?_ (by simp(disch:=omega)only[go_sem])) (by intro n hn;exact⟨_,List.mem_cons_self ..,by rw[List.mem_singleton.1 hn];rfl⟩) ?_
  ·show [Ob.ren _ (upd _ _ _ (10000001+2*i))]=_
   rw[qh (by omega),qW (by omega),hlim]
   show [Ob.own 1 (zx _ (qg _))]=_
   rw[yy]
  ·rw[qh (by omega),qW (by omega),hlim]
  rintro r hs bs ⟨rfl,rfl,rfl⟩-
  refine⟨by simp[qL],?_⟩
  have hne:∀(a b:Ob),(if 10000000=10000001+2*i then a else b)=b:=fun a b=>if_neg (by omega)
  have hne2:∀(a b:Ob),(if 10000000=10000001+(2*i+1)then a else b)=b:=fun a b=>if_neg (by omega)
  simp(disch:=omega)only[go_sem,qw,hne,hs1,hs2,hs3,hl2,zy,e2,e3]
  refine⟨⟨by omega,by omega⟩,by omega,⟨by omega,by omega⟩,by omega,⟨by omega,by omega⟩,?_⟩
  have hneq:10000001+(2*i+1)≠10000001+2*i:=by omega
  refine zt false [10000001+(2*i+1)] hcm2 (by show [snp _ _ 6 (.rf (10000001+(2*i+1)) 0 _),snp _ _ 6 (.v _)]=_;simp[snp,idx,qK]) ?_ rfl (zp (z:=1) (cs:=qg (f (2*i+1)).xs) ?_ (by simp(disch:=omega)only[go_sem])) (by intro n hn;exact⟨_,List.mem_cons_self ..,by rw[List.mem_singleton.1 hn];rfl⟩) ?_
  ·show [Ob.ren _ (upd _ _ _ (10000001+(2*i+1)))]=_
   rw[qh (by omega),qh (by omega),qh hneq,qh (by omega),qW (by omega),hlim2]
   show [Ob.own 1 (zx _ (qg _))]=_
   rw[yy]
  ·rw[qh (by omega),qh (by omega),qh hneq,qh (by omega),qW (by omega),hlim2]
  rintro r hs bs ⟨rfl,rfl,rfl⟩-
  refine⟨by simp[qL],?_⟩
  simp(disch:=omega)only[go_sem,qw,hne,hne2,hs4,zy,e4]
  refine⟨⟨by omega,by omega⟩,by omega,yU (i+1) (by show i+1≤n;omega) (by show n-(i+1)<n-i;omega) ?_⟩
  show Le _ ⟨ofL .un [(0,.rf 10000000 0 n),(1,.v (.int .i64 (kAt k f (2*(i+1))))),(5,.v (.int .i64 ((i+1:Nat):Int)))],fam 10000001 (2*n) (zD (z8 k f (2*(i+1)))) (ofH [(10000000,.own 6 (jt (cS (z8 k f (2*(i+1)))) (cX 10000001 f) (cE (z8 k f (2*(i+1)))) (2*n)))])⟩
  rw[show 2*(i+1)=2*i+1+1 by omega]
  refine Le.sameF6 _ (2*n) f (z8 k f (2*i+1+1)) (cS (z8 k f (2*i+1+1))) (cE (z8 k f (2*i+1+1))) (aWQ _) (aWR _) (by simp(disch:=omega)only[go_sem,Jj,nmF,jq];exact⟨rfl,by omega⟩) ?_ (fun j hj=>?_)
  ·dsimp only
   rw[qq]
  ·dsimp only
   rw[qh (by omega)]
   by_cases hji:j=2*i+1
   ·subst hji
    rw[qq,Yk]
   ·rw[qh (by omega),qh (by omega),qh (by omega),Vm hji]
    by_cases hj2:j=2*i
    ·subst hj2
     rw[qq,Yk]
    ·rw[qh (by omega),qh (by omega),qW hj,Vm hj2]
 ·simp(disch:=omega)only[go_sem,c1]
  obtain rfl:i=n:=by omega
  have hrow:jt (cS (z8 k f (2*i))) (cX 10000001 f) (cE (z8 k f (2*i))) (2*i)=ql (dcs 10000001) (prF (mkd k f) (2*i)):=by
   rw[ahx]
   refine Xn fun j hj=>?_
   have hm:z8 k f (2*i) j=mkd k f j:=if_pos hj
   refine⟨by unfold cS;rw[hm],?_,by unfold cE;rw[hm]⟩
   show AV.rf _ _ _=AV.rf _ _ _
   rw[show(mkd k f j).xs.length=(f j).xs.length from ZV _ _]
  have hlm:∀j,j<2*i→zD (z8 k f (2*i)) j=zD (mkd k f) j:=fun j hj=>by
   have hm:z8 k f (2*i) j=mkd k f j:=if_pos hj
   unfold zD;rw[hm]
  rw[hrow]
  exact VE (z:=6) (by simp) (by omega) (by rw[qw (by omega)];rfl) (fun j hj=>by rw[qW hj,hlm j hj]) ⟨rfl,rfl,rfl⟩
set_option maxRecDepth 100000 in
theorem VQ(m:Int)(f:Nat→DyV)(n k:Nat)(hn:n≤1048576)(hx:∀j,j<2*n→(f j).xs.length≤1048576)(hkb:∀i,i≤2*n→kAt k f i≤2^39):Con Tryz.prog 25 false [.ag [.v (.int .i64 m),.rf 10000000 0 n],.v (.int .i64 k)] (.own 6 (ql (dcs 10000001) (prF f (2*n)))::(List.range (2*n)).map (zD f))
  (fun r hs bs=>r=.v (.int .i64 (kAt k f (2*n)))∧hs=[]∧bs=.own 6 (ql (dcs 10000001) (prF (mkd k f) (2*n)))::(List.range (2*n)).map (zD (mkd k f))):=by
 refine Con.of_aw Tryz.func25 rfl Tryz.ntmps25 (by simp) (by simp;omega) (fun ob ho=>?_) ?_
 ·rcases List.mem_cons.1 ho with rfl|ho
  ·simp
  ·obtain⟨j,hj,rfl⟩:=List.mem_map.1 ho
   simp[zD]
 rw[YU (by omega)]
 refine AW.front1 ?_
 show @W Tryz.prog 10 ⟨_⟩ ⟨fun x σ=>@yq ⟨_⟩ ⟨_⟩ x σ⟩ _ _
 simp(disch:=omega)only[go_sem,qw,zf]
 refine AW.regCallG 3 (by simp only[List.take_succ_cons,List.take_zero];rfl) (by simp only[List.drop_succ_cons,List.drop_zero];rfl) (e':=ofL .un [(6,.rf 10000000 0 n),(7,.v (.int .i64 k))]) (h':=fam 10000001 (2*n) (zD f) (ofH [(10000000,.own 6 (jt (cS f) (cX 10000001 f) (cE f) (2*n)))])) ?_
  (by decide) rfl rfl (by simp(disch:=omega)only[go_sem]) (by rfl) (ZC 10000000 10000001 (2*n) 6 f (mkd k f) _ (.inl (by omega)) (by rw[qw (by omega),ahx];rfl) (fun j hj=>qW hj) (ahK f n k hn hx hkb) ?_ ?_)
 ·simp(disch:=omega)only[go_sem,qw,zf]
  exact Le.sameF6 _ (2*n) f f (cS f) (cE f) (aWQ f) (aWR f) (by simp(disch:=omega)only[go_sem,Jj,nmF,jq];try simp) (by dsimp only;rw[qh (by omega),qw (by omega),ahx];rfl) (fun j hj=>by dsimp only;rw[qh (by omega),qW hj])
 ·show [snp _ _ 6 (.rf 10000000 0 n),snp _ _ 6 (.v _)]=_
  rw[J7 (.inl (by omega))]
  simp[snp,qK]
 ·simp(disch:=omega)only[go_sem,qw,zf]
  refine W.sound ?_
  show @W Tryz.prog 10 ⟨_⟩ ⟨fun x σ=>@zl _ _ _ ⟨_⟩ _ ⟨_⟩ x σ⟩ _ _
  simp(disch:=omega)only[go_sem,qw,zf]
  exact VE (z:=6) (by simp) (by omega) (by rw[qw (by omega),qq]) (fun j hj=>qW hj) ⟨rfl,rfl,rfl⟩
end Go.Ab
namespace Go.Ab
open Go Go.Proofs
/-! ### What is held in a row of intervals-/
def vX(f:Nat→DyV)(j:Nat):AV:=.sl (f j).xs.length (qg (f j).xs)
theorem acC{h:Nat→Ob}{sz n i:Nat}{S X E:Nat→AV}{K:AV→Prop}(hi:i<n):@Qe false sz h (.fp (jt S X E n) (i*3)) ⟨K⟩=K (S i):=by
 have hg:=jD (S:=S) (X:=X) (E:=E) n (i*3)
 rw[if_pos (by omega),if_pos (by omega),show i*3/3=i by omega]at hg
 rw[Ym,aWK,cond_false,zy,List.getD_eq_getElem?_getD,hg]
 exact propext ⟨fun h=>h.2,fun h=>⟨by omega,h⟩⟩
theorem acD{h:Nat→Ob}{sz n i:Nat}{S X E:Nat→AV}{K:AV→Prop}(hi:i<n):@Qe false sz h (.fp (jt S X E n) (i*3+2)) ⟨K⟩=K (E i):=by
 have hg:=jD (S:=S) (X:=X) (E:=E) n (i*3+2)
 rw[if_pos (by omega),if_neg (by omega),if_neg (by omega),show(i*3+2)/3=i by omega]at hg
 rw[Ym,aWK,cond_false,zy,List.getD_eq_getElem?_getD,hg]
 exact propext ⟨fun h=>h.2,fun h=>⟨by omega,h⟩⟩
set_option maxRecDepth 100000 in
theorem ahV(f:Nat→DyV)(n k:Nat)(hn:n≤1048576)(hx:∀j,j<2*n→(f j).xs.length≤1048576)(hkb:∀i,i≤2*n→kAt k f i≤2^39):Con Tryz.prog 69 true [.sl n (jt (cS (mkd k f)) (vX (mkd k f)) (cE (mkd k f)) (2*n)),.v (.int .i64 k)] [] (isA (.v (.int .i64 (kAt k f (2*n))))):=by
 refine Con.of_w (rs:=[.tmp 4]) Tryz.func69 rfl Tryz.ntmps69 rfl ?_
 simp(disch:=omega)only[go_sem]
 refine qj (fun i:Nat=>[(0,.sl n (jt (cS (mkd k f)) (vX (mkd k f)) (cE (mkd k f)) (2*n))),(1,.v (.int .i64 (kAt k f (2*i)))),(5,.v (.int .i64 i))]) (fun _=>[]) (fun i=>i≤n) (fun i=>n-i) 0 (by omega)
  (Le.lst [] _ _ rfl (by simp(disch:=omega)only[go_sem,kAt]) (by simp(disch:=omega)only[go_sem])) ?_
 intro i hi
 have hki:=hkb (2*i) (by omega)
 simp(disch:=omega)only[go_sem]
 refine qi (fun c1=>?_) (fun c1=>?_)
 ·have hi2:i<n:=by omega
  have hki1:=hkb (2*i+1) (by omega)
  have a0:2*i*3=i*6:=by omega
  have a1:(2*i+1)*3=i*6+3:=by omega
  have x0:=hx (2*i) (by omega)
  have x1:=hx (2*i+1) (by omega)
  have l0:=fun(h:Nat→Ob) (K:AV→Prop)=>acC (h:=h) (sz:=1) (S:=cS (mkd k f)) (X:=vX (mkd k f)) (E:=cE (mkd k f)) (K:=K) (show 2*i<2*n by omega)
  have l1:=fun(h:Nat→Ob) (K:AV→Prop)=>Qs (h:=h) (sz:=1) (S:=cS (mkd k f)) (X:=vX (mkd k f)) (E:=cE (mkd k f)) (K:=K) (show 2*i<2*n by omega)
  have l2:=fun(h:Nat→Ob) (K:AV→Prop)=>acD (h:=h) (sz:=1) (S:=cS (mkd k f)) (X:=vX (mkd k f)) (E:=cE (mkd k f)) (K:=K) (show 2*i<2*n by omega)
  have l3:=fun(h:Nat→Ob) (K:AV→Prop)=>acC (h:=h) (sz:=1) (S:=cS (mkd k f)) (X:=vX (mkd k f)) (E:=cE (mkd k f)) (K:=K) (show 2*i+1<2*n by omega)
  have l4:=fun(h:Nat→Ob) (K:AV→Prop)=>Qs (h:=h) (sz:=1) (S:=cS (mkd k f)) (X:=vX (mkd k f)) (E:=cE (mkd k f)) (K:=K) (show 2*i+1<2*n by omega)
  have l5:=fun(h:Nat→Ob) (K:AV→Prop)=>acD (h:=h) (sz:=1) (S:=cS (mkd k f)) (X:=vX (mkd k f)) (E:=cE (mkd k f)) (K:=K) (show 2*i+1<2*n by omega)
  rw[a0]at l0 l1 l2
  rw[a1]at l3 l4 l5
  have cS0:∀j,cS (mkd k f) j=.v (.bool (decide (((kAt k f j:Nat):Int) % 3=0))):=fun j=>rfl
  have cE0:∀j,cE (mkd k f) j=.v (.int .i64 ((kAt k f j+1+(f j).xs.length:Nat):Int)):=fun j=>rfl
  have vX0:∀j,vX (mkd k f) j=.sl (f j).xs.length (qg (mkI (kAt k f j+1) (f j).xs.length)):=fun j=>by
   unfold vX
   rw[show(mkd k f j).xs.length=(f j).xs.length from ZV _ _];rfl
  rw[cS0]at l0 l3
  rw[vX0]at l1 l4
  rw[cE0]at l2 l5
  have e1:((kAt k f (2*i):Nat):Int)+1=((kAt k f (2*i)+1:Nat):Int):=by omega
  have e2:((kAt k f (2*i)+1+(f (2*i)).xs.length:Nat):Int)+1=((kAt k f (2*i+1):Nat):Int):=by
   show _=((kAt k f (2*i)+(f (2*i)).xs.length+2:Nat):Int)
   omega
  have e3:((kAt k f (2*i+1):Nat):Int)+1=((kAt k f (2*i+1)+1:Nat):Int):=by omega
  have e4:((kAt k f (2*i+1)+1+(f (2*i+1)).xs.length:Nat):Int)+1=((kAt k f (2*i+1+1):Nat):Int):=by
   show _=((kAt k f (2*i+1)+(f (2*i+1)).xs.length+2:Nat):Int)
   omega
  have h1:=Jn (kAt k f (2*i)+1) (f (2*i)).xs.length (by omega) (by omega)
  have h2:=Jn (kAt k f (2*i+1)+1) (f (2*i+1)).xs.length (by omega) (by omega)
  have q1:decide (((kAt k f (2*i)+1+(f (2*i)).xs.length:Nat):Int)<0)=false:=decide_eq_false (by omega)
  have q2:decide (((kAt k f (2*i+1)+1+(f (2*i+1)).xs.length:Nat):Int)<0)=false:=decide_eq_false (by omega)
  have qb:∀b:Bool,(b != b)=false:=fun b=>by cases b<;>rfl
  simp(disch:=omega)only[go_sem,c1,l0,l1,l2,l3,l4,l5,e1,qb,zy]
  refine⟨⟨by omega,by omega⟩,⟨by omega,by omega⟩,?_⟩
  refine qn (h1) ?_
  simp(disch:=omega)only[go_sem]
  simp(disch:=omega)only[go_sem,l2,l3,l4,l5,e2,e3,qb,q1,zy]
  refine⟨⟨by omega,by omega,by omega⟩,⟨by omega,by omega,by omega⟩,⟨by omega,by omega,by omega⟩,?_⟩
  refine qn (h2) ?_
  simp(disch:=omega)only[go_sem]
  simp(disch:=omega)only[go_sem,l5,e4,qb,q2,zy]
  refine⟨⟨by omega,by omega,by omega⟩,qe (i+1) [] (by show i+1≤_;omega) (by show n-(i+1)<n-i;omega) rfl (by simp(disch:=omega)only[go_sem,show 2*(i+1)=2*i+1+1 by omega];try omega) (by simp(disch:=omega)only[go_sem])⟩
 ·simp(disch:=omega)only[go_sem,c1]
  obtain rfl:i=n:=by omega
  exact qy
theorem VU(m:Int)(f:Nat→DyV)(n k:Nat)(hn:n≤1048576)(hx:∀j,j<2*n→(f j).xs.length≤1048576)(hkb:∀i,i≤2*n→kAt k f i≤2^39):Con Tryz.prog 26 true [.ag [.v (.int .i64 m),.sl n (jt (cS (mkd k f)) (vX (mkd k f)) (cE (mkd k f)) (2*n))],.v (.int .i64 k)] [] (isA (.v (.int .i64 (kAt k f (2*n))))):=by
 have c:=ahV f n k hn hx hkb
 have q:decide (((kAt k f (2*n):Nat):Int)<0)=false:=decide_eq_false (by omega)
 generalize kAt k f (2*n)=M at*
 refine Con.of_w (rs:=[.tmp 4]) Tryz.func26 rfl Tryz.ntmps26 rfl ?_
 simp(disch:=omega)only[go_sem]
 refine qn (c) ?_
 simp(disch:=omega)only[go_sem]
 simp(disch:=omega)only[go_sem,q]
 exact qy
end Go.Ab
namespace Go.Ab
open Go Go.Proofs
/-! ### Numbers told in rows of their own,in one form (a row may be a ghost)-/
theorem av7{N:Nat}{post:AV→List Ob→List Ob→Prop}{e:Nat→AV}{h:Nat→Ob}{nm:Nat}(hf:h nm=.free)(hnm:20000000≤nm)(hp:post (.rf 0 0 0) [.own 1 []] []):@av8 N false 0 ⟨post⟩ ⟨e⟩ [.v (.slice none 0 0)] h:=by
 have h1:Le ⟨Z1 N e [.v (.slice none 0 0)],h⟩ ⟨upd (Z1 N e [.v (.slice none 0 0)]) N (.rf nm 0 0),upd h nm (.own 1 [])⟩:=Le.ghost N nm 1 (by
  show Z1 N e _ N=_
  unfold Z1
  have:Nat.blt N N=false:=by
   cases hh:Nat.blt N N with
   |false=>rfl
   |true=>have:=Nat.le_of_ble_eq_true hh;omega
  rw[this,cond_false,Nat.sub_self];rfl) hf
 have h2:Le ⟨upd (Z1 N e [.v (.slice none 0 0)]) N (.rf nm 0 0),upd h nm (.own 1 [])⟩ ⟨ofL .un (jf N [.rf 0 0 0]),ofH (Qf [.own 1 []] [])⟩:=by
  refine Le.mk (fun m=>if m=0 then nm else m) [(N,.rf 0 0 0)] [(0,.own 1 [])] (fun p hp=>?_) (fun p hp=>?_) (fun p hp q hq _=>?_)
  ·rw[List.mem_singleton.1 hp]
   refine⟨?_,.inl rfl⟩
   show AV.rf (if 0=0 then nm else 0) 0 0=upd _ N _ N
   rw[if_pos rfl,qq]
  ·rw[List.mem_singleton.1 hp]
   refine⟨?_,trivial,by simp,rfl,fun hl=>(by cases hl),fun _=>?_⟩
   ·show Ob.own 1 []=upd _ nm _ (if 0=0 then nm else 0)
    rw[if_pos rfl,qq]
   ·show zP (if 0=0 then nm else 0)=false
    rw[if_pos rfl];exact Qu hnm
  ·rw[List.mem_singleton.1 hp,List.mem_singleton.1 hq]
 refine⟨_,[.own 1 []],[],[.rf 0 0 0],h1.trans h2,ac2 (by simp) (by simp),by simp,rfl,fun ob ho=>(by cases ho),fun ob ho=>?_,fun h=>(by cases h),fun h=>(by cases h),rfl,fun i hi=>?_,fun h=>(by cases h),?_,hp⟩
 ·rw[List.append_nil,List.mem_singleton]at ho
  rw[ho];exact trivial
 ·have:i=0:=by simp at hi;omega
  subst this
  show ofL .un (jf N [AV.rf 0 0 0]) (N+0)=_
  rw[yT,if_pos (by omega),show N+0-N=0 by omega]
 ·show rhp [.own 1 []] [] 0≠ .free
  simp[rhp]
theorem aoU(xs:List Int)(hl:xs.length≤2^39):Con Tryz.prog 304 false [.sl xs.length (qg xs)] [] (fun r hs bs=>r=.rf 0 0 xs.length∧hs=[.own 1 (qg xs)]):=by
 refine Con.of_aw Tryz.func304 rfl Tryz.ntmps304 (by simp) (by simp) (by simp) (W.sound ?_)
 show @W Tryz.prog 8 ⟨_⟩ ⟨fun x σ=>@zl _ _ _ ⟨_⟩ _ ⟨_⟩ x σ⟩ _ _
 simp(disch:=omega)only[go_sem]
 refine⟨fun h0=>?_,?_⟩
 ·have:xs=[]:=by cases xs with|nil=>rfl|cons a r=>cases h0
  subst this
  exact av7 (nm:=990000000) (by simp(disch:=omega)only[go_sem]) (by omega) ⟨rfl,rfl⟩
 ·refine⟨by omega,?_⟩
  refine qm [(0,90000000)] [.own 1 (qg xs)] [] [.rf 0 0 xs.length] rfl (by simp(disch:=omega)only[go_sem]) (by simp(disch:=omega)only[go_sem]) (by simp) (by simp) ⟨rfl,rfl⟩
theorem aoE(m:Nat)(hl:(lim m).length≤2^39)(hf:QZ m=true):Con Tryz.prog 263 false [.sl (lim (m)).length (qg (lim (m)))] [] (fun r hs bs=>r=.tu [.ag [.rf 0 0 (lim m).length],.v (.bool true)]∧hs=[.own 1 (qg (lim m))]):=by
 have c1:¬((lim m).length:Int)>100:=by unfold QZ at hf;simp at hf;omega
 refine Con.of_aw Tryz.func263 rfl Tryz.ntmps263 (by simp) (by simp) (by simp) (W.sound ?_)
 show @W Tryz.prog 11 ⟨_⟩ ⟨fun x σ=>@zl _ _ _ ⟨_⟩ _ ⟨_⟩ x σ⟩ _ _
 simp(disch:=omega)only[go_sem]
 refine qi (fun c2=>absurd c2 (by omega)) (fun c2=>?_)
 simp(disch:=omega)only[go_sem,c2]
 refine qF (aoU (lim m) (by omega)) (by simp(disch:=omega)only[go_sem]) ?_
 rintro r hs ⟨rfl,rfl⟩
 refine⟨by simp[qL];try simp(disch:=omega)only[go_sem],?_⟩
 simp(disch:=omega)only[go_sem]
 refine qm [(0,110000000)] [.own 1 (qg (lim m))] [] [.ag [.rf 0 0 (lim m).length],.v (.bool true)] rfl (by simp(disch:=omega)only[go_sem]) (by simp(disch:=omega)only[go_sem]) (by simp) (by simp) ⟨rfl,rfl⟩
theorem ac7(s:Bool)(m:Nat)(hl:(lim m).length≤2^39)(hf:QZ m=true):Con Tryz.prog 202 false [.v (.bool s),.sl (lim (m)).length (qg (lim (m)))] [] (fun r hs bs=>r=.tu [.ag [.v (.bool (s&&decide (m≠0))),.rf 0 0 (lim m).length],.v (.bool true)]∧hs=[.own 1 (qg (lim m))]):=by
 have hq:decide ((0:Int)<((lim m).length:Int))=decide (m≠0):=by
  rw[decide_eq_decide]
  exact⟨fun h e=>by rw[e,qz]at h;simp at h,fun h=>by have:=Qt h;omega⟩
 refine Con.of_aw Tryz.func202 rfl Tryz.ntmps202 (by simp) (by simp) (by simp) (W.sound ?_)
 show @W Tryz.prog 24 ⟨_⟩ ⟨fun x σ=>@zl _ _ _ ⟨_⟩ _ ⟨_⟩ x σ⟩ _ _
 simp(disch:=omega)only[go_sem]
 refine qF (aoE m hl hf) (by simp(disch:=omega)only[go_sem]) ?_
 rintro r hs ⟨rfl,rfl⟩
 refine⟨by simp[qL];try simp(disch:=omega)only[go_sem],?_⟩
 cases s
 ·simp(disch:=omega)only[go_sem]
  refine qm [(0,120000000)] [.own 1 (qg (lim m))] [] [.ag [.v (.bool (false&&decide (m≠0))),.rf 0 0 (lim m).length],.v (.bool true)] rfl (by simp(disch:=omega)only[go_sem]) (by simp(disch:=omega)only[go_sem]) (by simp) (by simp) ⟨rfl,rfl⟩
 ·simp(disch:=omega)only[go_sem,hq]
  refine qm [(0,120000000)] [.own 1 (qg (lim m))] [] [.ag [.v (.bool (true&&decide (m≠0))),.rf 0 0 (lim m).length],.v (.bool true)] rfl (by simp(disch:=omega)only[go_sem,Bool.true_and]) (by simp(disch:=omega)only[go_sem]) (by simp) (by simp) ⟨rfl,rfl⟩
theorem aw8(x:ExV)(hx:x.bd (-400000) 400000)(hf:x.fit=true):Con Tryz.prog 123 false [.ag [.v (.bool (x).s),.sl (lim (x).m).length (qg (lim (x).m)),.v (.int .i64 (x).e)]] [] (fun r hs bs=>r=.tu [.ag [.v (.bool x.can.s),.rf 0 0 (lim x.can.m).length,.v (.int .i64 x.can.e)],.v (.bool true)]∧hs=[.own 1 (qg (lim x.can.m))]):=by
 obtain⟨b1,b2,b3⟩:=hx
 have hb:=Nat.le_trans (jg (aZc x.m)) (show bl x.m≤10000000 by omega)
 have hl:=qE hb
 have co:=aVJ x.s x.m x.e (by omega) (by omega)
 have hff:(QZ (oM x.m)&&(decide (-3000≤oE x.m x.e)&&decide (oE x.m x.e≤3000)))=true:=hf
 rw[Bool.and_eq_true]at hff
 obtain⟨f1,f2⟩:=hff
 have cw:=ac7 (oS x.s x.m) (oM x.m) (by omega) f1
 have hs:(oS x.s x.m&&decide (oM x.m≠0))=oS x.s x.m:=by
  unfold oS
  by_cases h:x.m=0
  ·rw[if_pos h];rfl
  ·rw[if_neg h,decide_eq_true (show oM x.m≠0 from fun e=>h (yz.1 e)),Bool.and_true]
 rw[hs]at cw
 have ci:=jz (oE x.m x.e) (-3000) 3000
 rw[f2]at ci
 show Con _ _ _ _ _ (fun r hs bs=>r=.tu [.ag [.v (.bool (oS x.s x.m)),.rf 0 0 (lim (oM x.m)).length,.v (.int .i64 (oE x.m x.e))],.v (.bool true)]∧hs=[.own 1 (qg (lim (oM x.m)))])
 generalize oM x.m=M at*
 generalize oS x.s x.m=S at*
 generalize oE x.m x.e=E at*
 refine Con.of_aw Tryz.func123 rfl Tryz.ntmps123 (by simp) (by simp) (by simp) (W.sound ?_)
 show @W Tryz.prog 29 ⟨_⟩ ⟨fun x σ=>@zl _ _ _ ⟨_⟩ _ ⟨_⟩ x σ⟩ _ _
 simp(disch:=omega)only[go_sem]
 refine qa (co) ?_
 simp(disch:=omega)only[go_sem]
 refine qF cw (by simp(disch:=omega)only[go_sem]) ?_
 rintro r hs ⟨rfl,rfl⟩
 refine⟨by simp[qL];try simp(disch:=omega)only[go_sem],?_⟩
 simp(disch:=omega)only[go_sem]
 refine qn (ci) ?_
 simp(disch:=omega)only[go_sem]
 refine qm [(0,150000000)] [.own 1 (qg (lim M))] [] [.ag [.v (.bool S),.rf 0 0 (lim M).length,.v (.int .i64 E)],.v (.bool true)] rfl (by simp(disch:=omega)only[go_sem]) (by simp(disch:=omega)only[go_sem]) (by simp) (by simp) ⟨rfl,rfl⟩
theorem awB(s:SpV)(hs:s.bd (-400000) 400000)(hf:s.fit=true):Con Tryz.prog 149 false [.ag [.v (.bool (s).lo.s),.sl (lim (s).lo.m).length (qg (lim (s).lo.m)),.v (.int .i64 (s).lo.e),.v (.bool (s).hi.s),.sl (lim (s).hi.m).length (qg (lim (s).hi.m)),.v (.int .i64 (s).hi.e)]] []
  (fun r hs bs=>r=.tu [.ag [.v (.bool s.lo.can.s),.rf 0 0 (lim s.lo.can.m).length,.v (.int .i64 s.lo.can.e),.v (.bool s.hi.can.s),.rf 1 0 (lim s.hi.can.m).length,.v (.int .i64 s.hi.can.e)],.v (.bool true)]∧hs=[.own 1 (qg (lim s.lo.can.m)),.own 1 (qg (lim s.hi.can.m))]):=by
 have f1:s.lo.fit=true:=by have:(s.lo.fit&&s.hi.fit)=true:=hf;rw[Bool.and_eq_true]at this;exact this.1
 have f2:s.hi.fit=true:=by have:(s.lo.fit&&s.hi.fit)=true:=hf;rw[Bool.and_eq_true]at this;exact this.2
 have c1:=aw8 s.lo hs.1 f1
 have c2:=aw8 s.hi hs.2 f2
 generalize s.lo.can=u at*
 generalize s.hi.can=v at*
 refine Con.of_aw Tryz.func149 rfl Tryz.ntmps149 (by simp) (by simp) (by simp) (W.sound ?_)
 show @W Tryz.prog 30 ⟨_⟩ ⟨fun x σ=>@zl _ _ _ ⟨_⟩ _ ⟨_⟩ x σ⟩ _ _
 simp(disch:=omega)only[go_sem]
 refine qF c1 (by simp(disch:=omega)only[go_sem]) ?_
 rintro r hs' ⟨rfl,rfl⟩
 refine⟨by simp[qL];try simp(disch:=omega)only[go_sem],?_⟩
 simp(disch:=omega)only[go_sem]
 refine qF c2 (by simp(disch:=omega)only[go_sem]) ?_
 rintro r hs' ⟨rfl,rfl⟩
 refine⟨by simp[qL];try simp(disch:=omega)only[go_sem],?_⟩
 simp(disch:=omega)only[go_sem]
 refine qm [(0,130000000),(1,190000000)] [.own 1 (qg (lim u.m)),.own 1 (qg (lim v.m))] [] [.ag [.v (.bool u.s),.rf 0 0 (lim u.m).length,.v (.int .i64 u.e),.v (.bool v.s),.rf 1 0 (lim v.m).length,.v (.int .i64 v.e)],.v (.bool true)] rfl (by simp(disch:=omega)only[go_sem]) (by simp(disch:=omega)only[go_sem]) (by simp) (by simp) ⟨rfl,rfl⟩
end Go.Ab
namespace Go.Ab
open Go Go.Proofs
/-! ### A matrix of intervals with rows of its own-/
def ivf(l:List SpV)(j:Nat):DyV:=(if j % 2=0 then(l.getD (j/2) sp0).lo.can else(l.getD (j/2) sp0).hi.can).dyv
theorem avD{l:List SpV}{i:Nat}:ivf l (2*i)=(l.getD i sp0).lo.can.dyv:=by
 unfold ivf;rw[if_pos (by omega),show 2*i/2=i by omega]
theorem avE{l:List SpV}{i:Nat}:ivf l (2*i+1)=(l.getD i sp0).hi.can.dyv:=by
 unfold ivf;rw[if_neg (by omega),show(2*i+1)/2=i by omega]
theorem aiO{f:Nat→DyV}{n:Nat}:prF f (n+1)=prF f n++[(n,f n)]:=by simp[prF,List.range_succ]
theorem Vc{b:Nat}{f:Nat→DyV}{n:Nat}:(ql (dcs b) (prF f n)).length=n*3:=by rw[awr,aSx]
def Y5(i m:Nat):Nat:=if m=1 then 330000000 else if m=500000000+2*i then 230000000 else if m=500000000+(2*i+1)then 230000001 else m
set_option maxRecDepth 100000 in
theorem aoO(n:Nat)(l:List SpV)(hl:l.length≤1000)(hb:sbd (-400000) 400000 l)(hall:l.all SpV.fit=true):Con Tryz.prog 66 false [.ag [.v (.int .i64 (n)),.sl (l).length (ql SpV.cs (l))]] []
  (fun r hs bs=>r=.tu [.ag [.v (.int .i64 n),.rf 0 0 l.length],.v (.bool true)]∧hs=.own 6 (ql (dcs 1) (prF (ivf l) (2*l.length)))::(List.range (2*l.length)).map (zD (ivf l))):=by
 refine Con.of_w (rs:=[.cell 2 53,.tmp 3]) Tryz.func66 rfl Tryz.ntmps66 rfl ?_
 simp(disch:=omega)only[go_sem]
 refine yV (S:=fun i:Nat=>⟨ofL .un [(2,.pt 2 0),(3,.v (.bool false)),(4,.pt 0 0),(13,.sl l.length (ql SpV.cs l)),(14,.v (.int .i64 l.length)),(15,.v (.int .i64 i))],fam 500000000 (2*i) (zD (ivf l)) (ofH [(0,.own 0 [.v (.int .i64 n),.rf 1 0 i]),(1,.own 6 (ql (dcs 500000000) (prF (ivf l) (2*i)))),(2,.own 0 [.v (.int .i64 0),.v (.slice none 0 0)])])⟩) (fun i=>i≤l.length) (fun i=>l.length-i) 0 (by omega)
  (Le.fam0 _ _ _ _ ((Le.ghostC 60000000 1 1 6 (zo:=0) (cs:=[.v (.int .i64 n),.v (.slice none 0 0)]) (by simp(disch:=omega)only[go_sem]) rfl (by simp(disch:=omega)only[go_sem])).trans (Le.lst [(0,60000000),(2,40000000)] _ _ rfl (by simp(disch:=omega)only[go_sem]) (by simp(disch:=omega)only[go_sem,show ql (dcs 500000000) (prF (ivf l) (2*0))=[] from rfl,List.set_cons_succ,List.set_cons_zero])))) ?_
 intro i hi
 show @W Tryz.prog 35 ⟨_⟩ ⟨_⟩ (ofL .un _) (fam 500000000 (2*i) _ (ofH _))
 simp(disch:=omega)only[go_sem]
 refine qi (fun c1=>?_) (fun c1=>?_)
 ·have hi2:i<l.length:=by omega
  have hci:=zX hi2
  have hx:=zY hb hi2
  have hmem:l.getD i sp0∈l:=by rw[List.getD_eq_getElem?_getD,List.getElem?_eq_getElem hi2];exact List.getElem_mem _
  have hft:(l.getD i sp0).fit=true:=List.all_eq_true.1 hall _ hmem
  have glo:=@avD l i
  have ghi:=@avE l i
  have hcut:cut (ql (dcs 500000000) (prF (ivf l) (2*i))) 0 (i*6)=ql (dcs 500000000) (prF (ivf l) (2*i)):=by
   unfold cut
   rw[List.drop_zero,List.take_of_length_le (by rw[Vc];omega)]
  have cd:=awB _ hx hft
  generalize l.getD i sp0=x at*
  generalize x.lo.can=u at*
  generalize x.hi.can=v at*
  simp(disch:=omega)only[go_sem,c1,hci,qw]
  refine⟨by omega,by omega,?_⟩
  refine qF cd (by simp(disch:=omega)only[go_sem]) ?_
  rintro r hs ⟨rfl,rfl⟩
  refine⟨by simp[qL];simp(disch:=omega)only[go_sem,qw],?_⟩
  simp(disch:=omega)only[go_sem,qw,hcut]
  have r1:Y5 i 1=330000000:=if_pos rfl
  have r0:Y5 i 0=0:=by unfold Y5;rw[if_neg (by omega),if_neg (by omega),if_neg (by omega)]
  have r2:Y5 i 2=2:=by unfold Y5;rw[if_neg (by omega),if_neg (by omega),if_neg (by omega)]
  have ra:Y5 i (500000000+2*i)=230000000:=by unfold Y5;rw[if_neg (by omega),if_pos rfl]
  have rb:Y5 i (500000000+(2*i+1))=230000001:=by unfold Y5;rw[if_neg (by omega),if_neg (by omega),if_pos rfl]
  have rj:∀j,j<2*i→Y5 i (500000000+j)=500000000+j:=fun j hj=>by unfold Y5;rw[if_neg (by omega),if_neg (by omega),if_neg (by omega)]
  have hrow:zx (Y5 i) (ql (dcs 500000000) (prF (ivf l) (2*i+1+1)))=ql (dcs 500000000) (prF (ivf l) (2*i))++[.v (.bool u.s),.rf 230000000 0 (lim u.m).length,.v (.int .i64 u.e),.v (.bool v.s),.rf 230000001 0 (lim v.m).length,.v (.int .i64 v.e)]:=by
   rw[aiO,aiO,←jj,←jj,yS,yS,jN rj,List.append_assoc,glo,ghi]
   congr 1
   show [_,AV.rf (Y5 i (500000000+2*i)) 0 _,_,_,AV.rf (Y5 i (500000000+(2*i+1))) 0 _,_]=_
   rw[ra,rb];rfl
  refine⟨⟨by rw[Vc];omega,by omega⟩,yU (i+1) (by show i+1≤l.length;omega) (by show l.length-(i+1)<l.length-i;omega) ?_⟩
  show Le _ ⟨ofL .un [(2,.pt 2 0),(3,.v (.bool false)),(4,.pt 0 0),(13,.sl l.length (ql SpV.cs l)),(14,.v (.int .i64 l.length)),(15,.v (.int .i64 ((i+1:Nat):Int)))],fam 500000000 (2*(i+1)) (zD (ivf l)) (ofH [(0,.own 0 [.v (.int .i64 n),.rf 1 0 (i+1)]),(1,.own 6 (ql (dcs 500000000) (prF (ivf l) (2*(i+1))))),(2,.own 0 [.v (.int .i64 0),.v (.slice none 0 0)])])⟩
  rw[show 2*(i+1)=2*i+1+1 by omega]
  have hcase:∀m,nmF [0,1,2] 500000000 (2*i+1+1) m→m=0∨m=1∨m=2∨(∃j,j<2*i∧m=500000000+j)∨m=500000000+2*i∨m=500000000+(2*i+1):=fun m hm=>by
   rcases hm with hm|hm
   ·simp[jq]at hm;omega
   ·rcases(show m<500000000+2*i∨m=500000000+2*i∨m=500000000+(2*i+1) by omega)with h|h|h
    ·exact .inr (.inr (.inr (.inl ⟨m-500000000,by omega,by omega⟩)))
    ·exact .inr (.inr (.inr (.inr (.inl h))))
    ·exact .inr (.inr (.inr (.inr (.inr h))))
  have hval:∀m,nmF [0,1,2] 500000000 (2*i+1+1) m→(m=0∧Y5 i m=0)∨(m=1∧Y5 i m=330000000)∨(m=2∧Y5 i m=2)∨(500000000≤m∧m<500000000+2*i∧Y5 i m=m)∨(m=500000000+2*i∧Y5 i m=230000000)∨(m=500000000+(2*i+1)∧Y5 i m=230000001):=fun m hm=>by
   rcases hcase m hm with rfl|rfl|rfl|⟨j,hj,rfl⟩|rfl|rfl
   ·exact .inl ⟨rfl,r0⟩
   ·exact .inr (.inl ⟨rfl,r1⟩)
   ·exact .inr (.inr (.inl ⟨rfl,r2⟩))
   ·exact .inr (.inr (.inr (.inl ⟨by omega,by omega,rj j hj⟩)))
   ·exact .inr (.inr (.inr (.inr (.inl ⟨rfl,ra⟩))))
   ·exact .inr (.inr (.inr (.inr (.inr ⟨rfl,rb⟩))))
  have hlo:∀m,m<3→zP m=false:=fun m hm=>by
   rcases(show m=0∨m=1∨m=2 by omega)with rfl|rfl|rfl<;>rfl
  refine Le.famL (Y5 i) _ _ 500000000 (2*i+1+1) (zD (ivf l)) rfl (fun q hq=>.inl ?_) (by simp(disch:=omega)only[go_sem,Jj,nmF,jq,r0,r2];try simp) ⟨⟨?_,?_,trivial⟩,⟨?_,?_,trivial⟩,⟨?_,?_,trivial⟩,trivial⟩ (fun j hj=>⟨?_,(qI _ j).2.2 _,(qI _ j).1⟩) (fun m hm=>?_) (fun m m' hm hm' e=>?_)
  ·simp only[List.mem_cons,List.not_mem_nil,or_false]at hq
   rcases hq with rfl|rfl|rfl
   ·show 0<500000000;omega
   ·show 1<500000000;omega
   ·show 2<500000000;omega
  ·rw[r0]
   dsimp only
   rw[qq]
   show Ob.own 0 [_,AV.rf (Y5 i 1) 0 _]=_
   rw[r1];rfl
  ·exact⟨trivial,.inl (.inr (.inl rfl)),trivial⟩
  ·rw[r1]
   dsimp only
   rw[qh (by omega),qq]
   exact congrArg (Ob.own 6) hrow
  ·exact zZ fun p hp=>.inr (by have:=ju hp;omega)
  ·rw[r2]
   dsimp only
   rw[qh (by omega),qh (by omega),qh (by omega),qh (by omega),qh (by omega),qh (by omega),qh (by omega),qh (by omega),qh (by omega),qh (by omega),qw (by omega)];rfl
  ·exact⟨trivial,trivial,trivial⟩
  ·rw[(qI _ j).2.1]
   dsimp only
   rcases(show j<2*i∨j=2*i∨j=2*i+1 by omega)with h|rfl|rfl
   ·rw[rj j h,qh (by omega),qh (by omega),qh (by omega),qh (by omega),qh (by omega),qh (by omega),qh (by omega),qh (by omega),qh (by omega),qh (by omega),qW h]
   ·rw[ra,qh (by omega),qh (by omega),qh (by omega),qh (by omega),qh (by omega),qh (by omega),qh (by omega),qq]
    unfold zD;rw[glo];rfl
   ·rw[rb,qh (by omega),qh (by omega),qh (by omega),qh (by omega),qh (by omega),qh (by omega),qq]
    unfold zD;rw[ghi];rfl
  ·rcases hval m hm with⟨rfl,h⟩|⟨rfl,h⟩|⟨rfl,h⟩|⟨h1,h2,h⟩|⟨h1,h⟩|⟨h1,h⟩
   ·rw[h];exact⟨fun _=>rfl,fun h=>h⟩
   ·rw[h];exact⟨fun h=>(by cases h),fun _=>rfl⟩
   ·rw[h];exact⟨fun _=>rfl,fun h=>h⟩
   ·rw[h];exact⟨fun _=>rfl,fun h=>h⟩
   ·rw[h];exact⟨fun h=>(by rw[Qu (by omega)]at h;cases h),fun _=>rfl⟩
   ·rw[h];exact⟨fun h=>(by rw[Qu (by omega)]at h;cases h),fun _=>rfl⟩
  ·have a:=hval m hm
   have b:=hval m' hm'
   omega
 ·simp(disch:=omega)only[go_sem,c1,qw]
  obtain rfl:i=l.length:=by omega
  refine VF (fun m=>if m=0 then 1 else 500000000+(m-1)) (.own 6 (ql (dcs 1) (prF (ivf l) (2*l.length)))) (2*l.length) (zD (ivf l)) [.ag [.v (.int .i64 n),.rf 0 0 l.length],.v (.bool true)] (by omega) (by simp(disch:=omega)only[go_sem,aJV,nmF,jq];try simp) ⟨?_,?_,trivial⟩ (fun j hj=>⟨?_,(qI _ j).2.2 _,(qI _ j).1⟩) (fun m hm=>?_) (fun m m' hm hm' e=>?_) (by simp) ⟨rfl,rfl⟩
  ·show Ob.own 6 (zx _ (ql (dcs 1) (prF (ivf l) (2*l.length))))=upd _ 2 _ 1
   rw[jN (a:=1) (b:=500000000) (fun j hj=>by rw[if_neg (by omega)];omega),qh (by omega),qw (by omega)]
   rfl
  ·exact zZ fun p hp=>.inr (by have:=ju hp;omega)
  ·rw[(qI _ j).2.1]
   show _=upd _ 2 _ (if 1+j=0 then 1 else 500000000+(1+j-1))
   rw[if_neg (by omega),show 1+j-1=j by omega,qh (by omega),qW hj]
  ·by_cases h:m=0
   ·rw[if_pos h];rfl
   ·rw[if_neg h];exact Qu (by omega)
  ·have e:(if m=0 then 1 else 500000000+(m-1))=(if m'=0 then 1 else 500000000+(m'-1)):=e
   split at e<;>split at e<;>omega
end Go.Ab
namespace Go.Ab
open Go Go.Proofs
theorem auO:∀{a b:List AV},AV.pu.puL a→AV.pu.puL b→AV.pu.puL (a++b)
 | [],b,_,h=>h
 |x::a,b,h,h'=>⟨h.1,auO h.2 h'⟩
theorem aNJ{b:Nat}:∀{L:List (Nat×DyV)},AV.pu.puL (ql (dcs b) L)
 | []=>trivial
 |p::L=>by
  rw[qQ]
  exact auO (by simp[dcs,AV.pu,AV.pu.puL]) aNJ
theorem aTX(f:Nat→DyV)(j:Nat):(zD f j).pu:=by unfold zD;simp[Ob.pu,q8]
theorem ady(n:Nat)(L:List ExV)(low:Int)(h:matV n L)(ha:api n L low=true):Con Tryz.prog 23 true [.ag [.v (.int .i64 (n)),.sl (L).length (ql ExV.cs (L))],.v (.int .i64 low)] []
  (fun r hs bs=>r=.tu [.ag [.v (.int .i64 n),.rf 0 0 (n*n)],.v (.bool true)]∧hs=.own 6 (ql (dcs 1) (prF (ivf (exH n L low)) (2*(n*n))))::(List.range (2*(n*n))).map (zD (ivf (exH n L low)))):=by
 have f:=QH h ha
 have ca:=Jm n L low h
 rw[ha]at ca
 have cg:=YE n L (by have:=h.l16;omega)
 have ch:=aoR n L low h ha
 have hq:=jU h.n4
 have hl:(exH n L low).length=n*n:=yB
 have hB:=f.B
 have hw:=f.w
 have hlo:=f.lo
 have hb:sbd (-37888) 73473 (exH n L low):=aJ2 h.n4 f.s8 (by omega) (by omega) (by omega) f.bd
 have ci:=aoO n (exH n L low) (by omega) (qH hb (by omega) (by omega)) (ahr h f)
 rw[hl]at ci ch
 have hFp:=qI (ivf (exH n L low))
 generalize ivf (exH n L low)=g at*
 generalize exH n L low=H at*
 refine Con.of_w (rs:=[.cell 4 53,.tmp 5]) Tryz.func23 rfl Tryz.ntmps23 rfl ?_
 simp(disch:=omega)only[go_sem]
 refine qn (ca) ?_
 simp(disch:=omega)only[go_sem]
 refine qa (cg) ?_
 simp(disch:=omega)only[go_sem]
 refine qa (ch) ?_
 simp(disch:=omega)only[go_sem]
 refine qF ci (by simp(disch:=omega)only[go_sem]) ?_
 rintro r hs ⟨rfl,rfl⟩
 refine⟨⟨by simp;omega,Qy fun j hj=>?_⟩,?_⟩
 ·rw[qh (by omega),qh (by omega),adB (by omega)]
 have hrow:zx (rho 170000000 []) (ql (dcs 1) (prF g (2*(n*n))))=ql (dcs 170000001) (prF g (2*(n*n))):=jN fun j hj=>by
  unfold rho;rw[if_pos (by omega)];omega
 simp(disch:=omega)only[go_sem,ZG hFp,qw,hrow]
 refine VF (fun m=>170000000+m) (.own 6 (ql (dcs 1) (prF g (2*(n*n))))) (2*(n*n)) (zD g) [.ag [.v (.int .i64 n),.rf 0 0 (n*n)],.v (.bool true)] (by omega) (by simp(disch:=omega)only[go_sem,aJV,nmF,jq];try simp) ⟨?_,?_,trivial⟩ (fun j hj=>⟨?_,(qI _ j).2.2 _,(qI _ j).1⟩) (fun m hm=>Qu (by omega)) (fun m m' hm hm' e=>Nat.add_left_cancel e) (fun _=>⟨aNJ,fun j hj=>aTX g j,by simp[zw,AV.pu,AV.pu.puL]⟩) ⟨rfl,rfl⟩
 ·show Ob.own 6 (zx _ (ql (dcs 1) (prF g (2*(n*n)))))=_
  rw[jN (a:=1) (b:=170000001) (fun j hj=>by omega),qh (by omega),qw (by omega)]
  exact(qq _ _ _).symm
 ·exact zZ fun p hp=>.inr (by have:=ju hp;omega)
 ·rw[(qI _ j).2.1,qh (by omega),show 170000000+(1+j)=170000001+j by omega,qW hj]
theorem Q0(r:AV)(low:Int)(ca:Con Tryz.prog 51 true [r,.v (.int .i64 low)] [] (isA (.v (.bool false))))(hr:∃(k:Int) (m:Nat) (cs:List AV),r=.ag [.v (.int .i64 k),.sl m cs]):Con Tryz.prog 23 true [r,.v (.int .i64 low)] []
  (fun r hs bs=>r=.tu [.ag [.v (.int .i64 0),.v (.slice none 0 0)],.v (.bool false)]∧hs=[]):=by
 obtain⟨k,m,cs,rfl⟩:=hr
 refine Con.of_aw Tryz.func23 rfl Tryz.ntmps23 (by simp) (by simp) (by simp) (W.sound ?_)
 show @W Tryz.prog 18 ⟨_⟩ ⟨fun x σ=>@zl _ _ _ ⟨_⟩ _ ⟨_⟩ x σ⟩ _ _
 simp(disch:=omega)only[go_sem]
 refine qn (ca) ?_
 simp(disch:=omega)only[go_sem]
 refine qm [] [] [] [.ag [.v (.int .i64 0),.v (.slice none 0 0)],.v (.bool false)] rfl (by simp(disch:=omega)only[go_sem]) (by simp(disch:=omega)only[go_sem]) (by simp) (by intro _;simp[zw,AV.pu,AV.pu.puL,Ob.pu,q8]) ⟨rfl,rfl⟩
end Go.Ab
namespace Go.Ab
open Go Go.Proofs
/-! ### How much there is in all-/
def smF(f:Nat→DyV):Nat→Nat
 |0=>0
 |j+1=>smF f j+(f j).xs.length
theorem ai1{k:Nat}{f:Nat→DyV}:∀i,kAt k f i=k+smF f i+2*i
 |0=>rfl
 |i+1=>by
  show kAt k f i+(f i).xs.length+2=k+(smF f i+(f i).xs.length)+2*(i+1)
  rw[ai1 i];omega
theorem JK{f:Nat→DyV}{i:Nat}:∀n,i≤n→smF f i≤smF f n
 |0,h=>by rw[show i=0 by omega];exact Nat.le_refl _
 |n+1,h=>by
  show _≤smF f n+_
  rcases Nat.lt_or_ge i (n+1)with c|c
  ·have:=JK (f:=f) n (show i≤n by omega);omega
  ·rw[show i=n+1 by omega];exact Nat.le_refl _
theorem agU{f:Nat→DyV}{i n:Nat}(h:i<n):(f i).xs.length≤smF f n:=by
 have h1:=JK (f:=f) (i:=i+1) n (by omega)
 have h2:smF f (i+1)=smF f i+(f i).xs.length:=rfl
 omega
theorem awz(l:List DyV)(left:Nat)(hl:l.length≤9223372036854775807)(hx:∀x∈l,x.xs.length≤9223372036854775807)(h:left≤2^40):
  Con Tryz.prog 39 true [.sl l.length (ql DyV.cs l),.v (.int .i64 left)] [] (fun r hs bs=>∃v:Int,r=.v (.int .i64 v)∧hs=[]∧bs=[]∧(v= -1∨(0≤v∧l.length+smF (fun j=>l.getD j dy0) l.length≤left))):=by
 refine Con.of_aw Tryz.func39 rfl Tryz.ntmps39 (by simp) (by simp) (by simp) (W.sound ?_)
 show @W Tryz.prog 27 ⟨_⟩ ⟨fun x σ=>@zl _ _ _ ⟨_⟩ _ ⟨_⟩ x σ⟩ _ _
 simp(disch:=omega)only[go_sem]
 refine qi (fun h1=>?_) (fun h1=>?_)
 ·simp(disch:=omega)only[go_sem,h1]
  exact qC (by simp(disch:=omega)only[go_sem]) (by simp(disch:=omega)only[go_sem]) ⟨-1,rfl,rfl,rfl,.inl rfl⟩
 ·simp(disch:=omega)only[go_sem,h1]
  refine qj (fun x:Nat×Nat=>[(0,.sl l.length (ql DyV.cs l)),(1,.v (.int .i64 x.2)),(5,.v (.int .i64 x.1))]) (fun _=>[]) (fun x=>x.1≤l.length∧x.2+l.length+smF (fun j=>l.getD j dy0) x.1=left) (fun x=>l.length-x.1) (0,left-l.length) ⟨by omega,by show left-l.length+l.length+0=left;omega⟩
   (Le.lst [] _ _ rfl (by simp(disch:=omega)only[go_sem];try omega) (by simp(disch:=omega)only[go_sem])) ?_
  rintro⟨i,lf⟩ ⟨hi,hlf⟩
  dsimp only at hi hlf ⊢
  simp(disch:=omega)only[go_sem]
  refine qi (fun h2=>?_) (fun h2=>?_)
  ·have hcut:=Qn (l:=l) Xz (i:=i) (by omega) dy0
   have hmem:l.getD i dy0∈l:=by
    rw[List.getD_eq_getElem?_getD,List.getElem?_eq_getElem (by omega)];exact List.getElem_mem _
   have hsm:smF (fun j=>l.getD j dy0) (i+1)=smF (fun j=>l.getD j dy0) i+(l.getD i dy0).xs.length:=rfl
   have hxm:=hx _ hmem
   have cz:Con Tryz.prog 90 true [.ag (l.getD i dy0).cs,.v (.int .i64 lf)] [] (isA (.v (.int .i64 (szL lf (l.getD i dy0).xs.length)))):=aLn (l.getD i dy0).s (l.getD i dy0).xs (l.getD i dy0).e lf hxm (by omega)
   simp(disch:=omega)only[go_sem,h2,hcut]
   refine⟨by omega,by omega,?_⟩
   refine qx cz (by simp(disch:=omega)only[go_sem]) ?_
   rintro r hs ⟨rfl,rfl,_⟩
   refine⟨by simp[qL],?_⟩
   unfold szL
   by_cases h3:(lf:Int)-((l.getD i dy0).xs.length:Int)<0
   ·rw[if_pos h3]
    simp(disch:=omega)only[go_sem]
    exact qC (by simp(disch:=omega)only[go_sem]) (by simp(disch:=omega)only[go_sem]) ⟨-1,rfl,rfl,rfl,.inl rfl⟩
   ·rw[if_neg h3]
    simp(disch:=omega)only[go_sem,h3]
    exact qe (i+1,lf-(l.getD i dy0).xs.length) [] ⟨by show i+1≤_;omega,by show lf-(l.getD i dy0).xs.length+l.length+smF _ (i+1)=left;rw[hsm];omega⟩ (by show l.length-(i+1)<l.length-i;omega) rfl (by simp(disch:=omega)only[go_sem];try omega) (by simp(disch:=omega)only[go_sem])
  ·simp(disch:=omega)only[go_sem,h2]
   obtain rfl:i=l.length:=by omega
   exact qC (by simp(disch:=omega)only[go_sem]) (by simp(disch:=omega)only[go_sem]) ⟨lf,rfl,rfl,rfl,.inr ⟨by omega,by omega⟩⟩
theorem Z5(k:Int)(l:List DyV)(left:Nat)(hl:l.length≤9223372036854775807)(hx:∀x∈l,x.xs.length≤9223372036854775807)(h:left≤2^40):
  Con Tryz.prog 15 true [.ag [.v (.int .i64 k),.sl l.length (ql DyV.cs l)],.v (.int .i64 left)] [] (fun r hs bs=>∃v:Int,r=.v (.int .i64 v)∧hs=[]∧bs=[]∧(v= -1∨(0≤v∧l.length+smF (fun j=>l.getD j dy0) l.length≤left))):=by
 refine Con.of_aw Tryz.func15 rfl Tryz.ntmps15 (by simp) (by simp) (by simp) (W.sound ?_)
 show @W Tryz.prog 12 ⟨_⟩ ⟨fun x σ=>@zl _ _ _ ⟨_⟩ _ ⟨_⟩ x σ⟩ _ _
 simp(disch:=omega)only[go_sem]
 refine qx (awz l left hl hx h) (by simp(disch:=omega)only[go_sem]) ?_
 rintro r hs ⟨v,rfl,rfl, -,hv⟩
 refine⟨by simp[qL],?_⟩
 rcases hv with rfl|⟨h0,h1⟩
 ·simp(disch:=omega)only[go_sem]
  exact qC (by simp(disch:=omega)only[go_sem]) (by simp(disch:=omega)only[go_sem]) ⟨-1,rfl,rfl,rfl,.inl rfl⟩
 ·simp(disch:=omega)only[go_sem,decide_eq_false (show ¬v<0 by omega)]
  exact qC (by simp(disch:=omega)only[go_sem]) (by simp(disch:=omega)only[go_sem]) ⟨v,rfl,rfl,rfl,.inr ⟨h0,h1⟩⟩
end Go.Ab
namespace Go.Ab
open Go Go.Proofs
/-! ### The law of what is held of a matrix's exponential-/
theorem aYh{l:List DyV}{n:Nat}:prs l n=prF (fun j=>l.getD j dy0) n:=rfl
theorem aNr(l:List DyV):avn l=zD (fun j=>l.getD j dy0):=rfl
theorem aIN{h:Nat→Ob}{b k:Nat}{f:Nat→DyV}{n:Nat}(hF:∀j,j<n→h (b+j)=zD f j):(ql (dcs b) (prF f n)).map (qK h (k+2))=jt (cS f) (vX f) (cE f) n:=by
 have key:∀L:List Nat,(∀j∈L,j<n)→(ql (dcs b) (L.map fun j=>(j,f j))).map (qK h (k+2))=ql (fun j=>[cS f j,vX f j,cE f j]) L:=by
  intro L
  induction L with
  |nil=>intro _;rfl
  |cons a L ih=>
   intro hL
   rw[List.map_cons,qQ,qQ,List.map_append,ih fun j hj=>hL j (List.mem_cons_of_mem _ hj)]
   congr 1
   show [qK h (k+2) (.v _),qK h (k+2) (.rf (b+a) 0 _),qK h (k+2) (.v _)]=_
   have h1:h (b+a)=.own 1 (qg ((f a).xs++[])):=by rw[List.append_nil];exact hF a (hL a (List.mem_cons_self ..))
   rw[yk h1 rfl]
   rfl
 exact key _ fun j hj=>List.mem_range.1 hj
theorem aiJ{l:List DyV}:jt (cS fun j=>l.getD j dy0) (vX fun j=>l.getD j dy0) (cE fun j=>l.getD j dy0) l.length=ql DyV.cs l:=by
 have:l=(List.range l.length).map fun j=>l.getD j dy0:=by
  apply List.ext_getElem
  ·simp
  ·intro i h1 h2
   simp[List.getD_eq_getElem?_getD,List.getElem?_eq_getElem h1]
 conv=>rhs;rw[this]
 unfold jt ql
 rw[List.map_map];rfl
theorem Qk{h:Nat→Ob}{b0 b z k m n:Nat}{f:Nat→DyV}(h0:h b0=.own z (ql (dcs b) (prF f n)))(hz:m*z=n*3)(hF:∀j,j<n→h (b+j)=zD f j):qK h (k+3) (.rf b0 0 m)=.sl m (jt (cS f) (vX f) (cE f) n):=by
 show(match h b0 with| .own z cs=>AV.sl m ((cut cs 0 (m*z)).map (qK h (k+2)))|_=>.un)=_
 rw[h0]
 show AV.sl m ((cut _ 0 (m*z)).map _)=_
 have hc:cut (ql (dcs b) (prF f n)) 0 (m*z)=ql (dcs b) (prF f n):=by
  unfold cut
  rw[List.drop_zero,List.take_of_length_le (by rw[Vc];omega)]
 rw[hc,aIN hF]
theorem aIV{l:List SpV}:jt (cS (ivf l)) (vX (ivf l)) (cE (ivf l)) (2*l.length)=ql SpV.cs (l.map SpV.can):=by
 have key:∀k,k≤l.length→jt (cS (ivf l)) (vX (ivf l)) (cE (ivf l)) (2*k)=ql SpV.cs ((l.map SpV.can).take k):=by
  intro k
  induction k with
  |zero=>intro _;rfl
  |succ k ih=>
   intro hk
   have e:∀(S X E:Nat→AV) (n:Nat),jt S X E (n+1)=jt S X E n++[S n,X n,E n]:=fun S X E n=>by
    unfold jt
    rw[List.range_succ,←jj,qQ,ji,List.append_nil]
   have hg:(l.map SpV.can)[k]? =some (l.getD k sp0).can:=by
    rw[List.getElem?_map,List.getD_eq_getElem?_getD,List.getElem?_eq_getElem (by omega)];rfl
   rw[show 2*(k+1)=2*k+1+1 by omega,e,e,ih (by omega),List.take_add_one,hg,List.append_assoc,show(some (l.getD k sp0).can).toList=[(l.getD k sp0).can] from rfl,←jj,qQ,ji,List.append_nil]
   congr 1
   unfold cS vX cE
   rw[avD,avE]
   rfl
 have:=key l.length (Nat.le_refl _)
 rwa[List.take_of_length_le (by simp)]at this
theorem ag9{l:List DyV}(hx:l.length+smF (fun j=>l.getD j dy0) l.length≤1048576):∀d∈l,d.xs.length≤1048576:=fun d hd=>by
 obtain⟨i,hi,rfl⟩:=List.getElem_of_mem hd
 have:=agU (f:=fun j=>l.getD j dy0) hi
 rw[List.getD_eq_getElem?_getD,List.getElem?_eq_getElem hi]at this
 simp only[Option.getD_some]at this
 omega
theorem XC(k:Int)(l:List DyV)(hl:l.length≤1048576)(hx:∀d∈l,d.xs.length≤1048576):Con Tryz.prog 17 false [.ag [.v (.int .i64 k),.sl l.length (ql DyV.cs l)]] [] (isA (.ag [.v (.int .i64 k),.sl l.length (ql DyV.cs l)])):=by
 refine Con.frzA ((Z4 k l hl hx).mono ?_)
 rintro r hs bs ⟨rfl,rfl⟩
 show AV.ag [_,qK _ 5 (.rf 0 0 l.length)]=_
 rw[Qk (b:=1) (z:=3) (n:=l.length) (f:=fun j=>l.getD j dy0) rfl (by omega) (fun j hj=>?_),aiJ]
 ·rfl
 ·show rhp _ [] (1+j)=_
  unfold rhp
  rw[if_neg (by omega),show 1+j=j+1 by omega,List.getD_cons_succ,List.getD_eq_getElem?_getD,List.getElem?_map,List.getElem?_range hj];rfl
theorem X4{h:Nat→Ob}{b0 b n k:Nat}{S:List SpV}(hS:S.length=n*n)(h0:h b0=.own 6 (ql (dcs b) (prF (ivf S) (2*(n*n)))))(hF:∀j,j<2*(n*n)→h (b+j)=zD (ivf S) j):qK h (k+3) (.rf b0 0 (n*n))=.sl (n*n) (ql SpV.cs (S.map SpV.can)):=by
 rw[Qk (n:=2*(n*n)) h0 (by omega) hF,←aIV,hS]
theorem X2{h:Nat→Ob}{b0 b k:Nat}{l:List DyV}(h0:h b0=.own 3 (ql (dcs b) (prF (fun j=>l.getD j dy0) l.length)))(hF:∀j,j<l.length→h (b+j)=zD (fun j=>l.getD j dy0) j):qK h (k+3) (.rf b0 0 l.length)=.sl l.length (ql DyV.cs l):=by
 rw[Qk (n:=l.length) h0 (by omega) hF,aiJ]
theorem Le.famI{σ:St}(E:List (Nat×AV))(H:List (Nat×Ob))(b n:Nat)(F:Nat→Ob)(hP:∀j,agZ (F j))
  (hn:QY (H.map (·.1))=true) (hlow:∀q∈H,q.1<b∨b+n≤q.1) (hE:Jj id σ.env (nmF (H.map (·.1)) b n) E)
  (hH:∀q∈H,σ.hp q.1=q.2∧q.2.men (nmF (H.map (·.1)) b n)∧q.2.isOwn) (hF:∀j,j<n→σ.hp (b+j)=F j):Le σ ⟨ofL .un E,fam b n F (ofH H)⟩:=by
 have hr:∀o:Ob,o.ren id=o:=fun o=>by
  cases o with
  |own z cs=>show Ob.own z (zx (fun m=>m) cs)=_;rw[ZS]
  |free=>rfl
  |dead=>rfl
 refine Le.famL id E H b n F hn hlow hE ?_ (fun j hj=>⟨by rw[hr];exact(hF j hj).symm,(hP j).2.2 _,(hP j).1⟩) (fun m hm=>⟨fun _=>rfl,fun h=>h⟩) (fun m m' _ _ h=>h)
 have key:∀(L:List (Nat×Ob)) (p:Nat→Prop),(∀q∈L,σ.hp q.1=q.2∧q.2.men p∧q.2.isOwn)→aZv id σ.hp p L:=by
  intro L p
  induction L with
  |nil=>intro _;trivial
  |cons a L ih=>
   intro h
   obtain⟨h1,h2,h3⟩:=h a (List.mem_cons_self ..)
   exact⟨⟨by rw[hr];exact h1.symm,h2,h3⟩,ih fun q hq=>h q (List.mem_cons_of_mem _ hq)⟩
 exact key _ _ hH
theorem Le.famI2{σ:St}(E:List (Nat×AV))(H:List (Nat×Ob))(b n:Nat)(F:Nat→Ob)(b2 n2:Nat)(F2:Nat→Ob)(hP:∀j,agZ (F j))(hP2:∀j,agZ (F2 j))
  (hn:QY (H.map (·.1))=true) (hb:20000000≤b∧20000000≤b2) (hlow:∀q∈H,(q.1<b∨b+n≤q.1)∧(q.1<b2∨b2+n2≤q.1)) (hd:b+n≤b2) (hE:Jj id σ.env (fun m=>nmF (H.map (·.1)) b n m∨(b2≤m∧m<b2+n2)) E)
  (hH:∀q∈H,σ.hp q.1=q.2∧q.2.men (fun m=>nmF (H.map (·.1)) b n m∨(b2≤m∧m<b2+n2))∧q.2.isOwn) (hF:∀j,j<n→σ.hp (b+j)=F j) (hF2:∀j,j<n2→σ.hp (b2+j)=F2 j):
  Le σ ⟨ofL .un E,fam b2 n2 F2 (fam b n F (ofH H))⟩:=by
 have hnd:=jw hn
 have hget:∀q∈H,fam b2 n2 F2 (fam b n F (ofH H)) q.1=q.2:=fun q hq=>by
  obtain⟨h1,h2⟩:=hlow q hq
  have a:fam b2 n2 F2 (fam b n F (ofH H)) q.1=fam b n F (ofH H) q.1:=if_neg (by omega)
  have c:fam b n F (ofH H) q.1=ofH H q.1:=if_neg (by omega)
  rw[a,c]
  exact Vg hnd q hq
 have g1:∀j,j<n→fam b2 n2 F2 (fam b n F (ofH H)) (b+j)=F j:=fun j hj=>by rw[qw (by omega),qW hj]
 have g2:∀j,j<n2→fam b2 n2 F2 (fam b n F (ofH H)) (b2+j)=F2 j:=fun j hj=>qW hj
 have hne:∀m,(nmF (H.map (·.1)) b n m∨(b2≤m∧m<b2+n2))→fam b2 n2 F2 (fam b n F (ofH H)) m≠ .free:=fun m hm=>by
  rcases hm with(hm|hm)|hm
  ·obtain⟨q,hq,rfl⟩:=List.mem_map.1 (JN.1 hm)
   rw[hget q hq]
   exact zN (hH q hq).2.2
  ·rw[show m=b+(m-b) by omega,g1 _ (by omega)]
   exact zN (hP _).1
  ·rw[show m=b2+(m-b2) by omega,g2 _ (by omega)]
   exact zN (hP2 _).1
 have hsrc:∀m z cs,fam b2 n2 F2 (fam b n F (ofH H)) m=.own z cs→σ.hp m=.own z cs∧AllL (fun m=>nmF (H.map (·.1)) b n m∨(b2≤m∧m<b2+n2)) cs:=by
  intro m z cs e
  by_cases h2:b2≤m∧m<b2+n2
  ·rw[show m=b2+(m-b2) by omega,g2 _ (by omega)]at e
   have hm:=hF2 (m-b2) (by omega)
   rw[show b2+(m-b2)=m by omega,e]at hm
   have:=(hP2 (m-b2)).2.2 (fun m=>nmF (H.map (·.1)) b n m∨(b2≤m∧m<b2+n2))
   rw[e]at this
   exact⟨hm,this⟩
  ·have a:fam b2 n2 F2 (fam b n F (ofH H)) m=fam b n F (ofH H) m:=if_neg h2
   by_cases h1:b≤m∧m<b+n
   ·rw[show m=b+(m-b) by omega,g1 _ (by omega)]at e
    have hm:=hF (m-b) (by omega)
    rw[show b+(m-b)=m by omega,e]at hm
    have:=(hP (m-b)).2.2 (fun m=>nmF (H.map (·.1)) b n m∨(b2≤m∧m<b2+n2))
    rw[e]at this
    exact⟨hm,this⟩
   ·have c:fam b n F (ofH H) m=ofH H m:=if_neg h1
    rw[a,c]at e
    rcases jQ (l:=H) (s:=m) (d:=(bif zP m then .dead else .free:Ob))with⟨v,h1,h2⟩|h1
    ·have hv:v=.own z cs:=h2.symm.trans e
     subst hv
     obtain⟨k1,k2, -⟩:=hH _ h1
     exact⟨k1,k2⟩
    ·have:ofH H m=_:=h1
     rw[this]at e
     cases hl:zP m<;>rw[hl]at e<;>cases e
 refine Le.gen id _ _ (fun s=>?_) (fun m z cs e=>?_) (fun m hm=>?_) (fun m m' _ _ _ _ _ _ h=>h)
 ·rcases jQ (l:=E) (s:=s) (d:=AV.un)with⟨v,h1,h2⟩|h1
  ·right
   rw[h2]
   obtain⟨k1,k2⟩:=Vu hE _ h1
   exact⟨k1,k2.mono hne⟩
  ·exact .inl h1
 ·obtain⟨k1,k2⟩:=hsrc m z cs e
  refine⟨?_,k2.mono hne,fun _=>rfl,fun h=>h⟩
  show σ.hp m=.own z (zx (fun m=>m) cs)
  rw[ZS,k1]
 ·intro hf
  have hm2:m<20000000:=by
   rcases Nat.lt_or_ge m 20000000 with h|h
   ·exact h
   ·rw[Qu h]at hm;cases hm
  have a:fam b2 n2 F2 (fam b n F (ofH H)) m=ofH H m:=by rw[qw (by omega),qw (by omega)]
  rw[a]at hf
  rcases jQ (l:=H) (s:=m) (d:=(bif zP m then .dead else .free:Ob))with⟨v,h1,h2⟩|h1
  ·have hv:v=.free:=h2.symm.trans hf
   exact zN (hH _ h1).2.2 hv
  ·have:ofH H m=_:=h1
   rw[this,hm]at hf
   cases hf
set_option maxRecDepth 100000 in
theorem avs(k:Int)(l:List DyV)(low:Int)(hl:l.length≤9223372036854775807)(hx:∀x∈l,x.xs.length≤9223372036854775807)(n:Nat)(S:List SpV)(hS:S.length=n*n)(hn:n≤4)(hSx:∀j,(ivf S j).xs.length≤100)
  (cs:Con Tryz.prog 22 false [.ag [.v (.int .i64 k),.sl l.length (ql DyV.cs l)],.v (.int .i64 low)] [] (isA (.tu [.ag [.v (.int .i64 n),.sl (n*n) (ql SpV.cs (S.map SpV.can))],.v (.bool true)])))
  (ci:Con Tryz.prog 23 true [.ag [.v (.int .i64 k),.sl l.length (ql DyV.cs l)],.v (.int .i64 low)] [] (fun r hs bs=>r=.tu [.ag [.v (.int .i64 n),.rf 0 0 (n*n)],.v (.bool true)]∧hs=.own 6 (ql (dcs 1) (prF (ivf S) (2*(n*n))))::(List.range (2*(n*n))).map (zD (ivf S)))):
  Con Tryz.prog 5 true [.ag [.v (.int .i64 k),.sl l.length (ql DyV.cs l)],.v (.int .i64 low)] [] (isA (.v (.bool true))):=by
 have hq:=jU hn
 have cz:=Z5 k l 1048576 hl hx (by omega)
 refine Con.of_aw Tryz.func5 rfl Tryz.ntmps5 (by simp) (by simp) (by simp) (AW.front3 ?_)
 show @W Tryz.prog 101 ⟨_⟩ ⟨fun x σ=>@yq ⟨_⟩ ⟨_⟩ x σ⟩ _ _
 simp(disch:=omega)only[go_sem]
 refine qx cz (by simp(disch:=omega)only[go_sem]) ?_
 rintro r hs ⟨v,rfl,rfl, -,hv⟩
 refine⟨by simp[qL],?_⟩
 simp(disch:=omega)only[go_sem]
 rcases hv with rfl|⟨h0,h1⟩
 ·refine W.sound ?_
  show @W Tryz.prog 101 ⟨_⟩ ⟨fun x σ=>@zl _ _ _ ⟨_⟩ _ ⟨_⟩ x σ⟩ _ _
  simp(disch:=omega)only[go_sem]
  exact qy
 have hlen:l.length≤1048576:=by omega
 have hxs:=ag9 h1
 have cT:=XC k l hlen hxs
 have hv0:decide (v<0)=false:=decide_eq_false (by omega)
 refine AW.front3 ?_
 show @W Tryz.prog 101 ⟨_⟩ ⟨fun x σ=>@yq ⟨_⟩ ⟨_⟩ x σ⟩ _ _
 simp(disch:=omega)only[go_sem,hv0]
 refine qa (cT) ?_
 simp(disch:=omega)only[go_sem]
 refine qa (cs) ?_
 simp(disch:=omega)only[go_sem]
 refine qF (Z4 k l hlen hxs) (by simp(disch:=omega)only[go_sem]) ?_
 rintro r hs ⟨rfl,rfl⟩
 refine⟨⟨by simp;omega,Qy fun j hj=>?_⟩,?_⟩
 ·rw[qh (by omega),qh (by omega),qh (by omega),adB (by omega)]
 have hrow:=@agW 310000000 l.length l (by omega)
 simp(disch:=omega)only[go_sem,ZG (jc l),qw,hrow]
 rw[aYh,aNr]
 refine AW.le (Le.famI [(1,.v (.int .i64 low)),(2,.pt 40000000 0),(4,.v (.bool false)),(6,.pt 80000000 0),(7,.v (.bool true)),(8,.pt 100000000 0)]
  [(40000000,.own 0 [.v (.int .i64 k),.sl l.length (ql DyV.cs l)]),(80000000,.own 0 [.v (.int .i64 n),.sl (n*n) (ql SpV.cs (S.map SpV.can))]),(100000000,.own 0 [.v (.int .i64 k),.rf 310000000 0 l.length]),(310000000,.own 3 (ql (dcs 310000001) (prF (fun j=>l.getD j dy0) l.length)))]
  310000001 l.length (zD fun j=>l.getD j dy0) (qI _) rfl (fun q hq=>.inl ?_) (by simp(disch:=omega)only[go_sem,Jj,nmF,jq];try simp) (fun q hq=>?_) (fun j hj=>?_)) ?_
 ·simp only[List.mem_cons,List.not_mem_nil,or_false]at hq
  rcases hq with rfl|rfl|rfl|rfl
  ·show 40000000<310000001;omega
  ·show 80000000<310000001;omega
  ·show 100000000<310000001;omega
  ·show 310000000<310000001;omega
 ·simp only[List.mem_cons,List.not_mem_nil,or_false]at hq
  rcases hq with rfl|rfl|rfl|rfl
  ·refine⟨?_,⟨trivial,trivial,trivial⟩,trivial⟩
   dsimp only
   rw[qh (by omega),qh (by omega),qw (by omega),qh (by omega),qh (by omega),qh (by omega),qq]
  ·refine⟨?_,⟨trivial,trivial,trivial⟩,trivial⟩
   dsimp only
   rw[qh (by omega),qh (by omega),qw (by omega),qh (by omega),qq]
  ·refine⟨?_,⟨trivial,.inl (.inr (.inr (.inr (.inl rfl)))),trivial⟩,trivial⟩
   dsimp only
   rw[qq]
  ·refine⟨?_,zZ fun p hp=>.inr (by have:=ju hp;omega),trivial⟩
   dsimp only
   rw[qh (by omega),qh (by omega),qw (by omega),qq]
 ·dsimp only
  rw[qh (by omega),qh (by omega),qW hj]
 refine AW.front4 ?_
 show @W Tryz.prog 101 ⟨_⟩ ⟨fun x σ=>@yq ⟨_⟩ ⟨_⟩ x σ⟩ _ _
 have hl1:∀j,j<l.length→fam 310000001 l.length (zD fun j=>l.getD j dy0) (ofH [(40000000,.own 0 [.v (.int .i64 k),.sl l.length (ql DyV.cs l)]),(80000000,.own 0 [.v (.int .i64 n),.sl (n*n) (ql SpV.cs (S.map SpV.can))]),(100000000,.own 0 [.v (.int .i64 k),.rf 310000000 0 l.length]),(310000000,.own 3 (ql (dcs 310000001) (prF (fun j=>l.getD j dy0) l.length)))]) (310000001+j)=zD (fun j=>l.getD j dy0) j:=fun j hj=>qW hj
 simp(disch:=omega)only[go_sem,qw]
 refine qx ci ?_ ?_
 ·show [AV.ag [_,qK _ 5 (.rf 310000000 0 l.length)],_]=_
  rw[X2 (b:=310000001) (by rw[qw (by omega)];rfl) hl1]
  rfl
 rintro r hs ⟨rfl,rfl⟩
 refine⟨⟨by simp;omega,Qy fun j hj=>?_⟩,?_⟩
 ·rw[zf (by omega)]
  show ofL _ _ _=_
  rcases jQ (l:=[(40000000,.own 0 [.v (.int .i64 k),.sl l.length (ql DyV.cs l)]),(80000000,.own 0 [.v (.int .i64 n),.sl (n*n) (ql SpV.cs (S.map SpV.can))]),(100000000,.own 0 [.v (.int .i64 k),.rf 310000000 0 l.length]),(310000000,.own 3 (ql (dcs 310000001) (prF (fun j=>l.getD j dy0) l.length)))]) (s:=350000000+j) (d:=(bif zP (350000000+j)then .dead else .free:Ob))with⟨w,h2, -⟩|h2
  ·exfalso
   simp only[List.mem_cons,List.not_mem_nil,or_false,Prod.mk.injEq]at h2
   omega
  ·rw[h2,Qu (by omega)];rfl
 have hrow2:zx (rho 350000000 []) (ql (dcs 1) (prF (ivf S) (2*(n*n))))=ql (dcs 350000001) (prF (ivf S) (2*(n*n))):=jN fun j hj=>by
  unfold rho;rw[if_pos (by omega)];omega
 have hTl:(S.map SpV.can).length=n*n:=by rw[List.length_map,hS]
 have ceq:=YP n (S.map SpV.can) (by omega) (fun s hs=>?_)
 rotate_left
 ·obtain⟨t,ht,rfl⟩:=List.mem_map.1 hs
  obtain⟨j,hj,rfl⟩:=List.getElem_of_mem ht
  have a:=hSx (2*j)
  have b:=hSx (2*j+1)
  rw[avD]at a
  rw[avE]at b
  rw[List.getD_eq_getElem?_getD,List.getElem?_eq_getElem hj]at a b
  exact⟨Nat.le_trans a (by omega),Nat.le_trans b (by omega)⟩
 rw[hTl]at ceq
 simp(disch:=omega)only[go_sem,ZG (qI (ivf S)),qw,zf,hrow2]
 refine qx ceq ?_ ?_
 ·show [AV.ag [_,qK _ 5 (.rf 350000000 0 (n*n))],_]=_
  rw[X4 (b:=350000001) hS ?_ ?_]
  ·rfl
  ·rw[qh (by omega),qh (by omega),qw (by omega),qq]
  ·intro j hj
   rw[qh (by omega),qh (by omega),qW hj]
 rintro r hs ⟨rfl,rfl, -⟩
 refine⟨by simp[qL],?_⟩
 simp(disch:=omega)only[go_sem,show(true != true)=false from rfl]
 refine qv rfl [⟨0,[],[]⟩,⟨1,[0],[]⟩,⟨2,[0],[]⟩,⟨3,[],[]⟩,⟨4,[],[]⟩] (by kernel_rfl) ?_
 simp(disch:=omega)only[go_sem,qw,zf]
 refine qa (cT) ?_
 simp(disch:=omega)only[go_sem]
 refine qx (ads k l hlen (fun d hd=>Nat.le_trans (hxs d hd) (by omega))) ?_ ?_
 ·show [AV.ag [_,qK _ 5 (.rf 310000000 0 l.length)],_]=_
  rw[X2 (b:=310000001) ?_ ?_]
  ·rfl
  ·rw[qh (by omega),qh (by omega),qw (by omega),qh (by omega),qw (by omega)];rfl
  ·intro j hj
   rw[qh (by omega),qh (by omega),qw (by omega),qh (by omega),qW hj]
 rintro r hs ⟨rfl,rfl, -⟩
 refine⟨by simp[qL],?_⟩
 simp(disch:=omega)only[go_sem]
 have hkb0:∀i,i≤l.length→kAt 1 (fun j=>l.getD j dy0) i≤2^39:=fun i hi=>by
  rw[ai1]
  have:=JK (f:=fun j=>l.getD j dy0) (i:=i) l.length hi
  omega
 have hx0:∀j,j<l.length→((fun j=>l.getD j dy0) j).xs.length≤1048576:=fun j hj=>Nat.le_trans (agU (f:=fun j=>l.getD j dy0) hj) (by omega)
 have cm0:=YF k (fun j=>l.getD j dy0) l.length 1 hlen hx0 hkb0
 refine AW.regCallG 2 (by simp only[List.take_succ_cons,List.take_zero];rfl) (by simp only[List.drop_succ_cons,List.drop_zero];rfl) (e':=ofL .un [(1,.v (.int .i64 low)),(2,.pt 40000000 0),(4,.v (.bool false)),(6,.pt 80000000 0),(7,.v (.bool true)),(9,.pt 110000000 0),(10,.v (.bool true)),(50,.ag [.v (.int .i64 k),.rf 310000000 0 l.length]),(51,.v (.int .i64 1))])
  (h':=fam 350000001 (2*(n*n)) (zD (ivf S)) (fam 310000001 l.length (zD fun j=>l.getD j dy0) (ofH [(40000000,.own 0 [.v (.int .i64 k),.sl l.length (ql DyV.cs l)]),(80000000,.own 0 [.v (.int .i64 n),.sl (n*n) (ql SpV.cs (S.map SpV.can))]),(110000000,.own 0 [.v (.int .i64 n),.rf 350000000 0 (n*n)]),(310000000,.own 3 (ql (dcs 310000001) (prF (fun j=>l.getD j dy0) l.length))),(350000000,.own 6 (ql (dcs 350000001) (prF (ivf S) (2*(n*n)))))]))) ?_
  (by decide) rfl rfl (by simp(disch:=omega)only[go_sem]) (by rfl) (ZC 310000000 310000001 l.length 3 (fun j=>l.getD j dy0) (mkd 1 fun j=>l.getD j dy0) _ (.inl (by omega)) ?_ ?_ cm0 ?_ ?_)
 ·simp(disch:=omega)only[go_sem,qw,zf]
  refine Le.famI2 _ _ _ _ _ _ _ _ (qI _) (qI _) rfl (by omega) (fun q hq=>?_) (by omega) (by simp(disch:=omega)only[go_sem,Jj,nmF,jq];try simp) (fun q hq=>?_) (fun j hj=>?_) (fun j hj=>?_)
  ·simp only[List.mem_cons,List.not_mem_nil,or_false]at hq
   rcases hq with rfl|rfl|rfl|rfl|rfl<;>exact⟨by dsimp only;omega,by dsimp only;omega⟩
  ·simp only[List.mem_cons,List.not_mem_nil,or_false]at hq
   rcases hq with rfl|rfl|rfl|rfl|rfl
   ·refine⟨?_,⟨trivial,trivial,trivial⟩,trivial⟩
    dsimp only
    rw[qh (by omega),qh (by omega),qw (by omega),qh (by omega),qw (by omega)];rfl
   ·refine⟨?_,⟨trivial,trivial,trivial⟩,trivial⟩
    dsimp only
    rw[qh (by omega),qh (by omega),qw (by omega),qh (by omega),qw (by omega)];rfl
   ·refine⟨?_,⟨trivial,.inl (.inl (.inr (.inr (.inr (.inr (.inl rfl)))))),trivial⟩,trivial⟩
    dsimp only
    rw[qq]
   ·refine⟨?_,zZ fun p hp=>.inl (.inr (by have:=ju hp;omega)),trivial⟩
    dsimp only
    rw[qh (by omega),qh (by omega),qw (by omega),qh (by omega),qw (by omega)];rfl
   ·refine⟨?_,zZ fun p hp=>.inr (by have:=ju hp;omega),trivial⟩
    dsimp only
    rw[qh (by omega),qh (by omega),qw (by omega),qq]
  ·dsimp only
   rw[qh (by omega),qh (by omega),qw (by omega),qh (by omega),qW hj]
  ·dsimp only
   rw[qh (by omega),qh (by omega),qW hj]
 ·rw[qw (by omega),qw (by omega)];rfl
 ·intro j hj
  rw[qw (by omega),qW hj]
 ·show [AV.ag [snp _ _ 5 (.v _),snp _ _ 5 (.rf 310000000 0 _)],snp _ _ 6 (.v _)]=_
  rw[J7 (.inl (by omega))]
  simp[snp,qK]
 simp(disch:=omega)only[go_sem,qw,zf]
 have hX0:decide (((kAt 1 (fun j=>l.getD j dy0) l.length:Nat):Int)<0)=false:=decide_eq_false (by omega)
 refine AW.front2 ?_
 show @W Tryz.prog 101 ⟨_⟩ ⟨fun x σ=>@yq ⟨_⟩ ⟨_⟩ x σ⟩ _ _
 simp(disch:=omega)only[go_sem,hX0,qw,zf]
 refine qx ceq ?_ ?_
 ·show [AV.ag [_,qK _ 5 (.rf 350000000 0 (n*n))],_]=_
  rw[X4 (b:=350000001) hS ?_ ?_]
  ·rfl
  ·rw[zf (by omega),qh (by omega),qw (by omega),zf (by omega)];rfl
  ·intro j hj
   rw[zf (by omega),qh (by omega),qW hj]
 rintro r hs ⟨rfl,rfl, -⟩
 refine⟨by simp[qL],?_⟩
 simp(disch:=omega)only[go_sem,show(true != true)=false from rfl]
 have hx2:∀j,j<2*(n*n)→(ivf S j).xs.length≤1048576:=fun j _=>Nat.le_trans (hSx j) (by omega)
 have hsm2:∀i,smF (ivf S) i≤100*i:=fun i=>by
  induction i with
  |zero=>exact Nat.le_refl _
  |succ i ih=>
   have:=hSx i
   show smF (ivf S) i+(ivf S i).xs.length≤_
   omega
 have hkb2:∀i,i≤2*(n*n)→kAt 1 (ivf S) i≤2^39:=fun i hi=>by
  rw[ai1]
  have:=hsm2 i
  omega
 have cm1:=VQ n (ivf S) (n*n) 1 (by omega) hx2 hkb2
 have chd:=VU n (ivf S) (n*n) 1 (by omega) hx2 hkb2
 refine AW.regCallG 2 (by simp only[List.take_succ_cons,List.take_zero];rfl) (by simp only[List.drop_succ_cons,List.drop_zero];rfl) (e':=ofL .un [(1,.v (.int .i64 low)),(2,.pt 40000000 0),(4,.v (.bool false)),(6,.pt 80000000 0),(7,.v (.bool true)),(9,.pt 110000000 0),(10,.v (.bool true)),(66,.ag [.v (.int .i64 n),.rf 350000000 0 (n*n)]),(67,.v (.int .i64 1))])
  (h':=fam 350000001 (2*(n*n)) (zD (ivf S)) (ofH [(40000000,.own 0 [.v (.int .i64 k),.sl l.length (ql DyV.cs l)]),(80000000,.own 0 [.v (.int .i64 n),.sl (n*n) (ql SpV.cs (S.map SpV.can))]),(110000000,.own 0 [.v (.int .i64 n),.rf 350000000 0 (n*n)]),(350000000,.own 6 (ql (dcs 350000001) (prF (ivf S) (2*(n*n)))))])) ?_
  (by decide) rfl rfl (by simp(disch:=omega)only[go_sem]) (by rfl) (ZC 350000000 350000001 (2*(n*n)) 6 (ivf S) (mkd 1 (ivf S)) _ (.inl (by omega)) ?_ ?_ cm1 ?_ ?_)
 ·simp(disch:=omega)only[go_sem,qw,zf]
  refine Le.famI _ _ _ _ _ (qI _) rfl (fun q hq=>.inl ?_) (by simp(disch:=omega)only[go_sem,Jj,nmF,jq];try simp) (fun q hq=>?_) (fun j hj=>?_)
  ·simp only[List.mem_cons,List.not_mem_nil,or_false]at hq
   rcases hq with rfl|rfl|rfl|rfl<;>(dsimp only;omega)
  ·simp only[List.mem_cons,List.not_mem_nil,or_false]at hq
   rcases hq with rfl|rfl|rfl|rfl
   ·refine⟨?_,⟨trivial,trivial,trivial⟩,trivial⟩
    dsimp only
    rw[qw (by omega),qh (by omega),qw (by omega),qw (by omega)];rfl
   ·refine⟨?_,⟨trivial,trivial,trivial⟩,trivial⟩
    dsimp only
    rw[qw (by omega),qh (by omega),qw (by omega),qw (by omega)];rfl
   ·refine⟨?_,⟨trivial,.inl (.inr (.inr (.inr (.inl rfl)))),trivial⟩,trivial⟩
    dsimp only
    rw[qw (by omega),qh (by omega),qw (by omega),qw (by omega)];rfl
   ·refine⟨?_,zZ fun p hp=>.inr (by have:=ju hp;omega),trivial⟩
    dsimp only
    rw[zf (by omega),qh (by omega),qw (by omega),zf (by omega)];rfl
  ·dsimp only
   rw[zf (by omega),qh (by omega),qW hj]
 ·rw[qw (by omega)];rfl
 ·intro j hj
  exact qW hj
 ·show [AV.ag [snp _ _ 5 (.v _),snp _ _ 5 (.rf 350000000 0 _)],snp _ _ 6 (.v _)]=_
  rw[J7 (.inl (by omega))]
  simp[snp,qK]
 simp(disch:=omega)only[go_sem,qw,zf]
 have hM0:decide (((kAt 1 (ivf S) (2*(n*n)):Nat):Int)<0)=false:=decide_eq_false (by omega)
 refine W.sound ?_
 show @W Tryz.prog 101 ⟨_⟩ ⟨fun x σ=>@zl _ _ _ ⟨_⟩ _ ⟨_⟩ x σ⟩ _ _
 simp(disch:=omega)only[go_sem,qw,zf]
 refine qx chd ?_ ?_
 ·show [AV.ag [_,qK _ 5 (.rf 350000000 0 (n*n))],_]=_
  rw[Qk (b:=350000001) (z:=6) (n:=2*(n*n)) (f:=mkd 1 (ivf S)) ?_ (by omega) ?_]
  ·rfl
  ·rw[qw (by omega),qq]
  ·intro j hj
   exact qW hj
 rintro r hs ⟨rfl,rfl, -⟩
 refine⟨by simp[qL],?_⟩
 simp(disch:=omega)only[go_sem,hM0,qw,zf]
 have ciF:Con Tryz.prog 23 true [.ag [.v (.int .i64 k),.sl l.length (ql DyV.cs l)],.v (.int .i64 low)] [] (isA (.tu [.ag [.v (.int .i64 n),.sl (n*n) (ql SpV.cs (S.map SpV.can))],.v (.bool true)])):=by
  refine Con.frzAC (ci.mono ?_)
  rintro r hs bs ⟨rfl,rfl⟩
  show AV.tu [AV.ag [_,qK _ 4 (.rf 0 0 (n*n))],_]=_
  rw[X4 (b:=1) hS ?_ ?_]
  ·rfl
  ·rfl
  ·intro j hj
   show rhp _ [] (1+j)=_
   unfold rhp
   rw[if_neg (by omega),show 1+j=j+1 by omega,List.getD_cons_succ,List.getD_eq_getElem?_getD,List.getElem?_map,List.getElem?_range hj];rfl
 refine qa (cT) ?_
 simp(disch:=omega)only[go_sem]
 refine qn (ciF) ?_
 simp(disch:=omega)only[go_sem]
 simp(disch:=omega)only[go_sem,qw,zf]
 refine qn (ceq) ?_
 simp(disch:=omega)only[go_sem]
 simp(disch:=omega)only[go_sem,show(true != true)=false from rfl,qw,zf]
 refine qx chd ?_ ?_
 ·show [AV.ag [_,qK _ 5 (.rf 350000000 0 (n*n))],_]=_
  rw[Qk (b:=350000001) (z:=6) (n:=2*(n*n)) (f:=mkd 1 (ivf S)) ?_ (by omega) ?_]
  ·rfl
  ·rw[qh (by omega),qh (by omega),qw (by omega),qq]
  ·intro j hj
   rw[qh (by omega),qh (by omega)]
   exact qW hj
 rintro r hs ⟨rfl,rfl, -⟩
 refine⟨by simp[qL],?_⟩
 simp(disch:=omega)only[go_sem,hM0]
 exact qy
theorem ade(k:Nat):Con Tryz.prog 68 true [.sl 0 [],.v (.int .i64 k)] [] (isA (.v (.int .i64 k))):=by
 refine Con.of_w (rs:=[.tmp 4]) Tryz.func68 rfl Tryz.ntmps68 rfl ?_
 simp(disch:=omega)only[go_sem]
 refine qj (fun _:Nat=>[(0,.sl 0 []),(1,.v (.int .i64 k)),(5,.v (.int .i64 0))]) (fun _=>[]) (fun _=>True) (fun _=>0) 0 trivial (Le.lst [] _ _ rfl (by simp(disch:=omega)only[go_sem]) (by simp(disch:=omega)only[go_sem])) ?_
 intro _ _
 simp(disch:=omega)only[go_sem]
 exact qy
theorem Xd(m:Int)(k:Nat):Con Tryz.prog 25 true [.ag [.v (.int .i64 m),.sl 0 []],.v (.int .i64 k)] [] (isA (.v (.int .i64 k))):=by
 refine Con.of_w (rs:=[.tmp 4]) Tryz.func25 rfl Tryz.ntmps25 rfl ?_
 simp(disch:=omega)only[go_sem]
 refine qn (ade k) ?_
 simp(disch:=omega)only[go_sem]
 exact qy
theorem adp(k:Nat):Con Tryz.prog 69 true [.sl 0 [],.v (.int .i64 k)] [] (isA (.v (.int .i64 k))):=by
 refine Con.of_w (rs:=[.tmp 4]) Tryz.func69 rfl Tryz.ntmps69 rfl ?_
 simp(disch:=omega)only[go_sem]
 refine qj (fun _:Nat=>[(0,.sl 0 []),(1,.v (.int .i64 k)),(5,.v (.int .i64 0))]) (fun _=>[]) (fun _=>True) (fun _=>0) 0 trivial (Le.lst [] _ _ rfl (by simp(disch:=omega)only[go_sem]) (by simp(disch:=omega)only[go_sem])) ?_
 intro _ _
 simp(disch:=omega)only[go_sem]
 exact qy
theorem Xe(m:Int)(k:Nat):Con Tryz.prog 26 true [.ag [.v (.int .i64 m),.sl 0 []],.v (.int .i64 k)] [] (isA (.v (.int .i64 k))):=by
 have q:decide (((k:Nat):Int)<0)=false:=decide_eq_false (by omega)
 refine Con.of_w (rs:=[.tmp 4]) Tryz.func26 rfl Tryz.ntmps26 rfl ?_
 simp(disch:=omega)only[go_sem]
 refine qn (adp k) ?_
 simp(disch:=omega)only[go_sem]
 simp(disch:=omega)only[go_sem,q]
 exact qy
end Go.Ab
namespace Go.Ab
open Go Go.Proofs
set_option maxRecDepth 100000 in
theorem acG(k:Int)(l:List DyV)(low:Int)(hl:l.length≤9223372036854775807)(hx:∀x∈l,x.xs.length≤9223372036854775807)
  (cs:Con Tryz.prog 22 false [.ag [.v (.int .i64 k),.sl l.length (ql DyV.cs l)],.v (.int .i64 low)] [] (isA (.tu [.ag [.v (.int .i64 0),.sl 0 []],.v (.bool false)])))
  (ci:Con Tryz.prog 23 true [.ag [.v (.int .i64 k),.sl l.length (ql DyV.cs l)],.v (.int .i64 low)] [] (fun r hs bs=>r=.tu [.ag [.v (.int .i64 0),.v (.slice none 0 0)],.v (.bool false)]∧hs=[])):
  Con Tryz.prog 5 true [.ag [.v (.int .i64 k),.sl l.length (ql DyV.cs l)],.v (.int .i64 low)] [] (isA (.v (.bool true))):=by
 have ceq:Con Tryz.prog 24 true [.ag [.v (.int .i64 0),.sl 0 []],.ag [.v (.int .i64 0),.sl 0 []]] [] (isA (.v (.bool true))):=YP 0 [] (by simp) (by simp)
 have cm1:Con Tryz.prog 25 true [.ag [.v (.int .i64 0),.sl 0 []],.v (.int .i64 1)] [] (isA (.v (.int .i64 1))):=Xd 0 1
 have chd:Con Tryz.prog 26 true [.ag [.v (.int .i64 0),.sl 0 []],.v (.int .i64 1)] [] (isA (.v (.int .i64 1))):=Xe 0 1
 have cz:=Z5 k l 1048576 hl hx (by omega)
 refine Con.of_aw Tryz.func5 rfl Tryz.ntmps5 (by simp) (by simp) (by simp) (AW.front3 ?_)
 show @W Tryz.prog 101 ⟨_⟩ ⟨fun x σ=>@yq ⟨_⟩ ⟨_⟩ x σ⟩ _ _
 simp(disch:=omega)only[go_sem]
 refine qx cz (by simp(disch:=omega)only[go_sem]) ?_
 rintro r hs ⟨v,rfl,rfl, -,hv⟩
 refine⟨by simp[qL],?_⟩
 simp(disch:=omega)only[go_sem]
 rcases hv with rfl|⟨h0,h1⟩
 ·refine W.sound ?_
  show @W Tryz.prog 101 ⟨_⟩ ⟨fun x σ=>@zl _ _ _ ⟨_⟩ _ ⟨_⟩ x σ⟩ _ _
  simp(disch:=omega)only[go_sem]
  exact qy
 have hlen:l.length≤1048576:=by omega
 have hxs:=ag9 h1
 have cT:=XC k l hlen hxs
 have hv0:decide (v<0)=false:=decide_eq_false (by omega)
 refine AW.front3 ?_
 show @W Tryz.prog 101 ⟨_⟩ ⟨fun x σ=>@yq ⟨_⟩ ⟨_⟩ x σ⟩ _ _
 simp(disch:=omega)only[go_sem,hv0]
 refine qa (cT) ?_
 simp(disch:=omega)only[go_sem]
 refine qa (cs) ?_
 simp(disch:=omega)only[go_sem]
 refine qF (Z4 k l hlen hxs) (by simp(disch:=omega)only[go_sem]) ?_
 rintro r hs ⟨rfl,rfl⟩
 refine⟨⟨by simp;omega,Qy fun j hj=>?_⟩,?_⟩
 ·rw[qh (by omega),qh (by omega),qh (by omega),adB (by omega)]
 have hrow:=@agW 310000000 l.length l (by omega)
 simp(disch:=omega)only[go_sem,ZG (jc l),qw,hrow]
 rw[aYh,aNr]
 refine AW.le (Le.famI [(1,.v (.int .i64 low)),(2,.pt 40000000 0),(4,.v (.bool false)),(6,.pt 80000000 0),(7,.v (.bool false)),(8,.pt 100000000 0)]
  [(40000000,.own 0 [.v (.int .i64 k),.sl l.length (ql DyV.cs l)]),(80000000,.own 0 [.v (.int .i64 0),.sl 0 []]),(100000000,.own 0 [.v (.int .i64 k),.rf 310000000 0 l.length]),(310000000,.own 3 (ql (dcs 310000001) (prF (fun j=>l.getD j dy0) l.length)))]
  310000001 l.length (zD fun j=>l.getD j dy0) (qI _) rfl (fun q hq=>.inl ?_) (by simp(disch:=omega)only[go_sem,Jj,nmF,jq];try simp) (fun q hq=>?_) (fun j hj=>?_)) ?_
 ·simp only[List.mem_cons,List.not_mem_nil,or_false]at hq
  rcases hq with rfl|rfl|rfl|rfl
  ·show 40000000<310000001;omega
  ·show 80000000<310000001;omega
  ·show 100000000<310000001;omega
  ·show 310000000<310000001;omega
 ·simp only[List.mem_cons,List.not_mem_nil,or_false]at hq
  rcases hq with rfl|rfl|rfl|rfl
  ·refine⟨?_,⟨trivial,trivial,trivial⟩,trivial⟩
   dsimp only
   rw[qh (by omega),qh (by omega),qw (by omega),qh (by omega),qh (by omega),qh (by omega),qq]
  ·refine⟨?_,⟨trivial,trivial,trivial⟩,trivial⟩
   dsimp only
   rw[qh (by omega),qh (by omega),qw (by omega),qh (by omega),qq]
  ·refine⟨?_,⟨trivial,.inl (.inr (.inr (.inr (.inl rfl)))),trivial⟩,trivial⟩
   dsimp only
   rw[qq]
  ·refine⟨?_,zZ fun p hp=>.inr (by have:=ju hp;omega),trivial⟩
   dsimp only
   rw[qh (by omega),qh (by omega),qw (by omega),qq]
 ·dsimp only
  rw[qh (by omega),qh (by omega),qW hj]
 refine AW.front4 ?_
 show @W Tryz.prog 101 ⟨_⟩ ⟨fun x σ=>@yq ⟨_⟩ ⟨_⟩ x σ⟩ _ _
 have hl1:∀j,j<l.length→fam 310000001 l.length (zD fun j=>l.getD j dy0) (ofH [(40000000,.own 0 [.v (.int .i64 k),.sl l.length (ql DyV.cs l)]),(80000000,.own 0 [.v (.int .i64 0),.sl 0 []]),(100000000,.own 0 [.v (.int .i64 k),.rf 310000000 0 l.length]),(310000000,.own 3 (ql (dcs 310000001) (prF (fun j=>l.getD j dy0) l.length)))]) (310000001+j)=zD (fun j=>l.getD j dy0) j:=fun j hj=>qW hj
 simp(disch:=omega)only[go_sem,qw]
 refine qx ci ?_ ?_
 ·show [AV.ag [_,qK _ 5 (.rf 310000000 0 l.length)],_]=_
  rw[X2 (b:=310000001) (by rw[qw (by omega)];rfl) hl1]
  rfl
 rintro r hs ⟨rfl,rfl⟩
 refine⟨by simp[qL],?_⟩
 simp(disch:=omega)only[go_sem,qw,zf]
 refine qn (ceq) ?_
 simp(disch:=omega)only[go_sem]
 refine qv rfl [⟨0,[],[]⟩,⟨1,[0],[]⟩,⟨2,[0],[]⟩,⟨3,[],[]⟩,⟨4,[],[]⟩] (by kernel_rfl) ?_
 simp(disch:=omega)only[go_sem,qw,zf]
 refine qa (cT) ?_
 simp(disch:=omega)only[go_sem]
 refine qx (ads k l hlen (fun d hd=>Nat.le_trans (hxs d hd) (by omega))) ?_ ?_
 ·show [AV.ag [_,qK _ 5 (.rf 310000000 0 l.length)],_]=_
  rw[X2 (b:=310000001) ?_ ?_]
  ·rfl
  ·rw[qh (by omega),qh (by omega),qw (by omega)];rfl
  ·intro j hj
   rw[qh (by omega),qh (by omega),qW hj]
 rintro r hs ⟨rfl,rfl, -⟩
 refine⟨by simp[qL],?_⟩
 simp(disch:=omega)only[go_sem]
 have hkb0:∀i,i≤l.length→kAt 1 (fun j=>l.getD j dy0) i≤2^39:=fun i hi=>by
  rw[ai1]
  have:=JK (f:=fun j=>l.getD j dy0) (i:=i) l.length hi
  omega
 have hx0:∀j,j<l.length→((fun j=>l.getD j dy0) j).xs.length≤1048576:=fun j hj=>Nat.le_trans (agU (f:=fun j=>l.getD j dy0) hj) (by omega)
 have cm0:=YF k (fun j=>l.getD j dy0) l.length 1 hlen hx0 hkb0
 refine AW.regCallG 2 (by simp only[List.take_succ_cons,List.take_zero];rfl) (by simp only[List.drop_succ_cons,List.drop_zero];rfl) (e':=ofL .un [(1,.v (.int .i64 low)),(2,.pt 40000000 0),(4,.v (.bool false)),(6,.pt 80000000 0),(7,.v (.bool false)),(9,.pt 110000000 0),(10,.v (.bool false)),(50,.ag [.v (.int .i64 k),.rf 310000000 0 l.length]),(51,.v (.int .i64 1))])
  (h':=fam 310000001 l.length (zD fun j=>l.getD j dy0) (ofH [(40000000,.own 0 [.v (.int .i64 k),.sl l.length (ql DyV.cs l)]),(80000000,.own 0 [.v (.int .i64 0),.sl 0 []]),(110000000,.own 0 [.v (.int .i64 0),.v (.slice none 0 0)]),(310000000,.own 3 (ql (dcs 310000001) (prF (fun j=>l.getD j dy0) l.length)))])) ?_
  (by decide) rfl rfl (by simp(disch:=omega)only[go_sem]) (by rfl) (ZC 310000000 310000001 l.length 3 (fun j=>l.getD j dy0) (mkd 1 fun j=>l.getD j dy0) _ (.inl (by omega)) ?_ ?_ cm0 ?_ ?_)
 ·simp(disch:=omega)only[go_sem,qw,zf]
  refine Le.famI _ _ _ _ _ (qI _) rfl (fun q hq=>.inl ?_) (by simp(disch:=omega)only[go_sem,Jj,nmF,jq];try simp) (fun q hq=>?_) (fun j hj=>?_)
  ·simp only[List.mem_cons,List.not_mem_nil,or_false]at hq
   rcases hq with rfl|rfl|rfl|rfl<;>(dsimp only;omega)
  ·simp only[List.mem_cons,List.not_mem_nil,or_false]at hq
   rcases hq with rfl|rfl|rfl|rfl
   ·refine⟨?_,⟨trivial,trivial,trivial⟩,trivial⟩
    dsimp only
    rw[qh (by omega),qh (by omega),qw (by omega)];rfl
   ·refine⟨?_,⟨trivial,trivial,trivial⟩,trivial⟩
    dsimp only
    rw[qh (by omega),qh (by omega),qw (by omega)];rfl
   ·refine⟨?_,⟨trivial,trivial,trivial⟩,trivial⟩
    dsimp only
    rw[qq]
   ·refine⟨?_,zZ fun p hp=>.inr (by have:=ju hp;omega),trivial⟩
    dsimp only
    rw[qh (by omega),qh (by omega),qw (by omega)];rfl
  ·dsimp only
   rw[qh (by omega),qh (by omega),qW hj]
 ·rw[qw (by omega)];rfl
 ·intro j hj
  exact qW hj
 ·show [AV.ag [snp _ _ 5 (.v _),snp _ _ 5 (.rf 310000000 0 _)],snp _ _ 6 (.v _)]=_
  rw[J7 (.inl (by omega))]
  simp[snp,qK]
 simp(disch:=omega)only[go_sem,qw,zf]
 have hX0:decide (((kAt 1 (fun j=>l.getD j dy0) l.length:Nat):Int)<0)=false:=decide_eq_false (by omega)
 have ciF:Con Tryz.prog 23 true [.ag [.v (.int .i64 k),.sl l.length (ql DyV.cs l)],.v (.int .i64 low)] [] (isA (.tu [.ag [.v (.int .i64 0),.sl 0 []],.v (.bool false)])):=by
  refine Con.frzAC (ci.mono ?_)
  rintro r hs bs ⟨rfl,rfl⟩
  rfl
 refine W.sound ?_
 show @W Tryz.prog 101 ⟨_⟩ ⟨fun x σ=>@zl _ _ _ ⟨_⟩ _ ⟨_⟩ x σ⟩ _ _
 simp(disch:=omega)only[go_sem,hX0,qw,zf]
 refine qn (ceq) ?_
 simp(disch:=omega)only[go_sem]
 simp(disch:=omega)only[go_sem,show(false != false)=false from rfl,qw,zf]
 refine qn (cm1) ?_
 simp(disch:=omega)only[go_sem]
 simp(disch:=omega)only[go_sem,qw,zf]
 refine qn (chd) ?_
 simp(disch:=omega)only[go_sem]
 simp(disch:=omega)only[go_sem,qw,zf]
 refine qa (cT) ?_
 simp(disch:=omega)only[go_sem]
 refine qn (ciF) ?_
 simp(disch:=omega)only[go_sem]
 simp(disch:=omega)only[go_sem,qw,zf]
 refine qn (ceq) ?_
 simp(disch:=omega)only[go_sem]
 simp(disch:=omega)only[go_sem,show(false != false)=false from rfl,qw,zf]
 refine qn (chd) ?_
 simp(disch:=omega)only[go_sem]
 exact qy
end Go.Ab
namespace Go.Ab
open Go Go.Proofs
def bq4(ok:Bool)(u v:ExV):AV→List Ob→List Ob→Prop:=fun r hs bs=>(lim u.m=[]∧lim v.m=[]∧r=.tu [.ag [.v (.bool u.s),.v (.slice none 0 0),.v (.int .i64 u.e),.v (.bool v.s),.v (.slice none 0 0),.v (.int .i64 v.e)],.v (.bool ok)]∧hs=[])∨(lim u.m=[]∧r=.tu [.ag [.v (.bool u.s),.v (.slice none 0 0),.v (.int .i64 u.e),.v (.bool v.s),.rf 0 0 (lim v.m).length,.v (.int .i64 v.e)],.v (.bool ok)]∧hs=[.own 1 (qg (lim v.m))])∨(lim v.m=[]∧r=.tu [.ag [.v (.bool u.s),.rf 0 0 (lim u.m).length,.v (.int .i64 u.e),.v (.bool v.s),.v (.slice none 0 0),.v (.int .i64 v.e)],.v (.bool ok)]∧hs=[.own 1 (qg (lim u.m))])∨(r=.tu [.ag [.v (.bool u.s),.rf 0 0 (lim u.m).length,.v (.int .i64 u.e),.v (.bool v.s),.rf 1 0 (lim v.m).length,.v (.int .i64 v.e)],.v (.bool ok)]∧hs=[.own 1 (qg (lim u.m)),.own 1 (qg (lim v.m))])
theorem bov{u v:ExV}:ivO u v=bq4 true u v:=rfl
end Go.Ab
namespace Go.Ab
open Go Go.Proofs
theorem av5{x:ExV}(h:x.fit=true):(lim x.can.m).length≤100:=by
 have hff:(QZ (oM x.m)&&(decide (-3000≤oE x.m x.e)&&decide (oE x.m x.e≤3000)))=true:=h
 rw[Bool.and_eq_true]at hff
 have:=hff.1
 unfold QZ at this
 simp at this
 exact this
end Go.Ab
namespace Go.Ab
open Go Go.Proofs
theorem YR(k:Int)(l:List DyV)(low:Int)(hl:l.length≤2^40)(hx:∀d∈l,d.xs.length≤2^39)(h:adH k l=false):Con Tryz.prog 22 false [.ag [.v (.int .i64 k),.sl l.length (ql DyV.cs l)],.v (.int .i64 low)] [] (isA (.tu [.ag [.v (.int .i64 0),.sl 0 []],.v (.bool false)])):=by
 refine Con.frzA ?_
 have cm:Con Tryz.prog 40 false [.ag [.v (.int .i64 k),.sl l.length (ql DyV.cs l)],.v (.int .i64 low)] [] (isA (.v (.bool false))):=by
  refine Con.frzA ?_
  have c:Con Tryz.prog 44 true [.ag [.v (.int .i64 k),.sl l.length (ql DyV.cs l)]] [] (isA (.v (.bool false))):=by
   by_cases h16:l.length≤16
   ·have:=ah3 k l h16 hx
    rwa[h]at this
   ·refine Con.of_w (rs:=[.tmp 2]) Tryz.func44 rfl Tryz.ntmps44 rfl ?_
    simp(disch:=omega)only[go_sem]
    by_cases c1:k<1
    ·simp(disch:=omega)only[go_sem,c1]
     exact qy
    by_cases c2:4<k
    ·simp(disch:=omega)only[go_sem,c1,c2]
     exact qy
    have hq:0≤k*k∧k*k≤16:=⟨Int.mul_nonneg (by omega) (by omega),Int.mul_le_mul (show k≤4 by omega) (show k≤4 by omega) (by omega) (by omega)⟩
    have c3:¬(l.length:Int)=k*k:=by omega
    simp(disch:=omega)only[go_sem,c1,c2,decide_eq_false c3]
    exact qy
  refine Con.of_w (rs:=[.tmp 4]) Tryz.func40 rfl Tryz.ntmps40 rfl ?_
  simp(disch:=omega)only[go_sem]
  refine qn (c) ?_
  simp(disch:=omega)only[go_sem]
  exact qu
 refine Con.of_w (rs:=[.cell 4 53,.tmp 5]) Tryz.func22 rfl Tryz.ntmps22 rfl ?_
 simp(disch:=omega)only[go_sem]
 refine qa (cm) ?_
 simp(disch:=omega)only[go_sem]
 exact qu
theorem YM(k:Int)(M:List DyV)(low:Int)(h1:M.length≤2^40)(h2:∀d∈M,d.xs.length≤2^40)(h:adH k M=false):Con Tryz.prog 51 true [.ag [.v (.int .i64 k),.sl M.length (ql DyV.cs M)],.v (.int .i64 low)] [] (isA (.v (.bool false))):=by
 have c:=adx k M h1 h2
 rw[h]at c
 refine Con.of_w (rs:=[.tmp 4]) Tryz.func51 rfl Tryz.ntmps51 rfl ?_
 simp(disch:=omega)only[go_sem]
 refine qn (c) ?_
 simp(disch:=omega)only[go_sem]
 exact qy
theorem aUa{S:List SpV}(h:S.all SpV.fit=true)(j:Nat):(ivf S j).xs.length≤100:=by
 have key:∀i,(S.getD i sp0).lo.fit=true∧(S.getD i sp0).hi.fit=true:=fun i=>by
  rw[List.getD_eq_getElem?_getD]
  rcases Nat.lt_or_ge i S.length with c|c
  ·rw[List.getElem?_eq_getElem c]
   have:=List.all_eq_true.1 h _ (List.getElem_mem c)
   have:(S[i].lo.fit&&S[i].hi.fit)=true:=this
   rw[Bool.and_eq_true]at this
   exact this
  ·rw[List.getElem?_eq_none c]
   exact⟨aNj ac0,aNj ac0⟩
 obtain⟨h1,h2⟩:=key (j/2)
 unfold ivf
 split
 ·exact av5 h1
 ·exact av5 h2
theorem ahd(k:Int)(l:List DyV)(low:Int)(hl:l.length≤9223372036854775807)(hx:∀x∈l,x.xs.length≤9223372036854775807):Con Tryz.prog 5 true [.ag [.v (.int .i64 k),.sl l.length (ql DyV.cs l)],.v (.int .i64 low)] [] (isA (.v (.bool true))):=by
 by_cases hsz:l.length+smF (fun j=>l.getD j dy0) l.length≤1048576
 ·have hxs:=ag9 hsz
  cases hm:adH k l
  ·exact acG k l low hl hx (YR k l low (by omega) (fun d hd=>Nat.le_trans (hxs d hd) (by omega)) hm)
    (Q0 _ low (YM k l low (by omega) (fun d hd=>Nat.le_trans (hxs d hd) (by omega)) hm) ⟨_,_,_,rfl⟩)
  ·obtain⟨n,L,rfl,rfl,hV⟩:=aZp hm
   have er:(AV.sl (L.map ExV.dyv).length (ql DyV.cs (L.map ExV.dyv)))=.sl L.length (ql ExV.cs L):=by rw[List.length_map,aiH]
   cases ha:api n L low
   ·have cs:=Xg n L low hV ha
    have ca:=Jm n L low hV
    rw[ha]at ca
    have ci:=Q0 _ low ca ⟨_,_,_,rfl⟩
    rw[←er]at cs ci
    exact acG n (L.map ExV.dyv) low hl hx cs ci
   ·have cs:=VZ n L low hV ha
    have ci:=ady n L low hV ha
    have hS:(exH n L low).length=n*n:=yB
    have hT:(exT n L low).length=n*n:=by show(List.map _ _).length=_;rw[List.length_map,hS]
    rw[hT]at cs
    rw[←er]at cs ci
    exact avs n (L.map ExV.dyv) low hl hx n (exH n L low) hS hV.n4 (aUa (ahr hV (QH hV ha))) cs ci
 ·have cz:=Z5 k l 1048576 hl hx (by omega)
  refine Con.of_w (rs:=[.tmp 4]) Tryz.func5 rfl Tryz.ntmps5 rfl ?_
  simp(disch:=omega)only[go_sem]
  refine qx cz (by simp(disch:=omega)only[go_sem]) ?_
  rintro r hs ⟨v,rfl,rfl, -,hv⟩
  refine⟨by simp[qL],?_⟩
  obtain rfl:v= -1:=by
   rcases hv with h|h
   ·exact h
   ·exact absurd h.2 hsz
  simp(disch:=omega)only[go_sem]
  exact qy
end Go.Ab
namespace Go.Proofs.YtodjjilpibnbeaaGreatDoor
open Go.ChangeShapes Go.WideShapes Go.ChangeAt Go.RowKit Go.Ab
theorem own:ownKnob Tryz.prog.godebug=none:=by kernel_rfl
theorem avt:laidOutB Tryz.prog=true:=by kernel_rfl
theorem auc:Tryz.prog.globalNamed "math/bits.deBruijn64tab" =some 1:=by kernel_rfl
theorem aRT:(Tryz.prog.globals[1]?).map (·.type)=some 316:=by kernel_rfl
theorem aRS:Tryz.prog.underlying 316=some (.array 64 5):=by kernel_rfl
theorem aRW:Tryz.prog.underlying 5=some (.int .u8):=by kernel_rfl
theorem aRX:Tryz.prog.cellsOf 5=1:=by kernel_rfl
theorem aRU:Tryz.prog.cellsOf 316=64:=by kernel_rfl
noncomputable def QN:List (String×DataW Unit):=[("math/bits.deBruijn32tab",Rows.laid_math_bits_deBruijn32tab),("math/bits.deBruijn64tab",Rows.laid_math_bits_deBruijn64tab)]
theorem aRV{W:World}(h:laidMetH Tryz.prog QN W):Gd W:=by
 have h':laidMet Tryz.prog QN W:=h
 have h2:laidMet Tryz.prog [("math/bits.deBruijn64tab",Lib.tabData .u8 (Lib.deBruijn64tab.map Int.ofNat))] W:=laidMet.tail h'
 have hT:=Lib.tabIs_of_head auc aRT aRS aRW aRX aRU h2
 intro g l hg
 unfold glb at hg
 split at hg
 ·rename_i e
  subst e
  cases hg
  have hc:∀i,i<Lib.deBruijn64tab.length→W.cell? ⟨1,i,none⟩=some (.int .u8 ((Lib.deBruijn64tab.getD i 0:Nat):Int)):=fun i hi=>by
   have:=hT.cell auc i (by simpa using hi)
   rw[this]
   simp[List.getD,hi]
  exact⟨V2 (hc 0 (by decide)),hc⟩
 ·cases hg
noncomputable def acH(os:Os):World:=
 let w0:=World.holding Tryz.prog os ⟨#[],#[],[]⟩
 {w0 with heap:=(w0.heap.modify 1 fun
   | .cells _ t frozen=>.cells (Lib.deBruijn64tab.map fun z=>Value.int .u8 (Int.ofNat z)).toArray t frozen
   |o=>o).modify 0 fun
   | .cells _ t frozen=>.cells (Lib.deBruijn32tab.map fun z=>Value.int .u8 (Int.ofNat z)).toArray t frozen
   |o=>o}
theorem Vv(os:Os)(args:Array Value):laidMetH Tryz.prog QN ((acH os).forCall (fun _ _=>0) ⟨#[],args,[]⟩).memory:=
 laidMetH_of_parts (laidMet_of_run' 8 (by kernel_rfl) (by kernel_rfl)) (by kernel_rfl)
end Go.Proofs.YtodjjilpibnbeaaGreatDoor
