/- What the proof of this claim stands on: the walks of the functions and the plain laws, part 4. -/
import Derived.Test.YtodjjilpibnbeaaFnExactListTextLib3
set_option linter.unusedVariables false
set_option linter.unusedSimpArgs false
namespace Go.Ab
open Go Go.Proofs
/-! ### Copies of one's own-/
theorem Y3(xs:List Int)(hl:xs.length≤2000000):Con Try.prog 80 false [.sl xs.length (qi xs)] [] (fun r hs bs=>r=.rf 0 0 xs.length∧hs=[.own 1 (qi xs)]):=by
 refine Con.of_aw Try.func80 rfl Try.ntmps80 (by simp) (by simp) (by simp) (W.sound ?_)
 show @W Try.prog 22 ⟨_⟩ ⟨fun x σ=>@q0 _ _ _ ⟨_⟩ _ ⟨_⟩ x σ⟩ _ _
 simp(disch:=omega)only[go_sem]
 refine⟨⟨by omega,by omega,by omega⟩,?_⟩
 refine qd (fun i:Nat=>[(0,.sl xs.length (qi xs)),(3,.rf 90000000 0 xs.length),(4,.v (.int .i64 i))]) (fun i=>[(90000000,.own 1 (qi (xs.take i++List.replicate (xs.length-i) 0)))]) (fun i=>i≤xs.length) (fun i=>xs.length-i) 0 (by omega)
  (Le.lst [] _ _ rfl (by simp(disch:=omega)only[go_sem];try omega) (by simp(disch:=omega)only[go_sem,Je,List.take_zero,List.nil_append,Nat.sub_zero])) ?_
 intro i hi
 simp(disch:=omega)only[go_sem]
 refine qe (fun h1=>?_) (fun h1=>?_)
 ·simp(disch:=omega)only[go_sem,h1]
  have el:(xs.take i++List.replicate (xs.length-i) 0).length=xs.length:=by rw[List.length_append,List.length_take,List.length_replicate];omega
  refine⟨by omega,by omega,by omega,by omega,qc (i+1) [] (by show i+1≤_;omega) (by show xs.length-(i+1)<xs.length-i;omega) rfl (by simp(disch:=omega)only[go_sem];try omega) (by simp(disch:=omega)only[go_sem,Xu (by omega:i<xs.length)])⟩
 ·have:i=xs.length:=by omega
  subst this
  simp(disch:=omega)only[go_sem,h1]
  refine qb [(0,90000000)] [.own 1 (qi xs)] [] [.rf 0 0 xs.length] rfl (by simp(disch:=omega)only[go_sem]) (by simp(disch:=omega)only[go_sem,List.take_length,Nat.sub_self,List.replicate_zero,List.append_nil]) (by simp) (by simp) ⟨rfl,rfl⟩
theorem VK(xs:List Int)(hl:xs.length≤2000000):Con Try.prog 65 false [.ag [.sl xs.length (qi xs)]] [] (fun r hs bs=>r=.ag [.rf 0 0 xs.length]∧hs=[.own 1 (qi xs)]):=by
 refine Con.of_aw Try.func65 rfl Try.ntmps65 (by simp) (by simp) (by simp) (W.sound ?_)
 show @W Try.prog 9 ⟨_⟩ ⟨fun x σ=>@q0 _ _ _ ⟨_⟩ _ ⟨_⟩ x σ⟩ _ _
 simp(disch:=omega)only[go_sem]
 refine qD (Y3 xs hl) (by simp(disch:=omega)only[go_sem]) ?_
 rintro r hs ⟨rfl,rfl⟩
 refine⟨by simp[qv];simp(disch:=omega)only[go_sem],?_⟩
 simp(disch:=omega)only[go_sem]
 refine qb [(0,80000000)] [.own 1 (qi xs)] [] [.ag [.rf 0 0 xs.length]] rfl (by simp(disch:=omega)only[go_sem]) (by simp(disch:=omega)only[go_sem]) (by simp) (by simp) ⟨rfl,rfl⟩
theorem J5(s:Bool)(xs:List Int)(hl:xs.length≤2000000):Con Try.prog 47 false [.ag [.v (.bool s),.sl xs.length (qi xs)]] [] (fun r hs bs=>r=.ag [.v (.bool s),.rf 0 0 xs.length]∧hs=[.own 1 (qi xs)]):=by
 refine Con.of_aw Try.func47 rfl Try.ntmps47 (by simp) (by simp) (by simp) (W.sound ?_)
 show @W Try.prog 12 ⟨_⟩ ⟨fun x σ=>@q0 _ _ _ ⟨_⟩ _ ⟨_⟩ x σ⟩ _ _
 simp(disch:=omega)only[go_sem]
 refine qD (VK xs hl) (by simp(disch:=omega)only[go_sem]) ?_
 rintro r hs ⟨rfl,rfl⟩
 refine⟨by simp[qv];simp(disch:=omega)only[go_sem],?_⟩
 simp(disch:=omega)only[go_sem]
 refine qb [(0,110000000)] [.own 1 (qi xs)] [] [.ag [.v (.bool s),.rf 0 0 xs.length]] rfl (by simp(disch:=omega)only[go_sem]) (by simp(disch:=omega)only[go_sem]) (by simp) (by simp) ⟨rfl,rfl⟩
theorem abv(s:Bool)(xs:List Int)(e:Int)(hl:xs.length≤2000000):Con Try.prog 30 false [.ag [.v (.bool s),.sl xs.length (qi xs),.v (.int .i64 e)]] [] (fun r hs bs=>r=.ag [.v (.bool s),.rf 0 0 xs.length,.v (.int .i64 e)]∧hs=[.own 1 (qi xs)]):=by
 refine Con.of_aw Try.func30 rfl Try.ntmps30 (by simp) (by simp) (by simp) (W.sound ?_)
 show @W Try.prog 12 ⟨_⟩ ⟨fun x σ=>@q0 _ _ _ ⟨_⟩ _ ⟨_⟩ x σ⟩ _ _
 simp(disch:=omega)only[go_sem]
 refine qD (J5 s xs hl) (by simp(disch:=omega)only[go_sem]) ?_
 rintro r hs ⟨rfl,rfl⟩
 refine⟨by simp[qv];simp(disch:=omega)only[go_sem],?_⟩
 simp(disch:=omega)only[go_sem]
 refine qb [(0,80000000)] [.own 1 (qi xs)] [] [.ag [.v (.bool s),.rf 0 0 xs.length,.v (.int .i64 e)]] rfl (by simp(disch:=omega)only[go_sem]) (by simp(disch:=omega)only[go_sem]) (by simp) (by simp) ⟨rfl,rfl⟩
/-! ### Marks-/
def mkI(k n:Nat):List Int:=(List.range n).map fun i=>((k+i:Nat):Int)
theorem YL(k n:Nat):(mkI k n).length=n:=by simp[mkI]
theorem aed(k n:Nat):mkI k (n+1)=mkI k n++[((k+n:Nat):Int)]:=by simp[mkI,List.range_succ]
theorem aiq{k i:Nat}{xs:List Int}(h:i<xs.length):(mkI k i++xs.drop i).set i ((k+i:Nat):Int)=mkI k (i+1)++xs.drop (i+1):=by
 have hl:=YL k i
 rw[List.set_append_right _ _ (by omega),hl,Nat.sub_self,List.drop_eq_getElem_cons h,List.set_cons_zero,aed]
 simp
theorem J9(k:Nat)(xs:List Int)(hn:xs.length≤2^40)(hk:k≤2^40):Con Try.prog 33 false [.rf 10000000 0 xs.length,.v (.int .i64 k)] [.own 1 (qi xs)]
  (fun r hs bs=>r=.v (.int .i64 ((k+xs.length:Nat):Int))∧hs=[]∧bs=[.own 1 (qi (mkI k xs.length))]):=by
 refine Con.of_aw Try.func33 rfl Try.ntmps33 (by simp) (by simp) (by simp) (W.sound ?_)
 show @W Try.prog 19 ⟨_⟩ ⟨fun x σ=>@q0 _ _ _ ⟨_⟩ _ ⟨_⟩ x σ⟩ _ _
 simp(disch:=omega)only[go_sem]
 refine qd (fun i:Nat=>[(0,.rf 10000000 0 xs.length),(1,.v (.int .i64 ((k+i:Nat):Int))),(5,.v (.int .i64 i))]) (fun i=>[(10000000,.own 1 (qi (mkI k i++xs.drop i)))]) (fun i=>i≤xs.length) (fun i=>xs.length-i) 0 (by omega)
  (Le.lst [] _ _ rfl (by simp(disch:=omega)only[go_sem,Nat.add_zero]) (by simp(disch:=omega)only[go_sem,List.drop_zero];try rfl)) ?_
 intro i hi
 simp(disch:=omega)only[go_sem]
 refine qe (fun h1=>?_) (fun h1=>?_)
 ·have hlen:(mkI k i++xs.drop i).length=xs.length:=by
   rw[List.length_append,YL,List.length_drop];omega
  have hs:=aiq (k:=k) (i:=i) (xs:=xs) (by omega)
  have e1:((k+i:Nat):Int)+1=((k+(i+1):Nat):Int):=by omega
  simp(disch:=omega)only[go_sem,h1]
  refine⟨by omega,by omega,qc (i+1) [] (by show i+1≤_;omega) (by show xs.length-(i+1)<xs.length-i;omega) rfl (by simp(disch:=omega)only[go_sem,e1];try omega) (by simp(disch:=omega)only[go_sem,hs])⟩
 ·have:i=xs.length:=by omega
  subst this
  simp(disch:=omega)only[go_sem,h1]
  refine qb [] [] [.own 1 (qi (mkI k xs.length))] [.v (.int .i64 ((k+xs.length:Nat):Int))] rfl (by simp(disch:=omega)only[go_sem]) (by simp(disch:=omega)only[go_sem,List.drop_length,List.append_nil]) (by simp) (by simp) ⟨rfl,rfl,rfl⟩
end Go.Ab
namespace Go.Ab
open Go Go.Proofs
/-! ### A row of numbers,each with limbs of its own-/
def dcs(b:Nat)(p:Nat×DyV):List AV:=[.v (.bool p.2.s),.rf (b+p.1) 0 p.2.xs.length,.v (.int .i64 p.2.e)]
theorem apB(b:Nat)(p:Nat×DyV):(dcs b p).length=3:=rfl
def prs(l:List DyV)(i:Nat):List (Nat×DyV):=(List.range i).map fun j=>(j,l.getD j dy0)
theorem aab{l:List DyV}{i:Nat}:(prs l i).length=i:=by simp[prs]
theorem adx{l:List DyV}{i:Nat}:prs l (i+1)=prs l i++[(i,l.getD i dy0)]:=by simp[prs,List.range_succ]
theorem y6{l:List DyV}{i:Nat}{p:Nat×DyV}(h:p∈prs l i):p.1<i:=by
 obtain⟨j,hj,rfl⟩:=List.mem_map.1 h
 exact List.mem_range.1 hj
def aaD(l:List DyV)(j:Nat):Ob:=.own 1 (qi (l.getD j dy0).xs)
theorem zV{a b:Nat}{ρ:Nat→Nat}:∀{L:List (Nat×DyV)},(∀p∈L,ρ (a+p.1)=b+p.1)→qL ρ (qj (dcs a) L)=qj (dcs b) L
 | [],_=>rfl
 |p::L,h=>by
  rw[qF,qF,j2,zV fun q hq=>h q (List.mem_cons_of_mem _ hq)]
  congr 1
  show [_,AV.rf (ρ (a+p.1)) 0 _,_]=_
  rw[h p (List.mem_cons_self ..)];rfl
theorem abr{b:Nat}{ρ:Nat→Nat}{L:List (Nat×DyV)}(h:∀p∈L,ρ (b+p.1)=b+p.1):qL ρ (qj (dcs b) L)=qj (dcs b) L:=zV h
theorem zO{b:Nat}{q:Nat→Prop}:∀{L:List (Nat×DyV)},(∀p∈L,q (b+p.1))→AllL q (qj (dcs b) L)
 | [],_=>trivial
 |p::L,h=>by
  rw[qF]
  have:=zO fun r hr=>h r (List.mem_cons_of_mem p hr)
  exact⟨trivial,h p (List.mem_cons_self ..),trivial,this⟩
theorem adw{l:List DyV}:prs l 0=[]:=rfl
theorem q2(l:List DyV)(j:Nat):K9 (aaD l j):=⟨trivial,fun ρ=>by show Ob.own 1 (qL ρ (qi _))=_;rw[j1];rfl,fun p=>by show AllL p (qi _);exact j5⟩
theorem abt{b:Nat}{L:List (Nat×DyV)}:(qj (dcs b) L).length=L.length*3:=zD (apB b)
theorem aeZ{b:Nat}{L:List (Nat×DyV)}{k j:Nat}{d:DyV}{c:Nat}:wr (qj (dcs b) L++zb (k+1) z3) (L.length*3) [.v (.bool d.s),.rf c 0 d.xs.length,.v (.int .i64 d.e)]=qj (dcs b) L++([.v (.bool d.s),.rf c 0 d.xs.length,.v (.int .i64 d.e)]++zb k z3):=by
 have h:=adl (X:=List AV) (f:=fun x=>x.take 3++List.replicate (3-x.length) .un) (z:=3) (zs:=z3) (fun x=>by rw[List.length_append,List.length_take,List.length_replicate];omega) rfl (L:=L.map (dcs b)) (k:=k) [.v (.bool d.s),.rf c 0 d.xs.length,.v (.int .i64 d.e)]
 have e:qj (fun x:List AV=>x.take 3++List.replicate (3-x.length) .un) (L.map (dcs b))=qj (dcs b) L:=by
  unfold qj
  rw[List.map_map];rfl
 have e2:qj (fun x:List AV=>x.take 3++List.replicate (3-x.length) .un) (L.map (dcs b)++[[.v (.bool d.s),.rf c 0 d.xs.length,.v (.int .i64 d.e)]])=qj (dcs b) L++[.v (.bool d.s),.rf c 0 d.xs.length,.v (.int .i64 d.e)]:=by
  unfold qj
  rw[List.map_append,List.flatten_append,List.map_map];rfl
 rw[e,e2,List.length_map,List.append_assoc]at h
 exact h
set_option maxRecDepth 100000 in
theorem jF(l:List DyV)(hl:l.length≤1048576)(hx:∀d∈l,d.xs.length≤1048576):Con Try.prog 8 false [.sl l.length (qj DyV.cs l)] []
  (fun r hs bs=>r=.rf 0 0 l.length∧hs=.own 3 (qj (dcs 1) (prs l l.length))::(List.range l.length).map (aaD l)):=by
 refine Con.of_w (rs:=[.tmp 2]) Try.func8 rfl Try.ntmps8 rfl ?_
 simp(disch:=omega)only[go_sem]
 refine⟨⟨by omega,by omega,by omega⟩,?_⟩
 refine Qc (S:=fun i:Nat=>⟨ofL .un [(0,.sl l.length (qj DyV.cs l)),(3,.rf 90000000 0 l.length),(4,.v (.int .i64 i))],fam 500000000 i (aaD l) (ofH [(90000000,.own 3 (qj (dcs 500000000) (prs l i)++zb (l.length-i) z3))])⟩) (fun i=>i≤l.length) (fun i=>l.length-i) 0 (by omega)
  (Le.fam0 _ _ _ _ (Le.lst [] _ _ rfl (by simp(disch:=omega)only[go_sem]) (by simp(disch:=omega)only[go_sem,adw,yn,List.nil_append,Nat.sub_zero];try rfl))) ?_
 intro i hi
 show @W Try.prog 23 ⟨_⟩ ⟨_⟩ (ofL .un _) (fam 500000000 i (aaD l) (ofH _))
 simp(disch:=omega)only[go_sem]
 refine qe (fun c1=>?_) (fun c1=>?_)
 ·have hi2:i<l.length:=by omega
  have hcut:=ZT (l:=l) (i:=i) hi2
  have hdm:(l.getD i dy0).xs.length≤1048576:=hx _ (by rw[List.getD_eq_getElem?_getD,List.getElem?_eq_getElem hi2];exact List.getElem_mem _)
  obtain⟨k,hk⟩:∃k,l.length-i=k+1:=⟨l.length-i-1,by omega⟩
  have hfill:=@aeZ 500000000 (prs l i) k i (l.getD i dy0) 220000000
  rw[aab]at hfill
  have hps:=@adx l i
  have hLi:aaD l i=.own 1 (qi (l.getD i dy0).xs):=rfl
  generalize l.getD i dy0=d at*
  rw[hk]
  simp(disch:=omega)only[go_sem,c1,hcut,qr]
  refine⟨by omega,by omega,?_⟩
  refine qD (abv d.s d.xs d.e (by omega)) (by simp(disch:=omega)only[go_sem]) ?_
  rintro r hs ⟨rfl,rfl⟩
  refine⟨by simp[qv];simp(disch:=omega)only[go_sem,qr],?_⟩
  simp(disch:=omega)only[go_sem,qr,hfill]
  have hrow:qL (ZM 500000000 i 220000000) (qj (dcs 500000000) (prs l (i+1))++zb k z3)=qj (dcs 500000000) (prs l i)++ .v (.bool d.s):: .rf 220000000 0 d.xs.length:: .v (.int .i64 d.e)::zb k z3:=by
   rw[hps,←y4,List.append_assoc,j2,abr (fun p hp=>j6 (by have:=y6 hp;omega)),j2]
   show _++([_,AV.rf (ZM 500000000 i 220000000 (500000000+i)) 0 _,_]++qL _ (zb k z3))=_
   rw[js,afI]
   rfl
  have hall:AllL (nmF [90000000] 500000000 (i+1)) (qj (dcs 500000000) (prs l (i+1))++zb k z3):=by
   rw[XQ]
   exact⟨zO fun p hp=>.inr (by have:=y6 hp;omega),of_eq_true afK⟩
  have r9:ZM 500000000 i 220000000 90000000=90000000:=j6 (by omega)
  refine⟨⟨by omega,by omega⟩,by rw[List.length_append,abt,aab,afJ];omega,Qb (i+1) (by show i+1≤_;omega) (by show l.length-(i+1)<k+1;omega) (Le.grow 220000000 _ _ 500000000 i (aaD l) (by omega) (q2 l) (fun j hj=>?_) ?_ (by omega) (by simp) rfl (by simp) (by simp(disch:=omega)only[go_sem,JM,r9,nmF,zS];try omega) ?_)⟩
  ·show upd (upd (fam _ _ _ _) _ _) _ _ _=_
   rw[qg (by omega),qg (by omega),zk hj]
  ·dsimp only
   rw[qg (by omega),qf]
   exact hLi.symm
  ·refine⟨⟨?_,?_,trivial⟩,trivial⟩
   ·rw[r9,show l.length-(i+1)=k by omega]
    dsimp only
    rw[qf]
    exact congrArg (Ob.own 3) hrow
   ·rw[show l.length-(i+1)=k by omega]
    exact hall
 ·simp(disch:=omega)only[go_sem,c1]
  obtain rfl:i=l.length:=by omega
  rw[Nat.sub_self]
  refine abc (fun m=>if m=0 then 90000000 else 500000000+(m-1)) (.own 3 (qj (dcs 1) (prs l l.length))) l.length (aaD l) [.rf 0 0 l.length] (by omega) (by simp(disch:=omega)only[go_sem,aiA,nmF,zS];try simp) ⟨?_,?_,trivial⟩ (fun j hj=>⟨?_,(q2 l j).2.2 _,(q2 l j).1⟩) (fun m hm=>?_) (fun m m' hm hm' e=>?_) (by simp) ⟨rfl,rfl⟩
  ·show Ob.own 3 (qL _ (qj (dcs 1) (prs l l.length)))=fam 500000000 l.length (aaD l) (ofH [(90000000,.own 3 (qj (dcs 500000000) (prs l l.length)++zb 0 z3))]) 90000000
   rw[zV (a:=1) (b:=500000000) (fun p hp=>by rw[if_neg (by omega)];omega),qr (by omega),akE,List.append_nil]
   rfl
  ·exact zO fun p hp=>.inr (by have:=y6 hp;omega)
  ·rw[(q2 l j).2.1]
   show _=fam _ _ _ _ (if 1+j=0 then 90000000 else 500000000+(1+j-1))
   rw[if_neg (by omega),show 1+j-1=j by omega,zk hj]
  ·have g:∀x:Nat,20000000≤x→qY x=false:=fun x hx=>by
    unfold qY
    have:Nat.blt x 20000000=false:=by
     cases h:Nat.blt x 20000000 with
     |false=>rfl
     |true=>simp[Nat.blt]at h;omega
    rw[this,Bool.and_false]
   exact g _ (by split<;>omega)
  ·have e:(if m=0 then 90000000 else 500000000+(m-1))=(if m'=0 then 90000000 else 500000000+(m'-1)):=e
   split at e<;>split at e<;>omega
end Go.Ab
namespace Go.Ab
open Go Go.Proofs
/-! ### Texts of numbers-/
def txs(l:List DyV)(i:Nat):List (List UInt8):=(l.take i).map DyV.txt
theorem Zl{l:List DyV}{i:Nat}(h:i≤l.length):(txs l i).length=i:=by unfold txs;rw[List.length_map,List.length_take];omega
theorem Xp{l:List DyV}{i:Nat}(h:i<l.length):txs l (i+1)=txs l i++[(l.getD i dy0).txt]:=by
 unfold txs
 rw[List.take_add_one,List.getElem?_eq_getElem h,List.map_append,List.getD_eq_getElem?_getD,List.getElem?_eq_getElem h];rfl
theorem agm{l:List DyV}:txs l l.length=l.map DyV.txt:=by unfold txs;rw[List.take_length]
def apH(B:List UInt8):AV→List Ob→List Ob→Prop:=fun r hs bs=>∃zs,r=.tu [.rf 0 0 B.length,.v (.bool true)]∧hs=[.own 1 (qa (B++zs))]
def apI:AV→List Ob→List Ob→Prop:=fun r hs bs=>r=.tu [.v (.slice none 0 0),.v (.bool false)]∧hs=[]
theorem ajt{s:Bool}{m:Nat}{e:Int}:yC s m e≠[]:=by
 unfold yC
 intro h
 have h2:=(List.append_eq_nil_iff.1 h).2
 split at h2
 ·exact Jh _ h2
 ·unfold ptT at h2
  have:=(List.append_eq_nil_iff.1 h2).2
  cases this
set_option maxRecDepth 100000 in
theorem Y4(l:List DyV)(hl:l.length≤20)(hx:∀d∈l,d.xs.length≤2^40)(hm:∀d∈l,d.may=true):Con Try.prog 31 true [.sl l.length (qj DyV.cs l)] [] (apH (zT (l.map DyV.txt))):=by
 have hne:∀t∈l.map DyV.txt,t≠[]∧t.length≤1000000:=fun t ht=>by
  obtain⟨d,hd,rfl⟩:=List.mem_map.1 ht
  obtain⟨m,_,a1,a2,a3⟩:=ZB (hm d hd)
  rw[a3]
  exact⟨ajt,Nat.le_trans (ZW a1 a2) (by omega)⟩
 have cj:=afa [32] (l.map DyV.txt) (by simp) (by rw[List.length_map];omega) hne
 rw[aiE,List.length_map]at cj
 refine Con.of_aw Try.func31 rfl Try.ntmps31 (by simp) (by simp) (by simp) (W.sound ?_)
 show @W Try.prog 31 ⟨_⟩ ⟨fun x σ=>@q0 _ _ _ ⟨_⟩ _ ⟨_⟩ x σ⟩ _ _
 simp(disch:=omega)only[go_sem]
 refine qd (fun i:Nat=>[(2,.v (.slice none 0 0)),(3,.v (.bool false)),(4,.rf 1 0 i),(9,.sl l.length (qj DyV.cs l)),(10,.v (.int .i64 l.length)),(11,.v (.int .i64 i))])
  (fun i=>[(1,.own 1 (qj tcs (txs l i)))]) (fun i=>i≤l.length) (fun i=>l.length-i) 0 (by omega)
  ((Le.ghost 4 1 1 (by simp(disch:=omega)only[go_sem]) (by simp(disch:=omega)only[go_sem])).trans (Le.lst [] _ _ rfl (by simp(disch:=omega)only[go_sem]) (by simp(disch:=omega)only[go_sem,show qj tcs (txs l 0)=[] from rfl]))) ?_
 intro i hi
 simp(disch:=omega)only[go_sem]
 refine qe (fun h1=>?_) (fun h1=>?_)
 ·have hi2:i<l.length:=by omega
  have hci:=ZT (l:=l) (i:=i) hi2
  have hcut:=Yu (Zl hi)
  rw[Nat.mul_one]at hcut
  have hml:=Zl hi
  have hs:=Xp hi2
  have hmem:l.getD i dy0∈l:=by rw[List.getD_eq_getElem?_getD,List.getElem?_eq_getElem hi2];exact List.getElem_mem _
  have hd:=hx _ hmem
  have hmy:=hm _ hmem
  generalize l.getD i dy0=d at*
  have ct:=Zf d.s d.xs d.e hd
  have hmy2:Ym d.s d.xs d.e=true:=hmy
  have htx:aay d.s d.xs d.e=d.txt:=by unfold aay;rw[hmy2,if_pos rfl];rfl
  rw[hmy2,htx]at ct
  generalize d.txt=u at*
  simp(disch:=omega)only[go_sem,h1,hci]
  refine⟨by omega,by omega,?_⟩
  refine qk (ct) ?_
  simp(disch:=omega)only[go_sem]
  simp(disch:=omega)only[go_sem,hcut,Xs]
  exact⟨⟨by omega,by omega⟩,qc (i+1) [(1,270000000)] (by show i+1≤_;omega) (by show l.length-(i+1)<l.length-i;omega) rfl (by simp(disch:=omega)only[go_sem];try omega) (by simp(disch:=omega)only[go_sem,hs])⟩
 ·simp(disch:=omega)only[go_sem,h1]
  obtain rfl:i=l.length:=by omega
  rw[agm]
  have hcut:=Yu (l:=l.map DyV.txt) (k:=l.length) (List.length_map ..)
  rw[Nat.mul_one]at hcut
  refine qP (z:=1) (cs:=qa [32]) trivial ⟨_,tf5,rfl⟩ (by simp(disch:=omega)only[go_sem,q6];rfl) (by omega) ?_
  simp(disch:=omega)only[go_sem]
  refine qh cj ?_ ?_
  ·simp(disch:=omega)only[go_sem,hcut]
   rfl
  rintro r hs ⟨zs,rfl,rfl⟩
  refine⟨by simp[qv];try simp(disch:=omega)only[go_sem],?_⟩
  simp(disch:=omega)only[go_sem]
  refine qb [(0,320000000)] [.own 1 (qa (zT (l.map DyV.txt)++zs))] [] [.rf 0 0 (zT (l.map DyV.txt)).length,.v (.bool true)] rfl (by simp(disch:=omega)only[go_sem]) (by simp(disch:=omega)only[go_sem]) (by simp) (by intro _;simp[qE,AV.pu,AV.pu.puL,Ob.pu,qI]) ⟨zs,rfl,rfl⟩
theorem J7(l:List DyV)(hl:l.length≤20)(hx:∀d∈l,d.xs.length≤2^40)(hm:l.all DyV.may=false):Con Try.prog 31 true [.sl l.length (qj DyV.cs l)] [] apI:=by
 refine Con.of_aw Try.func31 rfl Try.ntmps31 (by simp) (by simp) (by simp) (W.sound ?_)
 show @W Try.prog 31 ⟨_⟩ ⟨fun x σ=>@q0 _ _ _ ⟨_⟩ _ ⟨_⟩ x σ⟩ _ _
 simp(disch:=omega)only[go_sem]
 refine qd (fun i:Nat=>[(2,.v (.slice none 0 0)),(3,.v (.bool false)),(4,.rf 1 0 i),(9,.sl l.length (qj DyV.cs l)),(10,.v (.int .i64 l.length)),(11,.v (.int .i64 i))])
  (fun i=>[(1,.own 1 (qj tcs (txs l i)))]) (fun i=>i≤l.length∧∀d∈l.take i,d.may=true) (fun i=>l.length-i) 0 ⟨by omega,by simp⟩
  ((Le.ghost 4 1 1 (by simp(disch:=omega)only[go_sem]) (by simp(disch:=omega)only[go_sem])).trans (Le.lst [] _ _ rfl (by simp(disch:=omega)only[go_sem]) (by simp(disch:=omega)only[go_sem,show qj tcs (txs l 0)=[] from rfl]))) ?_
 rintro i ⟨hi,hp⟩
 simp(disch:=omega)only[go_sem]
 refine qe (fun h1=>?_) (fun h1=>?_)
 ·have hi2:i<l.length:=by omega
  have hci:=ZT (l:=l) (i:=i) hi2
  have hcut:=Yu (Zl hi)
  rw[Nat.mul_one]at hcut
  have hml:=Zl hi
  have hs:=Xp hi2
  have hmem:l.getD i dy0∈l:=by rw[List.getD_eq_getElem?_getD,List.getElem?_eq_getElem hi2];exact List.getElem_mem _
  have hd:=hx _ hmem
  have htk:l.take (i+1)=l.take i++[l.getD i dy0]:=by
   rw[List.take_add_one,List.getElem?_eq_getElem hi2,List.getD_eq_getElem?_getD,List.getElem?_eq_getElem hi2];rfl
  generalize l.getD i dy0=d at*
  have ct:=Zf d.s d.xs d.e hd
  have hdm:Ym d.s d.xs d.e=d.may:=rfl
  rw[hdm]at ct
  cases hmy:d.may
  ·rw[hmy]at ct
   generalize aay d.s d.xs d.e=u at*
   simp(disch:=omega)only[go_sem,h1,hci]
   refine⟨by omega,by omega,?_⟩
   refine qk (ct) ?_
   simp(disch:=omega)only[go_sem]
   refine qb [] [] [] [.v (.slice none 0 0),.v (.bool false)] rfl (by simp(disch:=omega)only[go_sem]) (by simp(disch:=omega)only[go_sem]) (by simp) (by intro _;simp[qE,AV.pu,AV.pu.puL,Ob.pu]) ⟨rfl,rfl⟩
  ·rw[hmy]at ct
   have htx:aay d.s d.xs d.e=d.txt:=by unfold aay;rw[hdm,hmy,if_pos rfl];rfl
   rw[htx]at ct
   generalize d.txt=u at*
   simp(disch:=omega)only[go_sem,h1,hci]
   refine⟨by omega,by omega,?_⟩
   refine qk (ct) ?_
   simp(disch:=omega)only[go_sem]
   simp(disch:=omega)only[go_sem,hcut,Xs]
   refine⟨⟨by omega,by omega⟩,qc (i+1) [(1,270000000)] ⟨by show i+1≤_;omega,fun y hy=>?_⟩ (by show l.length-(i+1)<l.length-i;omega) rfl (by simp(disch:=omega)only[go_sem];try omega) (by simp(disch:=omega)only[go_sem,hs])⟩
   rw[htk]at hy
   rcases List.mem_append.1 hy with h|h
   ·exact hp y h
   ·rw[List.mem_singleton.1 h];exact hmy
 ·exfalso
  obtain rfl:i=l.length:=by omega
  rw[List.take_length]at hp
  rw[List.all_eq_true.2 hp]at hm
  cases hm
theorem Z1(l:List DyV)(hx:∀d∈l,d.xs.length≤2^40)(h:lsB l=true):Con Try.prog 9 true [.sl l.length (qj DyV.cs l)] [] (apH (lsT l)):=by
 have hb:=h
 unfold lsB at hb
 rw[Bool.and_eq_true,decide_eq_true_eq]at hb
 have ct:=Y4 l hb.1 hx (List.all_eq_true.1 hb.2)
 have e:zT (l.map DyV.txt)=lsT l:=by unfold lsT;rw[h,if_pos rfl]
 rw[e]at ct
 generalize lsT l=T at*
 have hlen:=hb.1
 refine Con.of_aw Try.func9 rfl Try.ntmps9 (by simp) (by simp) (by simp) (W.sound ?_)
 show @W Try.prog 11 ⟨_⟩ ⟨fun x σ=>@q0 _ _ _ ⟨_⟩ _ ⟨_⟩ x σ⟩ _ _
 simp(disch:=omega)only[go_sem,decide_eq_false (show ¬(20:Int)<(l.length:Int) by omega)]
 refine qh ct (by simp(disch:=omega)only[go_sem]) ?_
 rintro r hs ⟨zs,rfl,rfl⟩
 refine⟨by simp[qv];try simp(disch:=omega)only[go_sem],?_⟩
 simp(disch:=omega)only[go_sem]
 refine qb [(0,100000000)] [.own 1 (qa (T++zs))] [] [.rf 0 0 T.length,.v (.bool true)] rfl (by simp(disch:=omega)only[go_sem]) (by simp(disch:=omega)only[go_sem]) (by simp) (by intro _;simp[qE,AV.pu,AV.pu.puL,Ob.pu,qI]) ⟨zs,rfl,rfl⟩
theorem Z3(l:List DyV)(hl:l.length≤2^40)(hx:∀d∈l,d.xs.length≤2^40)(h:lsB l=false):Con Try.prog 9 true [.sl l.length (qj DyV.cs l)] [] apI:=by
 by_cases h20:l.length≤20
 ·have hm:l.all DyV.may=false:=by unfold lsB at h;rwa[decide_eq_true h20,Bool.true_and]at h
  have ct:=J7 l h20 hx hm
  refine Con.of_aw Try.func9 rfl Try.ntmps9 (by simp) (by simp) (by simp) (W.sound ?_)
  show @W Try.prog 11 ⟨_⟩ ⟨fun x σ=>@q0 _ _ _ ⟨_⟩ _ ⟨_⟩ x σ⟩ _ _
  simp(disch:=omega)only[go_sem,decide_eq_false (show ¬(20:Int)<(l.length:Int) by omega)]
  refine qh ct (by simp(disch:=omega)only[go_sem]) ?_
  rintro r hs ⟨rfl,rfl⟩
  refine⟨by simp[qv];try simp(disch:=omega)only[go_sem],?_⟩
  simp(disch:=omega)only[go_sem]
  refine qb [] [] [] [.v (.slice none 0 0),.v (.bool false)] rfl (by simp(disch:=omega)only[go_sem]) (by simp(disch:=omega)only[go_sem]) (by simp) (by intro _;simp[qE,AV.pu,AV.pu.puL,Ob.pu]) ⟨rfl,rfl⟩
 ·refine Con.of_aw Try.func9 rfl Try.ntmps9 (by simp) (by simp) (by simp) (W.sound ?_)
  show @W Try.prog 11 ⟨_⟩ ⟨fun x σ=>@q0 _ _ _ ⟨_⟩ _ ⟨_⟩ x σ⟩ _ _
  simp(disch:=omega)only[go_sem,decide_eq_true (show(20:Int)<(l.length:Int) by omega)]
  refine qb [] [] [] [.v (.slice none 0 0),.v (.bool false)] rfl (by simp(disch:=omega)only[go_sem]) (by simp(disch:=omega)only[go_sem]) (by simp) (by intro _;simp[qE,AV.pu,AV.pu.puL,Ob.pu]) ⟨rfl,rfl⟩
end Go.Ab
namespace Go.Ab
open Go Go.Proofs
end Go.Ab
namespace Go.Ab
open Go Go.Proofs
end Go.Ab
namespace Go.Ab
open Go Go.Proofs
def muS(k1:Int)(s1:Bool)(m1:Int)(k2:Int)(s2:Bool)(m2:Int):Bool:=((s1&&decide (k1=1)) != (s2&&decide (k2=1)))&&decide (m1.toNat*m2.toNat≠0)
def arI(k1:Int)(s1:Bool)(m1 e1 k2:Int)(s2:Bool)(m2 e2 mode:Int):FlV:=
 if(decide (k1=3)||decide (k2=3))=true then⟨3,false,0,0⟩
 else if(decide (k1=2)||decide (k2=2))=true then(if(decide (k1=0)||decide (k2=0))=true then⟨3,false,0,0⟩else⟨2,s1 != s2,0,0⟩)
 else flV (muS k1 s1 m1 k2 s2 m2) (m1.toNat*m2.toNat) (e1+e2) mode (s1 != s2)
def arJ(k1:Int)(s1:Bool)(m1 e1 k2:Int)(s2:Bool)(m2 e2 mode:Int):Int:=
 if(decide (k1=3)||decide (k2=3))=true then 0
 else if(decide (k1=2)||decide (k2=2))=true then(if(decide (k1=0)||decide (k2=0))=true then 16 else 0)
 else flG (muS k1 s1 m1 k2 s2 m2) (m1.toNat*m2.toNat) (e1+e2) mode
end Go.Ab
namespace Go.Ab
open Go Go.Proofs
section
variable {k1:Int}{s1:Bool}{m1 e1 k2:Int}{s2:Bool}{m2 e2 mode:Int}
end
end Go.Ab
namespace Go.Ab
open Go Go.Proofs
def amd(m:Nat):Bool:=decide ((lim m).length≤100)
def apy(m:Nat)(e:Int):Bool:=amd (oM m)&&(decide (-3000≤oE m e)&&decide (oE m e≤3000))
end Go.Ab
namespace Go.Ab
/-! ### Sums of floats-/
def ngS(k:Int)(s:Bool):Bool:=if k=3 then s else !s
def xS(k:Int)(s:Bool):Bool:=s&&decide (k=1)
def adZ(k1:Int)(s1:Bool)(k2:Int)(s2:Bool)(mode:Int):Bool:=if k1=0∧k2=0∧s1=s2 then s1 else decide (mode=3)
def art(k1:Int)(s1:Bool)(m1 e1 k2:Int)(s2:Bool)(m2 e2 mode:Int):FlV:=
 if k1=3∨k2=3 then⟨3,false,0,0⟩
 else if k1=2∧k2=2∧s1≠s2 then⟨3,false,0,0⟩
 else if k1=2 then⟨k1,s1,m1,e1⟩
 else if k2=2 then⟨k2,s2,m2,e2⟩
 else flV (adS (xS k1 s1) m1.toNat e1 (xS k2 s2) m2.toNat e2) (adM (xS k1 s1) m1.toNat e1 (xS k2 s2) m2.toNat e2) (alE m1.toNat e1 m2.toNat e2) mode (adZ k1 s1 k2 s2 mode)
def aru(k1:Int)(s1:Bool)(m1 e1 k2:Int)(s2:Bool)(m2 e2 mode:Int):Int:=
 if k1=3∨k2=3 then 0
 else if k1=2∧k2=2∧s1≠s2 then 16
 else if k1=2 then 0
 else if k2=2 then 0
 else flG (adS (xS k1 s1) m1.toNat e1 (xS k2 s2) m2.toNat e2) (adM (xS k1 s1) m1.toNat e1 (xS k2 s2) m2.toNat e2) (alE m1.toNat e1 m2.toNat e2) mode
section
variable {k1:Int}{s1:Bool}{m1 e1 k2:Int}{s2:Bool}{m2 e2 mode:Int}
end
/-! ### A product and a sum-/
def fmZ(k1:Int)(s1:Bool)(k2:Int)(s2:Bool)(k3:Int)(s3:Bool)(mode:Int):Bool:=if(k1=0∨k2=0)∧k3=0∧s3=(s1 != s2)then s3 else decide (mode=3)
def arX(k1:Int)(s1:Bool)(m1 e1 k2:Int)(s2:Bool)(m2 e2 k3:Int)(s3:Bool)(m3 e3 mode:Int):FlV:=
 if k1=3∨k2=3 then⟨3,false,0,0⟩
 else if k1=2∨k2=2 then(if k1=0∨k2=0 then⟨3,false,0,0⟩else art 2 (s1 != s2) 0 0 k3 s3 m3 e3 mode)
 else if k3=2∨k3=3 then⟨k3,s3,m3,e3⟩
 else flV (adS (muS k1 s1 m1 k2 s2 m2) (m1.toNat*m2.toNat) (e1+e2) (xS k3 s3) m3.toNat e3) (adM (muS k1 s1 m1 k2 s2 m2) (m1.toNat*m2.toNat) (e1+e2) (xS k3 s3) m3.toNat e3) (alE (m1.toNat*m2.toNat) (e1+e2) m3.toNat e3) mode (fmZ k1 s1 k2 s2 k3 s3 mode)
def arY(k1:Int)(s1:Bool)(m1 e1 k2:Int)(s2:Bool)(m2 e2 k3:Int)(s3:Bool)(m3 e3 mode:Int):Int:=
 if k1=3∨k2=3 then 0
 else if k1=2∨k2=2 then(if k1=0∨k2=0 then 16 else aru 2 (s1 != s2) 0 0 k3 s3 m3 e3 mode)
 else if k3=2∨k3=3 then 0
 else flG (adS (muS k1 s1 m1 k2 s2 m2) (m1.toNat*m2.toNat) (e1+e2) (xS k3 s3) m3.toNat e3) (adM (muS k1 s1 m1 k2 s2 m2) (m1.toNat*m2.toNat) (e1+e2) (xS k3 s3) m3.toNat e3) (alE (m1.toNat*m2.toNat) (e1+e2) m3.toNat e3) mode
section
variable {k1:Int}{s1:Bool}{m1 e1 k2:Int}{s2:Bool}{m2 e2 k3:Int}{s3:Bool}{m3 e3 mode:Int}
end
end Go.Ab
namespace Go.Ab
end Go.Ab
namespace Go.Ab
open Go Go.Proofs
def rkF(k:Int)(s:Bool):Int:=if k=2 then(if s=true then-1 else 1)else 0
def ar4(k1:Int)(s1:Bool)(m1 e1 k2:Int)(s2:Bool)(m2 e2:Int):Int:=
 if rkF k1 s1≠rkF k2 s2∨rkF k1 s1≠0 then anZ (rkF k1 s1) (rkF k2 s2)else anZ (dv 3000 (xS k1 s1) m1.toNat e1) (dv 3000 (xS k2 s2) m2.toNat e2)
end Go.Ab
namespace Go.Ab
open Go Go.Proofs
def ExV.plus(x y:ExV):ExV:=⟨adS x.s x.m x.e y.s y.m y.e,adM x.s x.m x.e y.s y.m y.e,alE x.m x.e y.m y.e⟩
def ExV.neg(x:ExV):ExV:=⟨!x.s&&decide (x.m≠0),x.m,x.e⟩
def ExV.times(x y:ExV):ExV:=⟨(x.s != y.s)&&decide (x.m*y.m≠0),x.m*y.m,x.e+y.e⟩
def ExV.abs(x:ExV):ExV:=⟨false,x.m,x.e⟩
def ExV.shift(x:ExV)(k:Int):ExV:=⟨x.s,x.m,x.e+k⟩
def ExV.over(x y:ExV)(low mode:Int):ExV:=⟨(x.s != y.s)&&decide (ovQ (x.s != y.s) x.m x.e y.m y.e low mode≠0),ovQ (x.s != y.s) x.m x.e y.m y.e low mode,low⟩
def ExV.rnd(x:ExV)(low mode:Int):ExV:=⟨roS x.s x.m x.e low mode,roM x.s x.m x.e low mode,roE x.m x.e low⟩
def ExV.cmp(x y:ExV):Int:=anZ (sv x.s (alA x.m x.e (alE x.m x.e y.m y.e))) (sv y.s (alA y.m y.e (alE x.m x.e y.m y.e)))
def ExV.top(x:ExV):Int:=if x.m=0 then 0 else(bl x.m:Int)+x.e
def ExV.bd(lo hi:Int)(x:ExV):Prop:=(x.m=0→x.s=false)∧lo≤x.e∧(bl x.m:Int)+x.e≤hi
theorem ExV.bd.mono{lo hi lo' hi':Int}{x:ExV}(h:x.bd lo hi)(h1:lo'≤lo)(h2:hi≤hi'):x.bd lo' hi':=by
 obtain⟨a,b,c⟩:=h;exact⟨a,by omega,by omega⟩
end Go.Ab
namespace Go.Ab
open Go Go.Proofs
def gl(n:Nat)(g:Nat→Nat→ExV)(k:Nat):List ExV:=(List.range k).map fun t=>g (t/n) (t % n)
end Go.Ab
namespace Go.Ab
open Go Go.Proofs
def amh(m x:ExV):ExV:=if 0<x.cmp m then x else m
def amq(m x:ExV):ExV:=if x.cmp m<0 then x else m
def YK(l:List ExV):ExV:=(l.drop 1).foldl amh (l.getD 0 ex0)
def JL(l:List ExV):ExV:=(l.drop 1).foldl amq (l.getD 0 ex0)
def gbd(lo hi:Int)(l:List ExV):Prop:=∀x∈l,x.bd lo hi
end Go.Ab
namespace Go.Ab
open Go Go.Proofs
def SpV.plus(s t:SpV):SpV:=⟨s.lo.plus t.lo,s.hi.plus t.hi⟩
def VH(F:ExV→ExV→ExV)(s t:SpV):List ExV:=[F s.lo t.lo,F s.lo t.hi,F s.hi t.lo,F s.hi t.hi]
def SpV.times(s t:SpV):SpV:=⟨JL (VH ExV.times s t),YK (VH ExV.times s t)⟩
def SpV.over(s t:SpV)(low:Int):SpV:=⟨JL (VH (fun x y=>x.over y low 3) s t),YK (VH (fun x y=>x.over y low 2) s t)⟩
def SpV.out(s:SpV)(low:Int):SpV:=⟨s.lo.rnd low 3,s.hi.rnd low 2⟩
def SpV.fat(s:SpV)(by':ExV):SpV:=⟨s.lo.plus by'.neg,s.hi.plus by'⟩
def SpV.bd(lo hi:Int)(s:SpV):Prop:=s.lo.bd lo hi∧s.hi.bd lo hi
end Go.Ab
namespace Go.Ab
open Go Go.Proofs
def aow(n:Nat)(l l':List ExV):List ExV:=gl n (fun i j=>(l.getD (i*n+j) ex0).plus (l'.getD (i*n+j) ex0)) (n*n)
def aqd(n:Nat)(l l':List ExV):List ExV:=gl n (fun i j=>(l.getD (i*n+j) ex0).plus (l'.getD (i*n+j) ex0).neg) (n*n)
def Qi(n:Nat)(l:List ExV)(y:ExV):List ExV:=gl n (fun i j=>(l.getD (i*n+j) ex0).times y) (n*n)
def ara(n:Nat)(l:List ExV)(low mode:Int):List ExV:=gl n (fun i j=>(l.getD (i*n+j) ex0).rnd low mode) (n*n)
def ex1:ExV:=⟨false,1,0⟩
def idF(i j:Nat):ExV:=if i=j then ex1 else ex0
def gId(n:Nat):List ExV:=gl n idF (n*n)
def apz(n:Nat)(l l':List ExV)(i j k:Nat):ExV:=(List.range k).foldl (fun s t=>s.plus ((l.getD (i*n+t) ex0).times (l'.getD (t*n+j) ex0))) ex0
def amw(n:Nat)(l l':List ExV):List ExV:=gl n (fun i j=>apz n l l' i j n) (n*n)
theorem am8(n:Nat)(l l':List ExV)(i j:Nat):apz n l l' i j 0=ex0:=rfl
end Go.Ab
namespace Go.Ab
open Go Go.Proofs
def mpT{X Y:Type}(l:List X)(F:X→Y)(i:Nat):List Y:=(l.take i).map F
theorem anW{X Y:Type}{l:List X}{F:X→Y}:mpT l F 0=[]:=rfl
def sbd(lo hi:Int)(l:List SpV):Prop:=∀x∈l,x.bd lo hi
def ptS(x:ExV):SpV:=⟨x,x⟩
def aq2(s:SpV):ExV:=(s.lo.plus s.hi).shift (-1)
end Go.Ab
namespace Go.Ab
open Go Go.Proofs
def gly{Y:Type}(n:Nat)(g:Nat→Nat→Y)(k:Nat):List Y:=(List.range k).map fun t=>g (t/n) (t % n)
theorem aov{Y:Type}{n:Nat}{g:Nat→Nat→Y}:gly n g 0=[]:=rfl
def aln(n:Nat)(l l':List SpV)(i j k:Nat):SpV:=(List.range k).foldl (fun s t=>s.plus ((l.getD (i*n+t) sp0).times (l'.getD (t*n+j) sp0))) sp0
theorem akt(n:Nat)(l l':List SpV)(i j:Nat):aln n l l' i j 0=sp0:=rfl
def JY(n:Nat)(l l':List SpV):List SpV:=gly n (fun i j=>aln n l l' i j n) (n*n)
theorem SpV.bd.mono{lo hi lo' hi':Int}{x:SpV}(h:x.bd lo hi)(h1:lo'≤lo)(h2:hi≤hi'):x.bd lo' hi':=⟨ExV.bd.mono h.1 h1 h2,ExV.bd.mono h.2 h1 h2⟩
end Go.Ab
namespace Go.Ab
open Go Go.Proofs
def exN(k:Nat):ExV:=⟨false,k,0⟩
def SpV.divd(s:SpV)(k:Nat)(low:Int):SpV:=s.over ⟨exN k,exN k⟩ low
def amY(l l':List SpV):List SpV:=(List.range l.length).map fun i=>(l.getD i sp0).plus (l'.getD i sp0)
def fpT(l l':List SpV)(i:Nat):List SpV:=(List.range i).map fun i=>(l.getD i sp0).plus (l'.getD i sp0)
end Go.Ab
namespace Go.Ab
open Go Go.Proofs
def ark(n:Nat)(l:List ExV)(j k:Nat):ExV:=(List.range k).foldl (fun s i=>s.plus (l.getD (i*n+j) ex0).abs) ex0
def ah2(n:Nat)(l:List ExV)(k:Nat):ExV:=(List.range k).foldl (fun s j=>YK [s,ark n l j n]) ex0
end Go.Ab
namespace Go.Ab
open Go Go.Proofs
def ExV.can(x:ExV):ExV:=⟨oS x.s x.m,oM x.m,oE x.m x.e⟩
def ExV.fit(x:ExV):Bool:=apy x.m x.e
def SpV.can(s:SpV):SpV:=⟨s.lo.can,s.hi.can⟩
def SpV.fit(s:SpV):Bool:=s.lo.fit&&s.hi.fit
end Go.Ab
namespace Go.Ab
open Go Go.Proofs
def fct:Nat→Nat
 |0=>1
 |n+1=>(n+1)*fct n
def tmS(W:Nat):Nat→Nat→Nat
 |_,0=>0
 |k,f+1=>if fct (k+1)*2^k<2^W then tmS W (k+1) f else k
def tmF(W:Nat):Nat:=tmS W 1 402
end Go.Ab
namespace Go.Ab
open Go Go.Proofs
instance (lo hi:Int)(x:ExV):Decidable (x.bd lo hi):=inferInstanceAs (Decidable ((x.m=0→x.s=false)∧lo≤x.e∧(bl x.m:Int)+x.e≤hi))
instance (lo hi:Int)(x:SpV):Decidable (x.bd lo hi):=inferInstanceAs (Decidable (x.lo.bd lo hi∧x.hi.bd lo hi))
instance (lo hi:Int)(l:List ExV):Decidable (gbd lo hi l):=inferInstanceAs (Decidable (∀x∈l,x.bd lo hi))
instance (lo hi:Int)(l:List SpV):Decidable (sbd lo hi l):=inferInstanceAs (Decidable (∀x∈l,x.bd lo hi))
def hB:List SpV:=(Qi 1 [ex0] (ex1.shift 0)).map ptS
def hSt:Nat→List SpV×List SpV
 |0=>((gId 1).map ptS,(gId 1).map ptS)
 |i+1=>(amY (hSt i).1 ((JY 1 (hSt i).2 hB).map fun s=>s.divd (i+1) (-22)),(JY 1 (hSt i).2 hB).map fun s=>s.divd (i+1) (-22))
def aq8:List SpV:=(hSt 7).1.map fun s=>s.fat (ex1.shift (-22))
def arV:List SpV:=aq8.map fun s=>s.out (-14)
end Go.Ab
namespace Go.Ab
open Go Go.Proofs
section
variable (g:Nat)(p:DyV→Bool)
end
def DyV.ok(x:DyV):Bool:=dyB x.s x.xs x.e
def ap8(n:Int)(l:List DyV):Bool:=(decide (1≤n)&&decide (n≤4))&&(decide ((l.length:Int)=n*n)&&l.all DyV.ok)
end Go.Ab
namespace Go.Ab
open Go Go.Proofs
def ExV.dy(x:ExV):DyV:=⟨x.s,lim x.m,x.e⟩
def ExV.ok(x:ExV):Bool:=dyB x.s (lim x.m) x.e
def arM(n:Int)(l:List ExV):Bool:=(decide (1≤n)&&decide (n≤4))&&(decide ((l.length:Int)=n*n)&&l.all ExV.ok)
theorem ahT{x:ExV}(h:x.ok=true):x.bd (-3000) 4600:=by
 obtain⟨m,e1,h1,h2,h3,_,h4⟩:=ZU h
 have e2:x.m=m:=aaC e1
 subst e2
 exact⟨h4,by omega,by omega⟩
def aqQ(F:List SpV)(X:List ExV)(k:Nat):List ExV:=(List.range k).map fun i=>YK [((F.getD i sp0).hi.plus (X.getD i ex0).neg).abs,((X.getD i ex0).plus (F.getD i sp0).lo.neg).abs]
def arh(n:Nat)(F:List SpV)(low:Int):List ExV:=ara n (F.map aq2) low 0
def aqg(n:Nat)(F:List SpV)(low:Int):ExV:=ah2 n (aqQ F (arh n F low) (n*n)) n
end Go.Ab
namespace Go.Ab
open Go Go.Proofs
end Go.Ab
namespace Go.Ab
open Go Go.Proofs
def alF(m1:Nat)(e1:Int)(m2:Nat)(e2:Int):Int:=if m1=0 then e2 else if m2=0 then e1 else if e1≤e2 then e1 else e2
end Go.Ab
namespace Go.Ab
open Go Go.Proofs
def pmS(s1:Bool)(m1:Nat)(s2:Bool)(m2:Nat):Bool:=(s1 != s2)&&decide (m1*m2≠0)
end Go.Ab
namespace Go.Ab
open Go Go.Proofs
end Go.Ab
namespace Go.Ab
open Go Go.Proofs
end Go.Ab
namespace Go.Ab
end Go.Ab
namespace Go.Ab
open Go Go.Proofs
def ExV.val(K:Nat)(x:ExV):Int:=dv K x.s x.m x.e
theorem aag{x:ExV}(h:x.ok=true):(-3000≤x.e∧x.e≤3000)∧bl x.m≤1600∧(lim x.m).length≤100∧(x.m=0→x.s=false∧x.e=0)∧(x.m % 2=1∨x.m=0):=by
 obtain⟨m,e1,h1,h2,h3,h4,h5⟩:=ZU h
 obtain rfl:=aaC e1
 exact⟨h3,h2,h1,fun h0=>⟨h5 h0,by omega⟩,by omega⟩
def ExV.tel(x:ExV):ExV:=if x.fit=true then x.can else ex0
def flD(F:FlV):ExV:=⟨oS (xS F.k F.s) F.m.toNat,oM F.m.toNat,oE F.m.toNat F.e⟩
end Go.Ab
namespace Go.Ab
open Go Go.Proofs
section
variable (g:Nat)(p:IvV→Bool)
end
end Go.Ab
namespace Go.Ab
open Go Go.Proofs
/-! ### Intervals that were drawn,and those that are valid-/
def DyV.ex(d:DyV):ExV:=⟨d.s,(vl d.xs).toNat,d.e⟩
def ExV.dyv(x:ExV):DyV:=⟨x.s,lim x.m,x.e⟩
def ivB(v:IvV):Bool:=v.lo.ok&&(v.hi.ok&&decide (v.lo.ex.val 3000≤v.hi.ex.val 3000))
def IvV.sp(v:IvV):SpV:=⟨v.lo.ex,v.hi.ex⟩
def SpV.iv(s:SpV):IvV:=⟨s.lo.dyv,s.hi.dyv⟩
def SpV.ok(s:SpV):Bool:=s.lo.ok&&(s.hi.ok&&decide (s.lo.val 3000≤s.hi.val 3000))
theorem alb{s:SpV}(h:s.ok=true):s.lo.ok=true∧s.hi.ok=true∧s.lo.val 3000≤s.hi.val 3000:=by
 simpa [SpV.ok]using h
theorem ahm{s:SpV}(h:s.ok=true):s.bd (-3000) 4600:=⟨ahT (alb h).1,ahT (alb h).2.1⟩
def ap9(v:IvV):Prop:=v.lo.xs.length≤1000∧v.hi.xs.length≤1000
def aax(s t:SpV):SpV:=⟨YK [s.lo,t.lo],JL [s.hi,t.hi]⟩
def aq7(s t:SpV):SpV:=⟨JL [s.lo,t.lo],YK [s.hi,t.hi]⟩
def SpV.tel(s:SpV):SpV:=if s.fit=true then s.can else sp0
def aq3(s t:SpV):SpV:=if(aax s t).lo.val 3000≤(aax s t).hi.val 3000 then aax s t else sp0
def aqE(s:SpV)(x:ExV):Bool:=decide (s.lo.val 3000≤x.val 3000)&&decide (x.val 3000≤s.hi.val 3000)
end Go.Ab
namespace Go.Ab
open Go Go.Proofs
/-! ### Matrices that were drawn,and those that are valid-/
structure matV(n:Nat)(L:List ExV):Prop where
 n1:1≤n
 n4:n≤4
 len:L.length=n*n
 ok:∀x∈L,x.ok=true
theorem matV.bd{n:Nat}{L:List ExV}(h:matV n L):gbd (-3000) 4600 L:=fun x hx=>ahT (h.ok x hx)
def gN(n:Nat)(l:List ExV):Nat:=if l.all ExV.fit=true then n else 0
def gT(l:List ExV):List ExV:=if l.all ExV.fit=true then l.map ExV.can else []
def ar7(k:Int)(M:List DyV)(k':Int)(M':List DyV):Bool:=ap8 k M&&(ap8 k' M'&&decide (k=k'))
end Go.Ab
namespace Go.Ab
/-! ### Sums and greatest ones of whole numbers-/
def qm(f:Nat→Int):Nat→Int
 |0=>0
 |k+1=>qm f k+f k
def ait(f:Nat→Int):Nat→Int
 |0=>0
 |k+1=>if ait f k<f k then f k else ait f k
theorem qp{f g:Nat→Int}:∀{k:Nat},(∀i,i<k→f i=g i)→qm f k=qm g k
 |0,_=>rfl
 |k+1,h=>by rw[qm,qm,qp fun i hi=>h i (by omega),h k (by omega)]
theorem yU(f g:Nat→Int):∀k:Nat,qm (fun i=>f i+g i) k=qm f k+qm g k
 |0=>rfl
 |k+1=>by rw[qm,qm,qm,yU f g k];omega
theorem QN(f:Nat→Int)(c:Int):∀k:Nat,qm (fun i=>f i*c) k=qm f k*c
 |0=>by simp[qm]
 |k+1=>by rw[qm,qm,QN f c k,Int.add_mul]
theorem jx(f:Nat→Int)(c:Int):∀k:Nat,qm (fun i=>c*f i) k=c*qm f k
 |0=>by simp[qm]
 |k+1=>by rw[qm,qm,jx f c k,Int.mul_add]
theorem yl:∀k:Nat,qm (fun _=>0) k=0
 |0=>rfl
 |k+1=>by rw[qm,yl k];rfl
theorem QO(g:Nat→Nat→Int)(m:Nat):∀k:Nat,qm (fun i=>qm (fun t=>g i t) m) k=qm (fun t=>qm (fun i=>g i t) k) m
 |0=>(yl m).symm
 |k+1=>by
  rw[qm,QO g m k,←yU]
  exact qp fun t _=>rfl
theorem zC{f:Nat→Int}{j:Nat}:∀{k:Nat},j<k→(∀i,i<k→i≠j→f i=0)→qm f k=f j
 |0,h,_=>by omega
 |k+1,h,h2=>by
  rw[qm]
  by_cases hj:j=k
  ·subst hj
   have:qm f j=qm (fun _=>0) j:=qp fun i hi=>h2 i (by omega) (by omega)
   rw[this,yl];omega
  ·rw[zC (by omega) (fun i hi=>h2 i (by omega)),h2 k (by omega) (by omega)];omega
def nrm(A:Nat→Nat→Int)(n:Nat):Int:=ait (fun j=>qm (fun i=>((A i j).natAbs:Int)) n) n
end Go.Ab
namespace Go.Ab
open Go Go.Proofs
/-! ### What matrices tell-/
def mv(K:Nat)(L:List ExV)(n i j:Nat):Int:=(L.getD (i*n+j) ex0).val K
def eK(K:Nat)(L:List ExV):Prop:=∀x∈L, -(K:Int)≤x.e
theorem matV.eK{n:Nat}{L:List ExV}(h:matV n L){K:Nat}(hK:3000≤K):eK K L:=fun x hx=>by have:=(aag (h.ok x hx)).1;omega
end Go.Ab
namespace Go.Ab
open Go Go.Proofs
def ar2(l:List UInt8)(i h:Int):Ob:=.own 0 [.sl l.length (qa l),.v (.int .i64 i),.v (.int .i64 h)]
def ar1(l:List UInt8)(Q:AV→Prop):AV→List Ob→List Ob→Prop:=fun r hs bs=>hs=[]∧Q r∧∃i h:Int,(0≤i∧i≤l.length)∧bs=[.own 0 [.sl l.length (qa l),.v (.int .i64 i),.v (.int .i64 h)]]
section
variable {P:Program}{N f c:Nat}{aa0 args:List AV}{hp:Nat→Ob}{K:KV}{Q:AV→Prop}{e:Nat→AV}{l:List UInt8}{i h:Int}
end
def ar3(l:List UInt8)(xs:List Int)(Q:AV→Prop):AV→List Ob→List Ob→Prop:=fun r hs bs=>hs=[]∧Q r∧∃i h:Int,(0≤i∧i≤l.length)∧bs=[.own 0 [.sl l.length (qa l),.v (.int .i64 i),.v (.int .i64 h)],.own 1 (qi xs)]
section
variable {P:Program}{N f c:Nat}{aa0 args:List AV}{hp:Nat→Ob}{K:KV}{Q:AV→Prop}{e:Nat→AV}{l:List UInt8}{i h:Int}
end
section
variable (l:List UInt8)(hl:l.length≤9223372036854775807)(i h:Int)(hi:0≤i∧i≤l.length)
include hl hi
end
end Go.Ab
namespace Go.Ab
open Go Go.Proofs
section
variable (l:List UInt8)(hl:l.length≤9223372036854775807)(i h:Int)(hi:0≤i∧i≤l.length)
include hl hi
end
end Go.Ab
namespace Go.Ab
open Go Go.Proofs
end Go.Ab
namespace Go.Ab
open Go Go.Proofs
end Go.Ab
namespace Go.Ab
open Go Go.Proofs
def awV(s:Bool)(m e:Int):FlV:=if m<9007199254740991 then⟨1,s,m+1,e⟩else if e<971 then⟨1,s,4503599627370496,e+1⟩else⟨2,s,0,0⟩
def toV(k:Int)(s:Bool)(m e:Int):FlV:=if k=2 then⟨1,s,9007199254740991,971⟩else if 4503599627370496<m∨(e= -1074∧1<m)then⟨k,s,m-1,e⟩else if-1074<e then⟨k,s,9007199254740991,e-1⟩else⟨0,s,0,0⟩
def nxV(k:Int)(s:Bool)(m e:Int):FlV:=if k=3∨(k=2∧s=false)then⟨k,s,m,e⟩else if k=0 then⟨1,false,1, -1074⟩else if s=true then toV k s m e else awV s m e
def ulE(k e:Int):Int:=if k=0 then-1074 else e
end Go.Ab
namespace Go.Ab
structure Adj(k:Int)(s:Bool)(m e:Int)(n:FlV)(t:Bool)(a:Nat)(E:Int):Prop where
 ha:a<2^53
 hf:2^52≤a∨E= -1074
 hE: -1074≤E∧E≤971
 ho:¬(a+1=2^53∧E=971)
 hu:E≤ulE k e
 lo:dv 1074 (xS k s) m.toNat e=dv 1074 t (if t=true then a+1 else a) E
 hi:dv 1074 (xS n.k n.s) n.m.toNat n.e=dv 1074 t (if t=true then a else a+1) E
theorem arH:ngS 1 false=true:=rfl
theorem arF:ngS 1 true=false:=rfl
theorem arG:ngS 2 false=true:=rfl
end Go.Ab
namespace Go.Ab
open Go Go.Proofs
def aqG(ok:Bool):AV→List Ob→List Ob→Prop:=fun r hs bs=>hs=[]∧bs=[]∧∃(S:Bool) (M:Nat) (E:Int) (b:Bool),dyB S (lim M) E=true∧(ok=false→b=false)∧r=.tu [.ag [.v (.bool (S)),.sl (lim (M)).length (qi (lim (M))),.v (.int .i64 (E))],.v (.bool b)]
end Go.Ab
namespace Go.Ab
def ivM(s:Bool)(m:Nat)(e mode:Int):Nat:=roM s m e 0 mode*2^(roE m e 0).toNat
end Go.Ab
namespace Go.Ab
open Go Go.Proofs
end Go.Ab
namespace Go.Ab
open Go Go.Proofs
end Go.Ab
namespace Go.Ab
open Go Go.Proofs
def arR(k m:Int):Nat:=if k=1 then oM m.toNat else 0
def arS(k m e:Int):Int:=if k=1 then oE m.toNat e else 0
def arQ(k:Int)(s:Bool)(m:Int):Bool:=if k=1 then oS (s&&decide (m.toNat≠0)) m.toNat else false
end Go.Ab
namespace Go.Ab
open Go Go.Proofs
def aqF:AV→List Ob→List Ob→Prop:=fun r hs bs=>hs=[]∧bs=[]∧∃x:FlV,r=.ag x.cs
section
variable (l:List UInt8)(hl:l.length≤9223372036854775807)(i h:Int)(hi:0≤i∧i≤l.length)
include hl hi
end
end Go.Ab
namespace Go.Ab
open Go Go.Proofs
section
variable (l:List UInt8)(hl:l.length≤9223372036854775807)(i h:Int)(hi:0≤i∧i≤l.length)
include hl hi
end
end Go.Ab
namespace Go.Ab
open Go
end Go.Ab
namespace Go.Ab
open Go Go.Proofs
end Go.Ab
namespace Go.Ab
open Go Go.Proofs
end Go.Ab
namespace Go.Ab
open Go Go.Proofs
section
variable (l:List UInt8)(hl:l.length≤9223372036854775807)(i h:Int)(hi:0≤i∧i≤l.length)
include hl hi
end
end Go.Ab
namespace Go.Ab
open Go Go.Proofs
end Go.Ab
namespace Go.Ab
open Go Go.Proofs
end Go.Ab
namespace Go.Ab
open Go Go.Proofs
end Go.Ab
namespace Go.Ab
open Go Go.Proofs
end Go.Ab
namespace Go.Ab
open Go Go.Proofs
end Go.Ab
namespace Go.Ab
open Go Go.Proofs
def arA(r:AV)(hs:List Ob)(xs:List Int):Prop:=(xs=[]∧r=.ag [.v (.slice none 0 0)]∧hs=[])∨∃zs,r=.ag [.rf 0 0 xs.length]∧hs=[.own 1 (qi (xs++zs))]
section
variable (l:List UInt8)(hl:l.length≤9223372036854775807)(i h:Int)(hi:0≤i∧i≤l.length)
include hl hi
omit hi hl in
omit hi hl in
omit hi hl in
omit hi hl in
omit hi hl in
end
end Go.Ab
namespace Go.Ab
open Go Go.Proofs
section
variable (l:List UInt8)(hl:l.length≤9223372036854775807)(i h:Int)(hi:0≤i∧i≤l.length)
include hl hi
def arK(r:AV):Prop:=∃(n:Int) (l:List DyV),l.length≤16∧(∀d∈l,d.xs.length≤200)∧r=.ag [.v (.int .i64 n),.sl l.length (qj DyV.cs l)]
omit hl hi in
omit hl hi in
def arm(n:Nat)(r:AV)(hs:List Ob):Prop:=∃(k:Int) (M:List DyV) (o m:Nat),M.length=o+m∧o≤1∧M.length=n*n∧(∀d∈M,d.xs.length≤200)∧r=.ag [.v (.int .i64 k),.rf 0 (o*3) m]∧hs=[.own 3 (qj DyV.cs M)]
end
end Go.Ab
namespace Go.Ab
open Go Go.Proofs
/-! ### Minors and determinants-/
def mnC(n:Nat)(l:List ExV)(r c i:Nat):Nat→List ExV
 |0=>[]
 |j+1=>if i≠r∧j≠c then mnC n l r c i j++[l.getD (i*n+j) ex0]else mnC n l r c i j
def mnR(n:Nat)(l:List ExV)(r c:Nat):Nat→List ExV
 |0=>[]
 |i+1=>mnR n l r c i++mnC n l r c i n
def ExV.sgn(x:ExV)(k:Nat):ExV:=if k % 2=1 then x.neg else x
def aqi:Nat→List ExV→ExV
 |0,_=>ex1
 |n+1,l=>(List.range (n+1)).foldl (fun s j=>s.plus (((l.getD (0*(n+1)+j) ex0).times (aqi n (mnR (n+1) l 0 j (n+1)))).sgn j)) ex0
end Go.Ab
namespace Go.Ab
open Go Go.Proofs
def aq6(x y:ExV):ExV:=if x.val 3000≤y.val 3000 then x else y
def aqZ(x y:ExV):ExV:=if y.val 3000≤x.val 3000 then x else y
section
variable (l:List UInt8)(hl:l.length≤9223372036854775807)(i h:Int)(hi:0≤i∧i≤l.length)
include hl hi
end
end Go.Ab
namespace Go.Ab
open Go Go.Proofs
/-! ### Rounding down and up-/
def rnF(s:Bool)(a b:Nat)(low mode:Int):FlV:=⟨flK s mode (rq s a b mode) low,s,apw s mode (rq s a b mode) low,apx s mode (rq s a b mode) low⟩
def upQ(a b:Nat):Nat:=if a % b=0 then a/b else a/b+1
def isN(F:FlV):Bool:=decide (F.k=0)||decide (F.k=1)
def rqB(s:Bool)(a b:Nat)(low mode:Int):Prop:=rq s a b mode≠0∧1024<(bl (rq s a b mode):Int)+low
end Go.Ab
namespace Go.Ab
def stk(A B:Nat):Nat:=2*(A/B)+(if A % B=0 then 0 else 1)
end Go.Ab
namespace Go.Ab
def rtB(a:Nat):Nat→Nat
 |0=>0
 |n+1=>if(n+1)*(n+1)≤a then n+1 else rtB a n
def rt(a:Nat):Nat:=rtB a a
end Go.Ab
namespace Go.Ab
open Go Go.Proofs
end Go.Ab
namespace Go.Ab
open Go Go.Proofs
/-! ### A root,rounded-/
def stR(A S:Nat):Nat:=rt (A/S)*4+(if rt (A/S)*rt (A/S)*S=A then 0 else if A*4<(2*rt (A/S)+1)*(2*rt (A/S)+1)*S then 1 else if A*4=(2*rt (A/S)+1)*(2*rt (A/S)+1)*S then 2 else 3)
end Go.Ab
namespace Go.Ab
open Go Go.Proofs
def sqT(m:Nat)(e:Int):Int:=((bl m:Int)+e+1)/2
def sqL(m:Nat)(e:Int):Int:=Qk (sqT m e)
def sqA(m:Nat)(e low:Int):Nat:=stR (ovA m (e-2*low)) (2^(-(e-2*low)).toNat)
def sqV(k:Int)(s:Bool)(m e mode:Int):FlV:=
 if k=3∨k=0 then⟨k,s,m,e⟩else if s=true then⟨3,false,0,0⟩else if k=2 then⟨k,s,m,e⟩else
  ⟨flK false mode (rq false (sqA m.toNat e (sqL m.toNat e)) 4 mode) (sqL m.toNat e),false,apw false mode (rq false (sqA m.toNat e (sqL m.toNat e)) 4 mode) (sqL m.toNat e),apx false mode (rq false (sqA m.toNat e (sqL m.toNat e)) 4 mode) (sqL m.toNat e)⟩
def sqG(k:Int)(s:Bool)(m e mode:Int):Int:=
 if k=3∨k=0 then 0 else if s=true then 16 else if k=2 then 0 else
  aqf (sqT m.toNat e) (decide (sqA m.toNat e (sqL m.toNat e) % 4=0)) (rq false (sqA m.toNat e (sqL m.toNat e)) 4 mode) (sqL m.toNat e)
end Go.Ab
namespace Go.Ab
open Go Go.Proofs
def rtE(x:ExV)(low md:Int):ExV:=⟨false,rq false (sqA x.m x.e low) 4 md,low⟩
def arN(n:Int):Bool:=decide (-3000≤n)&&decide (n≤3000)
end Go.Ab
namespace Go.Ab
open Go Go.Proofs
end Go.Ab
namespace Go.Ab
open Go Go.Proofs
def rkI:Bool→Nat
 |false=>0
 |true=>1
def rkH(x:ExV):Bool→List (Nat×Ob)
 |false=>[(3,.own 1 [.v (.slice none 0 0)])]
 |true=>[(3,.own 1 [.rf 5 0 1]),(5,.own 3 [.v (.bool x.s),.sl (lim x.m).length (qi (lim x.m)),.v (.int .i64 x.e)])]
def ex5:ExV:=⟨false,5,0⟩
end Go.Ab
namespace Go.Ab
open Go Go.Proofs
def arO(M:List DyV):Prop:=M.length≤16∧∀d∈M,d.xs.length≤200
end Go.Ab
namespace Go.Ab
open Go Go.Proofs
end Go.Ab
namespace Go.Ab
open Go Go.Proofs
/-! ### Matrices that were told,or not-/
def arD(n N:Nat)(T:List ExV):Prop:=(N=n∧matV n T)∨(N=0∧T=[])
def arE(M:List DyV):Prop:=M.length≤16∧∀d∈M,d.xs.length≤200
end Go.Ab
namespace Go.Ab
/-! ### Determinants of integers-/
def sgI(k:Nat):Int:=if k % 2=1 then-1 else 1
def skp(r i:Nat):Nat:=if i<r then i else i+1
def Kb(A:Nat→Nat→Int)(r c:Nat):Nat→Nat→Int:=fun i j=>A (skp r i) (skp c j)
def zz:Nat→(Nat→Nat→Int)→Int
 |0,_=>1
 |n+1,A=>qm (fun j=>sgI j*(A 0 j*zz n (Kb A 0 j))) (n+1)
theorem acl(A:Nat→Nat→Int):zz 1 A=A 0 0:=by
 simp[zz,qm,sgI]
theorem Kf(A:Nat→Nat→Int):zz 2 A=A 0 0*A 1 1-A 0 1*A 1 0:=by
 simp[zz,qm,sgI,Kb,skp];omega
theorem Ke(A:Nat→Nat→Int):zz 3 A=A 0 0*(A 1 1*A 2 2-A 1 2*A 2 1)-A 0 1*(A 1 0*A 2 2-A 1 2*A 2 0)+A 0 2*(A 1 0*A 2 1-A 1 1*A 2 0):=by
 rw[zz]
 simp only[Kf,qm,sgI,Kb,skp]
 simp
 omega
theorem agd(A:Nat→Nat→Int):zz 4 A=(A 0 0*A 1 1-A 0 1*A 1 0)*(A 2 2*A 3 3-A 2 3*A 3 2)-(A 0 0*A 1 2-A 0 2*A 1 0)*(A 2 1*A 3 3-A 2 3*A 3 1)
  +(A 0 0*A 1 3-A 0 3*A 1 0)*(A 2 1*A 3 2-A 2 2*A 3 1)+(A 0 1*A 1 2-A 0 2*A 1 1)*(A 2 0*A 3 3-A 2 3*A 3 0)
  -(A 0 1*A 1 3-A 0 3*A 1 1)*(A 2 0*A 3 2-A 2 2*A 3 0)+(A 0 2*A 1 3-A 0 3*A 1 2)*(A 2 0*A 3 1-A 2 1*A 3 0):=by
 rw[zz]
 simp only[Ke,qm,sgI,Kb,skp]
 simp
 grind
end Go.Ab
namespace Go.Ab
theorem aeW{n:Nat}(hn:n≤4)(A:Nat→Nat→Int):zz n (fun i j=>A j i)=zz n A:=by
 rcases(show n=0∨n=1∨n=2∨n=3∨n=4 by omega)with rfl|rfl|rfl|rfl|rfl
 ·rfl
 ·rw[acl,acl]
 ·rw[Kf,Kf];grind
 ·rw[Ke,Ke];grind
 ·rw[agd,agd];grind
theorem ju:∀{n:Nat} {A B:Nat→Nat→Int},(∀i j,i<n→j<n→A i j=B i j)→zz n A=zz n B
 |0,_,_,_=>rfl
 |n+1,A,B,h=>by
  rw[zz,zz]
  refine qp fun j hj=>?_
  rw[h 0 j (by omega) hj,ju (n:=n) (A:=Kb A 0 j) (B:=Kb B 0 j) fun i k hi hk=>?_]
  unfold Kb skp
  exact h _ _ (by split<;>omega) (by split<;>omega)
def m2(A:Nat→Nat→Int)(r s c d:Nat):Int:=A r c*A s d-A r d*A s c
theorem J2(A:Nat→Nat→Int):zz 4 A=m2 A 0 1 0 1*m2 A 2 3 2 3-m2 A 0 1 0 2*m2 A 2 3 1 3+m2 A 0 1 0 3*m2 A 2 3 1 2+m2 A 0 1 1 2*m2 A 2 3 0 3-m2 A 0 1 1 3*m2 A 2 3 0 2+m2 A 0 1 2 3*m2 A 2 3 0 1:=agd A
def jd(n:Nat)(A B:Nat→Nat→Int):Nat→Nat→Int:=fun i j=>qm (fun t=>A i t*B t j) n
theorem ap4(A B:Nat→Nat→Int)(i j:Nat):jd 4 A B i j=A i 0*B 0 j+A i 1*B 1 j+A i 2*B 2 j+A i 3*B 3 j:=by
 simp[jd,qm]
theorem ap5(A B:Nat→Nat→Int)(i j:Nat):jd 3 A B i j=A i 0*B 0 j+A i 1*B 1 j+A i 2*B 2 j:=by
 simp[jd,qm]
theorem ap6(A B:Nat→Nat→Int)(i j:Nat):jd 2 A B i j=A i 0*B 0 j+A i 1*B 1 j:=by
 simp[jd,qm]
theorem ap7(A B:Nat→Nat→Int)(i j:Nat):jd 1 A B i j=A i 0*B 0 j:=by
 simp[jd,qm]
theorem aml(A B:Nat→Nat→Int)(r s c d:Nat):m2 (jd 4 A B) r s c d=m2 A r s 0 1*m2 B 0 1 c d+m2 A r s 0 2*m2 B 0 2 c d+m2 A r s 0 3*m2 B 0 3 c d+m2 A r s 1 2*m2 B 1 2 c d+m2 A r s 1 3*m2 B 1 3 c d+m2 A r s 2 3*m2 B 2 3 c d:=by
 simp only[m2,ap4]
 grind
def q4(B:Nat→Nat→Int)(p q r s:Nat):Int:=m2 B p q 0 1*m2 B r s 2 3-m2 B p q 0 2*m2 B r s 1 3+m2 B p q 0 3*m2 B r s 1 2+m2 B p q 1 2*m2 B r s 0 3-m2 B p q 1 3*m2 B r s 0 2+m2 B p q 2 3*m2 B r s 0 1
theorem j3(B:Nat→Nat→Int)(p q s:Nat):q4 B p q p s=0:=by unfold q4 m2;grind
theorem adv(B:Nat→Nat→Int)(p q r:Nat):q4 B p q r p=0:=by unfold q4 m2;grind
theorem adu(B:Nat→Nat→Int)(p q s:Nat):q4 B p q q s=0:=by unfold q4 m2;grind
theorem Jw(B:Nat→Nat→Int)(p q r:Nat):q4 B p q r q=0:=by unfold q4 m2;grind
theorem aqO(B:Nat→Nat→Int):q4 B 0 1 2 3=zz 4 B:=(J2 B).symm
theorem aqN(B:Nat→Nat→Int):q4 B 0 2 1 3= -zz 4 B:=by rw[J2];unfold q4 m2;grind
theorem aqM(B:Nat→Nat→Int):q4 B 0 3 1 2=zz 4 B:=by rw[J2];unfold q4 m2;grind
theorem aqL(B:Nat→Nat→Int):q4 B 1 2 0 3=zz 4 B:=by rw[J2];unfold q4 m2;grind
theorem aqK(B:Nat→Nat→Int):q4 B 1 3 0 2= -zz 4 B:=by rw[J2];unfold q4 m2;grind
theorem aqJ(B:Nat→Nat→Int):q4 B 2 3 0 1=zz 4 B:=by rw[J2];unfold q4 m2;grind
theorem abq(A B:Nat→Nat→Int):zz 4 (jd 4 A B)=m2 A 0 1 0 1*m2 A 2 3 0 1*q4 B 0 1 0 1+m2 A 0 1 0 1*m2 A 2 3 0 2*q4 B 0 1 0 2+m2 A 0 1 0 1*m2 A 2 3 0 3*q4 B 0 1 0 3+m2 A 0 1 0 1*m2 A 2 3 1 2*q4 B 0 1 1 2+m2 A 0 1 0 1*m2 A 2 3 1 3*q4 B 0 1 1 3+m2 A 0 1 0 1*m2 A 2 3 2 3*q4 B 0 1 2 3+m2 A 0 1 0 2*m2 A 2 3 0 1*q4 B 0 2 0 1+m2 A 0 1 0 2*m2 A 2 3 0 2*q4 B 0 2 0 2+m2 A 0 1 0 2*m2 A 2 3 0 3*q4 B 0 2 0 3+m2 A 0 1 0 2*m2 A 2 3 1 2*q4 B 0 2 1 2+m2 A 0 1 0 2*m2 A 2 3 1 3*q4 B 0 2 1 3+m2 A 0 1 0 2*m2 A 2 3 2 3*q4 B 0 2 2 3+m2 A 0 1 0 3*m2 A 2 3 0 1*q4 B 0 3 0 1+m2 A 0 1 0 3*m2 A 2 3 0 2*q4 B 0 3 0 2+m2 A 0 1 0 3*m2 A 2 3 0 3*q4 B 0 3 0 3+m2 A 0 1 0 3*m2 A 2 3 1 2*q4 B 0 3 1 2+m2 A 0 1 0 3*m2 A 2 3 1 3*q4 B 0 3 1 3+m2 A 0 1 0 3*m2 A 2 3 2 3*q4 B 0 3 2 3+m2 A 0 1 1 2*m2 A 2 3 0 1*q4 B 1 2 0 1+m2 A 0 1 1 2*m2 A 2 3 0 2*q4 B 1 2 0 2+m2 A 0 1 1 2*m2 A 2 3 0 3*q4 B 1 2 0 3+m2 A 0 1 1 2*m2 A 2 3 1 2*q4 B 1 2 1 2+m2 A 0 1 1 2*m2 A 2 3 1 3*q4 B 1 2 1 3+m2 A 0 1 1 2*m2 A 2 3 2 3*q4 B 1 2 2 3+m2 A 0 1 1 3*m2 A 2 3 0 1*q4 B 1 3 0 1+m2 A 0 1 1 3*m2 A 2 3 0 2*q4 B 1 3 0 2+m2 A 0 1 1 3*m2 A 2 3 0 3*q4 B 1 3 0 3+m2 A 0 1 1 3*m2 A 2 3 1 2*q4 B 1 3 1 2+m2 A 0 1 1 3*m2 A 2 3 1 3*q4 B 1 3 1 3+m2 A 0 1 1 3*m2 A 2 3 2 3*q4 B 1 3 2 3+m2 A 0 1 2 3*m2 A 2 3 0 1*q4 B 2 3 0 1+m2 A 0 1 2 3*m2 A 2 3 0 2*q4 B 2 3 0 2+m2 A 0 1 2 3*m2 A 2 3 0 3*q4 B 2 3 0 3+m2 A 0 1 2 3*m2 A 2 3 1 2*q4 B 2 3 1 2+m2 A 0 1 2 3*m2 A 2 3 1 3*q4 B 2 3 1 3+m2 A 0 1 2 3*m2 A 2 3 2 3*q4 B 2 3 2 3:=by
 rw[J2]
 simp only[aml]
 simp only[q4]
 grind
theorem aeY(A B:Nat→Nat→Int):zz 4 (jd 4 A B)=zz 4 A*zz 4 B:=by
 rw[abq]
 rw[j3 B 0 1 1,j3 B 0 1 2,j3 B 0 1 3,adu B 0 1 2,adu B 0 1 3,j3 B 0 2 1,j3 B 0 2 2,j3 B 0 2 3,Jw B 0 2 1,adu B 0 2 3,j3 B 0 3 1,j3 B 0 3 2,j3 B 0 3 3,Jw B 0 3 1,Jw B 0 3 2,adv B 1 2 0,Jw B 1 2 0,j3 B 1 2 2,j3 B 1 2 3,adu B 1 2 3,adv B 1 3 0,Jw B 1 3 0,j3 B 1 3 2,j3 B 1 3 3,Jw B 1 3 2,adv B 2 3 0,Jw B 2 3 0,adv B 2 3 1,Jw B 2 3 1,j3 B 2 3 3]
 rw[aqO,aqN,aqM,aqL,aqK,aqJ,J2 A]
 grind
theorem Qn{n:Nat}(hn:n≤4)(A B:Nat→Nat→Int):zz n (jd n A B)=zz n A*zz n B:=by
 rcases(show n=0∨n=1∨n=2∨n=3∨n=4 by omega)with rfl|rfl|rfl|rfl|rfl
 ·rfl
 ·rw[acl,acl,acl,ap7]
 ·rw[Kf,Kf,Kf];simp only[ap6];grind
 ·rw[Ke,Ke,Ke];simp only[ap5];grind
 ·exact aeY A B
end Go.Ab
namespace Go.Ab
def akD(n:Nat)(A:Nat→Nat→Int)(k j:Nat):Int:=sgI (k+j)*zz (n-1) (Kb A j k)
theorem akd{n:Nat}(hn:n≤4)(A:Nat→Nat→Int){i j:Nat}(hi:i<n)(hj:j<n):jd n A (akD n A) i j=if i=j then zz n A else 0:=by
 rcases(show n=1∨n=2∨n=3∨n=4 by omega)with rfl|rfl|rfl|rfl
 ·obtain rfl:i=0:=by omega
  obtain rfl:j=0:=by omega
  rw[ap7,acl,if_pos rfl]
  simp[akD,sgI,zz]
 ·simp only[ap6,akD,Kf,show 2-1=1 from rfl,acl]
  rcases(show i=0∨i=1 by omega)with rfl|rfl<;>rcases(show j=0∨j=1 by omega)with rfl|rfl<;>(simp[sgI,Kb,skp];try grind)
 ·simp only[ap5,akD,Ke,show 3-1=2 from rfl,Kf]
  rcases(show i=0∨i=1∨i=2 by omega)with rfl|rfl|rfl<;>rcases(show j=0∨j=1∨j=2 by omega)with rfl|rfl|rfl<;>(simp[sgI,Kb,skp];try grind)
 ·simp only[ap4,akD,agd,show 4-1=3 from rfl,Ke]
  rcases(show i=0∨i=1∨i=2∨i=3 by omega)with rfl|rfl|rfl|rfl<;>rcases(show j=0∨j=1∨j=2∨j=3 by omega)with rfl|rfl|rfl|rfl<;>(simp[sgI,Kb,skp];try grind)
end Go.Ab
namespace Go.Ab
open Go Go.Proofs
/-! ### What determinants are worth-/
end Go.Ab
namespace Go.Ab
open Go Go.Proofs
/-! ### Turned matrices-/
def aq9(n:Nat)(l:List ExV):List ExV:=gl n (fun i j=>l.getD (j*n+i) ex0) (n*n)
end Go.Ab
namespace Go.Ab
open Go Go.Proofs
/-! ### Adjugates and minors-/
def ars(n:Nat)(l:List ExV)(a b:Nat):ExV:=(aqi (n-1) (mnR n l b a n)).sgn (b+a)
def arW(n:Nat)(l:List ExV):List ExV:=gl n (ars n l) (n*n)
end Go.Ab
namespace Go.Ab
open Go Go.Proofs
section
variable (l:List UInt8)(hl:l.length≤9223372036854775807)(i h:Int)(hi:0≤i∧i≤l.length)
include hl hi
def aq5(r:AV):Prop:=∃L:List DyV,L.length≤101∧(∀d∈L,d.xs.length≤200)∧r=.sl L.length (qj DyV.cs L)
end
end Go.Ab
namespace Go.Ab
open Go Go.Proofs
/-! ### Polynomials of a matrix-/
def ap3(n:Nat)(L:List ExV):Nat→List ExV
 |0=>gId n
 |k+1=>amw n (ap3 n L k) L
def aqD(n:Nat)(L p:List ExV):Nat→List ExV
 |0=>Qi n (gId n) ex0
 |k+1=>aow n (aqD n L p k) (Qi n (ap3 n L k) (p.getD k ex0))
end Go.Ab
namespace Go.Ab
def idI(i j:Nat):Int:=if i=j then 1 else 0
def aoh(n:Nat)(A:Nat→Nat→Int):Nat→Nat→Nat→Int
 |0=>idI
 |k+1=>jd n (aoh n A k) A
def pm3(A:Nat→Nat→Int)(r:Nat):Int:=zz 3 (Kb A r r)
end Go.Ab
namespace Go.Ab
/-! ### Ranks-/
theorem yT{f:Nat→Int}{k:Nat}:∀{m:Nat},k≤m→(∀i,k≤i→f i=0)→qm f m=qm f k
 |0,h,_=>by
  obtain rfl:k=0:=by omega
  rfl
 |m+1,h,hz=>by
  by_cases e:k=m+1
  ·rw[e]
  ·rw[qm,yT (by omega) hz,hz m (by omega),Int.add_zero]
def Vc(n k:Nat)(A:Nat→Nat→Int):Prop:=∃(c:Int) (B C:Nat→Nat→Int),c≠0∧∀i j,i<n→j<n→c*A i j=qm (fun t=>B i t*C t j) k
theorem yi{n k:Nat}{A A':Nat→Nat→Int}(h:∀i j,i<n→j<n→A i j=A' i j):Vc n k A→Vc n k A'
 |⟨c,B,C,h0,h1⟩=>⟨c,B,C,h0,fun i j hi hj=>by rw[←h i j hi hj];exact h1 i j hi hj⟩
theorem Jl{n k:Nat}{A:Nat→Nat→Int}:Vc n k A→Vc n k (fun i j=>A j i)
 |⟨c,B,C,h0,h1⟩=>⟨c,fun i t=>C t i,fun t j=>B j t,h0,fun i j hi hj=>by
  rw[h1 j i hj hi];exact qp fun t _=>Int.mul_comm _ _⟩
theorem Zm(n k:Nat)(f:Nat→Int)(g:Nat→Nat→Int)(h:Nat→Int):qm (fun s=>qm (fun t=>f t*g t s) k*h s) n=qm (fun t=>f t*qm (fun s=>g t s*h s) n) k:=by
 have e1:qm (fun s=>qm (fun t=>f t*g t s) k*h s) n=qm (fun s=>qm (fun t=>f t*(g t s*h s)) k) n:=
  qp fun s _=>by rw[←QN];exact qp fun t _=>Int.mul_assoc _ _ _
 have e2:qm (fun t=>f t*qm (fun s=>g t s*h s) n) k=qm (fun t=>qm (fun s=>f t*(g t s*h s)) n) k:=
  qp fun t _=>by rw[←jx]
 rw[e1,e2,QO]
theorem KK{n k:Nat}{A:Nat→Nat→Int}(D:Nat→Nat→Int):Vc n k A→Vc n k (jd n A D)
 |⟨c,B,C,h0,h1⟩=>⟨c,B,jd n C D,h0,fun i j hi hj=>by
  show c*qm (fun t=>A i t*D t j) n=qm (fun t=>B i t*qm (fun s=>C t s*D s j) n) k
  rw[←Zm,←jx]
  exact qp fun s hs=>by rw[←h1 i s hi hs,Int.mul_assoc]⟩
theorem Jm{n k:Nat}{A:Nat→Nat→Int}(D:Nat→Nat→Int):Vc n k A→Vc n k (jd n D A)
 |⟨c,B,C,h0,h1⟩=>⟨c,jd n D B,C,h0,fun i j hi hj=>by
  show c*qm (fun t=>D i t*A t j) n=qm (fun t=>qm (fun s=>D i s*B s t) n*C t j) k
  rw[Zm,←jx]
  exact qp fun s hs=>by rw[←h1 s j hs hj,Int.mul_left_comm]⟩
def dgI(c:Int)(i j:Nat):Int:=if i=j then c else 0
theorem ame{n:Nat}(c:Int)(A:Nat→Nat→Int){i j:Nat}(hi:i<n):jd n (dgI c) A i j=c*A i j:=by
 unfold jd
 rw[zC (j:=i) hi (fun t _ hne=>by unfold dgI;rw[if_neg (fun h=>hne h.symm),Int.zero_mul])]
 unfold dgI;rw[if_pos rfl]
theorem ana{n:Nat}(hn:n≤4){c:Int}(hc:c≠0):zz n (dgI c)≠0:=by
 rcases(show n=0∨n=1∨n=2∨n=3∨n=4 by omega)with rfl|rfl|rfl|rfl|rfl
 ·intro h;cases h
 ·rw[acl];simp[dgI,hc]
 ·rw[Kf];simp[dgI,hc]
 ·rw[Ke];simp[dgI,hc]
 ·rw[agd];simp[dgI,hc]
theorem aeX{n:Nat}(hn:n≤4)(h1:1≤n){A:Nat→Nat→Int}(h:∀i,A i (n-1)=0):zz n A=0:=by
 rcases(show n=1∨n=2∨n=3∨n=4 by omega)with rfl|rfl|rfl|rfl
 ·have:=h 0
  rw[acl];simpa using this
 ·have h:∀i,A i 1=0:=h
  rw[Kf];simp[h]
 ·have h:∀i,A i 2=0:=h
  rw[Ke];simp[h]
 ·have h:∀i,A i 3=0:=h
  rw[agd];simp[h]
theorem acY{n k:Nat}(hn:n≤4)(hk:k<n){A:Nat→Nat→Int}:Vc n k A→zz n A=0
 |⟨c,B,C,h0,h1⟩=>by
  have e:zz n (jd n (dgI c) A)=zz n (jd n (fun i t=>if t<k then B i t else 0) C):=ju fun i j hi hj=>by
   rw[ame c A hi,h1 i j hi hj]
   show _=qm (fun t=>(if t<k then B i t else 0)*C t j) n
   rw[yT (f:=fun t=>(if t<k then B i t else 0)*C t j) (k:=k) (by omega) (fun t ht=>by rw[if_neg (by omega),Int.zero_mul])]
   exact qp fun t ht=>by rw[if_pos ht]
  rw[Qn hn,Qn hn,aeX hn (by omega) (A:=fun i t=>if t<k then B i t else 0) (fun i=>if_neg (by omega)),Int.zero_mul]at e
  exact(Int.mul_eq_zero.1 e).resolve_left (ana hn h0)
theorem abo{r:Nat}(hr:r≤4){T:Nat→Nat→Int}(hd:∀t,t<r→T t t≠0)(hz:∀s t,t<s→s<r→T s t=0):zz r T≠0:=by
 rcases(show r=0∨r=1∨r=2∨r=3∨r=4 by omega)with rfl|rfl|rfl|rfl|rfl
 ·intro h;cases h
 ·rw[acl];exact hd 0 (by omega)
 ·rw[Kf,hz 1 0 (by omega) (by omega)]
  simp[hd 0 (by omega),hd 1 (by omega)]
 ·rw[Ke,hz 1 0 (by omega) (by omega),hz 2 0 (by omega) (by omega),hz 2 1 (by omega) (by omega)]
  simp[hd 0 (by omega),hd 1 (by omega),hd 2 (by omega)]
 ·rw[agd,hz 1 0 (by omega) (by omega),hz 2 0 (by omega) (by omega),hz 2 1 (by omega) (by omega),hz 3 0 (by omega) (by omega),hz 3 1 (by omega) (by omega),hz 3 2 (by omega) (by omega)]
  simp[hd 0 (by omega),hd 1 (by omega),hd 2 (by omega),hd 3 (by omega)]
structure isRank(n:Nat)(A:Nat→Nat→Int)(r:Nat):Prop where
 le:r≤n
 up:Vc n r A
 low:∀k,Vc n k A→r≤k
 full:r=n→zz n A≠0
theorem isRank.turn{n r s:Nat}{A:Nat→Nat→Int}(h:isRank n A r)(g:isRank n (fun i j=>A j i) s):s=r:=
 Nat.le_antisymm (g.low r (Jl h.up)) (h.low s (Jl g.up))
theorem isRank.congr{n r:Nat}{A B:Nat→Nat→Int}(h:isRank n A r)(e:∀i j,i<n→j<n→A i j=B i j):isRank n B r:=
 ⟨h.le,yi e h.up,fun k hk=>h.low k (yi (fun i j hi hj=>(e i j hi hj).symm) hk),fun hr=>by rw[←ju e];exact h.full hr⟩
theorem isRank.mul{n r s t:Nat}{A B:Nat→Nat→Int}(h:isRank n A r)(g:isRank n B s)(p:isRank n (jd n A B) t):t≤r∧t≤s:=
 ⟨p.low r (KK B h.up),p.low s (Jm A g.up)⟩
structure elim(n:Nat)(A C:Nat→Nat→Int)(r j:Nat):Prop where
 le:r≤n
 rj:r≤j
 u:∃U:Nat→Nat→Int,zz n U≠0∧∀i k,i<n→k<n→C i k=jd n U A i k
 p:∃p:Nat→Nat,∀t,t<r→p t<j∧p t<n∧C t (p t)≠0∧∀s,t<s→s<n→C s (p t)=0
 z:∀i k,r≤i→i<n→k<j→k<n→C i k=0
theorem QZ(n:Nat)(A B C:Nat→Nat→Int)(i j:Nat):jd n (jd n A B) C i j=jd n A (jd n B C) i j:=
 Zm n n (fun t=>A i t) B (fun s=>C s j)
theorem elim.rank{n:Nat}(hn:n≤4){A C:Nat→Nat→Int}{r:Nat}(h:elim n A C r n):isRank n A r:=by
 obtain⟨hle, -,⟨U,hU,hC⟩,⟨p,hp⟩,hz⟩:=h
 have lowC:∀k,Vc n k C→r≤k:=fun k hk=>by
  rcases Nat.lt_or_ge k r with g|g
  ·exfalso
   obtain⟨c,B,D,h0,h1⟩:=hk
   have ht:Vc r k (fun s t=>C s (p t)):=⟨c,B,fun u t=>D u (p t),h0,fun s t hs ht=>h1 s (p t) (by omega) (hp t ht).2.1⟩
   exact abo (by omega) (fun t ht=>(hp t ht).2.2.1) (fun s t hst hs=>(hp t (by omega)).2.2.2 s hst (by omega)) (acY (by omega) g ht)
  ·exact g
 refine⟨hle,?_,fun k hk=>lowC k (yi (fun i j hi hj=>(hC i j hi hj).symm) (Jm U hk)),fun hr hd=>?_⟩
 ·
  obtain⟨V,hV⟩:∃V:Nat→Nat→Int,∀i j,i<n→j<n→jd n V U i j=if i=j then zz n U else 0:=by
   refine⟨fun i j=>akD n (fun a b=>U b a) j i,fun i j hi hj=>?_⟩
   have:=akd hn (fun a b=>U b a) hj hi
   rw[aeW hn]at this
   have e2:(if i=j then zz n U else 0)=if j=i then zz n U else 0:=by
    by_cases e:i=j
    ·rw[if_pos e,if_pos e.symm]
    ·rw[if_neg e,if_neg (fun h=>e h.symm)]
   rw[e2,←this]
   exact qp fun t _=>Int.mul_comm _ _
  refine⟨zz n U,V,C,hU,fun i j hi hj=>?_⟩
  have e1:qm (fun t=>V i t*C t j) r=qm (fun t=>V i t*C t j) n:=by
   have:qm (fun t=>V i t*C t j) n=qm (fun t=>if t<r then V i t*C t j else 0) n:=qp fun t ht=>by
    by_cases g:t<r
    ·rw[if_pos g]
    ·rw[if_neg g,hz t j (by omega) ht hj hj,Int.mul_zero]
   rw[this,yT hle (fun t ht=>if_neg (by omega))]
   exact qp fun t ht=>by rw[if_pos ht]
  rw[e1]
  have e2:qm (fun t=>V i t*C t j) n=jd n (jd n V U) A i j:=by
   rw[QZ]
   exact qp fun t ht=>by rw[hC t j ht hj]
  rw[e2]
  show _=qm (fun t=>jd n V U i t*A t j) n
  rw[zC (j:=i) hi (fun t ht hne=>by rw[hV i t hi ht,if_neg (fun h=>hne h.symm),Int.zero_mul]),hV i i hi hi,if_pos rfl]
 ·subst hr
  have h1:zz r C=0:=by
   rw[ju hC,Qn hn,hd,Int.mul_zero]
  have h2:zz r (jd r C (fun u t=>if u=p t then 1 else 0))=0:=by rw[Qn hn,h1,Int.zero_mul]
  refine abo hn (T:=fun s t=>C s (p t)) (fun t ht=>(hp t ht).2.2.1) (fun s t hst hs=>(hp t (by omega)).2.2.2 s hst (by omega)) ?_
  rw[←h2]
  refine ju fun i j hi hj=>?_
  show C i (p j)=qm (fun u=>C i u*(if u=p j then 1 else 0)) r
  rw[zC (j:=p j) (hp j hj).2.1 (fun t _ hne=>by rw[if_neg hne,Int.mul_zero]),if_pos rfl,Int.mul_one]
theorem elim.skip{n:Nat}{A C:Nat→Nat→Int}{r j:Nat}(h:elim n A C r j)(hz:∀i,r≤i→i<n→C i j=0):elim n A C r (j+1):=by
 obtain⟨h1,h2,h3,⟨p,hp⟩,h5⟩:=h
 refine⟨h1,by omega,h3,⟨p,fun t ht=>⟨by have:=(hp t ht).1;omega,(hp t ht).2⟩⟩,fun i k hi hin hk hkn=>?_⟩
 rcases(show k<j∨k=j by omega)with g|rfl
 ·exact h5 i k hi hin g hkn
 ·exact hz i hi hin
def swI(a b i:Nat):Nat:=if i=a then b else if i=b then a else i
theorem abp{n:Nat}(hn:n≤4){a r:Nat}(ha:a<n)(hr:r<n)(hne:a≠r)(p q:Int)(hp:p≠0):zz n (fun i j=>if i=a then(if j=a then p else if j=r then-q else 0)else if i=j then 1 else 0)≠0:=by
 rcases(show n=1∨n=2∨n=3∨n=4 by omega)with rfl|rfl|rfl|rfl
 ·omega
 ·rw[Kf]
  rcases(show a=0∨a=1 by omega)with rfl|rfl<;>rcases(show r=0∨r=1 by omega)with rfl|rfl<;>first|omega|simp[hp]
 ·rw[Ke]
  rcases(show a=0∨a=1∨a=2 by omega)with rfl|rfl|rfl<;>rcases(show r=0∨r=1∨r=2 by omega)with rfl|rfl|rfl<;>first|omega|simp[hp]
 ·rw[agd]
  rcases(show a=0∨a=1∨a=2∨a=3 by omega)with rfl|rfl|rfl|rfl<;>rcases(show r=0∨r=1∨r=2∨r=3 by omega)with rfl|rfl|rfl|rfl<;>first|omega|simp[hp]
structure elimR(n:Nat)(A C:Nat→Nat→Int)(r j m:Nat):Prop where
 rn:r<n
 rj:r≤j
 jn:j<n
 rm:r<m
 u:∃U:Nat→Nat→Int,zz n U≠0∧∀i k,i<n→k<n→C i k=jd n U A i k
 p:∃p:Nat→Nat,∀t,t<r→p t<j∧p t<n∧C t (p t)≠0∧∀s,t<s→s<n→C s (p t)=0
 z:∀i k,r≤i→i<n→k<j→k<n→C i k=0
 pv:C r j≠0
 zm:∀i,r<i→i<m→i<n→C i j=0
theorem elim.pivot{n:Nat}{A C:Nat→Nat→Int}{r j:Nat}(h:elim n A C r j)(hr:r<n)(hj:j<n)(hp:C r j≠0):elimR n A C r j (r+1):=
 ⟨hr,h.rj,hj,by omega,h.u,h.p,h.z,hp,fun i h1 h2=>by omega⟩
theorem elimR.done{n:Nat}{A C:Nat→Nat→Int}{r j m:Nat}(h:elimR n A C r j m)(hm:n≤m):elim n A C (r+1) (j+1):=by
 obtain⟨h1,h2,h3,h4,h5,⟨p,hp⟩,h7,h8,h9⟩:=h
 refine⟨by omega,by omega,h5,⟨fun t=>if t=r then j else p t,fun t ht=>?_⟩,fun i k hi hin hk hkn=>?_⟩
 ·dsimp only
  by_cases e:t=r
  ·rw[if_pos e,e]
   exact⟨by omega,h3,h8,fun s hs hsn=>h9 s hs (by omega) hsn⟩
  ·rw[if_neg e]
   obtain⟨a,b,c,d⟩:=hp t (by omega)
   exact⟨by omega,b,c,d⟩
 ·rcases(show k<j∨k=j by omega)with g|rfl
  ·exact h7 i k (by omega) hin g hkn
  ·exact h9 i (by omega) (by omega) hin
theorem elimR.step{n:Nat}(hn:n≤4){A C C':Nat→Nat→Int}{r j m:Nat}(h:elimR n A C r j m)(hm:m<n)(h1:∀i k,i<n→k<n→i≠m→C' i k=C i k)(h2:∀k,k<n→C' m k=C m k*C r j-C r k*C m j):elimR n A C' r j (m+1):=by
 obtain⟨g1,g2,g3,g4,⟨U,hU,hC⟩,⟨p,hp⟩,g7,g8,g9⟩:=h
 refine⟨g1,g2,g3,by omega,⟨jd n (fun i k=>if i=m then(if k=m then C r j else if k=r then-C m j else 0)else if i=k then 1 else 0) U,?_,fun i k hi hk=>?_⟩,⟨p,fun t ht=>?_⟩,fun i k hi hin hk hkn=>?_,?_,fun i hi him hin=>?_⟩
 ·rw[Qn hn]
  intro e
  rcases Int.mul_eq_zero.1 e with e|e
  ·exact abp hn hm g1 (by omega) (C r j) (C m j) g8 e
  ·exact hU e
 ·rw[QZ]
  show C' i k=qm (fun t=>(if i=m then(if t=m then C r j else if t=r then-C m j else 0)else if i=t then 1 else 0)*jd n U A t k) n
  by_cases e:i=m
  ·subst e
   have e2:qm (fun t=>(if i=i then(if t=i then C r j else if t=r then-C i j else 0)else if i=t then 1 else 0)*jd n U A t k) n=qm (fun t=>(if t=i then C r j*C i k else 0)+(if t=r then-C i j*C r k else 0)) n:=qp fun t ht=>by
    rw[if_pos rfl,←hC t k ht hk]
    by_cases a:t=i
    ·rw[if_pos a,if_pos a,if_neg (show ¬t=r by omega),a,Int.add_zero]
    ·rw[if_neg a,if_neg a]
     by_cases b:t=r
     ·rw[if_pos b,if_pos b,b,Int.zero_add]
     ·rw[if_neg b,if_neg b,Int.zero_mul,Int.add_zero]
   rw[e2,yU,zC (j:=i) hi (fun t _ hne=>if_neg hne),zC (j:=r) g1 (fun t _ hne=>if_neg hne),if_pos rfl,if_pos rfl,h2 k hk,Int.mul_comm (C i k),Int.neg_mul,Int.mul_comm (C r k)]
   omega
  ·rw[zC (j:=i) hi (fun t _ hne=>by rw[if_neg e,if_neg (fun h=>hne h.symm),Int.zero_mul]),if_neg e,if_pos rfl,Int.one_mul,h1 i k hi hk e]
   exact hC i k hi hk
 ·obtain⟨a,b,c,d⟩:=hp t ht
  refine⟨a,b,?_,fun s hts hsn=>?_⟩
  ·rw[h1 t (p t) (by omega) b (by omega)];exact c
  ·by_cases e:s=m
   ·rw[e,h2 _ b,d m (by omega) hm,d r (by omega) g1];simp
   ·rw[h1 s _ hsn b e];exact d s hts hsn
 ·by_cases e:i=m
  ·rw[e,h2 k hkn,g7 m k (by omega) hm hk hkn,g7 r k (by omega) g1 hk hkn];simp
  ·rw[h1 i k hin hkn e];exact g7 i k hi hin hk hkn
 ·rw[h1 r j g1 g3 (by omega)];exact g8
 ·by_cases e:i=m
  ·rw[e,h2 j g3,Int.mul_comm];omega
  ·rw[h1 i j hin g3 e];exact g9 i hi (by omega) hin
end Go.Ab
namespace Go.Ab
/-! ### Sums of powers of a matrix,at one scale-/
def p2(k:Nat):Int:=2^k
def arC(n:Nat)(P:Nat→Int)(A:Nat→Nat→Int)(m i j:Nat):Int:=qm (fun t=>P t*aoh n A t i j*p2 (40000-3000*(t+1))) m
end Go.Ab
namespace Go.Ab
open Go Go.Proofs
/-! ### What polynomials of a matrix are worth-/
end Go.Ab
namespace Go.Ab
open Go Go.Proofs
/-! ### What rounded quotients are worth-/
end Go.Ab
namespace Go.Ab
end Go.Ab
namespace Go.Ab
open Go Go.Proofs
/-! ### Rational points of intervals-/
def SpV.eK(K:Nat)(s:SpV):Prop:= -(K:Int)≤s.lo.e∧ -(K:Int)≤s.hi.e
def inS(K:Nat)(s:SpV)(N D:Int):Prop:=s.lo.val K*D≤N∧N≤s.hi.val K*D
theorem ada{s:SpV}(h:s.ok=true):s.eK 3000∧s.lo.val 3000≤s.hi.val 3000∧s.lo.ok=true∧s.hi.ok=true:=by
 have h:(s.lo.ok&&(s.hi.ok&&decide (s.lo.val 3000≤s.hi.val 3000)))=true:=h
 simp only[Bool.and_eq_true,decide_eq_true_eq]at h
 exact⟨⟨(aag h.1).1.1,(aag h.2.1).1.1⟩,h.2.2,h.1,h.2.1⟩
end Go.Ab
namespace Go.Ab
open Go Go.Proofs
/-! ### Matrices of intervals-/
structure imatV(n:Nat)(S:List SpV):Prop where
 n1:1≤n
 n4:n≤4
 len:S.length=n*n
 ok:∀s∈S,s.ok=true
theorem imatV.bd{n:Nat}{S:List SpV}(h:imatV n S):sbd (-3000) 4600 S:=fun s hs=>ahm (h.ok s hs)
def aqa(k:Int)(M:List IvV):Bool:=(decide (1≤k)&&decide (k≤4))&&(decide ((M.length:Int)=k*k)&&M.all ivB)
def fN(n:Nat)(l:List SpV):Nat:=if l.all SpV.fit=true then n else 0
def fT(l:List SpV):List SpV:=if l.all SpV.fit=true then l.map SpV.can else []
def ar6(k:Int)(M:List IvV)(k':Int)(M':List IvV):Bool:=aqa k M&&(aqa k' M'&&decide (k=k'))
def arU(S:List SpV)(L:List ExV)(k:Nat):Bool:=(List.range k).all fun i=>aqE (S.getD i sp0) (L.getD i ex0)
end Go.Ab
namespace Go.Ab
open Go Go.Proofs
/-! ### Drawn matrices of intervals-/
def arL(r:AV):Prop:=∃(n:Int) (l:List IvV),l.length≤16∧(∀v∈l,ap9 v)∧r=.ag [.v (.int .i64 n),.sl l.length (qj IvV.cs l)]
section
variable (l:List UInt8)(hl:l.length≤9223372036854775807)(i h:Int)(hi:0≤i∧i≤l.length)
include hl hi
end
def arP(M:List IvV):Prop:=M.length≤16∧∀v∈M,ap9 v
end Go.Ab
namespace Go.Ab
open Go Go.Proofs
end Go.Ab
namespace Go.Ab
open Go Go.Proofs
def aqh:ExV:=⟨false,5,1⟩
def arT:SpV:=⟨aqh,aqh⟩
end Go.Ab
namespace Go.Ab
open Go Go.Proofs
/-! ### Points of matrices of intervals-/
def inM(K:Nat)(S:List SpV)(L:List ExV)(k:Nat):Prop:=∀i,i<k→inS K (S.getD i sp0) ((L.getD i ex0).val K) 1
theorem alc{l:List SpV}{i:Nat}(h:i<l.length):l.getD i sp0∈l:=by
 rw[List.getD_eq_getElem?_getD,List.getElem?_eq_getElem h];exact List.getElem_mem _
theorem imatV.eK{n K:Nat}{S:List SpV}(h:imatV n S)(hK:3000≤K){i:Nat}(hi:i<n*n):(S.getD i sp0).eK K:=by
 have:=(ada (h.ok _ (alc (by rw[h.len];exact hi)))).1
 exact⟨by have:=this.1;omega,by have:=this.2;omega⟩
end Go.Ab
namespace Go.Ab
open Go Go.Proofs
/-! ### Widened,rounded and divided matrices of intervals-/
end Go.Ab
namespace Go.Ab
open Go Go.Proofs
def aq4(s t:SpV):Bool:=decide ((aax s t).lo.val 3000≤(aax s t).hi.val 3000)
def dgO(n:Nat)(y:ExV):Nat→List (Option ExV)
 |0=>List.replicate (n*n) none
 |k+1=>(dgO n y k).set (k*n+k) (some y)
def dgE(n:Nat)(y:ExV):List ExV:=(dgO n y n).map fun o=>o.getD ex0
end Go.Ab
namespace Go.Ab
open Go Go.Proofs
def aqo(s:SpV):ExV:=s.hi.plus s.lo.neg
end Go.Ab
namespace Go.Ab
open Go Go.Proofs
def ex3:ExV:=⟨false,3,0⟩
end Go.Ab
namespace Go.Ab
open Go Go.Proofs
/-! ### What is held of the exponential of any matrix-/
def hvN(y:ExV):Nat:=if y.m=0 then 0 else(y.top+1).toNat
def gSt(n:Nat)(b:List SpV)(w:Int):Nat→List SpV×List SpV
 |0=>((gId n).map ptS,(gId n).map ptS)
 |i+1=>(amY (gSt n b w i).1 ((JY n (gSt n b w i).2 b).map fun s=>s.divd (i+1) w),(JY n (gSt n b w i).2 b).map fun s=>s.divd (i+1) w)
def gSq(n:Nat)(w:Int)(F:List SpV):Nat→List SpV
 |0=>F
 |k+1=>(JY n (gSq n w F k) (gSq n w F k)).map fun s=>s.out w
def gFt(n:Nat)(b:List SpV)(B:Nat):List SpV:=(gSt n b (-(B:Int)) (tmF B)).1.map fun s=>s.fat (ex1.shift (-(B:Int)))
def gB(n:Nat)(L:List ExV)(s:Nat):List SpV:=(Qi n L (ex1.shift (-(s:Int)))).map ptS
def aou(n:Nat)(L:List ExV)(s B:Nat)(low:Int):List SpV:=(gSq n (-(B:Int)) (gFt n (gB n L s) B) s).map fun s=>s.out (low-4)
end Go.Ab
namespace Go.Ab
/-! ### How far a rounded inverse is off-/
end Go.Ab
namespace Go.Ab
/-! ### Sums of the exponential's row,in whole numbers-/
def ab(x:Int):Int:=(x.natAbs:Int)
structure smallI(n:Nat)(N:Nat→Nat→Int)(c:Int):Prop where
 pos:0<c
 le:2*nrm N n≤c
def fr:Nat→Nat→Int
 |0,_=>1
 |T+1,t=>if t≤T then fr T t*((T:Int)+1)else 1
def eE(n:Nat)(N:Nat→Nat→Int)(c:Int)(T i j:Nat):Int:=qm (fun t=>fr T t*c^(T-t)*aoh n N t i j) (T+1)
def eD(c:Int)(T:Nat):Int:=fr T 0*c^T
end Go.Ab
namespace Go.Ab
/-! ### Products of sums of the exponential's row-/
def cv(u v:Nat→Int)(k:Nat):Int:=qm (fun i=>u i*v (k-i)) (k+1)
end Go.Ab
namespace Go.Ab
/-! ### Squares,and what is aqT a multiple of one-/
def trI(n:Nat)(A:Nat→Nat→Int)(i j:Nat):Int:=if i<n∧j<n then A i j else 0
def sqI(n:Nat):Nat→(Nat→Nat→Int)→Nat→Nat→Int
 |0,M=>M
 |k+1,M=>jd n (sqI n k M) (sqI n k M)
def sqD:Nat→Int→Int
 |0,d=>d
 |k+1,d=>sqD k d*sqD k d
def aqT(n:Nat)(M:Nat→Nat→Int)(D p q:Int):Prop:=∀u v,u<n→v<n→ab (M u v-D*idI u v)*q≤D*p
end Go.Ab
namespace Go.Ab
open Go Go.Proofs
/-! ### Rational points of matrices of intervals-/
def inR(K:Nat)(s:SpV)(N D:Int):Prop:=inS K s (N*p2 K) D
theorem SpV.eK.up{K K':Nat}{s:SpV}(hs:s.eK K)(h:K≤K'):s.eK K':=by
 obtain⟨a,b⟩:=hs
 exact⟨by omega,by omega⟩
def rtM(n:Nat)(S:List SpV)(M:Nat→Nat→Int)(D:Int):Prop:=∃K:Nat,(∀i,i<n*n→(S.getD i sp0).eK K)∧∀i j,i<n→j<n→inR K (S.getD (i*n+j) sp0) (M i j) D
end Go.Ab
namespace Go.Ab
open Go Go.Proofs
/-! ### What is held has all long sums of the exponential's row-/
end Go.Ab
namespace Go.Ab
open Go Go.Proofs
/-! ### What is held is always told:how great its ends are-/
def spA(K:Nat)(s:SpV)(q:Int):Prop:=s.eK K∧ab (s.lo.val K)≤q∧ab (s.hi.val K)≤q
def mgA(n K:Nat)(S:List SpV)(q:Int):Prop:=∀i,i<n*n→spA K (S.getD i sp0) q
def mK(B:Nat):Nat→Int
 |0=>p2 B
 |k+1=>mK B k/2+1
def sK(B:Nat):Nat→Int
 |0=>p2 B
 |k+1=>sK B k+mK B (k+1)
def lK:Nat→Nat
 |0=>3
 |k+1=>2*lK k+2
end Go.Ab
namespace Go.Ab
open Go Go.Proofs
def ar5(n:Nat)(L:List ExV)(low:Int):Bool:=(decide (-120≤low)&&decide (low≤0))&&decide ((ah2 n L n).cmp (exN 64)≤0)
end Go.Ab
namespace Go.Ab
open Go Go.Proofs
/-! ### The exponential of a matrix that may be asked for-/
def exS(n:Nat)(L:List ExV):Nat:=hvN (ah2 n L n)
def anX(n:Nat)(L:List ExV)(low:Int):Nat:=(12+2*(exS n L:Int)-low).toNat
def exH(n:Nat)(L:List ExV)(low:Int):List SpV:=aou n L (exS n L) (anX n L low) low
structure askF(n:Nat)(L:List ExV)(low:Int):Prop where
 lo: -120≤low∧low≤0
 s8:exS n L≤8
 B:12≤anX n L low∧anX n L low≤148
 w:low-2*(exS n L:Int)-12= -(anX n L low:Int)
 bd:sbd (-3100) 0 (gB n L (exS n L))
 small:smallI n (fun i j=>mv 3000 L n i j) (p2 (3000+exS n L))
theorem aqe{n s:Nat}{L:List ExV}:gB n L s=(Qi n L (ex1.shift (-(s:Int)))).map ptS:=rfl
def exT(n:Nat)(L:List ExV)(low:Int):List SpV:=(exH n L low).map SpV.can
end Go.Ab
namespace Go.Ab
open Go Go.Proofs
/-! ### Numbers told in rows of their own-/
def ivO(u v:ExV):AV→List Ob→List Ob→Prop:=fun r hs bs=>((lim u.m)=[]∧(lim v.m)=[]∧r=.tu [.ag [.v (.bool u.s),.v (.slice none 0 0),.v (.int .i64 u.e),.v (.bool v.s),.v (.slice none 0 0),.v (.int .i64 v.e)],.v (.bool true)]∧hs=[])∨((lim u.m)=[]∧r=.tu [.ag [.v (.bool u.s),.v (.slice none 0 0),.v (.int .i64 u.e),.v (.bool v.s),.rf 0 0 (lim v.m).length,.v (.int .i64 v.e)],.v (.bool true)]∧hs=[.own 1 (qi (lim v.m))])∨((lim v.m)=[]∧r=.tu [.ag [.v (.bool u.s),.rf 0 0 (lim u.m).length,.v (.int .i64 u.e),.v (.bool v.s),.v (.slice none 0 0),.v (.int .i64 v.e)],.v (.bool true)]∧hs=[.own 1 (qi (lim u.m))])∨(r=.tu [.ag [.v (.bool u.s),.rf 0 0 (lim u.m).length,.v (.int .i64 u.e),.v (.bool v.s),.rf 1 0 (lim v.m).length,.v (.int .i64 v.e)],.v (.bool true)]∧hs=[.own 1 (qi (lim u.m)),.own 1 (qi (lim v.m))])
end Go.Ab
namespace Go.Ab
open Go Go.Proofs
/-! ### The specification's matrices:everything in its one form-/
def gcT(n:Nat)(l l':List ExV)(k:Nat):List ExV:=gl n (fun i j=>(apz n l l' i j n).can) k
end Go.Ab
namespace Go.Ab
open Go Go.Proofs
end Go.Ab
namespace Go.Ab
open Go Go.Proofs
end Go.Ab
namespace Go.Ab
open Go Go.Proofs
def quK(N D:Nat):Int:=58-((bl N:Int)-(bl D:Int))
def quA(N D:Nat):Nat:=N*2^(quK N D).toNat
def quB(N D:Nat):Nat:=D*2^(-quK N D).toNat
def quQ(N D:Nat):Nat:=stk (quA N D) (quB N D)
def quT(N D:Nat):Int:=if quB N D*2^58≤quA N D then(bl N:Int)-(bl D:Int)+1 else(bl N:Int)-(bl D:Int)
end Go.Ab
namespace Go.Ab
open Go Go.Proofs
end Go.Ab
namespace Go.Ab
open Go Go.Proofs
def ar0(xs:List Int)(e:Int):Bool:=
 Yl xs&&((decide (-800≤e)&&decide (e≤800))&&(decide ((vl xs).toNat % 10≠0)||(decide (xs.length=0)&&decide (e=0))))
def dfV(s:Bool)(m:Nat)(e mode:Int):FlV:=if m=0 then⟨0,s,0,0⟩else flV s (quQ (m*10^e.toNat) (10^(-e).toNat)) (-quK (m*10^e.toNat) (10^(-e).toNat)-1) mode s
def dfG(s:Bool)(m:Nat)(e mode:Int):Int:=if m=0 then 0 else flG s (quQ (m*10^e.toNat) (10^(-e).toNat)) (-quK (m*10^e.toNat) (10^(-e).toNat)-1) mode
end Go.Ab
namespace Go.Ab
open Go Go.Proofs
end Go.Ab
namespace Go.Ab
open Go Go.Proofs
/-! ### The specification's numbers of any size,in their one form-/
end Go.Ab
namespace Go.Ab
open Go Go.Proofs
def zpT(F:SpV→SpV→SpV)(l l':List SpV)(i:Nat):List SpV:=(List.range i).map fun i=>F (l.getD i sp0) (l'.getD i sp0)
def aqY(s t:SpV):SpV:=⟨JL ((VH ExV.times s t).map ExV.can),YK ((VH ExV.times s t).map ExV.can)⟩
def csD(n:Nat)(l l':List SpV)(i j:Nat):Nat→SpV
 |0=>sp0
 |k+1=>((csD n l l' i j k).plus (aqY (l.getD (i*n+k) sp0) (l'.getD (k*n+j) sp0))).can
def scT(n:Nat)(l l':List SpV)(k:Nat):List SpV:=gly n (fun i j=>csD n l l' i j n) k
end Go.Ab
namespace Go.Ab
open Go Go.Proofs
/-! ### The specification's exponential-/
end Go.Ab
namespace Go.Ab
open Go Go.Proofs
/-! ### The specification's own simp(disch:=omega)only[go_sem] to the exponential:sizes and numbers of steps-/
def csN(n:Nat)(l:List ExV)(j:Nat):Nat→ExV
 |0=>ex0
 |k+1=>((csN n l j k).plus (l.getD (k*n+j) ex0).abs).can
def nsN(n:Nat)(l:List ExV):Nat→ExV
 |0=>ex0
 |j+1=>amh (nsN n l j) (csN n l j n)
end Go.Ab
namespace Go.Ab
open Go Go.Proofs
def pwE(k:Int):ExV:=⟨false,1,k⟩
end Go.Ab
namespace Go.Ab
open Go Go.Proofs
/-! ### The specification's exponential,held-/
def arz(K:Nat)(s:SpV):Prop:=s.eK K∧s.lo.val K≤s.hi.val K
def seK(K:Nat)(l:List SpV):Prop:=∀s∈l,s.eK K
end Go.Ab
namespace Go.Ab
open Go Go.Proofs
/-! ### The specification's exponential of a matrix and of a number-/
end Go.Ab
namespace Go.Ab
open Go Go.Proofs
end Go.Ab
namespace Go.Ab
open Go Go.Proofs
theorem Yf(l:List DyV)(hl:l.length≤1048576)(hx:∀d∈l,d.xs.length≤2^60):Con Try.prog 11 true [.sl l.length (qj DyV.cs l),.sl l.length (qj DyV.cs l)] [] (isA (.v (.bool true))):=by
 refine Con.of_w (rs:=[.tmp 4]) Try.func11 rfl Try.ntmps11 rfl ?_
 simp(disch:=omega)only[go_sem]
 refine qd (fun i:Nat=>[(0,.sl l.length (qj DyV.cs l)),(1,.sl l.length (qj DyV.cs l)),(5,.v (.int .i64 i))]) (fun _=>[]) (fun i=>i≤l.length) (fun i=>l.length-i) 0 (by omega)
  (Le.lst [] _ _ rfl (by simp(disch:=omega)only[go_sem]) (by simp(disch:=omega)only[go_sem])) ?_
 intro i hi
 simp(disch:=omega)only[go_sem]
 refine qe (fun h1=>?_) (fun h1=>?_)
 ·have hi2:i<l.length:=by omega
  have hcut:=ZT (l:=l) (i:=i) hi2
  have hdm:(l.getD i dy0).xs.length≤2^60:=hx _ (by rw[List.getD_eq_getElem?_getD,List.getElem?_eq_getElem hi2];exact List.getElem_mem _)
  generalize l.getD i dy0=d at*
  simp(disch:=omega)only[go_sem,h1]
  refine qX rfl [⟨0,[],[]⟩,⟨1,[],[]⟩,⟨2,[],[]⟩,⟨3,[],[]⟩,⟨4,[3],[]⟩,⟨5,[3],[]⟩,⟨6,[3],[]⟩,⟨7,[3],[]⟩,⟨8,[],[]⟩,⟨9,[],[]⟩] (by kernel_rfl) ?_
  simp(disch:=omega)only[go_sem,hcut]
  refine⟨by omega,by omega,by omega,by omega,?_⟩
  refine qt (afb d.s d.xs d.e hdm) ?_
  simp(disch:=omega)only[go_sem]
  exact qc (i+1) [] (by show i+1≤_;omega) (by show l.length-(i+1)<l.length-i;omega) rfl (by simp(disch:=omega)only[go_sem];try omega) (by simp(disch:=omega)only[go_sem])
 ·simp(disch:=omega)only[go_sem,h1]
  exact qC
theorem aiv{x:Nat}(hx:20000000≤x):qY x=false:=by
 unfold qY
 have:Nat.blt x 20000000=false:=by
  cases h:Nat.blt x 20000000 with
  |false=>rfl
  |true=>simp[Nat.blt]at h;omega
 rw[this,Bool.and_false]
theorem Ja{ρ:Nat→Nat}{h:Nat→Ob}{c n:Nat}{F:Nat→Ob}(hF:∀j,K9 (F j)):Jb ρ h c ((List.range n).map F)=fam c n F h:=by
 funext m
 rw[jb]
 unfold fam
 rw[List.length_map,List.length_range]
 by_cases hm:c≤m∧m<c+n
 ·rw[if_pos hm,if_pos hm,List.getD_eq_getElem?_getD,List.getElem?_map,List.getElem?_range (by omega)]
  exact(hF _).2.1 ρ
 ·rw[if_neg hm,if_neg hm]
theorem YB{c n:Nat}{l:List DyV}(hn:n<9000000):qL (rho c []) (qj (dcs 1) (prs l n))=qj (dcs (c+1)) (prs l n):=zV fun p hp=>by
 have:=y6 hp
 unfold rho
 rw[if_pos (by omega)];omega
theorem Qj{h:Nat→Ob}{c n:Nat}{row:Ob}{F:Nat→Ob}(hh:∀j,j≤n→h (c+j)=.free):qv h c (row::(List.range n).map F):=by
 have key:∀(L:List Ob) (k:Nat),(∀j,j<L.length→h (k+j)=.free)→qv h k L:=by
  intro L
  induction L with
  |nil=>intro k _;trivial
  |cons a L ih=>
   intro k hk
   refine⟨hk 0 (by simp),ih (k+1) fun j hj=>?_⟩
   have:=hk (j+1) (by simpa using hj)
   rwa[show k+1+j=k+(j+1) by omega]
 exact key _ c fun j hj=>hh j (by simp at hj;omega)
set_option maxRecDepth 100000 in
theorem VL(n:Int)(l:List DyV)(hl:l.length≤1048576)(hx:∀d∈l,d.xs.length≤1048576):Con Try.prog 17 false [.ag [.v (.int .i64 n),.sl l.length (qj DyV.cs l)]] []
  (fun r hs bs=>r=.ag [.v (.int .i64 n),.rf 0 0 l.length]∧hs=.own 3 (qj (dcs 1) (prs l l.length))::(List.range l.length).map (aaD l)):=by
 refine Con.of_w (rs:=[.cell 2 39]) Try.func17 rfl Try.ntmps17 rfl ?_
 simp(disch:=omega)only[go_sem]
 refine qD (jF l hl hx) (by simp(disch:=omega)only[go_sem]) ?_
 rintro r hs ⟨rfl,rfl⟩
 refine⟨⟨by simp;omega,Qj fun j hj=>?_⟩,?_⟩
 ·rw[qg (by omega),qg (by omega),qg (by omega),qg (by omega),XK (by omega)]
 have hrow:=@YB 110000000 l.length l (by omega)
 simp(disch:=omega)only[go_sem,Ja (q2 l),qr,hrow]
 refine abc (fun m=>110000000+m) (.own 3 (qj (dcs 1) (prs l l.length))) l.length (aaD l) [.ag [.v (.int .i64 n),.rf 0 0 l.length]] (by omega) (by simp(disch:=omega)only[go_sem,aiA,nmF,zS];try simp) ⟨?_,?_,trivial⟩ (fun j hj=>⟨?_,(q2 l j).2.2 _,(q2 l j).1⟩) (fun m hm=>aiv (by omega)) (fun m m' hm hm' e=>Nat.add_left_cancel e) (by simp) ⟨rfl,rfl⟩
 ·show Ob.own 3 (qL _ (qj (dcs 1) (prs l l.length)))=_
  rw[zV (a:=1) (b:=110000001) (fun p hp=>by omega),qg (by omega),qg (by omega),qr (by omega),qf]
 ·exact zO fun p hp=>.inr (by have:=y6 hp;omega)
 ·rw[(q2 l j).2.1,qg (by omega),qg (by omega),show 110000000+(1+j)=110000001+j by omega,zk hj]
end Go.Ab
namespace Go.Ab
open Go Go.Proofs
/-! ### Marks in a row of numbers-/
def prF(f:Nat→DyV)(n:Nat):List (Nat×DyV):=(List.range n).map fun j=>(j,f j)
def je(f:Nat→DyV)(j:Nat):Ob:=.own 1 (qi (f j).xs)
theorem qQ(f:Nat→DyV)(j:Nat):K9 (je f j):=⟨trivial,fun ρ=>by show Ob.own 1 (qL ρ (qi _))=_;rw[j1];rfl,fun p=>by show AllL p (qi _);exact j5⟩
theorem ahH{f:Nat→DyV}{n:Nat}:(prF f n).length=n:=by simp[prF]
theorem jR{f:Nat→DyV}{n:Nat}{p:Nat×DyV}(h:p∈prF f n):p.1<n:=by
 obtain⟨j,hj,rfl⟩:=List.mem_map.1 h
 exact List.mem_range.1 hj
def kAt(k:Nat)(f:Nat→DyV):Nat→Nat
 |0=>k
 |j+1=>kAt k f j+(f j).xs.length+2
def mkd(k:Nat)(f:Nat→DyV)(j:Nat):DyV:=⟨decide (((kAt k f j:Nat):Int) % 3=0),mkI (kAt k f j+1) (f j).xs.length,((kAt k f j+1+(f j).xs.length:Nat):Int)⟩
def jB(k:Nat)(f:Nat→DyV)(i j:Nat):DyV:=if j<i then mkd k f j else f j
theorem aat{k:Nat}{f:Nat→DyV}:jB k f 0=f:=by funext j;exact if_neg (by omega)
theorem ais{k:Nat}{f:Nat→DyV}{i:Nat}:jB k f i i=f i:=if_neg (by omega)
def jh(S X E:Nat→AV)(n:Nat):List AV:=qj (fun j=>[S j,X j,E j]) (List.range n)
theorem zp{S X E:Nat→AV}{n:Nat}:(jh S X E n).length=n*3:=by
 unfold jh;rw[zD (z:=3) (fun _=>rfl),List.length_range]
theorem zJ{S X E:Nat→AV}:∀(n m:Nat),(jh S X E n)[m]? =if m/3<n then some (if m % 3=0 then S (m/3)else if m % 3=1 then X (m/3)else E (m/3))else none
 |0,m=>by rw[if_neg (by omega)];rfl
 |n+1,m=>by
  have e:jh S X E (n+1)=jh S X E n++[S n,X n,E n]:=by
   unfold jh
   rw[List.range_succ,←y4,qF,yn,List.append_nil]
  rw[e]
  rcases Nat.lt_or_ge m (n*3)with c|c
  ·have h1:m/3<n:=by omega
   have h2:m/3<n+1:=by omega
   rw[List.getElem?_append_left (by rw[zp];exact c),zJ n m,if_pos h1,if_pos h2]
  ·rw[List.getElem?_append_right (by rw[zp];exact c),zp]
   rcases(show m=n*3∨m=n*3+1∨m=n*3+2∨n*3+3≤m by omega)with rfl|rfl|rfl|c2
   ·rw[if_pos (by omega),if_pos (by omega),show n*3-n*3=0 by omega,show n*3/3=n by omega];rfl
   ·rw[if_pos (by omega),if_neg (by omega),if_pos (by omega),show n*3+1-n*3=1 by omega,show(n*3+1)/3=n by omega];rfl
   ·rw[if_pos (by omega),if_neg (by omega),if_neg (by omega),show n*3+2-n*3=2 by omega,show(n*3+2)/3=n by omega];rfl
   ·rw[if_neg (by omega),List.getElem?_eq_none (by simp;omega)]
theorem K1{S X E:Nat→AV}{n i:Nat}{x:AV}(hi:i<n):wr (jh S X E n) (i*3) [x]=jh (upd S i x) X E n:=by
 show(jh S X E n).set (i*3) x=_
 apply List.ext_getElem?
 intro m
 rw[List.getElem?_set,zJ,zJ,zp]
 by_cases hm:i*3=m
 ·subst hm
  rw[if_pos rfl,if_pos (by omega),if_pos (by omega),if_pos (by omega),show i*3/3=i by omega,qf]
 ·rw[if_neg hm]
  by_cases h1:m/3<n
  ·rw[if_pos h1,if_pos h1]
   by_cases h2:m % 3=0
   ·rw[if_pos h2,if_pos h2,qg (by omega)]
   ·rw[if_neg h2,if_neg h2]
  ·rw[if_neg h1,if_neg h1]
theorem K2{S X E:Nat→AV}{n i:Nat}{x:AV}(hi:i<n):wr (jh S X E n) (i*3+2) [x]=jh S X (upd E i x) n:=by
 show(jh S X E n).set (i*3+2) x=_
 apply List.ext_getElem?
 intro m
 rw[List.getElem?_set,zJ,zJ,zp]
 by_cases hm:i*3+2=m
 ·subst hm
  rw[if_pos rfl,if_pos (by omega),if_pos (by omega),if_neg (by omega),if_neg (by omega),show(i*3+2)/3=i by omega,qf]
 ·rw[if_neg hm]
  by_cases h1:m/3<n
  ·rw[if_pos h1,if_pos h1]
   by_cases h2:m % 3=0
   ·rw[if_pos h2,if_pos h2]
   ·rw[if_neg h2,if_neg h2]
    by_cases h3:m % 3=1
    ·rw[if_pos h3,if_pos h3]
    ·rw[if_neg h3,if_neg h3,qg (by omega)]
  ·rw[if_neg h1,if_neg h1]
theorem alo{S X E:Nat→AV}{n i:Nat}(hi:i<n):cut (jh S X E n) (i*3+1) 1=[X i]:=by
 have h:=zJ (S:=S) (X:=X) (E:=E) n (i*3+1)
 rw[if_pos (by omega),if_neg (by omega),if_pos (by omega),show(i*3+1)/3=i by omega]at h
 obtain⟨h1,h2⟩:=List.getElem?_eq_some_iff.1 h
 unfold cut
 rw[List.drop_eq_getElem_cons h1,h2]
 rfl
def cS(f:Nat→DyV)(j:Nat):AV:=.v (.bool (f j).s)
def cX(b:Nat)(f:Nat→DyV)(j:Nat):AV:=.rf (b+j) 0 (f j).xs.length
def cE(f:Nat→DyV)(j:Nat):AV:=.v (.int .i64 (f j).e)
theorem anb{b:Nat}{f:Nat→DyV}{n:Nat}:qj (dcs b) (prF f n)=jh (cS f) (cX b f) (cE f) n:=by
 unfold qj jh prF qj
 rw[List.map_map];rfl
theorem aaz{h:Nat→Ob}{sz n i:Nat}{S X E:Nat→AV}{K:AV→Prop}(hi:i<n):@jp false sz h (.fp (jh S X E n) (i*3+1)) ⟨K⟩=K (X i):=by
 have hg:=zJ (S:=S) (X:=X) (E:=E) n (i*3+1)
 rw[if_pos (by omega),if_neg (by omega),if_pos (by omega),show(i*3+1)/3=i by omega]at hg
 rw[ZF,alz,cond_false,zp,List.getD_eq_getElem?_getD,hg]
 exact propext ⟨fun h=>h.2,fun h=>⟨by omega,h⟩⟩
theorem ado{p:Nat→Prop}{S X E:Nat→AV}{n:Nat}(h:∀j,j<n→(S j).All p∧(X j).All p∧(E j).All p):AllL p (jh S X E n):=by
 unfold jh
 have key:∀L:List Nat,(∀j∈L,j<n)→AllL p (qj (fun j=>[S j,X j,E j]) L):=by
  intro L
  induction L with
  |nil=>intro _;trivial
  |cons a L ih=>
   intro hL
   rw[qF]
   obtain⟨h1,h2,h3⟩:=h a (hL a (List.mem_cons_self ..))
   exact⟨h1,h2,h3,ih fun j hj=>hL j (List.mem_cons_of_mem _ hj)⟩
 exact key _ fun j hj=>List.mem_range.1 hj
theorem adn{ρ:Nat→Nat}{S X E:Nat→AV}{n:Nat}(h:∀j,j<n→(S j).ren ρ=S j∧(X j).ren ρ=X j∧(E j).ren ρ=E j):qL ρ (jh S X E n)=jh S X E n:=by
 unfold jh
 have key:∀L:List Nat,(∀j∈L,j<n)→qL ρ (qj (fun j=>[S j,X j,E j]) L)=qj (fun j=>[S j,X j,E j]) L:=by
  intro L
  induction L with
  |nil=>intro _;rfl
  |cons a L ih=>
   intro hL
   obtain⟨h1,h2,h3⟩:=h a (hL a (List.mem_cons_self ..))
   rw[qF,j2,ih fun j hj=>hL j (List.mem_cons_of_mem _ hj)]
   congr 1
   show [_,_,_]=_
   rw[h1,h2,h3]
 exact key _ fun j hj=>List.mem_range.1 hj
theorem Vg{S X E S' X' E':Nat→AV}{n:Nat}(h:∀j,j<n→S j=S' j∧X j=X' j∧E j=E' j):jh S X E n=jh S' X' E' n:=by
 unfold jh qj
 congr 1
 refine List.map_congr_left fun j hj=>?_
 obtain⟨h1,h2,h3⟩:=h j (List.mem_range.1 hj)
 rw[h1,h2,h3]
def isV(a:AV):Prop:=∃x,a=.v x
theorem Le.sameF{σ:St}(E:List (Nat×AV))(n:Nat)(f g:Nat→DyV)(A C:Nat→AV)(hA:∀j,isV (A j))(hC:∀j,isV (C j))
  (hE:JM id σ.env (nmF [10000000] 10000001 n) E) (h0:σ.hp 10000000=.own 3 (jh A (cX 10000001 f) C n)) (hF:∀j,j<n→σ.hp (10000001+j)=je g j):
  Le σ ⟨ofL .un E,fam 10000001 n (je g) (ofH [(10000000,.own 3 (jh A (cX 10000001 f) C n))])⟩:=by
 refine Le.famL id E [(10000000,.own 3 (jh A (cX 10000001 f) C n))] 10000001 n (je g) rfl (fun q hq=>by rw[List.mem_singleton.1 hq];exact .inl (by show 10000000<10000001;omega)) hE ⟨⟨?_,?_,trivial⟩,trivial⟩
  (fun j hj=>⟨?_,(qQ g j).2.2 _,(qQ g j).1⟩) (fun m hm=>⟨fun h=>rfl,fun h=>h⟩) (fun m m' hm hm' h=>h)
 ·show Ob.own 3 (qL id _)=σ.hp 10000000
  rw[h0,adn fun j hj=>?_]
  obtain⟨x,hx⟩:=hA j
  obtain⟨y,hy⟩:=hC j
  rw[hx,hy]
  exact⟨rfl,rfl,rfl⟩
 ·show AllL _ _
  refine ado fun j hj=>?_
  obtain⟨x,hx⟩:=hA j
  obtain⟨y,hy⟩:=hC j
  rw[hx,hy]
  exact⟨trivial,.inr (by omega),trivial⟩
 ·rw[(qQ g j).2.1]
  exact(hF j hj).symm
theorem aqj(f:Nat→DyV)(j:Nat):isV (cS f j):=⟨_,rfl⟩
theorem aqk(f:Nat→DyV)(j:Nat):isV (cE f j):=⟨_,rfl⟩
theorem amj{k:Nat}{f:Nat→DyV}{i:Nat}:upd (cS (jB k f i)) i (.v (.bool (decide (((kAt k f i:Nat):Int) % 3=0))))=cS (jB k f (i+1)):=by
 funext j
 by_cases hj:j=i
 ·subst hj;rw[qf];unfold cS jB;rw[if_pos (by omega)];rfl
 ·rw[qg hj]
  unfold cS jB
  by_cases h:j<i
  ·rw[if_pos h,if_pos (by omega)]
  ·rw[if_neg h,if_neg (by omega)]
theorem amk{k:Nat}{f:Nat→DyV}{i:Nat}:upd (cE (jB k f i)) i (.v (.int .i64 ((kAt k f i+1+(f i).xs.length:Nat):Int)))=cE (jB k f (i+1)):=by
 funext j
 by_cases hj:j=i
 ·subst hj;rw[qf];unfold cE jB;rw[if_pos (by omega)];rfl
 ·rw[qg hj]
  unfold cE jB
  by_cases h:j<i
  ·rw[if_pos h,if_pos (by omega)]
  ·rw[if_neg h,if_neg (by omega)]
theorem aef{k:Nat}{f:Nat→DyV}{i j:Nat}(hj:j≠i):je (jB k f (i+1)) j=je (jB k f i) j:=by
 unfold je jB
 by_cases h:j<i
 ·rw[if_pos h,if_pos (by omega)]
 ·rw[if_neg h,if_neg (by omega)]
theorem aau{k:Nat}{f:Nat→DyV}{i:Nat}:je (jB k f (i+1)) i=.own 1 (qi (mkI (kAt k f i+1) (f i).xs.length)):=by
 unfold je jB;rw[if_pos (by omega)];rfl
set_option maxRecDepth 100000 in
theorem Qt(f:Nat→DyV)(n k:Nat)(hn:n≤1048576)(hx:∀j,j<n→(f j).xs.length≤1048576)(hkb:∀i,i≤n→kAt k f i≤2^39):Con Try.prog 12 false [.rf 10000000 0 n,.v (.int .i64 k)] (.own 3 (qj (dcs 10000001) (prF f n))::(List.range n).map (je f))
  (fun r hs bs=>r=.v (.int .i64 (kAt k f n))∧hs=[]∧bs=.own 3 (qj (dcs 10000001) (prF (mkd k f) n))::(List.range n).map (je (mkd k f))):=by
 refine Con.of_aw Try.func12 rfl Try.ntmps12 (by simp) (by simp;omega) (fun ob ho=>?_) (W.sound ?_)
 ·rcases List.mem_cons.1 ho with rfl|ho
  ·simp
  ·obtain⟨j,hj,rfl⟩:=List.mem_map.1 ho
   simp[je]
 rw[abK (by omega)]
 show @W Try.prog 39 ⟨_⟩ ⟨fun x σ=>@q0 _ _ _ ⟨_⟩ _ ⟨_⟩ x σ⟩ _ _
 simp(disch:=omega)only[go_sem]
 rw[anb]
 refine Qc (S:=fun i:Nat=>⟨ofL .un [(0,.rf 10000000 0 n),(1,.v (.int .i64 (kAt k f i))),(5,.v (.int .i64 i))],fam 10000001 n (je (jB k f i)) (ofH [(10000000,.own 3 (jh (cS (jB k f i)) (cX 10000001 f) (cE (jB k f i)) n))])⟩) (fun i=>i≤n) (fun i=>n-i) 0 (by omega)
  ?_ ?_
 ·show Le _ ⟨ofL .un [(0,.rf 10000000 0 n),(1,.v (.int .i64 (kAt k f 0))),(5,.v (.int .i64 (0:Nat)))],fam 10000001 n (je (jB k f 0)) (ofH [(10000000,.own 3 (jh (cS (jB k f 0)) (cX 10000001 f) (cE (jB k f 0)) n))])⟩
  rw[aat]
  exact Le.sameF _ n f f (cS f) (cE f) (aqj f) (aqk f) (by simp(disch:=omega)only[go_sem,JM,nmF,zS,kAt];try simp) (by dsimp only;rw[qr (by omega)];rfl) (fun j hj=>by dsimp only;rw[zk hj])
 intro i hi
 show @W Try.prog 39 ⟨_⟩ ⟨_⟩ (ofL .un _) (fam 10000001 n _ (ofH _))
 have hki:=hkb i hi
 simp(disch:=omega)only[go_sem]
 refine qe (fun c1=>?_) (fun c1=>?_)
 ·have hi2:i<n:=by omega
  have hs1:=K1 (S:=cS (jB k f i)) (X:=cX 10000001 f) (E:=cE (jB k f i)) (x:=.v (.bool (decide (((kAt k f i:Nat):Int) % 3=0)))) hi2
  have hxi:=hx i hi2
  have e1:((kAt k f i:Nat):Int)+1=((kAt k f i+1:Nat):Int):=by omega
  have hcm:=J9 (kAt k f i+1) (f i).xs (by omega) (by have:=hkb i hi;omega)
  have hlim:je (jB k f i) i=.own 1 (qi (f i).xs):=by unfold je;rw[ais]
  simp(disch:=omega)only[go_sem,c1,qr,hs1,zp]
  refine⟨by omega,by omega,by omega,?_⟩
  rw[aaz hi2]
  rw[show cX 10000001 f i=.rf (10000001+i) 0 (f i).xs.length from rfl]
  simp(disch:=omega)only[go_sem,e1,qr]
  refine zi false [10000001+i] hcm (by show [snp _ _ 6 (.rf (10000001+i) 0 _),snp _ _ 6 (.v _)]=_;simp[snp,idx,qq]) ?_ rfl (zg (z:=1) (cs:=qi (f i).xs) ?_ (by simp(disch:=omega)only[go_sem])) (by intro n hn;exact⟨_,List.mem_cons_self ..,by rw[List.mem_singleton.1 hn];rfl⟩) ?_
  ·show [Ob.ren _ (upd _ _ _ (10000001+i))]=_
   rw[qg (by omega),zk hi2,hlim]
   show [Ob.own 1 (qL _ (qi _))]=_
   rw[j1]
  ·rw[qg (by omega),zk hi2,hlim]
  rintro r hs bs ⟨rfl,rfl,rfl⟩-
  refine⟨by simp[qv],?_⟩
  have hne:∀(a b:Ob),(if 10000000=10000001+i then a else b)=b:=fun a b=>if_neg (by omega)
  have hs2:=K2 (S:=cS (jB k f (i+1))) (X:=cX 10000001 f) (E:=cE (jB k f i)) (x:=.v (.int .i64 ((kAt k f i+1+(f i).xs.length:Nat):Int))) hi2
  rw[amk]at hs2
  have e2:((kAt k f i+1+(f i).xs.length:Nat):Int)+1=((kAt k f (i+1):Nat):Int):=by
   show _=((kAt k f i+(f i).xs.length+2:Nat):Int)
   omega
  have hS:=@amj k f i
  simp(disch:=omega)only[go_sem,qr,hne,hS,hs2,zp,e2]
  refine⟨⟨by omega,by omega⟩,by omega,Qb (i+1) (by show i+1≤n;omega) (by show n-(i+1)<n-i;omega) (Le.sameF _ n f (jB k f (i+1)) (cS (jB k f (i+1))) (cE (jB k f (i+1))) (aqj _) (aqk _) (by simp(disch:=omega)only[go_sem,JM,nmF,zS];exact⟨rfl,by omega⟩) ?_ (fun j hj=>?_))⟩
  ·dsimp only
   rw[qf]
  ·dsimp only
   rw[qg (by omega)]
   by_cases hji:j=i
   ·subst hji
    rw[qf,aau]
   ·rw[qg (by omega),qg (by omega),zk hj,aef hji]
 ·simp(disch:=omega)only[go_sem,c1]
  obtain rfl:i=n:=by omega
  have hrow:jh (cS (jB k f i)) (cX 10000001 f) (cE (jB k f i)) i=qj (dcs 10000001) (prF (mkd k f) i):=by
   rw[anb]
   refine Vg fun j hj=>?_
   have hm:jB k f i j=mkd k f j:=if_pos hj
   refine⟨by unfold cS;rw[hm],?_,by unfold cE;rw[hm]⟩
   show AV.rf _ _ _=AV.rf _ _ _
   rw[show(mkd k f j).xs.length=(f j).xs.length from YL _ _]
  have hlm:∀j,j<i→je (jB k f i) j=je (mkd k f) j:=fun j hj=>by
   have hm:jB k f i j=mkd k f j:=if_pos hj
   unfold je;rw[hm]
  rw[hrow]
  refine aeI (.own 3 (qj (dcs 10000001) (prF (mkd k f) i))) i (je (mkd k f)) [.v (.int .i64 (kAt k f i))] (by simp) (by omega) (by simp(disch:=omega)only[go_sem,aiA]) ⟨?_,?_,trivial⟩ (fun j hj=>⟨?_,(qQ _ j).2.2 _,(qQ _ j).1⟩) (by simp) ⟨rfl,rfl,rfl⟩
  ·rw[qr (by omega)]
   show Ob.own 3 (qL id _)=.own 3 _
   rw[abr (fun p hp=>rfl)]
  ·exact zO fun p hp=>.inr (by have:=jR hp;omega)
  ·rw[(qQ _ j).2.1,zk hj,hlm j hj]
end Go.Ab
namespace Go.Ab
open Go Go.Proofs
theorem aj7{b0 b n j:Nat}(h:b0<b∨b+n≤b0)(hj:j<n):back (QY b0 b n) (b+j)=10000001+j:=by
 unfold back
 rw[XP h hj]
 show 10000000+(j+1)=_
 omega
theorem alq{c b0 b n j:Nat}(hj:j<n):rho c (QY b0 b n) (10000001+j)=b+j:=by
 unfold rho
 rw[if_neg (by omega),show 10000001+j-10000000=j+1 by omega,List.getD_eq_getElem?_getD,List.getElem?_eq_getElem (by rw[yO];omega),Xy hj];rfl
theorem Jx{a b n:Nat}{f:Nat→DyV}{ρ:Nat→Nat}(h:∀j,j<n→ρ (a+j)=b+j):qL ρ (qj (dcs a) (prF f n))=qj (dcs b) (prF f n):=zV fun p hp=>h p.1 (jR hp)
theorem XM{P:Program}{fn:FuncId}{aa0 args:List AV}{h:Nat→Ob}{c:Nat}{K:AV→(Nat→Ob)→Prop}(b0 b n z:Nat)(f g:Nat→DyV)(rv:Value)(hb:b0<b∨b+n≤b0)
  (h0:h b0=.own z (qj (dcs b) (prF f n))) (hF:∀j,j<n→h (b+j)=je f j)
  (hc:Con P fn false args (.own z (qj (dcs 10000001) (prF f n))::(List.range n).map (je f)) (fun r hs bs=>r=.v rv∧hs=[]∧bs=.own z (qj (dcs 10000001) (prF g n))::(List.range n).map (je g)))
  (ha:aa0.map (snp (hpx false (QY b0 b n) h) (idx (QY b0 b n)) 6)=args)
  (hk:K (.v rv) (fam b n (je g) (upd h b0 (.own z (qj (dcs b) (prF g n)))))):XN P fn aa0 h c K:=by
 have hbs:(QY b0 b n).map (fun m=>(h m).ren (back (QY b0 b n)))=.own z (qj (dcs 10000001) (prF f n))::(List.range n).map (je f):=by
  show(h b0).ren _::((List.range n).map (b+ ·)).map _=_
  rw[h0]
  congr 1
  ·show Ob.own z (qL _ _)=_
   rw[Jx fun j hj=>aj7 hb hj]
  ·rw[List.map_map]
   refine List.map_congr_left fun j hj=>?_
   show(h (b+j)).ren _=_
   rw[hF j (List.mem_range.1 hj),(qQ f j).2.1]
 refine⟨false,QY b0 b n,_,by rw[ha,hbs];exact hc,yo hb,fun m hm=>?_,fun r hs bs' hp=>?_⟩
 ·rcases List.mem_cons.1 hm with rfl|hm
  ·exact⟨z,_,h0,zO fun p hp=>by rw[XP hb (jR hp)];rfl⟩
  ·obtain⟨j,hj,rfl⟩:=List.mem_map.1 hm
   exact⟨1,_,hF j (List.mem_range.1 hj),j5⟩
 ·obtain⟨rfl,rfl,rfl⟩:=hp
  refine⟨by simp,trivial,fun h=>(by cases h),?_⟩
  have e:jI (Jb (rho c (QY b0 b n)) h c []) (QY b0 b n) ((Ob.own z (qj (dcs 10000001) (prF g n))::(List.range n).map (je g)).map (Ob.ren (rho c (QY b0 b n))))=fam b n (je g) (upd h b0 (.own z (qj (dcs b) (prF g n)))):=by
   show jI (upd h b0 (.own z (qL _ (qj (dcs 10000001) (prF g n))))) ((List.range n).map (b+ ·)) (((List.range n).map (je g)).map _)=_
   rw[Jx fun j hj=>alq hj,List.map_map,show(List.range n).map (Ob.ren (rho c (QY b0 b n))∘je g)=(List.range n).map (je g) from List.map_congr_left fun j _=>(qQ g j).2.1 _,aco]
  rw[e]
  exact hk
theorem KP{h:Nat→Ob}{b0 b n m k:Nat}(hb:b0<b∨b+n≤b0):snp h (idx (QY b0 b n)) (k+1) (.rf b0 0 m)=.rf 10000000 0 m:=by
 show(match idx (QY b0 b n) b0 with|some i=>AV.rf (10000000+i) 0 m|none=>_)=_
 rw[afx hb]
end Go.Ab
namespace Go.Ab
open Go Go.Proofs
/-! ### Marks in a row of intervals-/
end Go.Ab
namespace Go.Ab
open Go Go.Proofs
/-! ### What is held in a row of intervals-/
def vX(f:Nat→DyV)(j:Nat):AV:=.sl (f j).xs.length (qi (f j).xs)
end Go.Ab
namespace Go.Ab
open Go Go.Proofs
/-! ### Numbers told in rows of their own,in one form (a row may be a ghost)-/
end Go.Ab
namespace Go.Ab
open Go Go.Proofs
/-! ### A matrix of intervals with rows of its own-/
def ivf(l:List SpV)(j:Nat):DyV:=(if j % 2=0 then(l.getD (j/2) sp0).lo.can else(l.getD (j/2) sp0).hi.can).dyv
theorem ady{b:Nat}{f:Nat→DyV}{n:Nat}:(qj (dcs b) (prF f n)).length=n*3:=by rw[abt,ahH]
def arB(i m:Nat):Nat:=if m=1 then 330000000 else if m=500000000+2*i then 230000000 else if m=500000000+(2*i+1)then 230000001 else m
end Go.Ab
namespace Go.Ab
open Go Go.Proofs
end Go.Ab
namespace Go.Ab
open Go Go.Proofs
/-! ### How much there is in all-/
def smF(f:Nat→DyV):Nat→Nat
 |0=>0
 |j+1=>smF f j+(f j).xs.length
theorem aaR{k:Nat}{f:Nat→DyV}:∀i,kAt k f i=k+smF f i+2*i
 |0=>rfl
 |i+1=>by
  show kAt k f i+(f i).xs.length+2=k+(smF f i+(f i).xs.length)+2*(i+1)
  rw[aaR i];omega
theorem yN{f:Nat→DyV}{i:Nat}:∀n,i≤n→smF f i≤smF f n
 |0,h=>by rw[show i=0 by omega];exact Nat.le_refl _
 |n+1,h=>by
  show _≤smF f n+_
  rcases Nat.lt_or_ge i (n+1)with c|c
  ·have:=yN (f:=f) n (show i≤n by omega);omega
  ·rw[show i=n+1 by omega];exact Nat.le_refl _
theorem YA{f:Nat→DyV}{i n:Nat}(h:i<n):(f i).xs.length≤smF f n:=by
 have h1:=yN (f:=f) (i:=i+1) n (by omega)
 have h2:smF f (i+1)=smF f i+(f i).xs.length:=rfl
 omega
theorem Qq(l:List DyV)(left:Nat)(hl:l.length≤9223372036854775807)(hx:∀x∈l,x.xs.length≤9223372036854775807)(h:left≤2^40):
  Con Try.prog 6 true [.sl l.length (qj DyV.cs l),.v (.int .i64 left)] [] (fun r hs bs=>∃v:Int,r=.v (.int .i64 v)∧hs=[]∧bs=[]∧(v= -1∨(0≤v∧l.length+smF (fun j=>l.getD j dy0) l.length≤left))):=by
 refine Con.of_aw Try.func6 rfl Try.ntmps6 (by simp) (by simp) (by simp) (W.sound ?_)
 show @W Try.prog 27 ⟨_⟩ ⟨fun x σ=>@q0 _ _ _ ⟨_⟩ _ ⟨_⟩ x σ⟩ _ _
 simp(disch:=omega)only[go_sem]
 refine qe (fun h1=>?_) (fun h1=>?_)
 ·simp(disch:=omega)only[go_sem,h1]
  exact qo (by simp(disch:=omega)only[go_sem]) (by simp(disch:=omega)only[go_sem]) ⟨-1,rfl,rfl,rfl,.inl rfl⟩
 ·simp(disch:=omega)only[go_sem,h1]
  refine qd (fun x:Nat×Nat=>[(0,.sl l.length (qj DyV.cs l)),(1,.v (.int .i64 x.2)),(5,.v (.int .i64 x.1))]) (fun _=>[]) (fun x=>x.1≤l.length∧x.2+l.length+smF (fun j=>l.getD j dy0) x.1=left) (fun x=>l.length-x.1) (0,left-l.length) ⟨by omega,by show left-l.length+l.length+0=left;omega⟩
   (Le.lst [] _ _ rfl (by simp(disch:=omega)only[go_sem];try omega) (by simp(disch:=omega)only[go_sem])) ?_
  rintro⟨i,lf⟩ ⟨hi,hlf⟩
  dsimp only at hi hlf ⊢
  simp(disch:=omega)only[go_sem]
  refine qe (fun h2=>?_) (fun h2=>?_)
  ·have hcut:=y3 (l:=l) J0 (i:=i) (by omega) dy0
   have hmem:l.getD i dy0∈l:=by
    rw[List.getD_eq_getElem?_getD,List.getElem?_eq_getElem (by omega)];exact List.getElem_mem _
   have hsm:smF (fun j=>l.getD j dy0) (i+1)=smF (fun j=>l.getD j dy0) i+(l.getD i dy0).xs.length:=rfl
   have hxm:=hx _ hmem
   have cz:Con Try.prog 27 true [.ag (l.getD i dy0).cs,.v (.int .i64 lf)] [] (isA (.v (.int .i64 (szL lf (l.getD i dy0).xs.length)))):=ae8 (l.getD i dy0).s (l.getD i dy0).xs (l.getD i dy0).e lf hxm (by omega)
   simp(disch:=omega)only[go_sem,h2,hcut]
   refine⟨by omega,by omega,?_⟩
   refine qh cz (by simp(disch:=omega)only[go_sem]) ?_
   rintro r hs ⟨rfl,rfl,_⟩
   refine⟨by simp[qv],?_⟩
   unfold szL
   by_cases h3:(lf:Int)-((l.getD i dy0).xs.length:Int)<0
   ·rw[if_pos h3]
    simp(disch:=omega)only[go_sem]
    exact qo (by simp(disch:=omega)only[go_sem]) (by simp(disch:=omega)only[go_sem]) ⟨-1,rfl,rfl,rfl,.inl rfl⟩
   ·rw[if_neg h3]
    simp(disch:=omega)only[go_sem,h3]
    exact qc (i+1,lf-(l.getD i dy0).xs.length) [] ⟨by show i+1≤_;omega,by show lf-(l.getD i dy0).xs.length+l.length+smF _ (i+1)=left;rw[hsm];omega⟩ (by show l.length-(i+1)<l.length-i;omega) rfl (by simp(disch:=omega)only[go_sem];try omega) (by simp(disch:=omega)only[go_sem])
  ·simp(disch:=omega)only[go_sem,h2]
   obtain rfl:i=l.length:=by omega
   exact qo (by simp(disch:=omega)only[go_sem]) (by simp(disch:=omega)only[go_sem]) ⟨lf,rfl,rfl,rfl,.inr ⟨by omega,by omega⟩⟩
end Go.Ab
namespace Go.Ab
open Go Go.Proofs
/-! ### The law of what is held of a matrix's exponential-/
theorem alG{l:List DyV}{n:Nat}:prs l n=prF (fun j=>l.getD j dy0) n:=rfl
theorem af1(l:List DyV):aaD l=je (fun j=>l.getD j dy0):=rfl
theorem adj{h:Nat→Ob}{b k:Nat}{f:Nat→DyV}{n:Nat}(hF:∀j,j<n→h (b+j)=je f j):(qj (dcs b) (prF f n)).map (qq h (k+2))=jh (cS f) (vX f) (cE f) n:=by
 have key:∀L:List Nat,(∀j∈L,j<n)→(qj (dcs b) (L.map fun j=>(j,f j))).map (qq h (k+2))=qj (fun j=>[cS f j,vX f j,cE f j]) L:=by
  intro L
  induction L with
  |nil=>intro _;rfl
  |cons a L ih=>
   intro hL
   rw[List.map_cons,qF,qF,List.map_append,ih fun j hj=>hL j (List.mem_cons_of_mem _ hj)]
   congr 1
   show [qq h (k+2) (.v _),qq h (k+2) (.rf (b+a) 0 _),qq h (k+2) (.v _)]=_
   have h1:h (b+a)=.own 1 (qi ((f a).xs++[])):=by rw[List.append_nil];exact hF a (hL a (List.mem_cons_self ..))
   rw[yL h1 rfl]
   rfl
 exact key _ fun j hj=>List.mem_range.1 hj
theorem Zq{l:List DyV}:jh (cS fun j=>l.getD j dy0) (vX fun j=>l.getD j dy0) (cE fun j=>l.getD j dy0) l.length=qj DyV.cs l:=by
 have:l=(List.range l.length).map fun j=>l.getD j dy0:=by
  apply List.ext_getElem
  ·simp
  ·intro i h1 h2
   simp[List.getD_eq_getElem?_getD,List.getElem?_eq_getElem h1]
 conv=>rhs;rw[this]
 unfold jh qj
 rw[List.map_map];rfl
theorem yW{h:Nat→Ob}{b0 b z k m n:Nat}{f:Nat→DyV}(h0:h b0=.own z (qj (dcs b) (prF f n)))(hz:m*z=n*3)(hF:∀j,j<n→h (b+j)=je f j):qq h (k+3) (.rf b0 0 m)=.sl m (jh (cS f) (vX f) (cE f) n):=by
 show(match h b0 with| .own z cs=>AV.sl m ((cut cs 0 (m*z)).map (qq h (k+2)))|_=>.un)=_
 rw[h0]
 show AV.sl m ((cut _ 0 (m*z)).map _)=_
 have hc:cut (qj (dcs b) (prF f n)) 0 (m*z)=qj (dcs b) (prF f n):=by
  unfold cut
  rw[List.drop_zero,List.take_of_length_le (by rw[ady];omega)]
 rw[hc,adj hF]
theorem YM{l:List DyV}(hx:l.length+smF (fun j=>l.getD j dy0) l.length≤1048576):∀d∈l,d.xs.length≤1048576:=fun d hd=>by
 obtain⟨i,hi,rfl⟩:=List.getElem_of_mem hd
 have:=YA (f:=fun j=>l.getD j dy0) hi
 rw[List.getD_eq_getElem?_getD,List.getElem?_eq_getElem hi]at this
 simp only[Option.getD_some]at this
 omega
theorem akz(k:Int)(l:List DyV)(hl:l.length≤1048576)(hx:∀d∈l,d.xs.length≤1048576):Con Try.prog 17 false [.ag [.v (.int .i64 k),.sl l.length (qj DyV.cs l)]] [] (isA (.ag [.v (.int .i64 k),.sl l.length (qj DyV.cs l)])):=by
 refine Con.frzA ((VL k l hl hx).mono ?_)
 rintro r hs bs ⟨rfl,rfl⟩
 show AV.ag [_,qq _ 5 (.rf 0 0 l.length)]=_
 rw[yW (b:=1) (z:=3) (n:=l.length) (f:=fun j=>l.getD j dy0) rfl (by omega) (fun j hj=>?_),Zq]
 ·rfl
 ·show rhp _ [] (1+j)=_
  unfold rhp
  rw[if_neg (by omega),show 1+j=j+1 by omega,List.getD_cons_succ,List.getD_eq_getElem?_getD,List.getElem?_map,List.getElem?_range hj];rfl
theorem Zo{h:Nat→Ob}{b0 b k:Nat}{l:List DyV}(h0:h b0=.own 3 (qj (dcs b) (prF (fun j=>l.getD j dy0) l.length)))(hF:∀j,j<l.length→h (b+j)=je (fun j=>l.getD j dy0) j):qq h (k+3) (.rf b0 0 l.length)=.sl l.length (qj DyV.cs l):=by
 rw[yW (n:=l.length) h0 (by omega) hF,Zq]
theorem Le.famI{σ:St}(E:List (Nat×AV))(H:List (Nat×Ob))(b n:Nat)(F:Nat→Ob)(hP:∀j,K9 (F j))
  (hn:j4 (H.map (·.1))=true) (hlow:∀q∈H,q.1<b∨b+n≤q.1) (hE:JM id σ.env (nmF (H.map (·.1)) b n) E)
  (hH:∀q∈H,σ.hp q.1=q.2∧q.2.men (nmF (H.map (·.1)) b n)∧q.2.isOwn) (hF:∀j,j<n→σ.hp (b+j)=F j):Le σ ⟨ofL .un E,fam b n F (ofH H)⟩:=by
 have hr:∀o:Ob,o.ren id=o:=fun o=>by
  cases o with
  |own z cs=>show Ob.own z (qL (fun m=>m) cs)=_;rw[y5]
  |free=>rfl
  |dead=>rfl
 refine Le.famL id E H b n F hn hlow hE ?_ (fun j hj=>⟨by rw[hr];exact(hF j hj).symm,(hP j).2.2 _,(hP j).1⟩) (fun m hm=>⟨fun _=>rfl,fun h=>h⟩) (fun m m' _ _ h=>h)
 have key:∀(L:List (Nat×Ob)) (p:Nat→Prop),(∀q∈L,σ.hp q.1=q.2∧q.2.men p∧q.2.isOwn)→amr id σ.hp p L:=by
  intro L p
  induction L with
  |nil=>intro _;trivial
  |cons a L ih=>
   intro h
   obtain⟨h1,h2,h3⟩:=h a (List.mem_cons_self ..)
   exact⟨⟨by rw[hr];exact h1.symm,h2,h3⟩,ih fun q hq=>h q (List.mem_cons_of_mem _ hq)⟩
 exact key _ _ hH
end Go.Ab
namespace Go.Ab
open Go Go.Proofs
/-! ### The law of a list's text-/
theorem yM{h:Nat→Ob}{m k n:Nat}{l zs:List UInt8}(h0:h m=.own 1 (qa (l++zs)))(hn:l.length=n):qq h (k+2) (.rf m 0 n)=.sl n (qa l):=by
 subst hn
 simp only[Yy,h0]
 rw[qU,List.drop_zero,Nat.mul_one,List.take_left' rfl,zo]
theorem Q5(l:List DyV)(hl:l.length≤1048576)(hx:∀d∈l,d.xs.length≤1048576):Con Try.prog 8 false [.sl l.length (qj DyV.cs l)] [] (isA (.sl l.length (qj DyV.cs l))):=by
 refine Con.frzA ((jF l hl hx).mono ?_)
 rintro r hs bs ⟨rfl,rfl⟩
 show qq _ 6 (.rf 0 0 l.length)=_
 rw[yW (b:=1) (z:=3) (n:=l.length) (f:=fun j=>l.getD j dy0) rfl (by omega) (fun j hj=>?_),Zq]
 show rhp _ [] (1+j)=_
 unfold rhp
 rw[if_neg (by omega),show 1+j=j+1 by omega,List.getD_cons_succ,List.getD_eq_getElem?_getD,List.getElem?_map,List.getElem?_range hj];rfl
set_option maxRecDepth 100000 in
theorem aaH(l:List DyV)(hl:l.length≤9223372036854775807)(hx:∀x∈l,x.xs.length≤9223372036854775807)(T:List UInt8)(hT:T.length≤2^39)
  (cs:Con Try.prog 7 false [.sl l.length (qj DyV.cs l)] [] (isA (.tu [.sl T.length (qa T),.v (.bool true)])))
  (ci:Con Try.prog 9 true [.sl l.length (qj DyV.cs l)] [] (apH T)):
  Con Try.prog 3 true [.sl l.length (qj DyV.cs l)] [] (isA (.v (.bool true))):=by
 have ceq:=Qv T (by omega)
 have chd:=yd 1 T.length (by omega) (by omega)
 have ciF:Con Try.prog 9 true [.sl l.length (qj DyV.cs l)] [] (isA (.tu [.sl T.length (qa T),.v (.bool true)])):=by
  refine Con.frzAC (ci.mono ?_)
  rintro r hs bs ⟨zs,rfl,rfl⟩
  show AV.tu [qq _ 5 (.rf 0 0 T.length),_]=_
  rw[yM (zs:=zs) rfl rfl];rfl
 have cz:=Qq l 1048576 hl hx (by omega)
 refine Con.of_aw Try.func3 rfl Try.ntmps3 (by simp) (by simp) (by simp) (AW.front3 ?_)
 show @W Try.prog 96 ⟨_⟩ ⟨fun x σ=>@zL ⟨_⟩ ⟨_⟩ x σ⟩ _ _
 simp(disch:=omega)only[go_sem]
 refine qh cz (by simp(disch:=omega)only[go_sem]) ?_
 rintro r hs ⟨v,rfl,rfl, -,hv⟩
 refine⟨by simp[qv],?_⟩
 simp(disch:=omega)only[go_sem]
 rcases hv with rfl|⟨h0,h1⟩
 ·refine W.sound ?_
  show @W Try.prog 96 ⟨_⟩ ⟨fun x σ=>@q0 _ _ _ ⟨_⟩ _ ⟨_⟩ x σ⟩ _ _
  simp(disch:=omega)only[go_sem]
  exact qC
 have hlen:l.length≤1048576:=by omega
 have hxs:=YM h1
 have cT:=Q5 l hlen hxs
 have hv0:decide (v<0)=false:=decide_eq_false (by omega)
 refine AW.front3 ?_
 show @W Try.prog 96 ⟨_⟩ ⟨fun x σ=>@zL ⟨_⟩ ⟨_⟩ x σ⟩ _ _
 simp(disch:=omega)only[go_sem,hv0]
 refine qk (cT) ?_
 simp(disch:=omega)only[go_sem]
 refine qk (cs) ?_
 simp(disch:=omega)only[go_sem]
 refine qD (jF l hlen hxs) (by simp(disch:=omega)only[go_sem]) ?_
 rintro r hs ⟨rfl,rfl⟩
 refine⟨⟨by simp;omega,Qj fun j hj=>?_⟩,?_⟩
 ·repeat rw[qg (by omega)]
  rw[XK (by omega)]
 have hrow:=@YB 280000000 l.length l (by omega)
 simp(disch:=omega)only[go_sem,Ja (q2 l),qr,hrow]
 rw[alG,af1]
 refine AW.le (Le.famI [(0,.sl l.length (qj DyV.cs l)),(2,.v (.bool false)),(4,.sl T.length (qa T)),(5,.v (.bool true)),(6,.rf 280000000 0 l.length)]
  [(280000000,.own 3 (qj (dcs 280000001) (prF (fun j=>l.getD j dy0) l.length)))]
  280000001 l.length (je fun j=>l.getD j dy0) (qQ _) rfl (fun q hq=>.inl ?_) (by simp(disch:=omega)only[go_sem,JM,nmF,zS];try simp) (fun q hq=>?_) (fun j hj=>?_)) ?_
 ·simp only[List.mem_cons,List.not_mem_nil,or_false]at hq
  rcases hq with rfl
  dsimp only;omega
 ·simp only[List.mem_cons,List.not_mem_nil,or_false]at hq
  rcases hq with rfl
  refine⟨?_,zO fun p hp=>.inr (by have:=jR hp;omega),trivial⟩
  dsimp only
  repeat rw[qg (by omega)]
  rw[qr (by omega),qf]
 ·dsimp only
  repeat rw[qg (by omega)]
  rw[zk hj]
 refine AW.front4 ?_
 show @W Try.prog 96 ⟨_⟩ ⟨fun x σ=>@zL ⟨_⟩ ⟨_⟩ x σ⟩ _ _
 simp(disch:=omega)only[go_sem,qr]
 refine qh ci ?_ ?_
 ·show [qq _ 6 (.rf 280000000 0 l.length)]=_
  rw[Zo (b:=280000001) (by rw[qr (by omega)];rfl) (fun j hj=>zk hj)]
 rintro r hs ⟨zs,rfl,rfl⟩
 refine⟨⟨by simp,by simp(disch:=omega)only[go_sem,za],trivial⟩,?_⟩
 simp(disch:=omega)only[go_sem,qr,za]
 refine qh ceq ?_ ?_
 ·show [qq _ 6 (.rf 310000000 0 T.length),qq _ 6 (.sl _ _)]=_
  rw[yM (zs:=zs) ?_ rfl]
  ·rfl
  ·repeat rw[qg (by omega)]
   rw[qf]
 rintro r hs ⟨rfl,rfl, -⟩
 refine⟨by simp[qv],?_⟩
 simp(disch:=omega)only[go_sem,show(true != true)=false from rfl,qr,za]
 refine qk (cT) ?_
 simp(disch:=omega)only[go_sem]
 refine qh (Yf l hlen (fun d hd=>Nat.le_trans (hxs d hd) (by omega))) ?_ ?_
 ·show [qq _ 6 (.rf 280000000 0 l.length),qq _ 6 (.sl _ _)]=_
  rw[Zo (b:=280000001) ?_ (fun j hj=>?_)]
  ·rfl
  ·repeat rw[qg (by omega)]
   rw[qr (by omega)];rfl
  ·repeat rw[qg (by omega)]
   rw[zk hj]
 rintro r hs ⟨rfl,rfl, -⟩
 refine⟨by simp[qv],?_⟩
 simp(disch:=omega)only[go_sem]
 have hkb0:∀i,i≤l.length→kAt 1 (fun j=>l.getD j dy0) i≤2^39:=fun i hi=>by
  rw[aaR]
  have:=yN (f:=fun j=>l.getD j dy0) (i:=i) l.length hi
  omega
 have hx0:∀j,j<l.length→((fun j=>l.getD j dy0) j).xs.length≤1048576:=fun j hj=>Nat.le_trans (YA (f:=fun j=>l.getD j dy0) hj) (by omega)
 have cm0:=Qt (fun j=>l.getD j dy0) l.length 1 hlen hx0 hkb0
 refine AW.regCallG 2 (by simp only[List.take_succ_cons,List.take_zero];rfl) (by simp only[List.drop_succ_cons,List.drop_zero];rfl) (e':=ofL .un [(0,.sl l.length (qj DyV.cs l)),(2,.v (.bool false)),(4,.sl T.length (qa T)),(5,.v (.bool true)),(7,.rf 310000000 0 T.length),(8,.v (.bool true)),(46,.rf 280000000 0 l.length),(47,.v (.int .i64 1))])
  (h':=fam 280000001 l.length (je fun j=>l.getD j dy0) (ofH [(280000000,.own 3 (qj (dcs 280000001) (prF (fun j=>l.getD j dy0) l.length))),(310000000,.own 1 (qa (T++zs)))])) ?_
  (by decide) rfl rfl (by simp(disch:=omega)only[go_sem]) (by rfl) (XM 280000000 280000001 l.length 3 (fun j=>l.getD j dy0) (mkd 1 fun j=>l.getD j dy0) _ (.inl (by omega)) ?_ ?_ cm0 ?_ ?_)
 ·simp(disch:=omega)only[go_sem,qr,za]
  refine Le.famI _ _ _ _ _ (qQ _) rfl (fun q hq=>?_) (by simp(disch:=omega)only[go_sem,JM,nmF,zS];try simp) (fun q hq=>?_) (fun j hj=>?_)
  ·simp only[List.mem_cons,List.not_mem_nil,or_false]at hq
   rcases hq with rfl|rfl<;>(dsimp only;omega)
  ·simp only[List.mem_cons,List.not_mem_nil,or_false]at hq
   rcases hq with rfl|rfl
   ·refine⟨?_,zO fun p hp=>.inr (by have:=jR hp;omega),trivial⟩
    dsimp only
    repeat rw[qg (by omega)]
    rw[qr (by omega)];rfl
   ·refine⟨?_,of_eq_true Yi,trivial⟩
    dsimp only
    repeat rw[qg (by omega)]
    rw[qf]
  ·dsimp only
   repeat rw[qg (by omega)]
   rw[zk hj]
 ·rw[qr (by omega)];rfl
 ·intro j hj
  exact zk hj
 ·show [snp _ _ 6 (.rf 280000000 0 _),snp _ _ 6 (.v _)]=_
  rw[KP (.inl (by omega))]
  simp[snp,qq]
 simp(disch:=omega)only[go_sem,qr,za]
 have hX0:decide (((kAt 1 (fun j=>l.getD j dy0) l.length:Nat):Int)<0)=false:=decide_eq_false (by omega)
 refine AW.front2 ?_
 show @W Try.prog 96 ⟨_⟩ ⟨fun x σ=>@zL ⟨_⟩ ⟨_⟩ x σ⟩ _ _
 simp(disch:=omega)only[go_sem,hX0,qr,za]
 refine qh ceq ?_ ?_
 ·show [qq _ 6 (.rf 310000000 0 T.length),qq _ 6 (.sl _ _)]=_
  rw[yM (zs:=zs) ?_ rfl]
  ·rfl
  ·rw[za (by omega)]
   repeat rw[qg (by omega)]
   rw[za (by omega)];rfl
 rintro r hs ⟨rfl,rfl, -⟩
 refine⟨by simp[qv],?_⟩
 simp(disch:=omega)only[go_sem,show(true != true)=false from rfl]
 refine AW.le (Le.lst [] [(0,.sl l.length (qj DyV.cs l)),(2,.v (.bool false)),(4,.sl T.length (qa T)),(5,.v (.bool true)),(7,.rf 310000000 0 T.length),(8,.v (.bool true)),(10,.v (.int .i64 1))] [(310000000,.own 1 (qa (T++zs)))] rfl (by simp(disch:=omega)only[go_sem]) (by simp(disch:=omega)only[go_sem,qr,za])) ?_
 refine AW.front2 ?_
 show @W Try.prog 96 ⟨_⟩ ⟨fun x σ=>@zL ⟨_⟩ ⟨_⟩ x σ⟩ _ _
 simp(disch:=omega)only[go_sem]
 refine zi false [310000000] (ZZ 1 T zs (by omega) (by omega)) (by simp(disch:=omega)only[go_sem]) (by simp(disch:=omega)only[go_sem]) rfl (zg (z:=1) (cs:=qa (T++zs)) (by simp(disch:=omega)only[go_sem]) (by simp(disch:=omega)only[go_sem])) (by intro n hn;exact⟨_,List.mem_cons_self ..,by rw[List.mem_singleton.1 hn];rfl⟩) ?_
 rintro r hs bs ⟨rfl,rfl,rfl⟩-
 refine⟨by simp[qv],?_⟩
 simp(disch:=omega)only[go_sem]
 refine AW.le (Le.lst [] [(0,.sl l.length (qj DyV.cs l)),(2,.v (.bool false)),(4,.sl T.length (qa T)),(5,.v (.bool true)),(7,.rf 310000000 0 T.length),(8,.v (.bool true)),(10,.v (.int .i64 ((1+T.length:Nat):Int))),(11,.v (.int .i64 1))] [(310000000,.own 1 (qa (mkB 1 T.length++zs)))] rfl (by simp(disch:=omega)only[go_sem]) (by simp(disch:=omega)only[go_sem])) ?_
 have hM0:decide (((1+T.length:Nat):Int)<0)=false:=decide_eq_false (by omega)
 have hkb:∀{h:Nat→Ob},h 310000000=.own 1 (qa (mkB 1 T.length++zs))→[AV.rf 310000000 0 T.length,.v (.int .i64 ((1:Nat):Int))].map (qq h 6)=[.sl T.length (qa (mkB 1 T.length)),.v (.int .i64 ((1:Nat):Int))]:=fun {h} h0=>by
  show [qq _ 6 (.rf 310000000 0 T.length),_]=_
  rw[yM (zs:=zs) (l:=mkB 1 T.length) h0 (Zz ..)];rfl
 refine W.sound ?_
 show @W Try.prog 96 ⟨_⟩ ⟨fun x σ=>@q0 _ _ _ ⟨_⟩ _ ⟨_⟩ x σ⟩ _ _
 simp(disch:=omega)only[go_sem]
 refine qh chd (hkb (by simp(disch:=omega)only[go_sem])) ?_
 rintro r hs ⟨rfl,rfl, -⟩
 refine⟨by simp[qv],?_⟩
 simp(disch:=omega)only[go_sem,hM0]
 refine qk (cT) ?_
 simp(disch:=omega)only[go_sem]
 refine qt (ciF) ?_
 simp(disch:=omega)only[go_sem]
 refine qt (ceq) ?_
 simp(disch:=omega)only[go_sem]
 try simp(disch:=omega)only[go_sem,show(true != true)=false from rfl]
 refine qh chd (hkb (by simp(disch:=omega)only[go_sem])) ?_
 rintro r hs ⟨rfl,rfl, -⟩
 refine⟨by simp[qv],?_⟩
 simp(disch:=omega)only[go_sem,hM0]
 exact qC
end Go.Ab
namespace Go.Ab
open Go Go.Proofs
theorem QK(k:Nat):Con Try.prog 13 true [.sl 0 [],.v (.int .i64 k)] [] (isA (.v (.int .i64 k))):=by
 refine Con.of_w (rs:=[.tmp 4]) Try.func13 rfl Try.ntmps13 rfl ?_
 simp(disch:=omega)only[go_sem]
 refine qd (fun _:Nat=>[(0,.sl 0 []),(1,.v (.int .i64 k)),(5,.v (.int .i64 0))]) (fun _=>[]) (fun _=>True) (fun _=>0) 0 trivial (Le.lst [] _ _ rfl (by simp(disch:=omega)only[go_sem]) (by simp(disch:=omega)only[go_sem])) ?_
 intro _ _
 simp(disch:=omega)only[go_sem]
 exact qC
set_option maxRecDepth 100000 in
theorem aaI(l:List DyV)(hl:l.length≤9223372036854775807)(hx:∀x∈l,x.xs.length≤9223372036854775807)
  (cs:Con Try.prog 7 false [.sl l.length (qj DyV.cs l)] [] (isA (.tu [.sl 0 [],.v (.bool false)])))
  (ci:Con Try.prog 9 true [.sl l.length (qj DyV.cs l)] [] apI):
  Con Try.prog 3 true [.sl l.length (qj DyV.cs l)] [] (isA (.v (.bool true))):=by
 have ceq:Con Try.prog 10 true [.sl 0 [],.sl 0 []] [] (isA (.v (.bool true))):=Qv [] (by simp)
 have chd:Con Try.prog 14 true [.sl 0 [],.v (.int .i64 ((1:Nat):Int))] [] (isA (.v (.int .i64 ((1:Nat):Int)))):=yd 1 0 (by omega) (by omega)
 have cm1:=QK 1
 have ciF:Con Try.prog 9 true [.sl l.length (qj DyV.cs l)] [] (isA (.tu [.sl 0 [],.v (.bool false)])):=by
  refine Con.frzAC (ci.mono ?_)
  rintro r hs bs ⟨rfl,rfl⟩
  rfl
 have cz:=Qq l 1048576 hl hx (by omega)
 refine Con.of_aw Try.func3 rfl Try.ntmps3 (by simp) (by simp) (by simp) (AW.front3 ?_)
 show @W Try.prog 96 ⟨_⟩ ⟨fun x σ=>@zL ⟨_⟩ ⟨_⟩ x σ⟩ _ _
 simp(disch:=omega)only[go_sem]
 refine qh cz (by simp(disch:=omega)only[go_sem]) ?_
 rintro r hs ⟨v,rfl,rfl, -,hv⟩
 refine⟨by simp[qv],?_⟩
 simp(disch:=omega)only[go_sem]
 rcases hv with rfl|⟨h0,h1⟩
 ·refine W.sound ?_
  show @W Try.prog 96 ⟨_⟩ ⟨fun x σ=>@q0 _ _ _ ⟨_⟩ _ ⟨_⟩ x σ⟩ _ _
  simp(disch:=omega)only[go_sem]
  exact qC
 have hlen:l.length≤1048576:=by omega
 have hxs:=YM h1
 have cT:=Q5 l hlen hxs
 have hv0:decide (v<0)=false:=decide_eq_false (by omega)
 refine AW.front3 ?_
 show @W Try.prog 96 ⟨_⟩ ⟨fun x σ=>@zL ⟨_⟩ ⟨_⟩ x σ⟩ _ _
 simp(disch:=omega)only[go_sem,hv0]
 refine qk (cT) ?_
 simp(disch:=omega)only[go_sem]
 refine qk (cs) ?_
 simp(disch:=omega)only[go_sem]
 refine qD (jF l hlen hxs) (by simp(disch:=omega)only[go_sem]) ?_
 rintro r hs ⟨rfl,rfl⟩
 refine⟨⟨by simp;omega,Qj fun j hj=>?_⟩,?_⟩
 ·repeat rw[qg (by omega)]
  rw[XK (by omega)]
 have hrow:=@YB 280000000 l.length l (by omega)
 simp(disch:=omega)only[go_sem,Ja (q2 l),qr,hrow]
 rw[alG,af1]
 refine AW.le (Le.famI [(0,.sl l.length (qj DyV.cs l)),(2,.v (.bool false)),(4,.sl 0 []),(5,.v (.bool false)),(6,.rf 280000000 0 l.length)]
  [(280000000,.own 3 (qj (dcs 280000001) (prF (fun j=>l.getD j dy0) l.length)))]
  280000001 l.length (je fun j=>l.getD j dy0) (qQ _) rfl (fun q hq=>.inl ?_) (by simp(disch:=omega)only[go_sem,JM,nmF,zS];try simp) (fun q hq=>?_) (fun j hj=>?_)) ?_
 ·simp only[List.mem_cons,List.not_mem_nil,or_false]at hq
  rcases hq with rfl
  dsimp only;omega
 ·simp only[List.mem_cons,List.not_mem_nil,or_false]at hq
  rcases hq with rfl
  refine⟨?_,zO fun p hp=>.inr (by have:=jR hp;omega),trivial⟩
  dsimp only
  repeat rw[qg (by omega)]
  rw[qr (by omega),qf]
 ·dsimp only
  repeat rw[qg (by omega)]
  rw[zk hj]
 refine AW.front4 ?_
 show @W Try.prog 96 ⟨_⟩ ⟨fun x σ=>@zL ⟨_⟩ ⟨_⟩ x σ⟩ _ _
 simp(disch:=omega)only[go_sem,qr]
 refine qh ci ?_ ?_
 ·show [qq _ 6 (.rf 280000000 0 l.length)]=_
  rw[Zo (b:=280000001) (by rw[qr (by omega)];rfl) (fun j hj=>zk hj)]
 rintro r hs ⟨rfl,rfl⟩
 refine⟨by simp[qv],?_⟩
 simp(disch:=omega)only[go_sem,qr,za]
 refine qt (ceq) ?_
 simp(disch:=omega)only[go_sem]
 try simp(disch:=omega)only[go_sem,show(false != false)=false from rfl,qr,za]
 refine qk (cT) ?_
 simp(disch:=omega)only[go_sem]
 refine qh (Yf l hlen (fun d hd=>Nat.le_trans (hxs d hd) (by omega))) ?_ ?_
 ·show [qq _ 6 (.rf 280000000 0 l.length),qq _ 6 (.sl _ _)]=_
  rw[Zo (b:=280000001) ?_ (fun j hj=>?_)]
  ·rfl
  ·repeat rw[qg (by omega)]
   rw[qr (by omega)];rfl
  ·repeat rw[qg (by omega)]
   rw[zk hj]
 rintro r hs ⟨rfl,rfl, -⟩
 refine⟨by simp[qv],?_⟩
 simp(disch:=omega)only[go_sem]
 have hkb0:∀i,i≤l.length→kAt 1 (fun j=>l.getD j dy0) i≤2^39:=fun i hi=>by
  rw[aaR]
  have:=yN (f:=fun j=>l.getD j dy0) (i:=i) l.length hi
  omega
 have hx0:∀j,j<l.length→((fun j=>l.getD j dy0) j).xs.length≤1048576:=fun j hj=>Nat.le_trans (YA (f:=fun j=>l.getD j dy0) hj) (by omega)
 have cm0:=Qt (fun j=>l.getD j dy0) l.length 1 hlen hx0 hkb0
 refine AW.regCallG 2 (by simp only[List.take_succ_cons,List.take_zero];rfl) (by simp only[List.drop_succ_cons,List.drop_zero];rfl) (e':=ofL .un [(0,.sl l.length (qj DyV.cs l)),(2,.v (.bool false)),(4,.sl 0 []),(5,.v (.bool false)),(7,.v (.slice none 0 0)),(8,.v (.bool false)),(46,.rf 280000000 0 l.length),(47,.v (.int .i64 1))])
  (h':=fam 280000001 l.length (je fun j=>l.getD j dy0) (ofH [(280000000,.own 3 (qj (dcs 280000001) (prF (fun j=>l.getD j dy0) l.length)))])) ?_
  (by decide) rfl rfl (by simp(disch:=omega)only[go_sem]) (by rfl) (XM 280000000 280000001 l.length 3 (fun j=>l.getD j dy0) (mkd 1 fun j=>l.getD j dy0) _ (.inl (by omega)) ?_ ?_ cm0 ?_ ?_)
 ·simp(disch:=omega)only[go_sem,qr,za]
  refine Le.famI _ _ _ _ _ (qQ _) rfl (fun q hq=>?_) (by simp(disch:=omega)only[go_sem,JM,nmF,zS];try simp) (fun q hq=>?_) (fun j hj=>?_)
  ·simp only[List.mem_cons,List.not_mem_nil,or_false]at hq
   rcases hq with rfl
   dsimp only;omega
  ·simp only[List.mem_cons,List.not_mem_nil,or_false]at hq
   rcases hq with rfl
   ·refine⟨?_,zO fun p hp=>.inr (by have:=jR hp;omega),trivial⟩
    dsimp only
    repeat rw[qg (by omega)]
    rw[qr (by omega)];rfl
  ·dsimp only
   repeat rw[qg (by omega)]
   rw[zk hj]
 ·rw[qr (by omega)];rfl
 ·intro j hj
  exact zk hj
 ·show [snp _ _ 6 (.rf 280000000 0 _),snp _ _ 6 (.v _)]=_
  rw[KP (.inl (by omega))]
  simp[snp,qq]
 simp(disch:=omega)only[go_sem,qr,za]
 have hX0:decide (((kAt 1 (fun j=>l.getD j dy0) l.length:Nat):Int)<0)=false:=decide_eq_false (by omega)
 refine W.sound ?_
 show @W Try.prog 96 ⟨_⟩ ⟨fun x σ=>@q0 _ _ _ ⟨_⟩ _ ⟨_⟩ x σ⟩ _ _
 simp(disch:=omega)only[go_sem,hX0,qr,za]
 refine qt (ceq) ?_
 simp(disch:=omega)only[go_sem]
 try simp(disch:=omega)only[go_sem,show(false != false)=false from rfl,qr,za]
 refine qt (cm1) ?_
 simp(disch:=omega)only[go_sem]
 try simp(disch:=omega)only[go_sem,qr,za]
 refine qt (chd) ?_
 simp(disch:=omega)only[go_sem]
 try simp(disch:=omega)only[go_sem,qr,za]
 refine qk (cT) ?_
 simp(disch:=omega)only[go_sem]
 refine qt (ciF) ?_
 simp(disch:=omega)only[go_sem]
 try simp(disch:=omega)only[go_sem,qr,za]
 refine qt (ceq) ?_
 simp(disch:=omega)only[go_sem]
 try simp(disch:=omega)only[go_sem,show(false != false)=false from rfl,qr,za]
 refine qt (chd) ?_
 simp(disch:=omega)only[go_sem]
 try simp(disch:=omega)only[go_sem,qr,za]
 exact qC
end Go.Ab
namespace Go.Ab
open Go Go.Proofs
theorem Xt:∀{l:List (List UInt8)},(∀t∈l,t.length≤20000)→(Jo l).length≤l.length*20001
 | [],_=>by simp[Jo]
 |x::r,h=>by
  have h1:=h x (List.mem_cons_self ..)
  have h2:=Xt (l:=r) fun t ht=>h t (List.mem_cons_of_mem _ ht)
  have e:Jo (x::r)=32::x++Jo r:=by simp[Jo]
  rw[e]
  simp only[List.length_append,List.length_cons]
  omega
theorem aep{l:List (List UInt8)}(h:∀t∈l,t.length≤20000):(zT l).length≤l.length*20001:=by
 cases l with
 |nil=>simp[zT]
 |cons x r=>
  have h1:=h x (List.mem_cons_self ..)
  have h2:=Xt (l:=r) fun t ht=>h t (List.mem_cons_of_mem _ ht)
  simp only[zT,List.length_append,List.length_cons]
  omega
theorem amm(l:List DyV):(lsT l).length≤400020:=by
 unfold lsT
 cases hb:lsB l
 ·simp
 ·rw[if_pos rfl]
  unfold lsB at hb
  rw[Bool.and_eq_true,decide_eq_true_eq]at hb
  have:=aep (l:=l.map DyV.txt) fun t ht=>by
   obtain⟨d,hd,rfl⟩:=List.mem_map.1 ht
   obtain⟨m,_,a1,a2,a3⟩:=ZB (List.all_eq_true.1 hb.2 _ hd)
   rw[a3];exact ZW a1 a2
  rw[List.length_map]at this
  omega
theorem JN(l:List DyV)(hl:l.length≤9223372036854775807)(hx:∀x∈l,x.xs.length≤9223372036854775807):Con Try.prog 3 true [.sl l.length (qj DyV.cs l)] [] (isA (.v (.bool true))):=by
 by_cases hsz:l.length+smF (fun j=>l.getD j dy0) l.length≤1048576
 ·have hxs:=YM hsz
  have hx2:∀d∈l,d.xs.length≤2^40:=fun d hd=>Nat.le_trans (hxs d hd) (by omega)
  have cs:=Z2 l (by omega) hx2
  cases hb:lsB l
  ·have ht:lsT l=[]:=by unfold lsT;rw[hb,if_neg (by simp)]
   rw[hb,ht]at cs
   exact aaI l hl hx cs (Z3 l (by omega) hx2 hb)
  ·rw[hb]at cs
   exact aaH l hl hx (lsT l) (Nat.le_trans (amm l) (by omega)) cs (Z1 l hx2 hb)
 ·have cz:=Qq l 1048576 hl hx (by omega)
  refine Con.of_aw Try.func3 rfl Try.ntmps3 (by simp) (by simp) (by simp) (W.sound ?_)
  show @W Try.prog 96 ⟨_⟩ ⟨fun x σ=>@q0 _ _ _ ⟨_⟩ _ ⟨_⟩ x σ⟩ _ _
  simp(disch:=omega)only[go_sem]
  refine qh cz (by simp(disch:=omega)only[go_sem]) ?_
  rintro r hs ⟨v,rfl,rfl, -,hv⟩
  refine⟨by simp[qv],?_⟩
  rcases hv with rfl|h
  ·simp(disch:=omega)only[go_sem]
   exact qC
  ·exact absurd h.2 hsz
end Go.Ab
