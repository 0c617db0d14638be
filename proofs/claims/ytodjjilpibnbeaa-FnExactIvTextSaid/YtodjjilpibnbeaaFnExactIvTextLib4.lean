/- What the proof of this claim stands on: the walks of the functions and the plain laws, part 4. -/
import Derived.Test.YtodjjilpibnbeaaFnExactIvTextLib3
set_option linter.unusedVariables false
set_option linter.unusedSimpArgs false
namespace Go.Ab
open Go Go.Proofs
/-! ### Copies of one's own-/
theorem YF(xs:List Int)(hl:xs.length≤2000000):Con Try.prog 80 false [.sl xs.length (qc xs)] [] (fun r hs bs=>r=.rf 0 0 xs.length∧hs=[.own 1 (qc xs)]):=by
 refine Con.of_aw Try.func80 rfl Try.ntmps80 (by simp) (by simp) (by simp) (W.sound ?_)
 show @W Try.prog 22 ⟨_⟩ ⟨fun x σ=>@qO _ _ _ ⟨_⟩ _ ⟨_⟩ x σ⟩ _ _
 simp(disch:=omega)only[go_sem]
 refine⟨⟨by omega,by omega,by omega⟩,?_⟩
 refine qf (fun i:Nat=>[(0,.sl xs.length (qc xs)),(3,.rf 90000000 0 xs.length),(4,.v (.int .i64 i))]) (fun i=>[(90000000,.own 1 (qc (xs.take i++List.replicate (xs.length-i) 0)))]) (fun i=>i≤xs.length) (fun i=>xs.length-i) 0 (by omega)
  (Le.lst [] _ _ rfl (by simp(disch:=omega)only[go_sem];try omega) (by simp(disch:=omega)only[go_sem,ZU,List.take_zero,List.nil_append,Nat.sub_zero])) ?_
 intro i hi
 simp(disch:=omega)only[go_sem]
 refine qd (fun h1=>?_) (fun h1=>?_)
 ·simp(disch:=omega)only[go_sem,h1]
  have el:(xs.take i++List.replicate (xs.length-i) 0).length=xs.length:=by rw[List.length_append,List.length_take,List.length_replicate];omega
  refine⟨by omega,by omega,by omega,by omega,qe (i+1) [] (by show i+1≤_;omega) (by show xs.length-(i+1)<xs.length-i;omega) rfl (by simp(disch:=omega)only[go_sem];try omega) (by simp(disch:=omega)only[go_sem,Xd (by omega:i<xs.length)])⟩
 ·have:i=xs.length:=by omega
  subst this
  simp(disch:=omega)only[go_sem,h1]
  refine qb [(0,90000000)] [.own 1 (qc xs)] [] [.rf 0 0 xs.length] rfl (by simp(disch:=omega)only[go_sem]) (by simp(disch:=omega)only[go_sem,List.take_length,Nat.sub_self,List.replicate_zero,List.append_nil]) (by simp) (by simp) ⟨rfl,rfl⟩
theorem VE(xs:List Int)(hl:xs.length≤2000000):Con Try.prog 65 false [.ag [.sl xs.length (qc xs)]] [] (fun r hs bs=>r=.ag [.rf 0 0 xs.length]∧hs=[.own 1 (qc xs)]):=by
 refine Con.of_aw Try.func65 rfl Try.ntmps65 (by simp) (by simp) (by simp) (W.sound ?_)
 show @W Try.prog 9 ⟨_⟩ ⟨fun x σ=>@qO _ _ _ ⟨_⟩ _ ⟨_⟩ x σ⟩ _ _
 simp(disch:=omega)only[go_sem]
 refine qG (YF xs hl) (by simp(disch:=omega)only[go_sem]) ?_
 rintro r hs ⟨rfl,rfl⟩
 refine⟨by simp[qs];simp(disch:=omega)only[go_sem],?_⟩
 simp(disch:=omega)only[go_sem]
 refine qb [(0,80000000)] [.own 1 (qc xs)] [] [.ag [.rf 0 0 xs.length]] rfl (by simp(disch:=omega)only[go_sem]) (by simp(disch:=omega)only[go_sem]) (by simp) (by simp) ⟨rfl,rfl⟩
theorem JE(s:Bool)(xs:List Int)(hl:xs.length≤2000000):Con Try.prog 47 false [.ag [.v (.bool s),.sl xs.length (qc xs)]] [] (fun r hs bs=>r=.ag [.v (.bool s),.rf 0 0 xs.length]∧hs=[.own 1 (qc xs)]):=by
 refine Con.of_aw Try.func47 rfl Try.ntmps47 (by simp) (by simp) (by simp) (W.sound ?_)
 show @W Try.prog 12 ⟨_⟩ ⟨fun x σ=>@qO _ _ _ ⟨_⟩ _ ⟨_⟩ x σ⟩ _ _
 simp(disch:=omega)only[go_sem]
 refine qG (VE xs hl) (by simp(disch:=omega)only[go_sem]) ?_
 rintro r hs ⟨rfl,rfl⟩
 refine⟨by simp[qs];simp(disch:=omega)only[go_sem],?_⟩
 simp(disch:=omega)only[go_sem]
 refine qb [(0,110000000)] [.own 1 (qc xs)] [] [.ag [.v (.bool s),.rf 0 0 xs.length]] rfl (by simp(disch:=omega)only[go_sem]) (by simp(disch:=omega)only[go_sem]) (by simp) (by simp) ⟨rfl,rfl⟩
theorem JG(s:Bool)(xs:List Int)(e:Int)(hl:xs.length≤2000000):Con Try.prog 30 false [.ag [.v (.bool s),.sl xs.length (qc xs),.v (.int .i64 e)]] [] (fun r hs bs=>r=.ag [.v (.bool s),.rf 0 0 xs.length,.v (.int .i64 e)]∧hs=[.own 1 (qc xs)]):=by
 refine Con.of_aw Try.func30 rfl Try.ntmps30 (by simp) (by simp) (by simp) (W.sound ?_)
 show @W Try.prog 12 ⟨_⟩ ⟨fun x σ=>@qO _ _ _ ⟨_⟩ _ ⟨_⟩ x σ⟩ _ _
 simp(disch:=omega)only[go_sem]
 refine qG (JE s xs hl) (by simp(disch:=omega)only[go_sem]) ?_
 rintro r hs ⟨rfl,rfl⟩
 refine⟨by simp[qs];simp(disch:=omega)only[go_sem],?_⟩
 simp(disch:=omega)only[go_sem]
 refine qb [(0,80000000)] [.own 1 (qc xs)] [] [.ag [.v (.bool s),.rf 0 0 xs.length,.v (.int .i64 e)]] rfl (by simp(disch:=omega)only[go_sem]) (by simp(disch:=omega)only[go_sem]) (by simp) (by simp) ⟨rfl,rfl⟩
/-! ### Marks-/
def mkI(k n:Nat):List Int:=(List.range n).map fun i=>((k+i:Nat):Int)
theorem aaq(k n:Nat):(mkI k n).length=n:=by simp[mkI]
theorem ad5(k n:Nat):mkI k (n+1)=mkI k n++[((k+n:Nat):Int)]:=by simp[mkI,List.range_succ]
theorem ait{k i:Nat}{xs:List Int}(h:i<xs.length):(mkI k i++xs.drop i).set i ((k+i:Nat):Int)=mkI k (i+1)++xs.drop (i+1):=by
 have hl:=aaq k i
 rw[List.set_append_right _ _ (by omega),hl,Nat.sub_self,List.drop_eq_getElem_cons h,List.set_cons_zero,ad5]
 simp
theorem JK(k:Nat)(xs:List Int)(hn:xs.length≤2^40)(hk:k≤2^40):Con Try.prog 33 false [.rf 10000000 0 xs.length,.v (.int .i64 k)] [.own 1 (qc xs)]
  (fun r hs bs=>r=.v (.int .i64 ((k+xs.length:Nat):Int))∧hs=[]∧bs=[.own 1 (qc (mkI k xs.length))]):=by
 refine Con.of_aw Try.func33 rfl Try.ntmps33 (by simp) (by simp) (by simp) (W.sound ?_)
 show @W Try.prog 19 ⟨_⟩ ⟨fun x σ=>@qO _ _ _ ⟨_⟩ _ ⟨_⟩ x σ⟩ _ _
 simp(disch:=omega)only[go_sem]
 refine qf (fun i:Nat=>[(0,.rf 10000000 0 xs.length),(1,.v (.int .i64 ((k+i:Nat):Int))),(5,.v (.int .i64 i))]) (fun i=>[(10000000,.own 1 (qc (mkI k i++xs.drop i)))]) (fun i=>i≤xs.length) (fun i=>xs.length-i) 0 (by omega)
  (Le.lst [] _ _ rfl (by simp(disch:=omega)only[go_sem,Nat.add_zero]) (by simp(disch:=omega)only[go_sem,List.drop_zero];try rfl)) ?_
 intro i hi
 simp(disch:=omega)only[go_sem]
 refine qd (fun h1=>?_) (fun h1=>?_)
 ·have hlen:(mkI k i++xs.drop i).length=xs.length:=by
   rw[List.length_append,aaq,List.length_drop];omega
  have hs:=ait (k:=k) (i:=i) (xs:=xs) (by omega)
  have e1:((k+i:Nat):Int)+1=((k+(i+1):Nat):Int):=by omega
  simp(disch:=omega)only[go_sem,h1]
  refine⟨by omega,by omega,qe (i+1) [] (by show i+1≤_;omega) (by show xs.length-(i+1)<xs.length-i;omega) rfl (by simp(disch:=omega)only[go_sem,e1];try omega) (by simp(disch:=omega)only[go_sem,hs])⟩
 ·have:i=xs.length:=by omega
  subst this
  simp(disch:=omega)only[go_sem,h1]
  refine qb [] [] [.own 1 (qc (mkI k xs.length))] [.v (.int .i64 ((k+xs.length:Nat):Int))] rfl (by simp(disch:=omega)only[go_sem]) (by simp(disch:=omega)only[go_sem,List.drop_length,List.append_nil]) (by simp) (by simp) ⟨rfl,rfl,rfl⟩
theorem YI(k:Nat)(xs:List Int)(hn:xs.length≤2^40)(hk:k≤2^40):Con Try.prog 76 false [.ag [.rf 10000000 0 xs.length],.v (.int .i64 k)] [.own 1 (qc xs)]
  (fun r hs bs=>r=.v (.int .i64 ((k+xs.length:Nat):Int))∧hs=[]∧bs=[.own 1 (qc (mkI k xs.length))]):=by
 refine Con.of_aw Try.func76 rfl Try.ntmps76 (by simp) (by simp) (by simp) (W.sound ?_)
 show @W Try.prog 10 ⟨_⟩ ⟨fun x σ=>@qO _ _ _ ⟨_⟩ _ ⟨_⟩ x σ⟩ _ _
 simp(disch:=omega)only[go_sem]
 refine zj false [10000000] (JK k xs hn hk) (by simp(disch:=omega)only[go_sem]) (by simp(disch:=omega)only[go_sem]) rfl (qR (z:=1) (cs:=qc xs) (by simp(disch:=omega)only[go_sem]) (by simp(disch:=omega)only[go_sem])) (by intro n hn;exact⟨_,List.mem_cons_self ..,by rw[List.mem_singleton.1 hn];rfl⟩) ?_
 rintro r hs bs ⟨rfl,rfl,rfl⟩-
 refine⟨by simp[qs],?_⟩
 simp(disch:=omega)only[go_sem]
 refine qb [] [] [.own 1 (qc (mkI k xs.length))] [.v (.int .i64 ((k+xs.length:Nat):Int))] rfl (by simp(disch:=omega)only[go_sem]) (by simp(disch:=omega)only[go_sem]) (by simp) (by simp) ⟨rfl,rfl,rfl⟩
theorem ZJ(s:Bool)(k:Nat)(xs:List Int)(hn:xs.length≤2^40)(hk:k≤2^40):Con Try.prog 59 false [.ag [.v (.bool s),.rf 10000000 0 xs.length],.v (.int .i64 k)] [.own 1 (qc xs)]
  (fun r hs bs=>r=.v (.int .i64 ((k+xs.length:Nat):Int))∧hs=[]∧bs=[.own 1 (qc (mkI k xs.length))]):=by
 refine Con.of_aw Try.func59 rfl Try.ntmps59 (by simp) (by simp) (by simp)
  (AW.seqLe (E:=[(1,.v (.int .i64 k)),(2,.pt 40000000 0),(4,.v (.int .i64 0))]) (H:=[(40000000,.own 0 [.v (.bool s),.rf 10000000 0 xs.length]),(10000000,.own 1 (qc xs))]) (W.sound ?_)
   (AW.regCall (E:=[(2,.pt 40000000 0),(4,.v (.int .i64 0)),(6,.ag [.rf 10000000 0 xs.length]),(7,.v (.int .i64 k))]) (H:=[(40000000,.own 0 [.v (.bool s),.rf 10000000 0 xs.length]),(10000000,.own 1 (qc xs))]) 3 (by simp only[List.take_succ_cons,List.take_zero];rfl) (by simp only[List.drop_succ_cons,List.drop_zero];rfl) ?_
    (by decide) rfl rfl (by simp(disch:=omega)only[go_sem]) (by rfl) false [10000000] (YI k xs hn hk) (by simp(disch:=omega)only[go_sem]) (by simp(disch:=omega)only[go_sem]) rfl (qR (z:=1) (cs:=qc xs) (by simp(disch:=omega)only[go_sem]) (by simp(disch:=omega)only[go_sem])) ?_))
 ·show @W Try.prog 10 ⟨_⟩ ⟨_⟩ _ _
  simp(disch:=omega)only[go_sem]
  exact Le.lst [] _ _ rfl (by simp(disch:=omega)only[go_sem]) (by simp(disch:=omega)only[go_sem])
 ·simp(disch:=omega)only[go_sem]
  exact Le.lst [] _ _ rfl (by simp(disch:=omega)only[go_sem]) (by simp(disch:=omega)only[go_sem])
 rintro r hs bs ⟨rfl,rfl,rfl⟩-
 refine⟨by simp[qs],?_⟩
 show @Ch Try.prog 10 ⟨_⟩ ⟨_⟩ ⟨fun σ=>@W Try.prog 10 ⟨_⟩ ⟨fun x σ=>@qO _ _ _ ⟨_⟩ _ ⟨_⟩ x σ⟩ σ.env σ.hp⟩ _ _
 simp(disch:=omega)only[go_sem]
 refine qb [] [] [.own 1 (qc (mkI k xs.length))] [.v (.int .i64 ((k+xs.length:Nat):Int))] rfl (by simp(disch:=omega)only[go_sem]) (by simp(disch:=omega)only[go_sem]) (by simp) (by simp) ⟨rfl,rfl,rfl⟩
theorem Q4(s:Bool)(e:Int)(k:Nat)(xs:List Int)(hn:xs.length≤2^40)(hk:k≤2^40):Con Try.prog 44 false [.ag [.v (.bool s),.rf 10000000 0 xs.length,.v (.int .i64 e)],.v (.int .i64 k)] [.own 1 (qc xs)]
  (fun r hs bs=>r=.v (.int .i64 ((k+xs.length:Nat):Int))∧hs=[]∧bs=[.own 1 (qc (mkI k xs.length))]):=by
 refine Con.of_aw Try.func44 rfl Try.ntmps44 (by simp) (by simp) (by simp)
  (AW.seqLe (E:=[(1,.v (.int .i64 k)),(2,.pt 40000000 0),(4,.v (.int .i64 0))]) (H:=[(40000000,.own 0 [.v (.bool s),.rf 10000000 0 xs.length,.v (.int .i64 e)]),(10000000,.own 1 (qc xs))]) (W.sound ?_)
   (AW.regCall (E:=[(2,.pt 40000000 0),(4,.v (.int .i64 0)),(6,.ag [.v (.bool s),.rf 10000000 0 xs.length]),(7,.v (.int .i64 k))]) (H:=[(40000000,.own 0 [.v (.bool s),.rf 10000000 0 xs.length,.v (.int .i64 e)]),(10000000,.own 1 (qc xs))]) 3 (by simp only[List.take_succ_cons,List.take_zero];rfl) (by simp only[List.drop_succ_cons,List.drop_zero];rfl) ?_
    (by decide) rfl rfl (by simp(disch:=omega)only[go_sem]) (by rfl) false [10000000] (ZJ s k xs hn hk) (by simp(disch:=omega)only[go_sem]) (by simp(disch:=omega)only[go_sem]) rfl (qR (z:=1) (cs:=qc xs) (by simp(disch:=omega)only[go_sem]) (by simp(disch:=omega)only[go_sem])) ?_))
 ·show @W Try.prog 10 ⟨_⟩ ⟨_⟩ _ _
  simp(disch:=omega)only[go_sem]
  exact Le.lst [] _ _ rfl (by simp(disch:=omega)only[go_sem]) (by simp(disch:=omega)only[go_sem])
 ·simp(disch:=omega)only[go_sem]
  exact Le.lst [] _ _ rfl (by simp(disch:=omega)only[go_sem]) (by simp(disch:=omega)only[go_sem])
 rintro r hs bs ⟨rfl,rfl,rfl⟩-
 refine⟨by simp[qs],?_⟩
 show @Ch Try.prog 10 ⟨_⟩ ⟨_⟩ ⟨fun σ=>@W Try.prog 10 ⟨_⟩ ⟨fun x σ=>@qO _ _ _ ⟨_⟩ _ ⟨_⟩ x σ⟩ σ.env σ.hp⟩ _ _
 simp(disch:=omega)only[go_sem]
 refine qb [] [] [.own 1 (qc (mkI k xs.length))] [.v (.int .i64 ((k+xs.length:Nat):Int))] rfl (by simp(disch:=omega)only[go_sem]) (by simp(disch:=omega)only[go_sem]) (by simp) (by simp) ⟨rfl,rfl,rfl⟩
end Go.Ab
namespace Go.Ab
open Go Go.Proofs
/-! ### A row of numbers,each with limbs of its own-/
def dcs(b:Nat)(p:Nat×DyV):List AV:=[.v (.bool p.2.s),.rf (b+p.1) 0 p.2.xs.length,.v (.int .i64 p.2.e)]
theorem asf(b:Nat)(p:Nat×DyV):(dcs b p).length=3:=rfl
def prs(l:List DyV)(i:Nat):List (Nat×DyV):=(List.range i).map fun j=>(j,l.getD j dy0)
def ar0(l:List DyV)(j:Nat):Ob:=.own 1 (qc (l.getD j dy0).xs)
theorem aoh{l:List DyV}:prs l 0=[]:=rfl
end Go.Ab
namespace Go.Ab
open Go Go.Proofs
/-! ### Texts of numbers-/
def txs(l:List DyV)(i:Nat):List (List UInt8):=(l.take i).map DyV.txt
theorem Ze{l:List DyV}{i:Nat}(h:i≤l.length):(txs l i).length=i:=by unfold txs;rw[List.length_map,List.length_take];omega
theorem Y7{l:List DyV}{i:Nat}(h:i<l.length):txs l (i+1)=txs l i++[(l.getD i dy0).txt]:=by
 unfold txs
 rw[List.take_add_one,List.getElem?_eq_getElem h,List.map_append,List.getD_eq_getElem?_getD,List.getElem?_eq_getElem h];rfl
theorem agd{l:List DyV}:txs l l.length=l.map DyV.txt:=by unfold txs;rw[List.take_length]
def aom(B:List UInt8):AV→List Ob→List Ob→Prop:=fun r hs bs=>∃zs,r=.tu [.rf 0 0 B.length,.v (.bool true)]∧hs=[.own 1 (qa (B++zs))]
def aon:AV→List Ob→List Ob→Prop:=fun r hs bs=>r=.tu [.v (.slice none 0 0),.v (.bool false)]∧hs=[]
theorem ajE{s:Bool}{m:Nat}{e:Int}:yt s m e≠[]:=by
 unfold yt
 intro h
 have h2:=(List.append_eq_nil_iff.1 h).2
 split at h2
 ·exact ZW _ h2
 ·unfold ptT at h2
  have:=(List.append_eq_nil_iff.1 h2).2
  cases this
set_option maxRecDepth 100000 in
theorem YG(l:List DyV)(hl:l.length≤20)(hx:∀d∈l,d.xs.length≤2^40)(hm:∀d∈l,d.may=true):Con Try.prog 31 true [.sl l.length (qy DyV.cs l)] [] (aom (Qy (l.map DyV.txt))):=by
 have hne:∀t∈l.map DyV.txt,t≠[]∧t.length≤1000000:=fun t ht=>by
  obtain⟨d,hd,rfl⟩:=List.mem_map.1 ht
  obtain⟨m,_,a1,a2,a3⟩:=Yo (hm d hd)
  rw[a3]
  exact⟨ajE,Nat.le_trans (Xw a1 a2) (by omega)⟩
 have cj:=ae1 [32] (l.map DyV.txt) (by simp) (by rw[List.length_map];omega) hne
 rw[aiF,List.length_map]at cj
 refine Con.of_aw Try.func31 rfl Try.ntmps31 (by simp) (by simp) (by simp) (W.sound ?_)
 show @W Try.prog 31 ⟨_⟩ ⟨fun x σ=>@qO _ _ _ ⟨_⟩ _ ⟨_⟩ x σ⟩ _ _
 simp(disch:=omega)only[go_sem]
 refine qf (fun i:Nat=>[(2,.v (.slice none 0 0)),(3,.v (.bool false)),(4,.rf 1 0 i),(9,.sl l.length (qy DyV.cs l)),(10,.v (.int .i64 l.length)),(11,.v (.int .i64 i))])
  (fun i=>[(1,.own 1 (qy tcs (txs l i)))]) (fun i=>i≤l.length) (fun i=>l.length-i) 0 (by omega)
  ((Le.ghost 4 1 1 (by simp(disch:=omega)only[go_sem]) (by simp(disch:=omega)only[go_sem])).trans (Le.lst [] _ _ rfl (by simp(disch:=omega)only[go_sem]) (by simp(disch:=omega)only[go_sem,show qy tcs (txs l 0)=[] from rfl]))) ?_
 intro i hi
 simp(disch:=omega)only[go_sem]
 refine qd (fun h1=>?_) (fun h1=>?_)
 ·have hi2:i<l.length:=by omega
  have hci:=abe (l:=l) (i:=i) hi2
  have hcut:=J9 (Ze hi)
  rw[Nat.mul_one]at hcut
  have hml:=Ze hi
  have hs:=Y7 hi2
  have hmem:l.getD i dy0∈l:=by rw[List.getD_eq_getElem?_getD,List.getElem?_eq_getElem hi2];exact List.getElem_mem _
  have hd:=hx _ hmem
  have hmy:=hm _ hmem
  generalize l.getD i dy0=d at*
  have ct:=Q9 d.s d.xs d.e hd
  have hmy2:J2 d.s d.xs d.e=true:=hmy
  have htx:aau d.s d.xs d.e=d.txt:=by unfold aau;rw[hmy2,if_pos rfl];rfl
  rw[hmy2,htx]at ct
  generalize d.txt=u at*
  simp(disch:=omega)only[go_sem,h1,hci]
  refine⟨by omega,by omega,?_⟩
  refine qi (ct) ?_
  simp(disch:=omega)only[go_sem]
  simp(disch:=omega)only[go_sem,hcut,Xa]
  exact⟨⟨by omega,by omega⟩,qe (i+1) [(1,270000000)] (by show i+1≤_;omega) (by show l.length-(i+1)<l.length-i;omega) rfl (by simp(disch:=omega)only[go_sem];try omega) (by simp(disch:=omega)only[go_sem,hs])⟩
 ·simp(disch:=omega)only[go_sem,h1]
  obtain rfl:i=l.length:=by omega
  rw[agd]
  have hcut:=J9 (l:=l.map DyV.txt) (k:=l.length) (List.length_map ..)
  rw[Nat.mul_one]at hcut
  refine qH (z:=1) (cs:=qa [32]) trivial ⟨_,tf5,rfl⟩ (by simp(disch:=omega)only[go_sem,qV];rfl) (by omega) ?_
  simp(disch:=omega)only[go_sem]
  refine qh cj ?_ ?_
  ·simp(disch:=omega)only[go_sem,hcut]
   rfl
  rintro r hs ⟨zs,rfl,rfl⟩
  refine⟨by simp[qs];try simp(disch:=omega)only[go_sem],?_⟩
  simp(disch:=omega)only[go_sem]
  refine qb [(0,320000000)] [.own 1 (qa (Qy (l.map DyV.txt)++zs))] [] [.rf 0 0 (Qy (l.map DyV.txt)).length,.v (.bool true)] rfl (by simp(disch:=omega)only[go_sem]) (by simp(disch:=omega)only[go_sem]) (by simp) (by intro _;simp[qN,AV.pu,AV.pu.puL,Ob.pu,qL]) ⟨zs,rfl,rfl⟩
theorem JI(l:List DyV)(hl:l.length≤20)(hx:∀d∈l,d.xs.length≤2^40)(hm:l.all DyV.may=false):Con Try.prog 31 true [.sl l.length (qy DyV.cs l)] [] aon:=by
 refine Con.of_aw Try.func31 rfl Try.ntmps31 (by simp) (by simp) (by simp) (W.sound ?_)
 show @W Try.prog 31 ⟨_⟩ ⟨fun x σ=>@qO _ _ _ ⟨_⟩ _ ⟨_⟩ x σ⟩ _ _
 simp(disch:=omega)only[go_sem]
 refine qf (fun i:Nat=>[(2,.v (.slice none 0 0)),(3,.v (.bool false)),(4,.rf 1 0 i),(9,.sl l.length (qy DyV.cs l)),(10,.v (.int .i64 l.length)),(11,.v (.int .i64 i))])
  (fun i=>[(1,.own 1 (qy tcs (txs l i)))]) (fun i=>i≤l.length∧∀d∈l.take i,d.may=true) (fun i=>l.length-i) 0 ⟨by omega,by simp⟩
  ((Le.ghost 4 1 1 (by simp(disch:=omega)only[go_sem]) (by simp(disch:=omega)only[go_sem])).trans (Le.lst [] _ _ rfl (by simp(disch:=omega)only[go_sem]) (by simp(disch:=omega)only[go_sem,show qy tcs (txs l 0)=[] from rfl]))) ?_
 rintro i ⟨hi,hp⟩
 simp(disch:=omega)only[go_sem]
 refine qd (fun h1=>?_) (fun h1=>?_)
 ·have hi2:i<l.length:=by omega
  have hci:=abe (l:=l) (i:=i) hi2
  have hcut:=J9 (Ze hi)
  rw[Nat.mul_one]at hcut
  have hml:=Ze hi
  have hs:=Y7 hi2
  have hmem:l.getD i dy0∈l:=by rw[List.getD_eq_getElem?_getD,List.getElem?_eq_getElem hi2];exact List.getElem_mem _
  have hd:=hx _ hmem
  have htk:l.take (i+1)=l.take i++[l.getD i dy0]:=by
   rw[List.take_add_one,List.getElem?_eq_getElem hi2,List.getD_eq_getElem?_getD,List.getElem?_eq_getElem hi2];rfl
  generalize l.getD i dy0=d at*
  have ct:=Q9 d.s d.xs d.e hd
  have hdm:J2 d.s d.xs d.e=d.may:=rfl
  rw[hdm]at ct
  cases hmy:d.may
  ·rw[hmy]at ct
   generalize aau d.s d.xs d.e=u at*
   simp(disch:=omega)only[go_sem,h1,hci]
   refine⟨by omega,by omega,?_⟩
   refine qi (ct) ?_
   simp(disch:=omega)only[go_sem]
   refine qb [] [] [] [.v (.slice none 0 0),.v (.bool false)] rfl (by simp(disch:=omega)only[go_sem]) (by simp(disch:=omega)only[go_sem]) (by simp) (by intro _;simp[qN,AV.pu,AV.pu.puL,Ob.pu]) ⟨rfl,rfl⟩
  ·rw[hmy]at ct
   have htx:aau d.s d.xs d.e=d.txt:=by unfold aau;rw[hdm,hmy,if_pos rfl];rfl
   rw[htx]at ct
   generalize d.txt=u at*
   simp(disch:=omega)only[go_sem,h1,hci]
   refine⟨by omega,by omega,?_⟩
   refine qi (ct) ?_
   simp(disch:=omega)only[go_sem]
   simp(disch:=omega)only[go_sem,hcut,Xa]
   refine⟨⟨by omega,by omega⟩,qe (i+1) [(1,270000000)] ⟨by show i+1≤_;omega,fun y hy=>?_⟩ (by show l.length-(i+1)<l.length-i;omega) rfl (by simp(disch:=omega)only[go_sem];try omega) (by simp(disch:=omega)only[go_sem,hs])⟩
   rw[htk]at hy
   rcases List.mem_append.1 hy with h|h
   ·exact hp y h
   ·rw[List.mem_singleton.1 h];exact hmy
 ·exfalso
  obtain rfl:i=l.length:=by omega
  rw[List.take_length]at hp
  rw[List.all_eq_true.2 hp]at hm
  cases hm
end Go.Ab
namespace Go.Ab
open Go
/-! ### An operation that yields a plain value and changes nothing-/
section
variable {P:Program}
theorem AW.regValB{N:Nat}{Q:Exit→St→Prop}{e:Nat→AV}{h:Nat→Ob}{id:Nat}{l:List Oper}(k:Nat){pre suf:List Oper}{d ty:Nat}{pos:String}{af:Array Edge}{op:Op}(v:Value)
  (hp:l.take k=pre) (hs:l.drop k=⟨some d,op,ty,pos,af,none⟩::suf) {e':Nat→AV} {h':Nat→Ob}
  (h1:@Ch P N ⟨l⟩ ⟨pre⟩ ⟨fun σ'=>Le σ' ⟨e',h'⟩⟩ e h)
  (hd:d<N) (hrun:∀(w:World) (ev:Operand→Value),(∀x u,evW e' x=.v u→ev x=u)→(execOp ev ⟨some d,op,ty,pos,af,none⟩).run P w=.ok (.value v) w)
  {e2:Nat→AV} {h2:Nat→Ob} (hle2:Le ⟨upd e' d (.v v),h'⟩ ⟨e2,h2⟩) (hcall:@Ch P N ⟨l⟩ ⟨suf⟩ ⟨fun σ=>Q .normal σ⟩ e2 h2):
  AW P N (.region id ⟨l⟩ false) Q ⟨e,h⟩:=by
 refine fun L w0 R0 a w hi=>wp_region ?_
 have hl2:l=pre++⟨some d,op,ty,pos,af,none⟩::suf:=by rw[←hp,←hs,List.take_append_drop]
 have hr:List.range (⟨l⟩:Array Oper).size=List.range' 0 pre.length++(pre.length::(List.range' (pre.length+1) suf.length++[])):=by
  have hsz:(⟨l⟩:Array Oper).size=pre.length+(suf.length+1):=by show l.length=_;rw[hl2,List.length_append,List.length_cons]
  rw[hsz,List.append_nil,List.range_eq_range',List.range'_append_1.symm,Nat.zero_add,List.range'_succ]
 rw[hr]
 refine q0 (K:=fun σ'=>Le σ' ⟨e',h'⟩) (fun σ a w hi2 hle=>?_) pre 0 (fun j hj=>?_) hi h1
 ·have hi3:=hle L w0 R0 N a w hi2
  obtain⟨R,ι,hR,hinv⟩:=hi3.inv
  have hget:(⟨l⟩:Array Oper)[pre.length]? =some ⟨some d,op,ty,pos,af,none⟩:=by
   rw[List.getElem?_toArray,hl2,List.getElem?_append_right (Nat.le_refl _),Nat.sub_self];rfl
  simp only[wpOps,hget]
  rw[if_pos (by simp[Region.wanted])]
  refine .inl ?_
  unfold Oper.wp
  have hex:=hrun w a.eval fun x u hx=>by
   have h2:=hinv.ev x
   rw[qF,hx]at h2
   exact h2.v_inv
  rw[hex]
  refine jo (w:=w) (σ:=⟨e',h'⟩) (K:=fun v' hp'=>v'=.v v∧hp'=h') (Snd.same (av:=.v v) hinv rfl ⟨rfl,rfl⟩ (.fr _ _ (.v _)) (by simp[AV.All])) fun x w' R' ι' av hp' hR' hK hx hm hi'=>?_
  obtain⟨rfl,rfl⟩:=hK
  refine q0 (K:=fun σ=>Q .normal σ) (fun σ a w hi4 hq=>?_) suf (pre.length+1) (fun j hj=>?_) (hle2 L w0 R0 N _ _ (hi3.put (o:=⟨some d,op,ty,pos,af,none⟩) hd hR hR' hx hm hi')) hcall
  ·exact⟨σ,hi4,hq⟩
  rw[List.getElem?_toArray,hl2,List.getElem?_append_right (by omega),show pre.length+1+j-pre.length=j+1 by omega];rfl
 ·rw[List.getElem?_toArray,hl2,Nat.zero_add,List.getElem?_append_left hj]
theorem AW.regVal{N:Nat}{Q:Exit→St→Prop}{e:Nat→AV}{h:Nat→Ob}{id:Nat}{l:List Oper}{y:Code}(k:Nat){pre suf:List Oper}{d ty:Nat}{pos:String}{af:Array Edge}{op:Op}(v:Value)
  (hp:l.take k=pre) (hs:l.drop k=⟨some d,op,ty,pos,af,none⟩::suf) {e':Nat→AV} {h':Nat→Ob}
  (h1:@Ch P N ⟨l⟩ ⟨pre⟩ ⟨fun σ'=>Le σ' ⟨e',h'⟩⟩ e h)
  (hd:d<N) (hrun:∀(w:World) (ev:Operand→Value),(∀x u,evW e' x=.v u→ev x=u)→(execOp ev ⟨some d,op,ty,pos,af,none⟩).run P w=.ok (.value v) w)
  (hcall:@Ch P N ⟨l⟩ ⟨suf⟩ ⟨fun σ=>AW P N y Q σ⟩ (upd e' d (.v v)) h'):
  AW P N (.seq (.region id ⟨l⟩ false) y) Q ⟨e,h⟩:=
 AW.seq (AW.regValB (Q:=Zf (AW P N y Q) Q) k v hp hs h1 hd hrun (Le.refl _) hcall)
theorem Xf{w:World}{ev:Operand→Value}{d:Option Nat}{ty:Nat}{pos:String}{af:Array Edge}{x:Operand}{t e:Nat}(hx:ev x=.slice none 0 0)(hu:P.underlying t=some (.slice e)):
  (execOp ev ⟨d,.call ⟨.builtin .cap,#[x],#[t]⟩,ty,pos,af,none⟩).run P w=.ok (.value (.int .i64 0)) w:=by
 have h1:(underlying t).run P w=.ok (.slice e) w:=by simp[underlying,hu,go_sem]
 simp only[execOp,resolve,invoke,Sem.run_bind,Sem.run_pure,Result.andThen,List.map_toArray,List.map_cons,List.map_nil,hx,builtin,Builtin.cap_,List.getElem?_toArray,List.getElem?_cons_zero,h1]
 rfl
end
end Go.Ab
namespace Go.Ab
open Go
/-! ### A call whose arguments are plain values,told as they are (nil is nil)-/
def af3(P:Program)(f:FuncId)(aa0:List AV)(hp:Nat→Ob)(nm0:Nat)(K:AV→(Nat→Ob)→Prop):Prop:=
 ∃cl nms args post,Con P f cl args (nms.map fun n=>(hp n).ren (back nms)) post∧(∀{R:Nat→Prop} {ι:Nat→Option Blk} {w:World} {vs:Array Value},RepA R ι w vs aa0→∀R₁ ι₁,RepA R₁ ι₁ w vs args)∧AllL (fun _=>False) args∧nms.Nodup∧jV hp nms∧
  ∀r hs bs',post r hs bs'→hs.length≤10000000∧qs hp nm0 hs∧(cl=true→nms=[]∨∀ob∈bs',ob.plain)∧
   K (r.ren (rho nm0 nms)) (jM (QF (rho nm0 nms) hp nm0 hs) nms (bs'.map (Ob.ren (rho nm0 nms))))
section
variable {P:Program}{L:Nat→Option Blk→Prop}{w0 w:World}{R:Nat→Prop}{ι:Nat→Option Blk}{tm:Array Value}{σ:St}{K:AV→(Nat→Ob)→Prop}
theorem abK{f:FuncId}{aa0:List AV}{nm0:Nat}{vs:Array Value}(h:Inv L w0 R ι w tm σ)(hv:RepA R ι w vs aa0)(hs:af3 P f aa0 σ.hp nm0 K):
  Calls P f vs w fun e w'=>∃x R' ι' av hp',e=.returned x∧(∀b,R' b→R b∨w.heap.size≤b)∧K av hp'∧Rep R' ι' w' x av∧av.All (fun m=>hp' m≠ .free)∧Inv L w0 R' ι' w' tm ⟨σ.env,hp'⟩:=by
 obtain⟨cl,nms,args,post,hc,hq,hq2,hnd,hl,hpost⟩:=hs
 let R₁:Nat→Prop:=fun b=>R b∨XG (hpx cl nms σ.hp) ι b
 let ι₁:Nat→Option Blk:=fun m=>if 10000000≤m then(nms[m-10000000]?).bind ι else none
 have hHx:=h.hp.hpx cl nms
 have hι₁:∀i (hi:i<nms.length),ι₁ (10000000+i)=ι nms[i]:=fun i hi=>by
  show(if 10000000≤10000000+i then _ else _)=_
  rw[if_pos (by omega),show 10000000+i-10000000=i by omega,List.getElem?_eq_getElem hi];rfl
 have hbk:∀m,(idx nms m).isSome=true→∃i,∃hi:i<nms.length,nms[i]=m∧back nms m=10000000+i:=by
  intro m hm
  obtain⟨i,e⟩:=Option.isSome_iff_exists.1 hm
  obtain⟨hi,e2⟩:=zA e
  exact⟨i,hi,e2,by simp[back,e]⟩
 have hxe:∀{m z cs},hpx cl nms σ.hp m=.own z cs→σ.hp m=.own z cs∧cl=true∧idx nms m=none:=by
  intro m z cs e
  unfold hpx at e
  cases cl with
  |false=>cases e
  |true=>
   simp only[cond_true]at e
   split at e
   ·cases e
   ·rename_i hi;exact⟨e,rfl,by simpa using hi⟩
 generalize hbs:nms.map (fun n=>(σ.hp n).ren (back nms))=bs at hc
 have hblen:bs.length=nms.length:=by rw[←hbs];simp
 have hbget:∀i (hi:i<nms.length),bhp bs (10000000+i)=(σ.hp nms[i]).ren (back nms):=fun i hi=>by
  simp only[bhp]
  rw[if_pos (by omega),show 10000000+i-10000000=i by omega,←hbs,List.getD_eq_getElem?_getD,List.getElem?_map,List.getElem?_eq_getElem hi];rfl
 have hbown:∀{m z cs},bhp bs m=.own z cs→∃i,∃hi:i<nms.length,m=10000000+i∧∃cs0,σ.hp nms[i]=.own z cs0∧cs=zb (back nms) cs0∧AllL (fun m=>(idx nms m).isSome=true) cs0:=by
  intro m z cs e
  have h5:10000000≤m:=by
   rcases Nat.lt_or_ge m 10000000 with h|h
   ·simp[bhp,show ¬10000000≤m by omega]at e
   ·exact h
  obtain⟨i,rfl⟩:∃i,m=10000000+i:=⟨m-10000000,by omega⟩
  have hi:i<nms.length:=by
   rcases Nat.lt_or_ge i nms.length with h|h
   ·exact h
   ·simp only[bhp]at e
    rw[if_pos h5,show 10000000+i-10000000=i by omega,List.getD_eq_getElem?_getD,List.getElem?_eq_none (by omega)]at e
    cases e
  rw[hbget i hi]at e
  obtain⟨z',cs0,eo,ha⟩:=hl _ (List.getElem_mem hi)
  rw[eo]at e
  simp only[Ob.ren]at e
  injection e with e1 e2
  subst e1
  exact⟨i,hi,rfl,cs0,eo,e2.symm,ha⟩
 have hbne:∀i,i<nms.length→bhp bs (10000000+i)≠ .free:=fun i hi=>by
  rw[hbget i hi]
  obtain⟨z',cs0,eo,ha⟩:=hl _ (List.getElem_mem hi)
  rw[eo];simp[Ob.ren]
 have hR₁lt:∀b,R₁ b→b<w.heap.size:=fun b hb=>by
  rcases hb with hb|⟨m,z,cs,B,e,hB,rfl⟩
  ·exact h.rlt b hb
  ·exact h.block_lt (hxe e).1 hB
 have hnR₁:∀i (hi:i<nms.length) B,ι nms[i]=some B→¬R₁ B.b:=fun i hi B hB hr=>by
  obtain⟨z',cs0,eo,ha⟩:=hl _ (List.getElem_mem hi)
  rcases hr with hr|⟨m,z,cs,B',e,hB',eb⟩
  ·exact h.hp.nR _ _ _ _ eo hB hr
  ·have:=h.hp.inj _ _ _ _ _ _ _ _ (hxe e).1 eo hB' hB eb
   subst this
   have:=(hxe e).2.2
   rw[zK hnd i hi]at this;cases this
 have hHp:HpOk R₁ ι₁ w (bhp bs):=by
  refine⟨fun m=>?_,fun m z cs B e hB=>?_,fun m m' z z' cs cs' B B' e e' hB hB' hbb=>?_,fun m z cs e=>?_⟩
  ·cases e:bhp bs m with
   |free=>trivial
   |dead=>trivial
   |own z cs=>
    obtain⟨i,hi,rfl,cs0,eo,rfl,ha⟩:=hbown e
    rw[hι₁ i hi]
    have hok:=h.hp.ok nms[i]
    rw[eo]at hok
    have h1:OOk R₁ ι w (ι nms[i]) (.own z cs0):=hok.mono (fun _ _=>rfl) (fun _ _ _ _ _=>rfl) (fun _ h=>.inl h) (fun _ _ _=>AllL.of_mem fun a _=>AV.all_true (fun _=>rfl) a)
    refine h1.ren (ρ:=back nms) fun z' cs' e'=>?_
    cases e'
    refine ha.mono fun m hm=>?_
    obtain⟨j,hj,e1,e2⟩:=hbk m hm
    rw[e2,hι₁ j hj,e1]
  ·obtain⟨i,hi,rfl,cs0,eo,rfl,ha⟩:=hbown e
   rw[hι₁ i hi]at hB
   exact hnR₁ i hi B hB
  ·obtain⟨i,hi,rfl,cs0,eo,rfl,ha⟩:=hbown e
   obtain⟨j,hj,rfl,cs0',eo',rfl,ha'⟩:=hbown e'
   rw[hι₁ i hi]at hB
   rw[hι₁ j hj]at hB'
   have:=h.hp.inj _ _ _ _ _ _ _ _ eo eo' hB hB' hbb
   have h1:=zK hnd i hi
   rw[this,zK hnd j hj]at h1
   cases h1;rfl
  ·obtain⟨i,hi,rfl,cs0,eo,rfl,ha⟩:=hbown e
   refine ha.ren fun m hm=>?_
   obtain⟨j,hj,e1,e2⟩:=hbk m hm
   rw[e2];exact hbne j hj
 have hrho:∀m i,idx nms m=some i→ι₁ (10000000+i)=ι m:=fun m i e=>by
  obtain⟨hi,e2⟩:=zA e
  rw[hι₁ i hi,e2]
 have hargs:RepA R₁ ι₁ w vs args:=hq hv _ _
 have hall:AllL (fun m=>bhp bs m≠ .free) args:=hq2.mono fun m h=>h.elim
 have hGd:GdL (XG (bhp bs) ι₁) w:=by
  refine⟨h.gdw,fun g l hg ho=>?_⟩
  obtain⟨m,z,cs,B,e,hB,eb⟩:=ho
  obtain⟨i,hi,rfl,cs0,eo,rfl,ha⟩:=hbown e
  rw[hι₁ i hi]at hB
  exact h.gno eo hB g l hg eb
 refine(hc R₁ ι₁ w vs hR₁lt hargs hall hHp hGd).mono ?_
 rintro e w' ⟨x,r,hs,bs',R',ι',rfl,hp,hF⟩
 obtain⟨hN16,hfree,hpl,hK⟩:=hpost r hs bs' hp
 have hN:hs.length≤10000000:=by omega
 have hlen:bs'.length=nms.length:=hF.len.trans hblen
 have hnew:∀b,R' b→w.heap.size≤b∨R b:=fun b hb=>by
  rcases hF.rnew b hb with h1|⟨hcl,h1|⟨m,z,cs,B,e,_⟩⟩
  ·exact .inl h1
  ·exact .inr h1
  ·have:=(hxe e).2.1;rw[hcl]at this;cases this
 have hext:Ext (fun b=>∃n∈nms,∃B,ι n=some B∧B.b=b) w w':=⟨hF.ext.os,hF.ext.tape,hF.ext.output,hF.ext.size,fun b hb hn=>hF.ext.block b hb fun⟨m,z,cs,B,e,hB,eb⟩=>by
  obtain⟨i,hi,rfl,cs0,eo,rfl,ha⟩:=hbown e
  rw[hι₁ i hi]at hB
  exact hn ⟨_,List.getElem_mem hi,B,hB,eb⟩⟩
 have hok:∀m,10000000≤m→OOk (fun b=>R b∨R' b) ι' w' (ι' m) (rhp hs bs' m):=by
  intro m h5
  have h1:=hF.okB m h5
  cases cl with
  |false=>
   refine OOk.mono h1 (fun _ _=>rfl) (fun _ _ _ _ _=>rfl) (fun b hb=>?_) (fun _ _ _=>AllL.of_mem fun a _=>AV.all_true (fun _=>rfl) a)
   rcases hb with(hb|⟨m,z,cs,B,e,_⟩)|hb
   ·exact .inl hb
   ·have:=(hxe e).2.1;cases this
   ·exact .inr hb
  |true=>
   refine h1.plain ?_
   rcases hpl rfl with h2|h2
   ·subst h2
    have:bs'=[]:=List.length_eq_zero_iff.1 (by simpa using hlen)
    subst this
    simp[rhp,h5,Ob.plain]
   ·simp only[rhp,if_pos h5,List.getD_eq_getElem?_getD]
    cases e:bs'[m-10000000]? with
    |none=>simp[Ob.plain]
    |some ob=>simpa using h2 ob (List.mem_of_getElem? e)
 have hnR:∀m z cs B,rhp hs bs' m=.own z cs→ι' m=some B→¬(R B.b∨R' B.b):=fun m z cs B e hB hr=>hF.nR m z cs B e hB (hr.imp .inl id)
 have hlive:∀n∈nms,∃z cs,σ.hp n=.own z cs:=fun n hn=>let ⟨z,cs,e,_⟩:=hl n hn;⟨z,cs,e⟩
 obtain⟨ι₂,hi,hr,ha⟩:=ym (nm0:=nm0) h hnd hlive hext hF.rlt hnew hF.rep hF.all hF.okF hok hnR hF.inj hF.men hF.fresh hlen hN
  (fun i hi=>by rw[hF.bown _ (by omega),hι₁ i hi]) hF.bnf hfree
 exact⟨x,fun b=>R b∨R' b,ι₂,_,_,rfl,fun b hb=>hb.elim .inl fun hb=>(hnew b hb).elim .inr .inl,hK,hr,ha,hi⟩
end
section
variable {P:Program}{L:Nat→Option Blk→Prop}{w0 w:World}{R:Nat→Prop}{ι:Nat→Option Blk}{a:Act}{σ:St}{K:AV→(Nat→Ob)→Prop}
 {next:Act→World→Prop} {Q:Exit→Act→World→Prop}
theorem ahT{o:Oper}{c}{x:Operand}{f:FuncId}(ho:o.op=.call c)(hc:c.callee=.value x)(e:σ.ev x=.fn f [])(hfn:qD P f)(h:Inv L w0 R ι w a.tmps σ)(hs:af3 P f (c.args.toList.map σ.ev) σ.hp (crn o) K)
  (hnext:∀x w' R' ι' av hp',(∀b,R' b→R b∨w.heap.size≤b)→K av hp'→Rep R' ι' w' x av→av.All (fun m=>hp' m≠ .free)→Inv L w0 R' ι' w' a.tmps ⟨σ.env,hp'⟩→next (a.put o.dst x) w'):
  o.wp P a w next Q:=by
 unfold Oper.wp
 have hv:=yD h c.args
 obtain⟨fn,hf,hn,hb⟩:=hfn
 have hx:=h.ev x
 rw[e]at hx
 obtain⟨vs,hx,h1,h2⟩:=hx.fn_inv
 have hvs:RepA R ι w vs []:=⟨h1,h2⟩
 have hv2:=hv.append hvs
 rw[List.append_nil]at hv2
 have hcl:=abK (nm0:=crn o) h hv2 hs
 have hbn:fn.body.isNone=false:=by cases hq:fn.body<;>simp_all
 have hnn:(fn.name== "runtime.NumGoroutine")=false:=by simpa using hn
 have hrun:(execOp a.eval o).run P w=.ok (.enter f (c.args.map a.eval++vs)) w:=by
  simp only[execOp,ho,resolve,hc,hx,Deferred.ofValue,Sem.run_bind,Sem.run_pure,Result.andThen,invoke,Array.empty_append]
  exact jl hf hnn hbn _
 rw[hrun,Oper.upon_enter]
 refine hcl.mono ?_
 rintro e w' ⟨x,R',ι',av,hp',rfl,h3,h4,h5,h6,h7⟩
 exact hnext x w' R' ι' av hp' h3 h4 h5 h6 h7
theorem Va:∀{us:List Value} {R:Nat→Prop} {ι:Nat→Option Blk} {w:World} {vs:Array Value},RepA R ι w vs (us.map .v)→∀R₁ ι₁,RepA R₁ ι₁ w vs (us.map .v):=by
 intro us R ι w vs h R₁ ι₁
 refine⟨h.1,fun i hi=>?_⟩
 have h2:=h.2 i hi
 rw[List.getElem_map]at h2 ⊢
 rw[h2.v_inv]
 exact .fr _ _ (.v _)
theorem Jb:∀{us:List Value},AllL (fun _=>False) (us.map AV.v)
 | []=>trivial
 |_::r=>⟨trivial,Jb (us:=r)⟩
theorem AW.regCallV{N:Nat}{Q:Exit→St→Prop}{e:Nat→AV}{h:Nat→Ob}{id:Nat}{l:List Oper}{y:Code}(k:Nat){pre suf:List Oper}{d ty:Nat}{pos:String}{af:Array Edge}{c}{x:Operand}{f:FuncId}
  (hp:l.take k=pre) (hs:l.drop k=⟨some d,.call c,ty,pos,af,none⟩::suf) {E:List (Nat×AV)} {H:List (Nat×Ob)}
  (h1:@Ch P N ⟨l⟩ ⟨pre⟩ ⟨fun σ'=>Le σ' ⟨ofL .un E,ofH H⟩⟩ e h)
  (hd:d<N) (hcal:c.callee=.value x) (hx:evW (ofL .un E) x=.fn f []) (hfn:qD P f) (us:List Value) (haa:evL (ofL .un E) c.args.toList=us.map .v)
  {post:AV→List Ob→List Ob→Prop} (hc:Con P f true (us.map .v) [] post)
  (hk:∀r hs bs',post r hs bs'→(hs.length≤10000000∧qs (ofH H) (20000000+10000000*d) hs)∧
   @Ch P N ⟨l⟩ ⟨suf⟩ ⟨fun σ=>AW P N y Q σ⟩ (upd (ofL .un E) d (r.ren (rho (20000000+10000000*d) []))) (QF (rho (20000000+10000000*d) []) (ofH H) (20000000+10000000*d) hs)):
  AW P N (.seq (.region id ⟨l⟩ false) y) Q ⟨e,h⟩:=by
 refine AW.seq fun L w0 R0 a w hi=>wp_region ?_
 have hl2:l=pre++⟨some d,.call c,ty,pos,af,none⟩::suf:=by rw[←hp,←hs,List.take_append_drop]
 have hr:List.range (⟨l⟩:Array Oper).size=List.range' 0 pre.length++(pre.length::(List.range' (pre.length+1) suf.length++[])):=by
  have hsz:(⟨l⟩:Array Oper).size=pre.length+(suf.length+1):=by show l.length=_;rw[hl2,List.length_append,List.length_cons]
  rw[hsz,List.append_nil,List.range_eq_range',List.range'_append_1.symm,Nat.zero_add,List.range'_succ]
 rw[hr]
 refine q0 (K:=fun σ'=>Le σ' ⟨ofL .un E,ofH H⟩) (fun σ a w hi2 hle=>?_) pre 0 (fun j hj=>?_) hi h1
 ·have hi3:=hle L w0 R0 N a w hi2
  obtain⟨R,ι,hR,hinv⟩:=hi3.inv
  have hget:(⟨l⟩:Array Oper)[pre.length]? =some ⟨some d,.call c,ty,pos,af,none⟩:=by
   rw[List.getElem?_toArray,hl2,List.getElem?_append_right (Nat.le_refl _),Nat.sub_self];rfl
  simp only[wpOps,hget]
  rw[if_pos (by simp[Region.wanted])]
  refine .inl (ahT (c:=c) (x:=x) (f:=f) (σ:=⟨ofL .un E,ofH H⟩) rfl hcal (by rw[qF];exact hx) hfn hinv
   (K:=fun v hp'=>@Ch P N ⟨l⟩ ⟨suf⟩ ⟨fun σ=>AW P N y Q σ⟩ (upd (ofL .un E) d v) hp') ?_ fun x w' R' ι' av hp' hR' hK hx hm hi'=>?_)
  ·have ea:c.args.toList.map (St.ev ⟨ofL .un E,ofH H⟩)=us.map .v:=by
    rw[←haa,zH]
    exact List.map_congr_left fun z _=>qF _ _ _
   rw[ea]
   refine⟨true,[],us.map .v,post,hc,fun h=>Va h,Jb,List.nodup_nil,fun n hn=>(by cases hn),fun r hs bs' hp=>?_⟩
   obtain⟨⟨g1,g2⟩,g4⟩:=hk r hs bs' hp
   exact⟨g1,g2,fun g=>.inl rfl,g4⟩
  ·refine q0 (K:=fun σ=>AW P N y Q σ) (fun σ a w hi4 hq=>?_) suf (pre.length+1) (fun j hj=>?_) (hi3.put (o:=⟨some d,.call c,ty,pos,af,none⟩) hd hR hR' hx hm hi') hK
   ·exact⟨σ,hi4,hq⟩
   rw[List.getElem?_toArray,hl2,List.getElem?_append_right (by omega),show pre.length+1+j-pre.length=j+1 by omega];rfl
 ·rw[List.getElem?_toArray,hl2,Nat.zero_add,List.getElem?_append_left hj]
end
end Go.Ab
namespace Go.Ab
open Go Go.Proofs
/-! ### Room for a text,texts set together-/
theorem QG:∀n,zu n [AV.v (.int .u8 0)]=qa (List.replicate n 0)
 |0=>rfl
 |n+1=>by
  have ih:=QG n
  unfold zu qa at*
  rw[List.replicate_succ,List.replicate_succ,List.flatten_cons,List.map_cons,ih];rfl
set_option maxRecDepth 100000 in
theorem abD(n:Nat)(h0:0<n)(hn:n≤2^39):Con Try.prog 54 true [.v (.slice none 0 0),.v (.int .i64 n)] [] (fun r hs bs=>r=.rf 0 0 0∧hs=[.own 1 (qa (List.replicate n 0))]):=by
 have hd0:decide (((n:Nat):Int)<0)=false:=decide_eq_false (by omega)
 have hd1:decide (((n:Nat):Int)>0)=true:=decide_eq_true (by omega)
 have hd2:decide ((0:Int)<((n:Nat):Int))=true:=decide_eq_true (by omega)
 refine Con.of_aw Try.func54 rfl Try.ntmps54 (by simp) (by simp) (by simp) (AW.front2 ?_)
 show @W Try.prog 27 ⟨_⟩ ⟨fun x σ=>@zr ⟨_⟩ ⟨_⟩ x σ⟩ _ _
 simp(disch:=omega)only[go_sem,hd0]
 refine AW.seq (AW.regVal 2 (.int .i64 0) (by simp only[List.take_succ_cons,List.take_zero];rfl) (by simp only[List.drop_succ_cons,List.drop_zero];rfl)
  (e':=ofL .un [(0,.v (.slice none 0 0)),(1,.v (.int .i64 n)),(8,.v (.int .i64 n)),(9,.v (.slice none 0 0))]) (h':=ofH []) ?_ (by decide) (fun w ev he=>Xf (he _ _ rfl) Try.underlying24) ?_)
 ·simp(disch:=omega)only[go_sem]
  exact Le.lst [] _ _ rfl (by simp(disch:=omega)only[go_sem]) (by simp(disch:=omega)only[go_sem])
 simp(disch:=omega)only[go_sem]
 refine AW.le (Le.lst [] [(0,.v (.slice none 0 0)),(1,.v (.int .i64 n))] [] rfl (by simp(disch:=omega)only[go_sem,Int.sub_zero,Int.sub_self]) (by simp(disch:=omega)only[go_sem])) ?_
 refine AW.front1 ?_
 show @W Try.prog 27 ⟨_⟩ ⟨fun x σ=>@zr ⟨_⟩ ⟨_⟩ x σ⟩ _ _
 simp(disch:=omega)only[go_sem,hd2]
 refine AW.cond (b:=true) rfl (fun _=>?_) (fun h=>by cases h)
 refine AW.regValB 2 (.int .i64 0) (by simp only[List.take_succ_cons,List.take_zero];rfl) (by simp only[List.drop_succ_cons,List.drop_zero];rfl)
  (e':=ofL .un [(0,.v (.slice none 0 0)),(1,.v (.int .i64 n)),(17,.v (.slice none 0 0)),(18,.v (.slice none 0 0))]) (h':=ofH []) ?_ (by decide) (fun w ev he=>Xf (he _ _ rfl) Try.underlying24) ((Le.ghost 17 1 1 (by simp(disch:=omega)only[go_sem]) (by simp(disch:=omega)only[go_sem])).trans (Le.lst [] [(0,.v (.slice none 0 0)),(1,.v (.int .i64 n)),(17,.rf 1 0 0),(19,.v (.int .i64 0))] [(1,.own 1 [])] rfl (by simp(disch:=omega)only[go_sem]) (by simp(disch:=omega)only[go_sem]))) ?_
 ·simp(disch:=omega)only[go_sem]
  exact Le.lst [] _ _ rfl (by simp(disch:=omega)only[go_sem]) (by simp(disch:=omega)only[go_sem])
 simp(disch:=omega)only[go_sem]
 rw[QG,show(0-0:Int).toNat=0 from rfl]
 refine⟨⟨by omega,by omega⟩,of_eq_true yG,⟨by omega,by omega⟩,by omega,W.sound ?_⟩
 show @W Try.prog 27 ⟨_⟩ ⟨fun x σ=>@qO _ _ _ ⟨_⟩ _ ⟨_⟩ x σ⟩ _ _
 simp(disch:=omega)only[go_sem]
 refine qb [(0,240000000)] [.own 1 (qa (List.replicate n 0))] [] [.rf 0 0 0] rfl (by simp(disch:=omega)only[go_sem]) (by simp(disch:=omega)only[go_sem]) (by simp) (by intro _;simp[qN,AV.pu,AV.pu.puL,Ob.pu,qL]) ⟨rfl,rfl⟩
theorem QU:∀l:List (List UInt8),l.flatten.length=qU l
 | []=>rfl
 |t::r=>by rw[List.flatten_cons,List.length_append,QU r];rfl
set_option maxRecDepth 100000 in
theorem VU(ts:List (List UInt8))(hm:ts.length≤100)(hne:∀t∈ts,t.length≤1000000)(h0:0<qU ts):Con Try.prog 38 true [.sl ts.length (qy tcs ts)] [] (fun r hs bs=>∃zs,r=.rf 0 0 ts.flatten.length∧hs=[.own 1 (qa (ts.flatten++zs))]):=by
 obtain⟨m,hmm⟩:∃m,m=ts.length:=⟨_,rfl⟩
 have hlens:∀i,i≤m→qU (ts.take i)≤1000000*i:=fun i=>by
  induction i with
  |zero=>intro _;exact Nat.le_refl _
  |succ i ih=>
   intro hi
   have hi2:i<ts.length:=by omega
   have h1:=hne _ (List.getElem_mem hi2)
   have:=ih (by omega)
   rw[List.take_add_one,List.getElem?_eq_getElem hi2,jg]
   show _+(_+0)≤_
   omega
 have hlt:∀i,i<m→qU (ts.take (i+1))=qU (ts.take i)+(ts.getD i []).length:=fun i hi=>by
  rw[List.take_add_one,List.getElem?_eq_getElem (by omega),jg,List.getD_eq_getElem?_getD,List.getElem?_eq_getElem (by omega)];rfl
 rw[←hmm]
 refine Con.of_aw Try.func38 rfl Try.ntmps38 (by simp) (by simp) (by simp) (AW.front3 ?_)
 show @W Try.prog 36 ⟨_⟩ ⟨fun x σ=>@zr ⟨_⟩ ⟨_⟩ x σ⟩ _ _
 simp(disch:=omega)only[go_sem]
 refine qf (fun i:Nat=>[(0,.sl m (qy tcs ts)),(3,.v (.int .i64 ((qU (ts.take i):Nat):Int))),(9,.sl m (qy tcs ts)),(10,.v (.int .i64 m)),(11,.v (.int .i64 i))]) (fun _=>[]) (fun i=>i≤m) (fun i=>m-i) 0 (by omega)
  (Le.lst [] _ _ rfl (by simp(disch:=omega)only[go_sem,List.take_zero,qU,Int.zero_add,Nat.add_zero]) (by simp(disch:=omega)only[go_sem])) ?_
 intro i hi
 simp(disch:=omega)only[go_sem]
 refine qd (fun c1=>?_) (fun c1=>?_)
 ·have hi2:i<ts.length:=by omega
  have hl1:=fun(h:Nat→Ob) (K:AV→Prop)=>jT (h:=h) (sz:=1) (l:=ts) (i:=i) (K:=K) hi2
  have hn:=hlt i (by omega)
  have hb:=hlens (i+1) (by omega)
  generalize ts.getD i []=u at*
  generalize qU (ts.take i)=Z at*
  have e1:((Z:Nat):Int)+(u.length:Int)=((qU (ts.take (i+1)):Nat):Int):=by rw[hn];omega
  have q:decide (((qU (ts.take (i+1)):Nat):Int)<0)=false:=decide_eq_false (by omega)
  simp(disch:=omega)only[go_sem,c1,hl1,e1,q]
  exact⟨⟨by omega,by omega⟩,qe (i+1) [] (by show i+1≤m;omega) (by show m-(i+1)<m-i;omega) rfl (by simp(disch:=omega)only[go_sem];try omega) (by simp(disch:=omega)only[go_sem])⟩
 ·obtain rfl:i=m:=by omega
  simp(disch:=omega)only[go_sem,c1]
  have htall:ts.take i=ts:=List.take_of_length_le (by omega)
  have hT:=hlens i (by omega)
  rw[htall]at hT ⊢
  refine AW.regCallV 1 (by simp only[List.take_succ_cons,List.take_zero];rfl) (by simp only[List.drop_succ_cons,List.drop_zero];rfl) (E:=[(0,.sl i (qy tcs ts)),(23,.v (.int .i64 (qU ts)))]) (H:=[]) ?_ (by decide) rfl rfl (by simp(disch:=omega)only[go_sem]) [.slice none 0 0,.int .i64 (qU ts)] rfl (abD (qU ts) h0 (by omega)) ?_
  ·simp(disch:=omega)only[go_sem]
   exact Le.lst [] _ _ rfl (by simp(disch:=omega)only[go_sem]) (by simp(disch:=omega)only[go_sem])
  rintro r hs bs ⟨rfl,rfl⟩
  refine⟨by simp[qs];simp(disch:=omega)only[go_sem],?_⟩
  simp(disch:=omega)only[go_sem]
  refine W.sound ?_
  show @W Try.prog 36 ⟨_⟩ ⟨fun x σ=>@qO _ _ _ ⟨_⟩ _ ⟨_⟩ x σ⟩ _ _
  simp(disch:=omega)only[go_sem]
  have hfl:∀k,(ts.take k).flatten.length=qU (ts.take k):=fun k=>QU _
  refine qf (fun x:Nat×List UInt8=>[(0,.sl i (qy tcs ts)),(6,.rf 1 0 (ts.take x.1).flatten.length),(25,.sl i (qy tcs ts)),(26,.v (.int .i64 i)),(27,.v (.int .i64 x.1))]) (fun x=>[(1,.own 1 (qa ((ts.take x.1).flatten++x.2)))]) (fun x=>x.1≤i) (fun x=>i-x.1) (0,List.replicate (qU ts) 0) (by show 0≤i;omega)
   (Le.lst [(1,260000000)] _ _ rfl (by simp(disch:=omega)only[go_sem,List.take_zero,List.flatten_nil,List.length_nil]) (by simp(disch:=omega)only[go_sem,List.take_zero,List.flatten_nil,List.nil_append])) ?_
  rintro⟨j,zs⟩ hj
  dsimp only at hj ⊢
  simp(disch:=omega)only[go_sem]
  refine qd (fun c2=>?_) (fun c2=>?_)
  ·have hi2:j<ts.length:=by omega
   have hl1:=fun(h:Nat→Ob) (K:AV→Prop)=>jT (h:=h) (sz:=1) (l:=ts) (i:=j) (K:=K) hi2
   have hn:=hlt j (by omega)
   have hb:=hlens (j+1) (by omega)
   have hf1:=hfl j
   have hcat:(ts.take j).flatten++ts.getD j []=(ts.take (j+1)).flatten:=by
    rw[List.take_add_one,List.getElem?_eq_getElem hi2,List.flatten_append,List.getD_eq_getElem?_getD,List.getElem?_eq_getElem hi2];simp
   generalize ts.getD j []=u at*
   generalize (ts.take j).flatten=A at*
   have htk:(A++zs).take A.length=A:=List.take_left' rfl
   have hlA:A.length+u.length=(ts.take (j+1)).flatten.length:=by rw[←hcat,List.length_append]
   simp(disch:=omega)only[go_sem,c2,hl1]
   rw[htk,hcat,hlA]
   refine⟨⟨by omega,hi2⟩,⟨by rw[List.length_append];omega,by rw[hfl];omega⟩,qe (j+1,[]) [(1,350000000)] (by show j+1≤i;omega) (by show i-(j+1)<i-j;omega) rfl (by simp(disch:=omega)only[go_sem];try omega) (by simp(disch:=omega)only[go_sem,List.append_nil])⟩
  ·obtain rfl:j=i:=by omega
   simp(disch:=omega)only[go_sem,c2]
   rw[htall]
   refine qb [(0,1)] [.own 1 (qa (ts.flatten++zs))] [] [.rf 0 0 ts.flatten.length] rfl (by simp(disch:=omega)only[go_sem]) (by simp(disch:=omega)only[go_sem]) (by simp) (by intro _;simp[qN,AV.pu,AV.pu.puL,Ob.pu,qL]) ⟨zs,rfl,rfl⟩
end Go.Ab
namespace Go.Ab
open Go Go.Proofs
theorem YP(s1:Bool)(m1:Nat)(e1:Int)(s2:Bool)(m2:Nat)(e2:Int)(h1:bl m1≤4000000)(h2:bl m2≤4000000)(he1: -1000000≤e1∧e1≤1000000)(he2: -1000000≤e2∧e2≤1000000):
  Con Try.prog 74 false [.ag [.v (.bool (s1)),.sl (lim (m1)).length (qc (lim (m1))),.v (.int .i64 (e1))],.ag [.v (.bool (s2)),.sl (lim (m2)).length (qc (lim (m2))),.v (.int .i64 (e2))]] [] (isA (.tu [.sl (lim (alA m1 e1 (alE m1 e1 m2 e2))).length (qc (lim (alA m1 e1 (alE m1 e1 m2 e2)))),.sl (lim (alA m2 e2 (alE m1 e1 m2 e2))).length (qc (lim (alA m2 e2 (alE m1 e1 m2 e2)))),.v (.int .i64 (alE m1 e1 m2 e2))])):=by
 refine Con.frzA ?_
 have l1:=qI h1
 have l2:=qI h2
 have hE:=XF (m1:=m1) (m2:=m2) he1.1 he2.1
 have hE2:=anV (m1:=m1) (m2:=m2) he1.2 he2.2
 have x1:∀d:Int,(if 0>d then 0 else d)=((d.toNat:Nat):Int):=fun d=>by split<;>omega
 refine Con.of_aw Try.func74 rfl Try.ntmps74 (by simp) (by simp) (by simp) (W.sound ?_)
 show @W Try.prog 42 ⟨_⟩ ⟨fun x σ=>@qO _ _ _ ⟨_⟩ _ ⟨_⟩ x σ⟩ _ _
 simp(disch:=omega)only[go_sem]
 refine qd (fun c1=>?_) (fun c1=>?_)
 ·have z1:m1=0:=qJ.1 (List.length_eq_zero_iff.1 (by omega))
  simp(disch:=omega)only[go_sem,c1]
  refine qd (fun c2=>?_) (fun c2=>?_)
  ·have z2:m2=0:=qJ.1 (List.length_eq_zero_iff.1 (by omega))
   have eE:alE m1 e1 m2 e2=e1:=by unfold alE;rw[if_pos z2]
   simp(disch:=omega)only[go_sem,c2]
   refine qu rfl [⟨0,[],[]⟩,⟨1,[],[]⟩,⟨2,[1],[]⟩,⟨3,[1],[]⟩,⟨4,[1,3],[]⟩,⟨5,[1],[]⟩,⟨6,[1],[]⟩,⟨8,[1,3],[]⟩,⟨9,[1,3],[]⟩,⟨10,[1,3,9],[]⟩,⟨11,[1,3,9],[]⟩,⟨12,[1,3,9,11],[]⟩,⟨13,[1,3,9],[]⟩,⟨14,[1,3,9],[]⟩,⟨16,[1,3,9,11],[]⟩,⟨7,[9,11],[]⟩,⟨15,[],[]⟩,⟨17,[],[]⟩,⟨18,[],[]⟩,⟨19,[],[]⟩] (by kernel_rfl) ?_
   simp(disch:=omega)only[go_sem,x1]
   refine qi (zt m1 (e1-e1).toNat (by omega) (by omega)) ?_ (by simp(disch:=omega)only[go_sem,x1])
   simp(disch:=omega)only[go_sem]
   refine qi (zt m2 (e2-e1).toNat (by omega) (by omega)) ?_ (by simp(disch:=omega)only[go_sem,x1])
   simp(disch:=omega)only[go_sem]
   refine q5 (by simp(disch:=omega)only[go_sem]) ?_
   show qx _ 6 _=_
   rw[eE];unfold alA
   simp(disch:=omega)only[go_sem]
  ·have z2:m2≠0:=fun e=>c2 (by rw[e,qw];rfl)
   have eE:alE m1 e1 m2 e2=e2:=by unfold alE;rw[if_neg z2,if_pos z1]
   simp(disch:=omega)only[go_sem,c2]
   refine qu rfl [⟨0,[],[]⟩,⟨1,[],[]⟩,⟨2,[1],[]⟩,⟨3,[1],[]⟩,⟨4,[1,3],[]⟩,⟨5,[1],[]⟩,⟨6,[1],[]⟩,⟨8,[1,3],[]⟩,⟨9,[1,3],[]⟩,⟨10,[1,3,9],[]⟩,⟨11,[1,3,9],[]⟩,⟨12,[1,3,9,11],[]⟩,⟨13,[1,3,9],[]⟩,⟨14,[1,3,9],[]⟩,⟨16,[1,3,9,11],[]⟩,⟨7,[9,11],[]⟩,⟨15,[],[]⟩,⟨17,[],[]⟩,⟨18,[],[]⟩,⟨19,[],[]⟩] (by kernel_rfl) ?_
   simp(disch:=omega)only[go_sem,x1]
   refine qi (zt m1 (e1-e2).toNat (by omega) (by omega)) ?_ (by simp(disch:=omega)only[go_sem,x1])
   simp(disch:=omega)only[go_sem]
   refine qi (zt m2 (e2-e2).toNat (by omega) (by omega)) ?_ (by simp(disch:=omega)only[go_sem,x1])
   simp(disch:=omega)only[go_sem]
   refine q5 (by simp(disch:=omega)only[go_sem]) ?_
   show qx _ 6 _=_
   rw[eE];unfold alA
   simp(disch:=omega)only[go_sem]
 ·have z1:m1≠0:=fun e=>c1 (by rw[e,qw];rfl)
  simp(disch:=omega)only[go_sem,c1]
  refine qd (fun c2=>?_) (fun c2=>?_)
  ·have z2:m2=0:=qJ.1 (List.length_eq_zero_iff.1 (by omega))
   have eE:alE m1 e1 m2 e2=e1:=by unfold alE;rw[if_pos z2]
   simp(disch:=omega)only[go_sem,c2]
   refine qu rfl [⟨0,[],[]⟩,⟨1,[],[]⟩,⟨2,[1],[]⟩,⟨3,[1],[]⟩,⟨4,[1,3],[]⟩,⟨5,[1],[]⟩,⟨6,[1],[]⟩,⟨8,[1,3],[]⟩,⟨9,[1,3],[]⟩,⟨10,[1,3,9],[]⟩,⟨11,[1,3,9],[]⟩,⟨12,[1,3,9,11],[]⟩,⟨13,[1,3,9],[]⟩,⟨14,[1,3,9],[]⟩,⟨16,[1,3,9,11],[]⟩,⟨7,[9,11],[]⟩,⟨15,[],[]⟩,⟨17,[],[]⟩,⟨18,[],[]⟩,⟨19,[],[]⟩] (by kernel_rfl) ?_
   simp(disch:=omega)only[go_sem,x1]
   refine qi (zt m1 (e1-e1).toNat (by omega) (by omega)) ?_ (by simp(disch:=omega)only[go_sem,x1])
   simp(disch:=omega)only[go_sem]
   refine qi (zt m2 (e2-e1).toNat (by omega) (by omega)) ?_ (by simp(disch:=omega)only[go_sem,x1])
   simp(disch:=omega)only[go_sem]
   refine q5 (by simp(disch:=omega)only[go_sem]) ?_
   show qx _ 6 _=_
   rw[eE];unfold alA
   simp(disch:=omega)only[go_sem]
  ·have z2:m2≠0:=fun e=>c2 (by rw[e,qw];rfl)
   have eE:(if e2<e1 then e2 else e1)=alE m1 e1 m2 e2:=by unfold alE;rw[if_neg z2,if_neg z1]
   simp(disch:=omega)only[go_sem,c2,eE]
   refine qu rfl [⟨0,[],[]⟩,⟨1,[],[]⟩,⟨2,[1],[]⟩,⟨3,[1],[]⟩,⟨4,[1,3],[]⟩,⟨5,[1],[]⟩,⟨6,[1],[]⟩,⟨8,[1,3],[]⟩,⟨9,[1,3],[]⟩,⟨10,[1,3,9],[]⟩,⟨11,[1,3,9],[]⟩,⟨12,[1,3,9,11],[]⟩,⟨13,[1,3,9],[]⟩,⟨14,[1,3,9],[]⟩,⟨16,[1,3,9,11],[]⟩,⟨7,[9,11],[]⟩,⟨15,[],[]⟩,⟨17,[],[]⟩,⟨18,[],[]⟩,⟨19,[],[]⟩] (by kernel_rfl) ?_
   simp(disch:=omega)only[go_sem,x1,eE]
   refine qi (zt m1 (e1-alE m1 e1 m2 e2).toNat (by omega) (by omega)) ?_ (by simp(disch:=omega)only[go_sem,x1,eE])
   simp(disch:=omega)only[go_sem]
   refine qi (zt m2 (e2-alE m1 e1 m2 e2).toNat (by omega) (by omega)) ?_ (by simp(disch:=omega)only[go_sem,x1,eE])
   simp(disch:=omega)only[go_sem]
   refine q5 (by simp(disch:=omega)only[go_sem]) ?_
   show qx _ 6 _=_
   unfold alA
   simp(disch:=omega)only[go_sem]
end Go.Ab
namespace Go.Ab
open Go Go.Proofs
end Go.Ab
namespace Go.Ab
open Go Go.Proofs
def muS(k1:Int)(s1:Bool)(m1:Int)(k2:Int)(s2:Bool)(m2:Int):Bool:=((s1&&decide (k1=1)) != (s2&&decide (k2=1)))&&decide (m1.toNat*m2.toNat≠0)
def asF(k1:Int)(s1:Bool)(m1 e1 k2:Int)(s2:Bool)(m2 e2 mode:Int):FlV:=
 if(decide (k1=3)||decide (k2=3))=true then⟨3,false,0,0⟩
 else if(decide (k1=2)||decide (k2=2))=true then(if(decide (k1=0)||decide (k2=0))=true then⟨3,false,0,0⟩else⟨2,s1 != s2,0,0⟩)
 else flV (muS k1 s1 m1 k2 s2 m2) (m1.toNat*m2.toNat) (e1+e2) mode (s1 != s2)
def asG(k1:Int)(s1:Bool)(m1 e1 k2:Int)(s2:Bool)(m2 e2 mode:Int):Int:=
 if(decide (k1=3)||decide (k2=3))=true then 0
 else if(decide (k1=2)||decide (k2=2))=true then(if(decide (k1=0)||decide (k2=0))=true then 16 else 0)
 else flG (muS k1 s1 m1 k2 s2 m2) (m1.toNat*m2.toNat) (e1+e2) mode
end Go.Ab
namespace Go.Ab
open Go Go.Proofs
section
variable {k1:Int}{s1:Bool}{m1 e1 k2:Int}{s2:Bool}{m2 e2 mode:Int}
end
end Go.Ab
namespace Go.Ab
open Go Go.Proofs
def amq(m:Nat):Bool:=decide ((lim m).length≤100)
def aql(m:Nat)(e:Int):Bool:=amq (oM m)&&(decide (-3000≤oE m e)&&decide (oE m e≤3000))
end Go.Ab
namespace Go.Ab
/-! ### Sums of floats-/
def ngS(k:Int)(s:Bool):Bool:=if k=3 then s else !s
def xS(k:Int)(s:Bool):Bool:=s&&decide (k=1)
def adZ(k1:Int)(s1:Bool)(k2:Int)(s2:Bool)(mode:Int):Bool:=if k1=0∧k2=0∧s1=s2 then s1 else decide (mode=3)
def aso(k1:Int)(s1:Bool)(m1 e1 k2:Int)(s2:Bool)(m2 e2 mode:Int):FlV:=
 if k1=3∨k2=3 then⟨3,false,0,0⟩
 else if k1=2∧k2=2∧s1≠s2 then⟨3,false,0,0⟩
 else if k1=2 then⟨k1,s1,m1,e1⟩
 else if k2=2 then⟨k2,s2,m2,e2⟩
 else flV (adS (xS k1 s1) m1.toNat e1 (xS k2 s2) m2.toNat e2) (adM (xS k1 s1) m1.toNat e1 (xS k2 s2) m2.toNat e2) (alE m1.toNat e1 m2.toNat e2) mode (adZ k1 s1 k2 s2 mode)
def asp(k1:Int)(s1:Bool)(m1 e1 k2:Int)(s2:Bool)(m2 e2 mode:Int):Int:=
 if k1=3∨k2=3 then 0
 else if k1=2∧k2=2∧s1≠s2 then 16
 else if k1=2 then 0
 else if k2=2 then 0
 else flG (adS (xS k1 s1) m1.toNat e1 (xS k2 s2) m2.toNat e2) (adM (xS k1 s1) m1.toNat e1 (xS k2 s2) m2.toNat e2) (alE m1.toNat e1 m2.toNat e2) mode
section
variable {k1:Int}{s1:Bool}{m1 e1 k2:Int}{s2:Bool}{m2 e2 mode:Int}
end
/-! ### A product and a sum-/
def fmZ(k1:Int)(s1:Bool)(k2:Int)(s2:Bool)(k3:Int)(s3:Bool)(mode:Int):Bool:=if(k1=0∨k2=0)∧k3=0∧s3=(s1 != s2)then s3 else decide (mode=3)
def asV(k1:Int)(s1:Bool)(m1 e1 k2:Int)(s2:Bool)(m2 e2 k3:Int)(s3:Bool)(m3 e3 mode:Int):FlV:=
 if k1=3∨k2=3 then⟨3,false,0,0⟩
 else if k1=2∨k2=2 then(if k1=0∨k2=0 then⟨3,false,0,0⟩else aso 2 (s1 != s2) 0 0 k3 s3 m3 e3 mode)
 else if k3=2∨k3=3 then⟨k3,s3,m3,e3⟩
 else flV (adS (muS k1 s1 m1 k2 s2 m2) (m1.toNat*m2.toNat) (e1+e2) (xS k3 s3) m3.toNat e3) (adM (muS k1 s1 m1 k2 s2 m2) (m1.toNat*m2.toNat) (e1+e2) (xS k3 s3) m3.toNat e3) (alE (m1.toNat*m2.toNat) (e1+e2) m3.toNat e3) mode (fmZ k1 s1 k2 s2 k3 s3 mode)
def asW(k1:Int)(s1:Bool)(m1 e1 k2:Int)(s2:Bool)(m2 e2 k3:Int)(s3:Bool)(m3 e3 mode:Int):Int:=
 if k1=3∨k2=3 then 0
 else if k1=2∨k2=2 then(if k1=0∨k2=0 then 16 else asp 2 (s1 != s2) 0 0 k3 s3 m3 e3 mode)
 else if k3=2∨k3=3 then 0
 else flG (adS (muS k1 s1 m1 k2 s2 m2) (m1.toNat*m2.toNat) (e1+e2) (xS k3 s3) m3.toNat e3) (adM (muS k1 s1 m1 k2 s2 m2) (m1.toNat*m2.toNat) (e1+e2) (xS k3 s3) m3.toNat e3) (alE (m1.toNat*m2.toNat) (e1+e2) m3.toNat e3) mode
section
variable {k1:Int}{s1:Bool}{m1 e1 k2:Int}{s2:Bool}{m2 e2 k3:Int}{s3:Bool}{m3 e3 mode:Int}
end
end Go.Ab
namespace Go.Ab
theorem ae5(x y p:Int)(hp:0<p):zq (x*p) (y*p)=zq x y:=by
 unfold zq
 have h1:x*p<y*p↔x<y:=⟨fun h=>Int.lt_of_mul_lt_mul_right h (Int.le_of_lt hp),fun h=>Int.mul_lt_mul_of_pos_right h hp⟩
 have h2:y*p<x*p↔y<x:=⟨fun h=>Int.lt_of_mul_lt_mul_right h (Int.le_of_lt hp),fun h=>Int.mul_lt_mul_of_pos_right h hp⟩
 simp only[h1,h2]
theorem yH{m:Nat}{e E:Int}:alA m e E=0↔m=0:=by
 unfold alA
 have:0<2^(e-E).toNat:=Nat.pow_pos (by omega)
 constructor
 ·intro h
  rcases Nat.mul_eq_zero.1 h with h|h
  ·exact h
  ·omega
 ·intro h;rw[h,Nat.zero_mul]
theorem XB{K:Nat}{s1:Bool}{m1:Nat}{e1:Int}{s2:Bool}{m2:Nat}{e2:Int}(h1: -(K:Int)≤e1)(h2: -(K:Int)≤e2):
  zq (sv s1 (alA m1 e1 (alE m1 e1 m2 e2))) (sv s2 (alA m2 e2 (alE m1 e1 m2 e2)))=zq (dv K s1 m1 e1) (dv K s2 m2 e2):=by
 have hE: -(K:Int)≤alE m1 e1 m2 e2:=XF h1 h2
 have g1:m1≠0→alE m1 e1 m2 e2≤e1:=fun h=>by
  unfold alE
  repeat' split
  all_goals omega
 have g2:m2≠0→alE m1 e1 m2 e2≤e2:=fun h=>by
  unfold alE
  repeat' split
  all_goals omega
 rw[←af7 hE g1,←af7 hE g2,ae5 _ _ _ (Int.pow_pos (by omega))]
theorem JU{s1:Bool}{m1:Nat}{s2:Bool}{m2:Nat}(z1:m1=0→s1=false)(z2:m2=0→s2=false):
  zq (sv s1 m1) (sv s2 m2)=if s1=true then(if s2=true then zq (m2:Int) (m1:Int)else-1)else(if s2=true then 1 else zq (m1:Int) (m2:Int)):=by
 cases s1<;>cases s2<;>simp only[sv,if_true,Bool.false_eq_true,if_false]
 ·have:m2≠0:=fun h=>by have:=z2 h;cases this
  unfold zq;rw[if_neg (by omega),if_pos (by omega)]
 ·have:m1≠0:=fun h=>by have:=z1 h;cases this
  unfold zq;rw[if_pos (by omega)]
 ·unfold zq
  rcases Int.lt_trichotomy (m1:Int) m2 with h|h|h
  ·rw[if_neg (by omega),if_pos (by omega),if_neg (by omega),if_pos (by omega)]
  ·rw[if_neg (by omega),if_neg (by omega),if_neg (by omega),if_neg (by omega)]
  ·rw[if_pos (by omega),if_pos (by omega)]
theorem abE(x y:Int):(zq x y≤0↔x≤y)∧(zq x y<0↔x<y)∧(zq x y=0↔x=y):=by
 unfold zq
 split
 ·omega
 ·split<;>omega
end Go.Ab
namespace Go.Ab
open Go Go.Proofs
theorem yi(s1:Bool)(m1:Nat)(s2:Bool)(m2:Nat)(l1:(lim m1).length≤2^40)(l2:(lim m2).length≤2^40)(z1:m1=0→s1=false)(z2:m2=0→s2=false):
  Con Try.prog 75 true [.v (.bool s1),.sl (lim (m1)).length (qc (lim (m1))),.v (.bool s2),.sl (lim (m2)).length (qc (lim (m2)))] [] (isA (.v (.int .i64 (zq (sv s1 m1) (sv s2 m2))))):=by
 rw[JU z1 z2]
 cases s1<;>cases s2
 ·refine Con.of_w (rs:=[.tmp 8]) Try.func75 rfl Try.ntmps75 rfl ?_
  simp(disch:=omega)only[go_sem]
  refine qg (Qn m1 m2 l1 l2) ?_
  simp(disch:=omega)only[go_sem]
  exact ql
 ·refine Con.of_w (rs:=[.tmp 8]) Try.func75 rfl Try.ntmps75 rfl ?_
  simp(disch:=omega)only[go_sem]
  exact ql
 ·refine Con.of_w (rs:=[.tmp 8]) Try.func75 rfl Try.ntmps75 rfl ?_
  simp(disch:=omega)only[go_sem]
  exact ql
 ·refine Con.of_w (rs:=[.tmp 8]) Try.func75 rfl Try.ntmps75 rfl ?_
  simp(disch:=omega)only[go_sem]
  refine qg (Qn m2 m1 l2 l1) ?_
  simp(disch:=omega)only[go_sem]
  exact ql
theorem JR(K:Nat)(s1:Bool)(m1:Nat)(e1:Int)(s2:Bool)(m2:Nat)(e2:Int)(h1:bl m1≤4000000)(h2:bl m2≤4000000)(he1: -1000000≤e1∧e1≤1000000)(he2: -1000000≤e2∧e2≤1000000)(k1: -(K:Int)≤e1)(k2: -(K:Int)≤e2)(z1:m1=0→s1=false)(z2:m2=0→s2=false):
  Con Try.prog 58 true [.ag [.v (.bool (s1)),.sl (lim (m1)).length (qc (lim (m1))),.v (.int .i64 (e1))],.ag [.v (.bool (s2)),.sl (lim (m2)).length (qc (lim (m2))),.v (.int .i64 (e2))]] [] (isA (.v (.int .i64 (zq (dv K s1 m1 e1) (dv K s2 m2 e2))))):=by
 have hE:=XF (m1:=m1) (m2:=m2) he1.1 he2.1
 have b1:=qI (XE (e:=e1) (E:=alE m1 e1 m2 e2) (C:=2000000) h1 (by omega))
 have b2:=qI (XE (e:=e2) (E:=alE m1 e1 m2 e2) (C:=2000000) h2 (by omega))
 rw[←XB k1 k2]
 have y1:alA m1 e1 (alE m1 e1 m2 e2)=0→s1=false:=fun h=>z1 (yH.1 h)
 have y2:alA m2 e2 (alE m1 e1 m2 e2)=0→s2=false:=fun h=>z2 (yH.1 h)
 refine Con.of_w (rs:=[.tmp 4]) Try.func58 rfl Try.ntmps58 rfl ?_
 simp(disch:=omega)only[go_sem]
 refine qi (YP s1 m1 e1 s2 m2 e2 h1 h2 he1 he2) ?_
 simp(disch:=omega)only[go_sem]
 refine qg (yi s1 (alA m1 e1 (alE m1 e1 m2 e2)) s2 (alA m2 e2 (alE m1 e1 m2 e2)) (by omega) (by omega) y1 y2) ?_
 simp(disch:=omega)only[go_sem]
 exact ql
def rkF(k:Int)(s:Bool):Int:=if k=2 then(if s=true then-1 else 1)else 0
def as2(k1:Int)(s1:Bool)(m1 e1 k2:Int)(s2:Bool)(m2 e2:Int):Int:=
 if rkF k1 s1≠rkF k2 s2∨rkF k1 s1≠0 then zq (rkF k1 s1) (rkF k2 s2)else zq (dv 3000 (xS k1 s1) m1.toNat e1) (dv 3000 (xS k2 s2) m2.toNat e2)
end Go.Ab
namespace Go.Ab
open Go Go.Proofs
def ExV.plus(x y:ExV):ExV:=⟨adS x.s x.m x.e y.s y.m y.e,adM x.s x.m x.e y.s y.m y.e,alE x.m x.e y.m y.e⟩
def ExV.neg(x:ExV):ExV:=⟨!x.s&&decide (x.m≠0),x.m,x.e⟩
def ExV.times(x y:ExV):ExV:=⟨(x.s != y.s)&&decide (x.m*y.m≠0),x.m*y.m,x.e+y.e⟩
def ExV.abs(x:ExV):ExV:=⟨false,x.m,x.e⟩
def ExV.shift(x:ExV)(k:Int):ExV:=⟨x.s,x.m,x.e+k⟩
def ExV.over(x y:ExV)(low mode:Int):ExV:=⟨(x.s != y.s)&&decide (ovQ (x.s != y.s) x.m x.e y.m y.e low mode≠0),ovQ (x.s != y.s) x.m x.e y.m y.e low mode,low⟩
def ExV.rnd(x:ExV)(low mode:Int):ExV:=⟨roS x.s x.m x.e low mode,roM x.s x.m x.e low mode,roE x.m x.e low⟩
def ExV.cmp(x y:ExV):Int:=zq (sv x.s (alA x.m x.e (alE x.m x.e y.m y.e))) (sv y.s (alA y.m y.e (alE x.m x.e y.m y.e)))
def ExV.top(x:ExV):Int:=if x.m=0 then 0 else(bl x.m:Int)+x.e
def ExV.bd(lo hi:Int)(x:ExV):Prop:=(x.m=0→x.s=false)∧lo≤x.e∧(bl x.m:Int)+x.e≤hi
theorem ExV.bd.mono{lo hi lo' hi':Int}{x:ExV}(h:x.bd lo hi)(h1:lo'≤lo)(h2:hi≤hi'):x.bd lo' hi':=by
 obtain⟨a,b,c⟩:=h;exact⟨a,by omega,by omega⟩
theorem ae4(x y:ExV)(hx:x.bd (-400000) 400000)(hy:y.bd (-400000) 400000):Con Try.prog 58 true [.ag [.v (.bool (x.s)),.sl (lim (x.m)).length (qc (lim (x.m))),.v (.int .i64 (x.e))],.ag [.v (.bool (y.s)),.sl (lim (y.m)).length (qc (lim (y.m))),.v (.int .i64 (y.e))]] [] (isA (.v (.int .i64 (x.cmp y)))):=by
 obtain⟨a1,a2,a3⟩:=hx
 obtain⟨b1,b2,b3⟩:=hy
 unfold ExV.cmp
 rw[XB (K:=400000) (by omega) (by omega)]
 exact JR 400000 x.s x.m x.e y.s y.m y.e (by omega) (by omega) (by omega) (by omega) (by omega) (by omega) a1 b1
end Go.Ab
namespace Go.Ab
open Go Go.Proofs
def gl(n:Nat)(g:Nat→Nat→ExV)(k:Nat):List ExV:=(List.range k).map fun t=>g (t/n) (t % n)
end Go.Ab
namespace Go.Ab
open Go Go.Proofs
def amu(m x:ExV):ExV:=if 0<x.cmp m then x else m
def amC(m x:ExV):ExV:=if x.cmp m<0 then x else m
def Yn(l:List ExV):ExV:=(l.drop 1).foldl amu (l.getD 0 ex0)
def Jo(l:List ExV):ExV:=(l.drop 1).foldl amC (l.getD 0 ex0)
def gbd(lo hi:Int)(l:List ExV):Prop:=∀x∈l,x.bd lo hi
end Go.Ab
namespace Go.Ab
open Go Go.Proofs
def SpV.plus(s t:SpV):SpV:=⟨s.lo.plus t.lo,s.hi.plus t.hi⟩
def VB(F:ExV→ExV→ExV)(s t:SpV):List ExV:=[F s.lo t.lo,F s.lo t.hi,F s.hi t.lo,F s.hi t.hi]
def SpV.times(s t:SpV):SpV:=⟨Jo (VB ExV.times s t),Yn (VB ExV.times s t)⟩
def SpV.over(s t:SpV)(low:Int):SpV:=⟨Jo (VB (fun x y=>x.over y low 3) s t),Yn (VB (fun x y=>x.over y low 2) s t)⟩
def SpV.out(s:SpV)(low:Int):SpV:=⟨s.lo.rnd low 3,s.hi.rnd low 2⟩
def SpV.fat(s:SpV)(by':ExV):SpV:=⟨s.lo.plus by'.neg,s.hi.plus by'⟩
def SpV.bd(lo hi:Int)(s:SpV):Prop:=s.lo.bd lo hi∧s.hi.bd lo hi
end Go.Ab
namespace Go.Ab
open Go Go.Proofs
def aoT(n:Nat)(l l':List ExV):List ExV:=gl n (fun i j=>(l.getD (i*n+j) ex0).plus (l'.getD (i*n+j) ex0)) (n*n)
def aq1(n:Nat)(l l':List ExV):List ExV:=gl n (fun i j=>(l.getD (i*n+j) ex0).plus (l'.getD (i*n+j) ex0).neg) (n*n)
def y6(n:Nat)(l:List ExV)(y:ExV):List ExV:=gl n (fun i j=>(l.getD (i*n+j) ex0).times y) (n*n)
def asa(n:Nat)(l:List ExV)(low mode:Int):List ExV:=gl n (fun i j=>(l.getD (i*n+j) ex0).rnd low mode) (n*n)
def ex1:ExV:=⟨false,1,0⟩
def idF(i j:Nat):ExV:=if i=j then ex1 else ex0
def gId(n:Nat):List ExV:=gl n idF (n*n)
def aqm(n:Nat)(l l':List ExV)(i j k:Nat):ExV:=(List.range k).foldl (fun s t=>s.plus ((l.getD (i*n+t) ex0).times (l'.getD (t*n+j) ex0))) ex0
def amH(n:Nat)(l l':List ExV):List ExV:=gl n (fun i j=>aqm n l l' i j n) (n*n)
theorem anq(n:Nat)(l l':List ExV)(i j:Nat):aqm n l l' i j 0=ex0:=rfl
end Go.Ab
namespace Go.Ab
open Go Go.Proofs
def mpT{X Y:Type}(l:List X)(F:X→Y)(i:Nat):List Y:=(l.take i).map F
theorem aoi{X Y:Type}{l:List X}{F:X→Y}:mpT l F 0=[]:=rfl
def sbd(lo hi:Int)(l:List SpV):Prop:=∀x∈l,x.bd lo hi
def ptS(x:ExV):SpV:=⟨x,x⟩
def arW(s:SpV):ExV:=(s.lo.plus s.hi).shift (-1)
end Go.Ab
namespace Go.Ab
open Go Go.Proofs
def gly{Y:Type}(n:Nat)(g:Nat→Nat→Y)(k:Nat):List Y:=(List.range k).map fun t=>g (t/n) (t % n)
theorem aoS{Y:Type}{n:Nat}{g:Nat→Nat→Y}:gly n g 0=[]:=rfl
def alw(n:Nat)(l l':List SpV)(i j k:Nat):SpV:=(List.range k).foldl (fun s t=>s.plus ((l.getD (i*n+t) sp0).times (l'.getD (t*n+j) sp0))) sp0
theorem akD(n:Nat)(l l':List SpV)(i j:Nat):alw n l l' i j 0=sp0:=rfl
def Jy(n:Nat)(l l':List SpV):List SpV:=gly n (fun i j=>alw n l l' i j n) (n*n)
theorem SpV.bd.mono{lo hi lo' hi':Int}{x:SpV}(h:x.bd lo hi)(h1:lo'≤lo)(h2:hi≤hi'):x.bd lo' hi':=⟨ExV.bd.mono h.1 h1 h2,ExV.bd.mono h.2 h1 h2⟩
end Go.Ab
namespace Go.Ab
open Go Go.Proofs
def exN(k:Nat):ExV:=⟨false,k,0⟩
def SpV.divd(s:SpV)(k:Nat)(low:Int):SpV:=s.over ⟨exN k,exN k⟩ low
def ang(l l':List SpV):List SpV:=(List.range l.length).map fun i=>(l.getD i sp0).plus (l'.getD i sp0)
def fpT(l l':List SpV)(i:Nat):List SpV:=(List.range i).map fun i=>(l.getD i sp0).plus (l'.getD i sp0)
end Go.Ab
namespace Go.Ab
open Go Go.Proofs
def asg(n:Nat)(l:List ExV)(j k:Nat):ExV:=(List.range k).foldl (fun s i=>s.plus (l.getD (i*n+j) ex0).abs) ex0
def ah4(n:Nat)(l:List ExV)(k:Nat):ExV:=(List.range k).foldl (fun s j=>Yn [s,asg n l j n]) ex0
end Go.Ab
namespace Go.Ab
open Go Go.Proofs
def ExV.can(x:ExV):ExV:=⟨oS x.s x.m,oM x.m,oE x.m x.e⟩
def ExV.fit(x:ExV):Bool:=aql x.m x.e
def SpV.can(s:SpV):SpV:=⟨s.lo.can,s.hi.can⟩
def SpV.fit(s:SpV):Bool:=s.lo.fit&&s.hi.fit
end Go.Ab
namespace Go.Ab
open Go Go.Proofs
def fct:Nat→Nat
 |0=>1
 |n+1=>(n+1)*fct n
def tmS(W:Nat):Nat→Nat→Nat
 |_,0=>0
 |k,f+1=>if fct (k+1)*2^k<2^W then tmS W (k+1) f else k
def tmF(W:Nat):Nat:=tmS W 1 402
end Go.Ab
namespace Go.Ab
open Go Go.Proofs
instance (lo hi:Int)(x:ExV):Decidable (x.bd lo hi):=inferInstanceAs (Decidable ((x.m=0→x.s=false)∧lo≤x.e∧(bl x.m:Int)+x.e≤hi))
instance (lo hi:Int)(x:SpV):Decidable (x.bd lo hi):=inferInstanceAs (Decidable (x.lo.bd lo hi∧x.hi.bd lo hi))
instance (lo hi:Int)(l:List ExV):Decidable (gbd lo hi l):=inferInstanceAs (Decidable (∀x∈l,x.bd lo hi))
instance (lo hi:Int)(l:List SpV):Decidable (sbd lo hi l):=inferInstanceAs (Decidable (∀x∈l,x.bd lo hi))
def hB:List SpV:=(y6 1 [ex0] (ex1.shift 0)).map ptS
def hSt:Nat→List SpV×List SpV
 |0=>((gId 1).map ptS,(gId 1).map ptS)
 |i+1=>(ang (hSt i).1 ((Jy 1 (hSt i).2 hB).map fun s=>s.divd (i+1) (-22)),(Jy 1 (hSt i).2 hB).map fun s=>s.divd (i+1) (-22))
def ar7:List SpV:=(hSt 7).1.map fun s=>s.fat (ex1.shift (-22))
def asT:List SpV:=ar7.map fun s=>s.out (-14)
end Go.Ab
namespace Go.Ab
open Go Go.Proofs
section
variable (g:Nat)(p:DyV→Bool)
theorem VS(x:DyV)(hf:Con Try.prog g true [.ag x.cs] [] (isA (.v (.bool (p x)))))(hg:qD Try.prog g=True):
  Con Try.prog 95 true [.ag x.cs,.fp [.fn g []] 0] [] (isA (.v (.bool (!p x)))):=by
 unfold DyV.cs at hf ⊢
 refine Con.of_w (rs:=[.tmp 3]) Try.func95 rfl Try.ntmps95 rfl ?_
 simp(disch:=omega)only[go_sem,hg]
 refine qh hf (by simp(disch:=omega)only[go_sem]) ?_
 rintro r hs ⟨rfl,rfl,_⟩
 refine⟨by simp[qs],?_⟩
 simp(disch:=omega)only[go_sem]
 exact ql
theorem YK(f:Nat)(caps:List AV)(xs:List DyV)(hl:xs.length≤2^40)(hf:∀x∈xs,Con Try.prog f true (.ag x.cs::caps) [] (isA (.v (.bool (p x)))))(hg:qD Try.prog f=True)
  (hc:∀h:Nat→Ob,caps.map (qx h 6)=caps) (hc5:∀h:Nat→Ob,caps.map (qx h 5)=caps) (hn:∀ks,AllL (jJ ks) caps) (hr:∀ρ,zb ρ caps=caps):
  Con Try.prog 104 true [.sl xs.length (qy DyV.cs xs),.fn f caps] [] (fun r hs bs=>∃i:Int,r=.v (.int .i64 i)∧hs=[]∧(0≤i↔∃x∈xs,p x=true)):=by
 refine Con.of_aw Try.func104 rfl Try.ntmps104 (by simp) (by simp) (by simp) (W.sound ?_)
 show @W Try.prog 19 ⟨_⟩ ⟨fun x σ=>@qO _ _ _ ⟨_⟩ _ ⟨_⟩ x σ⟩ _ _
 simp(disch:=omega)only[go_sem]
 refine qf (fun i:Nat=>[(0,.sl xs.length (qy DyV.cs xs)),(1,.fn f caps),(6,.sl xs.length (qy DyV.cs xs)),(7,.v (.int .i64 xs.length)),(8,.v (.int .i64 i))])
  (fun _=>[]) (fun i=>i≤xs.length∧∀j,j<i→p (xs.getD j ⟨false,[],0⟩)=false) (fun i=>xs.length-i) 0 ⟨by omega,fun j hj=>by omega⟩ (Le.lst [] _ _ rfl (by simp(disch:=omega)only[go_sem,hr,hn]) (by simp(disch:=omega)only[go_sem])) ?_
 rintro i ⟨hi,hp⟩
 simp(disch:=omega)only[go_sem]
 refine qd (fun h1=>?_) (fun h1=>?_)
 ·have hcut:=Yg (l:=xs) abg (i:=i) (by omega) ⟨false,[],0⟩
  simp(disch:=omega)only[go_sem,h1,hcut,hg]
  refine⟨by omega,by omega,qh (hf (xs.getD i ⟨false,[],0⟩) (by rw[List.getD_eq_getElem?_getD,List.getElem?_eq_getElem (by omega)];exact List.getElem_mem _)) (by simp(disch:=omega)only[go_sem,hc,hc5]) ?_⟩
  rintro r hs ⟨rfl,rfl,_⟩
  refine⟨by simp[qs],?_⟩
  simp(disch:=omega)only[go_sem]
  refine y4 (fun h2=>?_) (fun h2=>?_)
  ·simp(disch:=omega)only[go_sem,h2]
   refine qk (by simp(disch:=omega)only[go_sem]) (by simp(disch:=omega)only[go_sem]) ⟨i,rfl,rfl,?_⟩
   refine⟨fun _=>⟨_,?_,h2⟩,fun _=>by omega⟩
   rw[List.getD_eq_getElem?_getD,List.getElem?_eq_getElem (by omega)];exact List.getElem_mem _
  ·simp(disch:=omega)only[go_sem,h2]
   refine qe (i+1) [] ⟨by omega,fun j hj=>?_⟩ (by show xs.length-(i+1)<xs.length-i;omega) rfl (by simp(disch:=omega)only[go_sem,hr,hn];try omega) (by simp(disch:=omega)only[go_sem])
   rcases(by omega:j<i∨j=i)with h|h
   ·exact hp j h
   ·subst h;exact h2
 ·simp(disch:=omega)only[go_sem,h1]
  refine qk (by simp(disch:=omega)only[go_sem]) (by simp(disch:=omega)only[go_sem]) ⟨-1,rfl,rfl,?_⟩
  refine⟨fun h=>by omega,fun⟨x,hx,hpx⟩=>?_⟩
  obtain⟨j,hj,rfl⟩:=List.getElem_of_mem hx
  have:=hp j (by omega)
  rw[List.getD_eq_getElem?_getD,List.getElem?_eq_getElem hj]at this
  simp only[Option.getD_some]at this
  rw[this]at hpx;cases hpx
theorem QC(f:Nat)(caps:List AV)(xs:List DyV)(hl:xs.length≤2^40)(hf:∀x∈xs,Con Try.prog f true (.ag x.cs::caps) [] (isA (.v (.bool (p x)))))(hg:qD Try.prog f=True)
  (hc:∀h:Nat→Ob,caps.map (qx h 6)=caps) (hc5:∀h:Nat→Ob,caps.map (qx h 5)=caps) (hn:∀ks,AllL (jJ ks) caps) (hr:∀ρ,zb ρ caps=caps):
  Con Try.prog 94 true [.sl xs.length (qy DyV.cs xs),.fn f caps] [] (isA (.v (.bool (xs.any p)))):=by
 refine Con.of_aw Try.func94 rfl Try.ntmps94 (by simp) (by simp) (by simp) (W.sound ?_)
 show @W Try.prog 9 ⟨_⟩ ⟨fun x σ=>@qO _ _ _ ⟨_⟩ _ ⟨_⟩ x σ⟩ _ _
 simp(disch:=omega)only[go_sem]
 refine qh (YK p f caps xs hl hf hg hc hc5 hn hr) (by simp(disch:=omega)only[go_sem,hc,hc5]) ?_
 rintro r hs ⟨i,rfl,rfl,hi⟩
 refine⟨by simp[qs],?_⟩
 simp(disch:=omega)only[go_sem]
 refine qk (by simp(disch:=omega)only[go_sem]) (by simp(disch:=omega)only[go_sem]) ⟨?_,rfl,rfl⟩
 have:decide (0≤i)=xs.any p:=by rw[Bool.eq_iff_iff,decide_eq_true_eq,hi,List.any_eq_true]
 rw[this];rfl
theorem abC(xs:List DyV)(hl:xs.length≤2^40)(hf:∀x∈xs,Con Try.prog g true [.ag x.cs] [] (isA (.v (.bool (p x)))))(hg:qD Try.prog g=True):
  Con Try.prog 71 true [.sl xs.length (qy DyV.cs xs),.fn g []] [] (isA (.v (.bool (xs.all p)))):=by
 refine Con.of_aw Try.func71 rfl Try.ntmps71 (by simp) (by simp) (by simp) (W.sound ?_)
 show @W Try.prog 9 ⟨_⟩ ⟨fun x σ=>@qO _ _ _ ⟨_⟩ _ ⟨_⟩ x σ⟩ _ _
 simp(disch:=omega)only[go_sem]
 refine qh (QC (fun x=> !p x) 95 [.fp [.fn g []] 0] xs hl (fun x hx=>VS g p x (hf x hx) hg) (by simp(disch:=omega)only[go_sem]) (fun h=>rfl) (fun h=>rfl) (fun ks=>by simp(disch:=omega)only[go_sem]) (fun ρ=>rfl)) (by simp(disch:=omega)only[go_sem]) ?_
 rintro r hs ⟨rfl,rfl,_⟩
 refine⟨by simp[qs],?_⟩
 simp(disch:=omega)only[go_sem]
 refine qk (by simp(disch:=omega)only[go_sem]) (by simp(disch:=omega)only[go_sem]) ⟨?_,rfl,rfl⟩
 have:(!xs.any fun x=> !p x)=xs.all p:=by rw[List.all_eq_not_any_not]
 rw[this];rfl
end
def DyV.ok(x:DyV):Bool:=dyB x.s x.xs x.e
theorem VR(xs:List DyV)(hl:xs.length≤2^40)(hx:∀x∈xs,x.xs.length≤2^40):Con Try.prog 52 true [.sl xs.length (qy DyV.cs xs)] [] (isA (.v (.bool (xs.all DyV.ok)))):=by
 refine Con.of_w (rs:=[.tmp 2]) Try.func52 rfl Try.ntmps52 rfl ?_
 simp(disch:=omega)only[go_sem]
 refine qg (abC 66 DyV.ok xs hl (fun x h=>XA x.s x.xs x.e (hx x h)) (by simp(disch:=omega)only[go_sem])) ?_
 simp(disch:=omega)only[go_sem]
 exact ql
def aqV(n:Int)(l:List DyV):Bool:=(decide (1≤n)&&decide (n≤4))&&(decide ((l.length:Int)=n*n)&&l.all DyV.ok)
end Go.Ab
namespace Go.Ab
open Go Go.Proofs
def ExV.dy(x:ExV):DyV:=⟨x.s,lim x.m,x.e⟩
def ExV.ok(x:ExV):Bool:=dyB x.s (lim x.m) x.e
def asK(n:Int)(l:List ExV):Bool:=(decide (1≤n)&&decide (n≤4))&&(decide ((l.length:Int)=n*n)&&l.all ExV.ok)
theorem aae{x:ExV}(h:x.ok=true):x.bd (-3000) 4600:=by
 obtain⟨m,e1,h1,h2,h3,_,h4⟩:=Qa h
 have e2:x.m=m:=Zw e1
 subst e2
 exact⟨h4,by omega,by omega⟩
def arK(F:List SpV)(X:List ExV)(k:Nat):List ExV:=(List.range k).map fun i=>Yn [((F.getD i sp0).hi.plus (X.getD i ex0).neg).abs,((X.getD i ex0).plus (F.getD i sp0).lo.neg).abs]
def asc(n:Nat)(F:List SpV)(low:Int):List ExV:=asa n (F.map arW) low 0
def aq4(n:Nat)(F:List SpV)(low:Int):ExV:=ah4 n (arK F (asc n F low) (n*n)) n
end Go.Ab
namespace Go.Ab
open Go Go.Proofs
theorem JO(a b:Nat)(la:(lim a).length≤2^40)(lb:(lim b).length≤2^40):
  Con Try.prog 97 true [.ag [.sl (lim (a)).length (qc (lim (a)))],.ag [.sl (lim (b)).length (qc (lim (b)))]] [] (isA (.v (.int .i64 (zq a b)))):=by
 refine Con.of_w (rs:=[.tmp 4]) Try.func97 rfl Try.ntmps97 rfl ?_
 simp(disch:=omega)only[go_sem]
 refine zU (fun h1=>?_) (fun h1=>?_)
 ·simp(disch:=omega)only[go_sem,h1]
  refine qd (fun h2=>?_) (fun h2=>?_)
  ·simp(disch:=omega)only[go_sem,h2]
   have:=jU (a:=a) (b:=b) (by omega)
   rw[show zq (a:Int) (b:Int)= -1 by unfold zq;rw[if_pos (by omega)]]
   exact ql
  ·simp(disch:=omega)only[go_sem,h2]
   have:=jU (a:=b) (b:=a) (by omega)
   rw[show zq (a:Int) (b:Int)=1 by unfold zq;rw[if_neg (by omega),if_pos (by omega)]]
   exact ql
 ·simp(disch:=omega)only[go_sem,h1]
  have hl:(lim a).length=(lim b).length:=by omega
  refine qf (fun k:Nat=>[(2,.pt 40000000 0),(3,.pt 50000000 0),(5,.v (.int .i64 ((k:Int)-1)))])
   (fun _=>[(40000000,.own 0 [.sl (lim (a)).length (qc (lim (a)))]),(50000000,.own 0 [.sl (lim (b)).length (qc (lim (b)))])]) (fun k=>k≤(lim a).length∧(lim a).drop k=(lim b).drop k) (fun k=>k) (lim a).length ⟨Nat.le_refl _,by rw[List.drop_length,hl,List.drop_length]⟩ (Le.lst [] _ _ rfl (by simp(disch:=omega)only[go_sem];try omega) (by simp(disch:=omega)only[go_sem])) ?_
  rintro k ⟨hk,hd⟩
  simp(disch:=omega)only[go_sem]
  refine qd (fun h2=>?_) (fun h2=>?_)
  ·obtain⟨i,rfl⟩:∃i,k=i+1:=⟨k-1,by omega⟩
   have ei:((i+1:Nat):Int)-1=(i:Nat):=by omega
   have hva:=qQ a
   have hvb:=qQ b
   simp(disch:=omega)only[go_sem,h2,ei]
   refine qu rfl [⟨0,[],[]⟩,⟨1,[],[]⟩,⟨2,[1],[]⟩,⟨3,[],[]⟩,⟨4,[],[]⟩,⟨5,[1,4],[]⟩,⟨6,[1,4],[]⟩,⟨7,[1,4,6],[]⟩,⟨8,[1,4],[]⟩,⟨9,[1,4],[]⟩,⟨10,[],[]⟩] (by kernel_rfl) ?_
   simp(disch:=omega)only[go_sem,ei]
   refine⟨by omega,by omega,by omega,by omega,?_⟩
   refine qd (fun h3=>?_) (fun h3=>?_)
   ·simp(disch:=omega)only[go_sem,h3]
    have:=yA (qX a) (qX b) (by omega) hl hd h3
    rw[show zq (a:Int) (b:Int)= -1 by unfold zq;rw[if_pos (by omega)]]
    exact ql
   ·simp(disch:=omega)only[go_sem,h3]
    refine qu rfl [⟨0,[],[]⟩,⟨1,[],[]⟩,⟨2,[1],[]⟩,⟨3,[],[]⟩,⟨4,[],[]⟩,⟨5,[1,4],[]⟩,⟨6,[1,4],[]⟩,⟨7,[1,4,6],[]⟩,⟨8,[1,4],[]⟩,⟨9,[1,4],[]⟩,⟨10,[],[]⟩] (by kernel_rfl) ?_
    simp(disch:=omega)only[go_sem,ei]
    refine⟨by omega,by omega,by omega,by omega,?_⟩
    refine qd (fun h4=>?_) (fun h4=>?_)
    ·simp(disch:=omega)only[go_sem,h4]
     have:=yA (qX b) (qX a) (by omega) hl.symm hd.symm h4
     rw[show zq (a:Int) (b:Int)=1 by unfold zq;rw[if_neg (by omega),if_pos (by omega)]]
     exact ql
    ·simp(disch:=omega)only[go_sem,h4]
     refine qe i [] ⟨by omega,?_⟩ (by show i<i+1;omega) rfl (by simp(disch:=omega)only[go_sem];try omega) (by simp(disch:=omega)only[go_sem])
     have h5:(lim a).getD i 0=(lim b).getD i 0:=by omega
     rw[jj (l:=lim a) (by omega),jj (l:=lim b) (by omega),h5,hd]
  ·simp(disch:=omega)only[go_sem,h2]
   have:k=0:=by omega
   subst this
   rw[List.drop_zero,List.drop_zero]at hd
   have:=Zw hd
   subst this
   rw[show zq (a:Int) (a:Int)=0 by simp[zq]]
   exact ql
end Go.Ab
namespace Go.Ab
open Go Go.Proofs
def alF(m1:Nat)(e1:Int)(m2:Nat)(e2:Int):Int:=if m1=0 then e2 else if m2=0 then e1 else if e1≤e2 then e1 else e2
theorem YJ(s1:Bool)(m1:Nat)(e1:Int)(s2:Bool)(m2:Nat)(e2:Int)(h1:bl m1≤4000000)(h2:bl m2≤4000000)(he1: -1000000≤e1∧e1≤1000000)(he2: -1000000≤e2∧e2≤1000000)(z1:m1=0→s1=false)(z2:m2=0→s2=false):
  Con Try.prog 72 false [.ag [.v (.bool (s1)),.sl (lim (m1)).length (qc (lim (m1))),.v (.int .i64 (e1))],.ag [.v (.bool (s2)),.sl (lim (m2)).length (qc (lim (m2))),.v (.int .i64 (e2))]] [] (isA (.tu [.ag [.v (.bool (s1)),.sl (lim (alA m1 e1 (alE m1 e1 m2 e2))).length (qc (lim (alA m1 e1 (alE m1 e1 m2 e2))))],.ag [.v (.bool (s2)),.sl (lim (alA m2 e2 (alE m1 e1 m2 e2))).length (qc (lim (alA m2 e2 (alE m1 e1 m2 e2))))],.v (.int .i64 (alF m1 e1 m2 e2))])):=by
 refine Con.frzA ?_
 have l1:=qI h1
 have l2:=qI h2
 refine Con.of_aw Try.func72 rfl Try.ntmps72 (by simp) (by simp) (by simp) (W.sound ?_)
 show @W Try.prog 70 ⟨_⟩ ⟨fun x σ=>@qO _ _ _ ⟨_⟩ _ ⟨_⟩ x σ⟩ _ _
 simp(disch:=omega)only[go_sem]
 refine qd (fun c1=>?_) (fun c1=>?_)
 ·have y1:m1=0:=qJ.1 (List.length_eq_zero_iff.1 (by omega))
  have eF:alF m1 e1 m2 e2=e2:=by unfold alF;rw[if_pos y1]
  have a1:alA m1 e1 (alE m1 e1 m2 e2)=m1:=by rw[y1];unfold alA;rw[Nat.zero_mul]
  have a2:alA m2 e2 (alE m1 e1 m2 e2)=m2:=by
   by_cases y2:m2=0
   ·rw[y2];unfold alA;rw[Nat.zero_mul]
   ·unfold alA alE;rw[if_neg y2,if_pos y1,Int.sub_self];simp
  simp(disch:=omega)only[go_sem,c1]
  refine qu rfl [⟨0,[],[]⟩,⟨1,[],[]⟩,⟨2,[1],[]⟩,⟨3,[1],[]⟩,⟨4,[1,3],[]⟩,⟨5,[1,3],[]⟩,⟨6,[3,5],[]⟩,⟨7,[5],[]⟩,⟨8,[],[]⟩] (by kernel_rfl) ?_
  simp(disch:=omega)only[go_sem]
  refine q5 (by simp(disch:=omega)only[go_sem]) ?_
  show qx _ 6 _=_
  rw[eF,a1,a2]
  simp(disch:=omega)only[go_sem]
 ·have y1:m1≠0:=fun e=>c1 (by rw[e,qw];rfl)
  simp(disch:=omega)only[go_sem,c1]
  refine qd (fun c2=>?_) (fun c2=>?_)
  ·have y2:m2=0:=qJ.1 (List.length_eq_zero_iff.1 (by omega))
   have eF:alF m1 e1 m2 e2=e1:=by unfold alF;rw[if_neg y1,if_pos y2]
   have a1:alA m1 e1 (alE m1 e1 m2 e2)=m1:=by unfold alA alE;rw[if_pos y2,Int.sub_self];simp
   have a2:alA m2 e2 (alE m1 e1 m2 e2)=m2:=by rw[y2];unfold alA;rw[Nat.zero_mul]
   simp(disch:=omega)only[go_sem,c2]
   refine qu rfl [⟨0,[],[]⟩,⟨1,[],[]⟩,⟨2,[1],[]⟩,⟨3,[1],[]⟩,⟨4,[1,3],[]⟩,⟨5,[1,3],[]⟩,⟨6,[3,5],[]⟩,⟨7,[5],[]⟩,⟨8,[],[]⟩] (by kernel_rfl) ?_
   simp(disch:=omega)only[go_sem]
   refine q5 (by simp(disch:=omega)only[go_sem]) ?_
   show qx _ 6 _=_
   rw[eF,a1,a2]
   simp(disch:=omega)only[go_sem]
  ·have y2:m2≠0:=fun e=>c2 (by rw[e,qw];rfl)
   simp(disch:=omega)only[go_sem,c2]
   refine qd (fun c3=>?_) (fun c3=>?_)
   ·have eF:alF m1 e1 m2 e2=e1:=by unfold alF;rw[if_neg y1,if_neg y2,if_pos c3]
    have eE:alE m1 e1 m2 e2=e1:=by unfold alE;rw[if_neg y2,if_neg y1,if_neg (by omega)]
    have a1:alA m1 e1 (alE m1 e1 m2 e2)=m1:=by rw[eE];unfold alA;rw[Int.sub_self];simp
    have ek:e2-e1=(((e2-e1).toNat:Nat):Int):=by omega
    have hb:bl (m2*2^(e2-e1).toNat)≤6000000:=by have:=JX m2 (e2-e1).toNat;omega
    have l3:=qI hb
    have hn:m2*2^(e2-e1).toNat≠0:=Nat.mul_ne_zero y2 (Nat.pos_iff_ne_zero.1 (Nat.pow_pos (by omega)))
    have hd:decide (m2*2^(e2-e1).toNat≠0)=true:=decide_eq_true hn
    simp(disch:=omega)only[go_sem,c3]
    refine qu rfl [⟨0,[],[]⟩,⟨1,[],[]⟩,⟨2,[1],[]⟩,⟨3,[1],[]⟩,⟨4,[1],[]⟩,⟨5,[1,4],[]⟩,⟨6,[1,4],[]⟩,⟨7,[1,4],[]⟩,⟨8,[1,4,7],[]⟩,⟨9,[1,4,7],[]⟩,⟨10,[1,4,7,9],[]⟩,⟨11,[1,4,7,9],[]⟩,⟨12,[1,4,7],[]⟩,⟨15,[1,4,7,9,11],[]⟩,⟨16,[1,4,7,9,11],[]⟩,⟨13,[1,4,16],[]⟩,⟨14,[1,16],[]⟩,⟨17,[16],[]⟩,⟨18,[16],[]⟩,⟨19,[],[]⟩] (by kernel_rfl) ?_
    simp(disch:=omega)only[go_sem]
    refine qG (jv m2 (e2-e1).toNat (by omega) (by omega)) (by simp(disch:=omega)only[go_sem,←ek]) ?_
    rintro r hs ⟨rfl,rfl,_⟩
    refine⟨by simp[qs],?_⟩
    simp(disch:=omega)only[go_sem]
    refine qi (Q6 s2 (m2*2^(e2-e1).toNat) (by omega)) ?_
    simp(disch:=omega)only[go_sem]
    refine q5 (by simp(disch:=omega)only[go_sem]) ?_
    show qx _ 6 _=_
    rw[eF,a1,eE,hd];unfold alA
    simp(disch:=omega)only[go_sem,Bool.and_true]
   ·have eF:alF m1 e1 m2 e2=e2:=by unfold alF;rw[if_neg y1,if_neg y2,if_neg c3]
    have eE:alE m1 e1 m2 e2=e2:=by unfold alE;rw[if_neg y2,if_neg y1,if_pos (by omega)]
    have a2:alA m2 e2 (alE m1 e1 m2 e2)=m2:=by rw[eE];unfold alA;rw[Int.sub_self];simp
    have ek:e1-e2=(((e1-e2).toNat:Nat):Int):=by omega
    have hb:bl (m1*2^(e1-e2).toNat)≤6000000:=by have:=JX m1 (e1-e2).toNat;omega
    have l3:=qI hb
    have hn:m1*2^(e1-e2).toNat≠0:=Nat.mul_ne_zero y1 (Nat.pos_iff_ne_zero.1 (Nat.pow_pos (by omega)))
    have hd:decide (m1*2^(e1-e2).toNat≠0)=true:=decide_eq_true hn
    simp(disch:=omega)only[go_sem,c3]
    refine qu rfl [⟨0,[],[]⟩,⟨1,[],[]⟩,⟨2,[],[]⟩,⟨3,[2],[]⟩,⟨4,[2],[]⟩,⟨5,[2],[]⟩,⟨6,[2,5],[]⟩,⟨7,[2,5],[]⟩,⟨8,[2,5,7],[]⟩,⟨9,[2,5,7],[]⟩,⟨10,[2,5],[]⟩,⟨13,[2,5,7,9],[]⟩,⟨14,[2,5,7,9],[]⟩,⟨15,[2,5,7,9,14],[]⟩,⟨16,[2,5,7,9,14],[]⟩,⟨11,[2,14,16],[]⟩,⟨12,[14,16],[]⟩,⟨17,[14,16],[]⟩,⟨18,[16],[]⟩,⟨19,[],[]⟩] (by kernel_rfl) ?_
    simp(disch:=omega)only[go_sem]
    refine qG (jv m1 (e1-e2).toNat (by omega) (by omega)) (by simp(disch:=omega)only[go_sem,←ek]) ?_
    rintro r hs ⟨rfl,rfl,_⟩
    refine⟨by simp[qs],?_⟩
    simp(disch:=omega)only[go_sem]
    refine qi (Q6 s1 (m1*2^(e1-e2).toNat) (by omega)) ?_
    simp(disch:=omega)only[go_sem]
    refine q5 (by simp(disch:=omega)only[go_sem]) ?_
    show qx _ 6 _=_
    rw[eF,a2,eE,hd];unfold alA
    simp(disch:=omega)only[go_sem,Bool.and_true]
end Go.Ab
namespace Go.Ab
open Go Go.Proofs
def pmS(s1:Bool)(m1:Nat)(s2:Bool)(m2:Nat):Bool:=(s1 != s2)&&decide (m1*m2≠0)
end Go.Ab
namespace Go.Ab
open Go Go.Proofs
theorem abr(s1:Bool)(m1:Nat)(s2:Bool)(m2:Nat)(l1:(lim m1).length≤2^40)(l2:(lim m2).length≤2^40)(z1:m1=0→s1=false)(z2:m2=0→s2=false):
  Con Try.prog 73 true [.ag [.v (.bool (s1)),.sl (lim (m1)).length (qc (lim (m1)))],.ag [.v (.bool (s2)),.sl (lim (m2)).length (qc (lim (m2)))]] [] (isA (.v (.int .i64 (zq (sv s1 m1) (sv s2 m2))))):=by
 rw[JU z1 z2]
 cases s1<;>cases s2
 ·refine Con.of_w (rs:=[.tmp 4]) Try.func73 rfl Try.ntmps73 rfl ?_
  simp(disch:=omega)only[go_sem]
  refine qg (JO m1 m2 l1 l2) ?_
  simp(disch:=omega)only[go_sem]
  exact ql
 ·refine Con.of_w (rs:=[.tmp 4]) Try.func73 rfl Try.ntmps73 rfl ?_
  simp(disch:=omega)only[go_sem]
  exact ql
 ·refine Con.of_w (rs:=[.tmp 4]) Try.func73 rfl Try.ntmps73 rfl ?_
  simp(disch:=omega)only[go_sem]
  exact ql
 ·refine Con.of_w (rs:=[.tmp 4]) Try.func73 rfl Try.ntmps73 rfl ?_
  simp(disch:=omega)only[go_sem]
  refine qg (JO m2 m1 l2 l1) ?_
  simp(disch:=omega)only[go_sem]
  exact ql
theorem abq(K:Nat)(s1:Bool)(m1:Nat)(e1:Int)(s2:Bool)(m2:Nat)(e2:Int)(h1:bl m1≤4000000)(h2:bl m2≤4000000)(he1: -1000000≤e1∧e1≤1000000)(he2: -1000000≤e2∧e2≤1000000)(k1: -(K:Int)≤e1)(k2: -(K:Int)≤e2)(z1:m1=0→s1=false)(z2:m2=0→s2=false):
  Con Try.prog 56 true [.ag [.v (.bool (s1)),.sl (lim (m1)).length (qc (lim (m1))),.v (.int .i64 (e1))],.ag [.v (.bool (s2)),.sl (lim (m2)).length (qc (lim (m2))),.v (.int .i64 (e2))]] [] (isA (.v (.int .i64 (zq (dv K s1 m1 e1) (dv K s2 m2 e2))))):=by
 have hE:=XF (m1:=m1) (m2:=m2) he1.1 he2.1
 have b1:=qI (XE (e:=e1) (E:=alE m1 e1 m2 e2) (C:=2000000) h1 (by omega))
 have b2:=qI (XE (e:=e2) (E:=alE m1 e1 m2 e2) (C:=2000000) h2 (by omega))
 rw[←XB k1 k2]
 have y1:alA m1 e1 (alE m1 e1 m2 e2)=0→s1=false:=fun h=>z1 (yH.1 h)
 have y2:alA m2 e2 (alE m1 e1 m2 e2)=0→s2=false:=fun h=>z2 (yH.1 h)
 refine Con.of_w (rs:=[.tmp 4]) Try.func56 rfl Try.ntmps56 rfl ?_
 simp(disch:=omega)only[go_sem]
 refine qi (YJ s1 m1 e1 s2 m2 e2 h1 h2 he1 he2 z1 z2) ?_
 simp(disch:=omega)only[go_sem]
 refine qg (abr s1 (alA m1 e1 (alE m1 e1 m2 e2)) s2 (alA m2 e2 (alE m1 e1 m2 e2)) (by omega) (by omega) y1 y2) ?_
 simp(disch:=omega)only[go_sem]
 exact ql
end Go.Ab
namespace Go.Ab
open Go Go.Proofs
end Go.Ab
namespace Go.Ab
end Go.Ab
namespace Go.Ab
open Go Go.Proofs
def ExV.val(K:Nat)(x:ExV):Int:=dv K x.s x.m x.e
theorem yT{x:ExV}(h:x.ok=true):(-3000≤x.e∧x.e≤3000)∧bl x.m≤1600∧(lim x.m).length≤100∧(x.m=0→x.s=false∧x.e=0)∧(x.m % 2=1∨x.m=0):=by
 obtain⟨m,e1,h1,h2,h3,h4,h5⟩:=Qa h
 obtain rfl:=Zw e1
 exact⟨h3,h2,h1,fun h0=>⟨h5 h0,by omega⟩,by omega⟩
def ExV.tel(x:ExV):ExV:=if x.fit=true then x.can else ex0
def flD(F:FlV):ExV:=⟨oS (xS F.k F.s) F.m.toNat,oM F.m.toNat,oE F.m.toNat F.e⟩
end Go.Ab
namespace Go.Ab
open Go Go.Proofs
section
variable (g:Nat)(p:IvV→Bool)
end
end Go.Ab
namespace Go.Ab
open Go Go.Proofs
/-! ### Intervals that were drawn,and those that are valid-/
def DyV.ex(d:DyV):ExV:=⟨d.s,(vl d.xs).toNat,d.e⟩
def ExV.dyv(x:ExV):DyV:=⟨x.s,lim x.m,x.e⟩
theorem aqk(x:ExV):x.dyv.ex=x:=by unfold ExV.dyv DyV.ex;rw[qQ,Int.toNat_natCast]
theorem aeE{d:DyV}(h:d.ok=true):d=d.ex.dyv∧d.ex.ok=true:=by
 obtain⟨s,xs,e⟩:=d
 obtain⟨m,hm, -⟩:=Qa (show dyB s xs e=true from h)
 subst hm
 have e1:(DyV.mk s (lim m) e).ex=⟨s,m,e⟩:=aqk ⟨s,m,e⟩
 rw[e1]
 exact⟨rfl,h⟩
def ivB(v:IvV):Bool:=v.lo.ok&&(v.hi.ok&&decide (v.lo.ex.val 3000≤v.hi.ex.val 3000))
def IvV.sp(v:IvV):SpV:=⟨v.lo.ex,v.hi.ex⟩
def SpV.iv(s:SpV):IvV:=⟨s.lo.dyv,s.hi.dyv⟩
def SpV.ok(s:SpV):Bool:=s.lo.ok&&(s.hi.ok&&decide (s.lo.val 3000≤s.hi.val 3000))
theorem alk{s:SpV}(h:s.ok=true):s.lo.ok=true∧s.hi.ok=true∧s.lo.val 3000≤s.hi.val 3000:=by
 simpa [SpV.ok]using h
theorem aho{s:SpV}(h:s.ok=true):s.bd (-3000) 4600:=⟨aae (alk h).1,aae (alk h).2.1⟩
theorem ajJ{K:Nat}{x y:ExV}(h1: -(K:Int)≤x.e)(h2: -(K:Int)≤y.e):x.cmp y=zq (x.val K) (y.val K):=by
 unfold ExV.cmp
 exact XB h1 h2
theorem anB{x y:ExV}(hx:x.ok=true)(hy:y.ok=true):x.cmp y=zq (x.val 3000) (y.val 3000):=ajJ (yT hx).1.1 (yT hy).1.1
def aqX(v:IvV):Prop:=v.lo.xs.length≤1000∧v.hi.xs.length≤1000
def aat(s t:SpV):SpV:=⟨Yn [s.lo,t.lo],Jo [s.hi,t.hi]⟩
def ar6(s t:SpV):SpV:=⟨Jo [s.lo,t.lo],Yn [s.hi,t.hi]⟩
def SpV.tel(s:SpV):SpV:=if s.fit=true then s.can else sp0
def arX(s t:SpV):SpV:=if(aat s t).lo.val 3000≤(aat s t).hi.val 3000 then aat s t else sp0
def arw(s:SpV)(x:ExV):Bool:=decide (s.lo.val 3000≤x.val 3000)&&decide (x.val 3000≤s.hi.val 3000)
end Go.Ab
namespace Go.Ab
open Go Go.Proofs
/-! ### The text of an interval-/
theorem JS(a b:DyV)(ha:a.xs.length≤2^40)(hb:b.xs.length≤2^40):Con Try.prog 52 true [.sl 2 [.v (.bool a.s),.sl a.xs.length (qc a.xs),.v (.int .i64 a.e),.v (.bool b.s),.sl b.xs.length (qc b.xs),.v (.int .i64 b.e)]] [] (isA (.v (.bool (a.ok&&b.ok)))):=by
 have c:=VR [a,b] (by simp) (by intro x hx;simp at hx;rcases hx with rfl|rfl<;>omega)
 rw[show [a,b].all DyV.ok=(a.ok&&b.ok) by simp]at c
 exact c
theorem JT(v:IvV)(h1:v.lo.xs.length≤2^40)(h2:v.hi.xs.length≤2^40):Con Try.prog 43 true [.ag [.v (.bool (v).lo.s),.sl (v).lo.xs.length (qc (v).lo.xs),.v (.int .i64 (v).lo.e),.v (.bool (v).hi.s),.sl (v).hi.xs.length (qc (v).hi.xs),.v (.int .i64 (v).hi.e)]] [] (isA (.v (.bool (ivB v)))):=by
 unfold ivB
 have ca:=JS v.lo v.hi h1 h2
 cases k1:v.lo.ok
 ·rw[k1]at ca
  refine Con.of_aw Try.func43 rfl Try.ntmps43 (by simp) (by simp) (by simp) (W.sound ?_)
  show @W Try.prog 19 ⟨_⟩ ⟨fun x σ=>@qO _ _ _ ⟨_⟩ _ ⟨_⟩ x σ⟩ _ _
  simp(disch:=omega)only[go_sem]
  refine qu rfl [⟨0,[],[]⟩,⟨1,[],[]⟩,⟨2,[1],[]⟩,⟨3,[1],[]⟩,⟨4,[],[]⟩,⟨5,[],[]⟩,⟨6,[],[]⟩,⟨7,[],[]⟩,⟨8,[],[]⟩,⟨10,[8],[]⟩,⟨11,[8],[]⟩,⟨9,[11],[]⟩,⟨12,[],[]⟩,⟨13,[],[]⟩,⟨14,[],[]⟩,⟨15,[],[]⟩,⟨16,[],[]⟩] (by kernel_rfl) ?_
  simp(disch:=omega)only[go_sem]
  refine qg (ca) ?_
  simp(disch:=omega)only[go_sem]
  exact ql
 cases k2:v.hi.ok
 ·rw[k1,k2]at ca
  refine Con.of_aw Try.func43 rfl Try.ntmps43 (by simp) (by simp) (by simp) (W.sound ?_)
  show @W Try.prog 19 ⟨_⟩ ⟨fun x σ=>@qO _ _ _ ⟨_⟩ _ ⟨_⟩ x σ⟩ _ _
  simp(disch:=omega)only[go_sem]
  refine qu rfl [⟨0,[],[]⟩,⟨1,[],[]⟩,⟨2,[1],[]⟩,⟨3,[1],[]⟩,⟨4,[],[]⟩,⟨5,[],[]⟩,⟨6,[],[]⟩,⟨7,[],[]⟩,⟨8,[],[]⟩,⟨10,[8],[]⟩,⟨11,[8],[]⟩,⟨9,[11],[]⟩,⟨12,[],[]⟩,⟨13,[],[]⟩,⟨14,[],[]⟩,⟨15,[],[]⟩,⟨16,[],[]⟩] (by kernel_rfl) ?_
  simp(disch:=omega)only[go_sem]
  refine qg (ca) ?_
  simp(disch:=omega)only[go_sem]
  exact ql
 ·rw[k1,k2]at ca
  obtain⟨lo,hi⟩:=v
  dsimp only at k1 k2 ca ⊢
  obtain⟨e1,o1⟩:=aeE k1
  obtain⟨e2,o2⟩:=aeE k2
  generalize lo.ex=x at*
  generalize hi.ex=y at*
  subst e1 e2
  unfold ExV.dyv at*
  refine Con.of_aw Try.func43 rfl Try.ntmps43 (by simp) (by simp) (by simp) (W.sound ?_)
  show @W Try.prog 19 ⟨_⟩ ⟨fun x σ=>@qO _ _ _ ⟨_⟩ _ ⟨_⟩ x σ⟩ _ _
  simp(disch:=omega)only[go_sem]
  refine qu rfl [⟨0,[],[]⟩,⟨1,[],[]⟩,⟨2,[1],[]⟩,⟨3,[1],[]⟩,⟨4,[],[]⟩,⟨5,[],[]⟩,⟨6,[],[]⟩,⟨7,[],[]⟩,⟨8,[],[]⟩,⟨10,[8],[]⟩,⟨11,[8],[]⟩,⟨9,[11],[]⟩,⟨12,[],[]⟩,⟨13,[],[]⟩,⟨14,[],[]⟩,⟨15,[],[]⟩,⟨16,[],[]⟩] (by kernel_rfl) ?_
  simp(disch:=omega)only[go_sem]
  refine qg (ca) ?_
  simp(disch:=omega)only[go_sem]
  refine qi (Qm x.s x.m x.e) ?_
  simp(disch:=omega)only[go_sem]
  refine qi (Qm y.s y.m y.e) ?_
  simp(disch:=omega)only[go_sem]
  refine qg (ae4 x y ((aae o1).mono (by omega) (by omega)) ((aae o2).mono (by omega) (by omega))) ?_
  simp(disch:=omega)only[go_sem]
  refine qk (by simp(disch:=omega)only[go_sem]) (by simp(disch:=omega)only[go_sem]) ⟨?_,rfl,rfl⟩
  rw[anB o1 o2]
  show AV.v (.bool _)=AV.v (.bool (true&&(true&&decide (ExV.val 3000 x≤ExV.val 3000 y))))
  rw[Bool.true_and,Bool.true_and]
  congr 2
  exact decide_eq_decide.2 (abE _ _).1
theorem VL(x y:ExV)(hx:x.ok=true)(hy:y.ok=true):Con Try.prog 56 true [.ag [.v (.bool (x).s),.sl (lim (x).m).length (qc (lim (x).m)),.v (.int .i64 (x).e)],.ag [.v (.bool (y).s),.sl (lim (y).m).length (qc (lim (y).m)),.v (.int .i64 (y).e)]] [] (isA (.v (.int .i64 (zq (x.val 3000) (y.val 3000))))):=by
 obtain⟨a1,a2,a3,a4,a5⟩:=yT hx
 obtain⟨b1,b2,b3,b4,b5⟩:=yT hy
 exact abq 3000 x.s x.m x.e y.s y.m y.e (by omega) (by omega) (by omega) (by omega) (by omega) (by omega) (fun h=>(a4 h).1) (fun h=>(b4 h).1)
theorem VT(v:IvV)(h:v.lo.xs.length≤2^40∧v.hi.xs.length≤2^40):Con Try.prog 40 true [.ag [.v (.bool (v).lo.s),.sl (v).lo.xs.length (qc (v).lo.xs),.v (.int .i64 (v).lo.e),.v (.bool (v).hi.s),.sl (v).hi.xs.length (qc (v).hi.xs),.v (.int .i64 (v).hi.e)]] [] (isA (.v (.bool (ivB v)))):=by
 unfold ivB
 have k1:=Ql v.lo.s v.lo.xs v.lo.e (by have:=h.1;omega)
 have k2:=Ql v.hi.s v.hi.xs v.hi.e (by have:=h.2;omega)
 rw[show dyB v.lo.s v.lo.xs v.lo.e=v.lo.ok from rfl]at k1
 rw[show dyB v.hi.s v.hi.xs v.hi.e=v.hi.ok from rfl]at k2
 cases h1:v.lo.ok
 ·rw[h1]at k1
  refine Con.of_aw Try.func40 rfl Try.ntmps40 (by simp) (by simp) (by simp) (W.sound ?_)
  show @W Try.prog 19 ⟨_⟩ ⟨fun x σ=>@qO _ _ _ ⟨_⟩ _ ⟨_⟩ x σ⟩ _ _
  simp(disch:=omega)only[go_sem]
  refine qg (k1) ?_
  simp(disch:=omega)only[go_sem]
  exact ql
 cases h2:v.hi.ok
 ·rw[h1]at k1
  rw[h2]at k2
  refine Con.of_aw Try.func40 rfl Try.ntmps40 (by simp) (by simp) (by simp) (W.sound ?_)
  show @W Try.prog 19 ⟨_⟩ ⟨fun x σ=>@qO _ _ _ ⟨_⟩ _ ⟨_⟩ x σ⟩ _ _
  simp(disch:=omega)only[go_sem]
  refine qg (k1) ?_
  simp(disch:=omega)only[go_sem]
  refine qg (k2) ?_
  simp(disch:=omega)only[go_sem]
  exact ql
 ·rw[h1]at k1
  rw[h2]at k2
  obtain⟨lo,hi⟩:=v
  dsimp only at h1 h2 k1 k2 ⊢
  obtain⟨e1,o1⟩:=aeE h1
  obtain⟨e2,o2⟩:=aeE h2
  generalize lo.ex=x at*
  generalize hi.ex=y at*
  subst e1 e2
  unfold ExV.dyv at*
  refine Con.of_aw Try.func40 rfl Try.ntmps40 (by simp) (by simp) (by simp) (W.sound ?_)
  show @W Try.prog 19 ⟨_⟩ ⟨fun x σ=>@qO _ _ _ ⟨_⟩ _ ⟨_⟩ x σ⟩ _ _
  simp(disch:=omega)only[go_sem]
  refine qg (k1) ?_
  simp(disch:=omega)only[go_sem]
  refine qg (k2) ?_
  simp(disch:=omega)only[go_sem]
  refine qg (VL x y o1 o2) ?_
  simp(disch:=omega)only[go_sem]
  refine qk (by simp(disch:=omega)only[go_sem]) (by simp(disch:=omega)only[go_sem]) ⟨?_,rfl,rfl⟩
  show AV.v (.bool _)=AV.v (.bool (true&&(true&&decide (ExV.val 3000 x≤ExV.val 3000 y))))
  rw[Bool.true_and,Bool.true_and]
  congr 2
  exact decide_eq_decide.2 (abE _ _).1
def aaL(v:IvV):Bool:=ivB v&&(v.lo.may&&v.hi.may)
def Xo(v:IvV):List UInt8:=[60]++(Qy [v.lo.txt,v.hi.txt]++[62])
theorem aaK(v:IvV):Xo v=[60]++v.lo.txt++[32]++v.hi.txt++[62]:=by simp[Xo,Qy,ahe]
theorem QH{x:DyV}(h:x.may=true):x.txt.length≤20000:=by
 obtain⟨m,_,a1,a2,a3⟩:=Yo h
 rw[a3];exact Xw a1 a2
theorem abw(v:IvV)(h1:v.lo.may=true)(h2:v.hi.may=true):Con Try.prog 42 false [.ag [.v (.bool (v).lo.s),.sl (v).lo.xs.length (qc (v).lo.xs),.v (.int .i64 (v).lo.e),.v (.bool (v).hi.s),.sl (v).hi.xs.length (qc (v).hi.xs),.v (.int .i64 (v).hi.e)]] [] (isA (.sl (Xo v).length (qa (Xo v)))):=by
 have t1:=QH h1
 have t2:=QH h2
 have c1:=Q5 v.lo h1
 have c2:=Q5 v.hi h2
 rw[aaK]
 unfold DyV.cs at c1 c2
 refine Con.frzA ?_
 refine Con.of_aw Try.func42 rfl Try.ntmps42 (by simp) (by simp) (by simp) (W.sound ?_)
 show @W Try.prog 16 ⟨_⟩ ⟨fun x σ=>@qO _ _ _ ⟨_⟩ _ ⟨_⟩ x σ⟩ _ _
 simp(disch:=omega)only[go_sem]
 refine qu rfl [⟨1,[],[]⟩,⟨2,[],[]⟩,⟨7,[2],[]⟩,⟨8,[2],[]⟩,⟨0,[2,8],[]⟩,⟨5,[2,8],[50000000]⟩,⟨11,[2,8],[50000000,100000000]⟩,⟨3,[8],[50000000,100000000,160000000]⟩,⟨4,[8],[100000000,160000000]⟩,⟨6,[8],[160000000]⟩,⟨9,[],[160000000]⟩,⟨10,[],[160000000]⟩,⟨12,[],[]⟩,⟨13,[],[]⟩] (by kernel_rfl) ?_
 simp(disch:=omega)only[go_sem]
 generalize v.lo.txt=T1 at*
 generalize v.hi.txt=T2 at*
 have e60:([.v (.int .u8 60)]:List AV)=qa [60]:=rfl
 have e32:([.v (.int .u8 32)]:List AV)=qa [32]:=rfl
 have e62:([.v (.int .u8 62)]:List AV)=qa [62]:=rfl
 obtain⟨A,hA⟩:∃A:List UInt8,A=[60]:=⟨_,rfl⟩
 obtain⟨B,hB⟩:∃A:List UInt8,A=[32]:=⟨_,rfl⟩
 obtain⟨C,hC⟩:∃A:List UInt8,A=[62]:=⟨_,rfl⟩
 rw[←hA]at e60 ⊢
 rw[←hB]at e32 ⊢
 rw[←hC]at e62 ⊢
 have lA:A.length=1:=by rw[hA];rfl
 have lB:B.length=1:=by rw[hB];rfl
 have lC:C.length=1:=by rw[hC];rfl
 have k1:List.take 1 A=A:=List.take_of_length_le (by omega)
 have k0:List.take 1 B=B:=List.take_of_length_le (by omega)
 have k9:List.take 1 C=C:=List.take_of_length_le (by omega)
 have n1:(A++T1).length=1+T1.length:=by simp only[List.length_append];omega
 have n2:(A++T1++B).length=1+T1.length+1:=by simp only[List.length_append];omega
 have n3:(A++T1++B++T2).length=1+T1.length+1+T2.length:=by simp only[List.length_append];omega
 have n4:(A++T1++B++T2++C).length=1+T1.length+1+T2.length+1:=by simp only[List.length_append];omega
 have k2:List.take (1+T1.length) (A++T1)=A++T1:=List.take_of_length_le (by omega)
 have k3:List.take (1+T1.length+1) (A++T1++B)=A++T1++B:=List.take_of_length_le (by omega)
 have k4:List.take (1+T1.length+1+T2.length) (A++T1++B++T2)=A++T1++B++T2:=List.take_of_length_le (by omega)
 refine qG c1 (by simp(disch:=omega)only[go_sem]) ?_
 rintro r hs ⟨rfl,rfl,_⟩
 refine⟨by simp[qs],?_⟩
 simp(disch:=omega)only[go_sem,e60,e32,e62,k1,k0,k2,n1]
 refine⟨⟨by omega,by omega⟩,by omega,by omega,?_⟩
 refine qG c2 (by simp(disch:=omega)only[go_sem]) ?_
 rintro r hs ⟨rfl,rfl,_⟩
 refine⟨by simp[qs],?_⟩
 simp(disch:=omega)only[go_sem,k3,k4,k9,n2,n3]
 refine⟨by omega,by omega,by omega,?_⟩
 rw[n4]
 refine qb [(0,170000000)] [.own 1 (qa (A++T1++B++T2++C))] [] [.rf 0 0 (1+T1.length+1+T2.length+1)] rfl (by simp(disch:=omega)only[go_sem]) (by simp(disch:=omega)only[go_sem]) (by simp) (by simp) ?_
 show AV.sl _ ((cut (qa (A++T1++B++T2++C)) 0 (_*1)).map (qx _ 5))=_
 rw[q9,List.drop_zero,Nat.mul_one,List.take_of_length_le (Nat.le_of_eq n4),zf]
theorem aeh{v:IvV}(h1:v.lo.may=true)(h2:v.hi.may=true):(Xo v).length≤40003:=by
 have t1:=QH h1
 have t2:=QH h2
 rw[aaK]
 simp only[List.length_append,List.length_cons,List.length_nil]
 omega
def Vu(v:IvV):AV:=if aaL v then .tu [.sl (Xo v).length (qa (Xo v)),.v (.bool true)]else .tu [.sl 0 [],.v (.bool false)]
theorem YR(v:IvV)(h:v.lo.xs.length≤2^40∧v.hi.xs.length≤2^40):Con Try.prog 22 false [.ag [.v (.bool (v).lo.s),.sl (v).lo.xs.length (qc (v).lo.xs),.v (.int .i64 (v).lo.e),.v (.bool (v).hi.s),.sl (v).hi.xs.length (qc (v).hi.xs),.v (.int .i64 (v).hi.e)]] [] (isA (Vu v)):=by
 have k0:=VT v h
 have k1:=Qj v.lo h.1
 have k2:=Qj v.hi h.2
 unfold DyV.cs at k1 k2
 refine Con.frzA ?_
 cases b0:ivB v
 ·have hb:Vu v=.tu [.sl 0 [],.v (.bool false)]:=by unfold Vu aaL;rw[b0];rfl
  rw[hb]
  rw[b0]at k0
  refine Con.of_aw Try.func22 rfl Try.ntmps22 (by simp) (by simp) (by simp) (W.sound ?_)
  show @W Try.prog 21 ⟨_⟩ ⟨fun x σ=>@qO _ _ _ ⟨_⟩ _ ⟨_⟩ x σ⟩ _ _
  simp(disch:=omega)only[go_sem]
  refine qg (k0) ?_
  simp(disch:=omega)only[go_sem]
  refine q5 (by simp(disch:=omega)only[go_sem]) ?_
  show qx _ 6 _=_
  rfl
 rw[b0]at k0
 cases b1:v.lo.may
 ·have hb:Vu v=.tu [.sl 0 [],.v (.bool false)]:=by unfold Vu aaL;rw[b0,b1];rfl
  rw[hb]
  rw[b1]at k1
  refine Con.of_aw Try.func22 rfl Try.ntmps22 (by simp) (by simp) (by simp) (W.sound ?_)
  show @W Try.prog 21 ⟨_⟩ ⟨fun x σ=>@qO _ _ _ ⟨_⟩ _ ⟨_⟩ x σ⟩ _ _
  simp(disch:=omega)only[go_sem]
  refine qg (k0) ?_
  simp(disch:=omega)only[go_sem]
  refine qg (k1) ?_
  simp(disch:=omega)only[go_sem]
  refine q5 (by simp(disch:=omega)only[go_sem]) ?_
  show qx _ 6 _=_
  rfl
 rw[b1]at k1
 cases b2:v.hi.may
 ·have hb:Vu v=.tu [.sl 0 [],.v (.bool false)]:=by unfold Vu aaL;rw[b0,b1,b2];rfl
  rw[hb]
  rw[b2]at k2
  refine Con.of_aw Try.func22 rfl Try.ntmps22 (by simp) (by simp) (by simp) (W.sound ?_)
  show @W Try.prog 21 ⟨_⟩ ⟨fun x σ=>@qO _ _ _ ⟨_⟩ _ ⟨_⟩ x σ⟩ _ _
  simp(disch:=omega)only[go_sem]
  refine qg (k0) ?_
  simp(disch:=omega)only[go_sem]
  refine qg (k1) ?_
  simp(disch:=omega)only[go_sem]
  refine qg (k2) ?_
  simp(disch:=omega)only[go_sem]
  refine q5 (by simp(disch:=omega)only[go_sem]) ?_
  show qx _ 6 _=_
  rfl
 rw[b2]at k2
 have hb:Vu v=.tu [.sl (Xo v).length (qa (Xo v)),.v (.bool true)]:=by unfold Vu aaL;rw[b0,b1,b2];rfl
 rw[hb]
 refine Con.of_aw Try.func22 rfl Try.ntmps22 (by simp) (by simp) (by simp) (W.sound ?_)
 show @W Try.prog 21 ⟨_⟩ ⟨fun x σ=>@qO _ _ _ ⟨_⟩ _ ⟨_⟩ x σ⟩ _ _
 simp(disch:=omega)only[go_sem]
 refine qg (k0) ?_
 simp(disch:=omega)only[go_sem]
 refine qg (k1) ?_
 simp(disch:=omega)only[go_sem]
 refine qg (k2) ?_
 simp(disch:=omega)only[go_sem]
 refine qi (abw v b1 b2) ?_
 simp(disch:=omega)only[go_sem]
 exact ye (hp:=by simp(disch:=omega)only[go_sem,zf])
theorem YS(v:IvV)(h:v.lo.xs.length≤2^40∧v.hi.xs.length≤2^40)(hb:aaL v=false):Con Try.prog 24 true [.ag [.v (.bool (v).lo.s),.sl (v).lo.xs.length (qc (v).lo.xs),.v (.int .i64 (v).lo.e),.v (.bool (v).hi.s),.sl (v).hi.xs.length (qc (v).hi.xs),.v (.int .i64 (v).hi.e)]] [] aon:=by
 have k0:=JT v h.1 h.2
 cases b0:ivB v
 ·rw[b0]at k0
  refine Con.of_aw Try.func24 rfl Try.ntmps24 (by simp) (by simp) (by simp) (W.sound ?_)
  show @W Try.prog 27 ⟨_⟩ ⟨fun x σ=>@qO _ _ _ ⟨_⟩ _ ⟨_⟩ x σ⟩ _ _
  simp(disch:=omega)only[go_sem]
  refine qg (k0) ?_
  simp(disch:=omega)only[go_sem]
  refine qb [] [] [] [.v (.slice none 0 0),.v (.bool false)] rfl (by simp(disch:=omega)only[go_sem]) (by simp(disch:=omega)only[go_sem]) (by simp) (by intro _;simp[qN,AV.pu,AV.pu.puL,Ob.pu]) ⟨rfl,rfl⟩
 rw[b0]at k0
 have hm:[v.lo,v.hi].all DyV.may=false:=by
  unfold aaL at hb
  rw[b0,Bool.true_and]at hb
  simpa using hb
 have kt:=JI [v.lo,v.hi] (by simp) (by intro d hd;simp at hd;rcases hd with rfl|rfl;exact h.1;exact h.2) hm
 have kt2:Con Try.prog 31 true [.sl 2 [.v (.bool v.lo.s),.sl v.lo.xs.length (qc v.lo.xs),.v (.int .i64 v.lo.e),.v (.bool v.hi.s),.sl v.hi.xs.length (qc v.hi.xs),.v (.int .i64 v.hi.e)]] [] aon:=kt
 refine Con.of_aw Try.func24 rfl Try.ntmps24 (by simp) (by simp) (by simp) (W.sound ?_)
 show @W Try.prog 27 ⟨_⟩ ⟨fun x σ=>@qO _ _ _ ⟨_⟩ _ ⟨_⟩ x σ⟩ _ _
 simp(disch:=omega)only[go_sem]
 refine qg (k0) ?_
 simp(disch:=omega)only[go_sem]
 refine qh kt2 (by simp(disch:=omega)only[go_sem]) ?_
 rintro r hs ⟨rfl,rfl⟩
 refine⟨by simp[qs],?_⟩
 simp(disch:=omega)only[go_sem]
 refine qb [] [] [] [.v (.slice none 0 0),.v (.bool false)] rfl (by simp(disch:=omega)only[go_sem]) (by simp(disch:=omega)only[go_sem]) (by simp) (by intro _;simp[qN,AV.pu,AV.pu.puL,Ob.pu]) ⟨rfl,rfl⟩
theorem YQ(v:IvV)(h:v.lo.xs.length≤2^40∧v.hi.xs.length≤2^40)(hb:aaL v=true):Con Try.prog 24 true [.ag [.v (.bool (v).lo.s),.sl (v).lo.xs.length (qc (v).lo.xs),.v (.int .i64 (v).lo.e),.v (.bool (v).hi.s),.sl (v).hi.xs.length (qc (v).hi.xs),.v (.int .i64 (v).hi.e)]] [] (aom (Xo v)):=by
 have hb':=hb
 unfold aaL at hb'
 simp only[Bool.and_eq_true]at hb'
 obtain⟨b0,b1,b2⟩:=hb'
 have k0:=JT v h.1 h.2
 rw[b0]at k0
 have kt:=YG [v.lo,v.hi] (by simp) (by intro d hd;simp at hd;rcases hd with rfl|rfl;exact h.1;exact h.2) (by intro d hd;simp at hd;rcases hd with rfl|rfl;exact b1;exact b2)
 have hj:([v.lo,v.hi]:List DyV).map DyV.txt=[v.lo.txt,v.hi.txt]:=rfl
 rw[hj]at kt
 have t1:=QH b1
 have t2:=QH b2
 have hjl:(Qy [v.lo.txt,v.hi.txt]).length≤40001:=by
  simp only[Qy,ahe,List.map_cons,List.map_nil,List.flatten_cons,List.flatten_nil,List.length_append,List.length_cons,List.length_nil]
  omega
 unfold Xo
 generalize Qy [v.lo.txt,v.hi.txt]=J at*
 have kt2:Con Try.prog 31 true [.sl 2 [.v (.bool v.lo.s),.sl v.lo.xs.length (qc v.lo.xs),.v (.int .i64 v.lo.e),.v (.bool v.hi.s),.sl v.hi.xs.length (qc v.hi.xs),.v (.int .i64 v.hi.e)]] [] (aom J):=kt
 have kc:=VU [[60],J,[62]] (by simp) (by
  intro t ht
  simp only[List.mem_cons,List.not_mem_nil,or_false]at ht
  rcases ht with rfl|rfl|rfl
  ·show 1≤_;omega
  ·omega
  ·show 1≤_;omega) (by show 0<1+_;omega)
 have ef:([[60],J,[62]]:List (List UInt8)).flatten=[60]++(J++[62]):=by simp
 rw[ef]at kc
 generalize ([60]++(J++[62]):List UInt8)=D at*
 refine Con.of_aw Try.func24 rfl Try.ntmps24 (by simp) (by simp) (by simp) (W.sound ?_)
 show @W Try.prog 27 ⟨_⟩ ⟨fun x σ=>@qO _ _ _ ⟨_⟩ _ ⟨_⟩ x σ⟩ _ _
 simp(disch:=omega)only[go_sem]
 refine qg (k0) ?_
 simp(disch:=omega)only[go_sem]
 refine qh kt2 (by simp(disch:=omega)only[go_sem]) ?_
 rintro r hs ⟨zs,rfl,rfl⟩
 refine⟨by simp[qs];simp(disch:=omega)only[go_sem],?_⟩
 simp(disch:=omega)only[go_sem]
 refine qH (z:=1) (cs:=qa [60]) trivial ⟨_,tf5,rfl⟩ (by simp(disch:=omega)only[go_sem,qV];rfl) (by omega) ?_
 simp(disch:=omega)only[go_sem]
 refine qH (z:=1) (cs:=qa [62]) trivial ⟨_,tf5,rfl⟩ (by simp(disch:=omega)only[go_sem,qV];rfl) (by omega) ?_
 simp(disch:=omega)only[go_sem]
 have kc2:Con Try.prog 38 true [.sl 3 [.sl 1 (qa [60]),.sl J.length (qa J),.sl 1 (qa [62])]] [] (fun r hs bs=>∃zs,r=.rf 0 0 D.length∧hs=[.own 1 (qa (D++zs))]):=kc
 have htk:List.take J.length (J++zs)=J:=List.take_left' rfl
 refine qh kc2 ?_ ?_
 ·simp(disch:=omega)only[go_sem,htk,List.drop_zero]
  exact⟨rfl,rfl⟩
 rintro r hs ⟨ws,rfl,rfl⟩
 refine⟨by simp[qs];simp(disch:=omega)only[go_sem],?_⟩
 simp(disch:=omega)only[go_sem]
 refine qb [(0,280000000)] [.own 1 (qa (D++ws))] [] [.rf 0 0 D.length,.v (.bool true)] rfl (by simp(disch:=omega)only[go_sem]) (by simp(disch:=omega)only[go_sem]) (by simp) (by intro _;simp[qN,AV.pu,AV.pu.puL,Ob.pu,qL]) ⟨ws,rfl,rfl⟩
end Go.Ab
namespace Go.Ab
open Go Go.Proofs
/-! ### Matrices that were drawn,and those that are valid-/
structure matV(n:Nat)(L:List ExV):Prop where
 n1:1≤n
 n4:n≤4
 len:L.length=n*n
 ok:∀x∈L,x.ok=true
theorem matV.bd{n:Nat}{L:List ExV}(h:matV n L):gbd (-3000) 4600 L:=fun x hx=>aae (h.ok x hx)
def gN(n:Nat)(l:List ExV):Nat:=if l.all ExV.fit=true then n else 0
def gT(l:List ExV):List ExV:=if l.all ExV.fit=true then l.map ExV.can else []
def as5(k:Int)(M:List DyV)(k':Int)(M':List DyV):Bool:=aqV k M&&(aqV k' M'&&decide (k=k'))
end Go.Ab
namespace Go.Ab
/-! ### Sums and greatest ones of whole numbers-/
def qn(f:Nat→Int):Nat→Int
 |0=>0
 |k+1=>qn f k+f k
def aiv(f:Nat→Int):Nat→Int
 |0=>0
 |k+1=>if aiv f k<f k then f k else aiv f k
theorem qv{f g:Nat→Int}:∀{k:Nat},(∀i,i<k→f i=g i)→qn f k=qn g k
 |0,_=>rfl
 |k+1,h=>by rw[qn,qn,qv fun i hi=>h i (by omega),h k (by omega)]
theorem yN(f g:Nat→Int):∀k:Nat,qn (fun i=>f i+g i) k=qn f k+qn g k
 |0=>rfl
 |k+1=>by rw[qn,qn,qn,yN f g k];omega
theorem QI(f:Nat→Int)(c:Int):∀k:Nat,qn (fun i=>f i*c) k=qn f k*c
 |0=>by simp[qn]
 |k+1=>by rw[qn,qn,QI f c k,Int.add_mul]
theorem jp(f:Nat→Int)(c:Int):∀k:Nat,qn (fun i=>c*f i) k=c*qn f k
 |0=>by simp[qn]
 |k+1=>by rw[qn,qn,jp f c k,Int.mul_add]
theorem yb:∀k:Nat,qn (fun _=>0) k=0
 |0=>rfl
 |k+1=>by rw[qn,yb k];rfl
theorem QJ(g:Nat→Nat→Int)(m:Nat):∀k:Nat,qn (fun i=>qn (fun t=>g i t) m) k=qn (fun t=>qn (fun i=>g i t) k) m
 |0=>(yb m).symm
 |k+1=>by
  rw[qn,QJ g m k,←yN]
  exact qv fun t _=>rfl
theorem zE{f:Nat→Int}{j:Nat}:∀{k:Nat},j<k→(∀i,i<k→i≠j→f i=0)→qn f k=f j
 |0,h,_=>by omega
 |k+1,h,h2=>by
  rw[qn]
  by_cases hj:j=k
  ·subst hj
   have:qn f j=qn (fun _=>0) j:=qv fun i hi=>h2 i (by omega) (by omega)
   rw[this,yb];omega
  ·rw[zE (by omega) (fun i hi=>h2 i (by omega)),h2 k (by omega) (by omega)];omega
def nrm(A:Nat→Nat→Int)(n:Nat):Int:=aiv (fun j=>qn (fun i=>((A i j).natAbs:Int)) n) n
end Go.Ab
namespace Go.Ab
open Go Go.Proofs
/-! ### What matrices tell-/
def mv(K:Nat)(L:List ExV)(n i j:Nat):Int:=(L.getD (i*n+j) ex0).val K
def eK(K:Nat)(L:List ExV):Prop:=∀x∈L, -(K:Int)≤x.e
theorem matV.eK{n:Nat}{L:List ExV}(h:matV n L){K:Nat}(hK:3000≤K):eK K L:=fun x hx=>by have:=(yT (h.ok x hx)).1;omega
end Go.Ab
namespace Go.Ab
open Go Go.Proofs
def as0(l:List UInt8)(i h:Int):Ob:=.own 0 [.sl l.length (qa l),.v (.int .i64 i),.v (.int .i64 h)]
def asZ(l:List UInt8)(Q:AV→Prop):AV→List Ob→List Ob→Prop:=fun r hs bs=>hs=[]∧Q r∧∃i h:Int,(0≤i∧i≤l.length)∧bs=[.own 0 [.sl l.length (qa l),.v (.int .i64 i),.v (.int .i64 h)]]
section
variable {P:Program}{N f c:Nat}{aa0 args:List AV}{hp:Nat→Ob}{K:KV}{Q:AV→Prop}{e:Nat→AV}{l:List UInt8}{i h:Int}
end
def as1(l:List UInt8)(xs:List Int)(Q:AV→Prop):AV→List Ob→List Ob→Prop:=fun r hs bs=>hs=[]∧Q r∧∃i h:Int,(0≤i∧i≤l.length)∧bs=[.own 0 [.sl l.length (qa l),.v (.int .i64 i),.v (.int .i64 h)],.own 1 (qc xs)]
section
variable {P:Program}{N f c:Nat}{aa0 args:List AV}{hp:Nat→Ob}{K:KV}{Q:AV→Prop}{e:Nat→AV}{l:List UInt8}{i h:Int}
end
section
variable (l:List UInt8)(hl:l.length≤9223372036854775807)(i h:Int)(hi:0≤i∧i≤l.length)
include hl hi
end
end Go.Ab
namespace Go.Ab
open Go Go.Proofs
section
variable (l:List UInt8)(hl:l.length≤9223372036854775807)(i h:Int)(hi:0≤i∧i≤l.length)
include hl hi
end
end Go.Ab
namespace Go.Ab
open Go Go.Proofs
end Go.Ab
namespace Go.Ab
open Go Go.Proofs
end Go.Ab
namespace Go.Ab
open Go Go.Proofs
def awV(s:Bool)(m e:Int):FlV:=if m<9007199254740991 then⟨1,s,m+1,e⟩else if e<971 then⟨1,s,4503599627370496,e+1⟩else⟨2,s,0,0⟩
def toV(k:Int)(s:Bool)(m e:Int):FlV:=if k=2 then⟨1,s,9007199254740991,971⟩else if 4503599627370496<m∨(e= -1074∧1<m)then⟨k,s,m-1,e⟩else if-1074<e then⟨k,s,9007199254740991,e-1⟩else⟨0,s,0,0⟩
def nxV(k:Int)(s:Bool)(m e:Int):FlV:=if k=3∨(k=2∧s=false)then⟨k,s,m,e⟩else if k=0 then⟨1,false,1, -1074⟩else if s=true then toV k s m e else awV s m e
def ulE(k e:Int):Int:=if k=0 then-1074 else e
end Go.Ab
namespace Go.Ab
structure Adj(k:Int)(s:Bool)(m e:Int)(n:FlV)(t:Bool)(a:Nat)(E:Int):Prop where
 ha:a<2^53
 hf:2^52≤a∨E= -1074
 hE: -1074≤E∧E≤971
 ho:¬(a+1=2^53∧E=971)
 hu:E≤ulE k e
 lo:dv 1074 (xS k s) m.toNat e=dv 1074 t (if t=true then a+1 else a) E
 hi:dv 1074 (xS n.k n.s) n.m.toNat n.e=dv 1074 t (if t=true then a else a+1) E
theorem asE:ngS 1 false=true:=rfl
theorem asC:ngS 1 true=false:=rfl
theorem asD:ngS 2 false=true:=rfl
end Go.Ab
namespace Go.Ab
open Go Go.Proofs
def ary(ok:Bool):AV→List Ob→List Ob→Prop:=fun r hs bs=>hs=[]∧bs=[]∧∃(S:Bool) (M:Nat) (E:Int) (b:Bool),dyB S (lim M) E=true∧(ok=false→b=false)∧r=.tu [.ag [.v (.bool (S)),.sl (lim (M)).length (qc (lim (M))),.v (.int .i64 (E))],.v (.bool b)]
end Go.Ab
namespace Go.Ab
def ivM(s:Bool)(m:Nat)(e mode:Int):Nat:=roM s m e 0 mode*2^(roE m e 0).toNat
end Go.Ab
namespace Go.Ab
open Go Go.Proofs
end Go.Ab
namespace Go.Ab
open Go Go.Proofs
end Go.Ab
namespace Go.Ab
open Go Go.Proofs
def asP(k m:Int):Nat:=if k=1 then oM m.toNat else 0
def asQ(k m e:Int):Int:=if k=1 then oE m.toNat e else 0
def asO(k:Int)(s:Bool)(m:Int):Bool:=if k=1 then oS (s&&decide (m.toNat≠0)) m.toNat else false
end Go.Ab
namespace Go.Ab
open Go Go.Proofs
def arx:AV→List Ob→List Ob→Prop:=fun r hs bs=>hs=[]∧bs=[]∧∃x:FlV,r=.ag x.cs
section
variable (l:List UInt8)(hl:l.length≤9223372036854775807)(i h:Int)(hi:0≤i∧i≤l.length)
include hl hi
end
end Go.Ab
namespace Go.Ab
open Go Go.Proofs
section
variable (l:List UInt8)(hl:l.length≤9223372036854775807)(i h:Int)(hi:0≤i∧i≤l.length)
include hl hi
end
end Go.Ab
namespace Go.Ab
open Go
end Go.Ab
namespace Go.Ab
open Go Go.Proofs
end Go.Ab
namespace Go.Ab
open Go Go.Proofs
end Go.Ab
namespace Go.Ab
open Go Go.Proofs
section
variable (l:List UInt8)(hl:l.length≤9223372036854775807)(i h:Int)(hi:0≤i∧i≤l.length)
include hl hi
end
end Go.Ab
namespace Go.Ab
open Go Go.Proofs
end Go.Ab
namespace Go.Ab
open Go Go.Proofs
end Go.Ab
namespace Go.Ab
open Go Go.Proofs
end Go.Ab
namespace Go.Ab
open Go Go.Proofs
end Go.Ab
namespace Go.Ab
open Go Go.Proofs
end Go.Ab
namespace Go.Ab
open Go Go.Proofs
def asv(r:AV)(hs:List Ob)(xs:List Int):Prop:=(xs=[]∧r=.ag [.v (.slice none 0 0)]∧hs=[])∨∃zs,r=.ag [.rf 0 0 xs.length]∧hs=[.own 1 (qc (xs++zs))]
section
variable (l:List UInt8)(hl:l.length≤9223372036854775807)(i h:Int)(hi:0≤i∧i≤l.length)
include hl hi
omit hi hl in
omit hi hl in
omit hi hl in
omit hi hl in
omit hi hl in
end
end Go.Ab
namespace Go.Ab
open Go Go.Proofs
section
variable (l:List UInt8)(hl:l.length≤9223372036854775807)(i h:Int)(hi:0≤i∧i≤l.length)
include hl hi
def asI(r:AV):Prop:=∃(n:Int) (l:List DyV),l.length≤16∧(∀d∈l,d.xs.length≤200)∧r=.ag [.v (.int .i64 n),.sl l.length (qy DyV.cs l)]
omit hl hi in
omit hl hi in
def asi(n:Nat)(r:AV)(hs:List Ob):Prop:=∃(k:Int) (M:List DyV) (o m:Nat),M.length=o+m∧o≤1∧M.length=n*n∧(∀d∈M,d.xs.length≤200)∧r=.ag [.v (.int .i64 k),.rf 0 (o*3) m]∧hs=[.own 3 (qy DyV.cs M)]
end
end Go.Ab
namespace Go.Ab
open Go Go.Proofs
/-! ### Minors and determinants-/
def mnC(n:Nat)(l:List ExV)(r c i:Nat):Nat→List ExV
 |0=>[]
 |j+1=>if i≠r∧j≠c then mnC n l r c i j++[l.getD (i*n+j) ex0]else mnC n l r c i j
def mnR(n:Nat)(l:List ExV)(r c:Nat):Nat→List ExV
 |0=>[]
 |i+1=>mnR n l r c i++mnC n l r c i n
def ExV.sgn(x:ExV)(k:Nat):ExV:=if k % 2=1 then x.neg else x
def aq6:Nat→List ExV→ExV
 |0,_=>ex1
 |n+1,l=>(List.range (n+1)).foldl (fun s j=>s.plus (((l.getD (0*(n+1)+j) ex0).times (aq6 n (mnR (n+1) l 0 j (n+1)))).sgn j)) ex0
end Go.Ab
namespace Go.Ab
open Go Go.Proofs
def ar2(x y:ExV):ExV:=if x.val 3000≤y.val 3000 then x else y
def arT(x y:ExV):ExV:=if y.val 3000≤x.val 3000 then x else y
section
variable (l:List UInt8)(hl:l.length≤9223372036854775807)(i h:Int)(hi:0≤i∧i≤l.length)
include hl hi
end
end Go.Ab
namespace Go.Ab
open Go Go.Proofs
/-! ### Rounding down and up-/
def rnF(s:Bool)(a b:Nat)(low mode:Int):FlV:=⟨flK s mode (rq s a b mode) low,s,aqi s mode (rq s a b mode) low,aqj s mode (rq s a b mode) low⟩
def upQ(a b:Nat):Nat:=if a % b=0 then a/b else a/b+1
def isN(F:FlV):Bool:=decide (F.k=0)||decide (F.k=1)
def rqB(s:Bool)(a b:Nat)(low mode:Int):Prop:=rq s a b mode≠0∧1024<(bl (rq s a b mode):Int)+low
end Go.Ab
namespace Go.Ab
def stk(A B:Nat):Nat:=2*(A/B)+(if A % B=0 then 0 else 1)
end Go.Ab
namespace Go.Ab
def rtB(a:Nat):Nat→Nat
 |0=>0
 |n+1=>if(n+1)*(n+1)≤a then n+1 else rtB a n
def rt(a:Nat):Nat:=rtB a a
end Go.Ab
namespace Go.Ab
open Go Go.Proofs
end Go.Ab
namespace Go.Ab
open Go Go.Proofs
/-! ### A root,rounded-/
def stR(A S:Nat):Nat:=rt (A/S)*4+(if rt (A/S)*rt (A/S)*S=A then 0 else if A*4<(2*rt (A/S)+1)*(2*rt (A/S)+1)*S then 1 else if A*4=(2*rt (A/S)+1)*(2*rt (A/S)+1)*S then 2 else 3)
end Go.Ab
namespace Go.Ab
open Go Go.Proofs
def sqT(m:Nat)(e:Int):Int:=((bl m:Int)+e+1)/2
def sqL(m:Nat)(e:Int):Int:=y7 (sqT m e)
def sqA(m:Nat)(e low:Int):Nat:=stR (ovA m (e-2*low)) (2^(-(e-2*low)).toNat)
def sqV(k:Int)(s:Bool)(m e mode:Int):FlV:=
 if k=3∨k=0 then⟨k,s,m,e⟩else if s=true then⟨3,false,0,0⟩else if k=2 then⟨k,s,m,e⟩else
  ⟨flK false mode (rq false (sqA m.toNat e (sqL m.toNat e)) 4 mode) (sqL m.toNat e),false,aqi false mode (rq false (sqA m.toNat e (sqL m.toNat e)) 4 mode) (sqL m.toNat e),aqj false mode (rq false (sqA m.toNat e (sqL m.toNat e)) 4 mode) (sqL m.toNat e)⟩
def sqG(k:Int)(s:Bool)(m e mode:Int):Int:=
 if k=3∨k=0 then 0 else if s=true then 16 else if k=2 then 0 else
  aq3 (sqT m.toNat e) (decide (sqA m.toNat e (sqL m.toNat e) % 4=0)) (rq false (sqA m.toNat e (sqL m.toNat e)) 4 mode) (sqL m.toNat e)
end Go.Ab
namespace Go.Ab
open Go Go.Proofs
def rtE(x:ExV)(low md:Int):ExV:=⟨false,rq false (sqA x.m x.e low) 4 md,low⟩
def asL(n:Int):Bool:=decide (-3000≤n)&&decide (n≤3000)
end Go.Ab
namespace Go.Ab
open Go Go.Proofs
end Go.Ab
namespace Go.Ab
open Go Go.Proofs
def rkI:Bool→Nat
 |false=>0
 |true=>1
def rkH(x:ExV):Bool→List (Nat×Ob)
 |false=>[(3,.own 1 [.v (.slice none 0 0)])]
 |true=>[(3,.own 1 [.rf 5 0 1]),(5,.own 3 [.v (.bool x.s),.sl (lim x.m).length (qc (lim x.m)),.v (.int .i64 x.e)])]
def ex5:ExV:=⟨false,5,0⟩
end Go.Ab
namespace Go.Ab
open Go Go.Proofs
def asM(M:List DyV):Prop:=M.length≤16∧∀d∈M,d.xs.length≤200
end Go.Ab
namespace Go.Ab
open Go Go.Proofs
end Go.Ab
namespace Go.Ab
open Go Go.Proofs
/-! ### Matrices that were told,or not-/
def asz(n N:Nat)(T:List ExV):Prop:=(N=n∧matV n T)∨(N=0∧T=[])
def asA(M:List DyV):Prop:=M.length≤16∧∀d∈M,d.xs.length≤200
end Go.Ab
namespace Go.Ab
/-! ### Determinants of integers-/
def sgI(k:Nat):Int:=if k % 2=1 then-1 else 1
def skp(r i:Nat):Nat:=if i<r then i else i+1
def V8(A:Nat→Nat→Int)(r c:Nat):Nat→Nat→Int:=fun i j=>A (skp r i) (skp c j)
def zB:Nat→(Nat→Nat→Int)→Int
 |0,_=>1
 |n+1,A=>qn (fun j=>sgI j*(A 0 j*zB n (V8 A 0 j))) (n+1)
theorem aci(A:Nat→Nat→Int):zB 1 A=A 0 0:=by
 simp[zB,qn,sgI]
theorem Kc(A:Nat→Nat→Int):zB 2 A=A 0 0*A 1 1-A 0 1*A 1 0:=by
 simp[zB,qn,sgI,V8,skp];omega
theorem Kb(A:Nat→Nat→Int):zB 3 A=A 0 0*(A 1 1*A 2 2-A 1 2*A 2 1)-A 0 1*(A 1 0*A 2 2-A 1 2*A 2 0)+A 0 2*(A 1 0*A 2 1-A 1 1*A 2 0):=by
 rw[zB]
 simp only[Kc,qn,sgI,V8,skp]
 simp
 omega
theorem af1(A:Nat→Nat→Int):zB 4 A=(A 0 0*A 1 1-A 0 1*A 1 0)*(A 2 2*A 3 3-A 2 3*A 3 2)-(A 0 0*A 1 2-A 0 2*A 1 0)*(A 2 1*A 3 3-A 2 3*A 3 1)
  +(A 0 0*A 1 3-A 0 3*A 1 0)*(A 2 1*A 3 2-A 2 2*A 3 1)+(A 0 1*A 1 2-A 0 2*A 1 1)*(A 2 0*A 3 3-A 2 3*A 3 0)
  -(A 0 1*A 1 3-A 0 3*A 1 1)*(A 2 0*A 3 2-A 2 2*A 3 0)+(A 0 2*A 1 3-A 0 3*A 1 2)*(A 2 0*A 3 1-A 2 1*A 3 0):=by
 rw[zB]
 simp only[Kb,qn,sgI,V8,skp]
 simp
 grind
end Go.Ab
namespace Go.Ab
theorem aeP{n:Nat}(hn:n≤4)(A:Nat→Nat→Int):zB n (fun i j=>A j i)=zB n A:=by
 rcases(show n=0∨n=1∨n=2∨n=3∨n=4 by omega)with rfl|rfl|rfl|rfl|rfl
 ·rfl
 ·rw[aci,aci]
 ·rw[Kc,Kc];grind
 ·rw[Kb,Kb];grind
 ·rw[af1,af1];grind
theorem jk:∀{n:Nat} {A B:Nat→Nat→Int},(∀i j,i<n→j<n→A i j=B i j)→zB n A=zB n B
 |0,_,_,_=>rfl
 |n+1,A,B,h=>by
  rw[zB,zB]
  refine qv fun j hj=>?_
  rw[h 0 j (by omega) hj,jk (n:=n) (A:=V8 A 0 j) (B:=V8 B 0 j) fun i k hi hk=>?_]
  unfold V8 skp
  exact h _ _ (by split<;>omega) (by split<;>omega)
def m2(A:Nat→Nat→Int)(r s c d:Nat):Int:=A r c*A s d-A r d*A s c
theorem JB(A:Nat→Nat→Int):zB 4 A=m2 A 0 1 0 1*m2 A 2 3 2 3-m2 A 0 1 0 2*m2 A 2 3 1 3+m2 A 0 1 0 3*m2 A 2 3 1 2+m2 A 0 1 1 2*m2 A 2 3 0 3-m2 A 0 1 1 3*m2 A 2 3 0 2+m2 A 0 1 2 3*m2 A 2 3 0 1:=af1 A
def zZ(n:Nat)(A B:Nat→Nat→Int):Nat→Nat→Int:=fun i j=>qn (fun t=>A i t*B t j) n
theorem aqR(A B:Nat→Nat→Int)(i j:Nat):zZ 4 A B i j=A i 0*B 0 j+A i 1*B 1 j+A i 2*B 2 j+A i 3*B 3 j:=by
 simp[zZ,qn]
theorem aqS(A B:Nat→Nat→Int)(i j:Nat):zZ 3 A B i j=A i 0*B 0 j+A i 1*B 1 j+A i 2*B 2 j:=by
 simp[zZ,qn]
theorem aqT(A B:Nat→Nat→Int)(i j:Nat):zZ 2 A B i j=A i 0*B 0 j+A i 1*B 1 j:=by
 simp[zZ,qn]
theorem aqU(A B:Nat→Nat→Int)(i j:Nat):zZ 1 A B i j=A i 0*B 0 j:=by
 simp[zZ,qn]
theorem amw(A B:Nat→Nat→Int)(r s c d:Nat):m2 (zZ 4 A B) r s c d=m2 A r s 0 1*m2 B 0 1 c d+m2 A r s 0 2*m2 B 0 2 c d+m2 A r s 0 3*m2 B 0 3 c d+m2 A r s 1 2*m2 B 1 2 c d+m2 A r s 1 3*m2 B 1 3 c d+m2 A r s 2 3*m2 B 2 3 c d:=by
 simp only[m2,aqR]
 grind
def q4(B:Nat→Nat→Int)(p q r s:Nat):Int:=m2 B p q 0 1*m2 B r s 2 3-m2 B p q 0 2*m2 B r s 1 3+m2 B p q 0 3*m2 B r s 1 2+m2 B p q 1 2*m2 B r s 0 3-m2 B p q 1 3*m2 B r s 0 2+m2 B p q 2 3*m2 B r s 0 1
theorem jS(B:Nat→Nat→Int)(p q s:Nat):q4 B p q p s=0:=by unfold q4 m2;grind
theorem ads(B:Nat→Nat→Int)(p q r:Nat):q4 B p q r p=0:=by unfold q4 m2;grind
theorem adr(B:Nat→Nat→Int)(p q s:Nat):q4 B p q q s=0:=by unfold q4 m2;grind
theorem Z9(B:Nat→Nat→Int)(p q r:Nat):q4 B p q r q=0:=by unfold q4 m2;grind
theorem arG(B:Nat→Nat→Int):q4 B 0 1 2 3=zB 4 B:=(JB B).symm
theorem arF(B:Nat→Nat→Int):q4 B 0 2 1 3= -zB 4 B:=by rw[JB];unfold q4 m2;grind
theorem arE(B:Nat→Nat→Int):q4 B 0 3 1 2=zB 4 B:=by rw[JB];unfold q4 m2;grind
theorem arD(B:Nat→Nat→Int):q4 B 1 2 0 3=zB 4 B:=by rw[JB];unfold q4 m2;grind
theorem arC(B:Nat→Nat→Int):q4 B 1 3 0 2= -zB 4 B:=by rw[JB];unfold q4 m2;grind
theorem arB(B:Nat→Nat→Int):q4 B 2 3 0 1=zB 4 B:=by rw[JB];unfold q4 m2;grind
theorem abj(A B:Nat→Nat→Int):zB 4 (zZ 4 A B)=m2 A 0 1 0 1*m2 A 2 3 0 1*q4 B 0 1 0 1+m2 A 0 1 0 1*m2 A 2 3 0 2*q4 B 0 1 0 2+m2 A 0 1 0 1*m2 A 2 3 0 3*q4 B 0 1 0 3+m2 A 0 1 0 1*m2 A 2 3 1 2*q4 B 0 1 1 2+m2 A 0 1 0 1*m2 A 2 3 1 3*q4 B 0 1 1 3+m2 A 0 1 0 1*m2 A 2 3 2 3*q4 B 0 1 2 3+m2 A 0 1 0 2*m2 A 2 3 0 1*q4 B 0 2 0 1+m2 A 0 1 0 2*m2 A 2 3 0 2*q4 B 0 2 0 2+m2 A 0 1 0 2*m2 A 2 3 0 3*q4 B 0 2 0 3+m2 A 0 1 0 2*m2 A 2 3 1 2*q4 B 0 2 1 2+m2 A 0 1 0 2*m2 A 2 3 1 3*q4 B 0 2 1 3+m2 A 0 1 0 2*m2 A 2 3 2 3*q4 B 0 2 2 3+m2 A 0 1 0 3*m2 A 2 3 0 1*q4 B 0 3 0 1+m2 A 0 1 0 3*m2 A 2 3 0 2*q4 B 0 3 0 2+m2 A 0 1 0 3*m2 A 2 3 0 3*q4 B 0 3 0 3+m2 A 0 1 0 3*m2 A 2 3 1 2*q4 B 0 3 1 2+m2 A 0 1 0 3*m2 A 2 3 1 3*q4 B 0 3 1 3+m2 A 0 1 0 3*m2 A 2 3 2 3*q4 B 0 3 2 3+m2 A 0 1 1 2*m2 A 2 3 0 1*q4 B 1 2 0 1+m2 A 0 1 1 2*m2 A 2 3 0 2*q4 B 1 2 0 2+m2 A 0 1 1 2*m2 A 2 3 0 3*q4 B 1 2 0 3+m2 A 0 1 1 2*m2 A 2 3 1 2*q4 B 1 2 1 2+m2 A 0 1 1 2*m2 A 2 3 1 3*q4 B 1 2 1 3+m2 A 0 1 1 2*m2 A 2 3 2 3*q4 B 1 2 2 3+m2 A 0 1 1 3*m2 A 2 3 0 1*q4 B 1 3 0 1+m2 A 0 1 1 3*m2 A 2 3 0 2*q4 B 1 3 0 2+m2 A 0 1 1 3*m2 A 2 3 0 3*q4 B 1 3 0 3+m2 A 0 1 1 3*m2 A 2 3 1 2*q4 B 1 3 1 2+m2 A 0 1 1 3*m2 A 2 3 1 3*q4 B 1 3 1 3+m2 A 0 1 1 3*m2 A 2 3 2 3*q4 B 1 3 2 3+m2 A 0 1 2 3*m2 A 2 3 0 1*q4 B 2 3 0 1+m2 A 0 1 2 3*m2 A 2 3 0 2*q4 B 2 3 0 2+m2 A 0 1 2 3*m2 A 2 3 0 3*q4 B 2 3 0 3+m2 A 0 1 2 3*m2 A 2 3 1 2*q4 B 2 3 1 2+m2 A 0 1 2 3*m2 A 2 3 1 3*q4 B 2 3 1 3+m2 A 0 1 2 3*m2 A 2 3 2 3*q4 B 2 3 2 3:=by
 rw[JB]
 simp only[amw]
 simp only[q4]
 grind
theorem aeR(A B:Nat→Nat→Int):zB 4 (zZ 4 A B)=zB 4 A*zB 4 B:=by
 rw[abj]
 rw[jS B 0 1 1,jS B 0 1 2,jS B 0 1 3,adr B 0 1 2,adr B 0 1 3,jS B 0 2 1,jS B 0 2 2,jS B 0 2 3,Z9 B 0 2 1,adr B 0 2 3,jS B 0 3 1,jS B 0 3 2,jS B 0 3 3,Z9 B 0 3 1,Z9 B 0 3 2,ads B 1 2 0,Z9 B 1 2 0,jS B 1 2 2,jS B 1 2 3,adr B 1 2 3,ads B 1 3 0,Z9 B 1 3 0,jS B 1 3 2,jS B 1 3 3,Z9 B 1 3 2,ads B 2 3 0,Z9 B 2 3 0,ads B 2 3 1,Z9 B 2 3 1,jS B 2 3 3]
 rw[arG,arF,arE,arD,arC,arB,JB A]
 grind
theorem Qb{n:Nat}(hn:n≤4)(A B:Nat→Nat→Int):zB n (zZ n A B)=zB n A*zB n B:=by
 rcases(show n=0∨n=1∨n=2∨n=3∨n=4 by omega)with rfl|rfl|rfl|rfl|rfl
 ·rfl
 ·rw[aci,aci,aci,aqU]
 ·rw[Kc,Kc,Kc];simp only[aqT];grind
 ·rw[Kb,Kb,Kb];simp only[aqS];grind
 ·exact aeR A B
end Go.Ab
namespace Go.Ab
def akL(n:Nat)(A:Nat→Nat→Int)(k j:Nat):Int:=sgI (k+j)*zB (n-1) (V8 A j k)
theorem ako{n:Nat}(hn:n≤4)(A:Nat→Nat→Int){i j:Nat}(hi:i<n)(hj:j<n):zZ n A (akL n A) i j=if i=j then zB n A else 0:=by
 rcases(show n=1∨n=2∨n=3∨n=4 by omega)with rfl|rfl|rfl|rfl
 ·obtain rfl:i=0:=by omega
  obtain rfl:j=0:=by omega
  rw[aqU,aci,if_pos rfl]
  simp[akL,sgI,zB]
 ·simp only[aqT,akL,Kc,show 2-1=1 from rfl,aci]
  rcases(show i=0∨i=1 by omega)with rfl|rfl<;>rcases(show j=0∨j=1 by omega)with rfl|rfl<;>(simp[sgI,V8,skp];try grind)
 ·simp only[aqS,akL,Kb,show 3-1=2 from rfl,Kc]
  rcases(show i=0∨i=1∨i=2 by omega)with rfl|rfl|rfl<;>rcases(show j=0∨j=1∨j=2 by omega)with rfl|rfl|rfl<;>(simp[sgI,V8,skp];try grind)
 ·simp only[aqR,akL,af1,show 4-1=3 from rfl,Kb]
  rcases(show i=0∨i=1∨i=2∨i=3 by omega)with rfl|rfl|rfl|rfl<;>rcases(show j=0∨j=1∨j=2∨j=3 by omega)with rfl|rfl|rfl|rfl<;>(simp[sgI,V8,skp];try grind)
end Go.Ab
namespace Go.Ab
open Go Go.Proofs
/-! ### What determinants are worth-/
end Go.Ab
namespace Go.Ab
open Go Go.Proofs
/-! ### Turned matrices-/
def ar9(n:Nat)(l:List ExV):List ExV:=gl n (fun i j=>l.getD (j*n+i) ex0) (n*n)
end Go.Ab
namespace Go.Ab
open Go Go.Proofs
/-! ### Adjugates and minors-/
def asn(n:Nat)(l:List ExV)(a b:Nat):ExV:=(aq6 (n-1) (mnR n l b a n)).sgn (b+a)
def asU(n:Nat)(l:List ExV):List ExV:=gl n (asn n l) (n*n)
end Go.Ab
namespace Go.Ab
open Go Go.Proofs
section
variable (l:List UInt8)(hl:l.length≤9223372036854775807)(i h:Int)(hi:0≤i∧i≤l.length)
include hl hi
def arZ(r:AV):Prop:=∃L:List DyV,L.length≤101∧(∀d∈L,d.xs.length≤200)∧r=.sl L.length (qy DyV.cs L)
end
end Go.Ab
namespace Go.Ab
open Go Go.Proofs
/-! ### Polynomials of a matrix-/
def aqQ(n:Nat)(L:List ExV):Nat→List ExV
 |0=>gId n
 |k+1=>amH n (aqQ n L k) L
def arv(n:Nat)(L p:List ExV):Nat→List ExV
 |0=>y6 n (gId n) ex0
 |k+1=>aoT n (arv n L p k) (y6 n (aqQ n L k) (p.getD k ex0))
end Go.Ab
namespace Go.Ab
def idI(i j:Nat):Int:=if i=j then 1 else 0
def aoE(n:Nat)(A:Nat→Nat→Int):Nat→Nat→Nat→Int
 |0=>idI
 |k+1=>zZ n (aoE n A k) A
def pm3(A:Nat→Nat→Int)(r:Nat):Int:=zB 3 (V8 A r r)
end Go.Ab
namespace Go.Ab
/-! ### Ranks-/
theorem yM{f:Nat→Int}{k:Nat}:∀{m:Nat},k≤m→(∀i,k≤i→f i=0)→qn f m=qn f k
 |0,h,_=>by
  obtain rfl:k=0:=by omega
  rfl
 |m+1,h,hz=>by
  by_cases e:k=m+1
  ·rw[e]
  ·rw[qn,yM (by omega) hz,hz m (by omega),Int.add_zero]
def X5(n k:Nat)(A:Nat→Nat→Int):Prop:=∃(c:Int) (B C:Nat→Nat→Int),c≠0∧∀i j,i<n→j<n→c*A i j=qn (fun t=>B i t*C t j) k
theorem j7{n k:Nat}{A A':Nat→Nat→Int}(h:∀i j,i<n→j<n→A i j=A' i j):X5 n k A→X5 n k A'
 |⟨c,B,C,h0,h1⟩=>⟨c,B,C,h0,fun i j hi hj=>by rw[←h i j hi hj];exact h1 i j hi hj⟩
theorem Z0{n k:Nat}{A:Nat→Nat→Int}:X5 n k A→X5 n k (fun i j=>A j i)
 |⟨c,B,C,h0,h1⟩=>⟨c,fun i t=>C t i,fun t j=>B j t,h0,fun i j hi hj=>by
  rw[h1 j i hj hi];exact qv fun t _=>Int.mul_comm _ _⟩
theorem Zg(n k:Nat)(f:Nat→Int)(g:Nat→Nat→Int)(h:Nat→Int):qn (fun s=>qn (fun t=>f t*g t s) k*h s) n=qn (fun t=>f t*qn (fun s=>g t s*h s) n) k:=by
 have e1:qn (fun s=>qn (fun t=>f t*g t s) k*h s) n=qn (fun s=>qn (fun t=>f t*(g t s*h s)) k) n:=
  qv fun s _=>by rw[←QI];exact qv fun t _=>Int.mul_assoc _ _ _
 have e2:qn (fun t=>f t*qn (fun s=>g t s*h s) n) k=qn (fun t=>qn (fun s=>f t*(g t s*h s)) n) k:=
  qv fun t _=>by rw[←jp]
 rw[e1,e2,QJ]
theorem KJ{n k:Nat}{A:Nat→Nat→Int}(D:Nat→Nat→Int):X5 n k A→X5 n k (zZ n A D)
 |⟨c,B,C,h0,h1⟩=>⟨c,B,zZ n C D,h0,fun i j hi hj=>by
  show c*qn (fun t=>A i t*D t j) n=qn (fun t=>B i t*qn (fun s=>C t s*D s j) n) k
  rw[←Zg,←jp]
  exact qv fun s hs=>by rw[←h1 i s hi hs,Int.mul_assoc]⟩
theorem Z1{n k:Nat}{A:Nat→Nat→Int}(D:Nat→Nat→Int):X5 n k A→X5 n k (zZ n D A)
 |⟨c,B,C,h0,h1⟩=>⟨c,zZ n D B,C,h0,fun i j hi hj=>by
  show c*qn (fun t=>D i t*A t j) n=qn (fun t=>qn (fun s=>D i s*B s t) n*C t j) k
  rw[Zg,←jp]
  exact qv fun s hs=>by rw[←h1 s j hs hj,Int.mul_left_comm]⟩
def dgI(c:Int)(i j:Nat):Int:=if i=j then c else 0
theorem amr{n:Nat}(c:Int)(A:Nat→Nat→Int){i j:Nat}(hi:i<n):zZ n (dgI c) A i j=c*A i j:=by
 unfold zZ
 rw[zE (j:=i) hi (fun t _ hne=>by unfold dgI;rw[if_neg (fun h=>hne h.symm),Int.zero_mul])]
 unfold dgI;rw[if_pos rfl]
theorem ans{n:Nat}(hn:n≤4){c:Int}(hc:c≠0):zB n (dgI c)≠0:=by
 rcases(show n=0∨n=1∨n=2∨n=3∨n=4 by omega)with rfl|rfl|rfl|rfl|rfl
 ·intro h;cases h
 ·rw[aci];simp[dgI,hc]
 ·rw[Kc];simp[dgI,hc]
 ·rw[Kb];simp[dgI,hc]
 ·rw[af1];simp[dgI,hc]
theorem aeQ{n:Nat}(hn:n≤4)(h1:1≤n){A:Nat→Nat→Int}(h:∀i,A i (n-1)=0):zB n A=0:=by
 rcases(show n=1∨n=2∨n=3∨n=4 by omega)with rfl|rfl|rfl|rfl
 ·have:=h 0
  rw[aci];simpa using this
 ·have h:∀i,A i 1=0:=h
  rw[Kc];simp[h]
 ·have h:∀i,A i 2=0:=h
  rw[Kb];simp[h]
 ·have h:∀i,A i 3=0:=h
  rw[af1];simp[h]
theorem acX{n k:Nat}(hn:n≤4)(hk:k<n){A:Nat→Nat→Int}:X5 n k A→zB n A=0
 |⟨c,B,C,h0,h1⟩=>by
  have e:zB n (zZ n (dgI c) A)=zB n (zZ n (fun i t=>if t<k then B i t else 0) C):=jk fun i j hi hj=>by
   rw[amr c A hi,h1 i j hi hj]
   show _=qn (fun t=>(if t<k then B i t else 0)*C t j) n
   rw[yM (f:=fun t=>(if t<k then B i t else 0)*C t j) (k:=k) (by omega) (fun t ht=>by rw[if_neg (by omega),Int.zero_mul])]
   exact qv fun t ht=>by rw[if_pos ht]
  rw[Qb hn,Qb hn,aeQ hn (by omega) (A:=fun i t=>if t<k then B i t else 0) (fun i=>if_neg (by omega)),Int.zero_mul]at e
  exact(Int.mul_eq_zero.1 e).resolve_left (ans hn h0)
theorem abh{r:Nat}(hr:r≤4){T:Nat→Nat→Int}(hd:∀t,t<r→T t t≠0)(hz:∀s t,t<s→s<r→T s t=0):zB r T≠0:=by
 rcases(show r=0∨r=1∨r=2∨r=3∨r=4 by omega)with rfl|rfl|rfl|rfl|rfl
 ·intro h;cases h
 ·rw[aci];exact hd 0 (by omega)
 ·rw[Kc,hz 1 0 (by omega) (by omega)]
  simp[hd 0 (by omega),hd 1 (by omega)]
 ·rw[Kb,hz 1 0 (by omega) (by omega),hz 2 0 (by omega) (by omega),hz 2 1 (by omega) (by omega)]
  simp[hd 0 (by omega),hd 1 (by omega),hd 2 (by omega)]
 ·rw[af1,hz 1 0 (by omega) (by omega),hz 2 0 (by omega) (by omega),hz 2 1 (by omega) (by omega),hz 3 0 (by omega) (by omega),hz 3 1 (by omega) (by omega),hz 3 2 (by omega) (by omega)]
  simp[hd 0 (by omega),hd 1 (by omega),hd 2 (by omega),hd 3 (by omega)]
structure isRank(n:Nat)(A:Nat→Nat→Int)(r:Nat):Prop where
 le:r≤n
 up:X5 n r A
 low:∀k,X5 n k A→r≤k
 full:r=n→zB n A≠0
theorem isRank.turn{n r s:Nat}{A:Nat→Nat→Int}(h:isRank n A r)(g:isRank n (fun i j=>A j i) s):s=r:=
 Nat.le_antisymm (g.low r (Z0 h.up)) (h.low s (Z0 g.up))
theorem isRank.congr{n r:Nat}{A B:Nat→Nat→Int}(h:isRank n A r)(e:∀i j,i<n→j<n→A i j=B i j):isRank n B r:=
 ⟨h.le,j7 e h.up,fun k hk=>h.low k (j7 (fun i j hi hj=>(e i j hi hj).symm) hk),fun hr=>by rw[←jk e];exact h.full hr⟩
theorem isRank.mul{n r s t:Nat}{A B:Nat→Nat→Int}(h:isRank n A r)(g:isRank n B s)(p:isRank n (zZ n A B) t):t≤r∧t≤s:=
 ⟨p.low r (KJ B h.up),p.low s (Z1 A g.up)⟩
structure elim(n:Nat)(A C:Nat→Nat→Int)(r j:Nat):Prop where
 le:r≤n
 rj:r≤j
 u:∃U:Nat→Nat→Int,zB n U≠0∧∀i k,i<n→k<n→C i k=zZ n U A i k
 p:∃p:Nat→Nat,∀t,t<r→p t<j∧p t<n∧C t (p t)≠0∧∀s,t<s→s<n→C s (p t)=0
 z:∀i k,r≤i→i<n→k<j→k<n→C i k=0
theorem QT(n:Nat)(A B C:Nat→Nat→Int)(i j:Nat):zZ n (zZ n A B) C i j=zZ n A (zZ n B C) i j:=
 Zg n n (fun t=>A i t) B (fun s=>C s j)
theorem elim.rank{n:Nat}(hn:n≤4){A C:Nat→Nat→Int}{r:Nat}(h:elim n A C r n):isRank n A r:=by
 obtain⟨hle, -,⟨U,hU,hC⟩,⟨p,hp⟩,hz⟩:=h
 have lowC:∀k,X5 n k C→r≤k:=fun k hk=>by
  rcases Nat.lt_or_ge k r with g|g
  ·exfalso
   obtain⟨c,B,D,h0,h1⟩:=hk
   have ht:X5 r k (fun s t=>C s (p t)):=⟨c,B,fun u t=>D u (p t),h0,fun s t hs ht=>h1 s (p t) (by omega) (hp t ht).2.1⟩
   exact abh (by omega) (fun t ht=>(hp t ht).2.2.1) (fun s t hst hs=>(hp t (by omega)).2.2.2 s hst (by omega)) (acX (by omega) g ht)
  ·exact g
 refine⟨hle,?_,fun k hk=>lowC k (j7 (fun i j hi hj=>(hC i j hi hj).symm) (Z1 U hk)),fun hr hd=>?_⟩
 ·
  obtain⟨V,hV⟩:∃V:Nat→Nat→Int,∀i j,i<n→j<n→zZ n V U i j=if i=j then zB n U else 0:=by
   refine⟨fun i j=>akL n (fun a b=>U b a) j i,fun i j hi hj=>?_⟩
   have:=ako hn (fun a b=>U b a) hj hi
   rw[aeP hn]at this
   have e2:(if i=j then zB n U else 0)=if j=i then zB n U else 0:=by
    by_cases e:i=j
    ·rw[if_pos e,if_pos e.symm]
    ·rw[if_neg e,if_neg (fun h=>e h.symm)]
   rw[e2,←this]
   exact qv fun t _=>Int.mul_comm _ _
  refine⟨zB n U,V,C,hU,fun i j hi hj=>?_⟩
  have e1:qn (fun t=>V i t*C t j) r=qn (fun t=>V i t*C t j) n:=by
   have:qn (fun t=>V i t*C t j) n=qn (fun t=>if t<r then V i t*C t j else 0) n:=qv fun t ht=>by
    by_cases g:t<r
    ·rw[if_pos g]
    ·rw[if_neg g,hz t j (by omega) ht hj hj,Int.mul_zero]
   rw[this,yM hle (fun t ht=>if_neg (by omega))]
   exact qv fun t ht=>by rw[if_pos ht]
  rw[e1]
  have e2:qn (fun t=>V i t*C t j) n=zZ n (zZ n V U) A i j:=by
   rw[QT]
   exact qv fun t ht=>by rw[hC t j ht hj]
  rw[e2]
  show _=qn (fun t=>zZ n V U i t*A t j) n
  rw[zE (j:=i) hi (fun t ht hne=>by rw[hV i t hi ht,if_neg (fun h=>hne h.symm),Int.zero_mul]),hV i i hi hi,if_pos rfl]
 ·subst hr
  have h1:zB r C=0:=by
   rw[jk hC,Qb hn,hd,Int.mul_zero]
  have h2:zB r (zZ r C (fun u t=>if u=p t then 1 else 0))=0:=by rw[Qb hn,h1,Int.zero_mul]
  refine abh hn (T:=fun s t=>C s (p t)) (fun t ht=>(hp t ht).2.2.1) (fun s t hst hs=>(hp t (by omega)).2.2.2 s hst (by omega)) ?_
  rw[←h2]
  refine jk fun i j hi hj=>?_
  show C i (p j)=qn (fun u=>C i u*(if u=p j then 1 else 0)) r
  rw[zE (j:=p j) (hp j hj).2.1 (fun t _ hne=>by rw[if_neg hne,Int.mul_zero]),if_pos rfl,Int.mul_one]
theorem elim.skip{n:Nat}{A C:Nat→Nat→Int}{r j:Nat}(h:elim n A C r j)(hz:∀i,r≤i→i<n→C i j=0):elim n A C r (j+1):=by
 obtain⟨h1,h2,h3,⟨p,hp⟩,h5⟩:=h
 refine⟨h1,by omega,h3,⟨p,fun t ht=>⟨by have:=(hp t ht).1;omega,(hp t ht).2⟩⟩,fun i k hi hin hk hkn=>?_⟩
 rcases(show k<j∨k=j by omega)with g|rfl
 ·exact h5 i k hi hin g hkn
 ·exact hz i hi hin
def swI(a b i:Nat):Nat:=if i=a then b else if i=b then a else i
theorem abi{n:Nat}(hn:n≤4){a r:Nat}(ha:a<n)(hr:r<n)(hne:a≠r)(p q:Int)(hp:p≠0):zB n (fun i j=>if i=a then(if j=a then p else if j=r then-q else 0)else if i=j then 1 else 0)≠0:=by
 rcases(show n=1∨n=2∨n=3∨n=4 by omega)with rfl|rfl|rfl|rfl
 ·omega
 ·rw[Kc]
  rcases(show a=0∨a=1 by omega)with rfl|rfl<;>rcases(show r=0∨r=1 by omega)with rfl|rfl<;>first|omega|simp[hp]
 ·rw[Kb]
  rcases(show a=0∨a=1∨a=2 by omega)with rfl|rfl|rfl<;>rcases(show r=0∨r=1∨r=2 by omega)with rfl|rfl|rfl<;>first|omega|simp[hp]
 ·rw[af1]
  rcases(show a=0∨a=1∨a=2∨a=3 by omega)with rfl|rfl|rfl|rfl<;>rcases(show r=0∨r=1∨r=2∨r=3 by omega)with rfl|rfl|rfl|rfl<;>first|omega|simp[hp]
structure elimR(n:Nat)(A C:Nat→Nat→Int)(r j m:Nat):Prop where
 rn:r<n
 rj:r≤j
 jn:j<n
 rm:r<m
 u:∃U:Nat→Nat→Int,zB n U≠0∧∀i k,i<n→k<n→C i k=zZ n U A i k
 p:∃p:Nat→Nat,∀t,t<r→p t<j∧p t<n∧C t (p t)≠0∧∀s,t<s→s<n→C s (p t)=0
 z:∀i k,r≤i→i<n→k<j→k<n→C i k=0
 pv:C r j≠0
 zm:∀i,r<i→i<m→i<n→C i j=0
theorem elim.pivot{n:Nat}{A C:Nat→Nat→Int}{r j:Nat}(h:elim n A C r j)(hr:r<n)(hj:j<n)(hp:C r j≠0):elimR n A C r j (r+1):=
 ⟨hr,h.rj,hj,by omega,h.u,h.p,h.z,hp,fun i h1 h2=>by omega⟩
theorem elimR.done{n:Nat}{A C:Nat→Nat→Int}{r j m:Nat}(h:elimR n A C r j m)(hm:n≤m):elim n A C (r+1) (j+1):=by
 obtain⟨h1,h2,h3,h4,h5,⟨p,hp⟩,h7,h8,h9⟩:=h
 refine⟨by omega,by omega,h5,⟨fun t=>if t=r then j else p t,fun t ht=>?_⟩,fun i k hi hin hk hkn=>?_⟩
 ·dsimp only
  by_cases e:t=r
  ·rw[if_pos e,e]
   exact⟨by omega,h3,h8,fun s hs hsn=>h9 s hs (by omega) hsn⟩
  ·rw[if_neg e]
   obtain⟨a,b,c,d⟩:=hp t (by omega)
   exact⟨by omega,b,c,d⟩
 ·rcases(show k<j∨k=j by omega)with g|rfl
  ·exact h7 i k (by omega) hin g hkn
  ·exact h9 i (by omega) (by omega) hin
theorem elimR.step{n:Nat}(hn:n≤4){A C C':Nat→Nat→Int}{r j m:Nat}(h:elimR n A C r j m)(hm:m<n)(h1:∀i k,i<n→k<n→i≠m→C' i k=C i k)(h2:∀k,k<n→C' m k=C m k*C r j-C r k*C m j):elimR n A C' r j (m+1):=by
 obtain⟨g1,g2,g3,g4,⟨U,hU,hC⟩,⟨p,hp⟩,g7,g8,g9⟩:=h
 refine⟨g1,g2,g3,by omega,⟨zZ n (fun i k=>if i=m then(if k=m then C r j else if k=r then-C m j else 0)else if i=k then 1 else 0) U,?_,fun i k hi hk=>?_⟩,⟨p,fun t ht=>?_⟩,fun i k hi hin hk hkn=>?_,?_,fun i hi him hin=>?_⟩
 ·rw[Qb hn]
  intro e
  rcases Int.mul_eq_zero.1 e with e|e
  ·exact abi hn hm g1 (by omega) (C r j) (C m j) g8 e
  ·exact hU e
 ·rw[QT]
  show C' i k=qn (fun t=>(if i=m then(if t=m then C r j else if t=r then-C m j else 0)else if i=t then 1 else 0)*zZ n U A t k) n
  by_cases e:i=m
  ·subst e
   have e2:qn (fun t=>(if i=i then(if t=i then C r j else if t=r then-C i j else 0)else if i=t then 1 else 0)*zZ n U A t k) n=qn (fun t=>(if t=i then C r j*C i k else 0)+(if t=r then-C i j*C r k else 0)) n:=qv fun t ht=>by
    rw[if_pos rfl,←hC t k ht hk]
    by_cases a:t=i
    ·rw[if_pos a,if_pos a,if_neg (show ¬t=r by omega),a,Int.add_zero]
    ·rw[if_neg a,if_neg a]
     by_cases b:t=r
     ·rw[if_pos b,if_pos b,b,Int.zero_add]
     ·rw[if_neg b,if_neg b,Int.zero_mul,Int.add_zero]
   rw[e2,yN,zE (j:=i) hi (fun t _ hne=>if_neg hne),zE (j:=r) g1 (fun t _ hne=>if_neg hne),if_pos rfl,if_pos rfl,h2 k hk,Int.mul_comm (C i k),Int.neg_mul,Int.mul_comm (C r k)]
   omega
  ·rw[zE (j:=i) hi (fun t _ hne=>by rw[if_neg e,if_neg (fun h=>hne h.symm),Int.zero_mul]),if_neg e,if_pos rfl,Int.one_mul,h1 i k hi hk e]
   exact hC i k hi hk
 ·obtain⟨a,b,c,d⟩:=hp t ht
  refine⟨a,b,?_,fun s hts hsn=>?_⟩
  ·rw[h1 t (p t) (by omega) b (by omega)];exact c
  ·by_cases e:s=m
   ·rw[e,h2 _ b,d m (by omega) hm,d r (by omega) g1];simp
   ·rw[h1 s _ hsn b e];exact d s hts hsn
 ·by_cases e:i=m
  ·rw[e,h2 k hkn,g7 m k (by omega) hm hk hkn,g7 r k (by omega) g1 hk hkn];simp
  ·rw[h1 i k hin hkn e];exact g7 i k hi hin hk hkn
 ·rw[h1 r j g1 g3 (by omega)];exact g8
 ·by_cases e:i=m
  ·rw[e,h2 j g3,Int.mul_comm];omega
  ·rw[h1 i j hin g3 e];exact g9 i hi (by omega) hin
end Go.Ab
namespace Go.Ab
/-! ### Sums of powers of a matrix,at one scale-/
def p2(k:Nat):Int:=2^k
def asy(n:Nat)(P:Nat→Int)(A:Nat→Nat→Int)(m i j:Nat):Int:=qn (fun t=>P t*aoE n A t i j*p2 (40000-3000*(t+1))) m
end Go.Ab
namespace Go.Ab
open Go Go.Proofs
/-! ### What polynomials of a matrix are worth-/
end Go.Ab
namespace Go.Ab
open Go Go.Proofs
/-! ### What rounded quotients are worth-/
end Go.Ab
namespace Go.Ab
end Go.Ab
namespace Go.Ab
open Go Go.Proofs
/-! ### Rational points of intervals-/
def SpV.eK(K:Nat)(s:SpV):Prop:= -(K:Int)≤s.lo.e∧ -(K:Int)≤s.hi.e
def inS(K:Nat)(s:SpV)(N D:Int):Prop:=s.lo.val K*D≤N∧N≤s.hi.val K*D
theorem ada{s:SpV}(h:s.ok=true):s.eK 3000∧s.lo.val 3000≤s.hi.val 3000∧s.lo.ok=true∧s.hi.ok=true:=by
 have h:(s.lo.ok&&(s.hi.ok&&decide (s.lo.val 3000≤s.hi.val 3000)))=true:=h
 simp only[Bool.and_eq_true,decide_eq_true_eq]at h
 exact⟨⟨(yT h.1).1.1,(yT h.2.1).1.1⟩,h.2.2,h.1,h.2.1⟩
end Go.Ab
namespace Go.Ab
open Go Go.Proofs
/-! ### Matrices of intervals-/
structure imatV(n:Nat)(S:List SpV):Prop where
 n1:1≤n
 n4:n≤4
 len:S.length=n*n
 ok:∀s∈S,s.ok=true
theorem imatV.bd{n:Nat}{S:List SpV}(h:imatV n S):sbd (-3000) 4600 S:=fun s hs=>aho (h.ok s hs)
def aqY(k:Int)(M:List IvV):Bool:=(decide (1≤k)&&decide (k≤4))&&(decide ((M.length:Int)=k*k)&&M.all ivB)
def fN(n:Nat)(l:List SpV):Nat:=if l.all SpV.fit=true then n else 0
def fT(l:List SpV):List SpV:=if l.all SpV.fit=true then l.map SpV.can else []
def as4(k:Int)(M:List IvV)(k':Int)(M':List IvV):Bool:=aqY k M&&(aqY k' M'&&decide (k=k'))
def asS(S:List SpV)(L:List ExV)(k:Nat):Bool:=(List.range k).all fun i=>arw (S.getD i sp0) (L.getD i ex0)
end Go.Ab
namespace Go.Ab
open Go Go.Proofs
/-! ### Drawn matrices of intervals-/
def asJ(r:AV):Prop:=∃(n:Int) (l:List IvV),l.length≤16∧(∀v∈l,aqX v)∧r=.ag [.v (.int .i64 n),.sl l.length (qy IvV.cs l)]
section
variable (l:List UInt8)(hl:l.length≤9223372036854775807)(i h:Int)(hi:0≤i∧i≤l.length)
include hl hi
end
def asN(M:List IvV):Prop:=M.length≤16∧∀v∈M,aqX v
end Go.Ab
namespace Go.Ab
open Go Go.Proofs
end Go.Ab
namespace Go.Ab
open Go Go.Proofs
def aq5:ExV:=⟨false,5,1⟩
def asR:SpV:=⟨aq5,aq5⟩
end Go.Ab
namespace Go.Ab
open Go Go.Proofs
/-! ### Points of matrices of intervals-/
def inM(K:Nat)(S:List SpV)(L:List ExV)(k:Nat):Prop:=∀i,i<k→inS K (S.getD i sp0) ((L.getD i ex0).val K) 1
theorem alm{l:List SpV}{i:Nat}(h:i<l.length):l.getD i sp0∈l:=by
 rw[List.getD_eq_getElem?_getD,List.getElem?_eq_getElem h];exact List.getElem_mem _
theorem imatV.eK{n K:Nat}{S:List SpV}(h:imatV n S)(hK:3000≤K){i:Nat}(hi:i<n*n):(S.getD i sp0).eK K:=by
 have:=(ada (h.ok _ (alm (by rw[h.len];exact hi)))).1
 exact⟨by have:=this.1;omega,by have:=this.2;omega⟩
end Go.Ab
namespace Go.Ab
open Go Go.Proofs
/-! ### Widened,rounded and divided matrices of intervals-/
end Go.Ab
namespace Go.Ab
open Go Go.Proofs
def arY(s t:SpV):Bool:=decide ((aat s t).lo.val 3000≤(aat s t).hi.val 3000)
def dgO(n:Nat)(y:ExV):Nat→List (Option ExV)
 |0=>List.replicate (n*n) none
 |k+1=>(dgO n y k).set (k*n+k) (some y)
def dgE(n:Nat)(y:ExV):List ExV:=(dgO n y n).map fun o=>o.getD ex0
end Go.Ab
namespace Go.Ab
open Go Go.Proofs
def ara(s:SpV):ExV:=s.hi.plus s.lo.neg
end Go.Ab
namespace Go.Ab
open Go Go.Proofs
def ex3:ExV:=⟨false,3,0⟩
end Go.Ab
namespace Go.Ab
open Go Go.Proofs
/-! ### What is held of the exponential of any matrix-/
def hvN(y:ExV):Nat:=if y.m=0 then 0 else(y.top+1).toNat
def gSt(n:Nat)(b:List SpV)(w:Int):Nat→List SpV×List SpV
 |0=>((gId n).map ptS,(gId n).map ptS)
 |i+1=>(ang (gSt n b w i).1 ((Jy n (gSt n b w i).2 b).map fun s=>s.divd (i+1) w),(Jy n (gSt n b w i).2 b).map fun s=>s.divd (i+1) w)
def gSq(n:Nat)(w:Int)(F:List SpV):Nat→List SpV
 |0=>F
 |k+1=>(Jy n (gSq n w F k) (gSq n w F k)).map fun s=>s.out w
def gFt(n:Nat)(b:List SpV)(B:Nat):List SpV:=(gSt n b (-(B:Int)) (tmF B)).1.map fun s=>s.fat (ex1.shift (-(B:Int)))
def gB(n:Nat)(L:List ExV)(s:Nat):List SpV:=(y6 n L (ex1.shift (-(s:Int)))).map ptS
def aoR(n:Nat)(L:List ExV)(s B:Nat)(low:Int):List SpV:=(gSq n (-(B:Int)) (gFt n (gB n L s) B) s).map fun s=>s.out (low-4)
end Go.Ab
namespace Go.Ab
/-! ### How far a rounded inverse is off-/
end Go.Ab
namespace Go.Ab
/-! ### Sums of the exponential's row,in whole numbers-/
def ab(x:Int):Int:=(x.natAbs:Int)
structure smallI(n:Nat)(N:Nat→Nat→Int)(c:Int):Prop where
 pos:0<c
 le:2*nrm N n≤c
def fr:Nat→Nat→Int
 |0,_=>1
 |T+1,t=>if t≤T then fr T t*((T:Int)+1)else 1
def eE(n:Nat)(N:Nat→Nat→Int)(c:Int)(T i j:Nat):Int:=qn (fun t=>fr T t*c^(T-t)*aoE n N t i j) (T+1)
def eD(c:Int)(T:Nat):Int:=fr T 0*c^T
end Go.Ab
namespace Go.Ab
/-! ### Products of sums of the exponential's row-/
def cv(u v:Nat→Int)(k:Nat):Int:=qn (fun i=>u i*v (k-i)) (k+1)
end Go.Ab
namespace Go.Ab
/-! ### Squares,and what is arN a multiple of one-/
def trI(n:Nat)(A:Nat→Nat→Int)(i j:Nat):Int:=if i<n∧j<n then A i j else 0
def sqI(n:Nat):Nat→(Nat→Nat→Int)→Nat→Nat→Int
 |0,M=>M
 |k+1,M=>zZ n (sqI n k M) (sqI n k M)
def sqD:Nat→Int→Int
 |0,d=>d
 |k+1,d=>sqD k d*sqD k d
def arN(n:Nat)(M:Nat→Nat→Int)(D p q:Int):Prop:=∀u v,u<n→v<n→ab (M u v-D*idI u v)*q≤D*p
end Go.Ab
namespace Go.Ab
open Go Go.Proofs
/-! ### Rational points of matrices of intervals-/
def inR(K:Nat)(s:SpV)(N D:Int):Prop:=inS K s (N*p2 K) D
theorem SpV.eK.up{K K':Nat}{s:SpV}(hs:s.eK K)(h:K≤K'):s.eK K':=by
 obtain⟨a,b⟩:=hs
 exact⟨by omega,by omega⟩
def rtM(n:Nat)(S:List SpV)(M:Nat→Nat→Int)(D:Int):Prop:=∃K:Nat,(∀i,i<n*n→(S.getD i sp0).eK K)∧∀i j,i<n→j<n→inR K (S.getD (i*n+j) sp0) (M i j) D
end Go.Ab
namespace Go.Ab
open Go Go.Proofs
/-! ### What is held has all long sums of the exponential's row-/
end Go.Ab
namespace Go.Ab
open Go Go.Proofs
/-! ### What is held is always told:how great its ends are-/
def spA(K:Nat)(s:SpV)(q:Int):Prop:=s.eK K∧ab (s.lo.val K)≤q∧ab (s.hi.val K)≤q
def mgA(n K:Nat)(S:List SpV)(q:Int):Prop:=∀i,i<n*n→spA K (S.getD i sp0) q
def mK(B:Nat):Nat→Int
 |0=>p2 B
 |k+1=>mK B k/2+1
def sK(B:Nat):Nat→Int
 |0=>p2 B
 |k+1=>sK B k+mK B (k+1)
def lK:Nat→Nat
 |0=>3
 |k+1=>2*lK k+2
end Go.Ab
namespace Go.Ab
open Go Go.Proofs
def as3(n:Nat)(L:List ExV)(low:Int):Bool:=(decide (-120≤low)&&decide (low≤0))&&decide ((ah4 n L n).cmp (exN 64)≤0)
end Go.Ab
namespace Go.Ab
open Go Go.Proofs
/-! ### The exponential of a matrix that may be asked for-/
def exS(n:Nat)(L:List ExV):Nat:=hvN (ah4 n L n)
def aoj(n:Nat)(L:List ExV)(low:Int):Nat:=(12+2*(exS n L:Int)-low).toNat
def exH(n:Nat)(L:List ExV)(low:Int):List SpV:=aoR n L (exS n L) (aoj n L low) low
structure askF(n:Nat)(L:List ExV)(low:Int):Prop where
 lo: -120≤low∧low≤0
 s8:exS n L≤8
 B:12≤aoj n L low∧aoj n L low≤148
 w:low-2*(exS n L:Int)-12= -(aoj n L low:Int)
 bd:sbd (-3100) 0 (gB n L (exS n L))
 small:smallI n (fun i j=>mv 3000 L n i j) (p2 (3000+exS n L))
theorem aq2{n s:Nat}{L:List ExV}:gB n L s=(y6 n L (ex1.shift (-(s:Int)))).map ptS:=rfl
def exT(n:Nat)(L:List ExV)(low:Int):List SpV:=(exH n L low).map SpV.can
end Go.Ab
namespace Go.Ab
open Go Go.Proofs
/-! ### Numbers told in rows of their own-/
def ivO(u v:ExV):AV→List Ob→List Ob→Prop:=fun r hs bs=>((lim u.m)=[]∧(lim v.m)=[]∧r=.tu [.ag [.v (.bool u.s),.v (.slice none 0 0),.v (.int .i64 u.e),.v (.bool v.s),.v (.slice none 0 0),.v (.int .i64 v.e)],.v (.bool true)]∧hs=[])∨((lim u.m)=[]∧r=.tu [.ag [.v (.bool u.s),.v (.slice none 0 0),.v (.int .i64 u.e),.v (.bool v.s),.rf 0 0 (lim v.m).length,.v (.int .i64 v.e)],.v (.bool true)]∧hs=[.own 1 (qc (lim v.m))])∨((lim v.m)=[]∧r=.tu [.ag [.v (.bool u.s),.rf 0 0 (lim u.m).length,.v (.int .i64 u.e),.v (.bool v.s),.v (.slice none 0 0),.v (.int .i64 v.e)],.v (.bool true)]∧hs=[.own 1 (qc (lim u.m))])∨(r=.tu [.ag [.v (.bool u.s),.rf 0 0 (lim u.m).length,.v (.int .i64 u.e),.v (.bool v.s),.rf 1 0 (lim v.m).length,.v (.int .i64 v.e)],.v (.bool true)]∧hs=[.own 1 (qc (lim u.m)),.own 1 (qc (lim v.m))])
end Go.Ab
namespace Go.Ab
open Go Go.Proofs
/-! ### The specification's matrices:everything in its one form-/
def gcT(n:Nat)(l l':List ExV)(k:Nat):List ExV:=gl n (fun i j=>(aqm n l l' i j n).can) k
end Go.Ab
namespace Go.Ab
open Go Go.Proofs
end Go.Ab
namespace Go.Ab
open Go Go.Proofs
end Go.Ab
namespace Go.Ab
open Go Go.Proofs
def quK(N D:Nat):Int:=58-((bl N:Int)-(bl D:Int))
def quA(N D:Nat):Nat:=N*2^(quK N D).toNat
def quB(N D:Nat):Nat:=D*2^(-quK N D).toNat
def quQ(N D:Nat):Nat:=stk (quA N D) (quB N D)
def quT(N D:Nat):Int:=if quB N D*2^58≤quA N D then(bl N:Int)-(bl D:Int)+1 else(bl N:Int)-(bl D:Int)
end Go.Ab
namespace Go.Ab
open Go Go.Proofs
end Go.Ab
namespace Go.Ab
open Go Go.Proofs
def asY(xs:List Int)(e:Int):Bool:=
 J1 xs&&((decide (-800≤e)&&decide (e≤800))&&(decide ((vl xs).toNat % 10≠0)||(decide (xs.length=0)&&decide (e=0))))
def dfV(s:Bool)(m:Nat)(e mode:Int):FlV:=if m=0 then⟨0,s,0,0⟩else flV s (quQ (m*10^e.toNat) (10^(-e).toNat)) (-quK (m*10^e.toNat) (10^(-e).toNat)-1) mode s
def dfG(s:Bool)(m:Nat)(e mode:Int):Int:=if m=0 then 0 else flG s (quQ (m*10^e.toNat) (10^(-e).toNat)) (-quK (m*10^e.toNat) (10^(-e).toNat)-1) mode
end Go.Ab
namespace Go.Ab
open Go Go.Proofs
end Go.Ab
namespace Go.Ab
open Go Go.Proofs
/-! ### The specification's numbers of any size,in their one form-/
end Go.Ab
namespace Go.Ab
open Go Go.Proofs
def zpT(F:SpV→SpV→SpV)(l l':List SpV)(i:Nat):List SpV:=(List.range i).map fun i=>F (l.getD i sp0) (l'.getD i sp0)
def arS(s t:SpV):SpV:=⟨Jo ((VB ExV.times s t).map ExV.can),Yn ((VB ExV.times s t).map ExV.can)⟩
def csD(n:Nat)(l l':List SpV)(i j:Nat):Nat→SpV
 |0=>sp0
 |k+1=>((csD n l l' i j k).plus (arS (l.getD (i*n+k) sp0) (l'.getD (k*n+j) sp0))).can
def scT(n:Nat)(l l':List SpV)(k:Nat):List SpV:=gly n (fun i j=>csD n l l' i j n) k
end Go.Ab
namespace Go.Ab
open Go Go.Proofs
/-! ### The specification's exponential-/
end Go.Ab
namespace Go.Ab
open Go Go.Proofs
/-! ### The specification's own simp(disch:=omega)only[go_sem] to the exponential:sizes and numbers of steps-/
def csN(n:Nat)(l:List ExV)(j:Nat):Nat→ExV
 |0=>ex0
 |k+1=>((csN n l j k).plus (l.getD (k*n+j) ex0).abs).can
def nsN(n:Nat)(l:List ExV):Nat→ExV
 |0=>ex0
 |j+1=>amu (nsN n l j) (csN n l j n)
end Go.Ab
namespace Go.Ab
open Go Go.Proofs
def pwE(k:Int):ExV:=⟨false,1,k⟩
end Go.Ab
namespace Go.Ab
open Go Go.Proofs
/-! ### The specification's exponential,held-/
def asu(K:Nat)(s:SpV):Prop:=s.eK K∧s.lo.val K≤s.hi.val K
def seK(K:Nat)(l:List SpV):Prop:=∀s∈l,s.eK K
end Go.Ab
namespace Go.Ab
open Go Go.Proofs
/-! ### The specification's exponential of a matrix and of a number-/
end Go.Ab
namespace Go.Ab
open Go Go.Proofs
theorem JQ(s s':Bool)(xs xs':List Int)(e e':Int)(hl:xs.length≤2^60)(hl':xs'.length≤2^60):Con Try.prog 25 true [.ag [.v (.bool s),.sl xs.length (qc xs),.v (.int .i64 e),.v (.bool s'),.sl xs'.length (qc xs'),.v (.int .i64 e')],.ag [.v (.bool s),.sl xs.length (qc xs),.v (.int .i64 e),.v (.bool s'),.sl xs'.length (qc xs'),.v (.int .i64 e')]] [] (isA (.v (.bool true))):=by
 refine Con.of_w (rs:=[.tmp 4]) Try.func25 rfl Try.ntmps25 rfl ?_
 simp(disch:=omega)only[go_sem]
 refine qg (Xz s xs e hl) ?_
 simp(disch:=omega)only[go_sem]
 refine qg (Xz s' xs' e' hl') ?_
 simp(disch:=omega)only[go_sem]
 exact ql
theorem yu(s s':Bool)(e e':Int)(k:Nat)(xs ys:List Int)(hn:xs.length≤2^39)(hm:ys.length≤2^39)(hk:k≤2^39):Con Try.prog 26 false [.ag [.v (.bool s),.rf 10000000 0 xs.length,.v (.int .i64 e),.v (.bool s'),.rf 10000001 0 ys.length,.v (.int .i64 e')],.v (.int .i64 k)] [.own 1 (qc xs),.own 1 (qc ys)]
  (fun r hs bs=>r=.v (.int .i64 ((k+xs.length+ys.length:Nat):Int))∧hs=[]∧bs=[.own 1 (qc (mkI k xs.length)),.own 1 (qc (mkI (k+xs.length) ys.length))]):=by
 refine Con.of_aw Try.func26 rfl Try.ntmps26 (by simp) (by simp) (by simp) (AW.front1 ?_)
 show @W Try.prog 14 ⟨_⟩ ⟨fun x σ=>@zr ⟨_⟩ ⟨_⟩ x σ⟩ _ _
 simp(disch:=omega)only[go_sem]
 refine AW.regCallF (E:=[(2,.pt 40000000 0),(6,.ag [.v (.bool s),.rf 10000000 0 xs.length,.v (.int .i64 e)]),(7,.v (.int .i64 k))]) (H:=[(40000000,.own 0 [.v (.bool s),.rf 10000000 0 xs.length,.v (.int .i64 e),.v (.bool s'),.rf 10000001 0 ys.length,.v (.int .i64 e')]),(10000000,.own 1 (qc xs)),(10000001,.own 1 (qc ys))]) 3 (by simp only[List.take_succ_cons,List.take_zero];rfl) (by simp only[List.drop_succ_cons,List.drop_zero];rfl) ?_
  (by decide) rfl rfl (by simp(disch:=omega)only[go_sem]) (by rfl) false [10000000] (Q4 s e k xs (by omega) (by omega)) (by simp(disch:=omega)only[go_sem]) (by simp(disch:=omega)only[go_sem]) rfl (qR (z:=1) (cs:=qc xs) (by simp(disch:=omega)only[go_sem]) (by simp(disch:=omega)only[go_sem])) ?_
 ·simp(disch:=omega)only[go_sem]
  exact Le.lst [] _ _ rfl (by simp(disch:=omega)only[go_sem]) (by simp(disch:=omega)only[go_sem])
 rintro r hs bs ⟨rfl,rfl,rfl⟩-
 refine⟨by simp[qs],?_⟩
 show @Ch Try.prog 14 ⟨_⟩ ⟨_⟩ ⟨_⟩ _ _
 simp(disch:=omega)only[go_sem]
 refine AW.regCall (E:=[(10,.ag [.v (.bool s'),.rf 10000001 0 ys.length,.v (.int .i64 e')]),(11,.v (.int .i64 ((k+xs.length:Nat):Int)))]) (H:=[(10000000,.own 1 (qc (mkI k xs.length))),(10000001,.own 1 (qc ys))]) 3 (by simp only[List.take_succ_cons,List.take_zero];rfl) (by simp only[List.drop_succ_cons,List.drop_zero];rfl) ?_
  (by decide) rfl rfl (by simp(disch:=omega)only[go_sem]) (by rfl) false [10000001] (Q4 s' e' (k+xs.length) ys (by omega) (by omega)) (by simp(disch:=omega)only[go_sem]) (by simp(disch:=omega)only[go_sem]) rfl (qR (z:=1) (cs:=qc ys) (by simp(disch:=omega)only[go_sem]) (by simp(disch:=omega)only[go_sem])) ?_
 ·simp(disch:=omega)only[go_sem]
  exact Le.lst [] _ _ rfl (by simp(disch:=omega)only[go_sem]) (by simp(disch:=omega)only[go_sem])
 rintro r hs bs ⟨rfl,rfl,rfl⟩-
 refine⟨by simp[qs],?_⟩
 show @Ch Try.prog 14 ⟨_⟩ ⟨_⟩ ⟨fun σ=>@W Try.prog 14 ⟨_⟩ ⟨fun x σ=>@qO _ _ _ ⟨_⟩ _ ⟨_⟩ x σ⟩ σ.env σ.hp⟩ _ _
 simp(disch:=omega)only[go_sem]
 refine qb [] [] [.own 1 (qc (mkI k xs.length)),.own 1 (qc (mkI (k+xs.length) ys.length))] [.v (.int .i64 ((k+xs.length+ys.length:Nat):Int))] rfl (by simp(disch:=omega)only[go_sem]) (by simp(disch:=omega)only[go_sem]) (by simp) (by simp) ⟨rfl,rfl,rfl⟩
end Go.Ab
namespace Go.Ab
open Go Go.Proofs
theorem Qe(v:IvV)(h1:v.lo.xs.length≤2000000)(h2:v.hi.xs.length≤2000000):Con Try.prog 23 false [.ag [.v (.bool (v).lo.s),.sl (v).lo.xs.length (qc (v).lo.xs),.v (.int .i64 (v).lo.e),.v (.bool (v).hi.s),.sl (v).hi.xs.length (qc (v).hi.xs),.v (.int .i64 (v).hi.e)]] []
  (fun r hs bs=>r=.ag [.v (.bool v.lo.s),.rf 0 0 v.lo.xs.length,.v (.int .i64 v.lo.e),.v (.bool v.hi.s),.rf 1 0 v.hi.xs.length,.v (.int .i64 v.hi.e)]∧hs=[.own 1 (qc v.lo.xs),.own 1 (qc v.hi.xs)]):=by
 refine Con.of_aw Try.func23 rfl Try.ntmps23 (by simp) (by simp) (by simp) (W.sound ?_)
 show @W Try.prog 13 ⟨_⟩ ⟨fun x σ=>@qO _ _ _ ⟨_⟩ _ ⟨_⟩ x σ⟩ _ _
 simp(disch:=omega)only[go_sem]
 refine qG (JG v.lo.s v.lo.xs v.lo.e h1) (by simp(disch:=omega)only[go_sem]) ?_
 rintro r hs ⟨rfl,rfl⟩
 refine⟨by simp[qs];simp(disch:=omega)only[go_sem],?_⟩
 simp(disch:=omega)only[go_sem]
 refine qG (JG v.hi.s v.hi.xs v.hi.e h2) (by simp(disch:=omega)only[go_sem]) ?_
 rintro r hs ⟨rfl,rfl⟩
 refine⟨by simp[qs];simp(disch:=omega)only[go_sem],?_⟩
 simp(disch:=omega)only[go_sem]
 refine qb [(0,80000000),(1,120000000)] [.own 1 (qc v.lo.xs),.own 1 (qc v.hi.xs)] [] [.ag [.v (.bool v.lo.s),.rf 0 0 v.lo.xs.length,.v (.int .i64 v.lo.e),.v (.bool v.hi.s),.rf 1 0 v.hi.xs.length,.v (.int .i64 v.hi.e)]] rfl (by simp(disch:=omega)only[go_sem]) (by simp(disch:=omega)only[go_sem]) (by simp) (by simp) ⟨rfl,rfl⟩
theorem JF(v:IvV)(h1:v.lo.xs.length≤2000000)(h2:v.hi.xs.length≤2000000):Con Try.prog 23 false [.ag [.v (.bool (v).lo.s),.sl (v).lo.xs.length (qc (v).lo.xs),.v (.int .i64 (v).lo.e),.v (.bool (v).hi.s),.sl (v).hi.xs.length (qc (v).hi.xs),.v (.int .i64 (v).hi.e)]] [] (isA (.ag [.v (.bool (v).lo.s),.sl (v).lo.xs.length (qc (v).lo.xs),.v (.int .i64 (v).lo.e),.v (.bool (v).hi.s),.sl (v).hi.xs.length (qc (v).hi.xs),.v (.int .i64 (v).hi.e)])):=by
 refine Con.frzA ((Qe v h1 h2).mono ?_)
 rintro r hs bs ⟨rfl,rfl⟩
 show AV.ag [_,AV.sl _ ((cut (qc v.lo.xs) 0 (v.lo.xs.length*1)).map (qx _ 4)),_,_,AV.sl _ ((cut (qc v.hi.xs) 0 (v.hi.xs.length*1)).map (qx _ 4)),_]=_
 rw[jW,List.drop_zero,Nat.mul_one,List.take_length,jW,List.drop_zero,Nat.mul_one,List.take_length,jb,jb]
 rfl
theorem ZI(v:IvV)(left:Nat)(h1:v.lo.xs.length≤9223372036854775807)(h2:v.hi.xs.length≤9223372036854775807)(h:left≤2^40):
  Con Try.prog 21 true [.ag [.v (.bool (v).lo.s),.sl (v).lo.xs.length (qc (v).lo.xs),.v (.int .i64 (v).lo.e),.v (.bool (v).hi.s),.sl (v).hi.xs.length (qc (v).hi.xs),.v (.int .i64 (v).hi.e)],.v (.int .i64 left)] [] (fun r hs bs=>∃u:Int,r=.v (.int .i64 u)∧hs=[]∧bs=[]∧(u= -1∨(0≤u∧v.lo.xs.length+v.hi.xs.length≤left))):=by
 have c1:=Xx v.lo.s v.lo.xs v.lo.e left h1 (by omega)
 by_cases g1:(left:Int)-v.lo.xs.length<0
 ·have e1:szL left v.lo.xs.length= -1:=by unfold szL;rw[if_pos g1]
  rw[e1]at c1
  refine Con.of_aw Try.func21 rfl Try.ntmps21 (by simp) (by simp) (by simp) (W.sound ?_)
  show @W Try.prog 18 ⟨_⟩ ⟨fun x σ=>@qO _ _ _ ⟨_⟩ _ ⟨_⟩ x σ⟩ _ _
  simp(disch:=omega)only[go_sem]
  refine qg (c1) ?_
  simp(disch:=omega)only[go_sem]
  exact qk (by simp(disch:=omega)only[go_sem]) (by simp(disch:=omega)only[go_sem]) ⟨-1,rfl,rfl,rfl,.inl rfl⟩
 have e1:szL left v.lo.xs.length=left-v.lo.xs.length:=by unfold szL;rw[if_neg g1]
 rw[e1]at c1
 have c2:=Xx v.hi.s v.hi.xs v.hi.e (left-v.lo.xs.length) h2 (by omega)
 have q1:decide ((left:Int)-v.lo.xs.length<0)=false:=decide_eq_false g1
 by_cases g2:(left:Int)-v.lo.xs.length-v.hi.xs.length<0
 ·have e2:szL (left-v.lo.xs.length) v.hi.xs.length= -1:=by unfold szL;rw[if_pos g2]
  rw[e2]at c2
  refine Con.of_aw Try.func21 rfl Try.ntmps21 (by simp) (by simp) (by simp) (W.sound ?_)
  show @W Try.prog 18 ⟨_⟩ ⟨fun x σ=>@qO _ _ _ ⟨_⟩ _ ⟨_⟩ x σ⟩ _ _
  simp(disch:=omega)only[go_sem]
  refine qg (c1) ?_
  simp(disch:=omega)only[go_sem]
  try simp(disch:=omega)only[go_sem,q1]
  refine qg (c2) ?_
  simp(disch:=omega)only[go_sem]
  exact qk (by simp(disch:=omega)only[go_sem]) (by simp(disch:=omega)only[go_sem]) ⟨-1,rfl,rfl,rfl,.inl rfl⟩
 have e2:szL (left-v.lo.xs.length) v.hi.xs.length=left-v.lo.xs.length-v.hi.xs.length:=by unfold szL;rw[if_neg g2]
 rw[e2]at c2
 have q2:decide ((left:Int)-v.lo.xs.length-v.hi.xs.length<0)=false:=decide_eq_false g2
 refine Con.of_aw Try.func21 rfl Try.ntmps21 (by simp) (by simp) (by simp) (W.sound ?_)
 show @W Try.prog 18 ⟨_⟩ ⟨fun x σ=>@qO _ _ _ ⟨_⟩ _ ⟨_⟩ x σ⟩ _ _
 simp(disch:=omega)only[go_sem]
 refine qg (c1) ?_
 simp(disch:=omega)only[go_sem]
 try simp(disch:=omega)only[go_sem,q1]
 refine qg (c2) ?_
 simp(disch:=omega)only[go_sem]
 try simp(disch:=omega)only[go_sem,q2]
 exact qk (by simp(disch:=omega)only[go_sem]) (by simp(disch:=omega)only[go_sem]) ⟨_,rfl,rfl,rfl,.inr ⟨by omega,by omega⟩⟩
end Go.Ab
namespace Go.Ab
open Go Go.Proofs
end Go.Ab
namespace Go.Ab
open Go Go.Proofs
/-! ### Marks in a row of numbers-/
def prF(f:Nat→DyV)(n:Nat):List (Nat×DyV):=(List.range n).map fun j=>(j,f j)
def ar1(f:Nat→DyV)(j:Nat):Ob:=.own 1 (qc (f j).xs)
def kAt(k:Nat)(f:Nat→DyV):Nat→Nat
 |0=>k
 |j+1=>kAt k f j+(f j).xs.length+2
def mkd(k:Nat)(f:Nat→DyV)(j:Nat):DyV:=⟨decide (((kAt k f j:Nat):Int) % 3=0),mkI (kAt k f j+1) (f j).xs.length,((kAt k f j+1+(f j).xs.length:Nat):Int)⟩
def asH(k:Nat)(f:Nat→DyV)(i j:Nat):DyV:=if j<i then mkd k f j else f j
def asw(S X E:Nat→AV)(n:Nat):List AV:=qy (fun j=>[S j,X j,E j]) (List.range n)
def cS(f:Nat→DyV)(j:Nat):AV:=.v (.bool (f j).s)
def cX(b:Nat)(f:Nat→DyV)(j:Nat):AV:=.rf (b+j) 0 (f j).xs.length
def cE(f:Nat→DyV)(j:Nat):AV:=.v (.int .i64 (f j).e)
def isV(a:AV):Prop:=∃x,a=.v x
end Go.Ab
namespace Go.Ab
open Go Go.Proofs
end Go.Ab
namespace Go.Ab
open Go Go.Proofs
/-! ### Marks in a row of intervals-/
end Go.Ab
namespace Go.Ab
open Go Go.Proofs
/-! ### What is held in a row of intervals-/
def vX(f:Nat→DyV)(j:Nat):AV:=.sl (f j).xs.length (qc (f j).xs)
end Go.Ab
namespace Go.Ab
open Go Go.Proofs
/-! ### Numbers told in rows of their own,in one form (a row may be a ghost)-/
end Go.Ab
namespace Go.Ab
open Go Go.Proofs
/-! ### A matrix of intervals with rows of its own-/
def ivf(l:List SpV)(j:Nat):DyV:=(if j % 2=0 then(l.getD (j/2) sp0).lo.can else(l.getD (j/2) sp0).hi.can).dyv
def asx(i m:Nat):Nat:=if m=1 then 330000000 else if m=500000000+2*i then 230000000 else if m=500000000+(2*i+1)then 230000001 else m
end Go.Ab
namespace Go.Ab
open Go Go.Proofs
end Go.Ab
namespace Go.Ab
open Go Go.Proofs
/-! ### How much there is in all-/
def smF(f:Nat→DyV):Nat→Nat
 |0=>0
 |j+1=>smF f j+(f j).xs.length
end Go.Ab
namespace Go.Ab
open Go Go.Proofs
/-! ### The law of what is held of a matrix's exponential-/
theorem arJ{l:List DyV}{n:Nat}:prs l n=prF (fun j=>l.getD j dy0) n:=rfl
theorem aqW(l:List DyV):ar0 l=ar1 (fun j=>l.getD j dy0):=rfl
end Go.Ab
namespace Go.Ab
open Go Go.Proofs
/-! ### The law of a list's text-/
theorem Xb{h:Nat→Ob}{m k n:Nat}{l zs:List UInt8}(h0:h m=.own 1 (qa (l++zs)))(hn:l.length=n):qx h (k+2) (.rf m 0 n)=.sl n (qa l):=by
 subst hn
 simp only[Yd,h0]
 rw[q9,List.drop_zero,Nat.mul_one,List.take_left' rfl,zf]
end Go.Ab
namespace Go.Ab
open Go Go.Proofs
theorem QB(k:Nat):Con Try.prog 13 true [.sl 0 [],.v (.int .i64 k)] [] (isA (.v (.int .i64 k))):=by
 refine Con.of_w (rs:=[.tmp 4]) Try.func13 rfl Try.ntmps13 rfl ?_
 simp(disch:=omega)only[go_sem]
 refine qf (fun _:Nat=>[(0,.sl 0 []),(1,.v (.int .i64 k)),(5,.v (.int .i64 0))]) (fun _=>[]) (fun _=>True) (fun _=>0) 0 trivial (Le.lst [] _ _ rfl (by simp(disch:=omega)only[go_sem]) (by simp(disch:=omega)only[go_sem])) ?_
 intro _ _
 simp(disch:=omega)only[go_sem]
 exact ql
end Go.Ab
namespace Go.Ab
open Go Go.Proofs
/-! ### The law of an interval's text-/
set_option maxRecDepth 100000 in
theorem aef(v:IvV)(h1:v.lo.xs.length≤9223372036854775807)(h2:v.hi.xs.length≤9223372036854775807)(T:List UInt8)(hT:T.length≤2^39)
  (cs:Con Try.prog 22 false [.ag [.v (.bool (v).lo.s),.sl (v).lo.xs.length (qc (v).lo.xs),.v (.int .i64 (v).lo.e),.v (.bool (v).hi.s),.sl (v).hi.xs.length (qc (v).hi.xs),.v (.int .i64 (v).hi.e)]] [] (isA (.tu [.sl T.length (qa T),.v (.bool true)])))
  (ci:Con Try.prog 24 true [.ag [.v (.bool (v).lo.s),.sl (v).lo.xs.length (qc (v).lo.xs),.v (.int .i64 (v).lo.e),.v (.bool (v).hi.s),.sl (v).hi.xs.length (qc (v).hi.xs),.v (.int .i64 (v).hi.e)]] [] (aom T)):
  Con Try.prog 5 true [.ag [.v (.bool (v).lo.s),.sl (v).lo.xs.length (qc (v).lo.xs),.v (.int .i64 (v).lo.e),.v (.bool (v).hi.s),.sl (v).hi.xs.length (qc (v).hi.xs),.v (.int .i64 (v).hi.e)]] [] (isA (.v (.bool true))):=by
 have ceq:=Qk T (by omega)
 have chd:=j2 1 T.length (by omega) (by omega)
 have ciF:Con Try.prog 24 true [.ag [.v (.bool (v).lo.s),.sl (v).lo.xs.length (qc (v).lo.xs),.v (.int .i64 (v).lo.e),.v (.bool (v).hi.s),.sl (v).hi.xs.length (qc (v).hi.xs),.v (.int .i64 (v).hi.e)]] [] (isA (.tu [.sl T.length (qa T),.v (.bool true)])):=by
  refine Con.frzAC (ci.mono ?_)
  rintro r hs bs ⟨zs,rfl,rfl⟩
  show AV.tu [qx _ 5 (.rf 0 0 T.length),_]=_
  rw[Xb (zs:=zs) rfl rfl];rfl
 have cz:=ZI v 1048576 h1 h2 (by omega)
 refine Con.of_aw Try.func5 rfl Try.ntmps5 (by simp) (by simp) (by simp) (AW.front3 ?_)
 show @W Try.prog 96 ⟨_⟩ ⟨fun x σ=>@zr ⟨_⟩ ⟨_⟩ x σ⟩ _ _
 simp(disch:=omega)only[go_sem]
 refine qh cz (by simp(disch:=omega)only[go_sem]) ?_
 rintro r hs ⟨u,rfl,rfl, -,hv⟩
 refine⟨by simp[qs],?_⟩
 simp(disch:=omega)only[go_sem]
 rcases hv with rfl|⟨g0,g1⟩
 ·refine W.sound ?_
  show @W Try.prog 96 ⟨_⟩ ⟨fun x σ=>@qO _ _ _ ⟨_⟩ _ ⟨_⟩ x σ⟩ _ _
  simp(disch:=omega)only[go_sem]
  exact ql
 have cT:=JF v (by omega) (by omega)
 have hv0:decide (u<0)=false:=decide_eq_false (by omega)
 have cqi:=JQ v.lo.s v.hi.s v.lo.xs v.hi.xs v.lo.e v.hi.e (by omega) (by omega)
 have cm:=yu v.lo.s v.hi.s v.lo.e v.hi.e 1 v.lo.xs v.hi.xs (by omega) (by omega) (by omega)
 have cto:=Qe v (by omega) (by omega)
 obtain⟨M,hM⟩:∃M:Int,((1+v.lo.xs.length+v.hi.xs.length:Nat):Int)=M:=⟨_,rfl⟩
 have hM0:decide (M<0)=false:=decide_eq_false (by omega)
 rw[hM]at cm
 generalize v.lo.xs=xs at*
 generalize v.hi.xs=ys at*
 generalize v.lo.s=s at*
 generalize v.hi.s=s' at*
 generalize v.lo.e=e at*
 generalize v.hi.e=e' at*
 refine AW.front4 ?_
 show @W Try.prog 96 ⟨_⟩ ⟨fun x σ=>@zr ⟨_⟩ ⟨_⟩ x σ⟩ _ _
 simp(disch:=omega)only[go_sem,hv0]
 refine qi (cT) ?_
 simp(disch:=omega)only[go_sem]
 refine qi (cs) ?_
 simp(disch:=omega)only[go_sem]
 refine qG cto (by simp(disch:=omega)only[go_sem]) ?_
 rintro r hs ⟨rfl,rfl⟩
 refine⟨by simp[qs];simp(disch:=omega)only[go_sem],?_⟩
 simp(disch:=omega)only[go_sem]
 refine qh ci (by simp(disch:=omega)only[go_sem]) ?_
 rintro r hs ⟨zs,rfl,rfl⟩
 refine⟨by simp[qs];simp(disch:=omega)only[go_sem],?_⟩
 simp(disch:=omega)only[go_sem]
 refine AW.le (Le.lst [] [(1,.pt 30000000 0),(2,.v (.bool false)),(4,.sl T.length (qa T)),(5,.v (.bool true)),(6,.pt 80000000 0),(7,.rf 310000000 0 T.length),(8,.v (.bool true))] [(30000000,.own 0 [.v (.bool s),.sl xs.length (qc xs),.v (.int .i64 e),.v (.bool s'),.sl ys.length (qc ys),.v (.int .i64 e')]),(280000000,.own 1 (qc xs)),(280000001,.own 1 (qc ys)),(80000000,.own 0 [.v (.bool s),.rf 280000000 0 xs.length,.v (.int .i64 e),.v (.bool s'),.rf 280000001 0 ys.length,.v (.int .i64 e')]),(310000000,.own 1 (qa (T++zs)))] rfl (by simp(disch:=omega)only[go_sem]) (by simp(disch:=omega)only[go_sem])) ?_
 have htk:List.take T.length (T++zs)=T:=List.take_left' rfl
 refine AW.front3 ?_
 show @W Try.prog 96 ⟨_⟩ ⟨fun x σ=>@zr ⟨_⟩ ⟨_⟩ x σ⟩ _ _
 simp(disch:=omega)only[go_sem]
 refine qg (ceq) ?_ (by simp(disch:=omega)only[go_sem,htk])
 simp(disch:=omega)only[go_sem]
 try simp(disch:=omega)only[go_sem,show(true != true)=false from rfl]
 refine qu rfl [⟨0,[],[]⟩,⟨1,[0],[]⟩,⟨2,[0],[]⟩,⟨3,[],[]⟩,⟨4,[],[]⟩] (by kernel_rfl) ?_
 simp(disch:=omega)only[go_sem]
 refine qi (cT) ?_
 simp(disch:=omega)only[go_sem]
 refine qg (cqi) ?_
 simp(disch:=omega)only[go_sem]
 refine AW.regCallF (E:=[(1,.pt 30000000 0),(2,.v (.bool false)),(4,.sl T.length (qa T)),(5,.v (.bool true)),(6,.pt 80000000 0),(7,.rf 310000000 0 T.length),(8,.v (.bool true)),(46,.ag [.v (.bool s),.rf 280000000 0 xs.length,.v (.int .i64 e),.v (.bool s'),.rf 280000001 0 ys.length,.v (.int .i64 e')]),(47,.v (.int .i64 1))]) (H:=[(30000000,.own 0 [.v (.bool s),.sl xs.length (qc xs),.v (.int .i64 e),.v (.bool s'),.sl ys.length (qc ys),.v (.int .i64 e')]),(280000000,.own 1 (qc xs)),(280000001,.own 1 (qc ys)),(80000000,.own 0 [.v (.bool s),.rf 280000000 0 xs.length,.v (.int .i64 e),.v (.bool s'),.rf 280000001 0 ys.length,.v (.int .i64 e')]),(310000000,.own 1 (qa (T++zs)))]) 2 (by simp only[List.take_succ_cons,List.take_zero];rfl) (by simp only[List.drop_succ_cons,List.drop_zero];rfl) ?_
  (by decide) rfl rfl (by simp(disch:=omega)only[go_sem]) (by rfl) false [280000000,280000001] cm (by simp(disch:=omega)only[go_sem]) (by simp(disch:=omega)only[go_sem]) rfl (Xl (z:=1) (cs:=qc xs) (by simp(disch:=omega)only[go_sem]) (by simp(disch:=omega)only[go_sem]) (z':=1) (cs':=qc ys) (by simp(disch:=omega)only[go_sem]) (by simp(disch:=omega)only[go_sem])) ?_
 ·simp(disch:=omega)only[go_sem]
  exact Le.lst [] _ _ rfl (by simp(disch:=omega)only[go_sem]) (by simp(disch:=omega)only[go_sem])
 rintro r hs bs ⟨rfl,rfl,rfl⟩-
 refine⟨by simp[qs],?_⟩
 show @Ch Try.prog 96 ⟨_⟩ ⟨_⟩ ⟨_⟩ _ _
 simp(disch:=omega)only[go_sem]
 refine AW.le (Le.lst [] [(1,.pt 30000000 0),(2,.v (.bool false)),(4,.sl T.length (qa T)),(5,.v (.bool true)),(7,.rf 310000000 0 T.length),(8,.v (.bool true)),(9,.v (.int .i64 M))] [(30000000,.own 0 [.v (.bool s),.sl xs.length (qc xs),.v (.int .i64 e),.v (.bool s'),.sl ys.length (qc ys),.v (.int .i64 e')]),(310000000,.own 1 (qa (T++zs)))] rfl (by simp(disch:=omega)only[go_sem]) (by simp(disch:=omega)only[go_sem])) ?_
 refine AW.front2 ?_
 show @W Try.prog 96 ⟨_⟩ ⟨fun x σ=>@zr ⟨_⟩ ⟨_⟩ x σ⟩ _ _
 simp(disch:=omega)only[go_sem,hM0]
 refine qg (ceq) ?_ (by simp(disch:=omega)only[go_sem,htk])
 simp(disch:=omega)only[go_sem]
 try simp(disch:=omega)only[go_sem,show(true != true)=false from rfl]
 refine AW.le (Le.lst [] [(1,.pt 30000000 0),(2,.v (.bool false)),(4,.sl T.length (qa T)),(5,.v (.bool true)),(7,.rf 310000000 0 T.length),(8,.v (.bool true)),(10,.v (.int .i64 1))] [(30000000,.own 0 [.v (.bool s),.sl xs.length (qc xs),.v (.int .i64 e),.v (.bool s'),.sl ys.length (qc ys),.v (.int .i64 e')]),(310000000,.own 1 (qa (T++zs)))] rfl (by simp(disch:=omega)only[go_sem]) (by simp(disch:=omega)only[go_sem])) ?_
 refine AW.front2 ?_
 show @W Try.prog 96 ⟨_⟩ ⟨fun x σ=>@zr ⟨_⟩ ⟨_⟩ x σ⟩ _ _
 simp(disch:=omega)only[go_sem]
 refine zj false [310000000] (ZK 1 T zs (by omega) (by omega)) (by simp(disch:=omega)only[go_sem]) (by simp(disch:=omega)only[go_sem]) rfl (qR (z:=1) (cs:=qa (T++zs)) (by simp(disch:=omega)only[go_sem]) (by simp(disch:=omega)only[go_sem])) (by intro n hn;exact⟨_,List.mem_cons_self ..,by rw[List.mem_singleton.1 hn];rfl⟩) ?_
 rintro r hs bs ⟨rfl,rfl,rfl⟩-
 refine⟨by simp[qs],?_⟩
 simp(disch:=omega)only[go_sem]
 refine AW.le (Le.lst [] [(1,.pt 30000000 0),(2,.v (.bool false)),(4,.sl T.length (qa T)),(5,.v (.bool true)),(7,.rf 310000000 0 T.length),(8,.v (.bool true)),(10,.v (.int .i64 ((1+T.length:Nat):Int))),(11,.v (.int .i64 1))] [(30000000,.own 0 [.v (.bool s),.sl xs.length (qc xs),.v (.int .i64 e),.v (.bool s'),.sl ys.length (qc ys),.v (.int .i64 e')]),(310000000,.own 1 (qa (mkB 1 T.length++zs)))] rfl (by simp(disch:=omega)only[go_sem]) (by simp(disch:=omega)only[go_sem])) ?_
 have hN0:decide (((1+T.length:Nat):Int)<0)=false:=decide_eq_false (by omega)
 have hkb:∀{h:Nat→Ob},h 310000000=.own 1 (qa (mkB 1 T.length++zs))→[AV.rf 310000000 0 T.length,.v (.int .i64 ((1:Nat):Int))].map (qx h 6)=[.sl T.length (qa (mkB 1 T.length)),.v (.int .i64 ((1:Nat):Int))]:=fun {h} h0=>by
  show [qx _ 6 (.rf 310000000 0 T.length),_]=_
  rw[Xb (zs:=zs) (l:=mkB 1 T.length) h0 (Zs ..)];rfl
 refine W.sound ?_
 show @W Try.prog 96 ⟨_⟩ ⟨fun x σ=>@qO _ _ _ ⟨_⟩ _ ⟨_⟩ x σ⟩ _ _
 simp(disch:=omega)only[go_sem]
 refine qh chd (hkb (by simp(disch:=omega)only[go_sem])) ?_
 rintro r hs ⟨rfl,rfl, -⟩
 refine⟨by simp[qs],?_⟩
 simp(disch:=omega)only[go_sem,hN0]
 refine qi (cT) ?_
 simp(disch:=omega)only[go_sem]
 refine qg (ciF) ?_
 simp(disch:=omega)only[go_sem]
 refine qg (ceq) ?_
 simp(disch:=omega)only[go_sem]
 try simp(disch:=omega)only[go_sem,show(true != true)=false from rfl]
 refine qh chd (hkb (by simp(disch:=omega)only[go_sem])) ?_
 rintro r hs ⟨rfl,rfl, -⟩
 refine⟨by simp[qs],?_⟩
 simp(disch:=omega)only[go_sem,hN0]
 exact ql
end Go.Ab
namespace Go.Ab
open Go Go.Proofs
set_option maxRecDepth 100000 in
theorem aeg(v:IvV)(h1:v.lo.xs.length≤9223372036854775807)(h2:v.hi.xs.length≤9223372036854775807)
  (cs:Con Try.prog 22 false [.ag [.v (.bool (v).lo.s),.sl (v).lo.xs.length (qc (v).lo.xs),.v (.int .i64 (v).lo.e),.v (.bool (v).hi.s),.sl (v).hi.xs.length (qc (v).hi.xs),.v (.int .i64 (v).hi.e)]] [] (isA (.tu [.sl 0 [],.v (.bool false)])))
  (ci:Con Try.prog 24 true [.ag [.v (.bool (v).lo.s),.sl (v).lo.xs.length (qc (v).lo.xs),.v (.int .i64 (v).lo.e),.v (.bool (v).hi.s),.sl (v).hi.xs.length (qc (v).hi.xs),.v (.int .i64 (v).hi.e)]] [] aon):
  Con Try.prog 5 true [.ag [.v (.bool (v).lo.s),.sl (v).lo.xs.length (qc (v).lo.xs),.v (.int .i64 (v).lo.e),.v (.bool (v).hi.s),.sl (v).hi.xs.length (qc (v).hi.xs),.v (.int .i64 (v).hi.e)]] [] (isA (.v (.bool true))):=by
 have ceq:Con Try.prog 10 true [.sl 0 [],.sl 0 []] [] (isA (.v (.bool true))):=Qk [] (by simp)
 have chd:Con Try.prog 14 true [.sl 0 [],.v (.int .i64 ((1:Nat):Int))] [] (isA (.v (.int .i64 ((1:Nat):Int)))):=j2 1 0 (by omega) (by omega)
 have cm1:=QB 1
 have ciF:Con Try.prog 24 true [.ag [.v (.bool (v).lo.s),.sl (v).lo.xs.length (qc (v).lo.xs),.v (.int .i64 (v).lo.e),.v (.bool (v).hi.s),.sl (v).hi.xs.length (qc (v).hi.xs),.v (.int .i64 (v).hi.e)]] [] (isA (.tu [.sl 0 [],.v (.bool false)])):=by
  refine Con.frzAC (ci.mono ?_)
  rintro r hs bs ⟨rfl,rfl⟩
  rfl
 have cz:=ZI v 1048576 h1 h2 (by omega)
 refine Con.of_aw Try.func5 rfl Try.ntmps5 (by simp) (by simp) (by simp) (AW.front3 ?_)
 show @W Try.prog 96 ⟨_⟩ ⟨fun x σ=>@zr ⟨_⟩ ⟨_⟩ x σ⟩ _ _
 simp(disch:=omega)only[go_sem]
 refine qh cz (by simp(disch:=omega)only[go_sem]) ?_
 rintro r hs ⟨u,rfl,rfl, -,hv⟩
 refine⟨by simp[qs],?_⟩
 simp(disch:=omega)only[go_sem]
 rcases hv with rfl|⟨g0,g1⟩
 ·refine W.sound ?_
  show @W Try.prog 96 ⟨_⟩ ⟨fun x σ=>@qO _ _ _ ⟨_⟩ _ ⟨_⟩ x σ⟩ _ _
  simp(disch:=omega)only[go_sem]
  exact ql
 have cT:=JF v (by omega) (by omega)
 have hv0:decide (u<0)=false:=decide_eq_false (by omega)
 have cqi:=JQ v.lo.s v.hi.s v.lo.xs v.hi.xs v.lo.e v.hi.e (by omega) (by omega)
 have cm:=yu v.lo.s v.hi.s v.lo.e v.hi.e 1 v.lo.xs v.hi.xs (by omega) (by omega) (by omega)
 have cto:=Qe v (by omega) (by omega)
 obtain⟨M,hM⟩:∃M:Int,((1+v.lo.xs.length+v.hi.xs.length:Nat):Int)=M:=⟨_,rfl⟩
 have hM0:decide (M<0)=false:=decide_eq_false (by omega)
 rw[hM]at cm
 generalize v.lo.xs=xs at*
 generalize v.hi.xs=ys at*
 generalize v.lo.s=s at*
 generalize v.hi.s=s' at*
 generalize v.lo.e=e at*
 generalize v.hi.e=e' at*
 refine AW.front4 ?_
 show @W Try.prog 96 ⟨_⟩ ⟨fun x σ=>@zr ⟨_⟩ ⟨_⟩ x σ⟩ _ _
 simp(disch:=omega)only[go_sem,hv0]
 refine qi (cT) ?_
 simp(disch:=omega)only[go_sem]
 refine qi (cs) ?_
 simp(disch:=omega)only[go_sem]
 refine qG cto (by simp(disch:=omega)only[go_sem]) ?_
 rintro r hs ⟨rfl,rfl⟩
 refine⟨by simp[qs];simp(disch:=omega)only[go_sem],?_⟩
 simp(disch:=omega)only[go_sem]
 refine qh ci (by simp(disch:=omega)only[go_sem]) ?_
 rintro r hs ⟨rfl,rfl⟩
 refine⟨by simp[qs],?_⟩
 simp(disch:=omega)only[go_sem]
 refine AW.le (Le.lst [] [(1,.pt 30000000 0),(2,.v (.bool false)),(4,.sl 0 []),(5,.v (.bool false)),(6,.pt 80000000 0),(7,.v (.slice none 0 0)),(8,.v (.bool false))] [(30000000,.own 0 [.v (.bool s),.sl xs.length (qc xs),.v (.int .i64 e),.v (.bool s'),.sl ys.length (qc ys),.v (.int .i64 e')]),(280000000,.own 1 (qc xs)),(280000001,.own 1 (qc ys)),(80000000,.own 0 [.v (.bool s),.rf 280000000 0 xs.length,.v (.int .i64 e),.v (.bool s'),.rf 280000001 0 ys.length,.v (.int .i64 e')])] rfl (by simp(disch:=omega)only[go_sem]) (by simp(disch:=omega)only[go_sem])) ?_
 refine AW.front3 ?_
 show @W Try.prog 96 ⟨_⟩ ⟨fun x σ=>@zr ⟨_⟩ ⟨_⟩ x σ⟩ _ _
 simp(disch:=omega)only[go_sem]
 refine qg (ceq) ?_
 simp(disch:=omega)only[go_sem]
 try simp(disch:=omega)only[go_sem,show(false != false)=false from rfl]
 refine qu rfl [⟨0,[],[]⟩,⟨1,[0],[]⟩,⟨2,[0],[]⟩,⟨3,[],[]⟩,⟨4,[],[]⟩] (by kernel_rfl) ?_
 simp(disch:=omega)only[go_sem]
 refine qi (cT) ?_
 simp(disch:=omega)only[go_sem]
 refine qg (cqi) ?_
 simp(disch:=omega)only[go_sem]
 refine AW.regCallF (E:=[(1,.pt 30000000 0),(2,.v (.bool false)),(4,.sl 0 []),(5,.v (.bool false)),(6,.pt 80000000 0),(7,.v (.slice none 0 0)),(8,.v (.bool false)),(46,.ag [.v (.bool s),.rf 280000000 0 xs.length,.v (.int .i64 e),.v (.bool s'),.rf 280000001 0 ys.length,.v (.int .i64 e')]),(47,.v (.int .i64 1))]) (H:=[(30000000,.own 0 [.v (.bool s),.sl xs.length (qc xs),.v (.int .i64 e),.v (.bool s'),.sl ys.length (qc ys),.v (.int .i64 e')]),(280000000,.own 1 (qc xs)),(280000001,.own 1 (qc ys)),(80000000,.own 0 [.v (.bool s),.rf 280000000 0 xs.length,.v (.int .i64 e),.v (.bool s'),.rf 280000001 0 ys.length,.v (.int .i64 e')])]) 2 (by simp only[List.take_succ_cons,List.take_zero];rfl) (by simp only[List.drop_succ_cons,List.drop_zero];rfl) ?_
  (by decide) rfl rfl (by simp(disch:=omega)only[go_sem]) (by rfl) false [280000000,280000001] cm (by simp(disch:=omega)only[go_sem]) (by simp(disch:=omega)only[go_sem]) rfl (Xl (z:=1) (cs:=qc xs) (by simp(disch:=omega)only[go_sem]) (by simp(disch:=omega)only[go_sem]) (z':=1) (cs':=qc ys) (by simp(disch:=omega)only[go_sem]) (by simp(disch:=omega)only[go_sem])) ?_
 ·simp(disch:=omega)only[go_sem]
  exact Le.lst [] _ _ rfl (by simp(disch:=omega)only[go_sem]) (by simp(disch:=omega)only[go_sem])
 rintro r hs bs ⟨rfl,rfl,rfl⟩-
 refine⟨by simp[qs],?_⟩
 show @Ch Try.prog 96 ⟨_⟩ ⟨_⟩ ⟨_⟩ _ _
 simp(disch:=omega)only[go_sem]
 refine AW.le (Le.lst [] [(1,.pt 30000000 0),(2,.v (.bool false)),(4,.sl 0 []),(5,.v (.bool false)),(7,.v (.slice none 0 0)),(8,.v (.bool false)),(9,.v (.int .i64 M))] [(30000000,.own 0 [.v (.bool s),.sl xs.length (qc xs),.v (.int .i64 e),.v (.bool s'),.sl ys.length (qc ys),.v (.int .i64 e')])] rfl (by simp(disch:=omega)only[go_sem]) (by simp(disch:=omega)only[go_sem])) ?_
 refine W.sound ?_
 show @W Try.prog 96 ⟨_⟩ ⟨fun x σ=>@qO _ _ _ ⟨_⟩ _ ⟨_⟩ x σ⟩ _ _
 simp(disch:=omega)only[go_sem,hM0]
 refine qg (ceq) ?_
 simp(disch:=omega)only[go_sem]
 try simp(disch:=omega)only[go_sem,show(false != false)=false from rfl]
 refine qg (cm1) ?_
 simp(disch:=omega)only[go_sem]
 refine qg (chd) ?_
 simp(disch:=omega)only[go_sem]
 refine qi (cT) ?_
 simp(disch:=omega)only[go_sem]
 refine qg (ciF) ?_
 simp(disch:=omega)only[go_sem]
 refine qg (ceq) ?_
 simp(disch:=omega)only[go_sem]
 try simp(disch:=omega)only[go_sem,show(false != false)=false from rfl]
 refine qg (chd) ?_
 simp(disch:=omega)only[go_sem]
 exact ql
theorem Vr(v:IvV)(h1:v.lo.xs.length≤9223372036854775807)(h2:v.hi.xs.length≤9223372036854775807):Con Try.prog 5 true [.ag [.v (.bool (v).lo.s),.sl (v).lo.xs.length (qc (v).lo.xs),.v (.int .i64 (v).lo.e),.v (.bool (v).hi.s),.sl (v).hi.xs.length (qc (v).hi.xs),.v (.int .i64 (v).hi.e)]] [] (isA (.v (.bool true))):=by
 by_cases hsz:v.lo.xs.length+v.hi.xs.length≤1048576
 ·have hx:v.lo.xs.length≤2^40∧v.hi.xs.length≤2^40:=⟨by omega,by omega⟩
  have cs:=YR v hx
  cases hb:aaL v
  ·rw[show Vu v=.tu [.sl 0 [],.v (.bool false)] by unfold Vu;rw[hb];rfl]at cs
   exact aeg v h1 h2 cs (YS v hx hb)
  ·rw[show Vu v=.tu [.sl (Xo v).length (qa (Xo v)),.v (.bool true)] by unfold Vu;rw[hb];rfl]at cs
   have hb':=hb
   unfold aaL at hb'
   simp only[Bool.and_eq_true]at hb'
   exact aef v h1 h2 (Xo v) (Nat.le_trans (aeh hb'.2.1 hb'.2.2) (by omega)) cs (YQ v hx hb)
 ·have cz:=ZI v 1048576 h1 h2 (by omega)
  refine Con.of_aw Try.func5 rfl Try.ntmps5 (by simp) (by simp) (by simp) (W.sound ?_)
  show @W Try.prog 96 ⟨_⟩ ⟨fun x σ=>@qO _ _ _ ⟨_⟩ _ ⟨_⟩ x σ⟩ _ _
  simp(disch:=omega)only[go_sem]
  refine qh cz (by simp(disch:=omega)only[go_sem]) ?_
  rintro r hs ⟨u,rfl,rfl, -,hv⟩
  refine⟨by simp[qs],?_⟩
  rcases hv with rfl|h
  ·simp(disch:=omega)only[go_sem]
   exact ql
  ·exact absurd h.2 hsz
end Go.Ab
