/- What the proof of this claim stands on: the walks of the functions and the plain laws, part 7. -/
import Derived.Test.YtgkehjnacdccfaaGreatDoorFnRanksLib6
import Derived.Test.YtgkehjnacdccfaaGreatDoorRows
import Derived.Test.YtgkehjnacdccfaaGreatDoorCards
import Derived.Test.YtgkehjnacdccfaaGreatDoorTie
import Derived.Handed
import Derived.ChangeSame
import Derived.JoinedOf
import Derived.RowKit
import Derived.WalkKit
import Derived.ProofKit
import Derived.OpenShut
import Derived.LaidLaws
import Derived.LaidHandle
import Derived.SevenTiedAt
import Derived.Stop.LaidErr
import Derived.Lib.LaidTab
import Derived.SizedLaws
set_option linter.unusedVariables false
set_option linter.unusedSimpArgs false
namespace Go.Ab
open Go Go.Proofs
theorem alG(x:ExV):Con Tryz.prog 182 false [.sl 1 [.v (.bool x.s),.sl (lim x.m).length (qh (lim x.m)),.v (.int .i64 x.e)]] [] (fun r hs bs=>r=.rf 0 0 1∧hs=[.own 3 [.v (.bool x.s),.sl (lim x.m).length (qh (lim x.m)),.v (.int .i64 x.e)]]):=by
 refine Con.of_aw Tryz.func182 rfl Tryz.ntmps182 (by simp) (by simp) (by simp) (W.sound ?_)
 show @W Tryz.prog 8 ⟨_⟩ ⟨fun x σ=>@q9 _ _ _ ⟨_⟩ _ ⟨_⟩ x σ⟩ _ _
 simp(disch:=omega)only[go_sem]
 exact⟨fun h=>h.elim,ql [(0,90000000)] [.own 3 [.v (.bool x.s),.sl (lim x.m).length (qh (lim x.m)),.v (.int .i64 x.e)]] [] [.rf 0 0 1] rfl (by simp(disch:=omega)only[go_sem]) (by simp(disch:=omega)only[go_sem]) (by simp) (by simp) ⟨rfl,rfl⟩⟩
theorem aQp(x:ExV)(hx:x.m≠0):Con Tryz.prog 184 true [.sl 1 [.v (.bool x.s),.sl (lim x.m).length (qh (lim x.m)),.v (.int .i64 x.e)],.fp [.v (.int .i64 0)] 0] [] (isA (.v (.bool true))):=by
 have c:=yT x.s x.m x.e
 rw[decide_eq_false hx]at c
 refine Con.of_w (rs:=[.tmp 3]) Tryz.func184 rfl Tryz.ntmps184 rfl ?_
 simp(disch:=omega)only[go_sem]
 refine qo (c) ?_
 simp(disch:=omega)only[go_sem]
 exact qz
theorem aQo(x:ExV)(hx:x.m≠0):Con Tryz.prog 183 true [.sl 1 [.sl 1 [.v (.bool x.s),.sl (lim x.m).length (qh (lim x.m)),.v (.int .i64 x.e)]],.fn 184 [.fp [.v (.int .i64 0)] 0]] [] (isA (.v (.int .i64 0))):=by
 have c:=aQp x hx
 have hg:qs Tryz.prog 184=True:=by simp(disch:=omega)only[go_sem]
 refine Con.of_w (rs:=[.tmp 4]) Tryz.func183 rfl Tryz.ntmps183 rfl ?_
 simp(disch:=omega)only[go_sem]
 refine qc (fun _:Unit=>[(0,.sl 1 [.sl 1 [.v (.bool x.s),.sl (lim x.m).length (qh (lim x.m)),.v (.int .i64 x.e)]]),(1,.fn 184 [.fp [.v (.int .i64 0)] 0]),(6,.sl 1 [.sl 1 [.v (.bool x.s),.sl (lim x.m).length (qh (lim x.m)),.v (.int .i64 x.e)]]),(7,.v (.int .i64 1)),(8,.v (.int .i64 0))]) (fun _=>[]) (fun _=>True) (fun _=>0) () trivial
  (Le.lst [] _ _ rfl (by simp(disch:=omega)only[go_sem]) (by simp(disch:=omega)only[go_sem])) ?_
 rintro _-
 simp(disch:=omega)only[go_sem,hg]
 refine qo (c) ?_
 simp(disch:=omega)only[go_sem]
 exact qz
def rkI:Bool→Nat
 |false=>0
 |true=>1
def rkH(x:ExV):Bool→List (Nat×Ob)
 |false=>[(3,.own 1 [.v (.slice none 0 0)])]
 |true=>[(3,.own 1 [.rf 5 0 1]),(5,.own 3 [.v (.bool x.s),.sl (lim x.m).length (qh (lim x.m)),.v (.int .i64 x.e)])]
set_option maxRecDepth 100000 in
theorem asE(x:ExV)(n:Nat)(h1:n=1)(hx:x.m≠0):Con Tryz.prog 90 true [.ag [.v (.int .i64 (n)),.sl ([x]).length (qg ExV.cs ([x]))]] [] (isA (.v (.int .i64 1))):=by
 have hz:zV n [.v (.slice none 0 0)]=[AV.v (.slice none 0 0)]:=by rw[h1];rfl
 have hr:qg ExV.cs [x]=[.v (.bool x.s),.sl (lim x.m).length (qh (lim x.m)),.v (.int .i64 x.e)]:=rfl
 have hc:=alG x
 refine Con.of_w (rs:=[.tmp 2]) Tryz.func90 rfl Tryz.ntmps90 rfl ?_
 simp(disch:=omega)only[go_sem]
 rw[hz,hr]
 refine⟨by omega,?_⟩
 refine qc (fun b:Bool=>[(1,.pt 1 0),(2,.v (.int .i64 0)),(3,.rf 3 0 n),(17,.v (.int .i64 n)),(18,.v (.int .i64 (rkI b)))])
  (fun b=>(1,.own 0 [.v (.int .i64 n),.sl 1 [.v (.bool x.s),.sl (lim x.m).length (qh (lim x.m)),.v (.int .i64 x.e)]])::rkH x b) (fun _=>True) (fun b=>1-rkI b) false trivial
  (Le.lst [(1,30000000),(3,170000000)] _ _ rfl (by simp(disch:=omega)only[go_sem,rkI,rkH];try rfl) (by simp(disch:=omega)only[go_sem,rkH])) ?_
 rintro(_|_)-
 ·dsimp only[rkI,rkH]
  simp(disch:=omega)only[go_sem]
  simp(disch:=omega)only[go_sem,decide_eq_true (show(0:Int)<(n:Int) by omega)]
  have e1:((0+1)*(n:Int)-0*(n:Int)).toNat=1:=by omega
  have e2:(0*(n:Int)).toNat=0:=by omega
  have e3:∀a b c:AV,cut [a,b,c] (0*3) (1*3)=[a,b,c]:=fun _ _ _=>rfl
  rw[e1,e2,e3]
  refine⟨by omega,qK hc (by simp(disch:=omega)only[go_sem]) ?_⟩
  rintro r hs ⟨rfl,rfl⟩
  refine⟨by simp[qG];simp(disch:=omega)only[go_sem],?_⟩
  simp(disch:=omega)only[go_sem]
  exact⟨by omega,qa true [(3,3),(5,370000000)] trivial (by simp[rkI]) rfl (by simp(disch:=omega)only[go_sem,rkI,rkH,Int.zero_add]) (by simp(disch:=omega)only[go_sem,rkI,rkH])⟩
 ·dsimp only[rkI,rkH]
  simp(disch:=omega)only[go_sem]
  simp(disch:=omega)only[go_sem,decide_eq_false (show ¬(1:Int)<(n:Int) by omega)]
  refine qc (fun b:Bool=>[(1,.pt 1 0),(3,.rf 3 0 n),(5,.v (.int .i64 (rkI b))),(39,.v (.int .i64 n)),(40,.v (.int .i64 (rkI b)))])
   (fun b=>[(1,.own 0 [.v (.int .i64 n),.sl 1 [.v (.bool x.s),.sl (lim x.m).length (qh (lim x.m)),.v (.int .i64 x.e)]]),(3,.own 1 [.rf 5 0 1]),(5,.own 3 [.v (.bool x.s),.sl (lim x.m).length (qh (lim x.m)),.v (.int .i64 x.e)])]) (fun _=>True) (fun b=>1-rkI b) false trivial
   (Le.lst [] _ _ rfl (by simp(disch:=omega)only[go_sem,rkI];try rfl) (by simp(disch:=omega)only[go_sem])) ?_
  rintro(_|_)-
  ·dsimp only[rkI]
   simp(disch:=omega)only[go_sem]
   simp(disch:=omega)only[go_sem,decide_eq_true (show(0:Int)<(n:Int) by omega)]
   rw[show((n:Int)-0).toNat=1 by omega]
   refine⟨by omega,?_⟩
   refine qo (aQo x hx) ?_ (by simp(disch:=omega)only[go_sem])
   simp(disch:=omega)only[go_sem]
   refine qm rfl [⟨0,[],[]⟩,⟨1,[],[]⟩,⟨2,[],[]⟩,⟨3,[],[]⟩,⟨4,[],[]⟩,⟨5,[],[]⟩,⟨6,[],[]⟩,⟨7,[],[]⟩,⟨8,[],[]⟩,⟨9,[],[]⟩,⟨10,[],[]⟩,⟨11,[],[]⟩,⟨12,[11],[]⟩,⟨13,[11],[]⟩,⟨14,[11],[]⟩,⟨15,[11],[]⟩,⟨16,[],[]⟩,⟨17,[],[]⟩,⟨18,[],[]⟩,⟨19,[],[]⟩] (by kernel_rfl) ?_
   simp(disch:=omega)only[go_sem,Int.add_zero,Int.toNat_zero,List.getD_cons_zero]
   refine⟨by omega,by omega,by omega,by omega,by omega,by omega,?_⟩
   rw[show((n:Int)-(0+1)).toNat=0 by omega]
   refine qc (fun _:Unit=>[(1,.pt 1 0),(3,.rf 3 0 n),(5,.v (.int .i64 1)),(39,.v (.int .i64 n)),(40,.v (.int .i64 0)),(77,.v (.int .i64 ((0:Nat):Int))),(78,.v (.int .i64 0))])
    (fun _=>[(1,.own 0 [.v (.int .i64 n),.sl 1 [.v (.bool x.s),.sl (lim x.m).length (qh (lim x.m)),.v (.int .i64 x.e)]]),(3,.own 1 [.rf 5 0 1]),(5,.own 3 [.v (.bool x.s),.sl (lim x.m).length (qh (lim x.m)),.v (.int .i64 x.e)])]) (fun _=>True) (fun _=>0) () trivial
    (Le.lst [] _ _ rfl (by simp(disch:=omega)only[go_sem,Int.zero_add]) (by simp(disch:=omega)only[go_sem])) ?_
   rintro _-
   simp(disch:=omega)only[go_sem]
   exact qa true [] trivial (by simp[rkI]) rfl (by simp(disch:=omega)only[go_sem,rkI,Int.zero_add]) (by simp(disch:=omega)only[go_sem])
  ·dsimp only[rkI]
   simp(disch:=omega)only[go_sem]
   simp(disch:=omega)only[go_sem,decide_eq_false (show ¬(1:Int)<(n:Int) by omega)]
   exact qz
def ex5:ExV:=⟨false,5,0⟩
theorem biv:matV 1 [ex5]:=⟨by omega,by omega,rfl,fun x hx=>by rw[List.mem_singleton.1 hx];decide+kernel⟩
theorem aa7(n:Nat)(h1:n=1):Con Tryz.prog 23 true [.ag [.v (.int .i64 (n)),.sl ([ex5]).length (qg ExV.cs ([ex5]))]] [] (isA (.v (.int .i64 1))):=by
 have h:matV n [ex5]:=by rw[h1];exact biv
 refine Con.of_w (rs:=[.tmp 2]) Tryz.func23 rfl Tryz.ntmps23 rfl ?_
 simp(disch:=omega)only[go_sem]
 refine qo (jy n [ex5] h) ?_
 simp(disch:=omega)only[go_sem]
 refine qb (zC n [ex5] (by simp)) ?_
 simp(disch:=omega)only[go_sem]
 refine qo (asE ex5 n h1 (by decide)) ?_
 simp(disch:=omega)only[go_sem]
 exact qz
theorem aGU:Con Tryz.prog 21 true [] [] (isA (.v (.bool true))):=by
 have d5:=aQx 5 0 (by omega) (by omega)
 rw[show(ExV.mk (decide ((5:Int)<0)) (5:Int).natAbs 0).tel=ex5 by decide+kernel]at d5
 obtain⟨n,hn⟩:∃n:Nat,n=1:=⟨1,rfl⟩
 have hm:matV n [ex5]:=by rw[hn];exact biv
 have cd:=Ju n [ex5] hm
 have cr:=aa7 n hn
 have e5:(j7 n [ex5]).tel=ex5∧(j7 n [ex5]).fit=true:=by rw[hn];decide+kernel
 rw[e5.1,e5.2]at cd
 have hrow:qg ExV.cs [ex5]=[.v (.bool ex5.s),.sl (lim ex5.m).length (qh (lim ex5.m)),.v (.int .i64 ex5.e)]:=by simp[qg,ExV.cs]
 have en:(n:Int)=1:=by omega
 rw[en,hrow]at cd cr
 have o5:ex5.ok=true:=by decide+kernel
 have cs:=asD ex5 ex5 o5 o5
 rw[decide_eq_true rfl]at cs
 generalize ex5=x at*
 refine Con.of_aw Tryz.func21 rfl Tryz.ntmps21 (by simp) (by simp) (by simp) (AW.seqLe (E:=[]) (H:=[]) (W.sound ?_) (AW.seqLe (E:=[(1,.pt 1 0)])
  (H:=[(1,.own 0 [.v (.int .i64 1),.sl 1 [.v (.bool x.s),.sl (lim x.m).length (qh (lim x.m)),.v (.int .i64 x.e)]])]) (W.sound ?_) (W.sound ?_)))
 ·show @W Tryz.prog 23 ⟨_⟩ ⟨_⟩ _ _
  simp(disch:=omega)only[go_sem]
  exact Le.lst [] _ _ rfl (by simp(disch:=omega)only[go_sem]) (by simp(disch:=omega)only[go_sem])
 ·show @W Tryz.prog 23 ⟨_⟩ ⟨_⟩ _ _
  simp(disch:=omega)only[go_sem]
  refine qb (d5) ?_
  simp(disch:=omega)only[go_sem]
  exact(Le.frz 70000000 (z:=3) (ks:=[.v (.bool x.s),.sl (lim x.m).length (qh (lim x.m)),.v (.int .i64 x.e)]) (by simp(disch:=omega)only[go_sem]) rfl (by simp(disch:=omega)only[go_sem])).trans (Le.lst [(1,30000000)] _ _ rfl (by simp(disch:=omega)only[go_sem]) (by simp(disch:=omega)only[go_sem]))
 show @W Tryz.prog 23 ⟨_⟩ ⟨fun x σ=>@q9 _ _ _ ⟨_⟩ _ ⟨_⟩ x σ⟩ _ _
 simp(disch:=omega)only[go_sem]
 refine qb (cd) ?_
 simp(disch:=omega)only[go_sem]
 refine qm rfl [⟨0,[],[]⟩,⟨1,[],[]⟩,⟨2,[],[]⟩,⟨3,[2],[]⟩,⟨4,[],[]⟩,⟨5,[],[]⟩,⟨6,[],[]⟩,⟨7,[],[]⟩,⟨8,[],[]⟩,⟨9,[],[]⟩,⟨10,[],[]⟩,⟨11,[],[]⟩] (by kernel_rfl) ?_
 simp(disch:=omega)only[go_sem]
 refine qb (d5) ?_
 simp(disch:=omega)only[go_sem]
 refine qo (cs) ?_
 simp(disch:=omega)only[go_sem]
 refine qo (cr) ?_
 simp(disch:=omega)only[go_sem]
 exact qz
end Go.Ab
namespace Go.Ab
open Go Go.Proofs
/-! ### What determinants are worth-/
theorem atD{l m:List ExV}{t:Nat}:(l++m).getD t ex0=if t<l.length then l.getD t ex0 else m.getD (t-l.length) ex0:=by
 rw[List.getD_eq_getElem?_getD,List.getElem?_append]
 split<;>rw[List.getD_eq_getElem?_getD]
theorem aeI{n:Nat}{l:List ExV}{r c i:Nat}(hi:i≠r):∀j t,t<(mnC n l r c i j).length→(mnC n l r c i j).getD t ex0=l.getD (i*n+skp c t) ex0
 |0,t,h=>by simp[mnC]at h
 |j+1,t,h=>by
  have hl:=ZA (n:=n) (l:=l) (r:=r) (c:=c) (i:=i) j
  rw[if_neg hi]at hl
  rw[mnC]at h ⊢
  by_cases hc:j=c
  ·rw[if_neg (fun h=>h.2 hc)]at h ⊢
   exact aeI hi j t h
  ·rw[if_pos ⟨hi,hc⟩]at h ⊢
   rw[atD]
   by_cases ht:t<(mnC n l r c i j).length
   ·rw[if_pos ht,aeI hi j t ht]
   ·rw[if_neg ht]
    rw[List.length_append,List.length_singleton]at h
    have e:t=(mnC n l r c i j).length:=by omega
    have hs:skp c t=j:=by unfold skp;split at hl<;>split<;>omega
    rw[hs,e,Nat.sub_self];rfl
theorem arA{n:Nat}{l:List ExV}{r c:Nat}(hc:c<n):∀k i j,i<(if r<k then k-1 else k)→j<n-1→(mnR n l r c k).getD (i*(n-1)+j) ex0=l.getD (skp r i*n+skp c j) ex0
 |0,i,j,h,_=>by simp at h
 |k+1,i,j,h,hj=>by
  have hl:=yM (n:=n) (l:=l) (r:=r) (c:=c) hc k
  rw[mnR,atD]
  by_cases ht:i<(if r<k then k-1 else k)
  ·have:i*(n-1)+j<(if r<k then k-1 else k)*(n-1):=by
    have:=Nat.mul_le_mul_right (n-1) (show i+1≤(if r<k then k-1 else k) by omega)
    rw[Nat.succ_mul]at this
    omega
   rw[if_pos (by rw[hl];exact this)]
   exact arA hc k i j ht hj
  ·have hk:k≠r:=by
    intro e;subst e
    rw[if_pos (by omega)]at h
    rw[if_neg (by omega)]at ht
    omega
   have e:i=(if r<k then k-1 else k):=by split at h<;>split at ht<;>split<;>omega
   have hs:skp r i=k:=by unfold skp;split at e<;>split<;>omega
   rw[←e]at hl
   rw[if_neg (by rw[hl];omega),hl,Nat.add_sub_cancel_left,hs]
   have h2:=ZA (n:=n) (l:=l) (r:=r) (c:=c) (i:=k) n
   rw[if_neg hk,if_pos hc]at h2
   exact aeI hk n j (by omega)
theorem bfY{K n:Nat}{l:List ExV}{r c i j:Nat}(hr:r<n+1)(hc:c<n+1)(hi:i<n)(hj:j<n):mv K (mnR (n+1) l r c (n+1)) n i j=aeJ (mv K l (n+1)) r c i j:=by
 unfold mv aeJ
 have:=arA (n:=n+1) (l:=l) (r:=r) hc (n+1) i j (by rw[if_pos hr];omega) (by omega)
 rw[show n+1-1=n from rfl]at this
 rw[this]
theorem bfZ{K n:Nat}{l:List ExV}{r c:Nat}(hl:l.length=n*n)(h:eK K l):eK K (mnR n l r c n):=fun x hx=>h x (Z3 hl n (Nat.le_refl n) x hx)
theorem aNz{K k:Nat}{x:ExV}:(x.sgn k).val K=sgI k*x.val K:=by
 unfold ExV.sgn sgI
 split
 ·rw[arw];omega
 ·omega
theorem bfF{k:Nat}{x:ExV}:(x.sgn k).e=x.e:=by unfold ExV.sgn;split<;>rfl
theorem agb{K:Nat}:∀(n:Nat) (l:List ExV),l.length=n*n→eK K l→(j7 n l).val (K*n)=ja n (mv K l n)∧ -((K*n:Nat):Int)≤(j7 n l).e
 |0,l,_,_=>by
  refine⟨?_,by show-((0:Nat):Int)≤0;omega⟩
  show dv 0 false 1 0=1
  decide+kernel
 |n+1,l,hl,hK=>by
  have hf:∀k,k≤n+1→((List.range k).foldl (fun s j=>s.plus (((l.getD (0*(n+1)+j) ex0).times (j7 n (mnR (n+1) l 0 j (n+1)))).sgn j)) ex0).val (K*(n+1))=qH (fun j=>sgI j*(mv K l (n+1) 0 j*ja n (aeJ (mv K l (n+1)) 0 j))) k∧ -((K*(n+1):Nat):Int)≤((List.range k).foldl (fun s j=>s.plus (((l.getD (0*(n+1)+j) ex0).times (j7 n (mnR (n+1) l 0 j (n+1)))).sgn j)) ex0).e:=by
   intro k
   induction k with
   |zero=>exact fun _=>⟨aeX _,by show-((K*(n+1):Nat):Int)≤0;omega⟩
   |succ k ih=>
    intro hk
    obtain⟨h1,h2⟩:=ih (by omega)
    obtain⟨h3,h4⟩:=agb n (mnR (n+1) l 0 k (n+1)) (by rw[yM (by omega),if_pos (by omega)];rfl) (bfZ hl hK)
    have h5:=QE hK (i:=0*(n+1)+k) (by rw[hl];exact zn (by omega) hk)
    rw[List.range_succ,List.foldl_append,List.foldl_cons,List.foldl_nil,qH]
    have h6: -((K*(n+1):Nat):Int)≤(((l.getD (0*(n+1)+k) ex0).times (j7 n (mnR (n+1) l 0 k (n+1)))).sgn k).e:=by
     rw[bfF,Nat.mul_succ]
     show _≤(l.getD (0*(n+1)+k) ex0).e+(j7 n (mnR (n+1) l 0 k (n+1))).e
     omega
    refine⟨?_,aaj h2 h6⟩
    rw[Qt h2 h6,h1,aNz,Nat.mul_succ,Nat.add_comm (K*n) K,Ql h5 h4,h3,jX (n:=n) fun i j hi hj=>bfY (by omega) (by omega) hi hj]
    rfl
  exact hf (n+1) (Nat.le_refl _)
theorem aQk{n:Nat}{L:List ExV}(h:matV n L)(hf:(j7 n L).fit=true):(j7 n L).tel.val (3000*n)=ja n (mv 3000 L n):=by
 obtain⟨h1,h2⟩:=agb n L h.len (h.eK (K:=3000) (by omega))
 rw[aNa hf,atk h2,h1]
end Go.Ab
namespace Go.Ab
open Go Go.Proofs
theorem asR(n:Nat)(hn:n≤4):Con Tryz.prog 152 false [.v (.int .i64 n)] [] (fun r hs bs=>r=.ag [.v (.int .i64 n),.rf 0 0 (n*n)]∧hs=[.own 3 (zV (n*n) z3)]):=by
 have hq:=yW hn
 have hz:((n:Int)*n).toNat=n*n:=by rw[←Int.natCast_mul];rfl
 have hz2:(n:Int)*n=((n*n:Nat):Int):=(Int.natCast_mul n n).symm
 refine Con.of_aw Tryz.func152 rfl Tryz.ntmps152 (by simp) (by simp) (by simp) (W.sound ?_)
 show @W Tryz.prog 9 ⟨_⟩ ⟨fun x σ=>@q9 _ _ _ ⟨_⟩ _ ⟨_⟩ x σ⟩ _ _
 simp(disch:=omega)only[go_sem]
 rw[hz]
 refine⟨by rw[hz2];omega,ql [(0,90000000)] [.own 3 (zV (n*n) z3)] [] [.ag [.v (.int .i64 n),.rf 0 0 (n*n)]] rfl (by simp(disch:=omega)only[go_sem]) (by simp(disch:=omega)only[go_sem,aHz,aHA];rfl) (by simp) (by simp) ⟨rfl,rfl⟩⟩
section
variable (l:List UInt8)(hl:l.length≤9223372036854775807)(i h:Int)(hi:0≤i∧i≤l.length)
include hl hi
theorem afa:Con Tryz.prog 153 false [.pt 10000000 0] [.own 0 [.sl l.length (qp l),.v (.int .i64 i),.v (.int .i64 h)]] (Xd l fun r=>∃x:ExV,x.ok=true∧r=.ag [.v (.bool (x).s),.sl (lim (x).m).length (qh (lim (x).m)),.v (.int .i64 (x).e)]):=by
 refine Con.of_aw Tryz.func153 rfl Tryz.ntmps153 (by simp) (by simp) (by simp) (W.sound ?_)
 show @W Tryz.prog 11 ⟨_⟩ ⟨fun x σ=>@q9 _ _ _ ⟨_⟩ _ ⟨_⟩ x σ⟩ _ _
 simp(disch:=omega)only[go_sem]
 refine qD (qS l hl i h hi 17 (by omega)) ?_
 rintro r i1 h1 hi1 ⟨k,hk,rfl⟩
 simp(disch:=omega)only[go_sem]
 have hk2:=hk.2 (by omega)
 refine qb (YW (k-8) (by omega)) ?_
 simp(disch:=omega)only[go_sem]
 refine qD (qS l hl i1 h1 hi1 4 (by omega)) ?_
 rintro r i2 h2 hi2 ⟨q,hq,rfl⟩
 simp(disch:=omega)only[go_sem]
 have hq2:=hq.2 (by omega)
 have b6:bl (k-8).natAbs≤6:=zD.2 (by omega)
 have cf:=yS (decide (k-8<0)) (k-8).natAbs (0-q) (by omega) (by omega)
 have hf:(ExV.mk (decide (k-8<0)) (k-8).natAbs (0-q)).can.ok=true:=by
  rw[aQE]
  show jW (k-8).natAbs (0-q)=true
  exact asp (by omega) (by omega)
 have hc:ExV.mk (oS (decide (k-8<0)) (k-8).natAbs) (oM (k-8).natAbs) (oE (k-8).natAbs (0-q))=(ExV.mk (decide (k-8<0)) (k-8).natAbs (0-q)).can:=rfl
 rw[←hc]at hf
 generalize oS (decide (k-8<0)) (k-8).natAbs=S at*
 generalize oM (k-8).natAbs=M at*
 generalize oE (k-8).natAbs (0-q)=E at*
 refine qb (cf) ?_
 simp(disch:=omega)only[go_sem]
 refine q8 (i2) (h2) ⟨⟨S,M,E⟩,hf,rfl⟩
theorem alp(n:Nat)(hn:n≤4):Con Tryz.prog 242 false [.pt 10000000 0,.v (.int .i64 n)] [.own 0 [.sl l.length (qp l),.v (.int .i64 i),.v (.int .i64 h)]] (fun r hs bs=>(∃L:List ExV,L.length=n*n∧(∀x∈L,x.ok=true)∧r=.ag [.v (.int .i64 n),.rf 0 0 (n*n)]∧hs=[.own 3 (qg ExV.cs L)])∧∃i h:Int,(0≤i∧i≤l.length)∧bs=[.own 0 [.sl l.length (qp l),.v (.int .i64 i),.v (.int .i64 h)]]):=by
 have hq:=yW hn
 refine Con.of_aw Tryz.func242 rfl Tryz.ntmps242 (by simp) (by simp) (by simp) (W.sound ?_)
 show @W Tryz.prog 31 ⟨_⟩ ⟨fun x σ=>@q9 _ _ _ ⟨_⟩ _ ⟨_⟩ x σ⟩ _ _
 simp(disch:=omega)only[go_sem]
 refine qK (asR n hn) (by simp(disch:=omega)only[go_sem]) ?_
 rintro r hs ⟨rfl,rfl⟩
 refine⟨by simp[qG];simp(disch:=omega)only[go_sem],?_⟩
 simp(disch:=omega)only[go_sem]
 refine qc (fun x:List ExV×Int×Int=>[(0,.pt 10000000 0),(4,.pt 4 0),(5,.pt 5 0),(6,.v (.int .i64 x.1.length))])
  (fun x=>[(3,.own 3 (qg ExV.cs x.1++zV (n*n-x.1.length) z3)),(4,.own 0 [.v (.int .i64 0),.v (.slice none 0 0)]),(5,.own 0 [.v (.int .i64 n),.rf 3 0 (n*n)]),(10000000,.own 0 [.sl l.length (qp l),.v (.int .i64 x.2.1),.v (.int .i64 x.2.2)])])
  (fun x=>x.1.length≤n*n∧(∀y∈x.1,y.ok=true)∧(0≤x.2.1∧x.2.1≤l.length)) (fun x=>n*n-x.1.length) ([],i,h) ⟨by simp,by simp,hi⟩
  (Le.lst [(3,100000000),(4,60000000),(5,70000000)] _ _ rfl (by simp(disch:=omega)only[go_sem]) (by simp(disch:=omega)only[go_sem,Q3,List.nil_append];try rfl)) ?_
 rintro⟨L,i2,h2⟩ ⟨hL,hok,hi2⟩
 dsimp only at hL hok hi2 ⊢
 simp(disch:=omega)only[go_sem]
 refine qe (fun c1=>?_) (fun c1=>?_)
 ·obtain⟨k,hk⟩:∃k,n*n-L.length=k+1:=⟨n*n-L.length-1,by omega⟩
  rw[hk]
  simp(disch:=omega)only[go_sem,c1]
  refine qD (zb l hl i2 h2 hi2 25 (by omega)) ?_
  rintro r i3 h3 hi3 ⟨b,rfl⟩
  simp(disch:=omega)only[go_sem]
  cases b
  ·simp(disch:=omega)only[go_sem]
   refine qm rfl [⟨0,[],[]⟩,⟨1,[],[]⟩,⟨2,[1],[]⟩,⟨3,[1],[]⟩,⟨4,[1],[]⟩,⟨5,[],[]⟩,⟨6,[],[]⟩] (by kernel_rfl) ?_
   simp(disch:=omega)only[go_sem]
   refine qD (afa l hl i3 h3 hi3) ?_
   rintro r i4 h4 hi4 ⟨x,hx,rfl⟩
   simp(disch:=omega)only[go_sem]
   have hl3:(L++[x]).length=L.length+1:=by simp
   rw[af4]
   refine⟨by omega,by rw[List.length_append,Ji,al4];omega,qa (L++[x],i4,h4) [] ⟨by dsimp only;omega,fun y hy=>?_,hi4⟩ (by show n*n-(L++[x]).length<k+1;omega) rfl (by simp(disch:=omega)only[go_sem,hl3];try omega) (by simp(disch:=omega)only[go_sem,hl3,show n*n-(L.length+1)=k by omega])⟩
   rcases List.mem_append.1 hy with hy|hy
   ·exact hok y hy
   ·rw[List.mem_singleton.1 hy];exact hx
  ·simp(disch:=omega)only[go_sem]
   refine qm rfl [⟨0,[],[]⟩,⟨1,[],[]⟩,⟨2,[1],[]⟩,⟨3,[1],[]⟩,⟨4,[1],[]⟩,⟨5,[],[]⟩,⟨6,[],[]⟩] (by kernel_rfl) ?_
   simp(disch:=omega)only[go_sem]
   refine qD (J7 l hl i3 h3 hi3) ?_
   rintro r i4 h4 hi4 ⟨x,hx,rfl⟩
   simp(disch:=omega)only[go_sem]
   have hl3:(L++[x]).length=L.length+1:=by simp
   rw[af4]
   refine⟨by omega,by rw[List.length_append,Ji,al4];omega,qa (L++[x],i4,h4) [] ⟨by dsimp only;omega,fun y hy=>?_,hi4⟩ (by show n*n-(L++[x]).length<k+1;omega) rfl (by simp(disch:=omega)only[go_sem,hl3];try omega) (by simp(disch:=omega)only[go_sem,hl3,show n*n-(L.length+1)=k by omega])⟩
   rcases List.mem_append.1 hy with hy|hy
   ·exact hok y hy
   ·rw[List.mem_singleton.1 hy];exact hx
 ·obtain hLn:L.length=n*n:=by omega
  simp(disch:=omega)only[go_sem,c1]
  refine ql [(0,3)] [.own 3 (qg ExV.cs L)] [.own 0 [.sl l.length (qp l),.v (.int .i64 i2),.v (.int .i64 h2)]] [.ag [.v (.int .i64 n),.rf 0 0 (n*n)]] rfl (by simp(disch:=omega)only[go_sem]) (by simp(disch:=omega)only[go_sem,hLn,Nat.sub_self,aRE,List.append_nil]) (by simp) (by simp) ⟨⟨L,hLn,hok,rfl,rfl⟩,_,_,hi2,rfl⟩
theorem aQr:Con Tryz.prog 109 false [.pt 10000000 0] [.own 0 [.sl l.length (qp l),.v (.int .i64 i),.v (.int .i64 h)]] (Xd l fun r=>∃n:Nat,(1≤n∧n≤4)∧r=.v (.int .i64 n)):=by
 refine Con.of_aw Tryz.func109 rfl Tryz.ntmps109 (by simp) (by simp) (by simp) (W.sound ?_)
 show @W Tryz.prog 6 ⟨_⟩ ⟨fun x σ=>@q9 _ _ _ ⟨_⟩ _ ⟨_⟩ x σ⟩ _ _
 simp(disch:=omega)only[go_sem]
 refine qD (qS l hl i h hi 4 (by omega)) ?_
 rintro r i1 h1 hi1 ⟨k,hk,rfl⟩
 simp(disch:=omega)only[go_sem]
 have hk2:=hk.2 (by omega)
 obtain⟨m,rfl⟩:=Int.eq_ofNat_of_zero_le hk.1
 refine q8 (i1) (h1) ⟨m+1,by omega,by rw[show((m+1:Nat):Int)=1+(m:Int) by omega];rfl⟩
def bf0(r:AV):Prop:=∃(n:Int) (l:List DyV),l.length≤16∧(∀d∈l,d.xs.length≤200)∧r=.ag [.v (.int .i64 n),.sl l.length (qg DyV.cs l)]
omit hl hi in
theorem YA{n:Int}{L:List DyV}{o k:Nat}(h1:L.length=o+k)(h2:L.length≤16)(h3:∀d∈L,d.xs.length≤200):bf0 (qN (rhp [.own 3 (qg DyV.cs L)] []) 6 (.ag [.v (.int .i64 n),.rf 0 (o*3) k])):=by
 refine⟨n,(L.drop o).take k,?_,fun d hd=>h3 d (List.mem_of_mem_drop (List.mem_of_mem_take hd)),?_⟩
 ·rw[List.length_take,List.length_drop];omega
 ·have e:((L.drop o).take k).length=k:=by rw[List.length_take,List.length_drop];omega
  rw[e]
  show AV.ag [_,qN _ 5 (.rf 0 (o*3) k)]=_
  simp only[aew,zg]
  rw[jb Zf,af8]
  rfl
omit hl hi in
theorem aNA(L:List ExV):qg ExV.cs L=qg DyV.cs (L.map ExV.dy):=aIG L
def bie(n:Nat)(r:AV)(hs:List Ob):Prop:=∃(k:Int) (M:List DyV) (o m:Nat),M.length=o+m∧o≤1∧M.length=n*n∧(∀d∈M,d.xs.length≤200)∧r=.ag [.v (.int .i64 k),.rf 0 (o*3) m]∧hs=[.own 3 (qg DyV.cs M)]
theorem afb(n:Nat)(hn:1≤n∧n≤4):Con Tryz.prog 154 false [.pt 10000000 0,.v (.int .i64 n)] [.own 0 [.sl l.length (qp l),.v (.int .i64 i),.v (.int .i64 h)]] (fun r hs bs=>bie n r hs∧∃i h:Int,(0≤i∧i≤l.length)∧bs=[.own 0 [.sl l.length (qp l),.v (.int .i64 i),.v (.int .i64 h)]]):=by
 have hq:=yW hn.2
 refine Con.of_aw Tryz.func154 rfl Tryz.ntmps154 (by simp) (by simp) (by simp) (W.sound ?_)
 show @W Tryz.prog 33 ⟨_⟩ ⟨fun x σ=>@q9 _ _ _ ⟨_⟩ _ ⟨_⟩ x σ⟩ _ _
 simp(disch:=omega)only[go_sem]
 refine yD false [10000000] (alp l hl i h hi n hn.2) (by simp(disch:=omega)only[go_sem]) (by simp(disch:=omega)only[go_sem]) rfl (qW (z:=0) (cs:=[.sl l.length (qp l),.v (.int .i64 i),.v (.int .i64 h)]) (by simp(disch:=omega)only[go_sem]) (by simp(disch:=omega)only[go_sem])) (by intro n hn;exact⟨_,List.mem_cons_self ..,by rw[List.mem_singleton.1 hn];rfl⟩) ?_
 rintro r hs bs ⟨⟨L,hL,hok,rfl,rfl⟩,i1,h1,hi1,rfl⟩-
 refine⟨by simp[qG];simp(disch:=omega)only[go_sem],?_⟩
 simp(disch:=omega)only[go_sem]
 have h16:(L.map ExV.dy).length=n*n:=by rw[List.length_map];exact hL
 have h200:∀d∈L.map ExV.dy,d.xs.length≤200:=fun d hd=>by
  obtain⟨x,hx,rfl⟩:=List.mem_map.1 hd
  have:=(Qu (hok x hx)).2.2.1
  show(lim x.m).length≤200
  omega
 rw[aNA]
 generalize L.map ExV.dy=M at*
 refine qD (zb l hl i1 h1 hi1 12 (by omega)) ?_
 rintro r i2 h2 hi2 ⟨b,rfl⟩
 simp(disch:=omega)only[go_sem]
 cases b
 ·simp(disch:=omega)only[go_sem]
  refine ql [(0,100000000)] [.own 3 (qg DyV.cs M)] [.own 0 [.sl l.length (qp l),.v (.int .i64 i2),.v (.int .i64 h2)]] [.ag [.v (.int .i64 n),.rf 0 (0*3) (n*n)]] rfl (by simp(disch:=omega)only[go_sem]) (by simp(disch:=omega)only[go_sem]) (by simp) (by simp) ⟨⟨_,M,0,n*n,by omega,by omega,h16,h200,rfl,rfl⟩,_,_,hi2,rfl⟩
 ·simp(disch:=omega)only[go_sem]
  refine qD (qS l hl i2 h2 hi2 3 (by omega)) ?_
  rintro r i3 h3 hi3 ⟨q,hq,rfl⟩
  simp(disch:=omega)only[go_sem]
  by_cases c0:q=0
  ·simp(disch:=omega)only[go_sem,c0]
   refine jZ (zI l hl i3 h3 hi3 [0,(n:Int)+1, -1] (by simp) (by simp)) ?_
   rintro r i4 h4 hi4 ⟨y,hy,rfl⟩
   clear hy
   simp(disch:=omega)only[go_sem]
   refine ql [(0,100000000)] [.own 3 (qg DyV.cs M)] [.own 0 [.sl l.length (qp l),.v (.int .i64 i4),.v (.int .i64 h4)]] [.ag [.v (.int .i64 y),.rf 0 (0*3) (n*n)]] rfl (by simp(disch:=omega)only[go_sem]) (by simp(disch:=omega)only[go_sem]) (by simp) (by simp) ⟨⟨_,M,0,n*n,by omega,by omega,h16,h200,rfl,rfl⟩,_,_,hi4,rfl⟩
  by_cases c1:q=1
  ·simp(disch:=omega)only[go_sem,c0,c1]
   have h1n:1≤n*n:=Nat.mul_le_mul hn.1 hn.1
   refine⟨by omega,?_⟩
   rw[show(((n*n:Nat):Int)-1).toNat=n*n-1 by omega]
   refine ql [(0,100000000)] [.own 3 (qg DyV.cs M)] [.own 0 [.sl l.length (qp l),.v (.int .i64 i3),.v (.int .i64 h3)]] [.ag [.v (.int .i64 n),.rf 0 (1*3) (n*n-1)]] rfl (by simp(disch:=omega)only[go_sem]) (by simp(disch:=omega)only[go_sem]) (by simp) (by simp) ⟨⟨_,M,1,n*n-1,by omega,by omega,h16,h200,rfl,rfl⟩,_,_,hi3,rfl⟩
  simp(disch:=omega)only[go_sem,c0,c1]
  refine qm rfl [⟨0,[],[]⟩,⟨1,[],[]⟩,⟨2,[1],[]⟩,⟨3,[1],[]⟩,⟨4,[],[]⟩,⟨5,[],[]⟩] (by kernel_rfl) ?_
  simp(disch:=omega)only[go_sem]
  have h1n:1≤n*n:=Nat.mul_le_mul hn.1 hn.1
  obtain⟨d0,M,rfl⟩:∃d0 M',M=d0::M':=by
   cases M with
   |nil=>simp at h16;omega
   |cons d M=>exact⟨d,M,rfl⟩
  refine qD (alr l hl i3 h3 hi3) ?_
  rintro r i4 h4 hi4 ⟨⟨S,xs,E⟩,hd,hr⟩
  obtain rfl:r=.ag [.v (.bool S),.sl xs.length (qh xs),.v (.int .i64 E)]:=hr
  dsimp only at hd
  simp(disch:=omega)only[go_sem,aGC]
  refine⟨by omega,by omega,ql [(0,100000000)] [.own 3 (qg DyV.cs (⟨S,xs,E⟩::M))] [.own 0 [.sl l.length (qp l),.v (.int .i64 i4),.v (.int .i64 h4)]] [.ag [.v (.int .i64 n),.rf 0 (0*3) (n*n)]] rfl (by simp(disch:=omega)only[go_sem]) (by simp(disch:=omega)only[go_sem]) (by simp) (by simp) ⟨⟨_,_,0,n*n,by simp at h16 ⊢;omega,by omega,by simp at h16 ⊢;omega,(fun d hd'=>?_),rfl,rfl⟩,_,_,hi4,rfl⟩⟩
  rcases List.mem_cons.1 hd' with rfl|hd'
  ·exact hd
  ·exact h200 d (List.mem_cons_of_mem _ hd')
end
end Go.Ab
namespace Go.Ab
open Go Go.Proofs
def blA(M:List DyV):Prop:=M.length≤16∧∀d∈M,d.xs.length≤200
end Go.Ab
namespace Go.Ab
open Go Go.Proofs
theorem asL(l:List UInt8)(hl:l.length≤140737488351232):Con Tryz.prog 27 false [.sl l.length (qp l),.v (.int .i64 1)] [] (isA (.sl (l.length+2) (qp (1::7::l)))):=by
 refine Con.frzA ?_
 refine Con.of_aw Tryz.func27 rfl Tryz.ntmps27 (by simp) (by simp) (by simp) (W.sound ?_)
 show @W Tryz.prog 13 ⟨_⟩ ⟨fun x σ=>@q9 _ _ _ ⟨_⟩ _ ⟨_⟩ x σ⟩ _ _
 simp(disch:=omega)only[go_sem]
 have e:(.v (.int .u8 (IntKind.u8.wrap 1)):: .v (.int .u8 (IntKind.u8.wrap (1*7)))::qp l:List AV)=qp (1::7::l):=rfl
 rw[e,Nat.add_comm 2]
 refine⟨by omega,ql [(0,140000000)] [.own 1 (qp (1::7::l))] [] [.rf 0 0 (l.length+2)] rfl (by simp(disch:=omega)only[go_sem]) (by simp(disch:=omega)only[go_sem]) (by simp) (by simp) ?_⟩
 show qN _ 6 _=_
 simp(disch:=omega)only[go_sem,zg,show List.take (l.length+2) (1::7::l)=1::7::l from List.take_of_length_le (by simp)]
theorem Qh(k:Int)(M:List DyV)(h1:M.length≤16)(h2:∀d∈M,d.xs.length≤200):Con Tryz.prog 25 true [.ag [.v (.int .i64 k),.sl M.length (qg DyV.cs M)]] [] (isA (.v (.bool (JC k M)))):=by
 unfold JC
 refine Con.of_w (rs:=[.tmp 2]) Tryz.func25 rfl Tryz.ntmps25 rfl ?_
 simp(disch:=omega)only[go_sem]
 by_cases c1:k<1
 ·rw[decide_eq_false (show ¬1≤k by omega),Bool.false_and,Bool.false_and]
  simp(disch:=omega)only[go_sem,c1]
  exact qz
 by_cases c2:4<k
 ·rw[decide_eq_false (show ¬k≤4 by omega),Bool.and_false,Bool.false_and]
  simp(disch:=omega)only[go_sem,c1,c2]
  exact qz
 rw[decide_eq_true (show 1≤k by omega),decide_eq_true (show k≤4 by omega),Bool.true_and,Bool.true_and]
 have hq:0≤k*k∧k*k≤16:=⟨Int.mul_nonneg (by omega) (by omega),Int.mul_le_mul (show k≤4 by omega) (show k≤4 by omega) (by omega) (by omega)⟩
 by_cases c3:(M.length:Int)=k*k
 rotate_left
 ·rw[decide_eq_false c3,Bool.false_and]
  simp(disch:=omega)only[go_sem,c1,c2,decide_eq_false c3]
  exact qz
 rw[decide_eq_true c3,Bool.true_and]
 simp(disch:=omega)only[go_sem,c1,c2,decide_eq_true c3]
 refine qc (fun i:Nat=>[(1,.pt 1 0),(2,.v (.bool false)),(3,.v (.int .i64 i))]) (fun _=>[(1,.own 0 [.v (.int .i64 k),.sl M.length (qg DyV.cs M)])]) (fun i=>i≤M.length∧∀j,j<i→(M.getD j dy0).ok=true) (fun i=>M.length-i) 0 ⟨by omega,fun j hj=>by omega⟩
  (Le.lst [(1,30000000)] _ _ rfl (by simp(disch:=omega)only[go_sem]) (by simp(disch:=omega)only[go_sem])) ?_
 rintro i ⟨hi,hp⟩
 simp(disch:=omega)only[go_sem]
 refine qe (fun h3=>?_) (fun h3=>?_)
 ·have hcut:=QU (l:=M) Zf (i:=i) (by omega) dy0
  have hmem:M.getD i dy0∈M:=by
   rw[List.getD_eq_getElem?_getD,List.getElem?_eq_getElem (by omega)];exact List.getElem_mem _
  have hx:=h2 _ hmem
  have cd:=QH (M.getD i dy0).s (M.getD i dy0).xs (M.getD i dy0).e (by omega)
  rw[show dyB (M.getD i dy0).s (M.getD i dy0).xs (M.getD i dy0).e=(M.getD i dy0).ok from rfl]at cd
  have hall:(M.getD i dy0).ok=false→M.all DyV.ok=false:=fun h=>List.all_eq_false.2 ⟨_,hmem,by rw[h];simp⟩
  have hnext:(M.getD i dy0).ok=true→∀j,j<i+1→(M.getD j dy0).ok=true:=fun h j hj=>by
   rcases(by omega:j<i∨j=i)with h'|rfl
   ·exact hp j h'
   ·exact h
  generalize M.getD i dy0=d at*
  simp(disch:=omega)only[go_sem,h3,hcut,DyV.cs]
  refine⟨by omega,by omega,qo cd ?_⟩
  simp(disch:=omega)only[go_sem]
  cases hd:d.ok
  ·rw[hall hd]
   simp(disch:=omega)only[go_sem,hd]
   exact qz
  ·simp(disch:=omega)only[go_sem,hd]
   exact qa (i+1) [] ⟨by omega,hnext hd⟩ (by show M.length-(i+1)<M.length-i;omega) rfl (by simp(disch:=omega)only[go_sem];try omega) (by simp(disch:=omega)only[go_sem])
 ·simp(disch:=omega)only[go_sem,h3]
  have hall:M.all DyV.ok=true:=List.all_eq_true.2 fun d hd=>by
   obtain⟨j,hj,rfl⟩:=List.getElem_of_mem hd
   have:=hp j (by omega)
   rw[List.getD_eq_getElem?_getD,List.getElem?_eq_getElem hj]at this
   exact this
  rw[hall]
  exact qz
end Go.Ab
namespace Go.Ab
open Go Go.Proofs
/-! ### Matrices that were told,or not-/
def optM(n N:Nat)(T:List ExV):Prop:=(N=n∧matV n T)∨(N=0∧T=[])
def biq(M:List DyV):Prop:=M.length≤16∧∀d∈M,d.xs.length≤200
theorem matV.lens{n:Nat}{L:List ExV}(h:matV n L):biq (L.map ExV.dyv):=⟨by rw[List.length_map];exact h.l16,fun d hd=>by
 obtain⟨x,hx,rfl⟩:=List.mem_map.1 hd
 have:=(Qu (h.ok x hx)).2.2.1
 show(lim x.m).length≤200
 omega⟩
theorem optM.lens{n N:Nat}{T:List ExV}(h:optM n N T):biq (T.map ExV.dyv):=by
 rcases h with⟨-,h⟩|⟨-,rfl⟩
 ·exact h.lens
 ·exact⟨by simp,by simp⟩
theorem bf1(M:List DyV):JC ((0:Nat):Int) M=false:=by unfold JC;simp
theorem afn(n:Nat)(L:List ExV)(h:matV n L):Con Tryz.prog 25 true [.ag [.v (.int .i64 (n)),.sl (L).length (qg ExV.cs (L))]] [] (isA (.v (.bool true))):=by
 have c:=Qh n (L.map ExV.dyv) h.lens.1 h.lens.2
 rw[yI,List.length_map,show JC (n:Int) (L.map ExV.dyv)=true by
  have:=arE (n:Int) L
  rw[show L.map ExV.dyv=L.map ExV.dy from rfl,this]
  unfold aIR
  simp only[Bool.and_eq_true,decide_eq_true_eq,List.all_eq_true]
  exact⟨⟨by have:=h.n1;omega,by have:=h.n4;omega⟩,by rw[h.len,Int.natCast_mul],h.ok⟩]at c
 exact c
end Go.Ab
namespace Go.Ab
open Go Go.Proofs
/-! ### Turned matrices-/
def Je(n:Nat)(l:List ExV):List ExV:=gl n (fun i j=>l.getD (j*n+i) ex0) (n*n)
theorem aaD{n:Nat}{L:List ExV}(h:matV n L):matV n (Je n L):=⟨h.n1,h.n4,yw,fun x hx=>by
 unfold Je gl at hx
 obtain⟨t,ht,rfl⟩:=List.mem_map.1 hx
 have ht:=List.mem_range.1 ht
 have h0:=h.n1
 have hj:=Nat.mod_lt t (show 0<n by omega)
 have hi:t/n<n:=(Nat.div_lt_iff_lt_mul (by omega)).2 ht
 have hm:=zn hj hi
 show(L.getD (t % n*n+t/n) ex0).ok=true
 exact h.ok _ (by rw[List.getD_eq_getElem?_getD,List.getElem?_eq_getElem (by rw[h.len];exact hm)];exact List.getElem_mem _)⟩
theorem aOg{L:List ExV}(h:∀x∈L,x.ok=true):L.all ExV.fit=true∧L.map ExV.can=L:=
 ⟨List.all_eq_true.2 fun x hx=>aTx (h x hx),by
  conv=>rhs;rw[←List.map_id L]
  exact List.map_congr_left fun x hx=>aIJ (h x hx)⟩
theorem aly(n:Nat)(l:List ExV)(i j:Nat)(hn:n≤4)(hi:i<n)(hj:j<n)(hl:l.length=n*n):
  Con Tryz.prog 95 false [.v (.int .i64 i),.v (.int .i64 j),.fp [.v (.int .i64 n),.sl l.length (qg ExV.cs l)] 0] [] (isA (.ag [.v (.bool (l.getD (j*n+i) ex0).s),.sl (lim (l.getD (j*n+i) ex0).m).length (qh (lim (l.getD (j*n+i) ex0).m)),.v (.int .i64 (l.getD (j*n+i) ex0).e)])):=by
 refine Con.frzA ?_
 have hx:=zn hj hi
 have hq:=yW hn
 have c1:=y5 n l j i (by omega) (by omega) (by omega) (by omega) (by omega)
 generalize l.getD (j*n+i) ex0=x at*
 refine Con.of_w (rs:=[.cell 5 117]) Tryz.func95 rfl Tryz.ntmps95 rfl ?_
 simp(disch:=omega)only[go_sem]
 refine qb (c1) ?_
 simp(disch:=omega)only[go_sem]
 exact qq
theorem aa6(n:Nat)(L:List ExV)(h:matV n L):Con Tryz.prog 26 false [.ag [.v (.int .i64 (n)),.sl (L).length (qg ExV.cs (L))]] [] (isA (.tu [.ag [.v (.int .i64 (n)),.sl (Je n L).length (qg ExV.cs (Je n L))],.v (.bool true)])):=by
 refine Con.frzA ?_
 have c:=je n 95 [.fp [.v (.int .i64 n),.sl L.length (qg ExV.cs L)] 0] (fun i j=>L.getD (j*n+i) ex0) h.n4 (fun i j hi hj=>aly n L i j h.n4 hi hj h.len) (by simp(disch:=omega)only[go_sem]) (fun h=>rfl) (fun h=>rfl) (fun ks=>by simp(disch:=omega)only[go_sem]) (fun ρ=>rfl)
 change Con _ _ _ _ _ (isA (.ag [.v (.int .i64 (n)),.sl (Je n L).length (qg ExV.cs (Je n L))]))at c
 have hT:=aaD h
 have cm:=agh n (Je n L) (by have:=hT.l16;omega) hT.bd4
 obtain⟨e1,e2⟩:=aOg hT.ok
 unfold gN gT at cm
 rw[e1,if_pos rfl,if_pos rfl,e2]at cm
 generalize Je n L=T at*
 refine Con.of_aw Tryz.func26 rfl Tryz.ntmps26 (by simp) (by simp) (by simp)
  (AW.seqLe (E:=[(1,.pt 1 0),(2,.pt 2 0)]) (H:=[(1,.own 0 [.v (.int .i64 n),.sl L.length (qg ExV.cs L)]),(2,.own 0 [.v (.int .i64 0),.v (.slice none 0 0)])]) (W.sound ?_)
   (AW.seqLe (E:=[(1,.pt 1 0),(2,.pt 2 0)]) (H:=[(1,.own 0 [.v (.int .i64 n),.sl L.length (qg ExV.cs L)]),(2,.own 0 [.v (.int .i64 0),.v (.slice none 0 0)])]) (W.sound ?_)
    (AW.seqLe (E:=[(1,.pt 1 0),(2,.pt 2 0),(4,.fp [.v (.int .i64 n),.sl L.length (qg ExV.cs L)] 0)]) (H:=[(1,.own 0 [.v (.int .i64 n),.sl L.length (qg ExV.cs L)]),(2,.own 0 [.v (.int .i64 0),.v (.slice none 0 0)])]) (W.sound ?_) (W.sound ?_))))
 ·show @W Tryz.prog 18 ⟨_⟩ ⟨_⟩ _ _
  simp(disch:=omega)only[go_sem]
  exact Le.lst [(1,30000000),(2,40000000)] _ _ rfl (by simp(disch:=omega)only[go_sem]) (by simp(disch:=omega)only[go_sem])
 ·show @W Tryz.prog 18 ⟨_⟩ ⟨_⟩ _ _
  simp(disch:=omega)only[go_sem]
  refine qo (jy n L h) ?_
  simp(disch:=omega)only[go_sem]
  exact Le.lst [] _ _ rfl (by simp(disch:=omega)only[go_sem]) (by simp(disch:=omega)only[go_sem])
 ·show @W Tryz.prog 18 ⟨_⟩ ⟨_⟩ _ _
  simp(disch:=omega)only[go_sem]
  refine qb (zC n L (by have:=h.l16;omega)) ?_
  simp(disch:=omega)only[go_sem]
  exact(Le.frz 60000000 (z:=0) (ks:=[.v (.int .i64 n),.sl L.length (qg ExV.cs L)]) (by simp(disch:=omega)only[go_sem]) rfl (by simp(disch:=omega)only[go_sem])).trans (Le.lst [] _ _ rfl (by simp(disch:=omega)only[go_sem]) (by simp(disch:=omega)only[go_sem]))
 show @W Tryz.prog 18 ⟨_⟩ ⟨fun x σ=>@q9 _ _ _ ⟨_⟩ _ ⟨_⟩ x σ⟩ _ _
 simp(disch:=omega)only[go_sem]
 refine qb (c) ?_
 simp(disch:=omega)only[go_sem]
 refine qb (cm) ?_
 simp(disch:=omega)only[go_sem]
 exact qq
end Go.Ab
namespace Go.Ab
open Go Go.Proofs
section
variable (l:List UInt8)(hl:l.length≤9223372036854775807)(i h:Int)(hi:0≤i∧i≤l.length)
include hl hi
theorem JI:Con Tryz.prog 89 false [.pt 10000000 0] [.own 0 [.sl l.length (qp l),.v (.int .i64 i),.v (.int .i64 h)]] (Xd l bf0):=by
 refine Con.cur l i h (Q:=fun r hs=>(∀ob∈hs,ob.men fun _=>False)∧bf0 (qN (rhp hs []) 6 r)) ?_ fun _ _ h=>h
 refine Con.of_aw Tryz.func89 rfl Tryz.ntmps89 (by simp) (by simp) (by simp) (W.sound ?_)
 show @W Tryz.prog 47 ⟨_⟩ ⟨fun x σ=>@q9 _ _ _ ⟨_⟩ _ ⟨_⟩ x σ⟩ _ _
 simp(disch:=omega)only[go_sem]
 refine qD (aQr l hl i h hi) ?_
 rintro r i1 h1 hi1 ⟨n,hn,rfl⟩
 simp(disch:=omega)only[go_sem]
 refine yD false [10000000] (afb l hl i1 h1 hi1 n hn) (by simp(disch:=omega)only[go_sem]) (by simp(disch:=omega)only[go_sem]) rfl (qW (z:=0) (cs:=[.sl l.length (qp l),.v (.int .i64 i1),.v (.int .i64 h1)]) (by simp(disch:=omega)only[go_sem]) (by simp(disch:=omega)only[go_sem])) (by intro n hn;exact⟨_,List.mem_cons_self ..,by rw[List.mem_singleton.1 hn];rfl⟩) ?_
 rintro r hs bs ⟨⟨k,M,o,m,g1,g0,g2,g3,rfl,rfl⟩,i2,h2,hi2,rfl⟩-
 refine⟨by simp[qG];simp(disch:=omega)only[go_sem],?_⟩
 simp(disch:=omega)only[go_sem]
 have hq:=yW hn.2
 have hlen:((M.drop o).take m).length=m:=by rw[List.length_take,List.length_drop];omega
 have hc:cut (qg DyV.cs M) (o*3) (m*3)=qg DyV.cs ((M.drop o).take m):=jb Zf o m
 have cM:=Qh k ((M.drop o).take m) (by omega) (fun d hd=>g3 d (List.mem_of_mem_drop (List.mem_of_mem_take hd)))
 rw[hlen]at cM
 have hm:∀(M:List DyV),∀ob∈[Ob.own 3 (qg DyV.cs M)],ob.men fun _=>False:=fun M ob ho=>by rw[List.mem_singleton.1 ho];exact of_eq_true asn
 refine qo cM ?_ (by simp(disch:=omega)only[go_sem,hc])
 simp(disch:=omega)only[go_sem]
 cases hB:JC k ((M.drop o).take m)
 ·simp(disch:=omega)only[go_sem]
  refine ql [(0,120000000)] [.own 3 (qg DyV.cs M)] [.own 0 [.sl l.length (qp l),.v (.int .i64 i2),.v (.int .i64 h2)]] [.ag [.v (.int .i64 k),.rf 0 (o*3) m]] rfl (by simp(disch:=omega)only[go_sem]) (by simp(disch:=omega)only[go_sem]) (by simp) (by simp) ⟨⟨hm M,YA g1 (by omega) g3⟩,_,_,hi2,rfl⟩
 obtain⟨n2,L,rfl,hML,hL⟩:=arD hB
 have hm2:m=n2*n2:=by rw[←hlen,hML,List.length_map,hL.len]
 have hnn:n2=n∧o=0:=by
  have:=hL.n1
  have:=hL.n4
  obtain⟨hn1,hn4⟩:=hn
  rcases(show n=1∨n=2∨n=3∨n=4 by omega)with rfl|rfl|rfl|rfl<;>rcases(show n2=1∨n2=2∨n2=3∨n2=4 by omega)with rfl|rfl|rfl|rfl<;>omega
 obtain⟨rfl,rfl⟩:=hnn
 subst hm2
 have hMM:M=L.map ExV.dyv:=by
  rw[←hML,List.drop_zero,List.take_of_length_le (by omega)]
 simp(disch:=omega)only[go_sem]
 by_cases h1n:(1:Int)<n2
 rotate_left
 ·simp(disch:=omega)only[go_sem,h1n]
  refine ql [(0,120000000)] [.own 3 (qg DyV.cs M)] [.own 0 [.sl l.length (qp l),.v (.int .i64 i2),.v (.int .i64 h2)]] [.ag [.v (.int .i64 n2),.rf 0 (0*3) (n2*n2)]] rfl (by simp(disch:=omega)only[go_sem]) (by simp(disch:=omega)only[go_sem]) (by simp) (by simp) ⟨⟨hm M,YA g1 (by omega) g3⟩,_,_,hi2,rfl⟩
 simp(disch:=omega)only[go_sem,h1n]
 refine qD (zb l hl i2 h2 hi2 2 (by omega)) ?_
 rintro r i3 h3 hi3 ⟨b,rfl⟩
 simp(disch:=omega)only[go_sem]
 cases b
 ·simp(disch:=omega)only[go_sem]
  refine ql [(0,120000000)] [.own 3 (qg DyV.cs M)] [.own 0 [.sl l.length (qp l),.v (.int .i64 i3),.v (.int .i64 h3)]] [.ag [.v (.int .i64 n2),.rf 0 (0*3) (n2*n2)]] rfl (by simp(disch:=omega)only[go_sem]) (by simp(disch:=omega)only[go_sem]) (by simp) (by simp) ⟨⟨hm M,YA g1 (by omega) g3⟩,_,_,hi3,rfl⟩
 simp(disch:=omega)only[go_sem]
 refine qc (fun x:Nat×List DyV=>[(0,.pt 10000000 0),(2,.pt 5 0),(3,.v (.int .i64 n2)),(4,.pt 4 0),(5,.v (.int .i64 x.1))])
  (fun x=>[(3,.own 3 (qg DyV.cs x.2)),(4,.own 0 [.v (.int .i64 n2),.rf 3 0 (n2*n2)]),(5,.own 0 [.v (.int .i64 0),.v (.slice none 0 0)]),(10000000,.own 0 [.sl l.length (qp l),.v (.int .i64 i3),.v (.int .i64 h3)])])
  (fun x=>x.1≤n2∧x.2.length=n2*n2∧(∀d∈x.2,d.xs.length≤200)∧∀t,t<n2→x.2.getD t dy0=(L.getD t ex0).dyv) (fun x=>n2-x.1) (0,M) ⟨by simp,g2,g3,fun t ht=>?_⟩
  (Le.lst [(3,120000000),(4,60000000),(5,40000000)] _ _ rfl (by simp(disch:=omega)only[go_sem]) (by simp(disch:=omega)only[go_sem])) ?_
 ·have:n2≤n2*n2:=Nat.le_mul_of_pos_left n2 (by omega)
  rw[hMM,List.getD_eq_getElem?_getD,List.getElem?_map,List.getD_eq_getElem?_getD,List.getElem?_eq_getElem (by rw[hL.len];omega)];rfl
 rintro⟨j,D⟩ ⟨hj,hD,hD2,hD3⟩
 dsimp only at hj hD hD2 hD3 ⊢
 simp(disch:=omega)only[go_sem]
 refine qe (fun c1=>?_) (fun c1=>?_)
 ·have hnn:n2≤n2*n2:=Nat.le_mul_of_pos_left n2 (by omega)
  have hcut:=aQg (l:=D) (i:=j) (by omega)
  rw[hD3 j (by omega)]at hcut
  have hok:(L.getD j ex0).ok=true:=hL.ok _ (by rw[List.getD_eq_getElem?_getD,List.getElem?_eq_getElem (by rw[hL.len];omega)];exact List.getElem_mem _)
  have hst:∀y:ExV,(lim y.m).length≤200→(∀d∈D.set ((n2-1)*n2+j) y.dyv,d.xs.length≤200)∧∀t,t<n2→(D.set ((n2-1)*n2+j) y.dyv).getD t dy0=(L.getD t ex0).dyv:=fun y hy=>⟨fun d hd=>by
   rcases List.mem_or_eq_of_mem_set hd with hd|rfl
   ·exact hD2 d hd
   ·exact hy,fun t ht=>by
   have:n2≤(n2-1)*n2:=Nat.le_mul_of_pos_left n2 (by omega)
   rw[List.getD_eq_getElem?_getD,List.getElem?_set_ne (by omega),←List.getD_eq_getElem?_getD]
   exact hD3 t ht⟩
  have hidx:(n2-1)*n2+j<n2*n2:=zn (by omega) (by omega)
  have eidx:((n2:Int)-1)*n2+j=(((n2-1)*n2+j:Nat):Int):=by rw[Int.natCast_add,Int.natCast_mul];congr 2;omega
  have hset:=fun y:ExV=>aQd (L:=D) (i:=(n2-1)*n2+j) (s:=y.s) (xs:=lim y.m) (e:=y.e) (by omega)
  have hsl:∀y:ExV,(D.set ((n2-1)*n2+j) y.dyv).length=n2*n2:=fun y=>by rw[List.length_set];exact hD
  generalize (n2-1)*n2+j=p at*
  generalize L.getD j ex0=x at*
  have bx:=ark hok
  have ca:=als x x (bx.mono (by omega) (by omega)) (bx.mono (by omega) (by omega))
  have hl2:(lim (x.plus x).can.m).length≤200:=by
   have r:=Qu hok
   have e:=aQi (K:=3000) (s:=(x.plus x).s) (m:=(x.plus x).m) (e:=(x.plus x).e) (s':=x.s) (m':=x.m) (e':=x.e+1) (aaj (by omega) (by omega)) (by omega) (by
    have h1:=Qt (K:=3000) (x:=x) (y:=x) (by omega) (by omega)
    have h2:dv 3000 x.s x.m (x.e+1)=x.val 3000*2:=by
     unfold ExV.val dv
     rw[show(x.e+1+((3000:Nat):Int)).toNat=(x.e+((3000:Nat):Int)).toNat+1 by omega,Int.pow_succ,Int.mul_assoc]
    have h1':dv 3000 (x.plus x).s (x.plus x).m (x.plus x).e=x.val 3000+x.val 3000:=h1
    omega)
   have:(x.plus x).can.m=oM x.m:=e.2.1
   rw[this]
   have:=yP (aFg x.m)
   omega
  generalize (x.plus x).can=y at*
  dsimp only[ExV.dyv]at hcut
  simp(disch:=omega)only[go_sem,c1]
  refine qm rfl [⟨0,[],[]⟩,⟨1,[],[]⟩,⟨2,[1],[]⟩,⟨3,[1],[]⟩,⟨4,[1],[]⟩,⟨5,[1],[]⟩,⟨6,[1],[]⟩,⟨7,[1],[]⟩,⟨8,[1],[]⟩,⟨9,[1],[]⟩,⟨10,[1,9],[]⟩,⟨11,[1],[]⟩,⟨12,[1],[]⟩,⟨13,[1,9,12],[]⟩,⟨14,[1,9,12],[]⟩,⟨15,[1,9,12,14],[]⟩,⟨16,[1,9,12],[]⟩,⟨17,[1,9,12],[]⟩,⟨18,[1],[]⟩,⟨19,[],[]⟩,⟨20,[],[]⟩] (by kernel_rfl) ?_
  simp(disch:=omega)only[go_sem,hcut]
  refine⟨by omega,by omega,by omega,by omega,?_⟩
  refine qb (ca) ?_
  simp(disch:=omega)only[go_sem]
  simp(disch:=omega)only[go_sem,eidx]
  rw[hset y]
  exact⟨by omega,by omega,qa (j+1,D.set p y.dyv) [] ⟨by omega,hsl y,(hst y hl2).1,(hst y hl2).2⟩ (by show n2-(j+1)<n2-j;omega) rfl (by simp(disch:=omega)only[go_sem];try omega) (by simp(disch:=omega)only[go_sem];rfl)⟩
 ·simp(disch:=omega)only[go_sem,c1]
  refine ql [(0,3)] [.own 3 (qg DyV.cs D)] [.own 0 [.sl l.length (qp l),.v (.int .i64 i3),.v (.int .i64 h3)]] [.ag [.v (.int .i64 n2),.rf 0 (0*3) (n2*n2)]] rfl (by simp(disch:=omega)only[go_sem]) (by simp(disch:=omega)only[go_sem]) (by simp) (by simp) ⟨⟨hm D,YA (o:=0) (by omega) (by omega) hD2⟩,_,_,hi3,rfl⟩
end
end Go.Ab
namespace Go.Ab
def idI(i j:Nat):Int:=if i=j then 1 else 0
def bip(n:Nat)(A:Nat→Nat→Int):Nat→Nat→Nat→Int
 |0=>idI
 |k+1=>j0 n (bip n A k) A
def pm3(A:Nat→Nat→Int)(r:Nat):Int:=ja 3 (aeJ A r r)
end Go.Ab
namespace Go.Ab
/-! ### Sums of powers of a matrix,at one scale-/
def p2(k:Nat):Int:=2^k
theorem aTt(a:Nat):0<p2 a:=Int.pow_pos (by omega)
def bls(n:Nat)(P:Nat→Int)(A:Nat→Nat→Int)(m i j:Nat):Int:=qH (fun t=>P t*bip n A t i j*p2 (40000-3000*(t+1))) m
end Go.Ab
namespace Go.Ab
open Go Go.Proofs
theorem ara{n:Nat}(hn:n≤4){A:Nat→Nat→Int}{r j:Nat}:∀d m C,n≤m+d→elimR n A C r j m→∃C',elim n A C' (r+1) (j+1)
 |0,m,C,h,e=>⟨C,e.done (by omega)⟩
 |d+1,m,C,h,e=>by
  rcases Nat.lt_or_ge m n with g|g
  ·refine ara hn d (m+1) (fun i k=>if i=m then C m k*C r j-C r k*C m j else C i k) (by omega) (e.step hn g (fun i k _ _ hne=>if_neg hne) (fun k _=>if_pos rfl))
  ·exact⟨C,e.done g⟩
theorem afr{n:Nat}(hn:n≤4){A:Nat→Nat→Int}:∀d j r C,j+d=n→elim n A C r j→∃C r,elim n A C r n
 |0,j,r,C,h,e=>⟨C,r,by rw[Nat.add_zero]at h;exact h▸e⟩
 |d+1,j,r,C,h,e=>by
  by_cases hz:∀i,r≤i→i<n→C i j=0
  ·exact afr hn d (j+1) r C (by omega) (e.skip hz)
  ·have⟨k,hk⟩:∃k,¬(r≤k→k<n→C k j=0):=by
    by_cases g:∃k,¬(r≤k→k<n→C k j=0)
    ·exact g
    ·exact absurd (fun i=>by
      by_cases g2:r≤i→i<n→C i j=0
      ·exact g2
      ·exact absurd ⟨i,g2⟩ g) hz
   have h1:r≤k:=by
    rcases Nat.lt_or_ge k r with g|g
    ·exact absurd (fun a=>by omega) hk
    ·exact g
   have h2:k<n:=by
    rcases Nat.lt_or_ge k n with g|g
    ·exact g
    ·exact absurd (fun _ b=>by omega) hk
   have h3:C k j≠0:=fun z=>hk fun _ _=>z
   have s:=e.swap hn (by omega) h1 h2
   have e2:swI r k r=k:=by unfold swI;rw[if_pos rfl]
   have p:=s.pivot (by omega) (by omega) (show C (swI r k r) j≠0 by rw[e2];exact h3)
   obtain⟨C',e'⟩:=ara hn n (r+1) _ (by omega) p
   exact afr hn d (j+1) (r+1) C' (by omega) e'
theorem aez{n:Nat}(hn:n≤4)(A:Nat→Nat→Int):∃r,isRank n A r:=by
 obtain⟨C,r,e⟩:=afr hn n 0 0 A (by omega) (elim.start n hn A)
 exact⟨r,e.rank hn⟩
theorem arb{n r s:Nat}{A:Nat→Nat→Int}(h:isRank n A r)(g:isRank n A s):s=r:=Nat.le_antisymm (g.low r h.up) (h.low s g.up)
theorem jH(n:Nat)(L:List ExV)(h:matV n L):∃r:Nat,isRank n (mv 3000 L n) r∧Con Tryz.prog 23 true [.ag [.v (.int .i64 (n)),.sl (L).length (qg ExV.cs (L))]] [] (isA (.v (.int .i64 r))):=by
 obtain⟨r,hr⟩:=aez h.n4 (mv 3000 L n)
 refine⟨r,hr,?_⟩
 have cW:Con Tryz.prog 90 true [.ag [.v (.int .i64 (n)),.sl (L).length (qg ExV.cs (L))]] [] (rkQ n L):=by
  have h1:=h.n1
  have h4:=h.n4
  rcases(show n=1∨n=2∨n=3∨n=4 by omega)with e|e|e|e
  ·exact alj n e L h
  ·exact ali n e L h
  ·exact alh n e L h
  ·exact alg n e L h
 have c:Con Tryz.prog 90 true [.ag [.v (.int .i64 (n)),.sl (L).length (qg ExV.cs (L))]] [] (isA (.v (.int .i64 r))):=cW.mono fun x hs bs ⟨a,b,s,hs',e⟩=>⟨by rw[e,arb hr hs'],a,b⟩
 have cg:=zC n L (by have:=h.l16;omega)
 have cm:=jy n L h
 refine Con.of_w (rs:=[.tmp 2]) Tryz.func23 rfl Tryz.ntmps23 rfl ?_
 simp(disch:=omega)only[go_sem]
 refine qo (cm) ?_
 simp(disch:=omega)only[go_sem]
 refine qb (cg) ?_
 simp(disch:=omega)only[go_sem]
 refine qo (c) ?_
 simp(disch:=omega)only[go_sem]
 exact qz
theorem y6(k:Int)(M:List DyV)(h1:M.length≤16)(h2:∀d∈M,d.xs.length≤200)(h:JC k M=false):Con Tryz.prog 23 true [.ag [.v (.int .i64 k),.sl M.length (qg DyV.cs M)]] [] (isA (.v (.int .i64 0))):=by
 have c:=yU k M h1 h2
 rw[h]at c
 refine Con.of_w (rs:=[.tmp 2]) Tryz.func23 rfl Tryz.ntmps23 rfl ?_
 simp(disch:=omega)only[go_sem]
 refine qo (c) ?_
 simp(disch:=omega)only[go_sem]
 exact qz
theorem yC(l:List UInt8)(hl:l.length≤9223372036854775807):Con Tryz.prog 22 false [.sl l.length (qp l)] [] (fun r hs bs=>hs=[]∧bs=[]∧∃(n:Int) (L:List DyV),(L.length≤16∧∀d∈L,d.xs.length≤200)∧r=.ag [.v (.int .i64 n),.sl L.length (qg DyV.cs L)]):=by
 refine Con.of_aw Tryz.func22 rfl Tryz.ntmps22 (by simp) (by simp) (by simp) (W.sound ?_)
 show @W Tryz.prog 6 ⟨_⟩ ⟨fun x σ=>@q9 _ _ _ ⟨_⟩ _ ⟨_⟩ x σ⟩ _ _
 simp(disch:=omega)only[go_sem]
 refine qK (as0 l hl) (by simp(disch:=omega)only[go_sem]) ?_
 rintro r hs ⟨rfl, -,⟨h,rfl⟩⟩
 refine⟨by simp(disch:=omega)only[go_sem],?_⟩
 simp(disch:=omega)only[go_sem]
 refine qD (JI l hl 0 h (by omega)) ?_
 rintro r i1 h1 hi1 ⟨k,L,hL1,hL2,rfl⟩
 simp(disch:=omega)only[go_sem]
 exact qY (by simp(disch:=omega)only[go_sem]) ⟨rfl,rfl,k,L,⟨hL1,hL2⟩,rfl⟩
theorem K4{n k:Nat}{A A':Nat→Nat→Int}{p:Int}(hp:p≠0)(h:∀i j,i<n→j<n→A' i j=A i j*p):aet n k A'→aet n k A
 |⟨c,B,C,h0,h1⟩=>⟨c*p,B,C,fun e=>by rcases Int.mul_eq_zero.1 e with e|e;exact h0 e;exact hp e,fun i j hi hj=>by rw[←h1 i j hi hj,h i j hi hj];grind⟩
theorem arc{n r s t:Nat}{L L':List ExV}(h:matV n L)(h':matV n L')(hr:isRank n (mv 3000 L n) r)(hs:isRank n (mv 3000 L' n) s)(hP:matV n ((zv n L L').map ExV.can))(ht:isRank n (mv 3000 ((zv n L L').map ExV.can) n) t):t≤r∧t≤s:=by
 have e:∀i j,i<n→j<n→j0 n (mv 3000 L n) (mv 3000 L' n) i j=mv 3000 ((zv n L L').map ExV.can) n i j*p2 3000:=fun i j hi hj=>by
  have a:=aFD (h.eK (Nat.le_refl _)) (h'.eK (Nat.le_refl _)) h.len h'.len hi hj
  have b:=QE (hP.eK (Nat.le_refl _)) (i:=i*n+j) (by rw[hP.len];exact zn hi hj)
  have c:mv (3000+3000) ((zv n L L').map ExV.can) n i j=mv 3000 ((zv n L L').map ExV.can) n i j*2^3000:=aRL b
  rw[a]at c
  exact c
 have hp:p2 3000≠0:=by have:=aTt 3000;omega
 exact⟨ht.low r (K4 hp e (K6 _ hr.up)),ht.low s (K4 hp e (ZM _ hs.up))⟩
set_option maxRecDepth 100000 in
set_option maxHeartbeats 4000000 in
theorem arL(l:List UInt8)(hl:l.length≤140737488351232):Con Tryz.prog 5 true [.sl l.length (qp l)] [] (isA (.v (.bool true))):=by
 have h00:JC ((0:Nat):Int) []=false:=bf1 []
 have cz:=y6 ((0:Nat):Int) [] (by simp) (by simp) h00
 change Con _ _ _ [.ag [.v (.int .i64 ((0:Nat):Int)),.sl 0 []]] _ _ at cz
 refine Con.of_w (rs:=[.tmp 2]) Tryz.func5 rfl Tryz.ntmps5 rfl ?_
 simp(disch:=omega)only[go_sem]
 refine qo (aGU) ?_
 simp(disch:=omega)only[go_sem]
 refine qK (yC l (by omega)) (by simp(disch:=omega)only[go_sem]) ?_
 rintro r hs ⟨rfl, -,⟨k,M,⟨a1,a2⟩,rfl⟩⟩
 refine⟨by simp[qG],?_⟩
 simp(disch:=omega)only[go_sem]
 have cA:=Qh k M a1 a2
 cases hA:JC k M
 ·rw[hA]at cA
  refine qo (y6 k M a1 a2 hA) ?_
  simp(disch:=omega)only[go_sem]
  refine qb (Y2 k M a1 a2 hA) ?_
  simp(disch:=omega)only[go_sem]
  refine qo (cA) ?_
  simp(disch:=omega)only[go_sem]
  refine qo (ata) ?_
  simp(disch:=omega)only[go_sem]
  exact qz
 obtain⟨n,L,rfl,rfl,h⟩:=arD hA
 clear cA
 rw[yI,List.length_map]
 obtain⟨r,hr,cR⟩:=jH n L h
 have hT:=aaD h
 obtain⟨s,hs,cT⟩:=jH n (Je n L) hT
 have hst:s=r:=hr.turn (hs.congr fun i j hi hj=>by
  unfold mv Je
  rw[aT4 hi hj])
 subst hst
 have cD:=Ju n L h
 have hdet:(j7 n L).fit=true→(decide ((s:Int)=(n:Int))==decide ((0:Int)<((lim (j7 n L).tel.m).length:Int)))=true:=fun hf=>by
  have v:=aQk h hf
  have q:=hr.det h.n4
  by_cases e:s=n
  ·have d:=q.1 e
   have hm:(j7 n L).tel.m≠0:=fun h0=>d (by rw[←v];exact aZu.2 h0)
   have:=y3 hm
   rw[decide_eq_true (show(s:Int)=(n:Int) by omega),decide_eq_true (show(0:Int)<((lim (j7 n L).tel.m).length:Int) by omega)];rfl
  ·have d:ja n (mv 3000 L n)=0:=by
    rcases Int.decEq (ja n (mv 3000 L n)) 0 with g|g
    ·exact absurd (q.2 g) e
    ·exact g
   have hm:(j7 n L).tel.m=0:=aZu.1 (v.trans d)
   rw[decide_eq_false (show ¬(s:Int)=(n:Int) by omega),hm,qt];rfl
 have hrn:=hr.le
 have g1:decide ((s:Int)≥0)=true:=decide_eq_true (by omega)
 have g2:decide ((s:Int)≤(n:Int))=true:=decide_eq_true (by omega)
 have cTu:=aa6 n L h
 have cMd:=yC (1::7::l) (by simp only[List.length_cons];omega)
 rw[show((1::7::l:List UInt8)).length=l.length+2 from rfl]at cMd
 have cOk:=afn n L h
 have cMo:=asL l hl
 have hprod:=fun L' (h':matV n L') t (b:isRank n (mv 3000 L' n) t) u=>arc (t:=u) h h' hr b
 generalize hdd:(j7 n L).tel=d at*
 generalize (j7 n L).fit=fd at*
 generalize hgt:Je n L=T at*
 refine qo (cR) ?_
 simp(disch:=omega)only[go_sem]
 refine qb (cD) ?_
 simp(disch:=omega)only[go_sem]
 refine qo (cOk) ?_
 simp(disch:=omega)only[go_sem]
 refine qb (cTu) ?_
 simp(disch:=omega)only[go_sem]
 refine qb (cMo) ?_
 simp(disch:=omega)only[go_sem]
 refine qK cMd (by simp(disch:=omega)only[go_sem]) ?_
 rintro r2 hs2 ⟨rfl, -,⟨k',M',⟨b1,b2⟩,rfl⟩⟩
 refine⟨by simp[qG],?_⟩
 simp(disch:=omega)only[go_sem]
 have key:∀(N:Nat) (P:List ExV) (f:Bool) (t u:Nat),True:=fun _ _ _ _ _=>trivial
 cases hB:JC k' M'
 ·have hno:aQ8 n (L.map ExV.dyv) k' M'=false:=by unfold aQ8;rw[hB,Bool.false_and,Bool.and_false]
  have cM:=QI n k' (L.map ExV.dyv) M' h.lens.1 h.lens.2 b1 b2 hno
  rw[yI,List.length_map]at cM
  refine qb (cM) ?_
  simp(disch:=omega)only[go_sem]
  refine qo (cz) ?_
  simp(disch:=omega)only[go_sem]
  cases fd
  ·simp(disch:=omega)only[go_sem,g1,g2]
   refine qo (cT) ?_
   simp(disch:=omega)only[go_sem]
   exact qz
  ·simp(disch:=omega)only[go_sem,g1,g2,hdet rfl]
   refine qo (cT) ?_
   simp(disch:=omega)only[go_sem]
   exact qz
 obtain⟨n',L',rfl,rfl,h'⟩:=arD hB
 rw[yI,List.length_map]
 by_cases hn:n=n'
 rotate_left
 ·have hno:aQ8 n (L.map ExV.dyv) n' (L'.map ExV.dyv)=false:=by unfold aQ8;rw[decide_eq_false (show ¬(n:Int)=(n':Int) by omega),Bool.and_false,Bool.and_false]
  have cM:=QI n n' (L.map ExV.dyv) (L'.map ExV.dyv) h.lens.1 h.lens.2 b1 b2 hno
  rw[yI,yI,List.length_map,List.length_map]at cM
  refine qb (cM) ?_
  simp(disch:=omega)only[go_sem]
  refine qo (cz) ?_
  simp(disch:=omega)only[go_sem]
  cases fd
  ·simp(disch:=omega)only[go_sem,g1,g2]
   refine qo (cT) ?_
   simp(disch:=omega)only[go_sem]
   exact qz
  ·simp(disch:=omega)only[go_sem,g1,g2,hdet rfl]
   refine qo (cT) ?_
   simp(disch:=omega)only[go_sem]
   exact qz
 subst hn
 obtain⟨u,hu,cR2⟩:=jH n L' h'
 have cM:=afo n L L' h h'
 have hgo:=bf7 (l:=zv n L L') h.n1 h.n4 yw
 have gN0:(zv n L L').all ExV.fit=false→gN n (zv n L L')=0∧gT (zv n L L')=[]:=fun hf=>⟨if_neg (by rw[hf];simp),if_neg (by rw[hf];simp)⟩
 have hp:=hprod L' h' u hu
 generalize gT (zv n L L')=P at*
 generalize gN n (zv n L L')=N at*
 generalize (zv n L L').map ExV.can=P' at*
 cases hfit:(zv n L L').all ExV.fit
 ·obtain⟨rfl,rfl⟩:=gN0 hfit
  rw[hfit]at cM
  change Con _ _ _ _ _ (isA (.tu [.ag [.v (.int .i64 ((0:Nat):Int)),.sl 0 []],.v (.bool false)]))at cM
  refine qb (cM) ?_
  simp(disch:=omega)only[go_sem]
  refine qo (cz) ?_
  simp(disch:=omega)only[go_sem]
  cases fd
  ·simp(disch:=omega)only[go_sem,g1,g2]
   refine qo (cT) ?_
   simp(disch:=omega)only[go_sem]
   exact qz
  ·simp(disch:=omega)only[go_sem,g1,g2,hdet rfl]
   refine qo (cT) ?_
   simp(disch:=omega)only[go_sem]
   exact qz
 ·obtain⟨q1,q2,q3⟩:=hgo hfit
  subst q1 q2
  rw[hfit]at cM
  obtain⟨v,hv,cR3⟩:=jH N P q3
  obtain⟨z1,z2⟩:=hp v q3 hv
  have g3:decide ((v:Int)≤(s:Int))=true:=decide_eq_true (by omega)
  have g4:decide ((v:Int)≤(u:Int))=true:=decide_eq_true (by omega)
  refine qb (cM) ?_
  simp(disch:=omega)only[go_sem]
  refine qo (cR3) ?_
  simp(disch:=omega)only[go_sem]
  cases fd
  ·simp(disch:=omega)only[go_sem,g1,g2]
   refine qo (cT) ?_
   simp(disch:=omega)only[go_sem]
   simp(disch:=omega)only[go_sem,g3]
   refine qo (cR2) ?_
   simp(disch:=omega)only[go_sem]
   simp(disch:=omega)only[go_sem,g4]
   exact qz
  ·simp(disch:=omega)only[go_sem,g1,g2,hdet rfl]
   refine qo (cT) ?_
   simp(disch:=omega)only[go_sem]
   simp(disch:=omega)only[go_sem,g3]
   refine qo (cR2) ?_
   simp(disch:=omega)only[go_sem]
   simp(disch:=omega)only[go_sem,g4]
   exact qz
end Go.Ab
namespace Go.Proofs.YtgkehjnacdccfaaGreatDoor
open Go.ChangeShapes Go.WideShapes Go.ChangeAt Go.RowKit Go.Ab
theorem own:ownKnob Tryz.prog.godebug=none:=by kernel_rfl
theorem arM:laidOutB Tryz.prog=true:=by kernel_rfl
theorem aqO:Tryz.prog.globalNamed "math/bits.deBruijn64tab" =some 1:=by kernel_rfl
theorem aNc:(Tryz.prog.globals[1]?).map (·.type)=some 285:=by kernel_rfl
theorem aNb:Tryz.prog.underlying 285=some (.array 64 5):=by kernel_rfl
theorem aNf:Tryz.prog.underlying 5=some (.int .u8):=by kernel_rfl
theorem aNg:Tryz.prog.cellsOf 5=1:=by kernel_rfl
theorem aNd:Tryz.prog.cellsOf 285=64:=by kernel_rfl
noncomputable def yQ:List (String×DataW Unit):=[("math/bits.deBruijn32tab",Rows.laid_math_bits_deBruijn32tab),("math/bits.deBruijn64tab",Rows.laid_math_bits_deBruijn64tab)]
theorem aNe{W:World}(h:laidMetH Tryz.prog yQ W):Gd W:=by
 have h':laidMet Tryz.prog yQ W:=h
 have h2:laidMet Tryz.prog [("math/bits.deBruijn64tab",Lib.tabData .u8 (Lib.deBruijn64tab.map Int.ofNat))] W:=laidMet.tail h'
 have hT:=Lib.tabIs_of_head aqO aNc aNb aNf aNg aNd h2
 intro g l hg
 unfold glb at hg
 split at hg
 ·rename_i e
  subst e
  cases hg
  have hc:∀i,i<Lib.deBruijn64tab.length→W.cell? ⟨1,i,none⟩=some (.int .u8 ((Lib.deBruijn64tab.getD i 0:Nat):Int)):=fun i hi=>by
   have:=hT.cell aqO i (by simpa using hi)
   rw[this]
   simp[List.getD,hi]
  exact⟨agj (hc 0 (by decide)),hc⟩
 ·cases hg
noncomputable def aay(os:Os):World:=
 let w0:=World.holding Tryz.prog os ⟨#[],#[],[]⟩
 {w0 with heap:=(w0.heap.modify 1 fun
   | .cells _ t frozen=>.cells (Lib.deBruijn64tab.map fun z=>Value.int .u8 (Int.ofNat z)).toArray t frozen
   |o=>o).modify 0 fun
   | .cells _ t frozen=>.cells (Lib.deBruijn32tab.map fun z=>Value.int .u8 (Int.ofNat z)).toArray t frozen
   |o=>o}
theorem YF(os:Os)(args:Array Value):laidMetH Tryz.prog yQ ((aay os).forCall (fun _ _=>0) ⟨#[],args,[]⟩).memory:=
 laidMetH_of_parts (laidMet_of_run' 8 (by kernel_rfl) (by kernel_rfl)) (by kernel_rfl)
end Go.Proofs.YtgkehjnacdccfaaGreatDoor
namespace Go.Ab
open Go
theorem aFb{H:Type}{enc:TypeId×Value→H}{P:Program}{W:World}{t e fuel:Nat}{cs:List Value}{x:DataW H×List MemPlace}(ht:P.underlying t=some (.slice e))(he:P.underlying e=some (.int .u8))(hc:P.cellsOf e=1)(hb:P.bytesOf e=1)
  (h:DataW.trod enc P W 0 (fun _=>true) true fuel t cs=some x) {ts:List TypeId} {ds:List (DataW H)} (h1:ts[0]? =some t) (h2:ds[0]? =some x.1) (hz:(DataW.weightsEach P ts ds).all (· ≤reachBytes)=true):
  ∃(v:Value) (l:List UInt8),cs=[v]∧l.length≤140737488351232∧FRep (fun b=>b<W.heap.size) W v (.sl l.length (qp l)):=by
 rcases ChangeShapes.open_ints ht he hc h with⟨rfl,_⟩|⟨a,len,cap,zs,rfl,_,hl,hm,hzs,hx,hcell,hwf⟩
 ·exact⟨_,[],rfl,Nat.zero_le _,aFZ⟩
 ·rw[if_pos rfl]at hzs
  refine⟨_,_,rfl,?_,ak2 hl hzs hcell (fun n hn=>aTS (hwf n hn)) (fun _ h=>h)⟩
  rw[hx]at h2
  have:=sized_slice hz h1 h2 ht
  rw[hb,Nat.mul_one]at this
  have e1:(ChangeShapes.lits (H:=H) .u8 (zs.take len)).length=(zs.take len).length:=by unfold ChangeShapes.lits;exact List.length_map _
  rw[e1]at this
  rw[List.length_map]
  have e2:reachBytes=140737488351232:=rfl
  omega
end Go.Ab
