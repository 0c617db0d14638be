/- What the proof of this claim stands on: the walks of the functions and the plain laws, part 6. -/
import Derived.Test.YtjkhfpjccemboaaGreatDoorFnFlRoundsLib5
import Derived.Laws.StructEq
import Derived.Test.YtjkhfpjccemboaaGreatDoorRows
import Derived.Test.YtjkhfpjccemboaaGreatDoorCards
import Derived.Test.YtjkhfpjccemboaaGreatDoorTie
import Derived.Handed
import Derived.ChangeSame
import Derived.JoinedOf
import Derived.RowKit
import Derived.WalkKit
import Derived.ProofKit
import Derived.OpenShut
import Derived.LaidLaws
import Derived.LaidHandle
import Derived.SevenTiedAt
import Derived.Stop.LaidErr
import Derived.Lib.LaidTab
set_option linter.unusedVariables false
set_option linter.unusedSimpArgs false
namespace Go.Ab
open Go Go.Proofs
def bdz(l:List UInt8)(i h:Int):Ob:=.own 0 [.sl l.length (qp l),.v (.int .i64 i),.v (.int .i64 h)]
def Y0(l:List UInt8)(Q:AV→Prop):AV→List Ob→List Ob→Prop:=fun r hs bs=>hs=[]∧Q r∧∃i h:Int,(0≤i∧i≤l.length)∧bs=[.own 0 [.sl l.length (qp l),.v (.int .i64 i),.v (.int .i64 h)]]
section
variable {P:Program}{N f c:Nat}{aa0 args:List AV}{hp:Nat→Ob}{K:KV}{Q:AV→Prop}{e:Nat→AV}{l:List UInt8}{i h:Int}
theorem ql{n:Nat}(hc:Con P f false (.pt 10000000 0::args) [.own 0 [.sl l.length (qp l),.v (.int .i64 i),.v (.int .i64 h)]] (Y0 l Q))
  (hk:∀(r:AV) (i' h':Int),(0≤i'∧i'≤l.length)→Q r→K (r.ren (rho c [n])) (upd hp n (.own 0 [.sl l.length (qp l),.v (.int .i64 i'),.v (.int .i64 h')])))
  (ha:aa0.map (snp (hpx false [n] hp) (idx [n]) 6)=args:=by simp(disch:=omega)only[go_sem]) (hn:hp n=.own 0 [.sl l.length (qp l),.v (.int .i64 i),.v (.int .i64 h)]:=by simp(disch:=omega)only[go_sem]):@Jp P f (.pt n 0::aa0) hp c ⟨K⟩:=by
 refine Jb false [n] hc (by rw[List.map_cons,ha];simp[snp,idx]) (by rw[ZH,hn];rfl) rfl (zg hn (by simp[AllL,AV.All])) (by intro m hm;rw[List.mem_singleton.1 hm];exact⟨_,List.mem_cons_self ..,rfl⟩) ?_
 rintro r hs bs ⟨rfl,hq,i',h',hi',rfl⟩-
 exact⟨⟨by simp,trivial,fun h=>by cases h⟩,hk r i' h' hi' hq⟩
theorem aD0{ks:List Nat}:∀{l:List AV},AllL (yi []) l→leL [] ks l l
 | [],_=>trivial
 |a::r,h=>⟨⟨an3 a,h.1.mono fun _ h=>h.elim⟩,aD0 h.2⟩
theorem qV{vs:List AV}(i h:Int)(hq:Q (q6 vs))(hi:0≤i∧i≤l.length:=by omega)(hh:hp 10000000=.own 0 [.sl l.length (qp l),.v (.int .i64 i),.v (.int .i64 h)]:=by simp(disch:=omega)only[go_sem])
  (hl:AllL (yi []) vs:=by simp(disch:=omega)only[go_sem]):@aD7 N false 1 ⟨Y0 l Q⟩ ⟨e⟩ vs hp:=
 qj [] [] [.own 0 [.sl l.length (qp l),.v (.int .i64 i),.v (.int .i64 h)]] vs rfl (aD0 hl) ⟨⟨hh.symm,by simp[Ob.men,AllL,AV.All],trivial⟩,trivial⟩ ⟨rfl,by simp,by simp⟩ (fun h=>by cases h) ⟨rfl,hq,i,h,hi,rfl⟩
end
def baR(l:List UInt8)(xs:List Int)(Q:AV→Prop):AV→List Ob→List Ob→Prop:=fun r hs bs=>hs=[]∧Q r∧∃i h:Int,(0≤i∧i≤l.length)∧bs=[.own 0 [.sl l.length (qp l),.v (.int .i64 i),.v (.int .i64 h)],.own 1 (qg xs)]
section
variable {P:Program}{N f c:Nat}{aa0 args:List AV}{hp:Nat→Ob}{K:KV}{Q:AV→Prop}{e:Nat→AV}{l:List UInt8}{i h:Int}
theorem zl{n m k:Nat}{xs:List Int}(hc:Con P f false [.pt 10000000 0,.rf 10000001 0 xs.length] [.own 0 [.sl l.length (qp l),.v (.int .i64 i),.v (.int .i64 h)],.own 1 (qg xs)] (baR l xs Q))
  (hk:∀(r:AV) (i' h':Int),(0≤i'∧i'≤l.length)→Q r→K (r.ren (rho c [n,m])) (upd (upd hp n (.own 0 [.sl l.length (qp l),.v (.int .i64 i'),.v (.int .i64 h')])) m (.own 1 (qg xs))))
  (hx:xs.length=k:=by rfl)
  (hn:hp n=.own 0 [.sl l.length (qp l),.v (.int .i64 i),.v (.int .i64 h)]:=by simp(disch:=omega)only[go_sem]) (hm:hp m=.own 1 (qg xs):=by simp(disch:=omega)only[go_sem];rfl)
  (hd:QT [n,m]=true:=by rfl):@Jp P f [.pt n 0,.rf m 0 k] hp c ⟨K⟩:=by
 have hnm:¬m=n:=by
  have:=(jQ hd)
  simp only[List.nodup_cons,List.mem_singleton]at this
  exact fun h=>this.1 h.symm
 subst hx
 refine Jb false [n,m] hc (by simp[snp,idx,hnm]) (by rw[ZH,ZH,hn,hm];simp only[Ob.ren,ZC,ZH];rfl) hd (aA1 hn (by simp[AllL,AV.All]) hm Zh) (by intro q hq;simp only[List.mem_cons,List.not_mem_nil,or_false]at hq;rcases hq with rfl|rfl<;>simp[AV.top]) ?_
 rintro r hs bs ⟨rfl,hq,i',h',hi',rfl⟩-
 refine⟨⟨by simp,trivial,fun h=>by cases h⟩,?_⟩
 have:=hk r i' h' hi' hq
 simp only[List.map_cons,List.map_nil,Ob.ren,ZC]
 exact this
end
section
variable (l:List UInt8)(hl:l.length≤9223372036854775807)(i h:Int)(hi:0≤i∧i≤l.length)
include hl hi
theorem jW:Con Tryz.prog 207 false [.pt 10000000 0] [.own 0 [.sl l.length (qp l),.v (.int .i64 i),.v (.int .i64 h)]] (Y0 l fun r=>∃k:Int,(0≤k∧k≤255)∧r=.v (.int .i64 k)):=by
 refine Con.of_aw Tryz.func207 rfl Tryz.ntmps207 (by simp) (by simp) (by simp) (W.sound ?_)
 show @W Tryz.prog 58 ⟨_⟩ ⟨fun x σ=>@za _ _ _ ⟨_⟩ _ ⟨_⟩ x σ⟩ _ _
 simp(disch:=omega)only[go_sem]
 generalize IntKind.i64.wrap (IntKind.i64.wrap (h*6364136223846793005)+1442695040888963407)=h1
 refine qo rfl [⟨0,[],[]⟩,⟨1,[],[]⟩,⟨2,[],[]⟩,⟨3,[],[]⟩,⟨4,[],[]⟩,⟨5,[3],[]⟩,⟨6,[3],[]⟩,⟨7,[3],[]⟩,⟨8,[3],[]⟩,⟨9,[3],[]⟩,⟨10,[],[]⟩,⟨11,[],[]⟩,⟨12,[],[]⟩] (by kernel_rfl) ?_
 simp(disch:=omega)only[go_sem]
 generalize baI (h1.fdiv (2^min 33 64)) (h1.fdiv (2^min 45 64))=y
 have hy:0≤y % 256∧y % 256<256:=by omega
 generalize y % 256=x at*
 refine qo rfl [⟨0,[],[]⟩,⟨1,[],[]⟩,⟨2,[],[]⟩,⟨3,[],[]⟩,⟨4,[3],[]⟩,⟨5,[3],[]⟩,⟨6,[3],[]⟩,⟨7,[3],[]⟩,⟨8,[3],[]⟩,⟨9,[],[]⟩] (by kernel_rfl) ?_
 simp(disch:=omega)only[go_sem]
 refine qe (fun c1=>?_) (fun c1=>?_)
 ·simp(disch:=omega)only[go_sem,c1]
  refine qo rfl [⟨0,[],[]⟩,⟨1,[],[]⟩,⟨2,[],[]⟩,⟨3,[],[]⟩,⟨4,[],[]⟩,⟨5,[4],[]⟩,⟨6,[4],[]⟩,⟨7,[4],[]⟩,⟨8,[4],[]⟩,⟨9,[],[]⟩,⟨10,[],[]⟩,⟨11,[],[]⟩,⟨12,[],[]⟩,⟨13,[],[]⟩,⟨14,[],[]⟩] (by kernel_rfl) ?_
  simp(disch:=omega)only[go_sem]
  refine⟨by omega,by omega,?_⟩
  generalize IntKind.i64.wrap (x+IntKind.i64.wrap ((l.getD i.toNat 0).toNat:Int))=y2
  have hy2:0≤y2 % 256∧y2 % 256<256:=by omega
  refine qV (i+1) (h1) ⟨_,by omega,rfl⟩
 ·simp(disch:=omega)only[go_sem,c1]
  refine qV (i) (h1) ⟨_,by omega,rfl⟩
theorem qI(n:Int)(hn:n≤2^62):Con Tryz.prog 130 false [.pt 10000000 0,.v (.int .i64 n)] [.own 0 [.sl l.length (qp l),.v (.int .i64 i),.v (.int .i64 h)]] (Y0 l fun r=>∃k:Int,(0≤k∧(0<n→k<n))∧r=.v (.int .i64 k)):=by
 refine Con.of_aw Tryz.func130 rfl Tryz.ntmps130 (by simp) (by simp) (by simp) (W.sound ?_)
 show @W Tryz.prog 37 ⟨_⟩ ⟨fun x σ=>@za _ _ _ ⟨_⟩ _ ⟨_⟩ x σ⟩ _ _
 simp(disch:=omega)only[go_sem]
 refine qe (fun c1=>?_) (fun c1=>?_)
 ·simp(disch:=omega)only[go_sem,c1]
  refine qV (i) (h) ⟨_,⟨by omega,fun h=>by omega⟩,rfl⟩
 ·simp(disch:=omega)only[go_sem,c1]
  refine qe (fun c2=>?_) (fun c2=>?_)
  ·simp(disch:=omega)only[go_sem,c2]
   refine ql (jW l hl i h hi) ?_
   rintro r i1 h1 hi1 ⟨k1,hk1,rfl⟩
   simp(disch:=omega)only[go_sem]
   refine⟨by omega,?_⟩
   have hm:=Int.emod_nonneg k1 (show n≠0 by omega)
   have hm2:=Int.emod_lt_of_pos k1 (show 0<n by omega)
   refine qV (i1) (h1) ⟨_,⟨hm,fun _=>hm2⟩,rfl⟩
  ·simp(disch:=omega)only[go_sem,c2]
   refine ql (jW l hl i h hi) ?_
   rintro r i1 h1 hi1 ⟨k1,hk1,rfl⟩
   simp(disch:=omega)only[go_sem]
   refine ql (jW l hl i1 h1 hi1) ?_
   rintro r i2 h2 hi2 ⟨k2,hk2,rfl⟩
   simp(disch:=omega)only[go_sem]
   refine ql (jW l hl i2 h2 hi2) ?_
   rintro r i3 h3 hi3 ⟨k3,hk3,rfl⟩
   simp(disch:=omega)only[go_sem]
   refine ql (jW l hl i3 h3 hi3) ?_
   rintro r i4 h4 hi4 ⟨k4,hk4,rfl⟩
   simp(disch:=omega)only[go_sem]
   refine⟨by omega,?_⟩
   have hm:=Int.emod_nonneg (k1*16777216+k2*65536+k3*256+k4) (show n≠0 by omega)
   have hm2:=Int.emod_lt_of_pos (k1*16777216+k2*65536+k3*256+k4) (show 0<n by omega)
   refine qV (i4) (h4) ⟨_,⟨hm,fun _=>hm2⟩,rfl⟩
theorem qR(n:Int)(hn:n≤2^62):Con Tryz.prog 58 false [.pt 10000000 0,.v (.int .i64 n)] [.own 0 [.sl l.length (qp l),.v (.int .i64 i),.v (.int .i64 h)]] (Y0 l fun r=>∃b:Bool,r=.v (.bool b)):=by
 refine Con.of_aw Tryz.func58 rfl Tryz.ntmps58 (by simp) (by simp) (by simp) (W.sound ?_)
 show @W Tryz.prog 9 ⟨_⟩ ⟨fun x σ=>@za _ _ _ ⟨_⟩ _ ⟨_⟩ x σ⟩ _ _
 simp(disch:=omega)only[go_sem]
 refine ql (qI l hl i h hi n hn) ?_
 rintro r i1 h1 hi1 ⟨k1,hk1,rfl⟩
 simp(disch:=omega)only[go_sem]
 refine qV (i1) (h1) ⟨_,rfl⟩
theorem qK(xs:List Int)(h0:0<xs.length)(h1:xs.length≤2^40):Con Tryz.prog 131 false [.pt 10000000 0,.rf 10000001 0 xs.length] [.own 0 [.sl l.length (qp l),.v (.int .i64 i),.v (.int .i64 h)],.own 1 (qg xs)] (baR l xs fun r=>∃x∈xs,r=.v (.int .i64 x)):=by
 refine Con.of_aw Tryz.func131 rfl Tryz.ntmps131 (by simp) (by simp) (by simp) (W.sound ?_)
 show @W Tryz.prog 12 ⟨_⟩ ⟨fun x σ=>@za _ _ _ ⟨_⟩ _ ⟨_⟩ x σ⟩ _ _
 simp(disch:=omega)only[go_sem]
 refine ql (qI l hl i h hi xs.length (by omega)) ?_
 rintro r i1 h1 hi1 ⟨k1,hk1,rfl⟩
 simp(disch:=omega)only[go_sem]
 obtain⟨n1,rfl⟩:=Int.eq_ofNat_of_zero_le hk1.1
 have hlt:n1<xs.length:=by have:=hk1.2 (by omega);omega
 simp(disch:=omega)only[go_sem]
 refine⟨by omega,by omega,?_⟩
 have hm:xs.getD n1 0∈xs:=by rw[List.getD_eq_getElem?_getD,List.getElem?_eq_getElem hlt];exact List.getElem_mem _
 refine qj [] [] [.own 0 [.sl l.length (qp l),.v (.int .i64 i1),.v (.int .i64 h1)],.own 1 (qg xs)] [.v (.int .i64 (xs.getD n1 0))] rfl (by simp(disch:=omega)only[go_sem]) (by simp(disch:=omega)only[go_sem]) (by simp) (by simp) ⟨rfl,⟨_,hm,rfl⟩,_,_,by omega,rfl⟩
end
end Go.Ab
namespace Go.Ab
open Go Go.Proofs
end Go.Ab
namespace Go.Ab
open Go Go.Proofs
end Go.Ab
namespace Go.Ab
open Go Go.Proofs
theorem apT(k:Int)(s:Bool)(m e:Int):Con Tryz.prog 42 true [.ag [.v (.int .i64 (k)),.v (.bool (s)),.v (.int .i64 (m)),.v (.int .i64 (e))]] [] (isA (.v (.bool (flB k s m e)))):=by
 refine Con.of_aw Tryz.func42 rfl Tryz.ntmps42 (by simp) (by simp) (by simp) (W.sound ?_)
 show @W Tryz.prog 59 ⟨_⟩ ⟨fun x σ=>@za _ _ _ ⟨_⟩ _ ⟨_⟩ x σ⟩ _ _
 simp(disch:=omega)only[go_sem]
 refine qe (fun h0=>?_) (fun h0=>?_)
 ·subst h0
  simp(disch:=omega)only[go_sem]
  repeat' first
   |simp(disch:=omega)only[go_sem, *]
   |(with_reducible refine qe (fun _=>?_) (fun _=>?_))
   |(with_reducible refine q7 (fun _=>?_) (fun _=>?_))
   |(with_reducible refine z7 (fun _=>?_) (fun _=>?_))
   |(with_reducible refine zY (fun _=>?_) (fun _=>?_))
  all_goals exact qc (by simp(disch:=omega)only[go_sem]) (by simp(disch:=omega)only[go_sem]) ⟨by simp_all[q6,flB]<;>omega,rfl,rfl⟩
 ·simp(disch:=omega)only[go_sem,h0]
  refine qe (fun h2=>?_) (fun h2=>?_)
  ·subst h2
   simp(disch:=omega)only[go_sem]
   repeat' first
    |simp(disch:=omega)only[go_sem, *]
    |(with_reducible refine qe (fun _=>?_) (fun _=>?_))
    |(with_reducible refine q7 (fun _=>?_) (fun _=>?_))
    |(with_reducible refine z7 (fun _=>?_) (fun _=>?_))
    |(with_reducible refine zY (fun _=>?_) (fun _=>?_))
   all_goals exact qc (by simp(disch:=omega)only[go_sem]) (by simp(disch:=omega)only[go_sem]) ⟨by simp_all[q6,flB]<;>omega,rfl,rfl⟩
  ·simp(disch:=omega)only[go_sem,h2]
   refine qe (fun h3=>?_) (fun h3=>?_)
   ·subst h3
    simp(disch:=omega)only[go_sem]
    repeat' first
     |simp(disch:=omega)only[go_sem, *]
     |(with_reducible refine qe (fun _=>?_) (fun _=>?_))
     |(with_reducible refine q7 (fun _=>?_) (fun _=>?_))
     |(with_reducible refine z7 (fun _=>?_) (fun _=>?_))
     |(with_reducible refine zY (fun _=>?_) (fun _=>?_))
    all_goals exact qc (by simp(disch:=omega)only[go_sem]) (by simp(disch:=omega)only[go_sem]) ⟨by simp_all[q6,flB]<;>omega,rfl,rfl⟩
   ·simp(disch:=omega)only[go_sem,h3]
    refine qe (fun h1=>?_) (fun h1=>?_)
    ·subst h1
     simp(disch:=omega)only[go_sem]
     repeat' first
      |simp(disch:=omega)only[go_sem, *]
      |(with_reducible refine qe (fun _=>?_) (fun _=>?_))
      |(with_reducible refine q7 (fun _=>?_) (fun _=>?_))
      |(with_reducible refine z7 (fun _=>?_) (fun _=>?_))
      |(with_reducible refine zY (fun _=>?_) (fun _=>?_))
     all_goals refine qc (by simp(disch:=omega)only[go_sem]) (by simp(disch:=omega)only[go_sem]) ⟨?_,rfl,rfl⟩
     all_goals simp only[q6,flB,if_true]
     all_goals congr 2
     all_goals rw[Bool.eq_iff_iff]
     all_goals simp only[Bool.and_eq_true,Bool.or_eq_true,decide_eq_true_eq,Bool.false_eq_true,Bool.true_eq_false,false_iff,true_iff,not_and,not_or]
     all_goals omega
    ·simp(disch:=omega)only[go_sem,h1]
     refine qc (by simp(disch:=omega)only[go_sem]) (by simp(disch:=omega)only[go_sem]) ⟨?_,rfl,rfl⟩
     simp[q6,flB,h0,h1,h2,h3]
def aD1(k m:Int):Nat:=if k=1 then oM m.toNat else 0
def aJN(k m e:Int):Int:=if k=1 then oE m.toNat e else 0
def aJM(k:Int)(s:Bool)(m:Int):Bool:=if k=1 then oS (s&&decide (m.toNat≠0)) m.toNat else false
theorem aB7(k:Int)(s:Bool)(m e:Int)(h:flB k s m e=true):Con Tryz.prog 127 false [.ag [.v (.int .i64 (k)),.v (.bool (s)),.v (.int .i64 (m)),.v (.int .i64 (e))]] [] (isA (.ag [.v (.bool (aJM k s m)),.sl (lim (aD1 k m)).length (qg (lim (aD1 k m))),.v (.int .i64 (aJN k m e))])):=by
 refine Con.frzA ?_
 obtain⟨a1,a2,a3,a4⟩:=zn h
 obtain⟨n,rfl⟩:=Int.eq_ofNat_of_zero_le a1.1
 have hb:bl n≤53:=q9.2 (by omega)
 have hl:=qy hb
 refine Con.of_w (rs:=[.cell 2 29]) Tryz.func127 rfl Tryz.ntmps127 rfl ?_
 simp(disch:=omega)only[go_sem]
 refine q7 (fun h1=>?_) (fun h1=>?_)
 ·simp(disch:=omega)only[go_sem,h1]
  unfold aJM aD1 aJN
  rw[if_neg h1,if_neg h1,if_neg h1,qm]
  exact qn
 ·simp(disch:=omega)only[go_sem,h1]
  refine qo rfl [⟨0,[],[]⟩,⟨1,[],[]⟩,⟨2,[1],[]⟩,⟨3,[1],[]⟩,⟨6,[1,3],[]⟩,⟨7,[1,3],[]⟩,⟨4,[1,7],[]⟩,⟨5,[7],[]⟩,⟨8,[],[]⟩,⟨9,[],[]⟩] (by kernel_rfl) ?_
  simp(disch:=omega)only[go_sem]
  refine qa (yu n (by omega)) ?_
  simp(disch:=omega)only[go_sem]
  refine qa (zb s n (by omega)) ?_
  simp(disch:=omega)only[go_sem]
  refine qa (zS (s&&decide (n≠0)) n e (by omega) (by omega)) ?_
  simp(disch:=omega)only[go_sem]
  unfold aJM aD1 aJN
  rw[if_pos h1,if_pos h1,if_pos h1,Int.toNat_natCast]
  exact qn
end Go.Ab
namespace Go.Ab
open Go Go.Proofs
def bcQ:AV→List Ob→List Ob→Prop:=fun r hs bs=>hs=[]∧bs=[]∧∃x:FlV,r=.ag x.cs
section
variable (l:List UInt8)(hl:l.length≤9223372036854775807)(i h:Int)(hi:0≤i∧i≤l.length)
include hl hi
theorem qG:Con Tryz.prog 62 false [.pt 10000000 0] [.own 0 [.sl l.length (qp l),.v (.int .i64 i),.v (.int .i64 h)]] (Y0 l fun r=>∃k:Int,r=.v (.int .i64 k)):=by
 refine Con.of_aw Tryz.func62 rfl Tryz.ntmps62 (by simp) (by simp) (by simp) (W.sound ?_)
 show @W Tryz.prog 10 ⟨_⟩ ⟨fun x σ=>@za _ _ _ ⟨_⟩ _ ⟨_⟩ x σ⟩ _ _
 simp(disch:=omega)only[go_sem]
 refine ql (qR l hl i h hi 15 (by omega)) ?_
 rintro r i1 h1 hi1 ⟨b,rfl⟩
 simp(disch:=omega)only[go_sem]
 cases b
 ·simp(disch:=omega)only[go_sem]
  refine ql (qI l hl i1 h1 hi1 5 (by omega)) ?_
  rintro r i2 h2 hi2 ⟨k1,hk1,rfl⟩
  simp(disch:=omega)only[go_sem]
  refine qV (i2) (h2) ⟨_,rfl⟩
 ·simp(disch:=omega)only[go_sem]
  refine zl (qK l hl i1 h1 hi1 [-1,5] (by simp) (by simp)) ?_
  rintro r i2 h2 hi2 ⟨k1,hk1,rfl⟩
  clear hk1
  simp(disch:=omega)only[go_sem]
  refine qV (i2) (h2) ⟨_,rfl⟩
end
end Go.Ab
namespace Go.Ab
open Go Go.Proofs
section
variable (l:List UInt8)(hl:l.length≤9223372036854775807)(i h:Int)(hi:0≤i∧i≤l.length)
include hl hi
set_option maxRecDepth 100000 in
theorem aiU:Con Tryz.prog 128 false [.pt 10000000 0] [.own 0 [.sl l.length (qp l),.v (.int .i64 i),.v (.int .i64 h)]] (Y0 l fun r=>∃x:FlV,flB x.k x.s x.m x.e=true∧r=.ag x.cs):=by
 refine Con.of_aw Tryz.func128 rfl Tryz.ntmps128 (by simp) (by simp) (by simp) (W.sound ?_)
 show @W Tryz.prog 75 ⟨_⟩ ⟨fun x σ=>@za _ _ _ ⟨_⟩ _ ⟨_⟩ x σ⟩ _ _
 simp(disch:=omega)only[go_sem]
 refine ql (qR l hl i h hi 2 (by omega)) ?_
 rintro r i1 h1 hi1 ⟨b,rfl⟩
 simp(disch:=omega)only[go_sem]
 refine ql (qI l hl i1 h1 hi1 9 (by omega)) ?_
 rintro r i2 h2 hi2 ⟨k,hk,rfl⟩
 simp(disch:=omega)only[go_sem]
 by_cases c0:k=0
 ·simp(disch:=omega)only[go_sem,c0]
  refine zl (qK l hl i2 h2 hi2 [0,2] (by simp) (by simp)) ?_
  rintro r i3 h3 hi3 ⟨x,hx,rfl⟩
  simp only[List.mem_cons,List.not_mem_nil,or_false]at hx
  simp(disch:=omega)only[go_sem]
  refine qV (i3) (h3) ⟨⟨x,b,0,0⟩,by cases hx<;>(subst x;rfl),rfl⟩
 by_cases c1:k=1
 ·simp(disch:=omega)only[go_sem,c0,c1]
  refine qb (apB) ?_
  simp(disch:=omega)only[go_sem]
  refine qV (i2) (h2) ⟨⟨3,false,0,0⟩,rfl,rfl⟩
 by_cases c2:k=2
 ·simp(disch:=omega)only[go_sem,c0,c1,c2]
  refine zl (qK l hl i2 h2 hi2 [1,2,4503599627370495,4503599627370496,4503599627370497,12345] (by simp) (by simp)) ?_
  rintro r i3 h3 hi3 ⟨x,hx,rfl⟩
  simp only[List.mem_cons,List.not_mem_nil,or_false]at hx
  simp(disch:=omega)only[go_sem]
  refine qV (i3) (h3) ⟨⟨1,b,x, -1074⟩,jJ.2 (by dsimp only;omega),rfl⟩
 by_cases c3:k=3
 ·simp(disch:=omega)only[go_sem,c0,c1,c2,c3]
  refine zl (qK l hl i2 h2 hi2 [4503599627370496,9007199254740991,9007199254740990] (by simp) (by simp)) ?_
  rintro r i3 h3 hi3 ⟨x,hx,rfl⟩
  simp only[List.mem_cons,List.not_mem_nil,or_false]at hx
  simp(disch:=omega)only[go_sem]
  refine zl (qK l hl i3 h3 hi3 [971,970,0, -52, -1000] (by simp) (by simp)) ?_
  rintro r i4 h4 hi4 ⟨y,hy,rfl⟩
  simp only[List.mem_cons,List.not_mem_nil,or_false]at hy
  simp(disch:=omega)only[go_sem]
  refine qV (i4) (h4) ⟨⟨1,b,x,y⟩,jJ.2 (by dsimp only;omega),rfl⟩
 by_cases c4:k=4
 ·simp(disch:=omega)only[go_sem,c0,c1,c2,c3,c4]
  refine ql (qI l hl i2 h2 hi2 40 (by omega)) ?_
  rintro r i3 h3 hi3 ⟨x,hx,rfl⟩
  simp(disch:=omega)only[go_sem]
  have hx2:=hx.2 (by omega)
  refine qa (Zk (x-20) (by omega)) ?_
  simp(disch:=omega)only[go_sem]
  refine ql (qI l hl i3 h3 hi3 5 (by omega)) ?_
  rintro r i4 h4 hi4 ⟨y,hy,rfl⟩
  simp(disch:=omega)only[go_sem]
  have hy2:=hy.2 (by omega)
  have hb:bl (x-20).natAbs≤6:=q9.2 (by omega)
  refine qa (zS (decide (x-20<0)) (x-20).natAbs (y-2) (by omega) (by omega)) ?_
  simp(disch:=omega)only[go_sem]
  have q4:=zf (yS (x-20).natAbs)
  have q5:=aef (m:=(x-20).natAbs) (e:=y-2) (lo:= -2) (hi:=3) (Nat.le_refl _) (by omega) (by omega) (by omega)
  refine qb (adx (oS (decide (x-20<0)) (x-20).natAbs) (oM (x-20).natAbs) (oE (x-20).natAbs (y-2)) 0 false (aDT _) (aYt _ _) (by omega) (by omega) (by omega)) ?_
  simp(disch:=omega)only[go_sem]
  have hV:=(bah (s:=oS (decide (x-20<0)) (x-20).natAbs) (m:=oM (x-20).natAbs) (e:=oE (x-20).natAbs (y-2)) 0 false (by omega) (by omega) (by omega)).1
  generalize flV (oS (decide (x-20<0)) (x-20).natAbs) (oM (x-20).natAbs) (oE (x-20).natAbs (y-2)) 0 false=V at*
  refine qV (i4) (h4) ⟨V,hV,rfl⟩
 simp(disch:=omega)only[go_sem,c0,c1,c2,c3,c4]
 refine ql (qI l hl i2 h2 hi2 1073741824 (by omega)) ?_
 rintro r i3 h3 hi3 ⟨x,hx,rfl⟩
 simp(disch:=omega)only[go_sem]
 have hx2:=hx.2 (by omega)
 refine ql (qI l hl i3 h3 hi3 999 (by omega)) ?_
 rintro r i4 h4 hi4 ⟨y,hy,rfl⟩
 simp(disch:=omega)only[go_sem]
 have hy2:=hy.2 (by omega)
 refine ql (qR l hl i4 h4 hi4 3 (by omega)) ?_
 rintro r i5 h5 hi5 ⟨b2,rfl⟩
 simp(disch:=omega)only[go_sem]
 cases b2
 ·simp(disch:=omega)only[go_sem]
  refine ql (qI l hl i5 h5 hi5 40 (by omega)) ?_
  rintro r i6 h6 hi6 ⟨z,hz,rfl⟩
  simp(disch:=omega)only[go_sem]
  have hz2:=hz.2 (by omega)
  refine zl (qK l hl i6 h6 hi6 [-52, -50, -55, -53, -60,0,10, -600,500, -1000,900,z-70] (by simp) (by simp)) ?_
  rintro r i7 h7 hi7 ⟨u,hu,rfl⟩
  simp only[List.mem_cons,List.not_mem_nil,or_false]at hu
  simp(disch:=omega)only[go_sem]
  refine qV (i7) (h7) ⟨⟨1,b,4503599627370496+x*4000000+y,u⟩,jJ.2 (by dsimp only;omega),rfl⟩
 ·simp(disch:=omega)only[go_sem]
  refine zl (qK l hl i5 h5 hi5 [1,3,2251799813685248,1073741824] (by simp) (by simp)) ?_
  rintro r i8 h8 hi8 ⟨v,hv,rfl⟩
  have hv_b:0≤v∧v≤2251799813685248:=by
   simp only[List.mem_cons,List.not_mem_nil,or_false]at hv
   omega
  clear hv
  simp(disch:=omega)only[go_sem]
  refine ql (qI l hl i8 h8 hi8 40 (by omega)) ?_
  rintro r i6 h6 hi6 ⟨z,hz,rfl⟩
  simp(disch:=omega)only[go_sem]
  have hz2:=hz.2 (by omega)
  refine zl (qK l hl i6 h6 hi6 [-52, -50, -55, -53, -60,0,10, -600,500, -1000,900,z-70] (by simp) (by simp)) ?_
  rintro r i7 h7 hi7 ⟨u,hu,rfl⟩
  simp only[List.mem_cons,List.not_mem_nil,or_false]at hu
  simp(disch:=omega)only[go_sem]
  refine qV (i7) (h7) ⟨⟨1,b,4503599627370496+v,u⟩,jJ.2 (by dsimp only;omega),rfl⟩
end
end Go.Ab
namespace Go.Ab
open Go
end Go.Ab
namespace Go.Ab
open Go Go.Proofs
end Go.Ab
namespace Go.Ab
open Go Go.Proofs
end Go.Ab
namespace Go.Ab
open Go Go.Proofs
end Go.Ab
namespace Go.Ab
open Go Go.Proofs
end Go.Ab
namespace Go.Ab
open Go Go.Proofs
section
variable (l:List UInt8)(hl:l.length≤9223372036854775807)(i h:Int)(hi:0≤i∧i≤l.length)
include hl hi
end
theorem K2(l:List UInt8)(hl:l.length≤9223372036854775807):Con Tryz.prog 56 false [.sl l.length (qp l)] [] (fun r hs bs=>r=.pt 0 0∧bs=[]∧∃h:Int,hs=[.own 0 [.sl l.length (qp l),.v (.int .i64 0),.v (.int .i64 h)]]):=by
 refine Con.of_aw Tryz.func56 rfl Tryz.ntmps56 (by simp) (by simp) (by simp) (W.sound ?_)
 show @W Tryz.prog 32 ⟨_⟩ ⟨fun x σ=>@za _ _ _ ⟨_⟩ _ ⟨_⟩ x σ⟩ _ _
 simp(disch:=omega)only[go_sem]
 refine qk (fun x:Nat×Int=>[(0,.sl l.length (qp l)),(3,.v (.int .i64 x.2)),(4,.v (.int .i64 x.1))]) (fun _=>[]) (fun x=>x.1≤l.length) (fun x=>l.length-x.1) (0,IntKind.i64.wrap (38282+l.length)) (by simp)
  (Le.lst [] _ _ rfl (by simp(disch:=omega)only[go_sem]) (by simp(disch:=omega)only[go_sem])) ?_
 rintro⟨i,h⟩ hi
 dsimp only at hi ⊢
 have hfin:∀l':List AV,l'=[.pt 0 0]→(fun r hs bs=>r=.pt 0 0∧bs=[]∧∃h:Int,hs=[.own 0 [.sl l.length (qp l),.v (.int .i64 0),.v (.int .i64 h)]]:AV→List Ob→List Ob→Prop) (q6 l') [.own 0 [.sl l.length (qp l),.v (.int .i64 0),.v (.int .i64 h)]] []:=fun l' e=>by subst e;exact⟨rfl,rfl,h,rfl⟩
 by_cases h1:(i:Int)<l.length
 ·by_cases h2:(i:Int)<4000
  ·simp(disch:=omega)only[go_sem,h1,h2]
   generalize IntKind.i64.wrap (IntKind.i64.wrap (IntKind.i64.wrap (h*131)+IntKind.i64.wrap ((l.getD i 0).toNat:Int))+7) % 1073741824=h'
   exact⟨⟨by omega,by omega⟩,by omega,qh (i+1,h') [] (by show i+1≤_;omega) (by show l.length-(i+1)<l.length-i;omega) rfl (by simp(disch:=omega)only[go_sem];try omega) (by simp(disch:=omega)only[go_sem])⟩
  ·simp(disch:=omega)only[go_sem,h1,h2]
   refine qj [(0,330000000)] [.own 0 [.sl l.length (qp l),.v (.int .i64 0),.v (.int .i64 h)]] [] [.pt 0 0] rfl (by simp(disch:=omega)only[go_sem]) (by simp(disch:=omega)only[go_sem]) (by simp) (by simp) (hfin _ rfl)
 ·simp(disch:=omega)only[go_sem,h1]
  refine qj [(0,330000000)] [.own 0 [.sl l.length (qp l),.v (.int .i64 0),.v (.int .i64 h)]] [] [.pt 0 0] rfl (by simp(disch:=omega)only[go_sem]) (by simp(disch:=omega)only[go_sem]) (by simp) (by simp) (hfin _ rfl)
end Go.Ab
namespace Go.Ab
open Go Go.Proofs
theorem fle_run(w:World)(k m e k' m' e':Int)(s s':Bool):(Op.equal 63 (.agg #[.int .i64 k,.bool s,.int .i64 m,.int .i64 e]) (.agg #[.int .i64 k',.bool s',.int .i64 m',.int .i64 e'])).run Tryz.prog w=.ok (aqS k s m e k' s' m' e') w:=by
 have hf:Tryz.prog.fieldsOf 63= #[{name:= "Kind",type:=3,offset:=0,embedded:=false,tag:= "",pkgPath:= "",byteOffset:=0},{name:= "Neg",type:=4,offset:=1,embedded:=false,tag:= "",pkgPath:= "",byteOffset:=8},{name:= "M",type:=3,offset:=2,embedded:=false,tag:= "",pkgPath:= "",byteOffset:=16},{name:= "E",type:=3,offset:=3,embedded:=false,tag:= "",pkgPath:= "",byteOffset:=24}]:=by unfold Program.fieldsOf;rw[Tryz.underlying63]
 have h0:Tryz.prog.underlying 63=some (.struct (Tryz.prog.fieldsOf 63)):=by unfold Program.fieldsOf;rw[Tryz.underlying63]
 have hp:Tryz.prog.stoodInHeld 63=false:=by kernel_rfl
 have i3:∀a b:Int,(Op.equalIn 9999 3 (.int .i64 a) (.int .i64 b)).run Tryz.prog w=.ok (a==b) w:=fun a b=>run_equalIn_int w 9998 _ .i64 .i64 a b Tryz.underlying3
 have i4:∀a b:Bool,(Op.equalIn 9999 4 (.bool a) (.bool b)).run Tryz.prog w=.ok (a==b) w:=fun a b=>run_equalIn_bool' w 9998 _ a b Tryz.underlying4
 have p3:∀(xs:Array Value) (o:Nat) (v:Value),xs[o]? =some v→(part 3 xs o).run Tryz.prog w=.ok v w:=fun xs o v h=>by
  unfold part
  simp only[Sem.run_bind,y9 tf3,Result.andThen,h,akA,Bool.false_eq_true,if_false,Sem.run_pure]
 have p4:∀(xs:Array Value) (o:Nat) (v:Value),xs[o]? =some v→(part 4 xs o).run Tryz.prog w=.ok v w:=fun xs o v h=>by
  unfold part
  simp only[Sem.run_bind,y9 tf4,Result.andThen,h,akn,Bool.false_eq_true,if_false,Sem.run_pure]
 have q0:∀a b c d:Value,(part 3 #[a,b,c,d] 0).run Tryz.prog w=.ok a w:=fun a b c d=>p3 _ 0 a rfl
 have q1:∀a b c d:Value,(part 4 #[a,b,c,d] 1).run Tryz.prog w=.ok b w:=fun a b c d=>p4 _ 1 b rfl
 have q2:∀a b c d:Value,(part 3 #[a,b,c,d] 2).run Tryz.prog w=.ok c w:=fun a b c d=>p3 _ 2 c rfl
 have q3:∀a b c d:Value,(part 3 #[a,b,c,d] 3).run Tryz.prog w=.ok d w:=fun a b c d=>p3 _ 3 d rfl
 show(Op.equalIn (9999+1) _ _ _).run _ _=_
 rw[run_equalIn_struct w 9999 _ _ _ h0 hp,hf]
 have n1:("Kind" ≠ "_")=True:=by simp
 have n2:("Neg" ≠ "_")=True:=by simp
 have n3:("M" ≠ "_")=True:=by simp
 have n4:("E" ≠ "_")=True:=by simp
 simp only[Op.eqFields,n1,n2,n3,n4,if_true,Sem.run_bind,q0,Result.andThen,i3]
 unfold aqS
 have q:∀a b:Int,(a==b)=decide (a=b):=fun a b=>by rfl
 rw[q]
 cases decide (k=k')
 ·simp only[Bool.not_false,if_true,Sem.run_pure,Bool.false_and]
 simp only[Bool.not_true,Bool.false_eq_true,if_false,Sem.run_bind,q1,Result.andThen,i4]
 cases(s==s')
 ·simp only[Bool.not_false,if_true,Sem.run_pure,Bool.false_and,Bool.and_false]
 simp only[Bool.not_true,Bool.false_eq_true,if_false,Sem.run_bind,q2,Result.andThen,i3]
 rw[q]
 cases decide (m=m')
 ·simp only[Bool.not_false,if_true,Sem.run_pure,Bool.false_and,Bool.and_false]
 simp only[Bool.not_true,Bool.false_eq_true,if_false,Sem.run_bind,q3,Result.andThen,i3]
 rw[q]
 cases decide (e=e')<;>rfl
instance:FlE Tryz.prog 63:=⟨fle_run,by kernel_rfl⟩
end Go.Ab
namespace Go.Ab
open Go Go.Proofs
def dvF(V U:FlV)(m:Int):FlV:=if(ac9 m&&(flB V.k V.s V.m V.e&&flB U.k U.s U.m U.e))=true then dvV V.k V.s V.m V.e U.k U.s U.m U.e m else⟨3,false,0,0⟩
def bdy(V U:FlV)(m:Int):Int:=if(ac9 m&&(flB V.k V.s V.m V.e&&flB U.k U.s U.m U.e))=true then dvG V.k V.s V.m V.e U.k U.s U.m U.e m else 16
theorem yD(k:Int)(s:Bool)(m e:Int):aqS k s m e k s m e=true:=by unfold aqS;simp
def flX(F:FlV):ExV:=if isN F=true then flD F else ex0
theorem adE(F:FlV)(h:flB F.k F.s F.m F.e=true):Con Tryz.prog 41 false [.ag [.v (.int .i64 (F.k)),.v (.bool (F.s)),.v (.int .i64 (F.m)),.v (.int .i64 (F.e))]] [] (isA (.tu [.ag [.v (.bool (flX F).s),.sl (lim (flX F).m).length (qg (lim (flX F).m)),.v (.int .i64 (flX F).e)],.v (.bool (isN F))])):=by
 unfold flX
 cases hk:isN F
 ·rw[if_neg (by simp)]
  exact apV F (by rw[h];exact hk)
 ·rw[if_pos rfl]
  exact aLb F h hk
theorem ao5{F:FlV}(h:isN F=true):flX F=flD F:=if_pos h
theorem JG{F:FlV}(h:flB F.k F.s F.m F.e=true):(flX F).ok=true:=by
 unfold flX;split
 ·exact aD6 h
 ·exact JI
end Go.Ab
namespace Go.Ab
open Go Go.Proofs
def awV(s:Bool)(m e:Int):FlV:=if m<9007199254740991 then⟨1,s,m+1,e⟩else if e<971 then⟨1,s,4503599627370496,e+1⟩else⟨2,s,0,0⟩
def toV(k:Int)(s:Bool)(m e:Int):FlV:=if k=2 then⟨1,s,9007199254740991,971⟩else if 4503599627370496<m∨(e= -1074∧1<m)then⟨k,s,m-1,e⟩else if-1074<e then⟨k,s,9007199254740991,e-1⟩else⟨0,s,0,0⟩
def nxV(k:Int)(s:Bool)(m e:Int):FlV:=if k=3∨(k=2∧s=false)then⟨k,s,m,e⟩else if k=0 then⟨1,false,1, -1074⟩else if s=true then toV k s m e else awV s m e
theorem aCg(s:Bool)(m e:Int)(hm:0≤m∧m≤9007199254740991)(he: -1074≤e∧e≤971):Con Tryz.prog 133 true [.ag [.v (.int .i64 (1)),.v (.bool (s)),.v (.int .i64 (m)),.v (.int .i64 (e))]] [] (isA (.ag [.v (.int .i64 ((awV s m e).k)),.v (.bool ((awV s m e).s)),.v (.int .i64 ((awV s m e).m)),.v (.int .i64 ((awV s m e).e))])):=by
 unfold awV
 refine Con.of_w (rs:=[.cell 2 63]) Tryz.func133 rfl Tryz.ntmps133 rfl ?_
 simp(disch:=omega)only[go_sem]
 refine qe (fun h1=>?_) (fun h1=>?_)
 ·simp(disch:=omega)only[go_sem,h1]
  rw[if_pos h1]
  exact qq
 ·simp(disch:=omega)only[go_sem,h1]
  rw[if_neg h1]
  refine qe (fun h2=>?_) (fun h2=>?_)
  ·simp(disch:=omega)only[go_sem,h2]
   rw[if_pos h2]
   exact qq
  ·simp(disch:=omega)only[go_sem,h2]
   rw[if_neg h2]
   refine qb (QX s) ?_
   simp(disch:=omega)only[go_sem]
   exact qq
theorem JJ(k:Int)(s:Bool)(m e:Int)(hm:0≤m∧m≤9007199254740991)(he: -1074≤e∧e≤971):Con Tryz.prog 132 true [.ag [.v (.int .i64 (k)),.v (.bool (s)),.v (.int .i64 (m)),.v (.int .i64 (e))]] [] (isA (.ag [.v (.int .i64 ((toV k s m e).k)),.v (.bool ((toV k s m e).s)),.v (.int .i64 ((toV k s m e).m)),.v (.int .i64 ((toV k s m e).e))])):=by
 unfold toV
 refine Con.of_w (rs:=[.cell 2 63]) Tryz.func132 rfl Tryz.ntmps132 rfl ?_
 simp(disch:=omega)only[go_sem]
 refine qe (fun h1=>?_) (fun h1=>?_)
 ·simp(disch:=omega)only[go_sem,h1]
  rw[if_pos h1]
  exact qq
 ·rw[if_neg h1]
  by_cases h2:4503599627370496<m
  ·simp(disch:=omega)only[go_sem,h1,h2]
   rw[if_pos (.inl h2)]
   exact qq
  ·have h2':decide (4503599627370496<m)=false:=decide_eq_false h2
   by_cases h3:e= -1074
   ·have h3':decide (e= -1074)=true:=decide_eq_true h3
    by_cases h4:1<m
    ·simp(disch:=omega)only[go_sem,h1,h2,h3',h4]
     rw[if_pos (.inr ⟨h3,h4⟩)]
     exact qq
    ·have h5:decide (-1074<e)=false:=decide_eq_false (by omega)
     simp(disch:=omega)only[go_sem,h1,h2,h3',h4,h5]
     rw[if_neg (by omega),if_neg (by omega)]
     refine qb (Qs s) ?_
     simp(disch:=omega)only[go_sem]
     exact qq
   ·have h3':decide (e= -1074)=false:=decide_eq_false h3
    have h5:decide (-1074<e)=true:=decide_eq_true (by omega)
    simp(disch:=omega)only[go_sem,h1,h2,h3',h5]
    rw[if_neg (by omega),if_pos (by omega)]
    exact qq
theorem ajc(k:Int)(s:Bool)(m e:Int)(h:flB k s m e=true):Con Tryz.prog 53 true [.ag [.v (.int .i64 (k)),.v (.bool (s)),.v (.int .i64 (m)),.v (.int .i64 (e))]] [] (isA (.ag [.v (.int .i64 ((nxV k s m e).k)),.v (.bool ((nxV k s m e).s)),.v (.int .i64 ((nxV k s m e).m)),.v (.int .i64 ((nxV k s m e).e))])):=by
 obtain⟨a1,a2,a3,a4,a5,a6⟩:=zn h
 unfold nxV
 by_cases c3:k=3
 ·rw[if_pos (.inl c3)]
  subst c3
  refine Con.of_w (rs:=[.cell 2 63]) Tryz.func53 rfl Tryz.ntmps53 rfl ?_
  simp(disch:=omega)only[go_sem]
  refine qb (z6 3 s m e) ?_
  simp(disch:=omega)only[go_sem]
  simp(disch:=omega)only[go_sem,h]
  exact qq
 by_cases c2:k=2
 ·subst c2
  cases s
  ·rw[if_pos (.inr ⟨rfl,rfl⟩)]
   refine Con.of_w (rs:=[.cell 2 63]) Tryz.func53 rfl Tryz.ntmps53 rfl ?_
   simp(disch:=omega)only[go_sem]
   refine qb (z6 2 false m e) ?_
   simp(disch:=omega)only[go_sem]
   simp(disch:=omega)only[go_sem,h]
   exact qq
  ·rw[if_neg (by simp),if_neg (by omega),if_pos rfl]
   refine Con.of_w (rs:=[.cell 2 63]) Tryz.func53 rfl Tryz.ntmps53 rfl ?_
   simp(disch:=omega)only[go_sem]
   refine qb (z6 2 true m e) ?_
   simp(disch:=omega)only[go_sem]
   simp(disch:=omega)only[go_sem,h]
   refine qb (JJ 2 true m e (by omega) (by omega)) ?_
   simp(disch:=omega)only[go_sem]
   exact qq
 rw[if_neg (by omega)]
 by_cases c0:k=0
 ·subst c0
  rw[if_pos rfl]
  refine Con.of_w (rs:=[.cell 2 63]) Tryz.func53 rfl Tryz.ntmps53 rfl ?_
  simp(disch:=omega)only[go_sem]
  refine qb (z6 0 s m e) ?_
  simp(disch:=omega)only[go_sem]
  simp(disch:=omega)only[go_sem,h]
  exact qq
 have c1:k=1:=by omega
 subst c1
 rw[if_neg (by omega)]
 cases s
 ·rw[if_neg (by simp)]
  refine Con.of_w (rs:=[.cell 2 63]) Tryz.func53 rfl Tryz.ntmps53 rfl ?_
  simp(disch:=omega)only[go_sem]
  refine qb (z6 1 false m e) ?_
  simp(disch:=omega)only[go_sem]
  simp(disch:=omega)only[go_sem,h]
  refine qb (aCg false m e (by omega) (by omega)) ?_
  simp(disch:=omega)only[go_sem]
  exact qq
 ·rw[if_pos rfl]
  refine Con.of_w (rs:=[.cell 2 63]) Tryz.func53 rfl Tryz.ntmps53 rfl ?_
  simp(disch:=omega)only[go_sem]
  refine qb (z6 1 true m e) ?_
  simp(disch:=omega)only[go_sem]
  simp(disch:=omega)only[go_sem,h]
  refine qb (JJ 1 true m e (by omega) (by omega)) ?_
  simp(disch:=omega)only[go_sem]
  exact qq
def ulE(k e:Int):Int:=if k=0 then-1074 else e
end Go.Ab
namespace Go.Ab
structure Adj(k:Int)(s:Bool)(m e:Int)(n:FlV)(t:Bool)(a:Nat)(E:Int):Prop where
 ha:a<2^53
 hf:2^52≤a∨E= -1074
 hE: -1074≤E∧E≤971
 ho:¬(a+1=2^53∧E=971)
 hu:E≤ulE k e
 lo:dv 1074 (xS k s) m.toNat e=dv 1074 t (if t=true then a+1 else a) E
 hi:dv 1074 (xS n.k n.s) n.m.toNat n.e=dv 1074 t (if t=true then a else a+1) E
theorem aEg(s:Bool)(E:Int)(hE: -1074≤E):dv 1074 s 4503599627370496 (E+1)=dv 1074 s 9007199254740992 E:=by
 unfold dv
 have:(E+1+((1074:Nat):Int)).toNat=(E+((1074:Nat):Int)).toNat+1:=by omega
 rw[this,Int.pow_succ]
 cases s<;>simp[sv]<;>omega
theorem aDW{k:Int}{s:Bool}{m e:Int}(h:flB k s m e=true)(hk:k=0∨k=1)(hn:(nxV k s m e).k=0∨(nxV k s m e).k=1):∃t a E,Adj k s m e (nxV k s m e) t a E:=by
 obtain⟨a1,a2,a3,a4,a5,a6⟩:=zn h
 have n3:¬(k=3∨(k=2∧s=false)):=by omega
 have nx:nxV k s m e=if k=0 then⟨1,false,1, -1074⟩else if s=true then toV k s m e else awV s m e:=by unfold nxV;rw[if_neg n3]
 rcases hk with rfl|rfl
 ·have hm:=(a4 (by omega)).1
  rw[if_pos rfl]at nx
  rw[nx]at hn ⊢
  subst hm
  exact⟨false,0, -1074,by omega,.inr rfl,by omega,by omega,by unfold ulE;omega,by rw[if_neg (by simp)];show dv _ _ 0 _=_;rw[ja,ja],by rw[if_neg (by simp)];rfl⟩
 ·rw[if_neg (by omega)]at nx
  obtain⟨n,rfl⟩:=Int.eq_ofNat_of_zero_le a1.1
  have hv:=jJ.1 h
  have hxs:xS 1 s=s:=by unfold xS;simp
  cases s
  ·rw[if_neg (by simp)]at nx
   rw[nx]at hn ⊢
   unfold awV at hn ⊢
   by_cases c1:(n:Int)<9007199254740991
   ·rw[if_pos c1]at hn ⊢
    refine⟨false,n,e,by omega,by omega,by omega,by omega,by unfold ulE;split<;>omega,?_,?_⟩
    ·rw[if_neg (by simp)];rfl
    ·rw[if_neg (by simp)]
     have:((n:Int)+1).toNat=n+1:=by omega
     show dv _ _ ((n:Int)+1).toNat _=_
     rw[this];rfl
   ·rw[if_neg c1]at hn ⊢
    by_cases c2:e<971
    ·rw[if_pos c2]at hn ⊢
     have hnn:n=9007199254740991:=by omega
     refine⟨false,n,e,by omega,by omega,by omega,by omega,by unfold ulE;split<;>omega,?_,?_⟩
     ·rw[if_neg (by simp)];rfl
     ·rw[if_neg (by simp),hnn]
      exact aEg false e (by omega)
    ·rw[if_neg c2]at hn
     rcases hn with hn|hn<;>cases hn
  ·rw[if_pos rfl]at nx
   rw[nx]at hn ⊢
   unfold toV at hn ⊢
   rw[if_neg (by omega)]at hn ⊢
   by_cases c1:4503599627370496<(n:Int)∨(e= -1074∧1<(n:Int))
   ·rw[if_pos c1]at hn ⊢
    refine⟨true,n-1,e,by omega,by omega,by omega,by omega,by unfold ulE;split<;>omega,?_,?_⟩
    ·rw[if_pos rfl,show n-1+1=n by omega];rfl
    ·rw[if_pos rfl]
     have:((n:Int)-1).toNat=n-1:=by omega
     show dv _ _ ((n:Int)-1).toNat _=_
     rw[this];rfl
   ·rw[if_neg c1]at hn ⊢
    by_cases c2: -1074<e
    ·rw[if_pos c2]at hn ⊢
     have hnn:n=4503599627370496:=by omega
     refine⟨true,9007199254740991,e-1,by omega,by omega,by omega,by omega,by unfold ulE;split<;>omega,?_,?_⟩
     ·rw[if_pos rfl,hnn]
      have:=aEg true (e-1) (by omega)
      rw[show e-1+1=e by omega]at this
      exact this
     ·rw[if_pos rfl];rfl
    ·rw[if_neg c2]at hn ⊢
     have hnn:n=1:=by omega
     have he:e= -1074:=by omega
     refine⟨true,0, -1074,by omega,.inr rfl,by omega,by omega,by unfold ulE;split<;>omega,?_,?_⟩
     ·rw[if_pos rfl,hnn,he];rfl
     ·rw[if_pos rfl];show dv _ _ 0 _=_;rw[ja,ja]
theorem Yg{k:Int}{s:Bool}{m e:Int}(h:flB k s m e=true)(hk:k≠3):flB (nxV k s m e).k (nxV k s m e).s (nxV k s m e).m (nxV k s m e).e=true∧(nxV k s m e).k≠3:=by
 obtain⟨a1,a2,a3,a4,a5,a6⟩:=zn h
 unfold nxV
 by_cases c2:k=2
 ·subst c2
  cases s
  ·rw[if_pos (.inr ⟨rfl,rfl⟩)];exact⟨h,by simp⟩
  ·rw[if_neg (by simp),if_neg (by omega),if_pos rfl]
   unfold toV;rw[if_pos rfl];exact⟨by decide,by simp⟩
 rw[if_neg (by omega)]
 by_cases c0:k=0
 ·rw[if_pos c0];exact⟨by decide,by simp⟩
 have c1:k=1:=by omega
 subst c1
 have hv:=jJ.1 h
 rw[if_neg c0]
 cases s
 ·rw[if_neg (by simp)]
  unfold awV
  by_cases d1:m<9007199254740991
  ·rw[if_pos d1];exact⟨jJ.2 (by dsimp only;omega),by simp⟩
  ·rw[if_neg d1]
   by_cases d2:e<971
   ·rw[if_pos d2];exact⟨jJ.2 (by dsimp only;omega),by simp⟩
   ·rw[if_neg d2];exact⟨aKR false,by simp⟩
 ·rw[if_pos rfl]
  unfold toV
  rw[if_neg (by omega)]
  by_cases d1:4503599627370496<m∨(e= -1074∧1<m)
  ·rw[if_pos d1];exact⟨jJ.2 (by dsimp only;omega),by simp⟩
  ·rw[if_neg d1]
   by_cases d2: -1074<e
   ·rw[if_pos d2];exact⟨jJ.2 (by dsimp only;omega),by simp⟩
   ·rw[if_neg d2];exact⟨Yx true,by simp⟩
theorem ac6(m e:Int):nxV 1 false m e=awV false m e:=by
 unfold nxV;rw[if_neg (by omega),if_neg (by omega),if_neg (by simp)]
theorem aI9(m e:Int):nxV 1 true m e=toV 1 true m e:=by
 unfold nxV;rw[if_neg (by omega),if_neg (by omega),if_pos rfl]
theorem aof(m e:Int):nxV 2 true m e=⟨1,true,9007199254740991,971⟩:=by
 unfold nxV toV;rw[if_neg (by simp),if_neg (by omega),if_pos rfl,if_pos rfl]
theorem aAz(s:Bool)(m e:Int):nxV 0 s m e=⟨1,false,1, -1074⟩:=by
 unfold nxV;rw[if_neg (by omega),if_pos rfl]
theorem bds:ngS 1 false=true:=rfl
theorem bdq:ngS 1 true=false:=rfl
theorem bdr:ngS 2 false=true:=rfl
end Go.Ab
namespace Go.Ab
open Go Go.Proofs
def bcR(ok:Bool):AV→List Ob→List Ob→Prop:=fun r hs bs=>hs=[]∧bs=[]∧∃(S:Bool) (M:Nat) (E:Int) (b:Bool),dyB S (lim M) E=true∧(ok=false→b=false)∧r=.tu [.ag [.v (.bool (S)),.sl (lim (M)).length (qg (lim (M))),.v (.int .i64 (E))],.v (.bool b)]
theorem Qq{K j:Nat}{s:Bool}{m:Nat}{e:Int}(h: -(K:Int)≤e):dv (K+j) s m e=dv K s m e*2^j:=by
 unfold dv
 have:(e+((K+j:Nat):Int)).toNat=(e+(K:Int)).toNat+j:=by omega
 rw[this,Int.pow_add,Int.mul_assoc]
end Go.Ab
namespace Go.Ab
open Go Go.Proofs
/-! ### The float of a number,as of a quotient by a power of two-/
def frB(m:Nat)(e:Int):Nat:=2^(qC (bl m+e)-e).toNat
def frL(m:Nat)(e:Int):Int:=if qC (bl m+e)≤e then e else qC (bl m+e)
theorem aYM{s:Bool}{m:Nat}{e:Int}(mode:Int)(z:Bool)(h0:m≠0):flV s m e mode z=rnF s m (frB m e) (frL m e) mode:=by
 unfold flV rnF frB frL
 rw[if_neg h0]
 by_cases h:qC (bl m+e)≤e
 ·have c:qC (bl m+e)≤e∨m=0:=.inl h
  unfold roM roE
  rw[if_pos c,if_pos c,if_pos h,show(qC (bl m+e)-e).toNat=0 by omega,Nat.pow_zero,aea]
 ·have c:¬(qC (bl m+e)≤e∨m=0):=by omega
  unfold roM roE
  rw[if_neg c,if_neg c,if_neg h]
theorem aYN{s:Bool}{m:Nat}{e:Int}(mode:Int)(h0:m≠0):flG s m e mode=jZ (bl m+e) (decide (m % frB m e=0)) (rq s m (frB m e) mode) (frL m e):=by
 unfold flG frB frL
 rw[if_neg h0]
 by_cases h:qC (bl m+e)≤e
 ·have c:qC (bl m+e)≤e∨m=0:=.inl h
  unfold roM roE roX
  rw[if_pos c,if_pos c,if_pos c,if_pos h,show(qC (bl m+e)-e).toNat=0 by omega,Nat.pow_zero,aea,Nat.mod_one]
  rfl
 ·have c:¬(qC (bl m+e)≤e∨m=0):=by omega
  unfold roM roE roX
  rw[if_neg c,if_neg c,if_neg c,if_neg h]
theorem QE{s:Bool}{m:Nat}{e:Int}(mode:Int)(h0:m≠0):rq s m (frB m e) mode≠0→flE (rq s m (frB m e) mode) (frL m e)≤oE (rq s m (frB m e) mode) (frL m e):=by
 have h:=@Yb s m e mode h0
 unfold frB frL
 by_cases hl:qC (bl m+e)≤e
 ·have c:qC (bl m+e)≤e∨m=0:=.inl hl
  unfold roM roE at h
  rw[if_pos c,if_pos c]at h
  rw[if_pos hl,show(qC (bl m+e)-e).toNat=0 by omega,Nat.pow_zero,aea]
  exact h
 ·have c:¬(qC (bl m+e)≤e∨m=0):=by omega
  unfold roM roE at h
  rw[if_neg c,if_neg c]at h
  rw[if_neg hl]
  exact h
theorem baO(m:Nat)(e:Int): -1074≤frL m e∧e≤frL m e∧frB m e=2^(frL m e-e).toNat∧bl m+e≤frL m e+53∨(frL m e=e∧frB m e=1∧ -1074≤e):=by
 unfold frL frB qC
 by_cases h:(if-1074>(bl m:Int)+e-53 then-1074 else(bl m:Int)+e-53)≤e
 ·right
  rw[if_pos h,show((if-1074>(bl m:Int)+e-53 then-1074 else(bl m:Int)+e-53)-e).toNat=0 by omega]
  refine⟨rfl,rfl,?_⟩
  split at h<;>omega
 ·left
  rw[if_neg h]
  refine⟨by split<;>omega,by omega,rfl,by split<;>omega⟩
theorem aBg(m:Nat)(e:Int): -1074≤frL m e∧e≤frL m e∧frB m e=2^(frL m e-e).toNat∧0<frB m e:=by
 have hp:0<frB m e:=Nat.pow_pos (by omega)
 rcases baO m e with h|h
 ·exact⟨h.1,h.2.1,h.2.2.1,hp⟩
 ·exact⟨by omega,by omega,by rw[h.1,h.2.1,Int.sub_self];rfl,hp⟩
theorem bc4{m:Nat}{e:Int}(h:m % frB m e≠0):m/frB m e<2^53∧(2^52≤m/frB m e∨frL m e= -1074):=by
 have hl:¬qC (bl m+e)≤e:=fun hl=>by
  unfold frB at h
  rw[show(qC (bl m+e)-e).toNat=0 by omega,Nat.pow_zero,Nat.mod_one]at h
  exact h rfl
 unfold frB frL
 rw[if_neg hl]
 have hp:0<2^(qC (bl m+e)-e).toNat:=Nat.pow_pos (by omega)
 constructor
 ·rw[Nat.div_lt_iff_lt_mul hp,←Nat.pow_add]
  refine q9.1 ?_
  have:bl m+e-53≤qC (bl m+e):=by unfold qC;split<;>omega
  omega
 ·by_cases h2: -1074>(bl m:Int)+e-53
  ·right;unfold qC;rw[if_pos h2]
  ·left
   have e1:qC (bl m+e)=bl m+e-53:=by unfold qC;rw[if_neg h2]
   rw[Nat.le_div_iff_mul_le hp,←Nat.pow_add]
   refine Nat.le_of_not_lt fun hc=>?_
   have:=q9.2 hc
   omega
theorem aem{a q i j:Nat}(ha:a<2^53)(hq:q<2^53)(hi:2^52≤a∨i=0)(hj:2^52≤q∨j=0)(c:Nat)(hc:c≤1)(h:(a+c)*2^i=(q+c)*2^j):a=q∧i=j:=by
 have key:∀{a q i j:Nat},a<2^53→(2^52≤q∨j=0)→(a+c)*2^i=(q+c)*2^j→¬i<j:=by
  intro a q i j ha hj h hl
  obtain⟨d,rfl⟩:∃d,j=i+1+d:=⟨j-i-1,by omega⟩
  rw[show i+1+d=(d+1)+i by omega,Nat.pow_add _ (d+1),←Nat.mul_assoc]at h
  have h1:=Nat.eq_of_mul_eq_mul_right (Nat.pow_pos (by omega)) h
  have h2:(q+c)*2^1≤(q+c)*2^(d+1):=Nat.mul_le_mul_left _ (Nat.pow_le_pow_right (by omega) (by omega))
  omega
 have h1:i=j:=by
  have:=key ha hj h
  have:=key hq hi h.symm
  omega
 subst h1
 have:=Nat.eq_of_mul_eq_mul_right (Nat.pow_pos (by omega)) h
 exact⟨by omega,rfl⟩
theorem adO{k:Int}{s:Bool}{m e k':Int}{s':Bool}{m' e':Int}(h:k≠2)(h':k'≠2)(he: -1074≤e)(he': -1074≤e')(hv:dv 1074 (xS k s) m.toNat e=dv 1074 (xS k' s') m'.toNat e'):aqa k s m e k' s' m' e'=0:=by
 have r1:rkF k s=0:=by unfold rkF;rw[if_neg h]
 have r2:rkF k' s'=0:=by unfold rkF;rw[if_neg h']
 unfold aqa
 rw[r1,r2,if_neg (by simp),show(3000:Nat)=1074+1926 from rfl,Qq he,Qq he',hv]
 exact ap9 _
theorem aDV{k:Int}{s:Bool}{m e:Int}(h:flB k s m e=true)(hk:k=0∨k=1)(h2:(nxV k s m e).k=2):s=false∧k=1∧m=9007199254740991∧e=971:=by
 obtain⟨a1,a2,a3,a4,a5,a6⟩:=zn h
 rcases hk with rfl|rfl
 ·rw[aAz]at h2;cases h2
 ·cases s
  ·rw[ac6]at h2
   unfold awV at h2
   split at h2
   ·cases h2
   ·split at h2
    ·cases h2
    ·exact⟨rfl,rfl,by omega,by omega⟩
  ·rw[aI9]at h2
   unfold toV at h2
   rw[if_neg (by omega)]at h2
   split at h2
   ·cases h2
   ·split at h2<;>cases h2
theorem jy(K:Nat)(m:Nat)(e:Int):dv K false m e=((m*2^(e+K).toNat:Nat):Int):=by
 unfold dv sv;rw[if_neg (by simp),Int.natCast_mul,Int.natCast_pow];rfl
theorem yb(K:Nat)(m:Nat)(e:Int):dv K true m e= -((m*2^(e+K).toNat:Nat):Int):=by
 unfold dv sv;rw[if_pos rfl,Int.natCast_mul,Int.natCast_pow,Int.neg_mul];rfl
theorem aoS{s:Bool}{q:Nat}{L:Int}(hq:q<2^53)(hf:2^52≤q∨L= -1074)(hL: -1074≤L){D T:FlV}(oD:flB D.k D.s D.m D.e=true)(nD:isN D=true)
  (vD:dv 1074 (xS D.k D.s) D.m.toNat D.e=dv 1074 s (if s=true then q+1 else q) L) (oT:flB T.k T.s T.m T.e=true) (nT:isN T=true)
  (vT:dv 1074 (xS T.k T.s) T.m.toNat T.e=dv 1074 s (if s=true then q else q+1) L):
  aqa (nxV D.k D.s D.m D.e).k (nxV D.k D.s D.m D.e).s (nxV D.k D.s D.m D.e).m (nxV D.k D.s D.m D.e).e T.k T.s T.m T.e=0:=by
 have kD:D.k=0∨D.k=1:=by simpa [isN]using nD
 have kT:T.k=0∨T.k=1:=by simpa [isN]using nT
 obtain⟨b1,b2,b3,b4,b5,b6⟩:=zn oT
 obtain⟨a1,a2,a3,a4,a5,a6⟩:=zn oD
 obtain⟨v1,v2⟩:=Yg oD (by omega)
 obtain⟨c1,c2,c3,c4,c5,c6⟩:=zn v1
 have hp:∀i:Nat,0<2^i:=fun i=>Nat.pow_pos (by omega)
 by_cases h2:(nxV D.k D.s D.m D.e).k=2
 ·exfalso
  obtain⟨x1,x2,x3,x4⟩:=aDV oD kD h2
  rw[x1,x2,x3,show xS 1 false=false from rfl,jy]at vD
  cases s
  ·rw[if_neg (by simp),jy]at vD
   rw[if_neg (by simp),jy]at vT
   obtain⟨y1,y2⟩:=aem (a:=9007199254740991) (by omega) hq (.inl (by omega)) (by omega) 0 (by omega) (Int.ofNat.inj vD)
   have hle:dv 1074 (xS T.k T.s) T.m.toNat T.e≤((9007199254740991*2^(L+1074).toNat:Nat):Int):=by
    have:T.m.toNat*2^(T.e+1074).toNat≤9007199254740991*2^(L+1074).toNat:=Nat.mul_le_mul (by omega) (Nat.pow_le_pow_right (by omega) (by omega))
    cases xS T.k T.s
    ·rw[jy];exact Int.ofNat_le.2 this
    ·rw[yb];omega
   rw[vT]at hle
   have hle:=Int.ofNat_le.1 hle
   have:=Nat.le_of_mul_le_mul_right hle (hp _)
   omega
  ·rw[if_pos rfl,yb]at vD
   have:0<(q+1)*2^(L+((1074:Nat):Int)).toNat:=Nat.mul_pos (by omega) (hp _)
   omega
 ·obtain⟨t,a,E,A⟩:=aDW oD kD (by omega)
  refine adO h2 (by omega) c2.1 b2.1 ?_
  obtain⟨ha,hf',hE, -, -,lo,hi⟩:=A
  rw[hi,vT]
  rw[vD]at lo
  cases s<;>cases t
  ·rw[if_neg (by simp),if_neg (by simp),jy,jy]at lo
   obtain⟨y1,y2⟩:=aem hq ha (by omega) (by omega) 0 (by omega) (Int.ofNat.inj lo)
   rw[if_neg (by simp),if_neg (by simp),y1,show E=L by omega]
  ·rw[if_neg (by simp),if_pos rfl,jy,yb]at lo
   have:0<(a+1)*2^(E+((1074:Nat):Int)).toNat:=Nat.mul_pos (by omega) (hp _)
   omega
  ·rw[if_pos rfl,if_neg (by simp),jy,yb]at lo
   have:0<(q+1)*2^(L+((1074:Nat):Int)).toNat:=Nat.mul_pos (by omega) (hp _)
   omega
  ·rw[if_pos rfl,if_pos rfl,yb,yb]at lo
   obtain⟨y1,y2⟩:=aem hq ha (by omega) (by omega) 1 (by omega) (Int.ofNat.inj (Int.neg_inj.1 lo))
   rw[if_pos rfl,if_pos rfl,y1,show E=L by omega]
theorem aMo{q K:Nat}{L:Int}(h0:q≠0)(h:1024<bl q+L)(hL: -(K:Int)≤L):9007199254740991*2^((971:Int)+K).toNat<q*2^(L+K).toNat:=by
 have hb:bl q≠0:=fun hb=>h0 (by have:=q9.1 (Nat.le_of_eq hb);simpa using this)
 have h1:2^(bl q-1)≤q:=Nat.le_of_not_lt fun hc=>by have:=q9.2 hc;omega
 have h2:(971+(K:Int)).toNat+53≤(bl q-1)+(L+K).toNat:=by omega
 have h3:2^((971+(K:Int)).toNat+53)≤2^((bl q-1)+(L+K).toNat):=Nat.pow_le_pow_right (by omega) h2
 rw[Nat.pow_add,Nat.pow_add]at h3
 have h5:=Nat.mul_le_mul_right (2^(L+K).toNat) h1
 have hp:0<2^(971+(K:Int)).toNat:=Nat.pow_pos (by omega)
 generalize 2^(971+(K:Int)).toNat=X at*
 generalize q*2^(L+K).toNat=Y at*
 generalize 2^(bl q-1)*2^(L+K).toNat=Z at*
 omega
theorem aKe(s:Bool)(m:Nat){e:Int}(he: -3000≤e)(n:Nat):dv 3000 s n (frL m e)=sv s (n*frB m e)*2^(e+(3000:Nat)).toNat:=by
 obtain⟨h1,h2,h3,h4⟩:=aBg m e
 unfold dv
 rw[h3,Ju,Int.natCast_pow,Int.mul_assoc]
 congr 1
 show _=(2:Int)^_*_
 rw[←Int.pow_add]
 congr 1
 omega
theorem aMh{F:FlV}{s:Bool}{n:Nat}{L:Int}(hF: -1074≤F.e)(hL: -1074≤L)(v:dv 1074 (xS F.k F.s) F.m.toNat F.e=dv 1074 s n L):dv 3000 (xS F.k F.s) F.m.toNat F.e=dv 3000 s n L:=by
 rw[show(3000:Nat)=1074+1926 from rfl,Qq hF,Qq hL,v]
theorem aTl{a b:Nat}(h:a % b=0):upQ a b=a/b:=if_pos h
theorem aTk{a b:Nat}(h:a % b≠0):upQ a b=a/b+1:=if_neg h
theorem baP{q:Nat}{L:Int}(hq:q<2^53)(hf:2^52≤q∨L= -1074)(h1:1024<(bl (q+1):Int)+L)(h2:¬(q≠0∧1024<(bl q:Int)+L)):q=9007199254740991∧L=971:=by
 have b54:bl (q+1)≤54:=q9.2 (by omega)
 have hL:L≠ -1074:=by omega
 have h52:2^52≤q:=by omega
 have b53:bl q=53:=aCy (k:=52) h52 hq
 have h6:L=971∨L<971:=by omega
 have h7:54≤bl (q+1):=by omega
 have h8:¬bl (q+1)≤53:=by omega
 rw[q9]at h8
 omega
theorem aoT{s:Bool}{m:Nat}{e:Int}(h0:m≠0)(he: -3000≤e)(h:m % frB m e≠0∨rqB s m (frB m e) (frL m e) 3){D T:FlV}(hD:rnF s m (frB m e) (frL m e) 3=D)(hT:rnF s m (frB m e) (frL m e) 2=T):
  (flB D.k D.s D.m D.e=true∧D.k≠3)∧(flB T.k T.s T.m T.e=true∧T.k≠3)∧aqa (nxV D.k D.s D.m D.e).k (nxV D.k D.s D.m D.e).s (nxV D.k D.s D.m D.e).m (nxV D.k D.s D.m D.e).e T.k T.s T.m T.e=0∧
   (isN D=true→dv 3000 (xS D.k D.s) D.m.toNat D.e<dv 3000 s m e)∧(isN T=true→dv 3000 s m e<dv 3000 (xS T.k T.s) T.m.toNat T.e):=by
 obtain⟨hL,hLe,hB,hb⟩:=aBg m e
 have oD:=aIq (s:=s) hL (QE (s:=s) (e:=e) 3 h0)
 have oT:=aIq (s:=s) hL (QE (s:=s) (e:=e) 2 h0)
 have vD:=aec (s:=s) hL (QE (s:=s) (e:=e) 3 h0)
 have vT:=aec (s:=s) hL (QE (s:=s) (e:=e) 2 h0)
 have gD:=@QR s m (frB m e) (frL m e) 3
 have gT:=@QR s m (frB m e) (frL m e) 2
 rw[hD]at oD vD gD
 rw[hT]at oT vT gT
 have hfq:=@bc4 m e
 have fdv:=fun n=>aKe s m he n
 have hm:=Nat.div_add_mod m (frB m e)
 have hlt:=Nat.mod_lt m hb
 have hr3:=anX s m (frB m e)
 have hr2:=aNe s m (frB m e)
 have hx:dv 3000 s m e=sv s m*2^(e+(3000:Nat)).toNat:=rfl
 have hP:(0:Int)<2^(e+(3000:Nat)).toNat:=Int.pow_pos (by omega)
 have hle:=aDZ m (frB m e)
 have hui:=@aTk m (frB m e)
 have hue:=@aTl m (frB m e)
 have htop:∀q,q≠0→1024<(bl q:Int)+frL m e→q*frB m e≤m→dv 3000 false 9007199254740991 971<((m*2^(e+(3000:Nat)).toNat:Nat):Int):=fun q hq0 hq hqm=>by
  have h1:=aMo (K:=3000) hq0 hq (by omega)
  have h2:=aKe false m he q
  rw[jy,show sv false (q*frB m e)=((q*frB m e:Nat):Int) from rfl]at h2
  have h3:((q*frB m e:Nat):Int)*2^(e+(3000:Nat)).toNat≤(m:Int)*2^(e+(3000:Nat)).toNat:=Int.mul_le_mul_of_nonneg_right (Int.ofNat_le.2 hqm) (Int.le_of_lt hP)
  rw[jy,Int.natCast_mul m,Int.natCast_pow]
  exact Int.lt_of_lt_of_le (Int.ofNat_lt.2 h1) (by rw[h2];exact h3)
 unfold rqB at vD vT gD gT h
 rw[hr3]at vD gD h
 rw[hr2]at vT gT
 generalize frB m e=b at*
 generalize frL m e=L at*
 have hqb:m/b*b≤m:=by rw[Nat.mul_comm];omega
 generalize upQ m b=u at*
 have nk:∀{F:FlV},isN F=true→F.k=0∨F.k=1:=fun {F} h=>by simpa [isN]using h
 cases s
 ·rw[if_neg (by simp)]at vD gD h
  rw[if_neg (by simp)]at vT gT
  by_cases hq:m/b≠0∧1024<(bl (m/b):Int)+L
  ·have gD:=gD hq
   have gT:=gT ⟨fun h0=>hq.1 (Nat.le_zero.1 (Nat.le_trans hle (Nat.le_of_eq h0))),by have:=zf hle;omega⟩
   rw[show ovB false 3=true from rfl,if_pos rfl]at gD
   rw[show ovB false 2=false from rfl,if_neg (by simp)]at gT
   subst gD gT
   refine⟨⟨oD,by simp⟩,⟨oT,by simp⟩,?_,fun _=>?_,fun h=>by cases h⟩
   ·show aqa (nxV 1 false 9007199254740991 971).k _ _ _ _ _ _ _=0
    rw[ac6];rfl
   ·show dv 3000 false 9007199254740991 971<_
    rw[jy 3000 m]
    exact htop _ hq.1 hq.2 hqb
  ·have hx':m % b≠0:=h.elim id fun h=>absurd h hq
   rw[hui hx']at vT gT
   obtain⟨q1,q2⟩:=hfq hx'
   obtain⟨-,iD,vD⟩:=vD hq
   obtain⟨d1,d2,d3,d4,d5,d6⟩:=zn oD
   have kD:=nk iD
   have lD:dv 3000 (xS D.k D.s) D.m.toNat D.e<dv 3000 false m e:=by
    rw[aMh d2.1 hL vD,fdv,hx]
    exact Int.mul_lt_mul_of_pos_right (Int.ofNat_lt.2 (by rw[Nat.mul_comm];omega)) hP
   by_cases hu:m/b+1≠0∧1024<(bl (m/b+1):Int)+L
   ·have gT:=gT hu
    rw[show ovB false 2=false from rfl,if_neg (by simp)]at gT
    subst gT
    refine⟨⟨oD,by omega⟩,⟨oT,by simp⟩,?_,fun _=>lD,fun h=>by cases h⟩
    by_cases h2:(nxV D.k D.s D.m D.e).k=2
    ·obtain⟨x1,x2,x3,x4⟩:=aDV oD kD h2
     rw[x1,x2,x3,x4,ac6];rfl
    ·exfalso
     obtain⟨e1,e2⟩:=baP q1 q2 hu.2 hq
     have hv:=Yg oD (by omega)
     obtain⟨c1,c2,c3,c4,c5,c6⟩:=zn hv.1
     obtain⟨t,a,E,A⟩:=aDW oD kD (by omega)
     obtain⟨ha,hf',hE,ho, -,lo,hi⟩:=A
     rw[vD]at lo
     cases t
     ·rw[if_neg (by simp),jy,jy]at lo
      obtain⟨y1,y2⟩:=aem q1 ha (by omega) (by omega) 0 (by omega) (Int.ofNat.inj lo)
      exact ho ⟨by omega,by omega⟩
     ·rw[if_pos rfl,jy,yb]at lo
      have:0<(a+1)*2^(E+((1074:Nat):Int)).toNat:=Nat.mul_pos (by omega) (Nat.pow_pos (by omega))
      omega
   ·obtain⟨-,iT,vT⟩:=vT hu
    have kT:=nk iT
    obtain⟨t1,t2, -⟩:=zn oT
    refine⟨⟨oD,by omega⟩,⟨oT,by omega⟩,aoS (s:=false) q1 q2 hL oD iD vD oT iT vT,fun _=>lD,fun _=>?_⟩
    rw[aMh t2.1 hL vT,fdv,hx]
    exact Int.mul_lt_mul_of_pos_right (Int.ofNat_lt.2 (by rw[Nat.mul_comm,Nat.mul_add];omega)) hP
 ·rw[if_pos rfl]at vD gD h
  rw[if_pos rfl]at vT gT
  have sn:∀n:Nat,sv true n= -(n:Int):=fun n=>rfl
  by_cases hq:m/b≠0∧1024<(bl (m/b):Int)+L
  ·have gT:=gT hq
   have gD:=gD ⟨fun h0=>hq.1 (Nat.le_zero.1 (Nat.le_trans hle (Nat.le_of_eq h0))),by have:=zf hle;omega⟩
   rw[show ovB true 3=false from rfl,if_neg (by simp)]at gD
   rw[show ovB true 2=true from rfl,if_pos rfl]at gT
   subst gD gT
   refine⟨⟨oD,by simp⟩,⟨oT,by simp⟩,?_,(fun h=>by cases h),fun _=>?_⟩
   ·show aqa (nxV 2 true 0 0).k _ _ _ _ _ _ _=0
    rw[aof]
    exact adO (by simp) (by simp) (by simp) (by simp) rfl
   ·show _<dv 3000 true 9007199254740991 971
    have:=htop _ hq.1 hq.2 hqb
    rw[jy]at this
    rw[yb,yb]
    omega
  ·have hx':m % b≠0:=h.elim id fun h=>by
    refine fun h1=>hq ?_
    rw[hue h1]at h
    exact h
   rw[hui hx']at vD gD
   obtain⟨q1,q2⟩:=hfq hx'
   obtain⟨-,iT,vT⟩:=vT hq
   obtain⟨t1,t2, -⟩:=zn oT
   have kT:=nk iT
   have lT:dv 3000 true m e<dv 3000 (xS T.k T.s) T.m.toNat T.e:=by
    rw[aMh t2.1 hL vT,fdv,hx,sn,sn]
    exact Int.mul_lt_mul_of_pos_right (Int.neg_lt_neg (Int.ofNat_lt.2 (by rw[Nat.mul_comm];omega))) hP
   by_cases hu:m/b+1≠0∧1024<(bl (m/b+1):Int)+L
   ·have gD:=gD hu
    rw[show ovB true 3=false from rfl,if_neg (by simp)]at gD
    subst gD
    obtain⟨e1,e2⟩:=baP q1 q2 hu.2 hq
    refine⟨⟨oD,by simp⟩,⟨oT,by omega⟩,?_,(fun h=>by cases h),fun _=>lT⟩
    show aqa (nxV 2 true 0 0).k _ _ _ _ _ _ _=0
    rw[aof]
    refine adO (by simp) (by omega) (by simp) t2.1 ?_
    rw[vT,e1,e2];rfl
   ·obtain⟨-,iD,vD⟩:=vD hu
    have kD:=nk iD
    obtain⟨d1,d2, -⟩:=zn oD
    refine⟨⟨oD,by omega⟩,⟨oT,by omega⟩,aoS (s:=true) q1 q2 hL oD iD vD oT iT vT,fun _=>?_,fun _=>lT⟩
    rw[aMh d2.1 hL vD,fdv,hx,sn,sn]
    exact Int.mul_lt_mul_of_pos_right (Int.neg_lt_neg (Int.ofNat_lt.2 (by rw[Nat.mul_comm,Nat.mul_add];omega))) hP
end Go.Ab
namespace Go.Ab
open Go Go.Proofs
section
variable (l:List UInt8)(hl:l.length≤9223372036854775807)(i h:Int)(hi:0≤i∧i≤l.length)
include hl hi
theorem YM:Con Tryz.prog 292 false [.pt 10000000 0] [.own 0 [.sl l.length (qp l),.v (.int .i64 i),.v (.int .i64 h)]] (Y0 l fun r=>∃k:Int,(0≤k∧k≤100)∧r=.v (.int .i64 k)):=by
 refine Con.of_aw Tryz.func292 rfl Tryz.ntmps292 (by simp) (by simp) (by simp) (W.sound ?_)
 show @W Tryz.prog 10 ⟨_⟩ ⟨fun x σ=>@za _ _ _ ⟨_⟩ _ ⟨_⟩ x σ⟩ _ _
 simp(disch:=omega)only[go_sem]
 refine ql (qR l hl i h hi 12 (by omega)) ?_
 rintro r i1 h1 hi1 ⟨b,rfl⟩
 simp(disch:=omega)only[go_sem]
 cases b
 ·simp(disch:=omega)only[go_sem]
  refine ql (qI l hl i1 h1 hi1 6 (by omega)) ?_
  rintro r i2 h2 hi2 ⟨k,hk,rfl⟩
  simp(disch:=omega)only[go_sem]
  have:=hk.2 (by omega)
  refine qV (i2) (h2) ⟨_,by omega,rfl⟩
 ·simp(disch:=omega)only[go_sem]
  refine zl (qK l hl i1 h1 hi1 [100,99,50,20] (by simp) (by simp)) ?_
  rintro r i2 h2 hi2 ⟨x,hx,rfl⟩
  have hx_b:0≤x∧x≤100:=by
   simp only[List.mem_cons,List.not_mem_nil,or_false]at hx
   omega
  clear hx
  simp(disch:=omega)only[go_sem]
  refine qV (i2) (h2) ⟨_,by omega,rfl⟩
theorem JV:Con Tryz.prog 264 false [.pt 10000000 0] [.own 0 [.sl l.length (qp l),.v (.int .i64 i),.v (.int .i64 h)]] (fun r hs bs=>(∃m:Nat,bl m≤1600∧aAV m r hs [])∧∃i h:Int,(0≤i∧i≤l.length)∧bs=[.own 0 [.sl l.length (qp l),.v (.int .i64 i),.v (.int .i64 h)]]):=by
 refine Con.of_aw Tryz.func264 rfl Tryz.ntmps264 (by simp) (by simp) (by simp) (W.sound ?_)
 show @W Tryz.prog 38 ⟨_⟩ ⟨fun x σ=>@za _ _ _ ⟨_⟩ _ ⟨_⟩ x σ⟩ _ _
 simp(disch:=omega)only[go_sem]
 refine ql (YM l hl i h hi) ?_
 rintro r i1 h1 hi1 ⟨k,hk,rfl⟩
 simp(disch:=omega)only[go_sem]
 refine qk (fun x:Nat×List Int×Int×Int=>[(0,.pt 10000000 0),(2,.pt 2 0),(3,.rf 1 0 x.2.1.length),(4,.v (.int .i64 k)),(5,.v (.int .i64 x.1))])
  (fun x=>[(1,.own 1 (qg x.2.1)),(2,.own 0 [.v (.slice none 0 0)]),(10000000,.own 0 [.sl l.length (qp l),.v (.int .i64 x.2.2.1),.v (.int .i64 x.2.2.2)])])
  (fun x=>x.1≤k.toNat∧x.2.1.length=x.1∧gd x.2.1∧(0≤x.2.2.1∧x.2.2.1≤l.length)) (fun x=>k.toNat-x.1) (0,[],i1,h1) ⟨by simp,rfl,by simp[gd],hi1⟩
  ((Le.ghost 3 1 1 (by simp(disch:=omega)only[go_sem]) (by simp(disch:=omega)only[go_sem])).trans (Le.lst [(2,40000000)] _ _ rfl (by simp(disch:=omega)only[go_sem]) (by simp(disch:=omega)only[go_sem]))) ?_
 rintro⟨j,xs,i2,h2⟩ ⟨hj,hxl,hg,hi2⟩
 dsimp only at hj hxl hg hi2 ⊢
 simp(disch:=omega)only[go_sem]
 refine qe (fun c1=>?_) (fun c1=>?_)
 ·simp(disch:=omega)only[go_sem,c1]
  refine ql (qI l hl i2 h2 hi2 4 (by omega)) ?_
  rintro r i3 h3 hi3 ⟨q,hq,rfl⟩
  simp(disch:=omega)only[go_sem]
  by_cases q0:q=0
  ·simp(disch:=omega)only[go_sem,q0]
   exact⟨by omega,qh (j+1,xs++[65535],i3,h3) [(1,260000000)] ⟨by dsimp only;omega,by simp[hxl],qO.2 ⟨hg,by simp[gd]⟩,hi3⟩ (by show k.toNat-(j+1)<k.toNat-j;omega) rfl (by simp(disch:=omega)only[go_sem,List.length_append];try omega) (by simp(disch:=omega)only[go_sem])⟩
  by_cases q1:q=1
  ·simp(disch:=omega)only[go_sem,q0,q1]
   exact⟨by omega,qh (j+1,xs++[0],i3,h3) [(1,310000000)] ⟨by dsimp only;omega,by simp[hxl],qO.2 ⟨hg,by simp[gd]⟩,hi3⟩ (by show k.toNat-(j+1)<k.toNat-j;omega) rfl (by simp(disch:=omega)only[go_sem,List.length_append];try omega) (by simp(disch:=omega)only[go_sem])⟩
  simp(disch:=omega)only[go_sem,q0,q1]
  refine ql (qI l hl i3 h3 hi3 65536 (by omega)) ?_
  rintro r i4 h4 hi4 ⟨d,hd,rfl⟩
  simp(disch:=omega)only[go_sem]
  have hd2:=hd.2 (by omega)
  exact⟨by omega,qh (j+1,xs++[d],i4,h4) [(1,210000000)] ⟨by dsimp only;omega,by simp[hxl],qO.2 ⟨hg,QD.2 ⟨by omega,by simp[gd]⟩⟩,hi4⟩ (by show k.toNat-(j+1)<k.toNat-j;omega) rfl (by simp(disch:=omega)only[go_sem,List.length_append];try omega) (by simp(disch:=omega)only[go_sem])⟩
 ·simp(disch:=omega)only[go_sem,c1]
  refine ql (qR l hl i2 h2 hi2 4 (by omega)) ?_
  rintro r i3 h3 hi3 ⟨b,rfl⟩
  simp(disch:=omega)only[go_sem]
  cases b
  ·simp(disch:=omega)only[go_sem]
   have hv:vl xs=((vl xs).toNat:Int):=(Int.toNat_of_nonneg (qM hg)).symm
   have hb:bl (vl xs).toNat≤1600:=by
    refine q9.2 ?_
    have h1:=yG hg
    have h2:(65536:Int)^xs.length≤65536^100:=by
     rw[show(65536:Int)=((65536:Nat):Int) from rfl,←Int.natCast_pow,←Int.natCast_pow]
     exact Int.ofNat_le.2 (Nat.pow_le_pow_right (by omega) (by omega))
    have h3:(65536:Int)^100=((2^1600:Nat):Int):=by decide+kernel
    omega
   generalize (vl xs).toNat=m at*
   refine qB (jr true xs m (by omega) hg hv) (by simp(disch:=omega)only[go_sem]) ?_
   rintro r hs (⟨h0,rfl,rfl⟩|⟨zs,rfl,rfl⟩)
   ·refine⟨⟨by simp,by simp(disch:=omega)only[go_sem]⟩,?_⟩
    simp(disch:=omega)only[go_sem]
    refine qj [] [] [.own 0 [.sl l.length (qp l),.v (.int .i64 i3),.v (.int .i64 h3)]] [.ag [.v (.slice none 0 0)]] rfl (by simp(disch:=omega)only[go_sem]) (by simp(disch:=omega)only[go_sem]) (by simp) (by simp) ⟨⟨m,hb,.inl ⟨h0,rfl,rfl⟩⟩,_,_,hi3,rfl⟩
   ·refine⟨⟨by simp,by simp(disch:=omega)only[go_sem]⟩,?_⟩
    simp(disch:=omega)only[go_sem]
    refine qj [(0,390000000)] [.own 1 (qg (lim m++zs))] [.own 0 [.sl l.length (qp l),.v (.int .i64 i3),.v (.int .i64 h3)]] [.ag [.rf 0 0 (lim m).length]] rfl (by simp(disch:=omega)only[go_sem]) (by simp(disch:=omega)only[go_sem]) (by simp) (by simp) ⟨⟨m,hb,.inr ⟨zs,rfl,rfl⟩⟩,_,_,hi3,rfl⟩
  ·simp(disch:=omega)only[go_sem]
   refine zl (qK l hl i3 h3 hi3 [0,1,2,9,10,65535,65536,1099511627776,4611686018427387903,4611686018427387904] (by simp) (by simp)) ?_
   rintro r i4 h4 hi4 ⟨x,hx,rfl⟩
   have hx_b:0≤x∧x≤4611686018427387904:=by
    simp only[List.mem_cons,List.not_mem_nil,or_false]at hx
    omega
   clear hx
   simp(disch:=omega)only[go_sem]
   obtain⟨n,rfl⟩:=Int.eq_ofNat_of_zero_le hx_b.1
   have hb:bl n≤1600:=Nat.le_trans (show bl n≤63 from q9.2 (by omega)) (by omega)
   refine qB (YL true n (by omega)) (by simp(disch:=omega)only[go_sem]) ?_
   rintro r hs (⟨h0,rfl,rfl⟩|⟨zs,rfl,rfl⟩)
   ·refine⟨⟨by simp,by simp(disch:=omega)only[go_sem]⟩,?_⟩
    simp(disch:=omega)only[go_sem]
    refine qj [] [] [.own 0 [.sl l.length (qp l),.v (.int .i64 i4),.v (.int .i64 h4)]] [.ag [.v (.slice none 0 0)]] rfl (by simp(disch:=omega)only[go_sem]) (by simp(disch:=omega)only[go_sem]) (by simp) (by simp) ⟨⟨n,hb,.inl ⟨h0,rfl,rfl⟩⟩,_,_,hi4,rfl⟩
   ·refine⟨⟨by simp,by simp(disch:=omega)only[go_sem]⟩,?_⟩
    simp(disch:=omega)only[go_sem]
    refine qj [(0,370000000)] [.own 1 (qg (lim n++zs))] [.own 0 [.sl l.length (qp l),.v (.int .i64 i4),.v (.int .i64 h4)]] [.ag [.rf 0 0 (lim n).length]] rfl (by simp(disch:=omega)only[go_sem]) (by simp(disch:=omega)only[go_sem]) (by simp) (by simp) ⟨⟨n,hb,.inr ⟨zs,rfl,rfl⟩⟩,_,_,hi4,rfl⟩
end
end Go.Ab
namespace Go.Ab
def ivM(s:Bool)(m:Nat)(e mode:Int):Nat:=roM s m e 0 mode*2^(roE m e 0).toNat
end Go.Ab
namespace Go.Ab
open Go Go.Proofs
end Go.Ab
namespace Go.Ab
open Go Go.Proofs
end Go.Ab
namespace Go.Ab
open Go Go.Proofs
end Go.Ab
namespace Go.Ab
open Go Go.Proofs
end Go.Ab
namespace Go.Ab
open Go Go.Proofs
end Go.Ab
namespace Go.Ab
open Go Go.Proofs
theorem Js{s:Bool}{m:Nat}(h:(lim m).length≤100)(hs:m=0→s=false):zU s (lim m)=true:=by
 unfold zU
 rw[aoq m h,Bool.true_and]
 by_cases h0:m=0
 ·rw[hs h0];rfl
 ·have:=Qg h0
  rw[decide_eq_false (show ¬(lim m).length=0 by omega),Bool.and_false];rfl
end Go.Ab
namespace Go.Ab
open Go
section
variable {P:Program}{f:FuncId}{args:List AV}{bs:List Ob}{post:AV→List Ob→List Ob→Prop}
theorem Con.frzB(h:Con P f false args bs post)(hm:∀r hs bs',post r hs bs'→(∀ob∈bs',ob.men fun _=>False)∧∀ob∈hs,ob.men fun _=>False):
  Con P f false args bs (fun r' hs' bs'=>hs'=[]∧∃r hs,post r hs bs'∧r'=qP (rhp hs []) 6 r):=by
 intro R ι w vs h1 h2 h3 h4 h5
 refine(h R ι w vs h1 h2 h3 h4 h5).mono ?_
 rintro e w' ⟨x,r,hs,bs',R',ι',he,hp,hF⟩
 obtain⟨mB,mH⟩:=hm _ _ _ hp
 have hfree:∀m,10000000≤m→rhp hs [] m=.free:=fun m hm=>by simp[rhp,hm]
 have hlow:∀m,m<10000000→rhp hs [] m=rhp hs bs' m:=fun m hm=>by unfold rhp;rw[if_neg (by omega),if_neg (by omega)]
 have hnil:∀m,m<10000000→rhp [] bs' m=.free:=fun m hm=>by unfold rhp;rw[if_neg (by omega)];simp
 have hhi:∀m,10000000≤m→rhp [] bs' m=rhp hs bs' m:=fun m hm=>by unfold rhp;rw[if_pos hm,if_pos hm]
 have hsm:∀{m z cs},rhp hs [] m=.own z cs→m<10000000∧rhp hs bs' m=.own z cs:=by
  intro m z cs e
  rcases Nat.lt_or_ge m 10000000 with hm|hm
  ·exact⟨hm,by rw[←hlow m hm];exact e⟩
  ·rw[hfree m hm]at e;cases e
 have hbg:∀{m z cs},rhp [] bs' m=.own z cs→10000000≤m∧rhp hs bs' m=.own z cs:=by
  intro m z cs e
  rcases Nat.lt_or_ge m 10000000 with hm|hm
  ·rw[hnil m hm]at e;cases e
  ·exact⟨hm,by rw[←hhi m hm];exact e⟩
 have hget:∀(l:List Ob) (k z:Nat) (cs:List AV),(∀ob∈l,ob.men fun _=>False)→l.getD k .free=.own z cs→AllL (fun _=>False) cs:=by
  intro l k z cs hl e
  rw[List.getD_eq_getElem?_getD]at e
  rcases Nat.lt_or_ge k l.length with hk|hk
  ·rw[List.getElem?_eq_getElem hk]at e
   have:=hl _ (List.getElem_mem hk)
   simp only[Option.getD_some]at e
   rw[e]at this;exact this
  ·rw[List.getElem?_eq_none hk]at e;cases e
 have hO:HpOk R' ι' w' (rhp hs []):=by
  refine⟨fun m=>?_,fun m z cs B e hB hr=>hF.nR m z cs B (hsm e).2 hB (.inr hr),fun m m' z z' cs cs' B B' e e'=>hF.inj m m' z z' cs cs' B B' (hsm e).2 (hsm e').2,fun m z cs e=>?_⟩
  ·rcases Nat.lt_or_ge m 10000000 with hm|hm
   ·rw[hlow m hm];exact hF.okF m hm
   ·rw[hfree m hm];trivial
  ·have h6:=(hsm e).1
   unfold rhp at e
   rw[if_neg (by omega)]at e
   exact(hget hs m z cs mH e).mono fun _ h=>h.elim
 have hown:∀{m z cs B},rhp hs [] m=.own z cs→ι' m=some B→w.heap.size≤B.b∧B.b<w'.heap.size:=by
  intro m z cs B e hB
  obtain⟨hm,e⟩:=hsm e
  refine⟨hF.fresh m z cs B hm e hB,?_⟩
  have:=hF.okF m hm
  rw[e,hB]at this
  obtain⟨c,T,lo,hi,g1,_⟩:=this
  rcases Nat.lt_or_ge B.b w'.heap.size with h'|h'
  ·exact h'
  ·simp[Array.getElem?_eq_none h']at g1
 refine⟨x,qP (rhp hs []) 6 r,[],bs',fun b=>R' b∨aqU (rhp hs []) ι' b,ι',he,⟨rfl,r,hs,hp,rfl⟩,?_⟩
 refine⟨hF.ext,fun b hb=>?_,fun b hb=>?_,.fr _ _ (zN hO (fun _ h=>.inl h) (fun _ h=>.inr h) 6 hF.rep),jm 6 r,fun m hm=>?_,fun m hm=>?_,fun m z cs B e hB=>?_,
  fun m m' z z' cs cs' B B' e e'=>hF.inj m m' z z' cs cs' B B' (hbg e).2 (hbg e').2,fun m z cs e=>?_,fun m z cs B hm e=>?_,hF.len,hF.bown,hF.bnf⟩
 ·rcases hb with hb|⟨m,z,cs,B,e,hB,rfl⟩
  ·exact hF.rlt b hb
  ·exact(hown e hB).2
 ·rcases hb with hb|⟨m,z,cs,B,e,hB,rfl⟩
  ·exact hF.rnew b hb
  ·exact .inl (hown e hB).1
 ·rw[hnil m hm];trivial
 ·rw[hhi m hm]
  exact(hF.okB m hm).mono (fun _ _=>rfl) (fun _ _ _ _ _=>rfl) (fun b hb=>hb.elim .inl fun h=>.inr (.inl h)) (fun z cs e=>AllL.of_mem fun a _=>AV.all_true (fun _=>rfl) a)
 ·obtain⟨hm,e⟩:=hbg e
  have h6:=hF.nR m z cs B e hB
  rintro(hr|hr|⟨m',z',cs',B',e',hB',hb⟩)
  ·exact h6 (.inl hr)
  ·exact h6 (.inr hr)
  ·obtain⟨hm',e'⟩:=hsm e'
   have:=hF.inj m' m z' z cs' cs B' B e' e hB' hB hb
   omega
 ·have h6:=(hbg e).1
  unfold rhp at e
  rw[if_pos h6]at e
  exact(hget bs' _ z cs mB e).mono fun _ h=>h.elim
 ·rw[hnil m hm]at e;cases e
end
end Go.Ab
namespace Go.Ab
open Go Go.Proofs
def aYc(r:AV)(hs:List Ob)(xs:List Int):Prop:=(xs=[]∧r=.ag [.v (.slice none 0 0)]∧hs=[])∨∃zs,r=.ag [.rf 0 0 xs.length]∧hs=[.own 1 (qg (xs++zs))]
section
variable (l:List UInt8)(hl:l.length≤9223372036854775807)(i h:Int)(hi:0≤i∧i≤l.length)
include hl hi
theorem adz:Con Tryz.prog 211 false [.pt 10000000 0] [.own 0 [.sl l.length (qp l),.v (.int .i64 i),.v (.int .i64 h)]] (fun r hs bs=>(∃xs:List Int,xs.length≤200∧aYc r hs xs)∧∃i h:Int,(0≤i∧i≤l.length)∧bs=[.own 0 [.sl l.length (qp l),.v (.int .i64 i),.v (.int .i64 h)]]):=by
 refine Con.of_aw Tryz.func211 rfl Tryz.ntmps211 (by simp) (by simp) (by simp) (W.sound ?_)
 show @W Tryz.prog 43 ⟨_⟩ ⟨fun x σ=>@za _ _ _ ⟨_⟩ _ ⟨_⟩ x σ⟩ _ _
 simp(disch:=omega)only[go_sem]
 refine Jb false [10000000] (JV l hl i h hi) (by simp(disch:=omega)only[go_sem]) (by simp(disch:=omega)only[go_sem]) rfl (zg (z:=0) (cs:=[.sl l.length (qp l),.v (.int .i64 i),.v (.int .i64 h)]) (by simp(disch:=omega)only[go_sem]) (by simp(disch:=omega)only[go_sem])) (by intro n hn;exact⟨_,List.mem_cons_self ..,by rw[List.mem_singleton.1 hn];rfl⟩) ?_
 rintro r hs bs ⟨⟨m,hb,(⟨h0,rfl,rfl⟩|⟨zs,rfl,rfl⟩)⟩,i1,h1,hi1,rfl⟩-
 ·refine⟨by simp[qS],?_⟩
  simp(disch:=omega)only[go_sem]
  refine ql (qR l hl i1 h1 hi1 9 (by omega)) ?_
  rintro r i2 h2 hi2 ⟨b,rfl⟩
  simp(disch:=omega)only[go_sem]
  cases b
  ·simp(disch:=omega)only[go_sem]
   refine qj [] [] [.own 0 [.sl l.length (qp l),.v (.int .i64 i2),.v (.int .i64 h2)]] [.ag [.v (.slice none 0 0)]] rfl (by simp(disch:=omega)only[go_sem]) (by simp(disch:=omega)only[go_sem]) (by simp) (by simp) ⟨⟨[],by simp,.inl ⟨rfl,rfl,rfl⟩⟩,_,_,hi2,rfl⟩
  ·simp(disch:=omega)only[go_sem]
   refine ql (qI l hl i2 h2 hi2 4 (by omega)) ?_
   rintro r i3 h3 hi3 ⟨q,hq,rfl⟩
   simp(disch:=omega)only[go_sem]
   by_cases c0:q=0
   ·simp(disch:=omega)only[go_sem,c0]
    refine qj [(0,280000000)] [.own 1 (qg ([0]++[]))] [.own 0 [.sl l.length (qp l),.v (.int .i64 i3),.v (.int .i64 h3)]] [.ag [.rf 0 0 1]] rfl (by simp(disch:=omega)only[go_sem]) (by simp(disch:=omega)only[go_sem];rfl) (by simp) (by simp) ⟨⟨[0],by simp,.inr ⟨[],rfl,rfl⟩⟩,_,_,hi3,rfl⟩
   by_cases c1:q=1
   ·simp(disch:=omega)only[go_sem,c0,c1]
    refine qj [(0,350000000)] [.own 1 (qg ([-1]++[]))] [.own 0 [.sl l.length (qp l),.v (.int .i64 i3),.v (.int .i64 h3)]] [.ag [.rf 0 0 1]] rfl (by simp(disch:=omega)only[go_sem]) (by simp(disch:=omega)only[go_sem];rfl) (by simp) (by simp) ⟨⟨[-1],by simp,.inr ⟨[],rfl,rfl⟩⟩,_,_,hi3,rfl⟩
   by_cases c2:q=2
   ·simp(disch:=omega)only[go_sem,c0,c1,c2]
    refine qj [(0,420000000)] [.own 1 (qg ([65536]++[]))] [.own 0 [.sl l.length (qp l),.v (.int .i64 i3),.v (.int .i64 h3)]] [.ag [.rf 0 0 1]] rfl (by simp(disch:=omega)only[go_sem]) (by simp(disch:=omega)only[go_sem];rfl) (by simp) (by simp) ⟨⟨[65536],by simp,.inr ⟨[],rfl,rfl⟩⟩,_,_,hi3,rfl⟩
   simp(disch:=omega)only[go_sem,c0,c1,c2]
   refine qk (fun x:List Int×List Int=>[(2,.pt 4 0),(3,.pt 3 0)]) (fun x=>[(1,.own 1 (qg (x.1++x.2))),(3,.own 0 [.rf 1 0 x.1.length]),(4,.own 0 [.v (.slice none 0 0)]),(10000000,.own 0 [.sl l.length (qp l),.v (.int .i64 i3),.v (.int .i64 h3)])])
    (fun x=>x.1.length≤101) (fun x=>101-x.1.length) ([],[])
    (by simp) ((Le.ghostC 50000000 0 1 1 (zo:=0) (cs:=[.v (.slice none 0 0)]) (by simp(disch:=omega)only[go_sem]) rfl (by simp(disch:=omega)only[go_sem])).trans (Le.lst [(3,50000000),(4,40000000)] _ _ rfl (by simp(disch:=omega)only[go_sem]) (by simp(disch:=omega)only[go_sem,List.set_cons_zero]))) ?_
   rintro⟨xs,ys⟩ hx
   dsimp only at hx ⊢
   simp(disch:=omega)only[go_sem]
   refine qe (fun c3=>?_) (fun c3=>?_)
   ·simp(disch:=omega)only[go_sem,c3]
    exact⟨⟨by simp,by omega⟩,qh (xs++[1],[]) [(1,210000000)] (by simp;omega) (by simp;omega) rfl (by simp(disch:=omega)only[go_sem,List.length_append];try omega) (by simp(disch:=omega)only[go_sem,List.length_append,List.append_nil,List.take_left])⟩
   ·simp(disch:=omega)only[go_sem,c3]
    refine qj [(0,1)] [.own 1 (qg (xs++ys))] [.own 0 [.sl l.length (qp l),.v (.int .i64 i3),.v (.int .i64 h3)]] [.ag [.rf 0 0 xs.length]] rfl (by simp(disch:=omega)only[go_sem]) (by simp(disch:=omega)only[go_sem]) (by simp) (by simp) ⟨⟨xs,by omega,.inr ⟨ys,rfl,rfl⟩⟩,_,_,hi3,rfl⟩
 ·have hx:=qy (m:=m) (B:=1600) hb
  refine⟨by simp[qS];simp(disch:=omega)only[go_sem],?_⟩
  simp(disch:=omega)only[go_sem]
  refine ql (qR l hl i1 h1 hi1 9 (by omega)) ?_
  rintro r i2 h2 hi2 ⟨b,rfl⟩
  simp(disch:=omega)only[go_sem]
  cases b
  ·simp(disch:=omega)only[go_sem]
   refine qj [(0,70000000)] [.own 1 (qg (lim m++zs))] [.own 0 [.sl l.length (qp l),.v (.int .i64 i2),.v (.int .i64 h2)]] [.ag [.rf 0 0 (lim m).length]] rfl (by simp(disch:=omega)only[go_sem]) (by simp(disch:=omega)only[go_sem]) (by simp) (by simp) ⟨⟨lim m,by have:=qy (m:=m) (B:=1600) hb;omega,.inr ⟨zs,rfl,rfl⟩⟩,_,_,hi2,rfl⟩
  ·simp(disch:=omega)only[go_sem]
   refine ql (qI l hl i2 h2 hi2 4 (by omega)) ?_
   rintro r i3 h3 hi3 ⟨q,hq,rfl⟩
   simp(disch:=omega)only[go_sem]
   by_cases c0:q=0
   ·simp(disch:=omega)only[go_sem,c0]
    exact⟨⟨by simp,by omega⟩,qj [(0,280000000)] [.own 1 (qg (lim m++[0]++[]))] [.own 0 [.sl l.length (qp l),.v (.int .i64 i3),.v (.int .i64 h3)]] [.ag [.rf 0 0 ((lim m).length+1)]] rfl (by simp(disch:=omega)only[go_sem]) (by simp(disch:=omega)only[go_sem,List.take_left',List.append_nil]) (by simp) (by simp) ⟨⟨lim m++[0],by simp;omega,.inr ⟨[],by rw[List.length_append];rfl,rfl⟩⟩,_,_,hi3,rfl⟩⟩
   by_cases c1:q=1
   ·simp(disch:=omega)only[go_sem,c0,c1]
    exact⟨⟨by simp,by omega⟩,qj [(0,350000000)] [.own 1 (qg (lim m++[-1]++[]))] [.own 0 [.sl l.length (qp l),.v (.int .i64 i3),.v (.int .i64 h3)]] [.ag [.rf 0 0 ((lim m).length+1)]] rfl (by simp(disch:=omega)only[go_sem]) (by simp(disch:=omega)only[go_sem,List.take_left',List.append_nil]) (by simp) (by simp) ⟨⟨lim m++[-1],by simp;omega,.inr ⟨[],by rw[List.length_append];rfl,rfl⟩⟩,_,_,hi3,rfl⟩⟩
   by_cases c2:q=2
   ·simp(disch:=omega)only[go_sem,c0,c1,c2]
    exact⟨⟨by simp,by omega⟩,qj [(0,420000000)] [.own 1 (qg (lim m++[65536]++[]))] [.own 0 [.sl l.length (qp l),.v (.int .i64 i3),.v (.int .i64 h3)]] [.ag [.rf 0 0 ((lim m).length+1)]] rfl (by simp(disch:=omega)only[go_sem]) (by simp(disch:=omega)only[go_sem,List.take_left',List.append_nil]) (by simp) (by simp) ⟨⟨lim m++[65536],by simp;omega,.inr ⟨[],by rw[List.length_append];rfl,rfl⟩⟩,_,_,hi3,rfl⟩⟩
   simp(disch:=omega)only[go_sem,c0,c1,c2]
   refine qk (fun x:List Int×List Int=>[(2,.pt 4 0),(3,.pt 3 0)]) (fun x=>[(1,.own 1 (qg (x.1++x.2))),(3,.own 0 [.rf 1 0 x.1.length]),(4,.own 0 [.v (.slice none 0 0)]),(10000000,.own 0 [.sl l.length (qp l),.v (.int .i64 i3),.v (.int .i64 h3)])])
    (fun x=>x.1.length≤101) (fun x=>101-x.1.length) (lim m,zs)
    (by show(lim m).length≤101;omega) (Le.lst [(3,50000000),(4,40000000),(1,70000000)] _ _ rfl (by simp(disch:=omega)only[go_sem]) (by simp(disch:=omega)only[go_sem])) ?_
   rintro⟨xs,ys⟩ hx
   dsimp only at hx ⊢
   simp(disch:=omega)only[go_sem]
   refine qe (fun c3=>?_) (fun c3=>?_)
   ·simp(disch:=omega)only[go_sem,c3]
    exact⟨⟨by simp,by omega⟩,qh (xs++[1],[]) [(1,210000000)] (by simp;omega) (by simp;omega) rfl (by simp(disch:=omega)only[go_sem,List.length_append];try omega) (by simp(disch:=omega)only[go_sem,List.length_append,List.append_nil,List.take_left])⟩
   ·simp(disch:=omega)only[go_sem,c3]
    refine qj [(0,1)] [.own 1 (qg (xs++ys))] [.own 0 [.sl l.length (qp l),.v (.int .i64 i3),.v (.int .i64 h3)]] [.ag [.rf 0 0 xs.length]] rfl (by simp(disch:=omega)only[go_sem]) (by simp(disch:=omega)only[go_sem]) (by simp) (by simp) ⟨⟨xs,by omega,.inr ⟨ys,rfl,rfl⟩⟩,_,_,hi3,rfl⟩
omit hi hl in
theorem Con.cur{f:Nat}{args:List AV}{Q:AV→List Ob→Prop}{Q':AV→Prop}(hc:Con Tryz.prog f false args [.own 0 [.sl l.length (qp l),.v (.int .i64 i),.v (.int .i64 h)]] (fun r hs bs=>Q r hs∧∃i h:Int,(0≤i∧i≤l.length)∧bs=[.own 0 [.sl l.length (qp l),.v (.int .i64 i),.v (.int .i64 h)]]))
  (hq:∀r hs,Q r hs→(∀ob∈hs,ob.men fun _=>False)∧Q' (qP (rhp hs []) 6 r)):Con Tryz.prog f false args [.own 0 [.sl l.length (qp l),.v (.int .i64 i),.v (.int .i64 h)]] (Y0 l Q'):=
 (Con.frzB hc (by
  rintro r hs bs ⟨h1,i,h, -,rfl⟩
  exact⟨by simp[Ob.men,AllL,AV.All],(hq r hs h1).1⟩)).mono fun r hs bs=>by
   rintro⟨rfl,r0,hs0,⟨h1,h2⟩,rfl⟩
   exact⟨rfl,(hq _ _ h1).2,h2⟩
omit hi hl in
theorem Con.curF{f:Nat}{args:List AV}{Q Q':AV→Prop}(hc:Con Tryz.prog f false args [.own 0 [.sl l.length (qp l),.v (.int .i64 i),.v (.int .i64 h)]] (Y0 l Q))(hq:∀r,Q r→Q' (qP (rhp [] []) 6 r)):
  Con Tryz.prog f false args [.own 0 [.sl l.length (qp l),.v (.int .i64 i),.v (.int .i64 h)]] (Y0 l Q'):=
 Con.cur l i h (Q:=fun r hs=>hs=[]∧Q r) (hc.mono fun r hs bs ⟨h1,h2,h3⟩=>⟨⟨h1,h2⟩,h3⟩) fun r hs ⟨h1,h2⟩=>by subst h1;exact⟨by simp,hq r h2⟩
omit hi hl in
theorem Zd{r:AV}{hs:List Ob}{xs:List Int}(h:aYc r hs xs):(∀ob∈hs,ob.men fun _=>False)∧qP (rhp hs []) 6 r=.ag [.sl xs.length (qg xs)]:=by
 rcases h with⟨rfl,rfl,rfl⟩|⟨zs,rfl,rfl⟩
 ·exact⟨by simp,rfl⟩
 ·refine⟨by intro ob ho;rw[List.mem_singleton.1 ho];exact Zh,?_⟩
  show AV.ag [qP _ 5 (.rf 0 0 xs.length)]=_
  rw[j1 zv rfl]
theorem ady:Con Tryz.prog 264 false [.pt 10000000 0] [.own 0 [.sl l.length (qp l),.v (.int .i64 i),.v (.int .i64 h)]] (Y0 l fun r=>∃m:Nat,bl m≤1600∧r=.ag [.sl (lim (m)).length (qg (lim (m)))]):=
 Con.cur l i h (JV l hl i h hi) fun r hs ⟨m,hb,hr⟩=>by
  have:aYc r hs (lim m):=hr.elim (fun⟨h0,h1,h2⟩=>.inl ⟨by rw[h0,qm],h1,h2⟩) .inr
  exact⟨(Zd this).1,m,hb,(Zd this).2⟩
theorem ai0:Con Tryz.prog 211 false [.pt 10000000 0] [.own 0 [.sl l.length (qp l),.v (.int .i64 i),.v (.int .i64 h)]] (Y0 l fun r=>∃xs:List Int,xs.length≤200∧r=.ag [.sl xs.length (qg xs)]):=
 Con.cur l i h (adz l hl i h hi) fun r hs ⟨xs,hb,hr⟩=>⟨(Zd hr).1,xs,hb,(Zd hr).2⟩
theorem JS:Con Tryz.prog 210 false [.pt 10000000 0] [.own 0 [.sl l.length (qp l),.v (.int .i64 i),.v (.int .i64 h)]] (Y0 l fun r=>∃(s:Bool) (m:Nat),bl m≤1600∧r=.ag [.v (.bool (s&&decide (m≠0))),.sl (lim (m)).length (qg (lim (m)))]):=by
 refine Con.of_aw Tryz.func210 rfl Tryz.ntmps210 (by simp) (by simp) (by simp) (W.sound ?_)
 show @W Tryz.prog 8 ⟨_⟩ ⟨fun x σ=>@za _ _ _ ⟨_⟩ _ ⟨_⟩ x σ⟩ _ _
 simp(disch:=omega)only[go_sem]
 refine ql (qR l hl i h hi 2 (by omega)) ?_
 rintro r i1 h1 hi1 ⟨b,rfl⟩
 simp(disch:=omega)only[go_sem]
 refine ql (ady l hl i1 h1 hi1) ?_
 rintro r i2 h2 hi2 ⟨m,hm,rfl⟩
 simp(disch:=omega)only[go_sem]
 have hx:=qy (m:=m) (B:=1600) hm
 refine qa (zb b m (by omega)) ?_
 simp(disch:=omega)only[go_sem]
 refine qV (i2) (h2) ⟨b,m,hm,rfl⟩
theorem aiX:Con Tryz.prog 136 false [.pt 10000000 0] [.own 0 [.sl l.length (qp l),.v (.int .i64 i),.v (.int .i64 h)]] (Y0 l fun r=>∃(s:Bool) (xs:List Int),xs.length≤200∧r=.ag [.v (.bool s),.sl xs.length (qg xs)]):=by
 refine Con.curF (Q:=fun r=>∃(s:Bool) (xs:List Int),xs.length≤200∧(r=.ag [.v (.bool s),.sl xs.length (qg xs)]∨(xs=[]∧r=.ag [.v (.bool s),.v (.slice none 0 0)]))) l i h ?_ (fun r ⟨s,xs,h1,h2⟩=>⟨s,xs,h1,h2.elim (fun h=>by rw[h];rfl) fun⟨h,h'⟩=>by rw[h,h'];rfl⟩)
 refine Con.of_aw Tryz.func136 rfl Tryz.ntmps136 (by simp) (by simp) (by simp) (W.sound ?_)
 show @W Tryz.prog 15 ⟨_⟩ ⟨fun x σ=>@za _ _ _ ⟨_⟩ _ ⟨_⟩ x σ⟩ _ _
 simp(disch:=omega)only[go_sem]
 refine ql (JS l hl i h hi) ?_
 rintro r i1 h1 hi1 ⟨s,m,hm,rfl⟩
 simp(disch:=omega)only[go_sem]
 have hx:=qy (m:=m) (B:=1600) hm
 refine ql (qR l hl i1 h1 hi1 9 (by omega)) ?_
 rintro r i2 h2 hi2 ⟨b,rfl⟩
 simp(disch:=omega)only[go_sem]
 cases b
 ·simp(disch:=omega)only[go_sem]
  refine qV (i2) (h2) ⟨_,lim m,by omega,.inl rfl⟩
 ·simp(disch:=omega)only[go_sem]
  refine ql (qR l hl i2 h2 hi2 2 (by omega)) ?_
  rintro r i3 h3 hi3 ⟨b,rfl⟩
  simp(disch:=omega)only[go_sem]
  cases b
  ·simp(disch:=omega)only[go_sem]
   refine ql (ai0 l hl i3 h3 hi3) ?_
   rintro r i4 h4 hi4 ⟨xs,hxs,rfl⟩
   simp(disch:=omega)only[go_sem]
   refine qV (i4) (h4) ⟨_,xs,hxs,.inl rfl⟩
  ·simp(disch:=omega)only[go_sem]
   refine qV (i3) (h3) ⟨true,[],by simp,.inr ⟨rfl,rfl⟩⟩
omit hi hl in
theorem YD:AV.ag [.v (.bool false),.sl 0 [],.v (.int .i64 0)]=.ag [.v (.bool (ex0).s),.sl (lim (ex0).m).length (qg (lim (ex0).m)),.v (.int .i64 (ex0).e)]:=by
 show _=AV.ag [.v (.bool false),.sl (lim 0).length (qg (lim 0)),.v (.int .i64 0)]
 rw[qm];rfl
omit hi hl in
theorem Qu(x:ExV)(h:zU x.s (lim x.m)=true)(he: -12000≤x.e∧x.e≤12000):Con Tryz.prog 72 false [.ag [.v (.bool (x.s)),.sl (lim (x.m)).length (qg (lim (x.m)))],.v (.int .i64 x.e)] [] (isA (.tu [.ag [.v (.bool (x.tel).s),.sl (lim (x.tel).m).length (qg (lim (x.tel).m)),.v (.int .i64 (x.tel).e)],.v (.bool x.fit)])):=by
 have c:=aad x.s x.m x.e h he
 rw[show jD x.m x.e=x.fit from rfl]at c
 unfold ExV.tel
 cases hf:x.fit<;>rw[hf]at c<;>exact c
omit hi hl in
theorem aJH{m:Nat}(h:bl m≤1600):(lim m).length≤100:=jw.2 (Nat.lt_of_lt_of_eq (q9.1 h) (by decide+kernel))
theorem aiV:Con Tryz.prog 135 false [.pt 10000000 0] [.own 0 [.sl l.length (qp l),.v (.int .i64 i),.v (.int .i64 h)]] (Y0 l fun r=>∃x:ExV,x.ok=true∧r=.ag [.v (.bool (x).s),.sl (lim (x).m).length (qg (lim (x).m)),.v (.int .i64 (x).e)]):=by
 refine Con.curF (Q:=fun r=>∃x:ExV,x.ok=true∧qP (rhp [] []) 6 r=.ag [.v (.bool (x).s),.sl (lim (x).m).length (qg (lim (x).m)),.v (.int .i64 (x).e)]) l i h ?_ fun _ h=>h
 refine Con.of_aw Tryz.func135 rfl Tryz.ntmps135 (by simp) (by simp) (by simp) (W.sound ?_)
 show @W Tryz.prog 33 ⟨_⟩ ⟨fun x σ=>@za _ _ _ ⟨_⟩ _ ⟨_⟩ x σ⟩ _ _
 simp(disch:=omega)only[go_sem]
 refine ql (JS l hl i h hi) ?_
 rintro r i1 h1 hi1 ⟨s,m,hm,rfl⟩
 simp(disch:=omega)only[go_sem]
 have hx:=qy (m:=m) (B:=1600) hm
 refine ql (qR l hl i1 h1 hi1 3 (by omega)) ?_
 rintro r i2 h2 hi2 ⟨b,rfl⟩
 simp(disch:=omega)only[go_sem]
 have ww:∀(s:Bool) (m:Nat),bl m≤1600→zU (s&&decide (m≠0)) (lim m)=true:=fun s m hm=>Js (aJH hm) (by intro h;simp[h])
 cases b
 ·simp(disch:=omega)only[go_sem]
  refine ql (qI l hl i2 h2 hi2 24 (by omega)) ?_
  rintro r i3 h3 hi3 ⟨k,hk,rfl⟩
  simp(disch:=omega)only[go_sem]
  have hk2:=hk.2 (by omega)
  refine ql (qR l hl i3 h3 hi3 6 (by omega)) ?_
  rintro r i4 h4 hi4 ⟨b,rfl⟩
  simp(disch:=omega)only[go_sem]
  cases b
  ·simp(disch:=omega)only[go_sem]
   refine qa (Qu ⟨s&&decide (m≠0),m,k-12⟩ (ww s m hm) (by show-12000≤k-12∧k-12≤12000;omega)) ?_
   simp(disch:=omega)only[go_sem]
   have ok:=Kn ⟨s&&decide (m≠0),m,k-12⟩
   generalize ExV.tel ⟨s&&decide (m≠0),m,k-12⟩=y at*
   cases hf:ExV.fit ⟨s&&decide (m≠0),m,k-12⟩
   ·simp(disch:=omega)only[go_sem,hf]
    refine qV (i4) (h4) ⟨ex0,JI,by simp(disch:=omega)only[go_sem];exact YD⟩
   ·simp(disch:=omega)only[go_sem,hf]
    refine qV (i4) (h4) ⟨y,ok,by simp(disch:=omega)only[go_sem]⟩
  ·simp(disch:=omega)only[go_sem]
   refine zl (qK l hl i4 h4 hi4 [0, -60,60, -1074,900, -2990,2990, -100] (by simp) (by simp)) ?_
   rintro r i5 h5 hi5 ⟨x,hx,rfl⟩
   have hx_b: -3000≤x∧x≤3000:=by
    simp only[List.mem_cons,List.not_mem_nil,or_false]at hx
    omega
   clear hx
   simp(disch:=omega)only[go_sem]
   refine qa (Qu ⟨s&&decide (m≠0),m,x⟩ (ww s m hm) (by show-12000≤x∧x≤12000;omega)) ?_
   simp(disch:=omega)only[go_sem]
   have ok:=Kn ⟨s&&decide (m≠0),m,x⟩
   generalize ExV.tel ⟨s&&decide (m≠0),m,x⟩=y at*
   cases hf:ExV.fit ⟨s&&decide (m≠0),m,x⟩
   ·simp(disch:=omega)only[go_sem,hf]
    refine qV (i5) (h5) ⟨ex0,JI,by simp(disch:=omega)only[go_sem];exact YD⟩
   ·simp(disch:=omega)only[go_sem,hf]
    refine qV (i5) (h5) ⟨y,ok,by simp(disch:=omega)only[go_sem]⟩
 ·simp(disch:=omega)only[go_sem]
  refine ql (qI l hl i2 h2 hi2 40 (by omega)) ?_
  rintro r i3 h3 hi3 ⟨q,hq,rfl⟩
  simp(disch:=omega)only[go_sem]
  have hq2:=hq.2 (by omega)
  refine qa (Zk (q-20) (by omega)) ?_
  simp(disch:=omega)only[go_sem]
  have wq:zU (decide (q-20<0)) (lim (q-20).natAbs)=true:=Js (by have:=qy (m:=(q-20).natAbs) (B:=6) (q9.2 (by omega));omega) (by intro h;simp;omega)
  refine ql (qI l hl i3 h3 hi3 24 (by omega)) ?_
  rintro r i4 h4 hi4 ⟨k,hk,rfl⟩
  simp(disch:=omega)only[go_sem]
  have hk2:=hk.2 (by omega)
  refine ql (qR l hl i4 h4 hi4 6 (by omega)) ?_
  rintro r i5 h5 hi5 ⟨b,rfl⟩
  simp(disch:=omega)only[go_sem]
  cases b
  ·simp(disch:=omega)only[go_sem]
   refine qa (Qu ⟨decide (q-20<0),(q-20).natAbs,k-12⟩ (wq) (by show-12000≤k-12∧k-12≤12000;omega)) ?_
   simp(disch:=omega)only[go_sem]
   have ok:=Kn ⟨decide (q-20<0),(q-20).natAbs,k-12⟩
   generalize ExV.tel ⟨decide (q-20<0),(q-20).natAbs,k-12⟩=y at*
   cases hf:ExV.fit ⟨decide (q-20<0),(q-20).natAbs,k-12⟩
   ·simp(disch:=omega)only[go_sem,hf]
    refine qV (i5) (h5) ⟨ex0,JI,by simp(disch:=omega)only[go_sem];exact YD⟩
   ·simp(disch:=omega)only[go_sem,hf]
    refine qV (i5) (h5) ⟨y,ok,by simp(disch:=omega)only[go_sem]⟩
  ·simp(disch:=omega)only[go_sem]
   refine zl (qK l hl i5 h5 hi5 [0, -60,60, -1074,900, -2990,2990, -100] (by simp) (by simp)) ?_
   rintro r i6 h6 hi6 ⟨x,hx,rfl⟩
   have hx_b: -3000≤x∧x≤3000:=by
    simp only[List.mem_cons,List.not_mem_nil,or_false]at hx
    omega
   clear hx
   simp(disch:=omega)only[go_sem]
   refine qa (Qu ⟨decide (q-20<0),(q-20).natAbs,x⟩ (wq) (by show-12000≤x∧x≤12000;omega)) ?_
   simp(disch:=omega)only[go_sem]
   have ok:=Kn ⟨decide (q-20<0),(q-20).natAbs,x⟩
   generalize ExV.tel ⟨decide (q-20<0),(q-20).natAbs,x⟩=y at*
   cases hf:ExV.fit ⟨decide (q-20<0),(q-20).natAbs,x⟩
   ·simp(disch:=omega)only[go_sem,hf]
    refine qV (i6) (h6) ⟨ex0,JI,by simp(disch:=omega)only[go_sem];exact YD⟩
   ·simp(disch:=omega)only[go_sem,hf]
    refine qV (i6) (h6) ⟨y,ok,by simp(disch:=omega)only[go_sem]⟩
theorem JR:Con Tryz.prog 57 false [.pt 10000000 0] [.own 0 [.sl l.length (qp l),.v (.int .i64 i),.v (.int .i64 h)]] (Y0 l fun r=>∃d:DyV,d.xs.length≤200∧r=.ag d.cs):=by
 refine Con.of_aw Tryz.func57 rfl Tryz.ntmps57 (by simp) (by simp) (by simp) (W.sound ?_)
 show @W Tryz.prog 28 ⟨_⟩ ⟨fun x σ=>@za _ _ _ ⟨_⟩ _ ⟨_⟩ x σ⟩ _ _
 simp(disch:=omega)only[go_sem]
 refine ql (aiV l hl i h hi) ?_
 rintro r i1 h1 hi1 ⟨x,hx,rfl⟩
 simp(disch:=omega)only[go_sem]
 have lx:=(Qb hx).2.2.1
 refine ql (qR l hl i1 h1 hi1 9 (by omega)) ?_
 rintro r i2 h2 hi2 ⟨b,rfl⟩
 simp(disch:=omega)only[go_sem]
 cases b
 ·simp(disch:=omega)only[go_sem]
  refine qV (i2) (h2) ⟨⟨x.s,lim x.m,x.e⟩,by show(lim x.m).length≤200;omega,rfl⟩
 ·simp(disch:=omega)only[go_sem]
  refine ql (qI l hl i2 h2 hi2 3 (by omega)) ?_
  rintro r i3 h3 hi3 ⟨q,hq,rfl⟩
  simp(disch:=omega)only[go_sem]
  by_cases c0:q=0
  ·simp(disch:=omega)only[go_sem,c0]
   refine zl (qK l hl i3 h3 hi3 [-3001,3001,3000,4611686018427387904] (by simp) (by simp)) ?_
   rintro r i4 h4 hi4 ⟨y,hy,rfl⟩
   clear hy
   simp(disch:=omega)only[go_sem]
   refine qV (i4) (h4) ⟨⟨x.s,lim x.m,y⟩,by show(lim x.m).length≤200;omega,rfl⟩
  by_cases c1:q=1
  ·simp(disch:=omega)only[go_sem,c0,c1]
   refine ql (aiX l hl i3 h3 hi3) ?_
   rintro r i4 h4 hi4 ⟨s,xs,hxs,rfl⟩
   simp(disch:=omega)only[go_sem]
   refine qV (i4) (h4) ⟨⟨s,xs,x.e⟩,hxs,rfl⟩
  simp(disch:=omega)only[go_sem,c0,c1]
  refine qV (i3) (h3) ⟨⟨!x.s,lim x.m,x.e⟩,by show(lim x.m).length≤200;omega,rfl⟩
theorem zB:Con Tryz.prog 61 false [.pt 10000000 0] [.own 0 [.sl l.length (qp l),.v (.int .i64 i),.v (.int .i64 h)]] (Y0 l fun r=>∃k:Int,r=.v (.int .i64 k)):=by
 refine Con.of_aw Tryz.func61 rfl Tryz.ntmps61 (by simp) (by simp) (by simp) (W.sound ?_)
 show @W Tryz.prog 9 ⟨_⟩ ⟨fun x σ=>@za _ _ _ ⟨_⟩ _ ⟨_⟩ x σ⟩ _ _
 simp(disch:=omega)only[go_sem]
 refine ql (qI l hl i h hi 30 (by omega)) ?_
 rintro r i1 h1 hi1 ⟨k,hk,rfl⟩
 simp(disch:=omega)only[go_sem]
 have hk2:=hk.2 (by omega)
 refine zl (qK l hl i1 h1 hi1 [0,1, -1,3, -8, -20,10, -53,3000,3001, -3001,k-15] (by simp) (by simp)) ?_
 rintro r i2 h2 hi2 ⟨y,hy,rfl⟩
 clear hy
 simp(disch:=omega)only[go_sem]
 refine qV (i2) (h2) ⟨y,rfl⟩
end
theorem ajd(x y:ExV)(hx:x.ok=true)(hy:y.ok=true):Con Tryz.prog 60 false [.ag [.v (.bool (x).s),.sl (lim (x).m).length (qg (lim (x).m)),.v (.int .i64 (x).e)],.ag [.v (.bool (y).s),.sl (lim (y).m).length (qg (lim (y).m)),.v (.int .i64 (y).e)]] [] (isA (.tu [.ag [.v (.bool ((x.times y).tel).s),.sl (lim ((x.times y).tel).m).length (qg (lim ((x.times y).tel).m)),.v (.int .i64 ((x.times y).tel).e)],.v (.bool (x.times y).fit)])):=by
 have c:=aje x.s x.m x.e y.s y.m y.e hx hy
 rw[show jD (x.m*y.m) (x.e+y.e)=(x.times y).fit from rfl]at c
 unfold ExV.tel
 cases hf:(x.times y).fit<;>rw[hf]at c<;>exact c
theorem aqT(l:List UInt8)(hl:l.length≤9223372036854775807):Con Tryz.prog 11 false [.sl l.length (qp l)] [] (fun r hs bs=>hs=[]∧bs=[]∧∃(d:DyV) (low m:Int),d.xs.length≤200∧r=.tu [.ag d.cs,.v (.int .i64 low),.v (.int .i64 m)]):=by
 refine Con.of_aw Tryz.func11 rfl Tryz.ntmps11 (by simp) (by simp) (by simp) (W.sound ?_)
 show @W Tryz.prog 42 ⟨_⟩ ⟨fun x σ=>@za _ _ _ ⟨_⟩ _ ⟨_⟩ x σ⟩ _ _
 simp(disch:=omega)only[go_sem]
 refine qF (K2 l hl) (by simp(disch:=omega)only[go_sem]) ?_
 rintro r hs ⟨rfl, -,⟨h,rfl⟩⟩
 refine⟨by simp(disch:=omega)only[go_sem],?_⟩
 simp(disch:=omega)only[go_sem]
 refine ql (JR l hl 0 h (by omega)) ?_
 rintro r i1 h1 hi1 ⟨⟨S,xs,E⟩,hxs,rfl⟩
 simp(disch:=omega)only[go_sem]
 unfold DyV.cs
 simp(disch:=omega)only[go_sem]
 refine ql (qR l hl i1 h1 hi1 3 (by omega)) ?_
 rintro r i2 h2 hi2 ⟨b,rfl⟩
 simp(disch:=omega)only[go_sem]
 dsimp only at hxs
 cases b
 ·simp(disch:=omega)only[go_sem]
  cases S
  ·simp(disch:=omega)only[go_sem]
   refine qo rfl [⟨0,[],[]⟩,⟨1,[0],[]⟩,⟨3,[0],[]⟩,⟨2,[0],[]⟩,⟨4,[0],[]⟩,⟨5,[],[]⟩,⟨6,[],[]⟩,⟨7,[],[]⟩] (by kernel_rfl) ?_
   simp(disch:=omega)only[go_sem]
   refine ql (zB l hl i2 h2 hi2) ?_
   rintro r i3 h3 hi3 ⟨lo,rfl⟩
   simp(disch:=omega)only[go_sem]
   refine ql (qG l hl i3 h3 hi3) ?_
   rintro r i4 h4 hi4 ⟨md,rfl⟩
   simp(disch:=omega)only[go_sem]
   exact qE (by simp(disch:=omega)only[go_sem]) ⟨rfl,rfl,⟨false,xs,E⟩,lo,md,hxs,rfl⟩
  ·simp(disch:=omega)only[go_sem]
   refine ql (qR l hl i2 h2 hi2 6 (by omega)) ?_
   rintro r i3 h3 hi3 ⟨q,rfl⟩
   simp(disch:=omega)only[go_sem]
   cases q
   ·simp(disch:=omega)only[go_sem]
    refine qo rfl [⟨0,[],[]⟩,⟨1,[0],[]⟩,⟨3,[0],[]⟩,⟨2,[0],[]⟩,⟨4,[0],[]⟩,⟨5,[],[]⟩,⟨6,[],[]⟩,⟨7,[],[]⟩] (by kernel_rfl) ?_
    simp(disch:=omega)only[go_sem]
    refine ql (zB l hl i3 h3 hi3) ?_
    rintro r i4 h4 hi4 ⟨lo,rfl⟩
    simp(disch:=omega)only[go_sem]
    refine ql (qG l hl i4 h4 hi4) ?_
    rintro r i5 h5 hi5 ⟨md,rfl⟩
    simp(disch:=omega)only[go_sem]
    exact qE (by simp(disch:=omega)only[go_sem]) ⟨rfl,rfl,⟨false,xs,E⟩,lo,md,hxs,rfl⟩
   ·simp(disch:=omega)only[go_sem]
    refine qo rfl [⟨0,[],[]⟩,⟨1,[0],[]⟩,⟨3,[0],[]⟩,⟨2,[0],[]⟩,⟨4,[0],[]⟩,⟨5,[],[]⟩,⟨6,[],[]⟩,⟨7,[],[]⟩] (by kernel_rfl) ?_
    simp(disch:=omega)only[go_sem]
    refine ql (zB l hl i3 h3 hi3) ?_
    rintro r i4 h4 hi4 ⟨lo,rfl⟩
    simp(disch:=omega)only[go_sem]
    refine ql (qG l hl i4 h4 hi4) ?_
    rintro r i5 h5 hi5 ⟨md,rfl⟩
    simp(disch:=omega)only[go_sem]
    exact qE (by simp(disch:=omega)only[go_sem]) ⟨rfl,rfl,⟨true,xs,E⟩,lo,md,hxs,rfl⟩
 ·simp(disch:=omega)only[go_sem]
  refine qb (jz S xs E (by omega)) ?_
  simp(disch:=omega)only[go_sem]
  cases hd:dyB S xs E
  ·simp(disch:=omega)only[go_sem,hd]
   cases S
   ·simp(disch:=omega)only[go_sem]
    refine qo rfl [⟨0,[],[]⟩,⟨1,[0],[]⟩,⟨3,[0],[]⟩,⟨2,[0],[]⟩,⟨4,[0],[]⟩,⟨5,[],[]⟩,⟨6,[],[]⟩,⟨7,[],[]⟩] (by kernel_rfl) ?_
    simp(disch:=omega)only[go_sem]
    refine ql (zB l hl i2 h2 hi2) ?_
    rintro r i3 h3 hi3 ⟨lo,rfl⟩
    simp(disch:=omega)only[go_sem]
    refine ql (qG l hl i3 h3 hi3) ?_
    rintro r i4 h4 hi4 ⟨md,rfl⟩
    simp(disch:=omega)only[go_sem]
    exact qE (by simp(disch:=omega)only[go_sem]) ⟨rfl,rfl,⟨false,xs,E⟩,lo,md,hxs,rfl⟩
   ·simp(disch:=omega)only[go_sem]
    refine ql (qR l hl i2 h2 hi2 6 (by omega)) ?_
    rintro r i3 h3 hi3 ⟨q,rfl⟩
    simp(disch:=omega)only[go_sem]
    cases q
    ·simp(disch:=omega)only[go_sem]
     refine qo rfl [⟨0,[],[]⟩,⟨1,[0],[]⟩,⟨3,[0],[]⟩,⟨2,[0],[]⟩,⟨4,[0],[]⟩,⟨5,[],[]⟩,⟨6,[],[]⟩,⟨7,[],[]⟩] (by kernel_rfl) ?_
     simp(disch:=omega)only[go_sem]
     refine ql (zB l hl i3 h3 hi3) ?_
     rintro r i4 h4 hi4 ⟨lo,rfl⟩
     simp(disch:=omega)only[go_sem]
     refine ql (qG l hl i4 h4 hi4) ?_
     rintro r i5 h5 hi5 ⟨md,rfl⟩
     simp(disch:=omega)only[go_sem]
     exact qE (by simp(disch:=omega)only[go_sem]) ⟨rfl,rfl,⟨false,xs,E⟩,lo,md,hxs,rfl⟩
    ·simp(disch:=omega)only[go_sem]
     refine qo rfl [⟨0,[],[]⟩,⟨1,[0],[]⟩,⟨3,[0],[]⟩,⟨2,[0],[]⟩,⟨4,[0],[]⟩,⟨5,[],[]⟩,⟨6,[],[]⟩,⟨7,[],[]⟩] (by kernel_rfl) ?_
     simp(disch:=omega)only[go_sem]
     refine ql (zB l hl i3 h3 hi3) ?_
     rintro r i4 h4 hi4 ⟨lo,rfl⟩
     simp(disch:=omega)only[go_sem]
     refine ql (qG l hl i4 h4 hi4) ?_
     rintro r i5 h5 hi5 ⟨md,rfl⟩
     simp(disch:=omega)only[go_sem]
     exact qE (by simp(disch:=omega)only[go_sem]) ⟨rfl,rfl,⟨true,xs,E⟩,lo,md,hxs,rfl⟩
  ·obtain⟨m,rfl, -⟩:=jL hd
   simp(disch:=omega)only[go_sem,hd]
   have hx:ExV.ok ⟨S,m,E⟩=true:=hd
   refine qa (ajd ⟨S,m,E⟩ ⟨S,m,E⟩ hx hx) ?_
   simp(disch:=omega)only[go_sem]
   have ok:=Kn (ExV.times ⟨S,m,E⟩ ⟨S,m,E⟩)
   generalize ExV.tel (ExV.times ⟨S,m,E⟩ ⟨S,m,E⟩)=y at*
   have ly:=(Qb ok).2.2.1
   cases ExV.fit (ExV.times ⟨S,m,E⟩ ⟨S,m,E⟩)
   ·simp(disch:=omega)only[go_sem]
    cases S
    ·simp(disch:=omega)only[go_sem]
     refine qo rfl [⟨0,[],[]⟩,⟨1,[0],[]⟩,⟨3,[0],[]⟩,⟨2,[0],[]⟩,⟨4,[0],[]⟩,⟨5,[],[]⟩,⟨6,[],[]⟩,⟨7,[],[]⟩] (by kernel_rfl) ?_
     simp(disch:=omega)only[go_sem]
     refine ql (zB l hl i2 h2 hi2) ?_
     rintro r i3 h3 hi3 ⟨lo,rfl⟩
     simp(disch:=omega)only[go_sem]
     refine ql (qG l hl i3 h3 hi3) ?_
     rintro r i4 h4 hi4 ⟨md,rfl⟩
     simp(disch:=omega)only[go_sem]
     exact qE (by simp(disch:=omega)only[go_sem]) ⟨rfl,rfl,⟨false,lim m,E⟩,lo,md,hxs,rfl⟩
    ·simp(disch:=omega)only[go_sem]
     refine ql (qR l hl i2 h2 hi2 6 (by omega)) ?_
     rintro r i3 h3 hi3 ⟨q,rfl⟩
     simp(disch:=omega)only[go_sem]
     cases q
     ·simp(disch:=omega)only[go_sem]
      refine qo rfl [⟨0,[],[]⟩,⟨1,[0],[]⟩,⟨3,[0],[]⟩,⟨2,[0],[]⟩,⟨4,[0],[]⟩,⟨5,[],[]⟩,⟨6,[],[]⟩,⟨7,[],[]⟩] (by kernel_rfl) ?_
      simp(disch:=omega)only[go_sem]
      refine ql (zB l hl i3 h3 hi3) ?_
      rintro r i4 h4 hi4 ⟨lo,rfl⟩
      simp(disch:=omega)only[go_sem]
      refine ql (qG l hl i4 h4 hi4) ?_
      rintro r i5 h5 hi5 ⟨md,rfl⟩
      simp(disch:=omega)only[go_sem]
      exact qE (by simp(disch:=omega)only[go_sem]) ⟨rfl,rfl,⟨false,lim m,E⟩,lo,md,hxs,rfl⟩
     ·simp(disch:=omega)only[go_sem]
      refine qo rfl [⟨0,[],[]⟩,⟨1,[0],[]⟩,⟨3,[0],[]⟩,⟨2,[0],[]⟩,⟨4,[0],[]⟩,⟨5,[],[]⟩,⟨6,[],[]⟩,⟨7,[],[]⟩] (by kernel_rfl) ?_
      simp(disch:=omega)only[go_sem]
      refine ql (zB l hl i3 h3 hi3) ?_
      rintro r i4 h4 hi4 ⟨lo,rfl⟩
      simp(disch:=omega)only[go_sem]
      refine ql (qG l hl i4 h4 hi4) ?_
      rintro r i5 h5 hi5 ⟨md,rfl⟩
      simp(disch:=omega)only[go_sem]
      exact qE (by simp(disch:=omega)only[go_sem]) ⟨rfl,rfl,⟨true,lim m,E⟩,lo,md,hxs,rfl⟩
   ·obtain⟨S',m',E'⟩:=y
    dsimp only at ly
    simp(disch:=omega)only[go_sem]
    cases S'
    ·simp(disch:=omega)only[go_sem]
     refine qo rfl [⟨0,[],[]⟩,⟨1,[0],[]⟩,⟨3,[0],[]⟩,⟨2,[0],[]⟩,⟨4,[0],[]⟩,⟨5,[],[]⟩,⟨6,[],[]⟩,⟨7,[],[]⟩] (by kernel_rfl) ?_
     simp(disch:=omega)only[go_sem]
     refine ql (zB l hl i2 h2 hi2) ?_
     rintro r i3 h3 hi3 ⟨lo,rfl⟩
     simp(disch:=omega)only[go_sem]
     refine ql (qG l hl i3 h3 hi3) ?_
     rintro r i4 h4 hi4 ⟨md,rfl⟩
     simp(disch:=omega)only[go_sem]
     exact qE (by simp(disch:=omega)only[go_sem]) ⟨rfl,rfl,⟨false,lim m',E'⟩,lo,md,by show(lim m').length≤200;omega,rfl⟩
    ·simp(disch:=omega)only[go_sem]
     refine ql (qR l hl i2 h2 hi2 6 (by omega)) ?_
     rintro r i3 h3 hi3 ⟨q,rfl⟩
     simp(disch:=omega)only[go_sem]
     cases q
     ·simp(disch:=omega)only[go_sem]
      refine qo rfl [⟨0,[],[]⟩,⟨1,[0],[]⟩,⟨3,[0],[]⟩,⟨2,[0],[]⟩,⟨4,[0],[]⟩,⟨5,[],[]⟩,⟨6,[],[]⟩,⟨7,[],[]⟩] (by kernel_rfl) ?_
      simp(disch:=omega)only[go_sem]
      refine ql (zB l hl i3 h3 hi3) ?_
      rintro r i4 h4 hi4 ⟨lo,rfl⟩
      simp(disch:=omega)only[go_sem]
      refine ql (qG l hl i4 h4 hi4) ?_
      rintro r i5 h5 hi5 ⟨md,rfl⟩
      simp(disch:=omega)only[go_sem]
      exact qE (by simp(disch:=omega)only[go_sem]) ⟨rfl,rfl,⟨false,lim m',E'⟩,lo,md,by show(lim m').length≤200;omega,rfl⟩
     ·simp(disch:=omega)only[go_sem]
      refine qo rfl [⟨0,[],[]⟩,⟨1,[0],[]⟩,⟨3,[0],[]⟩,⟨2,[0],[]⟩,⟨4,[0],[]⟩,⟨5,[],[]⟩,⟨6,[],[]⟩,⟨7,[],[]⟩] (by kernel_rfl) ?_
      simp(disch:=omega)only[go_sem]
      refine ql (zB l hl i3 h3 hi3) ?_
      rintro r i4 h4 hi4 ⟨lo,rfl⟩
      simp(disch:=omega)only[go_sem]
      refine ql (qG l hl i4 h4 hi4) ?_
      rintro r i5 h5 hi5 ⟨md,rfl⟩
      simp(disch:=omega)only[go_sem]
      exact qE (by simp(disch:=omega)only[go_sem]) ⟨rfl,rfl,⟨true,lim m',E'⟩,lo,md,by show(lim m').length≤200;omega,rfl⟩
theorem aOh{k:Int}{s:Bool}{m e:Int}(h:flB k s m e=true):ExV.bd (-1100) 1100 ⟨aJM k s m,aD1 k m,aJN k m e⟩:=by
 obtain⟨a1,a2,a3,a4⟩:=zn h
 unfold aJM aD1 aJN
 by_cases hk:k=1
 ·rw[if_pos hk,if_pos hk,if_pos hk]
  have h1:bl m.toNat≤53:=q9.2 (by omega)
  have h2:=zf (yS m.toNat)
  have h3:=aef (m:=m.toNat) (e:=e) (lo:= -1074) (hi:=1024) (B:=53) (by omega) (by omega) (by omega) (by omega)
  refine⟨fun h0=>?_,by show _≤oE _ _;omega,?_⟩
  ·show oS _ _=false
   exact aYt _ _ h0
  ·show(bl (oM m.toNat):Int)+oE m.toNat e≤_
   by_cases h0:m.toNat=0
   ·rw[h0]
    have e1:bl (oM 0)=0:=by decide+kernel
    have e2:oE 0 e=0:=by unfold oE;rw[if_pos rfl]
    omega
   ·have:=aai h0
    unfold oE;rw[if_neg h0];omega
 ·rw[if_neg hk,if_neg hk,if_neg hk]
  exact⟨fun _=>rfl,by show(-1100:Int)≤0;omega,by show(bl 0:Int)+0≤1100;decide⟩
theorem aLh{x:ExV}{lo hi:Int}(h:x.bd lo hi)(h2:hi-lo≤3000:=by omega):(lim x.can.m).length≤200:=by
 have h3:=qy (m:=x.m) (B:=3000) (by have:=h.2.1;have:=h.2.2;omega)
 have h4:(lim x.can.m).length≤(lim x.m).length:=yB (yS x.m)
 omega
theorem aiW(x y:ExV)(hx:x.bd (-400000) 400000)(hy:y.bd (-400000) 400000):Con Tryz.prog 126 false [.ag [.v (.bool (x).s),.sl (lim (x).m).length (qg (lim (x).m)),.v (.int .i64 (x).e)],.ag [.v (.bool (y).s),.sl (lim (y).m).length (qg (lim (y).m)),.v (.int .i64 (y).e)]] [] (isA (.ag [.v (.bool ((x.plus y).can).s),.sl (lim ((x.plus y).can).m).length (qg (lim ((x.plus y).can).m)),.v (.int .i64 ((x.plus y).can).e)])):=by
 obtain⟨z1,a1,a2⟩:=hx
 obtain⟨z2,b1,b2⟩:=hy
 exact apH x.s x.m x.e y.s y.m y.e (by omega) (by omega) (by omega) (by omega) z1 z2
theorem Z8(l:List UInt8)(hl:l.length≤9223372036854775807):Con Tryz.prog 52 false [.sl l.length (qp l)] [] (fun r hs bs=>hs=[]∧bs=[]∧∃(d:DyV) (m:Int),d.xs.length≤200∧r=.tu [.ag d.cs,.v (.int .i64 m)]):=by
 refine Con.of_aw Tryz.func52 rfl Tryz.ntmps52 (by simp) (by simp) (by simp) (W.sound ?_)
 show @W Tryz.prog 34 ⟨_⟩ ⟨fun x σ=>@za _ _ _ ⟨_⟩ _ ⟨_⟩ x σ⟩ _ _
 simp(disch:=omega)only[go_sem]
 refine qF (K2 l hl) (by simp(disch:=omega)only[go_sem]) ?_
 rintro r hs ⟨rfl, -,⟨h,rfl⟩⟩
 refine⟨by simp(disch:=omega)only[go_sem],?_⟩
 simp(disch:=omega)only[go_sem]
 refine ql (JR l hl 0 h (by omega)) ?_
 rintro r i1 h1 hi1 ⟨⟨S,xs,E⟩,hxs,rfl⟩
 simp(disch:=omega)only[go_sem]
 unfold DyV.cs
 simp(disch:=omega)only[go_sem]
 refine ql (qR l hl i1 h1 hi1 3 (by omega)) ?_
 rintro r i2 h2 hi2 ⟨b,rfl⟩
 simp(disch:=omega)only[go_sem]
 dsimp only at hxs
 cases b
 ·simp(disch:=omega)only[go_sem]
  refine qe (fun c=>?_) (fun c=>?_)
  ·simp(disch:=omega)only[go_sem,c]
   refine qo rfl [⟨0,[],[]⟩,⟨1,[0],[]⟩,⟨2,[0],[]⟩,⟨3,[],[]⟩,⟨4,[],[]⟩] (by kernel_rfl) ?_
   simp(disch:=omega)only[go_sem]
   refine ql (qG l hl i2 h2 hi2) ?_
   rintro r i3 h3 hi3 ⟨md,rfl⟩
   simp(disch:=omega)only[go_sem]
   exact qE (by simp(disch:=omega)only[go_sem]) ⟨rfl,rfl,⟨S,xs,0⟩,md,hxs,rfl⟩
  ·simp(disch:=omega)only[go_sem,c]
   refine qo rfl [⟨0,[],[]⟩,⟨1,[0],[]⟩,⟨2,[0],[]⟩,⟨3,[],[]⟩,⟨4,[],[]⟩] (by kernel_rfl) ?_
   simp(disch:=omega)only[go_sem]
   refine ql (qG l hl i2 h2 hi2) ?_
   rintro r i3 h3 hi3 ⟨md,rfl⟩
   simp(disch:=omega)only[go_sem]
   exact qE (by simp(disch:=omega)only[go_sem]) ⟨rfl,rfl,⟨S,xs,E⟩,md,hxs,rfl⟩
 ·simp(disch:=omega)only[go_sem]
  refine ql (aiU l hl i2 h2 hi2) ?_
  rintro r i3 h3 hi3 ⟨V,hV,rfl⟩
  simp(disch:=omega)only[go_sem]
  unfold FlV.cs
  refine qa (aB7 V.k V.s V.m V.e hV) ?_
  simp(disch:=omega)only[go_sem]
  refine ql (qI l hl i3 h3 hi3 3 (by omega)) ?_
  rintro r i4 h4 hi4 ⟨q,hq,rfl⟩
  simp(disch:=omega)only[go_sem]
  have hq2:=hq.2 (by omega)
  refine qa (Zk (q-1) (by omega)) ?_
  simp(disch:=omega)only[go_sem]
  refine zl (qK l hl i4 h4 hi4 [-54, -53, -105, -1075, -1076,0] (by simp) (by simp)) ?_
  rintro r i5 h5 hi5 ⟨y,hy,rfl⟩
  have hy_b: -1076≤y∧y≤0:=by
   simp only[List.mem_cons,List.not_mem_nil,or_false]at hy
   omega
  clear hy
  simp(disch:=omega)only[go_sem]
  have bx:=aOh hV
  have bq:ExV.bd (-1100) 1100 ⟨decide (q-1<0),(q-1).natAbs,y⟩:=⟨fun h=>by show decide _=false;simp;have:(q-1).natAbs=0:=h;omega,by show _≤y;omega,by
   have:bl (q-1).natAbs≤1:=q9.2 (by omega)
   show(bl (q-1).natAbs:Int)+y≤_;omega⟩
  refine qa (aiW ⟨aJM V.k V.s V.m,aD1 V.k V.m,aJN V.k V.m V.e⟩ ⟨decide (q-1<0),(q-1).natAbs,y⟩ (bx.mono (by omega) (by omega)) (bq.mono (by omega) (by omega))) ?_
  simp(disch:=omega)only[go_sem]
  have hp:=aLh (ExV.plus_bd bx bq)
  generalize (ExV.plus ⟨aJM V.k V.s V.m,aD1 V.k V.m,aJN V.k V.m V.e⟩ ⟨decide (q-1<0),(q-1).natAbs,y⟩).can=Y at*
  obtain⟨S',m',E'⟩:=Y
  dsimp only at hp ⊢
  refine qe (fun c=>?_) (fun c=>?_)
  ·simp(disch:=omega)only[go_sem,c]
   refine qo rfl [⟨0,[],[]⟩,⟨1,[0],[]⟩,⟨2,[0],[]⟩,⟨3,[],[]⟩,⟨4,[],[]⟩] (by kernel_rfl) ?_
   simp(disch:=omega)only[go_sem]
   refine ql (qG l hl i5 h5 hi5) ?_
   rintro r i6 h6 hi6 ⟨md,rfl⟩
   simp(disch:=omega)only[go_sem]
   exact qE (by simp(disch:=omega)only[go_sem]) ⟨rfl,rfl,⟨S',lim m',0⟩,md,hp,rfl⟩
  ·simp(disch:=omega)only[go_sem,c]
   refine qo rfl [⟨0,[],[]⟩,⟨1,[0],[]⟩,⟨2,[0],[]⟩,⟨3,[],[]⟩,⟨4,[],[]⟩] (by kernel_rfl) ?_
   simp(disch:=omega)only[go_sem]
   refine ql (qG l hl i5 h5 hi5) ?_
   rintro r i6 h6 hi6 ⟨md,rfl⟩
   simp(disch:=omega)only[go_sem]
   exact qE (by simp(disch:=omega)only[go_sem]) ⟨rfl,rfl,⟨S',lim m',E'⟩,md,hp,rfl⟩
end Go.Ab
namespace Go.Ab
open Go Go.Proofs
theorem aoR{s:Bool}{m:Nat}{e:Int}{mode:Int}(h0:m≠0)(h:rqB s m (frB m e) (frL m e) mode):1024≤(bl m:Int)+e:=by
 obtain⟨h1,h2⟩:=h
 obtain⟨hL,hLe,hB,hb⟩:=aBg m e
 have h3:=aAi s m (frB m e) mode
 have h4:bl (rq s m (frB m e) mode)≤(bl m-(frL m e-e).toNat)+1:=by
  refine q9.2 (Nat.lt_of_le_of_lt h3 ?_)
  have h5:m/frB m e<2^(bl m-(frL m e-e).toNat):=by
   rw[Nat.div_lt_iff_lt_mul hb,hB,←Nat.pow_add]
   exact q9.1 (by omega)
  rw[Nat.pow_succ];omega
 rcases baO m e with h5|h5
 ·by_cases h6:(bl m:Int)<frL m e-e
  ·unfold frL qC at*;split at* <;>split at* <;>omega
  ·omega
 ·rw[h5.2.1,aea]at h2;omega
theorem Qn{F:FlV}(h:flB F.k F.s F.m F.e=true):(flD F).val 3000=dv 3000 (xS F.k F.s) F.m.toNat F.e:=by
 have h1:=aKQ h
 have h2:=zn h
 have h3:=aR7 h
 rw[show(3000:Nat)=1074+1926 from rfl,aMf h3.1,h1,Qq h2.2.1.1]
theorem aKd{x:ExV}(hx:x.ok=true)(md:Int){F D T:FlV}{G G3 G2:Int}(hF:flV x.s x.m x.e md false=F)(hD:flV x.s x.m x.e 3 false=D)(hT:flV x.s x.m x.e 2 false=T)
  (hG:flG x.s x.m x.e md=G) (hG3:flG x.s x.m x.e 3=G3) (hG2:flG x.s x.m x.e 2=G2):
  flB F.k F.s F.m F.e=true∧(((D=F∧T=F)∧(G=0∧G3=0∧G2=0)∧isN F=true∧flD F=x)∨
   (((G=1∨G=5∨(G=3∧1024≤(bl x.m:Int)+x.e))∧(G3=1∨G3=5∨G3=3)∧(G2=1∨G2=5∨G2=3))∧(F=D∨F=T)∧(flB D.k D.s D.m D.e=true∧D.k≠3)∧(flB T.k T.s T.m T.e=true∧T.k≠3)∧
    aqa (nxV D.k D.s D.m D.e).k (nxV D.k D.s D.m D.e).s (nxV D.k D.s D.m D.e).m (nxV D.k D.s D.m D.e).e T.k T.s T.m T.e=0∧(isN D=true→(flX D).val 3000<x.val 3000)∧(isN T=true→x.val 3000<(flX T).val 3000))):=by
 obtain⟨r1,r2,r3,r4,r5⟩:=Qb hx
 by_cases h0:x.m=0
 ·have e1:∀md,flV x.s x.m x.e md false=⟨0,false,0,0⟩:=fun md=>if_pos h0
  have e2:∀md,flG x.s x.m x.e md=0:=fun md=>if_pos h0
  rw[e1]at hF hD hT
  rw[e2]at hG hG3 hG2
  subst hF hD hT hG hG3 hG2
  refine⟨rfl,.inl ⟨⟨rfl,rfl⟩,⟨rfl,rfl,rfl⟩,rfl,?_⟩⟩
  obtain⟨s,m,e⟩:=x
  dsimp only at h0
  obtain⟨h1,h2⟩:=r4 h0
  dsimp only at h1 h2
  subst h0 h1 h2
  decide+kernel
 ·rw[aYM md false h0]at hF
  rw[aYM 3 false h0]at hD
  rw[aYM 2 false h0]at hT
  rw[aYN md h0]at hG
  rw[aYN 3 h0]at hG3
  rw[aYN 2 h0]at hG2
  obtain⟨hL,hLe,hB,hb⟩:=aBg x.m x.e
  have oF:=aIq (s:=x.s) hL (QE (s:=x.s) (e:=x.e) md h0)
  rw[hF]at oF
  refine⟨oF,?_⟩
  have flv:∀{b:Bool} {mode:Int},(b=false∨rqB x.s x.m (frB x.m x.e) (frL x.m x.e) mode)→jZ (bl x.m+x.e) b (rq x.s x.m (frB x.m x.e) mode) (frL x.m x.e)=1∨jZ (bl x.m+x.e) b (rq x.s x.m (frB x.m x.e) mode) (frL x.m x.e)=5∨
    (jZ (bl x.m+x.e) b (rq x.s x.m (frB x.m x.e) mode) (frL x.m x.e)=3∧rqB x.s x.m (frB x.m x.e) (frL x.m x.e) mode):=by
   intro b mode h
   by_cases hr:rqB x.s x.m (frB x.m x.e) (frL x.m x.e) mode
   ·refine .inr (.inr ⟨?_,hr⟩)
    have hr1:=hr;unfold rqB at hr1
    unfold jZ;rw[if_pos hr1]
   ·rcases h with rfl|h
    ·have hr1:=hr;unfold rqB at hr1
     unfold jZ zm;rw[if_neg hr1,if_neg (by simp)]
     split
     ·exact .inr (.inl rfl)
     ·exact .inl rfl
    ·exact absurd h hr
  by_cases hc:x.m % frB x.m x.e=0
  ·have hq:∀mode,rq x.s x.m (frB x.m x.e) mode=x.m/frB x.m x.e:=fun mode=>by unfold rq;rw[if_pos hc]
   by_cases hr:rqB x.s x.m (frB x.m x.e) (frL x.m x.e) 3
   ·have hr':∀mode,rqB x.s x.m (frB x.m x.e) (frL x.m x.e) mode:=fun mode=>by unfold rqB at hr ⊢;rw[hq]at hr ⊢;exact hr
    have k:=aoT h0 r1.1 (.inr hr) hD hT
    have ho:=aoR h0 hr
    refine .inr ⟨⟨?_,?_,?_⟩,?_,k.1,k.2.1,k.2.2.1,fun h=>?_,fun h=>?_⟩
    ·rw[←hG];exact(flv (.inr (hr' md))).elim .inl fun h=>h.elim (fun h=>.inr (.inl h)) fun h=>.inr (.inr ⟨h.1,ho⟩)
    ·rw[←hG3];exact(flv (.inr (hr' 3))).elim .inl fun h=>h.elim (fun h=>.inr (.inl h)) fun h=>.inr (.inr h.1)
    ·rw[←hG2];exact(flv (.inr (hr' 2))).elim .inl fun h=>h.elim (fun h=>.inr (.inl h)) fun h=>.inr (.inr h.1)
    ·rw[←hF,←hD,←hT];exact aNg _ _ _ _ _
    ·rw[ao5 h,Qn k.1.1];exact k.2.2.2.1 h
    ·rw[ao5 h,Qn k.2.1.1];exact k.2.2.2.2 h
   ·have hr':∀mode,¬rqB x.s x.m (frB x.m x.e) (frL x.m x.e) mode:=fun mode=>by unfold rqB at hr ⊢;rw[hq]at hr ⊢;exact hr
    have e1:∀mode,rnF x.s x.m (frB x.m x.e) (frL x.m x.e) mode=F:=fun mode=>by rw[←hF];exact an0 ((hq mode).trans (hq md).symm) (hr' mode)
    have e2:∀mode,jZ (bl x.m+x.e) (decide (x.m % frB x.m x.e=0)) (rq x.s x.m (frB x.m x.e) mode) (frL x.m x.e)=0:=fun mode=>by
     have hr1:=hr' mode;unfold rqB at hr1
     unfold jZ zm;rw[if_neg hr1,decide_eq_true hc];rfl
    rw[e2]at hG hG3 hG2
    rw[e1]at hD hT
    obtain⟨-,n1,v1⟩:=aec (s:=x.s) hL (QE (s:=x.s) (e:=x.e) md h0) (hr' md)
    rw[hF,hq]at v1
    rw[hF]at n1
    refine .inl ⟨⟨hD.symm,hT.symm⟩,⟨hG.symm,hG3.symm,hG2.symm⟩,n1,?_⟩
    have g:=aR7 oF
    refine aN3 (K:=3000) (aD6 oF) hx (by omega) (by omega) ?_
    rw[Qn oF,aMh (zn oF).2.1.1 hL v1,aKe x.s x.m r1.1,Nat.div_mul_cancel (Nat.dvd_of_mod_eq_zero hc)]
    rfl
  ·have k:=aoT h0 r1.1 (.inl hc) hD hT
   rw[decide_eq_false hc]at hG hG3 hG2
   refine .inr ⟨⟨?_,?_,?_⟩,?_,k.1,k.2.1,k.2.2.1,fun h=>?_,fun h=>?_⟩
   ·rw[←hG];exact(flv (.inl rfl)).elim .inl fun h=>h.elim (fun h=>.inr (.inl h)) fun h=>.inr (.inr ⟨h.1,aoR h0 h.2⟩)
   ·rw[←hG3];exact(flv (.inl rfl)).elim .inl fun h=>h.elim (fun h=>.inr (.inl h)) fun h=>.inr (.inr h.1)
   ·rw[←hG2];exact(flv (.inl rfl)).elim .inl fun h=>h.elim (fun h=>.inr (.inl h)) fun h=>.inr (.inr h.1)
   ·rw[←hF,←hD,←hT];exact aNg _ _ _ _ _
   ·rw[ao5 h,Qn k.1.1];exact k.2.2.2.1 h
   ·rw[ao5 h,Qn k.2.1.1];exact k.2.2.2.2 h
theorem zT(x:ExV)(hx:x.ok=true):Con Tryz.prog 55 true [.ag [.v (.bool (x).s),.sl (lim (x).m).length (qg (lim (x).m)),.v (.int .i64 (x).e)]] [] (isA (.v (.int .i64 x.top))):=by
 have k:=YO x.s (lim x.m) x.e (by have:=(Qb hx).2.2.1;omega)
 rw[show dyB x.s (lim x.m) x.e=true from hx]at k
 refine Con.of_w (rs:=[.tmp 2]) Tryz.func55 rfl Tryz.ntmps55 rfl ?_
 simp(disch:=omega)only[go_sem]
 refine qb (k) ?_
 simp(disch:=omega)only[go_sem]
 refine qa (yZ x.s x.m x.e) ?_
 simp(disch:=omega)only[go_sem]
 refine qb (aB3 x ((aYs hx).mono (by omega) (by omega))) ?_
 simp(disch:=omega)only[go_sem]
 exact qq
set_option maxRecDepth 100000 in
set_option maxHeartbeats 4000000 in
theorem KI(l:List UInt8)(hl:l.length≤9223372036854775807):Con Tryz.prog 10 true [.sl l.length (qp l)] [] (isA (.v (.bool true))):=by
 refine Con.of_w (rs:=[.tmp 2]) Tryz.func10 rfl Tryz.ntmps10 rfl ?_
 simp(disch:=omega)only[go_sem]
 refine qF (Z8 l hl) (by simp(disch:=omega)only[go_sem]) ?_
 rintro r hs ⟨rfl, -,⟨⟨S,xs,E⟩,m,hxs,rfl⟩⟩
 refine⟨by simp[qS],?_⟩
 dsimp only at hxs
 unfold DyV.cs
 simp(disch:=omega)only[go_sem]
 have c:=Z7 S xs E m (by omega)
 cases hv:(dyB S xs E&&ac9 m)
 ·rw[hv,if_neg (by simp)]at c
  refine qb (c) ?_
  simp(disch:=omega)only[go_sem]
  simp(disch:=omega)only[go_sem,yD]
  refine qb (ap3) ?_
  simp(disch:=omega)only[go_sem]
  exact qq
 ·obtain⟨h1,h2⟩:=(Bool.and_eq_true _ _).mp hv
  obtain⟨n,rfl, -⟩:=jL h1
  have hx:ExV.ok ⟨S,n,E⟩=true:=h1
  clear c
  have cF:=yv ⟨S,n,E⟩ m hx h2
  have cD:=yv ⟨S,n,E⟩ 3 hx rfl
  have cT:=yv ⟨S,n,E⟩ 2 hx rfl
  obtain⟨oF,hm⟩:=aKd hx m rfl rfl rfl rfl rfl rfl
  dsimp only at cF cD cT oF hm
  have cK:=apT (flV S n E m false).k (flV S n E m false).s (flV S n E m false).m (flV S n E m false).e
  rw[oF]at cK
  generalize flV S n E m false=F at*
  generalize flV S n E 3 false=D at*
  generalize flV S n E 2 false=T at*
  generalize flG S n E m=G at*
  generalize flG S n E 3=G3 at*
  generalize flG S n E 2=G2 at*
  refine qb (cF) ?_
  simp(disch:=omega)only[go_sem]
  refine qb (cD) ?_
  simp(disch:=omega)only[go_sem]
  refine qb (cT) ?_
  simp(disch:=omega)only[go_sem]
  refine qb (cK) ?_
  simp(disch:=omega)only[go_sem]
  rcases hm with⟨⟨rfl,rfl⟩,⟨rfl,rfl,rfl⟩,nF,eF⟩|⟨⟨g1,g2,g3⟩,hor,⟨oD,kD⟩,⟨oT,kT⟩,hc,lD,lT⟩
  ·have cX:=adE _ oF
   rw[nF,ao5 nF,eF]at cX
   have z:decide ((0:Int)<0 % 2)=false:=rfl
   have z2:((0:Int) % 2)=0:=rfl
   simp(disch:=omega)only[go_sem,z,z2]
   refine qa (cX) ?_
   simp(disch:=omega)only[go_sem]
   refine qb (apr ⟨S,n,E⟩ ⟨S,n,E⟩ hx hx) ?_
   simp(disch:=omega)only[go_sem]
   simp(disch:=omega)only[go_sem,yD]
   exact qq
  ·have a1:(1&&&2:Nat)=0:=rfl
   have a5:(5&&&2:Nat)=0:=rfl
   have a3:(3&&&2:Nat)=2:=rfl
   have htop:1024≤(bl n:Int)+E→decide (1024≤ExV.top ⟨S,n,E⟩)=true:=fun h=>decide_eq_true (by
    have h0:n≠0:=fun h0=>by
     have:=((Qb hx).2.2.2.1 h0).2
     dsimp only at this
     subst h0 this
     rw[show bl 0=0 from by decide+kernel]at h
     omega
    unfold ExV.top;rw[if_neg h0];exact h)
   have p1:G % 2=1:=by omega
   have p3:G3 % 2=1:=by omega
   have p2:G2 % 2=1:=by omega
   have z:decide ((0:Int)<1)=true:=rfl
   simp(disch:=omega)only[go_sem,p1,p2,p3,z]
   refine qb (ajc D.k D.s D.m D.e oD) ?_
   simp(disch:=omega)only[go_sem]
   obtain⟨oN,kN⟩:=Yg oD kD
   have cC:=ap5 _ _ _ _ T.k T.s T.m T.e oN oT kN kT
   rw[hc]at cC
   refine qb (cC) ?_
   simp(disch:=omega)only[go_sem]
   refine qa (adE D oD) ?_
   simp(disch:=omega)only[go_sem]
   refine qa (adE T oT) ?_
   simp(disch:=omega)only[go_sem]
   cases qD:aqS F.k F.s F.m F.e D.k D.s D.m D.e
   ·obtain rfl:T=F:=(hor.elim (fun h=>by rw[h,yD]at qD;cases qD) _root_.id).symm
    simp(disch:=omega)only[go_sem,qD,yD]
    cases nD:isN D
    ·simp(disch:=omega)only[go_sem,nD]
     cases nT:isN T
     ·simp(disch:=omega)only[go_sem,nT]
      rcases g1 with rfl|rfl|⟨rfl,hg⟩
      ·simp(disch:=omega)only[go_sem,a1]
       exact qq
      ·simp(disch:=omega)only[go_sem,a5]
       exact qq
      ·simp(disch:=omega)only[go_sem,a3]
       refine qb (zT ⟨S,n,E⟩ hx) ?_
       simp(disch:=omega)only[go_sem]
       simp(disch:=omega)only[go_sem,htop hg]
       exact qq
     ·simp(disch:=omega)only[go_sem,nT]
      refine qb (jX ⟨S,n,E⟩ (flX _) hx (JG oT)) ?_
      simp(disch:=omega)only[go_sem]
      have ulT:=decide_eq_true ((yc _ _).2.1.2 (lT nT))
      simp(disch:=omega)only[go_sem,ulT]
      rcases g1 with rfl|rfl|⟨rfl,hg⟩
      ·simp(disch:=omega)only[go_sem,a1]
       exact qq
      ·simp(disch:=omega)only[go_sem,a5]
       exact qq
      ·simp(disch:=omega)only[go_sem,a3]
       refine qb (zT ⟨S,n,E⟩ hx) ?_
       simp(disch:=omega)only[go_sem]
       simp(disch:=omega)only[go_sem,htop hg]
       exact qq
    ·simp(disch:=omega)only[go_sem,nD]
     refine qb (jX (flX D) ⟨S,n,E⟩ (JG oD) hx) ?_
     simp(disch:=omega)only[go_sem]
     have ulD:=decide_eq_true ((yc _ _).2.1.2 (lD nD))
     simp(disch:=omega)only[go_sem,ulD]
     cases nT:isN T
     ·simp(disch:=omega)only[go_sem,nT]
      rcases g1 with rfl|rfl|⟨rfl,hg⟩
      ·simp(disch:=omega)only[go_sem,a1]
       exact qq
      ·simp(disch:=omega)only[go_sem,a5]
       exact qq
      ·simp(disch:=omega)only[go_sem,a3]
       refine qb (zT ⟨S,n,E⟩ hx) ?_
       simp(disch:=omega)only[go_sem]
       simp(disch:=omega)only[go_sem,htop hg]
       exact qq
     ·simp(disch:=omega)only[go_sem,nT]
      refine qb (jX ⟨S,n,E⟩ (flX _) hx (JG oT)) ?_
      simp(disch:=omega)only[go_sem]
      have ulT:=decide_eq_true ((yc _ _).2.1.2 (lT nT))
      simp(disch:=omega)only[go_sem,ulT]
      rcases g1 with rfl|rfl|⟨rfl,hg⟩
      ·simp(disch:=omega)only[go_sem,a1]
       exact qq
      ·simp(disch:=omega)only[go_sem,a5]
       exact qq
      ·simp(disch:=omega)only[go_sem,a3]
       refine qb (zT ⟨S,n,E⟩ hx) ?_
       simp(disch:=omega)only[go_sem]
       simp(disch:=omega)only[go_sem,htop hg]
       exact qq
   ·simp(disch:=omega)only[go_sem,qD]
    cases nD:isN D
    ·simp(disch:=omega)only[go_sem,nD]
     cases nT:isN T
     ·simp(disch:=omega)only[go_sem,nT]
      rcases g1 with rfl|rfl|⟨rfl,hg⟩
      ·simp(disch:=omega)only[go_sem,a1]
       exact qq
      ·simp(disch:=omega)only[go_sem,a5]
       exact qq
      ·simp(disch:=omega)only[go_sem,a3]
       refine qb (zT ⟨S,n,E⟩ hx) ?_
       simp(disch:=omega)only[go_sem]
       simp(disch:=omega)only[go_sem,htop hg]
       exact qq
     ·simp(disch:=omega)only[go_sem,nT]
      refine qb (jX ⟨S,n,E⟩ (flX _) hx (JG oT)) ?_
      simp(disch:=omega)only[go_sem]
      have ulT:=decide_eq_true ((yc _ _).2.1.2 (lT nT))
      simp(disch:=omega)only[go_sem,ulT]
      rcases g1 with rfl|rfl|⟨rfl,hg⟩
      ·simp(disch:=omega)only[go_sem,a1]
       exact qq
      ·simp(disch:=omega)only[go_sem,a5]
       exact qq
      ·simp(disch:=omega)only[go_sem,a3]
       refine qb (zT ⟨S,n,E⟩ hx) ?_
       simp(disch:=omega)only[go_sem]
       simp(disch:=omega)only[go_sem,htop hg]
       exact qq
    ·simp(disch:=omega)only[go_sem,nD]
     refine qb (jX (flX D) ⟨S,n,E⟩ (JG oD) hx) ?_
     simp(disch:=omega)only[go_sem]
     have ulD:=decide_eq_true ((yc _ _).2.1.2 (lD nD))
     simp(disch:=omega)only[go_sem,ulD]
     cases nT:isN T
     ·simp(disch:=omega)only[go_sem,nT]
      rcases g1 with rfl|rfl|⟨rfl,hg⟩
      ·simp(disch:=omega)only[go_sem,a1]
       exact qq
      ·simp(disch:=omega)only[go_sem,a5]
       exact qq
      ·simp(disch:=omega)only[go_sem,a3]
       refine qb (zT ⟨S,n,E⟩ hx) ?_
       simp(disch:=omega)only[go_sem]
       simp(disch:=omega)only[go_sem,htop hg]
       exact qq
     ·simp(disch:=omega)only[go_sem,nT]
      refine qb (jX ⟨S,n,E⟩ (flX _) hx (JG oT)) ?_
      simp(disch:=omega)only[go_sem]
      have ulT:=decide_eq_true ((yc _ _).2.1.2 (lT nT))
      simp(disch:=omega)only[go_sem,ulT]
      rcases g1 with rfl|rfl|⟨rfl,hg⟩
      ·simp(disch:=omega)only[go_sem,a1]
       exact qq
      ·simp(disch:=omega)only[go_sem,a5]
       exact qq
      ·simp(disch:=omega)only[go_sem,a3]
       refine qb (zT ⟨S,n,E⟩ hx) ?_
       simp(disch:=omega)only[go_sem]
       simp(disch:=omega)only[go_sem,htop hg]
       exact qq
end Go.Ab
namespace Go.Proofs.YtjkhfpjccemboaaGreatDoor
open Go.ChangeShapes Go.WideShapes Go.ChangeAt Go.RowKit Go.Ab
theorem own:ownKnob Tryz.prog.godebug=none:=by kernel_rfl
theorem aJL:laidOutB Tryz.prog=true:=by kernel_rfl
theorem anE:Tryz.prog.globalNamed "math/bits.deBruijn64tab" =some 1:=by kernel_rfl
theorem aH1:(Tryz.prog.globals[1]?).map (·.type)=some 257:=by kernel_rfl
theorem aH0:Tryz.prog.underlying 257=some (.array 64 5):=by kernel_rfl
theorem aH4:Tryz.prog.underlying 5=some (.int .u8):=by kernel_rfl
theorem aH5:Tryz.prog.cellsOf 5=1:=by kernel_rfl
theorem aH2:Tryz.prog.cellsOf 257=64:=by kernel_rfl
noncomputable def yC:List (String×DataW Unit):=[("math/bits.deBruijn32tab",Rows.laid_math_bits_deBruijn32tab),("math/bits.deBruijn64tab",Rows.laid_math_bits_deBruijn64tab)]
theorem aH3{W:World}(h:laidMetH Tryz.prog yC W):Gd W:=by
 have h':laidMet Tryz.prog yC W:=h
 have h2:laidMet Tryz.prog [("math/bits.deBruijn64tab",Lib.tabData .u8 (Lib.deBruijn64tab.map Int.ofNat))] W:=laidMet.tail h'
 have hT:=Lib.tabIs_of_head anE aH1 aH0 aH4 aH5 aH2 h2
 intro g l hg
 unfold glb at hg
 split at hg
 ·rename_i e
  subst e
  cases hg
  have hc:∀i,i<Lib.deBruijn64tab.length→W.cell? ⟨1,i,none⟩=some (.int .u8 ((Lib.deBruijn64tab.getD i 0:Nat):Int)):=fun i hi=>by
   have:=hT.cell anE i (by simpa using hi)
   rw[this]
   simp[List.getD,hi]
  exact⟨aew (hc 0 (by decide)),hc⟩
 ·cases hg
noncomputable def KJ(os:Os):World:=
 let w0:=World.holding Tryz.prog os ⟨#[],#[],[]⟩
 {w0 with heap:=(w0.heap.modify 1 fun
   | .cells _ t frozen=>.cells (Lib.deBruijn64tab.map fun z=>Value.int .u8 (Int.ofNat z)).toArray t frozen
   |o=>o).modify 0 fun
   | .cells _ t frozen=>.cells (Lib.deBruijn32tab.map fun z=>Value.int .u8 (Int.ofNat z)).toArray t frozen
   |o=>o}
theorem Yr(os:Os)(args:Array Value):laidMetH Tryz.prog yC ((KJ os).forCall (fun _ _=>0) ⟨#[],args,[]⟩).memory:=
 laidMetH_of_parts (laidMet_of_run' 8 (by kernel_rfl) (by kernel_rfl)) (by kernel_rfl)
end Go.Proofs.YtjkhfpjccemboaaGreatDoor
