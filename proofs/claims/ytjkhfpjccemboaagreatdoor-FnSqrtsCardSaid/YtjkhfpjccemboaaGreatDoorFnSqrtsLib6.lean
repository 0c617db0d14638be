/- What the proof of this claim stands on: the walks of the functions and the plain laws, part 6. -/
import Derived.Test.YtjkhfpjccemboaaGreatDoorFnSqrtsLib5
import Derived.Laws.StructEq
import Derived.Test.YtjkhfpjccemboaaGreatDoorRows
import Derived.Test.YtjkhfpjccemboaaGreatDoorCards
import Derived.Test.YtjkhfpjccemboaaGreatDoorTie
import Derived.Handed
import Derived.ChangeSame
import Derived.JoinedOf
import Derived.RowKit
import Derived.WalkKit
import Derived.ProofKit
import Derived.OpenShut
import Derived.LaidLaws
import Derived.LaidHandle
import Derived.SevenTiedAt
import Derived.Stop.LaidErr
import Derived.Lib.LaidTab
set_option linter.unusedVariables false
set_option linter.unusedSimpArgs false
namespace Go.Ab
open Go Go.Proofs
def bdk(l:List UInt8)(i h:Int):Ob:=.own 0 [.sl l.length (qw l),.v (.int .i64 i),.v (.int .i64 h)]
def aD5(l:List UInt8)(Q:AV→Prop):AV→List Ob→List Ob→Prop:=fun r hs bs=>hs=[]∧Q r∧∃i h:Int,(0≤i∧i≤l.length)∧bs=[.own 0 [.sl l.length (qw l),.v (.int .i64 i),.v (.int .i64 h)]]
section
variable {P:Program}{N f c:Nat}{aa0 args:List AV}{hp:Nat→Ob}{K:KV}{Q:AV→Prop}{e:Nat→AV}{l:List UInt8}{i h:Int}
theorem qH(n:Nat)(hc:Con P f false args [.own 0 [.sl l.length (qw l),.v (.int .i64 i),.v (.int .i64 h)]] (aD5 l Q))
  (hk:∀(r:AV) (i' h':Int),(0≤i'∧i'≤l.length)→Q r→K (r.ren (rho c [n])) (upd hp n (.own 0 [.sl l.length (qw l),.v (.int .i64 i'),.v (.int .i64 h')])))
  (ha:aa0.map (snp (hpx false [n] hp) (idx [n]) 6)=args:=by simp(disch:=omega)only[go_sem]) (hn:hp n=.own 0 [.sl l.length (qw l),.v (.int .i64 i),.v (.int .i64 h)]:=by simp(disch:=omega)only[go_sem])
  (hin:∃a∈aa0,a.top=some n:=by exact⟨_,List.mem_cons_self ..,rfl⟩):@Ju P f aa0 hp c ⟨K⟩:=by
 refine aac false [n] hc ha (by rw[ZD,hn];rfl) rfl (zh hn (by simp[AllL,AV.All])) (by intro m hm;rw[List.mem_singleton.1 hm];exact hin) ?_
 rintro r hs bs ⟨rfl,hq,i',h',hi',rfl⟩-
 exact⟨⟨by simp,trivial,fun h=>by cases h⟩,hk r i' h' hi' hq⟩
theorem aDQ{ks:List Nat}:∀{l:List AV},AllL (ye []) l→leL [] ks l l
 | [],_=>trivial
 |a::r,h=>⟨⟨an1 a,h.1.mono fun _ h=>h.elim⟩,aDQ h.2⟩
theorem zv{vs:List AV}(i h:Int)(hq:Q (qW vs))(hi:0≤i∧i≤l.length:=by omega)(hh:hp 10000000=.own 0 [.sl l.length (qw l),.v (.int .i64 i),.v (.int .i64 h)]:=by simp(disch:=omega)only[go_sem])
  (hl:AllL (ye []) vs:=by simp(disch:=omega)only[go_sem]):@aDW N false 1 ⟨aD5 l Q⟩ ⟨e⟩ vs hp:=
 qm [] [] [.own 0 [.sl l.length (qw l),.v (.int .i64 i),.v (.int .i64 h)]] vs rfl (aDQ hl) ⟨⟨hh.symm,by simp[Ob.men,AllL,AV.All],trivial⟩,trivial⟩ ⟨rfl,by simp,by simp⟩ (fun h=>by cases h) ⟨rfl,hq,i,h,hi,rfl⟩
end
def baG(l:List UInt8)(xs:List Int)(Q:AV→Prop):AV→List Ob→List Ob→Prop:=fun r hs bs=>hs=[]∧Q r∧∃i h:Int,(0≤i∧i≤l.length)∧bs=[.own 0 [.sl l.length (qw l),.v (.int .i64 i),.v (.int .i64 h)],.own 1 (qg xs)]
section
variable {P:Program}{N f c:Nat}{aa0 args:List AV}{hp:Nat→Ob}{K:KV}{Q:AV→Prop}{e:Nat→AV}{l:List UInt8}{i h:Int}
theorem zO(n m k:Nat){xs:List Int}(hc:Con P f false [.pt 10000000 0,.rf 10000001 0 xs.length] [.own 0 [.sl l.length (qw l),.v (.int .i64 i),.v (.int .i64 h)],.own 1 (qg xs)] (baG l xs Q))
  (hk:∀(r:AV) (i' h':Int),(0≤i'∧i'≤l.length)→Q r→K (r.ren (rho c [n,m])) (upd (upd hp n (.own 0 [.sl l.length (qw l),.v (.int .i64 i'),.v (.int .i64 h')])) m (.own 1 (qg xs))))
  (ha:aa0.map (snp (hpx false [n,m] hp) (idx [n,m]) 6)=[.pt 10000000 0,.rf 10000001 0 k]:=by simp(disch:=omega)only[go_sem]) (hx:xs.length=k:=by rfl)
  (hn:hp n=.own 0 [.sl l.length (qw l),.v (.int .i64 i),.v (.int .i64 h)]:=by simp(disch:=omega)only[go_sem]) (hm:hp m=.own 1 (qg xs):=by simp(disch:=omega)only[go_sem];rfl)
  (hd:QR [n,m]=true:=by rfl) (hin:∀q∈[n,m],∃a∈aa0,a.top=some q:=by intro n hn;simp only[List.mem_cons,List.not_mem_nil,or_false]at hn;rcases hn with rfl|rfl<;>simp[AV.top]):@Ju P f aa0 hp c ⟨K⟩:=by
 subst hx
 refine aac false [n,m] hc ha (by rw[ZD,ZD,hn,hm];simp only[Ob.ren,Zy,ZD];rfl) hd (aAR hn (by simp[AllL,AV.All]) hm Yt) hin ?_
 rintro r hs bs ⟨rfl,hq,i',h',hi',rfl⟩-
 refine⟨⟨by simp,trivial,fun h=>by cases h⟩,?_⟩
 have:=hk r i' h' hi' hq
 simp only[List.map_cons,List.map_nil,Ob.ren,Zy]
 exact this
end
section
variable (l:List UInt8)(hl:l.length≤9223372036854775807)(i h:Int)(hi:0≤i∧i≤l.length)
include hl hi
theorem j1:Con Tryz.prog 207 false [.pt 10000000 0] [.own 0 [.sl l.length (qw l),.v (.int .i64 i),.v (.int .i64 h)]] (aD5 l fun r=>∃k:Int,(0≤k∧k≤255)∧r=.v (.int .i64 k)):=by
 refine Con.of_aw Tryz.func207 rfl Tryz.ntmps207 (by simp) (by simp) (by simp) (W.sound ?_)
 show @W Tryz.prog 58 ⟨_⟩ ⟨fun x σ=>@qV _ _ _ ⟨_⟩ _ ⟨_⟩ x σ⟩ _ _
 simp(disch:=omega)only[go_sem]
 generalize IntKind.i64.wrap (IntKind.i64.wrap (h*6364136223846793005)+1442695040888963407)=h1
 refine qn rfl [⟨0,[],[]⟩,⟨1,[],[]⟩,⟨2,[],[]⟩,⟨3,[],[]⟩,⟨4,[],[]⟩,⟨5,[3],[]⟩,⟨6,[3],[]⟩,⟨7,[3],[]⟩,⟨8,[3],[]⟩,⟨9,[3],[]⟩,⟨10,[],[]⟩,⟨11,[],[]⟩,⟨12,[],[]⟩] (by kernel_rfl) ?_
 simp(disch:=omega)only[go_sem]
 generalize bax (h1.fdiv (2^min 33 64)) (h1.fdiv (2^min 45 64))=y
 have hy:0≤y % 256∧y % 256<256:=by omega
 generalize y % 256=x at*
 refine qn rfl [⟨0,[],[]⟩,⟨1,[],[]⟩,⟨2,[],[]⟩,⟨3,[],[]⟩,⟨4,[3],[]⟩,⟨5,[3],[]⟩,⟨6,[3],[]⟩,⟨7,[3],[]⟩,⟨8,[3],[]⟩,⟨9,[],[]⟩] (by kernel_rfl) ?_
 simp(disch:=omega)only[go_sem]
 refine qe (fun c1=>?_) (fun c1=>?_)
 ·simp(disch:=omega)only[go_sem,c1]
  refine qn rfl [⟨0,[],[]⟩,⟨1,[],[]⟩,⟨2,[],[]⟩,⟨3,[],[]⟩,⟨4,[],[]⟩,⟨5,[4],[]⟩,⟨6,[4],[]⟩,⟨7,[4],[]⟩,⟨8,[4],[]⟩,⟨9,[],[]⟩,⟨10,[],[]⟩,⟨11,[],[]⟩,⟨12,[],[]⟩,⟨13,[],[]⟩,⟨14,[],[]⟩] (by kernel_rfl) ?_
  simp(disch:=omega)only[go_sem]
  refine⟨by omega,by omega,?_⟩
  generalize IntKind.i64.wrap (x+IntKind.i64.wrap ((l.getD i.toNat 0).toNat:Int))=y2
  have hy2:0≤y2 % 256∧y2 % 256<256:=by omega
  refine zv (i+1) (h1) ⟨_,by omega,rfl⟩
 ·simp(disch:=omega)only[go_sem,c1]
  refine zv (i) (h1) ⟨_,by omega,rfl⟩
theorem zb(n:Int)(hn:n≤2^62):Con Tryz.prog 130 false [.pt 10000000 0,.v (.int .i64 n)] [.own 0 [.sl l.length (qw l),.v (.int .i64 i),.v (.int .i64 h)]] (aD5 l fun r=>∃k:Int,(0≤k∧(0<n→k<n))∧r=.v (.int .i64 k)):=by
 refine Con.of_aw Tryz.func130 rfl Tryz.ntmps130 (by simp) (by simp) (by simp) (W.sound ?_)
 show @W Tryz.prog 37 ⟨_⟩ ⟨fun x σ=>@qV _ _ _ ⟨_⟩ _ ⟨_⟩ x σ⟩ _ _
 simp(disch:=omega)only[go_sem]
 refine qe (fun c1=>?_) (fun c1=>?_)
 ·simp(disch:=omega)only[go_sem,c1]
  refine zv (i) (h) ⟨_,⟨by omega,fun h=>by omega⟩,rfl⟩
 ·simp(disch:=omega)only[go_sem,c1]
  refine qe (fun c2=>?_) (fun c2=>?_)
  ·simp(disch:=omega)only[go_sem,c2]
   refine qH 10000000 (j1 l hl i h hi) ?_
   rintro r i1 h1 hi1 ⟨k1,hk1,rfl⟩
   simp(disch:=omega)only[go_sem]
   refine⟨by omega,?_⟩
   have hm:=Int.emod_nonneg k1 (show n≠0 by omega)
   have hm2:=Int.emod_lt_of_pos k1 (show 0<n by omega)
   refine zv (i1) (h1) ⟨_,⟨hm,fun _=>hm2⟩,rfl⟩
  ·simp(disch:=omega)only[go_sem,c2]
   refine qH 10000000 (j1 l hl i h hi) ?_
   rintro r i1 h1 hi1 ⟨k1,hk1,rfl⟩
   simp(disch:=omega)only[go_sem]
   refine qH 10000000 (j1 l hl i1 h1 hi1) ?_
   rintro r i2 h2 hi2 ⟨k2,hk2,rfl⟩
   simp(disch:=omega)only[go_sem]
   refine qH 10000000 (j1 l hl i2 h2 hi2) ?_
   rintro r i3 h3 hi3 ⟨k3,hk3,rfl⟩
   simp(disch:=omega)only[go_sem]
   refine qH 10000000 (j1 l hl i3 h3 hi3) ?_
   rintro r i4 h4 hi4 ⟨k4,hk4,rfl⟩
   simp(disch:=omega)only[go_sem]
   refine⟨by omega,?_⟩
   have hm:=Int.emod_nonneg (k1*16777216+k2*65536+k3*256+k4) (show n≠0 by omega)
   have hm2:=Int.emod_lt_of_pos (k1*16777216+k2*65536+k3*256+k4) (show 0<n by omega)
   refine zv (i4) (h4) ⟨_,⟨hm,fun _=>hm2⟩,rfl⟩
theorem zV(n:Int)(hn:n≤2^62):Con Tryz.prog 58 false [.pt 10000000 0,.v (.int .i64 n)] [.own 0 [.sl l.length (qw l),.v (.int .i64 i),.v (.int .i64 h)]] (aD5 l fun r=>∃b:Bool,r=.v (.bool b)):=by
 refine Con.of_aw Tryz.func58 rfl Tryz.ntmps58 (by simp) (by simp) (by simp) (W.sound ?_)
 show @W Tryz.prog 9 ⟨_⟩ ⟨fun x σ=>@qV _ _ _ ⟨_⟩ _ ⟨_⟩ x σ⟩ _ _
 simp(disch:=omega)only[go_sem]
 refine qH 10000000 (zb l hl i h hi n hn) ?_
 rintro r i1 h1 hi1 ⟨k1,hk1,rfl⟩
 simp(disch:=omega)only[go_sem]
 refine zv (i1) (h1) ⟨_,rfl⟩
theorem qZ(xs:List Int)(h0:0<xs.length)(h1:xs.length≤2^40):Con Tryz.prog 131 false [.pt 10000000 0,.rf 10000001 0 xs.length] [.own 0 [.sl l.length (qw l),.v (.int .i64 i),.v (.int .i64 h)],.own 1 (qg xs)] (baG l xs fun r=>∃x∈xs,r=.v (.int .i64 x)):=by
 refine Con.of_aw Tryz.func131 rfl Tryz.ntmps131 (by simp) (by simp) (by simp) (W.sound ?_)
 show @W Tryz.prog 12 ⟨_⟩ ⟨fun x σ=>@qV _ _ _ ⟨_⟩ _ ⟨_⟩ x σ⟩ _ _
 simp(disch:=omega)only[go_sem]
 refine qH 10000000 (zb l hl i h hi xs.length (by omega)) ?_
 rintro r i1 h1 hi1 ⟨k1,hk1,rfl⟩
 simp(disch:=omega)only[go_sem]
 obtain⟨n1,rfl⟩:=Int.eq_ofNat_of_zero_le hk1.1
 have hlt:n1<xs.length:=by have:=hk1.2 (by omega);omega
 simp(disch:=omega)only[go_sem]
 refine⟨by omega,by omega,?_⟩
 have hm:xs.getD n1 0∈xs:=by rw[List.getD_eq_getElem?_getD,List.getElem?_eq_getElem hlt];exact List.getElem_mem _
 refine qm [] [] [.own 0 [.sl l.length (qw l),.v (.int .i64 i1),.v (.int .i64 h1)],.own 1 (qg xs)] [.v (.int .i64 (xs.getD n1 0))] rfl (by simp(disch:=omega)only[go_sem]) (by simp(disch:=omega)only[go_sem]) (by simp) (by simp) ⟨rfl,⟨_,hm,rfl⟩,_,_,by omega,rfl⟩
end
end Go.Ab
namespace Go.Ab
open Go Go.Proofs
end Go.Ab
namespace Go.Ab
open Go Go.Proofs
end Go.Ab
namespace Go.Ab
open Go Go.Proofs
theorem K2(k:Int)(s:Bool)(m e:Int):Con Tryz.prog 42 true [.ag [.v (.int .i64 (k)),.v (.bool (s)),.v (.int .i64 (m)),.v (.int .i64 (e))]] [] (isA (.v (.bool (flB k s m e)))):=by
 refine Con.of_aw Tryz.func42 rfl Tryz.ntmps42 (by simp) (by simp) (by simp) (W.sound ?_)
 show @W Tryz.prog 59 ⟨_⟩ ⟨fun x σ=>@qV _ _ _ ⟨_⟩ _ ⟨_⟩ x σ⟩ _ _
 simp(disch:=omega)only[go_sem]
 refine qe (fun h0=>?_) (fun h0=>?_)
 ·subst h0
  simp(disch:=omega)only[go_sem]
  repeat' first
   |simp(disch:=omega)only[go_sem, *]
   |(with_reducible refine qe (fun _=>?_) (fun _=>?_))
   |(with_reducible refine qY (fun _=>?_) (fun _=>?_))
   |(with_reducible refine z6 (fun _=>?_) (fun _=>?_))
   |(with_reducible refine zI (fun _=>?_) (fun _=>?_))
  all_goals exact qb (by simp(disch:=omega)only[go_sem]) (by simp(disch:=omega)only[go_sem]) ⟨by simp_all[qW,flB]<;>omega,rfl,rfl⟩
 ·simp(disch:=omega)only[go_sem,h0]
  refine qe (fun h2=>?_) (fun h2=>?_)
  ·subst h2
   simp(disch:=omega)only[go_sem]
   repeat' first
    |simp(disch:=omega)only[go_sem, *]
    |(with_reducible refine qe (fun _=>?_) (fun _=>?_))
    |(with_reducible refine qY (fun _=>?_) (fun _=>?_))
    |(with_reducible refine z6 (fun _=>?_) (fun _=>?_))
    |(with_reducible refine zI (fun _=>?_) (fun _=>?_))
   all_goals exact qb (by simp(disch:=omega)only[go_sem]) (by simp(disch:=omega)only[go_sem]) ⟨by simp_all[qW,flB]<;>omega,rfl,rfl⟩
  ·simp(disch:=omega)only[go_sem,h2]
   refine qe (fun h3=>?_) (fun h3=>?_)
   ·subst h3
    simp(disch:=omega)only[go_sem]
    repeat' first
     |simp(disch:=omega)only[go_sem, *]
     |(with_reducible refine qe (fun _=>?_) (fun _=>?_))
     |(with_reducible refine qY (fun _=>?_) (fun _=>?_))
     |(with_reducible refine z6 (fun _=>?_) (fun _=>?_))
     |(with_reducible refine zI (fun _=>?_) (fun _=>?_))
    all_goals exact qb (by simp(disch:=omega)only[go_sem]) (by simp(disch:=omega)only[go_sem]) ⟨by simp_all[qW,flB]<;>omega,rfl,rfl⟩
   ·simp(disch:=omega)only[go_sem,h3]
    refine qe (fun h1=>?_) (fun h1=>?_)
    ·subst h1
     simp(disch:=omega)only[go_sem]
     repeat' first
      |simp(disch:=omega)only[go_sem, *]
      |(with_reducible refine qe (fun _=>?_) (fun _=>?_))
      |(with_reducible refine qY (fun _=>?_) (fun _=>?_))
      |(with_reducible refine z6 (fun _=>?_) (fun _=>?_))
      |(with_reducible refine zI (fun _=>?_) (fun _=>?_))
     all_goals refine qb (by simp(disch:=omega)only[go_sem]) (by simp(disch:=omega)only[go_sem]) ⟨?_,rfl,rfl⟩
     all_goals simp only[qW,flB,if_true]
     all_goals congr 2
     all_goals rw[Bool.eq_iff_iff]
     all_goals simp only[Bool.and_eq_true,Bool.or_eq_true,decide_eq_true_eq,Bool.false_eq_true,Bool.true_eq_false,false_iff,true_iff,not_and,not_or]
     all_goals omega
    ·simp(disch:=omega)only[go_sem,h1]
     refine qb (by simp(disch:=omega)only[go_sem]) (by simp(disch:=omega)only[go_sem]) ⟨?_,rfl,rfl⟩
     simp[qW,flB,h0,h1,h2,h3]
theorem aBX(k1:Int)(s1:Bool)(m1 e1 k2:Int)(s2:Bool)(m2 e2 mode:Int):
  Con Tryz.prog 190 true [.ag [.v (.int .i64 (k1)),.v (.bool (s1)),.v (.int .i64 (m1)),.v (.int .i64 (e1))],.ag [.v (.int .i64 (k2)),.v (.bool (s2)),.v (.int .i64 (m2)),.v (.int .i64 (e2))],.v (.int .i64 mode)] [] (isA (.v (.bool (jA mode&&(flB k1 s1 m1 e1&&flB k2 s2 m2 e2))))):=by
 refine Con.of_aw Tryz.func190 rfl Tryz.ntmps190 (by simp) (by simp) (by simp) (W.sound ?_)
 show @W Tryz.prog 17 ⟨_⟩ ⟨fun x σ=>@qV _ _ _ ⟨_⟩ _ ⟨_⟩ x σ⟩ _ _
 simp(disch:=omega)only[go_sem]
 refine qc (K2 k1 s1 m1 e1) ?_
 simp(disch:=omega)only[go_sem]
 refine zI (fun h1=>?_) (fun h1=>?_)
 ·simp(disch:=omega)only[go_sem,h1]
  refine qc (K2 k2 s2 m2 e2) ?_
  simp(disch:=omega)only[go_sem]
  refine zI (fun h2=>?_) (fun h2=>?_)
  ·simp(disch:=omega)only[go_sem,h2]
   refine qc (aiT mode) ?_
   simp(disch:=omega)only[go_sem]
   refine qb (by simp(disch:=omega)only[go_sem]) (by simp(disch:=omega)only[go_sem]) ⟨?_,rfl,rfl⟩
   simp[qW,h1,h2,jA]
  ·simp(disch:=omega)only[go_sem,h2]
   refine qb (by simp(disch:=omega)only[go_sem]) (by simp(disch:=omega)only[go_sem]) ⟨?_,rfl,rfl⟩
   simp[qW,h1,h2]
 ·simp(disch:=omega)only[go_sem,h1]
  refine qb (by simp(disch:=omega)only[go_sem]) (by simp(disch:=omega)only[go_sem]) ⟨?_,rfl,rfl⟩
  simp[qW,h1]
def zi(k m:Int):Nat:=if k=1 then oM m.toNat else 0
def yj(k m e:Int):Int:=if k=1 then oE m.toNat e else 0
def QT(k:Int)(s:Bool)(m:Int):Bool:=if k=1 then oS (s&&decide (m.toNat≠0)) m.toNat else false
theorem jG(k:Int)(s:Bool)(m e:Int)(h:flB k s m e=true):Con Tryz.prog 127 false [.ag [.v (.int .i64 (k)),.v (.bool (s)),.v (.int .i64 (m)),.v (.int .i64 (e))]] [] (isA (.ag [.v (.bool (QT k s m)),.sl (lim (zi k m)).length (qg (lim (zi k m))),.v (.int .i64 (yj k m e))])):=by
 refine Con.frzA ?_
 obtain⟨a1,a2,a3,a4⟩:=zS h
 obtain⟨n,rfl⟩:=Int.eq_ofNat_of_zero_le a1.1
 have hb:bl n≤53:=zl.2 (by omega)
 have hl:=qt hb
 refine Con.of_w (rs:=[.cell 2 29]) Tryz.func127 rfl Tryz.ntmps127 rfl ?_
 simp(disch:=omega)only[go_sem]
 refine qY (fun h1=>?_) (fun h1=>?_)
 ·simp(disch:=omega)only[go_sem,h1]
  unfold QT zi yj
  rw[if_neg h1,if_neg h1,if_neg h1,ql]
  exact qk
 ·simp(disch:=omega)only[go_sem,h1]
  refine qn rfl [⟨0,[],[]⟩,⟨1,[],[]⟩,⟨2,[1],[]⟩,⟨3,[1],[]⟩,⟨6,[1,3],[]⟩,⟨7,[1,3],[]⟩,⟨4,[1,7],[]⟩,⟨5,[7],[]⟩,⟨8,[],[]⟩,⟨9,[],[]⟩] (by kernel_rfl) ?_
  simp(disch:=omega)only[go_sem]
  refine qa (yy n (by omega)) ?_
  simp(disch:=omega)only[go_sem]
  refine qa (zg s n (by omega)) ?_
  simp(disch:=omega)only[go_sem]
  refine qa (zU (s&&decide (n≠0)) n e (by omega) (by omega)) ?_
  simp(disch:=omega)only[go_sem]
  unfold QT zi yj
  rw[if_pos h1,if_pos h1,if_pos h1,Int.toNat_natCast]
  exact qk
end Go.Ab
namespace Go.Ab
open Go Go.Proofs
def bcF:AV→List Ob→List Ob→Prop:=fun r hs bs=>hs=[]∧bs=[]∧∃x:FlV,r=.ag x.cs
section
variable (l:List UInt8)(hl:l.length≤9223372036854775807)(i h:Int)(hi:0≤i∧i≤l.length)
include hl hi
theorem zD:Con Tryz.prog 62 false [.pt 10000000 0] [.own 0 [.sl l.length (qw l),.v (.int .i64 i),.v (.int .i64 h)]] (aD5 l fun r=>∃k:Int,r=.v (.int .i64 k)):=by
 refine Con.of_aw Tryz.func62 rfl Tryz.ntmps62 (by simp) (by simp) (by simp) (W.sound ?_)
 show @W Tryz.prog 10 ⟨_⟩ ⟨fun x σ=>@qV _ _ _ ⟨_⟩ _ ⟨_⟩ x σ⟩ _ _
 simp(disch:=omega)only[go_sem]
 refine qH 10000000 (zV l hl i h hi 15 (by omega)) ?_
 rintro r i1 h1 hi1 ⟨b,rfl⟩
 simp(disch:=omega)only[go_sem]
 cases b
 ·simp(disch:=omega)only[go_sem]
  refine qH 10000000 (zb l hl i1 h1 hi1 5 (by omega)) ?_
  rintro r i2 h2 hi2 ⟨k1,hk1,rfl⟩
  simp(disch:=omega)only[go_sem]
  refine zv (i2) (h2) ⟨_,rfl⟩
 ·simp(disch:=omega)only[go_sem]
  refine zO 10000000 80000000 2 (qZ l hl i1 h1 hi1 [-1,5] (by simp) (by simp)) ?_
  rintro r i2 h2 hi2 ⟨k1,hk1,rfl⟩
  clear hk1
  simp(disch:=omega)only[go_sem]
  refine zv (i2) (h2) ⟨_,rfl⟩
end
end Go.Ab
namespace Go.Ab
open Go Go.Proofs
section
variable (l:List UInt8)(hl:l.length≤9223372036854775807)(i h:Int)(hi:0≤i∧i≤l.length)
include hl hi
set_option maxRecDepth 100000 in
theorem aiR:Con Tryz.prog 128 false [.pt 10000000 0] [.own 0 [.sl l.length (qw l),.v (.int .i64 i),.v (.int .i64 h)]] (aD5 l fun r=>∃x:FlV,r=.ag x.cs):=by
 refine Con.of_aw Tryz.func128 rfl Tryz.ntmps128 (by simp) (by simp) (by simp) (W.sound ?_)
 show @W Tryz.prog 75 ⟨_⟩ ⟨fun x σ=>@qV _ _ _ ⟨_⟩ _ ⟨_⟩ x σ⟩ _ _
 simp(disch:=omega)only[go_sem]
 refine qH 10000000 (zV l hl i h hi 2 (by omega)) ?_
 rintro r i1 h1 hi1 ⟨b,rfl⟩
 simp(disch:=omega)only[go_sem]
 refine qH 10000000 (zb l hl i1 h1 hi1 9 (by omega)) ?_
 rintro r i2 h2 hi2 ⟨k,hk,rfl⟩
 simp(disch:=omega)only[go_sem]
 by_cases c0:k=0
 ·simp(disch:=omega)only[go_sem,c0]
  refine zO 10000000 160000000 2 (qZ l hl i2 h2 hi2 [0,2] (by simp) (by simp)) ?_
  rintro r i3 h3 hi3 ⟨x,hx,rfl⟩
  clear hx
  simp(disch:=omega)only[go_sem]
  refine zv (i3) (h3) ⟨⟨_,_,_,_⟩,rfl⟩
 by_cases c1:k=1
 ·simp(disch:=omega)only[go_sem,c0,c1]
  refine qc (ja) ?_
  simp(disch:=omega)only[go_sem]
  refine zv (i2) (h2) ⟨⟨_,_,_,_⟩,rfl⟩
 by_cases c2:k=2
 ·simp(disch:=omega)only[go_sem,c0,c1,c2]
  refine zO 10000000 270000000 6 (qZ l hl i2 h2 hi2 [1,2,4503599627370495,4503599627370496,4503599627370497,12345] (by simp) (by simp)) ?_
  rintro r i3 h3 hi3 ⟨x,hx,rfl⟩
  clear hx
  simp(disch:=omega)only[go_sem]
  refine zv (i3) (h3) ⟨⟨_,_,_,_⟩,rfl⟩
 by_cases c3:k=3
 ·simp(disch:=omega)only[go_sem,c0,c1,c2,c3]
  refine zO 10000000 340000000 3 (qZ l hl i2 h2 hi2 [4503599627370496,9007199254740991,9007199254740990] (by simp) (by simp)) ?_
  rintro r i3 h3 hi3 ⟨x,hx,rfl⟩
  clear hx
  simp(disch:=omega)only[go_sem]
  refine zO 10000000 370000000 5 (qZ l hl i3 h3 hi3 [971,970,0, -52, -1000] (by simp) (by simp)) ?_
  rintro r i4 h4 hi4 ⟨y,hy,rfl⟩
  clear hy
  simp(disch:=omega)only[go_sem]
  refine zv (i4) (h4) ⟨⟨_,_,_,_⟩,rfl⟩
 by_cases c4:k=4
 ·simp(disch:=omega)only[go_sem,c0,c1,c2,c3,c4]
  refine qH 10000000 (zb l hl i2 h2 hi2 40 (by omega)) ?_
  rintro r i3 h3 hi3 ⟨x,hx,rfl⟩
  simp(disch:=omega)only[go_sem]
  have hx2:=hx.2 (by omega)
  refine qa (aeo (x-20) (by omega)) ?_
  simp(disch:=omega)only[go_sem]
  refine qH 10000000 (zb l hl i3 h3 hi3 5 (by omega)) ?_
  rintro r i4 h4 hi4 ⟨y,hy,rfl⟩
  simp(disch:=omega)only[go_sem]
  have hy2:=hy.2 (by omega)
  have hb:bl (x-20).natAbs≤6:=zl.2 (by omega)
  refine qa (zU (decide (x-20<0)) (x-20).natAbs (y-2) (by omega) (by omega)) ?_
  simp(disch:=omega)only[go_sem]
  have q4:=qQ (jK (x-20).natAbs)
  have q5:=Qg (m:=(x-20).natAbs) (e:=y-2) (lo:= -2) (hi:=3) (Nat.le_refl _) (by omega) (by omega) (by omega)
  refine qc (jx (oS (decide (x-20<0)) (x-20).natAbs) (oM (x-20).natAbs) (oE (x-20).natAbs (y-2)) 0 false (JK _) (aLR _ _) (by omega) (by omega) (by omega)) ?_
  simp(disch:=omega)only[go_sem]
  generalize flV (oS (decide (x-20<0)) (x-20).natAbs) (oM (x-20).natAbs) (oE (x-20).natAbs (y-2)) 0 false=V
  refine zv (i4) (h4) ⟨V,rfl⟩
 simp(disch:=omega)only[go_sem,c0,c1,c2,c3,c4]
 refine qH 10000000 (zb l hl i2 h2 hi2 1073741824 (by omega)) ?_
 rintro r i3 h3 hi3 ⟨x,hx,rfl⟩
 simp(disch:=omega)only[go_sem]
 have hx2:=hx.2 (by omega)
 refine qH 10000000 (zb l hl i3 h3 hi3 999 (by omega)) ?_
 rintro r i4 h4 hi4 ⟨y,hy,rfl⟩
 simp(disch:=omega)only[go_sem]
 have hy2:=hy.2 (by omega)
 refine qH 10000000 (zV l hl i4 h4 hi4 3 (by omega)) ?_
 rintro r i5 h5 hi5 ⟨b2,rfl⟩
 simp(disch:=omega)only[go_sem]
 cases b2
 ·simp(disch:=omega)only[go_sem]
  refine qH 10000000 (zb l hl i5 h5 hi5 40 (by omega)) ?_
  rintro r i6 h6 hi6 ⟨z,hz,rfl⟩
  simp(disch:=omega)only[go_sem]
  have hz2:=hz.2 (by omega)
  refine zO 10000000 740000000 12 (qZ l hl i6 h6 hi6 [-52, -50, -55, -53, -60,0,10, -600,500, -1000,900,z-70] (by simp) (by simp)) ?_
  rintro r i7 h7 hi7 ⟨u,hu,rfl⟩
  clear hu
  simp(disch:=omega)only[go_sem]
  refine zv (i7) (h7) ⟨⟨_,_,_,_⟩,rfl⟩
 ·simp(disch:=omega)only[go_sem]
  refine zO 10000000 650000000 4 (qZ l hl i5 h5 hi5 [1,3,2251799813685248,1073741824] (by simp) (by simp)) ?_
  rintro r i8 h8 hi8 ⟨v,hv,rfl⟩
  have hv_b:0≤v∧v≤2251799813685248:=by
   simp only[List.mem_cons,List.not_mem_nil,or_false]at hv
   omega
  clear hv
  simp(disch:=omega)only[go_sem]
  refine qH 10000000 (zb l hl i8 h8 hi8 40 (by omega)) ?_
  rintro r i6 h6 hi6 ⟨z,hz,rfl⟩
  simp(disch:=omega)only[go_sem]
  have hz2:=hz.2 (by omega)
  refine zO 10000000 740000000 12 (qZ l hl i6 h6 hi6 [-52, -50, -55, -53, -60,0,10, -600,500, -1000,900,z-70] (by simp) (by simp)) ?_
  rintro r i7 h7 hi7 ⟨u,hu,rfl⟩
  clear hu
  simp(disch:=omega)only[go_sem]
  refine zv (i7) (h7) ⟨⟨_,_,_,_⟩,rfl⟩
theorem aiS:Con Tryz.prog 115 false [.pt 10000000 0] [.own 0 [.sl l.length (qw l),.v (.int .i64 i),.v (.int .i64 h)]] (aD5 l fun r=>∃x:FlV,r=.ag x.cs):=by
 refine Con.of_aw Tryz.func115 rfl Tryz.ntmps115 (by simp) (by simp) (by simp) (W.sound ?_)
 show @W Tryz.prog 33 ⟨_⟩ ⟨fun x σ=>@qV _ _ _ ⟨_⟩ _ ⟨_⟩ x σ⟩ _ _
 simp(disch:=omega)only[go_sem]
 refine qH 10000000 (aiR l hl i h hi) ?_
 rintro r i1 h1 hi1 ⟨V,rfl⟩
 simp(disch:=omega)only[go_sem]
 unfold FlV.cs
 simp(disch:=omega)only[go_sem]
 refine qH 10000000 (zV l hl i1 h1 hi1 12 (by omega)) ?_
 rintro r i2 h2 hi2 ⟨b,rfl⟩
 simp(disch:=omega)only[go_sem]
 cases b
 ·simp(disch:=omega)only[go_sem]
  refine zv (i2) (h2) ⟨V,rfl⟩
 ·simp(disch:=omega)only[go_sem]
  refine qH 10000000 (zb l hl i2 h2 hi2 4 (by omega)) ?_
  rintro r i3 h3 hi3 ⟨k,hk,rfl⟩
  simp(disch:=omega)only[go_sem]
  by_cases c0:k=0
  ·simp(disch:=omega)only[go_sem,c0]
   refine qH 10000000 (zb l hl i3 h3 hi3 6 (by omega)) ?_
   rintro r i4 h4 hi4 ⟨x,hx,rfl⟩
   simp(disch:=omega)only[go_sem]
   have hx2:=hx.2 (by omega)
   refine zv (i4) (h4) ⟨⟨x-1,V.s,V.m,V.e⟩,rfl⟩
  by_cases c1:k=1
  ·simp(disch:=omega)only[go_sem,c0,c1]
   refine zO 10000000 250000000 4 (qZ l hl i3 h3 hi3 [0, -1,1,9007199254740992] (by simp) (by simp)) ?_
   rintro r i4 h4 hi4 ⟨x,hx,rfl⟩
   clear hx
   simp(disch:=omega)only[go_sem]
   refine zv (i4) (h4) ⟨⟨V.k,V.s,x,V.e⟩,rfl⟩
  by_cases c2:k=2
  ·simp(disch:=omega)only[go_sem,c0,c1,c2]
   refine zO 10000000 310000000 3 (qZ l hl i3 h3 hi3 [-1075,972,0] (by simp) (by simp)) ?_
   rintro r i4 h4 hi4 ⟨x,hx,rfl⟩
   clear hx
   simp(disch:=omega)only[go_sem]
   refine zv (i4) (h4) ⟨⟨V.k,V.s,V.m,x⟩,rfl⟩
  ·simp(disch:=omega)only[go_sem,c0,c1,c2]
   refine zv (i3) (h3) ⟨⟨V.k,!V.s,V.m,V.e⟩,rfl⟩
end
end Go.Ab
namespace Go.Ab
open Go
theorem aoz{k:Int}{s:Bool}{m e:Int}(h:flB k s m e=true):bl (zi k m)≤53∧(-1074≤yj k m e∧yj k m e≤971+53):=by
 obtain⟨a1,a2,a3,a4⟩:=zS h
 have hb:bl m.toNat≤53:=zl.2 (by omega)
 unfold zi yj
 by_cases h1:k=1
 ·rw[if_pos h1,if_pos h1]
  exact⟨Nat.le_trans (qQ (jK _)) hb,Qg hb (by omega) (by omega) a2⟩
 ·rw[if_neg h1,if_neg h1,yA];omega
end Go.Ab
namespace Go.Ab
open Go Go.Proofs
end Go.Ab
namespace Go.Ab
open Go Go.Proofs
end Go.Ab
namespace Go.Ab
open Go Go.Proofs
end Go.Ab
namespace Go.Ab
open Go Go.Proofs
end Go.Ab
namespace Go.Ab
open Go Go.Proofs
section
variable (l:List UInt8)(hl:l.length≤9223372036854775807)(i h:Int)(hi:0≤i∧i≤l.length)
include hl hi
end
theorem apI(l:List UInt8)(hl:l.length≤9223372036854775807):Con Tryz.prog 56 false [.sl l.length (qw l)] [] (fun r hs bs=>r=.pt 0 0∧bs=[]∧∃h:Int,hs=[.own 0 [.sl l.length (qw l),.v (.int .i64 0),.v (.int .i64 h)]]):=by
 refine Con.of_aw Tryz.func56 rfl Tryz.ntmps56 (by simp) (by simp) (by simp) (W.sound ?_)
 show @W Tryz.prog 32 ⟨_⟩ ⟨fun x σ=>@qV _ _ _ ⟨_⟩ _ ⟨_⟩ x σ⟩ _ _
 simp(disch:=omega)only[go_sem]
 refine qj (fun x:Nat×Int=>[(0,.sl l.length (qw l)),(3,.v (.int .i64 x.2)),(4,.v (.int .i64 x.1))]) (fun _=>[]) (fun x=>x.1≤l.length) (fun x=>l.length-x.1) (0,IntKind.i64.wrap (38282+l.length)) (by simp)
  (Le.lst [] _ _ rfl (by simp(disch:=omega)only[go_sem]) (by simp(disch:=omega)only[go_sem])) ?_
 rintro⟨i,h⟩ hi
 dsimp only at hi ⊢
 have hfin:∀l':List AV,l'=[.pt 0 0]→(fun r hs bs=>r=.pt 0 0∧bs=[]∧∃h:Int,hs=[.own 0 [.sl l.length (qw l),.v (.int .i64 0),.v (.int .i64 h)]]:AV→List Ob→List Ob→Prop) (qW l') [.own 0 [.sl l.length (qw l),.v (.int .i64 0),.v (.int .i64 h)]] []:=fun l' e=>by subst e;exact⟨rfl,rfl,h,rfl⟩
 by_cases h1:(i:Int)<l.length
 ·by_cases h2:(i:Int)<4000
  ·simp(disch:=omega)only[go_sem,h1,h2]
   generalize IntKind.i64.wrap (IntKind.i64.wrap (IntKind.i64.wrap (h*131)+IntKind.i64.wrap ((l.getD i 0).toNat:Int))+7) % 1073741824=h'
   exact⟨⟨by omega,by omega⟩,by omega,qh (i+1,h') [] (by show i+1≤_;omega) (by show l.length-(i+1)<l.length-i;omega) rfl (by simp(disch:=omega)only[go_sem];try omega) (by simp(disch:=omega)only[go_sem])⟩
  ·simp(disch:=omega)only[go_sem,h1,h2]
   refine qm [(0,330000000)] [.own 0 [.sl l.length (qw l),.v (.int .i64 0),.v (.int .i64 h)]] [] [.pt 0 0] rfl (by simp(disch:=omega)only[go_sem]) (by simp(disch:=omega)only[go_sem]) (by simp) (by simp) (hfin _ rfl)
 ·simp(disch:=omega)only[go_sem,h1]
  refine qm [(0,330000000)] [.own 0 [.sl l.length (qw l),.v (.int .i64 0),.v (.int .i64 h)]] [] [.pt 0 0] rfl (by simp(disch:=omega)only[go_sem]) (by simp(disch:=omega)only[go_sem]) (by simp) (by simp) (hfin _ rfl)
end Go.Ab
namespace Go.Ab
open Go Go.Proofs
theorem fle_run(w:World)(k m e k' m' e':Int)(s s':Bool):(Op.equal 63 (.agg #[.int .i64 k,.bool s,.int .i64 m,.int .i64 e]) (.agg #[.int .i64 k',.bool s',.int .i64 m',.int .i64 e'])).run Tryz.prog w=.ok (aqJ k s m e k' s' m' e') w:=by
 have hf:Tryz.prog.fieldsOf 63= #[{name:= "Kind",type:=3,offset:=0,embedded:=false,tag:= "",pkgPath:= "",byteOffset:=0},{name:= "Neg",type:=4,offset:=1,embedded:=false,tag:= "",pkgPath:= "",byteOffset:=8},{name:= "M",type:=3,offset:=2,embedded:=false,tag:= "",pkgPath:= "",byteOffset:=16},{name:= "E",type:=3,offset:=3,embedded:=false,tag:= "",pkgPath:= "",byteOffset:=24}]:=by unfold Program.fieldsOf;rw[Tryz.underlying63]
 have h0:Tryz.prog.underlying 63=some (.struct (Tryz.prog.fieldsOf 63)):=by unfold Program.fieldsOf;rw[Tryz.underlying63]
 have hp:Tryz.prog.stoodInHeld 63=false:=by kernel_rfl
 have i3:∀a b:Int,(Op.equalIn 9999 3 (.int .i64 a) (.int .i64 b)).run Tryz.prog w=.ok (a==b) w:=fun a b=>run_equalIn_int w 9998 _ .i64 .i64 a b Tryz.underlying3
 have i4:∀a b:Bool,(Op.equalIn 9999 4 (.bool a) (.bool b)).run Tryz.prog w=.ok (a==b) w:=fun a b=>run_equalIn_bool' w 9998 _ a b Tryz.underlying4
 have p3:∀(xs:Array Value) (o:Nat) (v:Value),xs[o]? =some v→(part 3 xs o).run Tryz.prog w=.ok v w:=fun xs o v h=>by
  unfold part
  simp only[Sem.run_bind,Qd tf3,Result.andThen,h,akw,Bool.false_eq_true,if_false,Sem.run_pure]
 have p4:∀(xs:Array Value) (o:Nat) (v:Value),xs[o]? =some v→(part 4 xs o).run Tryz.prog w=.ok v w:=fun xs o v h=>by
  unfold part
  simp only[Sem.run_bind,Qd tf4,Result.andThen,h,akj,Bool.false_eq_true,if_false,Sem.run_pure]
 have q0:∀a b c d:Value,(part 3 #[a,b,c,d] 0).run Tryz.prog w=.ok a w:=fun a b c d=>p3 _ 0 a rfl
 have q1:∀a b c d:Value,(part 4 #[a,b,c,d] 1).run Tryz.prog w=.ok b w:=fun a b c d=>p4 _ 1 b rfl
 have q2:∀a b c d:Value,(part 3 #[a,b,c,d] 2).run Tryz.prog w=.ok c w:=fun a b c d=>p3 _ 2 c rfl
 have q3:∀a b c d:Value,(part 3 #[a,b,c,d] 3).run Tryz.prog w=.ok d w:=fun a b c d=>p3 _ 3 d rfl
 show(Op.equalIn (9999+1) _ _ _).run _ _=_
 rw[run_equalIn_struct w 9999 _ _ _ h0 hp,hf]
 have n1:("Kind" ≠ "_")=True:=by simp
 have n2:("Neg" ≠ "_")=True:=by simp
 have n3:("M" ≠ "_")=True:=by simp
 have n4:("E" ≠ "_")=True:=by simp
 simp only[Op.eqFields,n1,n2,n3,n4,if_true,Sem.run_bind,q0,Result.andThen,i3]
 unfold aqJ
 have q:∀a b:Int,(a==b)=decide (a=b):=fun a b=>by rfl
 rw[q]
 cases decide (k=k')
 ·simp only[Bool.not_false,if_true,Sem.run_pure,Bool.false_and]
 simp only[Bool.not_true,Bool.false_eq_true,if_false,Sem.run_bind,q1,Result.andThen,i4]
 cases(s==s')
 ·simp only[Bool.not_false,if_true,Sem.run_pure,Bool.false_and,Bool.and_false]
 simp only[Bool.not_true,Bool.false_eq_true,if_false,Sem.run_bind,q2,Result.andThen,i3]
 rw[q]
 cases decide (m=m')
 ·simp only[Bool.not_false,if_true,Sem.run_pure,Bool.false_and,Bool.and_false]
 simp only[Bool.not_true,Bool.false_eq_true,if_false,Sem.run_bind,q3,Result.andThen,i3]
 rw[q]
 cases decide (e=e')<;>rfl
instance:FlE Tryz.prog 63:=⟨fle_run,by kernel_rfl⟩
end Go.Ab
namespace Go.Ab
open Go Go.Proofs
def dvF(V U:FlV)(m:Int):FlV:=if(jA m&&(flB V.k V.s V.m V.e&&flB U.k U.s U.m U.e))=true then dvV V.k V.s V.m V.e U.k U.s U.m U.e m else⟨3,false,0,0⟩
def bdj(V U:FlV)(m:Int):Int:=if(jA m&&(flB V.k V.s V.m V.e&&flB U.k U.s U.m U.e))=true then dvG V.k V.s V.m V.e U.k U.s U.m U.e m else 16
theorem QA(k:Int)(s:Bool)(m e:Int):aqJ k s m e k s m e=true:=by unfold aqJ;simp
def flX(F:FlV):ExV:=if isN F=true then flD F else ex0
end Go.Ab
namespace Go.Ab
def rtB(a:Nat):Nat→Nat
 |0=>0
 |n+1=>if(n+1)*(n+1)≤a then n+1 else rtB a n
def rt(a:Nat):Nat:=rtB a a
theorem ad3(a:Nat):∀n,a<(n+1)*(n+1)→rtB a n*rtB a n≤a∧a<(rtB a n+1)*(rtB a n+1)
 |0,h=>⟨by simp[rtB],by simpa [rtB]using h⟩
 |n+1,h=>by
  unfold rtB
  by_cases c:(n+1)*(n+1)≤a
  ·rw[if_pos c];exact⟨c,h⟩
  ·rw[if_neg c];exact ad3 a n (by omega)
theorem J7(a:Nat):rt a*rt a≤a∧a<(rt a+1)*(rt a+1):=ad3 a a (by
 have:(a+1)*(a+1)=a*a+2*a+1:=by grind
 omega)
theorem aH2{a b:Nat}(h:a*a<b*b):a<b:=by
 rcases Nat.lt_or_ge a b with h'|h'
 ·exact h'
 ·exact absurd h (Nat.not_lt.2 (Nat.mul_le_mul h' h'))
theorem anU{a r:Nat}(h1:r*r≤a)(h2:a<(r+1)*(r+1)):rt a=r:=by
 obtain⟨g1,g2⟩:=J7 a
 have k1:=aH2 (Nat.lt_of_le_of_lt h1 g2)
 have k2:=aH2 (Nat.lt_of_le_of_lt g1 h2)
 omega
theorem ac5{a x:Nat}(hx:0<x):a<((x+a/x)/2+1)*((x+a/x)/2+1):=by
 obtain⟨q,hq⟩:∃q,q=a/x:=⟨_,rfl⟩
 rw[←hq]
 have h1:a<x*(q+1):=by
  have:=Nat.lt_mul_div_succ a hx
  rw[hq];exact this
 obtain⟨y,hy⟩:∃y,y=(x+q)/2+1:=⟨_,rfl⟩
 rw[←hy]
 have h2:x+(q+1)≤2*y:=by omega
 have h3:(x+(q+1))*(x+(q+1))≤2*y*(2*y):=Nat.mul_le_mul h2 h2
 have h4:4*(x*(q+1))≤(x+(q+1))*(x+(q+1)):=by
  generalize q+1=p
  have e:(x+p)*(x+p)=x*x+p*p+2*(x*p):=by grind
  rw[e]
  rcases Nat.le_total x p with h|h
  ·obtain⟨d,rfl⟩:=Nat.le.dest h
   have:x*(x+d)=x*x+x*d:=by grind
   have:(x+d)*(x+d)=x*x+2*(x*d)+d*d:=by grind
   omega
  ·obtain⟨d,rfl⟩:=Nat.le.dest h
   have:(p+d)*p=p*p+d*p:=by grind
   have:(p+d)*(p+d)=p*p+2*(d*p)+d*d:=by grind
   omega
 have h5:2*y*(2*y)=4*(y*y):=by grind
 omega
theorem air{a x:Nat}(hx:0<x)(h:x≤(x+a/x)/2):x*x≤a:=by
 have h1:x≤a/x:=by omega
 exact(Nat.le_div_iff_mul_le hx).1 h1
end Go.Ab
namespace Go.Ab
open Go Go.Proofs
theorem baq(a:Nat):bl (rt a)≤bl a:=qQ (by
 have:=(J7 a).1
 by_cases h:rt a=0
 ·omega
 ·exact Nat.le_trans (Nat.le_mul_of_pos_left _ (Nat.pos_of_ne_zero h)) this)
theorem aLa{x y B:Nat}(h1:bl x≤B)(h2:bl y≤B):bl (x+y)≤B+1:=by
 have q1:=zl.1 h1
 have q2:=zl.1 h2
 refine zl.2 ?_
 rw[Nat.pow_succ]
 omega
theorem aiL(a:Nat)(la:bl a≤4000000):Con Tryz.prog 215 false [.sl (lim (a)).length (qg (lim (a)))] [] (aDM (lim (rt a))):=by
 have ll:=qt la
 refine Con.frzA (a:=.sl (lim (rt a)).length (qg (lim (rt a)))) ?_
 refine Con.of_aw Tryz.func215 rfl Tryz.ntmps215 (by simp) (by simp) (by simp) (W.sound ?_)
 show @W Tryz.prog 32 ⟨_⟩ ⟨fun x σ=>@qV _ _ _ ⟨_⟩ _ ⟨_⟩ x σ⟩ _ _
 simp(disch:=omega)only[go_sem]
 refine qe (fun h1=>?_) (fun h1=>?_)
 ·simp(disch:=omega)only[go_sem,h1]
  have h0:a=0:=qD.1 (List.length_eq_zero_iff.1 (by omega))
  have hr:rt a=0:=by subst h0;exact anU (by omega) (by omega)
  refine qF (by simp(disch:=omega)only[go_sem]) ?_
  show qM _ 6 _=_
  rw[hr,ql]
  simp(disch:=omega)only[go_sem]
 ·have h0:a≠0:=fun e=>h1 (by rw[e,ql];rfl)
  have ek:((bl a:Int)+1)/2=(((bl a+1)/2:Nat):Int):=by omega
  simp(disch:=omega)only[go_sem,h1]
  refine qa (q8 1 (by omega)) ?_
  simp(disch:=omega)only[go_sem]
  refine qc (JU a (by omega)) ?_
  simp(disch:=omega)only[go_sem]
  have l1:(lim 1).length≤1000000:=by have:=qt (m:=1) (B:=1) (by decide);omega
  refine qa (zf 1 ((bl a+1)/2) l1 (by omega)) ?_ (by simp(disch:=omega)only[go_sem,ek])
  simp(disch:=omega)only[go_sem]
  have hb:=jQ a
  have hk:a<2^((bl a+1)/2)*2^((bl a+1)/2):=by
   rw[←Nat.pow_add]
   exact Nat.lt_of_lt_of_le hb (Nat.pow_le_pow_right (by omega) (by omega))
  have hp:=Nat.pow_pos (n:=(bl a+1)/2) (show 0<2 by omega)
  have hx0:bl (1*2^((bl a+1)/2))≤2000010:=by
   have:=zn (n:=1) (k:=(bl a+1)/2) (by omega)
   have h1:bl 1=1:=by decide
   omega
  have hx1:0<1*2^((bl a+1)/2):=by omega
  have hx2:a<(1*2^((bl a+1)/2)+1)*(1*2^((bl a+1)/2)+1):=by
   refine Nat.lt_of_lt_of_le hk (Nat.mul_le_mul ?_ ?_)<;>omega
  generalize 1*2^((bl a+1)/2)=x0 at*
  refine qj (fun x:Nat=>[(0,.sl (lim (a)).length (qg (lim (a)))),(3,.sl (lim (x)).length (qg (lim (x))))]) (fun _=>[]) (fun x=>0<x∧a<(x+1)*(x+1)∧bl x≤2000010) (fun x=>x) x0 ⟨hx1,hx2,hx0⟩ (Le.lst [] _ _ rfl (by simp(disch:=omega)only[go_sem]) (by simp(disch:=omega)only[go_sem])) ?_
  rintro x ⟨i1,i2,i3⟩
  have lx:=qt i3
  simp(disch:=omega)only[go_sem]
  refine qa (Z6 a x (by omega) (by omega) (by omega)) ?_
  simp(disch:=omega)only[go_sem]
  have bq:bl (a/x)≤4000000:=Nat.le_trans (jH a x) la
  have lq:=qt bq
  refine qa (yv x (a/x) (by omega) (by omega)) ?_
  simp(disch:=omega)only[go_sem]
  have bs:bl (x+a/x)≤4000001:=aLa (Nat.le_trans i3 (by omega)) bq
  have ls:=qt bs
  refine qa (Z5 (x+a/x) 1 (by omega) (by omega)) ?_
  simp(disch:=omega)only[go_sem]
  have hy:(x+a/x)/2^1=(x+a/x)/2:=rfl
  rw[hy]
  have n1:=ac5 (a:=a) i1
  have n2:=air (a:=a) i1
  have ny:0<(x+a/x)/2:=by
   have:2≤x+a/x:=by
    by_cases hx:x=1
    ·subst hx;rw[Nat.div_one];omega
    ·exact Nat.le_trans (by omega) (Nat.le_add_right x _)
   omega
  have by2:bl ((x+a/x)/2)≤4000001:=Nat.le_trans (jH _ _) bs
  have ly:=qt by2
  generalize hyy:(x+a/x)/2=y at*
  refine qc (zB y x (by omega) (by omega)) ?_
  simp(disch:=omega)only[go_sem]
  have hc:=(Ja (a:=(y:Int)) (b:=(x:Int))).2.2
  refine qe (fun h2=>?_) (fun h2=>?_)
  ·simp(disch:=omega)only[go_sem,h2]
   have e:rt a=x:=anU (n2 (by have:=hc.1 h2;omega)) i2
   refine qF (by simp(disch:=omega)only[go_sem]) ?_
   show qM _ 6 _=_
   rw[e]
   simp(disch:=omega)only[go_sem]
  ·simp(disch:=omega)only[go_sem,h2]
   have hlt:y<x:=by
    have:=fun h=>h2 (hc.2 h)
    omega
   exact qh y [] ⟨ny,n1,Nat.le_trans (qQ (Nat.le_of_lt hlt)) i3⟩ hlt rfl (by simp(disch:=omega)only[go_sem]) (by simp(disch:=omega)only[go_sem])
end Go.Ab
namespace Go.Ab
open Go Go.Proofs
/-! ### A root,rounded-/
def stR(A S:Nat):Nat:=rt (A/S)*4+(if rt (A/S)*rt (A/S)*S=A then 0 else if A*4<(2*rt (A/S)+1)*(2*rt (A/S)+1)*S then 1 else if A*4=(2*rt (A/S)+1)*(2*rt (A/S)+1)*S then 2 else 3)
theorem Zr(A S:Nat):stR A S/4=rt (A/S)∧(stR A S % 4=0↔rt (A/S)*rt (A/S)*S=A)∧
  (rt (A/S)*rt (A/S)*S≠A→zw ((stR A S % 4*2:Nat):Int) ((4:Nat):Int)=zw ((A*4:Nat):Int) (((2*rt (A/S)+1)*(2*rt (A/S)+1)*S:Nat):Int)):=by
 unfold stR
 generalize rt (A/S)=r
 generalize (2*r+1)*(2*r+1)*S=h
 refine⟨?_,?_,fun hn=>?_⟩
 ·split
  ·omega
  ·split
   ·omega
   ·split<;>omega
 ·constructor
  ·intro h0
   split at h0
   ·assumption
   ·split at h0
    ·omega
    ·split at h0<;>omega
  ·intro h0;rw[if_pos h0];omega
 ·rw[if_neg hn]
  by_cases c1:A*4<h
  ·rw[if_pos c1,show(r*4+1) % 4*2=2 by omega]
   unfold zw;rw[if_pos (by decide),if_pos (by omega)]
  ·rw[if_neg c1]
   by_cases c2:A*4=h
   ·rw[if_pos c2,show(r*4+2) % 4*2=4 by omega,c2]
    unfold zw
    rw[if_neg (by omega),if_neg (by omega),if_neg (by omega),if_neg (by omega)]
   ·rw[if_neg c2,show(r*4+3) % 4*2=6 by omega]
    unfold zw
    simp only[show ¬(((6:Nat):Int)<((4:Nat):Int)) by decide,show ¬(((A*4:Nat):Int)<((h:Nat):Int)) by omega,if_false]
    first|(rw[if_pos (by omega),if_pos (by omega)])|(rw[if_neg (by omega),if_neg (by omega)])
theorem aMI{A S:Nat}(hS:0<S):rt (A/S)*rt (A/S)*S≤A∧A<(rt (A/S)+1)*(rt (A/S)+1)*S:=by
 obtain⟨h1,h2⟩:=J7 (A/S)
 exact⟨(Nat.le_div_iff_mul_le hS).1 h1,(Nat.div_lt_iff_lt_mul hS).1 h2⟩
theorem YI(a:Nat)(e mode:Int)(la:bl a≤1000000)(he: -1000000≤e∧e≤1000000):
  Con Tryz.prog 143 false [.sl (lim (a)).length (qg (lim (a))),.v (.int .i64 e),.v (.int .i64 mode)] [] (isA (.tu [.sl (lim (rq false (stR (ovA a e) (2^(-e).toNat)) 4 mode)).length (qg (lim (rq false (stR (ovA a e) (2^(-e).toNat)) 4 mode))),.v (.bool (decide (stR (ovA a e) (2^(-e).toNat) % 4=0)))])):=by
 have l1:(lim 1).length≤1000000:=by have:=qt (m:=1) (B:=1) (by decide);omega
 have ll:=qt la
 have bA:=aqd (k:=e) (C:=1000000) la (by omega)
 have lA:=qt bA
 obtain⟨f1,f2,f3⟩:=Zr (ovA a e) (2^(-e).toNat)
 have bD:=jH (ovA a e) (2^(-e).toNat)
 have bR:=baq (ovA a e/2^(-e).toNat)
 have ex1:(if 0>e then 0 else e)=((e.toNat:Nat):Int):=by split<;>omega
 have ex2:(if 0>0-e then 0 else 0-e)=(((-e).toNat:Nat):Int):=by split<;>omega
 have hA:a*2^e.toNat=ovA a e:=rfl
 generalize ovA a e=A at*
 generalize hk:(-e).toNat=k at*
 have hk2:k≤1000000:=by omega
 have cR:=aiL (A/2^k) (by omega)
 generalize rt (A/2^k)=r at*
 have lR:=qt (m:=r) (B:=2000000) (by omega)
 have bRR:=zJ r r
 have lRR:=qt (m:=r*r) (B:=4000000) (by omega)
 have bRS:=QM (r*r) k
 have lRS:=qt (m:=r*r*2^k) (B:=5000000) (by omega)
 have b2:bl (r*2)≤2000001:=by have:=QM r 1;simpa using(show bl (r*2^1)≤2000001 by omega)
 have bT:bl (2*r+1)≤2000002:=by
  have:=Jf (r*2)
  rw[Nat.mul_comm 2 r];omega
 have lT:=qt bT
 have l2:=qt b2
 have bTT:=zJ (2*r+1) (2*r+1)
 have lTT:=qt (m:=(2*r+1)*(2*r+1)) (B:=4000004) (by omega)
 have bTS:=QM ((2*r+1)*(2*r+1)) k
 have lTS:=qt (m:=(2*r+1)*(2*r+1)*2^k) (B:=5000004) (by omega)
 have bA4:=QM A 2
 have lA4:=qt (m:=A*2^2) (B:=2000002) (by omega)
 have e2:r*2^1+1=2*r+1:=by omega
 have e4:A*2^2=A*4:=rfl
 refine Con.of_aw Tryz.func143 rfl Tryz.ntmps143 (by simp) (by simp) (by simp) (W.sound ?_)
 show @W Tryz.prog 56 ⟨_⟩ ⟨fun x σ=>@qV _ _ _ ⟨_⟩ _ ⟨_⟩ x σ⟩ _ _
 simp(disch:=omega)only[go_sem]
 refine qa (zf a e.toNat (by omega) (by omega)) ?_ (by simp(disch:=omega)only[go_sem,ex1])
 simp(disch:=omega)only[go_sem]
 rw[hA]
 refine qa (Z5 A k (by omega) (by omega)) ?_ (by simp(disch:=omega)only[go_sem,ex2])
 simp(disch:=omega)only[go_sem]
 refine qa (cR) ?_
 simp(disch:=omega)only[go_sem]
 refine qa (zf a e.toNat (by omega) (by omega)) ?_ (by simp(disch:=omega)only[go_sem,ex1])
 simp(disch:=omega)only[go_sem]
 rw[hA]
 refine qa (yJ r r (by omega) (by omega)) ?_
 simp(disch:=omega)only[go_sem]
 refine qa (zf (r*r) k (by omega) (by omega)) ?_ (by simp(disch:=omega)only[go_sem,ex2])
 simp(disch:=omega)only[go_sem]
 refine qc (zB (r*r*2^k) A (by omega) (by omega)) ?_
 simp(disch:=omega)only[go_sem]
 have hc:=(Ja (a:=((r*r*2^k:Nat):Int)) (b:=(A:Int))).2.1
 refine qe (fun h1=>?_) (fun h1=>?_)
 ·simp(disch:=omega)only[go_sem,h1]
  have h0:=f2.2 (by have:=hc.1 h1;omega)
  have eq:rq false (stR A (2^k)) 4 mode=r:=by unfold rq;rw[if_pos h0];exact f1
  refine qF (by simp(disch:=omega)only[go_sem]) ⟨?_,rfl,rfl⟩
  rw[eq,decide_eq_true h0];rfl
 ·simp(disch:=omega)only[go_sem,h1]
  have hne:r*r*2^k≠A:=fun e=>h1 (hc.2 (by rw[e]))
  have h0:¬stR A (2^k) % 4=0:=fun e=>hne (f2.1 e)
  have f3':=f3 hne
  refine qa (zf r 1 (by omega) (by omega)) ?_
  simp(disch:=omega)only[go_sem]
  refine qa (q8 1 (by omega)) ?_
  simp(disch:=omega)only[go_sem]
  refine qa (yv (r*2^1) 1 (by rw[Nat.pow_one];omega) (by omega)) ?_
  simp(disch:=omega)only[go_sem]
  rw[e2]
  refine qc (Z8 r 0 (by omega) (by omega) (by omega)) ?_
  simp(disch:=omega)only[go_sem]
  refine qa (zf A 2 (by omega) (by omega)) ?_
  simp(disch:=omega)only[go_sem]
  refine qa (yJ (2*r+1) (2*r+1) (by omega) (by omega)) ?_
  simp(disch:=omega)only[go_sem]
  refine qa (zf ((2*r+1)*(2*r+1)) k (by omega) (by omega)) ?_ (by simp(disch:=omega)only[go_sem,ex2])
  simp(disch:=omega)only[go_sem]
  refine qc (zB (A*2^2) ((2*r+1)*(2*r+1)*2^k) (by omega) (by omega)) ?_
  simp(disch:=omega)only[go_sem]
  have e1:(decide (((r/1 % 2:Nat):Int)=1))=decide (r % 2=1):=by simp;omega
  refine qc (ZU false (decide (r % 2=1)) (zw ((A*2^2:Nat):Int) (((2*r+1)*(2*r+1)*2^k:Nat):Int)) mode) ?_ (by simp(disch:=omega)only[go_sem,e1,Int.toNat_zero,Nat.pow_zero])
  simp(disch:=omega)only[go_sem]
  rw[e4,←f3']
  have eq:rq false (stR A (2^k)) 4 mode=if rup false (decide (r % 2=1)) (zw ((stR A (2^k) % 4*2:Nat):Int) ((4:Nat):Int)) mode=true then r+1 else r:=by
   unfold rq;rw[if_neg h0,f1]
  rw[decide_eq_false h0,eq]
  refine zI (fun h2=>?_) (fun h2=>?_)
  ·simp(disch:=omega)only[go_sem,h2]
   refine qa (q8 1 (by omega)) ?_
   simp(disch:=omega)only[go_sem]
   refine qa (yv r 1 (by omega) (by omega)) ?_
   simp(disch:=omega)only[go_sem]
   refine qF (by simp(disch:=omega)only[go_sem]) ⟨?_,rfl,rfl⟩
   rw[if_pos h2];rfl
  ·simp(disch:=omega)only[go_sem,h2]
   refine qF (by simp(disch:=omega)only[go_sem]) ⟨?_,rfl,rfl⟩
   rw[if_neg (by rw[h2];simp)];rfl
end Go.Ab
namespace Go.Ab
open Go Go.Proofs
def awV(s:Bool)(m e:Int):FlV:=if m<9007199254740991 then⟨1,s,m+1,e⟩else if e<971 then⟨1,s,4503599627370496,e+1⟩else⟨2,s,0,0⟩
def toV(k:Int)(s:Bool)(m e:Int):FlV:=if k=2 then⟨1,s,9007199254740991,971⟩else if 4503599627370496<m∨(e= -1074∧1<m)then⟨k,s,m-1,e⟩else if-1074<e then⟨k,s,9007199254740991,e-1⟩else⟨0,s,0,0⟩
def nxV(k:Int)(s:Bool)(m e:Int):FlV:=if k=3∨(k=2∧s=false)then⟨k,s,m,e⟩else if k=0 then⟨1,false,1, -1074⟩else if s=true then toV k s m e else awV s m e
def ulE(k e:Int):Int:=if k=0 then-1074 else e
end Go.Ab
namespace Go.Ab
structure Adj(k:Int)(s:Bool)(m e:Int)(n:FlV)(t:Bool)(a:Nat)(E:Int):Prop where
 ha:a<2^53
 hf:2^52≤a∨E= -1074
 hE: -1074≤E∧E≤971
 ho:¬(a+1=2^53∧E=971)
 hu:E≤ulE k e
 lo:dv 1074 (xS k s) m.toNat e=dv 1074 t (if t=true then a+1 else a) E
 hi:dv 1074 (xS n.k n.s) n.m.toNat n.e=dv 1074 t (if t=true then a else a+1) E
theorem bdg:ngS 1 false=true:=rfl
theorem bde:ngS 1 true=false:=rfl
theorem bdf:ngS 2 false=true:=rfl
end Go.Ab
namespace Go.Ab
open Go Go.Proofs
def bcG(ok:Bool):AV→List Ob→List Ob→Prop:=fun r hs bs=>hs=[]∧bs=[]∧∃(S:Bool) (M:Nat) (E:Int) (b:Bool),dyB S (lim M) E=true∧(ok=false→b=false)∧r=.tu [.ag [.v (.bool (S)),.sl (lim (M)).length (qg (lim (M))),.v (.int .i64 (E))],.v (.bool b)]
end Go.Ab
namespace Go.Ab
def ivM(s:Bool)(m:Nat)(e mode:Int):Nat:=roM s m e 0 mode*2^(roE m e 0).toNat
end Go.Ab
namespace Go.Ab
open Go Go.Proofs
theorem Js(mode k1:Int)(s1:Bool)(m1 e1:Int):
  Con Tryz.prog 106 true [.v (.int .i64 mode),.sl 1 [.v (.int .i64 k1),.v (.bool s1),.v (.int .i64 m1),.v (.int .i64 e1)]] []
   (isA (.v (.bool (jA mode&&flB k1 s1 m1 e1)))):=by
 have:=YP mode [⟨k1,s1,m1,e1⟩] (by simp)
 simp only[List.all_cons,List.all_nil,Bool.and_true]at this
 exact this
end Go.Ab
namespace Go.Ab
open Go Go.Proofs
def sqT(m:Nat)(e:Int):Int:=((bl m:Int)+e+1)/2
def sqL(m:Nat)(e:Int):Int:=qU (sqT m e)
def sqA(m:Nat)(e low:Int):Nat:=stR (ovA m (e-2*low)) (2^(-(e-2*low)).toNat)
theorem apk(s:Bool)(m:Nat)(e low mode:Int)(hm:bl m≤1000)(he: -5000≤e∧e≤5000)(hl: -5000≤low∧low≤5000):
  Con Tryz.prog 67 false [.ag [.v (.bool (s)),.sl (lim (m)).length (qg (lim (m))),.v (.int .i64 (e))],.v (.int .i64 low),.v (.int .i64 mode)] [] (isA (.tu [.ag [.v (.bool (false)),.sl (lim (rq false (sqA m e low) 4 mode)).length (qg (lim (rq false (sqA m e low) 4 mode))),.v (.int .i64 (low))],.v (.bool (decide (sqA m e low % 4=0)))])):=by
 have e2:low*2=2*low:=by omega
 refine Con.frzA ?_
 refine Con.of_aw Tryz.func67 rfl Tryz.ntmps67 (by simp) (by simp) (by simp) (W.sound ?_)
 show @W Tryz.prog 26 ⟨_⟩ ⟨fun x σ=>@qV _ _ _ ⟨_⟩ _ ⟨_⟩ x σ⟩ _ _
 simp(disch:=omega)only[go_sem]
 refine qa (YI m (e-2*low) mode (by omega) (by omega)) ?_
 simp(disch:=omega)only[go_sem]
 refine qF (by simp(disch:=omega)only[go_sem]) ?_
 show qM _ 6 _=_
 unfold sqA
 simp(disch:=omega)only[go_sem]
theorem apg(s:Bool)(m:Nat)(e low mode:Int)(hm:bl m≤1000)(he: -5000≤e∧e≤5000)(hl: -5000≤low∧low≤5000):
  Con Tryz.prog 119 false [.v (.int .i64 low),.fp [.v (.bool s),.sl (lim (m)).length (qg (lim (m))),.v (.int .i64 e)] 0,.fp [.v (.int .i64 mode)] 0] [] (isA (.tu [.ag [.v (.bool (false)),.sl (lim (rq false (sqA m e low) 4 mode)).length (qg (lim (rq false (sqA m e low) 4 mode))),.v (.int .i64 (low))],.v (.bool (decide (sqA m e low % 4=0)))])):=by
 refine Con.frzA ?_
 refine Con.of_w (rs:=[.cell 4 90,.tmp 5]) Tryz.func119 rfl Tryz.ntmps119 rfl ?_
 simp(disch:=omega)only[go_sem]
 refine qa (apk s m e low mode hm he hl) ?_
 simp(disch:=omega)only[go_sem]
 exact qk
theorem Yf(k:Nat):0<2^k:=Nat.pow_pos (by omega)
theorem anD{m:Nat}{e:Int}(h0:m≠0)(hm:bl m≤53)(he: -1074≤e∧e≤971)(mode:Int):(-600≤sqL m e∧sqL m e≤460)∧rq false (sqA m e (sqL m e)) 4 mode≤2^53:=by
 have hl: -600≤sqL m e∧sqL m e≤460:=by unfold sqL sqT qU;split<;>omega
 refine⟨hl,?_⟩
 have hlow:sqL m e=sqT m e-53:=by unfold sqL sqT qU at*;split<;>omega
 have hT:(bl m:Int)+e≤2*sqT m e:=by unfold sqT;omega
 generalize sqL m e=low at*
 obtain⟨f1,_,_⟩:=Zr (ovA m (e-2*low)) (2^(-(e-2*low)).toNat)
 have hr:rt (ovA m (e-2*low)/2^(-(e-2*low)).toNat)<2^53:=by
  refine aH2 (Nat.lt_of_le_of_lt (J7 _).1 ?_)
  have hb:=jQ m
  refine(Nat.div_lt_iff_lt_mul (Yf _)).2 ?_
  unfold ovA
  have h1:m*2^(e-2*low).toNat<2^bl m*2^(e-2*low).toNat:=Nat.mul_lt_mul_of_pos_right hb (Yf _)
  refine Nat.lt_of_lt_of_le h1 ?_
  rw[←Nat.pow_add,←Nat.pow_add,←Nat.pow_add]
  exact Nat.pow_le_pow_right (by omega) (by omega)
 have:=az8 false (sqA m e low) 4 mode
 unfold sqA at this ⊢
 rw[f1]at this
 omega
theorem acW{q:Nat}{low:Int}(h0:q≠0)(hq:q≤2^53)(hl: -1074≤low):flE q low≤oE q low:=by
 unfold oE
 rw[if_neg h0]
 unfold flE qU
 by_cases c:q=2^53
 ·have ht:tz q=53:=by rw[c];exact j4 (a:=0) (by decide)
  have hb:bl q=54:=by rw[c];exact aqg (k:=53) (by decide) (by decide)
  rw[ht,hb];split<;>omega
 ·have hb:bl q≤53:=zl.2 (by omega)
  split<;>omega
def sqV(k:Int)(s:Bool)(m e mode:Int):FlV:=
 if k=3∨k=0 then⟨k,s,m,e⟩else if s=true then⟨3,false,0,0⟩else if k=2 then⟨k,s,m,e⟩else
  ⟨flK false mode (rq false (sqA m.toNat e (sqL m.toNat e)) 4 mode) (sqL m.toNat e),false,jR false mode (rq false (sqA m.toNat e (sqL m.toNat e)) 4 mode) (sqL m.toNat e),jS false mode (rq false (sqA m.toNat e (sqL m.toNat e)) 4 mode) (sqL m.toNat e)⟩
def sqG(k:Int)(s:Bool)(m e mode:Int):Int:=
 if k=3∨k=0 then 0 else if s=true then 16 else if k=2 then 0 else
  yh (sqT m.toNat e) (decide (sqA m.toNat e (sqL m.toNat e) % 4=0)) (rq false (sqA m.toNat e (sqL m.toNat e)) 4 mode) (sqL m.toNat e)
set_option maxRecDepth 100000 in
theorem ai6(k:Int)(s:Bool)(m e mode:Int):
  Con Tryz.prog 44 true [.ag [.v (.int .i64 (k)),.v (.bool (s)),.v (.int .i64 (m)),.v (.int .i64 (e))],.v (.int .i64 mode)] []
   (isA (if(jA mode&&flB k s m e)=true then .tu [.ag [.v (.int .i64 ((sqV k s m e mode).k)),.v (.bool ((sqV k s m e mode).s)),.v (.int .i64 ((sqV k s m e mode).m)),.v (.int .i64 ((sqV k s m e mode).e))],.v (.int .i64 (sqG k s m e mode))]
    else .tu [.ag [.v (.int .i64 (3)),.v (.bool (false)),.v (.int .i64 (0)),.v (.int .i64 (0))],.v (.int .i64 16)])):=by
 have ca:=Js mode k s m e
 by_cases h:(jA mode&&flB k s m e)=true
 rotate_left
 ·rw[if_neg h]
  rw[Bool.eq_false_iff.2 h]at ca
  refine Con.of_w (rs:=[.cell 4 63,.tmp 5]) Tryz.func44 rfl Tryz.ntmps44 rfl ?_
  simp(disch:=omega)only[go_sem]
  refine qc (ca) ?_
  simp(disch:=omega)only[go_sem]
  refine qc (ads) ?_
  simp(disch:=omega)only[go_sem]
  exact qu
 rw[if_pos h]
 rw[h]at ca
 have h':=h
 simp only[Bool.and_eq_true]at h'
 obtain⟨a1,a2,a3,a4⟩:=zS h'.2
 clear h h'
 obtain⟨n,rfl⟩:=Int.eq_ofNat_of_zero_le a1.1
 have q1:bl n≤53:=zl.2 (by omega)
 obtain rfl|rfl|rfl|rfl:k=0∨k=1∨k=2∨k=3:=by omega
 ·refine Con.of_w (rs:=[.cell 4 63,.tmp 5]) Tryz.func44 rfl Tryz.ntmps44 rfl ?_
  simp(disch:=omega)only[go_sem]
  refine qc (ca) ?_
  simp(disch:=omega)only[go_sem]
  exact qu
 ·cases s
  ·have n0:n≠0:=by have:=a4.2.1 rfl;omega
   obtain⟨r1,r2⟩:=anD n0 q1 a2 mode
   have ct:=yc false n e (by have:=qt q1;omega) (by omega)
   rw[if_neg n0]at ct
   have bq:bl (rq false (sqA n e (sqL n e)) 4 mode)≤54:=zl.2 (by omega)
   have x1:(false&&decide ((1:Int)=1))=false:=rfl
   have cf:=ady false (sqT n e) mode 119 [.fp [.v (.bool false),.sl (lim (n)).length (qg (lim (n))),.v (.int .i64 e)] 0,.fp [.v (.int .i64 mode)] 0] false (decide (sqA n e (sqL n e) % 4=0)) (rq false (sqA n e (sqL n e)) 4 mode) (sqL n e) (by unfold sqT;omega) (apg false n e (sqL n e) mode (by omega) (by omega) (by omega)) (by simp(disch:=omega)only[go_sem]) (fun h=>rfl) (by omega) (by omega) (fun h _=>acW h r2 (by omega))
   have x2:((bl n:Int)+e+1).fdiv (2^min 1 64)=sqT n e:=by
    have e2:(2:Int)^min 1 64=2:=by decide
    rw[e2,Int.fdiv_eq_ediv_of_nonneg _ (by omega)];rfl
   refine Con.of_w (rs:=[.cell 4 63,.tmp 5]) Tryz.func44 rfl Tryz.ntmps44 rfl ?_
   simp(disch:=omega)only[go_sem]
   refine qc (ca) ?_
   simp(disch:=omega)only[go_sem]
   refine qa (Z3 1 false n e (by omega)) ?_
   simp(disch:=omega)only[go_sem]
   refine qn rfl [⟨0,[],[]⟩,⟨4,[0],[]⟩,⟨5,[0,4],[]⟩,⟨1,[4],[]⟩,⟨2,[4],[]⟩,⟨3,[4],[]⟩,⟨6,[],[]⟩,⟨7,[],[]⟩,⟨8,[],[]⟩,⟨9,[],[]⟩,⟨10,[],[]⟩] (by kernel_rfl) ?_
   simp(disch:=omega)only[go_sem]
   refine qc (ct) ?_ (by simp(disch:=omega)only[go_sem,x1])
   simp(disch:=omega)only[go_sem]
   refine qc (cf) ?_ (by simp(disch:=omega)only[go_sem,x1,x2])
   simp(disch:=omega)only[go_sem]
   exact qu
  ·refine Con.of_w (rs:=[.cell 4 63,.tmp 5]) Tryz.func44 rfl Tryz.ntmps44 rfl ?_
   simp(disch:=omega)only[go_sem]
   refine qc (ca) ?_
   simp(disch:=omega)only[go_sem]
   refine qc (ads) ?_
   simp(disch:=omega)only[go_sem]
   exact qu
 ·cases s
  ·refine Con.of_w (rs:=[.cell 4 63,.tmp 5]) Tryz.func44 rfl Tryz.ntmps44 rfl ?_
   simp(disch:=omega)only[go_sem]
   refine qc (ca) ?_
   simp(disch:=omega)only[go_sem]
   exact qu
  ·refine Con.of_w (rs:=[.cell 4 63,.tmp 5]) Tryz.func44 rfl Tryz.ntmps44 rfl ?_
   simp(disch:=omega)only[go_sem]
   refine qc (ca) ?_
   simp(disch:=omega)only[go_sem]
   refine qc (ads) ?_
   simp(disch:=omega)only[go_sem]
   exact qu
 ·refine Con.of_w (rs:=[.cell 4 63,.tmp 5]) Tryz.func44 rfl Tryz.ntmps44 rfl ?_
  simp(disch:=omega)only[go_sem]
  refine qc (ca) ?_
  simp(disch:=omega)only[go_sem]
  exact qu
end Go.Ab
namespace Go.Ab
open Go Go.Proofs
/-! ### A root,rounded down and up-/
theorem aX0{m:Nat}{e low:Int}(h1: -1074≤e)(hl: -1000≤low):∃C:Int,0<C∧(∀q:Nat,dv 1074 false q low*dv 1074 false q low=((q*q*2^(-(e-2*low)).toNat:Nat):Int)*C)∧dv 1074 false m e*2^1074=(ovA m (e-2*low):Int)*C:=by
 obtain⟨kp,hkp⟩:∃k:Nat,k=(e-2*low).toNat:=⟨_,rfl⟩
 obtain⟨km,hkm⟩:∃k:Nat,k=(-(e-2*low)).toNat:=⟨_,rfl⟩
 obtain⟨c,hc⟩:∃c:Nat,(c:Int)=(if e-2*low≤0 then e+2148 else 2*low+2148):=⟨(if e-2*low≤0 then e+2148 else 2*low+2148).toNat,by split<;>omega⟩
 refine⟨2^c,Int.pow_pos (by omega),fun q=>?_,?_⟩
 ·have ee:(low+((1074:Nat):Int)).toNat+(low+((1074:Nat):Int)).toNat=km+c:=by split at hc<;>omega
  rw[←hkm]
  unfold dv
  rw[sv,if_neg (by simp)]
  have:(q:Int)*2^(low+((1074:Nat):Int)).toNat*((q:Int)*2^(low+((1074:Nat):Int)).toNat)=(q:Int)*q*(2^(low+((1074:Nat):Int)).toNat*2^(low+((1074:Nat):Int)).toNat):=by grind
  rw[this,←Int.pow_add,ee,Int.pow_add,Int.natCast_mul,Int.natCast_mul,Int.natCast_pow,Int.mul_assoc (((q:Int)*q))]
  rfl
 ·have ee:(e+((1074:Nat):Int)).toNat+1074=kp+c:=by split at hc<;>omega
  unfold ovA
  rw[←hkp]
  unfold dv
  rw[sv,if_neg (by simp),Int.mul_assoc,←Int.pow_add,ee,Int.pow_add,Int.natCast_mul,Int.natCast_pow,Int.mul_assoc]
  rfl
theorem azW{V:FlV}{m:Int}(h1:flB V.k V.s V.m V.e=true):flB (sqV V.k V.s V.m V.e m).k (sqV V.k V.s V.m V.e m).s (sqV V.k V.s V.m V.e m).m (sqV V.k V.s V.m V.e m).e=true:=by
 obtain⟨a1,a2,a3,a4,a5,a6⟩:=zS h1
 unfold sqV
 split
 ·exact h1
 split
 ·decide
 split
 ·exact h1
 have k1:V.k=1:=by omega
 have n1:V.m.toNat≠0:=by have:=a5 k1;omega
 obtain⟨r1,r2⟩:=anD n1 (zl.2 (by omega)) a2 m
 exact aX6 (by omega) (fun h=>acW h r2 (by omega))
theorem aH1{V:FlV}(h1:flB V.k V.s V.m V.e=true)(k1:V.k=0∨V.k=1)(hs:(flD V).s=false)(m:Int){F D T:FlV}{G:Int}(hF:sqV V.k V.s V.m V.e m=F)(hG:sqG V.k V.s V.m V.e m=G)(hD:sqV V.k V.s V.m V.e 3=D)(hT:sqV V.k V.s V.m V.e 2=T):
  (F=D∨F=T)∧isN D=true∧isN T=true∧(flD D).val 1074*(flD D).val 1074≤(flD V).val 1074*2^1074∧(flD V).val 1074*2^1074≤(flD T).val 1074*(flD T).val 1074∧(G=0↔(flD D).val 1074*(flD D).val 1074=(flD T).val 1074*(flD T).val 1074):=by
 have o2:=azW (m:=3) h1
 have o3:=azW (m:=2) h1
 rw[hD]at o2
 rw[hT]at o3
 obtain⟨a1,a2,a3,a4,a5,a6⟩:=zS h1
 rcases k1 with k1|k1
 ·have z:=(a4 (by omega)).1
  unfold sqV at hF hD hT
  unfold sqG at hG
  rw[if_pos (.inr k1)]at hF hD hT hG
  have v0:(flD V).val 1074=0:=by rw[Yy h1,z];exact QD
  subst hF hD hT hG
  refine⟨.inl rfl,by unfold isN;simp[k1],by unfold isN;simp[k1],?_,?_,by simp⟩
  ·show(flD V).val 1074*(flD V).val 1074≤_;rw[v0,Int.zero_mul,Int.zero_mul];exact Int.le_refl _
  ·show _≤(flD V).val 1074*(flD V).val 1074;rw[v0,Int.zero_mul,Int.zero_mul];exact Int.le_refl _
 ·have n1:V.m.toNat≠0:=by have:=a5 k1;omega
  have s0:V.s=false:=by
   have e:(flD V).s=V.s:=by
    show oS (xS V.k V.s) _=_
    unfold oS xS;rw[if_neg n1,k1];simp
   rw[←e];exact hs
  rw[Yy h1,Yy o2,Yy o3]
  unfold sqV at hF hD hT
  unfold sqG at hG
  rw[if_neg (by omega),if_neg (by rw[s0];simp),if_neg (by omega)]at hF hD hT hG
  have b53:bl V.m.toNat≤53:=zl.2 (by omega)
  have hr:=fun mode=>anD n1 b53 a2 mode
  have hl:=(hr 0).1
  obtain⟨C,hC,hm1,hm2⟩:=aX0 (m:=V.m.toNat) (e:=V.e) (low:=sqL V.m.toNat V.e) a2.1 (by omega)
  have hx:xS V.k V.s=false:=by unfold xS;rw[s0];rfl
  rw[hx,hm2]
  obtain⟨f1,f2,_⟩:=Zr (ovA V.m.toNat (V.e-2*sqL V.m.toNat V.e)) (2^(-(V.e-2*sqL V.m.toNat V.e)).toNat)
  obtain⟨g1,g2⟩:=aMI (A:=ovA V.m.toNat (V.e-2*sqL V.m.toNat V.e)) (S:=2^(-(V.e-2*sqL V.m.toNat V.e)).toNat) (Yf _)
  have hst:stR (ovA V.m.toNat (V.e-2*sqL V.m.toNat V.e)) (2^(-(V.e-2*sqL V.m.toNat V.e)).toNat)=sqA V.m.toNat V.e (sqL V.m.toNat V.e):=rfl
  rw[hst]at f1 f2
  have hS:=Yf (-(V.e-2*sqL V.m.toNat V.e)).toNat
  generalize 2^(-(V.e-2*sqL V.m.toNat V.e)).toNat=S at*
  generalize ovA V.m.toNat (V.e-2*sqL V.m.toNat V.e)=A at*
  generalize rt (A/S)=r at*
  generalize sqA V.m.toNat V.e (sqL V.m.toNat V.e)=st at*
  generalize sqL V.m.toNat V.e=low at*
  have hno:∀mode,¬rqB false st 4 low mode:=fun mode h=>by
   have h2:=qQ (hr mode).2
   have h3:bl (2^53)=54:=aqg (k:=53) (by decide) (by decide)
   have h4:=h.2
   omega
  have hf:∀mode,rq false st 4 mode≠0→flE (rq false st 4 mode) low≤oE (rq false st 4 mode) low:=fun mode h=>acW h (hr mode).2 (by omega)
  change rnF false st 4 low m=F at hF
  change rnF false st 4 low 3=D at hD
  change rnF false st 4 low 2=T at hT
  have hor:=aX5 false st 4 low m
  rw[hF,hD,hT]at hor
  obtain⟨y1,y2,y3⟩:=anY (by omega) (hf 3) (hno 3)
  obtain⟨z1,z2,z3⟩:=anY (by omega) (hf 2) (hno 2)
  rw[hD]at y2 y3
  rw[hT]at z2 z3
  rw[anV,if_neg (by simp),f1]at y3
  rw[aM0,if_neg (by simp)]at z3
  rw[y3,z3,hm1,hm1]
  refine⟨hor,y2,z2,?_,?_,?_⟩
  ·exact Int.mul_le_mul_of_nonneg_right (by omega) (by omega)
  ·refine Int.mul_le_mul_of_nonneg_right ?_ (by omega)
   unfold upQ
   split
   ·rename_i h0;rw[f1,f2.1 h0];omega
   ·rw[f1];omega
  ·have hG0:G=0↔st % 4=0:=by
    rw[←hG]
    constructor
    ·intro h;exact of_decide_eq_true (aBB _ h).2
    ·intro h
     unfold yh zq
     have:=hno m
     unfold rqB at this
     rw[if_neg this,if_pos (decide_eq_true h)]
   rw[hG0]
   constructor
   ·intro h;unfold upQ;rw[if_pos h,f1]
   ·intro h
    by_cases h0:st % 4=0
    ·exact h0
    ·exfalso
     unfold upQ at h
     rw[if_neg h0,f1]at h
     have hlt:((r*r*S:Nat):Int)<(((r+1)*(r+1)*S:Nat):Int):=by omega
     have:=Int.mul_lt_mul_of_pos_right hlt hC
     omega
end Go.Ab
namespace Go.Ab
open Go Go.Proofs
theorem aoo{k1:Int}{s1:Bool}{m1 e1 k2:Int}{s2:Bool}{m2 e2 mode:Int}(z:Bool)(h1:flB k1 s1 m1 e1=true)(h2:flB k2 s2 m2 e2=true):
  flV (oS ((QT k1 s1 m1 != QT k2 s2 m2)&&decide (zi k1 m1*zi k2 m2≠0)) (zi k1 m1*zi k2 m2)) (oM (zi k1 m1*zi k2 m2)) (oE (zi k1 m1*zi k2 m2) (yj k1 m1 e1+yj k2 m2 e2)) mode z=flV (muS k1 s1 m1 k2 s2 m2) (m1.toNat*m2.toNat) (e1+e2) mode z∧
  flG (oS ((QT k1 s1 m1 != QT k2 s2 m2)&&decide (zi k1 m1*zi k2 m2≠0)) (zi k1 m1*zi k2 m2)) (oM (zi k1 m1*zi k2 m2)) (oE (zi k1 m1*zi k2 m2) (yj k1 m1 e1+yj k2 m2 e2)) mode=flG (muS k1 s1 m1 k2 s2 m2) (m1.toNat*m2.toNat) (e1+e2) mode:=by
 obtain⟨a1,a2,a3,a4,a5,_⟩:=zS h1
 obtain⟨b1,b2,b3,b4,b5,_⟩:=zS h2
 rw[(KM _ _ _ mode z).1,(KM _ _ _ mode z).2]
 by_cases c:k1=1∧k2=1
 ·obtain⟨c1,c2⟩:=c
  have n1:m1.toNat≠0:=by have:=a5 c1;omega
  have n2:m2.toNat≠0:=by have:=b5 c2;omega
  have o1:oM m1.toNat≠0:=fun e=>n1 (qB.1 e)
  have o2:oM m2.toNat≠0:=fun e=>n2 (qB.1 e)
  have hS:((QT k1 s1 m1 != QT k2 s2 m2)&&decide (zi k1 m1*zi k2 m2≠0))=muS k1 s1 m1 k2 s2 m2:=by
   unfold QT zi muS oS
   simp[c1,c2,n1,n2,o1,o2,Nat.mul_ne_zero n1 n2,Nat.mul_ne_zero o1 o2]
  rw[hS]
  have hM:zi k1 m1*zi k2 m2=oM m1.toNat*oM m2.toNat:=by unfold zi;rw[if_pos c1,if_pos c2]
  have hE:yj k1 m1 e1+yj k2 m2 e2=e1+e2+((tz m1.toNat+tz m2.toNat:Nat):Int):=by
   unfold yj oE;rw[if_pos c1,if_pos c2,if_neg n1,if_neg n2];omega
  have hp:m1.toNat*m2.toNat=oM m1.toNat*oM m2.toNat*2^(tz m1.toNat+tz m2.toNat):=by
   have q1:=@Kw m1.toNat
   have q2:=@Kw m2.toNat
   rw[Nat.pow_add]
   calc m1.toNat*m2.toNat=(oM m1.toNat*2^tz m1.toNat)*(oM m2.toNat*2^tz m2.toNat):=by rw[q1,q2]
    _=_:=by rw[Nat.mul_mul_mul_comm]
  have h0:oM m1.toNat*oM m2.toNat≠0:=Nat.mul_ne_zero o1 o2
  rw[hM,hE,hp]
  generalize oM m1.toNat*oM m2.toNat=P at*
  generalize tz m1.toNat+tz m2.toNat=t at*
  rw[←(yI _ P _ mode z).1,←(yI _ P _ mode z).2,←(yI _ (P*2^t) _ mode z).1,←(yI _ (P*2^t) _ mode z).2]
  have g0:P*2^t≠0:=Nat.mul_ne_zero h0 (Nat.pos_iff_ne_zero.1 (Nat.pow_pos (by omega)))
  have hoE:oE P (e1+e2+(t:Int))=oE (P*2^t) (e1+e2):=by
   unfold oE;rw[if_neg h0,if_neg g0,Jy h0];omega
  rw[aDK,hoE]
  exact⟨rfl,rfl⟩
 ·have hz:zi k1 m1*zi k2 m2=0:=by
   unfold zi
   by_cases c1:k1=1
   ·rw[if_neg (fun c2=>c ⟨c1,c2⟩:¬k2=1)];simp
   ·rw[if_neg c1];simp
  have hz2:m1.toNat*m2.toNat=0:=by
   by_cases c1:k1=1
   ·have:=(b4 (fun c2=>c ⟨c1,c2⟩)).1;rw[this];simp
   ·have:=(a4 c1).1;rw[this];simp
  unfold flV flG
  rw[if_pos hz,if_pos hz,if_pos hz2,if_pos hz2]
  exact⟨rfl,rfl⟩
set_option maxRecDepth 100000 in
theorem apu(k1:Int)(s1:Bool)(m1 e1 k2:Int)(s2:Bool)(m2 e2 mode:Int)(h1:flB k1 s1 m1 e1=true)(h2:flB k2 s2 m2 e2=true)(hmode:0≤mode∧mode≤4):
  Con Tryz.prog 192 true [.ag [.v (.int .i64 (k1)),.v (.bool (s1)),.v (.int .i64 (m1)),.v (.int .i64 (e1))],.ag [.v (.int .i64 (k2)),.v (.bool (s2)),.v (.int .i64 (m2)),.v (.int .i64 (e2))],.v (.int .i64 mode)] []
   (isA (.tu [.ag [.v (.int .i64 ((aAL k1 s1 m1 e1 k2 s2 m2 e2 mode).k)),.v (.bool ((aAL k1 s1 m1 e1 k2 s2 m2 e2 mode).s)),.v (.int .i64 ((aAL k1 s1 m1 e1 k2 s2 m2 e2 mode).m)),.v (.int .i64 ((aAL k1 s1 m1 e1 k2 s2 m2 e2 mode).e))],.v (.int .i64 (baz k1 s1 m1 e1 k2 s2 m2 e2 mode))])):=by
 have hr1:=(zS h1).2.2.1
 have hr2:=(zS h2).2.2.1
 obtain⟨d1,d2⟩:=aoz h1
 obtain⟨f1,f2⟩:=aoz h2
 obtain⟨mc1,mc2⟩:=aoo (mode:=mode) (s1 != s2) h1 h2
 obtain rfl|rfl|rfl|rfl:k1=0∨k1=1∨k1=2∨k1=3:=by omega
 ·obtain rfl|rfl|rfl|rfl:k2=0∨k2=1∨k2=2∨k2=3:=by omega
  ·refine Con.of_aw Tryz.func192 rfl Tryz.ntmps192 (by simp) (by simp) (by simp) (W.sound ?_)
   show @W Tryz.prog 67 ⟨_⟩ ⟨fun x σ=>@qV _ _ _ ⟨_⟩ _ ⟨_⟩ x σ⟩ _ _
   simp(disch:=omega)only[go_sem]
   refine qn rfl [⟨0,[],[]⟩,⟨2,[0],[]⟩,⟨5,[0,2],[]⟩,⟨6,[0,2],[]⟩,⟨1,[2],[]⟩,⟨3,[],[]⟩,⟨4,[],[]⟩,⟨7,[],[]⟩,⟨8,[],[]⟩,⟨9,[],[]⟩,⟨10,[],[]⟩,⟨11,[],[]⟩] (by kernel_rfl) ?_
   simp(disch:=omega)only[go_sem]
   refine qa (jG (0) s1 m1 e1 h1) ?_
   simp(disch:=omega)only[go_sem]
   refine qa (jG (0) s2 m2 e2 h2) ?_
   simp(disch:=omega)only[go_sem]
   refine qa (yx (QT (0) s1 m1) (zi (0) m1) (yj (0) m1 e1) (QT (0) s2 m2) (zi (0) m2) (yj (0) m2 e2) (by omega) (by omega) (by omega) (by omega)) ?_
   simp(disch:=omega)only[go_sem]
   have q3:=zJ (zi (0) m1) (zi (0) m2)
   have q4:=qQ (jK (zi (0) m1*zi (0) m2))
   have q5:=Qg (m:=zi (0) m1*zi (0) m2) (e:=yj (0) m1 e1+yj (0) m2 e2) (lo:= -2148) (hi:=2048) (Nat.le_refl _) (by omega) (by omega) (by omega)
   refine qc (jx (oS ((QT (0) s1 m1 != QT (0) s2 m2)&&decide (zi (0) m1*zi (0) m2≠0)) (zi (0) m1*zi (0) m2)) (oM (zi (0) m1*zi (0) m2)) (oE (zi (0) m1*zi (0) m2) (yj (0) m1 e1+yj (0) m2 e2)) mode (s1 != s2) (JK _) (aLR _ _) hmode (by omega) (by omega)) ?_
   simp(disch:=omega)only[go_sem]
   rw[mc1,mc2]
   refine qb (by simp(disch:=omega)only[go_sem]) (by simp(disch:=omega)only[go_sem]) ⟨rfl,rfl,rfl⟩
  ·refine Con.of_aw Tryz.func192 rfl Tryz.ntmps192 (by simp) (by simp) (by simp) (W.sound ?_)
   show @W Tryz.prog 67 ⟨_⟩ ⟨fun x σ=>@qV _ _ _ ⟨_⟩ _ ⟨_⟩ x σ⟩ _ _
   simp(disch:=omega)only[go_sem]
   refine qn rfl [⟨0,[],[]⟩,⟨2,[0],[]⟩,⟨5,[0,2],[]⟩,⟨6,[0,2],[]⟩,⟨1,[2],[]⟩,⟨3,[],[]⟩,⟨4,[],[]⟩,⟨7,[],[]⟩,⟨8,[],[]⟩,⟨9,[],[]⟩,⟨10,[],[]⟩,⟨11,[],[]⟩] (by kernel_rfl) ?_
   simp(disch:=omega)only[go_sem]
   refine qa (jG (0) s1 m1 e1 h1) ?_
   simp(disch:=omega)only[go_sem]
   refine qa (jG (1) s2 m2 e2 h2) ?_
   simp(disch:=omega)only[go_sem]
   refine qa (yx (QT (0) s1 m1) (zi (0) m1) (yj (0) m1 e1) (QT (1) s2 m2) (zi (1) m2) (yj (1) m2 e2) (by omega) (by omega) (by omega) (by omega)) ?_
   simp(disch:=omega)only[go_sem]
   have q3:=zJ (zi (0) m1) (zi (1) m2)
   have q4:=qQ (jK (zi (0) m1*zi (1) m2))
   have q5:=Qg (m:=zi (0) m1*zi (1) m2) (e:=yj (0) m1 e1+yj (1) m2 e2) (lo:= -2148) (hi:=2048) (Nat.le_refl _) (by omega) (by omega) (by omega)
   refine qc (jx (oS ((QT (0) s1 m1 != QT (1) s2 m2)&&decide (zi (0) m1*zi (1) m2≠0)) (zi (0) m1*zi (1) m2)) (oM (zi (0) m1*zi (1) m2)) (oE (zi (0) m1*zi (1) m2) (yj (0) m1 e1+yj (1) m2 e2)) mode (s1 != s2) (JK _) (aLR _ _) hmode (by omega) (by omega)) ?_
   simp(disch:=omega)only[go_sem]
   rw[mc1,mc2]
   refine qb (by simp(disch:=omega)only[go_sem]) (by simp(disch:=omega)only[go_sem]) ⟨rfl,rfl,rfl⟩
  ·refine Con.of_aw Tryz.func192 rfl Tryz.ntmps192 (by simp) (by simp) (by simp) (W.sound ?_)
   show @W Tryz.prog 67 ⟨_⟩ ⟨fun x σ=>@qV _ _ _ ⟨_⟩ _ ⟨_⟩ x σ⟩ _ _
   simp(disch:=omega)only[go_sem]
   refine qc (ZX) ?_
   simp(disch:=omega)only[go_sem]
   refine qb (by simp(disch:=omega)only[go_sem]) (by simp(disch:=omega)only[go_sem]) ⟨rfl,rfl,rfl⟩
  ·refine Con.of_aw Tryz.func192 rfl Tryz.ntmps192 (by simp) (by simp) (by simp) (W.sound ?_)
   show @W Tryz.prog 67 ⟨_⟩ ⟨fun x σ=>@qV _ _ _ ⟨_⟩ _ ⟨_⟩ x σ⟩ _ _
   simp(disch:=omega)only[go_sem]
   refine qc (ja) ?_
   simp(disch:=omega)only[go_sem]
   refine qb (by simp(disch:=omega)only[go_sem]) (by simp(disch:=omega)only[go_sem]) ⟨rfl,rfl,rfl⟩
 ·obtain rfl|rfl|rfl|rfl:k2=0∨k2=1∨k2=2∨k2=3:=by omega
  ·refine Con.of_aw Tryz.func192 rfl Tryz.ntmps192 (by simp) (by simp) (by simp) (W.sound ?_)
   show @W Tryz.prog 67 ⟨_⟩ ⟨fun x σ=>@qV _ _ _ ⟨_⟩ _ ⟨_⟩ x σ⟩ _ _
   simp(disch:=omega)only[go_sem]
   refine qn rfl [⟨0,[],[]⟩,⟨2,[0],[]⟩,⟨5,[0,2],[]⟩,⟨6,[0,2],[]⟩,⟨1,[2],[]⟩,⟨3,[],[]⟩,⟨4,[],[]⟩,⟨7,[],[]⟩,⟨8,[],[]⟩,⟨9,[],[]⟩,⟨10,[],[]⟩,⟨11,[],[]⟩] (by kernel_rfl) ?_
   simp(disch:=omega)only[go_sem]
   refine qa (jG (1) s1 m1 e1 h1) ?_
   simp(disch:=omega)only[go_sem]
   refine qa (jG (0) s2 m2 e2 h2) ?_
   simp(disch:=omega)only[go_sem]
   refine qa (yx (QT (1) s1 m1) (zi (1) m1) (yj (1) m1 e1) (QT (0) s2 m2) (zi (0) m2) (yj (0) m2 e2) (by omega) (by omega) (by omega) (by omega)) ?_
   simp(disch:=omega)only[go_sem]
   have q3:=zJ (zi (1) m1) (zi (0) m2)
   have q4:=qQ (jK (zi (1) m1*zi (0) m2))
   have q5:=Qg (m:=zi (1) m1*zi (0) m2) (e:=yj (1) m1 e1+yj (0) m2 e2) (lo:= -2148) (hi:=2048) (Nat.le_refl _) (by omega) (by omega) (by omega)
   refine qc (jx (oS ((QT (1) s1 m1 != QT (0) s2 m2)&&decide (zi (1) m1*zi (0) m2≠0)) (zi (1) m1*zi (0) m2)) (oM (zi (1) m1*zi (0) m2)) (oE (zi (1) m1*zi (0) m2) (yj (1) m1 e1+yj (0) m2 e2)) mode (s1 != s2) (JK _) (aLR _ _) hmode (by omega) (by omega)) ?_
   simp(disch:=omega)only[go_sem]
   rw[mc1,mc2]
   refine qb (by simp(disch:=omega)only[go_sem]) (by simp(disch:=omega)only[go_sem]) ⟨rfl,rfl,rfl⟩
  ·refine Con.of_aw Tryz.func192 rfl Tryz.ntmps192 (by simp) (by simp) (by simp) (W.sound ?_)
   show @W Tryz.prog 67 ⟨_⟩ ⟨fun x σ=>@qV _ _ _ ⟨_⟩ _ ⟨_⟩ x σ⟩ _ _
   simp(disch:=omega)only[go_sem]
   refine qn rfl [⟨0,[],[]⟩,⟨2,[0],[]⟩,⟨5,[0,2],[]⟩,⟨6,[0,2],[]⟩,⟨1,[2],[]⟩,⟨3,[],[]⟩,⟨4,[],[]⟩,⟨7,[],[]⟩,⟨8,[],[]⟩,⟨9,[],[]⟩,⟨10,[],[]⟩,⟨11,[],[]⟩] (by kernel_rfl) ?_
   simp(disch:=omega)only[go_sem]
   refine qa (jG (1) s1 m1 e1 h1) ?_
   simp(disch:=omega)only[go_sem]
   refine qa (jG (1) s2 m2 e2 h2) ?_
   simp(disch:=omega)only[go_sem]
   refine qa (yx (QT (1) s1 m1) (zi (1) m1) (yj (1) m1 e1) (QT (1) s2 m2) (zi (1) m2) (yj (1) m2 e2) (by omega) (by omega) (by omega) (by omega)) ?_
   simp(disch:=omega)only[go_sem]
   have q3:=zJ (zi (1) m1) (zi (1) m2)
   have q4:=qQ (jK (zi (1) m1*zi (1) m2))
   have q5:=Qg (m:=zi (1) m1*zi (1) m2) (e:=yj (1) m1 e1+yj (1) m2 e2) (lo:= -2148) (hi:=2048) (Nat.le_refl _) (by omega) (by omega) (by omega)
   refine qc (jx (oS ((QT (1) s1 m1 != QT (1) s2 m2)&&decide (zi (1) m1*zi (1) m2≠0)) (zi (1) m1*zi (1) m2)) (oM (zi (1) m1*zi (1) m2)) (oE (zi (1) m1*zi (1) m2) (yj (1) m1 e1+yj (1) m2 e2)) mode (s1 != s2) (JK _) (aLR _ _) hmode (by omega) (by omega)) ?_
   simp(disch:=omega)only[go_sem]
   rw[mc1,mc2]
   refine qb (by simp(disch:=omega)only[go_sem]) (by simp(disch:=omega)only[go_sem]) ⟨rfl,rfl,rfl⟩
  ·refine Con.of_aw Tryz.func192 rfl Tryz.ntmps192 (by simp) (by simp) (by simp) (W.sound ?_)
   show @W Tryz.prog 67 ⟨_⟩ ⟨fun x σ=>@qV _ _ _ ⟨_⟩ _ ⟨_⟩ x σ⟩ _ _
   simp(disch:=omega)only[go_sem]
   refine qb (by simp(disch:=omega)only[go_sem]) (by simp(disch:=omega)only[go_sem]) ⟨rfl,rfl,rfl⟩
  ·refine Con.of_aw Tryz.func192 rfl Tryz.ntmps192 (by simp) (by simp) (by simp) (W.sound ?_)
   show @W Tryz.prog 67 ⟨_⟩ ⟨fun x σ=>@qV _ _ _ ⟨_⟩ _ ⟨_⟩ x σ⟩ _ _
   simp(disch:=omega)only[go_sem]
   refine qc (ja) ?_
   simp(disch:=omega)only[go_sem]
   refine qb (by simp(disch:=omega)only[go_sem]) (by simp(disch:=omega)only[go_sem]) ⟨rfl,rfl,rfl⟩
 ·obtain rfl|rfl|rfl|rfl:k2=0∨k2=1∨k2=2∨k2=3:=by omega
  ·refine Con.of_aw Tryz.func192 rfl Tryz.ntmps192 (by simp) (by simp) (by simp) (W.sound ?_)
   show @W Tryz.prog 67 ⟨_⟩ ⟨fun x σ=>@qV _ _ _ ⟨_⟩ _ ⟨_⟩ x σ⟩ _ _
   simp(disch:=omega)only[go_sem]
   refine qc (ZX) ?_
   simp(disch:=omega)only[go_sem]
   refine qb (by simp(disch:=omega)only[go_sem]) (by simp(disch:=omega)only[go_sem]) ⟨rfl,rfl,rfl⟩
  ·refine Con.of_aw Tryz.func192 rfl Tryz.ntmps192 (by simp) (by simp) (by simp) (W.sound ?_)
   show @W Tryz.prog 67 ⟨_⟩ ⟨fun x σ=>@qV _ _ _ ⟨_⟩ _ ⟨_⟩ x σ⟩ _ _
   simp(disch:=omega)only[go_sem]
   refine qb (by simp(disch:=omega)only[go_sem]) (by simp(disch:=omega)only[go_sem]) ⟨rfl,rfl,rfl⟩
  ·refine Con.of_aw Tryz.func192 rfl Tryz.ntmps192 (by simp) (by simp) (by simp) (W.sound ?_)
   show @W Tryz.prog 67 ⟨_⟩ ⟨fun x σ=>@qV _ _ _ ⟨_⟩ _ ⟨_⟩ x σ⟩ _ _
   simp(disch:=omega)only[go_sem]
   refine qb (by simp(disch:=omega)only[go_sem]) (by simp(disch:=omega)only[go_sem]) ⟨rfl,rfl,rfl⟩
  ·refine Con.of_aw Tryz.func192 rfl Tryz.ntmps192 (by simp) (by simp) (by simp) (W.sound ?_)
   show @W Tryz.prog 67 ⟨_⟩ ⟨fun x σ=>@qV _ _ _ ⟨_⟩ _ ⟨_⟩ x σ⟩ _ _
   simp(disch:=omega)only[go_sem]
   refine qc (ja) ?_
   simp(disch:=omega)only[go_sem]
   refine qb (by simp(disch:=omega)only[go_sem]) (by simp(disch:=omega)only[go_sem]) ⟨rfl,rfl,rfl⟩
 ·obtain rfl|rfl|rfl|rfl:k2=0∨k2=1∨k2=2∨k2=3:=by omega
  ·refine Con.of_aw Tryz.func192 rfl Tryz.ntmps192 (by simp) (by simp) (by simp) (W.sound ?_)
   show @W Tryz.prog 67 ⟨_⟩ ⟨fun x σ=>@qV _ _ _ ⟨_⟩ _ ⟨_⟩ x σ⟩ _ _
   simp(disch:=omega)only[go_sem]
   refine qc (ja) ?_
   simp(disch:=omega)only[go_sem]
   refine qb (by simp(disch:=omega)only[go_sem]) (by simp(disch:=omega)only[go_sem]) ⟨rfl,rfl,rfl⟩
  ·refine Con.of_aw Tryz.func192 rfl Tryz.ntmps192 (by simp) (by simp) (by simp) (W.sound ?_)
   show @W Tryz.prog 67 ⟨_⟩ ⟨fun x σ=>@qV _ _ _ ⟨_⟩ _ ⟨_⟩ x σ⟩ _ _
   simp(disch:=omega)only[go_sem]
   refine qc (ja) ?_
   simp(disch:=omega)only[go_sem]
   refine qb (by simp(disch:=omega)only[go_sem]) (by simp(disch:=omega)only[go_sem]) ⟨rfl,rfl,rfl⟩
  ·refine Con.of_aw Tryz.func192 rfl Tryz.ntmps192 (by simp) (by simp) (by simp) (W.sound ?_)
   show @W Tryz.prog 67 ⟨_⟩ ⟨fun x σ=>@qV _ _ _ ⟨_⟩ _ ⟨_⟩ x σ⟩ _ _
   simp(disch:=omega)only[go_sem]
   refine qc (ja) ?_
   simp(disch:=omega)only[go_sem]
   refine qb (by simp(disch:=omega)only[go_sem]) (by simp(disch:=omega)only[go_sem]) ⟨rfl,rfl,rfl⟩
  ·refine Con.of_aw Tryz.func192 rfl Tryz.ntmps192 (by simp) (by simp) (by simp) (W.sound ?_)
   show @W Tryz.prog 67 ⟨_⟩ ⟨fun x σ=>@qV _ _ _ ⟨_⟩ _ ⟨_⟩ x σ⟩ _ _
   simp(disch:=omega)only[go_sem]
   refine qc (ja) ?_
   simp(disch:=omega)only[go_sem]
   refine qb (by simp(disch:=omega)only[go_sem]) (by simp(disch:=omega)only[go_sem]) ⟨rfl,rfl,rfl⟩
theorem ai7(k1:Int)(s1:Bool)(m1 e1 k2:Int)(s2:Bool)(m2 e2 mode:Int):
  Con Tryz.prog 116 true [.ag [.v (.int .i64 (k1)),.v (.bool (s1)),.v (.int .i64 (m1)),.v (.int .i64 (e1))],.ag [.v (.int .i64 (k2)),.v (.bool (s2)),.v (.int .i64 (m2)),.v (.int .i64 (e2))],.v (.int .i64 mode)] []
   (isA (if(jA mode&&(flB k1 s1 m1 e1&&flB k2 s2 m2 e2))=true then .tu [.ag [.v (.int .i64 ((aAL k1 s1 m1 e1 k2 s2 m2 e2 mode).k)),.v (.bool ((aAL k1 s1 m1 e1 k2 s2 m2 e2 mode).s)),.v (.int .i64 ((aAL k1 s1 m1 e1 k2 s2 m2 e2 mode).m)),.v (.int .i64 ((aAL k1 s1 m1 e1 k2 s2 m2 e2 mode).e))],.v (.int .i64 (baz k1 s1 m1 e1 k2 s2 m2 e2 mode))]
    else .tu [.ag [.v (.int .i64 (3)),.v (.bool (false)),.v (.int .i64 (0)),.v (.int .i64 (0))],.v (.int .i64 16)])):=by
 refine Con.of_w (rs:=[.cell 6 63,.tmp 7]) Tryz.func116 rfl Tryz.ntmps116 rfl ?_
 simp(disch:=omega)only[go_sem]
 refine qc (aBX k1 s1 m1 e1 k2 s2 m2 e2 mode) ?_
 simp(disch:=omega)only[go_sem]
 refine z6 (fun h=>?_) (fun h=>?_)
 ·simp(disch:=omega)only[go_sem,h]
  refine qc (ZX) ?_
  simp(disch:=omega)only[go_sem]
  rw[if_neg (by rw[h];simp)]
  exact qu
 ·simp(disch:=omega)only[go_sem,h]
  have h':=h
  simp only[Bool.and_eq_true,jA,decide_eq_true_eq]at h'
  refine qc (apu k1 s1 m1 e1 k2 s2 m2 e2 mode h'.2.1 h'.2.2 h'.1) ?_
  simp(disch:=omega)only[go_sem]
  rw[if_pos h]
  exact qu
end Go.Ab
namespace Go.Ab
open Go Go.Proofs
theorem QL(k1:Int)(s1:Bool)(m1 e1 k2:Int)(s2:Bool)(m2 e2 mode:Int):Con Tryz.prog 116 true [.ag [.v (.int .i64 (k1)),.v (.bool (s1)),.v (.int .i64 (m1)),.v (.int .i64 (e1))],.ag [.v (.int .i64 (k2)),.v (.bool (s2)),.v (.int .i64 (m2)),.v (.int .i64 (e2))],.v (.int .i64 mode)] [] (fun r hs bs=>hs=[]∧bs=[]∧∃(x:FlV) (g:Int),r=.tu [.ag x.cs,.v (.int .i64 g)]):=by
 refine(ai7 k1 s1 m1 e1 k2 s2 m2 e2 mode).mono fun r hs bs ⟨h1,h2,h3⟩=>?_
 subst h2;subst h3
 refine⟨rfl,rfl,?_⟩
 by_cases h:(jA mode&&(flB k1 s1 m1 e1&&flB k2 s2 m2 e2))=true
 ·rw[if_pos h]at h1;exact⟨aAL k1 s1 m1 e1 k2 s2 m2 e2 mode,_,h1⟩
 ·rw[if_neg h]at h1;exact⟨⟨3,false,0,0⟩,_,h1⟩
end Go.Ab
namespace Go.Ab
open Go Go.Proofs
theorem Jt(l:List UInt8)(hl:l.length≤9223372036854775807):Con Tryz.prog 43 false [.sl l.length (qw l)] [] (fun r hs bs=>hs=[]∧bs=[]∧∃(x:FlV) (m:Int),r=.tu [.ag x.cs,.v (.int .i64 m)]):=by
 refine Con.of_aw Tryz.func43 rfl Tryz.ntmps43 (by simp) (by simp) (by simp) (W.sound ?_)
 show @W Tryz.prog 29 ⟨_⟩ ⟨fun x σ=>@qV _ _ _ ⟨_⟩ _ ⟨_⟩ x σ⟩ _ _
 simp(disch:=omega)only[go_sem]
 refine qE (apI l hl) (by simp(disch:=omega)only[go_sem]) ?_
 rintro r hs ⟨rfl, -,⟨h,rfl⟩⟩
 refine⟨by simp(disch:=omega)only[go_sem],?_⟩
 simp(disch:=omega)only[go_sem]
 refine qH 90000000 (aiS l hl 0 h (by omega)) ?_
 rintro r i1 h1 hi1 ⟨V,rfl⟩
 simp(disch:=omega)only[go_sem]
 obtain⟨K,S,M,E⟩:=V
 unfold FlV.cs
 simp(disch:=omega)only[go_sem]
 cases S
 ·simp(disch:=omega)only[go_sem]
  refine qH 90000000 (zV l hl i1 h1 hi1 3 (by omega)) ?_
  rintro r i2 h2 hi2 ⟨b,rfl⟩
  simp(disch:=omega)only[go_sem]
  cases b
  ·simp(disch:=omega)only[go_sem]
   refine qn rfl [⟨0,[],[]⟩,⟨1,[0],[]⟩,⟨2,[0],[]⟩,⟨3,[],[]⟩,⟨4,[],[]⟩] (by kernel_rfl) ?_
   simp(disch:=omega)only[go_sem]
   refine qH 90000000 (zD l hl i2 h2 hi2) ?_
   rintro r i3 h3 hi3 ⟨m,rfl⟩
   simp(disch:=omega)only[go_sem]
   exact qF (by simp(disch:=omega)only[go_sem]) ⟨rfl,rfl,⟨K,false,M,E⟩,m,rfl⟩
  ·simp(disch:=omega)only[go_sem]
   refine qx (QL K false M E K false M E 0) (by simp(disch:=omega)only[go_sem]) ?_
   rintro r hs ⟨rfl, -,⟨X,g,rfl⟩⟩
   refine⟨by simp[qK],?_⟩
   unfold FlV.cs
   simp(disch:=omega)only[go_sem]
   refine qn rfl [⟨0,[],[]⟩,⟨1,[0],[]⟩,⟨2,[0],[]⟩,⟨3,[],[]⟩,⟨4,[],[]⟩] (by kernel_rfl) ?_
   simp(disch:=omega)only[go_sem]
   refine qH 90000000 (zD l hl i2 h2 hi2) ?_
   rintro r i3 h3 hi3 ⟨m,rfl⟩
   simp(disch:=omega)only[go_sem]
   exact qF (by simp(disch:=omega)only[go_sem]) ⟨rfl,rfl,X,m,rfl⟩
 ·simp(disch:=omega)only[go_sem]
  refine qH 90000000 (zV l hl i1 h1 hi1 5 (by omega)) ?_
  rintro r i2 h2 hi2 ⟨q,rfl⟩
  simp(disch:=omega)only[go_sem]
  cases q
  ·simp(disch:=omega)only[go_sem]
   refine qH 90000000 (zV l hl i2 h2 hi2 3 (by omega)) ?_
   rintro r i3 h3 hi3 ⟨b,rfl⟩
   simp(disch:=omega)only[go_sem]
   cases b
   ·simp(disch:=omega)only[go_sem]
    refine qn rfl [⟨0,[],[]⟩,⟨1,[0],[]⟩,⟨2,[0],[]⟩,⟨3,[],[]⟩,⟨4,[],[]⟩] (by kernel_rfl) ?_
    simp(disch:=omega)only[go_sem]
    refine qH 90000000 (zD l hl i3 h3 hi3) ?_
    rintro r i4 h4 hi4 ⟨m,rfl⟩
    simp(disch:=omega)only[go_sem]
    exact qF (by simp(disch:=omega)only[go_sem]) ⟨rfl,rfl,⟨K,false,M,E⟩,m,rfl⟩
   ·simp(disch:=omega)only[go_sem]
    refine qx (QL K false M E K false M E 0) (by simp(disch:=omega)only[go_sem]) ?_
    rintro r hs ⟨rfl, -,⟨X,g,rfl⟩⟩
    refine⟨by simp[qK],?_⟩
    unfold FlV.cs
    simp(disch:=omega)only[go_sem]
    refine qn rfl [⟨0,[],[]⟩,⟨1,[0],[]⟩,⟨2,[0],[]⟩,⟨3,[],[]⟩,⟨4,[],[]⟩] (by kernel_rfl) ?_
    simp(disch:=omega)only[go_sem]
    refine qH 90000000 (zD l hl i3 h3 hi3) ?_
    rintro r i4 h4 hi4 ⟨m,rfl⟩
    simp(disch:=omega)only[go_sem]
    exact qF (by simp(disch:=omega)only[go_sem]) ⟨rfl,rfl,X,m,rfl⟩
  ·simp(disch:=omega)only[go_sem]
   refine qH 90000000 (zV l hl i2 h2 hi2 3 (by omega)) ?_
   rintro r i3 h3 hi3 ⟨b,rfl⟩
   simp(disch:=omega)only[go_sem]
   cases b
   ·simp(disch:=omega)only[go_sem]
    refine qn rfl [⟨0,[],[]⟩,⟨1,[0],[]⟩,⟨2,[0],[]⟩,⟨3,[],[]⟩,⟨4,[],[]⟩] (by kernel_rfl) ?_
    simp(disch:=omega)only[go_sem]
    refine qH 90000000 (zD l hl i3 h3 hi3) ?_
    rintro r i4 h4 hi4 ⟨m,rfl⟩
    simp(disch:=omega)only[go_sem]
    exact qF (by simp(disch:=omega)only[go_sem]) ⟨rfl,rfl,⟨K,true,M,E⟩,m,rfl⟩
   ·simp(disch:=omega)only[go_sem]
    refine qx (QL K true M E K true M E 0) (by simp(disch:=omega)only[go_sem]) ?_
    rintro r hs ⟨rfl, -,⟨X,g,rfl⟩⟩
    refine⟨by simp[qK],?_⟩
    unfold FlV.cs
    simp(disch:=omega)only[go_sem]
    refine qn rfl [⟨0,[],[]⟩,⟨1,[0],[]⟩,⟨2,[0],[]⟩,⟨3,[],[]⟩,⟨4,[],[]⟩] (by kernel_rfl) ?_
    simp(disch:=omega)only[go_sem]
    refine qH 90000000 (zD l hl i3 h3 hi3) ?_
    rintro r i4 h4 hi4 ⟨m,rfl⟩
    simp(disch:=omega)only[go_sem]
    exact qF (by simp(disch:=omega)only[go_sem]) ⟨rfl,rfl,X,m,rfl⟩
end Go.Ab
namespace Go.Ab
open Go Go.Proofs
def sqF(V:FlV)(m:Int):FlV:=if(jA m&&flB V.k V.s V.m V.e)=true then sqV V.k V.s V.m V.e m else⟨3,false,0,0⟩
def aLP(V:FlV)(m:Int):Int:=if(jA m&&flB V.k V.s V.m V.e)=true then sqG V.k V.s V.m V.e m else 16
theorem y6(V:FlV)(m:Int):Con Tryz.prog 44 true [.ag [.v (.int .i64 (V.k)),.v (.bool (V.s)),.v (.int .i64 (V.m)),.v (.int .i64 (V.e))],.v (.int .i64 m)] [] (isA (.tu [.ag [.v (.int .i64 ((sqF V m).k)),.v (.bool ((sqF V m).s)),.v (.int .i64 ((sqF V m).m)),.v (.int .i64 ((sqF V m).e))],.v (.int .i64 (aLP V m))])):=by
 have c:=ai6 V.k V.s V.m V.e m
 unfold sqF aLP
 by_cases h:(jA m&&flB V.k V.s V.m V.e)=true
 ·rw[if_pos h]at c;rw[if_pos h,if_pos h];exact c
 ·rw[if_neg h]at c;rw[if_neg h,if_neg h];exact c
theorem aXZ{V:FlV}{m:Int}(h:(flB V.k V.s V.m V.e&&(decide (V.k=0)||decide (V.k=1)))=false∨jA m=false∨(flD V).s=true):(sqF V m).k=3∨(sqF V m).k=2:=by
 unfold sqF
 by_cases hv:(jA m&&flB V.k V.s V.m V.e)=true
 ·rw[if_pos hv]
  have hv':=hv
  simp only[Bool.and_eq_true]at hv'
  obtain⟨a1,a2,a3,a4,a5,a6⟩:=zS hv'.2
  unfold sqV
  rcases h with h|h|h
  ·rw[hv'.2]at h
   have hk:V.k≠0∧V.k≠1:=by simpa using h
   split
   ·left;show V.k=3;omega
   split
   ·left;rfl
   split
   ·right;show V.k=2;assumption
   ·omega
  ·rw[hv'.1]at h;cases h
  ·have hh:oS (xS V.k V.s) V.m.toNat=true:=h
   have hs:V.k=1∧V.s=true:=by
    unfold oS xS at hh
    split at hh
    ·cases hh
    ·simpa [and_comm]using hh
   rw[if_neg (by omega),if_pos hs.2]
   left;rfl
 ·rw[if_neg hv];left;rfl
theorem aDz{F:FlV}(h:flB F.k F.s F.m F.e=true):((flD F).times (flD F)).fit=true:=by
 obtain⟨a1,_⟩:=zS h
 obtain⟨e1,e2⟩:=aiA h
 have hm:bl (flD F).m≤53:=Nat.le_trans (qQ (jK F.m.toNat)) (zl.2 (by omega))
 generalize flD F=x at*
 show z8 (x.m*x.m) (x.e+x.e)=true
 have q3:=zJ x.m x.m
 have q4:=qQ (jK (x.m*x.m))
 have q5:=Qg (m:=x.m*x.m) (e:=x.e+x.e) (lo:= -2148) (hi:=2048) (B:=106) (by omega) (by omega) (by omega) (by omega)
 have q6:=qt (m:=oM (x.m*x.m)) (B:=106) (by omega)
 unfold z8 jF
 simp only[Bool.and_eq_true,decide_eq_true_eq]
 omega
theorem aCE{a b:ExV}(ha: -1074≤a.e)(hb: -1074≤b.e)(hf:(a.times b).fit=true):(a.times b).tel.val 3000=a.val 1074*b.val 1074*2^852:=by
 have he: -2148≤(a.times b).e:=by show-2148≤a.e+b.e;omega
 rw[aHO hf,aK1 (by omega),show(3000:Nat)=2148+852 from rfl,aCB (K:=2148) he]
 exact congrArg (· *_) (ajy (K:=1074) (K':=1074) ha hb)
theorem aTb{x:ExV}(hx: -1074≤x.e):x.val 3000=x.val 1074*2^1074*2^852:=by
 rw[show(3000:Nat)=1074+(1074+852) from rfl,aCB (K:=1074) hx,Int.mul_assoc,←Int.pow_add]
set_option maxRecDepth 100000 in
set_option maxHeartbeats 4000000 in
theorem aoy(l:List UInt8)(hl:l.length≤9223372036854775807):Con Tryz.prog 8 true [.sl l.length (qw l)] [] (isA (.v (.bool true))):=by
 refine Con.of_w (rs:=[.tmp 2]) Tryz.func8 rfl Tryz.ntmps8 rfl ?_
 simp(disch:=omega)only[go_sem]
 refine qE (Jt l hl) (by simp(disch:=omega)only[go_sem]) ?_
 rintro r hs ⟨rfl, -,⟨V,m,rfl⟩⟩
 refine⟨by simp[qK],?_⟩
 unfold FlV.cs
 simp(disch:=omega)only[go_sem]
 have cF:=y6 V m
 have hno:=@aXZ V m
 have eF:(jA m&&flB V.k V.s V.m V.e)=true→sqF V m=sqV V.k V.s V.m V.e m∧aLP V m=sqG V.k V.s V.m V.e m:=fun h=>⟨if_pos h,if_pos h⟩
 generalize sqF V m=F at*
 generalize aLP V m=G at*
 refine qc (cF) ?_
 simp(disch:=omega)only[go_sem]
 cases q1:(flB V.k V.s V.m V.e&&(decide (V.k=0)||decide (V.k=1)))
 ·have kk:=hno (.inl q1)
  refine qa (apM V q1) ?_
  simp(disch:=omega)only[go_sem]
  rcases kk with kk|kk
  ·simp(disch:=omega)only[go_sem,kk]
   refine qc (jj) ?_
   simp(disch:=omega)only[go_sem]
   exact qu
  ·simp(disch:=omega)only[go_sem,kk]
   refine qc (jj) ?_
   simp(disch:=omega)only[go_sem]
   exact qu
 have q1':=(Bool.and_eq_true _ _).mp q1
 have d1:=adz V q1'.1 q1'.2
 by_cases v4:m<0
 ·have kk:=hno (.inr (.inl (by unfold jA;rw[decide_eq_false (show ¬0≤m by omega)];rfl)))
  refine qa (d1) ?_
  simp(disch:=omega)only[go_sem]
  simp(disch:=omega)only[go_sem,v4]
  rcases kk with kk|kk
  ·simp(disch:=omega)only[go_sem,kk]
   refine qc (jj) ?_
   simp(disch:=omega)only[go_sem]
   exact qu
  ·simp(disch:=omega)only[go_sem,kk]
   refine qc (jj) ?_
   simp(disch:=omega)only[go_sem]
   exact qu
 by_cases v5:4<m
 ·have kk:=hno (.inr (.inl (by unfold jA;rw[decide_eq_false (show ¬m≤4 by omega)];simp)))
  refine qa (d1) ?_
  simp(disch:=omega)only[go_sem]
  simp(disch:=omega)only[go_sem,v4,v5]
  rcases kk with kk|kk
  ·simp(disch:=omega)only[go_sem,kk]
   refine qc (jj) ?_
   simp(disch:=omega)only[go_sem]
   exact qu
  ·simp(disch:=omega)only[go_sem,kk]
   refine qc (jj) ?_
   simp(disch:=omega)only[go_sem]
   exact qu
 cases v6:(flD V).s
 rotate_left
 ·have kk:=hno (.inr (.inr v6))
  refine qa (d1) ?_
  simp(disch:=omega)only[go_sem]
  simp(disch:=omega)only[go_sem,v4,v5,v6]
  rcases kk with kk|kk
  ·simp(disch:=omega)only[go_sem,kk]
   refine qc (jj) ?_
   simp(disch:=omega)only[go_sem]
   exact qu
  ·simp(disch:=omega)only[go_sem,kk]
   refine qc (jj) ?_
   simp(disch:=omega)only[go_sem]
   exact qu
 have vm:jA m=true:=by unfold jA;rw[decide_eq_true (show 0≤m by omega),decide_eq_true (show m≤4 by omega)];rfl
 have k1:V.k=0∨V.k=1:=by simpa using q1'.2
 obtain⟨rfl,rfl⟩:=eF (by rw[vm,q1'.1];rfl)
 have vv:∀n,jA n=true→(jA n&&flB V.k V.s V.m V.e)=true:=fun n hn=>by rw[hn,q1'.1];rfl
 have cD:=y6 V 3
 have cT:=y6 V 2
 have oD:=azW (m:=3) q1'.1
 have oT:=azW (m:=2) q1'.1
 obtain⟨m1,i2,i3,m2,m3,m4⟩:=aH1 q1'.1 k1 v6 m rfl rfl rfl rfl
 rw[show sqF V 3=sqV V.k V.s V.m V.e 3 from if_pos (vv 3 rfl)]at cD
 rw[show sqF V 2=sqV V.k V.s V.m V.e 2 from if_pos (vv 2 rfl)]at cT
 generalize sqV V.k V.s V.m V.e m=F at*
 generalize sqV V.k V.s V.m V.e 3=D at*
 generalize sqV V.k V.s V.m V.e 2=T at*
 generalize sqG V.k V.s V.m V.e m=G at*
 generalize aLP V 3=G3 at*
 generalize aLP V 2=G2 at*
 have x_ok:=KN q1'.1
 have x_e:=aiA q1'.1
 generalize flD V=x at*
 clear cF eF vv hno
 refine qa (d1) ?_
 simp(disch:=omega)only[go_sem]
 simp(disch:=omega)only[go_sem,v4,v5,v6]
 refine qc (cD) ?_
 simp(disch:=omega)only[go_sem]
 refine qc (cT) ?_
 simp(disch:=omega)only[go_sem]
 refine qa (adz D oD i2) ?_
 simp(disch:=omega)only[go_sem]
 refine qa (adz T oT i3) ?_
 simp(disch:=omega)only[go_sem]
 have f1:=aDz oD
 have f2:=aDz oT
 have pv:=aCE (aiA oD).1 (aiA oD).1 f1
 have qv:=aCE (aiA oT).1 (aiA oT).1 f2
 have xv:=aTb x_e.1
 have hP:(0:Int)<2^852:=Int.pow_pos (by omega)
 have c1:=Z7 ((flD D).times (flD D)).tel x (adY _) x_ok
 have c2:=Z7 x ((flD T).times (flD T)).tel x_ok (adY _)
 have c3:=Z7 ((flD D).times (flD D)).tel ((flD T).times (flD T)).tel (adY _) (adY _)
 have a1:decide (zw (((flD D).times (flD D)).tel.val 3000) (x.val 3000)≤0)=true:=decide_eq_true ((Jb _ _).1.2 (by rw[pv,xv];exact Int.mul_le_mul_of_nonneg_right m2 (Int.le_of_lt hP)))
 have a2:decide (zw (x.val 3000) (((flD T).times (flD T)).tel.val 3000)≤0)=true:=decide_eq_true ((Jb _ _).1.2 (by rw[qv,xv];exact Int.mul_le_mul_of_nonneg_right m3 (Int.le_of_lt hP)))
 have a3:decide (zw (((flD D).times (flD D)).tel.val 3000) (((flD T).times (flD T)).tel.val 3000)=0)=decide (G=0):=by
  rw[decide_eq_decide,(Jb _ _).2.2,pv,qv,m4]
  exact⟨fun h=>Int.eq_of_mul_eq_mul_right (Int.ne_of_gt hP) h,fun h=>by rw[h]⟩
 refine qa (aem (flD D) (flD D) true (KN oD) (KN oD)) ?_
 simp(disch:=omega)only[go_sem]
 refine qa (aem (flD T) (flD T) (((flD D).times (flD D)).fit&&true) (KN oT) (KN oT)) ?_
 simp(disch:=omega)only[go_sem]
 rcases m1 with rfl|rfl
 ·simp(disch:=omega)only[go_sem,f1,f2,QA,Bool.and_true]
  refine qc (c1) ?_ (by simp(disch:=omega)only[go_sem,v6])
  simp(disch:=omega)only[go_sem]
  simp(disch:=omega)only[go_sem,a1]
  refine qc (c2) ?_ (by simp(disch:=omega)only[go_sem,v6])
  simp(disch:=omega)only[go_sem]
  simp(disch:=omega)only[go_sem,a2]
  refine qc (c3) ?_
  simp(disch:=omega)only[go_sem]
  by_cases g:G=0
  ·rw[decide_eq_true g]at a3
   simp(disch:=omega)only[go_sem,a3,g]
   exact qu
  ·rw[decide_eq_false g]at a3
   simp(disch:=omega)only[go_sem,a3,g]
   exact qu
 ·cases hE:aqJ F.k F.s F.m F.e D.k D.s D.m D.e
  ·simp(disch:=omega)only[go_sem,f1,f2,hE,QA,Bool.and_true]
   refine qc (c1) ?_ (by simp(disch:=omega)only[go_sem,v6])
   simp(disch:=omega)only[go_sem]
   simp(disch:=omega)only[go_sem,a1]
   refine qc (c2) ?_ (by simp(disch:=omega)only[go_sem,v6])
   simp(disch:=omega)only[go_sem]
   simp(disch:=omega)only[go_sem,a2]
   refine qc (c3) ?_
   simp(disch:=omega)only[go_sem]
   by_cases g:G=0
   ·rw[decide_eq_true g]at a3
    simp(disch:=omega)only[go_sem,a3,g]
    exact qu
   ·rw[decide_eq_false g]at a3
    simp(disch:=omega)only[go_sem,a3,g]
    exact qu
  ·simp(disch:=omega)only[go_sem,f1,f2,hE,QA,Bool.and_true]
   refine qc (c1) ?_ (by simp(disch:=omega)only[go_sem,v6])
   simp(disch:=omega)only[go_sem]
   simp(disch:=omega)only[go_sem,a1]
   refine qc (c2) ?_ (by simp(disch:=omega)only[go_sem,v6])
   simp(disch:=omega)only[go_sem]
   simp(disch:=omega)only[go_sem,a2]
   refine qc (c3) ?_
   simp(disch:=omega)only[go_sem]
   by_cases g:G=0
   ·rw[decide_eq_true g]at a3
    simp(disch:=omega)only[go_sem,a3,g]
    exact qu
   ·rw[decide_eq_false g]at a3
    simp(disch:=omega)only[go_sem,a3,g]
    exact qu
end Go.Ab
namespace Go.Proofs.YtjkhfpjccemboaaGreatDoor
open Go.ChangeShapes Go.WideShapes Go.ChangeAt Go.RowKit Go.Ab
theorem own:ownKnob Tryz.prog.godebug=none:=by kernel_rfl
theorem aJB:laidOutB Tryz.prog=true:=by kernel_rfl
theorem anA:Tryz.prog.globalNamed "math/bits.deBruijn64tab" =some 1:=by kernel_rfl
theorem aHQ:(Tryz.prog.globals[1]?).map (·.type)=some 257:=by kernel_rfl
theorem aHP:Tryz.prog.underlying 257=some (.array 64 5):=by kernel_rfl
theorem aHT:Tryz.prog.underlying 5=some (.int .u8):=by kernel_rfl
theorem aHU:Tryz.prog.cellsOf 5=1:=by kernel_rfl
theorem aHR:Tryz.prog.cellsOf 257=64:=by kernel_rfl
noncomputable def yH:List (String×DataW Unit):=[("math/bits.deBruijn32tab",Rows.laid_math_bits_deBruijn32tab),("math/bits.deBruijn64tab",Rows.laid_math_bits_deBruijn64tab)]
theorem aHS{W:World}(h:laidMetH Tryz.prog yH W):Gd W:=by
 have h':laidMet Tryz.prog yH W:=h
 have h2:laidMet Tryz.prog [("math/bits.deBruijn64tab",Lib.tabData .u8 (Lib.deBruijn64tab.map Int.ofNat))] W:=laidMet.tail h'
 have hT:=Lib.tabIs_of_head anA aHQ aHP aHT aHU aHR h2
 intro g l hg
 unfold glb at hg
 split at hg
 ·rename_i e
  subst e
  cases hg
  have hc:∀i,i<Lib.deBruijn64tab.length→W.cell? ⟨1,i,none⟩=some (.int .u8 ((Lib.deBruijn64tab.getD i 0:Nat):Int)):=fun i hi=>by
   have:=hT.cell anA i (by simpa using hi)
   rw[this]
   simp[List.getD,hi]
  exact⟨aeq (hc 0 (by decide)),hc⟩
 ·cases hg
noncomputable def KE(os:Os):World:=
 let w0:=World.holding Tryz.prog os ⟨#[],#[],[]⟩
 {w0 with heap:=(w0.heap.modify 1 fun
   | .cells _ t frozen=>.cells (Lib.deBruijn64tab.map fun z=>Value.int .u8 (Int.ofNat z)).toArray t frozen
   |o=>o).modify 0 fun
   | .cells _ t frozen=>.cells (Lib.deBruijn32tab.map fun z=>Value.int .u8 (Int.ofNat z)).toArray t frozen
   |o=>o}
theorem Yr(os:Os)(args:Array Value):laidMetH Tryz.prog yH ((KE os).forCall (fun _ _=>0) ⟨#[],args,[]⟩).memory:=
 laidMetH_of_parts (laidMet_of_run' 8 (by kernel_rfl) (by kernel_rfl)) (by kernel_rfl)
end Go.Proofs.YtjkhfpjccemboaaGreatDoor
