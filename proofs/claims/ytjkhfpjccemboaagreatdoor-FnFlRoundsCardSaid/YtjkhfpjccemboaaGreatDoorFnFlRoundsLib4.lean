/- What the proof of this claim stands on: the walks of the functions and the plain laws, part 4. -/
import Derived.Test.YtjkhfpjccemboaaGreatDoorFnFlRoundsLib3
import Derived.Carry
import Derived.ChangeSlices
set_option linter.unusedVariables false
set_option linter.unusedSimpArgs false
namespace Go.Ab
open Go Go.Proofs
set_option maxRecDepth 100000 in
theorem ai6(a b:Nat)(hb:b≠0)(la:(lim a).length≤900000)(lb:(lim b).length≤900000):
  Con Tryz.prog 268 false [.sl (lim (a)).length (qg (lim (a))),.sl (lim (b)).length (qg (lim (b)))] [] (aYL (.tu [.sl (lim (a/b)).length (qg (lim (a/b))),.sl (lim (a % b)).length (qg (lim (a % b)))])):=by
 refine Con.of_aw Tryz.func268 rfl Tryz.ntmps268 (by simp) (by simp) (by simp) (W.sound ?_)
 show @W Tryz.prog 96 ⟨_⟩ ⟨fun x σ=>@za _ _ _ ⟨_⟩ _ ⟨_⟩ x σ⟩ _ _
 simp(disch:=omega)only[go_sem]
 refine qB (jb a b (by omega) (by omega)) (by simp(disch:=omega)only[go_sem]) ?_
 rintro r hs ⟨rfl,rfl,_⟩
 refine⟨by simp[qS],?_⟩
 simp(disch:=omega)only[go_sem]
 refine qe (fun h1=>?_) (fun h1=>?_)
 ·simp(disch:=omega)only[go_sem,h1]
  have hab:a<b:=by
   unfold zE at h1;split at h1
   ·omega
   ·split at h1<;>omega
  refine qa (K9 false (lim a) (by omega)).num ?_
  simp(disch:=omega)only[go_sem]
  refine qE (by simp(disch:=omega)only[go_sem]) ?_
  show qP _ 6 _=_
  rw[Nat.div_eq_of_lt hab,Nat.mod_eq_of_lt hab]
  simp only[qP,qm];rfl
 ·have hab:b≤a:=by
   unfold zE at h1;split at h1
   ·omega
   ·omega
  have ha:a≠0:=by omega
  have hlb:=Qg hb
  simp(disch:=omega)only[go_sem,h1]
  refine qe (fun h2=>?_) (fun h2=>?_)
  ·simp(disch:=omega)only[go_sem,h2]
   have hb6:b<65536:=by have:=ZG b;rw[show(lim b).length=1 by omega]at this;omega
   have e0:(lim b).getD 0 0=(b:Int):=by rw[zW];simp;omega
   simp(disch:=omega)only[go_sem,e0]
   refine⟨by omega,by omega,?_⟩
   refine qa (ap0 a b (by omega) (by omega) hb6) ?_
   simp(disch:=omega)only[go_sem]
   have:a % b<b:=Nat.mod_lt _ (by omega)
   refine qa (zw (a % b) (by omega)) ?_
   simp(disch:=omega)only[go_sem]
   exact qE (by simp(disch:=omega)only[go_sem]) (by rfl)
  ·have hl2:2≤(lim b).length:=by omega
   have hll:(lim b).length≤(lim a).length:=yB hab
   have ht:=ZI hb
   have eb:(((lim b).length:Int)-1).toNat=(lim b).length-1:=by omega
   have hnd:=aAC hb _ rfl
   simp(disch:=omega)only[go_sem,h2,eb,zW]
   have e3:((b/65536^((lim b).length-1) % 65536:Nat):Int)=((b/65536^((lim b).length-1):Nat):Int):=by rw[Nat.mod_eq_of_lt ht.2]
   generalize hq:b/65536^((lim b).length-1)=q at*
   have hq16:bl q≤16:=q9.2 (by omega)
   simp(disch:=omega)only[go_sem,e3,ajw]
   refine⟨by omega,by omega,?_⟩
   refine qb (apA q (by omega)) ?_
   simp(disch:=omega)only[go_sem]
   have e4:(16:Int)-(bl q:Int)=((16-bl q:Nat):Int):=by omega
   simp(disch:=omega)only[go_sem,e4]
   generalize hs:16-bl q=s at*
   obtain⟨hs16,hvl,hv1,hvge⟩:=hnd
   refine qF (zG b s (by omega) (by omega)) (by simp(disch:=omega)only[go_sem,e4]) ?_
   rintro r hs0 ⟨rfl,rfl,_⟩
   refine⟨by simp[qS],?_⟩
   simp(disch:=omega)only[go_sem]
   refine qF (apl false a s (by omega) (by omega)) (by simp(disch:=omega)only[go_sem,e4]) ?_
   have hun:a*2^s≠0:=by have:0<2^s:=Nat.pow_pos (by omega);have:=Nat.mul_pos (show 0<a by omega) this;omega
   rintro r hs1 (⟨h,_,_⟩|⟨zs,rfl,rfl⟩)
   ·exact absurd (qH.1 h) hun
   refine⟨⟨by simp,by simp(disch:=omega)only[go_sem]⟩,?_⟩
   have hul:=aiz a hs16
   have hug:=aoy a s
   have ex:((lim a).length:Int)+1-((lim (a*2^s)).length:Int)=(((lim a).length+1-(lim (a*2^s)).length:Nat):Int):=by omega
   have ecut:(lim (a*2^s)++zs).take (lim (a*2^s)).length=lim (a*2^s):=List.take_left' rfl
   have em:(((lim a).length:Int)-((lim b).length:Int)+1).toNat=(lim a).length-(lim b).length+1:=by omega
   simp(disch:=omega)only[go_sem,ex,ecut,em]
   generalize hU0:lim (a*2^s)++List.replicate ((lim a).length+1-(lim (a*2^s)).length) 0=U0
   have lU0:U0.length=(lim a).length+1:=by rw[←hU0];simp;omega
   have gU0:gd U0:=by rw[←hU0];exact qO.2 ⟨qU _,zz _⟩
   have vU0:vl U0=((a*2^s:Nat):Int):=by rw[←hU0,adY,qW]
   have hfw:=ao6 gU0 hll hlb hs16 lU0 vU0 hvge
   have elen:(lim (a*2^s)).length+((lim a).length+1-(lim (a*2^s)).length)=U0.length:=by omega
   refine⟨by omega,⟨by simp,by omega⟩,by omega,?_⟩
   generalize hV:lim (b*2^s)=V at*
   have gV:gd V:=by rw[←hV];exact qU _
   have vV:vl V=((b*2^s:Nat):Int):=by rw[←hV,qW]
   generalize hm:(lim a).length-(lim b).length+1=m at*
   refine qk (fun x:Nat×List Int×List Int=>[(8,.v (.int .i64 s)),(9,.sl V.length (qg V)),(10,.rf 0 0 x.2.1.length),(11,.rf 1 0 x.2.2.length),(12,.v (.int .i64 ((x.1:Int)-1)))])
    (fun x=>[(0,.own 1 (qg x.2.1)),(1,.own 1 (qg x.2.2))])
    (fun x=>x.1≤m∧x.2.1.length=U0.length∧gd x.2.1∧x.2.2.length=m∧gd x.2.2∧vl (x.2.1.drop x.1)<vl V∧vl x.2.1+vl V*(65536^x.1*vl (x.2.2.drop x.1))=((a*2^s:Nat):Int))
    (fun x=>x.1) (m,U0,List.replicate m 0) ⟨Nat.le_refl _,rfl,gU0,by simp,zz _,by show vl (U0.drop m)<vl V;rw[vV];exact hfw,by show vl U0+vl V*(65536^m*vl ((List.replicate m 0).drop m))=_;rw[List.drop_of_length_le (by simp)];simp[vl];exact vU0⟩
    (Le.lst [(0,580000000),(1,650000000)] _ _ rfl (by simp(disch:=omega)only[go_sem,elen,e4,List.length_replicate];try omega) (by simp(disch:=omega)only[go_sem,hU0,em])) ?_
   rintro⟨k,U,O⟩ ⟨hk,lU,gU,lO,gO,hlt,hval⟩
   dsimp only at hk lU gU lO gO hlt hval ⊢
   simp(disch:=omega)only[go_sem]
   refine qe (fun g1=>?_) (fun g1=>?_)
   ·obtain⟨j,rfl⟩:∃j,k=j+1:=⟨k-1,by omega⟩
    have ej:((j+1:Nat):Int)-1=(j:Nat):=by omega
    have hWj:vl (U.drop j)<65536*vl V:=by
     rw[zF (by omega)]
     have:=qN gU j
     omega
    simp(disch:=omega)only[go_sem,g1,ej]
    refine qB (adG U V j gU gV (by omega) (by omega) (by omega) (by rw[hvl];exact hv1) hWj) (by simp(disch:=omega)only[go_sem]) ?_
    rintro r hs ⟨qd,rfl,rfl,_,hq,hq1,hq2⟩
    refine⟨by simp[qS],?_⟩
    simp(disch:=omega)only[go_sem]
    refine zk false [0] (KU U V j qd gU gV (by omega) (by omega) hq) (by simp(disch:=omega)only[go_sem]) (by simp(disch:=omega)only[go_sem]) rfl (zg (z:=1) (cs:=qg U) (by simp(disch:=omega)only[go_sem]) (by simp(disch:=omega)only[go_sem])) (by intro n hn;exact⟨_,List.mem_cons_self ..,by rw[List.mem_singleton.1 hn];rfl⟩) ?_
    rintro r hs bs ⟨U',bo,rfl,rfl,rfl,hl',gU',hbo,hsm,hv'⟩ _
    refine⟨by simp[qS],?_⟩
    generalize hT:U'.set (j+V.length) (U.getD (j+V.length) 0-bo)=T at*
    obtain⟨lT,vT,wT,tT,aT,pT,nT⟩:=anD gU gV (by omega) hWj hq1 hq2 hl' gU' hsm hv' T hT.symm
    have hfin:∀(U2:List Int) (qf:Int),vl U2=vl U-65536^j*(qf*vl V)→vl U2+vl V*(65536^j*vl ((O.set j qf).drop j))=((a*2^s:Nat):Int):=by
     intro U2 qf h2
     rw[Ks (by omega),h2,←hval,Int.pow_succ]
     generalize (65536:Int)^j=Pj at*
     grind
    simp(disch:=omega)only[go_sem]
    refine qe (fun g2=>?_) (fun g2=>?_)
    ·obtain⟨⟨n1,n2⟩,n3⟩:=nT g2
     simp(disch:=omega)only[go_sem,g2]
     refine zk false [0] (adJ T V j n3 (by rw[tT];omega) gV (by omega) (by omega)) (by simp(disch:=omega)only[go_sem,lT]) (by simp(disch:=omega)only[go_sem]) rfl (zg (z:=1) (cs:=qg T) (by simp(disch:=omega)only[go_sem]) (by simp(disch:=omega)only[go_sem])) (by intro n hn;exact⟨_,List.mem_cons_self ..,by rw[List.mem_singleton.1 hn];rfl⟩) ?_
     rintro r hs bs ⟨T',rfl,rfl,rfl,lT',gT',sT',vT'⟩ _
     refine⟨by simp[qS],?_⟩
     rw[Int.add_mul]at hq1
     obtain⟨gT2,wT2⟩:=aqu gV (by omega) lT' gT' sT' aT vT' (by omega) (by omega)
     simp(disch:=omega)only[go_sem,lO]
     have hqp:0<qd:=by
      have h3:=qM (jj gU j)
      rcases(by omega:0<qd∨qd=0)with h|h
      ·exact h
      ·subst h;simp at n2;omega
     refine⟨by omega,by omega,qh (j,T',O.set j (qd-1)) [] ⟨by show j≤m;omega,by show T'.length=_;omega,gT2,by simp[lO],yM gO (by omega),by show vl (T'.drop j)<vl V;omega,hfin T' (qd-1) ?_⟩ (by show j<j+1;omega) rfl (by simp(disch:=omega)only[go_sem,List.length_set];try omega) (by simp(disch:=omega)only[go_sem])⟩
     rw[vT',vT,Int.sub_mul,Int.one_mul,Int.mul_sub];omega
    ·obtain⟨p1,p2⟩:=pT g2
     rw[Int.add_mul]at hq1
     simp(disch:=omega)only[go_sem,g2,lO]
     refine⟨by omega,by omega,qh (j,T,O.set j qd) [] ⟨by show j≤m;omega,by show T.length=_;omega,p1,by simp[lO],yM gO hq,by show vl (T.drop j)<vl V;omega,hfin T qd vT⟩ (by show j<j+1;omega) rfl (by simp(disch:=omega)only[go_sem,List.length_set];try omega) (by simp(disch:=omega)only[go_sem])⟩
   ·have:k=0:=by omega
    subst this
    rw[List.drop_zero]at hlt
    rw[List.drop_zero,Int.pow_zero,Int.one_mul]at hval
    have hvO:=qM gO
    have hvU:=qM gU
    have hcO:=je gO
    have hcU:=je gU
    have hpS:0<2^s:=Nat.pow_pos (by omega)
    obtain⟨d1,d2⟩:(vl O).toNat=a/b∧(vl U).toNat=a % b*2^s:=by
     refine aBT hpS (by omega) ?_ (by omega)
     rw[vV]at hval
     have:((vl U).toNat:Int)+((b*2^s:Nat):Int)*((vl O).toNat:Int)=((a*2^s:Nat):Int):=by
      rw[Int.toNat_of_nonneg hvO,Int.toNat_of_nonneg hvU];exact hval
     rw[←Int.natCast_mul,←Int.natCast_add]at this
     exact Int.ofNat.inj this
    rw[d1]at hcO
    rw[d2]at hcU
    obtain⟨zo,hzo⟩:=zP O
    obtain⟨zu,hzu⟩:=zP U
    have htU:=apj U
    rw[hcO]at hzo
    rw[hcU]at hzu htU
    simp(disch:=omega)only[go_sem,g1]
    refine zk false [1] (jp O (by omega)) (by simp(disch:=omega)only[go_sem]) (by simp(disch:=omega)only[go_sem]) rfl (zg (z:=1) (cs:=qg O) (by simp(disch:=omega)only[go_sem]) (by simp(disch:=omega)only[go_sem])) (by intro n hn;exact⟨_,List.mem_singleton.2 rfl,by rw[List.mem_singleton.1 hn];rfl⟩) ?_
    rintro r hs bs ⟨rfl,rfl,rfl⟩ _
    refine⟨by simp[qS],?_⟩
    simp(disch:=omega)only[go_sem]
    refine zk false [0] (jp U (by omega)) (by simp(disch:=omega)only[go_sem]) (by simp(disch:=omega)only[go_sem]) rfl (zg (z:=1) (cs:=qg U) (by simp(disch:=omega)only[go_sem]) (by simp(disch:=omega)only[go_sem])) (by intro n hn;exact⟨_,List.mem_singleton.2 rfl,by rw[List.mem_singleton.1 hn];rfl⟩) ?_
    rintro r hs bs ⟨rfl,rfl,rfl⟩ _
    refine⟨by simp[qS],?_⟩
    simp(disch:=omega)only[go_sem,hcO,hcU]
    have hlr:(lim (a % b*2^s)).length≤1000000:=by
     have:=congrArg List.length hzu
     simp at this;omega
    refine qB (K7 true (a % b*2^s) s hlr (by omega)) (by simp(disch:=omega)only[go_sem,htU]) ?_
    rw[Nat.mul_div_cancel _ hpS]
    rintro r hs2 (⟨h,rfl,rfl⟩|⟨z2,rfl,rfl⟩)
    ·refine⟨⟨by simp,by simp(disch:=omega)only[go_sem]⟩,?_⟩
     simp(disch:=omega)only[go_sem]
     refine qj [(0,1)] [.own 1 (qg O)] [] [.rf 0 0 (lim (a/b)).length,.v (.slice none 0 0)] rfl (by simp(disch:=omega)only[go_sem]) (by simp(disch:=omega)only[go_sem]) (by simp) (by simp) ?_
     show qP _ 6 _=_
     unfold qP
     simp only[q6,List.map_cons,List.map_nil]
     rw[hzo,j1 (k:=3) (l:=lim (a/b)) (zs:=List.replicate zo 0) zv rfl,h]
     rfl
    ·refine⟨⟨by simp,by simp(disch:=omega)only[go_sem]⟩,?_⟩
     simp(disch:=omega)only[go_sem]
     refine qj [(0,1),(1,970000000)] [.own 1 (qg O),.own 1 (qg (lim (a % b)++z2))] [] [.rf 0 0 (lim (a/b)).length,.rf 1 0 (lim (a % b)).length] rfl (by simp(disch:=omega)only[go_sem]) (by simp(disch:=omega)only[go_sem]) (by simp) (by simp) ?_
     show qP _ 6 _=_
     unfold qP
     simp only[q6,List.map_cons,List.map_nil]
     rw[hzo,j1 (k:=3) (l:=lim (a/b)) (zs:=List.replicate zo 0) zv rfl,j1 (k:=3) (l:=lim (a % b)) (zs:=z2) aIr rfl]
end Go.Ab
namespace Go.Ab
open Go Go.Proofs
theorem QI(n lo hi:Int):Con Tryz.prog 100 true [.v (.int .i64 n),.v (.int .i64 lo),.v (.int .i64 hi)] [] (fun r hs bs=>r=.v (.bool (decide (lo≤n)&&decide (n≤hi)))∧hs=[]):=by
 refine Con.of_aw Tryz.func100 rfl Tryz.ntmps100 (by simp) (by simp) (by simp) (W.sound ?_)
 show @W Tryz.prog 15 ⟨_⟩ ⟨fun x σ=>@za _ _ _ ⟨_⟩ _ ⟨_⟩ x σ⟩ _ _
 simp(disch:=omega)only[go_sem]
 refine qe (fun h1=>?_) (fun h1=>?_)
 ·simp(disch:=omega)only[go_sem,h1]
  refine qj [] [] [] [.v (.bool (decide (n≤hi)))] rfl (by simp(disch:=omega)only[go_sem]) (by simp(disch:=omega)only[go_sem]) (by simp) (by simp[AV.pu,q6]) ⟨by simp[q6,h1],rfl⟩
 ·simp(disch:=omega)only[go_sem,h1]
  refine qj [] [] [] [.v (.bool false)] rfl (by simp(disch:=omega)only[go_sem]) (by simp(disch:=omega)only[go_sem]) (by simp) (by simp[AV.pu,q6]) ⟨by simp[q6,h1],rfl⟩
end Go.Ab
namespace Go.Ab
open Go Go.Proofs
theorem adF(a b:Nat)(hb:b≠0)(la:(lim a).length≤900000)(lb:(lim b).length≤900000):
  Con Tryz.prog 268 false [.sl (lim (a)).length (qg (lim (a))),.sl (lim (b)).length (qg (lim (b)))] [] (isA (.tu [.sl (lim (a/b)).length (qg (lim (a/b))),.sl (lim (a % b)).length (qg (lim (a % b)))])):=(ai6 a b hb la lb).frzA
theorem adu(neg odd:Bool)(half mode:Int):Con Tryz.prog 220 true [.v (.bool neg),.v (.bool odd),.v (.int .i64 half),.v (.int .i64 mode)] [] (isA (.v (.bool (rup neg odd half mode)))):=by
 refine Con.of_aw Tryz.func220 rfl Tryz.ntmps220 (by simp) (by simp) (by simp) (W.sound ?_)
 show @W Tryz.prog 32 ⟨_⟩ ⟨fun x σ=>@za _ _ _ ⟨_⟩ _ ⟨_⟩ x σ⟩ _ _
 simp(disch:=omega)only[go_sem]
 refine qe (fun h1=>?_) (fun h1=>?_)
 ·simp(disch:=omega)only[go_sem,h1]
  exact qc (by simp(disch:=omega)only[go_sem]) (by simp(disch:=omega)only[go_sem]) ⟨by simp[q6,rup,h1],rfl,rfl⟩
 ·simp(disch:=omega)only[go_sem,h1]
  refine qe (fun h2=>?_) (fun h2=>?_)
  ·simp(disch:=omega)only[go_sem,h2]
   exact qc (by simp(disch:=omega)only[go_sem]) (by simp(disch:=omega)only[go_sem]) ⟨by simp[q6,rup,h2],rfl,rfl⟩
  ·simp(disch:=omega)only[go_sem,h2]
   refine qe (fun h3=>?_) (fun h3=>?_)
   ·simp(disch:=omega)only[go_sem,h3]
    refine q7 (fun h4=>?_) (fun h4=>?_)
    ·simp(disch:=omega)only[go_sem,h4]
     refine qe (fun h5=>?_) (fun h5=>?_)
     ·simp(disch:=omega)only[go_sem,h5]
      exact qc (by simp(disch:=omega)only[go_sem]) (by simp(disch:=omega)only[go_sem]) ⟨by simp[q6,rup,h3,h5],rfl,rfl⟩
     ·simp(disch:=omega)only[go_sem,h5]
      exact qc (by simp(disch:=omega)only[go_sem]) (by simp(disch:=omega)only[go_sem]) ⟨by simp[q6,rup,h3,h4,h5],rfl,rfl⟩
    ·simp(disch:=omega)only[go_sem,h4]
     exact qc (by simp(disch:=omega)only[go_sem]) (by simp(disch:=omega)only[go_sem]) ⟨by simp[q6,rup,h3,h4],rfl,rfl⟩
   ·simp(disch:=omega)only[go_sem,h3]
    refine qe (fun h4=>?_) (fun h4=>?_)
    ·simp(disch:=omega)only[go_sem,h4]
     exact qc (by simp(disch:=omega)only[go_sem]) (by simp(disch:=omega)only[go_sem]) ⟨by simp[q6,rup,h4],rfl,rfl⟩
    ·simp(disch:=omega)only[go_sem,h4]
     exact qc (by simp(disch:=omega)only[go_sem]) (by simp(disch:=omega)only[go_sem]) ⟨by simp[q6,rup,h1,h2,h3,h4],rfl,rfl⟩
theorem ai1(mode:Int):Con Tryz.prog 65 true [.v (.int .i64 mode)] [] (isA (.v (.bool (decide (0≤mode)&&decide (mode≤4))))):=by
 refine Con.of_w (rs:=[.tmp 2]) Tryz.func65 rfl Tryz.ntmps65 rfl ?_
 simp(disch:=omega)only[go_sem]
 refine qB (QI mode 0 4) (by simp(disch:=omega)only[go_sem]) ?_
 rintro r hs ⟨rfl,rfl⟩
 refine⟨by simp[qS],?_⟩
 simp(disch:=omega)only[go_sem]
 exact qq
theorem QL(neg:Bool)(a b:Nat)(mode:Int)(hb:b≠0)(la:bl a≤8000000)(lb:bl b≤8000000):
  Con Tryz.prog 252 false [.v (.bool neg),.sl (lim (a)).length (qg (lim (a))),.sl (lim (b)).length (qg (lim (b))),.v (.int .i64 mode)] [] (isA (.tu [.sl (lim (rq neg a b mode)).length (qg (lim (rq neg a b mode))),.v (.bool (decide (a % b=0)))])):=by
 refine Con.of_aw Tryz.func252 rfl Tryz.ntmps252 (by simp) (by simp) (by simp) (W.sound ?_)
 show @W Tryz.prog 36 ⟨_⟩ ⟨fun x σ=>@za _ _ _ ⟨_⟩ _ ⟨_⟩ x σ⟩ _ _
 simp(disch:=omega)only[go_sem]
 have lla:=qy la
 have llb:=qy lb
 refine qa (adF a b hb (by omega) (by omega)) ?_
 simp(disch:=omega)only[go_sem]
 have hmb:a % b<b:=Nat.mod_lt _ (by omega)
 have llr:=qy (Nat.le_trans (zf (Nat.le_of_lt hmb)) lb)
 have llq:=qy (Nat.le_trans (Qw a b) la)
 refine qe (fun h1=>?_) (fun h1=>?_)
 ·simp(disch:=omega)only[go_sem,h1]
  have h0:a % b=0:=qH.1 (List.length_eq_zero_iff.1 (by omega))
  refine qE (by simp(disch:=omega)only[go_sem]) ⟨?_,rfl,rfl⟩
  simp[q6,rq,h0]
 ·simp(disch:=omega)only[go_sem,h1]
  have h0:a % b≠0:=fun e=>h1 (by rw[e,qm];rfl)
  refine qb (aaa (a/b) 0 (by omega) (by omega) (by omega)) ?_
  simp(disch:=omega)only[go_sem]
  refine qa (zG (a % b) 1 (by omega) (by omega)) ?_
  simp(disch:=omega)only[go_sem]
  have llu:=qy (Nat.le_trans (YV (a % b) 1) (Nat.add_le_add_right (Nat.le_trans (zf (Nat.le_of_lt hmb)) lb) 1))
  refine qb (jb (a % b*2^1) b (by omega) (by omega)) ?_
  simp(disch:=omega)only[go_sem]
  have e1:(decide (((a/b/1 % 2:Nat):Int)=1))=decide (a/b % 2=1):=by
   simp;omega
  refine qb (adu neg (decide (a/b % 2=1)) (zE ((a % b*2^1:Nat):Int) (b:Int)) mode) ?_ (by simp(disch:=omega)only[go_sem,e1,Int.toNat_zero,Nat.pow_zero])
  simp(disch:=omega)only[go_sem]
  refine zY (fun h2=>?_) (fun h2=>?_)
  ·simp(disch:=omega)only[go_sem,h2]
   refine qa (zw 1 (by omega)) ?_
   simp(disch:=omega)only[go_sem]
   have l1:(lim 1).length≤2000000:=by have:=qy (m:=1) (B:=1) (by decide);omega
   refine qa (KW (a/b) 1 (by omega) l1) ?_
   simp(disch:=omega)only[go_sem]
   refine qE (by simp(disch:=omega)only[go_sem]) ⟨?_,rfl,rfl⟩
   have e:rq neg a b mode=a/b+1:=by unfold rq;rw[if_neg h0,if_pos h2]
   rw[e];simp[q6,h0]
  ·simp(disch:=omega)only[go_sem,h2]
   refine qE (by simp(disch:=omega)only[go_sem]) ⟨?_,rfl,rfl⟩
   have e:rq neg a b mode=a/b:=by unfold rq;rw[if_neg h0,if_neg (by rw[h2];simp)]
   rw[e];simp[q6,h0]
end Go.Ab
namespace Go.Ab
open Go Go.Proofs
theorem js(s:Bool)(m:Nat)(e:Int):Con Tryz.prog 193 true [.ag [.v (.bool (s)),.sl (lim (m)).length (qg (lim (m))),.v (.int .i64 (e))]] [] (isA (.v (.bool (decide (m=0))))):=by
 refine Con.of_aw Tryz.func193 rfl Tryz.ntmps193 (by simp) (by simp) (by simp) (W.sound ?_)
 show @W Tryz.prog 7 ⟨_⟩ ⟨fun x σ=>@za _ _ _ ⟨_⟩ _ ⟨_⟩ x σ⟩ _ _
 simp(disch:=omega)only[go_sem]
 refine qc (by simp(disch:=omega)only[go_sem]) (by simp(disch:=omega)only[go_sem]) ⟨?_,rfl,rfl⟩
 have:decide (((lim m).length:Int)=0)=decide (m=0):=by
  rw[decide_eq_decide]
  exact⟨fun h=>qH.1 (List.length_eq_zero_iff.1 (by omega)),fun h=>by rw[h,qm];rfl⟩
 rw[this];rfl
theorem jE(s:Bool)(m:Nat)(e:Int)(hm:(lim m).length≤2^40)(he: -2^40≤e∧e≤2^40):Con Tryz.prog 118 true [.ag [.v (.bool (s)),.sl (lim (m)).length (qg (lim (m))),.v (.int .i64 (e))]] [] (isA (.v (.int .i64 (if m=0 then 0 else(bl m:Int)+e)))):=by
 refine Con.of_w (rs:=[.tmp 2]) Tryz.func118 rfl Tryz.ntmps118 rfl ?_
 simp(disch:=omega)only[go_sem]
 refine qe (fun h1=>?_) (fun h1=>?_)
 ·simp(disch:=omega)only[go_sem,h1]
  have h0:m=0:=qH.1 (List.length_eq_zero_iff.1 (by omega))
  rw[if_pos h0]
  exact qq
 ·have h0:m≠0:=fun e=>h1 (by rw[e,qm];rfl)
  have:=JY (m:=m)
  simp(disch:=omega)only[go_sem,h1]
  refine qo rfl [⟨0,[],[]⟩,⟨1,[],[]⟩,⟨3,[1],[]⟩,⟨4,[1],[]⟩,⟨2,[4],[]⟩,⟨5,[],[]⟩,⟨6,[],[]⟩] (by kernel_rfl) ?_
  simp(disch:=omega)only[go_sem]
  refine qb (ai7 m hm) ?_
  simp(disch:=omega)only[go_sem]
  rw[if_neg h0]
  exact qq
theorem ZY(s:Bool)(m:Nat)(e:Int)(hm:bl m≤10000000)(he: -2^40≤e∧e≤2^40):Con Tryz.prog 144 false [.ag [.v (.bool (s)),.sl (lim (m)).length (qg (lim (m))),.v (.int .i64 (e))]] [] (isA (.ag [.v (.bool (oS s m)),.sl (lim (oM m)).length (qg (lim (oM m))),.v (.int .i64 (oE m e))])):=by
 refine Con.frzA ?_
 refine Con.of_aw Tryz.func144 rfl Tryz.ntmps144 (by simp) (by simp) (by simp) (W.sound ?_)
 show @W Tryz.prog 23 ⟨_⟩ ⟨fun x σ=>@za _ _ _ ⟨_⟩ _ ⟨_⟩ x σ⟩ _ _
 simp(disch:=omega)only[go_sem]
 have hl:=qy hm
 refine qe (fun h1=>?_) (fun h1=>?_)
 ·simp(disch:=omega)only[go_sem,h1]
  have h0:m=0:=qH.1 (List.length_eq_zero_iff.1 (by omega))
  subst h0
  refine qE (by simp(disch:=omega)only[go_sem]) ?_
  show qP _ 6 _=_
  simp only[oS,j6,oE,qm,if_true]
  simp(disch:=omega)only[go_sem]
 ·have h0:m≠0:=fun e=>h1 (by rw[e,qm];rfl)
  have ht:=j0 h0
  simp(disch:=omega)only[go_sem,h1]
  refine qb (adr m (by omega)) ?_
  simp(disch:=omega)only[go_sem]
  refine qo rfl [⟨0,[],[]⟩,⟨1,[],[]⟩,⟨2,[1],[]⟩,⟨3,[1],[]⟩,⟨4,[1,3],[]⟩,⟨6,[1,3],[]⟩,⟨7,[1,3],[]⟩,⟨8,[1,3,7],[]⟩,⟨9,[1,3],[]⟩,⟨5,[1,7],[]⟩,⟨10,[],[]⟩,⟨11,[],[]⟩] (by kernel_rfl) ?_
  simp(disch:=omega)only[go_sem]
  refine qa (apZ m (tz m) (by omega) (by omega)) ?_
  simp(disch:=omega)only[go_sem]
  refine qE (by simp(disch:=omega)only[go_sem]) ?_
  show qP _ 6 _=_
  simp only[oS,oM,oE,if_neg h0]
  simp(disch:=omega)only[go_sem]
def ovA(m1:Nat)(k:Int):Nat:=m1*2^k.toNat
def ovQ(s:Bool)(m1:Nat)(e1:Int)(m2:Nat)(e2 low mode:Int):Nat:=rq s (ovA m1 (e1-e2-low)) (ovA m2 (-(e1-e2-low))) mode
def ovX(m1:Nat)(e1:Int)(m2:Nat)(e2 low:Int):Bool:=decide (ovA m1 (e1-e2-low) % ovA m2 (-(e1-e2-low))=0)
theorem aEj{m B:Nat}{k:Int}{C:Nat}(h:bl m≤B)(hk:k≤C):bl (ovA m k)≤B+C:=by
 have:=YV m k.toNat
 unfold ovA;omega
theorem aN2{m:Nat}{k:Int}(h:m≠0):ovA m k≠0:=by
 unfold ovA
 have:0<2^k.toNat:=Nat.pow_pos (by omega)
 have:=Nat.mul_pos (show 0<m by omega) this
 omega
theorem aeu(s1:Bool)(m1:Nat)(e1:Int)(s2:Bool)(m2:Nat)(e2 low mode:Int)(h2:m2≠0)(hm1:bl m1≤4000000)(hm2:bl m2≤4000000)(hk: -4000000≤e1-e2-low∧e1-e2-low≤4000000)
  (he1: -2^40≤e1∧e1≤2^40) (he2: -2^40≤e2∧e2≤2^40) (hlo: -2^40≤low∧low≤2^40):
  Con Tryz.prog 188 false [.ag [.v (.bool (s1)),.sl (lim (m1)).length (qg (lim (m1))),.v (.int .i64 (e1))],.ag [.v (.bool (s2)),.sl (lim (m2)).length (qg (lim (m2))),.v (.int .i64 (e2))],.v (.int .i64 low),.v (.int .i64 mode)] []
   (isA (.tu [.ag [.v (.bool ((s1 != s2)&&decide (ovQ (s1 != s2) m1 e1 m2 e2 low mode≠0))),.sl (lim (ovQ (s1 != s2) m1 e1 m2 e2 low mode)).length (qg (lim (ovQ (s1 != s2) m1 e1 m2 e2 low mode))),.v (.int .i64 (low))],.v (.bool (ovX m1 e1 m2 e2 low))])):=by
 refine Con.frzA ?_
 refine Con.of_w (rs:=[.cell 8 90,.tmp 9]) Tryz.func188 rfl Tryz.ntmps188 rfl ?_
 have l1:=qy hm1
 have l2:=qy hm2
 generalize hsh:e1-e2-low=sh at*
 have eq1:ovQ (s1 != s2) m1 e1 m2 e2 low mode=rq (s1 != s2) (ovA m1 sh) (ovA m2 (-sh)) mode:=by unfold ovQ;rw[hsh]
 have eq2:ovX m1 e1 m2 e2 low=decide (ovA m1 sh % ovA m2 (-sh)=0):=by unfold ovX;rw[hsh]
 rw[eq1,eq2]
 simp(disch:=omega)only[go_sem,hsh]
 refine qo rfl [⟨0,[],[]⟩,⟨1,[],[]⟩,⟨2,[],[]⟩,⟨3,[2],[]⟩,⟨4,[2],[]⟩,⟨6,[2],[]⟩,⟨7,[2],[]⟩,⟨8,[2,7],[]⟩,⟨9,[2,7],[]⟩,⟨10,[2,7],[]⟩,⟨12,[2,7],[]⟩,⟨5,[7],[]⟩,⟨11,[],[]⟩,⟨13,[],[]⟩,⟨14,[],[]⟩,⟨15,[],[]⟩,⟨16,[],[]⟩,⟨17,[],[]⟩,⟨18,[],[]⟩] (by kernel_rfl) ?_
 have ex1:(if 0>sh then 0 else sh)=((sh.toNat:Nat):Int):=by split<;>omega
 have ex2:(if 0>0-sh then 0 else 0-sh)=(((-sh).toNat:Nat):Int):=by split<;>omega
 simp(disch:=omega)only[go_sem,ex1,ex2]
 refine qa (zG m1 sh.toNat (by omega) (by omega)) ?_
 simp(disch:=omega)only[go_sem]
 refine qa (zG m2 (-sh).toNat (by omega) (by omega)) ?_
 simp(disch:=omega)only[go_sem]
 refine qa (QL (s1 != s2) (ovA m1 sh) (ovA m2 (-sh)) mode (aN2 h2) (aEj (C:=4000000) hm1 (by omega)) (aEj (C:=4000000) hm2 (by omega))) ?_ (by simp(disch:=omega)only[go_sem,ovA])
 simp(disch:=omega)only[go_sem]
 generalize rq (s1 != s2) (ovA m1 sh) (ovA m2 (-sh)) mode=q
 generalize decide (ovA m1 sh % ovA m2 (-sh)=0)=b
 have hq:decide ((0:Int)<((lim q).length:Int))=decide (q≠0):=by
  rw[decide_eq_decide]
  exact⟨fun h e=>by rw[e,qm]at h;simp at h,fun h=>by have:=Qg h;omega⟩
 refine zY (fun h3=>?_) (fun h3=>?_)
 ·simp(disch:=omega)only[go_sem,h3,hq]
  exact qn (hp:=by simp(disch:=omega)only[go_sem,h3,Bool.true_and])
 ·simp(disch:=omega)only[go_sem,h3]
  exact qn (hp:=by simp(disch:=omega)only[go_sem,h3,Bool.false_and])
def roM(s:Bool)(m:Nat)(e low mode:Int):Nat:=if low≤e∨m=0 then m else rq s m (2^(low-e).toNat) mode
def roE(m:Nat)(e low:Int):Int:=if low≤e∨m=0 then e else low
def roX(m:Nat)(e low:Int):Bool:=if low≤e∨m=0 then true else decide (m % 2^(low-e).toNat=0)
def roS(s:Bool)(m:Nat)(e low mode:Int):Bool:=if low≤e∨m=0 then s else s&&decide (rq s m (2^(low-e).toNat) mode≠0)
theorem ZX(s:Bool)(m:Nat)(e low mode:Int)(hm:bl m≤4000000)(he: -1000000≤e∧e≤1000000)(hlo: -1000000≤low∧low≤1000000):
  Con Tryz.prog 177 false [.ag [.v (.bool (s)),.sl (lim (m)).length (qg (lim (m))),.v (.int .i64 (e))],.v (.int .i64 low),.v (.int .i64 mode)] []
   (isA (.tu [.ag [.v (.bool (roS s m e low mode)),.sl (lim (roM s m e low mode)).length (qg (lim (roM s m e low mode))),.v (.int .i64 (roE m e low))],.v (.bool (roX m e low))])):=by
 refine Con.frzA ?_
 refine Con.of_aw Tryz.func177 rfl Tryz.ntmps177 (by simp) (by simp) (by simp) (W.sound ?_)
 show @W Tryz.prog 25 ⟨_⟩ ⟨fun x σ=>@za _ _ _ ⟨_⟩ _ ⟨_⟩ x σ⟩ _ _
 simp(disch:=omega)only[go_sem]
 refine q7 (fun h1=>?_) (fun h1=>?_)
 ·simp(disch:=omega)only[go_sem,h1]
  refine qb (js s m e) ?_
  simp(disch:=omega)only[go_sem]
  refine qe (fun h2=>?_) (fun h2=>?_)
  ·simp(disch:=omega)only[go_sem,h2]
   refine qE (by simp(disch:=omega)only[go_sem]) ?_
   show qP _ 6 _=_
   simp only[roS,roM,roE,roX,h2,or_true,if_true]
   simp(disch:=omega)only[go_sem]
  ·simp(disch:=omega)only[go_sem,h2]
   refine qo rfl [⟨0,[],[]⟩,⟨3,[0],[]⟩,⟨4,[0],[]⟩,⟨1,[0],[]⟩,⟨2,[0],[]⟩,⟨5,[],[]⟩,⟨6,[],[]⟩,⟨7,[],[]⟩,⟨8,[],[]⟩,⟨9,[],[]⟩] (by kernel_rfl) ?_
   simp(disch:=omega)only[go_sem]
   refine qa (zw 1 (by omega)) ?_
   simp(disch:=omega)only[go_sem]
   refine qa (aeu s m e false 1 0 low mode (by omega) hm (by decide) (by omega) (by omega) (by omega) (by omega)) ?_
   simp(disch:=omega)only[go_sem]
   refine qE (by simp(disch:=omega)only[go_sem]) ?_
   show qP _ 6 _=_
   have hc:¬(low≤e∨m=0):=by omega
   have e1:ovA m (e-0-low)=m:=by unfold ovA;rw[show(e-0-low).toNat=0 by omega];simp
   have e2:ovA 1 (-(e-0-low))=2^(low-e).toNat:=by unfold ovA;rw[show(-(e-0-low)).toNat=(low-e).toNat by omega];simp
   have e3:(s != false)=s:=by cases s<;>rfl
   simp only[roS,roM,roE,roX,if_neg hc,ovQ,ovX,e1,e2,e3]
   simp(disch:=omega)only[go_sem]
 ·simp(disch:=omega)only[go_sem,h1]
  refine qE (by simp(disch:=omega)only[go_sem]) ?_
  show qP _ 6 _=_
  simp only[roS,roM,roE,roX,h1,true_or,if_true]
  simp(disch:=omega)only[go_sem]
end Go.Ab
namespace Go.Ab
open Go Go.Proofs
theorem apy(cl:Bool)(A B:List Int)(hA:gd A)(hB:gd B)(lA:A.length≤1000000)(lB:B.length≤A.length)(hle:vl B≤vl A):
  Con Tryz.prog 284 cl [.sl A.length (qg A),.sl B.length (qg B)] [] (aqQ (lim (vl A-vl B).toNat)):=by
 refine Con.of_aw Tryz.func284 rfl Tryz.ntmps284 (by simp) (by simp) (by simp) (W.sound ?_)
 show @W Tryz.prog 43 ⟨_⟩ ⟨fun x σ=>@za _ _ _ ⟨_⟩ _ ⟨_⟩ x σ⟩ _ _
 simp(disch:=omega)only[go_sem]
 refine⟨by omega,?_⟩
 refine qk (fun x:Nat×List Int×Int=>[(1,.sl B.length (qg B)),(5,.rf 1 0 x.2.1.length),(6,.v (.int .i64 x.2.2)),(12,.sl A.length (qg A)),(13,.v (.int .i64 A.length)),(14,.v (.int .i64 x.1))])
  (fun x=>[(1,.own 1 (qg x.2.1))])
  (fun x=>x.1≤A.length∧x.2.1.length=x.1∧gd x.2.1∧(0≤x.2.2∧x.2.2≤1)∧vl x.2.1-65536^x.1*x.2.2=vl (A.take x.1)-vl (B.take x.1))
  (fun x=>A.length-x.1) (0,[],0) ⟨by simp,rfl,ZQ,by simp,by simp[vl]⟩
  (Le.lst [(1,130000000)] _ _ rfl (by simp(disch:=omega)only[go_sem]) (by simp(disch:=omega)only[go_sem])) ?_
 rintro⟨i,out,bo⟩ ⟨hi,hol,hog,hbo,hov⟩
 dsimp only at hi hol hog hbo hov ⊢
 simp(disch:=omega)only[go_sem]
 refine qe (fun h1=>?_) (fun h1=>?_)
 ·have hx:=qN hA i
  have hy:=qN hB i
  have hstep:∀z b:Int,A.getD i 0-bo-B.getD i 0=z-65536*b→vl (out++[z])-65536^(i+1)*b=vl (A.take (i+1))-vl (B.take (i+1)):=by
   intro z b hz
   rw[jt,qZ,qZ,hol,Int.pow_succ]
   generalize (65536:Int)^i=Pi at*
   grind
  have hyz:¬i<B.length→B.getD i 0=0:=fun h=>by rw[List.getD_eq_getElem?_getD,List.getElem?_eq_none (by omega)];rfl
  simp(disch:=omega)only[go_sem,h1]
  refine⟨by omega,by omega,qe (fun h2=>?_) (fun h2=>?_)⟩
  ·simp(disch:=omega)only[go_sem,h2]
   refine⟨by omega,by omega,qe (fun h3=>?_) (fun h3=>?_)⟩
   ·simp(disch:=omega)only[go_sem,h3]
    refine⟨by omega,qh (i+1,out++[A.getD i 0-bo-B.getD i 0+65536],1) [(1,410000000)] ⟨by show i+1≤_;omega,by simp[hol],qO.2 ⟨hog,zZ.2 (by omega)⟩,by simp,hstep (A.getD i 0-bo-B.getD i 0+65536) 1 (by omega)⟩ (by show A.length-(i+1)<A.length-i;omega) rfl (by simp(disch:=omega)only[go_sem,List.length_append];try omega) (by simp(disch:=omega)only[go_sem])⟩
   ·simp(disch:=omega)only[go_sem,h3]
    refine⟨by omega,qh (i+1,out++[A.getD i 0-bo-B.getD i 0],0) [(1,410000000)] ⟨by show i+1≤_;omega,by simp[hol],qO.2 ⟨hog,zZ.2 (by omega)⟩,by simp,hstep (A.getD i 0-bo-B.getD i 0) 0 (by omega)⟩ (by show A.length-(i+1)<A.length-i;omega) rfl (by simp(disch:=omega)only[go_sem,List.length_append];try omega) (by simp(disch:=omega)only[go_sem])⟩
  ·simp(disch:=omega)only[go_sem,h2]
   refine qe (fun h3=>?_) (fun h3=>?_)
   ·simp(disch:=omega)only[go_sem,h3]
    have hy0:=hyz (by omega)
    refine⟨by omega,qh (i+1,out++[A.getD i 0-bo+65536],1) [(1,410000000)] ⟨by show i+1≤_;omega,by simp[hol],qO.2 ⟨hog,zZ.2 (by omega)⟩,by simp,hstep (A.getD i 0-bo+65536) 1 (by omega)⟩ (by show A.length-(i+1)<A.length-i;omega) rfl (by simp(disch:=omega)only[go_sem,List.length_append];try omega) (by simp(disch:=omega)only[go_sem])⟩
   ·simp(disch:=omega)only[go_sem,h3]
    have hy0:=hyz (by omega)
    refine⟨by omega,qh (i+1,out++[A.getD i 0-bo],0) [(1,410000000)] ⟨by show i+1≤_;omega,by simp[hol],qO.2 ⟨hog,zZ.2 (by omega)⟩,by simp,hstep (A.getD i 0-bo) 0 (by omega)⟩ (by show A.length-(i+1)<A.length-i;omega) rfl (by simp(disch:=omega)only[go_sem,List.length_append];try omega) (by simp(disch:=omega)only[go_sem])⟩
 ·simp(disch:=omega)only[go_sem,h1]
  have hiA:i=A.length:=by omega
  subst hiA
  rw[List.take_length,List.take_of_length_le lB]at hov
  have hb0:bo=0:=by
   have h2:=yG hog
   rw[hol]at h2
   rcases(by omega:bo=0∨bo=1)with h|h
   ·exact h
   ·subst h;omega
  subst hb0
  have hov2:vl out=vl A-vl B:=by omega
  refine zk false [1] (jp out (by omega)) (by simp(disch:=omega)only[go_sem]) (by simp(disch:=omega)only[go_sem]) rfl (zg (z:=1) (cs:=qg out) (by simp(disch:=omega)only[go_sem]) (by simp(disch:=omega)only[go_sem])) (by intro n hn;exact⟨_,List.mem_singleton.2 rfl,by rw[List.mem_singleton.1 hn];rfl⟩) ?_
  rintro r hs bs ⟨rfl,rfl,rfl⟩ _
  refine⟨by simp[qS],?_⟩
  simp(disch:=omega)only[go_sem]
  obtain⟨z,hz⟩:=zP out
  have hc:=je hog
  rw[hov2]at hc
  rw[hc]at hz ⊢
  refine qj [(0,1)] [.own 1 (qg out)] [] [.rf 0 0 (lim (vl A-vl B).toNat).length] rfl (by simp(disch:=omega)only[go_sem]) (by simp(disch:=omega)only[go_sem]) (by simp) (by intro _;simp[q6,AV.pu,AV.pu.puL,Ob.pu,ze]) (.inr ⟨List.replicate z 0,rfl,by rw[←hz]⟩)
end Go.Ab
namespace Go.Ab
theorem aLp{q:Nat}{n:Nat}(hn:1≤n)(h:bl q≤n):bl (q+1)≤n+tz (q+1):=by
 have h1:=q9.1 h
 rcases(by omega:q+1<2^n∨q+1=2^n)with h2|h2
 ·have:=q9.2 h2;omega
 ·have h3:tz (q+1)=n:=yN (a:=0) (by omega)
  have h4:bl (q+1)≤n+1:=q9.2 (by rw[h2,Nat.pow_succ];have:=Nat.pow_pos (n:=n) (show 0<2 by omega);omega)
  omega
theorem aEi(m k:Nat):bl (m/2^k)≤bl m-k:=by
 rcases Nat.lt_or_ge m (2^k)with h|h
 ·rw[Nat.div_eq_of_lt h,y0];omega
 ·have:=aEk h;omega
theorem aAl{s:Bool}{m k:Nat}{mode:Int}(h:bl m≤53+k):bl (rq s m (2^k) mode)≤53+tz (rq s m (2^k) mode):=by
 have h1:bl (m/2^k)≤53:=by have:=aEi m k;omega
 have h2:=aLp (by omega) h1
 unfold rq
 split
 ·omega
 ·split
  ·exact h2
  ·omega
def Yj(xs:List Int):Bool:=decide (xs.length≤100)&&(xs.all (fun x=>decide (0≤x)&&decide (x≤65535))&&(decide (xs.length=0)||decide (xs.getD (xs.length-1) 0≠0)))
def zU(s:Bool)(xs:List Int):Bool:=Yj xs&& !(s&&decide (xs.length=0))
def dyB(s:Bool)(xs:List Int)(e:Int):Bool:=
 zU s xs&&((decide (-3000≤e)&&decide (e≤3000))&&(decide ((vl xs).toNat % 2=1)||(decide (xs.length=0)&&decide (e=0))))
theorem Zf{xs:List Int}(h:Yj xs=true):xs=lim (vl xs).toNat∧xs.length≤100:=by
 simp only[Yj,Bool.and_eq_true,decide_eq_true_eq,List.all_eq_true,Bool.or_eq_true]at h
 obtain⟨h1,h2,h3⟩:=h
 refine⟨Yo (fun x hx=>by have:=h2 x hx;omega) ?_,h1⟩
 intro a x e
 subst e
 rcases h3 with h3|h3
 ·simp at h3
 ·simpa [List.getD_eq_getElem?_getD]using h3
theorem aoq(m:Nat)(h:(lim m).length≤100):Yj (lim m)=true:=by
 simp only[Yj,Bool.and_eq_true,decide_eq_true_eq,List.all_eq_true,Bool.or_eq_true]
 refine⟨h,fun x hx=>?_,?_⟩
 ·have:=qU m x hx
  exact⟨this.1,by omega⟩
 ·rcases Nat.eq_zero_or_pos (lim m).length with h0|h0
  ·exact .inl h0
  ·refine .inr fun e=>?_
   have hm:m≠0:=fun e=>by rw[e,qm]at h0;simp at h0
   rw[zW]at e
   have:=ZI hm
   rw[Nat.mod_eq_of_lt this.2]at e
   omega
theorem jL{s:Bool}{xs:List Int}{e:Int}(h:dyB s xs e=true):∃m,xs=lim m∧(lim m).length≤100∧bl m≤1600∧(-3000≤e∧e≤3000)∧(m % 2=1∨(m=0∧e=0))∧(m=0→s=false):=by
 simp only[dyB,zU,Bool.and_eq_true,decide_eq_true_eq,Bool.or_eq_true]at h
 obtain⟨⟨h1,h2⟩,h3,h4⟩:=h
 obtain⟨h5,h6⟩:=Zf h1
 refine⟨(vl xs).toNat,h5,by rw[←h5];exact h6,?_,h3,?_,?_⟩
 ·have:=JY (m:=(vl xs).toNat)
  rw[←h5]at this;omega
 ·rcases h4 with h4|⟨h4,h7⟩
  ·exact .inl h4
  ·have:xs=[]:=List.length_eq_zero_iff.1 h4
   exact .inr ⟨by subst this;rfl,h7⟩
 ·intro e0
  rw[e0,qm]at h5
  subst h5
  simpa using h2
end Go.Ab
namespace Go.Ab
def ajz(neg:Bool)(m k:Nat)(mode:Int):Bool:=
 if mode=1 then false else if mode=2 then !neg else if mode=3 then neg else if mode=4 then decide (m/2^(k-1) % 2=1)
 else decide (m/2^(k-1) % 2=1)&&(decide (tz m<k-1)||decide (m/2^k % 2=1))
theorem aA7{m k:Nat}(hk:1≤k):m/2^(k-1) % 2=1↔2^k≤m % 2^k*2:=by
 obtain⟨j,rfl⟩:∃j,k=j+1:=⟨k-1,by omega⟩
 rw[Nat.add_sub_cancel]
 have hp:0<2^j:=Nat.pow_pos (by omega)
 have h1:m % 2^(j+1)/2^j=m/2^j % 2:=by rw[Nat.pow_succ,Nat.mod_mul_right_div_self]
 have h2:m % 2^(j+1)<2^(j+1):=Nat.mod_lt _ (Nat.pow_pos (by omega))
 rw[←h1]
 generalize m % 2^(j+1)=r at*
 rw[Nat.pow_succ]at*
 constructor
 ·intro h
  have h3:=(Nat.le_div_iff_mul_le hp).1 (show 1≤r/2^j by
   rcases Nat.eq_zero_or_pos (r/2^j)with e|e
   ·rw[e]at h;simp at h
   ·exact e)
  omega
 ·intro h
  have h3:1≤r/2^j:=(Nat.le_div_iff_mul_le hp).2 (by omega)
  have h4:r/2^j<2:=(Nat.div_lt_iff_lt_mul hp).2 (by omega)
  omega
theorem adN{a b:Int}:(0<zE a b↔b<a)∧(zE a b=0↔a=b)∧(0≤zE a b↔b≤a):=by
 unfold zE
 split
 ·omega
 ·split<;>omega
theorem Zo{m:Nat}(h:m % 2=1):tz m=0:=yN (a:=m/2) (by simp;omega)
theorem aMi{neg:Bool}{m k:Nat}{mode:Int}(hm:m % 2=1)(hk:1≤k)(h0:0≤mode∧mode≤4):
  ajz neg m k mode=rup neg (decide (m/2^k % 2=1)) (zE ((m % 2^k*2:Nat):Int) ((2^k:Nat):Int)) mode:=by
 have hb:=aA7 (m:=m) hk
 obtain⟨c1,c2,c3⟩:=adN (a:=((m % 2^k*2:Nat):Int)) (b:=((2^k:Nat):Int))
 generalize zE ((m % 2^k*2:Nat):Int) ((2^k:Nat):Int)=c at*
 have ht:=Zo hm
 unfold ajz rup
 rcases(by omega:mode=0∨mode=1∨mode=2∨mode=3∨mode=4)with rfl|rfl|rfl|rfl|rfl
 ·rw[if_neg (by omega),if_neg (by omega),if_neg (by omega),if_neg (by omega),if_neg (by omega),if_neg (by omega),if_pos rfl,ht]
  rw[Bool.eq_iff_iff]
  simp only[Bool.and_eq_true,Bool.or_eq_true,decide_eq_true_eq,c1,c2]
  rw[hb]
  rcases(by omega:k=1∨1<k)with rfl|h
  ·have:m % 2^1=1:=by rw[Nat.pow_one];exact hm
   rw[this];simp
  ·have hodd:m % 2^k % 2=1:=by
    obtain⟨j,rfl⟩:∃j,k=j+1:=⟨k-1,by omega⟩
    rw[Nat.pow_succ,Nat.mul_comm,Nat.mod_mul_right_mod];exact hm
   have h4:2^k % 4=0:=by
    obtain⟨j,rfl⟩:∃j,k=j+2:=⟨k-2,by omega⟩
    rw[Nat.pow_add];omega
   omega
 ·simp
 ·simp
 ·simp
 ·rw[if_neg (by omega),if_neg (by omega),if_neg (by omega),if_pos rfl,if_neg (by omega),if_neg (by omega),if_neg (by omega),if_pos rfl]
  rw[decide_eq_decide,hb,c3];omega
theorem aI8{m k:Nat}(hm:m % 2=1)(hk:1≤k):m % 2^k≠0:=by
 obtain⟨j,rfl⟩:∃j,k=j+1:=⟨k-1,by omega⟩
 intro h
 have:m % 2^(j+1) % 2=1:=by rw[Nat.pow_succ,Nat.mul_comm,Nat.mod_mul_right_mod];exact hm
 omega
/-! ### The normal form and rounding-/
theorem aDS{m k:Nat}:oM (m*2^k)=oM m:=by
 by_cases h:m=0
 ·subst h;simp
 ·unfold oM
  rw[Qy h,Nat.pow_add,Nat.mul_comm (2^tz m),←Nat.div_div_eq_div_mul,Nat.mul_div_cancel _ (Nat.pow_pos (by omega))]
theorem aea{s:Bool}{a:Nat}{mode:Int}:rq s a 1 mode=a:=by unfold rq;simp[Nat.mod_one]
end Go.Ab
namespace Go.Ab
/-! ### Numbers with a sign-/
def sv(s:Bool)(m:Nat):Int:=if s=true then-(m:Int)else(m:Int)
theorem anF(s:Bool)(m:Nat):(sv s m).natAbs=m:=by unfold sv;split<;>omega
theorem Qz(s:Bool):sv s 0=0:=by unfold sv;split<;>rfl
theorem Ju(s:Bool)(m k:Nat):sv s (m*k)=sv s m*(k:Int):=by
 unfold sv;split
 ·rw[Int.natCast_mul,Int.neg_mul]
 ·rw[Int.natCast_mul]
theorem aX6(s:Bool)(m:Nat):sv (oS s m) m=sv s m:=by
 unfold oS
 by_cases h:m=0
 ·subst h;rw[Qz,Qz]
 ·rw[if_neg h]
theorem aMU{s:Bool}{m:Nat}(h:m≠0):decide (sv s m<0)=s:=by
 cases s<;>simp[sv]<;>omega
def dv(K:Nat)(s:Bool)(m:Nat)(e:Int):Int:=sv s m*2^(e+K).toNat
theorem aSh{K:Nat}{s:Bool}{m:Nat}{e:Int}{s':Bool}{m':Nat}{e':Int}(h0:m≠0)(he: -(K:Int)≤e)(he': -(K:Int)≤e')(h:dv K s m e=dv K s' m' e'):
  s=s'∧oM m=oM m'∧oE m e=oE m' e'∧m'≠0:=by
 unfold dv at h
 obtain⟨a,ha⟩:∃a,a=(e+K).toNat:=⟨_,rfl⟩
 obtain⟨a',ha'⟩:∃a,a=(e'+K).toNat:=⟨_,rfl⟩
 rw[←ha,←ha']at h
 have habs:m*2^a=m'*2^a':=by
  have:=congrArg Int.natAbs h
  rw[Int.natAbs_mul,Int.natAbs_mul,anF,anF,Int.natAbs_pow,Int.natAbs_pow]at this
  exact this
 have hp:0<2^a:=Nat.pow_pos (by omega)
 have h1:0<m*2^a:=Nat.mul_pos (by omega) hp
 have h0':m'≠0:=fun e=>by rw[habs,e,Nat.zero_mul]at h1;omega
 have hM:oM m=oM m':=by rw[←@aDS m a,habs,aDS]
 have hT:tz m+a=tz m'+a':=by rw[←Qy h0,habs,Qy h0']
 refine⟨?_,hM,?_,h0'⟩
 ·have e1:sv s m*2^a=sv s (m*2^a):=by rw[Ju,Int.natCast_pow];rfl
  have e2:sv s' m'*2^a'=sv s' (m'*2^a'):=by rw[Ju,Int.natCast_pow];rfl
  rw[e1,e2,←habs]at h
  rw[←aMU (s:=s) (m:=m*2^a) (by omega),h,aMU (by omega)]
 ·unfold oE;rw[if_neg h0,if_neg h0'];omega
theorem ja{K:Nat}{s:Bool}{e:Int}:dv K s 0 e=0:=by unfold dv;rw[Qz,Int.zero_mul]
theorem aiJ{K:Nat}{s:Bool}{m:Nat}{e:Int}:dv K s m e=0↔m=0:=by
 refine⟨fun h=>?_,fun h=>by rw[h,ja]⟩
 unfold dv at h
 rcases Int.mul_eq_zero.1 h with h|h
 ·rw[←anF s m,h];rfl
 ·have:(0:Int)<2^(e+K).toNat:=Int.pow_pos (by omega)
  omega
theorem bai(K:Nat)(s:Bool)(m:Nat)(e:Int):dv K (oS s m) m e=dv K s m e:=by unfold dv;rw[aX6]
theorem api{K:Nat}{s:Bool}{m:Nat}{e:Int}(he: -(K:Int)≤e):dv K s (oM m) (oE m e)=dv K s m e:=by
 by_cases h:m=0
 ·subst h;rw[j6,ja,ja]
 ·unfold dv oE
  rw[if_neg h]
  have e1:(e+(tz m:Int)+K).toNat=tz m+(e+K).toNat:=by omega
  conv=>rhs;rw[←@aoe m]
  rw[e1,Int.pow_add,Ju,Int.natCast_pow,Int.mul_assoc];rfl
/-! ### Sums-/
def suM(s1:Bool)(m1:Nat)(s2:Bool)(m2:Nat):Nat:=(sv s1 m1+sv s2 m2).natAbs
def suS(s1:Bool)(m1:Nat)(s2:Bool)(m2:Nat):Bool:=decide (sv s1 m1+sv s2 m2<0)
def sgS(s1:Bool)(m1:Nat)(s2:Bool)(m2:Nat):Bool:=if s1=s2 then s1 else if m2≤m1 then s1 else s2
theorem ad7(s:Bool)(m1 m2:Nat):suM s m1 s m2=m1+m2:=by unfold suM sv;split<;>omega
theorem aDF{s1 s2:Bool}{m1 m2:Nat}(h:s1≠s2)(hm:m2≤m1):suM s1 m1 s2 m2=m1-m2:=by
 cases s1<;>cases s2<;>simp[suM,sv]at* <;>omega
theorem aDE{s1 s2:Bool}{m1 m2:Nat}(h:s1≠s2)(hm:¬m2≤m1):suM s1 m1 s2 m2=m2-m1:=by
 cases s1<;>cases s2<;>simp[suM,sv]at* <;>omega
theorem ad8(s:Bool)(m1 m2:Nat):sgS s m1 s m2=s:=by unfold sgS;rw[if_pos rfl]
theorem aDN{s1 s2:Bool}{m1 m2:Nat}(h:s1≠s2)(hm:m2≤m1):sgS s1 m1 s2 m2=s1:=by unfold sgS;rw[if_neg h,if_pos hm]
theorem aDM{s1 s2:Bool}{m1 m2:Nat}(h:s1≠s2)(hm:¬m2≤m1):sgS s1 m1 s2 m2=s2:=by unfold sgS;rw[if_neg h,if_neg hm]
theorem anR(s1:Bool)(m1:Nat)(s2:Bool)(m2:Nat):(sgS s1 m1 s2 m2&&decide (suM s1 m1 s2 m2≠0))=suS s1 m1 s2 m2:=by
 rw[Bool.eq_iff_iff]
 simp only[Bool.and_eq_true,decide_eq_true_eq,suS]
 unfold sgS suM
 cases s1<;>cases s2<;>simp[sv]
 all_goals omega
theorem aMV(s1:Bool)(m1:Nat)(s2:Bool)(m2:Nat):suM s1 m1 s2 m2≤m1+m2:=by unfold suM sv;split<;>split<;>omega
theorem aSK{a b B:Nat}(ha:bl a≤B)(hb:bl b≤B):bl (a+b)≤B+1:=by
 have h1:=q9.1 ha
 have h2:=q9.1 hb
 refine q9.2 ?_
 rw[Nat.pow_succ];omega
theorem aey{s1:Bool}{m1:Nat}{s2:Bool}{m2 B:Nat}(h1:bl m1≤B)(h2:bl m2≤B):bl (suM s1 m1 s2 m2)≤B+1:=
 Nat.le_trans (zf (aMV _ _ _ _)) (aSK h1 h2)
def alE(m1:Nat)(e1:Int)(m2:Nat)(e2:Int):Int:=if m2=0 then e1 else if m1=0 then e2 else if e2<e1 then e2 else e1
def alA(m:Nat)(e E:Int):Nat:=m*2^(e-E).toNat
def adM(s1:Bool)(m1:Nat)(e1:Int)(s2:Bool)(m2:Nat)(e2:Int):Nat:=suM s1 (alA m1 e1 (alE m1 e1 m2 e2)) s2 (alA m2 e2 (alE m1 e1 m2 e2))
def adS(s1:Bool)(m1:Nat)(e1:Int)(s2:Bool)(m2:Nat)(e2:Int):Bool:=suS s1 (alA m1 e1 (alE m1 e1 m2 e2)) s2 (alA m2 e2 (alE m1 e1 m2 e2))
theorem Jg{K:Int}{m1:Nat}{e1:Int}{m2:Nat}{e2:Int}(h1:K≤e1)(h2:K≤e2):K≤alE m1 e1 m2 e2:=by
 unfold alE
 repeat' split
 all_goals omega
theorem aEn{K:Int}{m1:Nat}{e1:Int}{m2:Nat}{e2:Int}(h1:e1≤K)(h2:e2≤K):alE m1 e1 m2 e2≤K:=by
 unfold alE
 repeat' split
 all_goals omega
theorem aEo{K:Nat}{s:Bool}{m:Nat}{e E:Int}(hE: -(K:Int)≤E)(h:m≠0→E≤e):sv s (alA m e E)*2^(E+K).toNat=dv K s m e:=by
 by_cases h0:m=0
 ·subst h0;unfold alA;rw[Nat.zero_mul,Qz,ja,Int.zero_mul]
 ·have:=h h0
  unfold alA dv
  have e1:(e+K).toNat=(e-E).toNat+(E+K).toNat:=by omega
  rw[e1,Int.pow_add,Ju,Int.natCast_pow,Int.mul_assoc];rfl
theorem Q0{m B:Nat}{e E:Int}{C:Nat}(h:bl m≤B)(hk:e-E≤C):bl (alA m e E)≤B+C:=by
 have:=YV m (e-E).toNat
 unfold alA;omega
end Go.Ab
namespace Go.Ab
open Go Go.Proofs
theorem JP(a b:Nat)(h:b≤a)(la:(lim a).length≤1000000):Con Tryz.prog 284 false [.sl (lim (a)).length (qg (lim (a))),.sl (lim (b)).length (qg (lim (b)))] [] (aJa (lim (a-b))):=by
 have:=(apy false (lim a) (lim b) (qU a) (qU b) la (yB h) (by rw[qW,qW];omega)).num
 rwa[aEx]at this
theorem YF(s1:Bool)(m1:Nat)(s2:Bool)(m2:Nat)(l1:(lim m1).length≤1000000)(l2:(lim m2).length≤1000000):
  Con Tryz.prog 239 false [.v (.bool s1),.sl (lim (m1)).length (qg (lim (m1))),.v (.bool s2),.sl (lim (m2)).length (qg (lim (m2)))] [] (isA (.tu [.v (.bool (sgS s1 m1 s2 m2)),.sl (lim (suM s1 m1 s2 m2)).length (qg (lim (suM s1 m1 s2 m2)))])):=by
 refine Con.frzA ?_
 have hge:(0≤zE (m1:Int) (m2:Int))↔m2≤m1:=by rw[adN.2.2];omega
 refine Con.of_aw Tryz.func239 rfl Tryz.ntmps239 (by simp) (by simp) (by simp) (W.sound ?_)
 show @W Tryz.prog 31 ⟨_⟩ ⟨fun x σ=>@za _ _ _ ⟨_⟩ _ ⟨_⟩ x σ⟩ _ _
 simp(disch:=omega)only[go_sem]
 refine zY (fun h1=>?_) (fun h1=>?_)
 ·have h1':s1=s2:=by simpa using h1
  simp(disch:=omega)only[go_sem,h1]
  subst h1'
  refine qa (KW m1 m2 (by omega) (by omega)) ?_
  simp(disch:=omega)only[go_sem]
  refine qE (by simp(disch:=omega)only[go_sem]) ?_
  show qP _ 6 _=_
  rw[ad8,ad7]
  simp(disch:=omega)only[go_sem]
 ·have h1':s1≠s2:=by simpa using h1
  simp(disch:=omega)only[go_sem,h1]
  refine qb (jb m1 m2 (by omega) (by omega)) ?_
  simp(disch:=omega)only[go_sem]
  refine qe (fun h2=>?_) (fun h2=>?_)
  ·have h2':m2≤m1:=hge.1 (by omega)
   simp(disch:=omega)only[go_sem,h2]
   refine qa (JP m1 m2 h2' (by omega)) ?_
   simp(disch:=omega)only[go_sem]
   refine qE (by simp(disch:=omega)only[go_sem]) ?_
   show qP _ 6 _=_
   rw[aDN h1' h2',aDF h1' h2']
   simp(disch:=omega)only[go_sem]
  ·have h2':¬m2≤m1:=fun h=>h2 (by have:=hge.2 h;omega)
   simp(disch:=omega)only[go_sem,h2]
   refine qa (JP m2 m1 (by omega) (by omega)) ?_
   simp(disch:=omega)only[go_sem]
   refine qE (by simp(disch:=omega)only[go_sem]) ?_
   show qP _ 6 _=_
   rw[aDM h1' h2',aDE h1' h2']
   simp(disch:=omega)only[go_sem]
theorem Z6(s1:Bool)(m1:Nat)(e1:Int)(s2:Bool)(m2:Nat)(e2:Int)(h1:bl m1≤4000000)(h2:bl m2≤4000000)(he1: -1000000≤e1∧e1≤1000000)(he2: -1000000≤e2∧e2≤1000000):
  Con Tryz.prog 183 false [.ag [.v (.bool (s1)),.sl (lim (m1)).length (qg (lim (m1))),.v (.int .i64 (e1))],.ag [.v (.bool (s2)),.sl (lim (m2)).length (qg (lim (m2))),.v (.int .i64 (e2))]] [] (isA (.tu [.sl (lim (alA m1 e1 (alE m1 e1 m2 e2))).length (qg (lim (alA m1 e1 (alE m1 e1 m2 e2)))),.sl (lim (alA m2 e2 (alE m1 e1 m2 e2))).length (qg (lim (alA m2 e2 (alE m1 e1 m2 e2)))),.v (.int .i64 (alE m1 e1 m2 e2))])):=by
 refine Con.frzA ?_
 have l1:=qy h1
 have l2:=qy h2
 have hE:=Jg (m1:=m1) (m2:=m2) he1.1 he2.1
 have hE2:=aEn (m1:=m1) (m2:=m2) he1.2 he2.2
 have x1:∀d:Int,(if 0>d then 0 else d)=((d.toNat:Nat):Int):=fun d=>by split<;>omega
 refine Con.of_aw Tryz.func183 rfl Tryz.ntmps183 (by simp) (by simp) (by simp) (W.sound ?_)
 show @W Tryz.prog 42 ⟨_⟩ ⟨fun x σ=>@za _ _ _ ⟨_⟩ _ ⟨_⟩ x σ⟩ _ _
 simp(disch:=omega)only[go_sem]
 refine qe (fun c1=>?_) (fun c1=>?_)
 ·have z1:m1=0:=qH.1 (List.length_eq_zero_iff.1 (by omega))
  simp(disch:=omega)only[go_sem,c1]
  refine qe (fun c2=>?_) (fun c2=>?_)
  ·have z2:m2=0:=qH.1 (List.length_eq_zero_iff.1 (by omega))
   have eE:alE m1 e1 m2 e2=e1:=by unfold alE;rw[if_pos z2]
   simp(disch:=omega)only[go_sem,c2]
   refine qo rfl [⟨0,[],[]⟩,⟨1,[],[]⟩,⟨2,[1],[]⟩,⟨3,[1],[]⟩,⟨4,[1,3],[]⟩,⟨5,[1],[]⟩,⟨6,[1],[]⟩,⟨8,[1,3],[]⟩,⟨9,[1,3],[]⟩,⟨10,[1,3,9],[]⟩,⟨11,[1,3,9],[]⟩,⟨12,[1,3,9,11],[]⟩,⟨13,[1,3,9],[]⟩,⟨14,[1,3,9],[]⟩,⟨16,[1,3,9,11],[]⟩,⟨7,[9,11],[]⟩,⟨15,[],[]⟩,⟨17,[],[]⟩,⟨18,[],[]⟩,⟨19,[],[]⟩] (by kernel_rfl) ?_
   simp(disch:=omega)only[go_sem,x1]
   refine qa (zG m1 (e1-e1).toNat (by omega) (by omega)) ?_ (by simp(disch:=omega)only[go_sem,x1])
   simp(disch:=omega)only[go_sem]
   refine qa (zG m2 (e2-e1).toNat (by omega) (by omega)) ?_ (by simp(disch:=omega)only[go_sem,x1])
   simp(disch:=omega)only[go_sem]
   refine qE (by simp(disch:=omega)only[go_sem]) ?_
   show qP _ 6 _=_
   rw[eE];unfold alA
   simp(disch:=omega)only[go_sem]
  ·have z2:m2≠0:=fun e=>c2 (by rw[e,qm];rfl)
   have eE:alE m1 e1 m2 e2=e2:=by unfold alE;rw[if_neg z2,if_pos z1]
   simp(disch:=omega)only[go_sem,c2]
   refine qo rfl [⟨0,[],[]⟩,⟨1,[],[]⟩,⟨2,[1],[]⟩,⟨3,[1],[]⟩,⟨4,[1,3],[]⟩,⟨5,[1],[]⟩,⟨6,[1],[]⟩,⟨8,[1,3],[]⟩,⟨9,[1,3],[]⟩,⟨10,[1,3,9],[]⟩,⟨11,[1,3,9],[]⟩,⟨12,[1,3,9,11],[]⟩,⟨13,[1,3,9],[]⟩,⟨14,[1,3,9],[]⟩,⟨16,[1,3,9,11],[]⟩,⟨7,[9,11],[]⟩,⟨15,[],[]⟩,⟨17,[],[]⟩,⟨18,[],[]⟩,⟨19,[],[]⟩] (by kernel_rfl) ?_
   simp(disch:=omega)only[go_sem,x1]
   refine qa (zG m1 (e1-e2).toNat (by omega) (by omega)) ?_ (by simp(disch:=omega)only[go_sem,x1])
   simp(disch:=omega)only[go_sem]
   refine qa (zG m2 (e2-e2).toNat (by omega) (by omega)) ?_ (by simp(disch:=omega)only[go_sem,x1])
   simp(disch:=omega)only[go_sem]
   refine qE (by simp(disch:=omega)only[go_sem]) ?_
   show qP _ 6 _=_
   rw[eE];unfold alA
   simp(disch:=omega)only[go_sem]
 ·have z1:m1≠0:=fun e=>c1 (by rw[e,qm];rfl)
  simp(disch:=omega)only[go_sem,c1]
  refine qe (fun c2=>?_) (fun c2=>?_)
  ·have z2:m2=0:=qH.1 (List.length_eq_zero_iff.1 (by omega))
   have eE:alE m1 e1 m2 e2=e1:=by unfold alE;rw[if_pos z2]
   simp(disch:=omega)only[go_sem,c2]
   refine qo rfl [⟨0,[],[]⟩,⟨1,[],[]⟩,⟨2,[1],[]⟩,⟨3,[1],[]⟩,⟨4,[1,3],[]⟩,⟨5,[1],[]⟩,⟨6,[1],[]⟩,⟨8,[1,3],[]⟩,⟨9,[1,3],[]⟩,⟨10,[1,3,9],[]⟩,⟨11,[1,3,9],[]⟩,⟨12,[1,3,9,11],[]⟩,⟨13,[1,3,9],[]⟩,⟨14,[1,3,9],[]⟩,⟨16,[1,3,9,11],[]⟩,⟨7,[9,11],[]⟩,⟨15,[],[]⟩,⟨17,[],[]⟩,⟨18,[],[]⟩,⟨19,[],[]⟩] (by kernel_rfl) ?_
   simp(disch:=omega)only[go_sem,x1]
   refine qa (zG m1 (e1-e1).toNat (by omega) (by omega)) ?_ (by simp(disch:=omega)only[go_sem,x1])
   simp(disch:=omega)only[go_sem]
   refine qa (zG m2 (e2-e1).toNat (by omega) (by omega)) ?_ (by simp(disch:=omega)only[go_sem,x1])
   simp(disch:=omega)only[go_sem]
   refine qE (by simp(disch:=omega)only[go_sem]) ?_
   show qP _ 6 _=_
   rw[eE];unfold alA
   simp(disch:=omega)only[go_sem]
  ·have z2:m2≠0:=fun e=>c2 (by rw[e,qm];rfl)
   have eE:(if e2<e1 then e2 else e1)=alE m1 e1 m2 e2:=by unfold alE;rw[if_neg z2,if_neg z1]
   simp(disch:=omega)only[go_sem,c2,eE]
   refine qo rfl [⟨0,[],[]⟩,⟨1,[],[]⟩,⟨2,[1],[]⟩,⟨3,[1],[]⟩,⟨4,[1,3],[]⟩,⟨5,[1],[]⟩,⟨6,[1],[]⟩,⟨8,[1,3],[]⟩,⟨9,[1,3],[]⟩,⟨10,[1,3,9],[]⟩,⟨11,[1,3,9],[]⟩,⟨12,[1,3,9,11],[]⟩,⟨13,[1,3,9],[]⟩,⟨14,[1,3,9],[]⟩,⟨16,[1,3,9,11],[]⟩,⟨7,[9,11],[]⟩,⟨15,[],[]⟩,⟨17,[],[]⟩,⟨18,[],[]⟩,⟨19,[],[]⟩] (by kernel_rfl) ?_
   simp(disch:=omega)only[go_sem,x1,eE]
   refine qa (zG m1 (e1-alE m1 e1 m2 e2).toNat (by omega) (by omega)) ?_ (by simp(disch:=omega)only[go_sem,x1,eE])
   simp(disch:=omega)only[go_sem]
   refine qa (zG m2 (e2-alE m1 e1 m2 e2).toNat (by omega) (by omega)) ?_ (by simp(disch:=omega)only[go_sem,x1,eE])
   simp(disch:=omega)only[go_sem]
   refine qE (by simp(disch:=omega)only[go_sem]) ?_
   show qP _ 6 _=_
   unfold alA
   simp(disch:=omega)only[go_sem]
theorem apt(s1:Bool)(m1:Nat)(e1:Int)(s2:Bool)(m2:Nat)(e2:Int)(h1:bl m1≤4000000)(h2:bl m2≤4000000)(he1: -1000000≤e1∧e1≤1000000)(he2: -1000000≤e2∧e2≤1000000):
  Con Tryz.prog 162 false [.ag [.v (.bool (s1)),.sl (lim (m1)).length (qg (lim (m1))),.v (.int .i64 (e1))],.ag [.v (.bool (s2)),.sl (lim (m2)).length (qg (lim (m2))),.v (.int .i64 (e2))]] [] (isA (.ag [.v (.bool (adS s1 m1 e1 s2 m2 e2)),.sl (lim (adM s1 m1 e1 s2 m2 e2)).length (qg (lim (adM s1 m1 e1 s2 m2 e2))),.v (.int .i64 (alE m1 e1 m2 e2))])):=by
 refine Con.frzA ?_
 have hE:=Jg (m1:=m1) (m2:=m2) he1.1 he2.1
 have b1:=Q0 (e:=e1) (E:=alE m1 e1 m2 e2) (C:=2000000) h1 (by omega)
 have b2:=Q0 (e:=e2) (E:=alE m1 e1 m2 e2) (C:=2000000) h2 (by omega)
 have l1:=qy b1
 have l2:=qy b2
 refine Con.of_w (rs:=[.cell 4 90]) Tryz.func162 rfl Tryz.ntmps162 rfl ?_
 simp(disch:=omega)only[go_sem]
 refine qa (Z6 s1 m1 e1 s2 m2 e2 h1 h2 he1 he2) ?_
 simp(disch:=omega)only[go_sem]
 unfold adS adM
 generalize alA m1 e1 (alE m1 e1 m2 e2)=A at*
 generalize alA m2 e2 (alE m1 e1 m2 e2)=B at*
 generalize alE m1 e1 m2 e2=E at*
 refine qa (YF s1 A s2 B (by omega) (by omega)) ?_
 simp(disch:=omega)only[go_sem]
 have hb:=aey (s1:=s1) (s2:=s2) b1 b2
 have hl:(lim (suM s1 A s2 B)).length≤2000000:=by have:=qy hb;omega
 have hq:decide ((0:Int)<((lim (suM s1 A s2 B)).length:Int))=decide (suM s1 A s2 B≠0):=by
  rw[decide_eq_decide]
  exact⟨fun h e=>by rw[e,qm]at h;simp at h,fun h=>by have:=Qg h;omega⟩
 rw[←anR]
 refine zY (fun h3=>?_) (fun h3=>?_)
 ·simp(disch:=omega)only[go_sem,h3,hq]
  exact qn (hp:=by simp(disch:=omega)only[go_sem,h3,Bool.true_and])
 ·simp(disch:=omega)only[go_sem,h3]
  exact qn (hp:=by simp(disch:=omega)only[go_sem,h3,Bool.false_and])
end Go.Ab
namespace Go.Ab
open Go Go.Proofs
def Jr(b:Bool):AV→List Ob→List Ob→Prop:=fun r hs bs=>r=.v (.bool b)∧hs=[]
theorem aiT(x:Int):Con Tryz.prog 267 true [.v (.int .i64 x)] [] (Jr (decide (0≤x)&&decide (x≤65535))):=by
 refine Con.of_aw Tryz.func267 rfl Tryz.ntmps267 (by simp) (by simp) (by simp) (W.sound ?_)
 show @W Tryz.prog 5 ⟨_⟩ ⟨fun x σ=>@za _ _ _ ⟨_⟩ _ ⟨_⟩ x σ⟩ _ _
 simp(disch:=omega)only[go_sem]
 refine qB (QI x 0 65535) (by simp(disch:=omega)only[go_sem]) ?_
 rintro r hs ⟨rfl,rfl⟩
 refine⟨by simp[qS],?_⟩
 simp(disch:=omega)only[go_sem]
 refine qj [] [] [] [.v (.bool (decide (0≤x)&&decide (x≤65535)))] rfl (by simp(disch:=omega)only[go_sem]) (by simp(disch:=omega)only[go_sem]) (by simp) (by simp[AV.pu,q6]) ⟨rfl,rfl⟩
theorem adI(g:Nat)(p:Int→Bool)(x:Int)(hf:Con Tryz.prog g true [.v (.int .i64 x)] [] (Jr (p x)))(hg:qs Tryz.prog g):
  Con Tryz.prog 294 true [.v (.int .i64 x),.fp [.fn g []] 0] [] (Jr (!p x)):=by
 refine Con.of_aw Tryz.func294 rfl Tryz.ntmps294 (by simp) (by simp) (by simp) (W.sound ?_)
 show @W Tryz.prog 8 ⟨_⟩ ⟨fun x σ=>@za _ _ _ ⟨_⟩ _ ⟨_⟩ x σ⟩ _ _
 simp(disch:=omega)only[go_sem]
 refine⟨hg,qB hf (by simp(disch:=omega)only[go_sem]) ?_⟩
 rintro r hs ⟨rfl,rfl⟩
 refine⟨by simp[qS],?_⟩
 simp(disch:=omega)only[go_sem]
 refine qj [] [] [] [.v (.bool (!p x))] rfl (by simp(disch:=omega)only[go_sem]) (by simp(disch:=omega)only[go_sem]) (by simp) (by simp[AV.pu,q6]) ⟨rfl,rfl⟩
theorem ai2(f:Nat)(caps:List AV)(p:Int→Bool)(xs:List Int)(hl:xs.length≤2^40)(hf:∀x,Con Tryz.prog f true (.v (.int .i64 x)::caps) [] (Jr (p x)))(hg:qs Tryz.prog f)
  (hc:∀h:Nat→Ob,caps.map (qP h 6)=caps) (hc5:∀h:Nat→Ob,caps.map (qP h 5)=caps) (hn:∀ks,AllL (yi ks) caps) (hr:∀ρ,jk ρ caps=caps):
  Con Tryz.prog 305 true [.sl xs.length (qg xs),.fn f caps] [] (fun r hs bs=>∃i:Int,r=.v (.int .i64 i)∧hs=[]∧(0≤i↔∃x∈xs,p x=true)):=by
 refine Con.of_aw Tryz.func305 rfl Tryz.ntmps305 (by simp) (by simp) (by simp) (W.sound ?_)
 show @W Tryz.prog 19 ⟨_⟩ ⟨fun x σ=>@za _ _ _ ⟨_⟩ _ ⟨_⟩ x σ⟩ _ _
 simp(disch:=omega)only[go_sem]
 refine qk (fun i:Nat=>[(0,.sl xs.length (qg xs)),(1,.fn f caps),(6,.sl xs.length (qg xs)),(7,.v (.int .i64 xs.length)),(8,.v (.int .i64 i))])
  (fun _=>[]) (fun i=>i≤xs.length∧∀j,j<i→p (xs.getD j 0)=false) (fun i=>xs.length-i) 0 ⟨by omega,fun j hj=>by omega⟩ (Le.lst [] _ _ rfl (by simp(disch:=omega)only[go_sem,hr,hn]) (by simp(disch:=omega)only[go_sem])) ?_
 rintro i ⟨hi,hp⟩
 simp(disch:=omega)only[go_sem]
 refine qe (fun h1=>?_) (fun h1=>?_)
 ·simp(disch:=omega)only[go_sem,h1]
  refine⟨by omega,by omega,hg,qB (hf (xs.getD i 0)) (by simp(disch:=omega)only[go_sem,hc,hc5]) ?_⟩
  rintro r hs ⟨rfl,rfl⟩
  refine⟨by simp[qS],?_⟩
  simp(disch:=omega)only[go_sem]
  refine zY (fun h2=>?_) (fun h2=>?_)
  ·simp(disch:=omega)only[go_sem,h2]
   refine qj [] [] [] [.v (.int .i64 i)] rfl (by simp(disch:=omega)only[go_sem]) (by simp(disch:=omega)only[go_sem]) (by simp) (by simp[AV.pu,q6]) ⟨i,rfl,rfl,?_⟩
   refine⟨fun _=>⟨xs.getD i 0,?_,h2⟩,fun _=>by omega⟩
   rw[List.getD_eq_getElem?_getD,List.getElem?_eq_getElem (by omega)];exact List.getElem_mem _
  ·simp(disch:=omega)only[go_sem,h2]
   refine qh (i+1) [] ⟨by omega,fun j hj=>?_⟩ (by show xs.length-(i+1)<xs.length-i;omega) rfl (by simp(disch:=omega)only[go_sem,hr,hn];try omega) (by simp(disch:=omega)only[go_sem])
   rcases(by omega:j<i∨j=i)with h|h
   ·exact hp j h
   ·subst h;exact h2
 ·simp(disch:=omega)only[go_sem,h1]
  refine qj [] [] [] [.v (.int .i64 (-1))] rfl (by simp(disch:=omega)only[go_sem]) (by simp(disch:=omega)only[go_sem]) (by simp) (by simp[AV.pu,q6]) ⟨-1,rfl,rfl,?_⟩
  refine⟨fun h=>by omega,fun⟨x,hx,hpx⟩=>?_⟩
  obtain⟨j,hj,rfl⟩:=List.getElem_of_mem hx
  have:=hp j (by omega)
  rw[List.getD_eq_getElem?_getD,List.getElem?_eq_getElem hj]at this
  simp only[Option.getD_some]at this
  rw[this]at hpx;cases hpx
theorem YQ(f:Nat)(caps:List AV)(p:Int→Bool)(xs:List Int)(hl:xs.length≤2^40)(hf:∀x,Con Tryz.prog f true (.v (.int .i64 x)::caps) [] (Jr (p x)))(hg:qs Tryz.prog f)
  (hc:∀h:Nat→Ob,caps.map (qP h 6)=caps) (hc5:∀h:Nat→Ob,caps.map (qP h 5)=caps) (hn:∀ks,AllL (yi ks) caps) (hr:∀ρ,jk ρ caps=caps):
  Con Tryz.prog 293 true [.sl xs.length (qg xs),.fn f caps] [] (Jr (xs.any p)):=by
 refine Con.of_aw Tryz.func293 rfl Tryz.ntmps293 (by simp) (by simp) (by simp) (W.sound ?_)
 show @W Tryz.prog 9 ⟨_⟩ ⟨fun x σ=>@za _ _ _ ⟨_⟩ _ ⟨_⟩ x σ⟩ _ _
 simp(disch:=omega)only[go_sem]
 refine qB (ai2 f caps p xs hl hf hg hc hc5 hn hr) (by simp(disch:=omega)only[go_sem,hc,hc5]) ?_
 rintro r hs ⟨i,rfl,rfl,hi⟩
 refine⟨by simp[qS],?_⟩
 simp(disch:=omega)only[go_sem]
 refine qj [] [] [] [.v (.bool (decide (0≤i)))] rfl (by simp(disch:=omega)only[go_sem]) (by simp(disch:=omega)only[go_sem]) (by simp) (by simp[AV.pu,q6]) ⟨?_,rfl⟩
 have:decide (0≤i)=xs.any p:=by rw[Bool.eq_iff_iff,decide_eq_true_eq,hi,List.any_eq_true]
 rw[this];rfl
theorem ai8(g:Nat)(p:Int→Bool)(xs:List Int)(hl:xs.length≤2^40)(hf:∀x,Con Tryz.prog g true [.v (.int .i64 x)] [] (Jr (p x)))(hg:qs Tryz.prog g):
  Con Tryz.prog 266 true [.sl xs.length (qg xs),.fn g []] [] (Jr (xs.all p)):=by
 refine Con.of_aw Tryz.func266 rfl Tryz.ntmps266 (by simp) (by simp) (by simp) (W.sound ?_)
 show @W Tryz.prog 9 ⟨_⟩ ⟨fun x σ=>@za _ _ _ ⟨_⟩ _ ⟨_⟩ x σ⟩ _ _
 simp(disch:=omega)only[go_sem]
 refine qB (YQ 294 [.fp [.fn g []] 0] (fun x=> !p x) xs hl (fun x=>adI g p x (hf x) hg) (by simp(disch:=omega)only[go_sem]) (fun h=>rfl) (fun h=>rfl) (fun ks=>by simp(disch:=omega)only[go_sem]) (fun ρ=>rfl)) (by simp(disch:=omega)only[go_sem]) ?_
 rintro r hs ⟨rfl,rfl⟩
 refine⟨by simp[qS],?_⟩
 simp(disch:=omega)only[go_sem]
 refine qj [] [] [] [.v (.bool (!xs.any fun x=> !p x))] rfl (by simp(disch:=omega)only[go_sem]) (by simp(disch:=omega)only[go_sem]) (by simp) (by simp[AV.pu,q6]) ⟨?_,rfl⟩
 have:(!xs.any fun x=> !p x)=xs.all p:=by rw[List.all_eq_not_any_not]
 rw[this];rfl
end Go.Ab
namespace Go.Ab
open Go Go.Proofs
theorem apw(xs:List Int)(hl:xs.length≤2^40):Con Tryz.prog 214 true [.ag [.sl xs.length (qg xs)]] [] (Jr (Yj xs)):=by
 refine Con.of_aw Tryz.func214 rfl Tryz.ntmps214 (by simp) (by simp) (by simp) (W.sound ?_)
 show @W Tryz.prog 29 ⟨_⟩ ⟨fun x σ=>@za _ _ _ ⟨_⟩ _ ⟨_⟩ x σ⟩ _ _
 have en:((xs.length:Int)-1).toNat=xs.length-1:=by omega
 simp(disch:=omega)only[go_sem]
 refine qe (fun h1=>?_) (fun h1=>?_)
 ·simp(disch:=omega)only[go_sem,h1]
  refine qB (ai8 267 (fun x=>decide (0≤x)&&decide (x≤65535)) xs hl aiT (by simp(disch:=omega)only[go_sem])) (by simp(disch:=omega)only[go_sem]) ?_
  rintro r hs ⟨rfl,rfl⟩
  refine⟨by simp[qS],?_⟩
  simp(disch:=omega)only[go_sem]
  refine zY (fun h2=>?_) (fun h2=>?_)
  ·simp(disch:=omega)only[go_sem,h2]
   refine q7 (fun h3=>?_) (fun h3=>?_)
   ·simp(disch:=omega)only[go_sem,h3,en]
    refine⟨by omega,by omega,?_⟩
    refine qc (by simp(disch:=omega)only[go_sem]) (by simp(disch:=omega)only[go_sem]) ⟨?_,rfl⟩
    have e1:decide (xs.length≤100)=true:=by simp;omega
    have e2:decide (xs.length=0)=false:=by simp;intro h;subst h;simp at h3
    show AV.v (.bool _)=AV.v (.bool _)
    unfold Yj
    rw[e1,h2,e2]
    simp
   ·simp(disch:=omega)only[go_sem,h3]
    refine qc (by simp(disch:=omega)only[go_sem]) (by simp(disch:=omega)only[go_sem]) ⟨?_,rfl⟩
    have e1:decide (xs.length≤100)=true:=by simp;omega
    have e2:decide (xs.length=0)=true:=by simp;exact List.length_eq_zero_iff.1 (by omega)
    show AV.v (.bool _)=AV.v (.bool _)
    unfold Yj
    rw[e1,h2,e2]
    simp
  ·simp(disch:=omega)only[go_sem,h2]
   refine qc (by simp(disch:=omega)only[go_sem]) (by simp(disch:=omega)only[go_sem]) ⟨?_,rfl⟩
   show AV.v (.bool _)=AV.v (.bool _)
   unfold Yj
   rw[h2];simp
 ·simp(disch:=omega)only[go_sem,h1]
  exact qc (by simp(disch:=omega)only[go_sem]) (by simp(disch:=omega)only[go_sem]) ⟨by simp[Yj,q6];omega,rfl⟩
end Go.Ab
namespace Go.Ab
open Go Go.Proofs
theorem Con.boolI{P:Program}{f:FuncId}{args:List AV}{b:Bool}(h:Con P f true args [] (Jr b)):Con P f true args [] (isA (.v (.bool b))):=
 (Con.len h).mono fun r hs bs ⟨⟨h1,h2⟩,h3⟩=>⟨h1,h2,h3⟩
theorem zA(n lo hi:Int):Con Tryz.prog 100 true [.v (.int .i64 n),.v (.int .i64 lo),.v (.int .i64 hi)] [] (isA (.v (.bool (decide (lo≤n)&&decide (n≤hi))))):=
 Con.boolI (QI n lo hi)
theorem aiS(xs:List Int)(hl:xs.length≤2^40):Con Tryz.prog 214 true [.ag [.sl xs.length (qg xs)]] [] (isA (.v (.bool (Yj xs)))):=Con.boolI (apw xs hl)
theorem adp(s:Bool)(xs:List Int)(hl:xs.length≤2^40):Con Tryz.prog 141 true [.ag [.v (.bool s),.sl xs.length (qg xs)]] [] (isA (.v (.bool (zU s xs)))):=by
 refine Con.of_aw Tryz.func141 rfl Tryz.ntmps141 (by simp) (by simp) (by simp) (W.sound ?_)
 show @W Tryz.prog 18 ⟨_⟩ ⟨fun x σ=>@za _ _ _ ⟨_⟩ _ ⟨_⟩ x σ⟩ _ _
 simp(disch:=omega)only[go_sem]
 refine qb (aiS xs hl) ?_
 simp(disch:=omega)only[go_sem]
 repeat' first
  |simp(disch:=omega)only[go_sem, *]
  |(with_reducible refine qe (fun _=>?_) (fun _=>?_))
  |(with_reducible refine q7 (fun _=>?_) (fun _=>?_))
  |(with_reducible refine z7 (fun _=>?_) (fun _=>?_))
  |(with_reducible refine zY (fun _=>?_) (fun _=>?_))
 all_goals exact qc (by simp(disch:=omega)only[go_sem]) (by simp(disch:=omega)only[go_sem]) ⟨by simp_all[q6,zU]<;>omega,rfl,rfl⟩
theorem adB(k ka ma ea kb mb eb:Int)(sa sb:Bool):Con Tryz.prog 108 true [.v (.int .i64 k),.ag [.v (.int .i64 (ka)),.v (.bool (sa)),.v (.int .i64 (ma)),.v (.int .i64 (ea))],.ag [.v (.int .i64 (kb)),.v (.bool (sb)),.v (.int .i64 (mb)),.v (.int .i64 (eb))]] [] (isA (.v (.bool (decide (ka=k)||decide (kb=k))))):=by
 refine Con.of_aw Tryz.func108 rfl Tryz.ntmps108 (by simp) (by simp) (by simp) (W.sound ?_)
 show @W Tryz.prog 17 ⟨_⟩ ⟨fun x σ=>@za _ _ _ ⟨_⟩ _ ⟨_⟩ x σ⟩ _ _
 simp(disch:=omega)only[go_sem]
 repeat' first
  |simp(disch:=omega)only[go_sem, *]
  |(with_reducible refine qe (fun _=>?_) (fun _=>?_))
  |(with_reducible refine q7 (fun _=>?_) (fun _=>?_))
  |(with_reducible refine z7 (fun _=>?_) (fun _=>?_))
  |(with_reducible refine zY (fun _=>?_) (fun _=>?_))
 all_goals exact qc (by simp(disch:=omega)only[go_sem]) (by simp(disch:=omega)only[go_sem]) ⟨by simp_all[q6]<;>omega,rfl,rfl⟩
theorem Qs(s:Bool):Con Tryz.prog 110 true [.v (.bool s)] [] (isA (.ag [.v (.int .i64 (0)),.v (.bool (s)),.v (.int .i64 (0)),.v (.int .i64 (0))])):=by
 refine Con.of_w (rs:=[.cell 2 63]) Tryz.func110 rfl Tryz.ntmps110 rfl ?_
 simp(disch:=omega)only[go_sem]
 exact qq
theorem QX(s:Bool):Con Tryz.prog 109 true [.v (.bool s)] [] (isA (.ag [.v (.int .i64 (2)),.v (.bool (s)),.v (.int .i64 (0)),.v (.int .i64 (0))])):=by
 refine Con.of_w (rs:=[.cell 2 63]) Tryz.func109 rfl Tryz.ntmps109 rfl ?_
 simp(disch:=omega)only[go_sem]
 exact qq
def ovB(s:Bool)(mode:Int):Bool:=decide (mode=1)||((decide (mode=2)&&s)||(decide (mode=3)&& !s))
theorem yt(s:Bool)(mode:Int):Con Tryz.prog 194 true [.v (.bool s),.v (.int .i64 mode)] [] (isA (.tu [.ag [.v (.int .i64 (if ovB s mode then 1 else 2)),.v (.bool s),.v (.int .i64 (if ovB s mode then 9007199254740991 else 0)),.v (.int .i64 (if ovB s mode then 971 else 0))],.v (.int .i64 3)])):=by
 refine Con.of_aw Tryz.func194 rfl Tryz.ntmps194 (by simp) (by simp) (by simp) (W.sound ?_)
 show @W Tryz.prog 29 ⟨_⟩ ⟨fun x σ=>@za _ _ _ ⟨_⟩ _ ⟨_⟩ x σ⟩ _ _
 simp(disch:=omega)only[go_sem]
 refine qb (QX s) ?_
 simp(disch:=omega)only[go_sem]
 repeat' first
  |simp(disch:=omega)only[go_sem, *]
  |(with_reducible refine qe (fun _=>?_) (fun _=>?_))
  |(with_reducible refine q7 (fun _=>?_) (fun _=>?_))
  |(with_reducible refine z7 (fun _=>?_) (fun _=>?_))
  |(with_reducible refine zY (fun _=>?_) (fun _=>?_))
 all_goals exact qc (by simp(disch:=omega)only[go_sem]) (by simp(disch:=omega)only[go_sem]) ⟨by simp_all[q6,ovB]<;>omega,rfl,rfl⟩
def flB(k:Int)(s:Bool)(m e:Int):Bool:=
 if k=1 then(decide (-1074≤e)&&decide (e≤971))&&((decide (4503599627370496≤m)&&decide (m≤9007199254740991))||((decide (1≤m)&&decide (m≤4503599627370495))&&decide (e= -1074)))
 else if k=0∨k=2 then decide (m=0)&&decide (e=0)else((decide (k=3)&&decide (m=0))&&decide (e=0))&& !s
theorem z6(k:Int)(s:Bool)(m e:Int):Con Tryz.prog 113 true [.ag [.v (.int .i64 (k)),.v (.bool (s)),.v (.int .i64 (m)),.v (.int .i64 (e))]] [] (isA (.v (.bool (flB k s m e)))):=by
 refine Con.of_aw Tryz.func113 rfl Tryz.ntmps113 (by simp) (by simp) (by simp) (W.sound ?_)
 show @W Tryz.prog 54 ⟨_⟩ ⟨fun x σ=>@za _ _ _ ⟨_⟩ _ ⟨_⟩ x σ⟩ _ _
 simp(disch:=omega)only[go_sem]
 refine qe (fun h1=>?_) (fun h1=>?_)
 ·simp(disch:=omega)only[go_sem,h1]
  refine qb (zA e (-1074) 971) ?_
  simp(disch:=omega)only[go_sem]
  refine zY (fun h2=>?_) (fun h2=>?_)
  ·simp(disch:=omega)only[go_sem,h2]
   refine qb (zA m 4503599627370496 9007199254740991) ?_
   simp(disch:=omega)only[go_sem]
   refine z7 (fun h3=>?_) (fun h3=>?_)
   ·simp(disch:=omega)only[go_sem,h3]
    refine qb (zA m 1 4503599627370495) ?_
    simp(disch:=omega)only[go_sem]
    refine zY (fun h4=>?_) (fun h4=>?_)
    ·simp(disch:=omega)only[go_sem,h4]
     refine qc (by simp(disch:=omega)only[go_sem]) (by simp(disch:=omega)only[go_sem]) ⟨?_,rfl,rfl⟩
     show AV.v (.bool _)=AV.v (.bool _)
     unfold flB;rw[if_pos h1,h2,h3,h4];rfl
    ·simp(disch:=omega)only[go_sem,h4]
     refine qc (by simp(disch:=omega)only[go_sem]) (by simp(disch:=omega)only[go_sem]) ⟨?_,rfl,rfl⟩
     show AV.v (.bool _)=AV.v (.bool _)
     unfold flB;rw[if_pos h1,h2,h3,h4];rfl
   ·simp(disch:=omega)only[go_sem,h3]
    refine qc (by simp(disch:=omega)only[go_sem]) (by simp(disch:=omega)only[go_sem]) ⟨?_,rfl,rfl⟩
    show AV.v (.bool _)=AV.v (.bool _)
    unfold flB;rw[if_pos h1,h2,h3];rfl
  ·simp(disch:=omega)only[go_sem,h2]
   refine qc (by simp(disch:=omega)only[go_sem]) (by simp(disch:=omega)only[go_sem]) ⟨?_,rfl,rfl⟩
   show AV.v (.bool _)=AV.v (.bool _)
   unfold flB;rw[if_pos h1,h2];rfl
 ·repeat' first
   |simp(disch:=omega)only[go_sem, *]
   |(with_reducible refine qe (fun _=>?_) (fun _=>?_))
   |(with_reducible refine q7 (fun _=>?_) (fun _=>?_))
   |(with_reducible refine z7 (fun _=>?_) (fun _=>?_))
   |(with_reducible refine zY (fun _=>?_) (fun _=>?_))
  all_goals exact qc (by simp(disch:=omega)only[go_sem]) (by simp(disch:=omega)only[go_sem]) ⟨by simp_all[q6,flB]<;>omega,rfl,rfl⟩
end Go.Ab
namespace Go.Ab
open Go Go.Proofs
def qC(top:Int):Int:=if-1074>top-53 then-1074 else top-53
def flE(rm:Nat)(re:Int):Int:=qC ((bl rm:Int)+re)
def flM(rm:Nat)(re:Int):Nat:=oM rm*2^(oE rm re-flE rm re).toNat
def zm(top:Int)(same:Bool):Int:=if same then 0 else if top≤ -1022 then 5 else 1
def flK(s:Bool)(mode:Int)(rm:Nat)(re:Int):Int:=if rm=0 then 0 else if 1024<(bl rm:Int)+re then(if ovB s mode then 1 else 2)else 1
def j8(s:Bool)(mode:Int)(rm:Nat)(re:Int):Int:=if rm=0 then 0 else if 1024<(bl rm:Int)+re then(if ovB s mode then 9007199254740991 else 0)else(flM rm re:Int)
def j9(s:Bool)(mode:Int)(rm:Nat)(re:Int):Int:=if rm=0 then 0 else if 1024<(bl rm:Int)+re then(if ovB s mode then 971 else 0)else flE rm re
def jZ(top:Int)(same:Bool)(rm:Nat)(re:Int):Int:=if rm≠0∧1024<(bl rm:Int)+re then 3 else zm top same
theorem aob{a b k:Nat}(h:a<2^k):a|||b*2^k=a+b*2^k:=by
 have:=Nat.two_pow_add_eq_or_of_lt h b
 rw[Nat.or_comm,Nat.mul_comm b,←this,Nat.add_comm]
theorem Qm{rm:Nat}{re:Int}(h0:rm≠0)(he:flE rm re≤oE rm re):bl (flM rm re)≤53:=by
 have h1:oM rm≠0:=fun e=>h0 (qQ.1 e)
 have h2:=aai h0
 unfold flM
 rw[zx h1]
 unfold flE qC oE at*
 rw[if_neg h0]at*
 split at he<;>split<;>omega
set_option maxRecDepth 100000 in
theorem adD(s:Bool)(top mode:Int)(f:Nat)(caps:List AV)(rs same:Bool)(rm:Nat)(re:Int)(ht: -1000000≤top∧top≤1000000)(hf:Con Tryz.prog f false (.v (.int .i64 (qC top))::caps) [] (isA (.tu [.ag [.v (.bool (rs)),.sl (lim (rm)).length (qg (lim (rm))),.v (.int .i64 (re))],.v (.bool same)])))(hg:qs Tryz.prog f=True)
  (hc:∀h:Nat→Ob,caps.map (qP h 6)=caps) (hm:bl rm≤4000000) (hre: -1000000≤re∧re≤1000000) (he:rm≠0→(bl rm:Int)+re≤1024→flE rm re≤oE rm re):
  Con Tryz.prog 117 true [.v (.bool s),.v (.int .i64 top),.v (.int .i64 mode),.fn f caps] []
   (isA (.tu [.ag [.v (.int .i64 (flK s mode rm re)),.v (.bool (s)),.v (.int .i64 (j8 s mode rm re)),.v (.int .i64 (j9 s mode rm re))],.v (.int .i64 (jZ top same rm re))])):=by
 refine Con.of_aw Tryz.func117 rfl Tryz.ntmps117 (by simp) (by simp) (by simp) (W.sound ?_)
 show @W Tryz.prog 77 ⟨_⟩ ⟨fun x σ=>@za _ _ _ ⟨_⟩ _ ⟨_⟩ x σ⟩ _ _
 have elow:(if-1074>top-53 then(-1074:Int)else top-53)=qC top:=rfl
 have elow2: -2000000≤qC top∧qC top≤2000000:=by unfold qC;split<;>omega
 simp(disch:=omega)only[go_sem,elow,hg]
 refine qF hf (by simp(disch:=omega)only[go_sem,hc]) ?_
 rintro r hs ⟨rfl,rfl,_⟩
 refine⟨by simp[qS],?_⟩
 simp(disch:=omega)only[go_sem]
 refine z7 (fun h1=>?_) (fun h1=>?_)
 ·simp(disch:=omega)only[go_sem,h1]
  refine qe (fun h2=>?_) (fun h2=>?_)
  ·have hfl:zm top same=5:=by unfold zm;rw[h1,if_pos h2];rfl
   have e5:((1|||4:Nat):Int)=5:=rfl
   simp(disch:=omega)only[go_sem,h2,e5]
   refine qa (ZY rs rm re (by omega) (by omega)) ?_
   simp(disch:=omega)only[go_sem]
   refine qb (js (oS rs rm) (oM rm) (oE rm re)) ?_
   simp(disch:=omega)only[go_sem]
   refine qe (fun h3=>?_) (fun h3=>?_)
   ·have h0:rm=0:=qQ.1 h3
    simp(disch:=omega)only[go_sem,h3]
    refine qb (Qs s) ?_
    simp(disch:=omega)only[go_sem]
    refine qc (by simp(disch:=omega)only[go_sem]) (by simp(disch:=omega)only[go_sem]) ⟨?_,rfl,rfl⟩
    simp[q6,flK,j8,j9,jZ,h0,hfl]
   ·have h0:rm≠0:=fun e=>h3 (by rw[e];exact j6)
    have hlo:(lim (oM rm)).length≤2^40:=by have:=qy (Nat.le_trans (zf (yS rm)) hm);omega
    have hblo:=aai h0
    have hoE:oE rm re=re+tz rm:=by unfold oE;rw[if_neg h0]
    have etop:(if oM rm=0 then(0:Int)else(bl (oM rm):Int)+oE rm re)=(bl rm:Int)+re:=by rw[if_neg h3,hoE];omega
    simp(disch:=omega)only[go_sem,h3]
    refine qb (jE (oS rs rm) (oM rm) (oE rm re) hlo (by omega)) ?_
    simp(disch:=omega)only[go_sem]
    refine qe (fun h4=>?_) (fun h4=>?_)
    ·simp(disch:=omega)only[go_sem,h4,etop]
     refine qb (yt s mode) ?_
     simp(disch:=omega)only[go_sem]
     rw[etop]at h4
     refine qc (by simp(disch:=omega)only[go_sem]) (by simp(disch:=omega)only[go_sem]) ⟨?_,rfl,rfl⟩
     simp[q6,flK,j8,j9,jZ,h0,h4]
    ·rw[etop]at h4
     have he':=he h0 (by omega)
     have hM:=Qm h0 he'
     have eE:(if-1074>(bl rm:Int)+re-53 then(-1074:Int)else(bl rm:Int)+re-53)=flE rm re:=rfl
     have eE2: -2000000≤flE rm re∧flE rm re≤2000000:=by unfold flE qC;split<;>omega
     have ek:oE rm re-flE rm re=(((oE rm re-flE rm re).toNat:Nat):Int):=by omega
     have hML:=qy hM
     simp(disch:=omega)only[go_sem,h4,etop]
     refine qb (jE (oS rs rm) (oM rm) (oE rm re) hlo (by omega)) ?_
     simp(disch:=omega)only[go_sem]
     simp(disch:=omega)only[go_sem,etop,eE]
     refine qF (zG (oM rm) (oE rm re-flE rm re).toNat (by have:=qy (Nat.le_trans (zf (yS rm)) hm);omega) (by omega)) (by simp(disch:=omega)only[go_sem,etop,eE,←ek]) ?_
     rintro r hs ⟨rfl,rfl,_⟩
     refine⟨by simp[qS],?_⟩
     simp(disch:=omega)only[go_sem]
     generalize hLM:flM rm re=M at*
     have eM:oM rm*2^(oE rm re-flE rm re).toNat=M:=hLM
     have hM6:M<2^53:=Nat.lt_of_lt_of_le (yd M) (Nat.pow_le_pow_right (by omega) hM)
     have htk:∀i,i≤(lim M).length→0≤vl ((lim M).take i)∧vl ((lim M).take i)<2^53:=fun i hi=>by
      have h1:=qM (zK (qU M) i)
      have h2:=qY (lim M) i hi
      have hp:(0:Int)<65536^i:=Int.pow_pos (by omega)
      have h3:=Int.mul_nonneg (Int.le_of_lt hp) (qM (jj (qU M) i))
      rw[qW]at h2
      omega
     refine qk (fun i:Nat=>[(0,.v (.bool s)),(8,.pt 100000000 0),(12,.v (.int .i64 5)),(13,.v (.int .i64 (flE rm re))),(14,.v (.int .i64 (vl ((lim M).take i)))),(58,.sl (lim M).length (qg (lim M))),(59,.v (.int .i64 (lim M).length)),(60,.v (.int .i64 i))])
      (fun _=>[(100000000,.own 0 [.v (.int .i64 0),.v (.bool false),.v (.int .i64 0),.v (.int .i64 0)])]) (fun i=>i≤(lim M).length) (fun i=>(lim M).length-i) 0 (by omega)
      (Le.lst [] _ _ rfl (by simp(disch:=omega)only[go_sem,etop,eE,eM,vl,List.take_zero,e5];try omega) (by simp(disch:=omega)only[go_sem])) ?_
     intro i hi
     have hti:=htk i hi
     simp(disch:=omega)only[go_sem]
     refine qe (fun h5=>?_) (fun h5=>?_)
     ·have hti2:=htk (i+1) (by omega)
      have hx:=qN (qU M) i
      have hts:=zy (l:=lim M) (i:=i) (by omega)
      have hi3:i≤3:=by omega
      have es:(min ((16:Int)*(i:Int)).toNat 64)=16*i:=by omega
      have ep:(2:Int)^(16*i)=65536^i:=by rw[Int.pow_mul];rfl
      have hp:(0:Int)<65536^i:=Int.pow_pos (by omega)
      have hnn:=Int.mul_nonneg (Int.le_of_lt hp) hx.1
      have hcm:(lim M).getD i 0*65536^i=65536^i*(lim M).getD i 0:=Int.mul_comm _ _
      have hmul:0≤(lim M).getD i 0*65536^i∧(lim M).getD i 0*65536^i<2^53:=by omega
      have eor:(((vl ((lim M).take i)).toNat|||((lim M).getD i 0*65536^i).toNat:Nat):Int)=vl ((lim M).take (i+1)):=by
       obtain⟨a,ha⟩:=Int.eq_ofNat_of_zero_le hti.1
       obtain⟨b,hb⟩:=Int.eq_ofNat_of_zero_le hx.1
       have hlt:=yG (zK (qU M) i)
       rw[List.length_take,Nat.min_eq_left hi]at hlt
       rw[hts,←hcm,ha,hb]
       have e1:(b:Int)*65536^i=((b*2^(16*i):Nat):Int):=by rw[←yl,Int.natCast_mul,Int.natCast_pow];rfl
       rw[e1,Int.toNat_natCast,Int.toNat_natCast,aob,Int.natCast_add]
       rw[ha,show((65536:Int)^i)=((2^(16*i):Nat):Int) by rw[←yl,Int.natCast_pow];rfl]at hlt
       omega
      simp(disch:=omega)only[go_sem,h5]
      simp(disch:=omega)only[go_sem,es,ep,Zn]
      simp(disch:=omega)only[go_sem,eor]
      refine⟨by omega,by omega,by omega,qh (i+1) [] (by show i+1≤_;omega) (by show(lim M).length-(i+1)<(lim M).length-i;omega) rfl (by simp(disch:=omega)only[go_sem];try omega) (by simp(disch:=omega)only[go_sem])⟩
     ·have:i=(lim M).length:=by omega
      subst this
      have evl:vl ((lim M).take (lim M).length)=(M:Int):=by rw[List.take_length,qW]
      simp(disch:=omega)only[go_sem,h5,evl]
      refine qc (by simp(disch:=omega)only[go_sem]) (by simp(disch:=omega)only[go_sem]) ⟨?_,rfl,rfl⟩
      simp[q6,flK,j8,j9,jZ,h0,h4,hfl,hLM,qW]
  ·have hfl:zm top same=1:=by unfold zm;rw[h1,if_neg h2];rfl
   have e5:=(rfl:(0:Nat)=0)
   simp(disch:=omega)only[go_sem,h2]
   refine qa (ZY rs rm re (by omega) (by omega)) ?_
   simp(disch:=omega)only[go_sem]
   refine qb (js (oS rs rm) (oM rm) (oE rm re)) ?_
   simp(disch:=omega)only[go_sem]
   refine qe (fun h3=>?_) (fun h3=>?_)
   ·have h0:rm=0:=qQ.1 h3
    simp(disch:=omega)only[go_sem,h3]
    refine qb (Qs s) ?_
    simp(disch:=omega)only[go_sem]
    refine qc (by simp(disch:=omega)only[go_sem]) (by simp(disch:=omega)only[go_sem]) ⟨?_,rfl,rfl⟩
    simp[q6,flK,j8,j9,jZ,h0,hfl]
   ·have h0:rm≠0:=fun e=>h3 (by rw[e];exact j6)
    have hlo:(lim (oM rm)).length≤2^40:=by have:=qy (Nat.le_trans (zf (yS rm)) hm);omega
    have hblo:=aai h0
    have hoE:oE rm re=re+tz rm:=by unfold oE;rw[if_neg h0]
    have etop:(if oM rm=0 then(0:Int)else(bl (oM rm):Int)+oE rm re)=(bl rm:Int)+re:=by rw[if_neg h3,hoE];omega
    simp(disch:=omega)only[go_sem,h3]
    refine qb (jE (oS rs rm) (oM rm) (oE rm re) hlo (by omega)) ?_
    simp(disch:=omega)only[go_sem]
    refine qe (fun h4=>?_) (fun h4=>?_)
    ·simp(disch:=omega)only[go_sem,h4,etop]
     refine qb (yt s mode) ?_
     simp(disch:=omega)only[go_sem]
     rw[etop]at h4
     refine qc (by simp(disch:=omega)only[go_sem]) (by simp(disch:=omega)only[go_sem]) ⟨?_,rfl,rfl⟩
     simp[q6,flK,j8,j9,jZ,h0,h4]
    ·rw[etop]at h4
     have he':=he h0 (by omega)
     have hM:=Qm h0 he'
     have eE:(if-1074>(bl rm:Int)+re-53 then(-1074:Int)else(bl rm:Int)+re-53)=flE rm re:=rfl
     have eE2: -2000000≤flE rm re∧flE rm re≤2000000:=by unfold flE qC;split<;>omega
     have ek:oE rm re-flE rm re=(((oE rm re-flE rm re).toNat:Nat):Int):=by omega
     have hML:=qy hM
     simp(disch:=omega)only[go_sem,h4,etop]
     refine qb (jE (oS rs rm) (oM rm) (oE rm re) hlo (by omega)) ?_
     simp(disch:=omega)only[go_sem]
     simp(disch:=omega)only[go_sem,etop,eE]
     refine qF (zG (oM rm) (oE rm re-flE rm re).toNat (by have:=qy (Nat.le_trans (zf (yS rm)) hm);omega) (by omega)) (by simp(disch:=omega)only[go_sem,etop,eE,←ek]) ?_
     rintro r hs ⟨rfl,rfl,_⟩
     refine⟨by simp[qS],?_⟩
     simp(disch:=omega)only[go_sem]
     generalize hLM:flM rm re=M at*
     have eM:oM rm*2^(oE rm re-flE rm re).toNat=M:=hLM
     have hM6:M<2^53:=Nat.lt_of_lt_of_le (yd M) (Nat.pow_le_pow_right (by omega) hM)
     have htk:∀i,i≤(lim M).length→0≤vl ((lim M).take i)∧vl ((lim M).take i)<2^53:=fun i hi=>by
      have h1:=qM (zK (qU M) i)
      have h2:=qY (lim M) i hi
      have hp:(0:Int)<65536^i:=Int.pow_pos (by omega)
      have h3:=Int.mul_nonneg (Int.le_of_lt hp) (qM (jj (qU M) i))
      rw[qW]at h2
      omega
     refine qk (fun i:Nat=>[(0,.v (.bool s)),(8,.pt 100000000 0),(12,.v (.int .i64 1)),(13,.v (.int .i64 (flE rm re))),(14,.v (.int .i64 (vl ((lim M).take i)))),(58,.sl (lim M).length (qg (lim M))),(59,.v (.int .i64 (lim M).length)),(60,.v (.int .i64 i))])
      (fun _=>[(100000000,.own 0 [.v (.int .i64 0),.v (.bool false),.v (.int .i64 0),.v (.int .i64 0)])]) (fun i=>i≤(lim M).length) (fun i=>(lim M).length-i) 0 (by omega)
      (Le.lst [] _ _ rfl (by simp(disch:=omega)only[go_sem,etop,eE,eM,vl,List.take_zero,e5];try omega) (by simp(disch:=omega)only[go_sem])) ?_
     intro i hi
     have hti:=htk i hi
     simp(disch:=omega)only[go_sem]
     refine qe (fun h5=>?_) (fun h5=>?_)
     ·have hti2:=htk (i+1) (by omega)
      have hx:=qN (qU M) i
      have hts:=zy (l:=lim M) (i:=i) (by omega)
      have hi3:i≤3:=by omega
      have es:(min ((16:Int)*(i:Int)).toNat 64)=16*i:=by omega
      have ep:(2:Int)^(16*i)=65536^i:=by rw[Int.pow_mul];rfl
      have hp:(0:Int)<65536^i:=Int.pow_pos (by omega)
      have hnn:=Int.mul_nonneg (Int.le_of_lt hp) hx.1
      have hcm:(lim M).getD i 0*65536^i=65536^i*(lim M).getD i 0:=Int.mul_comm _ _
      have hmul:0≤(lim M).getD i 0*65536^i∧(lim M).getD i 0*65536^i<2^53:=by omega
      have eor:(((vl ((lim M).take i)).toNat|||((lim M).getD i 0*65536^i).toNat:Nat):Int)=vl ((lim M).take (i+1)):=by
       obtain⟨a,ha⟩:=Int.eq_ofNat_of_zero_le hti.1
       obtain⟨b,hb⟩:=Int.eq_ofNat_of_zero_le hx.1
       have hlt:=yG (zK (qU M) i)
       rw[List.length_take,Nat.min_eq_left hi]at hlt
       rw[hts,←hcm,ha,hb]
       have e1:(b:Int)*65536^i=((b*2^(16*i):Nat):Int):=by rw[←yl,Int.natCast_mul,Int.natCast_pow];rfl
       rw[e1,Int.toNat_natCast,Int.toNat_natCast,aob,Int.natCast_add]
       rw[ha,show((65536:Int)^i)=((2^(16*i):Nat):Int) by rw[←yl,Int.natCast_pow];rfl]at hlt
       omega
      simp(disch:=omega)only[go_sem,h5]
      simp(disch:=omega)only[go_sem,es,ep,Zn]
      simp(disch:=omega)only[go_sem,eor]
      refine⟨by omega,by omega,by omega,qh (i+1) [] (by show i+1≤_;omega) (by show(lim M).length-(i+1)<(lim M).length-i;omega) rfl (by simp(disch:=omega)only[go_sem];try omega) (by simp(disch:=omega)only[go_sem])⟩
     ·have:i=(lim M).length:=by omega
      subst this
      have evl:vl ((lim M).take (lim M).length)=(M:Int):=by rw[List.take_length,qW]
      simp(disch:=omega)only[go_sem,h5,evl]
      refine qc (by simp(disch:=omega)only[go_sem]) (by simp(disch:=omega)only[go_sem]) ⟨?_,rfl,rfl⟩
      simp[q6,flK,j8,j9,jZ,h0,h4,hfl,hLM,qW]
 ·have hfl:zm top same=0:=by unfold zm;rw[h1,if_pos rfl]
  have e5:=(rfl:(0:Nat)=0)
  simp(disch:=omega)only[go_sem,h1]
  refine qa (ZY rs rm re (by omega) (by omega)) ?_
  simp(disch:=omega)only[go_sem]
  refine qb (js (oS rs rm) (oM rm) (oE rm re)) ?_
  simp(disch:=omega)only[go_sem]
  refine qe (fun h3=>?_) (fun h3=>?_)
  ·have h0:rm=0:=qQ.1 h3
   simp(disch:=omega)only[go_sem,h3]
   refine qb (Qs s) ?_
   simp(disch:=omega)only[go_sem]
   refine qc (by simp(disch:=omega)only[go_sem]) (by simp(disch:=omega)only[go_sem]) ⟨?_,rfl,rfl⟩
   simp[q6,flK,j8,j9,jZ,h0,hfl]
  ·have h0:rm≠0:=fun e=>h3 (by rw[e];exact j6)
   have hlo:(lim (oM rm)).length≤2^40:=by have:=qy (Nat.le_trans (zf (yS rm)) hm);omega
   have hblo:=aai h0
   have hoE:oE rm re=re+tz rm:=by unfold oE;rw[if_neg h0]
   have etop:(if oM rm=0 then(0:Int)else(bl (oM rm):Int)+oE rm re)=(bl rm:Int)+re:=by rw[if_neg h3,hoE];omega
   simp(disch:=omega)only[go_sem,h3]
   refine qb (jE (oS rs rm) (oM rm) (oE rm re) hlo (by omega)) ?_
   simp(disch:=omega)only[go_sem]
   refine qe (fun h4=>?_) (fun h4=>?_)
   ·simp(disch:=omega)only[go_sem,h4,etop]
    refine qb (yt s mode) ?_
    simp(disch:=omega)only[go_sem]
    rw[etop]at h4
    refine qc (by simp(disch:=omega)only[go_sem]) (by simp(disch:=omega)only[go_sem]) ⟨?_,rfl,rfl⟩
    simp[q6,flK,j8,j9,jZ,h0,h4]
   ·rw[etop]at h4
    have he':=he h0 (by omega)
    have hM:=Qm h0 he'
    have eE:(if-1074>(bl rm:Int)+re-53 then(-1074:Int)else(bl rm:Int)+re-53)=flE rm re:=rfl
    have eE2: -2000000≤flE rm re∧flE rm re≤2000000:=by unfold flE qC;split<;>omega
    have ek:oE rm re-flE rm re=(((oE rm re-flE rm re).toNat:Nat):Int):=by omega
    have hML:=qy hM
    simp(disch:=omega)only[go_sem,h4,etop]
    refine qb (jE (oS rs rm) (oM rm) (oE rm re) hlo (by omega)) ?_
    simp(disch:=omega)only[go_sem]
    simp(disch:=omega)only[go_sem,etop,eE]
    refine qF (zG (oM rm) (oE rm re-flE rm re).toNat (by have:=qy (Nat.le_trans (zf (yS rm)) hm);omega) (by omega)) (by simp(disch:=omega)only[go_sem,etop,eE,←ek]) ?_
    rintro r hs ⟨rfl,rfl,_⟩
    refine⟨by simp[qS],?_⟩
    simp(disch:=omega)only[go_sem]
    generalize hLM:flM rm re=M at*
    have eM:oM rm*2^(oE rm re-flE rm re).toNat=M:=hLM
    have hM6:M<2^53:=Nat.lt_of_lt_of_le (yd M) (Nat.pow_le_pow_right (by omega) hM)
    have htk:∀i,i≤(lim M).length→0≤vl ((lim M).take i)∧vl ((lim M).take i)<2^53:=fun i hi=>by
     have h1:=qM (zK (qU M) i)
     have h2:=qY (lim M) i hi
     have hp:(0:Int)<65536^i:=Int.pow_pos (by omega)
     have h3:=Int.mul_nonneg (Int.le_of_lt hp) (qM (jj (qU M) i))
     rw[qW]at h2
     omega
    refine qk (fun i:Nat=>[(0,.v (.bool s)),(8,.pt 100000000 0),(12,.v (.int .i64 0)),(13,.v (.int .i64 (flE rm re))),(14,.v (.int .i64 (vl ((lim M).take i)))),(58,.sl (lim M).length (qg (lim M))),(59,.v (.int .i64 (lim M).length)),(60,.v (.int .i64 i))])
     (fun _=>[(100000000,.own 0 [.v (.int .i64 0),.v (.bool false),.v (.int .i64 0),.v (.int .i64 0)])]) (fun i=>i≤(lim M).length) (fun i=>(lim M).length-i) 0 (by omega)
     (Le.lst [] _ _ rfl (by simp(disch:=omega)only[go_sem,etop,eE,eM,vl,List.take_zero,e5];try omega) (by simp(disch:=omega)only[go_sem])) ?_
    intro i hi
    have hti:=htk i hi
    simp(disch:=omega)only[go_sem]
    refine qe (fun h5=>?_) (fun h5=>?_)
    ·have hti2:=htk (i+1) (by omega)
     have hx:=qN (qU M) i
     have hts:=zy (l:=lim M) (i:=i) (by omega)
     have hi3:i≤3:=by omega
     have es:(min ((16:Int)*(i:Int)).toNat 64)=16*i:=by omega
     have ep:(2:Int)^(16*i)=65536^i:=by rw[Int.pow_mul];rfl
     have hp:(0:Int)<65536^i:=Int.pow_pos (by omega)
     have hnn:=Int.mul_nonneg (Int.le_of_lt hp) hx.1
     have hcm:(lim M).getD i 0*65536^i=65536^i*(lim M).getD i 0:=Int.mul_comm _ _
     have hmul:0≤(lim M).getD i 0*65536^i∧(lim M).getD i 0*65536^i<2^53:=by omega
     have eor:(((vl ((lim M).take i)).toNat|||((lim M).getD i 0*65536^i).toNat:Nat):Int)=vl ((lim M).take (i+1)):=by
      obtain⟨a,ha⟩:=Int.eq_ofNat_of_zero_le hti.1
      obtain⟨b,hb⟩:=Int.eq_ofNat_of_zero_le hx.1
      have hlt:=yG (zK (qU M) i)
      rw[List.length_take,Nat.min_eq_left hi]at hlt
      rw[hts,←hcm,ha,hb]
      have e1:(b:Int)*65536^i=((b*2^(16*i):Nat):Int):=by rw[←yl,Int.natCast_mul,Int.natCast_pow];rfl
      rw[e1,Int.toNat_natCast,Int.toNat_natCast,aob,Int.natCast_add]
      rw[ha,show((65536:Int)^i)=((2^(16*i):Nat):Int) by rw[←yl,Int.natCast_pow];rfl]at hlt
      omega
     simp(disch:=omega)only[go_sem,h5]
     simp(disch:=omega)only[go_sem,es,ep,Zn]
     simp(disch:=omega)only[go_sem,eor]
     refine⟨by omega,by omega,by omega,qh (i+1) [] (by show i+1≤_;omega) (by show(lim M).length-(i+1)<(lim M).length-i;omega) rfl (by simp(disch:=omega)only[go_sem];try omega) (by simp(disch:=omega)only[go_sem])⟩
    ·have:i=(lim M).length:=by omega
     subst this
     have evl:vl ((lim M).take (lim M).length)=(M:Int):=by rw[List.take_length,qW]
     simp(disch:=omega)only[go_sem,h5,evl]
     refine qc (by simp(disch:=omega)only[go_sem]) (by simp(disch:=omega)only[go_sem]) ⟨?_,rfl,rfl⟩
     simp[q6,flK,j8,j9,jZ,h0,h4,hfl,hLM,qW]
end Go.Ab
namespace Go.Ab
open Go
def qz{X:Type}(f:X→List AV)(l:List X):List AV:=(l.map f).flatten
section
variable {X:Type}{f:X→List AV}{z:Nat}{l:List X}
theorem QA:qz f []=[]:=by simp[qz]
theorem jd{x:X}:qz f (x::l)=f x++qz f l:=by simp[qz]
theorem J9(hz:∀x,(f x).length=z):(qz f l).length=l.length*z:=by
 induction l with
 |nil=>simp[qz]
 |cons x r ih=>rw[jd,List.length_append,hz,ih,List.length_cons,Nat.add_mul,Nat.one_mul,Nat.add_comm]
theorem aAk(hz:∀x,(f x).length=z)(i:Nat):(qz f l).drop (i*z)=qz f (l.drop i):=by
 induction l generalizing i with
 |nil=>simp[qz]
 |cons x r ih=>
  cases i with
  |zero=>simp
  |succ i=>
   rw[jd,List.drop_succ_cons,←ih,Nat.add_mul,Nat.one_mul,Nat.add_comm,←List.drop_drop,List.drop_left' (hz x)]
theorem aAj(hz:∀x,(f x).length=z)(i:Nat):(qz f l).take (i*z)=qz f (l.take i):=by
 induction l generalizing i with
 |nil=>simp[qz]
 |cons x r ih=>
  cases i with
  |zero=>simp[QA]
  |succ i=>
   rw[jd,List.take_succ_cons,jd,←ih,Nat.add_mul,Nat.one_mul,Nat.add_comm,←hz x,List.take_length_add_append]
theorem aIo(hz:∀x,(f x).length=z)(o n:Nat):cut (qz f l) (o*z) (n*z)=qz f ((l.drop o).take n):=by
 rw[cut,aAk hz,aAj hz]
theorem ac1(hz:∀x,(f x).length=z){i:Nat}(hi:i<l.length)(d:X):cut (qz f l) (i*z) z=f (l.getD i d):=by
 have h:=aIo (l:=l) hz i 1
 rw[Nat.one_mul]at h
 have e:(l.drop i).take 1=[l.getD i d]:=by
  rw[List.drop_eq_getElem_cons hi,List.getD_eq_getElem?_getD,List.getElem?_eq_getElem hi];rfl
 rw[h,e,jd,QA,List.append_nil]
theorem J8{ρ:Nat→Nat}(h:∀x,jk ρ (f x)=f x):jk ρ (qz f l)=qz f l:=by
 induction l with
 |nil=>rfl
 |cons x r ih=>
  rw[jd]
  have:∀a b:List AV,jk ρ (a++b)=jk ρ a++jk ρ b:=fun a b=>by simp[zi]
  rw[this,h,ih]
theorem Zc{hp:Nat→Ob}{k:Nat}(h:∀x,(f x).map (qP hp k)=f x):(qz f l).map (qP hp k)=qz f l:=by
 induction l with
 |nil=>rfl
 |cons x r ih=>rw[jd,List.map_append,h,ih]
theorem Ya{p:Nat→Prop}(h:∀x,AllL p (f x)):AllL p (qz f l):=by
 induction l with
 |nil=>simp[qz,AllL]
 |cons x r ih=>rw[jd];exact AllL.append (h x) ih
theorem aAY{h:Nat→Ob}{sz o:Nat}{K:AV→Prop}:@yT true sz h (.fp (qz f l) o) ⟨K⟩=(o+sz≤(qz f l).length∧K (.ag (cut (qz f l) o sz))):=ID rfl
theorem anZ{l':List X}:qz f l++qz f l'=qz f (l++l'):=by simp[qz]
end
structure FlV where
 k:Int
 s:Bool
 m:Int
 e:Int
def FlV.cs(x:FlV):List AV:=[.v (.int .i64 x.k),.v (.bool x.s),.v (.int .i64 x.m),.v (.int .i64 x.e)]
theorem aR6(x:FlV):x.cs.length=4:=rfl
theorem aD4{ρ:Nat→Nat}(x:FlV):jk ρ x.cs=x.cs:=rfl
theorem ao3{hp:Nat→Ob}{k:Nat}(x:FlV):x.cs.map (qP hp (k+1))=x.cs:=rfl
theorem aD5{p:Nat→Prop}(x:FlV):AllL p x.cs:=by simp[FlV.cs,AllL,AV.All]
theorem aKi{l:List FlV}:(qz FlV.cs l).length=l.length*4:=J9 aR6
theorem aKh{ρ:Nat→Nat}{l:List FlV}:jk ρ (qz FlV.cs l)=qz FlV.cs l:=J8 aD4
theorem aBo{hp:Nat→Ob}{k:Nat}{l:List FlV}:(qz FlV.cs l).map (qP hp (k+1))=qz FlV.cs l:=Zc ao3
theorem aKj{p:Nat→Prop}{l:List FlV}:AllL p (qz FlV.cs l)=True:=eq_true (Ya aD5)
theorem aBp{p:Nat→Prop}{x:FlV}:AllL p x.cs=True:=eq_true (aD5 x)
attribute [go_sem] aAY aKi aKh aBo aKj aBp aD4 ao3
end Go.Ab
namespace Go.Ab
open Go Go.Proofs
section
variable (g:Nat)(p:FlV→Bool)
end
def bdx(x:FlV):Bool:=flB x.k x.s x.m x.e
end Go.Ab
namespace Go.Ab
open Go Go.Proofs
theorem ai4(s:Bool)(m:Nat)(e low mode:Int)(hm:bl m≤4000000)(he: -1000000≤e∧e≤1000000)(hlo: -1000000≤low∧low≤1000000):
  Con Tryz.prog 200 false [.v (.int .i64 low),.fp [.v (.bool s),.sl (lim (m)).length (qg (lim (m))),.v (.int .i64 e)] 0,.fp [.v (.int .i64 mode)] 0] []
   (isA (.tu [.ag [.v (.bool (roS s m e low mode)),.sl (lim (roM s m e low mode)).length (qg (lim (roM s m e low mode))),.v (.int .i64 (roE m e low))],.v (.bool (roX m e low))])):=by
 refine Con.frzA ?_
 refine Con.of_w (rs:=[.cell 4 90,.tmp 5]) Tryz.func200 rfl Tryz.ntmps200 rfl ?_
 simp(disch:=omega)only[go_sem]
 refine qa (ZX s m e low mode hm he hlo) ?_
 simp(disch:=omega)only[go_sem]
 exact qn
def flV(s:Bool)(m:Nat)(e mode:Int)(z:Bool):FlV:=
 if m=0 then⟨0,z,0,0⟩else
  ⟨flK s mode (roM s m e (qC (bl m+e)) mode) (roE m e (qC (bl m+e))),s,j8 s mode (roM s m e (qC (bl m+e)) mode) (roE m e (qC (bl m+e))),j9 s mode (roM s m e (qC (bl m+e)) mode) (roE m e (qC (bl m+e)))⟩
def flG(s:Bool)(m:Nat)(e mode:Int):Int:=
 if m=0 then 0 else jZ (bl m+e) (roX m e (qC (bl m+e))) (roM s m e (qC (bl m+e)) mode) (roE m e (qC (bl m+e)))
theorem Yb{s:Bool}{m:Nat}{e mode:Int}(h0:m≠0):
  roM s m e (qC (bl m+e)) mode≠0→flE (roM s m e (qC (bl m+e)) mode) (roE m e (qC (bl m+e)))≤oE (roM s m e (qC (bl m+e)) mode) (roE m e (qC (bl m+e))):=by
 intro hr
 unfold oE
 rw[if_neg hr]
 unfold roM roE at*
 by_cases h:qC (bl m+e)≤e∨m=0
 ·rw[if_pos h,if_pos h]
  have:qC (bl m+e)≤e:=h.resolve_right h0
  unfold flE;omega
 ·rw[if_neg h,if_neg h]
  have hlt:e<qC (bl m+e):=by omega
  have h1:bl m≤53+(qC (bl m+e)-e).toNat:=by unfold qC at*;split at hlt<;>split<;>omega
  have h2:=aAl (s:=s) (mode:=mode) h1
  generalize rq s m (2^(qC (bl m+e)-e).toNat) mode=q at*
  unfold flE qC
  split
  ·split<;>omega
  ·split<;>omega
theorem aIp{s:Bool}{m:Nat}{e low mode:Int}{B:Nat}(h:bl m≤B):bl (roM s m e low mode)≤B+1:=by
 unfold roM
 split
 ·omega
 ·have h1:=zf (aAi s m (2^(low-e).toNat) mode)
  have h2:=YW (m/2^(low-e).toNat)
  have h3:=Qw m (2^(low-e).toNat)
  omega
theorem apU(s:Bool)(m:Nat)(e mode:Int)(z:Bool)(hm:bl m≤100000)(he: -100000≤e∧e≤100000):
  Con Tryz.prog 125 true [.ag [.v (.bool (s)),.sl (lim (m)).length (qg (lim (m))),.v (.int .i64 (e))],.v (.int .i64 mode),.v (.bool z)] []
   (isA (.tu [.ag [.v (.int .i64 ((flV s m e mode z).k)),.v (.bool ((flV s m e mode z).s)),.v (.int .i64 ((flV s m e mode z).m)),.v (.int .i64 ((flV s m e mode z).e))],.v (.int .i64 (flG s m e mode))])):=by
 refine Con.of_aw Tryz.func125 rfl Tryz.ntmps125 (by simp) (by simp) (by simp) (W.sound ?_)
 show @W Tryz.prog 21 ⟨_⟩ ⟨fun x σ=>@za _ _ _ ⟨_⟩ _ ⟨_⟩ x σ⟩ _ _
 simp(disch:=omega)only[go_sem]
 refine qb (js s m e) ?_
 simp(disch:=omega)only[go_sem]
 refine qe (fun h1=>?_) (fun h1=>?_)
 ·simp(disch:=omega)only[go_sem,h1]
  refine qb (Qs z) ?_
  simp(disch:=omega)only[go_sem]
  refine qc (by simp(disch:=omega)only[go_sem]) (by simp(disch:=omega)only[go_sem]) ⟨?_,rfl,rfl⟩
  simp only[q6,flV,flG,h1,if_true]
 ·simp(disch:=omega)only[go_sem,h1]
  have hl:=qy hm
  refine qo rfl [⟨0,[],[]⟩,⟨1,[],[]⟩,⟨2,[1],[]⟩,⟨4,[1,2],[]⟩,⟨5,[1,2,4],[]⟩,⟨3,[1,4],[]⟩,⟨6,[],[]⟩,⟨7,[],[]⟩,⟨8,[],[]⟩,⟨9,[],[]⟩,⟨10,[],[]⟩] (by kernel_rfl) ?_
  simp(disch:=omega)only[go_sem]
  have etop:(if m=0 then(0:Int)else(bl m:Int)+e)=(bl m:Int)+e:=if_neg h1
  refine qb (jE s m e (by omega) (by omega)) ?_
  simp(disch:=omega)only[go_sem]
  have hlow: -1000000≤qC (bl m+e)∧qC (bl m+e)≤1000000:=by unfold qC;split<;>omega
  refine qb (adD s ((bl m:Int)+e) mode 200 [.fp [.v (.bool s),.sl (lim (m)).length (qg (lim (m))),.v (.int .i64 e)] 0,.fp [.v (.int .i64 mode)] 0] (roS s m e (qC (bl m+e)) mode) (roX m e (qC (bl m+e))) (roM s m e (qC (bl m+e)) mode) (roE m e (qC (bl m+e))) (by omega) (ai4 s m e (qC (bl m+e)) mode (by omega) (by omega) hlow) (by simp(disch:=omega)only[go_sem]) (fun h=>rfl) (by have:=aIp (s:=s) (e:=e) (low:=qC (bl m+e)) (mode:=mode) hm;omega) (by unfold roE;split<;>omega) (fun h _=>Yb h1 h)) ?_ (by simp(disch:=omega)only[go_sem,etop])
  simp(disch:=omega)only[go_sem]
  refine qc (by simp(disch:=omega)only[go_sem]) (by simp(disch:=omega)only[go_sem]) ⟨?_,rfl,rfl⟩
  simp only[q6,flV,flG,h1,if_false]
theorem aiO(s1:Bool)(m1:Nat)(e1:Int)(s2:Bool)(m2:Nat)(e2:Int)(h1:bl m1≤4000000)(h2:bl m2≤4000000)(he1: -2^40≤e1∧e1≤2^40)(he2: -2^40≤e2∧e2≤2^40):
  Con Tryz.prog 168 false [.ag [.v (.bool (s1)),.sl (lim (m1)).length (qg (lim (m1))),.v (.int .i64 (e1))],.ag [.v (.bool (s2)),.sl (lim (m2)).length (qg (lim (m2))),.v (.int .i64 (e2))]] [] (isA (.ag [.v (.bool ((s1 != s2)&&decide (m1*m2≠0))),.sl (lim (m1*m2)).length (qg (lim (m1*m2))),.v (.int .i64 (e1+e2))])):=by
 refine Con.frzA ?_
 refine Con.of_w (rs:=[.cell 4 90]) Tryz.func168 rfl Tryz.ntmps168 rfl ?_
 simp(disch:=omega)only[go_sem]
 have l1:=qy h1
 have l2:=qy h2
 refine qa (JL m1 m2 (by omega) (by omega)) ?_
 simp(disch:=omega)only[go_sem]
 have hl:(lim (m1*m2)).length≤2000000:=by have:=qy (Nat.le_trans (yE m1 m2) (Nat.add_le_add h1 h2));omega
 have hq:decide ((0:Int)<((lim (m1*m2)).length:Int))=decide (m1*m2≠0):=by
  rw[decide_eq_decide]
  exact⟨fun h e=>by rw[e,qm]at h;simp at h,fun h=>by have:=Qg h;omega⟩
 refine zY (fun h3=>?_) (fun h3=>?_)
 ·simp(disch:=omega)only[go_sem,h3,hq]
  exact qn (hp:=by simp(disch:=omega)only[go_sem,h3,Bool.true_and])
 ·simp(disch:=omega)only[go_sem,h3]
  exact qn (hp:=by simp(disch:=omega)only[go_sem,h3,Bool.false_and])
theorem yY(k:Int)(s:Bool)(m:Nat)(e:Int)(hm:m<2^63):Con Tryz.prog 112 false [.ag [.v (.int .i64 (k)),.v (.bool (s)),.v (.int .i64 ((m:Int))),.v (.int .i64 (e))]] [] (isA (.ag [.v (.bool (s&&decide (k=1))),.sl (lim (m)).length (qg (lim (m))),.v (.int .i64 (e))])):=by
 refine Con.frzA ?_
 refine Con.of_w (rs:=[.cell 2 90]) Tryz.func112 rfl Tryz.ntmps112 rfl ?_
 simp(disch:=omega)only[go_sem]
 refine qo rfl [⟨0,[],[]⟩,⟨1,[],[]⟩,⟨2,[],[]⟩,⟨3,[],[]⟩,⟨4,[],[]⟩,⟨5,[],[]⟩,⟨6,[],[]⟩,⟨7,[1,4],[]⟩,⟨8,[1,4],[]⟩,⟨10,[1,4,8],[]⟩,⟨11,[1,4,8],[]⟩,⟨9,[4,11],[]⟩,⟨12,[],[]⟩,⟨13,[],[]⟩] (by kernel_rfl) ?_
 simp(disch:=omega)only[go_sem]
 refine zY (fun h3=>?_) (fun h3=>?_)
 ·simp(disch:=omega)only[go_sem,h3]
  refine qa (zw m hm) ?_
  simp(disch:=omega)only[go_sem]
  exact qn (hp:=by simp(disch:=omega)only[go_sem,h3,Bool.true_and])
 ·simp(disch:=omega)only[go_sem,h3]
  refine qa (zw m hm) ?_
  simp(disch:=omega)only[go_sem]
  exact qn (hp:=by simp(disch:=omega)only[go_sem,h3,Bool.false_and])
end Go.Ab
namespace Go.Ab
open Go Go.Proofs
theorem ado(n lo hi:Int):Con Tryz.prog 100 true [.v (.int .i64 n),.v (.int .i64 lo),.v (.int .i64 hi)] [] (isA (.v (.bool (decide (lo≤n)&&decide (n≤hi))))):=zA n lo hi
theorem YO(s:Bool)(xs:List Int)(e:Int)(hl:xs.length≤2^40):Con Tryz.prog 63 true [.ag [.v (.bool s),.sl xs.length (qg xs),.v (.int .i64 e)]] [] (isA (.v (.bool (dyB s xs e)))):=by
 refine Con.of_aw Tryz.func63 rfl Tryz.ntmps63 (by simp) (by simp) (by simp) (W.sound ?_)
 show @W Tryz.prog 32 ⟨_⟩ ⟨fun x σ=>@za _ _ _ ⟨_⟩ _ ⟨_⟩ x σ⟩ _ _
 simp(disch:=omega)only[go_sem]
 refine qb (adp s xs hl) ?_
 simp(disch:=omega)only[go_sem]
 refine zY (fun hw=>?_) (fun h1=>?_)
 ·have h1:=hw
  simp only[zU,Bool.and_eq_true]at h1
  obtain⟨hx,hll⟩:=Zf h1.1
  have hxs:xs=lim (vl xs).toNat:=hx
  generalize hm:(vl xs).toNat=m at*
  subst hx
  simp(disch:=omega)only[go_sem,hw]
  refine qb (ado e (-3000) 3000) ?_
  simp(disch:=omega)only[go_sem]
  refine z7 (fun h2=>?_) (fun h2=>?_)
  ·simp(disch:=omega)only[go_sem,h2]
   refine qc (by simp(disch:=omega)only[go_sem]) (by simp(disch:=omega)only[go_sem]) ⟨?_,rfl,rfl⟩
   simp[q6,dyB,hw,h2]
  ·simp(disch:=omega)only[go_sem,h2]
   refine qb (aaa m 0 (by omega) (by omega) (by omega)) ?_
   simp(disch:=omega)only[go_sem]
   refine q7 (fun h3=>?_) (fun h3=>?_)
   ·have h3':¬m % 2=1:=fun h=>h3 (by simp;omega)
    simp(disch:=omega)only[go_sem,h3]
    refine qe (fun h4=>?_) (fun h4=>?_)
    ·simp(disch:=omega)only[go_sem,h4]
     refine qc (by simp(disch:=omega)only[go_sem]) (by simp(disch:=omega)only[go_sem]) ⟨?_,rfl,rfl⟩
     have h4':(lim m).length=0:=by omega
     simp[q6,dyB,hw,h2,hm,h3',h4']
    ·simp(disch:=omega)only[go_sem,h4]
     refine qc (by simp(disch:=omega)only[go_sem]) (by simp(disch:=omega)only[go_sem]) ⟨?_,rfl,rfl⟩
     have h4':¬(lim m).length=0:=by omega
     simp[q6,dyB,hw,h2,hm,h3',h4']
   ·have h3':m % 2=1:=by simp at h3;omega
    simp(disch:=omega)only[go_sem,h3]
    refine qc (by simp(disch:=omega)only[go_sem]) (by simp(disch:=omega)only[go_sem]) ⟨?_,rfl,rfl⟩
    simp[q6,dyB,hw,h2,hm,h3']
 ·simp(disch:=omega)only[go_sem,h1]
  refine qc (by simp(disch:=omega)only[go_sem]) (by simp(disch:=omega)only[go_sem]) ⟨?_,rfl,rfl⟩
  simp[q6,dyB,h1]
end Go.Ab
namespace Go.Ab
open Go Go.Proofs
theorem yZ(s:Bool)(m:Nat)(e:Int):Con Tryz.prog 66 false [.ag [.v (.bool (s)),.sl (lim (m)).length (qg (lim (m))),.v (.int .i64 (e))]] [] (isA (.ag [.v (.bool (s)),.sl (lim (m)).length (qg (lim (m))),.v (.int .i64 (e))])):=by
 refine Con.frzA ?_
 refine Con.of_w (rs:=[.cell 2 90]) Tryz.func66 rfl Tryz.ntmps66 rfl ?_
 simp(disch:=omega)only[go_sem]
 exact qn
def ac9(mode:Int):Bool:=decide (0≤mode)&&decide (mode≤4)
def dyV:AV→AV:=id
theorem Z7(s:Bool)(xs:List Int)(e mode:Int)(hl:xs.length≤2^40):
  Con Tryz.prog 50 true [.ag [.v (.bool s),.sl xs.length (qg xs),.v (.int .i64 e)],.v (.int .i64 mode)] []
   (isA (if dyB s xs e&&ac9 mode then .tu [.ag [.v (.int .i64 ((flV s (vl xs).toNat e mode false).k)),.v (.bool ((flV s (vl xs).toNat e mode false).s)),.v (.int .i64 ((flV s (vl xs).toNat e mode false).m)),.v (.int .i64 ((flV s (vl xs).toNat e mode false).e))],.v (.int .i64 (flG s (vl xs).toNat e mode)),.v (.bool true)]
    else .tu [.ag [.v (.int .i64 (0)),.v (.bool (false)),.v (.int .i64 (0)),.v (.int .i64 (0))],.v (.int .i64 0),.v (.bool false)])):=by
 refine Con.of_w (rs:=[.cell 4 63,.tmp 5,.tmp 6]) Tryz.func50 rfl Tryz.ntmps50 rfl ?_
 simp(disch:=omega)only[go_sem]
 refine qb (YO s xs e hl) ?_
 simp(disch:=omega)only[go_sem]
 refine zY (fun h1=>?_) (fun h1=>?_)
 ·obtain⟨m,rfl,hm1,hm2,he,_⟩:=jL h1
  simp(disch:=omega)only[go_sem,h1]
  refine qb (ai1 mode) ?_
  simp(disch:=omega)only[go_sem]
  refine z7 (fun h2=>?_) (fun h2=>?_)
  ·simp(disch:=omega)only[go_sem,h2]
   rw[h1,if_neg (by unfold ac9;rw[h2];simp)]
   exact qq
  ·simp(disch:=omega)only[go_sem,h2]
   refine qa (yZ s m e) ?_
   simp(disch:=omega)only[go_sem]
   refine qb (apU s m e mode false (by omega) (by omega)) ?_
   simp(disch:=omega)only[go_sem]
   rw[h1,if_pos (by unfold ac9;rw[h2];rfl),qW,Int.toNat_natCast]
   exact qq
 ·simp(disch:=omega)only[go_sem,h1]
  rw[h1,if_neg (by simp)]
  exact qq
end Go.Ab
namespace Go.Ab
open Go Go.Proofs
end Go.Ab
namespace Go.Ab
open Go Go.Proofs
theorem zn{k:Int}{s:Bool}{m e:Int}(h:flB k s m e=true):(0≤m∧m≤9007199254740991)∧(-1074≤e∧e≤971)∧(0≤k∧k≤3)∧(k≠1→m=0∧e=0)∧(k=1→1≤m)∧(k=3→s=false):=by
 unfold flB at h
 split at h
 ·simp only[Bool.and_eq_true,Bool.or_eq_true,decide_eq_true_eq]at h
  omega
 ·split at h
  ·simp only[Bool.and_eq_true,decide_eq_true_eq]at h
   omega
  ·simp only[Bool.and_eq_true,decide_eq_true_eq,Bool.not_eq_true']at h
   refine⟨by omega,by omega,by omega,by omega,by omega,fun _=>h.2⟩
def muS(k1:Int)(s1:Bool)(m1:Int)(k2:Int)(s2:Bool)(m2:Int):Bool:=((s1&&decide (k1=1)) != (s2&&decide (k2=1)))&&decide (m1.toNat*m2.toNat≠0)
def bdt(k1:Int)(s1:Bool)(m1 e1 k2:Int)(s2:Bool)(m2 e2 mode:Int):FlV:=
 if(decide (k1=3)||decide (k2=3))=true then⟨3,false,0,0⟩
 else if(decide (k1=2)||decide (k2=2))=true then(if(decide (k1=0)||decide (k2=0))=true then⟨3,false,0,0⟩else⟨2,s1 != s2,0,0⟩)
 else flV (muS k1 s1 m1 k2 s2 m2) (m1.toNat*m2.toNat) (e1+e2) mode (s1 != s2)
def bdu(k1:Int)(s1:Bool)(m1 e1 k2:Int)(s2:Bool)(m2 e2 mode:Int):Int:=
 if(decide (k1=3)||decide (k2=3))=true then 0
 else if(decide (k1=2)||decide (k2=2))=true then(if(decide (k1=0)||decide (k2=0))=true then 16 else 0)
 else flG (muS k1 s1 m1 k2 s2 m2) (m1.toNat*m2.toNat) (e1+e2) mode
end Go.Ab
namespace Go.Ab
open Go Go.Proofs
section
variable {k1:Int}{s1:Bool}{m1 e1 k2:Int}{s2:Bool}{m2 e2 mode:Int}
end
theorem QW(k:Int)(s:Bool)(m e:Int):Con Tryz.prog 114 true [.ag [.v (.int .i64 (k)),.v (.bool (s)),.v (.int .i64 (m)),.v (.int .i64 (e))]] [] (isA (.v (.bool (decide (k=0)||decide (k=1))))):=by
 refine Con.of_aw Tryz.func114 rfl Tryz.ntmps114 (by simp) (by simp) (by simp) (W.sound ?_)
 show @W Tryz.prog 11 ⟨_⟩ ⟨fun x σ=>@za _ _ _ ⟨_⟩ _ ⟨_⟩ x σ⟩ _ _
 simp(disch:=omega)only[go_sem]
 repeat' first
  |simp(disch:=omega)only[go_sem, *]
  |(with_reducible refine qe (fun _=>?_) (fun _=>?_))
  |(with_reducible refine q7 (fun _=>?_) (fun _=>?_))
  |(with_reducible refine z7 (fun _=>?_) (fun _=>?_))
  |(with_reducible refine zY (fun _=>?_) (fun _=>?_))
 all_goals exact qc (by simp(disch:=omega)only[go_sem]) (by simp(disch:=omega)only[go_sem]) ⟨by simp_all[q6]<;>omega,rfl,rfl⟩
end Go.Ab
namespace Go.Ab
theorem aef{m:Nat}{e lo hi:Int}{B:Nat}(h:bl m≤B)(h1:lo≤0)(h2:0≤hi)(he:lo≤e∧e≤hi):lo≤oE m e∧oE m e≤hi+B:=by
 unfold oE
 by_cases h0:m=0
 ·rw[if_pos h0];omega
 ·rw[if_neg h0];have:=j0 h0;omega
theorem aDT(m:Nat):oM m % 2=1∨oM m=0:=by
 by_cases h0:m=0
 ·exact .inr (qQ.2 h0)
 ·exact .inl (Qd h0).1
theorem aYt(s:Bool)(m:Nat):oM m=0→oS s m=false:=fun h=>by unfold oS;rw[if_pos (qQ.1 h)]
end Go.Ab
namespace Go.Ab
open Go
theorem Jd(m:Nat):bhp [] m=.free:=by unfold bhp;split<;>simp
theorem Con.enter{P:Program}{f:FuncId}{cl:Bool}{args:List AV}{x:Value}(h:Con P f cl args [] (isA (.v x)))(R:Nat→Prop)(w:World)(vs:Array Value)
  (hlt:∀b,R b→b<w.heap.size) (hr:RepA R (fun _=>none) w vs args) (ha:AllL (fun m=>bhp [] m≠ .free) args) (hg:Gd w):
  Calls P f vs w fun e w'=>e=.returned x∧Ext (fun _=>False) w w':=by
 have hno:∀b,¬aqU (bhp []) (fun _=>none) b:=fun b ⟨nm,z,cs,B,e,_⟩=>by rw[Jd]at e;cases e
 have hh:HpOk R (fun _=>none) w (bhp []):=
  ⟨fun nm=>(by rw[Jd];trivial),fun nm z cs B e=>absurd e (by rw[Jd];simp),fun nm nm' z z' cs cs' B B' e=>absurd e (by rw[Jd];simp),fun nm z cs e=>absurd e (by rw[Jd];simp)⟩
 refine(h R (fun _=>none) w vs hlt hr ha hh ⟨hg,fun g l _=>hno g⟩).mono ?_
 rintro e w' ⟨y,r,hs,bs',R',ι',rfl,⟨rfl,rfl,rfl⟩,hf⟩
 refine⟨?_,hf.ext.os,hf.ext.tape,hf.ext.output,hf.ext.size,fun b hb _=>hf.ext.block b hb (hno b)⟩
 cases hf.rep with
 |fr _ _ h=>cases h;rfl
theorem Ext.kept{w w':World}(h:Ext (fun _=>False) w w')(may:MemPlace→Prop):w.keptBut w' may:=by
 refine⟨h.os,h.output,fun i hi=>?_⟩
 rw[h.block i hi (fun h=>h)]
 cases w.heap[i]? with
 |none=>trivial
 |some o=>cases o with
  |cells c t fr=>exact⟨rfl,rfl,rfl,fun _ _=>rfl⟩
  |map es cl=>exact .inr ⟨rfl,rfl⟩
  |_=>rfl
theorem Ext.below{w w':World}(h:Ext (fun _=>False) w w'):RowKit.Below w.heap.size w w':=⟨h.os,h.tape,h.output,h.size,fun k hk=>h.block k hk (fun h=>h)⟩
theorem Ext.trod{H:Type}{enc:TypeId×Value→H}{P:Program}{t:TypeId}{W W':World}(hw:Ext (fun _=>False) W W')(hl:laidOutB P=true)(hr:P.readableRec t=true)(hrow:t<P.types.size){v:Value}{d:DataW H}{ps:List MemPlace}
  (h:DataW.Trod enc P W 0 (fun _=>true) true t v d ps) (hlt:∀x∈ps,x.block<W.heap.size):DataW.Trod enc P W' 0 (fun b=>decide (b<W.heap.size)) true t v d ps:=
 RowKit.Below.trod hl hr hrow h hw.below hlt
theorem aew{w:World}{a:Addr}{v:Value}(h:w.cell? a=some v):a.block<w.heap.size:=by
 rcases Nat.lt_or_ge a.block w.heap.size with h'|h'
 ·exact h'
 ·simp[World.cell?,Array.getElem?_eq_none h']at h
theorem aSW(b o i:Nat):(⟨b,o,none⟩:Addr).add i=⟨b,o+i,none⟩:=by
 unfold Addr.add
 split
 ·subst_vars;rfl
 ·rfl
theorem aBf{R:Nat→Prop}{W:World}:FRep R W (.slice none 0 0) (.sl 0 []):=
 .sl none 0 0 [] (fun _=>undef) 0 0 (Nat.le_refl _) (fun h=>absurd h (by simp)) (fun i h=>absurd h (by simp)) (fun i h=>absurd h (by simp))
end Go.Ab
namespace Go.Ab
open Go
structure DyV where
 s:Bool
 xs:List Int
 e:Int
def DyV.cs(x:DyV):List AV:=[.v (.bool x.s),.sl x.xs.length (qg x.xs),.v (.int .i64 x.e)]
theorem aEe(x:DyV):x.cs.length=3:=rfl
theorem aEd{ρ:Nat→Nat}(x:DyV):jk ρ x.cs=x.cs:=rfl
theorem aph{hp:Nat→Ob}{k:Nat}(x:DyV):x.cs.map (qP hp (k+1))=x.cs:=rfl
theorem aEf{p:Nat→Prop}(x:DyV):AllL p x.cs:=by simp[DyV.cs,AllL,AV.All]
theorem aK0{l:List DyV}:(qz DyV.cs l).length=l.length*3:=J9 aEe
theorem aKZ{ρ:Nat→Nat}{l:List DyV}:jk ρ (qz DyV.cs l)=qz DyV.cs l:=J8 aEd
theorem aBR{hp:Nat→Ob}{k:Nat}{l:List DyV}:(qz DyV.cs l).map (qP hp (k+1))=qz DyV.cs l:=Zc aph
theorem aK1{p:Nat→Prop}{l:List DyV}:AllL p (qz DyV.cs l)=True:=eq_true (Ya aEf)
theorem aBS{p:Nat→Prop}{x:DyV}:AllL p x.cs=True:=eq_true (aEf x)
attribute [go_sem] aK0 aKZ aBR aK1 aBS aEd aph
end Go.Ab
namespace Go.Ab
open Go
/-! ### The simplifier's words for truth values-/
theorem bdh:(true==true)=true:=ID rfl
theorem bdk:(false==false)=true:=ID rfl
theorem bdi:(true==false)=false:=ID rfl
theorem bdj:(false==true)=false:=ID rfl
theorem bcX:(true != true)=false:=ID rfl
theorem bc0:(false != false)=false:=ID rfl
theorem bcY:(true != false)=true:=ID rfl
theorem bcZ:(false != true)=true:=ID rfl
theorem o_t(b:Bool):(true||b)=true:=ID rfl
theorem o_f(b:Bool):(false||b)=b:=ID rfl
theorem bcV(b:Bool):(b||true)=true:=by cases b<;>rfl
theorem bcW(b:Bool):(b||false)=b:=by cases b<;>rfl
theorem a_t(b:Bool):(true&&b)=b:=ID rfl
theorem a_f(b:Bool):(false&&b)=false:=ID rfl
theorem bdn(b:Bool):(b&&true)=b:=by cases b<;>rfl
theorem bdo(b:Bool):(b&&false)=false:=by cases b<;>rfl
attribute [go_sem] bdh bdk bdi bdj bcX bc0 bcY bcZ o_t o_f
attribute [go_sem] bcV bcW a_t a_f bdn bdo
theorem aLF{P:Program}{t:TypeId}[h:FlE P t]{k m e k' m' e':Int}{s s':Bool}{K:AV→Prop}:
  @jf P .eql t (.ag [.v (.int .i64 k),.v (.bool s),.v (.int .i64 m),.v (.int .i64 e)]) (.ag [.v (.int .i64 k'),.v (.bool s'),.v (.int .i64 m'),.v (.int .i64 e')]) ⟨K⟩=K (.v (.bool (aqS k s m e k' s' m' e'))):=
 propext ⟨fun g=>g.2,fun g=>⟨h,g⟩⟩
theorem aLE{P:Program}{t:TypeId}[h:FlE P t]{k m e k' m' e':Int}{s s':Bool}{K:AV→Prop}:
  @jf P .neq t (.ag [.v (.int .i64 k),.v (.bool s),.v (.int .i64 m),.v (.int .i64 e)]) (.ag [.v (.int .i64 k'),.v (.bool s'),.v (.int .i64 m'),.v (.int .i64 e')]) ⟨K⟩=K (.v (.bool (!aqS k s m e k' s' m' e'))):=
 propext ⟨fun g=>g.2,fun g=>⟨h,g⟩⟩
attribute [go_sem] aLF aLE
/-! ### Bits of any numbers-/
def baI(x y:Int):Int:=IntKind.i64.wrap (BitVec.ofInt IntKind.i64.bits x^^^BitVec.ofInt IntKind.i64.bits y).toNat
theorem aLq{x y:Int}{P:Program}{t:Nat}{K:AV→Prop}:@jf P .xor t (.v (.int .i64 x)) (.v (.int .i64 y)) ⟨K⟩=K (.v (.int .i64 (baI x y))):=by
 simp only[jf,Q1,ZM,true_and];rfl
theorem ZF(x:Int):((BitVec.ofInt 64 x).toNat:Int)=x % 18446744073709551616:=by
 rw[BitVec.toNat_ofInt];omega
theorem ajm{x:Int}{P:Program}{t:Nat}{K:AV→Prop}:@jf P .and t (.v (.int .i64 x)) (.v (.int .i64 255)) ⟨K⟩=K (.v (.int .i64 (x % 256))):=by
 have e:IntKind.i64.wrap (BitVec.ofInt 64 x&&&BitVec.ofInt 64 255).toNat=x % 256:=by
  have h1:=ZF x
  have h2:(BitVec.ofInt 64 255).toNat=2^8-1:=by decide
  rw[BitVec.toNat_and,h2,Nat.and_two_pow_sub_one_eq_mod,Q8 (by omega)]
  omega
 rw[←e];simp only[jf,Q1,ZM,true_and];rfl
theorem aqs{x:Int}{P:Program}{t:Nat}{K:AV→Prop}:@jf P .and t (.v (.int .i64 x)) (.v (.int .i64 1073741823)) ⟨K⟩=K (.v (.int .i64 (x % 1073741824))):=by
 have e:IntKind.i64.wrap (BitVec.ofInt 64 x&&&BitVec.ofInt 64 1073741823).toNat=x % 1073741824:=by
  have h1:=ZF x
  have h2:(BitVec.ofInt 64 1073741823).toNat=2^30-1:=by decide
  rw[BitVec.toNat_and,h2,Nat.and_two_pow_sub_one_eq_mod,Q8 (by omega)]
  omega
 rw[←e];simp only[jf,Q1,ZM,true_and];rfl
attribute [go_sem] aLq ajm aqs
theorem aA1{h:Nat→Ob}{n n' z z':Nat}{cs cs':List AV}(hn:h n=.own z cs)(hc:AllL (fun _=>False) cs)(hn':h n'=.own z' cs')(hc':AllL (fun _=>False) cs'):JF h [n,n']:=by
 intro m hm
 rw[List.mem_cons,List.mem_singleton]at hm
 rcases hm with rfl|rfl
 ·exact⟨z,cs,hn,hc.mono fun _ h=>h.elim⟩
 ·exact⟨z',cs',hn',hc'.mono fun _ h=>h.elim⟩
def ZH(h:Nat→Ob)(nms:List Nat):List Nat→List Ob
 | []=>[]
 |n::r=>(h n).ren (back nms)::ZH h nms r
theorem KF{h:Nat→Ob}{nms:List Nat}:∀r:List Nat,ZH h nms r=r.map (fun n=>(h n).ren (back nms))
 | []=>rfl
 |n::r=>by rw[ZH,List.map_cons,KF r]
theorem aoz{h:Nat→Ob}{nms:List Nat}:ZH h nms []=[]:=ID rfl
theorem aiA{h:Nat→Ob}{nms:List Nat}{n:Nat}{r:List Nat}:ZH h nms (n::r)=(h n).ren (back nms)::ZH h nms r:=ID rfl
attribute [go_sem] aoz aiA
theorem Jb{P:Program}{f:FuncId}{aa0:List AV}{h:Nat→Ob}{c:Nat}{K:KV}(cl:Bool)(nms:List Nat){args:List AV}{bs:List Ob}{post:AV→List Ob→List Ob→Prop}(hc:Con P f cl args bs post)(ha:aa0.map (snp (hpx cl nms h) (idx nms) 6)=args)
  (hb:ZH h nms nms=bs) (hnd:QT nms=true) (hl:JF h nms) (hin:∀n∈nms,∃a∈aa0,a.top=some n)
  (hk:∀r hs bs',post r hs bs'→bs'.length=bs.length→(hs.length≤10000000∧qS h c hs∧(cl=true→∀ob∈bs',ob.plain))∧K (r.ren (rho c nms)) (Ji (aak (rho c nms) h c hs) nms (bs'.map (Ob.ren (rho c nms))))):@Jp P f aa0 h c ⟨K⟩:=
 zk cl nms hc ha ((KF nms).symm.trans hb) hnd hl hin hk
end Go.Ab
namespace Go.Ab
open Go Go.Proofs
def jR(m:Nat):Bool:=decide ((lim m).length≤100)
def jD(m:Nat)(e:Int):Bool:=jR (oM m)&&(decide (-3000≤oE m e)&&decide (oE m e≤3000))
theorem aer{n:Nat}{e:Int}(hn:n<2^53)(he: -1074≤e∧e≤971):jD n e=true:=by
 have hb:bl n≤53:=q9.2 hn
 have q4:=zf (yS n)
 have q5:=aef (m:=n) (e:=e) (lo:= -1074) (hi:=971) (Nat.le_refl _) (by omega) (by omega) (by omega)
 have l1:=qy (m:=oM n) (B:=53) (by omega)
 unfold jD jR
 simp only[Bool.and_eq_true,decide_eq_true_eq]
 omega
theorem apx(m:Nat)(hl:(lim m).length≤2^40):Con Tryz.prog 222 false [.sl (lim (m)).length (qg (lim (m)))] [] (isA (if jR m=true then .tu [.ag [.sl (lim (m)).length (qg (lim (m)))],.v (.bool true)]else .tu [.ag [.sl (lim (0)).length (qg (lim (0)))],.v (.bool false)])):=by
 refine Con.frzA ?_
 refine Con.of_w (rs:=[.cell 2 25,.tmp 3]) Tryz.func222 rfl Tryz.ntmps222 rfl ?_
 simp(disch:=omega)only[go_sem]
 refine qe (fun c1=>?_) (fun c1=>?_)
 ·have hf:jR m=false:=by unfold jR;simp;omega
  simp(disch:=omega)only[go_sem,c1]
  rw[hf,if_neg (by simp),qm]
  exact qn
 ·have hf:jR m=true:=by unfold jR;simp;omega
  simp(disch:=omega)only[go_sem,c1]
  rw[hf,if_pos rfl]
  refine qa ((K9 false (lim m) (by omega)).num) ?_
  simp(disch:=omega)only[go_sem]
  exact qn
theorem adq(s:Bool)(m:Nat)(hl:(lim m).length≤2^40):Con Tryz.prog 145 false [.v (.bool s),.sl (lim (m)).length (qg (lim (m)))] [] (isA (if jR m=true then .tu [.ag [.v (.bool (s&&decide (m≠0))),.sl (lim (m)).length (qg (lim (m)))],.v (.bool true)]else .tu [.ag [.v (.bool (false)),.sl (lim (0)).length (qg (lim (0)))],.v (.bool false)])):=by
 refine Con.frzA ?_
 have cn:=apx m hl
 have hq:decide ((0:Int)<((lim m).length:Int))=decide (m≠0):=by
  rw[decide_eq_decide]
  exact⟨fun h e=>by rw[e,qm]at h;simp at h,fun h=>by have:=Qg h;omega⟩
 cases hf:jR m
 ·rw[hf,if_neg (by simp)]at cn
  rw[if_neg (by simp),qm]
  refine Con.of_w (rs:=[.cell 4 27,.tmp 5]) Tryz.func145 rfl Tryz.ntmps145 rfl ?_
  simp(disch:=omega)only[go_sem]
  refine qa (cn) ?_
  simp(disch:=omega)only[go_sem]
  exact qn
 ·rw[hf,if_pos rfl]at cn
  rw[if_pos rfl]
  refine Con.of_w (rs:=[.cell 4 27,.tmp 5]) Tryz.func145 rfl Tryz.ntmps145 rfl ?_
  simp(disch:=omega)only[go_sem]
  refine qa (cn) ?_
  simp(disch:=omega)only[go_sem]
  cases s
  ·simp(disch:=omega)only[go_sem]
   exact qn
  ·simp(disch:=omega)only[go_sem,hq]
   exact qn
theorem apY(s:Bool)(m:Nat)(e:Int)(hm:bl m≤10000000)(he: -2^39≤e∧e≤2^39):Con Tryz.prog 68 false [.ag [.v (.bool (s)),.sl (lim (m)).length (qg (lim (m))),.v (.int .i64 (e))]] [] (isA (if jD m e=true then .tu [.ag [.v (.bool (oS s m)),.sl (lim (oM m)).length (qg (lim (oM m))),.v (.int .i64 (oE m e))],.v (.bool true)]else .tu [.ag [.v (.bool (false)),.sl (lim (0)).length (qg (lim (0))),.v (.int .i64 (0))],.v (.bool false)])):=by
 refine Con.frzA ?_
 have hb:=Nat.le_trans (zf (yS m)) hm
 have hl:=qy hb
 have cw:=adq (oS s m) (oM m) (by omega)
 have hs:(oS s m&&decide (oM m≠0))=oS s m:=by
  unfold oS
  by_cases h:m=0
  ·rw[if_pos h];rfl
  ·rw[if_neg h,decide_eq_true (show oM m≠0 from fun e=>h (qQ.1 e)),Bool.and_true]
 rw[hs]at cw
 cases hf:jR (oM m)
 ·rw[hf,if_neg (by simp)]at cw
  have hd:jD m e=false:=by unfold jD;rw[hf];rfl
  rw[hd,if_neg (by simp),qm]
  rw[qm]at cw
  refine Con.of_w (rs:=[.cell 2 29,.tmp 3]) Tryz.func68 rfl Tryz.ntmps68 rfl ?_
  simp(disch:=omega)only[go_sem]
  refine qa (ZY s m e hm (by omega)) ?_
  simp(disch:=omega)only[go_sem]
  refine qa (cw) ?_
  simp(disch:=omega)only[go_sem]
  exact qn
 ·rw[hf,if_pos rfl]at cw
  have hd:jD m e=(decide (-3000≤oE m e)&&decide (oE m e≤3000)):=by unfold jD;rw[hf];rfl
  rw[hd]
  refine Con.of_w (rs:=[.cell 2 29,.tmp 3]) Tryz.func68 rfl Tryz.ntmps68 rfl ?_
  simp(disch:=omega)only[go_sem]
  refine qa (ZY s m e hm (by omega)) ?_
  simp(disch:=omega)only[go_sem]
  refine qa (cw) ?_
  simp(disch:=omega)only[go_sem]
  refine qb (zA (oE m e) (-3000) 3000) ?_
  simp(disch:=omega)only[go_sem]
  refine z7 (fun h=>?_) (fun h=>?_)
  ·simp(disch:=omega)only[go_sem,h]
   rw[h,if_neg (by simp),qm]
   exact qn
  ·simp(disch:=omega)only[go_sem,h]
   rw[h,if_pos rfl]
   exact qn
theorem aCh(k:Int)(s:Bool)(m e:Int):Con Tryz.prog 41 false [.ag [.v (.int .i64 (k)),.v (.bool (s)),.v (.int .i64 (m)),.v (.int .i64 (e))]] []
  (isA (if(flB k s m e&&(decide (k=0)||decide (k=1)))=true then .tu [.ag [.v (.bool (oS (s&&decide (k=1)) m.toNat)),.sl (lim (oM m.toNat)).length (qg (lim (oM m.toNat))),.v (.int .i64 (oE m.toNat e))],.v (.bool true)]else .tu [.ag [.v (.bool (false)),.sl (lim (0)).length (qg (lim (0))),.v (.int .i64 (0))],.v (.bool false)])):=by
 refine Con.frzA ?_
 cases hv:flB k s m e
 ·rw[if_neg (by simp),qm]
  refine Con.of_aw Tryz.func41 rfl Tryz.ntmps41 (by simp) (by simp) (by simp) (W.sound ?_)
  show @W Tryz.prog 18 ⟨_⟩ ⟨fun x σ=>@za _ _ _ ⟨_⟩ _ ⟨_⟩ x σ⟩ _ _
  simp(disch:=omega)only[go_sem]
  refine qb (z6 k s m e) ?_
  simp(disch:=omega)only[go_sem]
  simp(disch:=omega)only[go_sem,hv]
  exact qn
 ·cases hf:(decide (k=0)||decide (k=1))
  ·rw[if_neg (by simp),qm]
   refine Con.of_aw Tryz.func41 rfl Tryz.ntmps41 (by simp) (by simp) (by simp) (W.sound ?_)
   show @W Tryz.prog 18 ⟨_⟩ ⟨fun x σ=>@za _ _ _ ⟨_⟩ _ ⟨_⟩ x σ⟩ _ _
   simp(disch:=omega)only[go_sem]
   refine qb (z6 k s m e) ?_
   simp(disch:=omega)only[go_sem]
   simp(disch:=omega)only[go_sem,hv]
   refine qb (QW k s m e) ?_
   simp(disch:=omega)only[go_sem]
   simp(disch:=omega)only[go_sem,hf]
   exact qn
  ·rw[if_pos (by simp)]
   obtain⟨a1,a2,a3,a4⟩:=zn hv
   obtain⟨n,rfl⟩:=Int.eq_ofNat_of_zero_le a1.1
   have hb:bl n≤53:=q9.2 (by omega)
   have cd:=apY (s&&decide (k=1)) n e (by omega) (by omega)
   have hd:jD n e=true:=aer (by omega) (by omega)
   rw[if_pos hd]at cd
   refine Con.of_aw Tryz.func41 rfl Tryz.ntmps41 (by simp) (by simp) (by simp) (W.sound ?_)
   show @W Tryz.prog 18 ⟨_⟩ ⟨fun x σ=>@za _ _ _ ⟨_⟩ _ ⟨_⟩ x σ⟩ _ _
   simp(disch:=omega)only[go_sem]
   refine qb (z6 k s (n:Int) e) ?_
   simp(disch:=omega)only[go_sem]
   simp(disch:=omega)only[go_sem,hv]
   refine qb (QW k s (n:Int) e) ?_
   simp(disch:=omega)only[go_sem]
   simp(disch:=omega)only[go_sem,hf]
   refine qa (yY k s n e (by omega)) ?_
   simp(disch:=omega)only[go_sem]
   refine qa (cd) ?_
   simp(disch:=omega)only[go_sem]
   refine qE (by simp(disch:=omega)only[go_sem]) ?_
   show qP _ 6 _=_
   rw[Int.toNat_natCast]
   simp(disch:=omega)only[go_sem]
end Go.Ab
namespace Go.Ab
end Go.Ab
namespace Go.Ab
/-! ### Sums of floats-/
def ngS(k:Int)(s:Bool):Bool:=if k=3 then s else !s
def xS(k:Int)(s:Bool):Bool:=s&&decide (k=1)
def adZ(k1:Int)(s1:Bool)(k2:Int)(s2:Bool)(mode:Int):Bool:=if k1=0∧k2=0∧s1=s2 then s1 else decide (mode=3)
def bdl(k1:Int)(s1:Bool)(m1 e1 k2:Int)(s2:Bool)(m2 e2 mode:Int):FlV:=
 if k1=3∨k2=3 then⟨3,false,0,0⟩
 else if k1=2∧k2=2∧s1≠s2 then⟨3,false,0,0⟩
 else if k1=2 then⟨k1,s1,m1,e1⟩
 else if k2=2 then⟨k2,s2,m2,e2⟩
 else flV (adS (xS k1 s1) m1.toNat e1 (xS k2 s2) m2.toNat e2) (adM (xS k1 s1) m1.toNat e1 (xS k2 s2) m2.toNat e2) (alE m1.toNat e1 m2.toNat e2) mode (adZ k1 s1 k2 s2 mode)
def bdm(k1:Int)(s1:Bool)(m1 e1 k2:Int)(s2:Bool)(m2 e2 mode:Int):Int:=
 if k1=3∨k2=3 then 0
 else if k1=2∧k2=2∧s1≠s2 then 16
 else if k1=2 then 0
 else if k2=2 then 0
 else flG (adS (xS k1 s1) m1.toNat e1 (xS k2 s2) m2.toNat e2) (adM (xS k1 s1) m1.toNat e1 (xS k2 s2) m2.toNat e2) (alE m1.toNat e1 m2.toNat e2) mode
section
variable {k1:Int}{s1:Bool}{m1 e1 k2:Int}{s2:Bool}{m2 e2 mode:Int}
end
/-! ### A product and a sum-/
def fmZ(k1:Int)(s1:Bool)(k2:Int)(s2:Bool)(k3:Int)(s3:Bool)(mode:Int):Bool:=if(k1=0∨k2=0)∧k3=0∧s3=(s1 != s2)then s3 else decide (mode=3)
def bdv(k1:Int)(s1:Bool)(m1 e1 k2:Int)(s2:Bool)(m2 e2 k3:Int)(s3:Bool)(m3 e3 mode:Int):FlV:=
 if k1=3∨k2=3 then⟨3,false,0,0⟩
 else if k1=2∨k2=2 then(if k1=0∨k2=0 then⟨3,false,0,0⟩else bdl 2 (s1 != s2) 0 0 k3 s3 m3 e3 mode)
 else if k3=2∨k3=3 then⟨k3,s3,m3,e3⟩
 else flV (adS (muS k1 s1 m1 k2 s2 m2) (m1.toNat*m2.toNat) (e1+e2) (xS k3 s3) m3.toNat e3) (adM (muS k1 s1 m1 k2 s2 m2) (m1.toNat*m2.toNat) (e1+e2) (xS k3 s3) m3.toNat e3) (alE (m1.toNat*m2.toNat) (e1+e2) m3.toNat e3) mode (fmZ k1 s1 k2 s2 k3 s3 mode)
def bdw(k1:Int)(s1:Bool)(m1 e1 k2:Int)(s2:Bool)(m2 e2 k3:Int)(s3:Bool)(m3 e3 mode:Int):Int:=
 if k1=3∨k2=3 then 0
 else if k1=2∨k2=2 then(if k1=0∨k2=0 then 16 else bdm 2 (s1 != s2) 0 0 k3 s3 m3 e3 mode)
 else if k3=2∨k3=3 then 0
 else flG (adS (muS k1 s1 m1 k2 s2 m2) (m1.toNat*m2.toNat) (e1+e2) (xS k3 s3) m3.toNat e3) (adM (muS k1 s1 m1 k2 s2 m2) (m1.toNat*m2.toNat) (e1+e2) (xS k3 s3) m3.toNat e3) (alE (m1.toNat*m2.toNat) (e1+e2) m3.toNat e3) mode
section
variable {k1:Int}{s1:Bool}{m1 e1 k2:Int}{s2:Bool}{m2 e2 k3:Int}{s3:Bool}{m3 e3 mode:Int}
end
end Go.Ab
namespace Go.Ab
theorem aCi(x y p:Int)(hp:0<p):zE (x*p) (y*p)=zE x y:=by
 unfold zE
 have h1:x*p<y*p↔x<y:=⟨fun h=>Int.lt_of_mul_lt_mul_right h (Int.le_of_lt hp),fun h=>Int.mul_lt_mul_of_pos_right h hp⟩
 have h2:y*p<x*p↔y<x:=⟨fun h=>Int.lt_of_mul_lt_mul_right h (Int.le_of_lt hp),fun h=>Int.mul_lt_mul_of_pos_right h hp⟩
 simp only[h1,h2]
theorem Qx{m:Nat}{e E:Int}:alA m e E=0↔m=0:=by
 unfold alA
 have:0<2^(e-E).toNat:=Nat.pow_pos (by omega)
 constructor
 ·intro h
  rcases Nat.mul_eq_zero.1 h with h|h
  ·exact h
  ·omega
 ·intro h;rw[h,Nat.zero_mul]
theorem ap8{K:Nat}{s1:Bool}{m1:Nat}{e1:Int}{s2:Bool}{m2:Nat}{e2:Int}(h1: -(K:Int)≤e1)(h2: -(K:Int)≤e2):
  zE (sv s1 (alA m1 e1 (alE m1 e1 m2 e2))) (sv s2 (alA m2 e2 (alE m1 e1 m2 e2)))=zE (dv K s1 m1 e1) (dv K s2 m2 e2):=by
 have hE: -(K:Int)≤alE m1 e1 m2 e2:=Jg h1 h2
 have g1:m1≠0→alE m1 e1 m2 e2≤e1:=fun h=>by
  unfold alE
  repeat' split
  all_goals omega
 have g2:m2≠0→alE m1 e1 m2 e2≤e2:=fun h=>by
  unfold alE
  repeat' split
  all_goals omega
 rw[←aEo hE g1,←aEo hE g2,aCi _ _ _ (Int.pow_pos (by omega))]
theorem aae{s1:Bool}{m1:Nat}{s2:Bool}{m2:Nat}(z1:m1=0→s1=false)(z2:m2=0→s2=false):
  zE (sv s1 m1) (sv s2 m2)=if s1=true then(if s2=true then zE (m2:Int) (m1:Int)else-1)else(if s2=true then 1 else zE (m1:Int) (m2:Int)):=by
 cases s1<;>cases s2<;>simp only[sv,if_true,Bool.false_eq_true,if_false]
 ·have:m2≠0:=fun h=>by have:=z2 h;cases this
  unfold zE;rw[if_neg (by omega),if_pos (by omega)]
 ·have:m1≠0:=fun h=>by have:=z1 h;cases this
  unfold zE;rw[if_pos (by omega)]
 ·unfold zE
  rcases Int.lt_trichotomy (m1:Int) m2 with h|h|h
  ·rw[if_neg (by omega),if_pos (by omega),if_neg (by omega),if_pos (by omega)]
  ·rw[if_neg (by omega),if_neg (by omega),if_neg (by omega),if_neg (by omega)]
  ·rw[if_pos (by omega),if_pos (by omega)]
theorem yc(x y:Int):(zE x y≤0↔x≤y)∧(zE x y<0↔x<y)∧(zE x y=0↔x=y):=by
 unfold zE
 split
 ·omega
 ·split<;>omega
theorem ap9(x:Int):zE x x=0:=by unfold zE;rw[if_neg (by omega),if_neg (by omega)]
end Go.Ab
namespace Go.Ab
open Go Go.Proofs
theorem QJ(s1:Bool)(m1:Nat)(s2:Bool)(m2:Nat)(l1:(lim m1).length≤2^40)(l2:(lim m2).length≤2^40)(z1:m1=0→s1=false)(z2:m2=0→s2=false):
  Con Tryz.prog 184 true [.v (.bool s1),.sl (lim (m1)).length (qg (lim (m1))),.v (.bool s2),.sl (lim (m2)).length (qg (lim (m2)))] [] (isA (.v (.int .i64 (zE (sv s1 m1) (sv s2 m2))))):=by
 rw[aae z1 z2]
 cases s1<;>cases s2
 ·refine Con.of_w (rs:=[.tmp 8]) Tryz.func184 rfl Tryz.ntmps184 rfl ?_
  simp(disch:=omega)only[go_sem]
  refine qb (jb m1 m2 l1 l2) ?_
  simp(disch:=omega)only[go_sem]
  exact qq
 ·refine Con.of_w (rs:=[.tmp 8]) Tryz.func184 rfl Tryz.ntmps184 rfl ?_
  simp(disch:=omega)only[go_sem]
  exact qq
 ·refine Con.of_w (rs:=[.tmp 8]) Tryz.func184 rfl Tryz.ntmps184 rfl ?_
  simp(disch:=omega)only[go_sem]
  exact qq
 ·refine Con.of_w (rs:=[.tmp 8]) Tryz.func184 rfl Tryz.ntmps184 rfl ?_
  simp(disch:=omega)only[go_sem]
  refine qb (jb m2 m1 l2 l1) ?_
  simp(disch:=omega)only[go_sem]
  exact qq
theorem QY(K:Nat)(s1:Bool)(m1:Nat)(e1:Int)(s2:Bool)(m2:Nat)(e2:Int)(h1:bl m1≤4000000)(h2:bl m2≤4000000)(he1: -1000000≤e1∧e1≤1000000)(he2: -1000000≤e2∧e2≤1000000)(k1: -(K:Int)≤e1)(k2: -(K:Int)≤e2)(z1:m1=0→s1=false)(z2:m2=0→s2=false):
  Con Tryz.prog 105 true [.ag [.v (.bool (s1)),.sl (lim (m1)).length (qg (lim (m1))),.v (.int .i64 (e1))],.ag [.v (.bool (s2)),.sl (lim (m2)).length (qg (lim (m2))),.v (.int .i64 (e2))]] [] (isA (.v (.int .i64 (zE (dv K s1 m1 e1) (dv K s2 m2 e2))))):=by
 have hE:=Jg (m1:=m1) (m2:=m2) he1.1 he2.1
 have b1:=qy (Q0 (e:=e1) (E:=alE m1 e1 m2 e2) (C:=2000000) h1 (by omega))
 have b2:=qy (Q0 (e:=e2) (E:=alE m1 e1 m2 e2) (C:=2000000) h2 (by omega))
 rw[←ap8 k1 k2]
 have y1:alA m1 e1 (alE m1 e1 m2 e2)=0→s1=false:=fun h=>z1 (Qx.1 h)
 have y2:alA m2 e2 (alE m1 e1 m2 e2)=0→s2=false:=fun h=>z2 (Qx.1 h)
 refine Con.of_w (rs:=[.tmp 4]) Tryz.func105 rfl Tryz.ntmps105 rfl ?_
 simp(disch:=omega)only[go_sem]
 refine qa (Z6 s1 m1 e1 s2 m2 e2 h1 h2 he1 he2) ?_
 simp(disch:=omega)only[go_sem]
 refine qb (QJ s1 (alA m1 e1 (alE m1 e1 m2 e2)) s2 (alA m2 e2 (alE m1 e1 m2 e2)) (by omega) (by omega) y1 y2) ?_
 simp(disch:=omega)only[go_sem]
 exact qq
def rkF(k:Int)(s:Bool):Int:=if k=2 then(if s=true then-1 else 1)else 0
theorem YI(k:Int)(s:Bool)(m e:Int):Con Tryz.prog 208 true [.ag [.v (.int .i64 (k)),.v (.bool (s)),.v (.int .i64 (m)),.v (.int .i64 (e))]] [] (isA (.v (.int .i64 (rkF k s)))):=by
 unfold rkF
 by_cases h:k=2
 ·rw[if_pos h]
  subst h
  cases s
  ·refine Con.of_w (rs:=[.tmp 2]) Tryz.func208 rfl Tryz.ntmps208 rfl ?_
   simp(disch:=omega)only[go_sem]
   exact qq
  ·refine Con.of_w (rs:=[.tmp 2]) Tryz.func208 rfl Tryz.ntmps208 rfl ?_
   simp(disch:=omega)only[go_sem]
   exact qq
 ·rw[if_neg h]
  refine Con.of_w (rs:=[.tmp 2]) Tryz.func208 rfl Tryz.ntmps208 rfl ?_
  simp(disch:=omega)only[go_sem,h]
  exact qq
def aqa(k1:Int)(s1:Bool)(m1 e1 k2:Int)(s2:Bool)(m2 e2:Int):Int:=
 if rkF k1 s1≠rkF k2 s2∨rkF k1 s1≠0 then zE (rkF k1 s1) (rkF k2 s2)else zE (dv 3000 (xS k1 s1) m1.toNat e1) (dv 3000 (xS k2 s2) m2.toNat e2)
theorem QO(k1:Int)(s1:Bool)(m1 e1 k2:Int)(s2:Bool)(m2 e2:Int)(h1:flB k1 s1 m1 e1=true)(h2:flB k2 s2 m2 e2=true):
  Con Tryz.prog 134 true [.ag [.v (.int .i64 (k1)),.v (.bool (s1)),.v (.int .i64 (m1)),.v (.int .i64 (e1))],.ag [.v (.int .i64 (k2)),.v (.bool (s2)),.v (.int .i64 (m2)),.v (.int .i64 (e2))]] [] (isA (.v (.int .i64 (aqa k1 s1 m1 e1 k2 s2 m2 e2)))):=by
 obtain⟨a1,a2,a3,a4,a5,a6⟩:=zn h1
 obtain⟨b1,b2,b3,b4,b5,b6⟩:=zn h2
 obtain⟨n1,rfl⟩:=Int.eq_ofNat_of_zero_le a1.1
 obtain⟨n2,rfl⟩:=Int.eq_ofNat_of_zero_le b1.1
 have q1:bl n1≤53:=q9.2 (by omega)
 have q2:bl n2≤53:=q9.2 (by omega)
 have z1:n1=0→(s1&&decide (k1=1))=false:=fun h=>by
  have:k1≠1:=fun e=>by have:=a5 e;omega
  rw[decide_eq_false this,Bool.and_false]
 have z2:n2=0→(s2&&decide (k2=1))=false:=fun h=>by
  have:k2≠1:=fun e=>by have:=b5 e;omega
  rw[decide_eq_false this,Bool.and_false]
 have cc:=QY 3000 (s1&&decide (k1=1)) n1 e1 (s2&&decide (k2=1)) n2 e2 (by omega) (by omega) (by omega) (by omega) (by omega) (by omega) z1 z2
 have hc:=yc (rkF k1 s1) (rkF k2 s2)
 unfold aqa xS
 rw[Int.toNat_natCast,Int.toNat_natCast]
 refine Con.of_w (rs:=[.tmp 4]) Tryz.func134 rfl Tryz.ntmps134 rfl ?_
 simp(disch:=omega)only[go_sem]
 refine qo rfl [⟨0,[],[]⟩,⟨1,[],[]⟩,⟨3,[1],[]⟩,⟨4,[1],[]⟩,⟨2,[4],[]⟩,⟨5,[],[]⟩,⟨6,[],[]⟩,⟨7,[],[]⟩] (by kernel_rfl) ?_
 simp(disch:=omega)only[go_sem]
 refine qb (YI k1 s1 (n1:Int) e1) ?_
 simp(disch:=omega)only[go_sem]
 refine qb (YI k2 s2 (n2:Int) e2) ?_
 simp(disch:=omega)only[go_sem]
 refine qb (adH (rkF k1 s1) (rkF k2 s2)) ?_
 simp(disch:=omega)only[go_sem]
 by_cases c1:zE (rkF k1 s1) (rkF k2 s2)=0
 ·have c1':decide (zE (rkF k1 s1) (rkF k2 s2)=0)=true:=decide_eq_true c1
  simp(disch:=omega)only[go_sem,c1']
  refine qb (YI k1 s1 (n1:Int) e1) ?_
  simp(disch:=omega)only[go_sem]
  have e:=hc.2.2.1 c1
  by_cases c2:rkF k1 s1=0
  ·have c2':decide (rkF k1 s1=0)=true:=decide_eq_true c2
   simp(disch:=omega)only[go_sem,c2']
   rw[if_neg (by rw[←e,c2];simp)]
   refine qo rfl [⟨0,[],[]⟩,⟨2,[0],[]⟩,⟨1,[2],[]⟩,⟨3,[],[]⟩,⟨4,[],[]⟩,⟨5,[],[]⟩] (by kernel_rfl) ?_
   simp(disch:=omega)only[go_sem]
   refine qa (yY k1 s1 n1 e1 (by omega)) ?_
   simp(disch:=omega)only[go_sem]
   refine qa (yY k2 s2 n2 e2 (by omega)) ?_
   simp(disch:=omega)only[go_sem]
   refine qb (cc) ?_
   simp(disch:=omega)only[go_sem]
   exact qq
  ·have c2':decide (rkF k1 s1=0)=false:=decide_eq_false c2
   simp(disch:=omega)only[go_sem,c2']
   rw[if_pos (.inr c2)]
   exact qq
 ·have c1':decide (zE (rkF k1 s1) (rkF k2 s2)=0)=false:=decide_eq_false c1
  simp(disch:=omega)only[go_sem,c1']
  rw[if_pos (.inl (fun e=>c1 (hc.2.2.2 e)))]
  exact qq
theorem ap5(k1:Int)(s1:Bool)(m1 e1 k2:Int)(s2:Bool)(m2 e2:Int)(h1:flB k1 s1 m1 e1=true)(h2:flB k2 s2 m2 e2=true)(n1:k1≠3)(n2:k2≠3):
  Con Tryz.prog 54 true [.ag [.v (.int .i64 (k1)),.v (.bool (s1)),.v (.int .i64 (m1)),.v (.int .i64 (e1))],.ag [.v (.int .i64 (k2)),.v (.bool (s2)),.v (.int .i64 (m2)),.v (.int .i64 (e2))]] [] (isA (.tu [.v (.int .i64 (aqa k1 s1 m1 e1 k2 s2 m2 e2)),.v (.bool true)])):=by
 have u1:decide (k1=3)=false:=decide_eq_false n1
 have u2:decide (k2=3)=false:=decide_eq_false n2
 refine Con.of_w (rs:=[.tmp 4,.tmp 5]) Tryz.func54 rfl Tryz.ntmps54 rfl ?_
 simp(disch:=omega)only[go_sem]
 refine qb (z6 k1 s1 m1 e1) ?_
 simp(disch:=omega)only[go_sem]
 simp(disch:=omega)only[go_sem,h1]
 refine qb (z6 k2 s2 m2 e2) ?_
 simp(disch:=omega)only[go_sem]
 simp(disch:=omega)only[go_sem,h2]
 refine qb (adB 3 k1 m1 e1 k2 m2 e2 s1 s2) ?_
 simp(disch:=omega)only[go_sem]
 simp(disch:=omega)only[go_sem,u1,u2]
 refine qb (QO k1 s1 m1 e1 k2 s2 m2 e2 h1 h2) ?_
 simp(disch:=omega)only[go_sem]
 exact qq
end Go.Ab
namespace Go.Ab
open Go
theorem aiD{R:Nat→Prop}{W:World}{a:Addr}{len cap:Nat}{zs:List Int}(hle:len≤cap)(hz:zs.length=cap)(hc:∀i,i<zs.length→W.cell? (a.add i)=some (.int .u8 (zs.getD i 0)))(hw:∀n∈zs,0≤n∧n<256)(hR:∀b,b<W.heap.size→R b):
  FRep R W (.slice (some a) len cap) (.sl ((zs.take len).map fun n=>UInt8.ofNat n.toNat).length (qp ((zs.take len).map fun n=>UInt8.ofNat n.toNat))):=by
 have hl:((zs.take len).map fun n=>UInt8.ofNat n.toNat).length=len:=by rw[List.length_map,List.length_take];omega
 have hil:(qp ((zs.take len).map fun n=>UInt8.ofNat n.toNat)).length=len:=by unfold qp;rw[List.length_map,hl]
 rw[hl]
 obtain⟨b,o,sp⟩:=a
 have hsp:0<len→sp=none:=fun h0=>by
  have h1:=World.cell?_spot (hc 0 (by omega))
  simpa [Addr.add]using h1
 refine .sl _ len cap _ (fun i=>.int .u8 (zs.getD i 0)) b o hle (fun h0=>?_) (fun i hi=>?_) (fun i hi=>?_)
 ·have hs:=hsp (by omega)
  subst hs
  exact⟨rfl,hR _ (aew (hc 0 (by omega)))⟩
 ·have hs:=hsp (by omega)
  subst hs
  have h1:=hc i (by omega)
  rw[aSW]at h1
  exact h1
 ·have:(qp ((zs.take len).map fun n=>UInt8.ofNat n.toNat))[i]=.v (.int .u8 (zs.getD i 0)):=by
   have hi2:i<zs.length:=by omega
   have hm:=hw zs[i] (List.getElem_mem hi2)
   simp only[qp,List.getElem_map,List.getElem_take,List.getD_eq_getElem?_getD]
   rw[List.getElem?_eq_getElem hi2]
   simp only[Option.getD_some]
   congr 2
   rw[UInt8.toNat_ofNat']
   omega
  rw[this]
  exact .v _
theorem aOc{n:Int}(h:(Lit.int .u8 n).wf=true):0≤n∧n<256:=by
 have h':IntKind.u8.min≤n∧n≤IntKind.u8.max:=by simpa [Lit.wf]using h
 have h1:IntKind.u8.min=0:=rfl
 have h2:IntKind.u8.max=255:=rfl
 omega
theorem aI3{H:Type}{enc:TypeId×Value→H}{P:Program}{W:World}{t e fuel:Nat}{cs:List Value}{x:DataW H×List MemPlace}(ht:P.underlying t=some (.slice e))(he:P.underlying e=some (.int .u8))(hc:P.cellsOf e=1)
  (h:DataW.trod enc P W 0 (fun _=>true) true fuel t cs=some x):
  ∃(v:Value) (l:List UInt8),cs=[v]∧l.length≤maxLen∧FRep (fun b=>b<W.heap.size) W v (.sl l.length (qp l)):=by
 rcases ChangeShapes.open_ints ht he hc h with⟨rfl,_⟩|⟨a,len,cap,zs,rfl,_,hl,hm,hz,_,hcell,hwf⟩
 ·exact⟨_,[],rfl,Nat.zero_le _,aBf⟩
 ·rw[if_pos rfl]at hz
  refine⟨_,_,rfl,?_,aiD hl hz hcell (fun n hn=>aOc (hwf n hn)) (fun _ h=>h)⟩
  rw[List.length_map,List.length_take];omega
theorem aAq{R:Nat→Prop}{ι:Nat→Option Blk}{w:World}{x:Value}{a:AV}(h1:Rep R ι w x a):RepA R ι w #[x] [a]:=
 ⟨rfl,fun i h=>match i,h with
  |0,_=>h1⟩
end Go.Ab
namespace Go.Ab
open Go
section
variable {P:Program}{f:FuncId}{args:List AV}{post:AV→List Ob→List Ob→Prop}
end
end Go.Ab
namespace Go.Ab
open Go
section
variable {σ:St}
theorem Le.ghostC(m o nm z:Nat){zo:Nat}{cs:List AV}(hm:σ.hp m=.own zo cs)(ho:cs[o]? =some (.v (.slice none 0 0)))(hf:σ.hp nm=.free):
  Le σ ⟨σ.env,upd (upd σ.hp nm (.own z [])) m (.own zo (cs.set o (.rf nm 0 0)))⟩:=by
 intro L w0 R0 N a w hi
 obtain⟨R,ι,hR,h⟩:=hi.inv
 have hg:=h.ghost (z:=z) hf
 have hne:m≠nm:=fun e=>by rw[e,hf]at hm;cases hm
 have hm':(⟨σ.env,upd σ.hp nm (.own z [])⟩:St).hp m=.own zo cs:=by show upd σ.hp nm (.own z []) m=_;rw[qL hne];exact hm
 obtain⟨hol,hoe⟩:=List.getElem?_eq_some_iff.1 ho
 have key:Inv L w0 R (upd ι nm none) w a.tmps ⟨σ.env,upd (upd σ.hp nm (.own z [])) m (.own zo (cs.set o (.rf nm 0 0)))⟩:=by
  cases hB:upd ι nm none m with
  |none=>
   have:=hg.hp.ok m
   rw[hm',hB]at this
   have e:cs=[]:=this
   rw[e]at hol;simp at hol
  |some B=>
   obtain⟨c,T,lo,hi',h1,h2,h3,h4,h5,h6⟩:=jq hg hm' hB
   refine hg.turn hm' hB rfl rfl rfl rfl (fun _ _=>rfl) ⟨c,T,lo,hi',h1,h2,h3,h4,by rw[List.length_set];exact h5,fun i hi2=>?_⟩ (AllL.of_get fun i hi2=>?_)
   ·rw[List.length_set]at hi2
    rw[List.getElem_set]
    by_cases e:o=i
    ·subst e
     rw[if_pos rfl]
     have:=h6 o hi2
     rw[hoe]at this
     rw[this.v_inv]
     exact .rf nm 0 0 0 none ⟨Nat.le_refl _,by rw[qw]⟩
    ·rw[if_neg e];exact h6 i hi2
   ·rw[List.length_set]at hi2
    rw[List.getElem_set]
    split
    ·show upd σ.hp nm (.own z []) nm≠ .free
     rw[qw];simp
    ·exact(hg.hp.men m zo cs hm').get i hi2
 exact⟨hi.df,hi.sz,R,_,hR,key⟩
end
structure ExV where
 s:Bool
 m:Nat
 e:Int
deriving DecidableEq
def ExV.cs(x:ExV):List AV:=[.v (.bool x.s),.sl (lim x.m).length (qg (lim x.m)),.v (.int .i64 x.e)]
theorem aEa(x:ExV):x.cs.length=3:=rfl
theorem aD9{ρ:Nat→Nat}(x:ExV):jk ρ x.cs=x.cs:=rfl
theorem apb{hp:Nat→Ob}{k:Nat}(x:ExV):x.cs.map (qP hp (k+1))=x.cs:=rfl
theorem aEb{p:Nat→Prop}(x:ExV):AllL p x.cs:=by simp[ExV.cs,AllL,AV.All]
def ex0:ExV:=⟨false,0,0⟩
theorem apa{l:List ExV}:(qz ExV.cs l).length=l.length*3:=J9 aEa
theorem aKS{ρ:Nat→Nat}{l:List ExV}:jk ρ (qz ExV.cs l)=qz ExV.cs l:=J8 aD9
theorem aBM{hp:Nat→Ob}{k:Nat}{l:List ExV}:(qz ExV.cs l).map (qP hp (k+1))=qz ExV.cs l:=Zc apb
theorem aKU{p:Nat→Prop}{l:List ExV}:AllL p (qz ExV.cs l)=True:=eq_true (Ya aEb)
theorem aBN{p:Nat→Prop}{x:ExV}:AllL p x.cs=True:=eq_true (aEb x)
theorem Qp{l:List ExV}{x:ExV}:qz ExV.cs l++[.v (.bool x.s),.sl (lim x.m).length (qg (lim x.m)),.v (.int .i64 x.e)]=qz ExV.cs (l++[x]):=by
 rw[←anZ,jd,QA,List.append_nil];rfl
theorem aKT{l:List ExV}:cut (qz ExV.cs l) 0 (l.length*3)=qz ExV.cs l:=by
 unfold cut;rw[List.drop_zero,List.take_of_length_le (by rw[apa];exact Nat.le_refl _)]
structure SpV where
 lo:ExV
 hi:ExV
deriving DecidableEq
def SpV.cs(x:SpV):List AV:=x.lo.cs++x.hi.cs
theorem aDI(x:SpV):x.cs.length=6:=rfl
theorem aDH{ρ:Nat→Nat}(x:SpV):jk ρ x.cs=x.cs:=rfl
theorem anJ{hp:Nat→Ob}{k:Nat}(x:SpV):x.cs.map (qP hp (k+1))=x.cs:=rfl
theorem aDJ{p:Nat→Prop}(x:SpV):AllL p x.cs:=by simp[SpV.cs,ExV.cs,AllL,AV.All]
def sp0:SpV:=⟨ex0,ex0⟩
theorem anI{l:List SpV}:(qz SpV.cs l).length=l.length*6:=J9 aDI
theorem aIc{ρ:Nat→Nat}{l:List SpV}:jk ρ (qz SpV.cs l)=qz SpV.cs l:=J8 aDH
theorem az7{hp:Nat→Ob}{k:Nat}{l:List SpV}:(qz SpV.cs l).map (qP hp (k+1))=qz SpV.cs l:=Zc anJ
theorem aIe{p:Nat→Prop}{l:List SpV}:AllL p (qz SpV.cs l)=True:=eq_true (Ya aDJ)
theorem az8{p:Nat→Prop}{x:SpV}:AllL p x.cs=True:=eq_true (aDJ x)
theorem y7{l:List SpV}{x:SpV}:qz SpV.cs l++[.v (.bool x.lo.s),.sl (lim x.lo.m).length (qg (lim x.lo.m)),.v (.int .i64 x.lo.e),.v (.bool x.hi.s),.sl (lim x.hi.m).length (qg (lim x.hi.m)),.v (.int .i64 x.hi.e)]=qz SpV.cs (l++[x]):=by
 rw[←anZ,jd,QA,List.append_nil];rfl
theorem aId{l:List SpV}:cut (qz SpV.cs l) 0 (l.length*6)=qz SpV.cs l:=by
 unfold cut;rw[List.drop_zero,List.take_of_length_le (by rw[anI];exact Nat.le_refl _)]
attribute [go_sem] apa aKS aBM aKU aBN aD9 apb anI aIc az7 aIe az8 aDH anJ
end Go.Ab
namespace Go.Ab
open Go Go.Proofs
def ExV.plus(x y:ExV):ExV:=⟨adS x.s x.m x.e y.s y.m y.e,adM x.s x.m x.e y.s y.m y.e,alE x.m x.e y.m y.e⟩
def ExV.neg(x:ExV):ExV:=⟨!x.s&&decide (x.m≠0),x.m,x.e⟩
def ExV.times(x y:ExV):ExV:=⟨(x.s != y.s)&&decide (x.m*y.m≠0),x.m*y.m,x.e+y.e⟩
def ExV.abs(x:ExV):ExV:=⟨false,x.m,x.e⟩
def ExV.shift(x:ExV)(k:Int):ExV:=⟨x.s,x.m,x.e+k⟩
def ExV.over(x y:ExV)(low mode:Int):ExV:=⟨(x.s != y.s)&&decide (ovQ (x.s != y.s) x.m x.e y.m y.e low mode≠0),ovQ (x.s != y.s) x.m x.e y.m y.e low mode,low⟩
def ExV.rnd(x:ExV)(low mode:Int):ExV:=⟨roS x.s x.m x.e low mode,roM x.s x.m x.e low mode,roE x.m x.e low⟩
def ExV.cmp(x y:ExV):Int:=zE (sv x.s (alA x.m x.e (alE x.m x.e y.m y.e))) (sv y.s (alA y.m y.e (alE x.m x.e y.m y.e)))
def ExV.top(x:ExV):Int:=if x.m=0 then 0 else(bl x.m:Int)+x.e
def ExV.bd(lo hi:Int)(x:ExV):Prop:=(x.m=0→x.s=false)∧lo≤x.e∧(bl x.m:Int)+x.e≤hi
theorem ExV.bd.mono{lo hi lo' hi':Int}{x:ExV}(h:x.bd lo hi)(h1:lo'≤lo)(h2:hi≤hi'):x.bd lo' hi':=by
 obtain⟨a,b,c⟩:=h;exact⟨a,by omega,by omega⟩
theorem aqC{m:Nat}{e E hi:Int}(h:m≠0→E≤e)(h1:(bl m:Int)+e≤hi)(h2:E≤hi):(bl (alA m e E):Int)+E≤hi:=by
 by_cases h0:m=0
 ·rw[Qx.2 h0,y0];omega
 ·have:=h h0
  have:=YV m (e-E).toNat
  unfold alA;omega
theorem aLP{m1:Nat}{e1:Int}{m2:Nat}{e2:Int}:m1≠0→alE m1 e1 m2 e2≤e1:=fun h=>by
 unfold alE
 repeat' split
 all_goals omega
theorem aLO{m1:Nat}{e1:Int}{m2:Nat}{e2:Int}:m2≠0→alE m1 e1 m2 e2≤e2:=fun h=>by
 unfold alE
 repeat' split
 all_goals omega
theorem ExV.plus_bd{lo hi:Int}{x y:ExV}(hx:x.bd lo hi)(hy:y.bd lo hi):(x.plus y).bd lo (hi+1):=by
 obtain⟨a1,a2,a3⟩:=hx
 obtain⟨b1,b2,b3⟩:=hy
 have hE:lo≤alE x.m x.e y.m y.e:=Jg a2 b2
 have hE2:alE x.m x.e y.m y.e≤hi:=aEn (by omega) (by omega)
 refine⟨fun h=>?_,hE,?_⟩
 ·show adS x.s x.m x.e y.s y.m y.e=false
  have h:suM _ _ _ _=0:=h
  unfold adS suS
  unfold suM at h
  rw[Int.natAbs_eq_zero.1 h];rfl
 ·have t1:=aqC (hi:=hi) (@aLP x.m x.e y.m y.e) a3 hE2
  have t2:=aqC (hi:=hi) (@aLO x.m x.e y.m y.e) b3 hE2
  show(bl (adM x.s x.m x.e y.s y.m y.e):Int)+alE x.m x.e y.m y.e≤hi+1
  unfold adM
  generalize alA x.m x.e (alE x.m x.e y.m y.e)=A at*
  generalize alA y.m y.e (alE x.m x.e y.m y.e)=B at*
  have:=aey (s1:=x.s) (s2:=y.s) (B:=(hi-alE x.m x.e y.m y.e).toNat) (show bl A≤_ by omega) (show bl B≤_ by omega)
  omega
theorem ExV.neg_bd{lo hi:Int}{x:ExV}(hx:x.bd lo hi):x.neg.bd lo hi:=by
 obtain⟨a1,a2,a3⟩:=hx
 refine⟨fun h=>?_,a2,a3⟩
 have h:x.m=0:=h
 show(!x.s&&decide (x.m≠0))=false
 rw[decide_eq_false (show ¬x.m≠0 by omega),Bool.and_false]
theorem ExV.times_bd{l1 h1 l2 h2:Int}{x y:ExV}(hx:x.bd l1 h1)(hy:y.bd l2 h2):(x.times y).bd (l1+l2) (h1+h2):=by
 obtain⟨a1,a2,a3⟩:=hx
 obtain⟨b1,b2,b3⟩:=hy
 refine⟨fun h=>?_,?_,?_⟩
 ·have h:x.m*y.m=0:=h
  show((x.s != y.s)&&decide (x.m*y.m≠0))=false
  rw[decide_eq_false (show ¬x.m*y.m≠0 by omega),Bool.and_false]
 ·show l1+l2≤x.e+y.e
  omega
 ·have:=yE x.m y.m
  show(bl (x.m*y.m):Int)+(x.e+y.e)≤h1+h2
  omega
theorem ExV.abs_bd{lo hi:Int}{x:ExV}(hx:x.bd lo hi):x.abs.bd lo hi:=⟨fun _=>rfl,hx.2.1,hx.2.2⟩
theorem ExV.shift_bd{lo hi k:Int}{x:ExV}(hx:x.bd lo hi):(x.shift k).bd (lo+k) (hi+k):=by
 obtain⟨a1,a2,a3⟩:=hx
 exact⟨a1,by show lo+k≤x.e+k;omega,by show(bl x.m:Int)+(x.e+k)≤hi+k;omega⟩
theorem aN1{s:Bool}{m1:Nat}{e1:Int}{m2:Nat}{e2 low mode:Int}:bl (ovQ s m1 e1 m2 e2 low mode)≤bl m1+(e1-e2-low).toNat+1:=by
 have h1:=zf (aAi s (ovA m1 (e1-e2-low)) (ovA m2 (-(e1-e2-low))) mode)
 have h2:=YW (ovA m1 (e1-e2-low)/ovA m2 (-(e1-e2-low)))
 have h3:=Qw (ovA m1 (e1-e2-low)) (ovA m2 (-(e1-e2-low)))
 have h4:=YV m1 (e1-e2-low).toNat
 unfold ovQ;unfold ovA at*;omega
theorem ExV.over_bd{l1 h1 l2 low mode hi:Int}{x y:ExV}(hx:x.bd l1 h1)(hy:l2≤y.e)(h:h1-l2+1≤hi)(hb:h1-l1+1+low≤hi):(x.over y low mode).bd low hi:=by
 obtain⟨a1,a2,a3⟩:=hx
 refine⟨fun h=>?_,Int.le_refl _,?_⟩
 ·have h:ovQ (x.s != y.s) x.m x.e y.m y.e low mode=0:=h
  show((x.s != y.s)&&decide (ovQ (x.s != y.s) x.m x.e y.m y.e low mode≠0))=false
  rw[decide_eq_false (by rw[h];simp),Bool.and_false]
 ·have:=@aN1 (x.s != y.s) x.m x.e y.m y.e low mode
  show(bl (ovQ (x.s != y.s) x.m x.e y.m y.e low mode):Int)+low≤hi
  omega
theorem ExV.rnd_bd{lo hi low mode:Int}{x:ExV}(hx:x.bd lo hi)(hl:lo≤low)(hh:low≤hi):(x.rnd low mode).bd lo (hi+1):=by
 obtain⟨a1,a2,a3⟩:=hx
 by_cases c:low≤x.e∨x.m=0
 ·refine⟨fun h=>?_,?_,?_⟩
  ·show roS _ _ _ _ _=false
   have h:roM _ _ _ _ _=0:=h
   unfold roM at h;unfold roS;rw[if_pos c]at h ⊢;exact a1 h
  ·show lo≤roE _ _ _
   unfold roE;rw[if_pos c];exact a2
  ·show(bl (roM _ _ _ _ _):Int)+roE _ _ _≤_
   unfold roM roE;rw[if_pos c,if_pos c];omega
 ·refine⟨fun h=>?_,?_,?_⟩
  ·show roS _ _ _ _ _=false
   have h:roM _ _ _ _ _=0:=h
   unfold roM at h;unfold roS;rw[if_neg c]at h ⊢;rw[h];simp
  ·show lo≤roE _ _ _
   unfold roE;rw[if_neg c];exact hl
  ·show(bl (roM _ _ _ _ _):Int)+roE _ _ _≤_
   unfold roM roE;rw[if_neg c,if_neg c]
   have h1:=zf (aAi x.s x.m (2^(low-x.e).toNat) mode)
   have h2:=YW (x.m/2^(low-x.e).toNat)
   have h3:=aEi x.m (low-x.e).toNat
   omega
theorem jV(x y:ExV)(hx:x.bd (-400000) 400000)(hy:y.bd (-400000) 400000):Con Tryz.prog 162 false [.ag [.v (.bool (x.s)),.sl (lim (x.m)).length (qg (lim (x.m))),.v (.int .i64 (x.e))],.ag [.v (.bool (y.s)),.sl (lim (y.m)).length (qg (lim (y.m))),.v (.int .i64 (y.e))]] [] (isA (.ag [.v (.bool ((x.plus y).s)),.sl (lim ((x.plus y).m)).length (qg (lim ((x.plus y).m))),.v (.int .i64 ((x.plus y).e))])):=by
 obtain⟨a1,a2,a3⟩:=hx
 obtain⟨b1,b2,b3⟩:=hy
 exact apt x.s x.m x.e y.s y.m y.e (by omega) (by omega) (by omega) (by omega)
theorem JK(x y:ExV)(hx:x.bd (-400000) 400000)(hy:y.bd (-400000) 400000):Con Tryz.prog 168 false [.ag [.v (.bool (x.s)),.sl (lim (x.m)).length (qg (lim (x.m))),.v (.int .i64 (x.e))],.ag [.v (.bool (y.s)),.sl (lim (y.m)).length (qg (lim (y.m))),.v (.int .i64 (y.e))]] [] (isA (.ag [.v (.bool ((x.times y).s)),.sl (lim ((x.times y).m)).length (qg (lim ((x.times y).m))),.v (.int .i64 ((x.times y).e))])):=by
 obtain⟨a1,a2,a3⟩:=hx
 obtain⟨b1,b2,b3⟩:=hy
 exact aiO x.s x.m x.e y.s y.m y.e (by omega) (by omega) (by omega) (by omega)
theorem apu(x y:ExV)(low mode:Int)(h0:y.m≠0)(hx:x.bd (-400000) 400000)(hy:y.bd (-400000) 400000)(hl: -400000≤low∧low≤400000):Con Tryz.prog 188 false [.ag [.v (.bool (x.s)),.sl (lim (x.m)).length (qg (lim (x.m))),.v (.int .i64 (x.e))],.ag [.v (.bool (y.s)),.sl (lim (y.m)).length (qg (lim (y.m))),.v (.int .i64 (y.e))],.v (.int .i64 low),.v (.int .i64 mode)] [] (isA (.tu [.ag [.v (.bool ((x.over y low mode).s)),.sl (lim ((x.over y low mode).m)).length (qg (lim ((x.over y low mode).m))),.v (.int .i64 ((x.over y low mode).e))],.v (.bool (ovX x.m x.e y.m y.e low))])):=by
 obtain⟨a1,a2,a3⟩:=hx
 obtain⟨b1,b2,b3⟩:=hy
 exact aeu x.s x.m x.e y.s y.m y.e low mode h0 (by omega) (by omega) (by omega) (by omega) (by omega) (by omega)
theorem YH(x:ExV)(low mode:Int)(hx:x.bd (-400000) 400000)(hl: -400000≤low∧low≤400000):Con Tryz.prog 177 false [.ag [.v (.bool (x.s)),.sl (lim (x.m)).length (qg (lim (x.m))),.v (.int .i64 (x.e))],.v (.int .i64 low),.v (.int .i64 mode)] [] (isA (.tu [.ag [.v (.bool ((x.rnd low mode).s)),.sl (lim ((x.rnd low mode).m)).length (qg (lim ((x.rnd low mode).m))),.v (.int .i64 ((x.rnd low mode).e))],.v (.bool (roX x.m x.e low))])):=by
 obtain⟨a1,a2,a3⟩:=hx
 exact ZX x.s x.m x.e low mode (by omega) (by omega) (by omega)
theorem Zl(x y:ExV)(hx:x.bd (-400000) 400000)(hy:y.bd (-400000) 400000):Con Tryz.prog 105 true [.ag [.v (.bool (x.s)),.sl (lim (x.m)).length (qg (lim (x.m))),.v (.int .i64 (x.e))],.ag [.v (.bool (y.s)),.sl (lim (y.m)).length (qg (lim (y.m))),.v (.int .i64 (y.e))]] [] (isA (.v (.int .i64 (x.cmp y)))):=by
 obtain⟨a1,a2,a3⟩:=hx
 obtain⟨b1,b2,b3⟩:=hy
 unfold ExV.cmp
 rw[ap8 (K:=400000) (by omega) (by omega)]
 exact QY 400000 x.s x.m x.e y.s y.m y.e (by omega) (by omega) (by omega) (by omega) (by omega) (by omega) a1 b1
theorem aB6(x:ExV):Con Tryz.prog 232 false [.ag [.v (.bool (x.s)),.sl (lim (x.m)).length (qg (lim (x.m))),.v (.int .i64 (x.e))]] [] (isA (.ag [.v (.bool (x.neg.s)),.sl (lim (x.neg.m)).length (qg (lim (x.neg.m))),.v (.int .i64 (x.neg.e))])):=by
 refine Con.frzA ?_
 have hq:decide ((0:Int)<((lim x.m).length:Int))=decide (x.m≠0):=by
  rw[decide_eq_decide]
  exact⟨fun h e=>by rw[e,qm]at h;simp at h,fun h=>by have:=Qg h;omega⟩
 unfold ExV.neg
 cases hs:x.s
 ·refine Con.of_w (rs:=[.cell 2 90]) Tryz.func232 rfl Tryz.ntmps232 rfl ?_
  simp(disch:=omega)only[go_sem]
  simp(disch:=omega)only[go_sem,hq]
  exact qn (hp:=by simp(disch:=omega)only[go_sem,Bool.not_false,Bool.true_and])
 ·refine Con.of_w (rs:=[.cell 2 90]) Tryz.func232 rfl Tryz.ntmps232 rfl ?_
  simp(disch:=omega)only[go_sem]
  exact qn (hp:=by simp(disch:=omega)only[go_sem,Bool.not_true,Bool.false_and])
theorem YR(x:ExV):Con Tryz.prog 153 false [.ag [.v (.bool (x.s)),.sl (lim (x.m)).length (qg (lim (x.m))),.v (.int .i64 (x.e))]] [] (isA (.ag [.v (.bool (x.abs.s)),.sl (lim (x.abs.m)).length (qg (lim (x.abs.m))),.v (.int .i64 (x.abs.e))])):=by
 refine Con.frzA ?_
 refine Con.of_w (rs:=[.cell 2 90]) Tryz.func153 rfl Tryz.ntmps153 rfl ?_
 simp(disch:=omega)only[go_sem]
 exact qn (hp:=by simp(disch:=omega)only[go_sem,ExV.abs])
theorem QK(x:ExV)(k:Int)(hx: -2^40≤x.e∧x.e≤2^40)(hk: -2^40≤k∧k≤2^40):Con Tryz.prog 224 false [.ag [.v (.bool (x.s)),.sl (lim (x.m)).length (qg (lim (x.m))),.v (.int .i64 (x.e))],.v (.int .i64 k)] [] (isA (.ag [.v (.bool ((x.shift k).s)),.sl (lim ((x.shift k).m)).length (qg (lim ((x.shift k).m))),.v (.int .i64 ((x.shift k).e))])):=by
 refine Con.frzA ?_
 refine Con.of_w (rs:=[.cell 4 90]) Tryz.func224 rfl Tryz.ntmps224 rfl ?_
 simp(disch:=omega)only[go_sem]
 exact qn (hp:=by simp(disch:=omega)only[go_sem,ExV.shift])
theorem aB3(x:ExV)(hx:x.bd (-400000) 400000):Con Tryz.prog 118 true [.ag [.v (.bool (x.s)),.sl (lim (x.m)).length (qg (lim (x.m))),.v (.int .i64 (x.e))]] [] (isA (.v (.int .i64 x.top))):=by
 obtain⟨a1,a2,a3⟩:=hx
 exact jE x.s x.m x.e (by have:=qy (m:=x.m) (B:=800000) (by omega);omega) (by omega)
theorem QM(x y:ExV)(hx:x.bd (-400000) 400000)(hy:y.bd (-400000) 400000):Con Tryz.prog 152 false [.ag [.v (.bool (x.s)),.sl (lim (x.m)).length (qg (lim (x.m))),.v (.int .i64 (x.e))],.ag [.v (.bool (y.s)),.sl (lim (y.m)).length (qg (lim (y.m))),.v (.int .i64 (y.e))]] [] (isA (.ag [.v (.bool ((x.plus y.neg).s)),.sl (lim ((x.plus y.neg).m)).length (qg (lim ((x.plus y.neg).m))),.v (.int .i64 ((x.plus y.neg).e))])):=by
 refine Con.frzA ?_
 refine Con.of_w (rs:=[.cell 4 90]) Tryz.func152 rfl Tryz.ntmps152 rfl ?_
 simp(disch:=omega)only[go_sem]
 refine qo rfl [⟨0,[],[]⟩,⟨1,[0],[]⟩,⟨2,[0],[]⟩,⟨3,[],[]⟩,⟨4,[],[]⟩] (by kernel_rfl) ?_
 simp(disch:=omega)only[go_sem]
 refine qa (aB6 y) ?_
 simp(disch:=omega)only[go_sem]
 refine qa (jV x y.neg hx (ExV.neg_bd hy)) ?_
 simp(disch:=omega)only[go_sem]
 exact qn
end Go.Ab
namespace Go.Ab
open Go Go.Proofs
def gl(n:Nat)(g:Nat→Nat→ExV)(k:Nat):List ExV:=(List.range k).map fun t=>g (t/n) (t % n)
theorem ZP{n:Nat}{g:Nat→Nat→ExV}{k:Nat}:(gl n g k).length=k:=by simp[gl]
theorem aJW{n:Nat}{g:Nat→Nat→ExV}{k:Nat}:gl n g (k+1)=gl n g k++[g (k/n) (k % n)]:=by simp[gl,List.range_succ]
theorem aOm{n:Nat}{g:Nat→Nat→ExV}:qz ExV.cs (gl n g 0)=[]:=by simp[gl,qz]
theorem zO{l:List ExV}{k:Nat}(h:l.length=k):cut (qz ExV.cs l) 0 (k*3)=qz ExV.cs l:=by subst h;exact aKT
theorem jx{l:List ExV}{i:Nat}(hi:i<l.length):cut (qz ExV.cs l) (i*3) 3=[.v (.bool (l.getD i ex0).s),.sl (lim (l.getD i ex0).m).length (qg (lim (l.getD i ex0).m)),.v (.int .i64 (l.getD i ex0).e)]:=ac1 (l:=l) aEa hi ex0
theorem ap1(n:Nat)(l:List ExV)(i j:Nat)(hl:i*n+j<l.length)(hb:l.length≤1000)(hn:n≤1000)(hi:i≤1000)(hj:j≤1000):
  Con Tryz.prog 163 false [.ag [.v (.int .i64 n),.sl l.length (qz ExV.cs l)],.v (.int .i64 i),.v (.int .i64 j)] [] (isA (.ag [.v (.bool ((l.getD (i*n+j) ex0).s)),.sl (lim ((l.getD (i*n+j) ex0).m)).length (qg (lim ((l.getD (i*n+j) ex0).m))),.v (.int .i64 ((l.getD (i*n+j) ex0).e))])):=by
 refine Con.frzA ?_
 have hin:i*n≤1000:=by omega
 have hp:(i:Int)*(n:Int)≤1000∧0≤(i:Int)*(n:Int):=by rw[←Int.natCast_mul];omega
 have e1:(i:Int)*(n:Int)+(j:Int)=((i*n+j:Nat):Int):=by rw[Int.natCast_add,Int.natCast_mul]
 have hcut:=jx hl
 generalize i*n+j=k at*
 refine Con.of_w (rs:=[.cell 6 90]) Tryz.func163 rfl Tryz.ntmps163 rfl ?_
 simp(disch:=omega)only[go_sem]
 simp(disch:=omega)only[go_sem,e1,hcut]
 refine⟨by omega,by omega,?_⟩
 exact qn
set_option maxRecDepth 100000 in
theorem ai3(n:Nat)(f:Nat)(caps:List AV)(g:Nat→Nat→ExV)(hn0:n≤4)(hf:∀i j:Nat,i<n→j<n→Con Tryz.prog f false (.v (.int .i64 i):: .v (.int .i64 j)::caps) [] (isA (.ag [.v (.bool ((g i j).s)),.sl (lim ((g i j).m)).length (qg (lim ((g i j).m))),.v (.int .i64 ((g i j).e))])))(hg:qs Tryz.prog f=True)
  (hc:∀h:Nat→Ob,caps.map (qP h 6)=caps) (hc5:∀h:Nat→Ob,caps.map (qP h 5)=caps) (hn:∀ks,AllL (yi ks) caps) (hr:∀ρ,jk ρ caps=caps):
  Con Tryz.prog 164 false [.v (.int .i64 n),.fn f caps] [] (isA (.ag [.v (.int .i64 n),.sl (n*n) (qz ExV.cs (gl n g (n*n)))])):=by
 refine Con.frzA ?_
 refine Con.of_aw Tryz.func164 rfl Tryz.ntmps164 (by simp) (by simp) (by simp) (W.sound ?_)
 show @W Tryz.prog 30 ⟨_⟩ ⟨fun x σ=>@za _ _ _ ⟨_⟩ _ ⟨_⟩ x σ⟩ _ _
 simp(disch:=omega)only[go_sem,hg]
 refine qk (fun i:Nat=>[(0,.v (.int .i64 n)),(1,.fn f caps),(4,.pt 2 0),(5,.pt 0 0),(10,.v (.int .i64 n)),(11,.v (.int .i64 i))])
  (fun i=>[(0,.own 0 [.v (.int .i64 n),.rf 1 0 (i*n)]),(1,.own 3 (qz ExV.cs (gl n g (i*n)))),(2,.own 0 [.v (.int .i64 0),.v (.slice none 0 0)])]) (fun i=>i≤n) (fun i=>n-i) 0 (by omega)
  ((Le.ghostC 70000000 1 1 3 (zo:=0) (cs:=[.v (.int .i64 n),.v (.slice none 0 0)]) (by simp(disch:=omega)only[go_sem]) rfl (by simp(disch:=omega)only[go_sem])).trans (Le.lst [(0,70000000),(2,60000000)] _ _ rfl (by simp(disch:=omega)only[go_sem,hr,hn]) (by simp(disch:=omega)only[go_sem,aOm,Nat.zero_mul,List.set_cons_succ,List.set_cons_zero]))) ?_
 intro i hi
 simp(disch:=omega)only[go_sem]
 refine qe (fun h1=>?_) (fun h1=>?_)
 ·simp(disch:=omega)only[go_sem,h1]
  refine qk (fun j:Nat=>[(0,.v (.int .i64 n)),(1,.fn f caps),(4,.pt 2 0),(5,.pt 0 0),(6,.v (.int .i64 i)),(10,.v (.int .i64 n)),(11,.v (.int .i64 i)),(14,.v (.int .i64 n)),(15,.v (.int .i64 j))])
   (fun j=>[(0,.own 0 [.v (.int .i64 n),.rf 1 0 (i*n+j)]),(1,.own 3 (qz ExV.cs (gl n g (i*n+j)))),(2,.own 0 [.v (.int .i64 0),.v (.slice none 0 0)])]) (fun j=>j≤n) (fun j=>n-j) 0 (by omega)
   (Le.lst [] _ _ rfl (by simp(disch:=omega)only[go_sem,hr,hn,Nat.add_zero]) (by simp(disch:=omega)only[go_sem,Nat.add_zero])) ?_
  intro j hj
  simp(disch:=omega)only[go_sem]
  refine qe (fun h2=>?_) (fun h2=>?_)
  ·simp(disch:=omega)only[go_sem,h2]
   have hd:(i*n+j)/n=i:=by rw[Nat.mul_comm,Nat.mul_add_div (by omega),Nat.div_eq_of_lt (by omega),Nat.add_zero]
   have hm:(i*n+j) % n=j:=by rw[Nat.mul_comm,Nat.mul_add_mod,Nat.mod_eq_of_lt (by omega)]
   have hs:=@aJW n g (i*n+j)
   rw[hd,hm]at hs
   have hcut:=zO (@ZP n g (i*n+j))
   have hin:i*n≤16:=Nat.mul_le_mul (show i≤4 by omega) hn0
   have hk:i*n+(j+1)=i*n+j+1:=rfl
   refine qo rfl [⟨0,[],[]⟩,⟨1,[],[]⟩,⟨2,[1],[]⟩,⟨3,[1],[]⟩,⟨4,[1],[]⟩,⟨5,[1],[]⟩,⟨6,[1],[]⟩,⟨7,[],[]⟩,⟨8,[],[]⟩,⟨9,[],[]⟩] (by kernel_rfl) ?_
   simp(disch:=omega)only[go_sem,hg]
   refine qF (hf i j (by omega) (by omega)) (by simp(disch:=omega)only[go_sem,hc,hc5]) ?_
   rintro r hs2 ⟨rfl,rfl,_⟩
   refine⟨by simp[qS],?_⟩
   simp(disch:=omega)only[go_sem,hcut,Qp]
   refine⟨⟨by rw[ZP];exact Nat.le_refl _,by omega⟩,qh (j+1) [(1,270000000)] (by show j+1≤_;omega) (by show n-(j+1)<n-j;omega) rfl (by simp(disch:=omega)only[go_sem,hr,hn];try omega) (by simp(disch:=omega)only[go_sem,hk,hs])⟩
  ·simp(disch:=omega)only[go_sem,h2]
   obtain rfl:n=j:=by omega
   exact qh (i+1) [] (by show i+1≤_;omega) (by show n-(i+1)<n-i;omega) rfl (by simp(disch:=omega)only[go_sem,hr,hn,Nat.add_mul,Nat.one_mul];try omega) (by simp(disch:=omega)only[go_sem,Nat.add_mul,Nat.one_mul])
 ·simp(disch:=omega)only[go_sem,h1]
  obtain rfl:n=i:=by omega
  refine qj [(0,1)] [.own 3 (qz ExV.cs (gl n g (n*n)))] [] [.ag [.v (.int .i64 n),.rf 0 0 (n*n)]] rfl (by simp(disch:=omega)only[go_sem]) (by simp(disch:=omega)only[go_sem]) (by simp) (by simp) ?_
  show qP _ 6 _=_
  simp(disch:=omega)only[go_sem,zv,zO ZP]
end Go.Ab
namespace Go.Ab
open Go Go.Proofs
def Qe(m x:ExV):ExV:=if 0<x.cmp m then x else m
def Qi(m x:ExV):ExV:=if x.cmp m<0 then x else m
def zJ(l:List ExV):ExV:=(l.drop 1).foldl Qe (l.getD 0 ex0)
def yf(l:List ExV):ExV:=(l.drop 1).foldl Qi (l.getD 0 ex0)
def gbd(lo hi:Int)(l:List ExV):Prop:=∀x∈l,x.bd lo hi
theorem zL{lo hi:Int}{l:List ExV}{i:Nat}(h:gbd lo hi l)(hi':i<l.length):(l.getD i ex0).bd lo hi:=by
 refine h _ ?_
 rw[List.getD_eq_getElem?_getD,List.getElem?_eq_getElem hi'];exact List.getElem_mem _
theorem jM{l:List ExV}{i:Nat}(h1:1≤i)(h:i<l.length):(l.take (i+1)).drop 1=(l.take i).drop 1++[l.getD i ex0]:=by
 rw[List.take_add_one,List.getElem?_eq_getElem h,List.drop_append_of_le_length (by rw[List.length_take];omega),List.getD_eq_getElem?_getD,List.getElem?_eq_getElem h]
 rfl
theorem QF{lo hi:Int}{F:ExV→ExV→ExV}(hF:∀m x,F m x=m∨F m x=x):∀(l:List ExV) (m:ExV),m.bd lo hi→gbd lo hi l→(l.foldl F m).bd lo hi
 | [],m,h,_=>h
 |x::r,m,h,hl=>by
  refine QF hF r (F m x) ?_ (fun y hy=>hl y (List.mem_cons_of_mem _ hy))
  rcases hF m x with e|e<;>rw[e]
  ·exact h
  ·exact hl x (List.mem_cons_self ..)
theorem Yl(m x:ExV):Qe m x=m∨Qe m x=x:=by unfold Qe;split<;>simp
theorem KH(m x:ExV):Qi m x=m∨Qi m x=x:=by unfold Qi;split<;>simp
theorem Zg{lo hi:Int}{l:List ExV}(h:gbd lo hi l)(h0:0<l.length):(zJ l).bd lo hi:=QF Yl _ _ (zL h h0) (fun x hx=>h x (List.mem_of_mem_drop hx))
theorem KG{lo hi:Int}{l:List ExV}(h:gbd lo hi l)(h0:0<l.length):(yf l).bd lo hi:=QF KH _ _ (zL h h0) (fun x hx=>h x (List.mem_of_mem_drop hx))
theorem adw(l:List ExV)(h0:0<l.length)(hl:l.length≤1000)(hb:gbd (-400000) 400000 l):Con Tryz.prog 176 false [.sl l.length (qz ExV.cs l),.fn 105 []] [] (isA (.ag [.v (.bool (zJ l).s),.sl (lim (zJ l).m).length (qg (lim (zJ l).m)),.v (.int .i64 (zJ l).e)])):=by
 refine Con.frzA ?_
 have hc0:=jx (l:=l) (i:=0) h0
 have q1:decide ((l.length:Int)<1)=false:=decide_eq_false (by omega)
 refine Con.of_w (rs:=[.cell 4 90]) Tryz.func176 rfl Tryz.ntmps176 rfl ?_
 simp(disch:=omega)only[go_sem,q1,hc0]
 refine⟨by omega,by omega,?_⟩
 refine qk (fun x:Nat×ExV=>[(0,.sl l.length (qz ExV.cs l)),(1,.fn 105 []),(4,.pt 1 0),(5,.pt 0 0),(6,.v (.int .i64 x.1))])
  (fun x=>[(0,.own 0 [.v (.bool x.2.s),.sl (lim x.2.m).length (qg (lim x.2.m)),.v (.int .i64 x.2.e)]),(1,.own 0 [.v (.bool false),.v (.slice none 0 0),.v (.int .i64 0)])])
  (fun x=>1≤x.1∧x.1≤l.length∧x.2=((l.take x.1).drop 1).foldl Qe (l.getD 0 ex0)) (fun x=>l.length-x.1) (1,l.getD 0 ex0) ⟨by omega,by omega,by simp⟩
  (Le.lst [(0,70000000),(1,60000000)] _ _ rfl (by simp(disch:=omega)only[go_sem]) (by simp(disch:=omega)only[go_sem])) ?_
 rintro⟨i,m⟩ ⟨h1,hi,hm⟩
 dsimp only at h1 hi hm ⊢
 have hmb:m.bd (-400000) 400000:=by
  rw[hm];exact QF Yl _ _ (zL hb h0) (fun x hx=>hb x (List.mem_of_mem_take (List.mem_of_mem_drop hx)))
 simp(disch:=omega)only[go_sem]
 refine qe (fun h2=>?_) (fun h2=>?_)
 ·have hi2:i<l.length:=by omega
  have hci:=jx (l:=l) (i:=i) hi2
  have hs:Qe m (l.getD i ex0)=((l.take (i+1)).drop 1).foldl Qe (l.getD 0 ex0):=by
   rw[jM h1 hi2,List.foldl_append,←hm];rfl
  simp(disch:=omega)only[go_sem,h2]
  refine qo rfl [⟨0,[],[]⟩,⟨1,[],[]⟩,⟨2,[],[]⟩,⟨3,[],[]⟩,⟨4,[],[]⟩,⟨5,[4],[]⟩,⟨6,[],[]⟩,⟨7,[],[]⟩] (by kernel_rfl) ?_
  have hg:qs Tryz.prog 105=True:=by simp(disch:=omega)only[go_sem]
  simp(disch:=omega)only[go_sem,hci,hg]
  refine⟨by omega,by omega,?_⟩
  refine qb (Zl (l.getD i ex0) m (zL hb hi2) hmb) ?_
  simp(disch:=omega)only[go_sem]
  generalize l.getD i ex0=y at*
  refine qe (fun h3=>?_) (fun h3=>?_)
  ·simp(disch:=omega)only[go_sem,h3,hci]
   have:Qe m y=y:=if_pos h3
   refine⟨by omega,by omega,qh (i+1,y) [] ⟨by show 1≤i+1;omega,by show i+1≤_;omega,this▸hs⟩ (by show l.length-(i+1)<l.length-i;omega) rfl (by simp(disch:=omega)only[go_sem];try omega) (by simp(disch:=omega)only[go_sem])⟩
  ·simp(disch:=omega)only[go_sem,h3]
   have:Qe m y=m:=if_neg h3
   refine qh (i+1,m) [] ⟨by show 1≤i+1;omega,by show i+1≤_;omega,this▸hs⟩ (by show l.length-(i+1)<l.length-i;omega) rfl (by simp(disch:=omega)only[go_sem];try omega) (by simp(disch:=omega)only[go_sem])
 ·simp(disch:=omega)only[go_sem,h2]
  have:i=l.length:=by omega
  subst this
  rw[List.take_length]at hm
  subst hm
  exact qn (hp:=by simp(disch:=omega)only[go_sem,zJ])
theorem aev(l:List ExV)(h0:0<l.length)(hl:l.length≤1000)(hb:gbd (-400000) 400000 l):Con Tryz.prog 93 false [.sl l.length (qz ExV.cs l)] [] (isA (.ag [.v (.bool (zJ l).s),.sl (lim (zJ l).m).length (qg (lim (zJ l).m)),.v (.int .i64 (zJ l).e)])):=by
 refine Con.frzA ?_
 refine Con.of_w (rs:=[.cell 2 90]) Tryz.func93 rfl Tryz.ntmps93 rfl ?_
 simp(disch:=omega)only[go_sem]
 refine qa (adw l h0 hl hb) ?_
 simp(disch:=omega)only[go_sem]
 exact qn
theorem adv(l:List ExV)(h0:0<l.length)(hl:l.length≤1000)(hb:gbd (-400000) 400000 l):Con Tryz.prog 175 false [.sl l.length (qz ExV.cs l),.fn 105 []] [] (isA (.ag [.v (.bool (yf l).s),.sl (lim (yf l).m).length (qg (lim (yf l).m)),.v (.int .i64 (yf l).e)])):=by
 refine Con.frzA ?_
 have hc0:=jx (l:=l) (i:=0) h0
 have q1:decide ((l.length:Int)<1)=false:=decide_eq_false (by omega)
 refine Con.of_w (rs:=[.cell 4 90]) Tryz.func175 rfl Tryz.ntmps175 rfl ?_
 simp(disch:=omega)only[go_sem,q1,hc0]
 refine⟨by omega,by omega,?_⟩
 refine qk (fun x:Nat×ExV=>[(0,.sl l.length (qz ExV.cs l)),(1,.fn 105 []),(4,.pt 1 0),(5,.pt 0 0),(6,.v (.int .i64 x.1))])
  (fun x=>[(0,.own 0 [.v (.bool x.2.s),.sl (lim x.2.m).length (qg (lim x.2.m)),.v (.int .i64 x.2.e)]),(1,.own 0 [.v (.bool false),.v (.slice none 0 0),.v (.int .i64 0)])])
  (fun x=>1≤x.1∧x.1≤l.length∧x.2=((l.take x.1).drop 1).foldl Qi (l.getD 0 ex0)) (fun x=>l.length-x.1) (1,l.getD 0 ex0) ⟨by omega,by omega,by simp⟩
  (Le.lst [(0,70000000),(1,60000000)] _ _ rfl (by simp(disch:=omega)only[go_sem]) (by simp(disch:=omega)only[go_sem])) ?_
 rintro⟨i,m⟩ ⟨h1,hi,hm⟩
 dsimp only at h1 hi hm ⊢
 have hmb:m.bd (-400000) 400000:=by
  rw[hm];exact QF KH _ _ (zL hb h0) (fun x hx=>hb x (List.mem_of_mem_take (List.mem_of_mem_drop hx)))
 simp(disch:=omega)only[go_sem]
 refine qe (fun h2=>?_) (fun h2=>?_)
 ·have hi2:i<l.length:=by omega
  have hci:=jx (l:=l) (i:=i) hi2
  have hs:Qi m (l.getD i ex0)=((l.take (i+1)).drop 1).foldl Qi (l.getD 0 ex0):=by
   rw[jM h1 hi2,List.foldl_append,←hm];rfl
  simp(disch:=omega)only[go_sem,h2]
  refine qo rfl [⟨0,[],[]⟩,⟨1,[],[]⟩,⟨2,[],[]⟩,⟨3,[],[]⟩,⟨4,[],[]⟩,⟨5,[4],[]⟩,⟨6,[],[]⟩,⟨7,[],[]⟩] (by kernel_rfl) ?_
  have hg:qs Tryz.prog 105=True:=by simp(disch:=omega)only[go_sem]
  simp(disch:=omega)only[go_sem,hci,hg]
  refine⟨by omega,by omega,?_⟩
  refine qb (Zl (l.getD i ex0) m (zL hb hi2) hmb) ?_
  simp(disch:=omega)only[go_sem]
  generalize l.getD i ex0=y at*
  refine qe (fun h3=>?_) (fun h3=>?_)
  ·simp(disch:=omega)only[go_sem,h3,hci]
   have:Qi m y=y:=if_pos h3
   refine⟨by omega,by omega,qh (i+1,y) [] ⟨by show 1≤i+1;omega,by show i+1≤_;omega,this▸hs⟩ (by show l.length-(i+1)<l.length-i;omega) rfl (by simp(disch:=omega)only[go_sem];try omega) (by simp(disch:=omega)only[go_sem])⟩
  ·simp(disch:=omega)only[go_sem,h3]
   have:Qi m y=m:=if_neg h3
   refine qh (i+1,m) [] ⟨by show 1≤i+1;omega,by show i+1≤_;omega,this▸hs⟩ (by show l.length-(i+1)<l.length-i;omega) rfl (by simp(disch:=omega)only[go_sem];try omega) (by simp(disch:=omega)only[go_sem])
 ·simp(disch:=omega)only[go_sem,h2]
  have:i=l.length:=by omega
  subst this
  rw[List.take_length]at hm
  subst hm
  exact qn (hp:=by simp(disch:=omega)only[go_sem,yf])
theorem KZ(l:List ExV)(h0:0<l.length)(hl:l.length≤1000)(hb:gbd (-400000) 400000 l):Con Tryz.prog 92 false [.sl l.length (qz ExV.cs l)] [] (isA (.ag [.v (.bool (yf l).s),.sl (lim (yf l).m).length (qg (lim (yf l).m)),.v (.int .i64 (yf l).e)])):=by
 refine Con.frzA ?_
 refine Con.of_w (rs:=[.cell 2 90]) Tryz.func92 rfl Tryz.ntmps92 rfl ?_
 simp(disch:=omega)only[go_sem]
 refine qa (adv l h0 hl hb) ?_
 simp(disch:=omega)only[go_sem]
 exact qn
end Go.Ab
namespace Go.Ab
open Go Go.Proofs
def SpV.plus(s t:SpV):SpV:=⟨s.lo.plus t.lo,s.hi.plus t.hi⟩
def jC(F:ExV→ExV→ExV)(s t:SpV):List ExV:=[F s.lo t.lo,F s.lo t.hi,F s.hi t.lo,F s.hi t.hi]
def SpV.times(s t:SpV):SpV:=⟨yf (jC ExV.times s t),zJ (jC ExV.times s t)⟩
def SpV.over(s t:SpV)(low:Int):SpV:=⟨yf (jC (fun x y=>x.over y low 3) s t),zJ (jC (fun x y=>x.over y low 2) s t)⟩
def SpV.out(s:SpV)(low:Int):SpV:=⟨s.lo.rnd low 3,s.hi.rnd low 2⟩
def SpV.fat(s:SpV)(by':ExV):SpV:=⟨s.lo.plus by'.neg,s.hi.plus by'⟩
def SpV.bd(lo hi:Int)(s:SpV):Prop:=s.lo.bd lo hi∧s.hi.bd lo hi
theorem aeq{F:ExV→ExV→ExV}{s t:SpV}{l1 h1 l2 h2 lo hi:Int}(hs:s.bd l1 h1)(ht:t.bd l2 h2)(hF:∀x y:ExV,x.bd l1 h1→y.bd l2 h2→(F x y).bd lo hi):gbd lo hi (jC F s t):=by
 intro x hx
 simp only[jC,List.mem_cons,List.not_mem_nil,or_false]at hx
 rcases hx with rfl|rfl|rfl|rfl
 ·exact hF _ _ hs.1 ht.1
 ·exact hF _ _ hs.1 ht.2
 ·exact hF _ _ hs.2 ht.1
 ·exact hF _ _ hs.2 ht.2
theorem JM(s t:SpV)(hs:s.bd (-400000) 400000)(ht:t.bd (-400000) 400000):Con Tryz.prog 170 false [.ag [.v (.bool (s).lo.s),.sl (lim (s).lo.m).length (qg (lim (s).lo.m)),.v (.int .i64 (s).lo.e),.v (.bool (s).hi.s),.sl (lim (s).hi.m).length (qg (lim (s).hi.m)),.v (.int .i64 (s).hi.e)],.ag [.v (.bool (t).lo.s),.sl (lim (t).lo.m).length (qg (lim (t).lo.m)),.v (.int .i64 (t).lo.e),.v (.bool (t).hi.s),.sl (lim (t).hi.m).length (qg (lim (t).hi.m)),.v (.int .i64 (t).hi.e)]] [] (isA (.ag [.v (.bool (s.plus t).lo.s),.sl (lim (s.plus t).lo.m).length (qg (lim (s.plus t).lo.m)),.v (.int .i64 (s.plus t).lo.e),.v (.bool (s.plus t).hi.s),.sl (lim (s.plus t).hi.m).length (qg (lim (s.plus t).hi.m)),.v (.int .i64 (s.plus t).hi.e)])):=by
 refine Con.frzA ?_
 refine Con.of_w (rs:=[.cell 4 111]) Tryz.func170 rfl Tryz.ntmps170 rfl ?_
 simp(disch:=omega)only[go_sem]
 refine qo rfl [⟨0,[],[]⟩,⟨1,[],[]⟩,⟨2,[1],[]⟩,⟨3,[1],[]⟩,⟨5,[1,3],[]⟩,⟨6,[1,3],[]⟩,⟨7,[1,3,6],[]⟩,⟨8,[1,3,6],[]⟩,⟨4,[6,8],[]⟩,⟨9,[],[]⟩,⟨10,[],[]⟩,⟨11,[],[]⟩] (by kernel_rfl) ?_
 simp(disch:=omega)only[go_sem]
 refine qa (jV s.lo t.lo hs.1 ht.1) ?_
 simp(disch:=omega)only[go_sem]
 refine qa (jV s.hi t.hi hs.2 ht.2) ?_
 simp(disch:=omega)only[go_sem]
 exact qn (hp:=by simp(disch:=omega)only[go_sem,SpV.plus])
theorem apo(s:SpV)(low:Int)(hs:s.bd (-400000) 400000)(hl: -400000≤low∧low≤400000):Con Tryz.prog 96 false [.ag [.v (.bool (s).lo.s),.sl (lim (s).lo.m).length (qg (lim (s).lo.m)),.v (.int .i64 (s).lo.e),.v (.bool (s).hi.s),.sl (lim (s).hi.m).length (qg (lim (s).hi.m)),.v (.int .i64 (s).hi.e)],.v (.int .i64 low)] [] (isA (.ag [.v (.bool (s.out low).lo.s),.sl (lim (s.out low).lo.m).length (qg (lim (s.out low).lo.m)),.v (.int .i64 (s.out low).lo.e),.v (.bool (s.out low).hi.s),.sl (lim (s.out low).hi.m).length (qg (lim (s.out low).hi.m)),.v (.int .i64 (s.out low).hi.e)])):=by
 refine Con.frzA ?_
 refine Con.of_w (rs:=[.cell 4 111]) Tryz.func96 rfl Tryz.ntmps96 rfl ?_
 simp(disch:=omega)only[go_sem]
 refine qa (YH s.lo low 3 hs.1 hl) ?_
 simp(disch:=omega)only[go_sem]
 refine qa (YH s.hi low 2 hs.2 hl) ?_
 simp(disch:=omega)only[go_sem]
 exact qn (hp:=by simp(disch:=omega)only[go_sem,SpV.out])
set_option maxRecDepth 100000 in
theorem JN(s t:SpV)(f:Nat)(caps:List AV)(F:ExV→ExV→ExV)(hf:∀x y:ExV,(x=s.lo∨x=s.hi)→(y=t.lo∨y=t.hi)→Con Tryz.prog f false (.ag [.v (.bool (x).s),.sl (lim (x).m).length (qg (lim (x).m)),.v (.int .i64 (x).e)]:: .ag [.v (.bool (y).s),.sl (lim (y).m).length (qg (lim (y).m)),.v (.int .i64 (y).e)]::caps) [] (isA (.ag [.v (.bool (F x y).s),.sl (lim (F x y).m).length (qg (lim (F x y).m)),.v (.int .i64 (F x y).e)])))(hg:qs Tryz.prog f=True)
  (hc:∀h:Nat→Ob,caps.map (qP h 6)=caps) (hc5:∀h:Nat→Ob,caps.map (qP h 5)=caps) (hn:∀ks,AllL (yi ks) caps) (hr:∀ρ,jk ρ caps=caps):
  Con Tryz.prog 301 false [.ag [.v (.bool (s).lo.s),.sl (lim (s).lo.m).length (qg (lim (s).lo.m)),.v (.int .i64 (s).lo.e),.v (.bool (s).hi.s),.sl (lim (s).hi.m).length (qg (lim (s).hi.m)),.v (.int .i64 (s).hi.e)],.ag [.v (.bool (t).lo.s),.sl (lim (t).lo.m).length (qg (lim (t).lo.m)),.v (.int .i64 (t).lo.e),.v (.bool (t).hi.s),.sl (lim (t).hi.m).length (qg (lim (t).hi.m)),.v (.int .i64 (t).hi.e)],.fn f caps] [] (isA (.sl 4 (qz ExV.cs (jC F s t)))):=by
 refine Con.frzA ?_
 refine Con.of_aw Tryz.func301 rfl Tryz.ntmps301 (by simp) (by simp) (by simp) (W.sound ?_)
 show @W Tryz.prog 32 ⟨_⟩ ⟨fun x σ=>@za _ _ _ ⟨_⟩ _ ⟨_⟩ x σ⟩ _ _
 simp(disch:=omega)only[go_sem,hg]
 refine qo rfl [⟨0,[],[]⟩,⟨1,[],[]⟩,⟨2,[],[]⟩,⟨3,[2],[]⟩,⟨4,[2],[]⟩,⟨6,[2,4],[]⟩,⟨7,[2,4],[]⟩,⟨8,[2,4],[]⟩,⟨9,[2,4,8],[]⟩,⟨10,[2,4,8],[]⟩,⟨12,[2,4,8,10],[]⟩,⟨13,[2,4,8,10],[]⟩,⟨14,[2,4,8,10],[]⟩,⟨15,[2,4,8,10,14],[]⟩,⟨16,[2,4,8,10,14],[]⟩,⟨18,[2,4,8,10,14,16],[]⟩,⟨19,[2,4,8,10,14,16],[]⟩,⟨20,[2,4,8,10,14,16],[]⟩,⟨21,[2,4,8,10,14,16,20],[]⟩,⟨22,[2,4,8,10,14,16,20],[]⟩,⟨5,[8,10,14,16,20,22],[]⟩,⟨11,[14,16,20,22],[]⟩,⟨17,[20,22],[]⟩,⟨23,[],[]⟩,⟨24,[],[]⟩,⟨25,[],[]⟩] (by kernel_rfl) ?_
 simp(disch:=omega)only[go_sem,hg]
 refine qF (hf s.lo t.lo (.inl rfl) (.inl rfl)) (by simp(disch:=omega)only[go_sem,hc,hc5]) ?_
 rintro r hs ⟨rfl,rfl,_⟩
 refine⟨by simp[qS],?_⟩
 simp(disch:=omega)only[go_sem,hg]
 refine qF (hf s.lo t.hi (.inl rfl) (.inr rfl)) (by simp(disch:=omega)only[go_sem,hc,hc5]) ?_
 rintro r hs ⟨rfl,rfl,_⟩
 refine⟨by simp[qS],?_⟩
 simp(disch:=omega)only[go_sem,hg]
 refine qF (hf s.hi t.lo (.inr rfl) (.inl rfl)) (by simp(disch:=omega)only[go_sem,hc,hc5]) ?_
 rintro r hs ⟨rfl,rfl,_⟩
 refine⟨by simp[qS],?_⟩
 simp(disch:=omega)only[go_sem,hg]
 refine qF (hf s.hi t.hi (.inr rfl) (.inr rfl)) (by simp(disch:=omega)only[go_sem,hc,hc5]) ?_
 rintro r hs ⟨rfl,rfl,_⟩
 refine⟨by simp[qS],?_⟩
 simp(disch:=omega)only[go_sem]
 have hrow:qz ExV.cs (jC F s t)=[.v (.bool (F s.lo t.lo).s),.sl (lim (F s.lo t.lo).m).length (qg (lim (F s.lo t.lo).m)),.v (.int .i64 (F s.lo t.lo).e),.v (.bool (F s.lo t.hi).s),.sl (lim (F s.lo t.hi).m).length (qg (lim (F s.lo t.hi).m)),.v (.int .i64 (F s.lo t.hi).e),
   .v (.bool (F s.hi t.lo).s),.sl (lim (F s.hi t.lo).m).length (qg (lim (F s.hi t.lo).m)),.v (.int .i64 (F s.hi t.lo).e),.v (.bool (F s.hi t.hi).s),.sl (lim (F s.hi t.hi).m).length (qg (lim (F s.hi t.hi).m)),.v (.int .i64 (F s.hi t.hi).e)]:=rfl
 rw[←hrow]
 refine qj [(0,330000000)] [.own 3 (qz ExV.cs (jC F s t))] [] [.rf 0 0 4] rfl (by simp(disch:=omega)only[go_sem]) (by simp(disch:=omega)only[go_sem]) (by simp) (by simp) ?_
 show qP _ 6 _=_
 simp(disch:=omega)only[go_sem,zv,zO (l:=jC F s t) (k:=4) rfl]
theorem ads(s t:SpV)(hs:s.bd (-200000) 200000)(ht:t.bd (-200000) 200000):Con Tryz.prog 273 false [.ag [.v (.bool (s).lo.s),.sl (lim (s).lo.m).length (qg (lim (s).lo.m)),.v (.int .i64 (s).lo.e),.v (.bool (s).hi.s),.sl (lim (s).hi.m).length (qg (lim (s).hi.m)),.v (.int .i64 (s).hi.e)],.ag [.v (.bool (t).lo.s),.sl (lim (t).lo.m).length (qg (lim (t).lo.m)),.v (.int .i64 (t).lo.e),.v (.bool (t).hi.s),.sl (lim (t).hi.m).length (qg (lim (t).hi.m)),.v (.int .i64 (t).hi.e)]] [] (isA (.ag [.v (.bool (s.times t).lo.s),.sl (lim (s.times t).lo.m).length (qg (lim (s.times t).lo.m)),.v (.int .i64 (s.times t).lo.e),.v (.bool (s.times t).hi.s),.sl (lim (s.times t).hi.m).length (qg (lim (s.times t).hi.m)),.v (.int .i64 (s.times t).hi.e)])):=by
 refine Con.frzA ?_
 have hm:∀x:ExV,x.bd (-200000) 200000→x.bd (-400000) 400000:=fun x h=>h.mono (by omega) (by omega)
 have he:=aeq (F:=ExV.times) (lo:= -400000) (hi:=400000) hs ht (fun x y hx hy=>(ExV.times_bd hx hy).mono (by omega) (by omega))
 have ce:=JN s t 168 [] ExV.times (fun x y hx hy=>by
  refine JK x y (hm x ?_) (hm y ?_)
  ·rcases hx with rfl|rfl
   ·exact hs.1
   ·exact hs.2
  ·rcases hy with rfl|rfl
   ·exact ht.1
   ·exact ht.2) (by simp(disch:=omega)only[go_sem]) (fun h=>rfl) (fun h=>rfl) (fun ks=>by simp(disch:=omega)only[go_sem]) (fun ρ=>rfl)
 unfold SpV.times
 generalize hE:jC ExV.times s t=E at*
 have hE4:E.length=4:=by rw[←hE];rfl
 have cl:=KZ E (by omega) (by omega) he
 have cm:=aev E (by omega) (by omega) he
 rw[hE4]at cl cm
 refine Con.of_w (rs:=[.cell 4 111]) Tryz.func273 rfl Tryz.ntmps273 rfl ?_
 simp(disch:=omega)only[go_sem]
 refine qa (ce) ?_
 simp(disch:=omega)only[go_sem]
 refine qa (cl) ?_
 simp(disch:=omega)only[go_sem]
 refine qa (cm) ?_
 simp(disch:=omega)only[go_sem]
 exact qn
end Go.Ab
namespace Go.Ab
open Go
section
variable {P:Program}{N:Nat}{σ:St}{Q:Exit→St→Prop}
theorem Le.nilC(m o:Nat){zo:Nat}{cs:List AV}(hm:σ.hp m=.own zo cs)(ho:cs[o]? =some (.v (.slice none 0 0))):
  Le σ ⟨σ.env,upd σ.hp m (.own zo (cs.set o (.sl 0 [])))⟩:=by
 intro L w0 R0 N a w hi
 obtain⟨R,ι,hR,h⟩:=hi.inv
 obtain⟨hol,hoe⟩:=List.getElem?_eq_some_iff.1 ho
 have key:Inv L w0 R ι w a.tmps ⟨σ.env,upd σ.hp m (.own zo (cs.set o (.sl 0 [])))⟩:=by
  cases hB:ι m with
  |none=>
   have:=h.hp.ok m
   rw[hm,hB]at this
   have e:cs=[]:=this
   rw[e]at hol;simp at hol
  |some B=>
   obtain⟨c,T,lo,hi',h1,h2,h3,h4,h5,h6⟩:=jq h hm hB
   refine h.turn hm hB rfl rfl rfl rfl (fun _ _=>rfl) ⟨c,T,lo,hi',h1,h2,h3,h4,by rw[List.length_set];exact h5,fun i hi2=>?_⟩ (AllL.of_get fun i hi2=>?_)
   ·rw[List.length_set]at hi2
    rw[List.getElem_set]
    by_cases e:o=i
    ·subst e
     rw[if_pos rfl]
     have:=h6 o hi2
     rw[hoe]at this
     rw[this.v_inv]
     exact .fr _ _ (.sl none 0 0 [] (fun _=>undef) 0 0 (Nat.le_refl _) (fun h=>absurd h (by simp)) (fun i h=>absurd h (by simp)) (fun i h=>absurd h (by simp)))
    ·rw[if_neg e];exact h6 i hi2
   ·rw[List.length_set]at hi2
    rw[List.getElem_set]
    split
    ·simp[AV.All]
    ·exact(h.hp.men m zo cs hm).get i hi2
 exact⟨hi.df,hi.sz,R,ι,hR,key⟩
theorem Le.frz(m:Nat){z:Nat}{ks:List AV}(hm:σ.hp m=.own z ks)(hl:jY m=false)(hn:AllL (fun _=>False) ks):
  Le σ ⟨fun s=>(σ.env s).fz m z ks,fun k=>if k=m then .dead else(σ.hp k).fz m z ks⟩:=by
 have:=Le.freeze m hm hl hn
 have e:(fun k=>bif Nat.beq k m then Ob.dead else(σ.hp k).fz m z ks)=fun k=>if k=m then Ob.dead else(σ.hp k).fz m z ks:=by
  funext k
  by_cases h:k=m
  ·subst h;rw[Nat.beq_refl,cond_true,if_pos rfl]
  ·rw[aeg h,cond_false,if_neg h]
 rwa[e]at this
theorem AW.seqLe{x y:Code}{E:List (Nat×AV)}{H:List (Nat×Ob)}(hx:AW P N x (fun ex σ'=>ex=.normal∧Le σ' ⟨ofL .un E,ofH H⟩) σ)(hy:AW P N y Q ⟨ofL .un E,ofH H⟩):AW P N (.seq x y) Q σ:=
 AW.seq (hx.mono fun ex σ' ⟨he,hl⟩=>by subst he;exact AW.le hl hy)
end
section
variable {m z:Nat}{ks:List AV}
theorem aYB:AV.fz m z ks .un=.un:=ID rfl
theorem bc3{x:Value}:AV.fz m z ks (.v x)=.v x:=ID rfl
theorem aYD{n:Nat}{cs:List AV}:AV.fz m z ks (.sl n cs)=.sl n cs:=ID rfl
theorem aYG{o:Nat}{cs:List AV}:AV.fz m z ks (.fp cs o)=.fp cs o:=ID rfl
theorem aYF{nm o:Nat}:AV.fz m z ks (.pt nm o)=if nm=m then .fp ks o else .pt nm o:=by
 by_cases h:nm=m
 ·subst h;simp[AV.fz,Nat.beq_refl]
 ·simp[AV.fz,aeg h,h]
theorem aYE{nm o n:Nat}:AV.fz m z ks (.rf nm o n)=if nm=m then .sl n (cut ks o (n*z))else .rf nm o n:=by
 by_cases h:nm=m
 ·subst h;simp[AV.fz,Nat.beq_refl]
 ·simp[AV.fz,aeg h,h]
theorem aYI{cs:List AV}:AV.fz m z ks (.ag cs)=.ag (fzL m z ks cs):=ID rfl
theorem aYC{cs:List AV}:AV.fz m z ks (.tu cs)=.tu (fzL m z ks cs):=ID rfl
theorem aYH{f:Nat}{cs:List AV}:AV.fz m z ks (.fn f cs)=.fn f (fzL m z ks cs):=ID rfl
theorem aJ2:fzL m z ks []=[]:=ID rfl
theorem aBd{a:AV}{r:List AV}:fzL m z ks (a::r)=a.fz m z ks::fzL m z ks r:=ID rfl
theorem aLT{y:Nat}{cs:List AV}:Ob.fz m z ks (.own y cs)=.own y (fzL m z ks cs):=ID rfl
theorem aBc{xs:List Int}:fzL m z ks (qg xs)=qg xs:=by simp[jI,qg,AV.fz]
end
section
variable {h:Nat→Ob}{ix:Nat→Option Nat}{k:Nat}
theorem aM6{f:Nat}{cs:List AV}:snp h ix (k+1) (.fn f cs)=.fn f (cs.map (snp h ix k)):=ID rfl
theorem aM7{cs:List AV}:snp h ix (k+1) (.ag cs)=.ag (cs.map (snp h ix k)):=ID rfl
theorem aM5{o:Nat}{cs:List AV}:snp h ix (k+1) (.fp cs o)=.fp cs o:=ID rfl
end
attribute [go_sem] aM6 aM7 aM5
attribute [go_sem] aYB bc3 aYD aYG aYF aYE aYI aYC aYH aJ2 aBd aLT aBc
end Go.Ab
namespace Go.Ab
open Go Go.Proofs
theorem Qj{n i j:Nat}(hi:i<n)(hj:j<n):i*n+j<n*n:=by
 have:(i+1)*n≤n*n:=Nat.mul_le_mul_right n hi
 rw[Nat.add_mul,Nat.one_mul]at this;omega
theorem anH{n:Nat}(h:n≤4):n*n≤16:=Nat.mul_le_mul h h
theorem aep{lo hi:Int}(h1:lo≤0)(h2:0≤hi):ex0.bd lo hi:=⟨fun _=>rfl,h1,by show((bl 0:Nat):Int)+0≤hi;rw[y0];omega⟩
theorem aYA{n:Nat}{g:Nat→Nat→ExV}{lo hi:Int}(h:∀i j,i<n→j<n→(g i j).bd lo hi):gbd lo hi (gl n g (n*n)):=by
 intro x hx
 simp only[gl,List.mem_map,List.mem_range]at hx
 obtain⟨t,ht,rfl⟩:=hx
 have hn:0<n:=by
  rcases Nat.eq_zero_or_pos n with e|e
  ·subst e;simp at ht
  ·exact e
 exact h _ _ (Nat.div_lt_of_lt_mul ht) (Nat.mod_lt _ hn)
theorem yX(n:Nat)(f:Nat)(caps:List AV)(g:Nat→Nat→ExV)(hn0:n≤4)(hf:∀i j:Nat,i<n→j<n→Con Tryz.prog f false (.v (.int .i64 i):: .v (.int .i64 j)::caps) [] (isA (.ag [.v (.bool (g i j).s),.sl (lim (g i j).m).length (qg (lim (g i j).m)),.v (.int .i64 (g i j).e)])))(hg:qs Tryz.prog f=True)
  (hc:∀h:Nat→Ob,caps.map (qP h 6)=caps) (hc5:∀h:Nat→Ob,caps.map (qP h 5)=caps) (hn:∀ks,AllL (yi ks) caps) (hr:∀ρ,jk ρ caps=caps):
  Con Tryz.prog 164 false [.v (.int .i64 n),.fn f caps] [] (isA (.ag [.v (.int .i64 (n)),.sl (gl n g (n*n)).length (qz ExV.cs (gl n g (n*n)))])):=by
 rw[ZP];exact ai3 n f caps g hn0 hf hg hc hc5 hn hr
def bc2(n:Nat)(l l':List ExV):List ExV:=gl n (fun i j=>(l.getD (i*n+j) ex0).plus (l'.getD (i*n+j) ex0)) (n*n)
def baN(n:Nat)(l l':List ExV):List ExV:=gl n (fun i j=>(l.getD (i*n+j) ex0).plus (l'.getD (i*n+j) ex0).neg) (n*n)
def yp(n:Nat)(l:List ExV)(y:ExV):List ExV:=gl n (fun i j=>(l.getD (i*n+j) ex0).times y) (n*n)
theorem K5(n:Nat)(l:List ExV)(y:ExV)(i j:Nat)(hn:n≤4)(hi:i<n)(hj:j<n)(hl:l.length=n*n)(hb:gbd (-400000) 400000 l)(hy:y.bd (-400000) 400000):
  Con Tryz.prog 169 false [.v (.int .i64 i),.v (.int .i64 j),.fp [.v (.int .i64 n),.sl l.length (qz ExV.cs l)] 0,.fp [.v (.bool y.s),.sl (lim y.m).length (qg (lim y.m)),.v (.int .i64 y.e)] 0] [] (isA (.ag [.v (.bool ((l.getD (i*n+j) ex0).times y).s),.sl (lim ((l.getD (i*n+j) ex0).times y).m).length (qg (lim ((l.getD (i*n+j) ex0).times y).m)),.v (.int .i64 ((l.getD (i*n+j) ex0).times y).e)])):=by
 refine Con.frzA ?_
 have hx:=Qj hi hj
 have hq:=anH hn
 have c1:=ap1 n l i j (by omega) (by omega) (by omega) (by omega) (by omega)
 have b1:=zL hb (show i*n+j<l.length by omega)
 generalize l.getD (i*n+j) ex0=x at*
 refine Con.of_w (rs:=[.cell 6 90]) Tryz.func169 rfl Tryz.ntmps169 rfl ?_
 simp(disch:=omega)only[go_sem]
 refine qo rfl [⟨0,[],[]⟩,⟨1,[0],[]⟩,⟨2,[0],[]⟩,⟨4,[0],[]⟩,⟨3,[4],[]⟩,⟨5,[],[]⟩,⟨6,[],[]⟩] (by kernel_rfl) ?_
 simp(disch:=omega)only[go_sem]
 refine qa (c1) ?_
 simp(disch:=omega)only[go_sem]
 refine qa (JK x y b1 hy) ?_
 simp(disch:=omega)only[go_sem]
 exact qn
theorem adC(n:Nat)(l:List ExV)(y:ExV)(hn:n≤4)(hl:l.length=n*n)(hb:gbd (-400000) 400000 l)(hy:y.bd (-400000) 400000):Con Tryz.prog 83 false [.ag [.v (.int .i64 (n)),.sl (l).length (qz ExV.cs (l))],.ag [.v (.bool (y).s),.sl (lim (y).m).length (qg (lim (y).m)),.v (.int .i64 (y).e)]] [] (isA (.ag [.v (.int .i64 (n)),.sl (yp n l y).length (qz ExV.cs (yp n l y))])):=by
 refine Con.frzA ?_
 have c:=yX n 169 [.fp [.v (.int .i64 n),.sl l.length (qz ExV.cs l)] 0,.fp [.v (.bool y.s),.sl (lim y.m).length (qg (lim y.m)),.v (.int .i64 y.e)] 0] (fun i j=>(l.getD (i*n+j) ex0).times y) hn (fun i j hi hj=>K5 n l y i j hn hi hj hl hb hy) (by simp(disch:=omega)only[go_sem]) (fun h=>rfl) (fun h=>rfl) (fun ks=>by simp(disch:=omega)only[go_sem]) (fun ρ=>rfl)
 change Con _ _ _ _ _ (isA (.ag [.v (.int .i64 (n)),.sl (yp n l y).length (qz ExV.cs (yp n l y))]))at c
 refine Con.of_aw Tryz.func83 rfl Tryz.ntmps83 (by simp) (by simp) (by simp) (AW.seqLe (E:=[(2,.fp [.v (.int .i64 n),.sl l.length (qz ExV.cs l)] 0),(3,.fp [.v (.bool y.s),.sl (lim y.m).length (qg (lim y.m)),.v (.int .i64 y.e)] 0),(4,.pt 0 0)]) (H:=[(0,.own 0 [.v (.int .i64 0),.v (.slice none 0 0)])]) (W.sound ?_) (W.sound ?_))
 ·show @W Tryz.prog 9 ⟨_⟩ ⟨_⟩ _ _
  simp(disch:=omega)only[go_sem]
  exact(Le.frz 40000000 (z:=0) (ks:=[.v (.int .i64 n),.sl l.length (qz ExV.cs l)]) (by simp(disch:=omega)only[go_sem]) rfl (by simp(disch:=omega)only[go_sem])).trans ((Le.frz 50000000 (z:=0) (ks:=[.v (.bool y.s),.sl (lim y.m).length (qg (lim y.m)),.v (.int .i64 y.e)]) (by simp(disch:=omega)only[go_sem]) rfl (by simp(disch:=omega)only[go_sem])).trans (Le.lst [(0,60000000)] _ _ rfl (by simp(disch:=omega)only[go_sem]) (by simp(disch:=omega)only[go_sem])))
 show @W Tryz.prog 9 ⟨_⟩ ⟨fun x σ=>@za _ _ _ ⟨_⟩ _ ⟨_⟩ x σ⟩ _ _
 simp(disch:=omega)only[go_sem]
 refine qa (c) ?_
 simp(disch:=omega)only[go_sem]
 exact qn
def aJ1(n:Nat)(l:List ExV)(low mode:Int):List ExV:=gl n (fun i j=>(l.getD (i*n+j) ex0).rnd low mode) (n*n)
theorem apS(n:Nat)(l:List ExV)(low mode:Int)(i j:Nat)(hn:n≤4)(hi:i<n)(hj:j<n)(hl:l.length=n*n)(hb:gbd (-400000) 400000 l)(hlo: -400000≤low∧low≤400000):
  Con Tryz.prog 231 false [.v (.int .i64 i),.v (.int .i64 j),.fp [.v (.int .i64 n),.sl l.length (qz ExV.cs l)] 0,.fp [.v (.int .i64 low)] 0,.fp [.v (.int .i64 mode)] 0] [] (isA (.ag [.v (.bool ((l.getD (i*n+j) ex0).rnd low mode).s),.sl (lim ((l.getD (i*n+j) ex0).rnd low mode).m).length (qg (lim ((l.getD (i*n+j) ex0).rnd low mode).m)),.v (.int .i64 ((l.getD (i*n+j) ex0).rnd low mode).e)])):=by
 refine Con.frzA ?_
 have hx:=Qj hi hj
 have hq:=anH hn
 have c1:=ap1 n l i j (by omega) (by omega) (by omega) (by omega) (by omega)
 have b1:=zL hb (show i*n+j<l.length by omega)
 generalize l.getD (i*n+j) ex0=x at*
 refine Con.of_w (rs:=[.cell 7 90]) Tryz.func231 rfl Tryz.ntmps231 rfl ?_
 simp(disch:=omega)only[go_sem]
 refine qo rfl [⟨0,[],[]⟩,⟨1,[0],[]⟩,⟨2,[0],[]⟩,⟨4,[0],[]⟩,⟨5,[0,4],[]⟩,⟨10,[0,4,5],[]⟩,⟨3,[4,5],[100000000]⟩,⟨6,[],[100000000]⟩,⟨7,[],[100000000]⟩,⟨8,[],[100000000]⟩,⟨9,[],[100000000]⟩,⟨11,[],[]⟩,⟨12,[],[]⟩] (by kernel_rfl) ?_
 simp(disch:=omega)only[go_sem]
 refine qa (c1) ?_
 simp(disch:=omega)only[go_sem]
 refine qa (YH x low mode b1 hlo) ?_
 simp(disch:=omega)only[go_sem]
 exact qn
theorem aB8(n:Nat)(l:List ExV)(low mode:Int)(hn:n≤4)(hl:l.length=n*n)(hb:gbd (-400000) 400000 l)(hlo: -400000≤low∧low≤400000):Con Tryz.prog 151 false [.ag [.v (.int .i64 (n)),.sl (l).length (qz ExV.cs (l))],.v (.int .i64 low),.v (.int .i64 mode)] [] (isA (.ag [.v (.int .i64 (n)),.sl (aJ1 n l low mode).length (qz ExV.cs (aJ1 n l low mode))])):=by
 refine Con.frzA ?_
 have c:=yX n 231 [.fp [.v (.int .i64 n),.sl l.length (qz ExV.cs l)] 0,.fp [.v (.int .i64 low)] 0,.fp [.v (.int .i64 mode)] 0] (fun i j=>(l.getD (i*n+j) ex0).rnd low mode) hn (fun i j hi hj=>apS n l low mode i j hn hi hj hl hb hlo) (by simp(disch:=omega)only[go_sem]) (fun h=>rfl) (fun h=>rfl) (fun ks=>by simp(disch:=omega)only[go_sem]) (fun ρ=>rfl)
 change Con _ _ _ _ _ (isA (.ag [.v (.int .i64 (n)),.sl (aJ1 n l low mode).length (qz ExV.cs (aJ1 n l low mode))]))at c
 refine Con.of_aw Tryz.func151 rfl Tryz.ntmps151 (by simp) (by simp) (by simp) (AW.seqLe (E:=[(3,.fp [.v (.int .i64 n),.sl l.length (qz ExV.cs l)] 0),(4,.fp [.v (.int .i64 low)] 0),(5,.fp [.v (.int .i64 mode)] 0),(6,.pt 0 0)]) (H:=[(0,.own 0 [.v (.int .i64 0),.v (.slice none 0 0)])]) (W.sound ?_) (W.sound ?_))
 ·show @W Tryz.prog 11 ⟨_⟩ ⟨_⟩ _ _
  simp(disch:=omega)only[go_sem]
  exact(Le.frz 50000000 (z:=0) (ks:=[.v (.int .i64 n),.sl l.length (qz ExV.cs l)]) (by simp(disch:=omega)only[go_sem]) rfl (by simp(disch:=omega)only[go_sem])).trans ((Le.frz 60000000 (z:=0) (ks:=[.v (.int .i64 low)]) (by simp(disch:=omega)only[go_sem]) rfl (by simp(disch:=omega)only[go_sem])).trans ((Le.frz 70000000 (z:=0) (ks:=[.v (.int .i64 mode)]) (by simp(disch:=omega)only[go_sem]) rfl (by simp(disch:=omega)only[go_sem])).trans (Le.lst [(0,80000000)] _ _ rfl (by simp(disch:=omega)only[go_sem]) (by simp(disch:=omega)only[go_sem]))))
 show @W Tryz.prog 11 ⟨_⟩ ⟨fun x σ=>@za _ _ _ ⟨_⟩ _ ⟨_⟩ x σ⟩ _ _
 simp(disch:=omega)only[go_sem]
 refine qa (c) ?_
 simp(disch:=omega)only[go_sem]
 exact qn
def ex1:ExV:=⟨false,1,0⟩
theorem YJ:Con Tryz.prog 181 false [] [] (isA (.ag [.v (.bool (ex1).s),.sl (lim (ex1).m).length (qg (lim (ex1).m)),.v (.int .i64 (ex1).e)])):=by
 refine Con.frzA ?_
 refine Con.of_w (rs:=[.cell 0 90]) Tryz.func181 rfl Tryz.ntmps181 rfl ?_
 simp(disch:=omega)only[go_sem]
 refine qa (zw 1 (by omega)) ?_
 simp(disch:=omega)only[go_sem]
 exact qn (hp:=by simp(disch:=omega)only[go_sem,ex1])
def idF(i j:Nat):ExV:=if i=j then ex1 else ex0
def gId(n:Nat):List ExV:=gl n idF (n*n)
theorem aK9(i j:Nat):Con Tryz.prog 180 false [.v (.int .i64 i),.v (.int .i64 j)] [] (isA (.ag [.v (.bool (idF i j).s),.sl (lim (idF i j).m).length (qg (lim (idF i j).m)),.v (.int .i64 (idF i j).e)])):=by
 refine Con.frzA ?_
 refine Con.of_w (rs:=[.cell 4 90]) Tryz.func180 rfl Tryz.ntmps180 rfl ?_
 simp(disch:=omega)only[go_sem]
 refine qe (fun h1=>?_) (fun h1=>?_)
 ·simp(disch:=omega)only[go_sem,h1]
  have e:idF i j=ex1:=if_pos (by omega)
  rw[e]
  refine qa (YJ) ?_
  simp(disch:=omega)only[go_sem]
  exact qn
 ·simp(disch:=omega)only[go_sem,h1]
  have e:idF i j=ex0:=if_neg (by omega)
  rw[e]
  exact qn (hp:=by simp(disch:=omega)only[go_sem,ex0,qm,List.length_nil,jn])
theorem aLa(n:Nat)(hn:n≤4):Con Tryz.prog 101 false [.v (.int .i64 n)] [] (isA (.ag [.v (.int .i64 (n)),.sl (gId n).length (qz ExV.cs (gId n))])):=by
 refine Con.frzA ?_
 have c:=yX n 180 [] idF hn (fun i j hi hj=>aK9 i j) (by simp(disch:=omega)only[go_sem]) (fun h=>rfl) (fun h=>rfl) (fun ks=>by simp(disch:=omega)only[go_sem]) (fun ρ=>rfl)
 change Con _ _ _ _ _ (isA (.ag [.v (.int .i64 (n)),.sl (gId n).length (qz ExV.cs (gId n))]))at c
 refine Con.of_w (rs:=[.cell 2 102]) Tryz.func101 rfl Tryz.ntmps101 rfl ?_
 simp(disch:=omega)only[go_sem]
 refine qa (c) ?_
 simp(disch:=omega)only[go_sem]
 exact qn
theorem aen{lo hi:Int}(g:Nat→ExV)(h0:lo≤0∧0≤hi):∀k:Nat,(∀t,t<k→(g t).bd lo hi)→((List.range k).foldl (fun s t=>s.plus (g t)) ex0).bd lo (hi+k)
 |0,_=>aep h0.1 (by simpa using h0.2)
 |k+1,h=>by
  rw[List.range_succ,List.foldl_append,List.foldl_cons,List.foldl_nil]
  have:=ExV.plus_bd (aen g h0 k fun t ht=>h t (by omega)) ((h k (by omega)).mono (Int.le_refl _) (show hi≤hi+k by omega))
  exact this.mono (Int.le_refl _) (by omega)
def baQ(n:Nat)(l l':List ExV)(i j k:Nat):ExV:=(List.range k).foldl (fun s t=>s.plus ((l.getD (i*n+t) ex0).times (l'.getD (t*n+j) ex0))) ex0
def baM(n:Nat)(l l':List ExV):List ExV:=gl n (fun i j=>baQ n l l' i j n) (n*n)
theorem aSi(n:Nat)(l l':List ExV)(i j:Nat):baQ n l l' i j 0=ex0:=rfl
end Go.Ab
namespace Go.Ab
open Go Go.Proofs
theorem yQ{l:List SpV}{i:Nat}(hi:i<l.length):cut (qz SpV.cs l) (i*6) 6=[.v (.bool (l.getD i sp0).lo.s),.sl (lim (l.getD i sp0).lo.m).length (qg (lim (l.getD i sp0).lo.m)),.v (.int .i64 (l.getD i sp0).lo.e),.v (.bool (l.getD i sp0).hi.s),.sl (lim (l.getD i sp0).hi.m).length (qg (lim (l.getD i sp0).hi.m)),.v (.int .i64 (l.getD i sp0).hi.e)]:=ac1 (l:=l) aDI hi sp0
theorem jc{l:List SpV}{k:Nat}(h:l.length=k):cut (qz SpV.cs l) 0 (k*6)=qz SpV.cs l:=by subst h;exact aId
theorem YC:qz ExV.cs []=[]:=QA
theorem Zx:qz SpV.cs []=[]:=QA
def mpT{X Y:Type}(l:List X)(F:X→Y)(i:Nat):List Y:=(l.take i).map F
theorem yy{X Y:Type}{l:List X}{F:X→Y}:mpT l F 0=[]:=rfl
theorem ji{X Y:Type}{l:List X}{F:X→Y}{i:Nat}(h:i≤l.length):(mpT l F i).length=i:=by unfold mpT;rw[List.length_map,List.length_take];omega
theorem yz{X Y:Type}{l:List X}{F:X→Y}{i:Nat}(d:X)(h:i<l.length):mpT l F (i+1)=mpT l F i++[F (l.getD i d)]:=by
 unfold mpT
 rw[List.take_add_one,List.getElem?_eq_getElem h,List.map_append,List.getD_eq_getElem?_getD,List.getElem?_eq_getElem h];rfl
theorem QB{X Y:Type}{l:List X}{F:X→Y}:mpT l F l.length=l.map F:=by unfold mpT;rw[List.take_length]
def sbd(lo hi:Int)(l:List SpV):Prop:=∀x∈l,x.bd lo hi
theorem jG{lo hi:Int}{l:List SpV}{i:Nat}(h:sbd lo hi l)(hi':i<l.length):(l.getD i sp0).bd lo hi:=by
 refine h _ ?_
 rw[List.getD_eq_getElem?_getD,List.getElem?_eq_getElem hi'];exact List.getElem_mem _
set_option maxRecDepth 100000 in
theorem ZZ(n:Int)(l:List ExV)(hl:l.length≤1000):Con Tryz.prog 77 false [.ag [.v (.int .i64 n),.sl l.length (qz ExV.cs l)]] [] (isA (.ag [.v (.int .i64 n),.sl l.length (qz ExV.cs l)])):=by
 refine Con.frzA ?_
 refine Con.of_aw Tryz.func77 rfl Tryz.ntmps77 (by simp) (by simp) (by simp) (W.sound ?_)
 show @W Tryz.prog 25 ⟨_⟩ ⟨fun x σ=>@za _ _ _ ⟨_⟩ _ ⟨_⟩ x σ⟩ _ _
 simp(disch:=omega)only[go_sem]
 refine qk (fun i:Nat=>[(10,.sl l.length (qz ExV.cs l)),(11,.v (.int .i64 l.length)),(12,.v (.int .i64 i)),(3,.pt 0 0),(2,.pt 2 0)])
  (fun i=>[(0,.own 0 [.v (.int .i64 n),.rf 1 0 i]),(1,.own 3 (qz ExV.cs (mpT l (id) i))),(2,.own 0 [.v (.int .i64 0),.v (.slice none 0 0)])]) (fun i=>i≤l.length) (fun i=>l.length-i) 0 (by omega)
  ((Le.ghostC 50000000 1 1 3 (zo:=0) (cs:=[.v (.int .i64 n),.v (.slice none 0 0)]) (by simp(disch:=omega)only[go_sem]) rfl (by simp(disch:=omega)only[go_sem])).trans (Le.lst [(0,50000000),(2,40000000)] _ _ rfl (by simp(disch:=omega)only[go_sem]) (by simp(disch:=omega)only[go_sem,yy,YC,List.set_cons_succ,List.set_cons_zero]))) ?_
 intro i hi
 simp(disch:=omega)only[go_sem]
 refine qe (fun h1=>?_) (fun h1=>?_)
 ·have hi2:i<l.length:=by omega
  have hci:=jx hi2
  have hcut:=zO (ji (F:=id) hi)
  have hml:=ji (F:=id) hi
  have hs:=yz (F:=id) ex0 hi2
  generalize l.getD i ex0=x at*
  simp(disch:=omega)only[go_sem,h1,hci]
  refine⟨by omega,by omega,?_⟩
  refine qo rfl [⟨0,[],[]⟩,⟨1,[],[]⟩,⟨2,[1],[]⟩,⟨3,[1],[]⟩,⟨4,[1],[]⟩,⟨5,[],[]⟩,⟨6,[],[]⟩,⟨7,[],[]⟩] (by kernel_rfl) ?_
  simp(disch:=omega)only[go_sem]
  refine qa (yZ x.s x.m x.e) ?_
  simp(disch:=omega)only[go_sem]
  simp(disch:=omega)only[go_sem,hcut,Qp]
  refine⟨⟨by rw[hml];exact Nat.le_refl _,by omega⟩,qh (i+1) [(1,230000000)] (by show i+1≤_;omega) (by show l.length-(i+1)<l.length-i;omega) rfl (by simp(disch:=omega)only[go_sem];try omega) (by simp(disch:=omega)only[go_sem,hs,id_eq])⟩
 ·simp(disch:=omega)only[go_sem,h1]
  obtain rfl:i=l.length:=by omega
  refine qj [(0,1)] [.own 3 (qz ExV.cs (mpT l (id) l.length))] [] [.ag [.v (.int .i64 n),.rf 0 0 l.length]] rfl (by simp(disch:=omega)only[go_sem]) (by simp(disch:=omega)only[go_sem]) (by simp) (by simp) ?_
  show qP _ 6 _=_
  simp(disch:=omega)only[go_sem,zv,QB,zO (l:=l.map (id)) (k:=l.length) (List.length_map ..),List.map_id,zO (l:=l) (k:=l.length) rfl]
def ptS(x:ExV):SpV:=⟨x,x⟩
set_option maxRecDepth 100000 in
theorem Z5(n:Nat)(l:List ExV)(hl:l.length≤1000):Con Tryz.prog 223 false [.ag [.v (.int .i64 (n)),.sl (l).length (qz ExV.cs (l))]] [] (isA (.ag [.v (.int .i64 (n)),.sl (l.map ptS).length (qz SpV.cs (l.map ptS))])):=by
 refine Con.frzA ?_
 refine Con.of_aw Tryz.func223 rfl Tryz.ntmps223 (by simp) (by simp) (by simp) (W.sound ?_)
 show @W Tryz.prog 26 ⟨_⟩ ⟨fun x σ=>@za _ _ _ ⟨_⟩ _ ⟨_⟩ x σ⟩ _ _
 simp(disch:=omega)only[go_sem]
 refine qk (fun i:Nat=>[(10,.sl l.length (qz ExV.cs l)),(11,.v (.int .i64 l.length)),(12,.v (.int .i64 i)),(3,.pt 0 0),(2,.pt 2 0)])
  (fun i=>[(0,.own 0 [.v (.int .i64 n),.rf 1 0 i]),(1,.own 6 (qz SpV.cs (mpT l (ptS) i))),(2,.own 0 [.v (.int .i64 0),.v (.slice none 0 0)])]) (fun i=>i≤l.length) (fun i=>l.length-i) 0 (by omega)
  ((Le.ghostC 50000000 1 1 6 (zo:=0) (cs:=[.v (.int .i64 n),.v (.slice none 0 0)]) (by simp(disch:=omega)only[go_sem]) rfl (by simp(disch:=omega)only[go_sem])).trans (Le.lst [(0,50000000),(2,40000000)] _ _ rfl (by simp(disch:=omega)only[go_sem]) (by simp(disch:=omega)only[go_sem,yy,Zx,List.set_cons_succ,List.set_cons_zero]))) ?_
 intro i hi
 simp(disch:=omega)only[go_sem]
 refine qe (fun h1=>?_) (fun h1=>?_)
 ·have hi2:i<l.length:=by omega
  have hci:=jx hi2
  have hcut:=jc (ji (F:=ptS) hi)
  have hml:=ji (F:=ptS) hi
  have hs:=yz (F:=ptS) ex0 hi2
  generalize l.getD i ex0=x at*
  simp(disch:=omega)only[go_sem,h1,hci]
  refine⟨by omega,by omega,?_⟩
  have hsn:∀L:List SpV,qz SpV.cs L++[.v (.bool x.s),.sl (lim x.m).length (qg (lim x.m)),.v (.int .i64 x.e),.v (.bool x.s),.sl (lim x.m).length (qg (lim x.m)),.v (.int .i64 x.e)]=qz SpV.cs (L++[ptS x]):=fun L=>y7 (x:=ptS x)
  simp(disch:=omega)only[go_sem,hcut,hsn]
  refine⟨⟨by rw[hml];exact Nat.le_refl _,by omega⟩,qh (i+1) [(1,240000000)] (by show i+1≤_;omega) (by show l.length-(i+1)<l.length-i;omega) rfl (by simp(disch:=omega)only[go_sem];try omega) (by simp(disch:=omega)only[go_sem,hs])⟩
 ·simp(disch:=omega)only[go_sem,h1]
  obtain rfl:i=l.length:=by omega
  refine qj [(0,1)] [.own 6 (qz SpV.cs (mpT l (ptS) l.length))] [] [.ag [.v (.int .i64 n),.rf 0 0 l.length]] rfl (by simp(disch:=omega)only[go_sem]) (by simp(disch:=omega)only[go_sem]) (by simp) (by simp) ?_
  show qP _ 6 _=_
  simp(disch:=omega)only[go_sem,zv,QB,jc (l:=l.map (ptS)) (k:=l.length) (List.length_map ..),List.length_map]
def ada(s:SpV):ExV:=(s.lo.plus s.hi).shift (-1)
set_option maxRecDepth 100000 in
theorem aK6(n:Nat)(l:List SpV)(hl:l.length≤1000)(hb:sbd (-390000) 390000 l):Con Tryz.prog 150 false [.ag [.v (.int .i64 (n)),.sl (l).length (qz SpV.cs (l))]] [] (isA (.ag [.v (.int .i64 (n)),.sl (l.map ada).length (qz ExV.cs (l.map ada))])):=by
 refine Con.frzA ?_
 refine Con.of_aw Tryz.func150 rfl Tryz.ntmps150 (by simp) (by simp) (by simp) (W.sound ?_)
 show @W Tryz.prog 29 ⟨_⟩ ⟨fun x σ=>@za _ _ _ ⟨_⟩ _ ⟨_⟩ x σ⟩ _ _
 simp(disch:=omega)only[go_sem]
 refine qk (fun i:Nat=>[(10,.sl l.length (qz SpV.cs l)),(11,.v (.int .i64 l.length)),(12,.v (.int .i64 i)),(3,.pt 0 0),(2,.pt 2 0)])
  (fun i=>[(0,.own 0 [.v (.int .i64 n),.rf 1 0 i]),(1,.own 3 (qz ExV.cs (mpT l (ada) i))),(2,.own 0 [.v (.int .i64 0),.v (.slice none 0 0)])]) (fun i=>i≤l.length) (fun i=>l.length-i) 0 (by omega)
  ((Le.ghostC 50000000 1 1 3 (zo:=0) (cs:=[.v (.int .i64 n),.v (.slice none 0 0)]) (by simp(disch:=omega)only[go_sem]) rfl (by simp(disch:=omega)only[go_sem])).trans (Le.lst [(0,50000000),(2,40000000)] _ _ rfl (by simp(disch:=omega)only[go_sem]) (by simp(disch:=omega)only[go_sem,yy,YC,List.set_cons_succ,List.set_cons_zero]))) ?_
 intro i hi
 simp(disch:=omega)only[go_sem]
 refine qe (fun h1=>?_) (fun h1=>?_)
 ·have hi2:i<l.length:=by omega
  have hci:=yQ hi2
  have hcut:=zO (ji (F:=ada) hi)
  have hml:=ji (F:=ada) hi
  have hs:=yz (F:=ada) sp0 hi2
  have hx:=jG hb hi2
  generalize l.getD i sp0=x at*
  simp(disch:=omega)only[go_sem,h1,hci]
  refine⟨by omega,by omega,?_⟩
  refine qo rfl [⟨0,[],[]⟩,⟨1,[],[]⟩,⟨2,[1],[]⟩,⟨3,[1],[]⟩,⟨4,[1,3],[]⟩,⟨5,[1,3],[]⟩,⟨6,[1],[]⟩,⟨7,[1],[]⟩,⟨8,[1],[]⟩,⟨9,[],[]⟩,⟨10,[],[]⟩,⟨11,[],[]⟩] (by kernel_rfl) ?_
  simp(disch:=omega)only[go_sem]
  refine qa (jV x.lo x.hi (hx.1.mono (by omega) (by omega)) (hx.2.mono (by omega) (by omega))) ?_
  simp(disch:=omega)only[go_sem]
  have hp:=ExV.plus_bd hx.1 hx.2
  have hp2: -390000≤(x.lo.plus x.hi).e∧(x.lo.plus x.hi).e≤400000:=⟨hp.2.1,by have:=hp.2.2;omega⟩
  refine qa (QK (x.lo.plus x.hi) (-1) (by omega) (by omega)) ?_
  simp(disch:=omega)only[go_sem]
  have em:ada x=(x.lo.plus x.hi).shift (-1):=rfl
  rw[em]at hs
  simp(disch:=omega)only[go_sem,hcut,Qp]
  refine⟨⟨by rw[hml];exact Nat.le_refl _,by omega⟩,qh (i+1) [(1,270000000)] (by show i+1≤_;omega) (by show l.length-(i+1)<l.length-i;omega) rfl (by simp(disch:=omega)only[go_sem];try omega) (by simp(disch:=omega)only[go_sem,hs])⟩
 ·simp(disch:=omega)only[go_sem,h1]
  obtain rfl:i=l.length:=by omega
  refine qj [(0,1)] [.own 3 (qz ExV.cs (mpT l (ada) l.length))] [] [.ag [.v (.int .i64 n),.rf 0 0 l.length]] rfl (by simp(disch:=omega)only[go_sem]) (by simp(disch:=omega)only[go_sem]) (by simp) (by simp) ?_
  show qP _ 6 _=_
  simp(disch:=omega)only[go_sem,zv,QB,zO (l:=l.map (ada)) (k:=l.length) (List.length_map ..),List.length_map]
set_option maxRecDepth 100000 in
theorem YN(n:Nat)(l:List SpV)(f:Nat)(caps:List AV)(F:SpV→SpV)(hl:l.length≤1000)(hf:∀x∈l,Con Tryz.prog f false (.ag [.v (.bool (x).lo.s),.sl (lim (x).lo.m).length (qg (lim (x).lo.m)),.v (.int .i64 (x).lo.e),.v (.bool (x).hi.s),.sl (lim (x).hi.m).length (qg (lim (x).hi.m)),.v (.int .i64 (x).hi.e)]::caps) [] (isA (.ag [.v (.bool (F x).lo.s),.sl (lim (F x).lo.m).length (qg (lim (F x).lo.m)),.v (.int .i64 (F x).lo.e),.v (.bool (F x).hi.s),.sl (lim (F x).hi.m).length (qg (lim (F x).hi.m)),.v (.int .i64 (F x).hi.e)])))(hg:qs Tryz.prog f=True)
  (hc:∀h:Nat→Ob,caps.map (qP h 6)=caps) (hc5:∀h:Nat→Ob,caps.map (qP h 5)=caps) (hn:∀ks,AllL (yi ks) caps) (hr:∀ρ,jk ρ caps=caps):
  Con Tryz.prog 274 false [.ag [.v (.int .i64 (n)),.sl (l).length (qz SpV.cs (l))],.fn f caps] [] (isA (.ag [.v (.int .i64 (n)),.sl (l.map F).length (qz SpV.cs (l.map F))])):=by
 refine Con.frzA ?_
 refine Con.of_aw Tryz.func274 rfl Tryz.ntmps274 (by simp) (by simp) (by simp) (W.sound ?_)
 show @W Tryz.prog 28 ⟨_⟩ ⟨fun x σ=>@za _ _ _ ⟨_⟩ _ ⟨_⟩ x σ⟩ _ _
 simp(disch:=omega)only[go_sem,hg]
 refine qk (fun i:Nat=>[(1,.fn f caps),(12,.sl l.length (qz SpV.cs l)),(13,.v (.int .i64 l.length)),(14,.v (.int .i64 i)),(5,.pt 0 0),(4,.pt 2 0)])
  (fun i=>[(0,.own 0 [.v (.int .i64 n),.rf 1 0 i]),(1,.own 6 (qz SpV.cs (mpT l (F) i))),(2,.own 0 [.v (.int .i64 0),.v (.slice none 0 0)])]) (fun i=>i≤l.length) (fun i=>l.length-i) 0 (by omega)
  ((Le.ghostC 70000000 1 1 6 (zo:=0) (cs:=[.v (.int .i64 n),.v (.slice none 0 0)]) (by simp(disch:=omega)only[go_sem]) rfl (by simp(disch:=omega)only[go_sem])).trans (Le.lst [(0,70000000),(2,60000000)] _ _ rfl (by simp(disch:=omega)only[go_sem,hr,hn]) (by simp(disch:=omega)only[go_sem,yy,Zx,List.set_cons_succ,List.set_cons_zero]))) ?_
 intro i hi
 simp(disch:=omega)only[go_sem]
 refine qe (fun h1=>?_) (fun h1=>?_)
 ·have hi2:i<l.length:=by omega
  have hci:=yQ hi2
  have hcut:=jc (ji (F:=F) hi)
  have hml:=ji (F:=F) hi
  have hs:=yz (F:=F) sp0 hi2
  have hfx:=hf (l.getD i sp0) (by rw[List.getD_eq_getElem?_getD,List.getElem?_eq_getElem hi2];exact List.getElem_mem _)
  generalize l.getD i sp0=x at*
  simp(disch:=omega)only[go_sem,h1,hci]
  refine⟨by omega,by omega,?_⟩
  refine qo rfl [⟨0,[],[]⟩,⟨1,[],[]⟩,⟨2,[1],[]⟩,⟨3,[1],[]⟩,⟨4,[1],[]⟩,⟨5,[1],[]⟩,⟨6,[],[]⟩,⟨7,[],[]⟩,⟨8,[],[]⟩] (by kernel_rfl) ?_
  simp(disch:=omega)only[go_sem,hg]
  refine qF hfx (by simp(disch:=omega)only[go_sem,hc,hc5]) ?_
  rintro r hs2 ⟨rfl,rfl,_⟩
  refine⟨by simp[qS],?_⟩
  simp(disch:=omega)only[go_sem,hcut,y7]
  refine⟨⟨by rw[hml];exact Nat.le_refl _,by omega⟩,qh (i+1) [(1,260000000)] (by show i+1≤_;omega) (by show l.length-(i+1)<l.length-i;omega) rfl (by simp(disch:=omega)only[go_sem,hr,hn];try omega) (by simp(disch:=omega)only[go_sem,hs])⟩
 ·simp(disch:=omega)only[go_sem,h1]
  obtain rfl:i=l.length:=by omega
  refine qj [(0,1)] [.own 6 (qz SpV.cs (mpT l (F) l.length))] [] [.ag [.v (.int .i64 n),.rf 0 0 l.length]] rfl (by simp(disch:=omega)only[go_sem]) (by simp(disch:=omega)only[go_sem]) (by simp) (by simp) ?_
  show qP _ 6 _=_
  simp(disch:=omega)only[go_sem,zv,QB,jc (l:=l.map (F)) (k:=l.length) (List.length_map ..),List.length_map]
end Go.Ab
namespace Go.Ab
open Go Go.Proofs
theorem aet(n:Nat)(l:List SpV)(i j:Nat)(hl:i*n+j<l.length)(hb:l.length≤1000)(hn:n≤1000)(hi:i≤1000)(hj:j≤1000):
  Con Tryz.prog 272 false [.ag [.v (.int .i64 (n)),.sl (l).length (qz SpV.cs (l))],.v (.int .i64 i),.v (.int .i64 j)] [] (isA (.ag [.v (.bool (l.getD (i*n+j) sp0).lo.s),.sl (lim (l.getD (i*n+j) sp0).lo.m).length (qg (lim (l.getD (i*n+j) sp0).lo.m)),.v (.int .i64 (l.getD (i*n+j) sp0).lo.e),.v (.bool (l.getD (i*n+j) sp0).hi.s),.sl (lim (l.getD (i*n+j) sp0).hi.m).length (qg (lim (l.getD (i*n+j) sp0).hi.m)),.v (.int .i64 (l.getD (i*n+j) sp0).hi.e)])):=by
 refine Con.frzA ?_
 have hin:i*n≤1000:=by omega
 have hp:(i:Int)*(n:Int)≤1000∧0≤(i:Int)*(n:Int):=by rw[←Int.natCast_mul];omega
 have e1:(i:Int)*(n:Int)+(j:Int)=((i*n+j:Nat):Int):=by rw[Int.natCast_add,Int.natCast_mul]
 have hcut:=yQ hl
 generalize i*n+j=k at*
 refine Con.of_w (rs:=[.cell 6 111]) Tryz.func272 rfl Tryz.ntmps272 rfl ?_
 simp(disch:=omega)only[go_sem]
 simp(disch:=omega)only[go_sem,e1,hcut]
 refine⟨by omega,by omega,?_⟩
 exact qn
def gly{Y:Type}(n:Nat)(g:Nat→Nat→Y)(k:Nat):List Y:=(List.range k).map fun t=>g (t/n) (t % n)
theorem ZO{Y:Type}{n:Nat}{g:Nat→Nat→Y}{k:Nat}:(gly n g k).length=k:=by simp[gly]
theorem aBa{Y:Type}{n:Nat}{g:Nat→Nat→Y}{k:Nat}:gly n g (k+1)=gly n g k++[g (k/n) (k % n)]:=by simp[gly,List.range_succ]
theorem aJV{Y:Type}{n:Nat}{g:Nat→Nat→Y}:gly n g 0=[]:=rfl
def jB(n:Nat)(l l':List SpV)(i j k:Nat):SpV:=(List.range k).foldl (fun s t=>s.plus ((l.getD (i*n+t) sp0).times (l'.getD (t*n+j) sp0))) sp0
theorem aih(n:Nat)(l l':List SpV)(i j:Nat):jB n l l' i j 0=sp0:=rfl
theorem aii(n:Nat)(l l':List SpV)(i j k:Nat):jB n l l' i j (k+1)=(jB n l l' i j k).plus ((l.getD (i*n+k) sp0).times (l'.getD (k*n+j) sp0)):=by
 unfold jB;rw[List.range_succ,List.foldl_append,List.foldl_cons,List.foldl_nil]
def jS(n:Nat)(l l':List SpV):List SpV:=gly n (fun i j=>jB n l l' i j n) (n*n)
theorem SpV.times_bd{s t:SpV}{l1 h1 l2 h2:Int}(hs:s.bd l1 h1)(ht:t.bd l2 h2):(s.times t).bd (l1+l2) (h1+h2):=by
 have he:=aeq (F:=ExV.times) hs ht (fun x y hx hy=>ExV.times_bd hx hy)
 exact⟨KG he (by simp[jC]),Zg he (by simp[jC])⟩
theorem SpV.plus_bd{s t:SpV}{lo hi:Int}(hs:s.bd lo hi)(ht:t.bd lo hi):(s.plus t).bd lo (hi+1):=⟨ExV.plus_bd hs.1 ht.1,ExV.plus_bd hs.2 ht.2⟩
theorem SpV.bd.mono{lo hi lo' hi':Int}{x:SpV}(h:x.bd lo hi)(h1:lo'≤lo)(h2:hi≤hi'):x.bd lo' hi':=⟨ExV.bd.mono h.1 h1 h2,ExV.bd.mono h.2 h1 h2⟩
theorem aM0{lo hi:Int}(h1:lo≤0)(h2:0≤hi):sp0.bd lo hi:=⟨aep h1 h2,aep h1 h2⟩
theorem j2{lo hi lo' hi':Int}{l:List SpV}(h:sbd lo hi l)(h1:lo'≤lo)(h2:hi≤hi'):sbd lo' hi' l:=fun x hx=>SpV.bd.mono (h x hx) h1 h2
theorem Zj{lo hi lo' hi':Int}{l:List ExV}(h:gbd lo hi l)(h1:lo'≤lo)(h2:hi≤hi'):gbd lo' hi' l:=fun x hx=>ExV.bd.mono (h x hx) h1 h2
theorem Kr{lo hi:Int}(g:Nat→SpV)(h0:lo≤0∧0≤hi):∀k:Nat,(∀t,t<k→(g t).bd lo hi)→((List.range k).foldl (fun s t=>s.plus (g t)) sp0).bd lo (hi+k)
 |0,_=>aM0 h0.1 (by simpa using h0.2)
 |k+1,h=>by
  rw[List.range_succ,List.foldl_append,List.foldl_cons,List.foldl_nil]
  have:=SpV.plus_bd (Kr g h0 k fun t ht=>h t (by omega)) (SpV.bd.mono (h k (by omega)) (Int.le_refl _) (show hi≤hi+k by omega))
  exact SpV.bd.mono this (Int.le_refl _) (by omega)
theorem aAh{l1 h1 l2 h2:Int}{n:Nat}{l l':List SpV}{i j k:Nat}(hi:i<n)(hj:j<n)(hk:k≤n)(hl:l.length=n*n)(hl':l'.length=n*n)(hb:sbd l1 h1 l)(hb':sbd l2 h2 l')(h0:l1+l2≤0∧0≤h1+h2):(jB n l l' i j k).bd (l1+l2) (h1+h2+k):=
 Kr _ h0 k fun t ht=>SpV.times_bd (jG hb (by rw[hl];exact Qj hi (by omega))) (jG hb' (by rw[hl'];exact Qj (by omega) hj))
set_option maxRecDepth 100000 in
theorem ai5(n:Nat)(l l':List SpV)(hn:n≤4)(hl:l.length=n*n)(hl':l'.length=n*n)(hb:sbd (-190000) 190000 l)(hb':sbd (-190000) 190000 l'):Con Tryz.prog 226 false [.ag [.v (.int .i64 (n)),.sl (l).length (qz SpV.cs (l))],.ag [.v (.int .i64 (n)),.sl (l').length (qz SpV.cs (l'))]] [] (isA (.ag [.v (.int .i64 (n)),.sl (jS n l l').length (qz SpV.cs (jS n l l'))])):=by
 refine Con.frzA ?_
 have hq:=anH hn
 refine Con.of_aw Tryz.func226 rfl Tryz.ntmps226 (by simp) (by simp) (by simp) (W.sound ?_)
 show @W Tryz.prog 49 ⟨_⟩ ⟨fun x σ=>@za _ _ _ ⟨_⟩ _ ⟨_⟩ x σ⟩ _ _
 simp(disch:=omega)only[go_sem]
 refine qk (fun i:Nat=>[(2,.pt 3 0),(3,.pt 4 0),(4,.pt 2 0),(5,.pt 0 0),(14,.v (.int .i64 n)),(15,.v (.int .i64 i))])
  (fun i=>[(0,.own 0 [.v (.int .i64 n),.rf 1 0 (i*n)]),(1,.own 6 (qz SpV.cs (gly n (fun i j=>jB n l l' i j n) (i*n)))),(2,.own 0 [.v (.int .i64 0),.v (.slice none 0 0)]),(3,.own 0 [.v (.int .i64 n),.sl l.length (qz SpV.cs l)]),(4,.own 0 [.v (.int .i64 n),.sl l'.length (qz SpV.cs l')])]) (fun i=>i≤n) (fun i=>n-i) 0 (by omega)
  ((Le.ghostC 70000000 1 1 6 (zo:=0) (cs:=[.v (.int .i64 n),.v (.slice none 0 0)]) (by simp(disch:=omega)only[go_sem]) rfl (by simp(disch:=omega)only[go_sem])).trans (Le.lst [(0,70000000),(2,60000000),(3,40000000),(4,50000000)] _ _ rfl (by simp(disch:=omega)only[go_sem]) (by simp(disch:=omega)only[go_sem,aJV,Zx,Nat.zero_mul,List.set_cons_succ,List.set_cons_zero]))) ?_
 intro i hi
 simp(disch:=omega)only[go_sem]
 refine qe (fun h1=>?_) (fun h1=>?_)
 ·simp(disch:=omega)only[go_sem,h1]
  have hin:i*n≤16:=Nat.mul_le_mul (show i≤4 by omega) hn
  refine qk (fun j:Nat=>[(2,.pt 3 0),(3,.pt 4 0),(4,.pt 2 0),(5,.pt 0 0),(6,.v (.int .i64 i)),(14,.v (.int .i64 n)),(15,.v (.int .i64 i)),(19,.v (.int .i64 n)),(20,.v (.int .i64 j))])
   (fun j=>[(0,.own 0 [.v (.int .i64 n),.rf 1 0 (i*n+j)]),(1,.own 6 (qz SpV.cs (gly n (fun i j=>jB n l l' i j n) (i*n+j)))),(2,.own 0 [.v (.int .i64 0),.v (.slice none 0 0)]),(3,.own 0 [.v (.int .i64 n),.sl l.length (qz SpV.cs l)]),(4,.own 0 [.v (.int .i64 n),.sl l'.length (qz SpV.cs l')])]) (fun j=>j≤n) (fun j=>n-j) 0 (by omega)
   (Le.lst [] _ _ rfl (by simp(disch:=omega)only[go_sem,Nat.add_zero]) (by simp(disch:=omega)only[go_sem,Nat.add_zero])) ?_
  intro j hj
  simp(disch:=omega)only[go_sem]
  refine qe (fun h2=>?_) (fun h2=>?_)
  ·simp(disch:=omega)only[go_sem,h2]
   have hd:(i*n+j)/n=i:=by rw[Nat.mul_comm,Nat.mul_add_div (by omega),Nat.div_eq_of_lt (by omega),Nat.add_zero]
   have hm:(i*n+j) % n=j:=by rw[Nat.mul_comm,Nat.mul_add_mod,Nat.mod_eq_of_lt (by omega)]
   have hs:=@aBa _ n (fun i j=>jB n l l' i j n) (i*n+j)
   rw[hd,hm]at hs
   have hcut:=jc (@ZO _ n (fun i j=>jB n l l' i j n) (i*n+j))
   have hk:i*n+(j+1)=i*n+j+1:=rfl
   generalize hA:gly n (fun i j=>jB n l l' i j n) (i*n+j)=A at*
   have hAl:A.length=i*n+j:=by rw[←hA,ZO]
   generalize hA1:gly n (fun i j=>jB n l l' i j n) (i*n+j+1)=A1 at*
   refine qk (fun k:Nat=>[(2,.pt 3 0),(3,.pt 4 0),(4,.pt 2 0),(5,.pt 0 0),(6,.v (.int .i64 i)),(7,.v (.int .i64 j)),(8,.pt 5 0),(14,.v (.int .i64 n)),(15,.v (.int .i64 i)),(19,.v (.int .i64 n)),(20,.v (.int .i64 j)),(24,.v (.int .i64 n)),(25,.v (.int .i64 k))])
    (fun k=>[(0,.own 0 [.v (.int .i64 n),.rf 1 0 (i*n+j)]),(1,.own 6 (qz SpV.cs A)),(2,.own 0 [.v (.int .i64 0),.v (.slice none 0 0)]),(3,.own 0 [.v (.int .i64 n),.sl l.length (qz SpV.cs l)]),(4,.own 0 [.v (.int .i64 n),.sl l'.length (qz SpV.cs l')]),
     (5,.own 0 [.v (.bool (jB n l l' i j k).lo.s),.sl (lim (jB n l l' i j k).lo.m).length (qg (lim (jB n l l' i j k).lo.m)),.v (.int .i64 (jB n l l' i j k).lo.e),.v (.bool (jB n l l' i j k).hi.s),.sl (lim (jB n l l' i j k).hi.m).length (qg (lim (jB n l l' i j k).hi.m)),.v (.int .i64 (jB n l l' i j k).hi.e)])])
    (fun k=>k≤n) (fun k=>n-k) 0 (by omega)
    ((Le.nilC 100000000 1 (zo:=0) (cs:=[.v (.bool false),.v (.slice none 0 0),.v (.int .i64 0),.v (.bool false),.v (.slice none 0 0),.v (.int .i64 0)]) (by simp(disch:=omega)only[go_sem]) rfl).trans
     ((Le.nilC 100000000 4 (zo:=0) (cs:=[.v (.bool false),.sl 0 [],.v (.int .i64 0),.v (.bool false),.v (.slice none 0 0),.v (.int .i64 0)]) (by simp(disch:=omega)only[go_sem,List.set_cons_succ,List.set_cons_zero]) rfl).trans (Le.lst [(5,100000000)] _ _ rfl (by simp(disch:=omega)only[go_sem]) (by simp(disch:=omega)only[go_sem,List.set_cons_succ,List.set_cons_zero,aih,sp0,ex0,qm])))) ?_
   intro k hk2
   have hD:=aAh (k:=k) (show i<n by omega) (show j<n by omega) hk2 hl hl' hb hb' (by omega)
   have hsd:=aii n l l' i j k
   generalize hDD:jB n l l' i j k=D at*
   simp(disch:=omega)only[go_sem]
   refine qe (fun h3=>?_) (fun h3=>?_)
   ·have hx:=Qj (show i<n by omega) (show k<n by omega)
    have hx':=Qj (show k<n by omega) (show j<n by omega)
    have c1:=aet n l i k (by omega) (by omega) (by omega) (by omega) (by omega)
    have c2:=aet n l' k j (by omega) (by omega) (by omega) (by omega) (by omega)
    have b1:=jG hb (show i*n+k<l.length by omega)
    have b2:=jG hb' (show k*n+j<l'.length by omega)
    generalize l.getD (i*n+k) sp0=x at*
    generalize l'.getD (k*n+j) sp0=y at*
    simp(disch:=omega)only[go_sem,h3]
    refine qo rfl [⟨0,[],[]⟩,⟨1,[0],[]⟩,⟨2,[0,1],[]⟩,⟨3,[0,1],[]⟩,⟨5,[0,1],[]⟩,⟨6,[0,1,5],[]⟩,⟨7,[0,1,5],[]⟩,⟨4,[0,5],[]⟩,⟨8,[0],[]⟩,⟨9,[0],[]⟩,⟨10,[],[]⟩,⟨11,[],[]⟩] (by kernel_rfl) ?_
    simp(disch:=omega)only[go_sem]
    refine qa (c1) ?_
    simp(disch:=omega)only[go_sem]
    refine qa (c2) ?_
    simp(disch:=omega)only[go_sem]
    refine qa (ads x y (SpV.bd.mono b1 (by omega) (by omega)) (SpV.bd.mono b2 (by omega) (by omega))) ?_
    simp(disch:=omega)only[go_sem]
    refine qa (JM D (x.times y) (SpV.bd.mono hD (by omega) (by omega)) (SpV.bd.mono (SpV.times_bd b1 b2) (by omega) (by omega))) ?_
    simp(disch:=omega)only[go_sem]
    exact qh (k+1) [] (by show k+1≤_;omega) (by show n-(k+1)<n-k;omega) rfl (by simp(disch:=omega)only[go_sem];try omega) (by simp(disch:=omega)only[go_sem,hsd])
   ·obtain rfl:n=k:=by omega
    rw[hDD]at hs
    simp(disch:=omega)only[go_sem,h3,hcut,y7]
    refine⟨⟨by rw[hAl];exact Nat.le_refl _,by omega⟩,qh (j+1) [(1,460000000)] (by show j+1≤_;omega) (by show n-(j+1)<n-j;omega) rfl (by simp(disch:=omega)only[go_sem];try omega) (by simp(disch:=omega)only[go_sem,hk,hA1,hs])⟩
  ·simp(disch:=omega)only[go_sem,h2]
   obtain rfl:n=j:=by omega
   exact qh (i+1) [] (by show i+1≤_;omega) (by show n-(i+1)<n-i;omega) rfl (by simp(disch:=omega)only[go_sem,Nat.add_mul,Nat.one_mul];try omega) (by simp(disch:=omega)only[go_sem,Nat.add_mul,Nat.one_mul])
 ·simp(disch:=omega)only[go_sem,h1]
  obtain rfl:n=i:=by omega
  have hll:(jS n l l').length=n*n:=ZO
  have hft:gly n (fun i j=>jB n l l' i j n) (n*n)=jS n l l':=rfl
  rw[hft,hll]
  refine qj [(0,1)] [.own 6 (qz SpV.cs (jS n l l'))] [] [.ag [.v (.int .i64 n),.rf 0 0 (n*n)]] rfl (by simp(disch:=omega)only[go_sem]) (by simp(disch:=omega)only[go_sem]) (by simp) (by simp) ?_
  show qP _ 6 _=_
  simp(disch:=omega)only[go_sem,zv,jc hll]
end Go.Ab
namespace Go.Ab
open Go Go.Proofs
theorem aiQ(x y:ExV)(low mode:Int)(h0:y.m≠0)(hx:x.bd (-400000) 400000)(hy:y.bd (-400000) 400000)(hl: -400000≤low∧low≤400000):
  Con Tryz.prog 303 false [.ag [.v (.bool (x).s),.sl (lim (x).m).length (qg (lim (x).m)),.v (.int .i64 (x).e)],.ag [.v (.bool (y).s),.sl (lim (y).m).length (qg (lim (y).m)),.v (.int .i64 (y).e)],.fp [.v (.int .i64 low)] 0,.fp [.v (.int .i64 mode)] 0] [] (isA (.ag [.v (.bool (x.over y low mode).s),.sl (lim (x.over y low mode).m).length (qg (lim (x.over y low mode).m)),.v (.int .i64 (x.over y low mode).e)])):=by
 refine Con.frzA ?_
 refine Con.of_w (rs:=[.cell 6 90]) Tryz.func303 rfl Tryz.ntmps303 rfl ?_
 simp(disch:=omega)only[go_sem]
 refine qa (apu x y low mode h0 hx hy hl) ?_
 simp(disch:=omega)only[go_sem]
 exact qn
theorem apv(s t:SpV)(low mode:Int)(h1:t.lo.m≠0)(h2:t.hi.m≠0)(hs:s.bd (-400000) 400000)(ht:t.bd (-400000) 400000)(hl: -400000≤low∧low≤400000):
  Con Tryz.prog 302 false [.v (.int .i64 mode),.fp [.v (.bool s.lo.s),.sl (lim s.lo.m).length (qg (lim s.lo.m)),.v (.int .i64 s.lo.e),.v (.bool s.hi.s),.sl (lim s.hi.m).length (qg (lim s.hi.m)),.v (.int .i64 s.hi.e)] 0,.fp [.v (.bool t.lo.s),.sl (lim t.lo.m).length (qg (lim t.lo.m)),.v (.int .i64 t.lo.e),.v (.bool t.hi.s),.sl (lim t.hi.m).length (qg (lim t.hi.m)),.v (.int .i64 t.hi.e)] 0,.fp [.v (.int .i64 low)] 0] [] (isA (.sl 4 (qz ExV.cs (jC (fun x y=>x.over y low mode) s t)))):=by
 refine Con.frzA ?_
 have ce:=JN s t 303 [.fp [.v (.int .i64 low)] 0,.fp [.v (.int .i64 mode)] 0] (fun x y=>x.over y low mode) (fun x y hx hy=>by
  refine aiQ x y low mode ?_ ?_ ?_ hl
  ·rcases hy with rfl|rfl
   ·exact h1
   ·exact h2
  ·rcases hx with rfl|rfl
   ·exact hs.1
   ·exact hs.2
  ·rcases hy with rfl|rfl
   ·exact ht.1
   ·exact ht.2) (by simp(disch:=omega)only[go_sem]) (fun h=>rfl) (fun h=>rfl) (fun ks=>by simp(disch:=omega)only[go_sem]) (fun ρ=>rfl)
 refine Con.of_aw Tryz.func302 rfl Tryz.ntmps302 (by simp) (by simp) (by simp) (AW.seqLe (E:=[(1,.fp [.v (.bool s.lo.s),.sl (lim s.lo.m).length (qg (lim s.lo.m)),.v (.int .i64 s.lo.e),.v (.bool s.hi.s),.sl (lim s.hi.m).length (qg (lim s.hi.m)),.v (.int .i64 s.hi.e)] 0),(2,.fp [.v (.bool t.lo.s),.sl (lim t.lo.m).length (qg (lim t.lo.m)),.v (.int .i64 t.lo.e),.v (.bool t.hi.s),.sl (lim t.hi.m).length (qg (lim t.hi.m)),.v (.int .i64 t.hi.e)] 0),(3,.fp [.v (.int .i64 low)] 0),(4,.fp [.v (.int .i64 mode)] 0),(5,.v (.slice none 0 0))]) (H:=[]) (W.sound ?_) (W.sound ?_))
 ·show @W Tryz.prog 10 ⟨_⟩ ⟨_⟩ _ _
  simp(disch:=omega)only[go_sem]
  exact(Le.frz 60000000 (z:=0) (ks:=[.v (.int .i64 mode)]) (by simp(disch:=omega)only[go_sem]) rfl (by simp(disch:=omega)only[go_sem])).trans (Le.lst [] _ _ rfl (by simp(disch:=omega)only[go_sem]) (by simp(disch:=omega)only[go_sem]))
 show @W Tryz.prog 10 ⟨_⟩ ⟨fun x σ=>@za _ _ _ ⟨_⟩ _ ⟨_⟩ x σ⟩ _ _
 simp(disch:=omega)only[go_sem]
 refine qa (ce) ?_
 simp(disch:=omega)only[go_sem]
 exact qn
theorem SpV.over_bd{s t:SpV}{lo hi l2 low H:Int}(hs:s.bd lo hi)(ht:l2≤t.lo.e∧l2≤t.hi.e)(h:hi-l2+1≤H)(hb:hi-lo+1+low≤H):(s.over t low).bd low H:=by
 have he:∀mode,gbd low H (jC (fun x y=>x.over y low mode) s t):=by
  intro mode x hx
  simp only[jC,List.mem_cons,List.not_mem_nil,or_false]at hx
  rcases hx with rfl|rfl|rfl|rfl
  ·exact ExV.over_bd hs.1 ht.1 h hb
  ·exact ExV.over_bd hs.1 ht.2 h hb
  ·exact ExV.over_bd hs.2 ht.1 h hb
  ·exact ExV.over_bd hs.2 ht.2 h hb
 exact⟨KG (he 3) (by simp[jC]),Zg (he 2) (by simp[jC])⟩
theorem aiP(s t:SpV)(low:Int)(h1:t.lo.m≠0)(h2:t.hi.m≠0)(hs:s.bd (-100000) 100000)(ht:t.bd (-100000) 100000)(hl: -100000≤low∧low≤100000):
  Con Tryz.prog 276 false [.ag [.v (.bool (s).lo.s),.sl (lim (s).lo.m).length (qg (lim (s).lo.m)),.v (.int .i64 (s).lo.e),.v (.bool (s).hi.s),.sl (lim (s).hi.m).length (qg (lim (s).hi.m)),.v (.int .i64 (s).hi.e)],.ag [.v (.bool (t).lo.s),.sl (lim (t).lo.m).length (qg (lim (t).lo.m)),.v (.int .i64 (t).lo.e),.v (.bool (t).hi.s),.sl (lim (t).hi.m).length (qg (lim (t).hi.m)),.v (.int .i64 (t).hi.e)],.v (.int .i64 low)] [] (isA (.ag [.v (.bool (s.over t low).lo.s),.sl (lim (s.over t low).lo.m).length (qg (lim (s.over t low).lo.m)),.v (.int .i64 (s.over t low).lo.e),.v (.bool (s.over t low).hi.s),.sl (lim (s.over t low).hi.m).length (qg (lim (s.over t low).hi.m)),.v (.int .i64 (s.over t low).hi.e)])):=by
 refine Con.frzA ?_
 have co:=fun mode=>apv s t low mode h1 h2 (SpV.bd.mono hs (by omega) (by omega)) (SpV.bd.mono ht (by omega) (by omega)) (by omega)
 have he:∀mode,gbd (-400000) 400000 (jC (fun x y=>x.over y low mode) s t):=by
  intro mode x hx
  have ht1:=ht.1.2.1
  have ht2:=ht.2.2.1
  simp only[jC,List.mem_cons,List.not_mem_nil,or_false]at hx
  rcases hx with rfl|rfl|rfl|rfl
  ·exact(ExV.over_bd (hi:=400000) hs.1 ht1 (by omega) (by omega)).mono (by omega) (by omega)
  ·exact(ExV.over_bd (hi:=400000) hs.1 ht2 (by omega) (by omega)).mono (by omega) (by omega)
  ·exact(ExV.over_bd (hi:=400000) hs.2 ht1 (by omega) (by omega)).mono (by omega) (by omega)
  ·exact(ExV.over_bd (hi:=400000) hs.2 ht2 (by omega) (by omega)).mono (by omega) (by omega)
 have c3:=co 3
 have c2:=co 2
 have e3:=he 3
 have e2:=he 2
 unfold SpV.over
 generalize hE3:jC (fun x y=>x.over y low 3) s t=E3 at*
 generalize hE2:jC (fun x y=>x.over y low 2) s t=E2 at*
 have l3:E3.length=4:=by rw[←hE3];rfl
 have l2:E2.length=4:=by rw[←hE2];rfl
 have cl:=KZ E3 (by omega) (by omega) e3
 have cm:=aev E2 (by omega) (by omega) e2
 rw[l3]at cl
 rw[l2]at cm
 refine Con.of_aw Tryz.func276 rfl Tryz.ntmps276 (by simp) (by simp) (by simp) (AW.seqLe (E:=[(3,.fp [.v (.bool s.lo.s),.sl (lim s.lo.m).length (qg (lim s.lo.m)),.v (.int .i64 s.lo.e),.v (.bool s.hi.s),.sl (lim s.hi.m).length (qg (lim s.hi.m)),.v (.int .i64 s.hi.e)] 0),(4,.fp [.v (.bool t.lo.s),.sl (lim t.lo.m).length (qg (lim t.lo.m)),.v (.int .i64 t.lo.e),.v (.bool t.hi.s),.sl (lim t.hi.m).length (qg (lim t.hi.m)),.v (.int .i64 t.hi.e)] 0),(5,.fp [.v (.int .i64 low)] 0),(6,.pt 0 0)]) (H:=[(0,.own 0 [.v (.bool false),.v (.slice none 0 0),.v (.int .i64 0),.v (.bool false),.v (.slice none 0 0),.v (.int .i64 0)])]) (W.sound ?_) (W.sound ?_))
 ·show @W Tryz.prog 16 ⟨_⟩ ⟨_⟩ _ _
  simp(disch:=omega)only[go_sem]
  exact(Le.frz 50000000 (z:=0) (ks:=[.v (.bool s.lo.s),.sl (lim s.lo.m).length (qg (lim s.lo.m)),.v (.int .i64 s.lo.e),.v (.bool s.hi.s),.sl (lim s.hi.m).length (qg (lim s.hi.m)),.v (.int .i64 s.hi.e)]) (by simp(disch:=omega)only[go_sem]) rfl (by simp(disch:=omega)only[go_sem])).trans ((Le.frz 60000000 (z:=0) (ks:=[.v (.bool t.lo.s),.sl (lim t.lo.m).length (qg (lim t.lo.m)),.v (.int .i64 t.lo.e),.v (.bool t.hi.s),.sl (lim t.hi.m).length (qg (lim t.hi.m)),.v (.int .i64 t.hi.e)]) (by simp(disch:=omega)only[go_sem]) rfl (by simp(disch:=omega)only[go_sem])).trans ((Le.frz 70000000 (z:=0) (ks:=[.v (.int .i64 low)]) (by simp(disch:=omega)only[go_sem]) rfl (by simp(disch:=omega)only[go_sem])).trans (Le.lst [(0,80000000)] _ _ rfl (by simp(disch:=omega)only[go_sem]) (by simp(disch:=omega)only[go_sem]))))
 show @W Tryz.prog 16 ⟨_⟩ ⟨fun x σ=>@za _ _ _ ⟨_⟩ _ ⟨_⟩ x σ⟩ _ _
 simp(disch:=omega)only[go_sem]
 refine qa (c3) ?_
 simp(disch:=omega)only[go_sem]
 refine qa (cl) ?_
 simp(disch:=omega)only[go_sem]
 refine qa (c2) ?_
 simp(disch:=omega)only[go_sem]
 refine qa (cm) ?_
 simp(disch:=omega)only[go_sem]
 exact qn
def exN(k:Nat):ExV:=⟨false,k,0⟩
theorem aSa{k:Nat}(hk:k<2^63):(exN k).bd 0 64:=⟨fun _=>rfl,Int.le_refl _,by show(bl k:Int)+0≤64;have:bl k≤63:=q9.2 hk;omega⟩
def SpV.divd(s:SpV)(k:Nat)(low:Int):SpV:=s.over ⟨exN k,exN k⟩ low
theorem K8(s:SpV)(k:Nat)(low:Int)(h0:k≠0)(hk:k<2^63)(hs:s.bd (-100000) 100000)(hl: -100000≤low∧low≤100000):
  Con Tryz.prog 275 false [.ag [.v (.bool (s).lo.s),.sl (lim (s).lo.m).length (qg (lim (s).lo.m)),.v (.int .i64 (s).lo.e),.v (.bool (s).hi.s),.sl (lim (s).hi.m).length (qg (lim (s).hi.m)),.v (.int .i64 (s).hi.e)],.fp [.v (.bool (exN k).s),.sl (lim (exN k).m).length (qg (lim (exN k).m)),.v (.int .i64 (exN k).e)] 0,.fp [.v (.int .i64 low)] 0] [] (isA (.ag [.v (.bool (s.divd k low).lo.s),.sl (lim (s.divd k low).lo.m).length (qg (lim (s.divd k low).lo.m)),.v (.int .i64 (s.divd k low).lo.e),.v (.bool (s.divd k low).hi.s),.sl (lim (s.divd k low).hi.m).length (qg (lim (s.divd k low).hi.m)),.v (.int .i64 (s.divd k low).hi.e)])):=by
 refine Con.frzA ?_
 have hb:=aSa hk
 have co:=aiP s ⟨exN k,exN k⟩ low h0 h0 hs ⟨hb.mono (by omega) (by omega),hb.mono (by omega) (by omega)⟩ hl
 change Con _ _ _ _ _ (isA (.ag [.v (.bool (s.divd k low).lo.s),.sl (lim (s.divd k low).lo.m).length (qg (lim (s.divd k low).lo.m)),.v (.int .i64 (s.divd k low).lo.e),.v (.bool (s.divd k low).hi.s),.sl (lim (s.divd k low).hi.m).length (qg (lim (s.divd k low).hi.m)),.v (.int .i64 (s.divd k low).hi.e)]))at co
 generalize s.divd k low=z at*
 dsimp only at co
 refine Con.of_w (rs:=[.cell 4 111]) Tryz.func275 rfl Tryz.ntmps275 rfl ?_
 simp(disch:=omega)only[go_sem]
 refine qa (co) ?_
 simp(disch:=omega)only[go_sem]
 exact qn
theorem aB5(s:SpV)(low:Int)(hs:s.bd (-400000) 400000)(hl: -400000≤low∧low≤400000):Con Tryz.prog 278 false [.ag [.v (.bool (s).lo.s),.sl (lim (s).lo.m).length (qg (lim (s).lo.m)),.v (.int .i64 (s).lo.e),.v (.bool (s).hi.s),.sl (lim (s).hi.m).length (qg (lim (s).hi.m)),.v (.int .i64 (s).hi.e)],.fp [.v (.int .i64 low)] 0] [] (isA (.ag [.v (.bool (s.out low).lo.s),.sl (lim (s.out low).lo.m).length (qg (lim (s.out low).lo.m)),.v (.int .i64 (s.out low).lo.e),.v (.bool (s.out low).hi.s),.sl (lim (s.out low).hi.m).length (qg (lim (s.out low).hi.m)),.v (.int .i64 (s.out low).hi.e)])):=by
 refine Con.frzA ?_
 refine Con.of_w (rs:=[.cell 3 111]) Tryz.func278 rfl Tryz.ntmps278 rfl ?_
 simp(disch:=omega)only[go_sem]
 refine qa (apo s low hs hl) ?_
 simp(disch:=omega)only[go_sem]
 exact qn
theorem aCb(n:Nat)(l:List SpV)(low:Int)(hl:l.length≤1000)(hb:sbd (-400000) 400000 l)(hlo: -400000≤low∧low≤400000):Con Tryz.prog 230 false [.ag [.v (.int .i64 (n)),.sl (l).length (qz SpV.cs (l))],.v (.int .i64 low)] [] (isA (.ag [.v (.int .i64 (n)),.sl (l.map fun s=>s.out low).length (qz SpV.cs (l.map fun s=>s.out low))])):=by
 refine Con.frzA ?_
 have c:=YN n l 278 [.fp [.v (.int .i64 low)] 0] (fun s=>s.out low) hl (fun x hx=>aB5 x low (hb x hx) hlo) (by simp(disch:=omega)only[go_sem]) (fun h=>rfl) (fun h=>rfl) (fun ks=>by simp(disch:=omega)only[go_sem]) (fun ρ=>rfl)
 generalize l.map (fun s=>s.out low)=L at*
 refine Con.of_aw Tryz.func230 rfl Tryz.ntmps230 (by simp) (by simp) (by simp) (AW.seqLe (E:=[(2,.fp [.v (.int .i64 n),.sl l.length (qz SpV.cs l)] 0),(3,.fp [.v (.int .i64 low)] 0),(4,.pt 0 0)]) (H:=[(0,.own 0 [.v (.int .i64 0),.v (.slice none 0 0)])]) (W.sound ?_) (W.sound ?_))
 ·show @W Tryz.prog 8 ⟨_⟩ ⟨_⟩ _ _
  simp(disch:=omega)only[go_sem]
  exact(Le.frz 40000000 (z:=0) (ks:=[.v (.int .i64 n),.sl l.length (qz SpV.cs l)]) (by simp(disch:=omega)only[go_sem]) rfl (by simp(disch:=omega)only[go_sem])).trans ((Le.frz 50000000 (z:=0) (ks:=[.v (.int .i64 low)]) (by simp(disch:=omega)only[go_sem]) rfl (by simp(disch:=omega)only[go_sem])).trans (Le.lst [(0,60000000)] _ _ rfl (by simp(disch:=omega)only[go_sem]) (by simp(disch:=omega)only[go_sem])))
 show @W Tryz.prog 8 ⟨_⟩ ⟨fun x σ=>@za _ _ _ ⟨_⟩ _ ⟨_⟩ x σ⟩ _ _
 simp(disch:=omega)only[go_sem]
 refine qa (c) ?_
 simp(disch:=omega)only[go_sem]
 exact qn
theorem aB9(s:SpV)(y:ExV)(hs:s.bd (-400000) 400000)(hy:y.bd (-400000) 400000):Con Tryz.prog 277 false [.ag [.v (.bool (s).lo.s),.sl (lim (s).lo.m).length (qg (lim (s).lo.m)),.v (.int .i64 (s).lo.e),.v (.bool (s).hi.s),.sl (lim (s).hi.m).length (qg (lim (s).hi.m)),.v (.int .i64 (s).hi.e)],.fp [.v (.bool y.s),.sl (lim y.m).length (qg (lim y.m)),.v (.int .i64 y.e)] 0] [] (isA (.ag [.v (.bool (s.fat y).lo.s),.sl (lim (s.fat y).lo.m).length (qg (lim (s.fat y).lo.m)),.v (.int .i64 (s.fat y).lo.e),.v (.bool (s.fat y).hi.s),.sl (lim (s.fat y).hi.m).length (qg (lim (s.fat y).hi.m)),.v (.int .i64 (s.fat y).hi.e)])):=by
 refine Con.frzA ?_
 refine Con.of_w (rs:=[.cell 3 111]) Tryz.func277 rfl Tryz.ntmps277 rfl ?_
 simp(disch:=omega)only[go_sem]
 refine qo rfl [⟨0,[],[]⟩,⟨1,[],[]⟩,⟨2,[1],[]⟩,⟨4,[1,2],[]⟩,⟨5,[1,2],[]⟩,⟨6,[1,2,5],[]⟩,⟨3,[5,6],[]⟩,⟨7,[],[]⟩,⟨8,[],[]⟩,⟨9,[],[]⟩] (by kernel_rfl) ?_
 simp(disch:=omega)only[go_sem]
 refine qa (QM s.lo y hs.1 hy) ?_
 simp(disch:=omega)only[go_sem]
 refine qa (jV s.hi y hs.2 hy) ?_
 simp(disch:=omega)only[go_sem]
 exact qn (hp:=by simp(disch:=omega)only[go_sem,SpV.fat])
theorem aCc(n:Nat)(l:List SpV)(y:ExV)(hl:l.length≤1000)(hb:sbd (-400000) 400000 l)(hy:y.bd (-400000) 400000):Con Tryz.prog 229 false [.ag [.v (.int .i64 (n)),.sl (l).length (qz SpV.cs (l))],.ag [.v (.bool (y).s),.sl (lim (y).m).length (qg (lim (y).m)),.v (.int .i64 (y).e)]] [] (isA (.ag [.v (.int .i64 (n)),.sl (l.map fun s=>s.fat y).length (qz SpV.cs (l.map fun s=>s.fat y))])):=by
 refine Con.frzA ?_
 have c:=YN n l 277 [.fp [.v (.bool y.s),.sl (lim y.m).length (qg (lim y.m)),.v (.int .i64 y.e)] 0] (fun s=>s.fat y) hl (fun x hx=>aB9 x y (hb x hx) hy) (by simp(disch:=omega)only[go_sem]) (fun h=>rfl) (fun h=>rfl) (fun ks=>by simp(disch:=omega)only[go_sem]) (fun ρ=>rfl)
 generalize l.map (fun s=>s.fat y)=L at*
 refine Con.of_aw Tryz.func229 rfl Tryz.ntmps229 (by simp) (by simp) (by simp) (AW.seqLe (E:=[(2,.fp [.v (.int .i64 n),.sl l.length (qz SpV.cs l)] 0),(3,.fp [.v (.bool y.s),.sl (lim y.m).length (qg (lim y.m)),.v (.int .i64 y.e)] 0),(4,.pt 0 0)]) (H:=[(0,.own 0 [.v (.int .i64 0),.v (.slice none 0 0)])]) (W.sound ?_) (W.sound ?_))
 ·show @W Tryz.prog 8 ⟨_⟩ ⟨_⟩ _ _
  simp(disch:=omega)only[go_sem]
  exact(Le.frz 40000000 (z:=0) (ks:=[.v (.int .i64 n),.sl l.length (qz SpV.cs l)]) (by simp(disch:=omega)only[go_sem]) rfl (by simp(disch:=omega)only[go_sem])).trans ((Le.frz 50000000 (z:=0) (ks:=[.v (.bool y.s),.sl (lim y.m).length (qg (lim y.m)),.v (.int .i64 y.e)]) (by simp(disch:=omega)only[go_sem]) rfl (by simp(disch:=omega)only[go_sem])).trans (Le.lst [(0,60000000)] _ _ rfl (by simp(disch:=omega)only[go_sem]) (by simp(disch:=omega)only[go_sem])))
 show @W Tryz.prog 8 ⟨_⟩ ⟨fun x σ=>@za _ _ _ ⟨_⟩ _ ⟨_⟩ x σ⟩ _ _
 simp(disch:=omega)only[go_sem]
 refine qa (c) ?_
 simp(disch:=omega)only[go_sem]
 exact qn
def KS(l l':List SpV):List SpV:=(List.range l.length).map fun i=>(l.getD i sp0).plus (l'.getD i sp0)
theorem KR{l l':List SpV}:(KS l l').length=l.length:=by simp[KS]
def fpT(l l':List SpV)(i:Nat):List SpV:=(List.range i).map fun i=>(l.getD i sp0).plus (l'.getD i sp0)
theorem ao0{l l':List SpV}{i:Nat}:(fpT l l' i).length=i:=by simp[fpT]
theorem aBm{l l':List SpV}{i:Nat}:fpT l l' (i+1)=fpT l l' i++[(l.getD i sp0).plus (l'.getD i sp0)]:=by simp[fpT,List.range_succ]
set_option maxRecDepth 100000 in
theorem apW(n:Nat)(l l':List SpV)(hl:l.length≤1000)(hl':l'.length=l.length)(hb:sbd (-400000) 400000 l)(hb':sbd (-400000) 400000 l'):Con Tryz.prog 228 false [.ag [.v (.int .i64 (n)),.sl (l).length (qz SpV.cs (l))],.ag [.v (.int .i64 (n)),.sl (l').length (qz SpV.cs (l'))]] [] (isA (.ag [.v (.int .i64 (n)),.sl (KS l l').length (qz SpV.cs (KS l l'))])):=by
 refine Con.frzA ?_
 refine Con.of_aw Tryz.func228 rfl Tryz.ntmps228 (by simp) (by simp) (by simp) (W.sound ?_)
 show @W Tryz.prog 33 ⟨_⟩ ⟨fun x σ=>@za _ _ _ ⟨_⟩ _ ⟨_⟩ x σ⟩ _ _
 simp(disch:=omega)only[go_sem]
 refine qk (fun i:Nat=>[(3,.pt 3 0),(4,.pt 2 0),(5,.pt 0 0),(12,.sl l.length (qz SpV.cs l)),(13,.v (.int .i64 l.length)),(14,.v (.int .i64 i))])
  (fun i=>[(0,.own 0 [.v (.int .i64 n),.rf 1 0 i]),(1,.own 6 (qz SpV.cs (fpT l l' i))),(2,.own 0 [.v (.int .i64 0),.v (.slice none 0 0)]),(3,.own 0 [.v (.int .i64 n),.sl l'.length (qz SpV.cs l')])]) (fun i=>i≤l.length) (fun i=>l.length-i) 0 (by omega)
  ((Le.ghostC 70000000 1 1 6 (zo:=0) (cs:=[.v (.int .i64 n),.v (.slice none 0 0)]) (by simp(disch:=omega)only[go_sem]) rfl (by simp(disch:=omega)only[go_sem])).trans (Le.lst [(0,70000000),(2,60000000),(3,50000000)] _ _ rfl (by simp(disch:=omega)only[go_sem]) (by simp(disch:=omega)only[go_sem,show fpT l l' 0=[] from rfl,Zx,List.set_cons_succ,List.set_cons_zero]))) ?_
 intro i hi
 simp(disch:=omega)only[go_sem]
 refine qe (fun h1=>?_) (fun h1=>?_)
 ·have hi2:i<l.length:=by omega
  have hi3:i<l'.length:=by omega
  have hci:=yQ hi2
  have hcj:=yQ hi3
  have hcut:=jc (ao0 (l:=l) (l':=l') (i:=i))
  have hml:=ao0 (l:=l) (l':=l') (i:=i)
  have hs:=aBm (l:=l) (l':=l') (i:=i)
  have hx:=jG hb hi2
  have hy:=jG hb' hi3
  generalize l.getD i sp0=x at*
  generalize l'.getD i sp0=y at*
  simp(disch:=omega)only[go_sem,h1,hci]
  refine⟨by omega,by omega,?_⟩
  refine qo rfl [⟨0,[],[]⟩,⟨1,[],[]⟩,⟨2,[1],[]⟩,⟨3,[1,2],[]⟩,⟨4,[1,2],[]⟩,⟨5,[1,2,4],[]⟩,⟨6,[1,2],[]⟩,⟨7,[1,2],[]⟩,⟨8,[1],[]⟩,⟨9,[1],[]⟩,⟨10,[],[]⟩,⟨11,[],[]⟩,⟨12,[],[]⟩] (by kernel_rfl) ?_
  simp(disch:=omega)only[go_sem,hcj]
  refine⟨by omega,by omega,?_⟩
  refine qa (JM x y hx hy) ?_
  simp(disch:=omega)only[go_sem]
  simp(disch:=omega)only[go_sem,hcut,y7]
  refine⟨⟨by rw[hml];exact Nat.le_refl _,by omega⟩,qh (i+1) [(1,310000000)] (by show i+1≤_;omega) (by show l.length-(i+1)<l.length-i;omega) rfl (by simp(disch:=omega)only[go_sem];try omega) (by simp(disch:=omega)only[go_sem,hs])⟩
 ·simp(disch:=omega)only[go_sem,h1]
  obtain rfl:i=l.length:=by omega
  have hll:(KS l l').length=l.length:=KR
  have hft:fpT l l' l.length=KS l l':=rfl
  rw[hft,hll]
  refine qj [(0,1)] [.own 6 (qz SpV.cs (KS l l'))] [] [.ag [.v (.int .i64 n),.rf 0 0 l.length]] rfl (by simp(disch:=omega)only[go_sem]) (by simp(disch:=omega)only[go_sem]) (by simp) (by simp) ?_
  show qP _ 6 _=_
  simp(disch:=omega)only[go_sem,zv,jc hll]
theorem aCd(n:Nat)(l:List SpV)(k:Nat)(low:Int)(hl:l.length≤1000)(hb:sbd (-100000) 100000 l)(h0:k≠0)(hk:k<2^63)(hlo: -100000≤low∧low≤100000):Con Tryz.prog 227 false [.ag [.v (.int .i64 (n)),.sl (l).length (qz SpV.cs (l))],.v (.int .i64 k),.v (.int .i64 low)] [] (isA (.ag [.v (.int .i64 (n)),.sl (l.map fun s=>s.divd k low).length (qz SpV.cs (l.map fun s=>s.divd k low))])):=by
 refine Con.frzA ?_
 have c:=YN n l 275 [.fp [.v (.bool (exN k).s),.sl (lim (exN k).m).length (qg (lim (exN k).m)),.v (.int .i64 (exN k).e)] 0,.fp [.v (.int .i64 low)] 0] (fun s=>s.divd k low) hl (fun x hx=>K8 x k low h0 hk (hb x hx) hlo) (by simp(disch:=omega)only[go_sem]) (fun h=>rfl) (fun h=>rfl) (fun ks=>by simp(disch:=omega)only[go_sem]) (fun ρ=>rfl)
 generalize l.map (fun s=>s.divd k low)=L at*
 refine Con.of_aw Tryz.func227 rfl Tryz.ntmps227 (by simp) (by simp) (by simp)
  (AW.seqLe (E:=[(1,.v (.int .i64 k)),(3,.pt 1 0),(5,.fp [.v (.int .i64 low)] 0),(6,.pt 0 0)]) (H:=[(0,.own 0 [.v (.int .i64 0),.v (.slice none 0 0)]),(1,.own 0 [.v (.int .i64 n),.sl l.length (qz SpV.cs l)])]) (W.sound ?_)
   (AW.seqLe (E:=[(3,.pt 1 0),(5,.fp [.v (.int .i64 low)] 0),(6,.pt 0 0),(7,.fp [.v (.bool (exN k).s),.sl (lim (exN k).m).length (qg (lim (exN k).m)),.v (.int .i64 (exN k).e)] 0)]) (H:=[(0,.own 0 [.v (.int .i64 0),.v (.slice none 0 0)]),(1,.own 0 [.v (.int .i64 n),.sl l.length (qz SpV.cs l)])]) (W.sound ?_) (W.sound ?_)))
 ·show @W Tryz.prog 14 ⟨_⟩ ⟨_⟩ _ _
  simp(disch:=omega)only[go_sem]
  exact(Le.frz 70000000 (z:=0) (ks:=[.v (.int .i64 low)]) (by simp(disch:=omega)only[go_sem]) rfl (by simp(disch:=omega)only[go_sem])).trans (Le.lst [(0,80000000),(1,50000000)] _ _ rfl (by simp(disch:=omega)only[go_sem]) (by simp(disch:=omega)only[go_sem]))
 ·show @W Tryz.prog 14 ⟨_⟩ ⟨_⟩ _ _
  simp(disch:=omega)only[go_sem]
  refine qa (zw k hk) ?_
  simp(disch:=omega)only[go_sem]
  exact(Le.frz 90000000 (z:=0) (ks:=[.v (.bool (exN k).s),.sl (lim (exN k).m).length (qg (lim (exN k).m)),.v (.int .i64 (exN k).e)]) (by simp(disch:=omega)only[go_sem,exN]) rfl (by simp(disch:=omega)only[go_sem])).trans (Le.lst [] _ _ rfl (by simp(disch:=omega)only[go_sem]) (by simp(disch:=omega)only[go_sem]))
 show @W Tryz.prog 14 ⟨_⟩ ⟨fun x σ=>@za _ _ _ ⟨_⟩ _ ⟨_⟩ x σ⟩ _ _
 simp(disch:=omega)only[go_sem]
 refine qa (c) ?_
 simp(disch:=omega)only[go_sem]
 exact qn
end Go.Ab
