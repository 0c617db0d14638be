/- What the proof of this claim stands on: the walks of the functions and the plain laws, part 4. -/
import Derived.Test.YtjkhfpjccemboaaGreatDoorFnMatRingLib3
import Derived.Carry
import Derived.ChangeSlices
set_option linter.unusedVariables false
set_option linter.unusedSimpArgs false
namespace Go.Ab
open Go Go.Proofs
set_option maxRecDepth 100000 in
theorem ajy(a b:Nat)(hb:b≠0)(la:(lim a).length≤900000)(lb:(lim b).length≤900000):
  Con Tryz.prog 268 false [.sl (lim (a)).length (qc (lim (a))),.sl (lim (b)).length (qc (lim (b)))] [] (aZq (.tu [.sl (lim (a/b)).length (qc (lim (a/b))),.sl (lim (a % b)).length (qc (lim (a % b)))])):=by
 refine Con.of_aw Tryz.func268 rfl Tryz.ntmps268 (by simp) (by simp) (by simp) (W.sound ?_)
 show @W Tryz.prog 96 ⟨_⟩ ⟨fun x σ=>@qX _ _ _ ⟨_⟩ _ ⟨_⟩ x σ⟩ _ _
 simp(disch:=omega)only[go_sem]
 refine qA (zU a b (by omega) (by omega)) (by simp(disch:=omega)only[go_sem]) ?_
 rintro r hs ⟨rfl,rfl,_⟩
 refine⟨by simp[qK],?_⟩
 simp(disch:=omega)only[go_sem]
 refine qe (fun h1=>?_) (fun h1=>?_)
 ·simp(disch:=omega)only[go_sem,h1]
  have hab:a<b:=by
   unfold zA at h1;split at h1
   ·omega
   ·split at h1<;>omega
  refine qa (K6 false (lim a) (by omega)).num ?_
  simp(disch:=omega)only[go_sem]
  refine qN (by simp(disch:=omega)only[go_sem]) ?_
  show qD _ 6 _=_
  rw[Nat.div_eq_of_lt hab,Nat.mod_eq_of_lt hab]
  simp only[qD,qn];rfl
 ·have hab:b≤a:=by
   unfold zA at h1;split at h1
   ·omega
   ·omega
  have ha:a≠0:=by omega
  have hlb:=y0 hb
  simp(disch:=omega)only[go_sem,h1]
  refine qe (fun h2=>?_) (fun h2=>?_)
  ·simp(disch:=omega)only[go_sem,h2]
   have hb6:b<65536:=by have:=Zz b;rw[show(lim b).length=1 by omega]at this;omega
   have e0:(lim b).getD 0 0=(b:Int):=by rw[zL];simp;omega
   simp(disch:=omega)only[go_sem,e0]
   refine⟨by omega,by omega,?_⟩
   refine qa (aqi a b (by omega) (by omega) hb6) ?_
   simp(disch:=omega)only[go_sem]
   have:a % b<b:=Nat.mod_lt _ (by omega)
   refine qa (zw (a % b) (by omega)) ?_
   simp(disch:=omega)only[go_sem]
   exact qN (by simp(disch:=omega)only[go_sem]) (by rfl)
  ·have hl2:2≤(lim b).length:=by omega
   have hll:(lim b).length≤(lim a).length:=Q6 hab
   have ht:=ZB hb
   have eb:(((lim b).length:Int)-1).toNat=(lim b).length-1:=by omega
   have hnd:=aAU hb _ rfl
   simp(disch:=omega)only[go_sem,h2,eb,zL]
   have e3:((b/65536^((lim b).length-1) % 65536:Nat):Int)=((b/65536^((lim b).length-1):Nat):Int):=by rw[Nat.mod_eq_of_lt ht.2]
   generalize hq:b/65536^((lim b).length-1)=q at*
   have hq16:bl q≤16:=zq.2 (by omega)
   simp(disch:=omega)only[go_sem,e3,ajY]
   refine⟨by omega,by omega,?_⟩
   refine qj (apZ q (by omega)) ?_
   simp(disch:=omega)only[go_sem]
   have e4:(16:Int)-(bl q:Int)=((16-bl q:Nat):Int):=by omega
   simp(disch:=omega)only[go_sem,e4]
   generalize hs:16-bl q=s at*
   obtain⟨hs16,hvl,hv1,hvge⟩:=hnd
   refine qC (zO b s (by omega) (by omega)) (by simp(disch:=omega)only[go_sem,e4]) ?_
   rintro r hs0 ⟨rfl,rfl,_⟩
   refine⟨by simp[qK],?_⟩
   simp(disch:=omega)only[go_sem]
   refine qC (apH false a s (by omega) (by omega)) (by simp(disch:=omega)only[go_sem,e4]) ?_
   have hun:a*2^s≠0:=by have:0<2^s:=Nat.pow_pos (by omega);have:=Nat.mul_pos (show 0<a by omega) this;omega
   rintro r hs1 (⟨h,_,_⟩|⟨zs,rfl,rfl⟩)
   ·exact absurd (qF.1 h) hun
   refine⟨⟨by simp,by simp(disch:=omega)only[go_sem]⟩,?_⟩
   have hul:=aiV a hs16
   have hug:=aoR a s
   have ex:((lim a).length:Int)+1-((lim (a*2^s)).length:Int)=(((lim a).length+1-(lim (a*2^s)).length:Nat):Int):=by omega
   have ecut:(lim (a*2^s)++zs).take (lim (a*2^s)).length=lim (a*2^s):=List.take_left' rfl
   have em:(((lim a).length:Int)-((lim b).length:Int)+1).toNat=(lim a).length-(lim b).length+1:=by omega
   simp(disch:=omega)only[go_sem,ex,ecut,em]
   generalize hU0:lim (a*2^s)++List.replicate ((lim a).length+1-(lim (a*2^s)).length) 0=U0
   have lU0:U0.length=(lim a).length+1:=by rw[←hU0];simp;omega
   have gU0:gd U0:=by rw[←hU0];exact qJ.2 ⟨za _,zj _⟩
   have vU0:vl U0=((a*2^s:Nat):Int):=by rw[←hU0,aeb,q9]
   have hfw:=apm gU0 hll hlb hs16 lU0 vU0 hvge
   have elen:(lim (a*2^s)).length+((lim a).length+1-(lim (a*2^s)).length)=U0.length:=by omega
   refine⟨by omega,⟨by simp,by omega⟩,by omega,?_⟩
   generalize hV:lim (b*2^s)=V at*
   have gV:gd V:=by rw[←hV];exact za _
   have vV:vl V=((b*2^s:Nat):Int):=by rw[←hV,q9]
   generalize hm:(lim a).length-(lim b).length+1=m at*
   refine qg (fun x:Nat×List Int×List Int=>[(8,.v (.int .i64 s)),(9,.sl V.length (qc V)),(10,.rf 0 0 x.2.1.length),(11,.rf 1 0 x.2.2.length),(12,.v (.int .i64 ((x.1:Int)-1)))])
    (fun x=>[(0,.own 1 (qc x.2.1)),(1,.own 1 (qc x.2.2))])
    (fun x=>x.1≤m∧x.2.1.length=U0.length∧gd x.2.1∧x.2.2.length=m∧gd x.2.2∧vl (x.2.1.drop x.1)<vl V∧vl x.2.1+vl V*(65536^x.1*vl (x.2.2.drop x.1))=((a*2^s:Nat):Int))
    (fun x=>x.1) (m,U0,List.replicate m 0) ⟨Nat.le_refl _,rfl,gU0,by simp,zj _,by show vl (U0.drop m)<vl V;rw[vV];exact hfw,by show vl U0+vl V*(65536^m*vl ((List.replicate m 0).drop m))=_;rw[List.drop_of_length_le (by simp)];simp[vl];exact vU0⟩
    (Le.lst [(0,580000000),(1,650000000)] _ _ rfl (by simp(disch:=omega)only[go_sem,elen,e4,List.length_replicate];try omega) (by simp(disch:=omega)only[go_sem,hU0,em])) ?_
   rintro⟨k,U,O⟩ ⟨hk,lU,gU,lO,gO,hlt,hval⟩
   dsimp only at hk lU gU lO gO hlt hval ⊢
   simp(disch:=omega)only[go_sem]
   refine qe (fun g1=>?_) (fun g1=>?_)
   ·obtain⟨j,rfl⟩:∃j,k=j+1:=⟨k-1,by omega⟩
    have ej:((j+1:Nat):Int)-1=(j:Nat):=by omega
    have hWj:vl (U.drop j)<65536*vl V:=by
     rw[zy (by omega)]
     have:=qI gU j
     omega
    simp(disch:=omega)only[go_sem,g1,ej]
    refine qA (adT U V j gU gV (by omega) (by omega) (by omega) (by rw[hvl];exact hv1) hWj) (by simp(disch:=omega)only[go_sem]) ?_
    rintro r hs ⟨qd,rfl,rfl,_,hq,hq1,hq2⟩
    refine⟨by simp[qK],?_⟩
    simp(disch:=omega)only[go_sem]
    refine q6 false [0] (KP U V j qd gU gV (by omega) (by omega) hq) (by simp(disch:=omega)only[go_sem]) (by simp(disch:=omega)only[go_sem]) rfl (qQ (z:=1) (cs:=qc U) (by simp(disch:=omega)only[go_sem]) (by simp(disch:=omega)only[go_sem])) (by intro n hn;exact⟨_,List.mem_cons_self ..,by rw[List.mem_singleton.1 hn];rfl⟩) ?_
    rintro r hs bs ⟨U',bo,rfl,rfl,rfl,hl',gU',hbo,hsm,hv'⟩ _
    refine⟨by simp[qK],?_⟩
    generalize hT:U'.set (j+V.length) (U.getD (j+V.length) 0-bo)=T at*
    obtain⟨lT,vT,wT,tT,aT,pT,nT⟩:=an3 gU gV (by omega) hWj hq1 hq2 hl' gU' hsm hv' T hT.symm
    have hfin:∀(U2:List Int) (qf:Int),vl U2=vl U-65536^j*(qf*vl V)→vl U2+vl V*(65536^j*vl ((O.set j qf).drop j))=((a*2^s:Nat):Int):=by
     intro U2 qf h2
     rw[Kj (by omega),h2,←hval,Int.pow_succ]
     generalize (65536:Int)^j=Pj at*
     grind
    simp(disch:=omega)only[go_sem]
    refine qe (fun g2=>?_) (fun g2=>?_)
    ·obtain⟨⟨n1,n2⟩,n3⟩:=nT g2
     simp(disch:=omega)only[go_sem,g2]
     refine q6 false [0] (adV T V j n3 (by rw[tT];omega) gV (by omega) (by omega)) (by simp(disch:=omega)only[go_sem,lT]) (by simp(disch:=omega)only[go_sem]) rfl (qQ (z:=1) (cs:=qc T) (by simp(disch:=omega)only[go_sem]) (by simp(disch:=omega)only[go_sem])) (by intro n hn;exact⟨_,List.mem_cons_self ..,by rw[List.mem_singleton.1 hn];rfl⟩) ?_
     rintro r hs bs ⟨T',rfl,rfl,rfl,lT',gT',sT',vT'⟩ _
     refine⟨by simp[qK],?_⟩
     rw[Int.add_mul]at hq1
     obtain⟨gT2,wT2⟩:=aqH gV (by omega) lT' gT' sT' aT vT' (by omega) (by omega)
     simp(disch:=omega)only[go_sem,lO]
     have hqp:0<qd:=by
      have h3:=qP (j7 gU j)
      rcases(by omega:0<qd∨qd=0)with h|h
      ·exact h
      ·subst h;simp at n2;omega
     refine⟨by omega,by omega,qb (j,T',O.set j (qd-1)) [] ⟨by show j≤m;omega,by show T'.length=_;omega,gT2,by simp[lO],yA gO (by omega),by show vl (T'.drop j)<vl V;omega,hfin T' (qd-1) ?_⟩ (by show j<j+1;omega) rfl (by simp(disch:=omega)only[go_sem,List.length_set];try omega) (by simp(disch:=omega)only[go_sem])⟩
     rw[vT',vT,Int.sub_mul,Int.one_mul,Int.mul_sub];omega
    ·obtain⟨p1,p2⟩:=pT g2
     rw[Int.add_mul]at hq1
     simp(disch:=omega)only[go_sem,g2,lO]
     refine⟨by omega,by omega,qb (j,T,O.set j qd) [] ⟨by show j≤m;omega,by show T.length=_;omega,p1,by simp[lO],yA gO hq,by show vl (T.drop j)<vl V;omega,hfin T qd vT⟩ (by show j<j+1;omega) rfl (by simp(disch:=omega)only[go_sem,List.length_set];try omega) (by simp(disch:=omega)only[go_sem])⟩
   ·have:k=0:=by omega
    subst this
    rw[List.drop_zero]at hlt
    rw[List.drop_zero,Int.pow_zero,Int.one_mul]at hval
    have hvO:=qP gO
    have hvU:=qP gU
    have hcO:=zX gO
    have hcU:=zX gU
    have hpS:0<2^s:=Nat.pow_pos (by omega)
    obtain⟨d1,d2⟩:(vl O).toNat=a/b∧(vl U).toNat=a % b*2^s:=by
     refine aCd hpS (by omega) ?_ (by omega)
     rw[vV]at hval
     have:((vl U).toNat:Int)+((b*2^s:Nat):Int)*((vl O).toNat:Int)=((a*2^s:Nat):Int):=by
      rw[Int.toNat_of_nonneg hvO,Int.toNat_of_nonneg hvU];exact hval
     rw[←Int.natCast_mul,←Int.natCast_add]at this
     exact Int.ofNat.inj this
    rw[d1]at hcO
    rw[d2]at hcU
    obtain⟨zo,hzo⟩:=zF O
    obtain⟨zu,hzu⟩:=zF U
    have htU:=apF U
    rw[hcO]at hzo
    rw[hcU]at hzu htU
    simp(disch:=omega)only[go_sem,g1]
    refine q6 false [1] (jg O (by omega)) (by simp(disch:=omega)only[go_sem]) (by simp(disch:=omega)only[go_sem]) rfl (qQ (z:=1) (cs:=qc O) (by simp(disch:=omega)only[go_sem]) (by simp(disch:=omega)only[go_sem])) (by intro n hn;exact⟨_,List.mem_singleton.2 rfl,by rw[List.mem_singleton.1 hn];rfl⟩) ?_
    rintro r hs bs ⟨rfl,rfl,rfl⟩ _
    refine⟨by simp[qK],?_⟩
    simp(disch:=omega)only[go_sem]
    refine q6 false [0] (jg U (by omega)) (by simp(disch:=omega)only[go_sem]) (by simp(disch:=omega)only[go_sem]) rfl (qQ (z:=1) (cs:=qc U) (by simp(disch:=omega)only[go_sem]) (by simp(disch:=omega)only[go_sem])) (by intro n hn;exact⟨_,List.mem_singleton.2 rfl,by rw[List.mem_singleton.1 hn];rfl⟩) ?_
    rintro r hs bs ⟨rfl,rfl,rfl⟩ _
    refine⟨by simp[qK],?_⟩
    simp(disch:=omega)only[go_sem,hcO,hcU]
    have hlr:(lim (a % b*2^s)).length≤1000000:=by
     have:=congrArg List.length hzu
     simp at this;omega
    refine qA (K3 true (a % b*2^s) s hlr (by omega)) (by simp(disch:=omega)only[go_sem,htU]) ?_
    rw[Nat.mul_div_cancel _ hpS]
    rintro r hs2 (⟨h,rfl,rfl⟩|⟨z2,rfl,rfl⟩)
    ·refine⟨⟨by simp,by simp(disch:=omega)only[go_sem]⟩,?_⟩
     simp(disch:=omega)only[go_sem]
     refine qh [(0,1)] [.own 1 (qc O)] [] [.rf 0 0 (lim (a/b)).length,.v (.slice none 0 0)] rfl (by simp(disch:=omega)only[go_sem]) (by simp(disch:=omega)only[go_sem]) (by simp) (by simp) ?_
     show qD _ 6 _=_
     unfold qD
     simp only[zh,List.map_cons,List.map_nil]
     rw[hzo,jO (k:=3) (l:=lim (a/b)) (zs:=List.replicate zo 0) qW rfl,h]
     rfl
    ·refine⟨⟨by simp,by simp(disch:=omega)only[go_sem]⟩,?_⟩
     simp(disch:=omega)only[go_sem]
     refine qh [(0,1),(1,970000000)] [.own 1 (qc O),.own 1 (qc (lim (a % b)++z2))] [] [.rf 0 0 (lim (a/b)).length,.rf 1 0 (lim (a % b)).length] rfl (by simp(disch:=omega)only[go_sem]) (by simp(disch:=omega)only[go_sem]) (by simp) (by simp) ?_
     show qD _ 6 _=_
     unfold qD
     simp only[zh,List.map_cons,List.map_nil]
     rw[hzo,jO (k:=3) (l:=lim (a/b)) (zs:=List.replicate zo 0) qW rfl,jO (k:=3) (l:=lim (a % b)) (zs:=z2) aIF rfl]
end Go.Ab
namespace Go.Ab
open Go Go.Proofs
theorem Jy(n lo hi:Int):Con Tryz.prog 100 true [.v (.int .i64 n),.v (.int .i64 lo),.v (.int .i64 hi)] [] (fun r hs bs=>r=.v (.bool (decide (lo≤n)&&decide (n≤hi)))∧hs=[]):=by
 refine Con.of_aw Tryz.func100 rfl Tryz.ntmps100 (by simp) (by simp) (by simp) (W.sound ?_)
 show @W Tryz.prog 15 ⟨_⟩ ⟨fun x σ=>@qX _ _ _ ⟨_⟩ _ ⟨_⟩ x σ⟩ _ _
 simp(disch:=omega)only[go_sem]
 refine qe (fun h1=>?_) (fun h1=>?_)
 ·simp(disch:=omega)only[go_sem,h1]
  refine qh [] [] [] [.v (.bool (decide (n≤hi)))] rfl (by simp(disch:=omega)only[go_sem]) (by simp(disch:=omega)only[go_sem]) (by simp) (by simp[AV.pu,zh]) ⟨by simp[zh,h1],rfl⟩
 ·simp(disch:=omega)only[go_sem,h1]
  refine qh [] [] [] [.v (.bool false)] rfl (by simp(disch:=omega)only[go_sem]) (by simp(disch:=omega)only[go_sem]) (by simp) (by simp[AV.pu,zh]) ⟨by simp[zh,h1],rfl⟩
end Go.Ab
namespace Go.Ab
open Go Go.Proofs
theorem adR(a b:Nat)(hb:b≠0)(la:(lim a).length≤900000)(lb:(lim b).length≤900000):
  Con Tryz.prog 268 false [.sl (lim (a)).length (qc (lim (a))),.sl (lim (b)).length (qc (lim (b)))] [] (isA (.tu [.sl (lim (a/b)).length (qc (lim (a/b))),.sl (lim (a % b)).length (qc (lim (a % b)))])):=(ajy a b hb la lb).frzA
theorem adE(neg odd:Bool)(half mode:Int):Con Tryz.prog 220 true [.v (.bool neg),.v (.bool odd),.v (.int .i64 half),.v (.int .i64 mode)] [] (isA (.v (.bool (rup neg odd half mode)))):=by
 refine Con.of_aw Tryz.func220 rfl Tryz.ntmps220 (by simp) (by simp) (by simp) (W.sound ?_)
 show @W Tryz.prog 32 ⟨_⟩ ⟨fun x σ=>@qX _ _ _ ⟨_⟩ _ ⟨_⟩ x σ⟩ _ _
 simp(disch:=omega)only[go_sem]
 refine qe (fun h1=>?_) (fun h1=>?_)
 ·simp(disch:=omega)only[go_sem,h1]
  exact qz (by simp(disch:=omega)only[go_sem]) (by simp(disch:=omega)only[go_sem]) ⟨by simp[zh,rup,h1],rfl,rfl⟩
 ·simp(disch:=omega)only[go_sem,h1]
  refine qe (fun h2=>?_) (fun h2=>?_)
  ·simp(disch:=omega)only[go_sem,h2]
   exact qz (by simp(disch:=omega)only[go_sem]) (by simp(disch:=omega)only[go_sem]) ⟨by simp[zh,rup,h2],rfl,rfl⟩
  ·simp(disch:=omega)only[go_sem,h2]
   refine qe (fun h3=>?_) (fun h3=>?_)
   ·simp(disch:=omega)only[go_sem,h3]
    refine zz (fun h4=>?_) (fun h4=>?_)
    ·simp(disch:=omega)only[go_sem,h4]
     refine qe (fun h5=>?_) (fun h5=>?_)
     ·simp(disch:=omega)only[go_sem,h5]
      exact qz (by simp(disch:=omega)only[go_sem]) (by simp(disch:=omega)only[go_sem]) ⟨by simp[zh,rup,h3,h5],rfl,rfl⟩
     ·simp(disch:=omega)only[go_sem,h5]
      exact qz (by simp(disch:=omega)only[go_sem]) (by simp(disch:=omega)only[go_sem]) ⟨by simp[zh,rup,h3,h4,h5],rfl,rfl⟩
    ·simp(disch:=omega)only[go_sem,h4]
     exact qz (by simp(disch:=omega)only[go_sem]) (by simp(disch:=omega)only[go_sem]) ⟨by simp[zh,rup,h3,h4],rfl,rfl⟩
   ·simp(disch:=omega)only[go_sem,h3]
    refine qe (fun h4=>?_) (fun h4=>?_)
    ·simp(disch:=omega)only[go_sem,h4]
     exact qz (by simp(disch:=omega)only[go_sem]) (by simp(disch:=omega)only[go_sem]) ⟨by simp[zh,rup,h4],rfl,rfl⟩
    ·simp(disch:=omega)only[go_sem,h4]
     exact qz (by simp(disch:=omega)only[go_sem]) (by simp(disch:=omega)only[go_sem]) ⟨by simp[zh,rup,h1,h2,h3,h4],rfl,rfl⟩
theorem Qy(neg:Bool)(a b:Nat)(mode:Int)(hb:b≠0)(la:bl a≤8000000)(lb:bl b≤8000000):
  Con Tryz.prog 252 false [.v (.bool neg),.sl (lim (a)).length (qc (lim (a))),.sl (lim (b)).length (qc (lim (b))),.v (.int .i64 mode)] [] (isA (.tu [.sl (lim (rq neg a b mode)).length (qc (lim (rq neg a b mode))),.v (.bool (decide (a % b=0)))])):=by
 refine Con.of_aw Tryz.func252 rfl Tryz.ntmps252 (by simp) (by simp) (by simp) (W.sound ?_)
 show @W Tryz.prog 36 ⟨_⟩ ⟨fun x σ=>@qX _ _ _ ⟨_⟩ _ ⟨_⟩ x σ⟩ _ _
 simp(disch:=omega)only[go_sem]
 have lla:=qE la
 have llb:=qE lb
 refine qa (adR a b hb (by omega) (by omega)) ?_
 simp(disch:=omega)only[go_sem]
 have hmb:a % b<b:=Nat.mod_lt _ (by omega)
 have llr:=qE (Nat.le_trans (jV (Nat.le_of_lt hmb)) lb)
 have llq:=qE (Nat.le_trans (YL a b) la)
 refine qe (fun h1=>?_) (fun h1=>?_)
 ·simp(disch:=omega)only[go_sem,h1]
  have h0:a % b=0:=qF.1 (List.length_eq_zero_iff.1 (by omega))
  refine qN (by simp(disch:=omega)only[go_sem]) ⟨?_,rfl,rfl⟩
  simp[zh,rq,h0]
 ·simp(disch:=omega)only[go_sem,h1]
  have h0:a % b≠0:=fun e=>h1 (by rw[e,qn];rfl)
  refine qj (K7 (a/b) 0 (by omega) (by omega) (by omega)) ?_
  simp(disch:=omega)only[go_sem]
  refine qa (zO (a % b) 1 (by omega) (by omega)) ?_
  simp(disch:=omega)only[go_sem]
  have llu:=qE (Nat.le_trans (YI (a % b) 1) (Nat.add_le_add_right (Nat.le_trans (jV (Nat.le_of_lt hmb)) lb) 1))
  refine qj (zU (a % b*2^1) b (by omega) (by omega)) ?_
  simp(disch:=omega)only[go_sem]
  have e1:(decide (((a/b/1 % 2:Nat):Int)=1))=decide (a/b % 2=1):=by
   simp;omega
  refine qj (adE neg (decide (a/b % 2=1)) (zA ((a % b*2^1:Nat):Int) (b:Int)) mode) ?_ (by simp(disch:=omega)only[go_sem,e1,Int.toNat_zero,Nat.pow_zero])
  simp(disch:=omega)only[go_sem]
  refine y5 (fun h2=>?_) (fun h2=>?_)
  ·simp(disch:=omega)only[go_sem,h2]
   refine qa (zw 1 (by omega)) ?_
   simp(disch:=omega)only[go_sem]
   have l1:(lim 1).length≤2000000:=by have:=qE (m:=1) (B:=1) (by decide);omega
   refine qa (KR (a/b) 1 (by omega) l1) ?_
   simp(disch:=omega)only[go_sem]
   refine qN (by simp(disch:=omega)only[go_sem]) ⟨?_,rfl,rfl⟩
   have e:rq neg a b mode=a/b+1:=by unfold rq;rw[if_neg h0,if_pos h2]
   rw[e];simp[zh,h0]
  ·simp(disch:=omega)only[go_sem,h2]
   refine qN (by simp(disch:=omega)only[go_sem]) ⟨?_,rfl,rfl⟩
   have e:rq neg a b mode=a/b:=by unfold rq;rw[if_neg h0,if_neg (by rw[h2];simp)]
   rw[e];simp[zh,h0]
end Go.Ab
namespace Go.Ab
open Go Go.Proofs
theorem QB(s:Bool)(m:Nat)(e:Int):Con Tryz.prog 193 true [.ag [.v (.bool (s)),.sl (lim (m)).length (qc (lim (m))),.v (.int .i64 (e))]] [] (isA (.v (.bool (decide (m=0))))):=by
 refine Con.of_aw Tryz.func193 rfl Tryz.ntmps193 (by simp) (by simp) (by simp) (W.sound ?_)
 show @W Tryz.prog 7 ⟨_⟩ ⟨fun x σ=>@qX _ _ _ ⟨_⟩ _ ⟨_⟩ x σ⟩ _ _
 simp(disch:=omega)only[go_sem]
 refine qz (by simp(disch:=omega)only[go_sem]) (by simp(disch:=omega)only[go_sem]) ⟨?_,rfl,rfl⟩
 have:decide (((lim m).length:Int)=0)=decide (m=0):=by
  rw[decide_eq_decide]
  exact⟨fun h=>qF.1 (List.length_eq_zero_iff.1 (by omega)),fun h=>by rw[h,qn];rfl⟩
 rw[this];rfl
theorem aT0(s:Bool)(m:Nat)(e:Int)(hm:(lim m).length≤2^40)(he: -2^40≤e∧e≤2^40):Con Tryz.prog 118 true [.ag [.v (.bool (s)),.sl (lim (m)).length (qc (lim (m))),.v (.int .i64 (e))]] [] (isA (.v (.int .i64 (if m=0 then 0 else(bl m:Int)+e)))):=by
 refine Con.of_w (rs:=[.tmp 2]) Tryz.func118 rfl Tryz.ntmps118 rfl ?_
 simp(disch:=omega)only[go_sem]
 refine qe (fun h1=>?_) (fun h1=>?_)
 ·simp(disch:=omega)only[go_sem,h1]
  have h0:m=0:=qF.1 (List.length_eq_zero_iff.1 (by omega))
  rw[if_pos h0]
  exact qu
 ·have h0:m≠0:=fun e=>h1 (by rw[e,qn];rfl)
  have:=aag (m:=m)
  simp(disch:=omega)only[go_sem,h1]
  refine qt rfl [⟨0,[],[]⟩,⟨1,[],[]⟩,⟨3,[1],[]⟩,⟨4,[1],[]⟩,⟨2,[4],[]⟩,⟨5,[],[]⟩,⟨6,[],[]⟩] (by kernel_rfl) ?_
  simp(disch:=omega)only[go_sem]
  refine qj (ajA m hm) ?_
  simp(disch:=omega)only[go_sem]
  rw[if_neg h0]
  exact qu
theorem apR(s:Bool)(m:Nat)(e:Int)(hm:bl m≤10000000)(he: -2^40≤e∧e≤2^40):Con Tryz.prog 144 false [.ag [.v (.bool (s)),.sl (lim (m)).length (qc (lim (m))),.v (.int .i64 (e))]] [] (isA (.ag [.v (.bool (oS s m)),.sl (lim (oM m)).length (qc (lim (oM m))),.v (.int .i64 (oE m e))])):=by
 refine Con.frzA ?_
 refine Con.of_aw Tryz.func144 rfl Tryz.ntmps144 (by simp) (by simp) (by simp) (W.sound ?_)
 show @W Tryz.prog 23 ⟨_⟩ ⟨fun x σ=>@qX _ _ _ ⟨_⟩ _ ⟨_⟩ x σ⟩ _ _
 simp(disch:=omega)only[go_sem]
 have hl:=qE hm
 refine qe (fun h1=>?_) (fun h1=>?_)
 ·simp(disch:=omega)only[go_sem,h1]
  have h0:m=0:=qF.1 (List.length_eq_zero_iff.1 (by omega))
  subst h0
  refine qN (by simp(disch:=omega)only[go_sem]) ?_
  show qD _ 6 _=_
  simp only[oS,Zy,oE,qn,if_true]
  simp(disch:=omega)only[go_sem]
 ·have h0:m≠0:=fun e=>h1 (by rw[e,qn];rfl)
  have ht:=yi h0
  simp(disch:=omega)only[go_sem,h1]
  refine qj (adz m (by omega)) ?_
  simp(disch:=omega)only[go_sem]
  refine qt rfl [⟨0,[],[]⟩,⟨1,[],[]⟩,⟨2,[1],[]⟩,⟨3,[1],[]⟩,⟨4,[1,3],[]⟩,⟨6,[1,3],[]⟩,⟨7,[1,3],[]⟩,⟨8,[1,3,7],[]⟩,⟨9,[1,3],[]⟩,⟨5,[1,7],[]⟩,⟨10,[],[]⟩,⟨11,[],[]⟩] (by kernel_rfl) ?_
  simp(disch:=omega)only[go_sem]
  refine qa (aqh m (tz m) (by omega) (by omega)) ?_
  simp(disch:=omega)only[go_sem]
  refine qN (by simp(disch:=omega)only[go_sem]) ?_
  show qD _ 6 _=_
  simp only[oS,oM,oE,if_neg h0]
  simp(disch:=omega)only[go_sem]
def ovA(m1:Nat)(k:Int):Nat:=m1*2^k.toNat
def ovQ(s:Bool)(m1:Nat)(e1:Int)(m2:Nat)(e2 low mode:Int):Nat:=rq s (ovA m1 (e1-e2-low)) (ovA m2 (-(e1-e2-low))) mode
def ovX(m1:Nat)(e1:Int)(m2:Nat)(e2 low:Int):Bool:=decide (ovA m1 (e1-e2-low) % ovA m2 (-(e1-e2-low))=0)
theorem aEx{m B:Nat}{k:Int}{C:Nat}(h:bl m≤B)(hk:k≤C):bl (ovA m k)≤B+C:=by
 have:=YI m k.toNat
 unfold ovA;omega
theorem aOw{m:Nat}{k:Int}(h:m≠0):ovA m k≠0:=by
 unfold ovA
 have:0<2^k.toNat:=Nat.pow_pos (by omega)
 have:=Nat.mul_pos (show 0<m by omega) this
 omega
theorem aeJ(s1:Bool)(m1:Nat)(e1:Int)(s2:Bool)(m2:Nat)(e2 low mode:Int)(h2:m2≠0)(hm1:bl m1≤4000000)(hm2:bl m2≤4000000)(hk: -4000000≤e1-e2-low∧e1-e2-low≤4000000)
  (he1: -2^40≤e1∧e1≤2^40) (he2: -2^40≤e2∧e2≤2^40) (hlo: -2^40≤low∧low≤2^40):
  Con Tryz.prog 188 false [.ag [.v (.bool (s1)),.sl (lim (m1)).length (qc (lim (m1))),.v (.int .i64 (e1))],.ag [.v (.bool (s2)),.sl (lim (m2)).length (qc (lim (m2))),.v (.int .i64 (e2))],.v (.int .i64 low),.v (.int .i64 mode)] []
   (isA (.tu [.ag [.v (.bool ((s1 != s2)&&decide (ovQ (s1 != s2) m1 e1 m2 e2 low mode≠0))),.sl (lim (ovQ (s1 != s2) m1 e1 m2 e2 low mode)).length (qc (lim (ovQ (s1 != s2) m1 e1 m2 e2 low mode))),.v (.int .i64 (low))],.v (.bool (ovX m1 e1 m2 e2 low))])):=by
 refine Con.frzA ?_
 refine Con.of_w (rs:=[.cell 8 90,.tmp 9]) Tryz.func188 rfl Tryz.ntmps188 rfl ?_
 have l1:=qE hm1
 have l2:=qE hm2
 generalize hsh:e1-e2-low=sh at*
 have eq1:ovQ (s1 != s2) m1 e1 m2 e2 low mode=rq (s1 != s2) (ovA m1 sh) (ovA m2 (-sh)) mode:=by unfold ovQ;rw[hsh]
 have eq2:ovX m1 e1 m2 e2 low=decide (ovA m1 sh % ovA m2 (-sh)=0):=by unfold ovX;rw[hsh]
 rw[eq1,eq2]
 simp(disch:=omega)only[go_sem,hsh]
 refine qt rfl [⟨0,[],[]⟩,⟨1,[],[]⟩,⟨2,[],[]⟩,⟨3,[2],[]⟩,⟨4,[2],[]⟩,⟨6,[2],[]⟩,⟨7,[2],[]⟩,⟨8,[2,7],[]⟩,⟨9,[2,7],[]⟩,⟨10,[2,7],[]⟩,⟨12,[2,7],[]⟩,⟨5,[7],[]⟩,⟨11,[],[]⟩,⟨13,[],[]⟩,⟨14,[],[]⟩,⟨15,[],[]⟩,⟨16,[],[]⟩,⟨17,[],[]⟩,⟨18,[],[]⟩] (by kernel_rfl) ?_
 have ex1:(if 0>sh then 0 else sh)=((sh.toNat:Nat):Int):=by split<;>omega
 have ex2:(if 0>0-sh then 0 else 0-sh)=(((-sh).toNat:Nat):Int):=by split<;>omega
 simp(disch:=omega)only[go_sem,ex1,ex2]
 refine qa (zO m1 sh.toNat (by omega) (by omega)) ?_
 simp(disch:=omega)only[go_sem]
 refine qa (zO m2 (-sh).toNat (by omega) (by omega)) ?_
 simp(disch:=omega)only[go_sem]
 refine qa (Qy (s1 != s2) (ovA m1 sh) (ovA m2 (-sh)) mode (aOw h2) (aEx (C:=4000000) hm1 (by omega)) (aEx (C:=4000000) hm2 (by omega))) ?_ (by simp(disch:=omega)only[go_sem,ovA])
 simp(disch:=omega)only[go_sem]
 generalize rq (s1 != s2) (ovA m1 sh) (ovA m2 (-sh)) mode=q
 generalize decide (ovA m1 sh % ovA m2 (-sh)=0)=b
 have hq:decide ((0:Int)<((lim q).length:Int))=decide (q≠0):=by
  rw[decide_eq_decide]
  exact⟨fun h e=>by rw[e,qn]at h;simp at h,fun h=>by have:=y0 h;omega⟩
 refine y5 (fun h3=>?_) (fun h3=>?_)
 ·simp(disch:=omega)only[go_sem,h3,hq]
  exact ql (hp:=by simp(disch:=omega)only[go_sem,h3,Bool.true_and])
 ·simp(disch:=omega)only[go_sem,h3]
  exact ql (hp:=by simp(disch:=omega)only[go_sem,h3,Bool.false_and])
def roM(s:Bool)(m:Nat)(e low mode:Int):Nat:=if low≤e∨m=0 then m else rq s m (2^(low-e).toNat) mode
def roE(m:Nat)(e low:Int):Int:=if low≤e∨m=0 then e else low
def roX(m:Nat)(e low:Int):Bool:=if low≤e∨m=0 then true else decide (m % 2^(low-e).toNat=0)
def roS(s:Bool)(m:Nat)(e low mode:Int):Bool:=if low≤e∨m=0 then s else s&&decide (rq s m (2^(low-e).toNat) mode≠0)
theorem adD(s:Bool)(m:Nat)(e low mode:Int)(hm:bl m≤4000000)(he: -1000000≤e∧e≤1000000)(hlo: -1000000≤low∧low≤1000000):
  Con Tryz.prog 177 false [.ag [.v (.bool (s)),.sl (lim (m)).length (qc (lim (m))),.v (.int .i64 (e))],.v (.int .i64 low),.v (.int .i64 mode)] []
   (isA (.tu [.ag [.v (.bool (roS s m e low mode)),.sl (lim (roM s m e low mode)).length (qc (lim (roM s m e low mode))),.v (.int .i64 (roE m e low))],.v (.bool (roX m e low))])):=by
 refine Con.frzA ?_
 refine Con.of_aw Tryz.func177 rfl Tryz.ntmps177 (by simp) (by simp) (by simp) (W.sound ?_)
 show @W Tryz.prog 25 ⟨_⟩ ⟨fun x σ=>@qX _ _ _ ⟨_⟩ _ ⟨_⟩ x σ⟩ _ _
 simp(disch:=omega)only[go_sem]
 refine zz (fun h1=>?_) (fun h1=>?_)
 ·simp(disch:=omega)only[go_sem,h1]
  refine qj (QB s m e) ?_
  simp(disch:=omega)only[go_sem]
  refine qe (fun h2=>?_) (fun h2=>?_)
  ·simp(disch:=omega)only[go_sem,h2]
   refine qN (by simp(disch:=omega)only[go_sem]) ?_
   show qD _ 6 _=_
   simp only[roS,roM,roE,roX,h2,or_true,if_true]
   simp(disch:=omega)only[go_sem]
  ·simp(disch:=omega)only[go_sem,h2]
   refine qt rfl [⟨0,[],[]⟩,⟨3,[0],[]⟩,⟨4,[0],[]⟩,⟨1,[0],[]⟩,⟨2,[0],[]⟩,⟨5,[],[]⟩,⟨6,[],[]⟩,⟨7,[],[]⟩,⟨8,[],[]⟩,⟨9,[],[]⟩] (by kernel_rfl) ?_
   simp(disch:=omega)only[go_sem]
   refine qa (zw 1 (by omega)) ?_
   simp(disch:=omega)only[go_sem]
   refine qa (aeJ s m e false 1 0 low mode (by omega) hm (by decide) (by omega) (by omega) (by omega) (by omega)) ?_
   simp(disch:=omega)only[go_sem]
   refine qN (by simp(disch:=omega)only[go_sem]) ?_
   show qD _ 6 _=_
   have hc:¬(low≤e∨m=0):=by omega
   have e1:ovA m (e-0-low)=m:=by unfold ovA;rw[show(e-0-low).toNat=0 by omega];simp
   have e2:ovA 1 (-(e-0-low))=2^(low-e).toNat:=by unfold ovA;rw[show(-(e-0-low)).toNat=(low-e).toNat by omega];simp
   have e3:(s != false)=s:=by cases s<;>rfl
   simp only[roS,roM,roE,roX,if_neg hc,ovQ,ovX,e1,e2,e3]
   simp(disch:=omega)only[go_sem]
 ·simp(disch:=omega)only[go_sem,h1]
  refine qN (by simp(disch:=omega)only[go_sem]) ?_
  show qD _ 6 _=_
  simp only[roS,roM,roE,roX,h1,true_or,if_true]
  simp(disch:=omega)only[go_sem]
end Go.Ab
namespace Go.Ab
open Go Go.Proofs
theorem apV(cl:Bool)(A B:List Int)(hA:gd A)(hB:gd B)(lA:A.length≤1000000)(lB:B.length≤A.length)(hle:vl B≤vl A):
  Con Tryz.prog 284 cl [.sl A.length (qc A),.sl B.length (qc B)] [] (aq3 (lim (vl A-vl B).toNat)):=by
 refine Con.of_aw Tryz.func284 rfl Tryz.ntmps284 (by simp) (by simp) (by simp) (W.sound ?_)
 show @W Tryz.prog 43 ⟨_⟩ ⟨fun x σ=>@qX _ _ _ ⟨_⟩ _ ⟨_⟩ x σ⟩ _ _
 simp(disch:=omega)only[go_sem]
 refine⟨by omega,?_⟩
 refine qg (fun x:Nat×List Int×Int=>[(1,.sl B.length (qc B)),(5,.rf 1 0 x.2.1.length),(6,.v (.int .i64 x.2.2)),(12,.sl A.length (qc A)),(13,.v (.int .i64 A.length)),(14,.v (.int .i64 x.1))])
  (fun x=>[(1,.own 1 (qc x.2.1))])
  (fun x=>x.1≤A.length∧x.2.1.length=x.1∧gd x.2.1∧(0≤x.2.2∧x.2.2≤1)∧vl x.2.1-65536^x.1*x.2.2=vl (A.take x.1)-vl (B.take x.1))
  (fun x=>A.length-x.1) (0,[],0) ⟨by simp,rfl,Jv,by simp,by simp[vl]⟩
  (Le.lst [(1,130000000)] _ _ rfl (by simp(disch:=omega)only[go_sem]) (by simp(disch:=omega)only[go_sem])) ?_
 rintro⟨i,out,bo⟩ ⟨hi,hol,hog,hbo,hov⟩
 dsimp only at hi hol hog hbo hov ⊢
 simp(disch:=omega)only[go_sem]
 refine qe (fun h1=>?_) (fun h1=>?_)
 ·have hx:=qI hA i
  have hy:=qI hB i
  have hstep:∀z b:Int,A.getD i 0-bo-B.getD i 0=z-65536*b→vl (out++[z])-65536^(i+1)*b=vl (A.take (i+1))-vl (B.take (i+1)):=by
   intro z b hz
   rw[ju,qY,qY,hol,Int.pow_succ]
   generalize (65536:Int)^i=Pi at*
   grind
  have hyz:¬i<B.length→B.getD i 0=0:=fun h=>by rw[List.getD_eq_getElem?_getD,List.getElem?_eq_none (by omega)];rfl
  simp(disch:=omega)only[go_sem,h1]
  refine⟨by omega,by omega,qe (fun h2=>?_) (fun h2=>?_)⟩
  ·simp(disch:=omega)only[go_sem,h2]
   refine⟨by omega,by omega,qe (fun h3=>?_) (fun h3=>?_)⟩
   ·simp(disch:=omega)only[go_sem,h3]
    refine⟨by omega,qb (i+1,out++[A.getD i 0-bo-B.getD i 0+65536],1) [(1,410000000)] ⟨by show i+1≤_;omega,by simp[hol],qJ.2 ⟨hog,jl.2 (by omega)⟩,by simp,hstep (A.getD i 0-bo-B.getD i 0+65536) 1 (by omega)⟩ (by show A.length-(i+1)<A.length-i;omega) rfl (by simp(disch:=omega)only[go_sem,List.length_append];try omega) (by simp(disch:=omega)only[go_sem])⟩
   ·simp(disch:=omega)only[go_sem,h3]
    refine⟨by omega,qb (i+1,out++[A.getD i 0-bo-B.getD i 0],0) [(1,410000000)] ⟨by show i+1≤_;omega,by simp[hol],qJ.2 ⟨hog,jl.2 (by omega)⟩,by simp,hstep (A.getD i 0-bo-B.getD i 0) 0 (by omega)⟩ (by show A.length-(i+1)<A.length-i;omega) rfl (by simp(disch:=omega)only[go_sem,List.length_append];try omega) (by simp(disch:=omega)only[go_sem])⟩
  ·simp(disch:=omega)only[go_sem,h2]
   refine qe (fun h3=>?_) (fun h3=>?_)
   ·simp(disch:=omega)only[go_sem,h3]
    have hy0:=hyz (by omega)
    refine⟨by omega,qb (i+1,out++[A.getD i 0-bo+65536],1) [(1,410000000)] ⟨by show i+1≤_;omega,by simp[hol],qJ.2 ⟨hog,jl.2 (by omega)⟩,by simp,hstep (A.getD i 0-bo+65536) 1 (by omega)⟩ (by show A.length-(i+1)<A.length-i;omega) rfl (by simp(disch:=omega)only[go_sem,List.length_append];try omega) (by simp(disch:=omega)only[go_sem])⟩
   ·simp(disch:=omega)only[go_sem,h3]
    have hy0:=hyz (by omega)
    refine⟨by omega,qb (i+1,out++[A.getD i 0-bo],0) [(1,410000000)] ⟨by show i+1≤_;omega,by simp[hol],qJ.2 ⟨hog,jl.2 (by omega)⟩,by simp,hstep (A.getD i 0-bo) 0 (by omega)⟩ (by show A.length-(i+1)<A.length-i;omega) rfl (by simp(disch:=omega)only[go_sem,List.length_append];try omega) (by simp(disch:=omega)only[go_sem])⟩
 ·simp(disch:=omega)only[go_sem,h1]
  have hiA:i=A.length:=by omega
  subst hiA
  rw[List.take_length,List.take_of_length_le lB]at hov
  have hb0:bo=0:=by
   have h2:=QN hog
   rw[hol]at h2
   rcases(by omega:bo=0∨bo=1)with h|h
   ·exact h
   ·subst h;omega
  subst hb0
  have hov2:vl out=vl A-vl B:=by omega
  refine q6 false [1] (jg out (by omega)) (by simp(disch:=omega)only[go_sem]) (by simp(disch:=omega)only[go_sem]) rfl (qQ (z:=1) (cs:=qc out) (by simp(disch:=omega)only[go_sem]) (by simp(disch:=omega)only[go_sem])) (by intro n hn;exact⟨_,List.mem_singleton.2 rfl,by rw[List.mem_singleton.1 hn];rfl⟩) ?_
  rintro r hs bs ⟨rfl,rfl,rfl⟩ _
  refine⟨by simp[qK],?_⟩
  simp(disch:=omega)only[go_sem]
  obtain⟨z,hz⟩:=zF out
  have hc:=zX hog
  rw[hov2]at hc
  rw[hc]at hz ⊢
  refine qh [(0,1)] [.own 1 (qc out)] [] [.rf 0 0 (lim (vl A-vl B).toNat).length] rfl (by simp(disch:=omega)only[go_sem]) (by simp(disch:=omega)only[go_sem]) (by simp) (by intro _;simp[zh,AV.pu,AV.pu.puL,Ob.pu,qZ]) (.inr ⟨List.replicate z 0,rfl,by rw[←hz]⟩)
end Go.Ab
namespace Go.Ab
theorem aTs(m k:Nat):bl (m/2^k)≤bl m-k:=by
 rcases Nat.lt_or_ge m (2^k)with h|h
 ·rw[Nat.div_eq_of_lt h,yO];omega
 ·have:=aEy h;omega
def J4(xs:List Int):Bool:=decide (xs.length≤100)&&(xs.all (fun x=>decide (0≤x)&&decide (x≤65535))&&(decide (xs.length=0)||decide (xs.getD (xs.length-1) 0≠0)))
def zH(s:Bool)(xs:List Int):Bool:=J4 xs&& !(s&&decide (xs.length=0))
def dyB(s:Bool)(xs:List Int)(e:Int):Bool:=
 zH s xs&&((decide (-3000≤e)&&decide (e≤3000))&&(decide ((vl xs).toNat % 2=1)||(decide (xs.length=0)&&decide (e=0))))
theorem Q3{xs:List Int}(h:J4 xs=true):xs=lim (vl xs).toNat∧xs.length≤100:=by
 simp only[J4,Bool.and_eq_true,decide_eq_true_eq,List.all_eq_true,Bool.or_eq_true]at h
 obtain⟨h1,h2,h3⟩:=h
 refine⟨Yc (fun x hx=>by have:=h2 x hx;omega) ?_,h1⟩
 intro a x e
 subst e
 rcases h3 with h3|h3
 ·simp at h3
 ·simpa [List.getD_eq_getElem?_getD]using h3
theorem aoI(m:Nat)(h:(lim m).length≤100):J4 (lim m)=true:=by
 simp only[J4,Bool.and_eq_true,decide_eq_true_eq,List.all_eq_true,Bool.or_eq_true]
 refine⟨h,fun x hx=>?_,?_⟩
 ·have:=za m x hx
  exact⟨this.1,by omega⟩
 ·rcases Nat.eq_zero_or_pos (lim m).length with h0|h0
  ·exact .inl h0
  ·refine .inr fun e=>?_
   have hm:m≠0:=fun e=>by rw[e,qn]at h0;simp at h0
   rw[zL]at e
   have:=ZB hm
   rw[Nat.mod_eq_of_lt this.2]at e
   omega
theorem Qu{s:Bool}{xs:List Int}{e:Int}(h:dyB s xs e=true):∃m,xs=lim m∧(lim m).length≤100∧bl m≤1600∧(-3000≤e∧e≤3000)∧(m % 2=1∨(m=0∧e=0))∧(m=0→s=false):=by
 simp only[dyB,zH,Bool.and_eq_true,decide_eq_true_eq,Bool.or_eq_true]at h
 obtain⟨⟨h1,h2⟩,h3,h4⟩:=h
 obtain⟨h5,h6⟩:=Q3 h1
 refine⟨(vl xs).toNat,h5,by rw[←h5];exact h6,?_,h3,?_,?_⟩
 ·have:=aag (m:=(vl xs).toNat)
  rw[←h5]at this;omega
 ·rcases h4 with h4|⟨h4,h7⟩
  ·exact .inl h4
  ·have:xs=[]:=List.length_eq_zero_iff.1 h4
   exact .inr ⟨by subst this;rfl,h7⟩
 ·intro e0
  rw[e0,qn]at h5
  subst h5
  simpa using h2
end Go.Ab
namespace Go.Ab
def beb(neg:Bool)(m k:Nat)(mode:Int):Bool:=
 if mode=1 then false else if mode=2 then !neg else if mode=3 then neg else if mode=4 then decide (m/2^(k-1) % 2=1)
 else decide (m/2^(k-1) % 2=1)&&(decide (tz m<k-1)||decide (m/2^k % 2=1))
theorem aLx{a b:Int}:(0<zA a b↔b<a)∧(zA a b=0↔a=b)∧(0≤zA a b↔b≤a):=by
 unfold zA
 split
 ·omega
 ·split<;>omega
theorem aef{m:Nat}(h:m % 2=1):tz m=0:=Qi (a:=m/2) (by simp;omega)
/-! ### The normal form and rounding-/
theorem aD8{m k:Nat}:oM (m*2^k)=oM m:=by
 by_cases h:m=0
 ·subst h;simp
 ·unfold oM
  rw[Qj h,Nat.pow_add,Nat.mul_comm (2^tz m),←Nat.div_div_eq_div_mul,Nat.mul_div_cancel _ (Nat.pow_pos (by omega))]
end Go.Ab
namespace Go.Ab
/-! ### Numbers with a sign-/
def sv(s:Bool)(m:Nat):Int:=if s=true then-(m:Int)else(m:Int)
theorem an5(s:Bool)(m:Nat):(sv s m).natAbs=m:=by unfold sv;split<;>omega
theorem Qk(s:Bool):sv s 0=0:=by unfold sv;split<;>rfl
theorem aYN(z:Int):sv (decide (z<0)) z.natAbs=z:=by
 unfold sv;split
 ·rename_i h;simp only[decide_eq_true_eq]at h;omega
 ·rename_i h;simp only[decide_eq_true_eq]at h;omega
theorem ael(s:Bool)(m k:Nat):sv s (m*k)=sv s m*(k:Int):=by
 unfold sv;split
 ·rw[Int.natCast_mul,Int.neg_mul]
 ·rw[Int.natCast_mul]
theorem aNn(s:Bool)(m:Nat):sv (s&&decide (m≠0)) m=sv s m:=by
 by_cases h:m=0
 ·subst h;rw[Qk,Qk]
 ·rw[decide_eq_true h,Bool.and_true]
theorem aYL(s:Bool)(m:Nat):sv (oS s m) m=sv s m:=by
 unfold oS
 by_cases h:m=0
 ·subst h;rw[Qk,Qk]
 ·rw[if_neg h]
theorem aYM(s1:Bool)(m1:Nat)(s2:Bool)(m2:Nat):sv (s1 != s2) (m1*m2)=sv s1 m1*sv s2 m2:=by
 cases s1<;>cases s2<;>simp[sv,Int.natCast_mul,Int.neg_mul,Int.mul_neg]
theorem aNm{s:Bool}{m:Nat}(h:m≠0):decide (sv s m<0)=s:=by
 cases s<;>simp[sv]<;>omega
theorem aNl(s:Bool)(m:Nat):sv (!s) m= -sv s m:=by cases s<;>simp[sv]
def dv(K:Nat)(s:Bool)(m:Nat)(e:Int):Int:=sv s m*2^(e+K).toNat
theorem aS0{K:Nat}{s:Bool}{m:Nat}{e:Int}{s':Bool}{m':Nat}{e':Int}(h0:m≠0)(he: -(K:Int)≤e)(he': -(K:Int)≤e')(h:dv K s m e=dv K s' m' e'):
  s=s'∧oM m=oM m'∧oE m e=oE m' e'∧m'≠0:=by
 unfold dv at h
 obtain⟨a,ha⟩:∃a,a=(e+K).toNat:=⟨_,rfl⟩
 obtain⟨a',ha'⟩:∃a,a=(e'+K).toNat:=⟨_,rfl⟩
 rw[←ha,←ha']at h
 have habs:m*2^a=m'*2^a':=by
  have:=congrArg Int.natAbs h
  rw[Int.natAbs_mul,Int.natAbs_mul,an5,an5,Int.natAbs_pow,Int.natAbs_pow]at this
  exact this
 have hp:0<2^a:=Nat.pow_pos (by omega)
 have h1:0<m*2^a:=Nat.mul_pos (by omega) hp
 have h0':m'≠0:=fun e=>by rw[habs,e,Nat.zero_mul]at h1;omega
 have hM:oM m=oM m':=by rw[←@aD8 m a,habs,aD8]
 have hT:tz m+a=tz m'+a':=by rw[←Qj h0,habs,Qj h0']
 refine⟨?_,hM,?_,h0'⟩
 ·have e1:sv s m*2^a=sv s (m*2^a):=by rw[ael,Int.natCast_pow];rfl
  have e2:sv s' m'*2^a'=sv s' (m'*2^a'):=by rw[ael,Int.natCast_pow];rfl
  rw[e1,e2,←habs]at h
  rw[←aNm (s:=s) (m:=m*2^a) (by omega),h,aNm (by omega)]
 ·unfold oE;rw[if_neg h0,if_neg h0'];omega
theorem Qv{K:Nat}{s:Bool}{e:Int}:dv K s 0 e=0:=by unfold dv;rw[Qk,Int.zero_mul]
theorem ai7{K:Nat}{s:Bool}{m:Nat}{e:Int}:dv K s m e=0↔m=0:=by
 refine⟨fun h=>?_,fun h=>by rw[h,Qv]⟩
 unfold dv at h
 rcases Int.mul_eq_zero.1 h with h|h
 ·rw[←an5 s m,h];rfl
 ·have:(0:Int)<2^(e+K).toNat:=Int.pow_pos (by omega)
  omega
theorem baX(K:Nat)(s:Bool)(m:Nat)(e:Int):dv K (oS s m) m e=dv K s m e:=by unfold dv;rw[aYL]
theorem aEt(K:Nat)(s:Bool)(m:Nat)(e:Int):dv K (s&&decide (m≠0)) m e=dv K s m e:=by unfold dv;rw[aNn]
theorem aLi{K:Nat}{s:Bool}{m:Nat}{e:Int}(he: -(K:Int)≤e):dv K s (oM m) (oE m e)=dv K s m e:=by
 by_cases h:m=0
 ·subst h;rw[Zy,Qv,Qv]
 ·unfold dv oE
  rw[if_neg h]
  have e1:(e+(tz m:Int)+K).toNat=tz m+(e+K).toNat:=by omega
  conv=>rhs;rw[←@aD9 m]
  rw[e1,Int.pow_add,ael,Int.natCast_pow,Int.mul_assoc];rfl
theorem aSZ{K K':Nat}{s s':Bool}{m m':Nat}{e e':Int}(he: -(K:Int)≤e)(he': -(K':Int)≤e'):dv (K+K') (s != s') (m*m') (e+e')=dv K s m e*dv K' s' m' e':=by
 unfold dv
 have e1:(e+e'+((K+K':Nat):Int)).toNat=(e+K).toNat+(e'+K').toNat:=by omega
 rw[e1,Int.pow_add,aYM]
 simp only[Int.mul_assoc,Int.mul_left_comm]
/-! ### Sums-/
def suM(s1:Bool)(m1:Nat)(s2:Bool)(m2:Nat):Nat:=(sv s1 m1+sv s2 m2).natAbs
def suS(s1:Bool)(m1:Nat)(s2:Bool)(m2:Nat):Bool:=decide (sv s1 m1+sv s2 m2<0)
def sgS(s1:Bool)(m1:Nat)(s2:Bool)(m2:Nat):Bool:=if s1=s2 then s1 else if m2≤m1 then s1 else s2
theorem aAe(s:Bool)(m1 m2:Nat):suM s m1 s m2=m1+m2:=by unfold suM sv;split<;>omega
theorem aNq{s1 s2:Bool}{m1 m2:Nat}(h:s1≠s2)(hm:m2≤m1):suM s1 m1 s2 m2=m1-m2:=by
 cases s1<;>cases s2<;>simp[suM,sv]at* <;>omega
theorem aNo{s1 s2:Bool}{m1 m2:Nat}(h:s1≠s2)(hm:¬m2≤m1):suM s1 m1 s2 m2=m2-m1:=by
 cases s1<;>cases s2<;>simp[suM,sv]at* <;>omega
theorem aAu(s:Bool)(m1 m2:Nat):sgS s m1 s m2=s:=by unfold sgS;rw[if_pos rfl]
theorem aNJ{s1 s2:Bool}{m1 m2:Nat}(h:s1≠s2)(hm:m2≤m1):sgS s1 m1 s2 m2=s1:=by unfold sgS;rw[if_neg h,if_pos hm]
theorem aNI{s1 s2:Bool}{m1 m2:Nat}(h:s1≠s2)(hm:¬m2≤m1):sgS s1 m1 s2 m2=s2:=by unfold sgS;rw[if_neg h,if_neg hm]
theorem aID(s1:Bool)(m1:Nat)(s2:Bool)(m2:Nat):(sgS s1 m1 s2 m2&&decide (suM s1 m1 s2 m2≠0))=suS s1 m1 s2 m2:=by
 rw[Bool.eq_iff_iff]
 simp only[Bool.and_eq_true,decide_eq_true_eq,suS]
 unfold sgS suM
 cases s1<;>cases s2<;>simp[sv]
 all_goals omega
theorem aNp(s1:Bool)(m1:Nat)(s2:Bool)(m2:Nat):suM s1 m1 s2 m2≤m1+m2:=by unfold suM sv;split<;>split<;>omega
theorem aTt{a b B:Nat}(ha:bl a≤B)(hb:bl b≤B):bl (a+b)≤B+1:=by
 have h1:=zq.1 ha
 have h2:=zq.1 hb
 refine zq.2 ?_
 rw[Nat.pow_succ];omega
theorem aEw{s1:Bool}{m1:Nat}{s2:Bool}{m2 B:Nat}(h1:bl m1≤B)(h2:bl m2≤B):bl (suM s1 m1 s2 m2)≤B+1:=
 Nat.le_trans (jV (aNp _ _ _ _)) (aTt h1 h2)
def alE(m1:Nat)(e1:Int)(m2:Nat)(e2:Int):Int:=if m2=0 then e1 else if m1=0 then e2 else if e2<e1 then e2 else e1
def alA(m:Nat)(e E:Int):Nat:=m*2^(e-E).toNat
def adM(s1:Bool)(m1:Nat)(e1:Int)(s2:Bool)(m2:Nat)(e2:Int):Nat:=suM s1 (alA m1 e1 (alE m1 e1 m2 e2)) s2 (alA m2 e2 (alE m1 e1 m2 e2))
def adS(s1:Bool)(m1:Nat)(e1:Int)(s2:Bool)(m2:Nat)(e2:Int):Bool:=suS s1 (alA m1 e1 (alE m1 e1 m2 e2)) s2 (alA m2 e2 (alE m1 e1 m2 e2))
theorem QM{K:Int}{m1:Nat}{e1:Int}{m2:Nat}{e2:Int}(h1:K≤e1)(h2:K≤e2):K≤alE m1 e1 m2 e2:=by
 unfold alE
 repeat' split
 all_goals omega
theorem aEB{K:Int}{m1:Nat}{e1:Int}{m2:Nat}{e2:Int}(h1:e1≤K)(h2:e2≤K):alE m1 e1 m2 e2≤K:=by
 unfold alE
 repeat' split
 all_goals omega
theorem aeR{K:Nat}{s:Bool}{m:Nat}{e E:Int}(hE: -(K:Int)≤E)(h:m≠0→E≤e):sv s (alA m e E)*2^(E+K).toNat=dv K s m e:=by
 by_cases h0:m=0
 ·subst h0;unfold alA;rw[Nat.zero_mul,Qk,Qv,Int.zero_mul]
 ·have:=h h0
  unfold alA dv
  have e1:(e+K).toNat=(e-E).toNat+(E+K).toNat:=by omega
  rw[e1,Int.pow_add,ael,Int.natCast_pow,Int.mul_assoc];rfl
theorem JM{m B:Nat}{e E:Int}{C:Nat}(h:bl m≤B)(hk:e-E≤C):bl (alA m e E)≤B+C:=by
 have:=YI m (e-E).toNat
 unfold alA;omega
theorem bbj{K:Nat}{s1:Bool}{m1:Nat}{e1:Int}{s2:Bool}{m2:Nat}{e2:Int}(h1: -(K:Int)≤e1)(h2: -(K:Int)≤e2):
  dv K (adS s1 m1 e1 s2 m2 e2) (adM s1 m1 e1 s2 m2 e2) (alE m1 e1 m2 e2)=dv K s1 m1 e1+dv K s2 m2 e2:=by
 have hE: -(K:Int)≤alE m1 e1 m2 e2:=QM h1 h2
 have g1:m1≠0→alE m1 e1 m2 e2≤e1:=fun h=>by
  unfold alE
  repeat' split
  all_goals omega
 have g2:m2≠0→alE m1 e1 m2 e2≤e2:=fun h=>by
  unfold alE
  repeat' split
  all_goals omega
 rw[←aeR hE g1,←aeR hE g2,←Int.add_mul]
 show sv (adS s1 m1 e1 s2 m2 e2) (adM s1 m1 e1 s2 m2 e2)*_=_
 unfold adS adM suS suM
 rw[aYN]
end Go.Ab
namespace Go.Ab
open Go Go.Proofs
theorem JD(a b:Nat)(h:b≤a)(la:(lim a).length≤1000000):Con Tryz.prog 284 false [.sl (lim (a)).length (qc (lim (a))),.sl (lim (b)).length (qc (lim (b)))] [] (aJp (lim (a-b))):=by
 have:=(apV false (lim a) (lim b) (za a) (za b) la (Q6 h) (by rw[q9,q9];omega)).num
 rwa[aEK]at this
theorem Yt(s1:Bool)(m1:Nat)(s2:Bool)(m2:Nat)(l1:(lim m1).length≤1000000)(l2:(lim m2).length≤1000000):
  Con Tryz.prog 239 false [.v (.bool s1),.sl (lim (m1)).length (qc (lim (m1))),.v (.bool s2),.sl (lim (m2)).length (qc (lim (m2)))] [] (isA (.tu [.v (.bool (sgS s1 m1 s2 m2)),.sl (lim (suM s1 m1 s2 m2)).length (qc (lim (suM s1 m1 s2 m2)))])):=by
 refine Con.frzA ?_
 have hge:(0≤zA (m1:Int) (m2:Int))↔m2≤m1:=by rw[aLx.2.2];omega
 refine Con.of_aw Tryz.func239 rfl Tryz.ntmps239 (by simp) (by simp) (by simp) (W.sound ?_)
 show @W Tryz.prog 31 ⟨_⟩ ⟨fun x σ=>@qX _ _ _ ⟨_⟩ _ ⟨_⟩ x σ⟩ _ _
 simp(disch:=omega)only[go_sem]
 refine y5 (fun h1=>?_) (fun h1=>?_)
 ·have h1':s1=s2:=by simpa using h1
  simp(disch:=omega)only[go_sem,h1]
  subst h1'
  refine qa (KR m1 m2 (by omega) (by omega)) ?_
  simp(disch:=omega)only[go_sem]
  refine qN (by simp(disch:=omega)only[go_sem]) ?_
  show qD _ 6 _=_
  rw[aAu,aAe]
  simp(disch:=omega)only[go_sem]
 ·have h1':s1≠s2:=by simpa using h1
  simp(disch:=omega)only[go_sem,h1]
  refine qj (zU m1 m2 (by omega) (by omega)) ?_
  simp(disch:=omega)only[go_sem]
  refine qe (fun h2=>?_) (fun h2=>?_)
  ·have h2':m2≤m1:=hge.1 (by omega)
   simp(disch:=omega)only[go_sem,h2]
   refine qa (JD m1 m2 h2' (by omega)) ?_
   simp(disch:=omega)only[go_sem]
   refine qN (by simp(disch:=omega)only[go_sem]) ?_
   show qD _ 6 _=_
   rw[aNJ h1' h2',aNq h1' h2']
   simp(disch:=omega)only[go_sem]
  ·have h2':¬m2≤m1:=fun h=>h2 (by have:=hge.2 h;omega)
   simp(disch:=omega)only[go_sem,h2]
   refine qa (JD m2 m1 (by omega) (by omega)) ?_
   simp(disch:=omega)only[go_sem]
   refine qN (by simp(disch:=omega)only[go_sem]) ?_
   show qD _ 6 _=_
   rw[aNI h1' h2',aNo h1' h2']
   simp(disch:=omega)only[go_sem]
theorem ZV(s1:Bool)(m1:Nat)(e1:Int)(s2:Bool)(m2:Nat)(e2:Int)(h1:bl m1≤4000000)(h2:bl m2≤4000000)(he1: -1000000≤e1∧e1≤1000000)(he2: -1000000≤e2∧e2≤1000000):
  Con Tryz.prog 183 false [.ag [.v (.bool (s1)),.sl (lim (m1)).length (qc (lim (m1))),.v (.int .i64 (e1))],.ag [.v (.bool (s2)),.sl (lim (m2)).length (qc (lim (m2))),.v (.int .i64 (e2))]] [] (isA (.tu [.sl (lim (alA m1 e1 (alE m1 e1 m2 e2))).length (qc (lim (alA m1 e1 (alE m1 e1 m2 e2)))),.sl (lim (alA m2 e2 (alE m1 e1 m2 e2))).length (qc (lim (alA m2 e2 (alE m1 e1 m2 e2)))),.v (.int .i64 (alE m1 e1 m2 e2))])):=by
 refine Con.frzA ?_
 have l1:=qE h1
 have l2:=qE h2
 have hE:=QM (m1:=m1) (m2:=m2) he1.1 he2.1
 have hE2:=aEB (m1:=m1) (m2:=m2) he1.2 he2.2
 have x1:∀d:Int,(if 0>d then 0 else d)=((d.toNat:Nat):Int):=fun d=>by split<;>omega
 refine Con.of_aw Tryz.func183 rfl Tryz.ntmps183 (by simp) (by simp) (by simp) (W.sound ?_)
 show @W Tryz.prog 42 ⟨_⟩ ⟨fun x σ=>@qX _ _ _ ⟨_⟩ _ ⟨_⟩ x σ⟩ _ _
 simp(disch:=omega)only[go_sem]
 refine qe (fun c1=>?_) (fun c1=>?_)
 ·have z1:m1=0:=qF.1 (List.length_eq_zero_iff.1 (by omega))
  simp(disch:=omega)only[go_sem,c1]
  refine qe (fun c2=>?_) (fun c2=>?_)
  ·have z2:m2=0:=qF.1 (List.length_eq_zero_iff.1 (by omega))
   have eE:alE m1 e1 m2 e2=e1:=by unfold alE;rw[if_pos z2]
   simp(disch:=omega)only[go_sem,c2]
   refine qt rfl [⟨0,[],[]⟩,⟨1,[],[]⟩,⟨2,[1],[]⟩,⟨3,[1],[]⟩,⟨4,[1,3],[]⟩,⟨5,[1],[]⟩,⟨6,[1],[]⟩,⟨8,[1,3],[]⟩,⟨9,[1,3],[]⟩,⟨10,[1,3,9],[]⟩,⟨11,[1,3,9],[]⟩,⟨12,[1,3,9,11],[]⟩,⟨13,[1,3,9],[]⟩,⟨14,[1,3,9],[]⟩,⟨16,[1,3,9,11],[]⟩,⟨7,[9,11],[]⟩,⟨15,[],[]⟩,⟨17,[],[]⟩,⟨18,[],[]⟩,⟨19,[],[]⟩] (by kernel_rfl) ?_
   simp(disch:=omega)only[go_sem,x1]
   refine qa (zO m1 (e1-e1).toNat (by omega) (by omega)) ?_ (by simp(disch:=omega)only[go_sem,x1])
   simp(disch:=omega)only[go_sem]
   refine qa (zO m2 (e2-e1).toNat (by omega) (by omega)) ?_ (by simp(disch:=omega)only[go_sem,x1])
   simp(disch:=omega)only[go_sem]
   refine qN (by simp(disch:=omega)only[go_sem]) ?_
   show qD _ 6 _=_
   rw[eE];unfold alA
   simp(disch:=omega)only[go_sem]
  ·have z2:m2≠0:=fun e=>c2 (by rw[e,qn];rfl)
   have eE:alE m1 e1 m2 e2=e2:=by unfold alE;rw[if_neg z2,if_pos z1]
   simp(disch:=omega)only[go_sem,c2]
   refine qt rfl [⟨0,[],[]⟩,⟨1,[],[]⟩,⟨2,[1],[]⟩,⟨3,[1],[]⟩,⟨4,[1,3],[]⟩,⟨5,[1],[]⟩,⟨6,[1],[]⟩,⟨8,[1,3],[]⟩,⟨9,[1,3],[]⟩,⟨10,[1,3,9],[]⟩,⟨11,[1,3,9],[]⟩,⟨12,[1,3,9,11],[]⟩,⟨13,[1,3,9],[]⟩,⟨14,[1,3,9],[]⟩,⟨16,[1,3,9,11],[]⟩,⟨7,[9,11],[]⟩,⟨15,[],[]⟩,⟨17,[],[]⟩,⟨18,[],[]⟩,⟨19,[],[]⟩] (by kernel_rfl) ?_
   simp(disch:=omega)only[go_sem,x1]
   refine qa (zO m1 (e1-e2).toNat (by omega) (by omega)) ?_ (by simp(disch:=omega)only[go_sem,x1])
   simp(disch:=omega)only[go_sem]
   refine qa (zO m2 (e2-e2).toNat (by omega) (by omega)) ?_ (by simp(disch:=omega)only[go_sem,x1])
   simp(disch:=omega)only[go_sem]
   refine qN (by simp(disch:=omega)only[go_sem]) ?_
   show qD _ 6 _=_
   rw[eE];unfold alA
   simp(disch:=omega)only[go_sem]
 ·have z1:m1≠0:=fun e=>c1 (by rw[e,qn];rfl)
  simp(disch:=omega)only[go_sem,c1]
  refine qe (fun c2=>?_) (fun c2=>?_)
  ·have z2:m2=0:=qF.1 (List.length_eq_zero_iff.1 (by omega))
   have eE:alE m1 e1 m2 e2=e1:=by unfold alE;rw[if_pos z2]
   simp(disch:=omega)only[go_sem,c2]
   refine qt rfl [⟨0,[],[]⟩,⟨1,[],[]⟩,⟨2,[1],[]⟩,⟨3,[1],[]⟩,⟨4,[1,3],[]⟩,⟨5,[1],[]⟩,⟨6,[1],[]⟩,⟨8,[1,3],[]⟩,⟨9,[1,3],[]⟩,⟨10,[1,3,9],[]⟩,⟨11,[1,3,9],[]⟩,⟨12,[1,3,9,11],[]⟩,⟨13,[1,3,9],[]⟩,⟨14,[1,3,9],[]⟩,⟨16,[1,3,9,11],[]⟩,⟨7,[9,11],[]⟩,⟨15,[],[]⟩,⟨17,[],[]⟩,⟨18,[],[]⟩,⟨19,[],[]⟩] (by kernel_rfl) ?_
   simp(disch:=omega)only[go_sem,x1]
   refine qa (zO m1 (e1-e1).toNat (by omega) (by omega)) ?_ (by simp(disch:=omega)only[go_sem,x1])
   simp(disch:=omega)only[go_sem]
   refine qa (zO m2 (e2-e1).toNat (by omega) (by omega)) ?_ (by simp(disch:=omega)only[go_sem,x1])
   simp(disch:=omega)only[go_sem]
   refine qN (by simp(disch:=omega)only[go_sem]) ?_
   show qD _ 6 _=_
   rw[eE];unfold alA
   simp(disch:=omega)only[go_sem]
  ·have z2:m2≠0:=fun e=>c2 (by rw[e,qn];rfl)
   have eE:(if e2<e1 then e2 else e1)=alE m1 e1 m2 e2:=by unfold alE;rw[if_neg z2,if_neg z1]
   simp(disch:=omega)only[go_sem,c2,eE]
   refine qt rfl [⟨0,[],[]⟩,⟨1,[],[]⟩,⟨2,[1],[]⟩,⟨3,[1],[]⟩,⟨4,[1,3],[]⟩,⟨5,[1],[]⟩,⟨6,[1],[]⟩,⟨8,[1,3],[]⟩,⟨9,[1,3],[]⟩,⟨10,[1,3,9],[]⟩,⟨11,[1,3,9],[]⟩,⟨12,[1,3,9,11],[]⟩,⟨13,[1,3,9],[]⟩,⟨14,[1,3,9],[]⟩,⟨16,[1,3,9,11],[]⟩,⟨7,[9,11],[]⟩,⟨15,[],[]⟩,⟨17,[],[]⟩,⟨18,[],[]⟩,⟨19,[],[]⟩] (by kernel_rfl) ?_
   simp(disch:=omega)only[go_sem,x1,eE]
   refine qa (zO m1 (e1-alE m1 e1 m2 e2).toNat (by omega) (by omega)) ?_ (by simp(disch:=omega)only[go_sem,x1,eE])
   simp(disch:=omega)only[go_sem]
   refine qa (zO m2 (e2-alE m1 e1 m2 e2).toNat (by omega) (by omega)) ?_ (by simp(disch:=omega)only[go_sem,x1,eE])
   simp(disch:=omega)only[go_sem]
   refine qN (by simp(disch:=omega)only[go_sem]) ?_
   show qD _ 6 _=_
   unfold alA
   simp(disch:=omega)only[go_sem]
theorem apO(s1:Bool)(m1:Nat)(e1:Int)(s2:Bool)(m2:Nat)(e2:Int)(h1:bl m1≤4000000)(h2:bl m2≤4000000)(he1: -1000000≤e1∧e1≤1000000)(he2: -1000000≤e2∧e2≤1000000):
  Con Tryz.prog 162 false [.ag [.v (.bool (s1)),.sl (lim (m1)).length (qc (lim (m1))),.v (.int .i64 (e1))],.ag [.v (.bool (s2)),.sl (lim (m2)).length (qc (lim (m2))),.v (.int .i64 (e2))]] [] (isA (.ag [.v (.bool (adS s1 m1 e1 s2 m2 e2)),.sl (lim (adM s1 m1 e1 s2 m2 e2)).length (qc (lim (adM s1 m1 e1 s2 m2 e2))),.v (.int .i64 (alE m1 e1 m2 e2))])):=by
 refine Con.frzA ?_
 have hE:=QM (m1:=m1) (m2:=m2) he1.1 he2.1
 have b1:=JM (e:=e1) (E:=alE m1 e1 m2 e2) (C:=2000000) h1 (by omega)
 have b2:=JM (e:=e2) (E:=alE m1 e1 m2 e2) (C:=2000000) h2 (by omega)
 have l1:=qE b1
 have l2:=qE b2
 refine Con.of_w (rs:=[.cell 4 90]) Tryz.func162 rfl Tryz.ntmps162 rfl ?_
 simp(disch:=omega)only[go_sem]
 refine qa (ZV s1 m1 e1 s2 m2 e2 h1 h2 he1 he2) ?_
 simp(disch:=omega)only[go_sem]
 unfold adS adM
 generalize alA m1 e1 (alE m1 e1 m2 e2)=A at*
 generalize alA m2 e2 (alE m1 e1 m2 e2)=B at*
 generalize alE m1 e1 m2 e2=E at*
 refine qa (Yt s1 A s2 B (by omega) (by omega)) ?_
 simp(disch:=omega)only[go_sem]
 have hb:=aEw (s1:=s1) (s2:=s2) b1 b2
 have hl:(lim (suM s1 A s2 B)).length≤2000000:=by have:=qE hb;omega
 have hq:decide ((0:Int)<((lim (suM s1 A s2 B)).length:Int))=decide (suM s1 A s2 B≠0):=by
  rw[decide_eq_decide]
  exact⟨fun h e=>by rw[e,qn]at h;simp at h,fun h=>by have:=y0 h;omega⟩
 rw[←aID]
 refine y5 (fun h3=>?_) (fun h3=>?_)
 ·simp(disch:=omega)only[go_sem,h3,hq]
  exact ql (hp:=by simp(disch:=omega)only[go_sem,h3,Bool.true_and])
 ·simp(disch:=omega)only[go_sem,h3]
  exact ql (hp:=by simp(disch:=omega)only[go_sem,h3,Bool.false_and])
end Go.Ab
namespace Go.Ab
open Go Go.Proofs
def Jg(b:Bool):AV→List Ob→List Ob→Prop:=fun r hs bs=>r=.v (.bool b)∧hs=[]
theorem aji(x:Int):Con Tryz.prog 267 true [.v (.int .i64 x)] [] (Jg (decide (0≤x)&&decide (x≤65535))):=by
 refine Con.of_aw Tryz.func267 rfl Tryz.ntmps267 (by simp) (by simp) (by simp) (W.sound ?_)
 show @W Tryz.prog 5 ⟨_⟩ ⟨fun x σ=>@qX _ _ _ ⟨_⟩ _ ⟨_⟩ x σ⟩ _ _
 simp(disch:=omega)only[go_sem]
 refine qA (Jy x 0 65535) (by simp(disch:=omega)only[go_sem]) ?_
 rintro r hs ⟨rfl,rfl⟩
 refine⟨by simp[qK],?_⟩
 simp(disch:=omega)only[go_sem]
 refine qh [] [] [] [.v (.bool (decide (0≤x)&&decide (x≤65535)))] rfl (by simp(disch:=omega)only[go_sem]) (by simp(disch:=omega)only[go_sem]) (by simp) (by simp[AV.pu,zh]) ⟨rfl,rfl⟩
theorem adU(g:Nat)(p:Int→Bool)(x:Int)(hf:Con Tryz.prog g true [.v (.int .i64 x)] [] (Jg (p x)))(hg:qp Tryz.prog g):
  Con Tryz.prog 294 true [.v (.int .i64 x),.fp [.fn g []] 0] [] (Jg (!p x)):=by
 refine Con.of_aw Tryz.func294 rfl Tryz.ntmps294 (by simp) (by simp) (by simp) (W.sound ?_)
 show @W Tryz.prog 8 ⟨_⟩ ⟨fun x σ=>@qX _ _ _ ⟨_⟩ _ ⟨_⟩ x σ⟩ _ _
 simp(disch:=omega)only[go_sem]
 refine⟨hg,qA hf (by simp(disch:=omega)only[go_sem]) ?_⟩
 rintro r hs ⟨rfl,rfl⟩
 refine⟨by simp[qK],?_⟩
 simp(disch:=omega)only[go_sem]
 refine qh [] [] [] [.v (.bool (!p x))] rfl (by simp(disch:=omega)only[go_sem]) (by simp(disch:=omega)only[go_sem]) (by simp) (by simp[AV.pu,zh]) ⟨rfl,rfl⟩
theorem ajr(f:Nat)(caps:List AV)(p:Int→Bool)(xs:List Int)(hl:xs.length≤2^40)(hf:∀x,Con Tryz.prog f true (.v (.int .i64 x)::caps) [] (Jg (p x)))(hg:qp Tryz.prog f)
  (hc:∀h:Nat→Ob,caps.map (qD h 6)=caps) (hc5:∀h:Nat→Ob,caps.map (qD h 5)=caps) (hn:∀ks,AllL (j0 ks) caps) (hr:∀ρ,zJ ρ caps=caps):
  Con Tryz.prog 305 true [.sl xs.length (qc xs),.fn f caps] [] (fun r hs bs=>∃i:Int,r=.v (.int .i64 i)∧hs=[]∧(0≤i↔∃x∈xs,p x=true)):=by
 refine Con.of_aw Tryz.func305 rfl Tryz.ntmps305 (by simp) (by simp) (by simp) (W.sound ?_)
 show @W Tryz.prog 19 ⟨_⟩ ⟨fun x σ=>@qX _ _ _ ⟨_⟩ _ ⟨_⟩ x σ⟩ _ _
 simp(disch:=omega)only[go_sem]
 refine qg (fun i:Nat=>[(0,.sl xs.length (qc xs)),(1,.fn f caps),(6,.sl xs.length (qc xs)),(7,.v (.int .i64 xs.length)),(8,.v (.int .i64 i))])
  (fun _=>[]) (fun i=>i≤xs.length∧∀j,j<i→p (xs.getD j 0)=false) (fun i=>xs.length-i) 0 ⟨by omega,fun j hj=>by omega⟩ (Le.lst [] _ _ rfl (by simp(disch:=omega)only[go_sem,hr,hn]) (by simp(disch:=omega)only[go_sem])) ?_
 rintro i ⟨hi,hp⟩
 simp(disch:=omega)only[go_sem]
 refine qe (fun h1=>?_) (fun h1=>?_)
 ·simp(disch:=omega)only[go_sem,h1]
  refine⟨by omega,by omega,hg,qA (hf (xs.getD i 0)) (by simp(disch:=omega)only[go_sem,hc,hc5]) ?_⟩
  rintro r hs ⟨rfl,rfl⟩
  refine⟨by simp[qK],?_⟩
  simp(disch:=omega)only[go_sem]
  refine y5 (fun h2=>?_) (fun h2=>?_)
  ·simp(disch:=omega)only[go_sem,h2]
   refine qh [] [] [] [.v (.int .i64 i)] rfl (by simp(disch:=omega)only[go_sem]) (by simp(disch:=omega)only[go_sem]) (by simp) (by simp[AV.pu,zh]) ⟨i,rfl,rfl,?_⟩
   refine⟨fun _=>⟨xs.getD i 0,?_,h2⟩,fun _=>by omega⟩
   rw[List.getD_eq_getElem?_getD,List.getElem?_eq_getElem (by omega)];exact List.getElem_mem _
  ·simp(disch:=omega)only[go_sem,h2]
   refine qb (i+1) [] ⟨by omega,fun j hj=>?_⟩ (by show xs.length-(i+1)<xs.length-i;omega) rfl (by simp(disch:=omega)only[go_sem,hr,hn];try omega) (by simp(disch:=omega)only[go_sem])
   rcases(by omega:j<i∨j=i)with h|h
   ·exact hp j h
   ·subst h;exact h2
 ·simp(disch:=omega)only[go_sem,h1]
  refine qh [] [] [] [.v (.int .i64 (-1))] rfl (by simp(disch:=omega)only[go_sem]) (by simp(disch:=omega)only[go_sem]) (by simp) (by simp[AV.pu,zh]) ⟨-1,rfl,rfl,?_⟩
  refine⟨fun h=>by omega,fun⟨x,hx,hpx⟩=>?_⟩
  obtain⟨j,hj,rfl⟩:=List.getElem_of_mem hx
  have:=hp j (by omega)
  rw[List.getD_eq_getElem?_getD,List.getElem?_eq_getElem hj]at this
  simp only[Option.getD_some]at this
  rw[this]at hpx;cases hpx
theorem YB(f:Nat)(caps:List AV)(p:Int→Bool)(xs:List Int)(hl:xs.length≤2^40)(hf:∀x,Con Tryz.prog f true (.v (.int .i64 x)::caps) [] (Jg (p x)))(hg:qp Tryz.prog f)
  (hc:∀h:Nat→Ob,caps.map (qD h 6)=caps) (hc5:∀h:Nat→Ob,caps.map (qD h 5)=caps) (hn:∀ks,AllL (j0 ks) caps) (hr:∀ρ,zJ ρ caps=caps):
  Con Tryz.prog 293 true [.sl xs.length (qc xs),.fn f caps] [] (Jg (xs.any p)):=by
 refine Con.of_aw Tryz.func293 rfl Tryz.ntmps293 (by simp) (by simp) (by simp) (W.sound ?_)
 show @W Tryz.prog 9 ⟨_⟩ ⟨fun x σ=>@qX _ _ _ ⟨_⟩ _ ⟨_⟩ x σ⟩ _ _
 simp(disch:=omega)only[go_sem]
 refine qA (ajr f caps p xs hl hf hg hc hc5 hn hr) (by simp(disch:=omega)only[go_sem,hc,hc5]) ?_
 rintro r hs ⟨i,rfl,rfl,hi⟩
 refine⟨by simp[qK],?_⟩
 simp(disch:=omega)only[go_sem]
 refine qh [] [] [] [.v (.bool (decide (0≤i)))] rfl (by simp(disch:=omega)only[go_sem]) (by simp(disch:=omega)only[go_sem]) (by simp) (by simp[AV.pu,zh]) ⟨?_,rfl⟩
 have:decide (0≤i)=xs.any p:=by rw[Bool.eq_iff_iff,decide_eq_true_eq,hi,List.any_eq_true]
 rw[this];rfl
theorem ajB(g:Nat)(p:Int→Bool)(xs:List Int)(hl:xs.length≤2^40)(hf:∀x,Con Tryz.prog g true [.v (.int .i64 x)] [] (Jg (p x)))(hg:qp Tryz.prog g):
  Con Tryz.prog 266 true [.sl xs.length (qc xs),.fn g []] [] (Jg (xs.all p)):=by
 refine Con.of_aw Tryz.func266 rfl Tryz.ntmps266 (by simp) (by simp) (by simp) (W.sound ?_)
 show @W Tryz.prog 9 ⟨_⟩ ⟨fun x σ=>@qX _ _ _ ⟨_⟩ _ ⟨_⟩ x σ⟩ _ _
 simp(disch:=omega)only[go_sem]
 refine qA (YB 294 [.fp [.fn g []] 0] (fun x=> !p x) xs hl (fun x=>adU g p x (hf x) hg) (by simp(disch:=omega)only[go_sem]) (fun h=>rfl) (fun h=>rfl) (fun ks=>by simp(disch:=omega)only[go_sem]) (fun ρ=>rfl)) (by simp(disch:=omega)only[go_sem]) ?_
 rintro r hs ⟨rfl,rfl⟩
 refine⟨by simp[qK],?_⟩
 simp(disch:=omega)only[go_sem]
 refine qh [] [] [] [.v (.bool (!xs.any fun x=> !p x))] rfl (by simp(disch:=omega)only[go_sem]) (by simp(disch:=omega)only[go_sem]) (by simp) (by simp[AV.pu,zh]) ⟨?_,rfl⟩
 have:(!xs.any fun x=> !p x)=xs.all p:=by rw[List.all_eq_not_any_not]
 rw[this];rfl
end Go.Ab
namespace Go.Ab
open Go Go.Proofs
theorem apS(xs:List Int)(hl:xs.length≤2^40):Con Tryz.prog 214 true [.ag [.sl xs.length (qc xs)]] [] (Jg (J4 xs)):=by
 refine Con.of_aw Tryz.func214 rfl Tryz.ntmps214 (by simp) (by simp) (by simp) (W.sound ?_)
 show @W Tryz.prog 29 ⟨_⟩ ⟨fun x σ=>@qX _ _ _ ⟨_⟩ _ ⟨_⟩ x σ⟩ _ _
 have en:((xs.length:Int)-1).toNat=xs.length-1:=by omega
 simp(disch:=omega)only[go_sem]
 refine qe (fun h1=>?_) (fun h1=>?_)
 ·simp(disch:=omega)only[go_sem,h1]
  refine qA (ajB 267 (fun x=>decide (0≤x)&&decide (x≤65535)) xs hl aji (by simp(disch:=omega)only[go_sem])) (by simp(disch:=omega)only[go_sem]) ?_
  rintro r hs ⟨rfl,rfl⟩
  refine⟨by simp[qK],?_⟩
  simp(disch:=omega)only[go_sem]
  refine y5 (fun h2=>?_) (fun h2=>?_)
  ·simp(disch:=omega)only[go_sem,h2]
   refine zz (fun h3=>?_) (fun h3=>?_)
   ·simp(disch:=omega)only[go_sem,h3,en]
    refine⟨by omega,by omega,?_⟩
    refine qz (by simp(disch:=omega)only[go_sem]) (by simp(disch:=omega)only[go_sem]) ⟨?_,rfl⟩
    have e1:decide (xs.length≤100)=true:=by simp;omega
    have e2:decide (xs.length=0)=false:=by simp;intro h;subst h;simp at h3
    show AV.v (.bool _)=AV.v (.bool _)
    unfold J4
    rw[e1,h2,e2]
    simp
   ·simp(disch:=omega)only[go_sem,h3]
    refine qz (by simp(disch:=omega)only[go_sem]) (by simp(disch:=omega)only[go_sem]) ⟨?_,rfl⟩
    have e1:decide (xs.length≤100)=true:=by simp;omega
    have e2:decide (xs.length=0)=true:=by simp;exact List.length_eq_zero_iff.1 (by omega)
    show AV.v (.bool _)=AV.v (.bool _)
    unfold J4
    rw[e1,h2,e2]
    simp
  ·simp(disch:=omega)only[go_sem,h2]
   refine qz (by simp(disch:=omega)only[go_sem]) (by simp(disch:=omega)only[go_sem]) ⟨?_,rfl⟩
   show AV.v (.bool _)=AV.v (.bool _)
   unfold J4
   rw[h2];simp
 ·simp(disch:=omega)only[go_sem,h1]
  exact qz (by simp(disch:=omega)only[go_sem]) (by simp(disch:=omega)only[go_sem]) ⟨by simp[J4,zh];omega,rfl⟩
end Go.Ab
namespace Go.Ab
open Go Go.Proofs
theorem Con.boolI{P:Program}{f:FuncId}{args:List AV}{b:Bool}(h:Con P f true args [] (Jg b)):Con P f true args [] (isA (.v (.bool b))):=
 (Con.len h).mono fun r hs bs ⟨⟨h1,h2⟩,h3⟩=>⟨h1,h2,h3⟩
theorem zG(n lo hi:Int):Con Tryz.prog 100 true [.v (.int .i64 n),.v (.int .i64 lo),.v (.int .i64 hi)] [] (isA (.v (.bool (decide (lo≤n)&&decide (n≤hi))))):=
 Con.boolI (Jy n lo hi)
theorem ajh(xs:List Int)(hl:xs.length≤2^40):Con Tryz.prog 214 true [.ag [.sl xs.length (qc xs)]] [] (isA (.v (.bool (J4 xs)))):=Con.boolI (apS xs hl)
theorem adx(s:Bool)(xs:List Int)(hl:xs.length≤2^40):Con Tryz.prog 141 true [.ag [.v (.bool s),.sl xs.length (qc xs)]] [] (isA (.v (.bool (zH s xs)))):=by
 refine Con.of_aw Tryz.func141 rfl Tryz.ntmps141 (by simp) (by simp) (by simp) (W.sound ?_)
 show @W Tryz.prog 18 ⟨_⟩ ⟨fun x σ=>@qX _ _ _ ⟨_⟩ _ ⟨_⟩ x σ⟩ _ _
 simp(disch:=omega)only[go_sem]
 refine qj (ajh xs hl) ?_
 simp(disch:=omega)only[go_sem]
 repeat' first
  |simp(disch:=omega)only[go_sem, *]
  |(with_reducible refine qe (fun _=>?_) (fun _=>?_))
  |(with_reducible refine zz (fun _=>?_) (fun _=>?_))
  |(with_reducible refine aeA (fun _=>?_) (fun _=>?_))
  |(with_reducible refine y5 (fun _=>?_) (fun _=>?_))
 all_goals exact qz (by simp(disch:=omega)only[go_sem]) (by simp(disch:=omega)only[go_sem]) ⟨by simp_all[zh,zH]<;>omega,rfl,rfl⟩
def ovB(s:Bool)(mode:Int):Bool:=decide (mode=1)||((decide (mode=2)&&s)||(decide (mode=3)&& !s))
def flB(k:Int)(s:Bool)(m e:Int):Bool:=
 if k=1 then(decide (-1074≤e)&&decide (e≤971))&&((decide (4503599627370496≤m)&&decide (m≤9007199254740991))||((decide (1≤m)&&decide (m≤4503599627370495))&&decide (e= -1074)))
 else if k=0∨k=2 then decide (m=0)&&decide (e=0)else((decide (k=3)&&decide (m=0))&&decide (e=0))&& !s
end Go.Ab
namespace Go.Ab
open Go Go.Proofs
def ZI(top:Int):Int:=if-1074>top-53 then-1074 else top-53
def flE(rm:Nat)(re:Int):Int:=ZI ((bl rm:Int)+re)
def flM(rm:Nat)(re:Int):Nat:=oM rm*2^(oE rm re-flE rm re).toNat
def aK8(top:Int)(same:Bool):Int:=if same then 0 else if top≤ -1022 then 5 else 1
def flK(s:Bool)(mode:Int)(rm:Nat)(re:Int):Int:=if rm=0 then 0 else if 1024<(bl rm:Int)+re then(if ovB s mode then 1 else 2)else 1
def baU(s:Bool)(mode:Int)(rm:Nat)(re:Int):Int:=if rm=0 then 0 else if 1024<(bl rm:Int)+re then(if ovB s mode then 9007199254740991 else 0)else(flM rm re:Int)
def baV(s:Bool)(mode:Int)(rm:Nat)(re:Int):Int:=if rm=0 then 0 else if 1024<(bl rm:Int)+re then(if ovB s mode then 971 else 0)else flE rm re
def bbv(top:Int)(same:Bool)(rm:Nat)(re:Int):Int:=if rm≠0∧1024<(bl rm:Int)+re then 3 else aK8 top same
end Go.Ab
namespace Go.Ab
open Go
def qm{X:Type}(f:X→List AV)(l:List X):List AV:=(l.map f).flatten
section
variable {X:Type}{f:X→List AV}{z:Nat}{l:List X}
theorem yH:qm f []=[]:=by simp[qm]
theorem zv{x:X}:qm f (x::l)=f x++qm f l:=by simp[qm]
theorem yI(hz:∀x,(f x).length=z):(qm f l).length=l.length*z:=by
 induction l with
 |nil=>simp[qm]
 |cons x r ih=>rw[zv,List.length_append,hz,ih,List.length_cons,Nat.add_mul,Nat.one_mul,Nat.add_comm]
theorem aAz(hz:∀x,(f x).length=z)(i:Nat):(qm f l).drop (i*z)=qm f (l.drop i):=by
 induction l generalizing i with
 |nil=>simp[qm]
 |cons x r ih=>
  cases i with
  |zero=>simp
  |succ i=>
   rw[zv,List.drop_succ_cons,←ih,Nat.add_mul,Nat.one_mul,Nat.add_comm,←List.drop_drop,List.drop_left' (hz x)]
theorem aAw(hz:∀x,(f x).length=z)(i:Nat):(qm f l).take (i*z)=qm f (l.take i):=by
 induction l generalizing i with
 |nil=>simp[qm]
 |cons x r ih=>
  cases i with
  |zero=>simp[yH]
  |succ i=>
   rw[zv,List.take_succ_cons,zv,←ih,Nat.add_mul,Nat.one_mul,Nat.add_comm,←hz x,List.take_length_add_append]
theorem aol(hz:∀x,(f x).length=z)(o n:Nat):cut (qm f l) (o*z) (n*z)=qm f ((l.drop o).take n):=by
 rw[cut,aAz hz,aAw hz]
theorem JX(hz:∀x,(f x).length=z){i:Nat}(hi:i<l.length)(d:X):cut (qm f l) (i*z) z=f (l.getD i d):=by
 have h:=aol (l:=l) hz i 1
 rw[Nat.one_mul]at h
 have e:(l.drop i).take 1=[l.getD i d]:=by
  rw[List.drop_eq_getElem_cons hi,List.getD_eq_getElem?_getD,List.getElem?_eq_getElem hi];rfl
 rw[h,e,zv,yH,List.append_nil]
theorem Zp{ρ:Nat→Nat}(h:∀x,zJ ρ (f x)=f x):zJ ρ (qm f l)=qm f l:=by
 induction l with
 |nil=>rfl
 |cons x r ih=>
  rw[zv]
  have:∀a b:List AV,zJ ρ (a++b)=zJ ρ a++zJ ρ b:=fun a b=>by simp[qO]
  rw[this,h,ih]
theorem yW{hp:Nat→Ob}{k:Nat}(h:∀x,(f x).map (qD hp k)=f x):(qm f l).map (qD hp k)=qm f l:=by
 induction l with
 |nil=>rfl
 |cons x r ih=>rw[zv,List.map_append,h,ih]
theorem Zq{p:Nat→Prop}(h:∀x,AllL p (f x)):AllL p (qm f l):=by
 induction l with
 |nil=>simp[qm,AllL]
 |cons x r ih=>rw[zv];exact AllL.append (h x) ih
theorem aBg{h:Nat→Ob}{sz o:Nat}{K:AV→Prop}:@yJ true sz h (.fp (qm f l) o) ⟨K⟩=(o+sz≤(qm f l).length∧K (.ag (cut (qm f l) o sz))):=ID rfl
theorem ac1{l':List X}:qm f l++qm f l'=qm f (l++l'):=by simp[qm]
end
structure FlV where
 k:Int
 s:Bool
 m:Int
 e:Int
def FlV.cs(x:FlV):List AV:=[.v (.int .i64 x.k),.v (.bool x.s),.v (.int .i64 x.m),.v (.int .i64 x.e)]
theorem aSN(x:FlV):x.cs.length=4:=rfl
theorem aEk{ρ:Nat→Nat}(x:FlV):zJ ρ x.cs=x.cs:=rfl
theorem apl{hp:Nat→Ob}{k:Nat}(x:FlV):x.cs.map (qD hp (k+1))=x.cs:=rfl
theorem aEl{p:Nat→Prop}(x:FlV):AllL p x.cs:=by simp[FlV.cs,AllL,AV.All]
theorem aKA{l:List FlV}:(qm FlV.cs l).length=l.length*4:=yI aSN
theorem aKz{ρ:Nat→Nat}{l:List FlV}:zJ ρ (qm FlV.cs l)=qm FlV.cs l:=Zp aEk
theorem aBH{hp:Nat→Ob}{k:Nat}{l:List FlV}:(qm FlV.cs l).map (qD hp (k+1))=qm FlV.cs l:=yW apl
theorem aKB{p:Nat→Prop}{l:List FlV}:AllL p (qm FlV.cs l)=True:=eq_true (Zq aEl)
theorem aBI{p:Nat→Prop}{x:FlV}:AllL p x.cs=True:=eq_true (aEl x)
attribute [go_sem] aBg aKA aKz aBH aKB aBI aEk apl
end Go.Ab
namespace Go.Ab
open Go Go.Proofs
section
variable (g:Nat)(p:FlV→Bool)
end
def bep(x:FlV):Bool:=flB x.k x.s x.m x.e
end Go.Ab
namespace Go.Ab
open Go Go.Proofs
def flV(s:Bool)(m:Nat)(e mode:Int)(z:Bool):FlV:=
 if m=0 then⟨0,z,0,0⟩else
  ⟨flK s mode (roM s m e (ZI (bl m+e)) mode) (roE m e (ZI (bl m+e))),s,baU s mode (roM s m e (ZI (bl m+e)) mode) (roE m e (ZI (bl m+e))),baV s mode (roM s m e (ZI (bl m+e)) mode) (roE m e (ZI (bl m+e)))⟩
def flG(s:Bool)(m:Nat)(e mode:Int):Int:=
 if m=0 then 0 else bbv (bl m+e) (roX m e (ZI (bl m+e))) (roM s m e (ZI (bl m+e)) mode) (roE m e (ZI (bl m+e)))
theorem ajc(s1:Bool)(m1:Nat)(e1:Int)(s2:Bool)(m2:Nat)(e2:Int)(h1:bl m1≤4000000)(h2:bl m2≤4000000)(he1: -2^40≤e1∧e1≤2^40)(he2: -2^40≤e2∧e2≤2^40):
  Con Tryz.prog 168 false [.ag [.v (.bool (s1)),.sl (lim (m1)).length (qc (lim (m1))),.v (.int .i64 (e1))],.ag [.v (.bool (s2)),.sl (lim (m2)).length (qc (lim (m2))),.v (.int .i64 (e2))]] [] (isA (.ag [.v (.bool ((s1 != s2)&&decide (m1*m2≠0))),.sl (lim (m1*m2)).length (qc (lim (m1*m2))),.v (.int .i64 (e1+e2))])):=by
 refine Con.frzA ?_
 refine Con.of_w (rs:=[.cell 4 90]) Tryz.func168 rfl Tryz.ntmps168 rfl ?_
 simp(disch:=omega)only[go_sem]
 have l1:=qE h1
 have l2:=qE h2
 refine qa (Jz m1 m2 (by omega) (by omega)) ?_
 simp(disch:=omega)only[go_sem]
 have hl:(lim (m1*m2)).length≤2000000:=by have:=qE (Nat.le_trans (YJ m1 m2) (Nat.add_le_add h1 h2));omega
 have hq:decide ((0:Int)<((lim (m1*m2)).length:Int))=decide (m1*m2≠0):=by
  rw[decide_eq_decide]
  exact⟨fun h e=>by rw[e,qn]at h;simp at h,fun h=>by have:=y0 h;omega⟩
 refine y5 (fun h3=>?_) (fun h3=>?_)
 ·simp(disch:=omega)only[go_sem,h3,hq]
  exact ql (hp:=by simp(disch:=omega)only[go_sem,h3,Bool.true_and])
 ·simp(disch:=omega)only[go_sem,h3]
  exact ql (hp:=by simp(disch:=omega)only[go_sem,h3,Bool.false_and])
end Go.Ab
namespace Go.Ab
open Go Go.Proofs
theorem adw(n lo hi:Int):Con Tryz.prog 100 true [.v (.int .i64 n),.v (.int .i64 lo),.v (.int .i64 hi)] [] (isA (.v (.bool (decide (lo≤n)&&decide (n≤hi))))):=zG n lo hi
theorem aCw(s:Bool)(xs:List Int)(e:Int)(hl:xs.length≤2^40):Con Tryz.prog 63 true [.ag [.v (.bool s),.sl xs.length (qc xs),.v (.int .i64 e)]] [] (isA (.v (.bool (dyB s xs e)))):=by
 refine Con.of_aw Tryz.func63 rfl Tryz.ntmps63 (by simp) (by simp) (by simp) (W.sound ?_)
 show @W Tryz.prog 32 ⟨_⟩ ⟨fun x σ=>@qX _ _ _ ⟨_⟩ _ ⟨_⟩ x σ⟩ _ _
 simp(disch:=omega)only[go_sem]
 refine qj (adx s xs hl) ?_
 simp(disch:=omega)only[go_sem]
 refine y5 (fun hw=>?_) (fun h1=>?_)
 ·have h1:=hw
  simp only[zH,Bool.and_eq_true]at h1
  obtain⟨hx,hll⟩:=Q3 h1.1
  have hxs:xs=lim (vl xs).toNat:=hx
  generalize hm:(vl xs).toNat=m at*
  subst hx
  simp(disch:=omega)only[go_sem,hw]
  refine qj (adw e (-3000) 3000) ?_
  simp(disch:=omega)only[go_sem]
  refine aeA (fun h2=>?_) (fun h2=>?_)
  ·simp(disch:=omega)only[go_sem,h2]
   refine qz (by simp(disch:=omega)only[go_sem]) (by simp(disch:=omega)only[go_sem]) ⟨?_,rfl,rfl⟩
   simp[zh,dyB,hw,h2]
  ·simp(disch:=omega)only[go_sem,h2]
   refine qj (K7 m 0 (by omega) (by omega) (by omega)) ?_
   simp(disch:=omega)only[go_sem]
   refine zz (fun h3=>?_) (fun h3=>?_)
   ·have h3':¬m % 2=1:=fun h=>h3 (by simp;omega)
    simp(disch:=omega)only[go_sem,h3]
    refine qe (fun h4=>?_) (fun h4=>?_)
    ·simp(disch:=omega)only[go_sem,h4]
     refine qz (by simp(disch:=omega)only[go_sem]) (by simp(disch:=omega)only[go_sem]) ⟨?_,rfl,rfl⟩
     have h4':(lim m).length=0:=by omega
     simp[zh,dyB,hw,h2,hm,h3',h4']
    ·simp(disch:=omega)only[go_sem,h4]
     refine qz (by simp(disch:=omega)only[go_sem]) (by simp(disch:=omega)only[go_sem]) ⟨?_,rfl,rfl⟩
     have h4':¬(lim m).length=0:=by omega
     simp[zh,dyB,hw,h2,hm,h3',h4']
   ·have h3':m % 2=1:=by simp at h3;omega
    simp(disch:=omega)only[go_sem,h3]
    refine qz (by simp(disch:=omega)only[go_sem]) (by simp(disch:=omega)only[go_sem]) ⟨?_,rfl,rfl⟩
    simp[zh,dyB,hw,h2,hm,h3']
 ·simp(disch:=omega)only[go_sem,h1]
  refine qz (by simp(disch:=omega)only[go_sem]) (by simp(disch:=omega)only[go_sem]) ⟨?_,rfl,rfl⟩
  simp[zh,dyB,h1]
end Go.Ab
namespace Go.Ab
open Go Go.Proofs
theorem yN(s:Bool)(m:Nat)(e:Int):Con Tryz.prog 66 false [.ag [.v (.bool (s)),.sl (lim (m)).length (qc (lim (m))),.v (.int .i64 (e))]] [] (isA (.ag [.v (.bool (s)),.sl (lim (m)).length (qc (lim (m))),.v (.int .i64 (e))])):=by
 refine Con.frzA ?_
 refine Con.of_w (rs:=[.cell 2 90]) Tryz.func66 rfl Tryz.ntmps66 rfl ?_
 simp(disch:=omega)only[go_sem]
 exact ql
def bdI(mode:Int):Bool:=decide (0≤mode)&&decide (mode≤4)
def dyV:AV→AV:=id
end Go.Ab
namespace Go.Ab
open Go Go.Proofs
end Go.Ab
namespace Go.Ab
open Go Go.Proofs
def muS(k1:Int)(s1:Bool)(m1:Int)(k2:Int)(s2:Bool)(m2:Int):Bool:=((s1&&decide (k1=1)) != (s2&&decide (k2=1)))&&decide (m1.toNat*m2.toNat≠0)
def beg(k1:Int)(s1:Bool)(m1 e1 k2:Int)(s2:Bool)(m2 e2 mode:Int):FlV:=
 if(decide (k1=3)||decide (k2=3))=true then⟨3,false,0,0⟩
 else if(decide (k1=2)||decide (k2=2))=true then(if(decide (k1=0)||decide (k2=0))=true then⟨3,false,0,0⟩else⟨2,s1 != s2,0,0⟩)
 else flV (muS k1 s1 m1 k2 s2 m2) (m1.toNat*m2.toNat) (e1+e2) mode (s1 != s2)
def beh(k1:Int)(s1:Bool)(m1 e1 k2:Int)(s2:Bool)(m2 e2 mode:Int):Int:=
 if(decide (k1=3)||decide (k2=3))=true then 0
 else if(decide (k1=2)||decide (k2=2))=true then(if(decide (k1=0)||decide (k2=0))=true then 16 else 0)
 else flG (muS k1 s1 m1 k2 s2 m2) (m1.toNat*m2.toNat) (e1+e2) mode
end Go.Ab
namespace Go.Ab
open Go Go.Proofs
section
variable {k1:Int}{s1:Bool}{m1 e1 k2:Int}{s2:Bool}{m2 e2 mode:Int}
end
end Go.Ab
namespace Go.Ab
theorem aOH(m:Nat):oM m % 2=1∨oM m=0:=by
 by_cases h0:m=0
 ·exact .inr (yk.2 h0)
 ·exact .inl (yY h0).1
theorem bdC(s:Bool)(m:Nat):oM m=0→oS s m=false:=fun h=>by unfold oS;rw[if_pos (yk.1 h)]
end Go.Ab
namespace Go.Ab
open Go
theorem Z4(m:Nat):bhp [] m=.free:=by unfold bhp;split<;>simp
theorem Con.enter{P:Program}{f:FuncId}{cl:Bool}{args:List AV}{x:Value}(h:Con P f cl args [] (isA (.v x)))(R:Nat→Prop)(w:World)(vs:Array Value)
  (hlt:∀b,R b→b<w.heap.size) (hr:RepA R (fun _=>none) w vs args) (ha:AllL (fun m=>bhp [] m≠ .free) args) (hg:Gd w):
  Calls P f vs w fun e w'=>e=.returned x∧Ext (fun _=>False) w w':=by
 have hno:∀b,¬aq5 (bhp []) (fun _=>none) b:=fun b ⟨nm,z,cs,B,e,_⟩=>by rw[Z4]at e;cases e
 have hh:HpOk R (fun _=>none) w (bhp []):=
  ⟨fun nm=>(by rw[Z4];trivial),fun nm z cs B e=>absurd e (by rw[Z4];simp),fun nm nm' z z' cs cs' B B' e=>absurd e (by rw[Z4];simp),fun nm z cs e=>absurd e (by rw[Z4];simp)⟩
 refine(h R (fun _=>none) w vs hlt hr ha hh ⟨hg,fun g l _=>hno g⟩).mono ?_
 rintro e w' ⟨y,r,hs,bs',R',ι',rfl,⟨rfl,rfl,rfl⟩,hf⟩
 refine⟨?_,hf.ext.os,hf.ext.tape,hf.ext.output,hf.ext.size,fun b hb _=>hf.ext.block b hb (hno b)⟩
 cases hf.rep with
 |fr _ _ h=>cases h;rfl
theorem Ext.kept{w w':World}(h:Ext (fun _=>False) w w')(may:MemPlace→Prop):w.keptBut w' may:=by
 refine⟨h.os,h.output,fun i hi=>?_⟩
 rw[h.block i hi (fun h=>h)]
 cases w.heap[i]? with
 |none=>trivial
 |some o=>cases o with
  |cells c t fr=>exact⟨rfl,rfl,rfl,fun _ _=>rfl⟩
  |map es cl=>exact .inr ⟨rfl,rfl⟩
  |_=>rfl
theorem Ext.below{w w':World}(h:Ext (fun _=>False) w w'):RowKit.Below w.heap.size w w':=⟨h.os,h.tape,h.output,h.size,fun k hk=>h.block k hk (fun h=>h)⟩
theorem Ext.trod{H:Type}{enc:TypeId×Value→H}{P:Program}{t:TypeId}{W W':World}(hw:Ext (fun _=>False) W W')(hl:laidOutB P=true)(hr:P.readableRec t=true)(hrow:t<P.types.size){v:Value}{d:DataW H}{ps:List MemPlace}
  (h:DataW.Trod enc P W 0 (fun _=>true) true t v d ps) (hlt:∀x∈ps,x.block<W.heap.size):DataW.Trod enc P W' 0 (fun b=>decide (b<W.heap.size)) true t v d ps:=
 RowKit.Below.trod hl hr hrow h hw.below hlt
theorem aeO{w:World}{a:Addr}{v:Value}(h:w.cell? a=some v):a.block<w.heap.size:=by
 rcases Nat.lt_or_ge a.block w.heap.size with h'|h'
 ·exact h'
 ·simp[World.cell?,Array.getElem?_eq_none h']at h
theorem aTE(b o i:Nat):(⟨b,o,none⟩:Addr).add i=⟨b,o+i,none⟩:=by
 unfold Addr.add
 split
 ·subst_vars;rfl
 ·rfl
theorem aBz{R:Nat→Prop}{W:World}:FRep R W (.slice none 0 0) (.sl 0 []):=
 .sl none 0 0 [] (fun _=>undef) 0 0 (Nat.le_refl _) (fun h=>absurd h (by simp)) (fun i h=>absurd h (by simp)) (fun i h=>absurd h (by simp))
end Go.Ab
namespace Go.Ab
open Go
structure DyV where
 s:Bool
 xs:List Int
 e:Int
def DyV.cs(x:DyV):List AV:=[.v (.bool x.s),.sl x.xs.length (qc x.xs),.v (.int .i64 x.e)]
theorem KN(x:DyV):x.cs.length=3:=rfl
theorem aEr{ρ:Nat→Nat}(x:DyV):zJ ρ x.cs=x.cs:=rfl
theorem apz{hp:Nat→Ob}{k:Nat}(x:DyV):x.cs.map (qD hp (k+1))=x.cs:=rfl
theorem aEs{p:Nat→Prop}(x:DyV):AllL p x.cs:=by simp[DyV.cs,AllL,AV.All]
theorem aLh{l:List DyV}:(qm DyV.cs l).length=l.length*3:=yI KN
theorem aLg{ρ:Nat→Nat}{l:List DyV}:zJ ρ (qm DyV.cs l)=qm DyV.cs l:=Zp aEr
theorem aeG{hp:Nat→Ob}{k:Nat}{l:List DyV}:(qm DyV.cs l).map (qD hp (k+1))=qm DyV.cs l:=yW apz
theorem apy{p:Nat→Prop}{l:List DyV}:AllL p (qm DyV.cs l)=True:=eq_true (Zq aEs)
theorem aCb{p:Nat→Prop}{x:DyV}:AllL p x.cs=True:=eq_true (aEs x)
attribute [go_sem] aLh aLg aeG apy aCb aEr apz
end Go.Ab
namespace Go.Ab
open Go
/-! ### The simplifier's words for truth values-/
theorem bd0:(true==true)=true:=ID rfl
theorem bd5:(false==false)=true:=ID rfl
theorem bd1:(true==false)=false:=ID rfl
theorem bd2:(false==true)=false:=ID rfl
theorem bdD:(true != true)=false:=ID rfl
theorem bdG:(false != false)=false:=ID rfl
theorem bdE:(true != false)=true:=ID rfl
theorem bdF:(false != true)=true:=ID rfl
theorem o_t(b:Bool):(true||b)=true:=ID rfl
theorem o_f(b:Bool):(false||b)=b:=ID rfl
theorem bdA(b:Bool):(b||true)=true:=by cases b<;>rfl
theorem bdB(b:Bool):(b||false)=b:=by cases b<;>rfl
theorem a_t(b:Bool):(true&&b)=b:=ID rfl
theorem a_f(b:Bool):(false&&b)=false:=ID rfl
theorem bd8(b:Bool):(b&&true)=b:=by cases b<;>rfl
theorem bd9(b:Bool):(b&&false)=false:=by cases b<;>rfl
attribute [go_sem] bd0 bd5 bd1 bd2 bdD bdG bdE bdF o_t o_f
attribute [go_sem] bdA bdB a_t a_f bd8 bd9
theorem aL2{P:Program}{t:TypeId}[h:FlE P t]{k m e k' m' e':Int}{s s':Bool}{K:AV→Prop}:
  @zY P .eql t (.ag [.v (.int .i64 k),.v (.bool s),.v (.int .i64 m),.v (.int .i64 e)]) (.ag [.v (.int .i64 k'),.v (.bool s'),.v (.int .i64 m'),.v (.int .i64 e')]) ⟨K⟩=K (.v (.bool (aSO k s m e k' s' m' e'))):=
 propext ⟨fun g=>g.2,fun g=>⟨h,g⟩⟩
theorem aL1{P:Program}{t:TypeId}[h:FlE P t]{k m e k' m' e':Int}{s s':Bool}{K:AV→Prop}:
  @zY P .neq t (.ag [.v (.int .i64 k),.v (.bool s),.v (.int .i64 m),.v (.int .i64 e)]) (.ag [.v (.int .i64 k'),.v (.bool s'),.v (.int .i64 m'),.v (.int .i64 e')]) ⟨K⟩=K (.v (.bool (!aSO k s m e k' s' m' e'))):=
 propext ⟨fun g=>g.2,fun g=>⟨h,g⟩⟩
attribute [go_sem] aL2 aL1
/-! ### Bits of any numbers-/
def bbo(x y:Int):Int:=IntKind.i64.wrap (BitVec.ofInt IntKind.i64.bits x^^^BitVec.ofInt IntKind.i64.bits y).toNat
theorem aLN{x y:Int}{P:Program}{t:Nat}{K:AV→Prop}:@zY P .xor t (.v (.int .i64 x)) (.v (.int .i64 y)) ⟨K⟩=K (.v (.int .i64 (bbo x y))):=by
 simp only[zY,QL,ZF,true_and];rfl
theorem Zx(x:Int):((BitVec.ofInt 64 x).toNat:Int)=x % 18446744073709551616:=by
 rw[BitVec.toNat_ofInt];omega
theorem ajO{x:Int}{P:Program}{t:Nat}{K:AV→Prop}:@zY P .and t (.v (.int .i64 x)) (.v (.int .i64 255)) ⟨K⟩=K (.v (.int .i64 (x % 256))):=by
 have e:IntKind.i64.wrap (BitVec.ofInt 64 x&&&BitVec.ofInt 64 255).toNat=x % 256:=by
  have h1:=Zx x
  have h2:(BitVec.ofInt 64 255).toNat=2^8-1:=by decide
  rw[BitVec.toNat_and,h2,Nat.and_two_pow_sub_one_eq_mod,QW (by omega)]
  omega
 rw[←e];simp only[zY,QL,ZF,true_and];rfl
theorem aqF{x:Int}{P:Program}{t:Nat}{K:AV→Prop}:@zY P .and t (.v (.int .i64 x)) (.v (.int .i64 1073741823)) ⟨K⟩=K (.v (.int .i64 (x % 1073741824))):=by
 have e:IntKind.i64.wrap (BitVec.ofInt 64 x&&&BitVec.ofInt 64 1073741823).toNat=x % 1073741824:=by
  have h1:=Zx x
  have h2:(BitVec.ofInt 64 1073741823).toNat=2^30-1:=by decide
  rw[BitVec.toNat_and,h2,Nat.and_two_pow_sub_one_eq_mod,QW (by omega)]
  omega
 rw[←e];simp only[zY,QL,ZF,true_and];rfl
attribute [go_sem] aLN ajO aqF
theorem aBj{h:Nat→Ob}{n n' z z':Nat}{cs cs':List AV}(hn:h n=.own z cs)(hc:AllL (fun _=>False) cs)(hn':h n'=.own z' cs')(hc':AllL (fun _=>False) cs'):Ju h [n,n']:=by
 intro m hm
 rw[List.mem_cons,List.mem_singleton]at hm
 rcases hm with rfl|rfl
 ·exact⟨z,cs,hn,hc.mono fun _ h=>h.elim⟩
 ·exact⟨z',cs',hn',hc'.mono fun _ h=>h.elim⟩
def ZA(h:Nat→Ob)(nms:List Nat):List Nat→List Ob
 | []=>[]
 |n::r=>(h n).ren (back nms)::ZA h nms r
theorem Ky{h:Nat→Ob}{nms:List Nat}:∀r:List Nat,ZA h nms r=r.map (fun n=>(h n).ren (back nms))
 | []=>rfl
 |n::r=>by rw[ZA,List.map_cons,Ky r]
theorem aoS{h:Nat→Ob}{nms:List Nat}:ZA h nms []=[]:=ID rfl
theorem aiW{h:Nat→Ob}{nms:List Nat}{n:Nat}{r:List Nat}:ZA h nms (n::r)=(h n).ren (back nms)::ZA h nms r:=ID rfl
attribute [go_sem] aoS aiW
theorem Qd{P:Program}{f:FuncId}{aa0:List AV}{h:Nat→Ob}{c:Nat}{K:KV}(cl:Bool)(nms:List Nat){args:List AV}{bs:List Ob}{post:AV→List Ob→List Ob→Prop}(hc:Con P f cl args bs post)(ha:aa0.map (snp (hpx cl nms h) (idx nms) 6)=args)
  (hb:ZA h nms nms=bs) (hnd:QG nms=true) (hl:Ju h nms) (hin:∀n∈nms,∃a∈aa0,a.top=some n)
  (hk:∀r hs bs',post r hs bs'→bs'.length=bs.length→(hs.length≤10000000∧qK h c hs∧(cl=true→∀ob∈bs',ob.plain))∧K (r.ren (rho c nms)) (Qh (aai (rho c nms) h c hs) nms (bs'.map (Ob.ren (rho c nms))))):@Je P f aa0 h c ⟨K⟩:=
 q6 cl nms hc ha ((Ky nms).symm.trans hb) hnd hl hin hk
end Go.Ab
namespace Go.Ab
open Go Go.Proofs
def jG(m:Nat):Bool:=decide ((lim m).length≤100)
def jf(m:Nat)(e:Int):Bool:=jG (oM m)&&(decide (-3000≤oE m e)&&decide (oE m e≤3000))
theorem apT(m:Nat)(hl:(lim m).length≤2^40):Con Tryz.prog 222 false [.sl (lim (m)).length (qc (lim (m)))] [] (isA (if jG m=true then .tu [.ag [.sl (lim (m)).length (qc (lim (m)))],.v (.bool true)]else .tu [.ag [.sl (lim (0)).length (qc (lim (0)))],.v (.bool false)])):=by
 refine Con.frzA ?_
 refine Con.of_w (rs:=[.cell 2 25,.tmp 3]) Tryz.func222 rfl Tryz.ntmps222 rfl ?_
 simp(disch:=omega)only[go_sem]
 refine qe (fun c1=>?_) (fun c1=>?_)
 ·have hf:jG m=false:=by unfold jG;simp;omega
  simp(disch:=omega)only[go_sem,c1]
  rw[hf,if_neg (by simp),qn]
  exact ql
 ·have hf:jG m=true:=by unfold jG;simp;omega
  simp(disch:=omega)only[go_sem,c1]
  rw[hf,if_pos rfl]
  refine qa ((K6 false (lim m) (by omega)).num) ?_
  simp(disch:=omega)only[go_sem]
  exact ql
theorem ady(s:Bool)(m:Nat)(hl:(lim m).length≤2^40):Con Tryz.prog 145 false [.v (.bool s),.sl (lim (m)).length (qc (lim (m)))] [] (isA (if jG m=true then .tu [.ag [.v (.bool (s&&decide (m≠0))),.sl (lim (m)).length (qc (lim (m)))],.v (.bool true)]else .tu [.ag [.v (.bool (false)),.sl (lim (0)).length (qc (lim (0)))],.v (.bool false)])):=by
 refine Con.frzA ?_
 have cn:=apT m hl
 have hq:decide ((0:Int)<((lim m).length:Int))=decide (m≠0):=by
  rw[decide_eq_decide]
  exact⟨fun h e=>by rw[e,qn]at h;simp at h,fun h=>by have:=y0 h;omega⟩
 cases hf:jG m
 ·rw[hf,if_neg (by simp)]at cn
  rw[if_neg (by simp),qn]
  refine Con.of_w (rs:=[.cell 4 27,.tmp 5]) Tryz.func145 rfl Tryz.ntmps145 rfl ?_
  simp(disch:=omega)only[go_sem]
  refine qa (cn) ?_
  simp(disch:=omega)only[go_sem]
  exact ql
 ·rw[hf,if_pos rfl]at cn
  rw[if_pos rfl]
  refine Con.of_w (rs:=[.cell 4 27,.tmp 5]) Tryz.func145 rfl Tryz.ntmps145 rfl ?_
  simp(disch:=omega)only[go_sem]
  refine qa (cn) ?_
  simp(disch:=omega)only[go_sem]
  cases s
  ·simp(disch:=omega)only[go_sem]
   exact ql
  ·simp(disch:=omega)only[go_sem,hq]
   exact ql
theorem aLs(s:Bool)(m:Nat)(e:Int)(hm:bl m≤10000000)(he: -2^39≤e∧e≤2^39):Con Tryz.prog 68 false [.ag [.v (.bool (s)),.sl (lim (m)).length (qc (lim (m))),.v (.int .i64 (e))]] [] (isA (if jf m e=true then .tu [.ag [.v (.bool (oS s m)),.sl (lim (oM m)).length (qc (lim (oM m))),.v (.int .i64 (oE m e))],.v (.bool true)]else .tu [.ag [.v (.bool (false)),.sl (lim (0)).length (qc (lim (0))),.v (.int .i64 (0))],.v (.bool false)])):=by
 refine Con.frzA ?_
 have hb:=Nat.le_trans (jV (aJo m)) hm
 have hl:=qE hb
 have cw:=ady (oS s m) (oM m) (by omega)
 have hs:(oS s m&&decide (oM m≠0))=oS s m:=by
  unfold oS
  by_cases h:m=0
  ·rw[if_pos h];rfl
  ·rw[if_neg h,decide_eq_true (show oM m≠0 from fun e=>h (yk.1 e)),Bool.and_true]
 rw[hs]at cw
 cases hf:jG (oM m)
 ·rw[hf,if_neg (by simp)]at cw
  have hd:jf m e=false:=by unfold jf;rw[hf];rfl
  rw[hd,if_neg (by simp),qn]
  rw[qn]at cw
  refine Con.of_w (rs:=[.cell 2 29,.tmp 3]) Tryz.func68 rfl Tryz.ntmps68 rfl ?_
  simp(disch:=omega)only[go_sem]
  refine qa (apR s m e hm (by omega)) ?_
  simp(disch:=omega)only[go_sem]
  refine qa (cw) ?_
  simp(disch:=omega)only[go_sem]
  exact ql
 ·rw[hf,if_pos rfl]at cw
  have hd:jf m e=(decide (-3000≤oE m e)&&decide (oE m e≤3000)):=by unfold jf;rw[hf];rfl
  rw[hd]
  refine Con.of_w (rs:=[.cell 2 29,.tmp 3]) Tryz.func68 rfl Tryz.ntmps68 rfl ?_
  simp(disch:=omega)only[go_sem]
  refine qa (apR s m e hm (by omega)) ?_
  simp(disch:=omega)only[go_sem]
  refine qa (cw) ?_
  simp(disch:=omega)only[go_sem]
  refine qj (zG (oE m e) (-3000) 3000) ?_
  simp(disch:=omega)only[go_sem]
  refine aeA (fun h=>?_) (fun h=>?_)
  ·simp(disch:=omega)only[go_sem,h]
   rw[h,if_neg (by simp),qn]
   exact ql
  ·simp(disch:=omega)only[go_sem,h]
   rw[h,if_pos rfl]
   exact ql
end Go.Ab
namespace Go.Ab
end Go.Ab
namespace Go.Ab
/-! ### Sums of floats-/
def ngS(k:Int)(s:Bool):Bool:=if k=3 then s else !s
def xS(k:Int)(s:Bool):Bool:=s&&decide (k=1)
def adZ(k1:Int)(s1:Bool)(k2:Int)(s2:Bool)(mode:Int):Bool:=if k1=0∧k2=0∧s1=s2 then s1 else decide (mode=3)
def bd6(k1:Int)(s1:Bool)(m1 e1 k2:Int)(s2:Bool)(m2 e2 mode:Int):FlV:=
 if k1=3∨k2=3 then⟨3,false,0,0⟩
 else if k1=2∧k2=2∧s1≠s2 then⟨3,false,0,0⟩
 else if k1=2 then⟨k1,s1,m1,e1⟩
 else if k2=2 then⟨k2,s2,m2,e2⟩
 else flV (adS (xS k1 s1) m1.toNat e1 (xS k2 s2) m2.toNat e2) (adM (xS k1 s1) m1.toNat e1 (xS k2 s2) m2.toNat e2) (alE m1.toNat e1 m2.toNat e2) mode (adZ k1 s1 k2 s2 mode)
def bd7(k1:Int)(s1:Bool)(m1 e1 k2:Int)(s2:Bool)(m2 e2 mode:Int):Int:=
 if k1=3∨k2=3 then 0
 else if k1=2∧k2=2∧s1≠s2 then 16
 else if k1=2 then 0
 else if k2=2 then 0
 else flG (adS (xS k1 s1) m1.toNat e1 (xS k2 s2) m2.toNat e2) (adM (xS k1 s1) m1.toNat e1 (xS k2 s2) m2.toNat e2) (alE m1.toNat e1 m2.toNat e2) mode
section
variable {k1:Int}{s1:Bool}{m1 e1 k2:Int}{s2:Bool}{m2 e2 mode:Int}
end
/-! ### A product and a sum-/
def fmZ(k1:Int)(s1:Bool)(k2:Int)(s2:Bool)(k3:Int)(s3:Bool)(mode:Int):Bool:=if(k1=0∨k2=0)∧k3=0∧s3=(s1 != s2)then s3 else decide (mode=3)
def ben(k1:Int)(s1:Bool)(m1 e1 k2:Int)(s2:Bool)(m2 e2 k3:Int)(s3:Bool)(m3 e3 mode:Int):FlV:=
 if k1=3∨k2=3 then⟨3,false,0,0⟩
 else if k1=2∨k2=2 then(if k1=0∨k2=0 then⟨3,false,0,0⟩else bd6 2 (s1 != s2) 0 0 k3 s3 m3 e3 mode)
 else if k3=2∨k3=3 then⟨k3,s3,m3,e3⟩
 else flV (adS (muS k1 s1 m1 k2 s2 m2) (m1.toNat*m2.toNat) (e1+e2) (xS k3 s3) m3.toNat e3) (adM (muS k1 s1 m1 k2 s2 m2) (m1.toNat*m2.toNat) (e1+e2) (xS k3 s3) m3.toNat e3) (alE (m1.toNat*m2.toNat) (e1+e2) m3.toNat e3) mode (fmZ k1 s1 k2 s2 k3 s3 mode)
def beo(k1:Int)(s1:Bool)(m1 e1 k2:Int)(s2:Bool)(m2 e2 k3:Int)(s3:Bool)(m3 e3 mode:Int):Int:=
 if k1=3∨k2=3 then 0
 else if k1=2∨k2=2 then(if k1=0∨k2=0 then 16 else bd7 2 (s1 != s2) 0 0 k3 s3 m3 e3 mode)
 else if k3=2∨k3=3 then 0
 else flG (adS (muS k1 s1 m1 k2 s2 m2) (m1.toNat*m2.toNat) (e1+e2) (xS k3 s3) m3.toNat e3) (adM (muS k1 s1 m1 k2 s2 m2) (m1.toNat*m2.toNat) (e1+e2) (xS k3 s3) m3.toNat e3) (alE (m1.toNat*m2.toNat) (e1+e2) m3.toNat e3) mode
section
variable {k1:Int}{s1:Bool}{m1 e1 k2:Int}{s2:Bool}{m2 e2 k3:Int}{s3:Bool}{m3 e3 mode:Int}
end
end Go.Ab
namespace Go.Ab
theorem aCA(x y p:Int)(hp:0<p):zA (x*p) (y*p)=zA x y:=by
 unfold zA
 have h1:x*p<y*p↔x<y:=⟨fun h=>Int.lt_of_mul_lt_mul_right h (Int.le_of_lt hp),fun h=>Int.mul_lt_mul_of_pos_right h hp⟩
 have h2:y*p<x*p↔y<x:=⟨fun h=>Int.lt_of_mul_lt_mul_right h (Int.le_of_lt hp),fun h=>Int.mul_lt_mul_of_pos_right h hp⟩
 simp only[h1,h2]
theorem Qf{m:Nat}{e E:Int}:alA m e E=0↔m=0:=by
 unfold alA
 have:0<2^(e-E).toNat:=Nat.pow_pos (by omega)
 constructor
 ·intro h
  rcases Nat.mul_eq_zero.1 h with h|h
  ·exact h
  ·omega
 ·intro h;rw[h,Nat.zero_mul]
theorem aeN{K:Nat}{s1:Bool}{m1:Nat}{e1:Int}{s2:Bool}{m2:Nat}{e2:Int}(h1: -(K:Int)≤e1)(h2: -(K:Int)≤e2):
  zA (sv s1 (alA m1 e1 (alE m1 e1 m2 e2))) (sv s2 (alA m2 e2 (alE m1 e1 m2 e2)))=zA (dv K s1 m1 e1) (dv K s2 m2 e2):=by
 have hE: -(K:Int)≤alE m1 e1 m2 e2:=QM h1 h2
 have g1:m1≠0→alE m1 e1 m2 e2≤e1:=fun h=>by
  unfold alE
  repeat' split
  all_goals omega
 have g2:m2≠0→alE m1 e1 m2 e2≤e2:=fun h=>by
  unfold alE
  repeat' split
  all_goals omega
 rw[←aeR hE g1,←aeR hE g2,aCA _ _ _ (Int.pow_pos (by omega))]
theorem aac{s1:Bool}{m1:Nat}{s2:Bool}{m2:Nat}(z1:m1=0→s1=false)(z2:m2=0→s2=false):
  zA (sv s1 m1) (sv s2 m2)=if s1=true then(if s2=true then zA (m2:Int) (m1:Int)else-1)else(if s2=true then 1 else zA (m1:Int) (m2:Int)):=by
 cases s1<;>cases s2<;>simp only[sv,if_true,Bool.false_eq_true,if_false]
 ·have:m2≠0:=fun h=>by have:=z2 h;cases this
  unfold zA;rw[if_neg (by omega),if_pos (by omega)]
 ·have:m1≠0:=fun h=>by have:=z1 h;cases this
  unfold zA;rw[if_pos (by omega)]
 ·unfold zA
  rcases Int.lt_trichotomy (m1:Int) m2 with h|h|h
  ·rw[if_neg (by omega),if_pos (by omega),if_neg (by omega),if_pos (by omega)]
  ·rw[if_neg (by omega),if_neg (by omega),if_neg (by omega),if_neg (by omega)]
  ·rw[if_pos (by omega),if_pos (by omega)]
theorem aqn(x y:Int):(zA x y≤0↔x≤y)∧(zA x y<0↔x<y)∧(zA x y=0↔x=y):=by
 unfold zA
 split
 ·omega
 ·split<;>omega
theorem aqm(x:Int):zA x x=0:=by unfold zA;rw[if_neg (by omega),if_neg (by omega)]
end Go.Ab
namespace Go.Ab
open Go Go.Proofs
theorem Qw(s1:Bool)(m1:Nat)(s2:Bool)(m2:Nat)(l1:(lim m1).length≤2^40)(l2:(lim m2).length≤2^40)(z1:m1=0→s1=false)(z2:m2=0→s2=false):
  Con Tryz.prog 184 true [.v (.bool s1),.sl (lim (m1)).length (qc (lim (m1))),.v (.bool s2),.sl (lim (m2)).length (qc (lim (m2)))] [] (isA (.v (.int .i64 (zA (sv s1 m1) (sv s2 m2))))):=by
 rw[aac z1 z2]
 cases s1<;>cases s2
 ·refine Con.of_w (rs:=[.tmp 8]) Tryz.func184 rfl Tryz.ntmps184 rfl ?_
  simp(disch:=omega)only[go_sem]
  refine qj (zU m1 m2 l1 l2) ?_
  simp(disch:=omega)only[go_sem]
  exact qu
 ·refine Con.of_w (rs:=[.tmp 8]) Tryz.func184 rfl Tryz.ntmps184 rfl ?_
  simp(disch:=omega)only[go_sem]
  exact qu
 ·refine Con.of_w (rs:=[.tmp 8]) Tryz.func184 rfl Tryz.ntmps184 rfl ?_
  simp(disch:=omega)only[go_sem]
  exact qu
 ·refine Con.of_w (rs:=[.tmp 8]) Tryz.func184 rfl Tryz.ntmps184 rfl ?_
  simp(disch:=omega)only[go_sem]
  refine qj (zU m2 m1 l2 l1) ?_
  simp(disch:=omega)only[go_sem]
  exact qu
theorem K5(K:Nat)(s1:Bool)(m1:Nat)(e1:Int)(s2:Bool)(m2:Nat)(e2:Int)(h1:bl m1≤4000000)(h2:bl m2≤4000000)(he1: -1000000≤e1∧e1≤1000000)(he2: -1000000≤e2∧e2≤1000000)(k1: -(K:Int)≤e1)(k2: -(K:Int)≤e2)(z1:m1=0→s1=false)(z2:m2=0→s2=false):
  Con Tryz.prog 105 true [.ag [.v (.bool (s1)),.sl (lim (m1)).length (qc (lim (m1))),.v (.int .i64 (e1))],.ag [.v (.bool (s2)),.sl (lim (m2)).length (qc (lim (m2))),.v (.int .i64 (e2))]] [] (isA (.v (.int .i64 (zA (dv K s1 m1 e1) (dv K s2 m2 e2))))):=by
 have hE:=QM (m1:=m1) (m2:=m2) he1.1 he2.1
 have b1:=qE (JM (e:=e1) (E:=alE m1 e1 m2 e2) (C:=2000000) h1 (by omega))
 have b2:=qE (JM (e:=e2) (E:=alE m1 e1 m2 e2) (C:=2000000) h2 (by omega))
 rw[←aeN k1 k2]
 have y1:alA m1 e1 (alE m1 e1 m2 e2)=0→s1=false:=fun h=>z1 (Qf.1 h)
 have y2:alA m2 e2 (alE m1 e1 m2 e2)=0→s2=false:=fun h=>z2 (Qf.1 h)
 refine Con.of_w (rs:=[.tmp 4]) Tryz.func105 rfl Tryz.ntmps105 rfl ?_
 simp(disch:=omega)only[go_sem]
 refine qa (ZV s1 m1 e1 s2 m2 e2 h1 h2 he1 he2) ?_
 simp(disch:=omega)only[go_sem]
 refine qj (Qw s1 (alA m1 e1 (alE m1 e1 m2 e2)) s2 (alA m2 e2 (alE m1 e1 m2 e2)) (by omega) (by omega) y1 y2) ?_
 simp(disch:=omega)only[go_sem]
 exact qu
def rkF(k:Int)(s:Bool):Int:=if k=2 then(if s=true then-1 else 1)else 0
def bes(k1:Int)(s1:Bool)(m1 e1 k2:Int)(s2:Bool)(m2 e2:Int):Int:=
 if rkF k1 s1≠rkF k2 s2∨rkF k1 s1≠0 then zA (rkF k1 s1) (rkF k2 s2)else zA (dv 3000 (xS k1 s1) m1.toNat e1) (dv 3000 (xS k2 s2) m2.toNat e2)
end Go.Ab
namespace Go.Ab
open Go
theorem ai1{R:Nat→Prop}{W:World}{a:Addr}{len cap:Nat}{zs:List Int}(hle:len≤cap)(hz:zs.length=cap)(hc:∀i,i<zs.length→W.cell? (a.add i)=some (.int .u8 (zs.getD i 0)))(hw:∀n∈zs,0≤n∧n<256)(hR:∀b,b<W.heap.size→R b):
  FRep R W (.slice (some a) len cap) (.sl ((zs.take len).map fun n=>UInt8.ofNat n.toNat).length (qk ((zs.take len).map fun n=>UInt8.ofNat n.toNat))):=by
 have hl:((zs.take len).map fun n=>UInt8.ofNat n.toNat).length=len:=by rw[List.length_map,List.length_take];omega
 have hil:(qk ((zs.take len).map fun n=>UInt8.ofNat n.toNat)).length=len:=by unfold qk;rw[List.length_map,hl]
 rw[hl]
 obtain⟨b,o,sp⟩:=a
 have hsp:0<len→sp=none:=fun h0=>by
  have h1:=World.cell?_spot (hc 0 (by omega))
  simpa [Addr.add]using h1
 refine .sl _ len cap _ (fun i=>.int .u8 (zs.getD i 0)) b o hle (fun h0=>?_) (fun i hi=>?_) (fun i hi=>?_)
 ·have hs:=hsp (by omega)
  subst hs
  exact⟨rfl,hR _ (aeO (hc 0 (by omega)))⟩
 ·have hs:=hsp (by omega)
  subst hs
  have h1:=hc i (by omega)
  rw[aTE]at h1
  exact h1
 ·have:(qk ((zs.take len).map fun n=>UInt8.ofNat n.toNat))[i]=.v (.int .u8 (zs.getD i 0)):=by
   have hi2:i<zs.length:=by omega
   have hm:=hw zs[i] (List.getElem_mem hi2)
   simp only[qk,List.getElem_map,List.getElem_take,List.getD_eq_getElem?_getD]
   rw[List.getElem?_eq_getElem hi2]
   simp only[Option.getD_some]
   congr 2
   rw[UInt8.toNat_ofNat']
   omega
  rw[this]
  exact .v _
theorem aOR{n:Int}(h:(Lit.int .u8 n).wf=true):0≤n∧n<256:=by
 have h':IntKind.u8.min≤n∧n≤IntKind.u8.max:=by simpa [Lit.wf]using h
 have h1:IntKind.u8.min=0:=rfl
 have h2:IntKind.u8.max=255:=rfl
 omega
theorem aAE{R:Nat→Prop}{ι:Nat→Option Blk}{w:World}{x:Value}{a:AV}(h1:Rep R ι w x a):RepA R ι w #[x] [a]:=
 ⟨rfl,fun i h=>match i,h with
  |0,_=>h1⟩
end Go.Ab
namespace Go.Ab
open Go
section
variable {P:Program}{f:FuncId}{args:List AV}{post:AV→List Ob→List Ob→Prop}
end
end Go.Ab
namespace Go.Ab
open Go
section
variable {σ:St}
theorem Le.ghostC(m o nm z:Nat){zo:Nat}{cs:List AV}(hm:σ.hp m=.own zo cs)(ho:cs[o]? =some (.v (.slice none 0 0)))(hf:σ.hp nm=.free):
  Le σ ⟨σ.env,upd (upd σ.hp nm (.own z [])) m (.own zo (cs.set o (.rf nm 0 0)))⟩:=by
 intro L w0 R0 N a w hi
 obtain⟨R,ι,hR,h⟩:=hi.inv
 have hg:=h.ghost (z:=z) hf
 have hne:m≠nm:=fun e=>by rw[e,hf]at hm;cases hm
 have hm':(⟨σ.env,upd σ.hp nm (.own z [])⟩:St).hp m=.own zo cs:=by show upd σ.hp nm (.own z []) m=_;rw[qB hne];exact hm
 obtain⟨hol,hoe⟩:=List.getElem?_eq_some_iff.1 ho
 have key:Inv L w0 R (upd ι nm none) w a.tmps ⟨σ.env,upd (upd σ.hp nm (.own z [])) m (.own zo (cs.set o (.rf nm 0 0)))⟩:=by
  cases hB:upd ι nm none m with
  |none=>
   have:=hg.hp.ok m
   rw[hm',hB]at this
   have e:cs=[]:=this
   rw[e]at hol;simp at hol
  |some B=>
   obtain⟨c,T,lo,hi',h1,h2,h3,h4,h5,h6⟩:=ji hg hm' hB
   refine hg.turn hm' hB rfl rfl rfl rfl (fun _ _=>rfl) ⟨c,T,lo,hi',h1,h2,h3,h4,by rw[List.length_set];exact h5,fun i hi2=>?_⟩ (AllL.of_get fun i hi2=>?_)
   ·rw[List.length_set]at hi2
    rw[List.getElem_set]
    by_cases e:o=i
    ·subst e
     rw[if_pos rfl]
     have:=h6 o hi2
     rw[hoe]at this
     rw[this.v_inv]
     exact .rf nm 0 0 0 none ⟨Nat.le_refl _,by rw[qw]⟩
    ·rw[if_neg e];exact h6 i hi2
   ·rw[List.length_set]at hi2
    rw[List.getElem_set]
    split
    ·show upd σ.hp nm (.own z []) nm≠ .free
     rw[qw];simp
    ·exact(hg.hp.men m zo cs hm').get i hi2
 exact⟨hi.df,hi.sz,R,_,hR,key⟩
end
structure ExV where
 s:Bool
 m:Nat
 e:Int
deriving DecidableEq
def ExV.cs(x:ExV):List AV:=[.v (.bool x.s),.sl (lim x.m).length (qc (lim x.m)),.v (.int .i64 x.e)]
theorem apr(x:ExV):x.cs.length=3:=rfl
theorem aEo{ρ:Nat→Nat}(x:ExV):zJ ρ x.cs=x.cs:=rfl
theorem apq{hp:Nat→Ob}{k:Nat}(x:ExV):x.cs.map (qD hp (k+1))=x.cs:=rfl
theorem aEp{p:Nat→Prop}(x:ExV):AllL p x.cs:=by simp[ExV.cs,AllL,AV.All]
def ex0:ExV:=⟨false,0,0⟩
theorem Yo{l:List ExV}:(qm ExV.cs l).length=l.length*3:=yI apr
theorem aLa{ρ:Nat→Nat}{l:List ExV}:zJ ρ (qm ExV.cs l)=qm ExV.cs l:=Zp aEo
theorem aB5{hp:Nat→Ob}{k:Nat}{l:List ExV}:(qm ExV.cs l).map (qD hp (k+1))=qm ExV.cs l:=yW apq
theorem aLb{p:Nat→Prop}{l:List ExV}:AllL p (qm ExV.cs l)=True:=eq_true (Zq aEp)
theorem aB6{p:Nat→Prop}{x:ExV}:AllL p x.cs=True:=eq_true (aEp x)
theorem yq{l:List ExV}{x:ExV}:qm ExV.cs l++[.v (.bool x.s),.sl (lim x.m).length (qc (lim x.m)),.v (.int .i64 x.e)]=qm ExV.cs (l++[x]):=by
 rw[←ac1,zv,yH,List.append_nil];rfl
theorem ads{l:List ExV}:cut (qm ExV.cs l) 0 (l.length*3)=qm ExV.cs l:=by
 unfold cut;rw[List.drop_zero,List.take_of_length_le (by rw[Yo];exact Nat.le_refl _)]
structure SpV where
 lo:ExV
 hi:ExV
deriving DecidableEq
def SpV.cs(x:SpV):List AV:=x.lo.cs++x.hi.cs
theorem aD2(x:SpV):x.cs.length=6:=rfl
theorem aD1{ρ:Nat→Nat}(x:SpV):zJ ρ x.cs=x.cs:=rfl
theorem an8{hp:Nat→Ob}{k:Nat}(x:SpV):x.cs.map (qD hp (k+1))=x.cs:=rfl
theorem aD3{p:Nat→Prop}(x:SpV):AllL p x.cs:=by simp[SpV.cs,ExV.cs,AllL,AV.All]
def sp0:SpV:=⟨ex0,ex0⟩
theorem an7{l:List SpV}:(qm SpV.cs l).length=l.length*6:=yI aD2
theorem aIr{ρ:Nat→Nat}{l:List SpV}:zJ ρ (qm SpV.cs l)=qm SpV.cs l:=Zp aD1
theorem aAk{hp:Nat→Ob}{k:Nat}{l:List SpV}:(qm SpV.cs l).map (qD hp (k+1))=qm SpV.cs l:=yW an8
theorem aIt{p:Nat→Prop}{l:List SpV}:AllL p (qm SpV.cs l)=True:=eq_true (Zq aD3)
theorem aAl{p:Nat→Prop}{x:SpV}:AllL p x.cs=True:=eq_true (aD3 x)
theorem yT{l:List SpV}{x:SpV}:qm SpV.cs l++[.v (.bool x.lo.s),.sl (lim x.lo.m).length (qc (lim x.lo.m)),.v (.int .i64 x.lo.e),.v (.bool x.hi.s),.sl (lim x.hi.m).length (qc (lim x.hi.m)),.v (.int .i64 x.hi.e)]=qm SpV.cs (l++[x]):=by
 rw[←ac1,zv,yH,List.append_nil];rfl
theorem aIs{l:List SpV}:cut (qm SpV.cs l) 0 (l.length*6)=qm SpV.cs l:=by
 unfold cut;rw[List.drop_zero,List.take_of_length_le (by rw[an7];exact Nat.le_refl _)]
attribute [go_sem] Yo aLa aB5 aLb aB6 aEo apq an7 aIr aAk aIt aAl aD1 an8
end Go.Ab
namespace Go.Ab
open Go Go.Proofs
def ExV.plus(x y:ExV):ExV:=⟨adS x.s x.m x.e y.s y.m y.e,adM x.s x.m x.e y.s y.m y.e,alE x.m x.e y.m y.e⟩
def ExV.neg(x:ExV):ExV:=⟨!x.s&&decide (x.m≠0),x.m,x.e⟩
def ExV.times(x y:ExV):ExV:=⟨(x.s != y.s)&&decide (x.m*y.m≠0),x.m*y.m,x.e+y.e⟩
def ExV.abs(x:ExV):ExV:=⟨false,x.m,x.e⟩
def ExV.shift(x:ExV)(k:Int):ExV:=⟨x.s,x.m,x.e+k⟩
def ExV.over(x y:ExV)(low mode:Int):ExV:=⟨(x.s != y.s)&&decide (ovQ (x.s != y.s) x.m x.e y.m y.e low mode≠0),ovQ (x.s != y.s) x.m x.e y.m y.e low mode,low⟩
def ExV.rnd(x:ExV)(low mode:Int):ExV:=⟨roS x.s x.m x.e low mode,roM x.s x.m x.e low mode,roE x.m x.e low⟩
def ExV.cmp(x y:ExV):Int:=zA (sv x.s (alA x.m x.e (alE x.m x.e y.m y.e))) (sv y.s (alA y.m y.e (alE x.m x.e y.m y.e)))
def ExV.top(x:ExV):Int:=if x.m=0 then 0 else(bl x.m:Int)+x.e
def ExV.bd(lo hi:Int)(x:ExV):Prop:=(x.m=0→x.s=false)∧lo≤x.e∧(bl x.m:Int)+x.e≤hi
theorem ExV.bd.mono{lo hi lo' hi':Int}{x:ExV}(h:x.bd lo hi)(h1:lo'≤lo)(h2:hi≤hi'):x.bd lo' hi':=by
 obtain⟨a,b,c⟩:=h;exact⟨a,by omega,by omega⟩
theorem aqP{m:Nat}{e E hi:Int}(h:m≠0→E≤e)(h1:(bl m:Int)+e≤hi)(h2:E≤hi):(bl (alA m e E):Int)+E≤hi:=by
 by_cases h0:m=0
 ·rw[Qf.2 h0,yO];omega
 ·have:=h h0
  have:=YI m (e-E).toNat
  unfold alA;omega
theorem aMe{m1:Nat}{e1:Int}{m2:Nat}{e2:Int}:m1≠0→alE m1 e1 m2 e2≤e1:=fun h=>by
 unfold alE
 repeat' split
 all_goals omega
theorem aMd{m1:Nat}{e1:Int}{m2:Nat}{e2:Int}:m2≠0→alE m1 e1 m2 e2≤e2:=fun h=>by
 unfold alE
 repeat' split
 all_goals omega
theorem ExV.plus_bd{lo hi:Int}{x y:ExV}(hx:x.bd lo hi)(hy:y.bd lo hi):(x.plus y).bd lo (hi+1):=by
 obtain⟨a1,a2,a3⟩:=hx
 obtain⟨b1,b2,b3⟩:=hy
 have hE:lo≤alE x.m x.e y.m y.e:=QM a2 b2
 have hE2:alE x.m x.e y.m y.e≤hi:=aEB (by omega) (by omega)
 refine⟨fun h=>?_,hE,?_⟩
 ·show adS x.s x.m x.e y.s y.m y.e=false
  have h:suM _ _ _ _=0:=h
  unfold adS suS
  unfold suM at h
  rw[Int.natAbs_eq_zero.1 h];rfl
 ·have t1:=aqP (hi:=hi) (@aMe x.m x.e y.m y.e) a3 hE2
  have t2:=aqP (hi:=hi) (@aMd x.m x.e y.m y.e) b3 hE2
  show(bl (adM x.s x.m x.e y.s y.m y.e):Int)+alE x.m x.e y.m y.e≤hi+1
  unfold adM
  generalize alA x.m x.e (alE x.m x.e y.m y.e)=A at*
  generalize alA y.m y.e (alE x.m x.e y.m y.e)=B at*
  have:=aEw (s1:=x.s) (s2:=y.s) (B:=(hi-alE x.m x.e y.m y.e).toNat) (show bl A≤_ by omega) (show bl B≤_ by omega)
  omega
theorem ExV.neg_bd{lo hi:Int}{x:ExV}(hx:x.bd lo hi):x.neg.bd lo hi:=by
 obtain⟨a1,a2,a3⟩:=hx
 refine⟨fun h=>?_,a2,a3⟩
 have h:x.m=0:=h
 show(!x.s&&decide (x.m≠0))=false
 rw[decide_eq_false (show ¬x.m≠0 by omega),Bool.and_false]
theorem ExV.times_bd{l1 h1 l2 h2:Int}{x y:ExV}(hx:x.bd l1 h1)(hy:y.bd l2 h2):(x.times y).bd (l1+l2) (h1+h2):=by
 obtain⟨a1,a2,a3⟩:=hx
 obtain⟨b1,b2,b3⟩:=hy
 refine⟨fun h=>?_,?_,?_⟩
 ·have h:x.m*y.m=0:=h
  show((x.s != y.s)&&decide (x.m*y.m≠0))=false
  rw[decide_eq_false (show ¬x.m*y.m≠0 by omega),Bool.and_false]
 ·show l1+l2≤x.e+y.e
  omega
 ·have:=YJ x.m y.m
  show(bl (x.m*y.m):Int)+(x.e+y.e)≤h1+h2
  omega
theorem ExV.abs_bd{lo hi:Int}{x:ExV}(hx:x.bd lo hi):x.abs.bd lo hi:=⟨fun _=>rfl,hx.2.1,hx.2.2⟩
theorem ExV.shift_bd{lo hi k:Int}{x:ExV}(hx:x.bd lo hi):(x.shift k).bd (lo+k) (hi+k):=by
 obtain⟨a1,a2,a3⟩:=hx
 exact⟨a1,by show lo+k≤x.e+k;omega,by show(bl x.m:Int)+(x.e+k)≤hi+k;omega⟩
theorem aOv{s:Bool}{m1:Nat}{e1:Int}{m2:Nat}{e2 low mode:Int}:bl (ovQ s m1 e1 m2 e2 low mode)≤bl m1+(e1-e2-low).toNat+1:=by
 have h1:=jV (aNK s (ovA m1 (e1-e2-low)) (ovA m2 (-(e1-e2-low))) mode)
 have h2:=aqB (ovA m1 (e1-e2-low)/ovA m2 (-(e1-e2-low)))
 have h3:=YL (ovA m1 (e1-e2-low)) (ovA m2 (-(e1-e2-low)))
 have h4:=YI m1 (e1-e2-low).toNat
 unfold ovQ;unfold ovA at*;omega
theorem ExV.over_bd{l1 h1 l2 low mode hi:Int}{x y:ExV}(hx:x.bd l1 h1)(hy:l2≤y.e)(h:h1-l2+1≤hi)(hb:h1-l1+1+low≤hi):(x.over y low mode).bd low hi:=by
 obtain⟨a1,a2,a3⟩:=hx
 refine⟨fun h=>?_,Int.le_refl _,?_⟩
 ·have h:ovQ (x.s != y.s) x.m x.e y.m y.e low mode=0:=h
  show((x.s != y.s)&&decide (ovQ (x.s != y.s) x.m x.e y.m y.e low mode≠0))=false
  rw[decide_eq_false (by rw[h];simp),Bool.and_false]
 ·have:=@aOv (x.s != y.s) x.m x.e y.m y.e low mode
  show(bl (ovQ (x.s != y.s) x.m x.e y.m y.e low mode):Int)+low≤hi
  omega
theorem ExV.rnd_bd{lo hi low mode:Int}{x:ExV}(hx:x.bd lo hi)(hl:lo≤low)(hh:low≤hi):(x.rnd low mode).bd lo (hi+1):=by
 obtain⟨a1,a2,a3⟩:=hx
 by_cases c:low≤x.e∨x.m=0
 ·refine⟨fun h=>?_,?_,?_⟩
  ·show roS _ _ _ _ _=false
   have h:roM _ _ _ _ _=0:=h
   unfold roM at h;unfold roS;rw[if_pos c]at h ⊢;exact a1 h
  ·show lo≤roE _ _ _
   unfold roE;rw[if_pos c];exact a2
  ·show(bl (roM _ _ _ _ _):Int)+roE _ _ _≤_
   unfold roM roE;rw[if_pos c,if_pos c];omega
 ·refine⟨fun h=>?_,?_,?_⟩
  ·show roS _ _ _ _ _=false
   have h:roM _ _ _ _ _=0:=h
   unfold roM at h;unfold roS;rw[if_neg c]at h ⊢;rw[h];simp
  ·show lo≤roE _ _ _
   unfold roE;rw[if_neg c];exact hl
  ·show(bl (roM _ _ _ _ _):Int)+roE _ _ _≤_
   unfold roM roE;rw[if_neg c,if_neg c]
   have h1:=jV (aNK x.s x.m (2^(low-x.e).toNat) mode)
   have h2:=aqB (x.m/2^(low-x.e).toNat)
   have h3:=aTs x.m (low-x.e).toNat
   omega
theorem zP(x y:ExV)(hx:x.bd (-400000) 400000)(hy:y.bd (-400000) 400000):Con Tryz.prog 162 false [.ag [.v (.bool (x.s)),.sl (lim (x.m)).length (qc (lim (x.m))),.v (.int .i64 (x.e))],.ag [.v (.bool (y.s)),.sl (lim (y.m)).length (qc (lim (y.m))),.v (.int .i64 (y.e))]] [] (isA (.ag [.v (.bool ((x.plus y).s)),.sl (lim ((x.plus y).m)).length (qc (lim ((x.plus y).m))),.v (.int .i64 ((x.plus y).e))])):=by
 obtain⟨a1,a2,a3⟩:=hx
 obtain⟨b1,b2,b3⟩:=hy
 exact apO x.s x.m x.e y.s y.m y.e (by omega) (by omega) (by omega) (by omega)
theorem yr(x y:ExV)(hx:x.bd (-400000) 400000)(hy:y.bd (-400000) 400000):Con Tryz.prog 168 false [.ag [.v (.bool (x.s)),.sl (lim (x.m)).length (qc (lim (x.m))),.v (.int .i64 (x.e))],.ag [.v (.bool (y.s)),.sl (lim (y.m)).length (qc (lim (y.m))),.v (.int .i64 (y.e))]] [] (isA (.ag [.v (.bool ((x.times y).s)),.sl (lim ((x.times y).m)).length (qc (lim ((x.times y).m))),.v (.int .i64 ((x.times y).e))])):=by
 obtain⟨a1,a2,a3⟩:=hx
 obtain⟨b1,b2,b3⟩:=hy
 exact ajc x.s x.m x.e y.s y.m y.e (by omega) (by omega) (by omega) (by omega)
theorem apP(x y:ExV)(low mode:Int)(h0:y.m≠0)(hx:x.bd (-400000) 400000)(hy:y.bd (-400000) 400000)(hl: -400000≤low∧low≤400000):Con Tryz.prog 188 false [.ag [.v (.bool (x.s)),.sl (lim (x.m)).length (qc (lim (x.m))),.v (.int .i64 (x.e))],.ag [.v (.bool (y.s)),.sl (lim (y.m)).length (qc (lim (y.m))),.v (.int .i64 (y.e))],.v (.int .i64 low),.v (.int .i64 mode)] [] (isA (.tu [.ag [.v (.bool ((x.over y low mode).s)),.sl (lim ((x.over y low mode).m)).length (qc (lim ((x.over y low mode).m))),.v (.int .i64 ((x.over y low mode).e))],.v (.bool (ovX x.m x.e y.m y.e low))])):=by
 obtain⟨a1,a2,a3⟩:=hx
 obtain⟨b1,b2,b3⟩:=hy
 exact aeJ x.s x.m x.e y.s y.m y.e low mode h0 (by omega) (by omega) (by omega) (by omega) (by omega) (by omega)
theorem Yv(x:ExV)(low mode:Int)(hx:x.bd (-400000) 400000)(hl: -400000≤low∧low≤400000):Con Tryz.prog 177 false [.ag [.v (.bool (x.s)),.sl (lim (x.m)).length (qc (lim (x.m))),.v (.int .i64 (x.e))],.v (.int .i64 low),.v (.int .i64 mode)] [] (isA (.tu [.ag [.v (.bool ((x.rnd low mode).s)),.sl (lim ((x.rnd low mode).m)).length (qc (lim ((x.rnd low mode).m))),.v (.int .i64 ((x.rnd low mode).e))],.v (.bool (roX x.m x.e low))])):=by
 obtain⟨a1,a2,a3⟩:=hx
 exact adD x.s x.m x.e low mode (by omega) (by omega) (by omega)
theorem Qc(x y:ExV)(hx:x.bd (-400000) 400000)(hy:y.bd (-400000) 400000):Con Tryz.prog 105 true [.ag [.v (.bool (x.s)),.sl (lim (x.m)).length (qc (lim (x.m))),.v (.int .i64 (x.e))],.ag [.v (.bool (y.s)),.sl (lim (y.m)).length (qc (lim (y.m))),.v (.int .i64 (y.e))]] [] (isA (.v (.int .i64 (x.cmp y)))):=by
 obtain⟨a1,a2,a3⟩:=hx
 obtain⟨b1,b2,b3⟩:=hy
 unfold ExV.cmp
 rw[aeN (K:=400000) (by omega) (by omega)]
 exact K5 400000 x.s x.m x.e y.s y.m y.e (by omega) (by omega) (by omega) (by omega) (by omega) (by omega) a1 b1
theorem aeK(x:ExV):Con Tryz.prog 232 false [.ag [.v (.bool (x.s)),.sl (lim (x.m)).length (qc (lim (x.m))),.v (.int .i64 (x.e))]] [] (isA (.ag [.v (.bool (x.neg.s)),.sl (lim (x.neg.m)).length (qc (lim (x.neg.m))),.v (.int .i64 (x.neg.e))])):=by
 refine Con.frzA ?_
 have hq:decide ((0:Int)<((lim x.m).length:Int))=decide (x.m≠0):=by
  rw[decide_eq_decide]
  exact⟨fun h e=>by rw[e,qn]at h;simp at h,fun h=>by have:=y0 h;omega⟩
 unfold ExV.neg
 cases hs:x.s
 ·refine Con.of_w (rs:=[.cell 2 90]) Tryz.func232 rfl Tryz.ntmps232 rfl ?_
  simp(disch:=omega)only[go_sem]
  simp(disch:=omega)only[go_sem,hq]
  exact ql (hp:=by simp(disch:=omega)only[go_sem,Bool.not_false,Bool.true_and])
 ·refine Con.of_w (rs:=[.cell 2 90]) Tryz.func232 rfl Tryz.ntmps232 rfl ?_
  simp(disch:=omega)only[go_sem]
  exact ql (hp:=by simp(disch:=omega)only[go_sem,Bool.not_true,Bool.false_and])
theorem YC(x:ExV):Con Tryz.prog 153 false [.ag [.v (.bool (x.s)),.sl (lim (x.m)).length (qc (lim (x.m))),.v (.int .i64 (x.e))]] [] (isA (.ag [.v (.bool (x.abs.s)),.sl (lim (x.abs.m)).length (qc (lim (x.abs.m))),.v (.int .i64 (x.abs.e))])):=by
 refine Con.frzA ?_
 refine Con.of_w (rs:=[.cell 2 90]) Tryz.func153 rfl Tryz.ntmps153 rfl ?_
 simp(disch:=omega)only[go_sem]
 exact ql (hp:=by simp(disch:=omega)only[go_sem,ExV.abs])
theorem Qx(x:ExV)(k:Int)(hx: -2^40≤x.e∧x.e≤2^40)(hk: -2^40≤k∧k≤2^40):Con Tryz.prog 224 false [.ag [.v (.bool (x.s)),.sl (lim (x.m)).length (qc (lim (x.m))),.v (.int .i64 (x.e))],.v (.int .i64 k)] [] (isA (.ag [.v (.bool ((x.shift k).s)),.sl (lim ((x.shift k).m)).length (qc (lim ((x.shift k).m))),.v (.int .i64 ((x.shift k).e))])):=by
 refine Con.frzA ?_
 refine Con.of_w (rs:=[.cell 4 90]) Tryz.func224 rfl Tryz.ntmps224 rfl ?_
 simp(disch:=omega)only[go_sem]
 exact ql (hp:=by simp(disch:=omega)only[go_sem,ExV.shift])
theorem yt(x y:ExV)(hx:x.bd (-400000) 400000)(hy:y.bd (-400000) 400000):Con Tryz.prog 152 false [.ag [.v (.bool (x.s)),.sl (lim (x.m)).length (qc (lim (x.m))),.v (.int .i64 (x.e))],.ag [.v (.bool (y.s)),.sl (lim (y.m)).length (qc (lim (y.m))),.v (.int .i64 (y.e))]] [] (isA (.ag [.v (.bool ((x.plus y.neg).s)),.sl (lim ((x.plus y.neg).m)).length (qc (lim ((x.plus y.neg).m))),.v (.int .i64 ((x.plus y.neg).e))])):=by
 refine Con.frzA ?_
 refine Con.of_w (rs:=[.cell 4 90]) Tryz.func152 rfl Tryz.ntmps152 rfl ?_
 simp(disch:=omega)only[go_sem]
 refine qt rfl [⟨0,[],[]⟩,⟨1,[0],[]⟩,⟨2,[0],[]⟩,⟨3,[],[]⟩,⟨4,[],[]⟩] (by kernel_rfl) ?_
 simp(disch:=omega)only[go_sem]
 refine qa (aeK y) ?_
 simp(disch:=omega)only[go_sem]
 refine qa (zP x y.neg hx (ExV.neg_bd hy)) ?_
 simp(disch:=omega)only[go_sem]
 exact ql
end Go.Ab
namespace Go.Ab
open Go Go.Proofs
def gl(n:Nat)(g:Nat→Nat→ExV)(k:Nat):List ExV:=(List.range k).map fun t=>g (t/n) (t % n)
theorem zi{n:Nat}{g:Nat→Nat→ExV}{k:Nat}:(gl n g k).length=k:=by simp[gl]
theorem aKg{n:Nat}{g:Nat→Nat→ExV}{k:Nat}:gl n g (k+1)=gl n g k++[g (k/n) (k % n)]:=by simp[gl,List.range_succ]
theorem aO3{n:Nat}{g:Nat→Nat→ExV}{k t:Nat}(h:t<k):(gl n g k).getD t ex0=g (t/n) (t % n):=by
 rw[List.getD_eq_getElem?_getD];simp[gl,h]
theorem aO1{n:Nat}{g:Nat→Nat→ExV}:qm ExV.cs (gl n g 0)=[]:=by simp[gl,qm]
theorem zE{l:List ExV}{k:Nat}(h:l.length=k):cut (qm ExV.cs l) 0 (k*3)=qm ExV.cs l:=by subst h;exact ads
theorem zN{l:List ExV}{i:Nat}(hi:i<l.length):cut (qm ExV.cs l) (i*3) 3=[.v (.bool (l.getD i ex0).s),.sl (lim (l.getD i ex0).m).length (qc (lim (l.getD i ex0).m)),.v (.int .i64 (l.getD i ex0).e)]:=JX (l:=l) apr hi ex0
theorem ye(n:Nat)(l:List ExV)(i j:Nat)(hl:i*n+j<l.length)(hb:l.length≤1000)(hn:n≤1000)(hi:i≤1000)(hj:j≤1000):
  Con Tryz.prog 163 false [.ag [.v (.int .i64 n),.sl l.length (qm ExV.cs l)],.v (.int .i64 i),.v (.int .i64 j)] [] (isA (.ag [.v (.bool ((l.getD (i*n+j) ex0).s)),.sl (lim ((l.getD (i*n+j) ex0).m)).length (qc (lim ((l.getD (i*n+j) ex0).m))),.v (.int .i64 ((l.getD (i*n+j) ex0).e))])):=by
 refine Con.frzA ?_
 have hin:i*n≤1000:=by omega
 have hp:(i:Int)*(n:Int)≤1000∧0≤(i:Int)*(n:Int):=by rw[←Int.natCast_mul];omega
 have e1:(i:Int)*(n:Int)+(j:Int)=((i*n+j:Nat):Int):=by rw[Int.natCast_add,Int.natCast_mul]
 have hcut:=zN hl
 generalize i*n+j=k at*
 refine Con.of_w (rs:=[.cell 6 90]) Tryz.func163 rfl Tryz.ntmps163 rfl ?_
 simp(disch:=omega)only[go_sem]
 simp(disch:=omega)only[go_sem,e1,hcut]
 refine⟨by omega,by omega,?_⟩
 exact ql
set_option maxRecDepth 100000 in
theorem ajs(n:Nat)(f:Nat)(caps:List AV)(g:Nat→Nat→ExV)(hn0:n≤4)(hf:∀i j:Nat,i<n→j<n→Con Tryz.prog f false (.v (.int .i64 i):: .v (.int .i64 j)::caps) [] (isA (.ag [.v (.bool ((g i j).s)),.sl (lim ((g i j).m)).length (qc (lim ((g i j).m))),.v (.int .i64 ((g i j).e))])))(hg:qp Tryz.prog f=True)
  (hc:∀h:Nat→Ob,caps.map (qD h 6)=caps) (hc5:∀h:Nat→Ob,caps.map (qD h 5)=caps) (hn:∀ks,AllL (j0 ks) caps) (hr:∀ρ,zJ ρ caps=caps):
  Con Tryz.prog 164 false [.v (.int .i64 n),.fn f caps] [] (isA (.ag [.v (.int .i64 n),.sl (n*n) (qm ExV.cs (gl n g (n*n)))])):=by
 refine Con.frzA ?_
 refine Con.of_aw Tryz.func164 rfl Tryz.ntmps164 (by simp) (by simp) (by simp) (W.sound ?_)
 show @W Tryz.prog 30 ⟨_⟩ ⟨fun x σ=>@qX _ _ _ ⟨_⟩ _ ⟨_⟩ x σ⟩ _ _
 simp(disch:=omega)only[go_sem,hg]
 refine qg (fun i:Nat=>[(0,.v (.int .i64 n)),(1,.fn f caps),(4,.pt 2 0),(5,.pt 0 0),(10,.v (.int .i64 n)),(11,.v (.int .i64 i))])
  (fun i=>[(0,.own 0 [.v (.int .i64 n),.rf 1 0 (i*n)]),(1,.own 3 (qm ExV.cs (gl n g (i*n)))),(2,.own 0 [.v (.int .i64 0),.v (.slice none 0 0)])]) (fun i=>i≤n) (fun i=>n-i) 0 (by omega)
  ((Le.ghostC 70000000 1 1 3 (zo:=0) (cs:=[.v (.int .i64 n),.v (.slice none 0 0)]) (by simp(disch:=omega)only[go_sem]) rfl (by simp(disch:=omega)only[go_sem])).trans (Le.lst [(0,70000000),(2,60000000)] _ _ rfl (by simp(disch:=omega)only[go_sem,hr,hn]) (by simp(disch:=omega)only[go_sem,aO1,Nat.zero_mul,List.set_cons_succ,List.set_cons_zero]))) ?_
 intro i hi
 simp(disch:=omega)only[go_sem]
 refine qe (fun h1=>?_) (fun h1=>?_)
 ·simp(disch:=omega)only[go_sem,h1]
  refine qg (fun j:Nat=>[(0,.v (.int .i64 n)),(1,.fn f caps),(4,.pt 2 0),(5,.pt 0 0),(6,.v (.int .i64 i)),(10,.v (.int .i64 n)),(11,.v (.int .i64 i)),(14,.v (.int .i64 n)),(15,.v (.int .i64 j))])
   (fun j=>[(0,.own 0 [.v (.int .i64 n),.rf 1 0 (i*n+j)]),(1,.own 3 (qm ExV.cs (gl n g (i*n+j)))),(2,.own 0 [.v (.int .i64 0),.v (.slice none 0 0)])]) (fun j=>j≤n) (fun j=>n-j) 0 (by omega)
   (Le.lst [] _ _ rfl (by simp(disch:=omega)only[go_sem,hr,hn,Nat.add_zero]) (by simp(disch:=omega)only[go_sem,Nat.add_zero])) ?_
  intro j hj
  simp(disch:=omega)only[go_sem]
  refine qe (fun h2=>?_) (fun h2=>?_)
  ·simp(disch:=omega)only[go_sem,h2]
   have hd:(i*n+j)/n=i:=by rw[Nat.mul_comm,Nat.mul_add_div (by omega),Nat.div_eq_of_lt (by omega),Nat.add_zero]
   have hm:(i*n+j) % n=j:=by rw[Nat.mul_comm,Nat.mul_add_mod,Nat.mod_eq_of_lt (by omega)]
   have hs:=@aKg n g (i*n+j)
   rw[hd,hm]at hs
   have hcut:=zE (@zi n g (i*n+j))
   have hin:i*n≤16:=Nat.mul_le_mul (show i≤4 by omega) hn0
   have hk:i*n+(j+1)=i*n+j+1:=rfl
   refine qt rfl [⟨0,[],[]⟩,⟨1,[],[]⟩,⟨2,[1],[]⟩,⟨3,[1],[]⟩,⟨4,[1],[]⟩,⟨5,[1],[]⟩,⟨6,[1],[]⟩,⟨7,[],[]⟩,⟨8,[],[]⟩,⟨9,[],[]⟩] (by kernel_rfl) ?_
   simp(disch:=omega)only[go_sem,hg]
   refine qC (hf i j (by omega) (by omega)) (by simp(disch:=omega)only[go_sem,hc,hc5]) ?_
   rintro r hs2 ⟨rfl,rfl,_⟩
   refine⟨by simp[qK],?_⟩
   simp(disch:=omega)only[go_sem,hcut,yq]
   refine⟨⟨by rw[zi];exact Nat.le_refl _,by omega⟩,qb (j+1) [(1,270000000)] (by show j+1≤_;omega) (by show n-(j+1)<n-j;omega) rfl (by simp(disch:=omega)only[go_sem,hr,hn];try omega) (by simp(disch:=omega)only[go_sem,hk,hs])⟩
  ·simp(disch:=omega)only[go_sem,h2]
   obtain rfl:n=j:=by omega
   exact qb (i+1) [] (by show i+1≤_;omega) (by show n-(i+1)<n-i;omega) rfl (by simp(disch:=omega)only[go_sem,hr,hn,Nat.add_mul,Nat.one_mul];try omega) (by simp(disch:=omega)only[go_sem,Nat.add_mul,Nat.one_mul])
 ·simp(disch:=omega)only[go_sem,h1]
  obtain rfl:n=i:=by omega
  refine qh [(0,1)] [.own 3 (qm ExV.cs (gl n g (n*n)))] [] [.ag [.v (.int .i64 n),.rf 0 0 (n*n)]] rfl (by simp(disch:=omega)only[go_sem]) (by simp(disch:=omega)only[go_sem]) (by simp) (by simp) ?_
  show qD _ 6 _=_
  simp(disch:=omega)only[go_sem,qW,zE zi]
end Go.Ab
namespace Go.Ab
open Go Go.Proofs
def yZ(m x:ExV):ExV:=if 0<x.cmp m then x else m
def y4(m x:ExV):ExV:=if x.cmp m<0 then x else m
def zp(l:List ExV):ExV:=(l.drop 1).foldl yZ (l.getD 0 ex0)
def jq(l:List ExV):ExV:=(l.drop 1).foldl y4 (l.getD 0 ex0)
def gbd(lo hi:Int)(l:List ExV):Prop:=∀x∈l,x.bd lo hi
theorem qL{lo hi:Int}{l:List ExV}{i:Nat}(h:gbd lo hi l)(hi':i<l.length):(l.getD i ex0).bd lo hi:=by
 refine h _ ?_
 rw[List.getD_eq_getElem?_getD,List.getElem?_eq_getElem hi'];exact List.getElem_mem _
theorem jA{l:List ExV}{i:Nat}(h1:1≤i)(h:i<l.length):(l.take (i+1)).drop 1=(l.take i).drop 1++[l.getD i ex0]:=by
 rw[List.take_add_one,List.getElem?_eq_getElem h,List.drop_append_of_le_length (by rw[List.length_take];omega),List.getD_eq_getElem?_getD,List.getElem?_eq_getElem h]
 rfl
theorem Qq{lo hi:Int}{F:ExV→ExV→ExV}(hF:∀m x,F m x=m∨F m x=x):∀(l:List ExV) (m:ExV),m.bd lo hi→gbd lo hi l→(l.foldl F m).bd lo hi
 | [],m,h,_=>h
 |x::r,m,h,hl=>by
  refine Qq hF r (F m x) ?_ (fun y hy=>hl y (List.mem_cons_of_mem _ hy))
  rcases hF m x with e|e<;>rw[e]
  ·exact h
  ·exact hl x (List.mem_cons_self ..)
theorem J7(m x:ExV):yZ m x=m∨yZ m x=x:=by unfold yZ;split<;>simp
theorem KA(m x:ExV):y4 m x=m∨y4 m x=x:=by unfold y4;split<;>simp
theorem Q4{lo hi:Int}{l:List ExV}(h:gbd lo hi l)(h0:0<l.length):(zp l).bd lo hi:=Qq J7 _ _ (qL h h0) (fun x hx=>h x (List.mem_of_mem_drop hx))
theorem Kz{lo hi:Int}{l:List ExV}(h:gbd lo hi l)(h0:0<l.length):(jq l).bd lo hi:=Qq KA _ _ (qL h h0) (fun x hx=>h x (List.mem_of_mem_drop hx))
theorem adG(l:List ExV)(h0:0<l.length)(hl:l.length≤1000)(hb:gbd (-400000) 400000 l):Con Tryz.prog 176 false [.sl l.length (qm ExV.cs l),.fn 105 []] [] (isA (.ag [.v (.bool (zp l).s),.sl (lim (zp l).m).length (qc (lim (zp l).m)),.v (.int .i64 (zp l).e)])):=by
 refine Con.frzA ?_
 have hc0:=zN (l:=l) (i:=0) h0
 have q1:decide ((l.length:Int)<1)=false:=decide_eq_false (by omega)
 refine Con.of_w (rs:=[.cell 4 90]) Tryz.func176 rfl Tryz.ntmps176 rfl ?_
 simp(disch:=omega)only[go_sem,q1,hc0]
 refine⟨by omega,by omega,?_⟩
 refine qg (fun x:Nat×ExV=>[(0,.sl l.length (qm ExV.cs l)),(1,.fn 105 []),(4,.pt 1 0),(5,.pt 0 0),(6,.v (.int .i64 x.1))])
  (fun x=>[(0,.own 0 [.v (.bool x.2.s),.sl (lim x.2.m).length (qc (lim x.2.m)),.v (.int .i64 x.2.e)]),(1,.own 0 [.v (.bool false),.v (.slice none 0 0),.v (.int .i64 0)])])
  (fun x=>1≤x.1∧x.1≤l.length∧x.2=((l.take x.1).drop 1).foldl yZ (l.getD 0 ex0)) (fun x=>l.length-x.1) (1,l.getD 0 ex0) ⟨by omega,by omega,by simp⟩
  (Le.lst [(0,70000000),(1,60000000)] _ _ rfl (by simp(disch:=omega)only[go_sem]) (by simp(disch:=omega)only[go_sem])) ?_
 rintro⟨i,m⟩ ⟨h1,hi,hm⟩
 dsimp only at h1 hi hm ⊢
 have hmb:m.bd (-400000) 400000:=by
  rw[hm];exact Qq J7 _ _ (qL hb h0) (fun x hx=>hb x (List.mem_of_mem_take (List.mem_of_mem_drop hx)))
 simp(disch:=omega)only[go_sem]
 refine qe (fun h2=>?_) (fun h2=>?_)
 ·have hi2:i<l.length:=by omega
  have hci:=zN (l:=l) (i:=i) hi2
  have hs:yZ m (l.getD i ex0)=((l.take (i+1)).drop 1).foldl yZ (l.getD 0 ex0):=by
   rw[jA h1 hi2,List.foldl_append,←hm];rfl
  simp(disch:=omega)only[go_sem,h2]
  refine qt rfl [⟨0,[],[]⟩,⟨1,[],[]⟩,⟨2,[],[]⟩,⟨3,[],[]⟩,⟨4,[],[]⟩,⟨5,[4],[]⟩,⟨6,[],[]⟩,⟨7,[],[]⟩] (by kernel_rfl) ?_
  have hg:qp Tryz.prog 105=True:=by simp(disch:=omega)only[go_sem]
  simp(disch:=omega)only[go_sem,hci,hg]
  refine⟨by omega,by omega,?_⟩
  refine qj (Qc (l.getD i ex0) m (qL hb hi2) hmb) ?_
  simp(disch:=omega)only[go_sem]
  generalize l.getD i ex0=y at*
  refine qe (fun h3=>?_) (fun h3=>?_)
  ·simp(disch:=omega)only[go_sem,h3,hci]
   have:yZ m y=y:=if_pos h3
   refine⟨by omega,by omega,qb (i+1,y) [] ⟨by show 1≤i+1;omega,by show i+1≤_;omega,this▸hs⟩ (by show l.length-(i+1)<l.length-i;omega) rfl (by simp(disch:=omega)only[go_sem];try omega) (by simp(disch:=omega)only[go_sem])⟩
  ·simp(disch:=omega)only[go_sem,h3]
   have:yZ m y=m:=if_neg h3
   refine qb (i+1,m) [] ⟨by show 1≤i+1;omega,by show i+1≤_;omega,this▸hs⟩ (by show l.length-(i+1)<l.length-i;omega) rfl (by simp(disch:=omega)only[go_sem];try omega) (by simp(disch:=omega)only[go_sem])
 ·simp(disch:=omega)only[go_sem,h2]
  have:i=l.length:=by omega
  subst this
  rw[List.take_length]at hm
  subst hm
  exact ql (hp:=by simp(disch:=omega)only[go_sem,zp])
theorem aeL(l:List ExV)(h0:0<l.length)(hl:l.length≤1000)(hb:gbd (-400000) 400000 l):Con Tryz.prog 93 false [.sl l.length (qm ExV.cs l)] [] (isA (.ag [.v (.bool (zp l).s),.sl (lim (zp l).m).length (qc (lim (zp l).m)),.v (.int .i64 (zp l).e)])):=by
 refine Con.frzA ?_
 refine Con.of_w (rs:=[.cell 2 90]) Tryz.func93 rfl Tryz.ntmps93 rfl ?_
 simp(disch:=omega)only[go_sem]
 refine qa (adG l h0 hl hb) ?_
 simp(disch:=omega)only[go_sem]
 exact ql
theorem adF(l:List ExV)(h0:0<l.length)(hl:l.length≤1000)(hb:gbd (-400000) 400000 l):Con Tryz.prog 175 false [.sl l.length (qm ExV.cs l),.fn 105 []] [] (isA (.ag [.v (.bool (jq l).s),.sl (lim (jq l).m).length (qc (lim (jq l).m)),.v (.int .i64 (jq l).e)])):=by
 refine Con.frzA ?_
 have hc0:=zN (l:=l) (i:=0) h0
 have q1:decide ((l.length:Int)<1)=false:=decide_eq_false (by omega)
 refine Con.of_w (rs:=[.cell 4 90]) Tryz.func175 rfl Tryz.ntmps175 rfl ?_
 simp(disch:=omega)only[go_sem,q1,hc0]
 refine⟨by omega,by omega,?_⟩
 refine qg (fun x:Nat×ExV=>[(0,.sl l.length (qm ExV.cs l)),(1,.fn 105 []),(4,.pt 1 0),(5,.pt 0 0),(6,.v (.int .i64 x.1))])
  (fun x=>[(0,.own 0 [.v (.bool x.2.s),.sl (lim x.2.m).length (qc (lim x.2.m)),.v (.int .i64 x.2.e)]),(1,.own 0 [.v (.bool false),.v (.slice none 0 0),.v (.int .i64 0)])])
  (fun x=>1≤x.1∧x.1≤l.length∧x.2=((l.take x.1).drop 1).foldl y4 (l.getD 0 ex0)) (fun x=>l.length-x.1) (1,l.getD 0 ex0) ⟨by omega,by omega,by simp⟩
  (Le.lst [(0,70000000),(1,60000000)] _ _ rfl (by simp(disch:=omega)only[go_sem]) (by simp(disch:=omega)only[go_sem])) ?_
 rintro⟨i,m⟩ ⟨h1,hi,hm⟩
 dsimp only at h1 hi hm ⊢
 have hmb:m.bd (-400000) 400000:=by
  rw[hm];exact Qq KA _ _ (qL hb h0) (fun x hx=>hb x (List.mem_of_mem_take (List.mem_of_mem_drop hx)))
 simp(disch:=omega)only[go_sem]
 refine qe (fun h2=>?_) (fun h2=>?_)
 ·have hi2:i<l.length:=by omega
  have hci:=zN (l:=l) (i:=i) hi2
  have hs:y4 m (l.getD i ex0)=((l.take (i+1)).drop 1).foldl y4 (l.getD 0 ex0):=by
   rw[jA h1 hi2,List.foldl_append,←hm];rfl
  simp(disch:=omega)only[go_sem,h2]
  refine qt rfl [⟨0,[],[]⟩,⟨1,[],[]⟩,⟨2,[],[]⟩,⟨3,[],[]⟩,⟨4,[],[]⟩,⟨5,[4],[]⟩,⟨6,[],[]⟩,⟨7,[],[]⟩] (by kernel_rfl) ?_
  have hg:qp Tryz.prog 105=True:=by simp(disch:=omega)only[go_sem]
  simp(disch:=omega)only[go_sem,hci,hg]
  refine⟨by omega,by omega,?_⟩
  refine qj (Qc (l.getD i ex0) m (qL hb hi2) hmb) ?_
  simp(disch:=omega)only[go_sem]
  generalize l.getD i ex0=y at*
  refine qe (fun h3=>?_) (fun h3=>?_)
  ·simp(disch:=omega)only[go_sem,h3,hci]
   have:y4 m y=y:=if_pos h3
   refine⟨by omega,by omega,qb (i+1,y) [] ⟨by show 1≤i+1;omega,by show i+1≤_;omega,this▸hs⟩ (by show l.length-(i+1)<l.length-i;omega) rfl (by simp(disch:=omega)only[go_sem];try omega) (by simp(disch:=omega)only[go_sem])⟩
  ·simp(disch:=omega)only[go_sem,h3]
   have:y4 m y=m:=if_neg h3
   refine qb (i+1,m) [] ⟨by show 1≤i+1;omega,by show i+1≤_;omega,this▸hs⟩ (by show l.length-(i+1)<l.length-i;omega) rfl (by simp(disch:=omega)only[go_sem];try omega) (by simp(disch:=omega)only[go_sem])
 ·simp(disch:=omega)only[go_sem,h2]
  have:i=l.length:=by omega
  subst this
  rw[List.take_length]at hm
  subst hm
  exact ql (hp:=by simp(disch:=omega)only[go_sem,jq])
theorem KU(l:List ExV)(h0:0<l.length)(hl:l.length≤1000)(hb:gbd (-400000) 400000 l):Con Tryz.prog 92 false [.sl l.length (qm ExV.cs l)] [] (isA (.ag [.v (.bool (jq l).s),.sl (lim (jq l).m).length (qc (lim (jq l).m)),.v (.int .i64 (jq l).e)])):=by
 refine Con.frzA ?_
 refine Con.of_w (rs:=[.cell 2 90]) Tryz.func92 rfl Tryz.ntmps92 rfl ?_
 simp(disch:=omega)only[go_sem]
 refine qa (adF l h0 hl hb) ?_
 simp(disch:=omega)only[go_sem]
 exact ql
end Go.Ab
namespace Go.Ab
open Go Go.Proofs
def SpV.plus(s t:SpV):SpV:=⟨s.lo.plus t.lo,s.hi.plus t.hi⟩
def jp(F:ExV→ExV→ExV)(s t:SpV):List ExV:=[F s.lo t.lo,F s.lo t.hi,F s.hi t.lo,F s.hi t.hi]
def SpV.times(s t:SpV):SpV:=⟨jq (jp ExV.times s t),zp (jp ExV.times s t)⟩
def SpV.over(s t:SpV)(low:Int):SpV:=⟨jq (jp (fun x y=>x.over y low 3) s t),zp (jp (fun x y=>x.over y low 2) s t)⟩
def SpV.out(s:SpV)(low:Int):SpV:=⟨s.lo.rnd low 3,s.hi.rnd low 2⟩
def SpV.fat(s:SpV)(by':ExV):SpV:=⟨s.lo.plus by'.neg,s.hi.plus by'⟩
def SpV.bd(lo hi:Int)(s:SpV):Prop:=s.lo.bd lo hi∧s.hi.bd lo hi
theorem aeF{F:ExV→ExV→ExV}{s t:SpV}{l1 h1 l2 h2 lo hi:Int}(hs:s.bd l1 h1)(ht:t.bd l2 h2)(hF:∀x y:ExV,x.bd l1 h1→y.bd l2 h2→(F x y).bd lo hi):gbd lo hi (jp F s t):=by
 intro x hx
 simp only[jp,List.mem_cons,List.not_mem_nil,or_false]at hx
 rcases hx with rfl|rfl|rfl|rfl
 ·exact hF _ _ hs.1 ht.1
 ·exact hF _ _ hs.1 ht.2
 ·exact hF _ _ hs.2 ht.1
 ·exact hF _ _ hs.2 ht.2
theorem JA(s t:SpV)(hs:s.bd (-400000) 400000)(ht:t.bd (-400000) 400000):Con Tryz.prog 170 false [.ag [.v (.bool (s).lo.s),.sl (lim (s).lo.m).length (qc (lim (s).lo.m)),.v (.int .i64 (s).lo.e),.v (.bool (s).hi.s),.sl (lim (s).hi.m).length (qc (lim (s).hi.m)),.v (.int .i64 (s).hi.e)],.ag [.v (.bool (t).lo.s),.sl (lim (t).lo.m).length (qc (lim (t).lo.m)),.v (.int .i64 (t).lo.e),.v (.bool (t).hi.s),.sl (lim (t).hi.m).length (qc (lim (t).hi.m)),.v (.int .i64 (t).hi.e)]] [] (isA (.ag [.v (.bool (s.plus t).lo.s),.sl (lim (s.plus t).lo.m).length (qc (lim (s.plus t).lo.m)),.v (.int .i64 (s.plus t).lo.e),.v (.bool (s.plus t).hi.s),.sl (lim (s.plus t).hi.m).length (qc (lim (s.plus t).hi.m)),.v (.int .i64 (s.plus t).hi.e)])):=by
 refine Con.frzA ?_
 refine Con.of_w (rs:=[.cell 4 111]) Tryz.func170 rfl Tryz.ntmps170 rfl ?_
 simp(disch:=omega)only[go_sem]
 refine qt rfl [⟨0,[],[]⟩,⟨1,[],[]⟩,⟨2,[1],[]⟩,⟨3,[1],[]⟩,⟨5,[1,3],[]⟩,⟨6,[1,3],[]⟩,⟨7,[1,3,6],[]⟩,⟨8,[1,3,6],[]⟩,⟨4,[6,8],[]⟩,⟨9,[],[]⟩,⟨10,[],[]⟩,⟨11,[],[]⟩] (by kernel_rfl) ?_
 simp(disch:=omega)only[go_sem]
 refine qa (zP s.lo t.lo hs.1 ht.1) ?_
 simp(disch:=omega)only[go_sem]
 refine qa (zP s.hi t.hi hs.2 ht.2) ?_
 simp(disch:=omega)only[go_sem]
 exact ql (hp:=by simp(disch:=omega)only[go_sem,SpV.plus])
theorem apK(s:SpV)(low:Int)(hs:s.bd (-400000) 400000)(hl: -400000≤low∧low≤400000):Con Tryz.prog 96 false [.ag [.v (.bool (s).lo.s),.sl (lim (s).lo.m).length (qc (lim (s).lo.m)),.v (.int .i64 (s).lo.e),.v (.bool (s).hi.s),.sl (lim (s).hi.m).length (qc (lim (s).hi.m)),.v (.int .i64 (s).hi.e)],.v (.int .i64 low)] [] (isA (.ag [.v (.bool (s.out low).lo.s),.sl (lim (s.out low).lo.m).length (qc (lim (s.out low).lo.m)),.v (.int .i64 (s.out low).lo.e),.v (.bool (s.out low).hi.s),.sl (lim (s.out low).hi.m).length (qc (lim (s.out low).hi.m)),.v (.int .i64 (s.out low).hi.e)])):=by
 refine Con.frzA ?_
 refine Con.of_w (rs:=[.cell 4 111]) Tryz.func96 rfl Tryz.ntmps96 rfl ?_
 simp(disch:=omega)only[go_sem]
 refine qa (Yv s.lo low 3 hs.1 hl) ?_
 simp(disch:=omega)only[go_sem]
 refine qa (Yv s.hi low 2 hs.2 hl) ?_
 simp(disch:=omega)only[go_sem]
 exact ql (hp:=by simp(disch:=omega)only[go_sem,SpV.out])
set_option maxRecDepth 100000 in
theorem JB(s t:SpV)(f:Nat)(caps:List AV)(F:ExV→ExV→ExV)(hf:∀x y:ExV,(x=s.lo∨x=s.hi)→(y=t.lo∨y=t.hi)→Con Tryz.prog f false (.ag [.v (.bool (x).s),.sl (lim (x).m).length (qc (lim (x).m)),.v (.int .i64 (x).e)]:: .ag [.v (.bool (y).s),.sl (lim (y).m).length (qc (lim (y).m)),.v (.int .i64 (y).e)]::caps) [] (isA (.ag [.v (.bool (F x y).s),.sl (lim (F x y).m).length (qc (lim (F x y).m)),.v (.int .i64 (F x y).e)])))(hg:qp Tryz.prog f=True)
  (hc:∀h:Nat→Ob,caps.map (qD h 6)=caps) (hc5:∀h:Nat→Ob,caps.map (qD h 5)=caps) (hn:∀ks,AllL (j0 ks) caps) (hr:∀ρ,zJ ρ caps=caps):
  Con Tryz.prog 301 false [.ag [.v (.bool (s).lo.s),.sl (lim (s).lo.m).length (qc (lim (s).lo.m)),.v (.int .i64 (s).lo.e),.v (.bool (s).hi.s),.sl (lim (s).hi.m).length (qc (lim (s).hi.m)),.v (.int .i64 (s).hi.e)],.ag [.v (.bool (t).lo.s),.sl (lim (t).lo.m).length (qc (lim (t).lo.m)),.v (.int .i64 (t).lo.e),.v (.bool (t).hi.s),.sl (lim (t).hi.m).length (qc (lim (t).hi.m)),.v (.int .i64 (t).hi.e)],.fn f caps] [] (isA (.sl 4 (qm ExV.cs (jp F s t)))):=by
 refine Con.frzA ?_
 refine Con.of_aw Tryz.func301 rfl Tryz.ntmps301 (by simp) (by simp) (by simp) (W.sound ?_)
 show @W Tryz.prog 32 ⟨_⟩ ⟨fun x σ=>@qX _ _ _ ⟨_⟩ _ ⟨_⟩ x σ⟩ _ _
 simp(disch:=omega)only[go_sem,hg]
 refine qt rfl [⟨0,[],[]⟩,⟨1,[],[]⟩,⟨2,[],[]⟩,⟨3,[2],[]⟩,⟨4,[2],[]⟩,⟨6,[2,4],[]⟩,⟨7,[2,4],[]⟩,⟨8,[2,4],[]⟩,⟨9,[2,4,8],[]⟩,⟨10,[2,4,8],[]⟩,⟨12,[2,4,8,10],[]⟩,⟨13,[2,4,8,10],[]⟩,⟨14,[2,4,8,10],[]⟩,⟨15,[2,4,8,10,14],[]⟩,⟨16,[2,4,8,10,14],[]⟩,⟨18,[2,4,8,10,14,16],[]⟩,⟨19,[2,4,8,10,14,16],[]⟩,⟨20,[2,4,8,10,14,16],[]⟩,⟨21,[2,4,8,10,14,16,20],[]⟩,⟨22,[2,4,8,10,14,16,20],[]⟩,⟨5,[8,10,14,16,20,22],[]⟩,⟨11,[14,16,20,22],[]⟩,⟨17,[20,22],[]⟩,⟨23,[],[]⟩,⟨24,[],[]⟩,⟨25,[],[]⟩] (by kernel_rfl) ?_
 simp(disch:=omega)only[go_sem,hg]
 refine qC (hf s.lo t.lo (.inl rfl) (.inl rfl)) (by simp(disch:=omega)only[go_sem,hc,hc5]) ?_
 rintro r hs ⟨rfl,rfl,_⟩
 refine⟨by simp[qK],?_⟩
 simp(disch:=omega)only[go_sem,hg]
 refine qC (hf s.lo t.hi (.inl rfl) (.inr rfl)) (by simp(disch:=omega)only[go_sem,hc,hc5]) ?_
 rintro r hs ⟨rfl,rfl,_⟩
 refine⟨by simp[qK],?_⟩
 simp(disch:=omega)only[go_sem,hg]
 refine qC (hf s.hi t.lo (.inr rfl) (.inl rfl)) (by simp(disch:=omega)only[go_sem,hc,hc5]) ?_
 rintro r hs ⟨rfl,rfl,_⟩
 refine⟨by simp[qK],?_⟩
 simp(disch:=omega)only[go_sem,hg]
 refine qC (hf s.hi t.hi (.inr rfl) (.inr rfl)) (by simp(disch:=omega)only[go_sem,hc,hc5]) ?_
 rintro r hs ⟨rfl,rfl,_⟩
 refine⟨by simp[qK],?_⟩
 simp(disch:=omega)only[go_sem]
 have hrow:qm ExV.cs (jp F s t)=[.v (.bool (F s.lo t.lo).s),.sl (lim (F s.lo t.lo).m).length (qc (lim (F s.lo t.lo).m)),.v (.int .i64 (F s.lo t.lo).e),.v (.bool (F s.lo t.hi).s),.sl (lim (F s.lo t.hi).m).length (qc (lim (F s.lo t.hi).m)),.v (.int .i64 (F s.lo t.hi).e),
   .v (.bool (F s.hi t.lo).s),.sl (lim (F s.hi t.lo).m).length (qc (lim (F s.hi t.lo).m)),.v (.int .i64 (F s.hi t.lo).e),.v (.bool (F s.hi t.hi).s),.sl (lim (F s.hi t.hi).m).length (qc (lim (F s.hi t.hi).m)),.v (.int .i64 (F s.hi t.hi).e)]:=rfl
 rw[←hrow]
 refine qh [(0,330000000)] [.own 3 (qm ExV.cs (jp F s t))] [] [.rf 0 0 4] rfl (by simp(disch:=omega)only[go_sem]) (by simp(disch:=omega)only[go_sem]) (by simp) (by simp) ?_
 show qD _ 6 _=_
 simp(disch:=omega)only[go_sem,qW,zE (l:=jp F s t) (k:=4) rfl]
theorem adB(s t:SpV)(hs:s.bd (-200000) 200000)(ht:t.bd (-200000) 200000):Con Tryz.prog 273 false [.ag [.v (.bool (s).lo.s),.sl (lim (s).lo.m).length (qc (lim (s).lo.m)),.v (.int .i64 (s).lo.e),.v (.bool (s).hi.s),.sl (lim (s).hi.m).length (qc (lim (s).hi.m)),.v (.int .i64 (s).hi.e)],.ag [.v (.bool (t).lo.s),.sl (lim (t).lo.m).length (qc (lim (t).lo.m)),.v (.int .i64 (t).lo.e),.v (.bool (t).hi.s),.sl (lim (t).hi.m).length (qc (lim (t).hi.m)),.v (.int .i64 (t).hi.e)]] [] (isA (.ag [.v (.bool (s.times t).lo.s),.sl (lim (s.times t).lo.m).length (qc (lim (s.times t).lo.m)),.v (.int .i64 (s.times t).lo.e),.v (.bool (s.times t).hi.s),.sl (lim (s.times t).hi.m).length (qc (lim (s.times t).hi.m)),.v (.int .i64 (s.times t).hi.e)])):=by
 refine Con.frzA ?_
 have hm:∀x:ExV,x.bd (-200000) 200000→x.bd (-400000) 400000:=fun x h=>h.mono (by omega) (by omega)
 have he:=aeF (F:=ExV.times) (lo:= -400000) (hi:=400000) hs ht (fun x y hx hy=>(ExV.times_bd hx hy).mono (by omega) (by omega))
 have ce:=JB s t 168 [] ExV.times (fun x y hx hy=>by
  refine yr x y (hm x ?_) (hm y ?_)
  ·rcases hx with rfl|rfl
   ·exact hs.1
   ·exact hs.2
  ·rcases hy with rfl|rfl
   ·exact ht.1
   ·exact ht.2) (by simp(disch:=omega)only[go_sem]) (fun h=>rfl) (fun h=>rfl) (fun ks=>by simp(disch:=omega)only[go_sem]) (fun ρ=>rfl)
 unfold SpV.times
 generalize hE:jp ExV.times s t=E at*
 have hE4:E.length=4:=by rw[←hE];rfl
 have cl:=KU E (by omega) (by omega) he
 have cm:=aeL E (by omega) (by omega) he
 rw[hE4]at cl cm
 refine Con.of_w (rs:=[.cell 4 111]) Tryz.func273 rfl Tryz.ntmps273 rfl ?_
 simp(disch:=omega)only[go_sem]
 refine qa (ce) ?_
 simp(disch:=omega)only[go_sem]
 refine qa (cl) ?_
 simp(disch:=omega)only[go_sem]
 refine qa (cm) ?_
 simp(disch:=omega)only[go_sem]
 exact ql
end Go.Ab
namespace Go.Ab
open Go
section
variable {P:Program}{N:Nat}{σ:St}{Q:Exit→St→Prop}
theorem Le.nilC(m o:Nat){zo:Nat}{cs:List AV}(hm:σ.hp m=.own zo cs)(ho:cs[o]? =some (.v (.slice none 0 0))):
  Le σ ⟨σ.env,upd σ.hp m (.own zo (cs.set o (.sl 0 [])))⟩:=by
 intro L w0 R0 N a w hi
 obtain⟨R,ι,hR,h⟩:=hi.inv
 obtain⟨hol,hoe⟩:=List.getElem?_eq_some_iff.1 ho
 have key:Inv L w0 R ι w a.tmps ⟨σ.env,upd σ.hp m (.own zo (cs.set o (.sl 0 [])))⟩:=by
  cases hB:ι m with
  |none=>
   have:=h.hp.ok m
   rw[hm,hB]at this
   have e:cs=[]:=this
   rw[e]at hol;simp at hol
  |some B=>
   obtain⟨c,T,lo,hi',h1,h2,h3,h4,h5,h6⟩:=ji h hm hB
   refine h.turn hm hB rfl rfl rfl rfl (fun _ _=>rfl) ⟨c,T,lo,hi',h1,h2,h3,h4,by rw[List.length_set];exact h5,fun i hi2=>?_⟩ (AllL.of_get fun i hi2=>?_)
   ·rw[List.length_set]at hi2
    rw[List.getElem_set]
    by_cases e:o=i
    ·subst e
     rw[if_pos rfl]
     have:=h6 o hi2
     rw[hoe]at this
     rw[this.v_inv]
     exact .fr _ _ (.sl none 0 0 [] (fun _=>undef) 0 0 (Nat.le_refl _) (fun h=>absurd h (by simp)) (fun i h=>absurd h (by simp)) (fun i h=>absurd h (by simp)))
    ·rw[if_neg e];exact h6 i hi2
   ·rw[List.length_set]at hi2
    rw[List.getElem_set]
    split
    ·simp[AV.All]
    ·exact(h.hp.men m zo cs hm).get i hi2
 exact⟨hi.df,hi.sz,R,ι,hR,key⟩
theorem Le.frz(m:Nat){z:Nat}{ks:List AV}(hm:σ.hp m=.own z ks)(hl:jN m=false)(hn:AllL (fun _=>False) ks):
  Le σ ⟨fun s=>(σ.env s).fz m z ks,fun k=>if k=m then .dead else(σ.hp k).fz m z ks⟩:=by
 have:=Le.freeze m hm hl hn
 have e:(fun k=>bif Nat.beq k m then Ob.dead else(σ.hp k).fz m z ks)=fun k=>if k=m then Ob.dead else(σ.hp k).fz m z ks:=by
  funext k
  by_cases h:k=m
  ·subst h;rw[Nat.beq_refl,cond_true,if_pos rfl]
  ·rw[aeq h,cond_false,if_neg h]
 rwa[e]at this
theorem AW.seqLe{x y:Code}{E:List (Nat×AV)}{H:List (Nat×Ob)}(hx:AW P N x (fun ex σ'=>ex=.normal∧Le σ' ⟨ofL .un E,ofH H⟩) σ)(hy:AW P N y Q ⟨ofL .un E,ofH H⟩):AW P N (.seq x y) Q σ:=
 AW.seq (hx.mono fun ex σ' ⟨he,hl⟩=>by subst he;exact AW.le hl hy)
end
section
variable {m z:Nat}{ks:List AV}
theorem aZg:AV.fz m z ks .un=.un:=ID rfl
theorem bdN{x:Value}:AV.fz m z ks (.v x)=.v x:=ID rfl
theorem aZi{n:Nat}{cs:List AV}:AV.fz m z ks (.sl n cs)=.sl n cs:=ID rfl
theorem aZl{o:Nat}{cs:List AV}:AV.fz m z ks (.fp cs o)=.fp cs o:=ID rfl
theorem aZk{nm o:Nat}:AV.fz m z ks (.pt nm o)=if nm=m then .fp ks o else .pt nm o:=by
 by_cases h:nm=m
 ·subst h;simp[AV.fz,Nat.beq_refl]
 ·simp[AV.fz,aeq h,h]
theorem aZj{nm o n:Nat}:AV.fz m z ks (.rf nm o n)=if nm=m then .sl n (cut ks o (n*z))else .rf nm o n:=by
 by_cases h:nm=m
 ·subst h;simp[AV.fz,Nat.beq_refl]
 ·simp[AV.fz,aeq h,h]
theorem aZn{cs:List AV}:AV.fz m z ks (.ag cs)=.ag (fzL m z ks cs):=ID rfl
theorem aZh{cs:List AV}:AV.fz m z ks (.tu cs)=.tu (fzL m z ks cs):=ID rfl
theorem aZm{f:Nat}{cs:List AV}:AV.fz m z ks (.fn f cs)=.fn f (fzL m z ks cs):=ID rfl
theorem aKm:fzL m z ks []=[]:=ID rfl
theorem aBx{a:AV}{r:List AV}:fzL m z ks (a::r)=a.fz m z ks::fzL m z ks r:=ID rfl
theorem aMj{y:Nat}{cs:List AV}:Ob.fz m z ks (.own y cs)=.own y (fzL m z ks cs):=ID rfl
theorem aBw{xs:List Int}:fzL m z ks (qc xs)=qc xs:=by simp[jy,qc,AV.fz]
end
section
variable {h:Nat→Ob}{ix:Nat→Option Nat}{k:Nat}
theorem aNA{f:Nat}{cs:List AV}:snp h ix (k+1) (.fn f cs)=.fn f (cs.map (snp h ix k)):=ID rfl
theorem aNB{cs:List AV}:snp h ix (k+1) (.ag cs)=.ag (cs.map (snp h ix k)):=ID rfl
theorem aNz{o:Nat}{cs:List AV}:snp h ix (k+1) (.fp cs o)=.fp cs o:=ID rfl
end
attribute [go_sem] aNA aNB aNz
attribute [go_sem] aZg bdN aZi aZl aZk aZj aZn aZh aZm aKm aBx aMj aBw
end Go.Ab
namespace Go.Ab
open Go Go.Proofs
theorem qR{n i j:Nat}(hi:i<n)(hj:j<n):i*n+j<n*n:=by
 have:(i+1)*n≤n*n:=Nat.mul_le_mul_right n hi
 rw[Nat.add_mul,Nat.one_mul]at this;omega
theorem jZ{n:Nat}(h:n≤4):n*n≤16:=Nat.mul_le_mul h h
theorem aeE{lo hi:Int}(h1:lo≤0)(h2:0≤hi):ex0.bd lo hi:=⟨fun _=>rfl,h1,by show((bl 0:Nat):Int)+0≤hi;rw[yO];omega⟩
theorem aBu{n:Nat}{g:Nat→Nat→ExV}{lo hi:Int}(h:∀i j,i<n→j<n→(g i j).bd lo hi):gbd lo hi (gl n g (n*n)):=by
 intro x hx
 simp only[gl,List.mem_map,List.mem_range]at hx
 obtain⟨t,ht,rfl⟩:=hx
 have hn:0<n:=by
  rcases Nat.eq_zero_or_pos n with e|e
  ·subst e;simp at ht
  ·exact e
 exact h _ _ (Nat.div_lt_of_lt_mul ht) (Nat.mod_lt _ hn)
theorem zT(n:Nat)(f:Nat)(caps:List AV)(g:Nat→Nat→ExV)(hn0:n≤4)(hf:∀i j:Nat,i<n→j<n→Con Tryz.prog f false (.v (.int .i64 i):: .v (.int .i64 j)::caps) [] (isA (.ag [.v (.bool (g i j).s),.sl (lim (g i j).m).length (qc (lim (g i j).m)),.v (.int .i64 (g i j).e)])))(hg:qp Tryz.prog f=True)
  (hc:∀h:Nat→Ob,caps.map (qD h 6)=caps) (hc5:∀h:Nat→Ob,caps.map (qD h 5)=caps) (hn:∀ks,AllL (j0 ks) caps) (hr:∀ρ,zJ ρ caps=caps):
  Con Tryz.prog 164 false [.v (.int .i64 n),.fn f caps] [] (isA (.ag [.v (.int .i64 (n)),.sl (gl n g (n*n)).length (qm ExV.cs (gl n g (n*n)))])):=by
 rw[zi];exact ajs n f caps g hn0 hf hg hc hc5 hn hr
def zg(n:Nat)(l l':List ExV):List ExV:=gl n (fun i j=>(l.getD (i*n+j) ex0).plus (l'.getD (i*n+j) ex0)) (n*n)
theorem aju(n:Nat)(l l':List ExV)(i j:Nat)(hn:n≤4)(hi:i<n)(hj:j<n)(hl:l.length=n*n)(hl':l'.length=n*n)(hb:gbd (-400000) 400000 l)(hb':gbd (-400000) 400000 l'):
  Con Tryz.prog 165 false [.v (.int .i64 i),.v (.int .i64 j),.fp [.v (.int .i64 n),.sl l.length (qm ExV.cs l)] 0,.fp [.v (.int .i64 n),.sl l'.length (qm ExV.cs l')] 0] [] (isA (.ag [.v (.bool ((l.getD (i*n+j) ex0).plus (l'.getD (i*n+j) ex0)).s),.sl (lim ((l.getD (i*n+j) ex0).plus (l'.getD (i*n+j) ex0)).m).length (qc (lim ((l.getD (i*n+j) ex0).plus (l'.getD (i*n+j) ex0)).m)),.v (.int .i64 ((l.getD (i*n+j) ex0).plus (l'.getD (i*n+j) ex0)).e)])):=by
 refine Con.frzA ?_
 have hx:=qR hi hj
 have hq:=jZ hn
 have c1:=ye n l i j (by omega) (by omega) (by omega) (by omega) (by omega)
 have c2:=ye n l' i j (by omega) (by omega) (by omega) (by omega) (by omega)
 have b1:=qL hb (show i*n+j<l.length by omega)
 have b2:=qL hb' (show i*n+j<l'.length by omega)
 generalize l.getD (i*n+j) ex0=x at*
 generalize l'.getD (i*n+j) ex0=y at*
 refine Con.of_w (rs:=[.cell 6 90]) Tryz.func165 rfl Tryz.ntmps165 rfl ?_
 simp(disch:=omega)only[go_sem]
 refine qt rfl [⟨0,[],[]⟩,⟨1,[0],[]⟩,⟨2,[0],[]⟩,⟨4,[0],[]⟩,⟨5,[0,4],[]⟩,⟨6,[0,4],[]⟩,⟨3,[4],[]⟩,⟨7,[],[]⟩,⟨8,[],[]⟩,⟨9,[],[]⟩] (by kernel_rfl) ?_
 simp(disch:=omega)only[go_sem]
 refine qa (c1) ?_
 simp(disch:=omega)only[go_sem]
 refine qa (c2) ?_
 simp(disch:=omega)only[go_sem]
 refine qa (zP x y b1 b2) ?_
 simp(disch:=omega)only[go_sem]
 exact ql
theorem aqd(n:Nat)(l l':List ExV)(hn:n≤4)(hl:l.length=n*n)(hl':l'.length=n*n)(hb:gbd (-400000) 400000 l)(hb':gbd (-400000) 400000 l'):Con Tryz.prog 80 false [.ag [.v (.int .i64 (n)),.sl (l).length (qm ExV.cs (l))],.ag [.v (.int .i64 (n)),.sl (l').length (qm ExV.cs (l'))]] [] (isA (.ag [.v (.int .i64 (n)),.sl (zg n l l').length (qm ExV.cs (zg n l l'))])):=by
 refine Con.frzA ?_
 have c:=zT n 165 [.fp [.v (.int .i64 n),.sl l.length (qm ExV.cs l)] 0,.fp [.v (.int .i64 n),.sl l'.length (qm ExV.cs l')] 0] (fun i j=>(l.getD (i*n+j) ex0).plus (l'.getD (i*n+j) ex0)) hn (fun i j hi hj=>aju n l l' i j hn hi hj hl hl' hb hb') (by simp(disch:=omega)only[go_sem]) (fun h=>rfl) (fun h=>rfl) (fun ks=>by simp(disch:=omega)only[go_sem]) (fun ρ=>rfl)
 change Con _ _ _ _ _ (isA (.ag [.v (.int .i64 (n)),.sl (zg n l l').length (qm ExV.cs (zg n l l'))]))at c
 refine Con.of_aw Tryz.func80 rfl Tryz.ntmps80 (by simp) (by simp) (by simp) (AW.seqLe (E:=[(2,.fp [.v (.int .i64 n),.sl l.length (qm ExV.cs l)] 0),(3,.fp [.v (.int .i64 n),.sl l'.length (qm ExV.cs l')] 0),(4,.pt 0 0)]) (H:=[(0,.own 0 [.v (.int .i64 0),.v (.slice none 0 0)])]) (W.sound ?_) (W.sound ?_))
 ·show @W Tryz.prog 9 ⟨_⟩ ⟨_⟩ _ _
  simp(disch:=omega)only[go_sem]
  exact(Le.frz 40000000 (z:=0) (ks:=[.v (.int .i64 n),.sl l.length (qm ExV.cs l)]) (by simp(disch:=omega)only[go_sem]) rfl (by simp(disch:=omega)only[go_sem])).trans ((Le.frz 50000000 (z:=0) (ks:=[.v (.int .i64 n),.sl l'.length (qm ExV.cs l')]) (by simp(disch:=omega)only[go_sem]) rfl (by simp(disch:=omega)only[go_sem])).trans (Le.lst [(0,60000000)] _ _ rfl (by simp(disch:=omega)only[go_sem]) (by simp(disch:=omega)only[go_sem])))
 show @W Tryz.prog 9 ⟨_⟩ ⟨fun x σ=>@qX _ _ _ ⟨_⟩ _ ⟨_⟩ x σ⟩ _ _
 simp(disch:=omega)only[go_sem]
 refine qa (c) ?_
 simp(disch:=omega)only[go_sem]
 exact ql
def zm(n:Nat)(l l':List ExV):List ExV:=gl n (fun i j=>(l.getD (i*n+j) ex0).plus (l'.getD (i*n+j) ex0).neg) (n*n)
theorem adQ(n:Nat)(l l':List ExV)(i j:Nat)(hn:n≤4)(hi:i<n)(hj:j<n)(hl:l.length=n*n)(hl':l'.length=n*n)(hb:gbd (-400000) 400000 l)(hb':gbd (-400000) 400000 l'):
  Con Tryz.prog 182 false [.v (.int .i64 i),.v (.int .i64 j),.fp [.v (.int .i64 n),.sl l.length (qm ExV.cs l)] 0,.fp [.v (.int .i64 n),.sl l'.length (qm ExV.cs l')] 0] [] (isA (.ag [.v (.bool ((l.getD (i*n+j) ex0).plus (l'.getD (i*n+j) ex0).neg).s),.sl (lim ((l.getD (i*n+j) ex0).plus (l'.getD (i*n+j) ex0).neg).m).length (qc (lim ((l.getD (i*n+j) ex0).plus (l'.getD (i*n+j) ex0).neg).m)),.v (.int .i64 ((l.getD (i*n+j) ex0).plus (l'.getD (i*n+j) ex0).neg).e)])):=by
 refine Con.frzA ?_
 have hx:=qR hi hj
 have hq:=jZ hn
 have c1:=ye n l i j (by omega) (by omega) (by omega) (by omega) (by omega)
 have c2:=ye n l' i j (by omega) (by omega) (by omega) (by omega) (by omega)
 have b1:=qL hb (show i*n+j<l.length by omega)
 have b2:=qL hb' (show i*n+j<l'.length by omega)
 generalize l.getD (i*n+j) ex0=x at*
 generalize l'.getD (i*n+j) ex0=y at*
 refine Con.of_w (rs:=[.cell 6 90]) Tryz.func182 rfl Tryz.ntmps182 rfl ?_
 simp(disch:=omega)only[go_sem]
 refine qt rfl [⟨0,[],[]⟩,⟨1,[0],[]⟩,⟨2,[0],[]⟩,⟨4,[0],[]⟩,⟨5,[0,4],[]⟩,⟨6,[0,4],[]⟩,⟨3,[4],[]⟩,⟨7,[],[]⟩,⟨8,[],[]⟩,⟨9,[],[]⟩] (by kernel_rfl) ?_
 simp(disch:=omega)only[go_sem]
 refine qa (c1) ?_
 simp(disch:=omega)only[go_sem]
 refine qa (c2) ?_
 simp(disch:=omega)only[go_sem]
 refine qa (yt x y b1 b2) ?_
 simp(disch:=omega)only[go_sem]
 exact ql
theorem ajv(n:Nat)(l l':List ExV)(hn:n≤4)(hl:l.length=n*n)(hl':l'.length=n*n)(hb:gbd (-400000) 400000 l)(hb':gbd (-400000) 400000 l'):Con Tryz.prog 102 false [.ag [.v (.int .i64 (n)),.sl (l).length (qm ExV.cs (l))],.ag [.v (.int .i64 (n)),.sl (l').length (qm ExV.cs (l'))]] [] (isA (.ag [.v (.int .i64 (n)),.sl (zm n l l').length (qm ExV.cs (zm n l l'))])):=by
 refine Con.frzA ?_
 have c:=zT n 182 [.fp [.v (.int .i64 n),.sl l.length (qm ExV.cs l)] 0,.fp [.v (.int .i64 n),.sl l'.length (qm ExV.cs l')] 0] (fun i j=>(l.getD (i*n+j) ex0).plus (l'.getD (i*n+j) ex0).neg) hn (fun i j hi hj=>adQ n l l' i j hn hi hj hl hl' hb hb') (by simp(disch:=omega)only[go_sem]) (fun h=>rfl) (fun h=>rfl) (fun ks=>by simp(disch:=omega)only[go_sem]) (fun ρ=>rfl)
 change Con _ _ _ _ _ (isA (.ag [.v (.int .i64 (n)),.sl (zm n l l').length (qm ExV.cs (zm n l l'))]))at c
 refine Con.of_aw Tryz.func102 rfl Tryz.ntmps102 (by simp) (by simp) (by simp) (AW.seqLe (E:=[(2,.fp [.v (.int .i64 n),.sl l.length (qm ExV.cs l)] 0),(3,.fp [.v (.int .i64 n),.sl l'.length (qm ExV.cs l')] 0),(4,.pt 0 0)]) (H:=[(0,.own 0 [.v (.int .i64 0),.v (.slice none 0 0)])]) (W.sound ?_) (W.sound ?_))
 ·show @W Tryz.prog 9 ⟨_⟩ ⟨_⟩ _ _
  simp(disch:=omega)only[go_sem]
  exact(Le.frz 40000000 (z:=0) (ks:=[.v (.int .i64 n),.sl l.length (qm ExV.cs l)]) (by simp(disch:=omega)only[go_sem]) rfl (by simp(disch:=omega)only[go_sem])).trans ((Le.frz 50000000 (z:=0) (ks:=[.v (.int .i64 n),.sl l'.length (qm ExV.cs l')]) (by simp(disch:=omega)only[go_sem]) rfl (by simp(disch:=omega)only[go_sem])).trans (Le.lst [(0,60000000)] _ _ rfl (by simp(disch:=omega)only[go_sem]) (by simp(disch:=omega)only[go_sem])))
 show @W Tryz.prog 9 ⟨_⟩ ⟨fun x σ=>@qX _ _ _ ⟨_⟩ _ ⟨_⟩ x σ⟩ _ _
 simp(disch:=omega)only[go_sem]
 refine qa (c) ?_
 simp(disch:=omega)only[go_sem]
 exact ql
def j8(n:Nat)(l:List ExV)(y:ExV):List ExV:=gl n (fun i j=>(l.getD (i*n+j) ex0).times y) (n*n)
theorem K1(n:Nat)(l:List ExV)(y:ExV)(i j:Nat)(hn:n≤4)(hi:i<n)(hj:j<n)(hl:l.length=n*n)(hb:gbd (-400000) 400000 l)(hy:y.bd (-400000) 400000):
  Con Tryz.prog 169 false [.v (.int .i64 i),.v (.int .i64 j),.fp [.v (.int .i64 n),.sl l.length (qm ExV.cs l)] 0,.fp [.v (.bool y.s),.sl (lim y.m).length (qc (lim y.m)),.v (.int .i64 y.e)] 0] [] (isA (.ag [.v (.bool ((l.getD (i*n+j) ex0).times y).s),.sl (lim ((l.getD (i*n+j) ex0).times y).m).length (qc (lim ((l.getD (i*n+j) ex0).times y).m)),.v (.int .i64 ((l.getD (i*n+j) ex0).times y).e)])):=by
 refine Con.frzA ?_
 have hx:=qR hi hj
 have hq:=jZ hn
 have c1:=ye n l i j (by omega) (by omega) (by omega) (by omega) (by omega)
 have b1:=qL hb (show i*n+j<l.length by omega)
 generalize l.getD (i*n+j) ex0=x at*
 refine Con.of_w (rs:=[.cell 6 90]) Tryz.func169 rfl Tryz.ntmps169 rfl ?_
 simp(disch:=omega)only[go_sem]
 refine qt rfl [⟨0,[],[]⟩,⟨1,[0],[]⟩,⟨2,[0],[]⟩,⟨4,[0],[]⟩,⟨3,[4],[]⟩,⟨5,[],[]⟩,⟨6,[],[]⟩] (by kernel_rfl) ?_
 simp(disch:=omega)only[go_sem]
 refine qa (c1) ?_
 simp(disch:=omega)only[go_sem]
 refine qa (yr x y b1 hy) ?_
 simp(disch:=omega)only[go_sem]
 exact ql
theorem adP(n:Nat)(l:List ExV)(y:ExV)(hn:n≤4)(hl:l.length=n*n)(hb:gbd (-400000) 400000 l)(hy:y.bd (-400000) 400000):Con Tryz.prog 83 false [.ag [.v (.int .i64 (n)),.sl (l).length (qm ExV.cs (l))],.ag [.v (.bool (y).s),.sl (lim (y).m).length (qc (lim (y).m)),.v (.int .i64 (y).e)]] [] (isA (.ag [.v (.int .i64 (n)),.sl (j8 n l y).length (qm ExV.cs (j8 n l y))])):=by
 refine Con.frzA ?_
 have c:=zT n 169 [.fp [.v (.int .i64 n),.sl l.length (qm ExV.cs l)] 0,.fp [.v (.bool y.s),.sl (lim y.m).length (qc (lim y.m)),.v (.int .i64 y.e)] 0] (fun i j=>(l.getD (i*n+j) ex0).times y) hn (fun i j hi hj=>K1 n l y i j hn hi hj hl hb hy) (by simp(disch:=omega)only[go_sem]) (fun h=>rfl) (fun h=>rfl) (fun ks=>by simp(disch:=omega)only[go_sem]) (fun ρ=>rfl)
 change Con _ _ _ _ _ (isA (.ag [.v (.int .i64 (n)),.sl (j8 n l y).length (qm ExV.cs (j8 n l y))]))at c
 refine Con.of_aw Tryz.func83 rfl Tryz.ntmps83 (by simp) (by simp) (by simp) (AW.seqLe (E:=[(2,.fp [.v (.int .i64 n),.sl l.length (qm ExV.cs l)] 0),(3,.fp [.v (.bool y.s),.sl (lim y.m).length (qc (lim y.m)),.v (.int .i64 y.e)] 0),(4,.pt 0 0)]) (H:=[(0,.own 0 [.v (.int .i64 0),.v (.slice none 0 0)])]) (W.sound ?_) (W.sound ?_))
 ·show @W Tryz.prog 9 ⟨_⟩ ⟨_⟩ _ _
  simp(disch:=omega)only[go_sem]
  exact(Le.frz 40000000 (z:=0) (ks:=[.v (.int .i64 n),.sl l.length (qm ExV.cs l)]) (by simp(disch:=omega)only[go_sem]) rfl (by simp(disch:=omega)only[go_sem])).trans ((Le.frz 50000000 (z:=0) (ks:=[.v (.bool y.s),.sl (lim y.m).length (qc (lim y.m)),.v (.int .i64 y.e)]) (by simp(disch:=omega)only[go_sem]) rfl (by simp(disch:=omega)only[go_sem])).trans (Le.lst [(0,60000000)] _ _ rfl (by simp(disch:=omega)only[go_sem]) (by simp(disch:=omega)only[go_sem])))
 show @W Tryz.prog 9 ⟨_⟩ ⟨fun x σ=>@qX _ _ _ ⟨_⟩ _ ⟨_⟩ x σ⟩ _ _
 simp(disch:=omega)only[go_sem]
 refine qa (c) ?_
 simp(disch:=omega)only[go_sem]
 exact ql
def aKl(n:Nat)(l:List ExV)(low mode:Int):List ExV:=gl n (fun i j=>(l.getD (i*n+j) ex0).rnd low mode) (n*n)
theorem aqc(n:Nat)(l:List ExV)(low mode:Int)(i j:Nat)(hn:n≤4)(hi:i<n)(hj:j<n)(hl:l.length=n*n)(hb:gbd (-400000) 400000 l)(hlo: -400000≤low∧low≤400000):
  Con Tryz.prog 231 false [.v (.int .i64 i),.v (.int .i64 j),.fp [.v (.int .i64 n),.sl l.length (qm ExV.cs l)] 0,.fp [.v (.int .i64 low)] 0,.fp [.v (.int .i64 mode)] 0] [] (isA (.ag [.v (.bool ((l.getD (i*n+j) ex0).rnd low mode).s),.sl (lim ((l.getD (i*n+j) ex0).rnd low mode).m).length (qc (lim ((l.getD (i*n+j) ex0).rnd low mode).m)),.v (.int .i64 ((l.getD (i*n+j) ex0).rnd low mode).e)])):=by
 refine Con.frzA ?_
 have hx:=qR hi hj
 have hq:=jZ hn
 have c1:=ye n l i j (by omega) (by omega) (by omega) (by omega) (by omega)
 have b1:=qL hb (show i*n+j<l.length by omega)
 generalize l.getD (i*n+j) ex0=x at*
 refine Con.of_w (rs:=[.cell 7 90]) Tryz.func231 rfl Tryz.ntmps231 rfl ?_
 simp(disch:=omega)only[go_sem]
 refine qt rfl [⟨0,[],[]⟩,⟨1,[0],[]⟩,⟨2,[0],[]⟩,⟨4,[0],[]⟩,⟨5,[0,4],[]⟩,⟨10,[0,4,5],[]⟩,⟨3,[4,5],[100000000]⟩,⟨6,[],[100000000]⟩,⟨7,[],[100000000]⟩,⟨8,[],[100000000]⟩,⟨9,[],[100000000]⟩,⟨11,[],[]⟩,⟨12,[],[]⟩] (by kernel_rfl) ?_
 simp(disch:=omega)only[go_sem]
 refine qa (c1) ?_
 simp(disch:=omega)only[go_sem]
 refine qa (Yv x low mode b1 hlo) ?_
 simp(disch:=omega)only[go_sem]
 exact ql
theorem aCq(n:Nat)(l:List ExV)(low mode:Int)(hn:n≤4)(hl:l.length=n*n)(hb:gbd (-400000) 400000 l)(hlo: -400000≤low∧low≤400000):Con Tryz.prog 151 false [.ag [.v (.int .i64 (n)),.sl (l).length (qm ExV.cs (l))],.v (.int .i64 low),.v (.int .i64 mode)] [] (isA (.ag [.v (.int .i64 (n)),.sl (aKl n l low mode).length (qm ExV.cs (aKl n l low mode))])):=by
 refine Con.frzA ?_
 have c:=zT n 231 [.fp [.v (.int .i64 n),.sl l.length (qm ExV.cs l)] 0,.fp [.v (.int .i64 low)] 0,.fp [.v (.int .i64 mode)] 0] (fun i j=>(l.getD (i*n+j) ex0).rnd low mode) hn (fun i j hi hj=>aqc n l low mode i j hn hi hj hl hb hlo) (by simp(disch:=omega)only[go_sem]) (fun h=>rfl) (fun h=>rfl) (fun ks=>by simp(disch:=omega)only[go_sem]) (fun ρ=>rfl)
 change Con _ _ _ _ _ (isA (.ag [.v (.int .i64 (n)),.sl (aKl n l low mode).length (qm ExV.cs (aKl n l low mode))]))at c
 refine Con.of_aw Tryz.func151 rfl Tryz.ntmps151 (by simp) (by simp) (by simp) (AW.seqLe (E:=[(3,.fp [.v (.int .i64 n),.sl l.length (qm ExV.cs l)] 0),(4,.fp [.v (.int .i64 low)] 0),(5,.fp [.v (.int .i64 mode)] 0),(6,.pt 0 0)]) (H:=[(0,.own 0 [.v (.int .i64 0),.v (.slice none 0 0)])]) (W.sound ?_) (W.sound ?_))
 ·show @W Tryz.prog 11 ⟨_⟩ ⟨_⟩ _ _
  simp(disch:=omega)only[go_sem]
  exact(Le.frz 50000000 (z:=0) (ks:=[.v (.int .i64 n),.sl l.length (qm ExV.cs l)]) (by simp(disch:=omega)only[go_sem]) rfl (by simp(disch:=omega)only[go_sem])).trans ((Le.frz 60000000 (z:=0) (ks:=[.v (.int .i64 low)]) (by simp(disch:=omega)only[go_sem]) rfl (by simp(disch:=omega)only[go_sem])).trans ((Le.frz 70000000 (z:=0) (ks:=[.v (.int .i64 mode)]) (by simp(disch:=omega)only[go_sem]) rfl (by simp(disch:=omega)only[go_sem])).trans (Le.lst [(0,80000000)] _ _ rfl (by simp(disch:=omega)only[go_sem]) (by simp(disch:=omega)only[go_sem]))))
 show @W Tryz.prog 11 ⟨_⟩ ⟨fun x σ=>@qX _ _ _ ⟨_⟩ _ ⟨_⟩ x σ⟩ _ _
 simp(disch:=omega)only[go_sem]
 refine qa (c) ?_
 simp(disch:=omega)only[go_sem]
 exact ql
def ex1:ExV:=⟨false,1,0⟩
theorem Q9:Con Tryz.prog 181 false [] [] (isA (.ag [.v (.bool (ex1).s),.sl (lim (ex1).m).length (qc (lim (ex1).m)),.v (.int .i64 (ex1).e)])):=by
 refine Con.frzA ?_
 refine Con.of_w (rs:=[.cell 0 90]) Tryz.func181 rfl Tryz.ntmps181 rfl ?_
 simp(disch:=omega)only[go_sem]
 refine qa (zw 1 (by omega)) ?_
 simp(disch:=omega)only[go_sem]
 exact ql (hp:=by simp(disch:=omega)only[go_sem,ex1])
def idF(i j:Nat):ExV:=if i=j then ex1 else ex0
def gId(n:Nat):List ExV:=gl n idF (n*n)
theorem aLr(i j:Nat):Con Tryz.prog 180 false [.v (.int .i64 i),.v (.int .i64 j)] [] (isA (.ag [.v (.bool (idF i j).s),.sl (lim (idF i j).m).length (qc (lim (idF i j).m)),.v (.int .i64 (idF i j).e)])):=by
 refine Con.frzA ?_
 refine Con.of_w (rs:=[.cell 4 90]) Tryz.func180 rfl Tryz.ntmps180 rfl ?_
 simp(disch:=omega)only[go_sem]
 refine qe (fun h1=>?_) (fun h1=>?_)
 ·simp(disch:=omega)only[go_sem,h1]
  have e:idF i j=ex1:=if_pos (by omega)
  rw[e]
  refine qa (Q9) ?_
  simp(disch:=omega)only[go_sem]
  exact ql
 ·simp(disch:=omega)only[go_sem,h1]
  have e:idF i j=ex0:=if_neg (by omega)
  rw[e]
  exact ql (hp:=by simp(disch:=omega)only[go_sem,ex0,qn,List.length_nil,jd])
theorem aqe(n:Nat)(hn:n≤4):Con Tryz.prog 101 false [.v (.int .i64 n)] [] (isA (.ag [.v (.int .i64 (n)),.sl (gId n).length (qm ExV.cs (gId n))])):=by
 refine Con.frzA ?_
 have c:=zT n 180 [] idF hn (fun i j hi hj=>aLr i j) (by simp(disch:=omega)only[go_sem]) (fun h=>rfl) (fun h=>rfl) (fun ks=>by simp(disch:=omega)only[go_sem]) (fun ρ=>rfl)
 change Con _ _ _ _ _ (isA (.ag [.v (.int .i64 (n)),.sl (gId n).length (qm ExV.cs (gId n))]))at c
 refine Con.of_w (rs:=[.cell 2 102]) Tryz.func101 rfl Tryz.ntmps101 rfl ?_
 simp(disch:=omega)only[go_sem]
 refine qa (c) ?_
 simp(disch:=omega)only[go_sem]
 exact ql
theorem y8{lo hi:Int}(g:Nat→ExV)(h0:lo≤0∧0≤hi):∀k:Nat,(∀t,t<k→(g t).bd lo hi)→((List.range k).foldl (fun s t=>s.plus (g t)) ex0).bd lo (hi+k)
 |0,_=>aeE h0.1 (by simpa using h0.2)
 |k+1,h=>by
  rw[List.range_succ,List.foldl_append,List.foldl_cons,List.foldl_nil]
  have:=ExV.plus_bd (y8 g h0 k fun t ht=>h t (by omega)) ((h k (by omega)).mono (Int.le_refl _) (show hi≤hi+k by omega))
  exact this.mono (Int.le_refl _) (by omega)
def Jx(n:Nat)(l l':List ExV)(i j k:Nat):ExV:=(List.range k).foldl (fun s t=>s.plus ((l.getD (i*n+t) ex0).times (l'.getD (t*n+j) ex0))) ex0
def zk(n:Nat)(l l':List ExV):List ExV:=gl n (fun i j=>Jx n l l' i j n) (n*n)
theorem apC(n:Nat)(l l':List ExV)(i j:Nat):Jx n l l' i j 0=ex0:=rfl
theorem KO(n:Nat)(l l':List ExV)(i j k:Nat):Jx n l l' i j (k+1)=(Jx n l l' i j k).plus ((l.getD (i*n+k) ex0).times (l'.getD (k*n+j) ex0)):=by
 unfold Jx;rw[List.range_succ,List.foldl_append,List.foldl_cons,List.foldl_nil]
theorem apD{l1 h1 l2 h2:Int}{n:Nat}{l l':List ExV}{i j k:Nat}(hi:i<n)(hj:j<n)(hk:k≤n)(hl:l.length=n*n)(hl':l'.length=n*n)(hb:gbd l1 h1 l)(hb':gbd l2 h2 l')(h0:l1+l2≤0∧0≤h1+h2):(Jx n l l' i j k).bd (l1+l2) (h1+h2+k):=
 y8 _ h0 k fun t ht=>ExV.times_bd (qL hb (by rw[hl];exact qR hi (by omega))) (qL hb' (by rw[hl'];exact qR (by omega) hj))
theorem adO(n:Nat)(l l':List ExV)(i j:Nat)(hn:n≤4)(hi:i<n)(hj:j<n)(hl:l.length=n*n)(hl':l'.length=n*n)(hb:gbd (-190000) 190000 l)(hb':gbd (-190000) 190000 l'):
  Con Tryz.prog 167 false [.v (.int .i64 i),.v (.int .i64 j),.fp [.v (.int .i64 n),.sl l.length (qm ExV.cs l)] 0,.fp [.v (.int .i64 n),.sl l'.length (qm ExV.cs l')] 0] [] (isA (.ag [.v (.bool (Jx n l l' i j n).s),.sl (lim (Jx n l l' i j n).m).length (qc (lim (Jx n l l' i j n).m)),.v (.int .i64 (Jx n l l' i j n).e)])):=by
 refine Con.frzA ?_
 have hq:=jZ hn
 refine Con.of_w (rs:=[.cell 6 90]) Tryz.func167 rfl Tryz.ntmps167 rfl ?_
 simp(disch:=omega)only[go_sem]
 refine qg (fun k:Nat=>[(0,.v (.int .i64 i)),(1,.v (.int .i64 j)),(2,.fp [.v (.int .i64 n),.sl l.length (qm ExV.cs l)] 0),(3,.fp [.v (.int .i64 n),.sl l'.length (qm ExV.cs l')] 0),(6,.pt 1 0),(7,.pt 0 0),(10,.v (.int .i64 n)),(11,.v (.int .i64 k))])
  (fun k=>[(0,.own 0 [.v (.bool (Jx n l l' i j k).s),.sl (lim (Jx n l l' i j k).m).length (qc (lim (Jx n l l' i j k).m)),.v (.int .i64 (Jx n l l' i j k).e)]),(1,.own 0 [.v (.bool false),.v (.slice none 0 0),.v (.int .i64 0)])])
  (fun k=>k≤n) (fun k=>n-k) 0 (by omega) ?_ ?_
 ·exact(Le.nilC 90000000 1 (zo:=0) (cs:=[.v (.bool false),.v (.slice none 0 0),.v (.int .i64 0)]) (by simp(disch:=omega)only[go_sem]) rfl).trans (Le.lst [(0,90000000),(1,80000000)] _ _ rfl (by simp(disch:=omega)only[go_sem]) (by simp(disch:=omega)only[go_sem,List.set_cons_succ,List.set_cons_zero,apC,ex0,qn]))
 intro k hk
 have hD:=apD (k:=k) hi hj hk hl hl' hb hb' (by omega)
 have hs:=KO n l l' i j k
 generalize hDD:Jx n l l' i j k=D at*
 simp(disch:=omega)only[go_sem]
 refine qe (fun h1=>?_) (fun h1=>?_)
 ·have hk2:k<n:=by omega
  have hx:=qR hi hk2
  have hx':=qR hk2 hj
  have c1:=ye n l i k (by omega) (by omega) (by omega) (by omega) (by omega)
  have c2:=ye n l' k j (by omega) (by omega) (by omega) (by omega) (by omega)
  have b1:=qL hb (show i*n+k<l.length by omega)
  have b2:=qL hb' (show k*n+j<l'.length by omega)
  generalize l.getD (i*n+k) ex0=x at*
  generalize l'.getD (k*n+j) ex0=y at*
  simp(disch:=omega)only[go_sem,h1]
  refine qt rfl [⟨0,[],[]⟩,⟨1,[0],[]⟩,⟨2,[0,1],[]⟩,⟨3,[0,1],[]⟩,⟨5,[0,1],[]⟩,⟨6,[0,1,5],[]⟩,⟨7,[0,1,5],[]⟩,⟨4,[0,5],[]⟩,⟨8,[0],[]⟩,⟨9,[0],[]⟩,⟨10,[],[]⟩,⟨11,[],[]⟩] (by kernel_rfl) ?_
  simp(disch:=omega)only[go_sem]
  refine qa (c1) ?_
  simp(disch:=omega)only[go_sem]
  refine qa (c2) ?_
  simp(disch:=omega)only[go_sem]
  refine qa (yr x y (b1.mono (by omega) (by omega)) (b2.mono (by omega) (by omega))) ?_
  simp(disch:=omega)only[go_sem]
  refine qa (zP D (x.times y) (hD.mono (by omega) (by omega)) ((ExV.times_bd b1 b2).mono (by omega) (by omega))) ?_
  simp(disch:=omega)only[go_sem]
  exact qb (k+1) [] (by show k+1≤_;omega) (by show n-(k+1)<n-k;omega) rfl (by simp(disch:=omega)only[go_sem];try omega) (by simp(disch:=omega)only[go_sem,hs])
 ·simp(disch:=omega)only[go_sem,h1]
  obtain rfl:n=k:=by omega
  rw[hDD]
  exact ql
theorem ajt(n:Nat)(l l':List ExV)(hn:n≤4)(hl:l.length=n*n)(hl':l'.length=n*n)(hb:gbd (-190000) 190000 l)(hb':gbd (-190000) 190000 l'):Con Tryz.prog 82 false [.ag [.v (.int .i64 (n)),.sl (l).length (qm ExV.cs (l))],.ag [.v (.int .i64 (n)),.sl (l').length (qm ExV.cs (l'))]] [] (isA (.ag [.v (.int .i64 (n)),.sl (zk n l l').length (qm ExV.cs (zk n l l'))])):=by
 refine Con.frzA ?_
 have c:=zT n 167 [.fp [.v (.int .i64 n),.sl l.length (qm ExV.cs l)] 0,.fp [.v (.int .i64 n),.sl l'.length (qm ExV.cs l')] 0] (fun i j=>Jx n l l' i j n) hn (fun i j hi hj=>adO n l l' i j hn hi hj hl hl' hb hb') (by simp(disch:=omega)only[go_sem]) (fun h=>rfl) (fun h=>rfl) (fun ks=>by simp(disch:=omega)only[go_sem]) (fun ρ=>rfl)
 change Con _ _ _ _ _ (isA (.ag [.v (.int .i64 (n)),.sl (zk n l l').length (qm ExV.cs (zk n l l'))]))at c
 refine Con.of_aw Tryz.func82 rfl Tryz.ntmps82 (by simp) (by simp) (by simp) (AW.seqLe (E:=[(2,.fp [.v (.int .i64 n),.sl l.length (qm ExV.cs l)] 0),(3,.fp [.v (.int .i64 n),.sl l'.length (qm ExV.cs l')] 0),(4,.pt 0 0)]) (H:=[(0,.own 0 [.v (.int .i64 0),.v (.slice none 0 0)])]) (W.sound ?_) (W.sound ?_))
 ·show @W Tryz.prog 9 ⟨_⟩ ⟨_⟩ _ _
  simp(disch:=omega)only[go_sem]
  exact(Le.frz 40000000 (z:=0) (ks:=[.v (.int .i64 n),.sl l.length (qm ExV.cs l)]) (by simp(disch:=omega)only[go_sem]) rfl (by simp(disch:=omega)only[go_sem])).trans ((Le.frz 50000000 (z:=0) (ks:=[.v (.int .i64 n),.sl l'.length (qm ExV.cs l')]) (by simp(disch:=omega)only[go_sem]) rfl (by simp(disch:=omega)only[go_sem])).trans (Le.lst [(0,60000000)] _ _ rfl (by simp(disch:=omega)only[go_sem]) (by simp(disch:=omega)only[go_sem])))
 show @W Tryz.prog 9 ⟨_⟩ ⟨fun x σ=>@qX _ _ _ ⟨_⟩ _ ⟨_⟩ x σ⟩ _ _
 simp(disch:=omega)only[go_sem]
 refine qa (c) ?_
 simp(disch:=omega)only[go_sem]
 exact ql
end Go.Ab
namespace Go.Ab
open Go Go.Proofs
theorem yF{l:List SpV}{i:Nat}(hi:i<l.length):cut (qm SpV.cs l) (i*6) 6=[.v (.bool (l.getD i sp0).lo.s),.sl (lim (l.getD i sp0).lo.m).length (qc (lim (l.getD i sp0).lo.m)),.v (.int .i64 (l.getD i sp0).lo.e),.v (.bool (l.getD i sp0).hi.s),.sl (lim (l.getD i sp0).hi.m).length (qc (lim (l.getD i sp0).hi.m)),.v (.int .i64 (l.getD i sp0).hi.e)]:=JX (l:=l) aD2 hi sp0
theorem zW{l:List SpV}{k:Nat}(h:l.length=k):cut (qm SpV.cs l) 0 (k*6)=qm SpV.cs l:=by subst h;exact aIs
theorem Qt:qm ExV.cs []=[]:=yH
theorem Zl:qm SpV.cs []=[]:=yH
def mpT{X Y:Type}(l:List X)(F:X→Y)(i:Nat):List Y:=(l.take i).map F
theorem yl{X Y:Type}{l:List X}{F:X→Y}:mpT l F 0=[]:=rfl
theorem ja{X Y:Type}{l:List X}{F:X→Y}{i:Nat}(h:i≤l.length):(mpT l F i).length=i:=by unfold mpT;rw[List.length_map,List.length_take];omega
theorem ym{X Y:Type}{l:List X}{F:X→Y}{i:Nat}(d:X)(h:i<l.length):mpT l F (i+1)=mpT l F i++[F (l.getD i d)]:=by
 unfold mpT
 rw[List.take_add_one,List.getElem?_eq_getElem h,List.map_append,List.getD_eq_getElem?_getD,List.getElem?_eq_getElem h];rfl
theorem Qm{X Y:Type}{l:List X}{F:X→Y}:mpT l F l.length=l.map F:=by unfold mpT;rw[List.take_length]
def sbd(lo hi:Int)(l:List SpV):Prop:=∀x∈l,x.bd lo hi
theorem jw{lo hi:Int}{l:List SpV}{i:Nat}(h:sbd lo hi l)(hi':i<l.length):(l.getD i sp0).bd lo hi:=by
 refine h _ ?_
 rw[List.getD_eq_getElem?_getD,List.getElem?_eq_getElem hi'];exact List.getElem_mem _
set_option maxRecDepth 100000 in
theorem ze(n:Int)(l:List ExV)(hl:l.length≤1000):Con Tryz.prog 77 false [.ag [.v (.int .i64 n),.sl l.length (qm ExV.cs l)]] [] (isA (.ag [.v (.int .i64 n),.sl l.length (qm ExV.cs l)])):=by
 refine Con.frzA ?_
 refine Con.of_aw Tryz.func77 rfl Tryz.ntmps77 (by simp) (by simp) (by simp) (W.sound ?_)
 show @W Tryz.prog 25 ⟨_⟩ ⟨fun x σ=>@qX _ _ _ ⟨_⟩ _ ⟨_⟩ x σ⟩ _ _
 simp(disch:=omega)only[go_sem]
 refine qg (fun i:Nat=>[(10,.sl l.length (qm ExV.cs l)),(11,.v (.int .i64 l.length)),(12,.v (.int .i64 i)),(3,.pt 0 0),(2,.pt 2 0)])
  (fun i=>[(0,.own 0 [.v (.int .i64 n),.rf 1 0 i]),(1,.own 3 (qm ExV.cs (mpT l (id) i))),(2,.own 0 [.v (.int .i64 0),.v (.slice none 0 0)])]) (fun i=>i≤l.length) (fun i=>l.length-i) 0 (by omega)
  ((Le.ghostC 50000000 1 1 3 (zo:=0) (cs:=[.v (.int .i64 n),.v (.slice none 0 0)]) (by simp(disch:=omega)only[go_sem]) rfl (by simp(disch:=omega)only[go_sem])).trans (Le.lst [(0,50000000),(2,40000000)] _ _ rfl (by simp(disch:=omega)only[go_sem]) (by simp(disch:=omega)only[go_sem,yl,Qt,List.set_cons_succ,List.set_cons_zero]))) ?_
 intro i hi
 simp(disch:=omega)only[go_sem]
 refine qe (fun h1=>?_) (fun h1=>?_)
 ·have hi2:i<l.length:=by omega
  have hci:=zN hi2
  have hcut:=zE (ja (F:=id) hi)
  have hml:=ja (F:=id) hi
  have hs:=ym (F:=id) ex0 hi2
  generalize l.getD i ex0=x at*
  simp(disch:=omega)only[go_sem,h1,hci]
  refine⟨by omega,by omega,?_⟩
  refine qt rfl [⟨0,[],[]⟩,⟨1,[],[]⟩,⟨2,[1],[]⟩,⟨3,[1],[]⟩,⟨4,[1],[]⟩,⟨5,[],[]⟩,⟨6,[],[]⟩,⟨7,[],[]⟩] (by kernel_rfl) ?_
  simp(disch:=omega)only[go_sem]
  refine qa (yN x.s x.m x.e) ?_
  simp(disch:=omega)only[go_sem]
  simp(disch:=omega)only[go_sem,hcut,yq]
  refine⟨⟨by rw[hml];exact Nat.le_refl _,by omega⟩,qb (i+1) [(1,230000000)] (by show i+1≤_;omega) (by show l.length-(i+1)<l.length-i;omega) rfl (by simp(disch:=omega)only[go_sem];try omega) (by simp(disch:=omega)only[go_sem,hs,id_eq])⟩
 ·simp(disch:=omega)only[go_sem,h1]
  obtain rfl:i=l.length:=by omega
  refine qh [(0,1)] [.own 3 (qm ExV.cs (mpT l (id) l.length))] [] [.ag [.v (.int .i64 n),.rf 0 0 l.length]] rfl (by simp(disch:=omega)only[go_sem]) (by simp(disch:=omega)only[go_sem]) (by simp) (by simp) ?_
  show qD _ 6 _=_
  simp(disch:=omega)only[go_sem,qW,Qm,zE (l:=l.map (id)) (k:=l.length) (List.length_map ..),List.map_id,zE (l:=l) (k:=l.length) rfl]
def ptS(x:ExV):SpV:=⟨x,x⟩
set_option maxRecDepth 100000 in
theorem ZS(n:Nat)(l:List ExV)(hl:l.length≤1000):Con Tryz.prog 223 false [.ag [.v (.int .i64 (n)),.sl (l).length (qm ExV.cs (l))]] [] (isA (.ag [.v (.int .i64 (n)),.sl (l.map ptS).length (qm SpV.cs (l.map ptS))])):=by
 refine Con.frzA ?_
 refine Con.of_aw Tryz.func223 rfl Tryz.ntmps223 (by simp) (by simp) (by simp) (W.sound ?_)
 show @W Tryz.prog 26 ⟨_⟩ ⟨fun x σ=>@qX _ _ _ ⟨_⟩ _ ⟨_⟩ x σ⟩ _ _
 simp(disch:=omega)only[go_sem]
 refine qg (fun i:Nat=>[(10,.sl l.length (qm ExV.cs l)),(11,.v (.int .i64 l.length)),(12,.v (.int .i64 i)),(3,.pt 0 0),(2,.pt 2 0)])
  (fun i=>[(0,.own 0 [.v (.int .i64 n),.rf 1 0 i]),(1,.own 6 (qm SpV.cs (mpT l (ptS) i))),(2,.own 0 [.v (.int .i64 0),.v (.slice none 0 0)])]) (fun i=>i≤l.length) (fun i=>l.length-i) 0 (by omega)
  ((Le.ghostC 50000000 1 1 6 (zo:=0) (cs:=[.v (.int .i64 n),.v (.slice none 0 0)]) (by simp(disch:=omega)only[go_sem]) rfl (by simp(disch:=omega)only[go_sem])).trans (Le.lst [(0,50000000),(2,40000000)] _ _ rfl (by simp(disch:=omega)only[go_sem]) (by simp(disch:=omega)only[go_sem,yl,Zl,List.set_cons_succ,List.set_cons_zero]))) ?_
 intro i hi
 simp(disch:=omega)only[go_sem]
 refine qe (fun h1=>?_) (fun h1=>?_)
 ·have hi2:i<l.length:=by omega
  have hci:=zN hi2
  have hcut:=zW (ja (F:=ptS) hi)
  have hml:=ja (F:=ptS) hi
  have hs:=ym (F:=ptS) ex0 hi2
  generalize l.getD i ex0=x at*
  simp(disch:=omega)only[go_sem,h1,hci]
  refine⟨by omega,by omega,?_⟩
  have hsn:∀L:List SpV,qm SpV.cs L++[.v (.bool x.s),.sl (lim x.m).length (qc (lim x.m)),.v (.int .i64 x.e),.v (.bool x.s),.sl (lim x.m).length (qc (lim x.m)),.v (.int .i64 x.e)]=qm SpV.cs (L++[ptS x]):=fun L=>yT (x:=ptS x)
  simp(disch:=omega)only[go_sem,hcut,hsn]
  refine⟨⟨by rw[hml];exact Nat.le_refl _,by omega⟩,qb (i+1) [(1,240000000)] (by show i+1≤_;omega) (by show l.length-(i+1)<l.length-i;omega) rfl (by simp(disch:=omega)only[go_sem];try omega) (by simp(disch:=omega)only[go_sem,hs])⟩
 ·simp(disch:=omega)only[go_sem,h1]
  obtain rfl:i=l.length:=by omega
  refine qh [(0,1)] [.own 6 (qm SpV.cs (mpT l (ptS) l.length))] [] [.ag [.v (.int .i64 n),.rf 0 0 l.length]] rfl (by simp(disch:=omega)only[go_sem]) (by simp(disch:=omega)only[go_sem]) (by simp) (by simp) ?_
  show qD _ 6 _=_
  simp(disch:=omega)only[go_sem,qW,Qm,zW (l:=l.map (ptS)) (k:=l.length) (List.length_map ..),List.length_map]
def adc(s:SpV):ExV:=(s.lo.plus s.hi).shift (-1)
set_option maxRecDepth 100000 in
theorem aLo(n:Nat)(l:List SpV)(hl:l.length≤1000)(hb:sbd (-390000) 390000 l):Con Tryz.prog 150 false [.ag [.v (.int .i64 (n)),.sl (l).length (qm SpV.cs (l))]] [] (isA (.ag [.v (.int .i64 (n)),.sl (l.map adc).length (qm ExV.cs (l.map adc))])):=by
 refine Con.frzA ?_
 refine Con.of_aw Tryz.func150 rfl Tryz.ntmps150 (by simp) (by simp) (by simp) (W.sound ?_)
 show @W Tryz.prog 29 ⟨_⟩ ⟨fun x σ=>@qX _ _ _ ⟨_⟩ _ ⟨_⟩ x σ⟩ _ _
 simp(disch:=omega)only[go_sem]
 refine qg (fun i:Nat=>[(10,.sl l.length (qm SpV.cs l)),(11,.v (.int .i64 l.length)),(12,.v (.int .i64 i)),(3,.pt 0 0),(2,.pt 2 0)])
  (fun i=>[(0,.own 0 [.v (.int .i64 n),.rf 1 0 i]),(1,.own 3 (qm ExV.cs (mpT l (adc) i))),(2,.own 0 [.v (.int .i64 0),.v (.slice none 0 0)])]) (fun i=>i≤l.length) (fun i=>l.length-i) 0 (by omega)
  ((Le.ghostC 50000000 1 1 3 (zo:=0) (cs:=[.v (.int .i64 n),.v (.slice none 0 0)]) (by simp(disch:=omega)only[go_sem]) rfl (by simp(disch:=omega)only[go_sem])).trans (Le.lst [(0,50000000),(2,40000000)] _ _ rfl (by simp(disch:=omega)only[go_sem]) (by simp(disch:=omega)only[go_sem,yl,Qt,List.set_cons_succ,List.set_cons_zero]))) ?_
 intro i hi
 simp(disch:=omega)only[go_sem]
 refine qe (fun h1=>?_) (fun h1=>?_)
 ·have hi2:i<l.length:=by omega
  have hci:=yF hi2
  have hcut:=zE (ja (F:=adc) hi)
  have hml:=ja (F:=adc) hi
  have hs:=ym (F:=adc) sp0 hi2
  have hx:=jw hb hi2
  generalize l.getD i sp0=x at*
  simp(disch:=omega)only[go_sem,h1,hci]
  refine⟨by omega,by omega,?_⟩
  refine qt rfl [⟨0,[],[]⟩,⟨1,[],[]⟩,⟨2,[1],[]⟩,⟨3,[1],[]⟩,⟨4,[1,3],[]⟩,⟨5,[1,3],[]⟩,⟨6,[1],[]⟩,⟨7,[1],[]⟩,⟨8,[1],[]⟩,⟨9,[],[]⟩,⟨10,[],[]⟩,⟨11,[],[]⟩] (by kernel_rfl) ?_
  simp(disch:=omega)only[go_sem]
  refine qa (zP x.lo x.hi (hx.1.mono (by omega) (by omega)) (hx.2.mono (by omega) (by omega))) ?_
  simp(disch:=omega)only[go_sem]
  have hp:=ExV.plus_bd hx.1 hx.2
  have hp2: -390000≤(x.lo.plus x.hi).e∧(x.lo.plus x.hi).e≤400000:=⟨hp.2.1,by have:=hp.2.2;omega⟩
  refine qa (Qx (x.lo.plus x.hi) (-1) (by omega) (by omega)) ?_
  simp(disch:=omega)only[go_sem]
  have em:adc x=(x.lo.plus x.hi).shift (-1):=rfl
  rw[em]at hs
  simp(disch:=omega)only[go_sem,hcut,yq]
  refine⟨⟨by rw[hml];exact Nat.le_refl _,by omega⟩,qb (i+1) [(1,270000000)] (by show i+1≤_;omega) (by show l.length-(i+1)<l.length-i;omega) rfl (by simp(disch:=omega)only[go_sem];try omega) (by simp(disch:=omega)only[go_sem,hs])⟩
 ·simp(disch:=omega)only[go_sem,h1]
  obtain rfl:i=l.length:=by omega
  refine qh [(0,1)] [.own 3 (qm ExV.cs (mpT l (adc) l.length))] [] [.ag [.v (.int .i64 n),.rf 0 0 l.length]] rfl (by simp(disch:=omega)only[go_sem]) (by simp(disch:=omega)only[go_sem]) (by simp) (by simp) ?_
  show qD _ 6 _=_
  simp(disch:=omega)only[go_sem,qW,Qm,zE (l:=l.map (adc)) (k:=l.length) (List.length_map ..),List.length_map]
set_option maxRecDepth 100000 in
theorem YA(n:Nat)(l:List SpV)(f:Nat)(caps:List AV)(F:SpV→SpV)(hl:l.length≤1000)(hf:∀x∈l,Con Tryz.prog f false (.ag [.v (.bool (x).lo.s),.sl (lim (x).lo.m).length (qc (lim (x).lo.m)),.v (.int .i64 (x).lo.e),.v (.bool (x).hi.s),.sl (lim (x).hi.m).length (qc (lim (x).hi.m)),.v (.int .i64 (x).hi.e)]::caps) [] (isA (.ag [.v (.bool (F x).lo.s),.sl (lim (F x).lo.m).length (qc (lim (F x).lo.m)),.v (.int .i64 (F x).lo.e),.v (.bool (F x).hi.s),.sl (lim (F x).hi.m).length (qc (lim (F x).hi.m)),.v (.int .i64 (F x).hi.e)])))(hg:qp Tryz.prog f=True)
  (hc:∀h:Nat→Ob,caps.map (qD h 6)=caps) (hc5:∀h:Nat→Ob,caps.map (qD h 5)=caps) (hn:∀ks,AllL (j0 ks) caps) (hr:∀ρ,zJ ρ caps=caps):
  Con Tryz.prog 274 false [.ag [.v (.int .i64 (n)),.sl (l).length (qm SpV.cs (l))],.fn f caps] [] (isA (.ag [.v (.int .i64 (n)),.sl (l.map F).length (qm SpV.cs (l.map F))])):=by
 refine Con.frzA ?_
 refine Con.of_aw Tryz.func274 rfl Tryz.ntmps274 (by simp) (by simp) (by simp) (W.sound ?_)
 show @W Tryz.prog 28 ⟨_⟩ ⟨fun x σ=>@qX _ _ _ ⟨_⟩ _ ⟨_⟩ x σ⟩ _ _
 simp(disch:=omega)only[go_sem,hg]
 refine qg (fun i:Nat=>[(1,.fn f caps),(12,.sl l.length (qm SpV.cs l)),(13,.v (.int .i64 l.length)),(14,.v (.int .i64 i)),(5,.pt 0 0),(4,.pt 2 0)])
  (fun i=>[(0,.own 0 [.v (.int .i64 n),.rf 1 0 i]),(1,.own 6 (qm SpV.cs (mpT l (F) i))),(2,.own 0 [.v (.int .i64 0),.v (.slice none 0 0)])]) (fun i=>i≤l.length) (fun i=>l.length-i) 0 (by omega)
  ((Le.ghostC 70000000 1 1 6 (zo:=0) (cs:=[.v (.int .i64 n),.v (.slice none 0 0)]) (by simp(disch:=omega)only[go_sem]) rfl (by simp(disch:=omega)only[go_sem])).trans (Le.lst [(0,70000000),(2,60000000)] _ _ rfl (by simp(disch:=omega)only[go_sem,hr,hn]) (by simp(disch:=omega)only[go_sem,yl,Zl,List.set_cons_succ,List.set_cons_zero]))) ?_
 intro i hi
 simp(disch:=omega)only[go_sem]
 refine qe (fun h1=>?_) (fun h1=>?_)
 ·have hi2:i<l.length:=by omega
  have hci:=yF hi2
  have hcut:=zW (ja (F:=F) hi)
  have hml:=ja (F:=F) hi
  have hs:=ym (F:=F) sp0 hi2
  have hfx:=hf (l.getD i sp0) (by rw[List.getD_eq_getElem?_getD,List.getElem?_eq_getElem hi2];exact List.getElem_mem _)
  generalize l.getD i sp0=x at*
  simp(disch:=omega)only[go_sem,h1,hci]
  refine⟨by omega,by omega,?_⟩
  refine qt rfl [⟨0,[],[]⟩,⟨1,[],[]⟩,⟨2,[1],[]⟩,⟨3,[1],[]⟩,⟨4,[1],[]⟩,⟨5,[1],[]⟩,⟨6,[],[]⟩,⟨7,[],[]⟩,⟨8,[],[]⟩] (by kernel_rfl) ?_
  simp(disch:=omega)only[go_sem,hg]
  refine qC hfx (by simp(disch:=omega)only[go_sem,hc,hc5]) ?_
  rintro r hs2 ⟨rfl,rfl,_⟩
  refine⟨by simp[qK],?_⟩
  simp(disch:=omega)only[go_sem,hcut,yT]
  refine⟨⟨by rw[hml];exact Nat.le_refl _,by omega⟩,qb (i+1) [(1,260000000)] (by show i+1≤_;omega) (by show l.length-(i+1)<l.length-i;omega) rfl (by simp(disch:=omega)only[go_sem,hr,hn];try omega) (by simp(disch:=omega)only[go_sem,hs])⟩
 ·simp(disch:=omega)only[go_sem,h1]
  obtain rfl:i=l.length:=by omega
  refine qh [(0,1)] [.own 6 (qm SpV.cs (mpT l (F) l.length))] [] [.ag [.v (.int .i64 n),.rf 0 0 l.length]] rfl (by simp(disch:=omega)only[go_sem]) (by simp(disch:=omega)only[go_sem]) (by simp) (by simp) ?_
  show qD _ 6 _=_
  simp(disch:=omega)only[go_sem,qW,Qm,zW (l:=l.map (F)) (k:=l.length) (List.length_map ..),List.length_map]
end Go.Ab
namespace Go.Ab
open Go Go.Proofs
theorem aeI(n:Nat)(l:List SpV)(i j:Nat)(hl:i*n+j<l.length)(hb:l.length≤1000)(hn:n≤1000)(hi:i≤1000)(hj:j≤1000):
  Con Tryz.prog 272 false [.ag [.v (.int .i64 (n)),.sl (l).length (qm SpV.cs (l))],.v (.int .i64 i),.v (.int .i64 j)] [] (isA (.ag [.v (.bool (l.getD (i*n+j) sp0).lo.s),.sl (lim (l.getD (i*n+j) sp0).lo.m).length (qc (lim (l.getD (i*n+j) sp0).lo.m)),.v (.int .i64 (l.getD (i*n+j) sp0).lo.e),.v (.bool (l.getD (i*n+j) sp0).hi.s),.sl (lim (l.getD (i*n+j) sp0).hi.m).length (qc (lim (l.getD (i*n+j) sp0).hi.m)),.v (.int .i64 (l.getD (i*n+j) sp0).hi.e)])):=by
 refine Con.frzA ?_
 have hin:i*n≤1000:=by omega
 have hp:(i:Int)*(n:Int)≤1000∧0≤(i:Int)*(n:Int):=by rw[←Int.natCast_mul];omega
 have e1:(i:Int)*(n:Int)+(j:Int)=((i*n+j:Nat):Int):=by rw[Int.natCast_add,Int.natCast_mul]
 have hcut:=yF hl
 generalize i*n+j=k at*
 refine Con.of_w (rs:=[.cell 6 111]) Tryz.func272 rfl Tryz.ntmps272 rfl ?_
 simp(disch:=omega)only[go_sem]
 simp(disch:=omega)only[go_sem,e1,hcut]
 refine⟨by omega,by omega,?_⟩
 exact ql
def gly{Y:Type}(n:Nat)(g:Nat→Nat→Y)(k:Nat):List Y:=(List.range k).map fun t=>g (t/n) (t % n)
theorem ZH{Y:Type}{n:Nat}{g:Nat→Nat→Y}{k:Nat}:(gly n g k).length=k:=by simp[gly]
theorem aBt{Y:Type}{n:Nat}{g:Nat→Nat→Y}{k:Nat}:gly n g (k+1)=gly n g k++[g (k/n) (k % n)]:=by simp[gly,List.range_succ]
theorem aKf{Y:Type}{n:Nat}{g:Nat→Nat→Y}:gly n g 0=[]:=rfl
def jo(n:Nat)(l l':List SpV)(i j k:Nat):SpV:=(List.range k).foldl (fun s t=>s.plus ((l.getD (i*n+t) sp0).times (l'.getD (t*n+j) sp0))) sp0
theorem aiz(n:Nat)(l l':List SpV)(i j:Nat):jo n l l' i j 0=sp0:=rfl
theorem aiA(n:Nat)(l l':List SpV)(i j k:Nat):jo n l l' i j (k+1)=(jo n l l' i j k).plus ((l.getD (i*n+k) sp0).times (l'.getD (k*n+j) sp0)):=by
 unfold jo;rw[List.range_succ,List.foldl_append,List.foldl_cons,List.foldl_nil]
def jH(n:Nat)(l l':List SpV):List SpV:=gly n (fun i j=>jo n l l' i j n) (n*n)
theorem SpV.times_bd{s t:SpV}{l1 h1 l2 h2:Int}(hs:s.bd l1 h1)(ht:t.bd l2 h2):(s.times t).bd (l1+l2) (h1+h2):=by
 have he:=aeF (F:=ExV.times) hs ht (fun x y hx hy=>ExV.times_bd hx hy)
 exact⟨Kz he (by simp[jp]),Q4 he (by simp[jp])⟩
theorem SpV.plus_bd{s t:SpV}{lo hi:Int}(hs:s.bd lo hi)(ht:t.bd lo hi):(s.plus t).bd lo (hi+1):=⟨ExV.plus_bd hs.1 ht.1,ExV.plus_bd hs.2 ht.2⟩
theorem SpV.bd.mono{lo hi lo' hi':Int}{x:SpV}(h:x.bd lo hi)(h1:lo'≤lo)(h2:hi≤hi'):x.bd lo' hi':=⟨ExV.bd.mono h.1 h1 h2,ExV.bd.mono h.2 h1 h2⟩
theorem aNu{lo hi:Int}(h1:lo≤0)(h2:0≤hi):sp0.bd lo hi:=⟨aeE h1 h2,aeE h1 h2⟩
theorem jP{lo hi lo' hi':Int}{l:List SpV}(h:sbd lo hi l)(h1:lo'≤lo)(h2:hi≤hi'):sbd lo' hi' l:=fun x hx=>SpV.bd.mono (h x hx) h1 h2
theorem jr{lo hi lo' hi':Int}{l:List ExV}(h:gbd lo hi l)(h1:lo'≤lo)(h2:hi≤hi'):gbd lo' hi' l:=fun x hx=>ExV.bd.mono (h x hx) h1 h2
theorem Ki{lo hi:Int}(g:Nat→SpV)(h0:lo≤0∧0≤hi):∀k:Nat,(∀t,t<k→(g t).bd lo hi)→((List.range k).foldl (fun s t=>s.plus (g t)) sp0).bd lo (hi+k)
 |0,_=>aNu h0.1 (by simpa using h0.2)
 |k+1,h=>by
  rw[List.range_succ,List.foldl_append,List.foldl_cons,List.foldl_nil]
  have:=SpV.plus_bd (Ki g h0 k fun t ht=>h t (by omega)) (SpV.bd.mono (h k (by omega)) (Int.le_refl _) (show hi≤hi+k by omega))
  exact SpV.bd.mono this (Int.le_refl _) (by omega)
theorem aAv{l1 h1 l2 h2:Int}{n:Nat}{l l':List SpV}{i j k:Nat}(hi:i<n)(hj:j<n)(hk:k≤n)(hl:l.length=n*n)(hl':l'.length=n*n)(hb:sbd l1 h1 l)(hb':sbd l2 h2 l')(h0:l1+l2≤0∧0≤h1+h2):(jo n l l' i j k).bd (l1+l2) (h1+h2+k):=
 Ki _ h0 k fun t ht=>SpV.times_bd (jw hb (by rw[hl];exact qR hi (by omega))) (jw hb' (by rw[hl'];exact qR (by omega) hj))
set_option maxRecDepth 100000 in
theorem ajw(n:Nat)(l l':List SpV)(hn:n≤4)(hl:l.length=n*n)(hl':l'.length=n*n)(hb:sbd (-190000) 190000 l)(hb':sbd (-190000) 190000 l'):Con Tryz.prog 226 false [.ag [.v (.int .i64 (n)),.sl (l).length (qm SpV.cs (l))],.ag [.v (.int .i64 (n)),.sl (l').length (qm SpV.cs (l'))]] [] (isA (.ag [.v (.int .i64 (n)),.sl (jH n l l').length (qm SpV.cs (jH n l l'))])):=by
 refine Con.frzA ?_
 have hq:=jZ hn
 refine Con.of_aw Tryz.func226 rfl Tryz.ntmps226 (by simp) (by simp) (by simp) (W.sound ?_)
 show @W Tryz.prog 49 ⟨_⟩ ⟨fun x σ=>@qX _ _ _ ⟨_⟩ _ ⟨_⟩ x σ⟩ _ _
 simp(disch:=omega)only[go_sem]
 refine qg (fun i:Nat=>[(2,.pt 3 0),(3,.pt 4 0),(4,.pt 2 0),(5,.pt 0 0),(14,.v (.int .i64 n)),(15,.v (.int .i64 i))])
  (fun i=>[(0,.own 0 [.v (.int .i64 n),.rf 1 0 (i*n)]),(1,.own 6 (qm SpV.cs (gly n (fun i j=>jo n l l' i j n) (i*n)))),(2,.own 0 [.v (.int .i64 0),.v (.slice none 0 0)]),(3,.own 0 [.v (.int .i64 n),.sl l.length (qm SpV.cs l)]),(4,.own 0 [.v (.int .i64 n),.sl l'.length (qm SpV.cs l')])]) (fun i=>i≤n) (fun i=>n-i) 0 (by omega)
  ((Le.ghostC 70000000 1 1 6 (zo:=0) (cs:=[.v (.int .i64 n),.v (.slice none 0 0)]) (by simp(disch:=omega)only[go_sem]) rfl (by simp(disch:=omega)only[go_sem])).trans (Le.lst [(0,70000000),(2,60000000),(3,40000000),(4,50000000)] _ _ rfl (by simp(disch:=omega)only[go_sem]) (by simp(disch:=omega)only[go_sem,aKf,Zl,Nat.zero_mul,List.set_cons_succ,List.set_cons_zero]))) ?_
 intro i hi
 simp(disch:=omega)only[go_sem]
 refine qe (fun h1=>?_) (fun h1=>?_)
 ·simp(disch:=omega)only[go_sem,h1]
  have hin:i*n≤16:=Nat.mul_le_mul (show i≤4 by omega) hn
  refine qg (fun j:Nat=>[(2,.pt 3 0),(3,.pt 4 0),(4,.pt 2 0),(5,.pt 0 0),(6,.v (.int .i64 i)),(14,.v (.int .i64 n)),(15,.v (.int .i64 i)),(19,.v (.int .i64 n)),(20,.v (.int .i64 j))])
   (fun j=>[(0,.own 0 [.v (.int .i64 n),.rf 1 0 (i*n+j)]),(1,.own 6 (qm SpV.cs (gly n (fun i j=>jo n l l' i j n) (i*n+j)))),(2,.own 0 [.v (.int .i64 0),.v (.slice none 0 0)]),(3,.own 0 [.v (.int .i64 n),.sl l.length (qm SpV.cs l)]),(4,.own 0 [.v (.int .i64 n),.sl l'.length (qm SpV.cs l')])]) (fun j=>j≤n) (fun j=>n-j) 0 (by omega)
   (Le.lst [] _ _ rfl (by simp(disch:=omega)only[go_sem,Nat.add_zero]) (by simp(disch:=omega)only[go_sem,Nat.add_zero])) ?_
  intro j hj
  simp(disch:=omega)only[go_sem]
  refine qe (fun h2=>?_) (fun h2=>?_)
  ·simp(disch:=omega)only[go_sem,h2]
   have hd:(i*n+j)/n=i:=by rw[Nat.mul_comm,Nat.mul_add_div (by omega),Nat.div_eq_of_lt (by omega),Nat.add_zero]
   have hm:(i*n+j) % n=j:=by rw[Nat.mul_comm,Nat.mul_add_mod,Nat.mod_eq_of_lt (by omega)]
   have hs:=@aBt _ n (fun i j=>jo n l l' i j n) (i*n+j)
   rw[hd,hm]at hs
   have hcut:=zW (@ZH _ n (fun i j=>jo n l l' i j n) (i*n+j))
   have hk:i*n+(j+1)=i*n+j+1:=rfl
   generalize hA:gly n (fun i j=>jo n l l' i j n) (i*n+j)=A at*
   have hAl:A.length=i*n+j:=by rw[←hA,ZH]
   generalize hA1:gly n (fun i j=>jo n l l' i j n) (i*n+j+1)=A1 at*
   refine qg (fun k:Nat=>[(2,.pt 3 0),(3,.pt 4 0),(4,.pt 2 0),(5,.pt 0 0),(6,.v (.int .i64 i)),(7,.v (.int .i64 j)),(8,.pt 5 0),(14,.v (.int .i64 n)),(15,.v (.int .i64 i)),(19,.v (.int .i64 n)),(20,.v (.int .i64 j)),(24,.v (.int .i64 n)),(25,.v (.int .i64 k))])
    (fun k=>[(0,.own 0 [.v (.int .i64 n),.rf 1 0 (i*n+j)]),(1,.own 6 (qm SpV.cs A)),(2,.own 0 [.v (.int .i64 0),.v (.slice none 0 0)]),(3,.own 0 [.v (.int .i64 n),.sl l.length (qm SpV.cs l)]),(4,.own 0 [.v (.int .i64 n),.sl l'.length (qm SpV.cs l')]),
     (5,.own 0 [.v (.bool (jo n l l' i j k).lo.s),.sl (lim (jo n l l' i j k).lo.m).length (qc (lim (jo n l l' i j k).lo.m)),.v (.int .i64 (jo n l l' i j k).lo.e),.v (.bool (jo n l l' i j k).hi.s),.sl (lim (jo n l l' i j k).hi.m).length (qc (lim (jo n l l' i j k).hi.m)),.v (.int .i64 (jo n l l' i j k).hi.e)])])
    (fun k=>k≤n) (fun k=>n-k) 0 (by omega)
    ((Le.nilC 100000000 1 (zo:=0) (cs:=[.v (.bool false),.v (.slice none 0 0),.v (.int .i64 0),.v (.bool false),.v (.slice none 0 0),.v (.int .i64 0)]) (by simp(disch:=omega)only[go_sem]) rfl).trans
     ((Le.nilC 100000000 4 (zo:=0) (cs:=[.v (.bool false),.sl 0 [],.v (.int .i64 0),.v (.bool false),.v (.slice none 0 0),.v (.int .i64 0)]) (by simp(disch:=omega)only[go_sem,List.set_cons_succ,List.set_cons_zero]) rfl).trans (Le.lst [(5,100000000)] _ _ rfl (by simp(disch:=omega)only[go_sem]) (by simp(disch:=omega)only[go_sem,List.set_cons_succ,List.set_cons_zero,aiz,sp0,ex0,qn])))) ?_
   intro k hk2
   have hD:=aAv (k:=k) (show i<n by omega) (show j<n by omega) hk2 hl hl' hb hb' (by omega)
   have hsd:=aiA n l l' i j k
   generalize hDD:jo n l l' i j k=D at*
   simp(disch:=omega)only[go_sem]
   refine qe (fun h3=>?_) (fun h3=>?_)
   ·have hx:=qR (show i<n by omega) (show k<n by omega)
    have hx':=qR (show k<n by omega) (show j<n by omega)
    have c1:=aeI n l i k (by omega) (by omega) (by omega) (by omega) (by omega)
    have c2:=aeI n l' k j (by omega) (by omega) (by omega) (by omega) (by omega)
    have b1:=jw hb (show i*n+k<l.length by omega)
    have b2:=jw hb' (show k*n+j<l'.length by omega)
    generalize l.getD (i*n+k) sp0=x at*
    generalize l'.getD (k*n+j) sp0=y at*
    simp(disch:=omega)only[go_sem,h3]
    refine qt rfl [⟨0,[],[]⟩,⟨1,[0],[]⟩,⟨2,[0,1],[]⟩,⟨3,[0,1],[]⟩,⟨5,[0,1],[]⟩,⟨6,[0,1,5],[]⟩,⟨7,[0,1,5],[]⟩,⟨4,[0,5],[]⟩,⟨8,[0],[]⟩,⟨9,[0],[]⟩,⟨10,[],[]⟩,⟨11,[],[]⟩] (by kernel_rfl) ?_
    simp(disch:=omega)only[go_sem]
    refine qa (c1) ?_
    simp(disch:=omega)only[go_sem]
    refine qa (c2) ?_
    simp(disch:=omega)only[go_sem]
    refine qa (adB x y (SpV.bd.mono b1 (by omega) (by omega)) (SpV.bd.mono b2 (by omega) (by omega))) ?_
    simp(disch:=omega)only[go_sem]
    refine qa (JA D (x.times y) (SpV.bd.mono hD (by omega) (by omega)) (SpV.bd.mono (SpV.times_bd b1 b2) (by omega) (by omega))) ?_
    simp(disch:=omega)only[go_sem]
    exact qb (k+1) [] (by show k+1≤_;omega) (by show n-(k+1)<n-k;omega) rfl (by simp(disch:=omega)only[go_sem];try omega) (by simp(disch:=omega)only[go_sem,hsd])
   ·obtain rfl:n=k:=by omega
    rw[hDD]at hs
    simp(disch:=omega)only[go_sem,h3,hcut,yT]
    refine⟨⟨by rw[hAl];exact Nat.le_refl _,by omega⟩,qb (j+1) [(1,460000000)] (by show j+1≤_;omega) (by show n-(j+1)<n-j;omega) rfl (by simp(disch:=omega)only[go_sem];try omega) (by simp(disch:=omega)only[go_sem,hk,hA1,hs])⟩
  ·simp(disch:=omega)only[go_sem,h2]
   obtain rfl:n=j:=by omega
   exact qb (i+1) [] (by show i+1≤_;omega) (by show n-(i+1)<n-i;omega) rfl (by simp(disch:=omega)only[go_sem,Nat.add_mul,Nat.one_mul];try omega) (by simp(disch:=omega)only[go_sem,Nat.add_mul,Nat.one_mul])
 ·simp(disch:=omega)only[go_sem,h1]
  obtain rfl:n=i:=by omega
  have hll:(jH n l l').length=n*n:=ZH
  have hft:gly n (fun i j=>jo n l l' i j n) (n*n)=jH n l l':=rfl
  rw[hft,hll]
  refine qh [(0,1)] [.own 6 (qm SpV.cs (jH n l l'))] [] [.ag [.v (.int .i64 n),.rf 0 0 (n*n)]] rfl (by simp(disch:=omega)only[go_sem]) (by simp(disch:=omega)only[go_sem]) (by simp) (by simp) ?_
  show qD _ 6 _=_
  simp(disch:=omega)only[go_sem,qW,zW hll]
end Go.Ab
namespace Go.Ab
open Go Go.Proofs
theorem ajf(x y:ExV)(low mode:Int)(h0:y.m≠0)(hx:x.bd (-400000) 400000)(hy:y.bd (-400000) 400000)(hl: -400000≤low∧low≤400000):
  Con Tryz.prog 303 false [.ag [.v (.bool (x).s),.sl (lim (x).m).length (qc (lim (x).m)),.v (.int .i64 (x).e)],.ag [.v (.bool (y).s),.sl (lim (y).m).length (qc (lim (y).m)),.v (.int .i64 (y).e)],.fp [.v (.int .i64 low)] 0,.fp [.v (.int .i64 mode)] 0] [] (isA (.ag [.v (.bool (x.over y low mode).s),.sl (lim (x.over y low mode).m).length (qc (lim (x.over y low mode).m)),.v (.int .i64 (x.over y low mode).e)])):=by
 refine Con.frzA ?_
 refine Con.of_w (rs:=[.cell 6 90]) Tryz.func303 rfl Tryz.ntmps303 rfl ?_
 simp(disch:=omega)only[go_sem]
 refine qa (apP x y low mode h0 hx hy hl) ?_
 simp(disch:=omega)only[go_sem]
 exact ql
theorem apQ(s t:SpV)(low mode:Int)(h1:t.lo.m≠0)(h2:t.hi.m≠0)(hs:s.bd (-400000) 400000)(ht:t.bd (-400000) 400000)(hl: -400000≤low∧low≤400000):
  Con Tryz.prog 302 false [.v (.int .i64 mode),.fp [.v (.bool s.lo.s),.sl (lim s.lo.m).length (qc (lim s.lo.m)),.v (.int .i64 s.lo.e),.v (.bool s.hi.s),.sl (lim s.hi.m).length (qc (lim s.hi.m)),.v (.int .i64 s.hi.e)] 0,.fp [.v (.bool t.lo.s),.sl (lim t.lo.m).length (qc (lim t.lo.m)),.v (.int .i64 t.lo.e),.v (.bool t.hi.s),.sl (lim t.hi.m).length (qc (lim t.hi.m)),.v (.int .i64 t.hi.e)] 0,.fp [.v (.int .i64 low)] 0] [] (isA (.sl 4 (qm ExV.cs (jp (fun x y=>x.over y low mode) s t)))):=by
 refine Con.frzA ?_
 have ce:=JB s t 303 [.fp [.v (.int .i64 low)] 0,.fp [.v (.int .i64 mode)] 0] (fun x y=>x.over y low mode) (fun x y hx hy=>by
  refine ajf x y low mode ?_ ?_ ?_ hl
  ·rcases hy with rfl|rfl
   ·exact h1
   ·exact h2
  ·rcases hx with rfl|rfl
   ·exact hs.1
   ·exact hs.2
  ·rcases hy with rfl|rfl
   ·exact ht.1
   ·exact ht.2) (by simp(disch:=omega)only[go_sem]) (fun h=>rfl) (fun h=>rfl) (fun ks=>by simp(disch:=omega)only[go_sem]) (fun ρ=>rfl)
 refine Con.of_aw Tryz.func302 rfl Tryz.ntmps302 (by simp) (by simp) (by simp) (AW.seqLe (E:=[(1,.fp [.v (.bool s.lo.s),.sl (lim s.lo.m).length (qc (lim s.lo.m)),.v (.int .i64 s.lo.e),.v (.bool s.hi.s),.sl (lim s.hi.m).length (qc (lim s.hi.m)),.v (.int .i64 s.hi.e)] 0),(2,.fp [.v (.bool t.lo.s),.sl (lim t.lo.m).length (qc (lim t.lo.m)),.v (.int .i64 t.lo.e),.v (.bool t.hi.s),.sl (lim t.hi.m).length (qc (lim t.hi.m)),.v (.int .i64 t.hi.e)] 0),(3,.fp [.v (.int .i64 low)] 0),(4,.fp [.v (.int .i64 mode)] 0),(5,.v (.slice none 0 0))]) (H:=[]) (W.sound ?_) (W.sound ?_))
 ·show @W Tryz.prog 10 ⟨_⟩ ⟨_⟩ _ _
  simp(disch:=omega)only[go_sem]
  exact(Le.frz 60000000 (z:=0) (ks:=[.v (.int .i64 mode)]) (by simp(disch:=omega)only[go_sem]) rfl (by simp(disch:=omega)only[go_sem])).trans (Le.lst [] _ _ rfl (by simp(disch:=omega)only[go_sem]) (by simp(disch:=omega)only[go_sem]))
 show @W Tryz.prog 10 ⟨_⟩ ⟨fun x σ=>@qX _ _ _ ⟨_⟩ _ ⟨_⟩ x σ⟩ _ _
 simp(disch:=omega)only[go_sem]
 refine qa (ce) ?_
 simp(disch:=omega)only[go_sem]
 exact ql
theorem SpV.over_bd{s t:SpV}{lo hi l2 low H:Int}(hs:s.bd lo hi)(ht:l2≤t.lo.e∧l2≤t.hi.e)(h:hi-l2+1≤H)(hb:hi-lo+1+low≤H):(s.over t low).bd low H:=by
 have he:∀mode,gbd low H (jp (fun x y=>x.over y low mode) s t):=by
  intro mode x hx
  simp only[jp,List.mem_cons,List.not_mem_nil,or_false]at hx
  rcases hx with rfl|rfl|rfl|rfl
  ·exact ExV.over_bd hs.1 ht.1 h hb
  ·exact ExV.over_bd hs.1 ht.2 h hb
  ·exact ExV.over_bd hs.2 ht.1 h hb
  ·exact ExV.over_bd hs.2 ht.2 h hb
 exact⟨Kz (he 3) (by simp[jp]),Q4 (he 2) (by simp[jp])⟩
theorem ajd(s t:SpV)(low:Int)(h1:t.lo.m≠0)(h2:t.hi.m≠0)(hs:s.bd (-100000) 100000)(ht:t.bd (-100000) 100000)(hl: -100000≤low∧low≤100000):
  Con Tryz.prog 276 false [.ag [.v (.bool (s).lo.s),.sl (lim (s).lo.m).length (qc (lim (s).lo.m)),.v (.int .i64 (s).lo.e),.v (.bool (s).hi.s),.sl (lim (s).hi.m).length (qc (lim (s).hi.m)),.v (.int .i64 (s).hi.e)],.ag [.v (.bool (t).lo.s),.sl (lim (t).lo.m).length (qc (lim (t).lo.m)),.v (.int .i64 (t).lo.e),.v (.bool (t).hi.s),.sl (lim (t).hi.m).length (qc (lim (t).hi.m)),.v (.int .i64 (t).hi.e)],.v (.int .i64 low)] [] (isA (.ag [.v (.bool (s.over t low).lo.s),.sl (lim (s.over t low).lo.m).length (qc (lim (s.over t low).lo.m)),.v (.int .i64 (s.over t low).lo.e),.v (.bool (s.over t low).hi.s),.sl (lim (s.over t low).hi.m).length (qc (lim (s.over t low).hi.m)),.v (.int .i64 (s.over t low).hi.e)])):=by
 refine Con.frzA ?_
 have co:=fun mode=>apQ s t low mode h1 h2 (SpV.bd.mono hs (by omega) (by omega)) (SpV.bd.mono ht (by omega) (by omega)) (by omega)
 have he:∀mode,gbd (-400000) 400000 (jp (fun x y=>x.over y low mode) s t):=by
  intro mode x hx
  have ht1:=ht.1.2.1
  have ht2:=ht.2.2.1
  simp only[jp,List.mem_cons,List.not_mem_nil,or_false]at hx
  rcases hx with rfl|rfl|rfl|rfl
  ·exact(ExV.over_bd (hi:=400000) hs.1 ht1 (by omega) (by omega)).mono (by omega) (by omega)
  ·exact(ExV.over_bd (hi:=400000) hs.1 ht2 (by omega) (by omega)).mono (by omega) (by omega)
  ·exact(ExV.over_bd (hi:=400000) hs.2 ht1 (by omega) (by omega)).mono (by omega) (by omega)
  ·exact(ExV.over_bd (hi:=400000) hs.2 ht2 (by omega) (by omega)).mono (by omega) (by omega)
 have c3:=co 3
 have c2:=co 2
 have e3:=he 3
 have e2:=he 2
 unfold SpV.over
 generalize hE3:jp (fun x y=>x.over y low 3) s t=E3 at*
 generalize hE2:jp (fun x y=>x.over y low 2) s t=E2 at*
 have l3:E3.length=4:=by rw[←hE3];rfl
 have l2:E2.length=4:=by rw[←hE2];rfl
 have cl:=KU E3 (by omega) (by omega) e3
 have cm:=aeL E2 (by omega) (by omega) e2
 rw[l3]at cl
 rw[l2]at cm
 refine Con.of_aw Tryz.func276 rfl Tryz.ntmps276 (by simp) (by simp) (by simp) (AW.seqLe (E:=[(3,.fp [.v (.bool s.lo.s),.sl (lim s.lo.m).length (qc (lim s.lo.m)),.v (.int .i64 s.lo.e),.v (.bool s.hi.s),.sl (lim s.hi.m).length (qc (lim s.hi.m)),.v (.int .i64 s.hi.e)] 0),(4,.fp [.v (.bool t.lo.s),.sl (lim t.lo.m).length (qc (lim t.lo.m)),.v (.int .i64 t.lo.e),.v (.bool t.hi.s),.sl (lim t.hi.m).length (qc (lim t.hi.m)),.v (.int .i64 t.hi.e)] 0),(5,.fp [.v (.int .i64 low)] 0),(6,.pt 0 0)]) (H:=[(0,.own 0 [.v (.bool false),.v (.slice none 0 0),.v (.int .i64 0),.v (.bool false),.v (.slice none 0 0),.v (.int .i64 0)])]) (W.sound ?_) (W.sound ?_))
 ·show @W Tryz.prog 16 ⟨_⟩ ⟨_⟩ _ _
  simp(disch:=omega)only[go_sem]
  exact(Le.frz 50000000 (z:=0) (ks:=[.v (.bool s.lo.s),.sl (lim s.lo.m).length (qc (lim s.lo.m)),.v (.int .i64 s.lo.e),.v (.bool s.hi.s),.sl (lim s.hi.m).length (qc (lim s.hi.m)),.v (.int .i64 s.hi.e)]) (by simp(disch:=omega)only[go_sem]) rfl (by simp(disch:=omega)only[go_sem])).trans ((Le.frz 60000000 (z:=0) (ks:=[.v (.bool t.lo.s),.sl (lim t.lo.m).length (qc (lim t.lo.m)),.v (.int .i64 t.lo.e),.v (.bool t.hi.s),.sl (lim t.hi.m).length (qc (lim t.hi.m)),.v (.int .i64 t.hi.e)]) (by simp(disch:=omega)only[go_sem]) rfl (by simp(disch:=omega)only[go_sem])).trans ((Le.frz 70000000 (z:=0) (ks:=[.v (.int .i64 low)]) (by simp(disch:=omega)only[go_sem]) rfl (by simp(disch:=omega)only[go_sem])).trans (Le.lst [(0,80000000)] _ _ rfl (by simp(disch:=omega)only[go_sem]) (by simp(disch:=omega)only[go_sem]))))
 show @W Tryz.prog 16 ⟨_⟩ ⟨fun x σ=>@qX _ _ _ ⟨_⟩ _ ⟨_⟩ x σ⟩ _ _
 simp(disch:=omega)only[go_sem]
 refine qa (c3) ?_
 simp(disch:=omega)only[go_sem]
 refine qa (cl) ?_
 simp(disch:=omega)only[go_sem]
 refine qa (c2) ?_
 simp(disch:=omega)only[go_sem]
 refine qa (cm) ?_
 simp(disch:=omega)only[go_sem]
 exact ql
def exN(k:Nat):ExV:=⟨false,k,0⟩
theorem aSS{k:Nat}(hk:k<2^63):(exN k).bd 0 64:=⟨fun _=>rfl,Int.le_refl _,by show(bl k:Int)+0≤64;have:bl k≤63:=zq.2 hk;omega⟩
def SpV.divd(s:SpV)(k:Nat)(low:Int):SpV:=s.over ⟨exN k,exN k⟩ low
theorem K4(s:SpV)(k:Nat)(low:Int)(h0:k≠0)(hk:k<2^63)(hs:s.bd (-100000) 100000)(hl: -100000≤low∧low≤100000):
  Con Tryz.prog 275 false [.ag [.v (.bool (s).lo.s),.sl (lim (s).lo.m).length (qc (lim (s).lo.m)),.v (.int .i64 (s).lo.e),.v (.bool (s).hi.s),.sl (lim (s).hi.m).length (qc (lim (s).hi.m)),.v (.int .i64 (s).hi.e)],.fp [.v (.bool (exN k).s),.sl (lim (exN k).m).length (qc (lim (exN k).m)),.v (.int .i64 (exN k).e)] 0,.fp [.v (.int .i64 low)] 0] [] (isA (.ag [.v (.bool (s.divd k low).lo.s),.sl (lim (s.divd k low).lo.m).length (qc (lim (s.divd k low).lo.m)),.v (.int .i64 (s.divd k low).lo.e),.v (.bool (s.divd k low).hi.s),.sl (lim (s.divd k low).hi.m).length (qc (lim (s.divd k low).hi.m)),.v (.int .i64 (s.divd k low).hi.e)])):=by
 refine Con.frzA ?_
 have hb:=aSS hk
 have co:=ajd s ⟨exN k,exN k⟩ low h0 h0 hs ⟨hb.mono (by omega) (by omega),hb.mono (by omega) (by omega)⟩ hl
 change Con _ _ _ _ _ (isA (.ag [.v (.bool (s.divd k low).lo.s),.sl (lim (s.divd k low).lo.m).length (qc (lim (s.divd k low).lo.m)),.v (.int .i64 (s.divd k low).lo.e),.v (.bool (s.divd k low).hi.s),.sl (lim (s.divd k low).hi.m).length (qc (lim (s.divd k low).hi.m)),.v (.int .i64 (s.divd k low).hi.e)]))at co
 generalize s.divd k low=z at*
 dsimp only at co
 refine Con.of_w (rs:=[.cell 4 111]) Tryz.func275 rfl Tryz.ntmps275 rfl ?_
 simp(disch:=omega)only[go_sem]
 refine qa (co) ?_
 simp(disch:=omega)only[go_sem]
 exact ql
theorem aCo(s:SpV)(low:Int)(hs:s.bd (-400000) 400000)(hl: -400000≤low∧low≤400000):Con Tryz.prog 278 false [.ag [.v (.bool (s).lo.s),.sl (lim (s).lo.m).length (qc (lim (s).lo.m)),.v (.int .i64 (s).lo.e),.v (.bool (s).hi.s),.sl (lim (s).hi.m).length (qc (lim (s).hi.m)),.v (.int .i64 (s).hi.e)],.fp [.v (.int .i64 low)] 0] [] (isA (.ag [.v (.bool (s.out low).lo.s),.sl (lim (s.out low).lo.m).length (qc (lim (s.out low).lo.m)),.v (.int .i64 (s.out low).lo.e),.v (.bool (s.out low).hi.s),.sl (lim (s.out low).hi.m).length (qc (lim (s.out low).hi.m)),.v (.int .i64 (s.out low).hi.e)])):=by
 refine Con.frzA ?_
 refine Con.of_w (rs:=[.cell 3 111]) Tryz.func278 rfl Tryz.ntmps278 rfl ?_
 simp(disch:=omega)only[go_sem]
 refine qa (apK s low hs hl) ?_
 simp(disch:=omega)only[go_sem]
 exact ql
theorem aCt(n:Nat)(l:List SpV)(low:Int)(hl:l.length≤1000)(hb:sbd (-400000) 400000 l)(hlo: -400000≤low∧low≤400000):Con Tryz.prog 230 false [.ag [.v (.int .i64 (n)),.sl (l).length (qm SpV.cs (l))],.v (.int .i64 low)] [] (isA (.ag [.v (.int .i64 (n)),.sl (l.map fun s=>s.out low).length (qm SpV.cs (l.map fun s=>s.out low))])):=by
 refine Con.frzA ?_
 have c:=YA n l 278 [.fp [.v (.int .i64 low)] 0] (fun s=>s.out low) hl (fun x hx=>aCo x low (hb x hx) hlo) (by simp(disch:=omega)only[go_sem]) (fun h=>rfl) (fun h=>rfl) (fun ks=>by simp(disch:=omega)only[go_sem]) (fun ρ=>rfl)
 generalize l.map (fun s=>s.out low)=L at*
 refine Con.of_aw Tryz.func230 rfl Tryz.ntmps230 (by simp) (by simp) (by simp) (AW.seqLe (E:=[(2,.fp [.v (.int .i64 n),.sl l.length (qm SpV.cs l)] 0),(3,.fp [.v (.int .i64 low)] 0),(4,.pt 0 0)]) (H:=[(0,.own 0 [.v (.int .i64 0),.v (.slice none 0 0)])]) (W.sound ?_) (W.sound ?_))
 ·show @W Tryz.prog 8 ⟨_⟩ ⟨_⟩ _ _
  simp(disch:=omega)only[go_sem]
  exact(Le.frz 40000000 (z:=0) (ks:=[.v (.int .i64 n),.sl l.length (qm SpV.cs l)]) (by simp(disch:=omega)only[go_sem]) rfl (by simp(disch:=omega)only[go_sem])).trans ((Le.frz 50000000 (z:=0) (ks:=[.v (.int .i64 low)]) (by simp(disch:=omega)only[go_sem]) rfl (by simp(disch:=omega)only[go_sem])).trans (Le.lst [(0,60000000)] _ _ rfl (by simp(disch:=omega)only[go_sem]) (by simp(disch:=omega)only[go_sem])))
 show @W Tryz.prog 8 ⟨_⟩ ⟨fun x σ=>@qX _ _ _ ⟨_⟩ _ ⟨_⟩ x σ⟩ _ _
 simp(disch:=omega)only[go_sem]
 refine qa (c) ?_
 simp(disch:=omega)only[go_sem]
 exact ql
theorem aCr(s:SpV)(y:ExV)(hs:s.bd (-400000) 400000)(hy:y.bd (-400000) 400000):Con Tryz.prog 277 false [.ag [.v (.bool (s).lo.s),.sl (lim (s).lo.m).length (qc (lim (s).lo.m)),.v (.int .i64 (s).lo.e),.v (.bool (s).hi.s),.sl (lim (s).hi.m).length (qc (lim (s).hi.m)),.v (.int .i64 (s).hi.e)],.fp [.v (.bool y.s),.sl (lim y.m).length (qc (lim y.m)),.v (.int .i64 y.e)] 0] [] (isA (.ag [.v (.bool (s.fat y).lo.s),.sl (lim (s.fat y).lo.m).length (qc (lim (s.fat y).lo.m)),.v (.int .i64 (s.fat y).lo.e),.v (.bool (s.fat y).hi.s),.sl (lim (s.fat y).hi.m).length (qc (lim (s.fat y).hi.m)),.v (.int .i64 (s.fat y).hi.e)])):=by
 refine Con.frzA ?_
 refine Con.of_w (rs:=[.cell 3 111]) Tryz.func277 rfl Tryz.ntmps277 rfl ?_
 simp(disch:=omega)only[go_sem]
 refine qt rfl [⟨0,[],[]⟩,⟨1,[],[]⟩,⟨2,[1],[]⟩,⟨4,[1,2],[]⟩,⟨5,[1,2],[]⟩,⟨6,[1,2,5],[]⟩,⟨3,[5,6],[]⟩,⟨7,[],[]⟩,⟨8,[],[]⟩,⟨9,[],[]⟩] (by kernel_rfl) ?_
 simp(disch:=omega)only[go_sem]
 refine qa (yt s.lo y hs.1 hy) ?_
 simp(disch:=omega)only[go_sem]
 refine qa (zP s.hi y hs.2 hy) ?_
 simp(disch:=omega)only[go_sem]
 exact ql (hp:=by simp(disch:=omega)only[go_sem,SpV.fat])
theorem aCu(n:Nat)(l:List SpV)(y:ExV)(hl:l.length≤1000)(hb:sbd (-400000) 400000 l)(hy:y.bd (-400000) 400000):Con Tryz.prog 229 false [.ag [.v (.int .i64 (n)),.sl (l).length (qm SpV.cs (l))],.ag [.v (.bool (y).s),.sl (lim (y).m).length (qc (lim (y).m)),.v (.int .i64 (y).e)]] [] (isA (.ag [.v (.int .i64 (n)),.sl (l.map fun s=>s.fat y).length (qm SpV.cs (l.map fun s=>s.fat y))])):=by
 refine Con.frzA ?_
 have c:=YA n l 277 [.fp [.v (.bool y.s),.sl (lim y.m).length (qc (lim y.m)),.v (.int .i64 y.e)] 0] (fun s=>s.fat y) hl (fun x hx=>aCr x y (hb x hx) hy) (by simp(disch:=omega)only[go_sem]) (fun h=>rfl) (fun h=>rfl) (fun ks=>by simp(disch:=omega)only[go_sem]) (fun ρ=>rfl)
 generalize l.map (fun s=>s.fat y)=L at*
 refine Con.of_aw Tryz.func229 rfl Tryz.ntmps229 (by simp) (by simp) (by simp) (AW.seqLe (E:=[(2,.fp [.v (.int .i64 n),.sl l.length (qm SpV.cs l)] 0),(3,.fp [.v (.bool y.s),.sl (lim y.m).length (qc (lim y.m)),.v (.int .i64 y.e)] 0),(4,.pt 0 0)]) (H:=[(0,.own 0 [.v (.int .i64 0),.v (.slice none 0 0)])]) (W.sound ?_) (W.sound ?_))
 ·show @W Tryz.prog 8 ⟨_⟩ ⟨_⟩ _ _
  simp(disch:=omega)only[go_sem]
  exact(Le.frz 40000000 (z:=0) (ks:=[.v (.int .i64 n),.sl l.length (qm SpV.cs l)]) (by simp(disch:=omega)only[go_sem]) rfl (by simp(disch:=omega)only[go_sem])).trans ((Le.frz 50000000 (z:=0) (ks:=[.v (.bool y.s),.sl (lim y.m).length (qc (lim y.m)),.v (.int .i64 y.e)]) (by simp(disch:=omega)only[go_sem]) rfl (by simp(disch:=omega)only[go_sem])).trans (Le.lst [(0,60000000)] _ _ rfl (by simp(disch:=omega)only[go_sem]) (by simp(disch:=omega)only[go_sem])))
 show @W Tryz.prog 8 ⟨_⟩ ⟨fun x σ=>@qX _ _ _ ⟨_⟩ _ ⟨_⟩ x σ⟩ _ _
 simp(disch:=omega)only[go_sem]
 refine qa (c) ?_
 simp(disch:=omega)only[go_sem]
 exact ql
def KK(l l':List SpV):List SpV:=(List.range l.length).map fun i=>(l.getD i sp0).plus (l'.getD i sp0)
theorem KJ{l l':List SpV}:(KK l l').length=l.length:=by simp[KK]
def fpT(l l':List SpV)(i:Nat):List SpV:=(List.range i).map fun i=>(l.getD i sp0).plus (l'.getD i sp0)
theorem api{l l':List SpV}{i:Nat}:(fpT l l' i).length=i:=by simp[fpT]
theorem aBF{l l':List SpV}{i:Nat}:fpT l l' (i+1)=fpT l l' i++[(l.getD i sp0).plus (l'.getD i sp0)]:=by simp[fpT,List.range_succ]
set_option maxRecDepth 100000 in
theorem aqf(n:Nat)(l l':List SpV)(hl:l.length≤1000)(hl':l'.length=l.length)(hb:sbd (-400000) 400000 l)(hb':sbd (-400000) 400000 l'):Con Tryz.prog 228 false [.ag [.v (.int .i64 (n)),.sl (l).length (qm SpV.cs (l))],.ag [.v (.int .i64 (n)),.sl (l').length (qm SpV.cs (l'))]] [] (isA (.ag [.v (.int .i64 (n)),.sl (KK l l').length (qm SpV.cs (KK l l'))])):=by
 refine Con.frzA ?_
 refine Con.of_aw Tryz.func228 rfl Tryz.ntmps228 (by simp) (by simp) (by simp) (W.sound ?_)
 show @W Tryz.prog 33 ⟨_⟩ ⟨fun x σ=>@qX _ _ _ ⟨_⟩ _ ⟨_⟩ x σ⟩ _ _
 simp(disch:=omega)only[go_sem]
 refine qg (fun i:Nat=>[(3,.pt 3 0),(4,.pt 2 0),(5,.pt 0 0),(12,.sl l.length (qm SpV.cs l)),(13,.v (.int .i64 l.length)),(14,.v (.int .i64 i))])
  (fun i=>[(0,.own 0 [.v (.int .i64 n),.rf 1 0 i]),(1,.own 6 (qm SpV.cs (fpT l l' i))),(2,.own 0 [.v (.int .i64 0),.v (.slice none 0 0)]),(3,.own 0 [.v (.int .i64 n),.sl l'.length (qm SpV.cs l')])]) (fun i=>i≤l.length) (fun i=>l.length-i) 0 (by omega)
  ((Le.ghostC 70000000 1 1 6 (zo:=0) (cs:=[.v (.int .i64 n),.v (.slice none 0 0)]) (by simp(disch:=omega)only[go_sem]) rfl (by simp(disch:=omega)only[go_sem])).trans (Le.lst [(0,70000000),(2,60000000),(3,50000000)] _ _ rfl (by simp(disch:=omega)only[go_sem]) (by simp(disch:=omega)only[go_sem,show fpT l l' 0=[] from rfl,Zl,List.set_cons_succ,List.set_cons_zero]))) ?_
 intro i hi
 simp(disch:=omega)only[go_sem]
 refine qe (fun h1=>?_) (fun h1=>?_)
 ·have hi2:i<l.length:=by omega
  have hi3:i<l'.length:=by omega
  have hci:=yF hi2
  have hcj:=yF hi3
  have hcut:=zW (api (l:=l) (l':=l') (i:=i))
  have hml:=api (l:=l) (l':=l') (i:=i)
  have hs:=aBF (l:=l) (l':=l') (i:=i)
  have hx:=jw hb hi2
  have hy:=jw hb' hi3
  generalize l.getD i sp0=x at*
  generalize l'.getD i sp0=y at*
  simp(disch:=omega)only[go_sem,h1,hci]
  refine⟨by omega,by omega,?_⟩
  refine qt rfl [⟨0,[],[]⟩,⟨1,[],[]⟩,⟨2,[1],[]⟩,⟨3,[1,2],[]⟩,⟨4,[1,2],[]⟩,⟨5,[1,2,4],[]⟩,⟨6,[1,2],[]⟩,⟨7,[1,2],[]⟩,⟨8,[1],[]⟩,⟨9,[1],[]⟩,⟨10,[],[]⟩,⟨11,[],[]⟩,⟨12,[],[]⟩] (by kernel_rfl) ?_
  simp(disch:=omega)only[go_sem,hcj]
  refine⟨by omega,by omega,?_⟩
  refine qa (JA x y hx hy) ?_
  simp(disch:=omega)only[go_sem]
  simp(disch:=omega)only[go_sem,hcut,yT]
  refine⟨⟨by rw[hml];exact Nat.le_refl _,by omega⟩,qb (i+1) [(1,310000000)] (by show i+1≤_;omega) (by show l.length-(i+1)<l.length-i;omega) rfl (by simp(disch:=omega)only[go_sem];try omega) (by simp(disch:=omega)only[go_sem,hs])⟩
 ·simp(disch:=omega)only[go_sem,h1]
  obtain rfl:i=l.length:=by omega
  have hll:(KK l l').length=l.length:=KJ
  have hft:fpT l l' l.length=KK l l':=rfl
  rw[hft,hll]
  refine qh [(0,1)] [.own 6 (qm SpV.cs (KK l l'))] [] [.ag [.v (.int .i64 n),.rf 0 0 l.length]] rfl (by simp(disch:=omega)only[go_sem]) (by simp(disch:=omega)only[go_sem]) (by simp) (by simp) ?_
  show qD _ 6 _=_
  simp(disch:=omega)only[go_sem,qW,zW hll]
theorem aCv(n:Nat)(l:List SpV)(k:Nat)(low:Int)(hl:l.length≤1000)(hb:sbd (-100000) 100000 l)(h0:k≠0)(hk:k<2^63)(hlo: -100000≤low∧low≤100000):Con Tryz.prog 227 false [.ag [.v (.int .i64 (n)),.sl (l).length (qm SpV.cs (l))],.v (.int .i64 k),.v (.int .i64 low)] [] (isA (.ag [.v (.int .i64 (n)),.sl (l.map fun s=>s.divd k low).length (qm SpV.cs (l.map fun s=>s.divd k low))])):=by
 refine Con.frzA ?_
 have c:=YA n l 275 [.fp [.v (.bool (exN k).s),.sl (lim (exN k).m).length (qc (lim (exN k).m)),.v (.int .i64 (exN k).e)] 0,.fp [.v (.int .i64 low)] 0] (fun s=>s.divd k low) hl (fun x hx=>K4 x k low h0 hk (hb x hx) hlo) (by simp(disch:=omega)only[go_sem]) (fun h=>rfl) (fun h=>rfl) (fun ks=>by simp(disch:=omega)only[go_sem]) (fun ρ=>rfl)
 generalize l.map (fun s=>s.divd k low)=L at*
 refine Con.of_aw Tryz.func227 rfl Tryz.ntmps227 (by simp) (by simp) (by simp)
  (AW.seqLe (E:=[(1,.v (.int .i64 k)),(3,.pt 1 0),(5,.fp [.v (.int .i64 low)] 0),(6,.pt 0 0)]) (H:=[(0,.own 0 [.v (.int .i64 0),.v (.slice none 0 0)]),(1,.own 0 [.v (.int .i64 n),.sl l.length (qm SpV.cs l)])]) (W.sound ?_)
   (AW.seqLe (E:=[(3,.pt 1 0),(5,.fp [.v (.int .i64 low)] 0),(6,.pt 0 0),(7,.fp [.v (.bool (exN k).s),.sl (lim (exN k).m).length (qc (lim (exN k).m)),.v (.int .i64 (exN k).e)] 0)]) (H:=[(0,.own 0 [.v (.int .i64 0),.v (.slice none 0 0)]),(1,.own 0 [.v (.int .i64 n),.sl l.length (qm SpV.cs l)])]) (W.sound ?_) (W.sound ?_)))
 ·show @W Tryz.prog 14 ⟨_⟩ ⟨_⟩ _ _
  simp(disch:=omega)only[go_sem]
  exact(Le.frz 70000000 (z:=0) (ks:=[.v (.int .i64 low)]) (by simp(disch:=omega)only[go_sem]) rfl (by simp(disch:=omega)only[go_sem])).trans (Le.lst [(0,80000000),(1,50000000)] _ _ rfl (by simp(disch:=omega)only[go_sem]) (by simp(disch:=omega)only[go_sem]))
 ·show @W Tryz.prog 14 ⟨_⟩ ⟨_⟩ _ _
  simp(disch:=omega)only[go_sem]
  refine qa (zw k hk) ?_
  simp(disch:=omega)only[go_sem]
  exact(Le.frz 90000000 (z:=0) (ks:=[.v (.bool (exN k).s),.sl (lim (exN k).m).length (qc (lim (exN k).m)),.v (.int .i64 (exN k).e)]) (by simp(disch:=omega)only[go_sem,exN]) rfl (by simp(disch:=omega)only[go_sem])).trans (Le.lst [] _ _ rfl (by simp(disch:=omega)only[go_sem]) (by simp(disch:=omega)only[go_sem]))
 show @W Tryz.prog 14 ⟨_⟩ ⟨fun x σ=>@qX _ _ _ ⟨_⟩ _ ⟨_⟩ x σ⟩ _ _
 simp(disch:=omega)only[go_sem]
 refine qa (c) ?_
 simp(disch:=omega)only[go_sem]
 exact ql
end Go.Ab
namespace Go.Ab
open Go Go.Proofs
theorem KT(l:List ExV)(h0:0<l.length)(hl:l.length≤1000)(hb:gbd (-400000) 400000 l):Con Tryz.prog 176 false [.rf 10000000 0 l.length,.fn 105 []] [.own 3 (qm ExV.cs l)] (fun r hs bs=>r=.ag [.v (.bool (zp l).s),.sl (lim (zp l).m).length (qc (lim (zp l).m)),.v (.int .i64 (zp l).e)]∧hs=[]∧bs=[.own 3 (qm ExV.cs l)]):=by
 have hc0:=zN (l:=l) (i:=0) h0
 have q1:decide ((l.length:Int)<1)=false:=decide_eq_false (by omega)
 refine Con.of_aw Tryz.func176 rfl Tryz.ntmps176 (by simp) (by simp) (by simp) (W.sound ?_)
 show @W Tryz.prog 33 ⟨_⟩ ⟨fun x σ=>@qX _ _ _ ⟨_⟩ _ ⟨_⟩ x σ⟩ _ _
 simp(disch:=omega)only[go_sem,q1,hc0]
 refine⟨by omega,by omega,?_⟩
 refine qg (fun x:Nat×ExV=>[(0,.rf 10000000 0 l.length),(1,.fn 105 []),(4,.pt 1 0),(5,.pt 0 0),(6,.v (.int .i64 x.1))])
  (fun x=>[(0,.own 0 [.v (.bool x.2.s),.sl (lim x.2.m).length (qc (lim x.2.m)),.v (.int .i64 x.2.e)]),(1,.own 0 [.v (.bool false),.v (.slice none 0 0),.v (.int .i64 0)]),(10000000,.own 3 (qm ExV.cs l))])
  (fun x=>1≤x.1∧x.1≤l.length∧x.2=((l.take x.1).drop 1).foldl yZ (l.getD 0 ex0)) (fun x=>l.length-x.1) (1,l.getD 0 ex0) ⟨by omega,by omega,by simp⟩
  (Le.lst [(0,70000000),(1,60000000)] _ _ rfl (by simp(disch:=omega)only[go_sem]) (by simp(disch:=omega)only[go_sem])) ?_
 rintro⟨i,m⟩ ⟨h1,hi,hm⟩
 dsimp only at h1 hi hm ⊢
 have hmb:m.bd (-400000) 400000:=by
  rw[hm];exact Qq J7 _ _ (qL hb h0) (fun x hx=>hb x (List.mem_of_mem_take (List.mem_of_mem_drop hx)))
 simp(disch:=omega)only[go_sem]
 refine qe (fun h2=>?_) (fun h2=>?_)
 ·have hi2:i<l.length:=by omega
  have hci:=zN (l:=l) (i:=i) hi2
  have hs:yZ m (l.getD i ex0)=((l.take (i+1)).drop 1).foldl yZ (l.getD 0 ex0):=by
   rw[jA h1 hi2,List.foldl_append,←hm];rfl
  simp(disch:=omega)only[go_sem,h2]
  refine qt rfl [⟨0,[],[]⟩,⟨1,[],[]⟩,⟨2,[],[]⟩,⟨3,[],[]⟩,⟨4,[],[]⟩,⟨5,[4],[]⟩,⟨6,[],[]⟩,⟨7,[],[]⟩] (by kernel_rfl) ?_
  have hg:qp Tryz.prog 105=True:=by simp(disch:=omega)only[go_sem]
  simp(disch:=omega)only[go_sem,hci,hg]
  refine⟨by omega,by omega,?_⟩
  refine qj (Qc (l.getD i ex0) m (qL hb hi2) hmb) ?_
  simp(disch:=omega)only[go_sem]
  generalize l.getD i ex0=y at*
  refine qe (fun h3=>?_) (fun h3=>?_)
  ·simp(disch:=omega)only[go_sem,h3,hci]
   have:yZ m y=y:=if_pos h3
   refine⟨by omega,by omega,qb (i+1,y) [] ⟨by show 1≤i+1;omega,by show i+1≤_;omega,this▸hs⟩ (by show l.length-(i+1)<l.length-i;omega) rfl (by simp(disch:=omega)only[go_sem];try omega) (by simp(disch:=omega)only[go_sem])⟩
  ·simp(disch:=omega)only[go_sem,h3]
   have:yZ m y=m:=if_neg h3
   refine qb (i+1,m) [] ⟨by show 1≤i+1;omega,by show i+1≤_;omega,this▸hs⟩ (by show l.length-(i+1)<l.length-i;omega) rfl (by simp(disch:=omega)only[go_sem];try omega) (by simp(disch:=omega)only[go_sem])
 ·simp(disch:=omega)only[go_sem,h2]
  have:i=l.length:=by omega
  subst this
  rw[List.take_length]at hm
  subst hm
  refine qh [] [] [.own 3 (qm ExV.cs l)] [.ag [.v (.bool (zp l).s),.sl (lim (zp l).m).length (qc (lim (zp l).m)),.v (.int .i64 (zp l).e)]] rfl (by simp(disch:=omega)only[go_sem,zp]) (by simp(disch:=omega)only[go_sem]) (by simp) (by simp) ⟨rfl,rfl,rfl⟩
theorem KS(l:List ExV)(h0:0<l.length)(hl:l.length≤1000)(hb:gbd (-400000) 400000 l):Con Tryz.prog 93 false [.rf 10000000 0 l.length] [.own 3 (qm ExV.cs l)] (fun r hs bs=>r=.ag [.v (.bool (zp l).s),.sl (lim (zp l).m).length (qc (lim (zp l).m)),.v (.int .i64 (zp l).e)]∧hs=[]∧bs=[.own 3 (qm ExV.cs l)]):=by
 refine Con.of_aw Tryz.func93 rfl Tryz.ntmps93 (by simp) (by simp) (by simp) (W.sound ?_)
 show @W Tryz.prog 5 ⟨_⟩ ⟨fun x σ=>@qX _ _ _ ⟨_⟩ _ ⟨_⟩ x σ⟩ _ _
 simp(disch:=omega)only[go_sem]
 refine q6 false [10000000] (KT l h0 hl hb) (by simp(disch:=omega)only[go_sem]) (by simp(disch:=omega)only[go_sem]) rfl (qQ (z:=3) (cs:=qm ExV.cs l) (by simp(disch:=omega)only[go_sem]) (by simp(disch:=omega)only[go_sem])) (by intro n hn;exact⟨_,List.mem_cons_self ..,by rw[List.mem_singleton.1 hn];rfl⟩) ?_
 rintro r hs bs ⟨rfl,rfl,rfl⟩-
 refine⟨by simp[qK],?_⟩
 simp(disch:=omega)only[go_sem]
 refine qh [] [] [.own 3 (qm ExV.cs l)] [.ag [.v (.bool (zp l).s),.sl (lim (zp l).m).length (qc (lim (zp l).m)),.v (.int .i64 (zp l).e)]] rfl (by simp(disch:=omega)only[go_sem]) (by simp(disch:=omega)only[go_sem]) (by simp) (by simp) ⟨rfl,rfl,rfl⟩
def aeM(n:Nat)(l:List ExV)(j k:Nat):ExV:=(List.range k).foldl (fun s i=>s.plus (l.getD (i*n+j) ex0).abs) ex0
theorem aab(n:Nat)(l:List ExV)(j k:Nat):aeM n l j (k+1)=(aeM n l j k).plus (l.getD (k*n+j) ex0).abs:=by
 unfold aeM;rw[List.range_succ,List.foldl_append,List.foldl_cons,List.foldl_nil]
theorem aql{lo hi:Int}{n:Nat}{l:List ExV}{j k:Nat}(hj:j<n)(hk:k≤n)(hl:l.length=n*n)(hb:gbd lo hi l)(h0:lo≤0∧0≤hi):(aeM n l j k).bd lo (hi+k):=
 y8 _ h0 k fun t ht=>ExV.abs_bd (qL hb (by rw[hl];exact qR (by omega) hj))
def j3(n:Nat)(l:List ExV)(k:Nat):ExV:=(List.range k).foldl (fun s j=>zp [s,aeM n l j n]) ex0
theorem Js(n:Nat)(l:List ExV)(k:Nat):j3 n l (k+1)=zp [j3 n l k,aeM n l k n]:=by
 unfold j3;rw[List.range_succ,List.foldl_append,List.foldl_cons,List.foldl_nil]
theorem J2{lo hi:Int}{n:Nat}{l:List ExV}(hl:l.length=n*n)(hb:gbd lo hi l)(h0:lo≤0∧0≤hi):∀k,k≤n→(j3 n l k).bd lo (hi+n)
 |0,_=>aeE h0.1 (by omega)
 |k+1,h=>by
  rw[Js]
  refine Q4 (fun x hx=>?_) (by simp)
  simp only[List.mem_cons,List.not_mem_nil,or_false]at hx
  rcases hx with rfl|rfl
  ·exact J2 hl hb h0 k (by omega)
  ·exact aql (by omega) (Nat.le_refl _) hl hb h0
set_option maxRecDepth 100000 in
theorem Yw(n:Nat)(l:List ExV)(hn:n≤4)(hl:l.length=n*n)(hb:gbd (-390000) 390000 l):Con Tryz.prog 78 false [.ag [.v (.int .i64 (n)),.sl (l).length (qm ExV.cs (l))]] [] (isA (.ag [.v (.bool (j3 n l n).s),.sl (lim (j3 n l n).m).length (qc (lim (j3 n l n).m)),.v (.int .i64 (j3 n l n).e)])):=by
 refine Con.frzA ?_
 have hq:=jZ hn
 refine Con.of_aw Tryz.func78 rfl Tryz.ntmps78 (by simp) (by simp) (by simp) (AW.seqLe (E:=[(1,.fp [.v (.int .i64 n),.sl l.length (qm ExV.cs l)] 0),(2,.pt 0 0)]) (H:=[(0,.own 0 [.v (.bool false),.v (.slice none 0 0),.v (.int .i64 0)])]) (W.sound ?_) (W.sound ?_))
 ·show @W Tryz.prog 31 ⟨_⟩ ⟨_⟩ _ _
  simp(disch:=omega)only[go_sem]
  exact(Le.frz 30000000 (z:=0) (ks:=[.v (.int .i64 n),.sl l.length (qm ExV.cs l)]) (by simp(disch:=omega)only[go_sem]) rfl (by simp(disch:=omega)only[go_sem])).trans (Le.lst [(0,40000000)] _ _ rfl (by simp(disch:=omega)only[go_sem]) (by simp(disch:=omega)only[go_sem]))
 show @W Tryz.prog 31 ⟨_⟩ ⟨fun x σ=>@qX _ _ _ ⟨_⟩ _ ⟨_⟩ x σ⟩ _ _
 simp(disch:=omega)only[go_sem]
 refine qg (fun j:Nat=>[(1,.fp [.v (.int .i64 n),.sl l.length (qm ExV.cs l)] 0),(2,.pt 0 0),(3,.pt 1 0),(8,.v (.int .i64 n)),(9,.v (.int .i64 j))])
  (fun j=>[(0,.own 0 [.v (.bool false),.v (.slice none 0 0),.v (.int .i64 0)]),(1,.own 0 [.v (.bool (j3 n l j).s),.sl (lim (j3 n l j).m).length (qc (lim (j3 n l j).m)),.v (.int .i64 (j3 n l j).e)])]) (fun j=>j≤n) (fun j=>n-j) 0 (by omega)
  ((Le.nilC 50000000 1 (zo:=0) (cs:=[.v (.bool false),.v (.slice none 0 0),.v (.int .i64 0)]) (by simp(disch:=omega)only[go_sem]) rfl).trans (Le.lst [(1,50000000)] _ _ rfl (by simp(disch:=omega)only[go_sem]) (by simp(disch:=omega)only[go_sem,List.set_cons_succ,List.set_cons_zero,show j3 n l 0=ex0 from rfl,ex0,qn]))) ?_
 intro j hj
 have hN:=J2 hl hb (by omega) j hj
 have hNs:=Js n l j
 generalize hNN:j3 n l j=A at*
 simp(disch:=omega)only[go_sem]
 refine qe (fun h1=>?_) (fun h1=>?_)
 ·simp(disch:=omega)only[go_sem,h1]
  refine qg (fun k:Nat=>[(1,.fp [.v (.int .i64 n),.sl l.length (qm ExV.cs l)] 0),(2,.pt 0 0),(3,.pt 1 0),(4,.v (.int .i64 j)),(5,.pt 2 0),(8,.v (.int .i64 n)),(9,.v (.int .i64 j)),(13,.v (.int .i64 n)),(14,.v (.int .i64 k))])
   (fun k=>[(0,.own 0 [.v (.bool false),.v (.slice none 0 0),.v (.int .i64 0)]),(1,.own 0 [.v (.bool A.s),.sl (lim A.m).length (qc (lim A.m)),.v (.int .i64 A.e)]),(2,.own 0 [.v (.bool (aeM n l j k).s),.sl (lim (aeM n l j k).m).length (qc (lim (aeM n l j k).m)),.v (.int .i64 (aeM n l j k).e)])]) (fun k=>k≤n) (fun k=>n-k) 0 (by omega)
   ((Le.nilC 70000000 1 (zo:=0) (cs:=[.v (.bool false),.v (.slice none 0 0),.v (.int .i64 0)]) (by simp(disch:=omega)only[go_sem]) rfl).trans (Le.lst [(2,70000000)] _ _ rfl (by simp(disch:=omega)only[go_sem]) (by simp(disch:=omega)only[go_sem,List.set_cons_succ,List.set_cons_zero,show aeM n l j 0=ex0 from rfl,ex0,qn]))) ?_
  intro k hk
  have hC:=aql (k:=k) (show j<n by omega) hk hl hb (by omega)
  have hCs:=aab n l j k
  generalize hCC:aeM n l j k=D at*
  simp(disch:=omega)only[go_sem]
  refine qe (fun h2=>?_) (fun h2=>?_)
  ·have hx:=qR (show k<n by omega) (show j<n by omega)
   have c1:=ye n l k j (by omega) (by omega) (by omega) (by omega) (by omega)
   have b1:=qL hb (show k*n+j<l.length by omega)
   generalize l.getD (k*n+j) ex0=x at*
   simp(disch:=omega)only[go_sem,h2]
   refine qt rfl [⟨0,[],[]⟩,⟨1,[0],[]⟩,⟨2,[0,1],[]⟩,⟨3,[0,1],[]⟩,⟨4,[0],[]⟩,⟨5,[0],[]⟩,⟨6,[],[]⟩,⟨7,[],[]⟩] (by kernel_rfl) ?_
   simp(disch:=omega)only[go_sem]
   refine qa (c1) ?_
   simp(disch:=omega)only[go_sem]
   refine qa (YC x) ?_
   simp(disch:=omega)only[go_sem]
   refine qa (zP D x.abs (hC.mono (by omega) (by omega)) (ExV.abs_bd (b1.mono (by omega) (by omega)))) ?_
   simp(disch:=omega)only[go_sem]
   exact qb (k+1) [] (by show k+1≤_;omega) (by show n-(k+1)<n-k;omega) rfl (by simp(disch:=omega)only[go_sem];try omega) (by simp(disch:=omega)only[go_sem,hCs])
  ·obtain rfl:n=k:=by omega
   rw[hCC]at hNs
   simp(disch:=omega)only[go_sem,h2]
   have hrow:([.v (.bool A.s),.sl (lim A.m).length (qc (lim A.m)),.v (.int .i64 A.e),.v (.bool D.s),.sl (lim D.m).length (qc (lim D.m)),.v (.int .i64 D.e)]:List AV)=qm ExV.cs [A,D]:=rfl
   rw[hrow]
   refine q6 false [290000000] (KS [A,D] (by simp) (by simp) (fun x hx=>?_)) (by simp(disch:=omega)only[go_sem]) (by simp(disch:=omega)only[go_sem]) rfl (qQ (z:=3) (cs:=qm ExV.cs [A,D]) (by simp(disch:=omega)only[go_sem]) (by simp(disch:=omega)only[go_sem])) (by intro n hn;exact⟨_,List.mem_cons_self ..,by rw[List.mem_singleton.1 hn];rfl⟩) ?_
   ·simp only[List.mem_cons,List.not_mem_nil,or_false]at hx
    rcases hx with rfl|rfl
    ·exact hN.mono (by omega) (by omega)
    ·exact hC.mono (by omega) (by omega)
   rintro r hs bs ⟨rfl,rfl,rfl⟩-
   refine⟨by simp[qK],?_⟩
   simp(disch:=omega)only[go_sem]
   exact qb (j+1) [] (by show j+1≤_;omega) (by show n-(j+1)<n-j;omega) rfl (by simp(disch:=omega)only[go_sem];try omega) (by simp(disch:=omega)only[go_sem,hNs])
 ·simp(disch:=omega)only[go_sem,h1]
  obtain rfl:n=j:=by omega
  rw[hNN]
  exact ql
end Go.Ab
namespace Go.Ab
open Go Go.Proofs
def ExV.can(x:ExV):ExV:=⟨oS x.s x.m,oM x.m,oE x.m x.e⟩
def ExV.fit(x:ExV):Bool:=jf x.m x.e
def SpV.can(s:SpV):SpV:=⟨s.lo.can,s.hi.can⟩
def SpV.fit(s:SpV):Bool:=s.lo.fit&&s.hi.fit
theorem ZT(x:ExV)(hx:x.bd (-400000) 400000):Con Tryz.prog 68 false [.ag [.v (.bool (x).s),.sl (lim (x).m).length (qc (lim (x).m)),.v (.int .i64 (x).e)]] [] (isA (if x.fit=true then .tu [.ag [.v (.bool (x.can).s),.sl (lim (x.can).m).length (qc (lim (x.can).m)),.v (.int .i64 (x.can).e)],.v (.bool true)]else .tu [.ag [.v (.bool (false)),.sl (lim (0)).length (qc (lim (0))),.v (.int .i64 (0))],.v (.bool false)])):=by
 obtain⟨a1,a2,a3⟩:=hx
 exact aLs x.s x.m x.e (by omega) (by omega)
set_option maxRecDepth 100000 in
theorem aqg(l:List ExV)(hl:l.length≤1000)(hb:gbd (-400000) 400000 l):Con Tryz.prog 166 false [.sl l.length (qm ExV.cs l)] []
  (isA (if l.all ExV.fit=true then .tu [.sl l.length (qm ExV.cs (l.map ExV.can)),.v (.bool true)]else .tu [.sl 0 [],.v (.bool false)])):=by
 refine Con.frzA ?_
 refine Con.of_aw Tryz.func166 rfl Tryz.ntmps166 (by simp) (by simp) (by simp) (W.sound ?_)
 show @W Tryz.prog 28 ⟨_⟩ ⟨fun x σ=>@qX _ _ _ ⟨_⟩ _ ⟨_⟩ x σ⟩ _ _
 simp(disch:=omega)only[go_sem]
 refine qg (fun i:Nat=>[(2,.v (.slice none 0 0)),(3,.v (.bool false)),(4,.rf 1 0 i),(9,.sl l.length (qm ExV.cs l)),(10,.v (.int .i64 l.length)),(11,.v (.int .i64 i))])
  (fun i=>[(1,.own 3 (qm ExV.cs (mpT l ExV.can i)))]) (fun i=>i≤l.length∧∀x∈l.take i,x.fit=true) (fun i=>l.length-i) 0 ⟨by omega,by simp⟩
  ((Le.ghost 4 1 3 (by simp(disch:=omega)only[go_sem]) (by simp(disch:=omega)only[go_sem])).trans (Le.lst [] _ _ rfl (by simp(disch:=omega)only[go_sem]) (by simp(disch:=omega)only[go_sem,yl,Qt]))) ?_
 rintro i ⟨hi,hf⟩
 simp(disch:=omega)only[go_sem]
 refine qe (fun h1=>?_) (fun h1=>?_)
 ·have hi2:i<l.length:=by omega
  have hci:=zN hi2
  have hcut:=zE (ja (F:=ExV.can) hi)
  have hml:=ja (F:=ExV.can) hi
  have hs:=ym (F:=ExV.can) ex0 hi2
  have hx:=qL hb hi2
  have hmem:l.getD i ex0∈l:=by rw[List.getD_eq_getElem?_getD,List.getElem?_eq_getElem hi2];exact List.getElem_mem _
  have htk:l.take (i+1)=l.take i++[l.getD i ex0]:=by
   rw[List.take_add_one,List.getElem?_eq_getElem hi2,List.getD_eq_getElem?_getD,List.getElem?_eq_getElem hi2];rfl
  generalize l.getD i ex0=x at*
  have cd:=ZT x hx
  simp(disch:=omega)only[go_sem,h1,hci]
  refine⟨by omega,by omega,?_⟩
  cases hft:x.fit
  ·have hall:l.all ExV.fit=false:=by rw[List.all_eq_false];exact⟨x,hmem,by rw[hft];simp⟩
   rw[hft,if_neg (by simp)]at cd
   rw[hall,if_neg (by simp)]
   refine qa (cd) ?_
   simp(disch:=omega)only[go_sem]
   exact ql
  ·rw[hft,if_pos rfl]at cd
   refine qa (cd) ?_
   simp(disch:=omega)only[go_sem]
   simp(disch:=omega)only[go_sem,hcut,yq]
   refine⟨⟨by rw[hml];exact Nat.le_refl _,by omega⟩,qb (i+1) [(1,270000000)] ⟨by show i+1≤_;omega,fun y hy=>?_⟩ (by show l.length-(i+1)<l.length-i;omega) rfl (by simp(disch:=omega)only[go_sem];try omega) (by simp(disch:=omega)only[go_sem,hs])⟩
   rw[htk]at hy
   rcases List.mem_append.1 hy with h|h
   ·exact hf y h
   ·rw[List.mem_singleton.1 h];exact hft
 ·simp(disch:=omega)only[go_sem,h1]
  obtain rfl:i=l.length:=by omega
  rw[List.take_length]at hf
  have hall:l.all ExV.fit=true:=List.all_eq_true.2 hf
  rw[hall,if_pos rfl]
  refine qh [(0,1)] [.own 3 (qm ExV.cs (mpT l ExV.can l.length))] [] [.rf 0 0 l.length,.v (.bool true)] rfl (by simp(disch:=omega)only[go_sem]) (by simp(disch:=omega)only[go_sem]) (by simp) (by simp) ?_
  show qD _ 6 _=_
  simp(disch:=omega)only[go_sem,JV,qW,Qm,zE (l:=l.map ExV.can) (k:=l.length) (List.length_map ..)]
theorem apX(n:Nat)(l:List ExV)(hl:l.length≤1000)(hb:gbd (-400000) 400000 l):Con Tryz.prog 81 false [.ag [.v (.int .i64 (n)),.sl (l).length (qm ExV.cs (l))]] []
  (isA (if l.all ExV.fit=true then .tu [.ag [.v (.int .i64 n),.sl l.length (qm ExV.cs (l.map ExV.can))],.v (.bool true)]else .tu [.ag [.v (.int .i64 0),.sl 0 []],.v (.bool false)])):=by
 refine Con.frzA ?_
 have cd:=aqg l hl hb
 generalize l.map ExV.can=L at*
 cases hf:l.all ExV.fit
 ·rw[hf,if_neg (by simp)]at cd
  rw[if_neg (by simp)]
  refine Con.of_w (rs:=[.cell 2 42,.tmp 3]) Tryz.func81 rfl Tryz.ntmps81 rfl ?_
  simp(disch:=omega)only[go_sem]
  refine qa (cd) ?_
  simp(disch:=omega)only[go_sem]
  exact ql
 ·rw[hf,if_pos rfl]at cd
  rw[if_pos rfl]
  refine Con.of_w (rs:=[.cell 2 42,.tmp 3]) Tryz.func81 rfl Tryz.ntmps81 rfl ?_
  simp(disch:=omega)only[go_sem]
  refine qa (cd) ?_
  simp(disch:=omega)only[go_sem]
  exact ql
theorem Jc(n:Nat)(l:List ExV)(x:ExV)(hl:l.length≤1000)(hb:gbd (-400000) 400000 l)(hx:x.bd (-400000) 400000):Con Tryz.prog 154 false [.ag [.v (.int .i64 (n)),.sl (l).length (qm ExV.cs (l))],.ag [.v (.bool (x).s),.sl (lim (x).m).length (qc (lim (x).m)),.v (.int .i64 (x).e)]] []
  (isA (if(l.all ExV.fit&&x.fit)=true then .tu [.ag [.v (.int .i64 n),.sl l.length (qm ExV.cs (l.map ExV.can))],.ag [.v (.bool (x.can).s),.sl (lim (x.can).m).length (qc (lim (x.can).m)),.v (.int .i64 (x.can).e)],.v (.bool true)]else .tu [.ag [.v (.int .i64 0),.sl 0 []],.ag [.v (.bool (false)),.sl (lim (0)).length (qc (lim (0))),.v (.int .i64 (0))],.v (.bool false)])):=by
 refine Con.frzA ?_
 have cd:=apX n l hl hb
 have cx:=ZT x hx
 generalize l.map ExV.can=L at*
 cases hf:l.all ExV.fit<;>cases hg:x.fit
 ·rw[hf,if_neg (by simp)]at cd
  rw[hg,if_neg (by simp)]at cx
  rw[if_neg (by simp)]
  refine Con.of_w (rs:=[.cell 4 42,.cell 5 29,.tmp 6]) Tryz.func154 rfl Tryz.ntmps154 rfl ?_
  simp(disch:=omega)only[go_sem]
  refine qa (cd) ?_
  simp(disch:=omega)only[go_sem]
  refine qa (cx) ?_
  simp(disch:=omega)only[go_sem]
  exact ql (hp:=by simp(disch:=omega)only[go_sem,qn,List.length_nil,jd])
 ·rw[hf,if_neg (by simp)]at cd
  rw[hg,if_pos rfl]at cx
  rw[if_neg (by simp)]
  refine Con.of_w (rs:=[.cell 4 42,.cell 5 29,.tmp 6]) Tryz.func154 rfl Tryz.ntmps154 rfl ?_
  simp(disch:=omega)only[go_sem]
  refine qa (cd) ?_
  simp(disch:=omega)only[go_sem]
  refine qa (cx) ?_
  simp(disch:=omega)only[go_sem]
  exact ql (hp:=by simp(disch:=omega)only[go_sem,qn,List.length_nil,jd])
 ·rw[hf,if_pos rfl]at cd
  rw[hg,if_neg (by simp)]at cx
  rw[if_neg (by simp)]
  refine Con.of_w (rs:=[.cell 4 42,.cell 5 29,.tmp 6]) Tryz.func154 rfl Tryz.ntmps154 rfl ?_
  simp(disch:=omega)only[go_sem]
  refine qa (cd) ?_
  simp(disch:=omega)only[go_sem]
  refine qa (cx) ?_
  simp(disch:=omega)only[go_sem]
  exact ql (hp:=by simp(disch:=omega)only[go_sem,qn,List.length_nil,jd])
 ·rw[hf,if_pos rfl]at cd
  rw[hg,if_pos rfl]at cx
  rw[if_pos (by rfl)]
  refine Con.of_w (rs:=[.cell 4 42,.cell 5 29,.tmp 6]) Tryz.func154 rfl Tryz.ntmps154 rfl ?_
  simp(disch:=omega)only[go_sem]
  refine qa (cd) ?_
  simp(disch:=omega)only[go_sem]
  refine qa (cx) ?_
  simp(disch:=omega)only[go_sem]
  refine qt rfl [⟨0,[],[]⟩,⟨1,[0],[]⟩,⟨2,[1],[]⟩,⟨3,[],[]⟩,⟨4,[],[]⟩] (by kernel_rfl) ?_
  simp(disch:=omega)only[go_sem]
  exact ql
theorem apL(s:SpV)(hs:s.bd (-400000) 400000):Con Tryz.prog 91 false [.ag [.v (.bool (s).lo.s),.sl (lim (s).lo.m).length (qc (lim (s).lo.m)),.v (.int .i64 (s).lo.e),.v (.bool (s).hi.s),.sl (lim (s).hi.m).length (qc (lim (s).hi.m)),.v (.int .i64 (s).hi.e)]] []
  (isA (if s.fit=true then .tu [.ag [.v (.bool (s.can).lo.s),.sl (lim (s.can).lo.m).length (qc (lim (s.can).lo.m)),.v (.int .i64 (s.can).lo.e),.v (.bool (s.can).hi.s),.sl (lim (s.can).hi.m).length (qc (lim (s.can).hi.m)),.v (.int .i64 (s.can).hi.e)],.v (.bool true)]else .tu [.ag [.v (.bool (sp0).lo.s),.sl (lim (sp0).lo.m).length (qc (lim (sp0).lo.m)),.v (.int .i64 (sp0).lo.e),.v (.bool (sp0).hi.s),.sl (lim (sp0).hi.m).length (qc (lim (sp0).hi.m)),.v (.int .i64 (sp0).hi.e)],.v (.bool false)])):=by
 refine Con.frzA ?_
 have c1:=ZT s.lo hs.1
 have c2:=ZT s.hi hs.2
 unfold SpV.fit
 cases h1:s.lo.fit<;>cases h2:s.hi.fit
 ·rw[h1,if_neg (by simp)]at c1
  rw[h2,if_neg (by simp)]at c2
  rw[if_neg (by simp)]
  refine Con.of_w (rs:=[.cell 2 50,.tmp 3]) Tryz.func91 rfl Tryz.ntmps91 rfl ?_
  simp(disch:=omega)only[go_sem]
  refine qa (c1) ?_
  simp(disch:=omega)only[go_sem]
  refine qa (c2) ?_
  simp(disch:=omega)only[go_sem]
  exact ql (hp:=by simp(disch:=omega)only[go_sem,sp0,ex0,qn,List.length_nil,jd])
 ·rw[h1,if_neg (by simp)]at c1
  rw[h2,if_pos rfl]at c2
  rw[if_neg (by simp)]
  refine Con.of_w (rs:=[.cell 2 50,.tmp 3]) Tryz.func91 rfl Tryz.ntmps91 rfl ?_
  simp(disch:=omega)only[go_sem]
  refine qa (c1) ?_
  simp(disch:=omega)only[go_sem]
  refine qa (c2) ?_
  simp(disch:=omega)only[go_sem]
  exact ql (hp:=by simp(disch:=omega)only[go_sem,sp0,ex0,qn,List.length_nil,jd])
 ·rw[h1,if_pos rfl]at c1
  rw[h2,if_neg (by simp)]at c2
  rw[if_neg (by simp)]
  refine Con.of_w (rs:=[.cell 2 50,.tmp 3]) Tryz.func91 rfl Tryz.ntmps91 rfl ?_
  simp(disch:=omega)only[go_sem]
  refine qa (c1) ?_
  simp(disch:=omega)only[go_sem]
  refine qa (c2) ?_
  simp(disch:=omega)only[go_sem]
  exact ql (hp:=by simp(disch:=omega)only[go_sem,sp0,ex0,qn,List.length_nil,jd])
 ·rw[h1,if_pos rfl]at c1
  rw[h2,if_pos rfl]at c2
  rw[if_pos (by rfl)]
  refine Con.of_w (rs:=[.cell 2 50,.tmp 3]) Tryz.func91 rfl Tryz.ntmps91 rfl ?_
  simp(disch:=omega)only[go_sem]
  refine qa (c1) ?_
  simp(disch:=omega)only[go_sem]
  refine qa (c2) ?_
  simp(disch:=omega)only[go_sem]
  exact ql (hp:=by simp(disch:=omega)only[go_sem,SpV.can])
set_option maxRecDepth 100000 in
theorem aqa(n:Nat)(l:List SpV)(hl:l.length≤1000)(hb:sbd (-400000) 400000 l):Con Tryz.prog 149 false [.ag [.v (.int .i64 (n)),.sl (l).length (qm SpV.cs (l))]] []
  (isA (if l.all SpV.fit=true then .tu [.ag [.v (.int .i64 n),.sl l.length (qm SpV.cs (l.map SpV.can))],.v (.bool true)]else .tu [.ag [.v (.int .i64 0),.sl 0 []],.v (.bool false)])):=by
 refine Con.frzA ?_
 refine Con.of_aw Tryz.func149 rfl Tryz.ntmps149 (by simp) (by simp) (by simp) (W.sound ?_)
 show @W Tryz.prog 35 ⟨_⟩ ⟨fun x σ=>@qX _ _ _ ⟨_⟩ _ ⟨_⟩ x σ⟩ _ _
 simp(disch:=omega)only[go_sem]
 refine qg (fun i:Nat=>[(2,.pt 2 0),(3,.v (.bool false)),(4,.pt 0 0),(13,.sl l.length (qm SpV.cs l)),(14,.v (.int .i64 l.length)),(15,.v (.int .i64 i))])
  (fun i=>[(0,.own 0 [.v (.int .i64 n),.rf 1 0 i]),(1,.own 6 (qm SpV.cs (mpT l SpV.can i))),(2,.own 0 [.v (.int .i64 0),.v (.slice none 0 0)])]) (fun i=>i≤l.length∧∀x∈l.take i,x.fit=true) (fun i=>l.length-i) 0 ⟨by omega,by simp⟩
  ((Le.ghostC 60000000 1 1 6 (zo:=0) (cs:=[.v (.int .i64 n),.v (.slice none 0 0)]) (by simp(disch:=omega)only[go_sem]) rfl (by simp(disch:=omega)only[go_sem])).trans (Le.lst [(0,60000000),(2,40000000)] _ _ rfl (by simp(disch:=omega)only[go_sem]) (by simp(disch:=omega)only[go_sem,yl,Zl,List.set_cons_succ,List.set_cons_zero]))) ?_
 rintro i ⟨hi,hf⟩
 simp(disch:=omega)only[go_sem]
 refine qe (fun h1=>?_) (fun h1=>?_)
 ·have hi2:i<l.length:=by omega
  have hci:=yF hi2
  have hcut:=zW (ja (F:=SpV.can) hi)
  have hml:=ja (F:=SpV.can) hi
  have hs:=ym (F:=SpV.can) sp0 hi2
  have hx:=jw hb hi2
  have hmem:l.getD i sp0∈l:=by rw[List.getD_eq_getElem?_getD,List.getElem?_eq_getElem hi2];exact List.getElem_mem _
  have htk:l.take (i+1)=l.take i++[l.getD i sp0]:=by
   rw[List.take_add_one,List.getElem?_eq_getElem hi2,List.getD_eq_getElem?_getD,List.getElem?_eq_getElem hi2];rfl
  generalize l.getD i sp0=x at*
  have cd:=apL x hx
  simp(disch:=omega)only[go_sem,h1,hci]
  refine⟨by omega,by omega,?_⟩
  cases hft:x.fit
  ·have hall:l.all SpV.fit=false:=by rw[List.all_eq_false];exact⟨x,hmem,by rw[hft];simp⟩
   rw[hft,if_neg (by simp)]at cd
   rw[hall,if_neg (by simp)]
   refine qa (cd) ?_
   simp(disch:=omega)only[go_sem]
   exact ql
  ·rw[hft,if_pos rfl]at cd
   refine qa (cd) ?_
   simp(disch:=omega)only[go_sem]
   simp(disch:=omega)only[go_sem,hcut,yT]
   refine⟨⟨by rw[hml];exact Nat.le_refl _,by omega⟩,qb (i+1) [(1,330000000)] ⟨by show i+1≤_;omega,fun y hy=>?_⟩ (by show l.length-(i+1)<l.length-i;omega) rfl (by simp(disch:=omega)only[go_sem];try omega) (by simp(disch:=omega)only[go_sem,hs])⟩
   rw[htk]at hy
   rcases List.mem_append.1 hy with h|h
   ·exact hf y h
   ·rw[List.mem_singleton.1 h];exact hft
 ·simp(disch:=omega)only[go_sem,h1]
  obtain rfl:i=l.length:=by omega
  rw[List.take_length]at hf
  have hall:l.all SpV.fit=true:=List.all_eq_true.2 hf
  rw[hall,if_pos rfl]
  refine qh [(0,1)] [.own 6 (qm SpV.cs (mpT l SpV.can l.length))] [] [.ag [.v (.int .i64 n),.rf 0 0 l.length],.v (.bool true)] rfl (by simp(disch:=omega)only[go_sem]) (by simp(disch:=omega)only[go_sem]) (by simp) (by simp) ?_
  show qD _ 6 _=_
  simp(disch:=omega)only[go_sem,JV,qW,Qm,zW (l:=l.map SpV.can) (k:=l.length) (List.length_map ..)]
end Go.Ab
namespace Go.Ab
open Go Go.Proofs
def fct:Nat→Nat
 |0=>1
 |n+1=>(n+1)*fct n
theorem app:∀n,n≤500→bl (fct n)≤9*n+1
 |0,_=>by decide
 |n+1,h=>by
  have h1:=app n (by omega)
  have h2:=YJ (n+1) (fct n)
  have h3:bl (n+1)≤9:=zq.2 (by omega)
  show bl ((n+1)*fct n)≤_
  omega
theorem apo:∀n,0<fct n
 |0=>by decide
 |n+1=>Nat.mul_pos (by omega) (apo n)
theorem aCs(n:Nat)(hn:n≤402):Con Tryz.prog 271 false [.v (.int .i64 n)] [] (isA (.sl (lim (fct n)).length (qc (lim (fct n))))):=by
 refine Con.frzA ?_
 refine Con.of_w (rs:=[.tmp 2]) Tryz.func271 rfl Tryz.ntmps271 rfl ?_
 simp(disch:=omega)only[go_sem]
 refine qa (zw 1 (by omega)) ?_
 simp(disch:=omega)only[go_sem]
 by_cases h1:n≤1
 ·have e1:fct n=1:=by
   rcases(by omega:n=0∨n=1)with rfl|rfl<;>rfl
  rw[e1]
  refine qg (fun _:Nat=>[(0,.v (.int .i64 n)),(2,.v (.slice none 0 0)),(3,.sl (lim (1)).length (qc (lim (1)))),(4,.v (.int .i64 2))]) (fun _=>[]) (fun _=>True) (fun _=>0) 0 trivial (Le.lst [] _ _ rfl (by simp(disch:=omega)only[go_sem]) (by simp(disch:=omega)only[go_sem])) ?_
  intro _ _
  simp(disch:=omega)only[go_sem]
  have q:decide ((2:Int)≤(n:Int))=false:=decide_eq_false (by omega)
  simp(disch:=omega)only[go_sem,q]
  exact ql
 ·refine qg (fun k:Nat=>[(0,.v (.int .i64 n)),(2,.v (.slice none 0 0)),(3,.sl (lim (fct k)).length (qc (lim (fct k)))),(4,.v (.int .i64 ((k:Int)+1)))]) (fun _=>[]) (fun k=>1≤k∧k≤n) (fun k=>n-k) 1 (by omega) (Le.lst [] _ _ rfl (by simp(disch:=omega)only[go_sem,show fct 1=1 from rfl,show((1:Nat):Int)+1=2 from rfl];try rfl) (by simp(disch:=omega)only[go_sem])) ?_
  rintro k ⟨hk1,hk⟩
  simp(disch:=omega)only[go_sem]
  refine qe (fun h2=>?_) (fun h2=>?_)
  ·simp(disch:=omega)only[go_sem,h2]
   have e1:(k:Int)+1=((k+1:Nat):Int):=by omega
   have l1:=qE (app k (by omega))
   have l2:=qE (m:=k+1) (B:=9) (zq.2 (by omega))
   have cs:=zw (k+1) (by omega)
   rw[←e1]at cs
   refine qa (cs) ?_
   simp(disch:=omega)only[go_sem]
   refine qa (Jz (fct k) (k+1) (by omega) (by omega)) ?_
   simp(disch:=omega)only[go_sem]
   have e2:fct k*(k+1)=fct (k+1):=Nat.mul_comm _ _
   exact qb (k+1) [] ⟨by omega,by omega⟩ (by show n-(k+1)<n-k;omega) rfl (by simp(disch:=omega)only[go_sem,e2];try omega) (by simp(disch:=omega)only[go_sem])
  ·simp(disch:=omega)only[go_sem,h2]
   obtain rfl:n=k:=by omega
   exact ql
def tmS(W:Nat):Nat→Nat→Nat
 |_,0=>0
 |k,f+1=>if fct (k+1)*2^k<2^W then tmS W (k+1) f else k
def tmF(W:Nat):Nat:=tmS W 1 402
theorem apJ(B:Nat)(hW:B≤400):Con Tryz.prog 225 true [.v (.int .i64 (-(B:Int)))] [] (isA (.v (.int .i64 (tmF B)))):=by
 refine Con.of_w (rs:=[.tmp 2]) Tryz.func225 rfl Tryz.ntmps225 rfl ?_
 simp(disch:=omega)only[go_sem]
 refine qg (fun k:Nat=>[(0,.v (.int .i64 (-(B:Int)))),(2,.v (.int .i64 0)),(3,.v (.int .i64 k))]) (fun _=>[]) (fun k=>1≤k∧k≤401∧tmS B k (403-k)=tmF B) (fun k=>402-k) 1 ⟨by omega,by omega,rfl⟩ (Le.lst [] _ _ rfl (by simp(disch:=omega)only[go_sem]) (by simp(disch:=omega)only[go_sem])) ?_
 rintro k ⟨hk1,hk2,ht⟩
 have e1:(k:Int)+1=((k+1:Nat):Int):=by omega
 have e2:0-(-(B:Int))=(B:Int):=by omega
 have cf:=aCs (k+1) (by omega)
 rw[←e1]at cf
 have b1:=app (k+1) (by omega)
 have l1:=qE b1
 have b2:=YI (fct (k+1)) k
 have l2:=qE (m:=fct (k+1)*2^k) (B:=5000) (by omega)
 have b3:=YI 1 B
 have b4:bl 1≤1:=zq.2 (by decide)
 have l3:=qE (m:=1*2^B) (B:=500) (by omega)
 have l4:=qE b4
 have cu:=zO 1 B (by omega) (by omega)
 rw[←e2]at cu
 have cc:=zU (fct (k+1)*2^k) (1*2^B) (by omega) (by omega)
 have hstep:tmS B k (403-k)=if fct (k+1)*2^k<2^B then tmS B (k+1) (403-(k+1))else k:=by
  rw[show 403-k=(403-(k+1))+1 by omega];rfl
 have hbig:fct (k+1)*2^k<2^B→k<B:=fun h=>by
  rcases Nat.lt_or_ge k B with h'|h'
  ·exact h'
  ·have g1:2^B≤2^k:=Nat.pow_le_pow_right (by omega) h'
   have g2:1*2^k≤fct (k+1)*2^k:=Nat.mul_le_mul_right _ (apo _)
   omega
 have hcl:=(aqn ((fct (k+1)*2^k:Nat):Int) ((1*2^B:Nat):Int)).2.1
 generalize zA ((fct (k+1)*2^k:Nat):Int) ((1*2^B:Nat):Int)=C at*
 generalize fct (k+1)=FF at*
 simp(disch:=omega)only[go_sem]
 refine qa (cf) ?_
 simp(disch:=omega)only[go_sem]
 refine qa (zO FF k (by omega) (by omega)) ?_
 simp(disch:=omega)only[go_sem]
 refine qa (zw 1 (by omega)) ?_
 simp(disch:=omega)only[go_sem]
 refine qa (cu) ?_
 simp(disch:=omega)only[go_sem]
 refine qj (cc) ?_
 simp(disch:=omega)only[go_sem]
 refine qe (fun h1=>?_) (fun h1=>?_)
 ·simp(disch:=omega)only[go_sem,h1]
  have hlt:FF*2^k<2^B:=by have:=hcl.1 h1;omega
  have:=hbig hlt
  rw[if_pos hlt,ht]at hstep
  exact qb (k+1) [] ⟨by omega,by omega,hstep.symm⟩ (by show 402-(k+1)<402-k;omega) rfl (by simp(disch:=omega)only[go_sem];try omega) (by simp(disch:=omega)only[go_sem])
 ·simp(disch:=omega)only[go_sem,h1]
  have hlt:¬FF*2^k<2^B:=fun h=>h1 (hcl.2 (by omega))
  rw[if_neg hlt,ht]at hstep
  rw[hstep]
  exact qu
end Go.Ab
namespace Go.Ab
open Go
section
variable {P:Program}
theorem Zb{L:Nat→Option Blk→Prop}{w0:World}{R0:Nat→Prop}{N:Nat}{ops:Array Oper}{K:St→Prop}{Q':Exit→Act→World→Prop}{rest:List Nat}(hQ:∀σ a w,In L w0 R0 N σ a w→K σ→wpOps P ops Q' rest a w):
  ∀(r:List Oper) (k:Nat),(∀j,j<r.length→ops[k+j]? =r[j]?)→∀{e h a w},In L w0 R0 N ⟨e,h⟩ a w→ChF P N ops.toList K r e h→wpOps P ops Q' (List.range' k r.length++rest) a w
 | [],k,hk,e,h,a,w,hi,hs=>by
  simp only[List.length_nil,List.range'_zero,List.nil_append]
  exact hQ _ _ _ hi hs
 |⟨d,op,ty,pos,af,g⟩::r,k,hk,e,h,a,w,hi,hs=>by
  have ho:ops[k]? =some ⟨d,op,ty,pos,af,g⟩:=by
   have:=hk 0 (by simp)
   simpa using this
  have hr:∀j,j<r.length→ops[k+1+j]? =r[j]? :=fun j hj=>by
   have:=hk (j+1) (by simpa using hj)
   rw[show k+1+j=k+(j+1) by omega,this];simp
  have hd:dOk N d:=by cases g<;>exact hs.1
  simp only[List.length_cons,List.range'_succ,List.cons_append,wpOps,ho]
  have run:@Op1 P ⟨d⟩ ⟨op⟩ ⟨fun v hp=>ChF P N ops.toList K r (yy e d v) hp⟩ e h→Oper.wp P ⟨d,op,ty,pos,af,g⟩ a w (wpOps P ops Q' (List.range' (k+1) r.length++rest)) Q':=fun hs=>by
   obtain⟨R,ι,hR,hinv⟩:=hi.inv
   refine aeo hinv (Op1.sound hs ty pos af g) fun x w' R' ι' av hp' hR' hK hx hm hi'=>?_
   exact Zb hQ r (k+1) hr (hi.put (o:=⟨d,op,ty,pos,af,g⟩) hd hR hR' hx hm hi') hK
  have skip:ChF P N ops.toList K r (yy e d (.v (.tuple ⟨[]⟩))) h→wpOps P ops Q' (List.range' (k+1) r.length++rest) (a.put d undef) w:=fun hs=>by
   obtain⟨R,ι,hR,hinv⟩:=hi.inv
   exact Zb hQ r (k+1) hr (hi.put (o:=⟨d,op,ty,pos,af,g⟩) hd hR (fun _ h=>.inl h) (.fr _ _ (.v _)) (by simp[AV.All]) hinv) hs
  cases g with
  |none=>
   rw[if_pos (by simp[Region.wanted])]
   exact .inl (run hs.2)
  |some p=>
   obtain⟨j,want⟩:=p
   have h2:=hs.2
   unfold KF at h2
   dsimp only at h2
   split at h2
   ·rename_i d' hd'
    have key:∀v c,e d'=.v v→(match v with| .bool b=>some b|_=>none)=c→yielded ops a.tmps j=c:=by
     intro v c hv hc
     obtain⟨R,ι,hR,hinv⟩:=hi.inv
     have:=hinv.env d'
     change Rep _ _ _ _ (e d')at this
     rw[hv]at this
     have:=this.v_inv
     unfold yielded
     rw[Array.getElem?_toList]at hd'
     rw[hd']
     rw[Array.getD_eq_getD_getElem?]at this
     cases ee:a.tmps[d']? with
     |none=>
      rw[ee]at this
      subst hc
      have:v=undef:=this.symm
      subst this;simp[ee,undef]
     |some y=>rw[ee]at this;simp at this;subst this;subst hc;simp only[Option.bind_some,ee];cases y<;>rfl
    unfold Z3 at h2
    split at h2
    ·rename_i b hb
     have hy:=key _ _ hb rfl
     have hw:Region.wanted ⟨d,op,ty,pos,af,some (j,want)⟩ (yielded ops a.tmps)=(b==want):=by
      simp only[Region.wanted,hy]
      cases b<;>cases want<;>rfl
     rw[hw]
     cases hbw:b==want with
     |true=>rw[if_pos rfl];exact .inl (run (h2.1 hbw))
     |false=>rw[if_neg (by simp)];exact skip (h2.2 hbw)
    ·rename_i hb
     have hy:=key _ _ hb rfl
     have hw:Region.wanted ⟨d,op,ty,pos,af,some (j,want)⟩ (yielded ops a.tmps)=false:=by
      simp only[Region.wanted,hy]
      cases want<;>rfl
     rw[hw,if_neg (by simp)]
     exact skip (h2.2 rfl)
    ·exact h2.elim
   ·exact h2.elim
theorem aLj{N:Nat}{l:List Oper}{Q:St→Prop}{e:Nat→AV}{h:Nat→Ob}{E:List (Nat×AV)}{H:List (Nat×Ob)}(hl:Le ⟨e,h⟩ ⟨ofL .un E,ofH H⟩)(hd:@aja P N ⟨l⟩ ⟨Q⟩ ⟨ofL .un E,ofH H⟩):@aja P N ⟨l⟩ ⟨Q⟩ ⟨e,h⟩:=
 fun id=>AW.le hl (hd id)
theorem AW.regSplit{N:Nat}{Q:Exit→St→Prop}{e:Nat→AV}{h:Nat→Ob}{id:Nat}{l:List Oper}{y:Code}(k:Nat){pre suf:List Oper}(hp:l.take k=pre)(hs:l.drop k=suf){E:List (Nat×AV)}{H:List (Nat×Ob)}
  (h1:@Ch P N ⟨l⟩ ⟨pre⟩ ⟨fun σ'=>Le σ' ⟨ofL .un E,ofH H⟩⟩ e h) (h2:@Ch P N ⟨l⟩ ⟨suf⟩ ⟨fun σ=>@W P N ⟨y⟩ ⟨Q⟩ σ.env σ.hp⟩ (ofL .un E) (ofH H)):AW P N (.seq (.region id ⟨l⟩ false) y) Q ⟨e,h⟩:=by
 refine AW.seq fun L w0 R0 a w hi=>wp_region ?_
 have hl:l=pre++suf:=by rw[←hp,←hs,List.take_append_drop]
 have hr:List.range (⟨l⟩:Array Oper).size=List.range' 0 pre.length++(List.range' pre.length suf.length++[]):=by
  have hsz:(⟨l⟩:Array Oper).size=pre.length+suf.length:=by show l.length=_;rw[hl,List.length_append]
  rw[hsz,List.append_nil,List.range_eq_range',List.range'_append_1.symm,Nat.zero_add]
 rw[hr]
 refine Zb (K:=fun σ'=>Le σ' ⟨ofL .un E,ofH H⟩) (fun σ a w hi2 hle=>?_) pre 0 (fun j hj=>?_) hi h1
 ·refine Zb (K:=fun σ=>@W P N ⟨y⟩ ⟨Q⟩ σ.env σ.hp) (fun σ a w hi3 hq=>?_) suf pre.length (fun j hj=>?_) (hle L w0 R0 N a w hi2) h2
  ·exact⟨σ,hi3,W.sound hq⟩
  ·rw[List.getElem?_toArray,hl,List.getElem?_append_right (by omega),Nat.add_sub_cancel_left]
 ·rw[List.getElem?_toArray,hl,Nat.zero_add,List.getElem?_append_left hj]
end
end Go.Ab
