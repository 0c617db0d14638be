/- What the proof of this claim stands on: the walks of the functions and the plain laws, part 4. -/
import Derived.Test.YtcobffkepgogiaaGreatDoorFnIvMatsLib3
import Derived.Carry
import Derived.ChangeSlices
set_option linter.unusedVariables false
set_option linter.unusedSimpArgs false
namespace Go.Ab
open Go Go.Proofs
set_option maxRecDepth 100000 in
theorem akd(a b:Nat)(hb:b≠0)(la:(lim a).length≤900000)(lb:(lim b).length≤900000):
  Con Tryz.prog 275 false [.sl (lim (a)).length (qc (lim (a))),.sl (lim (b)).length (qc (lim (b)))] [] (aZ5 (.tu [.sl (lim (a/b)).length (qc (lim (a/b))),.sl (lim (a % b)).length (qc (lim (a % b)))])):=by
 refine Con.of_aw Tryz.func275 rfl Tryz.ntmps275 (by simp) (by simp) (by simp) (W.sound ?_)
 show @W Tryz.prog 96 ⟨_⟩ ⟨fun x σ=>@qR _ _ _ ⟨_⟩ _ ⟨_⟩ x σ⟩ _ _
 simp(disch:=omega)only[go_sem]
 refine qz (ja a b (by omega) (by omega)) (by simp(disch:=omega)only[go_sem]) ?_
 rintro r hs ⟨rfl,rfl,_⟩
 refine⟨by simp[qO],?_⟩
 simp(disch:=omega)only[go_sem]
 refine qe (fun h1=>?_) (fun h1=>?_)
 ·simp(disch:=omega)only[go_sem,h1]
  have hab:a<b:=by
   unfold zr at h1;split at h1
   ·omega
   ·split at h1<;>omega
  refine qa (aaO false (lim a) (by omega)).num ?_
  simp(disch:=omega)only[go_sem]
  refine qP (by simp(disch:=omega)only[go_sem]) ?_
  show qE _ 6 _=_
  rw[Nat.div_eq_of_lt hab,Nat.mod_eq_of_lt hab]
  simp only[qE,qo];rfl
 ·have hab:b≤a:=by
   unfold zr at h1;split at h1
   ·omega
   ·omega
  have ha:a≠0:=by omega
  have hlb:=Qu hb
  simp(disch:=omega)only[go_sem,h1]
  refine qe (fun h2=>?_) (fun h2=>?_)
  ·simp(disch:=omega)only[go_sem,h2]
   have hb6:b<65536:=by have:=Z2 b;rw[show(lim b).length=1 by omega]at this;omega
   have e0:(lim b).getD 0 0=(b:Int):=by rw[zY];simp;omega
   simp(disch:=omega)only[go_sem,e0]
   refine⟨by omega,by omega,?_⟩
   refine qa (arg a b (by omega) (by omega) hb6) ?_
   simp(disch:=omega)only[go_sem]
   have:a % b<b:=Nat.mod_lt _ (by omega)
   refine qa (zD (a % b) (by omega)) ?_
   simp(disch:=omega)only[go_sem]
   exact qP (by simp(disch:=omega)only[go_sem]) (by rfl)
  ·have hl2:2≤(lim b).length:=by omega
   have hll:(lim b).length≤(lim a).length:=ye hab
   have ht:=YL hb
   have eb:(((lim b).length:Int)-1).toNat=(lim b).length-1:=by omega
   have hnd:=aBX hb _ rfl
   simp(disch:=omega)only[go_sem,h2,eb,zY]
   have e3:((b/65536^((lim b).length-1) % 65536:Nat):Int)=((b/65536^((lim b).length-1):Nat):Int):=by rw[Nat.mod_eq_of_lt ht.2]
   generalize hq:b/65536^((lim b).length-1)=q at*
   have hq16:bl q≤16:=zy.2 (by omega)
   simp(disch:=omega)only[go_sem,e3,akE]
   refine⟨by omega,by omega,?_⟩
   refine qh (aqV q (by omega)) ?_
   simp(disch:=omega)only[go_sem]
   have e4:(16:Int)-(bl q:Int)=((16-bl q:Nat):Int):=by omega
   simp(disch:=omega)only[go_sem,e4]
   generalize hs:16-bl q=s at*
   obtain⟨hs16,hvl,hv1,hvge⟩:=hnd
   refine qW (zV b s (by omega) (by omega)) (by simp(disch:=omega)only[go_sem,e4]) ?_
   rintro r hs0 ⟨rfl,rfl,_⟩
   refine⟨by simp[qO],?_⟩
   simp(disch:=omega)only[go_sem]
   refine qW (aqE false a s (by omega) (by omega)) (by simp(disch:=omega)only[go_sem,e4]) ?_
   have hun:a*2^s≠0:=by have:0<2^s:=Nat.pow_pos (by omega);have:=Nat.mul_pos (show 0<a by omega) this;omega
   rintro r hs1 (⟨h,_,_⟩|⟨zs,rfl,rfl⟩)
   ·exact absurd (qI.1 h) hun
   refine⟨⟨by simp,by simp(disch:=omega)only[go_sem]⟩,?_⟩
   have hul:=ajA a hs16
   have hug:=apH a s
   have ex:((lim a).length:Int)+1-((lim (a*2^s)).length:Int)=(((lim a).length+1-(lim (a*2^s)).length:Nat):Int):=by omega
   have ecut:(lim (a*2^s)++zs).take (lim (a*2^s)).length=lim (a*2^s):=List.take_left' rfl
   have em:(((lim a).length:Int)-((lim b).length:Int)+1).toNat=(lim a).length-(lim b).length+1:=by omega
   simp(disch:=omega)only[go_sem,ex,ecut,em]
   generalize hU0:lim (a*2^s)++List.replicate ((lim a).length+1-(lim (a*2^s)).length) 0=U0
   have lU0:U0.length=(lim a).length+1:=by rw[←hU0];simp;omega
   have gU0:gd U0:=by rw[←hU0];exact qF.2 ⟨q9 _,zj _⟩
   have vU0:vl U0=((a*2^s:Nat):Int):=by rw[←hU0,aeN,q8]
   have hfw:=aql gU0 hll hlb hs16 lU0 vU0 hvge
   have elen:(lim (a*2^s)).length+((lim a).length+1-(lim (a*2^s)).length)=U0.length:=by omega
   refine⟨by omega,⟨by simp,by omega⟩,by omega,?_⟩
   generalize hV:lim (b*2^s)=V at*
   have gV:gd V:=by rw[←hV];exact q9 _
   have vV:vl V=((b*2^s:Nat):Int):=by rw[←hV,q8]
   generalize hm:(lim a).length-(lim b).length+1=m at*
   refine qj (fun x:Nat×List Int×List Int=>[(8,.v (.int .i64 s)),(9,.sl V.length (qc V)),(10,.rf 0 0 x.2.1.length),(11,.rf 1 0 x.2.2.length),(12,.v (.int .i64 ((x.1:Int)-1)))])
    (fun x=>[(0,.own 1 (qc x.2.1)),(1,.own 1 (qc x.2.2))])
    (fun x=>x.1≤m∧x.2.1.length=U0.length∧gd x.2.1∧x.2.2.length=m∧gd x.2.2∧vl (x.2.1.drop x.1)<vl V∧vl x.2.1+vl V*(65536^x.1*vl (x.2.2.drop x.1))=((a*2^s:Nat):Int))
    (fun x=>x.1) (m,U0,List.replicate m 0) ⟨Nat.le_refl _,rfl,gU0,by simp,zj _,by show vl (U0.drop m)<vl V;rw[vV];exact hfw,by show vl U0+vl V*(65536^m*vl ((List.replicate m 0).drop m))=_;rw[List.drop_of_length_le (by simp)];simp[vl];exact vU0⟩
    (Le.lst [(0,580000000),(1,650000000)] _ _ rfl (by simp(disch:=omega)only[go_sem,elen,e4,List.length_replicate];try omega) (by simp(disch:=omega)only[go_sem,hU0,em])) ?_
   rintro⟨k,U,O⟩ ⟨hk,lU,gU,lO,gO,hlt,hval⟩
   dsimp only at hk lU gU lO gO hlt hval ⊢
   simp(disch:=omega)only[go_sem]
   refine qe (fun g1=>?_) (fun g1=>?_)
   ·obtain⟨j,rfl⟩:∃j,k=j+1:=⟨k-1,by omega⟩
    have ej:((j+1:Nat):Int)-1=(j:Nat):=by omega
    have hWj:vl (U.drop j)<65536*vl V:=by
     rw[zF (by omega)]
     have:=qJ gU j
     omega
    simp(disch:=omega)only[go_sem,g1,ej]
    refine qz (aeu U V j gU gV (by omega) (by omega) (by omega) (by rw[hvl];exact hv1) hWj) (by simp(disch:=omega)only[go_sem]) ?_
    rintro r hs ⟨qd,rfl,rfl,_,hq,hq1,hq2⟩
    refine⟨by simp[qO],?_⟩
    simp(disch:=omega)only[go_sem]
    refine za false [0] (aax U V j qd gU gV (by omega) (by omega) hq) (by simp(disch:=omega)only[go_sem]) (by simp(disch:=omega)only[go_sem]) rfl (qQ (z:=1) (cs:=qc U) (by simp(disch:=omega)only[go_sem]) (by simp(disch:=omega)only[go_sem])) (by intro n hn;exact⟨_,List.mem_cons_self ..,by rw[List.mem_singleton.1 hn];rfl⟩) ?_
    rintro r hs bs ⟨U',bo,rfl,rfl,rfl,hl',gU',hbo,hsm,hv'⟩ _
    refine⟨by simp[qO],?_⟩
    generalize hT:U'.set (j+V.length) (U.getD (j+V.length) 0-bo)=T at*
    obtain⟨lT,vT,wT,tT,aT,pT,nT⟩:=aoM gU gV (by omega) hWj hq1 hq2 hl' gU' hsm hv' T hT.symm
    have hfin:∀(U2:List Int) (qf:Int),vl U2=vl U-65536^j*(qf*vl V)→vl U2+vl V*(65536^j*vl ((O.set j qf).drop j))=((a*2^s:Nat):Int):=by
     intro U2 qf h2
     rw[KW (by omega),h2,←hval,Int.pow_succ]
     generalize (65536:Int)^j=Pj at*
     grind
    simp(disch:=omega)only[go_sem]
    refine qe (fun g2=>?_) (fun g2=>?_)
    ·obtain⟨⟨n1,n2⟩,n3⟩:=nT g2
     simp(disch:=omega)only[go_sem,g2]
     refine za false [0] (aex T V j n3 (by rw[tT];omega) gV (by omega) (by omega)) (by simp(disch:=omega)only[go_sem,lT]) (by simp(disch:=omega)only[go_sem]) rfl (qQ (z:=1) (cs:=qc T) (by simp(disch:=omega)only[go_sem]) (by simp(disch:=omega)only[go_sem])) (by intro n hn;exact⟨_,List.mem_cons_self ..,by rw[List.mem_singleton.1 hn];rfl⟩) ?_
     rintro r hs bs ⟨T',rfl,rfl,rfl,lT',gT',sT',vT'⟩ _
     refine⟨by simp[qO],?_⟩
     rw[Int.add_mul]at hq1
     obtain⟨gT2,wT2⟩:=arJ gV (by omega) lT' gT' sT' aT vT' (by omega) (by omega)
     simp(disch:=omega)only[go_sem,lO]
     have hqp:0<qd:=by
      have h3:=qU (yB gU j)
      rcases(by omega:0<qd∨qd=0)with h|h
      ·exact h
      ·subst h;simp at n2;omega
     refine⟨by omega,by omega,qb (j,T',O.set j (qd-1)) [] ⟨by show j≤m;omega,by show T'.length=_;omega,gT2,by simp[lO],yZ gO (by omega),by show vl (T'.drop j)<vl V;omega,hfin T' (qd-1) ?_⟩ (by show j<j+1;omega) rfl (by simp(disch:=omega)only[go_sem,List.length_set];try omega) (by simp(disch:=omega)only[go_sem])⟩
     rw[vT',vT,Int.sub_mul,Int.one_mul,Int.mul_sub];omega
    ·obtain⟨p1,p2⟩:=pT g2
     rw[Int.add_mul]at hq1
     simp(disch:=omega)only[go_sem,g2,lO]
     refine⟨by omega,by omega,qb (j,T,O.set j qd) [] ⟨by show j≤m;omega,by show T.length=_;omega,p1,by simp[lO],yZ gO hq,by show vl (T.drop j)<vl V;omega,hfin T qd vT⟩ (by show j<j+1;omega) rfl (by simp(disch:=omega)only[go_sem,List.length_set];try omega) (by simp(disch:=omega)only[go_sem])⟩
   ·have:k=0:=by omega
    subst this
    rw[List.drop_zero]at hlt
    rw[List.drop_zero,Int.pow_zero,Int.one_mul]at hval
    have hvO:=qU gO
    have hvU:=qU gU
    have hcO:=jb gO
    have hcU:=jb gU
    have hpS:0<2^s:=Nat.pow_pos (by omega)
    obtain⟨d1,d2⟩:(vl O).toNat=a/b∧(vl U).toNat=a % b*2^s:=by
     refine aDh hpS (by omega) ?_ (by omega)
     rw[vV]at hval
     have:((vl U).toNat:Int)+((b*2^s:Nat):Int)*((vl O).toNat:Int)=((a*2^s:Nat):Int):=by
      rw[Int.toNat_of_nonneg hvO,Int.toNat_of_nonneg hvU];exact hval
     rw[←Int.natCast_mul,←Int.natCast_add]at this
     exact Int.ofNat.inj this
    rw[d1]at hcO
    rw[d2]at hcU
    obtain⟨zo,hzo⟩:=zL O
    obtain⟨zu,hzu⟩:=zL U
    have htU:=aqC U
    rw[hcO]at hzo
    rw[hcU]at hzu htU
    simp(disch:=omega)only[go_sem,g1]
    refine za false [1] (jt O (by omega)) (by simp(disch:=omega)only[go_sem]) (by simp(disch:=omega)only[go_sem]) rfl (qQ (z:=1) (cs:=qc O) (by simp(disch:=omega)only[go_sem]) (by simp(disch:=omega)only[go_sem])) (by intro n hn;exact⟨_,List.mem_singleton.2 rfl,by rw[List.mem_singleton.1 hn];rfl⟩) ?_
    rintro r hs bs ⟨rfl,rfl,rfl⟩ _
    refine⟨by simp[qO],?_⟩
    simp(disch:=omega)only[go_sem]
    refine za false [0] (jt U (by omega)) (by simp(disch:=omega)only[go_sem]) (by simp(disch:=omega)only[go_sem]) rfl (qQ (z:=1) (cs:=qc U) (by simp(disch:=omega)only[go_sem]) (by simp(disch:=omega)only[go_sem])) (by intro n hn;exact⟨_,List.mem_singleton.2 rfl,by rw[List.mem_singleton.1 hn];rfl⟩) ?_
    rintro r hs bs ⟨rfl,rfl,rfl⟩ _
    refine⟨by simp[qO],?_⟩
    simp(disch:=omega)only[go_sem,hcO,hcU]
    have hlr:(lim (a % b*2^s)).length≤1000000:=by
     have:=congrArg List.length hzu
     simp at this;omega
    refine qz (aaL true (a % b*2^s) s hlr (by omega)) (by simp(disch:=omega)only[go_sem,htU]) ?_
    rw[Nat.mul_div_cancel _ hpS]
    rintro r hs2 (⟨h,rfl,rfl⟩|⟨z2,rfl,rfl⟩)
    ·refine⟨⟨by simp,by simp(disch:=omega)only[go_sem]⟩,?_⟩
     simp(disch:=omega)only[go_sem]
     refine qg [(0,1)] [.own 1 (qc O)] [] [.rf 0 0 (lim (a/b)).length,.v (.slice none 0 0)] rfl (by simp(disch:=omega)only[go_sem]) (by simp(disch:=omega)only[go_sem]) (by simp) (by simp) ?_
     show qE _ 6 _=_
     unfold qE
     simp only[zg,List.map_cons,List.map_nil]
     rw[hzo,j8 (k:=3) (l:=lim (a/b)) (zs:=List.replicate zo 0) zb rfl,h]
     rfl
    ·refine⟨⟨by simp,by simp(disch:=omega)only[go_sem]⟩,?_⟩
     simp(disch:=omega)only[go_sem]
     refine qg [(0,1),(1,970000000)] [.own 1 (qc O),.own 1 (qc (lim (a % b)++z2))] [] [.rf 0 0 (lim (a/b)).length,.rf 1 0 (lim (a % b)).length] rfl (by simp(disch:=omega)only[go_sem]) (by simp(disch:=omega)only[go_sem]) (by simp) (by simp) ?_
     show qE _ 6 _=_
     unfold qE
     simp only[zg,List.map_cons,List.map_nil]
     rw[hzo,j8 (k:=3) (l:=lim (a/b)) (zs:=List.replicate zo 0) zb rfl,j8 (k:=3) (l:=lim (a % b)) (zs:=z2) aJN rfl]
end Go.Ab
namespace Go.Ab
open Go Go.Proofs
theorem J4(n lo hi:Int):Con Tryz.prog 91 true [.v (.int .i64 n),.v (.int .i64 lo),.v (.int .i64 hi)] [] (fun r hs bs=>r=.v (.bool (decide (lo≤n)&&decide (n≤hi)))∧hs=[]):=by
 refine Con.of_aw Tryz.func91 rfl Tryz.ntmps91 (by simp) (by simp) (by simp) (W.sound ?_)
 show @W Tryz.prog 15 ⟨_⟩ ⟨fun x σ=>@qR _ _ _ ⟨_⟩ _ ⟨_⟩ x σ⟩ _ _
 simp(disch:=omega)only[go_sem]
 refine qe (fun h1=>?_) (fun h1=>?_)
 ·simp(disch:=omega)only[go_sem,h1]
  refine qg [] [] [] [.v (.bool (decide (n≤hi)))] rfl (by simp(disch:=omega)only[go_sem]) (by simp(disch:=omega)only[go_sem]) (by simp) (by simp[AV.pu,zg]) ⟨by simp[zg,h1],rfl⟩
 ·simp(disch:=omega)only[go_sem,h1]
  refine qg [] [] [] [.v (.bool false)] rfl (by simp(disch:=omega)only[go_sem]) (by simp(disch:=omega)only[go_sem]) (by simp) (by simp[AV.pu,zg]) ⟨by simp[zg,h1],rfl⟩
end Go.Ab
namespace Go.Ab
open Go Go.Proofs
theorem aet(a b:Nat)(hb:b≠0)(la:(lim a).length≤900000)(lb:(lim b).length≤900000):
  Con Tryz.prog 275 false [.sl (lim (a)).length (qc (lim (a))),.sl (lim (b)).length (qc (lim (b)))] [] (isA (.tu [.sl (lim (a/b)).length (qc (lim (a/b))),.sl (lim (a % b)).length (qc (lim (a % b)))])):=(akd a b hb la lb).frzA
theorem aeg(neg odd:Bool)(half mode:Int):Con Tryz.prog 250 true [.v (.bool neg),.v (.bool odd),.v (.int .i64 half),.v (.int .i64 mode)] [] (isA (.v (.bool (rup neg odd half mode)))):=by
 refine Con.of_aw Tryz.func250 rfl Tryz.ntmps250 (by simp) (by simp) (by simp) (W.sound ?_)
 show @W Tryz.prog 32 ⟨_⟩ ⟨fun x σ=>@qR _ _ _ ⟨_⟩ _ ⟨_⟩ x σ⟩ _ _
 simp(disch:=omega)only[go_sem]
 refine qe (fun h1=>?_) (fun h1=>?_)
 ·simp(disch:=omega)only[go_sem,h1]
  exact qx (by simp(disch:=omega)only[go_sem]) (by simp(disch:=omega)only[go_sem]) ⟨by simp[zg,rup,h1],rfl,rfl⟩
 ·simp(disch:=omega)only[go_sem,h1]
  refine qe (fun h2=>?_) (fun h2=>?_)
  ·simp(disch:=omega)only[go_sem,h2]
   exact qx (by simp(disch:=omega)only[go_sem]) (by simp(disch:=omega)only[go_sem]) ⟨by simp[zg,rup,h2],rfl,rfl⟩
  ·simp(disch:=omega)only[go_sem,h2]
   refine qe (fun h3=>?_) (fun h3=>?_)
   ·simp(disch:=omega)only[go_sem,h3]
    refine zG (fun h4=>?_) (fun h4=>?_)
    ·simp(disch:=omega)only[go_sem,h4]
     refine qe (fun h5=>?_) (fun h5=>?_)
     ·simp(disch:=omega)only[go_sem,h5]
      exact qx (by simp(disch:=omega)only[go_sem]) (by simp(disch:=omega)only[go_sem]) ⟨by simp[zg,rup,h3,h5],rfl,rfl⟩
     ·simp(disch:=omega)only[go_sem,h5]
      exact qx (by simp(disch:=omega)only[go_sem]) (by simp(disch:=omega)only[go_sem]) ⟨by simp[zg,rup,h3,h4,h5],rfl,rfl⟩
    ·simp(disch:=omega)only[go_sem,h4]
     exact qx (by simp(disch:=omega)only[go_sem]) (by simp(disch:=omega)only[go_sem]) ⟨by simp[zg,rup,h3,h4],rfl,rfl⟩
   ·simp(disch:=omega)only[go_sem,h3]
    refine qe (fun h4=>?_) (fun h4=>?_)
    ·simp(disch:=omega)only[go_sem,h4]
     exact qx (by simp(disch:=omega)only[go_sem]) (by simp(disch:=omega)only[go_sem]) ⟨by simp[zg,rup,h4],rfl,rfl⟩
    ·simp(disch:=omega)only[go_sem,h4]
     exact qx (by simp(disch:=omega)only[go_sem]) (by simp(disch:=omega)only[go_sem]) ⟨by simp[zg,rup,h1,h2,h3,h4],rfl,rfl⟩
theorem Q0(neg:Bool)(a b:Nat)(mode:Int)(hb:b≠0)(la:bl a≤8000000)(lb:bl b≤8000000):
  Con Tryz.prog 243 false [.v (.bool neg),.sl (lim (a)).length (qc (lim (a))),.sl (lim (b)).length (qc (lim (b))),.v (.int .i64 mode)] [] (isA (.tu [.sl (lim (rq neg a b mode)).length (qc (lim (rq neg a b mode))),.v (.bool (decide (a % b=0)))])):=by
 refine Con.of_aw Tryz.func243 rfl Tryz.ntmps243 (by simp) (by simp) (by simp) (W.sound ?_)
 show @W Tryz.prog 36 ⟨_⟩ ⟨fun x σ=>@qR _ _ _ ⟨_⟩ _ ⟨_⟩ x σ⟩ _ _
 simp(disch:=omega)only[go_sem]
 have lla:=qB la
 have llb:=qB lb
 refine qa (aet a b hb (by omega) (by omega)) ?_
 simp(disch:=omega)only[go_sem]
 have hmb:a % b<b:=Nat.mod_lt _ (by omega)
 have llr:=qB (Nat.le_trans (yh (Nat.le_of_lt hmb)) lb)
 have llq:=qB (Nat.le_trans (Xl a b) la)
 refine qe (fun h1=>?_) (fun h1=>?_)
 ·simp(disch:=omega)only[go_sem,h1]
  have h0:a % b=0:=qI.1 (List.length_eq_zero_iff.1 (by omega))
  refine qP (by simp(disch:=omega)only[go_sem]) ⟨?_,rfl,rfl⟩
  simp[zg,rq,h0]
 ·simp(disch:=omega)only[go_sem,h1]
  have h0:a % b≠0:=fun e=>h1 (by rw[e,qo];rfl)
  refine qh (aaP (a/b) 0 (by omega) (by omega) (by omega)) ?_
  simp(disch:=omega)only[go_sem]
  refine qa (zV (a % b) 1 (by omega) (by omega)) ?_
  simp(disch:=omega)only[go_sem]
  have llu:=qB (Nat.le_trans (Xi (a % b) 1) (Nat.add_le_add_right (Nat.le_trans (yh (Nat.le_of_lt hmb)) lb) 1))
  refine qh (ja (a % b*2^1) b (by omega) (by omega)) ?_
  simp(disch:=omega)only[go_sem]
  have e1:(decide (((a/b/1 % 2:Nat):Int)=1))=decide (a/b % 2=1):=by
   simp;omega
  refine qh (aeg neg (decide (a/b % 2=1)) (zr ((a % b*2^1:Nat):Int) (b:Int)) mode) ?_ (by simp(disch:=omega)only[go_sem,e1,Int.toNat_zero,Nat.pow_zero])
  simp(disch:=omega)only[go_sem]
  refine yU (fun h2=>?_) (fun h2=>?_)
  ·simp(disch:=omega)only[go_sem,h2]
   refine qa (zD 1 (by omega)) ?_
   simp(disch:=omega)only[go_sem]
   have l1:(lim 1).length≤2000000:=by have:=qB (m:=1) (B:=1) (by decide);omega
   refine qa (aay (a/b) 1 (by omega) l1) ?_
   simp(disch:=omega)only[go_sem]
   refine qP (by simp(disch:=omega)only[go_sem]) ⟨?_,rfl,rfl⟩
   have e:rq neg a b mode=a/b+1:=by unfold rq;rw[if_neg h0,if_pos h2]
   rw[e];simp[zg,h0]
  ·simp(disch:=omega)only[go_sem,h2]
   refine qP (by simp(disch:=omega)only[go_sem]) ⟨?_,rfl,rfl⟩
   have e:rq neg a b mode=a/b:=by unfold rq;rw[if_neg h0,if_neg (by rw[h2];simp)]
   rw[e];simp[zg,h0]
end Go.Ab
namespace Go.Ab
open Go Go.Proofs
theorem Yg(s:Bool)(m:Nat)(e:Int):Con Tryz.prog 117 true [.ag [.v (.bool (s)),.sl (lim (m)).length (qc (lim (m))),.v (.int .i64 (e))]] [] (isA (.v (.bool (decide (m=0))))):=by
 refine Con.of_aw Tryz.func117 rfl Tryz.ntmps117 (by simp) (by simp) (by simp) (W.sound ?_)
 show @W Tryz.prog 7 ⟨_⟩ ⟨fun x σ=>@qR _ _ _ ⟨_⟩ _ ⟨_⟩ x σ⟩ _ _
 simp(disch:=omega)only[go_sem]
 refine qx (by simp(disch:=omega)only[go_sem]) (by simp(disch:=omega)only[go_sem]) ⟨?_,rfl,rfl⟩
 have:decide (((lim m).length:Int)=0)=decide (m=0):=by
  rw[decide_eq_decide]
  exact⟨fun h=>qI.1 (List.length_eq_zero_iff.1 (by omega)),fun h=>by rw[h,qo];rfl⟩
 rw[this];rfl
theorem aUw(s:Bool)(m:Nat)(e:Int)(hm:(lim m).length≤2^40)(he: -2^40≤e∧e≤2^40):Con Tryz.prog 229 true [.ag [.v (.bool (s)),.sl (lim (m)).length (qc (lim (m))),.v (.int .i64 (e))]] [] (isA (.v (.int .i64 (if m=0 then 0 else(bl m:Int)+e)))):=by
 refine Con.of_w (rs:=[.tmp 2]) Tryz.func229 rfl Tryz.ntmps229 rfl ?_
 simp(disch:=omega)only[go_sem]
 refine qe (fun h1=>?_) (fun h1=>?_)
 ·simp(disch:=omega)only[go_sem,h1]
  have h0:m=0:=qI.1 (List.length_eq_zero_iff.1 (by omega))
  rw[if_pos h0]
  exact qu
 ·have h0:m≠0:=fun e=>h1 (by rw[e,qo];rfl)
  have:=afy (m:=m)
  simp(disch:=omega)only[go_sem,h1]
  refine qp rfl [⟨0,[],[]⟩,⟨1,[],[]⟩,⟨3,[1],[]⟩,⟨4,[1],[]⟩,⟨2,[4],[]⟩,⟨5,[],[]⟩,⟨6,[],[]⟩] (by kernel_rfl) ?_
  simp(disch:=omega)only[go_sem]
  refine qh (ake m hm) ?_
  simp(disch:=omega)only[go_sem]
  rw[if_neg h0]
  exact qu
theorem aqO(s:Bool)(m:Nat)(e:Int)(hm:bl m≤10000000)(he: -2^40≤e∧e≤2^40):Con Tryz.prog 177 false [.ag [.v (.bool (s)),.sl (lim (m)).length (qc (lim (m))),.v (.int .i64 (e))]] [] (isA (.ag [.v (.bool (oS s m)),.sl (lim (oM m)).length (qc (lim (oM m))),.v (.int .i64 (oE m e))])):=by
 refine Con.frzA ?_
 refine Con.of_aw Tryz.func177 rfl Tryz.ntmps177 (by simp) (by simp) (by simp) (W.sound ?_)
 show @W Tryz.prog 23 ⟨_⟩ ⟨fun x σ=>@qR _ _ _ ⟨_⟩ _ ⟨_⟩ x σ⟩ _ _
 simp(disch:=omega)only[go_sem]
 have hl:=qB hm
 refine qe (fun h1=>?_) (fun h1=>?_)
 ·simp(disch:=omega)only[go_sem,h1]
  have h0:m=0:=qI.1 (List.length_eq_zero_iff.1 (by omega))
  subst h0
  refine qP (by simp(disch:=omega)only[go_sem]) ?_
  show qE _ 6 _=_
  simp only[oS,Z1,oE,qo,if_true]
  simp(disch:=omega)only[go_sem]
 ·have h0:m≠0:=fun e=>h1 (by rw[e,qo];rfl)
  have ht:=yI h0
  simp(disch:=omega)only[go_sem,h1]
  refine qh (aec m (by omega)) ?_
  simp(disch:=omega)only[go_sem]
  refine qp rfl [⟨0,[],[]⟩,⟨1,[],[]⟩,⟨2,[1],[]⟩,⟨3,[1],[]⟩,⟨4,[1,3],[]⟩,⟨6,[1,3],[]⟩,⟨7,[1,3],[]⟩,⟨8,[1,3,7],[]⟩,⟨9,[1,3],[]⟩,⟨5,[1,7],[]⟩,⟨10,[],[]⟩,⟨11,[],[]⟩] (by kernel_rfl) ?_
  simp(disch:=omega)only[go_sem]
  refine qa (arf m (tz m) (by omega) (by omega)) ?_
  simp(disch:=omega)only[go_sem]
  refine qP (by simp(disch:=omega)only[go_sem]) ?_
  show qE _ 6 _=_
  simp only[oS,oM,oE,if_neg h0]
  simp(disch:=omega)only[go_sem]
def ovA(m1:Nat)(k:Int):Nat:=m1*2^k.toNat
def ovQ(s:Bool)(m1:Nat)(e1:Int)(m2:Nat)(e2 low mode:Int):Nat:=rq s (ovA m1 (e1-e2-low)) (ovA m2 (-(e1-e2-low))) mode
def ovX(m1:Nat)(e1:Int)(m2:Nat)(e2 low:Int):Bool:=decide (ovA m1 (e1-e2-low) % ovA m2 (-(e1-e2-low))=0)
theorem aFM{m B:Nat}{k:Int}{C:Nat}(h:bl m≤B)(hk:k≤C):bl (ovA m k)≤B+C:=by
 have:=Xi m k.toNat
 unfold ovA;omega
theorem aO4{m:Nat}{k:Int}(h:m≠0):ovA m k≠0:=by
 unfold ovA
 have:0<2^k.toNat:=Nat.pow_pos (by omega)
 have:=Nat.mul_pos (show 0<m by omega) this
 omega
theorem afq(s1:Bool)(m1:Nat)(e1:Int)(s2:Bool)(m2:Nat)(e2 low mode:Int)(h2:m2≠0)(hm1:bl m1≤4000000)(hm2:bl m2≤4000000)(hk: -4000000≤e1-e2-low∧e1-e2-low≤4000000)
  (he1: -2^40≤e1∧e1≤2^40) (he2: -2^40≤e2∧e2≤2^40) (hlo: -2^40≤low∧low≤2^40):
  Con Tryz.prog 188 false [.ag [.v (.bool (s1)),.sl (lim (m1)).length (qc (lim (m1))),.v (.int .i64 (e1))],.ag [.v (.bool (s2)),.sl (lim (m2)).length (qc (lim (m2))),.v (.int .i64 (e2))],.v (.int .i64 low),.v (.int .i64 mode)] []
   (isA (.tu [.ag [.v (.bool ((s1 != s2)&&decide (ovQ (s1 != s2) m1 e1 m2 e2 low mode≠0))),.sl (lim (ovQ (s1 != s2) m1 e1 m2 e2 low mode)).length (qc (lim (ovQ (s1 != s2) m1 e1 m2 e2 low mode))),.v (.int .i64 (low))],.v (.bool (ovX m1 e1 m2 e2 low))])):=by
 refine Con.frzA ?_
 refine Con.of_w (rs:=[.cell 8 118,.tmp 9]) Tryz.func188 rfl Tryz.ntmps188 rfl ?_
 have l1:=qB hm1
 have l2:=qB hm2
 generalize hsh:e1-e2-low=sh at*
 have eq1:ovQ (s1 != s2) m1 e1 m2 e2 low mode=rq (s1 != s2) (ovA m1 sh) (ovA m2 (-sh)) mode:=by unfold ovQ;rw[hsh]
 have eq2:ovX m1 e1 m2 e2 low=decide (ovA m1 sh % ovA m2 (-sh)=0):=by unfold ovX;rw[hsh]
 rw[eq1,eq2]
 simp(disch:=omega)only[go_sem,hsh]
 refine qp rfl [⟨0,[],[]⟩,⟨1,[],[]⟩,⟨2,[],[]⟩,⟨3,[2],[]⟩,⟨4,[2],[]⟩,⟨6,[2],[]⟩,⟨7,[2],[]⟩,⟨8,[2,7],[]⟩,⟨9,[2,7],[]⟩,⟨10,[2,7],[]⟩,⟨12,[2,7],[]⟩,⟨5,[7],[]⟩,⟨11,[],[]⟩,⟨13,[],[]⟩,⟨14,[],[]⟩,⟨15,[],[]⟩,⟨16,[],[]⟩,⟨17,[],[]⟩,⟨18,[],[]⟩] (by kernel_rfl) ?_
 have ex1:(if 0>sh then 0 else sh)=((sh.toNat:Nat):Int):=by split<;>omega
 have ex2:(if 0>0-sh then 0 else 0-sh)=(((-sh).toNat:Nat):Int):=by split<;>omega
 simp(disch:=omega)only[go_sem,ex1,ex2]
 refine qa (zV m1 sh.toNat (by omega) (by omega)) ?_
 simp(disch:=omega)only[go_sem]
 refine qa (zV m2 (-sh).toNat (by omega) (by omega)) ?_
 simp(disch:=omega)only[go_sem]
 refine qa (Q0 (s1 != s2) (ovA m1 sh) (ovA m2 (-sh)) mode (aO4 h2) (aFM (C:=4000000) hm1 (by omega)) (aFM (C:=4000000) hm2 (by omega))) ?_ (by simp(disch:=omega)only[go_sem,ovA])
 simp(disch:=omega)only[go_sem]
 generalize rq (s1 != s2) (ovA m1 sh) (ovA m2 (-sh)) mode=q
 generalize decide (ovA m1 sh % ovA m2 (-sh)=0)=b
 have hq:decide ((0:Int)<((lim q).length:Int))=decide (q≠0):=by
  rw[decide_eq_decide]
  exact⟨fun h e=>by rw[e,qo]at h;simp at h,fun h=>by have:=Qu h;omega⟩
 refine yU (fun h3=>?_) (fun h3=>?_)
 ·simp(disch:=omega)only[go_sem,h3,hq]
  exact ql (hp:=by simp(disch:=omega)only[go_sem,h3,Bool.true_and])
 ·simp(disch:=omega)only[go_sem,h3]
  exact ql (hp:=by simp(disch:=omega)only[go_sem,h3,Bool.false_and])
def roM(s:Bool)(m:Nat)(e low mode:Int):Nat:=if low≤e∨m=0 then m else rq s m (2^(low-e).toNat) mode
def roE(m:Nat)(e low:Int):Int:=if low≤e∨m=0 then e else low
def roX(m:Nat)(e low:Int):Bool:=if low≤e∨m=0 then true else decide (m % 2^(low-e).toNat=0)
def roS(s:Bool)(m:Nat)(e low mode:Int):Bool:=if low≤e∨m=0 then s else s&&decide (rq s m (2^(low-e).toNat) mode≠0)
theorem aef(s:Bool)(m:Nat)(e low mode:Int)(hm:bl m≤4000000)(he: -1000000≤e∧e≤1000000)(hlo: -1000000≤low∧low≤1000000):
  Con Tryz.prog 218 false [.ag [.v (.bool (s)),.sl (lim (m)).length (qc (lim (m))),.v (.int .i64 (e))],.v (.int .i64 low),.v (.int .i64 mode)] []
   (isA (.tu [.ag [.v (.bool (roS s m e low mode)),.sl (lim (roM s m e low mode)).length (qc (lim (roM s m e low mode))),.v (.int .i64 (roE m e low))],.v (.bool (roX m e low))])):=by
 refine Con.frzA ?_
 refine Con.of_aw Tryz.func218 rfl Tryz.ntmps218 (by simp) (by simp) (by simp) (W.sound ?_)
 show @W Tryz.prog 25 ⟨_⟩ ⟨fun x σ=>@qR _ _ _ ⟨_⟩ _ ⟨_⟩ x σ⟩ _ _
 simp(disch:=omega)only[go_sem]
 refine zG (fun h1=>?_) (fun h1=>?_)
 ·simp(disch:=omega)only[go_sem,h1]
  refine qh (Yg s m e) ?_
  simp(disch:=omega)only[go_sem]
  refine qe (fun h2=>?_) (fun h2=>?_)
  ·simp(disch:=omega)only[go_sem,h2]
   refine qP (by simp(disch:=omega)only[go_sem]) ?_
   show qE _ 6 _=_
   simp only[roS,roM,roE,roX,h2,or_true,if_true]
   simp(disch:=omega)only[go_sem]
  ·simp(disch:=omega)only[go_sem,h2]
   refine qp rfl [⟨0,[],[]⟩,⟨3,[0],[]⟩,⟨4,[0],[]⟩,⟨1,[0],[]⟩,⟨2,[0],[]⟩,⟨5,[],[]⟩,⟨6,[],[]⟩,⟨7,[],[]⟩,⟨8,[],[]⟩,⟨9,[],[]⟩] (by kernel_rfl) ?_
   simp(disch:=omega)only[go_sem]
   refine qa (zD 1 (by omega)) ?_
   simp(disch:=omega)only[go_sem]
   refine qa (afq s m e false 1 0 low mode (by omega) hm (by decide) (by omega) (by omega) (by omega) (by omega)) ?_
   simp(disch:=omega)only[go_sem]
   refine qP (by simp(disch:=omega)only[go_sem]) ?_
   show qE _ 6 _=_
   have hc:¬(low≤e∨m=0):=by omega
   have e1:ovA m (e-0-low)=m:=by unfold ovA;rw[show(e-0-low).toNat=0 by omega];simp
   have e2:ovA 1 (-(e-0-low))=2^(low-e).toNat:=by unfold ovA;rw[show(-(e-0-low)).toNat=(low-e).toNat by omega];simp
   have e3:(s != false)=s:=by cases s<;>rfl
   simp only[roS,roM,roE,roX,if_neg hc,ovQ,ovX,e1,e2,e3]
   simp(disch:=omega)only[go_sem]
 ·simp(disch:=omega)only[go_sem,h1]
  refine qP (by simp(disch:=omega)only[go_sem]) ?_
  show qE _ 6 _=_
  simp only[roS,roM,roE,roX,h1,true_or,if_true]
  simp(disch:=omega)only[go_sem]
end Go.Ab
namespace Go.Ab
open Go Go.Proofs
theorem aqR(cl:Bool)(A B:List Int)(hA:gd A)(hB:gd B)(lA:A.length≤1000000)(lB:B.length≤A.length)(hle:vl B≤vl A):
  Con Tryz.prog 253 cl [.sl A.length (qc A),.sl B.length (qc B)] [] (ar5 (lim (vl A-vl B).toNat)):=by
 refine Con.of_aw Tryz.func253 rfl Tryz.ntmps253 (by simp) (by simp) (by simp) (W.sound ?_)
 show @W Tryz.prog 43 ⟨_⟩ ⟨fun x σ=>@qR _ _ _ ⟨_⟩ _ ⟨_⟩ x σ⟩ _ _
 simp(disch:=omega)only[go_sem]
 refine⟨by omega,?_⟩
 refine qj (fun x:Nat×List Int×Int=>[(1,.sl B.length (qc B)),(5,.rf 1 0 x.2.1.length),(6,.v (.int .i64 x.2.2)),(12,.sl A.length (qc A)),(13,.v (.int .i64 A.length)),(14,.v (.int .i64 x.1))])
  (fun x=>[(1,.own 1 (qc x.2.1))])
  (fun x=>x.1≤A.length∧x.2.1.length=x.1∧gd x.2.1∧(0≤x.2.2∧x.2.2≤1)∧vl x.2.1-65536^x.1*x.2.2=vl (A.take x.1)-vl (B.take x.1))
  (fun x=>A.length-x.1) (0,[],0) ⟨by simp,rfl,Z9,by simp,by simp[vl]⟩
  (Le.lst [(1,130000000)] _ _ rfl (by simp(disch:=omega)only[go_sem]) (by simp(disch:=omega)only[go_sem])) ?_
 rintro⟨i,out,bo⟩ ⟨hi,hol,hog,hbo,hov⟩
 dsimp only at hi hol hog hbo hov ⊢
 simp(disch:=omega)only[go_sem]
 refine qe (fun h1=>?_) (fun h1=>?_)
 ·have hx:=qJ hA i
  have hy:=qJ hB i
  have hstep:∀z b:Int,A.getD i 0-bo-B.getD i 0=z-65536*b→vl (out++[z])-65536^(i+1)*b=vl (A.take (i+1))-vl (B.take (i+1)):=by
   intro z b hz
   rw[jx,qS,qS,hol,Int.pow_succ]
   generalize (65536:Int)^i=Pi at*
   grind
  have hyz:¬i<B.length→B.getD i 0=0:=fun h=>by rw[List.getD_eq_getElem?_getD,List.getElem?_eq_none (by omega)];rfl
  simp(disch:=omega)only[go_sem,h1]
  refine⟨by omega,by omega,qe (fun h2=>?_) (fun h2=>?_)⟩
  ·simp(disch:=omega)only[go_sem,h2]
   refine⟨by omega,by omega,qe (fun h3=>?_) (fun h3=>?_)⟩
   ·simp(disch:=omega)only[go_sem,h3]
    refine⟨by omega,qb (i+1,out++[A.getD i 0-bo-B.getD i 0+65536],1) [(1,410000000)] ⟨by show i+1≤_;omega,by simp[hol],qF.2 ⟨hog,zU.2 (by omega)⟩,by simp,hstep (A.getD i 0-bo-B.getD i 0+65536) 1 (by omega)⟩ (by show A.length-(i+1)<A.length-i;omega) rfl (by simp(disch:=omega)only[go_sem,List.length_append];try omega) (by simp(disch:=omega)only[go_sem])⟩
   ·simp(disch:=omega)only[go_sem,h3]
    refine⟨by omega,qb (i+1,out++[A.getD i 0-bo-B.getD i 0],0) [(1,410000000)] ⟨by show i+1≤_;omega,by simp[hol],qF.2 ⟨hog,zU.2 (by omega)⟩,by simp,hstep (A.getD i 0-bo-B.getD i 0) 0 (by omega)⟩ (by show A.length-(i+1)<A.length-i;omega) rfl (by simp(disch:=omega)only[go_sem,List.length_append];try omega) (by simp(disch:=omega)only[go_sem])⟩
  ·simp(disch:=omega)only[go_sem,h2]
   refine qe (fun h3=>?_) (fun h3=>?_)
   ·simp(disch:=omega)only[go_sem,h3]
    have hy0:=hyz (by omega)
    refine⟨by omega,qb (i+1,out++[A.getD i 0-bo+65536],1) [(1,410000000)] ⟨by show i+1≤_;omega,by simp[hol],qF.2 ⟨hog,zU.2 (by omega)⟩,by simp,hstep (A.getD i 0-bo+65536) 1 (by omega)⟩ (by show A.length-(i+1)<A.length-i;omega) rfl (by simp(disch:=omega)only[go_sem,List.length_append];try omega) (by simp(disch:=omega)only[go_sem])⟩
   ·simp(disch:=omega)only[go_sem,h3]
    have hy0:=hyz (by omega)
    refine⟨by omega,qb (i+1,out++[A.getD i 0-bo],0) [(1,410000000)] ⟨by show i+1≤_;omega,by simp[hol],qF.2 ⟨hog,zU.2 (by omega)⟩,by simp,hstep (A.getD i 0-bo) 0 (by omega)⟩ (by show A.length-(i+1)<A.length-i;omega) rfl (by simp(disch:=omega)only[go_sem,List.length_append];try omega) (by simp(disch:=omega)only[go_sem])⟩
 ·simp(disch:=omega)only[go_sem,h1]
  have hiA:i=A.length:=by omega
  subst hiA
  rw[List.take_length,List.take_of_length_le lB]at hov
  have hb0:bo=0:=by
   have h2:=QL hog
   rw[hol]at h2
   rcases(by omega:bo=0∨bo=1)with h|h
   ·exact h
   ·subst h;omega
  subst hb0
  have hov2:vl out=vl A-vl B:=by omega
  refine za false [1] (jt out (by omega)) (by simp(disch:=omega)only[go_sem]) (by simp(disch:=omega)only[go_sem]) rfl (qQ (z:=1) (cs:=qc out) (by simp(disch:=omega)only[go_sem]) (by simp(disch:=omega)only[go_sem])) (by intro n hn;exact⟨_,List.mem_singleton.2 rfl,by rw[List.mem_singleton.1 hn];rfl⟩) ?_
  rintro r hs bs ⟨rfl,rfl,rfl⟩ _
  refine⟨by simp[qO],?_⟩
  simp(disch:=omega)only[go_sem]
  obtain⟨z,hz⟩:=zL out
  have hc:=jb hog
  rw[hov2]at hc
  rw[hc]at hz ⊢
  refine qg [(0,1)] [.own 1 (qc out)] [] [.rf 0 0 (lim (vl A-vl B).toNat).length] rfl (by simp(disch:=omega)only[go_sem]) (by simp(disch:=omega)only[go_sem]) (by simp) (by intro _;simp[zg,AV.pu,AV.pu.puL,Ob.pu,qX]) (.inr ⟨List.replicate z 0,rfl,by rw[←hz]⟩)
end Go.Ab
namespace Go.Ab
theorem aTT(m k:Nat):bl (m/2^k)≤bl m-k:=by
 rcases Nat.lt_or_ge m (2^k)with h|h
 ·rw[Nat.div_eq_of_lt h,Jv];omega
 ·have:=aFO h;omega
def YE(xs:List Int):Bool:=decide (xs.length≤100)&&(xs.all (fun x=>decide (0≤x)&&decide (x≤65535))&&(decide (xs.length=0)||decide (xs.getD (xs.length-1) 0≠0)))
def zO(s:Bool)(xs:List Int):Bool:=YE xs&& !(s&&decide (xs.length=0))
def dyB(s:Bool)(xs:List Int)(e:Int):Bool:=
 zO s xs&&((decide (-3000≤e)&&decide (e≤3000))&&(decide ((vl xs).toNat % 2=1)||(decide (xs.length=0)&&decide (e=0))))
theorem Zy{xs:List Int}(h:YE xs=true):xs=lim (vl xs).toNat∧xs.length≤100:=by
 simp only[YE,Bool.and_eq_true,decide_eq_true_eq,List.all_eq_true,Bool.or_eq_true]at h
 obtain⟨h1,h2,h3⟩:=h
 refine⟨YK (fun x hx=>by have:=h2 x hx;omega) ?_,h1⟩
 intro a x e
 subst e
 rcases h3 with h3|h3
 ·simp at h3
 ·simpa [List.getD_eq_getElem?_getD]using h3
theorem apx(m:Nat)(h:(lim m).length≤100):YE (lim m)=true:=by
 simp only[YE,Bool.and_eq_true,decide_eq_true_eq,List.all_eq_true,Bool.or_eq_true]
 refine⟨h,fun x hx=>?_,?_⟩
 ·have:=q9 m x hx
  exact⟨this.1,by omega⟩
 ·rcases Nat.eq_zero_or_pos (lim m).length with h0|h0
  ·exact .inl h0
  ·refine .inr fun e=>?_
   have hm:m≠0:=fun e=>by rw[e,qo]at h0;simp at h0
   rw[zY]at e
   have:=YL hm
   rw[Nat.mod_eq_of_lt this.2]at e
   omega
theorem QW{s:Bool}{xs:List Int}{e:Int}(h:dyB s xs e=true):∃m,xs=lim m∧(lim m).length≤100∧bl m≤1600∧(-3000≤e∧e≤3000)∧(m % 2=1∨(m=0∧e=0))∧(m=0→s=false):=by
 simp only[dyB,zO,Bool.and_eq_true,decide_eq_true_eq,Bool.or_eq_true]at h
 obtain⟨⟨h1,h2⟩,h3,h4⟩:=h
 obtain⟨h5,h6⟩:=Zy h1
 refine⟨(vl xs).toNat,h5,by rw[←h5];exact h6,?_,h3,?_,?_⟩
 ·have:=afy (m:=(vl xs).toNat)
  rw[←h5]at this;omega
 ·rcases h4 with h4|⟨h4,h7⟩
  ·exact .inl h4
  ·have:xs=[]:=List.length_eq_zero_iff.1 h4
   exact .inr ⟨by subst this;rfl,h7⟩
 ·intro e0
  rw[e0,qo]at h5
  subst h5
  simpa using h2
end Go.Ab
namespace Go.Ab
def be3(neg:Bool)(m k:Nat)(mode:Int):Bool:=
 if mode=1 then false else if mode=2 then !neg else if mode=3 then neg else if mode=4 then decide (m/2^(k-1) % 2=1)
 else decide (m/2^(k-1) % 2=1)&&(decide (tz m<k-1)||decide (m/2^k % 2=1))
theorem aro{a b:Int}:(0<zr a b↔b<a)∧(zr a b=0↔a=b)∧(0≤zr a b↔b≤a):=by
 unfold zr
 split
 ·omega
 ·split<;>omega
theorem aeS{m:Nat}(h:m % 2=1):tz m=0:=ZD (a:=m/2) (by simp;omega)
/-! ### The normal form and rounding-/
end Go.Ab
namespace Go.Ab
/-! ### Numbers with a sign-/
def sv(s:Bool)(m:Nat):Int:=if s=true then-(m:Int)else(m:Int)
theorem yq(s:Bool):sv s 0=0:=by unfold sv;split<;>rfl
theorem aZp(z:Int):sv (decide (z<0)) z.natAbs=z:=by
 unfold sv;split
 ·rename_i h;simp only[decide_eq_true_eq]at h;omega
 ·rename_i h;simp only[decide_eq_true_eq]at h;omega
theorem aFb(s:Bool)(m k:Nat):sv s (m*k)=sv s m*(k:Int):=by
 unfold sv;split
 ·rw[Int.natCast_mul,Int.neg_mul]
 ·rw[Int.natCast_mul]
theorem aN8(s:Bool)(m:Nat):sv (s&&decide (m≠0)) m=sv s m:=by
 by_cases h:m=0
 ·subst h;rw[yq,yq]
 ·rw[decide_eq_true h,Bool.and_true]
theorem aZn(s:Bool)(m:Nat):sv (oS s m) m=sv s m:=by
 unfold oS
 by_cases h:m=0
 ·subst h;rw[yq,yq]
 ·rw[if_neg h]
theorem aZo(s1:Bool)(m1:Nat)(s2:Bool)(m2:Nat):sv (s1 != s2) (m1*m2)=sv s1 m1*sv s2 m2:=by
 cases s1<;>cases s2<;>simp[sv,Int.natCast_mul,Int.neg_mul,Int.mul_neg]
def dv(K:Nat)(s:Bool)(m:Nat)(e:Int):Int:=sv s m*2^(e+K).toNat
theorem ad6{K:Nat}{s:Bool}{e:Int}:dv K s 0 e=0:=by unfold dv;rw[yq,Int.zero_mul]
theorem bbC(K:Nat)(s:Bool)(m:Nat)(e:Int):dv K (oS s m) m e=dv K s m e:=by unfold dv;rw[aZn]
theorem aTr(K:Nat)(s:Bool)(m:Nat)(e:Int):dv K (s&&decide (m≠0)) m e=dv K s m e:=by unfold dv;rw[aN8]
theorem aMl{K:Nat}{s:Bool}{m:Nat}{e:Int}(he: -(K:Int)≤e):dv K s (oM m) (oE m e)=dv K s m e:=by
 by_cases h:m=0
 ·subst h;rw[Z1,ad6,ad6]
 ·unfold dv oE
  rw[if_neg h]
  have e1:(e+(tz m:Int)+K).toNat=tz m+(e+K).toNat:=by omega
  conv=>rhs;rw[←@aFn m]
  rw[e1,Int.pow_add,aFb,Int.natCast_pow,Int.mul_assoc];rfl
theorem aTq{K K':Nat}{s s':Bool}{m m':Nat}{e e':Int}(he: -(K:Int)≤e)(he': -(K':Int)≤e'):dv (K+K') (s != s') (m*m') (e+e')=dv K s m e*dv K' s' m' e':=by
 unfold dv
 have e1:(e+e'+((K+K':Nat):Int)).toNat=(e+K).toNat+(e'+K').toNat:=by omega
 rw[e1,Int.pow_add,aZo]
 simp only[Int.mul_assoc,Int.mul_left_comm]
/-! ### Sums-/
def suM(s1:Bool)(m1:Nat)(s2:Bool)(m2:Nat):Nat:=(sv s1 m1+sv s2 m2).natAbs
def suS(s1:Bool)(m1:Nat)(s2:Bool)(m2:Nat):Bool:=decide (sv s1 m1+sv s2 m2<0)
def sgS(s1:Bool)(m1:Nat)(s2:Bool)(m2:Nat):Bool:=if s1=s2 then s1 else if m2≤m1 then s1 else s2
theorem aeZ(s:Bool)(m1 m2:Nat):suM s m1 s m2=m1+m2:=by unfold suM sv;split<;>omega
theorem aFd{s1 s2:Bool}{m1 m2:Nat}(h:s1≠s2)(hm:m2≤m1):suM s1 m1 s2 m2=m1-m2:=by
 cases s1<;>cases s2<;>simp[suM,sv]at* <;>omega
theorem aFc{s1 s2:Bool}{m1 m2:Nat}(h:s1≠s2)(hm:¬m2≤m1):suM s1 m1 s2 m2=m2-m1:=by
 cases s1<;>cases s2<;>simp[suM,sv]at* <;>omega
theorem ae0(s:Bool)(m1 m2:Nat):sgS s m1 s m2=s:=by unfold sgS;rw[if_pos rfl]
theorem aFj{s1 s2:Bool}{m1 m2:Nat}(h:s1≠s2)(hm:m2≤m1):sgS s1 m1 s2 m2=s1:=by unfold sgS;rw[if_neg h,if_pos hm]
theorem aFi{s1 s2:Bool}{m1 m2:Nat}(h:s1≠s2)(hm:¬m2≤m1):sgS s1 m1 s2 m2=s2:=by unfold sgS;rw[if_neg h,if_neg hm]
theorem ao1(s1:Bool)(m1:Nat)(s2:Bool)(m2:Nat):(sgS s1 m1 s2 m2&&decide (suM s1 m1 s2 m2≠0))=suS s1 m1 s2 m2:=by
 rw[Bool.eq_iff_iff]
 simp only[Bool.and_eq_true,decide_eq_true_eq,suS]
 unfold sgS suM
 cases s1<;>cases s2<;>simp[sv]
 all_goals omega
theorem aN9(s1:Bool)(m1:Nat)(s2:Bool)(m2:Nat):suM s1 m1 s2 m2≤m1+m2:=by unfold suM sv;split<;>split<;>omega
theorem aTV{a b B:Nat}(ha:bl a≤B)(hb:bl b≤B):bl (a+b)≤B+1:=by
 have h1:=zy.1 ha
 have h2:=zy.1 hb
 refine zy.2 ?_
 rw[Nat.pow_succ];omega
theorem afw{s1:Bool}{m1:Nat}{s2:Bool}{m2 B:Nat}(h1:bl m1≤B)(h2:bl m2≤B):bl (suM s1 m1 s2 m2)≤B+1:=
 Nat.le_trans (yh (aN9 _ _ _ _)) (aTV h1 h2)
def alE(m1:Nat)(e1:Int)(m2:Nat)(e2:Int):Int:=if m2=0 then e1 else if m1=0 then e2 else if e2<e1 then e2 else e1
def alA(m:Nat)(e E:Int):Nat:=m*2^(e-E).toNat
def adM(s1:Bool)(m1:Nat)(e1:Int)(s2:Bool)(m2:Nat)(e2:Int):Nat:=suM s1 (alA m1 e1 (alE m1 e1 m2 e2)) s2 (alA m2 e2 (alE m1 e1 m2 e2))
def adS(s1:Bool)(m1:Nat)(e1:Int)(s2:Bool)(m2:Nat)(e2:Int):Bool:=suS s1 (alA m1 e1 (alE m1 e1 m2 e2)) s2 (alA m2 e2 (alE m1 e1 m2 e2))
theorem QI{K:Int}{m1:Nat}{e1:Int}{m2:Nat}{e2:Int}(h1:K≤e1)(h2:K≤e2):K≤alE m1 e1 m2 e2:=by
 unfold alE
 repeat' split
 all_goals omega
theorem aFQ{K:Int}{m1:Nat}{e1:Int}{m2:Nat}{e2:Int}(h1:e1≤K)(h2:e2≤K):alE m1 e1 m2 e2≤K:=by
 unfold alE
 repeat' split
 all_goals omega
theorem afz{K:Nat}{s:Bool}{m:Nat}{e E:Int}(hE: -(K:Int)≤E)(h:m≠0→E≤e):sv s (alA m e E)*2^(E+K).toNat=dv K s m e:=by
 by_cases h0:m=0
 ·subst h0;unfold alA;rw[Nat.zero_mul,yq,ad6,Int.zero_mul]
 ·have:=h h0
  unfold alA dv
  have e1:(e+K).toNat=(e-E).toNat+(E+K).toNat:=by omega
  rw[e1,Int.pow_add,aFb,Int.natCast_pow,Int.mul_assoc];rfl
theorem Zg{m B:Nat}{e E:Int}{C:Nat}(h:bl m≤B)(hk:e-E≤C):bl (alA m e E)≤B+C:=by
 have:=Xi m (e-E).toNat
 unfold alA;omega
theorem bbW{K:Nat}{s1:Bool}{m1:Nat}{e1:Int}{s2:Bool}{m2:Nat}{e2:Int}(h1: -(K:Int)≤e1)(h2: -(K:Int)≤e2):
  dv K (adS s1 m1 e1 s2 m2 e2) (adM s1 m1 e1 s2 m2 e2) (alE m1 e1 m2 e2)=dv K s1 m1 e1+dv K s2 m2 e2:=by
 have hE: -(K:Int)≤alE m1 e1 m2 e2:=QI h1 h2
 have g1:m1≠0→alE m1 e1 m2 e2≤e1:=fun h=>by
  unfold alE
  repeat' split
  all_goals omega
 have g2:m2≠0→alE m1 e1 m2 e2≤e2:=fun h=>by
  unfold alE
  repeat' split
  all_goals omega
 rw[←afz hE g1,←afz hE g2,←Int.add_mul]
 show sv (adS s1 m1 e1 s2 m2 e2) (adM s1 m1 e1 s2 m2 e2)*_=_
 unfold adS adM suS suM
 rw[aZp]
end Go.Ab
namespace Go.Ab
open Go Go.Proofs
theorem J8(a b:Nat)(h:b≤a)(la:(lim a).length≤1000000):Con Tryz.prog 253 false [.sl (lim (a)).length (qc (lim (a))),.sl (lim (b)).length (qc (lim (b)))] [] (aKA (lim (a-b))):=by
 have:=(aqR false (lim a) (lim b) (q9 a) (q9 b) la (ye h) (by rw[q8,q8];omega)).num
 rwa[aFZ]at this
theorem Y2(s1:Bool)(m1:Nat)(s2:Bool)(m2:Nat)(l1:(lim m1).length≤1000000)(l2:(lim m2).length≤1000000):
  Con Tryz.prog 200 false [.v (.bool s1),.sl (lim (m1)).length (qc (lim (m1))),.v (.bool s2),.sl (lim (m2)).length (qc (lim (m2)))] [] (isA (.tu [.v (.bool (sgS s1 m1 s2 m2)),.sl (lim (suM s1 m1 s2 m2)).length (qc (lim (suM s1 m1 s2 m2)))])):=by
 refine Con.frzA ?_
 have hge:(0≤zr (m1:Int) (m2:Int))↔m2≤m1:=by rw[aro.2.2];omega
 refine Con.of_aw Tryz.func200 rfl Tryz.ntmps200 (by simp) (by simp) (by simp) (W.sound ?_)
 show @W Tryz.prog 31 ⟨_⟩ ⟨fun x σ=>@qR _ _ _ ⟨_⟩ _ ⟨_⟩ x σ⟩ _ _
 simp(disch:=omega)only[go_sem]
 refine yU (fun h1=>?_) (fun h1=>?_)
 ·have h1':s1=s2:=by simpa using h1
  simp(disch:=omega)only[go_sem,h1]
  subst h1'
  refine qa (aay m1 m2 (by omega) (by omega)) ?_
  simp(disch:=omega)only[go_sem]
  refine qP (by simp(disch:=omega)only[go_sem]) ?_
  show qE _ 6 _=_
  rw[ae0,aeZ]
  simp(disch:=omega)only[go_sem]
 ·have h1':s1≠s2:=by simpa using h1
  simp(disch:=omega)only[go_sem,h1]
  refine qh (ja m1 m2 (by omega) (by omega)) ?_
  simp(disch:=omega)only[go_sem]
  refine qe (fun h2=>?_) (fun h2=>?_)
  ·have h2':m2≤m1:=hge.1 (by omega)
   simp(disch:=omega)only[go_sem,h2]
   refine qa (J8 m1 m2 h2' (by omega)) ?_
   simp(disch:=omega)only[go_sem]
   refine qP (by simp(disch:=omega)only[go_sem]) ?_
   show qE _ 6 _=_
   rw[aFj h1' h2',aFd h1' h2']
   simp(disch:=omega)only[go_sem]
  ·have h2':¬m2≤m1:=fun h=>h2 (by have:=hge.2 h;omega)
   simp(disch:=omega)only[go_sem,h2]
   refine qa (J8 m2 m1 (by omega) (by omega)) ?_
   simp(disch:=omega)only[go_sem]
   refine qP (by simp(disch:=omega)only[go_sem]) ?_
   show qE _ 6 _=_
   rw[aFi h1' h2',aFc h1' h2']
   simp(disch:=omega)only[go_sem]
theorem Jq(s1:Bool)(m1:Nat)(e1:Int)(s2:Bool)(m2:Nat)(e2:Int)(h1:bl m1≤4000000)(h2:bl m2≤4000000)(he1: -1000000≤e1∧e1≤1000000)(he2: -1000000≤e2∧e2≤1000000):
  Con Tryz.prog 199 false [.ag [.v (.bool (s1)),.sl (lim (m1)).length (qc (lim (m1))),.v (.int .i64 (e1))],.ag [.v (.bool (s2)),.sl (lim (m2)).length (qc (lim (m2))),.v (.int .i64 (e2))]] [] (isA (.tu [.sl (lim (alA m1 e1 (alE m1 e1 m2 e2))).length (qc (lim (alA m1 e1 (alE m1 e1 m2 e2)))),.sl (lim (alA m2 e2 (alE m1 e1 m2 e2))).length (qc (lim (alA m2 e2 (alE m1 e1 m2 e2)))),.v (.int .i64 (alE m1 e1 m2 e2))])):=by
 refine Con.frzA ?_
 have l1:=qB h1
 have l2:=qB h2
 have hE:=QI (m1:=m1) (m2:=m2) he1.1 he2.1
 have hE2:=aFQ (m1:=m1) (m2:=m2) he1.2 he2.2
 have x1:∀d:Int,(if 0>d then 0 else d)=((d.toNat:Nat):Int):=fun d=>by split<;>omega
 refine Con.of_aw Tryz.func199 rfl Tryz.ntmps199 (by simp) (by simp) (by simp) (W.sound ?_)
 show @W Tryz.prog 42 ⟨_⟩ ⟨fun x σ=>@qR _ _ _ ⟨_⟩ _ ⟨_⟩ x σ⟩ _ _
 simp(disch:=omega)only[go_sem]
 refine qe (fun c1=>?_) (fun c1=>?_)
 ·have z1:m1=0:=qI.1 (List.length_eq_zero_iff.1 (by omega))
  simp(disch:=omega)only[go_sem,c1]
  refine qe (fun c2=>?_) (fun c2=>?_)
  ·have z2:m2=0:=qI.1 (List.length_eq_zero_iff.1 (by omega))
   have eE:alE m1 e1 m2 e2=e1:=by unfold alE;rw[if_pos z2]
   simp(disch:=omega)only[go_sem,c2]
   refine qp rfl [⟨0,[],[]⟩,⟨1,[],[]⟩,⟨2,[1],[]⟩,⟨3,[1],[]⟩,⟨4,[1,3],[]⟩,⟨5,[1],[]⟩,⟨6,[1],[]⟩,⟨8,[1,3],[]⟩,⟨9,[1,3],[]⟩,⟨10,[1,3,9],[]⟩,⟨11,[1,3,9],[]⟩,⟨12,[1,3,9,11],[]⟩,⟨13,[1,3,9],[]⟩,⟨14,[1,3,9],[]⟩,⟨16,[1,3,9,11],[]⟩,⟨7,[9,11],[]⟩,⟨15,[],[]⟩,⟨17,[],[]⟩,⟨18,[],[]⟩,⟨19,[],[]⟩] (by kernel_rfl) ?_
   simp(disch:=omega)only[go_sem,x1]
   refine qa (zV m1 (e1-e1).toNat (by omega) (by omega)) ?_ (by simp(disch:=omega)only[go_sem,x1])
   simp(disch:=omega)only[go_sem]
   refine qa (zV m2 (e2-e1).toNat (by omega) (by omega)) ?_ (by simp(disch:=omega)only[go_sem,x1])
   simp(disch:=omega)only[go_sem]
   refine qP (by simp(disch:=omega)only[go_sem]) ?_
   show qE _ 6 _=_
   rw[eE];unfold alA
   simp(disch:=omega)only[go_sem]
  ·have z2:m2≠0:=fun e=>c2 (by rw[e,qo];rfl)
   have eE:alE m1 e1 m2 e2=e2:=by unfold alE;rw[if_neg z2,if_pos z1]
   simp(disch:=omega)only[go_sem,c2]
   refine qp rfl [⟨0,[],[]⟩,⟨1,[],[]⟩,⟨2,[1],[]⟩,⟨3,[1],[]⟩,⟨4,[1,3],[]⟩,⟨5,[1],[]⟩,⟨6,[1],[]⟩,⟨8,[1,3],[]⟩,⟨9,[1,3],[]⟩,⟨10,[1,3,9],[]⟩,⟨11,[1,3,9],[]⟩,⟨12,[1,3,9,11],[]⟩,⟨13,[1,3,9],[]⟩,⟨14,[1,3,9],[]⟩,⟨16,[1,3,9,11],[]⟩,⟨7,[9,11],[]⟩,⟨15,[],[]⟩,⟨17,[],[]⟩,⟨18,[],[]⟩,⟨19,[],[]⟩] (by kernel_rfl) ?_
   simp(disch:=omega)only[go_sem,x1]
   refine qa (zV m1 (e1-e2).toNat (by omega) (by omega)) ?_ (by simp(disch:=omega)only[go_sem,x1])
   simp(disch:=omega)only[go_sem]
   refine qa (zV m2 (e2-e2).toNat (by omega) (by omega)) ?_ (by simp(disch:=omega)only[go_sem,x1])
   simp(disch:=omega)only[go_sem]
   refine qP (by simp(disch:=omega)only[go_sem]) ?_
   show qE _ 6 _=_
   rw[eE];unfold alA
   simp(disch:=omega)only[go_sem]
 ·have z1:m1≠0:=fun e=>c1 (by rw[e,qo];rfl)
  simp(disch:=omega)only[go_sem,c1]
  refine qe (fun c2=>?_) (fun c2=>?_)
  ·have z2:m2=0:=qI.1 (List.length_eq_zero_iff.1 (by omega))
   have eE:alE m1 e1 m2 e2=e1:=by unfold alE;rw[if_pos z2]
   simp(disch:=omega)only[go_sem,c2]
   refine qp rfl [⟨0,[],[]⟩,⟨1,[],[]⟩,⟨2,[1],[]⟩,⟨3,[1],[]⟩,⟨4,[1,3],[]⟩,⟨5,[1],[]⟩,⟨6,[1],[]⟩,⟨8,[1,3],[]⟩,⟨9,[1,3],[]⟩,⟨10,[1,3,9],[]⟩,⟨11,[1,3,9],[]⟩,⟨12,[1,3,9,11],[]⟩,⟨13,[1,3,9],[]⟩,⟨14,[1,3,9],[]⟩,⟨16,[1,3,9,11],[]⟩,⟨7,[9,11],[]⟩,⟨15,[],[]⟩,⟨17,[],[]⟩,⟨18,[],[]⟩,⟨19,[],[]⟩] (by kernel_rfl) ?_
   simp(disch:=omega)only[go_sem,x1]
   refine qa (zV m1 (e1-e1).toNat (by omega) (by omega)) ?_ (by simp(disch:=omega)only[go_sem,x1])
   simp(disch:=omega)only[go_sem]
   refine qa (zV m2 (e2-e1).toNat (by omega) (by omega)) ?_ (by simp(disch:=omega)only[go_sem,x1])
   simp(disch:=omega)only[go_sem]
   refine qP (by simp(disch:=omega)only[go_sem]) ?_
   show qE _ 6 _=_
   rw[eE];unfold alA
   simp(disch:=omega)only[go_sem]
  ·have z2:m2≠0:=fun e=>c2 (by rw[e,qo];rfl)
   have eE:(if e2<e1 then e2 else e1)=alE m1 e1 m2 e2:=by unfold alE;rw[if_neg z2,if_neg z1]
   simp(disch:=omega)only[go_sem,c2,eE]
   refine qp rfl [⟨0,[],[]⟩,⟨1,[],[]⟩,⟨2,[1],[]⟩,⟨3,[1],[]⟩,⟨4,[1,3],[]⟩,⟨5,[1],[]⟩,⟨6,[1],[]⟩,⟨8,[1,3],[]⟩,⟨9,[1,3],[]⟩,⟨10,[1,3,9],[]⟩,⟨11,[1,3,9],[]⟩,⟨12,[1,3,9,11],[]⟩,⟨13,[1,3,9],[]⟩,⟨14,[1,3,9],[]⟩,⟨16,[1,3,9,11],[]⟩,⟨7,[9,11],[]⟩,⟨15,[],[]⟩,⟨17,[],[]⟩,⟨18,[],[]⟩,⟨19,[],[]⟩] (by kernel_rfl) ?_
   simp(disch:=omega)only[go_sem,x1,eE]
   refine qa (zV m1 (e1-alE m1 e1 m2 e2).toNat (by omega) (by omega)) ?_ (by simp(disch:=omega)only[go_sem,x1,eE])
   simp(disch:=omega)only[go_sem]
   refine qa (zV m2 (e2-alE m1 e1 m2 e2).toNat (by omega) (by omega)) ?_ (by simp(disch:=omega)only[go_sem,x1,eE])
   simp(disch:=omega)only[go_sem]
   refine qP (by simp(disch:=omega)only[go_sem]) ?_
   show qE _ 6 _=_
   unfold alA
   simp(disch:=omega)only[go_sem]
theorem aqL(s1:Bool)(m1:Nat)(e1:Int)(s2:Bool)(m2:Nat)(e2:Int)(h1:bl m1≤4000000)(h2:bl m2≤4000000)(he1: -1000000≤e1∧e1≤1000000)(he2: -1000000≤e2∧e2≤1000000):
  Con Tryz.prog 119 false [.ag [.v (.bool (s1)),.sl (lim (m1)).length (qc (lim (m1))),.v (.int .i64 (e1))],.ag [.v (.bool (s2)),.sl (lim (m2)).length (qc (lim (m2))),.v (.int .i64 (e2))]] [] (isA (.ag [.v (.bool (adS s1 m1 e1 s2 m2 e2)),.sl (lim (adM s1 m1 e1 s2 m2 e2)).length (qc (lim (adM s1 m1 e1 s2 m2 e2))),.v (.int .i64 (alE m1 e1 m2 e2))])):=by
 refine Con.frzA ?_
 have hE:=QI (m1:=m1) (m2:=m2) he1.1 he2.1
 have b1:=Zg (e:=e1) (E:=alE m1 e1 m2 e2) (C:=2000000) h1 (by omega)
 have b2:=Zg (e:=e2) (E:=alE m1 e1 m2 e2) (C:=2000000) h2 (by omega)
 have l1:=qB b1
 have l2:=qB b2
 refine Con.of_w (rs:=[.cell 4 118]) Tryz.func119 rfl Tryz.ntmps119 rfl ?_
 simp(disch:=omega)only[go_sem]
 refine qa (Jq s1 m1 e1 s2 m2 e2 h1 h2 he1 he2) ?_
 simp(disch:=omega)only[go_sem]
 unfold adS adM
 generalize alA m1 e1 (alE m1 e1 m2 e2)=A at*
 generalize alA m2 e2 (alE m1 e1 m2 e2)=B at*
 generalize alE m1 e1 m2 e2=E at*
 refine qa (Y2 s1 A s2 B (by omega) (by omega)) ?_
 simp(disch:=omega)only[go_sem]
 have hb:=afw (s1:=s1) (s2:=s2) b1 b2
 have hl:(lim (suM s1 A s2 B)).length≤2000000:=by have:=qB hb;omega
 have hq:decide ((0:Int)<((lim (suM s1 A s2 B)).length:Int))=decide (suM s1 A s2 B≠0):=by
  rw[decide_eq_decide]
  exact⟨fun h e=>by rw[e,qo]at h;simp at h,fun h=>by have:=Qu h;omega⟩
 rw[←ao1]
 refine yU (fun h3=>?_) (fun h3=>?_)
 ·simp(disch:=omega)only[go_sem,h3,hq]
  exact ql (hp:=by simp(disch:=omega)only[go_sem,h3,Bool.true_and])
 ·simp(disch:=omega)only[go_sem,h3]
  exact ql (hp:=by simp(disch:=omega)only[go_sem,h3,Bool.false_and])
end Go.Ab
namespace Go.Ab
open Go Go.Proofs
def JJ(b:Bool):AV→List Ob→List Ob→Prop:=fun r hs bs=>r=.v (.bool b)∧hs=[]
theorem ajY(x:Int):Con Tryz.prog 270 true [.v (.int .i64 x)] [] (JJ (decide (0≤x)&&decide (x≤65535))):=by
 refine Con.of_aw Tryz.func270 rfl Tryz.ntmps270 (by simp) (by simp) (by simp) (W.sound ?_)
 show @W Tryz.prog 5 ⟨_⟩ ⟨fun x σ=>@qR _ _ _ ⟨_⟩ _ ⟨_⟩ x σ⟩ _ _
 simp(disch:=omega)only[go_sem]
 refine qz (J4 x 0 65535) (by simp(disch:=omega)only[go_sem]) ?_
 rintro r hs ⟨rfl,rfl⟩
 refine⟨by simp[qO],?_⟩
 simp(disch:=omega)only[go_sem]
 refine qg [] [] [] [.v (.bool (decide (0≤x)&&decide (x≤65535)))] rfl (by simp(disch:=omega)only[go_sem]) (by simp(disch:=omega)only[go_sem]) (by simp) (by simp[AV.pu,zg]) ⟨rfl,rfl⟩
theorem aev(g:Nat)(p:Int→Bool)(x:Int)(hf:Con Tryz.prog g true [.v (.int .i64 x)] [] (JJ (p x)))(hg:qq Tryz.prog g):
  Con Tryz.prog 285 true [.v (.int .i64 x),.fp [.fn g []] 0] [] (JJ (!p x)):=by
 refine Con.of_aw Tryz.func285 rfl Tryz.ntmps285 (by simp) (by simp) (by simp) (W.sound ?_)
 show @W Tryz.prog 8 ⟨_⟩ ⟨fun x σ=>@qR _ _ _ ⟨_⟩ _ ⟨_⟩ x σ⟩ _ _
 simp(disch:=omega)only[go_sem]
 refine⟨hg,qz hf (by simp(disch:=omega)only[go_sem]) ?_⟩
 rintro r hs ⟨rfl,rfl⟩
 refine⟨by simp[qO],?_⟩
 simp(disch:=omega)only[go_sem]
 refine qg [] [] [] [.v (.bool (!p x))] rfl (by simp(disch:=omega)only[go_sem]) (by simp(disch:=omega)only[go_sem]) (by simp) (by simp[AV.pu,zg]) ⟨rfl,rfl⟩
theorem aj9(f:Nat)(caps:List AV)(p:Int→Bool)(xs:List Int)(hl:xs.length≤2^40)(hf:∀x,Con Tryz.prog f true (.v (.int .i64 x)::caps) [] (JJ (p x)))(hg:qq Tryz.prog f)
  (hc:∀h:Nat→Ob,caps.map (qE h 6)=caps) (hc5:∀h:Nat→Ob,caps.map (qE h 5)=caps) (hn:∀ks,AllL (yj ks) caps) (hr:∀ρ,zK ρ caps=caps):
  Con Tryz.prog 296 true [.sl xs.length (qc xs),.fn f caps] [] (fun r hs bs=>∃i:Int,r=.v (.int .i64 i)∧hs=[]∧(0≤i↔∃x∈xs,p x=true)):=by
 refine Con.of_aw Tryz.func296 rfl Tryz.ntmps296 (by simp) (by simp) (by simp) (W.sound ?_)
 show @W Tryz.prog 19 ⟨_⟩ ⟨fun x σ=>@qR _ _ _ ⟨_⟩ _ ⟨_⟩ x σ⟩ _ _
 simp(disch:=omega)only[go_sem]
 refine qj (fun i:Nat=>[(0,.sl xs.length (qc xs)),(1,.fn f caps),(6,.sl xs.length (qc xs)),(7,.v (.int .i64 xs.length)),(8,.v (.int .i64 i))])
  (fun _=>[]) (fun i=>i≤xs.length∧∀j,j<i→p (xs.getD j 0)=false) (fun i=>xs.length-i) 0 ⟨by omega,fun j hj=>by omega⟩ (Le.lst [] _ _ rfl (by simp(disch:=omega)only[go_sem,hr,hn]) (by simp(disch:=omega)only[go_sem])) ?_
 rintro i ⟨hi,hp⟩
 simp(disch:=omega)only[go_sem]
 refine qe (fun h1=>?_) (fun h1=>?_)
 ·simp(disch:=omega)only[go_sem,h1]
  refine⟨by omega,by omega,hg,qz (hf (xs.getD i 0)) (by simp(disch:=omega)only[go_sem,hc,hc5]) ?_⟩
  rintro r hs ⟨rfl,rfl⟩
  refine⟨by simp[qO],?_⟩
  simp(disch:=omega)only[go_sem]
  refine yU (fun h2=>?_) (fun h2=>?_)
  ·simp(disch:=omega)only[go_sem,h2]
   refine qg [] [] [] [.v (.int .i64 i)] rfl (by simp(disch:=omega)only[go_sem]) (by simp(disch:=omega)only[go_sem]) (by simp) (by simp[AV.pu,zg]) ⟨i,rfl,rfl,?_⟩
   refine⟨fun _=>⟨xs.getD i 0,?_,h2⟩,fun _=>by omega⟩
   rw[List.getD_eq_getElem?_getD,List.getElem?_eq_getElem (by omega)];exact List.getElem_mem _
  ·simp(disch:=omega)only[go_sem,h2]
   refine qb (i+1) [] ⟨by omega,fun j hj=>?_⟩ (by show xs.length-(i+1)<xs.length-i;omega) rfl (by simp(disch:=omega)only[go_sem,hr,hn];try omega) (by simp(disch:=omega)only[go_sem])
   rcases(by omega:j<i∨j=i)with h|h
   ·exact hp j h
   ·subst h;exact h2
 ·simp(disch:=omega)only[go_sem,h1]
  refine qg [] [] [] [.v (.int .i64 (-1))] rfl (by simp(disch:=omega)only[go_sem]) (by simp(disch:=omega)only[go_sem]) (by simp) (by simp[AV.pu,zg]) ⟨-1,rfl,rfl,?_⟩
  refine⟨fun h=>by omega,fun⟨x,hx,hpx⟩=>?_⟩
  obtain⟨j,hj,rfl⟩:=List.getElem_of_mem hx
  have:=hp j (by omega)
  rw[List.getD_eq_getElem?_getD,List.getElem?_eq_getElem hj]at this
  simp only[Option.getD_some]at this
  rw[this]at hpx;cases hpx
theorem Xc(f:Nat)(caps:List AV)(p:Int→Bool)(xs:List Int)(hl:xs.length≤2^40)(hf:∀x,Con Tryz.prog f true (.v (.int .i64 x)::caps) [] (JJ (p x)))(hg:qq Tryz.prog f)
  (hc:∀h:Nat→Ob,caps.map (qE h 6)=caps) (hc5:∀h:Nat→Ob,caps.map (qE h 5)=caps) (hn:∀ks,AllL (yj ks) caps) (hr:∀ρ,zK ρ caps=caps):
  Con Tryz.prog 284 true [.sl xs.length (qc xs),.fn f caps] [] (JJ (xs.any p)):=by
 refine Con.of_aw Tryz.func284 rfl Tryz.ntmps284 (by simp) (by simp) (by simp) (W.sound ?_)
 show @W Tryz.prog 9 ⟨_⟩ ⟨fun x σ=>@qR _ _ _ ⟨_⟩ _ ⟨_⟩ x σ⟩ _ _
 simp(disch:=omega)only[go_sem]
 refine qz (aj9 f caps p xs hl hf hg hc hc5 hn hr) (by simp(disch:=omega)only[go_sem,hc,hc5]) ?_
 rintro r hs ⟨i,rfl,rfl,hi⟩
 refine⟨by simp[qO],?_⟩
 simp(disch:=omega)only[go_sem]
 refine qg [] [] [] [.v (.bool (decide (0≤i)))] rfl (by simp(disch:=omega)only[go_sem]) (by simp(disch:=omega)only[go_sem]) (by simp) (by simp[AV.pu,zg]) ⟨?_,rfl⟩
 have:decide (0≤i)=xs.any p:=by rw[Bool.eq_iff_iff,decide_eq_true_eq,hi,List.any_eq_true]
 rw[this];rfl
theorem akf(g:Nat)(p:Int→Bool)(xs:List Int)(hl:xs.length≤2^40)(hf:∀x,Con Tryz.prog g true [.v (.int .i64 x)] [] (JJ (p x)))(hg:qq Tryz.prog g):
  Con Tryz.prog 269 true [.sl xs.length (qc xs),.fn g []] [] (JJ (xs.all p)):=by
 refine Con.of_aw Tryz.func269 rfl Tryz.ntmps269 (by simp) (by simp) (by simp) (W.sound ?_)
 show @W Tryz.prog 9 ⟨_⟩ ⟨fun x σ=>@qR _ _ _ ⟨_⟩ _ ⟨_⟩ x σ⟩ _ _
 simp(disch:=omega)only[go_sem]
 refine qz (Xc 285 [.fp [.fn g []] 0] (fun x=> !p x) xs hl (fun x=>aev g p x (hf x) hg) (by simp(disch:=omega)only[go_sem]) (fun h=>rfl) (fun h=>rfl) (fun ks=>by simp(disch:=omega)only[go_sem]) (fun ρ=>rfl)) (by simp(disch:=omega)only[go_sem]) ?_
 rintro r hs ⟨rfl,rfl⟩
 refine⟨by simp[qO],?_⟩
 simp(disch:=omega)only[go_sem]
 refine qg [] [] [] [.v (.bool (!xs.any fun x=> !p x))] rfl (by simp(disch:=omega)only[go_sem]) (by simp(disch:=omega)only[go_sem]) (by simp) (by simp[AV.pu,zg]) ⟨?_,rfl⟩
 have:(!xs.any fun x=> !p x)=xs.all p:=by rw[List.all_eq_not_any_not]
 rw[this];rfl
end Go.Ab
namespace Go.Ab
open Go Go.Proofs
theorem aqP(xs:List Int)(hl:xs.length≤2^40):Con Tryz.prog 233 true [.ag [.sl xs.length (qc xs)]] [] (JJ (YE xs)):=by
 refine Con.of_aw Tryz.func233 rfl Tryz.ntmps233 (by simp) (by simp) (by simp) (W.sound ?_)
 show @W Tryz.prog 29 ⟨_⟩ ⟨fun x σ=>@qR _ _ _ ⟨_⟩ _ ⟨_⟩ x σ⟩ _ _
 have en:((xs.length:Int)-1).toNat=xs.length-1:=by omega
 simp(disch:=omega)only[go_sem]
 refine qe (fun h1=>?_) (fun h1=>?_)
 ·simp(disch:=omega)only[go_sem,h1]
  refine qz (akf 270 (fun x=>decide (0≤x)&&decide (x≤65535)) xs hl ajY (by simp(disch:=omega)only[go_sem])) (by simp(disch:=omega)only[go_sem]) ?_
  rintro r hs ⟨rfl,rfl⟩
  refine⟨by simp[qO],?_⟩
  simp(disch:=omega)only[go_sem]
  refine yU (fun h2=>?_) (fun h2=>?_)
  ·simp(disch:=omega)only[go_sem,h2]
   refine zG (fun h3=>?_) (fun h3=>?_)
   ·simp(disch:=omega)only[go_sem,h3,en]
    refine⟨by omega,by omega,?_⟩
    refine qx (by simp(disch:=omega)only[go_sem]) (by simp(disch:=omega)only[go_sem]) ⟨?_,rfl⟩
    have e1:decide (xs.length≤100)=true:=by simp;omega
    have e2:decide (xs.length=0)=false:=by simp;intro h;subst h;simp at h3
    show AV.v (.bool _)=AV.v (.bool _)
    unfold YE
    rw[e1,h2,e2]
    simp
   ·simp(disch:=omega)only[go_sem,h3]
    refine qx (by simp(disch:=omega)only[go_sem]) (by simp(disch:=omega)only[go_sem]) ⟨?_,rfl⟩
    have e1:decide (xs.length≤100)=true:=by simp;omega
    have e2:decide (xs.length=0)=true:=by simp;exact List.length_eq_zero_iff.1 (by omega)
    show AV.v (.bool _)=AV.v (.bool _)
    unfold YE
    rw[e1,h2,e2]
    simp
  ·simp(disch:=omega)only[go_sem,h2]
   refine qx (by simp(disch:=omega)only[go_sem]) (by simp(disch:=omega)only[go_sem]) ⟨?_,rfl⟩
   show AV.v (.bool _)=AV.v (.bool _)
   unfold YE
   rw[h2];simp
 ·simp(disch:=omega)only[go_sem,h1]
  exact qx (by simp(disch:=omega)only[go_sem]) (by simp(disch:=omega)only[go_sem]) ⟨by simp[YE,zg];omega,rfl⟩
end Go.Ab
namespace Go.Ab
open Go Go.Proofs
theorem Con.boolI{P:Program}{f:FuncId}{args:List AV}{b:Bool}(h:Con P f true args [] (JJ b)):Con P f true args [] (isA (.v (.bool b))):=
 (Con.len h).mono fun r hs bs ⟨⟨h1,h2⟩,h3⟩=>⟨h1,h2,h3⟩
theorem zn(n lo hi:Int):Con Tryz.prog 91 true [.v (.int .i64 n),.v (.int .i64 lo),.v (.int .i64 hi)] [] (isA (.v (.bool (decide (lo≤n)&&decide (n≤hi))))):=
 Con.boolI (J4 n lo hi)
theorem ajX(xs:List Int)(hl:xs.length≤2^40):Con Tryz.prog 233 true [.ag [.sl xs.length (qc xs)]] [] (isA (.v (.bool (YE xs)))):=Con.boolI (aqP xs hl)
theorem aea(s:Bool)(xs:List Int)(hl:xs.length≤2^40):Con Tryz.prog 174 true [.ag [.v (.bool s),.sl xs.length (qc xs)]] [] (isA (.v (.bool (zO s xs)))):=by
 refine Con.of_aw Tryz.func174 rfl Tryz.ntmps174 (by simp) (by simp) (by simp) (W.sound ?_)
 show @W Tryz.prog 18 ⟨_⟩ ⟨fun x σ=>@qR _ _ _ ⟨_⟩ _ ⟨_⟩ x σ⟩ _ _
 simp(disch:=omega)only[go_sem]
 refine qh (ajX xs hl) ?_
 simp(disch:=omega)only[go_sem]
 repeat' first
  |simp(disch:=omega)only[go_sem, *]
  |(with_reducible refine qe (fun _=>?_) (fun _=>?_))
  |(with_reducible refine zG (fun _=>?_) (fun _=>?_))
  |(with_reducible refine afi (fun _=>?_) (fun _=>?_))
  |(with_reducible refine yU (fun _=>?_) (fun _=>?_))
 all_goals exact qx (by simp(disch:=omega)only[go_sem]) (by simp(disch:=omega)only[go_sem]) ⟨by simp_all[zg,zO]<;>omega,rfl,rfl⟩
def ovB(s:Bool)(mode:Int):Bool:=decide (mode=1)||((decide (mode=2)&&s)||(decide (mode=3)&& !s))
def flB(k:Int)(s:Bool)(m e:Int):Bool:=
 if k=1 then(decide (-1074≤e)&&decide (e≤971))&&((decide (4503599627370496≤m)&&decide (m≤9007199254740991))||((decide (1≤m)&&decide (m≤4503599627370495))&&decide (e= -1074)))
 else if k=0∨k=2 then decide (m=0)&&decide (e=0)else((decide (k=3)&&decide (m=0))&&decide (e=0))&& !s
end Go.Ab
namespace Go.Ab
open Go Go.Proofs
def Ja(top:Int):Int:=if-1074>top-53 then-1074 else top-53
def flE(rm:Nat)(re:Int):Int:=Ja ((bl rm:Int)+re)
def flM(rm:Nat)(re:Int):Nat:=oM rm*2^(oE rm re-flE rm re).toNat
def aMa(top:Int)(same:Bool):Int:=if same then 0 else if top≤ -1022 then 5 else 1
def flK(s:Bool)(mode:Int)(rm:Nat)(re:Int):Int:=if rm=0 then 0 else if 1024<(bl rm:Int)+re then(if ovB s mode then 1 else 2)else 1
def bbz(s:Bool)(mode:Int)(rm:Nat)(re:Int):Int:=if rm=0 then 0 else if 1024<(bl rm:Int)+re then(if ovB s mode then 9007199254740991 else 0)else(flM rm re:Int)
def bbA(s:Bool)(mode:Int)(rm:Nat)(re:Int):Int:=if rm=0 then 0 else if 1024<(bl rm:Int)+re then(if ovB s mode then 971 else 0)else flE rm re
def bcd(top:Int)(same:Bool)(rm:Nat)(re:Int):Int:=if rm≠0∧1024<(bl rm:Int)+re then 3 else aMa top same
end Go.Ab
namespace Go.Ab
open Go
def qm{X:Type}(f:X→List AV)(l:List X):List AV:=(l.map f).flatten
section
variable {X:Type}{f:X→List AV}{z:Nat}{l:List X}
theorem yt:qm f []=[]:=by simp[qm]
theorem zl{x:X}:qm f (x::l)=f x++qm f l:=by simp[qm]
theorem y8(hz:∀x,(f x).length=z):(qm f l).length=l.length*z:=by
 induction l with
 |nil=>simp[qm]
 |cons x r ih=>rw[zl,List.length_append,hz,ih,List.length_cons,Nat.add_mul,Nat.one_mul,Nat.add_comm]
theorem aBB(hz:∀x,(f x).length=z)(i:Nat):(qm f l).drop (i*z)=qm f (l.drop i):=by
 induction l generalizing i with
 |nil=>simp[qm]
 |cons x r ih=>
  cases i with
  |zero=>simp
  |succ i=>
   rw[zl,List.drop_succ_cons,←ih,Nat.add_mul,Nat.one_mul,Nat.add_comm,←List.drop_drop,List.drop_left' (hz x)]
theorem aBz(hz:∀x,(f x).length=z)(i:Nat):(qm f l).take (i*z)=qm f (l.take i):=by
 induction l generalizing i with
 |nil=>simp[qm]
 |cons x r ih=>
  cases i with
  |zero=>simp[yt]
  |succ i=>
   rw[zl,List.take_succ_cons,zl,←ih,Nat.add_mul,Nat.one_mul,Nat.add_comm,←hz x,List.take_length_add_append]
theorem ao9(hz:∀x,(f x).length=z)(o n:Nat):cut (qm f l) (o*z) (n*z)=qm f ((l.drop o).take n):=by
 rw[cut,aBB hz,aBz hz]
theorem ZT(hz:∀x,(f x).length=z){i:Nat}(hi:i<l.length)(d:X):cut (qm f l) (i*z) z=f (l.getD i d):=by
 have h:=ao9 (l:=l) hz i 1
 rw[Nat.one_mul]at h
 have e:(l.drop i).take 1=[l.getD i d]:=by
  rw[List.drop_eq_getElem_cons hi,List.getD_eq_getElem?_getD,List.getElem?_eq_getElem hi];rfl
 rw[h,e,zl,yt,List.append_nil]
theorem ZS{ρ:Nat→Nat}(h:∀x,zK ρ (f x)=f x):zK ρ (qm f l)=qm f l:=by
 induction l with
 |nil=>rfl
 |cons x r ih=>
  rw[zl]
  have:∀a b:List AV,zK ρ (a++b)=zK ρ a++zK ρ b:=fun a b=>by simp[qT]
  rw[this,h,ih]
theorem Qo{hp:Nat→Ob}{k:Nat}(h:∀x,(f x).map (qE hp k)=f x):(qm f l).map (qE hp k)=qm f l:=by
 induction l with
 |nil=>rfl
 |cons x r ih=>rw[zl,List.map_append,h,ih]
theorem ZU{p:Nat→Prop}(h:∀x,AllL p (f x)):AllL p (qm f l):=by
 induction l with
 |nil=>simp[qm,AllL]
 |cons x r ih=>rw[zl];exact AllL.append (h x) ih
theorem aCj{h:Nat→Ob}{sz o:Nat}{K:AV→Prop}:@y9 true sz h (.fp (qm f l) o) ⟨K⟩=(o+sz≤(qm f l).length∧K (.ag (cut (qm f l) o sz))):=ID rfl
theorem QQ{l':List X}:qm f l++qm f l'=qm f (l++l'):=by simp[qm]
end
structure FlV where
 k:Int
 s:Bool
 m:Int
 e:Int
def FlV.cs(x:FlV):List AV:=[.v (.int .i64 x.k),.v (.bool x.s),.v (.int .i64 x.m),.v (.int .i64 x.e)]
theorem aTf(x:FlV):x.cs.length=4:=rfl
theorem aFz{ρ:Nat→Nat}(x:FlV):zK ρ x.cs=x.cs:=rfl
theorem aqk{hp:Nat→Ob}{k:Nat}(x:FlV):x.cs.map (qE hp (k+1))=x.cs:=rfl
theorem aFA{p:Nat→Prop}(x:FlV):AllL p x.cs:=by simp[FlV.cs,AllL,AV.All]
theorem aLM{l:List FlV}:(qm FlV.cs l).length=l.length*4:=y8 aTf
theorem aLL{ρ:Nat→Nat}{l:List FlV}:zK ρ (qm FlV.cs l)=qm FlV.cs l:=ZS aFz
theorem aCK{hp:Nat→Ob}{k:Nat}{l:List FlV}:(qm FlV.cs l).map (qE hp (k+1))=qm FlV.cs l:=Qo aqk
theorem aLN{p:Nat→Prop}{l:List FlV}:AllL p (qm FlV.cs l)=True:=eq_true (ZU aFA)
theorem aCL{p:Nat→Prop}{x:FlV}:AllL p x.cs=True:=eq_true (aFA x)
attribute [go_sem] aCj aLM aLL aCK aLN aCL aFz aqk
end Go.Ab
namespace Go.Ab
open Go Go.Proofs
section
variable (g:Nat)(p:FlV→Bool)
end
def bfl(x:FlV):Bool:=flB x.k x.s x.m x.e
end Go.Ab
namespace Go.Ab
open Go Go.Proofs
def flV(s:Bool)(m:Nat)(e mode:Int)(z:Bool):FlV:=
 if m=0 then⟨0,z,0,0⟩else
  ⟨flK s mode (roM s m e (Ja (bl m+e)) mode) (roE m e (Ja (bl m+e))),s,bbz s mode (roM s m e (Ja (bl m+e)) mode) (roE m e (Ja (bl m+e))),bbA s mode (roM s m e (Ja (bl m+e)) mode) (roE m e (Ja (bl m+e)))⟩
def flG(s:Bool)(m:Nat)(e mode:Int):Int:=
 if m=0 then 0 else bcd (bl m+e) (roX m e (Ja (bl m+e))) (roM s m e (Ja (bl m+e)) mode) (roE m e (Ja (bl m+e)))
theorem ajS(s1:Bool)(m1:Nat)(e1:Int)(s2:Bool)(m2:Nat)(e2:Int)(h1:bl m1≤4000000)(h2:bl m2≤4000000)(he1: -2^40≤e1∧e1≤2^40)(he2: -2^40≤e2∧e2≤2^40):
  Con Tryz.prog 120 false [.ag [.v (.bool (s1)),.sl (lim (m1)).length (qc (lim (m1))),.v (.int .i64 (e1))],.ag [.v (.bool (s2)),.sl (lim (m2)).length (qc (lim (m2))),.v (.int .i64 (e2))]] [] (isA (.ag [.v (.bool ((s1 != s2)&&decide (m1*m2≠0))),.sl (lim (m1*m2)).length (qc (lim (m1*m2))),.v (.int .i64 (e1+e2))])):=by
 refine Con.frzA ?_
 refine Con.of_w (rs:=[.cell 4 118]) Tryz.func120 rfl Tryz.ntmps120 rfl ?_
 simp(disch:=omega)only[go_sem]
 have l1:=qB h1
 have l2:=qB h2
 refine qa (J5 m1 m2 (by omega) (by omega)) ?_
 simp(disch:=omega)only[go_sem]
 have hl:(lim (m1*m2)).length≤2000000:=by have:=qB (Nat.le_trans (Xj m1 m2) (Nat.add_le_add h1 h2));omega
 have hq:decide ((0:Int)<((lim (m1*m2)).length:Int))=decide (m1*m2≠0):=by
  rw[decide_eq_decide]
  exact⟨fun h e=>by rw[e,qo]at h;simp at h,fun h=>by have:=Qu h;omega⟩
 refine yU (fun h3=>?_) (fun h3=>?_)
 ·simp(disch:=omega)only[go_sem,h3,hq]
  exact ql (hp:=by simp(disch:=omega)only[go_sem,h3,Bool.true_and])
 ·simp(disch:=omega)only[go_sem,h3]
  exact ql (hp:=by simp(disch:=omega)only[go_sem,h3,Bool.false_and])
end Go.Ab
namespace Go.Ab
open Go Go.Proofs
theorem ad9(n lo hi:Int):Con Tryz.prog 91 true [.v (.int .i64 n),.v (.int .i64 lo),.v (.int .i64 hi)] [] (isA (.v (.bool (decide (lo≤n)&&decide (n≤hi))))):=zn n lo hi
theorem aDD(s:Bool)(xs:List Int)(e:Int)(hl:xs.length≤2^40):Con Tryz.prog 92 true [.ag [.v (.bool s),.sl xs.length (qc xs),.v (.int .i64 e)]] [] (isA (.v (.bool (dyB s xs e)))):=by
 refine Con.of_aw Tryz.func92 rfl Tryz.ntmps92 (by simp) (by simp) (by simp) (W.sound ?_)
 show @W Tryz.prog 32 ⟨_⟩ ⟨fun x σ=>@qR _ _ _ ⟨_⟩ _ ⟨_⟩ x σ⟩ _ _
 simp(disch:=omega)only[go_sem]
 refine qh (aea s xs hl) ?_
 simp(disch:=omega)only[go_sem]
 refine yU (fun hw=>?_) (fun h1=>?_)
 ·have h1:=hw
  simp only[zO,Bool.and_eq_true]at h1
  obtain⟨hx,hll⟩:=Zy h1.1
  have hxs:xs=lim (vl xs).toNat:=hx
  generalize hm:(vl xs).toNat=m at*
  subst hx
  simp(disch:=omega)only[go_sem,hw]
  refine qh (ad9 e (-3000) 3000) ?_
  simp(disch:=omega)only[go_sem]
  refine afi (fun h2=>?_) (fun h2=>?_)
  ·simp(disch:=omega)only[go_sem,h2]
   refine qx (by simp(disch:=omega)only[go_sem]) (by simp(disch:=omega)only[go_sem]) ⟨?_,rfl,rfl⟩
   simp[zg,dyB,hw,h2]
  ·simp(disch:=omega)only[go_sem,h2]
   refine qh (aaP m 0 (by omega) (by omega) (by omega)) ?_
   simp(disch:=omega)only[go_sem]
   refine zG (fun h3=>?_) (fun h3=>?_)
   ·have h3':¬m % 2=1:=fun h=>h3 (by simp;omega)
    simp(disch:=omega)only[go_sem,h3]
    refine qe (fun h4=>?_) (fun h4=>?_)
    ·simp(disch:=omega)only[go_sem,h4]
     refine qx (by simp(disch:=omega)only[go_sem]) (by simp(disch:=omega)only[go_sem]) ⟨?_,rfl,rfl⟩
     have h4':(lim m).length=0:=by omega
     simp[zg,dyB,hw,h2,hm,h3',h4']
    ·simp(disch:=omega)only[go_sem,h4]
     refine qx (by simp(disch:=omega)only[go_sem]) (by simp(disch:=omega)only[go_sem]) ⟨?_,rfl,rfl⟩
     have h4':¬(lim m).length=0:=by omega
     simp[zg,dyB,hw,h2,hm,h3',h4']
   ·have h3':m % 2=1:=by simp at h3;omega
    simp(disch:=omega)only[go_sem,h3]
    refine qx (by simp(disch:=omega)only[go_sem]) (by simp(disch:=omega)only[go_sem]) ⟨?_,rfl,rfl⟩
    simp[zg,dyB,hw,h2,hm,h3']
 ·simp(disch:=omega)only[go_sem,h1]
  refine qx (by simp(disch:=omega)only[go_sem]) (by simp(disch:=omega)only[go_sem]) ⟨?_,rfl,rfl⟩
  simp[zg,dyB,h1]
end Go.Ab
namespace Go.Ab
open Go Go.Proofs
theorem z8(s:Bool)(m:Nat)(e:Int):Con Tryz.prog 86 false [.ag [.v (.bool (s)),.sl (lim (m)).length (qc (lim (m))),.v (.int .i64 (e))]] [] (isA (.ag [.v (.bool (s)),.sl (lim (m)).length (qc (lim (m))),.v (.int .i64 (e))])):=by
 refine Con.frzA ?_
 refine Con.of_w (rs:=[.cell 2 118]) Tryz.func86 rfl Tryz.ntmps86 rfl ?_
 simp(disch:=omega)only[go_sem]
 exact ql
def bex(mode:Int):Bool:=decide (0≤mode)&&decide (mode≤4)
def dyV:AV→AV:=id
end Go.Ab
namespace Go.Ab
open Go Go.Proofs
end Go.Ab
namespace Go.Ab
open Go Go.Proofs
def muS(k1:Int)(s1:Bool)(m1:Int)(k2:Int)(s2:Bool)(m2:Int):Bool:=((s1&&decide (k1=1)) != (s2&&decide (k2=1)))&&decide (m1.toNat*m2.toNat≠0)
def bfa(k1:Int)(s1:Bool)(m1 e1 k2:Int)(s2:Bool)(m2 e2 mode:Int):FlV:=
 if(decide (k1=3)||decide (k2=3))=true then⟨3,false,0,0⟩
 else if(decide (k1=2)||decide (k2=2))=true then(if(decide (k1=0)||decide (k2=0))=true then⟨3,false,0,0⟩else⟨2,s1 != s2,0,0⟩)
 else flV (muS k1 s1 m1 k2 s2 m2) (m1.toNat*m2.toNat) (e1+e2) mode (s1 != s2)
def bfb(k1:Int)(s1:Bool)(m1 e1 k2:Int)(s2:Bool)(m2 e2 mode:Int):Int:=
 if(decide (k1=3)||decide (k2=3))=true then 0
 else if(decide (k1=2)||decide (k2=2))=true then(if(decide (k1=0)||decide (k2=0))=true then 16 else 0)
 else flG (muS k1 s1 m1 k2 s2 m2) (m1.toNat*m2.toNat) (e1+e2) mode
end Go.Ab
namespace Go.Ab
open Go Go.Proofs
section
variable {k1:Int}{s1:Bool}{m1 e1 k2:Int}{s2:Bool}{m2 e2 mode:Int}
end
end Go.Ab
namespace Go.Ab
theorem aPe(m:Nat):oM m % 2=1∨oM m=0:=by
 by_cases h0:m=0
 ·exact .inr (yM.2 h0)
 ·exact .inl (Qt h0).1
theorem bes(s:Bool)(m:Nat):oM m=0→oS s m=false:=fun h=>by unfold oS;rw[if_pos (yM.1 h)]
end Go.Ab
namespace Go.Ab
open Go
theorem Jw(m:Nat):bhp [] m=.free:=by unfold bhp;split<;>simp
theorem Con.enter{P:Program}{f:FuncId}{cl:Bool}{args:List AV}{x:Value}(h:Con P f cl args [] (isA (.v x)))(R:Nat→Prop)(w:World)(vs:Array Value)
  (hlt:∀b,R b→b<w.heap.size) (hr:RepA R (fun _=>none) w vs args) (ha:AllL (fun m=>bhp [] m≠ .free) args) (hg:Gd w):
  Calls P f vs w fun e w'=>e=.returned x∧Ext (fun _=>False) w w':=by
 have hno:∀b,¬ar9 (bhp []) (fun _=>none) b:=fun b ⟨nm,z,cs,B,e,_⟩=>by rw[Jw]at e;cases e
 have hh:HpOk R (fun _=>none) w (bhp []):=
  ⟨fun nm=>(by rw[Jw];trivial),fun nm z cs B e=>absurd e (by rw[Jw];simp),fun nm nm' z z' cs cs' B B' e=>absurd e (by rw[Jw];simp),fun nm z cs e=>absurd e (by rw[Jw];simp)⟩
 refine(h R (fun _=>none) w vs hlt hr ha hh ⟨hg,fun g l _=>hno g⟩).mono ?_
 rintro e w' ⟨y,r,hs,bs',R',ι',rfl,⟨rfl,rfl,rfl⟩,hf⟩
 refine⟨?_,hf.ext.os,hf.ext.tape,hf.ext.output,hf.ext.size,fun b hb _=>hf.ext.block b hb (hno b)⟩
 cases hf.rep with
 |fr _ _ h=>cases h;rfl
theorem Ext.kept{w w':World}(h:Ext (fun _=>False) w w')(may:MemPlace→Prop):w.keptBut w' may:=by
 refine⟨h.os,h.output,fun i hi=>?_⟩
 rw[h.block i hi (fun h=>h)]
 cases w.heap[i]? with
 |none=>trivial
 |some o=>cases o with
  |cells c t fr=>exact⟨rfl,rfl,rfl,fun _ _=>rfl⟩
  |map es cl=>exact .inr ⟨rfl,rfl⟩
  |_=>rfl
theorem Ext.below{w w':World}(h:Ext (fun _=>False) w w'):RowKit.Below w.heap.size w w':=⟨h.os,h.tape,h.output,h.size,fun k hk=>h.block k hk (fun h=>h)⟩
theorem Ext.trod{H:Type}{enc:TypeId×Value→H}{P:Program}{t:TypeId}{W W':World}(hw:Ext (fun _=>False) W W')(hl:laidOutB P=true)(hr:P.readableRec t=true)(hrow:t<P.types.size){v:Value}{d:DataW H}{ps:List MemPlace}
  (h:DataW.Trod enc P W 0 (fun _=>true) true t v d ps) (hlt:∀x∈ps,x.block<W.heap.size):DataW.Trod enc P W' 0 (fun b=>decide (b<W.heap.size)) true t v d ps:=
 RowKit.Below.trod hl hr hrow h hw.below hlt
theorem aft{w:World}{a:Addr}{v:Value}(h:w.cell? a=some v):a.block<w.heap.size:=by
 rcases Nat.lt_or_ge a.block w.heap.size with h'|h'
 ·exact h'
 ·simp[World.cell?,Array.getElem?_eq_none h']at h
theorem aT7(b o i:Nat):(⟨b,o,none⟩:Addr).add i=⟨b,o+i,none⟩:=by
 unfold Addr.add
 split
 ·subst_vars;rfl
 ·rfl
theorem aCC{R:Nat→Prop}{W:World}:FRep R W (.slice none 0 0) (.sl 0 []):=
 .sl none 0 0 [] (fun _=>undef) 0 0 (Nat.le_refl _) (fun h=>absurd h (by simp)) (fun i h=>absurd h (by simp)) (fun i h=>absurd h (by simp))
end Go.Ab
namespace Go.Ab
open Go
structure DyV where
 s:Bool
 xs:List Int
 e:Int
def DyV.cs(x:DyV):List AV:=[.v (.bool x.s),.sl x.xs.length (qc x.xs),.v (.int .i64 x.e)]
theorem aFI(x:DyV):x.cs.length=3:=rfl
theorem aFH{ρ:Nat→Nat}(x:DyV):zK ρ x.cs=x.cs:=rfl
theorem aqw{hp:Nat→Ob}{k:Nat}(x:DyV):x.cs.map (qE hp (k+1))=x.cs:=rfl
theorem aFJ{p:Nat→Prop}(x:DyV):AllL p x.cs:=by simp[DyV.cs,AllL,AV.All]
theorem aMj{l:List DyV}:(qm DyV.cs l).length=l.length*3:=y8 aFI
theorem aMi{ρ:Nat→Nat}{l:List DyV}:zK ρ (qm DyV.cs l)=qm DyV.cs l:=ZS aFH
theorem aDf{hp:Nat→Ob}{k:Nat}{l:List DyV}:(qm DyV.cs l).map (qE hp (k+1))=qm DyV.cs l:=Qo aqw
theorem aMk{p:Nat→Prop}{l:List DyV}:AllL p (qm DyV.cs l)=True:=eq_true (ZU aFJ)
theorem aDg{p:Nat→Prop}{x:DyV}:AllL p x.cs=True:=eq_true (aFJ x)
attribute [go_sem] aMj aMi aDf aMk aDg aFH aqw
end Go.Ab
namespace Go.Ab
open Go
/-! ### The simplifier's words for truth values-/
theorem beT:(true==true)=true:=ID rfl
theorem beW:(false==false)=true:=ID rfl
theorem beU:(true==false)=false:=ID rfl
theorem beV:(false==true)=false:=ID rfl
theorem bet:(true != true)=false:=ID rfl
theorem bew:(false != false)=false:=ID rfl
theorem beu:(true != false)=true:=ID rfl
theorem bev:(false != true)=true:=ID rfl
theorem o_t(b:Bool):(true||b)=true:=ID rfl
theorem o_f(b:Bool):(false||b)=b:=ID rfl
theorem bep(b:Bool):(b||true)=true:=by cases b<;>rfl
theorem ber(b:Bool):(b||false)=b:=by cases b<;>rfl
theorem a_t(b:Bool):(true&&b)=b:=ID rfl
theorem a_f(b:Bool):(false&&b)=false:=ID rfl
theorem be0(b:Bool):(b&&true)=b:=by cases b<;>rfl
theorem be1(b:Bool):(b&&false)=false:=by cases b<;>rfl
attribute [go_sem] beT beW beU beV bet bew beu bev o_t o_f
attribute [go_sem] bep ber a_t a_f be0 be1
theorem aMV{P:Program}{t:TypeId}[h:FlE P t]{k m e k' m' e':Int}{s s':Bool}{K:AV→Prop}:
  @jc P .eql t (.ag [.v (.int .i64 k),.v (.bool s),.v (.int .i64 m),.v (.int .i64 e)]) (.ag [.v (.int .i64 k'),.v (.bool s'),.v (.int .i64 m'),.v (.int .i64 e')]) ⟨K⟩=K (.v (.bool (aTg k s m e k' s' m' e'))):=
 propext ⟨fun g=>g.2,fun g=>⟨h,g⟩⟩
theorem aMU{P:Program}{t:TypeId}[h:FlE P t]{k m e k' m' e':Int}{s s':Bool}{K:AV→Prop}:
  @jc P .neq t (.ag [.v (.int .i64 k),.v (.bool s),.v (.int .i64 m),.v (.int .i64 e)]) (.ag [.v (.int .i64 k'),.v (.bool s'),.v (.int .i64 m'),.v (.int .i64 e')]) ⟨K⟩=K (.v (.bool (!aTg k s m e k' s' m' e'))):=
 propext ⟨fun g=>g.2,fun g=>⟨h,g⟩⟩
attribute [go_sem] aMV aMU
/-! ### Bits of any numbers-/
def bb1(x y:Int):Int:=IntKind.i64.wrap (BitVec.ofInt IntKind.i64.bits x^^^BitVec.ofInt IntKind.i64.bits y).toNat
theorem aMG{x y:Int}{P:Program}{t:Nat}{K:AV→Prop}:@jc P .xor t (.v (.int .i64 x)) (.v (.int .i64 y)) ⟨K⟩=K (.v (.int .i64 (bb1 x y))):=by
 simp only[jc,Zh,Z7,true_and];rfl
theorem Z0(x:Int):((BitVec.ofInt 64 x).toNat:Int)=x % 18446744073709551616:=by
 rw[BitVec.toNat_ofInt];omega
theorem akr{x:Int}{P:Program}{t:Nat}{K:AV→Prop}:@jc P .and t (.v (.int .i64 x)) (.v (.int .i64 255)) ⟨K⟩=K (.v (.int .i64 (x % 256))):=by
 have e:IntKind.i64.wrap (BitVec.ofInt 64 x&&&BitVec.ofInt 64 255).toNat=x % 256:=by
  have h1:=Z0 x
  have h2:(BitVec.ofInt 64 255).toNat=2^8-1:=by decide
  rw[BitVec.toNat_and,h2,Nat.and_two_pow_sub_one_eq_mod,Zs (by omega)]
  omega
 rw[←e];simp only[jc,Zh,Z7,true_and];rfl
theorem arH{x:Int}{P:Program}{t:Nat}{K:AV→Prop}:@jc P .and t (.v (.int .i64 x)) (.v (.int .i64 1073741823)) ⟨K⟩=K (.v (.int .i64 (x % 1073741824))):=by
 have e:IntKind.i64.wrap (BitVec.ofInt 64 x&&&BitVec.ofInt 64 1073741823).toNat=x % 1073741824:=by
  have h1:=Z0 x
  have h2:(BitVec.ofInt 64 1073741823).toNat=2^30-1:=by decide
  rw[BitVec.toNat_and,h2,Nat.and_two_pow_sub_one_eq_mod,Zs (by omega)]
  omega
 rw[←e];simp only[jc,Zh,Z7,true_and];rfl
attribute [go_sem] aMG akr arH
theorem aCm{h:Nat→Ob}{n n' z z':Nat}{cs cs':List AV}(hn:h n=.own z cs)(hc:AllL (fun _=>False) cs)(hn':h n'=.own z' cs')(hc':AllL (fun _=>False) cs'):J0 h [n,n']:=by
 intro m hm
 rw[List.mem_cons,List.mem_singleton]at hm
 rcases hm with rfl|rfl
 ·exact⟨z,cs,hn,hc.mono fun _ h=>h.elim⟩
 ·exact⟨z',cs',hn',hc'.mono fun _ h=>h.elim⟩
def Z3(h:Nat→Ob)(nms:List Nat):List Nat→List Ob
 | []=>[]
 |n::r=>(h n).ren (back nms)::Z3 h nms r
theorem aae{h:Nat→Ob}{nms:List Nat}:∀r:List Nat,Z3 h nms r=r.map (fun n=>(h n).ren (back nms))
 | []=>rfl
 |n::r=>by rw[Z3,List.map_cons,aae r]
theorem apI{h:Nat→Ob}{nms:List Nat}:Z3 h nms []=[]:=ID rfl
theorem ajB{h:Nat→Ob}{nms:List Nat}{n:Nat}{r:List Nat}:Z3 h nms (n::r)=(h n).ren (back nms)::Z3 h nms r:=ID rfl
attribute [go_sem] apI ajB
theorem yG{P:Program}{f:FuncId}{aa0:List AV}{h:Nat→Ob}{c:Nat}{K:KV}(cl:Bool)(nms:List Nat){args:List AV}{bs:List Ob}{post:AV→List Ob→List Ob→Prop}(hc:Con P f cl args bs post)(ha:aa0.map (snp (hpx cl nms h) (idx nms) 6)=args)
  (hb:Z3 h nms nms=bs) (hnd:Za nms=true) (hl:J0 h nms) (hin:∀n∈nms,∃a∈aa0,a.top=some n)
  (hk:∀r hs bs',post r hs bs'→bs'.length=bs.length→(hs.length≤10000000∧qO h c hs∧(cl=true→∀ob∈bs',ob.plain))∧K (r.ren (rho c nms)) (QM (aaX (rho c nms) h c hs) nms (bs'.map (Ob.ren (rho c nms))))):@JH P f aa0 h c ⟨K⟩:=
 za cl nms hc ha ((aae nms).symm.trans hb) hnd hl hin hk
end Go.Ab
namespace Go.Ab
open Go Go.Proofs
def jV(m:Nat):Bool:=decide ((lim m).length≤100)
def jP(m:Nat)(e:Int):Bool:=jV (oM m)&&(decide (-3000≤oE m e)&&decide (oE m e≤3000))
theorem aqQ(m:Nat)(hl:(lim m).length≤2^40):Con Tryz.prog 236 false [.sl (lim (m)).length (qc (lim (m)))] [] (isA (if jV m=true then .tu [.ag [.sl (lim (m)).length (qc (lim (m)))],.v (.bool true)]else .tu [.ag [.sl (lim (0)).length (qc (lim (0)))],.v (.bool false)])):=by
 refine Con.frzA ?_
 refine Con.of_w (rs:=[.cell 2 36,.tmp 3]) Tryz.func236 rfl Tryz.ntmps236 rfl ?_
 simp(disch:=omega)only[go_sem]
 refine qe (fun c1=>?_) (fun c1=>?_)
 ·have hf:jV m=false:=by unfold jV;simp;omega
  simp(disch:=omega)only[go_sem,c1]
  rw[hf,if_neg (by simp),qo]
  exact ql
 ·have hf:jV m=true:=by unfold jV;simp;omega
  simp(disch:=omega)only[go_sem,c1]
  rw[hf,if_pos rfl]
  refine qa ((aaO false (lim m) (by omega)).num) ?_
  simp(disch:=omega)only[go_sem]
  exact ql
theorem aeb(s:Bool)(m:Nat)(hl:(lim m).length≤2^40):Con Tryz.prog 178 false [.v (.bool s),.sl (lim (m)).length (qc (lim (m)))] [] (isA (if jV m=true then .tu [.ag [.v (.bool (s&&decide (m≠0))),.sl (lim (m)).length (qc (lim (m)))],.v (.bool true)]else .tu [.ag [.v (.bool (false)),.sl (lim (0)).length (qc (lim (0)))],.v (.bool false)])):=by
 refine Con.frzA ?_
 have cn:=aqQ m hl
 have hq:decide ((0:Int)<((lim m).length:Int))=decide (m≠0):=by
  rw[decide_eq_decide]
  exact⟨fun h e=>by rw[e,qo]at h;simp at h,fun h=>by have:=Qu h;omega⟩
 cases hf:jV m
 ·rw[hf,if_neg (by simp)]at cn
  rw[if_neg (by simp),qo]
  refine Con.of_w (rs:=[.cell 4 38,.tmp 5]) Tryz.func178 rfl Tryz.ntmps178 rfl ?_
  simp(disch:=omega)only[go_sem]
  refine qa (cn) ?_
  simp(disch:=omega)only[go_sem]
  exact ql
 ·rw[hf,if_pos rfl]at cn
  rw[if_pos rfl]
  refine Con.of_w (rs:=[.cell 4 38,.tmp 5]) Tryz.func178 rfl Tryz.ntmps178 rfl ?_
  simp(disch:=omega)only[go_sem]
  refine qa (cn) ?_
  simp(disch:=omega)only[go_sem]
  cases s
  ·simp(disch:=omega)only[go_sem]
   exact ql
  ·simp(disch:=omega)only[go_sem,hq]
   exact ql
theorem aMs(s:Bool)(m:Nat)(e:Int)(hm:bl m≤10000000)(he: -2^39≤e∧e≤2^39):Con Tryz.prog 95 false [.ag [.v (.bool (s)),.sl (lim (m)).length (qc (lim (m))),.v (.int .i64 (e))]] [] (isA (if jP m e=true then .tu [.ag [.v (.bool (oS s m)),.sl (lim (oM m)).length (qc (lim (oM m))),.v (.int .i64 (oE m e))],.v (.bool true)]else .tu [.ag [.v (.bool (false)),.sl (lim (0)).length (qc (lim (0))),.v (.int .i64 (0))],.v (.bool false)])):=by
 refine Con.frzA ?_
 have hb:=Nat.le_trans (yh (apn m)) hm
 have hl:=qB hb
 have cw:=aeb (oS s m) (oM m) (by omega)
 have hs:(oS s m&&decide (oM m≠0))=oS s m:=by
  unfold oS
  by_cases h:m=0
  ·rw[if_pos h];rfl
  ·rw[if_neg h,decide_eq_true (show oM m≠0 from fun e=>h (yM.1 e)),Bool.and_true]
 rw[hs]at cw
 cases hf:jV (oM m)
 ·rw[hf,if_neg (by simp)]at cw
  have hd:jP m e=false:=by unfold jP;rw[hf];rfl
  rw[hd,if_neg (by simp),qo]
  rw[qo]at cw
  refine Con.of_w (rs:=[.cell 2 40,.tmp 3]) Tryz.func95 rfl Tryz.ntmps95 rfl ?_
  simp(disch:=omega)only[go_sem]
  refine qa (aqO s m e hm (by omega)) ?_
  simp(disch:=omega)only[go_sem]
  refine qa (cw) ?_
  simp(disch:=omega)only[go_sem]
  exact ql
 ·rw[hf,if_pos rfl]at cw
  have hd:jP m e=(decide (-3000≤oE m e)&&decide (oE m e≤3000)):=by unfold jP;rw[hf];rfl
  rw[hd]
  refine Con.of_w (rs:=[.cell 2 40,.tmp 3]) Tryz.func95 rfl Tryz.ntmps95 rfl ?_
  simp(disch:=omega)only[go_sem]
  refine qa (aqO s m e hm (by omega)) ?_
  simp(disch:=omega)only[go_sem]
  refine qa (cw) ?_
  simp(disch:=omega)only[go_sem]
  refine qh (zn (oE m e) (-3000) 3000) ?_
  simp(disch:=omega)only[go_sem]
  refine afi (fun h=>?_) (fun h=>?_)
  ·simp(disch:=omega)only[go_sem,h]
   rw[h,if_neg (by simp),qo]
   exact ql
  ·simp(disch:=omega)only[go_sem,h]
   rw[h,if_pos rfl]
   exact ql
end Go.Ab
namespace Go.Ab
end Go.Ab
namespace Go.Ab
/-! ### Sums of floats-/
def ngS(k:Int)(s:Bool):Bool:=if k=3 then s else !s
def xS(k:Int)(s:Bool):Bool:=s&&decide (k=1)
def adZ(k1:Int)(s1:Bool)(k2:Int)(s2:Bool)(mode:Int):Bool:=if k1=0∧k2=0∧s1=s2 then s1 else decide (mode=3)
def beY(k1:Int)(s1:Bool)(m1 e1 k2:Int)(s2:Bool)(m2 e2 mode:Int):FlV:=
 if k1=3∨k2=3 then⟨3,false,0,0⟩
 else if k1=2∧k2=2∧s1≠s2 then⟨3,false,0,0⟩
 else if k1=2 then⟨k1,s1,m1,e1⟩
 else if k2=2 then⟨k2,s2,m2,e2⟩
 else flV (adS (xS k1 s1) m1.toNat e1 (xS k2 s2) m2.toNat e2) (adM (xS k1 s1) m1.toNat e1 (xS k2 s2) m2.toNat e2) (alE m1.toNat e1 m2.toNat e2) mode (adZ k1 s1 k2 s2 mode)
def beZ(k1:Int)(s1:Bool)(m1 e1 k2:Int)(s2:Bool)(m2 e2 mode:Int):Int:=
 if k1=3∨k2=3 then 0
 else if k1=2∧k2=2∧s1≠s2 then 16
 else if k1=2 then 0
 else if k2=2 then 0
 else flG (adS (xS k1 s1) m1.toNat e1 (xS k2 s2) m2.toNat e2) (adM (xS k1 s1) m1.toNat e1 (xS k2 s2) m2.toNat e2) (alE m1.toNat e1 m2.toNat e2) mode
section
variable {k1:Int}{s1:Bool}{m1 e1 k2:Int}{s2:Bool}{m2 e2 mode:Int}
end
/-! ### A product and a sum-/
def fmZ(k1:Int)(s1:Bool)(k2:Int)(s2:Bool)(k3:Int)(s3:Bool)(mode:Int):Bool:=if(k1=0∨k2=0)∧k3=0∧s3=(s1 != s2)then s3 else decide (mode=3)
def bfj(k1:Int)(s1:Bool)(m1 e1 k2:Int)(s2:Bool)(m2 e2 k3:Int)(s3:Bool)(m3 e3 mode:Int):FlV:=
 if k1=3∨k2=3 then⟨3,false,0,0⟩
 else if k1=2∨k2=2 then(if k1=0∨k2=0 then⟨3,false,0,0⟩else beY 2 (s1 != s2) 0 0 k3 s3 m3 e3 mode)
 else if k3=2∨k3=3 then⟨k3,s3,m3,e3⟩
 else flV (adS (muS k1 s1 m1 k2 s2 m2) (m1.toNat*m2.toNat) (e1+e2) (xS k3 s3) m3.toNat e3) (adM (muS k1 s1 m1 k2 s2 m2) (m1.toNat*m2.toNat) (e1+e2) (xS k3 s3) m3.toNat e3) (alE (m1.toNat*m2.toNat) (e1+e2) m3.toNat e3) mode (fmZ k1 s1 k2 s2 k3 s3 mode)
def bfk(k1:Int)(s1:Bool)(m1 e1 k2:Int)(s2:Bool)(m2 e2 k3:Int)(s3:Bool)(m3 e3 mode:Int):Int:=
 if k1=3∨k2=3 then 0
 else if k1=2∨k2=2 then(if k1=0∨k2=0 then 16 else beZ 2 (s1 != s2) 0 0 k3 s3 m3 e3 mode)
 else if k3=2∨k3=3 then 0
 else flG (adS (muS k1 s1 m1 k2 s2 m2) (m1.toNat*m2.toNat) (e1+e2) (xS k3 s3) m3.toNat e3) (adM (muS k1 s1 m1 k2 s2 m2) (m1.toNat*m2.toNat) (e1+e2) (xS k3 s3) m3.toNat e3) (alE (m1.toNat*m2.toNat) (e1+e2) m3.toNat e3) mode
section
variable {k1:Int}{s1:Bool}{m1 e1 k2:Int}{s2:Bool}{m2 e2 k3:Int}{s3:Bool}{m3 e3 mode:Int}
end
end Go.Ab
namespace Go.Ab
theorem aDH(x y p:Int)(hp:0<p):zr (x*p) (y*p)=zr x y:=by
 unfold zr
 have h1:x*p<y*p↔x<y:=⟨fun h=>Int.lt_of_mul_lt_mul_right h (Int.le_of_lt hp),fun h=>Int.mul_lt_mul_of_pos_right h hp⟩
 have h2:y*p<x*p↔y<x:=⟨fun h=>Int.lt_of_mul_lt_mul_right h (Int.le_of_lt hp),fun h=>Int.mul_lt_mul_of_pos_right h hp⟩
 simp only[h1,h2]
theorem QJ{m:Nat}{e E:Int}:alA m e E=0↔m=0:=by
 unfold alA
 have:0<2^(e-E).toNat:=Nat.pow_pos (by omega)
 constructor
 ·intro h
  rcases Nat.mul_eq_zero.1 h with h|h
  ·exact h
  ·omega
 ·intro h;rw[h,Nat.zero_mul]
theorem afs{K:Nat}{s1:Bool}{m1:Nat}{e1:Int}{s2:Bool}{m2:Nat}{e2:Int}(h1: -(K:Int)≤e1)(h2: -(K:Int)≤e2):
  zr (sv s1 (alA m1 e1 (alE m1 e1 m2 e2))) (sv s2 (alA m2 e2 (alE m1 e1 m2 e2)))=zr (dv K s1 m1 e1) (dv K s2 m2 e2):=by
 have hE: -(K:Int)≤alE m1 e1 m2 e2:=QI h1 h2
 have g1:m1≠0→alE m1 e1 m2 e2≤e1:=fun h=>by
  unfold alE
  repeat' split
  all_goals omega
 have g2:m2≠0→alE m1 e1 m2 e2≤e2:=fun h=>by
  unfold alE
  repeat' split
  all_goals omega
 rw[←afz hE g1,←afz hE g2,aDH _ _ _ (Int.pow_pos (by omega))]
theorem aaS{s1:Bool}{m1:Nat}{s2:Bool}{m2:Nat}(z1:m1=0→s1=false)(z2:m2=0→s2=false):
  zr (sv s1 m1) (sv s2 m2)=if s1=true then(if s2=true then zr (m2:Int) (m1:Int)else-1)else(if s2=true then 1 else zr (m1:Int) (m2:Int)):=by
 cases s1<;>cases s2<;>simp only[sv,if_true,Bool.false_eq_true,if_false]
 ·have:m2≠0:=fun h=>by have:=z2 h;cases this
  unfold zr;rw[if_neg (by omega),if_pos (by omega)]
 ·have:m1≠0:=fun h=>by have:=z1 h;cases this
  unfold zr;rw[if_pos (by omega)]
 ·unfold zr
  rcases Int.lt_trichotomy (m1:Int) m2 with h|h|h
  ·rw[if_neg (by omega),if_pos (by omega),if_neg (by omega),if_pos (by omega)]
  ·rw[if_neg (by omega),if_neg (by omega),if_neg (by omega),if_neg (by omega)]
  ·rw[if_pos (by omega),if_pos (by omega)]
theorem Qh(x y:Int):(zr x y≤0↔x≤y)∧(zr x y<0↔x<y)∧(zr x y=0↔x=y):=by
 unfold zr
 split
 ·omega
 ·split<;>omega
end Go.Ab
namespace Go.Ab
open Go Go.Proofs
theorem QY(s1:Bool)(m1:Nat)(s2:Bool)(m2:Nat)(l1:(lim m1).length≤2^40)(l2:(lim m2).length≤2^40)(z1:m1=0→s1=false)(z2:m2=0→s2=false):
  Con Tryz.prog 242 true [.v (.bool s1),.sl (lim (m1)).length (qc (lim (m1))),.v (.bool s2),.sl (lim (m2)).length (qc (lim (m2)))] [] (isA (.v (.int .i64 (zr (sv s1 m1) (sv s2 m2))))):=by
 rw[aaS z1 z2]
 cases s1<;>cases s2
 ·refine Con.of_w (rs:=[.tmp 8]) Tryz.func242 rfl Tryz.ntmps242 rfl ?_
  simp(disch:=omega)only[go_sem]
  refine qh (ja m1 m2 l1 l2) ?_
  simp(disch:=omega)only[go_sem]
  exact qu
 ·refine Con.of_w (rs:=[.tmp 8]) Tryz.func242 rfl Tryz.ntmps242 rfl ?_
  simp(disch:=omega)only[go_sem]
  exact qu
 ·refine Con.of_w (rs:=[.tmp 8]) Tryz.func242 rfl Tryz.ntmps242 rfl ?_
  simp(disch:=omega)only[go_sem]
  exact qu
 ·refine Con.of_w (rs:=[.tmp 8]) Tryz.func242 rfl Tryz.ntmps242 rfl ?_
  simp(disch:=omega)only[go_sem]
  refine qh (ja m2 m1 l2 l1) ?_
  simp(disch:=omega)only[go_sem]
  exact qu
theorem aaN(K:Nat)(s1:Bool)(m1:Nat)(e1:Int)(s2:Bool)(m2:Nat)(e2:Int)(h1:bl m1≤4000000)(h2:bl m2≤4000000)(he1: -1000000≤e1∧e1≤1000000)(he2: -1000000≤e2∧e2≤1000000)(k1: -(K:Int)≤e1)(k2: -(K:Int)≤e2)(z1:m1=0→s1=false)(z2:m2=0→s2=false):
  Con Tryz.prog 184 true [.ag [.v (.bool (s1)),.sl (lim (m1)).length (qc (lim (m1))),.v (.int .i64 (e1))],.ag [.v (.bool (s2)),.sl (lim (m2)).length (qc (lim (m2))),.v (.int .i64 (e2))]] [] (isA (.v (.int .i64 (zr (dv K s1 m1 e1) (dv K s2 m2 e2))))):=by
 have hE:=QI (m1:=m1) (m2:=m2) he1.1 he2.1
 have b1:=qB (Zg (e:=e1) (E:=alE m1 e1 m2 e2) (C:=2000000) h1 (by omega))
 have b2:=qB (Zg (e:=e2) (E:=alE m1 e1 m2 e2) (C:=2000000) h2 (by omega))
 rw[←afs k1 k2]
 have y1:alA m1 e1 (alE m1 e1 m2 e2)=0→s1=false:=fun h=>z1 (QJ.1 h)
 have y2:alA m2 e2 (alE m1 e1 m2 e2)=0→s2=false:=fun h=>z2 (QJ.1 h)
 refine Con.of_w (rs:=[.tmp 4]) Tryz.func184 rfl Tryz.ntmps184 rfl ?_
 simp(disch:=omega)only[go_sem]
 refine qa (Jq s1 m1 e1 s2 m2 e2 h1 h2 he1 he2) ?_
 simp(disch:=omega)only[go_sem]
 refine qh (QY s1 (alA m1 e1 (alE m1 e1 m2 e2)) s2 (alA m2 e2 (alE m1 e1 m2 e2)) (by omega) (by omega) y1 y2) ?_
 simp(disch:=omega)only[go_sem]
 exact qu
def rkF(k:Int)(s:Bool):Int:=if k=2 then(if s=true then-1 else 1)else 0
def bfn(k1:Int)(s1:Bool)(m1 e1 k2:Int)(s2:Bool)(m2 e2:Int):Int:=
 if rkF k1 s1≠rkF k2 s2∨rkF k1 s1≠0 then zr (rkF k1 s1) (rkF k2 s2)else zr (dv 3000 (xS k1 s1) m1.toNat e1) (dv 3000 (xS k2 s2) m2.toNat e2)
end Go.Ab
namespace Go.Ab
open Go
theorem ajG{R:Nat→Prop}{W:World}{a:Addr}{len cap:Nat}{zs:List Int}(hle:len≤cap)(hz:zs.length=cap)(hc:∀i,i<zs.length→W.cell? (a.add i)=some (.int .u8 (zs.getD i 0)))(hw:∀n∈zs,0≤n∧n<256)(hR:∀b,b<W.heap.size→R b):
  FRep R W (.slice (some a) len cap) (.sl ((zs.take len).map fun n=>UInt8.ofNat n.toNat).length (qk ((zs.take len).map fun n=>UInt8.ofNat n.toNat))):=by
 have hl:((zs.take len).map fun n=>UInt8.ofNat n.toNat).length=len:=by rw[List.length_map,List.length_take];omega
 have hil:(qk ((zs.take len).map fun n=>UInt8.ofNat n.toNat)).length=len:=by unfold qk;rw[List.length_map,hl]
 rw[hl]
 obtain⟨b,o,sp⟩:=a
 have hsp:0<len→sp=none:=fun h0=>by
  have h1:=World.cell?_spot (hc 0 (by omega))
  simpa [Addr.add]using h1
 refine .sl _ len cap _ (fun i=>.int .u8 (zs.getD i 0)) b o hle (fun h0=>?_) (fun i hi=>?_) (fun i hi=>?_)
 ·have hs:=hsp (by omega)
  subst hs
  exact⟨rfl,hR _ (aft (hc 0 (by omega)))⟩
 ·have hs:=hsp (by omega)
  subst hs
  have h1:=hc i (by omega)
  rw[aT7]at h1
  exact h1
 ·have:(qk ((zs.take len).map fun n=>UInt8.ofNat n.toNat))[i]=.v (.int .u8 (zs.getD i 0)):=by
   have hi2:i<zs.length:=by omega
   have hm:=hw zs[i] (List.getElem_mem hi2)
   simp only[qk,List.getElem_map,List.getElem_take,List.getD_eq_getElem?_getD]
   rw[List.getElem?_eq_getElem hi2]
   simp only[Option.getD_some]
   congr 2
   rw[UInt8.toNat_ofNat']
   omega
  rw[this]
  exact .v _
theorem aPr{n:Int}(h:(Lit.int .u8 n).wf=true):0≤n∧n<256:=by
 have h':IntKind.u8.min≤n∧n≤IntKind.u8.max:=by simpa [Lit.wf]using h
 have h1:IntKind.u8.min=0:=rfl
 have h2:IntKind.u8.max=255:=rfl
 omega
theorem aKs{H:Type}{enc:TypeId×Value→H}{P:Program}{W:World}{t e fuel:Nat}{cs:List Value}{x:DataW H×List MemPlace}(ht:P.underlying t=some (.slice e))(he:P.underlying e=some (.int .u8))(hc:P.cellsOf e=1)
  (h:DataW.trod enc P W 0 (fun _=>true) true fuel t cs=some x):
  ∃(v:Value) (l:List UInt8),cs=[v]∧l.length≤maxLen∧FRep (fun b=>b<W.heap.size) W v (.sl l.length (qk l)):=by
 rcases ChangeShapes.open_ints ht he hc h with⟨rfl,_⟩|⟨a,len,cap,zs,rfl,_,hl,hm,hz,_,hcell,hwf⟩
 ·exact⟨_,[],rfl,Nat.zero_le _,aCC⟩
 ·rw[if_pos rfl]at hz
  refine⟨_,_,rfl,?_,ajG hl hz hcell (fun n hn=>aPr (hwf n hn)) (fun _ h=>h)⟩
  rw[List.length_map,List.length_take];omega
theorem aBG{R:Nat→Prop}{ι:Nat→Option Blk}{w:World}{x:Value}{a:AV}(h1:Rep R ι w x a):RepA R ι w #[x] [a]:=
 ⟨rfl,fun i h=>match i,h with
  |0,_=>h1⟩
end Go.Ab
namespace Go.Ab
open Go
section
variable {P:Program}{f:FuncId}{args:List AV}{post:AV→List Ob→List Ob→Prop}
end
end Go.Ab
namespace Go.Ab
open Go
section
variable {σ:St}
theorem Le.ghostC(m o nm z:Nat){zo:Nat}{cs:List AV}(hm:σ.hp m=.own zo cs)(ho:cs[o]? =some (.v (.slice none 0 0)))(hf:σ.hp nm=.free):
  Le σ ⟨σ.env,upd (upd σ.hp nm (.own z [])) m (.own zo (cs.set o (.rf nm 0 0)))⟩:=by
 intro L w0 R0 N a w hi
 obtain⟨R,ι,hR,h⟩:=hi.inv
 have hg:=h.ghost (z:=z) hf
 have hne:m≠nm:=fun e=>by rw[e,hf]at hm;cases hm
 have hm':(⟨σ.env,upd σ.hp nm (.own z [])⟩:St).hp m=.own zo cs:=by show upd σ.hp nm (.own z []) m=_;rw[qC hne];exact hm
 obtain⟨hol,hoe⟩:=List.getElem?_eq_some_iff.1 ho
 have key:Inv L w0 R (upd ι nm none) w a.tmps ⟨σ.env,upd (upd σ.hp nm (.own z [])) m (.own zo (cs.set o (.rf nm 0 0)))⟩:=by
  cases hB:upd ι nm none m with
  |none=>
   have:=hg.hp.ok m
   rw[hm',hB]at this
   have e:cs=[]:=this
   rw[e]at hol;simp at hol
  |some B=>
   obtain⟨c,T,lo,hi',h1,h2,h3,h4,h5,h6⟩:=jv hg hm' hB
   refine hg.turn hm' hB rfl rfl rfl rfl (fun _ _=>rfl) ⟨c,T,lo,hi',h1,h2,h3,h4,by rw[List.length_set];exact h5,fun i hi2=>?_⟩ (AllL.of_get fun i hi2=>?_)
   ·rw[List.length_set]at hi2
    rw[List.getElem_set]
    by_cases e:o=i
    ·subst e
     rw[if_pos rfl]
     have:=h6 o hi2
     rw[hoe]at this
     rw[this.v_inv]
     exact .rf nm 0 0 0 none ⟨Nat.le_refl _,by rw[qw]⟩
    ·rw[if_neg e];exact h6 i hi2
   ·rw[List.length_set]at hi2
    rw[List.getElem_set]
    split
    ·show upd σ.hp nm (.own z []) nm≠ .free
     rw[qw];simp
    ·exact(hg.hp.men m zo cs hm').get i hi2
 exact⟨hi.df,hi.sz,R,_,hR,key⟩
end
structure ExV where
 s:Bool
 m:Nat
 e:Int
deriving DecidableEq
def ExV.cs(x:ExV):List AV:=[.v (.bool x.s),.sl (lim x.m).length (qc (lim x.m)),.v (.int .i64 x.e)]
theorem Jf(x:ExV):x.cs.length=3:=rfl
theorem aFD{ρ:Nat→Nat}(x:ExV):zK ρ x.cs=x.cs:=rfl
theorem aqq{hp:Nat→Ob}{k:Nat}(x:ExV):x.cs.map (qE hp (k+1))=x.cs:=rfl
theorem aFF{p:Nat→Prop}(x:ExV):AllL p x.cs:=by simp[ExV.cs,AllL,AV.All]
def ex0:ExV:=⟨false,0,0⟩
theorem YY{l:List ExV}:(qm ExV.cs l).length=l.length*3:=y8 Jf
theorem aMb{ρ:Nat→Nat}{l:List ExV}:zK ρ (qm ExV.cs l)=qm ExV.cs l:=ZS aFD
theorem aDa{hp:Nat→Ob}{k:Nat}{l:List ExV}:(qm ExV.cs l).map (qE hp (k+1))=qm ExV.cs l:=Qo aqq
theorem aMd{p:Nat→Prop}{l:List ExV}:AllL p (qm ExV.cs l)=True:=eq_true (ZU aFF)
theorem aDb{p:Nat→Prop}{x:ExV}:AllL p x.cs=True:=eq_true (aFF x)
theorem QA{l:List ExV}{x:ExV}:qm ExV.cs l++[.v (.bool x.s),.sl (lim x.m).length (qc (lim x.m)),.v (.int .i64 x.e)]=qm ExV.cs (l++[x]):=by
 rw[←QQ,zl,yt,List.append_nil];rfl
theorem aMc{l:List ExV}:cut (qm ExV.cs l) 0 (l.length*3)=qm ExV.cs l:=by
 unfold cut;rw[List.drop_zero,List.take_of_length_le (by rw[YY];exact Nat.le_refl _)]
structure SpV where
 lo:ExV
 hi:ExV
deriving DecidableEq
def SpV.cs(x:SpV):List AV:=x.lo.cs++x.hi.cs
theorem aoU(x:SpV):x.cs.length=6:=rfl
theorem aFf{ρ:Nat→Nat}(x:SpV):zK ρ x.cs=x.cs:=rfl
theorem aoR{hp:Nat→Ob}{k:Nat}(x:SpV):x.cs.map (qE hp (k+1))=x.cs:=rfl
theorem aFg{p:Nat→Prop}(x:SpV):AllL p x.cs:=by simp[SpV.cs,ExV.cs,AllL,AV.All]
def sp0:SpV:=⟨ex0,ex0⟩
theorem Yu{l:List SpV}:(qm SpV.cs l).length=l.length*6:=y8 aoU
theorem aJz{ρ:Nat→Nat}{l:List SpV}:zK ρ (qm SpV.cs l)=qm SpV.cs l:=ZS aFf
theorem aBn{hp:Nat→Ob}{k:Nat}{l:List SpV}:(qm SpV.cs l).map (qE hp (k+1))=qm SpV.cs l:=Qo aoR
theorem aJB{p:Nat→Prop}{l:List SpV}:AllL p (qm SpV.cs l)=True:=eq_true (ZU aFg)
theorem aBp{p:Nat→Prop}{x:SpV}:AllL p x.cs=True:=eq_true (aFg x)
theorem yK{l:List SpV}{x:SpV}:qm SpV.cs l++[.v (.bool x.lo.s),.sl (lim x.lo.m).length (qc (lim x.lo.m)),.v (.int .i64 x.lo.e),.v (.bool x.hi.s),.sl (lim x.hi.m).length (qc (lim x.hi.m)),.v (.int .i64 x.hi.e)]=qm SpV.cs (l++[x]):=by
 rw[←QQ,zl,yt,List.append_nil];rfl
theorem aJA{l:List SpV}:cut (qm SpV.cs l) 0 (l.length*6)=qm SpV.cs l:=by
 unfold cut;rw[List.drop_zero,List.take_of_length_le (by rw[Yu];exact Nat.le_refl _)]
attribute [go_sem] YY aMb aDa aMd aDb aFD aqq Yu aJz aBn aJB aBp aFf aoR
end Go.Ab
namespace Go.Ab
open Go Go.Proofs
def ExV.plus(x y:ExV):ExV:=⟨adS x.s x.m x.e y.s y.m y.e,adM x.s x.m x.e y.s y.m y.e,alE x.m x.e y.m y.e⟩
def ExV.neg(x:ExV):ExV:=⟨!x.s&&decide (x.m≠0),x.m,x.e⟩
def ExV.times(x y:ExV):ExV:=⟨(x.s != y.s)&&decide (x.m*y.m≠0),x.m*y.m,x.e+y.e⟩
def ExV.abs(x:ExV):ExV:=⟨false,x.m,x.e⟩
def ExV.shift(x:ExV)(k:Int):ExV:=⟨x.s,x.m,x.e+k⟩
def ExV.over(x y:ExV)(low mode:Int):ExV:=⟨(x.s != y.s)&&decide (ovQ (x.s != y.s) x.m x.e y.m y.e low mode≠0),ovQ (x.s != y.s) x.m x.e y.m y.e low mode,low⟩
def ExV.rnd(x:ExV)(low mode:Int):ExV:=⟨roS x.s x.m x.e low mode,roM x.s x.m x.e low mode,roE x.m x.e low⟩
def ExV.cmp(x y:ExV):Int:=zr (sv x.s (alA x.m x.e (alE x.m x.e y.m y.e))) (sv y.s (alA y.m y.e (alE x.m x.e y.m y.e)))
def ExV.top(x:ExV):Int:=if x.m=0 then 0 else(bl x.m:Int)+x.e
def ExV.bd(lo hi:Int)(x:ExV):Prop:=(x.m=0→x.s=false)∧lo≤x.e∧(bl x.m:Int)+x.e≤hi
theorem ExV.bd.mono{lo hi lo' hi':Int}{x:ExV}(h:x.bd lo hi)(h1:lo'≤lo)(h2:hi≤hi'):x.bd lo' hi':=by
 obtain⟨a,b,c⟩:=h;exact⟨a,by omega,by omega⟩
theorem arR{m:Nat}{e E hi:Int}(h:m≠0→E≤e)(h1:(bl m:Int)+e≤hi)(h2:E≤hi):(bl (alA m e E):Int)+E≤hi:=by
 by_cases h0:m=0
 ·rw[QJ.2 h0,Jv];omega
 ·have:=h h0
  have:=Xi m (e-E).toNat
  unfold alA;omega
theorem aM7{m1:Nat}{e1:Int}{m2:Nat}{e2:Int}:m1≠0→alE m1 e1 m2 e2≤e1:=fun h=>by
 unfold alE
 repeat' split
 all_goals omega
theorem aM6{m1:Nat}{e1:Int}{m2:Nat}{e2:Int}:m2≠0→alE m1 e1 m2 e2≤e2:=fun h=>by
 unfold alE
 repeat' split
 all_goals omega
theorem ExV.plus_bd{lo hi:Int}{x y:ExV}(hx:x.bd lo hi)(hy:y.bd lo hi):(x.plus y).bd lo (hi+1):=by
 obtain⟨a1,a2,a3⟩:=hx
 obtain⟨b1,b2,b3⟩:=hy
 have hE:lo≤alE x.m x.e y.m y.e:=QI a2 b2
 have hE2:alE x.m x.e y.m y.e≤hi:=aFQ (by omega) (by omega)
 refine⟨fun h=>?_,hE,?_⟩
 ·show adS x.s x.m x.e y.s y.m y.e=false
  have h:suM _ _ _ _=0:=h
  unfold adS suS
  unfold suM at h
  rw[Int.natAbs_eq_zero.1 h];rfl
 ·have t1:=arR (hi:=hi) (@aM7 x.m x.e y.m y.e) a3 hE2
  have t2:=arR (hi:=hi) (@aM6 x.m x.e y.m y.e) b3 hE2
  show(bl (adM x.s x.m x.e y.s y.m y.e):Int)+alE x.m x.e y.m y.e≤hi+1
  unfold adM
  generalize alA x.m x.e (alE x.m x.e y.m y.e)=A at*
  generalize alA y.m y.e (alE x.m x.e y.m y.e)=B at*
  have:=afw (s1:=x.s) (s2:=y.s) (B:=(hi-alE x.m x.e y.m y.e).toNat) (show bl A≤_ by omega) (show bl B≤_ by omega)
  omega
theorem ExV.neg_bd{lo hi:Int}{x:ExV}(hx:x.bd lo hi):x.neg.bd lo hi:=by
 obtain⟨a1,a2,a3⟩:=hx
 refine⟨fun h=>?_,a2,a3⟩
 have h:x.m=0:=h
 show(!x.s&&decide (x.m≠0))=false
 rw[decide_eq_false (show ¬x.m≠0 by omega),Bool.and_false]
theorem ExV.times_bd{l1 h1 l2 h2:Int}{x y:ExV}(hx:x.bd l1 h1)(hy:y.bd l2 h2):(x.times y).bd (l1+l2) (h1+h2):=by
 obtain⟨a1,a2,a3⟩:=hx
 obtain⟨b1,b2,b3⟩:=hy
 refine⟨fun h=>?_,?_,?_⟩
 ·have h:x.m*y.m=0:=h
  show((x.s != y.s)&&decide (x.m*y.m≠0))=false
  rw[decide_eq_false (show ¬x.m*y.m≠0 by omega),Bool.and_false]
 ·show l1+l2≤x.e+y.e
  omega
 ·have:=Xj x.m y.m
  show(bl (x.m*y.m):Int)+(x.e+y.e)≤h1+h2
  omega
theorem ExV.abs_bd{lo hi:Int}{x:ExV}(hx:x.bd lo hi):x.abs.bd lo hi:=⟨fun _=>rfl,hx.2.1,hx.2.2⟩
theorem ExV.shift_bd{lo hi k:Int}{x:ExV}(hx:x.bd lo hi):(x.shift k).bd (lo+k) (hi+k):=by
 obtain⟨a1,a2,a3⟩:=hx
 exact⟨a1,by show lo+k≤x.e+k;omega,by show(bl x.m:Int)+(x.e+k)≤hi+k;omega⟩
theorem aO3{s:Bool}{m1:Nat}{e1:Int}{m2:Nat}{e2 low mode:Int}:bl (ovQ s m1 e1 m2 e2 low mode)≤bl m1+(e1-e2-low).toNat+1:=by
 have h1:=yh (aOq s (ovA m1 (e1-e2-low)) (ovA m2 (-(e1-e2-low))) mode)
 have h2:=arE (ovA m1 (e1-e2-low)/ovA m2 (-(e1-e2-low)))
 have h3:=Xl (ovA m1 (e1-e2-low)) (ovA m2 (-(e1-e2-low)))
 have h4:=Xi m1 (e1-e2-low).toNat
 unfold ovQ;unfold ovA at*;omega
theorem ExV.over_bd{l1 h1 l2 low mode hi:Int}{x y:ExV}(hx:x.bd l1 h1)(hy:l2≤y.e)(h:h1-l2+1≤hi)(hb:h1-l1+1+low≤hi):(x.over y low mode).bd low hi:=by
 obtain⟨a1,a2,a3⟩:=hx
 refine⟨fun h=>?_,Int.le_refl _,?_⟩
 ·have h:ovQ (x.s != y.s) x.m x.e y.m y.e low mode=0:=h
  show((x.s != y.s)&&decide (ovQ (x.s != y.s) x.m x.e y.m y.e low mode≠0))=false
  rw[decide_eq_false (by rw[h];simp),Bool.and_false]
 ·have:=@aO3 (x.s != y.s) x.m x.e y.m y.e low mode
  show(bl (ovQ (x.s != y.s) x.m x.e y.m y.e low mode):Int)+low≤hi
  omega
theorem ExV.rnd_bd{lo hi low mode:Int}{x:ExV}(hx:x.bd lo hi)(hl:lo≤low)(hh:low≤hi):(x.rnd low mode).bd lo (hi+1):=by
 obtain⟨a1,a2,a3⟩:=hx
 by_cases c:low≤x.e∨x.m=0
 ·refine⟨fun h=>?_,?_,?_⟩
  ·show roS _ _ _ _ _=false
   have h:roM _ _ _ _ _=0:=h
   unfold roM at h;unfold roS;rw[if_pos c]at h ⊢;exact a1 h
  ·show lo≤roE _ _ _
   unfold roE;rw[if_pos c];exact a2
  ·show(bl (roM _ _ _ _ _):Int)+roE _ _ _≤_
   unfold roM roE;rw[if_pos c,if_pos c];omega
 ·refine⟨fun h=>?_,?_,?_⟩
  ·show roS _ _ _ _ _=false
   have h:roM _ _ _ _ _=0:=h
   unfold roM at h;unfold roS;rw[if_neg c]at h ⊢;rw[h];simp
  ·show lo≤roE _ _ _
   unfold roE;rw[if_neg c];exact hl
  ·show(bl (roM _ _ _ _ _):Int)+roE _ _ _≤_
   unfold roM roE;rw[if_neg c,if_neg c]
   have h1:=yh (aOq x.s x.m (2^(low-x.e).toNat) mode)
   have h2:=arE (x.m/2^(low-x.e).toNat)
   have h3:=aTT x.m (low-x.e).toNat
   omega
theorem jh(x y:ExV)(hx:x.bd (-400000) 400000)(hy:y.bd (-400000) 400000):Con Tryz.prog 119 false [.ag [.v (.bool (x.s)),.sl (lim (x.m)).length (qc (lim (x.m))),.v (.int .i64 (x.e))],.ag [.v (.bool (y.s)),.sl (lim (y.m)).length (qc (lim (y.m))),.v (.int .i64 (y.e))]] [] (isA (.ag [.v (.bool ((x.plus y).s)),.sl (lim ((x.plus y).m)).length (qc (lim ((x.plus y).m))),.v (.int .i64 ((x.plus y).e))])):=by
 obtain⟨a1,a2,a3⟩:=hx
 obtain⟨b1,b2,b3⟩:=hy
 exact aqL x.s x.m x.e y.s y.m y.e (by omega) (by omega) (by omega) (by omega)
theorem QX(x y:ExV)(hx:x.bd (-400000) 400000)(hy:y.bd (-400000) 400000):Con Tryz.prog 120 false [.ag [.v (.bool (x.s)),.sl (lim (x.m)).length (qc (lim (x.m))),.v (.int .i64 (x.e))],.ag [.v (.bool (y.s)),.sl (lim (y.m)).length (qc (lim (y.m))),.v (.int .i64 (y.e))]] [] (isA (.ag [.v (.bool ((x.times y).s)),.sl (lim ((x.times y).m)).length (qc (lim ((x.times y).m))),.v (.int .i64 ((x.times y).e))])):=by
 obtain⟨a1,a2,a3⟩:=hx
 obtain⟨b1,b2,b3⟩:=hy
 exact ajS x.s x.m x.e y.s y.m y.e (by omega) (by omega) (by omega) (by omega)
theorem aqM(x y:ExV)(low mode:Int)(h0:y.m≠0)(hx:x.bd (-400000) 400000)(hy:y.bd (-400000) 400000)(hl: -400000≤low∧low≤400000):Con Tryz.prog 188 false [.ag [.v (.bool (x.s)),.sl (lim (x.m)).length (qc (lim (x.m))),.v (.int .i64 (x.e))],.ag [.v (.bool (y.s)),.sl (lim (y.m)).length (qc (lim (y.m))),.v (.int .i64 (y.e))],.v (.int .i64 low),.v (.int .i64 mode)] [] (isA (.tu [.ag [.v (.bool ((x.over y low mode).s)),.sl (lim ((x.over y low mode).m)).length (qc (lim ((x.over y low mode).m))),.v (.int .i64 ((x.over y low mode).e))],.v (.bool (ovX x.m x.e y.m y.e low))])):=by
 obtain⟨a1,a2,a3⟩:=hx
 obtain⟨b1,b2,b3⟩:=hy
 exact afq x.s x.m x.e y.s y.m y.e low mode h0 (by omega) (by omega) (by omega) (by omega) (by omega) (by omega)
theorem Y4(x:ExV)(low mode:Int)(hx:x.bd (-400000) 400000)(hl: -400000≤low∧low≤400000):Con Tryz.prog 218 false [.ag [.v (.bool (x.s)),.sl (lim (x.m)).length (qc (lim (x.m))),.v (.int .i64 (x.e))],.v (.int .i64 low),.v (.int .i64 mode)] [] (isA (.tu [.ag [.v (.bool ((x.rnd low mode).s)),.sl (lim ((x.rnd low mode).m)).length (qc (lim ((x.rnd low mode).m))),.v (.int .i64 ((x.rnd low mode).e))],.v (.bool (roX x.m x.e low))])):=by
 obtain⟨a1,a2,a3⟩:=hx
 exact aef x.s x.m x.e low mode (by omega) (by omega) (by omega)
theorem yg(x y:ExV)(hx:x.bd (-400000) 400000)(hy:y.bd (-400000) 400000):Con Tryz.prog 184 true [.ag [.v (.bool (x.s)),.sl (lim (x.m)).length (qc (lim (x.m))),.v (.int .i64 (x.e))],.ag [.v (.bool (y.s)),.sl (lim (y.m)).length (qc (lim (y.m))),.v (.int .i64 (y.e))]] [] (isA (.v (.int .i64 (x.cmp y)))):=by
 obtain⟨a1,a2,a3⟩:=hx
 obtain⟨b1,b2,b3⟩:=hy
 unfold ExV.cmp
 rw[afs (K:=400000) (by omega) (by omega)]
 exact aaN 400000 x.s x.m x.e y.s y.m y.e (by omega) (by omega) (by omega) (by omega) (by omega) (by omega) a1 b1
theorem aDw(x:ExV):Con Tryz.prog 232 false [.ag [.v (.bool (x.s)),.sl (lim (x.m)).length (qc (lim (x.m))),.v (.int .i64 (x.e))]] [] (isA (.ag [.v (.bool (x.neg.s)),.sl (lim (x.neg.m)).length (qc (lim (x.neg.m))),.v (.int .i64 (x.neg.e))])):=by
 refine Con.frzA ?_
 have hq:decide ((0:Int)<((lim x.m).length:Int))=decide (x.m≠0):=by
  rw[decide_eq_decide]
  exact⟨fun h e=>by rw[e,qo]at h;simp at h,fun h=>by have:=Qu h;omega⟩
 unfold ExV.neg
 cases hs:x.s
 ·refine Con.of_w (rs:=[.cell 2 118]) Tryz.func232 rfl Tryz.ntmps232 rfl ?_
  simp(disch:=omega)only[go_sem]
  simp(disch:=omega)only[go_sem,hq]
  exact ql (hp:=by simp(disch:=omega)only[go_sem,Bool.not_false,Bool.true_and])
 ·refine Con.of_w (rs:=[.cell 2 118]) Tryz.func232 rfl Tryz.ntmps232 rfl ?_
  simp(disch:=omega)only[go_sem]
  exact ql (hp:=by simp(disch:=omega)only[go_sem,Bool.not_true,Bool.false_and])
theorem Xd(x:ExV):Con Tryz.prog 173 false [.ag [.v (.bool (x.s)),.sl (lim (x.m)).length (qc (lim (x.m))),.v (.int .i64 (x.e))]] [] (isA (.ag [.v (.bool (x.abs.s)),.sl (lim (x.abs.m)).length (qc (lim (x.abs.m))),.v (.int .i64 (x.abs.e))])):=by
 refine Con.frzA ?_
 refine Con.of_w (rs:=[.cell 2 118]) Tryz.func173 rfl Tryz.ntmps173 rfl ?_
 simp(disch:=omega)only[go_sem]
 exact ql (hp:=by simp(disch:=omega)only[go_sem,ExV.abs])
theorem QZ(x:ExV)(k:Int)(hx: -2^40≤x.e∧x.e≤2^40)(hk: -2^40≤k∧k≤2^40):Con Tryz.prog 211 false [.ag [.v (.bool (x.s)),.sl (lim (x.m)).length (qc (lim (x.m))),.v (.int .i64 (x.e))],.v (.int .i64 k)] [] (isA (.ag [.v (.bool ((x.shift k).s)),.sl (lim ((x.shift k).m)).length (qc (lim ((x.shift k).m))),.v (.int .i64 ((x.shift k).e))])):=by
 refine Con.frzA ?_
 refine Con.of_w (rs:=[.cell 4 118]) Tryz.func211 rfl Tryz.ntmps211 rfl ?_
 simp(disch:=omega)only[go_sem]
 exact ql (hp:=by simp(disch:=omega)only[go_sem,ExV.shift])
theorem Q1(x y:ExV)(hx:x.bd (-400000) 400000)(hy:y.bd (-400000) 400000):Con Tryz.prog 172 false [.ag [.v (.bool (x.s)),.sl (lim (x.m)).length (qc (lim (x.m))),.v (.int .i64 (x.e))],.ag [.v (.bool (y.s)),.sl (lim (y.m)).length (qc (lim (y.m))),.v (.int .i64 (y.e))]] [] (isA (.ag [.v (.bool ((x.plus y.neg).s)),.sl (lim ((x.plus y.neg).m)).length (qc (lim ((x.plus y.neg).m))),.v (.int .i64 ((x.plus y.neg).e))])):=by
 refine Con.frzA ?_
 refine Con.of_w (rs:=[.cell 4 118]) Tryz.func172 rfl Tryz.ntmps172 rfl ?_
 simp(disch:=omega)only[go_sem]
 refine qp rfl [⟨0,[],[]⟩,⟨1,[0],[]⟩,⟨2,[0],[]⟩,⟨3,[],[]⟩,⟨4,[],[]⟩] (by kernel_rfl) ?_
 simp(disch:=omega)only[go_sem]
 refine qa (aDw y) ?_
 simp(disch:=omega)only[go_sem]
 refine qa (jh x y.neg hx (ExV.neg_bd hy)) ?_
 simp(disch:=omega)only[go_sem]
 exact ql
end Go.Ab
namespace Go.Ab
open Go Go.Proofs
def gl(n:Nat)(g:Nat→Nat→ExV)(k:Nat):List ExV:=(List.range k).map fun t=>g (t/n) (t % n)
theorem yA{n:Nat}{g:Nat→Nat→ExV}{k:Nat}:(gl n g k).length=k:=by simp[gl]
theorem aLr{n:Nat}{g:Nat→Nat→ExV}{k:Nat}:gl n g (k+1)=gl n g k++[g (k/n) (k % n)]:=by simp[gl,List.range_succ]
theorem aFy{n:Nat}{g:Nat→Nat→ExV}{k t:Nat}(h:t<k):(gl n g k).getD t ex0=g (t/n) (t % n):=by
 rw[List.getD_eq_getElem?_getD];simp[gl,h]
theorem aPF{n:Nat}{g:Nat→Nat→ExV}:qm ExV.cs (gl n g 0)=[]:=by simp[gl,qm]
theorem zC{l:List ExV}{k:Nat}(h:l.length=k):cut (qm ExV.cs l) 0 (k*3)=qm ExV.cs l:=by subst h;exact aMc
theorem z7{l:List ExV}{i:Nat}(hi:i<l.length):cut (qm ExV.cs l) (i*3) 3=[.v (.bool (l.getD i ex0).s),.sl (lim (l.getD i ex0).m).length (qc (lim (l.getD i ex0).m)),.v (.int .i64 (l.getD i ex0).e)]:=ZT (l:=l) Jf hi ex0
theorem Jo(n:Nat)(l:List ExV)(i j:Nat)(hl:i*n+j<l.length)(hb:l.length≤1000)(hn:n≤1000)(hi:i≤1000)(hj:j≤1000):
  Con Tryz.prog 99 false [.ag [.v (.int .i64 n),.sl l.length (qm ExV.cs l)],.v (.int .i64 i),.v (.int .i64 j)] [] (isA (.ag [.v (.bool ((l.getD (i*n+j) ex0).s)),.sl (lim ((l.getD (i*n+j) ex0).m)).length (qc (lim ((l.getD (i*n+j) ex0).m))),.v (.int .i64 ((l.getD (i*n+j) ex0).e))])):=by
 refine Con.frzA ?_
 have hin:i*n≤1000:=by omega
 have hp:(i:Int)*(n:Int)≤1000∧0≤(i:Int)*(n:Int):=by rw[←Int.natCast_mul];omega
 have e1:(i:Int)*(n:Int)+(j:Int)=((i*n+j:Nat):Int):=by rw[Int.natCast_add,Int.natCast_mul]
 have hcut:=z7 hl
 generalize i*n+j=k at*
 refine Con.of_w (rs:=[.cell 6 118]) Tryz.func99 rfl Tryz.ntmps99 rfl ?_
 simp(disch:=omega)only[go_sem]
 simp(disch:=omega)only[go_sem,e1,hcut]
 refine⟨by omega,by omega,?_⟩
 exact ql
set_option maxRecDepth 100000 in
theorem aka(n:Nat)(f:Nat)(caps:List AV)(g:Nat→Nat→ExV)(hn0:n≤4)(hf:∀i j:Nat,i<n→j<n→Con Tryz.prog f false (.v (.int .i64 i):: .v (.int .i64 j)::caps) [] (isA (.ag [.v (.bool ((g i j).s)),.sl (lim ((g i j).m)).length (qc (lim ((g i j).m))),.v (.int .i64 ((g i j).e))])))(hg:qq Tryz.prog f=True)
  (hc:∀h:Nat→Ob,caps.map (qE h 6)=caps) (hc5:∀h:Nat→Ob,caps.map (qE h 5)=caps) (hn:∀ks,AllL (yj ks) caps) (hr:∀ρ,zK ρ caps=caps):
  Con Tryz.prog 97 false [.v (.int .i64 n),.fn f caps] [] (isA (.ag [.v (.int .i64 n),.sl (n*n) (qm ExV.cs (gl n g (n*n)))])):=by
 refine Con.frzA ?_
 refine Con.of_aw Tryz.func97 rfl Tryz.ntmps97 (by simp) (by simp) (by simp) (W.sound ?_)
 show @W Tryz.prog 30 ⟨_⟩ ⟨fun x σ=>@qR _ _ _ ⟨_⟩ _ ⟨_⟩ x σ⟩ _ _
 simp(disch:=omega)only[go_sem,hg]
 refine qj (fun i:Nat=>[(0,.v (.int .i64 n)),(1,.fn f caps),(4,.pt 2 0),(5,.pt 0 0),(10,.v (.int .i64 n)),(11,.v (.int .i64 i))])
  (fun i=>[(0,.own 0 [.v (.int .i64 n),.rf 1 0 (i*n)]),(1,.own 3 (qm ExV.cs (gl n g (i*n)))),(2,.own 0 [.v (.int .i64 0),.v (.slice none 0 0)])]) (fun i=>i≤n) (fun i=>n-i) 0 (by omega)
  ((Le.ghostC 70000000 1 1 3 (zo:=0) (cs:=[.v (.int .i64 n),.v (.slice none 0 0)]) (by simp(disch:=omega)only[go_sem]) rfl (by simp(disch:=omega)only[go_sem])).trans (Le.lst [(0,70000000),(2,60000000)] _ _ rfl (by simp(disch:=omega)only[go_sem,hr,hn]) (by simp(disch:=omega)only[go_sem,aPF,Nat.zero_mul,List.set_cons_succ,List.set_cons_zero]))) ?_
 intro i hi
 simp(disch:=omega)only[go_sem]
 refine qe (fun h1=>?_) (fun h1=>?_)
 ·simp(disch:=omega)only[go_sem,h1]
  refine qj (fun j:Nat=>[(0,.v (.int .i64 n)),(1,.fn f caps),(4,.pt 2 0),(5,.pt 0 0),(6,.v (.int .i64 i)),(10,.v (.int .i64 n)),(11,.v (.int .i64 i)),(14,.v (.int .i64 n)),(15,.v (.int .i64 j))])
   (fun j=>[(0,.own 0 [.v (.int .i64 n),.rf 1 0 (i*n+j)]),(1,.own 3 (qm ExV.cs (gl n g (i*n+j)))),(2,.own 0 [.v (.int .i64 0),.v (.slice none 0 0)])]) (fun j=>j≤n) (fun j=>n-j) 0 (by omega)
   (Le.lst [] _ _ rfl (by simp(disch:=omega)only[go_sem,hr,hn,Nat.add_zero]) (by simp(disch:=omega)only[go_sem,Nat.add_zero])) ?_
  intro j hj
  simp(disch:=omega)only[go_sem]
  refine qe (fun h2=>?_) (fun h2=>?_)
  ·simp(disch:=omega)only[go_sem,h2]
   have hd:(i*n+j)/n=i:=by rw[Nat.mul_comm,Nat.mul_add_div (by omega),Nat.div_eq_of_lt (by omega),Nat.add_zero]
   have hm:(i*n+j) % n=j:=by rw[Nat.mul_comm,Nat.mul_add_mod,Nat.mod_eq_of_lt (by omega)]
   have hs:=@aLr n g (i*n+j)
   rw[hd,hm]at hs
   have hcut:=zC (@yA n g (i*n+j))
   have hin:i*n≤16:=Nat.mul_le_mul (show i≤4 by omega) hn0
   have hk:i*n+(j+1)=i*n+j+1:=rfl
   refine qp rfl [⟨0,[],[]⟩,⟨1,[],[]⟩,⟨2,[1],[]⟩,⟨3,[1],[]⟩,⟨4,[1],[]⟩,⟨5,[1],[]⟩,⟨6,[1],[]⟩,⟨7,[],[]⟩,⟨8,[],[]⟩,⟨9,[],[]⟩] (by kernel_rfl) ?_
   simp(disch:=omega)only[go_sem,hg]
   refine qW (hf i j (by omega) (by omega)) (by simp(disch:=omega)only[go_sem,hc,hc5]) ?_
   rintro r hs2 ⟨rfl,rfl,_⟩
   refine⟨by simp[qO],?_⟩
   simp(disch:=omega)only[go_sem,hcut,QA]
   refine⟨⟨by rw[yA];exact Nat.le_refl _,by omega⟩,qb (j+1) [(1,270000000)] (by show j+1≤_;omega) (by show n-(j+1)<n-j;omega) rfl (by simp(disch:=omega)only[go_sem,hr,hn];try omega) (by simp(disch:=omega)only[go_sem,hk,hs])⟩
  ·simp(disch:=omega)only[go_sem,h2]
   obtain rfl:n=j:=by omega
   exact qb (i+1) [] (by show i+1≤_;omega) (by show n-(i+1)<n-i;omega) rfl (by simp(disch:=omega)only[go_sem,hr,hn,Nat.add_mul,Nat.one_mul];try omega) (by simp(disch:=omega)only[go_sem,Nat.add_mul,Nat.one_mul])
 ·simp(disch:=omega)only[go_sem,h1]
  obtain rfl:n=i:=by omega
  refine qg [(0,1)] [.own 3 (qm ExV.cs (gl n g (n*n)))] [] [.ag [.v (.int .i64 n),.rf 0 0 (n*n)]] rfl (by simp(disch:=omega)only[go_sem]) (by simp(disch:=omega)only[go_sem]) (by simp) (by simp) ?_
  show qE _ 6 _=_
  simp(disch:=omega)only[go_sem,zb,zC yA]
end Go.Ab
namespace Go.Ab
open Go Go.Proofs
def jl(m x:ExV):ExV:=if 0<x.cmp m then x else m
def zQ(m x:ExV):ExV:=if x.cmp m<0 then x else m
def zp(l:List ExV):ExV:=(l.drop 1).foldl jl (l.getD 0 ex0)
def jg(l:List ExV):ExV:=(l.drop 1).foldl zQ (l.getD 0 ex0)
def gbd(lo hi:Int)(l:List ExV):Prop:=∀x∈l,x.bd lo hi
theorem q7{lo hi:Int}{l:List ExV}{i:Nat}(h:gbd lo hi l)(hi':i<l.length):(l.getD i ex0).bd lo hi:=by
 refine h _ ?_
 rw[List.getD_eq_getElem?_getD,List.getElem?_eq_getElem hi'];exact List.getElem_mem _
theorem jQ{l:List ExV}{i:Nat}(h1:1≤i)(h:i<l.length):(l.take (i+1)).drop 1=(l.take i).drop 1++[l.getD i ex0]:=by
 rw[List.take_add_one,List.getElem?_eq_getElem h,List.drop_append_of_le_length (by rw[List.length_take];omega),List.getD_eq_getElem?_getD,List.getElem?_eq_getElem h]
 rfl
theorem QT{lo hi:Int}{F:ExV→ExV→ExV}(hF:∀m x,F m x=m∨F m x=x):∀(l:List ExV) (m:ExV),m.bd lo hi→gbd lo hi l→(l.foldl F m).bd lo hi
 | [],m,h,_=>h
 |x::r,m,h,hl=>by
  refine QT hF r (F m x) ?_ (fun y hy=>hl y (List.mem_cons_of_mem _ hy))
  rcases hF m x with e|e<;>rw[e]
  ·exact h
  ·exact hl x (List.mem_cons_self ..)
theorem YG(m x:ExV):jl m x=m∨jl m x=x:=by unfold jl;split<;>simp
theorem aah(m x:ExV):zQ m x=m∨zQ m x=x:=by unfold zQ;split<;>simp
theorem Zz{lo hi:Int}{l:List ExV}(h:gbd lo hi l)(h0:0<l.length):(zp l).bd lo hi:=QT YG _ _ (q7 h h0) (fun x hx=>h x (List.mem_of_mem_drop hx))
theorem aag{lo hi:Int}{l:List ExV}(h:gbd lo hi l)(h0:0<l.length):(jg l).bd lo hi:=QT aah _ _ (q7 h h0) (fun x hx=>h x (List.mem_of_mem_drop hx))
theorem aei(l:List ExV)(h0:0<l.length)(hl:l.length≤1000)(hb:gbd (-400000) 400000 l):Con Tryz.prog 231 false [.sl l.length (qm ExV.cs l),.fn 184 []] [] (isA (.ag [.v (.bool (zp l).s),.sl (lim (zp l).m).length (qc (lim (zp l).m)),.v (.int .i64 (zp l).e)])):=by
 refine Con.frzA ?_
 have hc0:=z7 (l:=l) (i:=0) h0
 have q1:decide ((l.length:Int)<1)=false:=decide_eq_false (by omega)
 refine Con.of_w (rs:=[.cell 4 118]) Tryz.func231 rfl Tryz.ntmps231 rfl ?_
 simp(disch:=omega)only[go_sem,q1,hc0]
 refine⟨by omega,by omega,?_⟩
 refine qj (fun x:Nat×ExV=>[(0,.sl l.length (qm ExV.cs l)),(1,.fn 184 []),(4,.pt 1 0),(5,.pt 0 0),(6,.v (.int .i64 x.1))])
  (fun x=>[(0,.own 0 [.v (.bool x.2.s),.sl (lim x.2.m).length (qc (lim x.2.m)),.v (.int .i64 x.2.e)]),(1,.own 0 [.v (.bool false),.v (.slice none 0 0),.v (.int .i64 0)])])
  (fun x=>1≤x.1∧x.1≤l.length∧x.2=((l.take x.1).drop 1).foldl jl (l.getD 0 ex0)) (fun x=>l.length-x.1) (1,l.getD 0 ex0) ⟨by omega,by omega,by simp⟩
  (Le.lst [(0,70000000),(1,60000000)] _ _ rfl (by simp(disch:=omega)only[go_sem]) (by simp(disch:=omega)only[go_sem])) ?_
 rintro⟨i,m⟩ ⟨h1,hi,hm⟩
 dsimp only at h1 hi hm ⊢
 have hmb:m.bd (-400000) 400000:=by
  rw[hm];exact QT YG _ _ (q7 hb h0) (fun x hx=>hb x (List.mem_of_mem_take (List.mem_of_mem_drop hx)))
 simp(disch:=omega)only[go_sem]
 refine qe (fun h2=>?_) (fun h2=>?_)
 ·have hi2:i<l.length:=by omega
  have hci:=z7 (l:=l) (i:=i) hi2
  have hs:jl m (l.getD i ex0)=((l.take (i+1)).drop 1).foldl jl (l.getD 0 ex0):=by
   rw[jQ h1 hi2,List.foldl_append,←hm];rfl
  simp(disch:=omega)only[go_sem,h2]
  refine qp rfl [⟨0,[],[]⟩,⟨1,[],[]⟩,⟨2,[],[]⟩,⟨3,[],[]⟩,⟨4,[],[]⟩,⟨5,[4],[]⟩,⟨6,[],[]⟩,⟨7,[],[]⟩] (by kernel_rfl) ?_
  have hg:qq Tryz.prog 184=True:=by simp(disch:=omega)only[go_sem]
  simp(disch:=omega)only[go_sem,hci,hg]
  refine⟨by omega,by omega,?_⟩
  refine qh (yg (l.getD i ex0) m (q7 hb hi2) hmb) ?_
  simp(disch:=omega)only[go_sem]
  generalize l.getD i ex0=y at*
  refine qe (fun h3=>?_) (fun h3=>?_)
  ·simp(disch:=omega)only[go_sem,h3,hci]
   have:jl m y=y:=if_pos h3
   refine⟨by omega,by omega,qb (i+1,y) [] ⟨by show 1≤i+1;omega,by show i+1≤_;omega,this▸hs⟩ (by show l.length-(i+1)<l.length-i;omega) rfl (by simp(disch:=omega)only[go_sem];try omega) (by simp(disch:=omega)only[go_sem])⟩
  ·simp(disch:=omega)only[go_sem,h3]
   have:jl m y=m:=if_neg h3
   refine qb (i+1,m) [] ⟨by show 1≤i+1;omega,by show i+1≤_;omega,this▸hs⟩ (by show l.length-(i+1)<l.length-i;omega) rfl (by simp(disch:=omega)only[go_sem];try omega) (by simp(disch:=omega)only[go_sem])
 ·simp(disch:=omega)only[go_sem,h2]
  have:i=l.length:=by omega
  subst this
  rw[List.take_length]at hm
  subst hm
  exact ql (hp:=by simp(disch:=omega)only[go_sem,zp])
theorem afr(l:List ExV)(h0:0<l.length)(hl:l.length≤1000)(hb:gbd (-400000) 400000 l):Con Tryz.prog 171 false [.sl l.length (qm ExV.cs l)] [] (isA (.ag [.v (.bool (zp l).s),.sl (lim (zp l).m).length (qc (lim (zp l).m)),.v (.int .i64 (zp l).e)])):=by
 refine Con.frzA ?_
 refine Con.of_w (rs:=[.cell 2 118]) Tryz.func171 rfl Tryz.ntmps171 rfl ?_
 simp(disch:=omega)only[go_sem]
 refine qa (aei l h0 hl hb) ?_
 simp(disch:=omega)only[go_sem]
 exact ql
theorem aeh(l:List ExV)(h0:0<l.length)(hl:l.length≤1000)(hb:gbd (-400000) 400000 l):Con Tryz.prog 245 false [.sl l.length (qm ExV.cs l),.fn 184 []] [] (isA (.ag [.v (.bool (jg l).s),.sl (lim (jg l).m).length (qc (lim (jg l).m)),.v (.int .i64 (jg l).e)])):=by
 refine Con.frzA ?_
 have hc0:=z7 (l:=l) (i:=0) h0
 have q1:decide ((l.length:Int)<1)=false:=decide_eq_false (by omega)
 refine Con.of_w (rs:=[.cell 4 118]) Tryz.func245 rfl Tryz.ntmps245 rfl ?_
 simp(disch:=omega)only[go_sem,q1,hc0]
 refine⟨by omega,by omega,?_⟩
 refine qj (fun x:Nat×ExV=>[(0,.sl l.length (qm ExV.cs l)),(1,.fn 184 []),(4,.pt 1 0),(5,.pt 0 0),(6,.v (.int .i64 x.1))])
  (fun x=>[(0,.own 0 [.v (.bool x.2.s),.sl (lim x.2.m).length (qc (lim x.2.m)),.v (.int .i64 x.2.e)]),(1,.own 0 [.v (.bool false),.v (.slice none 0 0),.v (.int .i64 0)])])
  (fun x=>1≤x.1∧x.1≤l.length∧x.2=((l.take x.1).drop 1).foldl zQ (l.getD 0 ex0)) (fun x=>l.length-x.1) (1,l.getD 0 ex0) ⟨by omega,by omega,by simp⟩
  (Le.lst [(0,70000000),(1,60000000)] _ _ rfl (by simp(disch:=omega)only[go_sem]) (by simp(disch:=omega)only[go_sem])) ?_
 rintro⟨i,m⟩ ⟨h1,hi,hm⟩
 dsimp only at h1 hi hm ⊢
 have hmb:m.bd (-400000) 400000:=by
  rw[hm];exact QT aah _ _ (q7 hb h0) (fun x hx=>hb x (List.mem_of_mem_take (List.mem_of_mem_drop hx)))
 simp(disch:=omega)only[go_sem]
 refine qe (fun h2=>?_) (fun h2=>?_)
 ·have hi2:i<l.length:=by omega
  have hci:=z7 (l:=l) (i:=i) hi2
  have hs:zQ m (l.getD i ex0)=((l.take (i+1)).drop 1).foldl zQ (l.getD 0 ex0):=by
   rw[jQ h1 hi2,List.foldl_append,←hm];rfl
  simp(disch:=omega)only[go_sem,h2]
  refine qp rfl [⟨0,[],[]⟩,⟨1,[],[]⟩,⟨2,[],[]⟩,⟨3,[],[]⟩,⟨4,[],[]⟩,⟨5,[4],[]⟩,⟨6,[],[]⟩,⟨7,[],[]⟩] (by kernel_rfl) ?_
  have hg:qq Tryz.prog 184=True:=by simp(disch:=omega)only[go_sem]
  simp(disch:=omega)only[go_sem,hci,hg]
  refine⟨by omega,by omega,?_⟩
  refine qh (yg (l.getD i ex0) m (q7 hb hi2) hmb) ?_
  simp(disch:=omega)only[go_sem]
  generalize l.getD i ex0=y at*
  refine qe (fun h3=>?_) (fun h3=>?_)
  ·simp(disch:=omega)only[go_sem,h3,hci]
   have:zQ m y=y:=if_pos h3
   refine⟨by omega,by omega,qb (i+1,y) [] ⟨by show 1≤i+1;omega,by show i+1≤_;omega,this▸hs⟩ (by show l.length-(i+1)<l.length-i;omega) rfl (by simp(disch:=omega)only[go_sem];try omega) (by simp(disch:=omega)only[go_sem])⟩
  ·simp(disch:=omega)only[go_sem,h3]
   have:zQ m y=m:=if_neg h3
   refine qb (i+1,m) [] ⟨by show 1≤i+1;omega,by show i+1≤_;omega,this▸hs⟩ (by show l.length-(i+1)<l.length-i;omega) rfl (by simp(disch:=omega)only[go_sem];try omega) (by simp(disch:=omega)only[go_sem])
 ·simp(disch:=omega)only[go_sem,h2]
  have:i=l.length:=by omega
  subst this
  rw[List.take_length]at hm
  subst hm
  exact ql (hp:=by simp(disch:=omega)only[go_sem,jg])
theorem aaB(l:List ExV)(h0:0<l.length)(hl:l.length≤1000)(hb:gbd (-400000) 400000 l):Con Tryz.prog 189 false [.sl l.length (qm ExV.cs l)] [] (isA (.ag [.v (.bool (jg l).s),.sl (lim (jg l).m).length (qc (lim (jg l).m)),.v (.int .i64 (jg l).e)])):=by
 refine Con.frzA ?_
 refine Con.of_w (rs:=[.cell 2 118]) Tryz.func189 rfl Tryz.ntmps189 rfl ?_
 simp(disch:=omega)only[go_sem]
 refine qa (aeh l h0 hl hb) ?_
 simp(disch:=omega)only[go_sem]
 exact ql
end Go.Ab
namespace Go.Ab
open Go Go.Proofs
def SpV.plus(s t:SpV):SpV:=⟨s.lo.plus t.lo,s.hi.plus t.hi⟩
def zx(F:ExV→ExV→ExV)(s t:SpV):List ExV:=[F s.lo t.lo,F s.lo t.hi,F s.hi t.lo,F s.hi t.hi]
def SpV.times(s t:SpV):SpV:=⟨jg (zx ExV.times s t),zp (zx ExV.times s t)⟩
def SpV.over(s t:SpV)(low:Int):SpV:=⟨jg (zx (fun x y=>x.over y low 3) s t),zp (zx (fun x y=>x.over y low 2) s t)⟩
def SpV.out(s:SpV)(low:Int):SpV:=⟨s.lo.rnd low 3,s.hi.rnd low 2⟩
def SpV.fat(s:SpV)(by':ExV):SpV:=⟨s.lo.plus by'.neg,s.hi.plus by'⟩
def SpV.bd(lo hi:Int)(s:SpV):Prop:=s.lo.bd lo hi∧s.hi.bd lo hi
theorem afn{F:ExV→ExV→ExV}{s t:SpV}{l1 h1 l2 h2 lo hi:Int}(hs:s.bd l1 h1)(ht:t.bd l2 h2)(hF:∀x y:ExV,x.bd l1 h1→y.bd l2 h2→(F x y).bd lo hi):gbd lo hi (zx F s t):=by
 intro x hx
 simp only[zx,List.mem_cons,List.not_mem_nil,or_false]at hx
 rcases hx with rfl|rfl|rfl|rfl
 ·exact hF _ _ hs.1 ht.1
 ·exact hF _ _ hs.1 ht.2
 ·exact hF _ _ hs.2 ht.1
 ·exact hF _ _ hs.2 ht.2
theorem J6(s t:SpV)(hs:s.bd (-400000) 400000)(ht:t.bd (-400000) 400000):Con Tryz.prog 121 false [.ag [.v (.bool (s).lo.s),.sl (lim (s).lo.m).length (qc (lim (s).lo.m)),.v (.int .i64 (s).lo.e),.v (.bool (s).hi.s),.sl (lim (s).hi.m).length (qc (lim (s).hi.m)),.v (.int .i64 (s).hi.e)],.ag [.v (.bool (t).lo.s),.sl (lim (t).lo.m).length (qc (lim (t).lo.m)),.v (.int .i64 (t).lo.e),.v (.bool (t).hi.s),.sl (lim (t).hi.m).length (qc (lim (t).hi.m)),.v (.int .i64 (t).hi.e)]] [] (isA (.ag [.v (.bool (s.plus t).lo.s),.sl (lim (s.plus t).lo.m).length (qc (lim (s.plus t).lo.m)),.v (.int .i64 (s.plus t).lo.e),.v (.bool (s.plus t).hi.s),.sl (lim (s.plus t).hi.m).length (qc (lim (s.plus t).hi.m)),.v (.int .i64 (s.plus t).hi.e)])):=by
 refine Con.frzA ?_
 refine Con.of_w (rs:=[.cell 4 133]) Tryz.func121 rfl Tryz.ntmps121 rfl ?_
 simp(disch:=omega)only[go_sem]
 refine qp rfl [⟨0,[],[]⟩,⟨1,[],[]⟩,⟨2,[1],[]⟩,⟨3,[1],[]⟩,⟨5,[1,3],[]⟩,⟨6,[1,3],[]⟩,⟨7,[1,3,6],[]⟩,⟨8,[1,3,6],[]⟩,⟨4,[6,8],[]⟩,⟨9,[],[]⟩,⟨10,[],[]⟩,⟨11,[],[]⟩] (by kernel_rfl) ?_
 simp(disch:=omega)only[go_sem]
 refine qa (jh s.lo t.lo hs.1 ht.1) ?_
 simp(disch:=omega)only[go_sem]
 refine qa (jh s.hi t.hi hs.2 ht.2) ?_
 simp(disch:=omega)only[go_sem]
 exact ql (hp:=by simp(disch:=omega)only[go_sem,SpV.plus])
theorem aqH(s:SpV)(low:Int)(hs:s.bd (-400000) 400000)(hl: -400000≤low∧low≤400000):Con Tryz.prog 225 false [.ag [.v (.bool (s).lo.s),.sl (lim (s).lo.m).length (qc (lim (s).lo.m)),.v (.int .i64 (s).lo.e),.v (.bool (s).hi.s),.sl (lim (s).hi.m).length (qc (lim (s).hi.m)),.v (.int .i64 (s).hi.e)],.v (.int .i64 low)] [] (isA (.ag [.v (.bool (s.out low).lo.s),.sl (lim (s.out low).lo.m).length (qc (lim (s.out low).lo.m)),.v (.int .i64 (s.out low).lo.e),.v (.bool (s.out low).hi.s),.sl (lim (s.out low).hi.m).length (qc (lim (s.out low).hi.m)),.v (.int .i64 (s.out low).hi.e)])):=by
 refine Con.frzA ?_
 refine Con.of_w (rs:=[.cell 4 133]) Tryz.func225 rfl Tryz.ntmps225 rfl ?_
 simp(disch:=omega)only[go_sem]
 refine qa (Y4 s.lo low 3 hs.1 hl) ?_
 simp(disch:=omega)only[go_sem]
 refine qa (Y4 s.hi low 2 hs.2 hl) ?_
 simp(disch:=omega)only[go_sem]
 exact ql (hp:=by simp(disch:=omega)only[go_sem,SpV.out])
set_option maxRecDepth 100000 in
theorem J7(s t:SpV)(f:Nat)(caps:List AV)(F:ExV→ExV→ExV)(hf:∀x y:ExV,(x=s.lo∨x=s.hi)→(y=t.lo∨y=t.hi)→Con Tryz.prog f false (.ag [.v (.bool (x).s),.sl (lim (x).m).length (qc (lim (x).m)),.v (.int .i64 (x).e)]:: .ag [.v (.bool (y).s),.sl (lim (y).m).length (qc (lim (y).m)),.v (.int .i64 (y).e)]::caps) [] (isA (.ag [.v (.bool (F x y).s),.sl (lim (F x y).m).length (qc (lim (F x y).m)),.v (.int .i64 (F x y).e)])))(hg:qq Tryz.prog f=True)
  (hc:∀h:Nat→Ob,caps.map (qE h 6)=caps) (hc5:∀h:Nat→Ob,caps.map (qE h 5)=caps) (hn:∀ks,AllL (yj ks) caps) (hr:∀ρ,zK ρ caps=caps):
  Con Tryz.prog 186 false [.ag [.v (.bool (s).lo.s),.sl (lim (s).lo.m).length (qc (lim (s).lo.m)),.v (.int .i64 (s).lo.e),.v (.bool (s).hi.s),.sl (lim (s).hi.m).length (qc (lim (s).hi.m)),.v (.int .i64 (s).hi.e)],.ag [.v (.bool (t).lo.s),.sl (lim (t).lo.m).length (qc (lim (t).lo.m)),.v (.int .i64 (t).lo.e),.v (.bool (t).hi.s),.sl (lim (t).hi.m).length (qc (lim (t).hi.m)),.v (.int .i64 (t).hi.e)],.fn f caps] [] (isA (.sl 4 (qm ExV.cs (zx F s t)))):=by
 refine Con.frzA ?_
 refine Con.of_aw Tryz.func186 rfl Tryz.ntmps186 (by simp) (by simp) (by simp) (W.sound ?_)
 show @W Tryz.prog 32 ⟨_⟩ ⟨fun x σ=>@qR _ _ _ ⟨_⟩ _ ⟨_⟩ x σ⟩ _ _
 simp(disch:=omega)only[go_sem,hg]
 refine qp rfl [⟨0,[],[]⟩,⟨1,[],[]⟩,⟨2,[],[]⟩,⟨3,[2],[]⟩,⟨4,[2],[]⟩,⟨6,[2,4],[]⟩,⟨7,[2,4],[]⟩,⟨8,[2,4],[]⟩,⟨9,[2,4,8],[]⟩,⟨10,[2,4,8],[]⟩,⟨12,[2,4,8,10],[]⟩,⟨13,[2,4,8,10],[]⟩,⟨14,[2,4,8,10],[]⟩,⟨15,[2,4,8,10,14],[]⟩,⟨16,[2,4,8,10,14],[]⟩,⟨18,[2,4,8,10,14,16],[]⟩,⟨19,[2,4,8,10,14,16],[]⟩,⟨20,[2,4,8,10,14,16],[]⟩,⟨21,[2,4,8,10,14,16,20],[]⟩,⟨22,[2,4,8,10,14,16,20],[]⟩,⟨5,[8,10,14,16,20,22],[]⟩,⟨11,[14,16,20,22],[]⟩,⟨17,[20,22],[]⟩,⟨23,[],[]⟩,⟨24,[],[]⟩,⟨25,[],[]⟩] (by kernel_rfl) ?_
 simp(disch:=omega)only[go_sem,hg]
 refine qW (hf s.lo t.lo (.inl rfl) (.inl rfl)) (by simp(disch:=omega)only[go_sem,hc,hc5]) ?_
 rintro r hs ⟨rfl,rfl,_⟩
 refine⟨by simp[qO],?_⟩
 simp(disch:=omega)only[go_sem,hg]
 refine qW (hf s.lo t.hi (.inl rfl) (.inr rfl)) (by simp(disch:=omega)only[go_sem,hc,hc5]) ?_
 rintro r hs ⟨rfl,rfl,_⟩
 refine⟨by simp[qO],?_⟩
 simp(disch:=omega)only[go_sem,hg]
 refine qW (hf s.hi t.lo (.inr rfl) (.inl rfl)) (by simp(disch:=omega)only[go_sem,hc,hc5]) ?_
 rintro r hs ⟨rfl,rfl,_⟩
 refine⟨by simp[qO],?_⟩
 simp(disch:=omega)only[go_sem,hg]
 refine qW (hf s.hi t.hi (.inr rfl) (.inr rfl)) (by simp(disch:=omega)only[go_sem,hc,hc5]) ?_
 rintro r hs ⟨rfl,rfl,_⟩
 refine⟨by simp[qO],?_⟩
 simp(disch:=omega)only[go_sem]
 have hrow:qm ExV.cs (zx F s t)=[.v (.bool (F s.lo t.lo).s),.sl (lim (F s.lo t.lo).m).length (qc (lim (F s.lo t.lo).m)),.v (.int .i64 (F s.lo t.lo).e),.v (.bool (F s.lo t.hi).s),.sl (lim (F s.lo t.hi).m).length (qc (lim (F s.lo t.hi).m)),.v (.int .i64 (F s.lo t.hi).e),
   .v (.bool (F s.hi t.lo).s),.sl (lim (F s.hi t.lo).m).length (qc (lim (F s.hi t.lo).m)),.v (.int .i64 (F s.hi t.lo).e),.v (.bool (F s.hi t.hi).s),.sl (lim (F s.hi t.hi).m).length (qc (lim (F s.hi t.hi).m)),.v (.int .i64 (F s.hi t.hi).e)]:=rfl
 rw[←hrow]
 refine qg [(0,330000000)] [.own 3 (qm ExV.cs (zx F s t))] [] [.rf 0 0 4] rfl (by simp(disch:=omega)only[go_sem]) (by simp(disch:=omega)only[go_sem]) (by simp) (by simp) ?_
 show qE _ 6 _=_
 simp(disch:=omega)only[go_sem,zb,zC (l:=zx F s t) (k:=4) rfl]
theorem aed(s t:SpV)(hs:s.bd (-200000) 200000)(ht:t.bd (-200000) 200000):Con Tryz.prog 110 false [.ag [.v (.bool (s).lo.s),.sl (lim (s).lo.m).length (qc (lim (s).lo.m)),.v (.int .i64 (s).lo.e),.v (.bool (s).hi.s),.sl (lim (s).hi.m).length (qc (lim (s).hi.m)),.v (.int .i64 (s).hi.e)],.ag [.v (.bool (t).lo.s),.sl (lim (t).lo.m).length (qc (lim (t).lo.m)),.v (.int .i64 (t).lo.e),.v (.bool (t).hi.s),.sl (lim (t).hi.m).length (qc (lim (t).hi.m)),.v (.int .i64 (t).hi.e)]] [] (isA (.ag [.v (.bool (s.times t).lo.s),.sl (lim (s.times t).lo.m).length (qc (lim (s.times t).lo.m)),.v (.int .i64 (s.times t).lo.e),.v (.bool (s.times t).hi.s),.sl (lim (s.times t).hi.m).length (qc (lim (s.times t).hi.m)),.v (.int .i64 (s.times t).hi.e)])):=by
 refine Con.frzA ?_
 have hm:∀x:ExV,x.bd (-200000) 200000→x.bd (-400000) 400000:=fun x h=>h.mono (by omega) (by omega)
 have he:=afn (F:=ExV.times) (lo:= -400000) (hi:=400000) hs ht (fun x y hx hy=>(ExV.times_bd hx hy).mono (by omega) (by omega))
 have ce:=J7 s t 120 [] ExV.times (fun x y hx hy=>by
  refine QX x y (hm x ?_) (hm y ?_)
  ·rcases hx with rfl|rfl
   ·exact hs.1
   ·exact hs.2
  ·rcases hy with rfl|rfl
   ·exact ht.1
   ·exact ht.2) (by simp(disch:=omega)only[go_sem]) (fun h=>rfl) (fun h=>rfl) (fun ks=>by simp(disch:=omega)only[go_sem]) (fun ρ=>rfl)
 unfold SpV.times
 generalize hE:zx ExV.times s t=E at*
 have hE4:E.length=4:=by rw[←hE];rfl
 have cl:=aaB E (by omega) (by omega) he
 have cm:=afr E (by omega) (by omega) he
 rw[hE4]at cl cm
 refine Con.of_w (rs:=[.cell 4 133]) Tryz.func110 rfl Tryz.ntmps110 rfl ?_
 simp(disch:=omega)only[go_sem]
 refine qa (ce) ?_
 simp(disch:=omega)only[go_sem]
 refine qa (cl) ?_
 simp(disch:=omega)only[go_sem]
 refine qa (cm) ?_
 simp(disch:=omega)only[go_sem]
 exact ql
end Go.Ab
namespace Go.Ab
open Go
section
variable {P:Program}{N:Nat}{σ:St}{Q:Exit→St→Prop}
theorem Le.nilC(m o:Nat){zo:Nat}{cs:List AV}(hm:σ.hp m=.own zo cs)(ho:cs[o]? =some (.v (.slice none 0 0))):
  Le σ ⟨σ.env,upd σ.hp m (.own zo (cs.set o (.sl 0 [])))⟩:=by
 intro L w0 R0 N a w hi
 obtain⟨R,ι,hR,h⟩:=hi.inv
 obtain⟨hol,hoe⟩:=List.getElem?_eq_some_iff.1 ho
 have key:Inv L w0 R ι w a.tmps ⟨σ.env,upd σ.hp m (.own zo (cs.set o (.sl 0 [])))⟩:=by
  cases hB:ι m with
  |none=>
   have:=h.hp.ok m
   rw[hm,hB]at this
   have e:cs=[]:=this
   rw[e]at hol;simp at hol
  |some B=>
   obtain⟨c,T,lo,hi',h1,h2,h3,h4,h5,h6⟩:=jv h hm hB
   refine h.turn hm hB rfl rfl rfl rfl (fun _ _=>rfl) ⟨c,T,lo,hi',h1,h2,h3,h4,by rw[List.length_set];exact h5,fun i hi2=>?_⟩ (AllL.of_get fun i hi2=>?_)
   ·rw[List.length_set]at hi2
    rw[List.getElem_set]
    by_cases e:o=i
    ·subst e
     rw[if_pos rfl]
     have:=h6 o hi2
     rw[hoe]at this
     rw[this.v_inv]
     exact .fr _ _ (.sl none 0 0 [] (fun _=>undef) 0 0 (Nat.le_refl _) (fun h=>absurd h (by simp)) (fun i h=>absurd h (by simp)) (fun i h=>absurd h (by simp)))
    ·rw[if_neg e];exact h6 i hi2
   ·rw[List.length_set]at hi2
    rw[List.getElem_set]
    split
    ·simp[AV.All]
    ·exact(h.hp.men m zo cs hm).get i hi2
 exact⟨hi.df,hi.sz,R,ι,hR,key⟩
theorem Le.frz(m:Nat){z:Nat}{ks:List AV}(hm:σ.hp m=.own z ks)(hl:j6 m=false)(hn:AllL (fun _=>False) ks):
  Le σ ⟨fun s=>(σ.env s).fz m z ks,fun k=>if k=m then .dead else(σ.hp k).fz m z ks⟩:=by
 have:=Le.freeze m hm hl hn
 have e:(fun k=>bif Nat.beq k m then Ob.dead else(σ.hp k).fz m z ks)=fun k=>if k=m then Ob.dead else(σ.hp k).fz m z ks:=by
  funext k
  by_cases h:k=m
  ·subst h;rw[Nat.beq_refl,cond_true,if_pos rfl]
  ·rw[ae6 h,cond_false,if_neg h]
 rwa[e]at this
theorem AW.seqLe{x y:Code}{E:List (Nat×AV)}{H:List (Nat×Ob)}(hx:AW P N x (fun ex σ'=>ex=.normal∧Le σ' ⟨ofL .un E,ofH H⟩) σ)(hy:AW P N y Q ⟨ofL .un E,ofH H⟩):AW P N (.seq x y) Q σ:=
 AW.seq (hx.mono fun ex σ' ⟨he,hl⟩=>by subst he;exact AW.le hl hy)
end
section
variable {m z:Nat}{ks:List AV}
theorem aZV:AV.fz m z ks .un=.un:=ID rfl
theorem beF{x:Value}:AV.fz m z ks (.v x)=.v x:=ID rfl
theorem aZX{n:Nat}{cs:List AV}:AV.fz m z ks (.sl n cs)=.sl n cs:=ID rfl
theorem aZ0{o:Nat}{cs:List AV}:AV.fz m z ks (.fp cs o)=.fp cs o:=ID rfl
theorem aZZ{nm o:Nat}:AV.fz m z ks (.pt nm o)=if nm=m then .fp ks o else .pt nm o:=by
 by_cases h:nm=m
 ·subst h;simp[AV.fz,Nat.beq_refl]
 ·simp[AV.fz,ae6 h,h]
theorem aZY{nm o n:Nat}:AV.fz m z ks (.rf nm o n)=if nm=m then .sl n (cut ks o (n*z))else .rf nm o n:=by
 by_cases h:nm=m
 ·subst h;simp[AV.fz,Nat.beq_refl]
 ·simp[AV.fz,ae6 h,h]
theorem aZ2{cs:List AV}:AV.fz m z ks (.ag cs)=.ag (fzL m z ks cs):=ID rfl
theorem aZW{cs:List AV}:AV.fz m z ks (.tu cs)=.tu (fzL m z ks cs):=ID rfl
theorem aZ1{f:Nat}{cs:List AV}:AV.fz m z ks (.fn f cs)=.fn f (fzL m z ks cs):=ID rfl
theorem aLy:fzL m z ks []=[]:=ID rfl
theorem aCA{a:AV}{r:List AV}:fzL m z ks (a::r)=a.fz m z ks::fzL m z ks r:=ID rfl
theorem aNc{y:Nat}{cs:List AV}:Ob.fz m z ks (.own y cs)=.own y (fzL m z ks cs):=ID rfl
theorem aCz{xs:List Int}:fzL m z ks (qc xs)=qc xs:=by simp[jN,qc,AV.fz]
end
section
variable {h:Nat→Ob}{ix:Nat→Option Nat}{k:Nat}
theorem aOk{f:Nat}{cs:List AV}:snp h ix (k+1) (.fn f cs)=.fn f (cs.map (snp h ix k)):=ID rfl
theorem aOl{cs:List AV}:snp h ix (k+1) (.ag cs)=.ag (cs.map (snp h ix k)):=ID rfl
theorem aOj{o:Nat}{cs:List AV}:snp h ix (k+1) (.fp cs o)=.fp cs o:=ID rfl
end
attribute [go_sem] aOk aOl aOj
attribute [go_sem] aZV beF aZX aZ0 aZZ aZY aZ2 aZW aZ1 aLy aCA aNc aCz
end Go.Ab
namespace Go.Ab
open Go Go.Proofs
theorem zX{n i j:Nat}(hi:i<n)(hj:j<n):i*n+j<n*n:=by
 have:(i+1)*n≤n*n:=Nat.mul_le_mul_right n hi
 rw[Nat.add_mul,Nat.one_mul]at this;omega
theorem yn{n:Nat}(h:n≤4):n*n≤16:=Nat.mul_le_mul h h
theorem afm{lo hi:Int}(h1:lo≤0)(h2:0≤hi):ex0.bd lo hi:=⟨fun _=>rfl,h1,by show((bl 0:Nat):Int)+0≤hi;rw[Jv];omega⟩
theorem aLs{n:Nat}{g:Nat→Nat→ExV}{lo hi:Int}(h:∀i j,i<n→j<n→(g i j).bd lo hi):gbd lo hi (gl n g (n*n)):=by
 intro x hx
 simp only[gl,List.mem_map,List.mem_range]at hx
 obtain⟨t,ht,rfl⟩:=hx
 have hn:0<n:=by
  rcases Nat.eq_zero_or_pos n with e|e
  ·subst e;simp at ht
  ·exact e
 exact h _ _ (Nat.div_lt_of_lt_mul ht) (Nat.mod_lt _ hn)
theorem jC(n:Nat)(f:Nat)(caps:List AV)(g:Nat→Nat→ExV)(hn0:n≤4)(hf:∀i j:Nat,i<n→j<n→Con Tryz.prog f false (.v (.int .i64 i):: .v (.int .i64 j)::caps) [] (isA (.ag [.v (.bool (g i j).s),.sl (lim (g i j).m).length (qc (lim (g i j).m)),.v (.int .i64 (g i j).e)])))(hg:qq Tryz.prog f=True)
  (hc:∀h:Nat→Ob,caps.map (qE h 6)=caps) (hc5:∀h:Nat→Ob,caps.map (qE h 5)=caps) (hn:∀ks,AllL (yj ks) caps) (hr:∀ρ,zK ρ caps=caps):
  Con Tryz.prog 97 false [.v (.int .i64 n),.fn f caps] [] (isA (.ag [.v (.int .i64 (n)),.sl (gl n g (n*n)).length (qm ExV.cs (gl n g (n*n)))])):=by
 rw[yA];exact aka n f caps g hn0 hf hg hc hc5 hn hr
def jr(n:Nat)(l l':List ExV):List ExV:=gl n (fun i j=>(l.getD (i*n+j) ex0).plus (l'.getD (i*n+j) ex0)) (n*n)
theorem akc(n:Nat)(l l':List ExV)(i j:Nat)(hn:n≤4)(hi:i<n)(hj:j<n)(hl:l.length=n*n)(hl':l'.length=n*n)(hb:gbd (-400000) 400000 l)(hb':gbd (-400000) 400000 l'):
  Con Tryz.prog 168 false [.v (.int .i64 i),.v (.int .i64 j),.fp [.v (.int .i64 n),.sl l.length (qm ExV.cs l)] 0,.fp [.v (.int .i64 n),.sl l'.length (qm ExV.cs l')] 0] [] (isA (.ag [.v (.bool ((l.getD (i*n+j) ex0).plus (l'.getD (i*n+j) ex0)).s),.sl (lim ((l.getD (i*n+j) ex0).plus (l'.getD (i*n+j) ex0)).m).length (qc (lim ((l.getD (i*n+j) ex0).plus (l'.getD (i*n+j) ex0)).m)),.v (.int .i64 ((l.getD (i*n+j) ex0).plus (l'.getD (i*n+j) ex0)).e)])):=by
 refine Con.frzA ?_
 have hx:=zX hi hj
 have hq:=yn hn
 have c1:=Jo n l i j (by omega) (by omega) (by omega) (by omega) (by omega)
 have c2:=Jo n l' i j (by omega) (by omega) (by omega) (by omega) (by omega)
 have b1:=q7 hb (show i*n+j<l.length by omega)
 have b2:=q7 hb' (show i*n+j<l'.length by omega)
 generalize l.getD (i*n+j) ex0=x at*
 generalize l'.getD (i*n+j) ex0=y at*
 refine Con.of_w (rs:=[.cell 6 118]) Tryz.func168 rfl Tryz.ntmps168 rfl ?_
 simp(disch:=omega)only[go_sem]
 refine qp rfl [⟨0,[],[]⟩,⟨1,[0],[]⟩,⟨2,[0],[]⟩,⟨4,[0],[]⟩,⟨5,[0,4],[]⟩,⟨6,[0,4],[]⟩,⟨3,[4],[]⟩,⟨7,[],[]⟩,⟨8,[],[]⟩,⟨9,[],[]⟩] (by kernel_rfl) ?_
 simp(disch:=omega)only[go_sem]
 refine qa (c1) ?_
 simp(disch:=omega)only[go_sem]
 refine qa (c2) ?_
 simp(disch:=omega)only[go_sem]
 refine qa (jh x y b1 b2) ?_
 simp(disch:=omega)only[go_sem]
 exact ql
theorem arb(n:Nat)(l l':List ExV)(hn:n≤4)(hl:l.length=n*n)(hl':l'.length=n*n)(hb:gbd (-400000) 400000 l)(hb':gbd (-400000) 400000 l'):Con Tryz.prog 85 false [.ag [.v (.int .i64 (n)),.sl (l).length (qm ExV.cs (l))],.ag [.v (.int .i64 (n)),.sl (l').length (qm ExV.cs (l'))]] [] (isA (.ag [.v (.int .i64 (n)),.sl (jr n l l').length (qm ExV.cs (jr n l l'))])):=by
 refine Con.frzA ?_
 have c:=jC n 168 [.fp [.v (.int .i64 n),.sl l.length (qm ExV.cs l)] 0,.fp [.v (.int .i64 n),.sl l'.length (qm ExV.cs l')] 0] (fun i j=>(l.getD (i*n+j) ex0).plus (l'.getD (i*n+j) ex0)) hn (fun i j hi hj=>akc n l l' i j hn hi hj hl hl' hb hb') (by simp(disch:=omega)only[go_sem]) (fun h=>rfl) (fun h=>rfl) (fun ks=>by simp(disch:=omega)only[go_sem]) (fun ρ=>rfl)
 change Con _ _ _ _ _ (isA (.ag [.v (.int .i64 (n)),.sl (jr n l l').length (qm ExV.cs (jr n l l'))]))at c
 refine Con.of_aw Tryz.func85 rfl Tryz.ntmps85 (by simp) (by simp) (by simp) (AW.seqLe (E:=[(2,.fp [.v (.int .i64 n),.sl l.length (qm ExV.cs l)] 0),(3,.fp [.v (.int .i64 n),.sl l'.length (qm ExV.cs l')] 0),(4,.pt 0 0)]) (H:=[(0,.own 0 [.v (.int .i64 0),.v (.slice none 0 0)])]) (W.sound ?_) (W.sound ?_))
 ·show @W Tryz.prog 9 ⟨_⟩ ⟨_⟩ _ _
  simp(disch:=omega)only[go_sem]
  exact(Le.frz 40000000 (z:=0) (ks:=[.v (.int .i64 n),.sl l.length (qm ExV.cs l)]) (by simp(disch:=omega)only[go_sem]) rfl (by simp(disch:=omega)only[go_sem])).trans ((Le.frz 50000000 (z:=0) (ks:=[.v (.int .i64 n),.sl l'.length (qm ExV.cs l')]) (by simp(disch:=omega)only[go_sem]) rfl (by simp(disch:=omega)only[go_sem])).trans (Le.lst [(0,60000000)] _ _ rfl (by simp(disch:=omega)only[go_sem]) (by simp(disch:=omega)only[go_sem])))
 show @W Tryz.prog 9 ⟨_⟩ ⟨fun x σ=>@qR _ _ _ ⟨_⟩ _ ⟨_⟩ x σ⟩ _ _
 simp(disch:=omega)only[go_sem]
 refine qa (c) ?_
 simp(disch:=omega)only[go_sem]
 exact ql
def bcc(n:Nat)(l l':List ExV):List ExV:=gl n (fun i j=>(l.getD (i*n+j) ex0).plus (l'.getD (i*n+j) ex0).neg) (n*n)
def jM(n:Nat)(l:List ExV)(y:ExV):List ExV:=gl n (fun i j=>(l.getD (i*n+j) ex0).times y) (n*n)
theorem aaI(n:Nat)(l:List ExV)(y:ExV)(i j:Nat)(hn:n≤4)(hi:i<n)(hj:j<n)(hl:l.length=n*n)(hb:gbd (-400000) 400000 l)(hy:y.bd (-400000) 400000):
  Con Tryz.prog 167 false [.v (.int .i64 i),.v (.int .i64 j),.fp [.v (.int .i64 n),.sl l.length (qm ExV.cs l)] 0,.fp [.v (.bool y.s),.sl (lim y.m).length (qc (lim y.m)),.v (.int .i64 y.e)] 0] [] (isA (.ag [.v (.bool ((l.getD (i*n+j) ex0).times y).s),.sl (lim ((l.getD (i*n+j) ex0).times y).m).length (qc (lim ((l.getD (i*n+j) ex0).times y).m)),.v (.int .i64 ((l.getD (i*n+j) ex0).times y).e)])):=by
 refine Con.frzA ?_
 have hx:=zX hi hj
 have hq:=yn hn
 have c1:=Jo n l i j (by omega) (by omega) (by omega) (by omega) (by omega)
 have b1:=q7 hb (show i*n+j<l.length by omega)
 generalize l.getD (i*n+j) ex0=x at*
 refine Con.of_w (rs:=[.cell 6 118]) Tryz.func167 rfl Tryz.ntmps167 rfl ?_
 simp(disch:=omega)only[go_sem]
 refine qp rfl [⟨0,[],[]⟩,⟨1,[0],[]⟩,⟨2,[0],[]⟩,⟨4,[0],[]⟩,⟨3,[4],[]⟩,⟨5,[],[]⟩,⟨6,[],[]⟩] (by kernel_rfl) ?_
 simp(disch:=omega)only[go_sem]
 refine qa (c1) ?_
 simp(disch:=omega)only[go_sem]
 refine qa (QX x y b1 hy) ?_
 simp(disch:=omega)only[go_sem]
 exact ql
theorem aes(n:Nat)(l:List ExV)(y:ExV)(hn:n≤4)(hl:l.length=n*n)(hb:gbd (-400000) 400000 l)(hy:y.bd (-400000) 400000):Con Tryz.prog 84 false [.ag [.v (.int .i64 (n)),.sl (l).length (qm ExV.cs (l))],.ag [.v (.bool (y).s),.sl (lim (y).m).length (qc (lim (y).m)),.v (.int .i64 (y).e)]] [] (isA (.ag [.v (.int .i64 (n)),.sl (jM n l y).length (qm ExV.cs (jM n l y))])):=by
 refine Con.frzA ?_
 have c:=jC n 167 [.fp [.v (.int .i64 n),.sl l.length (qm ExV.cs l)] 0,.fp [.v (.bool y.s),.sl (lim y.m).length (qc (lim y.m)),.v (.int .i64 y.e)] 0] (fun i j=>(l.getD (i*n+j) ex0).times y) hn (fun i j hi hj=>aaI n l y i j hn hi hj hl hb hy) (by simp(disch:=omega)only[go_sem]) (fun h=>rfl) (fun h=>rfl) (fun ks=>by simp(disch:=omega)only[go_sem]) (fun ρ=>rfl)
 change Con _ _ _ _ _ (isA (.ag [.v (.int .i64 (n)),.sl (jM n l y).length (qm ExV.cs (jM n l y))]))at c
 refine Con.of_aw Tryz.func84 rfl Tryz.ntmps84 (by simp) (by simp) (by simp) (AW.seqLe (E:=[(2,.fp [.v (.int .i64 n),.sl l.length (qm ExV.cs l)] 0),(3,.fp [.v (.bool y.s),.sl (lim y.m).length (qc (lim y.m)),.v (.int .i64 y.e)] 0),(4,.pt 0 0)]) (H:=[(0,.own 0 [.v (.int .i64 0),.v (.slice none 0 0)])]) (W.sound ?_) (W.sound ?_))
 ·show @W Tryz.prog 9 ⟨_⟩ ⟨_⟩ _ _
  simp(disch:=omega)only[go_sem]
  exact(Le.frz 40000000 (z:=0) (ks:=[.v (.int .i64 n),.sl l.length (qm ExV.cs l)]) (by simp(disch:=omega)only[go_sem]) rfl (by simp(disch:=omega)only[go_sem])).trans ((Le.frz 50000000 (z:=0) (ks:=[.v (.bool y.s),.sl (lim y.m).length (qc (lim y.m)),.v (.int .i64 y.e)]) (by simp(disch:=omega)only[go_sem]) rfl (by simp(disch:=omega)only[go_sem])).trans (Le.lst [(0,60000000)] _ _ rfl (by simp(disch:=omega)only[go_sem]) (by simp(disch:=omega)only[go_sem])))
 show @W Tryz.prog 9 ⟨_⟩ ⟨fun x σ=>@qR _ _ _ ⟨_⟩ _ ⟨_⟩ x σ⟩ _ _
 simp(disch:=omega)only[go_sem]
 refine qa (c) ?_
 simp(disch:=omega)only[go_sem]
 exact ql
def aLx(n:Nat)(l:List ExV)(low mode:Int):List ExV:=gl n (fun i j=>(l.getD (i*n+j) ex0).rnd low mode) (n*n)
theorem ara(n:Nat)(l:List ExV)(low mode:Int)(i j:Nat)(hn:n≤4)(hi:i<n)(hj:j<n)(hl:l.length=n*n)(hb:gbd (-400000) 400000 l)(hlo: -400000≤low∧low≤400000):
  Con Tryz.prog 217 false [.v (.int .i64 i),.v (.int .i64 j),.fp [.v (.int .i64 n),.sl l.length (qm ExV.cs l)] 0,.fp [.v (.int .i64 low)] 0,.fp [.v (.int .i64 mode)] 0] [] (isA (.ag [.v (.bool ((l.getD (i*n+j) ex0).rnd low mode).s),.sl (lim ((l.getD (i*n+j) ex0).rnd low mode).m).length (qc (lim ((l.getD (i*n+j) ex0).rnd low mode).m)),.v (.int .i64 ((l.getD (i*n+j) ex0).rnd low mode).e)])):=by
 refine Con.frzA ?_
 have hx:=zX hi hj
 have hq:=yn hn
 have c1:=Jo n l i j (by omega) (by omega) (by omega) (by omega) (by omega)
 have b1:=q7 hb (show i*n+j<l.length by omega)
 generalize l.getD (i*n+j) ex0=x at*
 refine Con.of_w (rs:=[.cell 7 118]) Tryz.func217 rfl Tryz.ntmps217 rfl ?_
 simp(disch:=omega)only[go_sem]
 refine qp rfl [⟨0,[],[]⟩,⟨1,[0],[]⟩,⟨2,[0],[]⟩,⟨4,[0],[]⟩,⟨5,[0,4],[]⟩,⟨10,[0,4,5],[]⟩,⟨3,[4,5],[100000000]⟩,⟨6,[],[100000000]⟩,⟨7,[],[100000000]⟩,⟨8,[],[100000000]⟩,⟨9,[],[100000000]⟩,⟨11,[],[]⟩,⟨12,[],[]⟩] (by kernel_rfl) ?_
 simp(disch:=omega)only[go_sem]
 refine qa (c1) ?_
 simp(disch:=omega)only[go_sem]
 refine qa (Y4 x low mode b1 hlo) ?_
 simp(disch:=omega)only[go_sem]
 exact ql
theorem aDx(n:Nat)(l:List ExV)(low mode:Int)(hn:n≤4)(hl:l.length=n*n)(hb:gbd (-400000) 400000 l)(hlo: -400000≤low∧low≤400000):Con Tryz.prog 147 false [.ag [.v (.int .i64 (n)),.sl (l).length (qm ExV.cs (l))],.v (.int .i64 low),.v (.int .i64 mode)] [] (isA (.ag [.v (.int .i64 (n)),.sl (aLx n l low mode).length (qm ExV.cs (aLx n l low mode))])):=by
 refine Con.frzA ?_
 have c:=jC n 217 [.fp [.v (.int .i64 n),.sl l.length (qm ExV.cs l)] 0,.fp [.v (.int .i64 low)] 0,.fp [.v (.int .i64 mode)] 0] (fun i j=>(l.getD (i*n+j) ex0).rnd low mode) hn (fun i j hi hj=>ara n l low mode i j hn hi hj hl hb hlo) (by simp(disch:=omega)only[go_sem]) (fun h=>rfl) (fun h=>rfl) (fun ks=>by simp(disch:=omega)only[go_sem]) (fun ρ=>rfl)
 change Con _ _ _ _ _ (isA (.ag [.v (.int .i64 (n)),.sl (aLx n l low mode).length (qm ExV.cs (aLx n l low mode))]))at c
 refine Con.of_aw Tryz.func147 rfl Tryz.ntmps147 (by simp) (by simp) (by simp) (AW.seqLe (E:=[(3,.fp [.v (.int .i64 n),.sl l.length (qm ExV.cs l)] 0),(4,.fp [.v (.int .i64 low)] 0),(5,.fp [.v (.int .i64 mode)] 0),(6,.pt 0 0)]) (H:=[(0,.own 0 [.v (.int .i64 0),.v (.slice none 0 0)])]) (W.sound ?_) (W.sound ?_))
 ·show @W Tryz.prog 11 ⟨_⟩ ⟨_⟩ _ _
  simp(disch:=omega)only[go_sem]
  exact(Le.frz 50000000 (z:=0) (ks:=[.v (.int .i64 n),.sl l.length (qm ExV.cs l)]) (by simp(disch:=omega)only[go_sem]) rfl (by simp(disch:=omega)only[go_sem])).trans ((Le.frz 60000000 (z:=0) (ks:=[.v (.int .i64 low)]) (by simp(disch:=omega)only[go_sem]) rfl (by simp(disch:=omega)only[go_sem])).trans ((Le.frz 70000000 (z:=0) (ks:=[.v (.int .i64 mode)]) (by simp(disch:=omega)only[go_sem]) rfl (by simp(disch:=omega)only[go_sem])).trans (Le.lst [(0,80000000)] _ _ rfl (by simp(disch:=omega)only[go_sem]) (by simp(disch:=omega)only[go_sem]))))
 show @W Tryz.prog 11 ⟨_⟩ ⟨fun x σ=>@qR _ _ _ ⟨_⟩ _ ⟨_⟩ x σ⟩ _ _
 simp(disch:=omega)only[go_sem]
 refine qa (c) ?_
 simp(disch:=omega)only[go_sem]
 exact ql
def ex1:ExV:=⟨false,1,0⟩
theorem Y5:Con Tryz.prog 166 false [] [] (isA (.ag [.v (.bool (ex1).s),.sl (lim (ex1).m).length (qc (lim (ex1).m)),.v (.int .i64 (ex1).e)])):=by
 refine Con.frzA ?_
 refine Con.of_w (rs:=[.cell 0 118]) Tryz.func166 rfl Tryz.ntmps166 rfl ?_
 simp(disch:=omega)only[go_sem]
 refine qa (zD 1 (by omega)) ?_
 simp(disch:=omega)only[go_sem]
 exact ql (hp:=by simp(disch:=omega)only[go_sem,ex1])
def idF(i j:Nat):ExV:=if i=j then ex1 else ex0
def gId(n:Nat):List ExV:=gl n idF (n*n)
theorem aMq(i j:Nat):Con Tryz.prog 165 false [.v (.int .i64 i),.v (.int .i64 j)] [] (isA (.ag [.v (.bool (idF i j).s),.sl (lim (idF i j).m).length (qc (lim (idF i j).m)),.v (.int .i64 (idF i j).e)])):=by
 refine Con.frzA ?_
 refine Con.of_w (rs:=[.cell 4 118]) Tryz.func165 rfl Tryz.ntmps165 rfl ?_
 simp(disch:=omega)only[go_sem]
 refine qe (fun h1=>?_) (fun h1=>?_)
 ·simp(disch:=omega)only[go_sem,h1]
  have e:idF i j=ex1:=if_pos (by omega)
  rw[e]
  refine qa (Y5) ?_
  simp(disch:=omega)only[go_sem]
  exact ql
 ·simp(disch:=omega)only[go_sem,h1]
  have e:idF i j=ex0:=if_neg (by omega)
  rw[e]
  exact ql (hp:=by simp(disch:=omega)only[go_sem,ex0,qo,List.length_nil,jp])
theorem aMr(n:Nat)(hn:n≤4):Con Tryz.prog 82 false [.v (.int .i64 n)] [] (isA (.ag [.v (.int .i64 (n)),.sl (gId n).length (qm ExV.cs (gId n))])):=by
 refine Con.frzA ?_
 have c:=jC n 165 [] idF hn (fun i j hi hj=>aMq i j) (by simp(disch:=omega)only[go_sem]) (fun h=>rfl) (fun h=>rfl) (fun ks=>by simp(disch:=omega)only[go_sem]) (fun ρ=>rfl)
 change Con _ _ _ _ _ (isA (.ag [.v (.int .i64 (n)),.sl (gId n).length (qm ExV.cs (gId n))]))at c
 refine Con.of_w (rs:=[.cell 2 113]) Tryz.func82 rfl Tryz.ntmps82 rfl ?_
 simp(disch:=omega)only[go_sem]
 refine qa (c) ?_
 simp(disch:=omega)only[go_sem]
 exact ql
theorem YT{lo hi:Int}(g:Nat→ExV)(h0:lo≤0∧0≤hi):∀k:Nat,(∀t,t<k→(g t).bd lo hi)→((List.range k).foldl (fun s t=>s.plus (g t)) ex0).bd lo (hi+k)
 |0,_=>afm h0.1 (by simpa using h0.2)
 |k+1,h=>by
  rw[List.range_succ,List.foldl_append,List.foldl_cons,List.foldl_nil]
  have:=ExV.plus_bd (YT g h0 k fun t ht=>h t (by omega)) ((h k (by omega)).mono (Int.le_refl _) (show hi≤hi+k by omega))
  exact this.mono (Int.le_refl _) (by omega)
def Y0(n:Nat)(l l':List ExV)(i j k:Nat):ExV:=(List.range k).foldl (fun s t=>s.plus ((l.getD (i*n+t) ex0).times (l'.getD (t*n+j) ex0))) ex0
def zv(n:Nat)(l l':List ExV):List ExV:=gl n (fun i j=>Y0 n l l' i j n) (n*n)
theorem aqx(n:Nat)(l l':List ExV)(i j:Nat):Y0 n l l' i j 0=ex0:=rfl
theorem aav(n:Nat)(l l':List ExV)(i j k:Nat):Y0 n l l' i j (k+1)=(Y0 n l l' i j k).plus ((l.getD (i*n+k) ex0).times (l'.getD (k*n+j) ex0)):=by
 unfold Y0;rw[List.range_succ,List.foldl_append,List.foldl_cons,List.foldl_nil]
theorem aqy{l1 h1 l2 h2:Int}{n:Nat}{l l':List ExV}{i j k:Nat}(hi:i<n)(hj:j<n)(hk:k≤n)(hl:l.length=n*n)(hl':l'.length=n*n)(hb:gbd l1 h1 l)(hb':gbd l2 h2 l')(h0:l1+l2≤0∧0≤h1+h2):(Y0 n l l' i j k).bd (l1+l2) (h1+h2+k):=
 YT _ h0 k fun t ht=>ExV.times_bd (q7 hb (by rw[hl];exact zX hi (by omega))) (q7 hb' (by rw[hl'];exact zX (by omega) hj))
theorem aer(n:Nat)(l l':List ExV)(i j:Nat)(hn:n≤4)(hi:i<n)(hj:j<n)(hl:l.length=n*n)(hl':l'.length=n*n)(hb:gbd (-190000) 190000 l)(hb':gbd (-190000) 190000 l'):
  Con Tryz.prog 169 false [.v (.int .i64 i),.v (.int .i64 j),.fp [.v (.int .i64 n),.sl l.length (qm ExV.cs l)] 0,.fp [.v (.int .i64 n),.sl l'.length (qm ExV.cs l')] 0] [] (isA (.ag [.v (.bool (Y0 n l l' i j n).s),.sl (lim (Y0 n l l' i j n).m).length (qc (lim (Y0 n l l' i j n).m)),.v (.int .i64 (Y0 n l l' i j n).e)])):=by
 refine Con.frzA ?_
 have hq:=yn hn
 refine Con.of_w (rs:=[.cell 6 118]) Tryz.func169 rfl Tryz.ntmps169 rfl ?_
 simp(disch:=omega)only[go_sem]
 refine qj (fun k:Nat=>[(0,.v (.int .i64 i)),(1,.v (.int .i64 j)),(2,.fp [.v (.int .i64 n),.sl l.length (qm ExV.cs l)] 0),(3,.fp [.v (.int .i64 n),.sl l'.length (qm ExV.cs l')] 0),(6,.pt 1 0),(7,.pt 0 0),(10,.v (.int .i64 n)),(11,.v (.int .i64 k))])
  (fun k=>[(0,.own 0 [.v (.bool (Y0 n l l' i j k).s),.sl (lim (Y0 n l l' i j k).m).length (qc (lim (Y0 n l l' i j k).m)),.v (.int .i64 (Y0 n l l' i j k).e)]),(1,.own 0 [.v (.bool false),.v (.slice none 0 0),.v (.int .i64 0)])])
  (fun k=>k≤n) (fun k=>n-k) 0 (by omega) ?_ ?_
 ·exact(Le.nilC 90000000 1 (zo:=0) (cs:=[.v (.bool false),.v (.slice none 0 0),.v (.int .i64 0)]) (by simp(disch:=omega)only[go_sem]) rfl).trans (Le.lst [(0,90000000),(1,80000000)] _ _ rfl (by simp(disch:=omega)only[go_sem]) (by simp(disch:=omega)only[go_sem,List.set_cons_succ,List.set_cons_zero,aqx,ex0,qo]))
 intro k hk
 have hD:=aqy (k:=k) hi hj hk hl hl' hb hb' (by omega)
 have hs:=aav n l l' i j k
 generalize hDD:Y0 n l l' i j k=D at*
 simp(disch:=omega)only[go_sem]
 refine qe (fun h1=>?_) (fun h1=>?_)
 ·have hk2:k<n:=by omega
  have hx:=zX hi hk2
  have hx':=zX hk2 hj
  have c1:=Jo n l i k (by omega) (by omega) (by omega) (by omega) (by omega)
  have c2:=Jo n l' k j (by omega) (by omega) (by omega) (by omega) (by omega)
  have b1:=q7 hb (show i*n+k<l.length by omega)
  have b2:=q7 hb' (show k*n+j<l'.length by omega)
  generalize l.getD (i*n+k) ex0=x at*
  generalize l'.getD (k*n+j) ex0=y at*
  simp(disch:=omega)only[go_sem,h1]
  refine qp rfl [⟨0,[],[]⟩,⟨1,[0],[]⟩,⟨2,[0,1],[]⟩,⟨3,[0,1],[]⟩,⟨5,[0,1],[]⟩,⟨6,[0,1,5],[]⟩,⟨7,[0,1,5],[]⟩,⟨4,[0,5],[]⟩,⟨8,[0],[]⟩,⟨9,[0],[]⟩,⟨10,[],[]⟩,⟨11,[],[]⟩] (by kernel_rfl) ?_
  simp(disch:=omega)only[go_sem]
  refine qa (c1) ?_
  simp(disch:=omega)only[go_sem]
  refine qa (c2) ?_
  simp(disch:=omega)only[go_sem]
  refine qa (QX x y (b1.mono (by omega) (by omega)) (b2.mono (by omega) (by omega))) ?_
  simp(disch:=omega)only[go_sem]
  refine qa (jh D (x.times y) (hD.mono (by omega) (by omega)) ((ExV.times_bd b1 b2).mono (by omega) (by omega))) ?_
  simp(disch:=omega)only[go_sem]
  exact qb (k+1) [] (by show k+1≤_;omega) (by show n-(k+1)<n-k;omega) rfl (by simp(disch:=omega)only[go_sem];try omega) (by simp(disch:=omega)only[go_sem,hs])
 ·simp(disch:=omega)only[go_sem,h1]
  obtain rfl:n=k:=by omega
  rw[hDD]
  exact ql
theorem akb(n:Nat)(l l':List ExV)(hn:n≤4)(hl:l.length=n*n)(hl':l'.length=n*n)(hb:gbd (-190000) 190000 l)(hb':gbd (-190000) 190000 l'):Con Tryz.prog 87 false [.ag [.v (.int .i64 (n)),.sl (l).length (qm ExV.cs (l))],.ag [.v (.int .i64 (n)),.sl (l').length (qm ExV.cs (l'))]] [] (isA (.ag [.v (.int .i64 (n)),.sl (zv n l l').length (qm ExV.cs (zv n l l'))])):=by
 refine Con.frzA ?_
 have c:=jC n 169 [.fp [.v (.int .i64 n),.sl l.length (qm ExV.cs l)] 0,.fp [.v (.int .i64 n),.sl l'.length (qm ExV.cs l')] 0] (fun i j=>Y0 n l l' i j n) hn (fun i j hi hj=>aer n l l' i j hn hi hj hl hl' hb hb') (by simp(disch:=omega)only[go_sem]) (fun h=>rfl) (fun h=>rfl) (fun ks=>by simp(disch:=omega)only[go_sem]) (fun ρ=>rfl)
 change Con _ _ _ _ _ (isA (.ag [.v (.int .i64 (n)),.sl (zv n l l').length (qm ExV.cs (zv n l l'))]))at c
 refine Con.of_aw Tryz.func87 rfl Tryz.ntmps87 (by simp) (by simp) (by simp) (AW.seqLe (E:=[(2,.fp [.v (.int .i64 n),.sl l.length (qm ExV.cs l)] 0),(3,.fp [.v (.int .i64 n),.sl l'.length (qm ExV.cs l')] 0),(4,.pt 0 0)]) (H:=[(0,.own 0 [.v (.int .i64 0),.v (.slice none 0 0)])]) (W.sound ?_) (W.sound ?_))
 ·show @W Tryz.prog 9 ⟨_⟩ ⟨_⟩ _ _
  simp(disch:=omega)only[go_sem]
  exact(Le.frz 40000000 (z:=0) (ks:=[.v (.int .i64 n),.sl l.length (qm ExV.cs l)]) (by simp(disch:=omega)only[go_sem]) rfl (by simp(disch:=omega)only[go_sem])).trans ((Le.frz 50000000 (z:=0) (ks:=[.v (.int .i64 n),.sl l'.length (qm ExV.cs l')]) (by simp(disch:=omega)only[go_sem]) rfl (by simp(disch:=omega)only[go_sem])).trans (Le.lst [(0,60000000)] _ _ rfl (by simp(disch:=omega)only[go_sem]) (by simp(disch:=omega)only[go_sem])))
 show @W Tryz.prog 9 ⟨_⟩ ⟨fun x σ=>@qR _ _ _ ⟨_⟩ _ ⟨_⟩ x σ⟩ _ _
 simp(disch:=omega)only[go_sem]
 refine qa (c) ?_
 simp(disch:=omega)only[go_sem]
 exact ql
end Go.Ab
namespace Go.Ab
open Go Go.Proofs
theorem j7{l:List SpV}{i:Nat}(hi:i<l.length):cut (qm SpV.cs l) (i*6) 6=[.v (.bool (l.getD i sp0).lo.s),.sl (lim (l.getD i sp0).lo.m).length (qc (lim (l.getD i sp0).lo.m)),.v (.int .i64 (l.getD i sp0).lo.e),.v (.bool (l.getD i sp0).hi.s),.sl (lim (l.getD i sp0).hi.m).length (qc (lim (l.getD i sp0).hi.m)),.v (.int .i64 (l.getD i sp0).hi.e)]:=ZT (l:=l) aoU hi sp0
theorem zz{l:List SpV}{k:Nat}(h:l.length=k):cut (qm SpV.cs l) 0 (k*6)=qm SpV.cs l:=by subst h;exact aJA
theorem Jd:qm ExV.cs []=[]:=yt
theorem y6:qm SpV.cs []=[]:=yt
def mpT{X Y:Type}(l:List X)(F:X→Y)(i:Nat):List Y:=(l.take i).map F
theorem jH{X Y:Type}{l:List X}{F:X→Y}:mpT l F 0=[]:=rfl
theorem zM{X Y:Type}{l:List X}{F:X→Y}{i:Nat}(h:i≤l.length):(mpT l F i).length=i:=by unfold mpT;rw[List.length_map,List.length_take];omega
theorem jI{X Y:Type}{l:List X}{F:X→Y}{i:Nat}(d:X)(h:i<l.length):mpT l F (i+1)=mpT l F i++[F (l.getD i d)]:=by
 unfold mpT
 rw[List.take_add_one,List.getElem?_eq_getElem h,List.map_append,List.getD_eq_getElem?_getD,List.getElem?_eq_getElem h];rfl
theorem yx{X Y:Type}{l:List X}{F:X→Y}:mpT l F l.length=l.map F:=by unfold mpT;rw[List.take_length]
def sbd(lo hi:Int)(l:List SpV):Prop:=∀x∈l,x.bd lo hi
theorem jk{lo hi:Int}{l:List SpV}{i:Nat}(h:sbd lo hi l)(hi':i<l.length):(l.getD i sp0).bd lo hi:=by
 refine h _ ?_
 rw[List.getD_eq_getElem?_getD,List.getElem?_eq_getElem hi'];exact List.getElem_mem _
set_option maxRecDepth 100000 in
theorem zN(n:Int)(l:List ExV)(hl:l.length≤1000):Con Tryz.prog 83 false [.ag [.v (.int .i64 n),.sl l.length (qm ExV.cs l)]] [] (isA (.ag [.v (.int .i64 n),.sl l.length (qm ExV.cs l)])):=by
 refine Con.frzA ?_
 refine Con.of_aw Tryz.func83 rfl Tryz.ntmps83 (by simp) (by simp) (by simp) (W.sound ?_)
 show @W Tryz.prog 25 ⟨_⟩ ⟨fun x σ=>@qR _ _ _ ⟨_⟩ _ ⟨_⟩ x σ⟩ _ _
 simp(disch:=omega)only[go_sem]
 refine qj (fun i:Nat=>[(10,.sl l.length (qm ExV.cs l)),(11,.v (.int .i64 l.length)),(12,.v (.int .i64 i)),(3,.pt 0 0),(2,.pt 2 0)])
  (fun i=>[(0,.own 0 [.v (.int .i64 n),.rf 1 0 i]),(1,.own 3 (qm ExV.cs (mpT l (id) i))),(2,.own 0 [.v (.int .i64 0),.v (.slice none 0 0)])]) (fun i=>i≤l.length) (fun i=>l.length-i) 0 (by omega)
  ((Le.ghostC 50000000 1 1 3 (zo:=0) (cs:=[.v (.int .i64 n),.v (.slice none 0 0)]) (by simp(disch:=omega)only[go_sem]) rfl (by simp(disch:=omega)only[go_sem])).trans (Le.lst [(0,50000000),(2,40000000)] _ _ rfl (by simp(disch:=omega)only[go_sem]) (by simp(disch:=omega)only[go_sem,jH,Jd,List.set_cons_succ,List.set_cons_zero]))) ?_
 intro i hi
 simp(disch:=omega)only[go_sem]
 refine qe (fun h1=>?_) (fun h1=>?_)
 ·have hi2:i<l.length:=by omega
  have hci:=z7 hi2
  have hcut:=zC (zM (F:=id) hi)
  have hml:=zM (F:=id) hi
  have hs:=jI (F:=id) ex0 hi2
  generalize l.getD i ex0=x at*
  simp(disch:=omega)only[go_sem,h1,hci]
  refine⟨by omega,by omega,?_⟩
  refine qp rfl [⟨0,[],[]⟩,⟨1,[],[]⟩,⟨2,[1],[]⟩,⟨3,[1],[]⟩,⟨4,[1],[]⟩,⟨5,[],[]⟩,⟨6,[],[]⟩,⟨7,[],[]⟩] (by kernel_rfl) ?_
  simp(disch:=omega)only[go_sem]
  refine qa (z8 x.s x.m x.e) ?_
  simp(disch:=omega)only[go_sem]
  simp(disch:=omega)only[go_sem,hcut,QA]
  refine⟨⟨by rw[hml];exact Nat.le_refl _,by omega⟩,qb (i+1) [(1,230000000)] (by show i+1≤_;omega) (by show l.length-(i+1)<l.length-i;omega) rfl (by simp(disch:=omega)only[go_sem];try omega) (by simp(disch:=omega)only[go_sem,hs,id_eq])⟩
 ·simp(disch:=omega)only[go_sem,h1]
  obtain rfl:i=l.length:=by omega
  refine qg [(0,1)] [.own 3 (qm ExV.cs (mpT l (id) l.length))] [] [.ag [.v (.int .i64 n),.rf 0 0 l.length]] rfl (by simp(disch:=omega)only[go_sem]) (by simp(disch:=omega)only[go_sem]) (by simp) (by simp) ?_
  show qE _ 6 _=_
  simp(disch:=omega)only[go_sem,zb,yx,zC (l:=l.map (id)) (k:=l.length) (List.length_map ..),List.map_id,zC (l:=l) (k:=l.length) rfl]
def ptS(x:ExV):SpV:=⟨x,x⟩
set_option maxRecDepth 100000 in
theorem Qf(n:Nat)(l:List ExV)(hl:l.length≤1000):Con Tryz.prog 159 false [.ag [.v (.int .i64 (n)),.sl (l).length (qm ExV.cs (l))]] [] (isA (.ag [.v (.int .i64 (n)),.sl (l.map ptS).length (qm SpV.cs (l.map ptS))])):=by
 refine Con.frzA ?_
 refine Con.of_aw Tryz.func159 rfl Tryz.ntmps159 (by simp) (by simp) (by simp) (W.sound ?_)
 show @W Tryz.prog 26 ⟨_⟩ ⟨fun x σ=>@qR _ _ _ ⟨_⟩ _ ⟨_⟩ x σ⟩ _ _
 simp(disch:=omega)only[go_sem]
 refine qj (fun i:Nat=>[(10,.sl l.length (qm ExV.cs l)),(11,.v (.int .i64 l.length)),(12,.v (.int .i64 i)),(3,.pt 0 0),(2,.pt 2 0)])
  (fun i=>[(0,.own 0 [.v (.int .i64 n),.rf 1 0 i]),(1,.own 6 (qm SpV.cs (mpT l (ptS) i))),(2,.own 0 [.v (.int .i64 0),.v (.slice none 0 0)])]) (fun i=>i≤l.length) (fun i=>l.length-i) 0 (by omega)
  ((Le.ghostC 50000000 1 1 6 (zo:=0) (cs:=[.v (.int .i64 n),.v (.slice none 0 0)]) (by simp(disch:=omega)only[go_sem]) rfl (by simp(disch:=omega)only[go_sem])).trans (Le.lst [(0,50000000),(2,40000000)] _ _ rfl (by simp(disch:=omega)only[go_sem]) (by simp(disch:=omega)only[go_sem,jH,y6,List.set_cons_succ,List.set_cons_zero]))) ?_
 intro i hi
 simp(disch:=omega)only[go_sem]
 refine qe (fun h1=>?_) (fun h1=>?_)
 ·have hi2:i<l.length:=by omega
  have hci:=z7 hi2
  have hcut:=zz (zM (F:=ptS) hi)
  have hml:=zM (F:=ptS) hi
  have hs:=jI (F:=ptS) ex0 hi2
  generalize l.getD i ex0=x at*
  simp(disch:=omega)only[go_sem,h1,hci]
  refine⟨by omega,by omega,?_⟩
  have hsn:∀L:List SpV,qm SpV.cs L++[.v (.bool x.s),.sl (lim x.m).length (qc (lim x.m)),.v (.int .i64 x.e),.v (.bool x.s),.sl (lim x.m).length (qc (lim x.m)),.v (.int .i64 x.e)]=qm SpV.cs (L++[ptS x]):=fun L=>yK (x:=ptS x)
  simp(disch:=omega)only[go_sem,hcut,hsn]
  refine⟨⟨by rw[hml];exact Nat.le_refl _,by omega⟩,qb (i+1) [(1,240000000)] (by show i+1≤_;omega) (by show l.length-(i+1)<l.length-i;omega) rfl (by simp(disch:=omega)only[go_sem];try omega) (by simp(disch:=omega)only[go_sem,hs])⟩
 ·simp(disch:=omega)only[go_sem,h1]
  obtain rfl:i=l.length:=by omega
  refine qg [(0,1)] [.own 6 (qm SpV.cs (mpT l (ptS) l.length))] [] [.ag [.v (.int .i64 n),.rf 0 0 l.length]] rfl (by simp(disch:=omega)only[go_sem]) (by simp(disch:=omega)only[go_sem]) (by simp) (by simp) ?_
  show qE _ 6 _=_
  simp(disch:=omega)only[go_sem,zb,yx,zz (l:=l.map (ptS)) (k:=l.length) (List.length_map ..),List.length_map]
def yp(s:SpV):ExV:=(s.lo.plus s.hi).shift (-1)
set_option maxRecDepth 100000 in
theorem aqS(n:Nat)(l:List SpV)(hl:l.length≤1000)(hb:sbd (-390000) 390000 l):Con Tryz.prog 141 false [.ag [.v (.int .i64 (n)),.sl (l).length (qm SpV.cs (l))]] [] (isA (.ag [.v (.int .i64 (n)),.sl (l.map yp).length (qm ExV.cs (l.map yp))])):=by
 refine Con.frzA ?_
 refine Con.of_aw Tryz.func141 rfl Tryz.ntmps141 (by simp) (by simp) (by simp) (W.sound ?_)
 show @W Tryz.prog 29 ⟨_⟩ ⟨fun x σ=>@qR _ _ _ ⟨_⟩ _ ⟨_⟩ x σ⟩ _ _
 simp(disch:=omega)only[go_sem]
 refine qj (fun i:Nat=>[(10,.sl l.length (qm SpV.cs l)),(11,.v (.int .i64 l.length)),(12,.v (.int .i64 i)),(3,.pt 0 0),(2,.pt 2 0)])
  (fun i=>[(0,.own 0 [.v (.int .i64 n),.rf 1 0 i]),(1,.own 3 (qm ExV.cs (mpT l (yp) i))),(2,.own 0 [.v (.int .i64 0),.v (.slice none 0 0)])]) (fun i=>i≤l.length) (fun i=>l.length-i) 0 (by omega)
  ((Le.ghostC 50000000 1 1 3 (zo:=0) (cs:=[.v (.int .i64 n),.v (.slice none 0 0)]) (by simp(disch:=omega)only[go_sem]) rfl (by simp(disch:=omega)only[go_sem])).trans (Le.lst [(0,50000000),(2,40000000)] _ _ rfl (by simp(disch:=omega)only[go_sem]) (by simp(disch:=omega)only[go_sem,jH,Jd,List.set_cons_succ,List.set_cons_zero]))) ?_
 intro i hi
 simp(disch:=omega)only[go_sem]
 refine qe (fun h1=>?_) (fun h1=>?_)
 ·have hi2:i<l.length:=by omega
  have hci:=j7 hi2
  have hcut:=zC (zM (F:=yp) hi)
  have hml:=zM (F:=yp) hi
  have hs:=jI (F:=yp) sp0 hi2
  have hx:=jk hb hi2
  generalize l.getD i sp0=x at*
  simp(disch:=omega)only[go_sem,h1,hci]
  refine⟨by omega,by omega,?_⟩
  refine qp rfl [⟨0,[],[]⟩,⟨1,[],[]⟩,⟨2,[1],[]⟩,⟨3,[1],[]⟩,⟨4,[1,3],[]⟩,⟨5,[1,3],[]⟩,⟨6,[1],[]⟩,⟨7,[1],[]⟩,⟨8,[1],[]⟩,⟨9,[],[]⟩,⟨10,[],[]⟩,⟨11,[],[]⟩] (by kernel_rfl) ?_
  simp(disch:=omega)only[go_sem]
  refine qa (jh x.lo x.hi (hx.1.mono (by omega) (by omega)) (hx.2.mono (by omega) (by omega))) ?_
  simp(disch:=omega)only[go_sem]
  have hp:=ExV.plus_bd hx.1 hx.2
  have hp2: -390000≤(x.lo.plus x.hi).e∧(x.lo.plus x.hi).e≤400000:=⟨hp.2.1,by have:=hp.2.2;omega⟩
  refine qa (QZ (x.lo.plus x.hi) (-1) (by omega) (by omega)) ?_
  simp(disch:=omega)only[go_sem]
  have em:yp x=(x.lo.plus x.hi).shift (-1):=rfl
  rw[em]at hs
  simp(disch:=omega)only[go_sem,hcut,QA]
  refine⟨⟨by rw[hml];exact Nat.le_refl _,by omega⟩,qb (i+1) [(1,270000000)] (by show i+1≤_;omega) (by show l.length-(i+1)<l.length-i;omega) rfl (by simp(disch:=omega)only[go_sem];try omega) (by simp(disch:=omega)only[go_sem,hs])⟩
 ·simp(disch:=omega)only[go_sem,h1]
  obtain rfl:i=l.length:=by omega
  refine qg [(0,1)] [.own 3 (qm ExV.cs (mpT l (yp) l.length))] [] [.ag [.v (.int .i64 n),.rf 0 0 l.length]] rfl (by simp(disch:=omega)only[go_sem]) (by simp(disch:=omega)only[go_sem]) (by simp) (by simp) ?_
  show qE _ 6 _=_
  simp(disch:=omega)only[go_sem,zb,yx,zC (l:=l.map (yp)) (k:=l.length) (List.length_map ..),List.length_map]
set_option maxRecDepth 100000 in
theorem Xa(n:Nat)(l:List SpV)(f:Nat)(caps:List AV)(F:SpV→SpV)(hl:l.length≤1000)(hf:∀x∈l,Con Tryz.prog f false (.ag [.v (.bool (x).lo.s),.sl (lim (x).lo.m).length (qc (lim (x).lo.m)),.v (.int .i64 (x).lo.e),.v (.bool (x).hi.s),.sl (lim (x).hi.m).length (qc (lim (x).hi.m)),.v (.int .i64 (x).hi.e)]::caps) [] (isA (.ag [.v (.bool (F x).lo.s),.sl (lim (F x).lo.m).length (qc (lim (F x).lo.m)),.v (.int .i64 (F x).lo.e),.v (.bool (F x).hi.s),.sl (lim (F x).hi.m).length (qc (lim (F x).hi.m)),.v (.int .i64 (F x).hi.e)])))(hg:qq Tryz.prog f=True)
  (hc:∀h:Nat→Ob,caps.map (qE h 6)=caps) (hc5:∀h:Nat→Ob,caps.map (qE h 5)=caps) (hn:∀ks,AllL (yj ks) caps) (hr:∀ρ,zK ρ caps=caps):
  Con Tryz.prog 222 false [.ag [.v (.int .i64 (n)),.sl (l).length (qm SpV.cs (l))],.fn f caps] [] (isA (.ag [.v (.int .i64 (n)),.sl (l.map F).length (qm SpV.cs (l.map F))])):=by
 refine Con.frzA ?_
 refine Con.of_aw Tryz.func222 rfl Tryz.ntmps222 (by simp) (by simp) (by simp) (W.sound ?_)
 show @W Tryz.prog 28 ⟨_⟩ ⟨fun x σ=>@qR _ _ _ ⟨_⟩ _ ⟨_⟩ x σ⟩ _ _
 simp(disch:=omega)only[go_sem,hg]
 refine qj (fun i:Nat=>[(1,.fn f caps),(12,.sl l.length (qm SpV.cs l)),(13,.v (.int .i64 l.length)),(14,.v (.int .i64 i)),(5,.pt 0 0),(4,.pt 2 0)])
  (fun i=>[(0,.own 0 [.v (.int .i64 n),.rf 1 0 i]),(1,.own 6 (qm SpV.cs (mpT l (F) i))),(2,.own 0 [.v (.int .i64 0),.v (.slice none 0 0)])]) (fun i=>i≤l.length) (fun i=>l.length-i) 0 (by omega)
  ((Le.ghostC 70000000 1 1 6 (zo:=0) (cs:=[.v (.int .i64 n),.v (.slice none 0 0)]) (by simp(disch:=omega)only[go_sem]) rfl (by simp(disch:=omega)only[go_sem])).trans (Le.lst [(0,70000000),(2,60000000)] _ _ rfl (by simp(disch:=omega)only[go_sem,hr,hn]) (by simp(disch:=omega)only[go_sem,jH,y6,List.set_cons_succ,List.set_cons_zero]))) ?_
 intro i hi
 simp(disch:=omega)only[go_sem]
 refine qe (fun h1=>?_) (fun h1=>?_)
 ·have hi2:i<l.length:=by omega
  have hci:=j7 hi2
  have hcut:=zz (zM (F:=F) hi)
  have hml:=zM (F:=F) hi
  have hs:=jI (F:=F) sp0 hi2
  have hfx:=hf (l.getD i sp0) (by rw[List.getD_eq_getElem?_getD,List.getElem?_eq_getElem hi2];exact List.getElem_mem _)
  generalize l.getD i sp0=x at*
  simp(disch:=omega)only[go_sem,h1,hci]
  refine⟨by omega,by omega,?_⟩
  refine qp rfl [⟨0,[],[]⟩,⟨1,[],[]⟩,⟨2,[1],[]⟩,⟨3,[1],[]⟩,⟨4,[1],[]⟩,⟨5,[1],[]⟩,⟨6,[],[]⟩,⟨7,[],[]⟩,⟨8,[],[]⟩] (by kernel_rfl) ?_
  simp(disch:=omega)only[go_sem,hg]
  refine qW hfx (by simp(disch:=omega)only[go_sem,hc,hc5]) ?_
  rintro r hs2 ⟨rfl,rfl,_⟩
  refine⟨by simp[qO],?_⟩
  simp(disch:=omega)only[go_sem,hcut,yK]
  refine⟨⟨by rw[hml];exact Nat.le_refl _,by omega⟩,qb (i+1) [(1,260000000)] (by show i+1≤_;omega) (by show l.length-(i+1)<l.length-i;omega) rfl (by simp(disch:=omega)only[go_sem,hr,hn];try omega) (by simp(disch:=omega)only[go_sem,hs])⟩
 ·simp(disch:=omega)only[go_sem,h1]
  obtain rfl:i=l.length:=by omega
  refine qg [(0,1)] [.own 6 (qm SpV.cs (mpT l (F) l.length))] [] [.ag [.v (.int .i64 n),.rf 0 0 l.length]] rfl (by simp(disch:=omega)only[go_sem]) (by simp(disch:=omega)only[go_sem]) (by simp) (by simp) ?_
  show qE _ 6 _=_
  simp(disch:=omega)only[go_sem,zb,yx,zz (l:=l.map (F)) (k:=l.length) (List.length_map ..),List.length_map]
end Go.Ab
namespace Go.Ab
open Go Go.Proofs
theorem afp(n:Nat)(l:List SpV)(i j:Nat)(hl:i*n+j<l.length)(hb:l.length≤1000)(hn:n≤1000)(hi:i≤1000)(hj:j≤1000):
  Con Tryz.prog 210 false [.ag [.v (.int .i64 (n)),.sl (l).length (qm SpV.cs (l))],.v (.int .i64 i),.v (.int .i64 j)] [] (isA (.ag [.v (.bool (l.getD (i*n+j) sp0).lo.s),.sl (lim (l.getD (i*n+j) sp0).lo.m).length (qc (lim (l.getD (i*n+j) sp0).lo.m)),.v (.int .i64 (l.getD (i*n+j) sp0).lo.e),.v (.bool (l.getD (i*n+j) sp0).hi.s),.sl (lim (l.getD (i*n+j) sp0).hi.m).length (qc (lim (l.getD (i*n+j) sp0).hi.m)),.v (.int .i64 (l.getD (i*n+j) sp0).hi.e)])):=by
 refine Con.frzA ?_
 have hin:i*n≤1000:=by omega
 have hp:(i:Int)*(n:Int)≤1000∧0≤(i:Int)*(n:Int):=by rw[←Int.natCast_mul];omega
 have e1:(i:Int)*(n:Int)+(j:Int)=((i*n+j:Nat):Int):=by rw[Int.natCast_add,Int.natCast_mul]
 have hcut:=j7 hl
 generalize i*n+j=k at*
 refine Con.of_w (rs:=[.cell 6 133]) Tryz.func210 rfl Tryz.ntmps210 rfl ?_
 simp(disch:=omega)only[go_sem]
 simp(disch:=omega)only[go_sem,e1,hcut]
 refine⟨by omega,by omega,?_⟩
 exact ql
def gly{Y:Type}(n:Nat)(g:Nat→Nat→Y)(k:Nat):List Y:=(List.range k).map fun t=>g (t/n) (t % n)
theorem Qc{Y:Type}{n:Nat}{g:Nat→Nat→Y}{k:Nat}:(gly n g k).length=k:=by simp[gly]
theorem aCx{Y:Type}{n:Nat}{g:Nat→Nat→Y}{k:Nat}:gly n g (k+1)=gly n g k++[g (k/n) (k % n)]:=by simp[gly,List.range_succ]
theorem aLp{Y:Type}{n:Nat}{g:Nat→Nat→Y}:gly n g 0=[]:=rfl
def jj(n:Nat)(l l':List SpV)(i j k:Nat):SpV:=(List.range k).foldl (fun s t=>s.plus ((l.getD (i*n+t) sp0).times (l'.getD (t*n+j) sp0))) sp0
theorem JQ(n:Nat)(l l':List SpV)(i j:Nat):jj n l l' i j 0=sp0:=rfl
theorem JR(n:Nat)(l l':List SpV)(i j k:Nat):jj n l l' i j (k+1)=(jj n l l' i j k).plus ((l.getD (i*n+k) sp0).times (l'.getD (k*n+j) sp0)):=by
 unfold jj;rw[List.range_succ,List.foldl_append,List.foldl_cons,List.foldl_nil]
def qZ(n:Nat)(l l':List SpV):List SpV:=gly n (fun i j=>jj n l l' i j n) (n*n)
theorem SpV.times_bd{s t:SpV}{l1 h1 l2 h2:Int}(hs:s.bd l1 h1)(ht:t.bd l2 h2):(s.times t).bd (l1+l2) (h1+h2):=by
 have he:=afn (F:=ExV.times) hs ht (fun x y hx hy=>ExV.times_bd hx hy)
 exact⟨aag he (by simp[zx]),Zz he (by simp[zx])⟩
theorem SpV.plus_bd{s t:SpV}{lo hi:Int}(hs:s.bd lo hi)(ht:t.bd lo hi):(s.plus t).bd lo (hi+1):=⟨ExV.plus_bd hs.1 ht.1,ExV.plus_bd hs.2 ht.2⟩
theorem SpV.bd.mono{lo hi lo' hi':Int}{x:SpV}(h:x.bd lo hi)(h1:lo'≤lo)(h2:hi≤hi'):x.bd lo' hi':=⟨ExV.bd.mono h.1 h1 h2,ExV.bd.mono h.2 h1 h2⟩
theorem aOe{lo hi:Int}(h1:lo≤0)(h2:0≤hi):sp0.bd lo hi:=⟨afm h1 h2,afm h1 h2⟩
theorem zt{lo hi lo' hi':Int}{l:List SpV}(h:sbd lo hi l)(h1:lo'≤lo)(h2:hi≤hi'):sbd lo' hi' l:=fun x hx=>SpV.bd.mono (h x hx) h1 h2
theorem yQ{lo hi lo' hi':Int}{l:List ExV}(h:gbd lo hi l)(h1:lo'≤lo)(h2:hi≤hi'):gbd lo' hi' l:=fun x hx=>ExV.bd.mono (h x hx) h1 h2
theorem KU{lo hi:Int}(g:Nat→SpV)(h0:lo≤0∧0≤hi):∀k:Nat,(∀t,t<k→(g t).bd lo hi)→((List.range k).foldl (fun s t=>s.plus (g t)) sp0).bd lo (hi+k)
 |0,_=>aOe h0.1 (by simpa using h0.2)
 |k+1,h=>by
  rw[List.range_succ,List.foldl_append,List.foldl_cons,List.foldl_nil]
  have:=SpV.plus_bd (KU g h0 k fun t ht=>h t (by omega)) (SpV.bd.mono (h k (by omega)) (Int.le_refl _) (show hi≤hi+k by omega))
  exact SpV.bd.mono this (Int.le_refl _) (by omega)
theorem ae1{l1 h1 l2 h2:Int}{n:Nat}{l l':List SpV}{i j k:Nat}(hi:i<n)(hj:j<n)(hk:k≤n)(hl:l.length=n*n)(hl':l'.length=n*n)(hb:sbd l1 h1 l)(hb':sbd l2 h2 l')(h0:l1+l2≤0∧0≤h1+h2):(jj n l l' i j k).bd (l1+l2) (h1+h2+k):=
 KU _ h0 k fun t ht=>SpV.times_bd (jk hb (by rw[hl];exact zX hi (by omega))) (jk hb' (by rw[hl'];exact zX (by omega) hj))
set_option maxRecDepth 100000 in
theorem Yh(n:Nat)(l l':List SpV)(hn:n≤4)(hl:l.length=n*n)(hl':l'.length=n*n)(hb:sbd (-190000) 190000 l)(hb':sbd (-190000) 190000 l'):Con Tryz.prog 138 false [.ag [.v (.int .i64 (n)),.sl (l).length (qm SpV.cs (l))],.ag [.v (.int .i64 (n)),.sl (l').length (qm SpV.cs (l'))]] [] (isA (.ag [.v (.int .i64 (n)),.sl (qZ n l l').length (qm SpV.cs (qZ n l l'))])):=by
 refine Con.frzA ?_
 have hq:=yn hn
 refine Con.of_aw Tryz.func138 rfl Tryz.ntmps138 (by simp) (by simp) (by simp) (W.sound ?_)
 show @W Tryz.prog 49 ⟨_⟩ ⟨fun x σ=>@qR _ _ _ ⟨_⟩ _ ⟨_⟩ x σ⟩ _ _
 simp(disch:=omega)only[go_sem]
 refine qj (fun i:Nat=>[(2,.pt 3 0),(3,.pt 4 0),(4,.pt 2 0),(5,.pt 0 0),(14,.v (.int .i64 n)),(15,.v (.int .i64 i))])
  (fun i=>[(0,.own 0 [.v (.int .i64 n),.rf 1 0 (i*n)]),(1,.own 6 (qm SpV.cs (gly n (fun i j=>jj n l l' i j n) (i*n)))),(2,.own 0 [.v (.int .i64 0),.v (.slice none 0 0)]),(3,.own 0 [.v (.int .i64 n),.sl l.length (qm SpV.cs l)]),(4,.own 0 [.v (.int .i64 n),.sl l'.length (qm SpV.cs l')])]) (fun i=>i≤n) (fun i=>n-i) 0 (by omega)
  ((Le.ghostC 70000000 1 1 6 (zo:=0) (cs:=[.v (.int .i64 n),.v (.slice none 0 0)]) (by simp(disch:=omega)only[go_sem]) rfl (by simp(disch:=omega)only[go_sem])).trans (Le.lst [(0,70000000),(2,60000000),(3,40000000),(4,50000000)] _ _ rfl (by simp(disch:=omega)only[go_sem]) (by simp(disch:=omega)only[go_sem,aLp,y6,Nat.zero_mul,List.set_cons_succ,List.set_cons_zero]))) ?_
 intro i hi
 simp(disch:=omega)only[go_sem]
 refine qe (fun h1=>?_) (fun h1=>?_)
 ·simp(disch:=omega)only[go_sem,h1]
  have hin:i*n≤16:=Nat.mul_le_mul (show i≤4 by omega) hn
  refine qj (fun j:Nat=>[(2,.pt 3 0),(3,.pt 4 0),(4,.pt 2 0),(5,.pt 0 0),(6,.v (.int .i64 i)),(14,.v (.int .i64 n)),(15,.v (.int .i64 i)),(19,.v (.int .i64 n)),(20,.v (.int .i64 j))])
   (fun j=>[(0,.own 0 [.v (.int .i64 n),.rf 1 0 (i*n+j)]),(1,.own 6 (qm SpV.cs (gly n (fun i j=>jj n l l' i j n) (i*n+j)))),(2,.own 0 [.v (.int .i64 0),.v (.slice none 0 0)]),(3,.own 0 [.v (.int .i64 n),.sl l.length (qm SpV.cs l)]),(4,.own 0 [.v (.int .i64 n),.sl l'.length (qm SpV.cs l')])]) (fun j=>j≤n) (fun j=>n-j) 0 (by omega)
   (Le.lst [] _ _ rfl (by simp(disch:=omega)only[go_sem,Nat.add_zero]) (by simp(disch:=omega)only[go_sem,Nat.add_zero])) ?_
  intro j hj
  simp(disch:=omega)only[go_sem]
  refine qe (fun h2=>?_) (fun h2=>?_)
  ·simp(disch:=omega)only[go_sem,h2]
   have hd:(i*n+j)/n=i:=by rw[Nat.mul_comm,Nat.mul_add_div (by omega),Nat.div_eq_of_lt (by omega),Nat.add_zero]
   have hm:(i*n+j) % n=j:=by rw[Nat.mul_comm,Nat.mul_add_mod,Nat.mod_eq_of_lt (by omega)]
   have hs:=@aCx _ n (fun i j=>jj n l l' i j n) (i*n+j)
   rw[hd,hm]at hs
   have hcut:=zz (@Qc _ n (fun i j=>jj n l l' i j n) (i*n+j))
   have hk:i*n+(j+1)=i*n+j+1:=rfl
   generalize hA:gly n (fun i j=>jj n l l' i j n) (i*n+j)=A at*
   have hAl:A.length=i*n+j:=by rw[←hA,Qc]
   generalize hA1:gly n (fun i j=>jj n l l' i j n) (i*n+j+1)=A1 at*
   refine qj (fun k:Nat=>[(2,.pt 3 0),(3,.pt 4 0),(4,.pt 2 0),(5,.pt 0 0),(6,.v (.int .i64 i)),(7,.v (.int .i64 j)),(8,.pt 5 0),(14,.v (.int .i64 n)),(15,.v (.int .i64 i)),(19,.v (.int .i64 n)),(20,.v (.int .i64 j)),(24,.v (.int .i64 n)),(25,.v (.int .i64 k))])
    (fun k=>[(0,.own 0 [.v (.int .i64 n),.rf 1 0 (i*n+j)]),(1,.own 6 (qm SpV.cs A)),(2,.own 0 [.v (.int .i64 0),.v (.slice none 0 0)]),(3,.own 0 [.v (.int .i64 n),.sl l.length (qm SpV.cs l)]),(4,.own 0 [.v (.int .i64 n),.sl l'.length (qm SpV.cs l')]),
     (5,.own 0 [.v (.bool (jj n l l' i j k).lo.s),.sl (lim (jj n l l' i j k).lo.m).length (qc (lim (jj n l l' i j k).lo.m)),.v (.int .i64 (jj n l l' i j k).lo.e),.v (.bool (jj n l l' i j k).hi.s),.sl (lim (jj n l l' i j k).hi.m).length (qc (lim (jj n l l' i j k).hi.m)),.v (.int .i64 (jj n l l' i j k).hi.e)])])
    (fun k=>k≤n) (fun k=>n-k) 0 (by omega)
    ((Le.nilC 100000000 1 (zo:=0) (cs:=[.v (.bool false),.v (.slice none 0 0),.v (.int .i64 0),.v (.bool false),.v (.slice none 0 0),.v (.int .i64 0)]) (by simp(disch:=omega)only[go_sem]) rfl).trans
     ((Le.nilC 100000000 4 (zo:=0) (cs:=[.v (.bool false),.sl 0 [],.v (.int .i64 0),.v (.bool false),.v (.slice none 0 0),.v (.int .i64 0)]) (by simp(disch:=omega)only[go_sem,List.set_cons_succ,List.set_cons_zero]) rfl).trans (Le.lst [(5,100000000)] _ _ rfl (by simp(disch:=omega)only[go_sem]) (by simp(disch:=omega)only[go_sem,List.set_cons_succ,List.set_cons_zero,JQ,sp0,ex0,qo])))) ?_
   intro k hk2
   have hD:=ae1 (k:=k) (show i<n by omega) (show j<n by omega) hk2 hl hl' hb hb' (by omega)
   have hsd:=JR n l l' i j k
   generalize hDD:jj n l l' i j k=D at*
   simp(disch:=omega)only[go_sem]
   refine qe (fun h3=>?_) (fun h3=>?_)
   ·have hx:=zX (show i<n by omega) (show k<n by omega)
    have hx':=zX (show k<n by omega) (show j<n by omega)
    have c1:=afp n l i k (by omega) (by omega) (by omega) (by omega) (by omega)
    have c2:=afp n l' k j (by omega) (by omega) (by omega) (by omega) (by omega)
    have b1:=jk hb (show i*n+k<l.length by omega)
    have b2:=jk hb' (show k*n+j<l'.length by omega)
    generalize l.getD (i*n+k) sp0=x at*
    generalize l'.getD (k*n+j) sp0=y at*
    simp(disch:=omega)only[go_sem,h3]
    refine qp rfl [⟨0,[],[]⟩,⟨1,[0],[]⟩,⟨2,[0,1],[]⟩,⟨3,[0,1],[]⟩,⟨5,[0,1],[]⟩,⟨6,[0,1,5],[]⟩,⟨7,[0,1,5],[]⟩,⟨4,[0,5],[]⟩,⟨8,[0],[]⟩,⟨9,[0],[]⟩,⟨10,[],[]⟩,⟨11,[],[]⟩] (by kernel_rfl) ?_
    simp(disch:=omega)only[go_sem]
    refine qa (c1) ?_
    simp(disch:=omega)only[go_sem]
    refine qa (c2) ?_
    simp(disch:=omega)only[go_sem]
    refine qa (aed x y (SpV.bd.mono b1 (by omega) (by omega)) (SpV.bd.mono b2 (by omega) (by omega))) ?_
    simp(disch:=omega)only[go_sem]
    refine qa (J6 D (x.times y) (SpV.bd.mono hD (by omega) (by omega)) (SpV.bd.mono (SpV.times_bd b1 b2) (by omega) (by omega))) ?_
    simp(disch:=omega)only[go_sem]
    exact qb (k+1) [] (by show k+1≤_;omega) (by show n-(k+1)<n-k;omega) rfl (by simp(disch:=omega)only[go_sem];try omega) (by simp(disch:=omega)only[go_sem,hsd])
   ·obtain rfl:n=k:=by omega
    rw[hDD]at hs
    simp(disch:=omega)only[go_sem,h3,hcut,yK]
    refine⟨⟨by rw[hAl];exact Nat.le_refl _,by omega⟩,qb (j+1) [(1,460000000)] (by show j+1≤_;omega) (by show n-(j+1)<n-j;omega) rfl (by simp(disch:=omega)only[go_sem];try omega) (by simp(disch:=omega)only[go_sem,hk,hA1,hs])⟩
  ·simp(disch:=omega)only[go_sem,h2]
   obtain rfl:n=j:=by omega
   exact qb (i+1) [] (by show i+1≤_;omega) (by show n-(i+1)<n-i;omega) rfl (by simp(disch:=omega)only[go_sem,Nat.add_mul,Nat.one_mul];try omega) (by simp(disch:=omega)only[go_sem,Nat.add_mul,Nat.one_mul])
 ·simp(disch:=omega)only[go_sem,h1]
  obtain rfl:n=i:=by omega
  have hll:(qZ n l l').length=n*n:=Qc
  have hft:gly n (fun i j=>jj n l l' i j n) (n*n)=qZ n l l':=rfl
  rw[hft,hll]
  refine qg [(0,1)] [.own 6 (qm SpV.cs (qZ n l l'))] [] [.ag [.v (.int .i64 n),.rf 0 0 (n*n)]] rfl (by simp(disch:=omega)only[go_sem]) (by simp(disch:=omega)only[go_sem]) (by simp) (by simp) ?_
  show qE _ 6 _=_
  simp(disch:=omega)only[go_sem,zb,zz hll]
end Go.Ab
namespace Go.Ab
open Go Go.Proofs
theorem ajV(x y:ExV)(low mode:Int)(h0:y.m≠0)(hx:x.bd (-400000) 400000)(hy:y.bd (-400000) 400000)(hl: -400000≤low∧low≤400000):
  Con Tryz.prog 187 false [.ag [.v (.bool (x).s),.sl (lim (x).m).length (qc (lim (x).m)),.v (.int .i64 (x).e)],.ag [.v (.bool (y).s),.sl (lim (y).m).length (qc (lim (y).m)),.v (.int .i64 (y).e)],.fp [.v (.int .i64 low)] 0,.fp [.v (.int .i64 mode)] 0] [] (isA (.ag [.v (.bool (x.over y low mode).s),.sl (lim (x.over y low mode).m).length (qc (lim (x.over y low mode).m)),.v (.int .i64 (x.over y low mode).e)])):=by
 refine Con.frzA ?_
 refine Con.of_w (rs:=[.cell 6 118]) Tryz.func187 rfl Tryz.ntmps187 rfl ?_
 simp(disch:=omega)only[go_sem]
 refine qa (aqM x y low mode h0 hx hy hl) ?_
 simp(disch:=omega)only[go_sem]
 exact ql
theorem aqN(s t:SpV)(low mode:Int)(h1:t.lo.m≠0)(h2:t.hi.m≠0)(hs:s.bd (-400000) 400000)(ht:t.bd (-400000) 400000)(hl: -400000≤low∧low≤400000):
  Con Tryz.prog 185 false [.v (.int .i64 mode),.fp [.v (.bool s.lo.s),.sl (lim s.lo.m).length (qc (lim s.lo.m)),.v (.int .i64 s.lo.e),.v (.bool s.hi.s),.sl (lim s.hi.m).length (qc (lim s.hi.m)),.v (.int .i64 s.hi.e)] 0,.fp [.v (.bool t.lo.s),.sl (lim t.lo.m).length (qc (lim t.lo.m)),.v (.int .i64 t.lo.e),.v (.bool t.hi.s),.sl (lim t.hi.m).length (qc (lim t.hi.m)),.v (.int .i64 t.hi.e)] 0,.fp [.v (.int .i64 low)] 0] [] (isA (.sl 4 (qm ExV.cs (zx (fun x y=>x.over y low mode) s t)))):=by
 refine Con.frzA ?_
 have ce:=J7 s t 187 [.fp [.v (.int .i64 low)] 0,.fp [.v (.int .i64 mode)] 0] (fun x y=>x.over y low mode) (fun x y hx hy=>by
  refine ajV x y low mode ?_ ?_ ?_ hl
  ·rcases hy with rfl|rfl
   ·exact h1
   ·exact h2
  ·rcases hx with rfl|rfl
   ·exact hs.1
   ·exact hs.2
  ·rcases hy with rfl|rfl
   ·exact ht.1
   ·exact ht.2) (by simp(disch:=omega)only[go_sem]) (fun h=>rfl) (fun h=>rfl) (fun ks=>by simp(disch:=omega)only[go_sem]) (fun ρ=>rfl)
 refine Con.of_aw Tryz.func185 rfl Tryz.ntmps185 (by simp) (by simp) (by simp) (AW.seqLe (E:=[(1,.fp [.v (.bool s.lo.s),.sl (lim s.lo.m).length (qc (lim s.lo.m)),.v (.int .i64 s.lo.e),.v (.bool s.hi.s),.sl (lim s.hi.m).length (qc (lim s.hi.m)),.v (.int .i64 s.hi.e)] 0),(2,.fp [.v (.bool t.lo.s),.sl (lim t.lo.m).length (qc (lim t.lo.m)),.v (.int .i64 t.lo.e),.v (.bool t.hi.s),.sl (lim t.hi.m).length (qc (lim t.hi.m)),.v (.int .i64 t.hi.e)] 0),(3,.fp [.v (.int .i64 low)] 0),(4,.fp [.v (.int .i64 mode)] 0),(5,.v (.slice none 0 0))]) (H:=[]) (W.sound ?_) (W.sound ?_))
 ·show @W Tryz.prog 10 ⟨_⟩ ⟨_⟩ _ _
  simp(disch:=omega)only[go_sem]
  exact(Le.frz 60000000 (z:=0) (ks:=[.v (.int .i64 mode)]) (by simp(disch:=omega)only[go_sem]) rfl (by simp(disch:=omega)only[go_sem])).trans (Le.lst [] _ _ rfl (by simp(disch:=omega)only[go_sem]) (by simp(disch:=omega)only[go_sem]))
 show @W Tryz.prog 10 ⟨_⟩ ⟨fun x σ=>@qR _ _ _ ⟨_⟩ _ ⟨_⟩ x σ⟩ _ _
 simp(disch:=omega)only[go_sem]
 refine qa (ce) ?_
 simp(disch:=omega)only[go_sem]
 exact ql
theorem SpV.over_bd{s t:SpV}{lo hi l2 low H:Int}(hs:s.bd lo hi)(ht:l2≤t.lo.e∧l2≤t.hi.e)(h:hi-l2+1≤H)(hb:hi-lo+1+low≤H):(s.over t low).bd low H:=by
 have he:∀mode,gbd low H (zx (fun x y=>x.over y low mode) s t):=by
  intro mode x hx
  simp only[zx,List.mem_cons,List.not_mem_nil,or_false]at hx
  rcases hx with rfl|rfl|rfl|rfl
  ·exact ExV.over_bd hs.1 ht.1 h hb
  ·exact ExV.over_bd hs.1 ht.2 h hb
  ·exact ExV.over_bd hs.2 ht.1 h hb
  ·exact ExV.over_bd hs.2 ht.2 h hb
 exact⟨aag (he 3) (by simp[zx]),Zz (he 2) (by simp[zx])⟩
theorem ajT(s t:SpV)(low:Int)(h1:t.lo.m≠0)(h2:t.hi.m≠0)(hs:s.bd (-100000) 100000)(ht:t.bd (-100000) 100000)(hl: -100000≤low∧low≤100000):
  Con Tryz.prog 107 false [.ag [.v (.bool (s).lo.s),.sl (lim (s).lo.m).length (qc (lim (s).lo.m)),.v (.int .i64 (s).lo.e),.v (.bool (s).hi.s),.sl (lim (s).hi.m).length (qc (lim (s).hi.m)),.v (.int .i64 (s).hi.e)],.ag [.v (.bool (t).lo.s),.sl (lim (t).lo.m).length (qc (lim (t).lo.m)),.v (.int .i64 (t).lo.e),.v (.bool (t).hi.s),.sl (lim (t).hi.m).length (qc (lim (t).hi.m)),.v (.int .i64 (t).hi.e)],.v (.int .i64 low)] [] (isA (.ag [.v (.bool (s.over t low).lo.s),.sl (lim (s.over t low).lo.m).length (qc (lim (s.over t low).lo.m)),.v (.int .i64 (s.over t low).lo.e),.v (.bool (s.over t low).hi.s),.sl (lim (s.over t low).hi.m).length (qc (lim (s.over t low).hi.m)),.v (.int .i64 (s.over t low).hi.e)])):=by
 refine Con.frzA ?_
 have co:=fun mode=>aqN s t low mode h1 h2 (SpV.bd.mono hs (by omega) (by omega)) (SpV.bd.mono ht (by omega) (by omega)) (by omega)
 have he:∀mode,gbd (-400000) 400000 (zx (fun x y=>x.over y low mode) s t):=by
  intro mode x hx
  have ht1:=ht.1.2.1
  have ht2:=ht.2.2.1
  simp only[zx,List.mem_cons,List.not_mem_nil,or_false]at hx
  rcases hx with rfl|rfl|rfl|rfl
  ·exact(ExV.over_bd (hi:=400000) hs.1 ht1 (by omega) (by omega)).mono (by omega) (by omega)
  ·exact(ExV.over_bd (hi:=400000) hs.1 ht2 (by omega) (by omega)).mono (by omega) (by omega)
  ·exact(ExV.over_bd (hi:=400000) hs.2 ht1 (by omega) (by omega)).mono (by omega) (by omega)
  ·exact(ExV.over_bd (hi:=400000) hs.2 ht2 (by omega) (by omega)).mono (by omega) (by omega)
 have c3:=co 3
 have c2:=co 2
 have e3:=he 3
 have e2:=he 2
 unfold SpV.over
 generalize hE3:zx (fun x y=>x.over y low 3) s t=E3 at*
 generalize hE2:zx (fun x y=>x.over y low 2) s t=E2 at*
 have l3:E3.length=4:=by rw[←hE3];rfl
 have l2:E2.length=4:=by rw[←hE2];rfl
 have cl:=aaB E3 (by omega) (by omega) e3
 have cm:=afr E2 (by omega) (by omega) e2
 rw[l3]at cl
 rw[l2]at cm
 refine Con.of_aw Tryz.func107 rfl Tryz.ntmps107 (by simp) (by simp) (by simp) (AW.seqLe (E:=[(3,.fp [.v (.bool s.lo.s),.sl (lim s.lo.m).length (qc (lim s.lo.m)),.v (.int .i64 s.lo.e),.v (.bool s.hi.s),.sl (lim s.hi.m).length (qc (lim s.hi.m)),.v (.int .i64 s.hi.e)] 0),(4,.fp [.v (.bool t.lo.s),.sl (lim t.lo.m).length (qc (lim t.lo.m)),.v (.int .i64 t.lo.e),.v (.bool t.hi.s),.sl (lim t.hi.m).length (qc (lim t.hi.m)),.v (.int .i64 t.hi.e)] 0),(5,.fp [.v (.int .i64 low)] 0),(6,.pt 0 0)]) (H:=[(0,.own 0 [.v (.bool false),.v (.slice none 0 0),.v (.int .i64 0),.v (.bool false),.v (.slice none 0 0),.v (.int .i64 0)])]) (W.sound ?_) (W.sound ?_))
 ·show @W Tryz.prog 16 ⟨_⟩ ⟨_⟩ _ _
  simp(disch:=omega)only[go_sem]
  exact(Le.frz 50000000 (z:=0) (ks:=[.v (.bool s.lo.s),.sl (lim s.lo.m).length (qc (lim s.lo.m)),.v (.int .i64 s.lo.e),.v (.bool s.hi.s),.sl (lim s.hi.m).length (qc (lim s.hi.m)),.v (.int .i64 s.hi.e)]) (by simp(disch:=omega)only[go_sem]) rfl (by simp(disch:=omega)only[go_sem])).trans ((Le.frz 60000000 (z:=0) (ks:=[.v (.bool t.lo.s),.sl (lim t.lo.m).length (qc (lim t.lo.m)),.v (.int .i64 t.lo.e),.v (.bool t.hi.s),.sl (lim t.hi.m).length (qc (lim t.hi.m)),.v (.int .i64 t.hi.e)]) (by simp(disch:=omega)only[go_sem]) rfl (by simp(disch:=omega)only[go_sem])).trans ((Le.frz 70000000 (z:=0) (ks:=[.v (.int .i64 low)]) (by simp(disch:=omega)only[go_sem]) rfl (by simp(disch:=omega)only[go_sem])).trans (Le.lst [(0,80000000)] _ _ rfl (by simp(disch:=omega)only[go_sem]) (by simp(disch:=omega)only[go_sem]))))
 show @W Tryz.prog 16 ⟨_⟩ ⟨fun x σ=>@qR _ _ _ ⟨_⟩ _ ⟨_⟩ x σ⟩ _ _
 simp(disch:=omega)only[go_sem]
 refine qa (c3) ?_
 simp(disch:=omega)only[go_sem]
 refine qa (cl) ?_
 simp(disch:=omega)only[go_sem]
 refine qa (c2) ?_
 simp(disch:=omega)only[go_sem]
 refine qa (cm) ?_
 simp(disch:=omega)only[go_sem]
 exact ql
def exN(k:Nat):ExV:=⟨false,k,0⟩
theorem aTj{k:Nat}(hk:k<2^63):(exN k).bd 0 64:=⟨fun _=>rfl,Int.le_refl _,by show(bl k:Int)+0≤64;have:bl k≤63:=zy.2 hk;omega⟩
def SpV.divd(s:SpV)(k:Nat)(low:Int):SpV:=s.over ⟨exN k,exN k⟩ low
theorem aaM(s:SpV)(k:Nat)(low:Int)(h0:k≠0)(hk:k<2^63)(hs:s.bd (-100000) 100000)(hl: -100000≤low∧low≤100000):
  Con Tryz.prog 226 false [.ag [.v (.bool (s).lo.s),.sl (lim (s).lo.m).length (qc (lim (s).lo.m)),.v (.int .i64 (s).lo.e),.v (.bool (s).hi.s),.sl (lim (s).hi.m).length (qc (lim (s).hi.m)),.v (.int .i64 (s).hi.e)],.fp [.v (.bool (exN k).s),.sl (lim (exN k).m).length (qc (lim (exN k).m)),.v (.int .i64 (exN k).e)] 0,.fp [.v (.int .i64 low)] 0] [] (isA (.ag [.v (.bool (s.divd k low).lo.s),.sl (lim (s.divd k low).lo.m).length (qc (lim (s.divd k low).lo.m)),.v (.int .i64 (s.divd k low).lo.e),.v (.bool (s.divd k low).hi.s),.sl (lim (s.divd k low).hi.m).length (qc (lim (s.divd k low).hi.m)),.v (.int .i64 (s.divd k low).hi.e)])):=by
 refine Con.frzA ?_
 have hb:=aTj hk
 have co:=ajT s ⟨exN k,exN k⟩ low h0 h0 hs ⟨hb.mono (by omega) (by omega),hb.mono (by omega) (by omega)⟩ hl
 change Con _ _ _ _ _ (isA (.ag [.v (.bool (s.divd k low).lo.s),.sl (lim (s.divd k low).lo.m).length (qc (lim (s.divd k low).lo.m)),.v (.int .i64 (s.divd k low).lo.e),.v (.bool (s.divd k low).hi.s),.sl (lim (s.divd k low).hi.m).length (qc (lim (s.divd k low).hi.m)),.v (.int .i64 (s.divd k low).hi.e)]))at co
 generalize s.divd k low=z at*
 dsimp only at co
 refine Con.of_w (rs:=[.cell 4 133]) Tryz.func226 rfl Tryz.ntmps226 rfl ?_
 simp(disch:=omega)only[go_sem]
 refine qa (co) ?_
 simp(disch:=omega)only[go_sem]
 exact ql
theorem aDv(s:SpV)(low:Int)(hs:s.bd (-400000) 400000)(hl: -400000≤low∧low≤400000):Con Tryz.prog 224 false [.ag [.v (.bool (s).lo.s),.sl (lim (s).lo.m).length (qc (lim (s).lo.m)),.v (.int .i64 (s).lo.e),.v (.bool (s).hi.s),.sl (lim (s).hi.m).length (qc (lim (s).hi.m)),.v (.int .i64 (s).hi.e)],.fp [.v (.int .i64 low)] 0] [] (isA (.ag [.v (.bool (s.out low).lo.s),.sl (lim (s.out low).lo.m).length (qc (lim (s.out low).lo.m)),.v (.int .i64 (s.out low).lo.e),.v (.bool (s.out low).hi.s),.sl (lim (s.out low).hi.m).length (qc (lim (s.out low).hi.m)),.v (.int .i64 (s.out low).hi.e)])):=by
 refine Con.frzA ?_
 refine Con.of_w (rs:=[.cell 3 133]) Tryz.func224 rfl Tryz.ntmps224 rfl ?_
 simp(disch:=omega)only[go_sem]
 refine qa (aqH s low hs hl) ?_
 simp(disch:=omega)only[go_sem]
 exact ql
theorem aDA(n:Nat)(l:List SpV)(low:Int)(hl:l.length≤1000)(hb:sbd (-400000) 400000 l)(hlo: -400000≤low∧low≤400000):Con Tryz.prog 156 false [.ag [.v (.int .i64 (n)),.sl (l).length (qm SpV.cs (l))],.v (.int .i64 low)] [] (isA (.ag [.v (.int .i64 (n)),.sl (l.map fun s=>s.out low).length (qm SpV.cs (l.map fun s=>s.out low))])):=by
 refine Con.frzA ?_
 have c:=Xa n l 224 [.fp [.v (.int .i64 low)] 0] (fun s=>s.out low) hl (fun x hx=>aDv x low (hb x hx) hlo) (by simp(disch:=omega)only[go_sem]) (fun h=>rfl) (fun h=>rfl) (fun ks=>by simp(disch:=omega)only[go_sem]) (fun ρ=>rfl)
 generalize l.map (fun s=>s.out low)=L at*
 refine Con.of_aw Tryz.func156 rfl Tryz.ntmps156 (by simp) (by simp) (by simp) (AW.seqLe (E:=[(2,.fp [.v (.int .i64 n),.sl l.length (qm SpV.cs l)] 0),(3,.fp [.v (.int .i64 low)] 0),(4,.pt 0 0)]) (H:=[(0,.own 0 [.v (.int .i64 0),.v (.slice none 0 0)])]) (W.sound ?_) (W.sound ?_))
 ·show @W Tryz.prog 8 ⟨_⟩ ⟨_⟩ _ _
  simp(disch:=omega)only[go_sem]
  exact(Le.frz 40000000 (z:=0) (ks:=[.v (.int .i64 n),.sl l.length (qm SpV.cs l)]) (by simp(disch:=omega)only[go_sem]) rfl (by simp(disch:=omega)only[go_sem])).trans ((Le.frz 50000000 (z:=0) (ks:=[.v (.int .i64 low)]) (by simp(disch:=omega)only[go_sem]) rfl (by simp(disch:=omega)only[go_sem])).trans (Le.lst [(0,60000000)] _ _ rfl (by simp(disch:=omega)only[go_sem]) (by simp(disch:=omega)only[go_sem])))
 show @W Tryz.prog 8 ⟨_⟩ ⟨fun x σ=>@qR _ _ _ ⟨_⟩ _ ⟨_⟩ x σ⟩ _ _
 simp(disch:=omega)only[go_sem]
 refine qa (c) ?_
 simp(disch:=omega)only[go_sem]
 exact ql
theorem aDy(s:SpV)(y:ExV)(hs:s.bd (-400000) 400000)(hy:y.bd (-400000) 400000):Con Tryz.prog 223 false [.ag [.v (.bool (s).lo.s),.sl (lim (s).lo.m).length (qc (lim (s).lo.m)),.v (.int .i64 (s).lo.e),.v (.bool (s).hi.s),.sl (lim (s).hi.m).length (qc (lim (s).hi.m)),.v (.int .i64 (s).hi.e)],.fp [.v (.bool y.s),.sl (lim y.m).length (qc (lim y.m)),.v (.int .i64 y.e)] 0] [] (isA (.ag [.v (.bool (s.fat y).lo.s),.sl (lim (s.fat y).lo.m).length (qc (lim (s.fat y).lo.m)),.v (.int .i64 (s.fat y).lo.e),.v (.bool (s.fat y).hi.s),.sl (lim (s.fat y).hi.m).length (qc (lim (s.fat y).hi.m)),.v (.int .i64 (s.fat y).hi.e)])):=by
 refine Con.frzA ?_
 refine Con.of_w (rs:=[.cell 3 133]) Tryz.func223 rfl Tryz.ntmps223 rfl ?_
 simp(disch:=omega)only[go_sem]
 refine qp rfl [⟨0,[],[]⟩,⟨1,[],[]⟩,⟨2,[1],[]⟩,⟨4,[1,2],[]⟩,⟨5,[1,2],[]⟩,⟨6,[1,2,5],[]⟩,⟨3,[5,6],[]⟩,⟨7,[],[]⟩,⟨8,[],[]⟩,⟨9,[],[]⟩] (by kernel_rfl) ?_
 simp(disch:=omega)only[go_sem]
 refine qa (Q1 s.lo y hs.1 hy) ?_
 simp(disch:=omega)only[go_sem]
 refine qa (jh s.hi y hs.2 hy) ?_
 simp(disch:=omega)only[go_sem]
 exact ql (hp:=by simp(disch:=omega)only[go_sem,SpV.fat])
theorem aDB(n:Nat)(l:List SpV)(y:ExV)(hl:l.length≤1000)(hb:sbd (-400000) 400000 l)(hy:y.bd (-400000) 400000):Con Tryz.prog 155 false [.ag [.v (.int .i64 (n)),.sl (l).length (qm SpV.cs (l))],.ag [.v (.bool (y).s),.sl (lim (y).m).length (qc (lim (y).m)),.v (.int .i64 (y).e)]] [] (isA (.ag [.v (.int .i64 (n)),.sl (l.map fun s=>s.fat y).length (qm SpV.cs (l.map fun s=>s.fat y))])):=by
 refine Con.frzA ?_
 have c:=Xa n l 223 [.fp [.v (.bool y.s),.sl (lim y.m).length (qc (lim y.m)),.v (.int .i64 y.e)] 0] (fun s=>s.fat y) hl (fun x hx=>aDy x y (hb x hx) hy) (by simp(disch:=omega)only[go_sem]) (fun h=>rfl) (fun h=>rfl) (fun ks=>by simp(disch:=omega)only[go_sem]) (fun ρ=>rfl)
 generalize l.map (fun s=>s.fat y)=L at*
 refine Con.of_aw Tryz.func155 rfl Tryz.ntmps155 (by simp) (by simp) (by simp) (AW.seqLe (E:=[(2,.fp [.v (.int .i64 n),.sl l.length (qm SpV.cs l)] 0),(3,.fp [.v (.bool y.s),.sl (lim y.m).length (qc (lim y.m)),.v (.int .i64 y.e)] 0),(4,.pt 0 0)]) (H:=[(0,.own 0 [.v (.int .i64 0),.v (.slice none 0 0)])]) (W.sound ?_) (W.sound ?_))
 ·show @W Tryz.prog 8 ⟨_⟩ ⟨_⟩ _ _
  simp(disch:=omega)only[go_sem]
  exact(Le.frz 40000000 (z:=0) (ks:=[.v (.int .i64 n),.sl l.length (qm SpV.cs l)]) (by simp(disch:=omega)only[go_sem]) rfl (by simp(disch:=omega)only[go_sem])).trans ((Le.frz 50000000 (z:=0) (ks:=[.v (.bool y.s),.sl (lim y.m).length (qc (lim y.m)),.v (.int .i64 y.e)]) (by simp(disch:=omega)only[go_sem]) rfl (by simp(disch:=omega)only[go_sem])).trans (Le.lst [(0,60000000)] _ _ rfl (by simp(disch:=omega)only[go_sem]) (by simp(disch:=omega)only[go_sem])))
 show @W Tryz.prog 8 ⟨_⟩ ⟨fun x σ=>@qR _ _ _ ⟨_⟩ _ ⟨_⟩ x σ⟩ _ _
 simp(disch:=omega)only[go_sem]
 refine qa (c) ?_
 simp(disch:=omega)only[go_sem]
 exact ql
def zS(l l':List SpV):List SpV:=(List.range l.length).map fun i=>(l.getD i sp0).plus (l'.getD i sp0)
theorem Qz{l l':List SpV}:(zS l l').length=l.length:=by simp[zS]
def fpT(l l':List SpV)(i:Nat):List SpV:=(List.range i).map fun i=>(l.getD i sp0).plus (l'.getD i sp0)
theorem aqh{l l':List SpV}{i:Nat}:(fpT l l' i).length=i:=by simp[fpT]
theorem aCI{l l':List SpV}{i:Nat}:fpT l l' (i+1)=fpT l l' i++[(l.getD i sp0).plus (l'.getD i sp0)]:=by simp[fpT,List.range_succ]
set_option maxRecDepth 100000 in
theorem aaJ(n:Nat)(l l':List SpV)(hl:l.length≤1000)(hl':l'.length=l.length)(hb:sbd (-400000) 400000 l)(hb':sbd (-400000) 400000 l'):Con Tryz.prog 136 false [.ag [.v (.int .i64 (n)),.sl (l).length (qm SpV.cs (l))],.ag [.v (.int .i64 (n)),.sl (l').length (qm SpV.cs (l'))]] [] (isA (.ag [.v (.int .i64 (n)),.sl (zS l l').length (qm SpV.cs (zS l l'))])):=by
 refine Con.frzA ?_
 refine Con.of_aw Tryz.func136 rfl Tryz.ntmps136 (by simp) (by simp) (by simp) (W.sound ?_)
 show @W Tryz.prog 33 ⟨_⟩ ⟨fun x σ=>@qR _ _ _ ⟨_⟩ _ ⟨_⟩ x σ⟩ _ _
 simp(disch:=omega)only[go_sem]
 refine qj (fun i:Nat=>[(3,.pt 3 0),(4,.pt 2 0),(5,.pt 0 0),(12,.sl l.length (qm SpV.cs l)),(13,.v (.int .i64 l.length)),(14,.v (.int .i64 i))])
  (fun i=>[(0,.own 0 [.v (.int .i64 n),.rf 1 0 i]),(1,.own 6 (qm SpV.cs (fpT l l' i))),(2,.own 0 [.v (.int .i64 0),.v (.slice none 0 0)]),(3,.own 0 [.v (.int .i64 n),.sl l'.length (qm SpV.cs l')])]) (fun i=>i≤l.length) (fun i=>l.length-i) 0 (by omega)
  ((Le.ghostC 70000000 1 1 6 (zo:=0) (cs:=[.v (.int .i64 n),.v (.slice none 0 0)]) (by simp(disch:=omega)only[go_sem]) rfl (by simp(disch:=omega)only[go_sem])).trans (Le.lst [(0,70000000),(2,60000000),(3,50000000)] _ _ rfl (by simp(disch:=omega)only[go_sem]) (by simp(disch:=omega)only[go_sem,show fpT l l' 0=[] from rfl,y6,List.set_cons_succ,List.set_cons_zero]))) ?_
 intro i hi
 simp(disch:=omega)only[go_sem]
 refine qe (fun h1=>?_) (fun h1=>?_)
 ·have hi2:i<l.length:=by omega
  have hi3:i<l'.length:=by omega
  have hci:=j7 hi2
  have hcj:=j7 hi3
  have hcut:=zz (aqh (l:=l) (l':=l') (i:=i))
  have hml:=aqh (l:=l) (l':=l') (i:=i)
  have hs:=aCI (l:=l) (l':=l') (i:=i)
  have hx:=jk hb hi2
  have hy:=jk hb' hi3
  generalize l.getD i sp0=x at*
  generalize l'.getD i sp0=y at*
  simp(disch:=omega)only[go_sem,h1,hci]
  refine⟨by omega,by omega,?_⟩
  refine qp rfl [⟨0,[],[]⟩,⟨1,[],[]⟩,⟨2,[1],[]⟩,⟨3,[1,2],[]⟩,⟨4,[1,2],[]⟩,⟨5,[1,2,4],[]⟩,⟨6,[1,2],[]⟩,⟨7,[1,2],[]⟩,⟨8,[1],[]⟩,⟨9,[1],[]⟩,⟨10,[],[]⟩,⟨11,[],[]⟩,⟨12,[],[]⟩] (by kernel_rfl) ?_
  simp(disch:=omega)only[go_sem,hcj]
  refine⟨by omega,by omega,?_⟩
  refine qa (J6 x y hx hy) ?_
  simp(disch:=omega)only[go_sem]
  simp(disch:=omega)only[go_sem,hcut,yK]
  refine⟨⟨by rw[hml];exact Nat.le_refl _,by omega⟩,qb (i+1) [(1,310000000)] (by show i+1≤_;omega) (by show l.length-(i+1)<l.length-i;omega) rfl (by simp(disch:=omega)only[go_sem];try omega) (by simp(disch:=omega)only[go_sem,hs])⟩
 ·simp(disch:=omega)only[go_sem,h1]
  obtain rfl:i=l.length:=by omega
  have hll:(zS l l').length=l.length:=Qz
  have hft:fpT l l' l.length=zS l l':=rfl
  rw[hft,hll]
  refine qg [(0,1)] [.own 6 (qm SpV.cs (zS l l'))] [] [.ag [.v (.int .i64 n),.rf 0 0 l.length]] rfl (by simp(disch:=omega)only[go_sem]) (by simp(disch:=omega)only[go_sem]) (by simp) (by simp) ?_
  show qE _ 6 _=_
  simp(disch:=omega)only[go_sem,zb,zz hll]
theorem aDC(n:Nat)(l:List SpV)(k:Nat)(low:Int)(hl:l.length≤1000)(hb:sbd (-100000) 100000 l)(h0:k≠0)(hk:k<2^63)(hlo: -100000≤low∧low≤100000):Con Tryz.prog 158 false [.ag [.v (.int .i64 (n)),.sl (l).length (qm SpV.cs (l))],.v (.int .i64 k),.v (.int .i64 low)] [] (isA (.ag [.v (.int .i64 (n)),.sl (l.map fun s=>s.divd k low).length (qm SpV.cs (l.map fun s=>s.divd k low))])):=by
 refine Con.frzA ?_
 have c:=Xa n l 226 [.fp [.v (.bool (exN k).s),.sl (lim (exN k).m).length (qc (lim (exN k).m)),.v (.int .i64 (exN k).e)] 0,.fp [.v (.int .i64 low)] 0] (fun s=>s.divd k low) hl (fun x hx=>aaM x k low h0 hk (hb x hx) hlo) (by simp(disch:=omega)only[go_sem]) (fun h=>rfl) (fun h=>rfl) (fun ks=>by simp(disch:=omega)only[go_sem]) (fun ρ=>rfl)
 generalize l.map (fun s=>s.divd k low)=L at*
 refine Con.of_aw Tryz.func158 rfl Tryz.ntmps158 (by simp) (by simp) (by simp)
  (AW.seqLe (E:=[(1,.v (.int .i64 k)),(3,.pt 1 0),(5,.fp [.v (.int .i64 low)] 0),(6,.pt 0 0)]) (H:=[(0,.own 0 [.v (.int .i64 0),.v (.slice none 0 0)]),(1,.own 0 [.v (.int .i64 n),.sl l.length (qm SpV.cs l)])]) (W.sound ?_)
   (AW.seqLe (E:=[(3,.pt 1 0),(5,.fp [.v (.int .i64 low)] 0),(6,.pt 0 0),(7,.fp [.v (.bool (exN k).s),.sl (lim (exN k).m).length (qc (lim (exN k).m)),.v (.int .i64 (exN k).e)] 0)]) (H:=[(0,.own 0 [.v (.int .i64 0),.v (.slice none 0 0)]),(1,.own 0 [.v (.int .i64 n),.sl l.length (qm SpV.cs l)])]) (W.sound ?_) (W.sound ?_)))
 ·show @W Tryz.prog 14 ⟨_⟩ ⟨_⟩ _ _
  simp(disch:=omega)only[go_sem]
  exact(Le.frz 70000000 (z:=0) (ks:=[.v (.int .i64 low)]) (by simp(disch:=omega)only[go_sem]) rfl (by simp(disch:=omega)only[go_sem])).trans (Le.lst [(0,80000000),(1,50000000)] _ _ rfl (by simp(disch:=omega)only[go_sem]) (by simp(disch:=omega)only[go_sem]))
 ·show @W Tryz.prog 14 ⟨_⟩ ⟨_⟩ _ _
  simp(disch:=omega)only[go_sem]
  refine qa (zD k hk) ?_
  simp(disch:=omega)only[go_sem]
  exact(Le.frz 90000000 (z:=0) (ks:=[.v (.bool (exN k).s),.sl (lim (exN k).m).length (qc (lim (exN k).m)),.v (.int .i64 (exN k).e)]) (by simp(disch:=omega)only[go_sem,exN]) rfl (by simp(disch:=omega)only[go_sem])).trans (Le.lst [] _ _ rfl (by simp(disch:=omega)only[go_sem]) (by simp(disch:=omega)only[go_sem]))
 show @W Tryz.prog 14 ⟨_⟩ ⟨fun x σ=>@qR _ _ _ ⟨_⟩ _ ⟨_⟩ x σ⟩ _ _
 simp(disch:=omega)only[go_sem]
 refine qa (c) ?_
 simp(disch:=omega)only[go_sem]
 exact ql
end Go.Ab
namespace Go.Ab
open Go Go.Proofs
theorem aaA(l:List ExV)(h0:0<l.length)(hl:l.length≤1000)(hb:gbd (-400000) 400000 l):Con Tryz.prog 231 false [.rf 10000000 0 l.length,.fn 184 []] [.own 3 (qm ExV.cs l)] (fun r hs bs=>r=.ag [.v (.bool (zp l).s),.sl (lim (zp l).m).length (qc (lim (zp l).m)),.v (.int .i64 (zp l).e)]∧hs=[]∧bs=[.own 3 (qm ExV.cs l)]):=by
 have hc0:=z7 (l:=l) (i:=0) h0
 have q1:decide ((l.length:Int)<1)=false:=decide_eq_false (by omega)
 refine Con.of_aw Tryz.func231 rfl Tryz.ntmps231 (by simp) (by simp) (by simp) (W.sound ?_)
 show @W Tryz.prog 33 ⟨_⟩ ⟨fun x σ=>@qR _ _ _ ⟨_⟩ _ ⟨_⟩ x σ⟩ _ _
 simp(disch:=omega)only[go_sem,q1,hc0]
 refine⟨by omega,by omega,?_⟩
 refine qj (fun x:Nat×ExV=>[(0,.rf 10000000 0 l.length),(1,.fn 184 []),(4,.pt 1 0),(5,.pt 0 0),(6,.v (.int .i64 x.1))])
  (fun x=>[(0,.own 0 [.v (.bool x.2.s),.sl (lim x.2.m).length (qc (lim x.2.m)),.v (.int .i64 x.2.e)]),(1,.own 0 [.v (.bool false),.v (.slice none 0 0),.v (.int .i64 0)]),(10000000,.own 3 (qm ExV.cs l))])
  (fun x=>1≤x.1∧x.1≤l.length∧x.2=((l.take x.1).drop 1).foldl jl (l.getD 0 ex0)) (fun x=>l.length-x.1) (1,l.getD 0 ex0) ⟨by omega,by omega,by simp⟩
  (Le.lst [(0,70000000),(1,60000000)] _ _ rfl (by simp(disch:=omega)only[go_sem]) (by simp(disch:=omega)only[go_sem])) ?_
 rintro⟨i,m⟩ ⟨h1,hi,hm⟩
 dsimp only at h1 hi hm ⊢
 have hmb:m.bd (-400000) 400000:=by
  rw[hm];exact QT YG _ _ (q7 hb h0) (fun x hx=>hb x (List.mem_of_mem_take (List.mem_of_mem_drop hx)))
 simp(disch:=omega)only[go_sem]
 refine qe (fun h2=>?_) (fun h2=>?_)
 ·have hi2:i<l.length:=by omega
  have hci:=z7 (l:=l) (i:=i) hi2
  have hs:jl m (l.getD i ex0)=((l.take (i+1)).drop 1).foldl jl (l.getD 0 ex0):=by
   rw[jQ h1 hi2,List.foldl_append,←hm];rfl
  simp(disch:=omega)only[go_sem,h2]
  refine qp rfl [⟨0,[],[]⟩,⟨1,[],[]⟩,⟨2,[],[]⟩,⟨3,[],[]⟩,⟨4,[],[]⟩,⟨5,[4],[]⟩,⟨6,[],[]⟩,⟨7,[],[]⟩] (by kernel_rfl) ?_
  have hg:qq Tryz.prog 184=True:=by simp(disch:=omega)only[go_sem]
  simp(disch:=omega)only[go_sem,hci,hg]
  refine⟨by omega,by omega,?_⟩
  refine qh (yg (l.getD i ex0) m (q7 hb hi2) hmb) ?_
  simp(disch:=omega)only[go_sem]
  generalize l.getD i ex0=y at*
  refine qe (fun h3=>?_) (fun h3=>?_)
  ·simp(disch:=omega)only[go_sem,h3,hci]
   have:jl m y=y:=if_pos h3
   refine⟨by omega,by omega,qb (i+1,y) [] ⟨by show 1≤i+1;omega,by show i+1≤_;omega,this▸hs⟩ (by show l.length-(i+1)<l.length-i;omega) rfl (by simp(disch:=omega)only[go_sem];try omega) (by simp(disch:=omega)only[go_sem])⟩
  ·simp(disch:=omega)only[go_sem,h3]
   have:jl m y=m:=if_neg h3
   refine qb (i+1,m) [] ⟨by show 1≤i+1;omega,by show i+1≤_;omega,this▸hs⟩ (by show l.length-(i+1)<l.length-i;omega) rfl (by simp(disch:=omega)only[go_sem];try omega) (by simp(disch:=omega)only[go_sem])
 ·simp(disch:=omega)only[go_sem,h2]
  have:i=l.length:=by omega
  subst this
  rw[List.take_length]at hm
  subst hm
  refine qg [] [] [.own 3 (qm ExV.cs l)] [.ag [.v (.bool (zp l).s),.sl (lim (zp l).m).length (qc (lim (zp l).m)),.v (.int .i64 (zp l).e)]] rfl (by simp(disch:=omega)only[go_sem,zp]) (by simp(disch:=omega)only[go_sem]) (by simp) (by simp) ⟨rfl,rfl,rfl⟩
theorem aaz(l:List ExV)(h0:0<l.length)(hl:l.length≤1000)(hb:gbd (-400000) 400000 l):Con Tryz.prog 171 false [.rf 10000000 0 l.length] [.own 3 (qm ExV.cs l)] (fun r hs bs=>r=.ag [.v (.bool (zp l).s),.sl (lim (zp l).m).length (qc (lim (zp l).m)),.v (.int .i64 (zp l).e)]∧hs=[]∧bs=[.own 3 (qm ExV.cs l)]):=by
 refine Con.of_aw Tryz.func171 rfl Tryz.ntmps171 (by simp) (by simp) (by simp) (W.sound ?_)
 show @W Tryz.prog 5 ⟨_⟩ ⟨fun x σ=>@qR _ _ _ ⟨_⟩ _ ⟨_⟩ x σ⟩ _ _
 simp(disch:=omega)only[go_sem]
 refine za false [10000000] (aaA l h0 hl hb) (by simp(disch:=omega)only[go_sem]) (by simp(disch:=omega)only[go_sem]) rfl (qQ (z:=3) (cs:=qm ExV.cs l) (by simp(disch:=omega)only[go_sem]) (by simp(disch:=omega)only[go_sem])) (by intro n hn;exact⟨_,List.mem_cons_self ..,by rw[List.mem_singleton.1 hn];rfl⟩) ?_
 rintro r hs bs ⟨rfl,rfl,rfl⟩-
 refine⟨by simp[qO],?_⟩
 simp(disch:=omega)only[go_sem]
 refine qg [] [] [.own 3 (qm ExV.cs l)] [.ag [.v (.bool (zp l).s),.sl (lim (zp l).m).length (qc (lim (zp l).m)),.v (.int .i64 (zp l).e)]] rfl (by simp(disch:=omega)only[go_sem]) (by simp(disch:=omega)only[go_sem]) (by simp) (by simp) ⟨rfl,rfl,rfl⟩
def akC(n:Nat)(l:List ExV)(j k:Nat):ExV:=(List.range k).foldl (fun s i=>s.plus (l.getD (i*n+j) ex0).abs) ex0
theorem arm(n:Nat)(l:List ExV)(j k:Nat):akC n l j (k+1)=(akC n l j k).plus (l.getD (k*n+j) ex0).abs:=by
 unfold akC;rw[List.range_succ,List.foldl_append,List.foldl_cons,List.foldl_nil]
theorem arn{lo hi:Int}{n:Nat}{l:List ExV}{j k:Nat}(hj:j<n)(hk:k≤n)(hl:l.length=n*n)(hb:gbd lo hi l)(h0:lo≤0∧0≤hi):(akC n l j k).bd lo (hi+k):=
 YT _ h0 k fun t ht=>ExV.abs_bd (q7 hb (by rw[hl];exact zX (by omega) hj))
def yv(n:Nat)(l:List ExV)(k:Nat):ExV:=(List.range k).foldl (fun s j=>zp [s,akC n l j n]) ex0
theorem JY(n:Nat)(l:List ExV)(k:Nat):yv n l (k+1)=zp [yv n l k,akC n l k n]:=by
 unfold yv;rw[List.range_succ,List.foldl_append,List.foldl_cons,List.foldl_nil]
theorem YC{lo hi:Int}{n:Nat}{l:List ExV}(hl:l.length=n*n)(hb:gbd lo hi l)(h0:lo≤0∧0≤hi):∀k,k≤n→(yv n l k).bd lo (hi+n)
 |0,_=>afm h0.1 (by omega)
 |k+1,h=>by
  rw[JY]
  refine Zz (fun x hx=>?_) (by simp)
  simp only[List.mem_cons,List.not_mem_nil,or_false]at hx
  rcases hx with rfl|rfl
  ·exact YC hl hb h0 k (by omega)
  ·exact arn (by omega) (Nat.le_refl _) hl hb h0
set_option maxRecDepth 100000 in
theorem Y6(n:Nat)(l:List ExV)(hn:n≤4)(hl:l.length=n*n)(hb:gbd (-390000) 390000 l):Con Tryz.prog 131 false [.ag [.v (.int .i64 (n)),.sl (l).length (qm ExV.cs (l))]] [] (isA (.ag [.v (.bool (yv n l n).s),.sl (lim (yv n l n).m).length (qc (lim (yv n l n).m)),.v (.int .i64 (yv n l n).e)])):=by
 refine Con.frzA ?_
 have hq:=yn hn
 refine Con.of_aw Tryz.func131 rfl Tryz.ntmps131 (by simp) (by simp) (by simp) (AW.seqLe (E:=[(1,.fp [.v (.int .i64 n),.sl l.length (qm ExV.cs l)] 0),(2,.pt 0 0)]) (H:=[(0,.own 0 [.v (.bool false),.v (.slice none 0 0),.v (.int .i64 0)])]) (W.sound ?_) (W.sound ?_))
 ·show @W Tryz.prog 31 ⟨_⟩ ⟨_⟩ _ _
  simp(disch:=omega)only[go_sem]
  exact(Le.frz 30000000 (z:=0) (ks:=[.v (.int .i64 n),.sl l.length (qm ExV.cs l)]) (by simp(disch:=omega)only[go_sem]) rfl (by simp(disch:=omega)only[go_sem])).trans (Le.lst [(0,40000000)] _ _ rfl (by simp(disch:=omega)only[go_sem]) (by simp(disch:=omega)only[go_sem]))
 show @W Tryz.prog 31 ⟨_⟩ ⟨fun x σ=>@qR _ _ _ ⟨_⟩ _ ⟨_⟩ x σ⟩ _ _
 simp(disch:=omega)only[go_sem]
 refine qj (fun j:Nat=>[(1,.fp [.v (.int .i64 n),.sl l.length (qm ExV.cs l)] 0),(2,.pt 0 0),(3,.pt 1 0),(8,.v (.int .i64 n)),(9,.v (.int .i64 j))])
  (fun j=>[(0,.own 0 [.v (.bool false),.v (.slice none 0 0),.v (.int .i64 0)]),(1,.own 0 [.v (.bool (yv n l j).s),.sl (lim (yv n l j).m).length (qc (lim (yv n l j).m)),.v (.int .i64 (yv n l j).e)])]) (fun j=>j≤n) (fun j=>n-j) 0 (by omega)
  ((Le.nilC 50000000 1 (zo:=0) (cs:=[.v (.bool false),.v (.slice none 0 0),.v (.int .i64 0)]) (by simp(disch:=omega)only[go_sem]) rfl).trans (Le.lst [(1,50000000)] _ _ rfl (by simp(disch:=omega)only[go_sem]) (by simp(disch:=omega)only[go_sem,List.set_cons_succ,List.set_cons_zero,show yv n l 0=ex0 from rfl,ex0,qo]))) ?_
 intro j hj
 have hN:=YC hl hb (by omega) j hj
 have hNs:=JY n l j
 generalize hNN:yv n l j=A at*
 simp(disch:=omega)only[go_sem]
 refine qe (fun h1=>?_) (fun h1=>?_)
 ·simp(disch:=omega)only[go_sem,h1]
  refine qj (fun k:Nat=>[(1,.fp [.v (.int .i64 n),.sl l.length (qm ExV.cs l)] 0),(2,.pt 0 0),(3,.pt 1 0),(4,.v (.int .i64 j)),(5,.pt 2 0),(8,.v (.int .i64 n)),(9,.v (.int .i64 j)),(13,.v (.int .i64 n)),(14,.v (.int .i64 k))])
   (fun k=>[(0,.own 0 [.v (.bool false),.v (.slice none 0 0),.v (.int .i64 0)]),(1,.own 0 [.v (.bool A.s),.sl (lim A.m).length (qc (lim A.m)),.v (.int .i64 A.e)]),(2,.own 0 [.v (.bool (akC n l j k).s),.sl (lim (akC n l j k).m).length (qc (lim (akC n l j k).m)),.v (.int .i64 (akC n l j k).e)])]) (fun k=>k≤n) (fun k=>n-k) 0 (by omega)
   ((Le.nilC 70000000 1 (zo:=0) (cs:=[.v (.bool false),.v (.slice none 0 0),.v (.int .i64 0)]) (by simp(disch:=omega)only[go_sem]) rfl).trans (Le.lst [(2,70000000)] _ _ rfl (by simp(disch:=omega)only[go_sem]) (by simp(disch:=omega)only[go_sem,List.set_cons_succ,List.set_cons_zero,show akC n l j 0=ex0 from rfl,ex0,qo]))) ?_
  intro k hk
  have hC:=arn (k:=k) (show j<n by omega) hk hl hb (by omega)
  have hCs:=arm n l j k
  generalize hCC:akC n l j k=D at*
  simp(disch:=omega)only[go_sem]
  refine qe (fun h2=>?_) (fun h2=>?_)
  ·have hx:=zX (show k<n by omega) (show j<n by omega)
   have c1:=Jo n l k j (by omega) (by omega) (by omega) (by omega) (by omega)
   have b1:=q7 hb (show k*n+j<l.length by omega)
   generalize l.getD (k*n+j) ex0=x at*
   simp(disch:=omega)only[go_sem,h2]
   refine qp rfl [⟨0,[],[]⟩,⟨1,[0],[]⟩,⟨2,[0,1],[]⟩,⟨3,[0,1],[]⟩,⟨4,[0],[]⟩,⟨5,[0],[]⟩,⟨6,[],[]⟩,⟨7,[],[]⟩] (by kernel_rfl) ?_
   simp(disch:=omega)only[go_sem]
   refine qa (c1) ?_
   simp(disch:=omega)only[go_sem]
   refine qa (Xd x) ?_
   simp(disch:=omega)only[go_sem]
   refine qa (jh D x.abs (hC.mono (by omega) (by omega)) (ExV.abs_bd (b1.mono (by omega) (by omega)))) ?_
   simp(disch:=omega)only[go_sem]
   exact qb (k+1) [] (by show k+1≤_;omega) (by show n-(k+1)<n-k;omega) rfl (by simp(disch:=omega)only[go_sem];try omega) (by simp(disch:=omega)only[go_sem,hCs])
  ·obtain rfl:n=k:=by omega
   rw[hCC]at hNs
   simp(disch:=omega)only[go_sem,h2]
   have hrow:([.v (.bool A.s),.sl (lim A.m).length (qc (lim A.m)),.v (.int .i64 A.e),.v (.bool D.s),.sl (lim D.m).length (qc (lim D.m)),.v (.int .i64 D.e)]:List AV)=qm ExV.cs [A,D]:=rfl
   rw[hrow]
   refine za false [290000000] (aaz [A,D] (by simp) (by simp) (fun x hx=>?_)) (by simp(disch:=omega)only[go_sem]) (by simp(disch:=omega)only[go_sem]) rfl (qQ (z:=3) (cs:=qm ExV.cs [A,D]) (by simp(disch:=omega)only[go_sem]) (by simp(disch:=omega)only[go_sem])) (by intro n hn;exact⟨_,List.mem_cons_self ..,by rw[List.mem_singleton.1 hn];rfl⟩) ?_
   ·simp only[List.mem_cons,List.not_mem_nil,or_false]at hx
    rcases hx with rfl|rfl
    ·exact hN.mono (by omega) (by omega)
    ·exact hC.mono (by omega) (by omega)
   rintro r hs bs ⟨rfl,rfl,rfl⟩-
   refine⟨by simp[qO],?_⟩
   simp(disch:=omega)only[go_sem]
   exact qb (j+1) [] (by show j+1≤_;omega) (by show n-(j+1)<n-j;omega) rfl (by simp(disch:=omega)only[go_sem];try omega) (by simp(disch:=omega)only[go_sem,hNs])
 ·simp(disch:=omega)only[go_sem,h1]
  obtain rfl:n=j:=by omega
  rw[hNN]
  exact ql
end Go.Ab
namespace Go.Ab
open Go Go.Proofs
def ExV.can(x:ExV):ExV:=⟨oS x.s x.m,oM x.m,oE x.m x.e⟩
def ExV.fit(x:ExV):Bool:=jP x.m x.e
def SpV.can(s:SpV):SpV:=⟨s.lo.can,s.hi.can⟩
def SpV.fit(s:SpV):Bool:=s.lo.fit&&s.hi.fit
theorem Xb(x:ExV)(hx:x.bd (-400000) 400000):Con Tryz.prog 95 false [.ag [.v (.bool (x).s),.sl (lim (x).m).length (qc (lim (x).m)),.v (.int .i64 (x).e)]] [] (isA (if x.fit=true then .tu [.ag [.v (.bool (x.can).s),.sl (lim (x.can).m).length (qc (lim (x.can).m)),.v (.int .i64 (x.can).e)],.v (.bool true)]else .tu [.ag [.v (.bool (false)),.sl (lim (0)).length (qc (lim (0))),.v (.int .i64 (0))],.v (.bool false)])):=by
 obtain⟨a1,a2,a3⟩:=hx
 exact aMs x.s x.m x.e (by omega) (by omega)
set_option maxRecDepth 100000 in
theorem arc(l:List ExV)(hl:l.length≤1000)(hb:gbd (-400000) 400000 l):Con Tryz.prog 122 false [.sl l.length (qm ExV.cs l)] []
  (isA (if l.all ExV.fit=true then .tu [.sl l.length (qm ExV.cs (l.map ExV.can)),.v (.bool true)]else .tu [.sl 0 [],.v (.bool false)])):=by
 refine Con.frzA ?_
 refine Con.of_aw Tryz.func122 rfl Tryz.ntmps122 (by simp) (by simp) (by simp) (W.sound ?_)
 show @W Tryz.prog 28 ⟨_⟩ ⟨fun x σ=>@qR _ _ _ ⟨_⟩ _ ⟨_⟩ x σ⟩ _ _
 simp(disch:=omega)only[go_sem]
 refine qj (fun i:Nat=>[(2,.v (.slice none 0 0)),(3,.v (.bool false)),(4,.rf 1 0 i),(9,.sl l.length (qm ExV.cs l)),(10,.v (.int .i64 l.length)),(11,.v (.int .i64 i))])
  (fun i=>[(1,.own 3 (qm ExV.cs (mpT l ExV.can i)))]) (fun i=>i≤l.length∧∀x∈l.take i,x.fit=true) (fun i=>l.length-i) 0 ⟨by omega,by simp⟩
  ((Le.ghost 4 1 3 (by simp(disch:=omega)only[go_sem]) (by simp(disch:=omega)only[go_sem])).trans (Le.lst [] _ _ rfl (by simp(disch:=omega)only[go_sem]) (by simp(disch:=omega)only[go_sem,jH,Jd]))) ?_
 rintro i ⟨hi,hf⟩
 simp(disch:=omega)only[go_sem]
 refine qe (fun h1=>?_) (fun h1=>?_)
 ·have hi2:i<l.length:=by omega
  have hci:=z7 hi2
  have hcut:=zC (zM (F:=ExV.can) hi)
  have hml:=zM (F:=ExV.can) hi
  have hs:=jI (F:=ExV.can) ex0 hi2
  have hx:=q7 hb hi2
  have hmem:l.getD i ex0∈l:=by rw[List.getD_eq_getElem?_getD,List.getElem?_eq_getElem hi2];exact List.getElem_mem _
  have htk:l.take (i+1)=l.take i++[l.getD i ex0]:=by
   rw[List.take_add_one,List.getElem?_eq_getElem hi2,List.getD_eq_getElem?_getD,List.getElem?_eq_getElem hi2];rfl
  generalize l.getD i ex0=x at*
  have cd:=Xb x hx
  simp(disch:=omega)only[go_sem,h1,hci]
  refine⟨by omega,by omega,?_⟩
  cases hft:x.fit
  ·have hall:l.all ExV.fit=false:=by rw[List.all_eq_false];exact⟨x,hmem,by rw[hft];simp⟩
   rw[hft,if_neg (by simp)]at cd
   rw[hall,if_neg (by simp)]
   refine qa (cd) ?_
   simp(disch:=omega)only[go_sem]
   exact ql
  ·rw[hft,if_pos rfl]at cd
   refine qa (cd) ?_
   simp(disch:=omega)only[go_sem]
   simp(disch:=omega)only[go_sem,hcut,QA]
   refine⟨⟨by rw[hml];exact Nat.le_refl _,by omega⟩,qb (i+1) [(1,270000000)] ⟨by show i+1≤_;omega,fun y hy=>?_⟩ (by show l.length-(i+1)<l.length-i;omega) rfl (by simp(disch:=omega)only[go_sem];try omega) (by simp(disch:=omega)only[go_sem,hs])⟩
   rw[htk]at hy
   rcases List.mem_append.1 hy with h|h
   ·exact hf y h
   ·rw[List.mem_singleton.1 h];exact hft
 ·simp(disch:=omega)only[go_sem,h1]
  obtain rfl:i=l.length:=by omega
  rw[List.take_length]at hf
  have hall:l.all ExV.fit=true:=List.all_eq_true.2 hf
  rw[hall,if_pos rfl]
  refine qg [(0,1)] [.own 3 (qm ExV.cs (mpT l ExV.can l.length))] [] [.rf 0 0 l.length,.v (.bool true)] rfl (by simp(disch:=omega)only[go_sem]) (by simp(disch:=omega)only[go_sem]) (by simp) (by simp) ?_
  show qE _ 6 _=_
  simp(disch:=omega)only[go_sem,Yw,zb,yx,zC (l:=l.map ExV.can) (k:=l.length) (List.length_map ..)]
theorem aqT(n:Nat)(l:List ExV)(hl:l.length≤1000)(hb:gbd (-400000) 400000 l):Con Tryz.prog 88 false [.ag [.v (.int .i64 (n)),.sl (l).length (qm ExV.cs (l))]] []
  (isA (if l.all ExV.fit=true then .tu [.ag [.v (.int .i64 n),.sl l.length (qm ExV.cs (l.map ExV.can))],.v (.bool true)]else .tu [.ag [.v (.int .i64 0),.sl 0 []],.v (.bool false)])):=by
 refine Con.frzA ?_
 have cd:=arc l hl hb
 generalize l.map ExV.can=L at*
 cases hf:l.all ExV.fit
 ·rw[hf,if_neg (by simp)]at cd
  rw[if_neg (by simp)]
  refine Con.of_w (rs:=[.cell 2 25,.tmp 3]) Tryz.func88 rfl Tryz.ntmps88 rfl ?_
  simp(disch:=omega)only[go_sem]
  refine qa (cd) ?_
  simp(disch:=omega)only[go_sem]
  exact ql
 ·rw[hf,if_pos rfl]at cd
  rw[if_pos rfl]
  refine Con.of_w (rs:=[.cell 2 25,.tmp 3]) Tryz.func88 rfl Tryz.ntmps88 rfl ?_
  simp(disch:=omega)only[go_sem]
  refine qa (cd) ?_
  simp(disch:=omega)only[go_sem]
  exact ql
theorem JE(n:Nat)(l:List ExV)(x:ExV)(hl:l.length≤1000)(hb:gbd (-400000) 400000 l)(hx:x.bd (-400000) 400000):Con Tryz.prog 129 false [.ag [.v (.int .i64 (n)),.sl (l).length (qm ExV.cs (l))],.ag [.v (.bool (x).s),.sl (lim (x).m).length (qc (lim (x).m)),.v (.int .i64 (x).e)]] []
  (isA (if(l.all ExV.fit&&x.fit)=true then .tu [.ag [.v (.int .i64 n),.sl l.length (qm ExV.cs (l.map ExV.can))],.ag [.v (.bool (x.can).s),.sl (lim (x.can).m).length (qc (lim (x.can).m)),.v (.int .i64 (x.can).e)],.v (.bool true)]else .tu [.ag [.v (.int .i64 0),.sl 0 []],.ag [.v (.bool (false)),.sl (lim (0)).length (qc (lim (0))),.v (.int .i64 (0))],.v (.bool false)])):=by
 refine Con.frzA ?_
 have cd:=aqT n l hl hb
 have cx:=Xb x hx
 generalize l.map ExV.can=L at*
 cases hf:l.all ExV.fit<;>cases hg:x.fit
 ·rw[hf,if_neg (by simp)]at cd
  rw[hg,if_neg (by simp)]at cx
  rw[if_neg (by simp)]
  refine Con.of_w (rs:=[.cell 4 25,.cell 5 40,.tmp 6]) Tryz.func129 rfl Tryz.ntmps129 rfl ?_
  simp(disch:=omega)only[go_sem]
  refine qa (cd) ?_
  simp(disch:=omega)only[go_sem]
  refine qa (cx) ?_
  simp(disch:=omega)only[go_sem]
  exact ql (hp:=by simp(disch:=omega)only[go_sem,qo,List.length_nil,jp])
 ·rw[hf,if_neg (by simp)]at cd
  rw[hg,if_pos rfl]at cx
  rw[if_neg (by simp)]
  refine Con.of_w (rs:=[.cell 4 25,.cell 5 40,.tmp 6]) Tryz.func129 rfl Tryz.ntmps129 rfl ?_
  simp(disch:=omega)only[go_sem]
  refine qa (cd) ?_
  simp(disch:=omega)only[go_sem]
  refine qa (cx) ?_
  simp(disch:=omega)only[go_sem]
  exact ql (hp:=by simp(disch:=omega)only[go_sem,qo,List.length_nil,jp])
 ·rw[hf,if_pos rfl]at cd
  rw[hg,if_neg (by simp)]at cx
  rw[if_neg (by simp)]
  refine Con.of_w (rs:=[.cell 4 25,.cell 5 40,.tmp 6]) Tryz.func129 rfl Tryz.ntmps129 rfl ?_
  simp(disch:=omega)only[go_sem]
  refine qa (cd) ?_
  simp(disch:=omega)only[go_sem]
  refine qa (cx) ?_
  simp(disch:=omega)only[go_sem]
  exact ql (hp:=by simp(disch:=omega)only[go_sem,qo,List.length_nil,jp])
 ·rw[hf,if_pos rfl]at cd
  rw[hg,if_pos rfl]at cx
  rw[if_pos (by rfl)]
  refine Con.of_w (rs:=[.cell 4 25,.cell 5 40,.tmp 6]) Tryz.func129 rfl Tryz.ntmps129 rfl ?_
  simp(disch:=omega)only[go_sem]
  refine qa (cd) ?_
  simp(disch:=omega)only[go_sem]
  refine qa (cx) ?_
  simp(disch:=omega)only[go_sem]
  refine qp rfl [⟨0,[],[]⟩,⟨1,[0],[]⟩,⟨2,[1],[]⟩,⟨3,[],[]⟩,⟨4,[],[]⟩] (by kernel_rfl) ?_
  simp(disch:=omega)only[go_sem]
  exact ql
theorem aqI(s:SpV)(hs:s.bd (-400000) 400000):Con Tryz.prog 108 false [.ag [.v (.bool (s).lo.s),.sl (lim (s).lo.m).length (qc (lim (s).lo.m)),.v (.int .i64 (s).lo.e),.v (.bool (s).hi.s),.sl (lim (s).hi.m).length (qc (lim (s).hi.m)),.v (.int .i64 (s).hi.e)]] []
  (isA (if s.fit=true then .tu [.ag [.v (.bool (s.can).lo.s),.sl (lim (s.can).lo.m).length (qc (lim (s.can).lo.m)),.v (.int .i64 (s.can).lo.e),.v (.bool (s.can).hi.s),.sl (lim (s.can).hi.m).length (qc (lim (s.can).hi.m)),.v (.int .i64 (s.can).hi.e)],.v (.bool true)]else .tu [.ag [.v (.bool (sp0).lo.s),.sl (lim (sp0).lo.m).length (qc (lim (sp0).lo.m)),.v (.int .i64 (sp0).lo.e),.v (.bool (sp0).hi.s),.sl (lim (sp0).hi.m).length (qc (lim (sp0).hi.m)),.v (.int .i64 (sp0).hi.e)],.v (.bool false)])):=by
 refine Con.frzA ?_
 have c1:=Xb s.lo hs.1
 have c2:=Xb s.hi hs.2
 unfold SpV.fit
 cases h1:s.lo.fit<;>cases h2:s.hi.fit
 ·rw[h1,if_neg (by simp)]at c1
  rw[h2,if_neg (by simp)]at c2
  rw[if_neg (by simp)]
  refine Con.of_w (rs:=[.cell 2 51,.tmp 3]) Tryz.func108 rfl Tryz.ntmps108 rfl ?_
  simp(disch:=omega)only[go_sem]
  refine qa (c1) ?_
  simp(disch:=omega)only[go_sem]
  refine qa (c2) ?_
  simp(disch:=omega)only[go_sem]
  exact ql (hp:=by simp(disch:=omega)only[go_sem,sp0,ex0,qo,List.length_nil,jp])
 ·rw[h1,if_neg (by simp)]at c1
  rw[h2,if_pos rfl]at c2
  rw[if_neg (by simp)]
  refine Con.of_w (rs:=[.cell 2 51,.tmp 3]) Tryz.func108 rfl Tryz.ntmps108 rfl ?_
  simp(disch:=omega)only[go_sem]
  refine qa (c1) ?_
  simp(disch:=omega)only[go_sem]
  refine qa (c2) ?_
  simp(disch:=omega)only[go_sem]
  exact ql (hp:=by simp(disch:=omega)only[go_sem,sp0,ex0,qo,List.length_nil,jp])
 ·rw[h1,if_pos rfl]at c1
  rw[h2,if_neg (by simp)]at c2
  rw[if_neg (by simp)]
  refine Con.of_w (rs:=[.cell 2 51,.tmp 3]) Tryz.func108 rfl Tryz.ntmps108 rfl ?_
  simp(disch:=omega)only[go_sem]
  refine qa (c1) ?_
  simp(disch:=omega)only[go_sem]
  refine qa (c2) ?_
  simp(disch:=omega)only[go_sem]
  exact ql (hp:=by simp(disch:=omega)only[go_sem,sp0,ex0,qo,List.length_nil,jp])
 ·rw[h1,if_pos rfl]at c1
  rw[h2,if_pos rfl]at c2
  rw[if_pos (by rfl)]
  refine Con.of_w (rs:=[.cell 2 51,.tmp 3]) Tryz.func108 rfl Tryz.ntmps108 rfl ?_
  simp(disch:=omega)only[go_sem]
  refine qa (c1) ?_
  simp(disch:=omega)only[go_sem]
  refine qa (c2) ?_
  simp(disch:=omega)only[go_sem]
  exact ql (hp:=by simp(disch:=omega)only[go_sem,SpV.can])
set_option maxRecDepth 100000 in
theorem aaF(n:Nat)(l:List SpV)(hl:l.length≤1000)(hb:sbd (-400000) 400000 l):Con Tryz.prog 137 false [.ag [.v (.int .i64 (n)),.sl (l).length (qm SpV.cs (l))]] []
  (isA (if l.all SpV.fit=true then .tu [.ag [.v (.int .i64 n),.sl l.length (qm SpV.cs (l.map SpV.can))],.v (.bool true)]else .tu [.ag [.v (.int .i64 0),.sl 0 []],.v (.bool false)])):=by
 refine Con.frzA ?_
 refine Con.of_aw Tryz.func137 rfl Tryz.ntmps137 (by simp) (by simp) (by simp) (W.sound ?_)
 show @W Tryz.prog 35 ⟨_⟩ ⟨fun x σ=>@qR _ _ _ ⟨_⟩ _ ⟨_⟩ x σ⟩ _ _
 simp(disch:=omega)only[go_sem]
 refine qj (fun i:Nat=>[(2,.pt 2 0),(3,.v (.bool false)),(4,.pt 0 0),(13,.sl l.length (qm SpV.cs l)),(14,.v (.int .i64 l.length)),(15,.v (.int .i64 i))])
  (fun i=>[(0,.own 0 [.v (.int .i64 n),.rf 1 0 i]),(1,.own 6 (qm SpV.cs (mpT l SpV.can i))),(2,.own 0 [.v (.int .i64 0),.v (.slice none 0 0)])]) (fun i=>i≤l.length∧∀x∈l.take i,x.fit=true) (fun i=>l.length-i) 0 ⟨by omega,by simp⟩
  ((Le.ghostC 60000000 1 1 6 (zo:=0) (cs:=[.v (.int .i64 n),.v (.slice none 0 0)]) (by simp(disch:=omega)only[go_sem]) rfl (by simp(disch:=omega)only[go_sem])).trans (Le.lst [(0,60000000),(2,40000000)] _ _ rfl (by simp(disch:=omega)only[go_sem]) (by simp(disch:=omega)only[go_sem,jH,y6,List.set_cons_succ,List.set_cons_zero]))) ?_
 rintro i ⟨hi,hf⟩
 simp(disch:=omega)only[go_sem]
 refine qe (fun h1=>?_) (fun h1=>?_)
 ·have hi2:i<l.length:=by omega
  have hci:=j7 hi2
  have hcut:=zz (zM (F:=SpV.can) hi)
  have hml:=zM (F:=SpV.can) hi
  have hs:=jI (F:=SpV.can) sp0 hi2
  have hx:=jk hb hi2
  have hmem:l.getD i sp0∈l:=by rw[List.getD_eq_getElem?_getD,List.getElem?_eq_getElem hi2];exact List.getElem_mem _
  have htk:l.take (i+1)=l.take i++[l.getD i sp0]:=by
   rw[List.take_add_one,List.getElem?_eq_getElem hi2,List.getD_eq_getElem?_getD,List.getElem?_eq_getElem hi2];rfl
  generalize l.getD i sp0=x at*
  have cd:=aqI x hx
  simp(disch:=omega)only[go_sem,h1,hci]
  refine⟨by omega,by omega,?_⟩
  cases hft:x.fit
  ·have hall:l.all SpV.fit=false:=by rw[List.all_eq_false];exact⟨x,hmem,by rw[hft];simp⟩
   rw[hft,if_neg (by simp)]at cd
   rw[hall,if_neg (by simp)]
   refine qa (cd) ?_
   simp(disch:=omega)only[go_sem]
   exact ql
  ·rw[hft,if_pos rfl]at cd
   refine qa (cd) ?_
   simp(disch:=omega)only[go_sem]
   simp(disch:=omega)only[go_sem,hcut,yK]
   refine⟨⟨by rw[hml];exact Nat.le_refl _,by omega⟩,qb (i+1) [(1,330000000)] ⟨by show i+1≤_;omega,fun y hy=>?_⟩ (by show l.length-(i+1)<l.length-i;omega) rfl (by simp(disch:=omega)only[go_sem];try omega) (by simp(disch:=omega)only[go_sem,hs])⟩
   rw[htk]at hy
   rcases List.mem_append.1 hy with h|h
   ·exact hf y h
   ·rw[List.mem_singleton.1 h];exact hft
 ·simp(disch:=omega)only[go_sem,h1]
  obtain rfl:i=l.length:=by omega
  rw[List.take_length]at hf
  have hall:l.all SpV.fit=true:=List.all_eq_true.2 hf
  rw[hall,if_pos rfl]
  refine qg [(0,1)] [.own 6 (qm SpV.cs (mpT l SpV.can l.length))] [] [.ag [.v (.int .i64 n),.rf 0 0 l.length],.v (.bool true)] rfl (by simp(disch:=omega)only[go_sem]) (by simp(disch:=omega)only[go_sem]) (by simp) (by simp) ?_
  show qE _ 6 _=_
  simp(disch:=omega)only[go_sem,Yw,zb,yx,zz (l:=l.map SpV.can) (k:=l.length) (List.length_map ..)]
end Go.Ab
namespace Go.Ab
open Go Go.Proofs
def fct:Nat→Nat
 |0=>1
 |n+1=>(n+1)*fct n
theorem aqo:∀n,n≤500→bl (fct n)≤9*n+1
 |0,_=>by decide
 |n+1,h=>by
  have h1:=aqo n (by omega)
  have h2:=Xj (n+1) (fct n)
  have h3:bl (n+1)≤9:=zy.2 (by omega)
  show bl ((n+1)*fct n)≤_
  omega
theorem aqn:∀n,0<fct n
 |0=>by decide
 |n+1=>Nat.mul_pos (by omega) (aqn n)
theorem aDz(n:Nat)(hn:n≤402):Con Tryz.prog 268 false [.v (.int .i64 n)] [] (isA (.sl (lim (fct n)).length (qc (lim (fct n))))):=by
 refine Con.frzA ?_
 refine Con.of_w (rs:=[.tmp 2]) Tryz.func268 rfl Tryz.ntmps268 rfl ?_
 simp(disch:=omega)only[go_sem]
 refine qa (zD 1 (by omega)) ?_
 simp(disch:=omega)only[go_sem]
 by_cases h1:n≤1
 ·have e1:fct n=1:=by
   rcases(by omega:n=0∨n=1)with rfl|rfl<;>rfl
  rw[e1]
  refine qj (fun _:Nat=>[(0,.v (.int .i64 n)),(2,.v (.slice none 0 0)),(3,.sl (lim (1)).length (qc (lim (1)))),(4,.v (.int .i64 2))]) (fun _=>[]) (fun _=>True) (fun _=>0) 0 trivial (Le.lst [] _ _ rfl (by simp(disch:=omega)only[go_sem]) (by simp(disch:=omega)only[go_sem])) ?_
  intro _ _
  simp(disch:=omega)only[go_sem]
  have q:decide ((2:Int)≤(n:Int))=false:=decide_eq_false (by omega)
  simp(disch:=omega)only[go_sem,q]
  exact ql
 ·refine qj (fun k:Nat=>[(0,.v (.int .i64 n)),(2,.v (.slice none 0 0)),(3,.sl (lim (fct k)).length (qc (lim (fct k)))),(4,.v (.int .i64 ((k:Int)+1)))]) (fun _=>[]) (fun k=>1≤k∧k≤n) (fun k=>n-k) 1 (by omega) (Le.lst [] _ _ rfl (by simp(disch:=omega)only[go_sem,show fct 1=1 from rfl,show((1:Nat):Int)+1=2 from rfl];try rfl) (by simp(disch:=omega)only[go_sem])) ?_
  rintro k ⟨hk1,hk⟩
  simp(disch:=omega)only[go_sem]
  refine qe (fun h2=>?_) (fun h2=>?_)
  ·simp(disch:=omega)only[go_sem,h2]
   have e1:(k:Int)+1=((k+1:Nat):Int):=by omega
   have l1:=qB (aqo k (by omega))
   have l2:=qB (m:=k+1) (B:=9) (zy.2 (by omega))
   have cs:=zD (k+1) (by omega)
   rw[←e1]at cs
   refine qa (cs) ?_
   simp(disch:=omega)only[go_sem]
   refine qa (J5 (fct k) (k+1) (by omega) (by omega)) ?_
   simp(disch:=omega)only[go_sem]
   have e2:fct k*(k+1)=fct (k+1):=Nat.mul_comm _ _
   exact qb (k+1) [] ⟨by omega,by omega⟩ (by show n-(k+1)<n-k;omega) rfl (by simp(disch:=omega)only[go_sem,e2];try omega) (by simp(disch:=omega)only[go_sem])
  ·simp(disch:=omega)only[go_sem,h2]
   obtain rfl:n=k:=by omega
   exact ql
def tmS(W:Nat):Nat→Nat→Nat
 |_,0=>0
 |k,f+1=>if fct (k+1)*2^k<2^W then tmS W (k+1) f else k
def tmF(W:Nat):Nat:=tmS W 1 402
theorem aqG(B:Nat)(hW:B≤400):Con Tryz.prog 230 true [.v (.int .i64 (-(B:Int)))] [] (isA (.v (.int .i64 (tmF B)))):=by
 refine Con.of_w (rs:=[.tmp 2]) Tryz.func230 rfl Tryz.ntmps230 rfl ?_
 simp(disch:=omega)only[go_sem]
 refine qj (fun k:Nat=>[(0,.v (.int .i64 (-(B:Int)))),(2,.v (.int .i64 0)),(3,.v (.int .i64 k))]) (fun _=>[]) (fun k=>1≤k∧k≤401∧tmS B k (403-k)=tmF B) (fun k=>402-k) 1 ⟨by omega,by omega,rfl⟩ (Le.lst [] _ _ rfl (by simp(disch:=omega)only[go_sem]) (by simp(disch:=omega)only[go_sem])) ?_
 rintro k ⟨hk1,hk2,ht⟩
 have e1:(k:Int)+1=((k+1:Nat):Int):=by omega
 have e2:0-(-(B:Int))=(B:Int):=by omega
 have cf:=aDz (k+1) (by omega)
 rw[←e1]at cf
 have b1:=aqo (k+1) (by omega)
 have l1:=qB b1
 have b2:=Xi (fct (k+1)) k
 have l2:=qB (m:=fct (k+1)*2^k) (B:=5000) (by omega)
 have b3:=Xi 1 B
 have b4:bl 1≤1:=zy.2 (by decide)
 have l3:=qB (m:=1*2^B) (B:=500) (by omega)
 have l4:=qB b4
 have cu:=zV 1 B (by omega) (by omega)
 rw[←e2]at cu
 have cc:=ja (fct (k+1)*2^k) (1*2^B) (by omega) (by omega)
 have hstep:tmS B k (403-k)=if fct (k+1)*2^k<2^B then tmS B (k+1) (403-(k+1))else k:=by
  rw[show 403-k=(403-(k+1))+1 by omega];rfl
 have hbig:fct (k+1)*2^k<2^B→k<B:=fun h=>by
  rcases Nat.lt_or_ge k B with h'|h'
  ·exact h'
  ·have g1:2^B≤2^k:=Nat.pow_le_pow_right (by omega) h'
   have g2:1*2^k≤fct (k+1)*2^k:=Nat.mul_le_mul_right _ (aqn _)
   omega
 have hcl:=(Qh ((fct (k+1)*2^k:Nat):Int) ((1*2^B:Nat):Int)).2.1
 generalize zr ((fct (k+1)*2^k:Nat):Int) ((1*2^B:Nat):Int)=C at*
 generalize fct (k+1)=FF at*
 simp(disch:=omega)only[go_sem]
 refine qa (cf) ?_
 simp(disch:=omega)only[go_sem]
 refine qa (zV FF k (by omega) (by omega)) ?_
 simp(disch:=omega)only[go_sem]
 refine qa (zD 1 (by omega)) ?_
 simp(disch:=omega)only[go_sem]
 refine qa (cu) ?_
 simp(disch:=omega)only[go_sem]
 refine qh (cc) ?_
 simp(disch:=omega)only[go_sem]
 refine qe (fun h1=>?_) (fun h1=>?_)
 ·simp(disch:=omega)only[go_sem,h1]
  have hlt:FF*2^k<2^B:=by have:=hcl.1 h1;omega
  have:=hbig hlt
  rw[if_pos hlt,ht]at hstep
  exact qb (k+1) [] ⟨by omega,by omega,hstep.symm⟩ (by show 402-(k+1)<402-k;omega) rfl (by simp(disch:=omega)only[go_sem];try omega) (by simp(disch:=omega)only[go_sem])
 ·simp(disch:=omega)only[go_sem,h1]
  have hlt:¬FF*2^k<2^B:=fun h=>h1 (hcl.2 (by omega))
  rw[if_neg hlt,ht]at hstep
  rw[hstep]
  exact qu
end Go.Ab
namespace Go.Ab
open Go
section
variable {P:Program}
theorem ZC{L:Nat→Option Blk→Prop}{w0:World}{R0:Nat→Prop}{N:Nat}{ops:Array Oper}{K:St→Prop}{Q':Exit→Act→World→Prop}{rest:List Nat}(hQ:∀σ a w,In L w0 R0 N σ a w→K σ→wpOps P ops Q' rest a w):
  ∀(r:List Oper) (k:Nat),(∀j,j<r.length→ops[k+j]? =r[j]?)→∀{e h a w},In L w0 R0 N ⟨e,h⟩ a w→ChF P N ops.toList K r e h→wpOps P ops Q' (List.range' k r.length++rest) a w
 | [],k,hk,e,h,a,w,hi,hs=>by
  simp only[List.length_nil,List.range'_zero,List.nil_append]
  exact hQ _ _ _ hi hs
 |⟨d,op,ty,pos,af,g⟩::r,k,hk,e,h,a,w,hi,hs=>by
  have ho:ops[k]? =some ⟨d,op,ty,pos,af,g⟩:=by
   have:=hk 0 (by simp)
   simpa using this
  have hr:∀j,j<r.length→ops[k+1+j]? =r[j]? :=fun j hj=>by
   have:=hk (j+1) (by simpa using hj)
   rw[show k+1+j=k+(j+1) by omega,this];simp
  have hd:dOk N d:=by cases g<;>exact hs.1
  simp only[List.length_cons,List.range'_succ,List.cons_append,wpOps,ho]
  have run:@Op1 P ⟨d⟩ ⟨op⟩ ⟨fun v hp=>ChF P N ops.toList K r (yX e d v) hp⟩ e h→Oper.wp P ⟨d,op,ty,pos,af,g⟩ a w (wpOps P ops Q' (List.range' (k+1) r.length++rest)) Q':=fun hs=>by
   obtain⟨R,ι,hR,hinv⟩:=hi.inv
   refine ae4 hinv (Op1.sound hs ty pos af g) fun x w' R' ι' av hp' hR' hK hx hm hi'=>?_
   exact ZC hQ r (k+1) hr (hi.put (o:=⟨d,op,ty,pos,af,g⟩) hd hR hR' hx hm hi') hK
  have skip:ChF P N ops.toList K r (yX e d (.v (.tuple ⟨[]⟩))) h→wpOps P ops Q' (List.range' (k+1) r.length++rest) (a.put d undef) w:=fun hs=>by
   obtain⟨R,ι,hR,hinv⟩:=hi.inv
   exact ZC hQ r (k+1) hr (hi.put (o:=⟨d,op,ty,pos,af,g⟩) hd hR (fun _ h=>.inl h) (.fr _ _ (.v _)) (by simp[AV.All]) hinv) hs
  cases g with
  |none=>
   rw[if_pos (by simp[Region.wanted])]
   exact .inl (run hs.2)
  |some p=>
   obtain⟨j,want⟩:=p
   have h2:=hs.2
   unfold aan at h2
   dsimp only at h2
   split at h2
   ·rename_i d' hd'
    have key:∀v c,e d'=.v v→(match v with| .bool b=>some b|_=>none)=c→yielded ops a.tmps j=c:=by
     intro v c hv hc
     obtain⟨R,ι,hR,hinv⟩:=hi.inv
     have:=hinv.env d'
     change Rep _ _ _ _ (e d')at this
     rw[hv]at this
     have:=this.v_inv
     unfold yielded
     rw[Array.getElem?_toList]at hd'
     rw[hd']
     rw[Array.getD_eq_getD_getElem?]at this
     cases ee:a.tmps[d']? with
     |none=>
      rw[ee]at this
      subst hc
      have:v=undef:=this.symm
      subst this;simp[ee,undef]
     |some y=>rw[ee]at this;simp at this;subst this;subst hc;simp only[Option.bind_some,ee];cases y<;>rfl
    unfold Ju at h2
    split at h2
    ·rename_i b hb
     have hy:=key _ _ hb rfl
     have hw:Region.wanted ⟨d,op,ty,pos,af,some (j,want)⟩ (yielded ops a.tmps)=(b==want):=by
      simp only[Region.wanted,hy]
      cases b<;>cases want<;>rfl
     rw[hw]
     cases hbw:b==want with
     |true=>rw[if_pos rfl];exact .inl (run (h2.1 hbw))
     |false=>rw[if_neg (by simp)];exact skip (h2.2 hbw)
    ·rename_i hb
     have hy:=key _ _ hb rfl
     have hw:Region.wanted ⟨d,op,ty,pos,af,some (j,want)⟩ (yielded ops a.tmps)=false:=by
      simp only[Region.wanted,hy]
      cases want<;>rfl
     rw[hw,if_neg (by simp)]
     exact skip (h2.2 rfl)
    ·exact h2.elim
   ·exact h2.elim
theorem aMm{N:Nat}{l:List Oper}{Q:St→Prop}{e:Nat→AV}{h:Nat→Ob}{E:List (Nat×AV)}{H:List (Nat×Ob)}(hl:Le ⟨e,h⟩ ⟨ofL .un E,ofH H⟩)(hd:@ajQ P N ⟨l⟩ ⟨Q⟩ ⟨ofL .un E,ofH H⟩):@ajQ P N ⟨l⟩ ⟨Q⟩ ⟨e,h⟩:=
 fun id=>AW.le hl (hd id)
theorem AW.regSplit{N:Nat}{Q:Exit→St→Prop}{e:Nat→AV}{h:Nat→Ob}{id:Nat}{l:List Oper}{y:Code}(k:Nat){pre suf:List Oper}(hp:l.take k=pre)(hs:l.drop k=suf){E:List (Nat×AV)}{H:List (Nat×Ob)}
  (h1:@Ch P N ⟨l⟩ ⟨pre⟩ ⟨fun σ'=>Le σ' ⟨ofL .un E,ofH H⟩⟩ e h) (h2:@Ch P N ⟨l⟩ ⟨suf⟩ ⟨fun σ=>@W P N ⟨y⟩ ⟨Q⟩ σ.env σ.hp⟩ (ofL .un E) (ofH H)):AW P N (.seq (.region id ⟨l⟩ false) y) Q ⟨e,h⟩:=by
 refine AW.seq fun L w0 R0 a w hi=>wp_region ?_
 have hl:l=pre++suf:=by rw[←hp,←hs,List.take_append_drop]
 have hr:List.range (⟨l⟩:Array Oper).size=List.range' 0 pre.length++(List.range' pre.length suf.length++[]):=by
  have hsz:(⟨l⟩:Array Oper).size=pre.length+suf.length:=by show l.length=_;rw[hl,List.length_append]
  rw[hsz,List.append_nil,List.range_eq_range',List.range'_append_1.symm,Nat.zero_add]
 rw[hr]
 refine ZC (K:=fun σ'=>Le σ' ⟨ofL .un E,ofH H⟩) (fun σ a w hi2 hle=>?_) pre 0 (fun j hj=>?_) hi h1
 ·refine ZC (K:=fun σ=>@W P N ⟨y⟩ ⟨Q⟩ σ.env σ.hp) (fun σ a w hi3 hq=>?_) suf pre.length (fun j hj=>?_) (hle L w0 R0 N a w hi2) h2
  ·exact⟨σ,hi3,W.sound hq⟩
  ·rw[List.getElem?_toArray,hl,List.getElem?_append_right (by omega),Nat.add_sub_cancel_left]
 ·rw[List.getElem?_toArray,hl,Nat.zero_add,List.getElem?_append_left hj]
end
end Go.Ab
