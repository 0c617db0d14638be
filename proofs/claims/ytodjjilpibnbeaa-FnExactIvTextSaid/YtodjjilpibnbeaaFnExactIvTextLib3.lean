/- What the proof of this claim stands on: the walks of the functions and the plain laws, part 3. -/
import Derived.Test.YtodjjilpibnbeaaFnExactIvTextLib2
import Derived.Shelf.Spec.TrailingZeros
import Derived.Shelf.Small.Bits
import Derived.Shelf.Strconv.Itoa0
import Derived.Carry
import Derived.ChangeSlices
import Derived.Shelf.Bits.Mul64
import Derived.Lib.MakeNoZero
import Derived.Laws.Externs
set_option linter.unusedVariables false
set_option linter.unusedSimpArgs false
namespace Go.Ab
open Go Go.Proofs
set_option maxRecDepth 100000 in
theorem Q7(cl:Bool)(A:List Int)(hA:gd A)(b:Nat)(lA:A.length≤1000000)(lB:(lim b).length≤1000000)(m:Nat)(hm:vl A*(b:Int)=(m:Int)):
  Con Try.prog 63 cl [.ag [.sl A.length (qc A)],.ag [.sl (lim (b)).length (qc (lim (b)))]] [] (akF m):=by
 refine Con.of_aw Try.func63 rfl Try.ntmps63 (by simp) (by simp) (by simp) (W.sound ?_)
 show @W Try.prog 80 ⟨_⟩ ⟨fun x σ=>@qO _ _ _ ⟨_⟩ _ ⟨_⟩ x σ⟩ _ _
 have hvb:=qQ b
 have hB:=qX b
 generalize lim b=B at*
 simp(disch:=omega)only[go_sem]
 refine⟨by omega,?_⟩
 refine qf (fun x:Nat×List Int=>[(2,.pt 0 0),(3,.pt 1 0),(4,.pt 2 0),(5,.rf 3 0 (A.length+B.length)),(6,.v (.int .i64 x.1))])
  (fun x=>[(0,.own 0 [.sl A.length (qc A)]),(1,.own 0 [.sl B.length (qc B)]),(2,.own 0 [.v (.slice none 0 0)]),(3,.own 1 (qc x.2))])
  (fun x=>x.1≤A.length∧x.2.length=A.length+B.length∧gd x.2∧vl x.2=vl (A.take x.1)*vl B∧∀j,x.1+B.length≤j→x.2.getD j 0=0)
  (fun x=>A.length-x.1) (0,List.replicate (A.length+B.length) 0) ⟨by simp,by simp,ze _,by simp[zn,vl],fun j _=>by
   rw[List.getD_eq_getElem?_getD,List.getElem?_replicate];split<;>rfl⟩
  (Le.lst [(0,40000000),(1,50000000),(2,60000000),(3,190000000)] _ _ rfl (by simp(disch:=omega)only[go_sem];try omega) (by simp(disch:=omega)only[go_sem,show((A.length:Int)+(B.length:Int)).toNat=A.length+B.length by omega])) ?_
 rintro⟨i,out⟩ ⟨hi,hol,hog,hov,hoz⟩
 dsimp only at hi hol hog hov hoz ⊢
 simp(disch:=omega)only[go_sem]
 refine qd (fun h1=>?_) (fun h1=>?_)
 ·have hx:=zd hA i
  simp(disch:=omega)only[go_sem,h1]
  refine qf (fun x:Nat×List Int×Int=>[(2,.pt 0 0),(3,.pt 1 0),(4,.pt 2 0),(5,.rf 3 0 (A.length+B.length)),(6,.v (.int .i64 i)),(7,.v (.int .i64 x.2.2)),(8,.v (.int .i64 x.1))])
   (fun x=>[(0,.own 0 [.sl A.length (qc A)]),(1,.own 0 [.sl B.length (qc B)]),(2,.own 0 [.v (.slice none 0 0)]),(3,.own 1 (qc x.2.1))])
   (fun x=>x.1≤B.length∧x.2.1.length=A.length+B.length∧gd x.2.1∧(0≤x.2.2∧x.2.2<65536)∧vl x.2.1+65536^(i+x.1)*x.2.2=vl out+65536^i*(A.getD i 0*vl (B.take x.1))∧∀j,i+B.length≤j→x.2.1.getD j 0=0)
   (fun x=>B.length-x.1) (0,out,0) ⟨by simp,hol,hog,by simp,by simp[vl],hoz⟩
   (Le.lst [] _ _ rfl (by simp(disch:=omega)only[go_sem];try omega) (by simp(disch:=omega)only[go_sem])) ?_
  rintro⟨j,o2,cy⟩ ⟨hj,hol2,hog2,hcy,hov2,hoz2⟩
  dsimp only at hj hol2 hog2 hcy hov2 hoz2 ⊢
  simp(disch:=omega)only[go_sem]
  refine qd (fun h2=>?_) (fun h2=>?_)
  ·have hy:=zd hB j
   have ho:=zd hog2 (i+j)
   have hxy:=aao hx hy
   have e1:((i:Int)+(j:Int)).toNat=i+j:=by omega
   simp(disch:=omega)only[go_sem,h2]
   refine qu rfl [⟨0,[],[]⟩,⟨1,[],[]⟩,⟨2,[],[]⟩,⟨3,[],[]⟩,⟨4,[],[]⟩,⟨5,[],[]⟩,⟨6,[5],[]⟩,⟨7,[5],[]⟩,⟨8,[5,7],[]⟩,⟨9,[5],[]⟩,⟨10,[5],[]⟩,⟨11,[5,7,10],[]⟩,⟨12,[5,7,10],[]⟩,⟨13,[5,7,10,12],[]⟩,⟨14,[5,7,10],[]⟩,⟨15,[5,7,10],[]⟩,⟨16,[5],[]⟩,⟨17,[],[]⟩,⟨18,[5,7,10,12,15],[]⟩,⟨19,[],[]⟩,⟨20,[],[]⟩] (by kernel_rfl) ?_
   simp(disch:=omega)only[go_sem,e1]
   generalize hq:o2.getD (i+j) 0+A.getD i 0*B.getD j 0+cy=q
   refine⟨by omega,by omega,by omega,by omega,by omega,by omega,by omega,by omega,qe (j+1,o2.set (i+j) (q % 65536),q/65536) [] ⟨by show j+1≤_;omega,by simp[hol2],QW hog2 (by omega),by show 0≤q/65536∧q/65536<65536;omega,?_,fun k hk=>?_⟩
    (by show B.length-(j+1)<B.length-j;omega) rfl (by simp(disch:=omega)only[go_sem];try omega) (by simp(disch:=omega)only[go_sem])⟩
   ·show vl (o2.set (i+j) (q % 65536))+65536^(i+(j+1))*(q/65536)=vl out+65536^i*(A.getD i 0*vl (B.take (j+1)))
    rw[Y4 (by omega),zl (by omega),←Nat.add_assoc,Int.pow_succ]
    have e2:(65536:Int)^(i+j)=65536^i*65536^j:=Int.pow_add _ _ _
    have e3:q % 65536+65536*(q/65536)=q:=Int.emod_add_mul_ediv q 65536
    rw[e2]at hov2 ⊢
    generalize (65536:Int)^i=Pi at*
    generalize (65536:Int)^j=Pj at*
    grind
   ·show(o2.set (i+j) (q % 65536)).getD k 0=0
    rw[List.getD_eq_getElem?_getD,List.getElem?_set_ne (by omega),←List.getD_eq_getElem?_getD]
    exact hoz2 k hk
  ·simp(disch:=omega)only[go_sem,h2]
   have e1:((i:Int)+(B.length:Int)).toNat=i+B.length:=by omega
   have hjB:j=B.length:=by omega
   subst hjB
   rw[List.take_length]at hov2
   have hz:=hoz2 (i+B.length) (Nat.le_refl _)
   refine qu rfl [⟨0,[],[]⟩,⟨1,[],[]⟩,⟨2,[],[]⟩,⟨3,[],[]⟩,⟨4,[],[]⟩,⟨5,[],[]⟩,⟨6,[3],[]⟩,⟨7,[3],[]⟩,⟨8,[3],[]⟩,⟨9,[3],[]⟩,⟨10,[3],[]⟩,⟨11,[3],[]⟩,⟨12,[3],[]⟩,⟨13,[3],[]⟩,⟨14,[3,9,13],[]⟩,⟨15,[3],[]⟩,⟨16,[],[]⟩,⟨17,[],[]⟩] (by kernel_rfl) ?_
   simp(disch:=omega)only[go_sem,e1,hz]
   have e0:(0:Int)+cy=cy:=by omega
   refine⟨by omega,by omega,by omega,by omega,qe (i+1,o2.set (i+B.length) cy) [] ⟨by show i+1≤_;omega,by simp[hol2],QW hog2 hcy,?_,fun k hk=>?_⟩ (by show A.length-(i+1)<A.length-i;omega) rfl (by simp(disch:=omega)only[go_sem];try omega) (by simp(disch:=omega)only[go_sem,e0])⟩
   ·show vl (o2.set (i+B.length) cy)=vl (A.take (i+1))*vl B
    rw[Y4 (by omega),hz,zl (by omega)]
    generalize (65536:Int)^i=Pi at*
    grind
   ·show(o2.set (i+B.length) cy).getD k 0=0
    rw[List.getD_eq_getElem?_getD,List.getElem?_set_ne (by show i+B.length≠k;omega),←List.getD_eq_getElem?_getD]
    exact hoz2 k (by omega)
 ·simp(disch:=omega)only[go_sem,h1]
  have hiA:i=A.length:=by omega
  subst hiA
  rw[List.take_length,hvb,hm]at hov
  rw[←hol]
  refine qh (yk true (out) (m) (by omega) (hog) (hov)) (by simp(disch:=omega)only[go_sem]) ?_
  rintro r hs (⟨h0,rfl,rfl⟩|⟨zs,rfl,rfl⟩)
  ·refine⟨⟨by simp,by simp(disch:=omega)only[go_sem]⟩,?_⟩
   simp(disch:=omega)only[go_sem]
   refine qb [] [] [] [.ag [.v (.slice none 0 0)]] rfl (by simp(disch:=omega)only[go_sem]) (by simp(disch:=omega)only[go_sem]) (by simp) (by intro _;simp[qN,AV.pu,AV.pu.puL,Ob.pu,qT]) (.inl ⟨h0,rfl,rfl⟩)
  ·refine⟨⟨by simp,by simp(disch:=omega)only[go_sem]⟩,?_⟩
   simp(disch:=omega)only[go_sem]
   refine qb [(0,810000000)] [.own 1 (qc (lim (m)++zs))] [] [.ag [.rf 0 0 (lim (m)).length]] rfl (by simp(disch:=omega)only[go_sem]) (by simp(disch:=omega)only[go_sem]) (by simp) (by intro _;simp[qN,AV.pu,AV.pu.puL,Ob.pu,qT]) (.inr ⟨zs,rfl,rfl⟩)
theorem abu(cl:Bool)(a b:Nat)(la:(lim a).length≤1000000)(lb:(lim b).length≤1000000):Con Try.prog 63 cl [.ag [.sl (lim (a)).length (qc (lim (a)))],.ag [.sl (lim (b)).length (qc (lim (b)))]] [] (akF (a*b)):=
 Q7 cl (lim a) (qX a) b la lb (a*b) (by rw[qQ,Int.natCast_mul])
end Go.Ab
namespace Go.Ab
open Go Go.Proofs
theorem jd(k:Nat)(h:k<16):(0:Int)<2^k∧(2:Int)^k≤32768:=by
 have:∀k,k<16→(0:Int)<2^k∧(2:Int)^k≤32768:=by decide
 exact this k h
theorem aan{x:Int}(hx:0≤x∧x<65536){k:Nat}(hk:k<16):0≤x*2^k∧x*2^k≤2147450880:=by
 obtain⟨h1,h2⟩:=jd k hk
 have h3:=Int.mul_nonneg hx.1 (Int.le_of_lt h1)
 have h4:x*2^k≤65535*32768:=Int.mul_le_mul (by omega) h2 (by omega) (by omega)
 omega
theorem Ja(k:Nat):(65536:Int)^(k/16)*2^(k % 16)=2^k:=by
 have e:(65536:Int)=2^16:=by decide
 rw[e,←Int.pow_mul,←Int.pow_add,Nat.div_add_mod]
theorem anz(cl:Bool)(A:List Int)(k:Nat)(hA:gd A)(lA:A.length≤1000000)(hk:k≤100000000):
  Con Try.prog 86 cl [.sl A.length (qc A),.v (.int .i64 k)] [] (adF (lim (vl A*2^k).toNat)):=by
 refine Con.of_aw Try.func86 rfl Try.ntmps86 (by simp) (by simp) (by simp) (W.sound ?_)
 show @W Try.prog 46 ⟨_⟩ ⟨fun x σ=>@qO _ _ _ ⟨_⟩ _ ⟨_⟩ x σ⟩ _ _
 simp(disch:=omega)only[go_sem]
 refine qd (fun h0=>?_) (fun h0=>?_)
 ·simp(disch:=omega)only[go_sem,h0]
  have:A=[]:=List.length_eq_zero_iff.1 (by omega)
  subst this
  refine qb [] [] [] [.v (.slice none 0 0)] rfl (by simp(disch:=omega)only[go_sem]) (by simp(disch:=omega)only[go_sem]) (by simp) (by intro _;simp[qN,AV.pu,AV.pu.puL,Ob.pu,qT]) (.inl ⟨by simp[vl,qw],rfl,rfl⟩)
 ·simp(disch:=omega)only[go_sem,h0]
  refine⟨by omega,?_⟩
  have e16:((k:Int)/16).toNat=k/16:=by omega
  refine qf (fun x:Nat×List Int×Int=>[(1,.v (.int .i64 k)),(5,.rf 1 0 x.2.1.length),(6,.v (.int .i64 x.2.2)),(21,.sl A.length (qc A)),(22,.v (.int .i64 A.length)),(23,.v (.int .i64 x.1))])
   (fun x=>[(1,.own 1 (qc x.2.1))])
   (fun x=>x.1≤A.length∧x.2.1.length=k/16+x.1∧gd x.2.1∧(0≤x.2.2∧x.2.2<65536)∧vl x.2.1+65536^(k/16+x.1)*x.2.2=65536^(k/16)*2^(k % 16)*vl (A.take x.1))
   (fun x=>A.length-x.1) (0,List.replicate (k/16) 0,0) ⟨by simp,by simp,ze _,by simp,by simp[vl,zn]⟩
   (Le.lst [(1,220000000)] _ _ rfl (by simp(disch:=omega)only[go_sem,List.length_replicate,e16]) (by simp(disch:=omega)only[go_sem,e16])) ?_
  rintro⟨i,out,cy⟩ ⟨hi,hol,hog,hcy,hov⟩
  dsimp only at hi hol hog hcy hov ⊢
  simp(disch:=omega)only[go_sem]
  refine qd (fun h1=>?_) (fun h1=>?_)
  ·have hx:=zd hA i
   have hxs:=aan hx (show k % 16<16 by omega)
   have em:min ((k:Int) % 16).toNat 64=k % 16:=by omega
   simp(disch:=omega)only[go_sem,h1,em]
   generalize hq:cy+A.getD i 0*2^(k % 16)=q
   refine⟨by omega,by omega,by omega,by omega,qe (i+1,out++[q % 65536],q/65536) [(1,390000000)] ⟨by show i+1≤_;omega,by simp[hol];omega,q8.2 ⟨hog,yr.2 (by omega)⟩,by show 0≤q/65536∧q/65536<65536;omega,?_⟩ (by show A.length-(i+1)<A.length-i;omega) rfl (by simp(disch:=omega)only[go_sem,List.length_append];try omega) (by simp(disch:=omega)only[go_sem])⟩
   show vl (out++[q % 65536])+65536^(k/16+(i+1))*(q/65536)=65536^(k/16)*2^(k % 16)*vl (A.take (i+1))
   rw[yJ,jD,hol,←Nat.add_assoc,Int.pow_succ]
   have e3:q % 65536+65536*(q/65536)=q:=Int.emod_add_mul_ediv q 65536
   rw[Int.pow_add]at hov ⊢
   generalize (65536:Int)^i=Pi at*
   generalize (65536:Int)^(k/16)=Pk at*
   generalize (2:Int)^(k % 16)=Pm at*
   grind
  ·simp(disch:=omega)only[go_sem,h1]
   have hiA:i=A.length:=by omega
   subst hiA
   rw[List.take_length,Ja]at hov
   have hov2:vl (out++[cy])=vl A*2^k:=by rw[yJ,hol,hov];grind
   have hog2:gd (out++[cy]):=q8.2 ⟨hog,yr.2 hcy⟩
   refine⟨by omega,?_⟩
   have hl2:out.length+1=(out++[cy]).length:=by simp
   rw[hl2]
   refine zj false [460000000] (j1 (out++[cy]) (by simp;omega)) (by simp(disch:=omega)only[go_sem]) (by simp(disch:=omega)only[go_sem]) rfl (qR (z:=1) (cs:=qc (out++[cy])) (by simp(disch:=omega)only[go_sem]) (by simp(disch:=omega)only[go_sem])) (by intro n hn;exact⟨_,List.mem_singleton.2 rfl,by rw[List.mem_singleton.1 hn];rfl⟩) ?_
   rintro r hs bs ⟨rfl,rfl,rfl⟩ _
   refine⟨by simp[qs],?_⟩
   simp(disch:=omega)only[go_sem]
   obtain⟨z,hz⟩:=zV (out++[cy])
   have hc:=ju hog2
   rw[hov2]at hc
   rw[hc]at hz ⊢
   refine qb [(0,460000000)] [.own 1 (qc (out++[cy]))] [] [.rf 0 0 (lim (vl A*2^k).toNat).length] rfl (by simp(disch:=omega)only[go_sem]) (by simp(disch:=omega)only[go_sem]) (by simp) (by intro _;simp[qN,AV.pu,AV.pu.puL,Ob.pu,qT]) (.inr ⟨List.replicate z 0,rfl,by rw[←hz]⟩)
end Go.Ab
namespace Go.Ab
open Go Go.Proofs
theorem drop_set{l:List Int}{i:Nat}(h:i<l.length)(z:Int):(l.set i z).drop i=z::l.drop (i+1):=by
 rw[List.drop_eq_getElem_cons (by simpa using h)]
 simp[List.drop_set]
theorem ae3(cl:Bool)(A:List Int)(d:Nat)(hA:gd A)(lA:A.length≤1000000)(hd:0<d)(hd2:d<65536):
  Con Try.prog 100 cl [.sl A.length (qc A),.v (.int .i64 d)] [] (fun r hs bs=>∃zs,r=.tu [.rf 0 0 (lim (vl A/d).toNat).length,.v (.int .i64 (vl A % d))]∧hs=[.own 1 (qc (lim (vl A/d).toNat++zs))]):=by
 refine Con.of_aw Try.func100 rfl Try.ntmps100 (by simp) (by simp) (by simp) (W.sound ?_)
 show @W Try.prog 38 ⟨_⟩ ⟨fun x σ=>@qO _ _ _ ⟨_⟩ _ ⟨_⟩ x σ⟩ _ _
 simp(disch:=omega)only[go_sem]
 refine⟨by omega,?_⟩
 refine qf (fun x:Nat×List Int×Int=>[(0,.sl A.length (qc A)),(1,.v (.int .i64 d)),(6,.rf 130000000 0 A.length),(7,.v (.int .i64 x.2.2)),(8,.v (.int .i64 ((x.1:Int)-1)))])
  (fun x=>[(130000000,.own 1 (qc x.2.1))])
  (fun x=>x.1≤A.length∧x.2.1.length=A.length∧gd x.2.1∧x.2.2=vl (A.drop x.1) % d∧vl (x.2.1.drop x.1)=vl (A.drop x.1)/d)
  (fun x=>x.1) (A.length,List.replicate A.length 0,0) ⟨by simp,by simp,ze _,by simp[vl],by simp[vl]⟩
  (Le.lst [] _ _ rfl (by simp(disch:=omega)only[go_sem];try omega) (by simp(disch:=omega)only[go_sem])) ?_
 rintro⟨m,out,rest⟩ ⟨hm,hol,hog,hr,hov⟩
 dsimp only at hm hol hog hr hov ⊢
 simp(disch:=omega)only[go_sem]
 refine qd (fun h1=>?_) (fun h1=>?_)
 ·obtain⟨i,rfl⟩:∃i,m=i+1:=⟨m-1,by omega⟩
  have e1:((i+1:Nat):Int)-1=(i:Nat):=by omega
  have hx:=zd hA i
  have hr2:0≤rest∧rest<d:=by rw[hr];exact⟨Int.emod_nonneg _ (by omega),Int.emod_lt_of_pos _ (by omega)⟩
  generalize hq:rest*65536+A.getD i 0=q
  have hq0:0≤q:=by omega
  have hqd:0≤q/d∧q/d<65536:=⟨Int.ediv_nonneg hq0 (by omega),Int.ediv_lt_of_lt_mul (by omega) (by omega)⟩
  have hqm:0≤q % d∧q % d<d:=⟨Int.emod_nonneg _ (by omega),Int.emod_lt_of_pos _ (by omega)⟩
  simp(disch:=omega)only[go_sem,h1,e1,hq]
  refine⟨by omega,by omega,by omega,by omega,by omega,by omega,qe (i,out.set i (q/d),q % d) [] ⟨by show i≤_;omega,by simp[hol],QW hog hqd,?_,?_⟩ (by show i<i+1;omega) rfl (by simp(disch:=omega)only[go_sem]) (by simp(disch:=omega)only[go_sem])⟩
  ·show q % d=vl (A.drop i) % d
   rw[z9 (l:=A) (i:=i) (by omega),←hq,hr]
   have h3:=Int.emod_add_mul_ediv (vl (A.drop (i+1))) d
   rw[show A.getD i 0+65536*vl (A.drop (i+1))=vl (A.drop (i+1)) % d*65536+A.getD i 0+d*(65536*(vl (A.drop (i+1))/d)) by grind,Int.add_mul_emod_self_left]
  ·show vl ((out.set i (q/d)).drop i)=vl (A.drop i)/d
   rw[drop_set (by omega),vl,hov,z9 (l:=A) (i:=i) (by omega),←hq,hr]
   have h3:=Int.emod_add_mul_ediv (vl (A.drop (i+1))) d
   rw[show A.getD i 0+65536*vl (A.drop (i+1))=vl (A.drop (i+1)) % d*65536+A.getD i 0+d*(65536*(vl (A.drop (i+1))/d)) by grind,Int.add_mul_ediv_left _ _ (by omega)]
 ·simp(disch:=omega)only[go_sem,h1]
  have:m=0:=by omega
  subst this
  rw[List.drop_zero,List.drop_zero]at hov
  rw[List.drop_zero]at hr
  rw[←hol]
  refine zj false [130000000] (j1 out (by omega)) (by simp(disch:=omega)only[go_sem]) (by simp(disch:=omega)only[go_sem]) rfl (qR (z:=1) (cs:=qc out) (by simp(disch:=omega)only[go_sem]) (by simp(disch:=omega)only[go_sem])) (by intro n hn;exact⟨_,List.mem_singleton.2 rfl,by rw[List.mem_singleton.1 hn];rfl⟩) ?_
  rintro r hs bs ⟨rfl,rfl,rfl⟩ _
  refine⟨by simp[qs],?_⟩
  simp(disch:=omega)only[go_sem]
  obtain⟨z,hz⟩:=zV out
  have hc:=ju hog
  rw[hov]at hc
  rw[hc]at hz ⊢
  rw[hr]
  refine qb [(0,130000000)] [.own 1 (qc out)] [] [.rf 0 0 (lim (vl A/d).toNat).length,.v (.int .i64 (vl A % d))] rfl (by simp(disch:=omega)only[go_sem]) (by simp(disch:=omega)only[go_sem]) (by simp) (by intro _;simp[qN,AV.pu,AV.pu.puL,Ob.pu,qT]) ⟨List.replicate z 0,rfl,by rw[←hz]⟩
end Go.Ab
namespace Go.Ab
open Go Go.Proofs
def amp(m:Nat)(r0:Int):AV→List Ob→List Ob→Prop:=fun r hs bs=>
 (m=0∧r=.tu [.ag [.v (.slice none 0 0)],.v (.int .i64 r0)]∧hs=[])∨∃zs,r=.tu [.ag [.rf 0 0 (lim m).length],.v (.int .i64 r0)]∧hs=[.own 1 (qc (lim m++zs))]
theorem Con.natF2{P:Program}{f:FuncId}{args:List AV}{m:Nat}{r0:Int}(h:Con P f false args [] (amp m r0)):Con P f false args [] (isA (.tu [.ag [.sl (lim (m)).length (qc (lim (m)))],.v (.int .i64 r0)])):=
 Con.frzA <| h.mono fun r hs bs h=>by
  rcases h with⟨rfl,rfl,rfl⟩|⟨zs,rfl,rfl⟩
  ·show qx _ 6 _=_
   rw[qw];rfl
  ·show qx _ 6 _=_
   rw[KP,List.map_cons,List.map_cons,List.map_nil,Ye,List.map_cons,List.map_nil,Zi (k:=2) (l:=lim m) (zs:=zs) Zk rfl]
   rfl
theorem JM(cl:Bool)(A:List Int)(d:Nat)(hA:gd A)(lA:A.length≤1000000)(hd:0<d)(hd2:d<65536)(m:Nat)(hm:vl A/(d:Int)=(m:Int)):
  Con Try.prog 78 cl [.ag [.sl A.length (qc A)],.v (.int .i64 d)] [] (amp m (vl A % d)):=by
 refine Con.of_aw Try.func78 rfl Try.ntmps78 (by simp) (by simp) (by simp) (W.sound ?_)
 show @W Try.prog 42 ⟨_⟩ ⟨fun x σ=>@qO _ _ _ ⟨_⟩ _ ⟨_⟩ x σ⟩ _ _
 simp(disch:=omega)only[go_sem]
 refine⟨by omega,?_⟩
 refine qf (fun x:Nat×List Int×Int=>[(1,.v (.int .i64 d)),(2,.pt 0 0),(4,.pt 1 0),(6,.rf 2 0 A.length),(7,.v (.int .i64 x.2.2)),(8,.v (.int .i64 ((x.1:Int)-1)))])
  (fun x=>[(0,.own 0 [.sl A.length (qc A)]),(1,.own 0 [.v (.slice none 0 0)]),(2,.own 1 (qc x.2.1))])
  (fun x=>x.1≤A.length∧x.2.1.length=A.length∧gd x.2.1∧x.2.2=vl (A.drop x.1) % d∧vl (x.2.1.drop x.1)=vl (A.drop x.1)/d)
  (fun x=>x.1) (A.length,List.replicate A.length 0,0) ⟨Nat.le_refl _,by simp,ze _,by simp[vl],by simp[vl]⟩
  (Le.lst [(0,40000000),(1,60000000),(2,150000000)] _ _ rfl (by simp(disch:=omega)only[go_sem,List.length_replicate];try omega) (by simp(disch:=omega)only[go_sem])) ?_
 rintro⟨k,out,rest⟩ ⟨hk,hol,hog,hr,hov⟩
 dsimp only at hk hol hog hr hov ⊢
 have hr0:0≤rest∧rest<d:=by rw[hr];exact⟨Int.emod_nonneg _ (by omega),Int.emod_lt_of_pos _ (by omega)⟩
 simp(disch:=omega)only[go_sem]
 refine qd (fun h1=>?_) (fun h1=>?_)
 ·obtain⟨i,rfl⟩:∃i,k=i+1:=⟨k-1,by omega⟩
  have ei:((i+1:Nat):Int)-1=(i:Nat):=by omega
  have hx:=zd hA i
  have hq6:0≤(rest*65536+A.getD i 0)/d∧(rest*65536+A.getD i 0)/d<65536:=by
   refine⟨Int.ediv_nonneg (by omega) (by omega),Int.ediv_lt_of_lt_mul (by omega) ?_⟩
   have:rest+1≤(d:Int):=by omega
   have:=Int.mul_le_mul_of_nonneg_left this (show(0:Int)≤65536 by omega)
   omega
  simp(disch:=omega)only[go_sem,h1,ei]
  generalize hq:rest*65536+A.getD i 0=q at*
  refine⟨by omega,by omega,by omega,by omega,by omega,by omega,qe (i,out.set i (q/d),q % d) [] ⟨by show i≤_;omega,by simp[hol],QW hog hq6,?_,?_⟩ (by show i<i+1;omega) rfl (by simp(disch:=omega)only[go_sem];try omega) (by simp(disch:=omega)only[go_sem])⟩
  ·show q % d=vl (A.drop i) % d
   rw[z9 (l:=A) (i:=i) (by omega),←hq,hr]
   have h3:=Int.emod_add_mul_ediv (vl (A.drop (i+1))) d
   rw[show A.getD i 0+65536*vl (A.drop (i+1))=vl (A.drop (i+1)) % d*65536+A.getD i 0+d*(65536*(vl (A.drop (i+1))/d)) by grind,Int.add_mul_emod_self_left]
  ·show vl ((out.set i (q/d)).drop i)=vl (A.drop i)/d
   rw[drop_set (by omega),vl,hov,z9 (l:=A) (i:=i) (by omega),←hq,hr]
   have h3:=Int.emod_add_mul_ediv (vl (A.drop (i+1))) d
   rw[show A.getD i 0+65536*vl (A.drop (i+1))=vl (A.drop (i+1)) % d*65536+A.getD i 0+d*(65536*(vl (A.drop (i+1))/d)) by grind,Int.add_mul_ediv_left _ _ (by omega)]
 ·simp(disch:=omega)only[go_sem,h1]
  have:k=0:=by omega
  subst this
  rw[List.drop_zero,List.drop_zero,hm]at hov
  rw[List.drop_zero]at hr
  rw[←hol]
  refine qh (yk true out m (by omega) hog hov) (by simp(disch:=omega)only[go_sem]) ?_
  rintro r hs (⟨h0,rfl,rfl⟩|⟨zs,rfl,rfl⟩)
  ·refine⟨⟨by simp,by simp(disch:=omega)only[go_sem]⟩,?_⟩
   simp(disch:=omega)only[go_sem]
   rw[hr]
   refine qb [] [] [] [.ag [.v (.slice none 0 0)],.v (.int .i64 (vl A % d))] rfl (by simp(disch:=omega)only[go_sem]) (by simp(disch:=omega)only[go_sem]) (by simp) (by intro _;simp[qN,AV.pu,AV.pu.puL,Ob.pu,qT]) (.inl ⟨h0,rfl,rfl⟩)
  ·refine⟨⟨by simp,by simp(disch:=omega)only[go_sem]⟩,?_⟩
   simp(disch:=omega)only[go_sem]
   rw[hr]
   refine qb [(0,420000000)] [.own 1 (qc (lim m++zs))] [] [.ag [.rf 0 0 (lim m).length],.v (.int .i64 (vl A % d))] rfl (by simp(disch:=omega)only[go_sem]) (by simp(disch:=omega)only[go_sem]) (by simp) (by intro _;simp[qN,AV.pu,AV.pu.puL,Ob.pu,qT]) (.inr ⟨zs,rfl,rfl⟩)
theorem JL(a d:Nat)(la:(lim a).length≤1000000)(hd:0<d)(hd2:d<65536):
  Con Try.prog 78 false [.ag [.sl (lim (a)).length (qc (lim (a)))],.v (.int .i64 d)] [] (isA (.tu [.ag [.sl (lim (a/d)).length (qc (lim (a/d)))],.v (.int .i64 ((a % d:Nat):Int))])):=by
 have:=(JM false (lim a) d (qX a) la hd hd2 (a/d) (by rw[qQ,Int.natCast_ediv])).natF2
 rwa[qQ,←Int.natCast_emod]at this
/-! ### Shifts-/
theorem ahy{k:Nat}(hk:k<16):IntKind.i64.wrap (1*2^(min ((k:Int)).toNat 64))=((2^k:Nat):Int):=by
 have e:min ((k:Int)).toNat 64=k:=by omega
 rw[e,Int.one_mul]
 have h:=jd k hk
 rw[Ke (by omega) (by omega),Int.natCast_pow];rfl
theorem abt(cl:Bool)(a k:Nat)(la:(lim a).length≤400000)(hk:k≤5000000):Con Try.prog 62 cl [.ag [.sl (lim (a)).length (qc (lim (a)))],.v (.int .i64 k)] [] (akF (a*2^k)):=by
 refine Con.of_aw Try.func62 rfl Try.ntmps62 (by simp) (by simp) (by simp) (W.sound ?_)
 show @W Try.prog 22 ⟨_⟩ ⟨fun x σ=>@qO _ _ _ ⟨_⟩ _ ⟨_⟩ x σ⟩ _ _
 have hz:((lim a).length:Int)=0→a=0:=fun h=>qJ.1 (List.length_eq_zero_iff.1 (by omega))
 have hvA:=qQ a
 have gA:=qX a
 generalize hLA:lim a=A at*
 simp(disch:=omega)only[go_sem]
 refine qd (fun h1=>?_) (fun h1=>?_)
 ·simp(disch:=omega)only[go_sem,h1]
  have h0:=hz h1
  subst h0
  refine qb [] [] [] [.ag [.v (.slice none 0 0)]] rfl (by simp(disch:=omega)only[go_sem]) (by simp(disch:=omega)only[go_sem]) (by simp) (by intro _;simp[qN,AV.pu,AV.pu.puL,Ob.pu,qT]) (.inl ⟨by simp,rfl,rfl⟩)
 ·simp(disch:=omega)only[go_sem,h1]
  refine qu rfl [⟨0,[],[]⟩,⟨1,[],[]⟩,⟨3,[],[]⟩,⟨4,[],[]⟩,⟨7,[4],[]⟩,⟨8,[4],[]⟩,⟨9,[4],[]⟩,⟨2,[4],[]⟩,⟨5,[],[]⟩,⟨6,[],[]⟩,⟨10,[],[]⟩,⟨11,[],[]⟩,⟨12,[],[]⟩] (by kernel_rfl) ?_
  have e16:((k:Int)/16).toNat=k/16:=by omega
  have e17:(k:Int) % 16=((k % 16:Nat):Int):=by omega
  have es:IntKind.i64.wrap (1*2^(min ((k:Int) % 16).toNat 64))=((2^(k % 16):Nat):Int):=by rw[e17];exact ahy (by omega)
  have hp15:2^(k % 16)≤2^15:=Nat.pow_le_pow_right (by omega) (by omega)
  have ecut:(List.replicate (k/16) (0:Int)).take (k/16)=List.replicate (k/16) 0:=List.take_of_length_le (by simp)
  simp(disch:=omega)only[go_sem,e16,ecut,es]
  refine⟨by omega,by omega,by simp;omega,?_⟩
  refine qi ((Xy false (2^(k % 16)) (by omega)).natF) ?_
  simp(disch:=omega)only[go_sem]
  have hvA2:vl (List.replicate (k/16) 0++A)*((2^(k % 16):Nat):Int)=((a*2^k:Nat):Int):=by
   rw[jO,zn,hvA,List.length_replicate]
   have h2:a*2^k=65536^(k/16)*a*2^(k % 16):=by
    have:2^k=65536^(k/16)*2^(k % 16):=by rw[adu,←Nat.pow_add,Nat.div_add_mod]
    rw[this];grind
   rw[h2,Int.natCast_mul,Int.natCast_mul,Int.natCast_pow]
   simp
  have gA2:gd (List.replicate (k/16) 0++A):=q8.2 ⟨ze _,gA⟩
  have lA2:(List.replicate (k/16) (0:Int)++A).length=k/16+A.length:=by simp
  have et:(List.replicate (k/16) (0:Int)++A).take (k/16+A.length)=List.replicate (k/16) 0++A:=List.take_of_length_le (by simp)
  have l2s:(lim (2^(k % 16))).length≤1000000:=by
   have:=qI (m:=2^(k % 16)) (B:=16) (z7.2 (by omega));omega
  refine qh (Q7 true (List.replicate (k/16) 0++A) gA2 (2^(k % 16)) (by omega) l2s (a*2^k) hvA2) (by simp(disch:=omega)only[go_sem,lA2,et]) ?_
  rintro r hs (⟨h0,rfl,rfl⟩|⟨zs,rfl,rfl⟩)
  ·refine⟨⟨by simp,by simp(disch:=omega)only[go_sem]⟩,?_⟩
   simp(disch:=omega)only[go_sem]
   refine qb [] [] [] [.ag [.v (.slice none 0 0)]] rfl (by simp(disch:=omega)only[go_sem]) (by simp(disch:=omega)only[go_sem]) (by simp) (by intro _;simp[qN,AV.pu,AV.pu.puL,Ob.pu,qT]) (.inl ⟨h0,rfl,rfl⟩)
  ·refine⟨⟨by simp,by simp(disch:=omega)only[go_sem]⟩,?_⟩
   simp(disch:=omega)only[go_sem]
   refine qb [(0,230000000)] [.own 1 (qc (lim (a*2^k)++zs))] [] [.ag [.rf 0 0 (lim (a*2^k)).length]] rfl (by simp(disch:=omega)only[go_sem]) (by simp(disch:=omega)only[go_sem]) (by simp) (by intro _;simp[qN,AV.pu,AV.pu.puL,Ob.pu,qT]) (.inr ⟨zs,rfl,rfl⟩)
end Go.Ab
namespace Go.Ab
def dgb(n:Nat):UInt8:=UInt8.ofNat (48+n % 10)
theorem JA(n:Nat):(dgb n).toNat=48+n % 10:=by
 unfold dgb;rw[UInt8.toNat_ofNat'];omega
def dg(n:Nat):List UInt8:=if n=0 then []else dgb n::dg (n/10)
termination_by n
decreasing_by omega
theorem yh:dg 0=[]:=by unfold dg;rfl
theorem QY{n:Nat}(h:n≠0):dg n=dgb n::dg (n/10):=by rw[dg,if_neg h]
def txt(n:Nat):List UInt8:=if n=0 then [48]else(dg n).reverse
theorem af0:∀(k n:Nat),n<10^k→(dg n).length≤k:=by
 intro k
 induction k with
 |zero=>
  intro n h
  have:n=0:=by simpa using h
  subst this;rw[yh];exact Nat.le_refl _
 |succ k ih=>
  intro n h
  by_cases h0:n=0
  ·subst h0;rw[yh];exact Nat.zero_le _
  ·rw[QY h0,List.length_cons]
   have:=ih (n/10) (by rw[Nat.pow_succ]at h;omega)
   omega
end Go.Ab
namespace Go.Ab
open Go
def qy{X:Type}(f:X→List AV)(l:List X):List AV:=(l.map f).flatten
section
variable {X:Type}{f:X→List AV}{z:Nat}{l:List X}
theorem Yf:qy f []=[]:=by simp[qy]
theorem zz{x:X}:qy f (x::l)=f x++qy f l:=by simp[qy]
theorem jH(hz:∀x,(f x).length=z):(qy f l).length=l.length*z:=by
 induction l with
 |nil=>simp[qy]
 |cons x r ih=>rw[zz,List.length_append,hz,ih,List.length_cons,Nat.add_mul,Nat.one_mul,Nat.add_comm]
theorem adk(hz:∀x,(f x).length=z)(i:Nat):(qy f l).drop (i*z)=qy f (l.drop i):=by
 induction l generalizing i with
 |nil=>simp[qy]
 |cons x r ih=>
  cases i with
  |zero=>simp
  |succ i=>
   rw[zz,List.drop_succ_cons,←ih,Nat.add_mul,Nat.one_mul,Nat.add_comm,←List.drop_drop,List.drop_left' (hz x)]
theorem adj(hz:∀x,(f x).length=z)(i:Nat):(qy f l).take (i*z)=qy f (l.take i):=by
 induction l generalizing i with
 |nil=>simp[qy]
 |cons x r ih=>
  cases i with
  |zero=>simp[Yf]
  |succ i=>
   rw[zz,List.take_succ_cons,zz,←ih,Nat.add_mul,Nat.one_mul,Nat.add_comm,←hz x,List.take_length_add_append]
theorem ahz(hz:∀x,(f x).length=z)(o n:Nat):cut (qy f l) (o*z) (n*z)=qy f ((l.drop o).take n):=by
 rw[cut,adk hz,adj hz]
theorem Yg(hz:∀x,(f x).length=z){i:Nat}(hi:i<l.length)(d:X):cut (qy f l) (i*z) z=f (l.getD i d):=by
 have h:=ahz (l:=l) hz i 1
 rw[Nat.one_mul]at h
 have e:(l.drop i).take 1=[l.getD i d]:=by
  rw[List.drop_eq_getElem_cons hi,List.getD_eq_getElem?_getD,List.getElem?_eq_getElem hi];rfl
 rw[h,e,zz,Yf,List.append_nil]
theorem jG{ρ:Nat→Nat}(h:∀x,zb ρ (f x)=f x):zb ρ (qy f l)=qy f l:=by
 induction l with
 |nil=>rfl
 |cons x r ih=>
  rw[zz]
  have:∀a b:List AV,zb ρ (a++b)=zb ρ a++zb ρ b:=fun a b=>by simp[qA]
  rw[this,h,ih]
theorem jr{hp:Nat→Ob}{k:Nat}(h:∀x,(f x).map (qx hp k)=f x):(qy f l).map (qx hp k)=qy f l:=by
 induction l with
 |nil=>rfl
 |cons x r ih=>rw[zz,List.map_append,h,ih]
theorem jI{p:Nat→Prop}(h:∀x,AllL p (f x)):AllL p (qy f l):=by
 induction l with
 |nil=>simp[qy,AllL]
 |cons x r ih=>rw[zz];exact AllL.append (h x) ih
theorem ad8{h:Nat→Ob}{sz o:Nat}{K:AV→Prop}:@jy true sz h (.fp (qy f l) o) ⟨K⟩=(o+sz≤(qy f l).length∧K (.ag (cut (qy f l) o sz))):=ID rfl
theorem K0{l':List X}:qy f l++qy f l'=qy f (l++l'):=by simp[qy]
end
structure FlV where
 k:Int
 s:Bool
 m:Int
 e:Int
def FlV.cs(x:FlV):List AV:=[.v (.int .i64 x.k),.v (.bool x.s),.v (.int .i64 x.m),.v (.int .i64 x.e)]
theorem ane(x:FlV):x.cs.length=4:=rfl
theorem afT{ρ:Nat→Nat}(x:FlV):zb ρ x.cs=x.cs:=rfl
theorem aa4{hp:Nat→Ob}{k:Nat}(x:FlV):x.cs.map (qx hp (k+1))=x.cs:=rfl
theorem afU{p:Nat→Prop}(x:FlV):AllL p x.cs:=by simp[FlV.cs,AllL,AV.All]
theorem aiX{l:List FlV}:(qy FlV.cs l).length=l.length*4:=jH ane
theorem aiW{ρ:Nat→Nat}{l:List FlV}:zb ρ (qy FlV.cs l)=qy FlV.cs l:=jG afT
theorem aeA{hp:Nat→Ob}{k:Nat}{l:List FlV}:(qy FlV.cs l).map (qx hp (k+1))=qy FlV.cs l:=jr aa4
theorem aiY{p:Nat→Prop}{l:List FlV}:AllL p (qy FlV.cs l)=True:=eq_true (jI afU)
theorem aeB{p:Nat→Prop}{x:FlV}:AllL p x.cs=True:=eq_true (afU x)
attribute [go_sem] ad8 aiX aiW aeA aiY aeB afT aa4
end Go.Ab
namespace Go.Ab
open Go
theorem qH{P:Program}{e m o n c z:Nat}{cs:List AV}{sm:Prop}{h:Nat→Ob}{K:KV}(hs:sm)(ht:∃te,qz P e=some te∧te.kd=.int .u8)(hm:h m=.own z cs)(hn:0<n)(hk:K (.rf m o n) h):
  @JC P (.sli e) (.sli e) sm (.rf m o n) h c ⟨K⟩:=⟨hs,rfl,ht,⟨z,cs,hm⟩,hn,hk⟩
end Go.Ab
namespace Go.Ab
open Go Go.Proofs
theorem qV(b:UInt8):([.v (.int .u8 b.toNat)]:List AV)=qa [b]:=rfl
theorem j5:qa []=[]:=rfl
theorem anr{m B:Nat}(h:bl m≤B):(dg m).length≤B:=
 af0 B m (Nat.lt_of_lt_of_le (z7.1 h) (Nat.pow_le_pow_left (by omega) _))
theorem Xv(k:Nat):IntKind.u8.wrap (48+((k % 10:Nat):Int))=((dgb k).toNat:Int):=by
 rw[JA]
 have h:((48+k % 10:Nat):Int)=48+((k % 10:Nat):Int):=by omega
 rw[h]
 show(((48+k % 10:Nat):Int)) % 256=_
 omega
theorem yj(cl:Bool)(m:Nat)(hm:bl m≤100000):Con Try.prog 61 cl [.ag [.sl (lim (m)).length (qc (lim (m)))]] [] (aol (txt m)):=by
 have hl:=qI hm
 refine Con.of_aw Try.func61 rfl Try.ntmps61 (by simp) (by simp) (by simp) (W.sound ?_)
 show @W Try.prog 45 ⟨_⟩ ⟨fun x σ=>@qO _ _ _ ⟨_⟩ _ ⟨_⟩ x σ⟩ _ _
 simp(disch:=omega)only[go_sem]
 refine qd (fun h1=>?_) (fun h1=>?_)
 ·simp(disch:=omega)only[go_sem,h1]
  have h0:m=0:=qJ.1 (List.length_eq_zero_iff.1 (by omega))
  subst h0
  refine qH (z:=1) (cs:=qa [48]) trivial ⟨_,tf5,rfl⟩ (by simp(disch:=omega)only[go_sem,qV];rfl) (by omega) ?_
  simp(disch:=omega)only[go_sem]
  refine qb [(0,140000000)] [.own 1 (qa ([48]++[]))] [] [.rf 0 0 1] rfl (by simp(disch:=omega)only[go_sem]) (by simp(disch:=omega)only[go_sem];rfl) (by simp) (by intro _;simp[qN,AV.pu,AV.pu.puL,Ob.pu,qa]) (.inr ⟨[],rfl,rfl⟩)
 ·simp(disch:=omega)only[go_sem,h1]
  have h0:m≠0:=fun e=>h1 (by rw[e,qw];rfl)
  refine qf (fun x:Nat×List UInt8=>[(1,.pt 0 0),(3,.rf 1 0 x.2.length)]) (fun x=>[(0,.own 0 [.sl (lim (x.1)).length (qc (lim (x.1)))]),(1,.own 1 (qa x.2))]) (fun x=>bl x.1≤100000∧x.2++dg x.1=dg m) (fun x=>x.1) (m,[]) ⟨hm,rfl⟩
   ((Le.ghost 3 1 1 (by simp(disch:=omega)only[go_sem]) (by simp(disch:=omega)only[go_sem])).trans (Le.lst [(0,30000000)] _ _ rfl (by simp(disch:=omega)only[go_sem]) (by simp(disch:=omega)only[go_sem,j5]))) ?_
  rintro⟨k,l⟩ ⟨hk,hd⟩
  dsimp only at hk hd ⊢
  have hkl:=qI hk
  have hll:l.length≤100000:=by
   have h1:=anr hm
   rw[←hd,List.length_append]at h1;omega
  simp(disch:=omega)only[go_sem]
  refine qd (fun h2=>?_) (fun h2=>?_)
  ·have hk0:k≠0:=fun e=>by subst e;rw[qw]at h2;simp at h2
   simp(disch:=omega)only[go_sem,h2]
   refine qi (JL k 10 (by omega) (by omega) (by omega)) ?_
   simp(disch:=omega)only[go_sem]
   simp(disch:=omega)only[go_sem,Xv]
   refine⟨by omega,qe (k/10,l++[dgb k]) [(1,300000000)] ⟨Nat.le_trans (jw k 10) hk,?_⟩ (by show k/10<k;omega) rfl (by simp(disch:=omega)only[go_sem,List.length_append];try omega) (by simp(disch:=omega)only[go_sem,qV,qK])⟩
   rw[QY hk0]at hd
   rw[←hd,List.append_assoc];rfl
  ·have hk0:k=0:=qJ.1 (List.length_eq_zero_iff.1 (by omega))
   subst hk0
   rw[yh,List.append_nil]at hd
   subst hd
   simp(disch:=omega)only[go_sem,h2]
   refine qf (fun x:Nat×List UInt8=>[(3,.rf 1 0 (dg m).length),(6,.rf 2 0 x.2.length),(7,.v (.int .i64 ((x.1:Int)-1)))]) (fun x=>[(1,.own 1 (qa (dg m))),(2,.own 1 (qa x.2))]) (fun x=>x.1≤(dg m).length∧x.2=((dg m).drop x.1).reverse) (fun x=>x.1) ((dg m).length,[]) ⟨Nat.le_refl _,by simp⟩
    ((Le.ghost 6 2 1 (by simp(disch:=omega)only[go_sem]) (by simp(disch:=omega)only[go_sem])).trans (Le.lst [] _ _ rfl (by simp(disch:=omega)only[go_sem]) (by simp(disch:=omega)only[go_sem,j5]))) ?_
   rintro⟨j,o⟩ ⟨hj,ho⟩
   dsimp only at hj ho ⊢
   have hol:o.length=(dg m).length-j:=by rw[ho];simp
   simp(disch:=omega)only[go_sem]
   refine qd (fun h3=>?_) (fun h3=>?_)
   ·obtain⟨i,rfl⟩:∃i,j=i+1:=⟨j-1,by omega⟩
    have ei:((i+1:Nat):Int)-1=(i:Nat):=by omega
    simp(disch:=omega)only[go_sem,h3,ei]
    have eo:o++[(dg m).getD i 0]=((dg m).drop i).reverse:=by
     rw[ho,List.drop_eq_getElem_cons (show i<(dg m).length by omega),List.reverse_cons,List.getD_eq_getElem?_getD,List.getElem?_eq_getElem (show i<(dg m).length by omega)]
     rfl
    refine⟨by omega,by omega,by omega,qe (i,o++[(dg m).getD i 0]) [(2,450000000)] ⟨by show i≤_;omega,eo⟩ (by show i<i+1;omega) rfl (by simp(disch:=omega)only[go_sem,List.length_append];try omega) (by simp(disch:=omega)only[go_sem,qV,qK])⟩
   ·have hj0:j=0:=by omega
    subst hj0
    rw[List.drop_zero]at ho
    have et:txt m=(dg m).reverse:=by unfold txt;rw[if_neg h0]
    rw[et,←ho]
    simp(disch:=omega)only[go_sem,h3]
    refine qb [(0,2)] [.own 1 (qa (o++[]))] [] [.rf 0 0 o.length] rfl (by simp(disch:=omega)only[go_sem]) (by simp(disch:=omega)only[go_sem,List.append_nil]) (by simp) (by intro _;simp[qN,AV.pu,Ob.pu,qL]) (.inr ⟨[],rfl,rfl⟩)
end Go.Ab
namespace Go.Ab
open Go Go.Proofs
theorem ajI(xs zs:List UInt8)(hl:xs.length≤2^40):Con Try.prog 101 false [.rf 10000000 0 xs.length] [.own 1 (qa (xs++zs))] (fun r hs bs=>hs=[]∧bs=[.own 1 (qa (xs.reverse++zs))]):=by
 refine Con.of_aw Try.func101 rfl Try.ntmps101 (by simp) (by simp) (by simp) (W.sound ?_)
 show @W Try.prog 28 ⟨_⟩ ⟨fun x σ=>@qO _ _ _ ⟨_⟩ _ ⟨_⟩ x σ⟩ _ _
 simp(disch:=omega)only[go_sem]
 refine qf (fun x:Nat×List UInt8=>[(0,.rf 10000000 0 xs.length),(2,.v (.int .i64 x.1)),(3,.v (.int .i64 ((xs.length:Int)-1-x.1)))])
  (fun x=>[(10000000,.own 1 (qa (x.2++zs)))])
  (fun x=>2*x.1≤xs.length+1∧x.2.length=xs.length∧∀t,t<xs.length→x.2.getD t 0=if t<x.1∨xs.length≤t+x.1 then xs.getD (xs.length-1-t) 0 else xs.getD t 0)
  (fun x=>xs.length-x.1) (0,xs) ⟨by simp,rfl,fun t ht=>by simp;intro h;omega⟩
  (Le.lst [] _ _ rfl (by simp(disch:=omega)only[go_sem];try omega) (by simp(disch:=omega)only[go_sem])) ?_
 rintro⟨i,ys⟩ ⟨hi,hyl,hy⟩
 dsimp only at hi hyl hy ⊢
 simp(disch:=omega)only[go_sem]
 refine qd (fun h1=>?_) (fun h1=>?_)
 ·simp(disch:=omega)only[go_sem,h1]
  refine qu rfl [⟨0,[],[]⟩,⟨1,[],[]⟩,⟨2,[],[]⟩,⟨3,[],[]⟩,⟨4,[],[]⟩,⟨5,[],[]⟩,⟨6,[],[]⟩,⟨7,[],[]⟩,⟨8,[7],[]⟩,⟨9,[7],[]⟩,⟨10,[7],[]⟩,⟨11,[7],[]⟩,⟨12,[],[]⟩,⟨13,[],[]⟩,⟨14,[],[]⟩,⟨15,[],[]⟩] (by kernel_rfl) ?_
  have e1:((xs.length:Int)-1-(i:Int)).toNat=xs.length-1-i:=by omega
  simp(disch:=omega)only[go_sem,e1]
  have g1:(ys++zs).getD (xs.length-1-i) 0=ys.getD (xs.length-1-i) 0:=by
   rw[List.getD_eq_getElem?_getD,List.getElem?_append_left (by omega),←List.getD_eq_getElem?_getD]
  have g2:(ys++zs).getD i 0=ys.getD i 0:=by
   rw[List.getD_eq_getElem?_getD,List.getElem?_append_left (by omega),←List.getD_eq_getElem?_getD]
  have s1:∀(l:List UInt8) (j:Nat) (b:UInt8),j<l.length→(l++zs).set j b=l.set j b++zs:=fun l j b h=>List.set_append_left _ _ h
  rw[g1,g2,s1 _ _ _ (by omega),s1 _ _ _ (by simp;omega)]
  refine⟨by omega,by simp;omega,by omega,by simp;omega,by omega,by simp;omega,by omega,by simp;omega,qe (i+1,(ys.set i (ys.getD (xs.length-1-i) 0)).set (xs.length-1-i) (ys.getD i 0)) [] ⟨by show 2*(i+1)≤_;omega,by simp[hyl],fun t ht=>?_⟩ (by show xs.length-(i+1)<xs.length-i;omega) rfl (by simp(disch:=omega)only[go_sem];try omega) (by simp(disch:=omega)only[go_sem])⟩
  show((ys.set i (ys.getD (xs.length-1-i) 0)).set (xs.length-1-i) (ys.getD i 0)).getD t 0=if t<i+1∨xs.length≤t+(i+1)then xs.getD (xs.length-1-t) 0 else xs.getD t 0
  have h3:=hy t ht
  have h4:=hy (xs.length-1-i) (by omega)
  have h5:=hy i (by omega)
  have hget:∀(l:List UInt8) (j:Nat) (b:UInt8) (t:Nat),j<l.length→(l.set j b).getD t 0=if t=j then b else l.getD t 0:=by
   intro l j b t hj
   rw[List.getD_eq_getElem?_getD,List.getD_eq_getElem?_getD,List.getElem?_set]
   by_cases h:j=t
   ·subst h;simp[hj]
   ·rw[if_neg h,if_neg (fun e=>h e.symm)]
  rw[hget _ _ _ _ (by simp;omega),hget _ _ _ _ (by omega)]
  have e2:xs.length-1-(xs.length-1-i)=i:=by omega
  rw[e2]at h4
  rw[if_neg (by omega)]at h4 h5
  by_cases ht1:t=xs.length-1-i
  ·subst ht1
   rw[if_pos rfl,if_pos (by omega),h5,e2]
  ·rw[if_neg ht1]
   by_cases ht2:t=i
   ·subst ht2
    rw[if_pos rfl,if_pos (by omega),h4]
   ·rw[if_neg ht2,h3]
    by_cases hc:t<i∨xs.length≤t+i
    ·rw[if_pos hc,if_pos (by omega)]
    ·rw[if_neg hc,if_neg (by omega)]
 ·simp(disch:=omega)only[go_sem,h1]
  have hys:ys=xs.reverse:=by
   refine List.ext_getElem (by simp[hyl]) fun t ht1 ht2=>?_
   have h3:=hy t (by omega)
   rw[List.getD_eq_getElem?_getD,List.getElem?_eq_getElem ht1]at h3
   simp only[Option.getD_some]at h3
   rw[h3,List.getElem_reverse]
   by_cases hc:t<i∨xs.length≤t+i
   ·rw[if_pos hc,List.getD_eq_getElem?_getD,List.getElem?_eq_getElem (by omega)];rfl
   ·have e3:xs.length-1-t=t:=by omega
    rw[if_neg hc,List.getD_eq_getElem?_getD,List.getElem?_eq_getElem (by omega)]
    simp[e3]
  subst hys
  refine qb [] [] [.own 1 (qa (xs.reverse++zs))] [] rfl (by simp(disch:=omega)only[go_sem]) (by simp(disch:=omega)only[go_sem]) (by simp) (by simp) ⟨rfl,rfl⟩
end Go.Ab
namespace Go.Ab
open Go Go.Proofs
theorem JJ(cl:Bool)(n:Nat)(hn:n<2^63):Con Try.prog 90 cl [.v (.int .i64 n)] [] (adF (lim n)):=by
 refine Con.of_aw Try.func90 rfl Try.ntmps90 (by simp) (by simp) (by simp) (W.sound ?_)
 show @W Try.prog 14 ⟨_⟩ ⟨fun x σ=>@qO _ _ _ ⟨_⟩ _ ⟨_⟩ x σ⟩ _ _
 simp(disch:=omega)only[go_sem]
 refine qf (fun x:Nat×List Int=>[(0,.v (.int .i64 x.1)),(3,.rf 1 0 x.2.length)]) (fun x=>[(1,.own 1 (qc x.2))]) (fun x=>x.1<2^63∧x.2++lim x.1=lim n) (fun x=>x.1) (n,[]) ⟨hn,rfl⟩
  ((Le.ghost 3 1 1 (by simp(disch:=omega)only[go_sem]) (by simp(disch:=omega)only[go_sem])).trans (Le.lst [] _ _ rfl (by simp(disch:=omega)only[go_sem]) (by simp(disch:=omega)only[go_sem]))) ?_
 rintro⟨k,l⟩ ⟨hk,hl⟩
 dsimp only at hk hl ⊢
 have hlen:l.length≤4:=by
  have h1:=congrArg List.length hl
  have h2:=jK (n:=n) (k:=4) |>.2 (by omega)
  rw[List.length_append]at h1;omega
 simp(disch:=omega)only[go_sem]
 refine qd (fun h1=>?_) (fun h1=>?_)
 ·simp(disch:=omega)only[go_sem,h1]
  have hk0:k≠0:=by omega
  refine⟨by omega,qe (k/65536,l++[(k:Int) % 65536]) [(1,140000000)] ⟨by show k/65536<2^63;omega,?_⟩ (by show k/65536<k;omega) rfl (by simp(disch:=omega)only[go_sem,List.length_append];omega) (by simp(disch:=omega)only[go_sem])⟩
  rw[jf hk0]at hl
  rw[←hl,List.append_assoc];rfl
 ·simp(disch:=omega)only[go_sem,h1]
  have hk0:k=0:=by omega
  subst hk0
  rw[qw,List.append_nil]at hl
  subst hl
  refine qb [(0,1)] [.own 1 (qc (lim n++[]))] [] [.rf 0 0 (lim n).length] rfl (by simp(disch:=omega)only[go_sem]) (by simp(disch:=omega)only[go_sem]) (by simp) (by intro _;simp[qN,AV.pu,AV.pu.puL,Ob.pu,qT]) (.inr ⟨[],rfl,rfl⟩)
end Go.Ab
namespace Go.Ab
open Go Go.Proofs
theorem ad4(V P:Int)(hP:0<P):V % (P*65536)=V % P+P*(V/P % 65536):=by
 rw[Int.emod_def,Int.emod_def,Int.emod_def,←Int.ediv_ediv_of_nonneg (Int.le_of_lt hP)]
 grind
theorem adt{s:Nat}(hs:s<16):(65536:Int)=2^s*2^(16-s):=by
 rw[←Int.pow_add,show s+(16-s)=16 by omega];decide
theorem VD{D:List Int}(hD:gd D){i s:Nat}(hi:i<D.length)(hs:s<16):
  (vl D/2^s)/65536^i % 65536=(D.getD i 0+D.getD (i+1) 0*65536)/2^s % 65536:=by
 have h2:=(jd s hs).1
 rw[Int.ediv_ediv_of_nonneg (Int.le_of_lt h2),Int.mul_comm,←Int.ediv_ediv_of_nonneg (Int.le_of_lt (Int.pow_pos (by omega))),afC hD (by omega),z9 hi]
 have h3:vl (D.drop (i+1))=D.getD (i+1) 0+65536*vl (D.drop (i+2)):=by
  rcases Nat.lt_or_ge (i+1) D.length with h|h
  ·exact z9 h
  ·rw[List.drop_of_length_le h,List.drop_of_length_le (by omega),List.getD_eq_getElem?_getD,List.getElem?_eq_none h];simp[vl]
 rw[h3]
 have e:D.getD i 0+65536*(D.getD (i+1) 0+65536*vl (D.drop (i+2)))=(D.getD i 0+D.getD (i+1) 0*65536)+2^s*(65536*(2^(16-s)*vl (D.drop (i+2)))):=by
  have:=adt hs
  generalize (2:Int)^s=a at*
  generalize (2:Int)^(16-s)=b at*
  grind
 rw[e,Int.add_mul_ediv_left _ _ (by omega),Int.add_mul_emod_self_left]
theorem K9{a b:Nat}(h:a≤b):(65536:Int)^a≤65536^b:=by
 obtain⟨d,rfl⟩:=Nat.exists_eq_add_of_le h
 have h1:(0:Int)<65536^a:=Int.pow_pos (by omega)
 have h2:(0:Int)<65536^d:=Int.pow_pos (by omega)
 have h3:=Int.mul_le_mul_of_nonneg_left (show(1:Int)≤65536^d by omega) (Int.le_of_lt h1)
 rw[Int.mul_one,←Int.pow_add]at h3
 exact h3
theorem ae2(cl:Bool)(A:List Int)(k:Nat)(hA:gd A)(lA:A.length≤1000000)(hk:k≤100000000):
  Con Try.prog 85 cl [.sl A.length (qc A),.v (.int .i64 k)] [] (adF (lim (vl A/2^k).toNat)):=by
 refine Con.of_aw Try.func85 rfl Try.ntmps85 (by simp) (by simp) (by simp) (W.sound ?_)
 show @W Try.prog 52 ⟨_⟩ ⟨fun x σ=>@qO _ _ _ ⟨_⟩ _ ⟨_⟩ x σ⟩ _ _
 have hvk:vl A/2^k=vl A/65536^(k/16)/2^(k % 16):=by
  rw[Int.ediv_ediv_of_nonneg (Int.le_of_lt (Int.pow_pos (by omega))),Ja]
 simp(disch:=omega)only[go_sem]
 refine qd (fun h0=>?_) (fun h0=>?_)
 ·simp(disch:=omega)only[go_sem,h0]
  have hz:vl A/2^k=0:=by
   rw[hvk,Int.ediv_eq_zero_of_lt (q6 hA)]
   ·simp
   ·refine Int.lt_of_lt_of_le (XK hA) ?_
    exact K9 (by omega)
  rw[hz]
  refine qb [] [] [] [.v (.slice none 0 0)] rfl (by simp(disch:=omega)only[go_sem]) (by simp(disch:=omega)only[go_sem]) (by simp) (by intro _;simp[qN,AV.pu,AV.pu.puL,Ob.pu,qT]) (.inl ⟨by simp[qw],rfl,rfl⟩)
 ·have e16:((k:Int)/16).toNat=k/16:=by omega
  have e17:((A.length:Int)-(k:Int)/16).toNat=(A.drop (k/16)).length:=by simp;omega
  have e18:(A.drop (k/16)).take (A.drop (k/16)).length=A.drop (k/16):=List.take_length
  have hvD:=afC hA (i:=k/16) (by omega)
  have hlD:(A.drop (k/16)).length≤1000000:=by simp;omega
  have hD:=aiR hA (k/16)
  simp(disch:=omega)only[go_sem,h0,e16,e17,e18]
  generalize A.drop (k/16)=D at*
  refine⟨by omega,by omega,?_⟩
  refine qf (fun x:Nat×List Int=>[(1,.v (.int .i64 k)),(5,.sl D.length (qc D)),(6,.rf 1 0 x.2.length),(21,.sl D.length (qc D)),(22,.v (.int .i64 D.length)),(23,.v (.int .i64 x.1))])
   (fun x=>[(1,.own 1 (qc x.2))])
   (fun x=>x.1≤D.length∧x.2.length=x.1∧gd x.2∧vl x.2=vl D/2^(k % 16) % 65536^x.1)
   (fun x=>D.length-x.1) (0,[]) ⟨by simp,rfl,aaR,by simp[vl]⟩
   (Le.lst [(1,220000000)] _ _ rfl (by simp(disch:=omega)only[go_sem]) (by simp(disch:=omega)only[go_sem])) ?_
  rintro⟨i,out⟩ ⟨hi,hol,hog,hov⟩
  dsimp only at hi hol hog hov ⊢
  simp(disch:=omega)only[go_sem]
  refine qd (fun h1=>?_) (fun h1=>?_)
  ·have hx:=zd hD i
   have hy:=zd hD (i+1)
   have em:min ((k:Int) % 16).toNat 64=k % 16:=by omega
   have hm:=jd (k % 16) (by omega)
   have efd:∀x:Int,x.fdiv (2^(k % 16))=x/2^(k % 16):=fun x=>Int.fdiv_eq_ediv_of_nonneg _ (Int.le_of_lt hm.1)
   have hdig:=VD hD (i:=i) (s:=k % 16) (by omega) (by omega)
   have hnn:∀x:Int,0≤x→0≤x/2^(k % 16):=fun x hx=>Int.ediv_nonneg hx (Int.le_of_lt hm.1)
   have ei:((i:Int)+1).toNat=i+1:=by omega
   have hstep:∀z:Int,z=(D.getD i 0+D.getD (i+1) 0*65536)/2^(k % 16) % 65536→vl (out++[z])=vl D/2^(k % 16) % 65536^(i+1):=by
    intro z hz
    rw[yJ,hov,hol,Int.pow_succ,ad4 _ _ (Int.pow_pos (by omega)),hdig,hz]
   simp(disch:=omega)only[go_sem,h1]
   refine⟨by omega,by omega,qd (fun h2=>?_) (fun h2=>?_)⟩
   ·have hn1:=hnn (D.getD i 0+D.getD (i+1) 0*65536) (by omega)
    simp(disch:=omega)only[go_sem,h2,em,efd,ei]
    refine⟨by omega,by omega,by omega,by omega,qe (i+1,out++[(D.getD i 0+D.getD (i+1) 0*65536)/2^(k % 16) % 65536]) [(1,500000000)] ⟨by show i+1≤_;omega,by simp[hol],q8.2 ⟨hog,yr.2 (by omega)⟩,hstep _ rfl⟩ (by show D.length-(i+1)<D.length-i;omega) rfl (by simp(disch:=omega)only[go_sem,List.length_append];try omega) (by simp(disch:=omega)only[go_sem])⟩
   ·have hn1:=hnn (D.getD i 0) (by omega)
    simp(disch:=omega)only[go_sem,h2,em,efd]
    have hy0:D.getD (i+1) 0=0:=by rw[List.getD_eq_getElem?_getD,List.getElem?_eq_none (by omega)];rfl
    refine⟨by omega,by omega,qe (i+1,out++[D.getD i 0/2^(k % 16) % 65536]) [(1,500000000)] ⟨by show i+1≤_;omega,by simp[hol],q8.2 ⟨hog,yr.2 (by omega)⟩,hstep _ (by rw[hy0];simp)⟩ (by show D.length-(i+1)<D.length-i;omega) rfl (by simp(disch:=omega)only[go_sem,List.length_append];try omega) (by simp(disch:=omega)only[go_sem])⟩
  ·simp(disch:=omega)only[go_sem,h1]
   have hiD:i=D.length:=by omega
   subst hiD
   have hV:vl out=vl A/2^k:=by
    rw[hov,hvk,hvD]
    refine Int.emod_eq_of_lt (Int.ediv_nonneg (q6 hD) (Int.le_of_lt (jd (k % 16) (by omega)).1)) ?_
    exact Int.lt_of_le_of_lt (Int.ediv_le_self _ (q6 hD)) (XK hD)
   refine zj false [1] (j1 out (by omega)) (by simp(disch:=omega)only[go_sem]) (by simp(disch:=omega)only[go_sem]) rfl (qR (z:=1) (cs:=qc out) (by simp(disch:=omega)only[go_sem]) (by simp(disch:=omega)only[go_sem])) (by intro n hn;exact⟨_,List.mem_singleton.2 rfl,by rw[List.mem_singleton.1 hn];rfl⟩) ?_
   rintro r hs bs ⟨rfl,rfl,rfl⟩ _
   refine⟨by simp[qs],?_⟩
   simp(disch:=omega)only[go_sem]
   obtain⟨z,hz⟩:=zV out
   have hc:=ju hog
   rw[hV]at hc
   rw[hc]at hz ⊢
   refine qb [(0,1)] [.own 1 (qc out)] [] [.rf 0 0 (lim (vl A/2^k).toNat).length] rfl (by simp(disch:=omega)only[go_sem]) (by simp(disch:=omega)only[go_sem]) (by simp) (by intro _;simp[qN,AV.pu,AV.pu.puL,Ob.pu,qT]) (.inr ⟨List.replicate z 0,rfl,by rw[←hz]⟩)
end Go.Ab
namespace Go.Ab
open Go Go.Proofs
end Go.Ab
namespace Go.Ab
open Go Go.Proofs
end Go.Ab
namespace Go.Ab
open Go Go.Proofs
theorem JP(x:Int):Con Try.prog 110 true [.v (.int .i64 x)] [] (isA (.v (.bool false))):=by
 refine Con.of_w (rs:=[.tmp 2]) Try.func110 rfl Try.ntmps110 rfl ?_
 simp(disch:=omega)only[go_sem]
 exact ql
theorem abA(x y:Int):Con Try.prog 105 true [.v (.int .i64 x),.v (.int .i64 y)] [] (isA (.v (.int .i64 (zq x y)))):=by
 refine Con.of_w (rs:=[.tmp 4]) Try.func105 rfl Try.ntmps105 rfl ?_
 simp(disch:=omega)only[go_sem]
 refine qg (JP x) ?_
 simp(disch:=omega)only[go_sem]
 refine qg (JP y) ?_
 simp(disch:=omega)only[go_sem]
 refine qd (fun h1=>?_) (fun h1=>?_)
 ·simp(disch:=omega)only[go_sem,h1]
  rw[show zq x y= -1 by simp[zq,h1]]
  exact ql
 ·simp(disch:=omega)only[go_sem,h1]
  refine qd (fun h2=>?_) (fun h2=>?_)
  ·simp(disch:=omega)only[go_sem,h2]
   rw[show zq x y=1 by simp[zq,h1,h2]]
   exact ql
  ·simp(disch:=omega)only[go_sem,h2]
   rw[show zq x y=0 by simp[zq,h1,h2]]
   exact ql
theorem Qn(a b:Nat)(la:(lim a).length≤2^40)(lb:(lim b).length≤2^40):
  Con Try.prog 98 true [.sl (lim (a)).length (qc (lim (a))),.sl (lim (b)).length (qc (lim (b)))] [] (isA (.v (.int .i64 (zq a b)))):=by
 refine Con.of_w (rs:=[.tmp 4]) Try.func98 rfl Try.ntmps98 rfl ?_
 simp(disch:=omega)only[go_sem]
 refine zU (fun h1=>?_) (fun h1=>?_)
 ·simp(disch:=omega)only[go_sem,h1]
  refine qg (abA (lim a).length (lim b).length) ?_
  simp(disch:=omega)only[go_sem]
  have:zq ((lim a).length:Int) ((lim b).length:Int)=zq a b:=by
   unfold zq
   rcases(by omega:(lim a).length<(lim b).length∨(lim b).length<(lim a).length)with h|h
   ·have:=jU h
    rw[if_pos (by omega),if_pos (by omega)]
   ·have:=jU h
    rw[if_neg (by omega),if_pos (by omega),if_neg (by omega),if_pos (by omega)]
  rw[this]
  exact ql
 ·simp(disch:=omega)only[go_sem,h1]
  have hl:(lim a).length=(lim b).length:=by omega
  refine qf (fun k:Nat=>[(0,.sl (lim (a)).length (qc (lim (a)))),(1,.sl (lim (b)).length (qc (lim (b)))),(5,.v (.int .i64 ((k:Int)-1)))])
   (fun _=>[]) (fun k=>k≤(lim a).length∧(lim a).drop k=(lim b).drop k) (fun k=>k) (lim a).length ⟨Nat.le_refl _,by rw[List.drop_length,hl,List.drop_length]⟩ (Le.lst [] _ _ rfl (by simp(disch:=omega)only[go_sem];try omega) (by simp(disch:=omega)only[go_sem])) ?_
  rintro k ⟨hk,hd⟩
  simp(disch:=omega)only[go_sem]
  refine qd (fun h2=>?_) (fun h2=>?_)
  ·obtain⟨i,rfl⟩:∃i,k=i+1:=⟨k-1,by omega⟩
   have ei:((i+1:Nat):Int)-1=(i:Nat):=by omega
   simp(disch:=omega)only[go_sem,h2,ei]
   refine qu rfl [⟨0,[],[]⟩,⟨1,[],[]⟩,⟨2,[],[]⟩,⟨3,[],[]⟩,⟨4,[3],[]⟩,⟨5,[3],[]⟩,⟨6,[3],[]⟩,⟨7,[3],[]⟩,⟨8,[],[]⟩] (by kernel_rfl) ?_
   simp(disch:=omega)only[go_sem,ei]
   refine⟨by omega,by omega,by omega,by omega,?_⟩
   refine zU (fun h3=>?_) (fun h3=>?_)
   ·simp(disch:=omega)only[go_sem,h3]
    refine qu rfl [⟨0,[],[]⟩,⟨1,[],[]⟩,⟨2,[],[]⟩,⟨3,[],[]⟩,⟨4,[3],[]⟩,⟨5,[3],[]⟩,⟨6,[3],[]⟩,⟨7,[3],[]⟩,⟨8,[],[]⟩,⟨9,[],[]⟩] (by kernel_rfl) ?_
    simp(disch:=omega)only[go_sem,ei]
    refine⟨by omega,by omega,by omega,by omega,?_⟩
    refine qg (abA ((lim a).getD i 0) ((lim b).getD i 0)) ?_
    simp(disch:=omega)only[go_sem]
    have hva:=qQ a
    have hvb:=qQ b
    have:zq ((lim a).getD i 0) ((lim b).getD i 0)=zq a b:=by
     unfold zq
     rcases(by omega:(lim a).getD i 0<(lim b).getD i 0∨(lim b).getD i 0<(lim a).getD i 0)with h|h
     ·have:=yA (qX a) (qX b) (by omega) hl hd h
      rw[if_pos (by omega),if_pos (by omega)]
     ·have:=yA (qX b) (qX a) (by omega) hl.symm hd.symm h
      rw[if_neg (by omega),if_pos (by omega),if_neg (by omega),if_pos (by omega)]
    rw[this]
    exact ql
   ·simp(disch:=omega)only[go_sem,h3]
    refine qe i [] ⟨by omega,?_⟩ (by show i<i+1;omega) rfl (by simp(disch:=omega)only[go_sem];try omega) (by simp(disch:=omega)only[go_sem])
    rw[jj (l:=lim a) (by omega),jj (l:=lim b) (by omega),h3,hd]
  ·simp(disch:=omega)only[go_sem,h2]
   have:k=0:=by omega
   subst this
   rw[List.drop_zero,List.drop_zero]at hd
   have:=Zw hd
   subst this
   rw[show zq (a:Int) (a:Int)=0 by simp[zq]]
   exact ql
end Go.Ab
namespace Go.Proofs
open Go.Shelf
end Go.Proofs
namespace Go.Ab
open Go Go.Proofs
theorem abB(m:Nat)(i:Int)(hl:(lim m).length≤2^40)(hi:0≤i)(hi2:i<2^62):Con Try.prog 82 true [.sl (lim (m)).length (qc (lim (m))),.v (.int .i64 i)] [] (isA (.v (.int .i64 ((m/2^i.toNat % 2:Nat):Int)))):=by
 refine Con.of_w (rs:=[.tmp 4]) Try.func82 rfl Try.ntmps82 rfl ?_
 obtain⟨k,rfl⟩:=Int.eq_ofNat_of_zero_le hi
 rw[Int.toNat_natCast]
 have h0:¬((k:Int)<0):=by omega
 have e16:((k:Int)/16).toNat=k/16:=by omega
 have em:min ((k:Int) % 16).toNat 64=k % 16:=by omega
 have hb:=abR m k
 simp(disch:=omega)only[go_sem,h0]
 refine qd (fun h1=>?_) (fun h1=>?_)
 ·simp(disch:=omega)only[go_sem,h1]
  have:m/2^k % 2=0:=by
   rw[←hb]
   have h2:=Zx m (k/16)
   rw[List.getD_eq_getElem?_getD,List.getElem?_eq_none (by omega)]at h2
   have h3:m/65536^(k/16) % 65536=0:=by simp only[Option.getD_none]at h2;omega
   rw[h3];simp
  rw[this]
  exact ql
 ·have hx:=zd (qX m) (k/16)
  have hp:(0:Int)<2^(k % 16):=Int.pow_pos (by omega)
  have efd:∀x:Int,x.fdiv (2^(k % 16))=x/2^(k % 16):=fun x=>Int.fdiv_eq_ediv_of_nonneg _ (Int.le_of_lt hp)
  have hq:0≤(lim m).getD (k/16) 0/2^(k % 16)∧(lim m).getD (k/16) 0/2^(k % 16)<65536:=by
   refine⟨Int.ediv_nonneg hx.1 (Int.le_of_lt hp),Int.lt_of_le_of_lt (Int.ediv_le_self _ hx.1) hx.2⟩
  have hr:(lim m).getD (k/16) 0/2^(k % 16) % 2=((m/2^k % 2:Nat):Int):=by
   rw[←hb,Zx]
   generalize m/65536^(k/16) % 65536=x
   rw[Int.natCast_emod,Int.natCast_ediv,Int.natCast_pow];rfl
  simp(disch:=omega)only[go_sem,h1,e16,em,efd,hr]
  refine⟨by omega,by omega,by omega,?_⟩
  exact ql
end Go.Ab
namespace Go.Ab
open Go Go.Proofs
theorem J4(a k:Nat):(vl (lim a)*2^k).toNat=a*2^k:=by
 rw[qQ]
 have:((a:Int)*2^k)=((a*2^k:Nat):Int):=by rw[Int.natCast_mul,Int.natCast_pow];rfl
 rw[this,Int.toNat_natCast]
theorem J5(a k:Nat):(vl (lim a)/2^k).toNat=a/2^k:=by
 rw[qQ]
 have:((a:Int)/2^k)=((a/2^k:Nat):Int):=by rw[Int.natCast_ediv,Int.natCast_pow];rfl
 rw[this,Int.toNat_natCast]
theorem agf(a b:Nat):(vl (lim a)*vl (lim b)).toNat=a*b:=by rw[qQ,qQ,←Int.natCast_mul,Int.toNat_natCast]
theorem Q1(n:Nat)(hn:n<2^63):Con Try.prog 90 false [.v (.int .i64 n)] [] (afP (lim n)):=(JJ false n hn).num
theorem ajH(cl:Bool)(a k:Nat)(la:(lim a).length≤1000000)(hk:k≤100000000):Con Try.prog 86 cl [.sl (lim (a)).length (qc (lim (a))),.v (.int .i64 k)] [] (adF (lim (a*2^k))):=by
 have:=anz cl (lim a) k (qX a) la hk
 rwa[J4]at this
theorem zt(a k:Nat)(la:(lim a).length≤1000000)(hk:k≤100000000):Con Try.prog 86 false [.sl (lim (a)).length (qc (lim (a))),.v (.int .i64 k)] [] (afP (lim (a*2^k))):=(ajH false a k la hk).num
theorem aby(cl:Bool)(a k:Nat)(la:(lim a).length≤1000000)(hk:k≤100000000):Con Try.prog 85 cl [.sl (lim (a)).length (qc (lim (a))),.v (.int .i64 k)] [] (adF (lim (a/2^k))):=by
 have:=ae2 cl (lim a) k (qX a) la hk
 rwa[J5]at this
theorem j3(a k:Nat)(la:(lim a).length≤1000000)(hk:k≤100000000):Con Try.prog 85 false [.sl (lim (a)).length (qc (lim (a))),.v (.int .i64 k)] [] (afP (lim (a/2^k))):=(aby false a k la hk).num
theorem Q0(a b:Nat)(la:(lim a).length≤1000000)(lb:(lim b).length≤1000000):Con Try.prog 88 false [.sl (lim (a)).length (qc (lim (a))),.sl (lim (b)).length (qc (lim (b)))] [] (afP (lim (a*b))):=by
 have:=(JH false (lim a) (lim b) (qX a) (qX b) la lb).num
 rwa[agf]at this
theorem abz(a d:Nat)(la:(lim a).length≤1000000)(hd:0<d)(hd2:d<65536):
  Con Try.prog 100 false [.sl (lim (a)).length (qc (lim (a))),.v (.int .i64 d)] [] (isA (.tu [.sl (lim (a/d)).length (qc (lim (a/d))),.v (.int .i64 ((a % d:Nat):Int))])):=
 Con.frzA <| (ae3 false (lim a) d (qX a) la hd hd2).mono fun r hs bs ⟨zs,h1,h2⟩=>by
  rw[qQ]at h1 h2
  rw[h1,h2]
  have e:((a:Int)/(d:Int)).toNat=a/d:=by
   rw[←Int.natCast_ediv,Int.toNat_natCast]
  rw[e]
  show qx _ 6 _=_
  unfold qx
  simp only[List.map_cons,List.map_nil]
  rw[Zi (k:=3) (l:=lim (a/d)) (zs:=zs) Zk rfl]
  rw[Int.natCast_emod];rfl
end Go.Ab
namespace Go.Ab
def dgf(n:Nat):Nat→List UInt8
 |0=>[]
 |j+1=>dgb n::dgf (n/10) j
theorem ZG(n j:Nat):(dgf n j).length=j:=by
 induction j generalizing n with
 |zero=>rfl
 |succ j ih=>rw[dgf,List.length_cons,ih]
theorem aeM(n j:Nat):dgf n (j+1)=dgf n j++[dgb (n/10^j)]:=by
 induction j generalizing n with
 |zero=>simp[dgf]
 |succ j ih=>
  have h:=ih (n/10)
  rw[dgf,h,dgf,Nat.div_div_eq_div_mul,←Nat.pow_succ']
  rfl
theorem aeN:dgb 0=48:=rfl
theorem Xu(j:Nat):dgf 0 j=List.replicate j 48:=by
 induction j with
 |zero=>rfl
 |succ j ih=>rw[dgf,Nat.zero_div,ih,aeN,List.replicate_succ]
theorem afZ:∀(j n:Nat),n/10^j=0→dgf n j=dg n++List.replicate (j-(dg n).length) 48:=by
 intro j
 induction j with
 |zero=>
  intro n h
  have:n=0:=by simpa using h
  subst this;rw[yh];rfl
 |succ j ih=>
  intro n h
  by_cases h0:n=0
  ·subst h0;rw[Xu,yh];rfl
  ·rw[dgf,ih (n/10) (by rw[Nat.div_div_eq_div_mul,←Nat.pow_succ'];exact h),QY h0,List.length_cons,List.cons_append]
   congr 3;omega
theorem ajC{n:Nat}(h:n≠0):dg n≠[]:=by rw[QY h];exact List.cons_ne_nil _ _
theorem ajD(n:Nat)(h:n≠0):(dg n).getD ((dg n).length-1) 0≠48:=by
 induction n using Nat.strongRecOn with
 |_ n ih=>
  rw[QY h,List.length_cons,Nat.add_sub_cancel]
  by_cases h1:n/10=0
  ·rw[h1,yh]
   show dgb n≠48
   intro e
   have:=congrArg UInt8.toNat e
   rw[JA]at this
   have h2:(48:UInt8).toNat=48:=rfl
   omega
  ·have hl:(dg (n/10)).length≠0:=fun e=>ajC h1 (List.length_eq_zero_iff.1 e)
   obtain⟨k,hk⟩:∃k,(dg (n/10)).length=k+1:=⟨_,(Nat.succ_pred hl).symm⟩
   have:=ih (n/10) (by omega) h1
   rw[hk,Nat.add_sub_cancel]at this
   rw[hk,List.getD_cons_succ]
   exact this
end Go.Ab
namespace Go.Ab
open Go Go.Proofs
theorem aeL{m j c:Nat}(hc:c<4):(m/10^j % 10000/10^c) % 10=m/10^(j+c) % 10:=by
 rw[Nat.pow_add,←Nat.div_div_eq_div_mul]
 generalize m/10^j=q
 have:c=0∨c=1∨c=2∨c=3:=by omega
 rcases this with rfl|rfl|rfl|rfl<;>simp only[Nat.reducePow]<;>omega
theorem ajB{a b:Nat}(h:a % 10=b % 10):dgb a=dgb b:=by unfold dgb;rw[h]
theorem ajA{m j B:Nat}(h:m/10^j≠0)(hm:bl m≤B):j≤B:=by
 have h1:10^j≤m:=by
  rcases Nat.lt_or_ge m (10^j)with h2|h2
  ·exact absurd (Nat.div_eq_of_lt h2) h
  ·exact h2
 have h2:2^j≤10^j:=Nat.pow_le_pow_left (by omega) _
 have h3:=z7.1 hm
 have h4:2^j<2^B:=by omega
 exact Nat.le_of_lt ((Nat.pow_lt_pow_iff_right (by omega)).1 h4)
theorem yv(cl:Bool)(m:Nat)(hm:bl m≤100000):Con Try.prog 84 cl [.sl (lim (m)).length (qc (lim (m)))] [] (aol (txt m)):=by
 have hl:=qI hm
 refine Con.of_aw Try.func84 rfl Try.ntmps84 (by simp) (by simp) (by simp) (W.sound ?_)
 show @W Try.prog 47 ⟨_⟩ ⟨fun x σ=>@qO _ _ _ ⟨_⟩ _ ⟨_⟩ x σ⟩ _ _
 simp(disch:=omega)only[go_sem]
 refine qd (fun h1=>?_) (fun h1=>?_)
 ·simp(disch:=omega)only[go_sem,h1]
  have h0:m=0:=qJ.1 (List.length_eq_zero_iff.1 (by omega))
  subst h0
  refine qH (z:=1) (cs:=qa [48]) trivial ⟨_,tf5,rfl⟩ (by simp(disch:=omega)only[go_sem,qV];rfl) (by omega) ?_
  simp(disch:=omega)only[go_sem]
  refine qb [(0,110000000)] [.own 1 (qa ([48]++[]))] [] [.rf 0 0 1] rfl (by simp(disch:=omega)only[go_sem]) (by simp(disch:=omega)only[go_sem];rfl) (by simp) (by intro _;simp[qN,AV.pu,AV.pu.puL,Ob.pu,qa]) (.inr ⟨[],rfl,rfl⟩)
 ·simp(disch:=omega)only[go_sem,h1]
  have h0:m≠0:=fun e=>h1 (by rw[e,qw];rfl)
  refine qf (fun j:Nat=>[(0,.sl (lim (m/10^j)).length (qc (lim (m/10^j)))),(3,.rf 1 0 j)]) (fun j=>[(1,.own 1 (qa (dgf m j)))]) (fun j=>j≤200000) (fun j=>m/10^j) 0 (by omega)
   ((Le.ghost 3 1 1 (by simp(disch:=omega)only[go_sem]) (by simp(disch:=omega)only[go_sem])).trans (Le.lst [] _ _ rfl (by simp(disch:=omega)only[go_sem,Nat.pow_zero,Nat.div_one]) (by simp(disch:=omega)only[go_sem,j5,dgf]))) ?_
  intro j hj
  have hkb:bl (m/10^j)≤100000:=Nat.le_trans (jw m _) hm
  have hkl:=qI hkb
  simp(disch:=omega)only[go_sem]
  refine qd (fun h2=>?_) (fun h2=>?_)
  ·have hk0:m/10^j≠0:=fun e=>by rw[e,qw]at h2;simp at h2
   simp(disch:=omega)only[go_sem,h2]
   have hjb:=ajA hk0 hm
   refine qi (abz (m/10^j) 10000 (by omega) (by omega) (by omega)) ?_
   simp(disch:=omega)only[go_sem]
   have eq4:m/10^j/10000=m/10^(j+4):=by rw[Nat.div_div_eq_div_mul,Nat.pow_add]
   simp(disch:=omega)only[go_sem,eq4]
   refine qf (fun c:Nat=>[(3,.rf 1 0 (j+c)),(4,.sl (lim (m/10^(j+4))).length (qc (lim (m/10^(j+4))))),(5,.v (.int .i64 ((m/10^j % 10000/10^c:Nat):Int))),(19,.v (.int .i64 c))]) (fun c=>[(1,.own 1 (qa (dgf m (j+c))))]) (fun c=>c≤4) (fun c=>4-c) 0 (by omega)
    (Le.lst [] _ _ rfl (by simp(disch:=omega)only[go_sem,Nat.pow_zero,Nat.div_one,Nat.add_zero]) (by simp(disch:=omega)only[go_sem,Nat.add_zero])) ?_
   intro c hc
   simp(disch:=omega)only[go_sem]
   refine qd (fun h3=>?_) (fun h3=>?_)
   ·have hr:m/10^j % 10000/10^c≤9999:=Nat.le_trans (Nat.div_le_self _ _) (by omega)
    have hst:=aeL (m:=m) (j:=j) (c:=c) (by omega)
    have edc:m/10^j % 10000/10^c/10=m/10^j % 10000/10^(c+1):=by rw[Nat.div_div_eq_div_mul,←Nat.pow_succ]
    generalize hrr:m/10^j % 10000/10^c=rr at*
    have e0:(rr:Int) % 10=((rr % 10:Nat):Int):=by omega
    have ew:IntKind.u8.wrap (48+(rr:Int) % 10)=((dgb (m/10^(j+c))).toNat:Int):=by rw[e0,Xv,ajB hst]
    have et:(dgf m (j+c)).take (j+c)=dgf m (j+c):=List.take_of_length_le (by rw[ZG];omega)
    have e5:(rr:Int)/10=((m/10^j % 10000/10^(c+1):Nat):Int):=by rw[←edc];omega
    simp(disch:=omega)only[go_sem,h3]
    simp(disch:=omega)only[go_sem,ew,et,e5]
    refine⟨⟨by rw[ZG];omega,by omega⟩,qe (c+1) [(1,290000000)] (by show c+1≤4;omega) (by show 4-(c+1)<4-c;omega) rfl (by simp(disch:=omega)only[go_sem,←Nat.add_assoc];try omega) (by simp(disch:=omega)only[go_sem,qV,qK,←Nat.add_assoc,aeM])⟩
   ·have hc4:c=4:=by omega
    subst hc4
    simp(disch:=omega)only[go_sem,h3]
    refine qe (j+4) [] (by show j+4≤_;omega) (by show m/10^(j+4)<m/10^j;rw[←eq4];exact Nat.div_lt_self (Nat.pos_of_ne_zero hk0) (by omega)) rfl (by simp(disch:=omega)only[go_sem]) (by simp(disch:=omega)only[go_sem])
  ·have hk0:m/10^j=0:=qJ.1 (List.length_eq_zero_iff.1 (by omega))
   simp(disch:=omega)only[go_sem,h2]
   have hdd:=afZ j m hk0
   have hdn:=ajC h0
   have hdl:=ajD m h0
   have hlen:(dg m).length≤j:=by
    have:=congrArg List.length hdd
    rw[ZG,List.length_append]at this;omega
   have hlp:0<(dg m).length:=Nat.pos_of_ne_zero fun e=>hdn (List.length_eq_zero_iff.1 e)
   rw[hdd]
   generalize hzs:List.replicate (j-(dg m).length) (48:UInt8)=zs at*
   have hzl:(dg m++zs).length=j:=by rw[←hdd,ZG]
   refine qf (fun n:Nat=>[(3,.rf 1 0 n)]) (fun n=>[(1,.own 1 (qa (dg m++zs)))]) (fun n=>(dg m).length≤n∧n≤j) (fun n=>n) j ⟨hlen,Nat.le_refl _⟩
    (Le.lst [] _ _ rfl (by simp(disch:=omega)only[go_sem]) (by simp(disch:=omega)only[go_sem])) ?_
   rintro n ⟨hn1,hn2⟩
   have en:((n:Int)-1).toNat=n-1:=by omega
   simp(disch:=omega)only[go_sem,en]
   have hlg:(dg m++zs).getD ((dg m).length-1) 0=(dg m).getD ((dg m).length-1) 0:=by
    rw[List.getD_eq_getElem?_getD,List.getElem?_append_left (by omega),←List.getD_eq_getElem?_getD]
   refine⟨⟨by omega,by omega⟩,by rw[hzl];omega,?_⟩
   refine qd (fun h3=>?_) (fun h3=>?_)
   ·have hn3:(dg m).length<n:=by
     rcases Nat.lt_or_ge (dg m).length n with h|h
     ·exact h
     ·have e:n=(dg m).length:=by omega
      rw[e,hlg]at h3
      refine absurd (UInt8.toNat_inj.1 ?_) hdl
      have h48:(48:UInt8).toNat=48:=rfl
      rw[h48];omega
    have en2:((n:Int)-1-0).toNat=n-1:=by omega
    simp(disch:=omega)only[go_sem,h3,en]
    refine⟨⟨by omega,by omega⟩,qe (n-1) [] ⟨by omega,by omega⟩ (by show n-1<n;omega) rfl (by simp(disch:=omega)only[go_sem,en2]) (by simp(disch:=omega)only[go_sem])⟩
   ·have e:n=(dg m).length:=by
     rcases Nat.lt_or_ge (dg m).length n with h|h
     ·exfalso
      apply h3
      have h4:(dg m++zs).getD (n-1) 0=48:=by
       rw[List.getD_eq_getElem?_getD,List.getElem?_append_right (by omega),←hzs,List.getElem?_replicate,if_pos (by omega)]
       rfl
      rw[h4];rfl
     ·omega
    subst e
    have et:txt m=(dg m).reverse:=by unfold txt;rw[if_neg h0]
    simp(disch:=omega)only[go_sem,h3]
    refine zj false [1] (ajI (dg m) zs (by omega)) (by simp(disch:=omega)only[go_sem]) (by simp(disch:=omega)only[go_sem]) rfl (qR (z:=1) (cs:=qa (dg m++zs)) (by simp(disch:=omega)only[go_sem]) (by simp(disch:=omega)only[go_sem])) (by intro n hn;exact⟨_,List.mem_singleton.2 rfl,by rw[List.mem_singleton.1 hn];rfl⟩) ?_
    rintro r hs bs ⟨rfl,rfl⟩ _
    refine⟨by simp[qs],?_⟩
    simp(disch:=omega)only[go_sem]
    rw[et]
    refine qb [(0,1)] [.own 1 (qa ((dg m).reverse++zs))] [] [.rf 0 0 (dg m).length] rfl (by simp(disch:=omega)only[go_sem]) (by simp(disch:=omega)only[go_sem]) (by simp) (by intro _;simp[qN,AV.pu,Ob.pu,qL]) (.inr ⟨zs,by rw[List.length_reverse];rfl,rfl⟩)
theorem zW(m:Nat)(hm:bl m≤100000):Con Try.prog 84 false [.sl (lim (m)).length (qc (lim (m)))] [] (afh (txt m)):=(yv false m hm).byt
theorem Qh(m:Nat)(hm:bl m≤100000):Con Try.prog 61 false [.ag [.sl (lim (m)).length (qc (lim (m)))]] [] (afh (txt m)):=(yj false m hm).byt
theorem QA(s:Bool)(t:List UInt8)(hl:t.length≤1000000):Con Try.prog 83 false [.v (.bool s),.sl t.length (qa t)] [] (afh (if s then 45::t else t)):=by
 cases s
 ·refine Con.frzA ?_
  refine Con.of_aw Try.func83 rfl Try.ntmps83 (by simp) (by simp) (by simp) (W.sound ?_)
  show @W Try.prog 11 ⟨_⟩ ⟨fun x σ=>@qO _ _ _ ⟨_⟩ _ ⟨_⟩ x σ⟩ _ _
  simp(disch:=omega)only[go_sem]
  refine q5 (by simp(disch:=omega)only[go_sem]) ?_
  rw[if_neg (by simp)]
  show qx _ 6 (.sl _ _)=_
  simp(disch:=omega)only[go_sem,zf]
 ·refine Con.byt ?_
  refine Con.of_aw Try.func83 rfl Try.ntmps83 (by simp) (by simp) (by simp) (W.sound ?_)
  show @W Try.prog 11 ⟨_⟩ ⟨fun x σ=>@qO _ _ _ ⟨_⟩ _ ⟨_⟩ x σ⟩ _ _
  simp(disch:=omega)only[go_sem]
  refine qH (z:=1) (cs:=qa [45]) trivial ⟨_,tf5,rfl⟩ (by simp(disch:=omega)only[go_sem,qV];rfl) (by omega) ?_
  simp(disch:=omega)only[go_sem]
  rw[if_pos rfl]
  have el:1+t.length=(45::t).length:=by rw[List.length_cons,Nat.add_comm]
  refine⟨by omega,?_⟩
  rw[el]
  refine qb [(0,110000000)] [.own 1 (qa ((45::t)++[]))] [] [.rf 0 0 (45::t).length] rfl (by simp(disch:=omega)only[go_sem]) (by simp(disch:=omega)only[go_sem];rfl) (by simp) (by intro _;simp[qN,AV.pu,Ob.pu,qL]) (.inr ⟨[],rfl,rfl⟩)
end Go.Ab
namespace Go.Ab
open Go Go.Proofs
theorem abv(m:Nat)(i:Int)(hl:(lim m).length≤2^40)(hi:0≤i)(hi2:i<2^62):Con Try.prog 70 true [.ag [.sl (lim (m)).length (qc (lim (m)))],.v (.int .i64 i)] [] (isA (.v (.int .i64 ((m/2^i.toNat % 2:Nat):Int)))):=by
 refine Con.of_w (rs:=[.tmp 4]) Try.func70 rfl Try.ntmps70 rfl ?_
 obtain⟨k,rfl⟩:=Int.eq_ofNat_of_zero_le hi
 rw[Int.toNat_natCast]
 have h0:¬((k:Int)<0):=by omega
 have e16:((k:Int)/16).toNat=k/16:=by omega
 have em:min ((k:Int) % 16).toNat 64=k % 16:=by omega
 have hb:=abR m k
 simp(disch:=omega)only[go_sem,h0]
 refine qd (fun h1=>?_) (fun h1=>?_)
 ·simp(disch:=omega)only[go_sem,h1]
  have:m/2^k % 2=0:=by
   rw[←hb]
   have h2:=Zx m (k/16)
   rw[List.getD_eq_getElem?_getD,List.getElem?_eq_none (by omega)]at h2
   have h3:m/65536^(k/16) % 65536=0:=by simp only[Option.getD_none]at h2;omega
   rw[h3];simp
  rw[this]
  exact ql
 ·have hx:=zd (qX m) (k/16)
  have hp:(0:Int)<2^(k % 16):=Int.pow_pos (by omega)
  have efd:∀x:Int,x.fdiv (2^(k % 16))=x/2^(k % 16):=fun x=>Int.fdiv_eq_ediv_of_nonneg _ (Int.le_of_lt hp)
  have hq:0≤(lim m).getD (k/16) 0/2^(k % 16)∧(lim m).getD (k/16) 0/2^(k % 16)<65536:=by
   refine⟨Int.ediv_nonneg hx.1 (Int.le_of_lt hp),Int.lt_of_le_of_lt (Int.ediv_le_self _ hx.1) hx.2⟩
  have hr:(lim m).getD (k/16) 0/2^(k % 16) % 2=((m/2^k % 2:Nat):Int):=by
   rw[←hb,Zx]
   generalize m/65536^(k/16) % 65536=x
   rw[Int.natCast_emod,Int.natCast_ediv,Int.natCast_pow];rfl
  simp(disch:=omega)only[go_sem,h1,e16,em,efd,hr]
  refine⟨by omega,by omega,by omega,?_⟩
  exact ql
end Go.Ab
namespace Go.Ab
open Go Go.Proofs
end Go.Ab
namespace Go.Ab
open Go Go.Proofs
end Go.Ab
namespace Go.Ab
open Go Go.Proofs
end Go.Ab
namespace Go.Ab
open Go Go.Proofs
theorem QZ(n lo hi:Int):Con Try.prog 51 true [.v (.int .i64 n),.v (.int .i64 lo),.v (.int .i64 hi)] [] (fun r hs bs=>r=.v (.bool (decide (lo≤n)&&decide (n≤hi)))∧hs=[]):=by
 refine Con.of_aw Try.func51 rfl Try.ntmps51 (by simp) (by simp) (by simp) (W.sound ?_)
 show @W Try.prog 15 ⟨_⟩ ⟨fun x σ=>@qO _ _ _ ⟨_⟩ _ ⟨_⟩ x σ⟩ _ _
 simp(disch:=omega)only[go_sem]
 refine qd (fun h1=>?_) (fun h1=>?_)
 ·simp(disch:=omega)only[go_sem,h1]
  refine qb [] [] [] [.v (.bool (decide (n≤hi)))] rfl (by simp(disch:=omega)only[go_sem]) (by simp(disch:=omega)only[go_sem]) (by simp) (by simp[AV.pu,qN]) ⟨by simp[qN,h1],rfl⟩
 ·simp(disch:=omega)only[go_sem,h1]
  refine qb [] [] [] [.v (.bool false)] rfl (by simp(disch:=omega)only[go_sem]) (by simp(disch:=omega)only[go_sem]) (by simp) (by simp[AV.pu,qN]) ⟨by simp[qN,h1],rfl⟩
end Go.Ab
namespace Go.Ab
open Go Go.Proofs
end Go.Ab
namespace Go.Ab
open Go Go.Proofs
def ovA(m1:Nat)(k:Int):Nat:=m1*2^k.toNat
def ovQ(s:Bool)(m1:Nat)(e1:Int)(m2:Nat)(e2 low mode:Int):Nat:=rq s (ovA m1 (e1-e2-low)) (ovA m2 (-(e1-e2-low))) mode
def ovX(m1:Nat)(e1:Int)(m2:Nat)(e2 low:Int):Bool:=decide (ovA m1 (e1-e2-low) % ovA m2 (-(e1-e2-low))=0)
def roM(s:Bool)(m:Nat)(e low mode:Int):Nat:=if low≤e∨m=0 then m else rq s m (2^(low-e).toNat) mode
def roE(m:Nat)(e low:Int):Int:=if low≤e∨m=0 then e else low
def roX(m:Nat)(e low:Int):Bool:=if low≤e∨m=0 then true else decide (m % 2^(low-e).toNat=0)
def roS(s:Bool)(m:Nat)(e low mode:Int):Bool:=if low≤e∨m=0 then s else s&&decide (rq s m (2^(low-e).toNat) mode≠0)
end Go.Ab
namespace Go.Ab
open Go Go.Proofs
def QE(b:Bool):AV→List Ob→List Ob→Prop:=fun r hs bs=>r=.v (.bool b)∧hs=[]
theorem VJ(x:Int):Con Try.prog 107 true [.v (.int .i64 x)] [] (QE (decide (0≤x)&&decide (x≤65535))):=by
 refine Con.of_aw Try.func107 rfl Try.ntmps107 (by simp) (by simp) (by simp) (W.sound ?_)
 show @W Try.prog 5 ⟨_⟩ ⟨fun x σ=>@qO _ _ _ ⟨_⟩ _ ⟨_⟩ x σ⟩ _ _
 simp(disch:=omega)only[go_sem]
 refine qh (QZ x 0 65535) (by simp(disch:=omega)only[go_sem]) ?_
 rintro r hs ⟨rfl,rfl⟩
 refine⟨by simp[qs],?_⟩
 simp(disch:=omega)only[go_sem]
 refine qb [] [] [] [.v (.bool (decide (0≤x)&&decide (x≤65535)))] rfl (by simp(disch:=omega)only[go_sem]) (by simp(disch:=omega)only[go_sem]) (by simp) (by simp[AV.pu,qN]) ⟨rfl,rfl⟩
theorem YO(g:Nat)(p:Int→Bool)(x:Int)(hf:Con Try.prog g true [.v (.int .i64 x)] [] (QE (p x)))(hg:qD Try.prog g):
  Con Try.prog 112 true [.v (.int .i64 x),.fp [.fn g []] 0] [] (QE (!p x)):=by
 refine Con.of_aw Try.func112 rfl Try.ntmps112 (by simp) (by simp) (by simp) (W.sound ?_)
 show @W Try.prog 8 ⟨_⟩ ⟨fun x σ=>@qO _ _ _ ⟨_⟩ _ ⟨_⟩ x σ⟩ _ _
 simp(disch:=omega)only[go_sem]
 refine⟨hg,qh hf (by simp(disch:=omega)only[go_sem]) ?_⟩
 rintro r hs ⟨rfl,rfl⟩
 refine⟨by simp[qs],?_⟩
 simp(disch:=omega)only[go_sem]
 refine qb [] [] [] [.v (.bool (!p x))] rfl (by simp(disch:=omega)only[go_sem]) (by simp(disch:=omega)only[go_sem]) (by simp) (by simp[AV.pu,qN]) ⟨rfl,rfl⟩
theorem VN(f:Nat)(caps:List AV)(p:Int→Bool)(xs:List Int)(hl:xs.length≤2^40)(hf:∀x,Con Try.prog f true (.v (.int .i64 x)::caps) [] (QE (p x)))(hg:qD Try.prog f)
  (hc:∀h:Nat→Ob,caps.map (qx h 6)=caps) (hc5:∀h:Nat→Ob,caps.map (qx h 5)=caps) (hn:∀ks,AllL (jJ ks) caps) (hr:∀ρ,zb ρ caps=caps):
  Con Try.prog 113 true [.sl xs.length (qc xs),.fn f caps] [] (fun r hs bs=>∃i:Int,r=.v (.int .i64 i)∧hs=[]∧(0≤i↔∃x∈xs,p x=true)):=by
 refine Con.of_aw Try.func113 rfl Try.ntmps113 (by simp) (by simp) (by simp) (W.sound ?_)
 show @W Try.prog 19 ⟨_⟩ ⟨fun x σ=>@qO _ _ _ ⟨_⟩ _ ⟨_⟩ x σ⟩ _ _
 simp(disch:=omega)only[go_sem]
 refine qf (fun i:Nat=>[(0,.sl xs.length (qc xs)),(1,.fn f caps),(6,.sl xs.length (qc xs)),(7,.v (.int .i64 xs.length)),(8,.v (.int .i64 i))])
  (fun _=>[]) (fun i=>i≤xs.length∧∀j,j<i→p (xs.getD j 0)=false) (fun i=>xs.length-i) 0 ⟨by omega,fun j hj=>by omega⟩ (Le.lst [] _ _ rfl (by simp(disch:=omega)only[go_sem,hr,hn]) (by simp(disch:=omega)only[go_sem])) ?_
 rintro i ⟨hi,hp⟩
 simp(disch:=omega)only[go_sem]
 refine qd (fun h1=>?_) (fun h1=>?_)
 ·simp(disch:=omega)only[go_sem,h1]
  refine⟨by omega,by omega,hg,qh (hf (xs.getD i 0)) (by simp(disch:=omega)only[go_sem,hc,hc5]) ?_⟩
  rintro r hs ⟨rfl,rfl⟩
  refine⟨by simp[qs],?_⟩
  simp(disch:=omega)only[go_sem]
  refine y4 (fun h2=>?_) (fun h2=>?_)
  ·simp(disch:=omega)only[go_sem,h2]
   refine qb [] [] [] [.v (.int .i64 i)] rfl (by simp(disch:=omega)only[go_sem]) (by simp(disch:=omega)only[go_sem]) (by simp) (by simp[AV.pu,qN]) ⟨i,rfl,rfl,?_⟩
   refine⟨fun _=>⟨xs.getD i 0,?_,h2⟩,fun _=>by omega⟩
   rw[List.getD_eq_getElem?_getD,List.getElem?_eq_getElem (by omega)];exact List.getElem_mem _
  ·simp(disch:=omega)only[go_sem,h2]
   refine qe (i+1) [] ⟨by omega,fun j hj=>?_⟩ (by show xs.length-(i+1)<xs.length-i;omega) rfl (by simp(disch:=omega)only[go_sem,hr,hn];try omega) (by simp(disch:=omega)only[go_sem])
   rcases(by omega:j<i∨j=i)with h|h
   ·exact hp j h
   ·subst h;exact h2
 ·simp(disch:=omega)only[go_sem,h1]
  refine qb [] [] [] [.v (.int .i64 (-1))] rfl (by simp(disch:=omega)only[go_sem]) (by simp(disch:=omega)only[go_sem]) (by simp) (by simp[AV.pu,qN]) ⟨-1,rfl,rfl,?_⟩
  refine⟨fun h=>by omega,fun⟨x,hx,hpx⟩=>?_⟩
  obtain⟨j,hj,rfl⟩:=List.getElem_of_mem hx
  have:=hp j (by omega)
  rw[List.getD_eq_getElem?_getD,List.getElem?_eq_getElem hj]at this
  simp only[Option.getD_some]at this
  rw[this]at hpx;cases hpx
theorem ZL(f:Nat)(caps:List AV)(p:Int→Bool)(xs:List Int)(hl:xs.length≤2^40)(hf:∀x,Con Try.prog f true (.v (.int .i64 x)::caps) [] (QE (p x)))(hg:qD Try.prog f)
  (hc:∀h:Nat→Ob,caps.map (qx h 6)=caps) (hc5:∀h:Nat→Ob,caps.map (qx h 5)=caps) (hn:∀ks,AllL (jJ ks) caps) (hr:∀ρ,zb ρ caps=caps):
  Con Try.prog 111 true [.sl xs.length (qc xs),.fn f caps] [] (QE (xs.any p)):=by
 refine Con.of_aw Try.func111 rfl Try.ntmps111 (by simp) (by simp) (by simp) (W.sound ?_)
 show @W Try.prog 9 ⟨_⟩ ⟨fun x σ=>@qO _ _ _ ⟨_⟩ _ ⟨_⟩ x σ⟩ _ _
 simp(disch:=omega)only[go_sem]
 refine qh (VN f caps p xs hl hf hg hc hc5 hn hr) (by simp(disch:=omega)only[go_sem,hc,hc5]) ?_
 rintro r hs ⟨i,rfl,rfl,hi⟩
 refine⟨by simp[qs],?_⟩
 simp(disch:=omega)only[go_sem]
 refine qb [] [] [] [.v (.bool (decide (0≤i)))] rfl (by simp(disch:=omega)only[go_sem]) (by simp(disch:=omega)only[go_sem]) (by simp) (by simp[AV.pu,qN]) ⟨?_,rfl⟩
 have:decide (0≤i)=xs.any p:=by rw[Bool.eq_iff_iff,decide_eq_true_eq,hi,List.any_eq_true]
 rw[this];rfl
theorem VQ(g:Nat)(p:Int→Bool)(xs:List Int)(hl:xs.length≤2^40)(hf:∀x,Con Try.prog g true [.v (.int .i64 x)] [] (QE (p x)))(hg:qD Try.prog g):
  Con Try.prog 106 true [.sl xs.length (qc xs),.fn g []] [] (QE (xs.all p)):=by
 refine Con.of_aw Try.func106 rfl Try.ntmps106 (by simp) (by simp) (by simp) (W.sound ?_)
 show @W Try.prog 9 ⟨_⟩ ⟨fun x σ=>@qO _ _ _ ⟨_⟩ _ ⟨_⟩ x σ⟩ _ _
 simp(disch:=omega)only[go_sem]
 refine qh (ZL 112 [.fp [.fn g []] 0] (fun x=> !p x) xs hl (fun x=>YO g p x (hf x) hg) (by simp(disch:=omega)only[go_sem]) (fun h=>rfl) (fun h=>rfl) (fun ks=>by simp(disch:=omega)only[go_sem]) (fun ρ=>rfl)) (by simp(disch:=omega)only[go_sem]) ?_
 rintro r hs ⟨rfl,rfl⟩
 refine⟨by simp[qs],?_⟩
 simp(disch:=omega)only[go_sem]
 refine qb [] [] [] [.v (.bool (!xs.any fun x=> !p x))] rfl (by simp(disch:=omega)only[go_sem]) (by simp(disch:=omega)only[go_sem]) (by simp) (by simp[AV.pu,qN]) ⟨?_,rfl⟩
 have:(!xs.any fun x=> !p x)=xs.all p:=by rw[List.all_eq_not_any_not]
 rw[this];rfl
end Go.Ab
namespace Go.Ab
open Go Go.Proofs
theorem abn(xs:List Int)(hl:xs.length≤2^40):Con Try.prog 99 true [.ag [.sl xs.length (qc xs)]] [] (QE (J1 xs)):=by
 refine Con.of_aw Try.func99 rfl Try.ntmps99 (by simp) (by simp) (by simp) (W.sound ?_)
 show @W Try.prog 29 ⟨_⟩ ⟨fun x σ=>@qO _ _ _ ⟨_⟩ _ ⟨_⟩ x σ⟩ _ _
 have en:((xs.length:Int)-1).toNat=xs.length-1:=by omega
 simp(disch:=omega)only[go_sem]
 refine qd (fun h1=>?_) (fun h1=>?_)
 ·simp(disch:=omega)only[go_sem,h1]
  refine qh (VQ 107 (fun x=>decide (0≤x)&&decide (x≤65535)) xs hl VJ (by simp(disch:=omega)only[go_sem])) (by simp(disch:=omega)only[go_sem]) ?_
  rintro r hs ⟨rfl,rfl⟩
  refine⟨by simp[qs],?_⟩
  simp(disch:=omega)only[go_sem]
  refine y4 (fun h2=>?_) (fun h2=>?_)
  ·simp(disch:=omega)only[go_sem,h2]
   refine zU (fun h3=>?_) (fun h3=>?_)
   ·simp(disch:=omega)only[go_sem,h3,en]
    refine⟨by omega,by omega,?_⟩
    refine qk (by simp(disch:=omega)only[go_sem]) (by simp(disch:=omega)only[go_sem]) ⟨?_,rfl⟩
    have e1:decide (xs.length≤100)=true:=by simp;omega
    have e2:decide (xs.length=0)=false:=by simp;intro h;subst h;simp at h3
    show AV.v (.bool _)=AV.v (.bool _)
    unfold J1
    rw[e1,h2,e2]
    simp
   ·simp(disch:=omega)only[go_sem,h3]
    refine qk (by simp(disch:=omega)only[go_sem]) (by simp(disch:=omega)only[go_sem]) ⟨?_,rfl⟩
    have e1:decide (xs.length≤100)=true:=by simp;omega
    have e2:decide (xs.length=0)=true:=by simp;exact List.length_eq_zero_iff.1 (by omega)
    show AV.v (.bool _)=AV.v (.bool _)
    unfold J1
    rw[e1,h2,e2]
    simp
  ·simp(disch:=omega)only[go_sem,h2]
   refine qk (by simp(disch:=omega)only[go_sem]) (by simp(disch:=omega)only[go_sem]) ⟨?_,rfl⟩
   show AV.v (.bool _)=AV.v (.bool _)
   unfold J1
   rw[h2];simp
 ·simp(disch:=omega)only[go_sem,h1]
  exact qk (by simp(disch:=omega)only[go_sem]) (by simp(disch:=omega)only[go_sem]) ⟨by simp[J1,qN];omega,rfl⟩
end Go.Ab
namespace Go.Ab
open Go Go.Proofs
theorem Con.boolI{P:Program}{f:FuncId}{args:List AV}{b:Bool}(h:Con P f true args [] (QE b)):Con P f true args [] (isA (.v (.bool b))):=
 (Con.len h).mono fun r hs bs ⟨⟨h1,h2⟩,h3⟩=>⟨h1,h2,h3⟩
theorem YD(n lo hi:Int):Con Try.prog 51 true [.v (.int .i64 n),.v (.int .i64 lo),.v (.int .i64 hi)] [] (isA (.v (.bool (decide (lo≤n)&&decide (n≤hi))))):=
 Con.boolI (QZ n lo hi)
theorem VI(xs:List Int)(hl:xs.length≤2^40):Con Try.prog 99 true [.ag [.sl xs.length (qc xs)]] [] (isA (.v (.bool (J1 xs)))):=Con.boolI (abn xs hl)
theorem YE(s:Bool)(xs:List Int)(hl:xs.length≤2^40):Con Try.prog 81 true [.ag [.v (.bool s),.sl xs.length (qc xs)]] [] (isA (.v (.bool (jz s xs)))):=by
 refine Con.of_aw Try.func81 rfl Try.ntmps81 (by simp) (by simp) (by simp) (W.sound ?_)
 show @W Try.prog 18 ⟨_⟩ ⟨fun x σ=>@qO _ _ _ ⟨_⟩ _ ⟨_⟩ x σ⟩ _ _
 simp(disch:=omega)only[go_sem]
 refine qg (VI xs hl) ?_
 simp(disch:=omega)only[go_sem]
 repeat' first
  |simp(disch:=omega)only[go_sem, *]
  |(with_reducible refine qd (fun _=>?_) (fun _=>?_))
  |(with_reducible refine zU (fun _=>?_) (fun _=>?_))
  |(with_reducible refine aaP (fun _=>?_) (fun _=>?_))
  |(with_reducible refine y4 (fun _=>?_) (fun _=>?_))
 all_goals exact qk (by simp(disch:=omega)only[go_sem]) (by simp(disch:=omega)only[go_sem]) ⟨by simp_all[qN,jz]<;>omega,rfl,rfl⟩
def ovB(s:Bool)(mode:Int):Bool:=decide (mode=1)||((decide (mode=2)&&s)||(decide (mode=3)&& !s))
def flB(k:Int)(s:Bool)(m e:Int):Bool:=
 if k=1 then(decide (-1074≤e)&&decide (e≤971))&&((decide (4503599627370496≤m)&&decide (m≤9007199254740991))||((decide (1≤m)&&decide (m≤4503599627370495))&&decide (e= -1074)))
 else if k=0∨k=2 then decide (m=0)&&decide (e=0)else((decide (k=3)&&decide (m=0))&&decide (e=0))&& !s
end Go.Ab
namespace Go.Ab
open Go Go.Proofs
def y7(top:Int):Int:=if-1074>top-53 then-1074 else top-53
def flE(rm:Nat)(re:Int):Int:=y7 ((bl rm:Int)+re)
def flM(rm:Nat)(re:Int):Nat:=oM rm*2^(oE rm re-flE rm re).toNat
def ajm(top:Int)(same:Bool):Int:=if same then 0 else if top≤ -1022 then 5 else 1
def flK(s:Bool)(mode:Int)(rm:Nat)(re:Int):Int:=if rm=0 then 0 else if 1024<(bl rm:Int)+re then(if ovB s mode then 1 else 2)else 1
def aqi(s:Bool)(mode:Int)(rm:Nat)(re:Int):Int:=if rm=0 then 0 else if 1024<(bl rm:Int)+re then(if ovB s mode then 9007199254740991 else 0)else(flM rm re:Int)
def aqj(s:Bool)(mode:Int)(rm:Nat)(re:Int):Int:=if rm=0 then 0 else if 1024<(bl rm:Int)+re then(if ovB s mode then 971 else 0)else flE rm re
def aq3(top:Int)(same:Bool)(rm:Nat)(re:Int):Int:=if rm≠0∧1024<(bl rm:Int)+re then 3 else ajm top same
end Go.Ab
namespace Go.Ab
open Go Go.Proofs
section
variable (g:Nat)(p:FlV→Bool)
end
def asX(x:FlV):Bool:=flB x.k x.s x.m x.e
end Go.Ab
namespace Go.Ab
open Go Go.Proofs
def flV(s:Bool)(m:Nat)(e mode:Int)(z:Bool):FlV:=
 if m=0 then⟨0,z,0,0⟩else
  ⟨flK s mode (roM s m e (y7 (bl m+e)) mode) (roE m e (y7 (bl m+e))),s,aqi s mode (roM s m e (y7 (bl m+e)) mode) (roE m e (y7 (bl m+e))),aqj s mode (roM s m e (y7 (bl m+e)) mode) (roE m e (y7 (bl m+e)))⟩
def flG(s:Bool)(m:Nat)(e mode:Int):Int:=
 if m=0 then 0 else aq3 (bl m+e) (roX m e (y7 (bl m+e))) (roM s m e (y7 (bl m+e)) mode) (roE m e (y7 (bl m+e)))
end Go.Ab
namespace Go.Ab
open Go Go.Proofs
theorem amz(m:Nat):decide ((0:Int)<((lim m).length:Int))=decide (m≠0):=by
 rw[decide_eq_decide]
 exact⟨fun h e=>by rw[e,qw]at h;simp at h,fun h=>by have:=amx h;omega⟩
theorem Qi(m:Nat)(hl:(lim m).length≤2^39):Con Try.prog 79 false [.sl (lim (m)).length (qc (lim (m)))] [] (isA (.ag [.sl (lim (m)).length (qc (lim (m)))])):=(yk false (lim m) m hl (qX m) (qQ m)).natF
theorem JN(n:Nat)(hn:n<2^63):Con Try.prog 64 false [.v (.int .i64 n)] [] (isA (.ag [.sl (lim (n)).length (qc (lim (n)))])):=(Xy false n hn).natF
theorem Q8(a b:Nat)(la:(lim a).length≤1000000)(lb:(lim b).length≤1000000):Con Try.prog 63 false [.ag [.sl (lim (a)).length (qc (lim (a)))],.ag [.sl (lim (b)).length (qc (lim (b)))]] [] (isA (.ag [.sl (lim (a*b)).length (qc (lim (a*b)))])):=(abu false a b la lb).natF
theorem jv(a k:Nat)(la:(lim a).length≤400000)(hk:k≤5000000):Con Try.prog 62 false [.ag [.sl (lim (a)).length (qc (lim (a)))],.v (.int .i64 k)] [] (isA (.ag [.sl (lim (a*2^k)).length (qc (lim (a*2^k)))])):=(abt false a k la hk).natF
theorem Q6(s:Bool)(m:Nat)(hl:(lim m).length≤2^39):Con Try.prog 96 false [.v (.bool s),.ag [.sl (lim (m)).length (qc (lim (m)))]] [] (isA (.ag [.v (.bool (s&&decide (m≠0))),.sl (lim (m)).length (qc (lim (m)))])):=by
 refine Con.frzA ?_
 refine Con.of_w (rs:=[.cell 4 57]) Try.func96 rfl Try.ntmps96 rfl ?_
 simp(disch:=omega)only[go_sem]
 refine qu rfl [⟨0,[],[]⟩,⟨1,[],[]⟩,⟨2,[],[]⟩,⟨3,[],[]⟩,⟨4,[],[]⟩,⟨5,[],[]⟩,⟨6,[],[]⟩,⟨7,[3],[]⟩,⟨8,[3],[]⟩,⟨9,[3],[]⟩,⟨10,[],[]⟩,⟨11,[],[]⟩] (by kernel_rfl) ?_
 simp(disch:=omega)only[go_sem]
 refine y4 (fun h1=>?_) (fun h1=>?_)
 ·simp(disch:=omega)only[go_sem,h1,amz]
  refine qi (Qi m hl) ?_
  simp(disch:=omega)only[go_sem]
  exact ye (hp:=by simp(disch:=omega)only[go_sem,h1,Bool.true_and])
 ·simp(disch:=omega)only[go_sem,h1]
  refine qi (Qi m hl) ?_
  simp(disch:=omega)only[go_sem]
  exact ye (hp:=by simp(disch:=omega)only[go_sem,h1,Bool.false_and])
end Go.Ab
namespace Go.Ab
theorem ZW(n:Nat):txt n≠[]:=by
 unfold txt
 split
 ·exact List.cons_ne_nil _ _
 ·rename_i h
  intro e
  exact ajC h (List.reverse_eq_nil_iff.1 e)
theorem yK(n:Nat):0<(txt n).length:=Nat.pos_of_ne_zero fun e=>ZW n (List.length_eq_zero_iff.1 e)
def aqn(s:Bool):List UInt8:=if s then [45]else []
def Vc(k:Nat)(t:List UInt8):List UInt8:=List.replicate (k+1-t.length) 48++t
theorem adv(k:Nat)(t:List UInt8):(Vc k t).length=max (k+1) t.length:=by
 unfold Vc;rw[List.length_append,List.length_replicate];omega
def ptT(k:Nat)(t:List UInt8):List UInt8:=t.take (t.length-k)++46::t.drop (t.length-k)
def yt(s:Bool)(m:Nat)(e:Int):List UInt8:=
 aqn s++(if 0≤e then txt (m*2^e.toNat)else ptT (-e).toNat (Vc (-e).toNat (txt (m*5^(-e).toNat))))
end Go.Ab
namespace Go.Ab
open Go Go.Proofs
theorem ja{m B:Nat}(h:bl m≤B)(hB:1≤B):(txt m).length≤B:=by
 unfold txt
 split
 ·exact hB
 ·rw[List.length_reverse];exact anr h
theorem yR(i:Nat):5^i<2^(3*i)∨i=0:=by
 rcases Nat.eq_zero_or_pos i with h|h
 ·exact .inr h
 ·refine .inl ?_
  rw[Nat.pow_mul]
  exact Nat.pow_lt_pow_left (by omega) (by omega)
theorem abp(s:Bool)(m:Nat)(e:Int)(hm:bl m≤2000)(he: -200≤e∧e≤4000):Con Try.prog 46 false [.ag [.v (.bool (s)),.sl (lim (m)).length (qc (lim (m))),.v (.int .i64 (e))]] [] (afh (yt s m e)):=by
 refine Con.byt ?_
 have hl:=qI hm
 refine Con.of_aw Try.func46 rfl Try.ntmps46 (by simp) (by simp) (by simp) (W.sound ?_)
 show @W Try.prog 66 ⟨_⟩ ⟨fun x σ=>@qO _ _ _ ⟨_⟩ _ ⟨_⟩ x σ⟩ _ _
 simp(disch:=omega)only[go_sem]
 refine y4 (fun h1=>?_) (fun h1=>?_)
 ·subst h1
  simp(disch:=omega)only[go_sem]
  refine qd (fun h2=>?_) (fun h2=>?_)
  ·simp(disch:=omega)only[go_sem,h2]
   obtain⟨k,rfl⟩:=Int.eq_ofNat_of_zero_le h2
   have hb:=JX m k
   refine qi (jv m k (by omega) (by omega)) ?_
   simp(disch:=omega)only[go_sem]
   refine qG (Qh (m*2^k) (by omega)) (by simp(disch:=omega)only[go_sem]) ?_
   rintro r hs ⟨rfl,rfl,_⟩
   refine⟨by simp[qs],?_⟩
   simp(disch:=omega)only[go_sem]
   have el:1+(txt (m*2^k)).length=(45::txt (m*2^k)).length:=by rw[List.length_cons,Nat.add_comm]
   have ed:yt true m (k:Int)=45::txt (m*2^k):=by unfold yt;rw[if_pos (by omega),Int.toNat_natCast];rfl
   have hlt:=ja (m:=m*2^k) (B:=10000) (by omega) (by omega)
   refine⟨by omega,?_⟩
   rw[ed,el]
   refine qb [(0,270000000)] [.own 1 (qa ((45::txt (m*2^k))++[]))] [] [.rf 0 0 (45::txt (m*2^k)).length] rfl (by simp(disch:=omega)only[go_sem]) (by simp(disch:=omega)only[go_sem];rfl) (by simp) (by intro _;simp[qN,AV.pu,Ob.pu,qL]) (.inr ⟨[],rfl,rfl⟩)
  ·obtain⟨k,hk⟩:∃k:Nat,k=(-e).toNat:=⟨_,rfl⟩
   have ek:0-e=(k:Int):=by omega
   have hk2:k≤200:=by omega
   simp(disch:=omega)only[go_sem,h2]
   refine qf (fun i:Nat=>[(3,.rf 1 0 ([45]:List UInt8).length),(4,.v (.int .i64 k)),(5,.pt 0 0),(6,.v (.int .i64 i))]) (fun i=>[(0,.own 0 [.sl (lim (m*5^i)).length (qc (lim (m*5^i)))]),(1,.own 1 (qa [45]))]) (fun i=>i≤k) (fun i=>k-i) 0 (by omega)
    (Le.lst [(0,70000000),(1,150000000)] _ _ rfl (by simp(disch:=omega)only[go_sem,Nat.pow_zero,Nat.mul_one,ek];try rfl) (by simp(disch:=omega)only[go_sem,Nat.pow_zero,Nat.mul_one];try rfl)) ?_
   intro i hi
   have h5:bl (m*5^i)≤2000+601:=by
    have a1:=j6 m (5^i)
    have a2:bl (5^i)≤3*i+1:=by
     rcases yR i with h|h
     ·exact Nat.le_trans (z7.2 h) (by omega)
     ·subst h;decide
    omega
   have h5l:=qI h5
   simp(disch:=omega)only[go_sem]
   refine qd (fun h3=>?_) (fun h3=>?_)
   ·simp(disch:=omega)only[go_sem,h3]
    refine qu rfl [⟨0,[],[]⟩,⟨1,[0],[]⟩,⟨2,[],[]⟩,⟨3,[],[]⟩] (by kernel_rfl) ?_
    simp(disch:=omega)only[go_sem]
    refine qi (JN 5 (by omega)) ?_
    simp(disch:=omega)only[go_sem]
    have l5:=qI (m:=5) (B:=3) (by decide)
    refine qi (Q8 (m*5^i) 5 (by omega) (by omega)) ?_
    simp(disch:=omega)only[go_sem]
    refine qe (i+1) [] (by show i+1≤k;omega) (by show k-(i+1)<k-i;omega) rfl (by simp(disch:=omega)only[go_sem];try omega) (by simp(disch:=omega)only[go_sem,Nat.pow_succ,←Nat.mul_assoc])
   ·have:i=k:=by omega
    subst this
    simp(disch:=omega)only[go_sem,h3]
    refine qh (yj true (m*5^i) (by omega)) (by simp(disch:=omega)only[go_sem]) ?_
    rintro r hs (⟨h0,_,_⟩|⟨zs,rfl,rfl⟩)
    ·exact absurd h0 (ZW _)
    refine⟨⟨by simp,by simp(disch:=omega)only[go_sem]⟩,?_⟩
    simp(disch:=omega)only[go_sem]
    have hT:=yK (m*5^i)
    have hTl:=ja (m:=m*5^i) (B:=10000) (by omega) (by omega)
    have ed:yt true m e=[45]++ptT i (Vc i (txt (m*5^i))):=by unfold yt;rw[if_neg h2,←hk];rfl
    rw[ed]
    generalize txt (m*5^i)=T at*
    refine qf (fun x:Nat×List UInt8=>[(3,.rf 1 0 ([45]:List UInt8).length),(4,.v (.int .i64 i)),(7,.rf 2 0 (x.1+T.length))]) (fun x=>[(1,.own 1 (qa [45])),(2,.own 1 (qa (List.replicate x.1 48++T++x.2)))]) (fun x=>x.1≤i+1-T.length) (fun x=>i+1-T.length-x.1) (0,zs) (by show 0≤_;omega)
     (Le.lst [(2,430000000)] _ _ rfl (by simp(disch:=omega)only[go_sem,Nat.zero_add];try rfl) (by simp(disch:=omega)only[go_sem,List.replicate_zero,List.nil_append];try rfl)) ?_
    rintro⟨n,z2⟩ hn
    dsimp only at hn ⊢
    simp(disch:=omega)only[go_sem]
    refine qd (fun h4=>?_) (fun h4=>?_)
    ·have etk:(List.replicate n (48:UInt8)++T++z2).take (n+T.length)=List.replicate n 48++T:=List.take_left' (by simp)
     simp(disch:=omega)only[go_sem,h4,etk]
     refine⟨by simp<;>omega,by omega,qe (n+1,[]) [(2,500000000)] (by show n+1≤_;omega) (by show i+1-T.length-(n+1)<i+1-T.length-n;omega) rfl (by simp(disch:=omega)only[go_sem];try omega) (by simp(disch:=omega)only[go_sem,List.replicate_succ,List.append_nil,List.cons_append];try rfl)⟩
    ·have hn':n=i+1-T.length:=by omega
     simp(disch:=omega)only[go_sem,h4]
     obtain⟨g,hg⟩:∃g,g=n+T.length-i:=⟨_,rfl⟩
     have hU:List.replicate n (48:UInt8)++T=Vc i T:=by unfold Vc;rw[hn']
     have hUl:(List.replicate n (48:UInt8)++T).length=n+T.length:=by simp
     rw[←hU]
     generalize List.replicate n (48:UInt8)++T=U at*
     have eA:((n+T.length:Nat):Int)-(i:Int)-0=(g:Int):=by omega
     have eB:((n+T.length:Nat):Int)-(i:Int)=(g:Int):=by omega
     have eC:(((n+T.length:Nat):Int)-(g:Int)).toNat=i:=by omega
     have eD:((g:Int)-0).toNat=g:=by omega
     have e1:(U++z2).take g=U.take g:=List.take_append_of_le_length (by omega)
     have e2:((U++z2).drop g).take i=U.drop g:=by
      rw[List.drop_append_of_le_length (by omega)]
      exact List.take_left' (by rw[List.length_drop];omega)
     have e3:([45]:List UInt8).take 1=[45]:=rfl
     have e4:([45]++U.take g).take (1+g)=[45]++U.take g:=List.take_of_length_le (by simp;omega)
     have e46:([.v (.int .u8 46)]:List AV)=qa [46]:=rfl
     have e5:([45]++U.take g++[46]).take (1+g+1)=[45]++U.take g++[46]:=List.take_of_length_le (by simp;omega)
     have e6:(U.take g).take g=U.take g:=List.take_of_length_le (by simp;omega)
     have e7:(U.take g++[46]).take (g+1)=U.take g++[46]:=List.take_of_length_le (by simp;omega)
     refine qu rfl [⟨0,[],[]⟩,⟨1,[],[]⟩,⟨2,[],[]⟩,⟨3,[],[]⟩,⟨4,[],[]⟩,⟨5,[],[]⟩,⟨6,[],[]⟩,⟨10,[6],[]⟩,⟨11,[6],[]⟩,⟨12,[6],[]⟩,⟨13,[6],[]⟩,⟨14,[6],[]⟩,⟨15,[6],[]⟩,⟨8,[6,15],[]⟩,⟨7,[15],[590000000]⟩,⟨9,[15],[]⟩,⟨16,[],[]⟩,⟨17,[],[]⟩] (by kernel_rfl) ?_
     simp(disch:=omega)only[go_sem,eA,eB,eC,eD,e1,e2,e3,e4,e6]
     have e8:(45::U.take g).take (1+g)=45::U.take g:=List.take_of_length_le (by simp;omega)
     have e9:(45::U.take g++[46]).take (1+g+1)=45::U.take g++[46]:=List.take_of_length_le (by simp;omega)
     have eP:[45]++ptT i U=(45::U.take g)++[46]++U.drop g:=by unfold ptT;rw[hUl,←hg];simp
     have eN:((45::U.take g)++[46]++U.drop g).length=1+g+1+i:=by simp;omega
     rw[eP]
     simp only[e46,qK,q9,qo,yG,List.drop_zero,e8,e9,e6,e7]
     have eUg:(U.take g).length=g:=by rw[List.length_take];omega
     have eUz:(U++z2).length=n+T.length+z2.length:=by rw[List.length_append,hUl]
     refine⟨⟨by omega,by omega⟩,⟨by omega,by omega,by omega⟩,by omega,by omega,⟨by omega,by omega⟩,by omega,⟨by simp[eUg]<;>omega,by omega⟩,?_⟩
     refine qb [(0,670000000)] [.own 1 (qa (((45::U.take g)++[46]++U.drop g)++[]))] [] [.rf 0 0 (1+g+1+i)] rfl (by simp(disch:=omega)only[go_sem]) (by simp(disch:=omega)only[go_sem,List.append_nil]) (by simp) (by intro _;simp[qN,AV.pu,Ob.pu,qL]) (.inr ⟨[],by rw[eN];rfl,rfl⟩)
 ·subst h1
  simp(disch:=omega)only[go_sem]
  refine qd (fun h2=>?_) (fun h2=>?_)
  ·simp(disch:=omega)only[go_sem,h2]
   obtain⟨k,rfl⟩:=Int.eq_ofNat_of_zero_le h2
   have hb:=JX m k
   refine qi (jv m k (by omega) (by omega)) ?_
   simp(disch:=omega)only[go_sem]
   refine qG (Qh (m*2^k) (by omega)) (by simp(disch:=omega)only[go_sem]) ?_
   rintro r hs ⟨rfl,rfl,_⟩
   refine⟨by simp[qs],?_⟩
   simp(disch:=omega)only[go_sem]
   have ed:yt false m (k:Int)=txt (m*2^k):=by unfold yt;rw[if_pos (by omega),Int.toNat_natCast];rfl
   have hlt:=ja (m:=m*2^k) (B:=10000) (by omega) (by omega)
   refine⟨by omega,?_⟩
   rw[ed]
   refine qb [(0,270000000)] [.own 1 (qa (txt (m*2^k)++[]))] [] [.rf 0 0 (txt (m*2^k)).length] rfl (by simp(disch:=omega)only[go_sem]) (by simp(disch:=omega)only[go_sem,List.append_nil]) (by simp) (by intro _;simp[qN,AV.pu,Ob.pu,qL]) (.inr ⟨[],rfl,rfl⟩)
  ·obtain⟨k,hk⟩:∃k:Nat,k=(-e).toNat:=⟨_,rfl⟩
   have ek:0-e=(k:Int):=by omega
   have hk2:k≤200:=by omega
   simp(disch:=omega)only[go_sem,h2]
   refine qf (fun i:Nat=>[(3,.rf 1 0 ([]:List UInt8).length),(4,.v (.int .i64 k)),(5,.pt 0 0),(6,.v (.int .i64 i))]) (fun i=>[(0,.own 0 [.sl (lim (m*5^i)).length (qc (lim (m*5^i)))]),(1,.own 1 (qa []))]) (fun i=>i≤k) (fun i=>k-i) 0 (by omega)
    ((Le.ghost 3 1 1 (by simp(disch:=omega)only[go_sem]) (by simp(disch:=omega)only[go_sem])).trans (Le.lst [(0,70000000)] _ _ rfl (by simp(disch:=omega)only[go_sem,Nat.pow_zero,Nat.mul_one,ek];try rfl) (by simp(disch:=omega)only[go_sem,Nat.pow_zero,Nat.mul_one,j5];try rfl))) ?_
   intro i hi
   have h5:bl (m*5^i)≤2000+601:=by
    have a1:=j6 m (5^i)
    have a2:bl (5^i)≤3*i+1:=by
     rcases yR i with h|h
     ·exact Nat.le_trans (z7.2 h) (by omega)
     ·subst h;decide
    omega
   have h5l:=qI h5
   simp(disch:=omega)only[go_sem]
   refine qd (fun h3=>?_) (fun h3=>?_)
   ·simp(disch:=omega)only[go_sem,h3]
    refine qu rfl [⟨0,[],[]⟩,⟨1,[0],[]⟩,⟨2,[],[]⟩,⟨3,[],[]⟩] (by kernel_rfl) ?_
    simp(disch:=omega)only[go_sem]
    refine qi (JN 5 (by omega)) ?_
    simp(disch:=omega)only[go_sem]
    have l5:=qI (m:=5) (B:=3) (by decide)
    refine qi (Q8 (m*5^i) 5 (by omega) (by omega)) ?_
    simp(disch:=omega)only[go_sem]
    refine qe (i+1) [] (by show i+1≤k;omega) (by show k-(i+1)<k-i;omega) rfl (by simp(disch:=omega)only[go_sem];try omega) (by simp(disch:=omega)only[go_sem,Nat.pow_succ,←Nat.mul_assoc])
   ·have:i=k:=by omega
    subst this
    simp(disch:=omega)only[go_sem,h3]
    refine qh (yj true (m*5^i) (by omega)) (by simp(disch:=omega)only[go_sem]) ?_
    rintro r hs (⟨h0,_,_⟩|⟨zs,rfl,rfl⟩)
    ·exact absurd h0 (ZW _)
    refine⟨⟨by simp,by simp(disch:=omega)only[go_sem]⟩,?_⟩
    simp(disch:=omega)only[go_sem]
    have hT:=yK (m*5^i)
    have hTl:=ja (m:=m*5^i) (B:=10000) (by omega) (by omega)
    have ed:yt false m e=[]++ptT i (Vc i (txt (m*5^i))):=by unfold yt;rw[if_neg h2,←hk];rfl
    rw[ed]
    generalize txt (m*5^i)=T at*
    refine qf (fun x:Nat×List UInt8=>[(3,.rf 1 0 ([]:List UInt8).length),(4,.v (.int .i64 i)),(7,.rf 2 0 (x.1+T.length))]) (fun x=>[(1,.own 1 (qa [])),(2,.own 1 (qa (List.replicate x.1 48++T++x.2)))]) (fun x=>x.1≤i+1-T.length) (fun x=>i+1-T.length-x.1) (0,zs) (by show 0≤_;omega)
     (Le.lst [(2,430000000)] _ _ rfl (by simp(disch:=omega)only[go_sem,Nat.zero_add];try rfl) (by simp(disch:=omega)only[go_sem,List.replicate_zero,List.nil_append];try rfl)) ?_
    rintro⟨n,z2⟩ hn
    dsimp only at hn ⊢
    simp(disch:=omega)only[go_sem]
    refine qd (fun h4=>?_) (fun h4=>?_)
    ·have etk:(List.replicate n (48:UInt8)++T++z2).take (n+T.length)=List.replicate n 48++T:=List.take_left' (by simp)
     simp(disch:=omega)only[go_sem,h4,etk]
     refine⟨by simp<;>omega,by omega,qe (n+1,[]) [(2,500000000)] (by show n+1≤_;omega) (by show i+1-T.length-(n+1)<i+1-T.length-n;omega) rfl (by simp(disch:=omega)only[go_sem];try omega) (by simp(disch:=omega)only[go_sem,List.replicate_succ,List.append_nil,List.cons_append];try rfl)⟩
    ·have hn':n=i+1-T.length:=by omega
     simp(disch:=omega)only[go_sem,h4]
     obtain⟨g,hg⟩:∃g,g=n+T.length-i:=⟨_,rfl⟩
     have hU:List.replicate n (48:UInt8)++T=Vc i T:=by unfold Vc;rw[hn']
     have hUl:(List.replicate n (48:UInt8)++T).length=n+T.length:=by simp
     rw[←hU]
     generalize List.replicate n (48:UInt8)++T=U at*
     have eA:((n+T.length:Nat):Int)-(i:Int)-0=(g:Int):=by omega
     have eB:((n+T.length:Nat):Int)-(i:Int)=(g:Int):=by omega
     have eC:(((n+T.length:Nat):Int)-(g:Int)).toNat=i:=by omega
     have eD:((g:Int)-0).toNat=g:=by omega
     have e1:(U++z2).take g=U.take g:=List.take_append_of_le_length (by omega)
     have e2:((U++z2).drop g).take i=U.drop g:=by
      rw[List.drop_append_of_le_length (by omega)]
      exact List.take_left' (by rw[List.length_drop];omega)
     have e3:([45]:List UInt8).take 1=[45]:=rfl
     have e4:([45]++U.take g).take (1+g)=[45]++U.take g:=List.take_of_length_le (by simp;omega)
     have e46:([.v (.int .u8 46)]:List AV)=qa [46]:=rfl
     have e5:([45]++U.take g++[46]).take (1+g+1)=[45]++U.take g++[46]:=List.take_of_length_le (by simp;omega)
     have e6:(U.take g).take g=U.take g:=List.take_of_length_le (by simp;omega)
     have e7:(U.take g++[46]).take (g+1)=U.take g++[46]:=List.take_of_length_le (by simp;omega)
     refine qu rfl [⟨0,[],[]⟩,⟨1,[],[]⟩,⟨2,[],[]⟩,⟨3,[],[]⟩,⟨4,[],[]⟩,⟨5,[],[]⟩,⟨6,[],[]⟩,⟨10,[6],[]⟩,⟨11,[6],[]⟩,⟨12,[6],[]⟩,⟨13,[6],[]⟩,⟨14,[6],[]⟩,⟨15,[6],[]⟩,⟨8,[6,15],[]⟩,⟨7,[15],[590000000]⟩,⟨9,[15],[]⟩,⟨16,[],[]⟩,⟨17,[],[]⟩] (by kernel_rfl) ?_
     simp(disch:=omega)only[go_sem,eA,eB,eC,eD,e1,e2,e3,e4,e6]
     have e8:(45::U.take g).take (1+g)=45::U.take g:=List.take_of_length_le (by simp;omega)
     have e9:(45::U.take g++[46]).take (1+g+1)=45::U.take g++[46]:=List.take_of_length_le (by simp;omega)
     have eP:[]++ptT i U=(U.take g)++[46]++U.drop g:=by unfold ptT;rw[hUl,←hg];simp
     have eN:((U.take g)++[46]++U.drop g).length=g+1+i:=by simp;omega
     rw[eP]
     simp only[e46,qK,q9,qo,yG,List.drop_zero,e8,e9,e6,e7]
     have eUg:(U.take g).length=g:=by rw[List.length_take];omega
     have eUz:(U++z2).length=n+T.length+z2.length:=by rw[List.length_append,hUl]
     refine⟨⟨by omega,by omega⟩,⟨by omega,by omega,by omega⟩,by omega,by omega,⟨by omega,by omega⟩,by omega,⟨by simp[eUg]<;>omega,by omega⟩,?_⟩
     refine qb [(0,670000000)] [.own 1 (qa (((U.take g)++[46]++U.drop g)++[]))] [] [.rf 0 0 (g+1+i)] rfl (by simp(disch:=omega)only[go_sem]) (by simp(disch:=omega)only[go_sem,List.append_nil]) (by simp) (by intro _;simp[qN,AV.pu,Ob.pu,qL]) (.inr ⟨[],by rw[eN];rfl,rfl⟩)
end Go.Ab
namespace Go.Ab
open Go
structure DyV where
 s:Bool
 xs:List Int
 e:Int
def DyV.cs(x:DyV):List AV:=[.v (.bool x.s),.sl x.xs.length (qc x.xs),.v (.int .i64 x.e)]
theorem abg(x:DyV):x.cs.length=3:=rfl
theorem afX{ρ:Nat→Nat}(x:DyV):zb ρ x.cs=x.cs:=rfl
theorem abf{hp:Nat→Ob}{k:Nat}(x:DyV):x.cs.map (qx hp (k+1))=x.cs:=rfl
theorem afY{p:Nat→Prop}(x:DyV):AllL p x.cs:=by simp[DyV.cs,AllL,AV.All]
theorem ajx{l:List DyV}:(qy DyV.cs l).length=l.length*3:=jH abg
theorem ajw{ρ:Nat→Nat}{l:List DyV}:zb ρ (qy DyV.cs l)=qy DyV.cs l:=jG afX
theorem aeI{hp:Nat→Ob}{k:Nat}{l:List DyV}:(qy DyV.cs l).map (qx hp (k+1))=qy DyV.cs l:=jr abf
theorem ajy{p:Nat→Prop}{l:List DyV}:AllL p (qy DyV.cs l)=True:=eq_true (jI afY)
theorem aeJ{p:Nat→Prop}{x:DyV}:AllL p x.cs=True:=eq_true (afY x)
attribute [go_sem] ajx ajw aeI ajy aeJ afX abf
end Go.Ab
namespace Go.Ab
open Go
theorem Qr(m:Nat):bhp [] m=.free:=by unfold bhp;split<;>simp
theorem Con.enter{P:Program}{f:FuncId}{cl:Bool}{args:List AV}{x:Value}(h:Con P f cl args [] (isA (.v x)))(R:Nat→Prop)(w:World)(vs:Array Value)
  (hlt:∀b,R b→b<w.heap.size) (hr:RepA R (fun _=>none) w vs args) (ha:AllL (fun m=>bhp [] m≠ .free) args) (hg:Gd w):
  Calls P f vs w fun e w'=>e=.returned x∧Ext (fun _=>False) w w':=by
 have hno:∀b,¬XG (bhp []) (fun _=>none) b:=fun b ⟨nm,z,cs,B,e,_⟩=>by rw[Qr]at e;cases e
 have hh:HpOk R (fun _=>none) w (bhp []):=
  ⟨fun nm=>(by rw[Qr];trivial),fun nm z cs B e=>absurd e (by rw[Qr];simp),fun nm nm' z z' cs cs' B B' e=>absurd e (by rw[Qr];simp),fun nm z cs e=>absurd e (by rw[Qr];simp)⟩
 refine(h R (fun _=>none) w vs hlt hr ha hh ⟨hg,fun g l _=>hno g⟩).mono ?_
 rintro e w' ⟨y,r,hs,bs',R',ι',rfl,⟨rfl,rfl,rfl⟩,hf⟩
 refine⟨?_,hf.ext.os,hf.ext.tape,hf.ext.output,hf.ext.size,fun b hb _=>hf.ext.block b hb (hno b)⟩
 cases hf.rep with
 |fr _ _ h=>cases h;rfl
theorem Ext.kept{w w':World}(h:Ext (fun _=>False) w w')(may:MemPlace→Prop):w.keptBut w' may:=by
 refine⟨h.os,h.output,fun i hi=>?_⟩
 rw[h.block i hi (fun h=>h)]
 cases w.heap[i]? with
 |none=>trivial
 |some o=>cases o with
  |cells c t fr=>exact⟨rfl,rfl,rfl,fun _ _=>rfl⟩
  |map es cl=>exact .inr ⟨rfl,rfl⟩
  |_=>rfl
theorem Ext.below{w w':World}(h:Ext (fun _=>False) w w'):RowKit.Below w.heap.size w w':=⟨h.os,h.tape,h.output,h.size,fun k hk=>h.block k hk (fun h=>h)⟩
theorem Ext.trod{H:Type}{enc:TypeId×Value→H}{P:Program}{t:TypeId}{W W':World}(hw:Ext (fun _=>False) W W')(hl:laidOutB P=true)(hr:P.readableRec t=true)(hrow:t<P.types.size){v:Value}{d:DataW H}{ps:List MemPlace}
  (h:DataW.Trod enc P W 0 (fun _=>true) true t v d ps) (hlt:∀x∈ps,x.block<W.heap.size):DataW.Trod enc P W' 0 (fun b=>decide (b<W.heap.size)) true t v d ps:=
 RowKit.Below.trod hl hr hrow h hw.below hlt
theorem afe{w:World}{a:Addr}{v:Value}(h:w.cell? a=some v):a.block<w.heap.size:=by
 rcases Nat.lt_or_ge a.block w.heap.size with h'|h'
 ·exact h'
 ·simp[World.cell?,Array.getElem?_eq_none h']at h
theorem anW(b o i:Nat):(⟨b,o,none⟩:Addr).add i=⟨b,o+i,none⟩:=by
 unfold Addr.add
 split
 ·subst_vars;rfl
 ·rfl
theorem aaT{R:Nat→Prop}{W:World}{a:Addr}{len cap:Nat}{zs:List Int}(hle:len≤cap)(hz:zs.length=cap)(hc:∀i,i<zs.length→W.cell? (a.add i)=some (.int .i64 (zs.getD i 0)))(hR:∀b,b<W.heap.size→R b):
  FRep R W (.slice (some a) len cap) (.sl (zs.take len).length (qc (zs.take len))):=by
 have hl:(zs.take len).length=len:=by rw[List.length_take];omega
 have hil:(qc (zs.take len)).length=len:=by unfold qc;rw[List.length_map,hl]
 rw[hl]
 obtain⟨b,o,sp⟩:=a
 have hsp:0<len→sp=none:=fun h0=>by
  have h1:=World.cell?_spot (hc 0 (by omega))
  simpa [Addr.add]using h1
 refine .sl _ len cap _ (fun i=>.int .i64 (zs.getD i 0)) b o hle (fun h0=>?_) (fun i hi=>?_) (fun i hi=>?_)
 ·have hs:=hsp (by omega)
  subst hs
  exact⟨rfl,hR _ (afe (hc 0 (by omega)))⟩
 ·have hs:=hsp (by omega)
  subst hs
  have h1:=hc i (by omega)
  rw[anW]at h1
  exact h1
 ·have:(qc (zs.take len))[i]=.v (.int .i64 (zs.getD i 0)):=by
   have hi2:i<(zs.take len).length:=by omega
   simp only[qc,List.getElem_map,List.getElem_take,List.getD_eq_getElem?_getD]
   rw[List.getElem?_eq_getElem (by omega)]
   rfl
  rw[this]
  exact .v _
theorem aet{R:Nat→Prop}{W:World}:FRep R W (.slice none 0 0) (.sl 0 []):=
 .sl none 0 0 [] (fun _=>undef) 0 0 (Nat.le_refl _) (fun h=>absurd h (by simp)) (fun i h=>absurd h (by simp)) (fun i h=>absurd h (by simp))
theorem ahS{H:Type}{enc:TypeId×Value→H}{P:Program}{W:World}{t e fuel:Nat}{cs:List Value}{x:DataW H×List MemPlace}(ht:P.underlying t=some (.slice e))(he:P.underlying e=some (.int .i64))(hc:P.cellsOf e=1)
  (h:DataW.trod enc P W 0 (fun _=>true) true fuel t cs=some x):
  ∃(v:Value) (xs:List Int),cs=[v]∧xs.length≤maxLen∧FRep (fun b=>b<W.heap.size) W v (.sl xs.length (qc xs)):=by
 rcases ChangeShapes.open_ints ht he hc h with⟨rfl,_⟩|⟨a,len,cap,zs,rfl,_,hl,hm,hz,_,hcell,_⟩
 ·exact⟨_,[],rfl,Nat.zero_le _,aet⟩
 ·rw[if_pos rfl]at hz
  refine⟨_,zs.take len,rfl,?_,aaT hl hz hcell (fun _ h=>h)⟩
  rw[List.length_take];omega
end Go.Ab
namespace Go.Ab
open Go
/-! ### The simplifier's words for truth values-/
theorem asj:(true==true)=true:=ID rfl
theorem asm:(false==false)=true:=ID rfl
theorem ask:(true==false)=false:=ID rfl
theorem asl:(false==true)=false:=ID rfl
theorem arO:(true != true)=false:=ID rfl
theorem arR:(false != false)=false:=ID rfl
theorem arP:(true != false)=true:=ID rfl
theorem arQ:(false != true)=true:=ID rfl
theorem o_t(b:Bool):(true||b)=true:=ID rfl
theorem o_f(b:Bool):(false||b)=b:=ID rfl
theorem arL(b:Bool):(b||true)=true:=by cases b<;>rfl
theorem arM(b:Bool):(b||false)=b:=by cases b<;>rfl
theorem a_t(b:Bool):(true&&b)=b:=ID rfl
theorem a_f(b:Bool):(false&&b)=false:=ID rfl
theorem asq(b:Bool):(b&&true)=b:=by cases b<;>rfl
theorem asr(b:Bool):(b&&false)=false:=by cases b<;>rfl
attribute [go_sem] asj asm ask asl arO arR arP arQ o_t o_f
attribute [go_sem] arL arM a_t a_f asq asr
theorem akd{P:Program}{t:TypeId}[h:FlE P t]{k m e k' m' e':Int}{s s':Bool}{K:AV→Prop}:
  @zk P .eql t (.ag [.v (.int .i64 k),.v (.bool s),.v (.int .i64 m),.v (.int .i64 e)]) (.ag [.v (.int .i64 k'),.v (.bool s'),.v (.int .i64 m'),.v (.int .i64 e')]) ⟨K⟩=K (.v (.bool (anf k s m e k' s' m' e'))):=
 propext ⟨fun g=>g.2,fun g=>⟨h,g⟩⟩
theorem akc{P:Program}{t:TypeId}[h:FlE P t]{k m e k' m' e':Int}{s s':Bool}{K:AV→Prop}:
  @zk P .neq t (.ag [.v (.int .i64 k),.v (.bool s),.v (.int .i64 m),.v (.int .i64 e)]) (.ag [.v (.int .i64 k'),.v (.bool s'),.v (.int .i64 m'),.v (.int .i64 e')]) ⟨K⟩=K (.v (.bool (!anf k s m e k' s' m' e'))):=
 propext ⟨fun g=>g.2,fun g=>⟨h,g⟩⟩
attribute [go_sem] akd akc
/-! ### Bits of any numbers-/
def aq9(x y:Int):Int:=IntKind.i64.wrap (BitVec.ofInt IntKind.i64.bits x^^^BitVec.ofInt IntKind.i64.bits y).toNat
theorem ajY{x y:Int}{P:Program}{t:Nat}{K:AV→Prop}:@zk P .xor t (.v (.int .i64 x)) (.v (.int .i64 y)) ⟨K⟩=K (.v (.int .i64 (aq9 x y))):=by
 simp only[zk,yl,yF,true_and];rfl
theorem yW(x:Int):((BitVec.ofInt 64 x).toNat:Int)=x % 18446744073709551616:=by
 rw[BitVec.toNat_ofInt];omega
theorem V2{x:Int}{P:Program}{t:Nat}{K:AV→Prop}:@zk P .and t (.v (.int .i64 x)) (.v (.int .i64 255)) ⟨K⟩=K (.v (.int .i64 (x % 256))):=by
 have e:IntKind.i64.wrap (BitVec.ofInt 64 x&&&BitVec.ofInt 64 255).toNat=x % 256:=by
  have h1:=yW x
  have h2:(BitVec.ofInt 64 255).toNat=2^8-1:=by decide
  rw[BitVec.toNat_and,h2,Nat.and_two_pow_sub_one_eq_mod,yz (by omega)]
  omega
 rw[←e];simp only[zk,yl,yF,true_and];rfl
theorem abU{x:Int}{P:Program}{t:Nat}{K:AV→Prop}:@zk P .and t (.v (.int .i64 x)) (.v (.int .i64 1073741823)) ⟨K⟩=K (.v (.int .i64 (x % 1073741824))):=by
 have e:IntKind.i64.wrap (BitVec.ofInt 64 x&&&BitVec.ofInt 64 1073741823).toNat=x % 1073741824:=by
  have h1:=yW x
  have h2:(BitVec.ofInt 64 1073741823).toNat=2^30-1:=by decide
  rw[BitVec.toNat_and,h2,Nat.and_two_pow_sub_one_eq_mod,yz (by omega)]
  omega
 rw[←e];simp only[zk,yl,yF,true_and];rfl
attribute [go_sem] ajY V2 abU
theorem Xl{h:Nat→Ob}{n n' z z':Nat}{cs cs':List AV}(hn:h n=.own z cs)(hc:AllL (fun _=>False) cs)(hn':h n'=.own z' cs')(hc':AllL (fun _=>False) cs'):jV h [n,n']:=by
 intro m hm
 rw[List.mem_cons,List.mem_singleton]at hm
 rcases hm with rfl|rfl
 ·exact⟨z,cs,hn,hc.mono fun _ h=>h.elim⟩
 ·exact⟨z',cs',hn',hc'.mono fun _ h=>h.elim⟩
def Jn(h:Nat→Ob)(nms:List Nat):List Nat→List Ob
 | []=>[]
 |n::r=>(h n).ren (back nms)::Jn h nms r
theorem yX{h:Nat→Ob}{nms:List Nat}:∀r:List Nat,Jn h nms r=r.map (fun n=>(h n).ren (back nms))
 | []=>rfl
 |n::r=>by rw[Jn,List.map_cons,yX r]
theorem aay{h:Nat→Ob}{nms:List Nat}:Jn h nms []=[]:=ID rfl
theorem Vq{h:Nat→Ob}{nms:List Nat}{n:Nat}{r:List Nat}:Jn h nms (n::r)=(h n).ren (back nms)::Jn h nms r:=ID rfl
attribute [go_sem] aay Vq
end Go.Ab
namespace Go.Ab
open Go
theorem ado{R:Nat→Prop}{ι:Nat→Option Blk}{w:World}{x:Value}{a:AV}(h1:Rep R ι w x a):RepA R ι w #[x] [a]:=
 ⟨rfl,fun i h=>match i,h with
  |0,_=>h1⟩
end Go.Ab
namespace Go.Ab
open Go
section
variable {P:Program}{f:FuncId}{args:List AV}{post:AV→List Ob→List Ob→Prop}
theorem Con.frzC{cl:Bool}(h:Con P f cl args [] post):Con P f cl args [] (fun r' hs' bs'=>hs'=[]∧bs'=[]∧∃r hs,post r hs []∧r'=qx (rhp hs []) 6 r):=by
 intro R ι w vs h1 h2 h3 h4 h5
 refine(h R ι w vs h1 h2 h3 h4 h5).mono ?_
 rintro e w' ⟨x,r,hs,bs',R',ι',he,hp,hF⟩
 have hb:bs'=[]:=List.length_eq_zero_iff.1 (by simpa using hF.len)
 subst hb
 have hfree:∀m,10000000≤m→rhp hs [] m=.free:=fun m hm=>by simp[rhp,hm]
 have hO:HpOk R' ι' w' (rhp hs []):=by
  refine⟨fun m=>?_,fun m z cs B e hB hr=>hF.nR m z cs B e hB (.inr hr),hF.inj,hF.men⟩
  rcases Nat.lt_or_ge m 10000000 with hm|hm
  ·exact hF.okF m hm
  ·rw[hfree m hm];trivial
 have hown:∀{m z cs B},rhp hs [] m=.own z cs→ι' m=some B→w.heap.size≤B.b∧B.b<w'.heap.size:=by
  intro m z cs B e hB
  have hm:m<10000000:=by
   rcases Nat.lt_or_ge m 10000000 with hm|hm
   ·exact hm
   ·rw[hfree m hm]at e;cases e
  refine⟨hF.fresh m z cs B hm e hB,?_⟩
  have:=hF.okF m hm
  rw[e,hB]at this
  obtain⟨c,T,lo,hi,g1,_⟩:=this
  rcases Nat.lt_or_ge B.b w'.heap.size with h'|h'
  ·exact h'
  ·simp[Array.getElem?_eq_none h']at g1
 refine⟨x,qx (rhp hs []) 6 r,[],[],fun b=>R' b∨XG (rhp hs []) ι' b,ι',he,⟨rfl,rfl,r,hs,hp,rfl⟩,?_⟩
 have hnil:∀m,rhp [] [] m=.free:=fun m=>by simp[rhp]
 refine⟨hF.ext,fun b hb=>?_,fun b hb=>?_,.fr _ _ (za hO (fun _ h=>.inl h) (fun _ h=>.inr h) 6 hF.rep),zy 6 r,fun m _=>?_,fun m _=>?_,fun m z cs B e=>?_,fun m m' z z' cs cs' B B' e=>?_,fun m z cs e=>?_,fun m z cs B _ e=>?_,rfl,hF.bown,fun i hi=>by simp at hi⟩
 ·rcases hb with hb|⟨m,z,cs,B,e,hB,rfl⟩
  ·exact hF.rlt b hb
  ·exact(hown e hB).2
 ·rcases hb with hb|⟨m,z,cs,B,e,hB,rfl⟩
  ·exact hF.rnew b hb
  ·exact .inl (hown e hB).1
 ·rw[hnil];trivial
 ·rw[hnil];trivial
 all_goals (rw[hnil]at e;cases e)
theorem Con.frzAC{cl:Bool}{f:FuncId}{args:List AV}{a:AV}(h:Con P f cl args [] (ao3 a)):Con P f cl args [] (isA a):=
 h.frzC.mono fun r hs bs ⟨h1,h2,r0,hs0,h3,h4⟩=>⟨by rw[h4];exact h3,h1,h2⟩
end
end Go.Ab
namespace Go.Ab
open Go
section
variable {σ:St}
end
structure ExV where
 s:Bool
 m:Nat
 e:Int
deriving DecidableEq
def ExV.cs(x:ExV):List AV:=[.v (.bool x.s),.sl (lim x.m).length (qc (lim x.m)),.v (.int .i64 x.e)]
theorem anj(x:ExV):x.cs.length=3:=rfl
theorem aa7{ρ:Nat→Nat}(x:ExV):zb ρ x.cs=x.cs:=rfl
theorem aa6{hp:Nat→Ob}{k:Nat}(x:ExV):x.cs.map (qx hp (k+1))=x.cs:=rfl
theorem aa8{p:Nat→Prop}(x:ExV):AllL p x.cs:=by simp[ExV.cs,AllL,AV.All]
def ex0:ExV:=⟨false,0,0⟩
theorem ajq{l:List ExV}:(qy ExV.cs l).length=l.length*3:=jH anj
theorem ajp{ρ:Nat→Nat}{l:List ExV}:zb ρ (qy ExV.cs l)=qy ExV.cs l:=jG aa7
theorem aeC{hp:Nat→Ob}{k:Nat}{l:List ExV}:(qy ExV.cs l).map (qx hp (k+1))=qy ExV.cs l:=jr aa6
theorem ajr{p:Nat→Prop}{l:List ExV}:AllL p (qy ExV.cs l)=True:=eq_true (jI aa8)
theorem aeD{p:Nat→Prop}{x:ExV}:AllL p x.cs=True:=eq_true (aa8 x)
structure SpV where
 lo:ExV
 hi:ExV
deriving DecidableEq
def SpV.cs(x:SpV):List AV:=x.lo.cs++x.hi.cs
theorem aln(x:SpV):x.cs.length=6:=rfl
theorem afJ{ρ:Nat→Nat}(x:SpV):zb ρ x.cs=x.cs:=rfl
theorem KO{hp:Nat→Ob}{k:Nat}(x:SpV):x.cs.map (qx hp (k+1))=x.cs:=rfl
theorem afK{p:Nat→Prop}(x:SpV):AllL p x.cs:=by simp[SpV.cs,ExV.cs,AllL,AV.All]
def sp0:SpV:=⟨ex0,ex0⟩
theorem ahm{l:List SpV}:(qy SpV.cs l).length=l.length*6:=jH aln
theorem ahl{ρ:Nat→Nat}{l:List SpV}:zb ρ (qy SpV.cs l)=qy SpV.cs l:=jG afJ
theorem ac8{hp:Nat→Ob}{k:Nat}{l:List SpV}:(qy SpV.cs l).map (qx hp (k+1))=qy SpV.cs l:=jr KO
theorem ahn{p:Nat→Prop}{l:List SpV}:AllL p (qy SpV.cs l)=True:=eq_true (jI afK)
theorem ac9{p:Nat→Prop}{x:SpV}:AllL p x.cs=True:=eq_true (afK x)
attribute [go_sem] ajq ajp aeC ajr aeD aa7 aa6 ahm ahl ac8 ahn ac9 afJ KO
end Go.Ab
namespace Go.Ab
open Go
section
variable {P:Program}{N:Nat}{σ:St}{Q:Exit→St→Prop}
theorem Le.frz(m:Nat){z:Nat}{ks:List AV}(hm:σ.hp m=.own z ks)(hl:zR m=false)(hn:AllL (fun _=>False) ks):
  Le σ ⟨fun s=>(σ.env s).fz m z ks,fun k=>if k=m then .dead else(σ.hp k).fz m z ks⟩:=by
 have:=Le.freeze m hm hl hn
 have e:(fun k=>bif Nat.beq k m then Ob.dead else(σ.hp k).fz m z ks)=fun k=>if k=m then Ob.dead else(σ.hp k).fz m z ks:=by
  funext k
  by_cases h:k=m
  ·subst h;rw[Nat.beq_refl,cond_true,if_pos rfl]
  ·rw[Xj h,cond_false,if_neg h]
 rwa[e]at this
theorem AW.seqLe{x y:Code}{E:List (Nat×AV)}{H:List (Nat×Ob)}(hx:AW P N x (fun ex σ'=>ex=.normal∧Le σ' ⟨ofL .un E,ofH H⟩) σ)(hy:AW P N y Q ⟨ofL .un E,ofH H⟩):AW P N (.seq x y) Q σ:=
 AW.seq (hx.mono fun ex σ' ⟨he,hl⟩=>by subst he;exact AW.le hl hy)
end
section
variable {m z:Nat}{ks:List AV}
theorem aoU:AV.fz m z ks .un=.un:=ID rfl
theorem asb{x:Value}:AV.fz m z ks (.v x)=.v x:=ID rfl
theorem aoW{n:Nat}{cs:List AV}:AV.fz m z ks (.sl n cs)=.sl n cs:=ID rfl
theorem aoZ{o:Nat}{cs:List AV}:AV.fz m z ks (.fp cs o)=.fp cs o:=ID rfl
theorem aoY{nm o:Nat}:AV.fz m z ks (.pt nm o)=if nm=m then .fp ks o else .pt nm o:=by
 by_cases h:nm=m
 ·subst h;simp[AV.fz,Nat.beq_refl]
 ·simp[AV.fz,Xj h,h]
theorem aoX{nm o n:Nat}:AV.fz m z ks (.rf nm o n)=if nm=m then .sl n (cut ks o (n*z))else .rf nm o n:=by
 by_cases h:nm=m
 ·subst h;simp[AV.fz,Nat.beq_refl]
 ·simp[AV.fz,Xj h,h]
theorem ao1{cs:List AV}:AV.fz m z ks (.ag cs)=.ag (fzL m z ks cs):=ID rfl
theorem aoV{cs:List AV}:AV.fz m z ks (.tu cs)=.tu (fzL m z ks cs):=ID rfl
theorem ao0{f:Nat}{cs:List AV}:AV.fz m z ks (.fn f cs)=.fn f (fzL m z ks cs):=ID rfl
theorem aiT:fzL m z ks []=[]:=ID rfl
theorem aeq{a:AV}{r:List AV}:fzL m z ks (a::r)=a.fz m z ks::fzL m z ks r:=ID rfl
theorem aks{y:Nat}{cs:List AV}:Ob.fz m z ks (.own y cs)=.own y (fzL m z ks cs):=ID rfl
theorem aep{xs:List Int}:fzL m z ks (qc xs)=qc xs:=by simp[zL,qc,AV.fz]
end
section
variable {h:Nat→Ob}{ix:Nat→Option Nat}{k:Nat}
theorem alt{f:Nat}{cs:List AV}:snp h ix (k+1) (.fn f cs)=.fn f (cs.map (snp h ix k)):=ID rfl
theorem alu{cs:List AV}:snp h ix (k+1) (.ag cs)=.ag (cs.map (snp h ix k)):=ID rfl
theorem als{o:Nat}{cs:List AV}:snp h ix (k+1) (.fp cs o)=.fp cs o:=ID rfl
end
attribute [go_sem] alt alu als
attribute [go_sem] aoU asb aoW aoZ aoY aoX ao1 aoV ao0 aiT aeq aks aep
end Go.Ab
namespace Go.Ab
open Go
section
variable {P:Program}
theorem q0{L:Nat→Option Blk→Prop}{w0:World}{R0:Nat→Prop}{N:Nat}{ops:Array Oper}{K:St→Prop}{Q':Exit→Act→World→Prop}{rest:List Nat}(hQ:∀σ a w,In L w0 R0 N σ a w→K σ→wpOps P ops Q' rest a w):
  ∀(r:List Oper) (k:Nat),(∀j,j<r.length→ops[k+j]? =r[j]?)→∀{e h a w},In L w0 R0 N ⟨e,h⟩ a w→ChF P N ops.toList K r e h→wpOps P ops Q' (List.range' k r.length++rest) a w
 | [],k,hk,e,h,a,w,hi,hs=>by
  simp only[List.length_nil,List.range'_zero,List.nil_append]
  exact hQ _ _ _ hi hs
 |⟨d,op,ty,pos,af,g⟩::r,k,hk,e,h,a,w,hi,hs=>by
  have ho:ops[k]? =some ⟨d,op,ty,pos,af,g⟩:=by
   have:=hk 0 (by simp)
   simpa using this
  have hr:∀j,j<r.length→ops[k+1+j]? =r[j]? :=fun j hj=>by
   have:=hk (j+1) (by simpa using hj)
   rw[show k+1+j=k+(j+1) by omega,this];simp
  have hd:dOk N d:=by cases g<;>exact hs.1
  simp only[List.length_cons,List.range'_succ,List.cons_append,wpOps,ho]
  have run:@Op1 P ⟨d⟩ ⟨op⟩ ⟨fun v hp=>ChF P N ops.toList K r (jB e d v) hp⟩ e h→Oper.wp P ⟨d,op,ty,pos,af,g⟩ a w (wpOps P ops Q' (List.range' (k+1) r.length++rest)) Q':=fun hs=>by
   obtain⟨R,ι,hR,hinv⟩:=hi.inv
   refine Xh hinv (Op1.sound hs ty pos af g) fun x w' R' ι' av hp' hR' hK hx hm hi'=>?_
   exact q0 hQ r (k+1) hr (hi.put (o:=⟨d,op,ty,pos,af,g⟩) hd hR hR' hx hm hi') hK
  have skip:ChF P N ops.toList K r (jB e d (.v (.tuple ⟨[]⟩))) h→wpOps P ops Q' (List.range' (k+1) r.length++rest) (a.put d undef) w:=fun hs=>by
   obtain⟨R,ι,hR,hinv⟩:=hi.inv
   exact q0 hQ r (k+1) hr (hi.put (o:=⟨d,op,ty,pos,af,g⟩) hd hR (fun _ h=>.inl h) (.fr _ _ (.v _)) (by simp[AV.All]) hinv) hs
  cases g with
  |none=>
   rw[if_pos (by simp[Region.wanted])]
   exact .inl (run hs.2)
  |some p=>
   obtain⟨j,want⟩:=p
   have h2:=hs.2
   unfold Jt at h2
   dsimp only at h2
   split at h2
   ·rename_i d' hd'
    have key:∀v c,e d'=.v v→(match v with| .bool b=>some b|_=>none)=c→yielded ops a.tmps j=c:=by
     intro v c hv hc
     obtain⟨R,ι,hR,hinv⟩:=hi.inv
     have:=hinv.env d'
     change Rep _ _ _ _ (e d')at this
     rw[hv]at this
     have:=this.v_inv
     unfold yielded
     rw[Array.getElem?_toList]at hd'
     rw[hd']
     rw[Array.getD_eq_getD_getElem?]at this
     cases ee:a.tmps[d']? with
     |none=>
      rw[ee]at this
      subst hc
      have:v=undef:=this.symm
      subst this;simp[ee,undef]
     |some y=>rw[ee]at this;simp at this;subst this;subst hc;simp only[Option.bind_some,ee];cases y<;>rfl
    unfold Qq at h2
    split at h2
    ·rename_i b hb
     have hy:=key _ _ hb rfl
     have hw:Region.wanted ⟨d,op,ty,pos,af,some (j,want)⟩ (yielded ops a.tmps)=(b==want):=by
      simp only[Region.wanted,hy]
      cases b<;>cases want<;>rfl
     rw[hw]
     cases hbw:b==want with
     |true=>rw[if_pos rfl];exact .inl (run (h2.1 hbw))
     |false=>rw[if_neg (by simp)];exact skip (h2.2 hbw)
    ·rename_i hb
     have hy:=key _ _ hb rfl
     have hw:Region.wanted ⟨d,op,ty,pos,af,some (j,want)⟩ (yielded ops a.tmps)=false:=by
      simp only[Region.wanted,hy]
      cases want<;>rfl
     rw[hw,if_neg (by simp)]
     exact skip (h2.2 rfl)
    ·exact h2.elim
   ·exact h2.elim
end
end Go.Ab
namespace Go.Ab
open Go
section
variable {P:Program}{f:FuncId}{args:List AV}{bs:List Ob}{post:AV→List Ob→List Ob→Prop}
end
end Go.Ab
namespace Go.Ab
open Go
structure IvV where
 lo:DyV
 hi:DyV
def IvV.cs(x:IvV):List AV:=x.lo.cs++x.hi.cs
def dy0:DyV:=⟨false,[],0⟩
def iv0:IvV:=⟨dy0,dy0⟩
theorem amD(x:IvV):x.cs.length=6:=rfl
theorem afR{ρ:Nat→Nat}(x:IvV):zb ρ x.cs=x.cs:=rfl
theorem aaM{hp:Nat→Ob}{k:Nat}(x:IvV):x.cs.map (qx hp (k+1))=x.cs:=rfl
theorem afS{p:Nat→Prop}(x:IvV):AllL p x.cs:=by simp[IvV.cs,DyV.cs,AllL,AV.All]
theorem aiH{l:List IvV}:(qy IvV.cs l).length=l.length*6:=jH amD
theorem aiG{ρ:Nat→Nat}{l:List IvV}:zb ρ (qy IvV.cs l)=qy IvV.cs l:=jG afR
theorem aei{hp:Nat→Ob}{k:Nat}{l:List IvV}:(qy IvV.cs l).map (qx hp (k+1))=qy IvV.cs l:=jr aaM
theorem aiI{p:Nat→Prop}{l:List IvV}:AllL p (qy IvV.cs l)=True:=eq_true (jI afS)
theorem aej{p:Nat→Prop}{x:IvV}:AllL p x.cs=True:=eq_true (afS x)
attribute [go_sem] aiH aiG aei aiI aej afR aaM
end Go.Ab
namespace Go.Ab
open Go
def z3:List AV:=[.v (.bool false),.v (.slice none 0 0),.v (.int .i64 0)]
def z6:List AV:=[.v (.bool false),.v (.slice none 0 0),.v (.int .i64 0),.v (.bool false),.v (.slice none 0 0),.v (.int .i64 0)]
section
variable {X:Type}{f:X→List AV}{z:Nat}{n:Nat}{zs:List AV}{ρ:Nat→Nat}{p:Nat→Prop}
theorem Y2(h:zb ρ zs=zs):zb ρ (zu n zs)=zu n zs:=by
 unfold zu
 induction n with
 |zero=>rfl
 |succ n ih=>
  rw[List.replicate_succ,List.flatten_cons]
  have:∀a b:List AV,zb ρ (a++b)=zb ρ a++zb ρ b:=fun a b=>by simp[qA]
  rw[this,h,ih]
theorem Y3(h:AllL p zs):AllL p (zu n zs):=by
 unfold zu
 induction n with
 |zero=>simp[AllL]
 |succ n ih=>rw[List.replicate_succ,List.flatten_cons];exact AllL.append h ih
theorem Kf:∀(ks a b:List AV) (o:Nat),o+ks.length≤a.length→wr (a++b) o ks=wr a o ks++b
 | [],a,b,o,_=>by simp[wr]
 |k::r,a,b,o,h=>by
  simp only[List.length_cons]at h
  rw[wr,wr,List.set_append_left _ _ (by omega),Kf r]
  rw[List.length_set];omega
theorem akP:zb ρ (zu n z3)=zu n z3:=Y2 rfl
theorem akR:AllL p (zu n z3)=True:=eq_true (Y3 (by simp[z3,AllL,AV.All]))
theorem akQ:(zu n z3).length=n*3:=qS n z3
theorem akM:zb ρ (zu n z6)=zu n z6:=Y2 rfl
theorem akO:AllL p (zu n z6)=True:=eq_true (Y3 (by simp[z6,AllL,AV.All]))
theorem akN:(zu n z6).length=n*6:=qS n z6
theorem adq{a b:List AV}:zb ρ (a++b)=zb ρ a++zb ρ b:=by simp[qA]
theorem afr{a b:List AV}:AllL p (a++b)=(AllL p a∧AllL p b):=propext ⟨fun h=>by
 induction a with
 |nil=>exact⟨by simp[AllL],h⟩
 |cons x r ih=>exact⟨⟨h.1,(ih h.2).1⟩,(ih h.2).2⟩,fun h=>AllL.append h.1 h.2⟩
end
attribute [go_sem] akP akR akQ akM akO akN adq afr
end Go.Ab
namespace Go.Ab
open Go Go.Proofs
theorem ZP{P:Program}{t:Nat}{K:AV→Prop}(a:Nat)(ha:a<4294967296):@zk P .and t (.v (.int .u64 a)) (.v (.int .u64 4294967295)) ⟨K⟩=K (.v (.int .u64 a)):=by
 have h:=Mul64.maskN a (by omega)
 rw[Nat.mod_eq_of_lt ha]at h
 conv=>rhs;rw[←h]
 simp only[zk,yl,yF,true_and];rfl
theorem abT{P:Program}{t:Nat}{K:AV→Prop}:@zk P .and t (.v (.int .u64 0)) (.v (.int .u64 4294967295)) ⟨K⟩=K (.v (.int .u64 0)):=ZP 0 (by omega)
theorem abS{P:Program}{t:Nat}{K:AV→Prop}:@zk P .and t (.v (.int .u64 1)) (.v (.int .u64 4294967295)) ⟨K⟩=K (.v (.int .u64 1)):=ZP 1 (by omega)
theorem yC(a:Int)(h:0≤a)(h2:a<18446744073709551616):IntKind.u64.wrap a=a:=by rw[IntKind.wrap_u64];omega
theorem VK(c:Nat)(hc:c<4294967296):Con Try.prog 109 true [.v (.int .u64 1),.v (.int .u64 c)] [] (isA (.tu [.v (.int .u64 0),.v (.int .u64 c)])):=by
 refine Con.of_w (rs:=[.tmp 4,.tmp 5]) Try.func109 rfl Try.ntmps109 rfl ?_
 simp(disch:=omega)only[go_sem]
 have hb:=@ZP Try.prog
 have f1:Int.fdiv 1 (2^min 32 64)=0:=by decide
 have f2:(c:Int).fdiv (2^min 32 64)=0:=by
  show(c:Int).fdiv 4294967296=0
  rw[Int.fdiv_eq_ediv_of_nonneg _ (by omega)];omega
 have f3:IntKind.u64.wrap 0=0:=yC 0 (by omega) (by omega)
 have f4:IntKind.u64.wrap (c:Int)=c:=yC c (by omega) (by omega)
 have f5:Int.fdiv 0 (2^min 32 64)=0:=by decide
 simp(disch:=omega)only[go_sem,abT,abS,hb,f1,f2,f3,f4,f5,Int.zero_mul,Int.one_mul,Int.add_zero,Int.zero_add,Int.mul_zero]
 exact ql
theorem ae0(c:Nat)(hc:c<4294967296):Con Try.prog 103 true [.v (.int .u64 1),.v (.int .u64 c)] [] (isA (.tu [.v (.int .u64 0),.v (.int .u64 c)])):=by
 refine Con.of_w (rs:=[.tmp 4,.tmp 5]) Try.func103 rfl Try.ntmps103 rfl ?_
 simp(disch:=omega)only[go_sem]
 refine qg (VK c hc) ?_
 simp(disch:=omega)only[go_sem]
 exact ql
theorem afA{n k c:Nat}(h:n+k≤c):wr (qa (List.replicate n 48++List.replicate (c-n) 0)) n (qa (List.replicate k 48))=qa (List.replicate (n+k) 48++List.replicate (c-(n+k)) 0):=by
 have e1:List.replicate (c-n) (0:UInt8)=List.replicate k 0++List.replicate (c-(n+k)) 0:=by
  rw[List.replicate_append_replicate];congr 1;omega
 have e2:List.replicate (n+k) (48:UInt8)=List.replicate n 48++List.replicate k 48:=by rw[List.replicate_append_replicate]
 rw[e1,e2,←qK,←qK,←qK,←qK,←List.append_assoc,Kf _ _ _ _ (by simp[qo])]
 have e3:=yI (qa (List.replicate n 48)) (qa (List.replicate k 0)) (qa (List.replicate k 48)) (by simp[qo])
 rw[qo,List.length_replicate]at e3
 rw[e3]
theorem Q2(c:Nat)(hc:c≤100000):Con Try.prog 91 true [.sl 1 (qa [48]),.v (.int .i64 c)] [] (aol (List.replicate c 48)):=by
 refine Con.of_aw Try.func91 rfl Try.ntmps91 (by simp) (by simp) (by simp) (W.sound ?_)
 show @W Try.prog 48 ⟨_⟩ ⟨fun x σ=>@qO _ _ _ ⟨_⟩ _ ⟨_⟩ x σ⟩ _ _
 simp(disch:=omega)only[go_sem]
 have g1:IntKind.u64.wrap 1=1:=yC 1 (by omega) (by omega)
 have g2:IntKind.u64.wrap (c:Int)=c:=yC c (by omega) (by omega)
 refine qd (fun h1=>?_) (fun h1=>?_)
 ·omega
 ·simp(disch:=omega)only[go_sem,h1,g1,g2]
  refine qg (ae0 c (by omega)) ?_
  simp(disch:=omega)only[go_sem]
  refine qd (fun h2=>?_) (fun h2=>?_)
  ·omega
  ·simp(disch:=omega)only[go_sem,h2]
   have ez:zu c [.v (.int .u8 0)]=qa (List.replicate c 0):=by simp[zu,qa]
   simp(disch:=omega)only[go_sem,ez]
   have i1:(([48]:List UInt8).take 1).take (min 1 c)=List.replicate (min 1 c) 48:=by
    rcases Nat.eq_zero_or_pos c with h|h
    ·subst h;rfl
    ·rw[Nat.min_eq_left h];rfl
   have i2:=afA (n:=0) (k:=min 1 c) (c:=c) (by omega)
   rw[List.replicate_zero,List.nil_append,Nat.sub_zero,Nat.zero_add]at i2
   refine⟨⟨by omega,by omega,by omega⟩,by simp,?_⟩
   refine qf (fun n:Nat=>[(7,.rf 1 0 c),(8,.v (.int .i64 n))]) (fun n=>[(1,.own 1 (qa (List.replicate n 48++List.replicate (c-n) 0)))]) (fun n=>n≤c∧(0<n∨c=0)) (fun n=>c-n) (min 1 c) ⟨by omega,by omega⟩
    (Le.lst [(1,320000000)] _ _ rfl (by simp(disch:=omega)only[go_sem]) (by simp(disch:=omega)only[go_sem,i1,i2])) ?_
   rintro n ⟨hn1,hn2⟩
   simp(disch:=omega)only[go_sem]
   refine qd (fun h3=>?_) (fun h3=>?_)
   ·simp(disch:=omega)only[go_sem,h3]
    obtain⟨k,hk⟩:∃k,k=min n (c-n):=⟨_,rfl⟩
    have a1:((n:Int)-0).toNat=n:=by omega
    have a2:((c:Int)-(n:Int)).toNat=c-n:=by omega
    have a3:((List.replicate n (48:UInt8)++List.replicate (c-n) 0).take n).take k=List.replicate k 48:=by
     rw[List.take_left' (by simp),List.take_replicate];congr 1;omega
    have a4:=afA (n:=n) (k:=k) (c:=c) (by omega)
    have a5:(List.replicate n (48:UInt8)++List.replicate (c-n) 0).length=c:=by simp;omega
    refine qu rfl [⟨0,[],[]⟩,⟨1,[],[]⟩,⟨2,[],[]⟩,⟨3,[],[]⟩,⟨4,[3],[]⟩,⟨5,[3],[]⟩,⟨6,[3],[]⟩,⟨7,[],[]⟩,⟨8,[],[]⟩,⟨9,[],[]⟩] (by kernel_rfl) ?_
    simp(disch:=omega)only[go_sem,a1,a2,←hk,a3,a4]
    refine⟨⟨by omega,by omega,by omega⟩,⟨by omega,by omega⟩,by rw[a5];omega,by rw[a5];omega,qe (n+k) [] ⟨by omega,by omega⟩ (by show c-(n+k)<c-n;omega) rfl (by simp(disch:=omega)only[go_sem];try omega) (by simp(disch:=omega)only[go_sem])⟩
   ·have:n=c:=by omega
    subst this
    simp(disch:=omega)only[go_sem,h3]
    refine qb [(0,1)] [.own 1 (qa (List.replicate n 48++List.replicate (n-n) 0))] [] [.rf 0 0 n] rfl (by simp(disch:=omega)only[go_sem]) (by simp(disch:=omega)only[go_sem]) (by simp) (by intro _;simp[qN,AV.pu,Ob.pu,qL]) (.inr ⟨List.replicate (n-n) 0,by rw[List.length_replicate];rfl,rfl⟩)
end Go.Ab
namespace Go.Ab
open Go Go.Proofs
theorem ahJ{A:List Int}(hA:gd A)(i:Nat):(lim ((vl A)^i).toNat).length≤A.length*i+1:=by
 rw[jK]
 have h1:=q6 hA
 have h2:=XK hA
 obtain⟨v,hv⟩:=Int.eq_ofNat_of_zero_le h1
 rw[hv]at h2 ⊢
 have h3:v<65536^A.length:=by
  have e:(65536:Int)^A.length=((65536^A.length:Nat):Int):=by rw[Int.natCast_pow];rfl
  rw[e]at h2
  exact Int.ofNat_lt.1 h2
 rw[←Int.natCast_pow,Int.toNat_natCast,Nat.pow_succ,Nat.pow_mul]
 have h4:=Nat.pow_le_pow_left (Nat.le_of_lt h3) i
 have h5:0<(65536^A.length)^i:=Nat.pow_pos (Nat.pow_pos (by omega))
 omega
theorem abm(A:List Int)(k:Nat)(hA:gd A)(lA:A.length≤1000000)(hl:A.length*k≤999999)(hk:k<2^62):
  Con Try.prog 89 false [.sl A.length (qc A),.v (.int .i64 k)] [] (afP (lim ((vl A)^k).toNat)):=by
 refine Con.of_aw Try.func89 rfl Try.ntmps89 (by simp) (by simp) (by simp) (W.sound ?_)
 show @W Try.prog 15 ⟨_⟩ ⟨fun x σ=>@qO _ _ _ ⟨_⟩ _ ⟨_⟩ x σ⟩ _ _
 simp(disch:=omega)only[go_sem]
 refine qG (JJ false 1 (by omega)).num (by simp(disch:=omega)only[go_sem]) ?_
 rintro r hs ⟨rfl,rfl,_⟩
 refine⟨by simp[qs],?_⟩
 simp(disch:=omega)only[go_sem]
 have hv:=q6 hA
 refine qf (fun i:Nat=>[(0,.sl A.length (qc A)),(5,.sl (lim ((vl A)^i).toNat).length (qc (lim ((vl A)^i).toNat))),(7,.v (.int .i64 k)),(8,.v (.int .i64 i))])
  (fun _=>[]) (fun i=>i≤k) (fun i=>k-i) 0 (by omega) (Le.lst [] _ _ rfl (by simp(disch:=omega)only[go_sem,Int.pow_zero,show(1:Int).toNat=1 from rfl]) (by simp(disch:=omega)only[go_sem])) ?_
 intro i hi
 simp(disch:=omega)only[go_sem]
 refine qd (fun h1=>?_) (fun h1=>?_)
 ·simp(disch:=omega)only[go_sem,h1]
  have hle:(lim ((vl A)^i).toNat).length≤1000000:=Nat.le_trans (ahJ hA i) (Nat.succ_le_succ (Nat.le_trans (Nat.mul_le_mul_left _ hi) hl))
  refine qG (JH false (lim ((vl A)^i).toNat) A (qX _) hA hle lA).num (by simp(disch:=omega)only[go_sem]) ?_
  rintro r hs ⟨rfl,rfl,_⟩
  refine⟨by simp[qs],?_⟩
  have e:vl (lim ((vl A)^i).toNat)*vl A=(vl A)^(i+1):=by
   rw[qQ,Int.toNat_of_nonneg (Int.pow_nonneg hv),Int.pow_succ]
  rw[e]
  simp(disch:=omega)only[go_sem]
  refine qe (i+1) [] (by omega) (by show k-(i+1)<k-i;omega) rfl (by simp(disch:=omega)only[go_sem];try omega) (by simp(disch:=omega)only[go_sem])
 ·simp(disch:=omega)only[go_sem,h1]
  have:i=k:=by omega
  subst this
  refine qb [] [] [] [.sl (lim ((vl A)^i).toNat).length (qc (lim ((vl A)^i).toNat))] rfl (by simp(disch:=omega)only[go_sem]) (by simp(disch:=omega)only[go_sem]) (by simp) (by simp) ⟨rfl,rfl,rfl⟩
end Go.Ab
namespace Go.Ab
open Go Go.Proofs
theorem abo(cl:Bool)(A B:List Int)(hA:gd A)(hB:gd B)(lA:A.length≤1000000)(lB:B.length≤A.length)(hle:vl B≤vl A):
  Con Try.prog 87 cl [.sl A.length (qc A),.sl B.length (qc B)] [] (adF (lim (vl A-vl B).toNat)):=by
 refine Con.of_aw Try.func87 rfl Try.ntmps87 (by simp) (by simp) (by simp) (W.sound ?_)
 show @W Try.prog 43 ⟨_⟩ ⟨fun x σ=>@qO _ _ _ ⟨_⟩ _ ⟨_⟩ x σ⟩ _ _
 simp(disch:=omega)only[go_sem]
 refine⟨by omega,?_⟩
 refine qf (fun x:Nat×List Int×Int=>[(1,.sl B.length (qc B)),(5,.rf 1 0 x.2.1.length),(6,.v (.int .i64 x.2.2)),(12,.sl A.length (qc A)),(13,.v (.int .i64 A.length)),(14,.v (.int .i64 x.1))])
  (fun x=>[(1,.own 1 (qc x.2.1))])
  (fun x=>x.1≤A.length∧x.2.1.length=x.1∧gd x.2.1∧(0≤x.2.2∧x.2.2≤1)∧vl x.2.1-65536^x.1*x.2.2=vl (A.take x.1)-vl (B.take x.1))
  (fun x=>A.length-x.1) (0,[],0) ⟨by simp,rfl,aaR,by simp,by simp[vl]⟩
  (Le.lst [(1,130000000)] _ _ rfl (by simp(disch:=omega)only[go_sem]) (by simp(disch:=omega)only[go_sem])) ?_
 rintro⟨i,out,bo⟩ ⟨hi,hol,hog,hbo,hov⟩
 dsimp only at hi hol hog hbo hov ⊢
 simp(disch:=omega)only[go_sem]
 refine qd (fun h1=>?_) (fun h1=>?_)
 ·have hx:=zd hA i
  have hy:=zd hB i
  have hstep:∀z b:Int,A.getD i 0-bo-B.getD i 0=z-65536*b→vl (out++[z])-65536^(i+1)*b=vl (A.take (i+1))-vl (B.take (i+1)):=by
   intro z b hz
   rw[yJ,jD,jD,hol,Int.pow_succ]
   generalize (65536:Int)^i=Pi at*
   grind
  have hyz:¬i<B.length→B.getD i 0=0:=fun h=>by rw[List.getD_eq_getElem?_getD,List.getElem?_eq_none (by omega)];rfl
  simp(disch:=omega)only[go_sem,h1]
  refine⟨by omega,by omega,qd (fun h2=>?_) (fun h2=>?_)⟩
  ·simp(disch:=omega)only[go_sem,h2]
   refine⟨by omega,by omega,qd (fun h3=>?_) (fun h3=>?_)⟩
   ·simp(disch:=omega)only[go_sem,h3]
    refine⟨by omega,qe (i+1,out++[A.getD i 0-bo-B.getD i 0+65536],1) [(1,410000000)] ⟨by show i+1≤_;omega,by simp[hol],q8.2 ⟨hog,yr.2 (by omega)⟩,by simp,hstep (A.getD i 0-bo-B.getD i 0+65536) 1 (by omega)⟩ (by show A.length-(i+1)<A.length-i;omega) rfl (by simp(disch:=omega)only[go_sem,List.length_append];try omega) (by simp(disch:=omega)only[go_sem])⟩
   ·simp(disch:=omega)only[go_sem,h3]
    refine⟨by omega,qe (i+1,out++[A.getD i 0-bo-B.getD i 0],0) [(1,410000000)] ⟨by show i+1≤_;omega,by simp[hol],q8.2 ⟨hog,yr.2 (by omega)⟩,by simp,hstep (A.getD i 0-bo-B.getD i 0) 0 (by omega)⟩ (by show A.length-(i+1)<A.length-i;omega) rfl (by simp(disch:=omega)only[go_sem,List.length_append];try omega) (by simp(disch:=omega)only[go_sem])⟩
  ·simp(disch:=omega)only[go_sem,h2]
   refine qd (fun h3=>?_) (fun h3=>?_)
   ·simp(disch:=omega)only[go_sem,h3]
    have hy0:=hyz (by omega)
    refine⟨by omega,qe (i+1,out++[A.getD i 0-bo+65536],1) [(1,410000000)] ⟨by show i+1≤_;omega,by simp[hol],q8.2 ⟨hog,yr.2 (by omega)⟩,by simp,hstep (A.getD i 0-bo+65536) 1 (by omega)⟩ (by show A.length-(i+1)<A.length-i;omega) rfl (by simp(disch:=omega)only[go_sem,List.length_append];try omega) (by simp(disch:=omega)only[go_sem])⟩
   ·simp(disch:=omega)only[go_sem,h3]
    have hy0:=hyz (by omega)
    refine⟨by omega,qe (i+1,out++[A.getD i 0-bo],0) [(1,410000000)] ⟨by show i+1≤_;omega,by simp[hol],q8.2 ⟨hog,yr.2 (by omega)⟩,by simp,hstep (A.getD i 0-bo) 0 (by omega)⟩ (by show A.length-(i+1)<A.length-i;omega) rfl (by simp(disch:=omega)only[go_sem,List.length_append];try omega) (by simp(disch:=omega)only[go_sem])⟩
 ·simp(disch:=omega)only[go_sem,h1]
  have hiA:i=A.length:=by omega
  subst hiA
  rw[List.take_length,List.take_of_length_le lB]at hov
  have hb0:bo=0:=by
   have h2:=XK hog
   rw[hol]at h2
   rcases(by omega:bo=0∨bo=1)with h|h
   ·exact h
   ·subst h;omega
  subst hb0
  have hov2:vl out=vl A-vl B:=by omega
  refine zj false [1] (j1 out (by omega)) (by simp(disch:=omega)only[go_sem]) (by simp(disch:=omega)only[go_sem]) rfl (qR (z:=1) (cs:=qc out) (by simp(disch:=omega)only[go_sem]) (by simp(disch:=omega)only[go_sem])) (by intro n hn;exact⟨_,List.mem_singleton.2 rfl,by rw[List.mem_singleton.1 hn];rfl⟩) ?_
  rintro r hs bs ⟨rfl,rfl,rfl⟩ _
  refine⟨by simp[qs],?_⟩
  simp(disch:=omega)only[go_sem]
  obtain⟨z,hz⟩:=zV out
  have hc:=ju hog
  rw[hov2]at hc
  rw[hc]at hz ⊢
  refine qb [(0,1)] [.own 1 (qc out)] [] [.rf 0 0 (lim (vl A-vl B).toNat).length] rfl (by simp(disch:=omega)only[go_sem]) (by simp(disch:=omega)only[go_sem]) (by simp) (by intro _;simp[qN,AV.pu,AV.pu.puL,Ob.pu,qT]) (.inr ⟨List.replicate z 0,rfl,by rw[←hz]⟩)
end Go.Ab
namespace Go.Ab
theorem aeO:∀(k a b:Nat),a≠0→b<10^k→dg (a*10^k+b)=dgf b k++dg a:=by
 intro k
 induction k with
 |zero=>
  intro a b ha hb
  have:b=0:=by simpa using hb
  subst this;simp[dgf]
 |succ k ih=>
  intro a b ha hb
  have hp:0<10^k:=Nat.pow_pos (by omega)
  have h0:a*10^(k+1)+b≠0:=by
   have:0<a*10^(k+1):=Nat.mul_pos (Nat.pos_of_ne_zero ha) (Nat.pow_pos (by omega))
   omega
  have e1:(a*10^(k+1)+b)/10=a*10^k+b/10:=by
   rw[Nat.pow_succ,←Nat.mul_assoc];omega
  have e2:dgb (a*10^(k+1)+b)=dgb b:=by
   unfold dgb
   rw[Nat.pow_succ,←Nat.mul_assoc]
   congr 1;omega
  rw[QY h0,e1,e2,ih a (b/10) ha (by rw[Nat.pow_succ]at hb;omega),dgf]
  rfl
theorem YC{k b:Nat}(hk:1≤k)(hb:b<10^k):(dgf b k).reverse=List.replicate (k-(txt b).length) 48++txt b∧(txt b).length≤k:=by
 have h0:b/10^k=0:=Nat.div_eq_of_lt hb
 by_cases hb0:b=0
 ·subst hb0
  rw[Xu,List.reverse_replicate]
  have e:txt 0=[48]:=rfl
  rw[e]
  refine⟨?_,hk⟩
  obtain⟨j,rfl⟩:∃j,k=j+1:=⟨k-1,by omega⟩
  rw[show j+1- [(48:UInt8)].length=j by simp,←List.replicate_succ']
 ·have e:txt b=(dg b).reverse:=by unfold txt;rw[if_neg hb0]
  have hl:=af0 k b hb
  rw[afZ k b h0,e,List.reverse_append,List.reverse_replicate,List.length_reverse]
  exact⟨rfl,hl⟩
theorem K8{k a b:Nat}(hk:1≤k)(hb:b<10^k):
  ptT k (Vc k (txt (a*10^k+b)))=txt a++46::(List.replicate (k-(txt b).length) 48++txt b):=by
 obtain⟨h1,h2⟩:=YC hk hb
 have hkl:(List.replicate (k-(txt b).length) (48:UInt8)++txt b).length=k:=by rw[List.length_append,List.length_replicate];omega
 have key:Vc k (txt (a*10^k+b))=txt a++(List.replicate (k-(txt b).length) 48++txt b):=by
  by_cases ha:a=0
  ·subst ha
   rw[Nat.zero_mul,Nat.zero_add]
   have e:txt 0=[48]:=rfl
   rw[e]
   unfold Vc
   rw[show k+1-(txt b).length=(k-(txt b).length)+1 by omega,List.replicate_succ]
   rfl
  ·have hp:0<10^k:=Nat.pow_pos (by omega)
   have h0:a*10^k+b≠0:=by
    have:0<a*10^k:=Nat.mul_pos (Nat.pos_of_ne_zero ha) hp
    omega
   have e1:txt (a*10^k+b)=txt a++(List.replicate (k-(txt b).length) 48++txt b):=by
    rw[←h1]
    unfold txt
    rw[if_neg h0,if_neg ha,aeO k a b ha hb,List.reverse_append]
   rw[e1]
   unfold Vc
   have:=yK a
   rw[show k+1-(txt a++(List.replicate (k-(txt b).length) (48:UInt8)++txt b)).length=0 by rw[List.length_append,hkl];omega]
   rfl
 rw[key]
 unfold ptT
 have e2:(txt a++(List.replicate (k-(txt b).length) 48++txt b)).length-k=(txt a).length:=by rw[List.length_append,hkl];omega
 rw[e2,List.take_left,List.drop_left]
end Go.Ab
namespace Go.Ab
open Go Go.Proofs
theorem Qg(a b:Nat)(la:(lim a).length≤1000000)(lb:b≤a):Con Try.prog 87 false [.sl (lim (a)).length (qc (lim (a))),.sl (lim (b)).length (qc (lim (b)))] [] (afP (lim (a-b))):=by
 have h1:(lim b).length≤(lim a).length:=jK.2 (Nat.lt_of_le_of_lt lb (aax a))
 have:=(abo false (lim a) (lim b) (qX a) (qX b) la h1 (by rw[qQ,qQ];omega)).num
 rw[qQ,qQ]at this
 have e:((a:Int)-(b:Int)).toNat=a-b:=by omega
 rwa[e]at this
theorem Q3(a k:Nat)(la:(lim a).length≤1000)(hk:k≤900):Con Try.prog 89 false [.sl (lim (a)).length (qc (lim (a))),.v (.int .i64 k)] [] (afP (lim (a^k))):=by
 have:=abm (lim a) k (qX a) (by omega) (Nat.le_trans (Nat.mul_le_mul la hk) (by omega)) (by omega)
 rw[qQ]at this
 have e:((a:Int)^k).toNat=a^k:=by rw[←Int.natCast_pow,Int.toNat_natCast]
 rwa[e]at this
theorem Qf(s:Bool)(t zs:List UInt8)(hl:t.length≤1000000):Con Try.prog 83 false [.v (.bool s),.rf 10000000 0 t.length] [.own 1 (qa (t++zs))]
  (fun r hs bs=>bs=[.own 1 (qa (t++zs))]∧((s=false∧r=.rf 10000000 0 t.length∧hs=[])∨(s=true∧r=.rf 0 0 (45::t).length∧hs=[.own 1 (qa (45::t))]))):=by
 cases s
 ·refine Con.of_aw Try.func83 rfl Try.ntmps83 (by simp) (by simp) (by simp) (W.sound ?_)
  show @W Try.prog 11 ⟨_⟩ ⟨fun x σ=>@qO _ _ _ ⟨_⟩ _ ⟨_⟩ x σ⟩ _ _
  simp(disch:=omega)only[go_sem]
  exact qb [] [] [.own 1 (qa (t++zs))] [.rf 10000000 0 t.length] rfl (by simp(disch:=omega)only[go_sem]) (by simp(disch:=omega)only[go_sem]) (by simp) (by simp) ⟨rfl,.inl ⟨rfl,rfl,rfl⟩⟩
 ·refine Con.of_aw Try.func83 rfl Try.ntmps83 (by simp) (by simp) (by simp) (W.sound ?_)
  show @W Try.prog 11 ⟨_⟩ ⟨fun x σ=>@qO _ _ _ ⟨_⟩ _ ⟨_⟩ x σ⟩ _ _
  simp(disch:=omega)only[go_sem]
  refine qH (z:=1) (cs:=qa [45]) trivial ⟨_,tf5,rfl⟩ (by simp(disch:=omega)only[go_sem,qV];rfl) (by omega) ?_
  have et:(t++zs).take t.length=t:=List.take_left
  simp(disch:=omega)only[go_sem,et]
  refine⟨by rw[List.length_append];omega,by omega,?_⟩
  exact qb [(0,110000000)] [.own 1 (qa (45::t))] [.own 1 (qa (t++zs))] [.rf 0 0 (1+t.length)] rfl (by simp(disch:=omega)only[go_sem]) (by simp(disch:=omega)only[go_sem];try rfl) (by simp) (by simp) ⟨rfl,.inr ⟨rfl,by rw[List.length_cons,Nat.add_comm];rfl,rfl⟩⟩
theorem YN(s:Bool)(m u:Nat)(hm:bl m≤2000)(he:u≤4000):Con Try.prog 67 false [.ag [.v (.bool (s)),.sl (lim (m)).length (qc (lim (m))),.v (.int .i64 ((u:Int)))]] [] (afh (yt s m u)):=by
 refine Con.frzA ?_
 have hl:=qI hm
 obtain⟨k,hk⟩:∃k:Nat,k=0:=⟨_,rfl⟩
 have b1:(if 0>0-(u:Int)then 0 else 0-(u:Int))=(k:Int):=by split<;>omega
 have b2:(if 0>(u:Int)then 0 else(u:Int))=(u:Int):=by split<;>omega
 refine Con.of_aw Try.func67 rfl Try.ntmps67 (by simp) (by simp) (by simp) (W.sound ?_)
 show @W Try.prog 59 ⟨_⟩ ⟨fun x σ=>@qO _ _ _ ⟨_⟩ _ ⟨_⟩ x σ⟩ _ _
 simp(disch:=omega)only[go_sem]
 refine qu rfl [⟨0,[],[]⟩,⟨1,[],[]⟩,⟨2,[],[]⟩,⟨3,[],[]⟩,⟨4,[3],[]⟩,⟨5,[3],[]⟩,⟨6,[3],[]⟩,⟨7,[3],[]⟩,⟨8,[5],[]⟩,⟨9,[],[]⟩] (by kernel_rfl) ?_
 simp(disch:=omega)only[go_sem]
 refine qu rfl [⟨0,[],[]⟩,⟨1,[],[]⟩,⟨2,[],[]⟩,⟨3,[2],[]⟩,⟨4,[2],[]⟩,⟨5,[2],[]⟩,⟨6,[2],[]⟩,⟨8,[2,5],[]⟩,⟨7,[2],[]⟩,⟨9,[2],[]⟩,⟨10,[2],[]⟩,⟨11,[],[]⟩,⟨12,[],[]⟩] (by kernel_rfl) ?_
 simp(disch:=omega)only[go_sem,b1,b2]
 refine qi (zt m u (by omega) (by omega)) ?_ (by simp(disch:=omega)only[go_sem,b1,b2])
 simp(disch:=omega)only[go_sem]
 have hbu:=JX m u
 have lu:=qI (m:=m*2^u) (B:=10000) (by omega)
 refine qi (j3 (m*2^u) k (by omega) (by omega)) ?_ (by simp(disch:=omega)only[go_sem,b1,b2])
 simp(disch:=omega)only[go_sem]
 have hbq:=jw (m*2^u) (2^k)
 refine qi (zW (m*2^u/2^k) (by omega)) ?_
 simp(disch:=omega)only[go_sem]
 have htq:=ja (m:=m*2^u/2^k) (B:=10000) (by omega) (by omega)
 refine qi (QA s (txt (m*2^u/2^k)) (by omega)) ?_
 simp(disch:=omega)only[go_sem]
 subst hk
 refine qd (fun h1=>?_) (fun h1=>?_)
 ·simp(disch:=omega)only[go_sem,h1]
  have ed:yt s m u=if s then 45::txt (m*2^u/2^0)else txt (m*2^u/2^0):=by
   unfold yt
   rw[if_pos (by omega),Int.toNat_natCast,Nat.pow_zero,Nat.div_one]
   cases s<;>rfl
  rw[ed]
  refine q5 (by simp(disch:=omega)only[go_sem]) ?_
  show qx _ 6 (.sl _ _)=_
  simp(disch:=omega)only[go_sem,zf]
 ·omega
theorem YM(s:Bool)(m k:Nat)(hm:bl m≤2000)(he:1≤k∧k≤200):Con Try.prog 67 false [.ag [.v (.bool (s)),.sl (lim (m)).length (qc (lim (m))),.v (.int .i64 ((-(k:Int))))]] [] (afh (yt s m (-(k:Int)))):=by
 refine Con.byt ?_
 have hl:=qI hm
 obtain⟨u,hu⟩:∃u:Nat,u=0:=⟨_,rfl⟩
 have b1:(if 0>0- -(k:Int)then 0 else 0- -(k:Int))=(k:Int):=by split<;>omega
 have b2:(if 0> -(k:Int)then 0 else-(k:Int))=(u:Int):=by split<;>omega
 refine Con.of_aw Try.func67 rfl Try.ntmps67 (by simp) (by simp) (by simp) (W.sound ?_)
 show @W Try.prog 59 ⟨_⟩ ⟨fun x σ=>@qO _ _ _ ⟨_⟩ _ ⟨_⟩ x σ⟩ _ _
 simp(disch:=omega)only[go_sem]
 refine qu rfl [⟨0,[],[]⟩,⟨1,[],[]⟩,⟨2,[],[]⟩,⟨3,[],[]⟩,⟨4,[3],[]⟩,⟨5,[3],[]⟩,⟨6,[3],[]⟩,⟨7,[3],[]⟩,⟨8,[5],[]⟩,⟨9,[],[]⟩] (by kernel_rfl) ?_
 simp(disch:=omega)only[go_sem]
 refine qu rfl [⟨0,[],[]⟩,⟨1,[],[]⟩,⟨2,[],[]⟩,⟨3,[2],[]⟩,⟨4,[2],[]⟩,⟨5,[2],[]⟩,⟨6,[2],[]⟩,⟨8,[2,5],[]⟩,⟨7,[2],[]⟩,⟨9,[2],[]⟩,⟨10,[2],[]⟩,⟨11,[],[]⟩,⟨12,[],[]⟩] (by kernel_rfl) ?_
 simp(disch:=omega)only[go_sem,b1,b2]
 refine qi (zt m u (by omega) (by omega)) ?_ (by simp(disch:=omega)only[go_sem,b1,b2])
 simp(disch:=omega)only[go_sem]
 have hbu:=JX m u
 have lu:=qI (m:=m*2^u) (B:=10000) (by omega)
 refine qi (j3 (m*2^u) k (by omega) (by omega)) ?_ (by simp(disch:=omega)only[go_sem,b1,b2])
 simp(disch:=omega)only[go_sem]
 have hbq:=jw (m*2^u) (2^k)
 refine qh (yv true (m*2^u/2^k) (by omega)) (by simp(disch:=omega)only[go_sem]) ?_
 rintro r hs (⟨h0,_,_⟩|⟨zs,rfl,rfl⟩)
 ·exact absurd h0 (ZW _)
 refine⟨⟨by simp,by simp(disch:=omega)only[go_sem]⟩,?_⟩
 simp(disch:=omega)only[go_sem]
 have htq:=ja (m:=m*2^u/2^k) (B:=10000) (by omega) (by omega)
 have hQ:m*2^u/2^k=m/2^k:=by rw[hu,Nat.pow_zero,Nat.mul_one]
 refine zj false [280000000] (Qf s (txt (m*2^u/2^k)) zs (by omega)) (by simp(disch:=omega)only[go_sem]) (by simp(disch:=omega)only[go_sem]) rfl (qR (z:=1) (cs:=qa (txt (m*2^u/2^k)++zs)) (by simp(disch:=omega)only[go_sem]) (by simp(disch:=omega)only[go_sem])) (by intro n hn;exact⟨_,List.mem_cons_of_mem _ (List.mem_singleton.2 rfl),by rw[List.mem_singleton.1 hn];rfl⟩) ?_
 rintro r hs bs ⟨rfl,(⟨rfl,rfl,rfl⟩|⟨rfl,rfl,rfl⟩)⟩ _
 ·refine⟨by simp[qs],?_⟩
  simp(disch:=omega)only[go_sem]
  subst hu
  refine qd (fun h1=>?_) (fun h1=>?_)
  ·omega
  ·simp(disch:=omega)only[go_sem,h1]
   rw[Nat.pow_zero,Nat.mul_one]at*
   have hbm:=jw m (2^k)
   have lq:=qI (m:=m/2^k) (B:=2000) (by omega)
   refine qi (j3 m k (by omega) (by omega)) ?_
   simp(disch:=omega)only[go_sem]
   refine qi (zt (m/2^k) k (by omega) (by omega)) ?_
   simp(disch:=omega)only[go_sem]
   refine qi (Qg m (m/2^k*2^k) (by omega) (Nat.div_mul_le_self _ _)) ?_
   simp(disch:=omega)only[go_sem]
   have hr:m-m/2^k*2^k=m % 2^k:=by have:=Nat.div_add_mod' m (2^k);omega
   have hrl:m % 2^k<2^k:=Nat.mod_lt _ (Nat.pow_pos (by omega))
   rw[hr]
   generalize hrr:m % 2^k=r at*
   have hrb:bl r≤k:=z7.2 hrl
   have lr:=qI hrb
   have l5:(lim 5).length≤1000:=by have:=qI (m:=5) (B:=3) (by decide);omega
   have b5:bl (5^k)≤3*k:=by
    rcases yR k with h|h
    ·exact z7.2 h
    ·omega
   have l5k:=qI b5
   have brk:=j6 r (5^k)
   have hb10:r*5^k<10^k:=by
    have:(10:Nat)^k=2^k*5^k:=by rw[←Nat.mul_pow]
    rw[this]
    exact Nat.mul_lt_mul_of_pos_right hrl (Nat.pow_pos (by omega))
   have hpt:=K8 (k:=k) (a:=m/2^k) (b:=r*5^k) he.1 hb10
   obtain⟨_,hDl⟩:=YC he.1 hb10
   have hDp:=yK (r*5^k)
   have hm5:m*5^k=m/2^k*10^k+r*5^k:=by
    have e10:(10:Nat)^k=2^k*5^k:=by rw[←Nat.mul_pow]
    have e11:=Nat.div_add_mod' m (2^k)
    rw[hrr]at e11
    rw[e10,←Nat.mul_assoc,←Nat.add_mul,e11]
   have ed:yt false m (-(k:Int))=(txt (m/2^k))++46::(List.replicate (k-(txt (r*5^k)).length) 48++txt (r*5^k)):=by
    unfold yt
    rw[if_neg (by omega),show(- -(k:Int)).toNat=k by omega,hm5,hpt]
    rfl
   refine qi (Q1 5 (by omega)) ?_
   simp(disch:=omega)only[go_sem]
   refine qi (Q3 5 k l5 (by omega)) ?_
   simp(disch:=omega)only[go_sem]
   refine qi (Q0 r (5^k) (by omega) (by omega)) ?_
   simp(disch:=omega)only[go_sem]
   refine qi (zW (r*5^k) (by omega)) ?_
   simp(disch:=omega)only[go_sem]
   rw[ed]
   have etW:(((txt (m/2^k)):List UInt8)++zs).take ((txt (m/2^k)):List UInt8).length=(txt (m/2^k)):=List.take_left
   generalize txt (r*5^k)=D at*
   have eK:(k:Int)-(D.length:Int)=((k-D.length:Nat):Int):=by omega
   refine⟨⟨by rw[List.length_append];omega,by omega⟩,?_⟩
   refine qH (z:=1) (cs:=qa [48]) trivial ⟨_,tf5,rfl⟩ (by simp(disch:=omega)only[go_sem,qV];rfl) (by omega) ?_
   simp(disch:=omega)only[go_sem,etW]
   refine qh (Q2 (k-D.length) (by omega)) (by simp(disch:=omega)only[go_sem,eK];try rfl) ?_
   rintro r hs (⟨h0,rfl,rfl⟩|⟨z3,rfl,rfl⟩)
   ·refine⟨⟨by simp,by simp(disch:=omega)only[go_sem]⟩,?_⟩
    simp(disch:=omega)only[go_sem]
    generalize txt (m/2^k)=X at*
    have e46:([.v (.int .u8 46)]:List AV)=qa [46]:=rfl
    have e8:X.take X.length=X:=List.take_length
    have e9:(X++[46]).take (X.length+1)=X++[46]:=List.take_of_length_le (by simp)
    rw[h0,List.nil_append]
    simp only[e46,qK,q9,qo,List.drop_zero,e8,e9]
    have eR:X++46::D=(X++[46]++D):=by simp
    have eN:(X++[46]++D).length=(X.length+1+D.length):=by simp;omega
    rw[eR]
    refine⟨⟨by simp,by omega⟩,⟨by simp,by omega⟩,?_⟩
    refine qb [(0,600000000)] [.own 1 (qa ((X++[46]++D)++[]))] [] [.rf 0 0 (X.length+1+D.length)] rfl (by simp(disch:=omega)only[go_sem]) (by simp(disch:=omega)only[go_sem,List.append_nil]) (by simp) (by intro _;simp[qN,AV.pu,Ob.pu,qL]) (.inr ⟨[],by rw[eN];rfl,rfl⟩)
   ·refine⟨⟨by simp,by simp(disch:=omega)only[go_sem]⟩,?_⟩
    simp(disch:=omega)only[go_sem]
    generalize txt (m/2^k)=X at*
    have e46:([.v (.int .u8 46)]:List AV)=qa [46]:=rfl
    have e8:X.take X.length=X:=List.take_length
    have e9:(X++[46]).take (X.length+1)=X++[46]:=List.take_of_length_le (by simp)
    have hZl:(List.replicate (k-D.length) (48:UInt8)).length≤200:=by rw[List.length_replicate];omega
    generalize List.replicate (k-D.length) (48:UInt8)=Z at*
    have eZ:(Z++z3).take Z.length=Z:=List.take_left
    have e10:(X++[46]++Z).take (X.length+1+Z.length)=X++[46]++Z:=List.take_of_length_le (by simp;omega)
    simp only[e46,qK,q9,qo,List.drop_zero,e8,e9,eZ,e10]
    have eR:X++46::(Z++D)=(X++[46]++Z++D):=by simp
    have eN:(X++[46]++Z++D).length=(X.length+1+Z.length+D.length):=by simp;omega
    rw[eR]
    refine⟨by rw[List.length_append];omega,⟨by simp,by omega⟩,⟨by simp;omega,by omega⟩,?_⟩
    refine qb [(0,600000000)] [.own 1 (qa ((X++[46]++Z++D)++[]))] [] [.rf 0 0 (X.length+1+Z.length+D.length)] rfl (by simp(disch:=omega)only[go_sem]) (by simp(disch:=omega)only[go_sem,List.append_nil]) (by simp) (by intro _;simp[qN,AV.pu,Ob.pu,qL]) (.inr ⟨[],by rw[eN];rfl,rfl⟩)
 ·refine⟨⟨by simp,by simp(disch:=omega)only[go_sem],by simp⟩,?_⟩
  simp(disch:=omega)only[go_sem]
  subst hu
  refine qd (fun h1=>?_) (fun h1=>?_)
  ·omega
  ·simp(disch:=omega)only[go_sem,h1]
   rw[Nat.pow_zero,Nat.mul_one]at*
   have hbm:=jw m (2^k)
   have lq:=qI (m:=m/2^k) (B:=2000) (by omega)
   refine qi (j3 m k (by omega) (by omega)) ?_
   simp(disch:=omega)only[go_sem]
   refine qi (zt (m/2^k) k (by omega) (by omega)) ?_
   simp(disch:=omega)only[go_sem]
   refine qi (Qg m (m/2^k*2^k) (by omega) (Nat.div_mul_le_self _ _)) ?_
   simp(disch:=omega)only[go_sem]
   have hr:m-m/2^k*2^k=m % 2^k:=by have:=Nat.div_add_mod' m (2^k);omega
   have hrl:m % 2^k<2^k:=Nat.mod_lt _ (Nat.pow_pos (by omega))
   rw[hr]
   generalize hrr:m % 2^k=r at*
   have hrb:bl r≤k:=z7.2 hrl
   have lr:=qI hrb
   have l5:(lim 5).length≤1000:=by have:=qI (m:=5) (B:=3) (by decide);omega
   have b5:bl (5^k)≤3*k:=by
    rcases yR k with h|h
    ·exact z7.2 h
    ·omega
   have l5k:=qI b5
   have brk:=j6 r (5^k)
   have hb10:r*5^k<10^k:=by
    have:(10:Nat)^k=2^k*5^k:=by rw[←Nat.mul_pow]
    rw[this]
    exact Nat.mul_lt_mul_of_pos_right hrl (Nat.pow_pos (by omega))
   have hpt:=K8 (k:=k) (a:=m/2^k) (b:=r*5^k) he.1 hb10
   obtain⟨_,hDl⟩:=YC he.1 hb10
   have hDp:=yK (r*5^k)
   have hm5:m*5^k=m/2^k*10^k+r*5^k:=by
    have e10:(10:Nat)^k=2^k*5^k:=by rw[←Nat.mul_pow]
    have e11:=Nat.div_add_mod' m (2^k)
    rw[hrr]at e11
    rw[e10,←Nat.mul_assoc,←Nat.add_mul,e11]
   have ed:yt true m (-(k:Int))=(45::txt (m/2^k))++46::(List.replicate (k-(txt (r*5^k)).length) 48++txt (r*5^k)):=by
    unfold yt
    rw[if_neg (by omega),show(- -(k:Int)).toNat=k by omega,hm5,hpt]
    rfl
   refine qi (Q1 5 (by omega)) ?_
   simp(disch:=omega)only[go_sem]
   refine qi (Q3 5 k l5 (by omega)) ?_
   simp(disch:=omega)only[go_sem]
   refine qi (Q0 r (5^k) (by omega) (by omega)) ?_
   simp(disch:=omega)only[go_sem]
   refine qi (zW (r*5^k) (by omega)) ?_
   simp(disch:=omega)only[go_sem]
   rw[ed]
   have etW:(((45::txt (m/2^k)):List UInt8)++[]).take ((45::txt (m/2^k)):List UInt8).length=(45::txt (m/2^k)):=List.take_left
   generalize txt (r*5^k)=D at*
   have eK:(k:Int)-(D.length:Int)=((k-D.length:Nat):Int):=by omega
   refine⟨by omega,?_⟩
   refine qH (z:=1) (cs:=qa [48]) trivial ⟨_,tf5,rfl⟩ (by simp(disch:=omega)only[go_sem,qV];rfl) (by omega) ?_
   simp(disch:=omega)only[go_sem,etW]
   refine qh (Q2 (k-D.length) (by omega)) (by simp(disch:=omega)only[go_sem,eK];try rfl) ?_
   rintro r hs (⟨h0,rfl,rfl⟩|⟨z3,rfl,rfl⟩)
   ·refine⟨⟨by simp,by simp(disch:=omega)only[go_sem]⟩,?_⟩
    simp(disch:=omega)only[go_sem]
    generalize txt (m/2^k)=X at*
    have e46:([.v (.int .u8 46)]:List AV)=qa [46]:=rfl
    have e8:(45::X).take (X.length+1)=45::X:=List.take_of_length_le (by simp)
    have e9:((45::X)++[46]).take (X.length+1+1)=(45::X)++[46]:=List.take_of_length_le (by simp)
    rw[h0,List.nil_append]
    simp only[e46,qK,q9,qo,List.drop_zero,e8,e9]
    have eR:(45::X)++46::D=((45::X)++[46]++D):=by simp
    have eN:((45::X)++[46]++D).length=(X.length+2+D.length):=by simp;omega
    rw[eR]
    refine⟨⟨by simp,by omega⟩,⟨by simp,by omega⟩,?_⟩
    refine qb [(0,600000000)] [.own 1 (qa (((45::X)++[46]++D)++[]))] [] [.rf 0 0 (X.length+2+D.length)] rfl (by simp(disch:=omega)only[go_sem]) (by simp(disch:=omega)only[go_sem,List.append_nil]) (by simp) (by intro _;simp[qN,AV.pu,Ob.pu,qL]) (.inr ⟨[],by rw[eN];rfl,rfl⟩)
   ·refine⟨⟨by simp,by simp(disch:=omega)only[go_sem]⟩,?_⟩
    simp(disch:=omega)only[go_sem]
    generalize txt (m/2^k)=X at*
    have e46:([.v (.int .u8 46)]:List AV)=qa [46]:=rfl
    have e8:(45::X).take (X.length+1)=45::X:=List.take_of_length_le (by simp)
    have e9:((45::X)++[46]).take (X.length+1+1)=(45::X)++[46]:=List.take_of_length_le (by simp)
    have hZl:(List.replicate (k-D.length) (48:UInt8)).length≤200:=by rw[List.length_replicate];omega
    generalize List.replicate (k-D.length) (48:UInt8)=Z at*
    have eZ:(Z++z3).take Z.length=Z:=List.take_left
    have e10:((45::X)++[46]++Z).take (X.length+1+1+Z.length)=(45::X)++[46]++Z:=List.take_of_length_le (by simp;omega)
    simp only[e46,qK,q9,qo,List.drop_zero,e8,e9,eZ,e10]
    have eR:(45::X)++46::(Z++D)=((45::X)++[46]++Z++D):=by simp
    have eN:((45::X)++[46]++Z++D).length=(X.length+2+Z.length+D.length):=by simp;omega
    rw[eR]
    refine⟨by rw[List.length_append];omega,⟨by simp,by omega⟩,⟨by simp;omega,by omega⟩,?_⟩
    refine qb [(0,600000000)] [.own 1 (qa (((45::X)++[46]++Z++D)++[]))] [] [.rf 0 0 (X.length+2+Z.length+D.length)] rfl (by simp(disch:=omega)only[go_sem]) (by simp(disch:=omega)only[go_sem,List.append_nil]) (by simp) (by intro _;simp[qN,AV.pu,Ob.pu,qL]) (.inr ⟨[],by rw[eN];rfl,rfl⟩)
end Go.Ab
namespace Go.Ab
open Go Go.Proofs
theorem Qd(n lo hi:Int):Con Try.prog 51 true [.v (.int .i64 n),.v (.int .i64 lo),.v (.int .i64 hi)] [] (isA (.v (.bool (decide (lo≤n)&&decide (n≤hi))))):=YD n lo hi
theorem XA(s:Bool)(xs:List Int)(e:Int)(hl:xs.length≤2^40):Con Try.prog 66 true [.ag [.v (.bool s),.sl xs.length (qc xs),.v (.int .i64 e)]] [] (isA (.v (.bool (dyB s xs e)))):=by
 refine Con.of_aw Try.func66 rfl Try.ntmps66 (by simp) (by simp) (by simp) (W.sound ?_)
 show @W Try.prog 32 ⟨_⟩ ⟨fun x σ=>@qO _ _ _ ⟨_⟩ _ ⟨_⟩ x σ⟩ _ _
 simp(disch:=omega)only[go_sem]
 refine qg (YE s xs hl) ?_
 simp(disch:=omega)only[go_sem]
 refine y4 (fun hw=>?_) (fun h1=>?_)
 ·have h1:=hw
  simp only[jz,Bool.and_eq_true]at h1
  obtain⟨hx,hll⟩:=Zq h1.1
  have hxs:xs=lim (vl xs).toNat:=hx
  generalize hm:(vl xs).toNat=m at*
  subst hx
  simp(disch:=omega)only[go_sem,hw]
  refine qg (Qd e (-3000) 3000) ?_
  simp(disch:=omega)only[go_sem]
  refine aaP (fun h2=>?_) (fun h2=>?_)
  ·simp(disch:=omega)only[go_sem,h2]
   refine qk (by simp(disch:=omega)only[go_sem]) (by simp(disch:=omega)only[go_sem]) ⟨?_,rfl,rfl⟩
   simp[qN,dyB,hw,h2]
  ·simp(disch:=omega)only[go_sem,h2]
   refine qg (abB m 0 (by omega) (by omega) (by omega)) ?_
   simp(disch:=omega)only[go_sem]
   refine zU (fun h3=>?_) (fun h3=>?_)
   ·have h3':¬m % 2=1:=fun h=>h3 (by simp;omega)
    simp(disch:=omega)only[go_sem,h3]
    refine qd (fun h4=>?_) (fun h4=>?_)
    ·simp(disch:=omega)only[go_sem,h4]
     refine qk (by simp(disch:=omega)only[go_sem]) (by simp(disch:=omega)only[go_sem]) ⟨?_,rfl,rfl⟩
     have h4':(lim m).length=0:=by omega
     simp[qN,dyB,hw,h2,hm,h3',h4']
    ·simp(disch:=omega)only[go_sem,h4]
     refine qk (by simp(disch:=omega)only[go_sem]) (by simp(disch:=omega)only[go_sem]) ⟨?_,rfl,rfl⟩
     have h4':¬(lim m).length=0:=by omega
     simp[qN,dyB,hw,h2,hm,h3',h4']
   ·have h3':m % 2=1:=by simp at h3;omega
    simp(disch:=omega)only[go_sem,h3]
    refine qk (by simp(disch:=omega)only[go_sem]) (by simp(disch:=omega)only[go_sem]) ⟨?_,rfl,rfl⟩
    simp[qN,dyB,hw,h2,hm,h3']
 ·simp(disch:=omega)only[go_sem,h1]
  refine qk (by simp(disch:=omega)only[go_sem]) (by simp(disch:=omega)only[go_sem]) ⟨?_,rfl,rfl⟩
  simp[qN,dyB,h1]
end Go.Ab
namespace Go.Ab
def ast(neg:Bool)(m k:Nat)(mode:Int):Bool:=
 if mode=1 then false else if mode=2 then !neg else if mode=3 then neg else if mode=4 then decide (m/2^(k-1) % 2=1)
 else decide (m/2^(k-1) % 2=1)&&(decide (tz m<k-1)||decide (m/2^k % 2=1))
/-! ### The normal form and rounding-/
end Go.Ab
namespace Go.Ab
open Go Go.Proofs
def srM(s:Bool)(m:Nat)(e low mode:Int):Nat:=oM (roM s m e low mode)
def srE(s:Bool)(m:Nat)(e low mode:Int):Int:=if low≤e∨m=0 then e else oE (roM s m e low mode) low
end Go.Ab
namespace Go.Ab
open Go Go.Proofs
theorem Qm(s:Bool)(m:Nat)(e:Int):Con Try.prog 57 false [.ag [.v (.bool (s)),.sl (lim (m)).length (qc (lim (m))),.v (.int .i64 (e))]] [] (isA (.ag [.v (.bool (s)),.sl (lim (m)).length (qc (lim (m))),.v (.int .i64 (e))])):=by
 refine Con.frzA ?_
 refine Con.of_w (rs:=[.cell 2 95]) Try.func57 rfl Try.ntmps57 rfl ?_
 simp(disch:=omega)only[go_sem]
 exact ye
def arU(mode:Int):Bool:=decide (0≤mode)&&decide (mode≤4)
def dyV:AV→AV:=id
end Go.Ab
namespace Go.Ab
open Go Go.Proofs
end Go.Ab
namespace Go.Ab
open Go Go.Proofs
theorem VH(xs:List Int)(hl:xs.length≤2^40):Con Try.prog 93 true [.ag [.sl xs.length (qc xs)]] [] (isA (.v (.bool (J1 xs)))):=by
 refine Con.of_aw Try.func93 rfl Try.ntmps93 (by simp) (by simp) (by simp) (W.sound ?_)
 show @W Try.prog 44 ⟨_⟩ ⟨fun x σ=>@qO _ _ _ ⟨_⟩ _ ⟨_⟩ x σ⟩ _ _
 simp(disch:=omega)only[go_sem]
 refine qd (fun h1=>?_) (fun h1=>?_)
 ·simp(disch:=omega)only[go_sem,h1]
  refine qk (by simp(disch:=omega)only[go_sem]) (by simp(disch:=omega)only[go_sem]) ⟨?_,rfl,rfl⟩
  have:¬(xs.length≤100):=by omega
  simp[qN,J1,this]
 ·simp(disch:=omega)only[go_sem,h1]
  refine qf (fun i:Nat=>[(1,.pt 30000000 0),(2,.v (.bool false)),(3,.v (.int .i64 i))]) (fun _=>[(30000000,.own 0 [.sl xs.length (qc xs)])]) (fun i=>i≤xs.length∧∀x∈xs.take i,0≤x∧x≤65535) (fun i=>xs.length-i) 0 ⟨by omega,by simp⟩
   (Le.lst [] _ _ rfl (by simp(disch:=omega)only[go_sem]) (by simp(disch:=omega)only[go_sem])) ?_
  rintro i ⟨hi,hx⟩
  simp(disch:=omega)only[go_sem]
  refine qd (fun h2=>?_) (fun h2=>?_)
  ·simp(disch:=omega)only[go_sem,h2]
   have hmem:xs.getD i 0∈xs:=by
    rw[List.getD_eq_getElem?_getD,List.getElem?_eq_getElem (by omega)];exact List.getElem_mem _
   have bad:¬(0≤xs.getD i 0∧xs.getD i 0≤65535)→J1 xs=false:=by
    intro hc
    unfold J1
    have:xs.all (fun x=>decide (0≤x)&&decide (x≤65535))=false:=by
     rw[List.all_eq_false]
     refine⟨_,hmem,?_⟩
     simp only[Bool.and_eq_true,decide_eq_true_eq];exact hc
    rw[this];simp
   refine⟨by omega,by omega,?_⟩
   refine zU (fun h3=>?_) (fun h3=>?_)
   ·simp(disch:=omega)only[go_sem,h3]
    refine⟨by omega,by omega,?_⟩
    refine qd (fun h4=>?_) (fun h4=>?_)
    ·simp(disch:=omega)only[go_sem,h4]
     rw[bad (by omega)]
     exact ql
    ·simp(disch:=omega)only[go_sem,h4]
     refine qe (i+1) [] ⟨by omega,?_⟩ (by show xs.length-(i+1)<xs.length-i;omega) rfl (by simp(disch:=omega)only[go_sem];try omega) (by simp(disch:=omega)only[go_sem])
     intro x hxx
     rw[List.take_add_one]at hxx
     rcases List.mem_append.1 hxx with h|h
     ·exact hx x h
     ·rw[List.getElem?_eq_getElem (by omega)]at h
      simp at h
      rw[List.getD_eq_getElem?_getD,List.getElem?_eq_getElem (by omega)]at h3 h4
      simp at h3 h4
      subst h
      omega
   ·simp(disch:=omega)only[go_sem,h3]
    rw[bad (by omega)]
    exact ql
  ·have:i=xs.length:=by omega
   subst this
   rw[List.take_length]at hx
   have hall:xs.all (fun x=>decide (0≤x)&&decide (x≤65535))=true:=by
    rw[List.all_eq_true]
    intro x h;have:=hx x h;simp only[Bool.and_eq_true,decide_eq_true_eq];exact this
   have e1:decide (xs.length≤100)=true:=by simp;omega
   simp(disch:=omega)only[go_sem,h2]
   refine zU (fun h3=>?_) (fun h3=>?_)
   ·have en:((xs.length:Int)-1).toNat=xs.length-1:=by omega
    have hmem:xs.getD (xs.length-1) 0∈xs:=by
     rw[List.getD_eq_getElem?_getD,List.getElem?_eq_getElem (by omega)];exact List.getElem_mem _
    have hp:=hx _ hmem
    simp(disch:=omega)only[go_sem,h3,en]
    refine⟨by omega,by omega,?_⟩
    refine qk (by simp(disch:=omega)only[go_sem]) (by simp(disch:=omega)only[go_sem]) ⟨?_,rfl,rfl⟩
    have e2:decide (xs.length=0)=false:=by simp;intro h;subst h;simp at h3
    show AV.v (.bool _)=AV.v (.bool _)
    unfold J1
    rw[e1,hall,e2,Bool.false_or,Bool.true_and,Bool.true_and]
    congr 2
    rw[decide_eq_decide]
    omega
   ·simp(disch:=omega)only[go_sem,h3]
    refine qk (by simp(disch:=omega)only[go_sem]) (by simp(disch:=omega)only[go_sem]) ⟨?_,rfl,rfl⟩
    have e2:decide (xs.length=0)=true:=by simp;exact List.length_eq_zero_iff.1 (by omega)
    show AV.v (.bool _)=AV.v (.bool _)
    unfold J1
    rw[e1,hall,e2]
    simp
theorem JD(s:Bool)(xs:List Int)(hl:xs.length≤2^40):Con Try.prog 69 true [.ag [.v (.bool s),.sl xs.length (qc xs)]] [] (isA (.v (.bool (jz s xs)))):=by
 refine Con.of_aw Try.func69 rfl Try.ntmps69 (by simp) (by simp) (by simp) (W.sound ?_)
 show @W Try.prog 18 ⟨_⟩ ⟨fun x σ=>@qO _ _ _ ⟨_⟩ _ ⟨_⟩ x σ⟩ _ _
 simp(disch:=omega)only[go_sem]
 refine qg (VH xs hl) ?_
 simp(disch:=omega)only[go_sem]
 refine y4 (fun h1=>?_) (fun h1=>?_)
 ·simp(disch:=omega)only[go_sem,h1]
  cases s
  ·simp(disch:=omega)only[go_sem]
   refine qk (by simp(disch:=omega)only[go_sem]) (by simp(disch:=omega)only[go_sem]) ⟨?_,rfl,rfl⟩
   simp[qN,jz,h1]
  ·simp(disch:=omega)only[go_sem]
   refine qk (by simp(disch:=omega)only[go_sem]) (by simp(disch:=omega)only[go_sem]) ⟨?_,rfl,rfl⟩
   show AV.v (.bool _)=AV.v (.bool _)
   unfold jz
   rw[h1,Bool.true_and,Bool.true_and,←decide_not]
   congr 2
   rw[decide_eq_decide]
   omega
 ·simp(disch:=omega)only[go_sem,h1]
  refine qk (by simp(disch:=omega)only[go_sem]) (by simp(disch:=omega)only[go_sem]) ⟨?_,rfl,rfl⟩
  simp[qN,jz,h1]
theorem Ql(s:Bool)(xs:List Int)(e:Int)(hl:xs.length≤2^40):Con Try.prog 50 true [.ag [.v (.bool s),.sl xs.length (qc xs),.v (.int .i64 e)]] [] (isA (.v (.bool (dyB s xs e)))):=by
 refine Con.of_aw Try.func50 rfl Try.ntmps50 (by simp) (by simp) (by simp) (W.sound ?_)
 show @W Try.prog 31 ⟨_⟩ ⟨fun x σ=>@qO _ _ _ ⟨_⟩ _ ⟨_⟩ x σ⟩ _ _
 simp(disch:=omega)only[go_sem]
 refine qg (JD s xs hl) ?_
 simp(disch:=omega)only[go_sem]
 refine y4 (fun hw=>?_) (fun hw=>?_)
 ·have h1:=hw
  simp only[jz,Bool.and_eq_true]at h1
  obtain⟨hx,hll⟩:=Zq h1.1
  have hxs:xs=lim (vl xs).toNat:=hx
  generalize hm:(vl xs).toNat=m at*
  subst hx
  simp(disch:=omega)only[go_sem,hw]
  refine zU (fun h2=>?_) (fun h2=>?_)
  ·simp(disch:=omega)only[go_sem,h2]
   refine qd (fun h3=>?_) (fun h3=>?_)
   ·simp(disch:=omega)only[go_sem,h3]
    refine qk (by simp(disch:=omega)only[go_sem]) (by simp(disch:=omega)only[go_sem]) ⟨?_,rfl,rfl⟩
    have a2:¬e≤3000:=by omega
    simp[qN,dyB,a2]
   ·simp(disch:=omega)only[go_sem,h3]
    refine qd (fun h4=>?_) (fun h4=>?_)
    ·simp(disch:=omega)only[go_sem,h4]
     have h0:m=0:=qJ.1 (List.length_eq_zero_iff.1 (by omega))
     refine qk (by simp(disch:=omega)only[go_sem]) (by simp(disch:=omega)only[go_sem]) ⟨?_,rfl,rfl⟩
     have a1: -3000≤e:=by omega
     have a2:e≤3000:=by omega
     have a3:(lim m).length=0:=by omega
     show AV.v (.bool _)=AV.v (.bool _)
     unfold dyB
     rw[hw,hm,decide_eq_true a1,decide_eq_true a2,decide_eq_true a3,h0]
     simp
    ·simp(disch:=omega)only[go_sem,h4]
     refine qg (abv m 0 (by omega) (by omega) (by omega)) ?_
     simp(disch:=omega)only[go_sem]
     refine qk (by simp(disch:=omega)only[go_sem]) (by simp(disch:=omega)only[go_sem]) ⟨?_,rfl,rfl⟩
     have a1: -3000≤e:=by omega
     have a2:e≤3000:=by omega
     have a3:¬(lim m).length=0:=by omega
     show AV.v (.bool _)=AV.v (.bool _)
     unfold dyB
     rw[hw,hm,decide_eq_true a1,decide_eq_true a2,decide_eq_false a3]
     simp
     omega
  ·simp(disch:=omega)only[go_sem,h2]
   refine qk (by simp(disch:=omega)only[go_sem]) (by simp(disch:=omega)only[go_sem]) ⟨?_,rfl,rfl⟩
   have a1:¬ -3000≤e:=by omega
   simp[qN,dyB,a1]
 ·simp(disch:=omega)only[go_sem,hw]
  refine qk (by simp(disch:=omega)only[go_sem]) (by simp(disch:=omega)only[go_sem]) ⟨?_,rfl,rfl⟩
  simp[qN,dyB,hw]
end Go.Ab
namespace Go.Ab
open Go Go.Proofs
theorem VP(s:Bool)(m:Nat)(e:Int)(hm:bl m≤2000)(he: -200≤e∧e≤4000):Con Try.prog 67 false [.ag [.v (.bool (s)),.sl (lim (m)).length (qc (lim (m))),.v (.int .i64 (e))]] [] (afh (yt s m e)):=by
 by_cases h:0≤e
 ·obtain⟨u,rfl⟩:=Int.eq_ofNat_of_zero_le h
  exact YN s m u hm (by omega)
 ·obtain⟨k,hk⟩:∃k:Nat,e= -(k:Int):=⟨(-e).toNat,by omega⟩
  subst hk
  exact YM s m k hm (by omega)
def J2(s:Bool)(xs:List Int)(e:Int):Bool:=dyB s xs e&&(decide (-100≤e)&&decide (e≤1000))
def aau(s:Bool)(xs:List Int)(e:Int):List UInt8:=if J2 s xs e then yt s (vl xs).toNat e else []
theorem Q9(s:Bool)(xs:List Int)(e:Int)(hl:xs.length≤2^40):Con Try.prog 48 false [.ag [.v (.bool s),.sl xs.length (qc xs),.v (.int .i64 e)]] []
  (isA (.tu [.sl (aau s xs e).length (qa (aau s xs e)),.v (.bool (J2 s xs e))])):=by
 refine Con.frzA ?_
 refine Con.of_aw Try.func48 rfl Try.ntmps48 (by simp) (by simp) (by simp) (W.sound ?_)
 show @W Try.prog 15 ⟨_⟩ ⟨fun x σ=>@qO _ _ _ ⟨_⟩ _ ⟨_⟩ x σ⟩ _ _
 simp(disch:=omega)only[go_sem]
 refine qg (XA s xs e hl) ?_
 simp(disch:=omega)only[go_sem]
 refine y4 (fun h1=>?_) (fun h1=>?_)
 ·simp(disch:=omega)only[go_sem,h1]
  refine qg (Qd e (-100) 1000) ?_
  simp(disch:=omega)only[go_sem]
  refine aaP (fun h2=>?_) (fun h2=>?_)
  ·simp(disch:=omega)only[go_sem,h2]
   have hb:J2 s xs e=false:=by unfold J2;rw[h1,h2];rfl
   unfold aau
   rw[hb,if_neg (by simp)]
   refine q5 (by simp(disch:=omega)only[go_sem]) ?_
   show qx _ 6 _=_
   rfl
  ·simp(disch:=omega)only[go_sem,h2]
   obtain⟨m,rfl,hm1,hm2,he,_⟩:=Qa h1
   have h2':=h2
   simp only[Bool.and_eq_true,decide_eq_true_eq]at h2'
   have hb:J2 s (lim m) e=true:=by unfold J2;rw[h1,h2];rfl
   have ht:aau s (lim m) e=yt s m e:=by unfold aau;rw[hb,if_pos rfl,qQ,Int.toNat_natCast]
   rw[hb,ht]
   refine qi (VP s m e (by omega) (by omega)) ?_
   simp(disch:=omega)only[go_sem]
   exact ye (hp:=by simp(disch:=omega)only[go_sem,zf])
 ·simp(disch:=omega)only[go_sem,h1]
  have hb:J2 s xs e=false:=by unfold J2;rw[h1];rfl
  unfold aau
  rw[hb,if_neg (by simp)]
  refine q5 (by simp(disch:=omega)only[go_sem]) ?_
  show qx _ 6 _=_
  rfl
theorem VM(s:Bool)(xs:List Int)(e:Int)(hl:xs.length≤2^40):Con Try.prog 41 true [.ag [.v (.bool s),.sl xs.length (qc xs),.v (.int .i64 e)]] [] (isA (.v (.bool (J2 s xs e)))):=by
 refine Con.of_aw Try.func41 rfl Try.ntmps41 (by simp) (by simp) (by simp) (W.sound ?_)
 show @W Try.prog 15 ⟨_⟩ ⟨fun x σ=>@qO _ _ _ ⟨_⟩ _ ⟨_⟩ x σ⟩ _ _
 simp(disch:=omega)only[go_sem]
 refine qg (Ql s xs e hl) ?_
 simp(disch:=omega)only[go_sem]
 refine y4 (fun h1=>?_) (fun h1=>?_)
 ·simp(disch:=omega)only[go_sem,h1]
  refine qd (fun h2=>?_) (fun h2=>?_)
  ·simp(disch:=omega)only[go_sem,h2]
   refine qk (by simp(disch:=omega)only[go_sem]) (by simp(disch:=omega)only[go_sem]) ⟨?_,rfl,rfl⟩
   simp[qN,J2,h1,h2]
  ·simp(disch:=omega)only[go_sem,h2]
   refine qk (by simp(disch:=omega)only[go_sem]) (by simp(disch:=omega)only[go_sem]) ⟨?_,rfl,rfl⟩
   simp[qN,J2,h1,h2]
 ·simp(disch:=omega)only[go_sem,h1]
  refine qk (by simp(disch:=omega)only[go_sem]) (by simp(disch:=omega)only[go_sem]) ⟨?_,rfl,rfl⟩
  simp[qN,J2,h1]
end Go.Ab
namespace Go.Ab
def ahe(l:List (List UInt8)):List UInt8:=(l.map fun t=>32::t).flatten
def Qy:List (List UInt8)→List UInt8
 | []=>[]
 |t::r=>t++ahe r
theorem ahI{k:Nat}{t:List UInt8}:(ptT k t).length=t.length+1:=by
 unfold ptT;rw[List.length_append,List.length_cons,List.length_take,List.length_drop];omega
end Go.Ab
namespace Go.Ab
open Go Go.Proofs
def DyV.may(x:DyV):Bool:=J2 x.s x.xs x.e
theorem Qj(x:DyV)(hl:x.xs.length≤2^40):Con Try.prog 41 true [.ag x.cs] [] (isA (.v (.bool x.may))):=VM x.s x.xs x.e hl
theorem Xw{s:Bool}{m:Nat}{e:Int}(hm:bl m≤2000)(he: -200≤e∧e≤4000):(yt s m e).length≤20000:=by
 have hs:(aqn s).length≤1:=by cases s<;>simp[aqn]
 unfold yt
 rw[List.length_append]
 split
 ·have:=JX m e.toNat
  have:=ja (m:=m*2^e.toNat) (B:=10000) (by omega) (by omega)
  omega
 ·have h1:=j6 m (5^(-e).toNat)
  have h2:bl (5^(-e).toNat)≤3*(-e).toNat+1:=by
   rcases yR (-e).toNat with h|h
   ·exact Nat.le_trans (z7.2 h) (by omega)
   ·rw[h];decide
  have:=ja (m:=m*5^(-e).toNat) (B:=10000) (by omega) (by omega)
  rw[ahI,adv]
  omega
def DyV.txt(x:DyV):List UInt8:=yt x.s (vl x.xs).toNat x.e
theorem Yo{x:DyV}(h:x.may=true):∃m,x.xs=lim m∧bl m≤2000∧(-200≤x.e∧x.e≤4000)∧x.txt=yt x.s m x.e:=by
 unfold DyV.may J2 at h
 simp only[Bool.and_eq_true,decide_eq_true_eq]at h
 obtain⟨m,hx,h1,h2,h3,_⟩:=Qa h.1
 refine⟨m,hx,by omega,by omega,?_⟩
 unfold DyV.txt
 rw[hx,qQ,Int.toNat_natCast]
theorem Q5(x:DyV)(h:x.may=true):Con Try.prog 46 false [.ag x.cs] [] (afh x.txt):=by
 obtain⟨m,hx,h1,h2,h3⟩:=Yo h
 have:=abp x.s m x.e h1 h2
 rw[h3]
 unfold DyV.cs
 rw[hx]
 exact this
end Go.Ab
namespace Go.Ab
open Go Go.Proofs
def lsB(l:List DyV):Bool:=decide (l.length≤20)&&l.all DyV.may
def lsT(l:List DyV):List UInt8:=if lsB l then Qy (l.map DyV.txt)else []
end Go.Ab
namespace Go.Ab
open Go Go.Proofs
theorem Qk(xs:List UInt8)(hl:xs.length≤2^60):Con Try.prog 10 true [.sl xs.length (qa xs),.sl xs.length (qa xs)] [] (isA (.v (.bool true))):=by
 refine Con.of_w (rs:=[.tmp 4]) Try.func10 rfl Try.ntmps10 rfl ?_
 simp(disch:=omega)only[go_sem]
 refine qf (fun i:Nat=>[(0,.sl xs.length (qa xs)),(1,.sl xs.length (qa xs)),(5,.v (.int .i64 i))]) (fun _=>[]) (fun i=>i≤xs.length) (fun i=>xs.length-i) 0 (by omega)
  (Le.lst [] _ _ rfl (by simp(disch:=omega)only[go_sem]) (by simp(disch:=omega)only[go_sem])) ?_
 intro i hi
 simp(disch:=omega)only[go_sem]
 refine qd (fun h1=>?_) (fun h1=>?_)
 ·simp(disch:=omega)only[go_sem,h1]
  refine qu rfl [⟨0,[],[]⟩,⟨1,[],[]⟩,⟨2,[],[]⟩,⟨3,[],[]⟩,⟨4,[3],[]⟩,⟨5,[3],[]⟩,⟨6,[3],[]⟩,⟨7,[3],[]⟩,⟨8,[],[]⟩] (by kernel_rfl) ?_
  simp(disch:=omega)only[go_sem]
  refine⟨by omega,by omega,by omega,by omega,qe (i+1) [] (by show i+1≤_;omega) (by show xs.length-(i+1)<xs.length-i;omega) rfl (by simp(disch:=omega)only[go_sem];try omega) (by simp(disch:=omega)only[go_sem])⟩
 ·have:i=xs.length:=by omega
  subst this
  simp(disch:=omega)only[go_sem,h1]
  exact ql
def mkB(k n:Nat):List UInt8:=(List.range n).map fun i=>UInt8.ofNat (k+i)
theorem Zs(k n:Nat):(mkB k n).length=n:=by simp[mkB]
theorem ad6(k n:Nat):mkB k (n+1)=mkB k n++[UInt8.ofNat (k+n)]:=by simp[mkB,List.range_succ]
theorem aiu{k n i:Nat}(h:i<n):(mkB k n).getD i 0=UInt8.ofNat (k+i):=by
 simp[mkB,List.getD_eq_getElem?_getD,List.getElem?_range h]
theorem aap(a:Nat):IntKind.u8.wrap (a:Int)=((UInt8.ofNat a).toNat:Int):=by
 rw[UInt8.toNat_ofNat']
 show(a:Int) % 256=_
 omega
theorem j2(k n:Nat)(hn:n≤2^40)(hk:k≤2^40):Con Try.prog 14 true [.sl n (qa (mkB k n)),.v (.int .i64 k)] [] (isA (.v (.int .i64 ((k+n:Nat):Int)))):=by
 refine Con.of_w (rs:=[.tmp 4]) Try.func14 rfl Try.ntmps14 rfl ?_
 simp(disch:=omega)only[go_sem]
 refine qf (fun i:Nat=>[(0,.sl n (qa (mkB k n))),(1,.v (.int .i64 ((k+i:Nat):Int))),(5,.v (.int .i64 i))]) (fun _=>[]) (fun i=>i≤n) (fun i=>n-i) 0 (by omega)
  (Le.lst [] _ _ rfl (by simp(disch:=omega)only[go_sem,Nat.add_zero]) (by simp(disch:=omega)only[go_sem])) ?_
 intro i hi
 simp(disch:=omega)only[go_sem]
 refine qd (fun h1=>?_) (fun h1=>?_)
 ·have hg:=aiu (k:=k) (n:=n) (i:=i) (by omega)
  have hw:=aap (k+i)
  have hlen:=Zs k n
  simp(disch:=omega)only[go_sem,h1,hg,hw]
  have e1:((k+i:Nat):Int)+1=((k+(i+1):Nat):Int):=by omega
  refine⟨⟨by omega,by omega⟩,by omega,qe (i+1) [] (by show i+1≤_;omega) (by show n-(i+1)<n-i;omega) rfl (by simp(disch:=omega)only[go_sem,e1];try omega) (by simp(disch:=omega)only[go_sem])⟩
 ·have:i=n:=by omega
  subst this
  simp(disch:=omega)only[go_sem,h1]
  exact ql
theorem amv{k i:Nat}{xs zs:List UInt8}(h:i<xs.length):(mkB k i++xs.drop i++zs).set i (UInt8.ofNat (k+i))=mkB k (i+1)++xs.drop (i+1)++zs:=by
 have hl:=Zs k i
 rw[List.append_assoc,List.set_append_right _ _ (by omega),hl,Nat.sub_self,List.drop_eq_getElem_cons h,List.cons_append,List.set_cons_zero,ad6]
 simp
theorem ZK(k:Nat)(xs zs:List UInt8)(hn:xs.length≤2^40)(hk:k≤2^40):Con Try.prog 13 false [.rf 10000000 0 xs.length,.v (.int .i64 k)] [.own 1 (qa (xs++zs))]
  (fun r hs bs=>r=.v (.int .i64 ((k+xs.length:Nat):Int))∧hs=[]∧bs=[.own 1 (qa (mkB k xs.length++zs))]):=by
 refine Con.of_aw Try.func13 rfl Try.ntmps13 (by simp) (by simp) (by simp) (W.sound ?_)
 show @W Try.prog 20 ⟨_⟩ ⟨fun x σ=>@qO _ _ _ ⟨_⟩ _ ⟨_⟩ x σ⟩ _ _
 simp(disch:=omega)only[go_sem]
 refine qf (fun i:Nat=>[(0,.rf 10000000 0 xs.length),(1,.v (.int .i64 ((k+i:Nat):Int))),(5,.v (.int .i64 i))]) (fun i=>[(10000000,.own 1 (qa (mkB k i++xs.drop i++zs)))]) (fun i=>i≤xs.length) (fun i=>xs.length-i) 0 (by omega)
  (Le.lst [] _ _ rfl (by simp(disch:=omega)only[go_sem,Nat.add_zero]) (by simp(disch:=omega)only[go_sem,List.drop_zero];try rfl)) ?_
 intro i hi
 simp(disch:=omega)only[go_sem]
 refine qd (fun h1=>?_) (fun h1=>?_)
 ·have hw:=aap (k+i)
  have hlen:(mkB k i++xs.drop i++zs).length=xs.length+zs.length:=by
   rw[List.length_append,List.length_append,Zs,List.length_drop];omega
  have hs:=amv (k:=k) (i:=i) (xs:=xs) (zs:=zs) (by omega)
  have e1:((k+i:Nat):Int)+1=((k+(i+1):Nat):Int):=by omega
  simp(disch:=omega)only[go_sem,h1,hw]
  refine⟨by omega,by omega,qe (i+1) [] (by show i+1≤_;omega) (by show xs.length-(i+1)<xs.length-i;omega) rfl (by simp(disch:=omega)only[go_sem,e1];try omega) (by simp(disch:=omega)only[go_sem,hs])⟩
 ·have:i=xs.length:=by omega
  subst this
  simp(disch:=omega)only[go_sem,h1]
  refine qb [] [] [.own 1 (qa (mkB k xs.length++zs))] [.v (.int .i64 ((k+xs.length:Nat):Int))] rfl (by simp(disch:=omega)only[go_sem]) (by simp(disch:=omega)only[go_sem,List.drop_length,List.append_nil]) (by simp) (by simp) ⟨rfl,rfl,rfl⟩
end Go.Ab
namespace Go.Ab
open Go
section
variable {X:Type}{f:X→List AV}{z:Nat}
end
theorem abe{l:List DyV}{i:Nat}(hi:i<l.length):cut (qy DyV.cs l) (i*3) 3=[.v (.bool (l.getD i dy0).s),.sl (l.getD i dy0).xs.length (qc (l.getD i dy0).xs),.v (.int .i64 (l.getD i dy0).e)]:=Yg (l:=l) abg hi dy0
end Go.Ab
namespace Go.Ab
open Go
section
variable {σ:St}
end
end Go.Ab
namespace Go.Ab
open Go
end Go.Ab
namespace Go.Ab
open Go
section
variable {P:Program}{N:Nat}{Q:Exit→St→Prop}{σ:St}
end
end Go.Ab
namespace Go.Ab
open Go
/-! ### Rows of which some cells groups are still nought-/
def ocs:Option ExV→List AV
 |none=>z3
 |some x=>x.cs
theorem aoK:∀x,(ocs x).length=3:=fun x=>by cases x<;>rfl
theorem ah1{ρ:Nat→Nat}{l:List (Option ExV)}:zb ρ (qy ocs l)=qy ocs l:=jG fun x=>by
 cases x with
 |none=>exact ID rfl
 |some x=>exact aa7 x
theorem ah3{p:Nat→Prop}{l:List (Option ExV)}:AllL p (qy ocs l)=True:=eq_true (jI fun x=>by
 cases x with
 |none=>simp[ocs,z3,AllL,AV.All]
 |some x=>exact aa8 x)
theorem ah2{l:List (Option ExV)}:(qy ocs l).length=l.length*3:=jH aoK
attribute [go_sem] ah1 ah3 ah2
end Go.Ab
namespace Go.Ab
open Go
/-! ### A call that lends what its arguments name deep within-/
def af4(P:Program)(f:FuncId)(aa0:List AV)(hp:Nat→Ob)(nm0:Nat)(K:AV→(Nat→Ob)→Prop):Prop:=
 ∃cl nms post,Con P f cl (aa0.map (snp (hpx cl nms hp) (idx nms) 6)) (nms.map fun n=>(hp n).ren (back nms)) post∧nms.Nodup∧jV hp nms∧
  ∀r hs bs',post r hs bs'→hs.length≤10000000∧qs hp nm0 hs∧(cl=true→nms=[]∨∀ob∈bs',ob.plain)∧
   K (r.ren (rho nm0 nms)) (jM (QF (rho nm0 nms) hp nm0 hs) nms (bs'.map (Ob.ren (rho nm0 nms))))
section
variable {P:Program}{L:Nat→Option Blk→Prop}{w0 w:World}{R:Nat→Prop}{ι:Nat→Option Blk}{tm:Array Value}{σ:St}{K:AV→(Nat→Ob)→Prop}
theorem abL{f:FuncId}{aa0:List AV}{nm0:Nat}{vs:Array Value}(h:Inv L w0 R ι w tm σ)(hv:RepA R ι w vs aa0)(hs:af4 P f aa0 σ.hp nm0 K):
  Calls P f vs w fun e w'=>∃x R' ι' av hp',e=.returned x∧(∀b,R' b→R b∨w.heap.size≤b)∧K av hp'∧Rep R' ι' w' x av∧av.All (fun m=>hp' m≠ .free)∧Inv L w0 R' ι' w' tm ⟨σ.env,hp'⟩:=by
 obtain⟨cl,nms,post,hc,hnd,hl,hpost⟩:=hs
 let R₁:Nat→Prop:=fun b=>R b∨XG (hpx cl nms σ.hp) ι b
 let ι₁:Nat→Option Blk:=fun m=>if 10000000≤m then(nms[m-10000000]?).bind ι else none
 have hHx:=h.hp.hpx cl nms
 have hι₁:∀i (hi:i<nms.length),ι₁ (10000000+i)=ι nms[i]:=fun i hi=>by
  show(if 10000000≤10000000+i then _ else _)=_
  rw[if_pos (by omega),show 10000000+i-10000000=i by omega,List.getElem?_eq_getElem hi];rfl
 have hbk:∀m,(idx nms m).isSome=true→∃i,∃hi:i<nms.length,nms[i]=m∧back nms m=10000000+i:=by
  intro m hm
  obtain⟨i,e⟩:=Option.isSome_iff_exists.1 hm
  obtain⟨hi,e2⟩:=zA e
  exact⟨i,hi,e2,by simp[back,e]⟩
 have hxe:∀{m z cs},hpx cl nms σ.hp m=.own z cs→σ.hp m=.own z cs∧cl=true∧idx nms m=none:=by
  intro m z cs e
  unfold hpx at e
  cases cl with
  |false=>cases e
  |true=>
   simp only[cond_true]at e
   split at e
   ·cases e
   ·rename_i hi;exact⟨e,rfl,by simpa using hi⟩
 generalize hbs:nms.map (fun n=>(σ.hp n).ren (back nms))=bs at hc
 have hblen:bs.length=nms.length:=by rw[←hbs];simp
 have hbget:∀i (hi:i<nms.length),bhp bs (10000000+i)=(σ.hp nms[i]).ren (back nms):=fun i hi=>by
  simp only[bhp]
  rw[if_pos (by omega),show 10000000+i-10000000=i by omega,←hbs,List.getD_eq_getElem?_getD,List.getElem?_map,List.getElem?_eq_getElem hi];rfl
 have hbown:∀{m z cs},bhp bs m=.own z cs→∃i,∃hi:i<nms.length,m=10000000+i∧∃cs0,σ.hp nms[i]=.own z cs0∧cs=zb (back nms) cs0∧AllL (fun m=>(idx nms m).isSome=true) cs0:=by
  intro m z cs e
  have h5:10000000≤m:=by
   rcases Nat.lt_or_ge m 10000000 with h|h
   ·simp[bhp,show ¬10000000≤m by omega]at e
   ·exact h
  obtain⟨i,rfl⟩:∃i,m=10000000+i:=⟨m-10000000,by omega⟩
  have hi:i<nms.length:=by
   rcases Nat.lt_or_ge i nms.length with h|h
   ·exact h
   ·simp only[bhp]at e
    rw[if_pos h5,show 10000000+i-10000000=i by omega,List.getD_eq_getElem?_getD,List.getElem?_eq_none (by omega)]at e
    cases e
  rw[hbget i hi]at e
  obtain⟨z',cs0,eo,ha⟩:=hl _ (List.getElem_mem hi)
  rw[eo]at e
  simp only[Ob.ren]at e
  injection e with e1 e2
  subst e1
  exact⟨i,hi,rfl,cs0,eo,e2.symm,ha⟩
 have hbne:∀i,i<nms.length→bhp bs (10000000+i)≠ .free:=fun i hi=>by
  rw[hbget i hi]
  obtain⟨z',cs0,eo,ha⟩:=hl _ (List.getElem_mem hi)
  rw[eo];simp[Ob.ren]
 have hR₁lt:∀b,R₁ b→b<w.heap.size:=fun b hb=>by
  rcases hb with hb|⟨m,z,cs,B,e,hB,rfl⟩
  ·exact h.rlt b hb
  ·exact h.block_lt (hxe e).1 hB
 have hnR₁:∀i (hi:i<nms.length) B,ι nms[i]=some B→¬R₁ B.b:=fun i hi B hB hr=>by
  obtain⟨z',cs0,eo,ha⟩:=hl _ (List.getElem_mem hi)
  rcases hr with hr|⟨m,z,cs,B',e,hB',eb⟩
  ·exact h.hp.nR _ _ _ _ eo hB hr
  ·have:=h.hp.inj _ _ _ _ _ _ _ _ (hxe e).1 eo hB' hB eb
   subst this
   have:=(hxe e).2.2
   rw[zK hnd i hi]at this;cases this
 have hHp:HpOk R₁ ι₁ w (bhp bs):=by
  refine⟨fun m=>?_,fun m z cs B e hB=>?_,fun m m' z z' cs cs' B B' e e' hB hB' hbb=>?_,fun m z cs e=>?_⟩
  ·cases e:bhp bs m with
   |free=>trivial
   |dead=>trivial
   |own z cs=>
    obtain⟨i,hi,rfl,cs0,eo,rfl,ha⟩:=hbown e
    rw[hι₁ i hi]
    have hok:=h.hp.ok nms[i]
    rw[eo]at hok
    have h1:OOk R₁ ι w (ι nms[i]) (.own z cs0):=hok.mono (fun _ _=>rfl) (fun _ _ _ _ _=>rfl) (fun _ h=>.inl h) (fun _ _ _=>AllL.of_mem fun a _=>AV.all_true (fun _=>rfl) a)
    refine h1.ren (ρ:=back nms) fun z' cs' e'=>?_
    cases e'
    refine ha.mono fun m hm=>?_
    obtain⟨j,hj,e1,e2⟩:=hbk m hm
    rw[e2,hι₁ j hj,e1]
  ·obtain⟨i,hi,rfl,cs0,eo,rfl,ha⟩:=hbown e
   rw[hι₁ i hi]at hB
   exact hnR₁ i hi B hB
  ·obtain⟨i,hi,rfl,cs0,eo,rfl,ha⟩:=hbown e
   obtain⟨j,hj,rfl,cs0',eo',rfl,ha'⟩:=hbown e'
   rw[hι₁ i hi]at hB
   rw[hι₁ j hj]at hB'
   have:=h.hp.inj _ _ _ _ _ _ _ _ eo eo' hB hB' hbb
   have h1:=zK hnd i hi
   rw[this,zK hnd j hj]at h1
   cases h1;rfl
  ·obtain⟨i,hi,rfl,cs0,eo,rfl,ha⟩:=hbown e
   refine ha.ren fun m hm=>?_
   obtain⟨j,hj,e1,e2⟩:=hbk m hm
   rw[e2];exact hbne j hj
 have hrho:∀m i,idx nms m=some i→ι₁ (10000000+i)=ι m:=fun m i e=>by
  obtain⟨hi,e2⟩:=zA e
  rw[hι₁ i hi,e2]
 have hargs:RepA R₁ ι₁ w vs (aa0.map (snp (hpx cl nms σ.hp) (idx nms) 6)):=
  hv.all fun hx=>Ya hHx (fun _ h=>.inl h) (fun _ h=>.inr h) hrho 6 hx
 have hall:AllL (fun m=>bhp bs m≠ .free) (aa0.map (snp (hpx cl nms σ.hp) (idx nms) 6)):=AllL.of_mem fun a ha=>by
  obtain⟨b,_,rfl⟩:=List.mem_map.1 ha
  refine Yb (fun m i e=>?_) 6 b
  obtain⟨hi,e2⟩:=zA e
  exact hbne i hi
 have hGd:GdL (XG (bhp bs) ι₁) w:=by
  refine⟨h.gdw,fun g l hg ho=>?_⟩
  obtain⟨m,z,cs,B,e,hB,eb⟩:=ho
  obtain⟨i,hi,rfl,cs0,eo,rfl,ha⟩:=hbown e
  rw[hι₁ i hi]at hB
  exact h.gno eo hB g l hg eb
 refine(hc R₁ ι₁ w vs hR₁lt hargs hall hHp hGd).mono ?_
 rintro e w' ⟨x,r,hs,bs',R',ι',rfl,hp,hF⟩
 obtain⟨hN16,hfree,hpl,hK⟩:=hpost r hs bs' hp
 have hN:hs.length≤10000000:=by omega
 have hlen:bs'.length=nms.length:=hF.len.trans hblen
 have hnew:∀b,R' b→w.heap.size≤b∨R b:=fun b hb=>by
  rcases hF.rnew b hb with h1|⟨hcl,h1|⟨m,z,cs,B,e,_⟩⟩
  ·exact .inl h1
  ·exact .inr h1
  ·have:=(hxe e).2.1;rw[hcl]at this;cases this
 have hext:Ext (fun b=>∃n∈nms,∃B,ι n=some B∧B.b=b) w w':=⟨hF.ext.os,hF.ext.tape,hF.ext.output,hF.ext.size,fun b hb hn=>hF.ext.block b hb fun⟨m,z,cs,B,e,hB,eb⟩=>by
  obtain⟨i,hi,rfl,cs0,eo,rfl,ha⟩:=hbown e
  rw[hι₁ i hi]at hB
  exact hn ⟨_,List.getElem_mem hi,B,hB,eb⟩⟩
 have hok:∀m,10000000≤m→OOk (fun b=>R b∨R' b) ι' w' (ι' m) (rhp hs bs' m):=by
  intro m h5
  have h1:=hF.okB m h5
  cases cl with
  |false=>
   refine OOk.mono h1 (fun _ _=>rfl) (fun _ _ _ _ _=>rfl) (fun b hb=>?_) (fun _ _ _=>AllL.of_mem fun a _=>AV.all_true (fun _=>rfl) a)
   rcases hb with(hb|⟨m,z,cs,B,e,_⟩)|hb
   ·exact .inl hb
   ·have:=(hxe e).2.1;cases this
   ·exact .inr hb
  |true=>
   refine h1.plain ?_
   rcases hpl rfl with h2|h2
   ·subst h2
    have:bs'=[]:=List.length_eq_zero_iff.1 (by simpa using hlen)
    subst this
    simp[rhp,h5,Ob.plain]
   ·simp only[rhp,if_pos h5,List.getD_eq_getElem?_getD]
    cases e:bs'[m-10000000]? with
    |none=>simp[Ob.plain]
    |some ob=>simpa using h2 ob (List.mem_of_getElem? e)
 have hnR:∀m z cs B,rhp hs bs' m=.own z cs→ι' m=some B→¬(R B.b∨R' B.b):=fun m z cs B e hB hr=>hF.nR m z cs B e hB (hr.imp .inl id)
 have hlive:∀n∈nms,∃z cs,σ.hp n=.own z cs:=fun n hn=>let ⟨z,cs,e,_⟩:=hl n hn;⟨z,cs,e⟩
 obtain⟨ι₂,hi,hr,ha⟩:=ym (nm0:=nm0) h hnd hlive hext hF.rlt hnew hF.rep hF.all hF.okF hok hnR hF.inj hF.men hF.fresh hlen hN
  (fun i hi=>by rw[hF.bown _ (by omega),hι₁ i hi]) hF.bnf hfree
 exact⟨x,fun b=>R b∨R' b,ι₂,_,_,rfl,fun b hb=>hb.elim .inl fun hb=>(hnew b hb).elim .inr .inl,hK,hr,ha,hi⟩
end
section
variable {P:Program}{L:Nat→Option Blk→Prop}{w0 w:World}{R:Nat→Prop}{ι:Nat→Option Blk}{a:Act}{σ:St}{K:AV→(Nat→Ob)→Prop}
 {next:Act→World→Prop} {Q:Exit→Act→World→Prop}
theorem aac{o:Oper}{c}{x:Operand}{f:FuncId}(ho:o.op=.call c)(hc:c.callee=.value x)(e:σ.ev x=.fn f [])(hfn:qD P f)(h:Inv L w0 R ι w a.tmps σ)(hs:af4 P f (c.args.toList.map σ.ev) σ.hp (crn o) K)
  (hnext:∀x w' R' ι' av hp',(∀b,R' b→R b∨w.heap.size≤b)→K av hp'→Rep R' ι' w' x av→av.All (fun m=>hp' m≠ .free)→Inv L w0 R' ι' w' a.tmps ⟨σ.env,hp'⟩→next (a.put o.dst x) w'):
  o.wp P a w next Q:=by
 unfold Oper.wp
 have hv:=yD h c.args
 obtain⟨fn,hf,hn,hb⟩:=hfn
 have hx:=h.ev x
 rw[e]at hx
 obtain⟨vs,hx,h1,h2⟩:=hx.fn_inv
 have hvs:RepA R ι w vs []:=⟨h1,h2⟩
 have hv2:=hv.append hvs
 rw[List.append_nil]at hv2
 have hcl:=abL (nm0:=crn o) h hv2 hs
 have hbn:fn.body.isNone=false:=by cases hq:fn.body<;>simp_all
 have hnn:(fn.name== "runtime.NumGoroutine")=false:=by simpa using hn
 have hrun:(execOp a.eval o).run P w=.ok (.enter f (c.args.map a.eval++vs)) w:=by
  simp only[execOp,ho,resolve,hc,hx,Deferred.ofValue,Sem.run_bind,Sem.run_pure,Result.andThen,invoke,Array.empty_append]
  exact jl hf hnn hbn _
 rw[hrun,Oper.upon_enter]
 refine hcl.mono ?_
 rintro e w' ⟨x,R',ι',av,hp',rfl,h3,h4,h5,h6,h7⟩
 exact hnext x w' R' ι' av hp' h3 h4 h5 h6 h7
theorem AW.regCall{N:Nat}{Q:Exit→St→Prop}{e:Nat→AV}{h:Nat→Ob}{id:Nat}{l:List Oper}{y:Code}(k:Nat){pre suf:List Oper}{d ty:Nat}{pos:String}{af:Array Edge}{c}{x:Operand}{f:FuncId}
  (hp:l.take k=pre) (hs:l.drop k=⟨some d,.call c,ty,pos,af,none⟩::suf) {E:List (Nat×AV)} {H:List (Nat×Ob)}
  (h1:@Ch P N ⟨l⟩ ⟨pre⟩ ⟨fun σ'=>Le σ' ⟨ofL .un E,ofH H⟩⟩ e h)
  (hd:d<N) (hcal:c.callee=.value x) (hx:evW (ofL .un E) x=.fn f []) (hfn:qD P f) {aa0:List AV} (haa:evL (ofL .un E) c.args.toList=aa0)
  (cl:Bool) (nms:List Nat) {args:List AV} {bs:List Ob} {post:AV→List Ob→List Ob→Prop} (hc:Con P f cl args bs post) (ha:aa0.map (snp (hpx cl nms (ofH H)) (idx nms) 6)=args)
  (hb:Jn (ofH H) nms nms=bs) (hnd:yp nms=true) (hl:jV (ofH H) nms)
  (hk:∀r hs bs',post r hs bs'→bs'.length=bs.length→(hs.length≤10000000∧qs (ofH H) (20000000+10000000*d) hs∧(cl=true→∀ob∈bs',ob.plain))∧
   @Ch P N ⟨l⟩ ⟨suf⟩ ⟨fun σ=>@W P N ⟨y⟩ ⟨Q⟩ σ.env σ.hp⟩ (upd (ofL .un E) d (r.ren (rho (20000000+10000000*d) nms))) (jM (QF (rho (20000000+10000000*d) nms) (ofH H) (20000000+10000000*d) hs) nms (bs'.map (Ob.ren (rho (20000000+10000000*d) nms))))):
  AW P N (.seq (.region id ⟨l⟩ false) y) Q ⟨e,h⟩:=by
 refine AW.seq fun L w0 R0 a w hi=>wp_region ?_
 have hl2:l=pre++⟨some d,.call c,ty,pos,af,none⟩::suf:=by rw[←hp,←hs,List.take_append_drop]
 have hr:List.range (⟨l⟩:Array Oper).size=List.range' 0 pre.length++(pre.length::(List.range' (pre.length+1) suf.length++[])):=by
  have hsz:(⟨l⟩:Array Oper).size=pre.length+(suf.length+1):=by show l.length=_;rw[hl2,List.length_append,List.length_cons]
  rw[hsz,List.append_nil,List.range_eq_range',List.range'_append_1.symm,Nat.zero_add,List.range'_succ]
 rw[hr]
 refine q0 (K:=fun σ'=>Le σ' ⟨ofL .un E,ofH H⟩) (fun σ a w hi2 hle=>?_) pre 0 (fun j hj=>?_) hi h1
 ·have hi3:=hle L w0 R0 N a w hi2
  obtain⟨R,ι,hR,hinv⟩:=hi3.inv
  have hget:(⟨l⟩:Array Oper)[pre.length]? =some ⟨some d,.call c,ty,pos,af,none⟩:=by
   rw[List.getElem?_toArray,hl2,List.getElem?_append_right (Nat.le_refl _),Nat.sub_self];rfl
  simp only[wpOps,hget]
  rw[if_pos (by simp[Region.wanted])]
  refine .inl (aac (c:=c) (x:=x) (f:=f) (σ:=⟨ofL .un E,ofH H⟩) rfl hcal (by rw[qF];exact hx) hfn hinv
   (K:=fun v hp'=>@Ch P N ⟨l⟩ ⟨suf⟩ ⟨fun σ=>@W P N ⟨y⟩ ⟨Q⟩ σ.env σ.hp⟩ (upd (ofL .un E) d v) hp') ?_ fun x w' R' ι' av hp' hR' hK hx hm hi'=>?_)
  ·have ea:c.args.toList.map (St.ev ⟨ofL .un E,ofH H⟩)=aa0:=by
    rw[←haa,zH]
    exact List.map_congr_left fun z _=>qF _ _ _
   rw[ea]
   refine⟨cl,nms,fun r hs bs'=>post r hs bs'∧bs'.length=bs.length,?_,zD hnd,hl,fun r hs bs' ⟨hp,hb⟩=>?_⟩
   ·rw[ha,←yX nms,hb];exact Con.len' hc
   ·obtain⟨⟨g1,g2,g3⟩,g4⟩:=hk r hs bs' hp hb
    exact⟨g1,g2,fun g=>.inr (g3 g),g4⟩
  ·refine q0 (K:=fun σ=>@W P N ⟨y⟩ ⟨Q⟩ σ.env σ.hp) (fun σ a w hi4 hq=>?_) suf (pre.length+1) (fun j hj=>?_) (hi3.put (o:=⟨some d,.call c,ty,pos,af,none⟩) hd hR hR' hx hm hi') hK
   ·exact⟨σ,hi4,W.sound hq⟩
   rw[List.getElem?_toArray,hl2,List.getElem?_append_right (by omega),show pre.length+1+j-pre.length=j+1 by omega];rfl
 ·rw[List.getElem?_toArray,hl2,Nat.zero_add,List.getElem?_append_left hj]
end
end Go.Ab
namespace Go.Ab
open Go
section
variable {P:Program}{L:Nat→Option Blk→Prop}{w0 w:World}{R:Nat→Prop}{ι:Nat→Option Blk}{a:Act}{σ:St}{K:AV→(Nat→Ob)→Prop}
theorem AW.regCallF{N:Nat}{Q:Exit→St→Prop}{e:Nat→AV}{h:Nat→Ob}{id:Nat}{l:List Oper}{y:Code}(k:Nat){pre suf:List Oper}{d ty:Nat}{pos:String}{af:Array Edge}{c}{x:Operand}{f:FuncId}
  (hp:l.take k=pre) (hs:l.drop k=⟨some d,.call c,ty,pos,af,none⟩::suf) {E:List (Nat×AV)} {H:List (Nat×Ob)}
  (h1:@Ch P N ⟨l⟩ ⟨pre⟩ ⟨fun σ'=>Le σ' ⟨ofL .un E,ofH H⟩⟩ e h)
  (hd:d<N) (hcal:c.callee=.value x) (hx:evW (ofL .un E) x=.fn f []) (hfn:qD P f) {aa0:List AV} (haa:evL (ofL .un E) c.args.toList=aa0)
  (cl:Bool) (nms:List Nat) {args:List AV} {bs:List Ob} {post:AV→List Ob→List Ob→Prop} (hc:Con P f cl args bs post) (ha:aa0.map (snp (hpx cl nms (ofH H)) (idx nms) 6)=args)
  (hb:Jn (ofH H) nms nms=bs) (hnd:yp nms=true) (hl:jV (ofH H) nms)
  (hk:∀r hs bs',post r hs bs'→bs'.length=bs.length→(hs.length≤10000000∧qs (ofH H) (20000000+10000000*d) hs∧(cl=true→∀ob∈bs',ob.plain))∧
   @Ch P N ⟨l⟩ ⟨suf⟩ ⟨fun σ=>AW P N y Q σ⟩ (upd (ofL .un E) d (r.ren (rho (20000000+10000000*d) nms))) (jM (QF (rho (20000000+10000000*d) nms) (ofH H) (20000000+10000000*d) hs) nms (bs'.map (Ob.ren (rho (20000000+10000000*d) nms))))):
  AW P N (.seq (.region id ⟨l⟩ false) y) Q ⟨e,h⟩:=by
 refine AW.seq fun L w0 R0 a w hi=>wp_region ?_
 have hl2:l=pre++⟨some d,.call c,ty,pos,af,none⟩::suf:=by rw[←hp,←hs,List.take_append_drop]
 have hr:List.range (⟨l⟩:Array Oper).size=List.range' 0 pre.length++(pre.length::(List.range' (pre.length+1) suf.length++[])):=by
  have hsz:(⟨l⟩:Array Oper).size=pre.length+(suf.length+1):=by show l.length=_;rw[hl2,List.length_append,List.length_cons]
  rw[hsz,List.append_nil,List.range_eq_range',List.range'_append_1.symm,Nat.zero_add,List.range'_succ]
 rw[hr]
 refine q0 (K:=fun σ'=>Le σ' ⟨ofL .un E,ofH H⟩) (fun σ a w hi2 hle=>?_) pre 0 (fun j hj=>?_) hi h1
 ·have hi3:=hle L w0 R0 N a w hi2
  obtain⟨R,ι,hR,hinv⟩:=hi3.inv
  have hget:(⟨l⟩:Array Oper)[pre.length]? =some ⟨some d,.call c,ty,pos,af,none⟩:=by
   rw[List.getElem?_toArray,hl2,List.getElem?_append_right (Nat.le_refl _),Nat.sub_self];rfl
  simp only[wpOps,hget]
  rw[if_pos (by simp[Region.wanted])]
  refine .inl (aac (c:=c) (x:=x) (f:=f) (σ:=⟨ofL .un E,ofH H⟩) rfl hcal (by rw[qF];exact hx) hfn hinv
   (K:=fun v hp'=>@Ch P N ⟨l⟩ ⟨suf⟩ ⟨fun σ=>AW P N y Q σ⟩ (upd (ofL .un E) d v) hp') ?_ fun x w' R' ι' av hp' hR' hK hx hm hi'=>?_)
  ·have ea:c.args.toList.map (St.ev ⟨ofL .un E,ofH H⟩)=aa0:=by
    rw[←haa,zH]
    exact List.map_congr_left fun z _=>qF _ _ _
   rw[ea]
   refine⟨cl,nms,fun r hs bs'=>post r hs bs'∧bs'.length=bs.length,?_,zD hnd,hl,fun r hs bs' ⟨hp,hb⟩=>?_⟩
   ·rw[ha,←yX nms,hb];exact Con.len' hc
   ·obtain⟨⟨g1,g2,g3⟩,g4⟩:=hk r hs bs' hp hb
    exact⟨g1,g2,fun g=>.inr (g3 g),g4⟩
  ·refine q0 (K:=fun σ=>AW P N y Q σ) (fun σ a w hi4 hq=>?_) suf (pre.length+1) (fun j hj=>?_) (hi3.put (o:=⟨some d,.call c,ty,pos,af,none⟩) hd hR hR' hx hm hi') hK
   ·exact⟨σ,hi4,hq⟩
   rw[List.getElem?_toArray,hl2,List.getElem?_append_right (by omega),show pre.length+1+j-pre.length=j+1 by omega];rfl
 ·rw[List.getElem?_toArray,hl2,Nat.zero_add,List.getElem?_append_left hj]
def ac2:Nat→Code→Code
 |k+1,.seq a b=>.seq a (ac2 k b)
 |_,_=>.skip
def YA:Nat→Code→Code
 |k+1,.seq _ b=>YA k b
 |0,c=>c
 |k+1,c=>.seq .skip c
theorem Ju{N:Nat}{Q:Exit→St→Prop}:∀(k:Nat) (c:Code) (σ:St),(∀j,j<k→∃a b,YA j c=.seq a b)→WF P N (ac2 k c) (Zf (AW P N (YA k c) Q) Q) σ→AW P N c Q σ
 |0,c,σ,_,h=>by
  cases c<;>exact h
 |k+1,.seq x y,σ,hh,h=>by
  have h:WF P N x (Zf (WF P N (ac2 k y) (Zf (AW P N (YA k y) Q) Q)) (Zf (AW P N (YA k y) Q) Q)) σ:=h
  refine AW.seq ((WF.sound x h).mono fun e σ' h'=>?_)
  cases e with
  |normal=>exact Ju k y σ' (fun j hj=>hh (j+1) (by omega)) h'
  |_=>exact h'
 |k+1,.skip,σ,hh,h=>by obtain⟨a,b,e⟩:=hh 0 (by omega);cases e
 |k+1,.region _ _ _,σ,hh,h=>by obtain⟨a,b,e⟩:=hh 0 (by omega);cases e
 |k+1,.cond _ _ _,σ,hh,h=>by obtain⟨a,b,e⟩:=hh 0 (by omega);cases e
 |k+1,.block _ _,σ,hh,h=>by obtain⟨a,b,e⟩:=hh 0 (by omega);cases e
 |k+1,.loop _,σ,hh,h=>by obtain⟨a,b,e⟩:=hh 0 (by omega);cases e
 |k+1,.exit _,σ,hh,h=>by obtain⟨a,b,e⟩:=hh 0 (by omega);cases e
 |k+1,.ret,σ,hh,h=>by obtain⟨a,b,e⟩:=hh 0 (by omega);cases e
 |k+1,.rangeFunc _ _ _ _,σ,hh,h=>by obtain⟨a,b,e⟩:=hh 0 (by omega);cases e
 |k+1,.scope _,σ,hh,h=>by obtain⟨a,b,e⟩:=hh 0 (by omega);cases e
 |k+1,.label _,σ,hh,h=>by obtain⟨a,b,e⟩:=hh 0 (by omega);cases e
 |k+1,.goto _,σ,hh,h=>by obtain⟨a,b,e⟩:=hh 0 (by omega);cases e
 |k+1,.refuse _,σ,hh,h=>by obtain⟨a,b,e⟩:=hh 0 (by omega);cases e
def aaN:Nat→Code→Bool
 |0,_=>true
 |k+1,.seq _ b=>aaN k b
 |_+1,_=>false
theorem QV:∀(k:Nat) (c:Code),aaN k c=true→∀j,j<k→∃a b,YA j c=.seq a b
 |k+1,.seq x y,h,0,_=>⟨x,y,rfl⟩
 |k+1,.seq x y,h,j+1,hj=>QV k y h j (by omega)
theorem AW.front{N:Nat}{Q:Exit→St→Prop}{e:Nat→AV}{h:Nat→Ob}{c:Code}(k:Nat){pre suf:Code}(hq:aaN k c=true)(hp:ac2 k c=pre)(hs:YA k c=suf)(hw:@W P N ⟨pre⟩ ⟨fun x σ=>@zr ⟨AW P N suf Q⟩ ⟨Q⟩ x σ⟩ e h):AW P N c Q ⟨e,h⟩:=by
 subst hp hs
 exact Ju k c ⟨e,h⟩ (QV k c hq) hw
theorem AW.front1{N:Nat}{Q:Exit→St→Prop}{e:Nat→AV}{h:Nat→Ob}{x0 y:Code}(hw:@W P N ⟨.seq x0 (.skip)⟩ ⟨fun x σ=>@zr ⟨AW P N y Q⟩ ⟨Q⟩ x σ⟩ e h):AW P N (.seq x0 (y)) Q ⟨e,h⟩:=AW.front 1 rfl rfl rfl hw
theorem AW.front2{N:Nat}{Q:Exit→St→Prop}{e:Nat→AV}{h:Nat→Ob}{x0 x1 y:Code}(hw:@W P N ⟨.seq x0 (.seq x1 (.skip))⟩ ⟨fun x σ=>@zr ⟨AW P N y Q⟩ ⟨Q⟩ x σ⟩ e h):AW P N (.seq x0 (.seq x1 (y))) Q ⟨e,h⟩:=AW.front 2 rfl rfl rfl hw
theorem AW.front3{N:Nat}{Q:Exit→St→Prop}{e:Nat→AV}{h:Nat→Ob}{x0 x1 x2 y:Code}(hw:@W P N ⟨.seq x0 (.seq x1 (.seq x2 (.skip)))⟩ ⟨fun x σ=>@zr ⟨AW P N y Q⟩ ⟨Q⟩ x σ⟩ e h):AW P N (.seq x0 (.seq x1 (.seq x2 (y)))) Q ⟨e,h⟩:=AW.front 3 rfl rfl rfl hw
theorem AW.front4{N:Nat}{Q:Exit→St→Prop}{e:Nat→AV}{h:Nat→Ob}{x0 x1 x2 x3 y:Code}(hw:@W P N ⟨.seq x0 (.seq x1 (.seq x2 (.seq x3 (.skip))))⟩ ⟨fun x σ=>@zr ⟨AW P N y Q⟩ ⟨Q⟩ x σ⟩ e h):AW P N (.seq x0 (.seq x1 (.seq x2 (.seq x3 (y))))) Q ⟨e,h⟩:=AW.front 4 rfl rfl rfl hw
theorem AW.front6{N:Nat}{Q:Exit→St→Prop}{e:Nat→AV}{h:Nat→Ob}{x0 x1 x2 x3 x4 x5 y:Code}(hw:@W P N ⟨.seq x0 (.seq x1 (.seq x2 (.seq x3 (.seq x4 (.seq x5 (.skip))))))⟩ ⟨fun x σ=>@zr ⟨AW P N y Q⟩ ⟨Q⟩ x σ⟩ e h):AW P N (.seq x0 (.seq x1 (.seq x2 (.seq x3 (.seq x4 (.seq x5 (y))))))) Q ⟨e,h⟩:=AW.front 6 rfl rfl rfl hw
end
end Go.Ab
namespace Go.Ab
open Go
/-! ### Families:objects in a row of names,as many as there are-/
def fam(b n:Nat)(F:Nat→Ob)(h:Nat→Ob)(m:Nat):Ob:=if b≤m∧m<b+n then F (m-b)else h m
section
variable {P:Program}{N:Nat}{Q:Exit→St→Prop}{σ:St}
def nmF(ks:List Nat)(b n:Nat)(m:Nat):Prop:=jJ ks m∨(b≤m∧m<b+n)
def ar5(ρ:Nat→Nat)(e:Nat→AV)(p:Nat→Prop):List (Nat×AV)→Prop
 | []=>True
 |(s,v)::r=>(v.ren ρ=e s∧v.All p)∧ar5 ρ e p r
def ar4(ρ:Nat→Nat)(h:Nat→Ob)(p:Nat→Prop):List (Nat×Ob)→Prop
 | []=>True
 |(k,ob)::r=>(ob.ren ρ=h (ρ k)∧ob.men p∧ob.isOwn)∧ar4 ρ h p r
end
end Go.Ab
namespace Go.Ab
open Go
def arH(o:Ob):Prop:=o.isOwn∧(∀ρ,o.ren ρ=o)∧(∀p:Nat→Prop,o.men p)
def ar8(b i c m:Nat):Nat:=if m=b+i then c else m
section
variable {P:Program}{N:Nat}{Q:Exit→St→Prop}{σ:St}
def ar3(ρ:Nat→Nat)(p:Nat→Prop):List AV→List AV→Prop
 | [],[]=>True
 |v::r,a::l=>(v.ren ρ=a∧v.All p)∧ar3 ρ p r l
 |_,_=>False
end
end Go.Ab
namespace Go.Ab
open Go
section
variable {P:Program}{L:Nat→Option Blk→Prop}{w0 w:World}{R:Nat→Prop}{ι:Nat→Option Blk}{a:Act}{σ:St}{K:AV→(Nat→Ob)→Prop}
def asB(b0 b n:Nat):List Nat:=b0::(List.range n).map (b+ ·)
end
end Go.Ab
namespace Go.Ab
open Go
/-! ### New bytes of any content-/
def ajo(P:Program)(f t:Nat):Prop:=∃fn ps e,P.funcs[f]? =some fn∧(fn.name== "runtime.NumGoroutine")=false∧fn.body.isNone=true∧Extern.findNext fn=none∧Extern.find fn=some (Extern.BytealgMakeNoZero.makeNoZero ps #[t])∧P.underlying t=some (.slice e)
section
variable {P:Program}{L:Nat→Option Blk→Prop}{w0 w:World}{R:Nat→Prop}{ι:Nat→Option Blk}{a:Act}{σ:St}{K:AV→(Nat→Ob)→Prop}
 {next:Act→World→Prop} {Q:Exit→Act→World→Prop}
theorem aad{o:Oper}{c}{x:Operand}{f t n:Nat}(ho:o.op=.call c)(hc:c.callee=.value x)(e:σ.ev x=.fn f [])(hfn:ajo P f t)(h:Inv L w0 R ι w a.tmps σ)
  (ha:c.args.toList.map σ.ev=[.v (.int .i64 n)]) (hn:n≤140737488355328) (hf:σ.hp (crn o)=.free) (hK:K (.rf (crn o) 0 n) (upd σ.hp (crn o) (.own 1 (List.replicate n .un))))
  (hnext:∀x w' R' ι' av hp',(∀b,R' b→R b∨w.heap.size≤b)→K av hp'→Rep R' ι' w' x av→av.All (fun m=>hp' m≠ .free)→Inv L w0 R' ι' w' a.tmps ⟨σ.env,hp'⟩→next (a.put o.dst x) w'):
  o.wp P a w next Q:=by
 unfold Oper.wp
 refine jo ?_ hnext
 have hv:=yD h c.args
 rw[ha]at hv
 obtain⟨fn,ps,te,h1,h2,h3,h4,h5,h6⟩:=hfn
 have hx:=h.ev x
 rw[e]at hx
 obtain⟨vs,hx,g1,g2⟩:=hx.fn_inv
 have hvs:vs= #[]:=Array.size_eq_zero_iff.1 (by simpa using g1)
 subst hvs
 have hargs:c.args.map a.eval= #[.int .i64 n]:=by
  obtain⟨s1,s2⟩:=hv
  have h0:=s2 0 (by simp)
  simp only[List.getElem_cons_zero]at h0
  have h1:(c.args.map a.eval).size=1:=by simpa using s1
  have h3:=h0.v_inv
  apply Array.ext
  ·simpa using h1
  ·intro i hi hj
   have:i=0:=by omega
   subst this
   have hs:0<c.args.size:=by simpa using hi
   simpa [Array.getD,hi,hs]using h3
 obtain⟨cs,hr,hle, -⟩:=Lib.run_makeNoZero (P:=P) w ps t te h6 n (by omega)
 have hrun:(execOp a.eval o).run P w=.ok (.value (.slice (some ⟨w.heap.size,0,none⟩) n cs.size)) (w.drew.drew.alloc (.cells cs te)):=by
  simp only[execOp,ho,resolve,hc,hx,Deferred.ofValue,Sem.run_bind,Sem.run_pure,Result.andThen,invoke,Array.empty_append,Array.append_empty,hargs]
  rw[run_callFunc_extern h1 h2 h3 h4 h5,hr];rfl
 rw[hrun]
 exact Snd.alloc (w:=w.drew.drew) (z:=1) (n:=n) (cap:=cs.size) (cs:=List.replicate n .un) h.drew.drew hf (AllL.of_mem fun a ha=>by rw[(List.mem_replicate.1 ha).2];trivial) (by simpa using hle) (fun i hi=>by rw[List.getElem_replicate];exact .fr _ _ (.un _)) rfl hK (.inr ⟨rfl,rfl,hle,by omega⟩)
end
end Go.Ab
namespace Go.Ab
open Go
/-! ### Rows of texts-/
def tcs(t:List UInt8):List AV:=[.sl t.length (qa t)]
theorem alf(t:List UInt8):(tcs t).length=1:=rfl
theorem ahb{ρ:Nat→Nat}{l:List (List UInt8)}:zb ρ (qy tcs l)=qy tcs l:=jG fun t=>rfl
theorem ac0{hp:Nat→Ob}{k:Nat}{l:List (List UInt8)}:(qy tcs l).map (qx hp (k+1))=qy tcs l:=jr fun t=>rfl
theorem ahd{p:Nat→Prop}{l:List (List UInt8)}:AllL p (qy tcs l)=True:=eq_true (jI fun t=>by simp[tcs,AllL,AV.All])
theorem j8{l:List (List UInt8)}:(qy tcs l).length=l.length:=by rw[jH alf,Nat.mul_one]
theorem Xa{l:List (List UInt8)}{t:List UInt8}:qy tcs l++[.sl t.length (qa t)]=qy tcs (l++[t]):=by
 rw[←K0,zz,Yf,List.append_nil];rfl
theorem J9{l:List (List UInt8)}{k:Nat}(h:l.length=k):cut (qy tcs l) 0 (k*1)=qy tcs l:=by
 unfold cut;rw[List.drop_zero,List.take_of_length_le (by rw[j8];omega)]
theorem ahc{l:List (List UInt8)}{i:Nat}(hi:i<l.length):(qy tcs l).getD i .un=.sl (l.getD i []).length (qa (l.getD i [])):=by
 have h:=Yg (f:=tcs) alf hi []
 rw[Nat.mul_one]at h
 have h2:(cut (qy tcs l) i 1)[0]? =some (.sl (l.getD i []).length (qa (l.getD i []))):=by rw[h];rfl
 unfold cut at h2
 rw[List.getElem?_take_of_lt (by omega),List.getElem?_drop]at h2
 rw[List.getD_eq_getElem?_getD,show i=i+0 by omega,h2];rfl
theorem ac1{l:List (List UInt8)}{k n:Nat}(h:l.length=k+n):cut (qy tcs l) (k*1) (n*1)=qy tcs (l.drop k):=by
 have e:qy tcs l=qy tcs (l.take k)++qy tcs (l.drop k):=by rw[K0,List.take_append_drop]
 unfold cut
 rw[e,List.drop_append_of_le_length (by rw[j8,List.length_take];omega),List.drop_of_length_le (by rw[j8,List.length_take];omega),List.nil_append,List.take_of_length_le (by rw[j8,List.length_drop];omega)]
theorem jT{h:Nat→Ob}{sz i:Nat}{l:List (List UInt8)}{K:AV→Prop}(hi:i<l.length):@jy false sz h (.fp (qy tcs l) i) ⟨K⟩=K (.sl (l.getD i []).length (qa (l.getD i []))):=by
 rw[Yp,aog,cond_false,j8,ahc hi]
 exact propext ⟨fun h=>h.2,fun h=>⟨by omega,h⟩⟩
theorem Y6{n:Nat}:(List.replicate n AV.un).length=n:=List.length_replicate
theorem akX{ρ:Nat→Nat}{n:Nat}:zb ρ (List.replicate n AV.un)=List.replicate n .un:=by
 rw[qA,List.map_replicate];rfl
theorem ak0{p:Nat→Prop}{n:Nat}:AllL p (List.replicate n AV.un)=True:=eq_true (AllL.of_mem fun a ha=>by rw[(List.mem_replicate.1 ha).2];trivial)
theorem agb{acc xs:List UInt8}{n:Nat}(h:xs.length≤n):wr (qa acc++List.replicate n .un) acc.length (qa xs)=qa (acc++xs)++List.replicate (n-xs.length) .un:=by
 have e:List.replicate n AV.un=List.replicate xs.length .un++List.replicate (n-xs.length) .un:=by rw[List.replicate_append_replicate];congr 1;omega
 have hl:∀(A B:List AV) (ks:List AV) (o:Nat),o+ks.length≤A.length→wr (A++B) o ks=wr A o ks++B:=by
  intro A B ks
  induction ks generalizing A with
  |nil=>intro o _;rfl
  |cons k ks ih=>
   intro o h
   rw[List.length_cons]at h
   show wr ((A++B).set o k) (o+1) ks=wr (A.set o k) (o+1) ks++B
   rw[List.set_append_left _ _ (by omega),ih (A.set o k) (o+1) (by rw[List.length_set];omega)]
 rw[e,←List.append_assoc,hl _ _ _ _ (by rw[List.length_append,qo,qo,Y6];exact Nat.le_refl _)]
 have h3:=yI (qa acc) (List.replicate xs.length .un) (qa xs) (by rw[Y6,qo])
 rw[qo]at h3
 rw[h3,qK]
def zg(sep:List UInt8)(l:List (List UInt8)):List UInt8:=(l.map fun t=>sep++t).flatten
def Yt(sep:List UInt8):List (List UInt8)→List UInt8
 | []=>[]
 |t::r=>t++zg sep r
theorem aiF:∀{l:List (List UInt8)},Yt [32] l=Qy l
 | []=>rfl
 |t::r=>rfl
def qU:List (List UInt8)→Nat
 | []=>0
 |t::r=>t.length+qU r
theorem jg:∀{a b:List (List UInt8)},qU (a++b)=qU a+qU b
 | [],b=>by show qU b=0+qU b;omega
 |t::r,b=>by
  show t.length+qU (r++b)=t.length+qU r+qU b
  rw[jg];omega
theorem Z3{sep:List UInt8}:∀{l:List (List UInt8)},(zg sep l).length=qU l+l.length*sep.length
 | []=>by simp[zg,qU]
 |t::r=>by
  show((sep++t)++zg sep r).length=t.length+qU r+(r.length+1)*sep.length
  rw[List.length_append,List.length_append,Z3,Nat.add_mul,Nat.one_mul];omega
theorem aaJ{sep:List UInt8}{t:List UInt8}{r:List (List UInt8)}:(Yt sep (t::r)).length=qU (t::r)+r.length*sep.length:=by
 show(t++zg sep r).length=t.length+qU r+_
 rw[List.length_append,Z3];omega
theorem Z4{sep:List UInt8}{a b:List (List UInt8)}:zg sep (a++b)=zg sep a++zg sep b:=by simp[zg]
attribute [go_sem] ahb ac0 ahd j8 Y6 akX ak0
end Go.Ab
namespace Go.Ab
open Go
/-! ### A slice cut in its capacity-/
section
variable {P:Program}{L:Nat→Option Blk→Prop}{w0 w:World}{R:Nat→Prop}{ι:Nat→Option Blk}{a:Act}{σ:St}{K:AV→(Nat→Ob)→Prop}
 {next:Act→World→Prop} {Q:Exit→Act→World→Prop}
theorem ahU{o:Oper}{t:Nat}{x y z:Operand}{n nm:Nat}(ho:o.op=.slice t x none (some y) (some z))(h:Inv L w0 R ι w a.tmps σ)(hx:σ.ev x=.rf nm 0 n)(hy:σ.ev y=.v (.int .i64 n))(hz:σ.ev z=.v (.int .i64 n))
  (hl:KT P t fun te=>True) (hm:σ.hp nm≠ .free) (hK:K (.rf nm 0 n) σ.hp)
  (hnext:∀x w' R' ι' av hp',(∀b,R' b→R b∨w.heap.size≤b)→K av hp'→Rep R' ι' w' x av→av.All (fun m=>hp' m≠ .free)→Inv L w0 R' ι' w' a.tmps ⟨σ.env,hp'⟩→next (a.put o.dst x) w'):
  o.wp P a w next Q:=by
 unfold Oper.wp
 refine jo ?_ hnext
 obtain⟨ti,e,te,ht,hk,hte, -⟩:=hl
 have hu:=zJ (w:=w) ht hk
 have h1:=h.ev x
 rw[hx]at h1
 have h2:=h.ev y
 rw[hy]at h2
 have h3:=h.ev z
 rw[hz]at h3
 obtain⟨ad,cap,e1,hcap,hs⟩:=h1.rf_inv
 have e2:=h2.v_inv
 have e3:=h3.v_inv
 have hb:(Instr.sliceBounds true n cap none (some (.int .i64 n)) (some (.int .i64 n))).run P w=.ok (0,n,n) w:=by
  unfold Instr.sliceBounds
  simp only[Sem.run_bind,Result.andThen]
  rw[zP (P:=P) (w:=w) (X:=.int .i64 n) (k:=.i64) (i:=n) (y:=cap) rfl (by omega) (by omega)]
  simp only[Int.toNat_natCast]
  rw[zP (P:=P) (w:=w) (X:=.int .i64 n) (k:=.i64) (i:=n) (y:=n) rfl (by omega) (by omega)]
  simp
 have hrun:(execOp a.eval o).run P w=.ok (.value (.slice (if n=0 then ad else ad.map (·.add (0*te.size))) (n-0) (n-0))) w:=by
  simp only[execOp,ho,e1,Option.map_none,Option.map_some,e2,e3]
  unfold Instr.sliceAt Instr.slice
  simp only[Sem.run_bind,hu,Result.andThen,hb,qW hte,Sem.run_pure]
 rw[hrun]
 refine Snd.same h rfl hK (.rf _ _ _ _ _ ⟨by omega,?_⟩) (by simpa [AV.All]using hm)
 cases hB:ι nm with
 |none=>rw[hB]at hs;simp only at hs ⊢;omega
 |some B=>
  rw[hB]at hs
  intro hp
  obtain⟨rfl,h4⟩:=hs (by omega)
  refine⟨by rw[if_neg (by omega)];simp[zC],?_⟩
  have:(n-0)*B.z≤cap*B.z:=Nat.mul_le_mul_right _ (by omega)
  omega
theorem AW.regNozero3{N:Nat}{Q:Exit→St→Prop}{e:Nat→AV}{h:Nat→Ob}{id:Nat}{l:List Oper}{y:Code}(k j:Nat){pre mid suf rest:List Oper}{d ty:Nat}{pos:String}{af:Array Edge}{c}{x:Operand}{f t n:Nat}
  {d2 ty2 t2:Nat} {pos2:String} {af2:Array Edge} {x2 y2 z2:Operand}
  (hp:l.take k=pre) (hsr:l.drop k=⟨some d,.call c,ty,pos,af,none⟩::rest) (hp2:rest.take j=mid) (hsr2:rest.drop j=⟨some d2,.slice t2 x2 none (some y2) (some z2),ty2,pos2,af2,none⟩::suf) {e' e2:Nat→AV} {h' h2:Nat→Ob}
  (h1:@Ch P N ⟨l⟩ ⟨pre⟩ ⟨fun σ'=>Le σ' ⟨e',h'⟩⟩ e h)
  (hd:d<N) (hcal:c.callee=.value x) (hx:evW e' x=.fn f []) (hfn:ajo P f t) (haa:evL e' c.args.toList=[.v (.int .i64 n)]) (hn:n≤140737488355328) (hf:h' (20000000+10000000*d)=.free)
  (hmid:@Ch P N ⟨l⟩ ⟨mid⟩ ⟨fun σ'=>Le σ' ⟨e2,h2⟩⟩ (upd e' d (.rf (20000000+10000000*d) 0 n)) (upd h' (20000000+10000000*d) (.own 1 (List.replicate n .un))))
  (hd2:d2<N) {nm:Nat} (hx2:evW e2 x2=.rf nm 0 n) (hy2:evW e2 y2=.v (.int .i64 n)) (hz2:evW e2 z2=.v (.int .i64 n)) (hs2:KT P t2 fun te=>True) (hm2:h2 nm≠ .free)
  (hcall:@Ch P N ⟨l⟩ ⟨suf⟩ ⟨fun σ=>AW P N y Q σ⟩ (upd e2 d2 (.rf nm 0 n)) h2):
  AW P N (.seq (.region id ⟨l⟩ false) y) Q ⟨e,h⟩:=by
 have hl2:l=pre++⟨some d,.call c,ty,pos,af,none⟩::(mid++⟨some d2,.slice t2 x2 none (some y2) (some z2),ty2,pos2,af2,none⟩::suf):=by rw[←hp,←hp2,←hsr2,List.take_append_drop,←hsr,List.take_append_drop]
 refine AW.seq fun L w0 R0 a w hi=>wp_region ?_
 have hr:List.range (⟨l⟩:Array Oper).size=List.range' 0 pre.length++(pre.length::(List.range' (pre.length+1) mid.length++((pre.length+1+mid.length)::(List.range' (pre.length+1+mid.length+1) suf.length++[])))):=by
  have hsz:(⟨l⟩:Array Oper).size=pre.length+(mid.length+(suf.length+1)+1):=by show l.length=_;rw[hl2];simp
  rw[hsz,List.append_nil,List.range_eq_range',List.range'_append_1.symm,Nat.zero_add,List.range'_succ,List.range'_append_1.symm,List.range'_succ]
 have hg1:(⟨l⟩:Array Oper)[pre.length]? =some ⟨some d,.call c,ty,pos,af,none⟩:=by
  rw[List.getElem?_toArray,hl2,List.getElem?_append_right (Nat.le_refl _),Nat.sub_self];rfl
 have hg2:(⟨l⟩:Array Oper)[pre.length+1+mid.length]? =some ⟨some d2,.slice t2 x2 none (some y2) (some z2),ty2,pos2,af2,none⟩:=by
  rw[List.getElem?_toArray,hl2,List.getElem?_append_right (by omega),show pre.length+1+mid.length-pre.length=mid.length+1 by omega,List.getElem?_cons_succ,List.getElem?_append_right (Nat.le_refl _),Nat.sub_self];rfl
 rw[hr]
 refine q0 (K:=fun σ'=>Le σ' ⟨e',h'⟩) (fun σ a w hi2 hle=>?_) pre 0 (fun j hj=>?_) hi h1
 ·have hi3:=hle L w0 R0 N a w hi2
  obtain⟨R,ι,hR,hinv⟩:=hi3.inv
  simp only[wpOps,hg1]
  rw[if_pos (by simp[Region.wanted])]
  refine .inl (aad (c:=c) (x:=x) (f:=f) (t:=t) (n:=n) (σ:=⟨e',h'⟩) rfl hcal (by rw[qF];exact hx) hfn hinv
   (K:=fun v hp'=>v=.rf (20000000+10000000*d) 0 n∧hp'=upd h' (20000000+10000000*d) (.own 1 (List.replicate n .un))) ?_ hn hf ⟨rfl,rfl⟩ fun x w' R' ι' av hp' hR' hK hx hm hi'=>?_)
  ·rw[←haa,zH]
   exact List.map_congr_left fun z _=>(qF _ _ _).symm▸rfl
  ·obtain⟨rfl,rfl⟩:=hK
   refine q0 (K:=fun σ'=>Le σ' ⟨e2,h2⟩) (fun σ a w hi4 hle2=>?_) mid (pre.length+1) (fun j hj=>?_) (hi3.put (o:=⟨some d,.call c,ty,pos,af,none⟩) hd hR hR' hx hm hi') hmid
   ·have hi5:=hle2 L w0 R0 N a w hi4
    obtain⟨R2,ι2,hR2,hinv2⟩:=hi5.inv
    simp only[wpOps,hg2]
    rw[if_pos (by simp[Region.wanted])]
    refine .inl (ahU (t:=t2) (x:=x2) (y:=y2) (z:=z2) (n:=n) (nm:=nm) (σ:=⟨e2,h2⟩) rfl hinv2 (by rw[qF];exact hx2) (by rw[qF];exact hy2) (by rw[qF];exact hz2) hs2 hm2
     (K:=fun v hp'=>v=.rf nm 0 n∧hp'=h2) ⟨rfl,rfl⟩ fun x w' R' ι' av hp' hR' hK hx hm hi'=>?_)
    obtain⟨rfl,rfl⟩:=hK
    refine q0 (K:=fun σ=>AW P N y Q σ) (fun σ a w hi6 hq=>?_) suf (pre.length+1+mid.length+1) (fun j hj=>?_) (hi5.put (o:=⟨some d2,.slice t2 x2 none (some y2) (some z2),ty2,pos2,af2,none⟩) hd2 hR2 hR' hx hm hi') hcall
    ·exact⟨σ,hi6,hq⟩
    ·rw[List.getElem?_toArray,hl2,List.getElem?_append_right (by omega),show pre.length+1+mid.length+1+j-pre.length=mid.length+1+j+1 by omega,List.getElem?_cons_succ,List.getElem?_append_right (by omega),show mid.length+1+j-mid.length=j+1 by omega];rfl
   ·rw[List.getElem?_toArray,hl2,List.getElem?_append_right (by omega),show pre.length+1+j-pre.length=j+1 by omega,List.getElem?_cons_succ,List.getElem?_append_left hj]
 ·rw[List.getElem?_toArray,hl2,Nat.zero_add,List.getElem?_append_left hj]
end
end Go.Ab
namespace Go.Ab
open Go Go.Proofs
/-! ### Texts joined-/
theorem Vz:ajo Try.prog 55 24:=
 ⟨_,#[3],_,Try.func55,by kernel_rfl,by kernel_rfl,by kernel_rfl,by kernel_rfl,Try.underlying24⟩
set_option maxRecDepth 100000 in
theorem ae1(sep:List UInt8)(ts:List (List UInt8))(hs1:1≤sep.length∧sep.length≤10)(hm:ts.length≤100)(hne:∀t∈ts,t≠[]∧t.length≤1000000):Con Try.prog 39 true [.sl ts.length (qy tcs ts),.sl sep.length (qa sep)] [] (fun r hs bs=>∃zs,r=.rf 0 0 (Yt sep ts).length∧hs=[.own 1 (qa (Yt sep ts++zs))]):=by
 cases ts with
 |nil=>
  refine Con.of_aw Try.func39 rfl Try.ntmps39 (by simp) (by simp) (by simp) (W.sound ?_)
  show @W Try.prog 92 ⟨_⟩ ⟨fun x σ=>@qO _ _ _ ⟨_⟩ _ ⟨_⟩ x σ⟩ _ _
  simp(disch:=omega)only[go_sem]
  refine qb [(0,170000000)] [.own 1 []] [] [.rf 0 0 0] rfl (by simp(disch:=omega)only[go_sem]) (by simp(disch:=omega)only[go_sem]) (by simp) (by intro _;simp[qN,AV.pu,AV.pu.puL,Ob.pu]) ⟨[],rfl,rfl⟩
 |cons t r=>
  cases r with
  |nil=>
   have ht:=hne t (by simp)
   have hl0:t.length≠0:=fun e=>ht.1 (List.length_eq_zero_iff.1 e)
   rw[show qy tcs [t]=[.sl t.length (qa t)] from rfl]
   refine Con.of_aw Try.func39 rfl Try.ntmps39 (by simp) (by simp) (by simp) (W.sound ?_)
   show @W Try.prog 92 ⟨_⟩ ⟨fun x σ=>@qO _ _ _ ⟨_⟩ _ ⟨_⟩ x σ⟩ _ _
   simp(disch:=omega)only[go_sem]
   refine⟨by omega,?_⟩
   refine qb [(0,240000000)] [.own 1 (qa t)] [] [.rf 0 0 t.length] rfl (by simp(disch:=omega)only[go_sem]) (by simp(disch:=omega)only[go_sem]) (by simp) (by intro _;simp[qN,AV.pu,AV.pu.puL,Ob.pu,qL]) ⟨[],?_,?_⟩
   ·show _=AV.rf 0 0 (t++zg sep []).length
    rw[show zg sep []=[] from rfl,List.append_nil];rfl
   ·show _=[Ob.own 1 (qa ((t++zg sep [])++[]))]
    rw[show zg sep []=[] from rfl,List.append_nil,List.append_nil]
  |cons t2 r2=>
   obtain⟨m,hmm⟩:∃m,m=(t::t2::r2).length:=⟨_,rfl⟩
   have h2:2≤m:=by rw[hmm];simp
   have hlens:∀i,i≤m→qU ((t::t2::r2).take i)≤1000000*i:=fun i=>by
    induction i with
    |zero=>intro _;exact Nat.le_refl _
    |succ i ih=>
     intro hi
     have hi2:i<(t::t2::r2).length:=by omega
     have h1:=(hne _ (List.getElem_mem hi2)).2
     have:=ih (by omega)
     rw[List.take_add_one,List.getElem?_eq_getElem hi2,jg]
     show _+(_+0)≤_
     omega
   have hT:=@aaJ sep t (t2::r2)
   have hrl:(t2::r2).length=m-1:=by rw[hmm];simp
   rw[hrl]at hT
   have htk:qU (t::t2::r2)≤1000000*m:=by
    have:=hlens m (Nat.le_refl m)
    rwa[hmm,List.take_length,←hmm]at this
   have hms:(m-1)*sep.length≤1000:=Nat.le_trans (Nat.mul_le_mul (show m-1≤100 by omega) hs1.2) (by omega)
   obtain⟨S,hS⟩:∃S,S=(m-1)*sep.length:=⟨_,rfl⟩
   rw[←hS]at hT hms
   have hSi:(sep.length:Int)*((m:Int)-1)=(S:Int):=by rw[hS,Int.natCast_mul,Int.mul_comm];congr 1;omega
   have hdiv:decide ((9223372036854775807:Int)/((m:Int)-1)≤(sep.length:Int))=false:=by
    apply decide_eq_false
    intro hle
    have h3:((sep.length:Int)+1)≤9223372036854775807/((m:Int)-1):=(Int.le_ediv_iff_mul_le (by omega)).2 (by rw[Int.add_mul,Int.one_mul,hSi];omega)
    omega
   rw[←hmm]
   have hw:IntKind.i64.wrap ((9223372036854775807:Int)/((m:Int)-1))=9223372036854775807/((m:Int)-1):=by
    have a:0≤(9223372036854775807:Int)/((m:Int)-1):=Int.ediv_nonneg (by omega) (by omega)
    have b:(9223372036854775807:Int)/((m:Int)-1)≤9223372036854775807:=Int.ediv_le_self _ (by omega)
    rw[IntKind.wrap_i64]
    omega
   generalize hts:t::t2::r2=ts at*
   have hlm:ts.length=m:=hmm.symm
   refine Con.of_aw Try.func39 rfl Try.ntmps39 (by simp) (by simp) (by simp) (AW.front6 ?_)
   show @W Try.prog 92 ⟨_⟩ ⟨fun x σ=>@zr ⟨_⟩ ⟨_⟩ x σ⟩ _ _
   simp(disch:=omega)only[go_sem,decide_eq_false (show ¬(m:Int)=0 by omega),decide_eq_false (show ¬(m:Int)=1 by omega),decide_eq_true (show(0:Int)<(sep.length:Int) by omega),hw,hdiv,hSi]
   refine⟨by omega,?_⟩
   have hlt:∀i,i<m→qU (ts.take (i+1))=qU (ts.take i)+(ts.getD i []).length:=fun i hi=>by
    rw[List.take_add_one,List.getElem?_eq_getElem (by omega),jg,List.getD_eq_getElem?_getD,List.getElem?_eq_getElem (by omega)];rfl
   refine qf (fun i:Nat=>[(0,.sl m (qy tcs ts)),(1,.sl sep.length (qa sep)),(5,.v (.int .i64 ((S+qU (ts.take i):Nat):Int))),(42,.sl m (qy tcs ts)),(43,.v (.int .i64 m)),(44,.v (.int .i64 i))]) (fun _=>[]) (fun i=>i≤m) (fun i=>m-i) 0 (by omega)
    (Le.lst [] _ _ rfl (by simp(disch:=omega)only[go_sem,List.take_zero,qU,Int.zero_add,Nat.add_zero]) (by simp(disch:=omega)only[go_sem])) ?_
   intro i hi
   simp(disch:=omega)only[go_sem]
   refine qd (fun c1=>?_) (fun c1=>?_)
   ·have hi2:i<ts.length:=by omega
    have hl1:=fun(h:Nat→Ob) (K:AV→Prop)=>jT (h:=h) (sz:=1) (l:=ts) (i:=i) (K:=K) hi2
    have hn:=hlt i (by omega)
    have hb:=hlens (i+1) (by omega)
    generalize ts.getD i []=u at*
    generalize qU (ts.take i)=Z at*
    have e1:((S+Z:Nat):Int)+(u.length:Int)=((S+qU (ts.take (i+1)):Nat):Int):=by rw[hn];omega
    have q:decide ((9223372036854775807:Int)-((S+Z:Nat):Int)<(u.length:Int))=false:=decide_eq_false (by omega)
    simp(disch:=omega)only[go_sem,c1,hl1,e1,q]
    exact⟨⟨by omega,by omega⟩,qe (i+1) [] (by show i+1≤m;omega) (by show m-(i+1)<m-i;omega) rfl (by simp(disch:=omega)only[go_sem];try omega) (by simp(disch:=omega)only[go_sem])⟩
   ·obtain rfl:i=m:=by omega
    simp(disch:=omega)only[go_sem,c1]
    have htall:ts.take i=ts:=List.take_of_length_le (by omega)
    rw[htall]
    obtain⟨T,hTT⟩:∃T,T=S+qU ts:=⟨_,rfl⟩
    have hTj:(Yt sep ts).length=T:=by rw[hT,hTT,Nat.add_comm]
    rw[←hTT]
    refine AW.regNozero3 (t:=24) (n:=T) (nm:=620000000) 1 2 (by simp only[List.take_succ_cons,List.take_zero];rfl) (by simp only[List.drop_succ_cons,List.drop_zero];rfl) (by simp only[List.take_succ_cons,List.take_zero];rfl) (by simp only[List.drop_succ_cons,List.drop_zero];rfl)
     (e':=ofL .un [(0,.sl i (qy tcs ts)),(1,.sl sep.length (qa sep)),(5,.v (.int .i64 T)),(59,.v (.int .i64 T))]) (h':=ofH [])
     (e2:=ofL .un [(0,.sl i (qy tcs ts)),(1,.sl sep.length (qa sep)),(60,.rf 620000000 0 T),(61,.v (.int .i64 T)),(62,.v (.int .i64 T))]) (h2:=ofH [(620000000,.own 1 (List.replicate T .un))]) ?_
     (by decide) rfl rfl Vz (by rfl) (by omega) ?_ ?_ (by decide) (by rfl) (by rfl) (by rfl) ?_ ?_ ?_
    ·simp(disch:=omega)only[go_sem]
     exact Le.lst [] _ _ rfl (by simp(disch:=omega)only[go_sem]) (by simp(disch:=omega)only[go_sem])
    ·simp(disch:=omega)only[go_sem]
    ·simp(disch:=omega)only[go_sem]
     exact Le.lst [] _ _ rfl (by simp(disch:=omega)only[go_sem]) (by simp(disch:=omega)only[go_sem])
    ·exact⟨_,_,_,aoe,KG,tf5,trivial⟩
    ·show ofH [(620000000,.own 1 (List.replicate T .un))] 620000000≠ .free
     show Ob.own 1 _≠ .free
     simp
    simp(disch:=omega)only[go_sem]
    refine W.sound ?_
    show @W Try.prog 92 ⟨_⟩ ⟨fun x σ=>@qO _ _ _ ⟨_⟩ _ ⟨_⟩ x σ⟩ _ _
    have h0:0<ts.length:=by omega
    have hl0:=fun(h:Nat→Ob) (K:AV→Prop)=>jT (h:=h) (sz:=1) (l:=ts) (i:=0) (K:=K) h0
    have hu0:ts.getD 0 []=t:=by rw[←hts];rfl
    rw[hu0]at hl0
    obtain⟨rs,hrs⟩:∃rs,rs=t2::r2:=⟨_,rfl⟩
    have htr:ts.drop 1=rs:=by rw[←hts,hrs];rfl
    have hrm:rs.length=i-1:=by rw[hrs];exact hrl
    have hJ:Yt sep ts=t++zg sep rs:=by rw[←hts,hrs];rfl
    have hpre:∀j,j≤rs.length→(t++zg sep (rs.take j)).length≤T:=fun j hj=>by
     have e:zg sep rs=zg sep (rs.take j)++zg sep (rs.drop j):=by rw[←Z4,List.take_append_drop]
     have:=congrArg List.length hJ
     rw[hTj,e,List.length_append,List.length_append]at this
     rw[List.length_append];omega
    have hstep:∀j,j<rs.length→t++zg sep (rs.take (j+1))=((t++zg sep (rs.take j))++sep)++rs.getD j []:=fun j hj=>by
     rw[List.take_add_one,List.getElem?_eq_getElem hj,Z4,List.getD_eq_getElem?_getD,List.getElem?_eq_getElem hj]
     show t++(zg sep (rs.take j)++((sep++rs[j])++[]))=_
     rw[List.append_nil]
     simp only[List.append_assoc];rfl
    have htT:t.length≤T:=by have:=hpre 0 (by omega);rwa[List.take_zero,show zg sep []=[] from rfl,List.append_nil]at this
    have hw0:=@agb [] t T htT
    rw[List.nil_append]at hw0
    have hw1:wr (List.replicate T .un) 0 (qa t)=qa t++List.replicate (T-t.length) .un:=hw0
    have m1:min t.length T=t.length:=Nat.min_eq_left htT
    have m2:((i:Int)-1).toNat=i-1:=by omega
    have m3:cut (qy tcs ts) 1 (i-1)=qy tcs rs:=by
     have:=ac1 (l:=ts) (k:=1) (n:=i-1) (by omega)
     rwa[Nat.mul_one,Nat.mul_one,htr]at this
    simp(disch:=omega)only[go_sem,hl0,m1,m2,m3,List.take_length,hw1]
    refine⟨⟨by omega,by omega⟩,⟨by omega,by omega⟩,?_⟩
    refine qf (fun j:Nat=>[(1,.sl sep.length (qa sep)),(8,.rf 1 0 T),(9,.v (.int .i64 ((t++zg sep (rs.take j)).length:Nat))),(70,.sl (i-1) (qy tcs rs)),(71,.v (.int .i64 ((i-1:Nat):Int))),(72,.v (.int .i64 j))])
     (fun j=>[(1,.own 1 (qa (t++zg sep (rs.take j))++List.replicate (T-(t++zg sep (rs.take j)).length) .un))]) (fun j=>j≤rs.length) (fun j=>rs.length-j) 0 (by omega)
     (Le.lst [(1,620000000)] _ _ rfl (by simp(disch:=omega)only[go_sem,List.take_zero,show zg sep []=[] from rfl,List.append_nil]) (by simp(disch:=omega)only[go_sem,List.take_zero,show zg sep []=[] from rfl,List.append_nil])) ?_
    intro j hj
    have hp0:=hpre j hj
    simp(disch:=omega)only[go_sem]
    refine qd (fun d1=>?_) (fun d1=>?_)
    ·have hj2:j<rs.length:=by omega
     have hl1:=fun(h:Nat→Ob) (K:AV→Prop)=>jT (h:=h) (sz:=1) (l:=rs) (i:=j) (K:=K) hj2
     have hs:=hstep j hj2
     have hp1:=hpre (j+1) (by omega)
     rw[hs]at hp1
     generalize rs.getD j []=u at*
     generalize hA1:t++zg sep (rs.take (j+1))=A1 at*
     generalize t++zg sep (rs.take j)=A at*
     rw[List.length_append,List.length_append]at hp1
     obtain⟨B,hB⟩:∃B,B=A++sep:=⟨_,rfl⟩
     have hBl:B.length=A.length+sep.length:=by rw[hB,List.length_append]
     have hA1l:A1.length=B.length+u.length:=by rw[hs,←hB,List.length_append]
     have t1:((T:Int)-(A.length:Int)).toNat=T-A.length:=by omega
     have t3:((T:Int)-(B.length:Int)).toNat=T-B.length:=by omega
     have k1:min sep.length (T-A.length)=sep.length:=Nat.min_eq_left (by omega)
     have k2:min u.length (T-B.length)=u.length:=Nat.min_eq_left (by omega)
     have w1:=@agb A sep (T-A.length) (by omega)
     have w2:=@agb B u (T-B.length) (by omega)
     rw[←hB,show T-A.length-sep.length=T-B.length by omega]at w1
     rw[hB,←hs,←hB,show T-B.length-u.length=T-A1.length by omega]at w2
     have e1:(A.length:Int)+(sep.length:Int)=(B.length:Int):=by omega
     have e2:(B.length:Int)+(u.length:Int)=(A1.length:Int):=by omega
     simp(disch:=omega)only[go_sem,d1,hl1,t1,k1,e1,t3,k2,e2,List.take_length,w1,Int.toNat_natCast,w2]
     have hbl:∀C:List UInt8,C.length≤T→(qa C++List.replicate (T-C.length) AV.un).length=T:=fun C h=>by rw[List.length_append,qo,Y6];omega
     exact⟨⟨by omega,by omega⟩,⟨by omega,by omega,by omega⟩,by rw[hbl A (by omega)];omega,⟨by omega,by omega,by omega⟩,by rw[hbl B (by omega)];omega,qe (j+1) [] (by show j+1≤rs.length;omega) (by show rs.length-(j+1)<rs.length-j;omega) rfl (by simp(disch:=omega)only[go_sem,hA1];try omega) (by simp(disch:=omega)only[go_sem,hA1])⟩
    ·obtain rfl:j=rs.length:=by omega
     simp(disch:=omega)only[go_sem,d1]
     have hfin:(t++zg sep rs).length=T:=by rw[←hJ];exact hTj
     rw[hfin,Nat.sub_self,←hJ]
     refine qb [(0,1)] [.own 1 (qa (Yt sep ts))] [] [.rf 0 0 T] rfl (by simp(disch:=omega)only[go_sem]) (by simp(disch:=omega)only[go_sem,List.replicate_zero,List.append_nil]) (by simp) (by intro _;simp[qN,AV.pu,AV.pu.puL,Ob.pu,qL]) ⟨[],?_,?_⟩
     ·rw[hTj];rfl
     ·rw[List.append_nil]
end Go.Ab
namespace Go.Ab
/-! ### Numbers with a sign-/
def sv(s:Bool)(m:Nat):Int:=if s=true then-(m:Int)else(m:Int)
theorem KM(s:Bool):sv s 0=0:=by unfold sv;split<;>rfl
theorem alg(s:Bool)(m k:Nat):sv s (m*k)=sv s m*(k:Int):=by
 unfold sv;split
 ·rw[Int.natCast_mul,Int.neg_mul]
 ·rw[Int.natCast_mul]
def dv(K:Nat)(s:Bool)(m:Nat)(e:Int):Int:=sv s m*2^(e+K).toNat
theorem ajz{K:Nat}{s:Bool}{e:Int}:dv K s 0 e=0:=by unfold dv;rw[KM,Int.zero_mul]
/-! ### Sums-/
def suM(s1:Bool)(m1:Nat)(s2:Bool)(m2:Nat):Nat:=(sv s1 m1+sv s2 m2).natAbs
def suS(s1:Bool)(m1:Nat)(s2:Bool)(m2:Nat):Bool:=decide (sv s1 m1+sv s2 m2<0)
def sgS(s1:Bool)(m1:Nat)(s2:Bool)(m2:Nat):Bool:=if s1=s2 then s1 else if m2≤m1 then s1 else s2
def alE(m1:Nat)(e1:Int)(m2:Nat)(e2:Int):Int:=if m2=0 then e1 else if m1=0 then e2 else if e2<e1 then e2 else e1
def alA(m:Nat)(e E:Int):Nat:=m*2^(e-E).toNat
def adM(s1:Bool)(m1:Nat)(e1:Int)(s2:Bool)(m2:Nat)(e2:Int):Nat:=suM s1 (alA m1 e1 (alE m1 e1 m2 e2)) s2 (alA m2 e2 (alE m1 e1 m2 e2))
def adS(s1:Bool)(m1:Nat)(e1:Int)(s2:Bool)(m2:Nat)(e2:Int):Bool:=suS s1 (alA m1 e1 (alE m1 e1 m2 e2)) s2 (alA m2 e2 (alE m1 e1 m2 e2))
theorem XF{K:Int}{m1:Nat}{e1:Int}{m2:Nat}{e2:Int}(h1:K≤e1)(h2:K≤e2):K≤alE m1 e1 m2 e2:=by
 unfold alE
 repeat' split
 all_goals omega
theorem anV{K:Int}{m1:Nat}{e1:Int}{m2:Nat}{e2:Int}(h1:e1≤K)(h2:e2≤K):alE m1 e1 m2 e2≤K:=by
 unfold alE
 repeat' split
 all_goals omega
theorem af7{K:Nat}{s:Bool}{m:Nat}{e E:Int}(hE: -(K:Int)≤E)(h:m≠0→E≤e):sv s (alA m e E)*2^(E+K).toNat=dv K s m e:=by
 by_cases h0:m=0
 ·subst h0;unfold alA;rw[Nat.zero_mul,KM,ajz,Int.zero_mul]
 ·have:=h h0
  unfold alA dv
  have e1:(e+K).toNat=(e-E).toNat+(E+K).toNat:=by omega
  rw[e1,Int.pow_add,alg,Int.natCast_pow,Int.mul_assoc];rfl
theorem XE{m B:Nat}{e E:Int}{C:Nat}(h:bl m≤B)(hk:e-E≤C):bl (alA m e E)≤B+C:=by
 have:=JX m (e-E).toNat
 unfold alA;omega
end Go.Ab
namespace Go.Ab
end Go.Ab
namespace Go.Ab
end Go.Ab
namespace Go.Ab
open Go Go.Proofs
end Go.Ab
namespace Go.Ab
open Go Go.Proofs
end Go.Ab
namespace Go.Ab
open Go Go.Proofs
end Go.Ab
namespace Go.Ab
open Go Go.Proofs
theorem VG(xs:List Int)(left:Int)(hl:xs.length≤9223372036854775807)(h:0≤left∧left≤2^40):Con Try.prog 77 true [.sl xs.length (qc xs),.v (.int .i64 left)] [] (isA (.v (.int .i64 (if left-xs.length<0 then-1 else left-xs.length)))):=by
 refine Con.of_w (rs:=[.tmp 4]) Try.func77 rfl Try.ntmps77 rfl ?_
 simp(disch:=omega)only[go_sem]
 refine qd (fun h1=>?_) (fun h1=>?_)
 ·simp(disch:=omega)only[go_sem,h1]
  rw[if_pos h1]
  exact ql
 ·simp(disch:=omega)only[go_sem,h1]
  rw[if_neg h1]
  exact ql
theorem Xd{xs:List Int}{i:Nat}(h:i<xs.length):(xs.take i++List.replicate (xs.length-i) 0).set i (xs.getD i 0)=xs.take (i+1)++List.replicate (xs.length-(i+1)) 0:=by
 have e1:(xs.take i).length=i:=by rw[List.length_take];omega
 have e2:xs.length-i=(xs.length-(i+1))+1:=by omega
 rw[List.set_append_right _ _ (by omega),e1,Nat.sub_self,e2,List.replicate_succ,List.set_cons_zero,List.take_add_one,List.getElem?_eq_getElem h,List.append_assoc,List.getD_eq_getElem?_getD,List.getElem?_eq_getElem h]
 rfl
theorem VF(cl:Bool)(xs:List Int)(hl:xs.length≤2000000):Con Try.prog 80 cl [.sl xs.length (qc xs)] [] (adF xs):=by
 refine Con.of_aw Try.func80 rfl Try.ntmps80 (by simp) (by simp) (by simp) (W.sound ?_)
 show @W Try.prog 22 ⟨_⟩ ⟨fun x σ=>@qO _ _ _ ⟨_⟩ _ ⟨_⟩ x σ⟩ _ _
 simp(disch:=omega)only[go_sem]
 refine⟨⟨by omega,by omega,by omega⟩,?_⟩
 refine qf (fun i:Nat=>[(0,.sl xs.length (qc xs)),(3,.rf 90000000 0 xs.length),(4,.v (.int .i64 i))]) (fun i=>[(90000000,.own 1 (qc (xs.take i++List.replicate (xs.length-i) 0)))]) (fun i=>i≤xs.length) (fun i=>xs.length-i) 0 (by omega)
  (Le.lst [] _ _ rfl (by simp(disch:=omega)only[go_sem];try omega) (by simp(disch:=omega)only[go_sem,ZU,List.take_zero,List.nil_append,Nat.sub_zero])) ?_
 intro i hi
 simp(disch:=omega)only[go_sem]
 refine qd (fun h1=>?_) (fun h1=>?_)
 ·simp(disch:=omega)only[go_sem,h1]
  have el:(xs.take i++List.replicate (xs.length-i) 0).length=xs.length:=by rw[List.length_append,List.length_take,List.length_replicate];omega
  refine⟨by omega,by omega,by omega,by omega,qe (i+1) [] (by show i+1≤_;omega) (by show xs.length-(i+1)<xs.length-i;omega) rfl (by simp(disch:=omega)only[go_sem];try omega) (by simp(disch:=omega)only[go_sem,Xd (by omega:i<xs.length)])⟩
 ·have:i=xs.length:=by omega
  subst this
  simp(disch:=omega)only[go_sem,h1]
  refine qb [(0,90000000)] [.own 1 (qc (xs++[]))] [] [.rf 0 0 xs.length] rfl (by simp(disch:=omega)only[go_sem]) (by simp(disch:=omega)only[go_sem,List.take_length,Nat.sub_self,List.replicate_zero]) (by simp) (by intro _;simp[qN,AV.pu,Ob.pu,qT]) (.inr ⟨[],rfl,rfl⟩)
theorem anA(xs:List Int)(hl:xs.length≤2000000):Con Try.prog 65 false [.ag [.sl xs.length (qc xs)]] [] (isA (.ag [.sl xs.length (qc xs)])):=by
 refine Con.frzA ?_
 refine Con.of_w (rs:=[.cell 2 55]) Try.func65 rfl Try.ntmps65 rfl ?_
 simp(disch:=omega)only[go_sem]
 refine qi (VF false xs hl).num ?_
 simp(disch:=omega)only[go_sem]
 exact ye
def szL(left:Int)(n:Nat):Int:=if left-n<0 then-1 else left-n
theorem abl(xs:List Int)(left:Int)(hl:xs.length≤9223372036854775807)(h:0≤left∧left≤2^40):Con Try.prog 60 true [.ag [.sl xs.length (qc xs)],.v (.int .i64 left)] [] (isA (.v (.int .i64 (szL left xs.length)))):=by
 refine Con.of_w (rs:=[.tmp 4]) Try.func60 rfl Try.ntmps60 rfl ?_
 simp(disch:=omega)only[go_sem]
 refine qg (VG xs left hl h) ?_
 simp(disch:=omega)only[go_sem]
 unfold szL
 by_cases h1:left-(xs.length:Int)<0
 ·rw[if_pos h1]
  simp(disch:=omega)only[go_sem]
  exact ql
 ·rw[if_neg h1]
  simp(disch:=omega)only[go_sem,h1]
  exact ql
theorem YH(s:Bool)(xs:List Int)(left:Int)(hl:xs.length≤9223372036854775807)(h:0≤left∧left≤2^40):Con Try.prog 45 true [.ag [.v (.bool s),.sl xs.length (qc xs)],.v (.int .i64 left)] [] (isA (.v (.int .i64 (szL left xs.length)))):=by
 refine Con.of_w (rs:=[.tmp 4]) Try.func45 rfl Try.ntmps45 rfl ?_
 simp(disch:=omega)only[go_sem]
 refine qg (abl xs left hl h) ?_
 simp(disch:=omega)only[go_sem]
 unfold szL
 by_cases h1:left-(xs.length:Int)<0
 ·rw[if_pos h1]
  simp(disch:=omega)only[go_sem]
  exact ql
 ·rw[if_neg h1]
  simp(disch:=omega)only[go_sem,h1]
  exact ql
theorem Xx(s:Bool)(xs:List Int)(e left:Int)(hl:xs.length≤9223372036854775807)(h:0≤left∧left≤2^40):Con Try.prog 27 true [.ag [.v (.bool s),.sl xs.length (qc xs),.v (.int .i64 e)],.v (.int .i64 left)] [] (isA (.v (.int .i64 (szL left xs.length)))):=by
 refine Con.of_w (rs:=[.tmp 4]) Try.func27 rfl Try.ntmps27 rfl ?_
 simp(disch:=omega)only[go_sem]
 refine qg (YH s xs left hl h) ?_
 simp(disch:=omega)only[go_sem]
 unfold szL
 by_cases h1:left-(xs.length:Int)<0
 ·rw[if_pos h1]
  simp(disch:=omega)only[go_sem]
  exact ql
 ·rw[if_neg h1]
  simp(disch:=omega)only[go_sem,h1]
  exact ql
theorem VO(xs:List Int)(hl:xs.length≤2^60):Con Try.prog 92 true [.sl xs.length (qc xs),.sl xs.length (qc xs)] [] (isA (.v (.bool true))):=by
 refine Con.of_w (rs:=[.tmp 4]) Try.func92 rfl Try.ntmps92 rfl ?_
 simp(disch:=omega)only[go_sem]
 refine qf (fun i:Nat=>[(0,.sl xs.length (qc xs)),(1,.sl xs.length (qc xs)),(5,.v (.int .i64 i))]) (fun _=>[]) (fun i=>i≤xs.length) (fun i=>xs.length-i) 0 (by omega)
  (Le.lst [] _ _ rfl (by simp(disch:=omega)only[go_sem]) (by simp(disch:=omega)only[go_sem])) ?_
 intro i hi
 simp(disch:=omega)only[go_sem]
 refine qd (fun h1=>?_) (fun h1=>?_)
 ·simp(disch:=omega)only[go_sem,h1]
  refine qu rfl [⟨0,[],[]⟩,⟨1,[],[]⟩,⟨2,[],[]⟩,⟨3,[],[]⟩,⟨4,[3],[]⟩,⟨5,[3],[]⟩,⟨6,[3],[]⟩,⟨7,[3],[]⟩,⟨8,[],[]⟩] (by kernel_rfl) ?_
  simp(disch:=omega)only[go_sem]
  refine⟨by omega,by omega,by omega,by omega,qe (i+1) [] (by show i+1≤_;omega) (by show xs.length-(i+1)<xs.length-i;omega) rfl (by simp(disch:=omega)only[go_sem];try omega) (by simp(disch:=omega)only[go_sem])⟩
 ·have:i=xs.length:=by omega
  subst this
  simp(disch:=omega)only[go_sem,h1]
  exact ql
theorem abx(xs:List Int)(hl:xs.length≤2^60):Con Try.prog 68 true [.ag [.sl xs.length (qc xs)],.ag [.sl xs.length (qc xs)]] [] (isA (.v (.bool true))):=by
 refine Con.of_w (rs:=[.tmp 4]) Try.func68 rfl Try.ntmps68 rfl ?_
 simp(disch:=omega)only[go_sem]
 refine qg (VO xs hl) ?_
 simp(disch:=omega)only[go_sem]
 exact ql
theorem YL(s:Bool)(xs:List Int)(hl:xs.length≤2^60):Con Try.prog 49 true [.ag [.v (.bool s),.sl xs.length (qc xs)],.ag [.v (.bool s),.sl xs.length (qc xs)]] [] (isA (.v (.bool true))):=by
 refine Con.of_w (rs:=[.tmp 4]) Try.func49 rfl Try.ntmps49 rfl ?_
 simp(disch:=omega)only[go_sem]
 have e:(s != s)=false:=by cases s<;>rfl
 simp(disch:=omega)only[go_sem,e]
 refine qg (abx xs hl) ?_
 simp(disch:=omega)only[go_sem]
 exact ql
theorem Xz(s:Bool)(xs:List Int)(e:Int)(hl:xs.length≤2^60):Con Try.prog 32 true [.ag [.v (.bool s),.sl xs.length (qc xs),.v (.int .i64 e)],.ag [.v (.bool s),.sl xs.length (qc xs),.v (.int .i64 e)]] [] (isA (.v (.bool true))):=by
 refine Con.of_w (rs:=[.tmp 4]) Try.func32 rfl Try.ntmps32 rfl ?_
 simp(disch:=omega)only[go_sem]
 refine qg (YL s xs hl) ?_
 simp(disch:=omega)only[go_sem]
 exact ql
end Go.Ab
namespace Go.Ab
open Go Go.Proofs
end Go.Ab
