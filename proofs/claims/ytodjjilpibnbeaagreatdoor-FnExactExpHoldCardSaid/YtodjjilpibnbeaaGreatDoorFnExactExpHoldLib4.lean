/- What the proof of this claim stands on: the walks of the functions and the plain laws, part 4. -/
import Derived.Test.YtodjjilpibnbeaaGreatDoorFnExactExpHoldLib3
import Derived.Shelf.Spec.TrailingZeros
import Derived.Shelf.Small.Bits
import Derived.Shelf.Strconv.Itoa0
import Derived.Carry
import Derived.ChangeSlices
set_option linter.unusedVariables false
set_option linter.unusedSimpArgs false
namespace Go.Ab
open Go Go.Proofs
def aZk(m:Nat)(r0:Int):AV→List Ob→List Ob→Prop:=fun r hs bs=>
 (m=0∧r=.tu [.ag [.v (.slice none 0 0)],.v (.int .i64 r0)]∧hs=[])∨∃zs,r=.tu [.ag [.rf 0 0 (lim m).length],.v (.int .i64 r0)]∧hs=[.own 1 (qg (lim m++zs))]
theorem Con.natF2{P:Program}{f:FuncId}{args:List AV}{m:Nat}{r0:Int}(h:Con P f false args [] (aZk m r0)):Con P f false args [] (isA (.tu [.ag [.sl (lim (m)).length (qg (lim (m)))],.v (.int .i64 r0)])):=
 Con.frzA <| h.mono fun r hs bs h=>by
  rcases h with⟨rfl,rfl,rfl⟩|⟨zs,rfl,rfl⟩
  ·show qK _ 6 _=_
   rw[qz];rfl
  ·show qK _ 6 _=_
   rw[aum,List.map_cons,List.map_cons,List.map_nil,X5,List.map_cons,List.map_nil,yk (k:=2) (l:=lim m) (zs:=zs) qY rfl]
   rfl
theorem Jl(cl:Bool)(A:List Int)(d:Nat)(hA:gd A)(lA:A.length≤1000000)(hd:0<d)(hd2:d<65536)(m:Nat)(hm:vl A/(d:Int)=(m:Int)):
  Con Tryz.prog 249 cl [.ag [.sl A.length (qg A)],.v (.int .i64 d)] [] (aZk m (vl A % d)):=by
 refine Con.of_aw Tryz.func249 rfl Tryz.ntmps249 (by simp) (by simp) (by simp) (W.sound ?_)
 show @W Tryz.prog 42 ⟨_⟩ ⟨fun x σ=>@zl _ _ _ ⟨_⟩ _ ⟨_⟩ x σ⟩ _ _
 simp(disch:=omega)only[go_sem]
 refine⟨by omega,?_⟩
 refine qj (fun x:Nat×List Int×Int=>[(1,.v (.int .i64 d)),(2,.pt 0 0),(4,.pt 1 0),(6,.rf 2 0 A.length),(7,.v (.int .i64 x.2.2)),(8,.v (.int .i64 ((x.1:Int)-1)))])
  (fun x=>[(0,.own 0 [.sl A.length (qg A)]),(1,.own 0 [.v (.slice none 0 0)]),(2,.own 1 (qg x.2.1))])
  (fun x=>x.1≤A.length∧x.2.1.length=A.length∧gd x.2.1∧x.2.2=vl (A.drop x.1) % d∧vl (x.2.1.drop x.1)=vl (A.drop x.1)/d)
  (fun x=>x.1) (A.length,List.replicate A.length 0,0) ⟨Nat.le_refl _,by simp,zC _,by simp[vl],by simp[vl]⟩
  (Le.lst [(0,40000000),(1,60000000),(2,150000000)] _ _ rfl (by simp(disch:=omega)only[go_sem,List.length_replicate];try omega) (by simp(disch:=omega)only[go_sem])) ?_
 rintro⟨k,out,rest⟩ ⟨hk,hol,hog,hr,hov⟩
 dsimp only at hk hol hog hr hov ⊢
 have hr0:0≤rest∧rest<d:=by rw[hr];exact⟨Int.emod_nonneg _ (by omega),Int.emod_lt_of_pos _ (by omega)⟩
 simp(disch:=omega)only[go_sem]
 refine qi (fun h1=>?_) (fun h1=>?_)
 ·obtain⟨i,rfl⟩:∃i,k=i+1:=⟨k-1,by omega⟩
  have ei:((i+1:Nat):Int)-1=(i:Nat):=by omega
  have hx:=qS hA i
  have hq6:0≤(rest*65536+A.getD i 0)/d∧(rest*65536+A.getD i 0)/d<65536:=by
   refine⟨Int.ediv_nonneg (by omega) (by omega),Int.ediv_lt_of_lt_mul (by omega) ?_⟩
   have:rest+1≤(d:Int):=by omega
   have:=Int.mul_le_mul_of_nonneg_left this (show(0:Int)≤65536 by omega)
   omega
  simp(disch:=omega)only[go_sem,h1,ei]
  generalize hq:rest*65536+A.getD i 0=q at*
  refine⟨by omega,by omega,by omega,by omega,by omega,by omega,qe (i,out.set i (q/d),q % d) [] ⟨by show i≤_;omega,by simp[hol],Qc hog hq6,?_,?_⟩ (by show i<i+1;omega) rfl (by simp(disch:=omega)only[go_sem];try omega) (by simp(disch:=omega)only[go_sem])⟩
  ·show q % d=vl (A.drop i) % d
   rw[zQ (l:=A) (i:=i) (by omega),←hq,hr]
   have h3:=Int.emod_add_mul_ediv (vl (A.drop (i+1))) d
   rw[show A.getD i 0+65536*vl (A.drop (i+1))=vl (A.drop (i+1)) % d*65536+A.getD i 0+d*(65536*(vl (A.drop (i+1))/d)) by grind,Int.add_mul_emod_self_left]
  ·show vl ((out.set i (q/d)).drop i)=vl (A.drop i)/d
   rw[drop_set (by omega),vl,hov,zQ (l:=A) (i:=i) (by omega),←hq,hr]
   have h3:=Int.emod_add_mul_ediv (vl (A.drop (i+1))) d
   rw[show A.getD i 0+65536*vl (A.drop (i+1))=vl (A.drop (i+1)) % d*65536+A.getD i 0+d*(65536*(vl (A.drop (i+1))/d)) by grind,Int.add_mul_ediv_left _ _ (by omega)]
 ·simp(disch:=omega)only[go_sem,h1]
  have:k=0:=by omega
  subst this
  rw[List.drop_zero,List.drop_zero,hm]at hov
  rw[List.drop_zero]at hr
  rw[←hol]
  refine qx (j7 true out m (by omega) hog hov) (by simp(disch:=omega)only[go_sem]) ?_
  rintro r hs (⟨h0,rfl,rfl⟩|⟨zs,rfl,rfl⟩)
  ·refine⟨⟨by simp,by simp(disch:=omega)only[go_sem]⟩,?_⟩
   simp(disch:=omega)only[go_sem]
   rw[hr]
   refine qm [] [] [] [.ag [.v (.slice none 0 0)],.v (.int .i64 (vl A % d))] rfl (by simp(disch:=omega)only[go_sem]) (by simp(disch:=omega)only[go_sem]) (by simp) (by intro _;simp[zw,AV.pu,AV.pu.puL,Ob.pu,q8]) (.inl ⟨h0,rfl,rfl⟩)
  ·refine⟨⟨by simp,by simp(disch:=omega)only[go_sem]⟩,?_⟩
   simp(disch:=omega)only[go_sem]
   rw[hr]
   refine qm [(0,420000000)] [.own 1 (qg (lim m++zs))] [] [.ag [.rf 0 0 (lim m).length],.v (.int .i64 (vl A % d))] rfl (by simp(disch:=omega)only[go_sem]) (by simp(disch:=omega)only[go_sem]) (by simp) (by intro _;simp[zw,AV.pu,AV.pu.puL,Ob.pu,q8]) (.inr ⟨zs,rfl,rfl⟩)
theorem adj(a d:Nat)(la:(lim a).length≤1000000)(hd:0<d)(hd2:d<65536):
  Con Tryz.prog 249 false [.ag [.sl (lim (a)).length (qg (lim (a)))],.v (.int .i64 d)] [] (isA (.tu [.ag [.sl (lim (a/d)).length (qg (lim (a/d)))],.v (.int .i64 ((a % d:Nat):Int))])):=by
 have:=(Jl false (lim a) d (zj a) la hd hd2 (a/d) (by rw[zd,Int.natCast_ediv])).natF2
 rwa[zd,←Int.natCast_emod]at this
/-! ### Shifts-/
theorem aur{k:Nat}(hk:k<16):IntKind.i64.wrap (1*2^(min ((k:Int)).toNat 64))=((2^k:Nat):Int):=by
 have e:min ((k:Int)).toNat 64=k:=by omega
 rw[e,Int.one_mul]
 have h:=Qo k hk
 rw[app (by omega) (by omega),Int.natCast_pow];rfl
theorem awX(cl:Bool)(a k:Nat)(la:(lim a).length≤400000)(hk:k≤5000000):Con Tryz.prog 247 cl [.ag [.sl (lim (a)).length (qg (lim (a)))],.v (.int .i64 k)] [] (aJJ (a*2^k)):=by
 refine Con.of_aw Tryz.func247 rfl Tryz.ntmps247 (by simp) (by simp) (by simp) (W.sound ?_)
 show @W Tryz.prog 22 ⟨_⟩ ⟨fun x σ=>@zl _ _ _ ⟨_⟩ _ ⟨_⟩ x σ⟩ _ _
 have hz:((lim a).length:Int)=0→a=0:=fun h=>qM.1 (List.length_eq_zero_iff.1 (by omega))
 have hvA:=zd a
 have gA:=zj a
 generalize hLA:lim a=A at*
 simp(disch:=omega)only[go_sem]
 refine qi (fun h1=>?_) (fun h1=>?_)
 ·simp(disch:=omega)only[go_sem,h1]
  have h0:=hz h1
  subst h0
  refine qm [] [] [] [.ag [.v (.slice none 0 0)]] rfl (by simp(disch:=omega)only[go_sem]) (by simp(disch:=omega)only[go_sem]) (by simp) (by intro _;simp[zw,AV.pu,AV.pu.puL,Ob.pu,q8]) (.inl ⟨by simp,rfl,rfl⟩)
 ·simp(disch:=omega)only[go_sem,h1]
  refine qv rfl [⟨0,[],[]⟩,⟨1,[],[]⟩,⟨3,[],[]⟩,⟨4,[],[]⟩,⟨7,[4],[]⟩,⟨8,[4],[]⟩,⟨9,[4],[]⟩,⟨2,[4],[]⟩,⟨5,[],[]⟩,⟨6,[],[]⟩,⟨10,[],[]⟩,⟨11,[],[]⟩,⟨12,[],[]⟩] (by kernel_rfl) ?_
  have e16:((k:Int)/16).toNat=k/16:=by omega
  have e17:(k:Int) % 16=((k % 16:Nat):Int):=by omega
  have es:IntKind.i64.wrap (1*2^(min ((k:Int) % 16).toNat 64))=((2^(k % 16):Nat):Int):=by rw[e17];exact aur (by omega)
  have hp15:2^(k % 16)≤2^15:=Nat.pow_le_pow_right (by omega) (by omega)
  have ecut:(List.replicate (k/16) (0:Int)).take (k/16)=List.replicate (k/16) 0:=List.take_of_length_le (by simp)
  simp(disch:=omega)only[go_sem,e16,ecut,es]
  refine⟨by omega,by omega,by simp;omega,?_⟩
  refine qa ((ajk false (2^(k % 16)) (by omega)).natF) ?_
  simp(disch:=omega)only[go_sem]
  have hvA2:vl (List.replicate (k/16) 0++A)*((2^(k % 16):Nat):Int)=((a*2^k:Nat):Int):=by
   rw[Q9,jh,hvA,List.length_replicate]
   have h2:a*2^k=65536^(k/16)*a*2^(k % 16):=by
    have:2^k=65536^(k/16)*2^(k % 16):=by rw[Ye,←Nat.pow_add,Nat.div_add_mod]
    rw[this];grind
   rw[h2,Int.natCast_mul,Int.natCast_mul,Int.natCast_pow]
   simp
  have gA2:gd (List.replicate (k/16) 0++A):=qT.2 ⟨zC _,gA⟩
  have lA2:(List.replicate (k/16) (0:Int)++A).length=k/16+A.length:=by simp
  have et:(List.replicate (k/16) (0:Int)++A).take (k/16+A.length)=List.replicate (k/16) 0++A:=List.take_of_length_le (by simp)
  have l2s:(lim (2^(k % 16))).length≤1000000:=by
   have:=qE (m:=2^(k % 16)) (B:=16) (q9.2 (by omega));omega
  refine qx (XL true (List.replicate (k/16) 0++A) gA2 (2^(k % 16)) (by omega) l2s (a*2^k) hvA2) (by simp(disch:=omega)only[go_sem,lA2,et]) ?_
  rintro r hs (⟨h0,rfl,rfl⟩|⟨zs,rfl,rfl⟩)
  ·refine⟨⟨by simp,by simp(disch:=omega)only[go_sem]⟩,?_⟩
   simp(disch:=omega)only[go_sem]
   refine qm [] [] [] [.ag [.v (.slice none 0 0)]] rfl (by simp(disch:=omega)only[go_sem]) (by simp(disch:=omega)only[go_sem]) (by simp) (by intro _;simp[zw,AV.pu,AV.pu.puL,Ob.pu,q8]) (.inl ⟨h0,rfl,rfl⟩)
  ·refine⟨⟨by simp,by simp(disch:=omega)only[go_sem]⟩,?_⟩
   simp(disch:=omega)only[go_sem]
   refine qm [(0,230000000)] [.own 1 (qg (lim (a*2^k)++zs))] [] [.ag [.rf 0 0 (lim (a*2^k)).length]] rfl (by simp(disch:=omega)only[go_sem]) (by simp(disch:=omega)only[go_sem]) (by simp) (by intro _;simp[zw,AV.pu,AV.pu.puL,Ob.pu,q8]) (.inr ⟨zs,rfl,rfl⟩)
end Go.Ab
namespace Go.Ab
open Go Go.Proofs
theorem adk(a k:Nat)(la:(lim a).length≤1000000)(hk:k≤100000000):Con Tryz.prog 178 false [.ag [.sl (lim (a)).length (qg (lim (a)))],.v (.int .i64 k)] [] (isA (.ag [.sl (lim (a/2^k)).length (qg (lim (a/2^k)))])):=by
 refine Con.frzA ?_
 refine Con.of_aw Tryz.func178 rfl Tryz.ntmps178 (by simp) (by simp) (by simp) (W.sound ?_)
 show @W Tryz.prog 28 ⟨_⟩ ⟨fun x σ=>@zl _ _ _ ⟨_⟩ _ ⟨_⟩ x σ⟩ _ _
 simp(disch:=omega)only[go_sem]
 refine qi (fun h1=>?_) (fun h1=>?_)
 ·simp(disch:=omega)only[go_sem,h1]
  have h0:a/2^k=0:=by
   refine Nat.div_eq_of_lt (Nat.lt_of_lt_of_le (Ji a) ?_)
   rw[Ye];exact Nat.pow_le_pow_right (by omega) (by omega)
  rw[h0,qz]
  exact qu
 ·simp(disch:=omega)only[go_sem,h1]
  refine qv rfl [⟨0,[],[]⟩,⟨1,[],[]⟩,⟨2,[1],[]⟩,⟨3,[1],[]⟩,⟨4,[],[]⟩,⟨5,[],[]⟩,⟨6,[1,4],[]⟩,⟨7,[1,4],[]⟩,⟨8,[1,4],[]⟩,⟨13,[1,4],[]⟩,⟨9,[],[70000000]⟩,⟨10,[],[70000000]⟩,⟨11,[],[70000000]⟩,⟨12,[],[70000000]⟩,⟨14,[],[]⟩,⟨15,[],[]⟩] (by kernel_rfl) ?_
  have e16:((k:Int)/16).toNat=k/16:=by omega
  have e17:(k:Int) % 16=((k % 16:Nat):Int):=by omega
  have e18:(((lim a).length:Int)-(k:Int)/16).toNat=((lim a).drop (k/16)).length:=by simp;omega
  have es:IntKind.i64.wrap (1*2^(min ((k:Int) % 16).toNat 64))=((2^(k % 16):Nat):Int):=by rw[e17];exact aur (by omega)
  have hp15:2^(k % 16)≤2^15:=Nat.pow_le_pow_right (by omega) (by omega)
  have hp0:0<2^(k % 16):=Nat.pow_pos (by omega)
  have hvD:=ail (zj a) (i:=k/16) (by omega)
  have gD:=Qx (zj a) (k/16)
  have hlD:((lim a).drop (k/16)).length≤1000000:=by simp;omega
  have hm:vl ((lim a).drop (k/16))/((2^(k % 16):Nat):Int)=((a/2^k:Nat):Int):=by
   rw[←hvD,zd]
   have:a/2^k=a/65536^(k/16)/2^(k % 16):=by rw[Nat.div_div_eq_div_mul,Ye,←Nat.pow_add,Nat.div_add_mod]
   rw[this,Int.natCast_ediv,Int.natCast_ediv,Int.natCast_pow 65536];rfl
  have et:((lim a).drop (k/16)).take ((lim a).drop (k/16)).length=(lim a).drop (k/16):=List.take_length
  simp(disch:=omega)only[go_sem,e16,e18,et,es]
  generalize (lim a).drop (k/16)=D at*
  refine⟨by omega,by omega,?_⟩
  refine qa ((Jl false D (2^(k % 16)) gD hlD hp0 (by omega) (a/2^k) hm).natF2) ?_
  simp(disch:=omega)only[go_sem]
  exact qu
theorem XN(a:Nat)(la:(lim a).length≤2^40):Con Tryz.prog 208 true [.ag [.sl (lim (a)).length (qg (lim (a)))]] [] (isA (.v (.int .i64 (bl a)))):=by
 refine Con.of_aw Tryz.func208 rfl Tryz.ntmps208 (by simp) (by simp) (by simp) (W.sound ?_)
 show @W Tryz.prog 29 ⟨_⟩ ⟨fun x σ=>@zl _ _ _ ⟨_⟩ _ ⟨_⟩ x σ⟩ _ _
 simp(disch:=omega)only[go_sem]
 refine qi (fun h1=>?_) (fun h1=>?_)
 ·simp(disch:=omega)only[go_sem,h1]
  have:a=0:=qM.1 (List.length_eq_zero_iff.1 (by omega))
  subst this
  rw[QG]
  exact qy
 ·have hm:a≠0:=fun e=>by rw[e,qz]at h1;simp at h1
  have e2:(((lim a).length:Int)-1).toNat=(lim a).length-1:=by omega
  have ht:=Yn hm
  have hb:=axw hm
  have eq:(lim a).getD ((lim a).length-1) 0=((a/65536^((lim a).length-1):Nat):Int):=by rw[jk,Nat.mod_eq_of_lt ht.2]
  generalize a/65536^((lim a).length-1)=q at*
  simp(disch:=omega)only[go_sem,h1,e2,eq]
  refine⟨by omega,by omega,?_⟩
  refine qj (fun x:Nat×Nat=>[(3,.v (.int .i64 x.1)),(4,.v (.int .i64 x.2))]) (fun _=>[]) (fun x=>x.1+bl x.2=bl a∧x.2<65536∧x.1≤2^45) (fun x=>x.2) (16*((lim a).length-1),q) ⟨hb.symm,ht.2,by show 16*((lim a).length-1)≤2^45;omega⟩ (Le.lst [] _ _ rfl (by simp(disch:=omega)only[go_sem];try omega) (by simp(disch:=omega)only[go_sem])) ?_
  rintro⟨n,x⟩ ⟨hn,hx,hn2⟩
  dsimp only at hn hx hn2 ⊢
  simp(disch:=omega)only[go_sem]
  refine qi (fun h2=>?_) (fun h2=>?_)
  ·simp(disch:=omega)only[go_sem,h2]
   have hd:=aNR (x:=x) (by omega)
   have hp:=q9.2 (show x<2^16 by omega)
   refine qe (n+1,x/2) [] ⟨by show n+1+bl (x/2)=bl a;omega,by show x/2<65536;omega,?_⟩ (by show x/2<x;omega) rfl (by simp(disch:=omega)only[go_sem];try omega) (by simp(disch:=omega)only[go_sem])
   show n+1≤2^45
   have:=Q1 (m:=a)
   omega
  ·simp(disch:=omega)only[go_sem,h2]
   have:x=0:=by omega
   subst this
   rw[QG]at hn
   refine qC (by simp(disch:=omega)only[go_sem]) (by simp(disch:=omega)only[go_sem]) ⟨?_,rfl,rfl⟩
   simp[zw];omega
theorem ZA(m:Nat)(i:Int)(hl:(lim m).length≤2^40)(hi:0≤i)(hi2:i<2^62):Con Tryz.prog 106 true [.ag [.sl (lim (m)).length (qg (lim (m)))],.v (.int .i64 i)] [] (isA (.v (.int .i64 ((m/2^i.toNat % 2:Nat):Int)))):=by
 refine Con.of_w (rs:=[.tmp 4]) Tryz.func106 rfl Tryz.ntmps106 rfl ?_
 obtain⟨k,rfl⟩:=Int.eq_ofNat_of_zero_le hi
 rw[Int.toNat_natCast]
 have h0:¬((k:Int)<0):=by omega
 have e16:((k:Int)/16).toNat=k/16:=by omega
 have em:min ((k:Int) % 16).toNat 64=k % 16:=by omega
 have hb:=axx m k
 simp(disch:=omega)only[go_sem,h0]
 refine qi (fun h1=>?_) (fun h1=>?_)
 ·simp(disch:=omega)only[go_sem,h1]
  have:m/2^k % 2=0:=by
   rw[←hb]
   have h2:=jk m (k/16)
   rw[List.getD_eq_getElem?_getD,List.getElem?_eq_none (by omega)]at h2
   have h3:m/65536^(k/16) % 65536=0:=by simp only[Option.getD_none]at h2;omega
   rw[h3];simp
  rw[this]
  exact qy
 ·have hx:=qS (zj m) (k/16)
  have hp:(0:Int)<2^(k % 16):=Int.pow_pos (by omega)
  have efd:∀x:Int,x.fdiv (2^(k % 16))=x/2^(k % 16):=fun x=>Int.fdiv_eq_ediv_of_nonneg _ (Int.le_of_lt hp)
  have hq:0≤(lim m).getD (k/16) 0/2^(k % 16)∧(lim m).getD (k/16) 0/2^(k % 16)<65536:=by
   refine⟨Int.ediv_nonneg hx.1 (Int.le_of_lt hp),Int.lt_of_le_of_lt (Int.ediv_le_self _ hx.1) hx.2⟩
  have hr:(lim m).getD (k/16) 0/2^(k % 16) % 2=((m/2^k % 2:Nat):Int):=by
   rw[←hb,jk]
   generalize m/65536^(k/16) % 65536=x
   rw[Int.natCast_emod,Int.natCast_ediv,Int.natCast_pow];rfl
  simp(disch:=omega)only[go_sem,h1,e16,em,efd,hr]
  refine⟨by omega,by omega,by omega,?_⟩
  exact qy
theorem ax5{m i:Nat}(hz:∀j,j<i→m/2^j % 2=0)(h1:m/2^i % 2=1):tz m=i:=by
 have key:∀k,k≤i→2^k*(m/2^k)=m:=by
  intro k
  induction k with
  |zero=>intro _;simp
  |succ k ih=>
   intro hk
   have h2:=ih (by omega)
   have h3:=hz k (by omega)
   have h4:m/2^(k+1)=m/2^k/2:=by rw[Nat.pow_succ,Nat.div_div_eq_div_mul]
   rw[h4,Nat.pow_succ,Nat.mul_assoc,show 2*(m/2^k/2)=m/2^k by omega];exact h2
 refine JT (a:=m/2^i/2) ?_
 have:=key i (Nat.le_refl _)
 rw[show 2*(m/2^i/2)+1=m/2^i by omega];exact this.symm
theorem YK(m:Nat)(hl:(lim m).length≤2^40):Con Tryz.prog 177 true [.ag [.sl (lim (m)).length (qg (lim (m)))]] [] (isA (.v (.int .i64 (tz m)))):=by
 refine Con.of_w (rs:=[.tmp 2]) Tryz.func177 rfl Tryz.ntmps177 rfl ?_
 simp(disch:=omega)only[go_sem]
 refine qj (fun i:Nat=>[(1,.pt 0 0),(3,.v (.int .i64 i))]) (fun _=>[(0,.own 0 [.sl (lim (m)).length (qg (lim (m)))])]) (fun i=>i≤16*(lim m).length∧∀j,j<i→m/2^j % 2=0) (fun i=>16*(lim m).length-i) 0 ⟨by omega,fun j hj=>by omega⟩ (Le.lst [(0,30000000)] _ _ rfl (by simp(disch:=omega)only[go_sem];try omega) (by simp(disch:=omega)only[go_sem])) ?_
 rintro i ⟨hi,hz⟩
 simp(disch:=omega)only[go_sem]
 refine qi (fun h1=>?_) (fun h1=>?_)
 ·simp(disch:=omega)only[go_sem,h1]
  refine qn (ZA m i hl (by omega) (by omega)) ?_
  simp(disch:=omega)only[go_sem]
  refine qi (fun h2=>?_) (fun h2=>?_)
  ·simp(disch:=omega)only[go_sem,h2]
   have:=ax5 hz (by omega)
   rw[this]
   exact qy
  ·simp(disch:=omega)only[go_sem,h2]
   refine qe (i+1) [] ⟨by omega,fun j hj=>?_⟩ (by show 16*(lim m).length-(i+1)<16*(lim m).length-i;omega) rfl (by simp(disch:=omega)only[go_sem];try omega) (by simp(disch:=omega)only[go_sem])
   rcases(by omega:j<i∨j=i)with h|h
   ·exact hz j h
   ·subst h;omega
 ·simp(disch:=omega)only[go_sem,h1]
  have hm:m=0:=by
   have h3:=Q1 (m:=m)
   rcases Nat.eq_zero_or_pos m with h|h
   ·exact h
   ·have h4:=yM (n:=m) (by omega)
    have h5:=(Zl (n:=m) (by omega)).1
    have:=hz (tz m) (by omega)
    omega
  subst hm
  rw[apu]
  exact qy
end Go.Ab
namespace Go.Ab
open Go Go.Proofs
set_option maxRecDepth 100000 in
theorem ahZ(U V:List Int)(j:Nat)(hU:gd U)(hV:gd V)(lU:U.length≤2000000)(h2:2≤V.length)(hj:j+V.length<U.length)(hv1:32768≤V.getD (V.length-1) 0)(hW:vl (U.drop j)<65536*vl V):
  Con Tryz.prog 328 true [.sl U.length (qg U),.sl V.length (qg V),.v (.int .i64 j)] [] (fun r hs bs=>∃q:Int,r=.v (.int .i64 q)∧hs=[]∧bs=[]∧(0≤q∧q<65536)∧vl (U.drop j)<(q+1)*vl V∧q*vl V<vl (U.drop j)+vl V):=by
 refine Con.of_aw Tryz.func328 rfl Tryz.ntmps328 (by simp) (by simp) (by simp) (W.sound ?_)
 show @W Tryz.prog 76 ⟨_⟩ ⟨fun x σ=>@zl _ _ _ ⟨_⟩ _ ⟨_⟩ x σ⟩ _ _
 have hDl:V.length<(U.drop j).length:=by simp;omega
 have hz:=aim (Qx hU j) hV hDl hW
 have hw:=aWX hDl h2 hz
 have hvv:=aNW h2
 rw[jx,jx,jx]at hw
 have hx0:=zn (y4 (Qx hU j) (V.length-2))
 have hx1:=Jt (y4 (Qx hU j) (V.length-2))
 have hy0:=zn (y4 hV (V.length-2))
 have hy1:=Jt (y4 hV (V.length-2))
 rw[List.length_take,Nat.min_eq_left (by omega)]at hx1 hy1
 have gu0:=qS hU (j+V.length)
 have gu1:=qS hU (j+(V.length-1))
 have gu2:=qS hU (j+(V.length-2))
 have gv1:=qS hV (V.length-1)
 have gv2:=qS hV (V.length-2)
 have htop:=aZw hw hvv ⟨hx0,hx1⟩ ⟨hy0,hy1⟩ gu2.1 gu1.1 gv2.2 hW
 have e0:((j:Int)+(V.length:Int)).toNat=j+V.length:=by omega
 have e1:((j:Int)+(V.length:Int)-1).toNat=j+(V.length-1):=by omega
 have e2:((j:Int)+(V.length:Int)-2).toNat=j+(V.length-2):=by omega
 have f1:((V.length:Int)-1).toNat=V.length-1:=by omega
 have f2:((V.length:Int)-2).toNat=V.length-2:=by omega
 simp(disch:=omega)only[go_sem]
 refine qv rfl [⟨0,[],[]⟩,⟨1,[],[]⟩,⟨2,[],[]⟩,⟨3,[],[]⟩,⟨4,[],[]⟩,⟨5,[],[]⟩,⟨6,[],[]⟩,⟨7,[5],[]⟩,⟨8,[5],[]⟩,⟨9,[5],[]⟩,⟨10,[5],[]⟩,⟨11,[5],[]⟩,⟨12,[5],[]⟩,⟨13,[5],[]⟩,⟨14,[],[]⟩,⟨15,[],[]⟩] (by kernel_rfl) ?_
 simp(disch:=omega)only[go_sem,e0,e1]
 generalize hu0:U.getD (j+V.length) 0=u0 at*
 generalize hu1:U.getD (j+(V.length-1)) 0=u1 at*
 generalize hu2:U.getD (j+(V.length-2)) 0=u2 at*
 refine⟨by omega,by omega,by omega,by omega,?_⟩
 refine qv rfl [⟨0,[],[]⟩,⟨1,[],[]⟩,⟨2,[],[]⟩,⟨3,[],[]⟩,⟨4,[],[]⟩,⟨5,[],[]⟩,⟨6,[],[]⟩,⟨7,[5],[]⟩,⟨8,[5],[]⟩,⟨9,[5],[]⟩,⟨10,[5],[]⟩,⟨11,[5],[]⟩,⟨12,[5],[]⟩,⟨13,[5],[]⟩,⟨14,[12],[]⟩,⟨15,[],[]⟩] (by kernel_rfl) ?_
 simp(disch:=omega)only[go_sem,f1]
 generalize hvv1:V.getD (V.length-1) 0=v1 at*
 generalize hvv2:V.getD (V.length-2) 0=v2 at*
 generalize htt:u0*65536+u1=top at*
 refine⟨by omega,by omega,by omega,by omega,by omega,by omega,?_⟩
 have hq0:0≤top/v1:=Int.ediv_nonneg (by omega) (by omega)
 have hq1:top/v1≤65537:=by
  have:top/v1<65538:=Int.ediv_lt_of_lt_mul (by omega) (by omega)
  omega
 have hr0:=Int.emod_nonneg top (show v1≠0 by omega)
 have hr1:=Int.emod_lt_of_pos top (show 0<v1 by omega)
 have hqr:=Int.emod_add_mul_ediv top v1
 have hini:=aT6 hw hvv ⟨hx0,hx1⟩ ⟨hy0,hy1⟩ gu2 gv2.1 hq0 (show top<(top/v1+1)*v1 by rw[Int.add_mul,Int.mul_comm (top/v1)];omega)
 have hqr':top/v1*v1+top % v1=top:=by rw[Int.mul_comm];omega
 generalize top/v1=q0 at*
 generalize top % v1=r0 at*
 refine qj (fun x:Int×Int=>[(0,.sl U.length (qg U)),(1,.sl V.length (qg V)),(2,.v (.int .i64 j)),(7,.v (.int .i64 V.length)),(9,.v (.int .i64 x.1)),(10,.v (.int .i64 x.2))])
  (fun _=>[]) (fun x=>(0≤x.1∧x.1≤65537)∧(0≤x.2∧x.2<65536)∧x.1*v1+x.2=top∧vl (U.drop j)<(x.1+1)*vl V) (fun x=>x.1.toNat) (q0,r0) ⟨⟨hq0,hq1⟩,⟨hr0,by omega⟩,hqr',hini⟩
  (Le.lst [] _ _ rfl (by simp(disch:=omega)only[go_sem];try omega) (by simp(disch:=omega)only[go_sem])) ?_
 rintro⟨q,r⟩ ⟨hq,hr,hqr2,hlt⟩
 dsimp only at hq hr hqr2 hlt ⊢
 have hqv:0≤q*v2∧q*v2≤65537*65535:=⟨Int.mul_nonneg hq.1 gv2.1,Int.mul_le_mul hq.2 (by omega) gv2.1 (by omega)⟩
 simp(disch:=omega)only[go_sem]
 refine qv rfl [⟨0,[],[]⟩,⟨1,[],[]⟩,⟨2,[],[]⟩,⟨3,[],[]⟩,⟨4,[],[]⟩,⟨5,[],[]⟩,⟨6,[],[]⟩,⟨7,[],[]⟩,⟨8,[],[]⟩,⟨9,[],[]⟩,⟨10,[8],[]⟩,⟨11,[8],[]⟩,⟨12,[8],[]⟩,⟨13,[8],[]⟩,⟨14,[8],[]⟩,⟨15,[8],[]⟩,⟨16,[8],[]⟩,⟨17,[8],[]⟩,⟨18,[8],[]⟩,⟨19,[8],[]⟩,⟨20,[],[]⟩,⟨21,[],[]⟩] (by kernel_rfl) ?_
 simp(disch:=omega)only[go_sem]
 refine jm (fun h1=>?_) (fun h1=>?_)
 ·simp(disch:=omega)only[go_sem,h1,e2,f2,hu2,hvv2]
  refine⟨by omega,by omega,by omega,by omega,qi (fun h2=>?_) (fun h2=>?_)⟩
  ·simp(disch:=omega)only[go_sem,h2,f1,hvv1]
   have hst:=avu hw hvv ⟨hx0,hx1⟩ ⟨hy0,hy1⟩ hW gv2.1 (by omega) hq.1 hqr2 (.inr h2)
   have hqp:0<q:=by
    rcases(by omega:0<q∨q=0)with h|h
    ·exact h
    ·subst h;omega
   have hm:(q-1)*v1+(r+v1)=top:=by rw[Int.sub_mul];omega
   refine⟨by omega,by omega,qi (fun h3=>?_) (fun h3=>?_)⟩
   ·simp(disch:=omega)only[go_sem,h3]
    have h4:q-1<65536:=by
     rcases(by omega:q-1<65536∨65536≤q-1)with h|h
     ·exact h
     ·have:=Int.mul_le_mul_of_nonneg_right h (show 0≤v1 by omega)
      omega
    have h5:(q-1)*v2≤(r+v1)*65536+u2:=by
     have:(q-1)*v2≤65535*65535:=Int.mul_le_mul (by omega) (by omega) gv2.1 (by omega)
     omega
    have h6:=ahe hw hvv ⟨hx0,hx1⟩ ⟨hy0,hy1⟩ gv2.1 (by omega) ⟨by omega,h4⟩ hm h5
    exact qC (by simp(disch:=omega)only[go_sem]) (by simp(disch:=omega)only[go_sem]) ⟨q-1,rfl,rfl,rfl,⟨by omega,h4⟩,by rw[show q-1+1=q by omega];exact hst,h6⟩
   ·simp(disch:=omega)only[go_sem,h3]
    refine qe (q-1,r+v1) [] ⟨by show 0≤q-1∧q-1≤65537;omega,by show 0≤r+v1∧r+v1<65536;omega,hm,by show _<(q-1+1)*vl V;rw[show q-1+1=q by omega];exact hst⟩ (by show(q-1).toNat<q.toNat;omega) rfl (by simp(disch:=omega)only[go_sem];try omega) (by simp(disch:=omega)only[go_sem])
  ·simp(disch:=omega)only[go_sem,h2]
   have h6:=ahe hw hvv ⟨hx0,hx1⟩ ⟨hy0,hy1⟩ gv2.1 (by omega) ⟨hq.1,by omega⟩ hqr2 (by omega)
   exact qC (by simp(disch:=omega)only[go_sem]) (by simp(disch:=omega)only[go_sem]) ⟨q,rfl,rfl,rfl,⟨hq.1,by omega⟩,hlt,h6⟩
 ·simp(disch:=omega)only[go_sem,h1,f1,hvv1]
  have hst:=avu hw hvv ⟨hx0,hx1⟩ ⟨hy0,hy1⟩ hW gv2.1 (by omega) hq.1 hqr2 (.inl h1)
  have hqp:0<q:=by omega
  have hm:(q-1)*v1+(r+v1)=top:=by rw[Int.sub_mul];omega
  refine⟨by omega,by omega,qi (fun h3=>?_) (fun h3=>?_)⟩
  ·simp(disch:=omega)only[go_sem,h3]
   have h4:q-1<65536:=by
    rcases(by omega:q-1<65536∨65536≤q-1)with h|h
    ·exact h
    ·have:=Int.mul_le_mul_of_nonneg_right h (show 0≤v1 by omega)
     omega
   have h5:(q-1)*v2≤(r+v1)*65536+u2:=by
    have:(q-1)*v2≤65535*65535:=Int.mul_le_mul (by omega) (by omega) gv2.1 (by omega)
    omega
   have h6:=ahe hw hvv ⟨hx0,hx1⟩ ⟨hy0,hy1⟩ gv2.1 (by omega) ⟨by omega,h4⟩ hm h5
   exact qC (by simp(disch:=omega)only[go_sem]) (by simp(disch:=omega)only[go_sem]) ⟨q-1,rfl,rfl,rfl,⟨by omega,h4⟩,by rw[show q-1+1=q by omega];exact hst,h6⟩
  ·simp(disch:=omega)only[go_sem,h3]
   refine qe (q-1,r+v1) [] ⟨by show 0≤q-1∧q-1≤65537;omega,by show 0≤r+v1∧r+v1<65536;omega,hm,by show _<(q-1+1)*vl V;rw[show q-1+1=q by omega];exact hst⟩ (by show(q-1).toNat<q.toNat;omega) rfl (by simp(disch:=omega)only[go_sem];try omega) (by simp(disch:=omega)only[go_sem])
end Go.Ab
namespace Go.Ab
open Go Go.Proofs
theorem ada(U V:List Int)(j:Nat)(q:Int)(hU:gd U)(hV:gd V)(lU:U.length≤2000000)(hj:j+V.length<U.length)(hq:0≤q∧q<65536):
  Con Tryz.prog 329 false [.rf 10000000 0 U.length,.sl V.length (qg V),.v (.int .i64 j),.v (.int .i64 q)] [.own 1 (qg U)]
   (fun r hs bs=>∃(U':List Int) (bo:Int),r=.v (.bool (decide (U.getD (j+V.length) 0-bo<0)))∧hs=[]∧bs=[.own 1 (qg (U'.set (j+V.length) (U.getD (j+V.length) 0-bo)))]∧
    U'.length=U.length∧gd U'∧(0≤bo∧bo<65536)∧(∀t,t<j∨j+V.length≤t→U'.getD t 0=U.getD t 0)∧vl U'-65536^(j+V.length)*bo=vl U-65536^j*(q*vl V)):=by
 refine Con.of_aw Tryz.func329 rfl Tryz.ntmps329 (by simp) (by simp) (by simp) (W.sound ?_)
 show @W Tryz.prog 68 ⟨_⟩ ⟨fun x σ=>@zl _ _ _ ⟨_⟩ _ ⟨_⟩ x σ⟩ _ _
 simp(disch:=omega)only[go_sem]
 refine qj (fun x:Nat×List Int×Int=>[(0,.rf 10000000 0 U.length),(1,.sl V.length (qg V)),(2,.v (.int .i64 j)),(3,.v (.int .i64 q)),(9,.v (.int .i64 x.2.2)),(13,.sl V.length (qg V)),(14,.v (.int .i64 V.length)),(15,.v (.int .i64 x.1))])
  (fun x=>[(10000000,.own 1 (qg x.2.1))])
  (fun x=>x.1≤V.length∧x.2.1.length=U.length∧gd x.2.1∧(0≤x.2.2∧x.2.2<65536)∧(∀t,t<j∨j+x.1≤t→x.2.1.getD t 0=U.getD t 0)∧vl x.2.1-65536^(j+x.1)*x.2.2=vl U-65536^j*(q*vl (V.take x.1)))
  (fun x=>V.length-x.1) (0,U,0) ⟨by simp,rfl,hU,by simp,fun _ _=>rfl,by simp[vl]⟩
  (Le.lst [] _ _ rfl (by simp(disch:=omega)only[go_sem];try omega) (by simp(disch:=omega)only[go_sem])) ?_
 rintro⟨i,U1,bo⟩ ⟨hi,hl1,hg1,hbo,hsame,hval⟩
 dsimp only at hi hl1 hg1 hbo hsame hval ⊢
 simp(disch:=omega)only[go_sem]
 refine qi (fun h1=>?_) (fun h1=>?_)
 ·have hx:=qS hV i
  have hu:=qS hg1 (j+i)
  have hqx:0≤q*V.getD i 0∧q*V.getD i 0≤65535*65535:=⟨Int.mul_nonneg hq.1 hx.1,Int.mul_le_mul (by omega) (by omega) hx.1 (by omega)⟩
  have e1:((j:Int)+(i:Int)).toNat=j+i:=by omega
  have hstep:∀d b:Int,d-65536*b=U1.getD (j+i) 0-q*V.getD i 0-bo→vl (U1.set (j+i) d)-65536^(j+(i+1))*b=vl U-65536^j*(q*vl (V.take (i+1))):=by
   intro d b hd
   rw[Jd (by omega),za,←Nat.add_assoc,Int.pow_succ]
   have e3:(65536:Int)^(j+i)=65536^j*65536^i:=Int.pow_add _ _ _
   rw[e3]at hval ⊢
   generalize (65536:Int)^i=Pi at*
   generalize (65536:Int)^j=Pj at*
   grind
  have hsm:∀d:Int,∀t,t<j∨j+(i+1)≤t→(U1.set (j+i) d).getD t 0=U.getD t 0:=fun d t ht=>by
   rw[jW (by omega),if_neg (by omega)];exact hsame t (by omega)
  simp(disch:=omega)only[go_sem,h1,e1]
  refine⟨by omega,by omega,by omega,by omega,qi (fun h2=>?_) (fun h2=>?_)⟩
  ·simp(disch:=omega)only[go_sem,h2,e1]
   generalize hb:(0-(U1.getD (j+i) 0-q*V.getD i 0-bo)+65536-1)/65536=b
   refine⟨by omega,by omega,qe (i+1,U1.set (j+i) (U1.getD (j+i) 0-q*V.getD i 0-bo+b*65536),b) [] ⟨by show i+1≤_;omega,by simp[hl1],Qc hg1 (by omega),by show 0≤b∧b<65536;omega,hsm _,hstep (U1.getD (j+i) 0-q*V.getD i 0-bo+b*65536) b (by omega)⟩
    (by show V.length-(i+1)<V.length-i;omega) rfl (by simp(disch:=omega)only[go_sem];try omega) (by simp(disch:=omega)only[go_sem])⟩
  ·simp(disch:=omega)only[go_sem,h2,e1]
   refine⟨by omega,by omega,qe (i+1,U1.set (j+i) (U1.getD (j+i) 0-q*V.getD i 0-bo),0) [] ⟨by show i+1≤_;omega,by simp[hl1],Qc hg1 (by omega),by simp,hsm _,hstep (U1.getD (j+i) 0-q*V.getD i 0-bo) 0 (by omega)⟩
    (by show V.length-(i+1)<V.length-i;omega) rfl (by simp(disch:=omega)only[go_sem];try omega) (by simp(disch:=omega)only[go_sem])⟩
 ·have hiA:i=V.length:=by omega
  subst hiA
  rw[List.take_length]at hval
  have e1:((j:Int)+(V.length:Int)).toNat=j+V.length:=by omega
  have hu:=qS hg1 (j+V.length)
  have es:=hsame (j+V.length) (by omega)
  have eg:(U1.set (j+V.length) (U.getD (j+V.length) 0-bo)).getD (j+V.length) 0=U.getD (j+V.length) 0-bo:=by rw[jW (by omega),if_pos rfl]
  simp(disch:=omega)only[go_sem,h1,e1,es]
  refine⟨by omega,by omega,by omega,by omega,by omega,by simp;omega,?_⟩
  simp(disch:=omega)only[go_sem,eg]
  refine qm [] [] [.own 1 (qg (U1.set (j+V.length) (U.getD (j+V.length) 0-bo)))] [.v (.bool (decide (U.getD (j+V.length) 0-bo<0)))] rfl (by simp(disch:=omega)only[go_sem]) (by simp(disch:=omega)only[go_sem]) (by simp) (by simp) ⟨U1,bo,rfl,rfl,rfl,hl1,hg1,hbo,hsame,hval⟩
theorem ah1(U V:List Int)(j:Nat)(hU:∀t,t≠j+V.length→0≤U.getD t 0∧U.getD t 0<65536)(hUt: -65536≤U.getD (j+V.length) 0∧U.getD (j+V.length) 0<65536)(hV:gd V)(lU:U.length≤2000000)(hj:j+V.length<U.length):
  Con Tryz.prog 330 false [.rf 10000000 0 U.length,.sl V.length (qg V),.v (.int .i64 j)] [.own 1 (qg U)]
   (fun r hs bs=>∃(U':List Int),r=.tu []∧hs=[]∧bs=[.own 1 (qg U')]∧
    U'.length=U.length∧(∀t,t≠j+V.length→0≤U'.getD t 0∧U'.getD t 0<65536)∧(∀t,t<j∨j+V.length<t→U'.getD t 0=U.getD t 0)∧vl U'=vl U+65536^j*vl V):=by
 refine Con.of_aw Tryz.func330 rfl Tryz.ntmps330 (by simp) (by simp) (by simp) (W.sound ?_)
 show @W Tryz.prog 46 ⟨_⟩ ⟨fun x σ=>@zl _ _ _ ⟨_⟩ _ ⟨_⟩ x σ⟩ _ _
 simp(disch:=omega)only[go_sem]
 refine qj (fun x:Nat×List Int×Int=>[(0,.rf 10000000 0 U.length),(1,.sl V.length (qg V)),(2,.v (.int .i64 j)),(6,.v (.int .i64 x.2.2)),(9,.sl V.length (qg V)),(10,.v (.int .i64 V.length)),(11,.v (.int .i64 x.1))])
  (fun x=>[(10000000,.own 1 (qg x.2.1))])
  (fun x=>x.1≤V.length∧x.2.1.length=U.length∧(∀t,t≠j+V.length→0≤x.2.1.getD t 0∧x.2.1.getD t 0<65536)∧(0≤x.2.2∧x.2.2≤1)∧(∀t,t<j∨j+x.1≤t→x.2.1.getD t 0=U.getD t 0)∧vl x.2.1+65536^(j+x.1)*x.2.2=vl U+65536^j*vl (V.take x.1))
  (fun x=>V.length-x.1) (0,U,0) ⟨by simp,rfl,hU,by simp,fun _ _=>rfl,by simp[vl]⟩
  (Le.lst [] _ _ rfl (by simp(disch:=omega)only[go_sem];try omega) (by simp(disch:=omega)only[go_sem])) ?_
 rintro⟨i,U1,cy⟩ ⟨hi,hl1,hg1,hcy,hsame,hval⟩
 dsimp only at hi hl1 hg1 hcy hsame hval ⊢
 simp(disch:=omega)only[go_sem]
 refine qi (fun h1=>?_) (fun h1=>?_)
 ·have hx:=qS hV i
  have hu:=hg1 (j+i) (by omega)
  have e1:((j:Int)+(i:Int)).toNat=j+i:=by omega
  simp(disch:=omega)only[go_sem,h1,e1]
  generalize hb:cy+(U1.getD (j+i) 0+V.getD i 0)=b
  have hg2:∀t,t≠j+V.length→0≤(U1.set (j+i) (b % 65536)).getD t 0∧(U1.set (j+i) (b % 65536)).getD t 0<65536:=fun t ht=>by
   rw[jW (by omega)]
   split
   ·omega
   ·exact hg1 t ht
  refine⟨by omega,by omega,by omega,by omega,by omega,by omega,qe (i+1,U1.set (j+i) (b % 65536),b/65536) [] ⟨by show i+1≤_;omega,by simp[hl1],hg2,by show 0≤b/65536∧b/65536≤1;omega,fun t ht=>?_,?_⟩
   (by show V.length-(i+1)<V.length-i;omega) rfl (by simp(disch:=omega)only[go_sem];try omega) (by simp(disch:=omega)only[go_sem])⟩
  ·show(U1.set (j+i) (b % 65536)).getD t 0=_
   have ht:t<j∨j+(i+1)≤t:=ht
   rw[jW (by omega),if_neg (by omega)];exact hsame t (by omega)
  ·show vl (U1.set (j+i) (b % 65536))+65536^(j+(i+1))*(b/65536)=vl U+65536^j*vl (V.take (i+1))
   rw[Jd (by omega),za,←Nat.add_assoc,Int.pow_succ]
   have e3:(65536:Int)^(j+i)=65536^j*65536^i:=Int.pow_add _ _ _
   have e4:b % 65536+65536*(b/65536)=b:=Int.emod_add_mul_ediv b 65536
   rw[e3]at hval ⊢
   generalize (65536:Int)^i=Pi at*
   generalize (65536:Int)^j=Pj at*
   grind
 ·have hiA:i=V.length:=by omega
  subst hiA
  rw[List.take_length]at hval
  have e1:((j:Int)+(V.length:Int)).toNat=j+V.length:=by omega
  have es:=hsame (j+V.length) (by omega)
  simp(disch:=omega)only[go_sem,h1,e1,es]
  refine⟨by omega,by omega,by omega,by omega,?_⟩
  refine qm [] [] [.own 1 (qg (U1.set (j+V.length) (U.getD (j+V.length) 0+cy)))] [] rfl (by simp(disch:=omega)only[go_sem]) (by simp(disch:=omega)only[go_sem]) (by simp) (by simp) ⟨_,rfl,rfl,rfl,by simp[hl1],fun t ht=>?_,fun t ht=>?_,?_⟩
  ·rw[jW (by omega),if_neg ht];exact hg1 t ht
  ·rw[jW (by omega),if_neg (by omega)];exact hsame t (by omega)
  ·rw[Jd (by omega),es]
   generalize (65536:Int)^(j+V.length)=Pj at*
   grind
end Go.Ab
namespace Go.Ab
open Go Go.Proofs
theorem awC(cl:Bool)(n:Nat)(hn:n<2^63):Con Tryz.prog 111 cl [.v (.int .i64 n)] [] (auW (lim n)):=by
 refine Con.of_aw Tryz.func111 rfl Tryz.ntmps111 (by simp) (by simp) (by simp) (W.sound ?_)
 show @W Tryz.prog 14 ⟨_⟩ ⟨fun x σ=>@zl _ _ _ ⟨_⟩ _ ⟨_⟩ x σ⟩ _ _
 simp(disch:=omega)only[go_sem]
 refine qj (fun x:Nat×List Int=>[(0,.v (.int .i64 x.1)),(3,.rf 1 0 x.2.length)]) (fun x=>[(1,.own 1 (qg x.2))]) (fun x=>x.1<2^63∧x.2++lim x.1=lim n) (fun x=>x.1) (n,[]) ⟨hn,rfl⟩
  ((Le.ghost 3 1 1 (by simp(disch:=omega)only[go_sem]) (by simp(disch:=omega)only[go_sem])).trans (Le.lst [] _ _ rfl (by simp(disch:=omega)only[go_sem]) (by simp(disch:=omega)only[go_sem]))) ?_
 rintro⟨k,l⟩ ⟨hk,hl⟩
 dsimp only at hk hl ⊢
 have hlen:l.length≤4:=by
  have h1:=congrArg List.length hl
  have h2:=yY (n:=n) (k:=4) |>.2 (by omega)
  rw[List.length_append]at h1;omega
 simp(disch:=omega)only[go_sem]
 refine qi (fun h1=>?_) (fun h1=>?_)
 ·simp(disch:=omega)only[go_sem,h1]
  have hk0:k≠0:=by omega
  refine⟨by omega,qe (k/65536,l++[(k:Int) % 65536]) [(1,140000000)] ⟨by show k/65536<2^63;omega,?_⟩ (by show k/65536<k;omega) rfl (by simp(disch:=omega)only[go_sem,List.length_append];omega) (by simp(disch:=omega)only[go_sem])⟩
  rw[yW hk0]at hl
  rw[←hl,List.append_assoc];rfl
 ·simp(disch:=omega)only[go_sem,h1]
  have hk0:k=0:=by omega
  subst hk0
  rw[qz,List.append_nil]at hl
  subst hl
  refine qm [(0,1)] [.own 1 (qg (lim n++[]))] [] [.rf 0 0 (lim n).length] rfl (by simp(disch:=omega)only[go_sem]) (by simp(disch:=omega)only[go_sem]) (by simp) (by intro _;simp[zw,AV.pu,AV.pu.puL,Ob.pu,q8]) (.inr ⟨[],rfl,rfl⟩)
end Go.Ab
namespace Go.Ab
open Go Go.Proofs
theorem aJL(V P:Int)(hP:0<P):V % (P*65536)=V % P+P*(V/P % 65536):=by
 rw[Int.emod_def,Int.emod_def,Int.emod_def,←Int.ediv_ediv_of_nonneg (Int.le_of_lt hP)]
 grind
theorem aI5{s:Nat}(hs:s<16):(65536:Int)=2^s*2^(16-s):=by
 rw[←Int.pow_add,show s+(16-s)=16 by omega];decide
theorem aot{D:List Int}(hD:gd D){i s:Nat}(hi:i<D.length)(hs:s<16):
  (vl D/2^s)/65536^i % 65536=(D.getD i 0+D.getD (i+1) 0*65536)/2^s % 65536:=by
 have h2:=(Qo s hs).1
 rw[Int.ediv_ediv_of_nonneg (Int.le_of_lt h2),Int.mul_comm,←Int.ediv_ediv_of_nonneg (Int.le_of_lt (Int.pow_pos (by omega))),ail hD (by omega),zQ hi]
 have h3:vl (D.drop (i+1))=D.getD (i+1) 0+65536*vl (D.drop (i+2)):=by
  rcases Nat.lt_or_ge (i+1) D.length with h|h
  ·exact zQ h
  ·rw[List.drop_of_length_le h,List.drop_of_length_le (by omega),List.getD_eq_getElem?_getD,List.getElem?_eq_none h];simp[vl]
 rw[h3]
 have e:D.getD i 0+65536*(D.getD (i+1) 0+65536*vl (D.drop (i+2)))=(D.getD i 0+D.getD (i+1) 0*65536)+2^s*(65536*(2^(16-s)*vl (D.drop (i+2)))):=by
  have:=aI5 hs
  generalize (2:Int)^s=a at*
  generalize (2:Int)^(16-s)=b at*
  grind
 rw[e,Int.add_mul_ediv_left _ _ (by omega),Int.add_mul_emod_self_left]
theorem auR{a b:Nat}(h:a≤b):(65536:Int)^a≤65536^b:=by
 obtain⟨d,rfl⟩:=Nat.exists_eq_add_of_le h
 have h1:(0:Int)<65536^a:=Int.pow_pos (by omega)
 have h2:(0:Int)<65536^d:=Int.pow_pos (by omega)
 have h3:=Int.mul_le_mul_of_nonneg_left (show(1:Int)≤65536^d by omega) (Int.le_of_lt h1)
 rw[Int.mul_one,←Int.pow_add]at h3
 exact h3
theorem aLv(cl:Bool)(A:List Int)(k:Nat)(hA:gd A)(lA:A.length≤1000000)(hk:k≤100000000):
  Con Tryz.prog 262 cl [.sl A.length (qg A),.v (.int .i64 k)] [] (auW (lim (vl A/2^k).toNat)):=by
 refine Con.of_aw Tryz.func262 rfl Tryz.ntmps262 (by simp) (by simp) (by simp) (W.sound ?_)
 show @W Tryz.prog 52 ⟨_⟩ ⟨fun x σ=>@zl _ _ _ ⟨_⟩ _ ⟨_⟩ x σ⟩ _ _
 have hvk:vl A/2^k=vl A/65536^(k/16)/2^(k % 16):=by
  rw[Int.ediv_ediv_of_nonneg (Int.le_of_lt (Int.pow_pos (by omega))),acn]
 simp(disch:=omega)only[go_sem]
 refine qi (fun h0=>?_) (fun h0=>?_)
 ·simp(disch:=omega)only[go_sem,h0]
  have hz:vl A/2^k=0:=by
   rw[hvk,Int.ediv_eq_zero_of_lt (zn hA)]
   ·simp
   ·refine Int.lt_of_lt_of_le (Jt hA) ?_
    exact auR (by omega)
  rw[hz]
  refine qm [] [] [] [.v (.slice none 0 0)] rfl (by simp(disch:=omega)only[go_sem]) (by simp(disch:=omega)only[go_sem]) (by simp) (by intro _;simp[zw,AV.pu,AV.pu.puL,Ob.pu,q8]) (.inl ⟨by simp[qz],rfl,rfl⟩)
 ·have e16:((k:Int)/16).toNat=k/16:=by omega
  have e17:((A.length:Int)-(k:Int)/16).toNat=(A.drop (k/16)).length:=by simp;omega
  have e18:(A.drop (k/16)).take (A.drop (k/16)).length=A.drop (k/16):=List.take_length
  have hvD:=ail hA (i:=k/16) (by omega)
  have hlD:(A.drop (k/16)).length≤1000000:=by simp;omega
  have hD:=Qx hA (k/16)
  simp(disch:=omega)only[go_sem,h0,e16,e17,e18]
  generalize A.drop (k/16)=D at*
  refine⟨by omega,by omega,?_⟩
  refine qj (fun x:Nat×List Int=>[(1,.v (.int .i64 k)),(5,.sl D.length (qg D)),(6,.rf 1 0 x.2.length),(21,.sl D.length (qg D)),(22,.v (.int .i64 D.length)),(23,.v (.int .i64 x.1))])
   (fun x=>[(1,.own 1 (qg x.2))])
   (fun x=>x.1≤D.length∧x.2.length=x.1∧gd x.2∧vl x.2=vl D/2^(k % 16) % 65536^x.1)
   (fun x=>D.length-x.1) (0,[]) ⟨by simp,rfl,Ys,by simp[vl]⟩
   (Le.lst [(1,220000000)] _ _ rfl (by simp(disch:=omega)only[go_sem]) (by simp(disch:=omega)only[go_sem])) ?_
  rintro⟨i,out⟩ ⟨hi,hol,hog,hov⟩
  dsimp only at hi hol hog hov ⊢
  simp(disch:=omega)only[go_sem]
  refine qi (fun h1=>?_) (fun h1=>?_)
  ·have hx:=qS hD i
   have hy:=qS hD (i+1)
   have em:min ((k:Int) % 16).toNat 64=k % 16:=by omega
   have hm:=Qo (k % 16) (by omega)
   have efd:∀x:Int,x.fdiv (2^(k % 16))=x/2^(k % 16):=fun x=>Int.fdiv_eq_ediv_of_nonneg _ (Int.le_of_lt hm.1)
   have hdig:=aot hD (i:=i) (s:=k % 16) (by omega) (by omega)
   have hnn:∀x:Int,0≤x→0≤x/2^(k % 16):=fun x hx=>Int.ediv_nonneg hx (Int.le_of_lt hm.1)
   have ei:((i:Int)+1).toNat=i+1:=by omega
   have hstep:∀z:Int,z=(D.getD i 0+D.getD (i+1) 0*65536)/2^(k % 16) % 65536→vl (out++[z])=vl D/2^(k % 16) % 65536^(i+1):=by
    intro z hz
    rw[j9,hov,hol,Int.pow_succ,aJL _ _ (Int.pow_pos (by omega)),hdig,hz]
   simp(disch:=omega)only[go_sem,h1]
   refine⟨by omega,by omega,qi (fun h2=>?_) (fun h2=>?_)⟩
   ·have hn1:=hnn (D.getD i 0+D.getD (i+1) 0*65536) (by omega)
    simp(disch:=omega)only[go_sem,h2,em,efd,ei]
    refine⟨by omega,by omega,by omega,by omega,qe (i+1,out++[(D.getD i 0+D.getD (i+1) 0*65536)/2^(k % 16) % 65536]) [(1,500000000)] ⟨by show i+1≤_;omega,by simp[hol],qT.2 ⟨hog,jo.2 (by omega)⟩,hstep _ rfl⟩ (by show D.length-(i+1)<D.length-i;omega) rfl (by simp(disch:=omega)only[go_sem,List.length_append];try omega) (by simp(disch:=omega)only[go_sem])⟩
   ·have hn1:=hnn (D.getD i 0) (by omega)
    simp(disch:=omega)only[go_sem,h2,em,efd]
    have hy0:D.getD (i+1) 0=0:=by rw[List.getD_eq_getElem?_getD,List.getElem?_eq_none (by omega)];rfl
    refine⟨by omega,by omega,qe (i+1,out++[D.getD i 0/2^(k % 16) % 65536]) [(1,500000000)] ⟨by show i+1≤_;omega,by simp[hol],qT.2 ⟨hog,jo.2 (by omega)⟩,hstep _ (by rw[hy0];simp)⟩ (by show D.length-(i+1)<D.length-i;omega) rfl (by simp(disch:=omega)only[go_sem,List.length_append];try omega) (by simp(disch:=omega)only[go_sem])⟩
  ·simp(disch:=omega)only[go_sem,h1]
   have hiD:i=D.length:=by omega
   subst hiD
   have hV:vl out=vl A/2^k:=by
    rw[hov,hvk,hvD]
    refine Int.emod_eq_of_lt (Int.ediv_nonneg (zn hD) (Int.le_of_lt (Qo (k % 16) (by omega)).1)) ?_
    exact Int.lt_of_le_of_lt (Int.ediv_le_self _ (zn hD)) (Jt hD)
   refine zt false [1] (jZ out (by omega)) (by simp(disch:=omega)only[go_sem]) (by simp(disch:=omega)only[go_sem]) rfl (zp (z:=1) (cs:=qg out) (by simp(disch:=omega)only[go_sem]) (by simp(disch:=omega)only[go_sem])) (by intro n hn;exact⟨_,List.mem_singleton.2 rfl,by rw[List.mem_singleton.1 hn];rfl⟩) ?_
   rintro r hs bs ⟨rfl,rfl,rfl⟩ _
   refine⟨by simp[qL],?_⟩
   simp(disch:=omega)only[go_sem]
   obtain⟨z,hz⟩:=je out
   have hc:=jG hog
   rw[hV]at hc
   rw[hc]at hz ⊢
   refine qm [(0,1)] [.own 1 (qg out)] [] [.rf 0 0 (lim (vl A/2^k).toNat).length] rfl (by simp(disch:=omega)only[go_sem]) (by simp(disch:=omega)only[go_sem]) (by simp) (by intro _;simp[zw,AV.pu,AV.pu.puL,Ob.pu,q8]) (.inr ⟨List.replicate z 0,rfl,by rw[←hz]⟩)
end Go.Ab
namespace Go.Ab
open Go Go.Proofs
theorem aLo(cl:Bool)(A B:List Int)(hA:gd A)(hB:gd B)(lA:A.length≤2000000)(lB:B.length≤2000000):
  Con Tryz.prog 273 cl [.sl A.length (qg A),.sl B.length (qg B)] [] (auW (lim (vl A+vl B).toNat)):=by
 refine Con.of_aw Tryz.func273 rfl Tryz.ntmps273 (by simp) (by simp) (by simp) (W.sound ?_)
 show @W Tryz.prog 53 ⟨_⟩ ⟨fun x σ=>@zl _ _ _ ⟨_⟩ _ ⟨_⟩ x σ⟩ _ _
 simp(disch:=omega)only[go_sem]
 refine qi (fun h0=>?_) (fun h0=>?_)
 all_goals simp(disch:=omega)only[go_sem,h0]
 ·revert A B
  intro Y X hY hX lY lX h0'
  have h00:Y.length≤X.length:=by omega
  have hcm:vl Y+vl X=vl X+vl Y:=Int.add_comm _ _
  refine⟨by omega,?_⟩
  refine qj (fun x:Nat×List Int×Int=>[(1,.sl Y.length (qg Y)),(5,.rf 1 0 x.2.1.length),(6,.v (.int .i64 x.2.2)),(20,.sl X.length (qg X)),(21,.v (.int .i64 X.length)),(22,.v (.int .i64 x.1))])
   (fun x=>[(1,.own 1 (qg x.2.1))])
   (fun x=>x.1≤X.length∧x.2.1.length=x.1∧gd x.2.1∧(0≤x.2.2∧x.2.2≤1)∧vl x.2.1+65536^x.1*x.2.2=vl (X.take x.1)+vl (Y.take x.1))
   (fun x=>X.length-x.1) (0,[],0) ⟨by simp,rfl,Ys,by simp,by simp[vl]⟩
   (Le.lst [(1,210000000)] _ _ rfl (by simp(disch:=omega)only[go_sem]) (by simp(disch:=omega)only[go_sem])) ?_
  rintro⟨i,out,cy⟩ ⟨hi,hol,hog,hcy,hov⟩
  dsimp only at hi hol hog hcy hov ⊢
  simp(disch:=omega)only[go_sem]
  refine qi (fun h1=>?_) (fun h1=>?_)
  ·have hx:=qS hX i
   have hy:=qS hY i
   have hstep:∀q:Int,q=cy+X.getD i 0+Y.getD i 0→vl (out++[q % 65536])+65536^(i+1)*(q/65536)=vl (X.take (i+1))+vl (Y.take (i+1)):=by
    intro q hq
    rw[j9,za,za,hol,Int.pow_succ]
    have e3:q % 65536+65536*(q/65536)=q:=Int.emod_add_mul_ediv q 65536
    generalize (65536:Int)^i=Pi at*
    grind
   have hyz:¬i<Y.length→Y.getD i 0=0:=fun h=>by rw[List.getD_eq_getElem?_getD,List.getElem?_eq_none (by omega)];rfl
   simp(disch:=omega)only[go_sem,h1]
   refine⟨by omega,by omega,qi (fun h2=>?_) (fun h2=>?_)⟩
   ·simp(disch:=omega)only[go_sem,h2]
    generalize hq:cy+X.getD i 0+Y.getD i 0=q
    refine⟨by omega,by omega,by omega,qe (i+1,out++[q % 65536],q/65536) [(1,460000000)] ⟨by show i+1≤_;omega,by simp[hol],qT.2 ⟨hog,jo.2 (by omega)⟩,by show 0≤q/65536∧q/65536≤1;omega,hstep q hq.symm⟩ (by show X.length-(i+1)<X.length-i;omega) rfl (by simp(disch:=omega)only[go_sem,List.length_append];try omega) (by simp(disch:=omega)only[go_sem])⟩
   ·simp(disch:=omega)only[go_sem,h2]
    have hy0:=hyz (by omega)
    generalize hq:cy+X.getD i 0=q
    refine⟨by omega,qe (i+1,out++[q % 65536],q/65536) [(1,460000000)] ⟨by show i+1≤_;omega,by simp[hol],qT.2 ⟨hog,jo.2 (by omega)⟩,by show 0≤q/65536∧q/65536≤1;omega,hstep q (by omega)⟩ (by show X.length-(i+1)<X.length-i;omega) rfl (by simp(disch:=omega)only[go_sem,List.length_append];try omega) (by simp(disch:=omega)only[go_sem])⟩
  ·simp(disch:=omega)only[go_sem,h1]
   have hiA:i=X.length:=by omega
   subst hiA
   rw[List.take_length,List.take_of_length_le h00]at hov
   have hov2:vl (out++[cy])=vl X+vl Y:=by rw[j9,hol];exact hov
   have hog2:gd (out++[cy]):=qT.2 ⟨hog,jo.2 (by omega)⟩
   refine⟨by omega,?_⟩
   have hl2:out.length+1=(out++[cy]).length:=by simp
   rw[hl2]
   refine zt false [530000000] (jZ (out++[cy]) (by simp;omega)) (by simp(disch:=omega)only[go_sem]) (by simp(disch:=omega)only[go_sem]) rfl (zp (z:=1) (cs:=qg (out++[cy])) (by simp(disch:=omega)only[go_sem]) (by simp(disch:=omega)only[go_sem])) (by intro n hn;exact⟨_,List.mem_singleton.2 rfl,by rw[List.mem_singleton.1 hn];rfl⟩) ?_
   rintro r hs bs ⟨rfl,rfl,rfl⟩ _
   refine⟨by simp[qL],?_⟩
   simp(disch:=omega)only[go_sem]
   obtain⟨z,hz⟩:=je (out++[cy])
   have hc:=jG hog2
   rw[hov2]at hc
   rw[hc]at hz ⊢
   refine qm [(0,530000000)] [.own 1 (qg (out++[cy]))] [] [.rf 0 0 (lim (vl X+vl Y).toNat).length] rfl (by simp(disch:=omega)only[go_sem]) (by simp(disch:=omega)only[go_sem]) (by simp) (by intro _;simp[zw,AV.pu,AV.pu.puL,Ob.pu,q8]) (.inr ⟨List.replicate z 0,by rw[hcm];rfl,by rw[hcm,←hz]⟩)
 ·revert A B
  intro X Y hX hY lX lY h0'
  have h00:Y.length≤X.length:=by omega
  have hcm:vl X+vl Y=vl X+vl Y:=rfl
  refine⟨by omega,?_⟩
  refine qj (fun x:Nat×List Int×Int=>[(1,.sl Y.length (qg Y)),(5,.rf 1 0 x.2.1.length),(6,.v (.int .i64 x.2.2)),(20,.sl X.length (qg X)),(21,.v (.int .i64 X.length)),(22,.v (.int .i64 x.1))])
   (fun x=>[(1,.own 1 (qg x.2.1))])
   (fun x=>x.1≤X.length∧x.2.1.length=x.1∧gd x.2.1∧(0≤x.2.2∧x.2.2≤1)∧vl x.2.1+65536^x.1*x.2.2=vl (X.take x.1)+vl (Y.take x.1))
   (fun x=>X.length-x.1) (0,[],0) ⟨by simp,rfl,Ys,by simp,by simp[vl]⟩
   (Le.lst [(1,210000000)] _ _ rfl (by simp(disch:=omega)only[go_sem]) (by simp(disch:=omega)only[go_sem])) ?_
  rintro⟨i,out,cy⟩ ⟨hi,hol,hog,hcy,hov⟩
  dsimp only at hi hol hog hcy hov ⊢
  simp(disch:=omega)only[go_sem]
  refine qi (fun h1=>?_) (fun h1=>?_)
  ·have hx:=qS hX i
   have hy:=qS hY i
   have hstep:∀q:Int,q=cy+X.getD i 0+Y.getD i 0→vl (out++[q % 65536])+65536^(i+1)*(q/65536)=vl (X.take (i+1))+vl (Y.take (i+1)):=by
    intro q hq
    rw[j9,za,za,hol,Int.pow_succ]
    have e3:q % 65536+65536*(q/65536)=q:=Int.emod_add_mul_ediv q 65536
    generalize (65536:Int)^i=Pi at*
    grind
   have hyz:¬i<Y.length→Y.getD i 0=0:=fun h=>by rw[List.getD_eq_getElem?_getD,List.getElem?_eq_none (by omega)];rfl
   simp(disch:=omega)only[go_sem,h1]
   refine⟨by omega,by omega,qi (fun h2=>?_) (fun h2=>?_)⟩
   ·simp(disch:=omega)only[go_sem,h2]
    generalize hq:cy+X.getD i 0+Y.getD i 0=q
    refine⟨by omega,by omega,by omega,qe (i+1,out++[q % 65536],q/65536) [(1,460000000)] ⟨by show i+1≤_;omega,by simp[hol],qT.2 ⟨hog,jo.2 (by omega)⟩,by show 0≤q/65536∧q/65536≤1;omega,hstep q hq.symm⟩ (by show X.length-(i+1)<X.length-i;omega) rfl (by simp(disch:=omega)only[go_sem,List.length_append];try omega) (by simp(disch:=omega)only[go_sem])⟩
   ·simp(disch:=omega)only[go_sem,h2]
    have hy0:=hyz (by omega)
    generalize hq:cy+X.getD i 0=q
    refine⟨by omega,qe (i+1,out++[q % 65536],q/65536) [(1,460000000)] ⟨by show i+1≤_;omega,by simp[hol],qT.2 ⟨hog,jo.2 (by omega)⟩,by show 0≤q/65536∧q/65536≤1;omega,hstep q (by omega)⟩ (by show X.length-(i+1)<X.length-i;omega) rfl (by simp(disch:=omega)only[go_sem,List.length_append];try omega) (by simp(disch:=omega)only[go_sem])⟩
  ·simp(disch:=omega)only[go_sem,h1]
   have hiA:i=X.length:=by omega
   subst hiA
   rw[List.take_length,List.take_of_length_le h00]at hov
   have hov2:vl (out++[cy])=vl X+vl Y:=by rw[j9,hol];exact hov
   have hog2:gd (out++[cy]):=qT.2 ⟨hog,jo.2 (by omega)⟩
   refine⟨by omega,?_⟩
   have hl2:out.length+1=(out++[cy]).length:=by simp
   rw[hl2]
   refine zt false [530000000] (jZ (out++[cy]) (by simp;omega)) (by simp(disch:=omega)only[go_sem]) (by simp(disch:=omega)only[go_sem]) rfl (zp (z:=1) (cs:=qg (out++[cy])) (by simp(disch:=omega)only[go_sem]) (by simp(disch:=omega)only[go_sem])) (by intro n hn;exact⟨_,List.mem_singleton.2 rfl,by rw[List.mem_singleton.1 hn];rfl⟩) ?_
   rintro r hs bs ⟨rfl,rfl,rfl⟩ _
   refine⟨by simp[qL],?_⟩
   simp(disch:=omega)only[go_sem]
   obtain⟨z,hz⟩:=je (out++[cy])
   have hc:=jG hog2
   rw[hov2]at hc
   rw[hc]at hz ⊢
   refine qm [(0,530000000)] [.own 1 (qg (out++[cy]))] [] [.rf 0 0 (lim (vl X+vl Y).toNat).length] rfl (by simp(disch:=omega)only[go_sem]) (by simp(disch:=omega)only[go_sem]) (by simp) (by intro _;simp[zw,AV.pu,AV.pu.puL,Ob.pu,q8]) (.inr ⟨List.replicate z 0,by rw[hcm];rfl,by rw[hcm,←hz]⟩)
end Go.Ab
namespace Go.Ab
open Go Go.Proofs
theorem axc(cl:Bool)(xs:List Int)(hl:xs.length≤2^39):Con Tryz.prog 304 cl [.sl xs.length (qg xs)] [] (auW xs):=by
 refine Con.of_aw Tryz.func304 rfl Tryz.ntmps304 (by simp) (by simp) (by simp) (W.sound ?_)
 show @W Tryz.prog 8 ⟨_⟩ ⟨fun x σ=>@zl _ _ _ ⟨_⟩ _ ⟨_⟩ x σ⟩ _ _
 simp(disch:=omega)only[go_sem]
 refine⟨fun h0=>?_,?_⟩
 ·have:xs=[]:=by cases xs with|nil=>rfl|cons a r=>cases h0
  subst this
  refine qm [] [] [] [.v (.slice none 0 0)] rfl (by simp(disch:=omega)only[go_sem]) (by simp(disch:=omega)only[go_sem]) (by simp) (by intro _;simp[zw,AV.pu]) (.inl ⟨rfl,rfl,rfl⟩)
 ·refine⟨by omega,?_⟩
  refine qm [(0,90000000)] [.own 1 (qg xs)] [] [.rf 0 0 xs.length] rfl (by simp(disch:=omega)only[go_sem]) (by simp(disch:=omega)only[go_sem]) (by simp) (by intro _;simp[zw,AV.pu,Ob.pu,q8]) (.inr ⟨[],rfl,by rw[List.append_nil]⟩)
end Go.Ab
namespace Go.Ab
open Go Go.Proofs
theorem ado(x:Int):Con Tryz.prog 307 true [.v (.int .i64 x)] [] (isA (.v (.bool false))):=by
 refine Con.of_w (rs:=[.tmp 2]) Tryz.func307 rfl Tryz.ntmps307 rfl ?_
 simp(disch:=omega)only[go_sem]
 exact qy
theorem axb(x y:Int):Con Tryz.prog 267 true [.v (.int .i64 x),.v (.int .i64 y)] [] (isA (.v (.int .i64 (zH x y)))):=by
 refine Con.of_w (rs:=[.tmp 4]) Tryz.func267 rfl Tryz.ntmps267 rfl ?_
 simp(disch:=omega)only[go_sem]
 refine qn (ado x) ?_
 simp(disch:=omega)only[go_sem]
 refine qn (ado y) ?_
 simp(disch:=omega)only[go_sem]
 refine qi (fun h1=>?_) (fun h1=>?_)
 ·simp(disch:=omega)only[go_sem,h1]
  rw[show zH x y= -1 by simp[zH,h1]]
  exact qy
 ·simp(disch:=omega)only[go_sem,h1]
  refine qi (fun h2=>?_) (fun h2=>?_)
  ·simp(disch:=omega)only[go_sem,h2]
   rw[show zH x y=1 by simp[zH,h1,h2]]
   exact qy
  ·simp(disch:=omega)only[go_sem,h2]
   rw[show zH x y=0 by simp[zH,h1,h2]]
   exact qy
theorem jC(a b:Nat)(la:(lim a).length≤2^40)(lb:(lim b).length≤2^40):
  Con Tryz.prog 213 true [.sl (lim (a)).length (qg (lim (a))),.sl (lim (b)).length (qg (lim (b)))] [] (isA (.v (.int .i64 (zH a b)))):=by
 refine Con.of_w (rs:=[.tmp 4]) Tryz.func213 rfl Tryz.ntmps213 rfl ?_
 simp(disch:=omega)only[go_sem]
 refine jm (fun h1=>?_) (fun h1=>?_)
 ·simp(disch:=omega)only[go_sem,h1]
  refine qn (axb (lim a).length (lim b).length) ?_
  simp(disch:=omega)only[go_sem]
  have:zH ((lim a).length:Int) ((lim b).length:Int)=zH a b:=by
   unfold zH
   rcases(by omega:(lim a).length<(lim b).length∨(lim b).length<(lim a).length)with h|h
   ·have:=Zp h
    rw[if_pos (by omega),if_pos (by omega)]
   ·have:=Zp h
    rw[if_neg (by omega),if_pos (by omega),if_neg (by omega),if_pos (by omega)]
  rw[this]
  exact qy
 ·simp(disch:=omega)only[go_sem,h1]
  have hl:(lim a).length=(lim b).length:=by omega
  refine qj (fun k:Nat=>[(0,.sl (lim (a)).length (qg (lim (a)))),(1,.sl (lim (b)).length (qg (lim (b)))),(5,.v (.int .i64 ((k:Int)-1)))])
   (fun _=>[]) (fun k=>k≤(lim a).length∧(lim a).drop k=(lim b).drop k) (fun k=>k) (lim a).length ⟨Nat.le_refl _,by rw[List.drop_length,hl,List.drop_length]⟩ (Le.lst [] _ _ rfl (by simp(disch:=omega)only[go_sem];try omega) (by simp(disch:=omega)only[go_sem])) ?_
  rintro k ⟨hk,hd⟩
  simp(disch:=omega)only[go_sem]
  refine qi (fun h2=>?_) (fun h2=>?_)
  ·obtain⟨i,rfl⟩:∃i,k=i+1:=⟨k-1,by omega⟩
   have ei:((i+1:Nat):Int)-1=(i:Nat):=by omega
   simp(disch:=omega)only[go_sem,h2,ei]
   refine qv rfl [⟨0,[],[]⟩,⟨1,[],[]⟩,⟨2,[],[]⟩,⟨3,[],[]⟩,⟨4,[3],[]⟩,⟨5,[3],[]⟩,⟨6,[3],[]⟩,⟨7,[3],[]⟩,⟨8,[],[]⟩] (by kernel_rfl) ?_
   simp(disch:=omega)only[go_sem,ei]
   refine⟨by omega,by omega,by omega,by omega,?_⟩
   refine jm (fun h3=>?_) (fun h3=>?_)
   ·simp(disch:=omega)only[go_sem,h3]
    refine qv rfl [⟨0,[],[]⟩,⟨1,[],[]⟩,⟨2,[],[]⟩,⟨3,[],[]⟩,⟨4,[3],[]⟩,⟨5,[3],[]⟩,⟨6,[3],[]⟩,⟨7,[3],[]⟩,⟨8,[],[]⟩,⟨9,[],[]⟩] (by kernel_rfl) ?_
    simp(disch:=omega)only[go_sem,ei]
    refine⟨by omega,by omega,by omega,by omega,?_⟩
    refine qn (axb ((lim a).getD i 0) ((lim b).getD i 0)) ?_
    simp(disch:=omega)only[go_sem]
    have hva:=zd a
    have hvb:=zd b
    have:zH ((lim a).getD i 0) ((lim b).getD i 0)=zH a b:=by
     unfold zH
     rcases(by omega:(lim a).getD i 0<(lim b).getD i 0∨(lim b).getD i 0<(lim a).getD i 0)with h|h
     ·have:=JF (zj a) (zj b) (by omega) hl hd h
      rw[if_pos (by omega),if_pos (by omega)]
     ·have:=JF (zj b) (zj a) (by omega) hl.symm hd.symm h
      rw[if_neg (by omega),if_pos (by omega),if_neg (by omega),if_pos (by omega)]
    rw[this]
    exact qy
   ·simp(disch:=omega)only[go_sem,h3]
    refine qe i [] ⟨by omega,?_⟩ (by show i<i+1;omega) rfl (by simp(disch:=omega)only[go_sem];try omega) (by simp(disch:=omega)only[go_sem])
    rw[QA (l:=lim a) (by omega),QA (l:=lim b) (by omega),h3,hd]
  ·simp(disch:=omega)only[go_sem,h2]
   have:k=0:=by omega
   subst this
   rw[List.drop_zero,List.drop_zero]at hd
   have:=Vr hd
   subst this
   rw[show zH (a:Int) (a:Int)=0 by simp[zH]]
   exact qy
end Go.Ab
namespace Go.Proofs
open Go.Shelf
def Tryz.lays29_ren:Go.Shelf.Ren:=⟨fun|29=>332|n=>n,fun|0=>0|3=>3|4=>4|5=>5|22=>295|25=>243|54=>316|n=>n,fun|1=>1|n=>n⟩
theorem Tryz.lays29:Go.Proofs.Lays7.n29 Tryz.prog Tryz.lays29_ren:={
 mixed:=by kernel_rfl
 f29:=Tryz.func332.trans (congrArg some (by kernel_rfl))
 t0:=Tryz.underlying0
 a0:=Tryz.isAgg0
 z0:=Tryz.sizeOf0
 v0:=Tryz.zeroValue0
 i0:=by kernel_rfl
 t3:=Tryz.underlying3
 a3:=Tryz.isAgg3
 z3:=Tryz.sizeOf3
 v3:=Tryz.zeroValue3
 i3:=by kernel_rfl
 t4:=Tryz.underlying4
 a4:=Tryz.isAgg4
 z4:=Tryz.sizeOf4
 v4:=Tryz.zeroValue4
 i4:=by kernel_rfl
 t5:=Tryz.underlying5
 a5:=Tryz.isAgg5
 z5:=Tryz.sizeOf5
 v5:=Tryz.zeroValue5
 i5:=by kernel_rfl
 t22:=Tryz.underlying295
 a22:=Tryz.isAgg295
 z22:=Tryz.sizeOf295
 v22:=Tryz.zeroValue295
 i22:=by kernel_rfl
 t25:=Tryz.underlying243
 a25:=Tryz.isAgg243
 z25:=Tryz.sizeOf243
 v25:=Tryz.zeroValue243
 i25:=by kernel_rfl
 t54:=Tryz.underlying316
 a54:=Tryz.isAgg316
 z54:=Tryz.sizeOf316
 g1:=by kernel_rfl}
def Tryz.lays129_ren:Go.Shelf.Ren:=⟨fun|129=>306|n=>n,fun|53=>295|46=>243|3=>3|4=>4|5=>5|9=>9|n=>n,fun|n=>n⟩
theorem Tryz.lays129:Go.Proofs.Lays.n129 Tryz.prog Tryz.lays129_ren:={
 mixed:=by kernel_rfl
 f129:=Tryz.func306.trans (congrArg some (by kernel_rfl))
 t3:=Tryz.underlying3
 a3:=Tryz.isAgg3
 z3:=Tryz.sizeOf3
 v3:=Tryz.zeroValue3
 t4:=Tryz.underlying4
 a4:=Tryz.isAgg4
 z4:=Tryz.sizeOf4
 v4:=Tryz.zeroValue4
 t5:=Tryz.underlying5
 a5:=Tryz.isAgg5
 z5:=Tryz.sizeOf5
 v5:=Tryz.zeroValue5
 t9:=Tryz.underlying9
 a9:=Tryz.isAgg9
 z9:=Tryz.sizeOf9
 v9:=Tryz.zeroValue9
 t46:=Tryz.underlying243
 a46:=Tryz.isAgg243
 z46:=Tryz.sizeOf243
 v46:=Tryz.zeroValue243
 t53:=Tryz.underlying295
 a53:=Tryz.isAgg295
 z53:=Tryz.sizeOf295
 v53:=Tryz.zeroValue295}
end Go.Proofs
namespace Go.Ab
open Go Go.Proofs
theorem beD(x:Nat)(h0:x≠0)(h:x<2^64):Lib.ctz 64 x=tz x:=by
 unfold Lib.ctz
 rw[if_neg h0]
 obtain⟨m,hm,_⟩:=Lib.ctzFrom_spec 64 x (by omega) h
 exact(JT hm).symm
theorem axy(x:Nat)(h:x<2^64):Lib.bitLen x=bl x:=by
 induction x using Nat.strongRecOn with
 |_ x ih=>
  by_cases h0:x=0
  ·subst h0;rfl
  ·rw[Lib.bitLen_half x h0 h,ih (x/2) (by omega) (by omega),aNR h0,Nat.add_comm]
theorem aLk(x:Nat)(h0:x≠0)(h:x<2^64):Con Tryz.prog 332 true [.v (.int .u64 x)] [] (isA (.v (.int .i64 (tz x)))):=
 Con.scalar (xs:=[.int .u64 x]) fun w hg=>by
  rw[←beD x h0 h]
  exact Any7.bits_TrailingZeros64 Tryz.lays29 x h w fun _ j hj=>(hg 1 Lib.deBruijn64tab rfl).2 j hj
theorem awJ(x:Nat)(h:x<2^64):Con Tryz.prog 306 true [.v (.int .u64 x)] [] (isA (.v (.int .i64 (bl x)))):=
 Con.scalar (xs:=[.int .u64 x]) fun w hg=>by
  rw[←axy x h]
  exact Any.bits_Len64 Tryz.lays129 x w (by omega) (by omega)
theorem beK(x:Nat)(h0:x≠0)(h:x<2^64):Con Tryz.prog 303 true [.v (.int .u64 x)] [] (isA (.v (.int .i64 (tz x)))):=by
 refine Con.of_w (rs:=[.tmp 2]) Tryz.func303 rfl Tryz.ntmps303 rfl ?_
 simp(disch:=omega)only[go_sem]
 refine qn (aLk x h0 h) ?_
 simp(disch:=omega)only[go_sem]
 exact qy
theorem awK(x:Nat)(h:x<2^64):Con Tryz.prog 266 true [.v (.int .u64 x)] [] (isA (.v (.int .i64 (bl x)))):=by
 refine Con.of_w (rs:=[.tmp 2]) Tryz.func266 rfl Tryz.ntmps266 rfl ?_
 simp(disch:=omega)only[go_sem]
 refine qn (awJ x h) ?_
 simp(disch:=omega)only[go_sem]
 exact qy
theorem apo{x:Int}(h1:0≤x)(h2:x<9223372036854775808):IntKind.u64.wrap x=x:=by
 simp only[IntKind.wrap,IntKind.signed,IntKind.bits]
 simp only[Bool.false_and,Bool.false_eq_true,if_false]
 omega
theorem aoV(m:Nat)(hl:(lim m).length≤2^40):Con Tryz.prog 212 true [.sl (lim (m)).length (qg (lim (m)))] [] (isA (.v (.int .i64 (bl m)))):=by
 refine Con.of_w (rs:=[.tmp 2]) Tryz.func212 rfl Tryz.ntmps212 rfl ?_
 simp(disch:=omega)only[go_sem]
 refine qi (fun h1=>?_) (fun h1=>?_)
 ·simp(disch:=omega)only[go_sem,h1]
  have:m=0:=qM.1 (List.length_eq_zero_iff.1 (by omega))
  subst this
  rw[QG]
  exact qy
 ·have hm:m≠0:=fun e=>by rw[e,qz]at h1;simp at h1
  have e1:((lim m).length:Int).toNat-1=(lim m).length-1:=by omega
  have e2:(((lim m).length:Int)-1).toNat=(lim m).length-1:=by omega
  have ht:=Yn hm
  have hb:=axw hm
  simp(disch:=omega)only[go_sem,h1,e2,jk]
  generalize m/65536^((lim m).length-1)=q at*
  have e3:((q % 65536:Nat):Int)=(q:Int):=by omega
  simp(disch:=omega)only[go_sem,e3,apo]
  refine⟨by omega,by omega,?_⟩
  refine qn (awK q (by omega)) ?_
  simp(disch:=omega)only[go_sem]
  have hq:bl q≤16:=q9.2 (by omega)
  have e4:(16:Int)*(((lim m).length:Int)-1)+(bl q:Int)=(bl m:Int):=by omega
  simp(disch:=omega)only[go_sem,e4]
  exact qy
theorem aN0{m i:Nat}(hz:∀j,j<i→(lim m).getD j 0=0)(hx:(lim m).getD i 0≠0):tz m=16*i+tz (m/65536^i % 65536):=by
 rw[jk]at hx
 have hx':m/65536^i % 65536≠0:=fun e=>hx (by rw[e];rfl)
 obtain⟨a,ha⟩:=XY hx'
 have hlow:65536^i*(m/65536^i)=m:=by
  have key:∀k,k≤i→m % 65536^k=0:=by
   intro k
   induction k with
   |zero=>intro _;simp[Nat.mod_one]
   |succ k ih=>
    intro hk
    have h1:=ih (by omega)
    have h2:=hz k (by omega)
    rw[jk]at h2
    have h3:m/65536^k % 65536=0:=by omega
    rw[Nat.pow_succ,Nat.mod_mul,h1,h3];omega
  have:=Nat.div_add_mod m (65536^i)
  rw[key i (Nat.le_refl _)]at this
  omega
 generalize hq:m/65536^i=q at*
 have ht:tz (q % 65536)<16:=by
  have h1:=yM hx'
  have:bl (q % 65536)≤16:=q9.2 (by omega)
  omega
 generalize hk:tz (q % 65536)=k at*
 have e16:(65536:Nat)=2^k*(2*2^(15-k)):=by rw[Nat.mul_left_comm,←Nat.pow_add,show k+(15-k)=15 by omega]
 refine JT (a:=a+2^(15-k)*(q/65536)) ?_
 have hd:=Nat.div_add_mod q 65536
 rw[←hlow,Nat.pow_add,←Ye]
 have h5:q=2^k*(2*(a+2^(15-k)*(q/65536))+1):=by
  have:q=2^k*(2*2^(15-k))*(q/65536)+2^k*(2*a+1):=by rw[←e16,←ha];omega
  generalize q/65536=y at*
  generalize 2^(15-k)=z at*
  grind
 generalize q/65536=y at*
 rw[Nat.mul_assoc,←h5]
theorem ahC(m:Nat)(hl:(lim m).length≤2^40):Con Tryz.prog 261 true [.sl (lim (m)).length (qg (lim (m)))] [] (isA (.v (.int .i64 (tz m)))):=by
 refine Con.of_w (rs:=[.tmp 2]) Tryz.func261 rfl Tryz.ntmps261 rfl ?_
 simp(disch:=omega)only[go_sem]
 refine qj (fun i:Nat=>[(0,.sl (lim (m)).length (qg (lim (m)))),(5,.sl (lim (m)).length (qg (lim (m)))),(6,.v (.int .i64 (lim m).length)),(7,.v (.int .i64 i))])
  (fun _=>[]) (fun i=>i≤(lim m).length∧∀j,j<i→(lim m).getD j 0=0) (fun i=>(lim m).length-i) 0 ⟨by omega,fun j hj=>by omega⟩ (Le.lst [] _ _ rfl (by simp(disch:=omega)only[go_sem];try omega) (by simp(disch:=omega)only[go_sem])) ?_
 rintro i ⟨hi,hz⟩
 simp(disch:=omega)only[go_sem]
 refine qi (fun h1=>?_) (fun h1=>?_)
 ·simp(disch:=omega)only[go_sem,h1]
  refine⟨by omega,by omega,jm (fun h2=>?_) (fun h2=>?_)⟩
  ·have ht:=aN0 hz h2
   have hx:m/65536^i % 65536≠0:=fun e=>h2 (by rw[jk,e];rfl)
   have ht16:tz (m/65536^i % 65536)<16:=by
    have h1:=yM hx
    have:bl (m/65536^i % 65536)≤16:=q9.2 (by omega)
    omega
   simp(disch:=omega)only[go_sem,h2,jk]
   generalize hq:m/65536^i % 65536=q at*
   have hq6:q<65536:=by omega
   simp(disch:=omega)only[go_sem,apo]
   refine qn (beK q hx (by omega)) ?_
   simp(disch:=omega)only[go_sem]
   have e4:(16:Int)*(i:Int)+(tz q:Int)=(tz m:Int):=by omega
   simp(disch:=omega)only[go_sem,e4]
   exact qy
  ·simp(disch:=omega)only[go_sem,h2]
   refine qe (i+1) [] ⟨by omega,fun j hj=>?_⟩ (by show(lim m).length-(i+1)<(lim m).length-i;omega) rfl (by simp(disch:=omega)only[go_sem];try omega) (by simp(disch:=omega)only[go_sem])
   rcases(by omega:j<i∨j=i)with h|h
   ·exact hz j h
   ·subst h;exact h2
 ·simp(disch:=omega)only[go_sem,h1]
  have hm:m=0:=by
   have:=zd m
   have h3:lim m=List.replicate (lim m).length 0:=by
    apply List.ext_getElem
    ·simp
    ·intro j h1 h2
     have:=hz j (by omega)
     rw[List.getD_eq_getElem?_getD,List.getElem?_eq_getElem h1]at this
     simpa using this
   rw[h3,jh]at this
   omega
  subst hm
  rw[apu]
  exact qy
theorem adw(m:Nat)(i:Int)(hl:(lim m).length≤2^40)(hi:0≤i)(hi2:i<2^62):Con Tryz.prog 300 true [.sl (lim (m)).length (qg (lim (m))),.v (.int .i64 i)] [] (isA (.v (.int .i64 ((m/2^i.toNat % 2:Nat):Int)))):=by
 refine Con.of_w (rs:=[.tmp 4]) Tryz.func300 rfl Tryz.ntmps300 rfl ?_
 obtain⟨k,rfl⟩:=Int.eq_ofNat_of_zero_le hi
 rw[Int.toNat_natCast]
 have h0:¬((k:Int)<0):=by omega
 have e16:((k:Int)/16).toNat=k/16:=by omega
 have em:min ((k:Int) % 16).toNat 64=k % 16:=by omega
 have hb:=axx m k
 simp(disch:=omega)only[go_sem,h0]
 refine qi (fun h1=>?_) (fun h1=>?_)
 ·simp(disch:=omega)only[go_sem,h1]
  have:m/2^k % 2=0:=by
   rw[←hb]
   have h2:=jk m (k/16)
   rw[List.getD_eq_getElem?_getD,List.getElem?_eq_none (by omega)]at h2
   have h3:m/65536^(k/16) % 65536=0:=by simp only[Option.getD_none]at h2;omega
   rw[h3];simp
  rw[this]
  exact qy
 ·have hx:=qS (zj m) (k/16)
  have hp:(0:Int)<2^(k % 16):=Int.pow_pos (by omega)
  have efd:∀x:Int,x.fdiv (2^(k % 16))=x/2^(k % 16):=fun x=>Int.fdiv_eq_ediv_of_nonneg _ (Int.le_of_lt hp)
  have hq:0≤(lim m).getD (k/16) 0/2^(k % 16)∧(lim m).getD (k/16) 0/2^(k % 16)<65536:=by
   refine⟨Int.ediv_nonneg hx.1 (Int.le_of_lt hp),Int.lt_of_le_of_lt (Int.ediv_le_self _ hx.1) hx.2⟩
  have hr:(lim m).getD (k/16) 0/2^(k % 16) % 2=((m/2^k % 2:Nat):Int):=by
   rw[←hb,jk]
   generalize m/65536^(k/16) % 65536=x
   rw[Int.natCast_emod,Int.natCast_ediv,Int.natCast_pow];rfl
  simp(disch:=omega)only[go_sem,h1,e16,em,efd,hr]
  refine⟨by omega,by omega,by omega,?_⟩
  exact qy
end Go.Ab
namespace Go.Ab
open Go Go.Proofs
theorem adL(a k:Nat):(vl (lim a)*2^k).toNat=a*2^k:=by
 rw[zd]
 have:((a:Int)*2^k)=((a*2^k:Nat):Int):=by rw[Int.natCast_mul,Int.natCast_pow];rfl
 rw[this,Int.toNat_natCast]
theorem adN(a k:Nat):(vl (lim a)/2^k).toNat=a/2^k:=by
 rw[zd]
 have:((a:Int)/2^k)=((a/2^k:Nat):Int):=by rw[Int.natCast_ediv,Int.natCast_pow];rfl
 rw[this,Int.toNat_natCast]
theorem aN4(a b:Nat):(vl (lim a)*vl (lim b)).toNat=a*b:=by rw[zd,zd,←Int.natCast_mul,Int.toNat_natCast]
theorem aN5(a b:Nat):(vl (lim a)+vl (lim b)).toNat=a+b:=by rw[zd,zd];omega
theorem aN3(a b:Nat):(vl (lim a)-vl (lim b)).toNat=a-b:=by rw[zd,zd];omega
theorem zW(n:Nat)(hn:n<2^63):Con Tryz.prog 111 false [.v (.int .i64 n)] [] (aTt (lim n)):=(awC false n hn).num
theorem awv(cl:Bool)(a k:Nat)(la:(lim a).length≤1000000)(hk:k≤100000000):Con Tryz.prog 214 cl [.sl (lim (a)).length (qg (lim (a))),.v (.int .i64 k)] [] (auW (lim (a*2^k))):=by
 have:=beJ cl (lim a) k (zj a) la hk
 rwa[adL]at this
theorem jp(a k:Nat)(la:(lim a).length≤1000000)(hk:k≤100000000):Con Tryz.prog 214 false [.sl (lim (a)).length (qg (lim (a))),.v (.int .i64 k)] [] (aTt (lim (a*2^k))):=(awv false a k la hk).num
theorem adt(cl:Bool)(a k:Nat)(la:(lim a).length≤1000000)(hk:k≤100000000):Con Tryz.prog 262 cl [.sl (lim (a)).length (qg (lim (a))),.v (.int .i64 k)] [] (auW (lim (a/2^k))):=by
 have:=aLv cl (lim a) k (zj a) la hk
 rwa[adN]at this
theorem aw9(a k:Nat)(la:(lim a).length≤1000000)(hk:k≤100000000):Con Tryz.prog 262 false [.sl (lim (a)).length (qg (lim (a))),.v (.int .i64 k)] [] (aTt (lim (a/2^k))):=(adt false a k la hk).num
theorem XE(a b:Nat)(la:(lim a).length≤1000000)(lb:(lim b).length≤1000000):Con Tryz.prog 260 false [.sl (lim (a)).length (qg (lim (a))),.sl (lim (b)).length (qg (lim (b)))] [] (aTt (lim (a*b))):=by
 have:=(awx false (lim a) (lim b) (zj a) (zj b) la lb).num
 rwa[aN4]at this
theorem adb(a b:Nat)(la:(lim a).length≤2000000)(lb:(lim b).length≤2000000):Con Tryz.prog 273 false [.sl (lim (a)).length (qg (lim (a))),.sl (lim (b)).length (qg (lim (b)))] [] (aTt (lim (a+b))):=by
 have:=(aLo false (lim a) (lim b) (zj a) (zj b) la lb).num
 rwa[aN5]at this
theorem axa(a d:Nat)(la:(lim a).length≤1000000)(hd:0<d)(hd2:d<65536):
  Con Tryz.prog 327 false [.sl (lim (a)).length (qg (lim (a))),.v (.int .i64 d)] [] (isA (.tu [.sl (lim (a/d)).length (qg (lim (a/d))),.v (.int .i64 ((a % d:Nat):Int))])):=
 Con.frzA <| (aLw false (lim a) d (zj a) la hd hd2).mono fun r hs bs ⟨zs,h1,h2⟩=>by
  rw[zd]at h1 h2
  rw[h1,h2]
  have e:((a:Int)/(d:Int)).toNat=a/d:=by
   rw[←Int.natCast_ediv,Int.toNat_natCast]
  rw[e]
  show qK _ 6 _=_
  unfold qK
  simp only[List.map_cons,List.map_nil]
  rw[yk (k:=3) (l:=lim (a/d)) (zs:=zs) qY rfl]
  rw[Int.natCast_emod];rfl
end Go.Ab
namespace Go.Ab
open Go Go.Proofs
set_option maxRecDepth 100000 in
theorem aoT(a b:Nat)(hb:b≠0)(la:(lim a).length≤900000)(lb:(lim b).length≤900000):
  Con Tryz.prog 301 false [.sl (lim (a)).length (qg (lim (a))),.sl (lim (b)).length (qg (lim (b)))] [] (bfK (.tu [.sl (lim (a/b)).length (qg (lim (a/b))),.sl (lim (a % b)).length (qg (lim (a % b)))])):=by
 refine Con.of_aw Tryz.func301 rfl Tryz.ntmps301 (by simp) (by simp) (by simp) (W.sound ?_)
 show @W Tryz.prog 96 ⟨_⟩ ⟨fun x σ=>@zl _ _ _ ⟨_⟩ _ ⟨_⟩ x σ⟩ _ _
 simp(disch:=omega)only[go_sem]
 refine qx (jC a b (by omega) (by omega)) (by simp(disch:=omega)only[go_sem]) ?_
 rintro r hs ⟨rfl,rfl,_⟩
 refine⟨by simp[qL],?_⟩
 simp(disch:=omega)only[go_sem]
 refine qi (fun h1=>?_) (fun h1=>?_)
 ·simp(disch:=omega)only[go_sem,h1]
  have hab:a<b:=by
   unfold zH at h1;split at h1
   ·omega
   ·split at h1<;>omega
  refine qa (axc false (lim a) (by omega)).num ?_
  simp(disch:=omega)only[go_sem]
  refine q7 (by simp(disch:=omega)only[go_sem]) ?_
  show qK _ 6 _=_
  rw[Nat.div_eq_of_lt hab,Nat.mod_eq_of_lt hab]
  simp only[qK,qz];rfl
 ·have hab:b≤a:=by
   unfold zH at h1;split at h1
   ·omega
   ·omega
  have ha:a≠0:=by omega
  have hlb:=Qt hb
  simp(disch:=omega)only[go_sem,h1]
  refine qi (fun h2=>?_) (fun h2=>?_)
  ·simp(disch:=omega)only[go_sem,h2]
   have hb6:b<65536:=by have:=Ji b;rw[show(lim b).length=1 by omega]at this;omega
   have e0:(lim b).getD 0 0=(b:Int):=by rw[jk];simp;omega
   simp(disch:=omega)only[go_sem,e0]
   refine⟨by omega,by omega,?_⟩
   refine qa (axa a b (by omega) (by omega) hb6) ?_
   simp(disch:=omega)only[go_sem]
   have:a % b<b:=Nat.mod_lt _ (by omega)
   refine qa (zW (a % b) (by omega)) ?_
   simp(disch:=omega)only[go_sem]
   exact q7 (by simp(disch:=omega)only[go_sem]) (by rfl)
  ·have hl2:2≤(lim b).length:=by omega
   have hll:(lim b).length≤(lim a).length:=yX hab
   have ht:=Yn hb
   have eb:(((lim b).length:Int)-1).toNat=(lim b).length-1:=by omega
   have hnd:=aJp hb _ rfl
   simp(disch:=omega)only[go_sem,h2,eb,jk]
   have e3:((b/65536^((lim b).length-1) % 65536:Nat):Int)=((b/65536^((lim b).length-1):Nat):Int):=by rw[Nat.mod_eq_of_lt ht.2]
   generalize hq:b/65536^((lim b).length-1)=q at*
   have hq16:bl q≤16:=q9.2 (by omega)
   simp(disch:=omega)only[go_sem,e3,apo]
   refine⟨by omega,by omega,?_⟩
   refine qn (awK q (by omega)) ?_
   simp(disch:=omega)only[go_sem]
   have e4:(16:Int)-(bl q:Int)=((16-bl q:Nat):Int):=by omega
   simp(disch:=omega)only[go_sem,e4]
   generalize hs:16-bl q=s at*
   obtain⟨hs16,hvl,hv1,hvge⟩:=hnd
   refine qF (jp b s (by omega) (by omega)) (by simp(disch:=omega)only[go_sem,e4]) ?_
   rintro r hs0 ⟨rfl,rfl,_⟩
   refine⟨by simp[qL],?_⟩
   simp(disch:=omega)only[go_sem]
   refine qF (awv false a s (by omega) (by omega)) (by simp(disch:=omega)only[go_sem,e4]) ?_
   have hun:a*2^s≠0:=by have:0<2^s:=Nat.pow_pos (by omega);have:=Nat.mul_pos (show 0<a by omega) this;omega
   rintro r hs1 (⟨h,_,_⟩|⟨zs,rfl,rfl⟩)
   ·exact absurd (qM.1 h) hun
   refine⟨⟨by simp,by simp(disch:=omega)only[go_sem]⟩,?_⟩
   have hul:=aoe a hs16
   have hug:=avm a s
   have ex:((lim a).length:Int)+1-((lim (a*2^s)).length:Int)=(((lim a).length+1-(lim (a*2^s)).length:Nat):Int):=by omega
   have ecut:(lim (a*2^s)++zs).take (lim (a*2^s)).length=lim (a*2^s):=List.take_left' rfl
   have em:(((lim a).length:Int)-((lim b).length:Int)+1).toNat=(lim a).length-(lim b).length+1:=by omega
   simp(disch:=omega)only[go_sem,ex,ecut,em]
   generalize hU0:lim (a*2^s)++List.replicate ((lim a).length+1-(lim (a*2^s)).length) 0=U0
   have lU0:U0.length=(lim a).length+1:=by rw[←hU0];simp;omega
   have gU0:gd U0:=by rw[←hU0];exact qT.2 ⟨zj _,zC _⟩
   have vU0:vl U0=((a*2^s:Nat):Int):=by rw[←hU0,aik,zd]
   have hfw:=av6 gU0 hll hlb hs16 lU0 vU0 hvge
   have elen:(lim (a*2^s)).length+((lim a).length+1-(lim (a*2^s)).length)=U0.length:=by omega
   refine⟨by omega,⟨by simp,by omega⟩,by omega,?_⟩
   generalize hV:lim (b*2^s)=V at*
   have gV:gd V:=by rw[←hV];exact zj _
   have vV:vl V=((b*2^s:Nat):Int):=by rw[←hV,zd]
   generalize hm:(lim a).length-(lim b).length+1=m at*
   refine qj (fun x:Nat×List Int×List Int=>[(8,.v (.int .i64 s)),(9,.sl V.length (qg V)),(10,.rf 0 0 x.2.1.length),(11,.rf 1 0 x.2.2.length),(12,.v (.int .i64 ((x.1:Int)-1)))])
    (fun x=>[(0,.own 1 (qg x.2.1)),(1,.own 1 (qg x.2.2))])
    (fun x=>x.1≤m∧x.2.1.length=U0.length∧gd x.2.1∧x.2.2.length=m∧gd x.2.2∧vl (x.2.1.drop x.1)<vl V∧vl x.2.1+vl V*(65536^x.1*vl (x.2.2.drop x.1))=((a*2^s:Nat):Int))
    (fun x=>x.1) (m,U0,List.replicate m 0) ⟨Nat.le_refl _,rfl,gU0,by simp,zC _,by show vl (U0.drop m)<vl V;rw[vV];exact hfw,by show vl U0+vl V*(65536^m*vl ((List.replicate m 0).drop m))=_;rw[List.drop_of_length_le (by simp)];simp[vl];exact vU0⟩
    (Le.lst [(0,580000000),(1,650000000)] _ _ rfl (by simp(disch:=omega)only[go_sem,elen,e4,List.length_replicate];try omega) (by simp(disch:=omega)only[go_sem,hU0,em])) ?_
   rintro⟨k,U,O⟩ ⟨hk,lU,gU,lO,gO,hlt,hval⟩
   dsimp only at hk lU gU lO gO hlt hval ⊢
   simp(disch:=omega)only[go_sem]
   refine qi (fun g1=>?_) (fun g1=>?_)
   ·obtain⟨j,rfl⟩:∃j,k=j+1:=⟨k-1,by omega⟩
    have ej:((j+1:Nat):Int)-1=(j:Nat):=by omega
    have hWj:vl (U.drop j)<65536*vl V:=by
     rw[zQ (by omega)]
     have:=qS gU j
     omega
    simp(disch:=omega)only[go_sem,g1,ej]
    refine qx (ahZ U V j gU gV (by omega) (by omega) (by omega) (by rw[hvl];exact hv1) hWj) (by simp(disch:=omega)only[go_sem]) ?_
    rintro r hs ⟨qd,rfl,rfl,_,hq,hq1,hq2⟩
    refine⟨by simp[qL],?_⟩
    simp(disch:=omega)only[go_sem]
    refine zt false [0] (ada U V j qd gU gV (by omega) (by omega) hq) (by simp(disch:=omega)only[go_sem]) (by simp(disch:=omega)only[go_sem]) rfl (zp (z:=1) (cs:=qg U) (by simp(disch:=omega)only[go_sem]) (by simp(disch:=omega)only[go_sem])) (by intro n hn;exact⟨_,List.mem_cons_self ..,by rw[List.mem_singleton.1 hn];rfl⟩) ?_
    rintro r hs bs ⟨U',bo,rfl,rfl,rfl,hl',gU',hbo,hsm,hv'⟩ _
    refine⟨by simp[qL],?_⟩
    generalize hT:U'.set (j+V.length) (U.getD (j+V.length) 0-bo)=T at*
    obtain⟨lT,vT,wT,tT,aT,pT,nT⟩:=aub gU gV (by omega) hWj hq1 hq2 hl' gU' hsm hv' T hT.symm
    have hfin:∀(U2:List Int) (qf:Int),vl U2=vl U-65536^j*(qf*vl V)→vl U2+vl V*(65536^j*vl ((O.set j qf).drop j))=((a*2^s:Nat):Int):=by
     intro U2 qf h2
     rw[aci (by omega),h2,←hval,Int.pow_succ]
     generalize (65536:Int)^j=Pj at*
     grind
    simp(disch:=omega)only[go_sem]
    refine qi (fun g2=>?_) (fun g2=>?_)
    ·obtain⟨⟨n1,n2⟩,n3⟩:=nT g2
     simp(disch:=omega)only[go_sem,g2]
     refine zt false [0] (ah1 T V j n3 (by rw[tT];omega) gV (by omega) (by omega)) (by simp(disch:=omega)only[go_sem,lT]) (by simp(disch:=omega)only[go_sem]) rfl (zp (z:=1) (cs:=qg T) (by simp(disch:=omega)only[go_sem]) (by simp(disch:=omega)only[go_sem])) (by intro n hn;exact⟨_,List.mem_cons_self ..,by rw[List.mem_singleton.1 hn];rfl⟩) ?_
     rintro r hs bs ⟨T',rfl,rfl,rfl,lT',gT',sT',vT'⟩ _
     refine⟨by simp[qL],?_⟩
     rw[Int.add_mul]at hq1
     obtain⟨gT2,wT2⟩:=axB gV (by omega) lT' gT' sT' aT vT' (by omega) (by omega)
     simp(disch:=omega)only[go_sem,lO]
     have hqp:0<qd:=by
      have h3:=zn (Qx gU j)
      rcases(by omega:0<qd∨qd=0)with h|h
      ·exact h
      ·subst h;simp at n2;omega
     refine⟨by omega,by omega,qe (j,T',O.set j (qd-1)) [] ⟨by show j≤m;omega,by show T'.length=_;omega,gT2,by simp[lO],Qc gO (by omega),by show vl (T'.drop j)<vl V;omega,hfin T' (qd-1) ?_⟩ (by show j<j+1;omega) rfl (by simp(disch:=omega)only[go_sem,List.length_set];try omega) (by simp(disch:=omega)only[go_sem])⟩
     rw[vT',vT,Int.sub_mul,Int.one_mul,Int.mul_sub];omega
    ·obtain⟨p1,p2⟩:=pT g2
     rw[Int.add_mul]at hq1
     simp(disch:=omega)only[go_sem,g2,lO]
     refine⟨by omega,by omega,qe (j,T,O.set j qd) [] ⟨by show j≤m;omega,by show T.length=_;omega,p1,by simp[lO],Qc gO hq,by show vl (T.drop j)<vl V;omega,hfin T qd vT⟩ (by show j<j+1;omega) rfl (by simp(disch:=omega)only[go_sem,List.length_set];try omega) (by simp(disch:=omega)only[go_sem])⟩
   ·have:k=0:=by omega
    subst this
    rw[List.drop_zero]at hlt
    rw[List.drop_zero,Int.pow_zero,Int.one_mul]at hval
    have hvO:=zn gO
    have hvU:=zn gU
    have hcO:=jG gO
    have hcU:=jG gU
    have hpS:0<2^s:=Nat.pow_pos (by omega)
    obtain⟨d1,d2⟩:(vl O).toNat=a/b∧(vl U).toNat=a % b*2^s:=by
     refine aK7 hpS (by omega) ?_ (by omega)
     rw[vV]at hval
     have:((vl U).toNat:Int)+((b*2^s:Nat):Int)*((vl O).toNat:Int)=((a*2^s:Nat):Int):=by
      rw[Int.toNat_of_nonneg hvO,Int.toNat_of_nonneg hvU];exact hval
     rw[←Int.natCast_mul,←Int.natCast_add]at this
     exact Int.ofNat.inj this
    rw[d1]at hcO
    rw[d2]at hcU
    obtain⟨zo,hzo⟩:=je O
    obtain⟨zu,hzu⟩:=je U
    have htU:=aws U
    rw[hcO]at hzo
    rw[hcU]at hzu htU
    simp(disch:=omega)only[go_sem,g1]
    refine zt false [1] (jZ O (by omega)) (by simp(disch:=omega)only[go_sem]) (by simp(disch:=omega)only[go_sem]) rfl (zp (z:=1) (cs:=qg O) (by simp(disch:=omega)only[go_sem]) (by simp(disch:=omega)only[go_sem])) (by intro n hn;exact⟨_,List.mem_singleton.2 rfl,by rw[List.mem_singleton.1 hn];rfl⟩) ?_
    rintro r hs bs ⟨rfl,rfl,rfl⟩ _
    refine⟨by simp[qL],?_⟩
    simp(disch:=omega)only[go_sem]
    refine zt false [0] (jZ U (by omega)) (by simp(disch:=omega)only[go_sem]) (by simp(disch:=omega)only[go_sem]) rfl (zp (z:=1) (cs:=qg U) (by simp(disch:=omega)only[go_sem]) (by simp(disch:=omega)only[go_sem])) (by intro n hn;exact⟨_,List.mem_singleton.2 rfl,by rw[List.mem_singleton.1 hn];rfl⟩) ?_
    rintro r hs bs ⟨rfl,rfl,rfl⟩ _
    refine⟨by simp[qL],?_⟩
    simp(disch:=omega)only[go_sem,hcO,hcU]
    have hlr:(lim (a % b*2^s)).length≤1000000:=by
     have:=congrArg List.length hzu
     simp at this;omega
    refine qx (adt true (a % b*2^s) s hlr (by omega)) (by simp(disch:=omega)only[go_sem,htU]) ?_
    rw[Nat.mul_div_cancel _ hpS]
    rintro r hs2 (⟨h,rfl,rfl⟩|⟨z2,rfl,rfl⟩)
    ·refine⟨⟨by simp,by simp(disch:=omega)only[go_sem]⟩,?_⟩
     simp(disch:=omega)only[go_sem]
     refine qm [(0,1)] [.own 1 (qg O)] [] [.rf 0 0 (lim (a/b)).length,.v (.slice none 0 0)] rfl (by simp(disch:=omega)only[go_sem]) (by simp(disch:=omega)only[go_sem]) (by simp) (by simp) ?_
     show qK _ 6 _=_
     unfold qK
     simp only[zw,List.map_cons,List.map_nil]
     rw[hzo,yk (k:=3) (l:=lim (a/b)) (zs:=List.replicate zo 0) qY rfl,h]
     rfl
    ·refine⟨⟨by simp,by simp(disch:=omega)only[go_sem]⟩,?_⟩
     simp(disch:=omega)only[go_sem]
     refine qm [(0,1),(1,970000000)] [.own 1 (qg O),.own 1 (qg (lim (a % b)++z2))] [] [.rf 0 0 (lim (a/b)).length,.rf 1 0 (lim (a % b)).length] rfl (by simp(disch:=omega)only[go_sem]) (by simp(disch:=omega)only[go_sem]) (by simp) (by simp) ?_
     show qK _ 6 _=_
     unfold qK
     simp only[zw,List.map_cons,List.map_nil]
     rw[hzo,yk (k:=3) (l:=lim (a/b)) (zs:=List.replicate zo 0) qY rfl,yk (k:=3) (l:=lim (a % b)) (zs:=z2) aSo rfl]
end Go.Ab
namespace Go.Ab
open Go Go.Proofs
theorem XB(n lo hi:Int):Con Tryz.prog 52 true [.v (.int .i64 n),.v (.int .i64 lo),.v (.int .i64 hi)] [] (fun r hs bs=>r=.v (.bool (decide (lo≤n)&&decide (n≤hi)))∧hs=[]):=by
 refine Con.of_aw Tryz.func52 rfl Tryz.ntmps52 (by simp) (by simp) (by simp) (W.sound ?_)
 show @W Tryz.prog 15 ⟨_⟩ ⟨fun x σ=>@zl _ _ _ ⟨_⟩ _ ⟨_⟩ x σ⟩ _ _
 simp(disch:=omega)only[go_sem]
 refine qi (fun h1=>?_) (fun h1=>?_)
 ·simp(disch:=omega)only[go_sem,h1]
  refine qm [] [] [] [.v (.bool (decide (n≤hi)))] rfl (by simp(disch:=omega)only[go_sem]) (by simp(disch:=omega)only[go_sem]) (by simp) (by simp[AV.pu,zw]) ⟨by simp[zw,h1],rfl⟩
 ·simp(disch:=omega)only[go_sem,h1]
  refine qm [] [] [] [.v (.bool false)] rfl (by simp(disch:=omega)only[go_sem]) (by simp(disch:=omega)only[go_sem]) (by simp) (by simp[AV.pu,zw]) ⟨by simp[zw,h1],rfl⟩
end Go.Ab
namespace Go.Ab
open Go Go.Proofs
theorem ahY(a b:Nat)(hb:b≠0)(la:(lim a).length≤900000)(lb:(lim b).length≤900000):
  Con Tryz.prog 301 false [.sl (lim (a)).length (qg (lim (a))),.sl (lim (b)).length (qg (lim (b)))] [] (isA (.tu [.sl (lim (a/b)).length (qg (lim (a/b))),.sl (lim (a % b)).length (qg (lim (a % b)))])):=(aoT a b hb la lb).frzA
theorem ahH(neg odd:Bool)(half mode:Int):Con Tryz.prog 302 true [.v (.bool neg),.v (.bool odd),.v (.int .i64 half),.v (.int .i64 mode)] [] (isA (.v (.bool (rup neg odd half mode)))):=by
 refine Con.of_aw Tryz.func302 rfl Tryz.ntmps302 (by simp) (by simp) (by simp) (W.sound ?_)
 show @W Tryz.prog 32 ⟨_⟩ ⟨fun x σ=>@zl _ _ _ ⟨_⟩ _ ⟨_⟩ x σ⟩ _ _
 simp(disch:=omega)only[go_sem]
 refine qi (fun h1=>?_) (fun h1=>?_)
 ·simp(disch:=omega)only[go_sem,h1]
  exact qC (by simp(disch:=omega)only[go_sem]) (by simp(disch:=omega)only[go_sem]) ⟨by simp[zw,rup,h1],rfl,rfl⟩
 ·simp(disch:=omega)only[go_sem,h1]
  refine qi (fun h2=>?_) (fun h2=>?_)
  ·simp(disch:=omega)only[go_sem,h2]
   exact qC (by simp(disch:=omega)only[go_sem]) (by simp(disch:=omega)only[go_sem]) ⟨by simp[zw,rup,h2],rfl,rfl⟩
  ·simp(disch:=omega)only[go_sem,h2]
   refine qi (fun h3=>?_) (fun h3=>?_)
   ·simp(disch:=omega)only[go_sem,h3]
    refine jm (fun h4=>?_) (fun h4=>?_)
    ·simp(disch:=omega)only[go_sem,h4]
     refine qi (fun h5=>?_) (fun h5=>?_)
     ·simp(disch:=omega)only[go_sem,h5]
      exact qC (by simp(disch:=omega)only[go_sem]) (by simp(disch:=omega)only[go_sem]) ⟨by simp[zw,rup,h3,h5],rfl,rfl⟩
     ·simp(disch:=omega)only[go_sem,h5]
      exact qC (by simp(disch:=omega)only[go_sem]) (by simp(disch:=omega)only[go_sem]) ⟨by simp[zw,rup,h3,h4,h5],rfl,rfl⟩
    ·simp(disch:=omega)only[go_sem,h4]
     exact qC (by simp(disch:=omega)only[go_sem]) (by simp(disch:=omega)only[go_sem]) ⟨by simp[zw,rup,h3,h4],rfl,rfl⟩
   ·simp(disch:=omega)only[go_sem,h3]
    refine qi (fun h4=>?_) (fun h4=>?_)
    ·simp(disch:=omega)only[go_sem,h4]
     exact qC (by simp(disch:=omega)only[go_sem]) (by simp(disch:=omega)only[go_sem]) ⟨by simp[zw,rup,h4],rfl,rfl⟩
    ·simp(disch:=omega)only[go_sem,h4]
     exact qC (by simp(disch:=omega)only[go_sem]) (by simp(disch:=omega)only[go_sem]) ⟨by simp[zw,rup,h1,h2,h3,h4],rfl,rfl⟩
theorem Z7(neg:Bool)(a b:Nat)(mode:Int)(hb:b≠0)(la:bl a≤8000000)(lb:bl b≤8000000):
  Con Tryz.prog 256 false [.v (.bool neg),.sl (lim (a)).length (qg (lim (a))),.sl (lim (b)).length (qg (lim (b))),.v (.int .i64 mode)] [] (isA (.tu [.sl (lim (rq neg a b mode)).length (qg (lim (rq neg a b mode))),.v (.bool (decide (a % b=0)))])):=by
 refine Con.of_aw Tryz.func256 rfl Tryz.ntmps256 (by simp) (by simp) (by simp) (W.sound ?_)
 show @W Tryz.prog 36 ⟨_⟩ ⟨fun x σ=>@zl _ _ _ ⟨_⟩ _ ⟨_⟩ x σ⟩ _ _
 simp(disch:=omega)only[go_sem]
 have lla:=qE la
 have llb:=qE lb
 refine qa (ahY a b hb (by omega) (by omega)) ?_
 simp(disch:=omega)only[go_sem]
 have hmb:a % b<b:=Nat.mod_lt _ (by omega)
 have llr:=qE (Nat.le_trans (jg (Nat.le_of_lt hmb)) lb)
 have llq:=qE (Nat.le_trans (y8 a b) la)
 refine qi (fun h1=>?_) (fun h1=>?_)
 ·simp(disch:=omega)only[go_sem,h1]
  have h0:a % b=0:=qM.1 (List.length_eq_zero_iff.1 (by omega))
  refine q7 (by simp(disch:=omega)only[go_sem]) ⟨?_,rfl,rfl⟩
  simp[zw,rq,h0]
 ·simp(disch:=omega)only[go_sem,h1]
  have h0:a % b≠0:=fun e=>h1 (by rw[e,qz];rfl)
  refine qn (adw (a/b) 0 (by omega) (by omega) (by omega)) ?_
  simp(disch:=omega)only[go_sem]
  refine qa (jp (a % b) 1 (by omega) (by omega)) ?_
  simp(disch:=omega)only[go_sem]
  have llu:=qE (Nat.le_trans (Q7 (a % b) 1) (Nat.add_le_add_right (Nat.le_trans (jg (Nat.le_of_lt hmb)) lb) 1))
  refine qn (jC (a % b*2^1) b (by omega) (by omega)) ?_
  simp(disch:=omega)only[go_sem]
  have e1:(decide (((a/b/1 % 2:Nat):Int)=1))=decide (a/b % 2=1):=by
   simp;omega
  refine qn (ahH neg (decide (a/b % 2=1)) (zH ((a % b*2^1:Nat):Int) (b:Int)) mode) ?_ (by simp(disch:=omega)only[go_sem,e1,Int.toNat_zero,Nat.pow_zero])
  simp(disch:=omega)only[go_sem]
  refine QS (fun h2=>?_) (fun h2=>?_)
  ·simp(disch:=omega)only[go_sem,h2]
   refine qa (zW 1 (by omega)) ?_
   simp(disch:=omega)only[go_sem]
   have l1:(lim 1).length≤2000000:=by have:=qE (m:=1) (B:=1) (by decide);omega
   refine qa (adb (a/b) 1 (by omega) l1) ?_
   simp(disch:=omega)only[go_sem]
   refine q7 (by simp(disch:=omega)only[go_sem]) ⟨?_,rfl,rfl⟩
   have e:rq neg a b mode=a/b+1:=by unfold rq;rw[if_neg h0,if_pos h2]
   rw[e];simp[zw,h0]
  ·simp(disch:=omega)only[go_sem,h2]
   refine q7 (by simp(disch:=omega)only[go_sem]) ⟨?_,rfl,rfl⟩
   have e:rq neg a b mode=a/b:=by unfold rq;rw[if_neg h0,if_neg (by rw[h2];simp)]
   rw[e];simp[zw,h0]
end Go.Ab
namespace Go.Ab
open Go Go.Proofs
theorem Z9(s:Bool)(m:Nat)(e:Int):Con Tryz.prog 139 true [.ag [.v (.bool (s)),.sl (lim (m)).length (qg (lim (m))),.v (.int .i64 (e))]] [] (isA (.v (.bool (decide (m=0))))):=by
 refine Con.of_aw Tryz.func139 rfl Tryz.ntmps139 (by simp) (by simp) (by simp) (W.sound ?_)
 show @W Tryz.prog 7 ⟨_⟩ ⟨fun x σ=>@zl _ _ _ ⟨_⟩ _ ⟨_⟩ x σ⟩ _ _
 simp(disch:=omega)only[go_sem]
 refine qC (by simp(disch:=omega)only[go_sem]) (by simp(disch:=omega)only[go_sem]) ⟨?_,rfl,rfl⟩
 have:decide (((lim m).length:Int)=0)=decide (m=0):=by
  rw[decide_eq_decide]
  exact⟨fun h=>qM.1 (List.length_eq_zero_iff.1 (by omega)),fun h=>by rw[h,qz];rfl⟩
 rw[this];rfl
theorem aLl(s:Bool)(m:Nat)(e:Int)(hm:(lim m).length≤2^40)(he: -2^40≤e∧e≤2^40):Con Tryz.prog 140 true [.ag [.v (.bool (s)),.sl (lim (m)).length (qg (lim (m))),.v (.int .i64 (e))]] [] (isA (.v (.int .i64 (if m=0 then 0 else(bl m:Int)+e)))):=by
 refine Con.of_w (rs:=[.tmp 2]) Tryz.func140 rfl Tryz.ntmps140 rfl ?_
 simp(disch:=omega)only[go_sem]
 refine qi (fun h1=>?_) (fun h1=>?_)
 ·simp(disch:=omega)only[go_sem,h1]
  have h0:m=0:=qM.1 (List.length_eq_zero_iff.1 (by omega))
  rw[if_pos h0]
  exact qy
 ·have h0:m≠0:=fun e=>h1 (by rw[e,qz];rfl)
  have:=Q1 (m:=m)
  simp(disch:=omega)only[go_sem,h1]
  refine qv rfl [⟨0,[],[]⟩,⟨1,[],[]⟩,⟨3,[1],[]⟩,⟨4,[1],[]⟩,⟨2,[4],[]⟩,⟨5,[],[]⟩,⟨6,[],[]⟩] (by kernel_rfl) ?_
  simp(disch:=omega)only[go_sem]
  refine qn (aoV m hm) ?_
  simp(disch:=omega)only[go_sem]
  rw[if_neg h0]
  exact qy
theorem aVJ(s:Bool)(m:Nat)(e:Int)(hm:bl m≤10000000)(he: -2^40≤e∧e≤2^40):Con Tryz.prog 201 false [.ag [.v (.bool (s)),.sl (lim (m)).length (qg (lim (m))),.v (.int .i64 (e))]] [] (isA (.ag [.v (.bool (oS s m)),.sl (lim (oM m)).length (qg (lim (oM m))),.v (.int .i64 (oE m e))])):=by
 refine Con.frzA ?_
 refine Con.of_aw Tryz.func201 rfl Tryz.ntmps201 (by simp) (by simp) (by simp) (W.sound ?_)
 show @W Tryz.prog 23 ⟨_⟩ ⟨fun x σ=>@zl _ _ _ ⟨_⟩ _ ⟨_⟩ x σ⟩ _ _
 simp(disch:=omega)only[go_sem]
 have hl:=qE hm
 refine qi (fun h1=>?_) (fun h1=>?_)
 ·simp(disch:=omega)only[go_sem,h1]
  have h0:m=0:=qM.1 (List.length_eq_zero_iff.1 (by omega))
  subst h0
  refine q7 (by simp(disch:=omega)only[go_sem]) ?_
  show qK _ 6 _=_
  simp only[oS,jv,oE,qz,if_true]
  simp(disch:=omega)only[go_sem]
 ·have h0:m≠0:=fun e=>h1 (by rw[e,qz];rfl)
  have ht:=yM h0
  simp(disch:=omega)only[go_sem,h1]
  refine qn (ahC m (by omega)) ?_
  simp(disch:=omega)only[go_sem]
  refine qv rfl [⟨0,[],[]⟩,⟨1,[],[]⟩,⟨2,[1],[]⟩,⟨3,[1],[]⟩,⟨4,[1,3],[]⟩,⟨6,[1,3],[]⟩,⟨7,[1,3],[]⟩,⟨8,[1,3,7],[]⟩,⟨9,[1,3],[]⟩,⟨5,[1,7],[]⟩,⟨10,[],[]⟩,⟨11,[],[]⟩] (by kernel_rfl) ?_
  simp(disch:=omega)only[go_sem]
  refine qa (aw9 m (tz m) (by omega) (by omega)) ?_
  simp(disch:=omega)only[go_sem]
  refine q7 (by simp(disch:=omega)only[go_sem]) ?_
  show qK _ 6 _=_
  simp only[oS,oM,oE,if_neg h0]
  simp(disch:=omega)only[go_sem]
def ovA(m1:Nat)(k:Int):Nat:=m1*2^k.toNat
def ovQ(s:Bool)(m1:Nat)(e1:Int)(m2:Nat)(e2 low mode:Int):Nat:=rq s (ovA m1 (e1-e2-low)) (ovA m2 (-(e1-e2-low))) mode
def ovX(m1:Nat)(e1:Int)(m2:Nat)(e2 low:Int):Bool:=decide (ovA m1 (e1-e2-low) % ovA m2 (-(e1-e2-low))=0)
theorem aNP{m B:Nat}{k:Int}{C:Nat}(h:bl m≤B)(hk:k≤C):bl (ovA m k)≤B+C:=by
 have:=Q7 m k.toNat
 unfold ovA;omega
theorem aY1{m:Nat}{k:Int}(h:m≠0):ovA m k≠0:=by
 unfold ovA
 have:0<2^k.toNat:=Nat.pow_pos (by omega)
 have:=Nat.mul_pos (show 0<m by omega) this
 omega
theorem aji(s1:Bool)(m1:Nat)(e1:Int)(s2:Bool)(m2:Nat)(e2 low mode:Int)(h2:m2≠0)(hm1:bl m1≤4000000)(hm2:bl m2≤4000000)(hk: -4000000≤e1-e2-low∧e1-e2-low≤4000000)
  (he1: -2^40≤e1∧e1≤2^40) (he2: -2^40≤e2∧e2≤2^40) (hlo: -2^40≤low∧low≤2^40):
  Con Tryz.prog 193 false [.ag [.v (.bool (s1)),.sl (lim (m1)).length (qg (lim (m1))),.v (.int .i64 (e1))],.ag [.v (.bool (s2)),.sl (lim (m2)).length (qg (lim (m2))),.v (.int .i64 (e2))],.v (.int .i64 low),.v (.int .i64 mode)] []
   (isA (.tu [.ag [.v (.bool ((s1 != s2)&&decide (ovQ (s1 != s2) m1 e1 m2 e2 low mode≠0))),.sl (lim (ovQ (s1 != s2) m1 e1 m2 e2 low mode)).length (qg (lim (ovQ (s1 != s2) m1 e1 m2 e2 low mode))),.v (.int .i64 (low))],.v (.bool (ovX m1 e1 m2 e2 low))])):=by
 refine Con.frzA ?_
 refine Con.of_w (rs:=[.cell 8 97,.tmp 9]) Tryz.func193 rfl Tryz.ntmps193 rfl ?_
 have l1:=qE hm1
 have l2:=qE hm2
 generalize hsh:e1-e2-low=sh at*
 have eq1:ovQ (s1 != s2) m1 e1 m2 e2 low mode=rq (s1 != s2) (ovA m1 sh) (ovA m2 (-sh)) mode:=by unfold ovQ;rw[hsh]
 have eq2:ovX m1 e1 m2 e2 low=decide (ovA m1 sh % ovA m2 (-sh)=0):=by unfold ovX;rw[hsh]
 rw[eq1,eq2]
 simp(disch:=omega)only[go_sem,hsh]
 refine qv rfl [⟨0,[],[]⟩,⟨1,[],[]⟩,⟨2,[],[]⟩,⟨3,[2],[]⟩,⟨4,[2],[]⟩,⟨6,[2],[]⟩,⟨7,[2],[]⟩,⟨8,[2,7],[]⟩,⟨9,[2,7],[]⟩,⟨10,[2,7],[]⟩,⟨12,[2,7],[]⟩,⟨5,[7],[]⟩,⟨11,[],[]⟩,⟨13,[],[]⟩,⟨14,[],[]⟩,⟨15,[],[]⟩,⟨16,[],[]⟩,⟨17,[],[]⟩,⟨18,[],[]⟩] (by kernel_rfl) ?_
 have ex1:(if 0>sh then 0 else sh)=((sh.toNat:Nat):Int):=by split<;>omega
 have ex2:(if 0>0-sh then 0 else 0-sh)=(((-sh).toNat:Nat):Int):=by split<;>omega
 simp(disch:=omega)only[go_sem,ex1,ex2]
 refine qa (jp m1 sh.toNat (by omega) (by omega)) ?_
 simp(disch:=omega)only[go_sem]
 refine qa (jp m2 (-sh).toNat (by omega) (by omega)) ?_
 simp(disch:=omega)only[go_sem]
 refine qa (Z7 (s1 != s2) (ovA m1 sh) (ovA m2 (-sh)) mode (aY1 h2) (aNP (C:=4000000) hm1 (by omega)) (aNP (C:=4000000) hm2 (by omega))) ?_ (by simp(disch:=omega)only[go_sem,ovA])
 simp(disch:=omega)only[go_sem]
 generalize rq (s1 != s2) (ovA m1 sh) (ovA m2 (-sh)) mode=q
 generalize decide (ovA m1 sh % ovA m2 (-sh)=0)=b
 have hq:decide ((0:Int)<((lim q).length:Int))=decide (q≠0):=by
  rw[decide_eq_decide]
  exact⟨fun h e=>by rw[e,qz]at h;simp at h,fun h=>by have:=Qt h;omega⟩
 refine QS (fun h3=>?_) (fun h3=>?_)
 ·simp(disch:=omega)only[go_sem,h3,hq]
  exact qu (hp:=by simp(disch:=omega)only[go_sem,h3,Bool.true_and])
 ·simp(disch:=omega)only[go_sem,h3]
  exact qu (hp:=by simp(disch:=omega)only[go_sem,h3,Bool.false_and])
def roM(s:Bool)(m:Nat)(e low mode:Int):Nat:=if low≤e∨m=0 then m else rq s m (2^(low-e).toNat) mode
def roE(m:Nat)(e low:Int):Int:=if low≤e∨m=0 then e else low
def roX(m:Nat)(e low:Int):Bool:=if low≤e∨m=0 then true else decide (m % 2^(low-e).toNat=0)
def roS(s:Bool)(m:Nat)(e low mode:Int):Bool:=if low≤e∨m=0 then s else s&&decide (rq s m (2^(low-e).toNat) mode≠0)
theorem ahG(s:Bool)(m:Nat)(e low mode:Int)(hm:bl m≤4000000)(he: -1000000≤e∧e≤1000000)(hlo: -1000000≤low∧low≤1000000):
  Con Tryz.prog 116 false [.ag [.v (.bool (s)),.sl (lim (m)).length (qg (lim (m))),.v (.int .i64 (e))],.v (.int .i64 low),.v (.int .i64 mode)] []
   (isA (.tu [.ag [.v (.bool (roS s m e low mode)),.sl (lim (roM s m e low mode)).length (qg (lim (roM s m e low mode))),.v (.int .i64 (roE m e low))],.v (.bool (roX m e low))])):=by
 refine Con.frzA ?_
 refine Con.of_aw Tryz.func116 rfl Tryz.ntmps116 (by simp) (by simp) (by simp) (W.sound ?_)
 show @W Tryz.prog 25 ⟨_⟩ ⟨fun x σ=>@zl _ _ _ ⟨_⟩ _ ⟨_⟩ x σ⟩ _ _
 simp(disch:=omega)only[go_sem]
 refine jm (fun h1=>?_) (fun h1=>?_)
 ·simp(disch:=omega)only[go_sem,h1]
  refine qn (Z9 s m e) ?_
  simp(disch:=omega)only[go_sem]
  refine qi (fun h2=>?_) (fun h2=>?_)
  ·simp(disch:=omega)only[go_sem,h2]
   refine q7 (by simp(disch:=omega)only[go_sem]) ?_
   show qK _ 6 _=_
   simp only[roS,roM,roE,roX,h2,or_true,if_true]
   simp(disch:=omega)only[go_sem]
  ·simp(disch:=omega)only[go_sem,h2]
   refine qv rfl [⟨0,[],[]⟩,⟨3,[0],[]⟩,⟨4,[0],[]⟩,⟨1,[0],[]⟩,⟨2,[0],[]⟩,⟨5,[],[]⟩,⟨6,[],[]⟩,⟨7,[],[]⟩,⟨8,[],[]⟩,⟨9,[],[]⟩] (by kernel_rfl) ?_
   simp(disch:=omega)only[go_sem]
   refine qa (zW 1 (by omega)) ?_
   simp(disch:=omega)only[go_sem]
   refine qa (aji s m e false 1 0 low mode (by omega) hm (by decide) (by omega) (by omega) (by omega) (by omega)) ?_
   simp(disch:=omega)only[go_sem]
   refine q7 (by simp(disch:=omega)only[go_sem]) ?_
   show qK _ 6 _=_
   have hc:¬(low≤e∨m=0):=by omega
   have e1:ovA m (e-0-low)=m:=by unfold ovA;rw[show(e-0-low).toNat=0 by omega];simp
   have e2:ovA 1 (-(e-0-low))=2^(low-e).toNat:=by unfold ovA;rw[show(-(e-0-low)).toNat=(low-e).toNat by omega];simp
   have e3:(s != false)=s:=by cases s<;>rfl
   simp only[roS,roM,roE,roX,if_neg hc,ovQ,ovX,e1,e2,e3]
   simp(disch:=omega)only[go_sem]
 ·simp(disch:=omega)only[go_sem,h1]
  refine q7 (by simp(disch:=omega)only[go_sem]) ?_
  show qK _ 6 _=_
  simp only[roS,roM,roE,roX,h1,true_or,if_true]
  simp(disch:=omega)only[go_sem]
end Go.Ab
namespace Go.Ab
open Go Go.Proofs
def Xi(b:Bool):AV→List Ob→List Ob→Prop:=fun r hs bs=>r=.v (.bool b)∧hs=[]
theorem aoD(x:Int):Con Tryz.prog 341 true [.v (.int .i64 x)] [] (Xi (decide (0≤x)&&decide (x≤65535))):=by
 refine Con.of_aw Tryz.func341 rfl Tryz.ntmps341 (by simp) (by simp) (by simp) (W.sound ?_)
 show @W Tryz.prog 5 ⟨_⟩ ⟨fun x σ=>@zl _ _ _ ⟨_⟩ _ ⟨_⟩ x σ⟩ _ _
 simp(disch:=omega)only[go_sem]
 refine qx (XB x 0 65535) (by simp(disch:=omega)only[go_sem]) ?_
 rintro r hs ⟨rfl,rfl⟩
 refine⟨by simp[qL],?_⟩
 simp(disch:=omega)only[go_sem]
 refine qm [] [] [] [.v (.bool (decide (0≤x)&&decide (x≤65535)))] rfl (by simp(disch:=omega)only[go_sem]) (by simp(disch:=omega)only[go_sem]) (by simp) (by simp[AV.pu,zw]) ⟨rfl,rfl⟩
theorem ah0(g:Nat)(p:Int→Bool)(x:Int)(hf:Con Tryz.prog g true [.v (.int .i64 x)] [] (Xi (p x)))(hg:qt Tryz.prog g):
  Con Tryz.prog 346 true [.v (.int .i64 x),.fp [.fn g []] 0] [] (Xi (!p x)):=by
 refine Con.of_aw Tryz.func346 rfl Tryz.ntmps346 (by simp) (by simp) (by simp) (W.sound ?_)
 show @W Tryz.prog 8 ⟨_⟩ ⟨fun x σ=>@zl _ _ _ ⟨_⟩ _ ⟨_⟩ x σ⟩ _ _
 simp(disch:=omega)only[go_sem]
 refine⟨hg,qx hf (by simp(disch:=omega)only[go_sem]) ?_⟩
 rintro r hs ⟨rfl,rfl⟩
 refine⟨by simp[qL],?_⟩
 simp(disch:=omega)only[go_sem]
 refine qm [] [] [] [.v (.bool (!p x))] rfl (by simp(disch:=omega)only[go_sem]) (by simp(disch:=omega)only[go_sem]) (by simp) (by simp[AV.pu,zw]) ⟨rfl,rfl⟩
theorem aoP(f:Nat)(caps:List AV)(p:Int→Bool)(xs:List Int)(hl:xs.length≤2^40)(hf:∀x,Con Tryz.prog f true (.v (.int .i64 x)::caps) [] (Xi (p x)))(hg:qt Tryz.prog f)
  (hc:∀h:Nat→Ob,caps.map (qK h 6)=caps) (hc5:∀h:Nat→Ob,caps.map (qK h 5)=caps) (hn:∀ks,AllL (jq ks) caps) (hr:∀ρ,zx ρ caps=caps):
  Con Tryz.prog 347 true [.sl xs.length (qg xs),.fn f caps] [] (fun r hs bs=>∃i:Int,r=.v (.int .i64 i)∧hs=[]∧(0≤i↔∃x∈xs,p x=true)):=by
 refine Con.of_aw Tryz.func347 rfl Tryz.ntmps347 (by simp) (by simp) (by simp) (W.sound ?_)
 show @W Tryz.prog 19 ⟨_⟩ ⟨fun x σ=>@zl _ _ _ ⟨_⟩ _ ⟨_⟩ x σ⟩ _ _
 simp(disch:=omega)only[go_sem]
 refine qj (fun i:Nat=>[(0,.sl xs.length (qg xs)),(1,.fn f caps),(6,.sl xs.length (qg xs)),(7,.v (.int .i64 xs.length)),(8,.v (.int .i64 i))])
  (fun _=>[]) (fun i=>i≤xs.length∧∀j,j<i→p (xs.getD j 0)=false) (fun i=>xs.length-i) 0 ⟨by omega,fun j hj=>by omega⟩ (Le.lst [] _ _ rfl (by simp(disch:=omega)only[go_sem,hr,hn]) (by simp(disch:=omega)only[go_sem])) ?_
 rintro i ⟨hi,hp⟩
 simp(disch:=omega)only[go_sem]
 refine qi (fun h1=>?_) (fun h1=>?_)
 ·simp(disch:=omega)only[go_sem,h1]
  refine⟨by omega,by omega,hg,qx (hf (xs.getD i 0)) (by simp(disch:=omega)only[go_sem,hc,hc5]) ?_⟩
  rintro r hs ⟨rfl,rfl⟩
  refine⟨by simp[qL],?_⟩
  simp(disch:=omega)only[go_sem]
  refine QS (fun h2=>?_) (fun h2=>?_)
  ·simp(disch:=omega)only[go_sem,h2]
   refine qm [] [] [] [.v (.int .i64 i)] rfl (by simp(disch:=omega)only[go_sem]) (by simp(disch:=omega)only[go_sem]) (by simp) (by simp[AV.pu,zw]) ⟨i,rfl,rfl,?_⟩
   refine⟨fun _=>⟨xs.getD i 0,?_,h2⟩,fun _=>by omega⟩
   rw[List.getD_eq_getElem?_getD,List.getElem?_eq_getElem (by omega)];exact List.getElem_mem _
  ·simp(disch:=omega)only[go_sem,h2]
   refine qe (i+1) [] ⟨by omega,fun j hj=>?_⟩ (by show xs.length-(i+1)<xs.length-i;omega) rfl (by simp(disch:=omega)only[go_sem,hr,hn];try omega) (by simp(disch:=omega)only[go_sem])
   rcases(by omega:j<i∨j=i)with h|h
   ·exact hp j h
   ·subst h;exact h2
 ·simp(disch:=omega)only[go_sem,h1]
  refine qm [] [] [] [.v (.int .i64 (-1))] rfl (by simp(disch:=omega)only[go_sem]) (by simp(disch:=omega)only[go_sem]) (by simp) (by simp[AV.pu,zw]) ⟨-1,rfl,rfl,?_⟩
  refine⟨fun h=>by omega,fun⟨x,hx,hpx⟩=>?_⟩
  obtain⟨j,hj,rfl⟩:=List.getElem_of_mem hx
  have:=hp j (by omega)
  rw[List.getD_eq_getElem?_getD,List.getElem?_eq_getElem hj]at this
  simp only[Option.getD_some]at this
  rw[this]at hpx;cases hpx
theorem VX(f:Nat)(caps:List AV)(p:Int→Bool)(xs:List Int)(hl:xs.length≤2^40)(hf:∀x,Con Tryz.prog f true (.v (.int .i64 x)::caps) [] (Xi (p x)))(hg:qt Tryz.prog f)
  (hc:∀h:Nat→Ob,caps.map (qK h 6)=caps) (hc5:∀h:Nat→Ob,caps.map (qK h 5)=caps) (hn:∀ks,AllL (jq ks) caps) (hr:∀ρ,zx ρ caps=caps):
  Con Tryz.prog 345 true [.sl xs.length (qg xs),.fn f caps] [] (Xi (xs.any p)):=by
 refine Con.of_aw Tryz.func345 rfl Tryz.ntmps345 (by simp) (by simp) (by simp) (W.sound ?_)
 show @W Tryz.prog 9 ⟨_⟩ ⟨fun x σ=>@zl _ _ _ ⟨_⟩ _ ⟨_⟩ x σ⟩ _ _
 simp(disch:=omega)only[go_sem]
 refine qx (aoP f caps p xs hl hf hg hc hc5 hn hr) (by simp(disch:=omega)only[go_sem,hc,hc5]) ?_
 rintro r hs ⟨i,rfl,rfl,hi⟩
 refine⟨by simp[qL],?_⟩
 simp(disch:=omega)only[go_sem]
 refine qm [] [] [] [.v (.bool (decide (0≤i)))] rfl (by simp(disch:=omega)only[go_sem]) (by simp(disch:=omega)only[go_sem]) (by simp) (by simp[AV.pu,zw]) ⟨?_,rfl⟩
 have:decide (0≤i)=xs.any p:=by rw[Bool.eq_iff_iff,decide_eq_true_eq,hi,List.any_eq_true]
 rw[this];rfl
theorem aoW(g:Nat)(p:Int→Bool)(xs:List Int)(hl:xs.length≤2^40)(hf:∀x,Con Tryz.prog g true [.v (.int .i64 x)] [] (Xi (p x)))(hg:qt Tryz.prog g):
  Con Tryz.prog 340 true [.sl xs.length (qg xs),.fn g []] [] (Xi (xs.all p)):=by
 refine Con.of_aw Tryz.func340 rfl Tryz.ntmps340 (by simp) (by simp) (by simp) (W.sound ?_)
 show @W Tryz.prog 9 ⟨_⟩ ⟨fun x σ=>@zl _ _ _ ⟨_⟩ _ ⟨_⟩ x σ⟩ _ _
 simp(disch:=omega)only[go_sem]
 refine qx (VX 346 [.fp [.fn g []] 0] (fun x=> !p x) xs hl (fun x=>ah0 g p x (hf x) hg) (by simp(disch:=omega)only[go_sem]) (fun h=>rfl) (fun h=>rfl) (fun ks=>by simp(disch:=omega)only[go_sem]) (fun ρ=>rfl)) (by simp(disch:=omega)only[go_sem]) ?_
 rintro r hs ⟨rfl,rfl⟩
 refine⟨by simp[qL],?_⟩
 simp(disch:=omega)only[go_sem]
 refine qm [] [] [] [.v (.bool (!xs.any fun x=> !p x))] rfl (by simp(disch:=omega)only[go_sem]) (by simp(disch:=omega)only[go_sem]) (by simp) (by simp[AV.pu,zw]) ⟨?_,rfl⟩
 have:(!xs.any fun x=> !p x)=xs.all p:=by rw[List.all_eq_not_any_not]
 rw[this];rfl
end Go.Ab
namespace Go.Ab
open Go Go.Proofs
theorem awG(xs:List Int)(hl:xs.length≤2^40):Con Tryz.prog 326 true [.ag [.sl xs.length (qg xs)]] [] (Xi (Xu xs)):=by
 refine Con.of_aw Tryz.func326 rfl Tryz.ntmps326 (by simp) (by simp) (by simp) (W.sound ?_)
 show @W Tryz.prog 29 ⟨_⟩ ⟨fun x σ=>@zl _ _ _ ⟨_⟩ _ ⟨_⟩ x σ⟩ _ _
 have en:((xs.length:Int)-1).toNat=xs.length-1:=by omega
 simp(disch:=omega)only[go_sem]
 refine qi (fun h1=>?_) (fun h1=>?_)
 ·simp(disch:=omega)only[go_sem,h1]
  refine qx (aoW 341 (fun x=>decide (0≤x)&&decide (x≤65535)) xs hl aoD (by simp(disch:=omega)only[go_sem])) (by simp(disch:=omega)only[go_sem]) ?_
  rintro r hs ⟨rfl,rfl⟩
  refine⟨by simp[qL],?_⟩
  simp(disch:=omega)only[go_sem]
  refine QS (fun h2=>?_) (fun h2=>?_)
  ·simp(disch:=omega)only[go_sem,h2]
   refine jm (fun h3=>?_) (fun h3=>?_)
   ·simp(disch:=omega)only[go_sem,h3,en]
    refine⟨by omega,by omega,?_⟩
    refine qC (by simp(disch:=omega)only[go_sem]) (by simp(disch:=omega)only[go_sem]) ⟨?_,rfl⟩
    have e1:decide (xs.length≤100)=true:=by simp;omega
    have e2:decide (xs.length=0)=false:=by simp;intro h;subst h;simp at h3
    show AV.v (.bool _)=AV.v (.bool _)
    unfold Xu
    rw[e1,h2,e2]
    simp
   ·simp(disch:=omega)only[go_sem,h3]
    refine qC (by simp(disch:=omega)only[go_sem]) (by simp(disch:=omega)only[go_sem]) ⟨?_,rfl⟩
    have e1:decide (xs.length≤100)=true:=by simp;omega
    have e2:decide (xs.length=0)=true:=by simp;exact List.length_eq_zero_iff.1 (by omega)
    show AV.v (.bool _)=AV.v (.bool _)
    unfold Xu
    rw[e1,h2,e2]
    simp
  ·simp(disch:=omega)only[go_sem,h2]
   refine qC (by simp(disch:=omega)only[go_sem]) (by simp(disch:=omega)only[go_sem]) ⟨?_,rfl⟩
   show AV.v (.bool _)=AV.v (.bool _)
   unfold Xu
   rw[h2];simp
 ·simp(disch:=omega)only[go_sem,h1]
  exact qC (by simp(disch:=omega)only[go_sem]) (by simp(disch:=omega)only[go_sem]) ⟨by simp[Xu,zw];omega,rfl⟩
end Go.Ab
namespace Go.Ab
open Go Go.Proofs
theorem Con.boolI{P:Program}{f:FuncId}{args:List AV}{b:Bool}(h:Con P f true args [] (Xi b)):Con P f true args [] (isA (.v (.bool b))):=
 (Con.len h).mono fun r hs bs ⟨⟨h1,h2⟩,h3⟩=>⟨h1,h2,h3⟩
theorem jz(n lo hi:Int):Con Tryz.prog 52 true [.v (.int .i64 n),.v (.int .i64 lo),.v (.int .i64 hi)] [] (isA (.v (.bool (decide (lo≤n)&&decide (n≤hi))))):=
 Con.boolI (XB n lo hi)
theorem aoC(xs:List Int)(hl:xs.length≤2^40):Con Tryz.prog 326 true [.ag [.sl xs.length (qg xs)]] [] (isA (.v (.bool (Xu xs)))):=Con.boolI (awG xs hl)
theorem ahB(s:Bool)(xs:List Int)(hl:xs.length≤2^40):Con Tryz.prog 299 true [.ag [.v (.bool s),.sl xs.length (qg xs)]] [] (isA (.v (.bool (Qg s xs)))):=by
 refine Con.of_aw Tryz.func299 rfl Tryz.ntmps299 (by simp) (by simp) (by simp) (W.sound ?_)
 show @W Tryz.prog 18 ⟨_⟩ ⟨fun x σ=>@zl _ _ _ ⟨_⟩ _ ⟨_⟩ x σ⟩ _ _
 simp(disch:=omega)only[go_sem]
 refine qn (aoC xs hl) ?_
 simp(disch:=omega)only[go_sem]
 repeat' first
  |simp(disch:=omega)only[go_sem, *]
  |(with_reducible refine qi (fun _=>?_) (fun _=>?_))
  |(with_reducible refine jm (fun _=>?_) (fun _=>?_))
  |(with_reducible refine avL (fun _=>?_) (fun _=>?_))
  |(with_reducible refine QS (fun _=>?_) (fun _=>?_))
 all_goals exact qC (by simp(disch:=omega)only[go_sem]) (by simp(disch:=omega)only[go_sem]) ⟨by simp_all[zw,Qg]<;>omega,rfl,rfl⟩
def ovB(s:Bool)(mode:Int):Bool:=decide (mode=1)||((decide (mode=2)&&s)||(decide (mode=3)&& !s))
def flB(k:Int)(s:Bool)(m e:Int):Bool:=
 if k=1 then(decide (-1074≤e)&&decide (e≤971))&&((decide (4503599627370496≤m)&&decide (m≤9007199254740991))||((decide (1≤m)&&decide (m≤4503599627370495))&&decide (e= -1074)))
 else if k=0∨k=2 then decide (m=0)&&decide (e=0)else((decide (k=3)&&decide (m=0))&&decide (e=0))&& !s
end Go.Ab
namespace Go.Ab
open Go Go.Proofs
def Yu(top:Int):Int:=if-1074>top-53 then-1074 else top-53
def flE(rm:Nat)(re:Int):Int:=Yu ((bl rm:Int)+re)
def flM(rm:Nat)(re:Int):Nat:=oM rm*2^(oE rm re-flE rm re).toNat
def aVq(top:Int)(same:Bool):Int:=if same then 0 else if top≤ -1022 then 5 else 1
def flK(s:Bool)(mode:Int)(rm:Nat)(re:Int):Int:=if rm=0 then 0 else if 1024<(bl rm:Int)+re then(if ovB s mode then 1 else 2)else 1
def bnN(s:Bool)(mode:Int)(rm:Nat)(re:Int):Int:=if rm=0 then 0 else if 1024<(bl rm:Int)+re then(if ovB s mode then 9007199254740991 else 0)else(flM rm re:Int)
def bnO(s:Bool)(mode:Int)(rm:Nat)(re:Int):Int:=if rm=0 then 0 else if 1024<(bl rm:Int)+re then(if ovB s mode then 971 else 0)else flE rm re
def boE(top:Int)(same:Bool)(rm:Nat)(re:Int):Int:=if rm≠0∧1024<(bl rm:Int)+re then 3 else aVq top same
end Go.Ab
namespace Go.Ab
open Go
def ql{X:Type}(f:X→List AV)(l:List X):List AV:=(l.map f).flatten
section
variable {X:Type}{f:X→List AV}{z:Nat}{l:List X}
theorem ji:ql f []=[]:=by simp[ql]
theorem qQ{x:X}:ql f (x::l)=f x++ql f l:=by simp[ql]
theorem yd(hz:∀x,(f x).length=z):(ql f l).length=l.length*z:=by
 induction l with
 |nil=>simp[ql]
 |cons x r ih=>rw[qQ,List.length_append,hz,ih,List.length_cons,Nat.add_mul,Nat.one_mul,Nat.add_comm]
theorem aIU(hz:∀x,(f x).length=z)(i:Nat):(ql f l).drop (i*z)=ql f (l.drop i):=by
 induction l generalizing i with
 |nil=>simp[ql]
 |cons x r ih=>
  cases i with
  |zero=>simp
  |succ i=>
   rw[qQ,List.drop_succ_cons,←ih,Nat.add_mul,Nat.one_mul,Nat.add_comm,←List.drop_drop,List.drop_left' (hz x)]
theorem aIT(hz:∀x,(f x).length=z)(i:Nat):(ql f l).take (i*z)=ql f (l.take i):=by
 induction l generalizing i with
 |nil=>simp[ql]
 |cons x r ih=>
  cases i with
  |zero=>simp[ji]
  |succ i=>
   rw[qQ,List.take_succ_cons,qQ,←ih,Nat.add_mul,Nat.one_mul,Nat.add_comm,←hz x,List.take_length_add_append]
theorem aSn(hz:∀x,(f x).length=z)(o n:Nat):cut (ql f l) (o*z) (n*z)=ql f ((l.drop o).take n):=by
 rw[cut,aIU hz,aIT hz]
theorem Qn(hz:∀x,(f x).length=z){i:Nat}(hi:i<l.length)(d:X):cut (ql f l) (i*z) z=f (l.getD i d):=by
 have h:=aSn (l:=l) hz i 1
 rw[Nat.one_mul]at h
 have e:(l.drop i).take 1=[l.getD i d]:=by
  rw[List.drop_eq_getElem_cons hi,List.getD_eq_getElem?_getD,List.getElem?_eq_getElem hi];rfl
 rw[h,e,qQ,ji,List.append_nil]
theorem ZQ{ρ:Nat→Nat}(h:∀x,zx ρ (f x)=f x):zx ρ (ql f l)=ql f l:=by
 induction l with
 |nil=>rfl
 |cons x r ih=>
  rw[qQ]
  have:∀a b:List AV,zx ρ (a++b)=zx ρ a++zx ρ b:=fun a b=>by simp[qZ]
  rw[this,h,ih]
theorem Zh{hp:Nat→Ob}{k:Nat}(h:∀x,(f x).map (qK hp k)=f x):(ql f l).map (qK hp k)=ql f l:=by
 induction l with
 |nil=>rfl
 |cons x r ih=>rw[qQ,List.map_append,h,ih]
theorem ZR{p:Nat→Prop}(h:∀x,AllL p (f x)):AllL p (ql f l):=by
 induction l with
 |nil=>simp[ql,AllL]
 |cons x r ih=>rw[qQ];exact AllL.append (h x) ih
theorem aJQ{h:Nat→Ob}{sz o:Nat}{K:AV→Prop}:@Qe true sz h (.fp (ql f l) o) ⟨K⟩=(o+sz≤(ql f l).length∧K (.ag (cut (ql f l) o sz))):=ID rfl
theorem jj{l':List X}:ql f l++ql f l'=ql f (l++l'):=by simp[ql]
end
structure FlV where
 k:Int
 s:Bool
 m:Int
 e:Int
def FlV.cs(x:FlV):List AV:=[.v (.int .i64 x.k),.v (.bool x.s),.v (.int .i64 x.m),.v (.int .i64 x.e)]
theorem beo(x:FlV):x.cs.length=4:=rfl
theorem aNy{ρ:Nat→Nat}(x:FlV):zx ρ x.cs=x.cs:=rfl
theorem av4{hp:Nat→Ob}{k:Nat}(x:FlV):x.cs.map (qK hp (k+1))=x.cs:=rfl
theorem aNz{p:Nat→Prop}(x:FlV):AllL p x.cs:=by simp[FlV.cs,AllL,AV.All]
theorem aUI{l:List FlV}:(ql FlV.cs l).length=l.length*4:=yd beo
theorem aUH{ρ:Nat→Nat}{l:List FlV}:zx ρ (ql FlV.cs l)=ql FlV.cs l:=ZQ aNy
theorem aKi{hp:Nat→Ob}{k:Nat}{l:List FlV}:(ql FlV.cs l).map (qK hp (k+1))=ql FlV.cs l:=Zh av4
theorem aUJ{p:Nat→Prop}{l:List FlV}:AllL p (ql FlV.cs l)=True:=eq_true (ZR aNz)
theorem aKj{p:Nat→Prop}{x:FlV}:AllL p x.cs=True:=eq_true (aNz x)
attribute [go_sem] aJQ aUI aUH aKi aUJ aKj aNy av4
end Go.Ab
namespace Go.Ab
open Go Go.Proofs
section
variable (g:Nat)(p:FlV→Bool)
end
def br6(x:FlV):Bool:=flB x.k x.s x.m x.e
end Go.Ab
namespace Go.Ab
open Go Go.Proofs
def flV(s:Bool)(m:Nat)(e mode:Int)(z:Bool):FlV:=
 if m=0 then⟨0,z,0,0⟩else
  ⟨flK s mode (roM s m e (Yu (bl m+e)) mode) (roE m e (Yu (bl m+e))),s,bnN s mode (roM s m e (Yu (bl m+e)) mode) (roE m e (Yu (bl m+e))),bnO s mode (roM s m e (Yu (bl m+e)) mode) (roE m e (Yu (bl m+e)))⟩
def flG(s:Bool)(m:Nat)(e mode:Int):Int:=
 if m=0 then 0 else boE (bl m+e) (roX m e (Yu (bl m+e))) (roM s m e (Yu (bl m+e)) mode) (roE m e (Yu (bl m+e)))
theorem aox(s1:Bool)(m1:Nat)(e1:Int)(s2:Bool)(m2:Nat)(e2:Int)(h1:bl m1≤4000000)(h2:bl m2≤4000000)(he1: -2^40≤e1∧e1≤2^40)(he2: -2^40≤e2∧e2≤2^40):
  Con Tryz.prog 200 false [.ag [.v (.bool (s1)),.sl (lim (m1)).length (qg (lim (m1))),.v (.int .i64 (e1))],.ag [.v (.bool (s2)),.sl (lim (m2)).length (qg (lim (m2))),.v (.int .i64 (e2))]] [] (isA (.ag [.v (.bool ((s1 != s2)&&decide (m1*m2≠0))),.sl (lim (m1*m2)).length (qg (lim (m1*m2))),.v (.int .i64 (e1+e2))])):=by
 refine Con.frzA ?_
 refine Con.of_w (rs:=[.cell 4 97]) Tryz.func200 rfl Tryz.ntmps200 rfl ?_
 simp(disch:=omega)only[go_sem]
 have l1:=qE h1
 have l2:=qE h2
 refine qa (XE m1 m2 (by omega) (by omega)) ?_
 simp(disch:=omega)only[go_sem]
 have hl:(lim (m1*m2)).length≤2000000:=by have:=qE (Nat.le_trans (jH m1 m2) (Nat.add_le_add h1 h2));omega
 have hq:decide ((0:Int)<((lim (m1*m2)).length:Int))=decide (m1*m2≠0):=by
  rw[decide_eq_decide]
  exact⟨fun h e=>by rw[e,qz]at h;simp at h,fun h=>by have:=Qt h;omega⟩
 refine QS (fun h3=>?_) (fun h3=>?_)
 ·simp(disch:=omega)only[go_sem,h3,hq]
  exact qu (hp:=by simp(disch:=omega)only[go_sem,h3,Bool.true_and])
 ·simp(disch:=omega)only[go_sem,h3]
  exact qu (hp:=by simp(disch:=omega)only[go_sem,h3,Bool.false_and])
end Go.Ab
namespace Go.Ab
open Go Go.Proofs
theorem aZs(m:Nat):decide ((0:Int)<((lim m).length:Int))=decide (m≠0):=by
 rw[decide_eq_decide]
 exact⟨fun h e=>by rw[e,qz]at h;simp at h,fun h=>by have:=Qt h;omega⟩
theorem YL(m:Nat)(hl:(lim m).length≤2^39):Con Tryz.prog 188 false [.sl (lim (m)).length (qg (lim (m)))] [] (isA (.ag [.sl (lim (m)).length (qg (lim (m)))])):=(j7 false (lim m) m hl (zj m) (zd m)).natF
theorem zF(n:Nat)(hn:n<2^63):Con Tryz.prog 180 false [.v (.int .i64 n)] [] (isA (.ag [.sl (lim (n)).length (qg (lim (n)))])):=(ajk false n hn).natF
theorem yK(a b:Nat)(la:(lim a).length≤2000000)(lb:(lim b).length≤2000000):Con Tryz.prog 179 false [.ag [.sl (lim (a)).length (qg (lim (a)))],.ag [.sl (lim (b)).length (qg (lim (b)))]] [] (isA (.ag [.sl (lim (a+b)).length (qg (lim (a+b)))])):=(awZ false a b la lb).natF
theorem j8(a b:Nat)(la:(lim a).length≤1000000)(lb:(lim b).length≤1000000):Con Tryz.prog 264 false [.ag [.sl (lim (a)).length (qg (lim (a)))],.ag [.sl (lim (b)).length (qg (lim (b)))]] [] (isA (.ag [.sl (lim (a*b)).length (qg (lim (a*b)))])):=(awY false a b la lb).natF
theorem j6(a k:Nat)(la:(lim a).length≤400000)(hk:k≤5000000):Con Tryz.prog 247 false [.ag [.sl (lim (a)).length (qg (lim (a)))],.v (.int .i64 k)] [] (isA (.ag [.sl (lim (a*2^k)).length (qg (lim (a*2^k)))])):=(awX false a k la hk).natF
theorem qV(s:Bool)(m:Nat)(hl:(lim m).length≤2^39):Con Tryz.prog 107 false [.v (.bool s),.ag [.sl (lim (m)).length (qg (lim (m)))]] [] (isA (.ag [.v (.bool (s&&decide (m≠0))),.sl (lim (m)).length (qg (lim (m)))])):=by
 refine Con.frzA ?_
 refine Con.of_w (rs:=[.cell 4 42]) Tryz.func107 rfl Tryz.ntmps107 rfl ?_
 simp(disch:=omega)only[go_sem]
 refine qv rfl [⟨0,[],[]⟩,⟨1,[],[]⟩,⟨2,[],[]⟩,⟨3,[],[]⟩,⟨4,[],[]⟩,⟨5,[],[]⟩,⟨6,[],[]⟩,⟨7,[3],[]⟩,⟨8,[3],[]⟩,⟨9,[3],[]⟩,⟨10,[],[]⟩,⟨11,[],[]⟩] (by kernel_rfl) ?_
 simp(disch:=omega)only[go_sem]
 refine QS (fun h1=>?_) (fun h1=>?_)
 ·simp(disch:=omega)only[go_sem,h1,aZs]
  refine qa (YL m hl) ?_
  simp(disch:=omega)only[go_sem]
  exact qu (hp:=by simp(disch:=omega)only[go_sem,h1,Bool.true_and])
 ·simp(disch:=omega)only[go_sem,h1]
  refine qa (YL m hl) ?_
  simp(disch:=omega)only[go_sem]
  exact qu (hp:=by simp(disch:=omega)only[go_sem,h1,Bool.false_and])
theorem VS(n:Int)(h: -9223372036854775808≤n∧n<9223372036854775808):Con Tryz.prog 95 false [.v (.int .i64 n)] [] (isA (.ag [.v (.bool (decide (n<0))),.sl (lim (n.natAbs)).length (qg (lim (n.natAbs)))])):=by
 refine Con.frzA ?_
 refine Con.of_aw Tryz.func95 rfl Tryz.ntmps95 (by simp) (by simp) (by simp) (W.sound ?_)
 show @W Tryz.prog 15 ⟨_⟩ ⟨fun x σ=>@zl _ _ _ ⟨_⟩ _ ⟨_⟩ x σ⟩ _ _
 simp(disch:=omega)only[go_sem]
 refine qi (fun h1=>?_) (fun h1=>?_)
 ·simp(disch:=omega)only[go_sem,h1]
  have e1:0-(n+1)=(((0-(n+1)).toNat:Nat):Int):=by omega
  refine qa (zF (0-(n+1)).toNat (by omega)) ?_ (by simp(disch:=omega)only[go_sem,←e1])
  simp(disch:=omega)only[go_sem]
  refine qa (zF 1 (by omega)) ?_
  simp(disch:=omega)only[go_sem]
  have l1:=qE (m:=(0-(n+1)).toNat) (B:=64) (q9.2 (by omega))
  have l2:=qE (m:=1) (B:=64) (by decide)
  refine qa (yK (0-(n+1)).toNat 1 (by omega) (by omega)) ?_
  simp(disch:=omega)only[go_sem]
  have e2:(0-(n+1)).toNat+1=n.natAbs:=by omega
  have l3:=qE (m:=(0-(n+1)).toNat+1) (B:=64) (q9.2 (by omega))
  refine qa (qV true ((0-(n+1)).toNat+1) (by omega)) ?_
  simp(disch:=omega)only[go_sem]
  refine q7 (by simp(disch:=omega)only[go_sem]) ?_
  show qK _ 6 _=_
  have e3:decide (n.natAbs≠0)=true:=by simp;omega
  rw[e2]
  simp(disch:=omega)only[go_sem,e3,h1,Bool.true_and]
 ·simp(disch:=omega)only[go_sem,h1]
  have e1:n=((n.natAbs:Nat):Int):=by omega
  refine qa (zF n.natAbs (by omega)) ?_ (by simp(disch:=omega)only[go_sem,←e1])
  simp(disch:=omega)only[go_sem]
  have l3:=qE (m:=n.natAbs) (B:=64) (q9.2 (by omega))
  refine qa (qV false n.natAbs (by omega)) ?_
  simp(disch:=omega)only[go_sem]
  exact qu (hp:=by simp(disch:=omega)only[go_sem,h1,Bool.false_and])
theorem awS(s1:Bool)(m1:Nat)(s2:Bool)(m2:Nat)(h1:bl m1≤4000000)(h2:bl m2≤4000000):Con Tryz.prog 250 false [.ag [.v (.bool (s1)),.sl (lim (m1)).length (qg (lim (m1)))],.ag [.v (.bool (s2)),.sl (lim (m2)).length (qg (lim (m2)))]] [] (isA (.ag [.v (.bool ((s1 != s2)&&decide (m1*m2≠0))),.sl (lim (m1*m2)).length (qg (lim (m1*m2)))])):=by
 refine Con.frzA ?_
 refine Con.of_w (rs:=[.cell 4 42]) Tryz.func250 rfl Tryz.ntmps250 rfl ?_
 simp(disch:=omega)only[go_sem]
 have l1:=qE h1
 have l2:=qE h2
 refine qv rfl [⟨0,[],[]⟩,⟨1,[],[]⟩,⟨2,[1],[]⟩,⟨3,[1],[]⟩,⟨4,[],[]⟩,⟨5,[1,3],[]⟩,⟨6,[1,3],[]⟩,⟨7,[1,3,6],[]⟩,⟨8,[1,3,6],[]⟩,⟨9,[1,3],[]⟩,⟨10,[],[]⟩,⟨11,[],[]⟩] (by kernel_rfl) ?_
 simp(disch:=omega)only[go_sem]
 refine qa (j8 m1 m2 (by omega) (by omega)) ?_
 simp(disch:=omega)only[go_sem]
 have l3:=qE (Nat.le_trans (jH m1 m2) (Nat.add_le_add h1 h2))
 refine qa (qV (s1 != s2) (m1*m2) (by omega)) ?_
 simp(disch:=omega)only[go_sem]
 exact qu
theorem jA(s:Bool)(m:Nat)(e:Int)(hm:bl m≤8000000)(he: -2^40≤e∧e≤2^40):Con Tryz.prog 94 false [.ag [.v (.bool (s)),.sl (lim (m)).length (qg (lim (m)))],.v (.int .i64 e)] [] (isA (.ag [.v (.bool (oS s m)),.sl (lim (oM m)).length (qg (lim (oM m))),.v (.int .i64 (oE m e))])):=by
 refine Con.frzA ?_
 refine Con.of_aw Tryz.func94 rfl Tryz.ntmps94 (by simp) (by simp) (by simp) (W.sound ?_)
 show @W Tryz.prog 26 ⟨_⟩ ⟨fun x σ=>@zl _ _ _ ⟨_⟩ _ ⟨_⟩ x σ⟩ _ _
 simp(disch:=omega)only[go_sem]
 have hl:=qE hm
 refine qi (fun h1=>?_) (fun h1=>?_)
 ·simp(disch:=omega)only[go_sem,h1]
  have h0:m=0:=qM.1 (List.length_eq_zero_iff.1 (by omega))
  subst h0
  refine q7 (by simp(disch:=omega)only[go_sem]) ?_
  show qK _ 6 _=_
  simp only[oS,jv,oE,qz,if_true]
  simp(disch:=omega)only[go_sem]
 ·have h0:m≠0:=fun e=>h1 (by rw[e,qz];rfl)
  have ht:=yM h0
  simp(disch:=omega)only[go_sem,h1]
  refine qn (YK m (by omega)) ?_
  simp(disch:=omega)only[go_sem]
  refine qv rfl [⟨0,[],[]⟩,⟨1,[],[]⟩,⟨2,[1],[]⟩,⟨3,[1],[]⟩,⟨4,[1,3],[]⟩,⟨7,[1,3],[]⟩,⟨8,[1,3],[]⟩,⟨9,[1,3],[]⟩,⟨5,[1],[]⟩,⟨6,[],[]⟩,⟨10,[],[]⟩,⟨11,[],[]⟩] (by kernel_rfl) ?_
  simp(disch:=omega)only[go_sem]
  refine qa (adk m (tz m) (by omega) (by omega)) ?_
  simp(disch:=omega)only[go_sem]
  have l3:=qE (Nat.le_trans (y8 m (2^tz m)) hm)
  refine qa (qV s (m/2^tz m) (by omega)) ?_
  simp(disch:=omega)only[go_sem]
  refine q7 (by simp(disch:=omega)only[go_sem]) ?_
  show qK _ 6 _=_
  have h3:decide (m/2^tz m≠0)=true:=by
   have:=(Zl h0).1
   simp only[decide_eq_true_eq];omega
  simp only[oS,oM,oE,if_neg h0]
  simp(disch:=omega)only[go_sem,h3,Bool.and_true]
theorem awP(s1:Bool)(m1:Nat)(e1:Int)(s2:Bool)(m2:Nat)(e2:Int)(h1:bl m1≤4000000)(h2:bl m2≤4000000)(he1: -2^39≤e1∧e1≤2^39)(he2: -2^39≤e2∧e2≤2^39):
  Con Tryz.prog 182 false [.ag [.v (.bool (s1)),.sl (lim (m1)).length (qg (lim (m1))),.v (.int .i64 (e1))],.ag [.v (.bool (s2)),.sl (lim (m2)).length (qg (lim (m2))),.v (.int .i64 (e2))]] [] (isA (.ag [.v (.bool (oS ((s1 != s2)&&decide (m1*m2≠0)) (m1*m2))),.sl (lim (oM (m1*m2))).length (qg (lim (oM (m1*m2)))),.v (.int .i64 (oE (m1*m2) (e1+e2)))])):=by
 refine Con.frzA ?_
 refine Con.of_w (rs:=[.cell 4 44]) Tryz.func182 rfl Tryz.ntmps182 rfl ?_
 simp(disch:=omega)only[go_sem]
 refine qv rfl [⟨0,[],[]⟩,⟨1,[],[]⟩,⟨2,[1],[]⟩,⟨3,[1],[]⟩,⟨5,[1,3],[]⟩,⟨6,[1,3],[]⟩,⟨7,[1,3,6],[]⟩,⟨8,[1,3,6],[]⟩,⟨9,[1,3],[]⟩,⟨4,[6,8],[]⟩,⟨10,[],[]⟩,⟨11,[],[]⟩] (by kernel_rfl) ?_
 simp(disch:=omega)only[go_sem]
 refine qa (awS s1 m1 s2 m2 h1 h2) ?_
 simp(disch:=omega)only[go_sem]
 have h3:=Nat.le_trans (jH m1 m2) (Nat.add_le_add h1 h2)
 refine qa (jA ((s1 != s2)&&decide (m1*m2≠0)) (m1*m2) (e1+e2) (by omega) (by omega)) ?_
 simp(disch:=omega)only[go_sem]
 exact qu
theorem awN(s:Bool)(m:Nat)(e:Int)(hm:(lim m).length≤2^40)(he: -2^40≤e∧e≤2^40):Con Tryz.prog 207 true [.ag [.v (.bool (s)),.sl (lim (m)).length (qg (lim (m))),.v (.int .i64 (e))]] [] (isA (.v (.int .i64 (if m=0 then 0 else e+(bl m:Int))))):=by
 refine Con.of_w (rs:=[.tmp 2]) Tryz.func207 rfl Tryz.ntmps207 rfl ?_
 simp(disch:=omega)only[go_sem]
 refine qi (fun h1=>?_) (fun h1=>?_)
 ·simp(disch:=omega)only[go_sem,h1]
  have h0:m=0:=qM.1 (List.length_eq_zero_iff.1 (by omega))
  rw[if_pos h0]
  exact qy
 ·have h0:m≠0:=fun e=>h1 (by rw[e,qz];rfl)
  have:=Q1 (m:=m)
  simp(disch:=omega)only[go_sem,h1]
  refine qv rfl [⟨0,[],[]⟩,⟨1,[],[]⟩,⟨2,[1],[]⟩,⟨3,[1],[]⟩,⟨4,[1],[]⟩,⟨5,[1],[]⟩,⟨6,[],[]⟩,⟨7,[],[]⟩] (by kernel_rfl) ?_
  simp(disch:=omega)only[go_sem]
  refine qn (XN m hm) ?_
  simp(disch:=omega)only[go_sem]
  rw[if_neg h0]
  exact qy
end Go.Ab
namespace Go.Ab
def apr(neg:Bool)(m k:Nat)(mode:Int):Bool:=
 if mode=1 then false else if mode=2 then !neg else if mode=3 then neg else if mode=4 then decide (m/2^(k-1) % 2=1)
 else decide (m/2^(k-1) % 2=1)&&(decide (tz m<k-1)||decide (m/2^k % 2=1))
theorem aJ3{m k:Nat}(hk:1≤k):m/2^(k-1) % 2=1↔2^k≤m % 2^k*2:=by
 obtain⟨j,rfl⟩:∃j,k=j+1:=⟨k-1,by omega⟩
 rw[Nat.add_sub_cancel]
 have hp:0<2^j:=Nat.pow_pos (by omega)
 have h1:m % 2^(j+1)/2^j=m/2^j % 2:=by rw[Nat.pow_succ,Nat.mod_mul_right_div_self]
 have h2:m % 2^(j+1)<2^(j+1):=Nat.mod_lt _ (Nat.pow_pos (by omega))
 rw[←h1]
 generalize m % 2^(j+1)=r at*
 rw[Nat.pow_succ]at*
 constructor
 ·intro h
  have h3:=(Nat.le_div_iff_mul_le hp).1 (show 1≤r/2^j by
   rcases Nat.eq_zero_or_pos (r/2^j)with e|e
   ·rw[e]at h;simp at h
   ·exact e)
  omega
 ·intro h
  have h3:1≤r/2^j:=(Nat.le_div_iff_mul_le hp).2 (by omega)
  have h4:r/2^j<2:=(Nat.div_lt_iff_lt_mul hp).2 (by omega)
  omega
theorem ah6{a b:Int}:(0<zH a b↔b<a)∧(zH a b=0↔a=b)∧(0≤zH a b↔b≤a):=by
 unfold zH
 split
 ·omega
 ·split<;>omega
theorem aip{m:Nat}(h:m % 2=1):tz m=0:=JT (a:=m/2) (by simp;omega)
theorem aW1{neg:Bool}{m k:Nat}{mode:Int}(hm:m % 2=1)(hk:1≤k)(h0:0≤mode∧mode≤4):
  apr neg m k mode=rup neg (decide (m/2^k % 2=1)) (zH ((m % 2^k*2:Nat):Int) ((2^k:Nat):Int)) mode:=by
 have hb:=aJ3 (m:=m) hk
 obtain⟨c1,c2,c3⟩:=ah6 (a:=((m % 2^k*2:Nat):Int)) (b:=((2^k:Nat):Int))
 generalize zH ((m % 2^k*2:Nat):Int) ((2^k:Nat):Int)=c at*
 have ht:=aip hm
 unfold apr rup
 rcases(by omega:mode=0∨mode=1∨mode=2∨mode=3∨mode=4)with rfl|rfl|rfl|rfl|rfl
 ·rw[if_neg (by omega),if_neg (by omega),if_neg (by omega),if_neg (by omega),if_neg (by omega),if_neg (by omega),if_pos rfl,ht]
  rw[Bool.eq_iff_iff]
  simp only[Bool.and_eq_true,Bool.or_eq_true,decide_eq_true_eq,c1,c2]
  rw[hb]
  rcases(by omega:k=1∨1<k)with rfl|h
  ·have:m % 2^1=1:=by rw[Nat.pow_one];exact hm
   rw[this];simp
  ·have hodd:m % 2^k % 2=1:=by
    obtain⟨j,rfl⟩:∃j,k=j+1:=⟨k-1,by omega⟩
    rw[Nat.pow_succ,Nat.mul_comm,Nat.mod_mul_right_mod];exact hm
   have h4:2^k % 4=0:=by
    obtain⟨j,rfl⟩:∃j,k=j+2:=⟨k-2,by omega⟩
    rw[Nat.pow_add];omega
   omega
 ·simp
 ·simp
 ·simp
 ·rw[if_neg (by omega),if_neg (by omega),if_neg (by omega),if_pos rfl,if_neg (by omega),if_neg (by omega),if_neg (by omega),if_pos rfl]
  rw[decide_eq_decide,hb,c3];omega
theorem aTp{m k:Nat}(hm:m % 2=1)(hk:1≤k):m % 2^k≠0:=by
 obtain⟨j,rfl⟩:∃j,k=j+1:=⟨k-1,by omega⟩
 intro h
 have:m % 2^(j+1) % 2=1:=by rw[Nat.pow_succ,Nat.mul_comm,Nat.mod_mul_right_mod];exact hm
 omega
/-! ### The normal form and rounding-/
theorem aNk{m k:Nat}:oM (m*2^k)=oM m:=by
 by_cases h:m=0
 ·subst h;simp
 ·unfold oM
  rw[ZH h,Nat.pow_add,Nat.mul_comm (2^tz m),←Nat.div_div_eq_div_mul,Nat.mul_div_cancel _ (Nat.pow_pos (by omega))]
theorem JL{s:Bool}{a b k:Nat}{mode:Int}:rq s (a*2^k) (b*2^k) mode=rq s a b mode:=by
 have hp:0<2^k:=Nat.pow_pos (by omega)
 have h1:a*2^k/(b*2^k)=a/b:=Nat.mul_div_mul_right _ _ hp
 have h2:a*2^k % (b*2^k)=a % b*2^k:=Nat.mul_mod_mul_right _ _ _
 have h3:zH ((a % b*2^k*2:Nat):Int) ((b*2^k:Nat):Int)=zH ((a % b*2:Nat):Int) (b:Int):=by
  have e1:a % b*2^k*2=a % b*2*2^k:=by grind
  rw[e1]
  have h4:∀x y:Nat,x*2^k<y*2^k↔x<y:=fun x y=>Nat.mul_lt_mul_right hp
  have key:∀x y X Y:Nat,(X<Y↔x<y)→(Y<X↔y<x)→zH (X:Int) (Y:Int)=zH (x:Int) (y:Int):=by
   intro x y X Y p q
   unfold zH
   rcases Nat.lt_trichotomy x y with h|h|h
   ·have:=p.2 h
    rw[if_pos (by omega),if_pos (by omega)]
   ·have g1:¬X<Y:=fun g=>by have:=p.1 g;omega
    have g2:¬Y<X:=fun g=>by have:=q.1 g;omega
    rw[if_neg (by omega),if_neg (by omega),if_neg (by omega),if_neg (by omega)]
   ·have:=q.2 h
    rw[if_neg (by omega),if_pos (by omega),if_neg (by omega),if_pos (by omega)]
  exact key _ _ _ _ (h4 _ _) (h4 _ _)
 unfold rq
 rw[h1,h2,h3]
 by_cases h:a % b=0
 ·rw[if_pos h,if_pos (by rw[h];simp)]
 ·rw[if_neg h,if_neg (by have:=Nat.mul_pos (show 0<a % b by omega) hp;omega)]
theorem aX0{s:Bool}{a:Nat}{mode:Int}:rq s a 1 mode=a:=by unfold rq;simp[Nat.mod_one]
end Go.Ab
namespace Go.Ab
open Go Go.Proofs
theorem awM(neg:Bool)(m k:Nat)(mode:Int)(hl:(lim m).length≤2^40)(hk:1≤k)(hk2:k≤2^40):Con Tryz.prog 181 true [.v (.bool neg),.ag [.sl (lim (m)).length (qg (lim (m)))],.v (.int .i64 k),.v (.int .i64 mode)] [] (isA (.v (.bool (apr neg m k mode)))):=by
 refine Con.of_aw Tryz.func181 rfl Tryz.ntmps181 (by simp) (by simp) (by simp) (W.sound ?_)
 show @W Tryz.prog 44 ⟨_⟩ ⟨fun x σ=>@zl _ _ _ ⟨_⟩ _ ⟨_⟩ x σ⟩ _ _
 have ek:((k:Int)-1)=((k-1:Nat):Int):=by omega
 have e1:decide (((m/2^(k-1) % 2:Nat):Int)=1)=decide (m/2^(k-1) % 2=1):=by rw[decide_eq_decide];omega
 have e2:decide (((m/2^k % 2:Nat):Int)=1)=decide (m/2^k % 2=1):=by rw[decide_eq_decide];omega
 have e3:decide ((tz m:Int)<((k-1:Nat):Int))=decide (tz m<k-1):=by rw[decide_eq_decide];omega
 simp(disch:=omega)only[go_sem,ek]
 refine qx (ZA m ((k-1:Nat):Int) hl (by omega) (by omega)) (by simp(disch:=omega)only[go_sem,ek]) ?_
 rintro r hs ⟨rfl,rfl,_⟩
 refine⟨by simp[qL],?_⟩
 simp(disch:=omega)only[go_sem,ek,e1]
 refine qn (YK m hl) ?_
 simp(disch:=omega)only[go_sem]
 refine qi (fun h1=>?_) (fun h1=>?_)
 ·simp(disch:=omega)only[go_sem,h1]
  exact qC (by simp(disch:=omega)only[go_sem]) (by simp(disch:=omega)only[go_sem]) ⟨by simp[zw,apr,h1],rfl,rfl⟩
 ·simp(disch:=omega)only[go_sem,h1]
  refine qi (fun h2=>?_) (fun h2=>?_)
  ·simp(disch:=omega)only[go_sem,h2]
   exact qC (by simp(disch:=omega)only[go_sem]) (by simp(disch:=omega)only[go_sem]) ⟨by simp[zw,apr,h2],rfl,rfl⟩
  ·simp(disch:=omega)only[go_sem,h2]
   refine qi (fun h3=>?_) (fun h3=>?_)
   ·simp(disch:=omega)only[go_sem,h3]
    exact qC (by simp(disch:=omega)only[go_sem]) (by simp(disch:=omega)only[go_sem]) ⟨by simp[zw,apr,h3],rfl,rfl⟩
   ·simp(disch:=omega)only[go_sem,h3]
    refine qi (fun h4=>?_) (fun h4=>?_)
    ·simp(disch:=omega)only[go_sem,h4]
     exact qC (by simp(disch:=omega)only[go_sem]) (by simp(disch:=omega)only[go_sem]) ⟨by simp[zw,apr,h4],rfl,rfl⟩
    ·simp(disch:=omega)only[go_sem,h4]
     refine QS (fun h5=>?_) (fun h5=>?_)
     ·simp(disch:=omega)only[go_sem,h5]
      refine avL (fun h6=>?_) (fun h6=>?_)
      ·simp(disch:=omega)only[go_sem,h6]
       refine qn (ZA m (k:Int) hl (by omega) (by omega)) ?_
       simp(disch:=omega)only[go_sem]
       have h7:decide (tz m<k-1)=false:=by rw[←e3,←ek];exact h6
       rw[e2]
       refine qC (by simp(disch:=omega)only[go_sem]) (by simp(disch:=omega)only[go_sem]) ⟨?_,rfl,rfl⟩
       show AV.v (.bool _)=AV.v (.bool _)
       unfold apr;rw[if_neg h1,if_neg h2,if_neg h3,if_neg h4,h5,h7];rfl
      ·simp(disch:=omega)only[go_sem,h6]
       have h7:decide (tz m<k-1)=true:=by rw[←e3,←ek];exact h6
       refine qC (by simp(disch:=omega)only[go_sem]) (by simp(disch:=omega)only[go_sem]) ⟨?_,rfl,rfl⟩
       show AV.v (.bool _)=AV.v (.bool _)
       unfold apr;rw[if_neg h1,if_neg h2,if_neg h3,if_neg h4,h5,h7];rfl
     ·simp(disch:=omega)only[go_sem,h5]
      refine qC (by simp(disch:=omega)only[go_sem]) (by simp(disch:=omega)only[go_sem]) ⟨?_,rfl,rfl⟩
      show AV.v (.bool _)=AV.v (.bool _)
      unfold apr;rw[if_neg h1,if_neg h2,if_neg h3,if_neg h4,h5];rfl
def srM(s:Bool)(m:Nat)(e low mode:Int):Nat:=oM (roM s m e low mode)
def srE(s:Bool)(m:Nat)(e low mode:Int):Int:=if low≤e∨m=0 then e else oE (roM s m e low mode) low
theorem ahO(s:Bool)(m:Nat)(e low mode:Int)(hodd:m % 2=1∨m=0)(hs:m=0→s=false)(hmode:0≤mode∧mode≤4)(hm:bl m≤4000000)(he: -1000000≤e∧e≤1000000)(hlo: -1000000≤low∧low≤1000000):
  Con Tryz.prog 97 false [.ag [.v (.bool (s)),.sl (lim (m)).length (qg (lim (m))),.v (.int .i64 (e))],.v (.int .i64 low),.v (.int .i64 mode)] []
   (isA (.tu [.ag [.v (.bool (oS (roS s m e low mode) (roM s m e low mode))),.sl (lim (srM s m e low mode)).length (qg (lim (srM s m e low mode))),.v (.int .i64 (srE s m e low mode))],.v (.bool (roX m e low))])):=by
 refine Con.frzA ?_
 have l1:=qE hm
 refine Con.of_aw Tryz.func97 rfl Tryz.ntmps97 (by simp) (by simp) (by simp) (W.sound ?_)
 show @W Tryz.prog 51 ⟨_⟩ ⟨fun x σ=>@zl _ _ _ ⟨_⟩ _ ⟨_⟩ x σ⟩ _ _
 simp(disch:=omega)only[go_sem]
 refine jm (fun h1=>?_) (fun h1=>?_)
 ·have h0:m≠0:=fun e=>h1 (by rw[e,qz];rfl)
  have hod:m % 2=1:=hodd.resolve_right h0
  simp(disch:=omega)only[go_sem,h1]
  refine qi (fun h2=>?_) (fun h2=>?_)
  ·simp(disch:=omega)only[go_sem,h2]
   refine q7 (by simp(disch:=omega)only[go_sem]) ?_
   show qK _ 6 _=_
   have ht:=aip hod
   have e3:oM m=m:=by unfold oM;rw[ht];simp
   simp only[srM,srE,roM,roS,roX,h2,true_or,if_true,oS,if_neg h0,e3]
   simp(disch:=omega)only[go_sem]
  ·simp(disch:=omega)only[go_sem,h2]
   have ek:low-e=(((low-e).toNat:Nat):Int):=by omega
   have hk1:1≤(low-e).toNat:=by omega
   refine qF (adk m (low-e).toNat (by omega) (by omega)) (by simp(disch:=omega)only[go_sem,←ek]) ?_
   rintro r hs ⟨rfl,rfl,_⟩
   refine⟨by simp[qL],?_⟩
   simp(disch:=omega)only[go_sem]
   refine qx (awM s m (low-e).toNat mode (by omega) hk1 (by omega)) (by simp(disch:=omega)only[go_sem,←ek]) ?_
   rintro r hs ⟨rfl,rfl,_⟩
   refine⟨by simp[qL],?_⟩
   simp(disch:=omega)only[go_sem]
   have hc:¬(low≤e∨m=0):=by omega
   have hne:=aTp hod hk1
   have hups:=aW1 (neg:=s) hod hk1 hmode
   have hq:roM s m e low mode=if apr s m (low-e).toNat mode=true then m/2^(low-e).toNat+1 else m/2^(low-e).toNat:=by
    unfold roM rq
    rw[if_neg hc,if_neg hne,←hups]
   have hro:roS s m e low mode=(s&&decide (roM s m e low mode≠0)):=by unfold roS roM;rw[if_neg hc,if_neg hc]
   have hblq:bl (m/2^(low-e).toNat+1)≤4000001:=by
    have h3:=Ja (m/2^(low-e).toNat)
    have h4:=y8 m (2^(low-e).toNat)
    omega
   have hblq0:bl (m/2^(low-e).toNat)≤4000001:=Nat.le_trans (jg (by omega)) hblq
   have lq:=qE hblq
   have lq0:=qE hblq0
   have hrx:roX m e low=false:=by unfold roX;rw[if_neg hc];simp[hne]
   have hfin:∀q,roM s m e low mode=q→bl q≤4000001→AV.ag [.v (.bool (oS (s&&decide (q≠0)) q)),.sl (lim (oM q)).length (qg (lim (oM q))),.v (.int .i64 (oE q low))]=AV.ag [.v (.bool (oS (roS s m e low mode) (roM s m e low mode))),.sl (lim (srM s m e low mode)).length (qg (lim (srM s m e low mode))),.v (.int .i64 (srE s m e low mode))]:=by
    intro q hq' _
    rw[hro,hq']
    unfold srM srE
    rw[if_neg hc,hq']
   refine QS (fun h3=>?_) (fun h3=>?_)
   ·rw[if_pos h3]at hq
    simp(disch:=omega)only[go_sem,h3]
    refine qv rfl [⟨0,[],[]⟩,⟨1,[0],[]⟩,⟨2,[],[]⟩,⟨3,[],[]⟩] (by kernel_rfl) ?_
    simp(disch:=omega)only[go_sem]
    refine qa (zF 1 (by omega)) ?_
    simp(disch:=omega)only[go_sem]
    refine qa (yK (m/2^(low-e).toNat) 1 (by omega) (by have:=qE (m:=1) (B:=1) (by decide);omega)) ?_
    simp(disch:=omega)only[go_sem]
    refine qa (qV s (m/2^(low-e).toNat+1) (by omega)) ?_
    simp(disch:=omega)only[go_sem]
    refine qa (jA (s&&decide (m/2^(low-e).toNat+1≠0)) (m/2^(low-e).toNat+1) low (by omega) (by omega)) ?_
    simp(disch:=omega)only[go_sem]
    refine q7 (by simp(disch:=omega)only[go_sem]) ?_
    show qK _ 6 _=_
    rw[←hfin _ hq hblq,hrx]
    simp(disch:=omega)only[go_sem]
   ·rw[if_neg (by rw[h3];simp)]at hq
    simp(disch:=omega)only[go_sem,h3]
    refine qa (qV s (m/2^(low-e).toNat) (by omega)) ?_
    simp(disch:=omega)only[go_sem]
    refine qa (jA (s&&decide (m/2^(low-e).toNat≠0)) (m/2^(low-e).toNat) low (by omega) (by omega)) ?_
    simp(disch:=omega)only[go_sem]
    refine q7 (by simp(disch:=omega)only[go_sem]) ?_
    show qK _ 6 _=_
    rw[←hfin _ hq hblq0,hrx]
    simp(disch:=omega)only[go_sem]
 ·have h0:m=0:=qM.1 (List.length_eq_zero_iff.1 (by omega))
  simp(disch:=omega)only[go_sem,h1]
  refine q7 (by simp(disch:=omega)only[go_sem]) ?_
  show qK _ 6 _=_
  have hs0:=hs h0
  subst h0
  subst hs0
  simp only[srM,srE,roM,roS,roX,or_true,if_true,oS,jv]
  simp(disch:=omega)only[go_sem]
end Go.Ab
namespace Go.Ab
open Go Go.Proofs
theorem ahA(n lo hi:Int):Con Tryz.prog 52 true [.v (.int .i64 n),.v (.int .i64 lo),.v (.int .i64 hi)] [] (isA (.v (.bool (decide (lo≤n)&&decide (n≤hi))))):=jz n lo hi
theorem aLu(s:Bool)(xs:List Int)(e:Int)(hl:xs.length≤2^40):Con Tryz.prog 255 true [.ag [.v (.bool s),.sl xs.length (qg xs),.v (.int .i64 e)]] [] (isA (.v (.bool (dyB s xs e)))):=by
 refine Con.of_aw Tryz.func255 rfl Tryz.ntmps255 (by simp) (by simp) (by simp) (W.sound ?_)
 show @W Tryz.prog 32 ⟨_⟩ ⟨fun x σ=>@zl _ _ _ ⟨_⟩ _ ⟨_⟩ x σ⟩ _ _
 simp(disch:=omega)only[go_sem]
 refine qn (ahB s xs hl) ?_
 simp(disch:=omega)only[go_sem]
 refine QS (fun hw=>?_) (fun h1=>?_)
 ·have h1:=hw
  simp only[Qg,Bool.and_eq_true]at h1
  obtain⟨hx,hll⟩:=Vk h1.1
  have hxs:xs=lim (vl xs).toNat:=hx
  generalize hm:(vl xs).toNat=m at*
  subst hx
  simp(disch:=omega)only[go_sem,hw]
  refine qn (ahA e (-3000) 3000) ?_
  simp(disch:=omega)only[go_sem]
  refine avL (fun h2=>?_) (fun h2=>?_)
  ·simp(disch:=omega)only[go_sem,h2]
   refine qC (by simp(disch:=omega)only[go_sem]) (by simp(disch:=omega)only[go_sem]) ⟨?_,rfl,rfl⟩
   simp[zw,dyB,hw,h2]
  ·simp(disch:=omega)only[go_sem,h2]
   refine qn (adw m 0 (by omega) (by omega) (by omega)) ?_
   simp(disch:=omega)only[go_sem]
   refine jm (fun h3=>?_) (fun h3=>?_)
   ·have h3':¬m % 2=1:=fun h=>h3 (by simp;omega)
    simp(disch:=omega)only[go_sem,h3]
    refine qi (fun h4=>?_) (fun h4=>?_)
    ·simp(disch:=omega)only[go_sem,h4]
     refine qC (by simp(disch:=omega)only[go_sem]) (by simp(disch:=omega)only[go_sem]) ⟨?_,rfl,rfl⟩
     have h4':(lim m).length=0:=by omega
     simp[zw,dyB,hw,h2,hm,h3',h4']
    ·simp(disch:=omega)only[go_sem,h4]
     refine qC (by simp(disch:=omega)only[go_sem]) (by simp(disch:=omega)only[go_sem]) ⟨?_,rfl,rfl⟩
     have h4':¬(lim m).length=0:=by omega
     simp[zw,dyB,hw,h2,hm,h3',h4']
   ·have h3':m % 2=1:=by simp at h3;omega
    simp(disch:=omega)only[go_sem,h3]
    refine qC (by simp(disch:=omega)only[go_sem]) (by simp(disch:=omega)only[go_sem]) ⟨?_,rfl,rfl⟩
    simp[zw,dyB,hw,h2,hm,h3']
 ·simp(disch:=omega)only[go_sem,h1]
  refine qC (by simp(disch:=omega)only[go_sem]) (by simp(disch:=omega)only[go_sem]) ⟨?_,rfl,rfl⟩
  simp[zw,dyB,h1]
end Go.Ab
namespace Go.Ab
open Go Go.Proofs
theorem ahX(s:Bool)(m:Nat)(e:Int):Con Tryz.prog 112 false [.ag [.v (.bool (s)),.sl (lim (m)).length (qg (lim (m))),.v (.int .i64 (e))]] [] (isA (.ag [.v (.bool (s)),.sl (lim (m)).length (qg (lim (m))),.v (.int .i64 (e))])):=by
 refine Con.frzA ?_
 refine Con.of_w (rs:=[.cell 2 97]) Tryz.func112 rfl Tryz.ntmps112 rfl ?_
 simp(disch:=omega)only[go_sem]
 exact qu
def brb(mode:Int):Bool:=decide (0≤mode)&&decide (mode≤4)
def dyV:AV→AV:=id
end Go.Ab
namespace Go.Ab
open Go Go.Proofs
theorem blx{s:Bool}{m:Nat}{e low mode:Int}(hodd:m % 2=1):srM s m e low mode=oM (roM s m e low mode)∧srE s m e low mode=oE (roM s m e low mode) (roE m e low):=by
 refine⟨rfl,?_⟩
 unfold srE
 by_cases h:low≤e∨m=0
 ·have h0:m≠0:=fun e=>by omega
  rw[if_pos h]
  unfold roM roE oE
  rw[if_pos h,if_pos h,if_neg h0,aip hodd];simp
 ·rw[if_neg h]
  unfold roE
  rw[if_neg h]
end Go.Ab
namespace Go.Ab
/-! ### Numbers with a sign-/
def sv(s:Bool)(m:Nat):Int:=if s=true then-(m:Int)else(m:Int)
theorem Je(s:Bool)(m:Nat):(sv s m).natAbs=m:=by unfold sv;split<;>omega
theorem Qi(s:Bool):sv s 0=0:=by unfold sv;split<;>rfl
theorem blv(z:Int):sv (decide (z<0)) z.natAbs=z:=by
 unfold sv;split
 ·rename_i h;simp only[decide_eq_true_eq]at h;omega
 ·rename_i h;simp only[decide_eq_true_eq]at h;omega
theorem J1(s:Bool)(m k:Nat):sv s (m*k)=sv s m*(k:Int):=by
 unfold sv;split
 ·rw[Int.natCast_mul,Int.neg_mul]
 ·rw[Int.natCast_mul]
theorem aXF(s:Bool)(m:Nat):sv (s&&decide (m≠0)) m=sv s m:=by
 by_cases h:m=0
 ·subst h;rw[Qi,Qi]
 ·rw[decide_eq_true h,Bool.and_true]
theorem bls(s:Bool)(m:Nat):sv (oS s m) m=sv s m:=by
 unfold oS
 by_cases h:m=0
 ·subst h;rw[Qi,Qi]
 ·rw[if_neg h]
theorem blu(s1:Bool)(m1:Nat)(s2:Bool)(m2:Nat):sv (s1 != s2) (m1*m2)=sv s1 m1*sv s2 m2:=by
 cases s1<;>cases s2<;>simp[sv,Int.natCast_mul,Int.neg_mul,Int.mul_neg]
theorem aXE{s:Bool}{m:Nat}(h:m≠0):decide (sv s m<0)=s:=by
 cases s<;>simp[sv]<;>omega
theorem aXD(s:Bool)(m:Nat):sv (!s) m= -sv s m:=by cases s<;>simp[sv]
def dv(K:Nat)(s:Bool)(m:Nat)(e:Int):Int:=sv s m*2^(e+K).toNat
theorem beA{K:Nat}{s:Bool}{m:Nat}{e:Int}{s':Bool}{m':Nat}{e':Int}(h0:m≠0)(he: -(K:Int)≤e)(he': -(K:Int)≤e')(h:dv K s m e=dv K s' m' e'):
  s=s'∧oM m=oM m'∧oE m e=oE m' e'∧m'≠0:=by
 unfold dv at h
 obtain⟨a,ha⟩:∃a,a=(e+K).toNat:=⟨_,rfl⟩
 obtain⟨a',ha'⟩:∃a,a=(e'+K).toNat:=⟨_,rfl⟩
 rw[←ha,←ha']at h
 have habs:m*2^a=m'*2^a':=by
  have:=congrArg Int.natAbs h
  rw[Int.natAbs_mul,Int.natAbs_mul,Je,Je,Int.natAbs_pow,Int.natAbs_pow]at this
  exact this
 have hp:0<2^a:=Nat.pow_pos (by omega)
 have h1:0<m*2^a:=Nat.mul_pos (by omega) hp
 have h0':m'≠0:=fun e=>by rw[habs,e,Nat.zero_mul]at h1;omega
 have hM:oM m=oM m':=by rw[←@aNk m a,habs,aNk]
 have hT:tz m+a=tz m'+a':=by rw[←ZH h0,habs,ZH h0']
 refine⟨?_,hM,?_,h0'⟩
 ·have e1:sv s m*2^a=sv s (m*2^a):=by rw[J1,Int.natCast_pow];rfl
  have e2:sv s' m'*2^a'=sv s' (m'*2^a'):=by rw[J1,Int.natCast_pow];rfl
  rw[e1,e2,←habs]at h
  rw[←aXE (s:=s) (m:=m*2^a) (by omega),h,aXE (by omega)]
 ·unfold oE;rw[if_neg h0,if_neg h0'];omega
theorem Z3{K:Nat}{s:Bool}{e:Int}:dv K s 0 e=0:=by unfold dv;rw[Qi,Int.zero_mul]
theorem aoq{K:Nat}{s:Bool}{m:Nat}{e:Int}:dv K s m e=0↔m=0:=by
 refine⟨fun h=>?_,fun h=>by rw[h,Z3]⟩
 unfold dv at h
 rcases Int.mul_eq_zero.1 h with h|h
 ·rw[←Je s m,h];rfl
 ·have:(0:Int)<2^(e+K).toNat:=Int.pow_pos (by omega)
  omega
theorem bnQ(K:Nat)(s:Bool)(m:Nat)(e:Int):dv K (oS s m) m e=dv K s m e:=by unfold dv;rw[bls]
theorem XA(K:Nat)(s:Bool)(m:Nat)(e:Int):dv K (s&&decide (m≠0)) m e=dv K s m e:=by unfold dv;rw[aXF]
theorem aVE{K:Nat}{s:Bool}{m:Nat}{e:Int}(he: -(K:Int)≤e):dv K s (oM m) (oE m e)=dv K s m e:=by
 by_cases h:m=0
 ·subst h;rw[jv,Z3,Z3]
 ·unfold dv oE
  rw[if_neg h]
  have e1:(e+(tz m:Int)+K).toNat=tz m+(e+K).toNat:=by omega
  conv=>rhs;rw[←@Jh m]
  rw[e1,Int.pow_add,J1,Int.natCast_pow,Int.mul_assoc];rfl
theorem blY{K:Int}{m:Nat}{e:Int}(h: -K≤e)(h0:0≤K): -K≤oE m e:=by unfold oE;split<;>omega
theorem bez{K K':Nat}{s s':Bool}{m m':Nat}{e e':Int}(he: -(K:Int)≤e)(he': -(K':Int)≤e'):dv (K+K') (s != s') (m*m') (e+e')=dv K s m e*dv K' s' m' e':=by
 unfold dv
 have e1:(e+e'+((K+K':Nat):Int)).toNat=(e+K).toNat+(e'+K').toNat:=by omega
 rw[e1,Int.pow_add,blu]
 simp only[Int.mul_assoc,Int.mul_left_comm]
/-! ### Sums-/
def suM(s1:Bool)(m1:Nat)(s2:Bool)(m2:Nat):Nat:=(sv s1 m1+sv s2 m2).natAbs
def suS(s1:Bool)(m1:Nat)(s2:Bool)(m2:Nat):Bool:=decide (sv s1 m1+sv s2 m2<0)
def sgS(s1:Bool)(m1:Nat)(s2:Bool)(m2:Nat):Bool:=if s1=s2 then s1 else if m2≤m1 then s1 else s2
theorem aiu(s:Bool)(m1 m2:Nat):suM s m1 s m2=m1+m2:=by unfold suM sv;split<;>omega
theorem aMZ{s1 s2:Bool}{m1 m2:Nat}(h:s1≠s2)(hm:m2≤m1):suM s1 m1 s2 m2=m1-m2:=by
 cases s1<;>cases s2<;>simp[suM,sv]at* <;>omega
theorem aMY{s1 s2:Bool}{m1 m2:Nat}(h:s1≠s2)(hm:¬m2≤m1):suM s1 m1 s2 m2=m2-m1:=by
 cases s1<;>cases s2<;>simp[suM,sv]at* <;>omega
theorem aiB(s:Bool)(m1 m2:Nat):sgS s m1 s m2=s:=by unfold sgS;rw[if_pos rfl]
theorem aM6{s1 s2:Bool}{m1 m2:Nat}(h:s1≠s2)(hm:m2≤m1):sgS s1 m1 s2 m2=s1:=by unfold sgS;rw[if_neg h,if_pos hm]
theorem aM5{s1 s2:Bool}{m1 m2:Nat}(h:s1≠s2)(hm:¬m2≤m1):sgS s1 m1 s2 m2=s2:=by unfold sgS;rw[if_neg h,if_neg hm]
theorem aus(s1:Bool)(m1:Nat)(s2:Bool)(m2:Nat):(sgS s1 m1 s2 m2&&decide (suM s1 m1 s2 m2≠0))=suS s1 m1 s2 m2:=by
 rw[Bool.eq_iff_iff]
 simp only[Bool.and_eq_true,decide_eq_true_eq,suS]
 unfold sgS suM
 cases s1<;>cases s2<;>simp[sv]
 all_goals omega
theorem aXG(s1:Bool)(m1:Nat)(s2:Bool)(m2:Nat):suM s1 m1 s2 m2≤m1+m2:=by unfold suM sv;split<;>split<;>omega
theorem be7{a b B:Nat}(ha:bl a≤B)(hb:bl b≤B):bl (a+b)≤B+1:=by
 have h1:=q9.1 ha
 have h2:=q9.1 hb
 refine q9.2 ?_
 rw[Nat.pow_succ];omega
theorem ajs{s1:Bool}{m1:Nat}{s2:Bool}{m2 B:Nat}(h1:bl m1≤B)(h2:bl m2≤B):bl (suM s1 m1 s2 m2)≤B+1:=
 Nat.le_trans (jg (aXG _ _ _ _)) (be7 h1 h2)
def alE(m1:Nat)(e1:Int)(m2:Nat)(e2:Int):Int:=if m2=0 then e1 else if m1=0 then e2 else if e2<e1 then e2 else e1
def alA(m:Nat)(e E:Int):Nat:=m*2^(e-E).toNat
def adM(s1:Bool)(m1:Nat)(e1:Int)(s2:Bool)(m2:Nat)(e2:Int):Nat:=suM s1 (alA m1 e1 (alE m1 e1 m2 e2)) s2 (alA m2 e2 (alE m1 e1 m2 e2))
def adS(s1:Bool)(m1:Nat)(e1:Int)(s2:Bool)(m2:Nat)(e2:Int):Bool:=suS s1 (alA m1 e1 (alE m1 e1 m2 e2)) s2 (alA m2 e2 (alE m1 e1 m2 e2))
theorem ZE{K:Int}{m1:Nat}{e1:Int}{m2:Nat}{e2:Int}(h1:K≤e1)(h2:K≤e2):K≤alE m1 e1 m2 e2:=by
 unfold alE
 repeat' split
 all_goals omega
theorem aNT{K:Int}{m1:Nat}{e1:Int}{m2:Nat}{e2:Int}(h1:e1≤K)(h2:e2≤K):alE m1 e1 m2 e2≤K:=by
 unfold alE
 repeat' split
 all_goals omega
theorem ajw{K:Nat}{s:Bool}{m:Nat}{e E:Int}(hE: -(K:Int)≤E)(h:m≠0→E≤e):sv s (alA m e E)*2^(E+K).toNat=dv K s m e:=by
 by_cases h0:m=0
 ·subst h0;unfold alA;rw[Nat.zero_mul,Qi,Z3,Int.zero_mul]
 ·have:=h h0
  unfold alA dv
  have e1:(e+K).toNat=(e-E).toNat+(E+K).toNat:=by omega
  rw[e1,Int.pow_add,J1,Int.natCast_pow,Int.mul_assoc];rfl
theorem Jr{m B:Nat}{e E:Int}{C:Nat}(h:bl m≤B)(hk:e-E≤C):bl (alA m e E)≤B+C:=by
 have:=Q7 m (e-E).toNat
 unfold alA;omega
theorem bol{K:Nat}{s1:Bool}{m1:Nat}{e1:Int}{s2:Bool}{m2:Nat}{e2:Int}(h1: -(K:Int)≤e1)(h2: -(K:Int)≤e2):
  dv K (adS s1 m1 e1 s2 m2 e2) (adM s1 m1 e1 s2 m2 e2) (alE m1 e1 m2 e2)=dv K s1 m1 e1+dv K s2 m2 e2:=by
 have hE: -(K:Int)≤alE m1 e1 m2 e2:=ZE h1 h2
 have g1:m1≠0→alE m1 e1 m2 e2≤e1:=fun h=>by
  unfold alE
  repeat' split
  all_goals omega
 have g2:m2≠0→alE m1 e1 m2 e2≤e2:=fun h=>by
  unfold alE
  repeat' split
  all_goals omega
 rw[←ajw hE g1,←ajw hE g2,←Int.add_mul]
 show sv (adS s1 m1 e1 s2 m2 e2) (adM s1 m1 e1 s2 m2 e2)*_=_
 unfold adS adM suS suM
 rw[blv]
end Go.Ab
namespace Go.Ab
theorem aNl(m:Nat):oM m % 2=1∨oM m=0:=by
 by_cases h0:m=0
 ·exact .inr (yz.2 h0)
 ·exact .inl (Zl h0).1
theorem bq1(s:Bool)(m:Nat):oM m=0→oS s m=false:=fun h=>by unfold oS;rw[if_pos (yz.1 h)]
end Go.Ab
namespace Go.Ab
end Go.Ab
namespace Go.Ab
open Go Go.Proofs
end Go.Ab
namespace Go.Ab
open Go
theorem YY(m:Nat):bhp [] m=.free:=by unfold bhp;split<;>simp
theorem Con.enter{P:Program}{f:FuncId}{cl:Bool}{args:List AV}{x:Value}(h:Con P f cl args [] (isA (.v x)))(R:Nat→Prop)(w:World)(vs:Array Value)
  (hlt:∀b,R b→b<w.heap.size) (hr:RepA R (fun _=>none) w vs args) (ha:AllL (fun m=>bhp [] m≠ .free) args) (hg:Gd w):
  Calls P f vs w fun e w'=>e=.returned x∧Ext (fun _=>False) w w':=by
 have hno:∀b,¬apj (bhp []) (fun _=>none) b:=fun b ⟨nm,z,cs,B,e,_⟩=>by rw[YY]at e;cases e
 have hh:HpOk R (fun _=>none) w (bhp []):=
  ⟨fun nm=>(by rw[YY];trivial),fun nm z cs B e=>absurd e (by rw[YY];simp),fun nm nm' z z' cs cs' B B' e=>absurd e (by rw[YY];simp),fun nm z cs e=>absurd e (by rw[YY];simp)⟩
 refine(h R (fun _=>none) w vs hlt hr ha hh ⟨hg,fun g l _=>hno g⟩).mono ?_
 rintro e w' ⟨y,r,hs,bs',R',ι',rfl,⟨rfl,rfl,rfl⟩,hf⟩
 refine⟨?_,hf.ext.os,hf.ext.tape,hf.ext.output,hf.ext.size,fun b hb _=>hf.ext.block b hb (hno b)⟩
 cases hf.rep with
 |fr _ _ h=>cases h;rfl
theorem Ext.kept{w w':World}(h:Ext (fun _=>False) w w')(may:MemPlace→Prop):w.keptBut w' may:=by
 refine⟨h.os,h.output,fun i hi=>?_⟩
 rw[h.block i hi (fun h=>h)]
 cases w.heap[i]? with
 |none=>trivial
 |some o=>cases o with
  |cells c t fr=>exact⟨rfl,rfl,rfl,fun _ _=>rfl⟩
  |map es cl=>exact .inr ⟨rfl,rfl⟩
  |_=>rfl
theorem Ext.below{w w':World}(h:Ext (fun _=>False) w w'):RowKit.Below w.heap.size w w':=⟨h.os,h.tape,h.output,h.size,fun k hk=>h.block k hk (fun h=>h)⟩
theorem Ext.trod{H:Type}{enc:TypeId×Value→H}{P:Program}{t:TypeId}{W W':World}(hw:Ext (fun _=>False) W W')(hl:laidOutB P=true)(hr:P.readableRec t=true)(hrow:t<P.types.size){v:Value}{d:DataW H}{ps:List MemPlace}
  (h:DataW.Trod enc P W 0 (fun _=>true) true t v d ps) (hlt:∀x∈ps,x.block<W.heap.size):DataW.Trod enc P W' 0 (fun b=>decide (b<W.heap.size)) true t v d ps:=
 RowKit.Below.trod hl hr hrow h hw.below hlt
theorem V2{w:World}{a:Addr}{v:Value}(h:w.cell? a=some v):a.block<w.heap.size:=by
 rcases Nat.lt_or_ge a.block w.heap.size with h'|h'
 ·exact h'
 ·simp[World.cell?,Array.getElem?_eq_none h']at h
theorem blI{R:Nat→Prop}{ι:Nat→Option Blk}{w:World}(x:Value):Rep R ι w x (.v x):=.fr _ _ (.v x)
theorem aIZ{R:Nat→Prop}{ι:Nat→Option Blk}{w:World}{x y:Value}{a b:AV}(h1:Rep R ι w x a)(h2:Rep R ι w y b):RepA R ι w #[x,y] [a,b]:=
 ⟨rfl,fun i h=>match i,h with
  |0,_=>h1
  |1,_=>h2⟩
theorem Y1(b o i:Nat):(⟨b,o,none⟩:Addr).add i=⟨b,o+i,none⟩:=by
 unfold Addr.add
 split
 ·subst_vars;rfl
 ·rfl
theorem avS{R:Nat→Prop}{W:World}{a:Addr}{len cap:Nat}{zs:List Int}(hle:len≤cap)(hz:zs.length=cap)(hc:∀i,i<zs.length→W.cell? (a.add i)=some (.int .i64 (zs.getD i 0)))(hR:∀b,b<W.heap.size→R b):
  FRep R W (.slice (some a) len cap) (.sl (zs.take len).length (qg (zs.take len))):=by
 have hl:(zs.take len).length=len:=by rw[List.length_take];omega
 have hil:(qg (zs.take len)).length=len:=by unfold qg;rw[List.length_map,hl]
 rw[hl]
 obtain⟨b,o,sp⟩:=a
 have hsp:0<len→sp=none:=fun h0=>by
  have h1:=World.cell?_spot (hc 0 (by omega))
  simpa [Addr.add]using h1
 refine .sl _ len cap _ (fun i=>.int .i64 (zs.getD i 0)) b o hle (fun h0=>?_) (fun i hi=>?_) (fun i hi=>?_)
 ·have hs:=hsp (by omega)
  subst hs
  exact⟨rfl,hR _ (V2 (hc 0 (by omega)))⟩
 ·have hs:=hsp (by omega)
  subst hs
  have h1:=hc i (by omega)
  rw[Y1]at h1
  exact h1
 ·have:(qg (zs.take len))[i]=.v (.int .i64 (zs.getD i 0)):=by
   have hi2:i<(zs.take len).length:=by omega
   simp only[qg,List.getElem_map,List.getElem_take,List.getD_eq_getElem?_getD]
   rw[List.getElem?_eq_getElem (by omega)]
   rfl
  rw[this]
  exact .v _
theorem aja{R:Nat→Prop}{W:World}:FRep R W (.slice none 0 0) (.sl 0 []):=
 .sl none 0 0 [] (fun _=>undef) 0 0 (Nat.le_refl _) (fun h=>absurd h (by simp)) (fun i h=>absurd h (by simp)) (fun i h=>absurd h (by simp))
theorem aTh{H:Type}{enc:TypeId×Value→H}{P:Program}{W:World}{t e fuel:Nat}{cs:List Value}{x:DataW H×List MemPlace}(ht:P.underlying t=some (.slice e))(he:P.underlying e=some (.int .i64))(hc:P.cellsOf e=1)
  (h:DataW.trod enc P W 0 (fun _=>true) true fuel t cs=some x):
  ∃(v:Value) (xs:List Int),cs=[v]∧xs.length≤maxLen∧FRep (fun b=>b<W.heap.size) W v (.sl xs.length (qg xs)):=by
 rcases ChangeShapes.open_ints ht he hc h with⟨rfl,_⟩|⟨a,len,cap,zs,rfl,_,hl,hm,hz,_,hcell,_⟩
 ·exact⟨_,[],rfl,Nat.zero_le _,aja⟩
 ·rw[if_pos rfl]at hz
  refine⟨_,zs.take len,rfl,?_,avS hl hz hcell (fun _ h=>h)⟩
  rw[List.length_take];omega
end Go.Ab
namespace Go.Ab
open Go Go.Proofs
end Go.Ab
namespace Go.Ab
open Go Go.Proofs
end Go.Ab
namespace Go.Ab
open Go Go.Proofs
theorem aoB(xs:List Int)(hl:xs.length≤2^40):Con Tryz.prog 187 true [.ag [.sl xs.length (qg xs)]] [] (isA (.v (.bool (Xu xs)))):=by
 refine Con.of_aw Tryz.func187 rfl Tryz.ntmps187 (by simp) (by simp) (by simp) (W.sound ?_)
 show @W Tryz.prog 44 ⟨_⟩ ⟨fun x σ=>@zl _ _ _ ⟨_⟩ _ ⟨_⟩ x σ⟩ _ _
 simp(disch:=omega)only[go_sem]
 refine qi (fun h1=>?_) (fun h1=>?_)
 ·simp(disch:=omega)only[go_sem,h1]
  refine qC (by simp(disch:=omega)only[go_sem]) (by simp(disch:=omega)only[go_sem]) ⟨?_,rfl,rfl⟩
  have:¬(xs.length≤100):=by omega
  simp[zw,Xu,this]
 ·simp(disch:=omega)only[go_sem,h1]
  refine qj (fun i:Nat=>[(1,.pt 30000000 0),(2,.v (.bool false)),(3,.v (.int .i64 i))]) (fun _=>[(30000000,.own 0 [.sl xs.length (qg xs)])]) (fun i=>i≤xs.length∧∀x∈xs.take i,0≤x∧x≤65535) (fun i=>xs.length-i) 0 ⟨by omega,by simp⟩
   (Le.lst [] _ _ rfl (by simp(disch:=omega)only[go_sem]) (by simp(disch:=omega)only[go_sem])) ?_
  rintro i ⟨hi,hx⟩
  simp(disch:=omega)only[go_sem]
  refine qi (fun h2=>?_) (fun h2=>?_)
  ·simp(disch:=omega)only[go_sem,h2]
   have hmem:xs.getD i 0∈xs:=by
    rw[List.getD_eq_getElem?_getD,List.getElem?_eq_getElem (by omega)];exact List.getElem_mem _
   have bad:¬(0≤xs.getD i 0∧xs.getD i 0≤65535)→Xu xs=false:=by
    intro hc
    unfold Xu
    have:xs.all (fun x=>decide (0≤x)&&decide (x≤65535))=false:=by
     rw[List.all_eq_false]
     refine⟨_,hmem,?_⟩
     simp only[Bool.and_eq_true,decide_eq_true_eq];exact hc
    rw[this];simp
   refine⟨by omega,by omega,?_⟩
   refine jm (fun h3=>?_) (fun h3=>?_)
   ·simp(disch:=omega)only[go_sem,h3]
    refine⟨by omega,by omega,?_⟩
    refine qi (fun h4=>?_) (fun h4=>?_)
    ·simp(disch:=omega)only[go_sem,h4]
     rw[bad (by omega)]
     exact qy
    ·simp(disch:=omega)only[go_sem,h4]
     refine qe (i+1) [] ⟨by omega,?_⟩ (by show xs.length-(i+1)<xs.length-i;omega) rfl (by simp(disch:=omega)only[go_sem];try omega) (by simp(disch:=omega)only[go_sem])
     intro x hxx
     rw[List.take_add_one]at hxx
     rcases List.mem_append.1 hxx with h|h
     ·exact hx x h
     ·rw[List.getElem?_eq_getElem (by omega)]at h
      simp at h
      rw[List.getD_eq_getElem?_getD,List.getElem?_eq_getElem (by omega)]at h3 h4
      simp at h3 h4
      subst h
      omega
   ·simp(disch:=omega)only[go_sem,h3]
    rw[bad (by omega)]
    exact qy
  ·have:i=xs.length:=by omega
   subst this
   rw[List.take_length]at hx
   have hall:xs.all (fun x=>decide (0≤x)&&decide (x≤65535))=true:=by
    rw[List.all_eq_true]
    intro x h;have:=hx x h;simp only[Bool.and_eq_true,decide_eq_true_eq];exact this
   have e1:decide (xs.length≤100)=true:=by simp;omega
   simp(disch:=omega)only[go_sem,h2]
   refine jm (fun h3=>?_) (fun h3=>?_)
   ·have en:((xs.length:Int)-1).toNat=xs.length-1:=by omega
    have hmem:xs.getD (xs.length-1) 0∈xs:=by
     rw[List.getD_eq_getElem?_getD,List.getElem?_eq_getElem (by omega)];exact List.getElem_mem _
    have hp:=hx _ hmem
    simp(disch:=omega)only[go_sem,h3,en]
    refine⟨by omega,by omega,?_⟩
    refine qC (by simp(disch:=omega)only[go_sem]) (by simp(disch:=omega)only[go_sem]) ⟨?_,rfl,rfl⟩
    have e2:decide (xs.length=0)=false:=by simp;intro h;subst h;simp at h3
    show AV.v (.bool _)=AV.v (.bool _)
    unfold Xu
    rw[e1,hall,e2,Bool.false_or,Bool.true_and,Bool.true_and]
    congr 2
    rw[decide_eq_decide]
    omega
   ·simp(disch:=omega)only[go_sem,h3]
    refine qC (by simp(disch:=omega)only[go_sem]) (by simp(disch:=omega)only[go_sem]) ⟨?_,rfl,rfl⟩
    have e2:decide (xs.length=0)=true:=by simp;exact List.length_eq_zero_iff.1 (by omega)
    show AV.v (.bool _)=AV.v (.bool _)
    unfold Xu
    rw[e1,hall,e2]
    simp
theorem ac6(s:Bool)(xs:List Int)(hl:xs.length≤2^40):Con Tryz.prog 105 true [.ag [.v (.bool s),.sl xs.length (qg xs)]] [] (isA (.v (.bool (Qg s xs)))):=by
 refine Con.of_aw Tryz.func105 rfl Tryz.ntmps105 (by simp) (by simp) (by simp) (W.sound ?_)
 show @W Tryz.prog 18 ⟨_⟩ ⟨fun x σ=>@zl _ _ _ ⟨_⟩ _ ⟨_⟩ x σ⟩ _ _
 simp(disch:=omega)only[go_sem]
 refine qn (aoB xs hl) ?_
 simp(disch:=omega)only[go_sem]
 refine QS (fun h1=>?_) (fun h1=>?_)
 ·simp(disch:=omega)only[go_sem,h1]
  cases s
  ·simp(disch:=omega)only[go_sem]
   refine qC (by simp(disch:=omega)only[go_sem]) (by simp(disch:=omega)only[go_sem]) ⟨?_,rfl,rfl⟩
   simp[zw,Qg,h1]
  ·simp(disch:=omega)only[go_sem]
   refine qC (by simp(disch:=omega)only[go_sem]) (by simp(disch:=omega)only[go_sem]) ⟨?_,rfl,rfl⟩
   show AV.v (.bool _)=AV.v (.bool _)
   unfold Qg
   rw[h1,Bool.true_and,Bool.true_and,←decide_not]
   congr 2
   rw[decide_eq_decide]
   omega
 ·simp(disch:=omega)only[go_sem,h1]
  refine qC (by simp(disch:=omega)only[go_sem]) (by simp(disch:=omega)only[go_sem]) ⟨?_,rfl,rfl⟩
  simp[zw,Qg,h1]
theorem ZB(s:Bool)(xs:List Int)(e:Int)(hl:xs.length≤2^40):Con Tryz.prog 48 true [.ag [.v (.bool s),.sl xs.length (qg xs),.v (.int .i64 e)]] [] (isA (.v (.bool (dyB s xs e)))):=by
 refine Con.of_aw Tryz.func48 rfl Tryz.ntmps48 (by simp) (by simp) (by simp) (W.sound ?_)
 show @W Tryz.prog 31 ⟨_⟩ ⟨fun x σ=>@zl _ _ _ ⟨_⟩ _ ⟨_⟩ x σ⟩ _ _
 simp(disch:=omega)only[go_sem]
 refine qn (ac6 s xs hl) ?_
 simp(disch:=omega)only[go_sem]
 refine QS (fun hw=>?_) (fun hw=>?_)
 ·have h1:=hw
  simp only[Qg,Bool.and_eq_true]at h1
  obtain⟨hx,hll⟩:=Vk h1.1
  have hxs:xs=lim (vl xs).toNat:=hx
  generalize hm:(vl xs).toNat=m at*
  subst hx
  simp(disch:=omega)only[go_sem,hw]
  refine jm (fun h2=>?_) (fun h2=>?_)
  ·simp(disch:=omega)only[go_sem,h2]
   refine qi (fun h3=>?_) (fun h3=>?_)
   ·simp(disch:=omega)only[go_sem,h3]
    refine qC (by simp(disch:=omega)only[go_sem]) (by simp(disch:=omega)only[go_sem]) ⟨?_,rfl,rfl⟩
    have a2:¬e≤3000:=by omega
    simp[zw,dyB,a2]
   ·simp(disch:=omega)only[go_sem,h3]
    refine qi (fun h4=>?_) (fun h4=>?_)
    ·simp(disch:=omega)only[go_sem,h4]
     have h0:m=0:=qM.1 (List.length_eq_zero_iff.1 (by omega))
     refine qC (by simp(disch:=omega)only[go_sem]) (by simp(disch:=omega)only[go_sem]) ⟨?_,rfl,rfl⟩
     have a1: -3000≤e:=by omega
     have a2:e≤3000:=by omega
     have a3:(lim m).length=0:=by omega
     show AV.v (.bool _)=AV.v (.bool _)
     unfold dyB
     rw[hw,hm,decide_eq_true a1,decide_eq_true a2,decide_eq_true a3,h0]
     simp
    ·simp(disch:=omega)only[go_sem,h4]
     refine qn (ZA m 0 (by omega) (by omega) (by omega)) ?_
     simp(disch:=omega)only[go_sem]
     refine qC (by simp(disch:=omega)only[go_sem]) (by simp(disch:=omega)only[go_sem]) ⟨?_,rfl,rfl⟩
     have a1: -3000≤e:=by omega
     have a2:e≤3000:=by omega
     have a3:¬(lim m).length=0:=by omega
     show AV.v (.bool _)=AV.v (.bool _)
     unfold dyB
     rw[hw,hm,decide_eq_true a1,decide_eq_true a2,decide_eq_false a3]
     simp
     omega
  ·simp(disch:=omega)only[go_sem,h2]
   refine qC (by simp(disch:=omega)only[go_sem]) (by simp(disch:=omega)only[go_sem]) ⟨?_,rfl,rfl⟩
   have a1:¬ -3000≤e:=by omega
   simp[zw,dyB,a1]
 ·simp(disch:=omega)only[go_sem,hw]
  refine qC (by simp(disch:=omega)only[go_sem]) (by simp(disch:=omega)only[go_sem]) ⟨?_,rfl,rfl⟩
  simp[zw,dyB,hw]
end Go.Ab
namespace Go.Ab
open Go Go.Proofs
theorem aoy(xs:List Int)(left:Int)(hl:xs.length≤9223372036854775807)(h:0≤left∧left≤2^40):Con Tryz.prog 295 true [.sl xs.length (qg xs),.v (.int .i64 left)] [] (isA (.v (.int .i64 (if left-xs.length<0 then-1 else left-xs.length)))):=by
 refine Con.of_w (rs:=[.tmp 4]) Tryz.func295 rfl Tryz.ntmps295 rfl ?_
 simp(disch:=omega)only[go_sem]
 refine qi (fun h1=>?_) (fun h1=>?_)
 ·simp(disch:=omega)only[go_sem,h1]
  rw[if_pos h1]
  exact qy
 ·simp(disch:=omega)only[go_sem,h1]
  rw[if_neg h1]
  exact qy
theorem aiC{xs:List Int}{i:Nat}(h:i<xs.length):(xs.take i++List.replicate (xs.length-i) 0).set i (xs.getD i 0)=xs.take (i+1)++List.replicate (xs.length-(i+1)) 0:=by
 have e1:(xs.take i).length=i:=by rw[List.length_take];omega
 have e2:xs.length-i=(xs.length-(i+1))+1:=by omega
 rw[List.set_append_right _ _ (by omega),e1,Nat.sub_self,e2,List.replicate_succ,List.set_cons_zero,List.take_add_one,List.getElem?_eq_getElem h,List.append_assoc,List.getD_eq_getElem?_getD,List.getElem?_eq_getElem h]
 rfl
theorem aov(cl:Bool)(xs:List Int)(hl:xs.length≤2000000):Con Tryz.prog 296 cl [.sl xs.length (qg xs)] [] (auW xs):=by
 refine Con.of_aw Tryz.func296 rfl Tryz.ntmps296 (by simp) (by simp) (by simp) (W.sound ?_)
 show @W Tryz.prog 22 ⟨_⟩ ⟨fun x σ=>@zl _ _ _ ⟨_⟩ _ ⟨_⟩ x σ⟩ _ _
 simp(disch:=omega)only[go_sem]
 refine⟨⟨by omega,by omega,by omega⟩,?_⟩
 refine qj (fun i:Nat=>[(0,.sl xs.length (qg xs)),(3,.rf 90000000 0 xs.length),(4,.v (.int .i64 i))]) (fun i=>[(90000000,.own 1 (qg (xs.take i++List.replicate (xs.length-i) 0)))]) (fun i=>i≤xs.length) (fun i=>xs.length-i) 0 (by omega)
  (Le.lst [] _ _ rfl (by simp(disch:=omega)only[go_sem];try omega) (by simp(disch:=omega)only[go_sem,Ka,List.take_zero,List.nil_append,Nat.sub_zero])) ?_
 intro i hi
 simp(disch:=omega)only[go_sem]
 refine qi (fun h1=>?_) (fun h1=>?_)
 ·simp(disch:=omega)only[go_sem,h1]
  have el:(xs.take i++List.replicate (xs.length-i) 0).length=xs.length:=by rw[List.length_append,List.length_take,List.length_replicate];omega
  refine⟨by omega,by omega,by omega,by omega,qe (i+1) [] (by show i+1≤_;omega) (by show xs.length-(i+1)<xs.length-i;omega) rfl (by simp(disch:=omega)only[go_sem];try omega) (by simp(disch:=omega)only[go_sem,aiC (by omega:i<xs.length)])⟩
 ·have:i=xs.length:=by omega
  subst this
  simp(disch:=omega)only[go_sem,h1]
  refine qm [(0,90000000)] [.own 1 (qg (xs++[]))] [] [.rf 0 0 xs.length] rfl (by simp(disch:=omega)only[go_sem]) (by simp(disch:=omega)only[go_sem,List.take_length,Nat.sub_self,List.replicate_zero]) (by simp) (by intro _;simp[zw,AV.pu,Ob.pu,q8]) (.inr ⟨[],rfl,rfl⟩)
theorem beL(xs:List Int)(hl:xs.length≤2000000):Con Tryz.prog 253 false [.ag [.sl xs.length (qg xs)]] [] (isA (.ag [.sl xs.length (qg xs)])):=by
 refine Con.frzA ?_
 refine Con.of_w (rs:=[.cell 2 40]) Tryz.func253 rfl Tryz.ntmps253 rfl ?_
 simp(disch:=omega)only[go_sem]
 refine qa (aov false xs hl).num ?_
 simp(disch:=omega)only[go_sem]
 exact qu
def szL(left:Int)(n:Nat):Int:=if left-n<0 then-1 else left-n
theorem awy(xs:List Int)(left:Int)(hl:xs.length≤9223372036854775807)(h:0≤left∧left≤2^40):Con Tryz.prog 246 true [.ag [.sl xs.length (qg xs)],.v (.int .i64 left)] [] (isA (.v (.int .i64 (szL left xs.length)))):=by
 refine Con.of_w (rs:=[.tmp 4]) Tryz.func246 rfl Tryz.ntmps246 rfl ?_
 simp(disch:=omega)only[go_sem]
 refine qn (aoy xs left hl h) ?_
 simp(disch:=omega)only[go_sem]
 unfold szL
 by_cases h1:left-(xs.length:Int)<0
 ·rw[if_pos h1]
  simp(disch:=omega)only[go_sem]
  exact qy
 ·rw[if_neg h1]
  simp(disch:=omega)only[go_sem,h1]
  exact qy
theorem ahE(s:Bool)(xs:List Int)(left:Int)(hl:xs.length≤9223372036854775807)(h:0≤left∧left≤2^40):Con Tryz.prog 174 true [.ag [.v (.bool s),.sl xs.length (qg xs)],.v (.int .i64 left)] [] (isA (.v (.int .i64 (szL left xs.length)))):=by
 refine Con.of_w (rs:=[.tmp 4]) Tryz.func174 rfl Tryz.ntmps174 rfl ?_
 simp(disch:=omega)only[go_sem]
 refine qn (awy xs left hl h) ?_
 simp(disch:=omega)only[go_sem]
 unfold szL
 by_cases h1:left-(xs.length:Int)<0
 ·rw[if_pos h1]
  simp(disch:=omega)only[go_sem]
  exact qy
 ·rw[if_neg h1]
  simp(disch:=omega)only[go_sem,h1]
  exact qy
theorem aLn(s:Bool)(xs:List Int)(e left:Int)(hl:xs.length≤9223372036854775807)(h:0≤left∧left≤2^40):Con Tryz.prog 90 true [.ag [.v (.bool s),.sl xs.length (qg xs),.v (.int .i64 e)],.v (.int .i64 left)] [] (isA (.v (.int .i64 (szL left xs.length)))):=by
 refine Con.of_w (rs:=[.tmp 4]) Tryz.func90 rfl Tryz.ntmps90 rfl ?_
 simp(disch:=omega)only[go_sem]
 refine qn (ahE s xs left hl h) ?_
 simp(disch:=omega)only[go_sem]
 unfold szL
 by_cases h1:left-(xs.length:Int)<0
 ·rw[if_pos h1]
  simp(disch:=omega)only[go_sem]
  exact qy
 ·rw[if_neg h1]
  simp(disch:=omega)only[go_sem,h1]
  exact qy
theorem aoS(xs:List Int)(hl:xs.length≤2^60):Con Tryz.prog 205 true [.sl xs.length (qg xs),.sl xs.length (qg xs)] [] (isA (.v (.bool true))):=by
 refine Con.of_w (rs:=[.tmp 4]) Tryz.func205 rfl Tryz.ntmps205 rfl ?_
 simp(disch:=omega)only[go_sem]
 refine qj (fun i:Nat=>[(0,.sl xs.length (qg xs)),(1,.sl xs.length (qg xs)),(5,.v (.int .i64 i))]) (fun _=>[]) (fun i=>i≤xs.length) (fun i=>xs.length-i) 0 (by omega)
  (Le.lst [] _ _ rfl (by simp(disch:=omega)only[go_sem]) (by simp(disch:=omega)only[go_sem])) ?_
 intro i hi
 simp(disch:=omega)only[go_sem]
 refine qi (fun h1=>?_) (fun h1=>?_)
 ·simp(disch:=omega)only[go_sem,h1]
  refine qv rfl [⟨0,[],[]⟩,⟨1,[],[]⟩,⟨2,[],[]⟩,⟨3,[],[]⟩,⟨4,[3],[]⟩,⟨5,[3],[]⟩,⟨6,[3],[]⟩,⟨7,[3],[]⟩,⟨8,[],[]⟩] (by kernel_rfl) ?_
  simp(disch:=omega)only[go_sem]
  refine⟨by omega,by omega,by omega,by omega,qe (i+1) [] (by show i+1≤_;omega) (by show xs.length-(i+1)<xs.length-i;omega) rfl (by simp(disch:=omega)only[go_sem];try omega) (by simp(disch:=omega)only[go_sem])⟩
 ·have:i=xs.length:=by omega
  subst this
  simp(disch:=omega)only[go_sem,h1]
  exact qy
theorem aw4(xs:List Int)(hl:xs.length≤2^60):Con Tryz.prog 126 true [.ag [.sl xs.length (qg xs)],.ag [.sl xs.length (qg xs)]] [] (isA (.v (.bool true))):=by
 refine Con.of_w (rs:=[.tmp 4]) Tryz.func126 rfl Tryz.ntmps126 rfl ?_
 simp(disch:=omega)only[go_sem]
 refine qn (aoS xs hl) ?_
 simp(disch:=omega)only[go_sem]
 exact qy
theorem ahW(s:Bool)(xs:List Int)(hl:xs.length≤2^60):Con Tryz.prog 59 true [.ag [.v (.bool s),.sl xs.length (qg xs)],.ag [.v (.bool s),.sl xs.length (qg xs)]] [] (isA (.v (.bool true))):=by
 refine Con.of_w (rs:=[.tmp 4]) Tryz.func59 rfl Tryz.ntmps59 rfl ?_
 simp(disch:=omega)only[go_sem]
 have e:(s != s)=false:=by cases s<;>rfl
 simp(disch:=omega)only[go_sem,e]
 refine qn (aw4 xs hl) ?_
 simp(disch:=omega)only[go_sem]
 exact qy
theorem VV(s:Bool)(xs:List Int)(e:Int)(hl:xs.length≤2^60):Con Tryz.prog 19 true [.ag [.v (.bool s),.sl xs.length (qg xs),.v (.int .i64 e)],.ag [.v (.bool s),.sl xs.length (qg xs),.v (.int .i64 e)]] [] (isA (.v (.bool true))):=by
 refine Con.of_w (rs:=[.tmp 4]) Tryz.func19 rfl Tryz.ntmps19 rfl ?_
 simp(disch:=omega)only[go_sem]
 refine qn (ahW s xs hl) ?_
 simp(disch:=omega)only[go_sem]
 exact qy
end Go.Ab
namespace Go.Ab
open Go Go.Proofs
end Go.Ab
namespace Go.Ab
open Go
structure DyV where
 s:Bool
 xs:List Int
 e:Int
def DyV.cs(x:DyV):List AV:=[.v (.bool x.s),.sl x.xs.length (qg x.xs),.v (.int .i64 x.e)]
theorem Xz(x:DyV):x.cs.length=3:=rfl
theorem aNG{ρ:Nat→Nat}(x:DyV):zx ρ x.cs=x.cs:=rfl
theorem awl{hp:Nat→Ob}{k:Nat}(x:DyV):x.cs.map (qK hp (k+1))=x.cs:=rfl
theorem aNH{p:Nat→Prop}(x:DyV):AllL p x.cs:=by simp[DyV.cs,AllL,AV.All]
theorem aVC{l:List DyV}:(ql DyV.cs l).length=l.length*3:=yd Xz
theorem aVB{ρ:Nat→Nat}{l:List DyV}:zx ρ (ql DyV.cs l)=ql DyV.cs l:=ZQ aNG
theorem aK2{hp:Nat→Ob}{k:Nat}{l:List DyV}:(ql DyV.cs l).map (qK hp (k+1))=ql DyV.cs l:=Zh awl
theorem aVD{p:Nat→Prop}{l:List DyV}:AllL p (ql DyV.cs l)=True:=eq_true (ZR aNH)
theorem aK3{p:Nat→Prop}{x:DyV}:AllL p x.cs=True:=eq_true (aNH x)
attribute [go_sem] aVC aVB aK2 aVD aK3 aNG awl
end Go.Ab
namespace Go.Ab
open Go
/-! ### The simplifier's words for truth values-/
theorem brB:(true==true)=true:=ID rfl
theorem brE:(false==false)=true:=ID rfl
theorem brC:(true==false)=false:=ID rfl
theorem brD:(false==true)=false:=ID rfl
theorem bq6:(true != true)=false:=ID rfl
theorem bq9:(false != false)=false:=ID rfl
theorem bq7:(true != false)=true:=ID rfl
theorem bq8:(false != true)=true:=ID rfl
theorem o_t(b:Bool):(true||b)=true:=ID rfl
theorem o_f(b:Bool):(false||b)=b:=ID rfl
theorem bqZ(b:Bool):(b||true)=true:=by cases b<;>rfl
theorem bq0(b:Bool):(b||false)=b:=by cases b<;>rfl
theorem a_t(b:Bool):(true&&b)=b:=ID rfl
theorem a_f(b:Bool):(false&&b)=false:=ID rfl
theorem brI(b:Bool):(b&&true)=b:=by cases b<;>rfl
theorem brJ(b:Bool):(b&&false)=false:=by cases b<;>rfl
attribute [go_sem] brB brE brC brD bq6 bq9 bq7 bq8 o_t o_f
attribute [go_sem] bqZ bq0 a_t a_f brI brJ
theorem aWe{P:Program}{t:TypeId}[h:FlE P t]{k m e k' m' e':Int}{s s':Bool}{K:AV→Prop}:
  @jI P .eql t (.ag [.v (.int .i64 k),.v (.bool s),.v (.int .i64 m),.v (.int .i64 e)]) (.ag [.v (.int .i64 k'),.v (.bool s'),.v (.int .i64 m'),.v (.int .i64 e')]) ⟨K⟩=K (.v (.bool (bep k s m e k' s' m' e'))):=
 propext ⟨fun g=>g.2,fun g=>⟨h,g⟩⟩
theorem aWd{P:Program}{t:TypeId}[h:FlE P t]{k m e k' m' e':Int}{s s':Bool}{K:AV→Prop}:
  @jI P .neq t (.ag [.v (.int .i64 k),.v (.bool s),.v (.int .i64 m),.v (.int .i64 e)]) (.ag [.v (.int .i64 k'),.v (.bool s'),.v (.int .i64 m'),.v (.int .i64 e')]) ⟨K⟩=K (.v (.bool (!bep k s m e k' s' m' e'))):=
 propext ⟨fun g=>g.2,fun g=>⟨h,g⟩⟩
attribute [go_sem] aWe aWd
/-! ### Bits of any numbers-/
def boK(x y:Int):Int:=IntKind.i64.wrap (BitVec.ofInt IntKind.i64.bits x^^^BitVec.ofInt IntKind.i64.bits y).toNat
theorem aVZ{x y:Int}{P:Program}{t:Nat}{K:AV→Prop}:@jI P .xor t (.v (.int .i64 x)) (.v (.int .i64 y)) ⟨K⟩=K (.v (.int .i64 (boK x y))):=by
 simp only[jI,Js,Yr,true_and];rfl
theorem Yi(x:Int):((BitVec.ofInt 64 x).toNat:Int)=x % 18446744073709551616:=by
 rw[BitVec.toNat_ofInt];omega
theorem ao8{x:Int}{P:Program}{t:Nat}{K:AV→Prop}:@jI P .and t (.v (.int .i64 x)) (.v (.int .i64 255)) ⟨K⟩=K (.v (.int .i64 (x % 256))):=by
 have e:IntKind.i64.wrap (BitVec.ofInt 64 x&&&BitVec.ofInt 64 255).toNat=x % 256:=by
  have h1:=Yi x
  have h2:(BitVec.ofInt 64 255).toNat=2^8-1:=by decide
  rw[BitVec.toNat_and,h2,Nat.and_two_pow_sub_one_eq_mod,JE (by omega)]
  omega
 rw[←e];simp only[jI,Js,Yr,true_and];rfl
theorem axz{x:Int}{P:Program}{t:Nat}{K:AV→Prop}:@jI P .and t (.v (.int .i64 x)) (.v (.int .i64 1073741823)) ⟨K⟩=K (.v (.int .i64 (x % 1073741824))):=by
 have e:IntKind.i64.wrap (BitVec.ofInt 64 x&&&BitVec.ofInt 64 1073741823).toNat=x % 1073741824:=by
  have h1:=Yi x
  have h2:(BitVec.ofInt 64 1073741823).toNat=2^30-1:=by decide
  rw[BitVec.toNat_and,h2,Nat.and_two_pow_sub_one_eq_mod,JE (by omega)]
  omega
 rw[←e];simp only[jI,Js,Yr,true_and];rfl
attribute [go_sem] aVZ ao8 axz
def aJT(h:Nat→Ob)(nms:List Nat):List Nat→List Ob
 | []=>[]
 |n::r=>(h n).ren (back nms)::aJT h nms r
theorem avo{h:Nat→Ob}{nms:List Nat}:aJT h nms []=[]:=ID rfl
theorem aof{h:Nat→Ob}{nms:List Nat}{n:Nat}{r:List Nat}:aJT h nms (n::r)=(h n).ren (back nms)::aJT h nms r:=ID rfl
attribute [go_sem] avo aof
end Go.Ab
namespace Go.Ab
open Go
end Go.Ab
namespace Go.Ab
open Go
section
variable {P:Program}{f:FuncId}{args:List AV}{post:AV→List Ob→List Ob→Prop}
theorem Con.frzC{cl:Bool}(h:Con P f cl args [] post):Con P f cl args [] (fun r' hs' bs'=>hs'=[]∧bs'=[]∧∃r hs,post r hs []∧r'=qK (rhp hs []) 6 r):=by
 intro R ι w vs h1 h2 h3 h4 h5
 refine(h R ι w vs h1 h2 h3 h4 h5).mono ?_
 rintro e w' ⟨x,r,hs,bs',R',ι',he,hp,hF⟩
 have hb:bs'=[]:=List.length_eq_zero_iff.1 (by simpa using hF.len)
 subst hb
 have hfree:∀m,10000000≤m→rhp hs [] m=.free:=fun m hm=>by simp[rhp,hm]
 have hO:HpOk R' ι' w' (rhp hs []):=by
  refine⟨fun m=>?_,fun m z cs B e hB hr=>hF.nR m z cs B e hB (.inr hr),hF.inj,hF.men⟩
  rcases Nat.lt_or_ge m 10000000 with hm|hm
  ·exact hF.okF m hm
  ·rw[hfree m hm];trivial
 have hown:∀{m z cs B},rhp hs [] m=.own z cs→ι' m=some B→w.heap.size≤B.b∧B.b<w'.heap.size:=by
  intro m z cs B e hB
  have hm:m<10000000:=by
   rcases Nat.lt_or_ge m 10000000 with hm|hm
   ·exact hm
   ·rw[hfree m hm]at e;cases e
  refine⟨hF.fresh m z cs B hm e hB,?_⟩
  have:=hF.okF m hm
  rw[e,hB]at this
  obtain⟨c,T,lo,hi,g1,_⟩:=this
  rcases Nat.lt_or_ge B.b w'.heap.size with h'|h'
  ·exact h'
  ·simp[Array.getElem?_eq_none h']at g1
 refine⟨x,qK (rhp hs []) 6 r,[],[],fun b=>R' b∨apj (rhp hs []) ι' b,ι',he,⟨rfl,rfl,r,hs,hp,rfl⟩,?_⟩
 have hnil:∀m,rhp [] [] m=.free:=fun m=>by simp[rhp]
 refine⟨hF.ext,fun b hb=>?_,fun b hb=>?_,.fr _ _ (jd hO (fun _ h=>.inl h) (fun _ h=>.inr h) 6 hF.rep),jV 6 r,fun m _=>?_,fun m _=>?_,fun m z cs B e=>?_,fun m m' z z' cs cs' B B' e=>?_,fun m z cs e=>?_,fun m z cs B _ e=>?_,rfl,hF.bown,fun i hi=>by simp at hi⟩
 ·rcases hb with hb|⟨m,z,cs,B,e,hB,rfl⟩
  ·exact hF.rlt b hb
  ·exact(hown e hB).2
 ·rcases hb with hb|⟨m,z,cs,B,e,hB,rfl⟩
  ·exact hF.rnew b hb
  ·exact .inl (hown e hB).1
 ·rw[hnil];trivial
 ·rw[hnil];trivial
 all_goals (rw[hnil]at e;cases e)
theorem Con.frzAC{cl:Bool}{f:FuncId}{args:List AV}{a:AV}(h:Con P f cl args [] (bfK a)):Con P f cl args [] (isA a):=
 h.frzC.mono fun r hs bs ⟨h1,h2,r0,hs0,h3,h4⟩=>⟨by rw[h4];exact h3,h1,h2⟩
theorem Con.natFC{cl:Bool}{m:Nat}(h:Con P f cl args [] (aJJ m)):Con P f cl args [] (isA (.ag [.sl (lim m).length (qg (lim m))])):=
 h.frzC.mono fun r hs bs ⟨h1,h2,r0,hs0,h3,h4⟩=>by
  refine⟨?_,h1,h2⟩
  rcases h3 with⟨rfl,rfl,rfl⟩|⟨zs,rfl,rfl⟩
  ·rw[h4,qz];rfl
  ·rw[h4,X5,List.map_cons,List.map_nil,yk (k:=3) (l:=lim m) (zs:=zs) qY rfl]
end
end Go.Ab
namespace Go.Ab
open Go
section
variable {σ:St}
theorem Le.ghostC(m o nm z:Nat){zo:Nat}{cs:List AV}(hm:σ.hp m=.own zo cs)(ho:cs[o]? =some (.v (.slice none 0 0)))(hf:σ.hp nm=.free):
  Le σ ⟨σ.env,upd (upd σ.hp nm (.own z [])) m (.own zo (cs.set o (.rf nm 0 0)))⟩:=by
 intro L w0 R0 N a w hi
 obtain⟨R,ι,hR,h⟩:=hi.inv
 have hg:=h.ghost (z:=z) hf
 have hne:m≠nm:=fun e=>by rw[e,hf]at hm;cases hm
 have hm':(⟨σ.env,upd σ.hp nm (.own z [])⟩:St).hp m=.own zo cs:=by show upd σ.hp nm (.own z []) m=_;rw[qh hne];exact hm
 obtain⟨hol,hoe⟩:=List.getElem?_eq_some_iff.1 ho
 have key:Inv L w0 R (upd ι nm none) w a.tmps ⟨σ.env,upd (upd σ.hp nm (.own z [])) m (.own zo (cs.set o (.rf nm 0 0)))⟩:=by
  cases hB:upd ι nm none m with
  |none=>
   have:=hg.hp.ok m
   rw[hm',hB]at this
   have e:cs=[]:=this
   rw[e]at hol;simp at hol
  |some B=>
   obtain⟨c,T,lo,hi',h1,h2,h3,h4,h5,h6⟩:=j0 hg hm' hB
   refine hg.turn hm' hB rfl rfl rfl rfl (fun _ _=>rfl) ⟨c,T,lo,hi',h1,h2,h3,h4,by rw[List.length_set];exact h5,fun i hi2=>?_⟩ (AllL.of_get fun i hi2=>?_)
   ·rw[List.length_set]at hi2
    rw[List.getElem_set]
    by_cases e:o=i
    ·subst e
     rw[if_pos rfl]
     have:=h6 o hi2
     rw[hoe]at this
     rw[this.v_inv]
     exact .rf nm 0 0 0 none ⟨Nat.le_refl _,by rw[qq]⟩
    ·rw[if_neg e];exact h6 i hi2
   ·rw[List.length_set]at hi2
    rw[List.getElem_set]
    split
    ·show upd σ.hp nm (.own z []) nm≠ .free
     rw[qq];simp
    ·exact(hg.hp.men m zo cs hm').get i hi2
 exact⟨hi.df,hi.sz,R,_,hR,key⟩
end
structure ExV where
 s:Bool
 m:Nat
 e:Int
deriving DecidableEq
def ExV.cs(x:ExV):List AV:=[.v (.bool x.s),.sl (lim x.m).length (qg (lim x.m)),.v (.int .i64 x.e)]
theorem acZ(x:ExV):x.cs.length=3:=rfl
theorem awb{ρ:Nat→Nat}(x:ExV):zx ρ x.cs=x.cs:=rfl
theorem awa{hp:Nat→Ob}{k:Nat}(x:ExV):x.cs.map (qK hp (k+1))=x.cs:=rfl
theorem awc{p:Nat→Prop}(x:ExV):AllL p x.cs:=by simp[ExV.cs,AllL,AV.All]
def ex0:ExV:=⟨false,0,0⟩
theorem ahp{l:List ExV}:(ql ExV.cs l).length=l.length*3:=yd acZ
theorem aVt{ρ:Nat→Nat}{l:List ExV}:zx ρ (ql ExV.cs l)=ql ExV.cs l:=ZQ awb
theorem aje{hp:Nat→Ob}{k:Nat}{l:List ExV}:(ql ExV.cs l).map (qK hp (k+1))=ql ExV.cs l:=Zh awa
theorem aVv{p:Nat→Prop}{l:List ExV}:AllL p (ql ExV.cs l)=True:=eq_true (ZR awc)
theorem aKX{p:Nat→Prop}{x:ExV}:AllL p x.cs=True:=eq_true (awc x)
theorem VJ{l:List ExV}{x:ExV}:ql ExV.cs l++[.v (.bool x.s),.sl (lim x.m).length (qg (lim x.m)),.v (.int .i64 x.e)]=ql ExV.cs (l++[x]):=by
 rw[←jj,qQ,ji,List.append_nil];rfl
theorem aVu{l:List ExV}:cut (ql ExV.cs l) 0 (l.length*3)=ql ExV.cs l:=by
 unfold cut;rw[List.drop_zero,List.take_of_length_le (by rw[ahp];exact Nat.le_refl _)]
structure SpV where
 lo:ExV
 hi:ExV
deriving DecidableEq
def SpV.cs(x:SpV):List AV:=x.lo.cs++x.hi.cs
theorem aui(x:SpV):x.cs.length=6:=rfl
theorem aM1{ρ:Nat→Nat}(x:SpV):zx ρ x.cs=x.cs:=rfl
theorem auh{hp:Nat→Ob}{k:Nat}(x:SpV):x.cs.map (qK hp (k+1))=x.cs:=rfl
theorem aM2{p:Nat→Prop}(x:SpV):AllL p x.cs:=by simp[SpV.cs,ExV.cs,AllL,AV.All]
def sp0:SpV:=⟨ex0,ex0⟩
theorem yc{l:List SpV}:(ql SpV.cs l).length=l.length*6:=yd aui
theorem aR4{ρ:Nat→Nat}{l:List SpV}:zx ρ (ql SpV.cs l)=ql SpV.cs l:=ZQ aM1
theorem aiv{hp:Nat→Ob}{k:Nat}{l:List SpV}:(ql SpV.cs l).map (qK hp (k+1))=ql SpV.cs l:=Zh auh
theorem aR6{p:Nat→Prop}{l:List SpV}:AllL p (ql SpV.cs l)=True:=eq_true (ZR aM2)
theorem aIE{p:Nat→Prop}{x:SpV}:AllL p x.cs=True:=eq_true (aM2 x)
theorem JJ{l:List SpV}{x:SpV}:ql SpV.cs l++[.v (.bool x.lo.s),.sl (lim x.lo.m).length (qg (lim x.lo.m)),.v (.int .i64 x.lo.e),.v (.bool x.hi.s),.sl (lim x.hi.m).length (qg (lim x.hi.m)),.v (.int .i64 x.hi.e)]=ql SpV.cs (l++[x]):=by
 rw[←jj,qQ,ji,List.append_nil];rfl
theorem aR5{l:List SpV}:cut (ql SpV.cs l) 0 (l.length*6)=ql SpV.cs l:=by
 unfold cut;rw[List.drop_zero,List.take_of_length_le (by rw[yc];exact Nat.le_refl _)]
attribute [go_sem] ahp aVt aje aVv aKX awb awa yc aR4 aiv aR6 aIE aM1 auh
end Go.Ab
namespace Go.Ab
open Go
section
variable {P:Program}{N:Nat}{σ:St}{Q:Exit→St→Prop}
theorem Le.nilC(m o:Nat){zo:Nat}{cs:List AV}(hm:σ.hp m=.own zo cs)(ho:cs[o]? =some (.v (.slice none 0 0))):
  Le σ ⟨σ.env,upd σ.hp m (.own zo (cs.set o (.sl 0 [])))⟩:=by
 intro L w0 R0 N a w hi
 obtain⟨R,ι,hR,h⟩:=hi.inv
 obtain⟨hol,hoe⟩:=List.getElem?_eq_some_iff.1 ho
 have key:Inv L w0 R ι w a.tmps ⟨σ.env,upd σ.hp m (.own zo (cs.set o (.sl 0 [])))⟩:=by
  cases hB:ι m with
  |none=>
   have:=h.hp.ok m
   rw[hm,hB]at this
   have e:cs=[]:=this
   rw[e]at hol;simp at hol
  |some B=>
   obtain⟨c,T,lo,hi',h1,h2,h3,h4,h5,h6⟩:=j0 h hm hB
   refine h.turn hm hB rfl rfl rfl rfl (fun _ _=>rfl) ⟨c,T,lo,hi',h1,h2,h3,h4,by rw[List.length_set];exact h5,fun i hi2=>?_⟩ (AllL.of_get fun i hi2=>?_)
   ·rw[List.length_set]at hi2
    rw[List.getElem_set]
    by_cases e:o=i
    ·subst e
     rw[if_pos rfl]
     have:=h6 o hi2
     rw[hoe]at this
     rw[this.v_inv]
     exact .fr _ _ (.sl none 0 0 [] (fun _=>undef) 0 0 (Nat.le_refl _) (fun h=>absurd h (by simp)) (fun i h=>absurd h (by simp)) (fun i h=>absurd h (by simp)))
    ·rw[if_neg e];exact h6 i hi2
   ·rw[List.length_set]at hi2
    rw[List.getElem_set]
    split
    ·simp[AV.All]
    ·exact(h.hp.men m zo cs hm).get i hi2
 exact⟨hi.df,hi.sz,R,ι,hR,key⟩
theorem Le.frz(m:Nat){z:Nat}{ks:List AV}(hm:σ.hp m=.own z ks)(hl:zP m=false)(hn:AllL (fun _=>False) ks):
  Le σ ⟨fun s=>(σ.env s).fz m z ks,fun k=>if k=m then .dead else(σ.hp k).fz m z ks⟩:=by
 have:=Le.freeze m hm hl hn
 have e:(fun k=>bif Nat.beq k m then Ob.dead else(σ.hp k).fz m z ks)=fun k=>if k=m then Ob.dead else(σ.hp k).fz m z ks:=by
  funext k
  by_cases h:k=m
  ·subst h;rw[Nat.beq_refl,cond_true,if_pos rfl]
  ·rw[ag7 h,cond_false,if_neg h]
 rwa[e]at this
theorem AW.seqLe{x y:Code}{E:List (Nat×AV)}{H:List (Nat×Ob)}(hx:AW P N x (fun ex σ'=>ex=.normal∧Le σ' ⟨ofL .un E,ofH H⟩) σ)(hy:AW P N y Q ⟨ofL .un E,ofH H⟩):AW P N (.seq x y) Q σ:=
 AW.seq (hx.mono fun ex σ' ⟨he,hl⟩=>by subst he;exact AW.le hl hy)
end
section
variable {m z:Nat}{ks:List AV}
theorem bma:AV.fz m z ks .un=.un:=ID rfl
theorem brm{x:Value}:AV.fz m z ks (.v x)=.v x:=ID rfl
theorem bmc{n:Nat}{cs:List AV}:AV.fz m z ks (.sl n cs)=.sl n cs:=ID rfl
theorem bmf{o:Nat}{cs:List AV}:AV.fz m z ks (.fp cs o)=.fp cs o:=ID rfl
theorem bme{nm o:Nat}:AV.fz m z ks (.pt nm o)=if nm=m then .fp ks o else .pt nm o:=by
 by_cases h:nm=m
 ·subst h;simp[AV.fz,Nat.beq_refl]
 ·simp[AV.fz,ag7 h,h]
theorem bmd{nm o n:Nat}:AV.fz m z ks (.rf nm o n)=if nm=m then .sl n (cut ks o (n*z))else .rf nm o n:=by
 by_cases h:nm=m
 ·subst h;simp[AV.fz,Nat.beq_refl]
 ·simp[AV.fz,ag7 h,h]
theorem bmh{cs:List AV}:AV.fz m z ks (.ag cs)=.ag (fzL m z ks cs):=ID rfl
theorem bmb{cs:List AV}:AV.fz m z ks (.tu cs)=.tu (fzL m z ks cs):=ID rfl
theorem bmg{f:Nat}{cs:List AV}:AV.fz m z ks (.fn f cs)=.fn f (fzL m z ks cs):=ID rfl
theorem aUp:fzL m z ks []=[]:=ID rfl
theorem aJ8{a:AV}{r:List AV}:fzL m z ks (a::r)=a.fz m z ks::fzL m z ks r:=ID rfl
theorem aWy{y:Nat}{cs:List AV}:Ob.fz m z ks (.own y cs)=.own y (fzL m z ks cs):=ID rfl
theorem aJ7{xs:List Int}:fzL m z ks (qg xs)=qg xs:=by simp[yr,qg,AV.fz]
end
section
variable {h:Nat→Ob}{ix:Nat→Option Nat}{k:Nat}
theorem aXQ{f:Nat}{cs:List AV}:snp h ix (k+1) (.fn f cs)=.fn f (cs.map (snp h ix k)):=ID rfl
theorem aXR{cs:List AV}:snp h ix (k+1) (.ag cs)=.ag (cs.map (snp h ix k)):=ID rfl
theorem aXP{o:Nat}{cs:List AV}:snp h ix (k+1) (.fp cs o)=.fp cs o:=ID rfl
end
attribute [go_sem] aXQ aXR aXP
attribute [go_sem] bma brm bmc bmf bme bmd bmh bmb bmg aUp aJ8 aWy aJ7
end Go.Ab
namespace Go.Ab
open Go
section
variable {P:Program}
theorem JR{L:Nat→Option Blk→Prop}{w0:World}{R0:Nat→Prop}{N:Nat}{ops:Array Oper}{K:St→Prop}{Q':Exit→Act→World→Prop}{rest:List Nat}(hQ:∀σ a w,In L w0 R0 N σ a w→K σ→wpOps P ops Q' rest a w):
  ∀(r:List Oper) (k:Nat),(∀j,j<r.length→ops[k+j]? =r[j]?)→∀{e h a w},In L w0 R0 N ⟨e,h⟩ a w→ChF P N ops.toList K r e h→wpOps P ops Q' (List.range' k r.length++rest) a w
 | [],k,hk,e,h,a,w,hi,hs=>by
  simp only[List.length_nil,List.range'_zero,List.nil_append]
  exact hQ _ _ _ hi hs
 |⟨d,op,ty,pos,af,g⟩::r,k,hk,e,h,a,w,hi,hs=>by
  have ho:ops[k]? =some ⟨d,op,ty,pos,af,g⟩:=by
   have:=hk 0 (by simp)
   simpa using this
  have hr:∀j,j<r.length→ops[k+1+j]? =r[j]? :=fun j hj=>by
   have:=hk (j+1) (by simpa using hj)
   rw[show k+1+j=k+(j+1) by omega,this];simp
  have hd:dOk N d:=by cases g<;>exact hs.1
  simp only[List.length_cons,List.range'_succ,List.cons_append,wpOps,ho]
  have run:@Op1 P ⟨d⟩ ⟨op⟩ ⟨fun v hp=>ChF P N ops.toList K r (QW e d v) hp⟩ e h→Oper.wp P ⟨d,op,ty,pos,af,g⟩ a w (wpOps P ops Q' (List.range' (k+1) r.length++rest)) Q':=fun hs=>by
   obtain⟨R,ι,hR,hinv⟩:=hi.inv
   refine aiR hinv (Op1.sound hs ty pos af g) fun x w' R' ι' av hp' hR' hK hx hm hi'=>?_
   exact JR hQ r (k+1) hr (hi.put (o:=⟨d,op,ty,pos,af,g⟩) hd hR hR' hx hm hi') hK
  have skip:ChF P N ops.toList K r (QW e d (.v (.tuple ⟨[]⟩))) h→wpOps P ops Q' (List.range' (k+1) r.length++rest) (a.put d undef) w:=fun hs=>by
   obtain⟨R,ι,hR,hinv⟩:=hi.inv
   exact JR hQ r (k+1) hr (hi.put (o:=⟨d,op,ty,pos,af,g⟩) hd hR (fun _ h=>.inl h) (.fr _ _ (.v _)) (by simp[AV.All]) hinv) hs
  cases g with
  |none=>
   rw[if_pos (by simp[Region.wanted])]
   exact .inl (run hs.2)
  |some p=>
   obtain⟨j,want⟩:=p
   have h2:=hs.2
   unfold acM at h2
   dsimp only at h2
   split at h2
   ·rename_i d' hd'
    have key:∀v c,e d'=.v v→(match v with| .bool b=>some b|_=>none)=c→yielded ops a.tmps j=c:=by
     intro v c hv hc
     obtain⟨R,ι,hR,hinv⟩:=hi.inv
     have:=hinv.env d'
     change Rep _ _ _ _ (e d')at this
     rw[hv]at this
     have:=this.v_inv
     unfold yielded
     rw[Array.getElem?_toList]at hd'
     rw[hd']
     rw[Array.getD_eq_getD_getElem?]at this
     cases ee:a.tmps[d']? with
     |none=>
      rw[ee]at this
      subst hc
      have:v=undef:=this.symm
      subst this;simp[ee,undef]
     |some y=>rw[ee]at this;simp at this;subst this;subst hc;simp only[Option.bind_some,ee];cases y<;>rfl
    unfold YX at h2
    split at h2
    ·rename_i b hb
     have hy:=key _ _ hb rfl
     have hw:Region.wanted ⟨d,op,ty,pos,af,some (j,want)⟩ (yielded ops a.tmps)=(b==want):=by
      simp only[Region.wanted,hy]
      cases b<;>cases want<;>rfl
     rw[hw]
     cases hbw:b==want with
     |true=>rw[if_pos rfl];exact .inl (run (h2.1 hbw))
     |false=>rw[if_neg (by simp)];exact skip (h2.2 hbw)
    ·rename_i hb
     have hy:=key _ _ hb rfl
     have hw:Region.wanted ⟨d,op,ty,pos,af,some (j,want)⟩ (yielded ops a.tmps)=false:=by
      simp only[Region.wanted,hy]
      cases want<;>rfl
     rw[hw,if_neg (by simp)]
     exact skip (h2.2 rfl)
    ·exact h2.elim
   ·exact h2.elim
end
end Go.Ab
namespace Go.Ab
open Go
section
variable {P:Program}{f:FuncId}{args:List AV}{bs:List Ob}{post:AV→List Ob→List Ob→Prop}
end
end Go.Ab
namespace Go.Ab
open Go
structure IvV where
 lo:DyV
 hi:DyV
def IvV.cs(x:IvV):List AV:=x.lo.cs++x.hi.cs
def dy0:DyV:=⟨false,[],0⟩
def iv0:IvV:=⟨dy0,dy0⟩
theorem aNu(x:IvV):x.cs.length=6:=rfl
theorem aNt{ρ:Nat→Nat}(x:IvV):zx ρ x.cs=x.cs:=rfl
theorem avF{hp:Nat→Ob}{k:Nat}(x:IvV):x.cs.map (qK hp (k+1))=x.cs:=rfl
theorem aNv{p:Nat→Prop}(x:IvV):AllL p x.cs:=by simp[IvV.cs,DyV.cs,AllL,AV.All]
theorem aT8{l:List IvV}:(ql IvV.cs l).length=l.length*6:=yd aNu
theorem aT7{ρ:Nat→Nat}{l:List IvV}:zx ρ (ql IvV.cs l)=ql IvV.cs l:=ZQ aNt
theorem aJY{hp:Nat→Ob}{k:Nat}{l:List IvV}:(ql IvV.cs l).map (qK hp (k+1))=ql IvV.cs l:=Zh avF
theorem aT9{p:Nat→Prop}{l:List IvV}:AllL p (ql IvV.cs l)=True:=eq_true (ZR aNv)
theorem aJZ{p:Nat→Prop}{x:IvV}:AllL p x.cs=True:=eq_true (aNv x)
attribute [go_sem] aT8 aT7 aJY aT9 aJZ aNt avF
end Go.Ab
namespace Go.Ab
open Go
def z3:List AV:=[.v (.bool false),.v (.slice none 0 0),.v (.int .i64 0)]
def z6:List AV:=[.v (.bool false),.v (.slice none 0 0),.v (.int .i64 0),.v (.bool false),.v (.slice none 0 0),.v (.int .i64 0)]
section
variable {X:Type}{f:X→List AV}{z:Nat}{n:Nat}{zs:List AV}{ρ:Nat→Nat}{p:Nat→Prop}
theorem aih(h:zx ρ zs=zs):zx ρ (zG n zs)=zG n zs:=by
 unfold zG
 induction n with
 |zero=>rfl
 |succ n ih=>
  rw[List.replicate_succ,List.flatten_cons]
  have:∀a b:List AV,zx ρ (a++b)=zx ρ a++zx ρ b:=fun a b=>by simp[qZ]
  rw[this,h,ih]
theorem aii(h:AllL p zs):AllL p (zG n zs):=by
 unfold zG
 induction n with
 |zero=>simp[AllL]
 |succ n ih=>rw[List.replicate_succ,List.flatten_cons];exact AllL.append h ih
theorem adJ:∀(ks a b:List AV) (o:Nat),o+ks.length≤a.length→wr (a++b) o ks=wr a o ks++b
 | [],a,b,o,_=>by simp[wr]
 |k::r,a,b,o,h=>by
  simp only[List.length_cons]at h
  rw[wr,wr,List.set_append_left _ _ (by omega),adJ r]
  rw[List.length_set];omega
theorem X9(hz:∀x,(f x).length=z)(hs:zs.length=z){L:List X}{k:Nat}(x:X):wr (ql f L++zG (k+1) zs) (L.length*z) (f x)=ql f (L++[x])++zG k zs:=by
 unfold zG
 rw[List.replicate_succ,List.flatten_cons,←List.append_assoc]
 have h1:(ql f L++zs).length=(ql f L).length+z:=by simp[hs]
 have h2:=JS (ql f L) zs (f x) (by rw[hz,hs])
 rw[yd hz]at h2
 rw[adJ _ _ _ _ (by rw[h1,yd hz,hz];exact Nat.le_refl _),h2,←jj,qQ,ji,List.append_nil]
theorem apl:zx ρ (zG n z3)=zG n z3:=aih rfl
theorem apn:AllL p (zG n z3)=True:=eq_true (aii (by simp[z3,AllL,AV.All]))
theorem apm:(zG n z3).length=n*3:=zJ n z3
theorem aL2:zx ρ (zG n z6)=zG n z6:=aih rfl
theorem aL3:AllL p (zG n z6)=True:=eq_true (aii (by simp[z6,AllL,AV.All]))
theorem Jc:(zG n z6).length=n*6:=zJ n z6
theorem Q8:zG 0 zs=[]:=by simp[zG]
theorem aKW{L:List ExV}{k:Nat}{x:ExV}:wr (ql ExV.cs L++zG (k+1) z3) (L.length*3) [.v (.bool x.s),.sl (lim x.m).length (qg (lim x.m)),.v (.int .i64 x.e)]=ql ExV.cs (L++[x])++zG k z3:=X9 acZ rfl x
theorem yS{a b:List AV}:zx ρ (a++b)=zx ρ a++zx ρ b:=by simp[qZ]
theorem ajv{a b:List AV}:AllL p (a++b)=(AllL p a∧AllL p b):=propext ⟨fun h=>by
 induction a with
 |nil=>exact⟨by simp[AllL],h⟩
 |cons x r ih=>exact⟨⟨h.1,(ih h.2).1⟩,(ih h.2).2⟩,fun h=>AllL.append h.1 h.2⟩
end
attribute [go_sem] apl apn apm aL2 aL3 Jc yS ajv
end Go.Ab
namespace Go.Ab
open Go
section
variable {X:Type}{f:X→List AV}{z:Nat}
theorem aSm(hz:∀x,(f x).length=z){y:X}{L:List X}{i:Nat}(hi:i<L.length):wr (ql f L) (i*z) (f y)=ql f (L.set i y):=by
 have e:L=L.take i++[L[i]]++L.drop (i+1):=by
  rw[List.append_assoc,List.singleton_append,List.getElem_cons_drop,List.take_append_drop]
 have h1:(ql f (L.take i)).length=i*z:=by rw[yd hz,List.length_take,Nat.min_eq_left (by omega)]
 have h2:ql f L=ql f (L.take i)++f L[i]++ql f (L.drop (i+1)):=by
  conv=>lhs;rw[e]
  rw[←jj,←jj,qQ,ji,List.append_nil]
 rw[h2,adJ _ _ _ _ (by rw[List.length_append,h1,hz,hz];omega),←h1,JS _ _ _ (by rw[hz,hz]),List.set_eq_take_append_cons_drop,if_pos hi,←jj,qQ,List.append_assoc]
end
theorem awk{l:List DyV}{i:Nat}(hi:i<l.length):cut (ql DyV.cs l) (i*3) 3=[.v (.bool (l.getD i dy0).s),.sl (l.getD i dy0).xs.length (qg (l.getD i dy0).xs),.v (.int .i64 (l.getD i dy0).e)]:=Qn (l:=l) Xz hi dy0
end Go.Ab
namespace Go.Ab
open Go
section
variable {σ:St}
end
end Go.Ab
namespace Go.Ab
open Go
theorem yN{L:List SpV}{k:Nat}{x:SpV}:wr (ql SpV.cs L++zG (k+1) z6) (L.length*6) [.v (.bool x.lo.s),.sl (lim x.lo.m).length (qg (lim x.lo.m)),.v (.int .i64 x.lo.e),.v (.bool x.hi.s),.sl (lim x.hi.m).length (qg (lim x.hi.m)),.v (.int .i64 x.hi.e)]=ql SpV.cs (L++[x])++zG k z6:=X9 aui rfl x
theorem auf{L:List SpV}{i:Nat}(hi:i<L.length):ql SpV.cs L=(ql SpV.cs (L.take i)++(L.getD i sp0).lo.cs)++(L.getD i sp0).hi.cs++ql SpV.cs (L.drop (i+1))∧(ql SpV.cs (L.take i)++(L.getD i sp0).lo.cs).length=i*6+3:=by
 have e:L=L.take i++[L.getD i sp0]++L.drop (i+1):=by
  rw[List.getD_eq_getElem?_getD,List.getElem?_eq_getElem hi,Option.getD_some,List.append_assoc,List.singleton_append,List.getElem_cons_drop,List.take_append_drop]
 constructor
 ·conv=>lhs;rw[e]
  rw[←jj,←jj,qQ,ji,List.append_nil]
  show _++((L.getD i sp0).lo.cs++(L.getD i sp0).hi.cs)++_=_
  rw[←List.append_assoc]
 ·rw[List.length_append,yc,List.length_take,Nat.min_eq_left (by omega),acZ]
theorem aix{L:List SpV}{i:Nat}(hi:i<L.length):cut (ql SpV.cs L) (i*6+3) 3=[.v (.bool (L.getD i sp0).hi.s),.sl (lim (L.getD i sp0).hi.m).length (qg (lim (L.getD i sp0).hi.m)),.v (.int .i64 (L.getD i sp0).hi.e)]:=by
 obtain⟨h1,h2⟩:=auf hi
 rw[h1,←h2]
 unfold cut
 rw[List.append_assoc,List.drop_left',List.take_left' (acZ _)]
 ·rfl
 ·rfl
end Go.Ab
namespace Go.Ab
open Go
section
variable {P:Program}{N:Nat}{Q:Exit→St→Prop}{σ:St}
end
end Go.Ab
namespace Go.Ab
open Go
/-! ### Rows of which some cells groups are still nought-/
def ocs:Option ExV→List AV
 |none=>z3
 |some x=>x.cs
theorem aZb:∀x,(ocs x).length=3:=fun x=>by cases x<;>rfl
theorem aTr{ρ:Nat→Nat}{l:List (Option ExV)}:zx ρ (ql ocs l)=ql ocs l:=ZQ fun x=>by
 cases x with
 |none=>exact ID rfl
 |some x=>exact awb x
theorem aTs{p:Nat→Prop}{l:List (Option ExV)}:AllL p (ql ocs l)=True:=eq_true (ZR fun x=>by
 cases x with
 |none=>simp[ocs,z3,AllL,AV.All]
 |some x=>exact awc x)
theorem auV{l:List (Option ExV)}:(ql ocs l).length=l.length*3:=yd aZb
theorem aJl{k:Nat}:zG k z3=ql ocs (List.replicate k none):=by
 unfold ql zG
 rw[List.map_replicate];rfl
theorem aTq{l:List (Option ExV)}{i:Nat}{x:ExV}(hi:i<l.length):wr (ql ocs l) (i*3) [.v (.bool x.s),.sl (lim x.m).length (qg (lim x.m)),.v (.int .i64 x.e)]=ql ocs (l.set i (some x)):=aSm aZb (y:=some x) hi
theorem aJm{hp:Nat→Ob}{k:Nat}{l:List (Option ExV)}:(ql ocs l).map (qK hp (k+1))=ql ExV.cs (l.map fun o=>o.getD ex0):=by
 induction l with
 |nil=>rfl
 |cons o l ih=>
  rw[qQ,List.map_append,ih,List.map_cons,qQ]
  congr 1
  cases o with
  |none=>simp[ocs,z3,qK,ExV.cs,ex0,qz,qg]
  |some x=>
   have:=aje (hp:=hp) (k:=k) (l:=[x])
   rw[qQ,ji,List.append_nil]at this
   exact this
attribute [go_sem] aTr aTs auV
end Go.Ab
namespace Go.Ab
open Go
/-! ### A call that lends what its arguments name deep within-/
def ajq(P:Program)(f:FuncId)(aa0:List AV)(hp:Nat→Ob)(nm0:Nat)(K:AV→(Nat→Ob)→Prop):Prop:=
 ∃cl nms post,Con P f cl (aa0.map (snp (hpx cl nms hp) (idx nms) 6)) (nms.map fun n=>(hp n).ren (back nms)) post∧nms.Nodup∧acE hp nms∧
  ∀r hs bs',post r hs bs'→hs.length≤10000000∧qL hp nm0 hs∧(cl=true→nms=[]∨∀ob∈bs',ob.plain)∧
   K (r.ren (rho nm0 nms)) (QT (V7 (rho nm0 nms) hp nm0 hs) nms (bs'.map (Ob.ren (rho nm0 nms))))
section
variable {P:Program}{L:Nat→Option Blk→Prop}{w0 w:World}{R:Nat→Prop}{ι:Nat→Option Blk}{tm:Array Value}{σ:St}{K:AV→(Nat→Ob)→Prop}
theorem axn{f:FuncId}{aa0:List AV}{nm0:Nat}{vs:Array Value}(h:Inv L w0 R ι w tm σ)(hv:RepA R ι w vs aa0)(hs:ajq P f aa0 σ.hp nm0 K):
  Calls P f vs w fun e w'=>∃x R' ι' av hp',e=.returned x∧(∀b,R' b→R b∨w.heap.size≤b)∧K av hp'∧Rep R' ι' w' x av∧av.All (fun m=>hp' m≠ .free)∧Inv L w0 R' ι' w' tm ⟨σ.env,hp'⟩:=by
 obtain⟨cl,nms,post,hc,hnd,hl,hpost⟩:=hs
 let R₁:Nat→Prop:=fun b=>R b∨apj (hpx cl nms σ.hp) ι b
 let ι₁:Nat→Option Blk:=fun m=>if 10000000≤m then(nms[m-10000000]?).bind ι else none
 have hHx:=h.hp.hpx cl nms
 have hι₁:∀i (hi:i<nms.length),ι₁ (10000000+i)=ι nms[i]:=fun i hi=>by
  show(if 10000000≤10000000+i then _ else _)=_
  rw[if_pos (by omega),show 10000000+i-10000000=i by omega,List.getElem?_eq_getElem hi];rfl
 have hbk:∀m,(idx nms m).isSome=true→∃i,∃hi:i<nms.length,nms[i]=m∧back nms m=10000000+i:=by
  intro m hm
  obtain⟨i,e⟩:=Option.isSome_iff_exists.1 hm
  obtain⟨hi,e2⟩:=yZ e
  exact⟨i,hi,e2,by simp[back,e]⟩
 have hxe:∀{m z cs},hpx cl nms σ.hp m=.own z cs→σ.hp m=.own z cs∧cl=true∧idx nms m=none:=by
  intro m z cs e
  unfold hpx at e
  cases cl with
  |false=>cases e
  |true=>
   simp only[cond_true]at e
   split at e
   ·cases e
   ·rename_i hi;exact⟨e,rfl,by simpa using hi⟩
 generalize hbs:nms.map (fun n=>(σ.hp n).ren (back nms))=bs at hc
 have hblen:bs.length=nms.length:=by rw[←hbs];simp
 have hbget:∀i (hi:i<nms.length),bhp bs (10000000+i)=(σ.hp nms[i]).ren (back nms):=fun i hi=>by
  simp only[bhp]
  rw[if_pos (by omega),show 10000000+i-10000000=i by omega,←hbs,List.getD_eq_getElem?_getD,List.getElem?_map,List.getElem?_eq_getElem hi];rfl
 have hbown:∀{m z cs},bhp bs m=.own z cs→∃i,∃hi:i<nms.length,m=10000000+i∧∃cs0,σ.hp nms[i]=.own z cs0∧cs=zx (back nms) cs0∧AllL (fun m=>(idx nms m).isSome=true) cs0:=by
  intro m z cs e
  have h5:10000000≤m:=by
   rcases Nat.lt_or_ge m 10000000 with h|h
   ·simp[bhp,show ¬10000000≤m by omega]at e
   ·exact h
  obtain⟨i,rfl⟩:∃i,m=10000000+i:=⟨m-10000000,by omega⟩
  have hi:i<nms.length:=by
   rcases Nat.lt_or_ge i nms.length with h|h
   ·exact h
   ·simp only[bhp]at e
    rw[if_pos h5,show 10000000+i-10000000=i by omega,List.getD_eq_getElem?_getD,List.getElem?_eq_none (by omega)]at e
    cases e
  rw[hbget i hi]at e
  obtain⟨z',cs0,eo,ha⟩:=hl _ (List.getElem_mem hi)
  rw[eo]at e
  simp only[Ob.ren]at e
  injection e with e1 e2
  subst e1
  exact⟨i,hi,rfl,cs0,eo,e2.symm,ha⟩
 have hbne:∀i,i<nms.length→bhp bs (10000000+i)≠ .free:=fun i hi=>by
  rw[hbget i hi]
  obtain⟨z',cs0,eo,ha⟩:=hl _ (List.getElem_mem hi)
  rw[eo];simp[Ob.ren]
 have hR₁lt:∀b,R₁ b→b<w.heap.size:=fun b hb=>by
  rcases hb with hb|⟨m,z,cs,B,e,hB,rfl⟩
  ·exact h.rlt b hb
  ·exact h.block_lt (hxe e).1 hB
 have hnR₁:∀i (hi:i<nms.length) B,ι nms[i]=some B→¬R₁ B.b:=fun i hi B hB hr=>by
  obtain⟨z',cs0,eo,ha⟩:=hl _ (List.getElem_mem hi)
  rcases hr with hr|⟨m,z,cs,B',e,hB',eb⟩
  ·exact h.hp.nR _ _ _ _ eo hB hr
  ·have:=h.hp.inj _ _ _ _ _ _ _ _ (hxe e).1 eo hB' hB eb
   subst this
   have:=(hxe e).2.2
   rw[y3 hnd i hi]at this;cases this
 have hHp:HpOk R₁ ι₁ w (bhp bs):=by
  refine⟨fun m=>?_,fun m z cs B e hB=>?_,fun m m' z z' cs cs' B B' e e' hB hB' hbb=>?_,fun m z cs e=>?_⟩
  ·cases e:bhp bs m with
   |free=>trivial
   |dead=>trivial
   |own z cs=>
    obtain⟨i,hi,rfl,cs0,eo,rfl,ha⟩:=hbown e
    rw[hι₁ i hi]
    have hok:=h.hp.ok nms[i]
    rw[eo]at hok
    have h1:OOk R₁ ι w (ι nms[i]) (.own z cs0):=hok.mono (fun _ _=>rfl) (fun _ _ _ _ _=>rfl) (fun _ h=>.inl h) (fun _ _ _=>AllL.of_mem fun a _=>AV.all_true (fun _=>rfl) a)
    refine h1.ren (ρ:=back nms) fun z' cs' e'=>?_
    cases e'
    refine ha.mono fun m hm=>?_
    obtain⟨j,hj,e1,e2⟩:=hbk m hm
    rw[e2,hι₁ j hj,e1]
  ·obtain⟨i,hi,rfl,cs0,eo,rfl,ha⟩:=hbown e
   rw[hι₁ i hi]at hB
   exact hnR₁ i hi B hB
  ·obtain⟨i,hi,rfl,cs0,eo,rfl,ha⟩:=hbown e
   obtain⟨j,hj,rfl,cs0',eo',rfl,ha'⟩:=hbown e'
   rw[hι₁ i hi]at hB
   rw[hι₁ j hj]at hB'
   have:=h.hp.inj _ _ _ _ _ _ _ _ eo eo' hB hB' hbb
   have h1:=y3 hnd i hi
   rw[this,y3 hnd j hj]at h1
   cases h1;rfl
  ·obtain⟨i,hi,rfl,cs0,eo,rfl,ha⟩:=hbown e
   refine ha.ren fun m hm=>?_
   obtain⟨j,hj,e1,e2⟩:=hbk m hm
   rw[e2];exact hbne j hj
 have hrho:∀m i,idx nms m=some i→ι₁ (10000000+i)=ι m:=fun m i e=>by
  obtain⟨hi,e2⟩:=yZ e
  rw[hι₁ i hi,e2]
 have hargs:RepA R₁ ι₁ w vs (aa0.map (snp (hpx cl nms σ.hp) (idx nms) 6)):=
  hv.all fun hx=>agR hHx (fun _ h=>.inl h) (fun _ h=>.inr h) hrho 6 hx
 have hall:AllL (fun m=>bhp bs m≠ .free) (aa0.map (snp (hpx cl nms σ.hp) (idx nms) 6)):=AllL.of_mem fun a ha=>by
  obtain⟨b,_,rfl⟩:=List.mem_map.1 ha
  refine agS (fun m i e=>?_) 6 b
  obtain⟨hi,e2⟩:=yZ e
  exact hbne i hi
 have hGd:GdL (apj (bhp bs) ι₁) w:=by
  refine⟨h.gdw,fun g l hg ho=>?_⟩
  obtain⟨m,z,cs,B,e,hB,eb⟩:=ho
  obtain⟨i,hi,rfl,cs0,eo,rfl,ha⟩:=hbown e
  rw[hι₁ i hi]at hB
  exact h.gno eo hB g l hg eb
 refine(hc R₁ ι₁ w vs hR₁lt hargs hall hHp hGd).mono ?_
 rintro e w' ⟨x,r,hs,bs',R',ι',rfl,hp,hF⟩
 obtain⟨hN16,hfree,hpl,hK⟩:=hpost r hs bs' hp
 have hN:hs.length≤10000000:=by omega
 have hlen:bs'.length=nms.length:=hF.len.trans hblen
 have hnew:∀b,R' b→w.heap.size≤b∨R b:=fun b hb=>by
  rcases hF.rnew b hb with h1|⟨hcl,h1|⟨m,z,cs,B,e,_⟩⟩
  ·exact .inl h1
  ·exact .inr h1
  ·have:=(hxe e).2.1;rw[hcl]at this;cases this
 have hext:Ext (fun b=>∃n∈nms,∃B,ι n=some B∧B.b=b) w w':=⟨hF.ext.os,hF.ext.tape,hF.ext.output,hF.ext.size,fun b hb hn=>hF.ext.block b hb fun⟨m,z,cs,B,e,hB,eb⟩=>by
  obtain⟨i,hi,rfl,cs0,eo,rfl,ha⟩:=hbown e
  rw[hι₁ i hi]at hB
  exact hn ⟨_,List.getElem_mem hi,B,hB,eb⟩⟩
 have hok:∀m,10000000≤m→OOk (fun b=>R b∨R' b) ι' w' (ι' m) (rhp hs bs' m):=by
  intro m h5
  have h1:=hF.okB m h5
  cases cl with
  |false=>
   refine OOk.mono h1 (fun _ _=>rfl) (fun _ _ _ _ _=>rfl) (fun b hb=>?_) (fun _ _ _=>AllL.of_mem fun a _=>AV.all_true (fun _=>rfl) a)
   rcases hb with(hb|⟨m,z,cs,B,e,_⟩)|hb
   ·exact .inl hb
   ·have:=(hxe e).2.1;cases this
   ·exact .inr hb
  |true=>
   refine h1.plain ?_
   rcases hpl rfl with h2|h2
   ·subst h2
    have:bs'=[]:=List.length_eq_zero_iff.1 (by simpa using hlen)
    subst this
    simp[rhp,h5,Ob.plain]
   ·simp only[rhp,if_pos h5,List.getD_eq_getElem?_getD]
    cases e:bs'[m-10000000]? with
    |none=>simp[Ob.plain]
    |some ob=>simpa using h2 ob (List.mem_of_getElem? e)
 have hnR:∀m z cs B,rhp hs bs' m=.own z cs→ι' m=some B→¬(R B.b∨R' B.b):=fun m z cs B e hB hr=>hF.nR m z cs B e hB (hr.imp .inl id)
 have hlive:∀n∈nms,∃z cs,σ.hp n=.own z cs:=fun n hn=>let ⟨z,cs,e,_⟩:=hl n hn;⟨z,cs,e⟩
 obtain⟨ι₂,hi,hr,ha⟩:=XU (nm0:=nm0) h hnd hlive hext hF.rlt hnew hF.rep hF.all hF.okF hok hnR hF.inj hF.men hF.fresh hlen hN
  (fun i hi=>by rw[hF.bown _ (by omega),hι₁ i hi]) hF.bnf hfree
 exact⟨x,fun b=>R b∨R' b,ι₂,_,_,rfl,fun b hb=>hb.elim .inl fun hb=>(hnew b hb).elim .inr .inl,hK,hr,ha,hi⟩
end
section
variable {P:Program}{L:Nat→Option Blk→Prop}{w0 w:World}{R:Nat→Prop}{ι:Nat→Option Blk}{a:Act}{σ:St}{K:AV→(Nat→Ob)→Prop}
 {next:Act→World→Prop} {Q:Exit→Act→World→Prop}
theorem aTi{o:Oper}{c}{x:Operand}{f:FuncId}(ho:o.op=.call c)(hc:c.callee=.value x)(e:σ.ev x=.fn f [])(hfn:qt P f)(h:Inv L w0 R ι w a.tmps σ)(hs:ajq P f (c.args.toList.map σ.ev) σ.hp (crn o) K)
  (hnext:∀x w' R' ι' av hp',(∀b,R' b→R b∨w.heap.size≤b)→K av hp'→Rep R' ι' w' x av→av.All (fun m=>hp' m≠ .free)→Inv L w0 R' ι' w' a.tmps ⟨σ.env,hp'⟩→next (a.put o.dst x) w'):
  o.wp P a w next Q:=by
 unfold Oper.wp
 have hv:=aiN h c.args
 obtain⟨fn,hf,hn,hb⟩:=hfn
 have hx:=h.ev x
 rw[e]at hx
 obtain⟨vs,hx,h1,h2⟩:=hx.fn_inv
 have hvs:RepA R ι w vs []:=⟨h1,h2⟩
 have hv2:=hv.append hvs
 rw[List.append_nil]at hv2
 have hcl:=axn (nm0:=crn o) h hv2 hs
 have hbn:fn.body.isNone=false:=by cases hq:fn.body<;>simp_all
 have hnn:(fn.name== "runtime.NumGoroutine")=false:=by simpa using hn
 have hrun:(execOp a.eval o).run P w=.ok (.enter f (c.args.map a.eval++vs)) w:=by
  simp only[execOp,ho,resolve,hc,hx,Deferred.ofValue,Sem.run_bind,Sem.run_pure,Result.andThen,invoke,Array.empty_append]
  exact Jp hf hnn hbn _
 rw[hrun,Oper.upon_enter]
 refine hcl.mono ?_
 rintro e w' ⟨x,R',ι',av,hp',rfl,h3,h4,h5,h6,h7⟩
 exact hnext x w' R' ι' av hp' h3 h4 h5 h6 h7
end
end Go.Ab
namespace Go.Ab
open Go Go.Proofs
/-! ### Copies of one's own-/
theorem ahD(xs:List Int)(hl:xs.length≤2000000):Con Tryz.prog 296 false [.sl xs.length (qg xs)] [] (fun r hs bs=>r=.rf 0 0 xs.length∧hs=[.own 1 (qg xs)]):=by
 refine Con.of_aw Tryz.func296 rfl Tryz.ntmps296 (by simp) (by simp) (by simp) (W.sound ?_)
 show @W Tryz.prog 22 ⟨_⟩ ⟨fun x σ=>@zl _ _ _ ⟨_⟩ _ ⟨_⟩ x σ⟩ _ _
 simp(disch:=omega)only[go_sem]
 refine⟨⟨by omega,by omega,by omega⟩,?_⟩
 refine qj (fun i:Nat=>[(0,.sl xs.length (qg xs)),(3,.rf 90000000 0 xs.length),(4,.v (.int .i64 i))]) (fun i=>[(90000000,.own 1 (qg (xs.take i++List.replicate (xs.length-i) 0)))]) (fun i=>i≤xs.length) (fun i=>xs.length-i) 0 (by omega)
  (Le.lst [] _ _ rfl (by simp(disch:=omega)only[go_sem];try omega) (by simp(disch:=omega)only[go_sem,Ka,List.take_zero,List.nil_append,Nat.sub_zero])) ?_
 intro i hi
 simp(disch:=omega)only[go_sem]
 refine qi (fun h1=>?_) (fun h1=>?_)
 ·simp(disch:=omega)only[go_sem,h1]
  have el:(xs.take i++List.replicate (xs.length-i) 0).length=xs.length:=by rw[List.length_append,List.length_take,List.length_replicate];omega
  refine⟨by omega,by omega,by omega,by omega,qe (i+1) [] (by show i+1≤_;omega) (by show xs.length-(i+1)<xs.length-i;omega) rfl (by simp(disch:=omega)only[go_sem];try omega) (by simp(disch:=omega)only[go_sem,aiC (by omega:i<xs.length)])⟩
 ·have:i=xs.length:=by omega
  subst this
  simp(disch:=omega)only[go_sem,h1]
  refine qm [(0,90000000)] [.own 1 (qg xs)] [] [.rf 0 0 xs.length] rfl (by simp(disch:=omega)only[go_sem]) (by simp(disch:=omega)only[go_sem,List.take_length,Nat.sub_self,List.replicate_zero,List.append_nil]) (by simp) (by simp) ⟨rfl,rfl⟩
theorem aou(xs:List Int)(hl:xs.length≤2000000):Con Tryz.prog 253 false [.ag [.sl xs.length (qg xs)]] [] (fun r hs bs=>r=.ag [.rf 0 0 xs.length]∧hs=[.own 1 (qg xs)]):=by
 refine Con.of_aw Tryz.func253 rfl Tryz.ntmps253 (by simp) (by simp) (by simp) (W.sound ?_)
 show @W Tryz.prog 9 ⟨_⟩ ⟨fun x σ=>@zl _ _ _ ⟨_⟩ _ ⟨_⟩ x σ⟩ _ _
 simp(disch:=omega)only[go_sem]
 refine qF (ahD xs hl) (by simp(disch:=omega)only[go_sem]) ?_
 rintro r hs ⟨rfl,rfl⟩
 refine⟨by simp[qL];simp(disch:=omega)only[go_sem],?_⟩
 simp(disch:=omega)only[go_sem]
 refine qm [(0,80000000)] [.own 1 (qg xs)] [] [.ag [.rf 0 0 xs.length]] rfl (by simp(disch:=omega)only[go_sem]) (by simp(disch:=omega)only[go_sem]) (by simp) (by simp) ⟨rfl,rfl⟩
theorem ac8(s:Bool)(xs:List Int)(hl:xs.length≤2000000):Con Tryz.prog 189 false [.ag [.v (.bool s),.sl xs.length (qg xs)]] [] (fun r hs bs=>r=.ag [.v (.bool s),.rf 0 0 xs.length]∧hs=[.own 1 (qg xs)]):=by
 refine Con.of_aw Tryz.func189 rfl Tryz.ntmps189 (by simp) (by simp) (by simp) (W.sound ?_)
 show @W Tryz.prog 12 ⟨_⟩ ⟨fun x σ=>@zl _ _ _ ⟨_⟩ _ ⟨_⟩ x σ⟩ _ _
 simp(disch:=omega)only[go_sem]
 refine qF (aou xs hl) (by simp(disch:=omega)only[go_sem]) ?_
 rintro r hs ⟨rfl,rfl⟩
 refine⟨by simp[qL];simp(disch:=omega)only[go_sem],?_⟩
 simp(disch:=omega)only[go_sem]
 refine qm [(0,110000000)] [.own 1 (qg xs)] [] [.ag [.v (.bool s),.rf 0 0 xs.length]] rfl (by simp(disch:=omega)only[go_sem]) (by simp(disch:=omega)only[go_sem]) (by simp) (by simp) ⟨rfl,rfl⟩
theorem aww(s:Bool)(xs:List Int)(e:Int)(hl:xs.length≤2000000):Con Tryz.prog 108 false [.ag [.v (.bool s),.sl xs.length (qg xs),.v (.int .i64 e)]] [] (fun r hs bs=>r=.ag [.v (.bool s),.rf 0 0 xs.length,.v (.int .i64 e)]∧hs=[.own 1 (qg xs)]):=by
 refine Con.of_aw Tryz.func108 rfl Tryz.ntmps108 (by simp) (by simp) (by simp) (W.sound ?_)
 show @W Tryz.prog 12 ⟨_⟩ ⟨fun x σ=>@zl _ _ _ ⟨_⟩ _ ⟨_⟩ x σ⟩ _ _
 simp(disch:=omega)only[go_sem]
 refine qF (ac8 s xs hl) (by simp(disch:=omega)only[go_sem]) ?_
 rintro r hs ⟨rfl,rfl⟩
 refine⟨by simp[qL];simp(disch:=omega)only[go_sem],?_⟩
 simp(disch:=omega)only[go_sem]
 refine qm [(0,80000000)] [.own 1 (qg xs)] [] [.ag [.v (.bool s),.rf 0 0 xs.length,.v (.int .i64 e)]] rfl (by simp(disch:=omega)only[go_sem]) (by simp(disch:=omega)only[go_sem]) (by simp) (by simp) ⟨rfl,rfl⟩
/-! ### Marks-/
def mkI(k n:Nat):List Int:=(List.range n).map fun i=>((k+i:Nat):Int)
theorem ZV(k n:Nat):(mkI k n).length=n:=by simp[mkI]
theorem aJM(k n:Nat):mkI k (n+1)=mkI k n++[((k+n:Nat):Int)]:=by simp[mkI,List.range_succ]
theorem aTV{k n i:Nat}(h:i<n):(mkI k n).getD i 0=((k+i:Nat):Int):=by
 simp[mkI,List.getD_eq_getElem?_getD,List.getElem?_range h]
theorem aTU{k i:Nat}{xs:List Int}(h:i<xs.length):(mkI k i++xs.drop i).set i ((k+i:Nat):Int)=mkI k (i+1)++xs.drop (i+1):=by
 have hl:=ZV k i
 rw[List.set_append_right _ _ (by omega),hl,Nat.sub_self,List.drop_eq_getElem_cons h,List.set_cons_zero,aJM]
 simp
theorem Jn(k n:Nat)(hn:n≤2^40)(hk:k≤2^40):Con Tryz.prog 89 true [.sl n (qg (mkI k n)),.v (.int .i64 k)] [] (isA (.v (.int .i64 ((k+n:Nat):Int)))):=by
 refine Con.of_w (rs:=[.tmp 4]) Tryz.func89 rfl Tryz.ntmps89 rfl ?_
 simp(disch:=omega)only[go_sem]
 refine qj (fun i:Nat=>[(0,.sl n (qg (mkI k n))),(1,.v (.int .i64 ((k+i:Nat):Int))),(5,.v (.int .i64 i))]) (fun _=>[]) (fun i=>i≤n) (fun i=>n-i) 0 (by omega)
  (Le.lst [] _ _ rfl (by simp(disch:=omega)only[go_sem,Nat.add_zero]) (by simp(disch:=omega)only[go_sem])) ?_
 intro i hi
 simp(disch:=omega)only[go_sem]
 refine qi (fun h1=>?_) (fun h1=>?_)
 ·have hg:=aTV (k:=k) (n:=n) (i:=i) (by omega)
  have hlen:=ZV k n
  simp(disch:=omega)only[go_sem,h1,hg]
  have e1:((k+i:Nat):Int)+1=((k+(i+1):Nat):Int):=by omega
  refine⟨⟨by omega,by omega⟩,by omega,qe (i+1) [] (by show i+1≤_;omega) (by show n-(i+1)<n-i;omega) rfl (by simp(disch:=omega)only[go_sem,e1];try omega) (by simp(disch:=omega)only[go_sem])⟩
 ·have:i=n:=by omega
  subst this
  simp(disch:=omega)only[go_sem,h1]
  exact qy
theorem QC(k:Nat)(xs:List Int)(hn:xs.length≤2^40)(hk:k≤2^40):Con Tryz.prog 88 false [.rf 10000000 0 xs.length,.v (.int .i64 k)] [.own 1 (qg xs)]
  (fun r hs bs=>r=.v (.int .i64 ((k+xs.length:Nat):Int))∧hs=[]∧bs=[.own 1 (qg (mkI k xs.length))]):=by
 refine Con.of_aw Tryz.func88 rfl Tryz.ntmps88 (by simp) (by simp) (by simp) (W.sound ?_)
 show @W Tryz.prog 19 ⟨_⟩ ⟨fun x σ=>@zl _ _ _ ⟨_⟩ _ ⟨_⟩ x σ⟩ _ _
 simp(disch:=omega)only[go_sem]
 refine qj (fun i:Nat=>[(0,.rf 10000000 0 xs.length),(1,.v (.int .i64 ((k+i:Nat):Int))),(5,.v (.int .i64 i))]) (fun i=>[(10000000,.own 1 (qg (mkI k i++xs.drop i)))]) (fun i=>i≤xs.length) (fun i=>xs.length-i) 0 (by omega)
  (Le.lst [] _ _ rfl (by simp(disch:=omega)only[go_sem,Nat.add_zero]) (by simp(disch:=omega)only[go_sem,List.drop_zero];try rfl)) ?_
 intro i hi
 simp(disch:=omega)only[go_sem]
 refine qi (fun h1=>?_) (fun h1=>?_)
 ·have hlen:(mkI k i++xs.drop i).length=xs.length:=by
   rw[List.length_append,ZV,List.length_drop];omega
  have hs:=aTU (k:=k) (i:=i) (xs:=xs) (by omega)
  have e1:((k+i:Nat):Int)+1=((k+(i+1):Nat):Int):=by omega
  simp(disch:=omega)only[go_sem,h1]
  refine⟨by omega,by omega,qe (i+1) [] (by show i+1≤_;omega) (by show xs.length-(i+1)<xs.length-i;omega) rfl (by simp(disch:=omega)only[go_sem,e1];try omega) (by simp(disch:=omega)only[go_sem,hs])⟩
 ·have:i=xs.length:=by omega
  subst this
  simp(disch:=omega)only[go_sem,h1]
  refine qm [] [] [.own 1 (qg (mkI k xs.length))] [.v (.int .i64 ((k+xs.length:Nat):Int))] rfl (by simp(disch:=omega)only[go_sem]) (by simp(disch:=omega)only[go_sem,List.drop_length,List.append_nil]) (by simp) (by simp) ⟨rfl,rfl,rfl⟩
end Go.Ab
namespace Go.Ab
open Go
section
variable {P:Program}{L:Nat→Option Blk→Prop}{w0 w:World}{R:Nat→Prop}{ι:Nat→Option Blk}{a:Act}{σ:St}{K:AV→(Nat→Ob)→Prop}
def aIy:Nat→Code→Code
 |k+1,.seq a b=>.seq a (aIy k b)
 |_,_=>.skip
def ahu:Nat→Code→Code
 |k+1,.seq _ b=>ahu k b
 |0,c=>c
 |k+1,c=>.seq .skip c
theorem acP{N:Nat}{Q:Exit→St→Prop}:∀(k:Nat) (c:Code) (σ:St),(∀j,j<k→∃a b,ahu j c=.seq a b)→WF P N (aIy k c) (ab5 (AW P N (ahu k c) Q) Q) σ→AW P N c Q σ
 |0,c,σ,_,h=>by
  cases c<;>exact h
 |k+1,.seq x y,σ,hh,h=>by
  have h:WF P N x (ab5 (WF P N (aIy k y) (ab5 (AW P N (ahu k y) Q) Q)) (ab5 (AW P N (ahu k y) Q) Q)) σ:=h
  refine AW.seq ((WF.sound x h).mono fun e σ' h'=>?_)
  cases e with
  |normal=>exact acP k y σ' (fun j hj=>hh (j+1) (by omega)) h'
  |_=>exact h'
 |k+1,.skip,σ,hh,h=>by obtain⟨a,b,e⟩:=hh 0 (by omega);cases e
 |k+1,.region _ _ _,σ,hh,h=>by obtain⟨a,b,e⟩:=hh 0 (by omega);cases e
 |k+1,.cond _ _ _,σ,hh,h=>by obtain⟨a,b,e⟩:=hh 0 (by omega);cases e
 |k+1,.block _ _,σ,hh,h=>by obtain⟨a,b,e⟩:=hh 0 (by omega);cases e
 |k+1,.loop _,σ,hh,h=>by obtain⟨a,b,e⟩:=hh 0 (by omega);cases e
 |k+1,.exit _,σ,hh,h=>by obtain⟨a,b,e⟩:=hh 0 (by omega);cases e
 |k+1,.ret,σ,hh,h=>by obtain⟨a,b,e⟩:=hh 0 (by omega);cases e
 |k+1,.rangeFunc _ _ _ _,σ,hh,h=>by obtain⟨a,b,e⟩:=hh 0 (by omega);cases e
 |k+1,.scope _,σ,hh,h=>by obtain⟨a,b,e⟩:=hh 0 (by omega);cases e
 |k+1,.label _,σ,hh,h=>by obtain⟨a,b,e⟩:=hh 0 (by omega);cases e
 |k+1,.goto _,σ,hh,h=>by obtain⟨a,b,e⟩:=hh 0 (by omega);cases e
 |k+1,.refuse _,σ,hh,h=>by obtain⟨a,b,e⟩:=hh 0 (by omega);cases e
def avG:Nat→Code→Bool
 |0,_=>true
 |k+1,.seq _ b=>avG k b
 |_+1,_=>false
theorem Xw:∀(k:Nat) (c:Code),avG k c=true→∀j,j<k→∃a b,ahu j c=.seq a b
 |k+1,.seq x y,h,0,_=>⟨x,y,rfl⟩
 |k+1,.seq x y,h,j+1,hj=>Xw k y h j (by omega)
theorem AW.front{N:Nat}{Q:Exit→St→Prop}{e:Nat→AV}{h:Nat→Ob}{c:Code}(k:Nat){pre suf:Code}(hq:avG k c=true)(hp:aIy k c=pre)(hs:ahu k c=suf)(hw:@W P N ⟨pre⟩ ⟨fun x σ=>@yq ⟨AW P N suf Q⟩ ⟨Q⟩ x σ⟩ e h):AW P N c Q ⟨e,h⟩:=by
 subst hp hs
 exact acP k c ⟨e,h⟩ (Xw k c hq) hw
theorem AW.front1{N:Nat}{Q:Exit→St→Prop}{e:Nat→AV}{h:Nat→Ob}{x0 y:Code}(hw:@W P N ⟨.seq x0 (.skip)⟩ ⟨fun x σ=>@yq ⟨AW P N y Q⟩ ⟨Q⟩ x σ⟩ e h):AW P N (.seq x0 (y)) Q ⟨e,h⟩:=AW.front 1 rfl rfl rfl hw
theorem AW.front2{N:Nat}{Q:Exit→St→Prop}{e:Nat→AV}{h:Nat→Ob}{x0 x1 y:Code}(hw:@W P N ⟨.seq x0 (.seq x1 (.skip))⟩ ⟨fun x σ=>@yq ⟨AW P N y Q⟩ ⟨Q⟩ x σ⟩ e h):AW P N (.seq x0 (.seq x1 (y))) Q ⟨e,h⟩:=AW.front 2 rfl rfl rfl hw
theorem AW.front3{N:Nat}{Q:Exit→St→Prop}{e:Nat→AV}{h:Nat→Ob}{x0 x1 x2 y:Code}(hw:@W P N ⟨.seq x0 (.seq x1 (.seq x2 (.skip)))⟩ ⟨fun x σ=>@yq ⟨AW P N y Q⟩ ⟨Q⟩ x σ⟩ e h):AW P N (.seq x0 (.seq x1 (.seq x2 (y)))) Q ⟨e,h⟩:=AW.front 3 rfl rfl rfl hw
theorem AW.front4{N:Nat}{Q:Exit→St→Prop}{e:Nat→AV}{h:Nat→Ob}{x0 x1 x2 x3 y:Code}(hw:@W P N ⟨.seq x0 (.seq x1 (.seq x2 (.seq x3 (.skip))))⟩ ⟨fun x σ=>@yq ⟨AW P N y Q⟩ ⟨Q⟩ x σ⟩ e h):AW P N (.seq x0 (.seq x1 (.seq x2 (.seq x3 (y))))) Q ⟨e,h⟩:=AW.front 4 rfl rfl rfl hw
end
end Go.Ab
namespace Go.Ab
open Go
/-! ### Families:objects in a row of names,as many as there are-/
def fam(b n:Nat)(F:Nat→Ob)(h:Nat→Ob)(m:Nat):Ob:=if b≤m∧m<b+n then F (m-b)else h m
theorem qw{b n m:Nat}{F h:Nat→Ob}(hm:m<b):fam b n F h m=h m:=if_neg (by omega)
theorem zf{b n m:Nat}{F h:Nat→Ob}(hm:b+n≤m):fam b n F h m=h m:=if_neg (by omega)
theorem qW{b n j:Nat}{F h:Nat→Ob}(hj:j<n):fam b n F h (b+j)=F j:=by
 unfold fam;rw[if_pos (by omega),Nat.add_sub_cancel_left]
section
variable {P:Program}{N:Nat}{Q:Exit→St→Prop}{σ:St}
theorem Le.gen(ρ:Nat→Nat)(e':Nat→AV)(h':Nat→Ob)
  (hE:∀s,e' s=.un∨((e' s).ren ρ=σ.env s∧(e' s).All (fun m=>h' m≠ .free)))
  (hH:∀m z cs,h' m=.own z cs→σ.hp (ρ m)=.own z (zx ρ cs)∧AllL (fun m=>h' m≠ .free) cs∧(zP m=true→ρ m=m)∧(zP m=false→zP (ρ m)=false))
  (hlf:∀m,zP m=true→h' m≠ .free)
  (hinj:∀m m' z z' cs cs',h' m=.own z cs→h' m'=.own z' cs'→ρ m=ρ m'→m=m'):Le σ ⟨e',h'⟩:=by
 intro L w0 R0 N a w hi
 obtain⟨R,ι,hR,h⟩:=hi.inv
 have hrep:∀{x:Value} {v:AV},Rep R ι w x (v.ren ρ)→Rep R (fun m=>ι (ρ m)) w x v:=fun hx=>hx.unren rfl
 refine⟨hi.df,hi.sz,R,fun m=>ι (ρ m),hR,⟨h.ext,h.rlt,fun s=>?_,fun s=>?_,⟨fun m=>?_,fun m z cs B e hB=>h.hp.nR _ _ _ B (hH _ _ _ e).1 hB,fun m m' z z' cs cs' B B' e e' hB hB' hbb=>?_,fun m z cs e=>(hH _ _ _ e).2.1⟩,fun m z cs e=>?_,fun m hm=>hlf m hm,h.gd⟩⟩
 ·show Rep R _ w _ (e' s)
  rcases hE s with h1|⟨h1,h2⟩
  ·rw[h1];exact .fr _ _ (.un _)
  ·have:=h.env s
   rw[←h1]at this
   exact hrep this
 ·show(e' s).All _
  rcases hE s with h1|⟨h1,h2⟩
  ·rw[h1];simp[AV.All]
  ·exact h2
 ·show OOk R _ w (ι (ρ m)) (h' m)
  cases e:h' m with
  |free=>trivial
  |dead=>trivial
  |own z cs=>
   have h1:=h.hp.ok (ρ m)
   rw[(hH _ _ _ e).1]at h1
   cases hB:ι (ρ m)with
   |none=>rw[hB]at h1;have:zx ρ cs=[]:=h1;rw[qZ]at this;exact List.map_eq_nil_iff.1 this
   |some B=>
    rw[hB]at h1
    obtain⟨c,T,lo,hi,g1,g2,g3,g4,g5,g6⟩:=h1
    rw[qZ]at g5 g6
    refine⟨c,T,lo,hi,g1,g2,g3,g4,by simpa using g5,fun i hi=>?_⟩
    have:=g6 i (by simpa using hi)
    simp only[List.getElem_map]at this
    exact hrep this
 ·have:=h.hp.inj _ _ _ _ _ _ B B' (hH _ _ _ e).1 (hH _ _ _ e').1 hB hB' hbb
  exact hinj _ _ _ _ _ _ e e' this
 ·obtain⟨h1,h2,h5,h6⟩:=hH _ _ _ e
  rcases h.old _ _ _ h1 with g|g
  ·left
   refine⟨?_,g.2⟩
   cases hl:zP m with
   |false=>rfl
   |true=>have:=h5 hl;rw[this,hl]at g;exact g.1
  ·right
   have hl:zP m=true:=by
    cases hl:zP m with
    |true=>rfl
    |false=>have:=h6 hl;rw[this]at g;exact g.1
   have:=h5 hl
   rw[this]at g ⊢
   exact g
theorem yV{c:Code}{X:Type}(S:X→St)(inv:X→Prop)(μ:X→Nat)(x0:X)(h0:inv x0)(hσ:Le σ (S x0))
  (round:∀x,inv x→@W P N ⟨c⟩ ⟨fun y σ'=>@yq ⟨fun σ'=>@au4 ⟨fun σ'=>∃x',inv x'∧μ x'<μ x∧Le σ' (S x')⟩ σ'.env σ'.hp⟩ ⟨Q⟩ y σ'⟩ (S x).env (S x).hp):
  @aJP P N ⟨c⟩ ⟨Q⟩ σ:=by
 refine AW.loop S inv μ x0 h0 hσ fun x hx=>(W.sound (round x hx)).mono fun y σ' hq=>?_
 cases y<;>exact hq
theorem yU{X:Type}{S:X→St}{inv:X→Prop}{μ:X→Nat}{n:Nat}{e:Nat→AV}{h:Nat→Ob}(x':X)(h1:inv x')(h2:μ x'<n)(hl:Le ⟨e,h⟩ (S x')):
  @au4 ⟨fun σ'=>∃x',inv x'∧μ x'<n∧Le σ' (S x')⟩ e h:=⟨x',h1,h2,hl⟩
def nmF(ks:List Nat)(b n:Nat)(m:Nat):Prop:=jq ks m∨(b≤m∧m<b+n)
def Jj(ρ:Nat→Nat)(e:Nat→AV)(p:Nat→Prop):List (Nat×AV)→Prop
 | []=>True
 |(s,v)::r=>(v.ren ρ=e s∧v.All p)∧Jj ρ e p r
def aZv(ρ:Nat→Nat)(h:Nat→Ob)(p:Nat→Prop):List (Nat×Ob)→Prop
 | []=>True
 |(k,ob)::r=>(ob.ren ρ=h (ρ k)∧ob.men p∧ob.isOwn)∧aZv ρ h p r
theorem Vu{ρ:Nat→Nat}{e:Nat→AV}{p:Nat→Prop}:∀{E:List (Nat×AV)},Jj ρ e p E→∀q∈E,q.2.ren ρ=e q.1∧q.2.All p
 |(s,v)::r,h,q,hq=>by
  rcases List.mem_cons.1 hq with rfl|hq
  ·exact h.1
  ·exact Vu h.2 q hq
theorem JO{ρ:Nat→Nat}{h:Nat→Ob}{p:Nat→Prop}:∀{H:List (Nat×Ob)},aZv ρ h p H→∀q∈H,q.2.ren ρ=h (ρ q.1)∧q.2.men p∧q.2.isOwn
 |(s,v)::r,h,q,hq=>by
  rcases List.mem_cons.1 hq with rfl|hq
  ·exact h.1
  ·exact JO h.2 q hq
theorem Le.famL(ρ:Nat→Nat)(E:List (Nat×AV))(H:List (Nat×Ob))(b n:Nat)(F:Nat→Ob)
  (hn:QY (H.map (·.1))=true) (hlow:∀q∈H,q.1<b∨b+n≤q.1)
  (hE:Jj ρ σ.env (nmF (H.map (·.1)) b n) E) (hH:aZv ρ σ.hp (nmF (H.map (·.1)) b n) H)
  (hF:∀j,j<n→(F j).ren ρ=σ.hp (ρ (b+j))∧(F j).men (nmF (H.map (·.1)) b n)∧(F j).isOwn)
  (hlent:∀m,nmF (H.map (·.1)) b n m→(zP m=true→ρ m=m)∧(zP m=false→zP (ρ m)=false))
  (hinj:∀m m',nmF (H.map (·.1)) b n m→nmF (H.map (·.1)) b n m'→ρ m=ρ m'→m=m'):Le σ ⟨ofL .un E,fam b n F (ofH H)⟩:=by
 have hnd:=jw hn
 have hget:∀q∈H,fam b n F (ofH H) q.1=q.2:=fun q hq=>by
  have:¬(b≤q.1∧q.1<b+n):=by have:=hlow q hq;omega
  show(if b≤q.1∧q.1<b+n then _ else _)=_
  rw[if_neg this]
  exact Vg hnd q hq
 have hne:∀m,nmF (H.map (·.1)) b n m→fam b n F (ofH H) m≠ .free:=fun m hm=>by
  rcases hm with hm|hm
  ·obtain⟨q,hq,rfl⟩:=List.mem_map.1 (JN.1 hm)
   rw[hget q hq]
   exact zN (JO hH q hq).2.2
  ·have:=(hF (m-b) (by omega)).2.2
   show(if b≤m∧m<b+n then _ else _)≠_
   rw[if_pos hm]
   exact zN this
 have hsrc:∀m z cs,fam b n F (ofH H) m=.own z cs→(σ.hp (ρ m)=.own z (zx ρ cs)∧AllL (nmF (H.map (·.1)) b n) cs)∧nmF (H.map (·.1)) b n m:=by
  intro m z cs e
  by_cases hm:b≤m∧m<b+n
  ·have e2:F (m-b)=.own z cs:=by
    have:fam b n F (ofH H) m=F (m-b):=if_pos hm
    rw[←this];exact e
   obtain⟨g1,g2,g3⟩:=hF (m-b) (by omega)
   rw[e2,show b+(m-b)=m by omega]at g1
   rw[e2]at g2
   exact⟨⟨g1.symm,g2⟩,.inr hm⟩
  ·have e2:ofH H m=.own z cs:=by
    have:fam b n F (ofH H) m=ofH H m:=if_neg hm
    rw[←this];exact e
   rcases jQ (l:=H) (s:=m) (d:=(bif zP m then .dead else .free:Ob))with⟨v,h1,h2⟩|h1
   ·have hv:v=.own z cs:=h2.symm.trans e2
    subst hv
    obtain⟨g1,g2,g3⟩:=JO hH _ h1
    exact⟨⟨g1.symm,g2⟩,.inl (JN.2 (List.mem_map_of_mem (f:=(·.1)) h1))⟩
   ·have:ofH H m=_:=h1
    rw[this]at e2
    cases hl:zP m<;>rw[hl]at e2<;>cases e2
 refine Le.gen ρ _ _ (fun s=>?_) (fun m z cs e=>?_) (fun m hm=>?_) (fun m m' z z' cs cs' e e' hr=>hinj m m' (hsrc m z cs e).2 (hsrc m' z' cs' e').2 hr)
 ·rcases jQ (l:=E) (s:=s) (d:=AV.un)with⟨v,h1,h2⟩|h1
  ·right
   rw[h2]
   obtain⟨g1,g2⟩:=Vu hE _ h1
   exact⟨g1,g2.mono hne⟩
  ·exact .inl h1
 ·obtain⟨⟨g1,g2⟩,g3⟩:=hsrc m z cs e
  obtain⟨g4,g5⟩:=hlent m g3
  exact⟨g1,g2.mono hne,g4,g5⟩
 ·intro hf
  by_cases hm2:b≤m∧m<b+n
  ·have e2:fam b n F (ofH H) m=F (m-b):=if_pos hm2
   rw[e2]at hf
   exact zN (hF (m-b) (by omega)).2.2 hf
  ·have e2:ofH H m=.free:=by
    have:fam b n F (ofH H) m=ofH H m:=if_neg hm2
    rw[←this];exact hf
   rcases jQ (l:=H) (s:=m) (d:=(bif zP m then .dead else .free:Ob))with⟨v,h1,h2⟩|h1
   ·have hv:v=.free:=h2.symm.trans e2
    exact zN (JO hH _ h1).2.2 hv
   ·have:ofH H m=_:=h1
    rw[this,hm]at e2
    cases e2
end
end Go.Ab
namespace Go.Ab
open Go
def agZ(o:Ob):Prop:=o.isOwn∧(∀ρ,o.ren ρ=o)∧(∀p:Nat→Prop,o.men p)
def Vx(b i c m:Nat):Nat:=if m=b+i then c else m
theorem Qw{b i c:Nat}:Vx b i c (b+i)=c:=if_pos rfl
theorem Zt{b i c m:Nat}(h:m≠b+i):Vx b i c m=m:=if_neg h
section
variable {P:Program}{N:Nat}{Q:Exit→St→Prop}{σ:St}
theorem Le.fam0(E:List (Nat×AV))(H:List (Nat×Ob))(b:Nat)(F:Nat→Ob)(h:Le σ ⟨ofL .un E,ofH H⟩):Le σ ⟨ofL .un E,fam b 0 F (ofH H)⟩:=by
 have:fam b 0 F (ofH H)=ofH H:=by funext m;exact if_neg (by omega)
 rw[this];exact h
theorem Le.grow(c:Nat)(E:List (Nat×AV))(H:List (Nat×Ob))(b i:Nat)(F:Nat→Ob)(hb:20000000≤b)(hF:∀j,agZ (F j))
  (hσ:∀j,j<i→σ.hp (b+j)=F j) (hc:σ.hp c=F i) (hcb:20000000≤c∧c<b) (hcH:c∉H.map (·.1))
  (hn:QY (H.map (·.1))=true) (hlow:∀q∈H,q.1<b)
  (hE:Jj (Vx b i c) σ.env (nmF (H.map (·.1)) b (i+1)) E) (hH:aZv (Vx b i c) σ.hp (nmF (H.map (·.1)) b (i+1)) H):Le σ ⟨ofL .un E,fam b (i+1) F (ofH H)⟩:=by
 have hk:∀m,nmF (H.map (·.1)) b (i+1) m→m≠b+i→Vx b i c m=m∧m≠c:=fun m hm hne=>⟨Zt hne,fun e=>by
  subst e
  rcases hm with hm|hm
  ·exact hcH (JN.1 hm)
  ·omega⟩
 have hlc:∀m,20000000≤m→zP m=false:=fun m hm=>by
  unfold zP
  have:Nat.blt m 20000000=false:=by
   cases h:Nat.blt m 20000000 with
   |false=>rfl
   |true=>simp[Nat.blt]at h;omega
  rw[this,Bool.and_false]
 refine Le.famL (Vx b i c) E H b (i+1) F hn (fun q hq=>.inl (hlow q hq)) hE hH (fun j hj=>?_) (fun m hm=>?_) (fun m m' hm hm' e=>?_)
 ·obtain⟨p1,p2,p3⟩:=hF j
  refine⟨?_,p3 _,p1⟩
  rw[p2]
  by_cases hji:j=i
  ·subst hji;rw[Qw,hc]
  ·rw[Zt (by omega),hσ j (by omega)]
 ·by_cases hne:m=b+i
  ·subst hne
   rw[Qw]
   exact⟨fun h=>(by rw[hlc _ (by omega)]at h;cases h),fun _=>hlc _ hcb.1⟩
  ·rw[(hk m hm hne).1]
   exact⟨fun _=>rfl,fun h=>h⟩
 ·by_cases h1:m=b+i<;>by_cases h2:m'=b+i
  ·rw[h1,h2]
  ·rw[h1,Qw,(hk m' hm' h2).1]at e
   exact absurd e.symm (hk m' hm' h2).2
  ·rw[h2,Qw,(hk m hm h1).1]at e
   exact absurd e (hk m hm h1).2
  ·rwa[(hk m hm h1).1,(hk m' hm' h2).1]at e
def aJV(ρ:Nat→Nat)(p:Nat→Prop):List AV→List AV→Prop
 | [],[]=>True
 |v::r,a::l=>(v.ren ρ=a∧v.All p)∧aJV ρ p r l
 |_,_=>False
theorem Vt{ρ:Nat→Nat}{p:Nat→Prop}:∀{l' l:List AV},aJV ρ p l' l→l'.length=l.length∧∀i,i<l.length→(l'.getD i .un).ren ρ=l.getD i .un∧(l'.getD i .un).All p
 | [],[],_=>by simp
 |v::r,a::l,hl=>by
  obtain⟨h1,h2⟩:=Vt hl.2
  refine⟨by simp[h1],fun i hi=>?_⟩
  cases i with
  |zero=>exact hl.1
  |succ i=>exact h2 i (by simpa using hi)
 | [],a::l,hl=>hl.elim
 |v::r,[],hl=>hl.elim
theorem VF{cl:Bool}{post:AV→List Ob→List Ob→Prop}{l:List AV}{e:Nat→AV}{h:Nat→Ob}(ρ:Nat→Nat)(row:Ob)(n:Nat)(F:Nat→Ob)(l':List AV)(hn:n<9000000)
  (hl:aJV ρ (nmF [0] 1 n) l' l) (hrow:row.ren ρ=h (ρ 0)∧row.men (nmF [0] 1 n)∧row.isOwn)
  (hF:∀j,j<n→(F j).ren ρ=h (ρ (1+j))∧(F j).men (nmF [0] 1 n)∧(F j).isOwn)
  (hlent:∀m,m≤n→zP (ρ m)=false) (hinj:∀m m',m≤n→m'≤n→ρ m=ρ m'→m=m')
  (hcl:cl=true→row.pu∧(∀j,j<n→(F j).pu)∧(zw l').pu) (hp:post (zw l') (row::(List.range n).map F) []):@av8 N cl 0 ⟨post⟩ ⟨e⟩ l h:=by
 have hchp:fam 1 n F (ofH [(0,row)])=chp (row::(List.range n).map F) []:=by
  funext m
  unfold chp fam
  by_cases hm:1≤m∧m<1+n
  ·rw[if_pos hm]
   have h1:Nat.blt m 10000000=true:=by simp[Nat.blt];omega
   rw[h1,cond_true]
   obtain⟨j,rfl⟩:∃j,m=j+1:=⟨m-1,by omega⟩
   rw[List.getD_cons_succ,Nat.add_sub_cancel,List.getD_eq_getElem?_getD,List.getElem?_map,List.getElem?_range (by omega)];rfl
  ·rw[if_neg hm]
   by_cases h0:m=0
   ·subst h0;rfl
   ·have h2:ofH [(0,row)] m=(bif zP m then .dead else .free):=by
     show(bif Nat.beq 0 m then row else _)=_
     have:Nat.beq 0 m=false:=by cases m with|zero=>exact absurd rfl h0|succ m=>rfl
     rw[this];rfl
    rw[h2]
    unfold zP
    by_cases h3:m<10000000
    ·have a1:Nat.blt m 10000000=true:=by simp[Nat.blt];omega
     have a2:Nat.ble 10000000 m=false:=by
      cases hh:Nat.ble 10000000 m with
      |false=>rfl
      |true=>have:=Nat.le_of_ble_eq_true hh;omega
     rw[a1,a2,Bool.false_and,cond_true,cond_false,List.getD_eq_getElem?_getD,List.getElem?_eq_none (by simp;omega)];rfl
    ·have a1:Nat.blt m 10000000=false:=by
      cases hh:Nat.blt m 10000000 with
      |false=>rfl
      |true=>simp[Nat.blt]at hh;omega
     have a2:Nat.ble 10000000 m=true:=Nat.ble_eq_true_of_le (by omega)
     rw[a1,a2,Bool.true_and,cond_false]
     cases Nat.blt m 20000000<;>simp
 obtain⟨hll,hlg⟩:=Vt hl
 have hnm:∀m,nmF [0] 1 n m→m≤n:=fun m hm=>by
  rcases hm with hm|hm
  ·rcases hm with rfl|hm
   ·omega
   ·exact hm.elim
  ·omega
 have hsm:∀m,m≤n→zP m=false:=fun m hm=>by
  unfold zP
  have:Nat.ble 10000000 m=false:=by
   cases hh:Nat.ble 10000000 m with
   |false=>rfl
   |true=>have:=Nat.le_of_ble_eq_true hh;omega
  rw[this,Bool.false_and]
 have hE:Jj ρ (Z1 N e l) (nmF [0] 1 n) (jf N l'):=by
  have key:∀(l':List AV) (k:Nat),(∀i,i<l'.length→(l'.getD i .un).ren ρ=Z1 N e l (N+(k+i))∧(l'.getD i .un).All (nmF [0] 1 n))→Jj ρ (Z1 N e l) (nmF [0] 1 n) (jf (N+k) l'):=by
   intro l'
   induction l' with
   |nil=>intro k _;trivial
   |cons v r ih=>
    intro k hk
    refine⟨hk 0 (by simp),ih (k+1) fun i hi=>?_⟩
    have:=hk (i+1) (by simpa using hi)
    rw[show k+1+i=k+(i+1) by omega];exact this
  refine key l' 0 fun i hi=>?_
  have h1:=hlg i (by omega)
  refine⟨?_,h1.2⟩
  rw[h1.1]
  unfold Z1
  have:Nat.blt (N+(0+i)) N=false:=by
   cases h:Nat.blt (N+(0+i)) N with
   |false=>rfl
   |true=>simp[Nat.blt]at h;omega
  rw[this,cond_false,show N+(0+i)-N=i by omega]
 have hle:Le ⟨Z1 N e l,h⟩ ⟨ofL .un (jf N l'),fam 1 n F (ofH [(0,row)])⟩:=
  Le.famL ρ _ [(0,row)] 1 n F rfl (fun q hq=>by rw[List.mem_singleton.1 hq];exact .inl (by show 0<1;omega)) hE ⟨hrow,trivial⟩ hF
   (fun m hm=>⟨fun h=>(by rw[hsm m (hnm m hm)]at h;cases h),fun _=>hlent m (hnm m hm)⟩) (fun m m' hm hm'=>hinj m m' (hnm m hm) (hnm m' hm'))
 have hne:∀m,nmF [0] 1 n m→rhp (row::(List.range n).map F) [] m≠ .free:=fun m hm=>by
  have hm2:=hnm m hm
  unfold rhp
  rw[if_neg (by omega)]
  cases m with
  |zero=>exact zN hrow.2.2
  |succ j=>
   rw[List.getD_cons_succ,List.getD_eq_getElem?_getD,List.getElem?_map,List.getElem?_range (by omega)]
   exact zN (hF j (by omega)).2.2
 have hmem:∀ob∈(row::(List.range n).map F),ob=row∨∃j,j<n∧ob=F j:=fun ob ho=>by
  rcases List.mem_cons.1 ho with rfl|ho
  ·exact .inl rfl
  ·obtain⟨j,hj,rfl⟩:=List.mem_map.1 ho
   exact .inr ⟨j,List.mem_range.1 hj,rfl⟩
 refine⟨_,row::(List.range n).map F,[],l',hle,hchp,by simp;omega,rfl,fun ob ho=>(by cases ho),fun ob ho=>?_,fun hc ob ho=>?_,fun hc ob ho=>(by cases ho),hll,fun i hi=>?_,fun hc=>(hcl hc).2.2,?_,hp⟩
 ·rw[List.append_nil]at ho
  rcases hmem ob ho with rfl|⟨j,hj,rfl⟩
  ·exact hrow.2.1.mono hne
  ·exact(hF j hj).2.1.mono hne
 ·rcases hmem ob ho with rfl|⟨j,hj,rfl⟩
  ·exact(hcl hc).1
  ·exact(hcl hc).2.1 j hj
 ·show ofL .un (jf N l') (N+i)=_
  rw[yT,if_pos (by omega),show N+i-N=i by omega]
 ·have:AllL (nmF [0] 1 n) l':=AllL.of_get fun i hi=>by
   have:=(hlg i (by omega)).2
   rwa[List.getD_eq_getElem?_getD,List.getElem?_eq_getElem hi]at this
  unfold zw
  split
  ·exact(this.get 0 (by simp)).mono hne
  ·simp only[AV.All];exact this.mono hne
theorem YU{row:Ob}{n:Nat}{F:Nat→Ob}(hn:n<9000000):chp [] (row::(List.range n).map F)=fam 10000001 n F (ofH [(10000000,row)]):=by
 funext m
 unfold chp fam
 by_cases hm:10000001≤m∧m<10000001+n
 ·rw[if_pos hm]
  have h1:Nat.blt m 10000000=false:=by
   cases hh:Nat.blt m 10000000 with
   |false=>rfl
   |true=>simp[Nat.blt]at hh;omega
  have h2:Nat.blt m 20000000=true:=by simp[Nat.blt];omega
  rw[h1,h2,cond_false,cond_true]
  obtain⟨j,rfl⟩:∃j,m=10000001+j:=⟨m-10000001,by omega⟩
  rw[show 10000001+j-10000000=j+1 by omega,List.getD_cons_succ,Nat.add_sub_cancel_left,List.getD_eq_getElem?_getD,List.getElem?_map,List.getElem?_range (by omega)];rfl
 ·rw[if_neg hm]
  by_cases h0:m=10000000
  ·subst h0
   have h1:Nat.blt 10000000 10000000=false:=by decide
   have h2:Nat.blt 10000000 20000000=true:=by decide
   rw[h1,h2,Vg (H:=[(10000000,row)]) (jw rfl) (10000000,row) (List.mem_singleton.2 rfl)];rfl
  ·have h2:ofH [(10000000,row)] m=(bif zP m then .dead else .free):=by
    show(bif Nat.beq 10000000 m then row else _)=_
    rw[ag7 (fun h=>h0 h.symm),cond_false];rfl
   rw[h2]
   unfold zP
   by_cases h3:m<10000000
   ·have a1:Nat.blt m 10000000=true:=by simp[Nat.blt];omega
    have a2:Nat.ble 10000000 m=false:=by
     cases hh:Nat.ble 10000000 m with
     |false=>rfl
     |true=>have:=Nat.le_of_ble_eq_true hh;omega
    rw[a1,a2,Bool.false_and,cond_true,cond_false];rfl
   ·have a1:Nat.blt m 10000000=false:=by
     cases hh:Nat.blt m 10000000 with
     |false=>rfl
     |true=>simp[Nat.blt]at hh;omega
    have a2:Nat.ble 10000000 m=true:=Nat.ble_eq_true_of_le (by omega)
    have e:(row::(List.range n).map F).getD (m-10000000) .dead=.dead:=by
     rw[List.getD_eq_getElem?_getD,List.getElem?_eq_none (by rw[List.length_cons,List.length_map,List.length_range];omega),Option.getD_none]
    rw[a1,a2,Bool.true_and,cond_false,e]
theorem ajd{cl:Bool}{post:AV→List Ob→List Ob→Prop}{l:List AV}{e:Nat→AV}{h:Nat→Ob}{nn:Nat}(row:Ob)(n:Nat)(F:Nat→Ob)(l':List AV)(hnn:nn=n+1)(hn:n<9000000)
  (hl:aJV id (nmF [10000000] 10000001 n) l' l) (hrow:row.ren id=h 10000000∧row.men (nmF [10000000] 10000001 n)∧row.isOwn)
  (hF:∀j,j<n→(F j).ren id=h (10000001+j)∧(F j).men (nmF [10000000] 10000001 n)∧(F j).isOwn)
  (hcl:cl=true→row.plain∧(∀j,j<n→(F j).plain)∧(zw l').pu) (hp:post (zw l') [] (row::(List.range n).map F)):@av8 N cl nn ⟨post⟩ ⟨e⟩ l h:=by
 have hchp:=(YU (row:=row) (F:=F) hn).symm
 obtain⟨hll,hlg⟩:=Vt hl
 have hE:Jj id (Z1 N e l) (nmF [10000000] 10000001 n) (jf N l'):=by
  have key:∀(l':List AV) (k:Nat),(∀i,i<l'.length→(l'.getD i .un).ren id=Z1 N e l (N+(k+i))∧(l'.getD i .un).All (nmF [10000000] 10000001 n))→Jj id (Z1 N e l) (nmF [10000000] 10000001 n) (jf (N+k) l'):=by
   intro l'
   induction l' with
   |nil=>intro k _;trivial
   |cons v r ih=>
    intro k hk
    refine⟨hk 0 (by simp),ih (k+1) fun i hi=>?_⟩
    have:=hk (i+1) (by simpa using hi)
    rw[show k+1+i=k+(i+1) by omega];exact this
  refine key l' 0 fun i hi=>?_
  have h1:=hlg i (by omega)
  refine⟨?_,h1.2⟩
  rw[h1.1]
  unfold Z1
  have:Nat.blt (N+(0+i)) N=false:=by
   cases h:Nat.blt (N+(0+i)) N with
   |false=>rfl
   |true=>simp[Nat.blt]at h;omega
  rw[this,cond_false,show N+(0+i)-N=i by omega]
 have hle:Le ⟨Z1 N e l,h⟩ ⟨ofL .un (jf N l'),fam 10000001 n F (ofH [(10000000,row)])⟩:=
  Le.famL id _ [(10000000,row)] 10000001 n F rfl (fun q hq=>by rw[List.mem_singleton.1 hq];exact .inl (by show 10000000<10000001;omega)) hE ⟨hrow,trivial⟩ hF
   (fun m hm=>⟨fun h=>rfl,fun h=>h⟩) (fun m m' hm hm' h=>h)
 have hne:∀m,nmF [10000000] 10000001 n m→rhp [] (row::(List.range n).map F) m≠ .free:=fun m hm=>by
  unfold rhp
  rcases hm with hm|hm
  ·rcases hm with rfl|hm
   ·rw[if_pos (by omega)];exact zN hrow.2.2
   ·exact hm.elim
  ·rw[if_pos (by omega),show m-10000000=(m-10000001)+1 by omega,List.getD_cons_succ,List.getD_eq_getElem?_getD,List.getElem?_map,List.getElem?_range (by omega)]
   exact zN (hF (m-10000001) (by omega)).2.2
 have hmem:∀ob∈(row::(List.range n).map F),ob=row∨∃j,j<n∧ob=F j:=fun ob ho=>by
  rcases List.mem_cons.1 ho with rfl|ho
  ·exact .inl rfl
  ·obtain⟨j,hj,rfl⟩:=List.mem_map.1 ho
   exact .inr ⟨j,List.mem_range.1 hj,rfl⟩
 refine⟨_,[],row::(List.range n).map F,l',hle,hchp,by simp,by simp[hnn],fun ob ho=>?_,fun ob ho=>?_,fun hc ob ho=>(by cases ho),fun hc ob ho=>?_,hll,fun i hi=>?_,fun hc=>(hcl hc).2.2,?_,hp⟩
 ·rcases hmem ob ho with rfl|⟨j,hj,rfl⟩
  ·exact hrow.2.2
  ·exact(hF j hj).2.2
 ·rw[List.nil_append]at ho
  rcases hmem ob ho with rfl|⟨j,hj,rfl⟩
  ·exact hrow.2.1.mono hne
  ·exact(hF j hj).2.1.mono hne
 ·rcases hmem ob ho with rfl|⟨j,hj,rfl⟩
  ·exact(hcl hc).1
  ·exact(hcl hc).2.1 j hj
 ·show ofL .un (jf N l') (N+i)=_
  rw[yT,if_pos (by omega),show N+i-N=i by omega]
 ·have:AllL (nmF [10000000] 10000001 n) l':=AllL.of_get fun i hi=>by
   have:=(hlg i (by omega)).2
   rwa[List.getD_eq_getElem?_getD,List.getElem?_eq_getElem hi]at this
  unfold zw
  split
  ·exact(this.get 0 (by simp)).mono hne
  ·simp only[AV.All];exact this.mono hne
end
end Go.Ab
namespace Go.Ab
open Go Go.Proofs
/-! ### A row of numbers,each with limbs of its own-/
def dcs(b:Nat)(p:Nat×DyV):List AV:=[.v (.bool p.2.s),.rf (b+p.1) 0 p.2.xs.length,.v (.int .i64 p.2.e)]
theorem bnS(b:Nat)(p:Nat×DyV):(dcs b p).length=3:=rfl
def prs(l:List DyV)(i:Nat):List (Nat×DyV):=(List.range i).map fun j=>(j,l.getD j dy0)
theorem auQ{l:List DyV}{i:Nat}:(prs l i).length=i:=by simp[prs]
theorem aI4{l:List DyV}{i:Nat}:prs l (i+1)=prs l i++[(i,l.getD i dy0)]:=by simp[prs,List.range_succ]
theorem Yd{l:List DyV}{i:Nat}{p:Nat×DyV}(h:p∈prs l i):p.1<i:=by
 obtain⟨j,hj,rfl⟩:=List.mem_map.1 h
 exact List.mem_range.1 hj
def avn(l:List DyV)(j:Nat):Ob:=.own 1 (qg (l.getD j dy0).xs)
theorem yF{a b:Nat}{ρ:Nat→Nat}:∀{L:List (Nat×DyV)},(∀p∈L,ρ (a+p.1)=b+p.1)→zx ρ (ql (dcs a) L)=ql (dcs b) L
 | [],_=>rfl
 |p::L,h=>by
  rw[qQ,qQ,yS,yF fun q hq=>h q (List.mem_cons_of_mem _ hq)]
  congr 1
  show [_,AV.rf (ρ (a+p.1)) 0 _,_]=_
  rw[h p (List.mem_cons_self ..)];rfl
theorem awq{b:Nat}{ρ:Nat→Nat}{L:List (Nat×DyV)}(h:∀p∈L,ρ (b+p.1)=b+p.1):zx ρ (ql (dcs b) L)=ql (dcs b) L:=yF h
theorem zZ{b:Nat}{q:Nat→Prop}:∀{L:List (Nat×DyV)},(∀p∈L,q (b+p.1))→AllL q (ql (dcs b) L)
 | [],_=>trivial
 |p::L,h=>by
  rw[qQ]
  have:=zZ fun r hr=>h r (List.mem_cons_of_mem p hr)
  exact⟨trivial,h p (List.mem_cons_self ..),trivial,this⟩
theorem aI3{l:List DyV}:prs l 0=[]:=rfl
theorem jc(l:List DyV)(j:Nat):agZ (avn l j):=⟨trivial,fun ρ=>by show Ob.own 1 (zx ρ (qg _))=_;rw[yy];rfl,fun p=>by show AllL p (qg _);exact Zs⟩
theorem awr{b:Nat}{L:List (Nat×DyV)}:(ql (dcs b) L).length=L.length*3:=yd (bnS b)
theorem aLb{b:Nat}{L:List (Nat×DyV)}{k j:Nat}{d:DyV}{c:Nat}:wr (ql (dcs b) L++zG (k+1) z3) (L.length*3) [.v (.bool d.s),.rf c 0 d.xs.length,.v (.int .i64 d.e)]=ql (dcs b) L++([.v (.bool d.s),.rf c 0 d.xs.length,.v (.int .i64 d.e)]++zG k z3):=by
 have h:=X9 (X:=List AV) (f:=fun x=>x.take 3++List.replicate (3-x.length) .un) (z:=3) (zs:=z3) (fun x=>by rw[List.length_append,List.length_take,List.length_replicate];omega) rfl (L:=L.map (dcs b)) (k:=k) [.v (.bool d.s),.rf c 0 d.xs.length,.v (.int .i64 d.e)]
 have e:ql (fun x:List AV=>x.take 3++List.replicate (3-x.length) .un) (L.map (dcs b))=ql (dcs b) L:=by
  unfold ql
  rw[List.map_map];rfl
 have e2:ql (fun x:List AV=>x.take 3++List.replicate (3-x.length) .un) (L.map (dcs b)++[[.v (.bool d.s),.rf c 0 d.xs.length,.v (.int .i64 d.e)]])=ql (dcs b) L++[.v (.bool d.s),.rf c 0 d.xs.length,.v (.int .i64 d.e)]:=by
  unfold ql
  rw[List.map_append,List.flatten_append,List.map_map];rfl
 rw[e,e2,List.length_map,List.append_assoc]at h
 exact h
set_option maxRecDepth 100000 in
theorem aow(l:List DyV)(hl:l.length≤1048576)(hx:∀d∈l,d.xs.length≤1048576):Con Tryz.prog 50 false [.sl l.length (ql DyV.cs l)] []
  (fun r hs bs=>r=.rf 0 0 l.length∧hs=.own 3 (ql (dcs 1) (prs l l.length))::(List.range l.length).map (avn l)):=by
 refine Con.of_w (rs:=[.tmp 2]) Tryz.func50 rfl Tryz.ntmps50 rfl ?_
 simp(disch:=omega)only[go_sem]
 refine⟨⟨by omega,by omega,by omega⟩,?_⟩
 refine yV (S:=fun i:Nat=>⟨ofL .un [(0,.sl l.length (ql DyV.cs l)),(3,.rf 90000000 0 l.length),(4,.v (.int .i64 i))],fam 500000000 i (avn l) (ofH [(90000000,.own 3 (ql (dcs 500000000) (prs l i)++zG (l.length-i) z3))])⟩) (fun i=>i≤l.length) (fun i=>l.length-i) 0 (by omega)
  (Le.fam0 _ _ _ _ (Le.lst [] _ _ rfl (by simp(disch:=omega)only[go_sem]) (by simp(disch:=omega)only[go_sem,aI3,ji,List.nil_append,Nat.sub_zero];try rfl))) ?_
 intro i hi
 show @W Tryz.prog 23 ⟨_⟩ ⟨_⟩ (ofL .un _) (fam 500000000 i (avn l) (ofH _))
 simp(disch:=omega)only[go_sem]
 refine qi (fun c1=>?_) (fun c1=>?_)
 ·have hi2:i<l.length:=by omega
  have hcut:=awk (l:=l) (i:=i) hi2
  have hdm:(l.getD i dy0).xs.length≤1048576:=hx _ (by rw[List.getD_eq_getElem?_getD,List.getElem?_eq_getElem hi2];exact List.getElem_mem _)
  obtain⟨k,hk⟩:∃k,l.length-i=k+1:=⟨l.length-i-1,by omega⟩
  have hfill:=@aLb 500000000 (prs l i) k i (l.getD i dy0) 220000000
  rw[auQ]at hfill
  have hps:=@aI4 l i
  have hLi:avn l i=.own 1 (qg (l.getD i dy0).xs):=rfl
  generalize l.getD i dy0=d at*
  rw[hk]
  simp(disch:=omega)only[go_sem,c1,hcut,qw]
  refine⟨by omega,by omega,?_⟩
  refine qF (aww d.s d.xs d.e (by omega)) (by simp(disch:=omega)only[go_sem]) ?_
  rintro r hs ⟨rfl,rfl⟩
  refine⟨by simp[qL];simp(disch:=omega)only[go_sem,qw],?_⟩
  simp(disch:=omega)only[go_sem,qw,hfill]
  have hrow:zx (Vx 500000000 i 220000000) (ql (dcs 500000000) (prs l (i+1))++zG k z3)=ql (dcs 500000000) (prs l i)++ .v (.bool d.s):: .rf 220000000 0 d.xs.length:: .v (.int .i64 d.e)::zG k z3:=by
   rw[hps,←jj,List.append_assoc,yS,awq (fun p hp=>Zt (by have:=Yd hp;omega)),yS]
   show _++([_,AV.rf (Vx 500000000 i 220000000 (500000000+i)) 0 _,_]++zx _ (zG k z3))=_
   rw[Qw,apl]
   rfl
  have hall:AllL (nmF [90000000] 500000000 (i+1)) (ql (dcs 500000000) (prs l (i+1))++zG k z3):=by
   rw[ajv]
   exact⟨zZ fun p hp=>.inr (by have:=Yd hp;omega),of_eq_true apn⟩
  have r9:Vx 500000000 i 220000000 90000000=90000000:=Zt (by omega)
  refine⟨⟨by omega,by omega⟩,by rw[List.length_append,awr,auQ,apm];omega,yU (i+1) (by show i+1≤_;omega) (by show l.length-(i+1)<k+1;omega) (Le.grow 220000000 _ _ 500000000 i (avn l) (by omega) (jc l) (fun j hj=>?_) ?_ (by omega) (by simp) rfl (by simp) (by simp(disch:=omega)only[go_sem,Jj,r9,nmF,jq];try omega) ?_)⟩
  ·show upd (upd (fam _ _ _ _) _ _) _ _ _=_
   rw[qh (by omega),qh (by omega),qW hj]
  ·dsimp only
   rw[qh (by omega),qq]
   exact hLi.symm
  ·refine⟨⟨?_,?_,trivial⟩,trivial⟩
   ·rw[r9,show l.length-(i+1)=k by omega]
    dsimp only
    rw[qq]
    exact congrArg (Ob.own 3) hrow
   ·rw[show l.length-(i+1)=k by omega]
    exact hall
 ·simp(disch:=omega)only[go_sem,c1]
  obtain rfl:i=l.length:=by omega
  rw[Nat.sub_self]
  refine VF (fun m=>if m=0 then 90000000 else 500000000+(m-1)) (.own 3 (ql (dcs 1) (prs l l.length))) l.length (avn l) [.rf 0 0 l.length] (by omega) (by simp(disch:=omega)only[go_sem,aJV,nmF,jq];try simp) ⟨?_,?_,trivial⟩ (fun j hj=>⟨?_,(jc l j).2.2 _,(jc l j).1⟩) (fun m hm=>?_) (fun m m' hm hm' e=>?_) (by simp) ⟨rfl,rfl⟩
  ·show Ob.own 3 (zx _ (ql (dcs 1) (prs l l.length)))=fam 500000000 l.length (avn l) (ofH [(90000000,.own 3 (ql (dcs 500000000) (prs l l.length)++zG 0 z3))]) 90000000
   rw[yF (a:=1) (b:=500000000) (fun p hp=>by rw[if_neg (by omega)];omega),qw (by omega),Q8,List.append_nil]
   rfl
  ·exact zZ fun p hp=>.inr (by have:=Yd hp;omega)
  ·rw[(jc l j).2.1]
   show _=fam _ _ _ _ (if 1+j=0 then 90000000 else 500000000+(1+j-1))
   rw[if_neg (by omega),show 1+j-1=j by omega,qW hj]
  ·have g:∀x:Nat,20000000≤x→zP x=false:=fun x hx=>by
    unfold zP
    have:Nat.blt x 20000000=false:=by
     cases h:Nat.blt x 20000000 with
     |false=>rfl
     |true=>simp[Nat.blt]at h;omega
    rw[this,Bool.and_false]
   exact g _ (by split<;>omega)
  ·have e:(if m=0 then 90000000 else 500000000+(m-1))=(if m'=0 then 90000000 else 500000000+(m'-1)):=e
   split at e<;>split at e<;>omega
end Go.Ab
