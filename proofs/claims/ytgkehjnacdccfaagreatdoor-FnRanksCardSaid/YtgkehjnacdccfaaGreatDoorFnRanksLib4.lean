/- What the proof of this claim stands on: the walks of the functions and the plain laws, part 4. -/
import Derived.Test.YtgkehjnacdccfaaGreatDoorFnRanksLib3
import Derived.Shelf.Spec.TrailingZeros
import Derived.Shelf.Small.Bits
import Derived.Shelf.Strconv.Itoa0
import Derived.Carry
import Derived.ChangeSlices
set_option linter.unusedVariables false
set_option linter.unusedSimpArgs false
namespace Go.Ab
open Go Go.Proofs
theorem aa2(cl:Bool)(xs:List Int)(hl:xs.length≤2^39):Con Tryz.prog 307 cl [.sl xs.length (qh xs)] [] (atY xs):=by
 refine Con.of_aw Tryz.func307 rfl Tryz.ntmps307 (by simp) (by simp) (by simp) (W.sound ?_)
 show @W Tryz.prog 8 ⟨_⟩ ⟨fun x σ=>@q9 _ _ _ ⟨_⟩ _ ⟨_⟩ x σ⟩ _ _
 simp(disch:=omega)only[go_sem]
 refine⟨fun h0=>?_,?_⟩
 ·have:xs=[]:=by cases xs with|nil=>rfl|cons a r=>cases h0
  subst this
  refine ql [] [] [] [.v (.slice none 0 0)] rfl (by simp(disch:=omega)only[go_sem]) (by simp(disch:=omega)only[go_sem]) (by simp) (by intro _;simp[zt,AV.pu]) (.inl ⟨rfl,rfl,rfl⟩)
 ·refine⟨by omega,?_⟩
  refine ql [(0,90000000)] [.own 1 (qh xs)] [] [.rf 0 0 xs.length] rfl (by simp(disch:=omega)only[go_sem]) (by simp(disch:=omega)only[go_sem]) (by simp) (by intro _;simp[zt,AV.pu,Ob.pu,ze]) (.inr ⟨[],rfl,by rw[List.append_nil]⟩)
end Go.Ab
namespace Go.Ab
open Go Go.Proofs
theorem aaU(x:Int):Con Tryz.prog 317 true [.v (.int .i64 x)] [] (isA (.v (.bool false))):=by
 refine Con.of_w (rs:=[.tmp 2]) Tryz.func317 rfl Tryz.ntmps317 rfl ?_
 simp(disch:=omega)only[go_sem]
 exact qz
theorem as8(x y:Int):Con Tryz.prog 294 true [.v (.int .i64 x),.v (.int .i64 y)] [] (isA (.v (.int .i64 (zQ x y)))):=by
 refine Con.of_w (rs:=[.tmp 4]) Tryz.func294 rfl Tryz.ntmps294 rfl ?_
 simp(disch:=omega)only[go_sem]
 refine qo (aaU x) ?_
 simp(disch:=omega)only[go_sem]
 refine qo (aaU y) ?_
 simp(disch:=omega)only[go_sem]
 refine qe (fun h1=>?_) (fun h1=>?_)
 ·simp(disch:=omega)only[go_sem,h1]
  rw[show zQ x y= -1 by simp[zQ,h1]]
  exact qz
 ·simp(disch:=omega)only[go_sem,h1]
  refine qe (fun h2=>?_) (fun h2=>?_)
  ·simp(disch:=omega)only[go_sem,h2]
   rw[show zQ x y=1 by simp[zQ,h1,h2]]
   exact qz
  ·simp(disch:=omega)only[go_sem,h2]
   rw[show zQ x y=0 by simp[zQ,h1,h2]]
   exact qz
theorem jf(a b:Nat)(la:(lim a).length≤2^40)(lb:(lim b).length≤2^40):
  Con Tryz.prog 247 true [.sl (lim (a)).length (qh (lim (a))),.sl (lim (b)).length (qh (lim (b)))] [] (isA (.v (.int .i64 (zQ a b)))):=by
 refine Con.of_w (rs:=[.tmp 4]) Tryz.func247 rfl Tryz.ntmps247 rfl ?_
 simp(disch:=omega)only[go_sem]
 refine zK (fun h1=>?_) (fun h1=>?_)
 ·simp(disch:=omega)only[go_sem,h1]
  refine qo (as8 (lim a).length (lim b).length) ?_
  simp(disch:=omega)only[go_sem]
  have:zQ ((lim a).length:Int) ((lim b).length:Int)=zQ a b:=by
   unfold zQ
   rcases(by omega:(lim a).length<(lim b).length∨(lim b).length<(lim a).length)with h|h
   ·have:=Qy h
    rw[if_pos (by omega),if_pos (by omega)]
   ·have:=Qy h
    rw[if_neg (by omega),if_pos (by omega),if_neg (by omega),if_pos (by omega)]
  rw[this]
  exact qz
 ·simp(disch:=omega)only[go_sem,h1]
  have hl:(lim a).length=(lim b).length:=by omega
  refine qc (fun k:Nat=>[(0,.sl (lim (a)).length (qh (lim (a)))),(1,.sl (lim (b)).length (qh (lim (b)))),(5,.v (.int .i64 ((k:Int)-1)))])
   (fun _=>[]) (fun k=>k≤(lim a).length∧(lim a).drop k=(lim b).drop k) (fun k=>k) (lim a).length ⟨Nat.le_refl _,by rw[List.drop_length,hl,List.drop_length]⟩ (Le.lst [] _ _ rfl (by simp(disch:=omega)only[go_sem];try omega) (by simp(disch:=omega)only[go_sem])) ?_
  rintro k ⟨hk,hd⟩
  simp(disch:=omega)only[go_sem]
  refine qe (fun h2=>?_) (fun h2=>?_)
  ·obtain⟨i,rfl⟩:∃i,k=i+1:=⟨k-1,by omega⟩
   have ei:((i+1:Nat):Int)-1=(i:Nat):=by omega
   simp(disch:=omega)only[go_sem,h2,ei]
   refine qm rfl [⟨0,[],[]⟩,⟨1,[],[]⟩,⟨2,[],[]⟩,⟨3,[],[]⟩,⟨4,[3],[]⟩,⟨5,[3],[]⟩,⟨6,[3],[]⟩,⟨7,[3],[]⟩,⟨8,[],[]⟩] (by kernel_rfl) ?_
   simp(disch:=omega)only[go_sem,ei]
   refine⟨by omega,by omega,by omega,by omega,?_⟩
   refine zK (fun h3=>?_) (fun h3=>?_)
   ·simp(disch:=omega)only[go_sem,h3]
    refine qm rfl [⟨0,[],[]⟩,⟨1,[],[]⟩,⟨2,[],[]⟩,⟨3,[],[]⟩,⟨4,[3],[]⟩,⟨5,[3],[]⟩,⟨6,[3],[]⟩,⟨7,[3],[]⟩,⟨8,[],[]⟩,⟨9,[],[]⟩] (by kernel_rfl) ?_
    simp(disch:=omega)only[go_sem,ei]
    refine⟨by omega,by omega,by omega,by omega,?_⟩
    refine qo (as8 ((lim a).getD i 0) ((lim b).getD i 0)) ?_
    simp(disch:=omega)only[go_sem]
    have hva:=zi a
    have hvb:=zi b
    have:zQ ((lim a).getD i 0) ((lim b).getD i 0)=zQ a b:=by
     unfold zQ
     rcases(by omega:(lim a).getD i 0<(lim b).getD i 0∨(lim b).getD i 0<(lim a).getD i 0)with h|h
     ·have:=Zt (zj a) (zj b) (by omega) hl hd h
      rw[if_pos (by omega),if_pos (by omega)]
     ·have:=Zt (zj b) (zj a) (by omega) hl.symm hd.symm h
      rw[if_neg (by omega),if_pos (by omega),if_neg (by omega),if_pos (by omega)]
    rw[this]
    exact qz
   ·simp(disch:=omega)only[go_sem,h3]
    refine qa i [] ⟨by omega,?_⟩ (by show i<i+1;omega) rfl (by simp(disch:=omega)only[go_sem];try omega) (by simp(disch:=omega)only[go_sem])
    rw[yA (l:=lim a) (by omega),yA (l:=lim b) (by omega),h3,hd]
  ·simp(disch:=omega)only[go_sem,h2]
   have:k=0:=by omega
   subst this
   rw[List.drop_zero,List.drop_zero]at hd
   have:=Qd hd
   subst this
   rw[show zQ (a:Int) (a:Int)=0 by simp[zQ]]
   exact qz
end Go.Ab
namespace Go.Proofs
open Go.Shelf
def Tryz.lays29_ren:Go.Shelf.Ren:=⟨fun|29=>323|n=>n,fun|0=>0|3=>3|4=>4|5=>5|22=>277|25=>264|54=>285|n=>n,fun|1=>1|n=>n⟩
theorem Tryz.lays29:Go.Proofs.Lays7.n29 Tryz.prog Tryz.lays29_ren:={
 mixed:=by kernel_rfl
 f29:=Tryz.func323.trans (congrArg some (by kernel_rfl))
 t0:=Tryz.underlying0
 a0:=Tryz.isAgg0
 z0:=Tryz.sizeOf0
 v0:=Tryz.zeroValue0
 i0:=by kernel_rfl
 t3:=Tryz.underlying3
 a3:=Tryz.isAgg3
 z3:=Tryz.sizeOf3
 v3:=Tryz.zeroValue3
 i3:=by kernel_rfl
 t4:=Tryz.underlying4
 a4:=Tryz.isAgg4
 z4:=Tryz.sizeOf4
 v4:=Tryz.zeroValue4
 i4:=by kernel_rfl
 t5:=Tryz.underlying5
 a5:=Tryz.isAgg5
 z5:=Tryz.sizeOf5
 v5:=Tryz.zeroValue5
 i5:=by kernel_rfl
 t22:=Tryz.underlying277
 a22:=Tryz.isAgg277
 z22:=Tryz.sizeOf277
 v22:=Tryz.zeroValue277
 i22:=by kernel_rfl
 t25:=Tryz.underlying264
 a25:=Tryz.isAgg264
 z25:=Tryz.sizeOf264
 v25:=Tryz.zeroValue264
 i25:=by kernel_rfl
 t54:=Tryz.underlying285
 a54:=Tryz.isAgg285
 z54:=Tryz.sizeOf285
 g1:=by kernel_rfl}
def Tryz.lays129_ren:Go.Shelf.Ren:=⟨fun|129=>316|n=>n,fun|53=>277|46=>264|3=>3|4=>4|5=>5|9=>9|n=>n,fun|n=>n⟩
theorem Tryz.lays129:Go.Proofs.Lays.n129 Tryz.prog Tryz.lays129_ren:={
 mixed:=by kernel_rfl
 f129:=Tryz.func316.trans (congrArg some (by kernel_rfl))
 t3:=Tryz.underlying3
 a3:=Tryz.isAgg3
 z3:=Tryz.sizeOf3
 v3:=Tryz.zeroValue3
 t4:=Tryz.underlying4
 a4:=Tryz.isAgg4
 z4:=Tryz.sizeOf4
 v4:=Tryz.zeroValue4
 t5:=Tryz.underlying5
 a5:=Tryz.isAgg5
 z5:=Tryz.sizeOf5
 v5:=Tryz.zeroValue5
 t9:=Tryz.underlying9
 a9:=Tryz.isAgg9
 z9:=Tryz.sizeOf9
 v9:=Tryz.zeroValue9
 t46:=Tryz.underlying264
 a46:=Tryz.isAgg264
 z46:=Tryz.sizeOf264
 v46:=Tryz.zeroValue264
 t53:=Tryz.underlying277
 a53:=Tryz.isAgg277
 z53:=Tryz.sizeOf277
 v53:=Tryz.zeroValue277}
end Go.Proofs
namespace Go.Ab
open Go Go.Proofs
theorem aYz(x:Nat)(h0:x≠0)(h:x<2^64):Lib.ctz 64 x=tz x:=by
 unfold Lib.ctz
 rw[if_neg h0]
 obtain⟨m,hm,_⟩:=Lib.ctzFrom_spec 64 x (by omega) h
 exact(QP hm).symm
theorem atw(x:Nat)(h:x<2^64):Lib.bitLen x=bl x:=by
 induction x using Nat.strongRecOn with
 |_ x ih=>
  by_cases h0:x=0
  ·subst h0;rfl
  ·rw[Lib.bitLen_half x h0 h,ih (x/2) (by omega) (by omega),aJd h0,Nat.add_comm]
theorem aGR(x:Nat)(h0:x≠0)(h:x<2^64):Con Tryz.prog 323 true [.v (.int .u64 x)] [] (isA (.v (.int .i64 (tz x)))):=
 Con.scalar (xs:=[.int .u64 x]) fun w hg=>by
  rw[←aYz x h0 h]
  exact Any7.bits_TrailingZeros64 Tryz.lays29 x h w fun _ j hj=>(hg 1 Lib.deBruijn64tab rfl).2 j hj
theorem asP(x:Nat)(h:x<2^64):Con Tryz.prog 316 true [.v (.int .u64 x)] [] (isA (.v (.int .i64 (bl x)))):=
 Con.scalar (xs:=[.int .u64 x]) fun w hg=>by
  rw[←atw x h]
  exact Any.bits_Len64 Tryz.lays129 x w (by omega) (by omega)
theorem aYG(x:Nat)(h0:x≠0)(h:x<2^64):Con Tryz.prog 306 true [.v (.int .u64 x)] [] (isA (.v (.int .i64 (tz x)))):=by
 refine Con.of_w (rs:=[.tmp 2]) Tryz.func306 rfl Tryz.ntmps306 rfl ?_
 simp(disch:=omega)only[go_sem]
 refine qo (aGR x h0 h) ?_
 simp(disch:=omega)only[go_sem]
 exact qz
theorem asQ(x:Nat)(h:x<2^64):Con Tryz.prog 293 true [.v (.int .u64 x)] [] (isA (.v (.int .i64 (bl x)))):=by
 refine Con.of_w (rs:=[.tmp 2]) Tryz.func293 rfl Tryz.ntmps293 rfl ?_
 simp(disch:=omega)only[go_sem]
 refine qo (asP x h) ?_
 simp(disch:=omega)only[go_sem]
 exact qz
theorem al5{x:Int}(h1:0≤x)(h2:x<9223372036854775808):IntKind.u64.wrap x=x:=by
 simp only[IntKind.wrap,IntKind.signed,IntKind.bits]
 simp only[Bool.false_and,Bool.false_eq_true,if_false]
 omega
theorem alH(m:Nat)(hl:(lim m).length≤2^40):Con Tryz.prog 246 true [.sl (lim (m)).length (qh (lim (m)))] [] (isA (.v (.int .i64 (bl m)))):=by
 refine Con.of_w (rs:=[.tmp 2]) Tryz.func246 rfl Tryz.ntmps246 rfl ?_
 simp(disch:=omega)only[go_sem]
 refine qe (fun h1=>?_) (fun h1=>?_)
 ·simp(disch:=omega)only[go_sem,h1]
  have:m=0:=qO.1 (List.length_eq_zero_iff.1 (by omega))
  subst this
  rw[Qi]
  exact qz
 ·have hm:m≠0:=fun e=>by rw[e,qt]at h1;simp at h1
  have e1:((lim m).length:Int).toNat-1=(lim m).length-1:=by omega
  have e2:(((lim m).length:Int)-1).toNat=(lim m).length-1:=by omega
  have ht:=Z6 hm
  have hb:=atu hm
  simp(disch:=omega)only[go_sem,h1,e2,zX]
  generalize m/65536^((lim m).length-1)=q at*
  have e3:((q % 65536:Nat):Int)=(q:Int):=by omega
  simp(disch:=omega)only[go_sem,e3,al5]
  refine⟨by omega,by omega,?_⟩
  refine qo (asQ q (by omega)) ?_
  simp(disch:=omega)only[go_sem]
  have hq:bl q≤16:=zD.2 (by omega)
  have e4:(16:Int)*(((lim m).length:Int)-1)+(bl q:Int)=(bl m:Int):=by omega
  simp(disch:=omega)only[go_sem,e4]
  exact qz
theorem aJl{m i:Nat}(hz:∀j,j<i→(lim m).getD j 0=0)(hx:(lim m).getD i 0≠0):tz m=16*i+tz (m/65536^i % 65536):=by
 rw[zX]at hx
 have hx':m/65536^i % 65536≠0:=fun e=>hx (by rw[e];rfl)
 obtain⟨a,ha⟩:=Yl hx'
 have hlow:65536^i*(m/65536^i)=m:=by
  have key:∀k,k≤i→m % 65536^k=0:=by
   intro k
   induction k with
   |zero=>intro _;simp[Nat.mod_one]
   |succ k ih=>
    intro hk
    have h1:=ih (by omega)
    have h2:=hz k (by omega)
    rw[zX]at h2
    have h3:m/65536^k % 65536=0:=by omega
    rw[Nat.pow_succ,Nat.mod_mul,h1,h3];omega
  have:=Nat.div_add_mod m (65536^i)
  rw[key i (Nat.le_refl _)]at this
  omega
 generalize hq:m/65536^i=q at*
 have ht:tz (q % 65536)<16:=by
  have h1:=yF hx'
  have:bl (q % 65536)≤16:=zD.2 (by omega)
  omega
 generalize hk:tz (q % 65536)=k at*
 have e16:(65536:Nat)=2^k*(2*2^(15-k)):=by rw[Nat.mul_left_comm,←Nat.pow_add,show k+(15-k)=15 by omega]
 refine QP (a:=a+2^(15-k)*(q/65536)) ?_
 have hd:=Nat.div_add_mod q 65536
 rw[←hlow,Nat.pow_add,←ZX]
 have h5:q=2^k*(2*(a+2^(15-k)*(q/65536))+1):=by
  have:q=2^k*(2*2^(15-k))*(q/65536)+2^k*(2*a+1):=by rw[←e16,←ha];omega
  generalize q/65536=y at*
  generalize 2^(15-k)=z at*
  grind
 generalize q/65536=y at*
 rw[Nat.mul_assoc,←h5]
theorem ae3(m:Nat)(hl:(lim m).length≤2^40):Con Tryz.prog 264 true [.sl (lim (m)).length (qh (lim (m)))] [] (isA (.v (.int .i64 (tz m)))):=by
 refine Con.of_w (rs:=[.tmp 2]) Tryz.func264 rfl Tryz.ntmps264 rfl ?_
 simp(disch:=omega)only[go_sem]
 refine qc (fun i:Nat=>[(0,.sl (lim (m)).length (qh (lim (m)))),(5,.sl (lim (m)).length (qh (lim (m)))),(6,.v (.int .i64 (lim m).length)),(7,.v (.int .i64 i))])
  (fun _=>[]) (fun i=>i≤(lim m).length∧∀j,j<i→(lim m).getD j 0=0) (fun i=>(lim m).length-i) 0 ⟨by omega,fun j hj=>by omega⟩ (Le.lst [] _ _ rfl (by simp(disch:=omega)only[go_sem];try omega) (by simp(disch:=omega)only[go_sem])) ?_
 rintro i ⟨hi,hz⟩
 simp(disch:=omega)only[go_sem]
 refine qe (fun h1=>?_) (fun h1=>?_)
 ·simp(disch:=omega)only[go_sem,h1]
  refine⟨by omega,by omega,zK (fun h2=>?_) (fun h2=>?_)⟩
  ·have ht:=aJl hz h2
   have hx:m/65536^i % 65536≠0:=fun e=>h2 (by rw[zX,e];rfl)
   have ht16:tz (m/65536^i % 65536)<16:=by
    have h1:=yF hx
    have:bl (m/65536^i % 65536)≤16:=zD.2 (by omega)
    omega
   simp(disch:=omega)only[go_sem,h2,zX]
   generalize hq:m/65536^i % 65536=q at*
   have hq6:q<65536:=by omega
   simp(disch:=omega)only[go_sem,al5]
   refine qo (aYG q hx (by omega)) ?_
   simp(disch:=omega)only[go_sem]
   have e4:(16:Int)*(i:Int)+(tz q:Int)=(tz m:Int):=by omega
   simp(disch:=omega)only[go_sem,e4]
   exact qz
  ·simp(disch:=omega)only[go_sem,h2]
   refine qa (i+1) [] ⟨by omega,fun j hj=>?_⟩ (by show(lim m).length-(i+1)<(lim m).length-i;omega) rfl (by simp(disch:=omega)only[go_sem];try omega) (by simp(disch:=omega)only[go_sem])
   rcases(by omega:j<i∨j=i)with h|h
   ·exact hz j h
   ·subst h;exact h2
 ·simp(disch:=omega)only[go_sem,h1]
  have hm:m=0:=by
   have:=zi m
   have h3:lim m=List.replicate (lim m).length 0:=by
    apply List.ext_getElem
    ·simp
    ·intro j h1 h2
     have:=hz j (by omega)
     rw[List.getD_eq_getElem?_getD,List.getElem?_eq_getElem h1]at this
     simpa using this
   rw[h3,zT]at this
   omega
  subst hm
  rw[al9]
  exact qz
theorem aa3(m:Nat)(i:Int)(hl:(lim m).length≤2^40)(hi:0≤i)(hi2:i<2^62):Con Tryz.prog 166 true [.sl (lim (m)).length (qh (lim (m))),.v (.int .i64 i)] [] (isA (.v (.int .i64 ((m/2^i.toNat % 2:Nat):Int)))):=by
 refine Con.of_w (rs:=[.tmp 4]) Tryz.func166 rfl Tryz.ntmps166 rfl ?_
 obtain⟨k,rfl⟩:=Int.eq_ofNat_of_zero_le hi
 rw[Int.toNat_natCast]
 have h0:¬((k:Int)<0):=by omega
 have e16:((k:Int)/16).toNat=k/16:=by omega
 have em:min ((k:Int) % 16).toNat 64=k % 16:=by omega
 have hb:=atv m k
 simp(disch:=omega)only[go_sem,h0]
 refine qe (fun h1=>?_) (fun h1=>?_)
 ·simp(disch:=omega)only[go_sem,h1]
  have:m/2^k % 2=0:=by
   rw[←hb]
   have h2:=zX m (k/16)
   rw[List.getD_eq_getElem?_getD,List.getElem?_eq_none (by omega)]at h2
   have h3:m/65536^(k/16) % 65536=0:=by simp only[Option.getD_none]at h2;omega
   rw[h3];simp
  rw[this]
  exact qz
 ·have hx:=qQ (zj m) (k/16)
  have hp:(0:Int)<2^(k % 16):=Int.pow_pos (by omega)
  have efd:∀x:Int,x.fdiv (2^(k % 16))=x/2^(k % 16):=fun x=>Int.fdiv_eq_ediv_of_nonneg _ (Int.le_of_lt hp)
  have hq:0≤(lim m).getD (k/16) 0/2^(k % 16)∧(lim m).getD (k/16) 0/2^(k % 16)<65536:=by
   refine⟨Int.ediv_nonneg hx.1 (Int.le_of_lt hp),Int.lt_of_le_of_lt (Int.ediv_le_self _ hx.1) hx.2⟩
  have hr:(lim m).getD (k/16) 0/2^(k % 16) % 2=((m/2^k % 2:Nat):Int):=by
   rw[←hb,zX]
   generalize m/65536^(k/16) % 65536=x
   rw[Int.natCast_emod,Int.natCast_ediv,Int.natCast_pow];rfl
  simp(disch:=omega)only[go_sem,h1,e16,em,efd,hr]
  refine⟨by omega,by omega,by omega,?_⟩
  exact qz
end Go.Ab
namespace Go.Ab
open Go Go.Proofs
theorem abo(a k:Nat):(vl (lim a)*2^k).toNat=a*2^k:=by
 rw[zi]
 have:((a:Int)*2^k)=((a*2^k:Nat):Int):=by rw[Int.natCast_mul,Int.natCast_pow];rfl
 rw[this,Int.toNat_natCast]
theorem abp(a k:Nat):(vl (lim a)/2^k).toNat=a/2^k:=by
 rw[zi]
 have:((a:Int)/2^k)=((a/2^k:Nat):Int):=by rw[Int.natCast_ediv,Int.natCast_pow];rfl
 rw[this,Int.toNat_natCast]
theorem aJp(a b:Nat):(vl (lim a)*vl (lim b)).toNat=a*b:=by rw[zi,zi,←Int.natCast_mul,Int.toNat_natCast]
theorem aJq(a b:Nat):(vl (lim a)+vl (lim b)).toNat=a+b:=by rw[zi,zi];omega
theorem aJo(a b:Nat):(vl (lim a)-vl (lim b)).toNat=a-b:=by rw[zi,zi];omega
theorem zG(n:Nat)(hn:n<2^63):Con Tryz.prog 157 false [.v (.int .i64 n)] [] (aOo (lim n)):=(asC false n hn).num
theorem asx(cl:Bool)(a k:Nat)(la:(lim a).length≤1000000)(hk:k≤100000000):Con Tryz.prog 248 cl [.sl (lim (a)).length (qh (lim (a))),.v (.int .i64 k)] [] (atY (lim (a*2^k))):=by
 have:=aYF cl (lim a) k (zj a) la hk
 rwa[abo]at this
theorem z7(a k:Nat)(la:(lim a).length≤1000000)(hk:k≤100000000):Con Tryz.prog 248 false [.sl (lim (a)).length (qh (lim (a))),.v (.int .i64 k)] [] (aOo (lim (a*2^k))):=(asx false a k la hk).num
theorem aaY(cl:Bool)(a k:Nat)(la:(lim a).length≤1000000)(hk:k≤100000000):Con Tryz.prog 265 cl [.sl (lim (a)).length (qh (lim (a))),.v (.int .i64 k)] [] (atY (lim (a/2^k))):=by
 have:=aG2 cl (lim a) k (zj a) la hk
 rwa[abp]at this
theorem as6(a k:Nat)(la:(lim a).length≤1000000)(hk:k≤100000000):Con Tryz.prog 265 false [.sl (lim (a)).length (qh (lim (a))),.v (.int .i64 k)] [] (aOo (lim (a/2^k))):=(aaY false a k la hk).num
theorem J2(a b:Nat)(la:(lim a).length≤1000000)(lb:(lim b).length≤1000000):Con Tryz.prog 252 false [.sl (lim (a)).length (qh (lim (a))),.sl (lim (b)).length (qh (lim (b)))] [] (aOo (lim (a*b))):=by
 have:=(asy false (lim a) (lim b) (zj a) (zj b) la lb).num
 rwa[aJp]at this
theorem aaO(a b:Nat)(la:(lim a).length≤2000000)(lb:(lim b).length≤2000000):Con Tryz.prog 304 false [.sl (lim (a)).length (qh (lim (a))),.sl (lim (b)).length (qh (lim (b)))] [] (aOo (lim (a+b))):=by
 have:=(aGS false (lim a) (lim b) (zj a) (zj b) la lb).num
 rwa[aJq]at this
theorem as7(a d:Nat)(la:(lim a).length≤1000000)(hd:0<d)(hd2:d<65536):
  Con Tryz.prog 328 false [.sl (lim (a)).length (qh (lim (a))),.v (.int .i64 d)] [] (isA (.tu [.sl (lim (a/d)).length (qh (lim (a/d))),.v (.int .i64 ((a % d:Nat):Int))])):=
 Con.frzA <| (aG3 false (lim a) d (zj a) la hd hd2).mono fun r hs bs ⟨zs,h1,h2⟩=>by
  rw[zi]at h1 h2
  rw[h1,h2]
  have e:((a:Int)/(d:Int)).toNat=a/d:=by
   rw[←Int.natCast_ediv,Int.toNat_natCast]
  rw[e]
  show qN _ 6 _=_
  unfold qN
  simp only[List.map_cons,List.map_nil]
  rw[j8 (k:=3) (l:=lim (a/d)) (zs:=zs) zg rfl]
  rw[Int.natCast_emod];rfl
end Go.Ab
namespace Go.Ab
open Go Go.Proofs
set_option maxRecDepth 100000 in
theorem alD(a b:Nat)(hb:b≠0)(la:(lim a).length≤900000)(lb:(lim b).length≤900000):
  Con Tryz.prog 324 false [.sl (lim (a)).length (qh (lim (a))),.sl (lim (b)).length (qh (lim (b)))] [] (bgi (.tu [.sl (lim (a/b)).length (qh (lim (a/b))),.sl (lim (a % b)).length (qh (lim (a % b)))])):=by
 refine Con.of_aw Tryz.func324 rfl Tryz.ntmps324 (by simp) (by simp) (by simp) (W.sound ?_)
 show @W Tryz.prog 96 ⟨_⟩ ⟨fun x σ=>@q9 _ _ _ ⟨_⟩ _ ⟨_⟩ x σ⟩ _ _
 simp(disch:=omega)only[go_sem]
 refine qy (jf a b (by omega) (by omega)) (by simp(disch:=omega)only[go_sem]) ?_
 rintro r hs ⟨rfl,rfl,_⟩
 refine⟨by simp[qG],?_⟩
 simp(disch:=omega)only[go_sem]
 refine qe (fun h1=>?_) (fun h1=>?_)
 ·simp(disch:=omega)only[go_sem,h1]
  have hab:a<b:=by
   unfold zQ at h1;split at h1
   ·omega
   ·split at h1<;>omega
  refine qb (aa2 false (lim a) (by omega)).num ?_
  simp(disch:=omega)only[go_sem]
  refine qY (by simp(disch:=omega)only[go_sem]) ?_
  show qN _ 6 _=_
  rw[Nat.div_eq_of_lt hab,Nat.mod_eq_of_lt hab]
  simp only[qN,qt];rfl
 ·have hab:b≤a:=by
   unfold zQ at h1;split at h1
   ·omega
   ·omega
  have ha:a≠0:=by omega
  have hlb:=y3 hb
  simp(disch:=omega)only[go_sem,h1]
  refine qe (fun h2=>?_) (fun h2=>?_)
  ·simp(disch:=omega)only[go_sem,h2]
   have hb6:b<65536:=by have:=Z4 b;rw[show(lim b).length=1 by omega]at this;omega
   have e0:(lim b).getD 0 0=(b:Int):=by rw[zX];simp;omega
   simp(disch:=omega)only[go_sem,e0]
   refine⟨by omega,by omega,?_⟩
   refine qb (as7 a b (by omega) (by omega) hb6) ?_
   simp(disch:=omega)only[go_sem]
   have:a % b<b:=Nat.mod_lt _ (by omega)
   refine qb (zG (a % b) (by omega)) ?_
   simp(disch:=omega)only[go_sem]
   exact qY (by simp(disch:=omega)only[go_sem]) (by rfl)
  ·have hl2:2≤(lim b).length:=by omega
   have hll:(lim b).length≤(lim a).length:=yP hab
   have ht:=Z6 hb
   have eb:(((lim b).length:Int)-1).toNat=(lim b).length-1:=by omega
   have hnd:=aFj hb _ rfl
   simp(disch:=omega)only[go_sem,h2,eb,zX]
   have e3:((b/65536^((lim b).length-1) % 65536:Nat):Int)=((b/65536^((lim b).length-1):Nat):Int):=by rw[Nat.mod_eq_of_lt ht.2]
   generalize hq:b/65536^((lim b).length-1)=q at*
   have hq16:bl q≤16:=zD.2 (by omega)
   simp(disch:=omega)only[go_sem,e3,al5]
   refine⟨by omega,by omega,?_⟩
   refine qo (asQ q (by omega)) ?_
   simp(disch:=omega)only[go_sem]
   have e4:(16:Int)-(bl q:Int)=((16-bl q:Nat):Int):=by omega
   simp(disch:=omega)only[go_sem,e4]
   generalize hs:16-bl q=s at*
   obtain⟨hs16,hvl,hv1,hvge⟩:=hnd
   refine qK (z7 b s (by omega) (by omega)) (by simp(disch:=omega)only[go_sem,e4]) ?_
   rintro r hs0 ⟨rfl,rfl,_⟩
   refine⟨by simp[qG],?_⟩
   simp(disch:=omega)only[go_sem]
   refine qK (asx false a s (by omega) (by omega)) (by simp(disch:=omega)only[go_sem,e4]) ?_
   have hun:a*2^s≠0:=by have:0<2^s:=Nat.pow_pos (by omega);have:=Nat.mul_pos (show 0<a by omega) this;omega
   rintro r hs1 (⟨h,_,_⟩|⟨zs,rfl,rfl⟩)
   ·exact absurd (qO.1 h) hun
   refine⟨⟨by simp,by simp(disch:=omega)only[go_sem]⟩,?_⟩
   have hul:=akX a hs16
   have hug:=arH a s
   have ex:((lim a).length:Int)+1-((lim (a*2^s)).length:Int)=(((lim a).length+1-(lim (a*2^s)).length:Nat):Int):=by omega
   have ecut:(lim (a*2^s)++zs).take (lim (a*2^s)).length=lim (a*2^s):=List.take_left' rfl
   have em:(((lim a).length:Int)-((lim b).length:Int)+1).toNat=(lim a).length-(lim b).length+1:=by omega
   simp(disch:=omega)only[go_sem,ex,ecut,em]
   generalize hU0:lim (a*2^s)++List.replicate ((lim a).length+1-(lim (a*2^s)).length) 0=U0
   have lU0:U0.length=(lim a).length+1:=by rw[←hU0];simp;omega
   have gU0:gd U0:=by rw[←hU0];exact qM.2 ⟨zj _,zw _⟩
   have vU0:vl U0=((a*2^s:Nat):Int):=by rw[←hU0,afC,zi]
   have hfw:=asd gU0 hll hlb hs16 lU0 vU0 hvge
   have elen:(lim (a*2^s)).length+((lim a).length+1-(lim (a*2^s)).length)=U0.length:=by omega
   refine⟨by omega,⟨by simp,by omega⟩,by omega,?_⟩
   generalize hV:lim (b*2^s)=V at*
   have gV:gd V:=by rw[←hV];exact zj _
   have vV:vl V=((b*2^s:Nat):Int):=by rw[←hV,zi]
   generalize hm:(lim a).length-(lim b).length+1=m at*
   refine qc (fun x:Nat×List Int×List Int=>[(8,.v (.int .i64 s)),(9,.sl V.length (qh V)),(10,.rf 0 0 x.2.1.length),(11,.rf 1 0 x.2.2.length),(12,.v (.int .i64 ((x.1:Int)-1)))])
    (fun x=>[(0,.own 1 (qh x.2.1)),(1,.own 1 (qh x.2.2))])
    (fun x=>x.1≤m∧x.2.1.length=U0.length∧gd x.2.1∧x.2.2.length=m∧gd x.2.2∧vl (x.2.1.drop x.1)<vl V∧vl x.2.1+vl V*(65536^x.1*vl (x.2.2.drop x.1))=((a*2^s:Nat):Int))
    (fun x=>x.1) (m,U0,List.replicate m 0) ⟨Nat.le_refl _,rfl,gU0,by simp,zw _,by show vl (U0.drop m)<vl V;rw[vV];exact hfw,by show vl U0+vl V*(65536^m*vl ((List.replicate m 0).drop m))=_;rw[List.drop_of_length_le (by simp)];simp[vl];exact vU0⟩
    (Le.lst [(0,580000000),(1,650000000)] _ _ rfl (by simp(disch:=omega)only[go_sem,elen,e4,List.length_replicate];try omega) (by simp(disch:=omega)only[go_sem,hU0,em])) ?_
   rintro⟨k,U,O⟩ ⟨hk,lU,gU,lO,gO,hlt,hval⟩
   dsimp only at hk lU gU lO gO hlt hval ⊢
   simp(disch:=omega)only[go_sem]
   refine qe (fun g1=>?_) (fun g1=>?_)
   ·obtain⟨j,rfl⟩:∃j,k=j+1:=⟨k-1,by omega⟩
    have ej:((j+1:Nat):Int)-1=(j:Nat):=by omega
    have hWj:vl (U.drop j)<65536*vl V:=by
     rw[zJ (by omega)]
     have:=qQ gU j
     omega
    simp(disch:=omega)only[go_sem,g1,ej]
    refine qy (afk U V j gU gV (by omega) (by omega) (by omega) (by rw[hvl];exact hv1) hWj) (by simp(disch:=omega)only[go_sem]) ?_
    rintro r hs ⟨qd,rfl,rfl,_,hq,hq1,hq2⟩
    refine⟨by simp[qG],?_⟩
    simp(disch:=omega)only[go_sem]
    refine zk false [0] (aaN U V j qd gU gV (by omega) (by omega) hq) (by simp(disch:=omega)only[go_sem]) (by simp(disch:=omega)only[go_sem]) rfl (qW (z:=1) (cs:=qh U) (by simp(disch:=omega)only[go_sem]) (by simp(disch:=omega)only[go_sem])) (by intro n hn;exact⟨_,List.mem_cons_self ..,by rw[List.mem_singleton.1 hn];rfl⟩) ?_
    rintro r hs bs ⟨U',bo,rfl,rfl,rfl,hl',gU',hbo,hsm,hv'⟩ _
    refine⟨by simp[qG],?_⟩
    generalize hT:U'.set (j+V.length) (U.getD (j+V.length) 0-bo)=T at*
    obtain⟨lT,vT,wT,tT,aT,pT,nT⟩:=aqN gU gV (by omega) hWj hq1 hq2 hl' gU' hsm hv' T hT.symm
    have hfin:∀(U2:List Int) (qf:Int),vl U2=vl U-65536^j*(qf*vl V)→vl U2+vl V*(65536^j*vl ((O.set j qf).drop j))=((a*2^s:Nat):Int):=by
     intro U2 qf h2
     rw[aae (by omega),h2,←hval,Int.pow_succ]
     generalize (65536:Int)^j=Pj at*
     grind
    simp(disch:=omega)only[go_sem]
    refine qe (fun g2=>?_) (fun g2=>?_)
    ·obtain⟨⟨n1,n2⟩,n3⟩:=nT g2
     simp(disch:=omega)only[go_sem,g2]
     refine zk false [0] (afm T V j n3 (by rw[tT];omega) gV (by omega) (by omega)) (by simp(disch:=omega)only[go_sem,lT]) (by simp(disch:=omega)only[go_sem]) rfl (qW (z:=1) (cs:=qh T) (by simp(disch:=omega)only[go_sem]) (by simp(disch:=omega)only[go_sem])) (by intro n hn;exact⟨_,List.mem_cons_self ..,by rw[List.mem_singleton.1 hn];rfl⟩) ?_
     rintro r hs bs ⟨T',rfl,rfl,rfl,lT',gT',sT',vT'⟩ _
     refine⟨by simp[qG],?_⟩
     rw[Int.add_mul]at hq1
     obtain⟨gT2,wT2⟩:=atz gV (by omega) lT' gT' sT' aT vT' (by omega) (by omega)
     simp(disch:=omega)only[go_sem,lO]
     have hqp:0<qd:=by
      have h3:=q7 (yx gU j)
      rcases(by omega:0<qd∨qd=0)with h|h
      ·exact h
      ·subst h;simp at n2;omega
     refine⟨by omega,by omega,qa (j,T',O.set j (qd-1)) [] ⟨by show j≤m;omega,by show T'.length=_;omega,gT2,by simp[lO],y4 gO (by omega),by show vl (T'.drop j)<vl V;omega,hfin T' (qd-1) ?_⟩ (by show j<j+1;omega) rfl (by simp(disch:=omega)only[go_sem,List.length_set];try omega) (by simp(disch:=omega)only[go_sem])⟩
     rw[vT',vT,Int.sub_mul,Int.one_mul,Int.mul_sub];omega
    ·obtain⟨p1,p2⟩:=pT g2
     rw[Int.add_mul]at hq1
     simp(disch:=omega)only[go_sem,g2,lO]
     refine⟨by omega,by omega,qa (j,T,O.set j qd) [] ⟨by show j≤m;omega,by show T.length=_;omega,p1,by simp[lO],y4 gO hq,by show vl (T.drop j)<vl V;omega,hfin T qd vT⟩ (by show j<j+1;omega) rfl (by simp(disch:=omega)only[go_sem,List.length_set];try omega) (by simp(disch:=omega)only[go_sem])⟩
   ·have:k=0:=by omega
    subst this
    rw[List.drop_zero]at hlt
    rw[List.drop_zero,Int.pow_zero,Int.one_mul]at hval
    have hvO:=q7 gO
    have hvU:=q7 gU
    have hcO:=jh gO
    have hcU:=jh gU
    have hpS:0<2^s:=Nat.pow_pos (by omega)
    obtain⟨d1,d2⟩:(vl O).toNat=a/b∧(vl U).toNat=a % b*2^s:=by
     refine aGE hpS (by omega) ?_ (by omega)
     rw[vV]at hval
     have:((vl U).toNat:Int)+((b*2^s:Nat):Int)*((vl O).toNat:Int)=((a*2^s:Nat):Int):=by
      rw[Int.toNat_of_nonneg hvO,Int.toNat_of_nonneg hvU];exact hval
     rw[←Int.natCast_mul,←Int.natCast_add]at this
     exact Int.ofNat.inj this
    rw[d1]at hcO
    rw[d2]at hcU
    obtain⟨zo,hzo⟩:=zP O
    obtain⟨zu,hzu⟩:=zP U
    have htU:=asv U
    rw[hcO]at hzo
    rw[hcU]at hzu htU
    simp(disch:=omega)only[go_sem,g1]
    refine zk false [1] (jv O (by omega)) (by simp(disch:=omega)only[go_sem]) (by simp(disch:=omega)only[go_sem]) rfl (qW (z:=1) (cs:=qh O) (by simp(disch:=omega)only[go_sem]) (by simp(disch:=omega)only[go_sem])) (by intro n hn;exact⟨_,List.mem_singleton.2 rfl,by rw[List.mem_singleton.1 hn];rfl⟩) ?_
    rintro r hs bs ⟨rfl,rfl,rfl⟩ _
    refine⟨by simp[qG],?_⟩
    simp(disch:=omega)only[go_sem]
    refine zk false [0] (jv U (by omega)) (by simp(disch:=omega)only[go_sem]) (by simp(disch:=omega)only[go_sem]) rfl (qW (z:=1) (cs:=qh U) (by simp(disch:=omega)only[go_sem]) (by simp(disch:=omega)only[go_sem])) (by intro n hn;exact⟨_,List.mem_singleton.2 rfl,by rw[List.mem_singleton.1 hn];rfl⟩) ?_
    rintro r hs bs ⟨rfl,rfl,rfl⟩ _
    refine⟨by simp[qG],?_⟩
    simp(disch:=omega)only[go_sem,hcO,hcU]
    have hlr:(lim (a % b*2^s)).length≤1000000:=by
     have:=congrArg List.length hzu
     simp at this;omega
    refine qy (aaY true (a % b*2^s) s hlr (by omega)) (by simp(disch:=omega)only[go_sem,htU]) ?_
    rw[Nat.mul_div_cancel _ hpS]
    rintro r hs2 (⟨h,rfl,rfl⟩|⟨z2,rfl,rfl⟩)
    ·refine⟨⟨by simp,by simp(disch:=omega)only[go_sem]⟩,?_⟩
     simp(disch:=omega)only[go_sem]
     refine ql [(0,1)] [.own 1 (qh O)] [] [.rf 0 0 (lim (a/b)).length,.v (.slice none 0 0)] rfl (by simp(disch:=omega)only[go_sem]) (by simp(disch:=omega)only[go_sem]) (by simp) (by simp) ?_
     show qN _ 6 _=_
     unfold qN
     simp only[zt,List.map_cons,List.map_nil]
     rw[hzo,j8 (k:=3) (l:=lim (a/b)) (zs:=List.replicate zo 0) zg rfl,h]
     rfl
    ·refine⟨⟨by simp,by simp(disch:=omega)only[go_sem]⟩,?_⟩
     simp(disch:=omega)only[go_sem]
     refine ql [(0,1),(1,970000000)] [.own 1 (qh O),.own 1 (qh (lim (a % b)++z2))] [] [.rf 0 0 (lim (a/b)).length,.rf 1 0 (lim (a % b)).length] rfl (by simp(disch:=omega)only[go_sem]) (by simp(disch:=omega)only[go_sem]) (by simp) (by simp) ?_
     show qN _ 6 _=_
     unfold qN
     simp only[zt,List.map_cons,List.map_nil]
     rw[hzo,j8 (k:=3) (l:=lim (a/b)) (zs:=List.replicate zo 0) zg rfl,j8 (k:=3) (l:=lim (a % b)) (zs:=z2) aNC rfl]
end Go.Ab
namespace Go.Ab
open Go Go.Proofs
theorem J1(n lo hi:Int):Con Tryz.prog 85 true [.v (.int .i64 n),.v (.int .i64 lo),.v (.int .i64 hi)] [] (fun r hs bs=>r=.v (.bool (decide (lo≤n)&&decide (n≤hi)))∧hs=[]):=by
 refine Con.of_aw Tryz.func85 rfl Tryz.ntmps85 (by simp) (by simp) (by simp) (W.sound ?_)
 show @W Tryz.prog 15 ⟨_⟩ ⟨fun x σ=>@q9 _ _ _ ⟨_⟩ _ ⟨_⟩ x σ⟩ _ _
 simp(disch:=omega)only[go_sem]
 refine qe (fun h1=>?_) (fun h1=>?_)
 ·simp(disch:=omega)only[go_sem,h1]
  refine ql [] [] [] [.v (.bool (decide (n≤hi)))] rfl (by simp(disch:=omega)only[go_sem]) (by simp(disch:=omega)only[go_sem]) (by simp) (by simp[AV.pu,zt]) ⟨by simp[zt,h1],rfl⟩
 ·simp(disch:=omega)only[go_sem,h1]
  refine ql [] [] [] [.v (.bool false)] rfl (by simp(disch:=omega)only[go_sem]) (by simp(disch:=omega)only[go_sem]) (by simp) (by simp[AV.pu,zt]) ⟨by simp[zt,h1],rfl⟩
end Go.Ab
namespace Go.Ab
open Go Go.Proofs
theorem afj(a b:Nat)(hb:b≠0)(la:(lim a).length≤900000)(lb:(lim b).length≤900000):
  Con Tryz.prog 324 false [.sl (lim (a)).length (qh (lim (a))),.sl (lim (b)).length (qh (lim (b)))] [] (isA (.tu [.sl (lim (a/b)).length (qh (lim (a/b))),.sl (lim (a % b)).length (qh (lim (a % b)))])):=(alD a b hb la lb).frzA
theorem ae7(neg odd:Bool)(half mode:Int):Con Tryz.prog 325 true [.v (.bool neg),.v (.bool odd),.v (.int .i64 half),.v (.int .i64 mode)] [] (isA (.v (.bool (rup neg odd half mode)))):=by
 refine Con.of_aw Tryz.func325 rfl Tryz.ntmps325 (by simp) (by simp) (by simp) (W.sound ?_)
 show @W Tryz.prog 32 ⟨_⟩ ⟨fun x σ=>@q9 _ _ _ ⟨_⟩ _ ⟨_⟩ x σ⟩ _ _
 simp(disch:=omega)only[go_sem]
 refine qe (fun h1=>?_) (fun h1=>?_)
 ·simp(disch:=omega)only[go_sem,h1]
  exact qC (by simp(disch:=omega)only[go_sem]) (by simp(disch:=omega)only[go_sem]) ⟨by simp[zt,rup,h1],rfl,rfl⟩
 ·simp(disch:=omega)only[go_sem,h1]
  refine qe (fun h2=>?_) (fun h2=>?_)
  ·simp(disch:=omega)only[go_sem,h2]
   exact qC (by simp(disch:=omega)only[go_sem]) (by simp(disch:=omega)only[go_sem]) ⟨by simp[zt,rup,h2],rfl,rfl⟩
  ·simp(disch:=omega)only[go_sem,h2]
   refine qe (fun h3=>?_) (fun h3=>?_)
   ·simp(disch:=omega)only[go_sem,h3]
    refine zK (fun h4=>?_) (fun h4=>?_)
    ·simp(disch:=omega)only[go_sem,h4]
     refine qe (fun h5=>?_) (fun h5=>?_)
     ·simp(disch:=omega)only[go_sem,h5]
      exact qC (by simp(disch:=omega)only[go_sem]) (by simp(disch:=omega)only[go_sem]) ⟨by simp[zt,rup,h3,h5],rfl,rfl⟩
     ·simp(disch:=omega)only[go_sem,h5]
      exact qC (by simp(disch:=omega)only[go_sem]) (by simp(disch:=omega)only[go_sem]) ⟨by simp[zt,rup,h3,h4,h5],rfl,rfl⟩
    ·simp(disch:=omega)only[go_sem,h4]
     exact qC (by simp(disch:=omega)only[go_sem]) (by simp(disch:=omega)only[go_sem]) ⟨by simp[zt,rup,h3,h4],rfl,rfl⟩
   ·simp(disch:=omega)only[go_sem,h3]
    refine qe (fun h4=>?_) (fun h4=>?_)
    ·simp(disch:=omega)only[go_sem,h4]
     exact qC (by simp(disch:=omega)only[go_sem]) (by simp(disch:=omega)only[go_sem]) ⟨by simp[zt,rup,h4],rfl,rfl⟩
    ·simp(disch:=omega)only[go_sem,h4]
     exact qC (by simp(disch:=omega)only[go_sem]) (by simp(disch:=omega)only[go_sem]) ⟨by simp[zt,rup,h1,h2,h3,h4],rfl,rfl⟩
theorem Q8(neg:Bool)(a b:Nat)(mode:Int)(hb:b≠0)(la:bl a≤8000000)(lb:bl b≤8000000):
  Con Tryz.prog 309 false [.v (.bool neg),.sl (lim (a)).length (qh (lim (a))),.sl (lim (b)).length (qh (lim (b))),.v (.int .i64 mode)] [] (isA (.tu [.sl (lim (rq neg a b mode)).length (qh (lim (rq neg a b mode))),.v (.bool (decide (a % b=0)))])):=by
 refine Con.of_aw Tryz.func309 rfl Tryz.ntmps309 (by simp) (by simp) (by simp) (W.sound ?_)
 show @W Tryz.prog 36 ⟨_⟩ ⟨fun x σ=>@q9 _ _ _ ⟨_⟩ _ ⟨_⟩ x σ⟩ _ _
 simp(disch:=omega)only[go_sem]
 have lla:=qI la
 have llb:=qI lb
 refine qb (afj a b hb (by omega) (by omega)) ?_
 simp(disch:=omega)only[go_sem]
 have hmb:a % b<b:=Nat.mod_lt _ (by omega)
 have llr:=qI (Nat.le_trans (yi (Nat.le_of_lt hmb)) lb)
 have llq:=qI (Nat.le_trans (Y9 a b) la)
 refine qe (fun h1=>?_) (fun h1=>?_)
 ·simp(disch:=omega)only[go_sem,h1]
  have h0:a % b=0:=qO.1 (List.length_eq_zero_iff.1 (by omega))
  refine qY (by simp(disch:=omega)only[go_sem]) ⟨?_,rfl,rfl⟩
  simp[zt,rq,h0]
 ·simp(disch:=omega)only[go_sem,h1]
  have h0:a % b≠0:=fun e=>h1 (by rw[e,qt];rfl)
  refine qo (aa3 (a/b) 0 (by omega) (by omega) (by omega)) ?_
  simp(disch:=omega)only[go_sem]
  refine qb (z7 (a % b) 1 (by omega) (by omega)) ?_
  simp(disch:=omega)only[go_sem]
  have llu:=qI (Nat.le_trans (Y6 (a % b) 1) (Nat.add_le_add_right (Nat.le_trans (yi (Nat.le_of_lt hmb)) lb) 1))
  refine qo (jf (a % b*2^1) b (by omega) (by omega)) ?_
  simp(disch:=omega)only[go_sem]
  have e1:(decide (((a/b/1 % 2:Nat):Int)=1))=decide (a/b % 2=1):=by
   simp;omega
  refine qo (ae7 neg (decide (a/b % 2=1)) (zQ ((a % b*2^1:Nat):Int) (b:Int)) mode) ?_ (by simp(disch:=omega)only[go_sem,e1,Int.toNat_zero,Nat.pow_zero])
  simp(disch:=omega)only[go_sem]
  refine Qe (fun h2=>?_) (fun h2=>?_)
  ·simp(disch:=omega)only[go_sem,h2]
   refine qb (zG 1 (by omega)) ?_
   simp(disch:=omega)only[go_sem]
   have l1:(lim 1).length≤2000000:=by have:=qI (m:=1) (B:=1) (by decide);omega
   refine qb (aaO (a/b) 1 (by omega) l1) ?_
   simp(disch:=omega)only[go_sem]
   refine qY (by simp(disch:=omega)only[go_sem]) ⟨?_,rfl,rfl⟩
   have e:rq neg a b mode=a/b+1:=by unfold rq;rw[if_neg h0,if_pos h2]
   rw[e];simp[zt,h0]
  ·simp(disch:=omega)only[go_sem,h2]
   refine qY (by simp(disch:=omega)only[go_sem]) ⟨?_,rfl,rfl⟩
   have e:rq neg a b mode=a/b:=by unfold rq;rw[if_neg h0,if_neg (by rw[h2];simp)]
   rw[e];simp[zt,h0]
end Go.Ab
namespace Go.Ab
open Go Go.Proofs
theorem yT(s:Bool)(m:Nat)(e:Int):Con Tryz.prog 158 true [.ag [.v (.bool (s)),.sl (lim (m)).length (qh (lim (m))),.v (.int .i64 (e))]] [] (isA (.v (.bool (decide (m=0))))):=by
 refine Con.of_aw Tryz.func158 rfl Tryz.ntmps158 (by simp) (by simp) (by simp) (W.sound ?_)
 show @W Tryz.prog 7 ⟨_⟩ ⟨fun x σ=>@q9 _ _ _ ⟨_⟩ _ ⟨_⟩ x σ⟩ _ _
 simp(disch:=omega)only[go_sem]
 refine qC (by simp(disch:=omega)only[go_sem]) (by simp(disch:=omega)only[go_sem]) ⟨?_,rfl,rfl⟩
 have:decide (((lim m).length:Int)=0)=decide (m=0):=by
  rw[decide_eq_decide]
  exact⟨fun h=>qO.1 (List.length_eq_zero_iff.1 (by omega)),fun h=>by rw[h,qt];rfl⟩
 rw[this];rfl
theorem aZI(s:Bool)(m:Nat)(e:Int)(hm:(lim m).length≤2^40)(he: -2^40≤e∧e≤2^40):Con Tryz.prog 159 true [.ag [.v (.bool (s)),.sl (lim (m)).length (qh (lim (m))),.v (.int .i64 (e))]] [] (isA (.v (.int .i64 (if m=0 then 0 else(bl m:Int)+e)))):=by
 refine Con.of_w (rs:=[.tmp 2]) Tryz.func159 rfl Tryz.ntmps159 rfl ?_
 simp(disch:=omega)only[go_sem]
 refine qe (fun h1=>?_) (fun h1=>?_)
 ·simp(disch:=omega)only[go_sem,h1]
  have h0:m=0:=qO.1 (List.length_eq_zero_iff.1 (by omega))
  rw[if_pos h0]
  exact qz
 ·have h0:m≠0:=fun e=>h1 (by rw[e,qt];rfl)
  have:=abf (m:=m)
  simp(disch:=omega)only[go_sem,h1]
  refine qm rfl [⟨0,[],[]⟩,⟨1,[],[]⟩,⟨3,[1],[]⟩,⟨4,[1],[]⟩,⟨2,[4],[]⟩,⟨5,[],[]⟩,⟨6,[],[]⟩] (by kernel_rfl) ?_
  simp(disch:=omega)only[go_sem]
  refine qo (alH m hm) ?_
  simp(disch:=omega)only[go_sem]
  rw[if_neg h0]
  exact qz
theorem asI(s:Bool)(m:Nat)(e:Int)(hm:bl m≤10000000)(he: -2^40≤e∧e≤2^40):Con Tryz.prog 188 false [.ag [.v (.bool (s)),.sl (lim (m)).length (qh (lim (m))),.v (.int .i64 (e))]] [] (isA (.ag [.v (.bool (oS s m)),.sl (lim (oM m)).length (qh (lim (oM m))),.v (.int .i64 (oE m e))])):=by
 refine Con.frzA ?_
 refine Con.of_aw Tryz.func188 rfl Tryz.ntmps188 (by simp) (by simp) (by simp) (W.sound ?_)
 show @W Tryz.prog 23 ⟨_⟩ ⟨fun x σ=>@q9 _ _ _ ⟨_⟩ _ ⟨_⟩ x σ⟩ _ _
 simp(disch:=omega)only[go_sem]
 have hl:=qI hm
 refine qe (fun h1=>?_) (fun h1=>?_)
 ·simp(disch:=omega)only[go_sem,h1]
  have h0:m=0:=qO.1 (List.length_eq_zero_iff.1 (by omega))
  subst h0
  refine qY (by simp(disch:=omega)only[go_sem]) ?_
  show qN _ 6 _=_
  simp only[oS,Z2,oE,qt,if_true]
  simp(disch:=omega)only[go_sem]
 ·have h0:m≠0:=fun e=>h1 (by rw[e,qt];rfl)
  have ht:=yF h0
  simp(disch:=omega)only[go_sem,h1]
  refine qo (ae3 m (by omega)) ?_
  simp(disch:=omega)only[go_sem]
  refine qm rfl [⟨0,[],[]⟩,⟨1,[],[]⟩,⟨2,[1],[]⟩,⟨3,[1],[]⟩,⟨4,[1,3],[]⟩,⟨6,[1,3],[]⟩,⟨7,[1,3],[]⟩,⟨8,[1,3,7],[]⟩,⟨9,[1,3],[]⟩,⟨5,[1,7],[]⟩,⟨10,[],[]⟩,⟨11,[],[]⟩] (by kernel_rfl) ?_
  simp(disch:=omega)only[go_sem]
  refine qb (as6 m (tz m) (by omega) (by omega)) ?_
  simp(disch:=omega)only[go_sem]
  refine qY (by simp(disch:=omega)only[go_sem]) ?_
  show qN _ 6 _=_
  simp only[oS,oM,oE,if_neg h0]
  simp(disch:=omega)only[go_sem]
def ovA(m1:Nat)(k:Int):Nat:=m1*2^k.toNat
def ovQ(s:Bool)(m1:Nat)(e1:Int)(m2:Nat)(e2 low mode:Int):Nat:=rq s (ovA m1 (e1-e2-low)) (ovA m2 (-(e1-e2-low))) mode
def ovX(m1:Nat)(e1:Int)(m2:Nat)(e2 low:Int):Bool:=decide (ovA m1 (e1-e2-low) % ovA m2 (-(e1-e2-low))=0)
theorem aJb{m B:Nat}{k:Int}{C:Nat}(h:bl m≤B)(hk:k≤C):bl (ovA m k)≤B+C:=by
 have:=Y6 m k.toNat
 unfold ovA;omega
theorem aTw{m:Nat}{k:Int}(h:m≠0):ovA m k≠0:=by
 unfold ovA
 have:0<2^k.toNat:=Nat.pow_pos (by omega)
 have:=Nat.mul_pos (show 0<m by omega) this
 omega
theorem agd(s1:Bool)(m1:Nat)(e1:Int)(s2:Bool)(m2:Nat)(e2 low mode:Int)(h2:m2≠0)(hm1:bl m1≤4000000)(hm2:bl m2≤4000000)(hk: -4000000≤e1-e2-low∧e1-e2-low≤4000000)
  (he1: -2^40≤e1∧e1≤2^40) (he2: -2^40≤e2∧e2≤2^40) (hlo: -2^40≤low∧low≤2^40):
  Con Tryz.prog 268 false [.ag [.v (.bool (s1)),.sl (lim (m1)).length (qh (lim (m1))),.v (.int .i64 (e1))],.ag [.v (.bool (s2)),.sl (lim (m2)).length (qh (lim (m2))),.v (.int .i64 (e2))],.v (.int .i64 low),.v (.int .i64 mode)] []
   (isA (.tu [.ag [.v (.bool ((s1 != s2)&&decide (ovQ (s1 != s2) m1 e1 m2 e2 low mode≠0))),.sl (lim (ovQ (s1 != s2) m1 e1 m2 e2 low mode)).length (qh (lim (ovQ (s1 != s2) m1 e1 m2 e2 low mode))),.v (.int .i64 (low))],.v (.bool (ovX m1 e1 m2 e2 low))])):=by
 refine Con.frzA ?_
 refine Con.of_w (rs:=[.cell 8 117,.tmp 9]) Tryz.func268 rfl Tryz.ntmps268 rfl ?_
 have l1:=qI hm1
 have l2:=qI hm2
 generalize hsh:e1-e2-low=sh at*
 have eq1:ovQ (s1 != s2) m1 e1 m2 e2 low mode=rq (s1 != s2) (ovA m1 sh) (ovA m2 (-sh)) mode:=by unfold ovQ;rw[hsh]
 have eq2:ovX m1 e1 m2 e2 low=decide (ovA m1 sh % ovA m2 (-sh)=0):=by unfold ovX;rw[hsh]
 rw[eq1,eq2]
 simp(disch:=omega)only[go_sem,hsh]
 refine qm rfl [⟨0,[],[]⟩,⟨1,[],[]⟩,⟨2,[],[]⟩,⟨3,[2],[]⟩,⟨4,[2],[]⟩,⟨6,[2],[]⟩,⟨7,[2],[]⟩,⟨8,[2,7],[]⟩,⟨9,[2,7],[]⟩,⟨10,[2,7],[]⟩,⟨12,[2,7],[]⟩,⟨5,[7],[]⟩,⟨11,[],[]⟩,⟨13,[],[]⟩,⟨14,[],[]⟩,⟨15,[],[]⟩,⟨16,[],[]⟩,⟨17,[],[]⟩,⟨18,[],[]⟩] (by kernel_rfl) ?_
 have ex1:(if 0>sh then 0 else sh)=((sh.toNat:Nat):Int):=by split<;>omega
 have ex2:(if 0>0-sh then 0 else 0-sh)=(((-sh).toNat:Nat):Int):=by split<;>omega
 simp(disch:=omega)only[go_sem,ex1,ex2]
 refine qb (z7 m1 sh.toNat (by omega) (by omega)) ?_
 simp(disch:=omega)only[go_sem]
 refine qb (z7 m2 (-sh).toNat (by omega) (by omega)) ?_
 simp(disch:=omega)only[go_sem]
 refine qb (Q8 (s1 != s2) (ovA m1 sh) (ovA m2 (-sh)) mode (aTw h2) (aJb (C:=4000000) hm1 (by omega)) (aJb (C:=4000000) hm2 (by omega))) ?_ (by simp(disch:=omega)only[go_sem,ovA])
 simp(disch:=omega)only[go_sem]
 generalize rq (s1 != s2) (ovA m1 sh) (ovA m2 (-sh)) mode=q
 generalize decide (ovA m1 sh % ovA m2 (-sh)=0)=b
 have hq:decide ((0:Int)<((lim q).length:Int))=decide (q≠0):=by
  rw[decide_eq_decide]
  exact⟨fun h e=>by rw[e,qt]at h;simp at h,fun h=>by have:=y3 h;omega⟩
 refine Qe (fun h3=>?_) (fun h3=>?_)
 ·simp(disch:=omega)only[go_sem,h3,hq]
  exact qq (hp:=by simp(disch:=omega)only[go_sem,h3,Bool.true_and])
 ·simp(disch:=omega)only[go_sem,h3]
  exact qq (hp:=by simp(disch:=omega)only[go_sem,h3,Bool.false_and])
def roM(s:Bool)(m:Nat)(e low mode:Int):Nat:=if low≤e∨m=0 then m else rq s m (2^(low-e).toNat) mode
def roE(m:Nat)(e low:Int):Int:=if low≤e∨m=0 then e else low
def roX(m:Nat)(e low:Int):Bool:=if low≤e∨m=0 then true else decide (m % 2^(low-e).toNat=0)
def roS(s:Bool)(m:Nat)(e low mode:Int):Bool:=if low≤e∨m=0 then s else s&&decide (rq s m (2^(low-e).toNat) mode≠0)
theorem ae6(s:Bool)(m:Nat)(e low mode:Int)(hm:bl m≤4000000)(he: -1000000≤e∧e≤1000000)(hlo: -1000000≤low∧low≤1000000):
  Con Tryz.prog 196 false [.ag [.v (.bool (s)),.sl (lim (m)).length (qh (lim (m))),.v (.int .i64 (e))],.v (.int .i64 low),.v (.int .i64 mode)] []
   (isA (.tu [.ag [.v (.bool (roS s m e low mode)),.sl (lim (roM s m e low mode)).length (qh (lim (roM s m e low mode))),.v (.int .i64 (roE m e low))],.v (.bool (roX m e low))])):=by
 refine Con.frzA ?_
 refine Con.of_aw Tryz.func196 rfl Tryz.ntmps196 (by simp) (by simp) (by simp) (W.sound ?_)
 show @W Tryz.prog 25 ⟨_⟩ ⟨fun x σ=>@q9 _ _ _ ⟨_⟩ _ ⟨_⟩ x σ⟩ _ _
 simp(disch:=omega)only[go_sem]
 refine zK (fun h1=>?_) (fun h1=>?_)
 ·simp(disch:=omega)only[go_sem,h1]
  refine qo (yT s m e) ?_
  simp(disch:=omega)only[go_sem]
  refine qe (fun h2=>?_) (fun h2=>?_)
  ·simp(disch:=omega)only[go_sem,h2]
   refine qY (by simp(disch:=omega)only[go_sem]) ?_
   show qN _ 6 _=_
   simp only[roS,roM,roE,roX,h2,or_true,if_true]
   simp(disch:=omega)only[go_sem]
  ·simp(disch:=omega)only[go_sem,h2]
   refine qm rfl [⟨0,[],[]⟩,⟨3,[0],[]⟩,⟨4,[0],[]⟩,⟨1,[0],[]⟩,⟨2,[0],[]⟩,⟨5,[],[]⟩,⟨6,[],[]⟩,⟨7,[],[]⟩,⟨8,[],[]⟩,⟨9,[],[]⟩] (by kernel_rfl) ?_
   simp(disch:=omega)only[go_sem]
   refine qb (zG 1 (by omega)) ?_
   simp(disch:=omega)only[go_sem]
   refine qb (agd s m e false 1 0 low mode (by omega) hm (by decide) (by omega) (by omega) (by omega) (by omega)) ?_
   simp(disch:=omega)only[go_sem]
   refine qY (by simp(disch:=omega)only[go_sem]) ?_
   show qN _ 6 _=_
   have hc:¬(low≤e∨m=0):=by omega
   have e1:ovA m (e-0-low)=m:=by unfold ovA;rw[show(e-0-low).toNat=0 by omega];simp
   have e2:ovA 1 (-(e-0-low))=2^(low-e).toNat:=by unfold ovA;rw[show(-(e-0-low)).toNat=(low-e).toNat by omega];simp
   have e3:(s != false)=s:=by cases s<;>rfl
   simp only[roS,roM,roE,roX,if_neg hc,ovQ,ovX,e1,e2,e3]
   simp(disch:=omega)only[go_sem]
 ·simp(disch:=omega)only[go_sem,h1]
  refine qY (by simp(disch:=omega)only[go_sem]) ?_
  show qN _ 6 _=_
  simp only[roS,roM,roE,roX,h1,true_or,if_true]
  simp(disch:=omega)only[go_sem]
end Go.Ab
namespace Go.Ab
open Go Go.Proofs
theorem asM(cl:Bool)(A B:List Int)(hA:gd A)(hB:gd B)(lA:A.length≤1000000)(lB:B.length≤A.length)(hle:vl B≤vl A):
  Con Tryz.prog 305 cl [.sl A.length (qh A),.sl B.length (qh B)] [] (atY (lim (vl A-vl B).toNat)):=by
 refine Con.of_aw Tryz.func305 rfl Tryz.ntmps305 (by simp) (by simp) (by simp) (W.sound ?_)
 show @W Tryz.prog 43 ⟨_⟩ ⟨fun x σ=>@q9 _ _ _ ⟨_⟩ _ ⟨_⟩ x σ⟩ _ _
 simp(disch:=omega)only[go_sem]
 refine⟨by omega,?_⟩
 refine qc (fun x:Nat×List Int×Int=>[(1,.sl B.length (qh B)),(5,.rf 1 0 x.2.1.length),(6,.v (.int .i64 x.2.2)),(12,.sl A.length (qh A)),(13,.v (.int .i64 A.length)),(14,.v (.int .i64 x.1))])
  (fun x=>[(1,.own 1 (qh x.2.1))])
  (fun x=>x.1≤A.length∧x.2.1.length=x.1∧gd x.2.1∧(0≤x.2.2∧x.2.2≤1)∧vl x.2.1-65536^x.1*x.2.2=vl (A.take x.1)-vl (B.take x.1))
  (fun x=>A.length-x.1) (0,[],0) ⟨by simp,rfl,Jd,by simp,by simp[vl]⟩
  (Le.lst [(1,130000000)] _ _ rfl (by simp(disch:=omega)only[go_sem]) (by simp(disch:=omega)only[go_sem])) ?_
 rintro⟨i,out,bo⟩ ⟨hi,hol,hog,hbo,hov⟩
 dsimp only at hi hol hog hbo hov ⊢
 simp(disch:=omega)only[go_sem]
 refine qe (fun h1=>?_) (fun h1=>?_)
 ·have hx:=qQ hA i
  have hy:=qQ hB i
  have hstep:∀z b:Int,A.getD i 0-bo-B.getD i 0=z-65536*b→vl (out++[z])-65536^(i+1)*b=vl (A.take (i+1))-vl (B.take (i+1)):=by
   intro z b hz
   rw[jz,qX,qX,hol,Int.pow_succ]
   generalize (65536:Int)^i=Pi at*
   grind
  have hyz:¬i<B.length→B.getD i 0=0:=fun h=>by rw[List.getD_eq_getElem?_getD,List.getElem?_eq_none (by omega)];rfl
  simp(disch:=omega)only[go_sem,h1]
  refine⟨by omega,by omega,qe (fun h2=>?_) (fun h2=>?_)⟩
  ·simp(disch:=omega)only[go_sem,h2]
   refine⟨by omega,by omega,qe (fun h3=>?_) (fun h3=>?_)⟩
   ·simp(disch:=omega)only[go_sem,h3]
    refine⟨by omega,qa (i+1,out++[A.getD i 0-bo-B.getD i 0+65536],1) [(1,410000000)] ⟨by show i+1≤_;omega,by simp[hol],qM.2 ⟨hog,zZ.2 (by omega)⟩,by simp,hstep (A.getD i 0-bo-B.getD i 0+65536) 1 (by omega)⟩ (by show A.length-(i+1)<A.length-i;omega) rfl (by simp(disch:=omega)only[go_sem,List.length_append];try omega) (by simp(disch:=omega)only[go_sem])⟩
   ·simp(disch:=omega)only[go_sem,h3]
    refine⟨by omega,qa (i+1,out++[A.getD i 0-bo-B.getD i 0],0) [(1,410000000)] ⟨by show i+1≤_;omega,by simp[hol],qM.2 ⟨hog,zZ.2 (by omega)⟩,by simp,hstep (A.getD i 0-bo-B.getD i 0) 0 (by omega)⟩ (by show A.length-(i+1)<A.length-i;omega) rfl (by simp(disch:=omega)only[go_sem,List.length_append];try omega) (by simp(disch:=omega)only[go_sem])⟩
  ·simp(disch:=omega)only[go_sem,h2]
   refine qe (fun h3=>?_) (fun h3=>?_)
   ·simp(disch:=omega)only[go_sem,h3]
    have hy0:=hyz (by omega)
    refine⟨by omega,qa (i+1,out++[A.getD i 0-bo+65536],1) [(1,410000000)] ⟨by show i+1≤_;omega,by simp[hol],qM.2 ⟨hog,zZ.2 (by omega)⟩,by simp,hstep (A.getD i 0-bo+65536) 1 (by omega)⟩ (by show A.length-(i+1)<A.length-i;omega) rfl (by simp(disch:=omega)only[go_sem,List.length_append];try omega) (by simp(disch:=omega)only[go_sem])⟩
   ·simp(disch:=omega)only[go_sem,h3]
    have hy0:=hyz (by omega)
    refine⟨by omega,qa (i+1,out++[A.getD i 0-bo],0) [(1,410000000)] ⟨by show i+1≤_;omega,by simp[hol],qM.2 ⟨hog,zZ.2 (by omega)⟩,by simp,hstep (A.getD i 0-bo) 0 (by omega)⟩ (by show A.length-(i+1)<A.length-i;omega) rfl (by simp(disch:=omega)only[go_sem,List.length_append];try omega) (by simp(disch:=omega)only[go_sem])⟩
 ·simp(disch:=omega)only[go_sem,h1]
  have hiA:i=A.length:=by omega
  subst hiA
  rw[List.take_length,List.take_of_length_le lB]at hov
  have hb0:bo=0:=by
   have h2:=QN hog
   rw[hol]at h2
   rcases(by omega:bo=0∨bo=1)with h|h
   ·exact h
   ·subst h;omega
  subst hb0
  have hov2:vl out=vl A-vl B:=by omega
  refine zk false [1] (jv out (by omega)) (by simp(disch:=omega)only[go_sem]) (by simp(disch:=omega)only[go_sem]) rfl (qW (z:=1) (cs:=qh out) (by simp(disch:=omega)only[go_sem]) (by simp(disch:=omega)only[go_sem])) (by intro n hn;exact⟨_,List.mem_singleton.2 rfl,by rw[List.mem_singleton.1 hn];rfl⟩) ?_
  rintro r hs bs ⟨rfl,rfl,rfl⟩ _
  refine⟨by simp[qG],?_⟩
  simp(disch:=omega)only[go_sem]
  obtain⟨z,hz⟩:=zP out
  have hc:=jh hog
  rw[hov2]at hc
  rw[hc]at hz ⊢
  refine ql [(0,1)] [.own 1 (qh out)] [] [.rf 0 0 (lim (vl A-vl B).toNat).length] rfl (by simp(disch:=omega)only[go_sem]) (by simp(disch:=omega)only[go_sem]) (by simp) (by intro _;simp[zt,AV.pu,AV.pu.puL,Ob.pu,ze]) (.inr ⟨List.replicate z 0,rfl,by rw[←hz]⟩)
end Go.Ab
namespace Go.Ab
theorem aY1(m k:Nat):bl (m/2^k)≤bl m-k:=by
 rcases Nat.lt_or_ge m (2^k)with h|h
 ·rw[Nat.div_eq_of_lt h,Qi];omega
 ·have:=aJc h;omega
def Yx(xs:List Int):Bool:=decide (xs.length≤100)&&(xs.all (fun x=>decide (0≤x)&&decide (x≤65535))&&(decide (xs.length=0)||decide (xs.getD (xs.length-1) 0≠0)))
def zS(s:Bool)(xs:List Int):Bool:=Yx xs&& !(s&&decide (xs.length=0))
def dyB(s:Bool)(xs:List Int)(e:Int):Bool:=
 zS s xs&&((decide (-3000≤e)&&decide (e≤3000))&&(decide ((vl xs).toNat % 2=1)||(decide (xs.length=0)&&decide (e=0))))
theorem Zy{xs:List Int}(h:Yx xs=true):xs=lim (vl xs).toNat∧xs.length≤100:=by
 simp only[Yx,Bool.and_eq_true,decide_eq_true_eq,List.all_eq_true,Bool.or_eq_true]at h
 obtain⟨h1,h2,h3⟩:=h
 refine⟨YD (fun x hx=>by have:=h2 x hx;omega) ?_,h1⟩
 intro a x e
 subst e
 rcases h3 with h3|h3
 ·simp at h3
 ·simpa [List.getD_eq_getElem?_getD]using h3
theorem arx(m:Nat)(h:(lim m).length≤100):Yx (lim m)=true:=by
 simp only[Yx,Bool.and_eq_true,decide_eq_true_eq,List.all_eq_true,Bool.or_eq_true]
 refine⟨h,fun x hx=>?_,?_⟩
 ·have:=zj m x hx
  exact⟨this.1,by omega⟩
 ·rcases Nat.eq_zero_or_pos (lim m).length with h0|h0
  ·exact .inl h0
  ·refine .inr fun e=>?_
   have hm:m≠0:=fun e=>by rw[e,qt]at h0;simp at h0
   rw[zX]at e
   have:=Z6 hm
   rw[Nat.mod_eq_of_lt this.2]at e
   omega
theorem Jj{s:Bool}{xs:List Int}{e:Int}(h:dyB s xs e=true):∃m,xs=lim m∧(lim m).length≤100∧bl m≤1600∧(-3000≤e∧e≤3000)∧(m % 2=1∨(m=0∧e=0))∧(m=0→s=false):=by
 simp only[dyB,zS,Bool.and_eq_true,decide_eq_true_eq,Bool.or_eq_true]at h
 obtain⟨⟨h1,h2⟩,h3,h4⟩:=h
 obtain⟨h5,h6⟩:=Zy h1
 refine⟨(vl xs).toNat,h5,by rw[←h5];exact h6,?_,h3,?_,?_⟩
 ·have:=abf (m:=(vl xs).toNat)
  rw[←h5]at this;omega
 ·rcases h4 with h4|⟨h4,h7⟩
  ·exact .inl h4
  ·have:xs=[]:=List.length_eq_zero_iff.1 h4
   exact .inr ⟨by subst this;rfl,h7⟩
 ·intro e0
  rw[e0,qt]at h5
  subst h5
  simpa using h2
end Go.Ab
namespace Go.Ab
def blq(neg:Bool)(m k:Nat)(mode:Int):Bool:=
 if mode=1 then false else if mode=2 then !neg else if mode=3 then neg else if mode=4 then decide (m/2^(k-1) % 2=1)
 else decide (m/2^(k-1) % 2=1)&&(decide (tz m<k-1)||decide (m/2^k % 2=1))
theorem atc{a b:Int}:(0<zQ a b↔b<a)∧(zQ a b=0↔a=b)∧(0≤zQ a b↔b≤a):=by
 unfold zQ
 split
 ·omega
 ·split<;>omega
theorem afG{m:Nat}(h:m % 2=1):tz m=0:=QP (a:=m/2) (by simp;omega)
/-! ### The normal form and rounding-/
theorem aIK{m k:Nat}:oM (m*2^k)=oM m:=by
 by_cases h:m=0
 ·subst h;simp
 ·unfold oM
  rw[QQ h,Nat.pow_add,Nat.mul_comm (2^tz m),←Nat.div_div_eq_div_mul,Nat.mul_div_cancel _ (Nat.pow_pos (by omega))]
end Go.Ab
namespace Go.Ab
/-! ### Numbers with a sign-/
def sv(s:Bool)(m:Nat):Int:=if s=true then-(m:Int)else(m:Int)
theorem afO(s:Bool)(m:Nat):(sv s m).natAbs=m:=by unfold sv;split<;>omega
theorem yo(s:Bool):sv s 0=0:=by unfold sv;split<;>rfl
theorem bfy(z:Int):sv (decide (z<0)) z.natAbs=z:=by
 unfold sv;split
 ·rename_i h;simp only[decide_eq_true_eq]at h;omega
 ·rename_i h;simp only[decide_eq_true_eq]at h;omega
theorem afN(s:Bool)(m k:Nat):sv s (m*k)=sv s m*(k:Int):=by
 unfold sv;split
 ·rw[Int.natCast_mul,Int.neg_mul]
 ·rw[Int.natCast_mul]
theorem aSo(s:Bool)(m:Nat):sv (s&&decide (m≠0)) m=sv s m:=by
 by_cases h:m=0
 ·subst h;rw[yo,yo]
 ·rw[decide_eq_true h,Bool.and_true]
theorem bfw(s:Bool)(m:Nat):sv (oS s m) m=sv s m:=by
 unfold oS
 by_cases h:m=0
 ·subst h;rw[yo,yo]
 ·rw[if_neg h]
theorem bfx(s1:Bool)(m1:Nat)(s2:Bool)(m2:Nat):sv (s1 != s2) (m1*m2)=sv s1 m1*sv s2 m2:=by
 cases s1<;>cases s2<;>simp[sv,Int.natCast_mul,Int.neg_mul,Int.mul_neg]
theorem aSn{s:Bool}{m:Nat}(h:m≠0):decide (sv s m<0)=s:=by
 cases s<;>simp[sv]<;>omega
theorem aSm(s:Bool)(m:Nat):sv (!s) m= -sv s m:=by cases s<;>simp[sv]
def dv(K:Nat)(s:Bool)(m:Nat)(e:Int):Int:=sv s m*2^(e+K).toNat
theorem aYy{K:Nat}{s:Bool}{m:Nat}{e:Int}{s':Bool}{m':Nat}{e':Int}(h0:m≠0)(he: -(K:Int)≤e)(he': -(K:Int)≤e')(h:dv K s m e=dv K s' m' e'):
  s=s'∧oM m=oM m'∧oE m e=oE m' e'∧m'≠0:=by
 unfold dv at h
 obtain⟨a,ha⟩:∃a,a=(e+K).toNat:=⟨_,rfl⟩
 obtain⟨a',ha'⟩:∃a,a=(e'+K).toNat:=⟨_,rfl⟩
 rw[←ha,←ha']at h
 have habs:m*2^a=m'*2^a':=by
  have:=congrArg Int.natAbs h
  rw[Int.natAbs_mul,Int.natAbs_mul,afO,afO,Int.natAbs_pow,Int.natAbs_pow]at this
  exact this
 have hp:0<2^a:=Nat.pow_pos (by omega)
 have h1:0<m*2^a:=Nat.mul_pos (by omega) hp
 have h0':m'≠0:=fun e=>by rw[habs,e,Nat.zero_mul]at h1;omega
 have hM:oM m=oM m':=by rw[←@aIK m a,habs,aIK]
 have hT:tz m+a=tz m'+a':=by rw[←QQ h0,habs,QQ h0']
 refine⟨?_,hM,?_,h0'⟩
 ·have e1:sv s m*2^a=sv s (m*2^a):=by rw[afN,Int.natCast_pow];rfl
  have e2:sv s' m'*2^a'=sv s' (m'*2^a'):=by rw[afN,Int.natCast_pow];rfl
  rw[e1,e2,←habs]at h
  rw[←aSn (s:=s) (m:=m*2^a) (by omega),h,aSn (by omega)]
 ·unfold oE;rw[if_neg h0,if_neg h0'];omega
theorem Q4{K:Nat}{s:Bool}{e:Int}:dv K s 0 e=0:=by unfold dv;rw[yo,Int.zero_mul]
theorem ak8{K:Nat}{s:Bool}{m:Nat}{e:Int}:dv K s m e=0↔m=0:=by
 refine⟨fun h=>?_,fun h=>by rw[h,Q4]⟩
 unfold dv at h
 rcases Int.mul_eq_zero.1 h with h|h
 ·rw[←afO s m,h];rfl
 ·have:(0:Int)<2^(e+K).toNat:=Int.pow_pos (by omega)
  omega
theorem bhP(K:Nat)(s:Bool)(m:Nat)(e:Int):dv K (oS s m) m e=dv K s m e:=by unfold dv;rw[bfw]
theorem aI6(K:Nat)(s:Bool)(m:Nat)(e:Int):dv K (s&&decide (m≠0)) m e=dv K s m e:=by unfold dv;rw[aSo]
theorem aQh{K:Nat}{s:Bool}{m:Nat}{e:Int}(he: -(K:Int)≤e):dv K s (oM m) (oE m e)=dv K s m e:=by
 by_cases h:m=0
 ·subst h;rw[Z2,Q4,Q4]
 ·unfold dv oE
  rw[if_neg h]
  have e1:(e+(tz m:Int)+K).toNat=tz m+(e+K).toNat:=by omega
  conv=>rhs;rw[←@aIL m]
  rw[e1,Int.pow_add,afN,Int.natCast_pow,Int.mul_assoc];rfl
theorem aYx{K K':Nat}{s s':Bool}{m m':Nat}{e e':Int}(he: -(K:Int)≤e)(he': -(K':Int)≤e'):dv (K+K') (s != s') (m*m') (e+e')=dv K s m e*dv K' s' m' e':=by
 unfold dv
 have e1:(e+e'+((K+K':Nat):Int)).toNat=(e+K).toNat+(e'+K').toNat:=by omega
 rw[e1,Int.pow_add,bfx]
 simp only[Int.mul_assoc,Int.mul_left_comm]
/-! ### Sums-/
def suM(s1:Bool)(m1:Nat)(s2:Bool)(m2:Nat):Nat:=(sv s1 m1+sv s2 m2).natAbs
def suS(s1:Bool)(m1:Nat)(s2:Bool)(m2:Nat):Bool:=decide (sv s1 m1+sv s2 m2<0)
def sgS(s1:Bool)(m1:Nat)(s2:Bool)(m2:Nat):Bool:=if s1=s2 then s1 else if m2≤m1 then s1 else s2
theorem afP(s:Bool)(m1 m2:Nat):suM s m1 s m2=m1+m2:=by unfold suM sv;split<;>omega
theorem aIx{s1 s2:Bool}{m1 m2:Nat}(h:s1≠s2)(hm:m2≤m1):suM s1 m1 s2 m2=m1-m2:=by
 cases s1<;>cases s2<;>simp[suM,sv]at* <;>omega
theorem aIw{s1 s2:Bool}{m1 m2:Nat}(h:s1≠s2)(hm:¬m2≤m1):suM s1 m1 s2 m2=m2-m1:=by
 cases s1<;>cases s2<;>simp[suM,sv]at* <;>omega
theorem afQ(s:Bool)(m1 m2:Nat):sgS s m1 s m2=s:=by unfold sgS;rw[if_pos rfl]
theorem aIE{s1 s2:Bool}{m1 m2:Nat}(h:s1≠s2)(hm:m2≤m1):sgS s1 m1 s2 m2=s1:=by unfold sgS;rw[if_neg h,if_pos hm]
theorem aID{s1 s2:Bool}{m1 m2:Nat}(h:s1≠s2)(hm:¬m2≤m1):sgS s1 m1 s2 m2=s2:=by unfold sgS;rw[if_neg h,if_neg hm]
theorem aqY(s1:Bool)(m1:Nat)(s2:Bool)(m2:Nat):(sgS s1 m1 s2 m2&&decide (suM s1 m1 s2 m2≠0))=suS s1 m1 s2 m2:=by
 rw[Bool.eq_iff_iff]
 simp only[Bool.and_eq_true,decide_eq_true_eq,suS]
 unfold sgS suM
 cases s1<;>cases s2<;>simp[sv]
 all_goals omega
theorem aSp(s1:Bool)(m1:Nat)(s2:Bool)(m2:Nat):suM s1 m1 s2 m2≤m1+m2:=by unfold suM sv;split<;>split<;>omega
theorem aY2{a b B:Nat}(ha:bl a≤B)(hb:bl b≤B):bl (a+b)≤B+1:=by
 have h1:=zD.1 ha
 have h2:=zD.1 hb
 refine zD.2 ?_
 rw[Nat.pow_succ];omega
theorem agl{s1:Bool}{m1:Nat}{s2:Bool}{m2 B:Nat}(h1:bl m1≤B)(h2:bl m2≤B):bl (suM s1 m1 s2 m2)≤B+1:=
 Nat.le_trans (yi (aSp _ _ _ _)) (aY2 h1 h2)
def alE(m1:Nat)(e1:Int)(m2:Nat)(e2:Int):Int:=if m2=0 then e1 else if m1=0 then e2 else if e2<e1 then e2 else e1
def alA(m:Nat)(e E:Int):Nat:=m*2^(e-E).toNat
def adM(s1:Bool)(m1:Nat)(e1:Int)(s2:Bool)(m2:Nat)(e2:Int):Nat:=suM s1 (alA m1 e1 (alE m1 e1 m2 e2)) s2 (alA m2 e2 (alE m1 e1 m2 e2))
def adS(s1:Bool)(m1:Nat)(e1:Int)(s2:Bool)(m2:Nat)(e2:Int):Bool:=suS s1 (alA m1 e1 (alE m1 e1 m2 e2)) s2 (alA m2 e2 (alE m1 e1 m2 e2))
theorem QK{K:Int}{m1:Nat}{e1:Int}{m2:Nat}{e2:Int}(h1:K≤e1)(h2:K≤e2):K≤alE m1 e1 m2 e2:=by
 unfold alE
 repeat' split
 all_goals omega
theorem aJf{K:Int}{m1:Nat}{e1:Int}{m2:Nat}{e2:Int}(h1:e1≤K)(h2:e2≤K):alE m1 e1 m2 e2≤K:=by
 unfold alE
 repeat' split
 all_goals omega
theorem agn{K:Nat}{s:Bool}{m:Nat}{e E:Int}(hE: -(K:Int)≤E)(h:m≠0→E≤e):sv s (alA m e E)*2^(E+K).toNat=dv K s m e:=by
 by_cases h0:m=0
 ·subst h0;unfold alA;rw[Nat.zero_mul,yo,Q4,Int.zero_mul]
 ·have:=h h0
  unfold alA dv
  have e1:(e+K).toNat=(e-E).toNat+(E+K).toNat:=by omega
  rw[e1,Int.pow_add,afN,Int.natCast_pow,Int.mul_assoc];rfl
theorem Zj{m B:Nat}{e E:Int}{C:Nat}(h:bl m≤B)(hk:e-E≤C):bl (alA m e E)≤B+C:=by
 have:=Y6 m (e-E).toNat
 unfold alA;omega
theorem bii{K:Nat}{s1:Bool}{m1:Nat}{e1:Int}{s2:Bool}{m2:Nat}{e2:Int}(h1: -(K:Int)≤e1)(h2: -(K:Int)≤e2):
  dv K (adS s1 m1 e1 s2 m2 e2) (adM s1 m1 e1 s2 m2 e2) (alE m1 e1 m2 e2)=dv K s1 m1 e1+dv K s2 m2 e2:=by
 have hE: -(K:Int)≤alE m1 e1 m2 e2:=QK h1 h2
 have g1:m1≠0→alE m1 e1 m2 e2≤e1:=fun h=>by
  unfold alE
  repeat' split
  all_goals omega
 have g2:m2≠0→alE m1 e1 m2 e2≤e2:=fun h=>by
  unfold alE
  repeat' split
  all_goals omega
 rw[←agn hE g1,←agn hE g2,←Int.add_mul]
 show sv (adS s1 m1 e1 s2 m2 e2) (adM s1 m1 e1 s2 m2 e2)*_=_
 unfold adS adM suS suM
 rw[bfy]
end Go.Ab
namespace Go.Ab
open Go Go.Proofs
theorem J6(a b:Nat)(h:b≤a)(la:(lim a).length≤1000000):Con Tryz.prog 305 false [.sl (lim (a)).length (qh (lim (a))),.sl (lim (b)).length (qh (lim (b)))] [] (aOo (lim (a-b))):=by
 have:=(asM false (lim a) (lim b) (zj a) (zj b) la (yP h) (by rw[zi,zi];omega)).num
 rwa[aJo]at this
theorem YS(s1:Bool)(m1:Nat)(s2:Bool)(m2:Nat)(l1:(lim m1).length≤1000000)(l2:(lim m2).length≤1000000):
  Con Tryz.prog 263 false [.v (.bool s1),.sl (lim (m1)).length (qh (lim (m1))),.v (.bool s2),.sl (lim (m2)).length (qh (lim (m2)))] [] (isA (.tu [.v (.bool (sgS s1 m1 s2 m2)),.sl (lim (suM s1 m1 s2 m2)).length (qh (lim (suM s1 m1 s2 m2)))])):=by
 refine Con.frzA ?_
 have hge:(0≤zQ (m1:Int) (m2:Int))↔m2≤m1:=by rw[atc.2.2];omega
 refine Con.of_aw Tryz.func263 rfl Tryz.ntmps263 (by simp) (by simp) (by simp) (W.sound ?_)
 show @W Tryz.prog 31 ⟨_⟩ ⟨fun x σ=>@q9 _ _ _ ⟨_⟩ _ ⟨_⟩ x σ⟩ _ _
 simp(disch:=omega)only[go_sem]
 refine Qe (fun h1=>?_) (fun h1=>?_)
 ·have h1':s1=s2:=by simpa using h1
  simp(disch:=omega)only[go_sem,h1]
  subst h1'
  refine qb (aaO m1 m2 (by omega) (by omega)) ?_
  simp(disch:=omega)only[go_sem]
  refine qY (by simp(disch:=omega)only[go_sem]) ?_
  show qN _ 6 _=_
  rw[afQ,afP]
  simp(disch:=omega)only[go_sem]
 ·have h1':s1≠s2:=by simpa using h1
  simp(disch:=omega)only[go_sem,h1]
  refine qo (jf m1 m2 (by omega) (by omega)) ?_
  simp(disch:=omega)only[go_sem]
  refine qe (fun h2=>?_) (fun h2=>?_)
  ·have h2':m2≤m1:=hge.1 (by omega)
   simp(disch:=omega)only[go_sem,h2]
   refine qb (J6 m1 m2 h2' (by omega)) ?_
   simp(disch:=omega)only[go_sem]
   refine qY (by simp(disch:=omega)only[go_sem]) ?_
   show qN _ 6 _=_
   rw[aIE h1' h2',aIx h1' h2']
   simp(disch:=omega)only[go_sem]
  ·have h2':¬m2≤m1:=fun h=>h2 (by have:=hge.2 h;omega)
   simp(disch:=omega)only[go_sem,h2]
   refine qb (J6 m2 m1 (by omega) (by omega)) ?_
   simp(disch:=omega)only[go_sem]
   refine qY (by simp(disch:=omega)only[go_sem]) ?_
   show qN _ 6 _=_
   rw[aID h1' h2',aIw h1' h2']
   simp(disch:=omega)only[go_sem]
theorem Jt(s1:Bool)(m1:Nat)(e1:Int)(s2:Bool)(m2:Nat)(e2:Int)(h1:bl m1≤4000000)(h2:bl m2≤4000000)(he1: -1000000≤e1∧e1≤1000000)(he2: -1000000≤e2∧e2≤1000000):
  Con Tryz.prog 244 false [.ag [.v (.bool (s1)),.sl (lim (m1)).length (qh (lim (m1))),.v (.int .i64 (e1))],.ag [.v (.bool (s2)),.sl (lim (m2)).length (qh (lim (m2))),.v (.int .i64 (e2))]] [] (isA (.tu [.sl (lim (alA m1 e1 (alE m1 e1 m2 e2))).length (qh (lim (alA m1 e1 (alE m1 e1 m2 e2)))),.sl (lim (alA m2 e2 (alE m1 e1 m2 e2))).length (qh (lim (alA m2 e2 (alE m1 e1 m2 e2)))),.v (.int .i64 (alE m1 e1 m2 e2))])):=by
 refine Con.frzA ?_
 have l1:=qI h1
 have l2:=qI h2
 have hE:=QK (m1:=m1) (m2:=m2) he1.1 he2.1
 have hE2:=aJf (m1:=m1) (m2:=m2) he1.2 he2.2
 have x1:∀d:Int,(if 0>d then 0 else d)=((d.toNat:Nat):Int):=fun d=>by split<;>omega
 refine Con.of_aw Tryz.func244 rfl Tryz.ntmps244 (by simp) (by simp) (by simp) (W.sound ?_)
 show @W Tryz.prog 42 ⟨_⟩ ⟨fun x σ=>@q9 _ _ _ ⟨_⟩ _ ⟨_⟩ x σ⟩ _ _
 simp(disch:=omega)only[go_sem]
 refine qe (fun c1=>?_) (fun c1=>?_)
 ·have z1:m1=0:=qO.1 (List.length_eq_zero_iff.1 (by omega))
  simp(disch:=omega)only[go_sem,c1]
  refine qe (fun c2=>?_) (fun c2=>?_)
  ·have z2:m2=0:=qO.1 (List.length_eq_zero_iff.1 (by omega))
   have eE:alE m1 e1 m2 e2=e1:=by unfold alE;rw[if_pos z2]
   simp(disch:=omega)only[go_sem,c2]
   refine qm rfl [⟨0,[],[]⟩,⟨1,[],[]⟩,⟨2,[1],[]⟩,⟨3,[1],[]⟩,⟨4,[1,3],[]⟩,⟨5,[1],[]⟩,⟨6,[1],[]⟩,⟨8,[1,3],[]⟩,⟨9,[1,3],[]⟩,⟨10,[1,3,9],[]⟩,⟨11,[1,3,9],[]⟩,⟨12,[1,3,9,11],[]⟩,⟨13,[1,3,9],[]⟩,⟨14,[1,3,9],[]⟩,⟨16,[1,3,9,11],[]⟩,⟨7,[9,11],[]⟩,⟨15,[],[]⟩,⟨17,[],[]⟩,⟨18,[],[]⟩,⟨19,[],[]⟩] (by kernel_rfl) ?_
   simp(disch:=omega)only[go_sem,x1]
   refine qb (z7 m1 (e1-e1).toNat (by omega) (by omega)) ?_ (by simp(disch:=omega)only[go_sem,x1])
   simp(disch:=omega)only[go_sem]
   refine qb (z7 m2 (e2-e1).toNat (by omega) (by omega)) ?_ (by simp(disch:=omega)only[go_sem,x1])
   simp(disch:=omega)only[go_sem]
   refine qY (by simp(disch:=omega)only[go_sem]) ?_
   show qN _ 6 _=_
   rw[eE];unfold alA
   simp(disch:=omega)only[go_sem]
  ·have z2:m2≠0:=fun e=>c2 (by rw[e,qt];rfl)
   have eE:alE m1 e1 m2 e2=e2:=by unfold alE;rw[if_neg z2,if_pos z1]
   simp(disch:=omega)only[go_sem,c2]
   refine qm rfl [⟨0,[],[]⟩,⟨1,[],[]⟩,⟨2,[1],[]⟩,⟨3,[1],[]⟩,⟨4,[1,3],[]⟩,⟨5,[1],[]⟩,⟨6,[1],[]⟩,⟨8,[1,3],[]⟩,⟨9,[1,3],[]⟩,⟨10,[1,3,9],[]⟩,⟨11,[1,3,9],[]⟩,⟨12,[1,3,9,11],[]⟩,⟨13,[1,3,9],[]⟩,⟨14,[1,3,9],[]⟩,⟨16,[1,3,9,11],[]⟩,⟨7,[9,11],[]⟩,⟨15,[],[]⟩,⟨17,[],[]⟩,⟨18,[],[]⟩,⟨19,[],[]⟩] (by kernel_rfl) ?_
   simp(disch:=omega)only[go_sem,x1]
   refine qb (z7 m1 (e1-e2).toNat (by omega) (by omega)) ?_ (by simp(disch:=omega)only[go_sem,x1])
   simp(disch:=omega)only[go_sem]
   refine qb (z7 m2 (e2-e2).toNat (by omega) (by omega)) ?_ (by simp(disch:=omega)only[go_sem,x1])
   simp(disch:=omega)only[go_sem]
   refine qY (by simp(disch:=omega)only[go_sem]) ?_
   show qN _ 6 _=_
   rw[eE];unfold alA
   simp(disch:=omega)only[go_sem]
 ·have z1:m1≠0:=fun e=>c1 (by rw[e,qt];rfl)
  simp(disch:=omega)only[go_sem,c1]
  refine qe (fun c2=>?_) (fun c2=>?_)
  ·have z2:m2=0:=qO.1 (List.length_eq_zero_iff.1 (by omega))
   have eE:alE m1 e1 m2 e2=e1:=by unfold alE;rw[if_pos z2]
   simp(disch:=omega)only[go_sem,c2]
   refine qm rfl [⟨0,[],[]⟩,⟨1,[],[]⟩,⟨2,[1],[]⟩,⟨3,[1],[]⟩,⟨4,[1,3],[]⟩,⟨5,[1],[]⟩,⟨6,[1],[]⟩,⟨8,[1,3],[]⟩,⟨9,[1,3],[]⟩,⟨10,[1,3,9],[]⟩,⟨11,[1,3,9],[]⟩,⟨12,[1,3,9,11],[]⟩,⟨13,[1,3,9],[]⟩,⟨14,[1,3,9],[]⟩,⟨16,[1,3,9,11],[]⟩,⟨7,[9,11],[]⟩,⟨15,[],[]⟩,⟨17,[],[]⟩,⟨18,[],[]⟩,⟨19,[],[]⟩] (by kernel_rfl) ?_
   simp(disch:=omega)only[go_sem,x1]
   refine qb (z7 m1 (e1-e1).toNat (by omega) (by omega)) ?_ (by simp(disch:=omega)only[go_sem,x1])
   simp(disch:=omega)only[go_sem]
   refine qb (z7 m2 (e2-e1).toNat (by omega) (by omega)) ?_ (by simp(disch:=omega)only[go_sem,x1])
   simp(disch:=omega)only[go_sem]
   refine qY (by simp(disch:=omega)only[go_sem]) ?_
   show qN _ 6 _=_
   rw[eE];unfold alA
   simp(disch:=omega)only[go_sem]
  ·have z2:m2≠0:=fun e=>c2 (by rw[e,qt];rfl)
   have eE:(if e2<e1 then e2 else e1)=alE m1 e1 m2 e2:=by unfold alE;rw[if_neg z2,if_neg z1]
   simp(disch:=omega)only[go_sem,c2,eE]
   refine qm rfl [⟨0,[],[]⟩,⟨1,[],[]⟩,⟨2,[1],[]⟩,⟨3,[1],[]⟩,⟨4,[1,3],[]⟩,⟨5,[1],[]⟩,⟨6,[1],[]⟩,⟨8,[1,3],[]⟩,⟨9,[1,3],[]⟩,⟨10,[1,3,9],[]⟩,⟨11,[1,3,9],[]⟩,⟨12,[1,3,9,11],[]⟩,⟨13,[1,3,9],[]⟩,⟨14,[1,3,9],[]⟩,⟨16,[1,3,9,11],[]⟩,⟨7,[9,11],[]⟩,⟨15,[],[]⟩,⟨17,[],[]⟩,⟨18,[],[]⟩,⟨19,[],[]⟩] (by kernel_rfl) ?_
   simp(disch:=omega)only[go_sem,x1,eE]
   refine qb (z7 m1 (e1-alE m1 e1 m2 e2).toNat (by omega) (by omega)) ?_ (by simp(disch:=omega)only[go_sem,x1,eE])
   simp(disch:=omega)only[go_sem]
   refine qb (z7 m2 (e2-alE m1 e1 m2 e2).toNat (by omega) (by omega)) ?_ (by simp(disch:=omega)only[go_sem,x1,eE])
   simp(disch:=omega)only[go_sem]
   refine qY (by simp(disch:=omega)only[go_sem]) ?_
   show qN _ 6 _=_
   unfold alA
   simp(disch:=omega)only[go_sem]
theorem asF(s1:Bool)(m1:Nat)(e1:Int)(s2:Bool)(m2:Nat)(e2:Int)(h1:bl m1≤4000000)(h2:bl m2≤4000000)(he1: -1000000≤e1∧e1≤1000000)(he2: -1000000≤e2∧e2≤1000000):
  Con Tryz.prog 185 false [.ag [.v (.bool (s1)),.sl (lim (m1)).length (qh (lim (m1))),.v (.int .i64 (e1))],.ag [.v (.bool (s2)),.sl (lim (m2)).length (qh (lim (m2))),.v (.int .i64 (e2))]] [] (isA (.ag [.v (.bool (adS s1 m1 e1 s2 m2 e2)),.sl (lim (adM s1 m1 e1 s2 m2 e2)).length (qh (lim (adM s1 m1 e1 s2 m2 e2))),.v (.int .i64 (alE m1 e1 m2 e2))])):=by
 refine Con.frzA ?_
 have hE:=QK (m1:=m1) (m2:=m2) he1.1 he2.1
 have b1:=Zj (e:=e1) (E:=alE m1 e1 m2 e2) (C:=2000000) h1 (by omega)
 have b2:=Zj (e:=e2) (E:=alE m1 e1 m2 e2) (C:=2000000) h2 (by omega)
 have l1:=qI b1
 have l2:=qI b2
 refine Con.of_w (rs:=[.cell 4 117]) Tryz.func185 rfl Tryz.ntmps185 rfl ?_
 simp(disch:=omega)only[go_sem]
 refine qb (Jt s1 m1 e1 s2 m2 e2 h1 h2 he1 he2) ?_
 simp(disch:=omega)only[go_sem]
 unfold adS adM
 generalize alA m1 e1 (alE m1 e1 m2 e2)=A at*
 generalize alA m2 e2 (alE m1 e1 m2 e2)=B at*
 generalize alE m1 e1 m2 e2=E at*
 refine qb (YS s1 A s2 B (by omega) (by omega)) ?_
 simp(disch:=omega)only[go_sem]
 have hb:=agl (s1:=s1) (s2:=s2) b1 b2
 have hl:(lim (suM s1 A s2 B)).length≤2000000:=by have:=qI hb;omega
 have hq:decide ((0:Int)<((lim (suM s1 A s2 B)).length:Int))=decide (suM s1 A s2 B≠0):=by
  rw[decide_eq_decide]
  exact⟨fun h e=>by rw[e,qt]at h;simp at h,fun h=>by have:=y3 h;omega⟩
 rw[←aqY]
 refine Qe (fun h3=>?_) (fun h3=>?_)
 ·simp(disch:=omega)only[go_sem,h3,hq]
  exact qq (hp:=by simp(disch:=omega)only[go_sem,h3,Bool.true_and])
 ·simp(disch:=omega)only[go_sem,h3]
  exact qq (hp:=by simp(disch:=omega)only[go_sem,h3,Bool.false_and])
end Go.Ab
namespace Go.Ab
open Go Go.Proofs
def JM(b:Bool):AV→List Ob→List Ob→Prop:=fun r hs bs=>r=.v (.bool b)∧hs=[]
theorem alo(x:Int):Con Tryz.prog 299 true [.v (.int .i64 x)] [] (JM (decide (0≤x)&&decide (x≤65535))):=by
 refine Con.of_aw Tryz.func299 rfl Tryz.ntmps299 (by simp) (by simp) (by simp) (W.sound ?_)
 show @W Tryz.prog 5 ⟨_⟩ ⟨fun x σ=>@q9 _ _ _ ⟨_⟩ _ ⟨_⟩ x σ⟩ _ _
 simp(disch:=omega)only[go_sem]
 refine qy (J1 x 0 65535) (by simp(disch:=omega)only[go_sem]) ?_
 rintro r hs ⟨rfl,rfl⟩
 refine⟨by simp[qG],?_⟩
 simp(disch:=omega)only[go_sem]
 refine ql [] [] [] [.v (.bool (decide (0≤x)&&decide (x≤65535)))] rfl (by simp(disch:=omega)only[go_sem]) (by simp(disch:=omega)only[go_sem]) (by simp) (by simp[AV.pu,zt]) ⟨rfl,rfl⟩
theorem afl(g:Nat)(p:Int→Bool)(x:Int)(hf:Con Tryz.prog g true [.v (.int .i64 x)] [] (JM (p x)))(hg:qs Tryz.prog g):
  Con Tryz.prog 320 true [.v (.int .i64 x),.fp [.fn g []] 0] [] (JM (!p x)):=by
 refine Con.of_aw Tryz.func320 rfl Tryz.ntmps320 (by simp) (by simp) (by simp) (W.sound ?_)
 show @W Tryz.prog 8 ⟨_⟩ ⟨fun x σ=>@q9 _ _ _ ⟨_⟩ _ ⟨_⟩ x σ⟩ _ _
 simp(disch:=omega)only[go_sem]
 refine⟨hg,qy hf (by simp(disch:=omega)only[go_sem]) ?_⟩
 rintro r hs ⟨rfl,rfl⟩
 refine⟨by simp[qG],?_⟩
 simp(disch:=omega)only[go_sem]
 refine ql [] [] [] [.v (.bool (!p x))] rfl (by simp(disch:=omega)only[go_sem]) (by simp(disch:=omega)only[go_sem]) (by simp) (by simp[AV.pu,zt]) ⟨rfl,rfl⟩
theorem alw(f:Nat)(caps:List AV)(p:Int→Bool)(xs:List Int)(hl:xs.length≤2^40)(hf:∀x,Con Tryz.prog f true (.v (.int .i64 x)::caps) [] (JM (p x)))(hg:qs Tryz.prog f)
  (hc:∀h:Nat→Ob,caps.map (qN h 6)=caps) (hc5:∀h:Nat→Ob,caps.map (qN h 5)=caps) (hn:∀ks,AllL (yn ks) caps) (hr:∀ρ,zU ρ caps=caps):
  Con Tryz.prog 327 true [.sl xs.length (qh xs),.fn f caps] [] (fun r hs bs=>∃i:Int,r=.v (.int .i64 i)∧hs=[]∧(0≤i↔∃x∈xs,p x=true)):=by
 refine Con.of_aw Tryz.func327 rfl Tryz.ntmps327 (by simp) (by simp) (by simp) (W.sound ?_)
 show @W Tryz.prog 19 ⟨_⟩ ⟨fun x σ=>@q9 _ _ _ ⟨_⟩ _ ⟨_⟩ x σ⟩ _ _
 simp(disch:=omega)only[go_sem]
 refine qc (fun i:Nat=>[(0,.sl xs.length (qh xs)),(1,.fn f caps),(6,.sl xs.length (qh xs)),(7,.v (.int .i64 xs.length)),(8,.v (.int .i64 i))])
  (fun _=>[]) (fun i=>i≤xs.length∧∀j,j<i→p (xs.getD j 0)=false) (fun i=>xs.length-i) 0 ⟨by omega,fun j hj=>by omega⟩ (Le.lst [] _ _ rfl (by simp(disch:=omega)only[go_sem,hr,hn]) (by simp(disch:=omega)only[go_sem])) ?_
 rintro i ⟨hi,hp⟩
 simp(disch:=omega)only[go_sem]
 refine qe (fun h1=>?_) (fun h1=>?_)
 ·simp(disch:=omega)only[go_sem,h1]
  refine⟨by omega,by omega,hg,qy (hf (xs.getD i 0)) (by simp(disch:=omega)only[go_sem,hc,hc5]) ?_⟩
  rintro r hs ⟨rfl,rfl⟩
  refine⟨by simp[qG],?_⟩
  simp(disch:=omega)only[go_sem]
  refine Qe (fun h2=>?_) (fun h2=>?_)
  ·simp(disch:=omega)only[go_sem,h2]
   refine ql [] [] [] [.v (.int .i64 i)] rfl (by simp(disch:=omega)only[go_sem]) (by simp(disch:=omega)only[go_sem]) (by simp) (by simp[AV.pu,zt]) ⟨i,rfl,rfl,?_⟩
   refine⟨fun _=>⟨xs.getD i 0,?_,h2⟩,fun _=>by omega⟩
   rw[List.getD_eq_getElem?_getD,List.getElem?_eq_getElem (by omega)];exact List.getElem_mem _
  ·simp(disch:=omega)only[go_sem,h2]
   refine qa (i+1) [] ⟨by omega,fun j hj=>?_⟩ (by show xs.length-(i+1)<xs.length-i;omega) rfl (by simp(disch:=omega)only[go_sem,hr,hn];try omega) (by simp(disch:=omega)only[go_sem])
   rcases(by omega:j<i∨j=i)with h|h
   ·exact hp j h
   ·subst h;exact h2
 ·simp(disch:=omega)only[go_sem,h1]
  refine ql [] [] [] [.v (.int .i64 (-1))] rfl (by simp(disch:=omega)only[go_sem]) (by simp(disch:=omega)only[go_sem]) (by simp) (by simp[AV.pu,zt]) ⟨-1,rfl,rfl,?_⟩
  refine⟨fun h=>by omega,fun⟨x,hx,hpx⟩=>?_⟩
  obtain⟨j,hj,rfl⟩:=List.getElem_of_mem hx
  have:=hp j (by omega)
  rw[List.getD_eq_getElem?_getD,List.getElem?_eq_getElem hj]at this
  simp only[Option.getD_some]at this
  rw[this]at hpx;cases hpx
theorem Y0(f:Nat)(caps:List AV)(p:Int→Bool)(xs:List Int)(hl:xs.length≤2^40)(hf:∀x,Con Tryz.prog f true (.v (.int .i64 x)::caps) [] (JM (p x)))(hg:qs Tryz.prog f)
  (hc:∀h:Nat→Ob,caps.map (qN h 6)=caps) (hc5:∀h:Nat→Ob,caps.map (qN h 5)=caps) (hn:∀ks,AllL (yn ks) caps) (hr:∀ρ,zU ρ caps=caps):
  Con Tryz.prog 319 true [.sl xs.length (qh xs),.fn f caps] [] (JM (xs.any p)):=by
 refine Con.of_aw Tryz.func319 rfl Tryz.ntmps319 (by simp) (by simp) (by simp) (W.sound ?_)
 show @W Tryz.prog 9 ⟨_⟩ ⟨fun x σ=>@q9 _ _ _ ⟨_⟩ _ ⟨_⟩ x σ⟩ _ _
 simp(disch:=omega)only[go_sem]
 refine qy (alw f caps p xs hl hf hg hc hc5 hn hr) (by simp(disch:=omega)only[go_sem,hc,hc5]) ?_
 rintro r hs ⟨i,rfl,rfl,hi⟩
 refine⟨by simp[qG],?_⟩
 simp(disch:=omega)only[go_sem]
 refine ql [] [] [] [.v (.bool (decide (0≤i)))] rfl (by simp(disch:=omega)only[go_sem]) (by simp(disch:=omega)only[go_sem]) (by simp) (by simp[AV.pu,zt]) ⟨?_,rfl⟩
 have:decide (0≤i)=xs.any p:=by rw[Bool.eq_iff_iff,decide_eq_true_eq,hi,List.any_eq_true]
 rw[this];rfl
theorem alI(g:Nat)(p:Int→Bool)(xs:List Int)(hl:xs.length≤2^40)(hf:∀x,Con Tryz.prog g true [.v (.int .i64 x)] [] (JM (p x)))(hg:qs Tryz.prog g):
  Con Tryz.prog 298 true [.sl xs.length (qh xs),.fn g []] [] (JM (xs.all p)):=by
 refine Con.of_aw Tryz.func298 rfl Tryz.ntmps298 (by simp) (by simp) (by simp) (W.sound ?_)
 show @W Tryz.prog 9 ⟨_⟩ ⟨fun x σ=>@q9 _ _ _ ⟨_⟩ _ ⟨_⟩ x σ⟩ _ _
 simp(disch:=omega)only[go_sem]
 refine qy (Y0 320 [.fp [.fn g []] 0] (fun x=> !p x) xs hl (fun x=>afl g p x (hf x) hg) (by simp(disch:=omega)only[go_sem]) (fun h=>rfl) (fun h=>rfl) (fun ks=>by simp(disch:=omega)only[go_sem]) (fun ρ=>rfl)) (by simp(disch:=omega)only[go_sem]) ?_
 rintro r hs ⟨rfl,rfl⟩
 refine⟨by simp[qG],?_⟩
 simp(disch:=omega)only[go_sem]
 refine ql [] [] [] [.v (.bool (!xs.any fun x=> !p x))] rfl (by simp(disch:=omega)only[go_sem]) (by simp(disch:=omega)only[go_sem]) (by simp) (by simp[AV.pu,zt]) ⟨?_,rfl⟩
 have:(!xs.any fun x=> !p x)=xs.all p:=by rw[List.all_eq_not_any_not]
 rw[this];rfl
end Go.Ab
namespace Go.Ab
open Go Go.Proofs
theorem asJ(xs:List Int)(hl:xs.length≤2^40):Con Tryz.prog 251 true [.ag [.sl xs.length (qh xs)]] [] (JM (Yx xs)):=by
 refine Con.of_aw Tryz.func251 rfl Tryz.ntmps251 (by simp) (by simp) (by simp) (W.sound ?_)
 show @W Tryz.prog 29 ⟨_⟩ ⟨fun x σ=>@q9 _ _ _ ⟨_⟩ _ ⟨_⟩ x σ⟩ _ _
 have en:((xs.length:Int)-1).toNat=xs.length-1:=by omega
 simp(disch:=omega)only[go_sem]
 refine qe (fun h1=>?_) (fun h1=>?_)
 ·simp(disch:=omega)only[go_sem,h1]
  refine qy (alI 299 (fun x=>decide (0≤x)&&decide (x≤65535)) xs hl alo (by simp(disch:=omega)only[go_sem])) (by simp(disch:=omega)only[go_sem]) ?_
  rintro r hs ⟨rfl,rfl⟩
  refine⟨by simp[qG],?_⟩
  simp(disch:=omega)only[go_sem]
  refine Qe (fun h2=>?_) (fun h2=>?_)
  ·simp(disch:=omega)only[go_sem,h2]
   refine zK (fun h3=>?_) (fun h3=>?_)
   ·simp(disch:=omega)only[go_sem,h3,en]
    refine⟨by omega,by omega,?_⟩
    refine qC (by simp(disch:=omega)only[go_sem]) (by simp(disch:=omega)only[go_sem]) ⟨?_,rfl⟩
    have e1:decide (xs.length≤100)=true:=by simp;omega
    have e2:decide (xs.length=0)=false:=by simp;intro h;subst h;simp at h3
    show AV.v (.bool _)=AV.v (.bool _)
    unfold Yx
    rw[e1,h2,e2]
    simp
   ·simp(disch:=omega)only[go_sem,h3]
    refine qC (by simp(disch:=omega)only[go_sem]) (by simp(disch:=omega)only[go_sem]) ⟨?_,rfl⟩
    have e1:decide (xs.length≤100)=true:=by simp;omega
    have e2:decide (xs.length=0)=true:=by simp;exact List.length_eq_zero_iff.1 (by omega)
    show AV.v (.bool _)=AV.v (.bool _)
    unfold Yx
    rw[e1,h2,e2]
    simp
  ·simp(disch:=omega)only[go_sem,h2]
   refine qC (by simp(disch:=omega)only[go_sem]) (by simp(disch:=omega)only[go_sem]) ⟨?_,rfl⟩
   show AV.v (.bool _)=AV.v (.bool _)
   unfold Yx
   rw[h2];simp
 ·simp(disch:=omega)only[go_sem,h1]
  exact qC (by simp(disch:=omega)only[go_sem]) (by simp(disch:=omega)only[go_sem]) ⟨by simp[Yx,zt];omega,rfl⟩
end Go.Ab
namespace Go.Ab
open Go Go.Proofs
theorem Con.boolI{P:Program}{f:FuncId}{args:List AV}{b:Bool}(h:Con P f true args [] (JM b)):Con P f true args [] (isA (.v (.bool b))):=
 (Con.len h).mono fun r hs bs ⟨⟨h1,h2⟩,h3⟩=>⟨h1,h2,h3⟩
theorem jd(n lo hi:Int):Con Tryz.prog 85 true [.v (.int .i64 n),.v (.int .i64 lo),.v (.int .i64 hi)] [] (isA (.v (.bool (decide (lo≤n)&&decide (n≤hi))))):=
 Con.boolI (J1 n lo hi)
theorem aln(xs:List Int)(hl:xs.length≤2^40):Con Tryz.prog 251 true [.ag [.sl xs.length (qh xs)]] [] (isA (.v (.bool (Yx xs)))):=Con.boolI (asJ xs hl)
theorem ae1(s:Bool)(xs:List Int)(hl:xs.length≤2^40):Con Tryz.prog 165 true [.ag [.v (.bool s),.sl xs.length (qh xs)]] [] (isA (.v (.bool (zS s xs)))):=by
 refine Con.of_aw Tryz.func165 rfl Tryz.ntmps165 (by simp) (by simp) (by simp) (W.sound ?_)
 show @W Tryz.prog 18 ⟨_⟩ ⟨fun x σ=>@q9 _ _ _ ⟨_⟩ _ ⟨_⟩ x σ⟩ _ _
 simp(disch:=omega)only[go_sem]
 refine qo (aln xs hl) ?_
 simp(disch:=omega)only[go_sem]
 repeat' first
  |simp(disch:=omega)only[go_sem, *]
  |(with_reducible refine qe (fun _=>?_) (fun _=>?_))
  |(with_reducible refine zK (fun _=>?_) (fun _=>?_))
  |(with_reducible refine af2 (fun _=>?_) (fun _=>?_))
  |(with_reducible refine Qe (fun _=>?_) (fun _=>?_))
 all_goals exact qC (by simp(disch:=omega)only[go_sem]) (by simp(disch:=omega)only[go_sem]) ⟨by simp_all[zt,zS]<;>omega,rfl,rfl⟩
def ovB(s:Bool)(mode:Int):Bool:=decide (mode=1)||((decide (mode=2)&&s)||(decide (mode=3)&& !s))
def flB(k:Int)(s:Bool)(m e:Int):Bool:=
 if k=1 then(decide (-1074≤e)&&decide (e≤971))&&((decide (4503599627370496≤m)&&decide (m≤9007199254740991))||((decide (1≤m)&&decide (m≤4503599627370495))&&decide (e= -1074)))
 else if k=0∨k=2 then decide (m=0)&&decide (e=0)else((decide (k=3)&&decide (m=0))&&decide (e=0))&& !s
end Go.Ab
namespace Go.Ab
open Go Go.Proofs
def Jf(top:Int):Int:=if-1074>top-53 then-1074 else top-53
def flE(rm:Nat)(re:Int):Int:=Jf ((bl rm:Int)+re)
def flM(rm:Nat)(re:Int):Nat:=oM rm*2^(oE rm re-flE rm re).toNat
def aP6(top:Int)(same:Bool):Int:=if same then 0 else if top≤ -1022 then 5 else 1
def flK(s:Bool)(mode:Int)(rm:Nat)(re:Int):Int:=if rm=0 then 0 else if 1024<(bl rm:Int)+re then(if ovB s mode then 1 else 2)else 1
def bhM(s:Bool)(mode:Int)(rm:Nat)(re:Int):Int:=if rm=0 then 0 else if 1024<(bl rm:Int)+re then(if ovB s mode then 9007199254740991 else 0)else(flM rm re:Int)
def bhN(s:Bool)(mode:Int)(rm:Nat)(re:Int):Int:=if rm=0 then 0 else if 1024<(bl rm:Int)+re then(if ovB s mode then 971 else 0)else flE rm re
def biz(top:Int)(same:Bool)(rm:Nat)(re:Int):Int:=if rm≠0∧1024<(bl rm:Int)+re then 3 else aP6 top same
end Go.Ab
namespace Go.Ab
open Go
def qg{X:Type}(f:X→List AV)(l:List X):List AV:=(l.map f).flatten
section
variable {X:Type}{f:X→List AV}{z:Nat}{l:List X}
theorem yq:qg f []=[]:=by simp[qg]
theorem zy{x:X}:qg f (x::l)=f x++qg f l:=by simp[qg]
theorem ye(hz:∀x,(f x).length=z):(qg f l).length=l.length*z:=by
 induction l with
 |nil=>simp[qg]
 |cons x r ih=>rw[zy,List.length_append,hz,ih,List.length_cons,Nat.add_mul,Nat.one_mul,Nat.add_comm]
theorem aEU(hz:∀x,(f x).length=z)(i:Nat):(qg f l).drop (i*z)=qg f (l.drop i):=by
 induction l generalizing i with
 |nil=>simp[qg]
 |cons x r ih=>
  cases i with
  |zero=>simp
  |succ i=>
   rw[zy,List.drop_succ_cons,←ih,Nat.add_mul,Nat.one_mul,Nat.add_comm,←List.drop_drop,List.drop_left' (hz x)]
theorem aER(hz:∀x,(f x).length=z)(i:Nat):(qg f l).take (i*z)=qg f (l.take i):=by
 induction l generalizing i with
 |nil=>simp[qg]
 |cons x r ih=>
  cases i with
  |zero=>simp[yq]
  |succ i=>
   rw[zy,List.take_succ_cons,zy,←ih,Nat.add_mul,Nat.one_mul,Nat.add_comm,←hz x,List.take_length_add_append]
theorem jb(hz:∀x,(f x).length=z)(o n:Nat):cut (qg f l) (o*z) (n*z)=qg f ((l.drop o).take n):=by
 rw[cut,aEU hz,aER hz]
theorem QU(hz:∀x,(f x).length=z){i:Nat}(hi:i<l.length)(d:X):cut (qg f l) (i*z) z=f (l.getD i d):=by
 have h:=jb (l:=l) hz i 1
 rw[Nat.one_mul]at h
 have e:(l.drop i).take 1=[l.getD i d]:=by
  rw[List.drop_eq_getElem_cons hi,List.getD_eq_getElem?_getD,List.getElem?_eq_getElem hi];rfl
 rw[h,e,zy,yq,List.append_nil]
theorem ZU{ρ:Nat→Nat}(h:∀x,zU ρ (f x)=f x):zU ρ (qg f l)=qg f l:=by
 induction l with
 |nil=>rfl
 |cons x r ih=>
  rw[zy]
  have:∀a b:List AV,zU ρ (a++b)=zU ρ a++zU ρ b:=fun a b=>by simp[q6]
  rw[this,h,ih]
theorem Qr{hp:Nat→Ob}{k:Nat}(h:∀x,(f x).map (qN hp k)=f x):(qg f l).map (qN hp k)=qg f l:=by
 induction l with
 |nil=>rfl
 |cons x r ih=>rw[zy,List.map_append,h,ih]
theorem ZV{p:Nat→Prop}(h:∀x,AllL p (f x)):AllL p (qg f l):=by
 induction l with
 |nil=>simp[qg,AllL]
 |cons x r ih=>rw[zy];exact AllL.append (h x) ih
theorem aFG{h:Nat→Ob}{sz o:Nat}{K:AV→Prop}:@Qb true sz h (.fp (qg f l) o) ⟨K⟩=(o+sz≤(qg f l).length∧K (.ag (cut (qg f l) o sz))):=ID rfl
theorem QV{l':List X}:qg f l++qg f l'=qg f (l++l'):=by simp[qg]
end
structure FlV where
 k:Int
 s:Bool
 m:Int
 e:Int
def FlV.cs(x:FlV):List AV:=[.v (.int .i64 x.k),.v (.bool x.s),.v (.int .i64 x.m),.v (.int .i64 x.e)]
theorem aYl(x:FlV):x.cs.length=4:=rfl
theorem aIX{ρ:Nat→Nat}(x:FlV):zU ρ x.cs=x.cs:=rfl
theorem asc{hp:Nat→Ob}{k:Nat}(x:FlV):x.cs.map (qN hp (k+1))=x.cs:=rfl
theorem aIY{p:Nat→Prop}(x:FlV):AllL p x.cs:=by simp[FlV.cs,AllL,AV.All]
theorem aPv{l:List FlV}:(qg FlV.cs l).length=l.length*4:=ye aYl
theorem aPu{ρ:Nat→Nat}{l:List FlV}:zU ρ (qg FlV.cs l)=qg FlV.cs l:=ZU aIX
theorem aF7{hp:Nat→Ob}{k:Nat}{l:List FlV}:(qg FlV.cs l).map (qN hp (k+1))=qg FlV.cs l:=Qr asc
theorem aPw{p:Nat→Prop}{l:List FlV}:AllL p (qg FlV.cs l)=True:=eq_true (ZV aIY)
theorem aF8{p:Nat→Prop}{x:FlV}:AllL p x.cs=True:=eq_true (aIY x)
attribute [go_sem] aFG aPv aPu aF7 aPw aF8 aIX asc
end Go.Ab
namespace Go.Ab
open Go Go.Proofs
section
variable (g:Nat)(p:FlV→Bool)
end
def blH(x:FlV):Bool:=flB x.k x.s x.m x.e
end Go.Ab
namespace Go.Ab
open Go Go.Proofs
def flV(s:Bool)(m:Nat)(e mode:Int)(z:Bool):FlV:=
 if m=0 then⟨0,z,0,0⟩else
  ⟨flK s mode (roM s m e (Jf (bl m+e)) mode) (roE m e (Jf (bl m+e))),s,bhM s mode (roM s m e (Jf (bl m+e)) mode) (roE m e (Jf (bl m+e))),bhN s mode (roM s m e (Jf (bl m+e)) mode) (roE m e (Jf (bl m+e)))⟩
def flG(s:Bool)(m:Nat)(e mode:Int):Int:=
 if m=0 then 0 else biz (bl m+e) (roX m e (Jf (bl m+e))) (roM s m e (Jf (bl m+e)) mode) (roE m e (Jf (bl m+e)))
theorem ald(s1:Bool)(m1:Nat)(e1:Int)(s2:Bool)(m2:Nat)(e2:Int)(h1:bl m1≤4000000)(h2:bl m2≤4000000)(he1: -2^40≤e1∧e1≤2^40)(he2: -2^40≤e2∧e2≤2^40):
  Con Tryz.prog 168 false [.ag [.v (.bool (s1)),.sl (lim (m1)).length (qh (lim (m1))),.v (.int .i64 (e1))],.ag [.v (.bool (s2)),.sl (lim (m2)).length (qh (lim (m2))),.v (.int .i64 (e2))]] [] (isA (.ag [.v (.bool ((s1 != s2)&&decide (m1*m2≠0))),.sl (lim (m1*m2)).length (qh (lim (m1*m2))),.v (.int .i64 (e1+e2))])):=by
 refine Con.frzA ?_
 refine Con.of_w (rs:=[.cell 4 117]) Tryz.func168 rfl Tryz.ntmps168 rfl ?_
 simp(disch:=omega)only[go_sem]
 have l1:=qI h1
 have l2:=qI h2
 refine qb (J2 m1 m2 (by omega) (by omega)) ?_
 simp(disch:=omega)only[go_sem]
 have hl:(lim (m1*m2)).length≤2000000:=by have:=qI (Nat.le_trans (Y7 m1 m2) (Nat.add_le_add h1 h2));omega
 have hq:decide ((0:Int)<((lim (m1*m2)).length:Int))=decide (m1*m2≠0):=by
  rw[decide_eq_decide]
  exact⟨fun h e=>by rw[e,qt]at h;simp at h,fun h=>by have:=y3 h;omega⟩
 refine Qe (fun h3=>?_) (fun h3=>?_)
 ·simp(disch:=omega)only[go_sem,h3,hq]
  exact qq (hp:=by simp(disch:=omega)only[go_sem,h3,Bool.true_and])
 ·simp(disch:=omega)only[go_sem,h3]
  exact qq (hp:=by simp(disch:=omega)only[go_sem,h3,Bool.false_and])
end Go.Ab
namespace Go.Ab
open Go Go.Proofs
theorem ae0(n lo hi:Int):Con Tryz.prog 85 true [.v (.int .i64 n),.v (.int .i64 lo),.v (.int .i64 hi)] [] (isA (.v (.bool (decide (lo≤n)&&decide (n≤hi))))):=jd n lo hi
theorem aG1(s:Bool)(xs:List Int)(e:Int)(hl:xs.length≤2^40):Con Tryz.prog 74 true [.ag [.v (.bool s),.sl xs.length (qh xs),.v (.int .i64 e)]] [] (isA (.v (.bool (dyB s xs e)))):=by
 refine Con.of_aw Tryz.func74 rfl Tryz.ntmps74 (by simp) (by simp) (by simp) (W.sound ?_)
 show @W Tryz.prog 32 ⟨_⟩ ⟨fun x σ=>@q9 _ _ _ ⟨_⟩ _ ⟨_⟩ x σ⟩ _ _
 simp(disch:=omega)only[go_sem]
 refine qo (ae1 s xs hl) ?_
 simp(disch:=omega)only[go_sem]
 refine Qe (fun hw=>?_) (fun h1=>?_)
 ·have h1:=hw
  simp only[zS,Bool.and_eq_true]at h1
  obtain⟨hx,hll⟩:=Zy h1.1
  have hxs:xs=lim (vl xs).toNat:=hx
  generalize hm:(vl xs).toNat=m at*
  subst hx
  simp(disch:=omega)only[go_sem,hw]
  refine qo (ae0 e (-3000) 3000) ?_
  simp(disch:=omega)only[go_sem]
  refine af2 (fun h2=>?_) (fun h2=>?_)
  ·simp(disch:=omega)only[go_sem,h2]
   refine qC (by simp(disch:=omega)only[go_sem]) (by simp(disch:=omega)only[go_sem]) ⟨?_,rfl,rfl⟩
   simp[zt,dyB,hw,h2]
  ·simp(disch:=omega)only[go_sem,h2]
   refine qo (aa3 m 0 (by omega) (by omega) (by omega)) ?_
   simp(disch:=omega)only[go_sem]
   refine zK (fun h3=>?_) (fun h3=>?_)
   ·have h3':¬m % 2=1:=fun h=>h3 (by simp;omega)
    simp(disch:=omega)only[go_sem,h3]
    refine qe (fun h4=>?_) (fun h4=>?_)
    ·simp(disch:=omega)only[go_sem,h4]
     refine qC (by simp(disch:=omega)only[go_sem]) (by simp(disch:=omega)only[go_sem]) ⟨?_,rfl,rfl⟩
     have h4':(lim m).length=0:=by omega
     simp[zt,dyB,hw,h2,hm,h3',h4']
    ·simp(disch:=omega)only[go_sem,h4]
     refine qC (by simp(disch:=omega)only[go_sem]) (by simp(disch:=omega)only[go_sem]) ⟨?_,rfl,rfl⟩
     have h4':¬(lim m).length=0:=by omega
     simp[zt,dyB,hw,h2,hm,h3',h4']
   ·have h3':m % 2=1:=by simp at h3;omega
    simp(disch:=omega)only[go_sem,h3]
    refine qC (by simp(disch:=omega)only[go_sem]) (by simp(disch:=omega)only[go_sem]) ⟨?_,rfl,rfl⟩
    simp[zt,dyB,hw,h2,hm,h3']
 ·simp(disch:=omega)only[go_sem,h1]
  refine qC (by simp(disch:=omega)only[go_sem]) (by simp(disch:=omega)only[go_sem]) ⟨?_,rfl,rfl⟩
  simp[zt,dyB,h1]
end Go.Ab
namespace Go.Ab
open Go Go.Proofs
theorem afi(s:Bool)(m:Nat)(e:Int):Con Tryz.prog 76 false [.ag [.v (.bool (s)),.sl (lim (m)).length (qh (lim (m))),.v (.int .i64 (e))]] [] (isA (.ag [.v (.bool (s)),.sl (lim (m)).length (qh (lim (m))),.v (.int .i64 (e))])):=by
 refine Con.frzA ?_
 refine Con.of_w (rs:=[.cell 2 117]) Tryz.func76 rfl Tryz.ntmps76 rfl ?_
 simp(disch:=omega)only[go_sem]
 exact qq
def bkX(mode:Int):Bool:=decide (0≤mode)&&decide (mode≤4)
def dyV:AV→AV:=id
end Go.Ab
namespace Go.Ab
open Go Go.Proofs
end Go.Ab
namespace Go.Ab
open Go Go.Proofs
def muS(k1:Int)(s1:Bool)(m1:Int)(k2:Int)(s2:Bool)(m2:Int):Bool:=((s1&&decide (k1=1)) != (s2&&decide (k2=1)))&&decide (m1.toNat*m2.toNat≠0)
def blx(k1:Int)(s1:Bool)(m1 e1 k2:Int)(s2:Bool)(m2 e2 mode:Int):FlV:=
 if(decide (k1=3)||decide (k2=3))=true then⟨3,false,0,0⟩
 else if(decide (k1=2)||decide (k2=2))=true then(if(decide (k1=0)||decide (k2=0))=true then⟨3,false,0,0⟩else⟨2,s1 != s2,0,0⟩)
 else flV (muS k1 s1 m1 k2 s2 m2) (m1.toNat*m2.toNat) (e1+e2) mode (s1 != s2)
def bly(k1:Int)(s1:Bool)(m1 e1 k2:Int)(s2:Bool)(m2 e2 mode:Int):Int:=
 if(decide (k1=3)||decide (k2=3))=true then 0
 else if(decide (k1=2)||decide (k2=2))=true then(if(decide (k1=0)||decide (k2=0))=true then 16 else 0)
 else flG (muS k1 s1 m1 k2 s2 m2) (m1.toNat*m2.toNat) (e1+e2) mode
end Go.Ab
namespace Go.Ab
open Go Go.Proofs
section
variable {k1:Int}{s1:Bool}{m1 e1 k2:Int}{s2:Bool}{m2 e2 mode:Int}
end
end Go.Ab
namespace Go.Ab
theorem aTG(m:Nat):oM m % 2=1∨oM m=0:=by
 by_cases h0:m=0
 ·exact .inr (yJ.2 h0)
 ·exact .inl (Qw h0).1
theorem bkR(s:Bool)(m:Nat):oM m=0→oS s m=false:=fun h=>by unfold oS;rw[if_pos (yJ.1 h)]
end Go.Ab
namespace Go.Ab
open Go
theorem Jy(m:Nat):bhp [] m=.free:=by unfold bhp;split<;>simp
theorem Con.enter{P:Program}{f:FuncId}{cl:Bool}{args:List AV}{x:Value}(h:Con P f cl args [] (isA (.v x)))(R:Nat→Prop)(w:World)(vs:Array Value)
  (hlt:∀b,R b→b<w.heap.size) (hr:RepA R (fun _=>none) w vs args) (ha:AllL (fun m=>bhp [] m≠ .free) args) (hg:Gd w):
  Calls P f vs w fun e w'=>e=.returned x∧Ext (fun _=>False) w w':=by
 have hno:∀b,¬at1 (bhp []) (fun _=>none) b:=fun b ⟨nm,z,cs,B,e,_⟩=>by rw[Jy]at e;cases e
 have hh:HpOk R (fun _=>none) w (bhp []):=
  ⟨fun nm=>(by rw[Jy];trivial),fun nm z cs B e=>absurd e (by rw[Jy];simp),fun nm nm' z z' cs cs' B B' e=>absurd e (by rw[Jy];simp),fun nm z cs e=>absurd e (by rw[Jy];simp)⟩
 refine(h R (fun _=>none) w vs hlt hr ha hh ⟨hg,fun g l _=>hno g⟩).mono ?_
 rintro e w' ⟨y,r,hs,bs',R',ι',rfl,⟨rfl,rfl,rfl⟩,hf⟩
 refine⟨?_,hf.ext.os,hf.ext.tape,hf.ext.output,hf.ext.size,fun b hb _=>hf.ext.block b hb (hno b)⟩
 cases hf.rep with
 |fr _ _ h=>cases h;rfl
theorem Ext.kept{w w':World}(h:Ext (fun _=>False) w w')(may:MemPlace→Prop):w.keptBut w' may:=by
 refine⟨h.os,h.output,fun i hi=>?_⟩
 rw[h.block i hi (fun h=>h)]
 cases w.heap[i]? with
 |none=>trivial
 |some o=>cases o with
  |cells c t fr=>exact⟨rfl,rfl,rfl,fun _ _=>rfl⟩
  |map es cl=>exact .inr ⟨rfl,rfl⟩
  |_=>rfl
theorem Ext.below{w w':World}(h:Ext (fun _=>False) w w'):RowKit.Below w.heap.size w w':=⟨h.os,h.tape,h.output,h.size,fun k hk=>h.block k hk (fun h=>h)⟩
theorem Ext.trod{H:Type}{enc:TypeId×Value→H}{P:Program}{t:TypeId}{W W':World}(hw:Ext (fun _=>False) W W')(hl:laidOutB P=true)(hr:P.readableRec t=true)(hrow:t<P.types.size){v:Value}{d:DataW H}{ps:List MemPlace}
  (h:DataW.Trod enc P W 0 (fun _=>true) true t v d ps) (hlt:∀x∈ps,x.block<W.heap.size):DataW.Trod enc P W' 0 (fun b=>decide (b<W.heap.size)) true t v d ps:=
 RowKit.Below.trod hl hr hrow h hw.below hlt
theorem agj{w:World}{a:Addr}{v:Value}(h:w.cell? a=some v):a.block<w.heap.size:=by
 rcases Nat.lt_or_ge a.block w.heap.size with h'|h'
 ·exact h'
 ·simp[World.cell?,Array.getElem?_eq_none h']at h
theorem aZf(b o i:Nat):(⟨b,o,none⟩:Addr).add i=⟨b,o+i,none⟩:=by
 unfold Addr.add
 split
 ·subst_vars;rfl
 ·rfl
theorem aFZ{R:Nat→Prop}{W:World}:FRep R W (.slice none 0 0) (.sl 0 []):=
 .sl none 0 0 [] (fun _=>undef) 0 0 (Nat.le_refl _) (fun h=>absurd h (by simp)) (fun i h=>absurd h (by simp)) (fun i h=>absurd h (by simp))
end Go.Ab
namespace Go.Ab
open Go
structure DyV where
 s:Bool
 xs:List Int
 e:Int
def DyV.cs(x:DyV):List AV:=[.v (.bool x.s),.sl x.xs.length (qh x.xs),.v (.int .i64 x.e)]
theorem Zf(x:DyV):x.cs.length=3:=rfl
theorem aI4{ρ:Nat→Nat}(x:DyV):zU ρ x.cs=x.cs:=rfl
theorem aso{hp:Nat→Ob}{k:Nat}(x:DyV):x.cs.map (qN hp (k+1))=x.cs:=rfl
theorem aI5{p:Nat→Prop}(x:DyV):AllL p x.cs:=by simp[DyV.cs,AllL,AV.All]
theorem aQf{l:List DyV}:(qg DyV.cs l).length=l.length*3:=ye Zf
theorem aQe{ρ:Nat→Nat}{l:List DyV}:zU ρ (qg DyV.cs l)=qg DyV.cs l:=ZU aI4
theorem af8{hp:Nat→Ob}{k:Nat}{l:List DyV}:(qg DyV.cs l).map (qN hp (k+1))=qg DyV.cs l:=Qr aso
theorem asn{p:Nat→Prop}{l:List DyV}:AllL p (qg DyV.cs l)=True:=eq_true (ZV aI5)
theorem aGD{p:Nat→Prop}{x:DyV}:AllL p x.cs=True:=eq_true (aI5 x)
attribute [go_sem] aQf aQe af8 asn aGD aI4 aso
end Go.Ab
namespace Go.Ab
open Go
/-! ### The simplifier's words for truth values-/
theorem blh:(true==true)=true:=ID rfl
theorem blk:(false==false)=true:=ID rfl
theorem bli:(true==false)=false:=ID rfl
theorem blj:(false==true)=false:=ID rfl
theorem bkS:(true != true)=false:=ID rfl
theorem bkV:(false != false)=false:=ID rfl
theorem bkT:(true != false)=true:=ID rfl
theorem bkU:(false != true)=true:=ID rfl
theorem o_t(b:Bool):(true||b)=true:=ID rfl
theorem o_f(b:Bool):(false||b)=b:=ID rfl
theorem bkP(b:Bool):(b||true)=true:=by cases b<;>rfl
theorem bkQ(b:Bool):(b||false)=b:=by cases b<;>rfl
theorem a_t(b:Bool):(true&&b)=b:=ID rfl
theorem a_f(b:Bool):(false&&b)=false:=ID rfl
theorem bln(b:Bool):(b&&true)=b:=by cases b<;>rfl
theorem blo(b:Bool):(b&&false)=false:=by cases b<;>rfl
attribute [go_sem] blh blk bli blj bkS bkV bkT bkU o_t o_f
attribute [go_sem] bkP bkQ a_t a_f bln blo
theorem aQ2{P:Program}{t:TypeId}[h:FlE P t]{k m e k' m' e':Int}{s s':Bool}{K:AV→Prop}:
  @ji P .eql t (.ag [.v (.int .i64 k),.v (.bool s),.v (.int .i64 m),.v (.int .i64 e)]) (.ag [.v (.int .i64 k'),.v (.bool s'),.v (.int .i64 m'),.v (.int .i64 e')]) ⟨K⟩=K (.v (.bool (aYm k s m e k' s' m' e'))):=
 propext ⟨fun g=>g.2,fun g=>⟨h,g⟩⟩
theorem aQ1{P:Program}{t:TypeId}[h:FlE P t]{k m e k' m' e':Int}{s s':Bool}{K:AV→Prop}:
  @ji P .neq t (.ag [.v (.int .i64 k),.v (.bool s),.v (.int .i64 m),.v (.int .i64 e)]) (.ag [.v (.int .i64 k'),.v (.bool s'),.v (.int .i64 m'),.v (.int .i64 e')]) ⟨K⟩=K (.v (.bool (!aYm k s m e k' s' m' e'))):=
 propext ⟨fun g=>g.2,fun g=>⟨h,g⟩⟩
attribute [go_sem] aQ2 aQ1
/-! ### Bits of any numbers-/
def bin(x y:Int):Int:=IntKind.i64.wrap (BitVec.ofInt IntKind.i64.bits x^^^BitVec.ofInt IntKind.i64.bits y).toNat
theorem aQN{x y:Int}{P:Program}{t:Nat}{K:AV→Prop}:@ji P .xor t (.v (.int .i64 x)) (.v (.int .i64 y)) ⟨K⟩=K (.v (.int .i64 (bin x y))):=by
 simp only[ji,Zk,Ja,true_and];rfl
theorem Z1(x:Int):((BitVec.ofInt 64 x).toNat:Int)=x % 18446744073709551616:=by
 rw[BitVec.toNat_ofInt];omega
theorem alT{x:Int}{P:Program}{t:Nat}{K:AV→Prop}:@ji P .and t (.v (.int .i64 x)) (.v (.int .i64 255)) ⟨K⟩=K (.v (.int .i64 (x % 256))):=by
 have e:IntKind.i64.wrap (BitVec.ofInt 64 x&&&BitVec.ofInt 64 255).toNat=x % 256:=by
  have h1:=Z1 x
  have h2:(BitVec.ofInt 64 255).toNat=2^8-1:=by decide
  rw[BitVec.toNat_and,h2,Nat.and_two_pow_sub_one_eq_mod,Zs (by omega)]
  omega
 rw[←e];simp only[ji,Zk,Ja,true_and];rfl
theorem atx{x:Int}{P:Program}{t:Nat}{K:AV→Prop}:@ji P .and t (.v (.int .i64 x)) (.v (.int .i64 1073741823)) ⟨K⟩=K (.v (.int .i64 (x % 1073741824))):=by
 have e:IntKind.i64.wrap (BitVec.ofInt 64 x&&&BitVec.ofInt 64 1073741823).toNat=x % 1073741824:=by
  have h1:=Z1 x
  have h2:(BitVec.ofInt 64 1073741823).toNat=2^30-1:=by decide
  rw[BitVec.toNat_and,h2,Nat.and_two_pow_sub_one_eq_mod,Zs (by omega)]
  omega
 rw[←e];simp only[ji,Zk,Ja,true_and];rfl
attribute [go_sem] aQN alT atx
theorem aFJ{h:Nat→Ob}{n n' z z':Nat}{cs cs':List AV}(hn:h n=.own z cs)(hc:AllL (fun _=>False) cs)(hn':h n'=.own z' cs')(hc':AllL (fun _=>False) cs'):JZ h [n,n']:=by
 intro m hm
 rw[List.mem_cons,List.mem_singleton]at hm
 rcases hm with rfl|rfl
 ·exact⟨z,cs,hn,hc.mono fun _ h=>h.elim⟩
 ·exact⟨z',cs',hn',hc'.mono fun _ h=>h.elim⟩
def Z5(h:Nat→Ob)(nms:List Nat):List Nat→List Ob
 | []=>[]
 |n::r=>(h n).ren (back nms)::Z5 h nms r
theorem aav{h:Nat→Ob}{nms:List Nat}:∀r:List Nat,Z5 h nms r=r.map (fun n=>(h n).ren (back nms))
 | []=>rfl
 |n::r=>by rw[Z5,List.map_cons,aav r]
theorem arI{h:Nat→Ob}{nms:List Nat}:Z5 h nms []=[]:=ID rfl
theorem akY{h:Nat→Ob}{nms:List Nat}{n:Nat}{r:List Nat}:Z5 h nms (n::r)=(h n).ren (back nms)::Z5 h nms r:=ID rfl
attribute [go_sem] arI akY
theorem yD{P:Program}{f:FuncId}{aa0:List AV}{h:Nat→Ob}{c:Nat}{K:KV}(cl:Bool)(nms:List Nat){args:List AV}{bs:List Ob}{post:AV→List Ob→List Ob→Prop}(hc:Con P f cl args bs post)(ha:aa0.map (snp (hpx cl nms h) (idx nms) 6)=args)
  (hb:Z5 h nms nms=bs) (hnd:Zd nms=true) (hl:JZ h nms) (hin:∀n∈nms,∃a∈aa0,a.top=some n)
  (hk:∀r hs bs',post r hs bs'→bs'.length=bs.length→(hs.length≤10000000∧qG h c hs∧(cl=true→∀ob∈bs',ob.plain))∧K (r.ren (rho c nms)) (QO (abh (rho c nms) h c hs) nms (bs'.map (Ob.ren (rho c nms))))):@JK P f aa0 h c ⟨K⟩:=
 zk cl nms hc ha ((aav nms).symm.trans hb) hnd hl hin hk
end Go.Ab
namespace Go.Ab
open Go Go.Proofs
def jS(m:Nat):Bool:=decide ((lim m).length≤100)
def jW(m:Nat)(e:Int):Bool:=jS (oM m)&&(decide (-3000≤oE m e)&&decide (oE m e≤3000))
theorem asK(m:Nat)(hl:(lim m).length≤2^40):Con Tryz.prog 266 false [.sl (lim (m)).length (qh (lim (m)))] [] (isA (if jS m=true then .tu [.ag [.sl (lim (m)).length (qh (lim (m)))],.v (.bool true)]else .tu [.ag [.sl (lim (0)).length (qh (lim (0)))],.v (.bool false)])):=by
 refine Con.frzA ?_
 refine Con.of_w (rs:=[.cell 2 38,.tmp 3]) Tryz.func266 rfl Tryz.ntmps266 rfl ?_
 simp(disch:=omega)only[go_sem]
 refine qe (fun c1=>?_) (fun c1=>?_)
 ·have hf:jS m=false:=by unfold jS;simp;omega
  simp(disch:=omega)only[go_sem,c1]
  rw[hf,if_neg (by simp),qt]
  exact qq
 ·have hf:jS m=true:=by unfold jS;simp;omega
  simp(disch:=omega)only[go_sem,c1]
  rw[hf,if_pos rfl]
  refine qb ((aa2 false (lim m) (by omega)).num) ?_
  simp(disch:=omega)only[go_sem]
  exact qq
theorem ae2(s:Bool)(m:Nat)(hl:(lim m).length≤2^40):Con Tryz.prog 189 false [.v (.bool s),.sl (lim (m)).length (qh (lim (m)))] [] (isA (if jS m=true then .tu [.ag [.v (.bool (s&&decide (m≠0))),.sl (lim (m)).length (qh (lim (m)))],.v (.bool true)]else .tu [.ag [.v (.bool (false)),.sl (lim (0)).length (qh (lim (0)))],.v (.bool false)])):=by
 refine Con.frzA ?_
 have cn:=asK m hl
 have hq:decide ((0:Int)<((lim m).length:Int))=decide (m≠0):=by
  rw[decide_eq_decide]
  exact⟨fun h e=>by rw[e,qt]at h;simp at h,fun h=>by have:=y3 h;omega⟩
 cases hf:jS m
 ·rw[hf,if_neg (by simp)]at cn
  rw[if_neg (by simp),qt]
  refine Con.of_w (rs:=[.cell 4 40,.tmp 5]) Tryz.func189 rfl Tryz.ntmps189 rfl ?_
  simp(disch:=omega)only[go_sem]
  refine qb (cn) ?_
  simp(disch:=omega)only[go_sem]
  exact qq
 ·rw[hf,if_pos rfl]at cn
  rw[if_pos rfl]
  refine Con.of_w (rs:=[.cell 4 40,.tmp 5]) Tryz.func189 rfl Tryz.ntmps189 rfl ?_
  simp(disch:=omega)only[go_sem]
  refine qb (cn) ?_
  simp(disch:=omega)only[go_sem]
  cases s
  ·simp(disch:=omega)only[go_sem]
   exact qq
  ·simp(disch:=omega)only[go_sem,hq]
   exact qq
theorem aQv(s:Bool)(m:Nat)(e:Int)(hm:bl m≤10000000)(he: -2^39≤e∧e≤2^39):Con Tryz.prog 92 false [.ag [.v (.bool (s)),.sl (lim (m)).length (qh (lim (m))),.v (.int .i64 (e))]] [] (isA (if jW m e=true then .tu [.ag [.v (.bool (oS s m)),.sl (lim (oM m)).length (qh (lim (oM m))),.v (.int .i64 (oE m e))],.v (.bool true)]else .tu [.ag [.v (.bool (false)),.sl (lim (0)).length (qh (lim (0))),.v (.int .i64 (0))],.v (.bool false)])):=by
 refine Con.frzA ?_
 have hb:=Nat.le_trans (yi (aFg m)) hm
 have hl:=qI hb
 have cw:=ae2 (oS s m) (oM m) (by omega)
 have hs:(oS s m&&decide (oM m≠0))=oS s m:=by
  unfold oS
  by_cases h:m=0
  ·rw[if_pos h];rfl
  ·rw[if_neg h,decide_eq_true (show oM m≠0 from fun e=>h (yJ.1 e)),Bool.and_true]
 rw[hs]at cw
 cases hf:jS (oM m)
 ·rw[hf,if_neg (by simp)]at cw
  have hd:jW m e=false:=by unfold jW;rw[hf];rfl
  rw[hd,if_neg (by simp),qt]
  rw[qt]at cw
  refine Con.of_w (rs:=[.cell 2 42,.tmp 3]) Tryz.func92 rfl Tryz.ntmps92 rfl ?_
  simp(disch:=omega)only[go_sem]
  refine qb (asI s m e hm (by omega)) ?_
  simp(disch:=omega)only[go_sem]
  refine qb (cw) ?_
  simp(disch:=omega)only[go_sem]
  exact qq
 ·rw[hf,if_pos rfl]at cw
  have hd:jW m e=(decide (-3000≤oE m e)&&decide (oE m e≤3000)):=by unfold jW;rw[hf];rfl
  rw[hd]
  refine Con.of_w (rs:=[.cell 2 42,.tmp 3]) Tryz.func92 rfl Tryz.ntmps92 rfl ?_
  simp(disch:=omega)only[go_sem]
  refine qb (asI s m e hm (by omega)) ?_
  simp(disch:=omega)only[go_sem]
  refine qb (cw) ?_
  simp(disch:=omega)only[go_sem]
  refine qo (jd (oE m e) (-3000) 3000) ?_
  simp(disch:=omega)only[go_sem]
  refine af2 (fun h=>?_) (fun h=>?_)
  ·simp(disch:=omega)only[go_sem,h]
   rw[h,if_neg (by simp),qt]
   exact qq
  ·simp(disch:=omega)only[go_sem,h]
   rw[h,if_pos rfl]
   exact qq
end Go.Ab
namespace Go.Ab
end Go.Ab
namespace Go.Ab
/-! ### Sums of floats-/
def ngS(k:Int)(s:Bool):Bool:=if k=3 then s else !s
def xS(k:Int)(s:Bool):Bool:=s&&decide (k=1)
def adZ(k1:Int)(s1:Bool)(k2:Int)(s2:Bool)(mode:Int):Bool:=if k1=0∧k2=0∧s1=s2 then s1 else decide (mode=3)
def bll(k1:Int)(s1:Bool)(m1 e1 k2:Int)(s2:Bool)(m2 e2 mode:Int):FlV:=
 if k1=3∨k2=3 then⟨3,false,0,0⟩
 else if k1=2∧k2=2∧s1≠s2 then⟨3,false,0,0⟩
 else if k1=2 then⟨k1,s1,m1,e1⟩
 else if k2=2 then⟨k2,s2,m2,e2⟩
 else flV (adS (xS k1 s1) m1.toNat e1 (xS k2 s2) m2.toNat e2) (adM (xS k1 s1) m1.toNat e1 (xS k2 s2) m2.toNat e2) (alE m1.toNat e1 m2.toNat e2) mode (adZ k1 s1 k2 s2 mode)
def blm(k1:Int)(s1:Bool)(m1 e1 k2:Int)(s2:Bool)(m2 e2 mode:Int):Int:=
 if k1=3∨k2=3 then 0
 else if k1=2∧k2=2∧s1≠s2 then 16
 else if k1=2 then 0
 else if k2=2 then 0
 else flG (adS (xS k1 s1) m1.toNat e1 (xS k2 s2) m2.toNat e2) (adM (xS k1 s1) m1.toNat e1 (xS k2 s2) m2.toNat e2) (alE m1.toNat e1 m2.toNat e2) mode
section
variable {k1:Int}{s1:Bool}{m1 e1 k2:Int}{s2:Bool}{m2 e2 mode:Int}
end
/-! ### A product and a sum-/
def fmZ(k1:Int)(s1:Bool)(k2:Int)(s2:Bool)(k3:Int)(s3:Bool)(mode:Int):Bool:=if(k1=0∨k2=0)∧k3=0∧s3=(s1 != s2)then s3 else decide (mode=3)
def blF(k1:Int)(s1:Bool)(m1 e1 k2:Int)(s2:Bool)(m2 e2 k3:Int)(s3:Bool)(m3 e3 mode:Int):FlV:=
 if k1=3∨k2=3 then⟨3,false,0,0⟩
 else if k1=2∨k2=2 then(if k1=0∨k2=0 then⟨3,false,0,0⟩else bll 2 (s1 != s2) 0 0 k3 s3 m3 e3 mode)
 else if k3=2∨k3=3 then⟨k3,s3,m3,e3⟩
 else flV (adS (muS k1 s1 m1 k2 s2 m2) (m1.toNat*m2.toNat) (e1+e2) (xS k3 s3) m3.toNat e3) (adM (muS k1 s1 m1 k2 s2 m2) (m1.toNat*m2.toNat) (e1+e2) (xS k3 s3) m3.toNat e3) (alE (m1.toNat*m2.toNat) (e1+e2) m3.toNat e3) mode (fmZ k1 s1 k2 s2 k3 s3 mode)
def blG(k1:Int)(s1:Bool)(m1 e1 k2:Int)(s2:Bool)(m2 e2 k3:Int)(s3:Bool)(m3 e3 mode:Int):Int:=
 if k1=3∨k2=3 then 0
 else if k1=2∨k2=2 then(if k1=0∨k2=0 then 16 else blm 2 (s1 != s2) 0 0 k3 s3 m3 e3 mode)
 else if k3=2∨k3=3 then 0
 else flG (adS (muS k1 s1 m1 k2 s2 m2) (m1.toNat*m2.toNat) (e1+e2) (xS k3 s3) m3.toNat e3) (adM (muS k1 s1 m1 k2 s2 m2) (m1.toNat*m2.toNat) (e1+e2) (xS k3 s3) m3.toNat e3) (alE (m1.toNat*m2.toNat) (e1+e2) m3.toNat e3) mode
section
variable {k1:Int}{s1:Bool}{m1 e1 k2:Int}{s2:Bool}{m2 e2 k3:Int}{s3:Bool}{m3 e3 mode:Int}
end
end Go.Ab
namespace Go.Ab
theorem aG5(x y p:Int)(hp:0<p):zQ (x*p) (y*p)=zQ x y:=by
 unfold zQ
 have h1:x*p<y*p↔x<y:=⟨fun h=>Int.lt_of_mul_lt_mul_right h (Int.le_of_lt hp),fun h=>Int.mul_lt_mul_of_pos_right h hp⟩
 have h2:y*p<x*p↔y<x:=⟨fun h=>Int.lt_of_mul_lt_mul_right h (Int.le_of_lt hp),fun h=>Int.mul_lt_mul_of_pos_right h hp⟩
 simp only[h1,h2]
theorem QL{m:Nat}{e E:Int}:alA m e E=0↔m=0:=by
 unfold alA
 have:0<2^(e-E).toNat:=Nat.pow_pos (by omega)
 constructor
 ·intro h
  rcases Nat.mul_eq_zero.1 h with h|h
  ·exact h
  ·omega
 ·intro h;rw[h,Nat.zero_mul]
theorem atd{K:Nat}{s1:Bool}{m1:Nat}{e1:Int}{s2:Bool}{m2:Nat}{e2:Int}(h1: -(K:Int)≤e1)(h2: -(K:Int)≤e2):
  zQ (sv s1 (alA m1 e1 (alE m1 e1 m2 e2))) (sv s2 (alA m2 e2 (alE m1 e1 m2 e2)))=zQ (dv K s1 m1 e1) (dv K s2 m2 e2):=by
 have hE: -(K:Int)≤alE m1 e1 m2 e2:=QK h1 h2
 have g1:m1≠0→alE m1 e1 m2 e2≤e1:=fun h=>by
  unfold alE
  repeat' split
  all_goals omega
 have g2:m2≠0→alE m1 e1 m2 e2≤e2:=fun h=>by
  unfold alE
  repeat' split
  all_goals omega
 rw[←agn hE g1,←agn hE g2,aG5 _ _ _ (Int.pow_pos (by omega))]
theorem abb{s1:Bool}{m1:Nat}{s2:Bool}{m2:Nat}(z1:m1=0→s1=false)(z2:m2=0→s2=false):
  zQ (sv s1 m1) (sv s2 m2)=if s1=true then(if s2=true then zQ (m2:Int) (m1:Int)else-1)else(if s2=true then 1 else zQ (m1:Int) (m2:Int)):=by
 cases s1<;>cases s2<;>simp only[sv,if_true,Bool.false_eq_true,if_false]
 ·have:m2≠0:=fun h=>by have:=z2 h;cases this
  unfold zQ;rw[if_neg (by omega),if_pos (by omega)]
 ·have:m1≠0:=fun h=>by have:=z1 h;cases this
  unfold zQ;rw[if_pos (by omega)]
 ·unfold zQ
  rcases Int.lt_trichotomy (m1:Int) m2 with h|h|h
  ·rw[if_neg (by omega),if_pos (by omega),if_neg (by omega),if_pos (by omega)]
  ·rw[if_neg (by omega),if_neg (by omega),if_neg (by omega),if_neg (by omega)]
  ·rw[if_pos (by omega),if_pos (by omega)]
theorem ate(x y:Int):(zQ x y≤0↔x≤y)∧(zQ x y<0↔x<y)∧(zQ x y=0↔x=y):=by
 unfold zQ
 split
 ·omega
 ·split<;>omega
end Go.Ab
namespace Go.Ab
open Go Go.Proofs
theorem Q6(s1:Bool)(m1:Nat)(s2:Bool)(m2:Nat)(l1:(lim m1).length≤2^40)(l2:(lim m2).length≤2^40)(z1:m1=0→s1=false)(z2:m2=0→s2=false):
  Con Tryz.prog 245 true [.v (.bool s1),.sl (lim (m1)).length (qh (lim (m1))),.v (.bool s2),.sl (lim (m2)).length (qh (lim (m2)))] [] (isA (.v (.int .i64 (zQ (sv s1 m1) (sv s2 m2))))):=by
 rw[abb z1 z2]
 cases s1<;>cases s2
 ·refine Con.of_w (rs:=[.tmp 8]) Tryz.func245 rfl Tryz.ntmps245 rfl ?_
  simp(disch:=omega)only[go_sem]
  refine qo (jf m1 m2 l1 l2) ?_
  simp(disch:=omega)only[go_sem]
  exact qz
 ·refine Con.of_w (rs:=[.tmp 8]) Tryz.func245 rfl Tryz.ntmps245 rfl ?_
  simp(disch:=omega)only[go_sem]
  exact qz
 ·refine Con.of_w (rs:=[.tmp 8]) Tryz.func245 rfl Tryz.ntmps245 rfl ?_
  simp(disch:=omega)only[go_sem]
  exact qz
 ·refine Con.of_w (rs:=[.tmp 8]) Tryz.func245 rfl Tryz.ntmps245 rfl ?_
  simp(disch:=omega)only[go_sem]
  refine qo (jf m2 m1 l2 l1) ?_
  simp(disch:=omega)only[go_sem]
  exact qz
theorem aa1(K:Nat)(s1:Bool)(m1:Nat)(e1:Int)(s2:Bool)(m2:Nat)(e2:Int)(h1:bl m1≤4000000)(h2:bl m2≤4000000)(he1: -1000000≤e1∧e1≤1000000)(he2: -1000000≤e2∧e2≤1000000)(k1: -(K:Int)≤e1)(k2: -(K:Int)≤e2)(z1:m1=0→s1=false)(z2:m2=0→s2=false):
  Con Tryz.prog 156 true [.ag [.v (.bool (s1)),.sl (lim (m1)).length (qh (lim (m1))),.v (.int .i64 (e1))],.ag [.v (.bool (s2)),.sl (lim (m2)).length (qh (lim (m2))),.v (.int .i64 (e2))]] [] (isA (.v (.int .i64 (zQ (dv K s1 m1 e1) (dv K s2 m2 e2))))):=by
 have hE:=QK (m1:=m1) (m2:=m2) he1.1 he2.1
 have b1:=qI (Zj (e:=e1) (E:=alE m1 e1 m2 e2) (C:=2000000) h1 (by omega))
 have b2:=qI (Zj (e:=e2) (E:=alE m1 e1 m2 e2) (C:=2000000) h2 (by omega))
 rw[←atd k1 k2]
 have y1:alA m1 e1 (alE m1 e1 m2 e2)=0→s1=false:=fun h=>z1 (QL.1 h)
 have y2:alA m2 e2 (alE m1 e1 m2 e2)=0→s2=false:=fun h=>z2 (QL.1 h)
 refine Con.of_w (rs:=[.tmp 4]) Tryz.func156 rfl Tryz.ntmps156 rfl ?_
 simp(disch:=omega)only[go_sem]
 refine qb (Jt s1 m1 e1 s2 m2 e2 h1 h2 he1 he2) ?_
 simp(disch:=omega)only[go_sem]
 refine qo (Q6 s1 (alA m1 e1 (alE m1 e1 m2 e2)) s2 (alA m2 e2 (alE m1 e1 m2 e2)) (by omega) (by omega) y1 y2) ?_
 simp(disch:=omega)only[go_sem]
 exact qz
def rkF(k:Int)(s:Bool):Int:=if k=2 then(if s=true then-1 else 1)else 0
def blJ(k1:Int)(s1:Bool)(m1 e1 k2:Int)(s2:Bool)(m2 e2:Int):Int:=
 if rkF k1 s1≠rkF k2 s2∨rkF k1 s1≠0 then zQ (rkF k1 s1) (rkF k2 s2)else zQ (dv 3000 (xS k1 s1) m1.toNat e1) (dv 3000 (xS k2 s2) m2.toNat e2)
end Go.Ab
namespace Go.Ab
open Go
theorem ak2{R:Nat→Prop}{W:World}{a:Addr}{len cap:Nat}{zs:List Int}(hle:len≤cap)(hz:zs.length=cap)(hc:∀i,i<zs.length→W.cell? (a.add i)=some (.int .u8 (zs.getD i 0)))(hw:∀n∈zs,0≤n∧n<256)(hR:∀b,b<W.heap.size→R b):
  FRep R W (.slice (some a) len cap) (.sl ((zs.take len).map fun n=>UInt8.ofNat n.toNat).length (qp ((zs.take len).map fun n=>UInt8.ofNat n.toNat))):=by
 have hl:((zs.take len).map fun n=>UInt8.ofNat n.toNat).length=len:=by rw[List.length_map,List.length_take];omega
 have hil:(qp ((zs.take len).map fun n=>UInt8.ofNat n.toNat)).length=len:=by unfold qp;rw[List.length_map,hl]
 rw[hl]
 obtain⟨b,o,sp⟩:=a
 have hsp:0<len→sp=none:=fun h0=>by
  have h1:=World.cell?_spot (hc 0 (by omega))
  simpa [Addr.add]using h1
 refine .sl _ len cap _ (fun i=>.int .u8 (zs.getD i 0)) b o hle (fun h0=>?_) (fun i hi=>?_) (fun i hi=>?_)
 ·have hs:=hsp (by omega)
  subst hs
  exact⟨rfl,hR _ (agj (hc 0 (by omega)))⟩
 ·have hs:=hsp (by omega)
  subst hs
  have h1:=hc i (by omega)
  rw[aZf]at h1
  exact h1
 ·have:(qp ((zs.take len).map fun n=>UInt8.ofNat n.toNat))[i]=.v (.int .u8 (zs.getD i 0)):=by
   have hi2:i<zs.length:=by omega
   have hm:=hw zs[i] (List.getElem_mem hi2)
   simp only[qp,List.getElem_map,List.getElem_take,List.getD_eq_getElem?_getD]
   rw[List.getElem?_eq_getElem hi2]
   simp only[Option.getD_some]
   congr 2
   rw[UInt8.toNat_ofNat']
   omega
  rw[this]
  exact .v _
theorem aTS{n:Int}(h:(Lit.int .u8 n).wf=true):0≤n∧n<256:=by
 have h':IntKind.u8.min≤n∧n≤IntKind.u8.max:=by simpa [Lit.wf]using h
 have h1:IntKind.u8.min=0:=rfl
 have h2:IntKind.u8.max=255:=rfl
 omega
theorem aE0{R:Nat→Prop}{ι:Nat→Option Blk}{w:World}{x:Value}{a:AV}(h1:Rep R ι w x a):RepA R ι w #[x] [a]:=
 ⟨rfl,fun i h=>match i,h with
  |0,_=>h1⟩
end Go.Ab
namespace Go.Ab
open Go
section
variable {P:Program}{f:FuncId}{args:List AV}{post:AV→List Ob→List Ob→Prop}
end
end Go.Ab
namespace Go.Ab
open Go
section
variable {σ:St}
theorem Le.ghostC(m o nm z:Nat){zo:Nat}{cs:List AV}(hm:σ.hp m=.own zo cs)(ho:cs[o]? =some (.v (.slice none 0 0)))(hf:σ.hp nm=.free):
  Le σ ⟨σ.env,upd (upd σ.hp nm (.own z [])) m (.own zo (cs.set o (.rf nm 0 0)))⟩:=by
 intro L w0 R0 N a w hi
 obtain⟨R,ι,hR,h⟩:=hi.inv
 have hg:=h.ghost (z:=z) hf
 have hne:m≠nm:=fun e=>by rw[e,hf]at hm;cases hm
 have hm':(⟨σ.env,upd σ.hp nm (.own z [])⟩:St).hp m=.own zo cs:=by show upd σ.hp nm (.own z []) m=_;rw[qJ hne];exact hm
 obtain⟨hol,hoe⟩:=List.getElem?_eq_some_iff.1 ho
 have key:Inv L w0 R (upd ι nm none) w a.tmps ⟨σ.env,upd (upd σ.hp nm (.own z [])) m (.own zo (cs.set o (.rf nm 0 0)))⟩:=by
  cases hB:upd ι nm none m with
  |none=>
   have:=hg.hp.ok m
   rw[hm',hB]at this
   have e:cs=[]:=this
   rw[e]at hol;simp at hol
  |some B=>
   obtain⟨c,T,lo,hi',h1,h2,h3,h4,h5,h6⟩:=jw hg hm' hB
   refine hg.turn hm' hB rfl rfl rfl rfl (fun _ _=>rfl) ⟨c,T,lo,hi',h1,h2,h3,h4,by rw[List.length_set];exact h5,fun i hi2=>?_⟩ (AllL.of_get fun i hi2=>?_)
   ·rw[List.length_set]at hi2
    rw[List.getElem_set]
    by_cases e:o=i
    ·subst e
     rw[if_pos rfl]
     have:=h6 o hi2
     rw[hoe]at this
     rw[this.v_inv]
     exact .rf nm 0 0 0 none ⟨Nat.le_refl _,by rw[qA]⟩
    ·rw[if_neg e];exact h6 i hi2
   ·rw[List.length_set]at hi2
    rw[List.getElem_set]
    split
    ·show upd σ.hp nm (.own z []) nm≠ .free
     rw[qA];simp
    ·exact(hg.hp.men m zo cs hm').get i hi2
 exact⟨hi.df,hi.sz,R,_,hR,key⟩
end
structure ExV where
 s:Bool
 m:Nat
 e:Int
deriving DecidableEq
def ExV.cs(x:ExV):List AV:=[.v (.bool x.s),.sl (lim x.m).length (qh (lim x.m)),.v (.int .i64 x.e)]
theorem jG(x:ExV):x.cs.length=3:=rfl
theorem aI1{ρ:Nat→Nat}(x:ExV):zU ρ x.cs=x.cs:=rfl
theorem ash{hp:Nat→Ob}{k:Nat}(x:ExV):x.cs.map (qN hp (k+1))=x.cs:=rfl
theorem aI2{p:Nat→Prop}(x:ExV):AllL p x.cs:=by simp[ExV.cs,AllL,AV.All]
def ex0:ExV:=⟨false,0,0⟩
theorem Ji{l:List ExV}:(qg ExV.cs l).length=l.length*3:=ye jG
theorem aP7{ρ:Nat→Nat}{l:List ExV}:zU ρ (qg ExV.cs l)=qg ExV.cs l:=ZU aI1
theorem aGx{hp:Nat→Ob}{k:Nat}{l:List ExV}:(qg ExV.cs l).map (qN hp (k+1))=qg ExV.cs l:=Qr ash
theorem aP8{p:Nat→Prop}{l:List ExV}:AllL p (qg ExV.cs l)=True:=eq_true (ZV aI2)
theorem aGy{p:Nat→Prop}{x:ExV}:AllL p x.cs=True:=eq_true (aI2 x)
theorem yR{l:List ExV}{x:ExV}:qg ExV.cs l++[.v (.bool x.s),.sl (lim x.m).length (qh (lim x.m)),.v (.int .i64 x.e)]=qg ExV.cs (l++[x]):=by
 rw[←QV,zy,yq,List.append_nil];rfl
theorem aeW{l:List ExV}:cut (qg ExV.cs l) 0 (l.length*3)=qg ExV.cs l:=by
 unfold cut;rw[List.drop_zero,List.take_of_length_le (by rw[Ji];exact Nat.le_refl _)]
structure SpV where
 lo:ExV
 hi:ExV
deriving DecidableEq
def SpV.cs(x:SpV):List AV:=x.lo.cs++x.hi.cs
theorem aIA(x:SpV):x.cs.length=6:=rfl
theorem aIz{ρ:Nat→Nat}(x:SpV):zU ρ x.cs=x.cs:=rfl
theorem aqR{hp:Nat→Ob}{k:Nat}(x:SpV):x.cs.map (qN hp (k+1))=x.cs:=rfl
theorem aIB{p:Nat→Prop}(x:SpV):AllL p x.cs:=by simp[SpV.cs,ExV.cs,AllL,AV.All]
def sp0:SpV:=⟨ex0,ex0⟩
theorem aqQ{l:List SpV}:(qg SpV.cs l).length=l.length*6:=ye aIA
theorem aNn{ρ:Nat→Nat}{l:List SpV}:zU ρ (qg SpV.cs l)=qg SpV.cs l:=ZU aIz
theorem aEG{hp:Nat→Ob}{k:Nat}{l:List SpV}:(qg SpV.cs l).map (qN hp (k+1))=qg SpV.cs l:=Qr aqR
theorem aNp{p:Nat→Prop}{l:List SpV}:AllL p (qg SpV.cs l)=True:=eq_true (ZV aIB)
theorem aEH{p:Nat→Prop}{x:SpV}:AllL p x.cs=True:=eq_true (aIB x)
theorem Qo{l:List SpV}{x:SpV}:qg SpV.cs l++[.v (.bool x.lo.s),.sl (lim x.lo.m).length (qh (lim x.lo.m)),.v (.int .i64 x.lo.e),.v (.bool x.hi.s),.sl (lim x.hi.m).length (qh (lim x.hi.m)),.v (.int .i64 x.hi.e)]=qg SpV.cs (l++[x]):=by
 rw[←QV,zy,yq,List.append_nil];rfl
theorem aNo{l:List SpV}:cut (qg SpV.cs l) 0 (l.length*6)=qg SpV.cs l:=by
 unfold cut;rw[List.drop_zero,List.take_of_length_le (by rw[aqQ];exact Nat.le_refl _)]
attribute [go_sem] Ji aP7 aGx aP8 aGy aI1 ash aqQ aNn aEG aNp aEH aIz aqR
end Go.Ab
namespace Go.Ab
open Go Go.Proofs
def ExV.plus(x y:ExV):ExV:=⟨adS x.s x.m x.e y.s y.m y.e,adM x.s x.m x.e y.s y.m y.e,alE x.m x.e y.m y.e⟩
def ExV.neg(x:ExV):ExV:=⟨!x.s&&decide (x.m≠0),x.m,x.e⟩
def ExV.times(x y:ExV):ExV:=⟨(x.s != y.s)&&decide (x.m*y.m≠0),x.m*y.m,x.e+y.e⟩
def ExV.abs(x:ExV):ExV:=⟨false,x.m,x.e⟩
def ExV.shift(x:ExV)(k:Int):ExV:=⟨x.s,x.m,x.e+k⟩
def ExV.over(x y:ExV)(low mode:Int):ExV:=⟨(x.s != y.s)&&decide (ovQ (x.s != y.s) x.m x.e y.m y.e low mode≠0),ovQ (x.s != y.s) x.m x.e y.m y.e low mode,low⟩
def ExV.rnd(x:ExV)(low mode:Int):ExV:=⟨roS x.s x.m x.e low mode,roM x.s x.m x.e low mode,roE x.m x.e low⟩
def ExV.cmp(x y:ExV):Int:=zQ (sv x.s (alA x.m x.e (alE x.m x.e y.m y.e))) (sv y.s (alA y.m y.e (alE x.m x.e y.m y.e)))
def ExV.top(x:ExV):Int:=if x.m=0 then 0 else(bl x.m:Int)+x.e
def ExV.bd(lo hi:Int)(x:ExV):Prop:=(x.m=0→x.s=false)∧lo≤x.e∧(bl x.m:Int)+x.e≤hi
theorem ExV.bd.mono{lo hi lo' hi':Int}{x:ExV}(h:x.bd lo hi)(h1:lo'≤lo)(h2:hi≤hi'):x.bd lo' hi':=by
 obtain⟨a,b,c⟩:=h;exact⟨a,by omega,by omega⟩
theorem atI{m:Nat}{e E hi:Int}(h:m≠0→E≤e)(h1:(bl m:Int)+e≤hi)(h2:E≤hi):(bl (alA m e E):Int)+E≤hi:=by
 by_cases h0:m=0
 ·rw[QL.2 h0,Qi];omega
 ·have:=h h0
  have:=Y6 m (e-E).toNat
  unfold alA;omega
theorem aRf{m1:Nat}{e1:Int}{m2:Nat}{e2:Int}:m1≠0→alE m1 e1 m2 e2≤e1:=fun h=>by
 unfold alE
 repeat' split
 all_goals omega
theorem aRe{m1:Nat}{e1:Int}{m2:Nat}{e2:Int}:m2≠0→alE m1 e1 m2 e2≤e2:=fun h=>by
 unfold alE
 repeat' split
 all_goals omega
theorem ExV.plus_bd{lo hi:Int}{x y:ExV}(hx:x.bd lo hi)(hy:y.bd lo hi):(x.plus y).bd lo (hi+1):=by
 obtain⟨a1,a2,a3⟩:=hx
 obtain⟨b1,b2,b3⟩:=hy
 have hE:lo≤alE x.m x.e y.m y.e:=QK a2 b2
 have hE2:alE x.m x.e y.m y.e≤hi:=aJf (by omega) (by omega)
 refine⟨fun h=>?_,hE,?_⟩
 ·show adS x.s x.m x.e y.s y.m y.e=false
  have h:suM _ _ _ _=0:=h
  unfold adS suS
  unfold suM at h
  rw[Int.natAbs_eq_zero.1 h];rfl
 ·have t1:=atI (hi:=hi) (@aRf x.m x.e y.m y.e) a3 hE2
  have t2:=atI (hi:=hi) (@aRe x.m x.e y.m y.e) b3 hE2
  show(bl (adM x.s x.m x.e y.s y.m y.e):Int)+alE x.m x.e y.m y.e≤hi+1
  unfold adM
  generalize alA x.m x.e (alE x.m x.e y.m y.e)=A at*
  generalize alA y.m y.e (alE x.m x.e y.m y.e)=B at*
  have:=agl (s1:=x.s) (s2:=y.s) (B:=(hi-alE x.m x.e y.m y.e).toNat) (show bl A≤_ by omega) (show bl B≤_ by omega)
  omega
theorem ExV.neg_bd{lo hi:Int}{x:ExV}(hx:x.bd lo hi):x.neg.bd lo hi:=by
 obtain⟨a1,a2,a3⟩:=hx
 refine⟨fun h=>?_,a2,a3⟩
 have h:x.m=0:=h
 show(!x.s&&decide (x.m≠0))=false
 rw[decide_eq_false (show ¬x.m≠0 by omega),Bool.and_false]
theorem ExV.times_bd{l1 h1 l2 h2:Int}{x y:ExV}(hx:x.bd l1 h1)(hy:y.bd l2 h2):(x.times y).bd (l1+l2) (h1+h2):=by
 obtain⟨a1,a2,a3⟩:=hx
 obtain⟨b1,b2,b3⟩:=hy
 refine⟨fun h=>?_,?_,?_⟩
 ·have h:x.m*y.m=0:=h
  show((x.s != y.s)&&decide (x.m*y.m≠0))=false
  rw[decide_eq_false (show ¬x.m*y.m≠0 by omega),Bool.and_false]
 ·show l1+l2≤x.e+y.e
  omega
 ·have:=Y7 x.m y.m
  show(bl (x.m*y.m):Int)+(x.e+y.e)≤h1+h2
  omega
theorem ExV.abs_bd{lo hi:Int}{x:ExV}(hx:x.bd lo hi):x.abs.bd lo hi:=⟨fun _=>rfl,hx.2.1,hx.2.2⟩
theorem ExV.shift_bd{lo hi k:Int}{x:ExV}(hx:x.bd lo hi):(x.shift k).bd (lo+k) (hi+k):=by
 obtain⟨a1,a2,a3⟩:=hx
 exact⟨a1,by show lo+k≤x.e+k;omega,by show(bl x.m:Int)+(x.e+k)≤hi+k;omega⟩
theorem aTv{s:Bool}{m1:Nat}{e1:Int}{m2:Nat}{e2 low mode:Int}:bl (ovQ s m1 e1 m2 e2 low mode)≤bl m1+(e1-e2-low).toNat+1:=by
 have h1:=yi (aSF s (ovA m1 (e1-e2-low)) (ovA m2 (-(e1-e2-low))) mode)
 have h2:=att (ovA m1 (e1-e2-low)/ovA m2 (-(e1-e2-low)))
 have h3:=Y9 (ovA m1 (e1-e2-low)) (ovA m2 (-(e1-e2-low)))
 have h4:=Y6 m1 (e1-e2-low).toNat
 unfold ovQ;unfold ovA at*;omega
theorem ExV.over_bd{l1 h1 l2 low mode hi:Int}{x y:ExV}(hx:x.bd l1 h1)(hy:l2≤y.e)(h:h1-l2+1≤hi)(hb:h1-l1+1+low≤hi):(x.over y low mode).bd low hi:=by
 obtain⟨a1,a2,a3⟩:=hx
 refine⟨fun h=>?_,Int.le_refl _,?_⟩
 ·have h:ovQ (x.s != y.s) x.m x.e y.m y.e low mode=0:=h
  show((x.s != y.s)&&decide (ovQ (x.s != y.s) x.m x.e y.m y.e low mode≠0))=false
  rw[decide_eq_false (by rw[h];simp),Bool.and_false]
 ·have:=@aTv (x.s != y.s) x.m x.e y.m y.e low mode
  show(bl (ovQ (x.s != y.s) x.m x.e y.m y.e low mode):Int)+low≤hi
  omega
theorem ExV.rnd_bd{lo hi low mode:Int}{x:ExV}(hx:x.bd lo hi)(hl:lo≤low)(hh:low≤hi):(x.rnd low mode).bd lo (hi+1):=by
 obtain⟨a1,a2,a3⟩:=hx
 by_cases c:low≤x.e∨x.m=0
 ·refine⟨fun h=>?_,?_,?_⟩
  ·show roS _ _ _ _ _=false
   have h:roM _ _ _ _ _=0:=h
   unfold roM at h;unfold roS;rw[if_pos c]at h ⊢;exact a1 h
  ·show lo≤roE _ _ _
   unfold roE;rw[if_pos c];exact a2
  ·show(bl (roM _ _ _ _ _):Int)+roE _ _ _≤_
   unfold roM roE;rw[if_pos c,if_pos c];omega
 ·refine⟨fun h=>?_,?_,?_⟩
  ·show roS _ _ _ _ _=false
   have h:roM _ _ _ _ _=0:=h
   unfold roM at h;unfold roS;rw[if_neg c]at h ⊢;rw[h];simp
  ·show lo≤roE _ _ _
   unfold roE;rw[if_neg c];exact hl
  ·show(bl (roM _ _ _ _ _):Int)+roE _ _ _≤_
   unfold roM roE;rw[if_neg c,if_neg c]
   have h1:=yi (aSF x.s x.m (2^(low-x.e).toNat) mode)
   have h2:=att (x.m/2^(low-x.e).toNat)
   have h3:=aY1 x.m (low-x.e).toNat
   omega
theorem z8(x y:ExV)(hx:x.bd (-400000) 400000)(hy:y.bd (-400000) 400000):Con Tryz.prog 185 false [.ag [.v (.bool (x.s)),.sl (lim (x.m)).length (qh (lim (x.m))),.v (.int .i64 (x.e))],.ag [.v (.bool (y.s)),.sl (lim (y.m)).length (qh (lim (y.m))),.v (.int .i64 (y.e))]] [] (isA (.ag [.v (.bool ((x.plus y).s)),.sl (lim ((x.plus y).m)).length (qh (lim ((x.plus y).m))),.v (.int .i64 ((x.plus y).e))])):=by
 obtain⟨a1,a2,a3⟩:=hx
 obtain⟨b1,b2,b3⟩:=hy
 exact asF x.s x.m x.e y.s y.m y.e (by omega) (by omega) (by omega) (by omega)
theorem qn(x y:ExV)(hx:x.bd (-400000) 400000)(hy:y.bd (-400000) 400000):Con Tryz.prog 168 false [.ag [.v (.bool (x.s)),.sl (lim (x.m)).length (qh (lim (x.m))),.v (.int .i64 (x.e))],.ag [.v (.bool (y.s)),.sl (lim (y.m)).length (qh (lim (y.m))),.v (.int .i64 (y.e))]] [] (isA (.ag [.v (.bool ((x.times y).s)),.sl (lim ((x.times y).m)).length (qh (lim ((x.times y).m))),.v (.int .i64 ((x.times y).e))])):=by
 obtain⟨a1,a2,a3⟩:=hx
 obtain⟨b1,b2,b3⟩:=hy
 exact ald x.s x.m x.e y.s y.m y.e (by omega) (by omega) (by omega) (by omega)
theorem asG(x y:ExV)(low mode:Int)(h0:y.m≠0)(hx:x.bd (-400000) 400000)(hy:y.bd (-400000) 400000)(hl: -400000≤low∧low≤400000):Con Tryz.prog 268 false [.ag [.v (.bool (x.s)),.sl (lim (x.m)).length (qh (lim (x.m))),.v (.int .i64 (x.e))],.ag [.v (.bool (y.s)),.sl (lim (y.m)).length (qh (lim (y.m))),.v (.int .i64 (y.e))],.v (.int .i64 low),.v (.int .i64 mode)] [] (isA (.tu [.ag [.v (.bool ((x.over y low mode).s)),.sl (lim ((x.over y low mode).m)).length (qh (lim ((x.over y low mode).m))),.v (.int .i64 ((x.over y low mode).e))],.v (.bool (ovX x.m x.e y.m y.e low))])):=by
 obtain⟨a1,a2,a3⟩:=hx
 obtain⟨b1,b2,b3⟩:=hy
 exact agd x.s x.m x.e y.s y.m y.e low mode h0 (by omega) (by omega) (by omega) (by omega) (by omega) (by omega)
theorem YU(x:ExV)(low mode:Int)(hx:x.bd (-400000) 400000)(hl: -400000≤low∧low≤400000):Con Tryz.prog 196 false [.ag [.v (.bool (x.s)),.sl (lim (x.m)).length (qh (lim (x.m))),.v (.int .i64 (x.e))],.v (.int .i64 low),.v (.int .i64 mode)] [] (isA (.tu [.ag [.v (.bool ((x.rnd low mode).s)),.sl (lim ((x.rnd low mode).m)).length (qh (lim ((x.rnd low mode).m))),.v (.int .i64 ((x.rnd low mode).e))],.v (.bool (roX x.m x.e low))])):=by
 obtain⟨a1,a2,a3⟩:=hx
 exact ae6 x.s x.m x.e low mode (by omega) (by omega) (by omega)
theorem ZE(x y:ExV)(hx:x.bd (-400000) 400000)(hy:y.bd (-400000) 400000):Con Tryz.prog 156 true [.ag [.v (.bool (x.s)),.sl (lim (x.m)).length (qh (lim (x.m))),.v (.int .i64 (x.e))],.ag [.v (.bool (y.s)),.sl (lim (y.m)).length (qh (lim (y.m))),.v (.int .i64 (y.e))]] [] (isA (.v (.int .i64 (x.cmp y)))):=by
 obtain⟨a1,a2,a3⟩:=hx
 obtain⟨b1,b2,b3⟩:=hy
 unfold ExV.cmp
 rw[atd (K:=400000) (by omega) (by omega)]
 exact aa1 400000 x.s x.m x.e y.s y.m y.e (by omega) (by omega) (by omega) (by omega) (by omega) (by omega) a1 b1
theorem age(x:ExV):Con Tryz.prog 241 false [.ag [.v (.bool (x.s)),.sl (lim (x.m)).length (qh (lim (x.m))),.v (.int .i64 (x.e))]] [] (isA (.ag [.v (.bool (x.neg.s)),.sl (lim (x.neg.m)).length (qh (lim (x.neg.m))),.v (.int .i64 (x.neg.e))])):=by
 refine Con.frzA ?_
 have hq:decide ((0:Int)<((lim x.m).length:Int))=decide (x.m≠0):=by
  rw[decide_eq_decide]
  exact⟨fun h e=>by rw[e,qt]at h;simp at h,fun h=>by have:=y3 h;omega⟩
 unfold ExV.neg
 cases hs:x.s
 ·refine Con.of_w (rs:=[.cell 2 117]) Tryz.func241 rfl Tryz.ntmps241 rfl ?_
  simp(disch:=omega)only[go_sem]
  simp(disch:=omega)only[go_sem,hq]
  exact qq (hp:=by simp(disch:=omega)only[go_sem,Bool.not_false,Bool.true_and])
 ·refine Con.of_w (rs:=[.cell 2 117]) Tryz.func241 rfl Tryz.ntmps241 rfl ?_
  simp(disch:=omega)only[go_sem]
  exact qq (hp:=by simp(disch:=omega)only[go_sem,Bool.not_true,Bool.false_and])
theorem Y1(x:ExV):Con Tryz.prog 151 false [.ag [.v (.bool (x.s)),.sl (lim (x.m)).length (qh (lim (x.m))),.v (.int .i64 (x.e))]] [] (isA (.ag [.v (.bool (x.abs.s)),.sl (lim (x.abs.m)).length (qh (lim (x.abs.m))),.v (.int .i64 (x.abs.e))])):=by
 refine Con.frzA ?_
 refine Con.of_w (rs:=[.cell 2 117]) Tryz.func151 rfl Tryz.ntmps151 rfl ?_
 simp(disch:=omega)only[go_sem]
 exact qq (hp:=by simp(disch:=omega)only[go_sem,ExV.abs])
theorem Q7(x:ExV)(k:Int)(hx: -2^40≤x.e∧x.e≤2^40)(hk: -2^40≤k∧k≤2^40):Con Tryz.prog 161 false [.ag [.v (.bool (x.s)),.sl (lim (x.m)).length (qh (lim (x.m))),.v (.int .i64 (x.e))],.v (.int .i64 k)] [] (isA (.ag [.v (.bool ((x.shift k).s)),.sl (lim ((x.shift k).m)).length (qh (lim ((x.shift k).m))),.v (.int .i64 ((x.shift k).e))])):=by
 refine Con.frzA ?_
 refine Con.of_w (rs:=[.cell 4 117]) Tryz.func161 rfl Tryz.ntmps161 rfl ?_
 simp(disch:=omega)only[go_sem]
 exact qq (hp:=by simp(disch:=omega)only[go_sem,ExV.shift])
theorem qB(x y:ExV)(hx:x.bd (-400000) 400000)(hy:y.bd (-400000) 400000):Con Tryz.prog 150 false [.ag [.v (.bool (x.s)),.sl (lim (x.m)).length (qh (lim (x.m))),.v (.int .i64 (x.e))],.ag [.v (.bool (y.s)),.sl (lim (y.m)).length (qh (lim (y.m))),.v (.int .i64 (y.e))]] [] (isA (.ag [.v (.bool ((x.plus y.neg).s)),.sl (lim ((x.plus y.neg).m)).length (qh (lim ((x.plus y.neg).m))),.v (.int .i64 ((x.plus y.neg).e))])):=by
 refine Con.frzA ?_
 refine Con.of_w (rs:=[.cell 4 117]) Tryz.func150 rfl Tryz.ntmps150 rfl ?_
 simp(disch:=omega)only[go_sem]
 refine qm rfl [⟨0,[],[]⟩,⟨1,[0],[]⟩,⟨2,[0],[]⟩,⟨3,[],[]⟩,⟨4,[],[]⟩] (by kernel_rfl) ?_
 simp(disch:=omega)only[go_sem]
 refine qb (age y) ?_
 simp(disch:=omega)only[go_sem]
 refine qb (z8 x y.neg hx (ExV.neg_bd hy)) ?_
 simp(disch:=omega)only[go_sem]
 exact qq
end Go.Ab
namespace Go.Ab
open Go Go.Proofs
def gl(n:Nat)(g:Nat→Nat→ExV)(k:Nat):List ExV:=(List.range k).map fun t=>g (t/n) (t % n)
theorem yw{n:Nat}{g:Nat→Nat→ExV}{k:Nat}:(gl n g k).length=k:=by simp[gl]
theorem aPb{n:Nat}{g:Nat→Nat→ExV}{k:Nat}:gl n g (k+1)=gl n g k++[g (k/n) (k % n)]:=by simp[gl,List.range_succ]
theorem aT5{n:Nat}{g:Nat→Nat→ExV}{k t:Nat}(h:t<k):(gl n g k).getD t ex0=g (t/n) (t % n):=by
 rw[List.getD_eq_getElem?_getD];simp[gl,h]
theorem aT3{n:Nat}{g:Nat→Nat→ExV}:qg ExV.cs (gl n g 0)=[]:=by simp[gl,qg]
theorem qV{l:List ExV}{k:Nat}(h:l.length=k):cut (qg ExV.cs l) 0 (k*3)=qg ExV.cs l:=by subst h;exact aeW
theorem qk{l:List ExV}{i:Nat}(hi:i<l.length):cut (qg ExV.cs l) (i*3) 3=[.v (.bool (l.getD i ex0).s),.sl (lim (l.getD i ex0).m).length (qh (lim (l.getD i ex0).m)),.v (.int .i64 (l.getD i ex0).e)]:=QU (l:=l) jG hi ex0
theorem y5(n:Nat)(l:List ExV)(i j:Nat)(hl:i*n+j<l.length)(hb:l.length≤1000)(hn:n≤1000)(hi:i≤1000)(hj:j≤1000):
  Con Tryz.prog 96 false [.ag [.v (.int .i64 n),.sl l.length (qg ExV.cs l)],.v (.int .i64 i),.v (.int .i64 j)] [] (isA (.ag [.v (.bool ((l.getD (i*n+j) ex0).s)),.sl (lim ((l.getD (i*n+j) ex0).m)).length (qh (lim ((l.getD (i*n+j) ex0).m))),.v (.int .i64 ((l.getD (i*n+j) ex0).e))])):=by
 refine Con.frzA ?_
 have hin:i*n≤1000:=by omega
 have hp:(i:Int)*(n:Int)≤1000∧0≤(i:Int)*(n:Int):=by rw[←Int.natCast_mul];omega
 have e1:(i:Int)*(n:Int)+(j:Int)=((i*n+j:Nat):Int):=by rw[Int.natCast_add,Int.natCast_mul]
 have hcut:=qk hl
 generalize i*n+j=k at*
 refine Con.of_w (rs:=[.cell 6 117]) Tryz.func96 rfl Tryz.ntmps96 rfl ?_
 simp(disch:=omega)only[go_sem]
 simp(disch:=omega)only[go_sem,e1,hcut]
 refine⟨by omega,by omega,?_⟩
 exact qq
set_option maxRecDepth 100000 in
theorem alx(n:Nat)(f:Nat)(caps:List AV)(g:Nat→Nat→ExV)(hn0:n≤4)(hf:∀i j:Nat,i<n→j<n→Con Tryz.prog f false (.v (.int .i64 i):: .v (.int .i64 j)::caps) [] (isA (.ag [.v (.bool ((g i j).s)),.sl (lim ((g i j).m)).length (qh (lim ((g i j).m))),.v (.int .i64 ((g i j).e))])))(hg:qs Tryz.prog f=True)
  (hc:∀h:Nat→Ob,caps.map (qN h 6)=caps) (hc5:∀h:Nat→Ob,caps.map (qN h 5)=caps) (hn:∀ks,AllL (yn ks) caps) (hr:∀ρ,zU ρ caps=caps):
  Con Tryz.prog 94 false [.v (.int .i64 n),.fn f caps] [] (isA (.ag [.v (.int .i64 n),.sl (n*n) (qg ExV.cs (gl n g (n*n)))])):=by
 refine Con.frzA ?_
 refine Con.of_aw Tryz.func94 rfl Tryz.ntmps94 (by simp) (by simp) (by simp) (W.sound ?_)
 show @W Tryz.prog 30 ⟨_⟩ ⟨fun x σ=>@q9 _ _ _ ⟨_⟩ _ ⟨_⟩ x σ⟩ _ _
 simp(disch:=omega)only[go_sem,hg]
 refine qc (fun i:Nat=>[(0,.v (.int .i64 n)),(1,.fn f caps),(4,.pt 2 0),(5,.pt 0 0),(10,.v (.int .i64 n)),(11,.v (.int .i64 i))])
  (fun i=>[(0,.own 0 [.v (.int .i64 n),.rf 1 0 (i*n)]),(1,.own 3 (qg ExV.cs (gl n g (i*n)))),(2,.own 0 [.v (.int .i64 0),.v (.slice none 0 0)])]) (fun i=>i≤n) (fun i=>n-i) 0 (by omega)
  ((Le.ghostC 70000000 1 1 3 (zo:=0) (cs:=[.v (.int .i64 n),.v (.slice none 0 0)]) (by simp(disch:=omega)only[go_sem]) rfl (by simp(disch:=omega)only[go_sem])).trans (Le.lst [(0,70000000),(2,60000000)] _ _ rfl (by simp(disch:=omega)only[go_sem,hr,hn]) (by simp(disch:=omega)only[go_sem,aT3,Nat.zero_mul,List.set_cons_succ,List.set_cons_zero]))) ?_
 intro i hi
 simp(disch:=omega)only[go_sem]
 refine qe (fun h1=>?_) (fun h1=>?_)
 ·simp(disch:=omega)only[go_sem,h1]
  refine qc (fun j:Nat=>[(0,.v (.int .i64 n)),(1,.fn f caps),(4,.pt 2 0),(5,.pt 0 0),(6,.v (.int .i64 i)),(10,.v (.int .i64 n)),(11,.v (.int .i64 i)),(14,.v (.int .i64 n)),(15,.v (.int .i64 j))])
   (fun j=>[(0,.own 0 [.v (.int .i64 n),.rf 1 0 (i*n+j)]),(1,.own 3 (qg ExV.cs (gl n g (i*n+j)))),(2,.own 0 [.v (.int .i64 0),.v (.slice none 0 0)])]) (fun j=>j≤n) (fun j=>n-j) 0 (by omega)
   (Le.lst [] _ _ rfl (by simp(disch:=omega)only[go_sem,hr,hn,Nat.add_zero]) (by simp(disch:=omega)only[go_sem,Nat.add_zero])) ?_
  intro j hj
  simp(disch:=omega)only[go_sem]
  refine qe (fun h2=>?_) (fun h2=>?_)
  ·simp(disch:=omega)only[go_sem,h2]
   have hd:(i*n+j)/n=i:=by rw[Nat.mul_comm,Nat.mul_add_div (by omega),Nat.div_eq_of_lt (by omega),Nat.add_zero]
   have hm:(i*n+j) % n=j:=by rw[Nat.mul_comm,Nat.mul_add_mod,Nat.mod_eq_of_lt (by omega)]
   have hs:=@aPb n g (i*n+j)
   rw[hd,hm]at hs
   have hcut:=qV (@yw n g (i*n+j))
   have hin:i*n≤16:=Nat.mul_le_mul (show i≤4 by omega) hn0
   have hk:i*n+(j+1)=i*n+j+1:=rfl
   refine qm rfl [⟨0,[],[]⟩,⟨1,[],[]⟩,⟨2,[1],[]⟩,⟨3,[1],[]⟩,⟨4,[1],[]⟩,⟨5,[1],[]⟩,⟨6,[1],[]⟩,⟨7,[],[]⟩,⟨8,[],[]⟩,⟨9,[],[]⟩] (by kernel_rfl) ?_
   simp(disch:=omega)only[go_sem,hg]
   refine qK (hf i j (by omega) (by omega)) (by simp(disch:=omega)only[go_sem,hc,hc5]) ?_
   rintro r hs2 ⟨rfl,rfl,_⟩
   refine⟨by simp[qG],?_⟩
   simp(disch:=omega)only[go_sem,hcut,yR]
   refine⟨⟨by rw[yw];exact Nat.le_refl _,by omega⟩,qa (j+1) [(1,270000000)] (by show j+1≤_;omega) (by show n-(j+1)<n-j;omega) rfl (by simp(disch:=omega)only[go_sem,hr,hn];try omega) (by simp(disch:=omega)only[go_sem,hk,hs])⟩
  ·simp(disch:=omega)only[go_sem,h2]
   obtain rfl:n=j:=by omega
   exact qa (i+1) [] (by show i+1≤_;omega) (by show n-(i+1)<n-i;omega) rfl (by simp(disch:=omega)only[go_sem,hr,hn,Nat.add_mul,Nat.one_mul];try omega) (by simp(disch:=omega)only[go_sem,Nat.add_mul,Nat.one_mul])
 ·simp(disch:=omega)only[go_sem,h1]
  obtain rfl:n=i:=by omega
  refine ql [(0,1)] [.own 3 (qg ExV.cs (gl n g (n*n)))] [] [.ag [.v (.int .i64 n),.rf 0 0 (n*n)]] rfl (by simp(disch:=omega)only[go_sem]) (by simp(disch:=omega)only[go_sem]) (by simp) (by simp) ?_
  show qN _ 6 _=_
  simp(disch:=omega)only[go_sem,zg,qV yw]
end Go.Ab
namespace Go.Ab
open Go Go.Proofs
def Qx(m x:ExV):ExV:=if 0<x.cmp m then x else m
def Qz(m x:ExV):ExV:=if x.cmp m<0 then x else m
def zB(l:List ExV):ExV:=(l.drop 1).foldl Qx (l.getD 0 ex0)
def jF(l:List ExV):ExV:=(l.drop 1).foldl Qz (l.getD 0 ex0)
def gbd(lo hi:Int)(l:List ExV):Prop:=∀x∈l,x.bd lo hi
theorem qi{lo hi:Int}{l:List ExV}{i:Nat}(h:gbd lo hi l)(hi':i<l.length):(l.getD i ex0).bd lo hi:=by
 refine h _ ?_
 rw[List.getD_eq_getElem?_getD,List.getElem?_eq_getElem hi'];exact List.getElem_mem _
theorem jN{l:List ExV}{i:Nat}(h1:1≤i)(h:i<l.length):(l.take (i+1)).drop 1=(l.take i).drop 1++[l.getD i ex0]:=by
 rw[List.take_add_one,List.getElem?_eq_getElem h,List.drop_append_of_le_length (by rw[List.length_take];omega),List.getD_eq_getElem?_getD,List.getElem?_eq_getElem h]
 rfl
theorem Q0{lo hi:Int}{F:ExV→ExV→ExV}(hF:∀m x,F m x=m∨F m x=x):∀(l:List ExV) (m:ExV),m.bd lo hi→gbd lo hi l→(l.foldl F m).bd lo hi
 | [],m,h,_=>h
 |x::r,m,h,hl=>by
  refine Q0 hF r (F m x) ?_ (fun y hy=>hl y (List.mem_cons_of_mem _ hy))
  rcases hF m x with e|e<;>rw[e]
  ·exact h
  ·exact hl x (List.mem_cons_self ..)
theorem Yz(m x:ExV):Qx m x=m∨Qx m x=x:=by unfold Qx;split<;>simp
theorem aax(m x:ExV):Qz m x=m∨Qz m x=x:=by unfold Qz;split<;>simp
theorem Zz{lo hi:Int}{l:List ExV}(h:gbd lo hi l)(h0:0<l.length):(zB l).bd lo hi:=Q0 Yz _ _ (qi h h0) (fun x hx=>h x (List.mem_of_mem_drop hx))
theorem aaw{lo hi:Int}{l:List ExV}(h:gbd lo hi l)(h0:0<l.length):(jF l).bd lo hi:=Q0 aax _ _ (qi h h0) (fun x hx=>h x (List.mem_of_mem_drop hx))
theorem ae9(l:List ExV)(h0:0<l.length)(hl:l.length≤1000)(hb:gbd (-400000) 400000 l):Con Tryz.prog 240 false [.sl l.length (qg ExV.cs l),.fn 156 []] [] (isA (.ag [.v (.bool (zB l).s),.sl (lim (zB l).m).length (qh (lim (zB l).m)),.v (.int .i64 (zB l).e)])):=by
 refine Con.frzA ?_
 have hc0:=qk (l:=l) (i:=0) h0
 have q1:decide ((l.length:Int)<1)=false:=decide_eq_false (by omega)
 refine Con.of_w (rs:=[.cell 4 117]) Tryz.func240 rfl Tryz.ntmps240 rfl ?_
 simp(disch:=omega)only[go_sem,q1,hc0]
 refine⟨by omega,by omega,?_⟩
 refine qc (fun x:Nat×ExV=>[(0,.sl l.length (qg ExV.cs l)),(1,.fn 156 []),(4,.pt 1 0),(5,.pt 0 0),(6,.v (.int .i64 x.1))])
  (fun x=>[(0,.own 0 [.v (.bool x.2.s),.sl (lim x.2.m).length (qh (lim x.2.m)),.v (.int .i64 x.2.e)]),(1,.own 0 [.v (.bool false),.v (.slice none 0 0),.v (.int .i64 0)])])
  (fun x=>1≤x.1∧x.1≤l.length∧x.2=((l.take x.1).drop 1).foldl Qx (l.getD 0 ex0)) (fun x=>l.length-x.1) (1,l.getD 0 ex0) ⟨by omega,by omega,by simp⟩
  (Le.lst [(0,70000000),(1,60000000)] _ _ rfl (by simp(disch:=omega)only[go_sem]) (by simp(disch:=omega)only[go_sem])) ?_
 rintro⟨i,m⟩ ⟨h1,hi,hm⟩
 dsimp only at h1 hi hm ⊢
 have hmb:m.bd (-400000) 400000:=by
  rw[hm];exact Q0 Yz _ _ (qi hb h0) (fun x hx=>hb x (List.mem_of_mem_take (List.mem_of_mem_drop hx)))
 simp(disch:=omega)only[go_sem]
 refine qe (fun h2=>?_) (fun h2=>?_)
 ·have hi2:i<l.length:=by omega
  have hci:=qk (l:=l) (i:=i) hi2
  have hs:Qx m (l.getD i ex0)=((l.take (i+1)).drop 1).foldl Qx (l.getD 0 ex0):=by
   rw[jN h1 hi2,List.foldl_append,←hm];rfl
  simp(disch:=omega)only[go_sem,h2]
  refine qm rfl [⟨0,[],[]⟩,⟨1,[],[]⟩,⟨2,[],[]⟩,⟨3,[],[]⟩,⟨4,[],[]⟩,⟨5,[4],[]⟩,⟨6,[],[]⟩,⟨7,[],[]⟩] (by kernel_rfl) ?_
  have hg:qs Tryz.prog 156=True:=by simp(disch:=omega)only[go_sem]
  simp(disch:=omega)only[go_sem,hci,hg]
  refine⟨by omega,by omega,?_⟩
  refine qo (ZE (l.getD i ex0) m (qi hb hi2) hmb) ?_
  simp(disch:=omega)only[go_sem]
  generalize l.getD i ex0=y at*
  refine qe (fun h3=>?_) (fun h3=>?_)
  ·simp(disch:=omega)only[go_sem,h3,hci]
   have:Qx m y=y:=if_pos h3
   refine⟨by omega,by omega,qa (i+1,y) [] ⟨by show 1≤i+1;omega,by show i+1≤_;omega,this▸hs⟩ (by show l.length-(i+1)<l.length-i;omega) rfl (by simp(disch:=omega)only[go_sem];try omega) (by simp(disch:=omega)only[go_sem])⟩
  ·simp(disch:=omega)only[go_sem,h3]
   have:Qx m y=m:=if_neg h3
   refine qa (i+1,m) [] ⟨by show 1≤i+1;omega,by show i+1≤_;omega,this▸hs⟩ (by show l.length-(i+1)<l.length-i;omega) rfl (by simp(disch:=omega)only[go_sem];try omega) (by simp(disch:=omega)only[go_sem])
 ·simp(disch:=omega)only[go_sem,h2]
  have:i=l.length:=by omega
  subst this
  rw[List.take_length]at hm
  subst hm
  exact qq (hp:=by simp(disch:=omega)only[go_sem,zB])
theorem agf(l:List ExV)(h0:0<l.length)(hl:l.length≤1000)(hb:gbd (-400000) 400000 l):Con Tryz.prog 149 false [.sl l.length (qg ExV.cs l)] [] (isA (.ag [.v (.bool (zB l).s),.sl (lim (zB l).m).length (qh (lim (zB l).m)),.v (.int .i64 (zB l).e)])):=by
 refine Con.frzA ?_
 refine Con.of_w (rs:=[.cell 2 117]) Tryz.func149 rfl Tryz.ntmps149 rfl ?_
 simp(disch:=omega)only[go_sem]
 refine qb (ae9 l h0 hl hb) ?_
 simp(disch:=omega)only[go_sem]
 exact qq
theorem ae8(l:List ExV)(h0:0<l.length)(hl:l.length≤1000)(hb:gbd (-400000) 400000 l):Con Tryz.prog 259 false [.sl l.length (qg ExV.cs l),.fn 156 []] [] (isA (.ag [.v (.bool (jF l).s),.sl (lim (jF l).m).length (qh (lim (jF l).m)),.v (.int .i64 (jF l).e)])):=by
 refine Con.frzA ?_
 have hc0:=qk (l:=l) (i:=0) h0
 have q1:decide ((l.length:Int)<1)=false:=decide_eq_false (by omega)
 refine Con.of_w (rs:=[.cell 4 117]) Tryz.func259 rfl Tryz.ntmps259 rfl ?_
 simp(disch:=omega)only[go_sem,q1,hc0]
 refine⟨by omega,by omega,?_⟩
 refine qc (fun x:Nat×ExV=>[(0,.sl l.length (qg ExV.cs l)),(1,.fn 156 []),(4,.pt 1 0),(5,.pt 0 0),(6,.v (.int .i64 x.1))])
  (fun x=>[(0,.own 0 [.v (.bool x.2.s),.sl (lim x.2.m).length (qh (lim x.2.m)),.v (.int .i64 x.2.e)]),(1,.own 0 [.v (.bool false),.v (.slice none 0 0),.v (.int .i64 0)])])
  (fun x=>1≤x.1∧x.1≤l.length∧x.2=((l.take x.1).drop 1).foldl Qz (l.getD 0 ex0)) (fun x=>l.length-x.1) (1,l.getD 0 ex0) ⟨by omega,by omega,by simp⟩
  (Le.lst [(0,70000000),(1,60000000)] _ _ rfl (by simp(disch:=omega)only[go_sem]) (by simp(disch:=omega)only[go_sem])) ?_
 rintro⟨i,m⟩ ⟨h1,hi,hm⟩
 dsimp only at h1 hi hm ⊢
 have hmb:m.bd (-400000) 400000:=by
  rw[hm];exact Q0 aax _ _ (qi hb h0) (fun x hx=>hb x (List.mem_of_mem_take (List.mem_of_mem_drop hx)))
 simp(disch:=omega)only[go_sem]
 refine qe (fun h2=>?_) (fun h2=>?_)
 ·have hi2:i<l.length:=by omega
  have hci:=qk (l:=l) (i:=i) hi2
  have hs:Qz m (l.getD i ex0)=((l.take (i+1)).drop 1).foldl Qz (l.getD 0 ex0):=by
   rw[jN h1 hi2,List.foldl_append,←hm];rfl
  simp(disch:=omega)only[go_sem,h2]
  refine qm rfl [⟨0,[],[]⟩,⟨1,[],[]⟩,⟨2,[],[]⟩,⟨3,[],[]⟩,⟨4,[],[]⟩,⟨5,[4],[]⟩,⟨6,[],[]⟩,⟨7,[],[]⟩] (by kernel_rfl) ?_
  have hg:qs Tryz.prog 156=True:=by simp(disch:=omega)only[go_sem]
  simp(disch:=omega)only[go_sem,hci,hg]
  refine⟨by omega,by omega,?_⟩
  refine qo (ZE (l.getD i ex0) m (qi hb hi2) hmb) ?_
  simp(disch:=omega)only[go_sem]
  generalize l.getD i ex0=y at*
  refine qe (fun h3=>?_) (fun h3=>?_)
  ·simp(disch:=omega)only[go_sem,h3,hci]
   have:Qz m y=y:=if_pos h3
   refine⟨by omega,by omega,qa (i+1,y) [] ⟨by show 1≤i+1;omega,by show i+1≤_;omega,this▸hs⟩ (by show l.length-(i+1)<l.length-i;omega) rfl (by simp(disch:=omega)only[go_sem];try omega) (by simp(disch:=omega)only[go_sem])⟩
  ·simp(disch:=omega)only[go_sem,h3]
   have:Qz m y=m:=if_neg h3
   refine qa (i+1,m) [] ⟨by show 1≤i+1;omega,by show i+1≤_;omega,this▸hs⟩ (by show l.length-(i+1)<l.length-i;omega) rfl (by simp(disch:=omega)only[go_sem];try omega) (by simp(disch:=omega)only[go_sem])
 ·simp(disch:=omega)only[go_sem,h2]
  have:i=l.length:=by omega
  subst this
  rw[List.take_length]at hm
  subst hm
  exact qq (hp:=by simp(disch:=omega)only[go_sem,jF])
theorem aaR(l:List ExV)(h0:0<l.length)(hl:l.length≤1000)(hb:gbd (-400000) 400000 l):Con Tryz.prog 178 false [.sl l.length (qg ExV.cs l)] [] (isA (.ag [.v (.bool (jF l).s),.sl (lim (jF l).m).length (qh (lim (jF l).m)),.v (.int .i64 (jF l).e)])):=by
 refine Con.frzA ?_
 refine Con.of_w (rs:=[.cell 2 117]) Tryz.func178 rfl Tryz.ntmps178 rfl ?_
 simp(disch:=omega)only[go_sem]
 refine qb (ae8 l h0 hl hb) ?_
 simp(disch:=omega)only[go_sem]
 exact qq
end Go.Ab
namespace Go.Ab
open Go Go.Proofs
def SpV.plus(s t:SpV):SpV:=⟨s.lo.plus t.lo,s.hi.plus t.hi⟩
def jE(F:ExV→ExV→ExV)(s t:SpV):List ExV:=[F s.lo t.lo,F s.lo t.hi,F s.hi t.lo,F s.hi t.hi]
def SpV.times(s t:SpV):SpV:=⟨jF (jE ExV.times s t),zB (jE ExV.times s t)⟩
def SpV.over(s t:SpV)(low:Int):SpV:=⟨jF (jE (fun x y=>x.over y low 3) s t),zB (jE (fun x y=>x.over y low 2) s t)⟩
def SpV.out(s:SpV)(low:Int):SpV:=⟨s.lo.rnd low 3,s.hi.rnd low 2⟩
def SpV.fat(s:SpV)(by':ExV):SpV:=⟨s.lo.plus by'.neg,s.hi.plus by'⟩
def SpV.bd(lo hi:Int)(s:SpV):Prop:=s.lo.bd lo hi∧s.hi.bd lo hi
theorem af7{F:ExV→ExV→ExV}{s t:SpV}{l1 h1 l2 h2 lo hi:Int}(hs:s.bd l1 h1)(ht:t.bd l2 h2)(hF:∀x y:ExV,x.bd l1 h1→y.bd l2 h2→(F x y).bd lo hi):gbd lo hi (jE F s t):=by
 intro x hx
 simp only[jE,List.mem_cons,List.not_mem_nil,or_false]at hx
 rcases hx with rfl|rfl|rfl|rfl
 ·exact hF _ _ hs.1 ht.1
 ·exact hF _ _ hs.1 ht.2
 ·exact hF _ _ hs.2 ht.1
 ·exact hF _ _ hs.2 ht.2
theorem J3(s t:SpV)(hs:s.bd (-400000) 400000)(ht:t.bd (-400000) 400000):Con Tryz.prog 175 false [.ag [.v (.bool (s).lo.s),.sl (lim (s).lo.m).length (qh (lim (s).lo.m)),.v (.int .i64 (s).lo.e),.v (.bool (s).hi.s),.sl (lim (s).hi.m).length (qh (lim (s).hi.m)),.v (.int .i64 (s).hi.e)],.ag [.v (.bool (t).lo.s),.sl (lim (t).lo.m).length (qh (lim (t).lo.m)),.v (.int .i64 (t).lo.e),.v (.bool (t).hi.s),.sl (lim (t).hi.m).length (qh (lim (t).hi.m)),.v (.int .i64 (t).hi.e)]] [] (isA (.ag [.v (.bool (s.plus t).lo.s),.sl (lim (s.plus t).lo.m).length (qh (lim (s.plus t).lo.m)),.v (.int .i64 (s.plus t).lo.e),.v (.bool (s.plus t).hi.s),.sl (lim (s.plus t).hi.m).length (qh (lim (s.plus t).hi.m)),.v (.int .i64 (s.plus t).hi.e)])):=by
 refine Con.frzA ?_
 refine Con.of_w (rs:=[.cell 4 125]) Tryz.func175 rfl Tryz.ntmps175 rfl ?_
 simp(disch:=omega)only[go_sem]
 refine qm rfl [⟨0,[],[]⟩,⟨1,[],[]⟩,⟨2,[1],[]⟩,⟨3,[1],[]⟩,⟨5,[1,3],[]⟩,⟨6,[1,3],[]⟩,⟨7,[1,3,6],[]⟩,⟨8,[1,3,6],[]⟩,⟨4,[6,8],[]⟩,⟨9,[],[]⟩,⟨10,[],[]⟩,⟨11,[],[]⟩] (by kernel_rfl) ?_
 simp(disch:=omega)only[go_sem]
 refine qb (z8 s.lo t.lo hs.1 ht.1) ?_
 simp(disch:=omega)only[go_sem]
 refine qb (z8 s.hi t.hi hs.2 ht.2) ?_
 simp(disch:=omega)only[go_sem]
 exact qq (hp:=by simp(disch:=omega)only[go_sem,SpV.plus])
theorem asA(s:SpV)(low:Int)(hs:s.bd (-400000) 400000)(hl: -400000≤low∧low≤400000):Con Tryz.prog 208 false [.ag [.v (.bool (s).lo.s),.sl (lim (s).lo.m).length (qh (lim (s).lo.m)),.v (.int .i64 (s).lo.e),.v (.bool (s).hi.s),.sl (lim (s).hi.m).length (qh (lim (s).hi.m)),.v (.int .i64 (s).hi.e)],.v (.int .i64 low)] [] (isA (.ag [.v (.bool (s.out low).lo.s),.sl (lim (s.out low).lo.m).length (qh (lim (s.out low).lo.m)),.v (.int .i64 (s.out low).lo.e),.v (.bool (s.out low).hi.s),.sl (lim (s.out low).hi.m).length (qh (lim (s.out low).hi.m)),.v (.int .i64 (s.out low).hi.e)])):=by
 refine Con.frzA ?_
 refine Con.of_w (rs:=[.cell 4 125]) Tryz.func208 rfl Tryz.ntmps208 rfl ?_
 simp(disch:=omega)only[go_sem]
 refine qb (YU s.lo low 3 hs.1 hl) ?_
 simp(disch:=omega)only[go_sem]
 refine qb (YU s.hi low 2 hs.2 hl) ?_
 simp(disch:=omega)only[go_sem]
 exact qq (hp:=by simp(disch:=omega)only[go_sem,SpV.out])
set_option maxRecDepth 100000 in
theorem J4(s t:SpV)(f:Nat)(caps:List AV)(F:ExV→ExV→ExV)(hf:∀x y:ExV,(x=s.lo∨x=s.hi)→(y=t.lo∨y=t.hi)→Con Tryz.prog f false (.ag [.v (.bool (x).s),.sl (lim (x).m).length (qh (lim (x).m)),.v (.int .i64 (x).e)]:: .ag [.v (.bool (y).s),.sl (lim (y).m).length (qh (lim (y).m)),.v (.int .i64 (y).e)]::caps) [] (isA (.ag [.v (.bool (F x y).s),.sl (lim (F x y).m).length (qh (lim (F x y).m)),.v (.int .i64 (F x y).e)])))(hg:qs Tryz.prog f=True)
  (hc:∀h:Nat→Ob,caps.map (qN h 6)=caps) (hc5:∀h:Nat→Ob,caps.map (qN h 5)=caps) (hn:∀ks,AllL (yn ks) caps) (hr:∀ρ,zU ρ caps=caps):
  Con Tryz.prog 258 false [.ag [.v (.bool (s).lo.s),.sl (lim (s).lo.m).length (qh (lim (s).lo.m)),.v (.int .i64 (s).lo.e),.v (.bool (s).hi.s),.sl (lim (s).hi.m).length (qh (lim (s).hi.m)),.v (.int .i64 (s).hi.e)],.ag [.v (.bool (t).lo.s),.sl (lim (t).lo.m).length (qh (lim (t).lo.m)),.v (.int .i64 (t).lo.e),.v (.bool (t).hi.s),.sl (lim (t).hi.m).length (qh (lim (t).hi.m)),.v (.int .i64 (t).hi.e)],.fn f caps] [] (isA (.sl 4 (qg ExV.cs (jE F s t)))):=by
 refine Con.frzA ?_
 refine Con.of_aw Tryz.func258 rfl Tryz.ntmps258 (by simp) (by simp) (by simp) (W.sound ?_)
 show @W Tryz.prog 32 ⟨_⟩ ⟨fun x σ=>@q9 _ _ _ ⟨_⟩ _ ⟨_⟩ x σ⟩ _ _
 simp(disch:=omega)only[go_sem,hg]
 refine qm rfl [⟨0,[],[]⟩,⟨1,[],[]⟩,⟨2,[],[]⟩,⟨3,[2],[]⟩,⟨4,[2],[]⟩,⟨6,[2,4],[]⟩,⟨7,[2,4],[]⟩,⟨8,[2,4],[]⟩,⟨9,[2,4,8],[]⟩,⟨10,[2,4,8],[]⟩,⟨12,[2,4,8,10],[]⟩,⟨13,[2,4,8,10],[]⟩,⟨14,[2,4,8,10],[]⟩,⟨15,[2,4,8,10,14],[]⟩,⟨16,[2,4,8,10,14],[]⟩,⟨18,[2,4,8,10,14,16],[]⟩,⟨19,[2,4,8,10,14,16],[]⟩,⟨20,[2,4,8,10,14,16],[]⟩,⟨21,[2,4,8,10,14,16,20],[]⟩,⟨22,[2,4,8,10,14,16,20],[]⟩,⟨5,[8,10,14,16,20,22],[]⟩,⟨11,[14,16,20,22],[]⟩,⟨17,[20,22],[]⟩,⟨23,[],[]⟩,⟨24,[],[]⟩,⟨25,[],[]⟩] (by kernel_rfl) ?_
 simp(disch:=omega)only[go_sem,hg]
 refine qK (hf s.lo t.lo (.inl rfl) (.inl rfl)) (by simp(disch:=omega)only[go_sem,hc,hc5]) ?_
 rintro r hs ⟨rfl,rfl,_⟩
 refine⟨by simp[qG],?_⟩
 simp(disch:=omega)only[go_sem,hg]
 refine qK (hf s.lo t.hi (.inl rfl) (.inr rfl)) (by simp(disch:=omega)only[go_sem,hc,hc5]) ?_
 rintro r hs ⟨rfl,rfl,_⟩
 refine⟨by simp[qG],?_⟩
 simp(disch:=omega)only[go_sem,hg]
 refine qK (hf s.hi t.lo (.inr rfl) (.inl rfl)) (by simp(disch:=omega)only[go_sem,hc,hc5]) ?_
 rintro r hs ⟨rfl,rfl,_⟩
 refine⟨by simp[qG],?_⟩
 simp(disch:=omega)only[go_sem,hg]
 refine qK (hf s.hi t.hi (.inr rfl) (.inr rfl)) (by simp(disch:=omega)only[go_sem,hc,hc5]) ?_
 rintro r hs ⟨rfl,rfl,_⟩
 refine⟨by simp[qG],?_⟩
 simp(disch:=omega)only[go_sem]
 have hrow:qg ExV.cs (jE F s t)=[.v (.bool (F s.lo t.lo).s),.sl (lim (F s.lo t.lo).m).length (qh (lim (F s.lo t.lo).m)),.v (.int .i64 (F s.lo t.lo).e),.v (.bool (F s.lo t.hi).s),.sl (lim (F s.lo t.hi).m).length (qh (lim (F s.lo t.hi).m)),.v (.int .i64 (F s.lo t.hi).e),
   .v (.bool (F s.hi t.lo).s),.sl (lim (F s.hi t.lo).m).length (qh (lim (F s.hi t.lo).m)),.v (.int .i64 (F s.hi t.lo).e),.v (.bool (F s.hi t.hi).s),.sl (lim (F s.hi t.hi).m).length (qh (lim (F s.hi t.hi).m)),.v (.int .i64 (F s.hi t.hi).e)]:=rfl
 rw[←hrow]
 refine ql [(0,330000000)] [.own 3 (qg ExV.cs (jE F s t))] [] [.rf 0 0 4] rfl (by simp(disch:=omega)only[go_sem]) (by simp(disch:=omega)only[go_sem]) (by simp) (by simp) ?_
 show qN _ 6 _=_
 simp(disch:=omega)only[go_sem,zg,qV (l:=jE F s t) (k:=4) rfl]
theorem ae4(s t:SpV)(hs:s.bd (-200000) 200000)(ht:t.bd (-200000) 200000):Con Tryz.prog 177 false [.ag [.v (.bool (s).lo.s),.sl (lim (s).lo.m).length (qh (lim (s).lo.m)),.v (.int .i64 (s).lo.e),.v (.bool (s).hi.s),.sl (lim (s).hi.m).length (qh (lim (s).hi.m)),.v (.int .i64 (s).hi.e)],.ag [.v (.bool (t).lo.s),.sl (lim (t).lo.m).length (qh (lim (t).lo.m)),.v (.int .i64 (t).lo.e),.v (.bool (t).hi.s),.sl (lim (t).hi.m).length (qh (lim (t).hi.m)),.v (.int .i64 (t).hi.e)]] [] (isA (.ag [.v (.bool (s.times t).lo.s),.sl (lim (s.times t).lo.m).length (qh (lim (s.times t).lo.m)),.v (.int .i64 (s.times t).lo.e),.v (.bool (s.times t).hi.s),.sl (lim (s.times t).hi.m).length (qh (lim (s.times t).hi.m)),.v (.int .i64 (s.times t).hi.e)])):=by
 refine Con.frzA ?_
 have hm:∀x:ExV,x.bd (-200000) 200000→x.bd (-400000) 400000:=fun x h=>h.mono (by omega) (by omega)
 have he:=af7 (F:=ExV.times) (lo:= -400000) (hi:=400000) hs ht (fun x y hx hy=>(ExV.times_bd hx hy).mono (by omega) (by omega))
 have ce:=J4 s t 168 [] ExV.times (fun x y hx hy=>by
  refine qn x y (hm x ?_) (hm y ?_)
  ·rcases hx with rfl|rfl
   ·exact hs.1
   ·exact hs.2
  ·rcases hy with rfl|rfl
   ·exact ht.1
   ·exact ht.2) (by simp(disch:=omega)only[go_sem]) (fun h=>rfl) (fun h=>rfl) (fun ks=>by simp(disch:=omega)only[go_sem]) (fun ρ=>rfl)
 unfold SpV.times
 generalize hE:jE ExV.times s t=E at*
 have hE4:E.length=4:=by rw[←hE];rfl
 have cl:=aaR E (by omega) (by omega) he
 have cm:=agf E (by omega) (by omega) he
 rw[hE4]at cl cm
 refine Con.of_w (rs:=[.cell 4 125]) Tryz.func177 rfl Tryz.ntmps177 rfl ?_
 simp(disch:=omega)only[go_sem]
 refine qb (ce) ?_
 simp(disch:=omega)only[go_sem]
 refine qb (cl) ?_
 simp(disch:=omega)only[go_sem]
 refine qb (cm) ?_
 simp(disch:=omega)only[go_sem]
 exact qq
end Go.Ab
namespace Go.Ab
open Go
section
variable {P:Program}{N:Nat}{σ:St}{Q:Exit→St→Prop}
theorem Le.nilC(m o:Nat){zo:Nat}{cs:List AV}(hm:σ.hp m=.own zo cs)(ho:cs[o]? =some (.v (.slice none 0 0))):
  Le σ ⟨σ.env,upd σ.hp m (.own zo (cs.set o (.sl 0 [])))⟩:=by
 intro L w0 R0 N a w hi
 obtain⟨R,ι,hR,h⟩:=hi.inv
 obtain⟨hol,hoe⟩:=List.getElem?_eq_some_iff.1 ho
 have key:Inv L w0 R ι w a.tmps ⟨σ.env,upd σ.hp m (.own zo (cs.set o (.sl 0 [])))⟩:=by
  cases hB:ι m with
  |none=>
   have:=h.hp.ok m
   rw[hm,hB]at this
   have e:cs=[]:=this
   rw[e]at hol;simp at hol
  |some B=>
   obtain⟨c,T,lo,hi',h1,h2,h3,h4,h5,h6⟩:=jw h hm hB
   refine h.turn hm hB rfl rfl rfl rfl (fun _ _=>rfl) ⟨c,T,lo,hi',h1,h2,h3,h4,by rw[List.length_set];exact h5,fun i hi2=>?_⟩ (AllL.of_get fun i hi2=>?_)
   ·rw[List.length_set]at hi2
    rw[List.getElem_set]
    by_cases e:o=i
    ·subst e
     rw[if_pos rfl]
     have:=h6 o hi2
     rw[hoe]at this
     rw[this.v_inv]
     exact .fr _ _ (.sl none 0 0 [] (fun _=>undef) 0 0 (Nat.le_refl _) (fun h=>absurd h (by simp)) (fun i h=>absurd h (by simp)) (fun i h=>absurd h (by simp)))
    ·rw[if_neg e];exact h6 i hi2
   ·rw[List.length_set]at hi2
    rw[List.getElem_set]
    split
    ·simp[AV.All]
    ·exact(h.hp.men m zo cs hm).get i hi2
 exact⟨hi.df,hi.sz,R,ι,hR,key⟩
theorem Le.frz(m:Nat){z:Nat}{ks:List AV}(hm:σ.hp m=.own z ks)(hl:j6 m=false)(hn:AllL (fun _=>False) ks):
  Le σ ⟨fun s=>(σ.env s).fz m z ks,fun k=>if k=m then .dead else(σ.hp k).fz m z ks⟩:=by
 have:=Le.freeze m hm hl hn
 have e:(fun k=>bif Nat.beq k m then Ob.dead else(σ.hp k).fz m z ks)=fun k=>if k=m then Ob.dead else(σ.hp k).fz m z ks:=by
  funext k
  by_cases h:k=m
  ·subst h;rw[Nat.beq_refl,cond_true,if_pos rfl]
  ·rw[afV h,cond_false,if_neg h]
 rwa[e]at this
theorem AW.seqLe{x y:Code}{E:List (Nat×AV)}{H:List (Nat×Ob)}(hx:AW P N x (fun ex σ'=>ex=.normal∧Le σ' ⟨ofL .un E,ofH H⟩) σ)(hy:AW P N y Q ⟨ofL .un E,ofH H⟩):AW P N (.seq x y) Q σ:=
 AW.seq (hx.mono fun ex σ' ⟨he,hl⟩=>by subst he;exact AW.le hl hy)
end
section
variable {m z:Nat}{ks:List AV}
theorem bf8:AV.fz m z ks .un=.un:=ID rfl
theorem bk3{x:Value}:AV.fz m z ks (.v x)=.v x:=ID rfl
theorem bga{n:Nat}{cs:List AV}:AV.fz m z ks (.sl n cs)=.sl n cs:=ID rfl
theorem bgd{o:Nat}{cs:List AV}:AV.fz m z ks (.fp cs o)=.fp cs o:=ID rfl
theorem bgc{nm o:Nat}:AV.fz m z ks (.pt nm o)=if nm=m then .fp ks o else .pt nm o:=by
 by_cases h:nm=m
 ·subst h;simp[AV.fz,Nat.beq_refl]
 ·simp[AV.fz,afV h,h]
theorem bgb{nm o n:Nat}:AV.fz m z ks (.rf nm o n)=if nm=m then .sl n (cut ks o (n*z))else .rf nm o n:=by
 by_cases h:nm=m
 ·subst h;simp[AV.fz,Nat.beq_refl]
 ·simp[AV.fz,afV h,h]
theorem bgf{cs:List AV}:AV.fz m z ks (.ag cs)=.ag (fzL m z ks cs):=ID rfl
theorem bf9{cs:List AV}:AV.fz m z ks (.tu cs)=.tu (fzL m z ks cs):=ID rfl
theorem bge{f:Nat}{cs:List AV}:AV.fz m z ks (.fn f cs)=.fn f (fzL m z ks cs):=ID rfl
theorem aPh:fzL m z ks []=[]:=ID rfl
theorem aFX{a:AV}{r:List AV}:fzL m z ks (a::r)=a.fz m z ks::fzL m z ks r:=ID rfl
theorem aRl{y:Nat}{cs:List AV}:Ob.fz m z ks (.own y cs)=.own y (fzL m z ks cs):=ID rfl
theorem aFW{xs:List Int}:fzL m z ks (qh xs)=qh xs:=by simp[jL,qh,AV.fz]
end
section
variable {h:Nat→Ob}{ix:Nat→Option Nat}{k:Nat}
theorem aSz{f:Nat}{cs:List AV}:snp h ix (k+1) (.fn f cs)=.fn f (cs.map (snp h ix k)):=ID rfl
theorem aSA{cs:List AV}:snp h ix (k+1) (.ag cs)=.ag (cs.map (snp h ix k)):=ID rfl
theorem aSy{o:Nat}{cs:List AV}:snp h ix (k+1) (.fp cs o)=.fp cs o:=ID rfl
end
attribute [go_sem] aSz aSA aSy
attribute [go_sem] bf8 bk3 bga bgd bgc bgb bgf bf9 bge aPh aFX aRl aFW
end Go.Ab
namespace Go.Ab
open Go Go.Proofs
theorem zn{n i j:Nat}(hi:i<n)(hj:j<n):i*n+j<n*n:=by
 have:(i+1)*n≤n*n:=Nat.mul_le_mul_right n hi
 rw[Nat.add_mul,Nat.one_mul]at this;omega
theorem yW{n:Nat}(h:n≤4):n*n≤16:=Nat.mul_le_mul h h
theorem af6{lo hi:Int}(h1:lo≤0)(h2:0≤hi):ex0.bd lo hi:=⟨fun _=>rfl,h1,by show((bl 0:Nat):Int)+0≤hi;rw[Qi];omega⟩
theorem aT6{n:Nat}{g:Nat→Nat→ExV}{lo hi:Int}(h:∀i j,i<n→j<n→(g i j).bd lo hi):gbd lo hi (gl n g (n*n)):=by
 intro x hx
 simp only[gl,List.mem_map,List.mem_range]at hx
 obtain⟨t,ht,rfl⟩:=hx
 have hn:0<n:=by
  rcases Nat.eq_zero_or_pos n with e|e
  ·subst e;simp at ht
  ·exact e
 exact h _ _ (Nat.div_lt_of_lt_mul ht) (Nat.mod_lt _ hn)
theorem je(n:Nat)(f:Nat)(caps:List AV)(g:Nat→Nat→ExV)(hn0:n≤4)(hf:∀i j:Nat,i<n→j<n→Con Tryz.prog f false (.v (.int .i64 i):: .v (.int .i64 j)::caps) [] (isA (.ag [.v (.bool (g i j).s),.sl (lim (g i j).m).length (qh (lim (g i j).m)),.v (.int .i64 (g i j).e)])))(hg:qs Tryz.prog f=True)
  (hc:∀h:Nat→Ob,caps.map (qN h 6)=caps) (hc5:∀h:Nat→Ob,caps.map (qN h 5)=caps) (hn:∀ks,AllL (yn ks) caps) (hr:∀ρ,zU ρ caps=caps):
  Con Tryz.prog 94 false [.v (.int .i64 n),.fn f caps] [] (isA (.ag [.v (.int .i64 (n)),.sl (gl n g (n*n)).length (qg ExV.cs (gl n g (n*n)))])):=by
 rw[yw];exact alx n f caps g hn0 hf hg hc hc5 hn hr
def aFV(n:Nat)(l l':List ExV):List ExV:=gl n (fun i j=>(l.getD (i*n+j) ex0).plus (l'.getD (i*n+j) ex0)) (n*n)
theorem alB(n:Nat)(l l':List ExV)(i j:Nat)(hn:n≤4)(hi:i<n)(hj:j<n)(hl:l.length=n*n)(hl':l'.length=n*n)(hb:gbd (-400000) 400000 l)(hb':gbd (-400000) 400000 l'):
  Con Tryz.prog 271 false [.v (.int .i64 i),.v (.int .i64 j),.fp [.v (.int .i64 n),.sl l.length (qg ExV.cs l)] 0,.fp [.v (.int .i64 n),.sl l'.length (qg ExV.cs l')] 0] [] (isA (.ag [.v (.bool ((l.getD (i*n+j) ex0).plus (l'.getD (i*n+j) ex0)).s),.sl (lim ((l.getD (i*n+j) ex0).plus (l'.getD (i*n+j) ex0)).m).length (qh (lim ((l.getD (i*n+j) ex0).plus (l'.getD (i*n+j) ex0)).m)),.v (.int .i64 ((l.getD (i*n+j) ex0).plus (l'.getD (i*n+j) ex0)).e)])):=by
 refine Con.frzA ?_
 have hx:=zn hi hj
 have hq:=yW hn
 have c1:=y5 n l i j (by omega) (by omega) (by omega) (by omega) (by omega)
 have c2:=y5 n l' i j (by omega) (by omega) (by omega) (by omega) (by omega)
 have b1:=qi hb (show i*n+j<l.length by omega)
 have b2:=qi hb' (show i*n+j<l'.length by omega)
 generalize l.getD (i*n+j) ex0=x at*
 generalize l'.getD (i*n+j) ex0=y at*
 refine Con.of_w (rs:=[.cell 6 117]) Tryz.func271 rfl Tryz.ntmps271 rfl ?_
 simp(disch:=omega)only[go_sem]
 refine qm rfl [⟨0,[],[]⟩,⟨1,[0],[]⟩,⟨2,[0],[]⟩,⟨4,[0],[]⟩,⟨5,[0,4],[]⟩,⟨6,[0,4],[]⟩,⟨3,[4],[]⟩,⟨7,[],[]⟩,⟨8,[],[]⟩,⟨9,[],[]⟩] (by kernel_rfl) ?_
 simp(disch:=omega)only[go_sem]
 refine qb (c1) ?_
 simp(disch:=omega)only[go_sem]
 refine qb (c2) ?_
 simp(disch:=omega)only[go_sem]
 refine qb (z8 x y b1 b2) ?_
 simp(disch:=omega)only[go_sem]
 exact qq
theorem aYH(n:Nat)(l l':List ExV)(hn:n≤4)(hl:l.length=n*n)(hl':l'.length=n*n)(hb:gbd (-400000) 400000 l)(hb':gbd (-400000) 400000 l'):Con Tryz.prog 198 false [.ag [.v (.int .i64 (n)),.sl (l).length (qg ExV.cs (l))],.ag [.v (.int .i64 (n)),.sl (l').length (qg ExV.cs (l'))]] [] (isA (.ag [.v (.int .i64 (n)),.sl (aFV n l l').length (qg ExV.cs (aFV n l l'))])):=by
 refine Con.frzA ?_
 have c:=je n 271 [.fp [.v (.int .i64 n),.sl l.length (qg ExV.cs l)] 0,.fp [.v (.int .i64 n),.sl l'.length (qg ExV.cs l')] 0] (fun i j=>(l.getD (i*n+j) ex0).plus (l'.getD (i*n+j) ex0)) hn (fun i j hi hj=>alB n l l' i j hn hi hj hl hl' hb hb') (by simp(disch:=omega)only[go_sem]) (fun h=>rfl) (fun h=>rfl) (fun ks=>by simp(disch:=omega)only[go_sem]) (fun ρ=>rfl)
 change Con _ _ _ _ _ (isA (.ag [.v (.int .i64 (n)),.sl (aFV n l l').length (qg ExV.cs (aFV n l l'))]))at c
 refine Con.of_aw Tryz.func198 rfl Tryz.ntmps198 (by simp) (by simp) (by simp) (AW.seqLe (E:=[(2,.fp [.v (.int .i64 n),.sl l.length (qg ExV.cs l)] 0),(3,.fp [.v (.int .i64 n),.sl l'.length (qg ExV.cs l')] 0),(4,.pt 0 0)]) (H:=[(0,.own 0 [.v (.int .i64 0),.v (.slice none 0 0)])]) (W.sound ?_) (W.sound ?_))
 ·show @W Tryz.prog 9 ⟨_⟩ ⟨_⟩ _ _
  simp(disch:=omega)only[go_sem]
  exact(Le.frz 40000000 (z:=0) (ks:=[.v (.int .i64 n),.sl l.length (qg ExV.cs l)]) (by simp(disch:=omega)only[go_sem]) rfl (by simp(disch:=omega)only[go_sem])).trans ((Le.frz 50000000 (z:=0) (ks:=[.v (.int .i64 n),.sl l'.length (qg ExV.cs l')]) (by simp(disch:=omega)only[go_sem]) rfl (by simp(disch:=omega)only[go_sem])).trans (Le.lst [(0,60000000)] _ _ rfl (by simp(disch:=omega)only[go_sem]) (by simp(disch:=omega)only[go_sem])))
 show @W Tryz.prog 9 ⟨_⟩ ⟨fun x σ=>@q9 _ _ _ ⟨_⟩ _ ⟨_⟩ x σ⟩ _ _
 simp(disch:=omega)only[go_sem]
 refine qb (c) ?_
 simp(disch:=omega)only[go_sem]
 exact qq
def biy(n:Nat)(l l':List ExV):List ExV:=gl n (fun i j=>(l.getD (i*n+j) ex0).plus (l'.getD (i*n+j) ex0).neg) (n*n)
def yy(n:Nat)(l:List ExV)(y:ExV):List ExV:=gl n (fun i j=>(l.getD (i*n+j) ex0).times y) (n*n)
theorem aaW(n:Nat)(l:List ExV)(y:ExV)(i j:Nat)(hn:n≤4)(hi:i<n)(hj:j<n)(hl:l.length=n*n)(hb:gbd (-400000) 400000 l)(hy:y.bd (-400000) 400000):
  Con Tryz.prog 167 false [.v (.int .i64 i),.v (.int .i64 j),.fp [.v (.int .i64 n),.sl l.length (qg ExV.cs l)] 0,.fp [.v (.bool y.s),.sl (lim y.m).length (qh (lim y.m)),.v (.int .i64 y.e)] 0] [] (isA (.ag [.v (.bool ((l.getD (i*n+j) ex0).times y).s),.sl (lim ((l.getD (i*n+j) ex0).times y).m).length (qh (lim ((l.getD (i*n+j) ex0).times y).m)),.v (.int .i64 ((l.getD (i*n+j) ex0).times y).e)])):=by
 refine Con.frzA ?_
 have hx:=zn hi hj
 have hq:=yW hn
 have c1:=y5 n l i j (by omega) (by omega) (by omega) (by omega) (by omega)
 have b1:=qi hb (show i*n+j<l.length by omega)
 generalize l.getD (i*n+j) ex0=x at*
 refine Con.of_w (rs:=[.cell 6 117]) Tryz.func167 rfl Tryz.ntmps167 rfl ?_
 simp(disch:=omega)only[go_sem]
 refine qm rfl [⟨0,[],[]⟩,⟨1,[0],[]⟩,⟨2,[0],[]⟩,⟨4,[0],[]⟩,⟨3,[4],[]⟩,⟨5,[],[]⟩,⟨6,[],[]⟩] (by kernel_rfl) ?_
 simp(disch:=omega)only[go_sem]
 refine qb (c1) ?_
 simp(disch:=omega)only[go_sem]
 refine qb (qn x y b1 hy) ?_
 simp(disch:=omega)only[go_sem]
 exact qq
theorem afh(n:Nat)(l:List ExV)(y:ExV)(hn:n≤4)(hl:l.length=n*n)(hb:gbd (-400000) 400000 l)(hy:y.bd (-400000) 400000):Con Tryz.prog 75 false [.ag [.v (.int .i64 (n)),.sl (l).length (qg ExV.cs (l))],.ag [.v (.bool (y).s),.sl (lim (y).m).length (qh (lim (y).m)),.v (.int .i64 (y).e)]] [] (isA (.ag [.v (.int .i64 (n)),.sl (yy n l y).length (qg ExV.cs (yy n l y))])):=by
 refine Con.frzA ?_
 have c:=je n 167 [.fp [.v (.int .i64 n),.sl l.length (qg ExV.cs l)] 0,.fp [.v (.bool y.s),.sl (lim y.m).length (qh (lim y.m)),.v (.int .i64 y.e)] 0] (fun i j=>(l.getD (i*n+j) ex0).times y) hn (fun i j hi hj=>aaW n l y i j hn hi hj hl hb hy) (by simp(disch:=omega)only[go_sem]) (fun h=>rfl) (fun h=>rfl) (fun ks=>by simp(disch:=omega)only[go_sem]) (fun ρ=>rfl)
 change Con _ _ _ _ _ (isA (.ag [.v (.int .i64 (n)),.sl (yy n l y).length (qg ExV.cs (yy n l y))]))at c
 refine Con.of_aw Tryz.func75 rfl Tryz.ntmps75 (by simp) (by simp) (by simp) (AW.seqLe (E:=[(2,.fp [.v (.int .i64 n),.sl l.length (qg ExV.cs l)] 0),(3,.fp [.v (.bool y.s),.sl (lim y.m).length (qh (lim y.m)),.v (.int .i64 y.e)] 0),(4,.pt 0 0)]) (H:=[(0,.own 0 [.v (.int .i64 0),.v (.slice none 0 0)])]) (W.sound ?_) (W.sound ?_))
 ·show @W Tryz.prog 9 ⟨_⟩ ⟨_⟩ _ _
  simp(disch:=omega)only[go_sem]
  exact(Le.frz 40000000 (z:=0) (ks:=[.v (.int .i64 n),.sl l.length (qg ExV.cs l)]) (by simp(disch:=omega)only[go_sem]) rfl (by simp(disch:=omega)only[go_sem])).trans ((Le.frz 50000000 (z:=0) (ks:=[.v (.bool y.s),.sl (lim y.m).length (qh (lim y.m)),.v (.int .i64 y.e)]) (by simp(disch:=omega)only[go_sem]) rfl (by simp(disch:=omega)only[go_sem])).trans (Le.lst [(0,60000000)] _ _ rfl (by simp(disch:=omega)only[go_sem]) (by simp(disch:=omega)only[go_sem])))
 show @W Tryz.prog 9 ⟨_⟩ ⟨fun x σ=>@q9 _ _ _ ⟨_⟩ _ ⟨_⟩ x σ⟩ _ _
 simp(disch:=omega)only[go_sem]
 refine qb (c) ?_
 simp(disch:=omega)only[go_sem]
 exact qq
def aPg(n:Nat)(l:List ExV)(low mode:Int):List ExV:=gl n (fun i j=>(l.getD (i*n+j) ex0).rnd low mode) (n*n)
theorem as3(n:Nat)(l:List ExV)(low mode:Int)(i j:Nat)(hn:n≤4)(hi:i<n)(hj:j<n)(hl:l.length=n*n)(hb:gbd (-400000) 400000 l)(hlo: -400000≤low∧low≤400000):
  Con Tryz.prog 195 false [.v (.int .i64 i),.v (.int .i64 j),.fp [.v (.int .i64 n),.sl l.length (qg ExV.cs l)] 0,.fp [.v (.int .i64 low)] 0,.fp [.v (.int .i64 mode)] 0] [] (isA (.ag [.v (.bool ((l.getD (i*n+j) ex0).rnd low mode).s),.sl (lim ((l.getD (i*n+j) ex0).rnd low mode).m).length (qh (lim ((l.getD (i*n+j) ex0).rnd low mode).m)),.v (.int .i64 ((l.getD (i*n+j) ex0).rnd low mode).e)])):=by
 refine Con.frzA ?_
 have hx:=zn hi hj
 have hq:=yW hn
 have c1:=y5 n l i j (by omega) (by omega) (by omega) (by omega) (by omega)
 have b1:=qi hb (show i*n+j<l.length by omega)
 generalize l.getD (i*n+j) ex0=x at*
 refine Con.of_w (rs:=[.cell 7 117]) Tryz.func195 rfl Tryz.ntmps195 rfl ?_
 simp(disch:=omega)only[go_sem]
 refine qm rfl [⟨0,[],[]⟩,⟨1,[0],[]⟩,⟨2,[0],[]⟩,⟨4,[0],[]⟩,⟨5,[0,4],[]⟩,⟨10,[0,4,5],[]⟩,⟨3,[4,5],[100000000]⟩,⟨6,[],[100000000]⟩,⟨7,[],[100000000]⟩,⟨8,[],[100000000]⟩,⟨9,[],[100000000]⟩,⟨11,[],[]⟩,⟨12,[],[]⟩] (by kernel_rfl) ?_
 simp(disch:=omega)only[go_sem]
 refine qb (c1) ?_
 simp(disch:=omega)only[go_sem]
 refine qb (YU x low mode b1 hlo) ?_
 simp(disch:=omega)only[go_sem]
 exact qq
theorem aGV(n:Nat)(l:List ExV)(low mode:Int)(hn:n≤4)(hl:l.length=n*n)(hb:gbd (-400000) 400000 l)(hlo: -400000≤low∧low≤400000):Con Tryz.prog 102 false [.ag [.v (.int .i64 (n)),.sl (l).length (qg ExV.cs (l))],.v (.int .i64 low),.v (.int .i64 mode)] [] (isA (.ag [.v (.int .i64 (n)),.sl (aPg n l low mode).length (qg ExV.cs (aPg n l low mode))])):=by
 refine Con.frzA ?_
 have c:=je n 195 [.fp [.v (.int .i64 n),.sl l.length (qg ExV.cs l)] 0,.fp [.v (.int .i64 low)] 0,.fp [.v (.int .i64 mode)] 0] (fun i j=>(l.getD (i*n+j) ex0).rnd low mode) hn (fun i j hi hj=>as3 n l low mode i j hn hi hj hl hb hlo) (by simp(disch:=omega)only[go_sem]) (fun h=>rfl) (fun h=>rfl) (fun ks=>by simp(disch:=omega)only[go_sem]) (fun ρ=>rfl)
 change Con _ _ _ _ _ (isA (.ag [.v (.int .i64 (n)),.sl (aPg n l low mode).length (qg ExV.cs (aPg n l low mode))]))at c
 refine Con.of_aw Tryz.func102 rfl Tryz.ntmps102 (by simp) (by simp) (by simp) (AW.seqLe (E:=[(3,.fp [.v (.int .i64 n),.sl l.length (qg ExV.cs l)] 0),(4,.fp [.v (.int .i64 low)] 0),(5,.fp [.v (.int .i64 mode)] 0),(6,.pt 0 0)]) (H:=[(0,.own 0 [.v (.int .i64 0),.v (.slice none 0 0)])]) (W.sound ?_) (W.sound ?_))
 ·show @W Tryz.prog 11 ⟨_⟩ ⟨_⟩ _ _
  simp(disch:=omega)only[go_sem]
  exact(Le.frz 50000000 (z:=0) (ks:=[.v (.int .i64 n),.sl l.length (qg ExV.cs l)]) (by simp(disch:=omega)only[go_sem]) rfl (by simp(disch:=omega)only[go_sem])).trans ((Le.frz 60000000 (z:=0) (ks:=[.v (.int .i64 low)]) (by simp(disch:=omega)only[go_sem]) rfl (by simp(disch:=omega)only[go_sem])).trans ((Le.frz 70000000 (z:=0) (ks:=[.v (.int .i64 mode)]) (by simp(disch:=omega)only[go_sem]) rfl (by simp(disch:=omega)only[go_sem])).trans (Le.lst [(0,80000000)] _ _ rfl (by simp(disch:=omega)only[go_sem]) (by simp(disch:=omega)only[go_sem]))))
 show @W Tryz.prog 11 ⟨_⟩ ⟨fun x σ=>@q9 _ _ _ ⟨_⟩ _ ⟨_⟩ x σ⟩ _ _
 simp(disch:=omega)only[go_sem]
 refine qb (c) ?_
 simp(disch:=omega)only[go_sem]
 exact qq
def ex1:ExV:=⟨false,1,0⟩
theorem ZD:Con Tryz.prog 160 false [] [] (isA (.ag [.v (.bool (ex1).s),.sl (lim (ex1).m).length (qh (lim (ex1).m)),.v (.int .i64 (ex1).e)])):=by
 refine Con.frzA ?_
 refine Con.of_w (rs:=[.cell 0 117]) Tryz.func160 rfl Tryz.ntmps160 rfl ?_
 simp(disch:=omega)only[go_sem]
 refine qb (zG 1 (by omega)) ?_
 simp(disch:=omega)only[go_sem]
 exact qq (hp:=by simp(disch:=omega)only[go_sem,ex1])
def idF(i j:Nat):ExV:=if i=j then ex1 else ex0
def gId(n:Nat):List ExV:=gl n idF (n*n)
theorem aQt(i j:Nat):Con Tryz.prog 179 false [.v (.int .i64 i),.v (.int .i64 j)] [] (isA (.ag [.v (.bool (idF i j).s),.sl (lim (idF i j).m).length (qh (lim (idF i j).m)),.v (.int .i64 (idF i j).e)])):=by
 refine Con.frzA ?_
 refine Con.of_w (rs:=[.cell 4 117]) Tryz.func179 rfl Tryz.ntmps179 rfl ?_
 simp(disch:=omega)only[go_sem]
 refine qe (fun h1=>?_) (fun h1=>?_)
 ·simp(disch:=omega)only[go_sem,h1]
  have e:idF i j=ex1:=if_pos (by omega)
  rw[e]
  refine qb (ZD) ?_
  simp(disch:=omega)only[go_sem]
  exact qq
 ·simp(disch:=omega)only[go_sem,h1]
  have e:idF i j=ex0:=if_neg (by omega)
  rw[e]
  exact qq (hp:=by simp(disch:=omega)only[go_sem,ex0,qt,List.length_nil,jt])
theorem aQu(n:Nat)(hn:n≤4):Con Tryz.prog 86 false [.v (.int .i64 n)] [] (isA (.ag [.v (.int .i64 (n)),.sl (gId n).length (qg ExV.cs (gId n))])):=by
 refine Con.frzA ?_
 have c:=je n 179 [] idF hn (fun i j hi hj=>aQt i j) (by simp(disch:=omega)only[go_sem]) (fun h=>rfl) (fun h=>rfl) (fun ks=>by simp(disch:=omega)only[go_sem]) (fun ρ=>rfl)
 change Con _ _ _ _ _ (isA (.ag [.v (.int .i64 (n)),.sl (gId n).length (qg ExV.cs (gId n))]))at c
 refine Con.of_w (rs:=[.cell 2 110]) Tryz.func86 rfl Tryz.ntmps86 rfl ?_
 simp(disch:=omega)only[go_sem]
 refine qb (c) ?_
 simp(disch:=omega)only[go_sem]
 exact qq
theorem QC{lo hi:Int}(g:Nat→ExV)(h0:lo≤0∧0≤hi):∀k:Nat,(∀t,t<k→(g t).bd lo hi)→((List.range k).foldl (fun s t=>s.plus (g t)) ex0).bd lo (hi+k)
 |0,_=>af6 h0.1 (by simpa using h0.2)
 |k+1,h=>by
  rw[List.range_succ,List.foldl_append,List.foldl_cons,List.foldl_nil]
  have:=ExV.plus_bd (QC g h0 k fun t ht=>h t (by omega)) ((h k (by omega)).mono (Int.le_refl _) (show hi≤hi+k by omega))
  exact this.mono (Int.le_refl _) (by omega)
def Xc(n:Nat)(l l':List ExV)(i j k:Nat):ExV:=(List.range k).foldl (fun s t=>s.plus ((l.getD (i*n+t) ex0).times (l'.getD (t*n+j) ex0))) ex0
def zv(n:Nat)(l l':List ExV):List ExV:=gl n (fun i j=>Xc n l l' i j n) (n*n)
theorem asq(n:Nat)(l l':List ExV)(i j:Nat):Xc n l l' i j 0=ex0:=rfl
theorem aaL(n:Nat)(l l':List ExV)(i j k:Nat):Xc n l l' i j (k+1)=(Xc n l l' i j k).plus ((l.getD (i*n+k) ex0).times (l'.getD (k*n+j) ex0)):=by
 unfold Xc;rw[List.range_succ,List.foldl_append,List.foldl_cons,List.foldl_nil]
theorem asr{l1 h1 l2 h2:Int}{n:Nat}{l l':List ExV}{i j k:Nat}(hi:i<n)(hj:j<n)(hk:k≤n)(hl:l.length=n*n)(hl':l'.length=n*n)(hb:gbd l1 h1 l)(hb':gbd l2 h2 l')(h0:l1+l2≤0∧0≤h1+h2):(Xc n l l' i j k).bd (l1+l2) (h1+h2+k):=
 QC _ h0 k fun t ht=>ExV.times_bd (qi hb (by rw[hl];exact zn hi (by omega))) (qi hb' (by rw[hl'];exact zn (by omega) hj))
theorem afg(n:Nat)(l l':List ExV)(i j:Nat)(hn:n≤4)(hi:i<n)(hj:j<n)(hl:l.length=n*n)(hl':l'.length=n*n)(hb:gbd (-190000) 190000 l)(hb':gbd (-190000) 190000 l'):
  Con Tryz.prog 191 false [.v (.int .i64 i),.v (.int .i64 j),.fp [.v (.int .i64 n),.sl l.length (qg ExV.cs l)] 0,.fp [.v (.int .i64 n),.sl l'.length (qg ExV.cs l')] 0] [] (isA (.ag [.v (.bool (Xc n l l' i j n).s),.sl (lim (Xc n l l' i j n).m).length (qh (lim (Xc n l l' i j n).m)),.v (.int .i64 (Xc n l l' i j n).e)])):=by
 refine Con.frzA ?_
 have hq:=yW hn
 refine Con.of_w (rs:=[.cell 6 117]) Tryz.func191 rfl Tryz.ntmps191 rfl ?_
 simp(disch:=omega)only[go_sem]
 refine qc (fun k:Nat=>[(0,.v (.int .i64 i)),(1,.v (.int .i64 j)),(2,.fp [.v (.int .i64 n),.sl l.length (qg ExV.cs l)] 0),(3,.fp [.v (.int .i64 n),.sl l'.length (qg ExV.cs l')] 0),(6,.pt 1 0),(7,.pt 0 0),(10,.v (.int .i64 n)),(11,.v (.int .i64 k))])
  (fun k=>[(0,.own 0 [.v (.bool (Xc n l l' i j k).s),.sl (lim (Xc n l l' i j k).m).length (qh (lim (Xc n l l' i j k).m)),.v (.int .i64 (Xc n l l' i j k).e)]),(1,.own 0 [.v (.bool false),.v (.slice none 0 0),.v (.int .i64 0)])])
  (fun k=>k≤n) (fun k=>n-k) 0 (by omega) ?_ ?_
 ·exact(Le.nilC 90000000 1 (zo:=0) (cs:=[.v (.bool false),.v (.slice none 0 0),.v (.int .i64 0)]) (by simp(disch:=omega)only[go_sem]) rfl).trans (Le.lst [(0,90000000),(1,80000000)] _ _ rfl (by simp(disch:=omega)only[go_sem]) (by simp(disch:=omega)only[go_sem,List.set_cons_succ,List.set_cons_zero,asq,ex0,qt]))
 intro k hk
 have hD:=asr (k:=k) hi hj hk hl hl' hb hb' (by omega)
 have hs:=aaL n l l' i j k
 generalize hDD:Xc n l l' i j k=D at*
 simp(disch:=omega)only[go_sem]
 refine qe (fun h1=>?_) (fun h1=>?_)
 ·have hk2:k<n:=by omega
  have hx:=zn hi hk2
  have hx':=zn hk2 hj
  have c1:=y5 n l i k (by omega) (by omega) (by omega) (by omega) (by omega)
  have c2:=y5 n l' k j (by omega) (by omega) (by omega) (by omega) (by omega)
  have b1:=qi hb (show i*n+k<l.length by omega)
  have b2:=qi hb' (show k*n+j<l'.length by omega)
  generalize l.getD (i*n+k) ex0=x at*
  generalize l'.getD (k*n+j) ex0=y at*
  simp(disch:=omega)only[go_sem,h1]
  refine qm rfl [⟨0,[],[]⟩,⟨1,[0],[]⟩,⟨2,[0,1],[]⟩,⟨3,[0,1],[]⟩,⟨5,[0,1],[]⟩,⟨6,[0,1,5],[]⟩,⟨7,[0,1,5],[]⟩,⟨4,[0,5],[]⟩,⟨8,[0],[]⟩,⟨9,[0],[]⟩,⟨10,[],[]⟩,⟨11,[],[]⟩] (by kernel_rfl) ?_
  simp(disch:=omega)only[go_sem]
  refine qb (c1) ?_
  simp(disch:=omega)only[go_sem]
  refine qb (c2) ?_
  simp(disch:=omega)only[go_sem]
  refine qb (qn x y (b1.mono (by omega) (by omega)) (b2.mono (by omega) (by omega))) ?_
  simp(disch:=omega)only[go_sem]
  refine qb (z8 D (x.times y) (hD.mono (by omega) (by omega)) ((ExV.times_bd b1 b2).mono (by omega) (by omega))) ?_
  simp(disch:=omega)only[go_sem]
  exact qa (k+1) [] (by show k+1≤_;omega) (by show n-(k+1)<n-k;omega) rfl (by simp(disch:=omega)only[go_sem];try omega) (by simp(disch:=omega)only[go_sem,hs])
 ·simp(disch:=omega)only[go_sem,h1]
  obtain rfl:n=k:=by omega
  rw[hDD]
  exact qq
theorem alz(n:Nat)(l l':List ExV)(hn:n≤4)(hl:l.length=n*n)(hl':l'.length=n*n)(hb:gbd (-190000) 190000 l)(hb':gbd (-190000) 190000 l'):Con Tryz.prog 98 false [.ag [.v (.int .i64 (n)),.sl (l).length (qg ExV.cs (l))],.ag [.v (.int .i64 (n)),.sl (l').length (qg ExV.cs (l'))]] [] (isA (.ag [.v (.int .i64 (n)),.sl (zv n l l').length (qg ExV.cs (zv n l l'))])):=by
 refine Con.frzA ?_
 have c:=je n 191 [.fp [.v (.int .i64 n),.sl l.length (qg ExV.cs l)] 0,.fp [.v (.int .i64 n),.sl l'.length (qg ExV.cs l')] 0] (fun i j=>Xc n l l' i j n) hn (fun i j hi hj=>afg n l l' i j hn hi hj hl hl' hb hb') (by simp(disch:=omega)only[go_sem]) (fun h=>rfl) (fun h=>rfl) (fun ks=>by simp(disch:=omega)only[go_sem]) (fun ρ=>rfl)
 change Con _ _ _ _ _ (isA (.ag [.v (.int .i64 (n)),.sl (zv n l l').length (qg ExV.cs (zv n l l'))]))at c
 refine Con.of_aw Tryz.func98 rfl Tryz.ntmps98 (by simp) (by simp) (by simp) (AW.seqLe (E:=[(2,.fp [.v (.int .i64 n),.sl l.length (qg ExV.cs l)] 0),(3,.fp [.v (.int .i64 n),.sl l'.length (qg ExV.cs l')] 0),(4,.pt 0 0)]) (H:=[(0,.own 0 [.v (.int .i64 0),.v (.slice none 0 0)])]) (W.sound ?_) (W.sound ?_))
 ·show @W Tryz.prog 9 ⟨_⟩ ⟨_⟩ _ _
  simp(disch:=omega)only[go_sem]
  exact(Le.frz 40000000 (z:=0) (ks:=[.v (.int .i64 n),.sl l.length (qg ExV.cs l)]) (by simp(disch:=omega)only[go_sem]) rfl (by simp(disch:=omega)only[go_sem])).trans ((Le.frz 50000000 (z:=0) (ks:=[.v (.int .i64 n),.sl l'.length (qg ExV.cs l')]) (by simp(disch:=omega)only[go_sem]) rfl (by simp(disch:=omega)only[go_sem])).trans (Le.lst [(0,60000000)] _ _ rfl (by simp(disch:=omega)only[go_sem]) (by simp(disch:=omega)only[go_sem])))
 show @W Tryz.prog 9 ⟨_⟩ ⟨fun x σ=>@q9 _ _ _ ⟨_⟩ _ ⟨_⟩ x σ⟩ _ _
 simp(disch:=omega)only[go_sem]
 refine qb (c) ?_
 simp(disch:=omega)only[go_sem]
 exact qq
end Go.Ab
namespace Go.Ab
open Go Go.Proofs
theorem y9{l:List SpV}{i:Nat}(hi:i<l.length):cut (qg SpV.cs l) (i*6) 6=[.v (.bool (l.getD i sp0).lo.s),.sl (lim (l.getD i sp0).lo.m).length (qh (lim (l.getD i sp0).lo.m)),.v (.int .i64 (l.getD i sp0).lo.e),.v (.bool (l.getD i sp0).hi.s),.sl (lim (l.getD i sp0).hi.m).length (qh (lim (l.getD i sp0).hi.m)),.v (.int .i64 (l.getD i sp0).hi.e)]:=QU (l:=l) aIA hi sp0
theorem jg{l:List SpV}{k:Nat}(h:l.length=k):cut (qg SpV.cs l) 0 (k*6)=qg SpV.cs l:=by subst h;exact aNo
theorem Q3:qg ExV.cs []=[]:=yq
theorem ZQ:qg SpV.cs []=[]:=yq
def mpT{X Y:Type}(l:List X)(F:X→Y)(i:Nat):List Y:=(l.take i).map F
theorem yK{X Y:Type}{l:List X}{F:X→Y}:mpT l F 0=[]:=rfl
theorem jp{X Y:Type}{l:List X}{F:X→Y}{i:Nat}(h:i≤l.length):(mpT l F i).length=i:=by unfold mpT;rw[List.length_map,List.length_take];omega
theorem yL{X Y:Type}{l:List X}{F:X→Y}{i:Nat}(d:X)(h:i<l.length):mpT l F (i+1)=mpT l F i++[F (l.getD i d)]:=by
 unfold mpT
 rw[List.take_add_one,List.getElem?_eq_getElem h,List.map_append,List.getD_eq_getElem?_getD,List.getElem?_eq_getElem h];rfl
theorem QX{X Y:Type}{l:List X}{F:X→Y}:mpT l F l.length=l.map F:=by unfold mpT;rw[List.take_length]
def sbd(lo hi:Int)(l:List SpV):Prop:=∀x∈l,x.bd lo hi
theorem jJ{lo hi:Int}{l:List SpV}{i:Nat}(h:sbd lo hi l)(hi':i<l.length):(l.getD i sp0).bd lo hi:=by
 refine h _ ?_
 rw[List.getD_eq_getElem?_getD,List.getElem?_eq_getElem hi'];exact List.getElem_mem _
set_option maxRecDepth 100000 in
theorem zC(n:Int)(l:List ExV)(hl:l.length≤1000):Con Tryz.prog 70 false [.ag [.v (.int .i64 n),.sl l.length (qg ExV.cs l)]] [] (isA (.ag [.v (.int .i64 n),.sl l.length (qg ExV.cs l)])):=by
 refine Con.frzA ?_
 refine Con.of_aw Tryz.func70 rfl Tryz.ntmps70 (by simp) (by simp) (by simp) (W.sound ?_)
 show @W Tryz.prog 25 ⟨_⟩ ⟨fun x σ=>@q9 _ _ _ ⟨_⟩ _ ⟨_⟩ x σ⟩ _ _
 simp(disch:=omega)only[go_sem]
 refine qc (fun i:Nat=>[(10,.sl l.length (qg ExV.cs l)),(11,.v (.int .i64 l.length)),(12,.v (.int .i64 i)),(3,.pt 0 0),(2,.pt 2 0)])
  (fun i=>[(0,.own 0 [.v (.int .i64 n),.rf 1 0 i]),(1,.own 3 (qg ExV.cs (mpT l (id) i))),(2,.own 0 [.v (.int .i64 0),.v (.slice none 0 0)])]) (fun i=>i≤l.length) (fun i=>l.length-i) 0 (by omega)
  ((Le.ghostC 50000000 1 1 3 (zo:=0) (cs:=[.v (.int .i64 n),.v (.slice none 0 0)]) (by simp(disch:=omega)only[go_sem]) rfl (by simp(disch:=omega)only[go_sem])).trans (Le.lst [(0,50000000),(2,40000000)] _ _ rfl (by simp(disch:=omega)only[go_sem]) (by simp(disch:=omega)only[go_sem,yK,Q3,List.set_cons_succ,List.set_cons_zero]))) ?_
 intro i hi
 simp(disch:=omega)only[go_sem]
 refine qe (fun h1=>?_) (fun h1=>?_)
 ·have hi2:i<l.length:=by omega
  have hci:=qk hi2
  have hcut:=qV (jp (F:=id) hi)
  have hml:=jp (F:=id) hi
  have hs:=yL (F:=id) ex0 hi2
  generalize l.getD i ex0=x at*
  simp(disch:=omega)only[go_sem,h1,hci]
  refine⟨by omega,by omega,?_⟩
  refine qm rfl [⟨0,[],[]⟩,⟨1,[],[]⟩,⟨2,[1],[]⟩,⟨3,[1],[]⟩,⟨4,[1],[]⟩,⟨5,[],[]⟩,⟨6,[],[]⟩,⟨7,[],[]⟩] (by kernel_rfl) ?_
  simp(disch:=omega)only[go_sem]
  refine qb (afi x.s x.m x.e) ?_
  simp(disch:=omega)only[go_sem]
  simp(disch:=omega)only[go_sem,hcut,yR]
  refine⟨⟨by rw[hml];exact Nat.le_refl _,by omega⟩,qa (i+1) [(1,230000000)] (by show i+1≤_;omega) (by show l.length-(i+1)<l.length-i;omega) rfl (by simp(disch:=omega)only[go_sem];try omega) (by simp(disch:=omega)only[go_sem,hs,id_eq])⟩
 ·simp(disch:=omega)only[go_sem,h1]
  obtain rfl:i=l.length:=by omega
  refine ql [(0,1)] [.own 3 (qg ExV.cs (mpT l (id) l.length))] [] [.ag [.v (.int .i64 n),.rf 0 0 l.length]] rfl (by simp(disch:=omega)only[go_sem]) (by simp(disch:=omega)only[go_sem]) (by simp) (by simp) ?_
  show qN _ 6 _=_
  simp(disch:=omega)only[go_sem,zg,QX,qV (l:=l.map (id)) (k:=l.length) (List.length_map ..),List.map_id,qV (l:=l) (k:=l.length) rfl]
def ptS(x:ExV):SpV:=⟨x,x⟩
set_option maxRecDepth 100000 in
theorem Jr(n:Nat)(l:List ExV)(hl:l.length≤1000):Con Tryz.prog 120 false [.ag [.v (.int .i64 (n)),.sl (l).length (qg ExV.cs (l))]] [] (isA (.ag [.v (.int .i64 (n)),.sl (l.map ptS).length (qg SpV.cs (l.map ptS))])):=by
 refine Con.frzA ?_
 refine Con.of_aw Tryz.func120 rfl Tryz.ntmps120 (by simp) (by simp) (by simp) (W.sound ?_)
 show @W Tryz.prog 26 ⟨_⟩ ⟨fun x σ=>@q9 _ _ _ ⟨_⟩ _ ⟨_⟩ x σ⟩ _ _
 simp(disch:=omega)only[go_sem]
 refine qc (fun i:Nat=>[(10,.sl l.length (qg ExV.cs l)),(11,.v (.int .i64 l.length)),(12,.v (.int .i64 i)),(3,.pt 0 0),(2,.pt 2 0)])
  (fun i=>[(0,.own 0 [.v (.int .i64 n),.rf 1 0 i]),(1,.own 6 (qg SpV.cs (mpT l (ptS) i))),(2,.own 0 [.v (.int .i64 0),.v (.slice none 0 0)])]) (fun i=>i≤l.length) (fun i=>l.length-i) 0 (by omega)
  ((Le.ghostC 50000000 1 1 6 (zo:=0) (cs:=[.v (.int .i64 n),.v (.slice none 0 0)]) (by simp(disch:=omega)only[go_sem]) rfl (by simp(disch:=omega)only[go_sem])).trans (Le.lst [(0,50000000),(2,40000000)] _ _ rfl (by simp(disch:=omega)only[go_sem]) (by simp(disch:=omega)only[go_sem,yK,ZQ,List.set_cons_succ,List.set_cons_zero]))) ?_
 intro i hi
 simp(disch:=omega)only[go_sem]
 refine qe (fun h1=>?_) (fun h1=>?_)
 ·have hi2:i<l.length:=by omega
  have hci:=qk hi2
  have hcut:=jg (jp (F:=ptS) hi)
  have hml:=jp (F:=ptS) hi
  have hs:=yL (F:=ptS) ex0 hi2
  generalize l.getD i ex0=x at*
  simp(disch:=omega)only[go_sem,h1,hci]
  refine⟨by omega,by omega,?_⟩
  have hsn:∀L:List SpV,qg SpV.cs L++[.v (.bool x.s),.sl (lim x.m).length (qh (lim x.m)),.v (.int .i64 x.e),.v (.bool x.s),.sl (lim x.m).length (qh (lim x.m)),.v (.int .i64 x.e)]=qg SpV.cs (L++[ptS x]):=fun L=>Qo (x:=ptS x)
  simp(disch:=omega)only[go_sem,hcut,hsn]
  refine⟨⟨by rw[hml];exact Nat.le_refl _,by omega⟩,qa (i+1) [(1,240000000)] (by show i+1≤_;omega) (by show l.length-(i+1)<l.length-i;omega) rfl (by simp(disch:=omega)only[go_sem];try omega) (by simp(disch:=omega)only[go_sem,hs])⟩
 ·simp(disch:=omega)only[go_sem,h1]
  obtain rfl:i=l.length:=by omega
  refine ql [(0,1)] [.own 6 (qg SpV.cs (mpT l (ptS) l.length))] [] [.ag [.v (.int .i64 n),.rf 0 0 l.length]] rfl (by simp(disch:=omega)only[go_sem]) (by simp(disch:=omega)only[go_sem]) (by simp) (by simp) ?_
  show qN _ 6 _=_
  simp(disch:=omega)only[go_sem,zg,QX,jg (l:=l.map (ptS)) (k:=l.length) (List.length_map ..),List.length_map]
def aeK(s:SpV):ExV:=(s.lo.plus s.hi).shift (-1)
set_option maxRecDepth 100000 in
theorem aQq(n:Nat)(l:List SpV)(hl:l.length≤1000)(hb:sbd (-390000) 390000 l):Con Tryz.prog 114 false [.ag [.v (.int .i64 (n)),.sl (l).length (qg SpV.cs (l))]] [] (isA (.ag [.v (.int .i64 (n)),.sl (l.map aeK).length (qg ExV.cs (l.map aeK))])):=by
 refine Con.frzA ?_
 refine Con.of_aw Tryz.func114 rfl Tryz.ntmps114 (by simp) (by simp) (by simp) (W.sound ?_)
 show @W Tryz.prog 29 ⟨_⟩ ⟨fun x σ=>@q9 _ _ _ ⟨_⟩ _ ⟨_⟩ x σ⟩ _ _
 simp(disch:=omega)only[go_sem]
 refine qc (fun i:Nat=>[(10,.sl l.length (qg SpV.cs l)),(11,.v (.int .i64 l.length)),(12,.v (.int .i64 i)),(3,.pt 0 0),(2,.pt 2 0)])
  (fun i=>[(0,.own 0 [.v (.int .i64 n),.rf 1 0 i]),(1,.own 3 (qg ExV.cs (mpT l (aeK) i))),(2,.own 0 [.v (.int .i64 0),.v (.slice none 0 0)])]) (fun i=>i≤l.length) (fun i=>l.length-i) 0 (by omega)
  ((Le.ghostC 50000000 1 1 3 (zo:=0) (cs:=[.v (.int .i64 n),.v (.slice none 0 0)]) (by simp(disch:=omega)only[go_sem]) rfl (by simp(disch:=omega)only[go_sem])).trans (Le.lst [(0,50000000),(2,40000000)] _ _ rfl (by simp(disch:=omega)only[go_sem]) (by simp(disch:=omega)only[go_sem,yK,Q3,List.set_cons_succ,List.set_cons_zero]))) ?_
 intro i hi
 simp(disch:=omega)only[go_sem]
 refine qe (fun h1=>?_) (fun h1=>?_)
 ·have hi2:i<l.length:=by omega
  have hci:=y9 hi2
  have hcut:=qV (jp (F:=aeK) hi)
  have hml:=jp (F:=aeK) hi
  have hs:=yL (F:=aeK) sp0 hi2
  have hx:=jJ hb hi2
  generalize l.getD i sp0=x at*
  simp(disch:=omega)only[go_sem,h1,hci]
  refine⟨by omega,by omega,?_⟩
  refine qm rfl [⟨0,[],[]⟩,⟨1,[],[]⟩,⟨2,[1],[]⟩,⟨3,[1],[]⟩,⟨4,[1,3],[]⟩,⟨5,[1,3],[]⟩,⟨6,[1],[]⟩,⟨7,[1],[]⟩,⟨8,[1],[]⟩,⟨9,[],[]⟩,⟨10,[],[]⟩,⟨11,[],[]⟩] (by kernel_rfl) ?_
  simp(disch:=omega)only[go_sem]
  refine qb (z8 x.lo x.hi (hx.1.mono (by omega) (by omega)) (hx.2.mono (by omega) (by omega))) ?_
  simp(disch:=omega)only[go_sem]
  have hp:=ExV.plus_bd hx.1 hx.2
  have hp2: -390000≤(x.lo.plus x.hi).e∧(x.lo.plus x.hi).e≤400000:=⟨hp.2.1,by have:=hp.2.2;omega⟩
  refine qb (Q7 (x.lo.plus x.hi) (-1) (by omega) (by omega)) ?_
  simp(disch:=omega)only[go_sem]
  have em:aeK x=(x.lo.plus x.hi).shift (-1):=rfl
  rw[em]at hs
  simp(disch:=omega)only[go_sem,hcut,yR]
  refine⟨⟨by rw[hml];exact Nat.le_refl _,by omega⟩,qa (i+1) [(1,270000000)] (by show i+1≤_;omega) (by show l.length-(i+1)<l.length-i;omega) rfl (by simp(disch:=omega)only[go_sem];try omega) (by simp(disch:=omega)only[go_sem,hs])⟩
 ·simp(disch:=omega)only[go_sem,h1]
  obtain rfl:i=l.length:=by omega
  refine ql [(0,1)] [.own 3 (qg ExV.cs (mpT l (aeK) l.length))] [] [.ag [.v (.int .i64 n),.rf 0 0 l.length]] rfl (by simp(disch:=omega)only[go_sem]) (by simp(disch:=omega)only[go_sem]) (by simp) (by simp) ?_
  show qN _ 6 _=_
  simp(disch:=omega)only[go_sem,zg,QX,qV (l:=l.map (aeK)) (k:=l.length) (List.length_map ..),List.length_map]
set_option maxRecDepth 100000 in
theorem YZ(n:Nat)(l:List SpV)(f:Nat)(caps:List AV)(F:SpV→SpV)(hl:l.length≤1000)(hf:∀x∈l,Con Tryz.prog f false (.ag [.v (.bool (x).lo.s),.sl (lim (x).lo.m).length (qh (lim (x).lo.m)),.v (.int .i64 (x).lo.e),.v (.bool (x).hi.s),.sl (lim (x).hi.m).length (qh (lim (x).hi.m)),.v (.int .i64 (x).hi.e)]::caps) [] (isA (.ag [.v (.bool (F x).lo.s),.sl (lim (F x).lo.m).length (qh (lim (F x).lo.m)),.v (.int .i64 (F x).lo.e),.v (.bool (F x).hi.s),.sl (lim (F x).hi.m).length (qh (lim (F x).hi.m)),.v (.int .i64 (F x).hi.e)])))(hg:qs Tryz.prog f=True)
  (hc:∀h:Nat→Ob,caps.map (qN h 6)=caps) (hc5:∀h:Nat→Ob,caps.map (qN h 5)=caps) (hn:∀ks,AllL (yn ks) caps) (hr:∀ρ,zU ρ caps=caps):
  Con Tryz.prog 205 false [.ag [.v (.int .i64 (n)),.sl (l).length (qg SpV.cs (l))],.fn f caps] [] (isA (.ag [.v (.int .i64 (n)),.sl (l.map F).length (qg SpV.cs (l.map F))])):=by
 refine Con.frzA ?_
 refine Con.of_aw Tryz.func205 rfl Tryz.ntmps205 (by simp) (by simp) (by simp) (W.sound ?_)
 show @W Tryz.prog 28 ⟨_⟩ ⟨fun x σ=>@q9 _ _ _ ⟨_⟩ _ ⟨_⟩ x σ⟩ _ _
 simp(disch:=omega)only[go_sem,hg]
 refine qc (fun i:Nat=>[(1,.fn f caps),(12,.sl l.length (qg SpV.cs l)),(13,.v (.int .i64 l.length)),(14,.v (.int .i64 i)),(5,.pt 0 0),(4,.pt 2 0)])
  (fun i=>[(0,.own 0 [.v (.int .i64 n),.rf 1 0 i]),(1,.own 6 (qg SpV.cs (mpT l (F) i))),(2,.own 0 [.v (.int .i64 0),.v (.slice none 0 0)])]) (fun i=>i≤l.length) (fun i=>l.length-i) 0 (by omega)
  ((Le.ghostC 70000000 1 1 6 (zo:=0) (cs:=[.v (.int .i64 n),.v (.slice none 0 0)]) (by simp(disch:=omega)only[go_sem]) rfl (by simp(disch:=omega)only[go_sem])).trans (Le.lst [(0,70000000),(2,60000000)] _ _ rfl (by simp(disch:=omega)only[go_sem,hr,hn]) (by simp(disch:=omega)only[go_sem,yK,ZQ,List.set_cons_succ,List.set_cons_zero]))) ?_
 intro i hi
 simp(disch:=omega)only[go_sem]
 refine qe (fun h1=>?_) (fun h1=>?_)
 ·have hi2:i<l.length:=by omega
  have hci:=y9 hi2
  have hcut:=jg (jp (F:=F) hi)
  have hml:=jp (F:=F) hi
  have hs:=yL (F:=F) sp0 hi2
  have hfx:=hf (l.getD i sp0) (by rw[List.getD_eq_getElem?_getD,List.getElem?_eq_getElem hi2];exact List.getElem_mem _)
  generalize l.getD i sp0=x at*
  simp(disch:=omega)only[go_sem,h1,hci]
  refine⟨by omega,by omega,?_⟩
  refine qm rfl [⟨0,[],[]⟩,⟨1,[],[]⟩,⟨2,[1],[]⟩,⟨3,[1],[]⟩,⟨4,[1],[]⟩,⟨5,[1],[]⟩,⟨6,[],[]⟩,⟨7,[],[]⟩,⟨8,[],[]⟩] (by kernel_rfl) ?_
  simp(disch:=omega)only[go_sem,hg]
  refine qK hfx (by simp(disch:=omega)only[go_sem,hc,hc5]) ?_
  rintro r hs2 ⟨rfl,rfl,_⟩
  refine⟨by simp[qG],?_⟩
  simp(disch:=omega)only[go_sem,hcut,Qo]
  refine⟨⟨by rw[hml];exact Nat.le_refl _,by omega⟩,qa (i+1) [(1,260000000)] (by show i+1≤_;omega) (by show l.length-(i+1)<l.length-i;omega) rfl (by simp(disch:=omega)only[go_sem,hr,hn];try omega) (by simp(disch:=omega)only[go_sem,hs])⟩
 ·simp(disch:=omega)only[go_sem,h1]
  obtain rfl:i=l.length:=by omega
  refine ql [(0,1)] [.own 6 (qg SpV.cs (mpT l (F) l.length))] [] [.ag [.v (.int .i64 n),.rf 0 0 l.length]] rfl (by simp(disch:=omega)only[go_sem]) (by simp(disch:=omega)only[go_sem]) (by simp) (by simp) ?_
  show qN _ 6 _=_
  simp(disch:=omega)only[go_sem,zg,QX,jg (l:=l.map (F)) (k:=l.length) (List.length_map ..),List.length_map]
end Go.Ab
namespace Go.Ab
open Go Go.Proofs
theorem agc(n:Nat)(l:List SpV)(i j:Nat)(hl:i*n+j<l.length)(hb:l.length≤1000)(hn:n≤1000)(hi:i≤1000)(hj:j≤1000):
  Con Tryz.prog 176 false [.ag [.v (.int .i64 (n)),.sl (l).length (qg SpV.cs (l))],.v (.int .i64 i),.v (.int .i64 j)] [] (isA (.ag [.v (.bool (l.getD (i*n+j) sp0).lo.s),.sl (lim (l.getD (i*n+j) sp0).lo.m).length (qh (lim (l.getD (i*n+j) sp0).lo.m)),.v (.int .i64 (l.getD (i*n+j) sp0).lo.e),.v (.bool (l.getD (i*n+j) sp0).hi.s),.sl (lim (l.getD (i*n+j) sp0).hi.m).length (qh (lim (l.getD (i*n+j) sp0).hi.m)),.v (.int .i64 (l.getD (i*n+j) sp0).hi.e)])):=by
 refine Con.frzA ?_
 have hin:i*n≤1000:=by omega
 have hp:(i:Int)*(n:Int)≤1000∧0≤(i:Int)*(n:Int):=by rw[←Int.natCast_mul];omega
 have e1:(i:Int)*(n:Int)+(j:Int)=((i*n+j:Nat):Int):=by rw[Int.natCast_add,Int.natCast_mul]
 have hcut:=y9 hl
 generalize i*n+j=k at*
 refine Con.of_w (rs:=[.cell 6 125]) Tryz.func176 rfl Tryz.ntmps176 rfl ?_
 simp(disch:=omega)only[go_sem]
 simp(disch:=omega)only[go_sem,e1,hcut]
 refine⟨by omega,by omega,?_⟩
 exact qq
def gly{Y:Type}(n:Nat)(g:Nat→Nat→Y)(k:Nat):List Y:=(List.range k).map fun t=>g (t/n) (t % n)
theorem Jc{Y:Type}{n:Nat}{g:Nat→Nat→Y}{k:Nat}:(gly n g k).length=k:=by simp[gly]
theorem aFT{Y:Type}{n:Nat}{g:Nat→Nat→Y}{k:Nat}:gly n g (k+1)=gly n g k++[g (k/n) (k % n)]:=by simp[gly,List.range_succ]
theorem aPa{Y:Type}{n:Nat}{g:Nat→Nat→Y}:gly n g 0=[]:=rfl
def jD(n:Nat)(l l':List SpV)(i j k:Nat):SpV:=(List.range k).foldl (fun s t=>s.plus ((l.getD (i*n+t) sp0).times (l'.getD (t*n+j) sp0))) sp0
theorem akC(n:Nat)(l l':List SpV)(i j:Nat):jD n l l' i j 0=sp0:=rfl
theorem akD(n:Nat)(l l':List SpV)(i j k:Nat):jD n l l' i j (k+1)=(jD n l l' i j k).plus ((l.getD (i*n+k) sp0).times (l'.getD (k*n+j) sp0)):=by
 unfold jD;rw[List.range_succ,List.foldl_append,List.foldl_cons,List.foldl_nil]
def jT(n:Nat)(l l':List SpV):List SpV:=gly n (fun i j=>jD n l l' i j n) (n*n)
theorem SpV.times_bd{s t:SpV}{l1 h1 l2 h2:Int}(hs:s.bd l1 h1)(ht:t.bd l2 h2):(s.times t).bd (l1+l2) (h1+h2):=by
 have he:=af7 (F:=ExV.times) hs ht (fun x y hx hy=>ExV.times_bd hx hy)
 exact⟨aaw he (by simp[jE]),Zz he (by simp[jE])⟩
theorem SpV.plus_bd{s t:SpV}{lo hi:Int}(hs:s.bd lo hi)(ht:t.bd lo hi):(s.plus t).bd lo (hi+1):=⟨ExV.plus_bd hs.1 ht.1,ExV.plus_bd hs.2 ht.2⟩
theorem SpV.bd.mono{lo hi lo' hi':Int}{x:SpV}(h:x.bd lo hi)(h1:lo'≤lo)(h2:hi≤hi'):x.bd lo' hi':=⟨ExV.bd.mono h.1 h1 h2,ExV.bd.mono h.2 h1 h2⟩
theorem aSt{lo hi:Int}(h1:lo≤0)(h2:0≤hi):sp0.bd lo hi:=⟨af6 h1 h2,af6 h1 h2⟩
theorem j9{lo hi lo' hi':Int}{l:List SpV}(h:sbd lo hi l)(h1:lo'≤lo)(h2:hi≤hi'):sbd lo' hi' l:=fun x hx=>SpV.bd.mono (h x hx) h1 h2
theorem yh{lo hi lo' hi':Int}{l:List ExV}(h:gbd lo hi l)(h1:lo'≤lo)(h2:hi≤hi'):gbd lo' hi' l:=fun x hx=>ExV.bd.mono (h x hx) h1 h2
theorem aad{lo hi:Int}(g:Nat→SpV)(h0:lo≤0∧0≤hi):∀k:Nat,(∀t,t<k→(g t).bd lo hi)→((List.range k).foldl (fun s t=>s.plus (g t)) sp0).bd lo (hi+k)
 |0,_=>aSt h0.1 (by simpa using h0.2)
 |k+1,h=>by
  rw[List.range_succ,List.foldl_append,List.foldl_cons,List.foldl_nil]
  have:=SpV.plus_bd (aad g h0 k fun t ht=>h t (by omega)) (SpV.bd.mono (h k (by omega)) (Int.le_refl _) (show hi≤hi+k by omega))
  exact SpV.bd.mono this (Int.le_refl _) (by omega)
theorem aEQ{l1 h1 l2 h2:Int}{n:Nat}{l l':List SpV}{i j k:Nat}(hi:i<n)(hj:j<n)(hk:k≤n)(hl:l.length=n*n)(hl':l'.length=n*n)(hb:sbd l1 h1 l)(hb':sbd l2 h2 l')(h0:l1+l2≤0∧0≤h1+h2):(jD n l l' i j k).bd (l1+l2) (h1+h2+k):=
 aad _ h0 k fun t ht=>SpV.times_bd (jJ hb (by rw[hl];exact zn hi (by omega))) (jJ hb' (by rw[hl'];exact zn (by omega) hj))
set_option maxRecDepth 100000 in
theorem alC(n:Nat)(l l':List SpV)(hn:n≤4)(hl:l.length=n*n)(hl':l'.length=n*n)(hb:sbd (-190000) 190000 l)(hb':sbd (-190000) 190000 l'):Con Tryz.prog 82 false [.ag [.v (.int .i64 (n)),.sl (l).length (qg SpV.cs (l))],.ag [.v (.int .i64 (n)),.sl (l').length (qg SpV.cs (l'))]] [] (isA (.ag [.v (.int .i64 (n)),.sl (jT n l l').length (qg SpV.cs (jT n l l'))])):=by
 refine Con.frzA ?_
 have hq:=yW hn
 refine Con.of_aw Tryz.func82 rfl Tryz.ntmps82 (by simp) (by simp) (by simp) (W.sound ?_)
 show @W Tryz.prog 49 ⟨_⟩ ⟨fun x σ=>@q9 _ _ _ ⟨_⟩ _ ⟨_⟩ x σ⟩ _ _
 simp(disch:=omega)only[go_sem]
 refine qc (fun i:Nat=>[(2,.pt 3 0),(3,.pt 4 0),(4,.pt 2 0),(5,.pt 0 0),(14,.v (.int .i64 n)),(15,.v (.int .i64 i))])
  (fun i=>[(0,.own 0 [.v (.int .i64 n),.rf 1 0 (i*n)]),(1,.own 6 (qg SpV.cs (gly n (fun i j=>jD n l l' i j n) (i*n)))),(2,.own 0 [.v (.int .i64 0),.v (.slice none 0 0)]),(3,.own 0 [.v (.int .i64 n),.sl l.length (qg SpV.cs l)]),(4,.own 0 [.v (.int .i64 n),.sl l'.length (qg SpV.cs l')])]) (fun i=>i≤n) (fun i=>n-i) 0 (by omega)
  ((Le.ghostC 70000000 1 1 6 (zo:=0) (cs:=[.v (.int .i64 n),.v (.slice none 0 0)]) (by simp(disch:=omega)only[go_sem]) rfl (by simp(disch:=omega)only[go_sem])).trans (Le.lst [(0,70000000),(2,60000000),(3,40000000),(4,50000000)] _ _ rfl (by simp(disch:=omega)only[go_sem]) (by simp(disch:=omega)only[go_sem,aPa,ZQ,Nat.zero_mul,List.set_cons_succ,List.set_cons_zero]))) ?_
 intro i hi
 simp(disch:=omega)only[go_sem]
 refine qe (fun h1=>?_) (fun h1=>?_)
 ·simp(disch:=omega)only[go_sem,h1]
  have hin:i*n≤16:=Nat.mul_le_mul (show i≤4 by omega) hn
  refine qc (fun j:Nat=>[(2,.pt 3 0),(3,.pt 4 0),(4,.pt 2 0),(5,.pt 0 0),(6,.v (.int .i64 i)),(14,.v (.int .i64 n)),(15,.v (.int .i64 i)),(19,.v (.int .i64 n)),(20,.v (.int .i64 j))])
   (fun j=>[(0,.own 0 [.v (.int .i64 n),.rf 1 0 (i*n+j)]),(1,.own 6 (qg SpV.cs (gly n (fun i j=>jD n l l' i j n) (i*n+j)))),(2,.own 0 [.v (.int .i64 0),.v (.slice none 0 0)]),(3,.own 0 [.v (.int .i64 n),.sl l.length (qg SpV.cs l)]),(4,.own 0 [.v (.int .i64 n),.sl l'.length (qg SpV.cs l')])]) (fun j=>j≤n) (fun j=>n-j) 0 (by omega)
   (Le.lst [] _ _ rfl (by simp(disch:=omega)only[go_sem,Nat.add_zero]) (by simp(disch:=omega)only[go_sem,Nat.add_zero])) ?_
  intro j hj
  simp(disch:=omega)only[go_sem]
  refine qe (fun h2=>?_) (fun h2=>?_)
  ·simp(disch:=omega)only[go_sem,h2]
   have hd:(i*n+j)/n=i:=by rw[Nat.mul_comm,Nat.mul_add_div (by omega),Nat.div_eq_of_lt (by omega),Nat.add_zero]
   have hm:(i*n+j) % n=j:=by rw[Nat.mul_comm,Nat.mul_add_mod,Nat.mod_eq_of_lt (by omega)]
   have hs:=@aFT _ n (fun i j=>jD n l l' i j n) (i*n+j)
   rw[hd,hm]at hs
   have hcut:=jg (@Jc _ n (fun i j=>jD n l l' i j n) (i*n+j))
   have hk:i*n+(j+1)=i*n+j+1:=rfl
   generalize hA:gly n (fun i j=>jD n l l' i j n) (i*n+j)=A at*
   have hAl:A.length=i*n+j:=by rw[←hA,Jc]
   generalize hA1:gly n (fun i j=>jD n l l' i j n) (i*n+j+1)=A1 at*
   refine qc (fun k:Nat=>[(2,.pt 3 0),(3,.pt 4 0),(4,.pt 2 0),(5,.pt 0 0),(6,.v (.int .i64 i)),(7,.v (.int .i64 j)),(8,.pt 5 0),(14,.v (.int .i64 n)),(15,.v (.int .i64 i)),(19,.v (.int .i64 n)),(20,.v (.int .i64 j)),(24,.v (.int .i64 n)),(25,.v (.int .i64 k))])
    (fun k=>[(0,.own 0 [.v (.int .i64 n),.rf 1 0 (i*n+j)]),(1,.own 6 (qg SpV.cs A)),(2,.own 0 [.v (.int .i64 0),.v (.slice none 0 0)]),(3,.own 0 [.v (.int .i64 n),.sl l.length (qg SpV.cs l)]),(4,.own 0 [.v (.int .i64 n),.sl l'.length (qg SpV.cs l')]),
     (5,.own 0 [.v (.bool (jD n l l' i j k).lo.s),.sl (lim (jD n l l' i j k).lo.m).length (qh (lim (jD n l l' i j k).lo.m)),.v (.int .i64 (jD n l l' i j k).lo.e),.v (.bool (jD n l l' i j k).hi.s),.sl (lim (jD n l l' i j k).hi.m).length (qh (lim (jD n l l' i j k).hi.m)),.v (.int .i64 (jD n l l' i j k).hi.e)])])
    (fun k=>k≤n) (fun k=>n-k) 0 (by omega)
    ((Le.nilC 100000000 1 (zo:=0) (cs:=[.v (.bool false),.v (.slice none 0 0),.v (.int .i64 0),.v (.bool false),.v (.slice none 0 0),.v (.int .i64 0)]) (by simp(disch:=omega)only[go_sem]) rfl).trans
     ((Le.nilC 100000000 4 (zo:=0) (cs:=[.v (.bool false),.sl 0 [],.v (.int .i64 0),.v (.bool false),.v (.slice none 0 0),.v (.int .i64 0)]) (by simp(disch:=omega)only[go_sem,List.set_cons_succ,List.set_cons_zero]) rfl).trans (Le.lst [(5,100000000)] _ _ rfl (by simp(disch:=omega)only[go_sem]) (by simp(disch:=omega)only[go_sem,List.set_cons_succ,List.set_cons_zero,akC,sp0,ex0,qt])))) ?_
   intro k hk2
   have hD:=aEQ (k:=k) (show i<n by omega) (show j<n by omega) hk2 hl hl' hb hb' (by omega)
   have hsd:=akD n l l' i j k
   generalize hDD:jD n l l' i j k=D at*
   simp(disch:=omega)only[go_sem]
   refine qe (fun h3=>?_) (fun h3=>?_)
   ·have hx:=zn (show i<n by omega) (show k<n by omega)
    have hx':=zn (show k<n by omega) (show j<n by omega)
    have c1:=agc n l i k (by omega) (by omega) (by omega) (by omega) (by omega)
    have c2:=agc n l' k j (by omega) (by omega) (by omega) (by omega) (by omega)
    have b1:=jJ hb (show i*n+k<l.length by omega)
    have b2:=jJ hb' (show k*n+j<l'.length by omega)
    generalize l.getD (i*n+k) sp0=x at*
    generalize l'.getD (k*n+j) sp0=y at*
    simp(disch:=omega)only[go_sem,h3]
    refine qm rfl [⟨0,[],[]⟩,⟨1,[0],[]⟩,⟨2,[0,1],[]⟩,⟨3,[0,1],[]⟩,⟨5,[0,1],[]⟩,⟨6,[0,1,5],[]⟩,⟨7,[0,1,5],[]⟩,⟨4,[0,5],[]⟩,⟨8,[0],[]⟩,⟨9,[0],[]⟩,⟨10,[],[]⟩,⟨11,[],[]⟩] (by kernel_rfl) ?_
    simp(disch:=omega)only[go_sem]
    refine qb (c1) ?_
    simp(disch:=omega)only[go_sem]
    refine qb (c2) ?_
    simp(disch:=omega)only[go_sem]
    refine qb (ae4 x y (SpV.bd.mono b1 (by omega) (by omega)) (SpV.bd.mono b2 (by omega) (by omega))) ?_
    simp(disch:=omega)only[go_sem]
    refine qb (J3 D (x.times y) (SpV.bd.mono hD (by omega) (by omega)) (SpV.bd.mono (SpV.times_bd b1 b2) (by omega) (by omega))) ?_
    simp(disch:=omega)only[go_sem]
    exact qa (k+1) [] (by show k+1≤_;omega) (by show n-(k+1)<n-k;omega) rfl (by simp(disch:=omega)only[go_sem];try omega) (by simp(disch:=omega)only[go_sem,hsd])
   ·obtain rfl:n=k:=by omega
    rw[hDD]at hs
    simp(disch:=omega)only[go_sem,h3,hcut,Qo]
    refine⟨⟨by rw[hAl];exact Nat.le_refl _,by omega⟩,qa (j+1) [(1,460000000)] (by show j+1≤_;omega) (by show n-(j+1)<n-j;omega) rfl (by simp(disch:=omega)only[go_sem];try omega) (by simp(disch:=omega)only[go_sem,hk,hA1,hs])⟩
  ·simp(disch:=omega)only[go_sem,h2]
   obtain rfl:n=j:=by omega
   exact qa (i+1) [] (by show i+1≤_;omega) (by show n-(i+1)<n-i;omega) rfl (by simp(disch:=omega)only[go_sem,Nat.add_mul,Nat.one_mul];try omega) (by simp(disch:=omega)only[go_sem,Nat.add_mul,Nat.one_mul])
 ·simp(disch:=omega)only[go_sem,h1]
  obtain rfl:n=i:=by omega
  have hll:(jT n l l').length=n*n:=Jc
  have hft:gly n (fun i j=>jD n l l' i j n) (n*n)=jT n l l':=rfl
  rw[hft,hll]
  refine ql [(0,1)] [.own 6 (qg SpV.cs (jT n l l'))] [] [.ag [.v (.int .i64 n),.rf 0 0 (n*n)]] rfl (by simp(disch:=omega)only[go_sem]) (by simp(disch:=omega)only[go_sem]) (by simp) (by simp) ?_
  show qN _ 6 _=_
  simp(disch:=omega)only[go_sem,zg,jg hll]
end Go.Ab
namespace Go.Ab
open Go Go.Proofs
theorem alk(x y:ExV)(low mode:Int)(h0:y.m≠0)(hx:x.bd (-400000) 400000)(hy:y.bd (-400000) 400000)(hl: -400000≤low∧low≤400000):
  Con Tryz.prog 279 false [.ag [.v (.bool (x).s),.sl (lim (x).m).length (qh (lim (x).m)),.v (.int .i64 (x).e)],.ag [.v (.bool (y).s),.sl (lim (y).m).length (qh (lim (y).m)),.v (.int .i64 (y).e)],.fp [.v (.int .i64 low)] 0,.fp [.v (.int .i64 mode)] 0] [] (isA (.ag [.v (.bool (x.over y low mode).s),.sl (lim (x.over y low mode).m).length (qh (lim (x.over y low mode).m)),.v (.int .i64 (x.over y low mode).e)])):=by
 refine Con.frzA ?_
 refine Con.of_w (rs:=[.cell 6 117]) Tryz.func279 rfl Tryz.ntmps279 rfl ?_
 simp(disch:=omega)only[go_sem]
 refine qb (asG x y low mode h0 hx hy hl) ?_
 simp(disch:=omega)only[go_sem]
 exact qq
theorem asH(s t:SpV)(low mode:Int)(h1:t.lo.m≠0)(h2:t.hi.m≠0)(hs:s.bd (-400000) 400000)(ht:t.bd (-400000) 400000)(hl: -400000≤low∧low≤400000):
  Con Tryz.prog 278 false [.v (.int .i64 mode),.fp [.v (.bool s.lo.s),.sl (lim s.lo.m).length (qh (lim s.lo.m)),.v (.int .i64 s.lo.e),.v (.bool s.hi.s),.sl (lim s.hi.m).length (qh (lim s.hi.m)),.v (.int .i64 s.hi.e)] 0,.fp [.v (.bool t.lo.s),.sl (lim t.lo.m).length (qh (lim t.lo.m)),.v (.int .i64 t.lo.e),.v (.bool t.hi.s),.sl (lim t.hi.m).length (qh (lim t.hi.m)),.v (.int .i64 t.hi.e)] 0,.fp [.v (.int .i64 low)] 0] [] (isA (.sl 4 (qg ExV.cs (jE (fun x y=>x.over y low mode) s t)))):=by
 refine Con.frzA ?_
 have ce:=J4 s t 279 [.fp [.v (.int .i64 low)] 0,.fp [.v (.int .i64 mode)] 0] (fun x y=>x.over y low mode) (fun x y hx hy=>by
  refine alk x y low mode ?_ ?_ ?_ hl
  ·rcases hy with rfl|rfl
   ·exact h1
   ·exact h2
  ·rcases hx with rfl|rfl
   ·exact hs.1
   ·exact hs.2
  ·rcases hy with rfl|rfl
   ·exact ht.1
   ·exact ht.2) (by simp(disch:=omega)only[go_sem]) (fun h=>rfl) (fun h=>rfl) (fun ks=>by simp(disch:=omega)only[go_sem]) (fun ρ=>rfl)
 refine Con.of_aw Tryz.func278 rfl Tryz.ntmps278 (by simp) (by simp) (by simp) (AW.seqLe (E:=[(1,.fp [.v (.bool s.lo.s),.sl (lim s.lo.m).length (qh (lim s.lo.m)),.v (.int .i64 s.lo.e),.v (.bool s.hi.s),.sl (lim s.hi.m).length (qh (lim s.hi.m)),.v (.int .i64 s.hi.e)] 0),(2,.fp [.v (.bool t.lo.s),.sl (lim t.lo.m).length (qh (lim t.lo.m)),.v (.int .i64 t.lo.e),.v (.bool t.hi.s),.sl (lim t.hi.m).length (qh (lim t.hi.m)),.v (.int .i64 t.hi.e)] 0),(3,.fp [.v (.int .i64 low)] 0),(4,.fp [.v (.int .i64 mode)] 0),(5,.v (.slice none 0 0))]) (H:=[]) (W.sound ?_) (W.sound ?_))
 ·show @W Tryz.prog 10 ⟨_⟩ ⟨_⟩ _ _
  simp(disch:=omega)only[go_sem]
  exact(Le.frz 60000000 (z:=0) (ks:=[.v (.int .i64 mode)]) (by simp(disch:=omega)only[go_sem]) rfl (by simp(disch:=omega)only[go_sem])).trans (Le.lst [] _ _ rfl (by simp(disch:=omega)only[go_sem]) (by simp(disch:=omega)only[go_sem]))
 show @W Tryz.prog 10 ⟨_⟩ ⟨fun x σ=>@q9 _ _ _ ⟨_⟩ _ ⟨_⟩ x σ⟩ _ _
 simp(disch:=omega)only[go_sem]
 refine qb (ce) ?_
 simp(disch:=omega)only[go_sem]
 exact qq
theorem SpV.over_bd{s t:SpV}{lo hi l2 low H:Int}(hs:s.bd lo hi)(ht:l2≤t.lo.e∧l2≤t.hi.e)(h:hi-l2+1≤H)(hb:hi-lo+1+low≤H):(s.over t low).bd low H:=by
 have he:∀mode,gbd low H (jE (fun x y=>x.over y low mode) s t):=by
  intro mode x hx
  simp only[jE,List.mem_cons,List.not_mem_nil,or_false]at hx
  rcases hx with rfl|rfl|rfl|rfl
  ·exact ExV.over_bd hs.1 ht.1 h hb
  ·exact ExV.over_bd hs.1 ht.2 h hb
  ·exact ExV.over_bd hs.2 ht.1 h hb
  ·exact ExV.over_bd hs.2 ht.2 h hb
 exact⟨aaw (he 3) (by simp[jE]),Zz (he 2) (by simp[jE])⟩
theorem ale(s t:SpV)(low:Int)(h1:t.lo.m≠0)(h2:t.hi.m≠0)(hs:s.bd (-100000) 100000)(ht:t.bd (-100000) 100000)(hl: -100000≤low∧low≤100000):
  Con Tryz.prog 212 false [.ag [.v (.bool (s).lo.s),.sl (lim (s).lo.m).length (qh (lim (s).lo.m)),.v (.int .i64 (s).lo.e),.v (.bool (s).hi.s),.sl (lim (s).hi.m).length (qh (lim (s).hi.m)),.v (.int .i64 (s).hi.e)],.ag [.v (.bool (t).lo.s),.sl (lim (t).lo.m).length (qh (lim (t).lo.m)),.v (.int .i64 (t).lo.e),.v (.bool (t).hi.s),.sl (lim (t).hi.m).length (qh (lim (t).hi.m)),.v (.int .i64 (t).hi.e)],.v (.int .i64 low)] [] (isA (.ag [.v (.bool (s.over t low).lo.s),.sl (lim (s.over t low).lo.m).length (qh (lim (s.over t low).lo.m)),.v (.int .i64 (s.over t low).lo.e),.v (.bool (s.over t low).hi.s),.sl (lim (s.over t low).hi.m).length (qh (lim (s.over t low).hi.m)),.v (.int .i64 (s.over t low).hi.e)])):=by
 refine Con.frzA ?_
 have co:=fun mode=>asH s t low mode h1 h2 (SpV.bd.mono hs (by omega) (by omega)) (SpV.bd.mono ht (by omega) (by omega)) (by omega)
 have he:∀mode,gbd (-400000) 400000 (jE (fun x y=>x.over y low mode) s t):=by
  intro mode x hx
  have ht1:=ht.1.2.1
  have ht2:=ht.2.2.1
  simp only[jE,List.mem_cons,List.not_mem_nil,or_false]at hx
  rcases hx with rfl|rfl|rfl|rfl
  ·exact(ExV.over_bd (hi:=400000) hs.1 ht1 (by omega) (by omega)).mono (by omega) (by omega)
  ·exact(ExV.over_bd (hi:=400000) hs.1 ht2 (by omega) (by omega)).mono (by omega) (by omega)
  ·exact(ExV.over_bd (hi:=400000) hs.2 ht1 (by omega) (by omega)).mono (by omega) (by omega)
  ·exact(ExV.over_bd (hi:=400000) hs.2 ht2 (by omega) (by omega)).mono (by omega) (by omega)
 have c3:=co 3
 have c2:=co 2
 have e3:=he 3
 have e2:=he 2
 unfold SpV.over
 generalize hE3:jE (fun x y=>x.over y low 3) s t=E3 at*
 generalize hE2:jE (fun x y=>x.over y low 2) s t=E2 at*
 have l3:E3.length=4:=by rw[←hE3];rfl
 have l2:E2.length=4:=by rw[←hE2];rfl
 have cl:=aaR E3 (by omega) (by omega) e3
 have cm:=agf E2 (by omega) (by omega) e2
 rw[l3]at cl
 rw[l2]at cm
 refine Con.of_aw Tryz.func212 rfl Tryz.ntmps212 (by simp) (by simp) (by simp) (AW.seqLe (E:=[(3,.fp [.v (.bool s.lo.s),.sl (lim s.lo.m).length (qh (lim s.lo.m)),.v (.int .i64 s.lo.e),.v (.bool s.hi.s),.sl (lim s.hi.m).length (qh (lim s.hi.m)),.v (.int .i64 s.hi.e)] 0),(4,.fp [.v (.bool t.lo.s),.sl (lim t.lo.m).length (qh (lim t.lo.m)),.v (.int .i64 t.lo.e),.v (.bool t.hi.s),.sl (lim t.hi.m).length (qh (lim t.hi.m)),.v (.int .i64 t.hi.e)] 0),(5,.fp [.v (.int .i64 low)] 0),(6,.pt 0 0)]) (H:=[(0,.own 0 [.v (.bool false),.v (.slice none 0 0),.v (.int .i64 0),.v (.bool false),.v (.slice none 0 0),.v (.int .i64 0)])]) (W.sound ?_) (W.sound ?_))
 ·show @W Tryz.prog 16 ⟨_⟩ ⟨_⟩ _ _
  simp(disch:=omega)only[go_sem]
  exact(Le.frz 50000000 (z:=0) (ks:=[.v (.bool s.lo.s),.sl (lim s.lo.m).length (qh (lim s.lo.m)),.v (.int .i64 s.lo.e),.v (.bool s.hi.s),.sl (lim s.hi.m).length (qh (lim s.hi.m)),.v (.int .i64 s.hi.e)]) (by simp(disch:=omega)only[go_sem]) rfl (by simp(disch:=omega)only[go_sem])).trans ((Le.frz 60000000 (z:=0) (ks:=[.v (.bool t.lo.s),.sl (lim t.lo.m).length (qh (lim t.lo.m)),.v (.int .i64 t.lo.e),.v (.bool t.hi.s),.sl (lim t.hi.m).length (qh (lim t.hi.m)),.v (.int .i64 t.hi.e)]) (by simp(disch:=omega)only[go_sem]) rfl (by simp(disch:=omega)only[go_sem])).trans ((Le.frz 70000000 (z:=0) (ks:=[.v (.int .i64 low)]) (by simp(disch:=omega)only[go_sem]) rfl (by simp(disch:=omega)only[go_sem])).trans (Le.lst [(0,80000000)] _ _ rfl (by simp(disch:=omega)only[go_sem]) (by simp(disch:=omega)only[go_sem]))))
 show @W Tryz.prog 16 ⟨_⟩ ⟨fun x σ=>@q9 _ _ _ ⟨_⟩ _ ⟨_⟩ x σ⟩ _ _
 simp(disch:=omega)only[go_sem]
 refine qb (c3) ?_
 simp(disch:=omega)only[go_sem]
 refine qb (cl) ?_
 simp(disch:=omega)only[go_sem]
 refine qb (c2) ?_
 simp(disch:=omega)only[go_sem]
 refine qb (cm) ?_
 simp(disch:=omega)only[go_sem]
 exact qq
def exN(k:Nat):ExV:=⟨false,k,0⟩
theorem aYq{k:Nat}(hk:k<2^63):(exN k).bd 0 64:=⟨fun _=>rfl,Int.le_refl _,by show(bl k:Int)+0≤64;have:bl k≤63:=zD.2 hk;omega⟩
def SpV.divd(s:SpV)(k:Nat)(low:Int):SpV:=s.over ⟨exN k,exN k⟩ low
theorem aaZ(s:SpV)(k:Nat)(low:Int)(h0:k≠0)(hk:k<2^63)(hs:s.bd (-100000) 100000)(hl: -100000≤low∧low≤100000):
  Con Tryz.prog 211 false [.ag [.v (.bool (s).lo.s),.sl (lim (s).lo.m).length (qh (lim (s).lo.m)),.v (.int .i64 (s).lo.e),.v (.bool (s).hi.s),.sl (lim (s).hi.m).length (qh (lim (s).hi.m)),.v (.int .i64 (s).hi.e)],.fp [.v (.bool (exN k).s),.sl (lim (exN k).m).length (qh (lim (exN k).m)),.v (.int .i64 (exN k).e)] 0,.fp [.v (.int .i64 low)] 0] [] (isA (.ag [.v (.bool (s.divd k low).lo.s),.sl (lim (s.divd k low).lo.m).length (qh (lim (s.divd k low).lo.m)),.v (.int .i64 (s.divd k low).lo.e),.v (.bool (s.divd k low).hi.s),.sl (lim (s.divd k low).hi.m).length (qh (lim (s.divd k low).hi.m)),.v (.int .i64 (s.divd k low).hi.e)])):=by
 refine Con.frzA ?_
 have hb:=aYq hk
 have co:=ale s ⟨exN k,exN k⟩ low h0 h0 hs ⟨hb.mono (by omega) (by omega),hb.mono (by omega) (by omega)⟩ hl
 change Con _ _ _ _ _ (isA (.ag [.v (.bool (s.divd k low).lo.s),.sl (lim (s.divd k low).lo.m).length (qh (lim (s.divd k low).lo.m)),.v (.int .i64 (s.divd k low).lo.e),.v (.bool (s.divd k low).hi.s),.sl (lim (s.divd k low).hi.m).length (qh (lim (s.divd k low).hi.m)),.v (.int .i64 (s.divd k low).hi.e)]))at co
 generalize s.divd k low=z at*
 dsimp only at co
 refine Con.of_w (rs:=[.cell 4 125]) Tryz.func211 rfl Tryz.ntmps211 rfl ?_
 simp(disch:=omega)only[go_sem]
 refine qb (co) ?_
 simp(disch:=omega)only[go_sem]
 exact qq
theorem aGT(s:SpV)(low:Int)(hs:s.bd (-400000) 400000)(hl: -400000≤low∧low≤400000):Con Tryz.prog 207 false [.ag [.v (.bool (s).lo.s),.sl (lim (s).lo.m).length (qh (lim (s).lo.m)),.v (.int .i64 (s).lo.e),.v (.bool (s).hi.s),.sl (lim (s).hi.m).length (qh (lim (s).hi.m)),.v (.int .i64 (s).hi.e)],.fp [.v (.int .i64 low)] 0] [] (isA (.ag [.v (.bool (s.out low).lo.s),.sl (lim (s.out low).lo.m).length (qh (lim (s.out low).lo.m)),.v (.int .i64 (s.out low).lo.e),.v (.bool (s.out low).hi.s),.sl (lim (s.out low).hi.m).length (qh (lim (s.out low).hi.m)),.v (.int .i64 (s.out low).hi.e)])):=by
 refine Con.frzA ?_
 refine Con.of_w (rs:=[.cell 3 125]) Tryz.func207 rfl Tryz.ntmps207 rfl ?_
 simp(disch:=omega)only[go_sem]
 refine qb (asA s low hs hl) ?_
 simp(disch:=omega)only[go_sem]
 exact qq
theorem aGY(n:Nat)(l:List SpV)(low:Int)(hl:l.length≤1000)(hb:sbd (-400000) 400000 l)(hlo: -400000≤low∧low≤400000):Con Tryz.prog 113 false [.ag [.v (.int .i64 (n)),.sl (l).length (qg SpV.cs (l))],.v (.int .i64 low)] [] (isA (.ag [.v (.int .i64 (n)),.sl (l.map fun s=>s.out low).length (qg SpV.cs (l.map fun s=>s.out low))])):=by
 refine Con.frzA ?_
 have c:=YZ n l 207 [.fp [.v (.int .i64 low)] 0] (fun s=>s.out low) hl (fun x hx=>aGT x low (hb x hx) hlo) (by simp(disch:=omega)only[go_sem]) (fun h=>rfl) (fun h=>rfl) (fun ks=>by simp(disch:=omega)only[go_sem]) (fun ρ=>rfl)
 generalize l.map (fun s=>s.out low)=L at*
 refine Con.of_aw Tryz.func113 rfl Tryz.ntmps113 (by simp) (by simp) (by simp) (AW.seqLe (E:=[(2,.fp [.v (.int .i64 n),.sl l.length (qg SpV.cs l)] 0),(3,.fp [.v (.int .i64 low)] 0),(4,.pt 0 0)]) (H:=[(0,.own 0 [.v (.int .i64 0),.v (.slice none 0 0)])]) (W.sound ?_) (W.sound ?_))
 ·show @W Tryz.prog 8 ⟨_⟩ ⟨_⟩ _ _
  simp(disch:=omega)only[go_sem]
  exact(Le.frz 40000000 (z:=0) (ks:=[.v (.int .i64 n),.sl l.length (qg SpV.cs l)]) (by simp(disch:=omega)only[go_sem]) rfl (by simp(disch:=omega)only[go_sem])).trans ((Le.frz 50000000 (z:=0) (ks:=[.v (.int .i64 low)]) (by simp(disch:=omega)only[go_sem]) rfl (by simp(disch:=omega)only[go_sem])).trans (Le.lst [(0,60000000)] _ _ rfl (by simp(disch:=omega)only[go_sem]) (by simp(disch:=omega)only[go_sem])))
 show @W Tryz.prog 8 ⟨_⟩ ⟨fun x σ=>@q9 _ _ _ ⟨_⟩ _ ⟨_⟩ x σ⟩ _ _
 simp(disch:=omega)only[go_sem]
 refine qb (c) ?_
 simp(disch:=omega)only[go_sem]
 exact qq
theorem aGW(s:SpV)(y:ExV)(hs:s.bd (-400000) 400000)(hy:y.bd (-400000) 400000):Con Tryz.prog 206 false [.ag [.v (.bool (s).lo.s),.sl (lim (s).lo.m).length (qh (lim (s).lo.m)),.v (.int .i64 (s).lo.e),.v (.bool (s).hi.s),.sl (lim (s).hi.m).length (qh (lim (s).hi.m)),.v (.int .i64 (s).hi.e)],.fp [.v (.bool y.s),.sl (lim y.m).length (qh (lim y.m)),.v (.int .i64 y.e)] 0] [] (isA (.ag [.v (.bool (s.fat y).lo.s),.sl (lim (s.fat y).lo.m).length (qh (lim (s.fat y).lo.m)),.v (.int .i64 (s.fat y).lo.e),.v (.bool (s.fat y).hi.s),.sl (lim (s.fat y).hi.m).length (qh (lim (s.fat y).hi.m)),.v (.int .i64 (s.fat y).hi.e)])):=by
 refine Con.frzA ?_
 refine Con.of_w (rs:=[.cell 3 125]) Tryz.func206 rfl Tryz.ntmps206 rfl ?_
 simp(disch:=omega)only[go_sem]
 refine qm rfl [⟨0,[],[]⟩,⟨1,[],[]⟩,⟨2,[1],[]⟩,⟨4,[1,2],[]⟩,⟨5,[1,2],[]⟩,⟨6,[1,2,5],[]⟩,⟨3,[5,6],[]⟩,⟨7,[],[]⟩,⟨8,[],[]⟩,⟨9,[],[]⟩] (by kernel_rfl) ?_
 simp(disch:=omega)only[go_sem]
 refine qb (qB s.lo y hs.1 hy) ?_
 simp(disch:=omega)only[go_sem]
 refine qb (z8 s.hi y hs.2 hy) ?_
 simp(disch:=omega)only[go_sem]
 exact qq (hp:=by simp(disch:=omega)only[go_sem,SpV.fat])
theorem aGZ(n:Nat)(l:List SpV)(y:ExV)(hl:l.length≤1000)(hb:sbd (-400000) 400000 l)(hy:y.bd (-400000) 400000):Con Tryz.prog 111 false [.ag [.v (.int .i64 (n)),.sl (l).length (qg SpV.cs (l))],.ag [.v (.bool (y).s),.sl (lim (y).m).length (qh (lim (y).m)),.v (.int .i64 (y).e)]] [] (isA (.ag [.v (.int .i64 (n)),.sl (l.map fun s=>s.fat y).length (qg SpV.cs (l.map fun s=>s.fat y))])):=by
 refine Con.frzA ?_
 have c:=YZ n l 206 [.fp [.v (.bool y.s),.sl (lim y.m).length (qh (lim y.m)),.v (.int .i64 y.e)] 0] (fun s=>s.fat y) hl (fun x hx=>aGW x y (hb x hx) hy) (by simp(disch:=omega)only[go_sem]) (fun h=>rfl) (fun h=>rfl) (fun ks=>by simp(disch:=omega)only[go_sem]) (fun ρ=>rfl)
 generalize l.map (fun s=>s.fat y)=L at*
 refine Con.of_aw Tryz.func111 rfl Tryz.ntmps111 (by simp) (by simp) (by simp) (AW.seqLe (E:=[(2,.fp [.v (.int .i64 n),.sl l.length (qg SpV.cs l)] 0),(3,.fp [.v (.bool y.s),.sl (lim y.m).length (qh (lim y.m)),.v (.int .i64 y.e)] 0),(4,.pt 0 0)]) (H:=[(0,.own 0 [.v (.int .i64 0),.v (.slice none 0 0)])]) (W.sound ?_) (W.sound ?_))
 ·show @W Tryz.prog 8 ⟨_⟩ ⟨_⟩ _ _
  simp(disch:=omega)only[go_sem]
  exact(Le.frz 40000000 (z:=0) (ks:=[.v (.int .i64 n),.sl l.length (qg SpV.cs l)]) (by simp(disch:=omega)only[go_sem]) rfl (by simp(disch:=omega)only[go_sem])).trans ((Le.frz 50000000 (z:=0) (ks:=[.v (.bool y.s),.sl (lim y.m).length (qh (lim y.m)),.v (.int .i64 y.e)]) (by simp(disch:=omega)only[go_sem]) rfl (by simp(disch:=omega)only[go_sem])).trans (Le.lst [(0,60000000)] _ _ rfl (by simp(disch:=omega)only[go_sem]) (by simp(disch:=omega)only[go_sem])))
 show @W Tryz.prog 8 ⟨_⟩ ⟨fun x σ=>@q9 _ _ _ ⟨_⟩ _ ⟨_⟩ x σ⟩ _ _
 simp(disch:=omega)only[go_sem]
 refine qb (c) ?_
 simp(disch:=omega)only[go_sem]
 exact qq
def aaI(l l':List SpV):List SpV:=(List.range l.length).map fun i=>(l.getD i sp0).plus (l'.getD i sp0)
theorem aaH{l l':List SpV}:(aaI l l').length=l.length:=by simp[aaI]
def fpT(l l':List SpV)(i:Nat):List SpV:=(List.range i).map fun i=>(l.getD i sp0).plus (l'.getD i sp0)
theorem ar9{l l':List SpV}{i:Nat}:(fpT l l' i).length=i:=by simp[fpT]
theorem aF5{l l':List SpV}{i:Nat}:fpT l l' (i+1)=fpT l l' i++[(l.getD i sp0).plus (l'.getD i sp0)]:=by simp[fpT,List.range_succ]
set_option maxRecDepth 100000 in
theorem as4(n:Nat)(l l':List SpV)(hl:l.length≤1000)(hl':l'.length=l.length)(hb:sbd (-400000) 400000 l)(hb':sbd (-400000) 400000 l'):Con Tryz.prog 163 false [.ag [.v (.int .i64 (n)),.sl (l).length (qg SpV.cs (l))],.ag [.v (.int .i64 (n)),.sl (l').length (qg SpV.cs (l'))]] [] (isA (.ag [.v (.int .i64 (n)),.sl (aaI l l').length (qg SpV.cs (aaI l l'))])):=by
 refine Con.frzA ?_
 refine Con.of_aw Tryz.func163 rfl Tryz.ntmps163 (by simp) (by simp) (by simp) (W.sound ?_)
 show @W Tryz.prog 33 ⟨_⟩ ⟨fun x σ=>@q9 _ _ _ ⟨_⟩ _ ⟨_⟩ x σ⟩ _ _
 simp(disch:=omega)only[go_sem]
 refine qc (fun i:Nat=>[(3,.pt 3 0),(4,.pt 2 0),(5,.pt 0 0),(12,.sl l.length (qg SpV.cs l)),(13,.v (.int .i64 l.length)),(14,.v (.int .i64 i))])
  (fun i=>[(0,.own 0 [.v (.int .i64 n),.rf 1 0 i]),(1,.own 6 (qg SpV.cs (fpT l l' i))),(2,.own 0 [.v (.int .i64 0),.v (.slice none 0 0)]),(3,.own 0 [.v (.int .i64 n),.sl l'.length (qg SpV.cs l')])]) (fun i=>i≤l.length) (fun i=>l.length-i) 0 (by omega)
  ((Le.ghostC 70000000 1 1 6 (zo:=0) (cs:=[.v (.int .i64 n),.v (.slice none 0 0)]) (by simp(disch:=omega)only[go_sem]) rfl (by simp(disch:=omega)only[go_sem])).trans (Le.lst [(0,70000000),(2,60000000),(3,50000000)] _ _ rfl (by simp(disch:=omega)only[go_sem]) (by simp(disch:=omega)only[go_sem,show fpT l l' 0=[] from rfl,ZQ,List.set_cons_succ,List.set_cons_zero]))) ?_
 intro i hi
 simp(disch:=omega)only[go_sem]
 refine qe (fun h1=>?_) (fun h1=>?_)
 ·have hi2:i<l.length:=by omega
  have hi3:i<l'.length:=by omega
  have hci:=y9 hi2
  have hcj:=y9 hi3
  have hcut:=jg (ar9 (l:=l) (l':=l') (i:=i))
  have hml:=ar9 (l:=l) (l':=l') (i:=i)
  have hs:=aF5 (l:=l) (l':=l') (i:=i)
  have hx:=jJ hb hi2
  have hy:=jJ hb' hi3
  generalize l.getD i sp0=x at*
  generalize l'.getD i sp0=y at*
  simp(disch:=omega)only[go_sem,h1,hci]
  refine⟨by omega,by omega,?_⟩
  refine qm rfl [⟨0,[],[]⟩,⟨1,[],[]⟩,⟨2,[1],[]⟩,⟨3,[1,2],[]⟩,⟨4,[1,2],[]⟩,⟨5,[1,2,4],[]⟩,⟨6,[1,2],[]⟩,⟨7,[1,2],[]⟩,⟨8,[1],[]⟩,⟨9,[1],[]⟩,⟨10,[],[]⟩,⟨11,[],[]⟩,⟨12,[],[]⟩] (by kernel_rfl) ?_
  simp(disch:=omega)only[go_sem,hcj]
  refine⟨by omega,by omega,?_⟩
  refine qb (J3 x y hx hy) ?_
  simp(disch:=omega)only[go_sem]
  simp(disch:=omega)only[go_sem,hcut,Qo]
  refine⟨⟨by rw[hml];exact Nat.le_refl _,by omega⟩,qa (i+1) [(1,310000000)] (by show i+1≤_;omega) (by show l.length-(i+1)<l.length-i;omega) rfl (by simp(disch:=omega)only[go_sem];try omega) (by simp(disch:=omega)only[go_sem,hs])⟩
 ·simp(disch:=omega)only[go_sem,h1]
  obtain rfl:i=l.length:=by omega
  have hll:(aaI l l').length=l.length:=aaH
  have hft:fpT l l' l.length=aaI l l':=rfl
  rw[hft,hll]
  refine ql [(0,1)] [.own 6 (qg SpV.cs (aaI l l'))] [] [.ag [.v (.int .i64 n),.rf 0 0 l.length]] rfl (by simp(disch:=omega)only[go_sem]) (by simp(disch:=omega)only[go_sem]) (by simp) (by simp) ?_
  show qN _ 6 _=_
  simp(disch:=omega)only[go_sem,zg,jg hll]
theorem aG0(n:Nat)(l:List SpV)(k:Nat)(low:Int)(hl:l.length≤1000)(hb:sbd (-100000) 100000 l)(h0:k≠0)(hk:k<2^63)(hlo: -100000≤low∧low≤100000):Con Tryz.prog 119 false [.ag [.v (.int .i64 (n)),.sl (l).length (qg SpV.cs (l))],.v (.int .i64 k),.v (.int .i64 low)] [] (isA (.ag [.v (.int .i64 (n)),.sl (l.map fun s=>s.divd k low).length (qg SpV.cs (l.map fun s=>s.divd k low))])):=by
 refine Con.frzA ?_
 have c:=YZ n l 211 [.fp [.v (.bool (exN k).s),.sl (lim (exN k).m).length (qh (lim (exN k).m)),.v (.int .i64 (exN k).e)] 0,.fp [.v (.int .i64 low)] 0] (fun s=>s.divd k low) hl (fun x hx=>aaZ x k low h0 hk (hb x hx) hlo) (by simp(disch:=omega)only[go_sem]) (fun h=>rfl) (fun h=>rfl) (fun ks=>by simp(disch:=omega)only[go_sem]) (fun ρ=>rfl)
 generalize l.map (fun s=>s.divd k low)=L at*
 refine Con.of_aw Tryz.func119 rfl Tryz.ntmps119 (by simp) (by simp) (by simp)
  (AW.seqLe (E:=[(1,.v (.int .i64 k)),(3,.pt 1 0),(5,.fp [.v (.int .i64 low)] 0),(6,.pt 0 0)]) (H:=[(0,.own 0 [.v (.int .i64 0),.v (.slice none 0 0)]),(1,.own 0 [.v (.int .i64 n),.sl l.length (qg SpV.cs l)])]) (W.sound ?_)
   (AW.seqLe (E:=[(3,.pt 1 0),(5,.fp [.v (.int .i64 low)] 0),(6,.pt 0 0),(7,.fp [.v (.bool (exN k).s),.sl (lim (exN k).m).length (qh (lim (exN k).m)),.v (.int .i64 (exN k).e)] 0)]) (H:=[(0,.own 0 [.v (.int .i64 0),.v (.slice none 0 0)]),(1,.own 0 [.v (.int .i64 n),.sl l.length (qg SpV.cs l)])]) (W.sound ?_) (W.sound ?_)))
 ·show @W Tryz.prog 14 ⟨_⟩ ⟨_⟩ _ _
  simp(disch:=omega)only[go_sem]
  exact(Le.frz 70000000 (z:=0) (ks:=[.v (.int .i64 low)]) (by simp(disch:=omega)only[go_sem]) rfl (by simp(disch:=omega)only[go_sem])).trans (Le.lst [(0,80000000),(1,50000000)] _ _ rfl (by simp(disch:=omega)only[go_sem]) (by simp(disch:=omega)only[go_sem]))
 ·show @W Tryz.prog 14 ⟨_⟩ ⟨_⟩ _ _
  simp(disch:=omega)only[go_sem]
  refine qb (zG k hk) ?_
  simp(disch:=omega)only[go_sem]
  exact(Le.frz 90000000 (z:=0) (ks:=[.v (.bool (exN k).s),.sl (lim (exN k).m).length (qh (lim (exN k).m)),.v (.int .i64 (exN k).e)]) (by simp(disch:=omega)only[go_sem,exN]) rfl (by simp(disch:=omega)only[go_sem])).trans (Le.lst [] _ _ rfl (by simp(disch:=omega)only[go_sem]) (by simp(disch:=omega)only[go_sem]))
 show @W Tryz.prog 14 ⟨_⟩ ⟨fun x σ=>@q9 _ _ _ ⟨_⟩ _ ⟨_⟩ x σ⟩ _ _
 simp(disch:=omega)only[go_sem]
 refine qb (c) ?_
 simp(disch:=omega)only[go_sem]
 exact qq
end Go.Ab
namespace Go.Ab
open Go Go.Proofs
theorem aaQ(l:List ExV)(h0:0<l.length)(hl:l.length≤1000)(hb:gbd (-400000) 400000 l):Con Tryz.prog 240 false [.rf 10000000 0 l.length,.fn 156 []] [.own 3 (qg ExV.cs l)] (fun r hs bs=>r=.ag [.v (.bool (zB l).s),.sl (lim (zB l).m).length (qh (lim (zB l).m)),.v (.int .i64 (zB l).e)]∧hs=[]∧bs=[.own 3 (qg ExV.cs l)]):=by
 have hc0:=qk (l:=l) (i:=0) h0
 have q1:decide ((l.length:Int)<1)=false:=decide_eq_false (by omega)
 refine Con.of_aw Tryz.func240 rfl Tryz.ntmps240 (by simp) (by simp) (by simp) (W.sound ?_)
 show @W Tryz.prog 33 ⟨_⟩ ⟨fun x σ=>@q9 _ _ _ ⟨_⟩ _ ⟨_⟩ x σ⟩ _ _
 simp(disch:=omega)only[go_sem,q1,hc0]
 refine⟨by omega,by omega,?_⟩
 refine qc (fun x:Nat×ExV=>[(0,.rf 10000000 0 l.length),(1,.fn 156 []),(4,.pt 1 0),(5,.pt 0 0),(6,.v (.int .i64 x.1))])
  (fun x=>[(0,.own 0 [.v (.bool x.2.s),.sl (lim x.2.m).length (qh (lim x.2.m)),.v (.int .i64 x.2.e)]),(1,.own 0 [.v (.bool false),.v (.slice none 0 0),.v (.int .i64 0)]),(10000000,.own 3 (qg ExV.cs l))])
  (fun x=>1≤x.1∧x.1≤l.length∧x.2=((l.take x.1).drop 1).foldl Qx (l.getD 0 ex0)) (fun x=>l.length-x.1) (1,l.getD 0 ex0) ⟨by omega,by omega,by simp⟩
  (Le.lst [(0,70000000),(1,60000000)] _ _ rfl (by simp(disch:=omega)only[go_sem]) (by simp(disch:=omega)only[go_sem])) ?_
 rintro⟨i,m⟩ ⟨h1,hi,hm⟩
 dsimp only at h1 hi hm ⊢
 have hmb:m.bd (-400000) 400000:=by
  rw[hm];exact Q0 Yz _ _ (qi hb h0) (fun x hx=>hb x (List.mem_of_mem_take (List.mem_of_mem_drop hx)))
 simp(disch:=omega)only[go_sem]
 refine qe (fun h2=>?_) (fun h2=>?_)
 ·have hi2:i<l.length:=by omega
  have hci:=qk (l:=l) (i:=i) hi2
  have hs:Qx m (l.getD i ex0)=((l.take (i+1)).drop 1).foldl Qx (l.getD 0 ex0):=by
   rw[jN h1 hi2,List.foldl_append,←hm];rfl
  simp(disch:=omega)only[go_sem,h2]
  refine qm rfl [⟨0,[],[]⟩,⟨1,[],[]⟩,⟨2,[],[]⟩,⟨3,[],[]⟩,⟨4,[],[]⟩,⟨5,[4],[]⟩,⟨6,[],[]⟩,⟨7,[],[]⟩] (by kernel_rfl) ?_
  have hg:qs Tryz.prog 156=True:=by simp(disch:=omega)only[go_sem]
  simp(disch:=omega)only[go_sem,hci,hg]
  refine⟨by omega,by omega,?_⟩
  refine qo (ZE (l.getD i ex0) m (qi hb hi2) hmb) ?_
  simp(disch:=omega)only[go_sem]
  generalize l.getD i ex0=y at*
  refine qe (fun h3=>?_) (fun h3=>?_)
  ·simp(disch:=omega)only[go_sem,h3,hci]
   have:Qx m y=y:=if_pos h3
   refine⟨by omega,by omega,qa (i+1,y) [] ⟨by show 1≤i+1;omega,by show i+1≤_;omega,this▸hs⟩ (by show l.length-(i+1)<l.length-i;omega) rfl (by simp(disch:=omega)only[go_sem];try omega) (by simp(disch:=omega)only[go_sem])⟩
  ·simp(disch:=omega)only[go_sem,h3]
   have:Qx m y=m:=if_neg h3
   refine qa (i+1,m) [] ⟨by show 1≤i+1;omega,by show i+1≤_;omega,this▸hs⟩ (by show l.length-(i+1)<l.length-i;omega) rfl (by simp(disch:=omega)only[go_sem];try omega) (by simp(disch:=omega)only[go_sem])
 ·simp(disch:=omega)only[go_sem,h2]
  have:i=l.length:=by omega
  subst this
  rw[List.take_length]at hm
  subst hm
  refine ql [] [] [.own 3 (qg ExV.cs l)] [.ag [.v (.bool (zB l).s),.sl (lim (zB l).m).length (qh (lim (zB l).m)),.v (.int .i64 (zB l).e)]] rfl (by simp(disch:=omega)only[go_sem,zB]) (by simp(disch:=omega)only[go_sem]) (by simp) (by simp) ⟨rfl,rfl,rfl⟩
theorem aaP(l:List ExV)(h0:0<l.length)(hl:l.length≤1000)(hb:gbd (-400000) 400000 l):Con Tryz.prog 149 false [.rf 10000000 0 l.length] [.own 3 (qg ExV.cs l)] (fun r hs bs=>r=.ag [.v (.bool (zB l).s),.sl (lim (zB l).m).length (qh (lim (zB l).m)),.v (.int .i64 (zB l).e)]∧hs=[]∧bs=[.own 3 (qg ExV.cs l)]):=by
 refine Con.of_aw Tryz.func149 rfl Tryz.ntmps149 (by simp) (by simp) (by simp) (W.sound ?_)
 show @W Tryz.prog 5 ⟨_⟩ ⟨fun x σ=>@q9 _ _ _ ⟨_⟩ _ ⟨_⟩ x σ⟩ _ _
 simp(disch:=omega)only[go_sem]
 refine zk false [10000000] (aaQ l h0 hl hb) (by simp(disch:=omega)only[go_sem]) (by simp(disch:=omega)only[go_sem]) rfl (qW (z:=3) (cs:=qg ExV.cs l) (by simp(disch:=omega)only[go_sem]) (by simp(disch:=omega)only[go_sem])) (by intro n hn;exact⟨_,List.mem_cons_self ..,by rw[List.mem_singleton.1 hn];rfl⟩) ?_
 rintro r hs bs ⟨rfl,rfl,rfl⟩-
 refine⟨by simp[qG],?_⟩
 simp(disch:=omega)only[go_sem]
 refine ql [] [] [.own 3 (qg ExV.cs l)] [.ag [.v (.bool (zB l).s),.sl (lim (zB l).m).length (qh (lim (zB l).m)),.v (.int .i64 (zB l).e)]] rfl (by simp(disch:=omega)only[go_sem]) (by simp(disch:=omega)only[go_sem]) (by simp) (by simp) ⟨rfl,rfl,rfl⟩
def agi(n:Nat)(l:List ExV)(j k:Nat):ExV:=(List.range k).foldl (fun s i=>s.plus (l.getD (i*n+j) ex0).abs) ex0
theorem aba(n:Nat)(l:List ExV)(j k:Nat):agi n l j (k+1)=(agi n l j k).plus (l.getD (k*n+j) ex0).abs:=by
 unfold agi;rw[List.range_succ,List.foldl_append,List.foldl_cons,List.foldl_nil]
theorem atb{lo hi:Int}{n:Nat}{l:List ExV}{j k:Nat}(hj:j<n)(hk:k≤n)(hl:l.length=n*n)(hb:gbd lo hi l)(h0:lo≤0∧0≤hi):(agi n l j k).bd lo (hi+k):=
 QC _ h0 k fun t ht=>ExV.abs_bd (qi hb (by rw[hl];exact zn (by omega) hj))
def yt(n:Nat)(l:List ExV)(k:Nat):ExV:=(List.range k).foldl (fun s j=>zB [s,agi n l j n]) ex0
theorem JY(n:Nat)(l:List ExV)(k:Nat):yt n l (k+1)=zB [yt n l k,agi n l k n]:=by
 unfold yt;rw[List.range_succ,List.foldl_append,List.foldl_cons,List.foldl_nil]
theorem Yv{lo hi:Int}{n:Nat}{l:List ExV}(hl:l.length=n*n)(hb:gbd lo hi l)(h0:lo≤0∧0≤hi):∀k,k≤n→(yt n l k).bd lo (hi+n)
 |0,_=>af6 h0.1 (by omega)
 |k+1,h=>by
  rw[JY]
  refine Zz (fun x hx=>?_) (by simp)
  simp only[List.mem_cons,List.not_mem_nil,or_false]at hx
  rcases hx with rfl|rfl
  ·exact Yv hl hb h0 k (by omega)
  ·exact atb (by omega) (Nat.le_refl _) hl hb h0
set_option maxRecDepth 100000 in
theorem YV(n:Nat)(l:List ExV)(hn:n≤4)(hl:l.length=n*n)(hb:gbd (-390000) 390000 l):Con Tryz.prog 117 false [.ag [.v (.int .i64 (n)),.sl (l).length (qg ExV.cs (l))]] [] (isA (.ag [.v (.bool (yt n l n).s),.sl (lim (yt n l n).m).length (qh (lim (yt n l n).m)),.v (.int .i64 (yt n l n).e)])):=by
 refine Con.frzA ?_
 have hq:=yW hn
 refine Con.of_aw Tryz.func117 rfl Tryz.ntmps117 (by simp) (by simp) (by simp) (AW.seqLe (E:=[(1,.fp [.v (.int .i64 n),.sl l.length (qg ExV.cs l)] 0),(2,.pt 0 0)]) (H:=[(0,.own 0 [.v (.bool false),.v (.slice none 0 0),.v (.int .i64 0)])]) (W.sound ?_) (W.sound ?_))
 ·show @W Tryz.prog 31 ⟨_⟩ ⟨_⟩ _ _
  simp(disch:=omega)only[go_sem]
  exact(Le.frz 30000000 (z:=0) (ks:=[.v (.int .i64 n),.sl l.length (qg ExV.cs l)]) (by simp(disch:=omega)only[go_sem]) rfl (by simp(disch:=omega)only[go_sem])).trans (Le.lst [(0,40000000)] _ _ rfl (by simp(disch:=omega)only[go_sem]) (by simp(disch:=omega)only[go_sem]))
 show @W Tryz.prog 31 ⟨_⟩ ⟨fun x σ=>@q9 _ _ _ ⟨_⟩ _ ⟨_⟩ x σ⟩ _ _
 simp(disch:=omega)only[go_sem]
 refine qc (fun j:Nat=>[(1,.fp [.v (.int .i64 n),.sl l.length (qg ExV.cs l)] 0),(2,.pt 0 0),(3,.pt 1 0),(8,.v (.int .i64 n)),(9,.v (.int .i64 j))])
  (fun j=>[(0,.own 0 [.v (.bool false),.v (.slice none 0 0),.v (.int .i64 0)]),(1,.own 0 [.v (.bool (yt n l j).s),.sl (lim (yt n l j).m).length (qh (lim (yt n l j).m)),.v (.int .i64 (yt n l j).e)])]) (fun j=>j≤n) (fun j=>n-j) 0 (by omega)
  ((Le.nilC 50000000 1 (zo:=0) (cs:=[.v (.bool false),.v (.slice none 0 0),.v (.int .i64 0)]) (by simp(disch:=omega)only[go_sem]) rfl).trans (Le.lst [(1,50000000)] _ _ rfl (by simp(disch:=omega)only[go_sem]) (by simp(disch:=omega)only[go_sem,List.set_cons_succ,List.set_cons_zero,show yt n l 0=ex0 from rfl,ex0,qt]))) ?_
 intro j hj
 have hN:=Yv hl hb (by omega) j hj
 have hNs:=JY n l j
 generalize hNN:yt n l j=A at*
 simp(disch:=omega)only[go_sem]
 refine qe (fun h1=>?_) (fun h1=>?_)
 ·simp(disch:=omega)only[go_sem,h1]
  refine qc (fun k:Nat=>[(1,.fp [.v (.int .i64 n),.sl l.length (qg ExV.cs l)] 0),(2,.pt 0 0),(3,.pt 1 0),(4,.v (.int .i64 j)),(5,.pt 2 0),(8,.v (.int .i64 n)),(9,.v (.int .i64 j)),(13,.v (.int .i64 n)),(14,.v (.int .i64 k))])
   (fun k=>[(0,.own 0 [.v (.bool false),.v (.slice none 0 0),.v (.int .i64 0)]),(1,.own 0 [.v (.bool A.s),.sl (lim A.m).length (qh (lim A.m)),.v (.int .i64 A.e)]),(2,.own 0 [.v (.bool (agi n l j k).s),.sl (lim (agi n l j k).m).length (qh (lim (agi n l j k).m)),.v (.int .i64 (agi n l j k).e)])]) (fun k=>k≤n) (fun k=>n-k) 0 (by omega)
   ((Le.nilC 70000000 1 (zo:=0) (cs:=[.v (.bool false),.v (.slice none 0 0),.v (.int .i64 0)]) (by simp(disch:=omega)only[go_sem]) rfl).trans (Le.lst [(2,70000000)] _ _ rfl (by simp(disch:=omega)only[go_sem]) (by simp(disch:=omega)only[go_sem,List.set_cons_succ,List.set_cons_zero,show agi n l j 0=ex0 from rfl,ex0,qt]))) ?_
  intro k hk
  have hC:=atb (k:=k) (show j<n by omega) hk hl hb (by omega)
  have hCs:=aba n l j k
  generalize hCC:agi n l j k=D at*
  simp(disch:=omega)only[go_sem]
  refine qe (fun h2=>?_) (fun h2=>?_)
  ·have hx:=zn (show k<n by omega) (show j<n by omega)
   have c1:=y5 n l k j (by omega) (by omega) (by omega) (by omega) (by omega)
   have b1:=qi hb (show k*n+j<l.length by omega)
   generalize l.getD (k*n+j) ex0=x at*
   simp(disch:=omega)only[go_sem,h2]
   refine qm rfl [⟨0,[],[]⟩,⟨1,[0],[]⟩,⟨2,[0,1],[]⟩,⟨3,[0,1],[]⟩,⟨4,[0],[]⟩,⟨5,[0],[]⟩,⟨6,[],[]⟩,⟨7,[],[]⟩] (by kernel_rfl) ?_
   simp(disch:=omega)only[go_sem]
   refine qb (c1) ?_
   simp(disch:=omega)only[go_sem]
   refine qb (Y1 x) ?_
   simp(disch:=omega)only[go_sem]
   refine qb (z8 D x.abs (hC.mono (by omega) (by omega)) (ExV.abs_bd (b1.mono (by omega) (by omega)))) ?_
   simp(disch:=omega)only[go_sem]
   exact qa (k+1) [] (by show k+1≤_;omega) (by show n-(k+1)<n-k;omega) rfl (by simp(disch:=omega)only[go_sem];try omega) (by simp(disch:=omega)only[go_sem,hCs])
  ·obtain rfl:n=k:=by omega
   rw[hCC]at hNs
   simp(disch:=omega)only[go_sem,h2]
   have hrow:([.v (.bool A.s),.sl (lim A.m).length (qh (lim A.m)),.v (.int .i64 A.e),.v (.bool D.s),.sl (lim D.m).length (qh (lim D.m)),.v (.int .i64 D.e)]:List AV)=qg ExV.cs [A,D]:=rfl
   rw[hrow]
   refine zk false [290000000] (aaP [A,D] (by simp) (by simp) (fun x hx=>?_)) (by simp(disch:=omega)only[go_sem]) (by simp(disch:=omega)only[go_sem]) rfl (qW (z:=3) (cs:=qg ExV.cs [A,D]) (by simp(disch:=omega)only[go_sem]) (by simp(disch:=omega)only[go_sem])) (by intro n hn;exact⟨_,List.mem_cons_self ..,by rw[List.mem_singleton.1 hn];rfl⟩) ?_
   ·simp only[List.mem_cons,List.not_mem_nil,or_false]at hx
    rcases hx with rfl|rfl
    ·exact hN.mono (by omega) (by omega)
    ·exact hC.mono (by omega) (by omega)
   rintro r hs bs ⟨rfl,rfl,rfl⟩-
   refine⟨by simp[qG],?_⟩
   simp(disch:=omega)only[go_sem]
   exact qa (j+1) [] (by show j+1≤_;omega) (by show n-(j+1)<n-j;omega) rfl (by simp(disch:=omega)only[go_sem];try omega) (by simp(disch:=omega)only[go_sem,hNs])
 ·simp(disch:=omega)only[go_sem,h1]
  obtain rfl:n=j:=by omega
  rw[hNN]
  exact qq
end Go.Ab
