/- What the proof of this claim stands on: the walks of the functions and the plain laws, part 4. -/
import Derived.Test.YtgkehjnacdccfaaGreatDoorFnExactExpNumLib3
import Derived.Shelf.Spec.TrailingZeros
import Derived.Shelf.Small.Bits
import Derived.Shelf.Strconv.Itoa0
import Derived.Carry
import Derived.ChangeSlices
set_option linter.unusedVariables false
set_option linter.unusedSimpArgs false
namespace Go.Ab
open Go Go.Proofs
theorem acl(a k:Nat)(la:(lim a).length≤1000000)(hk:k≤100000000):Con Tryz.prog 255 false [.ag [.sl (lim (a)).length (qb (lim (a)))],.v (.int .i64 k)] [] (isA (.ag [.sl (lim (a/2^k)).length (qb (lim (a/2^k)))])):=by
 refine Con.frzA ?_
 refine Con.of_aw Tryz.func255 rfl Tryz.ntmps255 (by simp) (by simp) (by simp) (W.sound ?_)
 show @W Tryz.prog 28 ⟨_⟩ ⟨fun x σ=>@q9 _ _ _ ⟨_⟩ _ ⟨_⟩ x σ⟩ _ _
 simp(disch:=omega)only[go_sem]
 refine qg (fun h1=>?_) (fun h1=>?_)
 ·simp(disch:=omega)only[go_sem,h1]
  have h0:a/2^k=0:=by
   refine Nat.div_eq_of_lt (Nat.lt_of_lt_of_le (ZM a) ?_)
   rw[Jz];exact Nat.pow_le_pow_right (by omega) (by omega)
  rw[h0,qt]
  exact qm
 ·simp(disch:=omega)only[go_sem,h1]
  refine qo rfl [⟨0,[],[]⟩,⟨1,[],[]⟩,⟨2,[1],[]⟩,⟨3,[1],[]⟩,⟨4,[],[]⟩,⟨5,[],[]⟩,⟨6,[1,4],[]⟩,⟨7,[1,4],[]⟩,⟨8,[1,4],[]⟩,⟨13,[1,4],[]⟩,⟨9,[],[70000000]⟩,⟨10,[],[70000000]⟩,⟨11,[],[70000000]⟩,⟨12,[],[70000000]⟩,⟨14,[],[]⟩,⟨15,[],[]⟩] (by kernel_rfl) ?_
  have e16:((k:Int)/16).toNat=k/16:=by omega
  have e17:(k:Int) % 16=((k % 16:Nat):Int):=by omega
  have e18:(((lim a).length:Int)-(k:Int)/16).toNat=((lim a).drop (k/16)).length:=by simp;omega
  have es:IntKind.i64.wrap (1*2^(min ((k:Int) % 16).toNat 64))=((2^(k % 16):Nat):Int):=by rw[e17];exact as8 (by omega)
  have hp15:2^(k % 16)≤2^15:=Nat.pow_le_pow_right (by omega) (by omega)
  have hp0:0<2^(k % 16):=Nat.pow_pos (by omega)
  have hvD:=ahg (zd a) (i:=k/16) (by omega)
  have gD:=y6 (zd a) (k/16)
  have hlD:((lim a).drop (k/16)).length≤1000000:=by simp;omega
  have hm:vl ((lim a).drop (k/16))/((2^(k % 16):Nat):Int)=((a/2^k:Nat):Int):=by
   rw[←hvD,q6]
   have:a/2^k=a/65536^(k/16)/2^(k % 16):=by rw[Nat.div_div_eq_div_mul,Jz,←Nat.pow_add,Nat.div_add_mod]
   rw[this,Int.natCast_ediv,Int.natCast_ediv,Int.natCast_pow 65536];rfl
  have et:((lim a).drop (k/16)).take ((lim a).drop (k/16)).length=(lim a).drop (k/16):=List.take_length
  simp(disch:=omega)only[go_sem,e16,e18,et,es]
  generalize (lim a).drop (k/16)=D at*
  refine⟨by omega,by omega,?_⟩
  refine qa ((ZP false D (2^(k % 16)) gD hlD hp0 (by omega) (a/2^k) hm).natF2) ?_
  simp(disch:=omega)only[go_sem]
  exact qm
theorem YV(a:Nat)(la:(lim a).length≤2^40):Con Tryz.prog 289 true [.ag [.sl (lim (a)).length (qb (lim (a)))]] [] (isA (.v (.int .i64 (bl a)))):=by
 refine Con.of_aw Tryz.func289 rfl Tryz.ntmps289 (by simp) (by simp) (by simp) (W.sound ?_)
 show @W Tryz.prog 29 ⟨_⟩ ⟨fun x σ=>@q9 _ _ _ ⟨_⟩ _ ⟨_⟩ x σ⟩ _ _
 simp(disch:=omega)only[go_sem]
 refine qg (fun h1=>?_) (fun h1=>?_)
 ·simp(disch:=omega)only[go_sem,h1]
  have:a=0:=qG.1 (List.length_eq_zero_iff.1 (by omega))
  subst this
  rw[Qe]
  exact qu
 ·have hm:a≠0:=fun e=>by rw[e,qt]at h1;simp at h1
  have e2:(((lim a).length:Int)-1).toNat=(lim a).length-1:=by omega
  have ht:=JI hm
  have hb:=avZ hm
  have eq:(lim a).getD ((lim a).length-1) 0=((a/65536^((lim a).length-1):Nat):Int):=by rw[zY,Nat.mod_eq_of_lt ht.2]
  generalize a/65536^((lim a).length-1)=q at*
  simp(disch:=omega)only[go_sem,h1,e2,eq]
  refine⟨by omega,by omega,?_⟩
  refine qi (fun x:Nat×Nat=>[(3,.v (.int .i64 x.1)),(4,.v (.int .i64 x.2))]) (fun _=>[]) (fun x=>x.1+bl x.2=bl a∧x.2<65536∧x.1≤2^45) (fun x=>x.2) (16*((lim a).length-1),q) ⟨hb.symm,ht.2,by show 16*((lim a).length-1)≤2^45;omega⟩ (Le.lst [] _ _ rfl (by simp(disch:=omega)only[go_sem];try omega) (by simp(disch:=omega)only[go_sem])) ?_
  rintro⟨n,x⟩ ⟨hn,hx,hn2⟩
  dsimp only at hn hx hn2 ⊢
  simp(disch:=omega)only[go_sem]
  refine qg (fun h2=>?_) (fun h2=>?_)
  ·simp(disch:=omega)only[go_sem,h2]
   have hd:=aL8 (x:=x) (by omega)
   have hp:=qX.2 (show x<2^16 by omega)
   refine qe (n+1,x/2) [] ⟨by show n+1+bl (x/2)=bl a;omega,by show x/2<65536;omega,?_⟩ (by show x/2<x;omega) rfl (by simp(disch:=omega)only[go_sem];try omega) (by simp(disch:=omega)only[go_sem])
   show n+1≤2^45
   have:=Qz (m:=a)
   omega
  ·simp(disch:=omega)only[go_sem,h2]
   have:x=0:=by omega
   subst this
   rw[Qe]at hn
   refine qx (by simp(disch:=omega)only[go_sem]) (by simp(disch:=omega)only[go_sem]) ⟨?_,rfl,rfl⟩
   simp[zl];omega
theorem Zb(m:Nat)(i:Int)(hl:(lim m).length≤2^40)(hi:0≤i)(hi2:i<2^62):Con Tryz.prog 190 true [.ag [.sl (lim (m)).length (qb (lim (m)))],.v (.int .i64 i)] [] (isA (.v (.int .i64 ((m/2^i.toNat % 2:Nat):Int)))):=by
 refine Con.of_w (rs:=[.tmp 4]) Tryz.func190 rfl Tryz.ntmps190 rfl ?_
 obtain⟨k,rfl⟩:=Int.eq_ofNat_of_zero_le hi
 rw[Int.toNat_natCast]
 have h0:¬((k:Int)<0):=by omega
 have e16:((k:Int)/16).toNat=k/16:=by omega
 have em:min ((k:Int) % 16).toNat 64=k % 16:=by omega
 have hb:=av0 m k
 simp(disch:=omega)only[go_sem,h0]
 refine qg (fun h1=>?_) (fun h1=>?_)
 ·simp(disch:=omega)only[go_sem,h1]
  have:m/2^k % 2=0:=by
   rw[←hb]
   have h2:=zY m (k/16)
   rw[List.getD_eq_getElem?_getD,List.getElem?_eq_none (by omega)]at h2
   have h3:m/65536^(k/16) % 65536=0:=by simp only[Option.getD_none]at h2;omega
   rw[h3];simp
  rw[this]
  exact qu
 ·have hx:=qP (zd m) (k/16)
  have hp:(0:Int)<2^(k % 16):=Int.pow_pos (by omega)
  have efd:∀x:Int,x.fdiv (2^(k % 16))=x/2^(k % 16):=fun x=>Int.fdiv_eq_ediv_of_nonneg _ (Int.le_of_lt hp)
  have hq:0≤(lim m).getD (k/16) 0/2^(k % 16)∧(lim m).getD (k/16) 0/2^(k % 16)<65536:=by
   refine⟨Int.ediv_nonneg hx.1 (Int.le_of_lt hp),Int.lt_of_le_of_lt (Int.ediv_le_self _ hx.1) hx.2⟩
  have hr:(lim m).getD (k/16) 0/2^(k % 16) % 2=((m/2^k % 2:Nat):Int):=by
   rw[←hb,zY]
   generalize m/65536^(k/16) % 65536=x
   rw[Int.natCast_emod,Int.natCast_ediv,Int.natCast_pow];rfl
  simp(disch:=omega)only[go_sem,h1,e16,em,efd,hr]
  refine⟨by omega,by omega,by omega,?_⟩
  exact qu
theorem awz{m i:Nat}(hz:∀j,j<i→m/2^j % 2=0)(h1:m/2^i % 2=1):tz m=i:=by
 have key:∀k,k≤i→2^k*(m/2^k)=m:=by
  intro k
  induction k with
  |zero=>intro _;simp
  |succ k ih=>
   intro hk
   have h2:=ih (by omega)
   have h3:=hz k (by omega)
   have h4:m/2^(k+1)=m/2^k/2:=by rw[Nat.pow_succ,Nat.div_div_eq_div_mul]
   rw[h4,Nat.pow_succ,Nat.mul_assoc,show 2*(m/2^k/2)=m/2^k by omega];exact h2
 refine Jh (a:=m/2^i/2) ?_
 have:=key i (Nat.le_refl _)
 rw[show 2*(m/2^i/2)+1=m/2^i by omega];exact this.symm
theorem J4(m:Nat)(hl:(lim m).length≤2^40):Con Tryz.prog 254 true [.ag [.sl (lim (m)).length (qb (lim (m)))]] [] (isA (.v (.int .i64 (tz m)))):=by
 refine Con.of_w (rs:=[.tmp 2]) Tryz.func254 rfl Tryz.ntmps254 rfl ?_
 simp(disch:=omega)only[go_sem]
 refine qi (fun i:Nat=>[(1,.pt 0 0),(3,.v (.int .i64 i))]) (fun _=>[(0,.own 0 [.sl (lim (m)).length (qb (lim (m)))])]) (fun i=>i≤16*(lim m).length∧∀j,j<i→m/2^j % 2=0) (fun i=>16*(lim m).length-i) 0 ⟨by omega,fun j hj=>by omega⟩ (Le.lst [(0,30000000)] _ _ rfl (by simp(disch:=omega)only[go_sem];try omega) (by simp(disch:=omega)only[go_sem])) ?_
 rintro i ⟨hi,hz⟩
 simp(disch:=omega)only[go_sem]
 refine qg (fun h1=>?_) (fun h1=>?_)
 ·simp(disch:=omega)only[go_sem,h1]
  refine qj (Zb m i hl (by omega) (by omega)) ?_
  simp(disch:=omega)only[go_sem]
  refine qg (fun h2=>?_) (fun h2=>?_)
  ·simp(disch:=omega)only[go_sem,h2]
   have:=awz hz (by omega)
   rw[this]
   exact qu
  ·simp(disch:=omega)only[go_sem,h2]
   refine qe (i+1) [] ⟨by omega,fun j hj=>?_⟩ (by show 16*(lim m).length-(i+1)<16*(lim m).length-i;omega) rfl (by simp(disch:=omega)only[go_sem];try omega) (by simp(disch:=omega)only[go_sem])
   rcases(by omega:j<i∨j=i)with h|h
   ·exact hz j h
   ·subst h;omega
 ·simp(disch:=omega)only[go_sem,h1]
  have hm:m=0:=by
   have h3:=Qz (m:=m)
   rcases Nat.eq_zero_or_pos m with h|h
   ·exact h
   ·have h4:=yt (n:=m) (by omega)
    have h5:=(QY (n:=m) (by omega)).1
    have:=hz (tz m) (by omega)
    omega
  subst hm
  rw[aod]
  exact qu
end Go.Ab
namespace Go.Ab
open Go Go.Proofs
set_option maxRecDepth 100000 in
theorem agU(U V:List Int)(j:Nat)(hU:gd U)(hV:gd V)(lU:U.length≤2000000)(h2:2≤V.length)(hj:j+V.length<U.length)(hv1:32768≤V.getD (V.length-1) 0)(hW:vl (U.drop j)<65536*vl V):
  Con Tryz.prog 329 true [.sl U.length (qb U),.sl V.length (qb V),.v (.int .i64 j)] [] (fun r hs bs=>∃q:Int,r=.v (.int .i64 q)∧hs=[]∧bs=[]∧(0≤q∧q<65536)∧vl (U.drop j)<(q+1)*vl V∧q*vl V<vl (U.drop j)+vl V):=by
 refine Con.of_aw Tryz.func329 rfl Tryz.ntmps329 (by simp) (by simp) (by simp) (W.sound ?_)
 show @W Tryz.prog 76 ⟨_⟩ ⟨fun x σ=>@q9 _ _ _ ⟨_⟩ _ ⟨_⟩ x σ⟩ _ _
 have hDl:V.length<(U.drop j).length:=by simp;omega
 have hz:=ahh (y6 hU j) hV hDl hW
 have hw:=aUM hDl h2 hz
 have hvv:=aMd h2
 rw[je,je,je]at hw
 have hx0:=zg (yE (y6 hU j) (V.length-2))
 have hx1:=ZX (yE (y6 hU j) (V.length-2))
 have hy0:=zg (yE hV (V.length-2))
 have hy1:=ZX (yE hV (V.length-2))
 rw[List.length_take,Nat.min_eq_left (by omega)]at hx1 hy1
 have gu0:=qP hU (j+V.length)
 have gu1:=qP hU (j+(V.length-1))
 have gu2:=qP hU (j+(V.length-2))
 have gv1:=qP hV (V.length-1)
 have gv2:=qP hV (V.length-2)
 have htop:=aW9 hw hvv ⟨hx0,hx1⟩ ⟨hy0,hy1⟩ gu2.1 gu1.1 gv2.2 hW
 have e0:((j:Int)+(V.length:Int)).toNat=j+V.length:=by omega
 have e1:((j:Int)+(V.length:Int)-1).toNat=j+(V.length-1):=by omega
 have e2:((j:Int)+(V.length:Int)-2).toNat=j+(V.length-2):=by omega
 have f1:((V.length:Int)-1).toNat=V.length-1:=by omega
 have f2:((V.length:Int)-2).toNat=V.length-2:=by omega
 simp(disch:=omega)only[go_sem]
 refine qo rfl [⟨0,[],[]⟩,⟨1,[],[]⟩,⟨2,[],[]⟩,⟨3,[],[]⟩,⟨4,[],[]⟩,⟨5,[],[]⟩,⟨6,[],[]⟩,⟨7,[5],[]⟩,⟨8,[5],[]⟩,⟨9,[5],[]⟩,⟨10,[5],[]⟩,⟨11,[5],[]⟩,⟨12,[5],[]⟩,⟨13,[5],[]⟩,⟨14,[],[]⟩,⟨15,[],[]⟩] (by kernel_rfl) ?_
 simp(disch:=omega)only[go_sem,e0,e1]
 generalize hu0:U.getD (j+V.length) 0=u0 at*
 generalize hu1:U.getD (j+(V.length-1)) 0=u1 at*
 generalize hu2:U.getD (j+(V.length-2)) 0=u2 at*
 refine⟨by omega,by omega,by omega,by omega,?_⟩
 refine qo rfl [⟨0,[],[]⟩,⟨1,[],[]⟩,⟨2,[],[]⟩,⟨3,[],[]⟩,⟨4,[],[]⟩,⟨5,[],[]⟩,⟨6,[],[]⟩,⟨7,[5],[]⟩,⟨8,[5],[]⟩,⟨9,[5],[]⟩,⟨10,[5],[]⟩,⟨11,[5],[]⟩,⟨12,[5],[]⟩,⟨13,[5],[]⟩,⟨14,[12],[]⟩,⟨15,[],[]⟩] (by kernel_rfl) ?_
 simp(disch:=omega)only[go_sem,f1]
 generalize hvv1:V.getD (V.length-1) 0=v1 at*
 generalize hvv2:V.getD (V.length-2) 0=v2 at*
 generalize htt:u0*65536+u1=top at*
 refine⟨by omega,by omega,by omega,by omega,by omega,by omega,?_⟩
 have hq0:0≤top/v1:=Int.ediv_nonneg (by omega) (by omega)
 have hq1:top/v1≤65537:=by
  have:top/v1<65538:=Int.ediv_lt_of_lt_mul (by omega) (by omega)
  omega
 have hr0:=Int.emod_nonneg top (show v1≠0 by omega)
 have hr1:=Int.emod_lt_of_pos top (show 0<v1 by omega)
 have hqr:=Int.emod_add_mul_ediv top v1
 have hini:=aSa hw hvv ⟨hx0,hx1⟩ ⟨hy0,hy1⟩ gu2 gv2.1 hq0 (show top<(top/v1+1)*v1 by rw[Int.add_mul,Int.mul_comm (top/v1)];omega)
 have hqr':top/v1*v1+top % v1=top:=by rw[Int.mul_comm];omega
 generalize top/v1=q0 at*
 generalize top % v1=r0 at*
 refine qi (fun x:Int×Int=>[(0,.sl U.length (qb U)),(1,.sl V.length (qb V)),(2,.v (.int .i64 j)),(7,.v (.int .i64 V.length)),(9,.v (.int .i64 x.1)),(10,.v (.int .i64 x.2))])
  (fun _=>[]) (fun x=>(0≤x.1∧x.1≤65537)∧(0≤x.2∧x.2<65536)∧x.1*v1+x.2=top∧vl (U.drop j)<(x.1+1)*vl V) (fun x=>x.1.toNat) (q0,r0) ⟨⟨hq0,hq1⟩,⟨hr0,by omega⟩,hqr',hini⟩
  (Le.lst [] _ _ rfl (by simp(disch:=omega)only[go_sem];try omega) (by simp(disch:=omega)only[go_sem])) ?_
 rintro⟨q,r⟩ ⟨hq,hr,hqr2,hlt⟩
 dsimp only at hq hr hqr2 hlt ⊢
 have hqv:0≤q*v2∧q*v2≤65537*65535:=⟨Int.mul_nonneg hq.1 gv2.1,Int.mul_le_mul hq.2 (by omega) gv2.1 (by omega)⟩
 simp(disch:=omega)only[go_sem]
 refine qo rfl [⟨0,[],[]⟩,⟨1,[],[]⟩,⟨2,[],[]⟩,⟨3,[],[]⟩,⟨4,[],[]⟩,⟨5,[],[]⟩,⟨6,[],[]⟩,⟨7,[],[]⟩,⟨8,[],[]⟩,⟨9,[],[]⟩,⟨10,[8],[]⟩,⟨11,[8],[]⟩,⟨12,[8],[]⟩,⟨13,[8],[]⟩,⟨14,[8],[]⟩,⟨15,[8],[]⟩,⟨16,[8],[]⟩,⟨17,[8],[]⟩,⟨18,[8],[]⟩,⟨19,[8],[]⟩,⟨20,[],[]⟩,⟨21,[],[]⟩] (by kernel_rfl) ?_
 simp(disch:=omega)only[go_sem]
 refine z7 (fun h1=>?_) (fun h1=>?_)
 ·simp(disch:=omega)only[go_sem,h1,e2,f2,hu2,hvv2]
  refine⟨by omega,by omega,by omega,by omega,qg (fun h2=>?_) (fun h2=>?_)⟩
  ·simp(disch:=omega)only[go_sem,h2,f1,hvv1]
   have hst:=at7 hw hvv ⟨hx0,hx1⟩ ⟨hy0,hy1⟩ hW gv2.1 (by omega) hq.1 hqr2 (.inr h2)
   have hqp:0<q:=by
    rcases(by omega:0<q∨q=0)with h|h
    ·exact h
    ·subst h;omega
   have hm:(q-1)*v1+(r+v1)=top:=by rw[Int.sub_mul];omega
   refine⟨by omega,by omega,qg (fun h3=>?_) (fun h3=>?_)⟩
   ·simp(disch:=omega)only[go_sem,h3]
    have h4:q-1<65536:=by
     rcases(by omega:q-1<65536∨65536≤q-1)with h|h
     ·exact h
     ·have:=Int.mul_le_mul_of_nonneg_right h (show 0≤v1 by omega)
      omega
    have h5:(q-1)*v2≤(r+v1)*65536+u2:=by
     have:(q-1)*v2≤65535*65535:=Int.mul_le_mul (by omega) (by omega) gv2.1 (by omega)
     omega
    have h6:=af9 hw hvv ⟨hx0,hx1⟩ ⟨hy0,hy1⟩ gv2.1 (by omega) ⟨by omega,h4⟩ hm h5
    exact qx (by simp(disch:=omega)only[go_sem]) (by simp(disch:=omega)only[go_sem]) ⟨q-1,rfl,rfl,rfl,⟨by omega,h4⟩,by rw[show q-1+1=q by omega];exact hst,h6⟩
   ·simp(disch:=omega)only[go_sem,h3]
    refine qe (q-1,r+v1) [] ⟨by show 0≤q-1∧q-1≤65537;omega,by show 0≤r+v1∧r+v1<65536;omega,hm,by show _<(q-1+1)*vl V;rw[show q-1+1=q by omega];exact hst⟩ (by show(q-1).toNat<q.toNat;omega) rfl (by simp(disch:=omega)only[go_sem];try omega) (by simp(disch:=omega)only[go_sem])
  ·simp(disch:=omega)only[go_sem,h2]
   have h6:=af9 hw hvv ⟨hx0,hx1⟩ ⟨hy0,hy1⟩ gv2.1 (by omega) ⟨hq.1,by omega⟩ hqr2 (by omega)
   exact qx (by simp(disch:=omega)only[go_sem]) (by simp(disch:=omega)only[go_sem]) ⟨q,rfl,rfl,rfl,⟨hq.1,by omega⟩,hlt,h6⟩
 ·simp(disch:=omega)only[go_sem,h1,f1,hvv1]
  have hst:=at7 hw hvv ⟨hx0,hx1⟩ ⟨hy0,hy1⟩ hW gv2.1 (by omega) hq.1 hqr2 (.inl h1)
  have hqp:0<q:=by omega
  have hm:(q-1)*v1+(r+v1)=top:=by rw[Int.sub_mul];omega
  refine⟨by omega,by omega,qg (fun h3=>?_) (fun h3=>?_)⟩
  ·simp(disch:=omega)only[go_sem,h3]
   have h4:q-1<65536:=by
    rcases(by omega:q-1<65536∨65536≤q-1)with h|h
    ·exact h
    ·have:=Int.mul_le_mul_of_nonneg_right h (show 0≤v1 by omega)
     omega
   have h5:(q-1)*v2≤(r+v1)*65536+u2:=by
    have:(q-1)*v2≤65535*65535:=Int.mul_le_mul (by omega) (by omega) gv2.1 (by omega)
    omega
   have h6:=af9 hw hvv ⟨hx0,hx1⟩ ⟨hy0,hy1⟩ gv2.1 (by omega) ⟨by omega,h4⟩ hm h5
   exact qx (by simp(disch:=omega)only[go_sem]) (by simp(disch:=omega)only[go_sem]) ⟨q-1,rfl,rfl,rfl,⟨by omega,h4⟩,by rw[show q-1+1=q by omega];exact hst,h6⟩
  ·simp(disch:=omega)only[go_sem,h3]
   refine qe (q-1,r+v1) [] ⟨by show 0≤q-1∧q-1≤65537;omega,by show 0≤r+v1∧r+v1<65536;omega,hm,by show _<(q-1+1)*vl V;rw[show q-1+1=q by omega];exact hst⟩ (by show(q-1).toNat<q.toNat;omega) rfl (by simp(disch:=omega)only[go_sem];try omega) (by simp(disch:=omega)only[go_sem])
end Go.Ab
namespace Go.Ab
open Go Go.Proofs
theorem ab6(U V:List Int)(j:Nat)(q:Int)(hU:gd U)(hV:gd V)(lU:U.length≤2000000)(hj:j+V.length<U.length)(hq:0≤q∧q<65536):
  Con Tryz.prog 330 false [.rf 10000000 0 U.length,.sl V.length (qb V),.v (.int .i64 j),.v (.int .i64 q)] [.own 1 (qb U)]
   (fun r hs bs=>∃(U':List Int) (bo:Int),r=.v (.bool (decide (U.getD (j+V.length) 0-bo<0)))∧hs=[]∧bs=[.own 1 (qb (U'.set (j+V.length) (U.getD (j+V.length) 0-bo)))]∧
    U'.length=U.length∧gd U'∧(0≤bo∧bo<65536)∧(∀t,t<j∨j+V.length≤t→U'.getD t 0=U.getD t 0)∧vl U'-65536^(j+V.length)*bo=vl U-65536^j*(q*vl V)):=by
 refine Con.of_aw Tryz.func330 rfl Tryz.ntmps330 (by simp) (by simp) (by simp) (W.sound ?_)
 show @W Tryz.prog 68 ⟨_⟩ ⟨fun x σ=>@q9 _ _ _ ⟨_⟩ _ ⟨_⟩ x σ⟩ _ _
 simp(disch:=omega)only[go_sem]
 refine qi (fun x:Nat×List Int×Int=>[(0,.rf 10000000 0 U.length),(1,.sl V.length (qb V)),(2,.v (.int .i64 j)),(3,.v (.int .i64 q)),(9,.v (.int .i64 x.2.2)),(13,.sl V.length (qb V)),(14,.v (.int .i64 V.length)),(15,.v (.int .i64 x.1))])
  (fun x=>[(10000000,.own 1 (qb x.2.1))])
  (fun x=>x.1≤V.length∧x.2.1.length=U.length∧gd x.2.1∧(0≤x.2.2∧x.2.2<65536)∧(∀t,t<j∨j+x.1≤t→x.2.1.getD t 0=U.getD t 0)∧vl x.2.1-65536^(j+x.1)*x.2.2=vl U-65536^j*(q*vl (V.take x.1)))
  (fun x=>V.length-x.1) (0,U,0) ⟨by simp,rfl,hU,by simp,fun _ _=>rfl,by simp[vl]⟩
  (Le.lst [] _ _ rfl (by simp(disch:=omega)only[go_sem];try omega) (by simp(disch:=omega)only[go_sem])) ?_
 rintro⟨i,U1,bo⟩ ⟨hi,hl1,hg1,hbo,hsame,hval⟩
 dsimp only at hi hl1 hg1 hbo hsame hval ⊢
 simp(disch:=omega)only[go_sem]
 refine qg (fun h1=>?_) (fun h1=>?_)
 ·have hx:=qP hV i
  have hu:=qP hg1 (j+i)
  have hqx:0≤q*V.getD i 0∧q*V.getD i 0≤65535*65535:=⟨Int.mul_nonneg hq.1 hx.1,Int.mul_le_mul (by omega) (by omega) hx.1 (by omega)⟩
  have e1:((j:Int)+(i:Int)).toNat=j+i:=by omega
  have hstep:∀d b:Int,d-65536*b=U1.getD (j+i) 0-q*V.getD i 0-bo→vl (U1.set (j+i) d)-65536^(j+(i+1))*b=vl U-65536^j*(q*vl (V.take (i+1))):=by
   intro d b hd
   rw[ZF (by omega),qY,←Nat.add_assoc,Int.pow_succ]
   have e3:(65536:Int)^(j+i)=65536^j*65536^i:=Int.pow_add _ _ _
   rw[e3]at hval ⊢
   generalize (65536:Int)^i=Pi at*
   generalize (65536:Int)^j=Pj at*
   grind
  have hsm:∀d:Int,∀t,t<j∨j+(i+1)≤t→(U1.set (j+i) d).getD t 0=U.getD t 0:=fun d t ht=>by
   rw[jB (by omega),if_neg (by omega)];exact hsame t (by omega)
  simp(disch:=omega)only[go_sem,h1,e1]
  refine⟨by omega,by omega,by omega,by omega,qg (fun h2=>?_) (fun h2=>?_)⟩
  ·simp(disch:=omega)only[go_sem,h2,e1]
   generalize hb:(0-(U1.getD (j+i) 0-q*V.getD i 0-bo)+65536-1)/65536=b
   refine⟨by omega,by omega,qe (i+1,U1.set (j+i) (U1.getD (j+i) 0-q*V.getD i 0-bo+b*65536),b) [] ⟨by show i+1≤_;omega,by simp[hl1],yN hg1 (by omega),by show 0≤b∧b<65536;omega,hsm _,hstep (U1.getD (j+i) 0-q*V.getD i 0-bo+b*65536) b (by omega)⟩
    (by show V.length-(i+1)<V.length-i;omega) rfl (by simp(disch:=omega)only[go_sem];try omega) (by simp(disch:=omega)only[go_sem])⟩
  ·simp(disch:=omega)only[go_sem,h2,e1]
   refine⟨by omega,by omega,qe (i+1,U1.set (j+i) (U1.getD (j+i) 0-q*V.getD i 0-bo),0) [] ⟨by show i+1≤_;omega,by simp[hl1],yN hg1 (by omega),by simp,hsm _,hstep (U1.getD (j+i) 0-q*V.getD i 0-bo) 0 (by omega)⟩
    (by show V.length-(i+1)<V.length-i;omega) rfl (by simp(disch:=omega)only[go_sem];try omega) (by simp(disch:=omega)only[go_sem])⟩
 ·have hiA:i=V.length:=by omega
  subst hiA
  rw[List.take_length]at hval
  have e1:((j:Int)+(V.length:Int)).toNat=j+V.length:=by omega
  have hu:=qP hg1 (j+V.length)
  have es:=hsame (j+V.length) (by omega)
  have eg:(U1.set (j+V.length) (U.getD (j+V.length) 0-bo)).getD (j+V.length) 0=U.getD (j+V.length) 0-bo:=by rw[jB (by omega),if_pos rfl]
  simp(disch:=omega)only[go_sem,h1,e1,es]
  refine⟨by omega,by omega,by omega,by omega,by omega,by simp;omega,?_⟩
  simp(disch:=omega)only[go_sem,eg]
  refine qh [] [] [.own 1 (qb (U1.set (j+V.length) (U.getD (j+V.length) 0-bo)))] [.v (.bool (decide (U.getD (j+V.length) 0-bo<0)))] rfl (by simp(disch:=omega)only[go_sem]) (by simp(disch:=omega)only[go_sem]) (by simp) (by simp) ⟨U1,bo,rfl,rfl,rfl,hl1,hg1,hbo,hsame,hval⟩
theorem agW(U V:List Int)(j:Nat)(hU:∀t,t≠j+V.length→0≤U.getD t 0∧U.getD t 0<65536)(hUt: -65536≤U.getD (j+V.length) 0∧U.getD (j+V.length) 0<65536)(hV:gd V)(lU:U.length≤2000000)(hj:j+V.length<U.length):
  Con Tryz.prog 331 false [.rf 10000000 0 U.length,.sl V.length (qb V),.v (.int .i64 j)] [.own 1 (qb U)]
   (fun r hs bs=>∃(U':List Int),r=.tu []∧hs=[]∧bs=[.own 1 (qb U')]∧
    U'.length=U.length∧(∀t,t≠j+V.length→0≤U'.getD t 0∧U'.getD t 0<65536)∧(∀t,t<j∨j+V.length<t→U'.getD t 0=U.getD t 0)∧vl U'=vl U+65536^j*vl V):=by
 refine Con.of_aw Tryz.func331 rfl Tryz.ntmps331 (by simp) (by simp) (by simp) (W.sound ?_)
 show @W Tryz.prog 46 ⟨_⟩ ⟨fun x σ=>@q9 _ _ _ ⟨_⟩ _ ⟨_⟩ x σ⟩ _ _
 simp(disch:=omega)only[go_sem]
 refine qi (fun x:Nat×List Int×Int=>[(0,.rf 10000000 0 U.length),(1,.sl V.length (qb V)),(2,.v (.int .i64 j)),(6,.v (.int .i64 x.2.2)),(9,.sl V.length (qb V)),(10,.v (.int .i64 V.length)),(11,.v (.int .i64 x.1))])
  (fun x=>[(10000000,.own 1 (qb x.2.1))])
  (fun x=>x.1≤V.length∧x.2.1.length=U.length∧(∀t,t≠j+V.length→0≤x.2.1.getD t 0∧x.2.1.getD t 0<65536)∧(0≤x.2.2∧x.2.2≤1)∧(∀t,t<j∨j+x.1≤t→x.2.1.getD t 0=U.getD t 0)∧vl x.2.1+65536^(j+x.1)*x.2.2=vl U+65536^j*vl (V.take x.1))
  (fun x=>V.length-x.1) (0,U,0) ⟨by simp,rfl,hU,by simp,fun _ _=>rfl,by simp[vl]⟩
  (Le.lst [] _ _ rfl (by simp(disch:=omega)only[go_sem];try omega) (by simp(disch:=omega)only[go_sem])) ?_
 rintro⟨i,U1,cy⟩ ⟨hi,hl1,hg1,hcy,hsame,hval⟩
 dsimp only at hi hl1 hg1 hcy hsame hval ⊢
 simp(disch:=omega)only[go_sem]
 refine qg (fun h1=>?_) (fun h1=>?_)
 ·have hx:=qP hV i
  have hu:=hg1 (j+i) (by omega)
  have e1:((j:Int)+(i:Int)).toNat=j+i:=by omega
  simp(disch:=omega)only[go_sem,h1,e1]
  generalize hb:cy+(U1.getD (j+i) 0+V.getD i 0)=b
  have hg2:∀t,t≠j+V.length→0≤(U1.set (j+i) (b % 65536)).getD t 0∧(U1.set (j+i) (b % 65536)).getD t 0<65536:=fun t ht=>by
   rw[jB (by omega)]
   split
   ·omega
   ·exact hg1 t ht
  refine⟨by omega,by omega,by omega,by omega,by omega,by omega,qe (i+1,U1.set (j+i) (b % 65536),b/65536) [] ⟨by show i+1≤_;omega,by simp[hl1],hg2,by show 0≤b/65536∧b/65536≤1;omega,fun t ht=>?_,?_⟩
   (by show V.length-(i+1)<V.length-i;omega) rfl (by simp(disch:=omega)only[go_sem];try omega) (by simp(disch:=omega)only[go_sem])⟩
  ·show(U1.set (j+i) (b % 65536)).getD t 0=_
   have ht:t<j∨j+(i+1)≤t:=ht
   rw[jB (by omega),if_neg (by omega)];exact hsame t (by omega)
  ·show vl (U1.set (j+i) (b % 65536))+65536^(j+(i+1))*(b/65536)=vl U+65536^j*vl (V.take (i+1))
   rw[ZF (by omega),qY,←Nat.add_assoc,Int.pow_succ]
   have e3:(65536:Int)^(j+i)=65536^j*65536^i:=Int.pow_add _ _ _
   have e4:b % 65536+65536*(b/65536)=b:=Int.emod_add_mul_ediv b 65536
   rw[e3]at hval ⊢
   generalize (65536:Int)^i=Pi at*
   generalize (65536:Int)^j=Pj at*
   grind
 ·have hiA:i=V.length:=by omega
  subst hiA
  rw[List.take_length]at hval
  have e1:((j:Int)+(V.length:Int)).toNat=j+V.length:=by omega
  have es:=hsame (j+V.length) (by omega)
  simp(disch:=omega)only[go_sem,h1,e1,es]
  refine⟨by omega,by omega,by omega,by omega,?_⟩
  refine qh [] [] [.own 1 (qb (U1.set (j+V.length) (U.getD (j+V.length) 0+cy)))] [] rfl (by simp(disch:=omega)only[go_sem]) (by simp(disch:=omega)only[go_sem]) (by simp) (by simp) ⟨_,rfl,rfl,rfl,by simp[hl1],fun t ht=>?_,fun t ht=>?_,?_⟩
  ·rw[jB (by omega),if_neg ht];exact hg1 t ht
  ·rw[jB (by omega),if_neg (by omega)];exact hsame t (by omega)
  ·rw[ZF (by omega),es]
   generalize (65536:Int)^(j+V.length)=Pj at*
   grind
end Go.Ab
namespace Go.Ab
open Go Go.Proofs
theorem avb(cl:Bool)(n:Nat)(hn:n<2^63):Con Tryz.prog 157 cl [.v (.int .i64 n)] [] (atE (lim n)):=by
 refine Con.of_aw Tryz.func157 rfl Tryz.ntmps157 (by simp) (by simp) (by simp) (W.sound ?_)
 show @W Tryz.prog 14 ⟨_⟩ ⟨fun x σ=>@q9 _ _ _ ⟨_⟩ _ ⟨_⟩ x σ⟩ _ _
 simp(disch:=omega)only[go_sem]
 refine qi (fun x:Nat×List Int=>[(0,.v (.int .i64 x.1)),(3,.rf 1 0 x.2.length)]) (fun x=>[(1,.own 1 (qb x.2))]) (fun x=>x.1<2^63∧x.2++lim x.1=lim n) (fun x=>x.1) (n,[]) ⟨hn,rfl⟩
  ((Le.ghost 3 1 1 (by simp(disch:=omega)only[go_sem]) (by simp(disch:=omega)only[go_sem])).trans (Le.lst [] _ _ rfl (by simp(disch:=omega)only[go_sem]) (by simp(disch:=omega)only[go_sem]))) ?_
 rintro⟨k,l⟩ ⟨hk,hl⟩
 dsimp only at hk hl ⊢
 have hlen:l.length≤4:=by
  have h1:=congrArg List.length hl
  have h2:=yC (n:=n) (k:=4) |>.2 (by omega)
  rw[List.length_append]at h1;omega
 simp(disch:=omega)only[go_sem]
 refine qg (fun h1=>?_) (fun h1=>?_)
 ·simp(disch:=omega)only[go_sem,h1]
  have hk0:k≠0:=by omega
  refine⟨by omega,qe (k/65536,l++[(k:Int) % 65536]) [(1,140000000)] ⟨by show k/65536<2^63;omega,?_⟩ (by show k/65536<k;omega) rfl (by simp(disch:=omega)only[go_sem,List.length_append];omega) (by simp(disch:=omega)only[go_sem])⟩
  rw[yA hk0]at hl
  rw[←hl,List.append_assoc];rfl
 ·simp(disch:=omega)only[go_sem,h1]
  have hk0:k=0:=by omega
  subst hk0
  rw[qt,List.append_nil]at hl
  subst hl
  refine qh [(0,1)] [.own 1 (qb (lim n++[]))] [] [.rf 0 0 (lim n).length] rfl (by simp(disch:=omega)only[go_sem]) (by simp(disch:=omega)only[go_sem]) (by simp) (by intro _;simp[zl,AV.pu,AV.pu.puL,Ob.pu,qT]) (.inr ⟨[],rfl,rfl⟩)
end Go.Ab
namespace Go.Ab
open Go Go.Proofs
theorem aIe(V P:Int)(hP:0<P):V % (P*65536)=V % P+P*(V/P % 65536):=by
 rw[Int.emod_def,Int.emod_def,Int.emod_def,←Int.ediv_ediv_of_nonneg (Int.le_of_lt hP)]
 grind
theorem aHA{s:Nat}(hs:s<16):(65536:Int)=2^s*2^(16-s):=by
 rw[←Int.pow_add,show s+(16-s)=16 by omega];decide
theorem anh{D:List Int}(hD:gd D){i s:Nat}(hi:i<D.length)(hs:s<16):
  (vl D/2^s)/65536^i % 65536=(D.getD i 0+D.getD (i+1) 0*65536)/2^s % 65536:=by
 have h2:=(yW s hs).1
 rw[Int.ediv_ediv_of_nonneg (Int.le_of_lt h2),Int.mul_comm,←Int.ediv_ediv_of_nonneg (Int.le_of_lt (Int.pow_pos (by omega))),ahg hD (by omega),zH hi]
 have h3:vl (D.drop (i+1))=D.getD (i+1) 0+65536*vl (D.drop (i+2)):=by
  rcases Nat.lt_or_ge (i+1) D.length with h|h
  ·exact zH h
  ·rw[List.drop_of_length_le h,List.drop_of_length_le (by omega),List.getD_eq_getElem?_getD,List.getElem?_eq_none h];simp[vl]
 rw[h3]
 have e:D.getD i 0+65536*(D.getD (i+1) 0+65536*vl (D.drop (i+2)))=(D.getD i 0+D.getD (i+1) 0*65536)+2^s*(65536*(2^(16-s)*vl (D.drop (i+2)))):=by
  have:=aHA hs
  generalize (2:Int)^s=a at*
  generalize (2:Int)^(16-s)=b at*
  grind
 rw[e,Int.add_mul_ediv_left _ _ (by omega),Int.add_mul_emod_self_left]
theorem atx{a b:Nat}(h:a≤b):(65536:Int)^a≤65536^b:=by
 obtain⟨d,rfl⟩:=Nat.exists_eq_add_of_le h
 have h1:(0:Int)<65536^a:=Int.pow_pos (by omega)
 have h2:(0:Int)<65536^d:=Int.pow_pos (by omega)
 have h3:=Int.mul_le_mul_of_nonneg_left (show(1:Int)≤65536^d by omega) (Int.le_of_lt h1)
 rw[Int.mul_one,←Int.pow_add]at h3
 exact h3
theorem aJJ(cl:Bool)(A:List Int)(k:Nat)(hA:gd A)(lA:A.length≤1000000)(hk:k≤100000000):
  Con Tryz.prog 265 cl [.sl A.length (qb A),.v (.int .i64 k)] [] (atE (lim (vl A/2^k).toNat)):=by
 refine Con.of_aw Tryz.func265 rfl Tryz.ntmps265 (by simp) (by simp) (by simp) (W.sound ?_)
 show @W Tryz.prog 52 ⟨_⟩ ⟨fun x σ=>@q9 _ _ _ ⟨_⟩ _ ⟨_⟩ x σ⟩ _ _
 have hvk:vl A/2^k=vl A/65536^(k/16)/2^(k % 16):=by
  rw[Int.ediv_ediv_of_nonneg (Int.le_of_lt (Int.pow_pos (by omega))),abo]
 simp(disch:=omega)only[go_sem]
 refine qg (fun h0=>?_) (fun h0=>?_)
 ·simp(disch:=omega)only[go_sem,h0]
  have hz:vl A/2^k=0:=by
   rw[hvk,Int.ediv_eq_zero_of_lt (zg hA)]
   ·simp
   ·refine Int.lt_of_lt_of_le (ZX hA) ?_
    exact atx (by omega)
  rw[hz]
  refine qh [] [] [] [.v (.slice none 0 0)] rfl (by simp(disch:=omega)only[go_sem]) (by simp(disch:=omega)only[go_sem]) (by simp) (by intro _;simp[zl,AV.pu,AV.pu.puL,Ob.pu,qT]) (.inl ⟨by simp[qt],rfl,rfl⟩)
 ·have e16:((k:Int)/16).toNat=k/16:=by omega
  have e17:((A.length:Int)-(k:Int)/16).toNat=(A.drop (k/16)).length:=by simp;omega
  have e18:(A.drop (k/16)).take (A.drop (k/16)).length=A.drop (k/16):=List.take_length
  have hvD:=ahg hA (i:=k/16) (by omega)
  have hlD:(A.drop (k/16)).length≤1000000:=by simp;omega
  have hD:=y6 hA (k/16)
  simp(disch:=omega)only[go_sem,h0,e16,e17,e18]
  generalize A.drop (k/16)=D at*
  refine⟨by omega,by omega,?_⟩
  refine qi (fun x:Nat×List Int=>[(1,.v (.int .i64 k)),(5,.sl D.length (qb D)),(6,.rf 1 0 x.2.length),(21,.sl D.length (qb D)),(22,.v (.int .i64 D.length)),(23,.v (.int .i64 x.1))])
   (fun x=>[(1,.own 1 (qb x.2))])
   (fun x=>x.1≤D.length∧x.2.length=x.1∧gd x.2∧vl x.2=vl D/2^(k % 16) % 65536^x.1)
   (fun x=>D.length-x.1) (0,[]) ⟨by simp,rfl,JN,by simp[vl]⟩
   (Le.lst [(1,220000000)] _ _ rfl (by simp(disch:=omega)only[go_sem]) (by simp(disch:=omega)only[go_sem])) ?_
  rintro⟨i,out⟩ ⟨hi,hol,hog,hov⟩
  dsimp only at hi hol hog hov ⊢
  simp(disch:=omega)only[go_sem]
  refine qg (fun h1=>?_) (fun h1=>?_)
  ·have hx:=qP hD i
   have hy:=qP hD (i+1)
   have em:min ((k:Int) % 16).toNat 64=k % 16:=by omega
   have hm:=yW (k % 16) (by omega)
   have efd:∀x:Int,x.fdiv (2^(k % 16))=x/2^(k % 16):=fun x=>Int.fdiv_eq_ediv_of_nonneg _ (Int.le_of_lt hm.1)
   have hdig:=anh hD (i:=i) (s:=k % 16) (by omega) (by omega)
   have hnn:∀x:Int,0≤x→0≤x/2^(k % 16):=fun x hx=>Int.ediv_nonneg hx (Int.le_of_lt hm.1)
   have ei:((i:Int)+1).toNat=i+1:=by omega
   have hstep:∀z:Int,z=(D.getD i 0+D.getD (i+1) 0*65536)/2^(k % 16) % 65536→vl (out++[z])=vl D/2^(k % 16) % 65536^(i+1):=by
    intro z hz
    rw[jL,hov,hol,Int.pow_succ,aIe _ _ (Int.pow_pos (by omega)),hdig,hz]
   simp(disch:=omega)only[go_sem,h1]
   refine⟨by omega,by omega,qg (fun h2=>?_) (fun h2=>?_)⟩
   ·have hn1:=hnn (D.getD i 0+D.getD (i+1) 0*65536) (by omega)
    simp(disch:=omega)only[go_sem,h2,em,efd,ei]
    refine⟨by omega,by omega,by omega,by omega,qe (i+1,out++[(D.getD i 0+D.getD (i+1) 0*65536)/2^(k % 16) % 65536]) [(1,500000000)] ⟨by show i+1≤_;omega,by simp[hol],qQ.2 ⟨hog,z8.2 (by omega)⟩,hstep _ rfl⟩ (by show D.length-(i+1)<D.length-i;omega) rfl (by simp(disch:=omega)only[go_sem,List.length_append];try omega) (by simp(disch:=omega)only[go_sem])⟩
   ·have hn1:=hnn (D.getD i 0) (by omega)
    simp(disch:=omega)only[go_sem,h2,em,efd]
    have hy0:D.getD (i+1) 0=0:=by rw[List.getD_eq_getElem?_getD,List.getElem?_eq_none (by omega)];rfl
    refine⟨by omega,by omega,qe (i+1,out++[D.getD i 0/2^(k % 16) % 65536]) [(1,500000000)] ⟨by show i+1≤_;omega,by simp[hol],qQ.2 ⟨hog,z8.2 (by omega)⟩,hstep _ (by rw[hy0];simp)⟩ (by show D.length-(i+1)<D.length-i;omega) rfl (by simp(disch:=omega)only[go_sem,List.length_append];try omega) (by simp(disch:=omega)only[go_sem])⟩
  ·simp(disch:=omega)only[go_sem,h1]
   have hiD:i=D.length:=by omega
   subst hiD
   have hV:vl out=vl A/2^k:=by
    rw[hov,hvk,hvD]
    refine Int.emod_eq_of_lt (Int.ediv_nonneg (zg hD) (Int.le_of_lt (yW (k % 16) (by omega)).1)) ?_
    exact Int.lt_of_le_of_lt (Int.ediv_le_self _ (zg hD)) (ZX hD)
   refine zv false [1] (jE out (by omega)) (by simp(disch:=omega)only[go_sem]) (by simp(disch:=omega)only[go_sem]) rfl (qJ (z:=1) (cs:=qb out) (by simp(disch:=omega)only[go_sem]) (by simp(disch:=omega)only[go_sem])) (by intro n hn;exact⟨_,List.mem_singleton.2 rfl,by rw[List.mem_singleton.1 hn];rfl⟩) ?_
   rintro r hs bs ⟨rfl,rfl,rfl⟩ _
   refine⟨by simp[qC],?_⟩
   simp(disch:=omega)only[go_sem]
   obtain⟨z,hz⟩:=zS out
   have hc:=jm hog
   rw[hV]at hc
   rw[hc]at hz ⊢
   refine qh [(0,1)] [.own 1 (qb out)] [] [.rf 0 0 (lim (vl A/2^k).toNat).length] rfl (by simp(disch:=omega)only[go_sem]) (by simp(disch:=omega)only[go_sem]) (by simp) (by intro _;simp[zl,AV.pu,AV.pu.puL,Ob.pu,qT]) (.inr ⟨List.replicate z 0,rfl,by rw[←hz]⟩)
end Go.Ab
namespace Go.Ab
open Go Go.Proofs
theorem aJC(cl:Bool)(A B:List Int)(hA:gd A)(hB:gd B)(lA:A.length≤2000000)(lB:B.length≤2000000):
  Con Tryz.prog 304 cl [.sl A.length (qb A),.sl B.length (qb B)] [] (atE (lim (vl A+vl B).toNat)):=by
 refine Con.of_aw Tryz.func304 rfl Tryz.ntmps304 (by simp) (by simp) (by simp) (W.sound ?_)
 show @W Tryz.prog 53 ⟨_⟩ ⟨fun x σ=>@q9 _ _ _ ⟨_⟩ _ ⟨_⟩ x σ⟩ _ _
 simp(disch:=omega)only[go_sem]
 refine qg (fun h0=>?_) (fun h0=>?_)
 all_goals simp(disch:=omega)only[go_sem,h0]
 ·revert A B
  intro Y X hY hX lY lX h0'
  have h00:Y.length≤X.length:=by omega
  have hcm:vl Y+vl X=vl X+vl Y:=Int.add_comm _ _
  refine⟨by omega,?_⟩
  refine qi (fun x:Nat×List Int×Int=>[(1,.sl Y.length (qb Y)),(5,.rf 1 0 x.2.1.length),(6,.v (.int .i64 x.2.2)),(20,.sl X.length (qb X)),(21,.v (.int .i64 X.length)),(22,.v (.int .i64 x.1))])
   (fun x=>[(1,.own 1 (qb x.2.1))])
   (fun x=>x.1≤X.length∧x.2.1.length=x.1∧gd x.2.1∧(0≤x.2.2∧x.2.2≤1)∧vl x.2.1+65536^x.1*x.2.2=vl (X.take x.1)+vl (Y.take x.1))
   (fun x=>X.length-x.1) (0,[],0) ⟨by simp,rfl,JN,by simp,by simp[vl]⟩
   (Le.lst [(1,210000000)] _ _ rfl (by simp(disch:=omega)only[go_sem]) (by simp(disch:=omega)only[go_sem])) ?_
  rintro⟨i,out,cy⟩ ⟨hi,hol,hog,hcy,hov⟩
  dsimp only at hi hol hog hcy hov ⊢
  simp(disch:=omega)only[go_sem]
  refine qg (fun h1=>?_) (fun h1=>?_)
  ·have hx:=qP hX i
   have hy:=qP hY i
   have hstep:∀q:Int,q=cy+X.getD i 0+Y.getD i 0→vl (out++[q % 65536])+65536^(i+1)*(q/65536)=vl (X.take (i+1))+vl (Y.take (i+1)):=by
    intro q hq
    rw[jL,qY,qY,hol,Int.pow_succ]
    have e3:q % 65536+65536*(q/65536)=q:=Int.emod_add_mul_ediv q 65536
    generalize (65536:Int)^i=Pi at*
    grind
   have hyz:¬i<Y.length→Y.getD i 0=0:=fun h=>by rw[List.getD_eq_getElem?_getD,List.getElem?_eq_none (by omega)];rfl
   simp(disch:=omega)only[go_sem,h1]
   refine⟨by omega,by omega,qg (fun h2=>?_) (fun h2=>?_)⟩
   ·simp(disch:=omega)only[go_sem,h2]
    generalize hq:cy+X.getD i 0+Y.getD i 0=q
    refine⟨by omega,by omega,by omega,qe (i+1,out++[q % 65536],q/65536) [(1,460000000)] ⟨by show i+1≤_;omega,by simp[hol],qQ.2 ⟨hog,z8.2 (by omega)⟩,by show 0≤q/65536∧q/65536≤1;omega,hstep q hq.symm⟩ (by show X.length-(i+1)<X.length-i;omega) rfl (by simp(disch:=omega)only[go_sem,List.length_append];try omega) (by simp(disch:=omega)only[go_sem])⟩
   ·simp(disch:=omega)only[go_sem,h2]
    have hy0:=hyz (by omega)
    generalize hq:cy+X.getD i 0=q
    refine⟨by omega,qe (i+1,out++[q % 65536],q/65536) [(1,460000000)] ⟨by show i+1≤_;omega,by simp[hol],qQ.2 ⟨hog,z8.2 (by omega)⟩,by show 0≤q/65536∧q/65536≤1;omega,hstep q (by omega)⟩ (by show X.length-(i+1)<X.length-i;omega) rfl (by simp(disch:=omega)only[go_sem,List.length_append];try omega) (by simp(disch:=omega)only[go_sem])⟩
  ·simp(disch:=omega)only[go_sem,h1]
   have hiA:i=X.length:=by omega
   subst hiA
   rw[List.take_length,List.take_of_length_le h00]at hov
   have hov2:vl (out++[cy])=vl X+vl Y:=by rw[jL,hol];exact hov
   have hog2:gd (out++[cy]):=qQ.2 ⟨hog,z8.2 (by omega)⟩
   refine⟨by omega,?_⟩
   have hl2:out.length+1=(out++[cy]).length:=by simp
   rw[hl2]
   refine zv false [530000000] (jE (out++[cy]) (by simp;omega)) (by simp(disch:=omega)only[go_sem]) (by simp(disch:=omega)only[go_sem]) rfl (qJ (z:=1) (cs:=qb (out++[cy])) (by simp(disch:=omega)only[go_sem]) (by simp(disch:=omega)only[go_sem])) (by intro n hn;exact⟨_,List.mem_singleton.2 rfl,by rw[List.mem_singleton.1 hn];rfl⟩) ?_
   rintro r hs bs ⟨rfl,rfl,rfl⟩ _
   refine⟨by simp[qC],?_⟩
   simp(disch:=omega)only[go_sem]
   obtain⟨z,hz⟩:=zS (out++[cy])
   have hc:=jm hog2
   rw[hov2]at hc
   rw[hc]at hz ⊢
   refine qh [(0,530000000)] [.own 1 (qb (out++[cy]))] [] [.rf 0 0 (lim (vl X+vl Y).toNat).length] rfl (by simp(disch:=omega)only[go_sem]) (by simp(disch:=omega)only[go_sem]) (by simp) (by intro _;simp[zl,AV.pu,AV.pu.puL,Ob.pu,qT]) (.inr ⟨List.replicate z 0,by rw[hcm];rfl,by rw[hcm,←hz]⟩)
 ·revert A B
  intro X Y hX hY lX lY h0'
  have h00:Y.length≤X.length:=by omega
  have hcm:vl X+vl Y=vl X+vl Y:=rfl
  refine⟨by omega,?_⟩
  refine qi (fun x:Nat×List Int×Int=>[(1,.sl Y.length (qb Y)),(5,.rf 1 0 x.2.1.length),(6,.v (.int .i64 x.2.2)),(20,.sl X.length (qb X)),(21,.v (.int .i64 X.length)),(22,.v (.int .i64 x.1))])
   (fun x=>[(1,.own 1 (qb x.2.1))])
   (fun x=>x.1≤X.length∧x.2.1.length=x.1∧gd x.2.1∧(0≤x.2.2∧x.2.2≤1)∧vl x.2.1+65536^x.1*x.2.2=vl (X.take x.1)+vl (Y.take x.1))
   (fun x=>X.length-x.1) (0,[],0) ⟨by simp,rfl,JN,by simp,by simp[vl]⟩
   (Le.lst [(1,210000000)] _ _ rfl (by simp(disch:=omega)only[go_sem]) (by simp(disch:=omega)only[go_sem])) ?_
  rintro⟨i,out,cy⟩ ⟨hi,hol,hog,hcy,hov⟩
  dsimp only at hi hol hog hcy hov ⊢
  simp(disch:=omega)only[go_sem]
  refine qg (fun h1=>?_) (fun h1=>?_)
  ·have hx:=qP hX i
   have hy:=qP hY i
   have hstep:∀q:Int,q=cy+X.getD i 0+Y.getD i 0→vl (out++[q % 65536])+65536^(i+1)*(q/65536)=vl (X.take (i+1))+vl (Y.take (i+1)):=by
    intro q hq
    rw[jL,qY,qY,hol,Int.pow_succ]
    have e3:q % 65536+65536*(q/65536)=q:=Int.emod_add_mul_ediv q 65536
    generalize (65536:Int)^i=Pi at*
    grind
   have hyz:¬i<Y.length→Y.getD i 0=0:=fun h=>by rw[List.getD_eq_getElem?_getD,List.getElem?_eq_none (by omega)];rfl
   simp(disch:=omega)only[go_sem,h1]
   refine⟨by omega,by omega,qg (fun h2=>?_) (fun h2=>?_)⟩
   ·simp(disch:=omega)only[go_sem,h2]
    generalize hq:cy+X.getD i 0+Y.getD i 0=q
    refine⟨by omega,by omega,by omega,qe (i+1,out++[q % 65536],q/65536) [(1,460000000)] ⟨by show i+1≤_;omega,by simp[hol],qQ.2 ⟨hog,z8.2 (by omega)⟩,by show 0≤q/65536∧q/65536≤1;omega,hstep q hq.symm⟩ (by show X.length-(i+1)<X.length-i;omega) rfl (by simp(disch:=omega)only[go_sem,List.length_append];try omega) (by simp(disch:=omega)only[go_sem])⟩
   ·simp(disch:=omega)only[go_sem,h2]
    have hy0:=hyz (by omega)
    generalize hq:cy+X.getD i 0=q
    refine⟨by omega,qe (i+1,out++[q % 65536],q/65536) [(1,460000000)] ⟨by show i+1≤_;omega,by simp[hol],qQ.2 ⟨hog,z8.2 (by omega)⟩,by show 0≤q/65536∧q/65536≤1;omega,hstep q (by omega)⟩ (by show X.length-(i+1)<X.length-i;omega) rfl (by simp(disch:=omega)only[go_sem,List.length_append];try omega) (by simp(disch:=omega)only[go_sem])⟩
  ·simp(disch:=omega)only[go_sem,h1]
   have hiA:i=X.length:=by omega
   subst hiA
   rw[List.take_length,List.take_of_length_le h00]at hov
   have hov2:vl (out++[cy])=vl X+vl Y:=by rw[jL,hol];exact hov
   have hog2:gd (out++[cy]):=qQ.2 ⟨hog,z8.2 (by omega)⟩
   refine⟨by omega,?_⟩
   have hl2:out.length+1=(out++[cy]).length:=by simp
   rw[hl2]
   refine zv false [530000000] (jE (out++[cy]) (by simp;omega)) (by simp(disch:=omega)only[go_sem]) (by simp(disch:=omega)only[go_sem]) rfl (qJ (z:=1) (cs:=qb (out++[cy])) (by simp(disch:=omega)only[go_sem]) (by simp(disch:=omega)only[go_sem])) (by intro n hn;exact⟨_,List.mem_singleton.2 rfl,by rw[List.mem_singleton.1 hn];rfl⟩) ?_
   rintro r hs bs ⟨rfl,rfl,rfl⟩ _
   refine⟨by simp[qC],?_⟩
   simp(disch:=omega)only[go_sem]
   obtain⟨z,hz⟩:=zS (out++[cy])
   have hc:=jm hog2
   rw[hov2]at hc
   rw[hc]at hz ⊢
   refine qh [(0,530000000)] [.own 1 (qb (out++[cy]))] [] [.rf 0 0 (lim (vl X+vl Y).toNat).length] rfl (by simp(disch:=omega)only[go_sem]) (by simp(disch:=omega)only[go_sem]) (by simp) (by intro _;simp[zl,AV.pu,AV.pu.puL,Ob.pu,qT]) (.inr ⟨List.replicate z 0,by rw[hcm];rfl,by rw[hcm,←hz]⟩)
end Go.Ab
namespace Go.Ab
open Go Go.Proofs
theorem avH(cl:Bool)(xs:List Int)(hl:xs.length≤2^39):Con Tryz.prog 307 cl [.sl xs.length (qb xs)] [] (atE xs):=by
 refine Con.of_aw Tryz.func307 rfl Tryz.ntmps307 (by simp) (by simp) (by simp) (W.sound ?_)
 show @W Tryz.prog 8 ⟨_⟩ ⟨fun x σ=>@q9 _ _ _ ⟨_⟩ _ ⟨_⟩ x σ⟩ _ _
 simp(disch:=omega)only[go_sem]
 refine⟨fun h0=>?_,?_⟩
 ·have:xs=[]:=by cases xs with|nil=>rfl|cons a r=>cases h0
  subst this
  refine qh [] [] [] [.v (.slice none 0 0)] rfl (by simp(disch:=omega)only[go_sem]) (by simp(disch:=omega)only[go_sem]) (by simp) (by intro _;simp[zl,AV.pu]) (.inl ⟨rfl,rfl,rfl⟩)
 ·refine⟨by omega,?_⟩
  refine qh [(0,90000000)] [.own 1 (qb xs)] [] [.rf 0 0 xs.length] rfl (by simp(disch:=omega)only[go_sem]) (by simp(disch:=omega)only[go_sem]) (by simp) (by intro _;simp[zl,AV.pu,Ob.pu,qT]) (.inr ⟨[],rfl,by rw[List.append_nil]⟩)
end Go.Ab
namespace Go.Ab
open Go Go.Proofs
theorem acp(x:Int):Con Tryz.prog 317 true [.v (.int .i64 x)] [] (isA (.v (.bool false))):=by
 refine Con.of_w (rs:=[.tmp 2]) Tryz.func317 rfl Tryz.ntmps317 rfl ?_
 simp(disch:=omega)only[go_sem]
 exact qu
theorem avG(x y:Int):Con Tryz.prog 294 true [.v (.int .i64 x),.v (.int .i64 y)] [] (isA (.v (.int .i64 (zy x y)))):=by
 refine Con.of_w (rs:=[.tmp 4]) Tryz.func294 rfl Tryz.ntmps294 rfl ?_
 simp(disch:=omega)only[go_sem]
 refine qj (acp x) ?_
 simp(disch:=omega)only[go_sem]
 refine qj (acp y) ?_
 simp(disch:=omega)only[go_sem]
 refine qg (fun h1=>?_) (fun h1=>?_)
 ·simp(disch:=omega)only[go_sem,h1]
  rw[show zy x y= -1 by simp[zy,h1]]
  exact qu
 ·simp(disch:=omega)only[go_sem,h1]
  refine qg (fun h2=>?_) (fun h2=>?_)
  ·simp(disch:=omega)only[go_sem,h2]
   rw[show zy x y=1 by simp[zy,h1,h2]]
   exact qu
  ·simp(disch:=omega)only[go_sem,h2]
   rw[show zy x y=0 by simp[zy,h1,h2]]
   exact qu
theorem jj(a b:Nat)(la:(lim a).length≤2^40)(lb:(lim b).length≤2^40):
  Con Tryz.prog 247 true [.sl (lim (a)).length (qb (lim (a))),.sl (lim (b)).length (qb (lim (b)))] [] (isA (.v (.int .i64 (zy a b)))):=by
 refine Con.of_w (rs:=[.tmp 4]) Tryz.func247 rfl Tryz.ntmps247 rfl ?_
 simp(disch:=omega)only[go_sem]
 refine z7 (fun h1=>?_) (fun h1=>?_)
 ·simp(disch:=omega)only[go_sem,h1]
  refine qj (avG (lim a).length (lim b).length) ?_
  simp(disch:=omega)only[go_sem]
  have:zy ((lim a).length:Int) ((lim b).length:Int)=zy a b:=by
   unfold zy
   rcases(by omega:(lim a).length<(lim b).length∨(lim b).length<(lim a).length)with h|h
   ·have:=Q2 h
    rw[if_pos (by omega),if_pos (by omega)]
   ·have:=Q2 h
    rw[if_neg (by omega),if_pos (by omega),if_neg (by omega),if_pos (by omega)]
  rw[this]
  exact qu
 ·simp(disch:=omega)only[go_sem,h1]
  have hl:(lim a).length=(lim b).length:=by omega
  refine qi (fun k:Nat=>[(0,.sl (lim (a)).length (qb (lim (a)))),(1,.sl (lim (b)).length (qb (lim (b)))),(5,.v (.int .i64 ((k:Int)-1)))])
   (fun _=>[]) (fun k=>k≤(lim a).length∧(lim a).drop k=(lim b).drop k) (fun k=>k) (lim a).length ⟨Nat.le_refl _,by rw[List.drop_length,hl,List.drop_length]⟩ (Le.lst [] _ _ rfl (by simp(disch:=omega)only[go_sem];try omega) (by simp(disch:=omega)only[go_sem])) ?_
  rintro k ⟨hk,hd⟩
  simp(disch:=omega)only[go_sem]
  refine qg (fun h2=>?_) (fun h2=>?_)
  ·obtain⟨i,rfl⟩:∃i,k=i+1:=⟨k-1,by omega⟩
   have ei:((i+1:Nat):Int)-1=(i:Nat):=by omega
   simp(disch:=omega)only[go_sem,h2,ei]
   refine qo rfl [⟨0,[],[]⟩,⟨1,[],[]⟩,⟨2,[],[]⟩,⟨3,[],[]⟩,⟨4,[3],[]⟩,⟨5,[3],[]⟩,⟨6,[3],[]⟩,⟨7,[3],[]⟩,⟨8,[],[]⟩] (by kernel_rfl) ?_
   simp(disch:=omega)only[go_sem,ei]
   refine⟨by omega,by omega,by omega,by omega,?_⟩
   refine z7 (fun h3=>?_) (fun h3=>?_)
   ·simp(disch:=omega)only[go_sem,h3]
    refine qo rfl [⟨0,[],[]⟩,⟨1,[],[]⟩,⟨2,[],[]⟩,⟨3,[],[]⟩,⟨4,[3],[]⟩,⟨5,[3],[]⟩,⟨6,[3],[]⟩,⟨7,[3],[]⟩,⟨8,[],[]⟩,⟨9,[],[]⟩] (by kernel_rfl) ?_
    simp(disch:=omega)only[go_sem,ei]
    refine⟨by omega,by omega,by omega,by omega,?_⟩
    refine qj (avG ((lim a).getD i 0) ((lim b).getD i 0)) ?_
    simp(disch:=omega)only[go_sem]
    have hva:=q6 a
    have hvb:=q6 b
    have:zy ((lim a).getD i 0) ((lim b).getD i 0)=zy a b:=by
     unfold zy
     rcases(by omega:(lim a).getD i 0<(lim b).getD i 0∨(lim b).getD i 0<(lim a).getD i 0)with h|h
     ·have:=Z7 (zd a) (zd b) (by omega) hl hd h
      rw[if_pos (by omega),if_pos (by omega)]
     ·have:=Z7 (zd b) (zd a) (by omega) hl.symm hd.symm h
      rw[if_neg (by omega),if_pos (by omega),if_neg (by omega),if_pos (by omega)]
    rw[this]
    exact qu
   ·simp(disch:=omega)only[go_sem,h3]
    refine qe i [] ⟨by omega,?_⟩ (by show i<i+1;omega) rfl (by simp(disch:=omega)only[go_sem];try omega) (by simp(disch:=omega)only[go_sem])
    rw[y8 (l:=lim a) (by omega),y8 (l:=lim b) (by omega),h3,hd]
  ·simp(disch:=omega)only[go_sem,h2]
   have:k=0:=by omega
   subst this
   rw[List.drop_zero,List.drop_zero]at hd
   have:=Xv hd
   subst this
   rw[show zy (a:Int) (a:Int)=0 by simp[zy]]
   exact qu
end Go.Ab
namespace Go.Proofs
open Go.Shelf
def Tryz.lays29_ren:Go.Shelf.Ren:=⟨fun|29=>323|n=>n,fun|0=>0|3=>3|4=>4|5=>5|22=>277|25=>264|54=>285|n=>n,fun|1=>1|n=>n⟩
theorem Tryz.lays29:Go.Proofs.Lays7.n29 Tryz.prog Tryz.lays29_ren:={
 mixed:=by kernel_rfl
 f29:=Tryz.func323.trans (congrArg some (by kernel_rfl))
 t0:=Tryz.underlying0
 a0:=Tryz.isAgg0
 z0:=Tryz.sizeOf0
 v0:=Tryz.zeroValue0
 i0:=by kernel_rfl
 t3:=Tryz.underlying3
 a3:=Tryz.isAgg3
 z3:=Tryz.sizeOf3
 v3:=Tryz.zeroValue3
 i3:=by kernel_rfl
 t4:=Tryz.underlying4
 a4:=Tryz.isAgg4
 z4:=Tryz.sizeOf4
 v4:=Tryz.zeroValue4
 i4:=by kernel_rfl
 t5:=Tryz.underlying5
 a5:=Tryz.isAgg5
 z5:=Tryz.sizeOf5
 v5:=Tryz.zeroValue5
 i5:=by kernel_rfl
 t22:=Tryz.underlying277
 a22:=Tryz.isAgg277
 z22:=Tryz.sizeOf277
 v22:=Tryz.zeroValue277
 i22:=by kernel_rfl
 t25:=Tryz.underlying264
 a25:=Tryz.isAgg264
 z25:=Tryz.sizeOf264
 v25:=Tryz.zeroValue264
 i25:=by kernel_rfl
 t54:=Tryz.underlying285
 a54:=Tryz.isAgg285
 z54:=Tryz.sizeOf285
 g1:=by kernel_rfl}
def Tryz.lays129_ren:Go.Shelf.Ren:=⟨fun|129=>316|n=>n,fun|53=>277|46=>264|3=>3|4=>4|5=>5|9=>9|n=>n,fun|n=>n⟩
theorem Tryz.lays129:Go.Proofs.Lays.n129 Tryz.prog Tryz.lays129_ren:={
 mixed:=by kernel_rfl
 f129:=Tryz.func316.trans (congrArg some (by kernel_rfl))
 t3:=Tryz.underlying3
 a3:=Tryz.isAgg3
 z3:=Tryz.sizeOf3
 v3:=Tryz.zeroValue3
 t4:=Tryz.underlying4
 a4:=Tryz.isAgg4
 z4:=Tryz.sizeOf4
 v4:=Tryz.zeroValue4
 t5:=Tryz.underlying5
 a5:=Tryz.isAgg5
 z5:=Tryz.sizeOf5
 v5:=Tryz.zeroValue5
 t9:=Tryz.underlying9
 a9:=Tryz.isAgg9
 z9:=Tryz.sizeOf9
 v9:=Tryz.zeroValue9
 t46:=Tryz.underlying264
 a46:=Tryz.isAgg264
 z46:=Tryz.sizeOf264
 v46:=Tryz.zeroValue264
 t53:=Tryz.underlying277
 a53:=Tryz.isAgg277
 z53:=Tryz.sizeOf277
 v53:=Tryz.zeroValue277}
end Go.Proofs
namespace Go.Ab
open Go Go.Proofs
theorem bbZ(x:Nat)(h0:x≠0)(h:x<2^64):Lib.ctz 64 x=tz x:=by
 unfold Lib.ctz
 rw[if_neg h0]
 obtain⟨m,hm,_⟩:=Lib.ctzFrom_spec 64 x (by omega) h
 exact(Jh hm).symm
theorem av1(x:Nat)(h:x<2^64):Lib.bitLen x=bl x:=by
 induction x using Nat.strongRecOn with
 |_ x ih=>
  by_cases h0:x=0
  ·subst h0;rfl
  ·rw[Lib.bitLen_half x h0 h,ih (x/2) (by omega) (by omega),aL8 h0,Nat.add_comm]
theorem aJz(x:Nat)(h0:x≠0)(h:x<2^64):Con Tryz.prog 323 true [.v (.int .u64 x)] [] (isA (.v (.int .i64 (tz x)))):=
 Con.scalar (xs:=[.int .u64 x]) fun w hg=>by
  rw[←bbZ x h0 h]
  exact Any7.bits_TrailingZeros64 Tryz.lays29 x h w fun _ j hj=>(hg 1 Lib.deBruijn64tab rfl).2 j hj
theorem avi(x:Nat)(h:x<2^64):Con Tryz.prog 316 true [.v (.int .u64 x)] [] (isA (.v (.int .i64 (bl x)))):=
 Con.scalar (xs:=[.int .u64 x]) fun w hg=>by
  rw[←av1 x h]
  exact Any.bits_Len64 Tryz.lays129 x w (by omega) (by omega)
theorem bb6(x:Nat)(h0:x≠0)(h:x<2^64):Con Tryz.prog 306 true [.v (.int .u64 x)] [] (isA (.v (.int .i64 (tz x)))):=by
 refine Con.of_w (rs:=[.tmp 2]) Tryz.func306 rfl Tryz.ntmps306 rfl ?_
 simp(disch:=omega)only[go_sem]
 refine qj (aJz x h0 h) ?_
 simp(disch:=omega)only[go_sem]
 exact qu
theorem avj(x:Nat)(h:x<2^64):Con Tryz.prog 293 true [.v (.int .u64 x)] [] (isA (.v (.int .i64 (bl x)))):=by
 refine Con.of_w (rs:=[.tmp 2]) Tryz.func293 rfl Tryz.ntmps293 rfl ?_
 simp(disch:=omega)only[go_sem]
 refine qj (avi x h) ?_
 simp(disch:=omega)only[go_sem]
 exact qu
theorem an8{x:Int}(h1:0≤x)(h2:x<9223372036854775808):IntKind.u64.wrap x=x:=by
 simp only[IntKind.wrap,IntKind.signed,IntKind.bits]
 simp only[Bool.false_and,Bool.false_eq_true,if_false]
 omega
theorem anI(m:Nat)(hl:(lim m).length≤2^40):Con Tryz.prog 246 true [.sl (lim (m)).length (qb (lim (m)))] [] (isA (.v (.int .i64 (bl m)))):=by
 refine Con.of_w (rs:=[.tmp 2]) Tryz.func246 rfl Tryz.ntmps246 rfl ?_
 simp(disch:=omega)only[go_sem]
 refine qg (fun h1=>?_) (fun h1=>?_)
 ·simp(disch:=omega)only[go_sem,h1]
  have:m=0:=qG.1 (List.length_eq_zero_iff.1 (by omega))
  subst this
  rw[Qe]
  exact qu
 ·have hm:m≠0:=fun e=>by rw[e,qt]at h1;simp at h1
  have e1:((lim m).length:Int).toNat-1=(lim m).length-1:=by omega
  have e2:(((lim m).length:Int)-1).toNat=(lim m).length-1:=by omega
  have ht:=JI hm
  have hb:=avZ hm
  simp(disch:=omega)only[go_sem,h1,e2,zY]
  generalize m/65536^((lim m).length-1)=q at*
  have e3:((q % 65536:Nat):Int)=(q:Int):=by omega
  simp(disch:=omega)only[go_sem,e3,an8]
  refine⟨by omega,by omega,?_⟩
  refine qj (avj q (by omega)) ?_
  simp(disch:=omega)only[go_sem]
  have hq:bl q≤16:=qX.2 (by omega)
  have e4:(16:Int)*(((lim m).length:Int)-1)+(bl q:Int)=(bl m:Int):=by omega
  simp(disch:=omega)only[go_sem,e4]
  exact qu
theorem aMh{m i:Nat}(hz:∀j,j<i→(lim m).getD j 0=0)(hx:(lim m).getD i 0≠0):tz m=16*i+tz (m/65536^i % 65536):=by
 rw[zY]at hx
 have hx':m/65536^i % 65536≠0:=fun e=>hx (by rw[e];rfl)
 obtain⟨a,ha⟩:=Y8 hx'
 have hlow:65536^i*(m/65536^i)=m:=by
  have key:∀k,k≤i→m % 65536^k=0:=by
   intro k
   induction k with
   |zero=>intro _;simp[Nat.mod_one]
   |succ k ih=>
    intro hk
    have h1:=ih (by omega)
    have h2:=hz k (by omega)
    rw[zY]at h2
    have h3:m/65536^k % 65536=0:=by omega
    rw[Nat.pow_succ,Nat.mod_mul,h1,h3];omega
  have:=Nat.div_add_mod m (65536^i)
  rw[key i (Nat.le_refl _)]at this
  omega
 generalize hq:m/65536^i=q at*
 have ht:tz (q % 65536)<16:=by
  have h1:=yt hx'
  have:bl (q % 65536)≤16:=qX.2 (by omega)
  omega
 generalize hk:tz (q % 65536)=k at*
 have e16:(65536:Nat)=2^k*(2*2^(15-k)):=by rw[Nat.mul_left_comm,←Nat.pow_add,show k+(15-k)=15 by omega]
 refine Jh (a:=a+2^(15-k)*(q/65536)) ?_
 have hd:=Nat.div_add_mod q 65536
 rw[←hlow,Nat.pow_add,←Jz]
 have h5:q=2^k*(2*(a+2^(15-k)*(q/65536))+1):=by
  have:q=2^k*(2*2^(15-k))*(q/65536)+2^k*(2*a+1):=by rw[←e16,←ha];omega
  generalize q/65536=y at*
  generalize 2^(15-k)=z at*
  grind
 generalize q/65536=y at*
 rw[Nat.mul_assoc,←h5]
theorem agx(m:Nat)(hl:(lim m).length≤2^40):Con Tryz.prog 264 true [.sl (lim (m)).length (qb (lim (m)))] [] (isA (.v (.int .i64 (tz m)))):=by
 refine Con.of_w (rs:=[.tmp 2]) Tryz.func264 rfl Tryz.ntmps264 rfl ?_
 simp(disch:=omega)only[go_sem]
 refine qi (fun i:Nat=>[(0,.sl (lim (m)).length (qb (lim (m)))),(5,.sl (lim (m)).length (qb (lim (m)))),(6,.v (.int .i64 (lim m).length)),(7,.v (.int .i64 i))])
  (fun _=>[]) (fun i=>i≤(lim m).length∧∀j,j<i→(lim m).getD j 0=0) (fun i=>(lim m).length-i) 0 ⟨by omega,fun j hj=>by omega⟩ (Le.lst [] _ _ rfl (by simp(disch:=omega)only[go_sem];try omega) (by simp(disch:=omega)only[go_sem])) ?_
 rintro i ⟨hi,hz⟩
 simp(disch:=omega)only[go_sem]
 refine qg (fun h1=>?_) (fun h1=>?_)
 ·simp(disch:=omega)only[go_sem,h1]
  refine⟨by omega,by omega,z7 (fun h2=>?_) (fun h2=>?_)⟩
  ·have ht:=aMh hz h2
   have hx:m/65536^i % 65536≠0:=fun e=>h2 (by rw[zY,e];rfl)
   have ht16:tz (m/65536^i % 65536)<16:=by
    have h1:=yt hx
    have:bl (m/65536^i % 65536)≤16:=qX.2 (by omega)
    omega
   simp(disch:=omega)only[go_sem,h2,zY]
   generalize hq:m/65536^i % 65536=q at*
   have hq6:q<65536:=by omega
   simp(disch:=omega)only[go_sem,an8]
   refine qj (bb6 q hx (by omega)) ?_
   simp(disch:=omega)only[go_sem]
   have e4:(16:Int)*(i:Int)+(tz q:Int)=(tz m:Int):=by omega
   simp(disch:=omega)only[go_sem,e4]
   exact qu
  ·simp(disch:=omega)only[go_sem,h2]
   refine qe (i+1) [] ⟨by omega,fun j hj=>?_⟩ (by show(lim m).length-(i+1)<(lim m).length-i;omega) rfl (by simp(disch:=omega)only[go_sem];try omega) (by simp(disch:=omega)only[go_sem])
   rcases(by omega:j<i∨j=i)with h|h
   ·exact hz j h
   ·subst h;exact h2
 ·simp(disch:=omega)only[go_sem,h1]
  have hm:m=0:=by
   have:=q6 m
   have h3:lim m=List.replicate (lim m).length 0:=by
    apply List.ext_getElem
    ·simp
    ·intro j h1 h2
     have:=hz j (by omega)
     rw[List.getD_eq_getElem?_getD,List.getElem?_eq_getElem h1]at this
     simpa using this
   rw[h3,zV]at this
   omega
  subst hm
  rw[aod]
  exact qu
theorem acw(m:Nat)(i:Int)(hl:(lim m).length≤2^40)(hi:0≤i)(hi2:i<2^62):Con Tryz.prog 166 true [.sl (lim (m)).length (qb (lim (m))),.v (.int .i64 i)] [] (isA (.v (.int .i64 ((m/2^i.toNat % 2:Nat):Int)))):=by
 refine Con.of_w (rs:=[.tmp 4]) Tryz.func166 rfl Tryz.ntmps166 rfl ?_
 obtain⟨k,rfl⟩:=Int.eq_ofNat_of_zero_le hi
 rw[Int.toNat_natCast]
 have h0:¬((k:Int)<0):=by omega
 have e16:((k:Int)/16).toNat=k/16:=by omega
 have em:min ((k:Int) % 16).toNat 64=k % 16:=by omega
 have hb:=av0 m k
 simp(disch:=omega)only[go_sem,h0]
 refine qg (fun h1=>?_) (fun h1=>?_)
 ·simp(disch:=omega)only[go_sem,h1]
  have:m/2^k % 2=0:=by
   rw[←hb]
   have h2:=zY m (k/16)
   rw[List.getD_eq_getElem?_getD,List.getElem?_eq_none (by omega)]at h2
   have h3:m/65536^(k/16) % 65536=0:=by simp only[Option.getD_none]at h2;omega
   rw[h3];simp
  rw[this]
  exact qu
 ·have hx:=qP (zd m) (k/16)
  have hp:(0:Int)<2^(k % 16):=Int.pow_pos (by omega)
  have efd:∀x:Int,x.fdiv (2^(k % 16))=x/2^(k % 16):=fun x=>Int.fdiv_eq_ediv_of_nonneg _ (Int.le_of_lt hp)
  have hq:0≤(lim m).getD (k/16) 0/2^(k % 16)∧(lim m).getD (k/16) 0/2^(k % 16)<65536:=by
   refine⟨Int.ediv_nonneg hx.1 (Int.le_of_lt hp),Int.lt_of_le_of_lt (Int.ediv_le_self _ hx.1) hx.2⟩
  have hr:(lim m).getD (k/16) 0/2^(k % 16) % 2=((m/2^k % 2:Nat):Int):=by
   rw[←hb,zY]
   generalize m/65536^(k/16) % 65536=x
   rw[Int.natCast_emod,Int.natCast_ediv,Int.natCast_pow];rfl
  simp(disch:=omega)only[go_sem,h1,e16,em,efd,hr]
  refine⟨by omega,by omega,by omega,?_⟩
  exact qu
end Go.Ab
namespace Go.Ab
open Go Go.Proofs
theorem acL(a k:Nat):(vl (lim a)*2^k).toNat=a*2^k:=by
 rw[q6]
 have:((a:Int)*2^k)=((a*2^k:Nat):Int):=by rw[Int.natCast_mul,Int.natCast_pow];rfl
 rw[this,Int.toNat_natCast]
theorem acM(a k:Nat):(vl (lim a)/2^k).toNat=a/2^k:=by
 rw[q6]
 have:((a:Int)/2^k)=((a/2^k:Nat):Int):=by rw[Int.natCast_ediv,Int.natCast_pow];rfl
 rw[this,Int.toNat_natCast]
theorem aMl(a b:Nat):(vl (lim a)*vl (lim b)).toNat=a*b:=by rw[q6,q6,←Int.natCast_mul,Int.toNat_natCast]
theorem aMm(a b:Nat):(vl (lim a)+vl (lim b)).toNat=a+b:=by rw[q6,q6];omega
theorem aMk(a b:Nat):(vl (lim a)-vl (lim b)).toNat=a-b:=by rw[q6,q6];omega
theorem zM(n:Nat)(hn:n<2^63):Con Tryz.prog 157 false [.v (.int .i64 n)] [] (aRw (lim n)):=(avb false n hn).num
theorem au4(cl:Bool)(a k:Nat)(la:(lim a).length≤1000000)(hk:k≤100000000):Con Tryz.prog 248 cl [.sl (lim (a)).length (qb (lim (a))),.v (.int .i64 k)] [] (atE (lim (a*2^k))):=by
 have:=bb5 cl (lim a) k (zd a) la hk
 rwa[acL]at this
theorem ja(a k:Nat)(la:(lim a).length≤1000000)(hk:k≤100000000):Con Tryz.prog 248 false [.sl (lim (a)).length (qb (lim (a))),.v (.int .i64 k)] [] (aRw (lim (a*2^k))):=(au4 false a k la hk).num
theorem act(cl:Bool)(a k:Nat)(la:(lim a).length≤1000000)(hk:k≤100000000):Con Tryz.prog 265 cl [.sl (lim (a)).length (qb (lim (a))),.v (.int .i64 k)] [] (atE (lim (a/2^k))):=by
 have:=aJJ cl (lim a) k (zd a) la hk
 rwa[acM]at this
theorem avE(a k:Nat)(la:(lim a).length≤1000000)(hk:k≤100000000):Con Tryz.prog 265 false [.sl (lim (a)).length (qb (lim (a))),.v (.int .i64 k)] [] (aRw (lim (a/2^k))):=(act false a k la hk).num
theorem YM(a b:Nat)(la:(lim a).length≤1000000)(lb:(lim b).length≤1000000):Con Tryz.prog 252 false [.sl (lim (a)).length (qb (lim (a))),.sl (lim (b)).length (qb (lim (b)))] [] (aRw (lim (a*b))):=by
 have:=(au7 false (lim a) (lim b) (zd a) (zd b) la lb).num
 rwa[aMl]at this
theorem ab7(a b:Nat)(la:(lim a).length≤2000000)(lb:(lim b).length≤2000000):Con Tryz.prog 304 false [.sl (lim (a)).length (qb (lim (a))),.sl (lim (b)).length (qb (lim (b)))] [] (aRw (lim (a+b))):=by
 have:=(aJC false (lim a) (lim b) (zd a) (zd b) la lb).num
 rwa[aMm]at this
theorem avF(a d:Nat)(la:(lim a).length≤1000000)(hd:0<d)(hd2:d<65536):
  Con Tryz.prog 328 false [.sl (lim (a)).length (qb (lim (a))),.v (.int .i64 d)] [] (isA (.tu [.sl (lim (a/d)).length (qb (lim (a/d))),.v (.int .i64 ((a % d:Nat):Int))])):=
 Con.frzA <| (aJK false (lim a) d (zd a) la hd hd2).mono fun r hs bs ⟨zs,h1,h2⟩=>by
  rw[q6]at h1 h2
  rw[h1,h2]
  have e:((a:Int)/(d:Int)).toNat=a/d:=by
   rw[←Int.natCast_ediv,Int.toNat_natCast]
  rw[e]
  show qM _ 6 _=_
  unfold qM
  simp only[List.map_cons,List.map_nil]
  rw[zX (k:=3) (l:=lim (a/d)) (zs:=zs) qU rfl]
  rw[Int.natCast_emod];rfl
end Go.Ab
namespace Go.Ab
open Go Go.Proofs
set_option maxRecDepth 100000 in
theorem anG(a b:Nat)(hb:b≠0)(la:(lim a).length≤900000)(lb:(lim b).length≤900000):
  Con Tryz.prog 324 false [.sl (lim (a)).length (qb (lim (a))),.sl (lim (b)).length (qb (lim (b)))] [] (aXN (.tu [.sl (lim (a/b)).length (qb (lim (a/b))),.sl (lim (a % b)).length (qb (lim (a % b)))])):=by
 refine Con.of_aw Tryz.func324 rfl Tryz.ntmps324 (by simp) (by simp) (by simp) (W.sound ?_)
 show @W Tryz.prog 96 ⟨_⟩ ⟨fun x σ=>@q9 _ _ _ ⟨_⟩ _ ⟨_⟩ x σ⟩ _ _
 simp(disch:=omega)only[go_sem]
 refine qB (jj a b (by omega) (by omega)) (by simp(disch:=omega)only[go_sem]) ?_
 rintro r hs ⟨rfl,rfl,_⟩
 refine⟨by simp[qC],?_⟩
 simp(disch:=omega)only[go_sem]
 refine qg (fun h1=>?_) (fun h1=>?_)
 ·simp(disch:=omega)only[go_sem,h1]
  have hab:a<b:=by
   unfold zy at h1;split at h1
   ·omega
   ·split at h1<;>omega
  refine qa (avH false (lim a) (by omega)).num ?_
  simp(disch:=omega)only[go_sem]
  refine qW (by simp(disch:=omega)only[go_sem]) ?_
  show qM _ 6 _=_
  rw[Nat.div_eq_of_lt hab,Nat.mod_eq_of_lt hab]
  simp only[qM,qt];rfl
 ·have hab:b≤a:=by
   unfold zy at h1;split at h1
   ·omega
   ·omega
  have ha:a≠0:=by omega
  have hlb:=y3 hb
  simp(disch:=omega)only[go_sem,h1]
  refine qg (fun h2=>?_) (fun h2=>?_)
  ·simp(disch:=omega)only[go_sem,h2]
   have hb6:b<65536:=by have:=ZM b;rw[show(lim b).length=1 by omega]at this;omega
   have e0:(lim b).getD 0 0=(b:Int):=by rw[zY];simp;omega
   simp(disch:=omega)only[go_sem,e0]
   refine⟨by omega,by omega,?_⟩
   refine qa (avF a b (by omega) (by omega) hb6) ?_
   simp(disch:=omega)only[go_sem]
   have:a % b<b:=Nat.mod_lt _ (by omega)
   refine qa (zM (a % b) (by omega)) ?_
   simp(disch:=omega)only[go_sem]
   exact qW (by simp(disch:=omega)only[go_sem]) (by rfl)
  ·have hl2:2≤(lim b).length:=by omega
   have hll:(lim b).length≤(lim a).length:=yB hab
   have ht:=JI hb
   have eb:(((lim b).length:Int)-1).toNat=(lim b).length-1:=by omega
   have hnd:=aHS hb _ rfl
   simp(disch:=omega)only[go_sem,h2,eb,zY]
   have e3:((b/65536^((lim b).length-1) % 65536:Nat):Int)=((b/65536^((lim b).length-1):Nat):Int):=by rw[Nat.mod_eq_of_lt ht.2]
   generalize hq:b/65536^((lim b).length-1)=q at*
   have hq16:bl q≤16:=qX.2 (by omega)
   simp(disch:=omega)only[go_sem,e3,an8]
   refine⟨by omega,by omega,?_⟩
   refine qj (avj q (by omega)) ?_
   simp(disch:=omega)only[go_sem]
   have e4:(16:Int)-(bl q:Int)=((16-bl q:Nat):Int):=by omega
   simp(disch:=omega)only[go_sem,e4]
   generalize hs:16-bl q=s at*
   obtain⟨hs16,hvl,hv1,hvge⟩:=hnd
   refine qE (ja b s (by omega) (by omega)) (by simp(disch:=omega)only[go_sem,e4]) ?_
   rintro r hs0 ⟨rfl,rfl,_⟩
   refine⟨by simp[qC],?_⟩
   simp(disch:=omega)only[go_sem]
   refine qE (au4 false a s (by omega) (by omega)) (by simp(disch:=omega)only[go_sem,e4]) ?_
   have hun:a*2^s≠0:=by have:0<2^s:=Nat.pow_pos (by omega);have:=Nat.mul_pos (show 0<a by omega) this;omega
   rintro r hs1 (⟨h,_,_⟩|⟨zs,rfl,rfl⟩)
   ·exact absurd (qG.1 h) hun
   refine⟨⟨by simp,by simp(disch:=omega)only[go_sem]⟩,?_⟩
   have hul:=amZ a hs16
   have hug:=at1 a s
   have ex:((lim a).length:Int)+1-((lim (a*2^s)).length:Int)=(((lim a).length+1-(lim (a*2^s)).length:Nat):Int):=by omega
   have ecut:(lim (a*2^s)++zs).take (lim (a*2^s)).length=lim (a*2^s):=List.take_left' rfl
   have em:(((lim a).length:Int)-((lim b).length:Int)+1).toNat=(lim a).length-(lim b).length+1:=by omega
   simp(disch:=omega)only[go_sem,ex,ecut,em]
   generalize hU0:lim (a*2^s)++List.replicate ((lim a).length+1-(lim (a*2^s)).length) 0=U0
   have lU0:U0.length=(lim a).length+1:=by rw[←hU0];simp;omega
   have gU0:gd U0:=by rw[←hU0];exact qQ.2 ⟨zd _,zt _⟩
   have vU0:vl U0=((a*2^s:Nat):Int):=by rw[←hU0,ahf,q6]
   have hfw:=auH gU0 hll hlb hs16 lU0 vU0 hvge
   have elen:(lim (a*2^s)).length+((lim a).length+1-(lim (a*2^s)).length)=U0.length:=by omega
   refine⟨by omega,⟨by simp,by omega⟩,by omega,?_⟩
   generalize hV:lim (b*2^s)=V at*
   have gV:gd V:=by rw[←hV];exact zd _
   have vV:vl V=((b*2^s:Nat):Int):=by rw[←hV,q6]
   generalize hm:(lim a).length-(lim b).length+1=m at*
   refine qi (fun x:Nat×List Int×List Int=>[(8,.v (.int .i64 s)),(9,.sl V.length (qb V)),(10,.rf 0 0 x.2.1.length),(11,.rf 1 0 x.2.2.length),(12,.v (.int .i64 ((x.1:Int)-1)))])
    (fun x=>[(0,.own 1 (qb x.2.1)),(1,.own 1 (qb x.2.2))])
    (fun x=>x.1≤m∧x.2.1.length=U0.length∧gd x.2.1∧x.2.2.length=m∧gd x.2.2∧vl (x.2.1.drop x.1)<vl V∧vl x.2.1+vl V*(65536^x.1*vl (x.2.2.drop x.1))=((a*2^s:Nat):Int))
    (fun x=>x.1) (m,U0,List.replicate m 0) ⟨Nat.le_refl _,rfl,gU0,by simp,zt _,by show vl (U0.drop m)<vl V;rw[vV];exact hfw,by show vl U0+vl V*(65536^m*vl ((List.replicate m 0).drop m))=_;rw[List.drop_of_length_le (by simp)];simp[vl];exact vU0⟩
    (Le.lst [(0,580000000),(1,650000000)] _ _ rfl (by simp(disch:=omega)only[go_sem,elen,e4,List.length_replicate];try omega) (by simp(disch:=omega)only[go_sem,hU0,em])) ?_
   rintro⟨k,U,O⟩ ⟨hk,lU,gU,lO,gO,hlt,hval⟩
   dsimp only at hk lU gU lO gO hlt hval ⊢
   simp(disch:=omega)only[go_sem]
   refine qg (fun g1=>?_) (fun g1=>?_)
   ·obtain⟨j,rfl⟩:∃j,k=j+1:=⟨k-1,by omega⟩
    have ej:((j+1:Nat):Int)-1=(j:Nat):=by omega
    have hWj:vl (U.drop j)<65536*vl V:=by
     rw[zH (by omega)]
     have:=qP gU j
     omega
    simp(disch:=omega)only[go_sem,g1,ej]
    refine qB (agU U V j gU gV (by omega) (by omega) (by omega) (by rw[hvl];exact hv1) hWj) (by simp(disch:=omega)only[go_sem]) ?_
    rintro r hs ⟨qd,rfl,rfl,_,hq,hq1,hq2⟩
    refine⟨by simp[qC],?_⟩
    simp(disch:=omega)only[go_sem]
    refine zv false [0] (ab6 U V j qd gU gV (by omega) (by omega) hq) (by simp(disch:=omega)only[go_sem]) (by simp(disch:=omega)only[go_sem]) rfl (qJ (z:=1) (cs:=qb U) (by simp(disch:=omega)only[go_sem]) (by simp(disch:=omega)only[go_sem])) (by intro n hn;exact⟨_,List.mem_cons_self ..,by rw[List.mem_singleton.1 hn];rfl⟩) ?_
    rintro r hs bs ⟨U',bo,rfl,rfl,rfl,hl',gU',hbo,hsm,hv'⟩ _
    refine⟨by simp[qC],?_⟩
    generalize hT:U'.set (j+V.length) (U.getD (j+V.length) 0-bo)=T at*
    obtain⟨lT,vT,wT,tT,aT,pT,nT⟩:=asT gU gV (by omega) hWj hq1 hq2 hl' gU' hsm hv' T hT.symm
    have hfin:∀(U2:List Int) (qf:Int),vl U2=vl U-65536^j*(qf*vl V)→vl U2+vl V*(65536^j*vl ((O.set j qf).drop j))=((a*2^s:Nat):Int):=by
     intro U2 qf h2
     rw[abj (by omega),h2,←hval,Int.pow_succ]
     generalize (65536:Int)^j=Pj at*
     grind
    simp(disch:=omega)only[go_sem]
    refine qg (fun g2=>?_) (fun g2=>?_)
    ·obtain⟨⟨n1,n2⟩,n3⟩:=nT g2
     simp(disch:=omega)only[go_sem,g2]
     refine zv false [0] (agW T V j n3 (by rw[tT];omega) gV (by omega) (by omega)) (by simp(disch:=omega)only[go_sem,lT]) (by simp(disch:=omega)only[go_sem]) rfl (qJ (z:=1) (cs:=qb T) (by simp(disch:=omega)only[go_sem]) (by simp(disch:=omega)only[go_sem])) (by intro n hn;exact⟨_,List.mem_cons_self ..,by rw[List.mem_singleton.1 hn];rfl⟩) ?_
     rintro r hs bs ⟨T',rfl,rfl,rfl,lT',gT',sT',vT'⟩ _
     refine⟨by simp[qC],?_⟩
     rw[Int.add_mul]at hq1
     obtain⟨gT2,wT2⟩:=av4 gV (by omega) lT' gT' sT' aT vT' (by omega) (by omega)
     simp(disch:=omega)only[go_sem,lO]
     have hqp:0<qd:=by
      have h3:=zg (y6 gU j)
      rcases(by omega:0<qd∨qd=0)with h|h
      ·exact h
      ·subst h;simp at n2;omega
     refine⟨by omega,by omega,qe (j,T',O.set j (qd-1)) [] ⟨by show j≤m;omega,by show T'.length=_;omega,gT2,by simp[lO],yN gO (by omega),by show vl (T'.drop j)<vl V;omega,hfin T' (qd-1) ?_⟩ (by show j<j+1;omega) rfl (by simp(disch:=omega)only[go_sem,List.length_set];try omega) (by simp(disch:=omega)only[go_sem])⟩
     rw[vT',vT,Int.sub_mul,Int.one_mul,Int.mul_sub];omega
    ·obtain⟨p1,p2⟩:=pT g2
     rw[Int.add_mul]at hq1
     simp(disch:=omega)only[go_sem,g2,lO]
     refine⟨by omega,by omega,qe (j,T,O.set j qd) [] ⟨by show j≤m;omega,by show T.length=_;omega,p1,by simp[lO],yN gO hq,by show vl (T.drop j)<vl V;omega,hfin T qd vT⟩ (by show j<j+1;omega) rfl (by simp(disch:=omega)only[go_sem,List.length_set];try omega) (by simp(disch:=omega)only[go_sem])⟩
   ·have:k=0:=by omega
    subst this
    rw[List.drop_zero]at hlt
    rw[List.drop_zero,Int.pow_zero,Int.one_mul]at hval
    have hvO:=zg gO
    have hvU:=zg gU
    have hcO:=jm gO
    have hcU:=jm gU
    have hpS:0<2^s:=Nat.pow_pos (by omega)
    obtain⟨d1,d2⟩:(vl O).toNat=a/b∧(vl U).toNat=a % b*2^s:=by
     refine aJn hpS (by omega) ?_ (by omega)
     rw[vV]at hval
     have:((vl U).toNat:Int)+((b*2^s:Nat):Int)*((vl O).toNat:Int)=((a*2^s:Nat):Int):=by
      rw[Int.toNat_of_nonneg hvO,Int.toNat_of_nonneg hvU];exact hval
     rw[←Int.natCast_mul,←Int.natCast_add]at this
     exact Int.ofNat.inj this
    rw[d1]at hcO
    rw[d2]at hcU
    obtain⟨zo,hzo⟩:=zS O
    obtain⟨zu,hzu⟩:=zS U
    have htU:=au1 U
    rw[hcO]at hzo
    rw[hcU]at hzu htU
    simp(disch:=omega)only[go_sem,g1]
    refine zv false [1] (jE O (by omega)) (by simp(disch:=omega)only[go_sem]) (by simp(disch:=omega)only[go_sem]) rfl (qJ (z:=1) (cs:=qb O) (by simp(disch:=omega)only[go_sem]) (by simp(disch:=omega)only[go_sem])) (by intro n hn;exact⟨_,List.mem_singleton.2 rfl,by rw[List.mem_singleton.1 hn];rfl⟩) ?_
    rintro r hs bs ⟨rfl,rfl,rfl⟩ _
    refine⟨by simp[qC],?_⟩
    simp(disch:=omega)only[go_sem]
    refine zv false [0] (jE U (by omega)) (by simp(disch:=omega)only[go_sem]) (by simp(disch:=omega)only[go_sem]) rfl (qJ (z:=1) (cs:=qb U) (by simp(disch:=omega)only[go_sem]) (by simp(disch:=omega)only[go_sem])) (by intro n hn;exact⟨_,List.mem_singleton.2 rfl,by rw[List.mem_singleton.1 hn];rfl⟩) ?_
    rintro r hs bs ⟨rfl,rfl,rfl⟩ _
    refine⟨by simp[qC],?_⟩
    simp(disch:=omega)only[go_sem,hcO,hcU]
    have hlr:(lim (a % b*2^s)).length≤1000000:=by
     have:=congrArg List.length hzu
     simp at this;omega
    refine qB (act true (a % b*2^s) s hlr (by omega)) (by simp(disch:=omega)only[go_sem,htU]) ?_
    rw[Nat.mul_div_cancel _ hpS]
    rintro r hs2 (⟨h,rfl,rfl⟩|⟨z2,rfl,rfl⟩)
    ·refine⟨⟨by simp,by simp(disch:=omega)only[go_sem]⟩,?_⟩
     simp(disch:=omega)only[go_sem]
     refine qh [(0,1)] [.own 1 (qb O)] [] [.rf 0 0 (lim (a/b)).length,.v (.slice none 0 0)] rfl (by simp(disch:=omega)only[go_sem]) (by simp(disch:=omega)only[go_sem]) (by simp) (by simp) ?_
     show qM _ 6 _=_
     unfold qM
     simp only[zl,List.map_cons,List.map_nil]
     rw[hzo,zX (k:=3) (l:=lim (a/b)) (zs:=List.replicate zo 0) qU rfl,h]
     rfl
    ·refine⟨⟨by simp,by simp(disch:=omega)only[go_sem]⟩,?_⟩
     simp(disch:=omega)only[go_sem]
     refine qh [(0,1),(1,970000000)] [.own 1 (qb O),.own 1 (qb (lim (a % b)++z2))] [] [.rf 0 0 (lim (a/b)).length,.rf 1 0 (lim (a % b)).length] rfl (by simp(disch:=omega)only[go_sem]) (by simp(disch:=omega)only[go_sem]) (by simp) (by simp) ?_
     show qM _ 6 _=_
     unfold qM
     simp only[zl,List.map_cons,List.map_nil]
     rw[hzo,zX (k:=3) (l:=lim (a/b)) (zs:=List.replicate zo 0) qU rfl,zX (k:=3) (l:=lim (a % b)) (zs:=z2) aQC rfl]
end Go.Ab
namespace Go.Ab
open Go Go.Proofs
theorem YK(n lo hi:Int):Con Tryz.prog 85 true [.v (.int .i64 n),.v (.int .i64 lo),.v (.int .i64 hi)] [] (fun r hs bs=>r=.v (.bool (decide (lo≤n)&&decide (n≤hi)))∧hs=[]):=by
 refine Con.of_aw Tryz.func85 rfl Tryz.ntmps85 (by simp) (by simp) (by simp) (W.sound ?_)
 show @W Tryz.prog 15 ⟨_⟩ ⟨fun x σ=>@q9 _ _ _ ⟨_⟩ _ ⟨_⟩ x σ⟩ _ _
 simp(disch:=omega)only[go_sem]
 refine qg (fun h1=>?_) (fun h1=>?_)
 ·simp(disch:=omega)only[go_sem,h1]
  refine qh [] [] [] [.v (.bool (decide (n≤hi)))] rfl (by simp(disch:=omega)only[go_sem]) (by simp(disch:=omega)only[go_sem]) (by simp) (by simp[AV.pu,zl]) ⟨by simp[zl,h1],rfl⟩
 ·simp(disch:=omega)only[go_sem,h1]
  refine qh [] [] [] [.v (.bool false)] rfl (by simp(disch:=omega)only[go_sem]) (by simp(disch:=omega)only[go_sem]) (by simp) (by simp[AV.pu,zl]) ⟨by simp[zl,h1],rfl⟩
end Go.Ab
namespace Go.Ab
open Go Go.Proofs
theorem agT(a b:Nat)(hb:b≠0)(la:(lim a).length≤900000)(lb:(lim b).length≤900000):
  Con Tryz.prog 324 false [.sl (lim (a)).length (qb (lim (a))),.sl (lim (b)).length (qb (lim (b)))] [] (isA (.tu [.sl (lim (a/b)).length (qb (lim (a/b))),.sl (lim (a % b)).length (qb (lim (a % b)))])):=(anG a b hb la lb).frzA
theorem agD(neg odd:Bool)(half mode:Int):Con Tryz.prog 325 true [.v (.bool neg),.v (.bool odd),.v (.int .i64 half),.v (.int .i64 mode)] [] (isA (.v (.bool (rup neg odd half mode)))):=by
 refine Con.of_aw Tryz.func325 rfl Tryz.ntmps325 (by simp) (by simp) (by simp) (W.sound ?_)
 show @W Tryz.prog 32 ⟨_⟩ ⟨fun x σ=>@q9 _ _ _ ⟨_⟩ _ ⟨_⟩ x σ⟩ _ _
 simp(disch:=omega)only[go_sem]
 refine qg (fun h1=>?_) (fun h1=>?_)
 ·simp(disch:=omega)only[go_sem,h1]
  exact qx (by simp(disch:=omega)only[go_sem]) (by simp(disch:=omega)only[go_sem]) ⟨by simp[zl,rup,h1],rfl,rfl⟩
 ·simp(disch:=omega)only[go_sem,h1]
  refine qg (fun h2=>?_) (fun h2=>?_)
  ·simp(disch:=omega)only[go_sem,h2]
   exact qx (by simp(disch:=omega)only[go_sem]) (by simp(disch:=omega)only[go_sem]) ⟨by simp[zl,rup,h2],rfl,rfl⟩
  ·simp(disch:=omega)only[go_sem,h2]
   refine qg (fun h3=>?_) (fun h3=>?_)
   ·simp(disch:=omega)only[go_sem,h3]
    refine z7 (fun h4=>?_) (fun h4=>?_)
    ·simp(disch:=omega)only[go_sem,h4]
     refine qg (fun h5=>?_) (fun h5=>?_)
     ·simp(disch:=omega)only[go_sem,h5]
      exact qx (by simp(disch:=omega)only[go_sem]) (by simp(disch:=omega)only[go_sem]) ⟨by simp[zl,rup,h3,h5],rfl,rfl⟩
     ·simp(disch:=omega)only[go_sem,h5]
      exact qx (by simp(disch:=omega)only[go_sem]) (by simp(disch:=omega)only[go_sem]) ⟨by simp[zl,rup,h3,h4,h5],rfl,rfl⟩
    ·simp(disch:=omega)only[go_sem,h4]
     exact qx (by simp(disch:=omega)only[go_sem]) (by simp(disch:=omega)only[go_sem]) ⟨by simp[zl,rup,h3,h4],rfl,rfl⟩
   ·simp(disch:=omega)only[go_sem,h3]
    refine qg (fun h4=>?_) (fun h4=>?_)
    ·simp(disch:=omega)only[go_sem,h4]
     exact qx (by simp(disch:=omega)only[go_sem]) (by simp(disch:=omega)only[go_sem]) ⟨by simp[zl,rup,h4],rfl,rfl⟩
    ·simp(disch:=omega)only[go_sem,h4]
     exact qx (by simp(disch:=omega)only[go_sem]) (by simp(disch:=omega)only[go_sem]) ⟨by simp[zl,rup,h1,h2,h3,h4],rfl,rfl⟩
theorem Zy(neg:Bool)(a b:Nat)(mode:Int)(hb:b≠0)(la:bl a≤8000000)(lb:bl b≤8000000):
  Con Tryz.prog 309 false [.v (.bool neg),.sl (lim (a)).length (qb (lim (a))),.sl (lim (b)).length (qb (lim (b))),.v (.int .i64 mode)] [] (isA (.tu [.sl (lim (rq neg a b mode)).length (qb (lim (rq neg a b mode))),.v (.bool (decide (a % b=0)))])):=by
 refine Con.of_aw Tryz.func309 rfl Tryz.ntmps309 (by simp) (by simp) (by simp) (W.sound ?_)
 show @W Tryz.prog 36 ⟨_⟩ ⟨fun x σ=>@q9 _ _ _ ⟨_⟩ _ ⟨_⟩ x σ⟩ _ _
 simp(disch:=omega)only[go_sem]
 have lla:=qz la
 have llb:=qz lb
 refine qa (agT a b hb (by omega) (by omega)) ?_
 simp(disch:=omega)only[go_sem]
 have hmb:a % b<b:=Nat.mod_lt _ (by omega)
 have llr:=qz (Nat.le_trans (zU (Nat.le_of_lt hmb)) lb)
 have llq:=qz (Nat.le_trans (yK a b) la)
 refine qg (fun h1=>?_) (fun h1=>?_)
 ·simp(disch:=omega)only[go_sem,h1]
  have h0:a % b=0:=qG.1 (List.length_eq_zero_iff.1 (by omega))
  refine qW (by simp(disch:=omega)only[go_sem]) ⟨?_,rfl,rfl⟩
  simp[zl,rq,h0]
 ·simp(disch:=omega)only[go_sem,h1]
  have h0:a % b≠0:=fun e=>h1 (by rw[e,qt];rfl)
  refine qj (acw (a/b) 0 (by omega) (by omega) (by omega)) ?_
  simp(disch:=omega)only[go_sem]
  refine qa (ja (a % b) 1 (by omega) (by omega)) ?_
  simp(disch:=omega)only[go_sem]
  have llu:=qz (Nat.le_trans (QK (a % b) 1) (Nat.add_le_add_right (Nat.le_trans (zU (Nat.le_of_lt hmb)) lb) 1))
  refine qj (jj (a % b*2^1) b (by omega) (by omega)) ?_
  simp(disch:=omega)only[go_sem]
  have e1:(decide (((a/b/1 % 2:Nat):Int)=1))=decide (a/b % 2=1):=by
   simp;omega
  refine qj (agD neg (decide (a/b % 2=1)) (zy ((a % b*2^1:Nat):Int) (b:Int)) mode) ?_ (by simp(disch:=omega)only[go_sem,e1,Int.toNat_zero,Nat.pow_zero])
  simp(disch:=omega)only[go_sem]
  refine Qu (fun h2=>?_) (fun h2=>?_)
  ·simp(disch:=omega)only[go_sem,h2]
   refine qa (zM 1 (by omega)) ?_
   simp(disch:=omega)only[go_sem]
   have l1:(lim 1).length≤2000000:=by have:=qz (m:=1) (B:=1) (by decide);omega
   refine qa (ab7 (a/b) 1 (by omega) l1) ?_
   simp(disch:=omega)only[go_sem]
   refine qW (by simp(disch:=omega)only[go_sem]) ⟨?_,rfl,rfl⟩
   have e:rq neg a b mode=a/b+1:=by unfold rq;rw[if_neg h0,if_pos h2]
   rw[e];simp[zl,h0]
  ·simp(disch:=omega)only[go_sem,h2]
   refine qW (by simp(disch:=omega)only[go_sem]) ⟨?_,rfl,rfl⟩
   have e:rq neg a b mode=a/b:=by unfold rq;rw[if_neg h0,if_neg (by rw[h2];simp)]
   rw[e];simp[zl,h0]
end Go.Ab
namespace Go.Ab
open Go Go.Proofs
theorem ZA(s:Bool)(m:Nat)(e:Int):Con Tryz.prog 158 true [.ag [.v (.bool (s)),.sl (lim (m)).length (qb (lim (m))),.v (.int .i64 (e))]] [] (isA (.v (.bool (decide (m=0))))):=by
 refine Con.of_aw Tryz.func158 rfl Tryz.ntmps158 (by simp) (by simp) (by simp) (W.sound ?_)
 show @W Tryz.prog 7 ⟨_⟩ ⟨fun x σ=>@q9 _ _ _ ⟨_⟩ _ ⟨_⟩ x σ⟩ _ _
 simp(disch:=omega)only[go_sem]
 refine qx (by simp(disch:=omega)only[go_sem]) (by simp(disch:=omega)only[go_sem]) ⟨?_,rfl,rfl⟩
 have:decide (((lim m).length:Int)=0)=decide (m=0):=by
  rw[decide_eq_decide]
  exact⟨fun h=>qG.1 (List.length_eq_zero_iff.1 (by omega)),fun h=>by rw[h,qt];rfl⟩
 rw[this];rfl
theorem aJA(s:Bool)(m:Nat)(e:Int)(hm:(lim m).length≤2^40)(he: -2^40≤e∧e≤2^40):Con Tryz.prog 159 true [.ag [.v (.bool (s)),.sl (lim (m)).length (qb (lim (m))),.v (.int .i64 (e))]] [] (isA (.v (.int .i64 (if m=0 then 0 else(bl m:Int)+e)))):=by
 refine Con.of_w (rs:=[.tmp 2]) Tryz.func159 rfl Tryz.ntmps159 rfl ?_
 simp(disch:=omega)only[go_sem]
 refine qg (fun h1=>?_) (fun h1=>?_)
 ·simp(disch:=omega)only[go_sem,h1]
  have h0:m=0:=qG.1 (List.length_eq_zero_iff.1 (by omega))
  rw[if_pos h0]
  exact qu
 ·have h0:m≠0:=fun e=>h1 (by rw[e,qt];rfl)
  have:=Qz (m:=m)
  simp(disch:=omega)only[go_sem,h1]
  refine qo rfl [⟨0,[],[]⟩,⟨1,[],[]⟩,⟨3,[1],[]⟩,⟨4,[1],[]⟩,⟨2,[4],[]⟩,⟨5,[],[]⟩,⟨6,[],[]⟩] (by kernel_rfl) ?_
  simp(disch:=omega)only[go_sem]
  refine qj (anI m hm) ?_
  simp(disch:=omega)only[go_sem]
  rw[if_neg h0]
  exact qu
theorem aTC(s:Bool)(m:Nat)(e:Int)(hm:bl m≤10000000)(he: -2^40≤e∧e≤2^40):Con Tryz.prog 188 false [.ag [.v (.bool (s)),.sl (lim (m)).length (qb (lim (m))),.v (.int .i64 (e))]] [] (isA (.ag [.v (.bool (oS s m)),.sl (lim (oM m)).length (qb (lim (oM m))),.v (.int .i64 (oE m e))])):=by
 refine Con.frzA ?_
 refine Con.of_aw Tryz.func188 rfl Tryz.ntmps188 (by simp) (by simp) (by simp) (W.sound ?_)
 show @W Tryz.prog 23 ⟨_⟩ ⟨fun x σ=>@q9 _ _ _ ⟨_⟩ _ ⟨_⟩ x σ⟩ _ _
 simp(disch:=omega)only[go_sem]
 have hl:=qz hm
 refine qg (fun h1=>?_) (fun h1=>?_)
 ·simp(disch:=omega)only[go_sem,h1]
  have h0:m=0:=qG.1 (List.length_eq_zero_iff.1 (by omega))
  subst h0
  refine qW (by simp(disch:=omega)only[go_sem]) ?_
  show qM _ 6 _=_
  simp only[oS,jd,oE,qt,if_true]
  simp(disch:=omega)only[go_sem]
 ·have h0:m≠0:=fun e=>h1 (by rw[e,qt];rfl)
  have ht:=yt h0
  simp(disch:=omega)only[go_sem,h1]
  refine qj (agx m (by omega)) ?_
  simp(disch:=omega)only[go_sem]
  refine qo rfl [⟨0,[],[]⟩,⟨1,[],[]⟩,⟨2,[1],[]⟩,⟨3,[1],[]⟩,⟨4,[1,3],[]⟩,⟨6,[1,3],[]⟩,⟨7,[1,3],[]⟩,⟨8,[1,3,7],[]⟩,⟨9,[1,3],[]⟩,⟨5,[1,7],[]⟩,⟨10,[],[]⟩,⟨11,[],[]⟩] (by kernel_rfl) ?_
  simp(disch:=omega)only[go_sem]
  refine qa (avE m (tz m) (by omega) (by omega)) ?_
  simp(disch:=omega)only[go_sem]
  refine qW (by simp(disch:=omega)only[go_sem]) ?_
  show qM _ 6 _=_
  simp only[oS,oM,oE,if_neg h0]
  simp(disch:=omega)only[go_sem]
def ovA(m1:Nat)(k:Int):Nat:=m1*2^k.toNat
def ovQ(s:Bool)(m1:Nat)(e1:Int)(m2:Nat)(e2 low mode:Int):Nat:=rq s (ovA m1 (e1-e2-low)) (ovA m2 (-(e1-e2-low))) mode
def ovX(m1:Nat)(e1:Int)(m2:Nat)(e2 low:Int):Bool:=decide (ovA m1 (e1-e2-low) % ovA m2 (-(e1-e2-low))=0)
theorem aL6{m B:Nat}{k:Int}{C:Nat}(h:bl m≤B)(hk:k≤C):bl (ovA m k)≤B+C:=by
 have:=QK m k.toNat
 unfold ovA;omega
theorem aWF{m:Nat}{k:Int}(h:m≠0):ovA m k≠0:=by
 unfold ovA
 have:0<2^k.toNat:=Nat.pow_pos (by omega)
 have:=Nat.mul_pos (show 0<m by omega) this
 omega
theorem ah9(s1:Bool)(m1:Nat)(e1:Int)(s2:Bool)(m2:Nat)(e2 low mode:Int)(h2:m2≠0)(hm1:bl m1≤4000000)(hm2:bl m2≤4000000)(hk: -4000000≤e1-e2-low∧e1-e2-low≤4000000)
  (he1: -2^40≤e1∧e1≤2^40) (he2: -2^40≤e2∧e2≤2^40) (hlo: -2^40≤low∧low≤2^40):
  Con Tryz.prog 268 false [.ag [.v (.bool (s1)),.sl (lim (m1)).length (qb (lim (m1))),.v (.int .i64 (e1))],.ag [.v (.bool (s2)),.sl (lim (m2)).length (qb (lim (m2))),.v (.int .i64 (e2))],.v (.int .i64 low),.v (.int .i64 mode)] []
   (isA (.tu [.ag [.v (.bool ((s1 != s2)&&decide (ovQ (s1 != s2) m1 e1 m2 e2 low mode≠0))),.sl (lim (ovQ (s1 != s2) m1 e1 m2 e2 low mode)).length (qb (lim (ovQ (s1 != s2) m1 e1 m2 e2 low mode))),.v (.int .i64 (low))],.v (.bool (ovX m1 e1 m2 e2 low))])):=by
 refine Con.frzA ?_
 refine Con.of_w (rs:=[.cell 8 117,.tmp 9]) Tryz.func268 rfl Tryz.ntmps268 rfl ?_
 have l1:=qz hm1
 have l2:=qz hm2
 generalize hsh:e1-e2-low=sh at*
 have eq1:ovQ (s1 != s2) m1 e1 m2 e2 low mode=rq (s1 != s2) (ovA m1 sh) (ovA m2 (-sh)) mode:=by unfold ovQ;rw[hsh]
 have eq2:ovX m1 e1 m2 e2 low=decide (ovA m1 sh % ovA m2 (-sh)=0):=by unfold ovX;rw[hsh]
 rw[eq1,eq2]
 simp(disch:=omega)only[go_sem,hsh]
 refine qo rfl [⟨0,[],[]⟩,⟨1,[],[]⟩,⟨2,[],[]⟩,⟨3,[2],[]⟩,⟨4,[2],[]⟩,⟨6,[2],[]⟩,⟨7,[2],[]⟩,⟨8,[2,7],[]⟩,⟨9,[2,7],[]⟩,⟨10,[2,7],[]⟩,⟨12,[2,7],[]⟩,⟨5,[7],[]⟩,⟨11,[],[]⟩,⟨13,[],[]⟩,⟨14,[],[]⟩,⟨15,[],[]⟩,⟨16,[],[]⟩,⟨17,[],[]⟩,⟨18,[],[]⟩] (by kernel_rfl) ?_
 have ex1:(if 0>sh then 0 else sh)=((sh.toNat:Nat):Int):=by split<;>omega
 have ex2:(if 0>0-sh then 0 else 0-sh)=(((-sh).toNat:Nat):Int):=by split<;>omega
 simp(disch:=omega)only[go_sem,ex1,ex2]
 refine qa (ja m1 sh.toNat (by omega) (by omega)) ?_
 simp(disch:=omega)only[go_sem]
 refine qa (ja m2 (-sh).toNat (by omega) (by omega)) ?_
 simp(disch:=omega)only[go_sem]
 refine qa (Zy (s1 != s2) (ovA m1 sh) (ovA m2 (-sh)) mode (aWF h2) (aL6 (C:=4000000) hm1 (by omega)) (aL6 (C:=4000000) hm2 (by omega))) ?_ (by simp(disch:=omega)only[go_sem,ovA])
 simp(disch:=omega)only[go_sem]
 generalize rq (s1 != s2) (ovA m1 sh) (ovA m2 (-sh)) mode=q
 generalize decide (ovA m1 sh % ovA m2 (-sh)=0)=b
 have hq:decide ((0:Int)<((lim q).length:Int))=decide (q≠0):=by
  rw[decide_eq_decide]
  exact⟨fun h e=>by rw[e,qt]at h;simp at h,fun h=>by have:=y3 h;omega⟩
 refine Qu (fun h3=>?_) (fun h3=>?_)
 ·simp(disch:=omega)only[go_sem,h3,hq]
  exact qm (hp:=by simp(disch:=omega)only[go_sem,h3,Bool.true_and])
 ·simp(disch:=omega)only[go_sem,h3]
  exact qm (hp:=by simp(disch:=omega)only[go_sem,h3,Bool.false_and])
def roM(s:Bool)(m:Nat)(e low mode:Int):Nat:=if low≤e∨m=0 then m else rq s m (2^(low-e).toNat) mode
def roE(m:Nat)(e low:Int):Int:=if low≤e∨m=0 then e else low
def roX(m:Nat)(e low:Int):Bool:=if low≤e∨m=0 then true else decide (m % 2^(low-e).toNat=0)
def roS(s:Bool)(m:Nat)(e low mode:Int):Bool:=if low≤e∨m=0 then s else s&&decide (rq s m (2^(low-e).toNat) mode≠0)
theorem agC(s:Bool)(m:Nat)(e low mode:Int)(hm:bl m≤4000000)(he: -1000000≤e∧e≤1000000)(hlo: -1000000≤low∧low≤1000000):
  Con Tryz.prog 196 false [.ag [.v (.bool (s)),.sl (lim (m)).length (qb (lim (m))),.v (.int .i64 (e))],.v (.int .i64 low),.v (.int .i64 mode)] []
   (isA (.tu [.ag [.v (.bool (roS s m e low mode)),.sl (lim (roM s m e low mode)).length (qb (lim (roM s m e low mode))),.v (.int .i64 (roE m e low))],.v (.bool (roX m e low))])):=by
 refine Con.frzA ?_
 refine Con.of_aw Tryz.func196 rfl Tryz.ntmps196 (by simp) (by simp) (by simp) (W.sound ?_)
 show @W Tryz.prog 25 ⟨_⟩ ⟨fun x σ=>@q9 _ _ _ ⟨_⟩ _ ⟨_⟩ x σ⟩ _ _
 simp(disch:=omega)only[go_sem]
 refine z7 (fun h1=>?_) (fun h1=>?_)
 ·simp(disch:=omega)only[go_sem,h1]
  refine qj (ZA s m e) ?_
  simp(disch:=omega)only[go_sem]
  refine qg (fun h2=>?_) (fun h2=>?_)
  ·simp(disch:=omega)only[go_sem,h2]
   refine qW (by simp(disch:=omega)only[go_sem]) ?_
   show qM _ 6 _=_
   simp only[roS,roM,roE,roX,h2,or_true,if_true]
   simp(disch:=omega)only[go_sem]
  ·simp(disch:=omega)only[go_sem,h2]
   refine qo rfl [⟨0,[],[]⟩,⟨3,[0],[]⟩,⟨4,[0],[]⟩,⟨1,[0],[]⟩,⟨2,[0],[]⟩,⟨5,[],[]⟩,⟨6,[],[]⟩,⟨7,[],[]⟩,⟨8,[],[]⟩,⟨9,[],[]⟩] (by kernel_rfl) ?_
   simp(disch:=omega)only[go_sem]
   refine qa (zM 1 (by omega)) ?_
   simp(disch:=omega)only[go_sem]
   refine qa (ah9 s m e false 1 0 low mode (by omega) hm (by decide) (by omega) (by omega) (by omega) (by omega)) ?_
   simp(disch:=omega)only[go_sem]
   refine qW (by simp(disch:=omega)only[go_sem]) ?_
   show qM _ 6 _=_
   have hc:¬(low≤e∨m=0):=by omega
   have e1:ovA m (e-0-low)=m:=by unfold ovA;rw[show(e-0-low).toNat=0 by omega];simp
   have e2:ovA 1 (-(e-0-low))=2^(low-e).toNat:=by unfold ovA;rw[show(-(e-0-low)).toNat=(low-e).toNat by omega];simp
   have e3:(s != false)=s:=by cases s<;>rfl
   simp only[roS,roM,roE,roX,if_neg hc,ovQ,ovX,e1,e2,e3]
   simp(disch:=omega)only[go_sem]
 ·simp(disch:=omega)only[go_sem,h1]
  refine qW (by simp(disch:=omega)only[go_sem]) ?_
  show qM _ 6 _=_
  simp only[roS,roM,roE,roX,h1,true_or,if_true]
  simp(disch:=omega)only[go_sem]
end Go.Ab
namespace Go.Ab
open Go Go.Proofs
def Yu(b:Bool):AV→List Ob→List Ob→Prop:=fun r hs bs=>r=.v (.bool b)∧hs=[]
theorem anq(x:Int):Con Tryz.prog 299 true [.v (.int .i64 x)] [] (Yu (decide (0≤x)&&decide (x≤65535))):=by
 refine Con.of_aw Tryz.func299 rfl Tryz.ntmps299 (by simp) (by simp) (by simp) (W.sound ?_)
 show @W Tryz.prog 5 ⟨_⟩ ⟨fun x σ=>@q9 _ _ _ ⟨_⟩ _ ⟨_⟩ x σ⟩ _ _
 simp(disch:=omega)only[go_sem]
 refine qB (YK x 0 65535) (by simp(disch:=omega)only[go_sem]) ?_
 rintro r hs ⟨rfl,rfl⟩
 refine⟨by simp[qC],?_⟩
 simp(disch:=omega)only[go_sem]
 refine qh [] [] [] [.v (.bool (decide (0≤x)&&decide (x≤65535)))] rfl (by simp(disch:=omega)only[go_sem]) (by simp(disch:=omega)only[go_sem]) (by simp) (by simp[AV.pu,zl]) ⟨rfl,rfl⟩
theorem agV(g:Nat)(p:Int→Bool)(x:Int)(hf:Con Tryz.prog g true [.v (.int .i64 x)] [] (Yu (p x)))(hg:qn Tryz.prog g):
  Con Tryz.prog 320 true [.v (.int .i64 x),.fp [.fn g []] 0] [] (Yu (!p x)):=by
 refine Con.of_aw Tryz.func320 rfl Tryz.ntmps320 (by simp) (by simp) (by simp) (W.sound ?_)
 show @W Tryz.prog 8 ⟨_⟩ ⟨fun x σ=>@q9 _ _ _ ⟨_⟩ _ ⟨_⟩ x σ⟩ _ _
 simp(disch:=omega)only[go_sem]
 refine⟨hg,qB hf (by simp(disch:=omega)only[go_sem]) ?_⟩
 rintro r hs ⟨rfl,rfl⟩
 refine⟨by simp[qC],?_⟩
 simp(disch:=omega)only[go_sem]
 refine qh [] [] [] [.v (.bool (!p x))] rfl (by simp(disch:=omega)only[go_sem]) (by simp(disch:=omega)only[go_sem]) (by simp) (by simp[AV.pu,zl]) ⟨rfl,rfl⟩
theorem anC(f:Nat)(caps:List AV)(p:Int→Bool)(xs:List Int)(hl:xs.length≤2^40)(hf:∀x,Con Tryz.prog f true (.v (.int .i64 x)::caps) [] (Yu (p x)))(hg:qn Tryz.prog f)
  (hc:∀h:Nat→Ob,caps.map (qM h 6)=caps) (hc5:∀h:Nat→Ob,caps.map (qM h 5)=caps) (hn:∀ks,AllL (Qk ks) caps) (hr:∀ρ,zR ρ caps=caps):
  Con Tryz.prog 327 true [.sl xs.length (qb xs),.fn f caps] [] (fun r hs bs=>∃i:Int,r=.v (.int .i64 i)∧hs=[]∧(0≤i↔∃x∈xs,p x=true)):=by
 refine Con.of_aw Tryz.func327 rfl Tryz.ntmps327 (by simp) (by simp) (by simp) (W.sound ?_)
 show @W Tryz.prog 19 ⟨_⟩ ⟨fun x σ=>@q9 _ _ _ ⟨_⟩ _ ⟨_⟩ x σ⟩ _ _
 simp(disch:=omega)only[go_sem]
 refine qi (fun i:Nat=>[(0,.sl xs.length (qb xs)),(1,.fn f caps),(6,.sl xs.length (qb xs)),(7,.v (.int .i64 xs.length)),(8,.v (.int .i64 i))])
  (fun _=>[]) (fun i=>i≤xs.length∧∀j,j<i→p (xs.getD j 0)=false) (fun i=>xs.length-i) 0 ⟨by omega,fun j hj=>by omega⟩ (Le.lst [] _ _ rfl (by simp(disch:=omega)only[go_sem,hr,hn]) (by simp(disch:=omega)only[go_sem])) ?_
 rintro i ⟨hi,hp⟩
 simp(disch:=omega)only[go_sem]
 refine qg (fun h1=>?_) (fun h1=>?_)
 ·simp(disch:=omega)only[go_sem,h1]
  refine⟨by omega,by omega,hg,qB (hf (xs.getD i 0)) (by simp(disch:=omega)only[go_sem,hc,hc5]) ?_⟩
  rintro r hs ⟨rfl,rfl⟩
  refine⟨by simp[qC],?_⟩
  simp(disch:=omega)only[go_sem]
  refine Qu (fun h2=>?_) (fun h2=>?_)
  ·simp(disch:=omega)only[go_sem,h2]
   refine qh [] [] [] [.v (.int .i64 i)] rfl (by simp(disch:=omega)only[go_sem]) (by simp(disch:=omega)only[go_sem]) (by simp) (by simp[AV.pu,zl]) ⟨i,rfl,rfl,?_⟩
   refine⟨fun _=>⟨xs.getD i 0,?_,h2⟩,fun _=>by omega⟩
   rw[List.getD_eq_getElem?_getD,List.getElem?_eq_getElem (by omega)];exact List.getElem_mem _
  ·simp(disch:=omega)only[go_sem,h2]
   refine qe (i+1) [] ⟨by omega,fun j hj=>?_⟩ (by show xs.length-(i+1)<xs.length-i;omega) rfl (by simp(disch:=omega)only[go_sem,hr,hn];try omega) (by simp(disch:=omega)only[go_sem])
   rcases(by omega:j<i∨j=i)with h|h
   ·exact hp j h
   ·subst h;exact h2
 ·simp(disch:=omega)only[go_sem,h1]
  refine qh [] [] [] [.v (.int .i64 (-1))] rfl (by simp(disch:=omega)only[go_sem]) (by simp(disch:=omega)only[go_sem]) (by simp) (by simp[AV.pu,zl]) ⟨-1,rfl,rfl,?_⟩
  refine⟨fun h=>by omega,fun⟨x,hx,hpx⟩=>?_⟩
  obtain⟨j,hj,rfl⟩:=List.getElem_of_mem hx
  have:=hp j (by omega)
  rw[List.getD_eq_getElem?_getD,List.getElem?_eq_getElem hj]at this
  simp only[Option.getD_some]at this
  rw[this]at hpx;cases hpx
theorem XV(f:Nat)(caps:List AV)(p:Int→Bool)(xs:List Int)(hl:xs.length≤2^40)(hf:∀x,Con Tryz.prog f true (.v (.int .i64 x)::caps) [] (Yu (p x)))(hg:qn Tryz.prog f)
  (hc:∀h:Nat→Ob,caps.map (qM h 6)=caps) (hc5:∀h:Nat→Ob,caps.map (qM h 5)=caps) (hn:∀ks,AllL (Qk ks) caps) (hr:∀ρ,zR ρ caps=caps):
  Con Tryz.prog 319 true [.sl xs.length (qb xs),.fn f caps] [] (Yu (xs.any p)):=by
 refine Con.of_aw Tryz.func319 rfl Tryz.ntmps319 (by simp) (by simp) (by simp) (W.sound ?_)
 show @W Tryz.prog 9 ⟨_⟩ ⟨fun x σ=>@q9 _ _ _ ⟨_⟩ _ ⟨_⟩ x σ⟩ _ _
 simp(disch:=omega)only[go_sem]
 refine qB (anC f caps p xs hl hf hg hc hc5 hn hr) (by simp(disch:=omega)only[go_sem,hc,hc5]) ?_
 rintro r hs ⟨i,rfl,rfl,hi⟩
 refine⟨by simp[qC],?_⟩
 simp(disch:=omega)only[go_sem]
 refine qh [] [] [] [.v (.bool (decide (0≤i)))] rfl (by simp(disch:=omega)only[go_sem]) (by simp(disch:=omega)only[go_sem]) (by simp) (by simp[AV.pu,zl]) ⟨?_,rfl⟩
 have:decide (0≤i)=xs.any p:=by rw[Bool.eq_iff_iff,decide_eq_true_eq,hi,List.any_eq_true]
 rw[this];rfl
theorem anJ(g:Nat)(p:Int→Bool)(xs:List Int)(hl:xs.length≤2^40)(hf:∀x,Con Tryz.prog g true [.v (.int .i64 x)] [] (Yu (p x)))(hg:qn Tryz.prog g):
  Con Tryz.prog 298 true [.sl xs.length (qb xs),.fn g []] [] (Yu (xs.all p)):=by
 refine Con.of_aw Tryz.func298 rfl Tryz.ntmps298 (by simp) (by simp) (by simp) (W.sound ?_)
 show @W Tryz.prog 9 ⟨_⟩ ⟨fun x σ=>@q9 _ _ _ ⟨_⟩ _ ⟨_⟩ x σ⟩ _ _
 simp(disch:=omega)only[go_sem]
 refine qB (XV 320 [.fp [.fn g []] 0] (fun x=> !p x) xs hl (fun x=>agV g p x (hf x) hg) (by simp(disch:=omega)only[go_sem]) (fun h=>rfl) (fun h=>rfl) (fun ks=>by simp(disch:=omega)only[go_sem]) (fun ρ=>rfl)) (by simp(disch:=omega)only[go_sem]) ?_
 rintro r hs ⟨rfl,rfl⟩
 refine⟨by simp[qC],?_⟩
 simp(disch:=omega)only[go_sem]
 refine qh [] [] [] [.v (.bool (!xs.any fun x=> !p x))] rfl (by simp(disch:=omega)only[go_sem]) (by simp(disch:=omega)only[go_sem]) (by simp) (by simp[AV.pu,zl]) ⟨?_,rfl⟩
 have:(!xs.any fun x=> !p x)=xs.all p:=by rw[List.all_eq_not_any_not]
 rw[this];rfl
end Go.Ab
namespace Go.Ab
open Go Go.Proofs
theorem avf(xs:List Int)(hl:xs.length≤2^40):Con Tryz.prog 251 true [.ag [.sl xs.length (qb xs)]] [] (Yu (YE xs)):=by
 refine Con.of_aw Tryz.func251 rfl Tryz.ntmps251 (by simp) (by simp) (by simp) (W.sound ?_)
 show @W Tryz.prog 29 ⟨_⟩ ⟨fun x σ=>@q9 _ _ _ ⟨_⟩ _ ⟨_⟩ x σ⟩ _ _
 have en:((xs.length:Int)-1).toNat=xs.length-1:=by omega
 simp(disch:=omega)only[go_sem]
 refine qg (fun h1=>?_) (fun h1=>?_)
 ·simp(disch:=omega)only[go_sem,h1]
  refine qB (anJ 299 (fun x=>decide (0≤x)&&decide (x≤65535)) xs hl anq (by simp(disch:=omega)only[go_sem])) (by simp(disch:=omega)only[go_sem]) ?_
  rintro r hs ⟨rfl,rfl⟩
  refine⟨by simp[qC],?_⟩
  simp(disch:=omega)only[go_sem]
  refine Qu (fun h2=>?_) (fun h2=>?_)
  ·simp(disch:=omega)only[go_sem,h2]
   refine z7 (fun h3=>?_) (fun h3=>?_)
   ·simp(disch:=omega)only[go_sem,h3,en]
    refine⟨by omega,by omega,?_⟩
    refine qx (by simp(disch:=omega)only[go_sem]) (by simp(disch:=omega)only[go_sem]) ⟨?_,rfl⟩
    have e1:decide (xs.length≤100)=true:=by simp;omega
    have e2:decide (xs.length=0)=false:=by simp;intro h;subst h;simp at h3
    show AV.v (.bool _)=AV.v (.bool _)
    unfold YE
    rw[e1,h2,e2]
    simp
   ·simp(disch:=omega)only[go_sem,h3]
    refine qx (by simp(disch:=omega)only[go_sem]) (by simp(disch:=omega)only[go_sem]) ⟨?_,rfl⟩
    have e1:decide (xs.length≤100)=true:=by simp;omega
    have e2:decide (xs.length=0)=true:=by simp;exact List.length_eq_zero_iff.1 (by omega)
    show AV.v (.bool _)=AV.v (.bool _)
    unfold YE
    rw[e1,h2,e2]
    simp
  ·simp(disch:=omega)only[go_sem,h2]
   refine qx (by simp(disch:=omega)only[go_sem]) (by simp(disch:=omega)only[go_sem]) ⟨?_,rfl⟩
   show AV.v (.bool _)=AV.v (.bool _)
   unfold YE
   rw[h2];simp
 ·simp(disch:=omega)only[go_sem,h1]
  exact qx (by simp(disch:=omega)only[go_sem]) (by simp(disch:=omega)only[go_sem]) ⟨by simp[YE,zl];omega,rfl⟩
end Go.Ab
namespace Go.Ab
open Go Go.Proofs
theorem Con.boolI{P:Program}{f:FuncId}{args:List AV}{b:Bool}(h:Con P f true args [] (Yu b)):Con P f true args [] (isA (.v (.bool b))):=
 (Con.len h).mono fun r hs bs ⟨⟨h1,h2⟩,h3⟩=>⟨h1,h2,h3⟩
theorem jg(n lo hi:Int):Con Tryz.prog 85 true [.v (.int .i64 n),.v (.int .i64 lo),.v (.int .i64 hi)] [] (isA (.v (.bool (decide (lo≤n)&&decide (n≤hi))))):=
 Con.boolI (YK n lo hi)
theorem anp(xs:List Int)(hl:xs.length≤2^40):Con Tryz.prog 251 true [.ag [.sl xs.length (qb xs)]] [] (isA (.v (.bool (YE xs)))):=Con.boolI (avf xs hl)
theorem agw(s:Bool)(xs:List Int)(hl:xs.length≤2^40):Con Tryz.prog 165 true [.ag [.v (.bool s),.sl xs.length (qb xs)]] [] (isA (.v (.bool (yQ s xs)))):=by
 refine Con.of_aw Tryz.func165 rfl Tryz.ntmps165 (by simp) (by simp) (by simp) (W.sound ?_)
 show @W Tryz.prog 18 ⟨_⟩ ⟨fun x σ=>@q9 _ _ _ ⟨_⟩ _ ⟨_⟩ x σ⟩ _ _
 simp(disch:=omega)only[go_sem]
 refine qj (anp xs hl) ?_
 simp(disch:=omega)only[go_sem]
 repeat' first
  |simp(disch:=omega)only[go_sem, *]
  |(with_reducible refine qg (fun _=>?_) (fun _=>?_))
  |(with_reducible refine z7 (fun _=>?_) (fun _=>?_))
  |(with_reducible refine aum (fun _=>?_) (fun _=>?_))
  |(with_reducible refine Qu (fun _=>?_) (fun _=>?_))
 all_goals exact qx (by simp(disch:=omega)only[go_sem]) (by simp(disch:=omega)only[go_sem]) ⟨by simp_all[zl,yQ]<;>omega,rfl,rfl⟩
def ovB(s:Bool)(mode:Int):Bool:=decide (mode=1)||((decide (mode=2)&&s)||(decide (mode=3)&& !s))
def flB(k:Int)(s:Bool)(m e:Int):Bool:=
 if k=1 then(decide (-1074≤e)&&decide (e≤971))&&((decide (4503599627370496≤m)&&decide (m≤9007199254740991))||((decide (1≤m)&&decide (m≤4503599627370495))&&decide (e= -1074)))
 else if k=0∨k=2 then decide (m=0)&&decide (e=0)else((decide (k=3)&&decide (m=0))&&decide (e=0))&& !s
end Go.Ab
namespace Go.Ab
open Go Go.Proofs
def JP(top:Int):Int:=if-1074>top-53 then-1074 else top-53
def flE(rm:Nat)(re:Int):Int:=JP ((bl rm:Int)+re)
def flM(rm:Nat)(re:Int):Nat:=oM rm*2^(oE rm re-flE rm re).toNat
def aTh(top:Int)(same:Bool):Int:=if same then 0 else if top≤ -1022 then 5 else 1
def flK(s:Bool)(mode:Int)(rm:Nat)(re:Int):Int:=if rm=0 then 0 else if 1024<(bl rm:Int)+re then(if ovB s mode then 1 else 2)else 1
def bk8(s:Bool)(mode:Int)(rm:Nat)(re:Int):Int:=if rm=0 then 0 else if 1024<(bl rm:Int)+re then(if ovB s mode then 9007199254740991 else 0)else(flM rm re:Int)
def bk9(s:Bool)(mode:Int)(rm:Nat)(re:Int):Int:=if rm=0 then 0 else if 1024<(bl rm:Int)+re then(if ovB s mode then 971 else 0)else flE rm re
def blW(top:Int)(same:Bool)(rm:Nat)(re:Int):Int:=if rm≠0∧1024<(bl rm:Int)+re then 3 else aTh top same
end Go.Ab
namespace Go.Ab
open Go
def qr{X:Type}(f:X→List AV)(l:List X):List AV:=(l.map f).flatten
section
variable {X:Type}{f:X→List AV}{z:Nat}{l:List X}
theorem j0:qr f []=[]:=by simp[qr]
theorem zq{x:X}:qr f (x::l)=f x++qr f l:=by simp[qr]
theorem yz(hz:∀x,(f x).length=z):(qr f l).length=l.length*z:=by
 induction l with
 |nil=>simp[qr]
 |cons x r ih=>rw[zq,List.length_append,hz,ih,List.length_cons,Nat.add_mul,Nat.one_mul,Nat.add_comm]
theorem aHr(hz:∀x,(f x).length=z)(i:Nat):(qr f l).drop (i*z)=qr f (l.drop i):=by
 induction l generalizing i with
 |nil=>simp[qr]
 |cons x r ih=>
  cases i with
  |zero=>simp
  |succ i=>
   rw[zq,List.drop_succ_cons,←ih,Nat.add_mul,Nat.one_mul,Nat.add_comm,←List.drop_drop,List.drop_left' (hz x)]
theorem aHq(hz:∀x,(f x).length=z)(i:Nat):(qr f l).take (i*z)=qr f (l.take i):=by
 induction l generalizing i with
 |nil=>simp[qr]
 |cons x r ih=>
  cases i with
  |zero=>simp[j0]
  |succ i=>
   rw[zq,List.take_succ_cons,zq,←ih,Nat.add_mul,Nat.one_mul,Nat.add_comm,←hz x,List.take_length_add_append]
theorem aQB(hz:∀x,(f x).length=z)(o n:Nat):cut (qr f l) (o*z) (n*z)=qr f ((l.drop o).take n):=by
 rw[cut,aHr hz,aHq hz]
theorem Jy(hz:∀x,(f x).length=z){i:Nat}(hi:i<l.length)(d:X):cut (qr f l) (i*z) z=f (l.getD i d):=by
 have h:=aQB (l:=l) hz i 1
 rw[Nat.one_mul]at h
 have e:(l.drop i).take 1=[l.getD i d]:=by
  rw[List.drop_eq_getElem_cons hi,List.getD_eq_getElem?_getD,List.getElem?_eq_getElem hi];rfl
 rw[h,e,zq,j0,List.append_nil]
theorem Zn{ρ:Nat→Nat}(h:∀x,zR ρ (f x)=f x):zR ρ (qr f l)=qr f l:=by
 induction l with
 |nil=>rfl
 |cons x r ih=>
  rw[zq]
  have:∀a b:List AV,zR ρ (a++b)=zR ρ a++zR ρ b:=fun a b=>by simp[q8]
  rw[this,h,ih]
theorem QU{hp:Nat→Ob}{k:Nat}(h:∀x,(f x).map (qM hp k)=f x):(qr f l).map (qM hp k)=qr f l:=by
 induction l with
 |nil=>rfl
 |cons x r ih=>rw[zq,List.map_append,h,ih]
theorem Zo{p:Nat→Prop}(h:∀x,AllL p (f x)):AllL p (qr f l):=by
 induction l with
 |nil=>simp[qr,AllL]
 |cons x r ih=>rw[zq];exact AllL.append (h x) ih
theorem aIi{h:Nat→Ob}{sz o:Nat}{K:AV→Prop}:@QG true sz h (.fp (qr f l) o) ⟨K⟩=(o+sz≤(qr f l).length∧K (.ag (cut (qr f l) o sz))):=ID rfl
theorem yV{l':List X}:qr f l++qr f l'=qr f (l++l'):=by simp[qr]
end
structure FlV where
 k:Int
 s:Bool
 m:Int
 e:Int
def FlV.cs(x:FlV):List AV:=[.v (.int .i64 x.k),.v (.bool x.s),.v (.int .i64 x.m),.v (.int .i64 x.e)]
theorem bbL(x:FlV):x.cs.length=4:=rfl
theorem aLP{ρ:Nat→Nat}(x:FlV):zR ρ x.cs=x.cs:=rfl
theorem auF{hp:Nat→Ob}{k:Nat}(x:FlV):x.cs.map (qM hp (k+1))=x.cs:=rfl
theorem aLQ{p:Nat→Prop}(x:FlV):AllL p x.cs:=by simp[FlV.cs,AllL,AV.All]
theorem aSG{l:List FlV}:(qr FlV.cs l).length=l.length*4:=yz bbL
theorem aSF{ρ:Nat→Nat}{l:List FlV}:zR ρ (qr FlV.cs l)=qr FlV.cs l:=Zn aLP
theorem aIJ{hp:Nat→Ob}{k:Nat}{l:List FlV}:(qr FlV.cs l).map (qM hp (k+1))=qr FlV.cs l:=QU auF
theorem aSH{p:Nat→Prop}{l:List FlV}:AllL p (qr FlV.cs l)=True:=eq_true (Zo aLQ)
theorem aIK{p:Nat→Prop}{x:FlV}:AllL p x.cs=True:=eq_true (aLQ x)
attribute [go_sem] aIi aSG aSF aIJ aSH aIK aLP auF
end Go.Ab
namespace Go.Ab
open Go Go.Proofs
section
variable (g:Nat)(p:FlV→Bool)
end
def bpp(x:FlV):Bool:=flB x.k x.s x.m x.e
end Go.Ab
namespace Go.Ab
open Go Go.Proofs
def flV(s:Bool)(m:Nat)(e mode:Int)(z:Bool):FlV:=
 if m=0 then⟨0,z,0,0⟩else
  ⟨flK s mode (roM s m e (JP (bl m+e)) mode) (roE m e (JP (bl m+e))),s,bk8 s mode (roM s m e (JP (bl m+e)) mode) (roE m e (JP (bl m+e))),bk9 s mode (roM s m e (JP (bl m+e)) mode) (roE m e (JP (bl m+e)))⟩
def flG(s:Bool)(m:Nat)(e mode:Int):Int:=
 if m=0 then 0 else blW (bl m+e) (roX m e (JP (bl m+e))) (roM s m e (JP (bl m+e)) mode) (roE m e (JP (bl m+e)))
theorem ank(s1:Bool)(m1:Nat)(e1:Int)(s2:Bool)(m2:Nat)(e2:Int)(h1:bl m1≤4000000)(h2:bl m2≤4000000)(he1: -2^40≤e1∧e1≤2^40)(he2: -2^40≤e2∧e2≤2^40):
  Con Tryz.prog 168 false [.ag [.v (.bool (s1)),.sl (lim (m1)).length (qb (lim (m1))),.v (.int .i64 (e1))],.ag [.v (.bool (s2)),.sl (lim (m2)).length (qb (lim (m2))),.v (.int .i64 (e2))]] [] (isA (.ag [.v (.bool ((s1 != s2)&&decide (m1*m2≠0))),.sl (lim (m1*m2)).length (qb (lim (m1*m2))),.v (.int .i64 (e1+e2))])):=by
 refine Con.frzA ?_
 refine Con.of_w (rs:=[.cell 4 117]) Tryz.func168 rfl Tryz.ntmps168 rfl ?_
 simp(disch:=omega)only[go_sem]
 have l1:=qz h1
 have l2:=qz h2
 refine qa (YM m1 m2 (by omega) (by omega)) ?_
 simp(disch:=omega)only[go_sem]
 have hl:(lim (m1*m2)).length≤2000000:=by have:=qz (Nat.le_trans (jo m1 m2) (Nat.add_le_add h1 h2));omega
 have hq:decide ((0:Int)<((lim (m1*m2)).length:Int))=decide (m1*m2≠0):=by
  rw[decide_eq_decide]
  exact⟨fun h e=>by rw[e,qt]at h;simp at h,fun h=>by have:=y3 h;omega⟩
 refine Qu (fun h3=>?_) (fun h3=>?_)
 ·simp(disch:=omega)only[go_sem,h3,hq]
  exact qm (hp:=by simp(disch:=omega)only[go_sem,h3,Bool.true_and])
 ·simp(disch:=omega)only[go_sem,h3]
  exact qm (hp:=by simp(disch:=omega)only[go_sem,h3,Bool.false_and])
end Go.Ab
namespace Go.Ab
open Go Go.Proofs
theorem aW6(m:Nat):decide ((0:Int)<((lim m).length:Int))=decide (m≠0):=by
 rw[decide_eq_decide]
 exact⟨fun h e=>by rw[e,qt]at h;simp at h,fun h=>by have:=y3 h;omega⟩
theorem J5(m:Nat)(hl:(lim m).length≤2^39):Con Tryz.prog 284 false [.sl (lim (m)).length (qb (lim (m)))] [] (isA (.ag [.sl (lim (m)).length (qb (lim (m)))])):=(jJ false (lim m) m hl (zd m) (q6 m)).natF
theorem zx(n:Nat)(hn:n<2^63):Con Tryz.prog 257 false [.v (.int .i64 n)] [] (isA (.ag [.sl (lim (n)).length (qb (lim (n)))])):=(aib false n hn).natF
theorem yp(a b:Nat)(la:(lim a).length≤2000000)(lb:(lim b).length≤2000000):Con Tryz.prog 256 false [.ag [.sl (lim (a)).length (qb (lim (a)))],.ag [.sl (lim (b)).length (qb (lim (b)))]] [] (isA (.ag [.sl (lim (a+b)).length (qb (lim (a+b)))])):=(avx false a b la lb).natF
theorem jK(a b:Nat)(la:(lim a).length≤1000000)(lb:(lim b).length≤1000000):Con Tryz.prog 313 false [.ag [.sl (lim (a)).length (qb (lim (a)))],.ag [.sl (lim (b)).length (qb (lim (b)))]] [] (isA (.ag [.sl (lim (a*b)).length (qb (lim (a*b)))])):=(avw false a b la lb).natF
theorem jI(a k:Nat)(la:(lim a).length≤400000)(hk:k≤5000000):Con Tryz.prog 276 false [.ag [.sl (lim (a)).length (qb (lim (a)))],.v (.int .i64 k)] [] (isA (.ag [.sl (lim (a*2^k)).length (qb (lim (a*2^k)))])):=(avv false a k la hk).natF
theorem qS(s:Bool)(m:Nat)(hl:(lim m).length≤2^39):Con Tryz.prog 221 false [.v (.bool s),.ag [.sl (lim (m)).length (qb (lim (m)))]] [] (isA (.ag [.v (.bool (s&&decide (m≠0))),.sl (lim (m)).length (qb (lim (m)))])):=by
 refine Con.frzA ?_
 refine Con.of_w (rs:=[.cell 4 40]) Tryz.func221 rfl Tryz.ntmps221 rfl ?_
 simp(disch:=omega)only[go_sem]
 refine qo rfl [⟨0,[],[]⟩,⟨1,[],[]⟩,⟨2,[],[]⟩,⟨3,[],[]⟩,⟨4,[],[]⟩,⟨5,[],[]⟩,⟨6,[],[]⟩,⟨7,[3],[]⟩,⟨8,[3],[]⟩,⟨9,[3],[]⟩,⟨10,[],[]⟩,⟨11,[],[]⟩] (by kernel_rfl) ?_
 simp(disch:=omega)only[go_sem]
 refine Qu (fun h1=>?_) (fun h1=>?_)
 ·simp(disch:=omega)only[go_sem,h1,aW6]
  refine qa (J5 m hl) ?_
  simp(disch:=omega)only[go_sem]
  exact qm (hp:=by simp(disch:=omega)only[go_sem,h1,Bool.true_and])
 ·simp(disch:=omega)only[go_sem,h1]
  refine qa (J5 m hl) ?_
  simp(disch:=omega)only[go_sem]
  exact qm (hp:=by simp(disch:=omega)only[go_sem,h1,Bool.false_and])
theorem XR(n:Int)(h: -9223372036854775808≤n∧n<9223372036854775808):Con Tryz.prog 174 false [.v (.int .i64 n)] [] (isA (.ag [.v (.bool (decide (n<0))),.sl (lim (n.natAbs)).length (qb (lim (n.natAbs)))])):=by
 refine Con.frzA ?_
 refine Con.of_aw Tryz.func174 rfl Tryz.ntmps174 (by simp) (by simp) (by simp) (W.sound ?_)
 show @W Tryz.prog 15 ⟨_⟩ ⟨fun x σ=>@q9 _ _ _ ⟨_⟩ _ ⟨_⟩ x σ⟩ _ _
 simp(disch:=omega)only[go_sem]
 refine qg (fun h1=>?_) (fun h1=>?_)
 ·simp(disch:=omega)only[go_sem,h1]
  have e1:0-(n+1)=(((0-(n+1)).toNat:Nat):Int):=by omega
  refine qa (zx (0-(n+1)).toNat (by omega)) ?_ (by simp(disch:=omega)only[go_sem,←e1])
  simp(disch:=omega)only[go_sem]
  refine qa (zx 1 (by omega)) ?_
  simp(disch:=omega)only[go_sem]
  have l1:=qz (m:=(0-(n+1)).toNat) (B:=64) (qX.2 (by omega))
  have l2:=qz (m:=1) (B:=64) (by decide)
  refine qa (yp (0-(n+1)).toNat 1 (by omega) (by omega)) ?_
  simp(disch:=omega)only[go_sem]
  have e2:(0-(n+1)).toNat+1=n.natAbs:=by omega
  have l3:=qz (m:=(0-(n+1)).toNat+1) (B:=64) (qX.2 (by omega))
  refine qa (qS true ((0-(n+1)).toNat+1) (by omega)) ?_
  simp(disch:=omega)only[go_sem]
  refine qW (by simp(disch:=omega)only[go_sem]) ?_
  show qM _ 6 _=_
  have e3:decide (n.natAbs≠0)=true:=by simp;omega
  rw[e2]
  simp(disch:=omega)only[go_sem,e3,h1,Bool.true_and]
 ·simp(disch:=omega)only[go_sem,h1]
  have e1:n=((n.natAbs:Nat):Int):=by omega
  refine qa (zx n.natAbs (by omega)) ?_ (by simp(disch:=omega)only[go_sem,←e1])
  simp(disch:=omega)only[go_sem]
  have l3:=qz (m:=n.natAbs) (B:=64) (qX.2 (by omega))
  refine qa (qS false n.natAbs (by omega)) ?_
  simp(disch:=omega)only[go_sem]
  exact qm (hp:=by simp(disch:=omega)only[go_sem,h1,Bool.false_and])
theorem avr(s1:Bool)(m1:Nat)(s2:Bool)(m2:Nat)(h1:bl m1≤4000000)(h2:bl m2≤4000000):Con Tryz.prog 308 false [.ag [.v (.bool (s1)),.sl (lim (m1)).length (qb (lim (m1)))],.ag [.v (.bool (s2)),.sl (lim (m2)).length (qb (lim (m2)))]] [] (isA (.ag [.v (.bool ((s1 != s2)&&decide (m1*m2≠0))),.sl (lim (m1*m2)).length (qb (lim (m1*m2)))])):=by
 refine Con.frzA ?_
 refine Con.of_w (rs:=[.cell 4 40]) Tryz.func308 rfl Tryz.ntmps308 rfl ?_
 simp(disch:=omega)only[go_sem]
 have l1:=qz h1
 have l2:=qz h2
 refine qo rfl [⟨0,[],[]⟩,⟨1,[],[]⟩,⟨2,[1],[]⟩,⟨3,[1],[]⟩,⟨4,[],[]⟩,⟨5,[1,3],[]⟩,⟨6,[1,3],[]⟩,⟨7,[1,3,6],[]⟩,⟨8,[1,3,6],[]⟩,⟨9,[1,3],[]⟩,⟨10,[],[]⟩,⟨11,[],[]⟩] (by kernel_rfl) ?_
 simp(disch:=omega)only[go_sem]
 refine qa (jK m1 m2 (by omega) (by omega)) ?_
 simp(disch:=omega)only[go_sem]
 have l3:=qz (Nat.le_trans (jo m1 m2) (Nat.add_le_add h1 h2))
 refine qa (qS (s1 != s2) (m1*m2) (by omega)) ?_
 simp(disch:=omega)only[go_sem]
 exact qm
theorem jh(s:Bool)(m:Nat)(e:Int)(hm:bl m≤8000000)(he: -2^40≤e∧e≤2^40):Con Tryz.prog 173 false [.ag [.v (.bool (s)),.sl (lim (m)).length (qb (lim (m)))],.v (.int .i64 e)] [] (isA (.ag [.v (.bool (oS s m)),.sl (lim (oM m)).length (qb (lim (oM m))),.v (.int .i64 (oE m e))])):=by
 refine Con.frzA ?_
 refine Con.of_aw Tryz.func173 rfl Tryz.ntmps173 (by simp) (by simp) (by simp) (W.sound ?_)
 show @W Tryz.prog 26 ⟨_⟩ ⟨fun x σ=>@q9 _ _ _ ⟨_⟩ _ ⟨_⟩ x σ⟩ _ _
 simp(disch:=omega)only[go_sem]
 have hl:=qz hm
 refine qg (fun h1=>?_) (fun h1=>?_)
 ·simp(disch:=omega)only[go_sem,h1]
  have h0:m=0:=qG.1 (List.length_eq_zero_iff.1 (by omega))
  subst h0
  refine qW (by simp(disch:=omega)only[go_sem]) ?_
  show qM _ 6 _=_
  simp only[oS,jd,oE,qt,if_true]
  simp(disch:=omega)only[go_sem]
 ·have h0:m≠0:=fun e=>h1 (by rw[e,qt];rfl)
  have ht:=yt h0
  simp(disch:=omega)only[go_sem,h1]
  refine qj (J4 m (by omega)) ?_
  simp(disch:=omega)only[go_sem]
  refine qo rfl [⟨0,[],[]⟩,⟨1,[],[]⟩,⟨2,[1],[]⟩,⟨3,[1],[]⟩,⟨4,[1,3],[]⟩,⟨7,[1,3],[]⟩,⟨8,[1,3],[]⟩,⟨9,[1,3],[]⟩,⟨5,[1],[]⟩,⟨6,[],[]⟩,⟨10,[],[]⟩,⟨11,[],[]⟩] (by kernel_rfl) ?_
  simp(disch:=omega)only[go_sem]
  refine qa (acl m (tz m) (by omega) (by omega)) ?_
  simp(disch:=omega)only[go_sem]
  have l3:=qz (Nat.le_trans (yK m (2^tz m)) hm)
  refine qa (qS s (m/2^tz m) (by omega)) ?_
  simp(disch:=omega)only[go_sem]
  refine qW (by simp(disch:=omega)only[go_sem]) ?_
  show qM _ 6 _=_
  have h3:decide (m/2^tz m≠0)=true:=by
   have:=(QY h0).1
   simp only[decide_eq_true_eq];omega
  simp only[oS,oM,oE,if_neg h0]
  simp(disch:=omega)only[go_sem,h3,Bool.and_true]
theorem avo(s1:Bool)(m1:Nat)(e1:Int)(s2:Bool)(m2:Nat)(e2:Int)(h1:bl m1≤4000000)(h2:bl m2≤4000000)(he1: -2^39≤e1∧e1≤2^39)(he2: -2^39≤e2∧e2≤2^39):
  Con Tryz.prog 267 false [.ag [.v (.bool (s1)),.sl (lim (m1)).length (qb (lim (m1))),.v (.int .i64 (e1))],.ag [.v (.bool (s2)),.sl (lim (m2)).length (qb (lim (m2))),.v (.int .i64 (e2))]] [] (isA (.ag [.v (.bool (oS ((s1 != s2)&&decide (m1*m2≠0)) (m1*m2))),.sl (lim (oM (m1*m2))).length (qb (lim (oM (m1*m2)))),.v (.int .i64 (oE (m1*m2) (e1+e2)))])):=by
 refine Con.frzA ?_
 refine Con.of_w (rs:=[.cell 4 42]) Tryz.func267 rfl Tryz.ntmps267 rfl ?_
 simp(disch:=omega)only[go_sem]
 refine qo rfl [⟨0,[],[]⟩,⟨1,[],[]⟩,⟨2,[1],[]⟩,⟨3,[1],[]⟩,⟨5,[1,3],[]⟩,⟨6,[1,3],[]⟩,⟨7,[1,3,6],[]⟩,⟨8,[1,3,6],[]⟩,⟨9,[1,3],[]⟩,⟨4,[6,8],[]⟩,⟨10,[],[]⟩,⟨11,[],[]⟩] (by kernel_rfl) ?_
 simp(disch:=omega)only[go_sem]
 refine qa (avr s1 m1 s2 m2 h1 h2) ?_
 simp(disch:=omega)only[go_sem]
 have h3:=Nat.le_trans (jo m1 m2) (Nat.add_le_add h1 h2)
 refine qa (jh ((s1 != s2)&&decide (m1*m2≠0)) (m1*m2) (e1+e2) (by omega) (by omega)) ?_
 simp(disch:=omega)only[go_sem]
 exact qm
theorem avm(s:Bool)(m:Nat)(e:Int)(hm:(lim m).length≤2^40)(he: -2^40≤e∧e≤2^40):Con Tryz.prog 288 true [.ag [.v (.bool (s)),.sl (lim (m)).length (qb (lim (m))),.v (.int .i64 (e))]] [] (isA (.v (.int .i64 (if m=0 then 0 else e+(bl m:Int))))):=by
 refine Con.of_w (rs:=[.tmp 2]) Tryz.func288 rfl Tryz.ntmps288 rfl ?_
 simp(disch:=omega)only[go_sem]
 refine qg (fun h1=>?_) (fun h1=>?_)
 ·simp(disch:=omega)only[go_sem,h1]
  have h0:m=0:=qG.1 (List.length_eq_zero_iff.1 (by omega))
  rw[if_pos h0]
  exact qu
 ·have h0:m≠0:=fun e=>h1 (by rw[e,qt];rfl)
  have:=Qz (m:=m)
  simp(disch:=omega)only[go_sem,h1]
  refine qo rfl [⟨0,[],[]⟩,⟨1,[],[]⟩,⟨2,[1],[]⟩,⟨3,[1],[]⟩,⟨4,[1],[]⟩,⟨5,[1],[]⟩,⟨6,[],[]⟩,⟨7,[],[]⟩] (by kernel_rfl) ?_
  simp(disch:=omega)only[go_sem]
  refine qj (YV m hm) ?_
  simp(disch:=omega)only[go_sem]
  rw[if_neg h0]
  exact qu
end Go.Ab
namespace Go.Ab
def aob(neg:Bool)(m k:Nat)(mode:Int):Bool:=
 if mode=1 then false else if mode=2 then !neg else if mode=3 then neg else if mode=4 then decide (m/2^(k-1) % 2=1)
 else decide (m/2^(k-1) % 2=1)&&(decide (tz m<k-1)||decide (m/2^k % 2=1))
theorem aIu{m k:Nat}(hk:1≤k):m/2^(k-1) % 2=1↔2^k≤m % 2^k*2:=by
 obtain⟨j,rfl⟩:∃j,k=j+1:=⟨k-1,by omega⟩
 rw[Nat.add_sub_cancel]
 have hp:0<2^j:=Nat.pow_pos (by omega)
 have h1:m % 2^(j+1)/2^j=m/2^j % 2:=by rw[Nat.pow_succ,Nat.mod_mul_right_div_self]
 have h2:m % 2^(j+1)<2^(j+1):=Nat.mod_lt _ (Nat.pow_pos (by omega))
 rw[←h1]
 generalize m % 2^(j+1)=r at*
 rw[Nat.pow_succ]at*
 constructor
 ·intro h
  have h3:=(Nat.le_div_iff_mul_le hp).1 (show 1≤r/2^j by
   rcases Nat.eq_zero_or_pos (r/2^j)with e|e
   ·rw[e]at h;simp at h
   ·exact e)
  omega
 ·intro h
  have h3:1≤r/2^j:=(Nat.le_div_iff_mul_le hp).2 (by omega)
  have h4:r/2^j<2:=(Nat.div_lt_iff_lt_mul hp).2 (by omega)
  omega
theorem ag1{a b:Int}:(0<zy a b↔b<a)∧(zy a b=0↔a=b)∧(0≤zy a b↔b≤a):=by
 unfold zy
 split
 ·omega
 ·split<;>omega
theorem ahk{m:Nat}(h:m % 2=1):tz m=0:=Jh (a:=m/2) (by simp;omega)
theorem aUQ{neg:Bool}{m k:Nat}{mode:Int}(hm:m % 2=1)(hk:1≤k)(h0:0≤mode∧mode≤4):
  aob neg m k mode=rup neg (decide (m/2^k % 2=1)) (zy ((m % 2^k*2:Nat):Int) ((2^k:Nat):Int)) mode:=by
 have hb:=aIu (m:=m) hk
 obtain⟨c1,c2,c3⟩:=ag1 (a:=((m % 2^k*2:Nat):Int)) (b:=((2^k:Nat):Int))
 generalize zy ((m % 2^k*2:Nat):Int) ((2^k:Nat):Int)=c at*
 have ht:=ahk hm
 unfold aob rup
 rcases(by omega:mode=0∨mode=1∨mode=2∨mode=3∨mode=4)with rfl|rfl|rfl|rfl|rfl
 ·rw[if_neg (by omega),if_neg (by omega),if_neg (by omega),if_neg (by omega),if_neg (by omega),if_neg (by omega),if_pos rfl,ht]
  rw[Bool.eq_iff_iff]
  simp only[Bool.and_eq_true,Bool.or_eq_true,decide_eq_true_eq,c1,c2]
  rw[hb]
  rcases(by omega:k=1∨1<k)with rfl|h
  ·have:m % 2^1=1:=by rw[Nat.pow_one];exact hm
   rw[this];simp
  ·have hodd:m % 2^k % 2=1:=by
    obtain⟨j,rfl⟩:∃j,k=j+1:=⟨k-1,by omega⟩
    rw[Nat.pow_succ,Nat.mul_comm,Nat.mod_mul_right_mod];exact hm
   have h4:2^k % 4=0:=by
    obtain⟨j,rfl⟩:∃j,k=j+2:=⟨k-2,by omega⟩
    rw[Nat.pow_add];omega
   omega
 ·simp
 ·simp
 ·simp
 ·rw[if_neg (by omega),if_neg (by omega),if_neg (by omega),if_pos rfl,if_neg (by omega),if_neg (by omega),if_neg (by omega),if_pos rfl]
  rw[decide_eq_decide,hb,c3];omega
theorem aRs{m k:Nat}(hm:m % 2=1)(hk:1≤k):m % 2^k≠0:=by
 obtain⟨j,rfl⟩:∃j,k=j+1:=⟨k-1,by omega⟩
 intro h
 have:m % 2^(j+1) % 2=1:=by rw[Nat.pow_succ,Nat.mul_comm,Nat.mod_mul_right_mod];exact hm
 omega
/-! ### The normal form and rounding-/
theorem aLC{m k:Nat}:oM (m*2^k)=oM m:=by
 by_cases h:m=0
 ·subst h;simp
 ·unfold oM
  rw[Zg h,Nat.pow_add,Nat.mul_comm (2^tz m),←Nat.div_div_eq_div_mul,Nat.mul_div_cancel _ (Nat.pow_pos (by omega))]
theorem Jc{s:Bool}{a b k:Nat}{mode:Int}:rq s (a*2^k) (b*2^k) mode=rq s a b mode:=by
 have hp:0<2^k:=Nat.pow_pos (by omega)
 have h1:a*2^k/(b*2^k)=a/b:=Nat.mul_div_mul_right _ _ hp
 have h2:a*2^k % (b*2^k)=a % b*2^k:=Nat.mul_mod_mul_right _ _ _
 have h3:zy ((a % b*2^k*2:Nat):Int) ((b*2^k:Nat):Int)=zy ((a % b*2:Nat):Int) (b:Int):=by
  have e1:a % b*2^k*2=a % b*2*2^k:=by grind
  rw[e1]
  have h4:∀x y:Nat,x*2^k<y*2^k↔x<y:=fun x y=>Nat.mul_lt_mul_right hp
  have key:∀x y X Y:Nat,(X<Y↔x<y)→(Y<X↔y<x)→zy (X:Int) (Y:Int)=zy (x:Int) (y:Int):=by
   intro x y X Y p q
   unfold zy
   rcases Nat.lt_trichotomy x y with h|h|h
   ·have:=p.2 h
    rw[if_pos (by omega),if_pos (by omega)]
   ·have g1:¬X<Y:=fun g=>by have:=p.1 g;omega
    have g2:¬Y<X:=fun g=>by have:=q.1 g;omega
    rw[if_neg (by omega),if_neg (by omega),if_neg (by omega),if_neg (by omega)]
   ·have:=q.2 h
    rw[if_neg (by omega),if_pos (by omega),if_neg (by omega),if_pos (by omega)]
  exact key _ _ _ _ (h4 _ _) (h4 _ _)
 unfold rq
 rw[h1,h2,h3]
 by_cases h:a % b=0
 ·rw[if_pos h,if_pos (by rw[h];simp)]
 ·rw[if_neg h,if_neg (by have:=Nat.mul_pos (show 0<a % b by omega) hp;omega)]
theorem aVO{s:Bool}{a:Nat}{mode:Int}:rq s a 1 mode=a:=by unfold rq;simp[Nat.mod_one]
end Go.Ab
namespace Go.Ab
open Go Go.Proofs
theorem avl(neg:Bool)(m k:Nat)(mode:Int)(hl:(lim m).length≤2^40)(hk:1≤k)(hk2:k≤2^40):Con Tryz.prog 280 true [.v (.bool neg),.ag [.sl (lim (m)).length (qb (lim (m)))],.v (.int .i64 k),.v (.int .i64 mode)] [] (isA (.v (.bool (aob neg m k mode)))):=by
 refine Con.of_aw Tryz.func280 rfl Tryz.ntmps280 (by simp) (by simp) (by simp) (W.sound ?_)
 show @W Tryz.prog 44 ⟨_⟩ ⟨fun x σ=>@q9 _ _ _ ⟨_⟩ _ ⟨_⟩ x σ⟩ _ _
 have ek:((k:Int)-1)=((k-1:Nat):Int):=by omega
 have e1:decide (((m/2^(k-1) % 2:Nat):Int)=1)=decide (m/2^(k-1) % 2=1):=by rw[decide_eq_decide];omega
 have e2:decide (((m/2^k % 2:Nat):Int)=1)=decide (m/2^k % 2=1):=by rw[decide_eq_decide];omega
 have e3:decide ((tz m:Int)<((k-1:Nat):Int))=decide (tz m<k-1):=by rw[decide_eq_decide];omega
 simp(disch:=omega)only[go_sem,ek]
 refine qB (Zb m ((k-1:Nat):Int) hl (by omega) (by omega)) (by simp(disch:=omega)only[go_sem,ek]) ?_
 rintro r hs ⟨rfl,rfl,_⟩
 refine⟨by simp[qC],?_⟩
 simp(disch:=omega)only[go_sem,ek,e1]
 refine qj (J4 m hl) ?_
 simp(disch:=omega)only[go_sem]
 refine qg (fun h1=>?_) (fun h1=>?_)
 ·simp(disch:=omega)only[go_sem,h1]
  exact qx (by simp(disch:=omega)only[go_sem]) (by simp(disch:=omega)only[go_sem]) ⟨by simp[zl,aob,h1],rfl,rfl⟩
 ·simp(disch:=omega)only[go_sem,h1]
  refine qg (fun h2=>?_) (fun h2=>?_)
  ·simp(disch:=omega)only[go_sem,h2]
   exact qx (by simp(disch:=omega)only[go_sem]) (by simp(disch:=omega)only[go_sem]) ⟨by simp[zl,aob,h2],rfl,rfl⟩
  ·simp(disch:=omega)only[go_sem,h2]
   refine qg (fun h3=>?_) (fun h3=>?_)
   ·simp(disch:=omega)only[go_sem,h3]
    exact qx (by simp(disch:=omega)only[go_sem]) (by simp(disch:=omega)only[go_sem]) ⟨by simp[zl,aob,h3],rfl,rfl⟩
   ·simp(disch:=omega)only[go_sem,h3]
    refine qg (fun h4=>?_) (fun h4=>?_)
    ·simp(disch:=omega)only[go_sem,h4]
     exact qx (by simp(disch:=omega)only[go_sem]) (by simp(disch:=omega)only[go_sem]) ⟨by simp[zl,aob,h4],rfl,rfl⟩
    ·simp(disch:=omega)only[go_sem,h4]
     refine Qu (fun h5=>?_) (fun h5=>?_)
     ·simp(disch:=omega)only[go_sem,h5]
      refine aum (fun h6=>?_) (fun h6=>?_)
      ·simp(disch:=omega)only[go_sem,h6]
       refine qj (Zb m (k:Int) hl (by omega) (by omega)) ?_
       simp(disch:=omega)only[go_sem]
       have h7:decide (tz m<k-1)=false:=by rw[←e3,←ek];exact h6
       rw[e2]
       refine qx (by simp(disch:=omega)only[go_sem]) (by simp(disch:=omega)only[go_sem]) ⟨?_,rfl,rfl⟩
       show AV.v (.bool _)=AV.v (.bool _)
       unfold aob;rw[if_neg h1,if_neg h2,if_neg h3,if_neg h4,h5,h7];rfl
      ·simp(disch:=omega)only[go_sem,h6]
       have h7:decide (tz m<k-1)=true:=by rw[←e3,←ek];exact h6
       refine qx (by simp(disch:=omega)only[go_sem]) (by simp(disch:=omega)only[go_sem]) ⟨?_,rfl,rfl⟩
       show AV.v (.bool _)=AV.v (.bool _)
       unfold aob;rw[if_neg h1,if_neg h2,if_neg h3,if_neg h4,h5,h7];rfl
     ·simp(disch:=omega)only[go_sem,h5]
      refine qx (by simp(disch:=omega)only[go_sem]) (by simp(disch:=omega)only[go_sem]) ⟨?_,rfl,rfl⟩
      show AV.v (.bool _)=AV.v (.bool _)
      unfold aob;rw[if_neg h1,if_neg h2,if_neg h3,if_neg h4,h5];rfl
def srM(s:Bool)(m:Nat)(e low mode:Int):Nat:=oM (roM s m e low mode)
def srE(s:Bool)(m:Nat)(e low mode:Int):Int:=if low≤e∨m=0 then e else oE (roM s m e low mode) low
theorem agJ(s:Bool)(m:Nat)(e low mode:Int)(hodd:m % 2=1∨m=0)(hs:m=0→s=false)(hmode:0≤mode∧mode≤4)(hm:bl m≤4000000)(he: -1000000≤e∧e≤1000000)(hlo: -1000000≤low∧low≤1000000):
  Con Tryz.prog 215 false [.ag [.v (.bool (s)),.sl (lim (m)).length (qb (lim (m))),.v (.int .i64 (e))],.v (.int .i64 low),.v (.int .i64 mode)] []
   (isA (.tu [.ag [.v (.bool (oS (roS s m e low mode) (roM s m e low mode))),.sl (lim (srM s m e low mode)).length (qb (lim (srM s m e low mode))),.v (.int .i64 (srE s m e low mode))],.v (.bool (roX m e low))])):=by
 refine Con.frzA ?_
 have l1:=qz hm
 refine Con.of_aw Tryz.func215 rfl Tryz.ntmps215 (by simp) (by simp) (by simp) (W.sound ?_)
 show @W Tryz.prog 51 ⟨_⟩ ⟨fun x σ=>@q9 _ _ _ ⟨_⟩ _ ⟨_⟩ x σ⟩ _ _
 simp(disch:=omega)only[go_sem]
 refine z7 (fun h1=>?_) (fun h1=>?_)
 ·have h0:m≠0:=fun e=>h1 (by rw[e,qt];rfl)
  have hod:m % 2=1:=hodd.resolve_right h0
  simp(disch:=omega)only[go_sem,h1]
  refine qg (fun h2=>?_) (fun h2=>?_)
  ·simp(disch:=omega)only[go_sem,h2]
   refine qW (by simp(disch:=omega)only[go_sem]) ?_
   show qM _ 6 _=_
   have ht:=ahk hod
   have e3:oM m=m:=by unfold oM;rw[ht];simp
   simp only[srM,srE,roM,roS,roX,h2,true_or,if_true,oS,if_neg h0,e3]
   simp(disch:=omega)only[go_sem]
  ·simp(disch:=omega)only[go_sem,h2]
   have ek:low-e=(((low-e).toNat:Nat):Int):=by omega
   have hk1:1≤(low-e).toNat:=by omega
   refine qE (acl m (low-e).toNat (by omega) (by omega)) (by simp(disch:=omega)only[go_sem,←ek]) ?_
   rintro r hs ⟨rfl,rfl,_⟩
   refine⟨by simp[qC],?_⟩
   simp(disch:=omega)only[go_sem]
   refine qB (avl s m (low-e).toNat mode (by omega) hk1 (by omega)) (by simp(disch:=omega)only[go_sem,←ek]) ?_
   rintro r hs ⟨rfl,rfl,_⟩
   refine⟨by simp[qC],?_⟩
   simp(disch:=omega)only[go_sem]
   have hc:¬(low≤e∨m=0):=by omega
   have hne:=aRs hod hk1
   have hups:=aUQ (neg:=s) hod hk1 hmode
   have hq:roM s m e low mode=if aob s m (low-e).toNat mode=true then m/2^(low-e).toNat+1 else m/2^(low-e).toNat:=by
    unfold roM rq
    rw[if_neg hc,if_neg hne,←hups]
   have hro:roS s m e low mode=(s&&decide (roM s m e low mode≠0)):=by unfold roS roM;rw[if_neg hc,if_neg hc]
   have hblq:bl (m/2^(low-e).toNat+1)≤4000001:=by
    have h3:=ZB (m/2^(low-e).toNat)
    have h4:=yK m (2^(low-e).toNat)
    omega
   have hblq0:bl (m/2^(low-e).toNat)≤4000001:=Nat.le_trans (zU (by omega)) hblq
   have lq:=qz hblq
   have lq0:=qz hblq0
   have hrx:roX m e low=false:=by unfold roX;rw[if_neg hc];simp[hne]
   have hfin:∀q,roM s m e low mode=q→bl q≤4000001→AV.ag [.v (.bool (oS (s&&decide (q≠0)) q)),.sl (lim (oM q)).length (qb (lim (oM q))),.v (.int .i64 (oE q low))]=AV.ag [.v (.bool (oS (roS s m e low mode) (roM s m e low mode))),.sl (lim (srM s m e low mode)).length (qb (lim (srM s m e low mode))),.v (.int .i64 (srE s m e low mode))]:=by
    intro q hq' _
    rw[hro,hq']
    unfold srM srE
    rw[if_neg hc,hq']
   refine Qu (fun h3=>?_) (fun h3=>?_)
   ·rw[if_pos h3]at hq
    simp(disch:=omega)only[go_sem,h3]
    refine qo rfl [⟨0,[],[]⟩,⟨1,[0],[]⟩,⟨2,[],[]⟩,⟨3,[],[]⟩] (by kernel_rfl) ?_
    simp(disch:=omega)only[go_sem]
    refine qa (zx 1 (by omega)) ?_
    simp(disch:=omega)only[go_sem]
    refine qa (yp (m/2^(low-e).toNat) 1 (by omega) (by have:=qz (m:=1) (B:=1) (by decide);omega)) ?_
    simp(disch:=omega)only[go_sem]
    refine qa (qS s (m/2^(low-e).toNat+1) (by omega)) ?_
    simp(disch:=omega)only[go_sem]
    refine qa (jh (s&&decide (m/2^(low-e).toNat+1≠0)) (m/2^(low-e).toNat+1) low (by omega) (by omega)) ?_
    simp(disch:=omega)only[go_sem]
    refine qW (by simp(disch:=omega)only[go_sem]) ?_
    show qM _ 6 _=_
    rw[←hfin _ hq hblq,hrx]
    simp(disch:=omega)only[go_sem]
   ·rw[if_neg (by rw[h3];simp)]at hq
    simp(disch:=omega)only[go_sem,h3]
    refine qa (qS s (m/2^(low-e).toNat) (by omega)) ?_
    simp(disch:=omega)only[go_sem]
    refine qa (jh (s&&decide (m/2^(low-e).toNat≠0)) (m/2^(low-e).toNat) low (by omega) (by omega)) ?_
    simp(disch:=omega)only[go_sem]
    refine qW (by simp(disch:=omega)only[go_sem]) ?_
    show qM _ 6 _=_
    rw[←hfin _ hq hblq0,hrx]
    simp(disch:=omega)only[go_sem]
 ·have h0:m=0:=qG.1 (List.length_eq_zero_iff.1 (by omega))
  simp(disch:=omega)only[go_sem,h1]
  refine qW (by simp(disch:=omega)only[go_sem]) ?_
  show qM _ 6 _=_
  have hs0:=hs h0
  subst h0
  subst hs0
  simp only[srM,srE,roM,roS,roX,or_true,if_true,oS,jd]
  simp(disch:=omega)only[go_sem]
end Go.Ab
namespace Go.Ab
open Go Go.Proofs
theorem agv(n lo hi:Int):Con Tryz.prog 85 true [.v (.int .i64 n),.v (.int .i64 lo),.v (.int .i64 hi)] [] (isA (.v (.bool (decide (lo≤n)&&decide (n≤hi))))):=jg n lo hi
theorem aJI(s:Bool)(xs:List Int)(e:Int)(hl:xs.length≤2^40):Con Tryz.prog 74 true [.ag [.v (.bool s),.sl xs.length (qb xs),.v (.int .i64 e)]] [] (isA (.v (.bool (dyB s xs e)))):=by
 refine Con.of_aw Tryz.func74 rfl Tryz.ntmps74 (by simp) (by simp) (by simp) (W.sound ?_)
 show @W Tryz.prog 32 ⟨_⟩ ⟨fun x σ=>@q9 _ _ _ ⟨_⟩ _ ⟨_⟩ x σ⟩ _ _
 simp(disch:=omega)only[go_sem]
 refine qj (agw s xs hl) ?_
 simp(disch:=omega)only[go_sem]
 refine Qu (fun hw=>?_) (fun h1=>?_)
 ·have h1:=hw
  simp only[yQ,Bool.and_eq_true]at h1
  obtain⟨hx,hll⟩:=Xp h1.1
  have hxs:xs=lim (vl xs).toNat:=hx
  generalize hm:(vl xs).toNat=m at*
  subst hx
  simp(disch:=omega)only[go_sem,hw]
  refine qj (agv e (-3000) 3000) ?_
  simp(disch:=omega)only[go_sem]
  refine aum (fun h2=>?_) (fun h2=>?_)
  ·simp(disch:=omega)only[go_sem,h2]
   refine qx (by simp(disch:=omega)only[go_sem]) (by simp(disch:=omega)only[go_sem]) ⟨?_,rfl,rfl⟩
   simp[zl,dyB,hw,h2]
  ·simp(disch:=omega)only[go_sem,h2]
   refine qj (acw m 0 (by omega) (by omega) (by omega)) ?_
   simp(disch:=omega)only[go_sem]
   refine z7 (fun h3=>?_) (fun h3=>?_)
   ·have h3':¬m % 2=1:=fun h=>h3 (by simp;omega)
    simp(disch:=omega)only[go_sem,h3]
    refine qg (fun h4=>?_) (fun h4=>?_)
    ·simp(disch:=omega)only[go_sem,h4]
     refine qx (by simp(disch:=omega)only[go_sem]) (by simp(disch:=omega)only[go_sem]) ⟨?_,rfl,rfl⟩
     have h4':(lim m).length=0:=by omega
     simp[zl,dyB,hw,h2,hm,h3',h4']
    ·simp(disch:=omega)only[go_sem,h4]
     refine qx (by simp(disch:=omega)only[go_sem]) (by simp(disch:=omega)only[go_sem]) ⟨?_,rfl,rfl⟩
     have h4':¬(lim m).length=0:=by omega
     simp[zl,dyB,hw,h2,hm,h3',h4']
   ·have h3':m % 2=1:=by simp at h3;omega
    simp(disch:=omega)only[go_sem,h3]
    refine qx (by simp(disch:=omega)only[go_sem]) (by simp(disch:=omega)only[go_sem]) ⟨?_,rfl,rfl⟩
    simp[zl,dyB,hw,h2,hm,h3']
 ·simp(disch:=omega)only[go_sem,h1]
  refine qx (by simp(disch:=omega)only[go_sem]) (by simp(disch:=omega)only[go_sem]) ⟨?_,rfl,rfl⟩
  simp[zl,dyB,h1]
end Go.Ab
namespace Go.Ab
open Go Go.Proofs
theorem agS(s:Bool)(m:Nat)(e:Int):Con Tryz.prog 76 false [.ag [.v (.bool (s)),.sl (lim (m)).length (qb (lim (m))),.v (.int .i64 (e))]] [] (isA (.ag [.v (.bool (s)),.sl (lim (m)).length (qb (lim (m))),.v (.int .i64 (e))])):=by
 refine Con.frzA ?_
 refine Con.of_w (rs:=[.cell 2 117]) Tryz.func76 rfl Tryz.ntmps76 rfl ?_
 simp(disch:=omega)only[go_sem]
 exact qm
def bos(mode:Int):Bool:=decide (0≤mode)&&decide (mode≤4)
def dyV:AV→AV:=id
end Go.Ab
namespace Go.Ab
open Go Go.Proofs
theorem biU{s:Bool}{m:Nat}{e low mode:Int}(hodd:m % 2=1):srM s m e low mode=oM (roM s m e low mode)∧srE s m e low mode=oE (roM s m e low mode) (roE m e low):=by
 refine⟨rfl,?_⟩
 unfold srE
 by_cases h:low≤e∨m=0
 ·have h0:m≠0:=fun e=>by omega
  rw[if_pos h]
  unfold roM roE oE
  rw[if_pos h,if_pos h,if_neg h0,ahk hodd];simp
 ·rw[if_neg h]
  unfold roE
  rw[if_neg h]
end Go.Ab
namespace Go.Ab
/-! ### Numbers with a sign-/
def sv(s:Bool)(m:Nat):Int:=if s=true then-(m:Int)else(m:Int)
theorem ZG(s:Bool)(m:Nat):(sv s m).natAbs=m:=by unfold sv;split<;>omega
theorem yS(s:Bool):sv s 0=0:=by unfold sv;split<;>rfl
theorem biS(z:Int):sv (decide (z<0)) z.natAbs=z:=by
 unfold sv;split
 ·rename_i h;simp only[decide_eq_true_eq]at h;omega
 ·rename_i h;simp only[decide_eq_true_eq]at h;omega
theorem Jo(s:Bool)(m k:Nat):sv s (m*k)=sv s m*(k:Int):=by
 unfold sv;split
 ·rw[Int.natCast_mul,Int.neg_mul]
 ·rw[Int.natCast_mul]
theorem aVt(s:Bool)(m:Nat):sv (s&&decide (m≠0)) m=sv s m:=by
 by_cases h:m=0
 ·subst h;rw[yS,yS]
 ·rw[decide_eq_true h,Bool.and_true]
theorem biQ(s:Bool)(m:Nat):sv (oS s m) m=sv s m:=by
 unfold oS
 by_cases h:m=0
 ·subst h;rw[yS,yS]
 ·rw[if_neg h]
theorem biR(s1:Bool)(m1:Nat)(s2:Bool)(m2:Nat):sv (s1 != s2) (m1*m2)=sv s1 m1*sv s2 m2:=by
 cases s1<;>cases s2<;>simp[sv,Int.natCast_mul,Int.neg_mul,Int.mul_neg]
theorem aVs{s:Bool}{m:Nat}(h:m≠0):decide (sv s m<0)=s:=by
 cases s<;>simp[sv]<;>omega
theorem aVr(s:Bool)(m:Nat):sv (!s) m= -sv s m:=by cases s<;>simp[sv]
def dv(K:Nat)(s:Bool)(m:Nat)(e:Int):Int:=sv s m*2^(e+K).toNat
theorem bbW{K:Nat}{s:Bool}{m:Nat}{e:Int}{s':Bool}{m':Nat}{e':Int}(h0:m≠0)(he: -(K:Int)≤e)(he': -(K:Int)≤e')(h:dv K s m e=dv K s' m' e'):
  s=s'∧oM m=oM m'∧oE m e=oE m' e'∧m'≠0:=by
 unfold dv at h
 obtain⟨a,ha⟩:∃a,a=(e+K).toNat:=⟨_,rfl⟩
 obtain⟨a',ha'⟩:∃a,a=(e'+K).toNat:=⟨_,rfl⟩
 rw[←ha,←ha']at h
 have habs:m*2^a=m'*2^a':=by
  have:=congrArg Int.natAbs h
  rw[Int.natAbs_mul,Int.natAbs_mul,ZG,ZG,Int.natAbs_pow,Int.natAbs_pow]at this
  exact this
 have hp:0<2^a:=Nat.pow_pos (by omega)
 have h1:0<m*2^a:=Nat.mul_pos (by omega) hp
 have h0':m'≠0:=fun e=>by rw[habs,e,Nat.zero_mul]at h1;omega
 have hM:oM m=oM m':=by rw[←@aLC m a,habs,aLC]
 have hT:tz m+a=tz m'+a':=by rw[←Zg h0,habs,Zg h0']
 refine⟨?_,hM,?_,h0'⟩
 ·have e1:sv s m*2^a=sv s (m*2^a):=by rw[Jo,Int.natCast_pow];rfl
  have e2:sv s' m'*2^a'=sv s' (m'*2^a'):=by rw[Jo,Int.natCast_pow];rfl
  rw[e1,e2,←habs]at h
  rw[←aVs (s:=s) (m:=m*2^a) (by omega),h,aVs (by omega)]
 ·unfold oE;rw[if_neg h0,if_neg h0'];omega
theorem Zw{K:Nat}{s:Bool}{e:Int}:dv K s 0 e=0:=by unfold dv;rw[yS,Int.zero_mul]
theorem ane{K:Nat}{s:Bool}{m:Nat}{e:Int}:dv K s m e=0↔m=0:=by
 refine⟨fun h=>?_,fun h=>by rw[h,Zw]⟩
 unfold dv at h
 rcases Int.mul_eq_zero.1 h with h|h
 ·rw[←ZG s m,h];rfl
 ·have:(0:Int)<2^(e+K).toNat:=Int.pow_pos (by omega)
  omega
theorem blb(K:Nat)(s:Bool)(m:Nat)(e:Int):dv K (oS s m) m e=dv K s m e:=by unfold dv;rw[biQ]
theorem YJ(K:Nat)(s:Bool)(m:Nat)(e:Int):dv K (s&&decide (m≠0)) m e=dv K s m e:=by unfold dv;rw[aVt]
theorem aTx{K:Nat}{s:Bool}{m:Nat}{e:Int}(he: -(K:Int)≤e):dv K s (oM m) (oE m e)=dv K s m e:=by
 by_cases h:m=0
 ·subst h;rw[jd,Zw,Zw]
 ·unfold dv oE
  rw[if_neg h]
  have e1:(e+(tz m:Int)+K).toNat=tz m+(e+K).toNat:=by omega
  conv=>rhs;rw[←@ZK m]
  rw[e1,Int.pow_add,Jo,Int.natCast_pow,Int.mul_assoc];rfl
theorem bjk{K:Int}{m:Nat}{e:Int}(h: -K≤e)(h0:0≤K): -K≤oE m e:=by unfold oE;split<;>omega
theorem bbV{K K':Nat}{s s':Bool}{m m':Nat}{e e':Int}(he: -(K:Int)≤e)(he': -(K':Int)≤e'):dv (K+K') (s != s') (m*m') (e+e')=dv K s m e*dv K' s' m' e':=by
 unfold dv
 have e1:(e+e'+((K+K':Nat):Int)).toNat=(e+K).toNat+(e'+K').toNat:=by omega
 rw[e1,Int.pow_add,biR]
 simp only[Int.mul_assoc,Int.mul_left_comm]
/-! ### Sums-/
def suM(s1:Bool)(m1:Nat)(s2:Bool)(m2:Nat):Nat:=(sv s1 m1+sv s2 m2).natAbs
def suS(s1:Bool)(m1:Nat)(s2:Bool)(m2:Nat):Bool:=decide (sv s1 m1+sv s2 m2<0)
def sgS(s1:Bool)(m1:Nat)(s2:Bool)(m2:Nat):Bool:=if s1=s2 then s1 else if m2≤m1 then s1 else s2
theorem ahq(s:Bool)(m1 m2:Nat):suM s m1 s m2=m1+m2:=by unfold suM sv;split<;>omega
theorem aLi{s1 s2:Bool}{m1 m2:Nat}(h:s1≠s2)(hm:m2≤m1):suM s1 m1 s2 m2=m1-m2:=by
 cases s1<;>cases s2<;>simp[suM,sv]at* <;>omega
theorem aLh{s1 s2:Bool}{m1 m2:Nat}(h:s1≠s2)(hm:¬m2≤m1):suM s1 m1 s2 m2=m2-m1:=by
 cases s1<;>cases s2<;>simp[suM,sv]at* <;>omega
theorem ahx(s:Bool)(m1 m2:Nat):sgS s m1 s m2=s:=by unfold sgS;rw[if_pos rfl]
theorem aLp{s1 s2:Bool}{m1 m2:Nat}(h:s1≠s2)(hm:m2≤m1):sgS s1 m1 s2 m2=s1:=by unfold sgS;rw[if_neg h,if_pos hm]
theorem aLo{s1 s2:Bool}{m1 m2:Nat}(h:s1≠s2)(hm:¬m2≤m1):sgS s1 m1 s2 m2=s2:=by unfold sgS;rw[if_neg h,if_neg hm]
theorem as9(s1:Bool)(m1:Nat)(s2:Bool)(m2:Nat):(sgS s1 m1 s2 m2&&decide (suM s1 m1 s2 m2≠0))=suS s1 m1 s2 m2:=by
 rw[Bool.eq_iff_iff]
 simp only[Bool.and_eq_true,decide_eq_true_eq,suS]
 unfold sgS suM
 cases s1<;>cases s2<;>simp[sv]
 all_goals omega
theorem aVu(s1:Bool)(m1:Nat)(s2:Bool)(m2:Nat):suM s1 m1 s2 m2≤m1+m2:=by unfold suM sv;split<;>split<;>omega
theorem bco{a b B:Nat}(ha:bl a≤B)(hb:bl b≤B):bl (a+b)≤B+1:=by
 have h1:=qX.1 ha
 have h2:=qX.1 hb
 refine qX.2 ?_
 rw[Nat.pow_succ];omega
theorem aij{s1:Bool}{m1:Nat}{s2:Bool}{m2 B:Nat}(h1:bl m1≤B)(h2:bl m2≤B):bl (suM s1 m1 s2 m2)≤B+1:=
 Nat.le_trans (zU (aVu _ _ _ _)) (bco h1 h2)
def alE(m1:Nat)(e1:Int)(m2:Nat)(e2:Int):Int:=if m2=0 then e1 else if m1=0 then e2 else if e2<e1 then e2 else e1
def alA(m:Nat)(e E:Int):Nat:=m*2^(e-E).toNat
def adM(s1:Bool)(m1:Nat)(e1:Int)(s2:Bool)(m2:Nat)(e2:Int):Nat:=suM s1 (alA m1 e1 (alE m1 e1 m2 e2)) s2 (alA m2 e2 (alE m1 e1 m2 e2))
def adS(s1:Bool)(m1:Nat)(e1:Int)(s2:Bool)(m2:Nat)(e2:Int):Bool:=suS s1 (alA m1 e1 (alE m1 e1 m2 e2)) s2 (alA m2 e2 (alE m1 e1 m2 e2))
theorem Ze{K:Int}{m1:Nat}{e1:Int}{m2:Nat}{e2:Int}(h1:K≤e1)(h2:K≤e2):K≤alE m1 e1 m2 e2:=by
 unfold alE
 repeat' split
 all_goals omega
theorem aMa{K:Int}{m1:Nat}{e1:Int}{m2:Nat}{e2:Int}(h1:e1≤K)(h2:e2≤K):alE m1 e1 m2 e2≤K:=by
 unfold alE
 repeat' split
 all_goals omega
theorem aim{K:Nat}{s:Bool}{m:Nat}{e E:Int}(hE: -(K:Int)≤E)(h:m≠0→E≤e):sv s (alA m e E)*2^(E+K).toNat=dv K s m e:=by
 by_cases h0:m=0
 ·subst h0;unfold alA;rw[Nat.zero_mul,yS,Zw,Int.zero_mul]
 ·have:=h h0
  unfold alA dv
  have e1:(e+K).toNat=(e-E).toNat+(E+K).toNat:=by omega
  rw[e1,Int.pow_add,Jo,Int.natCast_pow,Int.mul_assoc];rfl
theorem ZV{m B:Nat}{e E:Int}{C:Nat}(h:bl m≤B)(hk:e-E≤C):bl (alA m e E)≤B+C:=by
 have:=QK m (e-E).toNat
 unfold alA;omega
theorem blG{K:Nat}{s1:Bool}{m1:Nat}{e1:Int}{s2:Bool}{m2:Nat}{e2:Int}(h1: -(K:Int)≤e1)(h2: -(K:Int)≤e2):
  dv K (adS s1 m1 e1 s2 m2 e2) (adM s1 m1 e1 s2 m2 e2) (alE m1 e1 m2 e2)=dv K s1 m1 e1+dv K s2 m2 e2:=by
 have hE: -(K:Int)≤alE m1 e1 m2 e2:=Ze h1 h2
 have g1:m1≠0→alE m1 e1 m2 e2≤e1:=fun h=>by
  unfold alE
  repeat' split
  all_goals omega
 have g2:m2≠0→alE m1 e1 m2 e2≤e2:=fun h=>by
  unfold alE
  repeat' split
  all_goals omega
 rw[←aim hE g1,←aim hE g2,←Int.add_mul]
 show sv (adS s1 m1 e1 s2 m2 e2) (adM s1 m1 e1 s2 m2 e2)*_=_
 unfold adS adM suS suM
 rw[biS]
end Go.Ab
namespace Go.Ab
theorem aLD(m:Nat):oM m % 2=1∨oM m=0:=by
 by_cases h0:m=0
 ·exact .inr (ye.2 h0)
 ·exact .inl (QY h0).1
theorem bol(s:Bool)(m:Nat):oM m=0→oS s m=false:=fun h=>by unfold oS;rw[if_pos (ye.1 h)]
end Go.Ab
namespace Go.Ab
end Go.Ab
namespace Go.Ab
open Go Go.Proofs
end Go.Ab
namespace Go.Ab
open Go
theorem Yf(m:Nat):bhp [] m=.free:=by unfold bhp;split<;>simp
theorem Con.enter{P:Program}{f:FuncId}{cl:Bool}{args:List AV}{x:Value}(h:Con P f cl args [] (isA (.v x)))(R:Nat→Prop)(w:World)(vs:Array Value)
  (hlt:∀b,R b→b<w.heap.size) (hr:RepA R (fun _=>none) w vs args) (ha:AllL (fun m=>bhp [] m≠ .free) args) (hg:Gd w):
  Calls P f vs w fun e w'=>e=.returned x∧Ext (fun _=>False) w w':=by
 have hno:∀b,¬an6 (bhp []) (fun _=>none) b:=fun b ⟨nm,z,cs,B,e,_⟩=>by rw[Yf]at e;cases e
 have hh:HpOk R (fun _=>none) w (bhp []):=
  ⟨fun nm=>(by rw[Yf];trivial),fun nm z cs B e=>absurd e (by rw[Yf];simp),fun nm nm' z z' cs cs' B B' e=>absurd e (by rw[Yf];simp),fun nm z cs e=>absurd e (by rw[Yf];simp)⟩
 refine(h R (fun _=>none) w vs hlt hr ha hh ⟨hg,fun g l _=>hno g⟩).mono ?_
 rintro e w' ⟨y,r,hs,bs',R',ι',rfl,⟨rfl,rfl,rfl⟩,hf⟩
 refine⟨?_,hf.ext.os,hf.ext.tape,hf.ext.output,hf.ext.size,fun b hb _=>hf.ext.block b hb (hno b)⟩
 cases hf.rep with
 |fr _ _ h=>cases h;rfl
theorem Ext.kept{w w':World}(h:Ext (fun _=>False) w w')(may:MemPlace→Prop):w.keptBut w' may:=by
 refine⟨h.os,h.output,fun i hi=>?_⟩
 rw[h.block i hi (fun h=>h)]
 cases w.heap[i]? with
 |none=>trivial
 |some o=>cases o with
  |cells c t fr=>exact⟨rfl,rfl,rfl,fun _ _=>rfl⟩
  |map es cl=>exact .inr ⟨rfl,rfl⟩
  |_=>rfl
theorem Ext.below{w w':World}(h:Ext (fun _=>False) w w'):RowKit.Below w.heap.size w w':=⟨h.os,h.tape,h.output,h.size,fun k hk=>h.block k hk (fun h=>h)⟩
theorem Ext.trod{H:Type}{enc:TypeId×Value→H}{P:Program}{t:TypeId}{W W':World}(hw:Ext (fun _=>False) W W')(hl:laidOutB P=true)(hr:P.readableRec t=true)(hrow:t<P.types.size){v:Value}{d:DataW H}{ps:List MemPlace}
  (h:DataW.Trod enc P W 0 (fun _=>true) true t v d ps) (hlt:∀x∈ps,x.block<W.heap.size):DataW.Trod enc P W' 0 (fun b=>decide (b<W.heap.size)) true t v d ps:=
 RowKit.Below.trod hl hr hrow h hw.below hlt
theorem aih{w:World}{a:Addr}{v:Value}(h:w.cell? a=some v):a.block<w.heap.size:=by
 rcases Nat.lt_or_ge a.block w.heap.size with h'|h'
 ·exact h'
 ·simp[World.cell?,Array.getElem?_eq_none h']at h
theorem bi3{R:Nat→Prop}{ι:Nat→Option Blk}{w:World}(x:Value):Rep R ι w x (.v x):=.fr _ _ (.v x)
theorem aHv{R:Nat→Prop}{ι:Nat→Option Blk}{w:World}{x y:Value}{a b:AV}(h1:Rep R ι w x a)(h2:Rep R ι w y b):RepA R ι w #[x,y] [a,b]:=
 ⟨rfl,fun i h=>match i,h with
  |0,_=>h1
  |1,_=>h2⟩
theorem aUB{R:Nat→Prop}{ι:Nat→Option Blk}{w:World}{x y z:Value}{a b c:AV}(h1:Rep R ι w x a)(h2:Rep R ι w y b)(h3:Rep R ι w z c):RepA R ι w #[x,y,z] [a,b,c]:=
 ⟨rfl,fun i h=>match i,h with
  |0,_=>h1
  |1,_=>h2
  |2,_=>h3⟩
theorem am5{R:Nat→Prop}{w:World}{x y z:Value}{a b c:AV}(h1:FRep R w x a)(h2:FRep R w y b)(h3:FRep R w z c):FRep R w (.agg #[x,y,z]) (.ag [a,b,c]):=
 .ag _ _ rfl (fun i h=>match i,h with
  |0,_=>h1
  |1,_=>h2
  |2,_=>h3)
theorem bcA(b o i:Nat):(⟨b,o,none⟩:Addr).add i=⟨b,o+i,none⟩:=by
 unfold Addr.add
 split
 ·subst_vars;rfl
 ·rfl
theorem aut{R:Nat→Prop}{W:World}{a:Addr}{len cap:Nat}{zs:List Int}(hle:len≤cap)(hz:zs.length=cap)(hc:∀i,i<zs.length→W.cell? (a.add i)=some (.int .i64 (zs.getD i 0)))(hR:∀b,b<W.heap.size→R b):
  FRep R W (.slice (some a) len cap) (.sl (zs.take len).length (qb (zs.take len))):=by
 have hl:(zs.take len).length=len:=by rw[List.length_take];omega
 have hil:(qb (zs.take len)).length=len:=by unfold qb;rw[List.length_map,hl]
 rw[hl]
 obtain⟨b,o,sp⟩:=a
 have hsp:0<len→sp=none:=fun h0=>by
  have h1:=World.cell?_spot (hc 0 (by omega))
  simpa [Addr.add]using h1
 refine .sl _ len cap _ (fun i=>.int .i64 (zs.getD i 0)) b o hle (fun h0=>?_) (fun i hi=>?_) (fun i hi=>?_)
 ·have hs:=hsp (by omega)
  subst hs
  exact⟨rfl,hR _ (aih (hc 0 (by omega)))⟩
 ·have hs:=hsp (by omega)
  subst hs
  have h1:=hc i (by omega)
  rw[bcA]at h1
  exact h1
 ·have:(qb (zs.take len))[i]=.v (.int .i64 (zs.getD i 0)):=by
   have hi2:i<(zs.take len).length:=by omega
   simp only[qb,List.getElem_map,List.getElem_take,List.getD_eq_getElem?_getD]
   rw[List.getElem?_eq_getElem (by omega)]
   rfl
  rw[this]
  exact .v _
theorem aIB{R:Nat→Prop}{W:World}:FRep R W (.slice none 0 0) (.sl 0 []):=
 .sl none 0 0 [] (fun _=>undef) 0 0 (Nat.le_refl _) (fun h=>absurd h (by simp)) (fun i h=>absurd h (by simp)) (fun i h=>absurd h (by simp))
theorem aRj{H:Type}{enc:TypeId×Value→H}{P:Program}{W:World}{t e fuel:Nat}{cs:List Value}{x:DataW H×List MemPlace}(ht:P.underlying t=some (.slice e))(he:P.underlying e=some (.int .i64))(hc:P.cellsOf e=1)
  (h:DataW.trod enc P W 0 (fun _=>true) true fuel t cs=some x):
  ∃(v:Value) (xs:List Int),cs=[v]∧xs.length≤maxLen∧FRep (fun b=>b<W.heap.size) W v (.sl xs.length (qb xs)):=by
 rcases ChangeShapes.open_ints ht he hc h with⟨rfl,_⟩|⟨a,len,cap,zs,rfl,_,hl,hm,hz,_,hcell,_⟩
 ·exact⟨_,[],rfl,Nat.zero_le _,aIB⟩
 ·rw[if_pos rfl]at hz
  refine⟨_,zs.take len,rfl,?_,aut hl hz hcell (fun _ h=>h)⟩
  rw[List.length_take];omega
end Go.Ab
namespace Go.Ab
open Go Go.Proofs
end Go.Ab
namespace Go.Ab
open Go Go.Proofs
end Go.Ab
namespace Go.Ab
open Go Go.Proofs
theorem ano(xs:List Int)(hl:xs.length≤2^40):Con Tryz.prog 253 true [.ag [.sl xs.length (qb xs)]] [] (isA (.v (.bool (YE xs)))):=by
 refine Con.of_aw Tryz.func253 rfl Tryz.ntmps253 (by simp) (by simp) (by simp) (W.sound ?_)
 show @W Tryz.prog 44 ⟨_⟩ ⟨fun x σ=>@q9 _ _ _ ⟨_⟩ _ ⟨_⟩ x σ⟩ _ _
 simp(disch:=omega)only[go_sem]
 refine qg (fun h1=>?_) (fun h1=>?_)
 ·simp(disch:=omega)only[go_sem,h1]
  refine qx (by simp(disch:=omega)only[go_sem]) (by simp(disch:=omega)only[go_sem]) ⟨?_,rfl,rfl⟩
  have:¬(xs.length≤100):=by omega
  simp[zl,YE,this]
 ·simp(disch:=omega)only[go_sem,h1]
  refine qi (fun i:Nat=>[(1,.pt 30000000 0),(2,.v (.bool false)),(3,.v (.int .i64 i))]) (fun _=>[(30000000,.own 0 [.sl xs.length (qb xs)])]) (fun i=>i≤xs.length∧∀x∈xs.take i,0≤x∧x≤65535) (fun i=>xs.length-i) 0 ⟨by omega,by simp⟩
   (Le.lst [] _ _ rfl (by simp(disch:=omega)only[go_sem]) (by simp(disch:=omega)only[go_sem])) ?_
  rintro i ⟨hi,hx⟩
  simp(disch:=omega)only[go_sem]
  refine qg (fun h2=>?_) (fun h2=>?_)
  ·simp(disch:=omega)only[go_sem,h2]
   have hmem:xs.getD i 0∈xs:=by
    rw[List.getD_eq_getElem?_getD,List.getElem?_eq_getElem (by omega)];exact List.getElem_mem _
   have bad:¬(0≤xs.getD i 0∧xs.getD i 0≤65535)→YE xs=false:=by
    intro hc
    unfold YE
    have:xs.all (fun x=>decide (0≤x)&&decide (x≤65535))=false:=by
     rw[List.all_eq_false]
     refine⟨_,hmem,?_⟩
     simp only[Bool.and_eq_true,decide_eq_true_eq];exact hc
    rw[this];simp
   refine⟨by omega,by omega,?_⟩
   refine z7 (fun h3=>?_) (fun h3=>?_)
   ·simp(disch:=omega)only[go_sem,h3]
    refine⟨by omega,by omega,?_⟩
    refine qg (fun h4=>?_) (fun h4=>?_)
    ·simp(disch:=omega)only[go_sem,h4]
     rw[bad (by omega)]
     exact qu
    ·simp(disch:=omega)only[go_sem,h4]
     refine qe (i+1) [] ⟨by omega,?_⟩ (by show xs.length-(i+1)<xs.length-i;omega) rfl (by simp(disch:=omega)only[go_sem];try omega) (by simp(disch:=omega)only[go_sem])
     intro x hxx
     rw[List.take_add_one]at hxx
     rcases List.mem_append.1 hxx with h|h
     ·exact hx x h
     ·rw[List.getElem?_eq_getElem (by omega)]at h
      simp at h
      rw[List.getD_eq_getElem?_getD,List.getElem?_eq_getElem (by omega)]at h3 h4
      simp at h3 h4
      subst h
      omega
   ·simp(disch:=omega)only[go_sem,h3]
    rw[bad (by omega)]
    exact qu
  ·have:i=xs.length:=by omega
   subst this
   rw[List.take_length]at hx
   have hall:xs.all (fun x=>decide (0≤x)&&decide (x≤65535))=true:=by
    rw[List.all_eq_true]
    intro x h;have:=hx x h;simp only[Bool.and_eq_true,decide_eq_true_eq];exact this
   have e1:decide (xs.length≤100)=true:=by simp;omega
   simp(disch:=omega)only[go_sem,h2]
   refine z7 (fun h3=>?_) (fun h3=>?_)
   ·have en:((xs.length:Int)-1).toNat=xs.length-1:=by omega
    have hmem:xs.getD (xs.length-1) 0∈xs:=by
     rw[List.getD_eq_getElem?_getD,List.getElem?_eq_getElem (by omega)];exact List.getElem_mem _
    have hp:=hx _ hmem
    simp(disch:=omega)only[go_sem,h3,en]
    refine⟨by omega,by omega,?_⟩
    refine qx (by simp(disch:=omega)only[go_sem]) (by simp(disch:=omega)only[go_sem]) ⟨?_,rfl,rfl⟩
    have e2:decide (xs.length=0)=false:=by simp;intro h;subst h;simp at h3
    show AV.v (.bool _)=AV.v (.bool _)
    unfold YE
    rw[e1,hall,e2,Bool.false_or,Bool.true_and,Bool.true_and]
    congr 2
    rw[decide_eq_decide]
    omega
   ·simp(disch:=omega)only[go_sem,h3]
    refine qx (by simp(disch:=omega)only[go_sem]) (by simp(disch:=omega)only[go_sem]) ⟨?_,rfl,rfl⟩
    have e2:decide (xs.length=0)=true:=by simp;exact List.length_eq_zero_iff.1 (by omega)
    show AV.v (.bool _)=AV.v (.bool _)
    unfold YE
    rw[e1,hall,e2]
    simp
theorem ab2(s:Bool)(xs:List Int)(hl:xs.length≤2^40):Con Tryz.prog 170 true [.ag [.v (.bool s),.sl xs.length (qb xs)]] [] (isA (.v (.bool (yQ s xs)))):=by
 refine Con.of_aw Tryz.func170 rfl Tryz.ntmps170 (by simp) (by simp) (by simp) (W.sound ?_)
 show @W Tryz.prog 18 ⟨_⟩ ⟨fun x σ=>@q9 _ _ _ ⟨_⟩ _ ⟨_⟩ x σ⟩ _ _
 simp(disch:=omega)only[go_sem]
 refine qj (ano xs hl) ?_
 simp(disch:=omega)only[go_sem]
 refine Qu (fun h1=>?_) (fun h1=>?_)
 ·simp(disch:=omega)only[go_sem,h1]
  cases s
  ·simp(disch:=omega)only[go_sem]
   refine qx (by simp(disch:=omega)only[go_sem]) (by simp(disch:=omega)only[go_sem]) ⟨?_,rfl,rfl⟩
   simp[zl,yQ,h1]
  ·simp(disch:=omega)only[go_sem]
   refine qx (by simp(disch:=omega)only[go_sem]) (by simp(disch:=omega)only[go_sem]) ⟨?_,rfl,rfl⟩
   show AV.v (.bool _)=AV.v (.bool _)
   unfold yQ
   rw[h1,Bool.true_and,Bool.true_and,←decide_not]
   congr 2
   rw[decide_eq_decide]
   omega
 ·simp(disch:=omega)only[go_sem,h1]
  refine qx (by simp(disch:=omega)only[go_sem]) (by simp(disch:=omega)only[go_sem]) ⟨?_,rfl,rfl⟩
  simp[zl,yQ,h1]
theorem Qb(s:Bool)(xs:List Int)(e:Int)(hl:xs.length≤2^40):Con Tryz.prog 93 true [.ag [.v (.bool s),.sl xs.length (qb xs),.v (.int .i64 e)]] [] (isA (.v (.bool (dyB s xs e)))):=by
 refine Con.of_aw Tryz.func93 rfl Tryz.ntmps93 (by simp) (by simp) (by simp) (W.sound ?_)
 show @W Tryz.prog 31 ⟨_⟩ ⟨fun x σ=>@q9 _ _ _ ⟨_⟩ _ ⟨_⟩ x σ⟩ _ _
 simp(disch:=omega)only[go_sem]
 refine qj (ab2 s xs hl) ?_
 simp(disch:=omega)only[go_sem]
 refine Qu (fun hw=>?_) (fun hw=>?_)
 ·have h1:=hw
  simp only[yQ,Bool.and_eq_true]at h1
  obtain⟨hx,hll⟩:=Xp h1.1
  have hxs:xs=lim (vl xs).toNat:=hx
  generalize hm:(vl xs).toNat=m at*
  subst hx
  simp(disch:=omega)only[go_sem,hw]
  refine z7 (fun h2=>?_) (fun h2=>?_)
  ·simp(disch:=omega)only[go_sem,h2]
   refine qg (fun h3=>?_) (fun h3=>?_)
   ·simp(disch:=omega)only[go_sem,h3]
    refine qx (by simp(disch:=omega)only[go_sem]) (by simp(disch:=omega)only[go_sem]) ⟨?_,rfl,rfl⟩
    have a2:¬e≤3000:=by omega
    simp[zl,dyB,a2]
   ·simp(disch:=omega)only[go_sem,h3]
    refine qg (fun h4=>?_) (fun h4=>?_)
    ·simp(disch:=omega)only[go_sem,h4]
     have h0:m=0:=qG.1 (List.length_eq_zero_iff.1 (by omega))
     refine qx (by simp(disch:=omega)only[go_sem]) (by simp(disch:=omega)only[go_sem]) ⟨?_,rfl,rfl⟩
     have a1: -3000≤e:=by omega
     have a2:e≤3000:=by omega
     have a3:(lim m).length=0:=by omega
     show AV.v (.bool _)=AV.v (.bool _)
     unfold dyB
     rw[hw,hm,decide_eq_true a1,decide_eq_true a2,decide_eq_true a3,h0]
     simp
    ·simp(disch:=omega)only[go_sem,h4]
     refine qj (Zb m 0 (by omega) (by omega) (by omega)) ?_
     simp(disch:=omega)only[go_sem]
     refine qx (by simp(disch:=omega)only[go_sem]) (by simp(disch:=omega)only[go_sem]) ⟨?_,rfl,rfl⟩
     have a1: -3000≤e:=by omega
     have a2:e≤3000:=by omega
     have a3:¬(lim m).length=0:=by omega
     show AV.v (.bool _)=AV.v (.bool _)
     unfold dyB
     rw[hw,hm,decide_eq_true a1,decide_eq_true a2,decide_eq_false a3]
     simp
     omega
  ·simp(disch:=omega)only[go_sem,h2]
   refine qx (by simp(disch:=omega)only[go_sem]) (by simp(disch:=omega)only[go_sem]) ⟨?_,rfl,rfl⟩
   have a1:¬ -3000≤e:=by omega
   simp[zl,dyB,a1]
 ·simp(disch:=omega)only[go_sem,hw]
  refine qx (by simp(disch:=omega)only[go_sem]) (by simp(disch:=omega)only[go_sem]) ⟨?_,rfl,rfl⟩
  simp[zl,dyB,hw]
end Go.Ab
namespace Go.Ab
open Go Go.Proofs
theorem anl(xs:List Int)(left:Int)(hl:xs.length≤9223372036854775807)(h:0≤left∧left≤2^40):Con Tryz.prog 286 true [.sl xs.length (qb xs),.v (.int .i64 left)] [] (isA (.v (.int .i64 (if left-xs.length<0 then-1 else left-xs.length)))):=by
 refine Con.of_w (rs:=[.tmp 4]) Tryz.func286 rfl Tryz.ntmps286 rfl ?_
 simp(disch:=omega)only[go_sem]
 refine qg (fun h1=>?_) (fun h1=>?_)
 ·simp(disch:=omega)only[go_sem,h1]
  rw[if_pos h1]
  exact qu
 ·simp(disch:=omega)only[go_sem,h1]
  rw[if_neg h1]
  exact qu
theorem ahy{xs:List Int}{i:Nat}(h:i<xs.length):(xs.take i++List.replicate (xs.length-i) 0).set i (xs.getD i 0)=xs.take (i+1)++List.replicate (xs.length-(i+1)) 0:=by
 have e1:(xs.take i).length=i:=by rw[List.length_take];omega
 have e2:xs.length-i=(xs.length-(i+1))+1:=by omega
 rw[List.set_append_right _ _ (by omega),e1,Nat.sub_self,e2,List.replicate_succ,List.set_cons_zero,List.take_add_one,List.getElem?_eq_getElem h,List.append_assoc,List.getD_eq_getElem?_getD,List.getElem?_eq_getElem h]
 rfl
theorem anj(cl:Bool)(xs:List Int)(hl:xs.length≤2000000):Con Tryz.prog 287 cl [.sl xs.length (qb xs)] [] (atE xs):=by
 refine Con.of_aw Tryz.func287 rfl Tryz.ntmps287 (by simp) (by simp) (by simp) (W.sound ?_)
 show @W Tryz.prog 22 ⟨_⟩ ⟨fun x σ=>@q9 _ _ _ ⟨_⟩ _ ⟨_⟩ x σ⟩ _ _
 simp(disch:=omega)only[go_sem]
 refine⟨⟨by omega,by omega,by omega⟩,?_⟩
 refine qi (fun i:Nat=>[(0,.sl xs.length (qb xs)),(3,.rf 90000000 0 xs.length),(4,.v (.int .i64 i))]) (fun i=>[(90000000,.own 1 (qb (xs.take i++List.replicate (xs.length-i) 0)))]) (fun i=>i≤xs.length) (fun i=>xs.length-i) 0 (by omega)
  (Le.lst [] _ _ rfl (by simp(disch:=omega)only[go_sem];try omega) (by simp(disch:=omega)only[go_sem,X7,List.take_zero,List.nil_append,Nat.sub_zero])) ?_
 intro i hi
 simp(disch:=omega)only[go_sem]
 refine qg (fun h1=>?_) (fun h1=>?_)
 ·simp(disch:=omega)only[go_sem,h1]
  have el:(xs.take i++List.replicate (xs.length-i) 0).length=xs.length:=by rw[List.length_append,List.length_take,List.length_replicate];omega
  refine⟨by omega,by omega,by omega,by omega,qe (i+1) [] (by show i+1≤_;omega) (by show xs.length-(i+1)<xs.length-i;omega) rfl (by simp(disch:=omega)only[go_sem];try omega) (by simp(disch:=omega)only[go_sem,ahy (by omega:i<xs.length)])⟩
 ·have:i=xs.length:=by omega
  subst this
  simp(disch:=omega)only[go_sem,h1]
  refine qh [(0,90000000)] [.own 1 (qb (xs++[]))] [] [.rf 0 0 xs.length] rfl (by simp(disch:=omega)only[go_sem]) (by simp(disch:=omega)only[go_sem,List.take_length,Nat.sub_self,List.replicate_zero]) (by simp) (by intro _;simp[zl,AV.pu,Ob.pu,qT]) (.inr ⟨[],rfl,rfl⟩)
theorem au5(xs:List Int)(hl:xs.length≤2000000):Con Tryz.prog 228 false [.ag [.sl xs.length (qb xs)]] [] (isA (.ag [.sl xs.length (qb xs)])):=by
 refine Con.frzA ?_
 refine Con.of_w (rs:=[.cell 2 38]) Tryz.func228 rfl Tryz.ntmps228 rfl ?_
 simp(disch:=omega)only[go_sem]
 refine qa (anj false xs hl).num ?_
 simp(disch:=omega)only[go_sem]
 exact qm
theorem agy(s:Bool)(xs:List Int)(hl:xs.length≤2000000):Con Tryz.prog 139 false [.ag [.v (.bool s),.sl xs.length (qb xs)]] [] (isA (.ag [.v (.bool s),.sl xs.length (qb xs)])):=by
 refine Con.frzA ?_
 refine Con.of_w (rs:=[.cell 2 40]) Tryz.func139 rfl Tryz.ntmps139 rfl ?_
 simp(disch:=omega)only[go_sem]
 refine qa (au5 xs hl) ?_
 simp(disch:=omega)only[go_sem]
 exact qm
theorem jF(s:Bool)(xs:List Int)(e:Int)(hl:xs.length≤2000000):Con Tryz.prog 55 false [.ag [.v (.bool s),.sl xs.length (qb xs),.v (.int .i64 e)]] [] (isA (.ag [.v (.bool s),.sl xs.length (qb xs),.v (.int .i64 e)])):=by
 refine Con.frzA ?_
 refine Con.of_w (rs:=[.cell 2 42]) Tryz.func55 rfl Tryz.ntmps55 rfl ?_
 simp(disch:=omega)only[go_sem]
 refine qa (agy s xs hl) ?_
 simp(disch:=omega)only[go_sem]
 exact qm
def szL(left:Int)(n:Nat):Int:=if left-n<0 then-1 else left-n
theorem au8(xs:List Int)(left:Int)(hl:xs.length≤9223372036854775807)(h:0≤left∧left≤2^40):Con Tryz.prog 227 true [.ag [.sl xs.length (qb xs)],.v (.int .i64 left)] [] (isA (.v (.int .i64 (szL left xs.length)))):=by
 refine Con.of_w (rs:=[.tmp 4]) Tryz.func227 rfl Tryz.ntmps227 rfl ?_
 simp(disch:=omega)only[go_sem]
 refine qj (anl xs left hl h) ?_
 simp(disch:=omega)only[go_sem]
 unfold szL
 by_cases h1:left-(xs.length:Int)<0
 ·rw[if_pos h1]
  simp(disch:=omega)only[go_sem]
  exact qu
 ·rw[if_neg h1]
  simp(disch:=omega)only[go_sem,h1]
  exact qu
theorem agA(s:Bool)(xs:List Int)(left:Int)(hl:xs.length≤9223372036854775807)(h:0≤left∧left≤2^40):Con Tryz.prog 138 true [.ag [.v (.bool s),.sl xs.length (qb xs)],.v (.int .i64 left)] [] (isA (.v (.int .i64 (szL left xs.length)))):=by
 refine Con.of_w (rs:=[.tmp 4]) Tryz.func138 rfl Tryz.ntmps138 rfl ?_
 simp(disch:=omega)only[go_sem]
 refine qj (au8 xs left hl h) ?_
 simp(disch:=omega)only[go_sem]
 unfold szL
 by_cases h1:left-(xs.length:Int)<0
 ·rw[if_pos h1]
  simp(disch:=omega)only[go_sem]
  exact qu
 ·rw[if_neg h1]
  simp(disch:=omega)only[go_sem,h1]
  exact qu
theorem ah6(s:Bool)(xs:List Int)(e left:Int)(hl:xs.length≤9223372036854775807)(h:0≤left∧left≤2^40):Con Tryz.prog 53 true [.ag [.v (.bool s),.sl xs.length (qb xs),.v (.int .i64 e)],.v (.int .i64 left)] [] (isA (.v (.int .i64 (szL left xs.length)))):=by
 refine Con.of_w (rs:=[.tmp 4]) Tryz.func53 rfl Tryz.ntmps53 rfl ?_
 simp(disch:=omega)only[go_sem]
 refine qj (agA s xs left hl h) ?_
 simp(disch:=omega)only[go_sem]
 unfold szL
 by_cases h1:left-(xs.length:Int)<0
 ·rw[if_pos h1]
  simp(disch:=omega)only[go_sem]
  exact qu
 ·rw[if_neg h1]
  simp(disch:=omega)only[go_sem,h1]
  exact qu
theorem anF(xs:List Int)(hl:xs.length≤2^60):Con Tryz.prog 285 true [.sl xs.length (qb xs),.sl xs.length (qb xs)] [] (isA (.v (.bool true))):=by
 refine Con.of_w (rs:=[.tmp 4]) Tryz.func285 rfl Tryz.ntmps285 rfl ?_
 simp(disch:=omega)only[go_sem]
 refine qi (fun i:Nat=>[(0,.sl xs.length (qb xs)),(1,.sl xs.length (qb xs)),(5,.v (.int .i64 i))]) (fun _=>[]) (fun i=>i≤xs.length) (fun i=>xs.length-i) 0 (by omega)
  (Le.lst [] _ _ rfl (by simp(disch:=omega)only[go_sem]) (by simp(disch:=omega)only[go_sem])) ?_
 intro i hi
 simp(disch:=omega)only[go_sem]
 refine qg (fun h1=>?_) (fun h1=>?_)
 ·simp(disch:=omega)only[go_sem,h1]
  refine qo rfl [⟨0,[],[]⟩,⟨1,[],[]⟩,⟨2,[],[]⟩,⟨3,[],[]⟩,⟨4,[3],[]⟩,⟨5,[3],[]⟩,⟨6,[3],[]⟩,⟨7,[3],[]⟩,⟨8,[],[]⟩] (by kernel_rfl) ?_
  simp(disch:=omega)only[go_sem]
  refine⟨by omega,by omega,by omega,by omega,qe (i+1) [] (by show i+1≤_;omega) (by show xs.length-(i+1)<xs.length-i;omega) rfl (by simp(disch:=omega)only[go_sem];try omega) (by simp(disch:=omega)only[go_sem])⟩
 ·have:i=xs.length:=by omega
  subst this
  simp(disch:=omega)only[go_sem,h1]
  exact qu
theorem avC(xs:List Int)(hl:xs.length≤2^60):Con Tryz.prog 222 true [.ag [.sl xs.length (qb xs)],.ag [.sl xs.length (qb xs)]] [] (isA (.v (.bool true))):=by
 refine Con.of_w (rs:=[.tmp 4]) Tryz.func222 rfl Tryz.ntmps222 rfl ?_
 simp(disch:=omega)only[go_sem]
 refine qj (anF xs hl) ?_
 simp(disch:=omega)only[go_sem]
 exact qu
theorem agR(s:Bool)(xs:List Int)(hl:xs.length≤2^60):Con Tryz.prog 133 true [.ag [.v (.bool s),.sl xs.length (qb xs)],.ag [.v (.bool s),.sl xs.length (qb xs)]] [] (isA (.v (.bool true))):=by
 refine Con.of_w (rs:=[.tmp 4]) Tryz.func133 rfl Tryz.ntmps133 rfl ?_
 simp(disch:=omega)only[go_sem]
 have e:(s != s)=false:=by cases s<;>rfl
 simp(disch:=omega)only[go_sem,e]
 refine qj (avC xs hl) ?_
 simp(disch:=omega)only[go_sem]
 exact qu
theorem Qq(s:Bool)(xs:List Int)(e:Int)(hl:xs.length≤2^60):Con Tryz.prog 48 true [.ag [.v (.bool s),.sl xs.length (qb xs),.v (.int .i64 e)],.ag [.v (.bool s),.sl xs.length (qb xs),.v (.int .i64 e)]] [] (isA (.v (.bool true))):=by
 refine Con.of_w (rs:=[.tmp 4]) Tryz.func48 rfl Tryz.ntmps48 rfl ?_
 simp(disch:=omega)only[go_sem]
 refine qj (agR s xs hl) ?_
 simp(disch:=omega)only[go_sem]
 exact qu
end Go.Ab
namespace Go.Ab
open Go Go.Proofs
end Go.Ab
namespace Go.Ab
open Go
structure DyV where
 s:Bool
 xs:List Int
 e:Int
def DyV.cs(x:DyV):List AV:=[.v (.bool x.s),.sl x.xs.length (qb x.xs),.v (.int .i64 x.e)]
theorem auW(x:DyV):x.cs.length=3:=rfl
theorem aLX{ρ:Nat→Nat}(x:DyV):zR ρ x.cs=x.cs:=rfl
theorem auV{hp:Nat→Ob}{k:Nat}(x:DyV):x.cs.map (qM hp (k+1))=x.cs:=rfl
theorem aLY{p:Nat→Prop}(x:DyV):AllL p x.cs:=by simp[DyV.cs,AllL,AV.All]
theorem aTv{l:List DyV}:(qr DyV.cs l).length=l.length*3:=yz auW
theorem aTu{ρ:Nat→Nat}{l:List DyV}:zR ρ (qr DyV.cs l)=qr DyV.cs l:=Zn aLX
theorem aJi{hp:Nat→Ob}{k:Nat}{l:List DyV}:(qr DyV.cs l).map (qM hp (k+1))=qr DyV.cs l:=QU auV
theorem aTw{p:Nat→Prop}{l:List DyV}:AllL p (qr DyV.cs l)=True:=eq_true (Zo aLY)
theorem aJj{p:Nat→Prop}{x:DyV}:AllL p x.cs=True:=eq_true (aLY x)
attribute [go_sem] aTv aTu aJi aTw aJj aLX auV
end Go.Ab
namespace Go.Ab
open Go
/-! ### The simplifier's words for truth values-/
theorem boU:(true==true)=true:=ID rfl
theorem boX:(false==false)=true:=ID rfl
theorem boV:(true==false)=false:=ID rfl
theorem boW:(false==true)=false:=ID rfl
theorem bon:(true != true)=false:=ID rfl
theorem boq:(false != false)=false:=ID rfl
theorem boo:(true != false)=true:=ID rfl
theorem bop:(false != true)=true:=ID rfl
theorem o_t(b:Bool):(true||b)=true:=ID rfl
theorem o_f(b:Bool):(false||b)=b:=ID rfl
theorem boj(b:Bool):(b||true)=true:=by cases b<;>rfl
theorem bok(b:Bool):(b||false)=b:=by cases b<;>rfl
theorem a_t(b:Bool):(true&&b)=b:=ID rfl
theorem a_f(b:Bool):(false&&b)=false:=ID rfl
theorem bo1(b:Bool):(b&&true)=b:=by cases b<;>rfl
theorem bo2(b:Bool):(b&&false)=false:=by cases b<;>rfl
attribute [go_sem] boU boX boV boW bon boq boo bop o_t o_f
attribute [go_sem] boj bok a_t a_f bo1 bo2
theorem aT7{P:Program}{t:TypeId}[h:FlE P t]{k m e k' m' e':Int}{s s':Bool}{K:AV→Prop}:
  @jp P .eql t (.ag [.v (.int .i64 k),.v (.bool s),.v (.int .i64 m),.v (.int .i64 e)]) (.ag [.v (.int .i64 k'),.v (.bool s'),.v (.int .i64 m'),.v (.int .i64 e')]) ⟨K⟩=K (.v (.bool (bbM k s m e k' s' m' e'))):=
 propext ⟨fun g=>g.2,fun g=>⟨h,g⟩⟩
theorem aT6{P:Program}{t:TypeId}[h:FlE P t]{k m e k' m' e':Int}{s s':Bool}{K:AV→Prop}:
  @jp P .neq t (.ag [.v (.int .i64 k),.v (.bool s),.v (.int .i64 m),.v (.int .i64 e)]) (.ag [.v (.int .i64 k'),.v (.bool s'),.v (.int .i64 m'),.v (.int .i64 e')]) ⟨K⟩=K (.v (.bool (!bbM k s m e k' s' m' e'))):=
 propext ⟨fun g=>g.2,fun g=>⟨h,g⟩⟩
attribute [go_sem] aT7 aT6
/-! ### Bits of any numbers-/
def bl2(x y:Int):Int:=IntKind.i64.wrap (BitVec.ofInt IntKind.i64.bits x^^^BitVec.ofInt IntKind.i64.bits y).toNat
theorem aTS{x y:Int}{P:Program}{t:Nat}{K:AV→Prop}:@jp P .xor t (.v (.int .i64 x)) (.v (.int .i64 y)) ⟨K⟩=K (.v (.int .i64 (bl2 x y))):=by
 simp only[jp,ZW,JM,true_and];rfl
theorem JE(x:Int):((BitVec.ofInt 64 x).toNat:Int)=x % 18446744073709551616:=by
 rw[BitVec.toNat_ofInt];omega
theorem anV{x:Int}{P:Program}{t:Nat}{K:AV→Prop}:@jp P .and t (.v (.int .i64 x)) (.v (.int .i64 255)) ⟨K⟩=K (.v (.int .i64 (x % 256))):=by
 have e:IntKind.i64.wrap (BitVec.ofInt 64 x&&&BitVec.ofInt 64 255).toNat=x % 256:=by
  have h1:=JE x
  have h2:(BitVec.ofInt 64 255).toNat=2^8-1:=by decide
  rw[BitVec.toNat_and,h2,Nat.and_two_pow_sub_one_eq_mod,Z6 (by omega)]
  omega
 rw[←e];simp only[jp,ZW,JM,true_and];rfl
theorem av2{x:Int}{P:Program}{t:Nat}{K:AV→Prop}:@jp P .and t (.v (.int .i64 x)) (.v (.int .i64 1073741823)) ⟨K⟩=K (.v (.int .i64 (x % 1073741824))):=by
 have e:IntKind.i64.wrap (BitVec.ofInt 64 x&&&BitVec.ofInt 64 1073741823).toNat=x % 1073741824:=by
  have h1:=JE x
  have h2:(BitVec.ofInt 64 1073741823).toNat=2^30-1:=by decide
  rw[BitVec.toNat_and,h2,Nat.and_two_pow_sub_one_eq_mod,Z6 (by omega)]
  omega
 rw[←e];simp only[jp,ZW,JM,true_and];rfl
attribute [go_sem] aTS anV av2
theorem aIl{h:Nat→Ob}{n n' z z':Nat}{cs cs':List AV}(hn:h n=.own z cs)(hc:AllL (fun _=>False) cs)(hn':h n'=.own z' cs')(hc':AllL (fun _=>False) cs'):ZN h [n,n']:=by
 intro m hm
 rw[List.mem_cons,List.mem_singleton]at hm
 rcases hm with rfl|rfl
 ·exact⟨z,cs,hn,hc.mono fun _ h=>h.elim⟩
 ·exact⟨z',cs',hn',hc'.mono fun _ h=>h.elim⟩
def abD(h:Nat→Ob)(nms:List Nat):List Nat→List Ob
 | []=>[]
 |n::r=>(h n).ren (back nms)::abD h nms r
theorem JH{h:Nat→Ob}{nms:List Nat}:∀r:List Nat,abD h nms r=r.map (fun n=>(h n).ren (back nms))
 | []=>rfl
 |n::r=>by rw[abD,List.map_cons,JH r]
theorem at2{h:Nat→Ob}{nms:List Nat}:abD h nms []=[]:=ID rfl
theorem am0{h:Nat→Ob}{nms:List Nat}{n:Nat}{r:List Nat}:abD h nms (n::r)=(h n).ren (back nms)::abD h nms r:=ID rfl
attribute [go_sem] at2 am0
end Go.Ab
namespace Go.Ab
open Go
end Go.Ab
namespace Go.Ab
open Go
section
variable {P:Program}{f:FuncId}{args:List AV}{post:AV→List Ob→List Ob→Prop}
theorem Con.frzC{cl:Bool}(h:Con P f cl args [] post):Con P f cl args [] (fun r' hs' bs'=>hs'=[]∧bs'=[]∧∃r hs,post r hs []∧r'=qM (rhp hs []) 6 r):=by
 intro R ι w vs h1 h2 h3 h4 h5
 refine(h R ι w vs h1 h2 h3 h4 h5).mono ?_
 rintro e w' ⟨x,r,hs,bs',R',ι',he,hp,hF⟩
 have hb:bs'=[]:=List.length_eq_zero_iff.1 (by simpa using hF.len)
 subst hb
 have hfree:∀m,10000000≤m→rhp hs [] m=.free:=fun m hm=>by simp[rhp,hm]
 have hO:HpOk R' ι' w' (rhp hs []):=by
  refine⟨fun m=>?_,fun m z cs B e hB hr=>hF.nR m z cs B e hB (.inr hr),hF.inj,hF.men⟩
  rcases Nat.lt_or_ge m 10000000 with hm|hm
  ·exact hF.okF m hm
  ·rw[hfree m hm];trivial
 have hown:∀{m z cs B},rhp hs [] m=.own z cs→ι' m=some B→w.heap.size≤B.b∧B.b<w'.heap.size:=by
  intro m z cs B e hB
  have hm:m<10000000:=by
   rcases Nat.lt_or_ge m 10000000 with hm|hm
   ·exact hm
   ·rw[hfree m hm]at e;cases e
  refine⟨hF.fresh m z cs B hm e hB,?_⟩
  have:=hF.okF m hm
  rw[e,hB]at this
  obtain⟨c,T,lo,hi,g1,_⟩:=this
  rcases Nat.lt_or_ge B.b w'.heap.size with h'|h'
  ·exact h'
  ·simp[Array.getElem?_eq_none h']at g1
 refine⟨x,qM (rhp hs []) 6 r,[],[],fun b=>R' b∨an6 (rhp hs []) ι' b,ι',he,⟨rfl,rfl,r,hs,hp,rfl⟩,?_⟩
 have hnil:∀m,rhp [] [] m=.free:=fun m=>by simp[rhp]
 refine⟨hF.ext,fun b hb=>?_,fun b hb=>?_,.fr _ _ (zQ hO (fun _ h=>.inl h) (fun _ h=>.inr h) 6 hF.rep),jA 6 r,fun m _=>?_,fun m _=>?_,fun m z cs B e=>?_,fun m m' z z' cs cs' B B' e=>?_,fun m z cs e=>?_,fun m z cs B _ e=>?_,rfl,hF.bown,fun i hi=>by simp at hi⟩
 ·rcases hb with hb|⟨m,z,cs,B,e,hB,rfl⟩
  ·exact hF.rlt b hb
  ·exact(hown e hB).2
 ·rcases hb with hb|⟨m,z,cs,B,e,hB,rfl⟩
  ·exact hF.rnew b hb
  ·exact .inl (hown e hB).1
 ·rw[hnil];trivial
 ·rw[hnil];trivial
 all_goals (rw[hnil]at e;cases e)
theorem Con.frzAC{cl:Bool}{f:FuncId}{args:List AV}{a:AV}(h:Con P f cl args [] (aXN a)):Con P f cl args [] (isA a):=
 h.frzC.mono fun r hs bs ⟨h1,h2,r0,hs0,h3,h4⟩=>⟨by rw[h4];exact h3,h1,h2⟩
theorem Con.natFC{cl:Bool}{m:Nat}(h:Con P f cl args [] (aIc m)):Con P f cl args [] (isA (.ag [.sl (lim m).length (qb (lim m))])):=
 h.frzC.mono fun r hs bs ⟨h1,h2,r0,hs0,h3,h4⟩=>by
  refine⟨?_,h1,h2⟩
  rcases h3 with⟨rfl,rfl,rfl⟩|⟨zs,rfl,rfl⟩
  ·rw[h4,qt];rfl
  ·rw[h4,QE,List.map_cons,List.map_nil,zX (k:=3) (l:=lim m) (zs:=zs) qU rfl]
end
end Go.Ab
namespace Go.Ab
open Go
section
variable {σ:St}
theorem Le.ghostC(m o nm z:Nat){zo:Nat}{cs:List AV}(hm:σ.hp m=.own zo cs)(ho:cs[o]? =some (.v (.slice none 0 0)))(hf:σ.hp nm=.free):
  Le σ ⟨σ.env,upd (upd σ.hp nm (.own z [])) m (.own zo (cs.set o (.rf nm 0 0)))⟩:=by
 intro L w0 R0 N a w hi
 obtain⟨R,ι,hR,h⟩:=hi.inv
 have hg:=h.ghost (z:=z) hf
 have hne:m≠nm:=fun e=>by rw[e,hf]at hm;cases hm
 have hm':(⟨σ.env,upd σ.hp nm (.own z [])⟩:St).hp m=.own zo cs:=by show upd σ.hp nm (.own z []) m=_;rw[qI hne];exact hm
 obtain⟨hol,hoe⟩:=List.getElem?_eq_some_iff.1 ho
 have key:Inv L w0 R (upd ι nm none) w a.tmps ⟨σ.env,upd (upd σ.hp nm (.own z [])) m (.own zo (cs.set o (.rf nm 0 0)))⟩:=by
  cases hB:upd ι nm none m with
  |none=>
   have:=hg.hp.ok m
   rw[hm',hB]at this
   have e:cs=[]:=this
   rw[e]at hol;simp at hol
  |some B=>
   obtain⟨c,T,lo,hi',h1,h2,h3,h4,h5,h6⟩:=jG hg hm' hB
   refine hg.turn hm' hB rfl rfl rfl rfl (fun _ _=>rfl) ⟨c,T,lo,hi',h1,h2,h3,h4,by rw[List.length_set];exact h5,fun i hi2=>?_⟩ (AllL.of_get fun i hi2=>?_)
   ·rw[List.length_set]at hi2
    rw[List.getElem_set]
    by_cases e:o=i
    ·subst e
     rw[if_pos rfl]
     have:=h6 o hi2
     rw[hoe]at this
     rw[this.v_inv]
     exact .rf nm 0 0 0 none ⟨Nat.le_refl _,by rw[qw]⟩
    ·rw[if_neg e];exact h6 i hi2
   ·rw[List.length_set]at hi2
    rw[List.getElem_set]
    split
    ·show upd σ.hp nm (.own z []) nm≠ .free
     rw[qw];simp
    ·exact(hg.hp.men m zo cs hm').get i hi2
 exact⟨hi.df,hi.sz,R,_,hR,key⟩
end
structure ExV where
 s:Bool
 m:Nat
 e:Int
deriving DecidableEq
def ExV.cs(x:ExV):List AV:=[.v (.bool x.s),.sl (lim x.m).length (qb (lim x.m)),.v (.int .i64 x.e)]
theorem abX(x:ExV):x.cs.length=3:=rfl
theorem auK{ρ:Nat→Nat}(x:ExV):zR ρ x.cs=x.cs:=rfl
theorem auJ{hp:Nat→Ob}{k:Nat}(x:ExV):x.cs.map (qM hp (k+1))=x.cs:=rfl
theorem auL{p:Nat→Prop}(x:ExV):AllL p x.cs:=by simp[ExV.cs,AllL,AV.All]
def ex0:ExV:=⟨false,0,0⟩
theorem agl{l:List ExV}:(qr ExV.cs l).length=l.length*3:=yz abX
theorem aTl{ρ:Nat→Nat}{l:List ExV}:zR ρ (qr ExV.cs l)=qr ExV.cs l:=Zn auK
theorem ah4{hp:Nat→Ob}{k:Nat}{l:List ExV}:(qr ExV.cs l).map (qM hp (k+1))=qr ExV.cs l:=QU auJ
theorem aTn{p:Nat→Prop}{l:List ExV}:AllL p (qr ExV.cs l)=True:=eq_true (Zo auL)
theorem aJd{p:Nat→Prop}{x:ExV}:AllL p x.cs=True:=eq_true (auL x)
theorem XI{l:List ExV}{x:ExV}:qr ExV.cs l++[.v (.bool x.s),.sl (lim x.m).length (qb (lim x.m)),.v (.int .i64 x.e)]=qr ExV.cs (l++[x]):=by
 rw[←yV,zq,j0,List.append_nil];rfl
theorem aTm{l:List ExV}:cut (qr ExV.cs l) 0 (l.length*3)=qr ExV.cs l:=by
 unfold cut;rw[List.drop_zero,List.take_of_length_le (by rw[agl];exact Nat.le_refl _)]
structure SpV where
 lo:ExV
 hi:ExV
deriving DecidableEq
def SpV.cs(x:SpV):List AV:=x.lo.cs++x.hi.cs
theorem as0(x:SpV):x.cs.length=6:=rfl
theorem aLk{ρ:Nat→Nat}(x:SpV):zR ρ x.cs=x.cs:=rfl
theorem asZ{hp:Nat→Ob}{k:Nat}(x:SpV):x.cs.map (qM hp (k+1))=x.cs:=rfl
theorem aLl{p:Nat→Prop}(x:SpV):AllL p x.cs:=by simp[SpV.cs,ExV.cs,AllL,AV.All]
def sp0:SpV:=⟨ex0,ex0⟩
theorem jN{l:List SpV}:(qr SpV.cs l).length=l.length*6:=yz as0
theorem aQi{ρ:Nat→Nat}{l:List SpV}:zR ρ (qr SpV.cs l)=qr SpV.cs l:=Zn aLk
theorem ahr{hp:Nat→Ob}{k:Nat}{l:List SpV}:(qr SpV.cs l).map (qM hp (k+1))=qr SpV.cs l:=QU asZ
theorem aQk{p:Nat→Prop}{l:List SpV}:AllL p (qr SpV.cs l)=True:=eq_true (Zo aLl)
theorem aHb{p:Nat→Prop}{x:SpV}:AllL p x.cs=True:=eq_true (aLl x)
theorem Jb{l:List SpV}{x:SpV}:qr SpV.cs l++[.v (.bool x.lo.s),.sl (lim x.lo.m).length (qb (lim x.lo.m)),.v (.int .i64 x.lo.e),.v (.bool x.hi.s),.sl (lim x.hi.m).length (qb (lim x.hi.m)),.v (.int .i64 x.hi.e)]=qr SpV.cs (l++[x]):=by
 rw[←yV,zq,j0,List.append_nil];rfl
theorem aQj{l:List SpV}:cut (qr SpV.cs l) 0 (l.length*6)=qr SpV.cs l:=by
 unfold cut;rw[List.drop_zero,List.take_of_length_le (by rw[jN];exact Nat.le_refl _)]
attribute [go_sem] agl aTl ah4 aTn aJd auK auJ jN aQi ahr aQk aHb aLk asZ
end Go.Ab
namespace Go.Ab
open Go
section
variable {P:Program}{N:Nat}{σ:St}{Q:Exit→St→Prop}
theorem Le.nilC(m o:Nat){zo:Nat}{cs:List AV}(hm:σ.hp m=.own zo cs)(ho:cs[o]? =some (.v (.slice none 0 0))):
  Le σ ⟨σ.env,upd σ.hp m (.own zo (cs.set o (.sl 0 [])))⟩:=by
 intro L w0 R0 N a w hi
 obtain⟨R,ι,hR,h⟩:=hi.inv
 obtain⟨hol,hoe⟩:=List.getElem?_eq_some_iff.1 ho
 have key:Inv L w0 R ι w a.tmps ⟨σ.env,upd σ.hp m (.own zo (cs.set o (.sl 0 [])))⟩:=by
  cases hB:ι m with
  |none=>
   have:=h.hp.ok m
   rw[hm,hB]at this
   have e:cs=[]:=this
   rw[e]at hol;simp at hol
  |some B=>
   obtain⟨c,T,lo,hi',h1,h2,h3,h4,h5,h6⟩:=jG h hm hB
   refine h.turn hm hB rfl rfl rfl rfl (fun _ _=>rfl) ⟨c,T,lo,hi',h1,h2,h3,h4,by rw[List.length_set];exact h5,fun i hi2=>?_⟩ (AllL.of_get fun i hi2=>?_)
   ·rw[List.length_set]at hi2
    rw[List.getElem_set]
    by_cases e:o=i
    ·subst e
     rw[if_pos rfl]
     have:=h6 o hi2
     rw[hoe]at this
     rw[this.v_inv]
     exact .fr _ _ (.sl none 0 0 [] (fun _=>undef) 0 0 (Nat.le_refl _) (fun h=>absurd h (by simp)) (fun i h=>absurd h (by simp)) (fun i h=>absurd h (by simp)))
    ·rw[if_neg e];exact h6 i hi2
   ·rw[List.length_set]at hi2
    rw[List.getElem_set]
    split
    ·simp[AV.All]
    ·exact(h.hp.men m zo cs hm).get i hi2
 exact⟨hi.df,hi.sz,R,ι,hR,key⟩
theorem Le.frz(m:Nat){z:Nat}{ks:List AV}(hm:σ.hp m=.own z ks)(hl:yr m=false)(hn:AllL (fun _=>False) ks):
  Le σ ⟨fun s=>(σ.env s).fz m z ks,fun k=>if k=m then .dead else(σ.hp k).fz m z ks⟩:=by
 have:=Le.freeze m hm hl hn
 have e:(fun k=>bif Nat.beq k m then Ob.dead else(σ.hp k).fz m z ks)=fun k=>if k=m then Ob.dead else(σ.hp k).fz m z ks:=by
  funext k
  by_cases h:k=m
  ·subst h;rw[Nat.beq_refl,cond_true,if_pos rfl]
  ·rw[ahL h,cond_false,if_neg h]
 rwa[e]at this
theorem AW.seqLe{x y:Code}{E:List (Nat×AV)}{H:List (Nat×Ob)}(hx:AW P N x (fun ex σ'=>ex=.normal∧Le σ' ⟨ofL .un E,ofH H⟩) σ)(hy:AW P N y Q ⟨ofL .un E,ofH H⟩):AW P N (.seq x y) Q σ:=
 AW.seq (hx.mono fun ex σ' ⟨he,hl⟩=>by subst he;exact AW.le hl hy)
end
section
variable {m z:Nat}{ks:List AV}
theorem bjw:AV.fz m z ks .un=.un:=ID rfl
theorem boF{x:Value}:AV.fz m z ks (.v x)=.v x:=ID rfl
theorem bjy{n:Nat}{cs:List AV}:AV.fz m z ks (.sl n cs)=.sl n cs:=ID rfl
theorem bjB{o:Nat}{cs:List AV}:AV.fz m z ks (.fp cs o)=.fp cs o:=ID rfl
theorem bjA{nm o:Nat}:AV.fz m z ks (.pt nm o)=if nm=m then .fp ks o else .pt nm o:=by
 by_cases h:nm=m
 ·subst h;simp[AV.fz,Nat.beq_refl]
 ·simp[AV.fz,ahL h,h]
theorem bjz{nm o n:Nat}:AV.fz m z ks (.rf nm o n)=if nm=m then .sl n (cut ks o (n*z))else .rf nm o n:=by
 by_cases h:nm=m
 ·subst h;simp[AV.fz,Nat.beq_refl]
 ·simp[AV.fz,ahL h,h]
theorem bjD{cs:List AV}:AV.fz m z ks (.ag cs)=.ag (fzL m z ks cs):=ID rfl
theorem bjx{cs:List AV}:AV.fz m z ks (.tu cs)=.tu (fzL m z ks cs):=ID rfl
theorem bjC{f:Nat}{cs:List AV}:AV.fz m z ks (.fn f cs)=.fn f (fzL m z ks cs):=ID rfl
theorem aSs:fzL m z ks []=[]:=ID rfl
theorem aIz{a:AV}{r:List AV}:fzL m z ks (a::r)=a.fz m z ks::fzL m z ks r:=ID rfl
theorem aUq{y:Nat}{cs:List AV}:Ob.fz m z ks (.own y cs)=.own y (fzL m z ks cs):=ID rfl
theorem aIy{xs:List Int}:fzL m z ks (qb xs)=qb xs:=by simp[j6,qb,AV.fz]
end
section
variable {h:Nat→Ob}{ix:Nat→Option Nat}{k:Nat}
theorem aVE{f:Nat}{cs:List AV}:snp h ix (k+1) (.fn f cs)=.fn f (cs.map (snp h ix k)):=ID rfl
theorem aVF{cs:List AV}:snp h ix (k+1) (.ag cs)=.ag (cs.map (snp h ix k)):=ID rfl
theorem aVD{o:Nat}{cs:List AV}:snp h ix (k+1) (.fp cs o)=.fp cs o:=ID rfl
end
attribute [go_sem] aVE aVF aVD
attribute [go_sem] bjw boF bjy bjB bjA bjz bjD bjx bjC aSs aIz aUq aIy
end Go.Ab
namespace Go.Ab
open Go
section
variable {P:Program}
theorem jY{L:Nat→Option Blk→Prop}{w0:World}{R0:Nat→Prop}{N:Nat}{ops:Array Oper}{K:St→Prop}{Q':Exit→Act→World→Prop}{rest:List Nat}(hQ:∀σ a w,In L w0 R0 N σ a w→K σ→wpOps P ops Q' rest a w):
  ∀(r:List Oper) (k:Nat),(∀j,j<r.length→ops[k+j]? =r[j]?)→∀{e h a w},In L w0 R0 N ⟨e,h⟩ a w→ChF P N ops.toList K r e h→wpOps P ops Q' (List.range' k r.length++rest) a w
 | [],k,hk,e,h,a,w,hi,hs=>by
  simp only[List.length_nil,List.range'_zero,List.nil_append]
  exact hQ _ _ _ hi hs
 |⟨d,op,ty,pos,af,g⟩::r,k,hk,e,h,a,w,hi,hs=>by
  have ho:ops[k]? =some ⟨d,op,ty,pos,af,g⟩:=by
   have:=hk 0 (by simp)
   simpa using this
  have hr:∀j,j<r.length→ops[k+1+j]? =r[j]? :=fun j hj=>by
   have:=hk (j+1) (by simpa using hj)
   rw[show k+1+j=k+(j+1) by omega,this];simp
  have hd:dOk N d:=by cases g<;>exact hs.1
  simp only[List.length_cons,List.range'_succ,List.cons_append,wpOps,ho]
  have run:@Op1 P ⟨d⟩ ⟨op⟩ ⟨fun v hp=>ChF P N ops.toList K r (Qw e d v) hp⟩ e h→Oper.wp P ⟨d,op,ty,pos,af,g⟩ a w (wpOps P ops Q' (List.range' (k+1) r.length++rest)) Q':=fun hs=>by
   obtain⟨R,ι,hR,hinv⟩:=hi.inv
   refine ahJ hinv (Op1.sound hs ty pos af g) fun x w' R' ι' av hp' hR' hK hx hm hi'=>?_
   exact jY hQ r (k+1) hr (hi.put (o:=⟨d,op,ty,pos,af,g⟩) hd hR hR' hx hm hi') hK
  have skip:ChF P N ops.toList K r (Qw e d (.v (.tuple ⟨[]⟩))) h→wpOps P ops Q' (List.range' (k+1) r.length++rest) (a.put d undef) w:=fun hs=>by
   obtain⟨R,ι,hR,hinv⟩:=hi.inv
   exact jY hQ r (k+1) hr (hi.put (o:=⟨d,op,ty,pos,af,g⟩) hd hR (fun _ h=>.inl h) (.fr _ _ (.v _)) (by simp[AV.All]) hinv) hs
  cases g with
  |none=>
   rw[if_pos (by simp[Region.wanted])]
   exact .inl (run hs.2)
  |some p=>
   obtain⟨j,want⟩:=p
   have h2:=hs.2
   unfold abK at h2
   dsimp only at h2
   split at h2
   ·rename_i d' hd'
    have key:∀v c,e d'=.v v→(match v with| .bool b=>some b|_=>none)=c→yielded ops a.tmps j=c:=by
     intro v c hv hc
     obtain⟨R,ι,hR,hinv⟩:=hi.inv
     have:=hinv.env d'
     change Rep _ _ _ _ (e d')at this
     rw[hv]at this
     have:=this.v_inv
     unfold yielded
     rw[Array.getElem?_toList]at hd'
     rw[hd']
     rw[Array.getD_eq_getD_getElem?]at this
     cases ee:a.tmps[d']? with
     |none=>
      rw[ee]at this
      subst hc
      have:v=undef:=this.symm
      subst this;simp[ee,undef]
     |some y=>rw[ee]at this;simp at this;subst this;subst hc;simp only[Option.bind_some,ee];cases y<;>rfl
    unfold Ye at h2
    split at h2
    ·rename_i b hb
     have hy:=key _ _ hb rfl
     have hw:Region.wanted ⟨d,op,ty,pos,af,some (j,want)⟩ (yielded ops a.tmps)=(b==want):=by
      simp only[Region.wanted,hy]
      cases b<;>cases want<;>rfl
     rw[hw]
     cases hbw:b==want with
     |true=>rw[if_pos rfl];exact .inl (run (h2.1 hbw))
     |false=>rw[if_neg (by simp)];exact skip (h2.2 hbw)
    ·rename_i hb
     have hy:=key _ _ hb rfl
     have hw:Region.wanted ⟨d,op,ty,pos,af,some (j,want)⟩ (yielded ops a.tmps)=false:=by
      simp only[Region.wanted,hy]
      cases want<;>rfl
     rw[hw,if_neg (by simp)]
     exact skip (h2.2 rfl)
    ·exact h2.elim
   ·exact h2.elim
theorem AW.regSplit{N:Nat}{Q:Exit→St→Prop}{e:Nat→AV}{h:Nat→Ob}{id:Nat}{l:List Oper}{y:Code}(k:Nat){pre suf:List Oper}(hp:l.take k=pre)(hs:l.drop k=suf){E:List (Nat×AV)}{H:List (Nat×Ob)}
  (h1:@Ch P N ⟨l⟩ ⟨pre⟩ ⟨fun σ'=>Le σ' ⟨ofL .un E,ofH H⟩⟩ e h) (h2:@Ch P N ⟨l⟩ ⟨suf⟩ ⟨fun σ=>@W P N ⟨y⟩ ⟨Q⟩ σ.env σ.hp⟩ (ofL .un E) (ofH H)):AW P N (.seq (.region id ⟨l⟩ false) y) Q ⟨e,h⟩:=by
 refine AW.seq fun L w0 R0 a w hi=>wp_region ?_
 have hl:l=pre++suf:=by rw[←hp,←hs,List.take_append_drop]
 have hr:List.range (⟨l⟩:Array Oper).size=List.range' 0 pre.length++(List.range' pre.length suf.length++[]):=by
  have hsz:(⟨l⟩:Array Oper).size=pre.length+suf.length:=by show l.length=_;rw[hl,List.length_append]
  rw[hsz,List.append_nil,List.range_eq_range',List.range'_append_1.symm,Nat.zero_add]
 rw[hr]
 refine jY (K:=fun σ'=>Le σ' ⟨ofL .un E,ofH H⟩) (fun σ a w hi2 hle=>?_) pre 0 (fun j hj=>?_) hi h1
 ·refine jY (K:=fun σ=>@W P N ⟨y⟩ ⟨Q⟩ σ.env σ.hp) (fun σ a w hi3 hq=>?_) suf pre.length (fun j hj=>?_) (hle L w0 R0 N a w hi2) h2
  ·exact⟨σ,hi3,W.sound hq⟩
  ·rw[List.getElem?_toArray,hl,List.getElem?_append_right (by omega),Nat.add_sub_cancel_left]
 ·rw[List.getElem?_toArray,hl,Nat.zero_add,List.getElem?_append_left hj]
end
end Go.Ab
namespace Go.Ab
open Go
section
variable {P:Program}{f:FuncId}{args:List AV}{bs:List Ob}{post:AV→List Ob→List Ob→Prop}
end
end Go.Ab
namespace Go.Ab
open Go
structure IvV where
 lo:DyV
 hi:DyV
def IvV.cs(x:IvV):List AV:=x.lo.cs++x.hi.cs
def dy0:DyV:=⟨false,[],0⟩
def iv0:IvV:=⟨dy0,dy0⟩
theorem aLL(x:IvV):x.cs.length=6:=rfl
theorem aLK{ρ:Nat→Nat}(x:IvV):zR ρ x.cs=x.cs:=rfl
theorem aug{hp:Nat→Ob}{k:Nat}(x:IvV):x.cs.map (qM hp (k+1))=x.cs:=rfl
theorem aLM{p:Nat→Prop}(x:IvV):AllL p x.cs:=by simp[IvV.cs,DyV.cs,AllL,AV.All]
theorem aSc{l:List IvV}:(qr IvV.cs l).length=l.length*6:=yz aLL
theorem aSb{ρ:Nat→Nat}{l:List IvV}:zR ρ (qr IvV.cs l)=qr IvV.cs l:=Zn aLK
theorem aIp{hp:Nat→Ob}{k:Nat}{l:List IvV}:(qr IvV.cs l).map (qM hp (k+1))=qr IvV.cs l:=QU aug
theorem aSd{p:Nat→Prop}{l:List IvV}:AllL p (qr IvV.cs l)=True:=eq_true (Zo aLM)
theorem aIq{p:Nat→Prop}{x:IvV}:AllL p x.cs=True:=eq_true (aLM x)
attribute [go_sem] aSc aSb aIp aSd aIq aLK aug
end Go.Ab
namespace Go.Ab
open Go
def z3:List AV:=[.v (.bool false),.v (.slice none 0 0),.v (.int .i64 0)]
def z6:List AV:=[.v (.bool false),.v (.slice none 0 0),.v (.int .i64 0),.v (.bool false),.v (.slice none 0 0),.v (.int .i64 0)]
section
variable {X:Type}{f:X→List AV}{z:Nat}{n:Nat}{zs:List AV}{ρ:Nat→Nat}{p:Nat→Prop}
theorem ahc(h:zR ρ zs=zs):zR ρ (zF n zs)=zF n zs:=by
 unfold zF
 induction n with
 |zero=>rfl
 |succ n ih=>
  rw[List.replicate_succ,List.flatten_cons]
  have:∀a b:List AV,zR ρ (a++b)=zR ρ a++zR ρ b:=fun a b=>by simp[q8]
  rw[this,h,ih]
theorem ahd(h:AllL p zs):AllL p (zF n zs):=by
 unfold zF
 induction n with
 |zero=>simp[AllL]
 |succ n ih=>rw[List.replicate_succ,List.flatten_cons];exact AllL.append h ih
theorem acJ:∀(ks a b:List AV) (o:Nat),o+ks.length≤a.length→wr (a++b) o ks=wr a o ks++b
 | [],a,b,o,_=>by simp[wr]
 |k::r,a,b,o,h=>by
  simp only[List.length_cons]at h
  rw[wr,wr,List.set_append_left _ _ (by omega),acJ r]
  rw[List.length_set];omega
theorem ahD(hz:∀x,(f x).length=z)(hs:zs.length=z){L:List X}{k:Nat}(x:X):wr (qr f L++zF (k+1) zs) (L.length*z) (f x)=qr f (L++[x])++zF k zs:=by
 unfold zF
 rw[List.replicate_succ,List.flatten_cons,←List.append_assoc]
 have h1:(qr f L++zs).length=(qr f L).length+z:=by simp[hs]
 have h2:=Jg (qr f L) zs (f x) (by rw[hz,hs])
 rw[yz hz]at h2
 rw[acJ _ _ _ _ (by rw[h1,yz hz,hz];exact Nat.le_refl _),h2,←yV,zq,j0,List.append_nil]
theorem aKi:zR ρ (zF n z3)=zF n z3:=ahc rfl
theorem aKk:AllL p (zF n z3)=True:=eq_true (ahd (by simp[z3,AllL,AV.All]))
theorem aKj:(zF n z3).length=n*3:=zA n z3
theorem aKg:zR ρ (zF n z6)=zF n z6:=ahc rfl
theorem aKh:AllL p (zF n z6)=True:=eq_true (ahd (by simp[z6,AllL,AV.All]))
theorem ZE:(zF n z6).length=n*6:=zA n z6
theorem ZD:zF 0 zs=[]:=by simp[zF]
theorem aJc{L:List ExV}{k:Nat}{x:ExV}:wr (qr ExV.cs L++zF (k+1) z3) (L.length*3) [.v (.bool x.s),.sl (lim x.m).length (qb (lim x.m)),.v (.int .i64 x.e)]=qr ExV.cs (L++[x])++zF k z3:=ahD abX rfl x
theorem aHx{a b:List AV}:zR ρ (a++b)=zR ρ a++zR ρ b:=by simp[q8]
theorem aJ7{a b:List AV}:AllL p (a++b)=(AllL p a∧AllL p b):=propext ⟨fun h=>by
 induction a with
 |nil=>exact⟨by simp[AllL],h⟩
 |cons x r ih=>exact⟨⟨h.1,(ih h.2).1⟩,(ih h.2).2⟩,fun h=>AllL.append h.1 h.2⟩
end
attribute [go_sem] aKi aKk aKj aKg aKh ZE aHx aJ7
end Go.Ab
namespace Go.Ab
open Go
section
variable {X:Type}{f:X→List AV}{z:Nat}
theorem aQA(hz:∀x,(f x).length=z){y:X}{L:List X}{i:Nat}(hi:i<L.length):wr (qr f L) (i*z) (f y)=qr f (L.set i y):=by
 have e:L=L.take i++[L[i]]++L.drop (i+1):=by
  rw[List.append_assoc,List.singleton_append,List.getElem_cons_drop,List.take_append_drop]
 have h1:(qr f (L.take i)).length=i*z:=by rw[yz hz,List.length_take,Nat.min_eq_left (by omega)]
 have h2:qr f L=qr f (L.take i)++f L[i]++qr f (L.drop (i+1)):=by
  conv=>lhs;rw[e]
  rw[←yV,←yV,zq,j0,List.append_nil]
 rw[h2,acJ _ _ _ _ (by rw[List.length_append,h1,hz,hz];omega),←h1,Jg _ _ _ (by rw[hz,hz]),List.set_eq_take_append_cons_drop,if_pos hi,←yV,zq,List.append_assoc]
end
end Go.Ab
namespace Go.Ab
open Go
section
variable {σ:St}
end
end Go.Ab
namespace Go.Ab
open Go
theorem yu{L:List SpV}{k:Nat}{x:SpV}:wr (qr SpV.cs L++zF (k+1) z6) (L.length*6) [.v (.bool x.lo.s),.sl (lim x.lo.m).length (qb (lim x.lo.m)),.v (.int .i64 x.lo.e),.v (.bool x.hi.s),.sl (lim x.hi.m).length (qb (lim x.hi.m)),.v (.int .i64 x.hi.e)]=qr SpV.cs (L++[x])++zF k z6:=ahD as0 rfl x
theorem asX{L:List SpV}{i:Nat}(hi:i<L.length):qr SpV.cs L=(qr SpV.cs (L.take i)++(L.getD i sp0).lo.cs)++(L.getD i sp0).hi.cs++qr SpV.cs (L.drop (i+1))∧(qr SpV.cs (L.take i)++(L.getD i sp0).lo.cs).length=i*6+3:=by
 have e:L=L.take i++[L.getD i sp0]++L.drop (i+1):=by
  rw[List.getD_eq_getElem?_getD,List.getElem?_eq_getElem hi,Option.getD_some,List.append_assoc,List.singleton_append,List.getElem_cons_drop,List.take_append_drop]
 constructor
 ·conv=>lhs;rw[e]
  rw[←yV,←yV,zq,j0,List.append_nil]
  show _++((L.getD i sp0).lo.cs++(L.getD i sp0).hi.cs)++_=_
  rw[←List.append_assoc]
 ·rw[List.length_append,jN,List.length_take,Nat.min_eq_left (by omega),abX]
theorem aht{L:List SpV}{i:Nat}(hi:i<L.length):cut (qr SpV.cs L) (i*6+3) 3=[.v (.bool (L.getD i sp0).hi.s),.sl (lim (L.getD i sp0).hi.m).length (qb (lim (L.getD i sp0).hi.m)),.v (.int .i64 (L.getD i sp0).hi.e)]:=by
 obtain⟨h1,h2⟩:=asX hi
 rw[h1,←h2]
 unfold cut
 rw[List.append_assoc,List.drop_left',List.take_left' (abX _)]
 ·rfl
 ·rfl
end Go.Ab
namespace Go.Ab
open Go
section
variable {P:Program}{N:Nat}{Q:Exit→St→Prop}{σ:St}
end
end Go.Ab
namespace Go.Ab
open Go
/-! ### Rows of which some cells groups are still nought-/
def ocs:Option ExV→List AV
 |none=>z3
 |some x=>x.cs
theorem aWP:∀x,(ocs x).length=3:=fun x=>by cases x<;>rfl
theorem aRu{ρ:Nat→Nat}{l:List (Option ExV)}:zR ρ (qr ocs l)=qr ocs l:=Zn fun x=>by
 cases x with
 |none=>exact ID rfl
 |some x=>exact auK x
theorem aRv{p:Nat→Prop}{l:List (Option ExV)}:AllL p (qr ocs l)=True:=eq_true (Zo fun x=>by
 cases x with
 |none=>simp[ocs,z3,AllL,AV.All]
 |some x=>exact auL x)
theorem atD{l:List (Option ExV)}:(qr ocs l).length=l.length*3:=yz aWP
theorem aHN{k:Nat}:zF k z3=qr ocs (List.replicate k none):=by
 unfold qr zF
 rw[List.map_replicate];rfl
theorem aRt{l:List (Option ExV)}{i:Nat}{x:ExV}(hi:i<l.length):wr (qr ocs l) (i*3) [.v (.bool x.s),.sl (lim x.m).length (qb (lim x.m)),.v (.int .i64 x.e)]=qr ocs (l.set i (some x)):=aQA aWP (y:=some x) hi
theorem aHO{hp:Nat→Ob}{k:Nat}{l:List (Option ExV)}:(qr ocs l).map (qM hp (k+1))=qr ExV.cs (l.map fun o=>o.getD ex0):=by
 induction l with
 |nil=>rfl
 |cons o l ih=>
  rw[zq,List.map_append,ih,List.map_cons,zq]
  congr 1
  cases o with
  |none=>simp[ocs,z3,qM,ExV.cs,ex0,qt,qb]
  |some x=>
   have:=ah4 (hp:=hp) (k:=k) (l:=[x])
   rw[zq,j0,List.append_nil]at this
   exact this
attribute [go_sem] aRu aRv atD
end Go.Ab
namespace Go.Ab
open Go
/-! ### A call that lends what its arguments name deep within-/
def aL3(P:Program)(f:FuncId)(aa0:List AV)(hp:Nat→Ob)(nm0:Nat)(K:AV→(Nat→Ob)→Prop):Prop:=
 ∃cl nms post,Con P f cl (aa0.map (snp (hpx cl nms hp) (idx nms) 6)) (nms.map fun n=>(hp n).ren (back nms)) post∧nms.Nodup∧ZN hp nms∧
  ∀r hs bs',post r hs bs'→hs.length≤10000000∧qC hp nm0 hs∧(cl=true→nms=[]∨∀ob∈bs',ob.plain)∧
   K (r.ren (rho nm0 nms)) (QM (X5 (rho nm0 nms) hp nm0 hs) nms (bs'.map (Ob.ren (rho nm0 nms))))
section
variable {P:Program}{L:Nat→Option Blk→Prop}{w0 w:World}{R:Nat→Prop}{ι:Nat→Option Blk}{tm:Array Value}{σ:St}{K:AV→(Nat→Ob)→Prop}
theorem avQ{f:FuncId}{aa0:List AV}{nm0:Nat}{vs:Array Value}(h:Inv L w0 R ι w tm σ)(hv:RepA R ι w vs aa0)(hs:aL3 P f aa0 σ.hp nm0 K):
  Calls P f vs w fun e w'=>∃x R' ι' av hp',e=.returned x∧(∀b,R' b→R b∨w.heap.size≤b)∧K av hp'∧Rep R' ι' w' x av∧av.All (fun m=>hp' m≠ .free)∧Inv L w0 R' ι' w' tm ⟨σ.env,hp'⟩:=by
 obtain⟨cl,nms,post,hc,hnd,hl,hpost⟩:=hs
 let R₁:Nat→Prop:=fun b=>R b∨an6 (hpx cl nms σ.hp) ι b
 let ι₁:Nat→Option Blk:=fun m=>if 10000000≤m then(nms[m-10000000]?).bind ι else none
 have hHx:=h.hp.hpx cl nms
 have hι₁:∀i (hi:i<nms.length),ι₁ (10000000+i)=ι nms[i]:=fun i hi=>by
  show(if 10000000≤10000000+i then _ else _)=_
  rw[if_pos (by omega),show 10000000+i-10000000=i by omega,List.getElem?_eq_getElem hi];rfl
 have hbk:∀m,(idx nms m).isSome=true→∃i,∃hi:i<nms.length,nms[i]=m∧back nms m=10000000+i:=by
  intro m hm
  obtain⟨i,e⟩:=Option.isSome_iff_exists.1 hm
  obtain⟨hi,e2⟩:=yD e
  exact⟨i,hi,e2,by simp[back,e]⟩
 have hxe:∀{m z cs},hpx cl nms σ.hp m=.own z cs→σ.hp m=.own z cs∧cl=true∧idx nms m=none:=by
  intro m z cs e
  unfold hpx at e
  cases cl with
  |false=>cases e
  |true=>
   simp only[cond_true]at e
   split at e
   ·cases e
   ·rename_i hi;exact⟨e,rfl,by simpa using hi⟩
 generalize hbs:nms.map (fun n=>(σ.hp n).ren (back nms))=bs at hc
 have hblen:bs.length=nms.length:=by rw[←hbs];simp
 have hbget:∀i (hi:i<nms.length),bhp bs (10000000+i)=(σ.hp nms[i]).ren (back nms):=fun i hi=>by
  simp only[bhp]
  rw[if_pos (by omega),show 10000000+i-10000000=i by omega,←hbs,List.getD_eq_getElem?_getD,List.getElem?_map,List.getElem?_eq_getElem hi];rfl
 have hbown:∀{m z cs},bhp bs m=.own z cs→∃i,∃hi:i<nms.length,m=10000000+i∧∃cs0,σ.hp nms[i]=.own z cs0∧cs=zR (back nms) cs0∧AllL (fun m=>(idx nms m).isSome=true) cs0:=by
  intro m z cs e
  have h5:10000000≤m:=by
   rcases Nat.lt_or_ge m 10000000 with h|h
   ·simp[bhp,show ¬10000000≤m by omega]at e
   ·exact h
  obtain⟨i,rfl⟩:∃i,m=10000000+i:=⟨m-10000000,by omega⟩
  have hi:i<nms.length:=by
   rcases Nat.lt_or_ge i nms.length with h|h
   ·exact h
   ·simp only[bhp]at e
    rw[if_pos h5,show 10000000+i-10000000=i by omega,List.getD_eq_getElem?_getD,List.getElem?_eq_none (by omega)]at e
    cases e
  rw[hbget i hi]at e
  obtain⟨z',cs0,eo,ha⟩:=hl _ (List.getElem_mem hi)
  rw[eo]at e
  simp only[Ob.ren]at e
  injection e with e1 e2
  subst e1
  exact⟨i,hi,rfl,cs0,eo,e2.symm,ha⟩
 have hbne:∀i,i<nms.length→bhp bs (10000000+i)≠ .free:=fun i hi=>by
  rw[hbget i hi]
  obtain⟨z',cs0,eo,ha⟩:=hl _ (List.getElem_mem hi)
  rw[eo];simp[Ob.ren]
 have hR₁lt:∀b,R₁ b→b<w.heap.size:=fun b hb=>by
  rcases hb with hb|⟨m,z,cs,B,e,hB,rfl⟩
  ·exact h.rlt b hb
  ·exact h.block_lt (hxe e).1 hB
 have hnR₁:∀i (hi:i<nms.length) B,ι nms[i]=some B→¬R₁ B.b:=fun i hi B hB hr=>by
  obtain⟨z',cs0,eo,ha⟩:=hl _ (List.getElem_mem hi)
  rcases hr with hr|⟨m,z,cs,B',e,hB',eb⟩
  ·exact h.hp.nR _ _ _ _ eo hB hr
  ·have:=h.hp.inj _ _ _ _ _ _ _ _ (hxe e).1 eo hB' hB eb
   subst this
   have:=(hxe e).2.2
   rw[QH hnd i hi]at this;cases this
 have hHp:HpOk R₁ ι₁ w (bhp bs):=by
  refine⟨fun m=>?_,fun m z cs B e hB=>?_,fun m m' z z' cs cs' B B' e e' hB hB' hbb=>?_,fun m z cs e=>?_⟩
  ·cases e:bhp bs m with
   |free=>trivial
   |dead=>trivial
   |own z cs=>
    obtain⟨i,hi,rfl,cs0,eo,rfl,ha⟩:=hbown e
    rw[hι₁ i hi]
    have hok:=h.hp.ok nms[i]
    rw[eo]at hok
    have h1:OOk R₁ ι w (ι nms[i]) (.own z cs0):=hok.mono (fun _ _=>rfl) (fun _ _ _ _ _=>rfl) (fun _ h=>.inl h) (fun _ _ _=>AllL.of_mem fun a _=>AV.all_true (fun _=>rfl) a)
    refine h1.ren (ρ:=back nms) fun z' cs' e'=>?_
    cases e'
    refine ha.mono fun m hm=>?_
    obtain⟨j,hj,e1,e2⟩:=hbk m hm
    rw[e2,hι₁ j hj,e1]
  ·obtain⟨i,hi,rfl,cs0,eo,rfl,ha⟩:=hbown e
   rw[hι₁ i hi]at hB
   exact hnR₁ i hi B hB
  ·obtain⟨i,hi,rfl,cs0,eo,rfl,ha⟩:=hbown e
   obtain⟨j,hj,rfl,cs0',eo',rfl,ha'⟩:=hbown e'
   rw[hι₁ i hi]at hB
   rw[hι₁ j hj]at hB'
   have:=h.hp.inj _ _ _ _ _ _ _ _ eo eo' hB hB' hbb
   have h1:=QH hnd i hi
   rw[this,QH hnd j hj]at h1
   cases h1;rfl
  ·obtain⟨i,hi,rfl,cs0,eo,rfl,ha⟩:=hbown e
   refine ha.ren fun m hm=>?_
   obtain⟨j,hj,e1,e2⟩:=hbk m hm
   rw[e2];exact hbne j hj
 have hrho:∀m i,idx nms m=some i→ι₁ (10000000+i)=ι m:=fun m i e=>by
  obtain⟨hi,e2⟩:=yD e
  rw[hι₁ i hi,e2]
 have hargs:RepA R₁ ι₁ w vs (aa0.map (snp (hpx cl nms σ.hp) (idx nms) 6)):=
  hv.all fun hx=>afP hHx (fun _ h=>.inl h) (fun _ h=>.inr h) hrho 6 hx
 have hall:AllL (fun m=>bhp bs m≠ .free) (aa0.map (snp (hpx cl nms σ.hp) (idx nms) 6)):=AllL.of_mem fun a ha=>by
  obtain⟨b,_,rfl⟩:=List.mem_map.1 ha
  refine afQ (fun m i e=>?_) 6 b
  obtain⟨hi,e2⟩:=yD e
  exact hbne i hi
 have hGd:GdL (an6 (bhp bs) ι₁) w:=by
  refine⟨h.gdw,fun g l hg ho=>?_⟩
  obtain⟨m,z,cs,B,e,hB,eb⟩:=ho
  obtain⟨i,hi,rfl,cs0,eo,rfl,ha⟩:=hbown e
  rw[hι₁ i hi]at hB
  exact h.gno eo hB g l hg eb
 refine(hc R₁ ι₁ w vs hR₁lt hargs hall hHp hGd).mono ?_
 rintro e w' ⟨x,r,hs,bs',R',ι',rfl,hp,hF⟩
 obtain⟨hN16,hfree,hpl,hK⟩:=hpost r hs bs' hp
 have hN:hs.length≤10000000:=by omega
 have hlen:bs'.length=nms.length:=hF.len.trans hblen
 have hnew:∀b,R' b→w.heap.size≤b∨R b:=fun b hb=>by
  rcases hF.rnew b hb with h1|⟨hcl,h1|⟨m,z,cs,B,e,_⟩⟩
  ·exact .inl h1
  ·exact .inr h1
  ·have:=(hxe e).2.1;rw[hcl]at this;cases this
 have hext:Ext (fun b=>∃n∈nms,∃B,ι n=some B∧B.b=b) w w':=⟨hF.ext.os,hF.ext.tape,hF.ext.output,hF.ext.size,fun b hb hn=>hF.ext.block b hb fun⟨m,z,cs,B,e,hB,eb⟩=>by
  obtain⟨i,hi,rfl,cs0,eo,rfl,ha⟩:=hbown e
  rw[hι₁ i hi]at hB
  exact hn ⟨_,List.getElem_mem hi,B,hB,eb⟩⟩
 have hok:∀m,10000000≤m→OOk (fun b=>R b∨R' b) ι' w' (ι' m) (rhp hs bs' m):=by
  intro m h5
  have h1:=hF.okB m h5
  cases cl with
  |false=>
   refine OOk.mono h1 (fun _ _=>rfl) (fun _ _ _ _ _=>rfl) (fun b hb=>?_) (fun _ _ _=>AllL.of_mem fun a _=>AV.all_true (fun _=>rfl) a)
   rcases hb with(hb|⟨m,z,cs,B,e,_⟩)|hb
   ·exact .inl hb
   ·have:=(hxe e).2.1;cases this
   ·exact .inr hb
  |true=>
   refine h1.plain ?_
   rcases hpl rfl with h2|h2
   ·subst h2
    have:bs'=[]:=List.length_eq_zero_iff.1 (by simpa using hlen)
    subst this
    simp[rhp,h5,Ob.plain]
   ·simp only[rhp,if_pos h5,List.getD_eq_getElem?_getD]
    cases e:bs'[m-10000000]? with
    |none=>simp[Ob.plain]
    |some ob=>simpa using h2 ob (List.mem_of_getElem? e)
 have hnR:∀m z cs B,rhp hs bs' m=.own z cs→ι' m=some B→¬(R B.b∨R' B.b):=fun m z cs B e hB hr=>hF.nR m z cs B e hB (hr.imp .inl id)
 have hlive:∀n∈nms,∃z cs,σ.hp n=.own z cs:=fun n hn=>let ⟨z,cs,e,_⟩:=hl n hn;⟨z,cs,e⟩
 obtain⟨ι₂,hi,hr,ha⟩:=Y4 (nm0:=nm0) h hnd hlive hext hF.rlt hnew hF.rep hF.all hF.okF hok hnR hF.inj hF.men hF.fresh hlen hN
  (fun i hi=>by rw[hF.bown _ (by omega),hι₁ i hi]) hF.bnf hfree
 exact⟨x,fun b=>R b∨R' b,ι₂,_,_,rfl,fun b hb=>hb.elim .inl fun hb=>(hnew b hb).elim .inr .inl,hK,hr,ha,hi⟩
end
section
variable {P:Program}{L:Nat→Option Blk→Prop}{w0 w:World}{R:Nat→Prop}{ι:Nat→Option Blk}{a:Act}{σ:St}{K:AV→(Nat→Ob)→Prop}
 {next:Act→World→Prop} {Q:Exit→Act→World→Prop}
theorem atB{o:Oper}{c}{x:Operand}{f:FuncId}(ho:o.op=.call c)(hc:c.callee=.value x)(e:σ.ev x=.fn f [])(hfn:qn P f)(h:Inv L w0 R ι w a.tmps σ)(hs:aL3 P f (c.args.toList.map σ.ev) σ.hp (crn o) K)
  (hnext:∀x w' R' ι' av hp',(∀b,R' b→R b∨w.heap.size≤b)→K av hp'→Rep R' ι' w' x av→av.All (fun m=>hp' m≠ .free)→Inv L w0 R' ι' w' a.tmps ⟨σ.env,hp'⟩→next (a.put o.dst x) w'):
  o.wp P a w next Q:=by
 unfold Oper.wp
 have hv:=ahG h c.args
 obtain⟨fn,hf,hn,hb⟩:=hfn
 have hx:=h.ev x
 rw[e]at hx
 obtain⟨vs,hx,h1,h2⟩:=hx.fn_inv
 have hvs:RepA R ι w vs []:=⟨h1,h2⟩
 have hv2:=hv.append hvs
 rw[List.append_nil]at hv2
 have hcl:=avQ (nm0:=crn o) h hv2 hs
 have hbn:fn.body.isNone=false:=by cases hq:fn.body<;>simp_all
 have hnn:(fn.name== "runtime.NumGoroutine")=false:=by simpa using hn
 have hrun:(execOp a.eval o).run P w=.ok (.enter f (c.args.map a.eval++vs)) w:=by
  simp only[execOp,ho,resolve,hc,hx,Deferred.ofValue,Sem.run_bind,Sem.run_pure,Result.andThen,invoke,Array.empty_append]
  exact ZT hf hnn hbn _
 rw[hrun,Oper.upon_enter]
 refine hcl.mono ?_
 rintro e w' ⟨x,R',ι',av,hp',rfl,h3,h4,h5,h6,h7⟩
 exact hnext x w' R' ι' av hp' h3 h4 h5 h6 h7
theorem AW.regCall{N:Nat}{Q:Exit→St→Prop}{e:Nat→AV}{h:Nat→Ob}{id:Nat}{l:List Oper}{y:Code}(k:Nat){pre suf:List Oper}{d ty:Nat}{pos:String}{af:Array Edge}{c}{x:Operand}{f:FuncId}
  (hp:l.take k=pre) (hs:l.drop k=⟨some d,.call c,ty,pos,af,none⟩::suf) {E:List (Nat×AV)} {H:List (Nat×Ob)}
  (h1:@Ch P N ⟨l⟩ ⟨pre⟩ ⟨fun σ'=>Le σ' ⟨ofL .un E,ofH H⟩⟩ e h)
  (hd:d<N) (hcal:c.callee=.value x) (hx:evW (ofL .un E) x=.fn f []) (hfn:qn P f) {aa0:List AV} (haa:evL (ofL .un E) c.args.toList=aa0)
  (cl:Bool) (nms:List Nat) {args:List AV} {bs:List Ob} {post:AV→List Ob→List Ob→Prop} (hc:Con P f cl args bs post) (ha:aa0.map (snp (hpx cl nms (ofH H)) (idx nms) 6)=args)
  (hb:abD (ofH H) nms nms=bs) (hnd:ZL nms=true) (hl:ZN (ofH H) nms)
  (hk:∀r hs bs',post r hs bs'→bs'.length=bs.length→(hs.length≤10000000∧qC (ofH H) (20000000+10000000*d) hs∧(cl=true→∀ob∈bs',ob.plain))∧
   @Ch P N ⟨l⟩ ⟨suf⟩ ⟨fun σ=>@W P N ⟨y⟩ ⟨Q⟩ σ.env σ.hp⟩ (upd (ofL .un E) d (r.ren (rho (20000000+10000000*d) nms))) (QM (X5 (rho (20000000+10000000*d) nms) (ofH H) (20000000+10000000*d) hs) nms (bs'.map (Ob.ren (rho (20000000+10000000*d) nms))))):
  AW P N (.seq (.region id ⟨l⟩ false) y) Q ⟨e,h⟩:=by
 refine AW.seq fun L w0 R0 a w hi=>wp_region ?_
 have hl2:l=pre++⟨some d,.call c,ty,pos,af,none⟩::suf:=by rw[←hp,←hs,List.take_append_drop]
 have hr:List.range (⟨l⟩:Array Oper).size=List.range' 0 pre.length++(pre.length::(List.range' (pre.length+1) suf.length++[])):=by
  have hsz:(⟨l⟩:Array Oper).size=pre.length+(suf.length+1):=by show l.length=_;rw[hl2,List.length_append,List.length_cons]
  rw[hsz,List.append_nil,List.range_eq_range',List.range'_append_1.symm,Nat.zero_add,List.range'_succ]
 rw[hr]
 refine jY (K:=fun σ'=>Le σ' ⟨ofL .un E,ofH H⟩) (fun σ a w hi2 hle=>?_) pre 0 (fun j hj=>?_) hi h1
 ·have hi3:=hle L w0 R0 N a w hi2
  obtain⟨R,ι,hR,hinv⟩:=hi3.inv
  have hget:(⟨l⟩:Array Oper)[pre.length]? =some ⟨some d,.call c,ty,pos,af,none⟩:=by
   rw[List.getElem?_toArray,hl2,List.getElem?_append_right (Nat.le_refl _),Nat.sub_self];rfl
  simp only[wpOps,hget]
  rw[if_pos (by simp[Region.wanted])]
  refine .inl (atB (c:=c) (x:=x) (f:=f) (σ:=⟨ofL .un E,ofH H⟩) rfl hcal (by rw[zC];exact hx) hfn hinv
   (K:=fun v hp'=>@Ch P N ⟨l⟩ ⟨suf⟩ ⟨fun σ=>@W P N ⟨y⟩ ⟨Q⟩ σ.env σ.hp⟩ (upd (ofL .un E) d v) hp') ?_ fun x w' R' ι' av hp' hR' hK hx hm hi'=>?_)
  ·have ea:c.args.toList.map (St.ev ⟨ofL .un E,ofH H⟩)=aa0:=by
    rw[←haa,yG]
    exact List.map_congr_left fun z _=>zC _ _ _
   rw[ea]
   refine⟨cl,nms,fun r hs bs'=>post r hs bs'∧bs'.length=bs.length,?_,jH hnd,hl,fun r hs bs' ⟨hp,hb⟩=>?_⟩
   ·rw[ha,←JH nms,hb];exact Con.len' hc
   ·obtain⟨⟨g1,g2,g3⟩,g4⟩:=hk r hs bs' hp hb
    exact⟨g1,g2,fun g=>.inr (g3 g),g4⟩
  ·refine jY (K:=fun σ=>@W P N ⟨y⟩ ⟨Q⟩ σ.env σ.hp) (fun σ a w hi4 hq=>?_) suf (pre.length+1) (fun j hj=>?_) (hi3.put (o:=⟨some d,.call c,ty,pos,af,none⟩) hd hR hR' hx hm hi') hK
   ·exact⟨σ,hi4,W.sound hq⟩
   rw[List.getElem?_toArray,hl2,List.getElem?_append_right (by omega),show pre.length+1+j-pre.length=j+1 by omega];rfl
 ·rw[List.getElem?_toArray,hl2,Nat.zero_add,List.getElem?_append_left hj]
end
end Go.Ab
namespace Go.Ab
open Go Go.Proofs
/-! ### Copies of one's own-/
theorem agz(xs:List Int)(hl:xs.length≤2000000):Con Tryz.prog 287 false [.sl xs.length (qb xs)] [] (fun r hs bs=>r=.rf 0 0 xs.length∧hs=[.own 1 (qb xs)]):=by
 refine Con.of_aw Tryz.func287 rfl Tryz.ntmps287 (by simp) (by simp) (by simp) (W.sound ?_)
 show @W Tryz.prog 22 ⟨_⟩ ⟨fun x σ=>@q9 _ _ _ ⟨_⟩ _ ⟨_⟩ x σ⟩ _ _
 simp(disch:=omega)only[go_sem]
 refine⟨⟨by omega,by omega,by omega⟩,?_⟩
 refine qi (fun i:Nat=>[(0,.sl xs.length (qb xs)),(3,.rf 90000000 0 xs.length),(4,.v (.int .i64 i))]) (fun i=>[(90000000,.own 1 (qb (xs.take i++List.replicate (xs.length-i) 0)))]) (fun i=>i≤xs.length) (fun i=>xs.length-i) 0 (by omega)
  (Le.lst [] _ _ rfl (by simp(disch:=omega)only[go_sem];try omega) (by simp(disch:=omega)only[go_sem,X7,List.take_zero,List.nil_append,Nat.sub_zero])) ?_
 intro i hi
 simp(disch:=omega)only[go_sem]
 refine qg (fun h1=>?_) (fun h1=>?_)
 ·simp(disch:=omega)only[go_sem,h1]
  have el:(xs.take i++List.replicate (xs.length-i) 0).length=xs.length:=by rw[List.length_append,List.length_take,List.length_replicate];omega
  refine⟨by omega,by omega,by omega,by omega,qe (i+1) [] (by show i+1≤_;omega) (by show xs.length-(i+1)<xs.length-i;omega) rfl (by simp(disch:=omega)only[go_sem];try omega) (by simp(disch:=omega)only[go_sem,ahy (by omega:i<xs.length)])⟩
 ·have:i=xs.length:=by omega
  subst this
  simp(disch:=omega)only[go_sem,h1]
  refine qh [(0,90000000)] [.own 1 (qb xs)] [] [.rf 0 0 xs.length] rfl (by simp(disch:=omega)only[go_sem]) (by simp(disch:=omega)only[go_sem,List.take_length,Nat.sub_self,List.replicate_zero,List.append_nil]) (by simp) (by simp) ⟨rfl,rfl⟩
theorem ani(xs:List Int)(hl:xs.length≤2000000):Con Tryz.prog 228 false [.ag [.sl xs.length (qb xs)]] [] (fun r hs bs=>r=.ag [.rf 0 0 xs.length]∧hs=[.own 1 (qb xs)]):=by
 refine Con.of_aw Tryz.func228 rfl Tryz.ntmps228 (by simp) (by simp) (by simp) (W.sound ?_)
 show @W Tryz.prog 9 ⟨_⟩ ⟨fun x σ=>@q9 _ _ _ ⟨_⟩ _ ⟨_⟩ x σ⟩ _ _
 simp(disch:=omega)only[go_sem]
 refine qE (agz xs hl) (by simp(disch:=omega)only[go_sem]) ?_
 rintro r hs ⟨rfl,rfl⟩
 refine⟨by simp[qC];simp(disch:=omega)only[go_sem],?_⟩
 simp(disch:=omega)only[go_sem]
 refine qh [(0,80000000)] [.own 1 (qb xs)] [] [.ag [.rf 0 0 xs.length]] rfl (by simp(disch:=omega)only[go_sem]) (by simp(disch:=omega)only[go_sem]) (by simp) (by simp) ⟨rfl,rfl⟩
theorem ab4(s:Bool)(xs:List Int)(hl:xs.length≤2000000):Con Tryz.prog 139 false [.ag [.v (.bool s),.sl xs.length (qb xs)]] [] (fun r hs bs=>r=.ag [.v (.bool s),.rf 0 0 xs.length]∧hs=[.own 1 (qb xs)]):=by
 refine Con.of_aw Tryz.func139 rfl Tryz.ntmps139 (by simp) (by simp) (by simp) (W.sound ?_)
 show @W Tryz.prog 12 ⟨_⟩ ⟨fun x σ=>@q9 _ _ _ ⟨_⟩ _ ⟨_⟩ x σ⟩ _ _
 simp(disch:=omega)only[go_sem]
 refine qE (ani xs hl) (by simp(disch:=omega)only[go_sem]) ?_
 rintro r hs ⟨rfl,rfl⟩
 refine⟨by simp[qC];simp(disch:=omega)only[go_sem],?_⟩
 simp(disch:=omega)only[go_sem]
 refine qh [(0,110000000)] [.own 1 (qb xs)] [] [.ag [.v (.bool s),.rf 0 0 xs.length]] rfl (by simp(disch:=omega)only[go_sem]) (by simp(disch:=omega)only[go_sem]) (by simp) (by simp) ⟨rfl,rfl⟩
theorem au6(s:Bool)(xs:List Int)(e:Int)(hl:xs.length≤2000000):Con Tryz.prog 55 false [.ag [.v (.bool s),.sl xs.length (qb xs),.v (.int .i64 e)]] [] (fun r hs bs=>r=.ag [.v (.bool s),.rf 0 0 xs.length,.v (.int .i64 e)]∧hs=[.own 1 (qb xs)]):=by
 refine Con.of_aw Tryz.func55 rfl Tryz.ntmps55 (by simp) (by simp) (by simp) (W.sound ?_)
 show @W Tryz.prog 12 ⟨_⟩ ⟨fun x σ=>@q9 _ _ _ ⟨_⟩ _ ⟨_⟩ x σ⟩ _ _
 simp(disch:=omega)only[go_sem]
 refine qE (ab4 s xs hl) (by simp(disch:=omega)only[go_sem]) ?_
 rintro r hs ⟨rfl,rfl⟩
 refine⟨by simp[qC];simp(disch:=omega)only[go_sem],?_⟩
 simp(disch:=omega)only[go_sem]
 refine qh [(0,80000000)] [.own 1 (qb xs)] [] [.ag [.v (.bool s),.rf 0 0 xs.length,.v (.int .i64 e)]] rfl (by simp(disch:=omega)only[go_sem]) (by simp(disch:=omega)only[go_sem]) (by simp) (by simp) ⟨rfl,rfl⟩
/-! ### Marks-/
def mkI(k n:Nat):List Int:=(List.range n).map fun i=>((k+i:Nat):Int)
theorem QF(k n:Nat):(mkI k n).length=n:=by simp[mkI]
theorem aIf(k n:Nat):mkI k (n+1)=mkI k n++[((k+n:Nat):Int)]:=by simp[mkI,List.range_succ]
theorem aRZ{k n i:Nat}(h:i<n):(mkI k n).getD i 0=((k+i:Nat):Int):=by
 simp[mkI,List.getD_eq_getElem?_getD,List.getElem?_range h]
theorem aRY{k i:Nat}{xs:List Int}(h:i<xs.length):(mkI k i++xs.drop i).set i ((k+i:Nat):Int)=mkI k (i+1)++xs.drop (i+1):=by
 have hl:=QF k i
 rw[List.set_append_right _ _ (by omega),hl,Nat.sub_self,List.drop_eq_getElem_cons h,List.set_cons_zero,aIf]
 simp
theorem acq(k n:Nat)(hn:n≤2^40)(hk:k≤2^40):Con Tryz.prog 225 true [.sl n (qb (mkI k n)),.v (.int .i64 k)] [] (isA (.v (.int .i64 ((k+n:Nat):Int)))):=by
 refine Con.of_w (rs:=[.tmp 4]) Tryz.func225 rfl Tryz.ntmps225 rfl ?_
 simp(disch:=omega)only[go_sem]
 refine qi (fun i:Nat=>[(0,.sl n (qb (mkI k n))),(1,.v (.int .i64 ((k+i:Nat):Int))),(5,.v (.int .i64 i))]) (fun _=>[]) (fun i=>i≤n) (fun i=>n-i) 0 (by omega)
  (Le.lst [] _ _ rfl (by simp(disch:=omega)only[go_sem,Nat.add_zero]) (by simp(disch:=omega)only[go_sem])) ?_
 intro i hi
 simp(disch:=omega)only[go_sem]
 refine qg (fun h1=>?_) (fun h1=>?_)
 ·have hg:=aRZ (k:=k) (n:=n) (i:=i) (by omega)
  have hlen:=QF k n
  simp(disch:=omega)only[go_sem,h1,hg]
  have e1:((k+i:Nat):Int)+1=((k+(i+1):Nat):Int):=by omega
  refine⟨⟨by omega,by omega⟩,by omega,qe (i+1) [] (by show i+1≤_;omega) (by show n-(i+1)<n-i;omega) rfl (by simp(disch:=omega)only[go_sem,e1];try omega) (by simp(disch:=omega)only[go_sem])⟩
 ·have:i=n:=by omega
  subst this
  simp(disch:=omega)only[go_sem,h1]
  exact qu
theorem acf(k:Nat)(xs:List Int)(hn:xs.length≤2^40)(hk:k≤2^40):Con Tryz.prog 223 false [.rf 10000000 0 xs.length,.v (.int .i64 k)] [.own 1 (qb xs)]
  (fun r hs bs=>r=.v (.int .i64 ((k+xs.length:Nat):Int))∧hs=[]∧bs=[.own 1 (qb (mkI k xs.length))]):=by
 refine Con.of_aw Tryz.func223 rfl Tryz.ntmps223 (by simp) (by simp) (by simp) (W.sound ?_)
 show @W Tryz.prog 19 ⟨_⟩ ⟨fun x σ=>@q9 _ _ _ ⟨_⟩ _ ⟨_⟩ x σ⟩ _ _
 simp(disch:=omega)only[go_sem]
 refine qi (fun i:Nat=>[(0,.rf 10000000 0 xs.length),(1,.v (.int .i64 ((k+i:Nat):Int))),(5,.v (.int .i64 i))]) (fun i=>[(10000000,.own 1 (qb (mkI k i++xs.drop i)))]) (fun i=>i≤xs.length) (fun i=>xs.length-i) 0 (by omega)
  (Le.lst [] _ _ rfl (by simp(disch:=omega)only[go_sem,Nat.add_zero]) (by simp(disch:=omega)only[go_sem,List.drop_zero];try rfl)) ?_
 intro i hi
 simp(disch:=omega)only[go_sem]
 refine qg (fun h1=>?_) (fun h1=>?_)
 ·have hlen:(mkI k i++xs.drop i).length=xs.length:=by
   rw[List.length_append,QF,List.length_drop];omega
  have hs:=aRY (k:=k) (i:=i) (xs:=xs) (by omega)
  have e1:((k+i:Nat):Int)+1=((k+(i+1):Nat):Int):=by omega
  simp(disch:=omega)only[go_sem,h1]
  refine⟨by omega,by omega,qe (i+1) [] (by show i+1≤_;omega) (by show xs.length-(i+1)<xs.length-i;omega) rfl (by simp(disch:=omega)only[go_sem,e1];try omega) (by simp(disch:=omega)only[go_sem,hs])⟩
 ·have:i=xs.length:=by omega
  subst this
  simp(disch:=omega)only[go_sem,h1]
  refine qh [] [] [.own 1 (qb (mkI k xs.length))] [.v (.int .i64 ((k+xs.length:Nat):Int))] rfl (by simp(disch:=omega)only[go_sem]) (by simp(disch:=omega)only[go_sem,List.drop_length,List.append_nil]) (by simp) (by simp) ⟨rfl,rfl,rfl⟩
theorem agG(k:Nat)(xs:List Int)(hn:xs.length≤2^40)(hk:k≤2^40):Con Tryz.prog 224 false [.ag [.rf 10000000 0 xs.length],.v (.int .i64 k)] [.own 1 (qb xs)]
  (fun r hs bs=>r=.v (.int .i64 ((k+xs.length:Nat):Int))∧hs=[]∧bs=[.own 1 (qb (mkI k xs.length))]):=by
 refine Con.of_aw Tryz.func224 rfl Tryz.ntmps224 (by simp) (by simp) (by simp) (W.sound ?_)
 show @W Tryz.prog 10 ⟨_⟩ ⟨fun x σ=>@q9 _ _ _ ⟨_⟩ _ ⟨_⟩ x σ⟩ _ _
 simp(disch:=omega)only[go_sem]
 refine zv false [10000000] (acf k xs hn hk) (by simp(disch:=omega)only[go_sem]) (by simp(disch:=omega)only[go_sem]) rfl (qJ (z:=1) (cs:=qb xs) (by simp(disch:=omega)only[go_sem]) (by simp(disch:=omega)only[go_sem])) (by intro n hn;exact⟨_,List.mem_cons_self ..,by rw[List.mem_singleton.1 hn];rfl⟩) ?_
 rintro r hs bs ⟨rfl,rfl,rfl⟩-
 refine⟨by simp[qC],?_⟩
 simp(disch:=omega)only[go_sem]
 refine qh [] [] [.own 1 (qb (mkI k xs.length))] [.v (.int .i64 ((k+xs.length:Nat):Int))] rfl (by simp(disch:=omega)only[go_sem]) (by simp(disch:=omega)only[go_sem]) (by simp) (by simp) ⟨rfl,rfl,rfl⟩
theorem XO(s:Bool)(k:Nat)(xs:List Int)(hn:xs.length≤2^40)(hk:k≤2^40):Con Tryz.prog 135 false [.ag [.v (.bool s),.rf 10000000 0 xs.length],.v (.int .i64 k)] [.own 1 (qb xs)]
  (fun r hs bs=>r=.v (.int .i64 ((k+xs.length:Nat):Int))∧hs=[]∧bs=[.own 1 (qb (mkI k xs.length))]):=by
 refine Con.of_aw Tryz.func135 rfl Tryz.ntmps135 (by simp) (by simp) (by simp)
  (AW.seqLe (E:=[(1,.v (.int .i64 k)),(2,.pt 40000000 0),(4,.v (.int .i64 0))]) (H:=[(40000000,.own 0 [.v (.bool s),.rf 10000000 0 xs.length]),(10000000,.own 1 (qb xs))]) (W.sound ?_)
   (AW.regCall (E:=[(2,.pt 40000000 0),(4,.v (.int .i64 0)),(6,.ag [.rf 10000000 0 xs.length]),(7,.v (.int .i64 k))]) (H:=[(40000000,.own 0 [.v (.bool s),.rf 10000000 0 xs.length]),(10000000,.own 1 (qb xs))]) 3 (by simp only[List.take_succ_cons,List.take_zero];rfl) (by simp only[List.drop_succ_cons,List.drop_zero];rfl) ?_
    (by decide) rfl rfl (by simp(disch:=omega)only[go_sem]) (by rfl) false [10000000] (agG k xs hn hk) (by simp(disch:=omega)only[go_sem]) (by simp(disch:=omega)only[go_sem]) rfl (qJ (z:=1) (cs:=qb xs) (by simp(disch:=omega)only[go_sem]) (by simp(disch:=omega)only[go_sem])) ?_))
 ·show @W Tryz.prog 10 ⟨_⟩ ⟨_⟩ _ _
  simp(disch:=omega)only[go_sem]
  exact Le.lst [] _ _ rfl (by simp(disch:=omega)only[go_sem]) (by simp(disch:=omega)only[go_sem])
 ·simp(disch:=omega)only[go_sem]
  exact Le.lst [] _ _ rfl (by simp(disch:=omega)only[go_sem]) (by simp(disch:=omega)only[go_sem])
 rintro r hs bs ⟨rfl,rfl,rfl⟩-
 refine⟨by simp[qC],?_⟩
 show @Ch Tryz.prog 10 ⟨_⟩ ⟨_⟩ ⟨fun σ=>@W Tryz.prog 10 ⟨_⟩ ⟨fun x σ=>@q9 _ _ _ ⟨_⟩ _ ⟨_⟩ x σ⟩ σ.env σ.hp⟩ _ _
 simp(disch:=omega)only[go_sem]
 refine qh [] [] [.own 1 (qb (mkI k xs.length))] [.v (.int .i64 ((k+xs.length:Nat):Int))] rfl (by simp(disch:=omega)only[go_sem]) (by simp(disch:=omega)only[go_sem]) (by simp) (by simp) ⟨rfl,rfl,rfl⟩
theorem yl(s:Bool)(e:Int)(k:Nat)(xs:List Int)(hn:xs.length≤2^40)(hk:k≤2^40):Con Tryz.prog 50 false [.ag [.v (.bool s),.rf 10000000 0 xs.length,.v (.int .i64 e)],.v (.int .i64 k)] [.own 1 (qb xs)]
  (fun r hs bs=>r=.v (.int .i64 ((k+xs.length:Nat):Int))∧hs=[]∧bs=[.own 1 (qb (mkI k xs.length))]):=by
 refine Con.of_aw Tryz.func50 rfl Tryz.ntmps50 (by simp) (by simp) (by simp)
  (AW.seqLe (E:=[(1,.v (.int .i64 k)),(2,.pt 40000000 0),(4,.v (.int .i64 0))]) (H:=[(40000000,.own 0 [.v (.bool s),.rf 10000000 0 xs.length,.v (.int .i64 e)]),(10000000,.own 1 (qb xs))]) (W.sound ?_)
   (AW.regCall (E:=[(2,.pt 40000000 0),(4,.v (.int .i64 0)),(6,.ag [.v (.bool s),.rf 10000000 0 xs.length]),(7,.v (.int .i64 k))]) (H:=[(40000000,.own 0 [.v (.bool s),.rf 10000000 0 xs.length,.v (.int .i64 e)]),(10000000,.own 1 (qb xs))]) 3 (by simp only[List.take_succ_cons,List.take_zero];rfl) (by simp only[List.drop_succ_cons,List.drop_zero];rfl) ?_
    (by decide) rfl rfl (by simp(disch:=omega)only[go_sem]) (by rfl) false [10000000] (XO s k xs hn hk) (by simp(disch:=omega)only[go_sem]) (by simp(disch:=omega)only[go_sem]) rfl (qJ (z:=1) (cs:=qb xs) (by simp(disch:=omega)only[go_sem]) (by simp(disch:=omega)only[go_sem])) ?_))
 ·show @W Tryz.prog 10 ⟨_⟩ ⟨_⟩ _ _
  simp(disch:=omega)only[go_sem]
  exact Le.lst [] _ _ rfl (by simp(disch:=omega)only[go_sem]) (by simp(disch:=omega)only[go_sem])
 ·simp(disch:=omega)only[go_sem]
  exact Le.lst [] _ _ rfl (by simp(disch:=omega)only[go_sem]) (by simp(disch:=omega)only[go_sem])
 rintro r hs bs ⟨rfl,rfl,rfl⟩-
 refine⟨by simp[qC],?_⟩
 show @Ch Tryz.prog 10 ⟨_⟩ ⟨_⟩ ⟨fun σ=>@W Tryz.prog 10 ⟨_⟩ ⟨fun x σ=>@q9 _ _ _ ⟨_⟩ _ ⟨_⟩ x σ⟩ σ.env σ.hp⟩ _ _
 simp(disch:=omega)only[go_sem]
 refine qh [] [] [.own 1 (qb (mkI k xs.length))] [.v (.int .i64 ((k+xs.length:Nat):Int))] rfl (by simp(disch:=omega)only[go_sem]) (by simp(disch:=omega)only[go_sem]) (by simp) (by simp) ⟨rfl,rfl,rfl⟩
end Go.Ab
namespace Go.Ab
open Go Go.Proofs
theorem avh(cl:Bool)(A B:List Int)(hA:gd A)(hB:gd B)(lA:A.length≤1000000)(lB:B.length≤A.length)(hle:vl B≤vl A):
  Con Tryz.prog 305 cl [.sl A.length (qb A),.sl B.length (qb B)] [] (atE (lim (vl A-vl B).toNat)):=by
 refine Con.of_aw Tryz.func305 rfl Tryz.ntmps305 (by simp) (by simp) (by simp) (W.sound ?_)
 show @W Tryz.prog 43 ⟨_⟩ ⟨fun x σ=>@q9 _ _ _ ⟨_⟩ _ ⟨_⟩ x σ⟩ _ _
 simp(disch:=omega)only[go_sem]
 refine⟨by omega,?_⟩
 refine qi (fun x:Nat×List Int×Int=>[(1,.sl B.length (qb B)),(5,.rf 1 0 x.2.1.length),(6,.v (.int .i64 x.2.2)),(12,.sl A.length (qb A)),(13,.v (.int .i64 A.length)),(14,.v (.int .i64 x.1))])
  (fun x=>[(1,.own 1 (qb x.2.1))])
  (fun x=>x.1≤A.length∧x.2.1.length=x.1∧gd x.2.1∧(0≤x.2.2∧x.2.2≤1)∧vl x.2.1-65536^x.1*x.2.2=vl (A.take x.1)-vl (B.take x.1))
  (fun x=>A.length-x.1) (0,[],0) ⟨by simp,rfl,JN,by simp,by simp[vl]⟩
  (Le.lst [(1,130000000)] _ _ rfl (by simp(disch:=omega)only[go_sem]) (by simp(disch:=omega)only[go_sem])) ?_
 rintro⟨i,out,bo⟩ ⟨hi,hol,hog,hbo,hov⟩
 dsimp only at hi hol hog hbo hov ⊢
 simp(disch:=omega)only[go_sem]
 refine qg (fun h1=>?_) (fun h1=>?_)
 ·have hx:=qP hA i
  have hy:=qP hB i
  have hstep:∀z b:Int,A.getD i 0-bo-B.getD i 0=z-65536*b→vl (out++[z])-65536^(i+1)*b=vl (A.take (i+1))-vl (B.take (i+1)):=by
   intro z b hz
   rw[jL,qY,qY,hol,Int.pow_succ]
   generalize (65536:Int)^i=Pi at*
   grind
  have hyz:¬i<B.length→B.getD i 0=0:=fun h=>by rw[List.getD_eq_getElem?_getD,List.getElem?_eq_none (by omega)];rfl
  simp(disch:=omega)only[go_sem,h1]
  refine⟨by omega,by omega,qg (fun h2=>?_) (fun h2=>?_)⟩
  ·simp(disch:=omega)only[go_sem,h2]
   refine⟨by omega,by omega,qg (fun h3=>?_) (fun h3=>?_)⟩
   ·simp(disch:=omega)only[go_sem,h3]
    refine⟨by omega,qe (i+1,out++[A.getD i 0-bo-B.getD i 0+65536],1) [(1,410000000)] ⟨by show i+1≤_;omega,by simp[hol],qQ.2 ⟨hog,z8.2 (by omega)⟩,by simp,hstep (A.getD i 0-bo-B.getD i 0+65536) 1 (by omega)⟩ (by show A.length-(i+1)<A.length-i;omega) rfl (by simp(disch:=omega)only[go_sem,List.length_append];try omega) (by simp(disch:=omega)only[go_sem])⟩
   ·simp(disch:=omega)only[go_sem,h3]
    refine⟨by omega,qe (i+1,out++[A.getD i 0-bo-B.getD i 0],0) [(1,410000000)] ⟨by show i+1≤_;omega,by simp[hol],qQ.2 ⟨hog,z8.2 (by omega)⟩,by simp,hstep (A.getD i 0-bo-B.getD i 0) 0 (by omega)⟩ (by show A.length-(i+1)<A.length-i;omega) rfl (by simp(disch:=omega)only[go_sem,List.length_append];try omega) (by simp(disch:=omega)only[go_sem])⟩
  ·simp(disch:=omega)only[go_sem,h2]
   refine qg (fun h3=>?_) (fun h3=>?_)
   ·simp(disch:=omega)only[go_sem,h3]
    have hy0:=hyz (by omega)
    refine⟨by omega,qe (i+1,out++[A.getD i 0-bo+65536],1) [(1,410000000)] ⟨by show i+1≤_;omega,by simp[hol],qQ.2 ⟨hog,z8.2 (by omega)⟩,by simp,hstep (A.getD i 0-bo+65536) 1 (by omega)⟩ (by show A.length-(i+1)<A.length-i;omega) rfl (by simp(disch:=omega)only[go_sem,List.length_append];try omega) (by simp(disch:=omega)only[go_sem])⟩
   ·simp(disch:=omega)only[go_sem,h3]
    have hy0:=hyz (by omega)
    refine⟨by omega,qe (i+1,out++[A.getD i 0-bo],0) [(1,410000000)] ⟨by show i+1≤_;omega,by simp[hol],qQ.2 ⟨hog,z8.2 (by omega)⟩,by simp,hstep (A.getD i 0-bo) 0 (by omega)⟩ (by show A.length-(i+1)<A.length-i;omega) rfl (by simp(disch:=omega)only[go_sem,List.length_append];try omega) (by simp(disch:=omega)only[go_sem])⟩
 ·simp(disch:=omega)only[go_sem,h1]
  have hiA:i=A.length:=by omega
  subst hiA
  rw[List.take_length,List.take_of_length_le lB]at hov
  have hb0:bo=0:=by
   have h2:=ZX hog
   rw[hol]at h2
   rcases(by omega:bo=0∨bo=1)with h|h
   ·exact h
   ·subst h;omega
  subst hb0
  have hov2:vl out=vl A-vl B:=by omega
  refine zv false [1] (jE out (by omega)) (by simp(disch:=omega)only[go_sem]) (by simp(disch:=omega)only[go_sem]) rfl (qJ (z:=1) (cs:=qb out) (by simp(disch:=omega)only[go_sem]) (by simp(disch:=omega)only[go_sem])) (by intro n hn;exact⟨_,List.mem_singleton.2 rfl,by rw[List.mem_singleton.1 hn];rfl⟩) ?_
  rintro r hs bs ⟨rfl,rfl,rfl⟩ _
  refine⟨by simp[qC],?_⟩
  simp(disch:=omega)only[go_sem]
  obtain⟨z,hz⟩:=zS out
  have hc:=jm hog
  rw[hov2]at hc
  rw[hc]at hz ⊢
  refine qh [(0,1)] [.own 1 (qb out)] [] [.rf 0 0 (lim (vl A-vl B).toNat).length] rfl (by simp(disch:=omega)only[go_sem]) (by simp(disch:=omega)only[go_sem]) (by simp) (by intro _;simp[zl,AV.pu,AV.pu.puL,Ob.pu,qT]) (.inr ⟨List.replicate z 0,rfl,by rw[←hz]⟩)
end Go.Ab
namespace Go.Ab
open Go Go.Proofs
theorem YP(a b:Nat)(h:b≤a)(la:(lim a).length≤1000000):Con Tryz.prog 305 false [.sl (lim (a)).length (qb (lim (a))),.sl (lim (b)).length (qb (lim (b)))] [] (aRw (lim (a-b))):=by
 have:=(avh false (lim a) (lim b) (zd a) (zd b) la (yB h) (by rw[q6,q6];omega)).num
 rwa[aMk]at this
theorem XM(s1:Bool)(m1:Nat)(s2:Bool)(m2:Nat)(l1:(lim m1).length≤1000000)(l2:(lim m2).length≤1000000):
  Con Tryz.prog 263 false [.v (.bool s1),.sl (lim (m1)).length (qb (lim (m1))),.v (.bool s2),.sl (lim (m2)).length (qb (lim (m2)))] [] (isA (.tu [.v (.bool (sgS s1 m1 s2 m2)),.sl (lim (suM s1 m1 s2 m2)).length (qb (lim (suM s1 m1 s2 m2)))])):=by
 refine Con.frzA ?_
 have hge:(0≤zy (m1:Int) (m2:Int))↔m2≤m1:=by rw[ag1.2.2];omega
 refine Con.of_aw Tryz.func263 rfl Tryz.ntmps263 (by simp) (by simp) (by simp) (W.sound ?_)
 show @W Tryz.prog 31 ⟨_⟩ ⟨fun x σ=>@q9 _ _ _ ⟨_⟩ _ ⟨_⟩ x σ⟩ _ _
 simp(disch:=omega)only[go_sem]
 refine Qu (fun h1=>?_) (fun h1=>?_)
 ·have h1':s1=s2:=by simpa using h1
  simp(disch:=omega)only[go_sem,h1]
  subst h1'
  refine qa (ab7 m1 m2 (by omega) (by omega)) ?_
  simp(disch:=omega)only[go_sem]
  refine qW (by simp(disch:=omega)only[go_sem]) ?_
  show qM _ 6 _=_
  rw[ahx,ahq]
  simp(disch:=omega)only[go_sem]
 ·have h1':s1≠s2:=by simpa using h1
  simp(disch:=omega)only[go_sem,h1]
  refine qj (jj m1 m2 (by omega) (by omega)) ?_
  simp(disch:=omega)only[go_sem]
  refine qg (fun h2=>?_) (fun h2=>?_)
  ·have h2':m2≤m1:=hge.1 (by omega)
   simp(disch:=omega)only[go_sem,h2]
   refine qa (YP m1 m2 h2' (by omega)) ?_
   simp(disch:=omega)only[go_sem]
   refine qW (by simp(disch:=omega)only[go_sem]) ?_
   show qM _ 6 _=_
   rw[aLp h1' h2',aLi h1' h2']
   simp(disch:=omega)only[go_sem]
  ·have h2':¬m2≤m1:=fun h=>h2 (by have:=hge.2 h;omega)
   simp(disch:=omega)only[go_sem,h2]
   refine qa (YP m2 m1 (by omega) (by omega)) ?_
   simp(disch:=omega)only[go_sem]
   refine qW (by simp(disch:=omega)only[go_sem]) ?_
   show qM _ 6 _=_
   rw[aLo h1' h2',aLh h1' h2']
   simp(disch:=omega)only[go_sem]
theorem J9(s1:Bool)(m1:Nat)(e1:Int)(s2:Bool)(m2:Nat)(e2:Int)(h1:bl m1≤4000000)(h2:bl m2≤4000000)(he1: -1000000≤e1∧e1≤1000000)(he2: -1000000≤e2∧e2≤1000000):
  Con Tryz.prog 244 false [.ag [.v (.bool (s1)),.sl (lim (m1)).length (qb (lim (m1))),.v (.int .i64 (e1))],.ag [.v (.bool (s2)),.sl (lim (m2)).length (qb (lim (m2))),.v (.int .i64 (e2))]] [] (isA (.tu [.sl (lim (alA m1 e1 (alE m1 e1 m2 e2))).length (qb (lim (alA m1 e1 (alE m1 e1 m2 e2)))),.sl (lim (alA m2 e2 (alE m1 e1 m2 e2))).length (qb (lim (alA m2 e2 (alE m1 e1 m2 e2)))),.v (.int .i64 (alE m1 e1 m2 e2))])):=by
 refine Con.frzA ?_
 have l1:=qz h1
 have l2:=qz h2
 have hE:=Ze (m1:=m1) (m2:=m2) he1.1 he2.1
 have hE2:=aMa (m1:=m1) (m2:=m2) he1.2 he2.2
 have x1:∀d:Int,(if 0>d then 0 else d)=((d.toNat:Nat):Int):=fun d=>by split<;>omega
 refine Con.of_aw Tryz.func244 rfl Tryz.ntmps244 (by simp) (by simp) (by simp) (W.sound ?_)
 show @W Tryz.prog 42 ⟨_⟩ ⟨fun x σ=>@q9 _ _ _ ⟨_⟩ _ ⟨_⟩ x σ⟩ _ _
 simp(disch:=omega)only[go_sem]
 refine qg (fun c1=>?_) (fun c1=>?_)
 ·have z1:m1=0:=qG.1 (List.length_eq_zero_iff.1 (by omega))
  simp(disch:=omega)only[go_sem,c1]
  refine qg (fun c2=>?_) (fun c2=>?_)
  ·have z2:m2=0:=qG.1 (List.length_eq_zero_iff.1 (by omega))
   have eE:alE m1 e1 m2 e2=e1:=by unfold alE;rw[if_pos z2]
   simp(disch:=omega)only[go_sem,c2]
   refine qo rfl [⟨0,[],[]⟩,⟨1,[],[]⟩,⟨2,[1],[]⟩,⟨3,[1],[]⟩,⟨4,[1,3],[]⟩,⟨5,[1],[]⟩,⟨6,[1],[]⟩,⟨8,[1,3],[]⟩,⟨9,[1,3],[]⟩,⟨10,[1,3,9],[]⟩,⟨11,[1,3,9],[]⟩,⟨12,[1,3,9,11],[]⟩,⟨13,[1,3,9],[]⟩,⟨14,[1,3,9],[]⟩,⟨16,[1,3,9,11],[]⟩,⟨7,[9,11],[]⟩,⟨15,[],[]⟩,⟨17,[],[]⟩,⟨18,[],[]⟩,⟨19,[],[]⟩] (by kernel_rfl) ?_
   simp(disch:=omega)only[go_sem,x1]
   refine qa (ja m1 (e1-e1).toNat (by omega) (by omega)) ?_ (by simp(disch:=omega)only[go_sem,x1])
   simp(disch:=omega)only[go_sem]
   refine qa (ja m2 (e2-e1).toNat (by omega) (by omega)) ?_ (by simp(disch:=omega)only[go_sem,x1])
   simp(disch:=omega)only[go_sem]
   refine qW (by simp(disch:=omega)only[go_sem]) ?_
   show qM _ 6 _=_
   rw[eE];unfold alA
   simp(disch:=omega)only[go_sem]
  ·have z2:m2≠0:=fun e=>c2 (by rw[e,qt];rfl)
   have eE:alE m1 e1 m2 e2=e2:=by unfold alE;rw[if_neg z2,if_pos z1]
   simp(disch:=omega)only[go_sem,c2]
   refine qo rfl [⟨0,[],[]⟩,⟨1,[],[]⟩,⟨2,[1],[]⟩,⟨3,[1],[]⟩,⟨4,[1,3],[]⟩,⟨5,[1],[]⟩,⟨6,[1],[]⟩,⟨8,[1,3],[]⟩,⟨9,[1,3],[]⟩,⟨10,[1,3,9],[]⟩,⟨11,[1,3,9],[]⟩,⟨12,[1,3,9,11],[]⟩,⟨13,[1,3,9],[]⟩,⟨14,[1,3,9],[]⟩,⟨16,[1,3,9,11],[]⟩,⟨7,[9,11],[]⟩,⟨15,[],[]⟩,⟨17,[],[]⟩,⟨18,[],[]⟩,⟨19,[],[]⟩] (by kernel_rfl) ?_
   simp(disch:=omega)only[go_sem,x1]
   refine qa (ja m1 (e1-e2).toNat (by omega) (by omega)) ?_ (by simp(disch:=omega)only[go_sem,x1])
   simp(disch:=omega)only[go_sem]
   refine qa (ja m2 (e2-e2).toNat (by omega) (by omega)) ?_ (by simp(disch:=omega)only[go_sem,x1])
   simp(disch:=omega)only[go_sem]
   refine qW (by simp(disch:=omega)only[go_sem]) ?_
   show qM _ 6 _=_
   rw[eE];unfold alA
   simp(disch:=omega)only[go_sem]
 ·have z1:m1≠0:=fun e=>c1 (by rw[e,qt];rfl)
  simp(disch:=omega)only[go_sem,c1]
  refine qg (fun c2=>?_) (fun c2=>?_)
  ·have z2:m2=0:=qG.1 (List.length_eq_zero_iff.1 (by omega))
   have eE:alE m1 e1 m2 e2=e1:=by unfold alE;rw[if_pos z2]
   simp(disch:=omega)only[go_sem,c2]
   refine qo rfl [⟨0,[],[]⟩,⟨1,[],[]⟩,⟨2,[1],[]⟩,⟨3,[1],[]⟩,⟨4,[1,3],[]⟩,⟨5,[1],[]⟩,⟨6,[1],[]⟩,⟨8,[1,3],[]⟩,⟨9,[1,3],[]⟩,⟨10,[1,3,9],[]⟩,⟨11,[1,3,9],[]⟩,⟨12,[1,3,9,11],[]⟩,⟨13,[1,3,9],[]⟩,⟨14,[1,3,9],[]⟩,⟨16,[1,3,9,11],[]⟩,⟨7,[9,11],[]⟩,⟨15,[],[]⟩,⟨17,[],[]⟩,⟨18,[],[]⟩,⟨19,[],[]⟩] (by kernel_rfl) ?_
   simp(disch:=omega)only[go_sem,x1]
   refine qa (ja m1 (e1-e1).toNat (by omega) (by omega)) ?_ (by simp(disch:=omega)only[go_sem,x1])
   simp(disch:=omega)only[go_sem]
   refine qa (ja m2 (e2-e1).toNat (by omega) (by omega)) ?_ (by simp(disch:=omega)only[go_sem,x1])
   simp(disch:=omega)only[go_sem]
   refine qW (by simp(disch:=omega)only[go_sem]) ?_
   show qM _ 6 _=_
   rw[eE];unfold alA
   simp(disch:=omega)only[go_sem]
  ·have z2:m2≠0:=fun e=>c2 (by rw[e,qt];rfl)
   have eE:(if e2<e1 then e2 else e1)=alE m1 e1 m2 e2:=by unfold alE;rw[if_neg z2,if_neg z1]
   simp(disch:=omega)only[go_sem,c2,eE]
   refine qo rfl [⟨0,[],[]⟩,⟨1,[],[]⟩,⟨2,[1],[]⟩,⟨3,[1],[]⟩,⟨4,[1,3],[]⟩,⟨5,[1],[]⟩,⟨6,[1],[]⟩,⟨8,[1,3],[]⟩,⟨9,[1,3],[]⟩,⟨10,[1,3,9],[]⟩,⟨11,[1,3,9],[]⟩,⟨12,[1,3,9,11],[]⟩,⟨13,[1,3,9],[]⟩,⟨14,[1,3,9],[]⟩,⟨16,[1,3,9,11],[]⟩,⟨7,[9,11],[]⟩,⟨15,[],[]⟩,⟨17,[],[]⟩,⟨18,[],[]⟩,⟨19,[],[]⟩] (by kernel_rfl) ?_
   simp(disch:=omega)only[go_sem,x1,eE]
   refine qa (ja m1 (e1-alE m1 e1 m2 e2).toNat (by omega) (by omega)) ?_ (by simp(disch:=omega)only[go_sem,x1,eE])
   simp(disch:=omega)only[go_sem]
   refine qa (ja m2 (e2-alE m1 e1 m2 e2).toNat (by omega) (by omega)) ?_ (by simp(disch:=omega)only[go_sem,x1,eE])
   simp(disch:=omega)only[go_sem]
   refine qW (by simp(disch:=omega)only[go_sem]) ?_
   show qM _ 6 _=_
   unfold alA
   simp(disch:=omega)only[go_sem]
theorem avc(s1:Bool)(m1:Nat)(e1:Int)(s2:Bool)(m2:Nat)(e2:Int)(h1:bl m1≤4000000)(h2:bl m2≤4000000)(he1: -1000000≤e1∧e1≤1000000)(he2: -1000000≤e2∧e2≤1000000):
  Con Tryz.prog 185 false [.ag [.v (.bool (s1)),.sl (lim (m1)).length (qb (lim (m1))),.v (.int .i64 (e1))],.ag [.v (.bool (s2)),.sl (lim (m2)).length (qb (lim (m2))),.v (.int .i64 (e2))]] [] (isA (.ag [.v (.bool (adS s1 m1 e1 s2 m2 e2)),.sl (lim (adM s1 m1 e1 s2 m2 e2)).length (qb (lim (adM s1 m1 e1 s2 m2 e2))),.v (.int .i64 (alE m1 e1 m2 e2))])):=by
 refine Con.frzA ?_
 have hE:=Ze (m1:=m1) (m2:=m2) he1.1 he2.1
 have b1:=ZV (e:=e1) (E:=alE m1 e1 m2 e2) (C:=2000000) h1 (by omega)
 have b2:=ZV (e:=e2) (E:=alE m1 e1 m2 e2) (C:=2000000) h2 (by omega)
 have l1:=qz b1
 have l2:=qz b2
 refine Con.of_w (rs:=[.cell 4 117]) Tryz.func185 rfl Tryz.ntmps185 rfl ?_
 simp(disch:=omega)only[go_sem]
 refine qa (J9 s1 m1 e1 s2 m2 e2 h1 h2 he1 he2) ?_
 simp(disch:=omega)only[go_sem]
 unfold adS adM
 generalize alA m1 e1 (alE m1 e1 m2 e2)=A at*
 generalize alA m2 e2 (alE m1 e1 m2 e2)=B at*
 generalize alE m1 e1 m2 e2=E at*
 refine qa (XM s1 A s2 B (by omega) (by omega)) ?_
 simp(disch:=omega)only[go_sem]
 have hb:=aij (s1:=s1) (s2:=s2) b1 b2
 have hl:(lim (suM s1 A s2 B)).length≤2000000:=by have:=qz hb;omega
 have hq:decide ((0:Int)<((lim (suM s1 A s2 B)).length:Int))=decide (suM s1 A s2 B≠0):=by
  rw[decide_eq_decide]
  exact⟨fun h e=>by rw[e,qt]at h;simp at h,fun h=>by have:=y3 h;omega⟩
 rw[←as9]
 refine Qu (fun h3=>?_) (fun h3=>?_)
 ·simp(disch:=omega)only[go_sem,h3,hq]
  exact qm (hp:=by simp(disch:=omega)only[go_sem,h3,Bool.true_and])
 ·simp(disch:=omega)only[go_sem,h3]
  exact qm (hp:=by simp(disch:=omega)only[go_sem,h3,Bool.false_and])
end Go.Ab
namespace Go.Ab
open Go Go.Proofs
end Go.Ab
namespace Go.Ab
open Go Go.Proofs
def muS(k1:Int)(s1:Bool)(m1:Int)(k2:Int)(s2:Bool)(m2:Int):Bool:=((s1&&decide (k1=1)) != (s2&&decide (k2=1)))&&decide (m1.toNat*m2.toNat≠0)
def bo9(k1:Int)(s1:Bool)(m1 e1 k2:Int)(s2:Bool)(m2 e2 mode:Int):FlV:=
 if(decide (k1=3)||decide (k2=3))=true then⟨3,false,0,0⟩
 else if(decide (k1=2)||decide (k2=2))=true then(if(decide (k1=0)||decide (k2=0))=true then⟨3,false,0,0⟩else⟨2,s1 != s2,0,0⟩)
 else flV (muS k1 s1 m1 k2 s2 m2) (m1.toNat*m2.toNat) (e1+e2) mode (s1 != s2)
def bpa(k1:Int)(s1:Bool)(m1 e1 k2:Int)(s2:Bool)(m2 e2 mode:Int):Int:=
 if(decide (k1=3)||decide (k2=3))=true then 0
 else if(decide (k1=2)||decide (k2=2))=true then(if(decide (k1=0)||decide (k2=0))=true then 16 else 0)
 else flG (muS k1 s1 m1 k2 s2 m2) (m1.toNat*m2.toNat) (e1+e2) mode
end Go.Ab
namespace Go.Ab
open Go Go.Proofs
section
variable {k1:Int}{s1:Bool}{m1 e1 k2:Int}{s2:Bool}{m2 e2 mode:Int}
end
end Go.Ab
namespace Go.Ab
open Go Go.Proofs
def Qy(m:Nat):Bool:=decide ((lim m).length≤100)
def abZ(m:Nat)(e:Int):Bool:=Qy (oM m)&&(decide (-3000≤oE m e)&&decide (oE m e≤3000))
end Go.Ab
namespace Go.Ab
/-! ### Sums of floats-/
def ngS(k:Int)(s:Bool):Bool:=if k=3 then s else !s
def xS(k:Int)(s:Bool):Bool:=s&&decide (k=1)
def adZ(k1:Int)(s1:Bool)(k2:Int)(s2:Bool)(mode:Int):Bool:=if k1=0∧k2=0∧s1=s2 then s1 else decide (mode=3)
def boZ(k1:Int)(s1:Bool)(m1 e1 k2:Int)(s2:Bool)(m2 e2 mode:Int):FlV:=
 if k1=3∨k2=3 then⟨3,false,0,0⟩
 else if k1=2∧k2=2∧s1≠s2 then⟨3,false,0,0⟩
 else if k1=2 then⟨k1,s1,m1,e1⟩
 else if k2=2 then⟨k2,s2,m2,e2⟩
 else flV (adS (xS k1 s1) m1.toNat e1 (xS k2 s2) m2.toNat e2) (adM (xS k1 s1) m1.toNat e1 (xS k2 s2) m2.toNat e2) (alE m1.toNat e1 m2.toNat e2) mode (adZ k1 s1 k2 s2 mode)
def bo0(k1:Int)(s1:Bool)(m1 e1 k2:Int)(s2:Bool)(m2 e2 mode:Int):Int:=
 if k1=3∨k2=3 then 0
 else if k1=2∧k2=2∧s1≠s2 then 16
 else if k1=2 then 0
 else if k2=2 then 0
 else flG (adS (xS k1 s1) m1.toNat e1 (xS k2 s2) m2.toNat e2) (adM (xS k1 s1) m1.toNat e1 (xS k2 s2) m2.toNat e2) (alE m1.toNat e1 m2.toNat e2) mode
section
variable {k1:Int}{s1:Bool}{m1 e1 k2:Int}{s2:Bool}{m2 e2 mode:Int}
end
/-! ### A product and a sum-/
def fmZ(k1:Int)(s1:Bool)(k2:Int)(s2:Bool)(k3:Int)(s3:Bool)(mode:Int):Bool:=if(k1=0∨k2=0)∧k3=0∧s3=(s1 != s2)then s3 else decide (mode=3)
def bpn(k1:Int)(s1:Bool)(m1 e1 k2:Int)(s2:Bool)(m2 e2 k3:Int)(s3:Bool)(m3 e3 mode:Int):FlV:=
 if k1=3∨k2=3 then⟨3,false,0,0⟩
 else if k1=2∨k2=2 then(if k1=0∨k2=0 then⟨3,false,0,0⟩else boZ 2 (s1 != s2) 0 0 k3 s3 m3 e3 mode)
 else if k3=2∨k3=3 then⟨k3,s3,m3,e3⟩
 else flV (adS (muS k1 s1 m1 k2 s2 m2) (m1.toNat*m2.toNat) (e1+e2) (xS k3 s3) m3.toNat e3) (adM (muS k1 s1 m1 k2 s2 m2) (m1.toNat*m2.toNat) (e1+e2) (xS k3 s3) m3.toNat e3) (alE (m1.toNat*m2.toNat) (e1+e2) m3.toNat e3) mode (fmZ k1 s1 k2 s2 k3 s3 mode)
def bpo(k1:Int)(s1:Bool)(m1 e1 k2:Int)(s2:Bool)(m2 e2 k3:Int)(s3:Bool)(m3 e3 mode:Int):Int:=
 if k1=3∨k2=3 then 0
 else if k1=2∨k2=2 then(if k1=0∨k2=0 then 16 else bo0 2 (s1 != s2) 0 0 k3 s3 m3 e3 mode)
 else if k3=2∨k3=3 then 0
 else flG (adS (muS k1 s1 m1 k2 s2 m2) (m1.toNat*m2.toNat) (e1+e2) (xS k3 s3) m3.toNat e3) (adM (muS k1 s1 m1 k2 s2 m2) (m1.toNat*m2.toNat) (e1+e2) (xS k3 s3) m3.toNat e3) (alE (m1.toNat*m2.toNat) (e1+e2) m3.toNat e3) mode
section
variable {k1:Int}{s1:Bool}{m1 e1 k2:Int}{s2:Bool}{m2 e2 k3:Int}{s3:Bool}{m3 e3 mode:Int}
end
end Go.Ab
namespace Go.Ab
theorem aJM(x y p:Int)(hp:0<p):zy (x*p) (y*p)=zy x y:=by
 unfold zy
 have h1:x*p<y*p↔x<y:=⟨fun h=>Int.lt_of_mul_lt_mul_right h (Int.le_of_lt hp),fun h=>Int.mul_lt_mul_of_pos_right h hp⟩
 have h2:y*p<x*p↔y<x:=⟨fun h=>Int.lt_of_mul_lt_mul_right h (Int.le_of_lt hp),fun h=>Int.mul_lt_mul_of_pos_right h hp⟩
 simp only[h1,h2]
theorem Zf{m:Nat}{e E:Int}:alA m e E=0↔m=0:=by
 unfold alA
 have:0<2^(e-E).toNat:=Nat.pow_pos (by omega)
 constructor
 ·intro h
  rcases Nat.mul_eq_zero.1 h with h|h
  ·exact h
  ·omega
 ·intro h;rw[h,Nat.zero_mul]
theorem aig{K:Nat}{s1:Bool}{m1:Nat}{e1:Int}{s2:Bool}{m2:Nat}{e2:Int}(h1: -(K:Int)≤e1)(h2: -(K:Int)≤e2):
  zy (sv s1 (alA m1 e1 (alE m1 e1 m2 e2))) (sv s2 (alA m2 e2 (alE m1 e1 m2 e2)))=zy (dv K s1 m1 e1) (dv K s2 m2 e2):=by
 have hE: -(K:Int)≤alE m1 e1 m2 e2:=Ze h1 h2
 have g1:m1≠0→alE m1 e1 m2 e2≤e1:=fun h=>by
  unfold alE
  repeat' split
  all_goals omega
 have g2:m2≠0→alE m1 e1 m2 e2≤e2:=fun h=>by
  unfold alE
  repeat' split
  all_goals omega
 rw[←aim hE g1,←aim hE g2,aJM _ _ _ (Int.pow_pos (by omega))]
theorem acA{s1:Bool}{m1:Nat}{s2:Bool}{m2:Nat}(z1:m1=0→s1=false)(z2:m2=0→s2=false):
  zy (sv s1 m1) (sv s2 m2)=if s1=true then(if s2=true then zy (m2:Int) (m1:Int)else-1)else(if s2=true then 1 else zy (m1:Int) (m2:Int)):=by
 cases s1<;>cases s2<;>simp only[sv,if_true,Bool.false_eq_true,if_false]
 ·have:m2≠0:=fun h=>by have:=z2 h;cases this
  unfold zy;rw[if_neg (by omega),if_pos (by omega)]
 ·have:m1≠0:=fun h=>by have:=z1 h;cases this
  unfold zy;rw[if_pos (by omega)]
 ·unfold zy
  rcases Int.lt_trichotomy (m1:Int) m2 with h|h|h
  ·rw[if_neg (by omega),if_pos (by omega),if_neg (by omega),if_pos (by omega)]
  ·rw[if_neg (by omega),if_neg (by omega),if_neg (by omega),if_neg (by omega)]
  ·rw[if_pos (by omega),if_pos (by omega)]
theorem Yb(x y:Int):(zy x y≤0↔x≤y)∧(zy x y<0↔x<y)∧(zy x y=0↔x=y):=by
 unfold zy
 split
 ·omega
 ·split<;>omega
end Go.Ab
namespace Go.Ab
open Go Go.Proofs
theorem Zx(s1:Bool)(m1:Nat)(s2:Bool)(m2:Nat)(l1:(lim m1).length≤2^40)(l2:(lim m2).length≤2^40)(z1:m1=0→s1=false)(z2:m2=0→s2=false):
  Con Tryz.prog 245 true [.v (.bool s1),.sl (lim (m1)).length (qb (lim (m1))),.v (.bool s2),.sl (lim (m2)).length (qb (lim (m2)))] [] (isA (.v (.int .i64 (zy (sv s1 m1) (sv s2 m2))))):=by
 rw[acA z1 z2]
 cases s1<;>cases s2
 ·refine Con.of_w (rs:=[.tmp 8]) Tryz.func245 rfl Tryz.ntmps245 rfl ?_
  simp(disch:=omega)only[go_sem]
  refine qj (jj m1 m2 l1 l2) ?_
  simp(disch:=omega)only[go_sem]
  exact qu
 ·refine Con.of_w (rs:=[.tmp 8]) Tryz.func245 rfl Tryz.ntmps245 rfl ?_
  simp(disch:=omega)only[go_sem]
  exact qu
 ·refine Con.of_w (rs:=[.tmp 8]) Tryz.func245 rfl Tryz.ntmps245 rfl ?_
  simp(disch:=omega)only[go_sem]
  exact qu
 ·refine Con.of_w (rs:=[.tmp 8]) Tryz.func245 rfl Tryz.ntmps245 rfl ?_
  simp(disch:=omega)only[go_sem]
  refine qj (jj m2 m1 l2 l1) ?_
  simp(disch:=omega)only[go_sem]
  exact qu
theorem acv(K:Nat)(s1:Bool)(m1:Nat)(e1:Int)(s2:Bool)(m2:Nat)(e2:Int)(h1:bl m1≤4000000)(h2:bl m2≤4000000)(he1: -1000000≤e1∧e1≤1000000)(he2: -1000000≤e2∧e2≤1000000)(k1: -(K:Int)≤e1)(k2: -(K:Int)≤e2)(z1:m1=0→s1=false)(z2:m2=0→s2=false):
  Con Tryz.prog 156 true [.ag [.v (.bool (s1)),.sl (lim (m1)).length (qb (lim (m1))),.v (.int .i64 (e1))],.ag [.v (.bool (s2)),.sl (lim (m2)).length (qb (lim (m2))),.v (.int .i64 (e2))]] [] (isA (.v (.int .i64 (zy (dv K s1 m1 e1) (dv K s2 m2 e2))))):=by
 have hE:=Ze (m1:=m1) (m2:=m2) he1.1 he2.1
 have b1:=qz (ZV (e:=e1) (E:=alE m1 e1 m2 e2) (C:=2000000) h1 (by omega))
 have b2:=qz (ZV (e:=e2) (E:=alE m1 e1 m2 e2) (C:=2000000) h2 (by omega))
 rw[←aig k1 k2]
 have y1:alA m1 e1 (alE m1 e1 m2 e2)=0→s1=false:=fun h=>z1 (Zf.1 h)
 have y2:alA m2 e2 (alE m1 e1 m2 e2)=0→s2=false:=fun h=>z2 (Zf.1 h)
 refine Con.of_w (rs:=[.tmp 4]) Tryz.func156 rfl Tryz.ntmps156 rfl ?_
 simp(disch:=omega)only[go_sem]
 refine qa (J9 s1 m1 e1 s2 m2 e2 h1 h2 he1 he2) ?_
 simp(disch:=omega)only[go_sem]
 refine qj (Zx s1 (alA m1 e1 (alE m1 e1 m2 e2)) s2 (alA m2 e2 (alE m1 e1 m2 e2)) (by omega) (by omega) y1 y2) ?_
 simp(disch:=omega)only[go_sem]
 exact qu
def rkF(k:Int)(s:Bool):Int:=if k=2 then(if s=true then-1 else 1)else 0
def bpu(k1:Int)(s1:Bool)(m1 e1 k2:Int)(s2:Bool)(m2 e2:Int):Int:=
 if rkF k1 s1≠rkF k2 s2∨rkF k1 s1≠0 then zy (rkF k1 s1) (rkF k2 s2)else zy (dv 3000 (xS k1 s1) m1.toNat e1) (dv 3000 (xS k2 s2) m2.toNat e2)
end Go.Ab
