/- What the proof of this claim stands on: the walks of the functions and the plain laws, part 6. -/
import Derived.Test.YtodjjilpibnbeaaGreatDoorFnExactExpMatLib5
set_option linter.unusedVariables false
set_option linter.unusedSimpArgs false
namespace Go.Ab
open Go Go.Proofs
/-! ### The specification's numbers of any size,in their one form-/
theorem ajM{x:ExV}(h:x.can=x):(x.m % 2=1∨x.m=0)∧(x.m=0→x=ex0):=by
 have e:oM x.m=x.m:=congrArg ExV.m h
 refine⟨by have:=aoY x.m;rw[e]at this;exact this,fun h0=>?_⟩
 rw[←h]
 show(⟨oS x.s x.m,oM x.m,oE x.m x.e⟩:ExV)=ex0
 rw[h0,jC];rfl
theorem jU(x:ExV)(low mode:Int)(hx:x.can=x)(hm:0≤mode∧mode≤4)(bx:x.bd (-400000) 400000)(hl: -400000≤low∧low≤400000):
  Con Tryz.prog 97 false [.ag [.v (.bool (x).s),.sl (lim (x).m).length (qg (lim (x).m)),.v (.int .i64 (x).e)],.v (.int .i64 low),.v (.int .i64 mode)] [] (isA (.tu [.ag [.v (.bool ((x.rnd low mode).can).s),.sl (lim ((x.rnd low mode).can).m).length (qg (lim ((x.rnd low mode).can).m)),.v (.int .i64 ((x.rnd low mode).can).e)],.v (.bool (roX x.m x.e low))])):=by
 obtain⟨ho,hz⟩:=ajM hx
 obtain⟨a,b,c⟩:=bx
 have cr:=acl x.s x.m x.e low mode ho a hm (by omega) (by omega) (by omega)
 have e:srE x.s x.m x.e low mode=(x.rnd low mode).can.e:=by
  show _=oE (roM x.s x.m x.e low mode) (roE x.m x.e low)
  rcases ho with ho|h0
  ·exact(aAq ho).2
  ·obtain rfl:=hz h0
   unfold srE roM roE
   have c:low≤ex0.e∨ex0.m=0:=.inr rfl
   rw[if_pos c,if_pos c,if_pos c]
   rfl
 rw[e]at cr
 exact cr
theorem aoR{K:Nat}{x:ExV}{low md:Int}(hx: -(K:Int)≤x.e)(hl: -(K:Int)≤low): -(K:Int)≤(x.rnd low md).e:=by
 show-(K:Int)≤roE x.m x.e low
 unfold roE;split<;>omega
theorem aur{K:Nat}{y:ExV}(h0:y.m=0):y.val K=0:=by
 show sv y.s y.m*_=0
 rw[h0];simp[sv]
theorem adf{K:Nat}{s:Bool}{m:Nat}{e low md:Int}(he: -(K:Int)≤e)(h:¬(low≤e∨m=0)):(ExV.rnd ⟨s,m,e⟩ low md).val K=sv s (rq s m (2^(low-e).toNat) md)*p2 (low+(K:Int)).toNat:=by
 unfold ExV.rnd roS roM roE ExV.val
 dsimp only
 rw[if_neg h,if_neg h,if_neg h,XF]
 rfl
theorem Vg{x:ExV}{low md:Int}:(x.can.rnd low md).can=(x.rnd low md).can:=by
 obtain⟨K,hK⟩:∃K:Nat, -(K:Int)≤x.e∧ -(K:Int)≤low:=⟨(max (-x.e) (-low)).toNat,by omega,by omega⟩
 have hc:=jV (K:=K) hK.1
 refine JC (K:=K) (aoR hc hK.2) (aoR hK.1 hK.2) ?_
 by_cases h0:x.m=0
 ·have e1:x.can=ex0:=by
   show(⟨oS x.s x.m,oM x.m,oE x.m x.e⟩:ExV)=ex0
   rw[h0,jC];rfl
  have e2:∀y:ExV,y.m=0→(y.rnd low md).val K=0:=fun y hy=>by
   refine aur ?_
   show roM _ _ _ _ _=0
   unfold roM;rw[if_pos (.inr hy)];exact hy
  rw[e1,e2 ex0 rfl,e2 x h0]
 have e3:x.can.e=x.e+tz x.m:=by show oE x.m x.e=_;unfold oE;rw[if_neg h0]
 have e4:x.can.m*2^tz x.m=x.m:=Jw
 have hz:x.can.m≠0:=fun e=>by rw[e,Nat.zero_mul]at e4;exact h0 e4.symm
 have es:x.can.s=x.s:=by show oS x.s x.m=x.s;unfold oS;rw[if_neg h0]
 by_cases c1:low≤x.e
 ·have u:∀y:ExV,low≤y.e→y.rnd low md=y:=fun y hy=>by
   obtain⟨s,m,e⟩:=y
   unfold ExV.rnd roS roM roE
   dsimp only at hy ⊢
   rw[if_pos (.inl hy),if_pos (.inl hy),if_pos (.inl hy)]
  rw[u x c1,u x.can (by omega),jb hK.1]
 ·have hx:¬(low≤x.e∨x.m=0):=by omega
  have v1:=adf (K:=K) (s:=x.s) (m:=x.m) (e:=x.e) (low:=low) (md:=md) hK.1 hx
  have v1:(x.rnd low md).val K=_:=v1
  rw[v1]
  by_cases c2:low≤x.can.e
  ·have u:x.can.rnd low md=x.can:=by
    generalize x.can=y at*
    obtain⟨s,m,e⟩:=y
    unfold ExV.rnd roS roM roE
    dsimp only at c2 ⊢
    rw[if_pos (.inl c2),if_pos (.inl c2),if_pos (.inl c2)]
   rw[u,jb hK.1]
   obtain⟨j,hj⟩:∃j,tz x.m=j+(low-x.e).toNat:=⟨tz x.m-(low-x.e).toNat,by omega⟩
   have em:x.m=(x.can.m*2^j)*2^(low-x.e).toNat:=by rw[Nat.mul_assoc,←Nat.pow_add,←hj,e4]
   have er:rq x.s x.m (2^(low-x.e).toNat) md=x.can.m*2^j:=by
    have:=@JR x.s (x.can.m*2^j) 1 (low-x.e).toNat md
    rw[Nat.one_mul,←em,au1]at this
    exact this
   rw[er]
   show sv x.s x.m*p2 (x.e+(K:Int)).toNat=_
   rw[show(low+(K:Int)).toNat=(low-x.e).toNat+(x.e+(K:Int)).toNat by omega,zH,←Int.mul_assoc]
   congr 1
   have e5:((2^(low-x.e).toNat:Nat):Int)=p2 (low-x.e).toNat:=by rw[Int.natCast_pow];rfl
   conv=>lhs;rw[em]
   rw[J6,e5]
  ·have hx2:¬(low≤x.can.e∨x.can.m=0):=by omega
   have v2:=adf (K:=K) (s:=x.can.s) (m:=x.can.m) (e:=x.can.e) (low:=low) (md:=md) hc hx2
   have v2:(x.can.rnd low md).val K=_:=v2
   rw[v2,es]
   congr 2
   have:=@JR x.s x.can.m (2^(low-x.can.e).toNat) (tz x.m) md
   rw[e4,←Nat.pow_add]at this
   rw[←this]
   congr 2
   omega
theorem acm(x y:ExV)(low:Int)(h0:x.m=0):Con Tryz.prog 184 false [.ag [.v (.bool (x).s),.sl (lim (x).m).length (qg (lim (x).m)),.v (.int .i64 (x).e)],.ag [.v (.bool (y).s),.sl (lim (y).m).length (qg (lim (y).m)),.v (.int .i64 (y).e)],.v (.int .i64 low)] [] (isA (.ag [.v (.bool (ex0).s),.sl (lim (ex0).m).length (qg (lim (ex0).m)),.v (.int .i64 (ex0).e)])):=by
 refine Con.frzA ?_
 have q1:decide (((lim x.m).length:Int)=0)=true:=by rw[h0,qr];rfl
 refine Con.of_w (rs:=[.cell 6 44]) Tryz.func184 rfl Tryz.ntmps184 rfl ?_
 simp(disch:=omega)only[go_sem,q1]
 exact qn (hp:=by simp(disch:=omega)only[go_sem,ex0,qr])
theorem Yj{x y:ExV}{low mode:Int}(h0:x.m=0):(x.over y low mode).can=ex0:=by
 have hq:ovQ (x.s != y.s) x.m x.e y.m y.e low mode=0:=by
  unfold ovQ ovA rq
  rw[h0];simp
 show(⟨oS _ (ovQ _ _ _ _ _ _ _),oM (ovQ (x.s != y.s) x.m x.e y.m y.e low mode),oE (ovQ (x.s != y.s) x.m x.e y.m y.e low mode) low⟩:ExV)=ex0
 rw[hq,jC];rfl
theorem XO(x y:ExV)(low mode:Int)(hx:x.can=x)(hy0:y.m≠0)(hm:0≤mode∧mode≤4)(bx:x.bd (-90000) 10000)(by':y.bd (-10000) 10000)(hl: -10000≤low∧low≤10000):
  Con Tryz.prog 100 false [.ag [.v (.bool (x).s),.sl (lim (x).m).length (qg (lim (x).m)),.v (.int .i64 (x).e)],.ag [.v (.bool (y).s),.sl (lim (y).m).length (qg (lim (y).m)),.v (.int .i64 (y).e)],.v (.int .i64 low),.v (.int .i64 mode)] [] (isA (.ag [.v (.bool ((x.over y low mode).can).s),.sl (lim ((x.over y low mode).can).m).length (qg (lim ((x.over y low mode).can).m)),.v (.int .i64 ((x.over y low mode).can).e)])):=by
 refine Con.frzA ?_
 by_cases h0:x.m=0
 ·have cq:=acm x y low h0
  have c0:ex0.can=ex0:=ahd aiD
  have cr:=jU ex0 low mode c0 hm (YC (by omega) (by omega)) (by omega)
  have er:(ex0.rnd low mode).can=ex0:=by
   have:ex0.rnd low mode=ex0:=by
    show(⟨roS false 0 0 low mode,roM false 0 0 low mode,roE 0 0 low⟩:ExV)=ex0
    unfold roS roM roE
    rw[if_pos (.inr rfl),if_pos (.inr rfl),if_pos (.inr rfl)];rfl
   rw[this,c0]
  rw[er]at cr
  rw[Yj h0]
  generalize ex0=z at*
  refine Con.of_w (rs:=[.cell 8 44]) Tryz.func100 rfl Tryz.ntmps100 rfl ?_
  simp(disch:=omega)only[go_sem]
  refine qa (cq) ?_
  simp(disch:=omega)only[go_sem]
  refine qa (cr) ?_
  simp(disch:=omega)only[go_sem]
  exact qn
 ·obtain⟨a1,a2,a3⟩:=bx
  obtain⟨b1,b2,b3⟩:=by'
  have cq:=afc x.s x.m x.e y.s y.m y.e low h0 hy0 (by omega) (by omega) (by omega) (by omega) (by omega) (by omega) _ _ rfl rfl
  obtain⟨A,hA⟩:∃A,A=x.m*2^(x.e-y.e-low+2).toNat:=⟨_,rfl⟩
  obtain⟨B,hB⟩:∃B,B=y.m*2^(-(x.e-y.e-low+2)).toNat:=⟨_,rfl⟩
  rw[←hA,←hB]at cq
  have hB0:0<B:=by rw[hB];exact Nat.mul_pos (Nat.pos_of_ne_zero hy0) (Nat.pow_pos (by decide))
  have hA0:A≠0:=by rw[hA];exact Nat.mul_ne_zero h0 (Nat.pos_iff_ne_zero.1 (Nat.pow_pos (by decide)))
  have hq0:stk A B≠0:=fun e=>by
   unfold stk at e
   have h1:=Nat.div_add_mod A B
   have h2:A/B=0:=by omega
   have h3:A % B=0:=by
    by_cases c:A % B=0
    ·exact c
    ·rw[if_neg c]at e;omega
   rw[h2,h3]at h1;simp at h1;exact hA0 h1.symm
  obtain⟨q,hq⟩:∃q:ExV,q=⟨x.s != y.s,stk A B,low-3⟩:=⟨_,rfl⟩
  have eq1:q.can=⟨oS (x.s != y.s) (stk A B),oM (stk A B),oE (stk A B) (low-3)⟩:=by rw[hq];rfl
  change Con _ _ _ _ _ (isA (.ag [.v (.bool ((ExV.mk (oS (x.s != y.s) (stk A B)) (oM (stk A B)) (oE (stk A B) (low-3)))).s),.sl (lim ((ExV.mk (oS (x.s != y.s) (stk A B)) (oM (stk A B)) (oE (stk A B) (low-3)))).m).length (qg (lim ((ExV.mk (oS (x.s != y.s) (stk A B)) (oM (stk A B)) (oE (stk A B) (low-3)))).m)),.v (.int .i64 ((ExV.mk (oS (x.s != y.s) (stk A B)) (oM (stk A B)) (oE (stk A B) (low-3)))).e)]))at cq
  rw[←eq1]at cq
  have bA:bl A≤300000:=by rw[hA];have:=Zo x.m (x.e-y.e-low+2).toNat;omega
  have bq:q.bd (-400000) 400000:=by
   rw[hq]
   refine⟨fun h=>absurd h hq0,by show(-400000:Int)≤low-3;omega,?_⟩
   show(bl (stk A B):Int)+(low-3)≤400000
   have h1:stk A B≤A/B*2^1+1:=by unfold stk;split<;>omega
   have h2:=jc h1
   have h3:=Jp (A/B*2^1)
   have h4:=Zo (A/B) 1
   have h5:=Qf A B
   omega
  have cr:=jU q.can low mode (Jo q) hm (jq bq (by omega) (by omega)) (by omega)
  rw[Vg]at cr
  have er:q.rnd low mode=x.over y low mode:=by
   have hr:rq (x.s != y.s) (stk A B) (2^(low-(low-3)).toNat) mode=ovQ (x.s != y.s) x.m x.e y.m y.e low mode:=by
    rw[show(low-(low-3)).toNat=2+1 by omega,au0 hB0 (by decide)]
    unfold ovQ ovA
    obtain⟨k,hk⟩:∃k,k=x.e-y.e-low:=⟨_,rfl⟩
    rw[←hk]at hA hB ⊢
    refine(aoN (i:=0) (i':=(k+2).toNat-k.toNat) ?_ ?_).1
    ·rw[hA,Nat.pow_zero,Nat.mul_one,Nat.mul_assoc,←Nat.pow_add]
     congr 2
     omega
    ·rw[hB,Nat.pow_zero,Nat.mul_one,Nat.mul_assoc,Nat.mul_assoc,←Nat.pow_add,←Nat.pow_add]
     congr 2
     omega
   have hc:¬(low≤low-3∨stk A B=0):=by omega
   rw[hq]
   unfold ExV.rnd ExV.over roS roM roE
   dsimp only
   rw[if_neg hc,if_neg hc,if_neg hc,hr]
  rw[er]at cr
  generalize (x.over y low mode).can=z at*
  generalize q.can=qc at*
  refine Con.of_w (rs:=[.cell 8 44]) Tryz.func100 rfl Tryz.ntmps100 rfl ?_
  simp(disch:=omega)only[go_sem]
  refine qa (cq) ?_
  simp(disch:=omega)only[go_sem]
  refine qa (cr) ?_
  simp(disch:=omega)only[go_sem]
  exact qn
theorem Jm(x y:ExV)(hx:x.bd (-400000) 400000)(hy:y.bd (-400000) 400000):Con Tryz.prog 92 true [.ag [.v (.bool (x).s),.sl (lim (x).m).length (qg (lim (x).m)),.v (.int .i64 (x).e)],.ag [.v (.bool (y).s),.sl (lim (y).m).length (qg (lim (y).m)),.v (.int .i64 (y).e)]] [] (isA (.v (.int .i64 (x.cmp y)))):=by
 have e:=ym (K:=400000) (x:=x) (y:=y) (by have:=hx.2.1;omega) (by have:=hy.2.1;omega)
 rw[e]
 obtain⟨a1,a2,a3⟩:=hx
 obtain⟨b1,b2,b3⟩:=hy
 exact aaI 400000 x.s x.m x.e y.s y.m y.e (by omega) (by omega) (by omega) (by omega) (by omega) (by omega) a1 b1
theorem adR(x y:ExV):x.cmp y= -(y.cmp x):=by
 obtain⟨K,hK⟩:∃K:Nat, -(K:Int)≤x.e∧ -(K:Int)≤y.e:=⟨(max (-x.e) (-y.e)).toNat,by omega,by omega⟩
 rw[ym hK.1 hK.2,ym hK.2 hK.1]
 unfold zG
 split<;>(try split)<;>(try split)<;>omega
theorem ack(x y:ExV)(hx:x.bd (-400000) 400000)(hy:y.bd (-400000) 400000):Con Tryz.prog 265 false [.ag [.v (.bool (x).s),.sl (lim (x).m).length (qg (lim (x).m)),.v (.int .i64 (x).e)],.ag [.v (.bool (y).s),.sl (lim (y).m).length (qg (lim (y).m)),.v (.int .i64 (y).e)]] [] (isA (.ag [.v (.bool (qP x y).s),.sl (lim (qP x y).m).length (qg (lim (qP x y).m)),.v (.int .i64 (qP x y).e)])):=by
 refine Con.frzA ?_
 have cc:=Jm x y hx hy
 have hf:=adR x y
 unfold qP
 generalize x.cmp y=C at*
 generalize y.cmp x=D at*
 refine Con.of_w (rs:=[.cell 4 44]) Tryz.func265 rfl Tryz.ntmps265 rfl ?_
 simp(disch:=omega)only[go_sem]
 refine qm (cc) ?_
 simp(disch:=omega)only[go_sem]
 by_cases h:C≤0
 ·simp(disch:=omega)only[go_sem,decide_eq_true h]
  rw[if_neg (by omega)]
  exact qn
 ·simp(disch:=omega)only[go_sem,decide_eq_false h]
  rw[if_pos (by omega)]
  exact qn
theorem Zm(x y:ExV)(hx:x.bd (-400000) 400000)(hy:y.bd (-400000) 400000):Con Tryz.prog 152 false [.ag [.v (.bool (x).s),.sl (lim (x).m).length (qg (lim (x).m)),.v (.int .i64 (x).e)],.ag [.v (.bool (y).s),.sl (lim (y).m).length (qg (lim (y).m)),.v (.int .i64 (y).e)]] [] (isA (.ag [.v (.bool (qT x y).s),.sl (lim (qT x y).m).length (qg (lim (qT x y).m)),.v (.int .i64 (qT x y).e)])):=by
 refine Con.frzA ?_
 have cc:=Jm x y hx hy
 have hf:=adR x y
 unfold qT
 generalize x.cmp y=C at*
 generalize y.cmp x=D at*
 refine Con.of_w (rs:=[.cell 4 44]) Tryz.func152 rfl Tryz.ntmps152 rfl ?_
 simp(disch:=omega)only[go_sem]
 refine qm (cc) ?_
 simp(disch:=omega)only[go_sem]
 by_cases h:0≤C
 ·simp(disch:=omega)only[go_sem,decide_eq_true h]
  rw[if_neg (by omega)]
  exact qn
 ·simp(disch:=omega)only[go_sem,decide_eq_false h]
  rw[if_pos (by omega)]
  exact qn
theorem Jl(x:ExV)(hx:x.bd (-400000) 400000):Con Tryz.prog 103 false [.ag [.v (.bool (x).s),.sl (lim (x).m).length (qg (lim (x).m)),.v (.int .i64 (x).e)]] [] (isA (.ag [.v (.bool (x.neg).s),.sl (lim (x.neg).m).length (qg (lim (x.neg).m)),.v (.int .i64 (x.neg).e)])):=by
 have:=qv (m:=x.m) (B:=800000) (by have:=hx.2.1;have:=hx.2.2;omega)
 exact ajd x.s x.m x.e (by omega)
theorem XN(s t:SpV)(hs:s.bd (-400000) 400000)(ht:t.bd (-400000) 400000):Con Tryz.prog 210 false [.ag [.v (.bool (s).lo.s),.sl (lim (s).lo.m).length (qg (lim (s).lo.m)),.v (.int .i64 (s).lo.e),.v (.bool (s).hi.s),.sl (lim (s).hi.m).length (qg (lim (s).hi.m)),.v (.int .i64 (s).hi.e)],.ag [.v (.bool (t).lo.s),.sl (lim (t).lo.m).length (qg (lim (t).lo.m)),.v (.int .i64 (t).lo.e),.v (.bool (t).hi.s),.sl (lim (t).hi.m).length (qg (lim (t).hi.m)),.v (.int .i64 (t).hi.e)]] [] (isA (.ag [.v (.bool ((s.plus t).can).lo.s),.sl (lim ((s.plus t).can).lo.m).length (qg (lim ((s.plus t).can).lo.m)),.v (.int .i64 ((s.plus t).can).lo.e),.v (.bool ((s.plus t).can).hi.s),.sl (lim ((s.plus t).can).hi.m).length (qg (lim ((s.plus t).can).hi.m)),.v (.int .i64 ((s.plus t).can).hi.e)])):=by
 refine Con.frzA ?_
 have c1:=jp s.lo t.lo hs.1 ht.1
 have c2:=jp s.hi t.hi hs.2 ht.2
 unfold SpV.can SpV.plus
 dsimp only
 generalize (s.lo.plus t.lo).can=a at*
 generalize (s.hi.plus t.hi).can=b at*
 refine Con.of_w (rs:=[.cell 4 167]) Tryz.func210 rfl Tryz.ntmps210 rfl ?_
 simp(disch:=omega)only[go_sem]
 refine qq rfl [⟨0,[],[]⟩,⟨1,[],[]⟩,⟨2,[1],[]⟩,⟨3,[1],[]⟩,⟨5,[1,3],[]⟩,⟨6,[1,3],[]⟩,⟨7,[1,3,6],[]⟩,⟨8,[1,3,6],[]⟩,⟨4,[6,8],[]⟩,⟨9,[],[]⟩,⟨10,[],[]⟩,⟨11,[],[]⟩] (by kernel_rfl) ?_
 simp(disch:=omega)only[go_sem]
 refine qa (c1) ?_
 simp(disch:=omega)only[go_sem]
 refine qa (c2) ?_
 simp(disch:=omega)only[go_sem]
 exact qn
theorem afa(s:SpV)(low:Int)(h1:s.lo.can=s.lo)(h2:s.hi.can=s.hi)(hs:s.bd (-400000) 400000)(hl: -400000≤low∧low≤400000):Con Tryz.prog 131 false [.ag [.v (.bool (s).lo.s),.sl (lim (s).lo.m).length (qg (lim (s).lo.m)),.v (.int .i64 (s).lo.e),.v (.bool (s).hi.s),.sl (lim (s).hi.m).length (qg (lim (s).hi.m)),.v (.int .i64 (s).hi.e)],.v (.int .i64 low)] [] (isA (.ag [.v (.bool ((s.out low).can).lo.s),.sl (lim ((s.out low).can).lo.m).length (qg (lim ((s.out low).can).lo.m)),.v (.int .i64 ((s.out low).can).lo.e),.v (.bool ((s.out low).can).hi.s),.sl (lim ((s.out low).can).hi.m).length (qg (lim ((s.out low).can).hi.m)),.v (.int .i64 ((s.out low).can).hi.e)])):=by
 refine Con.frzA ?_
 have c1:=jU s.lo low 3 h1 (by omega) hs.1 hl
 have c2:=jU s.hi low 2 h2 (by omega) hs.2 hl
 unfold SpV.can SpV.out
 dsimp only
 generalize (s.lo.rnd low 3).can=a at*
 generalize (s.hi.rnd low 2).can=b at*
 refine Con.of_w (rs:=[.cell 4 167]) Tryz.func131 rfl Tryz.ntmps131 rfl ?_
 simp(disch:=omega)only[go_sem]
 refine qa (c1) ?_
 simp(disch:=omega)only[go_sem]
 refine qa (c2) ?_
 simp(disch:=omega)only[go_sem]
 exact qn
theorem afb(s t:SpV)(hs:s.bd (-190000) 190000)(ht:t.bd (-190000) 190000):Con Tryz.prog 211 false [.ag [.v (.bool (s).lo.s),.sl (lim (s).lo.m).length (qg (lim (s).lo.m)),.v (.int .i64 (s).lo.e),.v (.bool (s).hi.s),.sl (lim (s).hi.m).length (qg (lim (s).hi.m)),.v (.int .i64 (s).hi.e)],.ag [.v (.bool (t).lo.s),.sl (lim (t).lo.m).length (qg (lim (t).lo.m)),.v (.int .i64 (t).lo.e),.v (.bool (t).hi.s),.sl (lim (t).hi.m).length (qg (lim (t).hi.m)),.v (.int .i64 (t).hi.e)]] [] (isA (.ag [.v (.bool ((SpV.mk (zj ((qC ExV.times s t).map ExV.can)) (za ((qC ExV.times s t).map ExV.can)))).lo.s),.sl (lim ((SpV.mk (zj ((qC ExV.times s t).map ExV.can)) (za ((qC ExV.times s t).map ExV.can)))).lo.m).length (qg (lim ((SpV.mk (zj ((qC ExV.times s t).map ExV.can)) (za ((qC ExV.times s t).map ExV.can)))).lo.m)),.v (.int .i64 ((SpV.mk (zj ((qC ExV.times s t).map ExV.can)) (za ((qC ExV.times s t).map ExV.can)))).lo.e),.v (.bool ((SpV.mk (zj ((qC ExV.times s t).map ExV.can)) (za ((qC ExV.times s t).map ExV.can)))).hi.s),.sl (lim ((SpV.mk (zj ((qC ExV.times s t).map ExV.can)) (za ((qC ExV.times s t).map ExV.can)))).hi.m).length (qg (lim ((SpV.mk (zj ((qC ExV.times s t).map ExV.can)) (za ((qC ExV.times s t).map ExV.can)))).hi.m)),.v (.int .i64 ((SpV.mk (zj ((qC ExV.times s t).map ExV.can)) (za ((qC ExV.times s t).map ExV.can)))).hi.e)])):=by
 refine Con.frzA ?_
 have hm:∀x:ExV,x.bd (-190000) 190000→x.bd (-400000) 400000:=fun x h=>h.mono (by omega) (by omega)
 have c1:=yQ s.lo t.lo (hm _ hs.1) (hm _ ht.1)
 have c2:=yQ s.lo t.hi (hm _ hs.1) (hm _ ht.2)
 have c3:=yQ s.hi t.lo (hm _ hs.2) (hm _ ht.1)
 have c4:=yQ s.hi t.hi (hm _ hs.2) (hm _ ht.2)
 have bb:∀x y:ExV,x.bd (-190000) 190000→y.bd (-190000) 190000→(x.times y).can.bd (-400000) 400000:=fun x y h1 h2=>jq ((ExV.times_bd h1 h2).mono (by omega) (by omega)) (by omega) (by omega)
 have b1:=bb _ _ hs.1 ht.1
 have b2:=bb _ _ hs.1 ht.2
 have b3:=bb _ _ hs.2 ht.1
 have b4:=bb _ _ hs.2 ht.2
 have eL:zj ((qC ExV.times s t).map ExV.can)=qP (qP (qP (s.lo.times t.lo).can (s.lo.times t.hi).can) (s.hi.times t.lo).can) (s.hi.times t.hi).can:=rfl
 have eM:za ((qC ExV.times s t).map ExV.can)=qT (qT (qT (s.lo.times t.lo).can (s.lo.times t.hi).can) (s.hi.times t.lo).can) (s.hi.times t.hi).can:=rfl
 dsimp only
 rw[eL,eM]
 generalize (s.lo.times t.lo).can=p0 at*
 generalize (s.lo.times t.hi).can=p1 at*
 generalize (s.hi.times t.lo).can=p2 at*
 generalize (s.hi.times t.hi).can=p3 at*
 have lb:∀x y:ExV,x.bd (-400000) 400000→y.bd (-400000) 400000→(qP x y).bd (-400000) 400000:=fun x y h1 h2=>by rcases ZE x y with e|e<;>rw[e]<;>assumption
 have mb:∀x y:ExV,x.bd (-400000) 400000→y.bd (-400000) 400000→(qT x y).bd (-400000) 400000:=fun x y h1 h2=>by rcases QT x y with e|e<;>rw[e]<;>assumption
 obtain⟨lL,hlL⟩:∃f:Nat→ExV,f=fun i=>if i=1 then p0 else if i=2 then qP p0 p1 else if i=3 then qP (qP p0 p1) p2 else qP (qP (qP p0 p1) p2) p3:=⟨_,rfl⟩
 obtain⟨lM,hlM⟩:∃f:Nat→ExV,f=fun i=>if i=1 then p0 else if i=2 then qT p0 p1 else if i=3 then qT (qT p0 p1) p2 else qT (qT (qT p0 p1) p2) p3:=⟨_,rfl⟩
 have hL1:lL 1=p0:=by rw[hlL];rfl
 have hM1:lM 1=p0:=by rw[hlM];rfl
 have hL4:lL 4=qP (qP (qP p0 p1) p2) p3:=by rw[hlL];rfl
 have hM4:lM 4=qT (qT (qT p0 p1) p2) p3:=by rw[hlM];rfl
 have hLs:∀i,1≤i→i<4→lL (i+1)=qP (lL i) (([p0,p1,p2,p3]:List ExV).getD i ex0):=fun i h1 h2=>by
  rcases(show i=1∨i=2∨i=3 by omega)with rfl|rfl|rfl<;>rw[hlL]<;>rfl
 have hMs:∀i,1≤i→i<4→lM (i+1)=qT (lM i) (([p0,p1,p2,p3]:List ExV).getD i ex0):=fun i h1 h2=>by
  rcases(show i=1∨i=2∨i=3 by omega)with rfl|rfl|rfl<;>rw[hlM]<;>rfl
 have hLb:∀i,1≤i→i≤4→(lL i).bd (-400000) 400000:=fun i h1 h2=>by
  rcases(show i=1∨i=2∨i=3∨i=4 by omega)with rfl|rfl|rfl|rfl<;>rw[hlL]
  ·exact b1
  ·exact lb _ _ b1 b2
  ·exact lb _ _ (lb _ _ b1 b2) b3
  ·exact lb _ _ (lb _ _ (lb _ _ b1 b2) b3) b4
 have hMb:∀i,1≤i→i≤4→(lM i).bd (-400000) 400000:=fun i h1 h2=>by
  rcases(show i=1∨i=2∨i=3∨i=4 by omega)with rfl|rfl|rfl|rfl<;>rw[hlM]
  ·exact b1
  ·exact mb _ _ b1 b2
  ·exact mb _ _ (mb _ _ b1 b2) b3
  ·exact mb _ _ (mb _ _ (mb _ _ b1 b2) b3) b4
 have hPb:∀x∈([p0,p1,p2,p3]:List ExV),x.bd (-400000) 400000:=fun x hx=>by
  simp only[List.mem_cons,List.not_mem_nil,or_false]at hx
  rcases hx with rfl|rfl|rfl|rfl<;>assumption
 have hrow:([.v (.bool p0.s),.sl (lim p0.m).length (qg (lim p0.m)),.v (.int .i64 p0.e),.v (.bool p1.s),.sl (lim p1.m).length (qg (lim p1.m)),.v (.int .i64 p1.e),.v (.bool p2.s),.sl (lim p2.m).length (qg (lim p2.m)),.v (.int .i64 p2.e),.v (.bool p3.s),.sl (lim p3.m).length (qg (lim p3.m)),.v (.int .i64 p3.e)]:List AV)=qj ExV.cs [p0,p1,p2,p3]:=rfl
 rw[←hL4,←hM4]
 clear hlL hlM hL4 hM4
 refine Con.of_w (rs:=[.cell 4 167]) Tryz.func211 rfl Tryz.ntmps211 rfl ?_
 simp(disch:=omega)only[go_sem]
 refine qq rfl [⟨0,[],[]⟩,⟨1,[],[]⟩,⟨2,[1],[]⟩,⟨3,[1],[]⟩,⟨5,[1,3],[]⟩,⟨6,[1,3],[]⟩,⟨7,[1,3,6],[]⟩,⟨8,[1,3,6],[]⟩,⟨10,[1,3,6,8],[]⟩,⟨11,[1,3,6,8],[]⟩,⟨12,[1,3,6,8,11],[]⟩,⟨13,[1,3,6,8,11],[]⟩,⟨15,[1,3,6,8,11,13],[]⟩,⟨16,[1,3,6,8,11,13],[]⟩,⟨17,[1,3,6,8,11,13,16],[]⟩,⟨18,[1,3,6,8,11,13,16],[]⟩,⟨4,[6,8,11,13,16,18],[]⟩,⟨9,[11,13,16,18],[]⟩,⟨14,[16,18],[]⟩,⟨19,[],[]⟩,⟨20,[],[]⟩,⟨21,[],[]⟩] (by kernel_rfl) ?_
 simp(disch:=omega)only[go_sem]
 refine qa (c1) ?_
 simp(disch:=omega)only[go_sem]
 refine qa (c2) ?_
 simp(disch:=omega)only[go_sem]
 refine qa (c3) ?_
 simp(disch:=omega)only[go_sem]
 refine qa (c4) ?_
 simp(disch:=omega)only[go_sem]
 refine qq rfl [⟨0,[],[]⟩,⟨1,[],[]⟩,⟨2,[],[]⟩,⟨3,[2],[]⟩,⟨4,[2],[]⟩,⟨5,[2],[]⟩,⟨6,[],[]⟩,⟨7,[2,5],[]⟩,⟨8,[],[]⟩] (by kernel_rfl) ?_
 simp(disch:=omega)only[go_sem]
 rw[hrow]
 refine qi (fun i:Nat=>[(4,.pt 4 0),(5,.rf 3 0 4),(6,.pt 5 0),(7,.v (.int .i64 i))])
  (fun i=>[(3,.own 3 (qj ExV.cs [p0,p1,p2,p3])),(4,.own 0 [.v (.bool false),.v (.slice none 0 0),.v (.int .i64 0),.v (.bool false),.v (.slice none 0 0),.v (.int .i64 0)]),(5,.own 0 [.v (.bool (lL i).s),.sl (lim (lL i).m).length (qg (lim (lL i).m)),.v (.int .i64 (lL i).e),.v (.bool (lM i).s),.sl (lim (lM i).m).length (qg (lim (lM i).m)),.v (.int .i64 (lM i).e)])]) (fun i=>1≤i∧i≤4) (fun i=>4-i) 1 (by omega)
  (Le.lst [(3,300000000),(4,60000000),(5,80000000)] _ _ rfl (by simp(disch:=omega)only[go_sem];try rfl) (by simp(disch:=omega)only[go_sem,hL1,hM1])) ?_
 rintro i ⟨hi1,hi2⟩
 simp(disch:=omega)only[go_sem]
 refine qh (fun h1=>?_) (fun h1=>?_)
 ·have hi3:i<4:=by omega
  have hg:=zM (l:=[p0,p1,p2,p3]) (i:=i) (by simpa using hi3)
  have bP:=hPb (([p0,p1,p2,p3]:List ExV).getD i ex0) (by rw[List.getD_eq_getElem?_getD,List.getElem?_eq_getElem (by simpa using hi3)];exact List.getElem_mem _)
  have q1:=ack (lL i) (([p0,p1,p2,p3]:List ExV).getD i ex0) (hLb i hi1 hi2) bP
  have q2:=Zm (lM i) (([p0,p1,p2,p3]:List ExV).getD i ex0) (hMb i hi1 hi2) bP
  rw[←hLs i hi1 hi3]at q1
  rw[←hMs i hi1 hi3]at q2
  generalize ([p0,p1,p2,p3]:List ExV).getD i ex0=x at*
  generalize hl1:lL (i+1)=a1 at*
  generalize hm1:lM (i+1)=a2 at*
  simp(disch:=omega)only[go_sem,h1]
  refine qq rfl [⟨0,[],[]⟩,⟨1,[],[]⟩,⟨2,[1],[]⟩,⟨3,[1],[]⟩,⟨4,[1],[]⟩,⟨5,[1],[]⟩,⟨6,[],[]⟩,⟨7,[],[]⟩,⟨8,[],[]⟩] (by kernel_rfl) ?_
  simp(disch:=omega)only[go_sem,hg]
  refine⟨by omega,by omega,?_⟩
  refine qa (q1) ?_
  simp(disch:=omega)only[go_sem]
  refine qq rfl [⟨0,[],[]⟩,⟨1,[],[]⟩,⟨2,[1],[]⟩,⟨3,[1],[]⟩,⟨4,[1],[]⟩,⟨5,[1],[]⟩,⟨6,[],[]⟩,⟨7,[],[]⟩,⟨8,[],[]⟩] (by kernel_rfl) ?_
  simp(disch:=omega)only[go_sem,hg]
  refine⟨by omega,by omega,?_⟩
  refine qa (q2) ?_
  simp(disch:=omega)only[go_sem]
  exact qe (i+1) [] (by omega) (by omega) rfl (by simp(disch:=omega)only[go_sem];try omega) (by simp(disch:=omega)only[go_sem,hl1,hm1])
 ·obtain rfl:i=4:=by omega
  simp(disch:=omega)only[go_sem,h1]
  exact qn
end Go.Ab
namespace Go.Ab
open Go Go.Proofs
theorem Xk{L:List SpV}{i:Nat}(hi:i<L.length):cut (qj SpV.cs L) (i*6) 3=[.v (.bool (L.getD i sp0).lo.s),.sl (lim (L.getD i sp0).lo.m).length (qg (lim (L.getD i sp0).lo.m)),.v (.int .i64 (L.getD i sp0).lo.e)]:=by
 have h:=z8 hi
 have:cut (qj SpV.cs L) (i*6) 3=(cut (qj SpV.cs L) (i*6) 6).take 3:=by
  unfold cut
  rw[List.take_take];rfl
 rw[this,h];rfl
def zpT(F:SpV→SpV→SpV)(l l':List SpV)(i:Nat):List SpV:=(List.range i).map fun i=>F (l.getD i sp0) (l'.getD i sp0)
theorem afR{F:SpV→SpV→SpV}{l l':List SpV}{i:Nat}:(zpT F l l' i).length=i:=by simp[zpT]
theorem akr{F:SpV→SpV→SpV}{l l':List SpV}{i:Nat}:zpT F l l' (i+1)=zpT F l l' i++[F (l.getD i sp0) (l'.getD i sp0)]:=by simp[zpT,List.range_succ]
theorem Vo{x y:ExV}{low md:Int}(hy0:y.m≠0):(x.can.over y.can low md).can=(x.over y low md).can:=by
 by_cases h0:x.m=0
 ·rw[Yj h0,Yj (show x.can.m=0 by show oM x.m=0;rw[h0,jC])]
 have ex:x.can.e=x.e+tz x.m:=by show oE x.m x.e=_;unfold oE;rw[if_neg h0]
 have mx:x.can.m*2^tz x.m=x.m:=Jw
 have sx:x.can.s=x.s:=by show oS x.s x.m=x.s;unfold oS;rw[if_neg h0]
 have ey:y.can.e=y.e+tz y.m:=by show oE y.m y.e=_;unfold oE;rw[if_neg hy0]
 have my:y.can.m*2^tz y.m=y.m:=Jw
 have sy:y.can.s=y.s:=by show oS y.s y.m=y.s;unfold oS;rw[if_neg hy0]
 have hq:ovQ (x.s != y.s) x.can.m x.can.e y.can.m y.can.e low md=ovQ (x.s != y.s) x.m x.e y.m y.e low md:=by
  unfold ovQ ovA
  obtain⟨k,hk⟩:∃k,k=x.e-y.e-low:=⟨_,rfl⟩
  obtain⟨k',hk'⟩:∃k',k'=x.can.e-y.can.e-low:=⟨_,rfl⟩
  rw[←hk,←hk']
  refine(aoN (i:=tz x.m+k.toNat) (i':=k'.toNat) ?_ ?_).1
  ·rw[←mx]
   rw[mx]
   conv=>rhs;rw[←mx]
   rw[Nat.mul_assoc,Nat.mul_assoc,Nat.mul_assoc,←Nat.pow_add,←Nat.pow_add,←Nat.pow_add]
   congr 2
   omega
  ·conv=>rhs;rw[←my]
   rw[Nat.mul_assoc,Nat.mul_assoc,Nat.mul_assoc,←Nat.pow_add,←Nat.pow_add,←Nat.pow_add]
   congr 2
   omega
 unfold ExV.over
 rw[sx,sy,hq]
set_option maxRecDepth 100000 in
theorem aci(n:Nat)(l:List ExV)(y:ExV)(hn:n≤4)(hl:l.length=n*n)(hb:gbd (-100000) 100000 l)(hy:y.bd (-100000) 100000):Con Tryz.prog 102 false [.ag [.v (.int .i64 (n)),.sl (l).length (qj ExV.cs (l))],.ag [.v (.bool (y).s),.sl (lim (y).m).length (qg (lim (y).m)),.v (.int .i64 (y).e)]] [] (isA (.ag [.v (.int .i64 n),.sl (l.map (fun x=>(x.times y).can)).length (qj ExV.cs (l.map (fun x=>(x.times y).can)))])):=by
 refine Con.frzA ?_
 have hq:=jr hn
 have hpost:l.map (fun x=>(x.times y).can)=mpT l (fun x=>(x.times y).can) (n*n):=by rw[←hl];exact ja.symm
 rw[hpost]
 refine Con.of_aw Tryz.func102 rfl Tryz.ntmps102 (by simp) (by simp) (by simp) (W.sound ?_)
 show @W Tryz.prog 29 ⟨_⟩ ⟨fun x σ=>@qY _ _ _ ⟨_⟩ _ ⟨_⟩ x σ⟩ _ _
 simp(disch:=omega)only[go_sem]
 refine qw (QH n hn) (by simp(disch:=omega)only[go_sem]) ?_
 rintro r hs ⟨rfl,rfl⟩
 refine⟨by simp[qB];simp(disch:=omega)only[go_sem],?_⟩
 simp(disch:=omega)only[go_sem]
 refine qi (fun i:Nat=>[(2,.pt 2 0),(3,.pt 3 0),(4,.pt 4 0),(5,.pt 5 0),(6,.v (.int .i64 i))])
  (fun i=>[(1,.own 3 (qj ExV.cs (mpT l (fun x=>(x.times y).can) i)++zA (n*n-i) z3)),(2,.own 0 [.v (.int .i64 n),.sl l.length (qj ExV.cs l)]),(3,.own 0 [.v (.bool y.s),.sl (lim y.m).length (qg (lim y.m)),.v (.int .i64 y.e)]),(4,.own 0 [.v (.int .i64 0),.v (.slice none 0 0)]),(5,.own 0 [.v (.int .i64 n),.rf 1 0 (n*n)])]) (fun i=>i≤n*n) (fun i=>n*n-i) 0 (by omega)
  (Le.lst [(1,110000000),(2,40000000),(3,50000000),(4,60000000),(5,70000000)] _ _ rfl (by simp(disch:=omega)only[go_sem]) (by simp(disch:=omega)only[go_sem,Nat.sub_zero,show mpT l (fun x=>(x.times y).can) 0=[] from rfl,Qb,List.nil_append])) ?_
 intro i hi
 simp(disch:=omega)only[go_sem]
 refine qh (fun h1=>?_) (fun h1=>?_)
 ·have hi2:i<n*n:=by omega
  obtain⟨k0,hk0⟩:∃k0,n*n-i=k0+1:=⟨n*n-i-1,by omega⟩
  have hk1:n*n-(i+1)=k0:=by omega
  have hAl:(mpT l (fun x=>(x.times y).can) i).length=i:=qW (by omega)
  have hs:=zK (F:=fun x=>(x.times y).can) ex0 (l:=l) (i:=i) (by omega)
  have hc:=zM (l:=l) (i:=i) (by omega)
  have hx:=hb (l.getD i ex0) (by rw[List.getD_eq_getElem?_getD,List.getElem?_eq_getElem (by omega)];exact List.getElem_mem _)
  generalize l.getD i ex0=x at*
  have c1:=yQ x y (hx.mono (by omega) (by omega)) (hy.mono (by omega) (by omega))
  generalize (x.times y).can=w at*
  rw[hk0]
  generalize mpT l (fun x=>(x.times y).can) i=A at*
  obtain rfl:A.length=i:=hAl
  simp(disch:=omega)only[go_sem,h1]
  refine qq rfl [⟨0,[],[]⟩,⟨1,[],[]⟩,⟨2,[1],[]⟩,⟨3,[1],[]⟩,⟨4,[1],[]⟩,⟨5,[1,4],[]⟩,⟨6,[1],[]⟩,⟨7,[1],[]⟩,⟨8,[1,4,7],[]⟩,⟨9,[1],[]⟩,⟨10,[],[]⟩,⟨11,[],[]⟩] (by kernel_rfl) ?_
  simp(disch:=omega)only[go_sem,hc]
  refine⟨by omega,by omega,?_⟩
  refine qa (c1) ?_
  simp(disch:=omega)only[go_sem]
  rw[ZJ]
  exact⟨by omega,by rw[List.length_append,Zk,J1];omega,qe (A.length+1) [] (by show A.length+1≤n*n;omega) (by show n*n-(A.length+1)<k0+1;omega) rfl (by simp(disch:=omega)only[go_sem];try omega) (by simp(disch:=omega)only[go_sem,hk1,hs])⟩
 ·simp(disch:=omega)only[go_sem,h1]
  obtain rfl:i=n*n:=by omega
  have hll:(mpT l (fun x=>(x.times y).can) (n*n)).length=n*n:=qW (by omega)
  rw[hll]
  refine ql [(0,1)] [.own 3 (qj ExV.cs (mpT l (fun x=>(x.times y).can) (n*n)))] [] [.ag [.v (.int .i64 n),.rf 0 0 (n*n)]] rfl (by simp(disch:=omega)only[go_sem]) (by simp(disch:=omega)only[go_sem,Nat.sub_self,Qh,List.append_nil]) (by simp) (by simp) ?_
  show qD _ 6 _=_
  simp(disch:=omega)only[go_sem,qJ,zp hll]
set_option maxRecDepth 100000 in
theorem afg(n:Nat)(l:List SpV)(y:ExV)(hn:n≤4)(hl:l.length=n*n)(hb:sbd (-400000) 400000 l)(hy:y.bd (-400000) 400000):Con Tryz.prog 138 false [.ag [.v (.int .i64 (n)),.sl (l).length (qj SpV.cs (l))],.ag [.v (.bool (y).s),.sl (lim (y).m).length (qg (lim (y).m)),.v (.int .i64 (y).e)]] [] (isA (.ag [.v (.int .i64 n),.sl (l.map (fun s=>(s.fat y).can)).length (qj SpV.cs (l.map (fun s=>(s.fat y).can)))])):=by
 refine Con.frzA ?_
 have hq:=jr hn
 have hpost:l.map (fun s=>(s.fat y).can)=mpT l (fun s=>(s.fat y).can) (n*n):=by rw[←hl];exact ja.symm
 rw[hpost]
 refine Con.of_aw Tryz.func138 rfl Tryz.ntmps138 (by simp) (by simp) (by simp) (W.sound ?_)
 show @W Tryz.prog 40 ⟨_⟩ ⟨fun x σ=>@qY _ _ _ ⟨_⟩ _ ⟨_⟩ x σ⟩ _ _
 simp(disch:=omega)only[go_sem]
 refine qw (jH n hn) (by simp(disch:=omega)only[go_sem]) ?_
 rintro r hs ⟨rfl,rfl⟩
 refine⟨by simp[qB];simp(disch:=omega)only[go_sem],?_⟩
 simp(disch:=omega)only[go_sem]
 refine qi (fun i:Nat=>[(2,.pt 2 0),(3,.pt 3 0),(4,.pt 4 0),(5,.pt 5 0),(6,.v (.int .i64 i))])
  (fun i=>[(1,.own 6 (qj SpV.cs (mpT l (fun s=>(s.fat y).can) i)++zA (n*n-i) z6)),(2,.own 0 [.v (.int .i64 n),.sl l.length (qj SpV.cs l)]),(3,.own 0 [.v (.bool y.s),.sl (lim y.m).length (qg (lim y.m)),.v (.int .i64 y.e)]),(4,.own 0 [.v (.int .i64 0),.v (.slice none 0 0)]),(5,.own 0 [.v (.int .i64 n),.rf 1 0 (n*n)])]) (fun i=>i≤n*n) (fun i=>n*n-i) 0 (by omega)
  (Le.lst [(1,110000000),(2,40000000),(3,50000000),(4,60000000),(5,70000000)] _ _ rfl (by simp(disch:=omega)only[go_sem]) (by simp(disch:=omega)only[go_sem,Nat.sub_zero,show mpT l (fun s=>(s.fat y).can) 0=[] from rfl,jX,List.nil_append])) ?_
 intro i hi
 simp(disch:=omega)only[go_sem]
 refine qh (fun h1=>?_) (fun h1=>?_)
 ·have hi2:i<n*n:=by omega
  obtain⟨k0,hk0⟩:∃k0,n*n-i=k0+1:=⟨n*n-i-1,by omega⟩
  have hk1:n*n-(i+1)=k0:=by omega
  have hAl:(mpT l (fun s=>(s.fat y).can) i).length=i:=qW (by omega)
  have hs:=zK (F:=fun s=>(s.fat y).can) sp0 (l:=l) (i:=i) (by omega)
  have hc:=z8 (l:=l) (i:=i) (by omega)
  have hcl:=Xk (L:=l) (i:=i) (by omega)
  have hch:=Xl (L:=l) (i:=i) (by omega)
  have hx:=hb (l.getD i sp0) (by rw[List.getD_eq_getElem?_getD,List.getElem?_eq_getElem (by omega)];exact List.getElem_mem _)
  generalize l.getD i sp0=x at*
  have c0:=Jl y hy
  have c1:=jp x.lo y.neg hx.1 (ExV.neg_bd hy)
  have c2:=jp x.hi y hx.2 hy
  have ew:(x.fat y).can=⟨(x.lo.plus y.neg).can,(x.hi.plus y).can⟩:=rfl
  rw[ew]at hs
  generalize (x.lo.plus y.neg).can=w1 at*
  generalize (x.hi.plus y).can=w2 at*
  generalize y.neg=yn at*
  have hfill:=fun(L:List SpV) (k:Nat)=>yW (L:=L) (k:=k) (x:=⟨w1,w2⟩)
  dsimp only at hfill
  rw[hk0]
  generalize mpT l (fun s=>(s.fat y).can) i=A at*
  obtain rfl:A.length=i:=hAl
  simp(disch:=omega)only[go_sem,h1]
  refine qq rfl [⟨0,[],[]⟩,⟨1,[],[]⟩,⟨2,[1],[]⟩,⟨3,[1],[]⟩,⟨4,[1],[]⟩,⟨5,[1,4],[]⟩,⟨6,[1],[]⟩,⟨7,[1],[]⟩,⟨8,[1],[]⟩,⟨9,[1,4,8],[]⟩,⟨12,[1,4,8,9],[]⟩,⟨13,[1,4,8,9],[]⟩,⟨14,[1,4,8,9,13],[]⟩,⟨15,[1,4,8,9],[]⟩,⟨16,[1,4,8,9],[]⟩,⟨17,[1,4,8,9],[]⟩,⟨18,[1,4,8,9,13,17],[]⟩,⟨10,[1,4,8,13,17,18],[]⟩,⟨11,[1,13,17,18],[]⟩,⟨19,[1],[]⟩,⟨20,[1],[]⟩,⟨21,[],[]⟩,⟨22,[],[]⟩] (by kernel_rfl) ?_
  simp(disch:=omega)only[go_sem,hcl,hch]
  refine⟨by omega,by omega,by omega,by omega,?_⟩
  refine qa (c0) ?_
  simp(disch:=omega)only[go_sem]
  refine qa (c1) ?_
  simp(disch:=omega)only[go_sem]
  refine qa (c2) ?_
  simp(disch:=omega)only[go_sem]
  rw[hfill]
  exact⟨by omega,by rw[List.length_append,yg,Jr];omega,qe (A.length+1) [] (by show A.length+1≤n*n;omega) (by show n*n-(A.length+1)<k0+1;omega) rfl (by simp(disch:=omega)only[go_sem];try omega) (by simp(disch:=omega)only[go_sem,hk1,hs])⟩
 ·simp(disch:=omega)only[go_sem,h1]
  obtain rfl:i=n*n:=by omega
  have hll:(mpT l (fun s=>(s.fat y).can) (n*n)).length=n*n:=qW (by omega)
  rw[hll]
  refine ql [(0,1)] [.own 6 (qj SpV.cs (mpT l (fun s=>(s.fat y).can) (n*n)))] [] [.ag [.v (.int .i64 n),.rf 0 0 (n*n)]] rfl (by simp(disch:=omega)only[go_sem]) (by simp(disch:=omega)only[go_sem,Nat.sub_self,Qh,List.append_nil]) (by simp) (by simp) ?_
  show qD _ 6 _=_
  simp(disch:=omega)only[go_sem,qJ,zB hll]
set_option maxRecDepth 100000 in
theorem XT(n:Nat)(l:List SpV)(low:Int)(hn:n≤4)(hl:l.length=n*n)(hcn:∀s∈l,s.lo.can=s.lo∧s.hi.can=s.hi)(hb:sbd (-400000) 400000 l)(hlo: -400000≤low∧low≤400000):Con Tryz.prog 63 false [.ag [.v (.int .i64 (n)),.sl (l).length (qj SpV.cs (l))],.v (.int .i64 low)] [] (isA (.ag [.v (.int .i64 n),.sl (l.map (fun s=>(s.out low).can)).length (qj SpV.cs (l.map (fun s=>(s.out low).can)))])):=by
 refine Con.frzA ?_
 have hq:=jr hn
 have hpost:l.map (fun s=>(s.out low).can)=mpT l (fun s=>(s.out low).can) (n*n):=by rw[←hl];exact ja.symm
 rw[hpost]
 refine Con.of_aw Tryz.func63 rfl Tryz.ntmps63 (by simp) (by simp) (by simp) (W.sound ?_)
 show @W Tryz.prog 29 ⟨_⟩ ⟨fun x σ=>@qY _ _ _ ⟨_⟩ _ ⟨_⟩ x σ⟩ _ _
 simp(disch:=omega)only[go_sem]
 refine qw (jH n hn) (by simp(disch:=omega)only[go_sem]) ?_
 rintro r hs ⟨rfl,rfl⟩
 refine⟨by simp[qB];simp(disch:=omega)only[go_sem],?_⟩
 simp(disch:=omega)only[go_sem]
 refine qi (fun i:Nat=>[(2,.pt 2 0),(1,.v (.int .i64 low)),(4,.pt 3 0),(5,.pt 4 0),(6,.v (.int .i64 i))])
  (fun i=>[(1,.own 6 (qj SpV.cs (mpT l (fun s=>(s.out low).can) i)++zA (n*n-i) z6)),(2,.own 0 [.v (.int .i64 n),.sl l.length (qj SpV.cs l)]),(3,.own 0 [.v (.int .i64 0),.v (.slice none 0 0)]),(4,.own 0 [.v (.int .i64 n),.rf 1 0 (n*n)])]) (fun i=>i≤n*n) (fun i=>n*n-i) 0 (by omega)
  (Le.lst [(1,110000000),(2,40000000),(3,60000000),(4,70000000)] _ _ rfl (by simp(disch:=omega)only[go_sem]) (by simp(disch:=omega)only[go_sem,Nat.sub_zero,show mpT l (fun s=>(s.out low).can) 0=[] from rfl,jX,List.nil_append])) ?_
 intro i hi
 simp(disch:=omega)only[go_sem]
 refine qh (fun h1=>?_) (fun h1=>?_)
 ·have hi2:i<n*n:=by omega
  obtain⟨k0,hk0⟩:∃k0,n*n-i=k0+1:=⟨n*n-i-1,by omega⟩
  have hk1:n*n-(i+1)=k0:=by omega
  have hAl:(mpT l (fun s=>(s.out low).can) i).length=i:=qW (by omega)
  have hs:=zK (F:=fun s=>(s.out low).can) sp0 (l:=l) (i:=i) (by omega)
  have hc:=z8 (l:=l) (i:=i) (by omega)
  have hcl:=Xk (L:=l) (i:=i) (by omega)
  have hch:=Xl (L:=l) (i:=i) (by omega)
  have hx:=hb (l.getD i sp0) (by rw[List.getD_eq_getElem?_getD,List.getElem?_eq_getElem (by omega)];exact List.getElem_mem _)
  have hcan:=hcn (l.getD i sp0) (by rw[List.getD_eq_getElem?_getD,List.getElem?_eq_getElem (by omega)];exact List.getElem_mem _)
  generalize l.getD i sp0=x at*
  have c1:=afa x low hcan.1 hcan.2 hx hlo
  generalize (x.out low).can=w at*
  rw[hk0]
  generalize mpT l (fun s=>(s.out low).can) i=A at*
  obtain rfl:A.length=i:=hAl
  simp(disch:=omega)only[go_sem,h1]
  refine qq rfl [⟨0,[],[]⟩,⟨1,[],[]⟩,⟨2,[1],[]⟩,⟨3,[1],[]⟩,⟨4,[1],[]⟩,⟨5,[1,4],[]⟩,⟨6,[1],[]⟩,⟨7,[1],[]⟩,⟨8,[1,4,7],[]⟩,⟨9,[1],[]⟩,⟨10,[],[]⟩,⟨11,[],[]⟩] (by kernel_rfl) ?_
  simp(disch:=omega)only[go_sem,hc]
  refine⟨by omega,by omega,?_⟩
  refine qa (c1) ?_
  simp(disch:=omega)only[go_sem]
  rw[yW]
  exact⟨by omega,by rw[List.length_append,yg,Jr];omega,qe (A.length+1) [] (by show A.length+1≤n*n;omega) (by show n*n-(A.length+1)<k0+1;omega) rfl (by simp(disch:=omega)only[go_sem];try omega) (by simp(disch:=omega)only[go_sem,hk1,hs])⟩
 ·simp(disch:=omega)only[go_sem,h1]
  obtain rfl:i=n*n:=by omega
  have hll:(mpT l (fun s=>(s.out low).can) (n*n)).length=n*n:=qW (by omega)
  rw[hll]
  refine ql [(0,1)] [.own 6 (qj SpV.cs (mpT l (fun s=>(s.out low).can) (n*n)))] [] [.ag [.v (.int .i64 n),.rf 0 0 (n*n)]] rfl (by simp(disch:=omega)only[go_sem]) (by simp(disch:=omega)only[go_sem,Nat.sub_self,Qh,List.append_nil]) (by simp) (by simp) ?_
  show qD _ 6 _=_
  simp(disch:=omega)only[go_sem,qJ,zB hll]
set_option maxRecDepth 100000 in
theorem afh(n:Nat)(l:List SpV)(k:Nat)(low:Int)(hn:n≤4)(hl:l.length=n*n)(hk:k≠0)(hk2:k<2^40)(hcn:∀s∈l,s.lo.can=s.lo∧s.hi.can=s.hi)(hb:sbd (-90000) 10000 l)(hlo: -10000≤low∧low≤10000):Con Tryz.prog 135 false [.ag [.v (.int .i64 (n)),.sl (l).length (qj SpV.cs (l))],.v (.int .i64 k),.v (.int .i64 low)] [] (isA (.ag [.v (.int .i64 n),.sl (l.map (fun s=>SpV.mk (s.lo.over (exN k) low 3).can (s.hi.over (exN k) low 2).can)).length (qj SpV.cs (l.map (fun s=>SpV.mk (s.lo.over (exN k) low 3).can (s.hi.over (exN k) low 2).can)))])):=by
 refine Con.frzA ?_
 have hq:=jr hn
 have c3:=V2 (k:Int) (by omega)
 rw[show decide ((k:Int)<0)=false from decide_eq_false (by omega),Int.natAbs_natCast]at c3
 have hkb:bl k≤40:=qZ.2 hk2
 have c4:=jG false k 0 (by omega) (by omega)
 obtain⟨d,hd⟩:∃d:ExV,d=(exN k).can:=⟨_,rfl⟩
 have hd0:d.m≠0:=by
  rw[hd]
  show oM k≠0
  intro e;exact hk (jD.1 e)
 have hdb:d.bd (-10000) 10000:=by
  rw[hd]
  refine jq ⟨fun h=>rfl,by show(-10000:Int)≤0;omega,by show(bl k:Int)+0≤10000;omega⟩ (by omega) (by omega)
 have hdo:∀(x:ExV) (md:Int),(x.can.over d low md).can=(x.over (exN k) low md).can:=fun x md=>by rw[hd];exact Vo hk
 change Con _ _ _ _ _ (isA (.ag [.v (.bool ((exN k).can).s),.sl (lim ((exN k).can).m).length (qg (lim ((exN k).can).m)),.v (.int .i64 ((exN k).can).e)]))at c4
 rw[←hd]at c4
 clear hd
 have hpost:l.map (fun s=>SpV.mk (s.lo.over (exN k) low 3).can (s.hi.over (exN k) low 2).can)=mpT l (fun s=>SpV.mk (s.lo.over (exN k) low 3).can (s.hi.over (exN k) low 2).can) (n*n):=by rw[←hl];exact ja.symm
 rw[hpost]
 refine Con.of_aw Tryz.func135 rfl Tryz.ntmps135 (by simp) (by simp) (by simp) (W.sound ?_)
 show @W Tryz.prog 47 ⟨_⟩ ⟨fun x σ=>@qY _ _ _ ⟨_⟩ _ ⟨_⟩ x σ⟩ _ _
 simp(disch:=omega)only[go_sem]
 refine qa (c3) ?_
 simp(disch:=omega)only[go_sem]
 refine qa (c4) ?_
 simp(disch:=omega)only[go_sem]
 refine qw (jH n hn) (by simp(disch:=omega)only[go_sem]) ?_
 rintro r hs ⟨rfl,rfl⟩
 refine⟨by simp[qB];simp(disch:=omega)only[go_sem],?_⟩
 simp(disch:=omega)only[go_sem]
 refine qi (fun i:Nat=>[(3,.pt 2 0),(2,.v (.int .i64 low)),(7,.pt 3 0),(6,.pt 4 0),(8,.pt 5 0),(9,.v (.int .i64 i))])
  (fun i=>[(1,.own 6 (qj SpV.cs (mpT l (fun s=>SpV.mk (s.lo.over (exN k) low 3).can (s.hi.over (exN k) low 2).can) i)++zA (n*n-i) z6)),(2,.own 0 [.v (.int .i64 n),.sl l.length (qj SpV.cs l)]),(3,.own 0 [.v (.bool d.s),.sl (lim d.m).length (qg (lim d.m)),.v (.int .i64 d.e)]),(4,.own 0 [.v (.int .i64 0),.v (.slice none 0 0)]),(5,.own 0 [.v (.int .i64 n),.rf 1 0 (n*n)])]) (fun i=>i≤n*n) (fun i=>n*n-i) 0 (by omega)
  (Le.lst [(1,170000000),(2,50000000),(3,90000000),(4,80000000),(5,100000000)] _ _ rfl (by simp(disch:=omega)only[go_sem]) (by simp(disch:=omega)only[go_sem,Nat.sub_zero,show mpT l (fun s=>SpV.mk (s.lo.over (exN k) low 3).can (s.hi.over (exN k) low 2).can) 0=[] from rfl,jX,List.nil_append])) ?_
 intro i hi
 simp(disch:=omega)only[go_sem]
 refine qh (fun h1=>?_) (fun h1=>?_)
 ·have hi2:i<n*n:=by omega
  obtain⟨k0,hk0⟩:∃k0,n*n-i=k0+1:=⟨n*n-i-1,by omega⟩
  have hk1:n*n-(i+1)=k0:=by omega
  have hAl:(mpT l (fun s=>SpV.mk (s.lo.over (exN k) low 3).can (s.hi.over (exN k) low 2).can) i).length=i:=qW (by omega)
  have hs:=zK (F:=fun s=>SpV.mk (s.lo.over (exN k) low 3).can (s.hi.over (exN k) low 2).can) sp0 (l:=l) (i:=i) (by omega)
  have hc:=z8 (l:=l) (i:=i) (by omega)
  have hcl:=Xk (L:=l) (i:=i) (by omega)
  have hch:=Xl (L:=l) (i:=i) (by omega)
  have hx:=hb (l.getD i sp0) (by rw[List.getD_eq_getElem?_getD,List.getElem?_eq_getElem (by omega)];exact List.getElem_mem _)
  have hcan:=hcn (l.getD i sp0) (by rw[List.getD_eq_getElem?_getD,List.getElem?_eq_getElem (by omega)];exact List.getElem_mem _)
  generalize l.getD i sp0=x at*
  have c1:=XO x.lo d low 3 hcan.1 hd0 (by omega) hx.1 hdb hlo
  have c2:=XO x.hi d low 2 hcan.2 hd0 (by omega) hx.2 hdb hlo
  have q1:=hdo x.lo 3
  have q2:=hdo x.hi 2
  rw[hcan.1]at q1
  rw[hcan.2]at q2
  rw[q1]at c1
  rw[q2]at c2
  generalize (x.lo.over (exN k) low 3).can=w1 at*
  generalize (x.hi.over (exN k) low 2).can=w2 at*
  have hfill:=fun(L:List SpV) (k:Nat)=>yW (L:=L) (k:=k) (x:=⟨w1,w2⟩)
  dsimp only at hfill
  rw[hk0]
  generalize mpT l (fun s=>SpV.mk (s.lo.over (exN k) low 3).can (s.hi.over (exN k) low 2).can) i=A at*
  obtain rfl:A.length=i:=hAl
  simp(disch:=omega)only[go_sem,h1]
  refine qq rfl [⟨0,[],[]⟩,⟨1,[],[]⟩,⟨2,[1],[]⟩,⟨3,[1],[]⟩,⟨4,[1],[]⟩,⟨5,[1,4],[]⟩,⟨6,[1],[]⟩,⟨7,[1],[]⟩,⟨8,[1],[]⟩,⟨9,[1,4,8],[]⟩,⟨10,[1,4,8,9],[]⟩,⟨12,[1,4,8,9],[]⟩,⟨13,[1,4,8,9],[]⟩,⟨14,[1,4,8,9,13],[]⟩,⟨15,[1,4,8,9],[]⟩,⟨16,[1,4,8,9],[]⟩,⟨17,[1,4,8,9],[]⟩,⟨18,[1,4,8,9,13,17],[]⟩,⟨19,[1,4,8,9,13,17,18],[]⟩,⟨11,[1,13,17,18],[]⟩,⟨20,[1],[]⟩,⟨21,[1],[]⟩,⟨22,[],[]⟩,⟨23,[],[]⟩] (by kernel_rfl) ?_
  simp(disch:=omega)only[go_sem,hcl,hch]
  refine⟨by omega,by omega,by omega,by omega,?_⟩
  refine qa (c1) ?_
  simp(disch:=omega)only[go_sem]
  refine qa (c2) ?_
  simp(disch:=omega)only[go_sem]
  rw[hfill]
  exact⟨by omega,by rw[List.length_append,yg,Jr];omega,qe (A.length+1) [] (by show A.length+1≤n*n;omega) (by show n*n-(A.length+1)<k0+1;omega) rfl (by simp(disch:=omega)only[go_sem];try omega) (by simp(disch:=omega)only[go_sem,hk1,hs])⟩
 ·simp(disch:=omega)only[go_sem,h1]
  obtain rfl:i=n*n:=by omega
  have hll:(mpT l (fun s=>SpV.mk (s.lo.over (exN k) low 3).can (s.hi.over (exN k) low 2).can) (n*n)).length=n*n:=qW (by omega)
  rw[hll]
  refine ql [(0,1)] [.own 6 (qj SpV.cs (mpT l (fun s=>SpV.mk (s.lo.over (exN k) low 3).can (s.hi.over (exN k) low 2).can) (n*n)))] [] [.ag [.v (.int .i64 n),.rf 0 0 (n*n)]] rfl (by simp(disch:=omega)only[go_sem]) (by simp(disch:=omega)only[go_sem,Nat.sub_self,Qh,List.append_nil]) (by simp) (by simp) ?_
  show qD _ 6 _=_
  simp(disch:=omega)only[go_sem,qJ,zB hll]
set_option maxRecDepth 100000 in
theorem afi(n:Nat)(l l':List SpV)(hn:n≤4)(hl:l.length=n*n)(hl':l'.length=n*n)(hb:sbd (-400000) 400000 l)(hb':sbd (-400000) 400000 l'):Con Tryz.prog 137 false [.ag [.v (.int .i64 (n)),.sl (l).length (qj SpV.cs (l))],.ag [.v (.int .i64 (n)),.sl (l').length (qj SpV.cs (l'))]] [] (isA (.ag [.v (.int .i64 n),.sl (zpT (fun s t=>(s.plus t).can) l l' (n*n)).length (qj SpV.cs (zpT (fun s t=>(s.plus t).can) l l' (n*n)))])):=by
 refine Con.frzA ?_
 have hq:=jr hn
 refine Con.of_aw Tryz.func137 rfl Tryz.ntmps137 (by simp) (by simp) (by simp) (W.sound ?_)
 show @W Tryz.prog 33 ⟨_⟩ ⟨fun x σ=>@qY _ _ _ ⟨_⟩ _ ⟨_⟩ x σ⟩ _ _
 simp(disch:=omega)only[go_sem]
 refine qw (jH n hn) (by simp(disch:=omega)only[go_sem]) ?_
 rintro r hs ⟨rfl,rfl⟩
 refine⟨by simp[qB];simp(disch:=omega)only[go_sem],?_⟩
 simp(disch:=omega)only[go_sem]
 refine qi (fun i:Nat=>[(2,.pt 2 0),(3,.pt 3 0),(4,.pt 4 0),(5,.pt 5 0),(6,.v (.int .i64 i))])
  (fun i=>[(1,.own 6 (qj SpV.cs (zpT (fun s t=>(s.plus t).can) l l' i)++zA (n*n-i) z6)),(2,.own 0 [.v (.int .i64 n),.sl l.length (qj SpV.cs l)]),(3,.own 0 [.v (.int .i64 n),.sl l'.length (qj SpV.cs l')]),(4,.own 0 [.v (.int .i64 0),.v (.slice none 0 0)]),(5,.own 0 [.v (.int .i64 n),.rf 1 0 (n*n)])]) (fun i=>i≤n*n) (fun i=>n*n-i) 0 (by omega)
  (Le.lst [(1,110000000),(2,40000000),(3,50000000),(4,60000000),(5,70000000)] _ _ rfl (by simp(disch:=omega)only[go_sem]) (by simp(disch:=omega)only[go_sem,Nat.sub_zero,show zpT (fun s t=>(s.plus t).can) l l' 0=[] from rfl,jX,List.nil_append])) ?_
 intro i hi
 simp(disch:=omega)only[go_sem]
 refine qh (fun h1=>?_) (fun h1=>?_)
 ·have hi2:i<n*n:=by omega
  obtain⟨k0,hk0⟩:∃k0,n*n-i=k0+1:=⟨n*n-i-1,by omega⟩
  have hk1:n*n-(i+1)=k0:=by omega
  have hAl:(zpT (fun s t=>(s.plus t).can) l l' i).length=i:=afR
  have hs:=akr (F:=fun s t=>(s.plus t).can) (l:=l) (l':=l') (i:=i)
  have hc:=z8 (l:=l) (i:=i) (by omega)
  have hc2:=z8 (l:=l') (i:=i) (by omega)
  have c1:=XN (l.getD i sp0) (l'.getD i sp0) (zD hb (by omega)) (zD hb' (by omega))
  generalize l.getD i sp0=x at*
  generalize l'.getD i sp0=y at*
  generalize (x.plus y).can=w at*
  rw[hk0]
  generalize zpT (fun s t=>(s.plus t).can) l l' i=A at*
  obtain rfl:A.length=i:=hAl
  simp(disch:=omega)only[go_sem,h1]
  refine qq rfl [⟨0,[],[]⟩,⟨1,[],[]⟩,⟨2,[1],[]⟩,⟨3,[1],[]⟩,⟨4,[1],[]⟩,⟨5,[1,4],[]⟩,⟨6,[1],[]⟩,⟨7,[1],[]⟩,⟨8,[1,4,7],[]⟩,⟨9,[1,4,7],[]⟩,⟨10,[1,4,7,9],[]⟩,⟨11,[1,4,7],[]⟩,⟨12,[1,4,7],[]⟩,⟨13,[1],[]⟩,⟨14,[],[]⟩,⟨15,[],[]⟩] (by kernel_rfl) ?_
  simp(disch:=omega)only[go_sem,hc,hc2]
  refine⟨by omega,by omega,by omega,by omega,?_⟩
  refine qa (c1) ?_
  simp(disch:=omega)only[go_sem]
  rw[yW]
  exact⟨by omega,by rw[List.length_append,yg,Jr];omega,qe (A.length+1) [] (by show A.length+1≤n*n;omega) (by show n*n-(A.length+1)<k0+1;omega) rfl (by simp(disch:=omega)only[go_sem];try omega) (by simp(disch:=omega)only[go_sem,hk1,hs])⟩
 ·simp(disch:=omega)only[go_sem,h1]
  obtain rfl:i=n*n:=by omega
  have hll:(zpT (fun s t=>(s.plus t).can) l l' (n*n)).length=n*n:=afR
  rw[hll]
  refine ql [(0,1)] [.own 6 (qj SpV.cs (zpT (fun s t=>(s.plus t).can) l l' (n*n)))] [] [.ag [.v (.int .i64 n),.rf 0 0 (n*n)]] rfl (by simp(disch:=omega)only[go_sem]) (by simp(disch:=omega)only[go_sem,Nat.sub_self,Qh,List.append_nil]) (by simp) (by simp) ?_
  show qD _ 6 _=_
  simp(disch:=omega)only[go_sem,qJ,zB hll]
set_option maxRecDepth 100000 in
theorem acq(n:Nat)(l:List SpV)(h:imatV n l):Con Tryz.prog 62 false [.ag [.v (.int .i64 (n)),.sl (l).length (qj SpV.cs (l))]] [] (isA (.tu [.ag [.v (.int .i64 n),.sl (l.map (fun s=>s)).length (qj SpV.cs (l.map (fun s=>s)))],.v (.bool true)])):=by
 refine Con.frzA ?_
 have hq:=jr h.n4
 have hn:=h.n4
 have hl:=h.len
 have hb:=h.bd
 have cok:=Ka n (l.map SpV.iv) (by rw[List.length_map];exact h.l16) (ah5 h)
 rw[ah6 h,aqH,List.length_map]at cok
 have hpost:l.map (fun s=>s)=mpT l (fun s=>s) (n*n):=by rw[←hl];exact ja.symm
 rw[hpost]
 refine Con.of_aw Tryz.func62 rfl Tryz.ntmps62 (by simp) (by simp) (by simp) (W.sound ?_)
 show @W Tryz.prog 40 ⟨_⟩ ⟨fun x σ=>@qY _ _ _ ⟨_⟩ _ ⟨_⟩ x σ⟩ _ _
 simp(disch:=omega)only[go_sem]
 refine qm (cok) ?_
 simp(disch:=omega)only[go_sem]
 refine qw (jH n hn) (by simp(disch:=omega)only[go_sem]) ?_
 rintro r hs ⟨rfl,rfl⟩
 refine⟨by simp[qB];simp(disch:=omega)only[go_sem],?_⟩
 simp(disch:=omega)only[go_sem]
 refine qi (fun i:Nat=>[(1,.pt 2 0),(2,.pt 3 0),(4,.pt 4 0),(5,.v (.int .i64 i))])
  (fun i=>[(1,.own 6 (qj SpV.cs (mpT l (fun s=>s) i)++zA (n*n-i) z6)),(2,.own 0 [.v (.int .i64 n),.sl l.length (qj SpV.cs l)]),(3,.own 0 [.v (.int .i64 0),.v (.slice none 0 0)]),(4,.own 0 [.v (.int .i64 n),.rf 1 0 (n*n)])]) (fun i=>i≤n*n) (fun i=>n*n-i) 0 (by omega)
  (Le.lst [(1,140000000),(2,30000000),(3,40000000),(4,60000000)] _ _ rfl (by simp(disch:=omega)only[go_sem]) (by simp(disch:=omega)only[go_sem,Nat.sub_zero,show mpT l (fun s=>s) 0=[] from rfl,jX,List.nil_append])) ?_
 intro i hi
 simp(disch:=omega)only[go_sem]
 refine qh (fun h1=>?_) (fun h1=>?_)
 ·have hi2:i<n*n:=by omega
  obtain⟨k0,hk0⟩:∃k0,n*n-i=k0+1:=⟨n*n-i-1,by omega⟩
  have hk1:n*n-(i+1)=k0:=by omega
  have hAl:(mpT l (fun s=>s) i).length=i:=qW (by omega)
  have hs:=zK (F:=fun s=>s) sp0 (l:=l) (i:=i) (by omega)
  have hc:=z8 (l:=l) (i:=i) (by omega)
  have hcl:=Xk (L:=l) (i:=i) (by omega)
  have hch:=Xl (L:=l) (i:=i) (by omega)
  have hxm:l.getD i sp0∈l:=by rw[List.getD_eq_getElem?_getD,List.getElem?_eq_getElem (by omega)];exact List.getElem_mem _
  have hx:=hb (l.getD i sp0) (by rw[List.getD_eq_getElem?_getD,List.getElem?_eq_getElem (by omega)];exact List.getElem_mem _)
  generalize l.getD i sp0=x at*
  obtain⟨-, -,o1,o2⟩:=ac4 (h.ok _ hxm)
  have c1:=ZN x.lo o1
  have c2:=ZN x.hi o2
  rw[hk0]
  generalize mpT l (fun s=>s) i=A at*
  obtain rfl:A.length=i:=hAl
  simp(disch:=omega)only[go_sem,h1]
  refine qq rfl [⟨0,[],[]⟩,⟨1,[],[]⟩,⟨2,[1],[]⟩,⟨3,[1],[]⟩,⟨4,[1],[]⟩,⟨5,[1,4],[]⟩,⟨6,[1],[]⟩,⟨7,[1],[]⟩,⟨8,[1],[]⟩,⟨10,[1,4,8],[]⟩,⟨11,[1,4,8],[]⟩,⟨12,[1,4,8,11],[]⟩,⟨13,[1,4,8],[]⟩,⟨14,[1,4,8],[]⟩,⟨15,[1,4,8],[]⟩,⟨9,[1,11,15],[]⟩,⟨16,[1],[]⟩,⟨17,[1],[]⟩,⟨18,[],[]⟩,⟨19,[],[]⟩] (by kernel_rfl) ?_
  simp(disch:=omega)only[go_sem,hcl,hch]
  refine⟨by omega,by omega,by omega,by omega,?_⟩
  refine qa (c1) ?_
  simp(disch:=omega)only[go_sem]
  refine qa (c2) ?_
  simp(disch:=omega)only[go_sem]
  rw[yW]
  exact⟨by omega,by rw[List.length_append,yg,Jr];omega,qe (A.length+1) [] (by show A.length+1≤n*n;omega) (by show n*n-(A.length+1)<k0+1;omega) rfl (by simp(disch:=omega)only[go_sem];try omega) (by simp(disch:=omega)only[go_sem,hk1,hs])⟩
 ·simp(disch:=omega)only[go_sem,h1]
  obtain rfl:i=n*n:=by omega
  have hll:(mpT l (fun s=>s) (n*n)).length=n*n:=qW (by omega)
  rw[hll]
  refine ql [(0,1)] [.own 6 (qj SpV.cs (mpT l (fun s=>s) (n*n)))] [] [.ag [.v (.int .i64 n),.rf 0 0 (n*n)],.v (.bool true)] rfl (by simp(disch:=omega)only[go_sem]) (by simp(disch:=omega)only[go_sem,Nat.sub_self,Qh,List.append_nil]) (by simp) (by simp) ?_
  show qD _ 6 _=_
  simp(disch:=omega)only[go_sem,qJ,zB hll]
def abb(s t:SpV):SpV:=⟨zj ((qC ExV.times s t).map ExV.can),za ((qC ExV.times s t).map ExV.can)⟩
def csD(n:Nat)(l l':List SpV)(i j:Nat):Nat→SpV
 |0=>sp0
 |k+1=>((csD n l l' i j k).plus (abb (l.getD (i*n+k) sp0) (l'.getD (k*n+j) sp0))).can
theorem KE{lo hi:Int}{s:SpV}(h:s.bd lo hi)(h1:lo≤0)(h2:0≤hi):s.can.bd lo hi:=⟨jq h.1 h1 h2,jq h.2 h1 h2⟩
theorem ahw{s t:SpV}{l1 h1 l2 h2:Int}(hs:s.bd l1 h1)(ht:t.bd l2 h2)(h0:l1+l2≤0∧0≤h1+h2):(abb s t).bd (l1+l2) (h1+h2):=by
 have he:=VU (F:=ExV.times) hs ht (fun x y hx hy=>ExV.times_bd hx hy)
 have hc:gbd (l1+l2) (h1+h2) ((qC ExV.times s t).map ExV.can):=fun x hx=>by
  obtain⟨y,hy,rfl⟩:=List.mem_map.1 hx
  exact jq (he y hy) h0.1 h0.2
 exact⟨ZD hc (by simp[qC]),QS hc (by simp[qC])⟩
theorem app{l1 h1 l2 h2:Int}{n:Nat}{l l':List SpV}{i j:Nat}(hi:i<n)(hj:j<n)(hl:l.length=n*n)(hl':l'.length=n*n)(hb:sbd l1 h1 l)(hb':sbd l2 h2 l')(h0:l1+l2≤0∧0≤h1+h2):∀k:Nat,k≤n→(csD n l l' i j k).bd (l1+l2) (h1+h2+k)
 |0,_=>aoG h0.1 (by omega)
 |k+1,hk=>by
  have ih:=app hi hj hl hl' hb hb' h0 k (by omega)
  have hm:=ahw (zD hb (show i*n+k<l.length by rw[hl];exact q8 hi (by omega))) (zD hb' (show k*n+j<l'.length by rw[hl'];exact q8 (by omega) hj)) h0
  have:=KE (SpV.plus_bd ih (SpV.bd.mono hm (Int.le_refl _) (show h1+h2≤h1+h2+k by omega))) h0.1 (by omega)
  exact SpV.bd.mono this (Int.le_refl _) (by omega)
def scT(n:Nat)(l l':List SpV)(k:Nat):List SpV:=gly n (fun i j=>csD n l l' i j n) k
set_option maxRecDepth 100000 in
theorem XV(n:Nat)(l l':List SpV)(hn:n≤4)(hl:l.length=n*n)(hl':l'.length=n*n)(hb:sbd (-190000) 190000 l)(hb':sbd (-190000) 190000 l'):Con Tryz.prog 136 false [.ag [.v (.int .i64 (n)),.sl (l).length (qj SpV.cs (l))],.ag [.v (.int .i64 (n)),.sl (l').length (qj SpV.cs (l'))]] [] (isA (.ag [.v (.int .i64 (n)),.sl (scT n l l' (n*n)).length (qj SpV.cs (scT n l l' (n*n)))])):=by
 refine Con.frzA ?_
 have hq:=jr hn
 refine Con.of_aw Tryz.func136 rfl Tryz.ntmps136 (by simp) (by simp) (by simp) (W.sound ?_)
 show @W Tryz.prog 61 ⟨_⟩ ⟨fun x σ=>@qY _ _ _ ⟨_⟩ _ ⟨_⟩ x σ⟩ _ _
 simp(disch:=omega)only[go_sem]
 refine qw (jH n hn) (by simp(disch:=omega)only[go_sem]) ?_
 rintro r hs ⟨rfl,rfl⟩
 refine⟨by simp[qB];simp(disch:=omega)only[go_sem],?_⟩
 simp(disch:=omega)only[go_sem]
 refine qi (fun i:Nat=>[(2,.pt 2 0),(3,.pt 3 0),(4,.pt 4 0),(5,.v (.int .i64 n)),(6,.pt 5 0),(7,.v (.int .i64 i))])
  (fun i=>[(1,.own 6 (qj SpV.cs (scT n l l' (i*n))++zA (n*n-i*n) z6)),(2,.own 0 [.v (.int .i64 n),.sl l.length (qj SpV.cs l)]),(3,.own 0 [.v (.int .i64 n),.sl l'.length (qj SpV.cs l')]),(4,.own 0 [.v (.int .i64 0),.v (.slice none 0 0)]),(5,.own 0 [.v (.int .i64 n),.rf 1 0 (n*n)])]) (fun i=>i≤n) (fun i=>n-i) 0 (by omega)
  (Le.lst [(1,160000000),(2,40000000),(3,50000000),(4,60000000),(5,80000000)] _ _ rfl (by simp(disch:=omega)only[go_sem]) (by simp(disch:=omega)only[go_sem,Nat.zero_mul,Nat.sub_zero,show scT n l l' 0=[] from rfl,jX,List.nil_append])) ?_
 intro i hi
 simp(disch:=omega)only[go_sem]
 refine qh (fun h1=>?_) (fun h1=>?_)
 ·simp(disch:=omega)only[go_sem,h1]
  have hin:i*n≤16:=Nat.mul_le_mul (show i≤4 by omega) hn
  refine qi (fun j:Nat=>[(2,.pt 2 0),(3,.pt 3 0),(4,.pt 4 0),(5,.v (.int .i64 n)),(6,.pt 5 0),(7,.v (.int .i64 i)),(8,.v (.int .i64 j))])
   (fun j=>[(1,.own 6 (qj SpV.cs (scT n l l' (i*n+j))++zA (n*n-(i*n+j)) z6)),(2,.own 0 [.v (.int .i64 n),.sl l.length (qj SpV.cs l)]),(3,.own 0 [.v (.int .i64 n),.sl l'.length (qj SpV.cs l')]),(4,.own 0 [.v (.int .i64 0),.v (.slice none 0 0)]),(5,.own 0 [.v (.int .i64 n),.rf 1 0 (n*n)])]) (fun j=>j≤n) (fun j=>n-j) 0 (by omega)
   (Le.lst [] _ _ rfl (by simp(disch:=omega)only[go_sem]) (by simp(disch:=omega)only[go_sem,Nat.add_zero])) ?_
  intro j hj
  simp(disch:=omega)only[go_sem]
  refine qh (fun h2=>?_) (fun h2=>?_)
  ·have hij:=q8 (show i<n by omega) (show j<n by omega)
   obtain⟨k0,hk0⟩:∃k0,n*n-(i*n+j)=k0+1:=⟨n*n-(i*n+j)-1,by omega⟩
   have hk1:n*n-(i*n+(j+1))=k0:=by omega
   have hs:scT n l l' (i*n+(j+1))=scT n l l' (i*n+j)++[csD n l l' i j n]:=by
    have:=@adA _ n (fun i j=>csD n l l' i j n) (i*n+j)
    have m:=K3 (n:=n) (i:=i) (j:=j) (by omega)
    rw[m.1,m.2]at this
    exact this
   have hAl:(scT n l l' (i*n+j)).length=i*n+j:=zX
   have eidx:(i:Int)*(n:Int)+(j:Int)=((scT n l l' (i*n+j)).length:Int):=by rw[hAl,Int.natCast_add,Int.natCast_mul]
   rw[hk0]
   generalize hA:scT n l l' (i*n+j)=A at*
   simp(disch:=omega)only[go_sem,h2]
   refine qi (fun k:Nat=>[(2,.pt 2 0),(3,.pt 3 0),(4,.pt 4 0),(5,.v (.int .i64 n)),(6,.pt 5 0),(7,.v (.int .i64 i)),(8,.v (.int .i64 j)),(9,.pt 6 0),(10,.v (.int .i64 k))])
    (fun k=>[(1,.own 6 (qj SpV.cs A++zA (k0+1) z6)),(2,.own 0 [.v (.int .i64 n),.sl l.length (qj SpV.cs l)]),(3,.own 0 [.v (.int .i64 n),.sl l'.length (qj SpV.cs l')]),(4,.own 0 [.v (.int .i64 0),.v (.slice none 0 0)]),(5,.own 0 [.v (.int .i64 n),.rf 1 0 (n*n)]),
     (6,.own 0 [.v (.bool (csD n l l' i j k).lo.s),.sl (lim (csD n l l' i j k).lo.m).length (qg (lim (csD n l l' i j k).lo.m)),.v (.int .i64 (csD n l l' i j k).lo.e),.v (.bool (csD n l l' i j k).hi.s),.sl (lim (csD n l l' i j k).hi.m).length (qg (lim (csD n l l' i j k).hi.m)),.v (.int .i64 (csD n l l' i j k).hi.e)])])
    (fun k=>k≤n) (fun k=>n-k) 0 (by omega)
    ((Le.nilC 110000000 1 (zo:=0) (cs:=[.v (.bool false),.v (.slice none 0 0),.v (.int .i64 0),.v (.bool false),.v (.slice none 0 0),.v (.int .i64 0)]) (by simp(disch:=omega)only[go_sem]) rfl).trans
     ((Le.nilC 110000000 4 (zo:=0) (cs:=[.v (.bool false),.sl 0 [],.v (.int .i64 0),.v (.bool false),.v (.slice none 0 0),.v (.int .i64 0)]) (by simp(disch:=omega)only[go_sem,List.set_cons_succ,List.set_cons_zero]) rfl).trans (Le.lst [(6,110000000)] _ _ rfl (by simp(disch:=omega)only[go_sem]) (by simp(disch:=omega)only[go_sem,List.set_cons_succ,List.set_cons_zero,show csD n l l' i j 0=sp0 from rfl,sp0,ex0,qr])))) ?_
   intro k hk
   have hD:=app (show i<n by omega) (show j<n by omega) hl hl' hb hb' (by omega) k hk
   have hsd:csD n l l' i j (k+1)=((csD n l l' i j k).plus (abb (l.getD (i*n+k) sp0) (l'.getD (k*n+j) sp0))).can:=rfl
   generalize hDD:csD n l l' i j k=D at*
   simp(disch:=omega)only[go_sem]
   refine qh (fun h3=>?_) (fun h3=>?_)
   ·have hx:=q8 (show i<n by omega) (show k<n by omega)
    have hx':=q8 (show k<n by omega) (show j<n by omega)
    have e1:(i:Int)*(n:Int)+(k:Int)=((i*n+k:Nat):Int):=by rw[Int.natCast_add,Int.natCast_mul]
    have e2:(k:Int)*(n:Int)+(j:Int)=((k*n+j:Nat):Int):=by rw[Int.natCast_add,Int.natCast_mul]
    have hkn:k*n≤16:=Nat.mul_le_mul (show k≤4 by omega) hn
    have hp1:(i:Int)*(n:Int)≤16∧0≤(i:Int)*(n:Int):=by rw[←Int.natCast_mul];omega
    have hp2:(k:Int)*(n:Int)≤16∧0≤(k:Int)*(n:Int):=by rw[←Int.natCast_mul];omega
    have g1:=z8 (l:=l) (i:=i*n+k) (by omega)
    have g2:=z8 (l:=l') (i:=k*n+j) (by omega)
    have b1:=zD hb (show i*n+k<l.length by omega)
    have b2:=zD hb' (show k*n+j<l'.length by omega)
    have l1:i*n+k<l.length:=by omega
    have l2:k*n+j<l'.length:=by omega
    generalize l.getD (i*n+k) sp0=x at*
    generalize l'.getD (k*n+j) sp0=y at*
    generalize i*n+k=p at*
    generalize k*n+j=q at*
    have bt:=ahw b1 b2 (by omega)
    have c1:=afb x y (SpV.bd.mono b1 (by omega) (by omega)) (SpV.bd.mono b2 (by omega) (by omega))
    change Con _ _ _ _ _ (isA (.ag [.v (.bool (abb x y).lo.s),.sl (lim (abb x y).lo.m).length (qg (lim (abb x y).lo.m)),.v (.int .i64 (abb x y).lo.e),.v (.bool (abb x y).hi.s),.sl (lim (abb x y).hi.m).length (qg (lim (abb x y).hi.m)),.v (.int .i64 (abb x y).hi.e)]))at c1
    have c2:=XN D (abb x y) (SpV.bd.mono hD (by omega) (by omega)) (SpV.bd.mono bt (by omega) (by omega))
    rw[←hsd]at c2
    generalize abb x y=Z at*
    simp(disch:=omega)only[go_sem,h3]
    refine qq rfl [⟨0,[],[]⟩,⟨1,[0],[]⟩,⟨2,[0],[]⟩,⟨3,[0,2],[]⟩,⟨4,[0,2],[]⟩,⟨5,[0,2],[]⟩,⟨6,[0,2],[]⟩,⟨7,[0,2],[]⟩,⟨8,[0],[]⟩,⟨9,[0],[]⟩,⟨10,[0,2,9],[]⟩,⟨11,[0,2,9],[]⟩,⟨12,[0,2,9,11],[]⟩,⟨13,[0,2,9,11],[]⟩,⟨14,[0,2,9,11],[]⟩,⟨15,[0,2,9,11],[]⟩,⟨16,[0,2,9,11],[]⟩,⟨17,[0,2,9],[]⟩,⟨18,[0,2,9],[]⟩,⟨19,[0],[]⟩,⟨20,[],[]⟩,⟨21,[],[]⟩] (by kernel_rfl) ?_
    simp(disch:=omega)only[go_sem,e1,e2,g1,g2]
    refine⟨by omega,by omega,by omega,by omega,?_⟩
    refine qa (c1) ?_
    simp(disch:=omega)only[go_sem]
    refine qa (c2) ?_
    simp(disch:=omega)only[go_sem]
    exact qe (k+1) [] (by show k+1≤_;omega) (by show n-(k+1)<n-k;omega) rfl (by simp(disch:=omega)only[go_sem];try omega) (by simp(disch:=omega)only[go_sem])
   ·obtain rfl:n=k:=by omega
    rw[hDD]at hs
    have hp1:(i:Int)*(n:Int)≤16∧0≤(i:Int)*(n:Int):=by rw[←Int.natCast_mul];omega
    have hA2:(A.length:Int)=(i:Int)*(n:Int)+(j:Int):=eidx.symm
    simp(disch:=omega)only[go_sem,h3,eidx]
    rw[yW]
    refine⟨by omega,by rw[List.length_append,yg,Jr];omega,qe (j+1) [] (by show j+1≤_;omega) (by show n-(j+1)<n-j;omega) rfl (by simp(disch:=omega)only[go_sem];try omega) (by simp(disch:=omega)only[go_sem,hk1,hs])⟩
  ·simp(disch:=omega)only[go_sem,h2]
   obtain rfl:n=j:=by omega
   exact qe (i+1) [] (by show i+1≤_;omega) (by show n-(i+1)<n-i;omega) rfl (by simp(disch:=omega)only[go_sem,Nat.add_mul,Nat.one_mul];try omega) (by simp(disch:=omega)only[go_sem,Nat.add_mul,Nat.one_mul])
 ·simp(disch:=omega)only[go_sem,h1]
  obtain rfl:n=i:=by omega
  have hll:(scT n l l' (n*n)).length=n*n:=zX
  rw[hll]
  refine ql [(0,1)] [.own 6 (qj SpV.cs (scT n l l' (n*n)))] [] [.ag [.v (.int .i64 n),.rf 0 0 (n*n)]] rfl (by simp(disch:=omega)only[go_sem]) (by simp(disch:=omega)only[go_sem,Nat.sub_self,Qh,List.append_nil]) (by simp) (by simp) ?_
  show qD _ 6 _=_
  simp(disch:=omega)only[go_sem,qJ,zB hll]
end Go.Ab
namespace Go.Ab
open Go Go.Proofs
/-! ### The specification's exponential-/
theorem acG(x y:ExV):x.can.cmp y.can=x.cmp y:=by
 obtain⟨K,hK⟩:∃K:Nat, -(K:Int)≤x.e∧ -(K:Int)≤y.e:=⟨(max (-x.e) (-y.e)).toNat,by omega,by omega⟩
 rw[ym (jV hK.1) (jV hK.2),ym hK.1 hK.2,jb hK.1,jb hK.2]
theorem Vw(x y:ExV):qT x.can y.can=(qT x y).can:=by
 unfold qT
 rw[acG]
 split<;>rfl
theorem ahP(x y:ExV):qP x.can y.can=(qP x y).can:=by
 unfold qP
 rw[acG]
 split<;>rfl
theorem aak:∀(l:List ExV) (m:ExV),(l.map ExV.can).foldl qT m.can=(l.foldl qT m).can
 | [],m=>rfl
 |x::l,m=>by rw[List.map_cons,List.foldl_cons,Vw,aak l,List.foldl_cons]
theorem aal:∀(l:List ExV) (m:ExV),(l.map ExV.can).foldl qP m.can=(l.foldl qP m).can
 | [],m=>rfl
 |x::l,m=>by rw[List.map_cons,List.foldl_cons,ahP,aal l,List.foldl_cons]
theorem ahx{x:ExV}{l:List ExV}:za ((x::l).map ExV.can)=(za (x::l)).can:=aak l x
theorem aeI{x:ExV}{l:List ExV}:zj ((x::l).map ExV.can)=(zj (x::l)).can:=aal l x
theorem amo(s t:SpV):abb s.can t.can=(s.times t).can:=by
 obtain⟨K,hK⟩:∃K:Nat,(-(K:Int)≤s.lo.e∧ -(K:Int)≤s.hi.e)∧(-(K:Int)≤t.lo.e∧ -(K:Int)≤t.hi.e):=⟨(max (max (-s.lo.e) (-s.hi.e)) (max (-t.lo.e) (-t.hi.e))).toNat,by omega,by omega⟩
 have e:(qC ExV.times s.can t.can).map ExV.can=(qC ExV.times s t).map ExV.can:=by
  show [(s.lo.can.times t.lo.can).can,(s.lo.can.times t.hi.can).can,(s.hi.can.times t.lo.can).can,(s.hi.can.times t.hi.can).can]=[(s.lo.times t.lo).can,(s.lo.times t.hi).can,(s.hi.times t.lo).can,(s.hi.times t.hi).can]
  rw[Zq hK.1.1 hK.2.1,Zq hK.1.1 hK.2.2,Zq hK.1.2 hK.2.1,Zq hK.1.2 hK.2.2]
 unfold abb
 rw[e]
 unfold qC
 rw[ahx,aeI];rfl
theorem Yb(s t:SpV):(s.can.plus t.can).can=(s.plus t).can:=by
 obtain⟨K,hK⟩:∃K:Nat,(-(K:Int)≤s.lo.e∧ -(K:Int)≤s.hi.e)∧(-(K:Int)≤t.lo.e∧ -(K:Int)≤t.hi.e):=⟨(max (max (-s.lo.e) (-s.hi.e)) (max (-t.lo.e) (-t.hi.e))).toNat,by omega,by omega⟩
 show(⟨(s.lo.can.plus t.lo.can).can,(s.hi.can.plus t.hi.can).can⟩:SpV)=⟨(s.lo.plus t.lo).can,(s.hi.plus t.hi).can⟩
 rw[Zy hK.1.1 hK.2.1,Zy hK.1.2 hK.2.2]
theorem agy:sp0.can=sp0:=by
 have:ex0.can=ex0:=ahd aiD
 show(⟨ex0.can,ex0.can⟩:SpV)=⟨ex0,ex0⟩
 rw[this]
theorem Qs{l:List SpV}{i:Nat}:(l.map SpV.can).getD i sp0=(l.getD i sp0).can:=by
 rw[List.getD_eq_getElem?_getD,List.getElem?_map,List.getD_eq_getElem?_getD]
 cases l[i]? with
 |none=>exact agy.symm
 |some x=>rfl
theorem aiS{n:Nat}{l l':List SpV}{i j:Nat}:∀k,csD n (l.map SpV.can) (l'.map SpV.can) i j k=(jB n l l' i j k).can
 |0=>agy.symm
 |k+1=>by
  show((csD n (l.map SpV.can) (l'.map SpV.can) i j k).plus (abb _ _)).can=_
  rw[aiS k,Qs,Qs,amo,Yb,yD]
theorem agH{n:Nat}{l l':List SpV}:scT n (l.map SpV.can) (l'.map SpV.can) (n*n)=(qI n l l').map SpV.can:=by
 unfold scT qI gly
 rw[List.map_map]
 exact List.map_congr_left fun t _=>aiS n
theorem aun{l l':List SpV}{k:Nat}(hk:k=l.length):zpT (fun s t=>(s.plus t).can) (l.map SpV.can) (l'.map SpV.can) k=(yL l l').map SpV.can:=by
 unfold zpT yL
 rw[List.map_map,hk]
 exact List.map_congr_left fun t _=>by
  show(((l.map SpV.can).getD t sp0).plus ((l'.map SpV.can).getD t sp0)).can=_
  rw[Qs,Qs,Yb];rfl
theorem aq9(s:SpV)(low:Int):(s.can.out low).can=(s.out low).can:=by
 show(⟨(s.lo.can.rnd low 3).can,(s.hi.can.rnd low 2).can⟩:SpV)=⟨(s.lo.rnd low 3).can,(s.hi.rnd low 2).can⟩
 rw[Vg,Vg]
theorem abC{x y:ExV}:(x.can.plus y.can.neg).can=(x.plus y.neg).can:=by
 obtain⟨K,hK⟩:∃K:Nat, -(K:Int)≤x.e∧ -(K:Int)≤y.e:=⟨(max (-x.e) (-y.e)).toNat,by omega,by omega⟩
 have e1: -(K:Int)≤y.can.neg.e:=jV hK.2
 have e2: -(K:Int)≤y.neg.e:=hK.2
 exact JC (yk (jV hK.1) e1) (yk hK.1 e2) (by rw[zx (jV hK.1) e1,zx hK.1 e2,Vt,Vt,jb hK.1,jb hK.2])
theorem asO(s:SpV)(y:ExV):(s.can.fat y.can).can=(s.fat y).can:=by
 obtain⟨K,hK⟩:∃K:Nat, -(K:Int)≤s.hi.e∧ -(K:Int)≤y.e:=⟨(max (-s.hi.e) (-y.e)).toNat,by omega,by omega⟩
 show(⟨(s.lo.can.plus y.can.neg).can,(s.hi.can.plus y.can).can⟩:SpV)=⟨(s.lo.plus y.neg).can,(s.hi.plus y).can⟩
 rw[abC,Zy hK.1 hK.2]
theorem KU{K k:Nat}{x y:ExV}{low md:Int}(hmd:md=3∨md=2)(hk:k≠0)(hx: -(K:Int)≤x.e)(hy: -(K:Int)≤y.e)(hl: -(K:Int)≤low)(h:x.val K≤y.val K):(x.over (exN k) low md).val K≤(y.over (exN k) low md).val K:=by
 have hn:(exN k).m≠0:=hk
 have h0: -((0:Nat):Int)≤(exN k).e:=by show-((0:Nat):Int)≤0;omega
 obtain⟨a,b,f,hb,hf,e1,e2,e3⟩:=ZA (mode:=md) hn hx h0 hl
 obtain⟨a',b',f',hb',hf',e1',e2',e3'⟩:=ZA (mode:=md) hn hy h0 hl
 have hv:(exN k).val 0=k:=by show sv false k*2^((0:Int)+((0:Nat):Int)).toNat=k;simp[sv]
 have hva:((((k:Int)).natAbs:Nat):Int)=k:=by omega
 rw[hv]at e1 e3 e1' e3'
 rw[hva]at e3 e3'
 have hbf:(b:Int)*f=b'*f':=by rw[←e3,←e3']
 have key:∀(s:Bool) (a b:Nat),0<b→(sv s 1*((rq s a b md*b:Nat):Int)≤sv s 1*(a:Int)∧sv s 1*(a:Int)<sv s 1*((rq s a b md*b:Nat):Int)+b∧md=3)∨(sv s 1*(a:Int)≤sv s 1*((rq s a b md*b:Nat):Int)∧sv s 1*((rq s a b md*b:Nat):Int)<sv s 1*(a:Int)+b∧md=2):=fun s a b hb=>by
  have h1:=Nat.div_add_mod a b
  have h2:=Nat.mod_lt a hb
  have h3:a/b*b=b*(a/b):=Nat.mul_comm _ _
  have h4:(a/b+1)*b=b*(a/b)+b:=by rw[Nat.add_mul,Nat.one_mul,Nat.mul_comm]
  have dn:∀Q:Nat,Q≤a→a<Q+b→sv false 1*(Q:Int)≤sv false 1*(a:Int)∧sv false 1*(a:Int)<sv false 1*(Q:Int)+b∧sv true 1*(a:Int)≤sv true 1*(Q:Int)∧sv true 1*(Q:Int)<sv true 1*(a:Int)+b:=fun Q p1 p2=>by
   simp only[sv,if_true,if_false,Bool.false_eq_true];omega
  have up:∀Q:Nat,a≤Q→Q<a+b→sv false 1*(a:Int)≤sv false 1*(Q:Int)∧sv false 1*(Q:Int)<sv false 1*(a:Int)+b∧sv true 1*(Q:Int)≤sv true 1*(a:Int)∧sv true 1*(a:Int)<sv true 1*(Q:Int)+b:=fun Q p1 p2=>by
   simp only[sv,if_true,if_false,Bool.false_eq_true];omega
  rcases hmd with rfl|rfl
  ·left
   rw[agQ]
   unfold upQ
   cases s
   ·rw[if_neg (by simp),h3]
    have:=dn (b*(a/b)) (by omega) (by omega)
    exact⟨this.1,this.2.1,rfl⟩
   ·rw[if_pos rfl]
    split
    ·rw[h3]
     have:=up (b*(a/b)) (by omega) (by omega)
     exact⟨this.2.2.1,this.2.2.2,rfl⟩
    ·rw[h4]
     have:=up (b*(a/b)+b) (by omega) (by omega)
     exact⟨this.2.2.1,this.2.2.2,rfl⟩
  ·right
   rw[auZ]
   unfold upQ
   cases s
   ·rw[if_neg (by simp)]
    split
    ·rw[h3]
     have:=up (b*(a/b)) (by omega) (by omega)
     exact⟨this.1,this.2.1,rfl⟩
    ·rw[h4]
     have:=up (b*(a/b)+b) (by omega) (by omega)
     exact⟨this.1,this.2.1,rfl⟩
   ·rw[if_pos rfl,h3]
    have:=dn (b*(a/b)) (by omega) (by omega)
    exact⟨this.2.2.1,this.2.2.2,rfl⟩
 have es:∀z:ExV,(z.s != (exN k).s)=z.s:=fun z=>by show(z.s != false)=z.s;cases z.s<;>rfl
 rw[es]at e1 e1'
 have kx:=key x.s a b hb
 have ky:=key y.s a' b' hb'
 rcases Int.lt_or_le ((y.over (exN k) low md).val K) ((x.over (exN k) low md).val K)with g|g
 ·exfalso
  have hp:=ze K
  have hkp:(0:Int)<k:=by omega
  have g1:((y.over (exN k) low md).val K+p2 (low+(K:Int)).toNat)≤(x.over (exN k) low md).val K:=by
   have v:∀z:ExV,∃q:Int,(z.over (exN k) low md).val K=q*p2 (low+(K:Int)).toNat:=fun z=>⟨_,rfl⟩
   obtain⟨q1,v1⟩:=v x
   obtain⟨q2,v2⟩:=v y
   rw[v1,v2]at g ⊢
   have hpl:=ze (low+(K:Int)).toNat
   have:=Int.lt_of_mul_lt_mul_right g (Int.le_of_lt hpl)
   have:=Int.mul_le_mul_of_nonneg_right (show q2+1≤q1 by omega) (Int.le_of_lt hpl)
   rw[Int.add_mul,Int.one_mul]at this
   exact this
  have g2:=Int.mul_le_mul_of_nonneg_right g1 (Int.le_of_lt (Int.mul_pos hkp hp))
  have u:(k:Int)*p2 ((low+(K:Int)).toNat+K)=b*f:=e3
  have u1:((y.over (exN k) low md).val K+p2 (low+(K:Int)).toNat)*(k*p2 K)=(y.over (exN k) low md).val K*k*p2 K+b*f:=by rw[←u,zH];grind
  have u2:(x.over (exN k) low md).val K*(k*p2 K)=(x.over (exN k) low md).val K*k*p2 K:=by rw[Int.mul_assoc]
  rw[u1,u2,e1,e1']at g2
  have hxy:x.val K*p2 (0+K)≤y.val K*p2 (0+K):=Int.mul_le_mul_of_nonneg_right h (Int.le_of_lt (ze _))
  rw[e2,e2']at hxy
  have m1:∀p q:Int,p≤q→p*f≤q*f:=fun p q hpq=>Int.mul_le_mul_of_nonneg_right hpq (Int.le_of_lt hf)
  have m2:∀p q:Int,p≤q→p*f'≤q*f':=fun p q hpq=>Int.mul_le_mul_of_nonneg_right hpq (Int.le_of_lt hf')
  have m3:∀p q:Int,p<q→p*f<q*f:=fun p q hpq=>Int.mul_lt_mul_of_pos_right hpq hf
  have m4:∀p q:Int,p<q→p*f'<q*f':=fun p q hpq=>Int.mul_lt_mul_of_pos_right hpq hf'
  have a1:sv x.s 1*((rq x.s a b md*b:Nat)*f)=sv x.s 1*((rq x.s a b md*b:Nat):Int)*f:=(Int.mul_assoc _ _ _).symm
  have a2:sv x.s 1*(a*f)=sv x.s 1*(a:Int)*f:=(Int.mul_assoc _ _ _).symm
  have a3:sv y.s 1*((rq y.s a' b' md*b':Nat)*f')=sv y.s 1*((rq y.s a' b' md*b':Nat):Int)*f':=(Int.mul_assoc _ _ _).symm
  have a4:sv y.s 1*(a'*f')=sv y.s 1*(a':Int)*f':=(Int.mul_assoc _ _ _).symm
  rw[a1,a3]at g2
  rw[a2,a4]at hxy
  rcases kx with⟨c1,c2,c3⟩|⟨c1,c2,c3⟩<;>rcases ky with⟨d1,d2,d3⟩|⟨d1,d2,d3⟩<;>first|omega|skip
  ·have:=m1 _ _ c1
   have:=m4 _ _ d2
   rw[Int.add_mul]at this
   omega
  ·have:=m2 _ _ d1
   have:=m3 _ _ c2
   rw[Int.add_mul]at this
   omega
 ·exact g
theorem ant{K k:Nat}{s:SpV}{low:Int}(hk:k≠0)(hl: -(K:Int)≤low)(es:s.eK K)(h:s.lo.val K≤s.hi.val K):(SpV.mk (s.can.lo.over (exN k) low 3).can (s.can.hi.over (exN k) low 2).can)=(s.divd k low).can:=by
 have hn:(exN k).m≠0:=hk
 have oc:∀(x:ExV) (md:Int),(x.can.over (exN k) low md).can=(x.over (exN k) low md).can:=fun x md=>by
  have a:=@Vo x (exN k) low md hn
  have b:=@Vo x.can (exN k) low md hn
  rw[Jo]at b
  rw[←b,a]
 show(⟨(s.lo.can.over (exN k) low 3).can,(s.hi.can.over (exN k) low 2).can⟩:SpV)=⟨(zj (qC (fun x y=>x.over y low 3) s ⟨exN k,exN k⟩)).can,(za (qC (fun x y=>x.over y low 2) s ⟨exN k,exN k⟩)).can⟩
 rw[oc,oc]
 have eo:∀(x:ExV) (md:Int), -(K:Int)≤(x.over (exN k) low md).e:=fun x md=>hl
 have m3:=KU (low:=low) (md:=3) (.inl rfl) hk es.1 es.2 hl h
 have m2:=KU (low:=low) (md:=2) (.inr rfl) hk es.1 es.2 hl h
 have e3:Go.Ab.eK K (qC (fun x y=>x.over y low 3) s ⟨exN k,exN k⟩):=fun x hx=>by
  simp only[qC,List.mem_cons,List.not_mem_nil,or_false]at hx
  rcases hx with rfl|rfl|rfl|rfl<;>exact eo _ _
 have e2:Go.Ab.eK K (qC (fun x y=>x.over y low 2) s ⟨exN k,exN k⟩):=fun x hx=>by
  simp only[qC,List.mem_cons,List.not_mem_nil,or_false]at hx
  rcases hx with rfl|rfl|rfl|rfl<;>exact eo _ _
 obtain⟨l1,l2⟩:=yH e3
 obtain⟨u1,u2⟩:=QA e2
 have lm:=Z6 (l:=qC (fun x y=>x.over y low 3) s ⟨exN k,exN k⟩) (by simp[qC])
 have um:=Yn (l:=qC (fun x y=>x.over y low 2) s ⟨exN k,exN k⟩) (by simp[qC])
 have la:=l1 (s.lo.over (exN k) low 3) (by simp[qC])
 have ua:=u1 (s.hi.over (exN k) low 2) (by simp[qC])
 have lb:(s.lo.over (exN k) low 3).val K≤(zj (qC (fun x y=>x.over y low 3) s ⟨exN k,exN k⟩)).val K:=by
  simp only[qC,List.mem_cons,List.not_mem_nil,or_false]at lm
  unfold qC
  dsimp only
  rcases lm with e|e|e|e<;>rw[e]<;>first|exact Int.le_refl _|exact m3
 have ub:(za (qC (fun x y=>x.over y low 2) s ⟨exN k,exN k⟩)).val K≤(s.hi.over (exN k) low 2).val K:=by
  simp only[qC,List.mem_cons,List.not_mem_nil,or_false]at um
  unfold qC
  dsimp only
  rcases um with e|e|e|e<;>rw[e]<;>first|exact Int.le_refl _|exact m2
 rw[JC (eo _ _) l2 (Int.le_antisymm lb la),JC (eo _ _) u2 (Int.le_antisymm ua ub)]
end Go.Ab
namespace Go.Ab
open Go Go.Proofs
/-! ### The specification's own simp(disch:=omega)only[go_sem] to the exponential:sizes and numbers of steps-/
theorem KN(x y:ExV):(x.can.plus y).can=(x.plus y).can:=by
 obtain⟨K,hK⟩:∃K:Nat, -(K:Int)≤x.e∧ -(K:Int)≤y.e:=⟨(max (-x.e) (-y.e)).toNat,by omega,by omega⟩
 exact JC (yk (jV hK.1) hK.2) (yk hK.1 hK.2) (by rw[zx (jV hK.1) hK.2,zx hK.1 hK.2,jb hK.1])
theorem VT:ex0.can=ex0:=ahd aiD
def csN(n:Nat)(l:List ExV)(j:Nat):Nat→ExV
 |0=>ex0
 |k+1=>((csN n l j k).plus (l.getD (k*n+j) ex0).abs).can
def nsN(n:Nat)(l:List ExV):Nat→ExV
 |0=>ex0
 |j+1=>qT (nsN n l j) (csN n l j n)
theorem ab0{n:Nat}{l:List ExV}{j:Nat}:∀k,csN n l j k=(aa2 n l j k).can
 |0=>VT.symm
 |k+1=>by
  show((csN n l j k).plus _).can=_
  rw[ab0 k,KN,YW]
theorem Ym{n:Nat}{l:List ExV}:∀j,nsN n l j=(qR n l j).can
 |0=>VT.symm
 |j+1=>by
  show qT (nsN n l j) _=_
  rw[Ym j,ab0,Vw,QR];rfl
theorem YL(x:ExV)(hx:(lim x.m).length≤2^39):Con Tryz.prog 151 false [.ag [.v (.bool (x).s),.sl (lim (x).m).length (qg (lim (x).m)),.v (.int .i64 (x).e)]] [] (isA (.ag [.v (.bool (x.abs).s),.sl (lim (x.abs).m).length (qg (lim (x.abs).m)),.v (.int .i64 (x.abs).e)])):=by
 refine Con.frzA ?_
 have c:=qQ false x.m hx
 rw[Bool.false_and]at c
 unfold ExV.abs
 refine Con.of_w (rs:=[.cell 2 44]) Tryz.func151 rfl Tryz.ntmps151 rfl ?_
 simp(disch:=omega)only[go_sem]
 refine qq rfl [⟨0,[],[]⟩,⟨1,[],[]⟩,⟨2,[],[]⟩,⟨4,[2],[]⟩,⟨5,[2],[]⟩,⟨3,[5],[]⟩,⟨6,[],[]⟩,⟨7,[],[]⟩] (by kernel_rfl) ?_
 simp(disch:=omega)only[go_sem]
 refine qa (c) ?_
 simp(disch:=omega)only[go_sem]
 exact qn
set_option maxRecDepth 100000 in
theorem Jk(n:Nat)(l:List ExV)(hn:n≤4)(hl:l.length=n*n)(hb:gbd (-390000) 390000 l):Con Tryz.prog 93 false [.ag [.v (.int .i64 (n)),.sl (l).length (qj ExV.cs (l))]] [] (isA (.ag [.v (.bool ((qR n l n).can).s),.sl (lim ((qR n l n).can).m).length (qg (lim ((qR n l n).can).m)),.v (.int .i64 ((qR n l n).can).e)])):=by
 refine Con.frzA ?_
 have hq:=jr hn
 rw[←Ym]
 refine Con.of_w (rs:=[.cell 2 44]) Tryz.func93 rfl Tryz.ntmps93 rfl ?_
 simp(disch:=omega)only[go_sem]
 refine qi (fun j:Nat=>[(1,.pt 1 0),(2,.pt 2 0),(3,.pt 3 0),(4,.v (.int .i64 j))])
  (fun j=>[(1,.own 0 [.v (.int .i64 n),.sl l.length (qj ExV.cs l)]),(2,.own 0 [.v (.bool false),.v (.slice none 0 0),.v (.int .i64 0)]),(3,.own 0 [.v (.bool (nsN n l j).s),.sl (lim (nsN n l j).m).length (qg (lim (nsN n l j).m)),.v (.int .i64 (nsN n l j).e)])]) (fun j=>j≤n) (fun j=>n-j) 0 (by omega)
  ((Le.nilC 50000000 1 (zo:=0) (cs:=[.v (.bool false),.v (.slice none 0 0),.v (.int .i64 0)]) (by simp(disch:=omega)only[go_sem]) rfl).trans (Le.lst [(1,30000000),(2,40000000),(3,50000000)] _ _ rfl (by simp(disch:=omega)only[go_sem]) (by simp(disch:=omega)only[go_sem,List.set_cons_succ,List.set_cons_zero,show nsN n l 0=ex0 from rfl,ex0,qr]))) ?_
 intro j hj
 have hN:(nsN n l j).bd (-390000) 390004:=by
  rw[Ym]
  have:=jh hl hb (by omega) j hj
  exact(jq this (by omega) (by omega)).mono (by omega) (by omega)
 have hNs:nsN n l (j+1)=qT (nsN n l j) (csN n l j n):=rfl
 generalize hNN:nsN n l j=A at*
 simp(disch:=omega)only[go_sem]
 refine qh (fun h1=>?_) (fun h1=>?_)
 ·simp(disch:=omega)only[go_sem,h1]
  refine qi (fun k:Nat=>[(1,.pt 1 0),(2,.pt 2 0),(3,.pt 3 0),(4,.v (.int .i64 j)),(5,.pt 4 0),(6,.v (.int .i64 k))])
   (fun k=>[(1,.own 0 [.v (.int .i64 n),.sl l.length (qj ExV.cs l)]),(2,.own 0 [.v (.bool false),.v (.slice none 0 0),.v (.int .i64 0)]),(3,.own 0 [.v (.bool A.s),.sl (lim A.m).length (qg (lim A.m)),.v (.int .i64 A.e)]),(4,.own 0 [.v (.bool (csN n l j k).s),.sl (lim (csN n l j k).m).length (qg (lim (csN n l j k).m)),.v (.int .i64 (csN n l j k).e)])]) (fun k=>k≤n) (fun k=>n-k) 0 (by omega)
   ((Le.nilC 70000000 1 (zo:=0) (cs:=[.v (.bool false),.v (.slice none 0 0),.v (.int .i64 0)]) (by simp(disch:=omega)only[go_sem]) rfl).trans (Le.lst [(4,70000000)] _ _ rfl (by simp(disch:=omega)only[go_sem]) (by simp(disch:=omega)only[go_sem,List.set_cons_succ,List.set_cons_zero,show csN n l j 0=ex0 from rfl,ex0,qr]))) ?_
  intro k hk
  have hC:(csN n l j k).bd (-390000) 390004:=by
   rw[ab0]
   have:=acE (k:=k) (show j<n by omega) hk hl hb (by omega)
   exact(jq this (by omega) (by omega)).mono (by omega) (by omega)
  have hCs:csN n l j (k+1)=((csN n l j k).plus (l.getD (k*n+j) ex0).abs).can:=rfl
  generalize hCC:csN n l j k=D at*
  simp(disch:=omega)only[go_sem]
  refine qh (fun h2=>?_) (fun h2=>?_)
  ·have hx:=q8 (show k<n by omega) (show j<n by omega)
   have e1:(k:Int)*(n:Int)+(j:Int)=((k*n+j:Nat):Int):=by rw[Int.natCast_add,Int.natCast_mul]
   have hp1:(k:Int)*(n:Int)≤16∧0≤(k:Int)*(n:Int):=by rw[←Int.natCast_mul];omega
   have g1:=zM (l:=l) (i:=k*n+j) (by omega)
   have b1:=zE hb (show k*n+j<l.length by omega)
   have l1:k*n+j<l.length:=by omega
   generalize l.getD (k*n+j) ex0=x at*
   generalize k*n+j=p at*
   have c1:=YL x (by have:=qv (m:=x.m) (B:=800000) (by have:=b1.2;omega);omega)
   have c2:=jp D x.abs (hC.mono (by omega) (by omega)) (ExV.abs_bd (b1.mono (by omega) (by omega)))
   rw[←hCs]at c2
   simp(disch:=omega)only[go_sem,h2]
   refine qq rfl [⟨0,[],[]⟩,⟨1,[0],[]⟩,⟨2,[0],[]⟩,⟨3,[0,2],[]⟩,⟨4,[0,2],[]⟩,⟨5,[0,2],[]⟩,⟨6,[0,2],[]⟩,⟨7,[0,2,5],[]⟩,⟨8,[0,2],[]⟩,⟨9,[0],[]⟩,⟨10,[0],[]⟩,⟨11,[0],[]⟩,⟨12,[],[]⟩,⟨13,[],[]⟩] (by kernel_rfl) ?_
   simp(disch:=omega)only[go_sem,e1,g1]
   refine⟨by omega,by omega,?_⟩
   refine qa (c1) ?_
   simp(disch:=omega)only[go_sem]
   refine qa (c2) ?_
   simp(disch:=omega)only[go_sem]
   exact qe (k+1) [] (by show k+1≤_;omega) (by show n-(k+1)<n-k;omega) rfl (by simp(disch:=omega)only[go_sem];try omega) (by simp(disch:=omega)only[go_sem])
  ·obtain rfl:n=k:=by omega
   rw[hCC]at hNs
   have cm:=Zm A D (hN.mono (by omega) (by omega)) (hC.mono (by omega) (by omega))
   rw[←hNs]at cm
   simp(disch:=omega)only[go_sem,h2]
   refine qa (cm) ?_
   simp(disch:=omega)only[go_sem]
   exact qe (j+1) [] (by show j+1≤_;omega) (by show n-(j+1)<n-j;omega) rfl (by simp(disch:=omega)only[go_sem];try omega) (by simp(disch:=omega)only[go_sem])
 ·simp(disch:=omega)only[go_sem,h1]
  obtain rfl:n=j:=by omega
  rw[hNN]
  exact qn
end Go.Ab
namespace Go.Ab
open Go Go.Proofs
theorem ajX{a:Nat}(h:a≠0)(k:Nat):bl (a*2^k)=bl a+k:=by
 have h1:a<2^bl a:=qZ.1 (Nat.le_refl _)
 have h2:a*2^k<2^bl (a*2^k):=qZ.1 (Nat.le_refl _)
 have hp:0<2^k:=Nat.pow_pos (by decide)
 have u:bl (a*2^k)≤bl a+k:=qZ.2 (by rw[Nat.pow_add];exact Nat.mul_lt_mul_of_pos_right h1 hp)
 have hk:k≤bl (a*2^k):=by
  rcases Nat.lt_or_ge (bl (a*2^k)) k with c|c
  ·have g1:2^bl (a*2^k)≤2^k:=Nat.pow_le_pow_right (by omega) (by omega)
   have g2:1*2^k≤a*2^k:=Nat.mul_le_mul_right _ (by omega)
   omega
  ·exact c
 have l:bl a≤bl (a*2^k)-k:=qZ.2 (by
  have e:bl (a*2^k)=(bl (a*2^k)-k)+k:=by omega
  rw[e,Nat.pow_add]at h2
  exact Nat.lt_of_mul_lt_mul_right h2)
 omega
theorem YM(x:ExV)(h:x.bd (-400000) 400000):Con Tryz.prog 94 false [.ag [.v (.bool (x.s)),.sl (lim (x.m)).length (qg (lim (x.m)))],.v (.int .i64 x.e)] [] (isA (.ag [.v (.bool (x.can).s),.sl (lim (x.can).m).length (qg (lim (x.can).m)),.v (.int .i64 (x.can).e)])):=by
 obtain⟨a,b,c⟩:=h
 exact jG x.s x.m x.e (by omega) (by omega)
theorem YO:Con Tryz.prog 95 false [.v (.int .i64 1)] [] (isA (.ag [.v (.bool (false)),.sl (lim (1)).length (qg (lim (1)))])):=V2 1 (by omega)
def pwE(k:Int):ExV:=⟨false,1,k⟩
theorem abu{k:Int}:(pwE k).can=pwE k:=by
 have h0:oM 1*2^tz 1=1:=Jw
 have h1:oM 1=1:=Nat.eq_one_of_mul_eq_one_right h0
 have h2:2^tz 1=1:=Nat.eq_one_of_mul_eq_one_left h0
 have h3:tz 1=0:=by
  rcases Nat.eq_zero_or_pos (tz 1)with c|c
  ·exact c
  ·have:2^1≤2^tz 1:=Nat.pow_le_pow_right (by omega) c
   omega
 show(⟨oS false 1,oM 1,oE 1 k⟩:ExV)=⟨false,1,k⟩
 have h4:oE 1 k=k:=by
  unfold oE
  rw[if_neg (by decide),h3];omega
 rw[h1,h4];rfl
theorem ag0{k lo hi:Int}(h1:lo≤k)(h2:1+k≤hi):(pwE k).bd lo hi:=⟨fun _=>rfl,h1,by show(bl 1:Int)+k≤hi;have:bl 1≤1:=qZ.2 (by decide);omega⟩
theorem V1(k:Int)(h: -300000≤k∧k≤300000):Con Tryz.prog 94 false [.ag [.v (.bool (false)),.sl (lim (1)).length (qg (lim (1)))],.v (.int .i64 k)] [] (isA (.ag [.v (.bool (pwE k).s),.sl (lim (pwE k).m).length (qg (lim (pwE k).m)),.v (.int .i64 (pwE k).e)])):=by
 have:=YM (pwE k) (ag0 (by omega) (by omega))
 rw[abu]at this
 exact this
set_option maxRecDepth 100000 in
theorem anQ(n:Nat)(hn:n≤4):Con Tryz.prog 42 false [.v (.int .i64 n)] [] (isA (.ag [.v (.int .i64 (n)),.sl (gId n).length (qj ExV.cs (gId n))])):=by
 refine Con.frzA ?_
 have hq:=jr hn
 have hg:gId n=dgE n (pwE 0):=by
  rcases(show n=0∨n=1∨n=2∨n=3∨n=4 by omega)with rfl|rfl|rfl|rfl|rfl<;>rfl
 have hgl:(dgE n (pwE 0)).length=n*n:=by show(List.map _ _).length=_;rw[List.length_map,abZ]
 have hz0:qj ocs (dgO n (pwE 0) 0)=zA (n*n) z3:=alZ.symm
 have cp:=V1 0 (by omega)
 rw[hg]
 generalize hy:pwE 0=y at*
 refine Con.of_aw Tryz.func42 rfl Tryz.ntmps42 (by simp) (by simp) (by simp) (W.sound ?_)
 show @W Tryz.prog 23 ⟨_⟩ ⟨fun x σ=>@qY _ _ _ ⟨_⟩ _ ⟨_⟩ x σ⟩ _ _
 simp(disch:=omega)only[go_sem]
 refine qw (QH n hn) (by simp(disch:=omega)only[go_sem]) ?_
 rintro r hs ⟨rfl,rfl⟩
 refine⟨by simp[qB];simp(disch:=omega)only[go_sem],?_⟩
 simp(disch:=omega)only[go_sem]
 refine qi (fun i:Nat=>[(0,.v (.int .i64 n)),(2,.pt 2 0),(3,.pt 3 0),(4,.v (.int .i64 i))])
  (fun i=>[(1,.own 3 (qj ocs (dgO n y i))),(2,.own 0 [.v (.int .i64 0),.v (.slice none 0 0)]),(3,.own 0 [.v (.int .i64 n),.rf 1 0 (n*n)])]) (fun i=>i≤n) (fun i=>n-i) 0 (by omega)
  (Le.lst [(1,80000000),(2,40000000),(3,50000000)] _ _ rfl (by simp(disch:=omega)only[go_sem]) (by simp(disch:=omega)only[go_sem,hz0];try rfl)) ?_
 intro i hi
 simp(disch:=omega)only[go_sem]
 refine qh (fun c1=>?_) (fun c1=>?_)
 ·have hi2:i<n:=by omega
  have hx:=q8 hi2 hi2
  have hl:=@abZ n i y
  have hset:=arj (l:=dgO n y i) (i:=i*n+i) (x:=y) (by omega)
  have e1:(i:Int)*n+i=((i*n+i:Nat):Int):=by rw[Int.natCast_add,Int.natCast_mul]
  have hp1:(i:Int)*(n:Int)≤16∧0≤(i:Int)*(n:Int):=by
   have:i*n≤n*n:=Nat.mul_le_mul_right _ (by omega)
   rw[←Int.natCast_mul];omega
  simp(disch:=omega)only[go_sem,c1]
  refine qq rfl [⟨0,[],[]⟩,⟨1,[],[]⟩,⟨2,[1],[]⟩,⟨3,[1],[]⟩,⟨4,[1],[]⟩,⟨5,[1],[]⟩,⟨6,[1],[]⟩,⟨7,[1],[]⟩,⟨8,[1],[]⟩,⟨9,[],[]⟩,⟨10,[],[]⟩] (by kernel_rfl) ?_
  simp(disch:=omega)only[go_sem,e1]
  refine qa (YO) ?_
  simp(disch:=omega)only[go_sem]
  refine qa (cp) ?_
  simp(disch:=omega)only[go_sem]
  rw[hset]
  exact⟨⟨by omega,by omega⟩,by rw[hl];omega,qe (i+1) [] (by show i+1≤n;omega) (by show n-(i+1)<n-i;omega) rfl (by simp(disch:=omega)only[go_sem];try omega) (by simp(disch:=omega)only[go_sem,dgO])⟩
 ·simp(disch:=omega)only[go_sem,c1]
  obtain rfl:i=n:=by omega
  have hcut:cut (qj ocs (dgO i y i)) 0 (i*i*3)=qj ocs (dgO i y i):=by
   unfold cut
   rw[List.drop_zero,List.take_of_length_le (by rw[ahh,abZ];exact Nat.le_refl _)]
  refine ql [(0,1)] [.own 3 (qj ocs (dgO i y i))] [] [.ag [.v (.int .i64 i),.rf 0 0 (i*i)]] rfl (by simp(disch:=omega)only[go_sem]) (by simp(disch:=omega)only[go_sem]) (by simp) (by simp) ?_
  show qD _ 6 _=_
  rw[hgl]
  simp(disch:=omega)only[go_sem,qJ,hcut,al0]
  rfl
theorem XU(n:Nat)(L:List ExV)(hn:n≤4)(hl:L.length=n*n):Con Tryz.prog 133 false [.ag [.v (.int .i64 (n)),.sl (L).length (qj ExV.cs (L))]] [] (isA (.ag [.v (.int .i64 (n)),.sl (L.map ptS).length (qj SpV.cs (L.map ptS))])):=by
 refine Con.frzA ((ajo n L hn hl).mono ?_)
 rintro r hs bs ⟨rfl,rfl⟩
 show qD _ 6 _=_
 have e:n*n=(L.map ptS).length:=by rw[List.length_map,hl]
 rw[e]
 have hcut:cut (qj SpV.cs (L.map ptS)) 0 ((L.map ptS).length*6)=qj SpV.cs (L.map ptS):=by
  unfold cut
  rw[List.drop_zero,List.take_of_length_le (by rw[yg];exact Nat.le_refl _)]
 simp(disch:=omega)only[go_sem,qJ,hcut,ac3]
theorem acp(n:Nat)(hn:n≤402)(h1:1≤n):Con Tryz.prog 209 false [.v (.int .i64 n)] [] (isA (.ag [.sl (lim (fct n)).length (qg (lim (fct n)))])):=by
 refine Con.frzA ?_
 have c1:Con Tryz.prog 180 false [.v (.int .i64 1)] [] (isA (.ag [.sl (lim (fct 1)).length (qg (lim (fct 1)))])):=zF 1 (by omega)
 refine Con.of_w (rs:=[.cell 2 40]) Tryz.func209 rfl Tryz.ntmps209 rfl ?_
 simp(disch:=omega)only[go_sem]
 refine qa (c1) ?_
 simp(disch:=omega)only[go_sem]
 refine qi (fun k:Nat=>[(0,.v (.int .i64 n)),(2,.pt 2 0),(3,.pt 3 0),(4,.v (.int .i64 ((k:Int)+1)))]) (fun k=>[(2,.own 0 [.v (.slice none 0 0)]),(3,.own 0 [.sl (lim (fct k)).length (qg (lim (fct k)))])]) (fun k=>1≤k∧k≤n) (fun k=>n-k) 1 (by omega)
  (Le.lst [(2,40000000),(3,50000000)] _ _ rfl (by simp(disch:=omega)only[go_sem,show((1:Nat):Int)+1=2 from rfl,show(1:Int)+1=2 from rfl]) (by simp(disch:=omega)only[go_sem])) ?_
 rintro k ⟨hk1,hk⟩
 have b1:=aam k (by omega)
 have l1:=qv b1
 have l2:=qv (m:=k+1) (B:=9) (qZ.2 (by omega))
 have e1:(k:Int)+1=((k+1:Nat):Int):=by omega
 have e2:fct k*(k+1)=fct (k+1):=Nat.mul_comm _ _
 have cs:=zF (k+1) (by omega)
 rw[←e1]at cs
 have cm:=ye (fct k) (k+1) (by omega) (by omega)
 rw[e2]at cm
 generalize hK:fct k=FK at*
 generalize hK1:fct (k+1)=FK1 at*
 simp(disch:=omega)only[go_sem]
 refine qh (fun h2=>?_) (fun h2=>?_)
 ·simp(disch:=omega)only[go_sem,h2]
  refine qq rfl [⟨0,[],[]⟩,⟨1,[0],[]⟩,⟨2,[0],[]⟩,⟨3,[],[]⟩,⟨4,[],[]⟩] (by kernel_rfl) ?_
  simp(disch:=omega)only[go_sem]
  refine qa (cs) ?_
  simp(disch:=omega)only[go_sem]
  refine qa (cm) ?_
  simp(disch:=omega)only[go_sem]
  exact qe (k+1) [] ⟨by omega,by omega⟩ (by show n-(k+1)<n-k;omega) rfl (by simp(disch:=omega)only[go_sem];try omega) (by simp(disch:=omega)only[go_sem,hK1])
 ·simp(disch:=omega)only[go_sem,h2]
  obtain rfl:n=k:=by omega
  rw[hK]
  exact qn
theorem aaN(B:Nat)(hW:B≤400):Con Tryz.prog 134 false [.v (.int .i64 (-(B:Int)))] [] (isA (.v (.int .i64 (tmF B)))):=by
 refine Con.frzA ?_
 refine Con.of_w (rs:=[.tmp 2]) Tryz.func134 rfl Tryz.ntmps134 rfl ?_
 simp(disch:=omega)only[go_sem]
 refine qi (fun k:Nat=>[(0,.v (.int .i64 (-(B:Int)))),(2,.v (.int .i64 0)),(3,.v (.int .i64 k))]) (fun _=>[]) (fun k=>1≤k∧k≤401∧tmS B k (403-k)=tmF B) (fun k=>402-k) 1 ⟨by omega,by omega,rfl⟩ (Le.lst [] _ _ rfl (by simp(disch:=omega)only[go_sem]) (by simp(disch:=omega)only[go_sem])) ?_
 rintro k ⟨hk1,hk2,ht⟩
 have e1:(k:Int)+1=((k+1:Nat):Int):=by omega
 have e2:0-(-(B:Int))=(B:Int):=by omega
 have cf:=acp (k+1) (by omega) (by omega)
 rw[←e1]at cf
 have b1:=aam (k+1) (by omega)
 have l1:=qv b1
 have cb:=XR (fct (k+1)) (by omega)
 have hstep:tmS B k (403-k)=if fct (k+1)*2^k<2^B then tmS B (k+1) (403-(k+1))else k:=by
  rw[show 403-k=(403-(k+1))+1 by omega];rfl
 have hpos:=abU (k+1)
 have hb:=ajX (a:=fct (k+1)) (by omega) k
 have hiff:fct (k+1)*2^k<2^B↔bl (fct (k+1))+k≤B:=by rw[←hb];exact qZ.symm
 have hb1:1≤bl (fct (k+1)):=by
  rcases Nat.lt_or_ge (bl (fct (k+1))) 1 with c|c
  ·have:=qZ.1 (show bl (fct (k+1))≤0 by omega)
   omega
  ·exact c
 generalize fct (k+1)=FF at*
 generalize bl FF=b at*
 simp(disch:=omega)only[go_sem]
 refine qa (cf) ?_
 simp(disch:=omega)only[go_sem]
 refine qm (cb) ?_
 simp(disch:=omega)only[go_sem]
 refine qh (fun h1=>?_) (fun h1=>?_)
 ·simp(disch:=omega)only[go_sem,h1]
  have hlt:FF*2^k<2^B:=hiff.2 (by omega)
  rw[if_pos hlt,ht]at hstep
  exact qe (k+1) [] ⟨by omega,by omega,hstep.symm⟩ (by show 402-(k+1)<402-k;omega) rfl (by simp(disch:=omega)only[go_sem];try omega) (by simp(disch:=omega)only[go_sem])
 ·simp(disch:=omega)only[go_sem,h1]
  have hlt:¬FF*2^k<2^B:=fun h=>h1 (by have:=hiff.1 h;omega)
  rw[if_neg hlt,ht]at hstep
  rw[hstep]
  exact qn
theorem apH(y:ExV)(h0:y.m≠0):y.can.top=y.top∧y.can.m≠0:=by
 have e1:y.can.m*2^tz y.m=y.m:=Jw
 have e2:y.can.e=y.e+tz y.m:=by show oE y.m y.e=_;unfold oE;rw[if_neg h0]
 have h1:y.can.m≠0:=fun e=>by rw[e,Nat.zero_mul]at e1;exact h0 e1.symm
 refine⟨?_,h1⟩
 have:=ajX h1 (tz y.m)
 rw[e1]at this
 unfold ExV.top
 rw[if_neg h0,if_neg h1]
 omega
theorem awj(y:ExV):hvN y.can=hvN y:=by
 unfold hvN
 by_cases h0:y.m=0
 ·rw[if_pos h0,if_pos (show y.can.m=0 by show oM y.m=0;rw[h0,jC])]
 ·obtain⟨e,h1⟩:=apH y h0
  rw[if_neg h0,if_neg h1,e]
theorem V3(y:ExV)(hy:y.bd (-400000) 400000):Con Tryz.prog 132 false [.ag [.v (.bool (y).s),.sl (lim (y).m).length (qg (lim (y).m)),.v (.int .i64 (y).e)]] [] (isA (.v (.int .i64 (hvN y)))):=by
 refine Con.frzA ?_
 obtain⟨a,b,c⟩:=hy
 have lm:=qv (m:=y.m) (B:=800000) (by omega)
 have ct:=ajc y.s y.m y.e (by omega) (by omega)
 by_cases h0:y.m=0
 ·have hv:hvN y=0:=if_pos h0
  rw[if_pos h0]at ct
  rw[hv]
  have hl:(lim y.m).length=0:=by rw[h0,qr];rfl
  refine Con.of_w (rs:=[.tmp 2]) Tryz.func132 rfl Tryz.ntmps132 rfl ?_
  simp(disch:=omega)only[go_sem]
  refine qm (ct) ?_
  simp(disch:=omega)only[go_sem]
  simp(disch:=omega)only[go_sem,show decide ((0:Int)+1<0)=false from rfl]
  simp(disch:=omega)only[go_sem,hl]
  exact qn
 ·have hv:hvN y=(y.top+1).toNat:=if_neg h0
  rw[if_neg h0]at ct
  have et:y.top=y.e+(bl y.m:Int):=by unfold ExV.top;rw[if_neg h0];omega
  rw[←et]at ct
  have hl:(lim y.m).length≠0:=fun e=>h0 (qE.1 (List.length_eq_zero_iff.1 e))
  rw[hv]
  generalize y.top=t at*
  by_cases c1:t+1<0
  ·rw[show(t+1).toNat=0 by omega]
   refine Con.of_w (rs:=[.tmp 2]) Tryz.func132 rfl Tryz.ntmps132 rfl ?_
   simp(disch:=omega)only[go_sem]
   refine qm (ct) ?_
   simp(disch:=omega)only[go_sem]
   simp(disch:=omega)only[go_sem,decide_eq_true c1]
   exact qn
  ·refine Con.of_w (rs:=[.tmp 2]) Tryz.func132 rfl Tryz.ntmps132 rfl ?_
   simp(disch:=omega)only[go_sem]
   refine qm (ct) ?_
   simp(disch:=omega)only[go_sem]
   have q2:decide (((lim y.m).length:Int)=0)=false:=decide_eq_false (by omega)
   simp(disch:=omega)only[go_sem,decide_eq_false c1,q2]
   exact qn (hp:=by simp(disch:=omega)only[go_sem,show(((t+1).toNat:Nat):Int)=t+1 by omega])
end Go.Ab
namespace Go.Ab
open Go Go.Proofs
/-! ### The specification's exponential,held-/
def aln(K:Nat)(s:SpV):Prop:=s.eK K∧s.lo.val K≤s.hi.val K
theorem agx{K:Nat}:aln K sp0:=⟨⟨by show-(K:Int)≤0;omega,by show-(K:Int)≤0;omega⟩,Int.le_refl _⟩
theorem aem{K:Nat}{s t:SpV}(hs:s.eK K)(ht:t.eK K):aln (K+K) (s.times t):=by
 have h:=SpV.times_eK hs ht
 refine⟨h,?_⟩
 have e:=Go.Ab.times_eK hs ht
 have a:=(yH e).1 (s.lo.times t.lo) (by simp[qC])
 have b:=(QA e).1 (s.lo.times t.lo) (by simp[qC])
 exact Int.le_trans a b
theorem agK{K:Nat}{s t:SpV}(hs:aln K s)(ht:aln K t):aln K (s.plus t):=by
 obtain⟨⟨a1,a2⟩,a3⟩:=hs
 obtain⟨⟨b1,b2⟩,b3⟩:=ht
 refine⟨⟨yk a1 b1,yk a2 b2⟩,?_⟩
 show(s.lo.plus t.lo).val K≤(s.hi.plus t.hi).val K
 rw[zx a1 b1,zx a2 b2]
 omega
def seK(K:Nat)(l:List SpV):Prop:=∀s∈l,s.eK K
theorem agF{K:Nat}{l:List SpV}(h:seK K l)(i:Nat):(l.getD i sp0).eK K:=by
 rw[List.getD_eq_getElem?_getD]
 rcases Nat.lt_or_ge i l.length with c|c
 ·rw[List.getElem?_eq_getElem c];exact h _ (List.getElem_mem _)
 ·rw[List.getElem?_eq_none c];exact agx.1
theorem ac9{K n:Nat}{l l':List SpV}{i j:Nat}(h:seK K l)(h':seK K l'):∀k,aln (K+K) (jB n l l' i j k)
 |0=>agx
 |k+1=>by rw[yD];exact agK (ac9 h h' k) (aem (agF h _) (agF h' _))
theorem aeQ{K n:Nat}{l l':List SpV}(h:seK K l)(h':seK K l'):∀s∈qI n l l',aln (K+K) s:=fun s hs=>by
 obtain⟨t, -,rfl⟩:=List.mem_map.1 hs
 exact ac9 h h' n
theorem aoK{lo hi:Int}{K:Nat}{l:List SpV}(h:sbd lo hi l)(hK: -(K:Int)≤lo):seK K l:=fun s hs=>⟨by have:=(h s hs).1.2.1;omega,by have:=(h s hs).2.2.1;omega⟩
theorem as4{K k:Nat}{l:List SpV}{low:Int}(hk:k≠0)(hl: -(K:Int)≤low)(h:∀s∈l,aln K s):(l.map SpV.can).map (fun s=>SpV.mk (s.lo.over (exN k) low 3).can (s.hi.over (exN k) low 2).can)=(l.map fun s=>s.divd k low).map SpV.can:=by
 rw[List.map_map,List.map_map]
 exact List.map_congr_left fun s hs=>ant hk hl (h s hs).1 (h s hs).2
theorem adj{l:List SpV}{low:Int}:(l.map SpV.can).map (fun s=>(s.out low).can)=(l.map fun s=>s.out low).map SpV.can:=by
 rw[List.map_map,List.map_map]
 exact List.map_congr_left fun s _=>aq9 s low
theorem ani{l:List SpV}{y:ExV}:(l.map SpV.can).map (fun s=>(s.fat y.can).can)=(l.map fun s=>s.fat y).map SpV.can:=by
 rw[List.map_map,List.map_map]
 exact List.map_congr_left fun s _=>asO s y
theorem ag5{l:List ExV}:(l.map ExV.can).map ptS=(l.map ptS).map SpV.can:=by
 rw[List.map_map,List.map_map]
 exact List.map_congr_left fun s _=>rfl
theorem Vc(k:Int):ex1.shift k=pwE k:=by
 show(⟨false,1,0+k⟩:ExV)=⟨false,1,k⟩
 rw[Int.zero_add]
theorem aek{n:Nat}{L:List ExV}{y:ExV}(hl:L.length=n*n):L.map (fun x=>(x.times y).can)=(zn n L y).map ExV.can:=by
 have e:zn n L y=L.map fun x=>x.times y:=by
  have a:L.map (fun x=>x.times y)=mpT L (fun x=>x.times y) (n*n):=by rw[←hl];exact ja.symm
  rw[a]
  unfold zn gl mpT
  have et:∀t,t/n*n+t % n=t:=fun t=>by rw[Nat.mul_comm];exact Nat.div_add_mod t n
  apply List.ext_getElem
  ·simp[hl]
  ·intro i h1 h2
   simp only[List.length_map,List.length_range]at h1
   simp[et,List.getD_eq_getElem?_getD,List.getElem?_eq_getElem (show i<L.length by omega)]
 rw[e,List.map_map]
 rfl
theorem awi{n:Nat}:gId n=(gId n).map ExV.can:=by
 conv=>lhs;rw[←List.map_id (gId n)]
 refine List.map_congr_left fun x hx=>?_
 obtain⟨t, -,rfl⟩:=List.mem_map.1 hx
 show _=(idF _ _).can
 unfold idF
 split
 ·exact(abu (k:=0)).symm
 ·exact VT.symm
theorem aqt{l:List SpV}:∀s∈l.map SpV.can,s.lo.can=s.lo∧s.hi.can=s.hi:=fun s hs=>by
 obtain⟨t, -,rfl⟩:=List.mem_map.1 hs
 exact⟨Jo _,Jo _⟩
theorem yw{lo hi:Int}{l:List SpV}(h:sbd lo hi l)(h1:lo≤0)(h2:0≤hi):sbd lo hi (l.map SpV.can):=fun s hs=>by
 obtain⟨t,ht,rfl⟩:=List.mem_map.1 hs
 exact KE (h t ht) h1 h2
theorem jd{l:List SpV}{k:Nat}(h:l.length=k):(l.map SpV.can).length=k:=by rw[List.length_map,h]
set_option maxRecDepth 100000 in
theorem acn(n:Nat)(L:List ExV)(low:Int)(h:matV n L)(ha:afO n L low=true):Con Tryz.prog 64 false [.ag [.v (.int .i64 (n)),.sl (L).length (qj ExV.cs (L))],.v (.int .i64 low)] [] (isA (.ag [.v (.int .i64 (n)),.sl ((gSq n (-(JJ n L low:Int)) (gFt n (gB n L (exS n L)) (JJ n L low)) (exS n L)).map SpV.can).length (qj SpV.cs ((gSq n (-(JJ n L low:Int)) (gFt n (gB n L (exS n L)) (JJ n L low)) (exS n L)).map SpV.can))])):=by
 refine Con.frzA ?_
 have f:=QM h ha
 have hn:=h.n4
 have hL:=h.len
 have hq:=jr hn
 have cn:=Jk n L hn hL (zC h.bd (by omega) (by omega))
 have byd:=jq (jh hL h.bd (by omega) n (Nat.le_refl n)) (by omega) (by omega)
 have ch:=V3 (qR n L n).can (byd.mono (by omega) (by omega))
 rw[awj]at ch
 change Con _ _ _ _ _ (isA (.v (.int .i64 (exS n L))))at ch
 obtain⟨f1,f2,f3,f4,f5, -⟩:=f
 have f5':=f5
 generalize hs:exS n L=s at*
 generalize hB':JJ n L low=B at*
 have cpw:=V1 (-(s:Int)) (by omega)
 have csc:=aci n L (pwE (-(s:Int))) hn hL (zC h.bd (by omega) (by omega)) (ag0 (by omega) (by omega))
 have hbl:(gB n L s).length=n*n:=by show(List.map _ _).length=n*n;rw[List.length_map];exact jw
 rw[←Vc,aek hL]at csc
 have hsl:((zn n L (ex1.shift (-(s:Int)))).map ExV.can).length=n*n:=by rw[List.length_map];exact jw
 have cof:=XU n ((zn n L (ex1.shift (-(s:Int)))).map ExV.can) hn hsl
 rw[ag5]at cof
 change Con _ _ _ _ _ (isA (.ag [.v (.int .i64 (n)),.sl ((gB n L s).map SpV.can).length (qj SpV.cs ((gB n L s).map SpV.can))]))at cof
 rw[Vc]at csc cof
 have ci:=anQ n hn
 have coi:=XU n (gId n) hn Yw
 have hst0:(gId n).map ptS=(gSt n (gB n L s) (-(B:Int)) 0).1.map SpV.can:=by
  show(gId n).map ptS=((gId n).map ptS).map SpV.can
  rw[←ag5,←awi]
 have hst00:(gSt n (gB n L s) (-(B:Int)) 0).2=(gSt n (gB n L s) (-(B:Int)) 0).1:=rfl
 rw[hst0]at coi
 have ct:=aaN B (by omega)
 have cpw2:=V1 (-(B:Int)) (by omega)
 have hSb:=aad hn (show 1≤B by omega) hbl f5
 have hSl:=fun i=>zO (n:=n) (b:=gB n L s) (w:= -(B:Int)) i
 have htm:=af1 f3.2
 have hFl:(gFt n (gB n L s) B).length=n*n:=by show(List.map _ _).length=n*n;rw[List.length_map];exact(zO _).1
 have cft:=afg n ((gSt n (gB n L s) (-(B:Int)) (tmF B)).1.map SpV.can) (pwE (-(B:Int))) hn (jd (hSl _).1) (yw (qy (hSb (tmF B)).1 (by omega) (by omega)) (by omega) (by omega)) (ag0 (by omega) (by omega))
 have efat:((gSt n (gB n L s) (-(B:Int)) (tmF B)).1.map SpV.can).map (fun x=>(x.fat (pwE (-(B:Int)))).can)=(gFt n (gB n L s) B).map SpV.can:=by
  have:=ani (l:=(gSt n (gB n L s) (-(B:Int)) (tmF B)).1) (y:=pwE (-(B:Int)))
  rw[abu]at this
  rw[this]
  unfold gFt
  rw[Vc]
 rw[efat]at cft
 obtain⟨q1,q2⟩:=pw8 f2 f3.2
 have hFb:=aae hn (show 1≤B∧B≤148 by omega) hbl f5
 have hQb:=XA hn (show 1≤B by omega) hFl hFb
 have hQl:=fun k=>Qa (w:= -(B:Int)) hFl k
 have hSs:∀i,(gSt n (gB n L s) (-(B:Int)) (i+1)).1=yL (gSt n (gB n L s) (-(B:Int)) i).1 (gSt n (gB n L s) (-(B:Int)) (i+1)).2:=fun _=>rfl
 have hSs2:∀i,(gSt n (gB n L s) (-(B:Int)) (i+1)).2=(qI n (gSt n (gB n L s) (-(B:Int)) i).2 (gB n L s)).map fun x=>x.divd (i+1) (-(B:Int)):=fun _=>rfl
 have hQ0:gSq n (-(B:Int)) (gFt n (gB n L s) B) 0=gFt n (gB n L s) B:=rfl
 have hQs:∀k,gSq n (-(B:Int)) (gFt n (gB n L s) B) (k+1)=(qI n (gSq n (-(B:Int)) (gFt n (gB n L s) B) k) (gSq n (-(B:Int)) (gFt n (gB n L s) B) k)).map fun x=>x.out (-(B:Int)):=fun _=>rfl
 generalize hF0:gFt n (gB n L s) B=F0 at*
 generalize gB n L s=b at*
 generalize (zn n L (pwE (-(s:Int)))).map ExV.can=G at*
 generalize gId n=I at*
 generalize (qR n L n).can=Y at*
 generalize pwE (-(s:Int))=y1 at*
 generalize pwE (-(B:Int))=y2 at*
 refine Con.of_w (rs:=[.cell 4 53]) Tryz.func64 rfl Tryz.ntmps64 rfl ?_
 simp(disch:=omega)only[go_sem]
 refine qa (cn) ?_
 simp(disch:=omega)only[go_sem]
 refine qa (ch) ?_
 simp(disch:=omega)only[go_sem]
 rw[show low-2*(s:Int)-12= -(B:Int) from f4]
 refine qq rfl [⟨0,[],[]⟩,⟨2,[0],[]⟩,⟨3,[0],[]⟩,⟨7,[0],[]⟩,⟨1,[0],[90000000]⟩,⟨4,[0],[90000000]⟩,⟨5,[],[90000000]⟩,⟨6,[],[90000000]⟩,⟨8,[],[]⟩] (by kernel_rfl) ?_
 simp(disch:=omega)only[go_sem]
 refine qa (YO) ?_
 simp(disch:=omega)only[go_sem]
 refine qa (cpw) ?_ (by simp(disch:=omega)only[go_sem,show(0-(s:Int))= -(s:Int) by omega])
 simp(disch:=omega)only[go_sem]
 refine qa (csc) ?_
 simp(disch:=omega)only[go_sem]
 refine qa (cof) ?_
 simp(disch:=omega)only[go_sem]
 refine qa (ci) ?_
 simp(disch:=omega)only[go_sem]
 refine qa (coi) ?_
 simp(disch:=omega)only[go_sem]
 refine qa (ct) ?_
 simp(disch:=omega)only[go_sem]
 have hbc:sbd (-3100) 0 (b.map SpV.can):=yw f5 (by omega) (by omega)
 refine qi (fun i:Nat=>[(1,.v (.int .i64 low)),(4,.pt 1 0),(5,.v (.int .i64 s)),(6,.v (.int .i64 (-(B:Int)))),(7,.pt 2 0),(8,.pt 3 0),(9,.pt 4 0),(10,.v (.int .i64 (tmF B))),(11,.v (.int .i64 ((i:Int)+1)))])
  (fun i=>[(1,.own 0 [.v (.int .i64 0),.v (.slice none 0 0)]),(2,.own 0 [.v (.int .i64 n),.sl (b.map SpV.can).length (qj SpV.cs (b.map SpV.can))]),(3,.own 0 [.v (.int .i64 n),.sl ((gSt n b (-(B:Int)) i).1.map SpV.can).length (qj SpV.cs ((gSt n b (-(B:Int)) i).1.map SpV.can))]),(4,.own 0 [.v (.int .i64 n),.sl ((gSt n b (-(B:Int)) i).2.map SpV.can).length (qj SpV.cs ((gSt n b (-(B:Int)) i).2.map SpV.can))])])
  (fun i=>i≤tmF B) (fun i=>tmF B-i) 0 (by omega)
  (Le.lst [(1,60000000),(2,90000000),(3,100000000),(4,110000000)] _ _ rfl (by simp(disch:=omega)only[go_sem,show(0:Int)+1=1 from rfl]) (by simp(disch:=omega)only[go_sem,hst00])) ?_
 intro i hi
 obtain⟨b1,b2,b3⟩:=hSb i
 obtain⟨l1,l2⟩:=hSl i
 have ei:(i:Int)+1=((i+1:Nat):Int):=by omega
 have cT:=XV n ((gSt n b (-(B:Int)) i).2.map SpV.can) (b.map SpV.can) hn (jd l2) (jd hbl) (yw (qy b2 (by omega) (by omega)) (by omega) (by omega)) (qy hbc (by omega) (by omega))
 rw[agH]at cT
 have hTl:(qI n (gSt n b (-(B:Int)) i).2 b).length=n*n:=zX
 have cD:=afh n ((qI n (gSt n b (-(B:Int)) i).2 b).map SpV.can) (i+1) (-(B:Int)) hn (jd hTl) (by omega) (by omega) aqt (yw (qy b3 (by omega) (by omega)) (by omega) (by omega)) (by omega)
 have hord:∀x∈qI n (gSt n b (-(B:Int)) i).2 b,aln (4000+4000) x:=aeQ (aoK b2 (by omega)) (aoK f5 (by omega))
 rw[as4 (by omega) (by omega) hord,←ei,←hSs2 i]at cD
 simp(disch:=omega)only[go_sem]
 refine qh (fun h2=>?_) (fun h2=>?_)
 ·have b4:=(hSb (i+1)).2.1
  have cP:=afi n ((gSt n b (-(B:Int)) i).1.map SpV.can) ((gSt n b (-(B:Int)) (i+1)).2.map SpV.can) hn (jd l1) (jd (hSl (i+1)).2) (yw (qy b1 (by omega) (by omega)) (by omega) (by omega)) (yw (qy b4 (by omega) (by omega)) (by omega) (by omega))
  rw[aun l1.symm,←hSs i]at cP
  generalize qI n (gSt n b (-(B:Int)) i).2 b=T at*
  generalize hS2:(gSt n b (-(B:Int)) (i+1)).2=S2 at*
  generalize hS1:(gSt n b (-(B:Int)) (i+1)).1=S1 at*
  simp(disch:=omega)only[go_sem,h2]
  refine qa (cT) ?_
  simp(disch:=omega)only[go_sem]
  refine qa (cD) ?_
  simp(disch:=omega)only[go_sem]
  refine qa (cP) ?_
  simp(disch:=omega)only[go_sem]
  exact qe (i+1) [] (by show i+1≤tmF B;omega) (by show tmF B-(i+1)<tmF B-i;omega) rfl (by simp(disch:=omega)only[go_sem];try omega) (by simp(disch:=omega)only[go_sem,hS1,hS2])
 ·obtain rfl:i=tmF B:=by omega
  simp(disch:=omega)only[go_sem,h2]
  refine qq rfl [⟨0,[],[]⟩,⟨2,[0],[]⟩,⟨1,[0],[]⟩,⟨3,[0],[]⟩,⟨4,[],[]⟩,⟨5,[],[]⟩] (by kernel_rfl) ?_
  simp(disch:=omega)only[go_sem]
  refine qa (YO) ?_
  simp(disch:=omega)only[go_sem]
  refine qa (cpw2) ?_
  simp(disch:=omega)only[go_sem]
  refine qa (cft) ?_
  simp(disch:=omega)only[go_sem]
  refine qi (fun k:Nat=>[(4,.pt 1 0),(5,.v (.int .i64 s)),(6,.v (.int .i64 (-(B:Int)))),(8,.pt 3 0),(12,.v (.int .i64 k))])
   (fun k=>[(1,.own 0 [.v (.int .i64 0),.v (.slice none 0 0)]),(3,.own 0 [.v (.int .i64 n),.sl ((gSq n (-(B:Int)) F0 k).map SpV.can).length (qj SpV.cs ((gSq n (-(B:Int)) F0 k).map SpV.can))])]) (fun k=>k≤s) (fun k=>s-k) 0 (by omega) (Le.lst [] _ _ rfl (by simp(disch:=omega)only[go_sem]) (by simp(disch:=omega)only[go_sem,hQ0])) ?_
  intro k hk
  obtain⟨c1,c2⟩:=hQb k
  have lk:=hQl k
  have q3:=pw8 (s:=k) (B:=B) (by omega) f3.2
  simp(disch:=omega)only[go_sem]
  refine qh (fun h3=>?_) (fun h3=>?_)
  ·have q4:=pw8 (s:=k+1) (B:=B) (by omega) f3.2
   have g1:=yw (qy c1 (show(-190000:Int)≤_ by omega) (show _≤(190000:Int) by omega)) (by omega) (by omega)
   have cS:=XV n ((gSq n (-(B:Int)) F0 k).map SpV.can) ((gSq n (-(B:Int)) F0 k).map SpV.can) hn (jd lk) (jd lk) g1 g1
   rw[agH]at cS
   have hTl2:(qI n (gSq n (-(B:Int)) F0 k) (gSq n (-(B:Int)) F0 k)).length=n*n:=zX
   have cO:=XT n ((qI n (gSq n (-(B:Int)) F0 k) (gSq n (-(B:Int)) F0 k)).map SpV.can) (-(B:Int)) hn (jd hTl2) aqt (yw (qy c2 (by omega) (by omega)) (by omega) (by omega)) (by omega)
   rw[adj,←hQs k]at cO
   generalize qI n (gSq n (-(B:Int)) F0 k) (gSq n (-(B:Int)) F0 k)=T2 at*
   generalize hK1:gSq n (-(B:Int)) F0 (k+1)=K1 at*
   generalize gSq n (-(B:Int)) F0 k=K0 at*
   simp(disch:=omega)only[go_sem,h3]
   refine qa (cS) ?_
   simp(disch:=omega)only[go_sem]
   refine qa (cO) ?_
   simp(disch:=omega)only[go_sem]
   exact qe (k+1) [] (by show k+1≤s;omega) (by show s-(k+1)<s-k;omega) rfl (by simp(disch:=omega)only[go_sem];try omega) (by simp(disch:=omega)only[go_sem,hK1])
  ·obtain rfl:k=s:=by omega
   simp(disch:=omega)only[go_sem,h3]
   exact qn
end Go.Ab
namespace Go.Ab
open Go Go.Proofs
/-! ### The specification's exponential of a matrix and of a number-/
theorem aco(low:Int):Con Tryz.prog 91 true [.v (.int .i64 low)] [] (isA (.v (.bool (decide (-120≤low)&&decide (low≤0))))):=by
 by_cases h1: -120≤low
 ·rw[decide_eq_true h1,Bool.true_and]
  refine Con.of_w (rs:=[.tmp 2]) Tryz.func91 rfl Tryz.ntmps91 rfl ?_
  simp(disch:=omega)only[go_sem,h1]
  exact qt
 ·rw[decide_eq_false h1,Bool.false_and]
  refine Con.of_w (rs:=[.tmp 2]) Tryz.func91 rfl Tryz.ntmps91 rfl ?_
  simp(disch:=omega)only[go_sem,h1]
  exact qt
theorem XS(n:Nat)(L:List ExV)(low:Int)(h:matV n L):Con Tryz.prog 40 false [.ag [.v (.int .i64 (n)),.sl (L).length (qj ExV.cs (L))],.v (.int .i64 low)] [] (isA (.v (.bool (afO n L low)))):=by
 refine Con.frzA ?_
 have cw:=aco low
 have cm:=acB n L h
 have cn:=Jk n L h.n4 h.len (zC h.bd (by omega) (by omega))
 have bN:=jh h.len h.bd (by omega) n (Nat.le_refl n)
 have h4:=h.n4
 have bX:(exN 64).bd (-400000) 400000:=(aiB (by decide)).mono (by omega) (by omega)
 have cc:=Jm (qR n L n).can (exN 64).can ((jq bN (by omega) (by omega)).mono (by omega) (by omega)) (jq bX (by omega) (by omega))
 rw[acG]at cc
 have c3:Con Tryz.prog 95 false [.v (.int .i64 64)] [] (isA (.ag [.v (.bool (false)),.sl (lim (64)).length (qg (lim (64)))])):=V2 64 (by omega)
 have c4:Con Tryz.prog 94 false [.ag [.v (.bool (false)),.sl (lim (64)).length (qg (lim (64)))],.v (.int .i64 0)] [] (isA (.ag [.v (.bool ((exN 64).can).s),.sl (lim ((exN 64).can).m).length (qg (lim ((exN 64).can).m)),.v (.int .i64 ((exN 64).can).e)])):=YM (exN 64) bX
 unfold afO
 generalize (qR n L n).cmp (exN 64)=C at*
 generalize (qR n L n).can=y at*
 generalize (exN 64).can=z at*
 cases hw:(decide (-120≤low)&&decide (low≤0))
 ·rw[hw]at cw
  refine Con.of_w (rs:=[.tmp 4]) Tryz.func40 rfl Tryz.ntmps40 rfl ?_
  simp(disch:=omega)only[go_sem]
  refine qm (cm) ?_
  simp(disch:=omega)only[go_sem]
  refine qm (cw) ?_
  simp(disch:=omega)only[go_sem]
  exact qn
 ·rw[hw]at cw
  rw[Bool.true_and]
  refine Con.of_w (rs:=[.tmp 4]) Tryz.func40 rfl Tryz.ntmps40 rfl ?_
  simp(disch:=omega)only[go_sem]
  refine qm (cm) ?_
  simp(disch:=omega)only[go_sem]
  refine qm (cw) ?_
  simp(disch:=omega)only[go_sem]
  refine qa (cn) ?_
  simp(disch:=omega)only[go_sem]
  refine qa (c3) ?_
  simp(disch:=omega)only[go_sem]
  refine qa (c4) ?_
  simp(disch:=omega)only[go_sem]
  refine qm (cc) ?_
  simp(disch:=omega)only[go_sem]
  exact qn
theorem Ke(n:Nat)(L:List ExV)(low:Int)(h:matV n L)(ha:afO n L low=true):Con Tryz.prog 22 false [.ag [.v (.int .i64 (n)),.sl (L).length (qj ExV.cs (L))],.v (.int .i64 low)] [] (isA (.tu [.ag [.v (.int .i64 (n)),.sl (exT n L low).length (qj SpV.cs (exT n L low))],.v (.bool true)])):=by
 refine Con.frzA ?_
 have f:=QM h ha
 have cm:=XS n L low h
 rw[ha]at cm
 have ch:=acn n L low h ha
 have hB:=f.B
 have hbl:(gB n L (exS n L)).length=n*n:=by show(List.map _ _).length=n*n;rw[List.length_map];exact jw
 have hFl:(gFt n (gB n L (exS n L)) (JJ n L low)).length=n*n:=by show(List.map _ _).length=n*n;rw[List.length_map];exact(zO _).1
 have hQb:=(XA h.n4 (show 1≤JJ n L low by omega) hFl (aae h.n4 (show 1≤JJ n L low∧JJ n L low≤148 by omega) hbl f.bd) (exS n L)).1
 obtain⟨q1,q2⟩:=pw8 f.s8 hB.2
 have hlo:=f.lo
 have hQl:=Qa (w:= -(JJ n L low:Int)) hFl (exS n L)
 have co:=XT n ((gSq n (-(JJ n L low:Int)) (gFt n (gB n L (exS n L)) (JJ n L low)) (exS n L)).map SpV.can) (low-4) h.n4 (jd hQl) aqt (yw (qy hQb (by omega) (by omega)) (by omega) (by omega)) (by omega)
 rw[adj]at co
 change Con _ _ _ _ _ (isA (.ag [.v (.int .i64 (n)),.sl (exT n L low).length (qj SpV.cs (exT n L low))]))at co
 have cf:=acq n (exT n L low) (aiA h f).1
 rw[List.map_id']at cf
 generalize exT n L low=H at*
 generalize (gSq n (-(JJ n L low:Int)) (gFt n (gB n L (exS n L)) (JJ n L low)) (exS n L)).map SpV.can=Q at*
 refine Con.of_w (rs:=[.cell 4 53,.tmp 5]) Tryz.func22 rfl Tryz.ntmps22 rfl ?_
 simp(disch:=omega)only[go_sem]
 refine qa (cm) ?_
 simp(disch:=omega)only[go_sem]
 refine qa (ch) ?_
 simp(disch:=omega)only[go_sem]
 refine qa (co) ?_
 simp(disch:=omega)only[go_sem]
 refine qa (cf) ?_
 simp(disch:=omega)only[go_sem]
 exact qn
theorem Xe(n:Nat)(L:List ExV)(low:Int)(h:matV n L)(ha:afO n L low=false):Con Tryz.prog 22 false [.ag [.v (.int .i64 (n)),.sl (L).length (qj ExV.cs (L))],.v (.int .i64 low)] [] (isA (.tu [.ag [.v (.int .i64 0),.sl 0 []],.v (.bool false)])):=by
 refine Con.frzA ?_
 have cm:=XS n L low h
 rw[ha]at cm
 refine Con.of_w (rs:=[.cell 4 53,.tmp 5]) Tryz.func22 rfl Tryz.ntmps22 rfl ?_
 simp(disch:=omega)only[go_sem]
 refine qa (cm) ?_
 simp(disch:=omega)only[go_sem]
 exact qn
/-! ### One number-/
end Go.Ab
namespace Go.Ab
open Go Go.Proofs
theorem V0(k:Nat):Con Tryz.prog 88 true [.sl 0 [],.v (.int .i64 k)] [] (isA (.v (.int .i64 k))):=by
 refine Con.of_w (rs:=[.tmp 4]) Tryz.func88 rfl Tryz.ntmps88 rfl ?_
 simp(disch:=omega)only[go_sem]
 refine qi (fun _:Nat=>[(0,.sl 0 []),(1,.v (.int .i64 k)),(5,.v (.int .i64 0))]) (fun _=>[]) (fun _=>True) (fun _=>0) 0 trivial (Le.lst [] _ _ rfl (by simp(disch:=omega)only[go_sem]) (by simp(disch:=omega)only[go_sem])) ?_
 intro _ _
 simp(disch:=omega)only[go_sem]
 exact qt
theorem aaE(k:Nat):Con Tryz.prog 127 true [.ag [.sl 0 []],.v (.int .i64 k)] [] (isA (.v (.int .i64 k))):=by
 refine Con.of_w (rs:=[.tmp 4]) Tryz.func127 rfl Tryz.ntmps127 rfl ?_
 simp(disch:=omega)only[go_sem]
 refine qm (V0 k) ?_
 simp(disch:=omega)only[go_sem]
 exact qt
theorem Xc(s:Bool)(k:Nat):Con Tryz.prog 60 true [.ag [.v (.bool s),.sl 0 []],.v (.int .i64 k)] [] (isA (.v (.int .i64 k))):=by
 refine Con.of_w (rs:=[.tmp 4]) Tryz.func60 rfl Tryz.ntmps60 rfl ?_
 simp(disch:=omega)only[go_sem]
 refine qm (aaE k) ?_
 simp(disch:=omega)only[go_sem]
 exact qt
theorem ach(s:Bool)(e:Int)(k:Nat):Con Tryz.prog 20 true [.ag [.v (.bool s),.sl 0 [],.v (.int .i64 e)],.v (.int .i64 k)] [] (isA (.v (.int .i64 k))):=by
 refine Con.of_w (rs:=[.tmp 4]) Tryz.func20 rfl Tryz.ntmps20 rfl ?_
 simp(disch:=omega)only[go_sem]
 refine qm (Xc s k) ?_
 simp(disch:=omega)only[go_sem]
 exact qt
theorem acs(k n:Nat)(hn:n≤2^40)(hk:k≤2^40):Con Tryz.prog 128 true [.ag [.sl n (qg (mkI k n))],.v (.int .i64 k)] [] (isA (.v (.int .i64 ((k+n:Nat):Int)))):=by
 have q:decide (((k+n:Nat):Int)<0)=false:=decide_eq_false (by omega)
 refine Con.of_w (rs:=[.tmp 4]) Tryz.func128 rfl Tryz.ntmps128 rfl ?_
 simp(disch:=omega)only[go_sem]
 refine qm (JB k n hn hk) ?_
 simp(disch:=omega)only[go_sem]
 simp(disch:=omega)only[go_sem,q]
 exact qt
theorem V4(s:Bool)(k n:Nat)(hn:n≤2^40)(hk:k≤2^40):Con Tryz.prog 61 true [.ag [.v (.bool s),.sl n (qg (mkI k n))],.v (.int .i64 k)] [] (isA (.v (.int .i64 ((k+n:Nat):Int)))):=by
 have q:decide (((k+n:Nat):Int)<0)=false:=decide_eq_false (by omega)
 refine Con.of_w (rs:=[.tmp 4]) Tryz.func61 rfl Tryz.ntmps61 rfl ?_
 simp(disch:=omega)only[go_sem]
 refine qm (acs k n hn hk) ?_
 simp(disch:=omega)only[go_sem]
 simp(disch:=omega)only[go_sem,q]
 exact qt
theorem XW(s:Bool)(e:Int)(k n:Nat)(hn:n≤2^40)(hk:k≤2^40):Con Tryz.prog 21 true [.ag [.v (.bool s),.sl n (qg (mkI k n)),.v (.int .i64 e)],.v (.int .i64 k)] [] (isA (.v (.int .i64 ((k+n:Nat):Int)))):=by
 have q:decide (((k+n:Nat):Int)<0)=false:=decide_eq_false (by omega)
 refine Con.of_w (rs:=[.tmp 4]) Tryz.func21 rfl Tryz.ntmps21 rfl ?_
 simp(disch:=omega)only[go_sem]
 refine qm (V4 s k n hn hk) ?_
 simp(disch:=omega)only[go_sem]
 simp(disch:=omega)only[go_sem,q]
 exact qt
end Go.Ab
namespace Go.Ab
open Go Go.Proofs
theorem ajv(l:List DyV)(hl:l.length≤1048576)(hx:∀d∈l,d.xs.length≤2^60):Con Tryz.prog 36 true [.sl l.length (qj DyV.cs l),.sl l.length (qj DyV.cs l)] [] (isA (.v (.bool true))):=by
 refine Con.of_w (rs:=[.tmp 4]) Tryz.func36 rfl Tryz.ntmps36 rfl ?_
 simp(disch:=omega)only[go_sem]
 refine qi (fun i:Nat=>[(0,.sl l.length (qj DyV.cs l)),(1,.sl l.length (qj DyV.cs l)),(5,.v (.int .i64 i))]) (fun _=>[]) (fun i=>i≤l.length) (fun i=>l.length-i) 0 (by omega)
  (Le.lst [] _ _ rfl (by simp(disch:=omega)only[go_sem]) (by simp(disch:=omega)only[go_sem])) ?_
 intro i hi
 simp(disch:=omega)only[go_sem]
 refine qh (fun h1=>?_) (fun h1=>?_)
 ·have hi2:i<l.length:=by omega
  have hcut:=aiJ (l:=l) (i:=i) hi2
  have hdm:(l.getD i dy0).xs.length≤2^60:=hx _ (by rw[List.getD_eq_getElem?_getD,List.getElem?_eq_getElem hi2];exact List.getElem_mem _)
  generalize l.getD i dy0=d at*
  simp(disch:=omega)only[go_sem,h1]
  refine qq rfl [⟨0,[],[]⟩,⟨1,[],[]⟩,⟨2,[],[]⟩,⟨3,[],[]⟩,⟨4,[3],[]⟩,⟨5,[3],[]⟩,⟨6,[3],[]⟩,⟨7,[3],[]⟩,⟨8,[],[]⟩,⟨9,[],[]⟩] (by kernel_rfl) ?_
  simp(disch:=omega)only[go_sem,hcut]
  refine⟨by omega,by omega,by omega,by omega,?_⟩
  refine qm (V5 d.s d.xs d.e hdm) ?_
  simp(disch:=omega)only[go_sem]
  exact qe (i+1) [] (by show i+1≤_;omega) (by show l.length-(i+1)<l.length-i;omega) rfl (by simp(disch:=omega)only[go_sem];try omega) (by simp(disch:=omega)only[go_sem])
 ·simp(disch:=omega)only[go_sem,h1]
  exact qt
theorem ZP(n:Int)(l:List DyV)(hl:l.length≤1048576)(hx:∀d∈l,d.xs.length≤2^60):Con Tryz.prog 10 true [.ag [.v (.int .i64 n),.sl l.length (qj DyV.cs l)],.ag [.v (.int .i64 n),.sl l.length (qj DyV.cs l)]] [] (isA (.v (.bool true))):=by
 have q:decide (n=n)=true:=decide_eq_true rfl
 refine Con.of_w (rs:=[.tmp 4]) Tryz.func10 rfl Tryz.ntmps10 rfl ?_
 simp(disch:=omega)only[go_sem]
 refine qm (ajv l hl hx) ?_
 simp(disch:=omega)only[go_sem]
 exact qt
theorem yx{x:Nat}(hx:20000000≤x):zW x=false:=by
 unfold zW
 have:Nat.blt x 20000000=false:=by
  cases h:Nat.blt x 20000000 with
  |false=>rfl
  |true=>simp[Nat.blt]at h;omega
 rw[this,Bool.and_false]
theorem Q2{ρ:Nat→Nat}{h:Nat→Ob}{c n:Nat}{F:Nat→Ob}(hF:∀j,abv (F j)):Xh ρ h c ((List.range n).map F)=fam c n F h:=by
 funext m
 rw[Qg]
 unfold fam
 rw[List.length_map,List.length_range]
 by_cases hm:c≤m∧m<c+n
 ·rw[if_pos hm,if_pos hm,List.getD_eq_getElem?_getD,List.getElem?_map,List.getElem?_range (by omega)]
  exact(hF _).2.1 ρ
 ·rw[if_neg hm,if_neg hm]
theorem abr{c n:Nat}{l:List DyV}(hn:n<9000000):zq (rho c []) (qj (dcs 1) (prs l n))=qj (dcs (c+1)) (prs l n):=yN fun p hp=>by
 have:=Yg hp
 unfold rho
 rw[if_pos (by omega)];omega
theorem yK{h:Nat→Ob}{c n:Nat}{row:Ob}{F:Nat→Ob}(hh:∀j,j≤n→h (c+j)=.free):qB h c (row::(List.range n).map F):=by
 have key:∀(L:List Ob) (k:Nat),(∀j,j<L.length→h (k+j)=.free)→qB h k L:=by
  intro L
  induction L with
  |nil=>intro k _;trivial
  |cons a L ih=>
   intro k hk
   refine⟨hk 0 (by simp),ih (k+1) fun j hj=>?_⟩
   have:=hk (j+1) (by simpa using hj)
   rwa[show k+1+j=k+(j+1) by omega]
 exact key _ c fun j hj=>hh j (by simp at hj;omega)
set_option maxRecDepth 100000 in
theorem Jf(n:Int)(l:List DyV)(hl:l.length≤1048576)(hx:∀d∈l,d.xs.length≤1048576):Con Tryz.prog 17 false [.ag [.v (.int .i64 n),.sl l.length (qj DyV.cs l)]] []
  (fun r hs bs=>r=.ag [.v (.int .i64 n),.rf 0 0 l.length]∧hs=.own 3 (qj (dcs 1) (prs l l.length))::(List.range l.length).map (ahL l)):=by
 refine Con.of_w (rs:=[.cell 2 25]) Tryz.func17 rfl Tryz.ntmps17 rfl ?_
 simp(disch:=omega)only[go_sem]
 refine qw (ae0 l hl hx) (by simp(disch:=omega)only[go_sem]) ?_
 rintro r hs ⟨rfl,rfl⟩
 refine⟨⟨by simp;omega,yK fun j hj=>?_⟩,?_⟩
 ·rw[qk (by omega),qk (by omega),qk (by omega),qk (by omega),XX (by omega)]
 have hrow:=@abr 110000000 l.length l (by omega)
 simp(disch:=omega)only[go_sem,Q2 (jf l),qp,hrow]
 refine Yy (fun m=>110000000+m) (.own 3 (qj (dcs 1) (prs l l.length))) l.length (ahL l) [.ag [.v (.int .i64 n),.rf 0 0 l.length]] (by omega) (by simp(disch:=omega)only[go_sem,amD,nmF,jK];try simp) ⟨?_,?_,trivial⟩ (fun j hj=>⟨?_,(jf l j).2.2 _,(jf l j).1⟩) (fun m hm=>yx (by omega)) (fun m m' hm hm' e=>Nat.add_left_cancel e) (by simp) ⟨rfl,rfl⟩
 ·show Ob.own 3 (zq _ (qj (dcs 1) (prs l l.length)))=_
  rw[yN (a:=1) (b:=110000001) (fun p hp=>by omega),qk (by omega),qk (by omega),qp (by omega),qo]
 ·exact zP fun p hp=>.inr (by have:=Yg hp;omega)
 ·rw[(jf l j).2.1,qk (by omega),qk (by omega),show 110000000+(1+j)=110000001+j by omega,qS hj]
end Go.Ab
namespace Go.Ab
open Go Go.Proofs
/-! ### Marks in a row of numbers-/
def prF(f:Nat→DyV)(n:Nat):List (Nat×DyV):=(List.range n).map fun j=>(j,f j)
def zL(f:Nat→DyV)(j:Nat):Ob:=.own 1 (qg (f j).xs)
theorem qA(f:Nat→DyV)(j:Nat):abv (zL f j):=⟨trivial,fun ρ=>by show Ob.own 1 (zq ρ (qg _))=_;rw[yF];rfl,fun p=>by show AllL p (qg _);exact QX⟩
theorem aqU{f:Nat→DyV}{n:Nat}:(prF f n).length=n:=by simp[prF]
theorem jj{f:Nat→DyV}{n:Nat}{p:Nat×DyV}(h:p∈prF f n):p.1<n:=by
 obtain⟨j,hj,rfl⟩:=List.mem_map.1 h
 exact List.mem_range.1 hj
def kAt(k:Nat)(f:Nat→DyV):Nat→Nat
 |0=>k
 |j+1=>kAt k f j+(f j).xs.length+2
def mkd(k:Nat)(f:Nat→DyV)(j:Nat):DyV:=⟨decide (((kAt k f j:Nat):Int) % 3=0),mkI (kAt k f j+1) (f j).xs.length,((kAt k f j+1+(f j).xs.length:Nat):Int)⟩
def yU(k:Nat)(f:Nat→DyV)(i j:Nat):DyV:=if j<i then mkd k f j else f j
theorem ahz{k:Nat}{f:Nat→DyV}:yU k f 0=f:=by funext j;exact if_neg (by omega)
theorem arR{k:Nat}{f:Nat→DyV}{i:Nat}:yU k f i i=f i:=if_neg (by omega)
def yp(S X E:Nat→AV)(n:Nat):List AV:=qj (fun j=>[S j,X j,E j]) (List.range n)
theorem zQ{S X E:Nat→AV}{n:Nat}:(yp S X E n).length=n*3:=by
 unfold yp;rw[yh (z:=3) (fun _=>rfl),List.length_range]
theorem jJ{S X E:Nat→AV}:∀(n m:Nat),(yp S X E n)[m]? =if m/3<n then some (if m % 3=0 then S (m/3)else if m % 3=1 then X (m/3)else E (m/3))else none
 |0,m=>by rw[if_neg (by omega)];rfl
 |n+1,m=>by
  have e:yp S X E (n+1)=yp S X E n++[S n,X n,E n]:=by
   unfold yp
   rw[List.range_succ,←yi,qO,jY,List.append_nil]
  rw[e]
  rcases Nat.lt_or_ge m (n*3)with c|c
  ·have h1:m/3<n:=by omega
   have h2:m/3<n+1:=by omega
   rw[List.getElem?_append_left (by rw[zQ];exact c),jJ n m,if_pos h1,if_pos h2]
  ·rw[List.getElem?_append_right (by rw[zQ];exact c),zQ]
   rcases(show m=n*3∨m=n*3+1∨m=n*3+2∨n*3+3≤m by omega)with rfl|rfl|rfl|c2
   ·rw[if_pos (by omega),if_pos (by omega),show n*3-n*3=0 by omega,show n*3/3=n by omega];rfl
   ·rw[if_pos (by omega),if_neg (by omega),if_pos (by omega),show n*3+1-n*3=1 by omega,show(n*3+1)/3=n by omega];rfl
   ·rw[if_pos (by omega),if_neg (by omega),if_neg (by omega),show n*3+2-n*3=2 by omega,show(n*3+2)/3=n by omega];rfl
   ·rw[if_neg (by omega),List.getElem?_eq_none (by simp;omega)]
theorem agS{S X E:Nat→AV}{n i:Nat}{x:AV}(hi:i<n):wr (yp S X E n) (i*3) [x]=yp (upd S i x) X E n:=by
 show(yp S X E n).set (i*3) x=_
 apply List.ext_getElem?
 intro m
 rw[List.getElem?_set,jJ,jJ,zQ]
 by_cases hm:i*3=m
 ·subst hm
  rw[if_pos rfl,if_pos (by omega),if_pos (by omega),if_pos (by omega),show i*3/3=i by omega,qo]
 ·rw[if_neg hm]
  by_cases h1:m/3<n
  ·rw[if_pos h1,if_pos h1]
   by_cases h2:m % 3=0
   ·rw[if_pos h2,if_pos h2,qk (by omega)]
   ·rw[if_neg h2,if_neg h2]
  ·rw[if_neg h1,if_neg h1]
theorem agT{S X E:Nat→AV}{n i:Nat}{x:AV}(hi:i<n):wr (yp S X E n) (i*3+2) [x]=yp S X (upd E i x) n:=by
 show(yp S X E n).set (i*3+2) x=_
 apply List.ext_getElem?
 intro m
 rw[List.getElem?_set,jJ,jJ,zQ]
 by_cases hm:i*3+2=m
 ·subst hm
  rw[if_pos rfl,if_pos (by omega),if_pos (by omega),if_neg (by omega),if_neg (by omega),show(i*3+2)/3=i by omega,qo]
 ·rw[if_neg hm]
  by_cases h1:m/3<n
  ·rw[if_pos h1,if_pos h1]
   by_cases h2:m % 3=0
   ·rw[if_pos h2,if_pos h2]
   ·rw[if_neg h2,if_neg h2]
    by_cases h3:m % 3=1
    ·rw[if_pos h3,if_pos h3]
    ·rw[if_neg h3,if_neg h3,qk (by omega)]
  ·rw[if_neg h1,if_neg h1]
theorem au3{S X E:Nat→AV}{n i:Nat}(hi:i<n):cut (yp S X E n) (i*3+1) 1=[X i]:=by
 have h:=jJ (S:=S) (X:=X) (E:=E) n (i*3+1)
 rw[if_pos (by omega),if_neg (by omega),if_pos (by omega),show(i*3+1)/3=i by omega]at h
 obtain⟨h1,h2⟩:=List.getElem?_eq_some_iff.1 h
 unfold cut
 rw[List.drop_eq_getElem_cons h1,h2]
 rfl
def cS(f:Nat→DyV)(j:Nat):AV:=.v (.bool (f j).s)
def cX(b:Nat)(f:Nat→DyV)(j:Nat):AV:=.rf (b+j) 0 (f j).xs.length
def cE(f:Nat→DyV)(j:Nat):AV:=.v (.int .i64 (f j).e)
theorem as5{b:Nat}{f:Nat→DyV}{n:Nat}:qj (dcs b) (prF f n)=yp (cS f) (cX b f) (cE f) n:=by
 unfold qj yp prF qj
 rw[List.map_map];rfl
theorem K4{h:Nat→Ob}{sz n i:Nat}{S X E:Nat→AV}{K:AV→Prop}(hi:i<n):@Qn false sz h (.fp (yp S X E n) (i*3+1)) ⟨K⟩=K (X i):=by
 have hg:=jJ (S:=S) (X:=X) (E:=E) n (i*3+1)
 rw[if_pos (by omega),if_neg (by omega),if_pos (by omega),show(i*3+1)/3=i by omega]at hg
 rw[Yp,aue,cond_false,zQ,List.getD_eq_getElem?_getD,hg]
 exact propext ⟨fun h=>h.2,fun h=>⟨by omega,h⟩⟩
theorem alt{p:Nat→Prop}{S X E:Nat→AV}{n:Nat}(h:∀j,j<n→(S j).All p∧(X j).All p∧(E j).All p):AllL p (yp S X E n):=by
 unfold yp
 have key:∀L:List Nat,(∀j∈L,j<n)→AllL p (qj (fun j=>[S j,X j,E j]) L):=by
  intro L
  induction L with
  |nil=>intro _;trivial
  |cons a L ih=>
   intro hL
   rw[qO]
   obtain⟨h1,h2,h3⟩:=h a (hL a (List.mem_cons_self ..))
   exact⟨h1,h2,h3,ih fun j hj=>hL j (List.mem_cons_of_mem _ hj)⟩
 exact key _ fun j hj=>List.mem_range.1 hj
theorem als{ρ:Nat→Nat}{S X E:Nat→AV}{n:Nat}(h:∀j,j<n→(S j).ren ρ=S j∧(X j).ren ρ=X j∧(E j).ren ρ=E j):zq ρ (yp S X E n)=yp S X E n:=by
 unfold yp
 have key:∀L:List Nat,(∀j∈L,j<n)→zq ρ (qj (fun j=>[S j,X j,E j]) L)=qj (fun j=>[S j,X j,E j]) L:=by
  intro L
  induction L with
  |nil=>intro _;rfl
  |cons a L ih=>
   intro hL
   obtain⟨h1,h2,h3⟩:=h a (hL a (List.mem_cons_self ..))
   rw[qO,QP,ih fun j hj=>hL j (List.mem_cons_of_mem _ hj)]
   congr 1
   show [_,_,_]=_
   rw[h1,h2,h3]
 exact key _ fun j hj=>List.mem_range.1 hj
theorem aeo{S X E S' X' E':Nat→AV}{n:Nat}(h:∀j,j<n→S j=S' j∧X j=X' j∧E j=E' j):yp S X E n=yp S' X' E' n:=by
 unfold yp qj
 congr 1
 refine List.map_congr_left fun j hj=>?_
 obtain⟨h1,h2,h3⟩:=h j (List.mem_range.1 hj)
 rw[h1,h2,h3]
def isV(a:AV):Prop:=∃x,a=.v x
theorem Le.sameF{σ:St}(E:List (Nat×AV))(n:Nat)(f g:Nat→DyV)(A C:Nat→AV)(hA:∀j,isV (A j))(hC:∀j,isV (C j))
  (hE:JW id σ.env (nmF [10000000] 10000001 n) E) (h0:σ.hp 10000000=.own 3 (yp A (cX 10000001 f) C n)) (hF:∀j,j<n→σ.hp (10000001+j)=zL g j):
  Le σ ⟨ofL .un E,fam 10000001 n (zL g) (ofH [(10000000,.own 3 (yp A (cX 10000001 f) C n))])⟩:=by
 refine Le.famL id E [(10000000,.own 3 (yp A (cX 10000001 f) C n))] 10000001 n (zL g) rfl (fun q hq=>by rw[List.mem_singleton.1 hq];exact .inl (by show 10000000<10000001;omega)) hE ⟨⟨?_,?_,trivial⟩,trivial⟩
  (fun j hj=>⟨?_,(qA g j).2.2 _,(qA g j).1⟩) (fun m hm=>⟨fun h=>rfl,fun h=>h⟩) (fun m m' hm hm' h=>h)
 ·show Ob.own 3 (zq id _)=σ.hp 10000000
  rw[h0,als fun j hj=>?_]
  obtain⟨x,hx⟩:=hA j
  obtain⟨y,hy⟩:=hC j
  rw[hx,hy]
  exact⟨rfl,rfl,rfl⟩
 ·show AllL _ _
  refine alt fun j hj=>?_
  obtain⟨x,hx⟩:=hA j
  obtain⟨y,hy⟩:=hC j
  rw[hx,hy]
  exact⟨trivial,.inr (by omega),trivial⟩
 ·rw[(qA g j).2.1]
  exact(hF j hj).symm
theorem aB2(f:Nat→DyV)(j:Nat):isV (cS f j):=⟨_,rfl⟩
theorem aB3(f:Nat→DyV)(j:Nat):isV (cE f j):=⟨_,rfl⟩
theorem avW{k:Nat}{f:Nat→DyV}{i:Nat}:upd (cS (yU k f i)) i (.v (.bool (decide (((kAt k f i:Nat):Int) % 3=0))))=cS (yU k f (i+1)):=by
 funext j
 by_cases hj:j=i
 ·subst hj;rw[qo];unfold cS yU;rw[if_pos (by omega)];rfl
 ·rw[qk hj]
  unfold cS yU
  by_cases h:j<i
  ·rw[if_pos h,if_pos (by omega)]
  ·rw[if_neg h,if_neg (by omega)]
theorem avX{k:Nat}{f:Nat→DyV}{i:Nat}:upd (cE (yU k f i)) i (.v (.int .i64 ((kAt k f i+1+(f i).xs.length:Nat):Int)))=cE (yU k f (i+1)):=by
 funext j
 by_cases hj:j=i
 ·subst hj;rw[qo];unfold cE yU;rw[if_pos (by omega)];rfl
 ·rw[qk hj]
  unfold cE yU
  by_cases h:j<i
  ·rw[if_pos h,if_pos (by omega)]
  ·rw[if_neg h,if_neg (by omega)]
theorem ams{k:Nat}{f:Nat→DyV}{i j:Nat}(hj:j≠i):zL (yU k f (i+1)) j=zL (yU k f i) j:=by
 unfold zL yU
 by_cases h:j<i
 ·rw[if_pos h,if_pos (by omega)]
 ·rw[if_neg h,if_neg (by omega)]
theorem ahA{k:Nat}{f:Nat→DyV}{i:Nat}:zL (yU k f (i+1)) i=.own 1 (qg (mkI (kAt k f i+1) (f i).xs.length)):=by
 unfold zL yU;rw[if_pos (by omega)];rfl
set_option maxRecDepth 100000 in
theorem acg(f:Nat→DyV)(n k:Nat)(hn:n≤1048576)(hx:∀j,j<n→(f j).xs.length≤1048576)(hkb:∀i,i≤n→kAt k f i≤2^39):Con Tryz.prog 37 false [.rf 10000000 0 n,.v (.int .i64 k)] (.own 3 (qj (dcs 10000001) (prF f n))::(List.range n).map (zL f))
  (fun r hs bs=>r=.v (.int .i64 (kAt k f n))∧hs=[]∧bs=.own 3 (qj (dcs 10000001) (prF (mkd k f) n))::(List.range n).map (zL (mkd k f))):=by
 refine Con.of_aw Tryz.func37 rfl Tryz.ntmps37 (by simp) (by simp;omega) (fun ob ho=>?_) (W.sound ?_)
 ·rcases List.mem_cons.1 ho with rfl|ho
  ·simp
  ·obtain⟨j,hj,rfl⟩:=List.mem_map.1 ho
   simp[zL]
 rw[acH (by omega)]
 show @W Tryz.prog 39 ⟨_⟩ ⟨fun x σ=>@qY _ _ _ ⟨_⟩ _ ⟨_⟩ x σ⟩ _ _
 simp(disch:=omega)only[go_sem]
 rw[as5]
 refine Zh (S:=fun i:Nat=>⟨ofL .un [(0,.rf 10000000 0 n),(1,.v (.int .i64 (kAt k f i))),(5,.v (.int .i64 i))],fam 10000001 n (zL (yU k f i)) (ofH [(10000000,.own 3 (yp (cS (yU k f i)) (cX 10000001 f) (cE (yU k f i)) n))])⟩) (fun i=>i≤n) (fun i=>n-i) 0 (by omega)
  ?_ ?_
 ·show Le _ ⟨ofL .un [(0,.rf 10000000 0 n),(1,.v (.int .i64 (kAt k f 0))),(5,.v (.int .i64 (0:Nat)))],fam 10000001 n (zL (yU k f 0)) (ofH [(10000000,.own 3 (yp (cS (yU k f 0)) (cX 10000001 f) (cE (yU k f 0)) n))])⟩
  rw[ahz]
  exact Le.sameF _ n f f (cS f) (cE f) (aB2 f) (aB3 f) (by simp(disch:=omega)only[go_sem,JW,nmF,jK,kAt];try simp) (by dsimp only;rw[qp (by omega)];rfl) (fun j hj=>by dsimp only;rw[qS hj])
 intro i hi
 show @W Tryz.prog 39 ⟨_⟩ ⟨_⟩ (ofL .un _) (fam 10000001 n _ (ofH _))
 have hki:=hkb i hi
 simp(disch:=omega)only[go_sem]
 refine qh (fun c1=>?_) (fun c1=>?_)
 ·have hi2:i<n:=by omega
  have hs1:=agS (S:=cS (yU k f i)) (X:=cX 10000001 f) (E:=cE (yU k f i)) (x:=.v (.bool (decide (((kAt k f i:Nat):Int) % 3=0)))) hi2
  have hxi:=hx i hi2
  have e1:((kAt k f i:Nat):Int)+1=((kAt k f i+1:Nat):Int):=by omega
  have hcm:=Jz (kAt k f i+1) (f i).xs (by omega) (by have:=hkb i hi;omega)
  have hlim:zL (yU k f i) i=.own 1 (qg (f i).xs):=by unfold zL;rw[arR]
  simp(disch:=omega)only[go_sem,c1,qp,hs1,zQ]
  refine⟨by omega,by omega,by omega,?_⟩
  rw[K4 hi2]
  rw[show cX 10000001 f i=.rf (10000001+i) 0 (f i).xs.length from rfl]
  simp(disch:=omega)only[go_sem,e1,qp]
  refine zl false [10000001+i] hcm (by show [snp _ _ 6 (.rf (10000001+i) 0 _),snp _ _ 6 (.v _)]=_;simp[snp,idx,qD]) ?_ rfl (q7 (z:=1) (cs:=qg (f i).xs) ?_ (by simp(disch:=omega)only[go_sem])) (by intro n hn;exact⟨_,List.mem_cons_self ..,by rw[List.mem_singleton.1 hn];rfl⟩) ?_
  ·show [Ob.ren _ (upd _ _ _ (10000001+i))]=_
   rw[qk (by omega),qS hi2,hlim]
   show [Ob.own 1 (zq _ (qg _))]=_
   rw[yF]
  ·rw[qk (by omega),qS hi2,hlim]
  rintro r hs bs ⟨rfl,rfl,rfl⟩-
  refine⟨by simp[qB],?_⟩
  have hne:∀(a b:Ob),(if 10000000=10000001+i then a else b)=b:=fun a b=>if_neg (by omega)
  have hs2:=agT (S:=cS (yU k f (i+1))) (X:=cX 10000001 f) (E:=cE (yU k f i)) (x:=.v (.int .i64 ((kAt k f i+1+(f i).xs.length:Nat):Int))) hi2
  rw[avX]at hs2
  have e2:((kAt k f i+1+(f i).xs.length:Nat):Int)+1=((kAt k f (i+1):Nat):Int):=by
   show _=((kAt k f i+(f i).xs.length+2:Nat):Int)
   omega
  have hS:=@avW k f i
  simp(disch:=omega)only[go_sem,qp,hne,hS,hs2,zQ,e2]
  refine⟨⟨by omega,by omega⟩,by omega,Zf (i+1) (by show i+1≤n;omega) (by show n-(i+1)<n-i;omega) (Le.sameF _ n f (yU k f (i+1)) (cS (yU k f (i+1))) (cE (yU k f (i+1))) (aB2 _) (aB3 _) (by simp(disch:=omega)only[go_sem,JW,nmF,jK];exact⟨rfl,by omega⟩) ?_ (fun j hj=>?_))⟩
  ·dsimp only
   rw[qo]
  ·dsimp only
   rw[qk (by omega)]
   by_cases hji:j=i
   ·subst hji
    rw[qo,ahA]
   ·rw[qk (by omega),qk (by omega),qS hj,ams hji]
 ·simp(disch:=omega)only[go_sem,c1]
  obtain rfl:i=n:=by omega
  have hrow:yp (cS (yU k f i)) (cX 10000001 f) (cE (yU k f i)) i=qj (dcs 10000001) (prF (mkd k f) i):=by
   rw[as5]
   refine aeo fun j hj=>?_
   have hm:yU k f i j=mkd k f j:=if_pos hj
   refine⟨by unfold cS;rw[hm],?_,by unfold cE;rw[hm]⟩
   show AV.rf _ _ _=AV.rf _ _ _
   rw[show(mkd k f j).xs.length=(f j).xs.length from Zg _ _]
  have hlm:∀j,j<i→zL (yU k f i) j=zL (mkd k f) j:=fun j hj=>by
   have hm:yU k f i j=mkd k f j:=if_pos hj
   unfold zL;rw[hm]
  rw[hrow]
  refine adF (.own 3 (qj (dcs 10000001) (prF (mkd k f) i))) i (zL (mkd k f)) [.v (.int .i64 (kAt k f i))] (by simp) (by omega) (by simp(disch:=omega)only[go_sem,amD]) ⟨?_,?_,trivial⟩ (fun j hj=>⟨?_,(qA _ j).2.2 _,(qA _ j).1⟩) (by simp) ⟨rfl,rfl,rfl⟩
  ·rw[qp (by omega)]
   show Ob.own 3 (zq id _)=.own 3 _
   rw[aiO (fun p hp=>rfl)]
  ·exact zP fun p hp=>.inr (by have:=jj hp;omega)
  ·rw[(qA _ j).2.1,qS hj,hlm j hj]
end Go.Ab
namespace Go.Ab
open Go
section
variable {P:Program}{L:Nat→Option Blk→Prop}{w0 w:World}{R:Nat→Prop}{ι:Nat→Option Blk}{a:Act}{σ:St}{K:AV→(Nat→Ob)→Prop}
theorem AW.regCallG{N:Nat}{Q:Exit→St→Prop}{e:Nat→AV}{h:Nat→Ob}{id:Nat}{l:List Oper}{y:Code}(k:Nat){pre suf:List Oper}{d ty:Nat}{pos:String}{af:Array Edge}{c}{x:Operand}{f:FuncId}
  (hp:l.take k=pre) (hs:l.drop k=⟨some d,.call c,ty,pos,af,none⟩::suf) {e':Nat→AV} {h':Nat→Ob}
  (h1:@Ch P N ⟨l⟩ ⟨pre⟩ ⟨fun σ'=>Le σ' ⟨e',h'⟩⟩ e h)
  (hd:d<N) (hcal:c.callee=.value x) (hx:evW e' x=.fn f []) (hfn:qz P f) {aa0:List AV} (haa:evL e' c.args.toList=aa0)
  (hcall:aa5 P f aa0 h' (20000000+10000000*d) (fun v hp'=>@Ch P N ⟨l⟩ ⟨suf⟩ ⟨fun σ=>AW P N y Q σ⟩ (upd e' d v) hp')):
  AW P N (.seq (.region id ⟨l⟩ false) y) Q ⟨e,h⟩:=by
 refine AW.seq fun L w0 R0 a w hi=>wp_region ?_
 have hl2:l=pre++⟨some d,.call c,ty,pos,af,none⟩::suf:=by rw[←hp,←hs,List.take_append_drop]
 have hr:List.range (⟨l⟩:Array Oper).size=List.range' 0 pre.length++(pre.length::(List.range' (pre.length+1) suf.length++[])):=by
  have hsz:(⟨l⟩:Array Oper).size=pre.length+(suf.length+1):=by show l.length=_;rw[hl2,List.length_append,List.length_cons]
  rw[hsz,List.append_nil,List.range_eq_range',List.range'_append_1.symm,Nat.zero_add,List.range'_succ]
 rw[hr]
 refine Q1 (K:=fun σ'=>Le σ' ⟨e',h'⟩) (fun σ a w hi2 hle=>?_) pre 0 (fun j hj=>?_) hi h1
 ·have hi3:=hle L w0 R0 N a w hi2
  obtain⟨R,ι,hR,hinv⟩:=hi3.inv
  have hget:(⟨l⟩:Array Oper)[pre.length]? =some ⟨some d,.call c,ty,pos,af,none⟩:=by
   rw[List.getElem?_toArray,hl2,List.getElem?_append_right (Nat.le_refl _),Nat.sub_self];rfl
  simp only[wpOps,hget]
  rw[if_pos (by simp[Region.wanted])]
  refine .inl (ahc (c:=c) (x:=x) (f:=f) (σ:=⟨e',h'⟩) rfl hcal (by rw[zN];exact hx) hfn hinv
   (K:=fun v hp'=>@Ch P N ⟨l⟩ ⟨suf⟩ ⟨fun σ=>AW P N y Q σ⟩ (upd e' d v) hp') ?_ fun x w' R' ι' av hp' hR' hK hx hm hi'=>?_)
  ·have ea:c.args.toList.map (St.ev ⟨e',h'⟩)=aa0:=by
    rw[←haa,Qc]
    exact List.map_congr_left fun z _=>zN _ _ _
   rw[ea]
   exact hcall
  ·refine Q1 (K:=fun σ=>AW P N y Q σ) (fun σ a w hi4 hq=>?_) suf (pre.length+1) (fun j hj=>?_) (hi3.put (o:=⟨some d,.call c,ty,pos,af,none⟩) hd hR hR' hx hm hi') hK
   ·exact⟨σ,hi4,hq⟩
   rw[List.getElem?_toArray,hl2,List.getElem?_append_right (by omega),show pre.length+1+j-pre.length=j+1 by omega];rfl
 ·rw[List.getElem?_toArray,hl2,Nat.zero_add,List.getElem?_append_left hj]
def Xv(b0 b n:Nat):List Nat:=b0::(List.range n).map (b+ ·)
theorem Z5{b0 b n:Nat}(h:b0<b∨b+n≤b0):(Xv b0 b n).Nodup:=by
 refine List.nodup_cons.2 ⟨fun hm=>?_,?_⟩
 ·obtain⟨j,hj,e⟩:=List.mem_map.1 hm
  have:=List.mem_range.1 hj
  omega
 ·refine List.Pairwise.map _ (fun x y hxy=>?_) List.nodup_range
  omega
theorem JT{b0 b n:Nat}:(Xv b0 b n).length=n+1:=by simp[Xv]
theorem adn{b0 b n j:Nat}(hj:j<n):(Xv b0 b n)[j+1]'(by rw[JT];omega)=b+j:=by simp[Xv]
theorem aoh{b0 b n:Nat}(h:b0<b∨b+n≤b0):idx (Xv b0 b n) b0=some 0:=yy (Z5 h) 0 (by rw[JT];omega)
theorem ad0{b0 b n j:Nat}(h:b0<b∨b+n≤b0)(hj:j<n):idx (Xv b0 b n) (b+j)=some (j+1):=by
 have:=yy (Z5 h) (j+1) (by rw[JT];omega)
 rwa[adn hj]at this
theorem aku{G:Nat→Ob}{b:Nat}:∀(n:Nat) (h:Nat→Ob),Q3 h ((List.range n).map (b+ ·)) ((List.range n).map G)=fam b n G h:=by
 have key:∀(L:List Nat) (h:Nat→Ob),L.Nodup→∀m,Q3 h (L.map (b+ ·)) (L.map G) m=if b≤m∧m-b∈L then G (m-b)else h m:=by
  intro L
  induction L with
  |nil=>intro h _ m;rw[if_neg (by simp)];rfl
  |cons a L ih=>
   intro h hn m
   have hn:=List.nodup_cons.1 hn
   show Q3 (upd h (b+a) (G a)) (L.map (b+ ·)) (L.map G) m=_
   rw[ih _ hn.2]
   by_cases h1:b≤m∧m-b∈L
   ·rw[if_pos h1,if_pos ⟨h1.1,List.mem_cons_of_mem _ h1.2⟩]
   ·rw[if_neg h1]
    by_cases h2:m=b+a
    ·subst h2
     rw[qo,if_pos ⟨by omega,by rw[Nat.add_sub_cancel_left];exact List.mem_cons_self ..⟩,Nat.add_sub_cancel_left]
    ·rw[qk h2,if_neg fun h3=>?_]
     rcases List.mem_cons.1 h3.2 with h4|h4
     ·omega
     ·exact h1 ⟨h3.1,h4⟩
 intro n h
 funext m
 rw[key _ h List.nodup_range m]
 unfold fam
 by_cases hm:b≤m∧m<b+n
 ·rw[if_pos hm,if_pos ⟨hm.1,List.mem_range.2 (by omega)⟩]
 ·rw[if_neg hm,if_neg fun h=>hm ⟨h.1,by have:=List.mem_range.1 h.2;omega⟩]
end
end Go.Ab
namespace Go.Ab
open Go Go.Proofs
theorem atL{b0 b n j:Nat}(h:b0<b∨b+n≤b0)(hj:j<n):back (Xv b0 b n) (b+j)=10000001+j:=by
 unfold back
 rw[ad0 h hj]
 show 10000000+(j+1)=_
 omega
theorem au6{c b0 b n j:Nat}(hj:j<n):rho c (Xv b0 b n) (10000001+j)=b+j:=by
 unfold rho
 rw[if_neg (by omega),show 10000001+j-10000000=j+1 by omega,List.getD_eq_getElem?_getD,List.getElem?_eq_getElem (by rw[JT];omega),adn hj];rfl
theorem zV{a b n:Nat}{f:Nat→DyV}{ρ:Nat→Nat}(h:∀j,j<n→ρ (a+j)=b+j):zq ρ (qj (dcs a) (prF f n))=qj (dcs b) (prF f n):=yN fun p hp=>h p.1 (jj hp)
theorem J0{P:Program}{fn:FuncId}{aa0 args:List AV}{h:Nat→Ob}{c:Nat}{K:AV→(Nat→Ob)→Prop}(b0 b n z:Nat)(f g:Nat→DyV)(rv:Value)(hb:b0<b∨b+n≤b0)
  (h0:h b0=.own z (qj (dcs b) (prF f n))) (hF:∀j,j<n→h (b+j)=zL f j)
  (hc:Con P fn false args (.own z (qj (dcs 10000001) (prF f n))::(List.range n).map (zL f)) (fun r hs bs=>r=.v rv∧hs=[]∧bs=.own z (qj (dcs 10000001) (prF g n))::(List.range n).map (zL g)))
  (ha:aa0.map (snp (hpx false (Xv b0 b n) h) (idx (Xv b0 b n)) 6)=args)
  (hk:K (.v rv) (fam b n (zL g) (upd h b0 (.own z (qj (dcs b) (prF g n)))))):aa5 P fn aa0 h c K:=by
 have hbs:(Xv b0 b n).map (fun m=>(h m).ren (back (Xv b0 b n)))=.own z (qj (dcs 10000001) (prF f n))::(List.range n).map (zL f):=by
  show(h b0).ren _::((List.range n).map (b+ ·)).map _=_
  rw[h0]
  congr 1
  ·show Ob.own z (zq _ _)=_
   rw[zV fun j hj=>atL hb hj]
  ·rw[List.map_map]
   refine List.map_congr_left fun j hj=>?_
   show(h (b+j)).ren _=_
   rw[hF j (List.mem_range.1 hj),(qA f j).2.1]
 refine⟨false,Xv b0 b n,_,by rw[ha,hbs];exact hc,Z5 hb,fun m hm=>?_,fun r hs bs' hp=>?_⟩
 ·rcases List.mem_cons.1 hm with rfl|hm
  ·exact⟨z,_,h0,zP fun p hp=>by rw[ad0 hb (jj hp)];rfl⟩
  ·obtain⟨j,hj,rfl⟩:=List.mem_map.1 hm
   exact⟨1,_,hF j (List.mem_range.1 hj),QX⟩
 ·obtain⟨rfl,rfl,rfl⟩:=hp
  refine⟨by simp,trivial,fun h=>(by cases h),?_⟩
  have e:Q3 (Xh (rho c (Xv b0 b n)) h c []) (Xv b0 b n) ((Ob.own z (qj (dcs 10000001) (prF g n))::(List.range n).map (zL g)).map (Ob.ren (rho c (Xv b0 b n))))=fam b n (zL g) (upd h b0 (.own z (qj (dcs b) (prF g n)))):=by
   show Q3 (upd h b0 (.own z (zq _ (qj (dcs 10000001) (prF g n))))) ((List.range n).map (b+ ·)) (((List.range n).map (zL g)).map _)=_
   rw[zV fun j hj=>au6 hj,List.map_map,show(List.range n).map (Ob.ren (rho c (Xv b0 b n))∘zL g)=(List.range n).map (zL g) from List.map_congr_left fun j _=>(qA g j).2.1 _,aku]
  rw[e]
  exact hk
theorem Le.rowD{σ:St}(E:List (Nat×AV))(n:Nat)(f:Nat→DyV)(hE:JW id σ.env (nmF [10000000] 10000001 n) E)(h0:σ.hp 10000000=.own 3 (qj (dcs 10000001) (prF f n)))(hF:∀j,j<n→σ.hp (10000001+j)=zL f j):
  Le σ ⟨ofL .un E,fam 10000001 n (zL f) (ofH [(10000000,.own 3 (qj (dcs 10000001) (prF f n)))])⟩:=by
 rw[as5]at h0 ⊢
 exact Le.sameF E n f f (cS f) (cE f) (aB2 f) (aB3 f) hE h0 hF
theorem X7{h:Nat→Ob}{b0 b n m k:Nat}(hb:b0<b∨b+n≤b0):snp h (idx (Xv b0 b n)) (k+1) (.rf b0 0 m)=.rf 10000000 0 m:=by
 show(match idx (Xv b0 b n) b0 with|some i=>AV.rf (10000000+i) 0 m|none=>_)=_
 rw[aoh hb]
theorem anh{N:Nat}{post:AV→List Ob→List Ob→Prop}{e:Nat→AV}{h:Nat→Ob}{n nn z:Nat}{g:Nat→DyV}{v:Value}(hnn:nn=n+1)(hn:n<9000000)(h0:h 10000000=.own z (qj (dcs 10000001) (prF g n)))(hF:∀j,j<n→h (10000001+j)=zL g j)
  (hp:post (.v v) [] (.own z (qj (dcs 10000001) (prF g n))::(List.range n).map (zL g))):@afL N false nn ⟨post⟩ ⟨e⟩ [.v v] h:=by
 refine adF (.own z (qj (dcs 10000001) (prF g n))) n (zL g) [.v v] hnn hn ⟨⟨rfl,trivial⟩,trivial⟩ ⟨?_,?_,trivial⟩ (fun j hj=>⟨?_,(qA _ j).2.2 _,(qA _ j).1⟩) (by simp) hp
 ·rw[h0]
  show Ob.own z (zq id _)=.own z _
  rw[zV fun j hj=>rfl]
 ·exact zP fun p hp=>.inr (by have:=jj hp;omega)
 ·rw[(qA _ j).2.1,hF j hj]
set_option maxRecDepth 100000 in
theorem Zl(m:Int)(f:Nat→DyV)(n k:Nat)(hn:n≤1048576)(hx:∀j,j<n→(f j).xs.length≤1048576)(hkb:∀i,i≤n→kAt k f i≤2^39):Con Tryz.prog 13 false [.ag [.v (.int .i64 m),.rf 10000000 0 n],.v (.int .i64 k)] (.own 3 (qj (dcs 10000001) (prF f n))::(List.range n).map (zL f))
  (fun r hs bs=>r=.v (.int .i64 (kAt k f n))∧hs=[]∧bs=.own 3 (qj (dcs 10000001) (prF (mkd k f) n))::(List.range n).map (zL (mkd k f))):=by
 refine Con.of_aw Tryz.func13 rfl Tryz.ntmps13 (by simp) (by simp;omega) (fun ob ho=>?_) ?_
 ·rcases List.mem_cons.1 ho with rfl|ho
  ·simp
  ·obtain⟨j,hj,rfl⟩:=List.mem_map.1 ho
   simp[zL]
 rw[acH (by omega)]
 refine AW.front1 ?_
 show @W Tryz.prog 10 ⟨_⟩ ⟨fun x σ=>@yv ⟨_⟩ ⟨_⟩ x σ⟩ _ _
 simp(disch:=omega)only[go_sem,qp,qH]
 refine AW.regCallG 3 (by simp only[List.take_succ_cons,List.take_zero];rfl) (by simp only[List.drop_succ_cons,List.drop_zero];rfl) (e':=ofL .un [(6,.rf 10000000 0 n),(7,.v (.int .i64 k))]) (h':=fam 10000001 n (zL f) (ofH [(10000000,.own 3 (qj (dcs 10000001) (prF f n)))])) ?_
  (by decide) rfl rfl (by simp(disch:=omega)only[go_sem]) (by rfl) (J0 10000000 10000001 n 3 f (mkd k f) _ (.inl (by omega)) (by rw[qp (by omega)];rfl) (fun j hj=>qS hj) (acg f n k hn hx hkb) ?_ ?_)
 ·simp(disch:=omega)only[go_sem,qp,qH]
  exact Le.rowD _ n f (by simp(disch:=omega)only[go_sem,JW,nmF,jK];try simp) (by dsimp only;rw[qk (by omega),qp (by omega)];rfl) (fun j hj=>by dsimp only;rw[qk (by omega),qS hj])
 ·show [snp _ _ 6 (.rf 10000000 0 n),snp _ _ 6 (.v _)]=_
  rw[X7 (.inl (by omega))]
  simp[snp,qD]
 ·simp(disch:=omega)only[go_sem,qp,qH]
  refine W.sound ?_
  show @W Tryz.prog 10 ⟨_⟩ ⟨fun x σ=>@qY _ _ _ ⟨_⟩ _ ⟨_⟩ x σ⟩ _ _
  simp(disch:=omega)only[go_sem,qp,qH]
  exact anh (by simp) (by omega) (by rw[qp (by omega),qo]) (fun j hj=>qS hj) ⟨rfl,rfl,rfl⟩
end Go.Ab
namespace Go.Ab
open Go Go.Proofs
/-! ### Marks in a row of intervals-/
end Go.Ab
namespace Go.Ab
open Go Go.Proofs
/-! ### What is held in a row of intervals-/
def vX(f:Nat→DyV)(j:Nat):AV:=.sl (f j).xs.length (qg (f j).xs)
theorem ahG{h:Nat→Ob}{sz n i:Nat}{S X E:Nat→AV}{K:AV→Prop}(hi:i<n):@Qn false sz h (.fp (yp S X E n) (i*3)) ⟨K⟩=K (S i):=by
 have hg:=jJ (S:=S) (X:=X) (E:=E) n (i*3)
 rw[if_pos (by omega),if_pos (by omega),show i*3/3=i by omega]at hg
 rw[Yp,aue,cond_false,zQ,List.getD_eq_getElem?_getD,hg]
 exact propext ⟨fun h=>h.2,fun h=>⟨by omega,h⟩⟩
theorem ahH{h:Nat→Ob}{sz n i:Nat}{S X E:Nat→AV}{K:AV→Prop}(hi:i<n):@Qn false sz h (.fp (yp S X E n) (i*3+2)) ⟨K⟩=K (E i):=by
 have hg:=jJ (S:=S) (X:=X) (E:=E) n (i*3+2)
 rw[if_pos (by omega),if_neg (by omega),if_neg (by omega),show(i*3+2)/3=i by omega]at hg
 rw[Yp,aue,cond_false,zQ,List.getD_eq_getElem?_getD,hg]
 exact propext ⟨fun h=>h.2,fun h=>⟨by omega,h⟩⟩
end Go.Ab
namespace Go.Ab
open Go Go.Proofs
/-! ### Numbers told in rows of their own,in one form (a row may be a ghost)-/
theorem aiu{N:Nat}{post:AV→List Ob→List Ob→Prop}{e:Nat→AV}{h:Nat→Ob}{nm:Nat}(hf:h nm=.free)(hnm:20000000≤nm)(hp:post (.rf 0 0 0) [.own 1 []] []):@afL N false 0 ⟨post⟩ ⟨e⟩ [.v (.slice none 0 0)] h:=by
 have h1:Le ⟨Jb N e [.v (.slice none 0 0)],h⟩ ⟨upd (Jb N e [.v (.slice none 0 0)]) N (.rf nm 0 0),upd h nm (.own 1 [])⟩:=Le.ghost N nm 1 (by
  show Jb N e _ N=_
  unfold Jb
  have:Nat.blt N N=false:=by
   cases hh:Nat.blt N N with
   |false=>rfl
   |true=>have:=Nat.le_of_ble_eq_true hh;omega
  rw[this,cond_false,Nat.sub_self];rfl) hf
 have h2:Le ⟨upd (Jb N e [.v (.slice none 0 0)]) N (.rf nm 0 0),upd h nm (.own 1 [])⟩ ⟨ofL .un (jk N [.rf 0 0 0]),ofH (Qo [.own 1 []] [])⟩:=by
  refine Le.mk (fun m=>if m=0 then nm else m) [(N,.rf 0 0 0)] [(0,.own 1 [])] (fun p hp=>?_) (fun p hp=>?_) (fun p hp q hq _=>?_)
  ·rw[List.mem_singleton.1 hp]
   refine⟨?_,.inl rfl⟩
   show AV.rf (if 0=0 then nm else 0) 0 0=upd _ N _ N
   rw[if_pos rfl,qo]
  ·rw[List.mem_singleton.1 hp]
   refine⟨?_,trivial,by simp,rfl,fun hl=>(by cases hl),fun _=>?_⟩
   ·show Ob.own 1 []=upd _ nm _ (if 0=0 then nm else 0)
    rw[if_pos rfl,qo]
   ·show zW (if 0=0 then nm else 0)=false
    rw[if_pos rfl];exact yx hnm
  ·rw[List.mem_singleton.1 hp,List.mem_singleton.1 hq]
 refine⟨_,[.own 1 []],[],[.rf 0 0 0],h1.trans h2,aas (by simp) (by simp),by simp,rfl,fun ob ho=>(by cases ho),fun ob ho=>?_,fun h=>(by cases h),fun h=>(by cases h),rfl,fun i hi=>?_,fun h=>(by cases h),?_,hp⟩
 ·rw[List.append_nil,List.mem_singleton]at ho
  rw[ho];exact trivial
 ·have:i=0:=by simp at hi;omega
  subst this
  show ofL .un (jk N [AV.rf 0 0 0]) (N+0)=_
  rw[y3,if_pos (by omega),show N+0-N=0 by omega]
 ·show rhp [.own 1 []] [] 0≠ .free
  simp[rhp]
theorem afo(xs:List Int)(hl:xs.length≤2^39):Con Tryz.prog 304 false [.sl xs.length (qg xs)] [] (fun r hs bs=>r=.rf 0 0 xs.length∧hs=[.own 1 (qg xs)]):=by
 refine Con.of_aw Tryz.func304 rfl Tryz.ntmps304 (by simp) (by simp) (by simp) (W.sound ?_)
 show @W Tryz.prog 8 ⟨_⟩ ⟨fun x σ=>@qY _ _ _ ⟨_⟩ _ ⟨_⟩ x σ⟩ _ _
 simp(disch:=omega)only[go_sem]
 refine⟨fun h0=>?_,?_⟩
 ·have:xs=[]:=by cases xs with|nil=>rfl|cons a r=>cases h0
  subst this
  exact aiu (nm:=990000000) (by simp(disch:=omega)only[go_sem]) (by omega) ⟨rfl,rfl⟩
 ·refine⟨by omega,?_⟩
  refine ql [(0,90000000)] [.own 1 (qg xs)] [] [.rf 0 0 xs.length] rfl (by simp(disch:=omega)only[go_sem]) (by simp(disch:=omega)only[go_sem]) (by simp) (by simp) ⟨rfl,rfl⟩
theorem ae8(m:Nat)(hl:(lim m).length≤2^39)(hf:jz m=true):Con Tryz.prog 263 false [.sl (lim (m)).length (qg (lim (m)))] [] (fun r hs bs=>r=.tu [.ag [.rf 0 0 (lim m).length],.v (.bool true)]∧hs=[.own 1 (qg (lim m))]):=by
 have c1:¬((lim m).length:Int)>100:=by unfold jz at hf;simp at hf;omega
 refine Con.of_aw Tryz.func263 rfl Tryz.ntmps263 (by simp) (by simp) (by simp) (W.sound ?_)
 show @W Tryz.prog 11 ⟨_⟩ ⟨fun x σ=>@qY _ _ _ ⟨_⟩ _ ⟨_⟩ x σ⟩ _ _
 simp(disch:=omega)only[go_sem]
 refine qh (fun c2=>absurd c2 (by omega)) (fun c2=>?_)
 simp(disch:=omega)only[go_sem,c2]
 refine qw (afo (lim m) (by omega)) (by simp(disch:=omega)only[go_sem]) ?_
 rintro r hs ⟨rfl,rfl⟩
 refine⟨by simp[qB];try simp(disch:=omega)only[go_sem],?_⟩
 simp(disch:=omega)only[go_sem]
 refine ql [(0,110000000)] [.own 1 (qg (lim m))] [] [.ag [.rf 0 0 (lim m).length],.v (.bool true)] rfl (by simp(disch:=omega)only[go_sem]) (by simp(disch:=omega)only[go_sem]) (by simp) (by simp) ⟨rfl,rfl⟩
theorem aax(s:Bool)(m:Nat)(hl:(lim m).length≤2^39)(hf:jz m=true):Con Tryz.prog 202 false [.v (.bool s),.sl (lim (m)).length (qg (lim (m)))] [] (fun r hs bs=>r=.tu [.ag [.v (.bool (s&&decide (m≠0))),.rf 0 0 (lim m).length],.v (.bool true)]∧hs=[.own 1 (qg (lim m))]):=by
 have hq:decide ((0:Int)<((lim m).length:Int))=decide (m≠0):=by
  rw[decide_eq_decide]
  exact⟨fun h e=>by rw[e,qr]at h;simp at h,fun h=>by have:=yG h;omega⟩
 refine Con.of_aw Tryz.func202 rfl Tryz.ntmps202 (by simp) (by simp) (by simp) (W.sound ?_)
 show @W Tryz.prog 24 ⟨_⟩ ⟨fun x σ=>@qY _ _ _ ⟨_⟩ _ ⟨_⟩ x σ⟩ _ _
 simp(disch:=omega)only[go_sem]
 refine qw (ae8 m hl hf) (by simp(disch:=omega)only[go_sem]) ?_
 rintro r hs ⟨rfl,rfl⟩
 refine⟨by simp[qB];try simp(disch:=omega)only[go_sem],?_⟩
 cases s
 ·simp(disch:=omega)only[go_sem]
  refine ql [(0,120000000)] [.own 1 (qg (lim m))] [] [.ag [.v (.bool (false&&decide (m≠0))),.rf 0 0 (lim m).length],.v (.bool true)] rfl (by simp(disch:=omega)only[go_sem]) (by simp(disch:=omega)only[go_sem]) (by simp) (by simp) ⟨rfl,rfl⟩
 ·simp(disch:=omega)only[go_sem,hq]
  refine ql [(0,120000000)] [.own 1 (qg (lim m))] [] [.ag [.v (.bool (true&&decide (m≠0))),.rf 0 0 (lim m).length],.v (.bool true)] rfl (by simp(disch:=omega)only[go_sem,Bool.true_and]) (by simp(disch:=omega)only[go_sem]) (by simp) (by simp) ⟨rfl,rfl⟩
theorem ajx(x:ExV)(hx:x.bd (-400000) 400000)(hf:x.fit=true):Con Tryz.prog 123 false [.ag [.v (.bool (x).s),.sl (lim (x).m).length (qg (lim (x).m)),.v (.int .i64 (x).e)]] [] (fun r hs bs=>r=.tu [.ag [.v (.bool x.can.s),.rf 0 0 (lim x.can.m).length,.v (.int .i64 x.can.e)],.v (.bool true)]∧hs=[.own 1 (qg (lim x.can.m))]):=by
 obtain⟨b1,b2,b3⟩:=hx
 have hb:=Nat.le_trans (jc (arm x.m)) (show bl x.m≤10000000 by omega)
 have hl:=qv hb
 have co:=acb x.s x.m x.e (by omega) (by omega)
 have hff:(jz (oM x.m)&&(decide (-3000≤oE x.m x.e)&&decide (oE x.m x.e≤3000)))=true:=hf
 rw[Bool.and_eq_true]at hff
 obtain⟨f1,f2⟩:=hff
 have cw:=aax (oS x.s x.m) (oM x.m) (by omega) f1
 have hs:(oS x.s x.m&&decide (oM x.m≠0))=oS x.s x.m:=by
  unfold oS
  by_cases h:x.m=0
  ·rw[if_pos h];rfl
  ·rw[if_neg h,decide_eq_true (show oM x.m≠0 from fun e=>h (jD.1 e)),Bool.and_true]
 rw[hs]at cw
 have ci:=jl (oE x.m x.e) (-3000) 3000
 rw[f2]at ci
 show Con _ _ _ _ _ (fun r hs bs=>r=.tu [.ag [.v (.bool (oS x.s x.m)),.rf 0 0 (lim (oM x.m)).length,.v (.int .i64 (oE x.m x.e))],.v (.bool true)]∧hs=[.own 1 (qg (lim (oM x.m)))])
 generalize oM x.m=M at*
 generalize oS x.s x.m=S at*
 generalize oE x.m x.e=E at*
 refine Con.of_aw Tryz.func123 rfl Tryz.ntmps123 (by simp) (by simp) (by simp) (W.sound ?_)
 show @W Tryz.prog 29 ⟨_⟩ ⟨fun x σ=>@qY _ _ _ ⟨_⟩ _ ⟨_⟩ x σ⟩ _ _
 simp(disch:=omega)only[go_sem]
 refine qa (co) ?_
 simp(disch:=omega)only[go_sem]
 refine qw cw (by simp(disch:=omega)only[go_sem]) ?_
 rintro r hs ⟨rfl,rfl⟩
 refine⟨by simp[qB];try simp(disch:=omega)only[go_sem],?_⟩
 simp(disch:=omega)only[go_sem]
 refine qm (ci) ?_
 simp(disch:=omega)only[go_sem]
 refine ql [(0,150000000)] [.own 1 (qg (lim M))] [] [.ag [.v (.bool S),.rf 0 0 (lim M).length,.v (.int .i64 E)],.v (.bool true)] rfl (by simp(disch:=omega)only[go_sem]) (by simp(disch:=omega)only[go_sem]) (by simp) (by simp) ⟨rfl,rfl⟩
end Go.Ab
namespace Go.Ab
open Go Go.Proofs
/-! ### A matrix of intervals with rows of its own-/
def ivf(l:List SpV)(j:Nat):DyV:=(if j % 2=0 then(l.getD (j/2) sp0).lo.can else(l.getD (j/2) sp0).hi.can).dyv
theorem alI{f:Nat→DyV}{n:Nat}:prF f (n+1)=prF f n++[(n,f n)]:=by simp[prF,List.range_succ]
theorem Vm{b:Nat}{f:Nat→DyV}{n:Nat}:(qj (dcs b) (prF f n)).length=n*3:=by rw[aiQ,aqU]
def aDD(i m:Nat):Nat:=if m=1 then 330000000 else if m=500000000+2*i then 230000000 else if m=500000000+(2*i+1)then 230000001 else m
end Go.Ab
namespace Go.Ab
open Go Go.Proofs
theorem ag4:∀{a b:List AV},AV.pu.puL a→AV.pu.puL b→AV.pu.puL (a++b)
 | [],b,_,h=>h
 |x::a,b,h,h'=>⟨h.1,ag4 h.2 h'⟩
theorem aiP{b:Nat}:∀{L:List (Nat×DyV)},AV.pu.puL (qj (dcs b) L)
 | []=>trivial
 |p::L=>by
  rw[qO]
  exact ag4 (by simp[dcs,AV.pu,AV.pu.puL]) aiP
theorem ahM(f:Nat→DyV)(j:Nat):(zL f j).pu:=by unfold zL;simp[Ob.pu,qV]
end Go.Ab
namespace Go.Ab
open Go Go.Proofs
/-! ### How much there is in all-/
def smF(f:Nat→DyV):Nat→Nat
 |0=>0
 |j+1=>smF f j+(f j).xs.length
theorem adt{k:Nat}{f:Nat→DyV}:∀i,kAt k f i=k+smF f i+2*i
 |0=>rfl
 |i+1=>by
  show kAt k f i+(f i).xs.length+2=k+(smF f i+(f i).xs.length)+2*(i+1)
  rw[adt i];omega
theorem JQ{f:Nat→DyV}{i:Nat}:∀n,i≤n→smF f i≤smF f n
 |0,h=>by rw[show i=0 by omega];exact Nat.le_refl _
 |n+1,h=>by
  show _≤smF f n+_
  rcases Nat.lt_or_ge i (n+1)with c|c
  ·have:=JQ (f:=f) n (show i≤n by omega);omega
  ·rw[show i=n+1 by omega];exact Nat.le_refl _
theorem abq{f:Nat→DyV}{i n:Nat}(h:i<n):(f i).xs.length≤smF f n:=by
 have h1:=JQ (f:=f) (i:=i+1) n (by omega)
 have h2:smF f (i+1)=smF f i+(f i).xs.length:=rfl
 omega
theorem aiY(l:List DyV)(left:Nat)(hl:l.length≤9223372036854775807)(hx:∀x∈l,x.xs.length≤9223372036854775807)(h:left≤2^40):
  Con Tryz.prog 39 true [.sl l.length (qj DyV.cs l),.v (.int .i64 left)] [] (fun r hs bs=>∃v:Int,r=.v (.int .i64 v)∧hs=[]∧bs=[]∧(v= -1∨(0≤v∧l.length+smF (fun j=>l.getD j dy0) l.length≤left))):=by
 refine Con.of_aw Tryz.func39 rfl Tryz.ntmps39 (by simp) (by simp) (by simp) (W.sound ?_)
 show @W Tryz.prog 27 ⟨_⟩ ⟨fun x σ=>@qY _ _ _ ⟨_⟩ _ ⟨_⟩ x σ⟩ _ _
 simp(disch:=omega)only[go_sem]
 refine qh (fun h1=>?_) (fun h1=>?_)
 ·simp(disch:=omega)only[go_sem,h1]
  exact qu (by simp(disch:=omega)only[go_sem]) (by simp(disch:=omega)only[go_sem]) ⟨-1,rfl,rfl,rfl,.inl rfl⟩
 ·simp(disch:=omega)only[go_sem,h1]
  refine qi (fun x:Nat×Nat=>[(0,.sl l.length (qj DyV.cs l)),(1,.v (.int .i64 x.2)),(5,.v (.int .i64 x.1))]) (fun _=>[]) (fun x=>x.1≤l.length∧x.2+l.length+smF (fun j=>l.getD j dy0) x.1=left) (fun x=>l.length-x.1) (0,left-l.length) ⟨by omega,by show left-l.length+l.length+0=left;omega⟩
   (Le.lst [] _ _ rfl (by simp(disch:=omega)only[go_sem];try omega) (by simp(disch:=omega)only[go_sem])) ?_
  rintro⟨i,lf⟩ ⟨hi,hlf⟩
  dsimp only at hi hlf ⊢
  simp(disch:=omega)only[go_sem]
  refine qh (fun h2=>?_) (fun h2=>?_)
  ·have hcut:=Qv (l:=l) XE (i:=i) (by omega) dy0
   have hmem:l.getD i dy0∈l:=by
    rw[List.getD_eq_getElem?_getD,List.getElem?_eq_getElem (by omega)];exact List.getElem_mem _
   have hsm:smF (fun j=>l.getD j dy0) (i+1)=smF (fun j=>l.getD j dy0) i+(l.getD i dy0).xs.length:=rfl
   have hxm:=hx _ hmem
   have cz:Con Tryz.prog 90 true [.ag (l.getD i dy0).cs,.v (.int .i64 lf)] [] (isA (.v (.int .i64 (szL lf (l.getD i dy0).xs.length)))):=anL (l.getD i dy0).s (l.getD i dy0).xs (l.getD i dy0).e lf hxm (by omega)
   simp(disch:=omega)only[go_sem,h2,hcut]
   refine⟨by omega,by omega,?_⟩
   refine qs cz (by simp(disch:=omega)only[go_sem]) ?_
   rintro r hs ⟨rfl,rfl,_⟩
   refine⟨by simp[qB],?_⟩
   unfold szL
   by_cases h3:(lf:Int)-((l.getD i dy0).xs.length:Int)<0
   ·rw[if_pos h3]
    simp(disch:=omega)only[go_sem]
    exact qu (by simp(disch:=omega)only[go_sem]) (by simp(disch:=omega)only[go_sem]) ⟨-1,rfl,rfl,rfl,.inl rfl⟩
   ·rw[if_neg h3]
    simp(disch:=omega)only[go_sem,h3]
    exact qe (i+1,lf-(l.getD i dy0).xs.length) [] ⟨by show i+1≤_;omega,by show lf-(l.getD i dy0).xs.length+l.length+smF _ (i+1)=left;rw[hsm];omega⟩ (by show l.length-(i+1)<l.length-i;omega) rfl (by simp(disch:=omega)only[go_sem];try omega) (by simp(disch:=omega)only[go_sem])
  ·simp(disch:=omega)only[go_sem,h2]
   obtain rfl:i=l.length:=by omega
   exact qu (by simp(disch:=omega)only[go_sem]) (by simp(disch:=omega)only[go_sem]) ⟨lf,rfl,rfl,rfl,.inr ⟨by omega,by omega⟩⟩
theorem Jg(k:Int)(l:List DyV)(left:Nat)(hl:l.length≤9223372036854775807)(hx:∀x∈l,x.xs.length≤9223372036854775807)(h:left≤2^40):
  Con Tryz.prog 15 true [.ag [.v (.int .i64 k),.sl l.length (qj DyV.cs l)],.v (.int .i64 left)] [] (fun r hs bs=>∃v:Int,r=.v (.int .i64 v)∧hs=[]∧bs=[]∧(v= -1∨(0≤v∧l.length+smF (fun j=>l.getD j dy0) l.length≤left))):=by
 refine Con.of_aw Tryz.func15 rfl Tryz.ntmps15 (by simp) (by simp) (by simp) (W.sound ?_)
 show @W Tryz.prog 12 ⟨_⟩ ⟨fun x σ=>@qY _ _ _ ⟨_⟩ _ ⟨_⟩ x σ⟩ _ _
 simp(disch:=omega)only[go_sem]
 refine qs (aiY l left hl hx h) (by simp(disch:=omega)only[go_sem]) ?_
 rintro r hs ⟨v,rfl,rfl, -,hv⟩
 refine⟨by simp[qB],?_⟩
 rcases hv with rfl|⟨h0,h1⟩
 ·simp(disch:=omega)only[go_sem]
  exact qu (by simp(disch:=omega)only[go_sem]) (by simp(disch:=omega)only[go_sem]) ⟨-1,rfl,rfl,rfl,.inl rfl⟩
 ·simp(disch:=omega)only[go_sem,decide_eq_false (show ¬v<0 by omega)]
  exact qu (by simp(disch:=omega)only[go_sem]) (by simp(disch:=omega)only[go_sem]) ⟨v,rfl,rfl,rfl,.inr ⟨h0,h1⟩⟩
end Go.Ab
namespace Go.Ab
open Go Go.Proofs
/-! ### What is held in a row of numbers-/
set_option maxRecDepth 100000 in
theorem acu(f:Nat→DyV)(n k:Nat)(hn:n≤1048576)(hx:∀j,j<n→(f j).xs.length≤1048576)(hkb:∀i,i≤n→kAt k f i≤2^39):Con Tryz.prog 38 true [.sl n (yp (cS (mkd k f)) (vX (mkd k f)) (cE (mkd k f)) n),.v (.int .i64 k)] [] (isA (.v (.int .i64 (kAt k f n)))):=by
 refine Con.of_w (rs:=[.tmp 4]) Tryz.func38 rfl Tryz.ntmps38 rfl ?_
 simp(disch:=omega)only[go_sem]
 refine qi (fun i:Nat=>[(0,.sl n (yp (cS (mkd k f)) (vX (mkd k f)) (cE (mkd k f)) n)),(1,.v (.int .i64 (kAt k f i))),(5,.v (.int .i64 i))]) (fun _=>[]) (fun i=>i≤n) (fun i=>n-i) 0 (by omega)
  (Le.lst [] _ _ rfl (by simp(disch:=omega)only[go_sem,kAt]) (by simp(disch:=omega)only[go_sem])) ?_
 intro i hi
 have hki:=hkb i (by omega)
 simp(disch:=omega)only[go_sem]
 refine qh (fun c1=>?_) (fun c1=>?_)
 ·have hi2:i<n:=by omega
  have hki1:=hkb (i+1) (by omega)
  have x0:=hx i hi2
  have l0:=fun(h:Nat→Ob) (K:AV→Prop)=>ahG (h:=h) (sz:=1) (S:=cS (mkd k f)) (X:=vX (mkd k f)) (E:=cE (mkd k f)) (K:=K) hi2
  have l1:=fun(h:Nat→Ob) (K:AV→Prop)=>K4 (h:=h) (sz:=1) (S:=cS (mkd k f)) (X:=vX (mkd k f)) (E:=cE (mkd k f)) (K:=K) hi2
  have l2:=fun(h:Nat→Ob) (K:AV→Prop)=>ahH (h:=h) (sz:=1) (S:=cS (mkd k f)) (X:=vX (mkd k f)) (E:=cE (mkd k f)) (K:=K) hi2
  have cS0:∀j,cS (mkd k f) j=.v (.bool (decide (((kAt k f j:Nat):Int) % 3=0))):=fun j=>rfl
  have cE0:∀j,cE (mkd k f) j=.v (.int .i64 ((kAt k f j+1+(f j).xs.length:Nat):Int)):=fun j=>rfl
  have vX0:∀j,vX (mkd k f) j=.sl (f j).xs.length (qg (mkI (kAt k f j+1) (f j).xs.length)):=fun j=>by
   unfold vX
   rw[show(mkd k f j).xs.length=(f j).xs.length from Zg _ _];rfl
  rw[cS0]at l0
  rw[vX0]at l1
  rw[cE0]at l2
  have e1:((kAt k f i:Nat):Int)+1=((kAt k f i+1:Nat):Int):=by omega
  have e2:((kAt k f i+1+(f i).xs.length:Nat):Int)+1=((kAt k f (i+1):Nat):Int):=by
   show _=((kAt k f i+(f i).xs.length+2:Nat):Int)
   omega
  have h1:=JB (kAt k f i+1) (f i).xs.length (by omega) (by omega)
  have q1:decide (((kAt k f i+1+(f i).xs.length:Nat):Int)<0)=false:=decide_eq_false (by omega)
  have qb:∀b:Bool,(b != b)=false:=fun b=>by cases b<;>rfl
  simp(disch:=omega)only[go_sem,c1,l0,l1,l2,e1,qb,zQ]
  refine⟨⟨by omega,by omega⟩,⟨by omega,by omega⟩,?_⟩
  refine qm (h1) ?_
  simp(disch:=omega)only[go_sem]
  simp(disch:=omega)only[go_sem,l2,e2,qb,q1,zQ]
  refine⟨⟨by omega,by omega,by omega⟩,qe (i+1) [] (by show i+1≤_;omega) (by show n-(i+1)<n-i;omega) rfl (by simp(disch:=omega)only[go_sem];try omega) (by simp(disch:=omega)only[go_sem])⟩
 ·simp(disch:=omega)only[go_sem,c1]
  obtain rfl:i=n:=by omega
  exact qt
theorem act(m:Int)(f:Nat→DyV)(n k:Nat)(hn:n≤1048576)(hx:∀j,j<n→(f j).xs.length≤1048576)(hkb:∀i,i≤n→kAt k f i≤2^39):Con Tryz.prog 14 true [.ag [.v (.int .i64 m),.sl n (yp (cS (mkd k f)) (vX (mkd k f)) (cE (mkd k f)) n)],.v (.int .i64 k)] [] (isA (.v (.int .i64 (kAt k f n)))):=by
 have c:=acu f n k hn hx hkb
 have q:decide (((kAt k f n:Nat):Int)<0)=false:=decide_eq_false (by omega)
 generalize kAt k f n=M at*
 refine Con.of_w (rs:=[.tmp 4]) Tryz.func14 rfl Tryz.ntmps14 rfl ?_
 simp(disch:=omega)only[go_sem]
 refine qm (c) ?_
 simp(disch:=omega)only[go_sem]
 simp(disch:=omega)only[go_sem,q]
 exact qt
end Go.Ab
namespace Go.Ab
open Go Go.Proofs
/-! ### A matrix,and a number,with rows of their own-/
def exf(l:List ExV)(j:Nat):DyV:=(l.getD j ex0).can.dyv
def agY(A B i m:Nat):Nat:=if m=1 then A else if m=500000000+i then B else m
theorem Vh{A B i:Nat}:agY A B i 1=A:=if_pos rfl
theorem Vj{A B i:Nat}:agY A B i (500000000+i)=B:=by unfold agY;rw[if_neg (by omega),if_pos rfl]
theorem Vi{A B i j:Nat}(h:j<i):agY A B i (500000000+j)=500000000+j:=by unfold agY;rw[if_neg (by omega),if_neg (by omega)]
theorem Le.moveF{σ:St}(A B:Nat)(E:List (Nat×AV))(z i:Nat)(f:Nat→DyV)(hA:20000000≤A∧A<500000000)(hB:20000000≤B∧B<500000000)(hAB:A≠B)
  (hE:JW (agY A B i) σ.env (nmF [1] 500000000 (i+1)) E) (h0:σ.hp A=.own z (qj (dcs 500000000) (prF f i)++[.v (.bool (f i).s),.rf B 0 (f i).xs.length,.v (.int .i64 (f i).e)]))
  (hF:∀j,j<i→σ.hp (500000000+j)=zL f j) (h1:σ.hp B=zL f i):Le σ ⟨ofL .un E,fam 500000000 (i+1) (zL f) (ofH [(1,.own z (qj (dcs 500000000) (prF f (i+1))))])⟩:=by
 have hval:∀m,nmF [1] 500000000 (i+1) m→(m=1∧agY A B i m=A)∨(500000000≤m∧m<500000000+i∧agY A B i m=m)∨(m=500000000+i∧agY A B i m=B):=fun m hm=>by
  rcases hm with hm|hm
  ·have hm1:m=1:=by simp[jK]at hm;omega
   subst hm1
   exact .inl ⟨rfl,Vh⟩
  ·rcases(show m<500000000+i∨m=500000000+i by omega)with h|h
   ·obtain⟨j,rfl⟩:∃j,m=500000000+j:=⟨m-500000000,by omega⟩
    exact .inr (.inl ⟨by omega,by omega,Vi (by omega)⟩)
   ·subst h
    exact .inr (.inr ⟨rfl,Vj⟩)
 refine Le.famL (agY A B i) _ _ 500000000 (i+1) (zL f) rfl (fun q hq=>.inl ?_) hE ⟨⟨?_,?_,trivial⟩,trivial⟩ (fun j hj=>⟨?_,(qA _ j).2.2 _,(qA _ j).1⟩) (fun m hm=>?_) (fun m m' hm hm' e=>?_)
 ·rw[List.mem_singleton.1 hq];show 1<500000000;omega
 ·rw[Vh,h0]
  show Ob.own z (zq _ _)=_
  rw[alI,←yi,QP,zV fun j hj=>Vi hj]
  show Ob.own z (_++[_,AV.rf (agY A B i (500000000+i)) 0 _,_])=_
  rw[Vj];rfl
 ·exact zP fun p hp=>.inr (by have:=jj hp;omega)
 ·rw[(qA _ j).2.1]
  rcases(show j<i∨j=i by omega)with h|rfl
  ·rw[Vi h,hF j h]
  ·rw[Vj,h1]
 ·rcases hval m hm with⟨rfl,h⟩|⟨a,b,h⟩|⟨a,h⟩
  ·rw[h];exact⟨fun h=>(by cases h),fun _=>yx hA.1⟩
  ·rw[h];exact⟨fun _=>rfl,fun h=>h⟩
  ·rw[h];exact⟨fun h=>(by rw[yx (by omega)]at h;cases h),fun _=>yx hB.1⟩
 ·have a:=hval m hm
  have b:=hval m' hm'
  omega
set_option maxRecDepth 100000 in
theorem anU(l:List ExV)(hl:l.length≤1000)(hb:gbd (-400000) 400000 l)(hall:l.all ExV.fit=true):Con Tryz.prog 197 false [.sl l.length (qj ExV.cs l)] []
  (fun r hs bs=>r=.tu [.rf 0 0 l.length,.v (.bool true)]∧hs=.own 3 (qj (dcs 1) (prF (exf l) l.length))::(List.range l.length).map (zL (exf l))):=by
 refine Con.of_w (rs:=[.tmp 2,.tmp 3]) Tryz.func197 rfl Tryz.ntmps197 rfl ?_
 simp(disch:=omega)only[go_sem]
 refine Zh (S:=fun i:Nat=>⟨ofL .un [(2,.v (.slice none 0 0)),(3,.v (.bool false)),(4,.rf 1 0 i),(9,.sl l.length (qj ExV.cs l)),(10,.v (.int .i64 l.length)),(11,.v (.int .i64 i))],fam 500000000 i (zL (exf l)) (ofH [(1,.own 3 (qj (dcs 500000000) (prF (exf l) i)))])⟩) (fun i=>i≤l.length) (fun i=>l.length-i) 0 (by omega)
  (Le.fam0 _ _ _ _ ((Le.ghost 4 1 3 (by simp(disch:=omega)only[go_sem]) (by simp(disch:=omega)only[go_sem])).trans (Le.lst [] _ _ rfl (by simp(disch:=omega)only[go_sem]) (by simp(disch:=omega)only[go_sem,show qj (dcs 500000000) (prF (exf l) 0)=[] from rfl])))) ?_
 intro i hi
 show @W Tryz.prog 28 ⟨_⟩ ⟨_⟩ (ofL .un _) (fam 500000000 i _ (ofH _))
 simp(disch:=omega)only[go_sem]
 refine qh (fun c1=>?_) (fun c1=>?_)
 ·have hi2:i<l.length:=by omega
  have hci:=zM hi2
  have hx:=zE hb hi2
  have hmem:l.getD i ex0∈l:=by rw[List.getD_eq_getElem?_getD,List.getElem?_eq_getElem hi2];exact List.getElem_mem _
  have hft:(l.getD i ex0).fit=true:=List.all_eq_true.1 hall _ hmem
  have hg:exf l i=(l.getD i ex0).can.dyv:=rfl
  have hcut:cut (qj (dcs 500000000) (prF (exf l) i)) 0 (i*3)=qj (dcs 500000000) (prF (exf l) i):=by
   unfold cut
   rw[List.drop_zero,List.take_of_length_le (by rw[Vm];omega)]
  have cd:=ajx _ hx hft
  generalize l.getD i ex0=x at*
  generalize x.can=u at*
  simp(disch:=omega)only[go_sem,c1,hci,qp]
  refine⟨by omega,by omega,?_⟩
  refine qw cd (by simp(disch:=omega)only[go_sem]) ?_
  rintro r hs ⟨rfl,rfl⟩
  refine⟨by simp[qB];simp(disch:=omega)only[go_sem,qp],?_⟩
  simp(disch:=omega)only[go_sem,qp,hcut]
  refine⟨⟨by rw[Vm];omega,by omega⟩,Zf (i+1) (by show i+1≤l.length;omega) (by show l.length-(i+1)<l.length-i;omega) (Le.moveF 270000000 190000000 _ 3 i (exf l) (by omega) (by omega) (by omega) (by simp(disch:=omega)only[go_sem,JW,nmF,jK,Vh];try simp) ?_ (fun j hj=>?_) ?_)⟩
  ·dsimp only
   rw[qo,hg];rfl
  ·dsimp only
   repeat rw[qk (by omega)]
   rw[qS hj]
  ·dsimp only
   rw[qk (by omega),qk (by omega),qk (by omega),qk (by omega),qk (by omega),qo]
   unfold zL;rw[hg];rfl
 ·simp(disch:=omega)only[go_sem,c1,qp]
  obtain rfl:i=l.length:=by omega
  refine Yy (fun m=>if m=0 then 1 else 500000000+(m-1)) (.own 3 (qj (dcs 1) (prF (exf l) l.length))) l.length (zL (exf l)) [.rf 0 0 l.length,.v (.bool true)] (by omega) (by simp(disch:=omega)only[go_sem,amD,nmF,jK];try simp) ⟨?_,?_,trivial⟩ (fun j hj=>⟨?_,(qA _ j).2.2 _,(qA _ j).1⟩) (fun m hm=>?_) (fun m m' hm hm' e=>?_) (by simp) ⟨rfl,rfl⟩
  ·show Ob.own 3 (zq _ (qj (dcs 1) (prF (exf l) l.length)))=_
   rw[zV (a:=1) (b:=500000000) (fun j hj=>by rw[if_neg (by omega)];omega)]
   show _=fam _ _ _ _ 1
   rw[qp (by omega)]
   rfl
  ·exact zP fun p hp=>.inr (by have:=jj hp;omega)
  ·rw[(qA _ j).2.1]
   show _=fam _ _ _ _ (if 1+j=0 then 1 else 500000000+(1+j-1))
   rw[if_neg (by omega),show 1+j-1=j by omega,qS hj]
  ·by_cases h:m=0
   ·rw[if_pos h];rfl
   ·rw[if_neg h];exact yx (by omega)
  ·have e:(if m=0 then 1 else 500000000+(m-1))=(if m'=0 then 1 else 500000000+(m'-1)):=e
   split at e<;>split at e<;>omega
theorem anP(n:Nat)(l:List ExV)(hl:l.length≤1000)(hb:gbd (-400000) 400000 l)(hall:l.all ExV.fit=true):Con Tryz.prog 120 false [.ag [.v (.int .i64 (n)),.sl (l).length (qj ExV.cs (l))]] []
  (fun r hs bs=>r=.tu [.ag [.v (.int .i64 n),.rf 0 0 l.length],.v (.bool true)]∧hs=.own 3 (qj (dcs 1) (prF (exf l) l.length))::(List.range l.length).map (zL (exf l))):=by
 have cd:=anU l hl hb hall
 have hFp:=qA (exf l)
 generalize exf l=g at*
 refine Con.of_w (rs:=[.cell 2 25,.tmp 3]) Tryz.func120 rfl Tryz.ntmps120 rfl ?_
 simp(disch:=omega)only[go_sem]
 refine qw cd (by simp(disch:=omega)only[go_sem]) ?_
 rintro r hs ⟨rfl,rfl⟩
 refine⟨⟨by simp;omega,yK fun j hj=>?_⟩,?_⟩
 ·rw[qk (by omega),qk (by omega),XX (by omega)]
 have hrow:zq (rho 110000000 []) (qj (dcs 1) (prF g l.length))=qj (dcs 110000001) (prF g l.length):=zV fun j hj=>by
  unfold rho;rw[if_pos (by omega)];omega
 simp(disch:=omega)only[go_sem,Q2 hFp,qp,hrow]
 refine Yy (fun m=>110000000+m) (.own 3 (qj (dcs 1) (prF g l.length))) l.length (zL g) [.ag [.v (.int .i64 n),.rf 0 0 l.length],.v (.bool true)] (by omega) (by simp(disch:=omega)only[go_sem,amD,nmF,jK];try simp) ⟨?_,?_,trivial⟩ (fun j hj=>⟨?_,(qA _ j).2.2 _,(qA _ j).1⟩) (fun m hm=>yx (by omega)) (fun m m' hm hm' e=>Nat.add_left_cancel e) (by simp) ⟨rfl,rfl⟩
 ·show Ob.own 3 (zq _ (qj (dcs 1) (prF g l.length)))=_
  rw[zV (a:=1) (b:=110000001) (fun j hj=>by omega),qk (by omega),qp (by omega)]
  exact(qo _ _ _).symm
 ·exact zP fun p hp=>.inr (by have:=jj hp;omega)
 ·rw[(qA _ j).2.1,qk (by omega),show 110000000+(1+j)=110000001+j by omega,qS hj]
end Go.Ab
namespace Go.Ab
open Go Go.Proofs
/-! ### The exponential,rounded,with rows of its own-/
def exg(l:List ExV)(x:ExV)(j:Nat):DyV:=if j<l.length then(l.getD j ex0).can.dyv else x.can.dyv
theorem ay5{l:List ExV}{x:ExV}{j:Nat}(h:j<l.length):exg l x j=exf l j:=if_pos h
theorem aiw{l:List ExV}{x:ExV}:exg l x l.length=x.can.dyv:=if_neg (by omega)
theorem ag7{f g:Nat→DyV}{n:Nat}(h:∀j,j<n→f j=g j):prF f n=prF g n:=List.map_congr_left fun j hj=>by rw[h j (List.mem_range.1 hj)]
theorem aeG{f g:Nat→DyV}{n:Nat}(h:∀j,j<n→f j=g j):(List.range n).map (zL f)=(List.range n).map (zL g):=List.map_congr_left fun j hj=>by unfold zL;rw[h j (List.mem_range.1 hj)]
theorem aoW{H:List (Nat×Ob)}{s:Nat}(h:∀q∈H,q.1≠s)(hs:20000000≤s):ofH H s=.free:=by
 rcases jZ (l:=H) (s:=s) (d:=(bif zW s then .dead else .free:Ob))with⟨w,h2, -⟩|h2
 ·exact absurd rfl (h _ h2)
 ·have:ofH H s=_:=h2
  rw[this,yx hs];rfl
def amB(g:Nat→DyV)(k:Nat):List Ob:=(List.range k).map (zL g)
@[simp] theorem az4 {g:Nat→DyV} {k:Nat}:(amB g k).length=k:=by simp[amB]
theorem aa8{ρ:Nat→Nat}{h:Nat→Ob}{c k:Nat}{g:Nat→DyV}:Xh ρ h c (amB g k)=fam c k (zL g) h:=Q2 (qA g)
theorem XB{h:Nat→Ob}{c n:Nat}{row:Ob}{g:Nat→DyV}(hh:∀j,j≤n→h (c+j)=.free):qB h c (row::amB g n):=yK hh
def mnO(n N:Nat)(g:Nat→DyV):AV→List Ob→List Ob→Prop:=fun r hs bs=>r=.tu [.ag [.v (.int .i64 n),.rf 0 0 N],.ag [.v (.bool (g N).s),.rf (N+1) 0 (g N).xs.length,.v (.int .i64 (g N).e)],.v (.bool true)]∧hs=.own 3 (qj (dcs 1) (prF g N))::amB g (N+1)
def mnZ:AV→List Ob→List Ob→Prop:=fun r hs bs=>r=.tu [.ag [.v (.int .i64 0),.v (.slice none 0 0)],.ag [.v (.bool false),.v (.slice none 0 0),.v (.int .i64 0)],.v (.bool false)]∧hs=[]
def alv(R D N m:Nat):Nat:=if m≤N then R+m else D
theorem au7{R D N:Nat}:alv R D N 0=R:=if_pos (by omega)
theorem agW{R D N j:Nat}(h:j<N):alv R D N (1+j)=R+1+j:=by unfold alv;rw[if_pos (by omega)];omega
theorem alu{R D N:Nat}:alv R D N (N+1)=D:=if_neg (by omega)
theorem apf{P:Nat}{cl:Bool}{e:Nat→AV}{h:Nat→Ob}(R D n N:Nat)(g:Nat→DyV)(hN:N<1000)(hR:20000000≤R)(hD:20000000≤D)(hd:D<R∨R+N<D)
  (h0:h R=.own 3 (qj (dcs (R+1)) (prF g N))) (hF:∀j,j<N→h (R+1+j)=zL g j) (h1:h D=zL g N) (hpu:∀f:Nat→DyV,∀j,(zL f j).pu) (hpr:∀L:List (Nat×DyV),AV.pu.puL (qj (dcs 1) L)):
  @afL P cl 0 ⟨mnO n N g⟩ ⟨e⟩ [.ag [.v (.int .i64 n),.rf R 0 N],.ag [.v (.bool (g N).s),.rf D 0 (g N).xs.length,.v (.int .i64 (g N).e)],.v (.bool true)] h:=by
 have r0:=@au7 R D N
 have r1:=@alu R D N
 refine Yy (alv R D N) (.own 3 (qj (dcs 1) (prF g N))) (N+1) (zL g) [.ag [.v (.int .i64 n),.rf 0 0 N],.ag [.v (.bool (g N).s),.rf (N+1) 0 (g N).xs.length,.v (.int .i64 (g N).e)],.v (.bool true)] (by omega) ⟨⟨?_,?_⟩,⟨?_,?_⟩,⟨rfl,trivial⟩,trivial⟩ ⟨?_,?_,trivial⟩ (fun j hj=>⟨?_,(qA _ j).2.2 _,(qA _ j).1⟩) (fun m hm=>?_) (fun m m' hm hm' e=>?_) (fun _=>⟨hpr _,fun j _=>hpu g j,by simp[zr,AV.pu,AV.pu.puL]⟩) ⟨rfl,rfl⟩
 ·show AV.ag [_,AV.rf (alv R D N 0) 0 N]=_
  rw[r0];rfl
 ·exact⟨trivial,.inl (.inl rfl),trivial⟩
 ·show AV.ag [_,AV.rf (alv R D N (N+1)) 0 _,_]=_
  rw[r1];rfl
 ·exact⟨trivial,.inr (by omega),trivial,trivial⟩
 ·rw[r0,h0]
  show Ob.own 3 (zq _ (qj (dcs 1) (prF g N)))=_
  rw[zV (a:=1) (b:=R+1) fun j hj=>agW hj]
 ·exact zP fun p hp=>.inr (by have:=jj hp;omega)
 ·rw[(qA _ j).2.1]
  rcases(show j<N∨j=N by omega)with c|rfl
  ·rw[agW c,hF j c]
  ·rw[show 1+j=j+1 by omega,r1,h1]
 ·unfold alv
  split<;>exact yx (by omega)
 ·unfold alv at e
  split at e<;>split at e<;>omega
theorem YJ(n:Nat)(l:List ExV)(x:ExV)(hl:l.length<1000)(hb:gbd (-400000) 400000 l)(hx:x.bd (-400000) 400000)(hall:(l.all ExV.fit&&x.fit)=true):Con Tryz.prog 57 false [.ag [.v (.int .i64 (n)),.sl (l).length (qj ExV.cs (l))],.ag [.v (.bool (x).s),.sl (lim (x).m).length (qg (lim (x).m)),.v (.int .i64 (x).e)]] [] (mnO n l.length (exg l x)):=by
 rw[Bool.and_eq_true]at hall
 have cm:=anP n l (by omega) hb hall.1
 have cd:=ajx x hx hall.2
 have hc:∀j,j<l.length→exf l j=exg l x j:=fun j hj=>(ay5 hj).symm
 rw[ag7 hc,aeG hc]at cm
 have hE:=@aiw l x
 have hFp:=qA (exg l x)
 generalize exg l x=g at*
 generalize x.can=y at*
 refine Con.of_w (rs:=[.cell 4 25,.cell 5 44,.tmp 6]) Tryz.func57 rfl Tryz.ntmps57 rfl ?_
 simp(disch:=omega)only[go_sem]
 refine qw cm (by simp(disch:=omega)only[go_sem]) ?_
 rintro r hs ⟨rfl,rfl⟩
 refine⟨⟨by simp;omega,yK fun j hj=>?_⟩,?_⟩
 ·repeat rw[qk (by omega)]
  rw[XX (by omega)]
 have hrow:zq (rho 150000000 []) (qj (dcs 1) (prF g l.length))=qj (dcs 150000001) (prF g l.length):=zV fun j hj=>by
  unfold rho;rw[if_pos (by omega)];omega
 simp(disch:=omega)only[go_sem,Q2 hFp,qp,hrow]
 refine qw cd (by simp(disch:=omega)only[go_sem]) ?_
 rintro r hs ⟨rfl,rfl⟩
 refine⟨by simp[qB];simp(disch:=omega)only[go_sem,qp,qH],?_⟩
 simp(disch:=omega)only[go_sem,qp,qH]
 refine qq rfl [⟨0,[],[]⟩,⟨1,[0],[]⟩,⟨2,[1],[]⟩,⟨3,[],[]⟩,⟨4,[],[]⟩] (by kernel_rfl) ?_
 simp(disch:=omega)only[go_sem,qp,qH]
 have hye:y.dyv=g l.length:=hE.symm
 have e1:y.s=(g l.length).s:=congrArg DyV.s hye
 have e2:lim y.m=(g l.length).xs:=congrArg DyV.xs hye
 have e3:y.e=(g l.length).e:=congrArg DyV.e hye
 rw[e1,e2,e3]
 refine apf 150000000 200000000 n l.length g (by omega) (by omega) (by omega) (by omega) ?_ (fun j hj=>?_) ?_ ahM (fun L=>aiP)
 ·repeat rw[qk (by omega)]
  rw[qp (by omega)]
  repeat rw[qk (by omega)]
  rw[qo]
 ·repeat rw[qk (by omega)]
  rw[show 150000000+1+j=150000001+j by omega,qS hj]
 ·repeat rw[qk (by omega)]
  rw[qo];rfl
theorem YI(n:Nat)(l:List ExV)(x:ExV)(hl:l.length≤1000)(hb:gbd (-400000) 400000 l)(hx:x.bd (-400000) 400000)(hall:(l.all ExV.fit&&x.fit)=false):Con Tryz.prog 57 false [.ag [.v (.int .i64 (n)),.sl (l).length (qj ExV.cs (l))],.ag [.v (.bool (x).s),.sl (lim (x).m).length (qg (lim (x).m)),.v (.int .i64 (x).e)]] [] mnZ:=by
 have cd:=as9 n l hl hb
 have cx:=V7 x hx
 generalize l.map ExV.can=L at*
 cases hf:l.all ExV.fit<;>cases hg:x.fit
 ·rw[hf,if_neg (by simp)]at cd
  rw[hg,if_neg (by simp)]at cx
  refine Con.of_aw Tryz.func57 rfl Tryz.ntmps57 (by simp) (by simp) (by simp) (W.sound ?_)
  show @W Tryz.prog 31 ⟨_⟩ ⟨fun x σ=>@qY _ _ _ ⟨_⟩ _ ⟨_⟩ x σ⟩ _ _
  simp(disch:=omega)only[go_sem]
  refine qa (cd) ?_
  simp(disch:=omega)only[go_sem]
  refine qa (cx) ?_
  simp(disch:=omega)only[go_sem]
  refine ql [] [] [] [.ag [.v (.int .i64 0),.v (.slice none 0 0)],.ag [.v (.bool false),.v (.slice none 0 0),.v (.int .i64 0)],.v (.bool false)] rfl (by simp(disch:=omega)only[go_sem]) (by simp(disch:=omega)only[go_sem]) (by simp) (by simp) ⟨rfl,rfl⟩
 ·rw[hf,if_neg (by simp)]at cd
  rw[hg,if_pos rfl]at cx
  refine Con.of_aw Tryz.func57 rfl Tryz.ntmps57 (by simp) (by simp) (by simp) (W.sound ?_)
  show @W Tryz.prog 31 ⟨_⟩ ⟨fun x σ=>@qY _ _ _ ⟨_⟩ _ ⟨_⟩ x σ⟩ _ _
  simp(disch:=omega)only[go_sem]
  refine qa (cd) ?_
  simp(disch:=omega)only[go_sem]
  refine qa (cx) ?_
  simp(disch:=omega)only[go_sem]
  refine ql [] [] [] [.ag [.v (.int .i64 0),.v (.slice none 0 0)],.ag [.v (.bool false),.v (.slice none 0 0),.v (.int .i64 0)],.v (.bool false)] rfl (by simp(disch:=omega)only[go_sem]) (by simp(disch:=omega)only[go_sem]) (by simp) (by simp) ⟨rfl,rfl⟩
 ·rw[hf,if_pos rfl]at cd
  rw[hg,if_neg (by simp)]at cx
  refine Con.of_aw Tryz.func57 rfl Tryz.ntmps57 (by simp) (by simp) (by simp) (W.sound ?_)
  show @W Tryz.prog 31 ⟨_⟩ ⟨fun x σ=>@qY _ _ _ ⟨_⟩ _ ⟨_⟩ x σ⟩ _ _
  simp(disch:=omega)only[go_sem]
  refine qa (cd) ?_
  simp(disch:=omega)only[go_sem]
  refine qa (cx) ?_
  simp(disch:=omega)only[go_sem]
  refine ql [] [] [] [.ag [.v (.int .i64 0),.v (.slice none 0 0)],.ag [.v (.bool false),.v (.slice none 0 0),.v (.int .i64 0)],.v (.bool false)] rfl (by simp(disch:=omega)only[go_sem]) (by simp(disch:=omega)only[go_sem]) (by simp) (by simp) ⟨rfl,rfl⟩
 ·rw[hf,hg]at hall
  cases hall
end Go.Ab
namespace Go.Ab
open Go Go.Proofs
/-! ### The law of what is held of a matrix's exponential-/
theorem avj{l:List DyV}{n:Nat}:prs l n=prF (fun j=>l.getD j dy0) n:=rfl
theorem ao4(l:List DyV):ahL l=zL (fun j=>l.getD j dy0):=rfl
theorem alj{h:Nat→Ob}{b k:Nat}{f:Nat→DyV}{n:Nat}(hF:∀j,j<n→h (b+j)=zL f j):(qj (dcs b) (prF f n)).map (qD h (k+2))=yp (cS f) (vX f) (cE f) n:=by
 have key:∀L:List Nat,(∀j∈L,j<n)→(qj (dcs b) (L.map fun j=>(j,f j))).map (qD h (k+2))=qj (fun j=>[cS f j,vX f j,cE f j]) L:=by
  intro L
  induction L with
  |nil=>intro _;rfl
  |cons a L ih=>
   intro hL
   rw[List.map_cons,qO,qO,List.map_append,ih fun j hj=>hL j (List.mem_cons_of_mem _ hj)]
   congr 1
   show [qD h (k+2) (.v _),qD h (k+2) (.rf (b+a) 0 _),qD h (k+2) (.v _)]=_
   have h1:h (b+a)=.own 1 (qg ((f a).xs++[])):=by rw[List.append_nil];exact hF a (hL a (List.mem_cons_self ..))
   rw[js h1 rfl]
   rfl
 exact key _ fun j hj=>List.mem_range.1 hj
theorem ade{l:List DyV}:yp (cS fun j=>l.getD j dy0) (vX fun j=>l.getD j dy0) (cE fun j=>l.getD j dy0) l.length=qj DyV.cs l:=by
 have:l=(List.range l.length).map fun j=>l.getD j dy0:=by
  apply List.ext_getElem
  ·simp
  ·intro i h1 h2
   simp[List.getD_eq_getElem?_getD,List.getElem?_eq_getElem h1]
 conv=>rhs;rw[this]
 unfold yp qj
 rw[List.map_map];rfl
theorem Qt{h:Nat→Ob}{b0 b z k m n:Nat}{f:Nat→DyV}(h0:h b0=.own z (qj (dcs b) (prF f n)))(hz:m*z=n*3)(hF:∀j,j<n→h (b+j)=zL f j):qD h (k+3) (.rf b0 0 m)=.sl m (yp (cS f) (vX f) (cE f) n):=by
 show(match h b0 with| .own z cs=>AV.sl m ((cut cs 0 (m*z)).map (qD h (k+2)))|_=>.un)=_
 rw[h0]
 show AV.sl m ((cut _ 0 (m*z)).map _)=_
 have hc:cut (qj (dcs b) (prF f n)) 0 (m*z)=qj (dcs b) (prF f n):=by
  unfold cut
  rw[List.drop_zero,List.take_of_length_le (by rw[Vm];omega)]
 rw[hc,alj hF]
theorem abG{l:List DyV}(hx:l.length+smF (fun j=>l.getD j dy0) l.length≤1048576):∀d∈l,d.xs.length≤1048576:=fun d hd=>by
 obtain⟨i,hi,rfl⟩:=List.getElem_of_mem hd
 have:=abq (f:=fun j=>l.getD j dy0) hi
 rw[List.getD_eq_getElem?_getD,List.getElem?_eq_getElem hi]at this
 simp only[Option.getD_some]at this
 omega
theorem XH(k:Int)(l:List DyV)(hl:l.length≤1048576)(hx:∀d∈l,d.xs.length≤1048576):Con Tryz.prog 17 false [.ag [.v (.int .i64 k),.sl l.length (qj DyV.cs l)]] [] (isA (.ag [.v (.int .i64 k),.sl l.length (qj DyV.cs l)])):=by
 refine Con.frzA ((Jf k l hl hx).mono ?_)
 rintro r hs bs ⟨rfl,rfl⟩
 show AV.ag [_,qD _ 5 (.rf 0 0 l.length)]=_
 rw[Qt (b:=1) (z:=3) (n:=l.length) (f:=fun j=>l.getD j dy0) rfl (by omega) (fun j hj=>?_),ade]
 ·rfl
 ·show rhp _ [] (1+j)=_
  unfold rhp
  rw[if_neg (by omega),show 1+j=j+1 by omega,List.getD_cons_succ,List.getD_eq_getElem?_getD,List.getElem?_map,List.getElem?_range hj];rfl
theorem X8{h:Nat→Ob}{b0 b k:Nat}{l:List DyV}(h0:h b0=.own 3 (qj (dcs b) (prF (fun j=>l.getD j dy0) l.length)))(hF:∀j,j<l.length→h (b+j)=zL (fun j=>l.getD j dy0) j):qD h (k+3) (.rf b0 0 l.length)=.sl l.length (qj DyV.cs l):=by
 rw[Qt (n:=l.length) h0 (by omega) hF,ade]
theorem Le.famI{σ:St}(E:List (Nat×AV))(H:List (Nat×Ob))(b n:Nat)(F:Nat→Ob)(hP:∀j,abv (F j))
  (hn:Qy (H.map (·.1))=true) (hlow:∀q∈H,q.1<b∨b+n≤q.1) (hE:JW id σ.env (nmF (H.map (·.1)) b n) E)
  (hH:∀q∈H,σ.hp q.1=q.2∧q.2.men (nmF (H.map (·.1)) b n)∧q.2.isOwn) (hF:∀j,j<n→σ.hp (b+j)=F j):Le σ ⟨ofL .un E,fam b n F (ofH H)⟩:=by
 have hr:∀o:Ob,o.ren id=o:=fun o=>by
  cases o with
  |own z cs=>show Ob.own z (zq (fun m=>m) cs)=_;rw[Z3]
  |free=>rfl
  |dead=>rfl
 refine Le.famL id E H b n F hn hlow hE ?_ (fun j hj=>⟨by rw[hr];exact(hF j hj).symm,(hP j).2.2 _,(hP j).1⟩) (fun m hm=>⟨fun _=>rfl,fun h=>h⟩) (fun m m' _ _ h=>h)
 have key:∀(L:List (Nat×Ob)) (p:Nat→Prop),(∀q∈L,σ.hp q.1=q.2∧q.2.men p∧q.2.isOwn)→av5 id σ.hp p L:=by
  intro L p
  induction L with
  |nil=>intro _;trivial
  |cons a L ih=>
   intro h
   obtain⟨h1,h2,h3⟩:=h a (List.mem_cons_self ..)
   exact⟨⟨by rw[hr];exact h1.symm,h2,h3⟩,ih fun q hq=>h q (List.mem_cons_of_mem _ hq)⟩
 exact key _ _ hH
theorem Le.famI2{σ:St}(E:List (Nat×AV))(H:List (Nat×Ob))(b n:Nat)(F:Nat→Ob)(b2 n2:Nat)(F2:Nat→Ob)(hP:∀j,abv (F j))(hP2:∀j,abv (F2 j))
  (hn:Qy (H.map (·.1))=true) (hb:20000000≤b∧20000000≤b2) (hlow:∀q∈H,(q.1<b∨b+n≤q.1)∧(q.1<b2∨b2+n2≤q.1)) (hd:b+n≤b2) (hE:JW id σ.env (fun m=>nmF (H.map (·.1)) b n m∨(b2≤m∧m<b2+n2)) E)
  (hH:∀q∈H,σ.hp q.1=q.2∧q.2.men (fun m=>nmF (H.map (·.1)) b n m∨(b2≤m∧m<b2+n2))∧q.2.isOwn) (hF:∀j,j<n→σ.hp (b+j)=F j) (hF2:∀j,j<n2→σ.hp (b2+j)=F2 j):
  Le σ ⟨ofL .un E,fam b2 n2 F2 (fam b n F (ofH H))⟩:=by
 have hnd:=jo hn
 have hget:∀q∈H,fam b2 n2 F2 (fam b n F (ofH H)) q.1=q.2:=fun q hq=>by
  obtain⟨h1,h2⟩:=hlow q hq
  have a:fam b2 n2 F2 (fam b n F (ofH H)) q.1=fam b n F (ofH H) q.1:=if_neg (by omega)
  have c:fam b n F (ofH H) q.1=ofH H q.1:=if_neg (by omega)
  rw[a,c]
  exact Vp hnd q hq
 have g1:∀j,j<n→fam b2 n2 F2 (fam b n F (ofH H)) (b+j)=F j:=fun j hj=>by rw[qp (by omega),qS hj]
 have g2:∀j,j<n2→fam b2 n2 F2 (fam b n F (ofH H)) (b2+j)=F2 j:=fun j hj=>qS hj
 have hne:∀m,(nmF (H.map (·.1)) b n m∨(b2≤m∧m<b2+n2))→fam b2 n2 F2 (fam b n F (ofH H)) m≠ .free:=fun m hm=>by
  rcases hm with(hm|hm)|hm
  ·obtain⟨q,hq,rfl⟩:=List.mem_map.1 (JU.1 hm)
   rw[hget q hq]
   exact zR (hH q hq).2.2
  ·rw[show m=b+(m-b) by omega,g1 _ (by omega)]
   exact zR (hP _).1
  ·rw[show m=b2+(m-b2) by omega,g2 _ (by omega)]
   exact zR (hP2 _).1
 have hsrc:∀m z cs,fam b2 n2 F2 (fam b n F (ofH H)) m=.own z cs→σ.hp m=.own z cs∧AllL (fun m=>nmF (H.map (·.1)) b n m∨(b2≤m∧m<b2+n2)) cs:=by
  intro m z cs e
  by_cases h2:b2≤m∧m<b2+n2
  ·rw[show m=b2+(m-b2) by omega,g2 _ (by omega)]at e
   have hm:=hF2 (m-b2) (by omega)
   rw[show b2+(m-b2)=m by omega,e]at hm
   have:=(hP2 (m-b2)).2.2 (fun m=>nmF (H.map (·.1)) b n m∨(b2≤m∧m<b2+n2))
   rw[e]at this
   exact⟨hm,this⟩
  ·have a:fam b2 n2 F2 (fam b n F (ofH H)) m=fam b n F (ofH H) m:=if_neg h2
   by_cases h1:b≤m∧m<b+n
   ·rw[show m=b+(m-b) by omega,g1 _ (by omega)]at e
    have hm:=hF (m-b) (by omega)
    rw[show b+(m-b)=m by omega,e]at hm
    have:=(hP (m-b)).2.2 (fun m=>nmF (H.map (·.1)) b n m∨(b2≤m∧m<b2+n2))
    rw[e]at this
    exact⟨hm,this⟩
   ·have c:fam b n F (ofH H) m=ofH H m:=if_neg h1
    rw[a,c]at e
    rcases jZ (l:=H) (s:=m) (d:=(bif zW m then .dead else .free:Ob))with⟨v,h1,h2⟩|h1
    ·have hv:v=.own z cs:=h2.symm.trans e
     subst hv
     obtain⟨k1,k2, -⟩:=hH _ h1
     exact⟨k1,k2⟩
    ·have:ofH H m=_:=h1
     rw[this]at e
     cases hl:zW m<;>rw[hl]at e<;>cases e
 refine Le.gen id _ _ (fun s=>?_) (fun m z cs e=>?_) (fun m hm=>?_) (fun m m' _ _ _ _ _ _ h=>h)
 ·rcases jZ (l:=E) (s:=s) (d:=AV.un)with⟨v,h1,h2⟩|h1
  ·right
   rw[h2]
   obtain⟨k1,k2⟩:=VE hE _ h1
   exact⟨k1,k2.mono hne⟩
  ·exact .inl h1
 ·obtain⟨k1,k2⟩:=hsrc m z cs e
  refine⟨?_,k2.mono hne,fun _=>rfl,fun h=>h⟩
  show σ.hp m=.own z (zq (fun m=>m) cs)
  rw[Z3,k1]
 ·intro hf
  have hm2:m<20000000:=by
   rcases Nat.lt_or_ge m 20000000 with h|h
   ·exact h
   ·rw[yx h]at hm;cases hm
  have a:fam b2 n2 F2 (fam b n F (ofH H)) m=ofH H m:=by rw[qp (by omega),qp (by omega)]
  rw[a]at hf
  rcases jZ (l:=H) (s:=m) (d:=(bif zW m then .dead else .free:Ob))with⟨v,h1,h2⟩|h1
  ·have hv:v=.free:=h2.symm.trans hf
   exact zR (hH _ h1).2.2 hv
  ·have:ofH H m=_:=h1
   rw[this,hm]at hf
   cases hf
end Go.Ab
namespace Go.Ab
open Go Go.Proofs
/-! ### A matrix and a number that were given back-/
def gM(g:Nat→DyV)(N:Nat):List DyV:=(List.range N).map g
theorem apb{g:Nat→DyV}{N:Nat}:(gM g N).length=N:=by simp[gM]
theorem aqK{g:Nat→DyV}{N:Nat}:yp (cS g) (vX g) (cE g) N=qj DyV.cs (gM g N):=by
 unfold yp qj gM
 rw[List.map_map];rfl
theorem abp{h:Nat→Ob}{b0 b k N:Nat}{g:Nat→DyV}(h0:h b0=.own 3 (qj (dcs b) (prF g N)))(hF:∀j,j<N→h (b+j)=zL g j):qD h (k+3) (.rf b0 0 N)=.sl N (qj DyV.cs (gM g N)):=by
 rw[Qt (n:=N) h0 (by omega) hF,aqK]
theorem Yc{h:Nat→Ob}{m k N:Nat}{g:Nat→DyV}(h0:h m=zL g N):qD h (k+2) (.rf m 0 (g N).xs.length)=.sl (g N).xs.length (qg (g N).xs):=js (zs:=[]) (by rw[h0,List.append_nil];rfl) rfl
theorem asa{b:Nat}:idx [b] b=some 0:=yy (nms:=[b]) (by simp) 0 (by simp)
theorem aqv{h:Nat→Ob}{b m k:Nat}:snp h (idx [b]) (k+1) (.rf b 0 m)=.rf 10000000 0 m:=by
 show(match idx [b] b with|some i=>AV.rf (10000000+i) 0 m|none=>_)=_
 rw[asa]
theorem ajQ{P:Program}{fn:FuncId}{aa0 args:List AV}{h:Nat→Ob}{c:Nat}{K:AV→(Nat→Ob)→Prop}(b:Nat)(xs ys:List Int)(rv:Value)(h0:h b=.own 1 (qg xs))
  (hc:Con P fn false args [.own 1 (qg xs)] (fun r hs bs=>r=.v rv∧hs=[]∧bs=[.own 1 (qg ys)])) (ha:aa0.map (snp (hpx false [b] h) (idx [b]) 6)=args) (hk:K (.v rv) (upd h b (.own 1 (qg ys)))):aa5 P fn aa0 h c K:=by
 refine⟨false,[b],_,by
  rw[ha]
  show Con P fn false args [(h b).ren _] _
  rw[h0]
  show Con P fn false args [Ob.own 1 (zq _ (qg xs))] _
  rw[yF];exact hc,by simp,fun m hm=>?_,fun r hs bs' hp=>?_⟩
 ·rw[List.mem_singleton.1 hm]
  exact⟨1,_,h0,QX⟩
 ·obtain⟨rfl,rfl,rfl⟩:=hp
  refine⟨by simp,trivial,fun h=>(by cases h),?_⟩
  show K (.v rv) (upd h b (.own 1 (zq _ (qg ys))))
  rw[yF];exact hk
theorem arO{P:Program}{f:FuncId}{args:List AV}{n N:Nat}{g:Nat→DyV}(hN:N≤16)(h:Con P f true args [] (mnO n N g)):
  Con P f true args [] (isA (.tu [.ag [.v (.int .i64 n),.sl N (qj DyV.cs (gM g N))],.ag [.v (.bool (g N).s),.sl (g N).xs.length (qg (g N).xs),.v (.int .i64 (g N).e)],.v (.bool true)])):=by
 refine Con.frzAC (h.mono ?_)
 rintro r hs bs ⟨rfl,rfl⟩
 have hr:∀j,j<N+1→rhp (.own 3 (qj (dcs 1) (prF g N))::amB g (N+1)) [] (1+j)=zL g j:=fun j hj=>by
  unfold rhp amB
  rw[if_neg (by omega),show 1+j=j+1 by omega,List.getD_cons_succ,List.getD_eq_getElem?_getD,List.getElem?_map,List.getElem?_range hj];rfl
 have e1:=abp (h:=rhp (.own 3 (qj (dcs 1) (prF g N))::amB g (N+1)) []) (b0:=0) (b:=1) (k:=1) (g:=g) (N:=N) rfl (fun j hj=>hr j (by omega))
 have e2:=Yc (h:=rhp (.own 3 (qj (dcs 1) (prF g N))::amB g (N+1)) []) (m:=N+1) (k:=2) (g:=g) (N:=N) (by have h3:=hr N (by omega);rw[Nat.add_comm 1 N]at h3;exact h3)
 show AV.tu [AV.ag [_,qD _ 4 (.rf 0 0 N)],AV.ag [_,qD _ 4 (.rf (N+1) 0 _),_],_]=_
 rw[e1,e2];rfl
end Go.Ab
namespace Go.Ab
open Go Go.Proofs
set_option maxRecDepth 100000 in
theorem VF(k:Int)(l:List DyV)(low:Int)(hl:l.length≤9223372036854775807)(hx:∀x∈l,x.xs.length≤9223372036854775807)(n N:Nat)(g:Nat→DyV)(hN:N≤16)(hg:∀j,j≤N→(g j).xs.length≤1000)
  (cs:Con Tryz.prog 27 false [.ag [.v (.int .i64 k),.sl l.length (qj DyV.cs l)],.v (.int .i64 low)] [] (isA (.tu [.ag [.v (.int .i64 n),.sl N (qj DyV.cs (gM g N))],.ag [.v (.bool (g N).s),.sl (g N).xs.length (qg (g N).xs),.v (.int .i64 (g N).e)],.v (.bool true)])))
  (ci:Con Tryz.prog 28 true [.ag [.v (.int .i64 k),.sl l.length (qj DyV.cs l)],.v (.int .i64 low)] [] (mnO n N g)):
  Con Tryz.prog 6 true [.ag [.v (.int .i64 k),.sl l.length (qj DyV.cs l)],.v (.int .i64 low)] [] (isA (.v (.bool true))):=by
 have cz:=Jg k l 1048576 hl hx (by omega)
 refine Con.of_aw Tryz.func6 rfl Tryz.ntmps6 (by simp) (by simp) (by simp) (AW.front3 ?_)
 show @W Tryz.prog 138 ⟨_⟩ ⟨fun x σ=>@yv ⟨_⟩ ⟨_⟩ x σ⟩ _ _
 simp(disch:=omega)only[go_sem]
 refine qs cz (by simp(disch:=omega)only[go_sem]) ?_
 rintro r hs ⟨v,rfl,rfl, -,hv⟩
 refine⟨by simp[qB],?_⟩
 simp(disch:=omega)only[go_sem]
 rcases hv with rfl|⟨h0,h1⟩
 ·refine W.sound ?_
  show @W Tryz.prog 138 ⟨_⟩ ⟨fun x σ=>@qY _ _ _ ⟨_⟩ _ ⟨_⟩ x σ⟩ _ _
  simp(disch:=omega)only[go_sem]
  exact qt
 have hlen:l.length≤1048576:=by omega
 have hxs:=abG h1
 have cT:=XH k l hlen hxs
 have hv0:decide (v<0)=false:=decide_eq_false (by omega)
 refine AW.front3 ?_
 show @W Tryz.prog 138 ⟨_⟩ ⟨fun x σ=>@yv ⟨_⟩ ⟨_⟩ x σ⟩ _ _
 simp(disch:=omega)only[go_sem,hv0]
 refine qa (cT) ?_
 simp(disch:=omega)only[go_sem]
 refine qa (cs) ?_
 simp(disch:=omega)only[go_sem]
 refine qw (Jf k l hlen hxs) (by simp(disch:=omega)only[go_sem]) ?_
 rintro r hs ⟨rfl,rfl⟩
 refine⟨⟨by simp;omega,yK fun j hj=>?_⟩,?_⟩
 ·repeat rw[qk (by omega)]
  rw[XX (by omega)]
 have hrow:=@abr 350000000 l.length l (by omega)
 simp(disch:=omega)only[go_sem,Q2 (jf l),qp,hrow]
 rw[avj,ao4]
 refine AW.le (Le.famI [(1,.v (.int .i64 low)),(2,.pt 40000000 0),(4,.v (.bool false)),(6,.pt 80000000 0),(7,.pt 90000000 0),(8,.v (.bool true)),(9,.pt 110000000 0)]
  [(40000000,.own 0 [.v (.int .i64 k),.sl l.length (qj DyV.cs l)]),(80000000,.own 0 [.v (.int .i64 n),.sl N (qj DyV.cs (gM g N))]),(90000000,.own 0 [.v (.bool (g N).s),.sl (g N).xs.length (qg (g N).xs),.v (.int .i64 (g N).e)]),(110000000,.own 0 [.v (.int .i64 k),.rf 350000000 0 l.length]),(350000000,.own 3 (qj (dcs 350000001) (prF (fun j=>l.getD j dy0) l.length)))]
  350000001 l.length (zL fun j=>l.getD j dy0) (qA _) rfl (fun q hq=>.inl ?_) (by simp(disch:=omega)only[go_sem,JW,nmF,jK];try simp) (fun q hq=>?_) (fun j hj=>?_)) ?_
 ·simp only[List.mem_cons,List.not_mem_nil,or_false]at hq
  rcases hq with rfl|rfl|rfl|rfl|rfl<;>(dsimp only;omega)
 ·simp only[List.mem_cons,List.not_mem_nil,or_false]at hq
  rcases hq with rfl|rfl|rfl|rfl|rfl
  ·refine⟨?_,⟨trivial,trivial,trivial⟩,trivial⟩
   dsimp only
   repeat rw[qk (by omega)]
   rw[qp (by omega)]
   repeat rw[qk (by omega)]
   rw[qo]
  ·refine⟨?_,⟨trivial,trivial,trivial⟩,trivial⟩
   dsimp only
   repeat rw[qk (by omega)]
   rw[qp (by omega)]
   repeat rw[qk (by omega)]
   rw[qo]
  ·refine⟨?_,⟨trivial,trivial,trivial,trivial⟩,trivial⟩
   dsimp only
   repeat rw[qk (by omega)]
   rw[qp (by omega)]
   repeat rw[qk (by omega)]
   rw[qo]
  ·refine⟨?_,⟨trivial,.inl (.inr (.inr (.inr (.inr (.inl rfl))))),trivial⟩,trivial⟩
   dsimp only
   rw[qo]
  ·refine⟨?_,zP fun p hp=>.inr (by have:=jj hp;omega),trivial⟩
   dsimp only
   repeat rw[qk (by omega)]
   rw[qp (by omega),qo]
 ·dsimp only
  repeat rw[qk (by omega)]
  rw[qS hj]
 refine AW.front4 ?_
 show @W Tryz.prog 138 ⟨_⟩ ⟨fun x σ=>@yv ⟨_⟩ ⟨_⟩ x σ⟩ _ _
 simp(disch:=omega)only[go_sem,qp]
 refine qs ci ?_ ?_
 ·show [AV.ag [_,qD _ 5 (.rf 350000000 0 l.length)],_]=_
  rw[X8 (b:=350000001) (by rw[qp (by omega)];rfl) (fun j hj=>qS hj)]
  rfl
 rintro r hs ⟨rfl,rfl⟩
 refine⟨⟨by simp;omega,XB fun j hj=>?_⟩,?_⟩
 ·rw[qH (by omega)]
  refine aoW (fun q hq=>?_) (by omega)
  simp only[List.mem_cons,List.not_mem_nil,or_false]at hq
  rcases hq with rfl|rfl|rfl|rfl|rfl<;>(dsimp only;omega)
 have hrow2:zq (rho 390000000 []) (qj (dcs 1) (prF g N))=qj (dcs 390000001) (prF g N):=zV fun j hj=>by
  unfold rho;rw[if_pos (by omega)];omega
 have hend:rho 390000000 [] (N+1)=390000001+N:=by unfold rho;rw[if_pos (by omega)];omega
 have ceq:=ZP n (gM g N) (by rw[apb];omega) (fun d hd=>by
  obtain⟨j,hj,rfl⟩:=List.mem_map.1 hd
  have:=hg j (by have:=List.mem_range.1 hj;omega)
  omega)
 rw[apb]at ceq
 have ceq2:=V5 (g N).s (g N).xs (g N).e (by have:=hg N (Nat.le_refl N);omega)
 have hgN:=hg N (Nat.le_refl N)
 simp(disch:=omega)only[go_sem,aa8,qp,qH,hrow2,hend]
 refine qs ceq ?_ ?_
 ·show [AV.ag [_,qD _ 5 (.rf 390000000 0 N)],_]=_
  rw[abp (b:=390000001) ?_ (fun j hj=>?_)]
  ·rfl
  ·repeat rw[qk (by omega)]
   rw[qp (by omega),qo]
  ·repeat rw[qk (by omega)]
   rw[qS (by omega)]
 rintro r hs ⟨rfl,rfl, -⟩
 refine⟨by simp[qB],?_⟩
 simp(disch:=omega)only[go_sem,qp,qH]
 refine qs ceq2 ?_ ?_
 ·show [AV.ag [_,qD _ 5 (.rf (390000001+N) 0 _),_],_]=_
  rw[Yc ?_]
  ·rfl
  ·repeat rw[qk (by omega)]
   rw[qS (by omega)]
 rintro r hs ⟨rfl,rfl, -⟩
 refine⟨by simp[qB],?_⟩
 simp(disch:=omega)only[go_sem,show(true != true)=false from rfl]
 refine qq rfl [⟨0,[],[]⟩,⟨1,[0],[]⟩,⟨2,[0],[]⟩,⟨3,[],[]⟩,⟨4,[],[]⟩] (by kernel_rfl) ?_
 simp(disch:=omega)only[go_sem,qp,qH]
 refine qa (cT) ?_
 simp(disch:=omega)only[go_sem]
 refine qs (ZP k l hlen (fun d hd=>Nat.le_trans (hxs d hd) (by omega))) ?_ ?_
 ·show [AV.ag [_,qD _ 5 (.rf 350000000 0 l.length)],_]=_
  rw[X8 (b:=350000001) ?_ (fun j hj=>?_)]
  ·rfl
  ·repeat rw[qk (by omega)]
   rw[qp (by omega)]
   repeat rw[qk (by omega)]
   rw[qp (by omega)];rfl
  ·repeat rw[qk (by omega)]
   rw[qp (by omega)]
   repeat rw[qk (by omega)]
   rw[qS hj]
 rintro r hs ⟨rfl,rfl, -⟩
 refine⟨by simp[qB],?_⟩
 simp(disch:=omega)only[go_sem]
 have hkb0:∀i,i≤l.length→kAt 1 (fun j=>l.getD j dy0) i≤2^39:=fun i hi=>by
  rw[adt]
  have:=JQ (f:=fun j=>l.getD j dy0) (i:=i) l.length hi
  omega
 have hx0:∀j,j<l.length→((fun j=>l.getD j dy0) j).xs.length≤1048576:=fun j hj=>Nat.le_trans (abq (f:=fun j=>l.getD j dy0) hj) (by omega)
 have cm0:=Zl k (fun j=>l.getD j dy0) l.length 1 hlen hx0 hkb0
 refine AW.regCallG 2 (by simp only[List.take_succ_cons,List.take_zero];rfl) (by simp only[List.drop_succ_cons,List.drop_zero];rfl) (e':=ofL .un [(1,.v (.int .i64 low)),(2,.pt 40000000 0),(4,.v (.bool false)),(6,.pt 80000000 0),(7,.pt 90000000 0),(8,.v (.bool true)),(10,.pt 120000000 0),(11,.pt 130000000 0),(12,.v (.bool true)),(61,.ag [.v (.int .i64 k),.rf 350000000 0 l.length]),(62,.v (.int .i64 1))])
  (h':=fam 390000001 (N+1) (zL g) (fam 350000001 l.length (zL fun j=>l.getD j dy0) (ofH [(40000000,.own 0 [.v (.int .i64 k),.sl l.length (qj DyV.cs l)]),(80000000,.own 0 [.v (.int .i64 n),.sl N (qj DyV.cs (gM g N))]),(90000000,.own 0 [.v (.bool (g N).s),.sl (g N).xs.length (qg (g N).xs),.v (.int .i64 (g N).e)]),(120000000,.own 0 [.v (.int .i64 n),.rf 390000000 0 N]),(130000000,.own 0 [.v (.bool (g N).s),.rf (390000001+N) 0 (g N).xs.length,.v (.int .i64 (g N).e)]),(350000000,.own 3 (qj (dcs 350000001) (prF (fun j=>l.getD j dy0) l.length))),(390000000,.own 3 (qj (dcs 390000001) (prF g N)))]))) ?_
  (by decide) rfl rfl (by simp(disch:=omega)only[go_sem]) (by rfl) (J0 350000000 350000001 l.length 3 (fun j=>l.getD j dy0) (mkd 1 fun j=>l.getD j dy0) _ (.inl (by omega)) ?_ ?_ cm0 ?_ ?_)
 ·simp(disch:=omega)only[go_sem,qp,qH]
  refine Le.famI2 _ _ _ _ _ _ _ _ (qA _) (qA _) rfl (by omega) (fun q hq=>?_) (by omega) (by simp(disch:=omega)only[go_sem,JW,nmF,jK];try simp) (fun q hq=>?_) (fun j hj=>?_) (fun j hj=>?_)
  ·simp only[List.mem_cons,List.not_mem_nil,or_false]at hq
   rcases hq with rfl|rfl|rfl|rfl|rfl|rfl|rfl<;>exact⟨by dsimp only;omega,by dsimp only;omega⟩
  ·simp only[List.mem_cons,List.not_mem_nil,or_false]at hq
   rcases hq with rfl|rfl|rfl|rfl|rfl|rfl|rfl
   ·refine⟨?_,⟨trivial,trivial,trivial⟩,trivial⟩
    dsimp only
    repeat rw[qk (by omega)]
    rw[qp (by omega)]
    repeat rw[qk (by omega)]
    rw[qp (by omega)];rfl
   ·refine⟨?_,⟨trivial,trivial,trivial⟩,trivial⟩
    dsimp only
    repeat rw[qk (by omega)]
    rw[qp (by omega)]
    repeat rw[qk (by omega)]
    rw[qp (by omega)];rfl
   ·refine⟨?_,⟨trivial,trivial,trivial,trivial⟩,trivial⟩
    dsimp only
    repeat rw[qk (by omega)]
    rw[qp (by omega)]
    repeat rw[qk (by omega)]
    rw[qp (by omega)];rfl
   ·refine⟨?_,⟨trivial,.inl (.inl (.inr (.inr (.inr (.inr (.inr (.inr (.inl rfl)))))))),trivial⟩,trivial⟩
    dsimp only
    repeat rw[qk (by omega)]
    rw[qo]
   ·refine⟨?_,⟨trivial,.inr (by omega),trivial,trivial⟩,trivial⟩
    dsimp only
    repeat rw[qk (by omega)]
    rw[qo]
   ·refine⟨?_,zP fun p hp=>.inl (.inr (by have:=jj hp;omega)),trivial⟩
    dsimp only
    repeat rw[qk (by omega)]
    rw[qp (by omega)]
    repeat rw[qk (by omega)]
    rw[qp (by omega)];rfl
   ·refine⟨?_,zP fun p hp=>.inr (by have:=jj hp;omega),trivial⟩
    dsimp only
    repeat rw[qk (by omega)]
    rw[qp (by omega),qo]
  ·dsimp only
   repeat rw[qk (by omega)]
   rw[qp (by omega)]
   repeat rw[qk (by omega)]
   rw[qS hj]
  ·dsimp only
   repeat rw[qk (by omega)]
   rw[qS hj]
 ·rw[qp (by omega),qp (by omega)];rfl
 ·intro j hj
  rw[qp (by omega),qS hj]
 ·show [AV.ag [snp _ _ 5 (.v _),snp _ _ 5 (.rf 350000000 0 _)],snp _ _ 6 (.v _)]=_
  rw[X7 (.inl (by omega))]
  simp[snp,qD]
 simp(disch:=omega)only[go_sem,qp,qH]
 have hX0:decide (((kAt 1 (fun j=>l.getD j dy0) l.length:Nat):Int)<0)=false:=decide_eq_false (by omega)
 refine AW.front2 ?_
 show @W Tryz.prog 138 ⟨_⟩ ⟨fun x σ=>@yv ⟨_⟩ ⟨_⟩ x σ⟩ _ _
 simp(disch:=omega)only[go_sem,hX0,qp,qH]
 refine qs ceq ?_ ?_
 ·show [AV.ag [_,qD _ 5 (.rf 390000000 0 N)],_]=_
  rw[abp (b:=390000001) ?_ (fun j hj=>?_)]
  ·rfl
  ·rw[qH (by omega)]
   repeat rw[qk (by omega)]
   rw[qp (by omega),qH (by omega)];rfl
  ·rw[qH (by omega)]
   repeat rw[qk (by omega)]
   rw[qS (by omega)]
 rintro r hs ⟨rfl,rfl, -⟩
 refine⟨by simp[qB],?_⟩
 simp(disch:=omega)only[go_sem,qp,qH]
 refine qs ceq2 ?_ ?_
 ·show [AV.ag [_,qD _ 5 (.rf (390000001+N) 0 _),_],_]=_
  rw[Yc ?_]
  ·rfl
  ·rw[qH (by omega)]
   repeat rw[qk (by omega)]
   rw[qS (by omega)]
 rintro r hs ⟨rfl,rfl, -⟩
 refine⟨by simp[qB],?_⟩
 simp(disch:=omega)only[go_sem,show(true != true)=false from rfl]
 have hsm2:∀i,i≤N→smF g i≤1000*i:=fun i=>by
  induction i with
  |zero=>intro _;exact Nat.le_refl _
  |succ i ih=>
   intro hi
   have:=hg i (by omega)
   have:=ih (by omega)
   show smF g i+(g i).xs.length≤_
   omega
 have hkb2:∀i,i≤N→kAt 1 g i≤20000:=fun i hi=>by
  rw[adt]
  have:=hsm2 i hi
  omega
 have hx2:∀j,j<N→(g j).xs.length≤1048576:=fun j hj=>by have:=hg j (by omega);omega
 have hkb3:∀i,i≤N→kAt 1 g i≤2^39:=fun i hi=>Nat.le_trans (hkb2 i hi) (by omega)
 have cm1:=Zl n g N 1 (by omega) hx2 hkb3
 have chd:=act n g N 1 (by omega) hx2 hkb3
 have hkN:=hkb2 N (Nat.le_refl N)
 have cm2:=ae9 (g N).s (g N).e (kAt 1 g N) (g N).xs (by omega) (by omega)
 have chd2:=XW (g N).s (g N).e (kAt 1 g N) (g N).xs.length (by omega) (by omega)
 refine AW.regCallG 2 (by simp only[List.take_succ_cons,List.take_zero];rfl) (by simp only[List.drop_succ_cons,List.drop_zero];rfl) (e':=ofL .un [(1,.v (.int .i64 low)),(2,.pt 40000000 0),(4,.v (.bool false)),(6,.pt 80000000 0),(7,.pt 90000000 0),(8,.v (.bool true)),(10,.pt 120000000 0),(11,.pt 130000000 0),(12,.v (.bool true)),(83,.ag [.v (.int .i64 n),.rf 390000000 0 N]),(84,.v (.int .i64 1))])
  (h':=fam 390000001 (N+1) (zL g) (ofH [(40000000,.own 0 [.v (.int .i64 k),.sl l.length (qj DyV.cs l)]),(80000000,.own 0 [.v (.int .i64 n),.sl N (qj DyV.cs (gM g N))]),(90000000,.own 0 [.v (.bool (g N).s),.sl (g N).xs.length (qg (g N).xs),.v (.int .i64 (g N).e)]),(120000000,.own 0 [.v (.int .i64 n),.rf 390000000 0 N]),(130000000,.own 0 [.v (.bool (g N).s),.rf (390000001+N) 0 (g N).xs.length,.v (.int .i64 (g N).e)]),(390000000,.own 3 (qj (dcs 390000001) (prF g N)))])) ?_
  (by decide) rfl rfl (by simp(disch:=omega)only[go_sem]) (by rfl) (J0 390000000 390000001 N 3 g (mkd 1 g) _ (.inl (by omega)) ?_ ?_ cm1 ?_ ?_)
 ·simp(disch:=omega)only[go_sem,qp,qH]
  refine Le.famI _ _ _ _ _ (qA _) rfl (fun q hq=>.inl ?_) (by simp(disch:=omega)only[go_sem,JW,nmF,jK];try simp) (fun q hq=>?_) (fun j hj=>?_)
  ·simp only[List.mem_cons,List.not_mem_nil,or_false]at hq
   rcases hq with rfl|rfl|rfl|rfl|rfl|rfl<;>(dsimp only;omega)
  ·simp only[List.mem_cons,List.not_mem_nil,or_false]at hq
   rcases hq with rfl|rfl|rfl|rfl|rfl|rfl
   ·refine⟨?_,⟨trivial,trivial,trivial⟩,trivial⟩
    dsimp only
    rw[qp (by omega)]
    repeat rw[qk (by omega)]
    rw[qp (by omega),qp (by omega)];rfl
   ·refine⟨?_,⟨trivial,trivial,trivial⟩,trivial⟩
    dsimp only
    rw[qp (by omega)]
    repeat rw[qk (by omega)]
    rw[qp (by omega),qp (by omega)];rfl
   ·refine⟨?_,⟨trivial,trivial,trivial,trivial⟩,trivial⟩
    dsimp only
    rw[qp (by omega)]
    repeat rw[qk (by omega)]
    rw[qp (by omega),qp (by omega)];rfl
   ·refine⟨?_,⟨trivial,.inl (.inr (.inr (.inr (.inr (.inr (.inl rfl)))))),trivial⟩,trivial⟩
    dsimp only
    rw[qp (by omega)]
    repeat rw[qk (by omega)]
    rw[qp (by omega),qp (by omega)];rfl
   ·refine⟨?_,⟨trivial,.inr (by omega),trivial,trivial⟩,trivial⟩
    dsimp only
    rw[qp (by omega)]
    repeat rw[qk (by omega)]
    rw[qp (by omega),qp (by omega)];rfl
   ·refine⟨?_,zP fun p hp=>.inr (by have:=jj hp;omega),trivial⟩
    dsimp only
    rw[qH (by omega)]
    repeat rw[qk (by omega)]
    rw[qp (by omega),qH (by omega)];rfl
  ·dsimp only
   rw[qH (by omega)]
   repeat rw[qk (by omega)]
   rw[qS hj]
 ·rw[qp (by omega)];rfl
 ·intro j hj
  exact qS (by omega)
 ·show [AV.ag [snp _ _ 5 (.v _),snp _ _ 5 (.rf 390000000 0 _)],snp _ _ 6 (.v _)]=_
  rw[X7 (.inl (by omega))]
  simp[snp,qD]
 simp(disch:=omega)only[go_sem,qp,qH]
 refine AW.regCallG 2 (by simp only[List.take_succ_cons,List.take_zero];rfl) (by simp only[List.drop_succ_cons,List.drop_zero];rfl) (e':=ofL .un [(1,.v (.int .i64 low)),(2,.pt 40000000 0),(4,.v (.bool false)),(6,.pt 80000000 0),(7,.pt 90000000 0),(8,.v (.bool true)),(10,.pt 120000000 0),(11,.pt 130000000 0),(12,.v (.bool true)),(86,.ag [.v (.bool (g N).s),.rf (390000001+N) 0 (g N).xs.length,.v (.int .i64 (g N).e)]),(87,.v (.int .i64 (kAt 1 g N)))])
  (h':=fam 390000001 (N+1) (zL (yU 1 g N)) (ofH [(40000000,.own 0 [.v (.int .i64 k),.sl l.length (qj DyV.cs l)]),(80000000,.own 0 [.v (.int .i64 n),.sl N (qj DyV.cs (gM g N))]),(90000000,.own 0 [.v (.bool (g N).s),.sl (g N).xs.length (qg (g N).xs),.v (.int .i64 (g N).e)]),(120000000,.own 0 [.v (.int .i64 n),.rf 390000000 0 N]),(130000000,.own 0 [.v (.bool (g N).s),.rf (390000001+N) 0 (g N).xs.length,.v (.int .i64 (g N).e)]),(390000000,.own 3 (qj (dcs 390000001) (prF (mkd 1 g) N)))])) ?_
  (by decide) rfl rfl (by simp(disch:=omega)only[go_sem]) (by rfl) (ajQ (390000001+N) (g N).xs (mkI (kAt 1 g N) (g N).xs.length) _ ?_ cm2 ?_ ?_)
 ·simp(disch:=omega)only[go_sem,qp,qH]
  refine Le.famI _ _ _ _ _ (qA _) rfl (fun q hq=>.inl ?_) (by simp(disch:=omega)only[go_sem,JW,nmF,jK];try simp) (fun q hq=>?_) (fun j hj=>?_)
  ·simp only[List.mem_cons,List.not_mem_nil,or_false]at hq
   rcases hq with rfl|rfl|rfl|rfl|rfl|rfl<;>(dsimp only;omega)
  ·simp only[List.mem_cons,List.not_mem_nil,or_false]at hq
   rcases hq with rfl|rfl|rfl|rfl|rfl|rfl
   ·refine⟨?_,⟨trivial,trivial,trivial⟩,trivial⟩
    dsimp only
    repeat rw[qk (by omega)]
    rw[qp (by omega)]
    repeat rw[qk (by omega)]
    rw[qp (by omega)];rfl
   ·refine⟨?_,⟨trivial,trivial,trivial⟩,trivial⟩
    dsimp only
    repeat rw[qk (by omega)]
    rw[qp (by omega)]
    repeat rw[qk (by omega)]
    rw[qp (by omega)];rfl
   ·refine⟨?_,⟨trivial,trivial,trivial,trivial⟩,trivial⟩
    dsimp only
    repeat rw[qk (by omega)]
    rw[qp (by omega)]
    repeat rw[qk (by omega)]
    rw[qp (by omega)];rfl
   ·refine⟨?_,⟨trivial,.inl (.inr (.inr (.inr (.inr (.inr (.inl rfl)))))),trivial⟩,trivial⟩
    dsimp only
    repeat rw[qk (by omega)]
    rw[qp (by omega)]
    repeat rw[qk (by omega)]
    rw[qp (by omega)];rfl
   ·refine⟨?_,⟨trivial,.inr (by omega),trivial,trivial⟩,trivial⟩
    dsimp only
    repeat rw[qk (by omega)]
    rw[qp (by omega)]
    repeat rw[qk (by omega)]
    rw[qp (by omega)];rfl
   ·refine⟨?_,zP fun p hp=>.inr (by have:=jj hp;omega),trivial⟩
    dsimp only
    repeat rw[qk (by omega)]
    rw[qp (by omega),qo]
  ·dsimp only
   rcases(show j<N∨j=N by omega)with c|rfl
   ·repeat rw[qk (by omega)]
    rw[qS c]
    unfold zL yU
    rw[if_pos c]
   ·repeat rw[qk (by omega)]
    rw[qH (by omega)]
    repeat rw[qk (by omega)]
    rw[qS (by omega)]
    unfold zL yU
    rw[if_neg (by omega)]
 ·rw[qS (by omega)]
  unfold zL yU
  rw[if_neg (by omega)]
 ·show [AV.ag [snp _ _ 5 (.v _),snp _ _ 5 (.rf (390000001+N) 0 _),snp _ _ 5 (.v _)],snp _ _ 6 (.v _)]=_
  rw[aqv]
  simp[snp,qD]
 simp(disch:=omega)only[go_sem,qp,qH]
 have hM0:decide (((kAt 1 g N:Nat):Int)<0)=false:=decide_eq_false (by omega)
 have hM1:decide (((kAt 1 g N+(g N).xs.length:Nat):Int)<0)=false:=decide_eq_false (by omega)
 have hmk:(mkd 1 g N).xs.length=(g N).xs.length:=Zg _ _
 have hml:(mkI (kAt 1 g N) (g N).xs.length).length=(g N).xs.length:=Zg _ _
 have hne:∀(m:Nat) (a b:Ob),m<390000001→(if m=390000001+N then a else b)=b:=fun m a b h=>if_neg (by omega)
 refine W.sound ?_
 show @W Tryz.prog 138 ⟨_⟩ ⟨fun x σ=>@qY _ _ _ ⟨_⟩ _ ⟨_⟩ x σ⟩ _ _
 simp(disch:=omega)only[go_sem,qp,qH,hne]
 refine qs chd ?_ ?_
 ·show [AV.ag [_,qD _ 5 (.rf 390000000 0 N)],_]=_
  rw[Qt (b:=390000001) (z:=3) (n:=N) (f:=mkd 1 g) ?_ (by omega) ?_]
  ·rfl
  ·repeat rw[qk (by omega)]
   rw[qp (by omega)];rfl
  ·intro j hj
   repeat rw[qk (by omega)]
   rw[qS (by omega)]
   unfold zL yU
   rw[if_pos hj]
 rintro r hs ⟨rfl,rfl, -⟩
 refine⟨by simp[qB],?_⟩
 simp(disch:=omega)only[go_sem,hM0,qp,qH,hne]
 refine qs chd2 ?_ ?_
 ·show [AV.ag [_,qD _ 5 (.rf (390000001+N) 0 _),_],_]=_
  rw[js (l:=mkI (kAt 1 g N) (g N).xs.length) (zs:=[]) ?_ hml]
  ·rfl
  ·repeat rw[qk (by omega)]
   rw[qo,List.append_nil]
 rintro r hs ⟨rfl,rfl, -⟩
 refine⟨by simp[qB],?_⟩
 simp(disch:=omega)only[go_sem,hM1,qp,qH,hne]
 have ciF:Con Tryz.prog 28 true [.ag [.v (.int .i64 k),.sl l.length (qj DyV.cs l)],.v (.int .i64 low)] [] (isA (.tu [.ag [.v (.int .i64 n),.sl N (qj DyV.cs (gM g N))],.ag [.v (.bool (g N).s),.sl (g N).xs.length (qg (g N).xs),.v (.int .i64 (g N).e)],.v (.bool true)])):=arO hN ci
 refine qa (cT) ?_
 simp(disch:=omega)only[go_sem]
 refine qm (ciF) ?_
 simp(disch:=omega)only[go_sem]
 simp(disch:=omega)only[go_sem,qp,qH,hne]
 refine qm (ceq) ?_
 simp(disch:=omega)only[go_sem]
 simp(disch:=omega)only[go_sem,qp,qH,hne]
 refine qm (ceq2) ?_
 simp(disch:=omega)only[go_sem]
 simp(disch:=omega)only[go_sem,show(true != true)=false from rfl,qp,qH,hne]
 refine qs chd ?_ ?_
 ·show [AV.ag [_,qD _ 5 (.rf 390000000 0 N)],_]=_
  rw[Qt (b:=390000001) (z:=3) (n:=N) (f:=mkd 1 g) ?_ (by omega) ?_]
  ·rfl
  ·repeat rw[qk (by omega)]
   rw[qp (by omega)];rfl
  ·intro j hj
   repeat rw[qk (by omega)]
   rw[qS (by omega)]
   unfold zL yU
   rw[if_pos hj]
 rintro r hs ⟨rfl,rfl, -⟩
 refine⟨by simp[qB],?_⟩
 simp(disch:=omega)only[go_sem,hM0,qp,qH,hne]
 refine qs chd2 ?_ ?_
 ·show [AV.ag [_,qD _ 5 (.rf (390000001+N) 0 _),_],_]=_
  rw[js (l:=mkI (kAt 1 g N) (g N).xs.length) (zs:=[]) ?_ hml]
  ·rfl
  ·repeat rw[qk (by omega)]
   rw[qo,List.append_nil]
 rintro r hs ⟨rfl,rfl, -⟩
 refine⟨by simp[qB],?_⟩
 simp(disch:=omega)only[go_sem,hM1]
 exact qt
end Go.Ab
namespace Go.Ab
open Go Go.Proofs
theorem aaG(k:Nat):Con Tryz.prog 37 true [.sl 0 [],.v (.int .i64 k)] [] (isA (.v (.int .i64 k))):=by
 refine Con.of_w (rs:=[.tmp 4]) Tryz.func37 rfl Tryz.ntmps37 rfl ?_
 simp(disch:=omega)only[go_sem]
 refine qi (fun _:Nat=>[(0,.sl 0 []),(1,.v (.int .i64 k)),(5,.v (.int .i64 0))]) (fun _=>[]) (fun _=>True) (fun _=>0) 0 trivial (Le.lst [] _ _ rfl (by simp(disch:=omega)only[go_sem]) (by simp(disch:=omega)only[go_sem])) ?_
 intro _ _
 simp(disch:=omega)only[go_sem]
 exact qt
theorem aaF(m:Int)(k:Nat):Con Tryz.prog 13 true [.ag [.v (.int .i64 m),.sl 0 []],.v (.int .i64 k)] [] (isA (.v (.int .i64 k))):=by
 refine Con.of_w (rs:=[.tmp 4]) Tryz.func13 rfl Tryz.ntmps13 rfl ?_
 simp(disch:=omega)only[go_sem]
 refine qm (aaG k) ?_
 simp(disch:=omega)only[go_sem]
 exact qt
theorem aaR(k:Nat):Con Tryz.prog 38 true [.sl 0 [],.v (.int .i64 k)] [] (isA (.v (.int .i64 k))):=by
 refine Con.of_w (rs:=[.tmp 4]) Tryz.func38 rfl Tryz.ntmps38 rfl ?_
 simp(disch:=omega)only[go_sem]
 refine qi (fun _:Nat=>[(0,.sl 0 []),(1,.v (.int .i64 k)),(5,.v (.int .i64 0))]) (fun _=>[]) (fun _=>True) (fun _=>0) 0 trivial (Le.lst [] _ _ rfl (by simp(disch:=omega)only[go_sem]) (by simp(disch:=omega)only[go_sem])) ?_
 intro _ _
 simp(disch:=omega)only[go_sem]
 exact qt
theorem aaQ(m:Int)(k:Nat):Con Tryz.prog 14 true [.ag [.v (.int .i64 m),.sl 0 []],.v (.int .i64 k)] [] (isA (.v (.int .i64 k))):=by
 have q:decide (((k:Nat):Int)<0)=false:=decide_eq_false (by omega)
 refine Con.of_w (rs:=[.tmp 4]) Tryz.func14 rfl Tryz.ntmps14 rfl ?_
 simp(disch:=omega)only[go_sem]
 refine qm (aaR k) ?_
 simp(disch:=omega)only[go_sem]
 simp(disch:=omega)only[go_sem,q]
 exact qt
end Go.Ab
namespace Go.Ab
open Go Go.Proofs
set_option maxRecDepth 100000 in
theorem y7(k:Int)(l:List DyV)(low:Int)(hl:l.length≤9223372036854775807)(hx:∀x∈l,x.xs.length≤9223372036854775807)
  (cs:Con Tryz.prog 27 false [.ag [.v (.int .i64 k),.sl l.length (qj DyV.cs l)],.v (.int .i64 low)] [] (isA (.tu [.ag [.v (.int .i64 0),.sl 0 []],.ag [.v (.bool false),.sl 0 [],.v (.int .i64 0)],.v (.bool false)])))
  (ci:Con Tryz.prog 28 true [.ag [.v (.int .i64 k),.sl l.length (qj DyV.cs l)],.v (.int .i64 low)] [] mnZ):
  Con Tryz.prog 6 true [.ag [.v (.int .i64 k),.sl l.length (qj DyV.cs l)],.v (.int .i64 low)] [] (isA (.v (.bool true))):=by
 have ceq:Con Tryz.prog 10 true [.ag [.v (.int .i64 0),.sl 0 []],.ag [.v (.int .i64 0),.sl 0 []]] [] (isA (.v (.bool true))):=ZP 0 [] (by simp) (by simp)
 have ceq2:Con Tryz.prog 19 true [.ag [.v (.bool false),.sl 0 [],.v (.int .i64 0)],.ag [.v (.bool false),.sl 0 [],.v (.int .i64 0)]] [] (isA (.v (.bool true))):=V5 false [] 0 (by simp)
 have cm1:Con Tryz.prog 13 true [.ag [.v (.int .i64 0),.sl 0 []],.v (.int .i64 1)] [] (isA (.v (.int .i64 1))):=aaF 0 1
 have cm2:Con Tryz.prog 20 true [.ag [.v (.bool false),.sl 0 [],.v (.int .i64 0)],.v (.int .i64 1)] [] (isA (.v (.int .i64 1))):=ach false 0 1
 have chd:Con Tryz.prog 14 true [.ag [.v (.int .i64 0),.sl 0 []],.v (.int .i64 1)] [] (isA (.v (.int .i64 1))):=aaQ 0 1
 have chd2:Con Tryz.prog 21 true [.ag [.v (.bool false),.sl 0 [],.v (.int .i64 0)],.v (.int .i64 1)] [] (isA (.v (.int .i64 1))):=XW false 0 1 0 (by omega) (by omega)
 have cz:=Jg k l 1048576 hl hx (by omega)
 refine Con.of_aw Tryz.func6 rfl Tryz.ntmps6 (by simp) (by simp) (by simp) (AW.front3 ?_)
 show @W Tryz.prog 138 ⟨_⟩ ⟨fun x σ=>@yv ⟨_⟩ ⟨_⟩ x σ⟩ _ _
 simp(disch:=omega)only[go_sem]
 refine qs cz (by simp(disch:=omega)only[go_sem]) ?_
 rintro r hs ⟨v,rfl,rfl, -,hv⟩
 refine⟨by simp[qB],?_⟩
 simp(disch:=omega)only[go_sem]
 rcases hv with rfl|⟨h0,h1⟩
 ·refine W.sound ?_
  show @W Tryz.prog 138 ⟨_⟩ ⟨fun x σ=>@qY _ _ _ ⟨_⟩ _ ⟨_⟩ x σ⟩ _ _
  simp(disch:=omega)only[go_sem]
  exact qt
 have hlen:l.length≤1048576:=by omega
 have hxs:=abG h1
 have cT:=XH k l hlen hxs
 have hv0:decide (v<0)=false:=decide_eq_false (by omega)
 refine AW.front3 ?_
 show @W Tryz.prog 138 ⟨_⟩ ⟨fun x σ=>@yv ⟨_⟩ ⟨_⟩ x σ⟩ _ _
 simp(disch:=omega)only[go_sem,hv0]
 refine qa (cT) ?_
 simp(disch:=omega)only[go_sem]
 refine qa (cs) ?_
 simp(disch:=omega)only[go_sem]
 refine qw (Jf k l hlen hxs) (by simp(disch:=omega)only[go_sem]) ?_
 rintro r hs ⟨rfl,rfl⟩
 refine⟨⟨by simp;omega,yK fun j hj=>?_⟩,?_⟩
 ·repeat rw[qk (by omega)]
  rw[XX (by omega)]
 have hrow:=@abr 350000000 l.length l (by omega)
 simp(disch:=omega)only[go_sem,Q2 (jf l),qp,hrow]
 rw[avj,ao4]
 refine AW.le (Le.famI [(1,.v (.int .i64 low)),(2,.pt 40000000 0),(4,.v (.bool false)),(6,.pt 80000000 0),(7,.pt 90000000 0),(8,.v (.bool false)),(9,.pt 110000000 0)]
  [(40000000,.own 0 [.v (.int .i64 k),.sl l.length (qj DyV.cs l)]),(80000000,.own 0 [.v (.int .i64 0),.sl 0 []]),(90000000,.own 0 [.v (.bool false),.sl 0 [],.v (.int .i64 0)]),(110000000,.own 0 [.v (.int .i64 k),.rf 350000000 0 l.length]),(350000000,.own 3 (qj (dcs 350000001) (prF (fun j=>l.getD j dy0) l.length)))]
  350000001 l.length (zL fun j=>l.getD j dy0) (qA _) rfl (fun q hq=>.inl ?_) (by simp(disch:=omega)only[go_sem,JW,nmF,jK];try simp) (fun q hq=>?_) (fun j hj=>?_)) ?_
 ·simp only[List.mem_cons,List.not_mem_nil,or_false]at hq
  rcases hq with rfl|rfl|rfl|rfl|rfl<;>(dsimp only;omega)
 ·simp only[List.mem_cons,List.not_mem_nil,or_false]at hq
  rcases hq with rfl|rfl|rfl|rfl|rfl
  ·refine⟨?_,⟨trivial,trivial,trivial⟩,trivial⟩
   dsimp only
   repeat rw[qk (by omega)]
   rw[qp (by omega)]
   repeat rw[qk (by omega)]
   rw[qo]
  ·refine⟨?_,⟨trivial,trivial,trivial⟩,trivial⟩
   dsimp only
   repeat rw[qk (by omega)]
   rw[qp (by omega)]
   repeat rw[qk (by omega)]
   rw[qo]
  ·refine⟨?_,⟨trivial,trivial,trivial,trivial⟩,trivial⟩
   dsimp only
   repeat rw[qk (by omega)]
   rw[qp (by omega)]
   repeat rw[qk (by omega)]
   rw[qo]
  ·refine⟨?_,⟨trivial,.inl (.inr (.inr (.inr (.inr (.inl rfl))))),trivial⟩,trivial⟩
   dsimp only
   rw[qo]
  ·refine⟨?_,zP fun p hp=>.inr (by have:=jj hp;omega),trivial⟩
   dsimp only
   repeat rw[qk (by omega)]
   rw[qp (by omega),qo]
 ·dsimp only
  repeat rw[qk (by omega)]
  rw[qS hj]
 refine AW.front4 ?_
 show @W Tryz.prog 138 ⟨_⟩ ⟨fun x σ=>@yv ⟨_⟩ ⟨_⟩ x σ⟩ _ _
 simp(disch:=omega)only[go_sem,qp]
 refine qs ci ?_ ?_
 ·show [AV.ag [_,qD _ 5 (.rf 350000000 0 l.length)],_]=_
  rw[X8 (b:=350000001) (by rw[qp (by omega)];rfl) (fun j hj=>qS hj)]
  rfl
 rintro r hs ⟨rfl,rfl⟩
 refine⟨by simp[qB],?_⟩
 simp(disch:=omega)only[go_sem,qp,qH]
 refine qm (ceq) ?_
 simp(disch:=omega)only[go_sem]
 try simp(disch:=omega)only[go_sem,qp,qH]
 refine qm (ceq2) ?_
 simp(disch:=omega)only[go_sem]
 try simp(disch:=omega)only[go_sem,show(false != false)=false from rfl,qp,qH]
 refine qq rfl [⟨0,[],[]⟩,⟨1,[0],[]⟩,⟨2,[0],[]⟩,⟨3,[],[]⟩,⟨4,[],[]⟩] (by kernel_rfl) ?_
 simp(disch:=omega)only[go_sem,qp,qH]
 refine qa (cT) ?_
 simp(disch:=omega)only[go_sem]
 refine qs (ZP k l hlen (fun d hd=>Nat.le_trans (hxs d hd) (by omega))) ?_ ?_
 ·show [AV.ag [_,qD _ 5 (.rf 350000000 0 l.length)],_]=_
  rw[X8 (b:=350000001) ?_ (fun j hj=>?_)]
  ·rfl
  ·repeat rw[qk (by omega)]
   rw[qp (by omega)];rfl
  ·repeat rw[qk (by omega)]
   rw[qS hj]
 rintro r hs ⟨rfl,rfl, -⟩
 refine⟨by simp[qB],?_⟩
 simp(disch:=omega)only[go_sem]
 have hkb0:∀i,i≤l.length→kAt 1 (fun j=>l.getD j dy0) i≤2^39:=fun i hi=>by
  rw[adt]
  have:=JQ (f:=fun j=>l.getD j dy0) (i:=i) l.length hi
  omega
 have hx0:∀j,j<l.length→((fun j=>l.getD j dy0) j).xs.length≤1048576:=fun j hj=>Nat.le_trans (abq (f:=fun j=>l.getD j dy0) hj) (by omega)
 have cm0:=Zl k (fun j=>l.getD j dy0) l.length 1 hlen hx0 hkb0
 refine AW.regCallG 2 (by simp only[List.take_succ_cons,List.take_zero];rfl) (by simp only[List.drop_succ_cons,List.drop_zero];rfl) (e':=ofL .un [(1,.v (.int .i64 low)),(2,.pt 40000000 0),(4,.v (.bool false)),(6,.pt 80000000 0),(7,.pt 90000000 0),(8,.v (.bool false)),(10,.pt 120000000 0),(11,.pt 130000000 0),(12,.v (.bool false)),(61,.ag [.v (.int .i64 k),.rf 350000000 0 l.length]),(62,.v (.int .i64 1))])
  (h':=fam 350000001 l.length (zL fun j=>l.getD j dy0) (ofH [(40000000,.own 0 [.v (.int .i64 k),.sl l.length (qj DyV.cs l)]),(80000000,.own 0 [.v (.int .i64 0),.sl 0 []]),(90000000,.own 0 [.v (.bool false),.sl 0 [],.v (.int .i64 0)]),(120000000,.own 0 [.v (.int .i64 0),.v (.slice none 0 0)]),(130000000,.own 0 [.v (.bool false),.v (.slice none 0 0),.v (.int .i64 0)]),(350000000,.own 3 (qj (dcs 350000001) (prF (fun j=>l.getD j dy0) l.length)))])) ?_
  (by decide) rfl rfl (by simp(disch:=omega)only[go_sem]) (by rfl) (J0 350000000 350000001 l.length 3 (fun j=>l.getD j dy0) (mkd 1 fun j=>l.getD j dy0) _ (.inl (by omega)) ?_ ?_ cm0 ?_ ?_)
 ·simp(disch:=omega)only[go_sem,qp,qH]
  refine Le.famI _ _ _ _ _ (qA _) rfl (fun q hq=>.inl ?_) (by simp(disch:=omega)only[go_sem,JW,nmF,jK];try simp) (fun q hq=>?_) (fun j hj=>?_)
  ·simp only[List.mem_cons,List.not_mem_nil,or_false]at hq
   rcases hq with rfl|rfl|rfl|rfl|rfl|rfl<;>(dsimp only;omega)
  ·simp only[List.mem_cons,List.not_mem_nil,or_false]at hq
   rcases hq with rfl|rfl|rfl|rfl|rfl|rfl
   ·refine⟨?_,⟨trivial,trivial,trivial⟩,trivial⟩
    dsimp only
    repeat rw[qk (by omega)]
    rw[qp (by omega)];rfl
   ·refine⟨?_,⟨trivial,trivial,trivial⟩,trivial⟩
    dsimp only
    repeat rw[qk (by omega)]
    rw[qp (by omega)];rfl
   ·refine⟨?_,⟨trivial,trivial,trivial,trivial⟩,trivial⟩
    dsimp only
    repeat rw[qk (by omega)]
    rw[qp (by omega)];rfl
   ·refine⟨?_,⟨trivial,trivial,trivial⟩,trivial⟩
    dsimp only
    repeat rw[qk (by omega)]
    rw[qo]
   ·refine⟨?_,⟨trivial,trivial,trivial,trivial⟩,trivial⟩
    dsimp only
    repeat rw[qk (by omega)]
    rw[qo]
   ·refine⟨?_,zP fun p hp=>.inr (by have:=jj hp;omega),trivial⟩
    dsimp only
    repeat rw[qk (by omega)]
    rw[qp (by omega)];rfl
  ·dsimp only
   repeat rw[qk (by omega)]
   rw[qS hj]
 ·rw[qp (by omega)];rfl
 ·intro j hj
  exact qS hj
 ·show [AV.ag [snp _ _ 5 (.v _),snp _ _ 5 (.rf 350000000 0 _)],snp _ _ 6 (.v _)]=_
  rw[X7 (.inl (by omega))]
  simp[snp,qD]
 simp(disch:=omega)only[go_sem,qp,qH]
 have hX0:decide (((kAt 1 (fun j=>l.getD j dy0) l.length:Nat):Int)<0)=false:=decide_eq_false (by omega)
 have ciF:Con Tryz.prog 28 true [.ag [.v (.int .i64 k),.sl l.length (qj DyV.cs l)],.v (.int .i64 low)] [] (isA (.tu [.ag [.v (.int .i64 0),.sl 0 []],.ag [.v (.bool false),.sl 0 [],.v (.int .i64 0)],.v (.bool false)])):=by
  refine Con.frzAC (ci.mono ?_)
  rintro r hs bs ⟨rfl,rfl⟩
  rfl
 refine W.sound ?_
 show @W Tryz.prog 138 ⟨_⟩ ⟨fun x σ=>@qY _ _ _ ⟨_⟩ _ ⟨_⟩ x σ⟩ _ _
 simp(disch:=omega)only[go_sem,hX0,qp,qH]
 refine qm (ceq) ?_
 simp(disch:=omega)only[go_sem]
 try simp(disch:=omega)only[go_sem,qp,qH]
 refine qm (ceq2) ?_
 simp(disch:=omega)only[go_sem]
 try simp(disch:=omega)only[go_sem,show(false != false)=false from rfl,qp,qH]
 refine qm (cm1) ?_
 simp(disch:=omega)only[go_sem]
 try simp(disch:=omega)only[go_sem,qp,qH]
 refine qm (cm2) ?_
 simp(disch:=omega)only[go_sem]
 try simp(disch:=omega)only[go_sem,qp,qH]
 refine qm (chd) ?_
 simp(disch:=omega)only[go_sem]
 try simp(disch:=omega)only[go_sem,qp,qH]
 refine qm (chd2) ?_
 simp(disch:=omega)only[go_sem]
 try simp(disch:=omega)only[go_sem,qp,qH]
 refine qa (cT) ?_
 simp(disch:=omega)only[go_sem]
 refine qm (ciF) ?_
 simp(disch:=omega)only[go_sem]
 try simp(disch:=omega)only[go_sem,qp,qH]
 refine qm (ceq) ?_
 simp(disch:=omega)only[go_sem]
 try simp(disch:=omega)only[go_sem,qp,qH]
 refine qm (ceq2) ?_
 simp(disch:=omega)only[go_sem]
 try simp(disch:=omega)only[go_sem,show(false != false)=false from rfl,qp,qH]
 refine qm (chd) ?_
 simp(disch:=omega)only[go_sem]
 try simp(disch:=omega)only[go_sem,qp,qH]
 refine qm (chd2) ?_
 simp(disch:=omega)only[go_sem]
 exact qt
end Go.Ab
namespace Go.Ab
open Go Go.Proofs
set_option maxRecDepth 100000 in
set_option maxHeartbeats 2000000 in
theorem aa1(n:Nat)(L:List ExV)(low:Int)(F:List SpV)(hn:n≤4)(hL:L.length=n*n)(hlow: -1000≤low∧low≤1000)(ca:Con Tryz.prog 51 true [.ag [.v (.int .i64 (n)),.sl (L).length (qj ExV.cs (L))],.v (.int .i64 low)] [] (isA (.v (.bool true))))
  (ch:Con Tryz.prog 65 false [.ag [.v (.int .i64 (n)),.sl (L).length (qj ExV.cs (L))],.v (.int .i64 low)] [] (isA (.ag [.v (.int .i64 (n)),.sl (F).length (qj SpV.cs (F))]))) (hF:F.length=n*n) (hFb:sbd (-300000) 300000 F) (hfit:F.all SpV.fit=true):
  Con Tryz.prog 28 true [.ag [.v (.int .i64 (n)),.sl (L).length (qj ExV.cs (L))],.v (.int .i64 low)] []
   (if((QE n F low).all ExV.fit&&(zI n F low).fit)=true then mnO n (n*n) (exg (QE n F low) (zI n F low))else mnZ):=by
 generalize hQ:(if((QE n F low).all ExV.fit&&(zI n F low).fit)=true then mnO n (n*n) (exg (QE n F low) (zI n F low))else mnZ)=Q
 have hq:=jr hn
 have cg:=YK n L (by omega)
 have cv:=ajp n F (by omega) (qy hFb (by omega) (by omega))
 rw[hfit,if_pos rfl]at cv
 have cm:=as8 n F (by omega) (qy hFb (by omega) (by omega))
 have hml:(F.map Qm).length=n*n:=by rw[List.length_map,hF]
 have hmb:gbd (-300001) 300000 (F.map Qm):=by
  intro x hx
  obtain⟨s,hs,rfl⟩:=List.mem_map.1 hx
  exact(abF (hFb s hs)).mono (by omega) (by omega)
 have cr:=anR n (F.map Qm) low 0 hn hml (zC hmb (by omega) (by omega)) (by omega)
 have hXl:(QE n F low).length=n*n:=by unfold QE akp;exact jw
 have hXb:gbd (-300001) 300001 (QE n F low):=aid hml hmb (by omega) (by omega)
 change Con _ _ _ _ _ (isA (.ag [.v (.int .i64 (n)),.sl (QE n F low).length (qj ExV.cs (QE n F low))]))at cr
 have hOb:gbd (-300001) 300002 (aba F (QE n F low) (n*n)):=ahg (qy hFb (by omega) (by omega)) hXb (by omega) (by omega)
 have cno:=JX n (aba F (QE n F low) (n*n)) hn QQ (zC hOb (by omega) (by omega))
 change Con _ _ _ _ _ (isA (.ag [.v (.bool (zI n F low).s),.sl (lim (zI n F low).m).length (qg (lim (zI n F low).m)),.v (.int .i64 (zI n F low).e)]))at cno
 have hFar:(zI n F low).bd (-300001) 300006:=(jh QQ hOb (by omega) n (Nat.le_refl _)).mono (by omega) (by omega)
 have cwU:=YJ n (QE n F low) (zI n F low) (by omega) (zC hXb (by omega) (by omega)) (hFar.mono (by omega) (by omega))
 have cwZ:=YI n (QE n F low) (zI n F low) (by omega) (zC hXb (by omega) (by omega)) (hFar.mono (by omega) (by omega))
 have hFp:=qA (exg (QE n F low) (zI n F low))
 generalize exg (QE n F low) (zI n F low)=g at*
 generalize zI n F low=far at*
 generalize QE n F low=X at*
 generalize F.map Qm=M at*
 generalize F.map SpV.can=FC at*
 refine Con.of_aw Tryz.func28 rfl Tryz.ntmps28 (by simp) (by simp) (by simp) (W.sound ?_)
 show @W Tryz.prog 81 ⟨_⟩ ⟨fun x σ=>@qY _ _ _ ⟨_⟩ _ ⟨_⟩ x σ⟩ _ _
 simp(disch:=omega)only[go_sem]
 refine qm (ca) ?_
 simp(disch:=omega)only[go_sem]
 refine qa (cg) ?_
 simp(disch:=omega)only[go_sem]
 refine qa (ch) ?_
 simp(disch:=omega)only[go_sem]
 refine qa (cv) ?_
 simp(disch:=omega)only[go_sem]
 refine qa (cm) ?_
 simp(disch:=omega)only[go_sem]
 refine qa (cr) ?_
 simp(disch:=omega)only[go_sem]
 refine qi (fun i:Nat=>[(4,.pt 2 0),(5,.pt 3 0),(7,.pt 4 0),(10,.pt 5 0),(11,.pt 0 0),(41,.sl F.length (qj SpV.cs F)),(42,.v (.int .i64 F.length)),(43,.v (.int .i64 i))])
  (fun i=>[(0,.own 0 [.v (.int .i64 n),.rf 1 0 i]),(1,.own 3 (qj ExV.cs (aba F X i))),(2,.own 0 [.v (.int .i64 0),.v (.slice none 0 0)]),(3,.own 0 [.v (.bool false),.v (.slice none 0 0),.v (.int .i64 0)]),(4,.own 0 [.v (.int .i64 n),.sl F.length (qj SpV.cs F)]),(5,.own 0 [.v (.int .i64 n),.sl X.length (qj ExV.cs X)])])
  (fun i=>i≤F.length) (fun i=>F.length-i) 0 (by omega)
  ((Le.ghostC 130000000 1 1 3 (zo:=0) (cs:=[.v (.int .i64 n),.v (.slice none 0 0)]) (by simp(disch:=omega)only[go_sem]) rfl (by simp(disch:=omega)only[go_sem])).trans (Le.lst [(0,130000000),(2,60000000),(3,70000000),(4,90000000),(5,120000000)] _ _ rfl (by simp(disch:=omega)only[go_sem]) (by simp(disch:=omega)only[go_sem,show aba F X 0=[] from rfl,Qb,List.set_cons_succ,List.set_cons_zero]))) ?_
 intro i hi
 simp(disch:=omega)only[go_sem]
 refine qh (fun h1=>?_) (fun h1=>?_)
 ·have hi2:i<F.length:=by omega
  have hci:=z8 hi2
  have hcx:=zM (l:=X) (i:=i) (by omega)
  have hcut:=zp (QQ (F:=F) (X:=X) (k:=i))
  have hs:=ahf (F:=F) (X:=X) (k:=i)
  have bs:=zD hFb hi2
  have bx:=zE hXb (show i<X.length by omega)
  have b2:=ahe (SpV.bd.mono bs (by omega) (by omega)) bx
  generalize F.getD i sp0=s at*
  generalize X.getD i ex0=x at*
  simp(disch:=omega)only[go_sem,h1,hci]
  refine⟨by omega,by omega,?_⟩
  refine qq rfl [⟨0,[],[]⟩,⟨1,[],[]⟩,⟨2,[1],[]⟩,⟨3,[1],[]⟩,⟨4,[1,3],[]⟩,⟨5,[1,3],[]⟩,⟨6,[1,3,5],[]⟩,⟨7,[1,3],[]⟩,⟨8,[1,3],[]⟩,⟨11,[1,3,5,8],[]⟩,⟨12,[1,3,5,8],[]⟩,⟨13,[1,3,5,8,12],[]⟩,⟨14,[1,3,5,8],[]⟩,⟨15,[1,3,5,8],[]⟩,⟨16,[1,3,5,8,12,15],[]⟩,⟨17,[1,3,5,8,12,15],[]⟩,⟨9,[1,12,15,17],[]⟩,⟨10,[1,12,15,17],[]⟩,⟨18,[1],[]⟩,⟨19,[1],[]⟩,⟨20,[1],[]⟩,⟨21,[1],[]⟩,⟨22,[1],[]⟩,⟨23,[],[]⟩,⟨24,[],[]⟩,⟨25,[],[]⟩] (by kernel_rfl) ?_
  simp(disch:=omega)only[go_sem,hcx]
  refine⟨by omega,by omega,by omega,by omega,?_⟩
  refine qa (Jj s.hi x (bs.2.mono (by omega) (by omega)) (bx.mono (by omega) (by omega))) ?_
  simp(disch:=omega)only[go_sem]
  refine qa (V9 (s.hi.plus x.neg)) ?_
  simp(disch:=omega)only[go_sem]
  refine qa (Jj x s.lo (bx.mono (by omega) (by omega)) (bs.1.mono (by omega) (by omega))) ?_
  simp(disch:=omega)only[go_sem]
  refine qa (V9 (x.plus s.lo.neg)) ?_
  simp(disch:=omega)only[go_sem]
  generalize (s.hi.plus x.neg).abs=A at*
  generalize (x.plus s.lo.neg).abs=B at*
  have hrow:([.v (.bool A.s),.sl (lim A.m).length (qg (lim A.m)),.v (.int .i64 A.e),.v (.bool B.s),.sl (lim B.m).length (qg (lim B.m)),.v (.int .i64 B.e)]:List AV)=qj ExV.cs [A,B]:=rfl
  rw[hrow]
  refine zl false [700000000] (aaC [A,B] (by simp) (by simp) (zC b2 (by omega) (by omega))) (by simp(disch:=omega)only[go_sem]) (by simp(disch:=omega)only[go_sem]) rfl (q7 (z:=3) (cs:=qj ExV.cs [A,B]) (by simp(disch:=omega)only[go_sem]) (by simp(disch:=omega)only[go_sem])) (by intro n hn;exact⟨_,List.mem_cons_self ..,by rw[List.mem_singleton.1 hn];rfl⟩) ?_
  rintro r hs2 bs2 ⟨rfl,rfl,rfl⟩-
  refine⟨by simp[qB],?_⟩
  simp(disch:=omega)only[go_sem,hcut,QY]
  refine⟨⟨by rw[QQ];exact Nat.le_refl _,by omega⟩,qe (i+1) [(1,730000000)] (by show i+1≤_;omega) (by show F.length-(i+1)<F.length-i;omega) rfl (by simp(disch:=omega)only[go_sem];try omega) (by simp(disch:=omega)only[go_sem,hs])⟩
 ·simp(disch:=omega)only[go_sem,h1]
  obtain rfl:i=F.length:=by omega
  have hol:=QQ (F:=F) (X:=X) (k:=n*n)
  rw[hF]
  generalize aba F X (n*n)=O at*
  rw[hol]at cno
  refine as3 (E:=[(4,.pt 2 0),(5,.pt 3 0),(10,.pt 5 0),(11,.pt 0 0)]) (H:=[(0,.own 0 [.v (.int .i64 n),.sl (n*n) (qj ExV.cs O)]),(2,.own 0 [.v (.int .i64 0),.v (.slice none 0 0)]),(3,.own 0 [.v (.bool false),.v (.slice none 0 0),.v (.int .i64 0)]),(5,.own 0 [.v (.int .i64 n),.sl X.length (qj ExV.cs X)])])
   ((Le.frz 1 (z:=3) (ks:=qj ExV.cs O) (by simp(disch:=omega)only[go_sem]) rfl (by simp(disch:=omega)only[go_sem])).trans (Le.lst [] _ _ rfl (by simp(disch:=omega)only[go_sem]) (by simp(disch:=omega)only[go_sem,zp hol]))) ?_
  refine qq rfl [⟨0,[],[]⟩,⟨1,[0],[]⟩,⟨2,[0],[]⟩,⟨3,[],[]⟩,⟨4,[],[]⟩,⟨5,[],[]⟩,⟨6,[],[]⟩,⟨7,[],[]⟩,⟨8,[],[]⟩,⟨9,[],[]⟩] (by kernel_rfl) ?_
  simp(disch:=omega)only[go_sem]
  refine qa (cno) ?_
  simp(disch:=omega)only[go_sem]
  cases hc:(X.all ExV.fit&&far.fit)
  ·have cw:=cwZ hc
   rw[hc,if_neg (by simp)]at hQ
   subst hQ
   refine qw cw (by simp(disch:=omega)only[go_sem]) ?_
   rintro r hs ⟨rfl,rfl⟩
   refine⟨by simp[qB];try simp(disch:=omega)only[go_sem],?_⟩
   simp(disch:=omega)only[go_sem]
   refine ql [] [] [] [.ag [.v (.int .i64 0),.v (.slice none 0 0)],.ag [.v (.bool false),.v (.slice none 0 0),.v (.int .i64 0)],.v (.bool false)] rfl (by simp(disch:=omega)only[go_sem]) (by simp(disch:=omega)only[go_sem]) (by simp) (by intro _;simp[zr,AV.pu,AV.pu.puL,Ob.pu,qV]) ⟨rfl,rfl⟩
  ·have cw:=cwU hc
   rw[hXl]at cw
   rw[hc,if_pos rfl]at hQ
   subst hQ
   refine qw cw (by simp(disch:=omega)only[go_sem,hXl]) ?_
   rintro r hs ⟨rfl,rfl⟩
   refine⟨⟨by simp;omega,XB fun j hj=>?_⟩,?_⟩
   ·repeat rw[qk (by omega)]
    exact aoW (by simp;omega) (by omega)
   have hrow:zq (rho 790000000 []) (qj (dcs 1) (prF g (n*n)))=qj (dcs 790000001) (prF g (n*n)):=zV fun j hj=>by
    unfold rho;rw[if_pos (by omega)];omega
   have hend:rho 790000000 [] (n*n+1)=790000001+n*n:=by unfold rho;rw[if_pos (by omega)];omega
   simp(disch:=omega)only[go_sem,aa8,qp,hrow,hend]
   refine apf 790000000 (790000001+n*n) n (n*n) g (by omega) (by omega) (by omega) (by omega) ?_ (fun j hj=>?_) ?_ ahM (fun L=>aiP)
   ·repeat rw[qk (by omega)]
    rw[qp (by omega)]
    repeat rw[qk (by omega)]
    rw[qo]
   ·repeat rw[qk (by omega)]
    rw[show 790000000+1+j=790000001+j by omega,qS (by omega)]
   ·repeat rw[qk (by omega)]
    rw[qS (by omega)]
end Go.Ab
namespace Go.Ab
open Go Go.Proofs
/-! ### Rounded middles and how far they are off:in one form-/
theorem acN(x:ExV):x.can.abs=x.abs.can:=by
 show(⟨false,oM x.m,oE x.m x.e⟩:ExV)=⟨oS false x.m,oM x.m,oE x.m x.e⟩
 have:oS false x.m=false:=by unfold oS;split<;>rfl
 rw[this]
theorem Vq{m:Nat}{e k:Int}(h:m≠0):oE m (e+k)=oE m e+k:=by
 unfold oE
 rw[if_neg h,if_neg h];omega
theorem adV{x:ExV}:x.can.m=0↔x.m=0:=jD
theorem Xo(x:ExV)(k:Int):(x.can.shift k).can=(x.shift k).can:=by
 have h:=Jo x
 have h1:oS x.can.s x.can.m=oS x.s x.m:=congrArg ExV.s h
 have h2:oM x.can.m=oM x.m:=congrArg ExV.m h
 have h3:oE x.can.m x.can.e=oE x.m x.e:=congrArg ExV.e h
 show(⟨oS x.can.s x.can.m,oM x.can.m,oE x.can.m (x.can.e+k)⟩:ExV)=⟨oS x.s x.m,oM x.m,oE x.m (x.e+k)⟩
 rw[h1,h2]
 by_cases h0:x.m=0
 ·have h00:x.can.m=0:=adV.2 h0
  rw[h00,h0]
  unfold oE
  rw[if_pos rfl,if_pos rfl]
 ·rw[Vq h0,Vq (fun h=>h0 (adV.1 h)),h3]
theorem ah9(x:ExV):(x.shift (-1)).can=if x.can.m=0 then x.can else⟨x.can.s,x.can.m,x.can.e-1⟩:=by
 show(⟨oS x.s x.m,oM x.m,oE x.m (x.e+ -1)⟩:ExV)=_
 split
 ·rename_i h0
  have h:=adV.1 h0
  show _=(⟨oS x.s x.m,oM x.m,oE x.m x.e⟩:ExV)
  rw[h]
  unfold oE
  rw[if_pos rfl,if_pos rfl]
 ·rename_i h0
  rw[Vq fun h=>h0 (adV.2 h)]
  show _=(⟨oS x.s x.m,oM x.m,oE x.m x.e-1⟩:ExV)
  rw[show oE x.m x.e+ -1=oE x.m x.e-1 by omega]
theorem amt(s:SpV):(Qm s.can).can=(Qm s).can:=by
 obtain⟨K,hK⟩:∃K:Nat, -(K:Int)≤s.lo.e∧ -(K:Int)≤s.hi.e:=⟨(max (-s.lo.e) (-s.hi.e)).toNat,by omega,by omega⟩
 show((s.lo.can.plus s.hi.can).shift (-1)).can=((s.lo.plus s.hi).shift (-1)).can
 rw[←Xo,Zy hK.1 hK.2,Xo]
theorem ag9(x y:ExV):(x.plus y.can).can=(x.plus y).can:=by
 obtain⟨K,hK⟩:∃K:Nat, -(K:Int)≤x.e∧ -(K:Int)≤y.e:=⟨(max (-x.e) (-y.e)).toNat,by omega,by omega⟩
 rw[←KN,Zy hK.1 hK.2]
theorem aap{l:List ExV}{i:Nat}:(l.map ExV.can).getD i ex0=(l.getD i ex0).can:=by
 rw[List.getD_eq_getElem?_getD,List.getElem?_map,List.getD_eq_getElem?_getD]
 cases l[i]? with
 |none=>exact VT.symm
 |some x=>rfl
theorem adI{n:Nat}{l:List ExV}{j:Nat}:∀k,csN n (l.map ExV.can) j k=csN n l j k
 |0=>rfl
 |k+1=>by
  show((csN n (l.map ExV.can) j k).plus ((l.map ExV.can).getD (k*n+j) ex0).abs).can=((csN n l j k).plus (l.getD (k*n+j) ex0).abs).can
  rw[adI k,aap,acN,ag9]
theorem adm{n:Nat}{l:List ExV}:∀j,nsN n (l.map ExV.can) j=nsN n l j
 |0=>rfl
 |j+1=>by
  show qT (nsN n (l.map ExV.can) j) (csN n (l.map ExV.can) j n)=qT (nsN n l j) (csN n l j n)
  rw[adm j,adI]
theorem aey{n:Nat}{l:List ExV}(j:Nat):(qR n (l.map ExV.can) j).can=(qR n l j).can:=by
 rw[←Ym,adm,Ym]
theorem asf{n:Nat}{L:List ExV}{F:ExV→ExV}(hl:L.length=n*n):gl n (fun i j=>F (L.getD (i*n+j) ex0)) (n*n)=L.map F:=by
 have et:∀t,t/n*n+t % n=t:=fun t=>by rw[Nat.mul_comm];exact Nat.div_add_mod t n
 unfold gl
 apply List.ext_getElem
 ·simp[hl]
 ·intro i h1 h2
  simp only[List.length_map,List.length_range]at h1
  simp[et,List.getD_eq_getElem?_getD,List.getElem?_eq_getElem (show i<L.length by omega)]
theorem amP{n:Nat}{L:List ExV}{low md:Int}(hl:L.length=n*n):akp n L low md=L.map fun x=>x.rnd low md:=asf (F:=fun x=>x.rnd low md) hl
def fwC(v:SpV)(x:ExV):ExV:=qT (v.hi.plus x.neg).can.abs (x.plus v.lo.neg).can.abs
def fwL(V:List SpV)(X:List ExV)(k:Nat):List ExV:=(List.range k).map fun i=>fwC (V.getD i sp0) (X.getD i ex0)
theorem VL{V:List SpV}{X:List ExV}{k:Nat}:(fwL V X k).length=k:=by simp[fwL]
theorem amS{V:List SpV}{X:List ExV}{k:Nat}:fwL V X (k+1)=fwL V X k++[fwC (V.getD k sp0) (X.getD k ex0)]:=by simp[fwL,List.range_succ]
theorem asn(v:SpV)(x:ExV):fwC v.can x.can=(za [(v.hi.plus x.neg).abs,(x.plus v.lo.neg).abs]).can:=by
 show qT (v.hi.can.plus x.can.neg).can.abs (x.can.plus v.lo.can.neg).can.abs=(qT (v.hi.plus x.neg).abs (x.plus v.lo.neg).abs).can
 rw[abC,abC,acN,acN,Vw]
theorem asm{V:List SpV}{X:List ExV}{k:Nat}:fwL (V.map SpV.can) (X.map ExV.can) k=(aba V X k).map ExV.can:=by
 unfold fwL aba
 rw[List.map_map]
 exact List.map_congr_left fun i _=>by
  rw[Qs,aap,asn];rfl
theorem anl{n:Nat}{H:List SpV}{low:Int}(hl:H.length=n*n):(((H.map SpV.can).map fun s=>(Qm s).can).map fun x=>(x.rnd low 0).can)=(QE n H low).map ExV.can:=by
 unfold QE
 rw[amP (by rw[List.length_map];exact hl),List.map_map,List.map_map,List.map_map,List.map_map]
 exact List.map_congr_left fun s _=>by
  show(((Qm s.can).can).rnd low 0).can=((Qm s).rnd low 0).can
  rw[amt,Vg]
end Go.Ab
