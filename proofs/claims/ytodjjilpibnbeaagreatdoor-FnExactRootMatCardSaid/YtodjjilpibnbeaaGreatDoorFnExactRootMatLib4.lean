/- What the proof of this claim stands on: the walks of the functions and the plain laws, part 4. -/
import Derived.Test.YtodjjilpibnbeaaGreatDoorFnExactRootMatLib3
set_option linter.unusedVariables false
set_option linter.unusedSimpArgs false
namespace Go.Ab
open Go Go.Proofs
theorem ad5(xs:List Int)(left:Int)(hl:xs.length≤9223372036854775807)(h:0≤left∧left≤2^40):Con Tryz.prog 295 true [.sl xs.length (qg xs),.v (.int .i64 left)] [] (isA (.v (.int .i64 (if left-xs.length<0 then-1 else left-xs.length)))):=by
 refine Con.of_w (rs:=[.tmp 4]) Tryz.func295 rfl Tryz.ntmps295 rfl ?_
 simp(disch:=omega)only[go_sem]
 refine qh (fun h1=>?_) (fun h1=>?_)
 ·simp(disch:=omega)only[go_sem,h1]
  rw[if_pos h1]
  exact qu
 ·simp(disch:=omega)only[go_sem,h1]
  rw[if_neg h1]
  exact qu
theorem abU{xs:List Int}{i:Nat}(h:i<xs.length):(xs.take i++List.replicate (xs.length-i) 0).set i (xs.getD i 0)=xs.take (i+1)++List.replicate (xs.length-(i+1)) 0:=by
 have e1:(xs.take i).length=i:=by rw[List.length_take];omega
 have e2:xs.length-i=(xs.length-(i+1))+1:=by omega
 rw[List.set_append_right _ _ (by omega),e1,Nat.sub_self,e2,List.replicate_succ,List.set_cons_zero,List.take_add_one,List.getElem?_eq_getElem h,List.append_assoc,List.getD_eq_getElem?_getD,List.getElem?_eq_getElem h]
 rfl
theorem ad1(cl:Bool)(xs:List Int)(hl:xs.length≤2000000):Con Tryz.prog 296 cl [.sl xs.length (qg xs)] [] (agb xs):=by
 refine Con.of_aw Tryz.func296 rfl Tryz.ntmps296 (by simp) (by simp) (by simp) (W.sound ?_)
 show @W Tryz.prog 22 ⟨_⟩ ⟨fun x σ=>@q8 _ _ _ ⟨_⟩ _ ⟨_⟩ x σ⟩ _ _
 simp(disch:=omega)only[go_sem]
 refine⟨⟨by omega,by omega,by omega⟩,?_⟩
 refine qj (fun i:Nat=>[(0,.sl xs.length (qg xs)),(3,.rf 90000000 0 xs.length),(4,.v (.int .i64 i))]) (fun i=>[(90000000,.own 1 (qg (xs.take i++List.replicate (xs.length-i) 0)))]) (fun i=>i≤xs.length) (fun i=>xs.length-i) 0 (by omega)
  (Le.lst [] _ _ rfl (by simp(disch:=omega)only[go_sem];try omega) (by simp(disch:=omega)only[go_sem,Vz,List.take_zero,List.nil_append,Nat.sub_zero])) ?_
 intro i hi
 simp(disch:=omega)only[go_sem]
 refine qh (fun h1=>?_) (fun h1=>?_)
 ·simp(disch:=omega)only[go_sem,h1]
  have el:(xs.take i++List.replicate (xs.length-i) 0).length=xs.length:=by rw[List.length_append,List.length_take,List.length_replicate];omega
  refine⟨by omega,by omega,by omega,by omega,qe (i+1) [] (by show i+1≤_;omega) (by show xs.length-(i+1)<xs.length-i;omega) rfl (by simp(disch:=omega)only[go_sem];try omega) (by simp(disch:=omega)only[go_sem,abU (by omega:i<xs.length)])⟩
 ·have:i=xs.length:=by omega
  subst this
  simp(disch:=omega)only[go_sem,h1]
  refine ql [(0,90000000)] [.own 1 (qg (xs++[]))] [] [.rf 0 0 xs.length] rfl (by simp(disch:=omega)only[go_sem]) (by simp(disch:=omega)only[go_sem,List.take_length,Nat.sub_self,List.replicate_zero]) (by simp) (by intro _;simp[zb,AV.pu,Ob.pu,qQ]) (.inr ⟨[],rfl,rfl⟩)
theorem axK(xs:List Int)(hl:xs.length≤2000000):Con Tryz.prog 253 false [.ag [.sl xs.length (qg xs)]] [] (isA (.ag [.sl xs.length (qg xs)])):=by
 refine Con.frzA ?_
 refine Con.of_w (rs:=[.cell 2 40]) Tryz.func253 rfl Tryz.ntmps253 rfl ?_
 simp(disch:=omega)only[go_sem]
 refine qa (ad1 false xs hl).num ?_
 simp(disch:=omega)only[go_sem]
 exact qo
def szL(left:Int)(n:Nat):Int:=if left-n<0 then-1 else left-n
theorem ahF(xs:List Int)(left:Int)(hl:xs.length≤9223372036854775807)(h:0≤left∧left≤2^40):Con Tryz.prog 246 true [.ag [.sl xs.length (qg xs)],.v (.int .i64 left)] [] (isA (.v (.int .i64 (szL left xs.length)))):=by
 refine Con.of_w (rs:=[.tmp 4]) Tryz.func246 rfl Tryz.ntmps246 rfl ?_
 simp(disch:=omega)only[go_sem]
 refine qm (ad5 xs left hl h) ?_
 simp(disch:=omega)only[go_sem]
 unfold szL
 by_cases h1:left-(xs.length:Int)<0
 ·rw[if_pos h1]
  simp(disch:=omega)only[go_sem]
  exact qu
 ·rw[if_neg h1]
  simp(disch:=omega)only[go_sem,h1]
  exact qu
theorem aaZ(s:Bool)(xs:List Int)(left:Int)(hl:xs.length≤9223372036854775807)(h:0≤left∧left≤2^40):Con Tryz.prog 174 true [.ag [.v (.bool s),.sl xs.length (qg xs)],.v (.int .i64 left)] [] (isA (.v (.int .i64 (szL left xs.length)))):=by
 refine Con.of_w (rs:=[.tmp 4]) Tryz.func174 rfl Tryz.ntmps174 rfl ?_
 simp(disch:=omega)only[go_sem]
 refine qm (ahF xs left hl h) ?_
 simp(disch:=omega)only[go_sem]
 unfold szL
 by_cases h1:left-(xs.length:Int)<0
 ·rw[if_pos h1]
  simp(disch:=omega)only[go_sem]
  exact qu
 ·rw[if_neg h1]
  simp(disch:=omega)only[go_sem,h1]
  exact qu
theorem amh(s:Bool)(xs:List Int)(e left:Int)(hl:xs.length≤9223372036854775807)(h:0≤left∧left≤2^40):Con Tryz.prog 90 true [.ag [.v (.bool s),.sl xs.length (qg xs),.v (.int .i64 e)],.v (.int .i64 left)] [] (isA (.v (.int .i64 (szL left xs.length)))):=by
 refine Con.of_w (rs:=[.tmp 4]) Tryz.func90 rfl Tryz.ntmps90 rfl ?_
 simp(disch:=omega)only[go_sem]
 refine qm (aaZ s xs left hl h) ?_
 simp(disch:=omega)only[go_sem]
 unfold szL
 by_cases h1:left-(xs.length:Int)<0
 ·rw[if_pos h1]
  simp(disch:=omega)only[go_sem]
  exact qu
 ·rw[if_neg h1]
  simp(disch:=omega)only[go_sem,h1]
  exact qu
theorem aej(xs:List Int)(hl:xs.length≤2^60):Con Tryz.prog 205 true [.sl xs.length (qg xs),.sl xs.length (qg xs)] [] (isA (.v (.bool true))):=by
 refine Con.of_w (rs:=[.tmp 4]) Tryz.func205 rfl Tryz.ntmps205 rfl ?_
 simp(disch:=omega)only[go_sem]
 refine qj (fun i:Nat=>[(0,.sl xs.length (qg xs)),(1,.sl xs.length (qg xs)),(5,.v (.int .i64 i))]) (fun _=>[]) (fun i=>i≤xs.length) (fun i=>xs.length-i) 0 (by omega)
  (Le.lst [] _ _ rfl (by simp(disch:=omega)only[go_sem]) (by simp(disch:=omega)only[go_sem])) ?_
 intro i hi
 simp(disch:=omega)only[go_sem]
 refine qh (fun h1=>?_) (fun h1=>?_)
 ·simp(disch:=omega)only[go_sem,h1]
  refine qs rfl [⟨0,[],[]⟩,⟨1,[],[]⟩,⟨2,[],[]⟩,⟨3,[],[]⟩,⟨4,[3],[]⟩,⟨5,[3],[]⟩,⟨6,[3],[]⟩,⟨7,[3],[]⟩,⟨8,[],[]⟩] (by kernel_rfl) ?_
  simp(disch:=omega)only[go_sem]
  refine⟨by omega,by omega,by omega,by omega,qe (i+1) [] (by show i+1≤_;omega) (by show xs.length-(i+1)<xs.length-i;omega) rfl (by simp(disch:=omega)only[go_sem];try omega) (by simp(disch:=omega)only[go_sem])⟩
 ·have:i=xs.length:=by omega
  subst this
  simp(disch:=omega)only[go_sem,h1]
  exact qu
theorem ah9(xs:List Int)(hl:xs.length≤2^60):Con Tryz.prog 126 true [.ag [.sl xs.length (qg xs)],.ag [.sl xs.length (qg xs)]] [] (isA (.v (.bool true))):=by
 refine Con.of_w (rs:=[.tmp 4]) Tryz.func126 rfl Tryz.ntmps126 rfl ?_
 simp(disch:=omega)only[go_sem]
 refine qm (aej xs hl) ?_
 simp(disch:=omega)only[go_sem]
 exact qu
theorem abk(s:Bool)(xs:List Int)(hl:xs.length≤2^60):Con Tryz.prog 59 true [.ag [.v (.bool s),.sl xs.length (qg xs)],.ag [.v (.bool s),.sl xs.length (qg xs)]] [] (isA (.v (.bool true))):=by
 refine Con.of_w (rs:=[.tmp 4]) Tryz.func59 rfl Tryz.ntmps59 rfl ?_
 simp(disch:=omega)only[go_sem]
 have e:(s != s)=false:=by cases s<;>rfl
 simp(disch:=omega)only[go_sem,e]
 refine qm (ah9 xs hl) ?_
 simp(disch:=omega)only[go_sem]
 exact qu
theorem Vp(s:Bool)(xs:List Int)(e:Int)(hl:xs.length≤2^60):Con Tryz.prog 19 true [.ag [.v (.bool s),.sl xs.length (qg xs),.v (.int .i64 e)],.ag [.v (.bool s),.sl xs.length (qg xs),.v (.int .i64 e)]] [] (isA (.v (.bool true))):=by
 refine Con.of_w (rs:=[.tmp 4]) Tryz.func19 rfl Tryz.ntmps19 rfl ?_
 simp(disch:=omega)only[go_sem]
 refine qm (abk s xs hl) ?_
 simp(disch:=omega)only[go_sem]
 exact qu
end Go.Ab
namespace Go.Ab
open Go Go.Proofs
end Go.Ab
namespace Go.Ab
open Go
structure DyV where
 s:Bool
 xs:List Int
 e:Int
def DyV.cs(x:DyV):List AV:=[.v (.bool x.s),.sl x.xs.length (qg x.xs),.v (.int .i64 x.e)]
theorem Xf(x:DyV):x.cs.length=3:=rfl
theorem anC{ρ:Nat→Nat}(x:DyV):ze ρ x.cs=x.cs:=rfl
theorem ahq{hp:Nat→Ob}{k:Nat}(x:DyV):x.cs.map (qE hp (k+1))=x.cs:=rfl
theorem anD{p:Nat→Prop}(x:DyV):AllL p x.cs:=by simp[DyV.cs,AllL,AV.All]
theorem arx{l:List DyV}:(qk DyV.cs l).length=l.length*3:=jN Xf
theorem arw{ρ:Nat→Nat}{l:List DyV}:ze ρ (qk DyV.cs l)=qk DyV.cs l:=Zr anC
theorem al1{hp:Nat→Ob}{k:Nat}{l:List DyV}:(qk DyV.cs l).map (qE hp (k+1))=qk DyV.cs l:=Q0 ahq
theorem ary{p:Nat→Prop}{l:List DyV}:AllL p (qk DyV.cs l)=True:=eq_true (Zt anD)
theorem al2{p:Nat→Prop}{x:DyV}:AllL p x.cs=True:=eq_true (anD x)
attribute [go_sem] arx arw al1 ary al2 anC ahq
end Go.Ab
namespace Go.Ab
open Go
/-! ### The simplifier's words for truth values-/
theorem aBY:(true==true)=true:=ID rfl
theorem aB1:(false==false)=true:=ID rfl
theorem aBZ:(true==false)=false:=ID rfl
theorem aB0:(false==true)=false:=ID rfl
theorem aBB:(true != true)=false:=ID rfl
theorem aBE:(false != false)=false:=ID rfl
theorem aBC:(true != false)=true:=ID rfl
theorem aBD:(false != true)=true:=ID rfl
theorem o_t(b:Bool):(true||b)=true:=ID rfl
theorem o_f(b:Bool):(false||b)=b:=ID rfl
theorem aBx(b:Bool):(b||true)=true:=by cases b<;>rfl
theorem aBy(b:Bool):(b||false)=b:=by cases b<;>rfl
theorem a_t(b:Bool):(true&&b)=b:=ID rfl
theorem a_f(b:Bool):(false&&b)=false:=ID rfl
theorem aB4(b:Bool):(b&&true)=b:=by cases b<;>rfl
theorem aB5(b:Bool):(b&&false)=false:=by cases b<;>rfl
attribute [go_sem] aBY aB1 aBZ aB0 aBB aBE aBC aBD o_t o_f
attribute [go_sem] aBx aBy a_t a_f aB4 aB5
theorem asd{P:Program}{t:TypeId}[h:FlE P t]{k m e k' m' e':Int}{s s':Bool}{K:AV→Prop}:
  @jl P .eql t (.ag [.v (.int .i64 k),.v (.bool s),.v (.int .i64 m),.v (.int .i64 e)]) (.ag [.v (.int .i64 k'),.v (.bool s'),.v (.int .i64 m'),.v (.int .i64 e')]) ⟨K⟩=K (.v (.bool (axm k s m e k' s' m' e'))):=
 propext ⟨fun g=>g.2,fun g=>⟨h,g⟩⟩
theorem asc{P:Program}{t:TypeId}[h:FlE P t]{k m e k' m' e':Int}{s s':Bool}{K:AV→Prop}:
  @jl P .neq t (.ag [.v (.int .i64 k),.v (.bool s),.v (.int .i64 m),.v (.int .i64 e)]) (.ag [.v (.int .i64 k'),.v (.bool s'),.v (.int .i64 m'),.v (.int .i64 e')]) ⟨K⟩=K (.v (.bool (!axm k s m e k' s' m' e'))):=
 propext ⟨fun g=>g.2,fun g=>⟨h,g⟩⟩
attribute [go_sem] asd asc
/-! ### Bits of any numbers-/
def aAY(x y:Int):Int:=IntKind.i64.wrap (BitVec.ofInt IntKind.i64.bits x^^^BitVec.ofInt IntKind.i64.bits y).toNat
theorem arY{x y:Int}{P:Program}{t:Nat}{K:AV→Prop}:@jl P .xor t (.v (.int .i64 x)) (.v (.int .i64 y)) ⟨K⟩=K (.v (.int .i64 (aAY x y))):=by
 simp only[jl,Jb,JY,true_and];rfl
theorem JQ(x:Int):((BitVec.ofInt 64 x).toNat:Int)=x % 18446744073709551616:=by
 rw[BitVec.toNat_ofInt];omega
theorem aeA{x:Int}{P:Program}{t:Nat}{K:AV→Prop}:@jl P .and t (.v (.int .i64 x)) (.v (.int .i64 255)) ⟨K⟩=K (.v (.int .i64 (x % 256))):=by
 have e:IntKind.i64.wrap (BitVec.ofInt 64 x&&&BitVec.ofInt 64 255).toNat=x % 256:=by
  have h1:=JQ x
  have h2:(BitVec.ofInt 64 255).toNat=2^8-1:=by decide
  rw[BitVec.toNat_and,h2,Nat.and_two_pow_sub_one_eq_mod,Jh (by omega)]
  omega
 rw[←e];simp only[jl,Jb,JY,true_and];rfl
theorem aiG{x:Int}{P:Program}{t:Nat}{K:AV→Prop}:@jl P .and t (.v (.int .i64 x)) (.v (.int .i64 1073741823)) ⟨K⟩=K (.v (.int .i64 (x % 1073741824))):=by
 have e:IntKind.i64.wrap (BitVec.ofInt 64 x&&&BitVec.ofInt 64 1073741823).toNat=x % 1073741824:=by
  have h1:=JQ x
  have h2:(BitVec.ofInt 64 1073741823).toNat=2^30-1:=by decide
  rw[BitVec.toNat_and,h2,Nat.and_two_pow_sub_one_eq_mod,Jh (by omega)]
  omega
 rw[←e];simp only[jl,Jb,JY,true_and];rfl
attribute [go_sem] arY aeA aiG
def aaA(h:Nat→Ob)(nms:List Nat):List Nat→List Ob
 | []=>[]
 |n::r=>(h n).ren (back nms)::aaA h nms r
theorem V6{h:Nat→Ob}{nms:List Nat}:∀r:List Nat,aaA h nms r=r.map (fun n=>(h n).ren (back nms))
 | []=>rfl
 |n::r=>by rw[aaA,List.map_cons,V6 r]
theorem agE{h:Nat→Ob}{nms:List Nat}:aaA h nms []=[]:=ID rfl
theorem adF{h:Nat→Ob}{nms:List Nat}{n:Nat}{r:List Nat}:aaA h nms (n::r)=(h n).ren (back nms)::aaA h nms r:=ID rfl
attribute [go_sem] agE adF
end Go.Ab
namespace Go.Ab
open Go
end Go.Ab
namespace Go.Ab
open Go
section
variable {P:Program}{f:FuncId}{args:List AV}{post:AV→List Ob→List Ob→Prop}
theorem Con.frzC{cl:Bool}(h:Con P f cl args [] post):Con P f cl args [] (fun r' hs' bs'=>hs'=[]∧bs'=[]∧∃r hs,post r hs []∧r'=qE (rhp hs []) 6 r):=by
 intro R ι w vs h1 h2 h3 h4 h5
 refine(h R ι w vs h1 h2 h3 h4 h5).mono ?_
 rintro e w' ⟨x,r,hs,bs',R',ι',he,hp,hF⟩
 have hb:bs'=[]:=List.length_eq_zero_iff.1 (by simpa using hF.len)
 subst hb
 have hfree:∀m,10000000≤m→rhp hs [] m=.free:=fun m hm=>by simp[rhp,hm]
 have hO:HpOk R' ι' w' (rhp hs []):=by
  refine⟨fun m=>?_,fun m z cs B e hB hr=>hF.nR m z cs B e hB (.inr hr),hF.inj,hF.men⟩
  rcases Nat.lt_or_ge m 10000000 with hm|hm
  ·exact hF.okF m hm
  ·rw[hfree m hm];trivial
 have hown:∀{m z cs B},rhp hs [] m=.own z cs→ι' m=some B→w.heap.size≤B.b∧B.b<w'.heap.size:=by
  intro m z cs B e hB
  have hm:m<10000000:=by
   rcases Nat.lt_or_ge m 10000000 with hm|hm
   ·exact hm
   ·rw[hfree m hm]at e;cases e
  refine⟨hF.fresh m z cs B hm e hB,?_⟩
  have:=hF.okF m hm
  rw[e,hB]at this
  obtain⟨c,T,lo,hi,g1,_⟩:=this
  rcases Nat.lt_or_ge B.b w'.heap.size with h'|h'
  ·exact h'
  ·simp[Array.getElem?_eq_none h']at g1
 refine⟨x,qE (rhp hs []) 6 r,[],[],fun b=>R' b∨aeL (rhp hs []) ι' b,ι',he,⟨rfl,rfl,r,hs,hp,rfl⟩,?_⟩
 have hnil:∀m,rhp [] [] m=.free:=fun m=>by simp[rhp]
 refine⟨hF.ext,fun b hb=>?_,fun b hb=>?_,.fr _ _ (zU hO (fun _ h=>.inl h) (fun _ h=>.inr h) 6 hF.rep),jB 6 r,fun m _=>?_,fun m _=>?_,fun m z cs B e=>?_,fun m m' z z' cs cs' B B' e=>?_,fun m z cs e=>?_,fun m z cs B _ e=>?_,rfl,hF.bown,fun i hi=>by simp at hi⟩
 ·rcases hb with hb|⟨m,z,cs,B,e,hB,rfl⟩
  ·exact hF.rlt b hb
  ·exact(hown e hB).2
 ·rcases hb with hb|⟨m,z,cs,B,e,hB,rfl⟩
  ·exact hF.rnew b hb
  ·exact .inl (hown e hB).1
 ·rw[hnil];trivial
 ·rw[hnil];trivial
 all_goals (rw[hnil]at e;cases e)
theorem Con.frzAC{cl:Bool}{f:FuncId}{args:List AV}{a:AV}(h:Con P f cl args [] (ayu a)):Con P f cl args [] (isA a):=
 h.frzC.mono fun r hs bs ⟨h1,h2,r0,hs0,h3,h4⟩=>⟨by rw[h4];exact h3,h1,h2⟩
theorem Con.natFC{cl:Bool}{m:Nat}(h:Con P f cl args [] (ak8 m)):Con P f cl args [] (isA (.ag [.sl (lim m).length (qg (lim m))])):=
 h.frzC.mono fun r hs bs ⟨h1,h2,r0,hs0,h3,h4⟩=>by
  refine⟨?_,h1,h2⟩
  rcases h3 with⟨rfl,rfl,rfl⟩|⟨zs,rfl,rfl⟩
  ·rw[h4,qt];rfl
  ·rw[h4,XB,List.map_cons,List.map_nil,ja (k:=3) (l:=lim m) (zs:=zs) zg rfl]
end
end Go.Ab
namespace Go.Ab
open Go
section
variable {σ:St}
theorem Le.ghostC(m o nm z:Nat){zo:Nat}{cs:List AV}(hm:σ.hp m=.own zo cs)(ho:cs[o]? =some (.v (.slice none 0 0)))(hf:σ.hp nm=.free):
  Le σ ⟨σ.env,upd (upd σ.hp nm (.own z [])) m (.own zo (cs.set o (.rf nm 0 0)))⟩:=by
 intro L w0 R0 N a w hi
 obtain⟨R,ι,hR,h⟩:=hi.inv
 have hg:=h.ghost (z:=z) hf
 have hne:m≠nm:=fun e=>by rw[e,hf]at hm;cases hm
 have hm':(⟨σ.env,upd σ.hp nm (.own z [])⟩:St).hp m=.own zo cs:=by show upd σ.hp nm (.own z []) m=_;rw[qi hne];exact hm
 obtain⟨hol,hoe⟩:=List.getElem?_eq_some_iff.1 ho
 have key:Inv L w0 R (upd ι nm none) w a.tmps ⟨σ.env,upd (upd σ.hp nm (.own z [])) m (.own zo (cs.set o (.rf nm 0 0)))⟩:=by
  cases hB:upd ι nm none m with
  |none=>
   have:=hg.hp.ok m
   rw[hm',hB]at this
   have e:cs=[]:=this
   rw[e]at hol;simp at hol
  |some B=>
   obtain⟨c,T,lo,hi',h1,h2,h3,h4,h5,h6⟩:=jF hg hm' hB
   refine hg.turn hm' hB rfl rfl rfl rfl (fun _ _=>rfl) ⟨c,T,lo,hi',h1,h2,h3,h4,by rw[List.length_set];exact h5,fun i hi2=>?_⟩ (AllL.of_get fun i hi2=>?_)
   ·rw[List.length_set]at hi2
    rw[List.getElem_set]
    by_cases e:o=i
    ·subst e
     rw[if_pos rfl]
     have:=h6 o hi2
     rw[hoe]at this
     rw[this.v_inv]
     exact .rf nm 0 0 0 none ⟨Nat.le_refl _,by rw[qn]⟩
    ·rw[if_neg e];exact h6 i hi2
   ·rw[List.length_set]at hi2
    rw[List.getElem_set]
    split
    ·show upd σ.hp nm (.own z []) nm≠ .free
     rw[qn];simp
    ·exact(hg.hp.men m zo cs hm').get i hi2
 exact⟨hi.df,hi.sz,R,_,hR,key⟩
end
structure ExV where
 s:Bool
 m:Nat
 e:Int
deriving DecidableEq
def ExV.cs(x:ExV):List AV:=[.v (.bool x.s),.sl (lim x.m).length (qg (lim x.m)),.v (.int .i64 x.e)]
theorem ahi(x:ExV):x.cs.length=3:=rfl
theorem ahh{ρ:Nat→Nat}(x:ExV):ze ρ x.cs=x.cs:=rfl
theorem ahg{hp:Nat→Ob}{k:Nat}(x:ExV):x.cs.map (qE hp (k+1))=x.cs:=rfl
theorem ahj{p:Nat→Prop}(x:ExV):AllL p x.cs:=by simp[ExV.cs,AllL,AV.All]
def ex0:ExV:=⟨false,0,0⟩
theorem y5{l:List ExV}:(qk ExV.cs l).length=l.length*3:=jN ahi
theorem aro{ρ:Nat→Nat}{l:List ExV}:ze ρ (qk ExV.cs l)=qk ExV.cs l:=Zr ahh
theorem aco{hp:Nat→Ob}{k:Nat}{l:List ExV}:(qk ExV.cs l).map (qE hp (k+1))=qk ExV.cs l:=Q0 ahg
theorem arp{p:Nat→Prop}{l:List ExV}:AllL p (qk ExV.cs l)=True:=eq_true (Zt ahj)
theorem alV{p:Nat→Prop}{x:ExV}:AllL p x.cs=True:=eq_true (ahj x)
theorem Qr{l:List ExV}{x:ExV}:qk ExV.cs l++[.v (.bool x.s),.sl (lim x.m).length (qg (lim x.m)),.v (.int .i64 x.e)]=qk ExV.cs (l++[x]):=by
 rw[←yU,qT,yt,List.append_nil];rfl
theorem J6{l:List ExV}:cut (qk ExV.cs l) 0 (l.length*3)=qk ExV.cs l:=by
 unfold cut;rw[List.drop_zero,List.take_of_length_le (by rw[y5];exact Nat.le_refl _)]
structure SpV where
 lo:ExV
 hi:ExV
deriving DecidableEq
def SpV.cs(x:SpV):List AV:=x.lo.cs++x.hi.cs
theorem att(x:SpV):x.cs.length=6:=rfl
theorem am8{ρ:Nat→Nat}(x:SpV):ze ρ x.cs=x.cs:=rfl
theorem afD{hp:Nat→Ob}{k:Nat}(x:SpV):x.cs.map (qE hp (k+1))=x.cs:=rfl
theorem am9{p:Nat→Prop}(x:SpV):AllL p x.cs:=by simp[SpV.cs,ExV.cs,AllL,AV.All]
def sp0:SpV:=⟨ex0,ex0⟩
theorem ao3{l:List SpV}:(qk SpV.cs l).length=l.length*6:=jN att
theorem ao2{ρ:Nat→Nat}{l:List SpV}:ze ρ (qk SpV.cs l)=qk SpV.cs l:=Zr am8
theorem aj5{hp:Nat→Ob}{k:Nat}{l:List SpV}:(qk SpV.cs l).map (qE hp (k+1))=qk SpV.cs l:=Q0 afD
theorem ao4{p:Nat→Prop}{l:List SpV}:AllL p (qk SpV.cs l)=True:=eq_true (Zt am9)
theorem aj6{p:Nat→Prop}{x:SpV}:AllL p x.cs=True:=eq_true (am9 x)
attribute [go_sem] y5 aro aco arp alV ahh ahg ao3 ao2 aj5 ao4 aj6 am8 afD
end Go.Ab
namespace Go.Ab
open Go
section
variable {P:Program}{N:Nat}{σ:St}{Q:Exit→St→Prop}
theorem Le.nilC(m o:Nat){zo:Nat}{cs:List AV}(hm:σ.hp m=.own zo cs)(ho:cs[o]? =some (.v (.slice none 0 0))):
  Le σ ⟨σ.env,upd σ.hp m (.own zo (cs.set o (.sl 0 [])))⟩:=by
 intro L w0 R0 N a w hi
 obtain⟨R,ι,hR,h⟩:=hi.inv
 obtain⟨hol,hoe⟩:=List.getElem?_eq_some_iff.1 ho
 have key:Inv L w0 R ι w a.tmps ⟨σ.env,upd σ.hp m (.own zo (cs.set o (.sl 0 [])))⟩:=by
  cases hB:ι m with
  |none=>
   have:=h.hp.ok m
   rw[hm,hB]at this
   have e:cs=[]:=this
   rw[e]at hol;simp at hol
  |some B=>
   obtain⟨c,T,lo,hi',h1,h2,h3,h4,h5,h6⟩:=jF h hm hB
   refine h.turn hm hB rfl rfl rfl rfl (fun _ _=>rfl) ⟨c,T,lo,hi',h1,h2,h3,h4,by rw[List.length_set];exact h5,fun i hi2=>?_⟩ (AllL.of_get fun i hi2=>?_)
   ·rw[List.length_set]at hi2
    rw[List.getElem_set]
    by_cases e:o=i
    ·subst e
     rw[if_pos rfl]
     have:=h6 o hi2
     rw[hoe]at this
     rw[this.v_inv]
     exact .fr _ _ (.sl none 0 0 [] (fun _=>undef) 0 0 (Nat.le_refl _) (fun h=>absurd h (by simp)) (fun i h=>absurd h (by simp)) (fun i h=>absurd h (by simp)))
    ·rw[if_neg e];exact h6 i hi2
   ·rw[List.length_set]at hi2
    rw[List.getElem_set]
    split
    ·simp[AV.All]
    ·exact(h.hp.men m zo cs hm).get i hi2
 exact⟨hi.df,hi.sz,R,ι,hR,key⟩
theorem Le.frz(m:Nat){z:Nat}{ks:List AV}(hm:σ.hp m=.own z ks)(hl:zI m=false)(hn:AllL (fun _=>False) ks):
  Le σ ⟨fun s=>(σ.env s).fz m z ks,fun k=>if k=m then .dead else(σ.hp k).fz m z ks⟩:=by
 have:=Le.freeze m hm hl hn
 have e:(fun k=>bif Nat.beq k m then Ob.dead else(σ.hp k).fz m z ks)=fun k=>if k=m then Ob.dead else(σ.hp k).fz m z ks:=by
  funext k
  by_cases h:k=m
  ·subst h;rw[Nat.beq_refl,cond_true,if_pos rfl]
  ·rw[aaw h,cond_false,if_neg h]
 rwa[e]at this
theorem AW.seqLe{x y:Code}{E:List (Nat×AV)}{H:List (Nat×Ob)}(hx:AW P N x (fun ex σ'=>ex=.normal∧Le σ' ⟨ofL .un E,ofH H⟩) σ)(hy:AW P N y Q ⟨ofL .un E,ofH H⟩):AW P N (.seq x y) Q σ:=
 AW.seq (hx.mono fun ex σ' ⟨he,hl⟩=>by subst he;exact AW.le hl hy)
end
section
variable {m z:Nat}{ks:List AV}
theorem aza:AV.fz m z ks .un=.un:=ID rfl
theorem aBS{x:Value}:AV.fz m z ks (.v x)=.v x:=ID rfl
theorem azc{n:Nat}{cs:List AV}:AV.fz m z ks (.sl n cs)=.sl n cs:=ID rfl
theorem azf{o:Nat}{cs:List AV}:AV.fz m z ks (.fp cs o)=.fp cs o:=ID rfl
theorem aze{nm o:Nat}:AV.fz m z ks (.pt nm o)=if nm=m then .fp ks o else .pt nm o:=by
 by_cases h:nm=m
 ·subst h;simp[AV.fz,Nat.beq_refl]
 ·simp[AV.fz,aaw h,h]
theorem azd{nm o n:Nat}:AV.fz m z ks (.rf nm o n)=if nm=m then .sl n (cut ks o (n*z))else .rf nm o n:=by
 by_cases h:nm=m
 ·subst h;simp[AV.fz,Nat.beq_refl]
 ·simp[AV.fz,aaw h,h]
theorem azh{cs:List AV}:AV.fz m z ks (.ag cs)=.ag (fzL m z ks cs):=ID rfl
theorem azb{cs:List AV}:AV.fz m z ks (.tu cs)=.tu (fzL m z ks cs):=ID rfl
theorem azg{f:Nat}{cs:List AV}:AV.fz m z ks (.fn f cs)=.fn f (fzL m z ks cs):=ID rfl
theorem aqN:fzL m z ks []=[]:=ID rfl
theorem alC{a:AV}{r:List AV}:fzL m z ks (a::r)=a.fz m z ks::fzL m z ks r:=ID rfl
theorem asy{y:Nat}{cs:List AV}:Ob.fz m z ks (.own y cs)=.own y (fzL m z ks cs):=ID rfl
theorem alB{xs:List Int}:fzL m z ks (qg xs)=qg xs:=by simp[j7,qg,AV.fz]
end
section
variable {h:Nat→Ob}{ix:Nat→Option Nat}{k:Nat}
theorem atz{f:Nat}{cs:List AV}:snp h ix (k+1) (.fn f cs)=.fn f (cs.map (snp h ix k)):=ID rfl
theorem atA{cs:List AV}:snp h ix (k+1) (.ag cs)=.ag (cs.map (snp h ix k)):=ID rfl
theorem aty{o:Nat}{cs:List AV}:snp h ix (k+1) (.fp cs o)=.fp cs o:=ID rfl
end
attribute [go_sem] atz atA aty
attribute [go_sem] aza aBS azc azf aze azd azh azb azg aqN alC asy alB
end Go.Ab
namespace Go.Ab
open Go
section
variable {P:Program}
theorem Qv{L:Nat→Option Blk→Prop}{w0:World}{R0:Nat→Prop}{N:Nat}{ops:Array Oper}{K:St→Prop}{Q':Exit→Act→World→Prop}{rest:List Nat}(hQ:∀σ a w,In L w0 R0 N σ a w→K σ→wpOps P ops Q' rest a w):
  ∀(r:List Oper) (k:Nat),(∀j,j<r.length→ops[k+j]? =r[j]?)→∀{e h a w},In L w0 R0 N ⟨e,h⟩ a w→ChF P N ops.toList K r e h→wpOps P ops Q' (List.range' k r.length++rest) a w
 | [],k,hk,e,h,a,w,hi,hs=>by
  simp only[List.length_nil,List.range'_zero,List.nil_append]
  exact hQ _ _ _ hi hs
 |⟨d,op,ty,pos,af,g⟩::r,k,hk,e,h,a,w,hi,hs=>by
  have ho:ops[k]? =some ⟨d,op,ty,pos,af,g⟩:=by
   have:=hk 0 (by simp)
   simpa using this
  have hr:∀j,j<r.length→ops[k+1+j]? =r[j]? :=fun j hj=>by
   have:=hk (j+1) (by simpa using hj)
   rw[show k+1+j=k+(j+1) by omega,this];simp
  have hd:dOk N d:=by cases g<;>exact hs.1
  simp only[List.length_cons,List.range'_succ,List.cons_append,wpOps,ho]
  have run:@Op1 P ⟨d⟩ ⟨op⟩ ⟨fun v hp=>ChF P N ops.toList K r (QD e d v) hp⟩ e h→Oper.wp P ⟨d,op,ty,pos,af,g⟩ a w (wpOps P ops Q' (List.range' (k+1) r.length++rest)) Q':=fun hs=>by
   obtain⟨R,ι,hR,hinv⟩:=hi.inv
   refine ab1 hinv (Op1.sound hs ty pos af g) fun x w' R' ι' av hp' hR' hK hx hm hi'=>?_
   exact Qv hQ r (k+1) hr (hi.put (o:=⟨d,op,ty,pos,af,g⟩) hd hR hR' hx hm hi') hK
  have skip:ChF P N ops.toList K r (QD e d (.v (.tuple ⟨[]⟩))) h→wpOps P ops Q' (List.range' (k+1) r.length++rest) (a.put d undef) w:=fun hs=>by
   obtain⟨R,ι,hR,hinv⟩:=hi.inv
   exact Qv hQ r (k+1) hr (hi.put (o:=⟨d,op,ty,pos,af,g⟩) hd hR (fun _ h=>.inl h) (.fr _ _ (.v _)) (by simp[AV.All]) hinv) hs
  cases g with
  |none=>
   rw[if_pos (by simp[Region.wanted])]
   exact .inl (run hs.2)
  |some p=>
   obtain⟨j,want⟩:=p
   have h2:=hs.2
   unfold Ke at h2
   dsimp only at h2
   split at h2
   ·rename_i d' hd'
    have key:∀v c,e d'=.v v→(match v with| .bool b=>some b|_=>none)=c→yielded ops a.tmps j=c:=by
     intro v c hv hc
     obtain⟨R,ι,hR,hinv⟩:=hi.inv
     have:=hinv.env d'
     change Rep _ _ _ _ (e d')at this
     rw[hv]at this
     have:=this.v_inv
     unfold yielded
     rw[Array.getElem?_toList]at hd'
     rw[hd']
     rw[Array.getD_eq_getD_getElem?]at this
     cases ee:a.tmps[d']? with
     |none=>
      rw[ee]at this
      subst hc
      have:v=undef:=this.symm
      subst this;simp[ee,undef]
     |some y=>rw[ee]at this;simp at this;subst this;subst hc;simp only[Option.bind_some,ee];cases y<;>rfl
    unfold Yz at h2
    split at h2
    ·rename_i b hb
     have hy:=key _ _ hb rfl
     have hw:Region.wanted ⟨d,op,ty,pos,af,some (j,want)⟩ (yielded ops a.tmps)=(b==want):=by
      simp only[Region.wanted,hy]
      cases b<;>cases want<;>rfl
     rw[hw]
     cases hbw:b==want with
     |true=>rw[if_pos rfl];exact .inl (run (h2.1 hbw))
     |false=>rw[if_neg (by simp)];exact skip (h2.2 hbw)
    ·rename_i hb
     have hy:=key _ _ hb rfl
     have hw:Region.wanted ⟨d,op,ty,pos,af,some (j,want)⟩ (yielded ops a.tmps)=false:=by
      simp only[Region.wanted,hy]
      cases want<;>rfl
     rw[hw,if_neg (by simp)]
     exact skip (h2.2 rfl)
    ·exact h2.elim
   ·exact h2.elim
theorem arB{N:Nat}{l:List Oper}{Q:St→Prop}{e:Nat→AV}{h:Nat→Ob}{E:List (Nat×AV)}{H:List (Nat×Ob)}(hl:Le ⟨e,h⟩ ⟨ofL .un E,ofH H⟩)(hd:@adX P N ⟨l⟩ ⟨Q⟩ ⟨ofL .un E,ofH H⟩):@adX P N ⟨l⟩ ⟨Q⟩ ⟨e,h⟩:=
 fun id=>AW.le hl (hd id)
end
end Go.Ab
namespace Go.Ab
open Go
section
variable {P:Program}{f:FuncId}{args:List AV}{bs:List Ob}{post:AV→List Ob→List Ob→Prop}
end
end Go.Ab
namespace Go.Ab
open Go
structure IvV where
 lo:DyV
 hi:DyV
def IvV.cs(x:IvV):List AV:=x.lo.cs++x.hi.cs
def dy0:DyV:=⟨false,[],0⟩
def iv0:IvV:=⟨dy0,dy0⟩
theorem au0(x:IvV):x.cs.length=6:=rfl
theorem ans{ρ:Nat→Nat}(x:IvV):ze ρ x.cs=x.cs:=rfl
theorem agS{hp:Nat→Ob}{k:Nat}(x:IvV):x.cs.map (qE hp (k+1))=x.cs:=rfl
theorem ant{p:Nat→Prop}(x:IvV):AllL p x.cs:=by simp[IvV.cs,DyV.cs,AllL,AV.All]
theorem aqx{l:List IvV}:(qk IvV.cs l).length=l.length*6:=jN au0
theorem aqw{ρ:Nat→Nat}{l:List IvV}:ze ρ (qk IvV.cs l)=qk IvV.cs l:=Zr ans
theorem alp{hp:Nat→Ob}{k:Nat}{l:List IvV}:(qk IvV.cs l).map (qE hp (k+1))=qk IvV.cs l:=Q0 agS
theorem aqy{p:Nat→Prop}{l:List IvV}:AllL p (qk IvV.cs l)=True:=eq_true (Zt ant)
theorem alq{p:Nat→Prop}{x:IvV}:AllL p x.cs=True:=eq_true (ant x)
attribute [go_sem] aqx aqw alp aqy alq ans agS
end Go.Ab
namespace Go.Ab
open Go
def z3:List AV:=[.v (.bool false),.v (.slice none 0 0),.v (.int .i64 0)]
def z6:List AV:=[.v (.bool false),.v (.slice none 0 0),.v (.int .i64 0),.v (.bool false),.v (.slice none 0 0),.v (.int .i64 0)]
section
variable {X:Type}{f:X→List AV}{z:Nat}{n:Nat}{zs:List AV}{ρ:Nat→Nat}{p:Nat→Prop}
theorem abH(h:ze ρ zs=zs):ze ρ (zA n zs)=zA n zs:=by
 unfold zA
 induction n with
 |zero=>rfl
 |succ n ih=>
  rw[List.replicate_succ,List.flatten_cons]
  have:∀a b:List AV,ze ρ (a++b)=ze ρ a++ze ρ b:=fun a b=>by simp[qV]
  rw[this,h,ih]
theorem abI(h:AllL p zs):AllL p (zA n zs):=by
 unfold zA
 induction n with
 |zero=>simp[AllL]
 |succ n ih=>rw[List.replicate_succ,List.flatten_cons];exact AllL.append h ih
theorem K4:∀(ks a b:List AV) (o:Nat),o+ks.length≤a.length→wr (a++b) o ks=wr a o ks++b
 | [],a,b,o,_=>by simp[wr]
 |k::r,a,b,o,h=>by
  simp only[List.length_cons]at h
  rw[wr,wr,List.set_append_left _ _ (by omega),K4 r]
  rw[List.length_set];omega
theorem abW(hz:∀x,(f x).length=z)(hs:zs.length=z){L:List X}{k:Nat}(x:X):wr (qk f L++zA (k+1) zs) (L.length*z) (f x)=qk f (L++[x])++zA k zs:=by
 unfold zA
 rw[List.replicate_succ,List.flatten_cons,←List.append_assoc]
 have h1:(qk f L++zs).length=(qk f L).length+z:=by simp[hs]
 have h2:=Jy (qk f L) zs (f x) (by rw[hz,hs])
 rw[jN hz]at h2
 rw[K4 _ _ _ _ (by rw[h1,jN hz,hz];exact Nat.le_refl _),h2,←yU,qT,yt,List.append_nil]
theorem aeN:ze ρ (zA n z3)=zA n z3:=abH rfl
theorem aeO:AllL p (zA n z3)=True:=eq_true (abI (by simp[z3,AllL,AV.All]))
theorem ZV:(zA n z3).length=n*3:=zr n z3
theorem asU:ze ρ (zA n z6)=zA n z6:=abH rfl
theorem asW:AllL p (zA n z6)=True:=eq_true (abI (by simp[z6,AllL,AV.All]))
theorem asV:(zA n z6).length=n*6:=zr n z6
theorem YT:zA 0 zs=[]:=by simp[zA]
theorem Qs{L:List ExV}{k:Nat}{x:ExV}:wr (qk ExV.cs L++zA (k+1) z3) (L.length*3) [.v (.bool x.s),.sl (lim x.m).length (qg (lim x.m)),.v (.int .i64 x.e)]=qk ExV.cs (L++[x])++zA k z3:=abW ahi rfl x
theorem Qj{a b:List AV}:ze ρ (a++b)=ze ρ a++ze ρ b:=by simp[qV]
theorem acK{a b:List AV}:AllL p (a++b)=(AllL p a∧AllL p b):=propext ⟨fun h=>by
 induction a with
 |nil=>exact⟨by simp[AllL],h⟩
 |cons x r ih=>exact⟨⟨h.1,(ih h.2).1⟩,(ih h.2).2⟩,fun h=>AllL.append h.1 h.2⟩
end
attribute [go_sem] aeN aeO ZV asU asW asV Qj acK
end Go.Ab
namespace Go.Ab
open Go
section
variable {X:Type}{f:X→List AV}{z:Nat}
theorem apg(hz:∀x,(f x).length=z){y:X}{L:List X}{i:Nat}(hi:i<L.length):wr (qk f L) (i*z) (f y)=qk f (L.set i y):=by
 have e:L=L.take i++[L[i]]++L.drop (i+1):=by
  rw[List.append_assoc,List.singleton_append,List.getElem_cons_drop,List.take_append_drop]
 have h1:(qk f (L.take i)).length=i*z:=by rw[jN hz,List.length_take,Nat.min_eq_left (by omega)]
 have h2:qk f L=qk f (L.take i)++f L[i]++qk f (L.drop (i+1)):=by
  conv=>lhs;rw[e]
  rw[←yU,←yU,qT,yt,List.append_nil]
 rw[h2,K4 _ _ _ _ (by rw[List.length_append,h1,hz,hz];omega),←h1,Jy _ _ _ (by rw[hz,hz]),List.set_eq_take_append_cons_drop,if_pos hi,←yU,qT,List.append_assoc]
end
theorem ahp{l:List DyV}{i:Nat}(hi:i<l.length):cut (qk DyV.cs l) (i*3) 3=[.v (.bool (l.getD i dy0).s),.sl (l.getD i dy0).xs.length (qg (l.getD i dy0).xs),.v (.int .i64 (l.getD i dy0).e)]:=Zs (l:=l) Xf hi dy0
end Go.Ab
namespace Go.Ab
open Go
section
variable {σ:St}
end
end Go.Ab
namespace Go.Ab
open Go
end Go.Ab
namespace Go.Ab
open Go
section
variable {P:Program}{N:Nat}{Q:Exit→St→Prop}{σ:St}
end
end Go.Ab
namespace Go.Ab
open Go
/-! ### Rows of which some cells groups are still nought-/
def ocs:Option ExV→List AV
 |none=>z3
 |some x=>x.cs
theorem auC:∀x,(ocs x).length=3:=fun x=>by cases x<;>rfl
theorem apQ{ρ:Nat→Nat}{l:List (Option ExV)}:ze ρ (qk ocs l)=qk ocs l:=Zr fun x=>by
 cases x with
 |none=>exact ID rfl
 |some x=>exact ahh x
theorem apR{p:Nat→Prop}{l:List (Option ExV)}:AllL p (qk ocs l)=True:=eq_true (Zt fun x=>by
 cases x with
 |none=>simp[ocs,z3,AllL,AV.All]
 |some x=>exact ahj x)
theorem aat{l:List (Option ExV)}:(qk ocs l).length=l.length*3:=jN auC
theorem ab3{k:Nat}:zA k z3=qk ocs (List.replicate k none):=by
 unfold qk zA
 rw[List.map_replicate];rfl
theorem aga{l:List (Option ExV)}{i:Nat}{x:ExV}(hi:i<l.length):wr (qk ocs l) (i*3) [.v (.bool x.s),.sl (lim x.m).length (qg (lim x.m)),.v (.int .i64 x.e)]=qk ocs (l.set i (some x)):=apg auC (y:=some x) hi
theorem ab4{hp:Nat→Ob}{k:Nat}{l:List (Option ExV)}:(qk ocs l).map (qE hp (k+1))=qk ExV.cs (l.map fun o=>o.getD ex0):=by
 induction l with
 |nil=>rfl
 |cons o l ih=>
  rw[qT,List.map_append,ih,List.map_cons,qT]
  congr 1
  cases o with
  |none=>simp[ocs,z3,qE,ExV.cs,ex0,qt,qg]
  |some x=>
   have:=aco (hp:=hp) (k:=k) (l:=[x])
   rw[qT,yt,List.append_nil]at this
   exact this
attribute [go_sem] apQ apR aat
end Go.Ab
namespace Go.Ab
open Go
/-! ### A call that lends what its arguments name deep within-/
def KX(P:Program)(f:FuncId)(aa0:List AV)(hp:Nat→Ob)(nm0:Nat)(K:AV→(Nat→Ob)→Prop):Prop:=
 ∃cl nms post,Con P f cl (aa0.map (snp (hpx cl nms hp) (idx nms) 6)) (nms.map fun n=>(hp n).ren (back nms)) post∧nms.Nodup∧Y9 hp nms∧
  ∀r hs bs',post r hs bs'→hs.length≤10000000∧qB hp nm0 hs∧(cl=true→nms=[]∨∀ob∈bs',ob.plain)∧
   K (r.ren (rho nm0 nms)) (Qy (YS (rho nm0 nms) hp nm0 hs) nms (bs'.map (Ob.ren (rho nm0 nms))))
section
variable {P:Program}{L:Nat→Option Blk→Prop}{w0 w:World}{R:Nat→Prop}{ι:Nat→Option Blk}{tm:Array Value}{σ:St}{K:AV→(Nat→Ob)→Prop}
theorem aiu{f:FuncId}{aa0:List AV}{nm0:Nat}{vs:Array Value}(h:Inv L w0 R ι w tm σ)(hv:RepA R ι w vs aa0)(hs:KX P f aa0 σ.hp nm0 K):
  Calls P f vs w fun e w'=>∃x R' ι' av hp',e=.returned x∧(∀b,R' b→R b∨w.heap.size≤b)∧K av hp'∧Rep R' ι' w' x av∧av.All (fun m=>hp' m≠ .free)∧Inv L w0 R' ι' w' tm ⟨σ.env,hp'⟩:=by
 obtain⟨cl,nms,post,hc,hnd,hl,hpost⟩:=hs
 let R₁:Nat→Prop:=fun b=>R b∨aeL (hpx cl nms σ.hp) ι b
 let ι₁:Nat→Option Blk:=fun m=>if 10000000≤m then(nms[m-10000000]?).bind ι else none
 have hHx:=h.hp.hpx cl nms
 have hι₁:∀i (hi:i<nms.length),ι₁ (10000000+i)=ι nms[i]:=fun i hi=>by
  show(if 10000000≤10000000+i then _ else _)=_
  rw[if_pos (by omega),show 10000000+i-10000000=i by omega,List.getElem?_eq_getElem hi];rfl
 have hbk:∀m,(idx nms m).isSome=true→∃i,∃hi:i<nms.length,nms[i]=m∧back nms m=10000000+i:=by
  intro m hm
  obtain⟨i,e⟩:=Option.isSome_iff_exists.1 hm
  obtain⟨hi,e2⟩:=yA e
  exact⟨i,hi,e2,by simp[back,e]⟩
 have hxe:∀{m z cs},hpx cl nms σ.hp m=.own z cs→σ.hp m=.own z cs∧cl=true∧idx nms m=none:=by
  intro m z cs e
  unfold hpx at e
  cases cl with
  |false=>cases e
  |true=>
   simp only[cond_true]at e
   split at e
   ·cases e
   ·rename_i hi;exact⟨e,rfl,by simpa using hi⟩
 generalize hbs:nms.map (fun n=>(σ.hp n).ren (back nms))=bs at hc
 have hblen:bs.length=nms.length:=by rw[←hbs];simp
 have hbget:∀i (hi:i<nms.length),bhp bs (10000000+i)=(σ.hp nms[i]).ren (back nms):=fun i hi=>by
  simp only[bhp]
  rw[if_pos (by omega),show 10000000+i-10000000=i by omega,←hbs,List.getD_eq_getElem?_getD,List.getElem?_map,List.getElem?_eq_getElem hi];rfl
 have hbown:∀{m z cs},bhp bs m=.own z cs→∃i,∃hi:i<nms.length,m=10000000+i∧∃cs0,σ.hp nms[i]=.own z cs0∧cs=ze (back nms) cs0∧AllL (fun m=>(idx nms m).isSome=true) cs0:=by
  intro m z cs e
  have h5:10000000≤m:=by
   rcases Nat.lt_or_ge m 10000000 with h|h
   ·simp[bhp,show ¬10000000≤m by omega]at e
   ·exact h
  obtain⟨i,rfl⟩:∃i,m=10000000+i:=⟨m-10000000,by omega⟩
  have hi:i<nms.length:=by
   rcases Nat.lt_or_ge i nms.length with h|h
   ·exact h
   ·simp only[bhp]at e
    rw[if_pos h5,show 10000000+i-10000000=i by omega,List.getD_eq_getElem?_getD,List.getElem?_eq_none (by omega)]at e
    cases e
  rw[hbget i hi]at e
  obtain⟨z',cs0,eo,ha⟩:=hl _ (List.getElem_mem hi)
  rw[eo]at e
  simp only[Ob.ren]at e
  injection e with e1 e2
  subst e1
  exact⟨i,hi,rfl,cs0,eo,e2.symm,ha⟩
 have hbne:∀i,i<nms.length→bhp bs (10000000+i)≠ .free:=fun i hi=>by
  rw[hbget i hi]
  obtain⟨z',cs0,eo,ha⟩:=hl _ (List.getElem_mem hi)
  rw[eo];simp[Ob.ren]
 have hR₁lt:∀b,R₁ b→b<w.heap.size:=fun b hb=>by
  rcases hb with hb|⟨m,z,cs,B,e,hB,rfl⟩
  ·exact h.rlt b hb
  ·exact h.block_lt (hxe e).1 hB
 have hnR₁:∀i (hi:i<nms.length) B,ι nms[i]=some B→¬R₁ B.b:=fun i hi B hB hr=>by
  obtain⟨z',cs0,eo,ha⟩:=hl _ (List.getElem_mem hi)
  rcases hr with hr|⟨m,z,cs,B',e,hB',eb⟩
  ·exact h.hp.nR _ _ _ _ eo hB hr
  ·have:=h.hp.inj _ _ _ _ _ _ _ _ (hxe e).1 eo hB' hB eb
   subst this
   have:=(hxe e).2.2
   rw[j6 hnd i hi]at this;cases this
 have hHp:HpOk R₁ ι₁ w (bhp bs):=by
  refine⟨fun m=>?_,fun m z cs B e hB=>?_,fun m m' z z' cs cs' B B' e e' hB hB' hbb=>?_,fun m z cs e=>?_⟩
  ·cases e:bhp bs m with
   |free=>trivial
   |dead=>trivial
   |own z cs=>
    obtain⟨i,hi,rfl,cs0,eo,rfl,ha⟩:=hbown e
    rw[hι₁ i hi]
    have hok:=h.hp.ok nms[i]
    rw[eo]at hok
    have h1:OOk R₁ ι w (ι nms[i]) (.own z cs0):=hok.mono (fun _ _=>rfl) (fun _ _ _ _ _=>rfl) (fun _ h=>.inl h) (fun _ _ _=>AllL.of_mem fun a _=>AV.all_true (fun _=>rfl) a)
    refine h1.ren (ρ:=back nms) fun z' cs' e'=>?_
    cases e'
    refine ha.mono fun m hm=>?_
    obtain⟨j,hj,e1,e2⟩:=hbk m hm
    rw[e2,hι₁ j hj,e1]
  ·obtain⟨i,hi,rfl,cs0,eo,rfl,ha⟩:=hbown e
   rw[hι₁ i hi]at hB
   exact hnR₁ i hi B hB
  ·obtain⟨i,hi,rfl,cs0,eo,rfl,ha⟩:=hbown e
   obtain⟨j,hj,rfl,cs0',eo',rfl,ha'⟩:=hbown e'
   rw[hι₁ i hi]at hB
   rw[hι₁ j hj]at hB'
   have:=h.hp.inj _ _ _ _ _ _ _ _ eo eo' hB hB' hbb
   have h1:=j6 hnd i hi
   rw[this,j6 hnd j hj]at h1
   cases h1;rfl
  ·obtain⟨i,hi,rfl,cs0,eo,rfl,ha⟩:=hbown e
   refine ha.ren fun m hm=>?_
   obtain⟨j,hj,e1,e2⟩:=hbk m hm
   rw[e2];exact hbne j hj
 have hrho:∀m i,idx nms m=some i→ι₁ (10000000+i)=ι m:=fun m i e=>by
  obtain⟨hi,e2⟩:=yA e
  rw[hι₁ i hi,e2]
 have hargs:RepA R₁ ι₁ w vs (aa0.map (snp (hpx cl nms σ.hp) (idx nms) 6)):=
  hv.all fun hx=>aae hHx (fun _ h=>.inl h) (fun _ h=>.inr h) hrho 6 hx
 have hall:AllL (fun m=>bhp bs m≠ .free) (aa0.map (snp (hpx cl nms σ.hp) (idx nms) 6)):=AllL.of_mem fun a ha=>by
  obtain⟨b,_,rfl⟩:=List.mem_map.1 ha
  refine aaf (fun m i e=>?_) 6 b
  obtain⟨hi,e2⟩:=yA e
  exact hbne i hi
 have hGd:GdL (aeL (bhp bs) ι₁) w:=by
  refine⟨h.gdw,fun g l hg ho=>?_⟩
  obtain⟨m,z,cs,B,e,hB,eb⟩:=ho
  obtain⟨i,hi,rfl,cs0,eo,rfl,ha⟩:=hbown e
  rw[hι₁ i hi]at hB
  exact h.gno eo hB g l hg eb
 refine(hc R₁ ι₁ w vs hR₁lt hargs hall hHp hGd).mono ?_
 rintro e w' ⟨x,r,hs,bs',R',ι',rfl,hp,hF⟩
 obtain⟨hN16,hfree,hpl,hK⟩:=hpost r hs bs' hp
 have hN:hs.length≤10000000:=by omega
 have hlen:bs'.length=nms.length:=hF.len.trans hblen
 have hnew:∀b,R' b→w.heap.size≤b∨R b:=fun b hb=>by
  rcases hF.rnew b hb with h1|⟨hcl,h1|⟨m,z,cs,B,e,_⟩⟩
  ·exact .inl h1
  ·exact .inr h1
  ·have:=(hxe e).2.1;rw[hcl]at this;cases this
 have hext:Ext (fun b=>∃n∈nms,∃B,ι n=some B∧B.b=b) w w':=⟨hF.ext.os,hF.ext.tape,hF.ext.output,hF.ext.size,fun b hb hn=>hF.ext.block b hb fun⟨m,z,cs,B,e,hB,eb⟩=>by
  obtain⟨i,hi,rfl,cs0,eo,rfl,ha⟩:=hbown e
  rw[hι₁ i hi]at hB
  exact hn ⟨_,List.getElem_mem hi,B,hB,eb⟩⟩
 have hok:∀m,10000000≤m→OOk (fun b=>R b∨R' b) ι' w' (ι' m) (rhp hs bs' m):=by
  intro m h5
  have h1:=hF.okB m h5
  cases cl with
  |false=>
   refine OOk.mono h1 (fun _ _=>rfl) (fun _ _ _ _ _=>rfl) (fun b hb=>?_) (fun _ _ _=>AllL.of_mem fun a _=>AV.all_true (fun _=>rfl) a)
   rcases hb with(hb|⟨m,z,cs,B,e,_⟩)|hb
   ·exact .inl hb
   ·have:=(hxe e).2.1;cases this
   ·exact .inr hb
  |true=>
   refine h1.plain ?_
   rcases hpl rfl with h2|h2
   ·subst h2
    have:bs'=[]:=List.length_eq_zero_iff.1 (by simpa using hlen)
    subst this
    simp[rhp,h5,Ob.plain]
   ·simp only[rhp,if_pos h5,List.getD_eq_getElem?_getD]
    cases e:bs'[m-10000000]? with
    |none=>simp[Ob.plain]
    |some ob=>simpa using h2 ob (List.mem_of_getElem? e)
 have hnR:∀m z cs B,rhp hs bs' m=.own z cs→ι' m=some B→¬(R B.b∨R' B.b):=fun m z cs B e hB hr=>hF.nR m z cs B e hB (hr.imp .inl id)
 have hlive:∀n∈nms,∃z cs,σ.hp n=.own z cs:=fun n hn=>let ⟨z,cs,e,_⟩:=hl n hn;⟨z,cs,e⟩
 obtain⟨ι₂,hi,hr,ha⟩:=Xr (nm0:=nm0) h hnd hlive hext hF.rlt hnew hF.rep hF.all hF.okF hok hnR hF.inj hF.men hF.fresh hlen hN
  (fun i hi=>by rw[hF.bown _ (by omega),hι₁ i hi]) hF.bnf hfree
 exact⟨x,fun b=>R b∨R' b,ι₂,_,_,rfl,fun b hb=>hb.elim .inl fun hb=>(hnew b hb).elim .inr .inl,hK,hr,ha,hi⟩
end
section
variable {P:Program}{L:Nat→Option Blk→Prop}{w0 w:World}{R:Nat→Prop}{ι:Nat→Option Blk}{a:Act}{σ:St}{K:AV→(Nat→Ob)→Prop}
 {next:Act→World→Prop} {Q:Exit→Act→World→Prop}
theorem af9{o:Oper}{c}{x:Operand}{f:FuncId}(ho:o.op=.call c)(hc:c.callee=.value x)(e:σ.ev x=.fn f [])(hfn:qy P f)(h:Inv L w0 R ι w a.tmps σ)(hs:KX P f (c.args.toList.map σ.ev) σ.hp (crn o) K)
  (hnext:∀x w' R' ι' av hp',(∀b,R' b→R b∨w.heap.size≤b)→K av hp'→Rep R' ι' w' x av→av.All (fun m=>hp' m≠ .free)→Inv L w0 R' ι' w' a.tmps ⟨σ.env,hp'⟩→next (a.put o.dst x) w'):
  o.wp P a w next Q:=by
 unfold Oper.wp
 have hv:=abZ h c.args
 obtain⟨fn,hf,hn,hb⟩:=hfn
 have hx:=h.ev x
 rw[e]at hx
 obtain⟨vs,hx,h1,h2⟩:=hx.fn_inv
 have hvs:RepA R ι w vs []:=⟨h1,h2⟩
 have hv2:=hv.append hvs
 rw[List.append_nil]at hv2
 have hcl:=aiu (nm0:=crn o) h hv2 hs
 have hbn:fn.body.isNone=false:=by cases hq:fn.body<;>simp_all
 have hnn:(fn.name== "runtime.NumGoroutine")=false:=by simpa using hn
 have hrun:(execOp a.eval o).run P w=.ok (.enter f (c.args.map a.eval++vs)) w:=by
  simp only[execOp,ho,resolve,hc,hx,Deferred.ofValue,Sem.run_bind,Sem.run_pure,Result.andThen,invoke,Array.empty_append]
  exact Z8 hf hnn hbn _
 rw[hrun,Oper.upon_enter]
 refine hcl.mono ?_
 rintro e w' ⟨x,R',ι',av,hp',rfl,h3,h4,h5,h6,h7⟩
 exact hnext x w' R' ι' av hp' h3 h4 h5 h6 h7
theorem AW.regCall{N:Nat}{Q:Exit→St→Prop}{e:Nat→AV}{h:Nat→Ob}{id:Nat}{l:List Oper}{y:Code}(k:Nat){pre suf:List Oper}{d ty:Nat}{pos:String}{af:Array Edge}{c}{x:Operand}{f:FuncId}
  (hp:l.take k=pre) (hs:l.drop k=⟨some d,.call c,ty,pos,af,none⟩::suf) {E:List (Nat×AV)} {H:List (Nat×Ob)}
  (h1:@Ch P N ⟨l⟩ ⟨pre⟩ ⟨fun σ'=>Le σ' ⟨ofL .un E,ofH H⟩⟩ e h)
  (hd:d<N) (hcal:c.callee=.value x) (hx:evW (ofL .un E) x=.fn f []) (hfn:qy P f) {aa0:List AV} (haa:evL (ofL .un E) c.args.toList=aa0)
  (cl:Bool) (nms:List Nat) {args:List AV} {bs:List Ob} {post:AV→List Ob→List Ob→Prop} (hc:Con P f cl args bs post) (ha:aa0.map (snp (hpx cl nms (ofH H)) (idx nms) 6)=args)
  (hb:aaA (ofH H) nms nms=bs) (hnd:yW nms=true) (hl:Y9 (ofH H) nms)
  (hk:∀r hs bs',post r hs bs'→bs'.length=bs.length→(hs.length≤10000000∧qB (ofH H) (20000000+10000000*d) hs∧(cl=true→∀ob∈bs',ob.plain))∧
   @Ch P N ⟨l⟩ ⟨suf⟩ ⟨fun σ=>@W P N ⟨y⟩ ⟨Q⟩ σ.env σ.hp⟩ (upd (ofL .un E) d (r.ren (rho (20000000+10000000*d) nms))) (Qy (YS (rho (20000000+10000000*d) nms) (ofH H) (20000000+10000000*d) hs) nms (bs'.map (Ob.ren (rho (20000000+10000000*d) nms))))):
  AW P N (.seq (.region id ⟨l⟩ false) y) Q ⟨e,h⟩:=by
 refine AW.seq fun L w0 R0 a w hi=>wp_region ?_
 have hl2:l=pre++⟨some d,.call c,ty,pos,af,none⟩::suf:=by rw[←hp,←hs,List.take_append_drop]
 have hr:List.range (⟨l⟩:Array Oper).size=List.range' 0 pre.length++(pre.length::(List.range' (pre.length+1) suf.length++[])):=by
  have hsz:(⟨l⟩:Array Oper).size=pre.length+(suf.length+1):=by show l.length=_;rw[hl2,List.length_append,List.length_cons]
  rw[hsz,List.append_nil,List.range_eq_range',List.range'_append_1.symm,Nat.zero_add,List.range'_succ]
 rw[hr]
 refine Qv (K:=fun σ'=>Le σ' ⟨ofL .un E,ofH H⟩) (fun σ a w hi2 hle=>?_) pre 0 (fun j hj=>?_) hi h1
 ·have hi3:=hle L w0 R0 N a w hi2
  obtain⟨R,ι,hR,hinv⟩:=hi3.inv
  have hget:(⟨l⟩:Array Oper)[pre.length]? =some ⟨some d,.call c,ty,pos,af,none⟩:=by
   rw[List.getElem?_toArray,hl2,List.getElem?_append_right (Nat.le_refl _),Nat.sub_self];rfl
  simp only[wpOps,hget]
  rw[if_pos (by simp[Region.wanted])]
  refine .inl (af9 (c:=c) (x:=x) (f:=f) (σ:=⟨ofL .un E,ofH H⟩) rfl hcal (by rw[zz];exact hx) hfn hinv
   (K:=fun v hp'=>@Ch P N ⟨l⟩ ⟨suf⟩ ⟨fun σ=>@W P N ⟨y⟩ ⟨Q⟩ σ.env σ.hp⟩ (upd (ofL .un E) d v) hp') ?_ fun x w' R' ι' av hp' hR' hK hx hm hi'=>?_)
  ·have ea:c.args.toList.map (St.ev ⟨ofL .un E,ofH H⟩)=aa0:=by
    rw[←haa,yC]
    exact List.map_congr_left fun z _=>zz _ _ _
   rw[ea]
   refine⟨cl,nms,fun r hs bs'=>post r hs bs'∧bs'.length=bs.length,?_,z7 hnd,hl,fun r hs bs' ⟨hp,hb⟩=>?_⟩
   ·rw[ha,←V6 nms,hb];exact Con.len' hc
   ·obtain⟨⟨g1,g2,g3⟩,g4⟩:=hk r hs bs' hp hb
    exact⟨g1,g2,fun g=>.inr (g3 g),g4⟩
  ·refine Qv (K:=fun σ=>@W P N ⟨y⟩ ⟨Q⟩ σ.env σ.hp) (fun σ a w hi4 hq=>?_) suf (pre.length+1) (fun j hj=>?_) (hi3.put (o:=⟨some d,.call c,ty,pos,af,none⟩) hd hR hR' hx hm hi') hK
   ·exact⟨σ,hi4,W.sound hq⟩
   rw[List.getElem?_toArray,hl2,List.getElem?_append_right (by omega),show pre.length+1+j-pre.length=j+1 by omega];rfl
 ·rw[List.getElem?_toArray,hl2,Nat.zero_add,List.getElem?_append_left hj]
end
end Go.Ab
namespace Go.Ab
open Go Go.Proofs
/-! ### Copies of one's own-/
theorem aaY(xs:List Int)(hl:xs.length≤2000000):Con Tryz.prog 296 false [.sl xs.length (qg xs)] [] (fun r hs bs=>r=.rf 0 0 xs.length∧hs=[.own 1 (qg xs)]):=by
 refine Con.of_aw Tryz.func296 rfl Tryz.ntmps296 (by simp) (by simp) (by simp) (W.sound ?_)
 show @W Tryz.prog 22 ⟨_⟩ ⟨fun x σ=>@q8 _ _ _ ⟨_⟩ _ ⟨_⟩ x σ⟩ _ _
 simp(disch:=omega)only[go_sem]
 refine⟨⟨by omega,by omega,by omega⟩,?_⟩
 refine qj (fun i:Nat=>[(0,.sl xs.length (qg xs)),(3,.rf 90000000 0 xs.length),(4,.v (.int .i64 i))]) (fun i=>[(90000000,.own 1 (qg (xs.take i++List.replicate (xs.length-i) 0)))]) (fun i=>i≤xs.length) (fun i=>xs.length-i) 0 (by omega)
  (Le.lst [] _ _ rfl (by simp(disch:=omega)only[go_sem];try omega) (by simp(disch:=omega)only[go_sem,Vz,List.take_zero,List.nil_append,Nat.sub_zero])) ?_
 intro i hi
 simp(disch:=omega)only[go_sem]
 refine qh (fun h1=>?_) (fun h1=>?_)
 ·simp(disch:=omega)only[go_sem,h1]
  have el:(xs.take i++List.replicate (xs.length-i) 0).length=xs.length:=by rw[List.length_append,List.length_take,List.length_replicate];omega
  refine⟨by omega,by omega,by omega,by omega,qe (i+1) [] (by show i+1≤_;omega) (by show xs.length-(i+1)<xs.length-i;omega) rfl (by simp(disch:=omega)only[go_sem];try omega) (by simp(disch:=omega)only[go_sem,abU (by omega:i<xs.length)])⟩
 ·have:i=xs.length:=by omega
  subst this
  simp(disch:=omega)only[go_sem,h1]
  refine ql [(0,90000000)] [.own 1 (qg xs)] [] [.rf 0 0 xs.length] rfl (by simp(disch:=omega)only[go_sem]) (by simp(disch:=omega)only[go_sem,List.take_length,Nat.sub_self,List.replicate_zero,List.append_nil]) (by simp) (by simp) ⟨rfl,rfl⟩
theorem ad0(xs:List Int)(hl:xs.length≤2000000):Con Tryz.prog 253 false [.ag [.sl xs.length (qg xs)]] [] (fun r hs bs=>r=.ag [.rf 0 0 xs.length]∧hs=[.own 1 (qg xs)]):=by
 refine Con.of_aw Tryz.func253 rfl Tryz.ntmps253 (by simp) (by simp) (by simp) (W.sound ?_)
 show @W Tryz.prog 9 ⟨_⟩ ⟨fun x σ=>@q8 _ _ _ ⟨_⟩ _ ⟨_⟩ x σ⟩ _ _
 simp(disch:=omega)only[go_sem]
 refine qz (aaY xs hl) (by simp(disch:=omega)only[go_sem]) ?_
 rintro r hs ⟨rfl,rfl⟩
 refine⟨by simp[qB];simp(disch:=omega)only[go_sem],?_⟩
 simp(disch:=omega)only[go_sem]
 refine ql [(0,80000000)] [.own 1 (qg xs)] [] [.ag [.rf 0 0 xs.length]] rfl (by simp(disch:=omega)only[go_sem]) (by simp(disch:=omega)only[go_sem]) (by simp) (by simp) ⟨rfl,rfl⟩
theorem Kr(s:Bool)(xs:List Int)(hl:xs.length≤2000000):Con Tryz.prog 189 false [.ag [.v (.bool s),.sl xs.length (qg xs)]] [] (fun r hs bs=>r=.ag [.v (.bool s),.rf 0 0 xs.length]∧hs=[.own 1 (qg xs)]):=by
 refine Con.of_aw Tryz.func189 rfl Tryz.ntmps189 (by simp) (by simp) (by simp) (W.sound ?_)
 show @W Tryz.prog 12 ⟨_⟩ ⟨fun x σ=>@q8 _ _ _ ⟨_⟩ _ ⟨_⟩ x σ⟩ _ _
 simp(disch:=omega)only[go_sem]
 refine qz (ad0 xs hl) (by simp(disch:=omega)only[go_sem]) ?_
 rintro r hs ⟨rfl,rfl⟩
 refine⟨by simp[qB];simp(disch:=omega)only[go_sem],?_⟩
 simp(disch:=omega)only[go_sem]
 refine ql [(0,110000000)] [.own 1 (qg xs)] [] [.ag [.v (.bool s),.rf 0 0 xs.length]] rfl (by simp(disch:=omega)only[go_sem]) (by simp(disch:=omega)only[go_sem]) (by simp) (by simp) ⟨rfl,rfl⟩
theorem ahD(s:Bool)(xs:List Int)(e:Int)(hl:xs.length≤2000000):Con Tryz.prog 108 false [.ag [.v (.bool s),.sl xs.length (qg xs),.v (.int .i64 e)]] [] (fun r hs bs=>r=.ag [.v (.bool s),.rf 0 0 xs.length,.v (.int .i64 e)]∧hs=[.own 1 (qg xs)]):=by
 refine Con.of_aw Tryz.func108 rfl Tryz.ntmps108 (by simp) (by simp) (by simp) (W.sound ?_)
 show @W Tryz.prog 12 ⟨_⟩ ⟨fun x σ=>@q8 _ _ _ ⟨_⟩ _ ⟨_⟩ x σ⟩ _ _
 simp(disch:=omega)only[go_sem]
 refine qz (Kr s xs hl) (by simp(disch:=omega)only[go_sem]) ?_
 rintro r hs ⟨rfl,rfl⟩
 refine⟨by simp[qB];simp(disch:=omega)only[go_sem],?_⟩
 simp(disch:=omega)only[go_sem]
 refine ql [(0,80000000)] [.own 1 (qg xs)] [] [.ag [.v (.bool s),.rf 0 0 xs.length,.v (.int .i64 e)]] rfl (by simp(disch:=omega)only[go_sem]) (by simp(disch:=omega)only[go_sem]) (by simp) (by simp) ⟨rfl,rfl⟩
/-! ### Marks-/
def mkI(k n:Nat):List Int:=(List.range n).map fun i=>((k+i:Nat):Int)
theorem QJ(k n:Nat):(mkI k n).length=n:=by simp[mkI]
theorem alb(k n:Nat):mkI k (n+1)=mkI k n++[((k+n:Nat):Int)]:=by simp[mkI,List.range_succ]
theorem aql{k n i:Nat}(h:i<n):(mkI k n).getD i 0=((k+i:Nat):Int):=by
 simp[mkI,List.getD_eq_getElem?_getD,List.getElem?_range h]
theorem aqk{k i:Nat}{xs:List Int}(h:i<xs.length):(mkI k i++xs.drop i).set i ((k+i:Nat):Int)=mkI k (i+1)++xs.drop (i+1):=by
 have hl:=QJ k i
 rw[List.set_append_right _ _ (by omega),hl,Nat.sub_self,List.drop_eq_getElem_cons h,List.set_cons_zero,alb]
 simp
theorem Z6(k n:Nat)(hn:n≤2^40)(hk:k≤2^40):Con Tryz.prog 89 true [.sl n (qg (mkI k n)),.v (.int .i64 k)] [] (isA (.v (.int .i64 ((k+n:Nat):Int)))):=by
 refine Con.of_w (rs:=[.tmp 4]) Tryz.func89 rfl Tryz.ntmps89 rfl ?_
 simp(disch:=omega)only[go_sem]
 refine qj (fun i:Nat=>[(0,.sl n (qg (mkI k n))),(1,.v (.int .i64 ((k+i:Nat):Int))),(5,.v (.int .i64 i))]) (fun _=>[]) (fun i=>i≤n) (fun i=>n-i) 0 (by omega)
  (Le.lst [] _ _ rfl (by simp(disch:=omega)only[go_sem,Nat.add_zero]) (by simp(disch:=omega)only[go_sem])) ?_
 intro i hi
 simp(disch:=omega)only[go_sem]
 refine qh (fun h1=>?_) (fun h1=>?_)
 ·have hg:=aql (k:=k) (n:=n) (i:=i) (by omega)
  have hlen:=QJ k n
  simp(disch:=omega)only[go_sem,h1,hg]
  have e1:((k+i:Nat):Int)+1=((k+(i+1):Nat):Int):=by omega
  refine⟨⟨by omega,by omega⟩,by omega,qe (i+1) [] (by show i+1≤_;omega) (by show n-(i+1)<n-i;omega) rfl (by simp(disch:=omega)only[go_sem,e1];try omega) (by simp(disch:=omega)only[go_sem])⟩
 ·have:i=n:=by omega
  subst this
  simp(disch:=omega)only[go_sem,h1]
  exact qu
theorem Z4(k:Nat)(xs:List Int)(hn:xs.length≤2^40)(hk:k≤2^40):Con Tryz.prog 88 false [.rf 10000000 0 xs.length,.v (.int .i64 k)] [.own 1 (qg xs)]
  (fun r hs bs=>r=.v (.int .i64 ((k+xs.length:Nat):Int))∧hs=[]∧bs=[.own 1 (qg (mkI k xs.length))]):=by
 refine Con.of_aw Tryz.func88 rfl Tryz.ntmps88 (by simp) (by simp) (by simp) (W.sound ?_)
 show @W Tryz.prog 19 ⟨_⟩ ⟨fun x σ=>@q8 _ _ _ ⟨_⟩ _ ⟨_⟩ x σ⟩ _ _
 simp(disch:=omega)only[go_sem]
 refine qj (fun i:Nat=>[(0,.rf 10000000 0 xs.length),(1,.v (.int .i64 ((k+i:Nat):Int))),(5,.v (.int .i64 i))]) (fun i=>[(10000000,.own 1 (qg (mkI k i++xs.drop i)))]) (fun i=>i≤xs.length) (fun i=>xs.length-i) 0 (by omega)
  (Le.lst [] _ _ rfl (by simp(disch:=omega)only[go_sem,Nat.add_zero]) (by simp(disch:=omega)only[go_sem,List.drop_zero];try rfl)) ?_
 intro i hi
 simp(disch:=omega)only[go_sem]
 refine qh (fun h1=>?_) (fun h1=>?_)
 ·have hlen:(mkI k i++xs.drop i).length=xs.length:=by
   rw[List.length_append,QJ,List.length_drop];omega
  have hs:=aqk (k:=k) (i:=i) (xs:=xs) (by omega)
  have e1:((k+i:Nat):Int)+1=((k+(i+1):Nat):Int):=by omega
  simp(disch:=omega)only[go_sem,h1]
  refine⟨by omega,by omega,qe (i+1) [] (by show i+1≤_;omega) (by show xs.length-(i+1)<xs.length-i;omega) rfl (by simp(disch:=omega)only[go_sem,e1];try omega) (by simp(disch:=omega)only[go_sem,hs])⟩
 ·have:i=xs.length:=by omega
  subst this
  simp(disch:=omega)only[go_sem,h1]
  refine ql [] [] [.own 1 (qg (mkI k xs.length))] [.v (.int .i64 ((k+xs.length:Nat):Int))] rfl (by simp(disch:=omega)only[go_sem]) (by simp(disch:=omega)only[go_sem,List.drop_length,List.append_nil]) (by simp) (by simp) ⟨rfl,rfl,rfl⟩
theorem aa5(k:Nat)(xs:List Int)(hn:xs.length≤2^40)(hk:k≤2^40):Con Tryz.prog 127 false [.ag [.rf 10000000 0 xs.length],.v (.int .i64 k)] [.own 1 (qg xs)]
  (fun r hs bs=>r=.v (.int .i64 ((k+xs.length:Nat):Int))∧hs=[]∧bs=[.own 1 (qg (mkI k xs.length))]):=by
 refine Con.of_aw Tryz.func127 rfl Tryz.ntmps127 (by simp) (by simp) (by simp) (W.sound ?_)
 show @W Tryz.prog 10 ⟨_⟩ ⟨fun x σ=>@q8 _ _ _ ⟨_⟩ _ ⟨_⟩ x σ⟩ _ _
 simp(disch:=omega)only[go_sem]
 refine zf false [10000000] (Z4 k xs hn hk) (by simp(disch:=omega)only[go_sem]) (by simp(disch:=omega)only[go_sem]) rfl (qZ (z:=1) (cs:=qg xs) (by simp(disch:=omega)only[go_sem]) (by simp(disch:=omega)only[go_sem])) (by intro n hn;exact⟨_,List.mem_cons_self ..,by rw[List.mem_singleton.1 hn];rfl⟩) ?_
 rintro r hs bs ⟨rfl,rfl,rfl⟩-
 refine⟨by simp[qB],?_⟩
 simp(disch:=omega)only[go_sem]
 refine ql [] [] [.own 1 (qg (mkI k xs.length))] [.v (.int .i64 ((k+xs.length:Nat):Int))] rfl (by simp(disch:=omega)only[go_sem]) (by simp(disch:=omega)only[go_sem]) (by simp) (by simp) ⟨rfl,rfl,rfl⟩
theorem Vj(s:Bool)(k:Nat)(xs:List Int)(hn:xs.length≤2^40)(hk:k≤2^40):Con Tryz.prog 60 false [.ag [.v (.bool s),.rf 10000000 0 xs.length],.v (.int .i64 k)] [.own 1 (qg xs)]
  (fun r hs bs=>r=.v (.int .i64 ((k+xs.length:Nat):Int))∧hs=[]∧bs=[.own 1 (qg (mkI k xs.length))]):=by
 refine Con.of_aw Tryz.func60 rfl Tryz.ntmps60 (by simp) (by simp) (by simp)
  (AW.seqLe (E:=[(1,.v (.int .i64 k)),(2,.pt 40000000 0),(4,.v (.int .i64 0))]) (H:=[(40000000,.own 0 [.v (.bool s),.rf 10000000 0 xs.length]),(10000000,.own 1 (qg xs))]) (W.sound ?_)
   (AW.regCall (E:=[(2,.pt 40000000 0),(4,.v (.int .i64 0)),(6,.ag [.rf 10000000 0 xs.length]),(7,.v (.int .i64 k))]) (H:=[(40000000,.own 0 [.v (.bool s),.rf 10000000 0 xs.length]),(10000000,.own 1 (qg xs))]) 3 (by simp only[List.take_succ_cons,List.take_zero];rfl) (by simp only[List.drop_succ_cons,List.drop_zero];rfl) ?_
    (by decide) rfl rfl (by simp(disch:=omega)only[go_sem]) (by rfl) false [10000000] (aa5 k xs hn hk) (by simp(disch:=omega)only[go_sem]) (by simp(disch:=omega)only[go_sem]) rfl (qZ (z:=1) (cs:=qg xs) (by simp(disch:=omega)only[go_sem]) (by simp(disch:=omega)only[go_sem])) ?_))
 ·show @W Tryz.prog 10 ⟨_⟩ ⟨_⟩ _ _
  simp(disch:=omega)only[go_sem]
  exact Le.lst [] _ _ rfl (by simp(disch:=omega)only[go_sem]) (by simp(disch:=omega)only[go_sem])
 ·simp(disch:=omega)only[go_sem]
  exact Le.lst [] _ _ rfl (by simp(disch:=omega)only[go_sem]) (by simp(disch:=omega)only[go_sem])
 rintro r hs bs ⟨rfl,rfl,rfl⟩-
 refine⟨by simp[qB],?_⟩
 show @Ch Tryz.prog 10 ⟨_⟩ ⟨_⟩ ⟨fun σ=>@W Tryz.prog 10 ⟨_⟩ ⟨fun x σ=>@q8 _ _ _ ⟨_⟩ _ ⟨_⟩ x σ⟩ σ.env σ.hp⟩ _ _
 simp(disch:=omega)only[go_sem]
 refine ql [] [] [.own 1 (qg (mkI k xs.length))] [.v (.int .i64 ((k+xs.length:Nat):Int))] rfl (by simp(disch:=omega)only[go_sem]) (by simp(disch:=omega)only[go_sem]) (by simp) (by simp) ⟨rfl,rfl,rfl⟩
theorem aeb(s:Bool)(e:Int)(k:Nat)(xs:List Int)(hn:xs.length≤2^40)(hk:k≤2^40):Con Tryz.prog 20 false [.ag [.v (.bool s),.rf 10000000 0 xs.length,.v (.int .i64 e)],.v (.int .i64 k)] [.own 1 (qg xs)]
  (fun r hs bs=>r=.v (.int .i64 ((k+xs.length:Nat):Int))∧hs=[]∧bs=[.own 1 (qg (mkI k xs.length))]):=by
 refine Con.of_aw Tryz.func20 rfl Tryz.ntmps20 (by simp) (by simp) (by simp)
  (AW.seqLe (E:=[(1,.v (.int .i64 k)),(2,.pt 40000000 0),(4,.v (.int .i64 0))]) (H:=[(40000000,.own 0 [.v (.bool s),.rf 10000000 0 xs.length,.v (.int .i64 e)]),(10000000,.own 1 (qg xs))]) (W.sound ?_)
   (AW.regCall (E:=[(2,.pt 40000000 0),(4,.v (.int .i64 0)),(6,.ag [.v (.bool s),.rf 10000000 0 xs.length]),(7,.v (.int .i64 k))]) (H:=[(40000000,.own 0 [.v (.bool s),.rf 10000000 0 xs.length,.v (.int .i64 e)]),(10000000,.own 1 (qg xs))]) 3 (by simp only[List.take_succ_cons,List.take_zero];rfl) (by simp only[List.drop_succ_cons,List.drop_zero];rfl) ?_
    (by decide) rfl rfl (by simp(disch:=omega)only[go_sem]) (by rfl) false [10000000] (Vj s k xs hn hk) (by simp(disch:=omega)only[go_sem]) (by simp(disch:=omega)only[go_sem]) rfl (qZ (z:=1) (cs:=qg xs) (by simp(disch:=omega)only[go_sem]) (by simp(disch:=omega)only[go_sem])) ?_))
 ·show @W Tryz.prog 10 ⟨_⟩ ⟨_⟩ _ _
  simp(disch:=omega)only[go_sem]
  exact Le.lst [] _ _ rfl (by simp(disch:=omega)only[go_sem]) (by simp(disch:=omega)only[go_sem])
 ·simp(disch:=omega)only[go_sem]
  exact Le.lst [] _ _ rfl (by simp(disch:=omega)only[go_sem]) (by simp(disch:=omega)only[go_sem])
 rintro r hs bs ⟨rfl,rfl,rfl⟩-
 refine⟨by simp[qB],?_⟩
 show @Ch Tryz.prog 10 ⟨_⟩ ⟨_⟩ ⟨fun σ=>@W Tryz.prog 10 ⟨_⟩ ⟨fun x σ=>@q8 _ _ _ ⟨_⟩ _ ⟨_⟩ x σ⟩ σ.env σ.hp⟩ _ _
 simp(disch:=omega)only[go_sem]
 refine ql [] [] [.own 1 (qg (mkI k xs.length))] [.v (.int .i64 ((k+xs.length:Nat):Int))] rfl (by simp(disch:=omega)only[go_sem]) (by simp(disch:=omega)only[go_sem]) (by simp) (by simp) ⟨rfl,rfl,rfl⟩
end Go.Ab
namespace Go.Ab
open Go
section
variable {P:Program}{L:Nat→Option Blk→Prop}{w0 w:World}{R:Nat→Prop}{ι:Nat→Option Blk}{a:Act}{σ:St}{K:AV→(Nat→Ob)→Prop}
def ajZ:Nat→Code→Code
 |k+1,.seq a b=>.seq a (ajZ k b)
 |_,_=>.skip
def aaP:Nat→Code→Code
 |k+1,.seq _ b=>aaP k b
 |0,c=>c
 |k+1,c=>.seq .skip c
theorem Kf{N:Nat}{Q:Exit→St→Prop}:∀(k:Nat) (c:Code) (σ:St),(∀j,j<k→∃a b,aaP j c=.seq a b)→WF P N (ajZ k c) (VG (AW P N (aaP k c) Q) Q) σ→AW P N c Q σ
 |0,c,σ,_,h=>by
  cases c<;>exact h
 |k+1,.seq x y,σ,hh,h=>by
  have h:WF P N x (VG (WF P N (ajZ k y) (VG (AW P N (aaP k y) Q) Q)) (VG (AW P N (aaP k y) Q) Q)) σ:=h
  refine AW.seq ((WF.sound x h).mono fun e σ' h'=>?_)
  cases e with
  |normal=>exact Kf k y σ' (fun j hj=>hh (j+1) (by omega)) h'
  |_=>exact h'
 |k+1,.skip,σ,hh,h=>by obtain⟨a,b,e⟩:=hh 0 (by omega);cases e
 |k+1,.region _ _ _,σ,hh,h=>by obtain⟨a,b,e⟩:=hh 0 (by omega);cases e
 |k+1,.cond _ _ _,σ,hh,h=>by obtain⟨a,b,e⟩:=hh 0 (by omega);cases e
 |k+1,.block _ _,σ,hh,h=>by obtain⟨a,b,e⟩:=hh 0 (by omega);cases e
 |k+1,.loop _,σ,hh,h=>by obtain⟨a,b,e⟩:=hh 0 (by omega);cases e
 |k+1,.exit _,σ,hh,h=>by obtain⟨a,b,e⟩:=hh 0 (by omega);cases e
 |k+1,.ret,σ,hh,h=>by obtain⟨a,b,e⟩:=hh 0 (by omega);cases e
 |k+1,.rangeFunc _ _ _ _,σ,hh,h=>by obtain⟨a,b,e⟩:=hh 0 (by omega);cases e
 |k+1,.scope _,σ,hh,h=>by obtain⟨a,b,e⟩:=hh 0 (by omega);cases e
 |k+1,.label _,σ,hh,h=>by obtain⟨a,b,e⟩:=hh 0 (by omega);cases e
 |k+1,.goto _,σ,hh,h=>by obtain⟨a,b,e⟩:=hh 0 (by omega);cases e
 |k+1,.refuse _,σ,hh,h=>by obtain⟨a,b,e⟩:=hh 0 (by omega);cases e
def agU:Nat→Code→Bool
 |0,_=>true
 |k+1,.seq _ b=>agU k b
 |_+1,_=>false
theorem Xb:∀(k:Nat) (c:Code),agU k c=true→∀j,j<k→∃a b,aaP j c=.seq a b
 |k+1,.seq x y,h,0,_=>⟨x,y,rfl⟩
 |k+1,.seq x y,h,j+1,hj=>Xb k y h j (by omega)
theorem AW.front{N:Nat}{Q:Exit→St→Prop}{e:Nat→AV}{h:Nat→Ob}{c:Code}(k:Nat){pre suf:Code}(hq:agU k c=true)(hp:ajZ k c=pre)(hs:aaP k c=suf)(hw:@W P N ⟨pre⟩ ⟨fun x σ=>@yc ⟨AW P N suf Q⟩ ⟨Q⟩ x σ⟩ e h):AW P N c Q ⟨e,h⟩:=by
 subst hp hs
 exact Kf k c ⟨e,h⟩ (Xb k c hq) hw
theorem AW.front1{N:Nat}{Q:Exit→St→Prop}{e:Nat→AV}{h:Nat→Ob}{x0 y:Code}(hw:@W P N ⟨.seq x0 (.skip)⟩ ⟨fun x σ=>@yc ⟨AW P N y Q⟩ ⟨Q⟩ x σ⟩ e h):AW P N (.seq x0 (y)) Q ⟨e,h⟩:=AW.front 1 rfl rfl rfl hw
theorem AW.front2{N:Nat}{Q:Exit→St→Prop}{e:Nat→AV}{h:Nat→Ob}{x0 x1 y:Code}(hw:@W P N ⟨.seq x0 (.seq x1 (.skip))⟩ ⟨fun x σ=>@yc ⟨AW P N y Q⟩ ⟨Q⟩ x σ⟩ e h):AW P N (.seq x0 (.seq x1 (y))) Q ⟨e,h⟩:=AW.front 2 rfl rfl rfl hw
theorem AW.front3{N:Nat}{Q:Exit→St→Prop}{e:Nat→AV}{h:Nat→Ob}{x0 x1 x2 y:Code}(hw:@W P N ⟨.seq x0 (.seq x1 (.seq x2 (.skip)))⟩ ⟨fun x σ=>@yc ⟨AW P N y Q⟩ ⟨Q⟩ x σ⟩ e h):AW P N (.seq x0 (.seq x1 (.seq x2 (y)))) Q ⟨e,h⟩:=AW.front 3 rfl rfl rfl hw
theorem AW.front4{N:Nat}{Q:Exit→St→Prop}{e:Nat→AV}{h:Nat→Ob}{x0 x1 x2 x3 y:Code}(hw:@W P N ⟨.seq x0 (.seq x1 (.seq x2 (.seq x3 (.skip))))⟩ ⟨fun x σ=>@yc ⟨AW P N y Q⟩ ⟨Q⟩ x σ⟩ e h):AW P N (.seq x0 (.seq x1 (.seq x2 (.seq x3 (y))))) Q ⟨e,h⟩:=AW.front 4 rfl rfl rfl hw
end
end Go.Ab
namespace Go.Ab
open Go
/-! ### Families:objects in a row of names,as many as there are-/
def fam(b n:Nat)(F:Nat→Ob)(h:Nat→Ob)(m:Nat):Ob:=if b≤m∧m<b+n then F (m-b)else h m
theorem qp{b n m:Nat}{F h:Nat→Ob}(hm:m<b):fam b n F h m=h m:=if_neg (by omega)
theorem qI{b n m:Nat}{F h:Nat→Ob}(hm:b+n≤m):fam b n F h m=h m:=if_neg (by omega)
theorem qS{b n j:Nat}{F h:Nat→Ob}(hj:j<n):fam b n F h (b+j)=F j:=by
 unfold fam;rw[if_pos (by omega),Nat.add_sub_cancel_left]
section
variable {P:Program}{N:Nat}{Q:Exit→St→Prop}{σ:St}
theorem Le.gen(ρ:Nat→Nat)(e':Nat→AV)(h':Nat→Ob)
  (hE:∀s,e' s=.un∨((e' s).ren ρ=σ.env s∧(e' s).All (fun m=>h' m≠ .free)))
  (hH:∀m z cs,h' m=.own z cs→σ.hp (ρ m)=.own z (ze ρ cs)∧AllL (fun m=>h' m≠ .free) cs∧(zI m=true→ρ m=m)∧(zI m=false→zI (ρ m)=false))
  (hlf:∀m,zI m=true→h' m≠ .free)
  (hinj:∀m m' z z' cs cs',h' m=.own z cs→h' m'=.own z' cs'→ρ m=ρ m'→m=m'):Le σ ⟨e',h'⟩:=by
 intro L w0 R0 N a w hi
 obtain⟨R,ι,hR,h⟩:=hi.inv
 have hrep:∀{x:Value} {v:AV},Rep R ι w x (v.ren ρ)→Rep R (fun m=>ι (ρ m)) w x v:=fun hx=>hx.unren rfl
 refine⟨hi.df,hi.sz,R,fun m=>ι (ρ m),hR,⟨h.ext,h.rlt,fun s=>?_,fun s=>?_,⟨fun m=>?_,fun m z cs B e hB=>h.hp.nR _ _ _ B (hH _ _ _ e).1 hB,fun m m' z z' cs cs' B B' e e' hB hB' hbb=>?_,fun m z cs e=>(hH _ _ _ e).2.1⟩,fun m z cs e=>?_,fun m hm=>hlf m hm,h.gd⟩⟩
 ·show Rep R _ w _ (e' s)
  rcases hE s with h1|⟨h1,h2⟩
  ·rw[h1];exact .fr _ _ (.un _)
  ·have:=h.env s
   rw[←h1]at this
   exact hrep this
 ·show(e' s).All _
  rcases hE s with h1|⟨h1,h2⟩
  ·rw[h1];simp[AV.All]
  ·exact h2
 ·show OOk R _ w (ι (ρ m)) (h' m)
  cases e:h' m with
  |free=>trivial
  |dead=>trivial
  |own z cs=>
   have h1:=h.hp.ok (ρ m)
   rw[(hH _ _ _ e).1]at h1
   cases hB:ι (ρ m)with
   |none=>rw[hB]at h1;have:ze ρ cs=[]:=h1;rw[qV]at this;exact List.map_eq_nil_iff.1 this
   |some B=>
    rw[hB]at h1
    obtain⟨c,T,lo,hi,g1,g2,g3,g4,g5,g6⟩:=h1
    rw[qV]at g5 g6
    refine⟨c,T,lo,hi,g1,g2,g3,g4,by simpa using g5,fun i hi=>?_⟩
    have:=g6 i (by simpa using hi)
    simp only[List.getElem_map]at this
    exact hrep this
 ·have:=h.hp.inj _ _ _ _ _ _ B B' (hH _ _ _ e).1 (hH _ _ _ e').1 hB hB' hbb
  exact hinj _ _ _ _ _ _ e e' this
 ·obtain⟨h1,h2,h5,h6⟩:=hH _ _ _ e
  rcases h.old _ _ _ h1 with g|g
  ·left
   refine⟨?_,g.2⟩
   cases hl:zI m with
   |false=>rfl
   |true=>have:=h5 hl;rw[this,hl]at g;exact g.1
  ·right
   have hl:zI m=true:=by
    cases hl:zI m with
    |true=>rfl
    |false=>have:=h6 hl;rw[this]at g;exact g.1
   have:=h5 hl
   rw[this]at g ⊢
   exact g
theorem QK{c:Code}{X:Type}(S:X→St)(inv:X→Prop)(μ:X→Nat)(x0:X)(h0:inv x0)(hσ:Le σ (S x0))
  (round:∀x,inv x→@W P N ⟨c⟩ ⟨fun y σ'=>@yc ⟨fun σ'=>@agi ⟨fun σ'=>∃x',inv x'∧μ x'<μ x∧Le σ' (S x')⟩ σ'.env σ'.hp⟩ ⟨Q⟩ y σ'⟩ (S x).env (S x).hp):
  @alf P N ⟨c⟩ ⟨Q⟩ σ:=by
 refine AW.loop S inv μ x0 h0 hσ fun x hx=>(W.sound (round x hx)).mono fun y σ' hq=>?_
 cases y<;>exact hq
theorem QI{X:Type}{S:X→St}{inv:X→Prop}{μ:X→Nat}{n:Nat}{e:Nat→AV}{h:Nat→Ob}(x':X)(h1:inv x')(h2:μ x'<n)(hl:Le ⟨e,h⟩ (S x')):
  @agi ⟨fun σ'=>∃x',inv x'∧μ x'<n∧Le σ' (S x')⟩ e h:=⟨x',h1,h2,hl⟩
def nmF(ks:List Nat)(b n:Nat)(m:Nat):Prop:=jv ks m∨(b≤m∧m<b+n)
def Jq(ρ:Nat→Nat)(e:Nat→AV)(p:Nat→Prop):List (Nat×AV)→Prop
 | []=>True
 |(s,v)::r=>(v.ren ρ=e s∧v.All p)∧Jq ρ e p r
def auX(ρ:Nat→Nat)(h:Nat→Ob)(p:Nat→Prop):List (Nat×Ob)→Prop
 | []=>True
 |(k,ob)::r=>(ob.ren ρ=h (ρ k)∧ob.men p∧ob.isOwn)∧auX ρ h p r
theorem XY{ρ:Nat→Nat}{e:Nat→AV}{p:Nat→Prop}:∀{E:List (Nat×AV)},Jq ρ e p E→∀q∈E,q.2.ren ρ=e q.1∧q.2.All p
 |(s,v)::r,h,q,hq=>by
  rcases List.mem_cons.1 hq with rfl|hq
  ·exact h.1
  ·exact XY h.2 q hq
theorem Jp{ρ:Nat→Nat}{h:Nat→Ob}{p:Nat→Prop}:∀{H:List (Nat×Ob)},auX ρ h p H→∀q∈H,q.2.ren ρ=h (ρ q.1)∧q.2.men p∧q.2.isOwn
 |(s,v)::r,h,q,hq=>by
  rcases List.mem_cons.1 hq with rfl|hq
  ·exact h.1
  ·exact Jp h.2 q hq
theorem Le.famL(ρ:Nat→Nat)(E:List (Nat×AV))(H:List (Nat×Ob))(b n:Nat)(F:Nat→Ob)
  (hn:yW (H.map (·.1))=true) (hlow:∀q∈H,q.1<b∨b+n≤q.1)
  (hE:Jq ρ σ.env (nmF (H.map (·.1)) b n) E) (hH:auX ρ σ.hp (nmF (H.map (·.1)) b n) H)
  (hF:∀j,j<n→(F j).ren ρ=σ.hp (ρ (b+j))∧(F j).men (nmF (H.map (·.1)) b n)∧(F j).isOwn)
  (hlent:∀m,nmF (H.map (·.1)) b n m→(zI m=true→ρ m=m)∧(zI m=false→zI (ρ m)=false))
  (hinj:∀m m',nmF (H.map (·.1)) b n m→nmF (H.map (·.1)) b n m'→ρ m=ρ m'→m=m'):Le σ ⟨ofL .un E,fam b n F (ofH H)⟩:=by
 have hnd:=z7 hn
 have hget:∀q∈H,fam b n F (ofH H) q.1=q.2:=fun q hq=>by
  have:¬(b≤q.1∧q.1<b+n):=by have:=hlow q hq;omega
  show(if b≤q.1∧q.1<b+n then _ else _)=_
  rw[if_neg this]
  exact XL hnd q hq
 have hne:∀m,nmF (H.map (·.1)) b n m→fam b n F (ofH H) m≠ .free:=fun m hm=>by
  rcases hm with hm|hm
  ·obtain⟨q,hq,rfl⟩:=List.mem_map.1 (Jo.1 hm)
   rw[hget q hq]
   exact zD (Jp hH q hq).2.2
  ·have:=(hF (m-b) (by omega)).2.2
   show(if b≤m∧m<b+n then _ else _)≠_
   rw[if_pos hm]
   exact zD this
 have hsrc:∀m z cs,fam b n F (ofH H) m=.own z cs→(σ.hp (ρ m)=.own z (ze ρ cs)∧AllL (nmF (H.map (·.1)) b n) cs)∧nmF (H.map (·.1)) b n m:=by
  intro m z cs e
  by_cases hm:b≤m∧m<b+n
  ·have e2:F (m-b)=.own z cs:=by
    have:fam b n F (ofH H) m=F (m-b):=if_pos hm
    rw[←this];exact e
   obtain⟨g1,g2,g3⟩:=hF (m-b) (by omega)
   rw[e2,show b+(m-b)=m by omega]at g1
   rw[e2]at g2
   exact⟨⟨g1.symm,g2⟩,.inr hm⟩
  ·have e2:ofH H m=.own z cs:=by
    have:fam b n F (ofH H) m=ofH H m:=if_neg hm
    rw[←this];exact e
   rcases jw (l:=H) (s:=m) (d:=(bif zI m then .dead else .free:Ob))with⟨v,h1,h2⟩|h1
   ·have hv:v=.own z cs:=h2.symm.trans e2
    subst hv
    obtain⟨g1,g2,g3⟩:=Jp hH _ h1
    exact⟨⟨g1.symm,g2⟩,.inl (Jo.2 (List.mem_map_of_mem (f:=(·.1)) h1))⟩
   ·have:ofH H m=_:=h1
    rw[this]at e2
    cases hl:zI m<;>rw[hl]at e2<;>cases e2
 refine Le.gen ρ _ _ (fun s=>?_) (fun m z cs e=>?_) (fun m hm=>?_) (fun m m' z z' cs cs' e e' hr=>hinj m m' (hsrc m z cs e).2 (hsrc m' z' cs' e').2 hr)
 ·rcases jw (l:=E) (s:=s) (d:=AV.un)with⟨v,h1,h2⟩|h1
  ·right
   rw[h2]
   obtain⟨g1,g2⟩:=XY hE _ h1
   exact⟨g1,g2.mono hne⟩
  ·exact .inl h1
 ·obtain⟨⟨g1,g2⟩,g3⟩:=hsrc m z cs e
  obtain⟨g4,g5⟩:=hlent m g3
  exact⟨g1,g2.mono hne,g4,g5⟩
 ·intro hf
  by_cases hm2:b≤m∧m<b+n
  ·have e2:fam b n F (ofH H) m=F (m-b):=if_pos hm2
   rw[e2]at hf
   exact zD (hF (m-b) (by omega)).2.2 hf
  ·have e2:ofH H m=.free:=by
    have:fam b n F (ofH H) m=ofH H m:=if_neg hm2
    rw[←this];exact hf
   rcases jw (l:=H) (s:=m) (d:=(bif zI m then .dead else .free:Ob))with⟨v,h1,h2⟩|h1
   ·have hv:v=.free:=h2.symm.trans e2
    exact zD (Jp hH _ h1).2.2 hv
   ·have:ofH H m=_:=h1
    rw[this,hm]at e2
    cases e2
end
end Go.Ab
namespace Go.Ab
open Go
def aap(o:Ob):Prop:=o.isOwn∧(∀ρ,o.ren ρ=o)∧(∀p:Nat→Prop,o.men p)
def X4(b i c m:Nat):Nat:=if m=b+i then c else m
theorem yZ{b i c:Nat}:X4 b i c (b+i)=c:=if_pos rfl
theorem Q7{b i c m:Nat}(h:m≠b+i):X4 b i c m=m:=if_neg h
section
variable {P:Program}{N:Nat}{Q:Exit→St→Prop}{σ:St}
theorem Le.fam0(E:List (Nat×AV))(H:List (Nat×Ob))(b:Nat)(F:Nat→Ob)(h:Le σ ⟨ofL .un E,ofH H⟩):Le σ ⟨ofL .un E,fam b 0 F (ofH H)⟩:=by
 have:fam b 0 F (ofH H)=ofH H:=by funext m;exact if_neg (by omega)
 rw[this];exact h
theorem Le.grow(c:Nat)(E:List (Nat×AV))(H:List (Nat×Ob))(b i:Nat)(F:Nat→Ob)(hb:20000000≤b)(hF:∀j,aap (F j))
  (hσ:∀j,j<i→σ.hp (b+j)=F j) (hc:σ.hp c=F i) (hcb:20000000≤c∧c<b) (hcH:c∉H.map (·.1))
  (hn:yW (H.map (·.1))=true) (hlow:∀q∈H,q.1<b)
  (hE:Jq (X4 b i c) σ.env (nmF (H.map (·.1)) b (i+1)) E) (hH:auX (X4 b i c) σ.hp (nmF (H.map (·.1)) b (i+1)) H):Le σ ⟨ofL .un E,fam b (i+1) F (ofH H)⟩:=by
 have hk:∀m,nmF (H.map (·.1)) b (i+1) m→m≠b+i→X4 b i c m=m∧m≠c:=fun m hm hne=>⟨Q7 hne,fun e=>by
  subst e
  rcases hm with hm|hm
  ·exact hcH (Jo.1 hm)
  ·omega⟩
 have hlc:∀m,20000000≤m→zI m=false:=fun m hm=>by
  unfold zI
  have:Nat.blt m 20000000=false:=by
   cases h:Nat.blt m 20000000 with
   |false=>rfl
   |true=>simp[Nat.blt]at h;omega
  rw[this,Bool.and_false]
 refine Le.famL (X4 b i c) E H b (i+1) F hn (fun q hq=>.inl (hlow q hq)) hE hH (fun j hj=>?_) (fun m hm=>?_) (fun m m' hm hm' e=>?_)
 ·obtain⟨p1,p2,p3⟩:=hF j
  refine⟨?_,p3 _,p1⟩
  rw[p2]
  by_cases hji:j=i
  ·subst hji;rw[yZ,hc]
  ·rw[Q7 (by omega),hσ j (by omega)]
 ·by_cases hne:m=b+i
  ·subst hne
   rw[yZ]
   exact⟨fun h=>(by rw[hlc _ (by omega)]at h;cases h),fun _=>hlc _ hcb.1⟩
  ·rw[(hk m hm hne).1]
   exact⟨fun _=>rfl,fun h=>h⟩
 ·by_cases h1:m=b+i<;>by_cases h2:m'=b+i
  ·rw[h1,h2]
  ·rw[h1,yZ,(hk m' hm' h2).1]at e
   exact absurd e.symm (hk m' hm' h2).2
  ·rw[h2,yZ,(hk m hm h1).1]at e
   exact absurd e (hk m hm h1).2
  ·rwa[(hk m hm h1).1,(hk m' hm' h2).1]at e
def alm(ρ:Nat→Nat)(p:Nat→Prop):List AV→List AV→Prop
 | [],[]=>True
 |v::r,a::l=>(v.ren ρ=a∧v.All p)∧alm ρ p r l
 |_,_=>False
theorem XX{ρ:Nat→Nat}{p:Nat→Prop}:∀{l' l:List AV},alm ρ p l' l→l'.length=l.length∧∀i,i<l.length→(l'.getD i .un).ren ρ=l.getD i .un∧(l'.getD i .un).All p
 | [],[],_=>by simp
 |v::r,a::l,hl=>by
  obtain⟨h1,h2⟩:=XX hl.2
  refine⟨by simp[h1],fun i hi=>?_⟩
  cases i with
  |zero=>exact hl.1
  |succ i=>exact h2 i (by simpa using hi)
 | [],a::l,hl=>hl.elim
 |v::r,[],hl=>hl.elim
theorem J3{cl:Bool}{post:AV→List Ob→List Ob→Prop}{l:List AV}{e:Nat→AV}{h:Nat→Ob}(ρ:Nat→Nat)(row:Ob)(n:Nat)(F:Nat→Ob)(l':List AV)(hn:n<9000000)
  (hl:alm ρ (nmF [0] 1 n) l' l) (hrow:row.ren ρ=h (ρ 0)∧row.men (nmF [0] 1 n)∧row.isOwn)
  (hF:∀j,j<n→(F j).ren ρ=h (ρ (1+j))∧(F j).men (nmF [0] 1 n)∧(F j).isOwn)
  (hlent:∀m,m≤n→zI (ρ m)=false) (hinj:∀m m',m≤n→m'≤n→ρ m=ρ m'→m=m')
  (hcl:cl=true→row.pu∧(∀j,j<n→(F j).pu)∧(zb l').pu) (hp:post (zb l') (row::(List.range n).map F) []):@aeI N cl 0 ⟨post⟩ ⟨e⟩ l h:=by
 have hchp:fam 1 n F (ofH [(0,row)])=chp (row::(List.range n).map F) []:=by
  funext m
  unfold chp fam
  by_cases hm:1≤m∧m<1+n
  ·rw[if_pos hm]
   have h1:Nat.blt m 10000000=true:=by simp[Nat.blt];omega
   rw[h1,cond_true]
   obtain⟨j,rfl⟩:∃j,m=j+1:=⟨m-1,by omega⟩
   rw[List.getD_cons_succ,Nat.add_sub_cancel,List.getD_eq_getElem?_getD,List.getElem?_map,List.getElem?_range (by omega)];rfl
  ·rw[if_neg hm]
   by_cases h0:m=0
   ·subst h0;rfl
   ·have h2:ofH [(0,row)] m=(bif zI m then .dead else .free):=by
     show(bif Nat.beq 0 m then row else _)=_
     have:Nat.beq 0 m=false:=by cases m with|zero=>exact absurd rfl h0|succ m=>rfl
     rw[this];rfl
    rw[h2]
    unfold zI
    by_cases h3:m<10000000
    ·have a1:Nat.blt m 10000000=true:=by simp[Nat.blt];omega
     have a2:Nat.ble 10000000 m=false:=by
      cases hh:Nat.ble 10000000 m with
      |false=>rfl
      |true=>have:=Nat.le_of_ble_eq_true hh;omega
     rw[a1,a2,Bool.false_and,cond_true,cond_false,List.getD_eq_getElem?_getD,List.getElem?_eq_none (by simp;omega)];rfl
    ·have a1:Nat.blt m 10000000=false:=by
      cases hh:Nat.blt m 10000000 with
      |false=>rfl
      |true=>simp[Nat.blt]at hh;omega
     have a2:Nat.ble 10000000 m=true:=Nat.ble_eq_true_of_le (by omega)
     rw[a1,a2,Bool.true_and,cond_false]
     cases Nat.blt m 20000000<;>simp
 obtain⟨hll,hlg⟩:=XX hl
 have hnm:∀m,nmF [0] 1 n m→m≤n:=fun m hm=>by
  rcases hm with hm|hm
  ·rcases hm with rfl|hm
   ·omega
   ·exact hm.elim
  ·omega
 have hsm:∀m,m≤n→zI m=false:=fun m hm=>by
  unfold zI
  have:Nat.ble 10000000 m=false:=by
   cases hh:Nat.ble 10000000 m with
   |false=>rfl
   |true=>have:=Nat.le_of_ble_eq_true hh;omega
  rw[this,Bool.false_and]
 have hE:Jq ρ (ZB N e l) (nmF [0] 1 n) (zX N l'):=by
  have key:∀(l':List AV) (k:Nat),(∀i,i<l'.length→(l'.getD i .un).ren ρ=ZB N e l (N+(k+i))∧(l'.getD i .un).All (nmF [0] 1 n))→Jq ρ (ZB N e l) (nmF [0] 1 n) (zX (N+k) l'):=by
   intro l'
   induction l' with
   |nil=>intro k _;trivial
   |cons v r ih=>
    intro k hk
    refine⟨hk 0 (by simp),ih (k+1) fun i hi=>?_⟩
    have:=hk (i+1) (by simpa using hi)
    rw[show k+1+i=k+(i+1) by omega];exact this
  refine key l' 0 fun i hi=>?_
  have h1:=hlg i (by omega)
  refine⟨?_,h1.2⟩
  rw[h1.1]
  unfold ZB
  have:Nat.blt (N+(0+i)) N=false:=by
   cases h:Nat.blt (N+(0+i)) N with
   |false=>rfl
   |true=>simp[Nat.blt]at h;omega
  rw[this,cond_false,show N+(0+i)-N=i by omega]
 have hle:Le ⟨ZB N e l,h⟩ ⟨ofL .un (zX N l'),fam 1 n F (ofH [(0,row)])⟩:=
  Le.famL ρ _ [(0,row)] 1 n F rfl (fun q hq=>by rw[List.mem_singleton.1 hq];exact .inl (by show 0<1;omega)) hE ⟨hrow,trivial⟩ hF
   (fun m hm=>⟨fun h=>(by rw[hsm m (hnm m hm)]at h;cases h),fun _=>hlent m (hnm m hm)⟩) (fun m m' hm hm'=>hinj m m' (hnm m hm) (hnm m' hm'))
 have hne:∀m,nmF [0] 1 n m→rhp (row::(List.range n).map F) [] m≠ .free:=fun m hm=>by
  have hm2:=hnm m hm
  unfold rhp
  rw[if_neg (by omega)]
  cases m with
  |zero=>exact zD hrow.2.2
  |succ j=>
   rw[List.getD_cons_succ,List.getD_eq_getElem?_getD,List.getElem?_map,List.getElem?_range (by omega)]
   exact zD (hF j (by omega)).2.2
 have hmem:∀ob∈(row::(List.range n).map F),ob=row∨∃j,j<n∧ob=F j:=fun ob ho=>by
  rcases List.mem_cons.1 ho with rfl|ho
  ·exact .inl rfl
  ·obtain⟨j,hj,rfl⟩:=List.mem_map.1 ho
   exact .inr ⟨j,List.mem_range.1 hj,rfl⟩
 refine⟨_,row::(List.range n).map F,[],l',hle,hchp,by simp;omega,rfl,fun ob ho=>(by cases ho),fun ob ho=>?_,fun hc ob ho=>?_,fun hc ob ho=>(by cases ho),hll,fun i hi=>?_,fun hc=>(hcl hc).2.2,?_,hp⟩
 ·rw[List.append_nil]at ho
  rcases hmem ob ho with rfl|⟨j,hj,rfl⟩
  ·exact hrow.2.1.mono hne
  ·exact(hF j hj).2.1.mono hne
 ·rcases hmem ob ho with rfl|⟨j,hj,rfl⟩
  ·exact(hcl hc).1
  ·exact(hcl hc).2.1 j hj
 ·show ofL .un (zX N l') (N+i)=_
  rw[yv,if_pos (by omega),show N+i-N=i by omega]
 ·have:AllL (nmF [0] 1 n) l':=AllL.of_get fun i hi=>by
   have:=(hlg i (by omega)).2
   rwa[List.getD_eq_getElem?_getD,List.getElem?_eq_getElem hi]at this
  unfold zb
  split
  ·exact(this.get 0 (by simp)).mono hne
  ·simp only[AV.All];exact this.mono hne
theorem abw{row:Ob}{n:Nat}{F:Nat→Ob}(hn:n<9000000):chp [] (row::(List.range n).map F)=fam 10000001 n F (ofH [(10000000,row)]):=by
 funext m
 unfold chp fam
 by_cases hm:10000001≤m∧m<10000001+n
 ·rw[if_pos hm]
  have h1:Nat.blt m 10000000=false:=by
   cases hh:Nat.blt m 10000000 with
   |false=>rfl
   |true=>simp[Nat.blt]at hh;omega
  have h2:Nat.blt m 20000000=true:=by simp[Nat.blt];omega
  rw[h1,h2,cond_false,cond_true]
  obtain⟨j,rfl⟩:∃j,m=10000001+j:=⟨m-10000001,by omega⟩
  rw[show 10000001+j-10000000=j+1 by omega,List.getD_cons_succ,Nat.add_sub_cancel_left,List.getD_eq_getElem?_getD,List.getElem?_map,List.getElem?_range (by omega)];rfl
 ·rw[if_neg hm]
  by_cases h0:m=10000000
  ·subst h0
   have h1:Nat.blt 10000000 10000000=false:=by decide
   have h2:Nat.blt 10000000 20000000=true:=by decide
   rw[h1,h2,XL (H:=[(10000000,row)]) (z7 rfl) (10000000,row) (List.mem_singleton.2 rfl)];rfl
  ·have h2:ofH [(10000000,row)] m=(bif zI m then .dead else .free):=by
    show(bif Nat.beq 10000000 m then row else _)=_
    rw[aaw (fun h=>h0 h.symm),cond_false];rfl
   rw[h2]
   unfold zI
   by_cases h3:m<10000000
   ·have a1:Nat.blt m 10000000=true:=by simp[Nat.blt];omega
    have a2:Nat.ble 10000000 m=false:=by
     cases hh:Nat.ble 10000000 m with
     |false=>rfl
     |true=>have:=Nat.le_of_ble_eq_true hh;omega
    rw[a1,a2,Bool.false_and,cond_true,cond_false];rfl
   ·have a1:Nat.blt m 10000000=false:=by
     cases hh:Nat.blt m 10000000 with
     |false=>rfl
     |true=>simp[Nat.blt]at hh;omega
    have a2:Nat.ble 10000000 m=true:=Nat.ble_eq_true_of_le (by omega)
    have e:(row::(List.range n).map F).getD (m-10000000) .dead=.dead:=by
     rw[List.getD_eq_getElem?_getD,List.getElem?_eq_none (by rw[List.length_cons,List.length_map,List.length_range];omega),Option.getD_none]
    rw[a1,a2,Bool.true_and,cond_false,e]
theorem acn{cl:Bool}{post:AV→List Ob→List Ob→Prop}{l:List AV}{e:Nat→AV}{h:Nat→Ob}{nn:Nat}(row:Ob)(n:Nat)(F:Nat→Ob)(l':List AV)(hnn:nn=n+1)(hn:n<9000000)
  (hl:alm id (nmF [10000000] 10000001 n) l' l) (hrow:row.ren id=h 10000000∧row.men (nmF [10000000] 10000001 n)∧row.isOwn)
  (hF:∀j,j<n→(F j).ren id=h (10000001+j)∧(F j).men (nmF [10000000] 10000001 n)∧(F j).isOwn)
  (hcl:cl=true→row.plain∧(∀j,j<n→(F j).plain)∧(zb l').pu) (hp:post (zb l') [] (row::(List.range n).map F)):@aeI N cl nn ⟨post⟩ ⟨e⟩ l h:=by
 have hchp:=(abw (row:=row) (F:=F) hn).symm
 obtain⟨hll,hlg⟩:=XX hl
 have hE:Jq id (ZB N e l) (nmF [10000000] 10000001 n) (zX N l'):=by
  have key:∀(l':List AV) (k:Nat),(∀i,i<l'.length→(l'.getD i .un).ren id=ZB N e l (N+(k+i))∧(l'.getD i .un).All (nmF [10000000] 10000001 n))→Jq id (ZB N e l) (nmF [10000000] 10000001 n) (zX (N+k) l'):=by
   intro l'
   induction l' with
   |nil=>intro k _;trivial
   |cons v r ih=>
    intro k hk
    refine⟨hk 0 (by simp),ih (k+1) fun i hi=>?_⟩
    have:=hk (i+1) (by simpa using hi)
    rw[show k+1+i=k+(i+1) by omega];exact this
  refine key l' 0 fun i hi=>?_
  have h1:=hlg i (by omega)
  refine⟨?_,h1.2⟩
  rw[h1.1]
  unfold ZB
  have:Nat.blt (N+(0+i)) N=false:=by
   cases h:Nat.blt (N+(0+i)) N with
   |false=>rfl
   |true=>simp[Nat.blt]at h;omega
  rw[this,cond_false,show N+(0+i)-N=i by omega]
 have hle:Le ⟨ZB N e l,h⟩ ⟨ofL .un (zX N l'),fam 10000001 n F (ofH [(10000000,row)])⟩:=
  Le.famL id _ [(10000000,row)] 10000001 n F rfl (fun q hq=>by rw[List.mem_singleton.1 hq];exact .inl (by show 10000000<10000001;omega)) hE ⟨hrow,trivial⟩ hF
   (fun m hm=>⟨fun h=>rfl,fun h=>h⟩) (fun m m' hm hm' h=>h)
 have hne:∀m,nmF [10000000] 10000001 n m→rhp [] (row::(List.range n).map F) m≠ .free:=fun m hm=>by
  unfold rhp
  rcases hm with hm|hm
  ·rcases hm with rfl|hm
   ·rw[if_pos (by omega)];exact zD hrow.2.2
   ·exact hm.elim
  ·rw[if_pos (by omega),show m-10000000=(m-10000001)+1 by omega,List.getD_cons_succ,List.getD_eq_getElem?_getD,List.getElem?_map,List.getElem?_range (by omega)]
   exact zD (hF (m-10000001) (by omega)).2.2
 have hmem:∀ob∈(row::(List.range n).map F),ob=row∨∃j,j<n∧ob=F j:=fun ob ho=>by
  rcases List.mem_cons.1 ho with rfl|ho
  ·exact .inl rfl
  ·obtain⟨j,hj,rfl⟩:=List.mem_map.1 ho
   exact .inr ⟨j,List.mem_range.1 hj,rfl⟩
 refine⟨_,[],row::(List.range n).map F,l',hle,hchp,by simp,by simp[hnn],fun ob ho=>?_,fun ob ho=>?_,fun hc ob ho=>(by cases ho),fun hc ob ho=>?_,hll,fun i hi=>?_,fun hc=>(hcl hc).2.2,?_,hp⟩
 ·rcases hmem ob ho with rfl|⟨j,hj,rfl⟩
  ·exact hrow.2.2
  ·exact(hF j hj).2.2
 ·rw[List.nil_append]at ho
  rcases hmem ob ho with rfl|⟨j,hj,rfl⟩
  ·exact hrow.2.1.mono hne
  ·exact(hF j hj).2.1.mono hne
 ·rcases hmem ob ho with rfl|⟨j,hj,rfl⟩
  ·exact(hcl hc).1
  ·exact(hcl hc).2.1 j hj
 ·show ofL .un (zX N l') (N+i)=_
  rw[yv,if_pos (by omega),show N+i-N=i by omega]
 ·have:AllL (nmF [10000000] 10000001 n) l':=AllL.of_get fun i hi=>by
   have:=(hlg i (by omega)).2
   rwa[List.getD_eq_getElem?_getD,List.getElem?_eq_getElem hi]at this
  unfold zb
  split
  ·exact(this.get 0 (by simp)).mono hne
  ·simp only[AV.All];exact this.mono hne
end
end Go.Ab
namespace Go.Ab
open Go Go.Proofs
/-! ### A row of numbers,each with limbs of its own-/
def dcs(b:Nat)(p:Nat×DyV):List AV:=[.v (.bool p.2.s),.rf (b+p.1) 0 p.2.xs.length,.v (.int .i64 p.2.e)]
theorem aAe(b:Nat)(p:Nat×DyV):(dcs b p).length=3:=rfl
def prs(l:List DyV)(i:Nat):List (Nat×DyV):=(List.range i).map fun j=>(j,l.getD j dy0)
theorem af4{l:List DyV}{i:Nat}:(prs l i).length=i:=by simp[prs]
theorem akv{l:List DyV}{i:Nat}:prs l (i+1)=prs l i++[(i,l.getD i dy0)]:=by simp[prs,List.range_succ]
theorem JK{l:List DyV}{i:Nat}{p:Nat×DyV}(h:p∈prs l i):p.1<i:=by
 obtain⟨j,hj,rfl⟩:=List.mem_map.1 h
 exact List.mem_range.1 hj
def agC(l:List DyV)(j:Nat):Ob:=.own 1 (qg (l.getD j dy0).xs)
theorem yk{a b:Nat}{ρ:Nat→Nat}:∀{L:List (Nat×DyV)},(∀p∈L,ρ (a+p.1)=b+p.1)→ze ρ (qk (dcs a) L)=qk (dcs b) L
 | [],_=>rfl
 |p::L,h=>by
  rw[qT,qT,Qj,yk fun q hq=>h q (List.mem_cons_of_mem _ hq)]
  congr 1
  show [_,AV.rf (ρ (a+p.1)) 0 _,_]=_
  rw[h p (List.mem_cons_self ..)];rfl
theorem ahx{b:Nat}{ρ:Nat→Nat}{L:List (Nat×DyV)}(h:∀p∈L,ρ (b+p.1)=b+p.1):ze ρ (qk (dcs b) L)=qk (dcs b) L:=yk h
theorem zB{b:Nat}{q:Nat→Prop}:∀{L:List (Nat×DyV)},(∀p∈L,q (b+p.1))→AllL q (qk (dcs b) L)
 | [],_=>trivial
 |p::L,h=>by
  rw[qT]
  have:=zB fun r hr=>h r (List.mem_cons_of_mem p hr)
  exact⟨trivial,h p (List.mem_cons_self ..),trivial,this⟩
theorem aku{l:List DyV}:prs l 0=[]:=rfl
theorem zT(l:List DyV)(j:Nat):aap (agC l j):=⟨trivial,fun ρ=>by show Ob.own 1 (ze ρ (qg _))=_;rw[yf];rfl,fun p=>by show AllL p (qg _);exact Qo⟩
theorem ahz{b:Nat}{L:List (Nat×DyV)}:(qk (dcs b) L).length=L.length*3:=jN (aAe b)
theorem al7{b:Nat}{L:List (Nat×DyV)}{k j:Nat}{d:DyV}{c:Nat}:wr (qk (dcs b) L++zA (k+1) z3) (L.length*3) [.v (.bool d.s),.rf c 0 d.xs.length,.v (.int .i64 d.e)]=qk (dcs b) L++([.v (.bool d.s),.rf c 0 d.xs.length,.v (.int .i64 d.e)]++zA k z3):=by
 have h:=abW (X:=List AV) (f:=fun x=>x.take 3++List.replicate (3-x.length) .un) (z:=3) (zs:=z3) (fun x=>by rw[List.length_append,List.length_take,List.length_replicate];omega) rfl (L:=L.map (dcs b)) (k:=k) [.v (.bool d.s),.rf c 0 d.xs.length,.v (.int .i64 d.e)]
 have e:qk (fun x:List AV=>x.take 3++List.replicate (3-x.length) .un) (L.map (dcs b))=qk (dcs b) L:=by
  unfold qk
  rw[List.map_map];rfl
 have e2:qk (fun x:List AV=>x.take 3++List.replicate (3-x.length) .un) (L.map (dcs b)++[[.v (.bool d.s),.rf c 0 d.xs.length,.v (.int .i64 d.e)]])=qk (dcs b) L++[.v (.bool d.s),.rf c 0 d.xs.length,.v (.int .i64 d.e)]:=by
  unfold qk
  rw[List.map_append,List.flatten_append,List.map_map];rfl
 rw[e,e2,List.length_map,List.append_assoc]at h
 exact h
set_option maxRecDepth 100000 in
theorem ad2(l:List DyV)(hl:l.length≤1048576)(hx:∀d∈l,d.xs.length≤1048576):Con Tryz.prog 50 false [.sl l.length (qk DyV.cs l)] []
  (fun r hs bs=>r=.rf 0 0 l.length∧hs=.own 3 (qk (dcs 1) (prs l l.length))::(List.range l.length).map (agC l)):=by
 refine Con.of_w (rs:=[.tmp 2]) Tryz.func50 rfl Tryz.ntmps50 rfl ?_
 simp(disch:=omega)only[go_sem]
 refine⟨⟨by omega,by omega,by omega⟩,?_⟩
 refine QK (S:=fun i:Nat=>⟨ofL .un [(0,.sl l.length (qk DyV.cs l)),(3,.rf 90000000 0 l.length),(4,.v (.int .i64 i))],fam 500000000 i (agC l) (ofH [(90000000,.own 3 (qk (dcs 500000000) (prs l i)++zA (l.length-i) z3))])⟩) (fun i=>i≤l.length) (fun i=>l.length-i) 0 (by omega)
  (Le.fam0 _ _ _ _ (Le.lst [] _ _ rfl (by simp(disch:=omega)only[go_sem]) (by simp(disch:=omega)only[go_sem,aku,yt,List.nil_append,Nat.sub_zero];try rfl))) ?_
 intro i hi
 show @W Tryz.prog 23 ⟨_⟩ ⟨_⟩ (ofL .un _) (fam 500000000 i (agC l) (ofH _))
 simp(disch:=omega)only[go_sem]
 refine qh (fun c1=>?_) (fun c1=>?_)
 ·have hi2:i<l.length:=by omega
  have hcut:=ahp (l:=l) (i:=i) hi2
  have hdm:(l.getD i dy0).xs.length≤1048576:=hx _ (by rw[List.getD_eq_getElem?_getD,List.getElem?_eq_getElem hi2];exact List.getElem_mem _)
  obtain⟨k,hk⟩:∃k,l.length-i=k+1:=⟨l.length-i-1,by omega⟩
  have hfill:=@al7 500000000 (prs l i) k i (l.getD i dy0) 220000000
  rw[af4]at hfill
  have hps:=@akv l i
  have hLi:agC l i=.own 1 (qg (l.getD i dy0).xs):=rfl
  generalize l.getD i dy0=d at*
  rw[hk]
  simp(disch:=omega)only[go_sem,c1,hcut,qp]
  refine⟨by omega,by omega,?_⟩
  refine qz (ahD d.s d.xs d.e (by omega)) (by simp(disch:=omega)only[go_sem]) ?_
  rintro r hs ⟨rfl,rfl⟩
  refine⟨by simp[qB];simp(disch:=omega)only[go_sem,qp],?_⟩
  simp(disch:=omega)only[go_sem,qp,hfill]
  have hrow:ze (X4 500000000 i 220000000) (qk (dcs 500000000) (prs l (i+1))++zA k z3)=qk (dcs 500000000) (prs l i)++ .v (.bool d.s):: .rf 220000000 0 d.xs.length:: .v (.int .i64 d.e)::zA k z3:=by
   rw[hps,←yU,List.append_assoc,Qj,ahx (fun p hp=>Q7 (by have:=JK hp;omega)),Qj]
   show _++([_,AV.rf (X4 500000000 i 220000000 (500000000+i)) 0 _,_]++ze _ (zA k z3))=_
   rw[yZ,aeN]
   rfl
  have hall:AllL (nmF [90000000] 500000000 (i+1)) (qk (dcs 500000000) (prs l (i+1))++zA k z3):=by
   rw[acK]
   exact⟨zB fun p hp=>.inr (by have:=JK hp;omega),of_eq_true aeO⟩
  have r9:X4 500000000 i 220000000 90000000=90000000:=Q7 (by omega)
  refine⟨⟨by omega,by omega⟩,by rw[List.length_append,ahz,af4,ZV];omega,QI (i+1) (by show i+1≤_;omega) (by show l.length-(i+1)<k+1;omega) (Le.grow 220000000 _ _ 500000000 i (agC l) (by omega) (zT l) (fun j hj=>?_) ?_ (by omega) (by simp) rfl (by simp) (by simp(disch:=omega)only[go_sem,Jq,r9,nmF,jv];try omega) ?_)⟩
  ·show upd (upd (fam _ _ _ _) _ _) _ _ _=_
   rw[qi (by omega),qi (by omega),qS hj]
  ·dsimp only
   rw[qi (by omega),qn]
   exact hLi.symm
  ·refine⟨⟨?_,?_,trivial⟩,trivial⟩
   ·rw[r9,show l.length-(i+1)=k by omega]
    dsimp only
    rw[qn]
    exact congrArg (Ob.own 3) hrow
   ·rw[show l.length-(i+1)=k by omega]
    exact hall
 ·simp(disch:=omega)only[go_sem,c1]
  obtain rfl:i=l.length:=by omega
  rw[Nat.sub_self]
  refine J3 (fun m=>if m=0 then 90000000 else 500000000+(m-1)) (.own 3 (qk (dcs 1) (prs l l.length))) l.length (agC l) [.rf 0 0 l.length] (by omega) (by simp(disch:=omega)only[go_sem,alm,nmF,jv];try simp) ⟨?_,?_,trivial⟩ (fun j hj=>⟨?_,(zT l j).2.2 _,(zT l j).1⟩) (fun m hm=>?_) (fun m m' hm hm' e=>?_) (by simp) ⟨rfl,rfl⟩
  ·show Ob.own 3 (ze _ (qk (dcs 1) (prs l l.length)))=fam 500000000 l.length (agC l) (ofH [(90000000,.own 3 (qk (dcs 500000000) (prs l l.length)++zA 0 z3))]) 90000000
   rw[yk (a:=1) (b:=500000000) (fun p hp=>by rw[if_neg (by omega)];omega),qp (by omega),YT,List.append_nil]
   rfl
  ·exact zB fun p hp=>.inr (by have:=JK hp;omega)
  ·rw[(zT l j).2.1]
   show _=fam _ _ _ _ (if 1+j=0 then 90000000 else 500000000+(1+j-1))
   rw[if_neg (by omega),show 1+j-1=j by omega,qS hj]
  ·have g:∀x:Nat,20000000≤x→zI x=false:=fun x hx=>by
    unfold zI
    have:Nat.blt x 20000000=false:=by
     cases h:Nat.blt x 20000000 with
     |false=>rfl
     |true=>simp[Nat.blt]at h;omega
    rw[this,Bool.and_false]
   exact g _ (by split<;>omega)
  ·have e:(if m=0 then 90000000 else 500000000+(m-1))=(if m'=0 then 90000000 else 500000000+(m'-1)):=e
   split at e<;>split at e<;>omega
end Go.Ab
namespace Go.Ab
open Go Go.Proofs
theorem ahN(cl:Bool)(A B:List Int)(hA:gd A)(hB:gd B)(lA:A.length≤1000000)(lB:B.length≤A.length)(hle:vl B≤vl A):
  Con Tryz.prog 274 cl [.sl A.length (qg A),.sl B.length (qg B)] [] (agb (lim (vl A-vl B).toNat)):=by
 refine Con.of_aw Tryz.func274 rfl Tryz.ntmps274 (by simp) (by simp) (by simp) (W.sound ?_)
 show @W Tryz.prog 43 ⟨_⟩ ⟨fun x σ=>@q8 _ _ _ ⟨_⟩ _ ⟨_⟩ x σ⟩ _ _
 simp(disch:=omega)only[go_sem]
 refine⟨by omega,?_⟩
 refine qj (fun x:Nat×List Int×Int=>[(1,.sl B.length (qg B)),(5,.rf 1 0 x.2.1.length),(6,.v (.int .i64 x.2.2)),(12,.sl A.length (qg A)),(13,.v (.int .i64 A.length)),(14,.v (.int .i64 x.1))])
  (fun x=>[(1,.own 1 (qg x.2.1))])
  (fun x=>x.1≤A.length∧x.2.1.length=x.1∧gd x.2.1∧(0≤x.2.2∧x.2.2≤1)∧vl x.2.1-65536^x.1*x.2.2=vl (A.take x.1)-vl (B.take x.1))
  (fun x=>A.length-x.1) (0,[],0) ⟨by simp,rfl,JZ,by simp,by simp[vl]⟩
  (Le.lst [(1,130000000)] _ _ rfl (by simp(disch:=omega)only[go_sem]) (by simp(disch:=omega)only[go_sem])) ?_
 rintro⟨i,out,bo⟩ ⟨hi,hol,hog,hbo,hov⟩
 dsimp only at hi hol hog hbo hov ⊢
 simp(disch:=omega)only[go_sem]
 refine qh (fun h1=>?_) (fun h1=>?_)
 ·have hx:=qL hA i
  have hy:=qL hB i
  have hstep:∀z b:Int,A.getD i 0-bo-B.getD i 0=z-65536*b→vl (out++[z])-65536^(i+1)*b=vl (A.take (i+1))-vl (B.take (i+1)):=by
   intro z b hz
   rw[jL,qX,qX,hol,Int.pow_succ]
   generalize (65536:Int)^i=Pi at*
   grind
  have hyz:¬i<B.length→B.getD i 0=0:=fun h=>by rw[List.getD_eq_getElem?_getD,List.getElem?_eq_none (by omega)];rfl
  simp(disch:=omega)only[go_sem,h1]
  refine⟨by omega,by omega,qh (fun h2=>?_) (fun h2=>?_)⟩
  ·simp(disch:=omega)only[go_sem,h2]
   refine⟨by omega,by omega,qh (fun h3=>?_) (fun h3=>?_)⟩
   ·simp(disch:=omega)only[go_sem,h3]
    refine⟨by omega,qe (i+1,out++[A.getD i 0-bo-B.getD i 0+65536],1) [(1,410000000)] ⟨by show i+1≤_;omega,by simp[hol],qM.2 ⟨hog,jf.2 (by omega)⟩,by simp,hstep (A.getD i 0-bo-B.getD i 0+65536) 1 (by omega)⟩ (by show A.length-(i+1)<A.length-i;omega) rfl (by simp(disch:=omega)only[go_sem,List.length_append];try omega) (by simp(disch:=omega)only[go_sem])⟩
   ·simp(disch:=omega)only[go_sem,h3]
    refine⟨by omega,qe (i+1,out++[A.getD i 0-bo-B.getD i 0],0) [(1,410000000)] ⟨by show i+1≤_;omega,by simp[hol],qM.2 ⟨hog,jf.2 (by omega)⟩,by simp,hstep (A.getD i 0-bo-B.getD i 0) 0 (by omega)⟩ (by show A.length-(i+1)<A.length-i;omega) rfl (by simp(disch:=omega)only[go_sem,List.length_append];try omega) (by simp(disch:=omega)only[go_sem])⟩
  ·simp(disch:=omega)only[go_sem,h2]
   refine qh (fun h3=>?_) (fun h3=>?_)
   ·simp(disch:=omega)only[go_sem,h3]
    have hy0:=hyz (by omega)
    refine⟨by omega,qe (i+1,out++[A.getD i 0-bo+65536],1) [(1,410000000)] ⟨by show i+1≤_;omega,by simp[hol],qM.2 ⟨hog,jf.2 (by omega)⟩,by simp,hstep (A.getD i 0-bo+65536) 1 (by omega)⟩ (by show A.length-(i+1)<A.length-i;omega) rfl (by simp(disch:=omega)only[go_sem,List.length_append];try omega) (by simp(disch:=omega)only[go_sem])⟩
   ·simp(disch:=omega)only[go_sem,h3]
    have hy0:=hyz (by omega)
    refine⟨by omega,qe (i+1,out++[A.getD i 0-bo],0) [(1,410000000)] ⟨by show i+1≤_;omega,by simp[hol],qM.2 ⟨hog,jf.2 (by omega)⟩,by simp,hstep (A.getD i 0-bo) 0 (by omega)⟩ (by show A.length-(i+1)<A.length-i;omega) rfl (by simp(disch:=omega)only[go_sem,List.length_append];try omega) (by simp(disch:=omega)only[go_sem])⟩
 ·simp(disch:=omega)only[go_sem,h1]
  have hiA:i=A.length:=by omega
  subst hiA
  rw[List.take_length,List.take_of_length_le lB]at hov
  have hb0:bo=0:=by
   have h2:=Jc hog
   rw[hol]at h2
   rcases(by omega:bo=0∨bo=1)with h|h
   ·exact h
   ·subst h;omega
  subst hb0
  have hov2:vl out=vl A-vl B:=by omega
  refine zf false [1] (jE out (by omega)) (by simp(disch:=omega)only[go_sem]) (by simp(disch:=omega)only[go_sem]) rfl (qZ (z:=1) (cs:=qg out) (by simp(disch:=omega)only[go_sem]) (by simp(disch:=omega)only[go_sem])) (by intro n hn;exact⟨_,List.mem_singleton.2 rfl,by rw[List.mem_singleton.1 hn];rfl⟩) ?_
  rintro r hs bs ⟨rfl,rfl,rfl⟩ _
  refine⟨by simp[qB],?_⟩
  simp(disch:=omega)only[go_sem]
  obtain⟨z,hz⟩:=zV out
  have hc:=jk hog
  rw[hov2]at hc
  rw[hc]at hz ⊢
  refine ql [(0,1)] [.own 1 (qg out)] [] [.rf 0 0 (lim (vl A-vl B).toNat).length] rfl (by simp(disch:=omega)only[go_sem]) (by simp(disch:=omega)only[go_sem]) (by simp) (by intro _;simp[zb,AV.pu,AV.pu.puL,Ob.pu,qQ]) (.inr ⟨List.replicate z 0,rfl,by rw[←hz]⟩)
end Go.Ab
namespace Go.Ab
open Go Go.Proofs
theorem Xj(a b:Nat)(h:b≤a)(la:(lim a).length≤1000000):Con Tryz.prog 274 false [.sl (lim (a)).length (qg (lim (a))),.sl (lim (b)).length (qg (lim (b)))] [] (apS (lim (a-b))):=by
 have:=(ahN false (lim a) (lim b) (q5 a) (q5 b) la (yy h) (by rw[qY,qY];omega)).num
 rwa[anS]at this
theorem Vh(s1:Bool)(m1:Nat)(s2:Bool)(m2:Nat)(l1:(lim m1).length≤1000000)(l2:(lim m2).length≤1000000):
  Con Tryz.prog 225 false [.v (.bool s1),.sl (lim (m1)).length (qg (lim (m1))),.v (.bool s2),.sl (lim (m2)).length (qg (lim (m2)))] [] (isA (.tu [.v (.bool (sgS s1 m1 s2 m2)),.sl (lim (suM s1 m1 s2 m2)).length (qg (lim (suM s1 m1 s2 m2)))])):=by
 refine Con.frzA ?_
 have hge:(0≤zF (m1:Int) (m2:Int))↔m2≤m1:=by rw[abv.2.2];omega
 refine Con.of_aw Tryz.func225 rfl Tryz.ntmps225 (by simp) (by simp) (by simp) (W.sound ?_)
 show @W Tryz.prog 31 ⟨_⟩ ⟨fun x σ=>@q8 _ _ _ ⟨_⟩ _ ⟨_⟩ x σ⟩ _ _
 simp(disch:=omega)only[go_sem]
 refine QA (fun h1=>?_) (fun h1=>?_)
 ·have h1':s1=s2:=by simpa using h1
  simp(disch:=omega)only[go_sem,h1]
  subst h1'
  refine qa (Kv m1 m2 (by omega) (by omega)) ?_
  simp(disch:=omega)only[go_sem]
  refine qW (by simp(disch:=omega)only[go_sem]) ?_
  show qE _ 6 _=_
  rw[abT,abR]
  simp(disch:=omega)only[go_sem]
 ·have h1':s1≠s2:=by simpa using h1
  simp(disch:=omega)only[go_sem,h1]
  refine qm (jT m1 m2 (by omega) (by omega)) ?_
  simp(disch:=omega)only[go_sem]
  refine qh (fun h2=>?_) (fun h2=>?_)
  ·have h2':m2≤m1:=hge.1 (by omega)
   simp(disch:=omega)only[go_sem,h2]
   refine qa (Xj m1 m2 h2' (by omega)) ?_
   simp(disch:=omega)only[go_sem]
   refine qW (by simp(disch:=omega)only[go_sem]) ?_
   show qE _ 6 _=_
   rw[anc h1' h2',am6 h1' h2']
   simp(disch:=omega)only[go_sem]
  ·have h2':¬m2≤m1:=fun h=>h2 (by have:=hge.2 h;omega)
   simp(disch:=omega)only[go_sem,h2]
   refine qa (Xj m2 m1 (by omega) (by omega)) ?_
   simp(disch:=omega)only[go_sem]
   refine qW (by simp(disch:=omega)only[go_sem]) ?_
   show qE _ 6 _=_
   rw[anb h1' h2',am5 h1' h2']
   simp(disch:=omega)only[go_sem]
theorem Ys(s1:Bool)(m1:Nat)(e1:Int)(s2:Bool)(m2:Nat)(e2:Int)(h1:bl m1≤4000000)(h2:bl m2≤4000000)(he1: -1000000≤e1∧e1≤1000000)(he2: -1000000≤e2∧e2≤1000000):
  Con Tryz.prog 191 false [.ag [.v (.bool (s1)),.sl (lim (m1)).length (qg (lim (m1))),.v (.int .i64 (e1))],.ag [.v (.bool (s2)),.sl (lim (m2)).length (qg (lim (m2))),.v (.int .i64 (e2))]] [] (isA (.tu [.sl (lim (alA m1 e1 (alE m1 e1 m2 e2))).length (qg (lim (alA m1 e1 (alE m1 e1 m2 e2)))),.sl (lim (alA m2 e2 (alE m1 e1 m2 e2))).length (qg (lim (alA m2 e2 (alE m1 e1 m2 e2)))),.v (.int .i64 (alE m1 e1 m2 e2))])):=by
 refine Con.frzA ?_
 have l1:=qx h1
 have l2:=qx h2
 have hE:=Zi (m1:=m1) (m2:=m2) he1.1 he2.1
 have hE2:=anK (m1:=m1) (m2:=m2) he1.2 he2.2
 have x1:∀d:Int,(if 0>d then 0 else d)=((d.toNat:Nat):Int):=fun d=>by split<;>omega
 refine Con.of_aw Tryz.func191 rfl Tryz.ntmps191 (by simp) (by simp) (by simp) (W.sound ?_)
 show @W Tryz.prog 42 ⟨_⟩ ⟨fun x σ=>@q8 _ _ _ ⟨_⟩ _ ⟨_⟩ x σ⟩ _ _
 simp(disch:=omega)only[go_sem]
 refine qh (fun c1=>?_) (fun c1=>?_)
 ·have z1:m1=0:=qJ.1 (List.length_eq_zero_iff.1 (by omega))
  simp(disch:=omega)only[go_sem,c1]
  refine qh (fun c2=>?_) (fun c2=>?_)
  ·have z2:m2=0:=qJ.1 (List.length_eq_zero_iff.1 (by omega))
   have eE:alE m1 e1 m2 e2=e1:=by unfold alE;rw[if_pos z2]
   simp(disch:=omega)only[go_sem,c2]
   refine qs rfl [⟨0,[],[]⟩,⟨1,[],[]⟩,⟨2,[1],[]⟩,⟨3,[1],[]⟩,⟨4,[1,3],[]⟩,⟨5,[1],[]⟩,⟨6,[1],[]⟩,⟨8,[1,3],[]⟩,⟨9,[1,3],[]⟩,⟨10,[1,3,9],[]⟩,⟨11,[1,3,9],[]⟩,⟨12,[1,3,9,11],[]⟩,⟨13,[1,3,9],[]⟩,⟨14,[1,3,9],[]⟩,⟨16,[1,3,9,11],[]⟩,⟨7,[9,11],[]⟩,⟨15,[],[]⟩,⟨17,[],[]⟩,⟨18,[],[]⟩,⟨19,[],[]⟩] (by kernel_rfl) ?_
   simp(disch:=omega)only[go_sem,x1]
   refine qa (jy m1 (e1-e1).toNat (by omega) (by omega)) ?_ (by simp(disch:=omega)only[go_sem,x1])
   simp(disch:=omega)only[go_sem]
   refine qa (jy m2 (e2-e1).toNat (by omega) (by omega)) ?_ (by simp(disch:=omega)only[go_sem,x1])
   simp(disch:=omega)only[go_sem]
   refine qW (by simp(disch:=omega)only[go_sem]) ?_
   show qE _ 6 _=_
   rw[eE];unfold alA
   simp(disch:=omega)only[go_sem]
  ·have z2:m2≠0:=fun e=>c2 (by rw[e,qt];rfl)
   have eE:alE m1 e1 m2 e2=e2:=by unfold alE;rw[if_neg z2,if_pos z1]
   simp(disch:=omega)only[go_sem,c2]
   refine qs rfl [⟨0,[],[]⟩,⟨1,[],[]⟩,⟨2,[1],[]⟩,⟨3,[1],[]⟩,⟨4,[1,3],[]⟩,⟨5,[1],[]⟩,⟨6,[1],[]⟩,⟨8,[1,3],[]⟩,⟨9,[1,3],[]⟩,⟨10,[1,3,9],[]⟩,⟨11,[1,3,9],[]⟩,⟨12,[1,3,9,11],[]⟩,⟨13,[1,3,9],[]⟩,⟨14,[1,3,9],[]⟩,⟨16,[1,3,9,11],[]⟩,⟨7,[9,11],[]⟩,⟨15,[],[]⟩,⟨17,[],[]⟩,⟨18,[],[]⟩,⟨19,[],[]⟩] (by kernel_rfl) ?_
   simp(disch:=omega)only[go_sem,x1]
   refine qa (jy m1 (e1-e2).toNat (by omega) (by omega)) ?_ (by simp(disch:=omega)only[go_sem,x1])
   simp(disch:=omega)only[go_sem]
   refine qa (jy m2 (e2-e2).toNat (by omega) (by omega)) ?_ (by simp(disch:=omega)only[go_sem,x1])
   simp(disch:=omega)only[go_sem]
   refine qW (by simp(disch:=omega)only[go_sem]) ?_
   show qE _ 6 _=_
   rw[eE];unfold alA
   simp(disch:=omega)only[go_sem]
 ·have z1:m1≠0:=fun e=>c1 (by rw[e,qt];rfl)
  simp(disch:=omega)only[go_sem,c1]
  refine qh (fun c2=>?_) (fun c2=>?_)
  ·have z2:m2=0:=qJ.1 (List.length_eq_zero_iff.1 (by omega))
   have eE:alE m1 e1 m2 e2=e1:=by unfold alE;rw[if_pos z2]
   simp(disch:=omega)only[go_sem,c2]
   refine qs rfl [⟨0,[],[]⟩,⟨1,[],[]⟩,⟨2,[1],[]⟩,⟨3,[1],[]⟩,⟨4,[1,3],[]⟩,⟨5,[1],[]⟩,⟨6,[1],[]⟩,⟨8,[1,3],[]⟩,⟨9,[1,3],[]⟩,⟨10,[1,3,9],[]⟩,⟨11,[1,3,9],[]⟩,⟨12,[1,3,9,11],[]⟩,⟨13,[1,3,9],[]⟩,⟨14,[1,3,9],[]⟩,⟨16,[1,3,9,11],[]⟩,⟨7,[9,11],[]⟩,⟨15,[],[]⟩,⟨17,[],[]⟩,⟨18,[],[]⟩,⟨19,[],[]⟩] (by kernel_rfl) ?_
   simp(disch:=omega)only[go_sem,x1]
   refine qa (jy m1 (e1-e1).toNat (by omega) (by omega)) ?_ (by simp(disch:=omega)only[go_sem,x1])
   simp(disch:=omega)only[go_sem]
   refine qa (jy m2 (e2-e1).toNat (by omega) (by omega)) ?_ (by simp(disch:=omega)only[go_sem,x1])
   simp(disch:=omega)only[go_sem]
   refine qW (by simp(disch:=omega)only[go_sem]) ?_
   show qE _ 6 _=_
   rw[eE];unfold alA
   simp(disch:=omega)only[go_sem]
  ·have z2:m2≠0:=fun e=>c2 (by rw[e,qt];rfl)
   have eE:(if e2<e1 then e2 else e1)=alE m1 e1 m2 e2:=by unfold alE;rw[if_neg z2,if_neg z1]
   simp(disch:=omega)only[go_sem,c2,eE]
   refine qs rfl [⟨0,[],[]⟩,⟨1,[],[]⟩,⟨2,[1],[]⟩,⟨3,[1],[]⟩,⟨4,[1,3],[]⟩,⟨5,[1],[]⟩,⟨6,[1],[]⟩,⟨8,[1,3],[]⟩,⟨9,[1,3],[]⟩,⟨10,[1,3,9],[]⟩,⟨11,[1,3,9],[]⟩,⟨12,[1,3,9,11],[]⟩,⟨13,[1,3,9],[]⟩,⟨14,[1,3,9],[]⟩,⟨16,[1,3,9,11],[]⟩,⟨7,[9,11],[]⟩,⟨15,[],[]⟩,⟨17,[],[]⟩,⟨18,[],[]⟩,⟨19,[],[]⟩] (by kernel_rfl) ?_
   simp(disch:=omega)only[go_sem,x1,eE]
   refine qa (jy m1 (e1-alE m1 e1 m2 e2).toNat (by omega) (by omega)) ?_ (by simp(disch:=omega)only[go_sem,x1,eE])
   simp(disch:=omega)only[go_sem]
   refine qa (jy m2 (e2-alE m1 e1 m2 e2).toNat (by omega) (by omega)) ?_ (by simp(disch:=omega)only[go_sem,x1,eE])
   simp(disch:=omega)only[go_sem]
   refine qW (by simp(disch:=omega)only[go_sem]) ?_
   show qE _ 6 _=_
   unfold alA
   simp(disch:=omega)only[go_sem]
theorem ahI(s1:Bool)(m1:Nat)(e1:Int)(s2:Bool)(m2:Nat)(e2:Int)(h1:bl m1≤4000000)(h2:bl m2≤4000000)(he1: -1000000≤e1∧e1≤1000000)(he2: -1000000≤e2∧e2≤1000000):
  Con Tryz.prog 153 false [.ag [.v (.bool (s1)),.sl (lim (m1)).length (qg (lim (m1))),.v (.int .i64 (e1))],.ag [.v (.bool (s2)),.sl (lim (m2)).length (qg (lim (m2))),.v (.int .i64 (e2))]] [] (isA (.ag [.v (.bool (adS s1 m1 e1 s2 m2 e2)),.sl (lim (adM s1 m1 e1 s2 m2 e2)).length (qg (lim (adM s1 m1 e1 s2 m2 e2))),.v (.int .i64 (alE m1 e1 m2 e2))])):=by
 refine Con.frzA ?_
 have hE:=Zi (m1:=m1) (m2:=m2) he1.1 he2.1
 have b1:=Ja (e:=e1) (E:=alE m1 e1 m2 e2) (C:=2000000) h1 (by omega)
 have b2:=Ja (e:=e2) (E:=alE m1 e1 m2 e2) (C:=2000000) h2 (by omega)
 have l1:=qx b1
 have l2:=qx b2
 refine Con.of_w (rs:=[.cell 4 97]) Tryz.func153 rfl Tryz.ntmps153 rfl ?_
 simp(disch:=omega)only[go_sem]
 refine qa (Ys s1 m1 e1 s2 m2 e2 h1 h2 he1 he2) ?_
 simp(disch:=omega)only[go_sem]
 unfold adS adM
 generalize alA m1 e1 (alE m1 e1 m2 e2)=A at*
 generalize alA m2 e2 (alE m1 e1 m2 e2)=B at*
 generalize alE m1 e1 m2 e2=E at*
 refine qa (Vh s1 A s2 B (by omega) (by omega)) ?_
 simp(disch:=omega)only[go_sem]
 have hb:=acH (s1:=s1) (s2:=s2) b1 b2
 have hl:(lim (suM s1 A s2 B)).length≤2000000:=by have:=qx hb;omega
 have hq:decide ((0:Int)<((lim (suM s1 A s2 B)).length:Int))=decide (suM s1 A s2 B≠0):=by
  rw[decide_eq_decide]
  exact⟨fun h e=>by rw[e,qt]at h;simp at h,fun h=>by have:=yg h;omega⟩
 rw[←afJ]
 refine QA (fun h3=>?_) (fun h3=>?_)
 ·simp(disch:=omega)only[go_sem,h3,hq]
  exact qo (hp:=by simp(disch:=omega)only[go_sem,h3,Bool.true_and])
 ·simp(disch:=omega)only[go_sem,h3]
  exact qo (hp:=by simp(disch:=omega)only[go_sem,h3,Bool.false_and])
end Go.Ab
namespace Go.Ab
open Go Go.Proofs
end Go.Ab
namespace Go.Ab
open Go Go.Proofs
def muS(k1:Int)(s1:Bool)(m1:Int)(k2:Int)(s2:Bool)(m2:Int):Bool:=((s1&&decide (k1=1)) != (s2&&decide (k2=1)))&&decide (m1.toNat*m2.toNat≠0)
def aCe(k1:Int)(s1:Bool)(m1 e1 k2:Int)(s2:Bool)(m2 e2 mode:Int):FlV:=
 if(decide (k1=3)||decide (k2=3))=true then⟨3,false,0,0⟩
 else if(decide (k1=2)||decide (k2=2))=true then(if(decide (k1=0)||decide (k2=0))=true then⟨3,false,0,0⟩else⟨2,s1 != s2,0,0⟩)
 else flV (muS k1 s1 m1 k2 s2 m2) (m1.toNat*m2.toNat) (e1+e2) mode (s1 != s2)
def aCf(k1:Int)(s1:Bool)(m1 e1 k2:Int)(s2:Bool)(m2 e2 mode:Int):Int:=
 if(decide (k1=3)||decide (k2=3))=true then 0
 else if(decide (k1=2)||decide (k2=2))=true then(if(decide (k1=0)||decide (k2=0))=true then 16 else 0)
 else flG (muS k1 s1 m1 k2 s2 m2) (m1.toNat*m2.toNat) (e1+e2) mode
end Go.Ab
namespace Go.Ab
open Go Go.Proofs
section
variable {k1:Int}{s1:Bool}{m1 e1 k2:Int}{s2:Bool}{m2 e2 mode:Int}
end
end Go.Ab
namespace Go.Ab
open Go Go.Proofs
def jW(m:Nat):Bool:=decide ((lim m).length≤100)
def Km(m:Nat)(e:Int):Bool:=jW (oM m)&&(decide (-3000≤oE m e)&&decide (oE m e≤3000))
theorem ahL(m:Nat)(hl:(lim m).length≤2^40):Con Tryz.prog 263 false [.sl (lim (m)).length (qg (lim (m)))] [] (isA (if jW m=true then .tu [.ag [.sl (lim (m)).length (qg (lim (m)))],.v (.bool true)]else .tu [.ag [.sl (lim (0)).length (qg (lim (0)))],.v (.bool false)])):=by
 refine Con.frzA ?_
 refine Con.of_w (rs:=[.cell 2 40,.tmp 3]) Tryz.func263 rfl Tryz.ntmps263 rfl ?_
 simp(disch:=omega)only[go_sem]
 refine qh (fun c1=>?_) (fun c1=>?_)
 ·have hf:jW m=false:=by unfold jW;simp;omega
  simp(disch:=omega)only[go_sem,c1]
  rw[hf,if_neg (by simp),qt]
  exact qo
 ·have hf:jW m=true:=by unfold jW;simp;omega
  simp(disch:=omega)only[go_sem,c1]
  rw[hf,if_pos rfl]
  refine qa ((KO false (lim m) (by omega)).num) ?_
  simp(disch:=omega)only[go_sem]
  exact qo
theorem aaW(s:Bool)(m:Nat)(hl:(lim m).length≤2^40):Con Tryz.prog 202 false [.v (.bool s),.sl (lim (m)).length (qg (lim (m)))] [] (isA (if jW m=true then .tu [.ag [.v (.bool (s&&decide (m≠0))),.sl (lim (m)).length (qg (lim (m)))],.v (.bool true)]else .tu [.ag [.v (.bool (false)),.sl (lim (0)).length (qg (lim (0)))],.v (.bool false)])):=by
 refine Con.frzA ?_
 have cn:=ahL m hl
 have hq:decide ((0:Int)<((lim m).length:Int))=decide (m≠0):=by
  rw[decide_eq_decide]
  exact⟨fun h e=>by rw[e,qt]at h;simp at h,fun h=>by have:=yg h;omega⟩
 cases hf:jW m
 ·rw[hf,if_neg (by simp)]at cn
  rw[if_neg (by simp),qt]
  refine Con.of_w (rs:=[.cell 4 42,.tmp 5]) Tryz.func202 rfl Tryz.ntmps202 rfl ?_
  simp(disch:=omega)only[go_sem]
  refine qa (cn) ?_
  simp(disch:=omega)only[go_sem]
  exact qo
 ·rw[hf,if_pos rfl]at cn
  rw[if_pos rfl]
  refine Con.of_w (rs:=[.cell 4 42,.tmp 5]) Tryz.func202 rfl Tryz.ntmps202 rfl ?_
  simp(disch:=omega)only[go_sem]
  refine qa (cn) ?_
  simp(disch:=omega)only[go_sem]
  cases s
  ·simp(disch:=omega)only[go_sem]
   exact qo
  ·simp(disch:=omega)only[go_sem,hq]
   exact qo
theorem arJ(s:Bool)(m:Nat)(e:Int)(hm:bl m≤10000000)(he: -2^39≤e∧e≤2^39):Con Tryz.prog 123 false [.ag [.v (.bool (s)),.sl (lim (m)).length (qg (lim (m))),.v (.int .i64 (e))]] [] (isA (if Km m e=true then .tu [.ag [.v (.bool (oS s m)),.sl (lim (oM m)).length (qg (lim (oM m))),.v (.int .i64 (oE m e))],.v (.bool true)]else .tu [.ag [.v (.bool (false)),.sl (lim (0)).length (qg (lim (0))),.v (.int .i64 (0))],.v (.bool false)])):=by
 refine Con.frzA ?_
 have hb:=Nat.le_trans (jh (auD m)) hm
 have hl:=qx hb
 have cw:=aaW (oS s m) (oM m) (by omega)
 have hs:(oS s m&&decide (oM m≠0))=oS s m:=by
  unfold oS
  by_cases h:m=0
  ·rw[if_pos h];rfl
  ·rw[if_neg h,decide_eq_true (show oM m≠0 from fun e=>h (zZ.1 e)),Bool.and_true]
 rw[hs]at cw
 cases hf:jW (oM m)
 ·rw[hf,if_neg (by simp)]at cw
  have hd:Km m e=false:=by unfold Km;rw[hf];rfl
  rw[hd,if_neg (by simp),qt]
  rw[qt]at cw
  refine Con.of_w (rs:=[.cell 2 44,.tmp 3]) Tryz.func123 rfl Tryz.ntmps123 rfl ?_
  simp(disch:=omega)only[go_sem]
  refine qa (aa3 s m e hm (by omega)) ?_
  simp(disch:=omega)only[go_sem]
  refine qa (cw) ?_
  simp(disch:=omega)only[go_sem]
  exact qo
 ·rw[hf,if_pos rfl]at cw
  have hd:Km m e=(decide (-3000≤oE m e)&&decide (oE m e≤3000)):=by unfold Km;rw[hf];rfl
  rw[hd]
  refine Con.of_w (rs:=[.cell 2 44,.tmp 3]) Tryz.func123 rfl Tryz.ntmps123 rfl ?_
  simp(disch:=omega)only[go_sem]
  refine qa (aa3 s m e hm (by omega)) ?_
  simp(disch:=omega)only[go_sem]
  refine qa (cw) ?_
  simp(disch:=omega)only[go_sem]
  refine qm (zw (oE m e) (-3000) 3000) ?_
  simp(disch:=omega)only[go_sem]
  refine aci (fun h=>?_) (fun h=>?_)
  ·simp(disch:=omega)only[go_sem,h]
   rw[h,if_neg (by simp),qt]
   exact qo
  ·simp(disch:=omega)only[go_sem,h]
   rw[h,if_pos rfl]
   exact qo
end Go.Ab
namespace Go.Ab
/-! ### Sums of floats-/
def ngS(k:Int)(s:Bool):Bool:=if k=3 then s else !s
def xS(k:Int)(s:Bool):Bool:=s&&decide (k=1)
def adZ(k1:Int)(s1:Bool)(k2:Int)(s2:Bool)(mode:Int):Bool:=if k1=0∧k2=0∧s1=s2 then s1 else decide (mode=3)
def aB2(k1:Int)(s1:Bool)(m1 e1 k2:Int)(s2:Bool)(m2 e2 mode:Int):FlV:=
 if k1=3∨k2=3 then⟨3,false,0,0⟩
 else if k1=2∧k2=2∧s1≠s2 then⟨3,false,0,0⟩
 else if k1=2 then⟨k1,s1,m1,e1⟩
 else if k2=2 then⟨k2,s2,m2,e2⟩
 else flV (adS (xS k1 s1) m1.toNat e1 (xS k2 s2) m2.toNat e2) (adM (xS k1 s1) m1.toNat e1 (xS k2 s2) m2.toNat e2) (alE m1.toNat e1 m2.toNat e2) mode (adZ k1 s1 k2 s2 mode)
def aB3(k1:Int)(s1:Bool)(m1 e1 k2:Int)(s2:Bool)(m2 e2 mode:Int):Int:=
 if k1=3∨k2=3 then 0
 else if k1=2∧k2=2∧s1≠s2 then 16
 else if k1=2 then 0
 else if k2=2 then 0
 else flG (adS (xS k1 s1) m1.toNat e1 (xS k2 s2) m2.toNat e2) (adM (xS k1 s1) m1.toNat e1 (xS k2 s2) m2.toNat e2) (alE m1.toNat e1 m2.toNat e2) mode
section
variable {k1:Int}{s1:Bool}{m1 e1 k2:Int}{s2:Bool}{m2 e2 mode:Int}
end
/-! ### A product and a sum-/
def fmZ(k1:Int)(s1:Bool)(k2:Int)(s2:Bool)(k3:Int)(s3:Bool)(mode:Int):Bool:=if(k1=0∨k2=0)∧k3=0∧s3=(s1 != s2)then s3 else decide (mode=3)
def aCs(k1:Int)(s1:Bool)(m1 e1 k2:Int)(s2:Bool)(m2 e2 k3:Int)(s3:Bool)(m3 e3 mode:Int):FlV:=
 if k1=3∨k2=3 then⟨3,false,0,0⟩
 else if k1=2∨k2=2 then(if k1=0∨k2=0 then⟨3,false,0,0⟩else aB2 2 (s1 != s2) 0 0 k3 s3 m3 e3 mode)
 else if k3=2∨k3=3 then⟨k3,s3,m3,e3⟩
 else flV (adS (muS k1 s1 m1 k2 s2 m2) (m1.toNat*m2.toNat) (e1+e2) (xS k3 s3) m3.toNat e3) (adM (muS k1 s1 m1 k2 s2 m2) (m1.toNat*m2.toNat) (e1+e2) (xS k3 s3) m3.toNat e3) (alE (m1.toNat*m2.toNat) (e1+e2) m3.toNat e3) mode (fmZ k1 s1 k2 s2 k3 s3 mode)
def aCt(k1:Int)(s1:Bool)(m1 e1 k2:Int)(s2:Bool)(m2 e2 k3:Int)(s3:Bool)(m3 e3 mode:Int):Int:=
 if k1=3∨k2=3 then 0
 else if k1=2∨k2=2 then(if k1=0∨k2=0 then 16 else aB3 2 (s1 != s2) 0 0 k3 s3 m3 e3 mode)
 else if k3=2∨k3=3 then 0
 else flG (adS (muS k1 s1 m1 k2 s2 m2) (m1.toNat*m2.toNat) (e1+e2) (xS k3 s3) m3.toNat e3) (adM (muS k1 s1 m1 k2 s2 m2) (m1.toNat*m2.toNat) (e1+e2) (xS k3 s3) m3.toNat e3) (alE (m1.toNat*m2.toNat) (e1+e2) m3.toNat e3) mode
section
variable {k1:Int}{s1:Bool}{m1 e1 k2:Int}{s2:Bool}{m2 e2 k3:Int}{s3:Bool}{m3 e3 mode:Int}
end
end Go.Ab
namespace Go.Ab
theorem amr(x y p:Int)(hp:0<p):zF (x*p) (y*p)=zF x y:=by
 unfold zF
 have h1:x*p<y*p↔x<y:=⟨fun h=>Int.lt_of_mul_lt_mul_right h (Int.le_of_lt hp),fun h=>Int.mul_lt_mul_of_pos_right h hp⟩
 have h2:y*p<x*p↔y<x:=⟨fun h=>Int.lt_of_mul_lt_mul_right h (Int.le_of_lt hp),fun h=>Int.mul_lt_mul_of_pos_right h hp⟩
 simp only[h1,h2]
theorem Zj{m:Nat}{e E:Int}:alA m e E=0↔m=0:=by
 unfold alA
 have:0<2^(e-E).toNat:=Nat.pow_pos (by omega)
 constructor
 ·intro h
  rcases Nat.mul_eq_zero.1 h with h|h
  ·exact h
  ·omega
 ·intro h;rw[h,Nat.zero_mul]
theorem acD{K:Nat}{s1:Bool}{m1:Nat}{e1:Int}{s2:Bool}{m2:Nat}{e2:Int}(h1: -(K:Int)≤e1)(h2: -(K:Int)≤e2):
  zF (sv s1 (alA m1 e1 (alE m1 e1 m2 e2))) (sv s2 (alA m2 e2 (alE m1 e1 m2 e2)))=zF (dv K s1 m1 e1) (dv K s2 m2 e2):=by
 have hE: -(K:Int)≤alE m1 e1 m2 e2:=Zi h1 h2
 have g1:m1≠0→alE m1 e1 m2 e2≤e1:=fun h=>by
  unfold alE
  repeat' split
  all_goals omega
 have g2:m2≠0→alE m1 e1 m2 e2≤e2:=fun h=>by
  unfold alE
  repeat' split
  all_goals omega
 rw[←acL hE g1,←acL hE g2,amr _ _ _ (Int.pow_pos (by omega))]
theorem KU{s1:Bool}{m1:Nat}{s2:Bool}{m2:Nat}(z1:m1=0→s1=false)(z2:m2=0→s2=false):
  zF (sv s1 m1) (sv s2 m2)=if s1=true then(if s2=true then zF (m2:Int) (m1:Int)else-1)else(if s2=true then 1 else zF (m1:Int) (m2:Int)):=by
 cases s1<;>cases s2<;>simp only[sv,if_true,Bool.false_eq_true,if_false]
 ·have:m2≠0:=fun h=>by have:=z2 h;cases this
  unfold zF;rw[if_neg (by omega),if_pos (by omega)]
 ·have:m1≠0:=fun h=>by have:=z1 h;cases this
  unfold zF;rw[if_pos (by omega)]
 ·unfold zF
  rcases Int.lt_trichotomy (m1:Int) m2 with h|h|h
  ·rw[if_neg (by omega),if_pos (by omega),if_neg (by omega),if_pos (by omega)]
  ·rw[if_neg (by omega),if_neg (by omega),if_neg (by omega),if_neg (by omega)]
  ·rw[if_pos (by omega),if_pos (by omega)]
theorem aik(x y:Int):(zF x y≤0↔x≤y)∧(zF x y<0↔x<y)∧(zF x y=0↔x=y):=by
 unfold zF
 split
 ·omega
 ·split<;>omega
end Go.Ab
namespace Go.Ab
open Go Go.Proofs
theorem ZJ(s1:Bool)(m1:Nat)(s2:Bool)(m2:Nat)(l1:(lim m1).length≤2^40)(l2:(lim m2).length≤2^40)(z1:m1=0→s1=false)(z2:m2=0→s2=false):
  Con Tryz.prog 192 true [.v (.bool s1),.sl (lim (m1)).length (qg (lim (m1))),.v (.bool s2),.sl (lim (m2)).length (qg (lim (m2)))] [] (isA (.v (.int .i64 (zF (sv s1 m1) (sv s2 m2))))):=by
 rw[KU z1 z2]
 cases s1<;>cases s2
 ·refine Con.of_w (rs:=[.tmp 8]) Tryz.func192 rfl Tryz.ntmps192 rfl ?_
  simp(disch:=omega)only[go_sem]
  refine qm (jT m1 m2 l1 l2) ?_
  simp(disch:=omega)only[go_sem]
  exact qu
 ·refine Con.of_w (rs:=[.tmp 8]) Tryz.func192 rfl Tryz.ntmps192 rfl ?_
  simp(disch:=omega)only[go_sem]
  exact qu
 ·refine Con.of_w (rs:=[.tmp 8]) Tryz.func192 rfl Tryz.ntmps192 rfl ?_
  simp(disch:=omega)only[go_sem]
  exact qu
 ·refine Con.of_w (rs:=[.tmp 8]) Tryz.func192 rfl Tryz.ntmps192 rfl ?_
  simp(disch:=omega)only[go_sem]
  refine qm (jT m2 m1 l2 l1) ?_
  simp(disch:=omega)only[go_sem]
  exact qu
theorem KN(K:Nat)(s1:Bool)(m1:Nat)(e1:Int)(s2:Bool)(m2:Nat)(e2:Int)(h1:bl m1≤4000000)(h2:bl m2≤4000000)(he1: -1000000≤e1∧e1≤1000000)(he2: -1000000≤e2∧e2≤1000000)(k1: -(K:Int)≤e1)(k2: -(K:Int)≤e2)(z1:m1=0→s1=false)(z2:m2=0→s2=false):
  Con Tryz.prog 110 true [.ag [.v (.bool (s1)),.sl (lim (m1)).length (qg (lim (m1))),.v (.int .i64 (e1))],.ag [.v (.bool (s2)),.sl (lim (m2)).length (qg (lim (m2))),.v (.int .i64 (e2))]] [] (isA (.v (.int .i64 (zF (dv K s1 m1 e1) (dv K s2 m2 e2))))):=by
 have hE:=Zi (m1:=m1) (m2:=m2) he1.1 he2.1
 have b1:=qx (Ja (e:=e1) (E:=alE m1 e1 m2 e2) (C:=2000000) h1 (by omega))
 have b2:=qx (Ja (e:=e2) (E:=alE m1 e1 m2 e2) (C:=2000000) h2 (by omega))
 rw[←acD k1 k2]
 have y1:alA m1 e1 (alE m1 e1 m2 e2)=0→s1=false:=fun h=>z1 (Zj.1 h)
 have y2:alA m2 e2 (alE m1 e1 m2 e2)=0→s2=false:=fun h=>z2 (Zj.1 h)
 refine Con.of_w (rs:=[.tmp 4]) Tryz.func110 rfl Tryz.ntmps110 rfl ?_
 simp(disch:=omega)only[go_sem]
 refine qa (Ys s1 m1 e1 s2 m2 e2 h1 h2 he1 he2) ?_
 simp(disch:=omega)only[go_sem]
 refine qm (ZJ s1 (alA m1 e1 (alE m1 e1 m2 e2)) s2 (alA m2 e2 (alE m1 e1 m2 e2)) (by omega) (by omega) y1 y2) ?_
 simp(disch:=omega)only[go_sem]
 exact qu
def rkF(k:Int)(s:Bool):Int:=if k=2 then(if s=true then-1 else 1)else 0
def aCz(k1:Int)(s1:Bool)(m1 e1 k2:Int)(s2:Bool)(m2 e2:Int):Int:=
 if rkF k1 s1≠rkF k2 s2∨rkF k1 s1≠0 then zF (rkF k1 s1) (rkF k2 s2)else zF (dv 3000 (xS k1 s1) m1.toNat e1) (dv 3000 (xS k2 s2) m2.toNat e2)
end Go.Ab
namespace Go.Ab
open Go Go.Proofs
def ExV.plus(x y:ExV):ExV:=⟨adS x.s x.m x.e y.s y.m y.e,adM x.s x.m x.e y.s y.m y.e,alE x.m x.e y.m y.e⟩
def ExV.neg(x:ExV):ExV:=⟨!x.s&&decide (x.m≠0),x.m,x.e⟩
def ExV.times(x y:ExV):ExV:=⟨(x.s != y.s)&&decide (x.m*y.m≠0),x.m*y.m,x.e+y.e⟩
def ExV.abs(x:ExV):ExV:=⟨false,x.m,x.e⟩
def ExV.shift(x:ExV)(k:Int):ExV:=⟨x.s,x.m,x.e+k⟩
def ExV.over(x y:ExV)(low mode:Int):ExV:=⟨(x.s != y.s)&&decide (ovQ (x.s != y.s) x.m x.e y.m y.e low mode≠0),ovQ (x.s != y.s) x.m x.e y.m y.e low mode,low⟩
def ExV.rnd(x:ExV)(low mode:Int):ExV:=⟨roS x.s x.m x.e low mode,roM x.s x.m x.e low mode,roE x.m x.e low⟩
def ExV.cmp(x y:ExV):Int:=zF (sv x.s (alA x.m x.e (alE x.m x.e y.m y.e))) (sv y.s (alA y.m y.e (alE x.m x.e y.m y.e)))
def ExV.top(x:ExV):Int:=if x.m=0 then 0 else(bl x.m:Int)+x.e
def ExV.bd(lo hi:Int)(x:ExV):Prop:=(x.m=0→x.s=false)∧lo≤x.e∧(bl x.m:Int)+x.e≤hi
theorem ExV.bd.mono{lo hi lo' hi':Int}{x:ExV}(h:x.bd lo hi)(h1:lo'≤lo)(h2:hi≤hi'):x.bd lo' hi':=by
 obtain⟨a,b,c⟩:=h;exact⟨a,by omega,by omega⟩
theorem aiR{m:Nat}{e E hi:Int}(h:m≠0→E≤e)(h1:(bl m:Int)+e≤hi)(h2:E≤hi):(bl (alA m e E):Int)+E≤hi:=by
 by_cases h0:m=0
 ·rw[Zj.2 h0,Qe];omega
 ·have:=h h0
  have:=ZS m (e-E).toNat
  unfold alA;omega
theorem asq{m1:Nat}{e1:Int}{m2:Nat}{e2:Int}:m1≠0→alE m1 e1 m2 e2≤e1:=fun h=>by
 unfold alE
 repeat' split
 all_goals omega
theorem asp{m1:Nat}{e1:Int}{m2:Nat}{e2:Int}:m2≠0→alE m1 e1 m2 e2≤e2:=fun h=>by
 unfold alE
 repeat' split
 all_goals omega
theorem ExV.plus_bd{lo hi:Int}{x y:ExV}(hx:x.bd lo hi)(hy:y.bd lo hi):(x.plus y).bd lo (hi+1):=by
 obtain⟨a1,a2,a3⟩:=hx
 obtain⟨b1,b2,b3⟩:=hy
 have hE:lo≤alE x.m x.e y.m y.e:=Zi a2 b2
 have hE2:alE x.m x.e y.m y.e≤hi:=anK (by omega) (by omega)
 refine⟨fun h=>?_,hE,?_⟩
 ·show adS x.s x.m x.e y.s y.m y.e=false
  have h:suM _ _ _ _=0:=h
  unfold adS suS
  unfold suM at h
  rw[Int.natAbs_eq_zero.1 h];rfl
 ·have t1:=aiR (hi:=hi) (@asq x.m x.e y.m y.e) a3 hE2
  have t2:=aiR (hi:=hi) (@asp x.m x.e y.m y.e) b3 hE2
  show(bl (adM x.s x.m x.e y.s y.m y.e):Int)+alE x.m x.e y.m y.e≤hi+1
  unfold adM
  generalize alA x.m x.e (alE x.m x.e y.m y.e)=A at*
  generalize alA y.m y.e (alE x.m x.e y.m y.e)=B at*
  have:=acH (s1:=x.s) (s2:=y.s) (B:=(hi-alE x.m x.e y.m y.e).toNat) (show bl A≤_ by omega) (show bl B≤_ by omega)
  omega
theorem ExV.neg_bd{lo hi:Int}{x:ExV}(hx:x.bd lo hi):x.neg.bd lo hi:=by
 obtain⟨a1,a2,a3⟩:=hx
 refine⟨fun h=>?_,a2,a3⟩
 have h:x.m=0:=h
 show(!x.s&&decide (x.m≠0))=false
 rw[decide_eq_false (show ¬x.m≠0 by omega),Bool.and_false]
theorem ExV.times_bd{l1 h1 l2 h2:Int}{x y:ExV}(hx:x.bd l1 h1)(hy:y.bd l2 h2):(x.times y).bd (l1+l2) (h1+h2):=by
 obtain⟨a1,a2,a3⟩:=hx
 obtain⟨b1,b2,b3⟩:=hy
 refine⟨fun h=>?_,?_,?_⟩
 ·have h:x.m*y.m=0:=h
  show((x.s != y.s)&&decide (x.m*y.m≠0))=false
  rw[decide_eq_false (show ¬x.m*y.m≠0 by omega),Bool.and_false]
 ·show l1+l2≤x.e+y.e
  omega
 ·have:=jG x.m y.m
  show(bl (x.m*y.m):Int)+(x.e+y.e)≤h1+h2
  omega
theorem ExV.abs_bd{lo hi:Int}{x:ExV}(hx:x.bd lo hi):x.abs.bd lo hi:=⟨fun _=>rfl,hx.2.1,hx.2.2⟩
theorem aus{s:Bool}{m1:Nat}{e1:Int}{m2:Nat}{e2 low mode:Int}:bl (ovQ s m1 e1 m2 e2 low mode)≤bl m1+(e1-e2-low).toNat+1:=by
 have h1:=jh (atF s (ovA m1 (e1-e2-low)) (ovA m2 (-(e1-e2-low))) mode)
 have h2:=YA (ovA m1 (e1-e2-low)/ovA m2 (-(e1-e2-low)))
 have h3:=Qw (ovA m1 (e1-e2-low)) (ovA m2 (-(e1-e2-low)))
 have h4:=ZS m1 (e1-e2-low).toNat
 unfold ovQ;unfold ovA at*;omega
theorem ExV.over_bd{l1 h1 l2 low mode hi:Int}{x y:ExV}(hx:x.bd l1 h1)(hy:l2≤y.e)(h:h1-l2+1≤hi)(hb:h1-l1+1+low≤hi):(x.over y low mode).bd low hi:=by
 obtain⟨a1,a2,a3⟩:=hx
 refine⟨fun h=>?_,Int.le_refl _,?_⟩
 ·have h:ovQ (x.s != y.s) x.m x.e y.m y.e low mode=0:=h
  show((x.s != y.s)&&decide (ovQ (x.s != y.s) x.m x.e y.m y.e low mode≠0))=false
  rw[decide_eq_false (by rw[h];simp),Bool.and_false]
 ·have:=@aus (x.s != y.s) x.m x.e y.m y.e low mode
  show(bl (ovQ (x.s != y.s) x.m x.e y.m y.e low mode):Int)+low≤hi
  omega
theorem ExV.rnd_bd{lo hi low mode:Int}{x:ExV}(hx:x.bd lo hi)(hl:lo≤low)(hh:low≤hi):(x.rnd low mode).bd lo (hi+1):=by
 obtain⟨a1,a2,a3⟩:=hx
 by_cases c:low≤x.e∨x.m=0
 ·refine⟨fun h=>?_,?_,?_⟩
  ·show roS _ _ _ _ _=false
   have h:roM _ _ _ _ _=0:=h
   unfold roM at h;unfold roS;rw[if_pos c]at h ⊢;exact a1 h
  ·show lo≤roE _ _ _
   unfold roE;rw[if_pos c];exact a2
  ·show(bl (roM _ _ _ _ _):Int)+roE _ _ _≤_
   unfold roM roE;rw[if_pos c,if_pos c];omega
 ·refine⟨fun h=>?_,?_,?_⟩
  ·show roS _ _ _ _ _=false
   have h:roM _ _ _ _ _=0:=h
   unfold roM at h;unfold roS;rw[if_neg c]at h ⊢;rw[h];simp
  ·show lo≤roE _ _ _
   unfold roE;rw[if_neg c];exact hl
  ·show(bl (roM _ _ _ _ _):Int)+roE _ _ _≤_
   unfold roM roE;rw[if_neg c,if_neg c]
   have h1:=jh (atF x.s x.m (2^(low-x.e).toNat) mode)
   have h2:=YA (x.m/2^(low-x.e).toNat)
   have h3:=axU x.m (low-x.e).toNat
   omega
theorem y8(x y:ExV)(hx:x.bd (-400000) 400000)(hy:y.bd (-400000) 400000):Con Tryz.prog 153 false [.ag [.v (.bool (x.s)),.sl (lim (x.m)).length (qg (lim (x.m))),.v (.int .i64 (x.e))],.ag [.v (.bool (y.s)),.sl (lim (y.m)).length (qg (lim (y.m))),.v (.int .i64 (y.e))]] [] (isA (.ag [.v (.bool ((x.plus y).s)),.sl (lim ((x.plus y).m)).length (qg (lim ((x.plus y).m))),.v (.int .i64 ((x.plus y).e))])):=by
 obtain⟨a1,a2,a3⟩:=hx
 obtain⟨b1,b2,b3⟩:=hy
 exact ahI x.s x.m x.e y.s y.m y.e (by omega) (by omega) (by omega) (by omega)
theorem ZH(x y:ExV)(hx:x.bd (-400000) 400000)(hy:y.bd (-400000) 400000):Con Tryz.prog 200 false [.ag [.v (.bool (x.s)),.sl (lim (x.m)).length (qg (lim (x.m))),.v (.int .i64 (x.e))],.ag [.v (.bool (y.s)),.sl (lim (y.m)).length (qg (lim (y.m))),.v (.int .i64 (y.e))]] [] (isA (.ag [.v (.bool ((x.times y).s)),.sl (lim ((x.times y).m)).length (qg (lim ((x.times y).m))),.v (.int .i64 ((x.times y).e))])):=by
 obtain⟨a1,a2,a3⟩:=hx
 obtain⟨b1,b2,b3⟩:=hy
 exact ad3 x.s x.m x.e y.s y.m y.e (by omega) (by omega) (by omega) (by omega)
theorem ahJ(x y:ExV)(low mode:Int)(h0:y.m≠0)(hx:x.bd (-400000) 400000)(hy:y.bd (-400000) 400000)(hl: -400000≤low∧low≤400000):Con Tryz.prog 193 false [.ag [.v (.bool (x.s)),.sl (lim (x.m)).length (qg (lim (x.m))),.v (.int .i64 (x.e))],.ag [.v (.bool (y.s)),.sl (lim (y.m)).length (qg (lim (y.m))),.v (.int .i64 (y.e))],.v (.int .i64 low),.v (.int .i64 mode)] [] (isA (.tu [.ag [.v (.bool ((x.over y low mode).s)),.sl (lim ((x.over y low mode).m)).length (qg (lim ((x.over y low mode).m))),.v (.int .i64 ((x.over y low mode).e))],.v (.bool (ovX x.m x.e y.m y.e low))])):=by
 obtain⟨a1,a2,a3⟩:=hx
 obtain⟨b1,b2,b3⟩:=hy
 exact acu x.s x.m x.e y.s y.m y.e low mode h0 (by omega) (by omega) (by omega) (by omega) (by omega) (by omega)
theorem ami(x:ExV)(low mode:Int)(hx:x.bd (-400000) 400000)(hl: -400000≤low∧low≤400000):Con Tryz.prog 116 false [.ag [.v (.bool (x.s)),.sl (lim (x.m)).length (qg (lim (x.m))),.v (.int .i64 (x.e))],.v (.int .i64 low),.v (.int .i64 mode)] [] (isA (.tu [.ag [.v (.bool ((x.rnd low mode).s)),.sl (lim ((x.rnd low mode).m)).length (qg (lim ((x.rnd low mode).m))),.v (.int .i64 ((x.rnd low mode).e))],.v (.bool (roX x.m x.e low))])):=by
 obtain⟨a1,a2,a3⟩:=hx
 exact aa1 x.s x.m x.e low mode (by omega) (by omega) (by omega)
theorem acB(x y:ExV)(hx:x.bd (-400000) 400000)(hy:y.bd (-400000) 400000):Con Tryz.prog 110 true [.ag [.v (.bool (x.s)),.sl (lim (x.m)).length (qg (lim (x.m))),.v (.int .i64 (x.e))],.ag [.v (.bool (y.s)),.sl (lim (y.m)).length (qg (lim (y.m))),.v (.int .i64 (y.e))]] [] (isA (.v (.int .i64 (x.cmp y)))):=by
 obtain⟨a1,a2,a3⟩:=hx
 obtain⟨b1,b2,b3⟩:=hy
 unfold ExV.cmp
 rw[acD (K:=400000) (by omega) (by omega)]
 exact KN 400000 x.s x.m x.e y.s y.m y.e (by omega) (by omega) (by omega) (by omega) (by omega) (by omega) a1 b1
theorem acx(x:ExV):Con Tryz.prog 155 false [.ag [.v (.bool (x.s)),.sl (lim (x.m)).length (qg (lim (x.m))),.v (.int .i64 (x.e))]] [] (isA (.ag [.v (.bool (x.neg.s)),.sl (lim (x.neg.m)).length (qg (lim (x.neg.m))),.v (.int .i64 (x.neg.e))])):=by
 refine Con.frzA ?_
 have hq:decide ((0:Int)<((lim x.m).length:Int))=decide (x.m≠0):=by
  rw[decide_eq_decide]
  exact⟨fun h e=>by rw[e,qt]at h;simp at h,fun h=>by have:=yg h;omega⟩
 unfold ExV.neg
 cases hs:x.s
 ·refine Con.of_w (rs:=[.cell 2 97]) Tryz.func155 rfl Tryz.ntmps155 rfl ?_
  simp(disch:=omega)only[go_sem]
  simp(disch:=omega)only[go_sem,hq]
  exact qo (hp:=by simp(disch:=omega)only[go_sem,Bool.not_false,Bool.true_and])
 ·refine Con.of_w (rs:=[.cell 2 97]) Tryz.func155 rfl Tryz.ntmps155 rfl ?_
  simp(disch:=omega)only[go_sem]
  exact qo (hp:=by simp(disch:=omega)only[go_sem,Bool.not_true,Bool.false_and])
theorem amq(x:ExV):Con Tryz.prog 75 false [.ag [.v (.bool (x.s)),.sl (lim (x.m)).length (qg (lim (x.m))),.v (.int .i64 (x.e))]] [] (isA (.ag [.v (.bool (x.abs.s)),.sl (lim (x.abs.m)).length (qg (lim (x.abs.m))),.v (.int .i64 (x.abs.e))])):=by
 refine Con.frzA ?_
 refine Con.of_w (rs:=[.cell 2 97]) Tryz.func75 rfl Tryz.ntmps75 rfl ?_
 simp(disch:=omega)only[go_sem]
 exact qo (hp:=by simp(disch:=omega)only[go_sem,ExV.abs])
theorem aea(x y:ExV)(hx:x.bd (-400000) 400000)(hy:y.bd (-400000) 400000):Con Tryz.prog 74 false [.ag [.v (.bool (x.s)),.sl (lim (x.m)).length (qg (lim (x.m))),.v (.int .i64 (x.e))],.ag [.v (.bool (y.s)),.sl (lim (y.m)).length (qg (lim (y.m))),.v (.int .i64 (y.e))]] [] (isA (.ag [.v (.bool ((x.plus y.neg).s)),.sl (lim ((x.plus y.neg).m)).length (qg (lim ((x.plus y.neg).m))),.v (.int .i64 ((x.plus y.neg).e))])):=by
 refine Con.frzA ?_
 refine Con.of_w (rs:=[.cell 4 97]) Tryz.func74 rfl Tryz.ntmps74 rfl ?_
 simp(disch:=omega)only[go_sem]
 refine qs rfl [⟨0,[],[]⟩,⟨1,[0],[]⟩,⟨2,[0],[]⟩,⟨3,[],[]⟩,⟨4,[],[]⟩] (by kernel_rfl) ?_
 simp(disch:=omega)only[go_sem]
 refine qa (acx y) ?_
 simp(disch:=omega)only[go_sem]
 refine qa (y8 x y.neg hx (ExV.neg_bd hy)) ?_
 simp(disch:=omega)only[go_sem]
 exact qo
end Go.Ab
namespace Go.Ab
open Go Go.Proofs
def gl(n:Nat)(g:Nat→Nat→ExV)(k:Nat):List ExV:=(List.range k).map fun t=>g (t/n) (t % n)
theorem zj{n:Nat}{g:Nat→Nat→ExV}{k:Nat}:(gl n g k).length=k:=by simp[gl]
theorem agX{n:Nat}{g:Nat→Nat→ExV}{k:Nat}:gl n g (k+1)=gl n g k++[g (k/n) (k % n)]:=by simp[gl,List.range_succ]
theorem au4{n:Nat}{g:Nat→Nat→ExV}:qk ExV.cs (gl n g 0)=[]:=by simp[gl,qk]
theorem zv{l:List ExV}{k:Nat}(h:l.length=k):cut (qk ExV.cs l) 0 (k*3)=qk ExV.cs l:=by subst h;exact J6
theorem zJ{l:List ExV}{i:Nat}(hi:i<l.length):cut (qk ExV.cs l) (i*3) 3=[.v (.bool (l.getD i ex0).s),.sl (lim (l.getD i ex0).m).length (qg (lim (l.getD i ex0).m)),.v (.int .i64 (l.getD i ex0).e)]:=Zs (l:=l) ahi hi ex0
theorem yL(n:Nat)(l:List ExV)(i j:Nat)(hl:i*n+j<l.length)(hb:l.length≤1000)(hn:n≤1000)(hi:i≤1000)(hj:j≤1000):
  Con Tryz.prog 115 false [.ag [.v (.int .i64 n),.sl l.length (qk ExV.cs l)],.v (.int .i64 i),.v (.int .i64 j)] [] (isA (.ag [.v (.bool ((l.getD (i*n+j) ex0).s)),.sl (lim ((l.getD (i*n+j) ex0).m)).length (qg (lim ((l.getD (i*n+j) ex0).m))),.v (.int .i64 ((l.getD (i*n+j) ex0).e))])):=by
 refine Con.frzA ?_
 have hin:i*n≤1000:=by omega
 have hp:(i:Int)*(n:Int)≤1000∧0≤(i:Int)*(n:Int):=by rw[←Int.natCast_mul];omega
 have e1:(i:Int)*(n:Int)+(j:Int)=((i*n+j:Nat):Int):=by rw[Int.natCast_add,Int.natCast_mul]
 have hcut:=zJ hl
 generalize i*n+j=k at*
 refine Con.of_w (rs:=[.cell 6 97]) Tryz.func115 rfl Tryz.ntmps115 rfl ?_
 simp(disch:=omega)only[go_sem]
 simp(disch:=omega)only[go_sem,e1,hcut]
 refine⟨by omega,by omega,?_⟩
 exact qo
set_option maxRecDepth 100000 in
theorem aef(n:Nat)(f:Nat)(caps:List AV)(g:Nat→Nat→ExV)(hn0:n≤4)(hf:∀i j:Nat,i<n→j<n→Con Tryz.prog f false (.v (.int .i64 i):: .v (.int .i64 j)::caps) [] (isA (.ag [.v (.bool ((g i j).s)),.sl (lim ((g i j).m)).length (qg (lim ((g i j).m))),.v (.int .i64 ((g i j).e))])))(hg:qy Tryz.prog f=True)
  (hc:∀h:Nat→Ob,caps.map (qE h 6)=caps) (hc5:∀h:Nat→Ob,caps.map (qE h 5)=caps) (hn:∀ks,AllL (jv ks) caps) (hr:∀ρ,ze ρ caps=caps):
  Con Tryz.prog 113 false [.v (.int .i64 n),.fn f caps] [] (isA (.ag [.v (.int .i64 n),.sl (n*n) (qk ExV.cs (gl n g (n*n)))])):=by
 refine Con.frzA ?_
 refine Con.of_aw Tryz.func113 rfl Tryz.ntmps113 (by simp) (by simp) (by simp) (W.sound ?_)
 show @W Tryz.prog 30 ⟨_⟩ ⟨fun x σ=>@q8 _ _ _ ⟨_⟩ _ ⟨_⟩ x σ⟩ _ _
 simp(disch:=omega)only[go_sem,hg]
 refine qj (fun i:Nat=>[(0,.v (.int .i64 n)),(1,.fn f caps),(4,.pt 2 0),(5,.pt 0 0),(10,.v (.int .i64 n)),(11,.v (.int .i64 i))])
  (fun i=>[(0,.own 0 [.v (.int .i64 n),.rf 1 0 (i*n)]),(1,.own 3 (qk ExV.cs (gl n g (i*n)))),(2,.own 0 [.v (.int .i64 0),.v (.slice none 0 0)])]) (fun i=>i≤n) (fun i=>n-i) 0 (by omega)
  ((Le.ghostC 70000000 1 1 3 (zo:=0) (cs:=[.v (.int .i64 n),.v (.slice none 0 0)]) (by simp(disch:=omega)only[go_sem]) rfl (by simp(disch:=omega)only[go_sem])).trans (Le.lst [(0,70000000),(2,60000000)] _ _ rfl (by simp(disch:=omega)only[go_sem,hr,hn]) (by simp(disch:=omega)only[go_sem,au4,Nat.zero_mul,List.set_cons_succ,List.set_cons_zero]))) ?_
 intro i hi
 simp(disch:=omega)only[go_sem]
 refine qh (fun h1=>?_) (fun h1=>?_)
 ·simp(disch:=omega)only[go_sem,h1]
  refine qj (fun j:Nat=>[(0,.v (.int .i64 n)),(1,.fn f caps),(4,.pt 2 0),(5,.pt 0 0),(6,.v (.int .i64 i)),(10,.v (.int .i64 n)),(11,.v (.int .i64 i)),(14,.v (.int .i64 n)),(15,.v (.int .i64 j))])
   (fun j=>[(0,.own 0 [.v (.int .i64 n),.rf 1 0 (i*n+j)]),(1,.own 3 (qk ExV.cs (gl n g (i*n+j)))),(2,.own 0 [.v (.int .i64 0),.v (.slice none 0 0)])]) (fun j=>j≤n) (fun j=>n-j) 0 (by omega)
   (Le.lst [] _ _ rfl (by simp(disch:=omega)only[go_sem,hr,hn,Nat.add_zero]) (by simp(disch:=omega)only[go_sem,Nat.add_zero])) ?_
  intro j hj
  simp(disch:=omega)only[go_sem]
  refine qh (fun h2=>?_) (fun h2=>?_)
  ·simp(disch:=omega)only[go_sem,h2]
   have hd:(i*n+j)/n=i:=by rw[Nat.mul_comm,Nat.mul_add_div (by omega),Nat.div_eq_of_lt (by omega),Nat.add_zero]
   have hm:(i*n+j) % n=j:=by rw[Nat.mul_comm,Nat.mul_add_mod,Nat.mod_eq_of_lt (by omega)]
   have hs:=@agX n g (i*n+j)
   rw[hd,hm]at hs
   have hcut:=zv (@zj n g (i*n+j))
   have hin:i*n≤16:=Nat.mul_le_mul (show i≤4 by omega) hn0
   have hk:i*n+(j+1)=i*n+j+1:=rfl
   refine qs rfl [⟨0,[],[]⟩,⟨1,[],[]⟩,⟨2,[1],[]⟩,⟨3,[1],[]⟩,⟨4,[1],[]⟩,⟨5,[1],[]⟩,⟨6,[1],[]⟩,⟨7,[],[]⟩,⟨8,[],[]⟩,⟨9,[],[]⟩] (by kernel_rfl) ?_
   simp(disch:=omega)only[go_sem,hg]
   refine qz (hf i j (by omega) (by omega)) (by simp(disch:=omega)only[go_sem,hc,hc5]) ?_
   rintro r hs2 ⟨rfl,rfl,_⟩
   refine⟨by simp[qB],?_⟩
   simp(disch:=omega)only[go_sem,hcut,Qr]
   refine⟨⟨by rw[zj];exact Nat.le_refl _,by omega⟩,qe (j+1) [(1,270000000)] (by show j+1≤_;omega) (by show n-(j+1)<n-j;omega) rfl (by simp(disch:=omega)only[go_sem,hr,hn];try omega) (by simp(disch:=omega)only[go_sem,hk,hs])⟩
  ·simp(disch:=omega)only[go_sem,h2]
   obtain rfl:n=j:=by omega
   exact qe (i+1) [] (by show i+1≤_;omega) (by show n-(i+1)<n-i;omega) rfl (by simp(disch:=omega)only[go_sem,hr,hn,Nat.add_mul,Nat.one_mul];try omega) (by simp(disch:=omega)only[go_sem,Nat.add_mul,Nat.one_mul])
 ·simp(disch:=omega)only[go_sem,h1]
  obtain rfl:n=i:=by omega
  refine ql [(0,1)] [.own 3 (qk ExV.cs (gl n g (n*n)))] [] [.ag [.v (.int .i64 n),.rf 0 0 (n*n)]] rfl (by simp(disch:=omega)only[go_sem]) (by simp(disch:=omega)only[go_sem]) (by simp) (by simp) ?_
  show qE _ 6 _=_
  simp(disch:=omega)only[go_sem,zg,zv zj]
end Go.Ab
namespace Go.Ab
open Go Go.Proofs
def jR(m x:ExV):ExV:=if 0<x.cmp m then x else m
def Q6(m x:ExV):ExV:=if x.cmp m<0 then x else m
def jt(l:List ExV):ExV:=(l.drop 1).foldl jR (l.getD 0 ex0)
def Xa(l:List ExV):ExV:=(l.drop 1).foldl Q6 (l.getD 0 ex0)
def gbd(lo hi:Int)(l:List ExV):Prop:=∀x∈l,x.bd lo hi
theorem qF{lo hi:Int}{l:List ExV}{i:Nat}(h:gbd lo hi l)(hi':i<l.length):(l.getD i ex0).bd lo hi:=by
 refine h _ ?_
 rw[List.getD_eq_getElem?_getD,List.getElem?_eq_getElem hi'];exact List.getElem_mem _
theorem YM{l:List ExV}{i:Nat}(h1:1≤i)(h:i<l.length):(l.take (i+1)).drop 1=(l.take i).drop 1++[l.getD i ex0]:=by
 rw[List.take_add_one,List.getElem?_eq_getElem h,List.drop_append_of_le_length (by rw[List.length_take];omega),List.getD_eq_getElem?_getD,List.getElem?_eq_getElem h]
 rfl
theorem Vc{lo hi:Int}{F:ExV→ExV→ExV}(hF:∀m x,F m x=m∨F m x=x):∀(l:List ExV) (m:ExV),m.bd lo hi→gbd lo hi l→(l.foldl F m).bd lo hi
 | [],m,h,_=>h
 |x::r,m,h,hl=>by
  refine Vc hF r (F m x) ?_ (fun y hy=>hl y (List.mem_cons_of_mem _ hy))
  rcases hF m x with e|e<;>rw[e]
  ·exact h
  ·exact hl x (List.mem_cons_self ..)
theorem ab7(m x:ExV):jR m x=m∨jR m x=x:=by unfold jR;split<;>simp
theorem agG(m x:ExV):Q6 m x=m∨Q6 m x=x:=by unfold Q6;split<;>simp
theorem XQ{lo hi:Int}{l:List ExV}(h:gbd lo hi l)(h0:0<l.length):(jt l).bd lo hi:=Vc ab7 _ _ (qF h h0) (fun x hx=>h x (List.mem_of_mem_drop hx))
theorem V7{lo hi:Int}{l:List ExV}(h:gbd lo hi l)(h0:0<l.length):(Xa l).bd lo hi:=Vc agG _ _ (qF h h0) (fun x hx=>h x (List.mem_of_mem_drop hx))
end Go.Ab
namespace Go.Ab
open Go Go.Proofs
def SpV.plus(s t:SpV):SpV:=⟨s.lo.plus t.lo,s.hi.plus t.hi⟩
def Zb(F:ExV→ExV→ExV)(s t:SpV):List ExV:=[F s.lo t.lo,F s.lo t.hi,F s.hi t.lo,F s.hi t.hi]
def SpV.times(s t:SpV):SpV:=⟨Xa (Zb ExV.times s t),jt (Zb ExV.times s t)⟩
def SpV.over(s t:SpV)(low:Int):SpV:=⟨Xa (Zb (fun x y=>x.over y low 3) s t),jt (Zb (fun x y=>x.over y low 2) s t)⟩
def SpV.out(s:SpV)(low:Int):SpV:=⟨s.lo.rnd low 3,s.hi.rnd low 2⟩
def SpV.fat(s:SpV)(by':ExV):SpV:=⟨s.lo.plus by'.neg,s.hi.plus by'⟩
def SpV.bd(lo hi:Int)(s:SpV):Prop:=s.lo.bd lo hi∧s.hi.bd lo hi
theorem al0{F:ExV→ExV→ExV}{s t:SpV}{l1 h1 l2 h2 lo hi:Int}(hs:s.bd l1 h1)(ht:t.bd l2 h2)(hF:∀x y:ExV,x.bd l1 h1→y.bd l2 h2→(F x y).bd lo hi):gbd lo hi (Zb F s t):=by
 intro x hx
 simp only[Zb,List.mem_cons,List.not_mem_nil,or_false]at hx
 rcases hx with rfl|rfl|rfl|rfl
 ·exact hF _ _ hs.1 ht.1
 ·exact hF _ _ hs.1 ht.2
 ·exact hF _ _ hs.2 ht.1
 ·exact hF _ _ hs.2 ht.2
end Go.Ab
namespace Go.Ab
open Go Go.Proofs
theorem q7{n i j:Nat}(hi:i<n)(hj:j<n):i*n+j<n*n:=by
 have:(i+1)*n≤n*n:=Nat.mul_le_mul_right n hi
 rw[Nat.add_mul,Nat.one_mul]at this;omega
theorem jq{n:Nat}(h:n≤4):n*n≤16:=Nat.mul_le_mul h h
theorem acp{lo hi:Int}(h1:lo≤0)(h2:0≤hi):ex0.bd lo hi:=⟨fun _=>rfl,h1,by show((bl 0:Nat):Int)+0≤hi;rw[Qe];omega⟩
theorem X5{n:Nat}{g:Nat→Nat→ExV}{lo hi:Int}(h:∀i j,i<n→j<n→(g i j).bd lo hi):gbd lo hi (gl n g (n*n)):=by
 intro x hx
 simp only[gl,List.mem_map,List.mem_range]at hx
 obtain⟨t,ht,rfl⟩:=hx
 have hn:0<n:=by
  rcases Nat.eq_zero_or_pos n with e|e
  ·subst e;simp at ht
  ·exact e
 exact h _ _ (Nat.div_lt_of_lt_mul ht) (Nat.mod_lt _ hn)
theorem zL(n:Nat)(f:Nat)(caps:List AV)(g:Nat→Nat→ExV)(hn0:n≤4)(hf:∀i j:Nat,i<n→j<n→Con Tryz.prog f false (.v (.int .i64 i):: .v (.int .i64 j)::caps) [] (isA (.ag [.v (.bool (g i j).s),.sl (lim (g i j).m).length (qg (lim (g i j).m)),.v (.int .i64 (g i j).e)])))(hg:qy Tryz.prog f=True)
  (hc:∀h:Nat→Ob,caps.map (qE h 6)=caps) (hc5:∀h:Nat→Ob,caps.map (qE h 5)=caps) (hn:∀ks,AllL (jv ks) caps) (hr:∀ρ,ze ρ caps=caps):
  Con Tryz.prog 113 false [.v (.int .i64 n),.fn f caps] [] (isA (.ag [.v (.int .i64 (n)),.sl (gl n g (n*n)).length (qk ExV.cs (gl n g (n*n)))])):=by
 rw[zj];exact aef n f caps g hn0 hf hg hc hc5 hn hr
def jx(n:Nat)(l l':List ExV):List ExV:=gl n (fun i j=>(l.getD (i*n+j) ex0).plus (l'.getD (i*n+j) ex0)) (n*n)
theorem aeh(n:Nat)(l l':List ExV)(i j:Nat)(hn:n≤4)(hi:i<n)(hj:j<n)(hl:l.length=n*n)(hl':l'.length=n*n)(hb:gbd (-400000) 400000 l)(hb':gbd (-400000) 400000 l'):
  Con Tryz.prog 198 false [.v (.int .i64 i),.v (.int .i64 j),.fp [.v (.int .i64 n),.sl l.length (qk ExV.cs l)] 0,.fp [.v (.int .i64 n),.sl l'.length (qk ExV.cs l')] 0] [] (isA (.ag [.v (.bool ((l.getD (i*n+j) ex0).plus (l'.getD (i*n+j) ex0)).s),.sl (lim ((l.getD (i*n+j) ex0).plus (l'.getD (i*n+j) ex0)).m).length (qg (lim ((l.getD (i*n+j) ex0).plus (l'.getD (i*n+j) ex0)).m)),.v (.int .i64 ((l.getD (i*n+j) ex0).plus (l'.getD (i*n+j) ex0)).e)])):=by
 refine Con.frzA ?_
 have hx:=q7 hi hj
 have hq:=jq hn
 have c1:=yL n l i j (by omega) (by omega) (by omega) (by omega) (by omega)
 have c2:=yL n l' i j (by omega) (by omega) (by omega) (by omega) (by omega)
 have b1:=qF hb (show i*n+j<l.length by omega)
 have b2:=qF hb' (show i*n+j<l'.length by omega)
 generalize l.getD (i*n+j) ex0=x at*
 generalize l'.getD (i*n+j) ex0=y at*
 refine Con.of_w (rs:=[.cell 6 97]) Tryz.func198 rfl Tryz.ntmps198 rfl ?_
 simp(disch:=omega)only[go_sem]
 refine qs rfl [⟨0,[],[]⟩,⟨1,[0],[]⟩,⟨2,[0],[]⟩,⟨4,[0],[]⟩,⟨5,[0,4],[]⟩,⟨6,[0,4],[]⟩,⟨3,[4],[]⟩,⟨7,[],[]⟩,⟨8,[],[]⟩,⟨9,[],[]⟩] (by kernel_rfl) ?_
 simp(disch:=omega)only[go_sem]
 refine qa (c1) ?_
 simp(disch:=omega)only[go_sem]
 refine qa (c2) ?_
 simp(disch:=omega)only[go_sem]
 refine qa (y8 x y b1 b2) ?_
 simp(disch:=omega)only[go_sem]
 exact qo
theorem KL(n:Nat)(l l':List ExV)(hn:n≤4)(hl:l.length=n*n)(hl':l'.length=n*n)(hb:gbd (-400000) 400000 l)(hb':gbd (-400000) 400000 l'):Con Tryz.prog 121 false [.ag [.v (.int .i64 (n)),.sl (l).length (qk ExV.cs (l))],.ag [.v (.int .i64 (n)),.sl (l').length (qk ExV.cs (l'))]] [] (isA (.ag [.v (.int .i64 (n)),.sl (jx n l l').length (qk ExV.cs (jx n l l'))])):=by
 refine Con.frzA ?_
 have c:=zL n 198 [.fp [.v (.int .i64 n),.sl l.length (qk ExV.cs l)] 0,.fp [.v (.int .i64 n),.sl l'.length (qk ExV.cs l')] 0] (fun i j=>(l.getD (i*n+j) ex0).plus (l'.getD (i*n+j) ex0)) hn (fun i j hi hj=>aeh n l l' i j hn hi hj hl hl' hb hb') (by simp(disch:=omega)only[go_sem]) (fun h=>rfl) (fun h=>rfl) (fun ks=>by simp(disch:=omega)only[go_sem]) (fun ρ=>rfl)
 change Con _ _ _ _ _ (isA (.ag [.v (.int .i64 (n)),.sl (jx n l l').length (qk ExV.cs (jx n l l'))]))at c
 refine Con.of_aw Tryz.func121 rfl Tryz.ntmps121 (by simp) (by simp) (by simp) (AW.seqLe (E:=[(2,.fp [.v (.int .i64 n),.sl l.length (qk ExV.cs l)] 0),(3,.fp [.v (.int .i64 n),.sl l'.length (qk ExV.cs l')] 0),(4,.pt 0 0)]) (H:=[(0,.own 0 [.v (.int .i64 0),.v (.slice none 0 0)])]) (W.sound ?_) (W.sound ?_))
 ·show @W Tryz.prog 9 ⟨_⟩ ⟨_⟩ _ _
  simp(disch:=omega)only[go_sem]
  exact(Le.frz 40000000 (z:=0) (ks:=[.v (.int .i64 n),.sl l.length (qk ExV.cs l)]) (by simp(disch:=omega)only[go_sem]) rfl (by simp(disch:=omega)only[go_sem])).trans ((Le.frz 50000000 (z:=0) (ks:=[.v (.int .i64 n),.sl l'.length (qk ExV.cs l')]) (by simp(disch:=omega)only[go_sem]) rfl (by simp(disch:=omega)only[go_sem])).trans (Le.lst [(0,60000000)] _ _ rfl (by simp(disch:=omega)only[go_sem]) (by simp(disch:=omega)only[go_sem])))
 show @W Tryz.prog 9 ⟨_⟩ ⟨fun x σ=>@q8 _ _ _ ⟨_⟩ _ ⟨_⟩ x σ⟩ _ _
 simp(disch:=omega)only[go_sem]
 refine qa (c) ?_
 simp(disch:=omega)only[go_sem]
 exact qo
def yh(n:Nat)(l l':List ExV):List ExV:=gl n (fun i j=>(l.getD (i*n+j) ex0).plus (l'.getD (i*n+j) ex0).neg) (n*n)
theorem abj(n:Nat)(l l':List ExV)(i j:Nat)(hn:n≤4)(hi:i<n)(hj:j<n)(hl:l.length=n*n)(hl':l'.length=n*n)(hb:gbd (-400000) 400000 l)(hb':gbd (-400000) 400000 l'):
  Con Tryz.prog 204 false [.v (.int .i64 i),.v (.int .i64 j),.fp [.v (.int .i64 n),.sl l.length (qk ExV.cs l)] 0,.fp [.v (.int .i64 n),.sl l'.length (qk ExV.cs l')] 0] [] (isA (.ag [.v (.bool ((l.getD (i*n+j) ex0).plus (l'.getD (i*n+j) ex0).neg).s),.sl (lim ((l.getD (i*n+j) ex0).plus (l'.getD (i*n+j) ex0).neg).m).length (qg (lim ((l.getD (i*n+j) ex0).plus (l'.getD (i*n+j) ex0).neg).m)),.v (.int .i64 ((l.getD (i*n+j) ex0).plus (l'.getD (i*n+j) ex0).neg).e)])):=by
 refine Con.frzA ?_
 have hx:=q7 hi hj
 have hq:=jq hn
 have c1:=yL n l i j (by omega) (by omega) (by omega) (by omega) (by omega)
 have c2:=yL n l' i j (by omega) (by omega) (by omega) (by omega) (by omega)
 have b1:=qF hb (show i*n+j<l.length by omega)
 have b2:=qF hb' (show i*n+j<l'.length by omega)
 generalize l.getD (i*n+j) ex0=x at*
 generalize l'.getD (i*n+j) ex0=y at*
 refine Con.of_w (rs:=[.cell 6 97]) Tryz.func204 rfl Tryz.ntmps204 rfl ?_
 simp(disch:=omega)only[go_sem]
 refine qs rfl [⟨0,[],[]⟩,⟨1,[0],[]⟩,⟨2,[0],[]⟩,⟨4,[0],[]⟩,⟨5,[0,4],[]⟩,⟨6,[0,4],[]⟩,⟨3,[4],[]⟩,⟨7,[],[]⟩,⟨8,[],[]⟩,⟨9,[],[]⟩] (by kernel_rfl) ?_
 simp(disch:=omega)only[go_sem]
 refine qa (c1) ?_
 simp(disch:=omega)only[go_sem]
 refine qa (c2) ?_
 simp(disch:=omega)only[go_sem]
 refine qa (aea x y b1 b2) ?_
 simp(disch:=omega)only[go_sem]
 exact qo
theorem aei(n:Nat)(l l':List ExV)(hn:n≤4)(hl:l.length=n*n)(hl':l'.length=n*n)(hb:gbd (-400000) 400000 l)(hb':gbd (-400000) 400000 l'):Con Tryz.prog 125 false [.ag [.v (.int .i64 (n)),.sl (l).length (qk ExV.cs (l))],.ag [.v (.int .i64 (n)),.sl (l').length (qk ExV.cs (l'))]] [] (isA (.ag [.v (.int .i64 (n)),.sl (yh n l l').length (qk ExV.cs (yh n l l'))])):=by
 refine Con.frzA ?_
 have c:=zL n 204 [.fp [.v (.int .i64 n),.sl l.length (qk ExV.cs l)] 0,.fp [.v (.int .i64 n),.sl l'.length (qk ExV.cs l')] 0] (fun i j=>(l.getD (i*n+j) ex0).plus (l'.getD (i*n+j) ex0).neg) hn (fun i j hi hj=>abj n l l' i j hn hi hj hl hl' hb hb') (by simp(disch:=omega)only[go_sem]) (fun h=>rfl) (fun h=>rfl) (fun ks=>by simp(disch:=omega)only[go_sem]) (fun ρ=>rfl)
 change Con _ _ _ _ _ (isA (.ag [.v (.int .i64 (n)),.sl (yh n l l').length (qk ExV.cs (yh n l l'))]))at c
 refine Con.of_aw Tryz.func125 rfl Tryz.ntmps125 (by simp) (by simp) (by simp) (AW.seqLe (E:=[(2,.fp [.v (.int .i64 n),.sl l.length (qk ExV.cs l)] 0),(3,.fp [.v (.int .i64 n),.sl l'.length (qk ExV.cs l')] 0),(4,.pt 0 0)]) (H:=[(0,.own 0 [.v (.int .i64 0),.v (.slice none 0 0)])]) (W.sound ?_) (W.sound ?_))
 ·show @W Tryz.prog 9 ⟨_⟩ ⟨_⟩ _ _
  simp(disch:=omega)only[go_sem]
  exact(Le.frz 40000000 (z:=0) (ks:=[.v (.int .i64 n),.sl l.length (qk ExV.cs l)]) (by simp(disch:=omega)only[go_sem]) rfl (by simp(disch:=omega)only[go_sem])).trans ((Le.frz 50000000 (z:=0) (ks:=[.v (.int .i64 n),.sl l'.length (qk ExV.cs l')]) (by simp(disch:=omega)only[go_sem]) rfl (by simp(disch:=omega)only[go_sem])).trans (Le.lst [(0,60000000)] _ _ rfl (by simp(disch:=omega)only[go_sem]) (by simp(disch:=omega)only[go_sem])))
 show @W Tryz.prog 9 ⟨_⟩ ⟨fun x σ=>@q8 _ _ _ ⟨_⟩ _ ⟨_⟩ x σ⟩ _ _
 simp(disch:=omega)only[go_sem]
 refine qa (c) ?_
 simp(disch:=omega)only[go_sem]
 exact qo
def zp(n:Nat)(l:List ExV)(y:ExV):List ExV:=gl n (fun i j=>(l.getD (i*n+j) ex0).times y) (n*n)
theorem KK(n:Nat)(l:List ExV)(y:ExV)(i j:Nat)(hn:n≤4)(hi:i<n)(hj:j<n)(hl:l.length=n*n)(hb:gbd (-400000) 400000 l)(hy:y.bd (-400000) 400000):
  Con Tryz.prog 199 false [.v (.int .i64 i),.v (.int .i64 j),.fp [.v (.int .i64 n),.sl l.length (qk ExV.cs l)] 0,.fp [.v (.bool y.s),.sl (lim y.m).length (qg (lim y.m)),.v (.int .i64 y.e)] 0] [] (isA (.ag [.v (.bool ((l.getD (i*n+j) ex0).times y).s),.sl (lim ((l.getD (i*n+j) ex0).times y).m).length (qg (lim ((l.getD (i*n+j) ex0).times y).m)),.v (.int .i64 ((l.getD (i*n+j) ex0).times y).e)])):=by
 refine Con.frzA ?_
 have hx:=q7 hi hj
 have hq:=jq hn
 have c1:=yL n l i j (by omega) (by omega) (by omega) (by omega) (by omega)
 have b1:=qF hb (show i*n+j<l.length by omega)
 generalize l.getD (i*n+j) ex0=x at*
 refine Con.of_w (rs:=[.cell 6 97]) Tryz.func199 rfl Tryz.ntmps199 rfl ?_
 simp(disch:=omega)only[go_sem]
 refine qs rfl [⟨0,[],[]⟩,⟨1,[0],[]⟩,⟨2,[0],[]⟩,⟨4,[0],[]⟩,⟨3,[4],[]⟩,⟨5,[],[]⟩,⟨6,[],[]⟩] (by kernel_rfl) ?_
 simp(disch:=omega)only[go_sem]
 refine qa (c1) ?_
 simp(disch:=omega)only[go_sem]
 refine qa (ZH x y b1 hy) ?_
 simp(disch:=omega)only[go_sem]
 exact qo
theorem Yq(n:Nat)(l:List ExV)(y:ExV)(hn:n≤4)(hl:l.length=n*n)(hb:gbd (-400000) 400000 l)(hy:y.bd (-400000) 400000):Con Tryz.prog 122 false [.ag [.v (.int .i64 (n)),.sl (l).length (qk ExV.cs (l))],.ag [.v (.bool (y).s),.sl (lim (y).m).length (qg (lim (y).m)),.v (.int .i64 (y).e)]] [] (isA (.ag [.v (.int .i64 (n)),.sl (zp n l y).length (qk ExV.cs (zp n l y))])):=by
 refine Con.frzA ?_
 have c:=zL n 199 [.fp [.v (.int .i64 n),.sl l.length (qk ExV.cs l)] 0,.fp [.v (.bool y.s),.sl (lim y.m).length (qg (lim y.m)),.v (.int .i64 y.e)] 0] (fun i j=>(l.getD (i*n+j) ex0).times y) hn (fun i j hi hj=>KK n l y i j hn hi hj hl hb hy) (by simp(disch:=omega)only[go_sem]) (fun h=>rfl) (fun h=>rfl) (fun ks=>by simp(disch:=omega)only[go_sem]) (fun ρ=>rfl)
 change Con _ _ _ _ _ (isA (.ag [.v (.int .i64 (n)),.sl (zp n l y).length (qk ExV.cs (zp n l y))]))at c
 refine Con.of_aw Tryz.func122 rfl Tryz.ntmps122 (by simp) (by simp) (by simp) (AW.seqLe (E:=[(2,.fp [.v (.int .i64 n),.sl l.length (qk ExV.cs l)] 0),(3,.fp [.v (.bool y.s),.sl (lim y.m).length (qg (lim y.m)),.v (.int .i64 y.e)] 0),(4,.pt 0 0)]) (H:=[(0,.own 0 [.v (.int .i64 0),.v (.slice none 0 0)])]) (W.sound ?_) (W.sound ?_))
 ·show @W Tryz.prog 9 ⟨_⟩ ⟨_⟩ _ _
  simp(disch:=omega)only[go_sem]
  exact(Le.frz 40000000 (z:=0) (ks:=[.v (.int .i64 n),.sl l.length (qk ExV.cs l)]) (by simp(disch:=omega)only[go_sem]) rfl (by simp(disch:=omega)only[go_sem])).trans ((Le.frz 50000000 (z:=0) (ks:=[.v (.bool y.s),.sl (lim y.m).length (qg (lim y.m)),.v (.int .i64 y.e)]) (by simp(disch:=omega)only[go_sem]) rfl (by simp(disch:=omega)only[go_sem])).trans (Le.lst [(0,60000000)] _ _ rfl (by simp(disch:=omega)only[go_sem]) (by simp(disch:=omega)only[go_sem])))
 show @W Tryz.prog 9 ⟨_⟩ ⟨fun x σ=>@q8 _ _ _ ⟨_⟩ _ ⟨_⟩ x σ⟩ _ _
 simp(disch:=omega)only[go_sem]
 refine qa (c) ?_
 simp(disch:=omega)only[go_sem]
 exact qo
def adJ(n:Nat)(l:List ExV)(low mode:Int):List ExV:=gl n (fun i j=>(l.getD (i*n+j) ex0).rnd low mode) (n*n)
theorem ah6(n:Nat)(l:List ExV)(low mode:Int)(i j:Nat)(hn:n≤4)(hi:i<n)(hj:j<n)(hl:l.length=n*n)(hb:gbd (-400000) 400000 l)(hlo: -400000≤low∧low≤400000):
  Con Tryz.prog 114 false [.v (.int .i64 i),.v (.int .i64 j),.fp [.v (.int .i64 n),.sl l.length (qk ExV.cs l)] 0,.fp [.v (.int .i64 low)] 0,.fp [.v (.int .i64 mode)] 0] [] (isA (.ag [.v (.bool ((l.getD (i*n+j) ex0).rnd low mode).s),.sl (lim ((l.getD (i*n+j) ex0).rnd low mode).m).length (qg (lim ((l.getD (i*n+j) ex0).rnd low mode).m)),.v (.int .i64 ((l.getD (i*n+j) ex0).rnd low mode).e)])):=by
 refine Con.frzA ?_
 have hx:=q7 hi hj
 have hq:=jq hn
 have c1:=yL n l i j (by omega) (by omega) (by omega) (by omega) (by omega)
 have b1:=qF hb (show i*n+j<l.length by omega)
 generalize l.getD (i*n+j) ex0=x at*
 refine Con.of_w (rs:=[.cell 7 97]) Tryz.func114 rfl Tryz.ntmps114 rfl ?_
 simp(disch:=omega)only[go_sem]
 refine qs rfl [⟨0,[],[]⟩,⟨1,[0],[]⟩,⟨2,[0],[]⟩,⟨4,[0],[]⟩,⟨5,[0,4],[]⟩,⟨10,[0,4,5],[]⟩,⟨3,[4,5],[100000000]⟩,⟨6,[],[100000000]⟩,⟨7,[],[100000000]⟩,⟨8,[],[100000000]⟩,⟨9,[],[100000000]⟩,⟨11,[],[]⟩,⟨12,[],[]⟩] (by kernel_rfl) ?_
 simp(disch:=omega)only[go_sem]
 refine qa (c1) ?_
 simp(disch:=omega)only[go_sem]
 refine qa (ami x low mode b1 hlo) ?_
 simp(disch:=omega)only[go_sem]
 exact qo
theorem Jv(n:Nat)(l:List ExV)(low mode:Int)(hn:n≤4)(hl:l.length=n*n)(hb:gbd (-400000) 400000 l)(hlo: -400000≤low∧low≤400000):Con Tryz.prog 54 false [.ag [.v (.int .i64 (n)),.sl (l).length (qk ExV.cs (l))],.v (.int .i64 low),.v (.int .i64 mode)] [] (isA (.ag [.v (.int .i64 (n)),.sl (adJ n l low mode).length (qk ExV.cs (adJ n l low mode))])):=by
 refine Con.frzA ?_
 have c:=zL n 114 [.fp [.v (.int .i64 n),.sl l.length (qk ExV.cs l)] 0,.fp [.v (.int .i64 low)] 0,.fp [.v (.int .i64 mode)] 0] (fun i j=>(l.getD (i*n+j) ex0).rnd low mode) hn (fun i j hi hj=>ah6 n l low mode i j hn hi hj hl hb hlo) (by simp(disch:=omega)only[go_sem]) (fun h=>rfl) (fun h=>rfl) (fun ks=>by simp(disch:=omega)only[go_sem]) (fun ρ=>rfl)
 change Con _ _ _ _ _ (isA (.ag [.v (.int .i64 (n)),.sl (adJ n l low mode).length (qk ExV.cs (adJ n l low mode))]))at c
 refine Con.of_aw Tryz.func54 rfl Tryz.ntmps54 (by simp) (by simp) (by simp) (AW.seqLe (E:=[(3,.fp [.v (.int .i64 n),.sl l.length (qk ExV.cs l)] 0),(4,.fp [.v (.int .i64 low)] 0),(5,.fp [.v (.int .i64 mode)] 0),(6,.pt 0 0)]) (H:=[(0,.own 0 [.v (.int .i64 0),.v (.slice none 0 0)])]) (W.sound ?_) (W.sound ?_))
 ·show @W Tryz.prog 11 ⟨_⟩ ⟨_⟩ _ _
  simp(disch:=omega)only[go_sem]
  exact(Le.frz 50000000 (z:=0) (ks:=[.v (.int .i64 n),.sl l.length (qk ExV.cs l)]) (by simp(disch:=omega)only[go_sem]) rfl (by simp(disch:=omega)only[go_sem])).trans ((Le.frz 60000000 (z:=0) (ks:=[.v (.int .i64 low)]) (by simp(disch:=omega)only[go_sem]) rfl (by simp(disch:=omega)only[go_sem])).trans ((Le.frz 70000000 (z:=0) (ks:=[.v (.int .i64 mode)]) (by simp(disch:=omega)only[go_sem]) rfl (by simp(disch:=omega)only[go_sem])).trans (Le.lst [(0,80000000)] _ _ rfl (by simp(disch:=omega)only[go_sem]) (by simp(disch:=omega)only[go_sem]))))
 show @W Tryz.prog 11 ⟨_⟩ ⟨fun x σ=>@q8 _ _ _ ⟨_⟩ _ ⟨_⟩ x σ⟩ _ _
 simp(disch:=omega)only[go_sem]
 refine qa (c) ?_
 simp(disch:=omega)only[go_sem]
 exact qo
def ex1:ExV:=⟨false,1,0⟩
theorem acv:Con Tryz.prog 118 false [] [] (isA (.ag [.v (.bool (ex1).s),.sl (lim (ex1).m).length (qg (lim (ex1).m)),.v (.int .i64 (ex1).e)])):=by
 refine Con.frzA ?_
 refine Con.of_w (rs:=[.cell 0 97]) Tryz.func118 rfl Tryz.ntmps118 rfl ?_
 simp(disch:=omega)only[go_sem]
 refine qa (jH 1 (by omega)) ?_
 simp(disch:=omega)only[go_sem]
 exact qo (hp:=by simp(disch:=omega)only[go_sem,ex1])
def idF(i j:Nat):ExV:=if i=j then ex1 else ex0
def gId(n:Nat):List ExV:=gl n idF (n*n)
theorem arH(i j:Nat):Con Tryz.prog 117 false [.v (.int .i64 i),.v (.int .i64 j)] [] (isA (.ag [.v (.bool (idF i j).s),.sl (lim (idF i j).m).length (qg (lim (idF i j).m)),.v (.int .i64 (idF i j).e)])):=by
 refine Con.frzA ?_
 refine Con.of_w (rs:=[.cell 4 97]) Tryz.func117 rfl Tryz.ntmps117 rfl ?_
 simp(disch:=omega)only[go_sem]
 refine qh (fun h1=>?_) (fun h1=>?_)
 ·simp(disch:=omega)only[go_sem,h1]
  have e:idF i j=ex1:=if_pos (by omega)
  rw[e]
  refine qa (acv) ?_
  simp(disch:=omega)only[go_sem]
  exact qo
 ·simp(disch:=omega)only[go_sem,h1]
  have e:idF i j=ex0:=if_neg (by omega)
  rw[e]
  exact qo (hp:=by simp(disch:=omega)only[go_sem,ex0,qt,List.length_nil,acg])
theorem arI(n:Nat)(hn:n≤4):Con Tryz.prog 55 false [.v (.int .i64 n)] [] (isA (.ag [.v (.int .i64 (n)),.sl (gId n).length (qk ExV.cs (gId n))])):=by
 refine Con.frzA ?_
 have c:=zL n 117 [] idF hn (fun i j hi hj=>arH i j) (by simp(disch:=omega)only[go_sem]) (fun h=>rfl) (fun h=>rfl) (fun ks=>by simp(disch:=omega)only[go_sem]) (fun ρ=>rfl)
 change Con _ _ _ _ _ (isA (.ag [.v (.int .i64 (n)),.sl (gId n).length (qk ExV.cs (gId n))]))at c
 refine Con.of_w (rs:=[.cell 2 89]) Tryz.func55 rfl Tryz.ntmps55 rfl ?_
 simp(disch:=omega)only[go_sem]
 refine qa (c) ?_
 simp(disch:=omega)only[go_sem]
 exact qo
theorem Qq{lo hi:Int}(g:Nat→ExV)(h0:lo≤0∧0≤hi):∀k:Nat,(∀t,t<k→(g t).bd lo hi)→((List.range k).foldl (fun s t=>s.plus (g t)) ex0).bd lo (hi+k)
 |0,_=>acp h0.1 (by simpa using h0.2)
 |k+1,h=>by
  rw[List.range_succ,List.foldl_append,List.foldl_cons,List.foldl_nil]
  have:=ExV.plus_bd (Qq g h0 k fun t ht=>h t (by omega)) ((h k (by omega)).mono (Int.le_refl _) (show hi≤hi+k by omega))
  exact this.mono (Int.le_refl _) (by omega)
def ZF(n:Nat)(l l':List ExV)(i j k:Nat):ExV:=(List.range k).foldl (fun s t=>s.plus ((l.getD (i*n+t) ex0).times (l'.getD (t*n+j) ex0))) ex0
def qO(n:Nat)(l l':List ExV):List ExV:=gl n (fun i j=>ZF n l l' i j n) (n*n)
theorem ahs(n:Nat)(l l':List ExV)(i j:Nat):ZF n l l' i j 0=ex0:=rfl
theorem Zc(n:Nat)(l l':List ExV)(i j k:Nat):ZF n l l' i j (k+1)=(ZF n l l' i j k).plus ((l.getD (i*n+k) ex0).times (l'.getD (k*n+j) ex0)):=by
 unfold ZF;rw[List.range_succ,List.foldl_append,List.foldl_cons,List.foldl_nil]
theorem J9{l1 h1 l2 h2:Int}{n:Nat}{l l':List ExV}{i j k:Nat}(hi:i<n)(hj:j<n)(hk:k≤n)(hl:l.length=n*n)(hl':l'.length=n*n)(hb:gbd l1 h1 l)(hb':gbd l2 h2 l')(h0:l1+l2≤0∧0≤h1+h2):(ZF n l l' i j k).bd (l1+l2) (h1+h2+k):=
 Qq _ h0 k fun t ht=>ExV.times_bd (qF hb (by rw[hl];exact q7 hi (by omega))) (qF hb' (by rw[hl'];exact q7 (by omega) hj))
theorem abi(n:Nat)(l l':List ExV)(i j:Nat)(hn:n≤4)(hi:i<n)(hj:j<n)(hl:l.length=n*n)(hl':l'.length=n*n)(hb:gbd (-190000) 190000 l)(hb':gbd (-190000) 190000 l'):
  Con Tryz.prog 203 false [.v (.int .i64 i),.v (.int .i64 j),.fp [.v (.int .i64 n),.sl l.length (qk ExV.cs l)] 0,.fp [.v (.int .i64 n),.sl l'.length (qk ExV.cs l')] 0] [] (isA (.ag [.v (.bool (ZF n l l' i j n).s),.sl (lim (ZF n l l' i j n).m).length (qg (lim (ZF n l l' i j n).m)),.v (.int .i64 (ZF n l l' i j n).e)])):=by
 refine Con.frzA ?_
 have hq:=jq hn
 refine Con.of_w (rs:=[.cell 6 97]) Tryz.func203 rfl Tryz.ntmps203 rfl ?_
 simp(disch:=omega)only[go_sem]
 refine qj (fun k:Nat=>[(0,.v (.int .i64 i)),(1,.v (.int .i64 j)),(2,.fp [.v (.int .i64 n),.sl l.length (qk ExV.cs l)] 0),(3,.fp [.v (.int .i64 n),.sl l'.length (qk ExV.cs l')] 0),(6,.pt 1 0),(7,.pt 0 0),(10,.v (.int .i64 n)),(11,.v (.int .i64 k))])
  (fun k=>[(0,.own 0 [.v (.bool (ZF n l l' i j k).s),.sl (lim (ZF n l l' i j k).m).length (qg (lim (ZF n l l' i j k).m)),.v (.int .i64 (ZF n l l' i j k).e)]),(1,.own 0 [.v (.bool false),.v (.slice none 0 0),.v (.int .i64 0)])])
  (fun k=>k≤n) (fun k=>n-k) 0 (by omega) ?_ ?_
 ·exact(Le.nilC 90000000 1 (zo:=0) (cs:=[.v (.bool false),.v (.slice none 0 0),.v (.int .i64 0)]) (by simp(disch:=omega)only[go_sem]) rfl).trans (Le.lst [(0,90000000),(1,80000000)] _ _ rfl (by simp(disch:=omega)only[go_sem]) (by simp(disch:=omega)only[go_sem,List.set_cons_succ,List.set_cons_zero,ahs,ex0,qt]))
 intro k hk
 have hD:=J9 (k:=k) hi hj hk hl hl' hb hb' (by omega)
 have hs:=Zc n l l' i j k
 generalize hDD:ZF n l l' i j k=D at*
 simp(disch:=omega)only[go_sem]
 refine qh (fun h1=>?_) (fun h1=>?_)
 ·have hk2:k<n:=by omega
  have hx:=q7 hi hk2
  have hx':=q7 hk2 hj
  have c1:=yL n l i k (by omega) (by omega) (by omega) (by omega) (by omega)
  have c2:=yL n l' k j (by omega) (by omega) (by omega) (by omega) (by omega)
  have b1:=qF hb (show i*n+k<l.length by omega)
  have b2:=qF hb' (show k*n+j<l'.length by omega)
  generalize l.getD (i*n+k) ex0=x at*
  generalize l'.getD (k*n+j) ex0=y at*
  simp(disch:=omega)only[go_sem,h1]
  refine qs rfl [⟨0,[],[]⟩,⟨1,[0],[]⟩,⟨2,[0,1],[]⟩,⟨3,[0,1],[]⟩,⟨5,[0,1],[]⟩,⟨6,[0,1,5],[]⟩,⟨7,[0,1,5],[]⟩,⟨4,[0,5],[]⟩,⟨8,[0],[]⟩,⟨9,[0],[]⟩,⟨10,[],[]⟩,⟨11,[],[]⟩] (by kernel_rfl) ?_
  simp(disch:=omega)only[go_sem]
  refine qa (c1) ?_
  simp(disch:=omega)only[go_sem]
  refine qa (c2) ?_
  simp(disch:=omega)only[go_sem]
  refine qa (ZH x y (b1.mono (by omega) (by omega)) (b2.mono (by omega) (by omega))) ?_
  simp(disch:=omega)only[go_sem]
  refine qa (y8 D (x.times y) (hD.mono (by omega) (by omega)) ((ExV.times_bd b1 b2).mono (by omega) (by omega))) ?_
  simp(disch:=omega)only[go_sem]
  exact qe (k+1) [] (by show k+1≤_;omega) (by show n-(k+1)<n-k;omega) rfl (by simp(disch:=omega)only[go_sem];try omega) (by simp(disch:=omega)only[go_sem,hs])
 ·simp(disch:=omega)only[go_sem,h1]
  obtain rfl:n=k:=by omega
  rw[hDD]
  exact qo
theorem aeg(n:Nat)(l l':List ExV)(hn:n≤4)(hl:l.length=n*n)(hl':l'.length=n*n)(hb:gbd (-190000) 190000 l)(hb':gbd (-190000) 190000 l'):Con Tryz.prog 124 false [.ag [.v (.int .i64 (n)),.sl (l).length (qk ExV.cs (l))],.ag [.v (.int .i64 (n)),.sl (l').length (qk ExV.cs (l'))]] [] (isA (.ag [.v (.int .i64 (n)),.sl (qO n l l').length (qk ExV.cs (qO n l l'))])):=by
 refine Con.frzA ?_
 have c:=zL n 203 [.fp [.v (.int .i64 n),.sl l.length (qk ExV.cs l)] 0,.fp [.v (.int .i64 n),.sl l'.length (qk ExV.cs l')] 0] (fun i j=>ZF n l l' i j n) hn (fun i j hi hj=>abi n l l' i j hn hi hj hl hl' hb hb') (by simp(disch:=omega)only[go_sem]) (fun h=>rfl) (fun h=>rfl) (fun ks=>by simp(disch:=omega)only[go_sem]) (fun ρ=>rfl)
 change Con _ _ _ _ _ (isA (.ag [.v (.int .i64 (n)),.sl (qO n l l').length (qk ExV.cs (qO n l l'))]))at c
 refine Con.of_aw Tryz.func124 rfl Tryz.ntmps124 (by simp) (by simp) (by simp) (AW.seqLe (E:=[(2,.fp [.v (.int .i64 n),.sl l.length (qk ExV.cs l)] 0),(3,.fp [.v (.int .i64 n),.sl l'.length (qk ExV.cs l')] 0),(4,.pt 0 0)]) (H:=[(0,.own 0 [.v (.int .i64 0),.v (.slice none 0 0)])]) (W.sound ?_) (W.sound ?_))
 ·show @W Tryz.prog 9 ⟨_⟩ ⟨_⟩ _ _
  simp(disch:=omega)only[go_sem]
  exact(Le.frz 40000000 (z:=0) (ks:=[.v (.int .i64 n),.sl l.length (qk ExV.cs l)]) (by simp(disch:=omega)only[go_sem]) rfl (by simp(disch:=omega)only[go_sem])).trans ((Le.frz 50000000 (z:=0) (ks:=[.v (.int .i64 n),.sl l'.length (qk ExV.cs l')]) (by simp(disch:=omega)only[go_sem]) rfl (by simp(disch:=omega)only[go_sem])).trans (Le.lst [(0,60000000)] _ _ rfl (by simp(disch:=omega)only[go_sem]) (by simp(disch:=omega)only[go_sem])))
 show @W Tryz.prog 9 ⟨_⟩ ⟨fun x σ=>@q8 _ _ _ ⟨_⟩ _ ⟨_⟩ x σ⟩ _ _
 simp(disch:=omega)only[go_sem]
 refine qa (c) ?_
 simp(disch:=omega)only[go_sem]
 exact qo
end Go.Ab
namespace Go.Ab
open Go Go.Proofs
theorem j8:qk ExV.cs []=[]:=yt
def mpT{X Y:Type}(l:List X)(F:X→Y)(i:Nat):List Y:=(l.take i).map F
theorem XP{X Y:Type}{l:List X}{F:X→Y}:mpT l F 0=[]:=rfl
theorem jY{X Y:Type}{l:List X}{F:X→Y}{i:Nat}(h:i≤l.length):(mpT l F i).length=i:=by unfold mpT;rw[List.length_map,List.length_take];omega
theorem Q4{X Y:Type}{l:List X}{F:X→Y}{i:Nat}(d:X)(h:i<l.length):mpT l F (i+1)=mpT l F i++[F (l.getD i d)]:=by
 unfold mpT
 rw[List.take_add_one,List.getElem?_eq_getElem h,List.map_append,List.getD_eq_getElem?_getD,List.getElem?_eq_getElem h];rfl
theorem Zx{X Y:Type}{l:List X}{F:X→Y}:mpT l F l.length=l.map F:=by unfold mpT;rw[List.take_length]
def sbd(lo hi:Int)(l:List SpV):Prop:=∀x∈l,x.bd lo hi
set_option maxRecDepth 100000 in
theorem Yf(n:Int)(l:List ExV)(hl:l.length≤1000):Con Tryz.prog 53 false [.ag [.v (.int .i64 n),.sl l.length (qk ExV.cs l)]] [] (isA (.ag [.v (.int .i64 n),.sl l.length (qk ExV.cs l)])):=by
 refine Con.frzA ?_
 refine Con.of_aw Tryz.func53 rfl Tryz.ntmps53 (by simp) (by simp) (by simp) (W.sound ?_)
 show @W Tryz.prog 25 ⟨_⟩ ⟨fun x σ=>@q8 _ _ _ ⟨_⟩ _ ⟨_⟩ x σ⟩ _ _
 simp(disch:=omega)only[go_sem]
 refine qj (fun i:Nat=>[(10,.sl l.length (qk ExV.cs l)),(11,.v (.int .i64 l.length)),(12,.v (.int .i64 i)),(3,.pt 0 0),(2,.pt 2 0)])
  (fun i=>[(0,.own 0 [.v (.int .i64 n),.rf 1 0 i]),(1,.own 3 (qk ExV.cs (mpT l (id) i))),(2,.own 0 [.v (.int .i64 0),.v (.slice none 0 0)])]) (fun i=>i≤l.length) (fun i=>l.length-i) 0 (by omega)
  ((Le.ghostC 50000000 1 1 3 (zo:=0) (cs:=[.v (.int .i64 n),.v (.slice none 0 0)]) (by simp(disch:=omega)only[go_sem]) rfl (by simp(disch:=omega)only[go_sem])).trans (Le.lst [(0,50000000),(2,40000000)] _ _ rfl (by simp(disch:=omega)only[go_sem]) (by simp(disch:=omega)only[go_sem,XP,j8,List.set_cons_succ,List.set_cons_zero]))) ?_
 intro i hi
 simp(disch:=omega)only[go_sem]
 refine qh (fun h1=>?_) (fun h1=>?_)
 ·have hi2:i<l.length:=by omega
  have hci:=zJ hi2
  have hcut:=zv (jY (F:=id) hi)
  have hml:=jY (F:=id) hi
  have hs:=Q4 (F:=id) ex0 hi2
  generalize l.getD i ex0=x at*
  simp(disch:=omega)only[go_sem,h1,hci]
  refine⟨by omega,by omega,?_⟩
  refine qs rfl [⟨0,[],[]⟩,⟨1,[],[]⟩,⟨2,[1],[]⟩,⟨3,[1],[]⟩,⟨4,[1],[]⟩,⟨5,[],[]⟩,⟨6,[],[]⟩,⟨7,[],[]⟩] (by kernel_rfl) ?_
  simp(disch:=omega)only[go_sem]
  refine qa (abl x.s x.m x.e) ?_
  simp(disch:=omega)only[go_sem]
  simp(disch:=omega)only[go_sem,hcut,Qr]
  refine⟨⟨by rw[hml];exact Nat.le_refl _,by omega⟩,qe (i+1) [(1,230000000)] (by show i+1≤_;omega) (by show l.length-(i+1)<l.length-i;omega) rfl (by simp(disch:=omega)only[go_sem];try omega) (by simp(disch:=omega)only[go_sem,hs,id_eq])⟩
 ·simp(disch:=omega)only[go_sem,h1]
  obtain rfl:i=l.length:=by omega
  refine ql [(0,1)] [.own 3 (qk ExV.cs (mpT l (id) l.length))] [] [.ag [.v (.int .i64 n),.rf 0 0 l.length]] rfl (by simp(disch:=omega)only[go_sem]) (by simp(disch:=omega)only[go_sem]) (by simp) (by simp) ?_
  show qE _ 6 _=_
  simp(disch:=omega)only[go_sem,zg,Zx,zv (l:=l.map (id)) (k:=l.length) (List.length_map ..),List.map_id,zv (l:=l) (k:=l.length) rfl]
def ptS(x:ExV):SpV:=⟨x,x⟩
def aBJ(s:SpV):ExV:=(s.lo.plus s.hi).shift (-1)
end Go.Ab
namespace Go.Ab
open Go Go.Proofs
def gly{Y:Type}(n:Nat)(g:Nat→Nat→Y)(k:Nat):List Y:=(List.range k).map fun t=>g (t/n) (t % n)
theorem ay9{Y:Type}{n:Nat}{g:Nat→Nat→Y}:gly n g 0=[]:=rfl
def atC(n:Nat)(l l':List SpV)(i j k:Nat):SpV:=(List.range k).foldl (fun s t=>s.plus ((l.getD (i*n+t) sp0).times (l'.getD (t*n+j) sp0))) sp0
theorem asJ(n:Nat)(l l':List SpV)(i j:Nat):atC n l l' i j 0=sp0:=rfl
def Kj(n:Nat)(l l':List SpV):List SpV:=gly n (fun i j=>atC n l l' i j n) (n*n)
theorem SpV.times_bd{s t:SpV}{l1 h1 l2 h2:Int}(hs:s.bd l1 h1)(ht:t.bd l2 h2):(s.times t).bd (l1+l2) (h1+h2):=by
 have he:=al0 (F:=ExV.times) hs ht (fun x y hx hy=>ExV.times_bd hx hy)
 exact⟨V7 he (by simp[Zb]),XQ he (by simp[Zb])⟩
theorem SpV.plus_bd{s t:SpV}{lo hi:Int}(hs:s.bd lo hi)(ht:t.bd lo hi):(s.plus t).bd lo (hi+1):=⟨ExV.plus_bd hs.1 ht.1,ExV.plus_bd hs.2 ht.2⟩
theorem SpV.bd.mono{lo hi lo' hi':Int}{x:SpV}(h:x.bd lo hi)(h1:lo'≤lo)(h2:hi≤hi'):x.bd lo' hi':=⟨ExV.bd.mono h.1 h1 h2,ExV.bd.mono h.2 h1 h2⟩
theorem qq{lo hi lo' hi':Int}{l:List ExV}(h:gbd lo hi l)(h1:lo'≤lo)(h2:hi≤hi'):gbd lo' hi' l:=fun x hx=>ExV.bd.mono (h x hx) h1 h2
end Go.Ab
namespace Go.Ab
open Go Go.Proofs
theorem SpV.over_bd{s t:SpV}{lo hi l2 low H:Int}(hs:s.bd lo hi)(ht:l2≤t.lo.e∧l2≤t.hi.e)(h:hi-l2+1≤H)(hb:hi-lo+1+low≤H):(s.over t low).bd low H:=by
 have he:∀mode,gbd low H (Zb (fun x y=>x.over y low mode) s t):=by
  intro mode x hx
  simp only[Zb,List.mem_cons,List.not_mem_nil,or_false]at hx
  rcases hx with rfl|rfl|rfl|rfl
  ·exact ExV.over_bd hs.1 ht.1 h hb
  ·exact ExV.over_bd hs.1 ht.2 h hb
  ·exact ExV.over_bd hs.2 ht.1 h hb
  ·exact ExV.over_bd hs.2 ht.2 h hb
 exact⟨V7 (he 3) (by simp[Zb]),XQ (he 2) (by simp[Zb])⟩
def exN(k:Nat):ExV:=⟨false,k,0⟩
theorem anA{k:Nat}(hk:k<2^63):(exN k).bd 0 64:=⟨fun _=>rfl,Int.le_refl _,by show(bl k:Int)+0≤64;have:bl k≤63:=zN.2 hk;omega⟩
def SpV.divd(s:SpV)(k:Nat)(low:Int):SpV:=s.over ⟨exN k,exN k⟩ low
def axo(l l':List SpV):List SpV:=(List.range l.length).map fun i=>(l.getD i sp0).plus (l'.getD i sp0)
def fpT(l l':List SpV)(i:Nat):List SpV:=(List.range i).map fun i=>(l.getD i sp0).plus (l'.getD i sp0)
end Go.Ab
namespace Go.Ab
open Go Go.Proofs
theorem Kx(l:List ExV)(h0:0<l.length)(hl:l.length≤1000)(hb:gbd (-400000) 400000 l):Con Tryz.prog 154 false [.rf 10000000 0 l.length,.fn 110 []] [.own 3 (qk ExV.cs l)] (fun r hs bs=>r=.ag [.v (.bool (jt l).s),.sl (lim (jt l).m).length (qg (lim (jt l).m)),.v (.int .i64 (jt l).e)]∧hs=[]∧bs=[.own 3 (qk ExV.cs l)]):=by
 have hc0:=zJ (l:=l) (i:=0) h0
 have q1:decide ((l.length:Int)<1)=false:=decide_eq_false (by omega)
 refine Con.of_aw Tryz.func154 rfl Tryz.ntmps154 (by simp) (by simp) (by simp) (W.sound ?_)
 show @W Tryz.prog 33 ⟨_⟩ ⟨fun x σ=>@q8 _ _ _ ⟨_⟩ _ ⟨_⟩ x σ⟩ _ _
 simp(disch:=omega)only[go_sem,q1,hc0]
 refine⟨by omega,by omega,?_⟩
 refine qj (fun x:Nat×ExV=>[(0,.rf 10000000 0 l.length),(1,.fn 110 []),(4,.pt 1 0),(5,.pt 0 0),(6,.v (.int .i64 x.1))])
  (fun x=>[(0,.own 0 [.v (.bool x.2.s),.sl (lim x.2.m).length (qg (lim x.2.m)),.v (.int .i64 x.2.e)]),(1,.own 0 [.v (.bool false),.v (.slice none 0 0),.v (.int .i64 0)]),(10000000,.own 3 (qk ExV.cs l))])
  (fun x=>1≤x.1∧x.1≤l.length∧x.2=((l.take x.1).drop 1).foldl jR (l.getD 0 ex0)) (fun x=>l.length-x.1) (1,l.getD 0 ex0) ⟨by omega,by omega,by simp⟩
  (Le.lst [(0,70000000),(1,60000000)] _ _ rfl (by simp(disch:=omega)only[go_sem]) (by simp(disch:=omega)only[go_sem])) ?_
 rintro⟨i,m⟩ ⟨h1,hi,hm⟩
 dsimp only at h1 hi hm ⊢
 have hmb:m.bd (-400000) 400000:=by
  rw[hm];exact Vc ab7 _ _ (qF hb h0) (fun x hx=>hb x (List.mem_of_mem_take (List.mem_of_mem_drop hx)))
 simp(disch:=omega)only[go_sem]
 refine qh (fun h2=>?_) (fun h2=>?_)
 ·have hi2:i<l.length:=by omega
  have hci:=zJ (l:=l) (i:=i) hi2
  have hs:jR m (l.getD i ex0)=((l.take (i+1)).drop 1).foldl jR (l.getD 0 ex0):=by
   rw[YM h1 hi2,List.foldl_append,←hm];rfl
  simp(disch:=omega)only[go_sem,h2]
  refine qs rfl [⟨0,[],[]⟩,⟨1,[],[]⟩,⟨2,[],[]⟩,⟨3,[],[]⟩,⟨4,[],[]⟩,⟨5,[4],[]⟩,⟨6,[],[]⟩,⟨7,[],[]⟩] (by kernel_rfl) ?_
  have hg:qy Tryz.prog 110=True:=by simp(disch:=omega)only[go_sem]
  simp(disch:=omega)only[go_sem,hci,hg]
  refine⟨by omega,by omega,?_⟩
  refine qm (acB (l.getD i ex0) m (qF hb hi2) hmb) ?_
  simp(disch:=omega)only[go_sem]
  generalize l.getD i ex0=y at*
  refine qh (fun h3=>?_) (fun h3=>?_)
  ·simp(disch:=omega)only[go_sem,h3,hci]
   have:jR m y=y:=if_pos h3
   refine⟨by omega,by omega,qe (i+1,y) [] ⟨by show 1≤i+1;omega,by show i+1≤_;omega,this▸hs⟩ (by show l.length-(i+1)<l.length-i;omega) rfl (by simp(disch:=omega)only[go_sem];try omega) (by simp(disch:=omega)only[go_sem])⟩
  ·simp(disch:=omega)only[go_sem,h3]
   have:jR m y=m:=if_neg h3
   refine qe (i+1,m) [] ⟨by show 1≤i+1;omega,by show i+1≤_;omega,this▸hs⟩ (by show l.length-(i+1)<l.length-i;omega) rfl (by simp(disch:=omega)only[go_sem];try omega) (by simp(disch:=omega)only[go_sem])
 ·simp(disch:=omega)only[go_sem,h2]
  have:i=l.length:=by omega
  subst this
  rw[List.take_length]at hm
  subst hm
  refine ql [] [] [.own 3 (qk ExV.cs l)] [.ag [.v (.bool (jt l).s),.sl (lim (jt l).m).length (qg (lim (jt l).m)),.v (.int .i64 (jt l).e)]] rfl (by simp(disch:=omega)only[go_sem,jt]) (by simp(disch:=omega)only[go_sem]) (by simp) (by simp) ⟨rfl,rfl,rfl⟩
theorem ahM(l:List ExV)(h0:0<l.length)(hl:l.length≤1000)(hb:gbd (-400000) 400000 l):Con Tryz.prog 73 false [.rf 10000000 0 l.length] [.own 3 (qk ExV.cs l)] (fun r hs bs=>r=.ag [.v (.bool (jt l).s),.sl (lim (jt l).m).length (qg (lim (jt l).m)),.v (.int .i64 (jt l).e)]∧hs=[]∧bs=[.own 3 (qk ExV.cs l)]):=by
 refine Con.of_aw Tryz.func73 rfl Tryz.ntmps73 (by simp) (by simp) (by simp) (W.sound ?_)
 show @W Tryz.prog 5 ⟨_⟩ ⟨fun x σ=>@q8 _ _ _ ⟨_⟩ _ ⟨_⟩ x σ⟩ _ _
 simp(disch:=omega)only[go_sem]
 refine zf false [10000000] (Kx l h0 hl hb) (by simp(disch:=omega)only[go_sem]) (by simp(disch:=omega)only[go_sem]) rfl (qZ (z:=3) (cs:=qk ExV.cs l) (by simp(disch:=omega)only[go_sem]) (by simp(disch:=omega)only[go_sem])) (by intro n hn;exact⟨_,List.mem_cons_self ..,by rw[List.mem_singleton.1 hn];rfl⟩) ?_
 rintro r hs bs ⟨rfl,rfl,rfl⟩-
 refine⟨by simp[qB],?_⟩
 simp(disch:=omega)only[go_sem]
 refine ql [] [] [.own 3 (qk ExV.cs l)] [.ag [.v (.bool (jt l).s),.sl (lim (jt l).m).length (qg (lim (jt l).m)),.v (.int .i64 (jt l).e)]] rfl (by simp(disch:=omega)only[go_sem]) (by simp(disch:=omega)only[go_sem]) (by simp) (by simp) ⟨rfl,rfl,rfl⟩
def aes(n:Nat)(l:List ExV)(j k:Nat):ExV:=(List.range k).foldl (fun s i=>s.plus (l.getD (i*n+j) ex0).abs) ex0
theorem KT(n:Nat)(l:List ExV)(j k:Nat):aes n l j (k+1)=(aes n l j k).plus (l.getD (k*n+j) ex0).abs:=by
 unfold aes;rw[List.range_succ,List.foldl_append,List.foldl_cons,List.foldl_nil]
theorem abu{lo hi:Int}{n:Nat}{l:List ExV}{j k:Nat}(hj:j<n)(hk:k≤n)(hl:l.length=n*n)(hb:gbd lo hi l)(h0:lo≤0∧0≤hi):(aes n l j k).bd lo (hi+k):=
 Qq _ h0 k fun t ht=>ExV.abs_bd (qF hb (by rw[hl];exact q7 (by omega) hj))
def zx(n:Nat)(l:List ExV)(k:Nat):ExV:=(List.range k).foldl (fun s j=>jt [s,aes n l j n]) ex0
theorem Zv(n:Nat)(l:List ExV)(k:Nat):zx n l (k+1)=jt [zx n l k,aes n l k n]:=by
 unfold zx;rw[List.range_succ,List.foldl_append,List.foldl_cons,List.foldl_nil]
theorem Qk{lo hi:Int}{n:Nat}{l:List ExV}(hl:l.length=n*n)(hb:gbd lo hi l)(h0:lo≤0∧0≤hi):∀k,k≤n→(zx n l k).bd lo (hi+n)
 |0,_=>acp h0.1 (by omega)
 |k+1,h=>by
  rw[Zv]
  refine XQ (fun x hx=>?_) (by simp)
  simp only[List.mem_cons,List.not_mem_nil,or_false]at hx
  rcases hx with rfl|rfl
  ·exact Qk hl hb h0 k (by omega)
  ·exact abu (by omega) (Nat.le_refl _) hl hb h0
set_option maxRecDepth 100000 in
theorem acw(n:Nat)(l:List ExV)(hn:n≤4)(hl:l.length=n*n)(hb:gbd (-390000) 390000 l):Con Tryz.prog 76 false [.ag [.v (.int .i64 (n)),.sl (l).length (qk ExV.cs (l))]] [] (isA (.ag [.v (.bool (zx n l n).s),.sl (lim (zx n l n).m).length (qg (lim (zx n l n).m)),.v (.int .i64 (zx n l n).e)])):=by
 refine Con.frzA ?_
 have hq:=jq hn
 refine Con.of_aw Tryz.func76 rfl Tryz.ntmps76 (by simp) (by simp) (by simp) (AW.seqLe (E:=[(1,.fp [.v (.int .i64 n),.sl l.length (qk ExV.cs l)] 0),(2,.pt 0 0)]) (H:=[(0,.own 0 [.v (.bool false),.v (.slice none 0 0),.v (.int .i64 0)])]) (W.sound ?_) (W.sound ?_))
 ·show @W Tryz.prog 31 ⟨_⟩ ⟨_⟩ _ _
  simp(disch:=omega)only[go_sem]
  exact(Le.frz 30000000 (z:=0) (ks:=[.v (.int .i64 n),.sl l.length (qk ExV.cs l)]) (by simp(disch:=omega)only[go_sem]) rfl (by simp(disch:=omega)only[go_sem])).trans (Le.lst [(0,40000000)] _ _ rfl (by simp(disch:=omega)only[go_sem]) (by simp(disch:=omega)only[go_sem]))
 show @W Tryz.prog 31 ⟨_⟩ ⟨fun x σ=>@q8 _ _ _ ⟨_⟩ _ ⟨_⟩ x σ⟩ _ _
 simp(disch:=omega)only[go_sem]
 refine qj (fun j:Nat=>[(1,.fp [.v (.int .i64 n),.sl l.length (qk ExV.cs l)] 0),(2,.pt 0 0),(3,.pt 1 0),(8,.v (.int .i64 n)),(9,.v (.int .i64 j))])
  (fun j=>[(0,.own 0 [.v (.bool false),.v (.slice none 0 0),.v (.int .i64 0)]),(1,.own 0 [.v (.bool (zx n l j).s),.sl (lim (zx n l j).m).length (qg (lim (zx n l j).m)),.v (.int .i64 (zx n l j).e)])]) (fun j=>j≤n) (fun j=>n-j) 0 (by omega)
  ((Le.nilC 50000000 1 (zo:=0) (cs:=[.v (.bool false),.v (.slice none 0 0),.v (.int .i64 0)]) (by simp(disch:=omega)only[go_sem]) rfl).trans (Le.lst [(1,50000000)] _ _ rfl (by simp(disch:=omega)only[go_sem]) (by simp(disch:=omega)only[go_sem,List.set_cons_succ,List.set_cons_zero,show zx n l 0=ex0 from rfl,ex0,qt]))) ?_
 intro j hj
 have hN:=Qk hl hb (by omega) j hj
 have hNs:=Zv n l j
 generalize hNN:zx n l j=A at*
 simp(disch:=omega)only[go_sem]
 refine qh (fun h1=>?_) (fun h1=>?_)
 ·simp(disch:=omega)only[go_sem,h1]
  refine qj (fun k:Nat=>[(1,.fp [.v (.int .i64 n),.sl l.length (qk ExV.cs l)] 0),(2,.pt 0 0),(3,.pt 1 0),(4,.v (.int .i64 j)),(5,.pt 2 0),(8,.v (.int .i64 n)),(9,.v (.int .i64 j)),(13,.v (.int .i64 n)),(14,.v (.int .i64 k))])
   (fun k=>[(0,.own 0 [.v (.bool false),.v (.slice none 0 0),.v (.int .i64 0)]),(1,.own 0 [.v (.bool A.s),.sl (lim A.m).length (qg (lim A.m)),.v (.int .i64 A.e)]),(2,.own 0 [.v (.bool (aes n l j k).s),.sl (lim (aes n l j k).m).length (qg (lim (aes n l j k).m)),.v (.int .i64 (aes n l j k).e)])]) (fun k=>k≤n) (fun k=>n-k) 0 (by omega)
   ((Le.nilC 70000000 1 (zo:=0) (cs:=[.v (.bool false),.v (.slice none 0 0),.v (.int .i64 0)]) (by simp(disch:=omega)only[go_sem]) rfl).trans (Le.lst [(2,70000000)] _ _ rfl (by simp(disch:=omega)only[go_sem]) (by simp(disch:=omega)only[go_sem,List.set_cons_succ,List.set_cons_zero,show aes n l j 0=ex0 from rfl,ex0,qt]))) ?_
  intro k hk
  have hC:=abu (k:=k) (show j<n by omega) hk hl hb (by omega)
  have hCs:=KT n l j k
  generalize hCC:aes n l j k=D at*
  simp(disch:=omega)only[go_sem]
  refine qh (fun h2=>?_) (fun h2=>?_)
  ·have hx:=q7 (show k<n by omega) (show j<n by omega)
   have c1:=yL n l k j (by omega) (by omega) (by omega) (by omega) (by omega)
   have b1:=qF hb (show k*n+j<l.length by omega)
   generalize l.getD (k*n+j) ex0=x at*
   simp(disch:=omega)only[go_sem,h2]
   refine qs rfl [⟨0,[],[]⟩,⟨1,[0],[]⟩,⟨2,[0,1],[]⟩,⟨3,[0,1],[]⟩,⟨4,[0],[]⟩,⟨5,[0],[]⟩,⟨6,[],[]⟩,⟨7,[],[]⟩] (by kernel_rfl) ?_
   simp(disch:=omega)only[go_sem]
   refine qa (c1) ?_
   simp(disch:=omega)only[go_sem]
   refine qa (amq x) ?_
   simp(disch:=omega)only[go_sem]
   refine qa (y8 D x.abs (hC.mono (by omega) (by omega)) (ExV.abs_bd (b1.mono (by omega) (by omega)))) ?_
   simp(disch:=omega)only[go_sem]
   exact qe (k+1) [] (by show k+1≤_;omega) (by show n-(k+1)<n-k;omega) rfl (by simp(disch:=omega)only[go_sem];try omega) (by simp(disch:=omega)only[go_sem,hCs])
  ·obtain rfl:n=k:=by omega
   rw[hCC]at hNs
   simp(disch:=omega)only[go_sem,h2]
   have hrow:([.v (.bool A.s),.sl (lim A.m).length (qg (lim A.m)),.v (.int .i64 A.e),.v (.bool D.s),.sl (lim D.m).length (qg (lim D.m)),.v (.int .i64 D.e)]:List AV)=qk ExV.cs [A,D]:=rfl
   rw[hrow]
   refine zf false [290000000] (ahM [A,D] (by simp) (by simp) (fun x hx=>?_)) (by simp(disch:=omega)only[go_sem]) (by simp(disch:=omega)only[go_sem]) rfl (qZ (z:=3) (cs:=qk ExV.cs [A,D]) (by simp(disch:=omega)only[go_sem]) (by simp(disch:=omega)only[go_sem])) (by intro n hn;exact⟨_,List.mem_cons_self ..,by rw[List.mem_singleton.1 hn];rfl⟩) ?_
   ·simp only[List.mem_cons,List.not_mem_nil,or_false]at hx
    rcases hx with rfl|rfl
    ·exact hN.mono (by omega) (by omega)
    ·exact hC.mono (by omega) (by omega)
   rintro r hs bs ⟨rfl,rfl,rfl⟩-
   refine⟨by simp[qB],?_⟩
   simp(disch:=omega)only[go_sem]
   exact qe (j+1) [] (by show j+1≤_;omega) (by show n-(j+1)<n-j;omega) rfl (by simp(disch:=omega)only[go_sem];try omega) (by simp(disch:=omega)only[go_sem,hNs])
 ·simp(disch:=omega)only[go_sem,h1]
  obtain rfl:n=j:=by omega
  rw[hNN]
  exact qo
end Go.Ab
namespace Go.Ab
open Go Go.Proofs
def ExV.can(x:ExV):ExV:=⟨oS x.s x.m,oM x.m,oE x.m x.e⟩
def ExV.fit(x:ExV):Bool:=Km x.m x.e
def SpV.can(s:SpV):SpV:=⟨s.lo.can,s.hi.can⟩
def SpV.fit(s:SpV):Bool:=s.lo.fit&&s.hi.fit
theorem aic(x:ExV)(hx:x.bd (-400000) 400000):Con Tryz.prog 123 false [.ag [.v (.bool (x).s),.sl (lim (x).m).length (qg (lim (x).m)),.v (.int .i64 (x).e)]] [] (isA (if x.fit=true then .tu [.ag [.v (.bool (x.can).s),.sl (lim (x.can).m).length (qg (lim (x.can).m)),.v (.int .i64 (x.can).e)],.v (.bool true)]else .tu [.ag [.v (.bool (false)),.sl (lim (0)).length (qg (lim (0))),.v (.int .i64 (0))],.v (.bool false)])):=by
 obtain⟨a1,a2,a3⟩:=hx
 exact arJ x.s x.m x.e (by omega) (by omega)
set_option maxRecDepth 100000 in
theorem aib(l:List ExV)(hl:l.length≤1000)(hb:gbd (-400000) 400000 l):Con Tryz.prog 197 false [.sl l.length (qk ExV.cs l)] []
  (isA (if l.all ExV.fit=true then .tu [.sl l.length (qk ExV.cs (l.map ExV.can)),.v (.bool true)]else .tu [.sl 0 [],.v (.bool false)])):=by
 refine Con.frzA ?_
 refine Con.of_aw Tryz.func197 rfl Tryz.ntmps197 (by simp) (by simp) (by simp) (W.sound ?_)
 show @W Tryz.prog 28 ⟨_⟩ ⟨fun x σ=>@q8 _ _ _ ⟨_⟩ _ ⟨_⟩ x σ⟩ _ _
 simp(disch:=omega)only[go_sem]
 refine qj (fun i:Nat=>[(2,.v (.slice none 0 0)),(3,.v (.bool false)),(4,.rf 1 0 i),(9,.sl l.length (qk ExV.cs l)),(10,.v (.int .i64 l.length)),(11,.v (.int .i64 i))])
  (fun i=>[(1,.own 3 (qk ExV.cs (mpT l ExV.can i)))]) (fun i=>i≤l.length∧∀x∈l.take i,x.fit=true) (fun i=>l.length-i) 0 ⟨by omega,by simp⟩
  ((Le.ghost 4 1 3 (by simp(disch:=omega)only[go_sem]) (by simp(disch:=omega)only[go_sem])).trans (Le.lst [] _ _ rfl (by simp(disch:=omega)only[go_sem]) (by simp(disch:=omega)only[go_sem,XP,j8]))) ?_
 rintro i ⟨hi,hf⟩
 simp(disch:=omega)only[go_sem]
 refine qh (fun h1=>?_) (fun h1=>?_)
 ·have hi2:i<l.length:=by omega
  have hci:=zJ hi2
  have hcut:=zv (jY (F:=ExV.can) hi)
  have hml:=jY (F:=ExV.can) hi
  have hs:=Q4 (F:=ExV.can) ex0 hi2
  have hx:=qF hb hi2
  have hmem:l.getD i ex0∈l:=by rw[List.getD_eq_getElem?_getD,List.getElem?_eq_getElem hi2];exact List.getElem_mem _
  have htk:l.take (i+1)=l.take i++[l.getD i ex0]:=by
   rw[List.take_add_one,List.getElem?_eq_getElem hi2,List.getD_eq_getElem?_getD,List.getElem?_eq_getElem hi2];rfl
  generalize l.getD i ex0=x at*
  have cd:=aic x hx
  simp(disch:=omega)only[go_sem,h1,hci]
  refine⟨by omega,by omega,?_⟩
  cases hft:x.fit
  ·have hall:l.all ExV.fit=false:=by rw[List.all_eq_false];exact⟨x,hmem,by rw[hft];simp⟩
   rw[hft,if_neg (by simp)]at cd
   rw[hall,if_neg (by simp)]
   refine qa (cd) ?_
   simp(disch:=omega)only[go_sem]
   exact qo
  ·rw[hft,if_pos rfl]at cd
   refine qa (cd) ?_
   simp(disch:=omega)only[go_sem]
   simp(disch:=omega)only[go_sem,hcut,Qr]
   refine⟨⟨by rw[hml];exact Nat.le_refl _,by omega⟩,qe (i+1) [(1,270000000)] ⟨by show i+1≤_;omega,fun y hy=>?_⟩ (by show l.length-(i+1)<l.length-i;omega) rfl (by simp(disch:=omega)only[go_sem];try omega) (by simp(disch:=omega)only[go_sem,hs])⟩
   rw[htk]at hy
   rcases List.mem_append.1 hy with h|h
   ·exact hf y h
   ·rw[List.mem_singleton.1 h];exact hft
 ·simp(disch:=omega)only[go_sem,h1]
  obtain rfl:i=l.length:=by omega
  rw[List.take_length]at hf
  have hall:l.all ExV.fit=true:=List.all_eq_true.2 hf
  rw[hall,if_pos rfl]
  refine ql [(0,1)] [.own 3 (qk ExV.cs (mpT l ExV.can l.length))] [] [.rf 0 0 l.length,.v (.bool true)] rfl (by simp(disch:=omega)only[go_sem]) (by simp(disch:=omega)only[go_sem]) (by simp) (by simp) ?_
  show qE _ 6 _=_
  simp(disch:=omega)only[go_sem,aag,zg,Zx,zv (l:=l.map ExV.can) (k:=l.length) (List.length_map ..)]
theorem aa4(n:Nat)(l:List ExV)(hl:l.length≤1000)(hb:gbd (-400000) 400000 l):Con Tryz.prog 120 false [.ag [.v (.int .i64 (n)),.sl (l).length (qk ExV.cs (l))]] []
  (isA (if l.all ExV.fit=true then .tu [.ag [.v (.int .i64 n),.sl l.length (qk ExV.cs (l.map ExV.can))],.v (.bool true)]else .tu [.ag [.v (.int .i64 0),.sl 0 []],.v (.bool false)])):=by
 refine Con.frzA ?_
 have cd:=aib l hl hb
 generalize l.map ExV.can=L at*
 cases hf:l.all ExV.fit
 ·rw[hf,if_neg (by simp)]at cd
  rw[if_neg (by simp)]
  refine Con.of_w (rs:=[.cell 2 25,.tmp 3]) Tryz.func120 rfl Tryz.ntmps120 rfl ?_
  simp(disch:=omega)only[go_sem]
  refine qa (cd) ?_
  simp(disch:=omega)only[go_sem]
  exact qo
 ·rw[hf,if_pos rfl]at cd
  rw[if_pos rfl]
  refine Con.of_w (rs:=[.cell 2 25,.tmp 3]) Tryz.func120 rfl Tryz.ntmps120 rfl ?_
  simp(disch:=omega)only[go_sem]
  refine qa (cd) ?_
  simp(disch:=omega)only[go_sem]
  exact qo
end Go.Ab
namespace Go.Ab
open Go Go.Proofs
def fct:Nat→Nat
 |0=>1
 |n+1=>(n+1)*fct n
def tmS(W:Nat):Nat→Nat→Nat
 |_,0=>0
 |k,f+1=>if fct (k+1)*2^k<2^W then tmS W (k+1) f else k
def tmF(W:Nat):Nat:=tmS W 1 402
end Go.Ab
namespace Go.Ab
open Go Go.Proofs
instance (lo hi:Int)(x:ExV):Decidable (x.bd lo hi):=inferInstanceAs (Decidable ((x.m=0→x.s=false)∧lo≤x.e∧(bl x.m:Int)+x.e≤hi))
instance (lo hi:Int)(x:SpV):Decidable (x.bd lo hi):=inferInstanceAs (Decidable (x.lo.bd lo hi∧x.hi.bd lo hi))
instance (lo hi:Int)(l:List ExV):Decidable (gbd lo hi l):=inferInstanceAs (Decidable (∀x∈l,x.bd lo hi))
instance (lo hi:Int)(l:List SpV):Decidable (sbd lo hi l):=inferInstanceAs (Decidable (∀x∈l,x.bd lo hi))
def hB:List SpV:=(zp 1 [ex0] (ex1.shift 0)).map ptS
def hSt:Nat→List SpV×List SpV
 |0=>((gId 1).map ptS,(gId 1).map ptS)
 |i+1=>(axo (hSt i).1 ((Kj 1 (hSt i).2 hB).map fun s=>s.divd (i+1) (-22)),(Kj 1 (hSt i).2 hB).map fun s=>s.divd (i+1) (-22))
def aBP:List SpV:=(hSt 7).1.map fun s=>s.fat (ex1.shift (-22))
def aCr:List SpV:=aBP.map fun s=>s.out (-14)
end Go.Ab
namespace Go.Ab
open Go Go.Proofs
section
variable (g:Nat)(p:DyV→Bool)
theorem aep(x:DyV)(hf:Con Tryz.prog g true [.ag x.cs] [] (isA (.v (.bool (p x)))))(hg:qy Tryz.prog g=True):
  Con Tryz.prog 298 true [.ag x.cs,.fp [.fn g []] 0] [] (isA (.v (.bool (!p x)))):=by
 unfold DyV.cs at hf ⊢
 refine Con.of_w (rs:=[.tmp 3]) Tryz.func298 rfl Tryz.ntmps298 rfl ?_
 simp(disch:=omega)only[go_sem,hg]
 refine qr hf (by simp(disch:=omega)only[go_sem]) ?_
 rintro r hs ⟨rfl,rfl,_⟩
 refine⟨by simp[qB],?_⟩
 simp(disch:=omega)only[go_sem]
 exact qu
theorem abe(f:Nat)(caps:List AV)(xs:List DyV)(hl:xs.length≤2^40)(hf:∀x∈xs,Con Tryz.prog f true (.ag x.cs::caps) [] (isA (.v (.bool (p x)))))(hg:qy Tryz.prog f=True)
  (hc:∀h:Nat→Ob,caps.map (qE h 6)=caps) (hc5:∀h:Nat→Ob,caps.map (qE h 5)=caps) (hn:∀ks,AllL (jv ks) caps) (hr:∀ρ,ze ρ caps=caps):
  Con Tryz.prog 325 true [.sl xs.length (qk DyV.cs xs),.fn f caps] [] (fun r hs bs=>∃i:Int,r=.v (.int .i64 i)∧hs=[]∧(0≤i↔∃x∈xs,p x=true)):=by
 refine Con.of_aw Tryz.func325 rfl Tryz.ntmps325 (by simp) (by simp) (by simp) (W.sound ?_)
 show @W Tryz.prog 19 ⟨_⟩ ⟨fun x σ=>@q8 _ _ _ ⟨_⟩ _ ⟨_⟩ x σ⟩ _ _
 simp(disch:=omega)only[go_sem]
 refine qj (fun i:Nat=>[(0,.sl xs.length (qk DyV.cs xs)),(1,.fn f caps),(6,.sl xs.length (qk DyV.cs xs)),(7,.v (.int .i64 xs.length)),(8,.v (.int .i64 i))])
  (fun _=>[]) (fun i=>i≤xs.length∧∀j,j<i→p (xs.getD j ⟨false,[],0⟩)=false) (fun i=>xs.length-i) 0 ⟨by omega,fun j hj=>by omega⟩ (Le.lst [] _ _ rfl (by simp(disch:=omega)only[go_sem,hr,hn]) (by simp(disch:=omega)only[go_sem])) ?_
 rintro i ⟨hi,hp⟩
 simp(disch:=omega)only[go_sem]
 refine qh (fun h1=>?_) (fun h1=>?_)
 ·have hcut:=Zs (l:=xs) Xf (i:=i) (by omega) ⟨false,[],0⟩
  simp(disch:=omega)only[go_sem,h1,hcut,hg]
  refine⟨by omega,by omega,qr (hf (xs.getD i ⟨false,[],0⟩) (by rw[List.getD_eq_getElem?_getD,List.getElem?_eq_getElem (by omega)];exact List.getElem_mem _)) (by simp(disch:=omega)only[go_sem,hc,hc5]) ?_⟩
  rintro r hs ⟨rfl,rfl,_⟩
  refine⟨by simp[qB],?_⟩
  simp(disch:=omega)only[go_sem]
  refine QA (fun h2=>?_) (fun h2=>?_)
  ·simp(disch:=omega)only[go_sem,h2]
   refine qv (by simp(disch:=omega)only[go_sem]) (by simp(disch:=omega)only[go_sem]) ⟨i,rfl,rfl,?_⟩
   refine⟨fun _=>⟨_,?_,h2⟩,fun _=>by omega⟩
   rw[List.getD_eq_getElem?_getD,List.getElem?_eq_getElem (by omega)];exact List.getElem_mem _
  ·simp(disch:=omega)only[go_sem,h2]
   refine qe (i+1) [] ⟨by omega,fun j hj=>?_⟩ (by show xs.length-(i+1)<xs.length-i;omega) rfl (by simp(disch:=omega)only[go_sem,hr,hn];try omega) (by simp(disch:=omega)only[go_sem])
   rcases(by omega:j<i∨j=i)with h|h
   ·exact hp j h
   ·subst h;exact h2
 ·simp(disch:=omega)only[go_sem,h1]
  refine qv (by simp(disch:=omega)only[go_sem]) (by simp(disch:=omega)only[go_sem]) ⟨-1,rfl,rfl,?_⟩
  refine⟨fun h=>by omega,fun⟨x,hx,hpx⟩=>?_⟩
  obtain⟨j,hj,rfl⟩:=List.getElem_of_mem hx
  have:=hp j (by omega)
  rw[List.getD_eq_getElem?_getD,List.getElem?_eq_getElem hj]at this
  simp only[Option.getD_some]at this
  rw[this]at hpx;cases hpx
theorem YP(f:Nat)(caps:List AV)(xs:List DyV)(hl:xs.length≤2^40)(hf:∀x∈xs,Con Tryz.prog f true (.ag x.cs::caps) [] (isA (.v (.bool (p x)))))(hg:qy Tryz.prog f=True)
  (hc:∀h:Nat→Ob,caps.map (qE h 6)=caps) (hc5:∀h:Nat→Ob,caps.map (qE h 5)=caps) (hn:∀ks,AllL (jv ks) caps) (hr:∀ρ,ze ρ caps=caps):
  Con Tryz.prog 297 true [.sl xs.length (qk DyV.cs xs),.fn f caps] [] (isA (.v (.bool (xs.any p)))):=by
 refine Con.of_aw Tryz.func297 rfl Tryz.ntmps297 (by simp) (by simp) (by simp) (W.sound ?_)
 show @W Tryz.prog 9 ⟨_⟩ ⟨fun x σ=>@q8 _ _ _ ⟨_⟩ _ ⟨_⟩ x σ⟩ _ _
 simp(disch:=omega)only[go_sem]
 refine qr (abe p f caps xs hl hf hg hc hc5 hn hr) (by simp(disch:=omega)only[go_sem,hc,hc5]) ?_
 rintro r hs ⟨i,rfl,rfl,hi⟩
 refine⟨by simp[qB],?_⟩
 simp(disch:=omega)only[go_sem]
 refine qv (by simp(disch:=omega)only[go_sem]) (by simp(disch:=omega)only[go_sem]) ⟨?_,rfl,rfl⟩
 have:decide (0≤i)=xs.any p:=by rw[Bool.eq_iff_iff,decide_eq_true_eq,hi,List.any_eq_true]
 rw[this];rfl
theorem aih(xs:List DyV)(hl:xs.length≤2^40)(hf:∀x∈xs,Con Tryz.prog g true [.ag x.cs] [] (isA (.v (.bool (p x)))))(hg:qy Tryz.prog g=True):
  Con Tryz.prog 254 true [.sl xs.length (qk DyV.cs xs),.fn g []] [] (isA (.v (.bool (xs.all p)))):=by
 refine Con.of_aw Tryz.func254 rfl Tryz.ntmps254 (by simp) (by simp) (by simp) (W.sound ?_)
 show @W Tryz.prog 9 ⟨_⟩ ⟨fun x σ=>@q8 _ _ _ ⟨_⟩ _ ⟨_⟩ x σ⟩ _ _
 simp(disch:=omega)only[go_sem]
 refine qr (YP (fun x=> !p x) 298 [.fp [.fn g []] 0] xs hl (fun x hx=>aep g p x (hf x hx) hg) (by simp(disch:=omega)only[go_sem]) (fun h=>rfl) (fun h=>rfl) (fun ks=>by simp(disch:=omega)only[go_sem]) (fun ρ=>rfl)) (by simp(disch:=omega)only[go_sem]) ?_
 rintro r hs ⟨rfl,rfl,_⟩
 refine⟨by simp[qB],?_⟩
 simp(disch:=omega)only[go_sem]
 refine qv (by simp(disch:=omega)only[go_sem]) (by simp(disch:=omega)only[go_sem]) ⟨?_,rfl,rfl⟩
 have:(!xs.any fun x=> !p x)=xs.all p:=by rw[List.all_eq_not_any_not]
 rw[this];rfl
end
def DyV.ok(x:DyV):Bool:=dyB x.s x.xs x.e
theorem aeo(xs:List DyV)(hl:xs.length≤2^40)(hx:∀x∈xs,x.xs.length≤2^40):Con Tryz.prog 190 true [.sl xs.length (qk DyV.cs xs)] [] (isA (.v (.bool (xs.all DyV.ok)))):=by
 refine Con.of_w (rs:=[.tmp 2]) Tryz.func190 rfl Tryz.ntmps190 rfl ?_
 simp(disch:=omega)only[go_sem]
 refine qm (aih 255 DyV.ok xs hl (fun x h=>amn x.s x.xs x.e (hx x h)) (by simp(disch:=omega)only[go_sem])) ?_
 simp(disch:=omega)only[go_sem]
 exact qu
def Vy(n:Int)(l:List DyV):Bool:=(decide (1≤n)&&decide (n≤4))&&(decide ((l.length:Int)=n*n)&&l.all DyV.ok)
theorem KS(n:Int)(l:List DyV)(hl:l.length≤2^40)(hx:∀x∈l,x.xs.length≤2^40):Con Tryz.prog 109 true [.ag [.v (.int .i64 n),.sl l.length (qk DyV.cs l)]] [] (isA (.v (.bool (Vy n l)))):=by
 unfold Vy
 cases h1:(decide (1≤n)&&decide (n≤4))
 ·rw[Bool.false_and]
  refine Con.of_w (rs:=[.tmp 2]) Tryz.func109 rfl Tryz.ntmps109 rfl ?_
  simp(disch:=omega)only[go_sem]
  refine qm (zw n 1 4) ?_
  simp(disch:=omega)only[go_sem]
  simp(disch:=omega)only[go_sem,h1]
  exact qu
 ·rw[Bool.true_and]
  have h1':1≤n∧n≤4:=by simpa using h1
  have hq:0≤n*n∧n*n≤16:=⟨Int.mul_nonneg (by omega) (by omega),Int.mul_le_mul h1'.2 h1'.2 (by omega) (by omega)⟩
  cases h2:decide ((l.length:Int)=n*n)
  ·rw[Bool.false_and]
   refine Con.of_w (rs:=[.tmp 2]) Tryz.func109 rfl Tryz.ntmps109 rfl ?_
   simp(disch:=omega)only[go_sem]
   refine qm (zw n 1 4) ?_
   simp(disch:=omega)only[go_sem]
   simp(disch:=omega)only[go_sem,h1,h2]
   exact qu
  ·rw[Bool.true_and]
   refine Con.of_w (rs:=[.tmp 2]) Tryz.func109 rfl Tryz.ntmps109 rfl ?_
   simp(disch:=omega)only[go_sem]
   refine qm (zw n 1 4) ?_
   simp(disch:=omega)only[go_sem]
   simp(disch:=omega)only[go_sem,h1,h2]
   refine qm (aeo l hl hx) ?_
   simp(disch:=omega)only[go_sem]
   exact qu
end Go.Ab
namespace Go.Ab
open Go Go.Proofs
def ExV.dy(x:ExV):DyV:=⟨x.s,lim x.m,x.e⟩
theorem atG(l:List ExV):qk ExV.cs l=qk DyV.cs (l.map ExV.dy):=by unfold qk;rw[List.map_map];rfl
def ExV.ok(x:ExV):Bool:=dyB x.s (lim x.m) x.e
def asM(n:Int)(l:List ExV):Bool:=(decide (1≤n)&&decide (n≤4))&&(decide ((l.length:Int)=n*n)&&l.all ExV.ok)
theorem agw(n:Int)(l:List ExV):Vy n (l.map ExV.dy)=asM n l:=by
 unfold Vy asM
 rw[List.length_map,List.all_map];rfl
theorem aer(n:Int)(l:List ExV)(hl:l.length≤2^40)(hx:∀x∈l,(lim x.m).length≤2^40):Con Tryz.prog 109 true [.ag [.v (.int .i64 n),.sl l.length (qk ExV.cs l)]] [] (isA (.v (.bool (asM n l)))):=by
 have:=KS n (l.map ExV.dy) (by rw[List.length_map];exact hl) (fun x h=>by
  obtain⟨y,hy,rfl⟩:=List.mem_map.1 h
  exact hx y hy)
 rw[agw,←atG,List.length_map]at this
 exact this
theorem akG{x:ExV}(h:x.ok=true):x.bd (-3000) 4600:=by
 obtain⟨m,e1,h1,h2,h3,_,h4⟩:=aaO h
 have e2:x.m=m:=XV e1
 subst e2
 exact⟨h4,by omega,by omega⟩
def aBw(F:List SpV)(X:List ExV)(k:Nat):List ExV:=(List.range k).map fun i=>jt [((F.getD i sp0).hi.plus (X.getD i ex0).neg).abs,((X.getD i ex0).plus (F.getD i sp0).lo.neg).abs]
def aBT(n:Nat)(F:List SpV)(low:Int):List ExV:=adJ n (F.map aBJ) low 0
def aAU(n:Nat)(F:List SpV)(low:Int):ExV:=zx n (aBw F (aBT n F low) (n*n)) n
theorem X6{lo hi low mode:Int}{n:Nat}{l:List ExV}(hl:l.length=n*n)(h:gbd lo hi l)(h1:lo≤low)(h2:low≤hi):gbd lo (hi+1) (adJ n l low mode):=
 X5 fun i j hi hj=>ExV.rnd_bd (qF h (by rw[hl];exact q7 hi hj)) h1 h2
end Go.Ab
namespace Go.Ab
open Go Go.Proofs
theorem Qa(a b:Nat)(la:(lim a).length≤2^40)(lb:(lim b).length≤2^40):
  Con Tryz.prog 248 true [.ag [.sl (lim (a)).length (qg (lim (a)))],.ag [.sl (lim (b)).length (qg (lim (b)))]] [] (isA (.v (.int .i64 (zF a b)))):=by
 refine Con.of_w (rs:=[.tmp 4]) Tryz.func248 rfl Tryz.ntmps248 rfl ?_
 simp(disch:=omega)only[go_sem]
 refine je (fun h1=>?_) (fun h1=>?_)
 ·simp(disch:=omega)only[go_sem,h1]
  refine qh (fun h2=>?_) (fun h2=>?_)
  ·simp(disch:=omega)only[go_sem,h2]
   have:=Q5 (a:=a) (b:=b) (by omega)
   rw[show zF (a:Int) (b:Int)= -1 by unfold zF;rw[if_pos (by omega)]]
   exact qu
  ·simp(disch:=omega)only[go_sem,h2]
   have:=Q5 (a:=b) (b:=a) (by omega)
   rw[show zF (a:Int) (b:Int)=1 by unfold zF;rw[if_neg (by omega),if_pos (by omega)]]
   exact qu
 ·simp(disch:=omega)only[go_sem,h1]
  have hl:(lim a).length=(lim b).length:=by omega
  refine qj (fun k:Nat=>[(2,.pt 40000000 0),(3,.pt 50000000 0),(5,.v (.int .i64 ((k:Int)-1)))])
   (fun _=>[(40000000,.own 0 [.sl (lim (a)).length (qg (lim (a)))]),(50000000,.own 0 [.sl (lim (b)).length (qg (lim (b)))])]) (fun k=>k≤(lim a).length∧(lim a).drop k=(lim b).drop k) (fun k=>k) (lim a).length ⟨Nat.le_refl _,by rw[List.drop_length,hl,List.drop_length]⟩ (Le.lst [] _ _ rfl (by simp(disch:=omega)only[go_sem];try omega) (by simp(disch:=omega)only[go_sem])) ?_
  rintro k ⟨hk,hd⟩
  simp(disch:=omega)only[go_sem]
  refine qh (fun h2=>?_) (fun h2=>?_)
  ·obtain⟨i,rfl⟩:∃i,k=i+1:=⟨k-1,by omega⟩
   have ei:((i+1:Nat):Int)-1=(i:Nat):=by omega
   have hva:=qY a
   have hvb:=qY b
   simp(disch:=omega)only[go_sem,h2,ei]
   refine qs rfl [⟨0,[],[]⟩,⟨1,[],[]⟩,⟨2,[1],[]⟩,⟨3,[],[]⟩,⟨4,[],[]⟩,⟨5,[1,4],[]⟩,⟨6,[1,4],[]⟩,⟨7,[1,4,6],[]⟩,⟨8,[1,4],[]⟩,⟨9,[1,4],[]⟩,⟨10,[],[]⟩] (by kernel_rfl) ?_
   simp(disch:=omega)only[go_sem,ei]
   refine⟨by omega,by omega,by omega,by omega,?_⟩
   refine qh (fun h3=>?_) (fun h3=>?_)
   ·simp(disch:=omega)only[go_sem,h3]
    have:=Ji (q5 a) (q5 b) (by omega) hl hd h3
    rw[show zF (a:Int) (b:Int)= -1 by unfold zF;rw[if_pos (by omega)]]
    exact qu
   ·simp(disch:=omega)only[go_sem,h3]
    refine qs rfl [⟨0,[],[]⟩,⟨1,[],[]⟩,⟨2,[1],[]⟩,⟨3,[],[]⟩,⟨4,[],[]⟩,⟨5,[1,4],[]⟩,⟨6,[1,4],[]⟩,⟨7,[1,4,6],[]⟩,⟨8,[1,4],[]⟩,⟨9,[1,4],[]⟩,⟨10,[],[]⟩] (by kernel_rfl) ?_
    simp(disch:=omega)only[go_sem,ei]
    refine⟨by omega,by omega,by omega,by omega,?_⟩
    refine qh (fun h4=>?_) (fun h4=>?_)
    ·simp(disch:=omega)only[go_sem,h4]
     have:=Ji (q5 b) (q5 a) (by omega) hl.symm hd.symm h4
     rw[show zF (a:Int) (b:Int)=1 by unfold zF;rw[if_neg (by omega),if_pos (by omega)]]
     exact qu
    ·simp(disch:=omega)only[go_sem,h4]
     refine qe i [] ⟨by omega,?_⟩ (by show i<i+1;omega) rfl (by simp(disch:=omega)only[go_sem];try omega) (by simp(disch:=omega)only[go_sem])
     have h5:(lim a).getD i 0=(lim b).getD i 0:=by omega
     rw[y6 (l:=lim a) (by omega),y6 (l:=lim b) (by omega),h5,hd]
  ·simp(disch:=omega)only[go_sem,h2]
   have:k=0:=by omega
   subst this
   rw[List.drop_zero,List.drop_zero]at hd
   have:=XV hd
   subst this
   rw[show zF (a:Int) (a:Int)=0 by simp[zF]]
   exact qu
theorem ah2(cl:Bool)(a b:Nat)(hle:b≤a)(la:(lim a).length≤1000000):Con Tryz.prog 252 cl [.ag [.sl (lim (a)).length (qg (lim (a)))],.ag [.sl (lim (b)).length (qg (lim (b)))]] [] (ak8 (a-b)):=by
 have lB:(lim b).length≤(lim a).length:=yy hle
 have hA:=q5 a
 have hB:=q5 b
 refine Con.of_aw Tryz.func252 rfl Tryz.ntmps252 (by simp) (by simp) (by simp) (W.sound ?_)
 show @W Tryz.prog 45 ⟨_⟩ ⟨fun x σ=>@q8 _ _ _ ⟨_⟩ _ ⟨_⟩ x σ⟩ _ _
 simp(disch:=omega)only[go_sem]
 refine qj (fun x:Nat×List Int×Int=>[(2,.pt 2 0),(3,.pt 3 0),(4,.pt 4 0),(5,.rf 1 0 x.2.1.length),(6,.v (.int .i64 x.2.2)),(7,.v (.int .i64 x.1))])
  (fun x=>[(1,.own 1 (qg x.2.1)),(2,.own 0 [.sl (lim (a)).length (qg (lim (a)))]),(3,.own 0 [.sl (lim (b)).length (qg (lim (b)))]),(4,.own 0 [.v (.slice none 0 0)])])
  (fun x=>x.1≤(lim a).length∧x.2.1.length=x.1∧gd x.2.1∧(0≤x.2.2∧x.2.2≤1)∧vl x.2.1-65536^x.1*x.2.2=vl ((lim a).take x.1)-vl ((lim b).take x.1))
  (fun x=>(lim a).length-x.1) (0,[],0) ⟨by simp,rfl,JZ,by simp,by simp[vl]⟩
  ((Le.ghost 5 1 1 (by simp(disch:=omega)only[go_sem]) (by simp(disch:=omega)only[go_sem])).trans (Le.lst [(2,40000000),(3,50000000),(4,60000000)] _ _ rfl (by simp(disch:=omega)only[go_sem]) (by simp(disch:=omega)only[go_sem]))) ?_
 rintro⟨i,out,bo⟩ ⟨hi,hol,hog,hbo,hov⟩
 dsimp only at hi hol hog hbo hov ⊢
 simp(disch:=omega)only[go_sem]
 refine qh (fun h1=>?_) (fun h1=>?_)
 ·have hx:=qL hA i
  have hy:=qL hB i
  have hstep:∀z b':Int,(lim a).getD i 0-bo-(lim b).getD i 0=z-65536*b'→vl (out++[z])-65536^(i+1)*b'=vl ((lim a).take (i+1))-vl ((lim b).take (i+1)):=by
   intro z b' hz
   rw[jL,qX,qX,hol,Int.pow_succ]
   generalize (65536:Int)^i=Pi at*
   grind
  have hyz:¬i<(lim b).length→(lim b).getD i 0=0:=fun h=>by rw[List.getD_eq_getElem?_getD,List.getElem?_eq_none (by omega)];rfl
  simp(disch:=omega)only[go_sem,h1]
  refine⟨by omega,by omega,qh (fun h2=>?_) (fun h2=>?_)⟩
  ·simp(disch:=omega)only[go_sem,h2]
   refine⟨by omega,by omega,qh (fun h3=>?_) (fun h3=>?_)⟩
   ·simp(disch:=omega)only[go_sem,h3]
    refine⟨by omega,qe (i+1,out++[(lim a).getD i 0-bo-(lim b).getD i 0+65536],1) [(1,440000000)] ⟨by show i+1≤_;omega,by simp[hol],qM.2 ⟨hog,jf.2 (by omega)⟩,by simp,hstep ((lim a).getD i 0-bo-(lim b).getD i 0+65536) 1 (by omega)⟩ (by show(lim a).length-(i+1)<(lim a).length-i;omega) rfl (by simp(disch:=omega)only[go_sem,List.length_append];try omega) (by simp(disch:=omega)only[go_sem])⟩
   ·simp(disch:=omega)only[go_sem,h3]
    refine⟨by omega,qe (i+1,out++[(lim a).getD i 0-bo-(lim b).getD i 0],0) [(1,440000000)] ⟨by show i+1≤_;omega,by simp[hol],qM.2 ⟨hog,jf.2 (by omega)⟩,by simp,hstep ((lim a).getD i 0-bo-(lim b).getD i 0) 0 (by omega)⟩ (by show(lim a).length-(i+1)<(lim a).length-i;omega) rfl (by simp(disch:=omega)only[go_sem,List.length_append];try omega) (by simp(disch:=omega)only[go_sem])⟩
  ·simp(disch:=omega)only[go_sem,h2]
   refine qh (fun h3=>?_) (fun h3=>?_)
   ·simp(disch:=omega)only[go_sem,h3]
    have hy0:=hyz (by omega)
    refine⟨by omega,qe (i+1,out++[(lim a).getD i 0-bo+65536],1) [(1,440000000)] ⟨by show i+1≤_;omega,by simp[hol],qM.2 ⟨hog,jf.2 (by omega)⟩,by simp,hstep ((lim a).getD i 0-bo+65536) 1 (by omega)⟩ (by show(lim a).length-(i+1)<(lim a).length-i;omega) rfl (by simp(disch:=omega)only[go_sem,List.length_append];try omega) (by simp(disch:=omega)only[go_sem])⟩
   ·simp(disch:=omega)only[go_sem,h3]
    have hy0:=hyz (by omega)
    refine⟨by omega,qe (i+1,out++[(lim a).getD i 0-bo],0) [(1,440000000)] ⟨by show i+1≤_;omega,by simp[hol],qM.2 ⟨hog,jf.2 (by omega)⟩,by simp,hstep ((lim a).getD i 0-bo) 0 (by omega)⟩ (by show(lim a).length-(i+1)<(lim a).length-i;omega) rfl (by simp(disch:=omega)only[go_sem,List.length_append];try omega) (by simp(disch:=omega)only[go_sem])⟩
 ·simp(disch:=omega)only[go_sem,h1]
  have hiA:i=(lim a).length:=by omega
  subst hiA
  rw[List.take_length,List.take_of_length_le lB]at hov
  have hva:=qY a
  have hvb:=qY b
  have hb0:bo=0:=by
   have h2:=Jc hog
   rw[hol]at h2
   rcases(by omega:bo=0∨bo=1)with h|h
   ·exact h
   ·subst h;omega
  subst hb0
  have hov2:vl out=((a-b:Nat):Int):=by omega
  refine qr (jK true out (a-b) (by omega) hog hov2) (by simp(disch:=omega)only[go_sem]) ?_
  rintro r hs (⟨h0,rfl,rfl⟩|⟨zs,rfl,rfl⟩)
  ·refine⟨⟨by simp,by simp(disch:=omega)only[go_sem]⟩,?_⟩
   simp(disch:=omega)only[go_sem]
   refine ql [] [] [] [.ag [.v (.slice none 0 0)]] rfl (by simp(disch:=omega)only[go_sem]) (by simp(disch:=omega)only[go_sem]) (by simp) (by intro _;simp[zb,AV.pu,AV.pu.puL,Ob.pu,qQ]) (.inl ⟨h0,rfl,rfl⟩)
  ·refine⟨⟨by simp,by simp(disch:=omega)only[go_sem]⟩,?_⟩
   simp(disch:=omega)only[go_sem]
   refine ql [(0,460000000)] [.own 1 (qg (lim (a-b)++zs))] [] [.ag [.rf 0 0 (lim (a-b)).length]] rfl (by simp(disch:=omega)only[go_sem]) (by simp(disch:=omega)only[go_sem]) (by simp) (by intro _;simp[zb,AV.pu,AV.pu.puL,Ob.pu,qQ]) (.inr ⟨zs,rfl,rfl⟩)
end Go.Ab
namespace Go.Ab
open Go Go.Proofs
theorem Qu(a b:Nat)(hle:b≤a)(la:(lim a).length≤1000000):Con Tryz.prog 252 false [.ag [.sl (lim (a)).length (qg (lim (a)))],.ag [.sl (lim (b)).length (qg (lim (b)))]] [] (isA (.ag [.sl (lim (a-b)).length (qg (lim (a-b)))])):=(ah2 false a b hle la).natF
theorem ah1(s1:Bool)(m1:Nat)(s2:Bool)(m2:Nat)(h1:bl m1≤6000000)(h2:bl m2≤6000000):
  Con Tryz.prog 186 false [.ag [.v (.bool (s1)),.sl (lim (m1)).length (qg (lim (m1)))],.ag [.v (.bool (s2)),.sl (lim (m2)).length (qg (lim (m2)))]] [] (isA (.ag [.v (.bool (suS s1 m1 s2 m2)),.sl (lim (suM s1 m1 s2 m2)).length (qg (lim (suM s1 m1 s2 m2)))])):=by
 refine Con.frzA ?_
 have l1:=qx h1
 have l2:=qx h2
 have hge:(0≤zF (m1:Int) (m2:Int))↔m2≤m1:=by rw[abv.2.2];omega
 have hb:=acH (s1:=s1) (s2:=s2) h1 h2
 have l3:=qx hb
 rw[←afJ]
 refine Con.of_w (rs:=[.cell 4 42]) Tryz.func186 rfl Tryz.ntmps186 rfl ?_
 simp(disch:=omega)only[go_sem]
 refine QA (fun c1=>?_) (fun c1=>?_)
 ·have c1':s1=s2:=by simpa using c1
  simp(disch:=omega)only[go_sem,c1]
  subst c1'
  rw[abT,abR]at*
  refine qs rfl [⟨0,[],[]⟩,⟨1,[],[]⟩,⟨2,[1],[]⟩,⟨3,[1],[]⟩,⟨4,[1,3],[]⟩,⟨5,[1,3],[]⟩,⟨6,[1],[]⟩,⟨7,[],[]⟩,⟨8,[],[]⟩] (by kernel_rfl) ?_
  simp(disch:=omega)only[go_sem]
  refine qa (ym m1 m2 (by omega) (by omega)) ?_
  simp(disch:=omega)only[go_sem]
  refine qa (qP s1 (m1+m2) (by omega)) ?_
  simp(disch:=omega)only[go_sem]
  exact qo
 ·have c1':s1≠s2:=by simpa using c1
  simp(disch:=omega)only[go_sem,c1]
  refine qm (Qa m1 m2 (by omega) (by omega)) ?_
  simp(disch:=omega)only[go_sem]
  refine qh (fun c2=>?_) (fun c2=>?_)
  ·have c2':m2≤m1:=hge.1 (by omega)
   rw[anc c1' c2',am6 c1' c2']at*
   simp(disch:=omega)only[go_sem,c2]
   refine qs rfl [⟨0,[],[]⟩,⟨1,[],[]⟩,⟨2,[1],[]⟩,⟨3,[1],[]⟩,⟨4,[1,3],[]⟩,⟨5,[1,3],[]⟩,⟨6,[1],[]⟩,⟨7,[],[]⟩,⟨8,[],[]⟩] (by kernel_rfl) ?_
   simp(disch:=omega)only[go_sem]
   refine qa (Qu m1 m2 c2' (by omega)) ?_
   simp(disch:=omega)only[go_sem]
   refine qa (qP s1 (m1-m2) (by omega)) ?_
   simp(disch:=omega)only[go_sem]
   exact qo
  ·have c2':¬m2≤m1:=fun h=>c2 (by have:=hge.2 h;omega)
   rw[anb c1' c2',am5 c1' c2']at*
   simp(disch:=omega)only[go_sem,c2]
   refine qs rfl [⟨0,[],[]⟩,⟨1,[],[]⟩,⟨2,[1],[]⟩,⟨3,[1],[]⟩,⟨4,[1,3],[]⟩,⟨5,[1,3],[]⟩,⟨6,[1],[]⟩,⟨7,[],[]⟩,⟨8,[],[]⟩] (by kernel_rfl) ?_
   simp(disch:=omega)only[go_sem]
   refine qa (Qu m2 m1 (by omega) (by omega)) ?_
   simp(disch:=omega)only[go_sem]
   refine qa (qP s2 (m2-m1) (by omega)) ?_
   simp(disch:=omega)only[go_sem]
   exact qo
theorem ahY(s:Bool)(m:Nat)(hl:(lim m).length≤2^39):Con Tryz.prog 185 false [.ag [.v (.bool (s)),.sl (lim (m)).length (qg (lim (m)))]] [] (isA (.ag [.v (.bool ((!s)&&decide (m≠0))),.sl (lim (m)).length (qg (lim (m)))])):=by
 refine Con.frzA ?_
 refine Con.of_w (rs:=[.cell 2 42]) Tryz.func185 rfl Tryz.ntmps185 rfl ?_
 simp(disch:=omega)only[go_sem]
 refine qa (qP (!s) m hl) ?_
 simp(disch:=omega)only[go_sem]
 exact qo
theorem ahU(s:Bool)(m:Nat)(e:Int)(hl:(lim m).length≤2^39):Con Tryz.prog 103 false [.ag [.v (.bool (s)),.sl (lim (m)).length (qg (lim (m))),.v (.int .i64 (e))]] [] (isA (.ag [.v (.bool ((!s)&&decide (m≠0))),.sl (lim (m)).length (qg (lim (m))),.v (.int .i64 (e))])):=by
 refine Con.frzA ?_
 refine Con.of_w (rs:=[.cell 2 44]) Tryz.func103 rfl Tryz.ntmps103 rfl ?_
 simp(disch:=omega)only[go_sem]
 refine qs rfl [⟨0,[],[]⟩,⟨1,[],[]⟩,⟨3,[1],[]⟩,⟨4,[1],[]⟩,⟨2,[4],[]⟩,⟨5,[],[]⟩,⟨6,[],[]⟩] (by kernel_rfl) ?_
 simp(disch:=omega)only[go_sem]
 refine qa (ahY s m hl) ?_
 simp(disch:=omega)only[go_sem]
 exact qo
def alF(m1:Nat)(e1:Int)(m2:Nat)(e2:Int):Int:=if m1=0 then e2 else if m2=0 then e1 else if e1≤e2 then e1 else e2
theorem ax6(m1:Nat)(e1:Int)(m2:Nat)(e2:Int)(h:¬(m1=0∧m2=0)):alF m1 e1 m2 e2=alE m1 e1 m2 e2:=by
 unfold alF alE
 repeat' split
 all_goals omega
theorem Yk(s1:Bool)(m1:Nat)(e1:Int)(s2:Bool)(m2:Nat)(e2:Int)(h1:bl m1≤4000000)(h2:bl m2≤4000000)(he1: -1000000≤e1∧e1≤1000000)(he2: -1000000≤e2∧e2≤1000000)(z1:m1=0→s1=false)(z2:m2=0→s2=false):
  Con Tryz.prog 175 false [.ag [.v (.bool (s1)),.sl (lim (m1)).length (qg (lim (m1))),.v (.int .i64 (e1))],.ag [.v (.bool (s2)),.sl (lim (m2)).length (qg (lim (m2))),.v (.int .i64 (e2))]] [] (isA (.tu [.ag [.v (.bool (s1)),.sl (lim (alA m1 e1 (alE m1 e1 m2 e2))).length (qg (lim (alA m1 e1 (alE m1 e1 m2 e2))))],.ag [.v (.bool (s2)),.sl (lim (alA m2 e2 (alE m1 e1 m2 e2))).length (qg (lim (alA m2 e2 (alE m1 e1 m2 e2))))],.v (.int .i64 (alF m1 e1 m2 e2))])):=by
 refine Con.frzA ?_
 have l1:=qx h1
 have l2:=qx h2
 refine Con.of_aw Tryz.func175 rfl Tryz.ntmps175 (by simp) (by simp) (by simp) (W.sound ?_)
 show @W Tryz.prog 70 ⟨_⟩ ⟨fun x σ=>@q8 _ _ _ ⟨_⟩ _ ⟨_⟩ x σ⟩ _ _
 simp(disch:=omega)only[go_sem]
 refine qh (fun c1=>?_) (fun c1=>?_)
 ·have y1:m1=0:=qJ.1 (List.length_eq_zero_iff.1 (by omega))
  have eF:alF m1 e1 m2 e2=e2:=by unfold alF;rw[if_pos y1]
  have a1:alA m1 e1 (alE m1 e1 m2 e2)=m1:=by rw[y1];unfold alA;rw[Nat.zero_mul]
  have a2:alA m2 e2 (alE m1 e1 m2 e2)=m2:=by
   by_cases y2:m2=0
   ·rw[y2];unfold alA;rw[Nat.zero_mul]
   ·unfold alA alE;rw[if_neg y2,if_pos y1,Int.sub_self];simp
  simp(disch:=omega)only[go_sem,c1]
  refine qs rfl [⟨0,[],[]⟩,⟨1,[],[]⟩,⟨2,[1],[]⟩,⟨3,[1],[]⟩,⟨4,[1,3],[]⟩,⟨5,[1,3],[]⟩,⟨6,[3,5],[]⟩,⟨7,[5],[]⟩,⟨8,[],[]⟩] (by kernel_rfl) ?_
  simp(disch:=omega)only[go_sem]
  refine qW (by simp(disch:=omega)only[go_sem]) ?_
  show qE _ 6 _=_
  rw[eF,a1,a2]
  simp(disch:=omega)only[go_sem]
 ·have y1:m1≠0:=fun e=>c1 (by rw[e,qt];rfl)
  simp(disch:=omega)only[go_sem,c1]
  refine qh (fun c2=>?_) (fun c2=>?_)
  ·have y2:m2=0:=qJ.1 (List.length_eq_zero_iff.1 (by omega))
   have eF:alF m1 e1 m2 e2=e1:=by unfold alF;rw[if_neg y1,if_pos y2]
   have a1:alA m1 e1 (alE m1 e1 m2 e2)=m1:=by unfold alA alE;rw[if_pos y2,Int.sub_self];simp
   have a2:alA m2 e2 (alE m1 e1 m2 e2)=m2:=by rw[y2];unfold alA;rw[Nat.zero_mul]
   simp(disch:=omega)only[go_sem,c2]
   refine qs rfl [⟨0,[],[]⟩,⟨1,[],[]⟩,⟨2,[1],[]⟩,⟨3,[1],[]⟩,⟨4,[1,3],[]⟩,⟨5,[1,3],[]⟩,⟨6,[3,5],[]⟩,⟨7,[5],[]⟩,⟨8,[],[]⟩] (by kernel_rfl) ?_
   simp(disch:=omega)only[go_sem]
   refine qW (by simp(disch:=omega)only[go_sem]) ?_
   show qE _ 6 _=_
   rw[eF,a1,a2]
   simp(disch:=omega)only[go_sem]
  ·have y2:m2≠0:=fun e=>c2 (by rw[e,qt];rfl)
   simp(disch:=omega)only[go_sem,c2]
   refine qh (fun c3=>?_) (fun c3=>?_)
   ·have eF:alF m1 e1 m2 e2=e1:=by unfold alF;rw[if_neg y1,if_neg y2,if_pos c3]
    have eE:alE m1 e1 m2 e2=e1:=by unfold alE;rw[if_neg y2,if_neg y1,if_neg (by omega)]
    have a1:alA m1 e1 (alE m1 e1 m2 e2)=m1:=by rw[eE];unfold alA;rw[Int.sub_self];simp
    have ek:e2-e1=(((e2-e1).toNat:Nat):Int):=by omega
    have hb:bl (m2*2^(e2-e1).toNat)≤6000000:=by have:=ZS m2 (e2-e1).toNat;omega
    have l3:=qx hb
    have hn:m2*2^(e2-e1).toNat≠0:=Nat.mul_ne_zero y2 (Nat.pos_iff_ne_zero.1 (Nat.pow_pos (by omega)))
    have hd:decide (m2*2^(e2-e1).toNat≠0)=true:=decide_eq_true hn
    simp(disch:=omega)only[go_sem,c3]
    refine qs rfl [⟨0,[],[]⟩,⟨1,[],[]⟩,⟨2,[1],[]⟩,⟨3,[1],[]⟩,⟨4,[1],[]⟩,⟨5,[1,4],[]⟩,⟨6,[1,4],[]⟩,⟨7,[1,4],[]⟩,⟨8,[1,4,7],[]⟩,⟨9,[1,4,7],[]⟩,⟨10,[1,4,7,9],[]⟩,⟨11,[1,4,7,9],[]⟩,⟨12,[1,4,7],[]⟩,⟨15,[1,4,7,9,11],[]⟩,⟨16,[1,4,7,9,11],[]⟩,⟨13,[1,4,16],[]⟩,⟨14,[1,16],[]⟩,⟨17,[16],[]⟩,⟨18,[16],[]⟩,⟨19,[],[]⟩] (by kernel_rfl) ?_
    simp(disch:=omega)only[go_sem]
    refine qz (jJ m2 (e2-e1).toNat (by omega) (by omega)) (by simp(disch:=omega)only[go_sem,←ek]) ?_
    rintro r hs ⟨rfl,rfl,_⟩
    refine⟨by simp[qB],?_⟩
    simp(disch:=omega)only[go_sem]
    refine qa (qP s2 (m2*2^(e2-e1).toNat) (by omega)) ?_
    simp(disch:=omega)only[go_sem]
    refine qW (by simp(disch:=omega)only[go_sem]) ?_
    show qE _ 6 _=_
    rw[eF,a1,eE,hd];unfold alA
    simp(disch:=omega)only[go_sem,Bool.and_true]
   ·have eF:alF m1 e1 m2 e2=e2:=by unfold alF;rw[if_neg y1,if_neg y2,if_neg c3]
    have eE:alE m1 e1 m2 e2=e2:=by unfold alE;rw[if_neg y2,if_neg y1,if_pos (by omega)]
    have a2:alA m2 e2 (alE m1 e1 m2 e2)=m2:=by rw[eE];unfold alA;rw[Int.sub_self];simp
    have ek:e1-e2=(((e1-e2).toNat:Nat):Int):=by omega
    have hb:bl (m1*2^(e1-e2).toNat)≤6000000:=by have:=ZS m1 (e1-e2).toNat;omega
    have l3:=qx hb
    have hn:m1*2^(e1-e2).toNat≠0:=Nat.mul_ne_zero y1 (Nat.pos_iff_ne_zero.1 (Nat.pow_pos (by omega)))
    have hd:decide (m1*2^(e1-e2).toNat≠0)=true:=decide_eq_true hn
    simp(disch:=omega)only[go_sem,c3]
    refine qs rfl [⟨0,[],[]⟩,⟨1,[],[]⟩,⟨2,[],[]⟩,⟨3,[2],[]⟩,⟨4,[2],[]⟩,⟨5,[2],[]⟩,⟨6,[2,5],[]⟩,⟨7,[2,5],[]⟩,⟨8,[2,5,7],[]⟩,⟨9,[2,5,7],[]⟩,⟨10,[2,5],[]⟩,⟨13,[2,5,7,9],[]⟩,⟨14,[2,5,7,9],[]⟩,⟨15,[2,5,7,9,14],[]⟩,⟨16,[2,5,7,9,14],[]⟩,⟨11,[2,14,16],[]⟩,⟨12,[14,16],[]⟩,⟨17,[14,16],[]⟩,⟨18,[16],[]⟩,⟨19,[],[]⟩] (by kernel_rfl) ?_
    simp(disch:=omega)only[go_sem]
    refine qz (jJ m1 (e1-e2).toNat (by omega) (by omega)) (by simp(disch:=omega)only[go_sem,←ek]) ?_
    rintro r hs ⟨rfl,rfl,_⟩
    refine⟨by simp[qB],?_⟩
    simp(disch:=omega)only[go_sem]
    refine qa (qP s1 (m1*2^(e1-e2).toNat) (by omega)) ?_
    simp(disch:=omega)only[go_sem]
    refine qW (by simp(disch:=omega)only[go_sem]) ?_
    show qE _ 6 _=_
    rw[eF,a2,eE,hd];unfold alA
    simp(disch:=omega)only[go_sem,Bool.and_true]
theorem ahX(s1:Bool)(m1:Nat)(e1:Int)(s2:Bool)(m2:Nat)(e2:Int)(h1:bl m1≤4000000)(h2:bl m2≤4000000)(he1: -1000000≤e1∧e1≤1000000)(he2: -1000000≤e2∧e2≤1000000)(z1:m1=0→s1=false)(z2:m2=0→s2=false):
  Con Tryz.prog 104 false [.ag [.v (.bool (s1)),.sl (lim (m1)).length (qg (lim (m1))),.v (.int .i64 (e1))],.ag [.v (.bool (s2)),.sl (lim (m2)).length (qg (lim (m2))),.v (.int .i64 (e2))]] [] (isA (.ag [.v (.bool (oS (adS s1 m1 e1 s2 m2 e2) (adM s1 m1 e1 s2 m2 e2))),.sl (lim (oM (adM s1 m1 e1 s2 m2 e2))).length (qg (lim (oM (adM s1 m1 e1 s2 m2 e2)))),.v (.int .i64 (oE (adM s1 m1 e1 s2 m2 e2) (alE m1 e1 m2 e2)))])):=by
 refine Con.frzA ?_
 have hE:=Zi (m1:=m1) (m2:=m2) he1.1 he2.1
 have b1:=Ja (e:=e1) (E:=alE m1 e1 m2 e2) (C:=2000000) h1 (by omega)
 have b2:=Ja (e:=e2) (E:=alE m1 e1 m2 e2) (C:=2000000) h2 (by omega)
 have hF: -1000000≤alF m1 e1 m2 e2∧alF m1 e1 m2 e2≤1000000:=by
  unfold alF
  repeat' split
  all_goals omega
 have hX:oE (adM s1 m1 e1 s2 m2 e2) (alE m1 e1 m2 e2)=oE (adM s1 m1 e1 s2 m2 e2) (alF m1 e1 m2 e2):=by
  by_cases h:m1=0∧m2=0
  ·have:adM s1 m1 e1 s2 m2 e2=0:=by rw[h.1,h.2];unfold adM alA;rw[Nat.zero_mul,Nat.zero_mul];unfold suM;rw[yQ,yQ];rfl
   rw[this];rfl
  ·rw[ax6 _ _ _ _ h]
 rw[hX]
 have l1:=qx h1
 have l2:=qx h2
 refine Con.of_w (rs:=[.cell 4 44]) Tryz.func104 rfl Tryz.ntmps104 rfl ?_
 simp(disch:=omega)only[go_sem]
 refine qa (Yk s1 m1 e1 s2 m2 e2 h1 h2 he1 he2 z1 z2) ?_
 simp(disch:=omega)only[go_sem]
 unfold adS adM
 generalize alA m1 e1 (alE m1 e1 m2 e2)=A at*
 generalize alA m2 e2 (alE m1 e1 m2 e2)=B at*
 generalize alF m1 e1 m2 e2=E at*
 refine qa (ah1 s1 A s2 B (by omega) (by omega)) ?_
 simp(disch:=omega)only[go_sem]
 have hb:=acH (s1:=s1) (s2:=s2) b1 b2
 refine qa (jI (suS s1 A s2 B) (suM s1 A s2 B) E (by omega) (by omega)) ?_
 simp(disch:=omega)only[go_sem]
 exact qo
end Go.Ab
namespace Go.Ab
open Go Go.Proofs
theorem Kn(s:Bool)(m:Nat)(e:Int):dyB (oS s m) (lim (oM m)) (oE m e)=Km m e:=by
 unfold dyB yP Km jW
 rw[qY,Int.toNat_natCast]
 have hod:=ano m
 have hz:=aBz s m
 by_cases h:(lim (oM m)).length≤100
 ·rw[aqg _ h,decide_eq_true h,Bool.true_and,Bool.true_and]
  by_cases h0:oM m=0
  ·have hm:m=0:=zZ.1 h0
   rw[hz h0,h0,hm]
   simp[oE,qt]
  ·have h1:oM m % 2=1:=hod.resolve_right h0
   have h2:decide ((lim (oM m)).length=0)=false:=by
    have:=yg h0
    exact decide_eq_false (by omega)
   rw[h2,decide_eq_true h1]
   simp
 ·rw[decide_eq_false h]
  have:Y7 (lim (oM m))=false:=by unfold Y7;rw[decide_eq_false h,Bool.false_and]
  rw[this];simp
def pmS(s1:Bool)(m1:Nat)(s2:Bool)(m2:Nat):Bool:=(s1 != s2)&&decide (m1*m2≠0)
end Go.Ab
namespace Go.Ab
open Go Go.Proofs
theorem ah0(s1:Bool)(m1:Nat)(s2:Bool)(m2:Nat)(l1:(lim m1).length≤2^40)(l2:(lim m2).length≤2^40)(z1:m1=0→s1=false)(z2:m2=0→s2=false):
  Con Tryz.prog 176 true [.ag [.v (.bool (s1)),.sl (lim (m1)).length (qg (lim (m1)))],.ag [.v (.bool (s2)),.sl (lim (m2)).length (qg (lim (m2)))]] [] (isA (.v (.int .i64 (zF (sv s1 m1) (sv s2 m2))))):=by
 rw[KU z1 z2]
 cases s1<;>cases s2
 ·refine Con.of_w (rs:=[.tmp 4]) Tryz.func176 rfl Tryz.ntmps176 rfl ?_
  simp(disch:=omega)only[go_sem]
  refine qm (Qa m1 m2 l1 l2) ?_
  simp(disch:=omega)only[go_sem]
  exact qu
 ·refine Con.of_w (rs:=[.tmp 4]) Tryz.func176 rfl Tryz.ntmps176 rfl ?_
  simp(disch:=omega)only[go_sem]
  exact qu
 ·refine Con.of_w (rs:=[.tmp 4]) Tryz.func176 rfl Tryz.ntmps176 rfl ?_
  simp(disch:=omega)only[go_sem]
  exact qu
 ·refine Con.of_w (rs:=[.tmp 4]) Tryz.func176 rfl Tryz.ntmps176 rfl ?_
  simp(disch:=omega)only[go_sem]
  refine qm (Qa m2 m1 l2 l1) ?_
  simp(disch:=omega)only[go_sem]
  exact qu
theorem ahW(K:Nat)(s1:Bool)(m1:Nat)(e1:Int)(s2:Bool)(m2:Nat)(e2:Int)(h1:bl m1≤4000000)(h2:bl m2≤4000000)(he1: -1000000≤e1∧e1≤1000000)(he2: -1000000≤e2∧e2≤1000000)(k1: -(K:Int)≤e1)(k2: -(K:Int)≤e2)(z1:m1=0→s1=false)(z2:m2=0→s2=false):
  Con Tryz.prog 92 true [.ag [.v (.bool (s1)),.sl (lim (m1)).length (qg (lim (m1))),.v (.int .i64 (e1))],.ag [.v (.bool (s2)),.sl (lim (m2)).length (qg (lim (m2))),.v (.int .i64 (e2))]] [] (isA (.v (.int .i64 (zF (dv K s1 m1 e1) (dv K s2 m2 e2))))):=by
 have hE:=Zi (m1:=m1) (m2:=m2) he1.1 he2.1
 have b1:=qx (Ja (e:=e1) (E:=alE m1 e1 m2 e2) (C:=2000000) h1 (by omega))
 have b2:=qx (Ja (e:=e2) (E:=alE m1 e1 m2 e2) (C:=2000000) h2 (by omega))
 rw[←acD k1 k2]
 have y1:alA m1 e1 (alE m1 e1 m2 e2)=0→s1=false:=fun h=>z1 (Zj.1 h)
 have y2:alA m2 e2 (alE m1 e1 m2 e2)=0→s2=false:=fun h=>z2 (Zj.1 h)
 refine Con.of_w (rs:=[.tmp 4]) Tryz.func92 rfl Tryz.ntmps92 rfl ?_
 simp(disch:=omega)only[go_sem]
 refine qa (Yk s1 m1 e1 s2 m2 e2 h1 h2 he1 he2 z1 z2) ?_
 simp(disch:=omega)only[go_sem]
 refine qm (ah0 s1 (alA m1 e1 (alE m1 e1 m2 e2)) s2 (alA m2 e2 (alE m1 e1 m2 e2)) (by omega) (by omega) y1 y2) ?_
 simp(disch:=omega)only[go_sem]
 exact qu
end Go.Ab
namespace Go.Ab
open Go Go.Proofs
end Go.Ab
namespace Go.Ab
theorem arA{K:Nat}{s:Bool}{m:Nat}{e:Int}{s':Bool}{m':Nat}{e':Int}(he: -(K:Int)≤e)(he': -(K:Int)≤e')(h:dv K s m e=dv K s' m' e'):oS s m=oS s' m'∧oM m=oM m'∧oE m e=oE m' e':=by
 by_cases h0:m=0
 ·have h0':m'=0:=by rw[h0,ZE]at h;exact adU.1 h.symm
  rw[h0,h0'];exact⟨rfl,rfl,rfl⟩
 ·obtain⟨rfl,hM,hE,h0'⟩:=axA h0 he he' h
  refine⟨?_,hM,hE⟩
  unfold oS;rw[if_neg h0,if_neg h0']
end Go.Ab
namespace Go.Ab
open Go Go.Proofs
def ExV.val(K:Nat)(x:ExV):Int:=dv K x.s x.m x.e
theorem Q2{x:ExV}(h:x.ok=true):(-3000≤x.e∧x.e≤3000)∧bl x.m≤1600∧(lim x.m).length≤100∧(x.m=0→x.s=false∧x.e=0)∧(x.m % 2=1∨x.m=0):=by
 obtain⟨m,e1,h1,h2,h3,h4,h5⟩:=aaO h
 obtain rfl:=XV e1
 exact⟨h3,h2,h1,fun h0=>⟨h5 h0,by omega⟩,by omega⟩
theorem VZ{x:ExV}(h:x.ok=true):x.can=x:=by
 obtain⟨h1,h2,h3,h4,h5⟩:=Q2 h
 show(⟨oS x.s x.m,oM x.m,oE x.m x.e⟩:ExV)=x
 obtain⟨s,m,e⟩:=x
 dsimp only at*
 rcases h5 with o|h0
 ·have h0:m≠0:=by omega
  have ht:=abO o
  have g1:oS s m=s:=by unfold oS;rw[if_neg h0]
  have g2:oM m=m:=by have:=@ZZ m;rw[ht]at this;simpa using this
  have g3:oE m e=e:=by unfold oE;rw[if_neg h0,ht];simp
  rw[g1,g2,g3]
 ·obtain⟨rfl,rfl⟩:=h4 h0
  rw[h0,jQ];rfl
theorem acE{x:ExV}(h:x.fit=true):x.can.ok=true:=by
 show dyB (oS x.s x.m) (lim (oM x.m)) (oE x.m x.e)=true
 rw[Kn];exact h
theorem ahk:ex0.ok=true:=by show dyB false (lim 0) 0=true;rw[qt];decide
theorem jz{K:Nat}{x:ExV}(h: -(K:Int)≤x.e):x.can.val K=x.val K:=by
 show dv K (oS x.s x.m) (oM x.m) (oE x.m x.e)=_
 rw[arz h,aAd];rfl
theorem yu{K:Nat}{x y:ExV}(h1: -(K:Int)≤x.e)(h2: -(K:Int)≤y.e):(x.plus y).val K=x.val K+y.val K:=aAC h1 h2
theorem QU{K K':Nat}{x y:ExV}(h1: -(K:Int)≤x.e)(h2: -(K':Int)≤y.e):(x.times y).val (K+K')=x.val K*y.val K':=by
 show dv (K+K') ((x.s != y.s)&&decide (x.m*y.m≠0)) (x.m*y.m) (x.e+y.e)=_
 rw[ahr];exact axz h1 h2
theorem agm{K:Nat}{x:ExV}:x.neg.val K= -x.val K:=by
 show dv K ((!x.s)&&decide (x.m≠0)) x.m x.e= -dv K x.s x.m x.e
 rw[ahr];unfold dv;rw[atk,Int.neg_mul]
theorem JM{K:Int}{x y:ExV}(h1:K≤x.e)(h2:K≤y.e):K≤(x.plus y).e:=Zi h1 h2
theorem aAj{K:Int}{x:ExV}(h: -K≤x.e)(h0:0≤K): -K≤x.can.e:=ay1 h h0
theorem ait(x:ExV):x.can.ok=x.fit:=Kn x.s x.m x.e
def ExV.tel(x:ExV):ExV:=if x.fit=true then x.can else ex0
def flD(F:FlV):ExV:=⟨oS (xS F.k F.s) F.m.toNat,oM F.m.toNat,oE F.m.toNat F.e⟩
end Go.Ab
namespace Go.Ab
open Go Go.Proofs
section
variable (g:Nat)(p:IvV→Bool)
end
end Go.Ab
namespace Go.Ab
open Go Go.Proofs
/-! ### Intervals that were drawn,and those that are valid-/
def DyV.ex(d:DyV):ExV:=⟨d.s,(vl d.xs).toNat,d.e⟩
def ExV.dyv(x:ExV):DyV:=⟨x.s,lim x.m,x.e⟩
theorem aAc(x:ExV):x.dyv.ex=x:=by unfold ExV.dyv DyV.ex;rw[qY,Int.toNat_natCast]
theorem axs{d:DyV}(h:d.ok=true):d=d.ex.dyv∧d.ex.ok=true:=by
 obtain⟨s,xs,e⟩:=d
 obtain⟨m,hm, -⟩:=aaO (show dyB s xs e=true from h)
 subst hm
 have e1:(DyV.mk s (lim m) e).ex=⟨s,m,e⟩:=aAc ⟨s,m,e⟩
 rw[e1]
 exact⟨rfl,h⟩
def ivB(v:IvV):Bool:=v.lo.ok&&(v.hi.ok&&decide (v.lo.ex.val 3000≤v.hi.ex.val 3000))
def IvV.sp(v:IvV):SpV:=⟨v.lo.ex,v.hi.ex⟩
def SpV.iv(s:SpV):IvV:=⟨s.lo.dyv,s.hi.dyv⟩
def SpV.ok(s:SpV):Bool:=s.lo.ok&&(s.hi.ok&&decide (s.lo.val 3000≤s.hi.val 3000))
theorem atr{s:SpV}(h:s.ok=true):s.lo.ok=true∧s.hi.ok=true∧s.lo.val 3000≤s.hi.val 3000:=by
 simpa [SpV.ok]using h
theorem ao5{s:SpV}(h:s.ok=true):s.bd (-3000) 4600:=⟨akG (atr h).1,akG (atr h).2.1⟩
theorem Yw{K:Nat}{x y:ExV}(h1: -(K:Int)≤x.e)(h2: -(K:Int)≤y.e):x.cmp y=zF (x.val K) (y.val K):=by
 unfold ExV.cmp
 exact acD h1 h2
def aAO(v:IvV):Prop:=v.lo.xs.length≤1000∧v.hi.xs.length≤1000
def agv(s t:SpV):SpV:=⟨jt [s.lo,t.lo],Xa [s.hi,t.hi]⟩
def aBO(s t:SpV):SpV:=⟨Xa [s.lo,t.lo],jt [s.hi,t.hi]⟩
def SpV.tel(s:SpV):SpV:=if s.fit=true then s.can else sp0
def aBK(s t:SpV):SpV:=if(agv s t).lo.val 3000≤(agv s t).hi.val 3000 then agv s t else sp0
def aBk(s:SpV)(x:ExV):Bool:=decide (s.lo.val 3000≤x.val 3000)&&decide (x.val 3000≤s.hi.val 3000)
end Go.Ab
namespace Go.Ab
open Go Go.Proofs
/-! ### Matrices that were drawn,and those that are valid-/
structure matV(n:Nat)(L:List ExV):Prop where
 n1:1≤n
 n4:n≤4
 len:L.length=n*n
 ok:∀x∈L,x.ok=true
theorem auR{k:Int}{M:List DyV}(h:Vy k M=true):∃(n:Nat) (L:List ExV),k=n∧M=L.map ExV.dyv∧matV n L:=by
 simp only[Vy,Bool.and_eq_true,decide_eq_true_eq,List.all_eq_true]at h
 obtain⟨⟨h1,h2⟩,h3,h4⟩:=h
 obtain⟨n,rfl⟩:=Int.eq_ofNat_of_zero_le (show 0≤k by omega)
 have hm:M=(M.map DyV.ex).map ExV.dyv:=by
  rw[List.map_map]
  conv=>lhs;rw[←List.map_id M]
  exact List.map_congr_left fun d hd=>(axs (h4 d hd)).1
 refine⟨n,M.map DyV.ex,rfl,hm,by omega,by omega,?_,fun x hx=>?_⟩
 ·rw[List.length_map];exact_mod_cast h3
 ·obtain⟨d,hd,rfl⟩:=List.mem_map.1 hx
  exact(axs (h4 d hd)).2
theorem Jm(L:List ExV):qk DyV.cs (L.map ExV.dyv)=qk ExV.cs L:=by unfold qk;rw[List.map_map];rfl
theorem matV.bd{n:Nat}{L:List ExV}(h:matV n L):gbd (-3000) 4600 L:=fun x hx=>akG (h.ok x hx)
theorem matV.bd4{n:Nat}{L:List ExV}(h:matV n L):gbd (-400000) 400000 L:=fun x hx=>(akG (h.ok x hx)).mono (by omega) (by omega)
theorem matV.l16{n:Nat}{L:List ExV}(h:matV n L):L.length≤16:=by rw[h.len];exact jq h.n4
theorem aeq(n:Nat)(L:List ExV)(h:matV n L):Con Tryz.prog 109 true [.ag [.v (.int .i64 (n)),.sl (L).length (qk ExV.cs (L))]] [] (isA (.v (.bool true))):=by
 have c:=aer n L (by have:=h.l16;omega) (fun x hx=>by have:=(Q2 (h.ok x hx)).2.2.1;omega)
 rw[show asM n L=true by
  unfold asM
  simp only[Bool.and_eq_true,decide_eq_true_eq,List.all_eq_true]
  exact⟨⟨by have:=h.n1;omega,by have:=h.n4;omega⟩,by rw[h.len,Int.natCast_mul],h.ok⟩]at c
 exact c
def gN(n:Nat)(l:List ExV):Nat:=if l.all ExV.fit=true then n else 0
def gT(l:List ExV):List ExV:=if l.all ExV.fit=true then l.map ExV.can else []
def aCD(k:Int)(M:List DyV)(k':Int)(M':List DyV):Bool:=Vy k M&&(Vy k' M'&&decide (k=k'))
theorem J0{n:Nat}{L L':List ExV}{lo hi:Int}(hl:L.length=n*n)(hl':L'.length=n*n)(hb:gbd lo hi L)(hb':gbd lo hi L'):gbd lo (hi+1) (jx n L L'):=
 X5 fun i j hi hj=>ExV.plus_bd (qF hb (by rw[hl];exact q7 hi hj)) (qF hb' (by rw[hl'];exact q7 hi hj))
theorem adK{n:Nat}{L L':List ExV}{lo hi:Int}(hl:L.length=n*n)(hl':L'.length=n*n)(hb:gbd lo hi L)(hb':gbd lo hi L'):gbd lo (hi+1) (yh n L L'):=
 X5 fun i j hi hj=>ExV.plus_bd (qF hb (by rw[hl];exact q7 hi hj)) (ExV.neg_bd (qF hb' (by rw[hl'];exact q7 hi hj)))
end Go.Ab
namespace Go.Ab
/-! ### Sums and greatest ones of whole numbers-/
def qH(f:Nat→Int):Nat→Int
 |0=>0
 |k+1=>qH f k+f k
def aqn(f:Nat→Int):Nat→Int
 |0=>0
 |k+1=>if aqn f k<f k then f k else aqn f k
theorem qN{f g:Nat→Int}:∀{k:Nat},(∀i,i<k→f i=g i)→qH f k=qH g k
 |0,_=>rfl
 |k+1,h=>by rw[qH,qH,qN fun i hi=>h i (by omega),h k (by omega)]
theorem JC(f g:Nat→Int):∀k:Nat,qH (fun i=>f i+g i) k=qH f k+qH g k
 |0=>rfl
 |k+1=>by rw[qH,qH,qH,JC f g k];omega
theorem YU(f:Nat→Int)(c:Int):∀k:Nat,qH (fun i=>f i*c) k=qH f k*c
 |0=>by simp[qH]
 |k+1=>by rw[qH,qH,YU f c k,Int.add_mul]
theorem Qh(f:Nat→Int)(c:Int):∀k:Nat,qH (fun i=>c*f i) k=c*qH f k
 |0=>by simp[qH]
 |k+1=>by rw[qH,qH,Qh f c k,Int.mul_add]
theorem Zp:∀k:Nat,qH (fun _=>0) k=0
 |0=>rfl
 |k+1=>by rw[qH,Zp k];rfl
theorem YV(g:Nat→Nat→Int)(m:Nat):∀k:Nat,qH (fun i=>qH (fun t=>g i t) m) k=qH (fun t=>qH (fun i=>g i t) k) m
 |0=>(Zp m).symm
 |k+1=>by
  rw[qH,YV g m k,←JC]
  exact qN fun t _=>rfl
theorem jM{f:Nat→Int}{j:Nat}:∀{k:Nat},j<k→(∀i,i<k→i≠j→f i=0)→qH f k=f j
 |0,h,_=>by omega
 |k+1,h,h2=>by
  rw[qH]
  by_cases hj:j=k
  ·subst hj
   have:qH f j=qH (fun _=>0) j:=qN fun i hi=>h2 i (by omega) (by omega)
   rw[this,Zp];omega
  ·rw[jM (by omega) (fun i hi=>h2 i (by omega)),h2 k (by omega) (by omega)];omega
def nrm(A:Nat→Nat→Int)(n:Nat):Int:=aqn (fun j=>qH (fun i=>((A i j).natAbs:Int)) n) n
end Go.Ab
namespace Go.Ab
open Go Go.Proofs
/-! ### What matrices tell-/
def mv(K:Nat)(L:List ExV)(n i j:Nat):Int:=(L.getD (i*n+j) ex0).val K
def eK(K:Nat)(L:List ExV):Prop:=∀x∈L, -(K:Int)≤x.e
theorem matV.eK{n:Nat}{L:List ExV}(h:matV n L){K:Nat}(hK:3000≤K):eK K L:=fun x hx=>by have:=(Q2 (h.ok x hx)).1;omega
theorem arq(K:Nat):ex0.val K=0:=ZE
theorem ab8{n i j:Nat}(hj:j<n):(i*n+j)/n=i∧(i*n+j) % n=j:=by
 constructor
 ·rw[Nat.mul_comm,Nat.mul_add_div (by omega),Nat.div_eq_of_lt hj,Nat.add_zero]
 ·rw[Nat.mul_comm,Nat.mul_add_mod,Nat.mod_eq_of_lt hj]
end Go.Ab
namespace Go.Ab
open Go Go.Proofs
def aCx(l:List UInt8)(i h:Int):Ob:=.own 0 [.sl l.length (qG l),.v (.int .i64 i),.v (.int .i64 h)]
def aCw(l:List UInt8)(Q:AV→Prop):AV→List Ob→List Ob→Prop:=fun r hs bs=>hs=[]∧Q r∧∃i h:Int,(0≤i∧i≤l.length)∧bs=[.own 0 [.sl l.length (qG l),.v (.int .i64 i),.v (.int .i64 h)]]
section
variable {P:Program}{N f c:Nat}{aa0 args:List AV}{hp:Nat→Ob}{K:KV}{Q:AV→Prop}{e:Nat→AV}{l:List UInt8}{i h:Int}
end
def aCy(l:List UInt8)(xs:List Int)(Q:AV→Prop):AV→List Ob→List Ob→Prop:=fun r hs bs=>hs=[]∧Q r∧∃i h:Int,(0≤i∧i≤l.length)∧bs=[.own 0 [.sl l.length (qG l),.v (.int .i64 i),.v (.int .i64 h)],.own 1 (qg xs)]
section
variable {P:Program}{N f c:Nat}{aa0 args:List AV}{hp:Nat→Ob}{K:KV}{Q:AV→Prop}{e:Nat→AV}{l:List UInt8}{i h:Int}
end
section
variable (l:List UInt8)(hl:l.length≤9223372036854775807)(i h:Int)(hi:0≤i∧i≤l.length)
include hl hi
end
end Go.Ab
namespace Go.Ab
open Go Go.Proofs
section
variable (l:List UInt8)(hl:l.length≤9223372036854775807)(i h:Int)(hi:0≤i∧i≤l.length)
include hl hi
end
end Go.Ab
namespace Go.Ab
open Go Go.Proofs
end Go.Ab
namespace Go.Ab
open Go Go.Proofs
end Go.Ab
namespace Go.Ab
open Go Go.Proofs
def awV(s:Bool)(m e:Int):FlV:=if m<9007199254740991 then⟨1,s,m+1,e⟩else if e<971 then⟨1,s,4503599627370496,e+1⟩else⟨2,s,0,0⟩
def toV(k:Int)(s:Bool)(m e:Int):FlV:=if k=2 then⟨1,s,9007199254740991,971⟩else if 4503599627370496<m∨(e= -1074∧1<m)then⟨k,s,m-1,e⟩else if-1074<e then⟨k,s,9007199254740991,e-1⟩else⟨0,s,0,0⟩
def nxV(k:Int)(s:Bool)(m e:Int):FlV:=if k=3∨(k=2∧s=false)then⟨k,s,m,e⟩else if k=0 then⟨1,false,1, -1074⟩else if s=true then toV k s m e else awV s m e
def ulE(k e:Int):Int:=if k=0 then-1074 else e
end Go.Ab
namespace Go.Ab
structure Adj(k:Int)(s:Bool)(m e:Int)(n:FlV)(t:Bool)(a:Nat)(E:Int):Prop where
 ha:a<2^53
 hf:2^52≤a∨E= -1074
 hE: -1074≤E∧E≤971
 ho:¬(a+1=2^53∧E=971)
 hu:E≤ulE k e
 lo:dv 1074 (xS k s) m.toNat e=dv 1074 t (if t=true then a+1 else a) E
 hi:dv 1074 (xS n.k n.s) n.m.toNat n.e=dv 1074 t (if t=true then a else a+1) E
theorem aCd:ngS 1 false=true:=rfl
theorem aCb:ngS 1 true=false:=rfl
theorem aCc:ngS 2 false=true:=rfl
end Go.Ab
namespace Go.Ab
open Go Go.Proofs
def aBm(ok:Bool):AV→List Ob→List Ob→Prop:=fun r hs bs=>hs=[]∧bs=[]∧∃(S:Bool) (M:Nat) (E:Int) (b:Bool),dyB S (lim M) E=true∧(ok=false→b=false)∧r=.tu [.ag [.v (.bool (S)),.sl (lim (M)).length (qg (lim (M))),.v (.int .i64 (E))],.v (.bool b)]
end Go.Ab
namespace Go.Ab
def ivM(s:Bool)(m:Nat)(e mode:Int):Nat:=roM s m e 0 mode*2^(roE m e 0).toNat
end Go.Ab
namespace Go.Ab
open Go Go.Proofs
end Go.Ab
namespace Go.Ab
open Go Go.Proofs
end Go.Ab
namespace Go.Ab
open Go Go.Proofs
def aCm(k m:Int):Nat:=if k=1 then oM m.toNat else 0
def aCn(k m e:Int):Int:=if k=1 then oE m.toNat e else 0
def aCl(k:Int)(s:Bool)(m:Int):Bool:=if k=1 then oS (s&&decide (m.toNat≠0)) m.toNat else false
end Go.Ab
namespace Go.Ab
open Go Go.Proofs
def aBl:AV→List Ob→List Ob→Prop:=fun r hs bs=>hs=[]∧bs=[]∧∃x:FlV,r=.ag x.cs
section
variable (l:List UInt8)(hl:l.length≤9223372036854775807)(i h:Int)(hi:0≤i∧i≤l.length)
include hl hi
end
end Go.Ab
namespace Go.Ab
open Go Go.Proofs
section
variable (l:List UInt8)(hl:l.length≤9223372036854775807)(i h:Int)(hi:0≤i∧i≤l.length)
include hl hi
end
end Go.Ab
namespace Go.Ab
open Go
end Go.Ab
namespace Go.Ab
open Go Go.Proofs
end Go.Ab
namespace Go.Ab
open Go Go.Proofs
end Go.Ab
namespace Go.Ab
open Go Go.Proofs
section
variable (l:List UInt8)(hl:l.length≤9223372036854775807)(i h:Int)(hi:0≤i∧i≤l.length)
include hl hi
end
end Go.Ab
namespace Go.Ab
open Go Go.Proofs
end Go.Ab
namespace Go.Ab
open Go Go.Proofs
end Go.Ab
namespace Go.Ab
open Go Go.Proofs
end Go.Ab
namespace Go.Ab
open Go Go.Proofs
end Go.Ab
namespace Go.Ab
open Go Go.Proofs
end Go.Ab
namespace Go.Ab
open Go Go.Proofs
def aB8(r:AV)(hs:List Ob)(xs:List Int):Prop:=(xs=[]∧r=.ag [.v (.slice none 0 0)]∧hs=[])∨∃zs,r=.ag [.rf 0 0 xs.length]∧hs=[.own 1 (qg (xs++zs))]
section
variable (l:List UInt8)(hl:l.length≤9223372036854775807)(i h:Int)(hi:0≤i∧i≤l.length)
include hl hi
omit hi hl in
omit hi hl in
omit hi hl in
omit hi hl in
omit hi hl in
end
theorem Qt(x y:ExV)(hx:x.bd (-400000) 400000)(hy:y.bd (-400000) 400000):Con Tryz.prog 104 false [.ag [.v (.bool (x).s),.sl (lim (x).m).length (qg (lim (x).m)),.v (.int .i64 (x).e)],.ag [.v (.bool (y).s),.sl (lim (y).m).length (qg (lim (y).m)),.v (.int .i64 (y).e)]] [] (isA (.ag [.v (.bool ((x.plus y).can).s),.sl (lim ((x.plus y).can).m).length (qg (lim ((x.plus y).can).m)),.v (.int .i64 ((x.plus y).can).e)])):=by
 obtain⟨z1,a1,a2⟩:=hx
 obtain⟨z2,b1,b2⟩:=hy
 exact ahX x.s x.m x.e y.s y.m y.e (by omega) (by omega) (by omega) (by omega) z1 z2
end Go.Ab
namespace Go.Ab
open Go Go.Proofs
theorem jS(n:Nat)(hn:n≤4):Con Tryz.prog 96 false [.v (.int .i64 n)] [] (fun r hs bs=>r=.ag [.v (.int .i64 n),.rf 0 0 (n*n)]∧hs=[.own 3 (zA (n*n) z3)]):=by
 have hq:=jq hn
 have hz:((n:Int)*n).toNat=n*n:=by rw[←Int.natCast_mul];rfl
 have hz2:(n:Int)*n=((n*n:Nat):Int):=(Int.natCast_mul n n).symm
 refine Con.of_aw Tryz.func96 rfl Tryz.ntmps96 (by simp) (by simp) (by simp) (W.sound ?_)
 show @W Tryz.prog 9 ⟨_⟩ ⟨fun x σ=>@q8 _ _ _ ⟨_⟩ _ ⟨_⟩ x σ⟩ _ _
 simp(disch:=omega)only[go_sem]
 rw[hz]
 refine⟨by rw[hz2];omega,ql [(0,90000000)] [.own 3 (zA (n*n) z3)] [] [.ag [.v (.int .i64 n),.rf 0 0 (n*n)]] rfl (by simp(disch:=omega)only[go_sem]) (by simp(disch:=omega)only[go_sem,aeN,aeO];rfl) (by simp) (by simp) ⟨rfl,rfl⟩⟩
section
variable (l:List UInt8)(hl:l.length≤9223372036854775807)(i h:Int)(hi:0≤i∧i≤l.length)
include hl hi
def aCg(r:AV):Prop:=∃(n:Int) (l:List DyV),l.length≤16∧(∀d∈l,d.xs.length≤200)∧r=.ag [.v (.int .i64 n),.sl l.length (qk DyV.cs l)]
omit hl hi in
omit hl hi in
def aBX(n:Nat)(r:AV)(hs:List Ob):Prop:=∃(k:Int) (M:List DyV) (o m:Nat),M.length=o+m∧o≤1∧M.length=n*n∧(∀d∈M,d.xs.length≤200)∧r=.ag [.v (.int .i64 k),.rf 0 (o*3) m]∧hs=[.own 3 (qk DyV.cs M)]
end
end Go.Ab
