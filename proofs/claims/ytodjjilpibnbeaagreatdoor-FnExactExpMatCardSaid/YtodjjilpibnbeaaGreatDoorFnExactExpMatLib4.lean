/- What the proof of this claim stands on: the walks of the functions and the plain laws, part 4. -/
import Derived.Test.YtodjjilpibnbeaaGreatDoorFnExactExpMatLib3
set_option linter.unusedVariables false
set_option linter.unusedSimpArgs false
namespace Go.Ab
open Go Go.Proofs
theorem ae2(xs:List Int)(left:Int)(hl:xs.length≤9223372036854775807)(h:0≤left∧left≤2^40):Con Tryz.prog 295 true [.sl xs.length (qg xs),.v (.int .i64 left)] [] (isA (.v (.int .i64 (if left-xs.length<0 then-1 else left-xs.length)))):=by
 refine Con.of_w (rs:=[.tmp 4]) Tryz.func295 rfl Tryz.ntmps295 rfl ?_
 simp(disch:=omega)only[go_sem]
 refine qh (fun h1=>?_) (fun h1=>?_)
 ·simp(disch:=omega)only[go_sem,h1]
  rw[if_pos h1]
  exact qt
 ·simp(disch:=omega)only[go_sem,h1]
  rw[if_neg h1]
  exact qt
theorem ac8{xs:List Int}{i:Nat}(h:i<xs.length):(xs.take i++List.replicate (xs.length-i) 0).set i (xs.getD i 0)=xs.take (i+1)++List.replicate (xs.length-(i+1)) 0:=by
 have e1:(xs.take i).length=i:=by rw[List.length_take];omega
 have e2:xs.length-i=(xs.length-(i+1))+1:=by omega
 rw[List.set_append_right _ _ (by omega),e1,Nat.sub_self,e2,List.replicate_succ,List.set_cons_zero,List.take_add_one,List.getElem?_eq_getElem h,List.append_assoc,List.getD_eq_getElem?_getD,List.getElem?_eq_getElem h]
 rfl
theorem aeZ(cl:Bool)(xs:List Int)(hl:xs.length≤2000000):Con Tryz.prog 296 cl [.sl xs.length (qg xs)] [] (ahi xs):=by
 refine Con.of_aw Tryz.func296 rfl Tryz.ntmps296 (by simp) (by simp) (by simp) (W.sound ?_)
 show @W Tryz.prog 22 ⟨_⟩ ⟨fun x σ=>@qY _ _ _ ⟨_⟩ _ ⟨_⟩ x σ⟩ _ _
 simp(disch:=omega)only[go_sem]
 refine⟨⟨by omega,by omega,by omega⟩,?_⟩
 refine qi (fun i:Nat=>[(0,.sl xs.length (qg xs)),(3,.rf 90000000 0 xs.length),(4,.v (.int .i64 i))]) (fun i=>[(90000000,.own 1 (qg (xs.take i++List.replicate (xs.length-i) 0)))]) (fun i=>i≤xs.length) (fun i=>xs.length-i) 0 (by omega)
  (Le.lst [] _ _ rfl (by simp(disch:=omega)only[go_sem];try omega) (by simp(disch:=omega)only[go_sem,Ko,List.take_zero,List.nil_append,Nat.sub_zero])) ?_
 intro i hi
 simp(disch:=omega)only[go_sem]
 refine qh (fun h1=>?_) (fun h1=>?_)
 ·simp(disch:=omega)only[go_sem,h1]
  have el:(xs.take i++List.replicate (xs.length-i) 0).length=xs.length:=by rw[List.length_append,List.length_take,List.length_replicate];omega
  refine⟨by omega,by omega,by omega,by omega,qe (i+1) [] (by show i+1≤_;omega) (by show xs.length-(i+1)<xs.length-i;omega) rfl (by simp(disch:=omega)only[go_sem];try omega) (by simp(disch:=omega)only[go_sem,ac8 (by omega:i<xs.length)])⟩
 ·have:i=xs.length:=by omega
  subst this
  simp(disch:=omega)only[go_sem,h1]
  refine ql [(0,90000000)] [.own 1 (qg (xs++[]))] [] [.rf 0 0 xs.length] rfl (by simp(disch:=omega)only[go_sem]) (by simp(disch:=omega)only[go_sem,List.take_length,Nat.sub_self,List.replicate_zero]) (by simp) (by intro _;simp[zr,AV.pu,Ob.pu,qV]) (.inr ⟨[],rfl,rfl⟩)
theorem azo(xs:List Int)(hl:xs.length≤2000000):Con Tryz.prog 253 false [.ag [.sl xs.length (qg xs)]] [] (isA (.ag [.sl xs.length (qg xs)])):=by
 refine Con.frzA ?_
 refine Con.of_w (rs:=[.cell 2 40]) Tryz.func253 rfl Tryz.ntmps253 rfl ?_
 simp(disch:=omega)only[go_sem]
 refine qa (aeZ false xs hl).num ?_
 simp(disch:=omega)only[go_sem]
 exact qn
def szL(left:Int)(n:Nat):Int:=if left-n<0 then-1 else left-n
theorem aiX(xs:List Int)(left:Int)(hl:xs.length≤9223372036854775807)(h:0≤left∧left≤2^40):Con Tryz.prog 246 true [.ag [.sl xs.length (qg xs)],.v (.int .i64 left)] [] (isA (.v (.int .i64 (szL left xs.length)))):=by
 refine Con.of_w (rs:=[.tmp 4]) Tryz.func246 rfl Tryz.ntmps246 rfl ?_
 simp(disch:=omega)only[go_sem]
 refine qm (ae2 xs left hl h) ?_
 simp(disch:=omega)only[go_sem]
 unfold szL
 by_cases h1:left-(xs.length:Int)<0
 ·rw[if_pos h1]
  simp(disch:=omega)only[go_sem]
  exact qt
 ·rw[if_neg h1]
  simp(disch:=omega)only[go_sem,h1]
  exact qt
theorem ab7(s:Bool)(xs:List Int)(left:Int)(hl:xs.length≤9223372036854775807)(h:0≤left∧left≤2^40):Con Tryz.prog 174 true [.ag [.v (.bool s),.sl xs.length (qg xs)],.v (.int .i64 left)] [] (isA (.v (.int .i64 (szL left xs.length)))):=by
 refine Con.of_w (rs:=[.tmp 4]) Tryz.func174 rfl Tryz.ntmps174 rfl ?_
 simp(disch:=omega)only[go_sem]
 refine qm (aiX xs left hl h) ?_
 simp(disch:=omega)only[go_sem]
 unfold szL
 by_cases h1:left-(xs.length:Int)<0
 ·rw[if_pos h1]
  simp(disch:=omega)only[go_sem]
  exact qt
 ·rw[if_neg h1]
  simp(disch:=omega)only[go_sem,h1]
  exact qt
theorem anL(s:Bool)(xs:List Int)(e left:Int)(hl:xs.length≤9223372036854775807)(h:0≤left∧left≤2^40):Con Tryz.prog 90 true [.ag [.v (.bool s),.sl xs.length (qg xs),.v (.int .i64 e)],.v (.int .i64 left)] [] (isA (.v (.int .i64 (szL left xs.length)))):=by
 refine Con.of_w (rs:=[.tmp 4]) Tryz.func90 rfl Tryz.ntmps90 rfl ?_
 simp(disch:=omega)only[go_sem]
 refine qm (ab7 s xs left hl h) ?_
 simp(disch:=omega)only[go_sem]
 unfold szL
 by_cases h1:left-(xs.length:Int)<0
 ·rw[if_pos h1]
  simp(disch:=omega)only[go_sem]
  exact qt
 ·rw[if_neg h1]
  simp(disch:=omega)only[go_sem,h1]
  exact qt
theorem afm(xs:List Int)(hl:xs.length≤2^60):Con Tryz.prog 205 true [.sl xs.length (qg xs),.sl xs.length (qg xs)] [] (isA (.v (.bool true))):=by
 refine Con.of_w (rs:=[.tmp 4]) Tryz.func205 rfl Tryz.ntmps205 rfl ?_
 simp(disch:=omega)only[go_sem]
 refine qi (fun i:Nat=>[(0,.sl xs.length (qg xs)),(1,.sl xs.length (qg xs)),(5,.v (.int .i64 i))]) (fun _=>[]) (fun i=>i≤xs.length) (fun i=>xs.length-i) 0 (by omega)
  (Le.lst [] _ _ rfl (by simp(disch:=omega)only[go_sem]) (by simp(disch:=omega)only[go_sem])) ?_
 intro i hi
 simp(disch:=omega)only[go_sem]
 refine qh (fun h1=>?_) (fun h1=>?_)
 ·simp(disch:=omega)only[go_sem,h1]
  refine qq rfl [⟨0,[],[]⟩,⟨1,[],[]⟩,⟨2,[],[]⟩,⟨3,[],[]⟩,⟨4,[3],[]⟩,⟨5,[3],[]⟩,⟨6,[3],[]⟩,⟨7,[3],[]⟩,⟨8,[],[]⟩] (by kernel_rfl) ?_
  simp(disch:=omega)only[go_sem]
  refine⟨by omega,by omega,by omega,by omega,qe (i+1) [] (by show i+1≤_;omega) (by show xs.length-(i+1)<xs.length-i;omega) rfl (by simp(disch:=omega)only[go_sem];try omega) (by simp(disch:=omega)only[go_sem])⟩
 ·have:i=xs.length:=by omega
  subst this
  simp(disch:=omega)only[go_sem,h1]
  exact qt
theorem aju(xs:List Int)(hl:xs.length≤2^60):Con Tryz.prog 126 true [.ag [.sl xs.length (qg xs)],.ag [.sl xs.length (qg xs)]] [] (isA (.v (.bool true))):=by
 refine Con.of_w (rs:=[.tmp 4]) Tryz.func126 rfl Tryz.ntmps126 rfl ?_
 simp(disch:=omega)only[go_sem]
 refine qm (afm xs hl) ?_
 simp(disch:=omega)only[go_sem]
 exact qt
theorem acv(s:Bool)(xs:List Int)(hl:xs.length≤2^60):Con Tryz.prog 59 true [.ag [.v (.bool s),.sl xs.length (qg xs)],.ag [.v (.bool s),.sl xs.length (qg xs)]] [] (isA (.v (.bool true))):=by
 refine Con.of_w (rs:=[.tmp 4]) Tryz.func59 rfl Tryz.ntmps59 rfl ?_
 simp(disch:=omega)only[go_sem]
 have e:(s != s)=false:=by cases s<;>rfl
 simp(disch:=omega)only[go_sem,e]
 refine qm (aju xs hl) ?_
 simp(disch:=omega)only[go_sem]
 exact qt
theorem V5(s:Bool)(xs:List Int)(e:Int)(hl:xs.length≤2^60):Con Tryz.prog 19 true [.ag [.v (.bool s),.sl xs.length (qg xs),.v (.int .i64 e)],.ag [.v (.bool s),.sl xs.length (qg xs),.v (.int .i64 e)]] [] (isA (.v (.bool true))):=by
 refine Con.of_w (rs:=[.tmp 4]) Tryz.func19 rfl Tryz.ntmps19 rfl ?_
 simp(disch:=omega)only[go_sem]
 refine qm (acv s xs hl) ?_
 simp(disch:=omega)only[go_sem]
 exact qt
end Go.Ab
namespace Go.Ab
open Go Go.Proofs
end Go.Ab
namespace Go.Ab
open Go
structure DyV where
 s:Bool
 xs:List Int
 e:Int
def DyV.cs(x:DyV):List AV:=[.v (.bool x.s),.sl x.xs.length (qg x.xs),.v (.int .i64 x.e)]
theorem XE(x:DyV):x.cs.length=3:=rfl
theorem apm{ρ:Nat→Nat}(x:DyV):zq ρ x.cs=x.cs:=rfl
theorem aiK{hp:Nat→Ob}{k:Nat}(x:DyV):x.cs.map (qD hp (k+1))=x.cs:=rfl
theorem apn{p:Nat→Prop}(x:DyV):AllL p x.cs:=by simp[DyV.cs,AllL,AV.All]
theorem asZ{l:List DyV}:(qj DyV.cs l).length=l.length*3:=yh XE
theorem asY{ρ:Nat→Nat}{l:List DyV}:zq ρ (qj DyV.cs l)=qj DyV.cs l:=Z1 apm
theorem anq{hp:Nat→Ob}{k:Nat}{l:List DyV}:(qj DyV.cs l).map (qD hp (k+1))=qj DyV.cs l:=Zw aiK
theorem as0{p:Nat→Prop}{l:List DyV}:AllL p (qj DyV.cs l)=True:=eq_true (Z2 apn)
theorem anr{p:Nat→Prop}{x:DyV}:AllL p x.cs=True:=eq_true (apn x)
attribute [go_sem] asZ asY anq as0 anr apm aiK
end Go.Ab
namespace Go.Ab
open Go
/-! ### The simplifier's words for truth values-/
theorem aDs:(true==true)=true:=ID rfl
theorem aDv:(false==false)=true:=ID rfl
theorem aDt:(true==false)=false:=ID rfl
theorem aDu:(false==true)=false:=ID rfl
theorem aC8:(true != true)=false:=ID rfl
theorem aDb:(false != false)=false:=ID rfl
theorem aC9:(true != false)=true:=ID rfl
theorem aDa:(false != true)=true:=ID rfl
theorem o_t(b:Bool):(true||b)=true:=ID rfl
theorem o_f(b:Bool):(false||b)=b:=ID rfl
theorem aC3(b:Bool):(b||true)=true:=by cases b<;>rfl
theorem aC4(b:Bool):(b||false)=b:=by cases b<;>rfl
theorem a_t(b:Bool):(true&&b)=b:=ID rfl
theorem a_f(b:Bool):(false&&b)=false:=ID rfl
theorem aDz(b:Bool):(b&&true)=b:=by cases b<;>rfl
theorem aDA(b:Bool):(b&&false)=false:=by cases b<;>rfl
attribute [go_sem] aDs aDv aDt aDu aC8 aDb aC9 aDa o_t o_f
attribute [go_sem] aC3 aC4 a_t a_f aDz aDA
theorem atF{P:Program}{t:TypeId}[h:FlE P t]{k m e k' m' e':Int}{s s':Bool}{K:AV→Prop}:
  @jO P .eql t (.ag [.v (.int .i64 k),.v (.bool s),.v (.int .i64 m),.v (.int .i64 e)]) (.ag [.v (.int .i64 k'),.v (.bool s'),.v (.int .i64 m'),.v (.int .i64 e')]) ⟨K⟩=K (.v (.bool (ay2 k s m e k' s' m' e'))):=
 propext ⟨fun g=>g.2,fun g=>⟨h,g⟩⟩
theorem atE{P:Program}{t:TypeId}[h:FlE P t]{k m e k' m' e':Int}{s s':Bool}{K:AV→Prop}:
  @jO P .neq t (.ag [.v (.int .i64 k),.v (.bool s),.v (.int .i64 m),.v (.int .i64 e)]) (.ag [.v (.int .i64 k'),.v (.bool s'),.v (.int .i64 m'),.v (.int .i64 e')]) ⟨K⟩=K (.v (.bool (!ay2 k s m e k' s' m' e'))):=
 propext ⟨fun g=>g.2,fun g=>⟨h,g⟩⟩
attribute [go_sem] atF atE
/-! ### Bits of any numbers-/
def aCz(x y:Int):Int:=IntKind.i64.wrap (BitVec.ofInt IntKind.i64.bits x^^^BitVec.ofInt IntKind.i64.bits y).toNat
theorem atq{x y:Int}{P:Program}{t:Nat}{K:AV→Prop}:@jO P .xor t (.v (.int .i64 x)) (.v (.int .i64 y)) ⟨K⟩=K (.v (.int .i64 (aCz x y))):=by
 simp only[jO,JG,Yu,true_and];rfl
theorem Yl(x:Int):((BitVec.ofInt 64 x).toNat:Int)=x % 18446744073709551616:=by
 rw[BitVec.toNat_ofInt];omega
theorem afD{x:Int}{P:Program}{t:Nat}{K:AV→Prop}:@jO P .and t (.v (.int .i64 x)) (.v (.int .i64 255)) ⟨K⟩=K (.v (.int .i64 (x % 256))):=by
 have e:IntKind.i64.wrap (BitVec.ofInt 64 x&&&BitVec.ofInt 64 255).toNat=x % 256:=by
  have h1:=Yl x
  have h2:(BitVec.ofInt 64 255).toNat=2^8-1:=by decide
  rw[BitVec.toNat_and,h2,Nat.and_two_pow_sub_one_eq_mod,JM (by omega)]
  omega
 rw[←e];simp only[jO,JG,Yu,true_and];rfl
theorem aj1{x:Int}{P:Program}{t:Nat}{K:AV→Prop}:@jO P .and t (.v (.int .i64 x)) (.v (.int .i64 1073741823)) ⟨K⟩=K (.v (.int .i64 (x % 1073741824))):=by
 have e:IntKind.i64.wrap (BitVec.ofInt 64 x&&&BitVec.ofInt 64 1073741823).toNat=x % 1073741824:=by
  have h1:=Yl x
  have h2:(BitVec.ofInt 64 1073741823).toNat=2^30-1:=by decide
  rw[BitVec.toNat_and,h2,Nat.and_two_pow_sub_one_eq_mod,JM (by omega)]
  omega
 rw[←e];simp only[jO,JG,Yu,true_and];rfl
attribute [go_sem] atq afD aj1
def abH(h:Nat→Ob)(nms:List Nat):List Nat→List Ob
 | []=>[]
 |n::r=>(h n).ren (back nms)::abH h nms r
theorem K5{h:Nat→Ob}{nms:List Nat}:∀r:List Nat,abH h nms r=r.map (fun n=>(h n).ren (back nms))
 | []=>rfl
 |n::r=>by rw[abH,List.map_cons,K5 r]
theorem ahN{h:Nat→Ob}{nms:List Nat}:abH h nms []=[]:=ID rfl
theorem aeH{h:Nat→Ob}{nms:List Nat}{n:Nat}{r:List Nat}:abH h nms (n::r)=(h n).ren (back nms)::abH h nms r:=ID rfl
attribute [go_sem] ahN aeH
end Go.Ab
namespace Go.Ab
open Go
end Go.Ab
namespace Go.Ab
open Go
section
variable {P:Program}{f:FuncId}{args:List AV}{post:AV→List Ob→List Ob→Prop}
theorem Con.frzC{cl:Bool}(h:Con P f cl args [] post):Con P f cl args [] (fun r' hs' bs'=>hs'=[]∧bs'=[]∧∃r hs,post r hs []∧r'=qD (rhp hs []) 6 r):=by
 intro R ι w vs h1 h2 h3 h4 h5
 refine(h R ι w vs h1 h2 h3 h4 h5).mono ?_
 rintro e w' ⟨x,r,hs,bs',R',ι',he,hp,hF⟩
 have hb:bs'=[]:=List.length_eq_zero_iff.1 (by simpa using hF.len)
 subst hb
 have hfree:∀m,10000000≤m→rhp hs [] m=.free:=fun m hm=>by simp[rhp,hm]
 have hO:HpOk R' ι' w' (rhp hs []):=by
  refine⟨fun m=>?_,fun m z cs B e hB hr=>hF.nR m z cs B e hB (.inr hr),hF.inj,hF.men⟩
  rcases Nat.lt_or_ge m 10000000 with hm|hm
  ·exact hF.okF m hm
  ·rw[hfree m hm];trivial
 have hown:∀{m z cs B},rhp hs [] m=.own z cs→ι' m=some B→w.heap.size≤B.b∧B.b<w'.heap.size:=by
  intro m z cs B e hB
  have hm:m<10000000:=by
   rcases Nat.lt_or_ge m 10000000 with hm|hm
   ·exact hm
   ·rw[hfree m hm]at e;cases e
  refine⟨hF.fresh m z cs B hm e hB,?_⟩
  have:=hF.okF m hm
  rw[e,hB]at this
  obtain⟨c,T,lo,hi,g1,_⟩:=this
  rcases Nat.lt_or_ge B.b w'.heap.size with h'|h'
  ·exact h'
  ·simp[Array.getElem?_eq_none h']at g1
 refine⟨x,qD (rhp hs []) 6 r,[],[],fun b=>R' b∨afP (rhp hs []) ι' b,ι',he,⟨rfl,rfl,r,hs,hp,rfl⟩,?_⟩
 have hnil:∀m,rhp [] [] m=.free:=fun m=>by simp[rhp]
 refine⟨hF.ext,fun b hb=>?_,fun b hb=>?_,.fr _ _ (jg hO (fun _ h=>.inl h) (fun _ h=>.inr h) 6 hF.rep),j6 6 r,fun m _=>?_,fun m _=>?_,fun m z cs B e=>?_,fun m m' z z' cs cs' B B' e=>?_,fun m z cs e=>?_,fun m z cs B _ e=>?_,rfl,hF.bown,fun i hi=>by simp at hi⟩
 ·rcases hb with hb|⟨m,z,cs,B,e,hB,rfl⟩
  ·exact hF.rlt b hb
  ·exact(hown e hB).2
 ·rcases hb with hb|⟨m,z,cs,B,e,hB,rfl⟩
  ·exact hF.rnew b hb
  ·exact .inl (hown e hB).1
 ·rw[hnil];trivial
 ·rw[hnil];trivial
 all_goals (rw[hnil]at e;cases e)
theorem Con.frzAC{cl:Bool}{f:FuncId}{args:List AV}{a:AV}(h:Con P f cl args [] (az5 a)):Con P f cl args [] (isA a):=
 h.frzC.mono fun r hs bs ⟨h1,h2,r0,hs0,h3,h4⟩=>⟨by rw[h4];exact h3,h1,h2⟩
theorem Con.natFC{cl:Bool}{m:Nat}(h:Con P f cl args [] (amn m)):Con P f cl args [] (isA (.ag [.sl (lim m).length (qg (lim m))])):=
 h.frzC.mono fun r hs bs ⟨h1,h2,r0,hs0,h3,h4⟩=>by
  refine⟨?_,h1,h2⟩
  rcases h3 with⟨rfl,rfl,rfl⟩|⟨zs,rfl,rfl⟩
  ·rw[h4,qr];rfl
  ·rw[h4,Vb,List.map_cons,List.map_nil,js (k:=3) (l:=lim m) (zs:=zs) qJ rfl]
end
end Go.Ab
namespace Go.Ab
open Go
section
variable {σ:St}
theorem Le.ghostC(m o nm z:Nat){zo:Nat}{cs:List AV}(hm:σ.hp m=.own zo cs)(ho:cs[o]? =some (.v (.slice none 0 0)))(hf:σ.hp nm=.free):
  Le σ ⟨σ.env,upd (upd σ.hp nm (.own z [])) m (.own zo (cs.set o (.rf nm 0 0)))⟩:=by
 intro L w0 R0 N a w hi
 obtain⟨R,ι,hR,h⟩:=hi.inv
 have hg:=h.ghost (z:=z) hf
 have hne:m≠nm:=fun e=>by rw[e,hf]at hm;cases hm
 have hm':(⟨σ.env,upd σ.hp nm (.own z [])⟩:St).hp m=.own zo cs:=by show upd σ.hp nm (.own z []) m=_;rw[qk hne];exact hm
 obtain⟨hol,hoe⟩:=List.getElem?_eq_some_iff.1 ho
 have key:Inv L w0 R (upd ι nm none) w a.tmps ⟨σ.env,upd (upd σ.hp nm (.own z [])) m (.own zo (cs.set o (.rf nm 0 0)))⟩:=by
  cases hB:upd ι nm none m with
  |none=>
   have:=hg.hp.ok m
   rw[hm',hB]at this
   have e:cs=[]:=this
   rw[e]at hol;simp at hol
  |some B=>
   obtain⟨c,T,lo,hi',h1,h2,h3,h4,h5,h6⟩:=yb hg hm' hB
   refine hg.turn hm' hB rfl rfl rfl rfl (fun _ _=>rfl) ⟨c,T,lo,hi',h1,h2,h3,h4,by rw[List.length_set];exact h5,fun i hi2=>?_⟩ (AllL.of_get fun i hi2=>?_)
   ·rw[List.length_set]at hi2
    rw[List.getElem_set]
    by_cases e:o=i
    ·subst e
     rw[if_pos rfl]
     have:=h6 o hi2
     rw[hoe]at this
     rw[this.v_inv]
     exact .rf nm 0 0 0 none ⟨Nat.le_refl _,by rw[qo]⟩
    ·rw[if_neg e];exact h6 i hi2
   ·rw[List.length_set]at hi2
    rw[List.getElem_set]
    split
    ·show upd σ.hp nm (.own z []) nm≠ .free
     rw[qo];simp
    ·exact(hg.hp.men m zo cs hm').get i hi2
 exact⟨hi.df,hi.sz,R,_,hR,key⟩
end
structure ExV where
 s:Bool
 m:Nat
 e:Int
deriving DecidableEq
def ExV.cs(x:ExV):List AV:=[.v (.bool x.s),.sl (lim x.m).length (qg (lim x.m)),.v (.int .i64 x.e)]
theorem aaq(x:ExV):x.cs.length=3:=rfl
theorem aiy{ρ:Nat→Nat}(x:ExV):zq ρ x.cs=x.cs:=rfl
theorem aix{hp:Nat→Ob}{k:Nat}(x:ExV):x.cs.map (qD hp (k+1))=x.cs:=rfl
theorem aiz{p:Nat→Prop}(x:ExV):AllL p x.cs:=by simp[ExV.cs,AllL,AV.All]
def ex0:ExV:=⟨false,0,0⟩
theorem Zk{l:List ExV}:(qj ExV.cs l).length=l.length*3:=yh aaq
theorem asP{ρ:Nat→Nat}{l:List ExV}:zq ρ (qj ExV.cs l)=qj ExV.cs l:=Z1 aiy
theorem adG{hp:Nat→Ob}{k:Nat}{l:List ExV}:(qj ExV.cs l).map (qD hp (k+1))=qj ExV.cs l:=Zw aix
theorem asR{p:Nat→Prop}{l:List ExV}:AllL p (qj ExV.cs l)=True:=eq_true (Z2 aiz)
theorem ank{p:Nat→Prop}{x:ExV}:AllL p x.cs=True:=eq_true (aiz x)
theorem QY{l:List ExV}{x:ExV}:qj ExV.cs l++[.v (.bool x.s),.sl (lim x.m).length (qg (lim x.m)),.v (.int .i64 x.e)]=qj ExV.cs (l++[x]):=by
 rw[←yi,qO,jY,List.append_nil];rfl
theorem asQ{l:List ExV}:cut (qj ExV.cs l) 0 (l.length*3)=qj ExV.cs l:=by
 unfold cut;rw[List.drop_zero,List.take_of_length_le (by rw[Zk];exact Nat.le_refl _)]
structure SpV where
 lo:ExV
 hi:ExV
deriving DecidableEq
def SpV.cs(x:SpV):List AV:=x.lo.cs++x.hi.cs
theorem agv(x:SpV):x.cs.length=6:=rfl
theorem aoE{ρ:Nat→Nat}(x:SpV):zq ρ x.cs=x.cs:=rfl
theorem agu{hp:Nat→Ob}{k:Nat}(x:SpV):x.cs.map (qD hp (k+1))=x.cs:=rfl
theorem aoF{p:Nat→Prop}(x:SpV):AllL p x.cs:=by simp[SpV.cs,ExV.cs,AllL,AV.All]
def sp0:SpV:=⟨ex0,ex0⟩
theorem yg{l:List SpV}:(qj SpV.cs l).length=l.length*6:=yh agv
theorem aqp{ρ:Nat→Nat}{l:List SpV}:zq ρ (qj SpV.cs l)=qj SpV.cs l:=Z1 aoE
theorem ac3{hp:Nat→Ob}{k:Nat}{l:List SpV}:(qj SpV.cs l).map (qD hp (k+1))=qj SpV.cs l:=Zw agu
theorem aqr{p:Nat→Prop}{l:List SpV}:AllL p (qj SpV.cs l)=True:=eq_true (Z2 aoF)
theorem ala{p:Nat→Prop}{x:SpV}:AllL p x.cs=True:=eq_true (aoF x)
theorem Zs{l:List SpV}{x:SpV}:qj SpV.cs l++[.v (.bool x.lo.s),.sl (lim x.lo.m).length (qg (lim x.lo.m)),.v (.int .i64 x.lo.e),.v (.bool x.hi.s),.sl (lim x.hi.m).length (qg (lim x.hi.m)),.v (.int .i64 x.hi.e)]=qj SpV.cs (l++[x]):=by
 rw[←yi,qO,jY,List.append_nil];rfl
theorem aqq{l:List SpV}:cut (qj SpV.cs l) 0 (l.length*6)=qj SpV.cs l:=by
 unfold cut;rw[List.drop_zero,List.take_of_length_le (by rw[yg];exact Nat.le_refl _)]
attribute [go_sem] Zk asP adG asR ank aiy aix yg aqp ac3 aqr ala aoE agu
end Go.Ab
namespace Go.Ab
open Go
section
variable {P:Program}{N:Nat}{σ:St}{Q:Exit→St→Prop}
theorem Le.nilC(m o:Nat){zo:Nat}{cs:List AV}(hm:σ.hp m=.own zo cs)(ho:cs[o]? =some (.v (.slice none 0 0))):
  Le σ ⟨σ.env,upd σ.hp m (.own zo (cs.set o (.sl 0 [])))⟩:=by
 intro L w0 R0 N a w hi
 obtain⟨R,ι,hR,h⟩:=hi.inv
 obtain⟨hol,hoe⟩:=List.getElem?_eq_some_iff.1 ho
 have key:Inv L w0 R ι w a.tmps ⟨σ.env,upd σ.hp m (.own zo (cs.set o (.sl 0 [])))⟩:=by
  cases hB:ι m with
  |none=>
   have:=h.hp.ok m
   rw[hm,hB]at this
   have e:cs=[]:=this
   rw[e]at hol;simp at hol
  |some B=>
   obtain⟨c,T,lo,hi',h1,h2,h3,h4,h5,h6⟩:=yb h hm hB
   refine h.turn hm hB rfl rfl rfl rfl (fun _ _=>rfl) ⟨c,T,lo,hi',h1,h2,h3,h4,by rw[List.length_set];exact h5,fun i hi2=>?_⟩ (AllL.of_get fun i hi2=>?_)
   ·rw[List.length_set]at hi2
    rw[List.getElem_set]
    by_cases e:o=i
    ·subst e
     rw[if_pos rfl]
     have:=h6 o hi2
     rw[hoe]at this
     rw[this.v_inv]
     exact .fr _ _ (.sl none 0 0 [] (fun _=>undef) 0 0 (Nat.le_refl _) (fun h=>absurd h (by simp)) (fun i h=>absurd h (by simp)) (fun i h=>absurd h (by simp)))
    ·rw[if_neg e];exact h6 i hi2
   ·rw[List.length_set]at hi2
    rw[List.getElem_set]
    split
    ·simp[AV.All]
    ·exact(h.hp.men m zo cs hm).get i hi2
 exact⟨hi.df,hi.sz,R,ι,hR,key⟩
theorem Le.frz(m:Nat){z:Nat}{ks:List AV}(hm:σ.hp m=.own z ks)(hl:zW m=false)(hn:AllL (fun _=>False) ks):
  Le σ ⟨fun s=>(σ.env s).fz m z ks,fun k=>if k=m then .dead else(σ.hp k).fz m z ks⟩:=by
 have:=Le.freeze m hm hl hn
 have e:(fun k=>bif Nat.beq k m then Ob.dead else(σ.hp k).fz m z ks)=fun k=>if k=m then Ob.dead else(σ.hp k).fz m z ks:=by
  funext k
  by_cases h:k=m
  ·subst h;rw[Nat.beq_refl,cond_true,if_pos rfl]
  ·rw[abD h,cond_false,if_neg h]
 rwa[e]at this
theorem AW.seqLe{x y:Code}{E:List (Nat×AV)}{H:List (Nat×Ob)}(hx:AW P N x (fun ex σ'=>ex=.normal∧Le σ' ⟨ofL .un E,ofH H⟩) σ)(hy:AW P N y Q ⟨ofL .un E,ofH H⟩):AW P N (.seq x y) Q σ:=
 AW.seq (hx.mono fun ex σ' ⟨he,hl⟩=>by subst he;exact AW.le hl hy)
end
section
variable {m z:Nat}{ks:List AV}
theorem aAS:AV.fz m z ks .un=.un:=ID rfl
theorem aDn{x:Value}:AV.fz m z ks (.v x)=.v x:=ID rfl
theorem aAU{n:Nat}{cs:List AV}:AV.fz m z ks (.sl n cs)=.sl n cs:=ID rfl
theorem aAX{o:Nat}{cs:List AV}:AV.fz m z ks (.fp cs o)=.fp cs o:=ID rfl
theorem aAW{nm o:Nat}:AV.fz m z ks (.pt nm o)=if nm=m then .fp ks o else .pt nm o:=by
 by_cases h:nm=m
 ·subst h;simp[AV.fz,Nat.beq_refl]
 ·simp[AV.fz,abD h,h]
theorem aAV{nm o n:Nat}:AV.fz m z ks (.rf nm o n)=if nm=m then .sl n (cut ks o (n*z))else .rf nm o n:=by
 by_cases h:nm=m
 ·subst h;simp[AV.fz,Nat.beq_refl]
 ·simp[AV.fz,abD h,h]
theorem aAZ{cs:List AV}:AV.fz m z ks (.ag cs)=.ag (fzL m z ks cs):=ID rfl
theorem aAT{cs:List AV}:AV.fz m z ks (.tu cs)=.tu (fzL m z ks cs):=ID rfl
theorem aAY{f:Nat}{cs:List AV}:AV.fz m z ks (.fn f cs)=.fn f (fzL m z ks cs):=ID rfl
theorem asl:fzL m z ks []=[]:=ID rfl
theorem amR{a:AV}{r:List AV}:fzL m z ks (a::r)=a.fz m z ks::fzL m z ks r:=ID rfl
theorem atZ{y:Nat}{cs:List AV}:Ob.fz m z ks (.own y cs)=.own y (fzL m z ks cs):=ID rfl
theorem amQ{xs:List Int}:fzL m z ks (qg xs)=qg xs:=by simp[yz,qg,AV.fz]
end
section
variable {h:Nat→Ob}{ix:Nat→Option Nat}{k:Nat}
theorem auT{f:Nat}{cs:List AV}:snp h ix (k+1) (.fn f cs)=.fn f (cs.map (snp h ix k)):=ID rfl
theorem auU{cs:List AV}:snp h ix (k+1) (.ag cs)=.ag (cs.map (snp h ix k)):=ID rfl
theorem auS{o:Nat}{cs:List AV}:snp h ix (k+1) (.fp cs o)=.fp cs o:=ID rfl
end
attribute [go_sem] auT auU auS
attribute [go_sem] aAS aDn aAU aAX aAW aAV aAZ aAT aAY asl amR atZ amQ
end Go.Ab
namespace Go.Ab
open Go
section
variable {P:Program}
theorem Q1{L:Nat→Option Blk→Prop}{w0:World}{R0:Nat→Prop}{N:Nat}{ops:Array Oper}{K:St→Prop}{Q':Exit→Act→World→Prop}{rest:List Nat}(hQ:∀σ a w,In L w0 R0 N σ a w→K σ→wpOps P ops Q' rest a w):
  ∀(r:List Oper) (k:Nat),(∀j,j<r.length→ops[k+j]? =r[j]?)→∀{e h a w},In L w0 R0 N ⟨e,h⟩ a w→ChF P N ops.toList K r e h→wpOps P ops Q' (List.range' k r.length++rest) a w
 | [],k,hk,e,h,a,w,hi,hs=>by
  simp only[List.length_nil,List.range'_zero,List.nil_append]
  exact hQ _ _ _ hi hs
 |⟨d,op,ty,pos,af,g⟩::r,k,hk,e,h,a,w,hi,hs=>by
  have ho:ops[k]? =some ⟨d,op,ty,pos,af,g⟩:=by
   have:=hk 0 (by simp)
   simpa using this
  have hr:∀j,j<r.length→ops[k+1+j]? =r[j]? :=fun j hj=>by
   have:=hk (j+1) (by simpa using hj)
   rw[show k+1+j=k+(j+1) by omega,this];simp
  have hd:dOk N d:=by cases g<;>exact hs.1
  simp only[List.length_cons,List.range'_succ,List.cons_append,wpOps,ho]
  have run:@Op1 P ⟨d⟩ ⟨op⟩ ⟨fun v hp=>ChF P N ops.toList K r (Q7 e d v) hp⟩ e h→Oper.wp P ⟨d,op,ty,pos,af,g⟩ a w (wpOps P ops Q' (List.range' (k+1) r.length++rest)) Q':=fun hs=>by
   obtain⟨R,ι,hR,hinv⟩:=hi.inv
   refine adk hinv (Op1.sound hs ty pos af g) fun x w' R' ι' av hp' hR' hK hx hm hi'=>?_
   exact Q1 hQ r (k+1) hr (hi.put (o:=⟨d,op,ty,pos,af,g⟩) hd hR hR' hx hm hi') hK
  have skip:ChF P N ops.toList K r (Q7 e d (.v (.tuple ⟨[]⟩))) h→wpOps P ops Q' (List.range' (k+1) r.length++rest) (a.put d undef) w:=fun hs=>by
   obtain⟨R,ι,hR,hinv⟩:=hi.inv
   exact Q1 hQ r (k+1) hr (hi.put (o:=⟨d,op,ty,pos,af,g⟩) hd hR (fun _ h=>.inl h) (.fr _ _ (.v _)) (by simp[AV.All]) hinv) hs
  cases g with
  |none=>
   rw[if_pos (by simp[Region.wanted])]
   exact .inl (run hs.2)
  |some p=>
   obtain⟨j,want⟩:=p
   have h2:=hs.2
   unfold aac at h2
   dsimp only at h2
   split at h2
   ·rename_i d' hd'
    have key:∀v c,e d'=.v v→(match v with| .bool b=>some b|_=>none)=c→yielded ops a.tmps j=c:=by
     intro v c hv hc
     obtain⟨R,ι,hR,hinv⟩:=hi.inv
     have:=hinv.env d'
     change Rep _ _ _ _ (e d')at this
     rw[hv]at this
     have:=this.v_inv
     unfold yielded
     rw[Array.getElem?_toList]at hd'
     rw[hd']
     rw[Array.getD_eq_getD_getElem?]at this
     cases ee:a.tmps[d']? with
     |none=>
      rw[ee]at this
      subst hc
      have:v=undef:=this.symm
      subst this;simp[ee,undef]
     |some y=>rw[ee]at this;simp at this;subst this;subst hc;simp only[Option.bind_some,ee];cases y<;>rfl
    unfold Y0 at h2
    split at h2
    ·rename_i b hb
     have hy:=key _ _ hb rfl
     have hw:Region.wanted ⟨d,op,ty,pos,af,some (j,want)⟩ (yielded ops a.tmps)=(b==want):=by
      simp only[Region.wanted,hy]
      cases b<;>cases want<;>rfl
     rw[hw]
     cases hbw:b==want with
     |true=>rw[if_pos rfl];exact .inl (run (h2.1 hbw))
     |false=>rw[if_neg (by simp)];exact skip (h2.2 hbw)
    ·rename_i hb
     have hy:=key _ _ hb rfl
     have hw:Region.wanted ⟨d,op,ty,pos,af,some (j,want)⟩ (yielded ops a.tmps)=false:=by
      simp only[Region.wanted,hy]
      cases want<;>rfl
     rw[hw,if_neg (by simp)]
     exact skip (h2.2 rfl)
    ·exact h2.elim
   ·exact h2.elim
theorem as3{N:Nat}{l:List Oper}{Q:St→Prop}{e:Nat→AV}{h:Nat→Ob}{E:List (Nat×AV)}{H:List (Nat×Ob)}(hl:Le ⟨e,h⟩ ⟨ofL .un E,ofH H⟩)(hd:@aeW P N ⟨l⟩ ⟨Q⟩ ⟨ofL .un E,ofH H⟩):@aeW P N ⟨l⟩ ⟨Q⟩ ⟨e,h⟩:=
 fun id=>AW.le hl (hd id)
end
end Go.Ab
namespace Go.Ab
open Go
section
variable {P:Program}{f:FuncId}{args:List AV}{bs:List Ob}{post:AV→List Ob→List Ob→Prop}
end
end Go.Ab
namespace Go.Ab
open Go
structure IvV where
 lo:DyV
 hi:DyV
def IvV.cs(x:IvV):List AV:=x.lo.cs++x.hi.cs
def dy0:DyV:=⟨false,[],0⟩
def iv0:IvV:=⟨dy0,dy0⟩
theorem ao7(x:IvV):x.cs.length=6:=rfl
theorem ao6{ρ:Nat→Nat}(x:IvV):zq ρ x.cs=x.cs:=rfl
theorem ah1{hp:Nat→Ob}{k:Nat}(x:IvV):x.cs.map (qD hp (k+1))=x.cs:=rfl
theorem ao8{p:Nat→Prop}(x:IvV):AllL p x.cs:=by simp[IvV.cs,DyV.cs,AllL,AV.All]
theorem ar3{l:List IvV}:(qj IvV.cs l).length=l.length*6:=yh ao7
theorem ar2{ρ:Nat→Nat}{l:List IvV}:zq ρ (qj IvV.cs l)=qj IvV.cs l:=Z1 ao6
theorem amG{hp:Nat→Ob}{k:Nat}{l:List IvV}:(qj IvV.cs l).map (qD hp (k+1))=qj IvV.cs l:=Zw ah1
theorem ar4{p:Nat→Prop}{l:List IvV}:AllL p (qj IvV.cs l)=True:=eq_true (Z2 ao8)
theorem amH{p:Nat→Prop}{x:IvV}:AllL p x.cs=True:=eq_true (ao8 x)
attribute [go_sem] ar3 ar2 amG ar4 amH ao6 ah1
end Go.Ab
namespace Go.Ab
open Go
def z3:List AV:=[.v (.bool false),.v (.slice none 0 0),.v (.int .i64 0)]
def z6:List AV:=[.v (.bool false),.v (.slice none 0 0),.v (.int .i64 0),.v (.bool false),.v (.slice none 0 0),.v (.int .i64 0)]
section
variable {X:Type}{f:X→List AV}{z:Nat}{n:Nat}{zs:List AV}{ρ:Nat→Nat}{p:Nat→Prop}
theorem acS(h:zq ρ zs=zs):zq ρ (zA n zs)=zA n zs:=by
 unfold zA
 induction n with
 |zero=>rfl
 |succ n ih=>
  rw[List.replicate_succ,List.flatten_cons]
  have:∀a b:List AV,zq ρ (a++b)=zq ρ a++zq ρ b:=fun a b=>by simp[qU]
  rw[this,h,ih]
theorem acT(h:AllL p zs):AllL p (zA n zs):=by
 unfold zA
 induction n with
 |zero=>simp[AllL]
 |succ n ih=>rw[List.replicate_succ,List.flatten_cons];exact AllL.append h ih
theorem abd:∀(ks a b:List AV) (o:Nat),o+ks.length≤a.length→wr (a++b) o ks=wr a o ks++b
 | [],a,b,o,_=>by simp[wr]
 |k::r,a,b,o,h=>by
  simp only[List.length_cons]at h
  rw[wr,wr,List.set_append_left _ _ (by omega),abd r]
  rw[List.length_set];omega
theorem Vf(hz:∀x,(f x).length=z)(hs:zs.length=z){L:List X}{k:Nat}(x:X):wr (qj f L++zA (k+1) zs) (L.length*z) (f x)=qj f (L++[x])++zA k zs:=by
 unfold zA
 rw[List.replicate_succ,List.flatten_cons,←List.append_assoc]
 have h1:(qj f L++zs).length=(qj f L).length+z:=by simp[hs]
 have h2:=J2 (qj f L) zs (f x) (by rw[hz,hs])
 rw[yh hz]at h2
 rw[abd _ _ _ _ (by rw[h1,yh hz,hz];exact Nat.le_refl _),h2,←yi,qO,jY,List.append_nil]
theorem afS:zq ρ (zA n z3)=zA n z3:=acS rfl
theorem afT:AllL p (zA n z3)=True:=eq_true (acT (by simp[z3,AllL,AV.All]))
theorem J1:(zA n z3).length=n*3:=zJ n z3
theorem aos:zq ρ (zA n z6)=zA n z6:=acS rfl
theorem aot:AllL p (zA n z6)=True:=eq_true (acT (by simp[z6,AllL,AV.All]))
theorem Jr:(zA n z6).length=n*6:=zJ n z6
theorem Qh:zA 0 zs=[]:=by simp[zA]
theorem ZJ{L:List ExV}{k:Nat}{x:ExV}:wr (qj ExV.cs L++zA (k+1) z3) (L.length*3) [.v (.bool x.s),.sl (lim x.m).length (qg (lim x.m)),.v (.int .i64 x.e)]=qj ExV.cs (L++[x])++zA k z3:=Vf aaq rfl x
theorem QP{a b:List AV}:zq ρ (a++b)=zq ρ a++zq ρ b:=by simp[qU]
theorem ad1{a b:List AV}:AllL p (a++b)=(AllL p a∧AllL p b):=propext ⟨fun h=>by
 induction a with
 |nil=>exact⟨by simp[AllL],h⟩
 |cons x r ih=>exact⟨⟨h.1,(ih h.2).1⟩,(ih h.2).2⟩,fun h=>AllL.append h.1 h.2⟩
end
attribute [go_sem] afS afT J1 aos aot Jr QP ad1
end Go.Ab
namespace Go.Ab
open Go
section
variable {X:Type}{f:X→List AV}{z:Nat}
theorem aqI(hz:∀x,(f x).length=z){y:X}{L:List X}{i:Nat}(hi:i<L.length):wr (qj f L) (i*z) (f y)=qj f (L.set i y):=by
 have e:L=L.take i++[L[i]]++L.drop (i+1):=by
  rw[List.append_assoc,List.singleton_append,List.getElem_cons_drop,List.take_append_drop]
 have h1:(qj f (L.take i)).length=i*z:=by rw[yh hz,List.length_take,Nat.min_eq_left (by omega)]
 have h2:qj f L=qj f (L.take i)++f L[i]++qj f (L.drop (i+1)):=by
  conv=>lhs;rw[e]
  rw[←yi,←yi,qO,jY,List.append_nil]
 rw[h2,abd _ _ _ _ (by rw[List.length_append,h1,hz,hz];omega),←h1,J2 _ _ _ (by rw[hz,hz]),List.set_eq_take_append_cons_drop,if_pos hi,←yi,qO,List.append_assoc]
end
theorem aiJ{l:List DyV}{i:Nat}(hi:i<l.length):cut (qj DyV.cs l) (i*3) 3=[.v (.bool (l.getD i dy0).s),.sl (l.getD i dy0).xs.length (qg (l.getD i dy0).xs),.v (.int .i64 (l.getD i dy0).e)]:=Qv (l:=l) XE hi dy0
end Go.Ab
namespace Go.Ab
open Go
section
variable {σ:St}
end
end Go.Ab
namespace Go.Ab
open Go
theorem yW{L:List SpV}{k:Nat}{x:SpV}:wr (qj SpV.cs L++zA (k+1) z6) (L.length*6) [.v (.bool x.lo.s),.sl (lim x.lo.m).length (qg (lim x.lo.m)),.v (.int .i64 x.lo.e),.v (.bool x.hi.s),.sl (lim x.hi.m).length (qg (lim x.hi.m)),.v (.int .i64 x.hi.e)]=qj SpV.cs (L++[x])++zA k z6:=Vf agv rfl x
theorem ags{L:List SpV}{i:Nat}(hi:i<L.length):qj SpV.cs L=(qj SpV.cs (L.take i)++(L.getD i sp0).lo.cs)++(L.getD i sp0).hi.cs++qj SpV.cs (L.drop (i+1))∧(qj SpV.cs (L.take i)++(L.getD i sp0).lo.cs).length=i*6+3:=by
 have e:L=L.take i++[L.getD i sp0]++L.drop (i+1):=by
  rw[List.getD_eq_getElem?_getD,List.getElem?_eq_getElem hi,Option.getD_some,List.append_assoc,List.singleton_append,List.getElem_cons_drop,List.take_append_drop]
 constructor
 ·conv=>lhs;rw[e]
  rw[←yi,←yi,qO,jY,List.append_nil]
  show _++((L.getD i sp0).lo.cs++(L.getD i sp0).hi.cs)++_=_
  rw[←List.append_assoc]
 ·rw[List.length_append,yg,List.length_take,Nat.min_eq_left (by omega),aaq]
theorem Xl{L:List SpV}{i:Nat}(hi:i<L.length):cut (qj SpV.cs L) (i*6+3) 3=[.v (.bool (L.getD i sp0).hi.s),.sl (lim (L.getD i sp0).hi.m).length (qg (lim (L.getD i sp0).hi.m)),.v (.int .i64 (L.getD i sp0).hi.e)]:=by
 obtain⟨h1,h2⟩:=ags hi
 rw[h1,←h2]
 unfold cut
 rw[List.append_assoc,List.drop_left',List.take_left' (aaq _)]
 ·rfl
 ·rfl
end Go.Ab
namespace Go.Ab
open Go
section
variable {P:Program}{N:Nat}{Q:Exit→St→Prop}{σ:St}
end
end Go.Ab
namespace Go.Ab
open Go
/-! ### Rows of which some cells groups are still nought-/
def ocs:Option ExV→List AV
 |none=>z3
 |some x=>x.cs
theorem avK:∀x,(ocs x).length=3:=fun x=>by cases x<;>rfl
theorem ark{ρ:Nat→Nat}{l:List (Option ExV)}:zq ρ (qj ocs l)=qj ocs l:=Z1 fun x=>by
 cases x with
 |none=>exact ID rfl
 |some x=>exact aiy x
theorem arl{p:Nat→Prop}{l:List (Option ExV)}:AllL p (qj ocs l)=True:=eq_true (Z2 fun x=>by
 cases x with
 |none=>simp[ocs,z3,AllL,AV.All]
 |some x=>exact aiz x)
theorem ahh{l:List (Option ExV)}:(qj ocs l).length=l.length*3:=yh avK
theorem alZ{k:Nat}:zA k z3=qj ocs (List.replicate k none):=by
 unfold qj zA
 rw[List.map_replicate];rfl
theorem arj{l:List (Option ExV)}{i:Nat}{x:ExV}(hi:i<l.length):wr (qj ocs l) (i*3) [.v (.bool x.s),.sl (lim x.m).length (qg (lim x.m)),.v (.int .i64 x.e)]=qj ocs (l.set i (some x)):=aqI avK (y:=some x) hi
theorem al0{hp:Nat→Ob}{k:Nat}{l:List (Option ExV)}:(qj ocs l).map (qD hp (k+1))=qj ExV.cs (l.map fun o=>o.getD ex0):=by
 induction l with
 |nil=>rfl
 |cons o l ih=>
  rw[qO,List.map_append,ih,List.map_cons,qO]
  congr 1
  cases o with
  |none=>simp[ocs,z3,qD,ExV.cs,ex0,qr,qg]
  |some x=>
   have:=adG (hp:=hp) (k:=k) (l:=[x])
   rw[qO,jY,List.append_nil]at this
   exact this
attribute [go_sem] ark arl ahh
end Go.Ab
namespace Go.Ab
open Go
/-! ### A call that lends what its arguments name deep within-/
def aa5(P:Program)(f:FuncId)(aa0:List AV)(hp:Nat→Ob)(nm0:Nat)(K:AV→(Nat→Ob)→Prop):Prop:=
 ∃cl nms post,Con P f cl (aa0.map (snp (hpx cl nms hp) (idx nms) 6)) (nms.map fun n=>(hp n).ren (back nms)) post∧nms.Nodup∧Xy hp nms∧
  ∀r hs bs',post r hs bs'→hs.length≤10000000∧qB hp nm0 hs∧(cl=true→nms=[]∨∀ob∈bs',ob.plain)∧
   K (r.ren (rho nm0 nms)) (Q3 (Xh (rho nm0 nms) hp nm0 hs) nms (bs'.map (Ob.ren (rho nm0 nms))))
section
variable {P:Program}{L:Nat→Option Blk→Prop}{w0 w:World}{R:Nat→Prop}{ι:Nat→Option Blk}{tm:Array Value}{σ:St}{K:AV→(Nat→Ob)→Prop}
theorem ajO{f:FuncId}{aa0:List AV}{nm0:Nat}{vs:Array Value}(h:Inv L w0 R ι w tm σ)(hv:RepA R ι w vs aa0)(hs:aa5 P f aa0 σ.hp nm0 K):
  Calls P f vs w fun e w'=>∃x R' ι' av hp',e=.returned x∧(∀b,R' b→R b∨w.heap.size≤b)∧K av hp'∧Rep R' ι' w' x av∧av.All (fun m=>hp' m≠ .free)∧Inv L w0 R' ι' w' tm ⟨σ.env,hp'⟩:=by
 obtain⟨cl,nms,post,hc,hnd,hl,hpost⟩:=hs
 let R₁:Nat→Prop:=fun b=>R b∨afP (hpx cl nms σ.hp) ι b
 let ι₁:Nat→Option Blk:=fun m=>if 10000000≤m then(nms[m-10000000]?).bind ι else none
 have hHx:=h.hp.hpx cl nms
 have hι₁:∀i (hi:i<nms.length),ι₁ (10000000+i)=ι nms[i]:=fun i hi=>by
  show(if 10000000≤10000000+i then _ else _)=_
  rw[if_pos (by omega),show 10000000+i-10000000=i by omega,List.getElem?_eq_getElem hi];rfl
 have hbk:∀m,(idx nms m).isSome=true→∃i,∃hi:i<nms.length,nms[i]=m∧back nms m=10000000+i:=by
  intro m hm
  obtain⟨i,e⟩:=Option.isSome_iff_exists.1 hm
  obtain⟨hi,e2⟩:=y8 e
  exact⟨i,hi,e2,by simp[back,e]⟩
 have hxe:∀{m z cs},hpx cl nms σ.hp m=.own z cs→σ.hp m=.own z cs∧cl=true∧idx nms m=none:=by
  intro m z cs e
  unfold hpx at e
  cases cl with
  |false=>cases e
  |true=>
   simp only[cond_true]at e
   split at e
   ·cases e
   ·rename_i hi;exact⟨e,rfl,by simpa using hi⟩
 generalize hbs:nms.map (fun n=>(σ.hp n).ren (back nms))=bs at hc
 have hblen:bs.length=nms.length:=by rw[←hbs];simp
 have hbget:∀i (hi:i<nms.length),bhp bs (10000000+i)=(σ.hp nms[i]).ren (back nms):=fun i hi=>by
  simp only[bhp]
  rw[if_pos (by omega),show 10000000+i-10000000=i by omega,←hbs,List.getD_eq_getElem?_getD,List.getElem?_map,List.getElem?_eq_getElem hi];rfl
 have hbown:∀{m z cs},bhp bs m=.own z cs→∃i,∃hi:i<nms.length,m=10000000+i∧∃cs0,σ.hp nms[i]=.own z cs0∧cs=zq (back nms) cs0∧AllL (fun m=>(idx nms m).isSome=true) cs0:=by
  intro m z cs e
  have h5:10000000≤m:=by
   rcases Nat.lt_or_ge m 10000000 with h|h
   ·simp[bhp,show ¬10000000≤m by omega]at e
   ·exact h
  obtain⟨i,rfl⟩:∃i,m=10000000+i:=⟨m-10000000,by omega⟩
  have hi:i<nms.length:=by
   rcases Nat.lt_or_ge i nms.length with h|h
   ·exact h
   ·simp only[bhp]at e
    rw[if_pos h5,show 10000000+i-10000000=i by omega,List.getD_eq_getElem?_getD,List.getElem?_eq_none (by omega)]at e
    cases e
  rw[hbget i hi]at e
  obtain⟨z',cs0,eo,ha⟩:=hl _ (List.getElem_mem hi)
  rw[eo]at e
  simp only[Ob.ren]at e
  injection e with e1 e2
  subst e1
  exact⟨i,hi,rfl,cs0,eo,e2.symm,ha⟩
 have hbne:∀i,i<nms.length→bhp bs (10000000+i)≠ .free:=fun i hi=>by
  rw[hbget i hi]
  obtain⟨z',cs0,eo,ha⟩:=hl _ (List.getElem_mem hi)
  rw[eo];simp[Ob.ren]
 have hR₁lt:∀b,R₁ b→b<w.heap.size:=fun b hb=>by
  rcases hb with hb|⟨m,z,cs,B,e,hB,rfl⟩
  ·exact h.rlt b hb
  ·exact h.block_lt (hxe e).1 hB
 have hnR₁:∀i (hi:i<nms.length) B,ι nms[i]=some B→¬R₁ B.b:=fun i hi B hB hr=>by
  obtain⟨z',cs0,eo,ha⟩:=hl _ (List.getElem_mem hi)
  rcases hr with hr|⟨m,z,cs,B',e,hB',eb⟩
  ·exact h.hp.nR _ _ _ _ eo hB hr
  ·have:=h.hp.inj _ _ _ _ _ _ _ _ (hxe e).1 eo hB' hB eb
   subst this
   have:=(hxe e).2.2
   rw[yy hnd i hi]at this;cases this
 have hHp:HpOk R₁ ι₁ w (bhp bs):=by
  refine⟨fun m=>?_,fun m z cs B e hB=>?_,fun m m' z z' cs cs' B B' e e' hB hB' hbb=>?_,fun m z cs e=>?_⟩
  ·cases e:bhp bs m with
   |free=>trivial
   |dead=>trivial
   |own z cs=>
    obtain⟨i,hi,rfl,cs0,eo,rfl,ha⟩:=hbown e
    rw[hι₁ i hi]
    have hok:=h.hp.ok nms[i]
    rw[eo]at hok
    have h1:OOk R₁ ι w (ι nms[i]) (.own z cs0):=hok.mono (fun _ _=>rfl) (fun _ _ _ _ _=>rfl) (fun _ h=>.inl h) (fun _ _ _=>AllL.of_mem fun a _=>AV.all_true (fun _=>rfl) a)
    refine h1.ren (ρ:=back nms) fun z' cs' e'=>?_
    cases e'
    refine ha.mono fun m hm=>?_
    obtain⟨j,hj,e1,e2⟩:=hbk m hm
    rw[e2,hι₁ j hj,e1]
  ·obtain⟨i,hi,rfl,cs0,eo,rfl,ha⟩:=hbown e
   rw[hι₁ i hi]at hB
   exact hnR₁ i hi B hB
  ·obtain⟨i,hi,rfl,cs0,eo,rfl,ha⟩:=hbown e
   obtain⟨j,hj,rfl,cs0',eo',rfl,ha'⟩:=hbown e'
   rw[hι₁ i hi]at hB
   rw[hι₁ j hj]at hB'
   have:=h.hp.inj _ _ _ _ _ _ _ _ eo eo' hB hB' hbb
   have h1:=yy hnd i hi
   rw[this,yy hnd j hj]at h1
   cases h1;rfl
  ·obtain⟨i,hi,rfl,cs0,eo,rfl,ha⟩:=hbown e
   refine ha.ren fun m hm=>?_
   obtain⟨j,hj,e1,e2⟩:=hbk m hm
   rw[e2];exact hbne j hj
 have hrho:∀m i,idx nms m=some i→ι₁ (10000000+i)=ι m:=fun m i e=>by
  obtain⟨hi,e2⟩:=y8 e
  rw[hι₁ i hi,e2]
 have hargs:RepA R₁ ι₁ w vs (aa0.map (snp (hpx cl nms σ.hp) (idx nms) 6)):=
  hv.all fun hx=>abm hHx (fun _ h=>.inl h) (fun _ h=>.inr h) hrho 6 hx
 have hall:AllL (fun m=>bhp bs m≠ .free) (aa0.map (snp (hpx cl nms σ.hp) (idx nms) 6)):=AllL.of_mem fun a ha=>by
  obtain⟨b,_,rfl⟩:=List.mem_map.1 ha
  refine abn (fun m i e=>?_) 6 b
  obtain⟨hi,e2⟩:=y8 e
  exact hbne i hi
 have hGd:GdL (afP (bhp bs) ι₁) w:=by
  refine⟨h.gdw,fun g l hg ho=>?_⟩
  obtain⟨m,z,cs,B,e,hB,eb⟩:=ho
  obtain⟨i,hi,rfl,cs0,eo,rfl,ha⟩:=hbown e
  rw[hι₁ i hi]at hB
  exact h.gno eo hB g l hg eb
 refine(hc R₁ ι₁ w vs hR₁lt hargs hall hHp hGd).mono ?_
 rintro e w' ⟨x,r,hs,bs',R',ι',rfl,hp,hF⟩
 obtain⟨hN16,hfree,hpl,hK⟩:=hpost r hs bs' hp
 have hN:hs.length≤10000000:=by omega
 have hlen:bs'.length=nms.length:=hF.len.trans hblen
 have hnew:∀b,R' b→w.heap.size≤b∨R b:=fun b hb=>by
  rcases hF.rnew b hb with h1|⟨hcl,h1|⟨m,z,cs,B,e,_⟩⟩
  ·exact .inl h1
  ·exact .inr h1
  ·have:=(hxe e).2.1;rw[hcl]at this;cases this
 have hext:Ext (fun b=>∃n∈nms,∃B,ι n=some B∧B.b=b) w w':=⟨hF.ext.os,hF.ext.tape,hF.ext.output,hF.ext.size,fun b hb hn=>hF.ext.block b hb fun⟨m,z,cs,B,e,hB,eb⟩=>by
  obtain⟨i,hi,rfl,cs0,eo,rfl,ha⟩:=hbown e
  rw[hι₁ i hi]at hB
  exact hn ⟨_,List.getElem_mem hi,B,hB,eb⟩⟩
 have hok:∀m,10000000≤m→OOk (fun b=>R b∨R' b) ι' w' (ι' m) (rhp hs bs' m):=by
  intro m h5
  have h1:=hF.okB m h5
  cases cl with
  |false=>
   refine OOk.mono h1 (fun _ _=>rfl) (fun _ _ _ _ _=>rfl) (fun b hb=>?_) (fun _ _ _=>AllL.of_mem fun a _=>AV.all_true (fun _=>rfl) a)
   rcases hb with(hb|⟨m,z,cs,B,e,_⟩)|hb
   ·exact .inl hb
   ·have:=(hxe e).2.1;cases this
   ·exact .inr hb
  |true=>
   refine h1.plain ?_
   rcases hpl rfl with h2|h2
   ·subst h2
    have:bs'=[]:=List.length_eq_zero_iff.1 (by simpa using hlen)
    subst this
    simp[rhp,h5,Ob.plain]
   ·simp only[rhp,if_pos h5,List.getD_eq_getElem?_getD]
    cases e:bs'[m-10000000]? with
    |none=>simp[Ob.plain]
    |some ob=>simpa using h2 ob (List.mem_of_getElem? e)
 have hnR:∀m z cs B,rhp hs bs' m=.own z cs→ι' m=some B→¬(R B.b∨R' B.b):=fun m z cs B e hB hr=>hF.nR m z cs B e hB (hr.imp .inl id)
 have hlive:∀n∈nms,∃z cs,σ.hp n=.own z cs:=fun n hn=>let ⟨z,cs,e,_⟩:=hl n hn;⟨z,cs,e⟩
 obtain⟨ι₂,hi,hr,ha⟩:=X0 (nm0:=nm0) h hnd hlive hext hF.rlt hnew hF.rep hF.all hF.okF hok hnR hF.inj hF.men hF.fresh hlen hN
  (fun i hi=>by rw[hF.bown _ (by omega),hι₁ i hi]) hF.bnf hfree
 exact⟨x,fun b=>R b∨R' b,ι₂,_,_,rfl,fun b hb=>hb.elim .inl fun hb=>(hnew b hb).elim .inr .inl,hK,hr,ha,hi⟩
end
section
variable {P:Program}{L:Nat→Option Blk→Prop}{w0 w:World}{R:Nat→Prop}{ι:Nat→Option Blk}{a:Act}{σ:St}{K:AV→(Nat→Ob)→Prop}
 {next:Act→World→Prop} {Q:Exit→Act→World→Prop}
theorem ahc{o:Oper}{c}{x:Operand}{f:FuncId}(ho:o.op=.call c)(hc:c.callee=.value x)(e:σ.ev x=.fn f [])(hfn:qz P f)(h:Inv L w0 R ι w a.tmps σ)(hs:aa5 P f (c.args.toList.map σ.ev) σ.hp (crn o) K)
  (hnext:∀x w' R' ι' av hp',(∀b,R' b→R b∨w.heap.size≤b)→K av hp'→Rep R' ι' w' x av→av.All (fun m=>hp' m≠ .free)→Inv L w0 R' ι' w' a.tmps ⟨σ.env,hp'⟩→next (a.put o.dst x) w'):
  o.wp P a w next Q:=by
 unfold Oper.wp
 have hv:=adh h c.args
 obtain⟨fn,hf,hn,hb⟩:=hfn
 have hx:=h.ev x
 rw[e]at hx
 obtain⟨vs,hx,h1,h2⟩:=hx.fn_inv
 have hvs:RepA R ι w vs []:=⟨h1,h2⟩
 have hv2:=hv.append hvs
 rw[List.append_nil]at hv2
 have hcl:=ajO (nm0:=crn o) h hv2 hs
 have hbn:fn.body.isNone=false:=by cases hq:fn.body<;>simp_all
 have hnn:(fn.name== "runtime.NumGoroutine")=false:=by simpa using hn
 have hrun:(execOp a.eval o).run P w=.ok (.enter f (c.args.map a.eval++vs)) w:=by
  simp only[execOp,ho,resolve,hc,hx,Deferred.ofValue,Sem.run_bind,Sem.run_pure,Result.andThen,invoke,Array.empty_append]
  exact JD hf hnn hbn _
 rw[hrun,Oper.upon_enter]
 refine hcl.mono ?_
 rintro e w' ⟨x,R',ι',av,hp',rfl,h3,h4,h5,h6,h7⟩
 exact hnext x w' R' ι' av hp' h3 h4 h5 h6 h7
theorem AW.regCall{N:Nat}{Q:Exit→St→Prop}{e:Nat→AV}{h:Nat→Ob}{id:Nat}{l:List Oper}{y:Code}(k:Nat){pre suf:List Oper}{d ty:Nat}{pos:String}{af:Array Edge}{c}{x:Operand}{f:FuncId}
  (hp:l.take k=pre) (hs:l.drop k=⟨some d,.call c,ty,pos,af,none⟩::suf) {E:List (Nat×AV)} {H:List (Nat×Ob)}
  (h1:@Ch P N ⟨l⟩ ⟨pre⟩ ⟨fun σ'=>Le σ' ⟨ofL .un E,ofH H⟩⟩ e h)
  (hd:d<N) (hcal:c.callee=.value x) (hx:evW (ofL .un E) x=.fn f []) (hfn:qz P f) {aa0:List AV} (haa:evL (ofL .un E) c.args.toList=aa0)
  (cl:Bool) (nms:List Nat) {args:List AV} {bs:List Ob} {post:AV→List Ob→List Ob→Prop} (hc:Con P f cl args bs post) (ha:aa0.map (snp (hpx cl nms (ofH H)) (idx nms) 6)=args)
  (hb:abH (ofH H) nms nms=bs) (hnd:Qy nms=true) (hl:Xy (ofH H) nms)
  (hk:∀r hs bs',post r hs bs'→bs'.length=bs.length→(hs.length≤10000000∧qB (ofH H) (20000000+10000000*d) hs∧(cl=true→∀ob∈bs',ob.plain))∧
   @Ch P N ⟨l⟩ ⟨suf⟩ ⟨fun σ=>@W P N ⟨y⟩ ⟨Q⟩ σ.env σ.hp⟩ (upd (ofL .un E) d (r.ren (rho (20000000+10000000*d) nms))) (Q3 (Xh (rho (20000000+10000000*d) nms) (ofH H) (20000000+10000000*d) hs) nms (bs'.map (Ob.ren (rho (20000000+10000000*d) nms))))):
  AW P N (.seq (.region id ⟨l⟩ false) y) Q ⟨e,h⟩:=by
 refine AW.seq fun L w0 R0 a w hi=>wp_region ?_
 have hl2:l=pre++⟨some d,.call c,ty,pos,af,none⟩::suf:=by rw[←hp,←hs,List.take_append_drop]
 have hr:List.range (⟨l⟩:Array Oper).size=List.range' 0 pre.length++(pre.length::(List.range' (pre.length+1) suf.length++[])):=by
  have hsz:(⟨l⟩:Array Oper).size=pre.length+(suf.length+1):=by show l.length=_;rw[hl2,List.length_append,List.length_cons]
  rw[hsz,List.append_nil,List.range_eq_range',List.range'_append_1.symm,Nat.zero_add,List.range'_succ]
 rw[hr]
 refine Q1 (K:=fun σ'=>Le σ' ⟨ofL .un E,ofH H⟩) (fun σ a w hi2 hle=>?_) pre 0 (fun j hj=>?_) hi h1
 ·have hi3:=hle L w0 R0 N a w hi2
  obtain⟨R,ι,hR,hinv⟩:=hi3.inv
  have hget:(⟨l⟩:Array Oper)[pre.length]? =some ⟨some d,.call c,ty,pos,af,none⟩:=by
   rw[List.getElem?_toArray,hl2,List.getElem?_append_right (Nat.le_refl _),Nat.sub_self];rfl
  simp only[wpOps,hget]
  rw[if_pos (by simp[Region.wanted])]
  refine .inl (ahc (c:=c) (x:=x) (f:=f) (σ:=⟨ofL .un E,ofH H⟩) rfl hcal (by rw[zN];exact hx) hfn hinv
   (K:=fun v hp'=>@Ch P N ⟨l⟩ ⟨suf⟩ ⟨fun σ=>@W P N ⟨y⟩ ⟨Q⟩ σ.env σ.hp⟩ (upd (ofL .un E) d v) hp') ?_ fun x w' R' ι' av hp' hR' hK hx hm hi'=>?_)
  ·have ea:c.args.toList.map (St.ev ⟨ofL .un E,ofH H⟩)=aa0:=by
    rw[←haa,Qc]
    exact List.map_congr_left fun z _=>zN _ _ _
   rw[ea]
   refine⟨cl,nms,fun r hs bs'=>post r hs bs'∧bs'.length=bs.length,?_,jo hnd,hl,fun r hs bs' ⟨hp,hb⟩=>?_⟩
   ·rw[ha,←K5 nms,hb];exact Con.len' hc
   ·obtain⟨⟨g1,g2,g3⟩,g4⟩:=hk r hs bs' hp hb
    exact⟨g1,g2,fun g=>.inr (g3 g),g4⟩
  ·refine Q1 (K:=fun σ=>@W P N ⟨y⟩ ⟨Q⟩ σ.env σ.hp) (fun σ a w hi4 hq=>?_) suf (pre.length+1) (fun j hj=>?_) (hi3.put (o:=⟨some d,.call c,ty,pos,af,none⟩) hd hR hR' hx hm hi') hK
   ·exact⟨σ,hi4,W.sound hq⟩
   rw[List.getElem?_toArray,hl2,List.getElem?_append_right (by omega),show pre.length+1+j-pre.length=j+1 by omega];rfl
 ·rw[List.getElem?_toArray,hl2,Nat.zero_add,List.getElem?_append_left hj]
end
end Go.Ab
namespace Go.Ab
open Go Go.Proofs
/-! ### Copies of one's own-/
theorem ab6(xs:List Int)(hl:xs.length≤2000000):Con Tryz.prog 296 false [.sl xs.length (qg xs)] [] (fun r hs bs=>r=.rf 0 0 xs.length∧hs=[.own 1 (qg xs)]):=by
 refine Con.of_aw Tryz.func296 rfl Tryz.ntmps296 (by simp) (by simp) (by simp) (W.sound ?_)
 show @W Tryz.prog 22 ⟨_⟩ ⟨fun x σ=>@qY _ _ _ ⟨_⟩ _ ⟨_⟩ x σ⟩ _ _
 simp(disch:=omega)only[go_sem]
 refine⟨⟨by omega,by omega,by omega⟩,?_⟩
 refine qi (fun i:Nat=>[(0,.sl xs.length (qg xs)),(3,.rf 90000000 0 xs.length),(4,.v (.int .i64 i))]) (fun i=>[(90000000,.own 1 (qg (xs.take i++List.replicate (xs.length-i) 0)))]) (fun i=>i≤xs.length) (fun i=>xs.length-i) 0 (by omega)
  (Le.lst [] _ _ rfl (by simp(disch:=omega)only[go_sem];try omega) (by simp(disch:=omega)only[go_sem,Ko,List.take_zero,List.nil_append,Nat.sub_zero])) ?_
 intro i hi
 simp(disch:=omega)only[go_sem]
 refine qh (fun h1=>?_) (fun h1=>?_)
 ·simp(disch:=omega)only[go_sem,h1]
  have el:(xs.take i++List.replicate (xs.length-i) 0).length=xs.length:=by rw[List.length_append,List.length_take,List.length_replicate];omega
  refine⟨by omega,by omega,by omega,by omega,qe (i+1) [] (by show i+1≤_;omega) (by show xs.length-(i+1)<xs.length-i;omega) rfl (by simp(disch:=omega)only[go_sem];try omega) (by simp(disch:=omega)only[go_sem,ac8 (by omega:i<xs.length)])⟩
 ·have:i=xs.length:=by omega
  subst this
  simp(disch:=omega)only[go_sem,h1]
  refine ql [(0,90000000)] [.own 1 (qg xs)] [] [.rf 0 0 xs.length] rfl (by simp(disch:=omega)only[go_sem]) (by simp(disch:=omega)only[go_sem,List.take_length,Nat.sub_self,List.replicate_zero,List.append_nil]) (by simp) (by simp) ⟨rfl,rfl⟩
theorem aeY(xs:List Int)(hl:xs.length≤2000000):Con Tryz.prog 253 false [.ag [.sl xs.length (qg xs)]] [] (fun r hs bs=>r=.ag [.rf 0 0 xs.length]∧hs=[.own 1 (qg xs)]):=by
 refine Con.of_aw Tryz.func253 rfl Tryz.ntmps253 (by simp) (by simp) (by simp) (W.sound ?_)
 show @W Tryz.prog 9 ⟨_⟩ ⟨fun x σ=>@qY _ _ _ ⟨_⟩ _ ⟨_⟩ x σ⟩ _ _
 simp(disch:=omega)only[go_sem]
 refine qw (ab6 xs hl) (by simp(disch:=omega)only[go_sem]) ?_
 rintro r hs ⟨rfl,rfl⟩
 refine⟨by simp[qB];simp(disch:=omega)only[go_sem],?_⟩
 simp(disch:=omega)only[go_sem]
 refine ql [(0,80000000)] [.own 1 (qg xs)] [] [.ag [.rf 0 0 xs.length]] rfl (by simp(disch:=omega)only[go_sem]) (by simp(disch:=omega)only[go_sem]) (by simp) (by simp) ⟨rfl,rfl⟩
theorem aay(s:Bool)(xs:List Int)(hl:xs.length≤2000000):Con Tryz.prog 189 false [.ag [.v (.bool s),.sl xs.length (qg xs)]] [] (fun r hs bs=>r=.ag [.v (.bool s),.rf 0 0 xs.length]∧hs=[.own 1 (qg xs)]):=by
 refine Con.of_aw Tryz.func189 rfl Tryz.ntmps189 (by simp) (by simp) (by simp) (W.sound ?_)
 show @W Tryz.prog 12 ⟨_⟩ ⟨fun x σ=>@qY _ _ _ ⟨_⟩ _ ⟨_⟩ x σ⟩ _ _
 simp(disch:=omega)only[go_sem]
 refine qw (aeY xs hl) (by simp(disch:=omega)only[go_sem]) ?_
 rintro r hs ⟨rfl,rfl⟩
 refine⟨by simp[qB];simp(disch:=omega)only[go_sem],?_⟩
 simp(disch:=omega)only[go_sem]
 refine ql [(0,110000000)] [.own 1 (qg xs)] [] [.ag [.v (.bool s),.rf 0 0 xs.length]] rfl (by simp(disch:=omega)only[go_sem]) (by simp(disch:=omega)only[go_sem]) (by simp) (by simp) ⟨rfl,rfl⟩
theorem aiV(s:Bool)(xs:List Int)(e:Int)(hl:xs.length≤2000000):Con Tryz.prog 108 false [.ag [.v (.bool s),.sl xs.length (qg xs),.v (.int .i64 e)]] [] (fun r hs bs=>r=.ag [.v (.bool s),.rf 0 0 xs.length,.v (.int .i64 e)]∧hs=[.own 1 (qg xs)]):=by
 refine Con.of_aw Tryz.func108 rfl Tryz.ntmps108 (by simp) (by simp) (by simp) (W.sound ?_)
 show @W Tryz.prog 12 ⟨_⟩ ⟨fun x σ=>@qY _ _ _ ⟨_⟩ _ ⟨_⟩ x σ⟩ _ _
 simp(disch:=omega)only[go_sem]
 refine qw (aay s xs hl) (by simp(disch:=omega)only[go_sem]) ?_
 rintro r hs ⟨rfl,rfl⟩
 refine⟨by simp[qB];simp(disch:=omega)only[go_sem],?_⟩
 simp(disch:=omega)only[go_sem]
 refine ql [(0,80000000)] [.own 1 (qg xs)] [] [.ag [.v (.bool s),.rf 0 0 xs.length,.v (.int .i64 e)]] rfl (by simp(disch:=omega)only[go_sem]) (by simp(disch:=omega)only[go_sem]) (by simp) (by simp) ⟨rfl,rfl⟩
/-! ### Marks-/
def mkI(k n:Nat):List Int:=(List.range n).map fun i=>((k+i:Nat):Int)
theorem Zg(k n:Nat):(mkI k n).length=n:=by simp[mkI]
theorem amr(k n:Nat):mkI k (n+1)=mkI k n++[((k+n:Nat):Int)]:=by simp[mkI,List.range_succ]
theorem arQ{k n i:Nat}(h:i<n):(mkI k n).getD i 0=((k+i:Nat):Int):=by
 simp[mkI,List.getD_eq_getElem?_getD,List.getElem?_range h]
theorem arP{k i:Nat}{xs:List Int}(h:i<xs.length):(mkI k i++xs.drop i).set i ((k+i:Nat):Int)=mkI k (i+1)++xs.drop (i+1):=by
 have hl:=Zg k i
 rw[List.set_append_right _ _ (by omega),hl,Nat.sub_self,List.drop_eq_getElem_cons h,List.set_cons_zero,amr]
 simp
theorem JB(k n:Nat)(hn:n≤2^40)(hk:k≤2^40):Con Tryz.prog 89 true [.sl n (qg (mkI k n)),.v (.int .i64 k)] [] (isA (.v (.int .i64 ((k+n:Nat):Int)))):=by
 refine Con.of_w (rs:=[.tmp 4]) Tryz.func89 rfl Tryz.ntmps89 rfl ?_
 simp(disch:=omega)only[go_sem]
 refine qi (fun i:Nat=>[(0,.sl n (qg (mkI k n))),(1,.v (.int .i64 ((k+i:Nat):Int))),(5,.v (.int .i64 i))]) (fun _=>[]) (fun i=>i≤n) (fun i=>n-i) 0 (by omega)
  (Le.lst [] _ _ rfl (by simp(disch:=omega)only[go_sem,Nat.add_zero]) (by simp(disch:=omega)only[go_sem])) ?_
 intro i hi
 simp(disch:=omega)only[go_sem]
 refine qh (fun h1=>?_) (fun h1=>?_)
 ·have hg:=arQ (k:=k) (n:=n) (i:=i) (by omega)
  have hlen:=Zg k n
  simp(disch:=omega)only[go_sem,h1,hg]
  have e1:((k+i:Nat):Int)+1=((k+(i+1):Nat):Int):=by omega
  refine⟨⟨by omega,by omega⟩,by omega,qe (i+1) [] (by show i+1≤_;omega) (by show n-(i+1)<n-i;omega) rfl (by simp(disch:=omega)only[go_sem,e1];try omega) (by simp(disch:=omega)only[go_sem])⟩
 ·have:i=n:=by omega
  subst this
  simp(disch:=omega)only[go_sem,h1]
  exact qt
theorem Jz(k:Nat)(xs:List Int)(hn:xs.length≤2^40)(hk:k≤2^40):Con Tryz.prog 88 false [.rf 10000000 0 xs.length,.v (.int .i64 k)] [.own 1 (qg xs)]
  (fun r hs bs=>r=.v (.int .i64 ((k+xs.length:Nat):Int))∧hs=[]∧bs=[.own 1 (qg (mkI k xs.length))]):=by
 refine Con.of_aw Tryz.func88 rfl Tryz.ntmps88 (by simp) (by simp) (by simp) (W.sound ?_)
 show @W Tryz.prog 19 ⟨_⟩ ⟨fun x σ=>@qY _ _ _ ⟨_⟩ _ ⟨_⟩ x σ⟩ _ _
 simp(disch:=omega)only[go_sem]
 refine qi (fun i:Nat=>[(0,.rf 10000000 0 xs.length),(1,.v (.int .i64 ((k+i:Nat):Int))),(5,.v (.int .i64 i))]) (fun i=>[(10000000,.own 1 (qg (mkI k i++xs.drop i)))]) (fun i=>i≤xs.length) (fun i=>xs.length-i) 0 (by omega)
  (Le.lst [] _ _ rfl (by simp(disch:=omega)only[go_sem,Nat.add_zero]) (by simp(disch:=omega)only[go_sem,List.drop_zero];try rfl)) ?_
 intro i hi
 simp(disch:=omega)only[go_sem]
 refine qh (fun h1=>?_) (fun h1=>?_)
 ·have hlen:(mkI k i++xs.drop i).length=xs.length:=by
   rw[List.length_append,Zg,List.length_drop];omega
  have hs:=arP (k:=k) (i:=i) (xs:=xs) (by omega)
  have e1:((k+i:Nat):Int)+1=((k+(i+1):Nat):Int):=by omega
  simp(disch:=omega)only[go_sem,h1]
  refine⟨by omega,by omega,qe (i+1) [] (by show i+1≤_;omega) (by show xs.length-(i+1)<xs.length-i;omega) rfl (by simp(disch:=omega)only[go_sem,e1];try omega) (by simp(disch:=omega)only[go_sem,hs])⟩
 ·have:i=xs.length:=by omega
  subst this
  simp(disch:=omega)only[go_sem,h1]
  refine ql [] [] [.own 1 (qg (mkI k xs.length))] [.v (.int .i64 ((k+xs.length:Nat):Int))] rfl (by simp(disch:=omega)only[go_sem]) (by simp(disch:=omega)only[go_sem,List.drop_length,List.append_nil]) (by simp) (by simp) ⟨rfl,rfl,rfl⟩
theorem acf(k:Nat)(xs:List Int)(hn:xs.length≤2^40)(hk:k≤2^40):Con Tryz.prog 127 false [.ag [.rf 10000000 0 xs.length],.v (.int .i64 k)] [.own 1 (qg xs)]
  (fun r hs bs=>r=.v (.int .i64 ((k+xs.length:Nat):Int))∧hs=[]∧bs=[.own 1 (qg (mkI k xs.length))]):=by
 refine Con.of_aw Tryz.func127 rfl Tryz.ntmps127 (by simp) (by simp) (by simp) (W.sound ?_)
 show @W Tryz.prog 10 ⟨_⟩ ⟨fun x σ=>@qY _ _ _ ⟨_⟩ _ ⟨_⟩ x σ⟩ _ _
 simp(disch:=omega)only[go_sem]
 refine zl false [10000000] (Jz k xs hn hk) (by simp(disch:=omega)only[go_sem]) (by simp(disch:=omega)only[go_sem]) rfl (q7 (z:=1) (cs:=qg xs) (by simp(disch:=omega)only[go_sem]) (by simp(disch:=omega)only[go_sem])) (by intro n hn;exact⟨_,List.mem_cons_self ..,by rw[List.mem_singleton.1 hn];rfl⟩) ?_
 rintro r hs bs ⟨rfl,rfl,rfl⟩-
 refine⟨by simp[qB],?_⟩
 simp(disch:=omega)only[go_sem]
 refine ql [] [] [.own 1 (qg (mkI k xs.length))] [.v (.int .i64 ((k+xs.length:Nat):Int))] rfl (by simp(disch:=omega)only[go_sem]) (by simp(disch:=omega)only[go_sem]) (by simp) (by simp) ⟨rfl,rfl,rfl⟩
theorem VZ(s:Bool)(k:Nat)(xs:List Int)(hn:xs.length≤2^40)(hk:k≤2^40):Con Tryz.prog 60 false [.ag [.v (.bool s),.rf 10000000 0 xs.length],.v (.int .i64 k)] [.own 1 (qg xs)]
  (fun r hs bs=>r=.v (.int .i64 ((k+xs.length:Nat):Int))∧hs=[]∧bs=[.own 1 (qg (mkI k xs.length))]):=by
 refine Con.of_aw Tryz.func60 rfl Tryz.ntmps60 (by simp) (by simp) (by simp)
  (AW.seqLe (E:=[(1,.v (.int .i64 k)),(2,.pt 40000000 0),(4,.v (.int .i64 0))]) (H:=[(40000000,.own 0 [.v (.bool s),.rf 10000000 0 xs.length]),(10000000,.own 1 (qg xs))]) (W.sound ?_)
   (AW.regCall (E:=[(2,.pt 40000000 0),(4,.v (.int .i64 0)),(6,.ag [.rf 10000000 0 xs.length]),(7,.v (.int .i64 k))]) (H:=[(40000000,.own 0 [.v (.bool s),.rf 10000000 0 xs.length]),(10000000,.own 1 (qg xs))]) 3 (by simp only[List.take_succ_cons,List.take_zero];rfl) (by simp only[List.drop_succ_cons,List.drop_zero];rfl) ?_
    (by decide) rfl rfl (by simp(disch:=omega)only[go_sem]) (by rfl) false [10000000] (acf k xs hn hk) (by simp(disch:=omega)only[go_sem]) (by simp(disch:=omega)only[go_sem]) rfl (q7 (z:=1) (cs:=qg xs) (by simp(disch:=omega)only[go_sem]) (by simp(disch:=omega)only[go_sem])) ?_))
 ·show @W Tryz.prog 10 ⟨_⟩ ⟨_⟩ _ _
  simp(disch:=omega)only[go_sem]
  exact Le.lst [] _ _ rfl (by simp(disch:=omega)only[go_sem]) (by simp(disch:=omega)only[go_sem])
 ·simp(disch:=omega)only[go_sem]
  exact Le.lst [] _ _ rfl (by simp(disch:=omega)only[go_sem]) (by simp(disch:=omega)only[go_sem])
 rintro r hs bs ⟨rfl,rfl,rfl⟩-
 refine⟨by simp[qB],?_⟩
 show @Ch Tryz.prog 10 ⟨_⟩ ⟨_⟩ ⟨fun σ=>@W Tryz.prog 10 ⟨_⟩ ⟨fun x σ=>@qY _ _ _ ⟨_⟩ _ ⟨_⟩ x σ⟩ σ.env σ.hp⟩ _ _
 simp(disch:=omega)only[go_sem]
 refine ql [] [] [.own 1 (qg (mkI k xs.length))] [.v (.int .i64 ((k+xs.length:Nat):Int))] rfl (by simp(disch:=omega)only[go_sem]) (by simp(disch:=omega)only[go_sem]) (by simp) (by simp) ⟨rfl,rfl,rfl⟩
theorem ae9(s:Bool)(e:Int)(k:Nat)(xs:List Int)(hn:xs.length≤2^40)(hk:k≤2^40):Con Tryz.prog 20 false [.ag [.v (.bool s),.rf 10000000 0 xs.length,.v (.int .i64 e)],.v (.int .i64 k)] [.own 1 (qg xs)]
  (fun r hs bs=>r=.v (.int .i64 ((k+xs.length:Nat):Int))∧hs=[]∧bs=[.own 1 (qg (mkI k xs.length))]):=by
 refine Con.of_aw Tryz.func20 rfl Tryz.ntmps20 (by simp) (by simp) (by simp)
  (AW.seqLe (E:=[(1,.v (.int .i64 k)),(2,.pt 40000000 0),(4,.v (.int .i64 0))]) (H:=[(40000000,.own 0 [.v (.bool s),.rf 10000000 0 xs.length,.v (.int .i64 e)]),(10000000,.own 1 (qg xs))]) (W.sound ?_)
   (AW.regCall (E:=[(2,.pt 40000000 0),(4,.v (.int .i64 0)),(6,.ag [.v (.bool s),.rf 10000000 0 xs.length]),(7,.v (.int .i64 k))]) (H:=[(40000000,.own 0 [.v (.bool s),.rf 10000000 0 xs.length,.v (.int .i64 e)]),(10000000,.own 1 (qg xs))]) 3 (by simp only[List.take_succ_cons,List.take_zero];rfl) (by simp only[List.drop_succ_cons,List.drop_zero];rfl) ?_
    (by decide) rfl rfl (by simp(disch:=omega)only[go_sem]) (by rfl) false [10000000] (VZ s k xs hn hk) (by simp(disch:=omega)only[go_sem]) (by simp(disch:=omega)only[go_sem]) rfl (q7 (z:=1) (cs:=qg xs) (by simp(disch:=omega)only[go_sem]) (by simp(disch:=omega)only[go_sem])) ?_))
 ·show @W Tryz.prog 10 ⟨_⟩ ⟨_⟩ _ _
  simp(disch:=omega)only[go_sem]
  exact Le.lst [] _ _ rfl (by simp(disch:=omega)only[go_sem]) (by simp(disch:=omega)only[go_sem])
 ·simp(disch:=omega)only[go_sem]
  exact Le.lst [] _ _ rfl (by simp(disch:=omega)only[go_sem]) (by simp(disch:=omega)only[go_sem])
 rintro r hs bs ⟨rfl,rfl,rfl⟩-
 refine⟨by simp[qB],?_⟩
 show @Ch Tryz.prog 10 ⟨_⟩ ⟨_⟩ ⟨fun σ=>@W Tryz.prog 10 ⟨_⟩ ⟨fun x σ=>@qY _ _ _ ⟨_⟩ _ ⟨_⟩ x σ⟩ σ.env σ.hp⟩ _ _
 simp(disch:=omega)only[go_sem]
 refine ql [] [] [.own 1 (qg (mkI k xs.length))] [.v (.int .i64 ((k+xs.length:Nat):Int))] rfl (by simp(disch:=omega)only[go_sem]) (by simp(disch:=omega)only[go_sem]) (by simp) (by simp) ⟨rfl,rfl,rfl⟩
end Go.Ab
namespace Go.Ab
open Go
section
variable {P:Program}{L:Nat→Option Blk→Prop}{w0 w:World}{R:Nat→Prop}{ι:Nat→Option Blk}{a:Act}{σ:St}{K:AV→(Nat→Ob)→Prop}
def ak4:Nat→Code→Code
 |k+1,.seq a b=>.seq a (ak4 k b)
 |_,_=>.skip
def abX:Nat→Code→Code
 |k+1,.seq _ b=>abX k b
 |0,c=>c
 |k+1,c=>.seq .skip c
theorem aaf{N:Nat}{Q:Exit→St→Prop}:∀(k:Nat) (c:Code) (σ:St),(∀j,j<k→∃a b,abX j c=.seq a b)→WF P N (ak4 k c) (Kv (AW P N (abX k c) Q) Q) σ→AW P N c Q σ
 |0,c,σ,_,h=>by
  cases c<;>exact h
 |k+1,.seq x y,σ,hh,h=>by
  have h:WF P N x (Kv (WF P N (ak4 k y) (Kv (AW P N (abX k y) Q) Q)) (Kv (AW P N (abX k y) Q) Q)) σ:=h
  refine AW.seq ((WF.sound x h).mono fun e σ' h'=>?_)
  cases e with
  |normal=>exact aaf k y σ' (fun j hj=>hh (j+1) (by omega)) h'
  |_=>exact h'
 |k+1,.skip,σ,hh,h=>by obtain⟨a,b,e⟩:=hh 0 (by omega);cases e
 |k+1,.region _ _ _,σ,hh,h=>by obtain⟨a,b,e⟩:=hh 0 (by omega);cases e
 |k+1,.cond _ _ _,σ,hh,h=>by obtain⟨a,b,e⟩:=hh 0 (by omega);cases e
 |k+1,.block _ _,σ,hh,h=>by obtain⟨a,b,e⟩:=hh 0 (by omega);cases e
 |k+1,.loop _,σ,hh,h=>by obtain⟨a,b,e⟩:=hh 0 (by omega);cases e
 |k+1,.exit _,σ,hh,h=>by obtain⟨a,b,e⟩:=hh 0 (by omega);cases e
 |k+1,.ret,σ,hh,h=>by obtain⟨a,b,e⟩:=hh 0 (by omega);cases e
 |k+1,.rangeFunc _ _ _ _,σ,hh,h=>by obtain⟨a,b,e⟩:=hh 0 (by omega);cases e
 |k+1,.scope _,σ,hh,h=>by obtain⟨a,b,e⟩:=hh 0 (by omega);cases e
 |k+1,.label _,σ,hh,h=>by obtain⟨a,b,e⟩:=hh 0 (by omega);cases e
 |k+1,.goto _,σ,hh,h=>by obtain⟨a,b,e⟩:=hh 0 (by omega);cases e
 |k+1,.refuse _,σ,hh,h=>by obtain⟨a,b,e⟩:=hh 0 (by omega);cases e
def ah2:Nat→Code→Bool
 |0,_=>true
 |k+1,.seq _ b=>ah2 k b
 |_+1,_=>false
theorem Xz:∀(k:Nat) (c:Code),ah2 k c=true→∀j,j<k→∃a b,abX j c=.seq a b
 |k+1,.seq x y,h,0,_=>⟨x,y,rfl⟩
 |k+1,.seq x y,h,j+1,hj=>Xz k y h j (by omega)
theorem AW.front{N:Nat}{Q:Exit→St→Prop}{e:Nat→AV}{h:Nat→Ob}{c:Code}(k:Nat){pre suf:Code}(hq:ah2 k c=true)(hp:ak4 k c=pre)(hs:abX k c=suf)(hw:@W P N ⟨pre⟩ ⟨fun x σ=>@yv ⟨AW P N suf Q⟩ ⟨Q⟩ x σ⟩ e h):AW P N c Q ⟨e,h⟩:=by
 subst hp hs
 exact aaf k c ⟨e,h⟩ (Xz k c hq) hw
theorem AW.front1{N:Nat}{Q:Exit→St→Prop}{e:Nat→AV}{h:Nat→Ob}{x0 y:Code}(hw:@W P N ⟨.seq x0 (.skip)⟩ ⟨fun x σ=>@yv ⟨AW P N y Q⟩ ⟨Q⟩ x σ⟩ e h):AW P N (.seq x0 (y)) Q ⟨e,h⟩:=AW.front 1 rfl rfl rfl hw
theorem AW.front2{N:Nat}{Q:Exit→St→Prop}{e:Nat→AV}{h:Nat→Ob}{x0 x1 y:Code}(hw:@W P N ⟨.seq x0 (.seq x1 (.skip))⟩ ⟨fun x σ=>@yv ⟨AW P N y Q⟩ ⟨Q⟩ x σ⟩ e h):AW P N (.seq x0 (.seq x1 (y))) Q ⟨e,h⟩:=AW.front 2 rfl rfl rfl hw
theorem AW.front3{N:Nat}{Q:Exit→St→Prop}{e:Nat→AV}{h:Nat→Ob}{x0 x1 x2 y:Code}(hw:@W P N ⟨.seq x0 (.seq x1 (.seq x2 (.skip)))⟩ ⟨fun x σ=>@yv ⟨AW P N y Q⟩ ⟨Q⟩ x σ⟩ e h):AW P N (.seq x0 (.seq x1 (.seq x2 (y)))) Q ⟨e,h⟩:=AW.front 3 rfl rfl rfl hw
theorem AW.front4{N:Nat}{Q:Exit→St→Prop}{e:Nat→AV}{h:Nat→Ob}{x0 x1 x2 x3 y:Code}(hw:@W P N ⟨.seq x0 (.seq x1 (.seq x2 (.seq x3 (.skip))))⟩ ⟨fun x σ=>@yv ⟨AW P N y Q⟩ ⟨Q⟩ x σ⟩ e h):AW P N (.seq x0 (.seq x1 (.seq x2 (.seq x3 (y))))) Q ⟨e,h⟩:=AW.front 4 rfl rfl rfl hw
end
end Go.Ab
namespace Go.Ab
open Go
/-! ### Families:objects in a row of names,as many as there are-/
def fam(b n:Nat)(F:Nat→Ob)(h:Nat→Ob)(m:Nat):Ob:=if b≤m∧m<b+n then F (m-b)else h m
theorem qp{b n m:Nat}{F h:Nat→Ob}(hm:m<b):fam b n F h m=h m:=if_neg (by omega)
theorem qH{b n m:Nat}{F h:Nat→Ob}(hm:b+n≤m):fam b n F h m=h m:=if_neg (by omega)
theorem qS{b n j:Nat}{F h:Nat→Ob}(hj:j<n):fam b n F h (b+j)=F j:=by
 unfold fam;rw[if_pos (by omega),Nat.add_sub_cancel_left]
section
variable {P:Program}{N:Nat}{Q:Exit→St→Prop}{σ:St}
theorem Le.gen(ρ:Nat→Nat)(e':Nat→AV)(h':Nat→Ob)
  (hE:∀s,e' s=.un∨((e' s).ren ρ=σ.env s∧(e' s).All (fun m=>h' m≠ .free)))
  (hH:∀m z cs,h' m=.own z cs→σ.hp (ρ m)=.own z (zq ρ cs)∧AllL (fun m=>h' m≠ .free) cs∧(zW m=true→ρ m=m)∧(zW m=false→zW (ρ m)=false))
  (hlf:∀m,zW m=true→h' m≠ .free)
  (hinj:∀m m' z z' cs cs',h' m=.own z cs→h' m'=.own z' cs'→ρ m=ρ m'→m=m'):Le σ ⟨e',h'⟩:=by
 intro L w0 R0 N a w hi
 obtain⟨R,ι,hR,h⟩:=hi.inv
 have hrep:∀{x:Value} {v:AV},Rep R ι w x (v.ren ρ)→Rep R (fun m=>ι (ρ m)) w x v:=fun hx=>hx.unren rfl
 refine⟨hi.df,hi.sz,R,fun m=>ι (ρ m),hR,⟨h.ext,h.rlt,fun s=>?_,fun s=>?_,⟨fun m=>?_,fun m z cs B e hB=>h.hp.nR _ _ _ B (hH _ _ _ e).1 hB,fun m m' z z' cs cs' B B' e e' hB hB' hbb=>?_,fun m z cs e=>(hH _ _ _ e).2.1⟩,fun m z cs e=>?_,fun m hm=>hlf m hm,h.gd⟩⟩
 ·show Rep R _ w _ (e' s)
  rcases hE s with h1|⟨h1,h2⟩
  ·rw[h1];exact .fr _ _ (.un _)
  ·have:=h.env s
   rw[←h1]at this
   exact hrep this
 ·show(e' s).All _
  rcases hE s with h1|⟨h1,h2⟩
  ·rw[h1];simp[AV.All]
  ·exact h2
 ·show OOk R _ w (ι (ρ m)) (h' m)
  cases e:h' m with
  |free=>trivial
  |dead=>trivial
  |own z cs=>
   have h1:=h.hp.ok (ρ m)
   rw[(hH _ _ _ e).1]at h1
   cases hB:ι (ρ m)with
   |none=>rw[hB]at h1;have:zq ρ cs=[]:=h1;rw[qU]at this;exact List.map_eq_nil_iff.1 this
   |some B=>
    rw[hB]at h1
    obtain⟨c,T,lo,hi,g1,g2,g3,g4,g5,g6⟩:=h1
    rw[qU]at g5 g6
    refine⟨c,T,lo,hi,g1,g2,g3,g4,by simpa using g5,fun i hi=>?_⟩
    have:=g6 i (by simpa using hi)
    simp only[List.getElem_map]at this
    exact hrep this
 ·have:=h.hp.inj _ _ _ _ _ _ B B' (hH _ _ _ e).1 (hH _ _ _ e').1 hB hB' hbb
  exact hinj _ _ _ _ _ _ e e' this
 ·obtain⟨h1,h2,h5,h6⟩:=hH _ _ _ e
  rcases h.old _ _ _ h1 with g|g
  ·left
   refine⟨?_,g.2⟩
   cases hl:zW m with
   |false=>rfl
   |true=>have:=h5 hl;rw[this,hl]at g;exact g.1
  ·right
   have hl:zW m=true:=by
    cases hl:zW m with
    |true=>rfl
    |false=>have:=h6 hl;rw[this]at g;exact g.1
   have:=h5 hl
   rw[this]at g ⊢
   exact g
theorem Zh{c:Code}{X:Type}(S:X→St)(inv:X→Prop)(μ:X→Nat)(x0:X)(h0:inv x0)(hσ:Le σ (S x0))
  (round:∀x,inv x→@W P N ⟨c⟩ ⟨fun y σ'=>@yv ⟨fun σ'=>@ahq ⟨fun σ'=>∃x',inv x'∧μ x'<μ x∧Le σ' (S x')⟩ σ'.env σ'.hp⟩ ⟨Q⟩ y σ'⟩ (S x).env (S x).hp):
  @amx P N ⟨c⟩ ⟨Q⟩ σ:=by
 refine AW.loop S inv μ x0 h0 hσ fun x hx=>(W.sound (round x hx)).mono fun y σ' hq=>?_
 cases y<;>exact hq
theorem Zf{X:Type}{S:X→St}{inv:X→Prop}{μ:X→Nat}{n:Nat}{e:Nat→AV}{h:Nat→Ob}(x':X)(h1:inv x')(h2:μ x'<n)(hl:Le ⟨e,h⟩ (S x')):
  @ahq ⟨fun σ'=>∃x',inv x'∧μ x'<n∧Le σ' (S x')⟩ e h:=⟨x',h1,h2,hl⟩
def nmF(ks:List Nat)(b n:Nat)(m:Nat):Prop:=jK ks m∨(b≤m∧m<b+n)
def JW(ρ:Nat→Nat)(e:Nat→AV)(p:Nat→Prop):List (Nat×AV)→Prop
 | []=>True
 |(s,v)::r=>(v.ren ρ=e s∧v.All p)∧JW ρ e p r
def av5(ρ:Nat→Nat)(h:Nat→Ob)(p:Nat→Prop):List (Nat×Ob)→Prop
 | []=>True
 |(k,ob)::r=>(ob.ren ρ=h (ρ k)∧ob.men p∧ob.isOwn)∧av5 ρ h p r
theorem VE{ρ:Nat→Nat}{e:Nat→AV}{p:Nat→Prop}:∀{E:List (Nat×AV)},JW ρ e p E→∀q∈E,q.2.ren ρ=e q.1∧q.2.All p
 |(s,v)::r,h,q,hq=>by
  rcases List.mem_cons.1 hq with rfl|hq
  ·exact h.1
  ·exact VE h.2 q hq
theorem JV{ρ:Nat→Nat}{h:Nat→Ob}{p:Nat→Prop}:∀{H:List (Nat×Ob)},av5 ρ h p H→∀q∈H,q.2.ren ρ=h (ρ q.1)∧q.2.men p∧q.2.isOwn
 |(s,v)::r,h,q,hq=>by
  rcases List.mem_cons.1 hq with rfl|hq
  ·exact h.1
  ·exact JV h.2 q hq
theorem Le.famL(ρ:Nat→Nat)(E:List (Nat×AV))(H:List (Nat×Ob))(b n:Nat)(F:Nat→Ob)
  (hn:Qy (H.map (·.1))=true) (hlow:∀q∈H,q.1<b∨b+n≤q.1)
  (hE:JW ρ σ.env (nmF (H.map (·.1)) b n) E) (hH:av5 ρ σ.hp (nmF (H.map (·.1)) b n) H)
  (hF:∀j,j<n→(F j).ren ρ=σ.hp (ρ (b+j))∧(F j).men (nmF (H.map (·.1)) b n)∧(F j).isOwn)
  (hlent:∀m,nmF (H.map (·.1)) b n m→(zW m=true→ρ m=m)∧(zW m=false→zW (ρ m)=false))
  (hinj:∀m m',nmF (H.map (·.1)) b n m→nmF (H.map (·.1)) b n m'→ρ m=ρ m'→m=m'):Le σ ⟨ofL .un E,fam b n F (ofH H)⟩:=by
 have hnd:=jo hn
 have hget:∀q∈H,fam b n F (ofH H) q.1=q.2:=fun q hq=>by
  have:¬(b≤q.1∧q.1<b+n):=by have:=hlow q hq;omega
  show(if b≤q.1∧q.1<b+n then _ else _)=_
  rw[if_neg this]
  exact Vp hnd q hq
 have hne:∀m,nmF (H.map (·.1)) b n m→fam b n F (ofH H) m≠ .free:=fun m hm=>by
  rcases hm with hm|hm
  ·obtain⟨q,hq,rfl⟩:=List.mem_map.1 (JU.1 hm)
   rw[hget q hq]
   exact zR (JV hH q hq).2.2
  ·have:=(hF (m-b) (by omega)).2.2
   show(if b≤m∧m<b+n then _ else _)≠_
   rw[if_pos hm]
   exact zR this
 have hsrc:∀m z cs,fam b n F (ofH H) m=.own z cs→(σ.hp (ρ m)=.own z (zq ρ cs)∧AllL (nmF (H.map (·.1)) b n) cs)∧nmF (H.map (·.1)) b n m:=by
  intro m z cs e
  by_cases hm:b≤m∧m<b+n
  ·have e2:F (m-b)=.own z cs:=by
    have:fam b n F (ofH H) m=F (m-b):=if_pos hm
    rw[←this];exact e
   obtain⟨g1,g2,g3⟩:=hF (m-b) (by omega)
   rw[e2,show b+(m-b)=m by omega]at g1
   rw[e2]at g2
   exact⟨⟨g1.symm,g2⟩,.inr hm⟩
  ·have e2:ofH H m=.own z cs:=by
    have:fam b n F (ofH H) m=ofH H m:=if_neg hm
    rw[←this];exact e
   rcases jZ (l:=H) (s:=m) (d:=(bif zW m then .dead else .free:Ob))with⟨v,h1,h2⟩|h1
   ·have hv:v=.own z cs:=h2.symm.trans e2
    subst hv
    obtain⟨g1,g2,g3⟩:=JV hH _ h1
    exact⟨⟨g1.symm,g2⟩,.inl (JU.2 (List.mem_map_of_mem (f:=(·.1)) h1))⟩
   ·have:ofH H m=_:=h1
    rw[this]at e2
    cases hl:zW m<;>rw[hl]at e2<;>cases e2
 refine Le.gen ρ _ _ (fun s=>?_) (fun m z cs e=>?_) (fun m hm=>?_) (fun m m' z z' cs cs' e e' hr=>hinj m m' (hsrc m z cs e).2 (hsrc m' z' cs' e').2 hr)
 ·rcases jZ (l:=E) (s:=s) (d:=AV.un)with⟨v,h1,h2⟩|h1
  ·right
   rw[h2]
   obtain⟨g1,g2⟩:=VE hE _ h1
   exact⟨g1,g2.mono hne⟩
  ·exact .inl h1
 ·obtain⟨⟨g1,g2⟩,g3⟩:=hsrc m z cs e
  obtain⟨g4,g5⟩:=hlent m g3
  exact⟨g1,g2.mono hne,g4,g5⟩
 ·intro hf
  by_cases hm2:b≤m∧m<b+n
  ·have e2:fam b n F (ofH H) m=F (m-b):=if_pos hm2
   rw[e2]at hf
   exact zR (hF (m-b) (by omega)).2.2 hf
  ·have e2:ofH H m=.free:=by
    have:fam b n F (ofH H) m=ofH H m:=if_neg hm2
    rw[←this];exact hf
   rcases jZ (l:=H) (s:=m) (d:=(bif zW m then .dead else .free:Ob))with⟨v,h1,h2⟩|h1
   ·have hv:v=.free:=h2.symm.trans e2
    exact zR (JV hH _ h1).2.2 hv
   ·have:ofH H m=_:=h1
    rw[this,hm]at e2
    cases e2
end
end Go.Ab
namespace Go.Ab
open Go
def abv(o:Ob):Prop:=o.isOwn∧(∀ρ,o.ren ρ=o)∧(∀p:Nat→Prop,o.men p)
def VI(b i c m:Nat):Nat:=if m=b+i then c else m
theorem QC{b i c:Nat}:VI b i c (b+i)=c:=if_pos rfl
theorem ZF{b i c m:Nat}(h:m≠b+i):VI b i c m=m:=if_neg h
section
variable {P:Program}{N:Nat}{Q:Exit→St→Prop}{σ:St}
theorem Le.fam0(E:List (Nat×AV))(H:List (Nat×Ob))(b:Nat)(F:Nat→Ob)(h:Le σ ⟨ofL .un E,ofH H⟩):Le σ ⟨ofL .un E,fam b 0 F (ofH H)⟩:=by
 have:fam b 0 F (ofH H)=ofH H:=by funext m;exact if_neg (by omega)
 rw[this];exact h
theorem Le.grow(c:Nat)(E:List (Nat×AV))(H:List (Nat×Ob))(b i:Nat)(F:Nat→Ob)(hb:20000000≤b)(hF:∀j,abv (F j))
  (hσ:∀j,j<i→σ.hp (b+j)=F j) (hc:σ.hp c=F i) (hcb:20000000≤c∧c<b) (hcH:c∉H.map (·.1))
  (hn:Qy (H.map (·.1))=true) (hlow:∀q∈H,q.1<b)
  (hE:JW (VI b i c) σ.env (nmF (H.map (·.1)) b (i+1)) E) (hH:av5 (VI b i c) σ.hp (nmF (H.map (·.1)) b (i+1)) H):Le σ ⟨ofL .un E,fam b (i+1) F (ofH H)⟩:=by
 have hk:∀m,nmF (H.map (·.1)) b (i+1) m→m≠b+i→VI b i c m=m∧m≠c:=fun m hm hne=>⟨ZF hne,fun e=>by
  subst e
  rcases hm with hm|hm
  ·exact hcH (JU.1 hm)
  ·omega⟩
 have hlc:∀m,20000000≤m→zW m=false:=fun m hm=>by
  unfold zW
  have:Nat.blt m 20000000=false:=by
   cases h:Nat.blt m 20000000 with
   |false=>rfl
   |true=>simp[Nat.blt]at h;omega
  rw[this,Bool.and_false]
 refine Le.famL (VI b i c) E H b (i+1) F hn (fun q hq=>.inl (hlow q hq)) hE hH (fun j hj=>?_) (fun m hm=>?_) (fun m m' hm hm' e=>?_)
 ·obtain⟨p1,p2,p3⟩:=hF j
  refine⟨?_,p3 _,p1⟩
  rw[p2]
  by_cases hji:j=i
  ·subst hji;rw[QC,hc]
  ·rw[ZF (by omega),hσ j (by omega)]
 ·by_cases hne:m=b+i
  ·subst hne
   rw[QC]
   exact⟨fun h=>(by rw[hlc _ (by omega)]at h;cases h),fun _=>hlc _ hcb.1⟩
  ·rw[(hk m hm hne).1]
   exact⟨fun _=>rfl,fun h=>h⟩
 ·by_cases h1:m=b+i<;>by_cases h2:m'=b+i
  ·rw[h1,h2]
  ·rw[h1,QC,(hk m' hm' h2).1]at e
   exact absurd e.symm (hk m' hm' h2).2
  ·rw[h2,QC,(hk m hm h1).1]at e
   exact absurd e (hk m hm h1).2
  ·rwa[(hk m hm h1).1,(hk m' hm' h2).1]at e
def amD(ρ:Nat→Nat)(p:Nat→Prop):List AV→List AV→Prop
 | [],[]=>True
 |v::r,a::l=>(v.ren ρ=a∧v.All p)∧amD ρ p r l
 |_,_=>False
theorem VD{ρ:Nat→Nat}{p:Nat→Prop}:∀{l' l:List AV},amD ρ p l' l→l'.length=l.length∧∀i,i<l.length→(l'.getD i .un).ren ρ=l.getD i .un∧(l'.getD i .un).All p
 | [],[],_=>by simp
 |v::r,a::l,hl=>by
  obtain⟨h1,h2⟩:=VD hl.2
  refine⟨by simp[h1],fun i hi=>?_⟩
  cases i with
  |zero=>exact hl.1
  |succ i=>exact h2 i (by simpa using hi)
 | [],a::l,hl=>hl.elim
 |v::r,[],hl=>hl.elim
theorem Yy{cl:Bool}{post:AV→List Ob→List Ob→Prop}{l:List AV}{e:Nat→AV}{h:Nat→Ob}(ρ:Nat→Nat)(row:Ob)(n:Nat)(F:Nat→Ob)(l':List AV)(hn:n<9000000)
  (hl:amD ρ (nmF [0] 1 n) l' l) (hrow:row.ren ρ=h (ρ 0)∧row.men (nmF [0] 1 n)∧row.isOwn)
  (hF:∀j,j<n→(F j).ren ρ=h (ρ (1+j))∧(F j).men (nmF [0] 1 n)∧(F j).isOwn)
  (hlent:∀m,m≤n→zW (ρ m)=false) (hinj:∀m m',m≤n→m'≤n→ρ m=ρ m'→m=m')
  (hcl:cl=true→row.pu∧(∀j,j<n→(F j).pu)∧(zr l').pu) (hp:post (zr l') (row::(List.range n).map F) []):@afL N cl 0 ⟨post⟩ ⟨e⟩ l h:=by
 have hchp:fam 1 n F (ofH [(0,row)])=chp (row::(List.range n).map F) []:=by
  funext m
  unfold chp fam
  by_cases hm:1≤m∧m<1+n
  ·rw[if_pos hm]
   have h1:Nat.blt m 10000000=true:=by simp[Nat.blt];omega
   rw[h1,cond_true]
   obtain⟨j,rfl⟩:∃j,m=j+1:=⟨m-1,by omega⟩
   rw[List.getD_cons_succ,Nat.add_sub_cancel,List.getD_eq_getElem?_getD,List.getElem?_map,List.getElem?_range (by omega)];rfl
  ·rw[if_neg hm]
   by_cases h0:m=0
   ·subst h0;rfl
   ·have h2:ofH [(0,row)] m=(bif zW m then .dead else .free):=by
     show(bif Nat.beq 0 m then row else _)=_
     have:Nat.beq 0 m=false:=by cases m with|zero=>exact absurd rfl h0|succ m=>rfl
     rw[this];rfl
    rw[h2]
    unfold zW
    by_cases h3:m<10000000
    ·have a1:Nat.blt m 10000000=true:=by simp[Nat.blt];omega
     have a2:Nat.ble 10000000 m=false:=by
      cases hh:Nat.ble 10000000 m with
      |false=>rfl
      |true=>have:=Nat.le_of_ble_eq_true hh;omega
     rw[a1,a2,Bool.false_and,cond_true,cond_false,List.getD_eq_getElem?_getD,List.getElem?_eq_none (by simp;omega)];rfl
    ·have a1:Nat.blt m 10000000=false:=by
      cases hh:Nat.blt m 10000000 with
      |false=>rfl
      |true=>simp[Nat.blt]at hh;omega
     have a2:Nat.ble 10000000 m=true:=Nat.ble_eq_true_of_le (by omega)
     rw[a1,a2,Bool.true_and,cond_false]
     cases Nat.blt m 20000000<;>simp
 obtain⟨hll,hlg⟩:=VD hl
 have hnm:∀m,nmF [0] 1 n m→m≤n:=fun m hm=>by
  rcases hm with hm|hm
  ·rcases hm with rfl|hm
   ·omega
   ·exact hm.elim
  ·omega
 have hsm:∀m,m≤n→zW m=false:=fun m hm=>by
  unfold zW
  have:Nat.ble 10000000 m=false:=by
   cases hh:Nat.ble 10000000 m with
   |false=>rfl
   |true=>have:=Nat.le_of_ble_eq_true hh;omega
  rw[this,Bool.false_and]
 have hE:JW ρ (Jb N e l) (nmF [0] 1 n) (jk N l'):=by
  have key:∀(l':List AV) (k:Nat),(∀i,i<l'.length→(l'.getD i .un).ren ρ=Jb N e l (N+(k+i))∧(l'.getD i .un).All (nmF [0] 1 n))→JW ρ (Jb N e l) (nmF [0] 1 n) (jk (N+k) l'):=by
   intro l'
   induction l' with
   |nil=>intro k _;trivial
   |cons v r ih=>
    intro k hk
    refine⟨hk 0 (by simp),ih (k+1) fun i hi=>?_⟩
    have:=hk (i+1) (by simpa using hi)
    rw[show k+1+i=k+(i+1) by omega];exact this
  refine key l' 0 fun i hi=>?_
  have h1:=hlg i (by omega)
  refine⟨?_,h1.2⟩
  rw[h1.1]
  unfold Jb
  have:Nat.blt (N+(0+i)) N=false:=by
   cases h:Nat.blt (N+(0+i)) N with
   |false=>rfl
   |true=>simp[Nat.blt]at h;omega
  rw[this,cond_false,show N+(0+i)-N=i by omega]
 have hle:Le ⟨Jb N e l,h⟩ ⟨ofL .un (jk N l'),fam 1 n F (ofH [(0,row)])⟩:=
  Le.famL ρ _ [(0,row)] 1 n F rfl (fun q hq=>by rw[List.mem_singleton.1 hq];exact .inl (by show 0<1;omega)) hE ⟨hrow,trivial⟩ hF
   (fun m hm=>⟨fun h=>(by rw[hsm m (hnm m hm)]at h;cases h),fun _=>hlent m (hnm m hm)⟩) (fun m m' hm hm'=>hinj m m' (hnm m hm) (hnm m' hm'))
 have hne:∀m,nmF [0] 1 n m→rhp (row::(List.range n).map F) [] m≠ .free:=fun m hm=>by
  have hm2:=hnm m hm
  unfold rhp
  rw[if_neg (by omega)]
  cases m with
  |zero=>exact zR hrow.2.2
  |succ j=>
   rw[List.getD_cons_succ,List.getD_eq_getElem?_getD,List.getElem?_map,List.getElem?_range (by omega)]
   exact zR (hF j (by omega)).2.2
 have hmem:∀ob∈(row::(List.range n).map F),ob=row∨∃j,j<n∧ob=F j:=fun ob ho=>by
  rcases List.mem_cons.1 ho with rfl|ho
  ·exact .inl rfl
  ·obtain⟨j,hj,rfl⟩:=List.mem_map.1 ho
   exact .inr ⟨j,List.mem_range.1 hj,rfl⟩
 refine⟨_,row::(List.range n).map F,[],l',hle,hchp,by simp;omega,rfl,fun ob ho=>(by cases ho),fun ob ho=>?_,fun hc ob ho=>?_,fun hc ob ho=>(by cases ho),hll,fun i hi=>?_,fun hc=>(hcl hc).2.2,?_,hp⟩
 ·rw[List.append_nil]at ho
  rcases hmem ob ho with rfl|⟨j,hj,rfl⟩
  ·exact hrow.2.1.mono hne
  ·exact(hF j hj).2.1.mono hne
 ·rcases hmem ob ho with rfl|⟨j,hj,rfl⟩
  ·exact(hcl hc).1
  ·exact(hcl hc).2.1 j hj
 ·show ofL .un (jk N l') (N+i)=_
  rw[y3,if_pos (by omega),show N+i-N=i by omega]
 ·have:AllL (nmF [0] 1 n) l':=AllL.of_get fun i hi=>by
   have:=(hlg i (by omega)).2
   rwa[List.getD_eq_getElem?_getD,List.getElem?_eq_getElem hi]at this
  unfold zr
  split
  ·exact(this.get 0 (by simp)).mono hne
  ·simp only[AV.All];exact this.mono hne
theorem acH{row:Ob}{n:Nat}{F:Nat→Ob}(hn:n<9000000):chp [] (row::(List.range n).map F)=fam 10000001 n F (ofH [(10000000,row)]):=by
 funext m
 unfold chp fam
 by_cases hm:10000001≤m∧m<10000001+n
 ·rw[if_pos hm]
  have h1:Nat.blt m 10000000=false:=by
   cases hh:Nat.blt m 10000000 with
   |false=>rfl
   |true=>simp[Nat.blt]at hh;omega
  have h2:Nat.blt m 20000000=true:=by simp[Nat.blt];omega
  rw[h1,h2,cond_false,cond_true]
  obtain⟨j,rfl⟩:∃j,m=10000001+j:=⟨m-10000001,by omega⟩
  rw[show 10000001+j-10000000=j+1 by omega,List.getD_cons_succ,Nat.add_sub_cancel_left,List.getD_eq_getElem?_getD,List.getElem?_map,List.getElem?_range (by omega)];rfl
 ·rw[if_neg hm]
  by_cases h0:m=10000000
  ·subst h0
   have h1:Nat.blt 10000000 10000000=false:=by decide
   have h2:Nat.blt 10000000 20000000=true:=by decide
   rw[h1,h2,Vp (H:=[(10000000,row)]) (jo rfl) (10000000,row) (List.mem_singleton.2 rfl)];rfl
  ·have h2:ofH [(10000000,row)] m=(bif zW m then .dead else .free):=by
    show(bif Nat.beq 10000000 m then row else _)=_
    rw[abD (fun h=>h0 h.symm),cond_false];rfl
   rw[h2]
   unfold zW
   by_cases h3:m<10000000
   ·have a1:Nat.blt m 10000000=true:=by simp[Nat.blt];omega
    have a2:Nat.ble 10000000 m=false:=by
     cases hh:Nat.ble 10000000 m with
     |false=>rfl
     |true=>have:=Nat.le_of_ble_eq_true hh;omega
    rw[a1,a2,Bool.false_and,cond_true,cond_false];rfl
   ·have a1:Nat.blt m 10000000=false:=by
     cases hh:Nat.blt m 10000000 with
     |false=>rfl
     |true=>simp[Nat.blt]at hh;omega
    have a2:Nat.ble 10000000 m=true:=Nat.ble_eq_true_of_le (by omega)
    have e:(row::(List.range n).map F).getD (m-10000000) .dead=.dead:=by
     rw[List.getD_eq_getElem?_getD,List.getElem?_eq_none (by rw[List.length_cons,List.length_map,List.length_range];omega),Option.getD_none]
    rw[a1,a2,Bool.true_and,cond_false,e]
theorem adF{cl:Bool}{post:AV→List Ob→List Ob→Prop}{l:List AV}{e:Nat→AV}{h:Nat→Ob}{nn:Nat}(row:Ob)(n:Nat)(F:Nat→Ob)(l':List AV)(hnn:nn=n+1)(hn:n<9000000)
  (hl:amD id (nmF [10000000] 10000001 n) l' l) (hrow:row.ren id=h 10000000∧row.men (nmF [10000000] 10000001 n)∧row.isOwn)
  (hF:∀j,j<n→(F j).ren id=h (10000001+j)∧(F j).men (nmF [10000000] 10000001 n)∧(F j).isOwn)
  (hcl:cl=true→row.plain∧(∀j,j<n→(F j).plain)∧(zr l').pu) (hp:post (zr l') [] (row::(List.range n).map F)):@afL N cl nn ⟨post⟩ ⟨e⟩ l h:=by
 have hchp:=(acH (row:=row) (F:=F) hn).symm
 obtain⟨hll,hlg⟩:=VD hl
 have hE:JW id (Jb N e l) (nmF [10000000] 10000001 n) (jk N l'):=by
  have key:∀(l':List AV) (k:Nat),(∀i,i<l'.length→(l'.getD i .un).ren id=Jb N e l (N+(k+i))∧(l'.getD i .un).All (nmF [10000000] 10000001 n))→JW id (Jb N e l) (nmF [10000000] 10000001 n) (jk (N+k) l'):=by
   intro l'
   induction l' with
   |nil=>intro k _;trivial
   |cons v r ih=>
    intro k hk
    refine⟨hk 0 (by simp),ih (k+1) fun i hi=>?_⟩
    have:=hk (i+1) (by simpa using hi)
    rw[show k+1+i=k+(i+1) by omega];exact this
  refine key l' 0 fun i hi=>?_
  have h1:=hlg i (by omega)
  refine⟨?_,h1.2⟩
  rw[h1.1]
  unfold Jb
  have:Nat.blt (N+(0+i)) N=false:=by
   cases h:Nat.blt (N+(0+i)) N with
   |false=>rfl
   |true=>simp[Nat.blt]at h;omega
  rw[this,cond_false,show N+(0+i)-N=i by omega]
 have hle:Le ⟨Jb N e l,h⟩ ⟨ofL .un (jk N l'),fam 10000001 n F (ofH [(10000000,row)])⟩:=
  Le.famL id _ [(10000000,row)] 10000001 n F rfl (fun q hq=>by rw[List.mem_singleton.1 hq];exact .inl (by show 10000000<10000001;omega)) hE ⟨hrow,trivial⟩ hF
   (fun m hm=>⟨fun h=>rfl,fun h=>h⟩) (fun m m' hm hm' h=>h)
 have hne:∀m,nmF [10000000] 10000001 n m→rhp [] (row::(List.range n).map F) m≠ .free:=fun m hm=>by
  unfold rhp
  rcases hm with hm|hm
  ·rcases hm with rfl|hm
   ·rw[if_pos (by omega)];exact zR hrow.2.2
   ·exact hm.elim
  ·rw[if_pos (by omega),show m-10000000=(m-10000001)+1 by omega,List.getD_cons_succ,List.getD_eq_getElem?_getD,List.getElem?_map,List.getElem?_range (by omega)]
   exact zR (hF (m-10000001) (by omega)).2.2
 have hmem:∀ob∈(row::(List.range n).map F),ob=row∨∃j,j<n∧ob=F j:=fun ob ho=>by
  rcases List.mem_cons.1 ho with rfl|ho
  ·exact .inl rfl
  ·obtain⟨j,hj,rfl⟩:=List.mem_map.1 ho
   exact .inr ⟨j,List.mem_range.1 hj,rfl⟩
 refine⟨_,[],row::(List.range n).map F,l',hle,hchp,by simp,by simp[hnn],fun ob ho=>?_,fun ob ho=>?_,fun hc ob ho=>(by cases ho),fun hc ob ho=>?_,hll,fun i hi=>?_,fun hc=>(hcl hc).2.2,?_,hp⟩
 ·rcases hmem ob ho with rfl|⟨j,hj,rfl⟩
  ·exact hrow.2.2
  ·exact(hF j hj).2.2
 ·rw[List.nil_append]at ho
  rcases hmem ob ho with rfl|⟨j,hj,rfl⟩
  ·exact hrow.2.1.mono hne
  ·exact(hF j hj).2.1.mono hne
 ·rcases hmem ob ho with rfl|⟨j,hj,rfl⟩
  ·exact(hcl hc).1
  ·exact(hcl hc).2.1 j hj
 ·show ofL .un (jk N l') (N+i)=_
  rw[y3,if_pos (by omega),show N+i-N=i by omega]
 ·have:AllL (nmF [10000000] 10000001 n) l':=AllL.of_get fun i hi=>by
   have:=(hlg i (by omega)).2
   rwa[List.getD_eq_getElem?_getD,List.getElem?_eq_getElem hi]at this
  unfold zr
  split
  ·exact(this.get 0 (by simp)).mono hne
  ·simp only[AV.All];exact this.mono hne
end
end Go.Ab
namespace Go.Ab
open Go Go.Proofs
/-! ### A row of numbers,each with limbs of its own-/
def dcs(b:Nat)(p:Nat×DyV):List AV:=[.v (.bool p.2.s),.rf (b+p.1) 0 p.2.xs.length,.v (.int .i64 p.2.e)]
theorem aBX(b:Nat)(p:Nat×DyV):(dcs b p).length=3:=rfl
def prs(l:List DyV)(i:Nat):List (Nat×DyV):=(List.range i).map fun j=>(j,l.getD j dy0)
theorem ag6{l:List DyV}{i:Nat}:(prs l i).length=i:=by simp[prs]
theorem alH{l:List DyV}{i:Nat}:prs l (i+1)=prs l i++[(i,l.getD i dy0)]:=by simp[prs,List.range_succ]
theorem Yg{l:List DyV}{i:Nat}{p:Nat×DyV}(h:p∈prs l i):p.1<i:=by
 obtain⟨j,hj,rfl⟩:=List.mem_map.1 h
 exact List.mem_range.1 hj
def ahL(l:List DyV)(j:Nat):Ob:=.own 1 (qg (l.getD j dy0).xs)
theorem yN{a b:Nat}{ρ:Nat→Nat}:∀{L:List (Nat×DyV)},(∀p∈L,ρ (a+p.1)=b+p.1)→zq ρ (qj (dcs a) L)=qj (dcs b) L
 | [],_=>rfl
 |p::L,h=>by
  rw[qO,qO,QP,yN fun q hq=>h q (List.mem_cons_of_mem _ hq)]
  congr 1
  show [_,AV.rf (ρ (a+p.1)) 0 _,_]=_
  rw[h p (List.mem_cons_self ..)];rfl
theorem aiO{b:Nat}{ρ:Nat→Nat}{L:List (Nat×DyV)}(h:∀p∈L,ρ (b+p.1)=b+p.1):zq ρ (qj (dcs b) L)=qj (dcs b) L:=yN h
theorem zP{b:Nat}{q:Nat→Prop}:∀{L:List (Nat×DyV)},(∀p∈L,q (b+p.1))→AllL q (qj (dcs b) L)
 | [],_=>trivial
 |p::L,h=>by
  rw[qO]
  have:=zP fun r hr=>h r (List.mem_cons_of_mem p hr)
  exact⟨trivial,h p (List.mem_cons_self ..),trivial,this⟩
theorem alG{l:List DyV}:prs l 0=[]:=rfl
theorem jf(l:List DyV)(j:Nat):abv (ahL l j):=⟨trivial,fun ρ=>by show Ob.own 1 (zq ρ (qg _))=_;rw[yF];rfl,fun p=>by show AllL p (qg _);exact QX⟩
theorem aiQ{b:Nat}{L:List (Nat×DyV)}:(qj (dcs b) L).length=L.length*3:=yh (aBX b)
theorem anz{b:Nat}{L:List (Nat×DyV)}{k j:Nat}{d:DyV}{c:Nat}:wr (qj (dcs b) L++zA (k+1) z3) (L.length*3) [.v (.bool d.s),.rf c 0 d.xs.length,.v (.int .i64 d.e)]=qj (dcs b) L++([.v (.bool d.s),.rf c 0 d.xs.length,.v (.int .i64 d.e)]++zA k z3):=by
 have h:=Vf (X:=List AV) (f:=fun x=>x.take 3++List.replicate (3-x.length) .un) (z:=3) (zs:=z3) (fun x=>by rw[List.length_append,List.length_take,List.length_replicate];omega) rfl (L:=L.map (dcs b)) (k:=k) [.v (.bool d.s),.rf c 0 d.xs.length,.v (.int .i64 d.e)]
 have e:qj (fun x:List AV=>x.take 3++List.replicate (3-x.length) .un) (L.map (dcs b))=qj (dcs b) L:=by
  unfold qj
  rw[List.map_map];rfl
 have e2:qj (fun x:List AV=>x.take 3++List.replicate (3-x.length) .un) (L.map (dcs b)++[[.v (.bool d.s),.rf c 0 d.xs.length,.v (.int .i64 d.e)]])=qj (dcs b) L++[.v (.bool d.s),.rf c 0 d.xs.length,.v (.int .i64 d.e)]:=by
  unfold qj
  rw[List.map_append,List.flatten_append,List.map_map];rfl
 rw[e,e2,List.length_map,List.append_assoc]at h
 exact h
set_option maxRecDepth 100000 in
theorem ae0(l:List DyV)(hl:l.length≤1048576)(hx:∀d∈l,d.xs.length≤1048576):Con Tryz.prog 50 false [.sl l.length (qj DyV.cs l)] []
  (fun r hs bs=>r=.rf 0 0 l.length∧hs=.own 3 (qj (dcs 1) (prs l l.length))::(List.range l.length).map (ahL l)):=by
 refine Con.of_w (rs:=[.tmp 2]) Tryz.func50 rfl Tryz.ntmps50 rfl ?_
 simp(disch:=omega)only[go_sem]
 refine⟨⟨by omega,by omega,by omega⟩,?_⟩
 refine Zh (S:=fun i:Nat=>⟨ofL .un [(0,.sl l.length (qj DyV.cs l)),(3,.rf 90000000 0 l.length),(4,.v (.int .i64 i))],fam 500000000 i (ahL l) (ofH [(90000000,.own 3 (qj (dcs 500000000) (prs l i)++zA (l.length-i) z3))])⟩) (fun i=>i≤l.length) (fun i=>l.length-i) 0 (by omega)
  (Le.fam0 _ _ _ _ (Le.lst [] _ _ rfl (by simp(disch:=omega)only[go_sem]) (by simp(disch:=omega)only[go_sem,alG,jY,List.nil_append,Nat.sub_zero];try rfl))) ?_
 intro i hi
 show @W Tryz.prog 23 ⟨_⟩ ⟨_⟩ (ofL .un _) (fam 500000000 i (ahL l) (ofH _))
 simp(disch:=omega)only[go_sem]
 refine qh (fun c1=>?_) (fun c1=>?_)
 ·have hi2:i<l.length:=by omega
  have hcut:=aiJ (l:=l) (i:=i) hi2
  have hdm:(l.getD i dy0).xs.length≤1048576:=hx _ (by rw[List.getD_eq_getElem?_getD,List.getElem?_eq_getElem hi2];exact List.getElem_mem _)
  obtain⟨k,hk⟩:∃k,l.length-i=k+1:=⟨l.length-i-1,by omega⟩
  have hfill:=@anz 500000000 (prs l i) k i (l.getD i dy0) 220000000
  rw[ag6]at hfill
  have hps:=@alH l i
  have hLi:ahL l i=.own 1 (qg (l.getD i dy0).xs):=rfl
  generalize l.getD i dy0=d at*
  rw[hk]
  simp(disch:=omega)only[go_sem,c1,hcut,qp]
  refine⟨by omega,by omega,?_⟩
  refine qw (aiV d.s d.xs d.e (by omega)) (by simp(disch:=omega)only[go_sem]) ?_
  rintro r hs ⟨rfl,rfl⟩
  refine⟨by simp[qB];simp(disch:=omega)only[go_sem,qp],?_⟩
  simp(disch:=omega)only[go_sem,qp,hfill]
  have hrow:zq (VI 500000000 i 220000000) (qj (dcs 500000000) (prs l (i+1))++zA k z3)=qj (dcs 500000000) (prs l i)++ .v (.bool d.s):: .rf 220000000 0 d.xs.length:: .v (.int .i64 d.e)::zA k z3:=by
   rw[hps,←yi,List.append_assoc,QP,aiO (fun p hp=>ZF (by have:=Yg hp;omega)),QP]
   show _++([_,AV.rf (VI 500000000 i 220000000 (500000000+i)) 0 _,_]++zq _ (zA k z3))=_
   rw[QC,afS]
   rfl
  have hall:AllL (nmF [90000000] 500000000 (i+1)) (qj (dcs 500000000) (prs l (i+1))++zA k z3):=by
   rw[ad1]
   exact⟨zP fun p hp=>.inr (by have:=Yg hp;omega),of_eq_true afT⟩
  have r9:VI 500000000 i 220000000 90000000=90000000:=ZF (by omega)
  refine⟨⟨by omega,by omega⟩,by rw[List.length_append,aiQ,ag6,J1];omega,Zf (i+1) (by show i+1≤_;omega) (by show l.length-(i+1)<k+1;omega) (Le.grow 220000000 _ _ 500000000 i (ahL l) (by omega) (jf l) (fun j hj=>?_) ?_ (by omega) (by simp) rfl (by simp) (by simp(disch:=omega)only[go_sem,JW,r9,nmF,jK];try omega) ?_)⟩
  ·show upd (upd (fam _ _ _ _) _ _) _ _ _=_
   rw[qk (by omega),qk (by omega),qS hj]
  ·dsimp only
   rw[qk (by omega),qo]
   exact hLi.symm
  ·refine⟨⟨?_,?_,trivial⟩,trivial⟩
   ·rw[r9,show l.length-(i+1)=k by omega]
    dsimp only
    rw[qo]
    exact congrArg (Ob.own 3) hrow
   ·rw[show l.length-(i+1)=k by omega]
    exact hall
 ·simp(disch:=omega)only[go_sem,c1]
  obtain rfl:i=l.length:=by omega
  rw[Nat.sub_self]
  refine Yy (fun m=>if m=0 then 90000000 else 500000000+(m-1)) (.own 3 (qj (dcs 1) (prs l l.length))) l.length (ahL l) [.rf 0 0 l.length] (by omega) (by simp(disch:=omega)only[go_sem,amD,nmF,jK];try simp) ⟨?_,?_,trivial⟩ (fun j hj=>⟨?_,(jf l j).2.2 _,(jf l j).1⟩) (fun m hm=>?_) (fun m m' hm hm' e=>?_) (by simp) ⟨rfl,rfl⟩
  ·show Ob.own 3 (zq _ (qj (dcs 1) (prs l l.length)))=fam 500000000 l.length (ahL l) (ofH [(90000000,.own 3 (qj (dcs 500000000) (prs l l.length)++zA 0 z3))]) 90000000
   rw[yN (a:=1) (b:=500000000) (fun p hp=>by rw[if_neg (by omega)];omega),qp (by omega),Qh,List.append_nil]
   rfl
  ·exact zP fun p hp=>.inr (by have:=Yg hp;omega)
  ·rw[(jf l j).2.1]
   show _=fam _ _ _ _ (if 1+j=0 then 90000000 else 500000000+(1+j-1))
   rw[if_neg (by omega),show 1+j-1=j by omega,qS hj]
  ·have g:∀x:Nat,20000000≤x→zW x=false:=fun x hx=>by
    unfold zW
    have:Nat.blt x 20000000=false:=by
     cases h:Nat.blt x 20000000 with
     |false=>rfl
     |true=>simp[Nat.blt]at h;omega
    rw[this,Bool.and_false]
   exact g _ (by split<;>omega)
  ·have e:(if m=0 then 90000000 else 500000000+(m-1))=(if m'=0 then 90000000 else 500000000+(m'-1)):=e
   split at e<;>split at e<;>omega
end Go.Ab
namespace Go.Ab
open Go Go.Proofs
theorem ai7(cl:Bool)(A B:List Int)(hA:gd A)(hB:gd B)(lA:A.length≤1000000)(lB:B.length≤A.length)(hle:vl B≤vl A):
  Con Tryz.prog 274 cl [.sl A.length (qg A),.sl B.length (qg B)] [] (ahi (lim (vl A-vl B).toNat)):=by
 refine Con.of_aw Tryz.func274 rfl Tryz.ntmps274 (by simp) (by simp) (by simp) (W.sound ?_)
 show @W Tryz.prog 43 ⟨_⟩ ⟨fun x σ=>@qY _ _ _ ⟨_⟩ _ ⟨_⟩ x σ⟩ _ _
 simp(disch:=omega)only[go_sem]
 refine⟨by omega,?_⟩
 refine qi (fun x:Nat×List Int×Int=>[(1,.sl B.length (qg B)),(5,.rf 1 0 x.2.1.length),(6,.v (.int .i64 x.2.2)),(12,.sl A.length (qg A)),(13,.v (.int .i64 A.length)),(14,.v (.int .i64 x.1))])
  (fun x=>[(1,.own 1 (qg x.2.1))])
  (fun x=>x.1≤A.length∧x.2.1.length=x.1∧gd x.2.1∧(0≤x.2.2∧x.2.2≤1)∧vl x.2.1-65536^x.1*x.2.2=vl (A.take x.1)-vl (B.take x.1))
  (fun x=>A.length-x.1) (0,[],0) ⟨by simp,rfl,Yv,by simp,by simp[vl]⟩
  (Le.lst [(1,130000000)] _ _ rfl (by simp(disch:=omega)only[go_sem]) (by simp(disch:=omega)only[go_sem])) ?_
 rintro⟨i,out,bo⟩ ⟨hi,hol,hog,hbo,hov⟩
 dsimp only at hi hol hog hbo hov ⊢
 simp(disch:=omega)only[go_sem]
 refine qh (fun h1=>?_) (fun h1=>?_)
 ·have hx:=qL hA i
  have hy:=qL hB i
  have hstep:∀z b:Int,A.getD i 0-bo-B.getD i 0=z-65536*b→vl (out++[z])-65536^(i+1)*b=vl (A.take (i+1))-vl (B.take (i+1)):=by
   intro z b hz
   rw[yf,q9,q9,hol,Int.pow_succ]
   generalize (65536:Int)^i=Pi at*
   grind
  have hyz:¬i<B.length→B.getD i 0=0:=fun h=>by rw[List.getD_eq_getElem?_getD,List.getElem?_eq_none (by omega)];rfl
  simp(disch:=omega)only[go_sem,h1]
  refine⟨by omega,by omega,qh (fun h2=>?_) (fun h2=>?_)⟩
  ·simp(disch:=omega)only[go_sem,h2]
   refine⟨by omega,by omega,qh (fun h3=>?_) (fun h3=>?_)⟩
   ·simp(disch:=omega)only[go_sem,h3]
    refine⟨by omega,qe (i+1,out++[A.getD i 0-bo-B.getD i 0+65536],1) [(1,410000000)] ⟨by show i+1≤_;omega,by simp[hol],qN.2 ⟨hog,jx.2 (by omega)⟩,by simp,hstep (A.getD i 0-bo-B.getD i 0+65536) 1 (by omega)⟩ (by show A.length-(i+1)<A.length-i;omega) rfl (by simp(disch:=omega)only[go_sem,List.length_append];try omega) (by simp(disch:=omega)only[go_sem])⟩
   ·simp(disch:=omega)only[go_sem,h3]
    refine⟨by omega,qe (i+1,out++[A.getD i 0-bo-B.getD i 0],0) [(1,410000000)] ⟨by show i+1≤_;omega,by simp[hol],qN.2 ⟨hog,jx.2 (by omega)⟩,by simp,hstep (A.getD i 0-bo-B.getD i 0) 0 (by omega)⟩ (by show A.length-(i+1)<A.length-i;omega) rfl (by simp(disch:=omega)only[go_sem,List.length_append];try omega) (by simp(disch:=omega)only[go_sem])⟩
  ·simp(disch:=omega)only[go_sem,h2]
   refine qh (fun h3=>?_) (fun h3=>?_)
   ·simp(disch:=omega)only[go_sem,h3]
    have hy0:=hyz (by omega)
    refine⟨by omega,qe (i+1,out++[A.getD i 0-bo+65536],1) [(1,410000000)] ⟨by show i+1≤_;omega,by simp[hol],qN.2 ⟨hog,jx.2 (by omega)⟩,by simp,hstep (A.getD i 0-bo+65536) 1 (by omega)⟩ (by show A.length-(i+1)<A.length-i;omega) rfl (by simp(disch:=omega)only[go_sem,List.length_append];try omega) (by simp(disch:=omega)only[go_sem])⟩
   ·simp(disch:=omega)only[go_sem,h3]
    have hy0:=hyz (by omega)
    refine⟨by omega,qe (i+1,out++[A.getD i 0-bo],0) [(1,410000000)] ⟨by show i+1≤_;omega,by simp[hol],qN.2 ⟨hog,jx.2 (by omega)⟩,by simp,hstep (A.getD i 0-bo) 0 (by omega)⟩ (by show A.length-(i+1)<A.length-i;omega) rfl (by simp(disch:=omega)only[go_sem,List.length_append];try omega) (by simp(disch:=omega)only[go_sem])⟩
 ·simp(disch:=omega)only[go_sem,h1]
  have hiA:i=A.length:=by omega
  subst hiA
  rw[List.take_length,List.take_of_length_le lB]at hov
  have hb0:bo=0:=by
   have h2:=JH hog
   rw[hol]at h2
   rcases(by omega:bo=0∨bo=1)with h|h
   ·exact h
   ·subst h;omega
  subst hb0
  have hov2:vl out=vl A-vl B:=by omega
  refine zl false [1] (j9 out (by omega)) (by simp(disch:=omega)only[go_sem]) (by simp(disch:=omega)only[go_sem]) rfl (q7 (z:=1) (cs:=qg out) (by simp(disch:=omega)only[go_sem]) (by simp(disch:=omega)only[go_sem])) (by intro n hn;exact⟨_,List.mem_singleton.2 rfl,by rw[List.mem_singleton.1 hn];rfl⟩) ?_
  rintro r hs bs ⟨rfl,rfl,rfl⟩ _
  refine⟨by simp[qB],?_⟩
  simp(disch:=omega)only[go_sem]
  obtain⟨z,hz⟩:=ji out
  have hc:=jL hog
  rw[hov2]at hc
  rw[hc]at hz ⊢
  refine ql [(0,1)] [.own 1 (qg out)] [] [.rf 0 0 (lim (vl A-vl B).toNat).length] rfl (by simp(disch:=omega)only[go_sem]) (by simp(disch:=omega)only[go_sem]) (by simp) (by intro _;simp[zr,AV.pu,AV.pu.puL,Ob.pu,qV]) (.inr ⟨List.replicate z 0,rfl,by rw[←hz]⟩)
end Go.Ab
namespace Go.Ab
open Go Go.Proofs
theorem XM(a b:Nat)(h:b≤a)(la:(lim a).length≤1000000):Con Tryz.prog 274 false [.sl (lim (a)).length (qg (lim (a))),.sl (lim (b)).length (qg (lim (b)))] [] (arn (lim (a-b))):=by
 have:=(ai7 false (lim a) (lim b) (zf a) (zf b) la (y5 h) (by rw[zb,zb];omega)).num
 rwa[apI]at this
theorem VX(s1:Bool)(m1:Nat)(s2:Bool)(m2:Nat)(l1:(lim m1).length≤1000000)(l2:(lim m2).length≤1000000):
  Con Tryz.prog 225 false [.v (.bool s1),.sl (lim (m1)).length (qg (lim (m1))),.v (.bool s2),.sl (lim (m2)).length (qg (lim (m2)))] [] (isA (.tu [.v (.bool (sgS s1 m1 s2 m2)),.sl (lim (suM s1 m1 s2 m2)).length (qg (lim (suM s1 m1 s2 m2)))])):=by
 refine Con.frzA ?_
 have hge:(0≤zG (m1:Int) (m2:Int))↔m2≤m1:=by rw[acF.2.2];omega
 refine Con.of_aw Tryz.func225 rfl Tryz.ntmps225 (by simp) (by simp) (by simp) (W.sound ?_)
 show @W Tryz.prog 31 ⟨_⟩ ⟨fun x σ=>@qY _ _ _ ⟨_⟩ _ ⟨_⟩ x σ⟩ _ _
 simp(disch:=omega)only[go_sem]
 refine Q5 (fun h1=>?_) (fun h1=>?_)
 ·have h1':s1=s2:=by simpa using h1
  simp(disch:=omega)only[go_sem,h1]
  subst h1'
  refine qa (aaB m1 m2 (by omega) (by omega)) ?_
  simp(disch:=omega)only[go_sem]
  refine qX (by simp(disch:=omega)only[go_sem]) ?_
  show qD _ 6 _=_
  rw[ac7,ac2]
  simp(disch:=omega)only[go_sem]
 ·have h1':s1≠s2:=by simpa using h1
  simp(disch:=omega)only[go_sem,h1]
  refine qm (jI m1 m2 (by omega) (by omega)) ?_
  simp(disch:=omega)only[go_sem]
  refine qh (fun h2=>?_) (fun h2=>?_)
  ·have h2':m2≤m1:=hge.1 (by omega)
   simp(disch:=omega)only[go_sem,h2]
   refine qa (XM m1 m2 h2' (by omega)) ?_
   simp(disch:=omega)only[go_sem]
   refine qX (by simp(disch:=omega)only[go_sem]) ?_
   show qD _ 6 _=_
   rw[aoJ h1' h2',aoC h1' h2']
   simp(disch:=omega)only[go_sem]
  ·have h2':¬m2≤m1:=fun h=>h2 (by have:=hge.2 h;omega)
   simp(disch:=omega)only[go_sem,h2]
   refine qa (XM m2 m1 (by omega) (by omega)) ?_
   simp(disch:=omega)only[go_sem]
   refine qX (by simp(disch:=omega)only[go_sem]) ?_
   show qD _ 6 _=_
   rw[aoI h1' h2',aoB h1' h2']
   simp(disch:=omega)only[go_sem]
theorem YT(s1:Bool)(m1:Nat)(e1:Int)(s2:Bool)(m2:Nat)(e2:Int)(h1:bl m1≤4000000)(h2:bl m2≤4000000)(he1: -1000000≤e1∧e1≤1000000)(he2: -1000000≤e2∧e2≤1000000):
  Con Tryz.prog 191 false [.ag [.v (.bool (s1)),.sl (lim (m1)).length (qg (lim (m1))),.v (.int .i64 (e1))],.ag [.v (.bool (s2)),.sl (lim (m2)).length (qg (lim (m2))),.v (.int .i64 (e2))]] [] (isA (.tu [.sl (lim (alA m1 e1 (alE m1 e1 m2 e2))).length (qg (lim (alA m1 e1 (alE m1 e1 m2 e2)))),.sl (lim (alA m2 e2 (alE m1 e1 m2 e2))).length (qg (lim (alA m2 e2 (alE m1 e1 m2 e2)))),.v (.int .i64 (alE m1 e1 m2 e2))])):=by
 refine Con.frzA ?_
 have l1:=qv h1
 have l2:=qv h2
 have hE:=ZS (m1:=m1) (m2:=m2) he1.1 he2.1
 have hE2:=apx (m1:=m1) (m2:=m2) he1.2 he2.2
 have x1:∀d:Int,(if 0>d then 0 else d)=((d.toNat:Nat):Int):=fun d=>by split<;>omega
 refine Con.of_aw Tryz.func191 rfl Tryz.ntmps191 (by simp) (by simp) (by simp) (W.sound ?_)
 show @W Tryz.prog 42 ⟨_⟩ ⟨fun x σ=>@qY _ _ _ ⟨_⟩ _ ⟨_⟩ x σ⟩ _ _
 simp(disch:=omega)only[go_sem]
 refine qh (fun c1=>?_) (fun c1=>?_)
 ·have z1:m1=0:=qE.1 (List.length_eq_zero_iff.1 (by omega))
  simp(disch:=omega)only[go_sem,c1]
  refine qh (fun c2=>?_) (fun c2=>?_)
  ·have z2:m2=0:=qE.1 (List.length_eq_zero_iff.1 (by omega))
   have eE:alE m1 e1 m2 e2=e1:=by unfold alE;rw[if_pos z2]
   simp(disch:=omega)only[go_sem,c2]
   refine qq rfl [⟨0,[],[]⟩,⟨1,[],[]⟩,⟨2,[1],[]⟩,⟨3,[1],[]⟩,⟨4,[1,3],[]⟩,⟨5,[1],[]⟩,⟨6,[1],[]⟩,⟨8,[1,3],[]⟩,⟨9,[1,3],[]⟩,⟨10,[1,3,9],[]⟩,⟨11,[1,3,9],[]⟩,⟨12,[1,3,9,11],[]⟩,⟨13,[1,3,9],[]⟩,⟨14,[1,3,9],[]⟩,⟨16,[1,3,9,11],[]⟩,⟨7,[9,11],[]⟩,⟨15,[],[]⟩,⟨17,[],[]⟩,⟨18,[],[]⟩,⟨19,[],[]⟩] (by kernel_rfl) ?_
   simp(disch:=omega)only[go_sem,x1]
   refine qa (jy m1 (e1-e1).toNat (by omega) (by omega)) ?_ (by simp(disch:=omega)only[go_sem,x1])
   simp(disch:=omega)only[go_sem]
   refine qa (jy m2 (e2-e1).toNat (by omega) (by omega)) ?_ (by simp(disch:=omega)only[go_sem,x1])
   simp(disch:=omega)only[go_sem]
   refine qX (by simp(disch:=omega)only[go_sem]) ?_
   show qD _ 6 _=_
   rw[eE];unfold alA
   simp(disch:=omega)only[go_sem]
  ·have z2:m2≠0:=fun e=>c2 (by rw[e,qr];rfl)
   have eE:alE m1 e1 m2 e2=e2:=by unfold alE;rw[if_neg z2,if_pos z1]
   simp(disch:=omega)only[go_sem,c2]
   refine qq rfl [⟨0,[],[]⟩,⟨1,[],[]⟩,⟨2,[1],[]⟩,⟨3,[1],[]⟩,⟨4,[1,3],[]⟩,⟨5,[1],[]⟩,⟨6,[1],[]⟩,⟨8,[1,3],[]⟩,⟨9,[1,3],[]⟩,⟨10,[1,3,9],[]⟩,⟨11,[1,3,9],[]⟩,⟨12,[1,3,9,11],[]⟩,⟨13,[1,3,9],[]⟩,⟨14,[1,3,9],[]⟩,⟨16,[1,3,9,11],[]⟩,⟨7,[9,11],[]⟩,⟨15,[],[]⟩,⟨17,[],[]⟩,⟨18,[],[]⟩,⟨19,[],[]⟩] (by kernel_rfl) ?_
   simp(disch:=omega)only[go_sem,x1]
   refine qa (jy m1 (e1-e2).toNat (by omega) (by omega)) ?_ (by simp(disch:=omega)only[go_sem,x1])
   simp(disch:=omega)only[go_sem]
   refine qa (jy m2 (e2-e2).toNat (by omega) (by omega)) ?_ (by simp(disch:=omega)only[go_sem,x1])
   simp(disch:=omega)only[go_sem]
   refine qX (by simp(disch:=omega)only[go_sem]) ?_
   show qD _ 6 _=_
   rw[eE];unfold alA
   simp(disch:=omega)only[go_sem]
 ·have z1:m1≠0:=fun e=>c1 (by rw[e,qr];rfl)
  simp(disch:=omega)only[go_sem,c1]
  refine qh (fun c2=>?_) (fun c2=>?_)
  ·have z2:m2=0:=qE.1 (List.length_eq_zero_iff.1 (by omega))
   have eE:alE m1 e1 m2 e2=e1:=by unfold alE;rw[if_pos z2]
   simp(disch:=omega)only[go_sem,c2]
   refine qq rfl [⟨0,[],[]⟩,⟨1,[],[]⟩,⟨2,[1],[]⟩,⟨3,[1],[]⟩,⟨4,[1,3],[]⟩,⟨5,[1],[]⟩,⟨6,[1],[]⟩,⟨8,[1,3],[]⟩,⟨9,[1,3],[]⟩,⟨10,[1,3,9],[]⟩,⟨11,[1,3,9],[]⟩,⟨12,[1,3,9,11],[]⟩,⟨13,[1,3,9],[]⟩,⟨14,[1,3,9],[]⟩,⟨16,[1,3,9,11],[]⟩,⟨7,[9,11],[]⟩,⟨15,[],[]⟩,⟨17,[],[]⟩,⟨18,[],[]⟩,⟨19,[],[]⟩] (by kernel_rfl) ?_
   simp(disch:=omega)only[go_sem,x1]
   refine qa (jy m1 (e1-e1).toNat (by omega) (by omega)) ?_ (by simp(disch:=omega)only[go_sem,x1])
   simp(disch:=omega)only[go_sem]
   refine qa (jy m2 (e2-e1).toNat (by omega) (by omega)) ?_ (by simp(disch:=omega)only[go_sem,x1])
   simp(disch:=omega)only[go_sem]
   refine qX (by simp(disch:=omega)only[go_sem]) ?_
   show qD _ 6 _=_
   rw[eE];unfold alA
   simp(disch:=omega)only[go_sem]
  ·have z2:m2≠0:=fun e=>c2 (by rw[e,qr];rfl)
   have eE:(if e2<e1 then e2 else e1)=alE m1 e1 m2 e2:=by unfold alE;rw[if_neg z2,if_neg z1]
   simp(disch:=omega)only[go_sem,c2,eE]
   refine qq rfl [⟨0,[],[]⟩,⟨1,[],[]⟩,⟨2,[1],[]⟩,⟨3,[1],[]⟩,⟨4,[1,3],[]⟩,⟨5,[1],[]⟩,⟨6,[1],[]⟩,⟨8,[1,3],[]⟩,⟨9,[1,3],[]⟩,⟨10,[1,3,9],[]⟩,⟨11,[1,3,9],[]⟩,⟨12,[1,3,9,11],[]⟩,⟨13,[1,3,9],[]⟩,⟨14,[1,3,9],[]⟩,⟨16,[1,3,9,11],[]⟩,⟨7,[9,11],[]⟩,⟨15,[],[]⟩,⟨17,[],[]⟩,⟨18,[],[]⟩,⟨19,[],[]⟩] (by kernel_rfl) ?_
   simp(disch:=omega)only[go_sem,x1,eE]
   refine qa (jy m1 (e1-alE m1 e1 m2 e2).toNat (by omega) (by omega)) ?_ (by simp(disch:=omega)only[go_sem,x1,eE])
   simp(disch:=omega)only[go_sem]
   refine qa (jy m2 (e2-alE m1 e1 m2 e2).toNat (by omega) (by omega)) ?_ (by simp(disch:=omega)only[go_sem,x1,eE])
   simp(disch:=omega)only[go_sem]
   refine qX (by simp(disch:=omega)only[go_sem]) ?_
   show qD _ 6 _=_
   unfold alA
   simp(disch:=omega)only[go_sem]
theorem ai2(s1:Bool)(m1:Nat)(e1:Int)(s2:Bool)(m2:Nat)(e2:Int)(h1:bl m1≤4000000)(h2:bl m2≤4000000)(he1: -1000000≤e1∧e1≤1000000)(he2: -1000000≤e2∧e2≤1000000):
  Con Tryz.prog 153 false [.ag [.v (.bool (s1)),.sl (lim (m1)).length (qg (lim (m1))),.v (.int .i64 (e1))],.ag [.v (.bool (s2)),.sl (lim (m2)).length (qg (lim (m2))),.v (.int .i64 (e2))]] [] (isA (.ag [.v (.bool (adS s1 m1 e1 s2 m2 e2)),.sl (lim (adM s1 m1 e1 s2 m2 e2)).length (qg (lim (adM s1 m1 e1 s2 m2 e2))),.v (.int .i64 (alE m1 e1 m2 e2))])):=by
 refine Con.frzA ?_
 have hE:=ZS (m1:=m1) (m2:=m2) he1.1 he2.1
 have b1:=JF (e:=e1) (E:=alE m1 e1 m2 e2) (C:=2000000) h1 (by omega)
 have b2:=JF (e:=e2) (E:=alE m1 e1 m2 e2) (C:=2000000) h2 (by omega)
 have l1:=qv b1
 have l2:=qv b2
 refine Con.of_w (rs:=[.cell 4 97]) Tryz.func153 rfl Tryz.ntmps153 rfl ?_
 simp(disch:=omega)only[go_sem]
 refine qa (YT s1 m1 e1 s2 m2 e2 h1 h2 he1 he2) ?_
 simp(disch:=omega)only[go_sem]
 unfold adS adM
 generalize alA m1 e1 (alE m1 e1 m2 e2)=A at*
 generalize alA m2 e2 (alE m1 e1 m2 e2)=B at*
 generalize alE m1 e1 m2 e2=E at*
 refine qa (VX s1 A s2 B (by omega) (by omega)) ?_
 simp(disch:=omega)only[go_sem]
 have hb:=adX (s1:=s1) (s2:=s2) b1 b2
 have hl:(lim (suM s1 A s2 B)).length≤2000000:=by have:=qv hb;omega
 have hq:decide ((0:Int)<((lim (suM s1 A s2 B)).length:Int))=decide (suM s1 A s2 B≠0):=by
  rw[decide_eq_decide]
  exact⟨fun h e=>by rw[e,qr]at h;simp at h,fun h=>by have:=yG h;omega⟩
 rw[←agE]
 refine Q5 (fun h3=>?_) (fun h3=>?_)
 ·simp(disch:=omega)only[go_sem,h3,hq]
  exact qn (hp:=by simp(disch:=omega)only[go_sem,h3,Bool.true_and])
 ·simp(disch:=omega)only[go_sem,h3]
  exact qn (hp:=by simp(disch:=omega)only[go_sem,h3,Bool.false_and])
end Go.Ab
namespace Go.Ab
open Go Go.Proofs
end Go.Ab
namespace Go.Ab
open Go Go.Proofs
def muS(k1:Int)(s1:Bool)(m1:Int)(k2:Int)(s2:Bool)(m2:Int):Bool:=((s1&&decide (k1=1)) != (s2&&decide (k2=1)))&&decide (m1.toNat*m2.toNat≠0)
def aDI(k1:Int)(s1:Bool)(m1 e1 k2:Int)(s2:Bool)(m2 e2 mode:Int):FlV:=
 if(decide (k1=3)||decide (k2=3))=true then⟨3,false,0,0⟩
 else if(decide (k1=2)||decide (k2=2))=true then(if(decide (k1=0)||decide (k2=0))=true then⟨3,false,0,0⟩else⟨2,s1 != s2,0,0⟩)
 else flV (muS k1 s1 m1 k2 s2 m2) (m1.toNat*m2.toNat) (e1+e2) mode (s1 != s2)
def aDJ(k1:Int)(s1:Bool)(m1 e1 k2:Int)(s2:Bool)(m2 e2 mode:Int):Int:=
 if(decide (k1=3)||decide (k2=3))=true then 0
 else if(decide (k1=2)||decide (k2=2))=true then(if(decide (k1=0)||decide (k2=0))=true then 16 else 0)
 else flG (muS k1 s1 m1 k2 s2 m2) (m1.toNat*m2.toNat) (e1+e2) mode
end Go.Ab
namespace Go.Ab
open Go Go.Proofs
section
variable {k1:Int}{s1:Bool}{m1 e1 k2:Int}{s2:Bool}{m2 e2 mode:Int}
end
end Go.Ab
namespace Go.Ab
open Go Go.Proofs
def jz(m:Nat):Bool:=decide ((lim m).length≤100)
def Jd(m:Nat)(e:Int):Bool:=jz (oM m)&&(decide (-3000≤oE m e)&&decide (oE m e≤3000))
theorem ai6(m:Nat)(hl:(lim m).length≤2^40):Con Tryz.prog 263 false [.sl (lim (m)).length (qg (lim (m)))] [] (isA (if jz m=true then .tu [.ag [.sl (lim (m)).length (qg (lim (m)))],.v (.bool true)]else .tu [.ag [.sl (lim (0)).length (qg (lim (0)))],.v (.bool false)])):=by
 refine Con.frzA ?_
 refine Con.of_w (rs:=[.cell 2 40,.tmp 3]) Tryz.func263 rfl Tryz.ntmps263 rfl ?_
 simp(disch:=omega)only[go_sem]
 refine qh (fun c1=>?_) (fun c1=>?_)
 ·have hf:jz m=false:=by unfold jz;simp;omega
  simp(disch:=omega)only[go_sem,c1]
  rw[hf,if_neg (by simp),qr]
  exact qn
 ·have hf:jz m=true:=by unfold jz;simp;omega
  simp(disch:=omega)only[go_sem,c1]
  rw[hf,if_pos rfl]
  refine qa ((aaX false (lim m) (by omega)).num) ?_
  simp(disch:=omega)only[go_sem]
  exact qn
theorem ab4(s:Bool)(m:Nat)(hl:(lim m).length≤2^40):Con Tryz.prog 202 false [.v (.bool s),.sl (lim (m)).length (qg (lim (m)))] [] (isA (if jz m=true then .tu [.ag [.v (.bool (s&&decide (m≠0))),.sl (lim (m)).length (qg (lim (m)))],.v (.bool true)]else .tu [.ag [.v (.bool (false)),.sl (lim (0)).length (qg (lim (0)))],.v (.bool false)])):=by
 refine Con.frzA ?_
 have cn:=ai6 m hl
 have hq:decide ((0:Int)<((lim m).length:Int))=decide (m≠0):=by
  rw[decide_eq_decide]
  exact⟨fun h e=>by rw[e,qr]at h;simp at h,fun h=>by have:=yG h;omega⟩
 cases hf:jz m
 ·rw[hf,if_neg (by simp)]at cn
  rw[if_neg (by simp),qr]
  refine Con.of_w (rs:=[.cell 4 42,.tmp 5]) Tryz.func202 rfl Tryz.ntmps202 rfl ?_
  simp(disch:=omega)only[go_sem]
  refine qa (cn) ?_
  simp(disch:=omega)only[go_sem]
  exact qn
 ·rw[hf,if_pos rfl]at cn
  rw[if_pos rfl]
  refine Con.of_w (rs:=[.cell 4 42,.tmp 5]) Tryz.func202 rfl Tryz.ntmps202 rfl ?_
  simp(disch:=omega)only[go_sem]
  refine qa (cn) ?_
  simp(disch:=omega)only[go_sem]
  cases s
  ·simp(disch:=omega)only[go_sem]
   exact qn
  ·simp(disch:=omega)only[go_sem,hq]
   exact qn
theorem atb(s:Bool)(m:Nat)(e:Int)(hm:bl m≤10000000)(he: -2^39≤e∧e≤2^39):Con Tryz.prog 123 false [.ag [.v (.bool (s)),.sl (lim (m)).length (qg (lim (m))),.v (.int .i64 (e))]] [] (isA (if Jd m e=true then .tu [.ag [.v (.bool (oS s m)),.sl (lim (oM m)).length (qg (lim (oM m))),.v (.int .i64 (oE m e))],.v (.bool true)]else .tu [.ag [.v (.bool (false)),.sl (lim (0)).length (qg (lim (0))),.v (.int .i64 (0))],.v (.bool false)])):=by
 refine Con.frzA ?_
 have hb:=Nat.le_trans (jc (arm m)) hm
 have hl:=qv hb
 have cw:=ab4 (oS s m) (oM m) (by omega)
 have hs:(oS s m&&decide (oM m≠0))=oS s m:=by
  unfold oS
  by_cases h:m=0
  ·rw[if_pos h];rfl
  ·rw[if_neg h,decide_eq_true (show oM m≠0 from fun e=>h (jD.1 e)),Bool.and_true]
 rw[hs]at cw
 cases hf:jz (oM m)
 ·rw[hf,if_neg (by simp)]at cw
  have hd:Jd m e=false:=by unfold Jd;rw[hf];rfl
  rw[hd,if_neg (by simp),qr]
  rw[qr]at cw
  refine Con.of_w (rs:=[.cell 2 44,.tmp 3]) Tryz.func123 rfl Tryz.ntmps123 rfl ?_
  simp(disch:=omega)only[go_sem]
  refine qa (acb s m e hm (by omega)) ?_
  simp(disch:=omega)only[go_sem]
  refine qa (cw) ?_
  simp(disch:=omega)only[go_sem]
  exact qn
 ·rw[hf,if_pos rfl]at cw
  have hd:Jd m e=(decide (-3000≤oE m e)&&decide (oE m e≤3000)):=by unfold Jd;rw[hf];rfl
  rw[hd]
  refine Con.of_w (rs:=[.cell 2 44,.tmp 3]) Tryz.func123 rfl Tryz.ntmps123 rfl ?_
  simp(disch:=omega)only[go_sem]
  refine qa (acb s m e hm (by omega)) ?_
  simp(disch:=omega)only[go_sem]
  refine qa (cw) ?_
  simp(disch:=omega)only[go_sem]
  refine qm (jl (oE m e) (-3000) 3000) ?_
  simp(disch:=omega)only[go_sem]
  refine ady (fun h=>?_) (fun h=>?_)
  ·simp(disch:=omega)only[go_sem,h]
   rw[h,if_neg (by simp),qr]
   exact qn
  ·simp(disch:=omega)only[go_sem,h]
   rw[h,if_pos rfl]
   exact qn
end Go.Ab
namespace Go.Ab
/-! ### Sums of floats-/
def ngS(k:Int)(s:Bool):Bool:=if k=3 then s else !s
def xS(k:Int)(s:Bool):Bool:=s&&decide (k=1)
def adZ(k1:Int)(s1:Bool)(k2:Int)(s2:Bool)(mode:Int):Bool:=if k1=0∧k2=0∧s1=s2 then s1 else decide (mode=3)
def aDx(k1:Int)(s1:Bool)(m1 e1 k2:Int)(s2:Bool)(m2 e2 mode:Int):FlV:=
 if k1=3∨k2=3 then⟨3,false,0,0⟩
 else if k1=2∧k2=2∧s1≠s2 then⟨3,false,0,0⟩
 else if k1=2 then⟨k1,s1,m1,e1⟩
 else if k2=2 then⟨k2,s2,m2,e2⟩
 else flV (adS (xS k1 s1) m1.toNat e1 (xS k2 s2) m2.toNat e2) (adM (xS k1 s1) m1.toNat e1 (xS k2 s2) m2.toNat e2) (alE m1.toNat e1 m2.toNat e2) mode (adZ k1 s1 k2 s2 mode)
def aDy(k1:Int)(s1:Bool)(m1 e1 k2:Int)(s2:Bool)(m2 e2 mode:Int):Int:=
 if k1=3∨k2=3 then 0
 else if k1=2∧k2=2∧s1≠s2 then 16
 else if k1=2 then 0
 else if k2=2 then 0
 else flG (adS (xS k1 s1) m1.toNat e1 (xS k2 s2) m2.toNat e2) (adM (xS k1 s1) m1.toNat e1 (xS k2 s2) m2.toNat e2) (alE m1.toNat e1 m2.toNat e2) mode
section
variable {k1:Int}{s1:Bool}{m1 e1 k2:Int}{s2:Bool}{m2 e2 mode:Int}
end
/-! ### A product and a sum-/
def fmZ(k1:Int)(s1:Bool)(k2:Int)(s2:Bool)(k3:Int)(s3:Bool)(mode:Int):Bool:=if(k1=0∨k2=0)∧k3=0∧s3=(s1 != s2)then s3 else decide (mode=3)
def aDW(k1:Int)(s1:Bool)(m1 e1 k2:Int)(s2:Bool)(m2 e2 k3:Int)(s3:Bool)(m3 e3 mode:Int):FlV:=
 if k1=3∨k2=3 then⟨3,false,0,0⟩
 else if k1=2∨k2=2 then(if k1=0∨k2=0 then⟨3,false,0,0⟩else aDx 2 (s1 != s2) 0 0 k3 s3 m3 e3 mode)
 else if k3=2∨k3=3 then⟨k3,s3,m3,e3⟩
 else flV (adS (muS k1 s1 m1 k2 s2 m2) (m1.toNat*m2.toNat) (e1+e2) (xS k3 s3) m3.toNat e3) (adM (muS k1 s1 m1 k2 s2 m2) (m1.toNat*m2.toNat) (e1+e2) (xS k3 s3) m3.toNat e3) (alE (m1.toNat*m2.toNat) (e1+e2) m3.toNat e3) mode (fmZ k1 s1 k2 s2 k3 s3 mode)
def aDX(k1:Int)(s1:Bool)(m1 e1 k2:Int)(s2:Bool)(m2 e2 k3:Int)(s3:Bool)(m3 e3 mode:Int):Int:=
 if k1=3∨k2=3 then 0
 else if k1=2∨k2=2 then(if k1=0∨k2=0 then 16 else aDy 2 (s1 != s2) 0 0 k3 s3 m3 e3 mode)
 else if k3=2∨k3=3 then 0
 else flG (adS (muS k1 s1 m1 k2 s2 m2) (m1.toNat*m2.toNat) (e1+e2) (xS k3 s3) m3.toNat e3) (adM (muS k1 s1 m1 k2 s2 m2) (m1.toNat*m2.toNat) (e1+e2) (xS k3 s3) m3.toNat e3) (alE (m1.toNat*m2.toNat) (e1+e2) m3.toNat e3) mode
section
variable {k1:Int}{s1:Bool}{m1 e1 k2:Int}{s2:Bool}{m2 e2 k3:Int}{s3:Bool}{m3 e3 mode:Int}
end
end Go.Ab
namespace Go.Ab
theorem anY(x y p:Int)(hp:0<p):zG (x*p) (y*p)=zG x y:=by
 unfold zG
 have h1:x*p<y*p↔x<y:=⟨fun h=>Int.lt_of_mul_lt_mul_right h (Int.le_of_lt hp),fun h=>Int.mul_lt_mul_of_pos_right h hp⟩
 have h2:y*p<x*p↔y<x:=⟨fun h=>Int.lt_of_mul_lt_mul_right h (Int.le_of_lt hp),fun h=>Int.mul_lt_mul_of_pos_right h hp⟩
 simp only[h1,h2]
theorem ZT{m:Nat}{e E:Int}:alA m e E=0↔m=0:=by
 unfold alA
 have:0<2^(e-E).toNat:=Nat.pow_pos (by omega)
 constructor
 ·intro h
  rcases Nat.mul_eq_zero.1 h with h|h
  ·exact h
  ·omega
 ·intro h;rw[h,Nat.zero_mul]
theorem adT{K:Nat}{s1:Bool}{m1:Nat}{e1:Int}{s2:Bool}{m2:Nat}{e2:Int}(h1: -(K:Int)≤e1)(h2: -(K:Int)≤e2):
  zG (sv s1 (alA m1 e1 (alE m1 e1 m2 e2))) (sv s2 (alA m2 e2 (alE m1 e1 m2 e2)))=zG (dv K s1 m1 e1) (dv K s2 m2 e2):=by
 have hE: -(K:Int)≤alE m1 e1 m2 e2:=ZS h1 h2
 have g1:m1≠0→alE m1 e1 m2 e2≤e1:=fun h=>by
  unfold alE
  repeat' split
  all_goals omega
 have g2:m2≠0→alE m1 e1 m2 e2≤e2:=fun h=>by
  unfold alE
  repeat' split
  all_goals omega
 rw[←ad2 hE g1,←ad2 hE g2,anY _ _ _ (Int.pow_pos (by omega))]
theorem aa3{s1:Bool}{m1:Nat}{s2:Bool}{m2:Nat}(z1:m1=0→s1=false)(z2:m2=0→s2=false):
  zG (sv s1 m1) (sv s2 m2)=if s1=true then(if s2=true then zG (m2:Int) (m1:Int)else-1)else(if s2=true then 1 else zG (m1:Int) (m2:Int)):=by
 cases s1<;>cases s2<;>simp only[sv,if_true,Bool.false_eq_true,if_false]
 ·have:m2≠0:=fun h=>by have:=z2 h;cases this
  unfold zG;rw[if_neg (by omega),if_pos (by omega)]
 ·have:m1≠0:=fun h=>by have:=z1 h;cases this
  unfold zG;rw[if_pos (by omega)]
 ·unfold zG
  rcases Int.lt_trichotomy (m1:Int) m2 with h|h|h
  ·rw[if_neg (by omega),if_pos (by omega),if_neg (by omega),if_pos (by omega)]
  ·rw[if_neg (by omega),if_neg (by omega),if_neg (by omega),if_neg (by omega)]
  ·rw[if_pos (by omega),if_pos (by omega)]
theorem YX(x y:Int):(zG x y≤0↔x≤y)∧(zG x y<0↔x<y)∧(zG x y=0↔x=y):=by
 unfold zG
 split
 ·omega
 ·split<;>omega
end Go.Ab
namespace Go.Ab
open Go Go.Proofs
theorem Jh(s1:Bool)(m1:Nat)(s2:Bool)(m2:Nat)(l1:(lim m1).length≤2^40)(l2:(lim m2).length≤2^40)(z1:m1=0→s1=false)(z2:m2=0→s2=false):
  Con Tryz.prog 192 true [.v (.bool s1),.sl (lim (m1)).length (qg (lim (m1))),.v (.bool s2),.sl (lim (m2)).length (qg (lim (m2)))] [] (isA (.v (.int .i64 (zG (sv s1 m1) (sv s2 m2))))):=by
 rw[aa3 z1 z2]
 cases s1<;>cases s2
 ·refine Con.of_w (rs:=[.tmp 8]) Tryz.func192 rfl Tryz.ntmps192 rfl ?_
  simp(disch:=omega)only[go_sem]
  refine qm (jI m1 m2 l1 l2) ?_
  simp(disch:=omega)only[go_sem]
  exact qt
 ·refine Con.of_w (rs:=[.tmp 8]) Tryz.func192 rfl Tryz.ntmps192 rfl ?_
  simp(disch:=omega)only[go_sem]
  exact qt
 ·refine Con.of_w (rs:=[.tmp 8]) Tryz.func192 rfl Tryz.ntmps192 rfl ?_
  simp(disch:=omega)only[go_sem]
  exact qt
 ·refine Con.of_w (rs:=[.tmp 8]) Tryz.func192 rfl Tryz.ntmps192 rfl ?_
  simp(disch:=omega)only[go_sem]
  refine qm (jI m2 m1 l2 l1) ?_
  simp(disch:=omega)only[go_sem]
  exact qt
theorem aaW(K:Nat)(s1:Bool)(m1:Nat)(e1:Int)(s2:Bool)(m2:Nat)(e2:Int)(h1:bl m1≤4000000)(h2:bl m2≤4000000)(he1: -1000000≤e1∧e1≤1000000)(he2: -1000000≤e2∧e2≤1000000)(k1: -(K:Int)≤e1)(k2: -(K:Int)≤e2)(z1:m1=0→s1=false)(z2:m2=0→s2=false):
  Con Tryz.prog 110 true [.ag [.v (.bool (s1)),.sl (lim (m1)).length (qg (lim (m1))),.v (.int .i64 (e1))],.ag [.v (.bool (s2)),.sl (lim (m2)).length (qg (lim (m2))),.v (.int .i64 (e2))]] [] (isA (.v (.int .i64 (zG (dv K s1 m1 e1) (dv K s2 m2 e2))))):=by
 have hE:=ZS (m1:=m1) (m2:=m2) he1.1 he2.1
 have b1:=qv (JF (e:=e1) (E:=alE m1 e1 m2 e2) (C:=2000000) h1 (by omega))
 have b2:=qv (JF (e:=e2) (E:=alE m1 e1 m2 e2) (C:=2000000) h2 (by omega))
 rw[←adT k1 k2]
 have y1:alA m1 e1 (alE m1 e1 m2 e2)=0→s1=false:=fun h=>z1 (ZT.1 h)
 have y2:alA m2 e2 (alE m1 e1 m2 e2)=0→s2=false:=fun h=>z2 (ZT.1 h)
 refine Con.of_w (rs:=[.tmp 4]) Tryz.func110 rfl Tryz.ntmps110 rfl ?_
 simp(disch:=omega)only[go_sem]
 refine qa (YT s1 m1 e1 s2 m2 e2 h1 h2 he1 he2) ?_
 simp(disch:=omega)only[go_sem]
 refine qm (Jh s1 (alA m1 e1 (alE m1 e1 m2 e2)) s2 (alA m2 e2 (alE m1 e1 m2 e2)) (by omega) (by omega) y1 y2) ?_
 simp(disch:=omega)only[go_sem]
 exact qt
def rkF(k:Int)(s:Bool):Int:=if k=2 then(if s=true then-1 else 1)else 0
def aD3(k1:Int)(s1:Bool)(m1 e1 k2:Int)(s2:Bool)(m2 e2:Int):Int:=
 if rkF k1 s1≠rkF k2 s2∨rkF k1 s1≠0 then zG (rkF k1 s1) (rkF k2 s2)else zG (dv 3000 (xS k1 s1) m1.toNat e1) (dv 3000 (xS k2 s2) m2.toNat e2)
end Go.Ab
namespace Go.Ab
open Go Go.Proofs
def ExV.plus(x y:ExV):ExV:=⟨adS x.s x.m x.e y.s y.m y.e,adM x.s x.m x.e y.s y.m y.e,alE x.m x.e y.m y.e⟩
def ExV.neg(x:ExV):ExV:=⟨!x.s&&decide (x.m≠0),x.m,x.e⟩
def ExV.times(x y:ExV):ExV:=⟨(x.s != y.s)&&decide (x.m*y.m≠0),x.m*y.m,x.e+y.e⟩
def ExV.abs(x:ExV):ExV:=⟨false,x.m,x.e⟩
def ExV.shift(x:ExV)(k:Int):ExV:=⟨x.s,x.m,x.e+k⟩
def ExV.over(x y:ExV)(low mode:Int):ExV:=⟨(x.s != y.s)&&decide (ovQ (x.s != y.s) x.m x.e y.m y.e low mode≠0),ovQ (x.s != y.s) x.m x.e y.m y.e low mode,low⟩
def ExV.rnd(x:ExV)(low mode:Int):ExV:=⟨roS x.s x.m x.e low mode,roM x.s x.m x.e low mode,roE x.m x.e low⟩
def ExV.cmp(x y:ExV):Int:=zG (sv x.s (alA x.m x.e (alE x.m x.e y.m y.e))) (sv y.s (alA y.m y.e (alE x.m x.e y.m y.e)))
def ExV.top(x:ExV):Int:=if x.m=0 then 0 else(bl x.m:Int)+x.e
def ExV.bd(lo hi:Int)(x:ExV):Prop:=(x.m=0→x.s=false)∧lo≤x.e∧(bl x.m:Int)+x.e≤hi
theorem ExV.bd.mono{lo hi lo' hi':Int}{x:ExV}(h:x.bd lo hi)(h1:lo'≤lo)(h2:hi≤hi'):x.bd lo' hi':=by
 obtain⟨a,b,c⟩:=h;exact⟨a,by omega,by omega⟩
theorem akb{m:Nat}{e E hi:Int}(h:m≠0→E≤e)(h1:(bl m:Int)+e≤hi)(h2:E≤hi):(bl (alA m e E):Int)+E≤hi:=by
 by_cases h0:m=0
 ·rw[ZT.2 h0,QL];omega
 ·have:=h h0
  have:=Zo m (e-E).toNat
  unfold alA;omega
theorem atS{m1:Nat}{e1:Int}{m2:Nat}{e2:Int}:m1≠0→alE m1 e1 m2 e2≤e1:=fun h=>by
 unfold alE
 repeat' split
 all_goals omega
theorem atR{m1:Nat}{e1:Int}{m2:Nat}{e2:Int}:m2≠0→alE m1 e1 m2 e2≤e2:=fun h=>by
 unfold alE
 repeat' split
 all_goals omega
theorem ExV.plus_bd{lo hi:Int}{x y:ExV}(hx:x.bd lo hi)(hy:y.bd lo hi):(x.plus y).bd lo (hi+1):=by
 obtain⟨a1,a2,a3⟩:=hx
 obtain⟨b1,b2,b3⟩:=hy
 have hE:lo≤alE x.m x.e y.m y.e:=ZS a2 b2
 have hE2:alE x.m x.e y.m y.e≤hi:=apx (by omega) (by omega)
 refine⟨fun h=>?_,hE,?_⟩
 ·show adS x.s x.m x.e y.s y.m y.e=false
  have h:suM _ _ _ _=0:=h
  unfold adS suS
  unfold suM at h
  rw[Int.natAbs_eq_zero.1 h];rfl
 ·have t1:=akb (hi:=hi) (@atS x.m x.e y.m y.e) a3 hE2
  have t2:=akb (hi:=hi) (@atR x.m x.e y.m y.e) b3 hE2
  show(bl (adM x.s x.m x.e y.s y.m y.e):Int)+alE x.m x.e y.m y.e≤hi+1
  unfold adM
  generalize alA x.m x.e (alE x.m x.e y.m y.e)=A at*
  generalize alA y.m y.e (alE x.m x.e y.m y.e)=B at*
  have:=adX (s1:=x.s) (s2:=y.s) (B:=(hi-alE x.m x.e y.m y.e).toNat) (show bl A≤_ by omega) (show bl B≤_ by omega)
  omega
theorem ExV.neg_bd{lo hi:Int}{x:ExV}(hx:x.bd lo hi):x.neg.bd lo hi:=by
 obtain⟨a1,a2,a3⟩:=hx
 refine⟨fun h=>?_,a2,a3⟩
 have h:x.m=0:=h
 show(!x.s&&decide (x.m≠0))=false
 rw[decide_eq_false (show ¬x.m≠0 by omega),Bool.and_false]
theorem ExV.times_bd{l1 h1 l2 h2:Int}{x y:ExV}(hx:x.bd l1 h1)(hy:y.bd l2 h2):(x.times y).bd (l1+l2) (h1+h2):=by
 obtain⟨a1,a2,a3⟩:=hx
 obtain⟨b1,b2,b3⟩:=hy
 refine⟨fun h=>?_,?_,?_⟩
 ·have h:x.m*y.m=0:=h
  show((x.s != y.s)&&decide (x.m*y.m≠0))=false
  rw[decide_eq_false (show ¬x.m*y.m≠0 by omega),Bool.and_false]
 ·show l1+l2≤x.e+y.e
  omega
 ·have:=jN x.m y.m
  show(bl (x.m*y.m):Int)+(x.e+y.e)≤h1+h2
  omega
theorem ExV.abs_bd{lo hi:Int}{x:ExV}(hx:x.bd lo hi):x.abs.bd lo hi:=⟨fun _=>rfl,hx.2.1,hx.2.2⟩
theorem ExV.shift_bd{lo hi k:Int}{x:ExV}(hx:x.bd lo hi):(x.shift k).bd (lo+k) (hi+k):=by
 obtain⟨a1,a2,a3⟩:=hx
 exact⟨a1,by show lo+k≤x.e+k;omega,by show(bl x.m:Int)+(x.e+k)≤hi+k;omega⟩
theorem avz{s:Bool}{m1:Nat}{e1:Int}{m2:Nat}{e2 low mode:Int}:bl (ovQ s m1 e1 m2 e2 low mode)≤bl m1+(e1-e2-low).toNat+1:=by
 have h1:=jc (aqG s (ovA m1 (e1-e2-low)) (ovA m2 (-(e1-e2-low))) mode)
 have h2:=Jp (ovA m1 (e1-e2-low)/ovA m2 (-(e1-e2-low)))
 have h3:=Qf (ovA m1 (e1-e2-low)) (ovA m2 (-(e1-e2-low)))
 have h4:=Zo m1 (e1-e2-low).toNat
 unfold ovQ;unfold ovA at*;omega
theorem ExV.over_bd{l1 h1 l2 low mode hi:Int}{x y:ExV}(hx:x.bd l1 h1)(hy:l2≤y.e)(h:h1-l2+1≤hi)(hb:h1-l1+1+low≤hi):(x.over y low mode).bd low hi:=by
 obtain⟨a1,a2,a3⟩:=hx
 refine⟨fun h=>?_,Int.le_refl _,?_⟩
 ·have h:ovQ (x.s != y.s) x.m x.e y.m y.e low mode=0:=h
  show((x.s != y.s)&&decide (ovQ (x.s != y.s) x.m x.e y.m y.e low mode≠0))=false
  rw[decide_eq_false (by rw[h];simp),Bool.and_false]
 ·have:=@avz (x.s != y.s) x.m x.e y.m y.e low mode
  show(bl (ovQ (x.s != y.s) x.m x.e y.m y.e low mode):Int)+low≤hi
  omega
theorem ExV.rnd_bd{lo hi low mode:Int}{x:ExV}(hx:x.bd lo hi)(hl:lo≤low)(hh:low≤hi):(x.rnd low mode).bd lo (hi+1):=by
 obtain⟨a1,a2,a3⟩:=hx
 by_cases c:low≤x.e∨x.m=0
 ·refine⟨fun h=>?_,?_,?_⟩
  ·show roS _ _ _ _ _=false
   have h:roM _ _ _ _ _=0:=h
   unfold roM at h;unfold roS;rw[if_pos c]at h ⊢;exact a1 h
  ·show lo≤roE _ _ _
   unfold roE;rw[if_pos c];exact a2
  ·show(bl (roM _ _ _ _ _):Int)+roE _ _ _≤_
   unfold roM roE;rw[if_pos c,if_pos c];omega
 ·refine⟨fun h=>?_,?_,?_⟩
  ·show roS _ _ _ _ _=false
   have h:roM _ _ _ _ _=0:=h
   unfold roM at h;unfold roS;rw[if_neg c]at h ⊢;rw[h];simp
  ·show lo≤roE _ _ _
   unfold roE;rw[if_neg c];exact hl
  ·show(bl (roM _ _ _ _ _):Int)+roE _ _ _≤_
   unfold roM roE;rw[if_neg c,if_neg c]
   have h1:=jc (aqG x.s x.m (2^(low-x.e).toNat) mode)
   have h2:=Jp (x.m/2^(low-x.e).toNat)
   have h3:=apr x.m (low-x.e).toNat
   omega
theorem yP(x y:ExV)(hx:x.bd (-400000) 400000)(hy:y.bd (-400000) 400000):Con Tryz.prog 153 false [.ag [.v (.bool (x.s)),.sl (lim (x.m)).length (qg (lim (x.m))),.v (.int .i64 (x.e))],.ag [.v (.bool (y.s)),.sl (lim (y.m)).length (qg (lim (y.m))),.v (.int .i64 (y.e))]] [] (isA (.ag [.v (.bool ((x.plus y).s)),.sl (lim ((x.plus y).m)).length (qg (lim ((x.plus y).m))),.v (.int .i64 ((x.plus y).e))])):=by
 obtain⟨a1,a2,a3⟩:=hx
 obtain⟨b1,b2,b3⟩:=hy
 exact ai2 x.s x.m x.e y.s y.m y.e (by omega) (by omega) (by omega) (by omega)
theorem XI(x y:ExV)(hx:x.bd (-400000) 400000)(hy:y.bd (-400000) 400000):Con Tryz.prog 200 false [.ag [.v (.bool (x.s)),.sl (lim (x.m)).length (qg (lim (x.m))),.v (.int .i64 (x.e))],.ag [.v (.bool (y.s)),.sl (lim (y.m)).length (qg (lim (y.m))),.v (.int .i64 (y.e))]] [] (isA (.ag [.v (.bool ((x.times y).s)),.sl (lim ((x.times y).m)).length (qg (lim ((x.times y).m))),.v (.int .i64 ((x.times y).e))])):=by
 obtain⟨a1,a2,a3⟩:=hx
 obtain⟨b1,b2,b3⟩:=hy
 exact ae1 x.s x.m x.e y.s y.m y.e (by omega) (by omega) (by omega) (by omega)
theorem ai3(x y:ExV)(low mode:Int)(h0:y.m≠0)(hx:x.bd (-400000) 400000)(hy:y.bd (-400000) 400000)(hl: -400000≤low∧low≤400000):Con Tryz.prog 193 false [.ag [.v (.bool (x.s)),.sl (lim (x.m)).length (qg (lim (x.m))),.v (.int .i64 (x.e))],.ag [.v (.bool (y.s)),.sl (lim (y.m)).length (qg (lim (y.m))),.v (.int .i64 (y.e))],.v (.int .i64 low),.v (.int .i64 mode)] [] (isA (.tu [.ag [.v (.bool ((x.over y low mode).s)),.sl (lim ((x.over y low mode).m)).length (qg (lim ((x.over y low mode).m))),.v (.int .i64 ((x.over y low mode).e))],.v (.bool (ovX x.m x.e y.m y.e low))])):=by
 obtain⟨a1,a2,a3⟩:=hx
 obtain⟨b1,b2,b3⟩:=hy
 exact adK x.s x.m x.e y.s y.m y.e low mode h0 (by omega) (by omega) (by omega) (by omega) (by omega) (by omega)
theorem VY(x:ExV)(low mode:Int)(hx:x.bd (-400000) 400000)(hl: -400000≤low∧low≤400000):Con Tryz.prog 116 false [.ag [.v (.bool (x.s)),.sl (lim (x.m)).length (qg (lim (x.m))),.v (.int .i64 (x.e))],.v (.int .i64 low),.v (.int .i64 mode)] [] (isA (.tu [.ag [.v (.bool ((x.rnd low mode).s)),.sl (lim ((x.rnd low mode).m)).length (qg (lim ((x.rnd low mode).m))),.v (.int .i64 ((x.rnd low mode).e))],.v (.bool (roX x.m x.e low))])):=by
 obtain⟨a1,a2,a3⟩:=hx
 exact ab9 x.s x.m x.e low mode (by omega) (by omega) (by omega)
theorem JZ(x y:ExV)(hx:x.bd (-400000) 400000)(hy:y.bd (-400000) 400000):Con Tryz.prog 110 true [.ag [.v (.bool (x.s)),.sl (lim (x.m)).length (qg (lim (x.m))),.v (.int .i64 (x.e))],.ag [.v (.bool (y.s)),.sl (lim (y.m)).length (qg (lim (y.m))),.v (.int .i64 (y.e))]] [] (isA (.v (.int .i64 (x.cmp y)))):=by
 obtain⟨a1,a2,a3⟩:=hx
 obtain⟨b1,b2,b3⟩:=hy
 unfold ExV.cmp
 rw[adT (K:=400000) (by omega) (by omega)]
 exact aaW 400000 x.s x.m x.e y.s y.m y.e (by omega) (by omega) (by omega) (by omega) (by omega) (by omega) a1 b1
theorem anO(x:ExV):Con Tryz.prog 155 false [.ag [.v (.bool (x.s)),.sl (lim (x.m)).length (qg (lim (x.m))),.v (.int .i64 (x.e))]] [] (isA (.ag [.v (.bool (x.neg.s)),.sl (lim (x.neg.m)).length (qg (lim (x.neg.m))),.v (.int .i64 (x.neg.e))])):=by
 refine Con.frzA ?_
 have hq:decide ((0:Int)<((lim x.m).length:Int))=decide (x.m≠0):=by
  rw[decide_eq_decide]
  exact⟨fun h e=>by rw[e,qr]at h;simp at h,fun h=>by have:=yG h;omega⟩
 unfold ExV.neg
 cases hs:x.s
 ·refine Con.of_w (rs:=[.cell 2 97]) Tryz.func155 rfl Tryz.ntmps155 rfl ?_
  simp(disch:=omega)only[go_sem]
  simp(disch:=omega)only[go_sem,hq]
  exact qn (hp:=by simp(disch:=omega)only[go_sem,Bool.not_false,Bool.true_and])
 ·refine Con.of_w (rs:=[.cell 2 97]) Tryz.func155 rfl Tryz.ntmps155 rfl ?_
  simp(disch:=omega)only[go_sem]
  exact qn (hp:=by simp(disch:=omega)only[go_sem,Bool.not_true,Bool.false_and])
theorem V9(x:ExV):Con Tryz.prog 75 false [.ag [.v (.bool (x.s)),.sl (lim (x.m)).length (qg (lim (x.m))),.v (.int .i64 (x.e))]] [] (isA (.ag [.v (.bool (x.abs.s)),.sl (lim (x.abs.m)).length (qg (lim (x.abs.m))),.v (.int .i64 (x.abs.e))])):=by
 refine Con.frzA ?_
 refine Con.of_w (rs:=[.cell 2 97]) Tryz.func75 rfl Tryz.ntmps75 rfl ?_
 simp(disch:=omega)only[go_sem]
 exact qn (hp:=by simp(disch:=omega)only[go_sem,ExV.abs])
theorem yO(x:ExV)(k:Int)(hx: -2^40≤x.e∧x.e≤2^40)(hk: -2^40≤k∧k≤2^40):Con Tryz.prog 142 false [.ag [.v (.bool (x.s)),.sl (lim (x.m)).length (qg (lim (x.m))),.v (.int .i64 (x.e))],.v (.int .i64 k)] [] (isA (.ag [.v (.bool ((x.shift k).s)),.sl (lim ((x.shift k).m)).length (qg (lim ((x.shift k).m))),.v (.int .i64 ((x.shift k).e))])):=by
 refine Con.frzA ?_
 refine Con.of_w (rs:=[.cell 4 97]) Tryz.func142 rfl Tryz.ntmps142 rfl ?_
 simp(disch:=omega)only[go_sem]
 exact qn (hp:=by simp(disch:=omega)only[go_sem,ExV.shift])
theorem anK(x:ExV)(hx:x.bd (-400000) 400000):Con Tryz.prog 140 true [.ag [.v (.bool (x.s)),.sl (lim (x.m)).length (qg (lim (x.m))),.v (.int .i64 (x.e))]] [] (isA (.v (.int .i64 x.top))):=by
 obtain⟨a1,a2,a3⟩:=hx
 exact anJ x.s x.m x.e (by have:=qv (m:=x.m) (B:=800000) (by omega);omega) (by omega)
theorem Jj(x y:ExV)(hx:x.bd (-400000) 400000)(hy:y.bd (-400000) 400000):Con Tryz.prog 74 false [.ag [.v (.bool (x.s)),.sl (lim (x.m)).length (qg (lim (x.m))),.v (.int .i64 (x.e))],.ag [.v (.bool (y.s)),.sl (lim (y.m)).length (qg (lim (y.m))),.v (.int .i64 (y.e))]] [] (isA (.ag [.v (.bool ((x.plus y.neg).s)),.sl (lim ((x.plus y.neg).m)).length (qg (lim ((x.plus y.neg).m))),.v (.int .i64 ((x.plus y.neg).e))])):=by
 refine Con.frzA ?_
 refine Con.of_w (rs:=[.cell 4 97]) Tryz.func74 rfl Tryz.ntmps74 rfl ?_
 simp(disch:=omega)only[go_sem]
 refine qq rfl [⟨0,[],[]⟩,⟨1,[0],[]⟩,⟨2,[0],[]⟩,⟨3,[],[]⟩,⟨4,[],[]⟩] (by kernel_rfl) ?_
 simp(disch:=omega)only[go_sem]
 refine qa (anO y) ?_
 simp(disch:=omega)only[go_sem]
 refine qa (yP x y.neg hx (ExV.neg_bd hy)) ?_
 simp(disch:=omega)only[go_sem]
 exact qn
end Go.Ab
namespace Go.Ab
open Go Go.Proofs
def gl(n:Nat)(g:Nat→Nat→ExV)(k:Nat):List ExV:=(List.range k).map fun t=>g (t/n) (t % n)
theorem jw{n:Nat}{g:Nat→Nat→ExV}{k:Nat}:(gl n g k).length=k:=by simp[gl]
theorem ase{n:Nat}{g:Nat→Nat→ExV}{k:Nat}:gl n g (k+1)=gl n g k++[g (k/n) (k % n)]:=by simp[gl,List.range_succ]
theorem awl{n:Nat}{g:Nat→Nat→ExV}{k t:Nat}(h:t<k):(gl n g k).getD t ex0=g (t/n) (t % n):=by
 rw[List.getD_eq_getElem?_getD];simp[gl,h]
theorem awk{n:Nat}{g:Nat→Nat→ExV}:qj ExV.cs (gl n g 0)=[]:=by simp[gl,qj]
theorem zp{l:List ExV}{k:Nat}(h:l.length=k):cut (qj ExV.cs l) 0 (k*3)=qj ExV.cs l:=by subst h;exact asQ
theorem zM{l:List ExV}{i:Nat}(hi:i<l.length):cut (qj ExV.cs l) (i*3) 3=[.v (.bool (l.getD i ex0).s),.sl (lim (l.getD i ex0).m).length (qg (lim (l.getD i ex0).m)),.v (.int .i64 (l.getD i ex0).e)]:=Qv (l:=l) aaq hi ex0
theorem ajB(n:Nat)(l:List ExV)(i j:Nat)(hl:i*n+j<l.length)(hb:l.length≤1000)(hn:n≤1000)(hi:i≤1000)(hj:j≤1000):
  Con Tryz.prog 115 false [.ag [.v (.int .i64 n),.sl l.length (qj ExV.cs l)],.v (.int .i64 i),.v (.int .i64 j)] [] (isA (.ag [.v (.bool ((l.getD (i*n+j) ex0).s)),.sl (lim ((l.getD (i*n+j) ex0).m)).length (qg (lim ((l.getD (i*n+j) ex0).m))),.v (.int .i64 ((l.getD (i*n+j) ex0).e))])):=by
 refine Con.frzA ?_
 have hin:i*n≤1000:=by omega
 have hp:(i:Int)*(n:Int)≤1000∧0≤(i:Int)*(n:Int):=by rw[←Int.natCast_mul];omega
 have e1:(i:Int)*(n:Int)+(j:Int)=((i*n+j:Nat):Int):=by rw[Int.natCast_add,Int.natCast_mul]
 have hcut:=zM hl
 generalize i*n+j=k at*
 refine Con.of_w (rs:=[.cell 6 97]) Tryz.func115 rfl Tryz.ntmps115 rfl ?_
 simp(disch:=omega)only[go_sem]
 simp(disch:=omega)only[go_sem,e1,hcut]
 refine⟨by omega,by omega,?_⟩
 exact qn
set_option maxRecDepth 100000 in
theorem afk(n:Nat)(f:Nat)(caps:List AV)(g:Nat→Nat→ExV)(hn0:n≤4)(hf:∀i j:Nat,i<n→j<n→Con Tryz.prog f false (.v (.int .i64 i):: .v (.int .i64 j)::caps) [] (isA (.ag [.v (.bool ((g i j).s)),.sl (lim ((g i j).m)).length (qg (lim ((g i j).m))),.v (.int .i64 ((g i j).e))])))(hg:qz Tryz.prog f=True)
  (hc:∀h:Nat→Ob,caps.map (qD h 6)=caps) (hc5:∀h:Nat→Ob,caps.map (qD h 5)=caps) (hn:∀ks,AllL (jK ks) caps) (hr:∀ρ,zq ρ caps=caps):
  Con Tryz.prog 113 false [.v (.int .i64 n),.fn f caps] [] (isA (.ag [.v (.int .i64 n),.sl (n*n) (qj ExV.cs (gl n g (n*n)))])):=by
 refine Con.frzA ?_
 refine Con.of_aw Tryz.func113 rfl Tryz.ntmps113 (by simp) (by simp) (by simp) (W.sound ?_)
 show @W Tryz.prog 30 ⟨_⟩ ⟨fun x σ=>@qY _ _ _ ⟨_⟩ _ ⟨_⟩ x σ⟩ _ _
 simp(disch:=omega)only[go_sem,hg]
 refine qi (fun i:Nat=>[(0,.v (.int .i64 n)),(1,.fn f caps),(4,.pt 2 0),(5,.pt 0 0),(10,.v (.int .i64 n)),(11,.v (.int .i64 i))])
  (fun i=>[(0,.own 0 [.v (.int .i64 n),.rf 1 0 (i*n)]),(1,.own 3 (qj ExV.cs (gl n g (i*n)))),(2,.own 0 [.v (.int .i64 0),.v (.slice none 0 0)])]) (fun i=>i≤n) (fun i=>n-i) 0 (by omega)
  ((Le.ghostC 70000000 1 1 3 (zo:=0) (cs:=[.v (.int .i64 n),.v (.slice none 0 0)]) (by simp(disch:=omega)only[go_sem]) rfl (by simp(disch:=omega)only[go_sem])).trans (Le.lst [(0,70000000),(2,60000000)] _ _ rfl (by simp(disch:=omega)only[go_sem,hr,hn]) (by simp(disch:=omega)only[go_sem,awk,Nat.zero_mul,List.set_cons_succ,List.set_cons_zero]))) ?_
 intro i hi
 simp(disch:=omega)only[go_sem]
 refine qh (fun h1=>?_) (fun h1=>?_)
 ·simp(disch:=omega)only[go_sem,h1]
  refine qi (fun j:Nat=>[(0,.v (.int .i64 n)),(1,.fn f caps),(4,.pt 2 0),(5,.pt 0 0),(6,.v (.int .i64 i)),(10,.v (.int .i64 n)),(11,.v (.int .i64 i)),(14,.v (.int .i64 n)),(15,.v (.int .i64 j))])
   (fun j=>[(0,.own 0 [.v (.int .i64 n),.rf 1 0 (i*n+j)]),(1,.own 3 (qj ExV.cs (gl n g (i*n+j)))),(2,.own 0 [.v (.int .i64 0),.v (.slice none 0 0)])]) (fun j=>j≤n) (fun j=>n-j) 0 (by omega)
   (Le.lst [] _ _ rfl (by simp(disch:=omega)only[go_sem,hr,hn,Nat.add_zero]) (by simp(disch:=omega)only[go_sem,Nat.add_zero])) ?_
  intro j hj
  simp(disch:=omega)only[go_sem]
  refine qh (fun h2=>?_) (fun h2=>?_)
  ·simp(disch:=omega)only[go_sem,h2]
   have hd:(i*n+j)/n=i:=by rw[Nat.mul_comm,Nat.mul_add_div (by omega),Nat.div_eq_of_lt (by omega),Nat.add_zero]
   have hm:(i*n+j) % n=j:=by rw[Nat.mul_comm,Nat.mul_add_mod,Nat.mod_eq_of_lt (by omega)]
   have hs:=@ase n g (i*n+j)
   rw[hd,hm]at hs
   have hcut:=zp (@jw n g (i*n+j))
   have hin:i*n≤16:=Nat.mul_le_mul (show i≤4 by omega) hn0
   have hk:i*n+(j+1)=i*n+j+1:=rfl
   refine qq rfl [⟨0,[],[]⟩,⟨1,[],[]⟩,⟨2,[1],[]⟩,⟨3,[1],[]⟩,⟨4,[1],[]⟩,⟨5,[1],[]⟩,⟨6,[1],[]⟩,⟨7,[],[]⟩,⟨8,[],[]⟩,⟨9,[],[]⟩] (by kernel_rfl) ?_
   simp(disch:=omega)only[go_sem,hg]
   refine qw (hf i j (by omega) (by omega)) (by simp(disch:=omega)only[go_sem,hc,hc5]) ?_
   rintro r hs2 ⟨rfl,rfl,_⟩
   refine⟨by simp[qB],?_⟩
   simp(disch:=omega)only[go_sem,hcut,QY]
   refine⟨⟨by rw[jw];exact Nat.le_refl _,by omega⟩,qe (j+1) [(1,270000000)] (by show j+1≤_;omega) (by show n-(j+1)<n-j;omega) rfl (by simp(disch:=omega)only[go_sem,hr,hn];try omega) (by simp(disch:=omega)only[go_sem,hk,hs])⟩
  ·simp(disch:=omega)only[go_sem,h2]
   obtain rfl:n=j:=by omega
   exact qe (i+1) [] (by show i+1≤_;omega) (by show n-(i+1)<n-i;omega) rfl (by simp(disch:=omega)only[go_sem,hr,hn,Nat.add_mul,Nat.one_mul];try omega) (by simp(disch:=omega)only[go_sem,Nat.add_mul,Nat.one_mul])
 ·simp(disch:=omega)only[go_sem,h1]
  obtain rfl:n=i:=by omega
  refine ql [(0,1)] [.own 3 (qj ExV.cs (gl n g (n*n)))] [] [.ag [.v (.int .i64 n),.rf 0 0 (n*n)]] rfl (by simp(disch:=omega)only[go_sem]) (by simp(disch:=omega)only[go_sem]) (by simp) (by simp) ?_
  show qD _ 6 _=_
  simp(disch:=omega)only[go_sem,qJ,zp jw]
end Go.Ab
namespace Go.Ab
open Go Go.Proofs
def qT(m x:ExV):ExV:=if 0<x.cmp m then x else m
def qP(m x:ExV):ExV:=if x.cmp m<0 then x else m
def za(l:List ExV):ExV:=(l.drop 1).foldl qT (l.getD 0 ex0)
def zj(l:List ExV):ExV:=(l.drop 1).foldl qP (l.getD 0 ex0)
def gbd(lo hi:Int)(l:List ExV):Prop:=∀x∈l,x.bd lo hi
theorem zE{lo hi:Int}{l:List ExV}{i:Nat}(h:gbd lo hi l)(hi':i<l.length):(l.getD i ex0).bd lo hi:=by
 refine h _ ?_
 rw[List.getD_eq_getElem?_getD,List.getElem?_eq_getElem hi'];exact List.getElem_mem _
theorem yA{l:List ExV}{i:Nat}(h1:1≤i)(h:i<l.length):(l.take (i+1)).drop 1=(l.take i).drop 1++[l.getD i ex0]:=by
 rw[List.take_add_one,List.getElem?_eq_getElem h,List.drop_append_of_le_length (by rw[List.length_take];omega),List.getD_eq_getElem?_getD,List.getElem?_eq_getElem h]
 rfl
theorem Z8{lo hi:Int}{F:ExV→ExV→ExV}(hF:∀m x,F m x=m∨F m x=x):∀(l:List ExV) (m:ExV),m.bd lo hi→gbd lo hi l→(l.foldl F m).bd lo hi
 | [],m,h,_=>h
 |x::r,m,h,hl=>by
  refine Z8 hF r (F m x) ?_ (fun y hy=>hl y (List.mem_cons_of_mem _ hy))
  rcases hF m x with e|e<;>rw[e]
  ·exact h
  ·exact hl x (List.mem_cons_self ..)
theorem QT(m x:ExV):qT m x=m∨qT m x=x:=by unfold qT;split<;>simp
theorem ZE(m x:ExV):qP m x=m∨qP m x=x:=by unfold qP;split<;>simp
theorem QS{lo hi:Int}{l:List ExV}(h:gbd lo hi l)(h0:0<l.length):(za l).bd lo hi:=Z8 QT _ _ (zE h h0) (fun x hx=>h x (List.mem_of_mem_drop hx))
theorem ZD{lo hi:Int}{l:List ExV}(h:gbd lo hi l)(h0:0<l.length):(zj l).bd lo hi:=Z8 ZE _ _ (zE h h0) (fun x hx=>h x (List.mem_of_mem_drop hx))
theorem ace(l:List ExV)(h0:0<l.length)(hl:l.length≤1000)(hb:gbd (-400000) 400000 l):Con Tryz.prog 154 false [.sl l.length (qj ExV.cs l),.fn 110 []] [] (isA (.ag [.v (.bool (za l).s),.sl (lim (za l).m).length (qg (lim (za l).m)),.v (.int .i64 (za l).e)])):=by
 refine Con.frzA ?_
 have hc0:=zM (l:=l) (i:=0) h0
 have q1:decide ((l.length:Int)<1)=false:=decide_eq_false (by omega)
 refine Con.of_w (rs:=[.cell 4 97]) Tryz.func154 rfl Tryz.ntmps154 rfl ?_
 simp(disch:=omega)only[go_sem,q1,hc0]
 refine⟨by omega,by omega,?_⟩
 refine qi (fun x:Nat×ExV=>[(0,.sl l.length (qj ExV.cs l)),(1,.fn 110 []),(4,.pt 1 0),(5,.pt 0 0),(6,.v (.int .i64 x.1))])
  (fun x=>[(0,.own 0 [.v (.bool x.2.s),.sl (lim x.2.m).length (qg (lim x.2.m)),.v (.int .i64 x.2.e)]),(1,.own 0 [.v (.bool false),.v (.slice none 0 0),.v (.int .i64 0)])])
  (fun x=>1≤x.1∧x.1≤l.length∧x.2=((l.take x.1).drop 1).foldl qT (l.getD 0 ex0)) (fun x=>l.length-x.1) (1,l.getD 0 ex0) ⟨by omega,by omega,by simp⟩
  (Le.lst [(0,70000000),(1,60000000)] _ _ rfl (by simp(disch:=omega)only[go_sem]) (by simp(disch:=omega)only[go_sem])) ?_
 rintro⟨i,m⟩ ⟨h1,hi,hm⟩
 dsimp only at h1 hi hm ⊢
 have hmb:m.bd (-400000) 400000:=by
  rw[hm];exact Z8 QT _ _ (zE hb h0) (fun x hx=>hb x (List.mem_of_mem_take (List.mem_of_mem_drop hx)))
 simp(disch:=omega)only[go_sem]
 refine qh (fun h2=>?_) (fun h2=>?_)
 ·have hi2:i<l.length:=by omega
  have hci:=zM (l:=l) (i:=i) hi2
  have hs:qT m (l.getD i ex0)=((l.take (i+1)).drop 1).foldl qT (l.getD 0 ex0):=by
   rw[yA h1 hi2,List.foldl_append,←hm];rfl
  simp(disch:=omega)only[go_sem,h2]
  refine qq rfl [⟨0,[],[]⟩,⟨1,[],[]⟩,⟨2,[],[]⟩,⟨3,[],[]⟩,⟨4,[],[]⟩,⟨5,[4],[]⟩,⟨6,[],[]⟩,⟨7,[],[]⟩] (by kernel_rfl) ?_
  have hg:qz Tryz.prog 110=True:=by simp(disch:=omega)only[go_sem]
  simp(disch:=omega)only[go_sem,hci,hg]
  refine⟨by omega,by omega,?_⟩
  refine qm (JZ (l.getD i ex0) m (zE hb hi2) hmb) ?_
  simp(disch:=omega)only[go_sem]
  generalize l.getD i ex0=y at*
  refine qh (fun h3=>?_) (fun h3=>?_)
  ·simp(disch:=omega)only[go_sem,h3,hci]
   have:qT m y=y:=if_pos h3
   refine⟨by omega,by omega,qe (i+1,y) [] ⟨by show 1≤i+1;omega,by show i+1≤_;omega,this▸hs⟩ (by show l.length-(i+1)<l.length-i;omega) rfl (by simp(disch:=omega)only[go_sem];try omega) (by simp(disch:=omega)only[go_sem])⟩
  ·simp(disch:=omega)only[go_sem,h3]
   have:qT m y=m:=if_neg h3
   refine qe (i+1,m) [] ⟨by show 1≤i+1;omega,by show i+1≤_;omega,this▸hs⟩ (by show l.length-(i+1)<l.length-i;omega) rfl (by simp(disch:=omega)only[go_sem];try omega) (by simp(disch:=omega)only[go_sem])
 ·simp(disch:=omega)only[go_sem,h2]
  have:i=l.length:=by omega
  subst this
  rw[List.take_length]at hm
  subst hm
  exact qn (hp:=by simp(disch:=omega)only[go_sem,za])
theorem adL(l:List ExV)(h0:0<l.length)(hl:l.length≤1000)(hb:gbd (-400000) 400000 l):Con Tryz.prog 73 false [.sl l.length (qj ExV.cs l)] [] (isA (.ag [.v (.bool (za l).s),.sl (lim (za l).m).length (qg (lim (za l).m)),.v (.int .i64 (za l).e)])):=by
 refine Con.frzA ?_
 refine Con.of_w (rs:=[.cell 2 97]) Tryz.func73 rfl Tryz.ntmps73 rfl ?_
 simp(disch:=omega)only[go_sem]
 refine qa (ace l h0 hl hb) ?_
 simp(disch:=omega)only[go_sem]
 exact qn
theorem acd(l:List ExV)(h0:0<l.length)(hl:l.length≤1000)(hb:gbd (-400000) 400000 l):Con Tryz.prog 308 false [.sl l.length (qj ExV.cs l),.fn 110 []] [] (isA (.ag [.v (.bool (zj l).s),.sl (lim (zj l).m).length (qg (lim (zj l).m)),.v (.int .i64 (zj l).e)])):=by
 refine Con.frzA ?_
 have hc0:=zM (l:=l) (i:=0) h0
 have q1:decide ((l.length:Int)<1)=false:=decide_eq_false (by omega)
 refine Con.of_w (rs:=[.cell 4 97]) Tryz.func308 rfl Tryz.ntmps308 rfl ?_
 simp(disch:=omega)only[go_sem,q1,hc0]
 refine⟨by omega,by omega,?_⟩
 refine qi (fun x:Nat×ExV=>[(0,.sl l.length (qj ExV.cs l)),(1,.fn 110 []),(4,.pt 1 0),(5,.pt 0 0),(6,.v (.int .i64 x.1))])
  (fun x=>[(0,.own 0 [.v (.bool x.2.s),.sl (lim x.2.m).length (qg (lim x.2.m)),.v (.int .i64 x.2.e)]),(1,.own 0 [.v (.bool false),.v (.slice none 0 0),.v (.int .i64 0)])])
  (fun x=>1≤x.1∧x.1≤l.length∧x.2=((l.take x.1).drop 1).foldl qP (l.getD 0 ex0)) (fun x=>l.length-x.1) (1,l.getD 0 ex0) ⟨by omega,by omega,by simp⟩
  (Le.lst [(0,70000000),(1,60000000)] _ _ rfl (by simp(disch:=omega)only[go_sem]) (by simp(disch:=omega)only[go_sem])) ?_
 rintro⟨i,m⟩ ⟨h1,hi,hm⟩
 dsimp only at h1 hi hm ⊢
 have hmb:m.bd (-400000) 400000:=by
  rw[hm];exact Z8 ZE _ _ (zE hb h0) (fun x hx=>hb x (List.mem_of_mem_take (List.mem_of_mem_drop hx)))
 simp(disch:=omega)only[go_sem]
 refine qh (fun h2=>?_) (fun h2=>?_)
 ·have hi2:i<l.length:=by omega
  have hci:=zM (l:=l) (i:=i) hi2
  have hs:qP m (l.getD i ex0)=((l.take (i+1)).drop 1).foldl qP (l.getD 0 ex0):=by
   rw[yA h1 hi2,List.foldl_append,←hm];rfl
  simp(disch:=omega)only[go_sem,h2]
  refine qq rfl [⟨0,[],[]⟩,⟨1,[],[]⟩,⟨2,[],[]⟩,⟨3,[],[]⟩,⟨4,[],[]⟩,⟨5,[4],[]⟩,⟨6,[],[]⟩,⟨7,[],[]⟩] (by kernel_rfl) ?_
  have hg:qz Tryz.prog 110=True:=by simp(disch:=omega)only[go_sem]
  simp(disch:=omega)only[go_sem,hci,hg]
  refine⟨by omega,by omega,?_⟩
  refine qm (JZ (l.getD i ex0) m (zE hb hi2) hmb) ?_
  simp(disch:=omega)only[go_sem]
  generalize l.getD i ex0=y at*
  refine qh (fun h3=>?_) (fun h3=>?_)
  ·simp(disch:=omega)only[go_sem,h3,hci]
   have:qP m y=y:=if_pos h3
   refine⟨by omega,by omega,qe (i+1,y) [] ⟨by show 1≤i+1;omega,by show i+1≤_;omega,this▸hs⟩ (by show l.length-(i+1)<l.length-i;omega) rfl (by simp(disch:=omega)only[go_sem];try omega) (by simp(disch:=omega)only[go_sem])⟩
  ·simp(disch:=omega)only[go_sem,h3]
   have:qP m y=m:=if_neg h3
   refine qe (i+1,m) [] ⟨by show 1≤i+1;omega,by show i+1≤_;omega,this▸hs⟩ (by show l.length-(i+1)<l.length-i;omega) rfl (by simp(disch:=omega)only[go_sem];try omega) (by simp(disch:=omega)only[go_sem])
 ·simp(disch:=omega)only[go_sem,h2]
  have:i=l.length:=by omega
  subst this
  rw[List.take_length]at hm
  subst hm
  exact qn (hp:=by simp(disch:=omega)only[go_sem,zj])
theorem aaH(l:List ExV)(h0:0<l.length)(hl:l.length≤1000)(hb:gbd (-400000) 400000 l):Con Tryz.prog 270 false [.sl l.length (qj ExV.cs l)] [] (isA (.ag [.v (.bool (zj l).s),.sl (lim (zj l).m).length (qg (lim (zj l).m)),.v (.int .i64 (zj l).e)])):=by
 refine Con.frzA ?_
 refine Con.of_w (rs:=[.cell 2 97]) Tryz.func270 rfl Tryz.ntmps270 rfl ?_
 simp(disch:=omega)only[go_sem]
 refine qa (acd l h0 hl hb) ?_
 simp(disch:=omega)only[go_sem]
 exact qn
end Go.Ab
namespace Go.Ab
open Go Go.Proofs
def SpV.plus(s t:SpV):SpV:=⟨s.lo.plus t.lo,s.hi.plus t.hi⟩
def qC(F:ExV→ExV→ExV)(s t:SpV):List ExV:=[F s.lo t.lo,F s.lo t.hi,F s.hi t.lo,F s.hi t.hi]
def SpV.times(s t:SpV):SpV:=⟨zj (qC ExV.times s t),za (qC ExV.times s t)⟩
def SpV.over(s t:SpV)(low:Int):SpV:=⟨zj (qC (fun x y=>x.over y low 3) s t),za (qC (fun x y=>x.over y low 2) s t)⟩
def SpV.out(s:SpV)(low:Int):SpV:=⟨s.lo.rnd low 3,s.hi.rnd low 2⟩
def SpV.fat(s:SpV)(by':ExV):SpV:=⟨s.lo.plus by'.neg,s.hi.plus by'⟩
def SpV.bd(lo hi:Int)(s:SpV):Prop:=s.lo.bd lo hi∧s.hi.bd lo hi
theorem VU{F:ExV→ExV→ExV}{s t:SpV}{l1 h1 l2 h2 lo hi:Int}(hs:s.bd l1 h1)(ht:t.bd l2 h2)(hF:∀x y:ExV,x.bd l1 h1→y.bd l2 h2→(F x y).bd lo hi):gbd lo hi (qC F s t):=by
 intro x hx
 simp only[qC,List.mem_cons,List.not_mem_nil,or_false]at hx
 rcases hx with rfl|rfl|rfl|rfl
 ·exact hF _ _ hs.1 ht.1
 ·exact hF _ _ hs.1 ht.2
 ·exact hF _ _ hs.2 ht.1
 ·exact hF _ _ hs.2 ht.2
theorem XK(s t:SpV)(hs:s.bd (-400000) 400000)(ht:t.bd (-400000) 400000):Con Tryz.prog 216 false [.ag [.v (.bool (s).lo.s),.sl (lim (s).lo.m).length (qg (lim (s).lo.m)),.v (.int .i64 (s).lo.e),.v (.bool (s).hi.s),.sl (lim (s).hi.m).length (qg (lim (s).hi.m)),.v (.int .i64 (s).hi.e)],.ag [.v (.bool (t).lo.s),.sl (lim (t).lo.m).length (qg (lim (t).lo.m)),.v (.int .i64 (t).lo.e),.v (.bool (t).hi.s),.sl (lim (t).hi.m).length (qg (lim (t).hi.m)),.v (.int .i64 (t).hi.e)]] [] (isA (.ag [.v (.bool (s.plus t).lo.s),.sl (lim (s.plus t).lo.m).length (qg (lim (s.plus t).lo.m)),.v (.int .i64 (s.plus t).lo.e),.v (.bool (s.plus t).hi.s),.sl (lim (s.plus t).hi.m).length (qg (lim (s.plus t).hi.m)),.v (.int .i64 (s.plus t).hi.e)])):=by
 refine Con.frzA ?_
 refine Con.of_w (rs:=[.cell 4 114]) Tryz.func216 rfl Tryz.ntmps216 rfl ?_
 simp(disch:=omega)only[go_sem]
 refine qq rfl [⟨0,[],[]⟩,⟨1,[],[]⟩,⟨2,[1],[]⟩,⟨3,[1],[]⟩,⟨5,[1,3],[]⟩,⟨6,[1,3],[]⟩,⟨7,[1,3,6],[]⟩,⟨8,[1,3,6],[]⟩,⟨4,[6,8],[]⟩,⟨9,[],[]⟩,⟨10,[],[]⟩,⟨11,[],[]⟩] (by kernel_rfl) ?_
 simp(disch:=omega)only[go_sem]
 refine qa (yP s.lo t.lo hs.1 ht.1) ?_
 simp(disch:=omega)only[go_sem]
 refine qa (yP s.hi t.hi hs.2 ht.2) ?_
 simp(disch:=omega)only[go_sem]
 exact qn (hp:=by simp(disch:=omega)only[go_sem,SpV.plus])
theorem aiZ(s:SpV)(low:Int)(hs:s.bd (-400000) 400000)(hl: -400000≤low∧low≤400000):Con Tryz.prog 224 false [.ag [.v (.bool (s).lo.s),.sl (lim (s).lo.m).length (qg (lim (s).lo.m)),.v (.int .i64 (s).lo.e),.v (.bool (s).hi.s),.sl (lim (s).hi.m).length (qg (lim (s).hi.m)),.v (.int .i64 (s).hi.e)],.v (.int .i64 low)] [] (isA (.ag [.v (.bool (s.out low).lo.s),.sl (lim (s.out low).lo.m).length (qg (lim (s.out low).lo.m)),.v (.int .i64 (s.out low).lo.e),.v (.bool (s.out low).hi.s),.sl (lim (s.out low).hi.m).length (qg (lim (s.out low).hi.m)),.v (.int .i64 (s.out low).hi.e)])):=by
 refine Con.frzA ?_
 refine Con.of_w (rs:=[.cell 4 114]) Tryz.func224 rfl Tryz.ntmps224 rfl ?_
 simp(disch:=omega)only[go_sem]
 refine qa (VY s.lo low 3 hs.1 hl) ?_
 simp(disch:=omega)only[go_sem]
 refine qa (VY s.hi low 2 hs.2 hl) ?_
 simp(disch:=omega)only[go_sem]
 exact qn (hp:=by simp(disch:=omega)only[go_sem,SpV.out])
set_option maxRecDepth 100000 in
theorem XL(s t:SpV)(f:Nat)(caps:List AV)(F:ExV→ExV→ExV)(hf:∀x y:ExV,(x=s.lo∨x=s.hi)→(y=t.lo∨y=t.hi)→Con Tryz.prog f false (.ag [.v (.bool (x).s),.sl (lim (x).m).length (qg (lim (x).m)),.v (.int .i64 (x).e)]:: .ag [.v (.bool (y).s),.sl (lim (y).m).length (qg (lim (y).m)),.v (.int .i64 (y).e)]::caps) [] (isA (.ag [.v (.bool (F x y).s),.sl (lim (F x y).m).length (qg (lim (F x y).m)),.v (.int .i64 (F x y).e)])))(hg:qz Tryz.prog f=True)
  (hc:∀h:Nat→Ob,caps.map (qD h 6)=caps) (hc5:∀h:Nat→Ob,caps.map (qD h 5)=caps) (hn:∀ks,AllL (jK ks) caps) (hr:∀ρ,zq ρ caps=caps):
  Con Tryz.prog 269 false [.ag [.v (.bool (s).lo.s),.sl (lim (s).lo.m).length (qg (lim (s).lo.m)),.v (.int .i64 (s).lo.e),.v (.bool (s).hi.s),.sl (lim (s).hi.m).length (qg (lim (s).hi.m)),.v (.int .i64 (s).hi.e)],.ag [.v (.bool (t).lo.s),.sl (lim (t).lo.m).length (qg (lim (t).lo.m)),.v (.int .i64 (t).lo.e),.v (.bool (t).hi.s),.sl (lim (t).hi.m).length (qg (lim (t).hi.m)),.v (.int .i64 (t).hi.e)],.fn f caps] [] (isA (.sl 4 (qj ExV.cs (qC F s t)))):=by
 refine Con.frzA ?_
 refine Con.of_aw Tryz.func269 rfl Tryz.ntmps269 (by simp) (by simp) (by simp) (W.sound ?_)
 show @W Tryz.prog 32 ⟨_⟩ ⟨fun x σ=>@qY _ _ _ ⟨_⟩ _ ⟨_⟩ x σ⟩ _ _
 simp(disch:=omega)only[go_sem,hg]
 refine qq rfl [⟨0,[],[]⟩,⟨1,[],[]⟩,⟨2,[],[]⟩,⟨3,[2],[]⟩,⟨4,[2],[]⟩,⟨6,[2,4],[]⟩,⟨7,[2,4],[]⟩,⟨8,[2,4],[]⟩,⟨9,[2,4,8],[]⟩,⟨10,[2,4,8],[]⟩,⟨12,[2,4,8,10],[]⟩,⟨13,[2,4,8,10],[]⟩,⟨14,[2,4,8,10],[]⟩,⟨15,[2,4,8,10,14],[]⟩,⟨16,[2,4,8,10,14],[]⟩,⟨18,[2,4,8,10,14,16],[]⟩,⟨19,[2,4,8,10,14,16],[]⟩,⟨20,[2,4,8,10,14,16],[]⟩,⟨21,[2,4,8,10,14,16,20],[]⟩,⟨22,[2,4,8,10,14,16,20],[]⟩,⟨5,[8,10,14,16,20,22],[]⟩,⟨11,[14,16,20,22],[]⟩,⟨17,[20,22],[]⟩,⟨23,[],[]⟩,⟨24,[],[]⟩,⟨25,[],[]⟩] (by kernel_rfl) ?_
 simp(disch:=omega)only[go_sem,hg]
 refine qw (hf s.lo t.lo (.inl rfl) (.inl rfl)) (by simp(disch:=omega)only[go_sem,hc,hc5]) ?_
 rintro r hs ⟨rfl,rfl,_⟩
 refine⟨by simp[qB],?_⟩
 simp(disch:=omega)only[go_sem,hg]
 refine qw (hf s.lo t.hi (.inl rfl) (.inr rfl)) (by simp(disch:=omega)only[go_sem,hc,hc5]) ?_
 rintro r hs ⟨rfl,rfl,_⟩
 refine⟨by simp[qB],?_⟩
 simp(disch:=omega)only[go_sem,hg]
 refine qw (hf s.hi t.lo (.inr rfl) (.inl rfl)) (by simp(disch:=omega)only[go_sem,hc,hc5]) ?_
 rintro r hs ⟨rfl,rfl,_⟩
 refine⟨by simp[qB],?_⟩
 simp(disch:=omega)only[go_sem,hg]
 refine qw (hf s.hi t.hi (.inr rfl) (.inr rfl)) (by simp(disch:=omega)only[go_sem,hc,hc5]) ?_
 rintro r hs ⟨rfl,rfl,_⟩
 refine⟨by simp[qB],?_⟩
 simp(disch:=omega)only[go_sem]
 have hrow:qj ExV.cs (qC F s t)=[.v (.bool (F s.lo t.lo).s),.sl (lim (F s.lo t.lo).m).length (qg (lim (F s.lo t.lo).m)),.v (.int .i64 (F s.lo t.lo).e),.v (.bool (F s.lo t.hi).s),.sl (lim (F s.lo t.hi).m).length (qg (lim (F s.lo t.hi).m)),.v (.int .i64 (F s.lo t.hi).e),
   .v (.bool (F s.hi t.lo).s),.sl (lim (F s.hi t.lo).m).length (qg (lim (F s.hi t.lo).m)),.v (.int .i64 (F s.hi t.lo).e),.v (.bool (F s.hi t.hi).s),.sl (lim (F s.hi t.hi).m).length (qg (lim (F s.hi t.hi).m)),.v (.int .i64 (F s.hi t.hi).e)]:=rfl
 rw[←hrow]
 refine ql [(0,330000000)] [.own 3 (qj ExV.cs (qC F s t))] [] [.rf 0 0 4] rfl (by simp(disch:=omega)only[go_sem]) (by simp(disch:=omega)only[go_sem]) (by simp) (by simp) ?_
 show qD _ 6 _=_
 simp(disch:=omega)only[go_sem,qJ,zp (l:=qC F s t) (k:=4) rfl]
theorem ab8(s t:SpV)(hs:s.bd (-200000) 200000)(ht:t.bd (-200000) 200000):Con Tryz.prog 218 false [.ag [.v (.bool (s).lo.s),.sl (lim (s).lo.m).length (qg (lim (s).lo.m)),.v (.int .i64 (s).lo.e),.v (.bool (s).hi.s),.sl (lim (s).hi.m).length (qg (lim (s).hi.m)),.v (.int .i64 (s).hi.e)],.ag [.v (.bool (t).lo.s),.sl (lim (t).lo.m).length (qg (lim (t).lo.m)),.v (.int .i64 (t).lo.e),.v (.bool (t).hi.s),.sl (lim (t).hi.m).length (qg (lim (t).hi.m)),.v (.int .i64 (t).hi.e)]] [] (isA (.ag [.v (.bool (s.times t).lo.s),.sl (lim (s.times t).lo.m).length (qg (lim (s.times t).lo.m)),.v (.int .i64 (s.times t).lo.e),.v (.bool (s.times t).hi.s),.sl (lim (s.times t).hi.m).length (qg (lim (s.times t).hi.m)),.v (.int .i64 (s.times t).hi.e)])):=by
 refine Con.frzA ?_
 have hm:∀x:ExV,x.bd (-200000) 200000→x.bd (-400000) 400000:=fun x h=>h.mono (by omega) (by omega)
 have he:=VU (F:=ExV.times) (lo:= -400000) (hi:=400000) hs ht (fun x y hx hy=>(ExV.times_bd hx hy).mono (by omega) (by omega))
 have ce:=XL s t 200 [] ExV.times (fun x y hx hy=>by
  refine XI x y (hm x ?_) (hm y ?_)
  ·rcases hx with rfl|rfl
   ·exact hs.1
   ·exact hs.2
  ·rcases hy with rfl|rfl
   ·exact ht.1
   ·exact ht.2) (by simp(disch:=omega)only[go_sem]) (fun h=>rfl) (fun h=>rfl) (fun ks=>by simp(disch:=omega)only[go_sem]) (fun ρ=>rfl)
 unfold SpV.times
 generalize hE:qC ExV.times s t=E at*
 have hE4:E.length=4:=by rw[←hE];rfl
 have cl:=aaH E (by omega) (by omega) he
 have cm:=adL E (by omega) (by omega) he
 rw[hE4]at cl cm
 refine Con.of_w (rs:=[.cell 4 114]) Tryz.func218 rfl Tryz.ntmps218 rfl ?_
 simp(disch:=omega)only[go_sem]
 refine qa (ce) ?_
 simp(disch:=omega)only[go_sem]
 refine qa (cl) ?_
 simp(disch:=omega)only[go_sem]
 refine qa (cm) ?_
 simp(disch:=omega)only[go_sem]
 exact qn
end Go.Ab
namespace Go.Ab
open Go Go.Proofs
theorem q8{n i j:Nat}(hi:i<n)(hj:j<n):i*n+j<n*n:=by
 have:(i+1)*n≤n*n:=Nat.mul_le_mul_right n hi
 rw[Nat.add_mul,Nat.one_mul]at this;omega
theorem jr{n:Nat}(h:n≤4):n*n≤16:=Nat.mul_le_mul h h
theorem YC{lo hi:Int}(h1:lo≤0)(h2:0≤hi):ex0.bd lo hi:=⟨fun _=>rfl,h1,by show((bl 0:Nat):Int)+0≤hi;rw[QL];omega⟩
theorem awm{n:Nat}{g:Nat→Nat→ExV}{lo hi:Int}(h:∀i j,i<n→j<n→(g i j).bd lo hi):gbd lo hi (gl n g (n*n)):=by
 intro x hx
 simp only[gl,List.mem_map,List.mem_range]at hx
 obtain⟨t,ht,rfl⟩:=hx
 have hn:0<n:=by
  rcases Nat.eq_zero_or_pos n with e|e
  ·subst e;simp at ht
  ·exact e
 exact h _ _ (Nat.div_lt_of_lt_mul ht) (Nat.mod_lt _ hn)
theorem Zn(n:Nat)(f:Nat)(caps:List AV)(g:Nat→Nat→ExV)(hn0:n≤4)(hf:∀i j:Nat,i<n→j<n→Con Tryz.prog f false (.v (.int .i64 i):: .v (.int .i64 j)::caps) [] (isA (.ag [.v (.bool (g i j).s),.sl (lim (g i j).m).length (qg (lim (g i j).m)),.v (.int .i64 (g i j).e)])))(hg:qz Tryz.prog f=True)
  (hc:∀h:Nat→Ob,caps.map (qD h 6)=caps) (hc5:∀h:Nat→Ob,caps.map (qD h 5)=caps) (hn:∀ks,AllL (jK ks) caps) (hr:∀ρ,zq ρ caps=caps):
  Con Tryz.prog 113 false [.v (.int .i64 n),.fn f caps] [] (isA (.ag [.v (.int .i64 (n)),.sl (gl n g (n*n)).length (qj ExV.cs (gl n g (n*n)))])):=by
 rw[jw];exact afk n f caps g hn0 hf hg hc hc5 hn hr
def aAQ(n:Nat)(l l':List ExV):List ExV:=gl n (fun i j=>(l.getD (i*n+j) ex0).plus (l'.getD (i*n+j) ex0)) (n*n)
def aCt(n:Nat)(l l':List ExV):List ExV:=gl n (fun i j=>(l.getD (i*n+j) ex0).plus (l'.getD (i*n+j) ex0).neg) (n*n)
def zn(n:Nat)(l:List ExV)(y:ExV):List ExV:=gl n (fun i j=>(l.getD (i*n+j) ex0).times y) (n*n)
theorem aaS(n:Nat)(l:List ExV)(y:ExV)(i j:Nat)(hn:n≤4)(hi:i<n)(hj:j<n)(hl:l.length=n*n)(hb:gbd (-400000) 400000 l)(hy:y.bd (-400000) 400000):
  Con Tryz.prog 199 false [.v (.int .i64 i),.v (.int .i64 j),.fp [.v (.int .i64 n),.sl l.length (qj ExV.cs l)] 0,.fp [.v (.bool y.s),.sl (lim y.m).length (qg (lim y.m)),.v (.int .i64 y.e)] 0] [] (isA (.ag [.v (.bool ((l.getD (i*n+j) ex0).times y).s),.sl (lim ((l.getD (i*n+j) ex0).times y).m).length (qg (lim ((l.getD (i*n+j) ex0).times y).m)),.v (.int .i64 ((l.getD (i*n+j) ex0).times y).e)])):=by
 refine Con.frzA ?_
 have hx:=q8 hi hj
 have hq:=jr hn
 have c1:=ajB n l i j (by omega) (by omega) (by omega) (by omega) (by omega)
 have b1:=zE hb (show i*n+j<l.length by omega)
 generalize l.getD (i*n+j) ex0=x at*
 refine Con.of_w (rs:=[.cell 6 97]) Tryz.func199 rfl Tryz.ntmps199 rfl ?_
 simp(disch:=omega)only[go_sem]
 refine qq rfl [⟨0,[],[]⟩,⟨1,[0],[]⟩,⟨2,[0],[]⟩,⟨4,[0],[]⟩,⟨3,[4],[]⟩,⟨5,[],[]⟩,⟨6,[],[]⟩] (by kernel_rfl) ?_
 simp(disch:=omega)only[go_sem]
 refine qa (c1) ?_
 simp(disch:=omega)only[go_sem]
 refine qa (XI x y b1 hy) ?_
 simp(disch:=omega)only[go_sem]
 exact qn
theorem YS(n:Nat)(l:List ExV)(y:ExV)(hn:n≤4)(hl:l.length=n*n)(hb:gbd (-400000) 400000 l)(hy:y.bd (-400000) 400000):Con Tryz.prog 122 false [.ag [.v (.int .i64 (n)),.sl (l).length (qj ExV.cs (l))],.ag [.v (.bool (y).s),.sl (lim (y).m).length (qg (lim (y).m)),.v (.int .i64 (y).e)]] [] (isA (.ag [.v (.int .i64 (n)),.sl (zn n l y).length (qj ExV.cs (zn n l y))])):=by
 refine Con.frzA ?_
 have c:=Zn n 199 [.fp [.v (.int .i64 n),.sl l.length (qj ExV.cs l)] 0,.fp [.v (.bool y.s),.sl (lim y.m).length (qg (lim y.m)),.v (.int .i64 y.e)] 0] (fun i j=>(l.getD (i*n+j) ex0).times y) hn (fun i j hi hj=>aaS n l y i j hn hi hj hl hb hy) (by simp(disch:=omega)only[go_sem]) (fun h=>rfl) (fun h=>rfl) (fun ks=>by simp(disch:=omega)only[go_sem]) (fun ρ=>rfl)
 change Con _ _ _ _ _ (isA (.ag [.v (.int .i64 (n)),.sl (zn n l y).length (qj ExV.cs (zn n l y))]))at c
 refine Con.of_aw Tryz.func122 rfl Tryz.ntmps122 (by simp) (by simp) (by simp) (AW.seqLe (E:=[(2,.fp [.v (.int .i64 n),.sl l.length (qj ExV.cs l)] 0),(3,.fp [.v (.bool y.s),.sl (lim y.m).length (qg (lim y.m)),.v (.int .i64 y.e)] 0),(4,.pt 0 0)]) (H:=[(0,.own 0 [.v (.int .i64 0),.v (.slice none 0 0)])]) (W.sound ?_) (W.sound ?_))
 ·show @W Tryz.prog 9 ⟨_⟩ ⟨_⟩ _ _
  simp(disch:=omega)only[go_sem]
  exact(Le.frz 40000000 (z:=0) (ks:=[.v (.int .i64 n),.sl l.length (qj ExV.cs l)]) (by simp(disch:=omega)only[go_sem]) rfl (by simp(disch:=omega)only[go_sem])).trans ((Le.frz 50000000 (z:=0) (ks:=[.v (.bool y.s),.sl (lim y.m).length (qg (lim y.m)),.v (.int .i64 y.e)]) (by simp(disch:=omega)only[go_sem]) rfl (by simp(disch:=omega)only[go_sem])).trans (Le.lst [(0,60000000)] _ _ rfl (by simp(disch:=omega)only[go_sem]) (by simp(disch:=omega)only[go_sem])))
 show @W Tryz.prog 9 ⟨_⟩ ⟨fun x σ=>@qY _ _ _ ⟨_⟩ _ ⟨_⟩ x σ⟩ _ _
 simp(disch:=omega)only[go_sem]
 refine qa (c) ?_
 simp(disch:=omega)only[go_sem]
 exact qn
def akp(n:Nat)(l:List ExV)(low mode:Int):List ExV:=gl n (fun i j=>(l.getD (i*n+j) ex0).rnd low mode) (n*n)
theorem ajs(n:Nat)(l:List ExV)(low mode:Int)(i j:Nat)(hn:n≤4)(hi:i<n)(hj:j<n)(hl:l.length=n*n)(hb:gbd (-400000) 400000 l)(hlo: -400000≤low∧low≤400000):
  Con Tryz.prog 114 false [.v (.int .i64 i),.v (.int .i64 j),.fp [.v (.int .i64 n),.sl l.length (qj ExV.cs l)] 0,.fp [.v (.int .i64 low)] 0,.fp [.v (.int .i64 mode)] 0] [] (isA (.ag [.v (.bool ((l.getD (i*n+j) ex0).rnd low mode).s),.sl (lim ((l.getD (i*n+j) ex0).rnd low mode).m).length (qg (lim ((l.getD (i*n+j) ex0).rnd low mode).m)),.v (.int .i64 ((l.getD (i*n+j) ex0).rnd low mode).e)])):=by
 refine Con.frzA ?_
 have hx:=q8 hi hj
 have hq:=jr hn
 have c1:=ajB n l i j (by omega) (by omega) (by omega) (by omega) (by omega)
 have b1:=zE hb (show i*n+j<l.length by omega)
 generalize l.getD (i*n+j) ex0=x at*
 refine Con.of_w (rs:=[.cell 7 97]) Tryz.func114 rfl Tryz.ntmps114 rfl ?_
 simp(disch:=omega)only[go_sem]
 refine qq rfl [⟨0,[],[]⟩,⟨1,[0],[]⟩,⟨2,[0],[]⟩,⟨4,[0],[]⟩,⟨5,[0,4],[]⟩,⟨10,[0,4,5],[]⟩,⟨3,[4,5],[100000000]⟩,⟨6,[],[100000000]⟩,⟨7,[],[100000000]⟩,⟨8,[],[100000000]⟩,⟨9,[],[100000000]⟩,⟨11,[],[]⟩,⟨12,[],[]⟩] (by kernel_rfl) ?_
 simp(disch:=omega)only[go_sem]
 refine qa (c1) ?_
 simp(disch:=omega)only[go_sem]
 refine qa (VY x low mode b1 hlo) ?_
 simp(disch:=omega)only[go_sem]
 exact qn
theorem anR(n:Nat)(l:List ExV)(low mode:Int)(hn:n≤4)(hl:l.length=n*n)(hb:gbd (-400000) 400000 l)(hlo: -400000≤low∧low≤400000):Con Tryz.prog 54 false [.ag [.v (.int .i64 (n)),.sl (l).length (qj ExV.cs (l))],.v (.int .i64 low),.v (.int .i64 mode)] [] (isA (.ag [.v (.int .i64 (n)),.sl (akp n l low mode).length (qj ExV.cs (akp n l low mode))])):=by
 refine Con.frzA ?_
 have c:=Zn n 114 [.fp [.v (.int .i64 n),.sl l.length (qj ExV.cs l)] 0,.fp [.v (.int .i64 low)] 0,.fp [.v (.int .i64 mode)] 0] (fun i j=>(l.getD (i*n+j) ex0).rnd low mode) hn (fun i j hi hj=>ajs n l low mode i j hn hi hj hl hb hlo) (by simp(disch:=omega)only[go_sem]) (fun h=>rfl) (fun h=>rfl) (fun ks=>by simp(disch:=omega)only[go_sem]) (fun ρ=>rfl)
 change Con _ _ _ _ _ (isA (.ag [.v (.int .i64 (n)),.sl (akp n l low mode).length (qj ExV.cs (akp n l low mode))]))at c
 refine Con.of_aw Tryz.func54 rfl Tryz.ntmps54 (by simp) (by simp) (by simp) (AW.seqLe (E:=[(3,.fp [.v (.int .i64 n),.sl l.length (qj ExV.cs l)] 0),(4,.fp [.v (.int .i64 low)] 0),(5,.fp [.v (.int .i64 mode)] 0),(6,.pt 0 0)]) (H:=[(0,.own 0 [.v (.int .i64 0),.v (.slice none 0 0)])]) (W.sound ?_) (W.sound ?_))
 ·show @W Tryz.prog 11 ⟨_⟩ ⟨_⟩ _ _
  simp(disch:=omega)only[go_sem]
  exact(Le.frz 50000000 (z:=0) (ks:=[.v (.int .i64 n),.sl l.length (qj ExV.cs l)]) (by simp(disch:=omega)only[go_sem]) rfl (by simp(disch:=omega)only[go_sem])).trans ((Le.frz 60000000 (z:=0) (ks:=[.v (.int .i64 low)]) (by simp(disch:=omega)only[go_sem]) rfl (by simp(disch:=omega)only[go_sem])).trans ((Le.frz 70000000 (z:=0) (ks:=[.v (.int .i64 mode)]) (by simp(disch:=omega)only[go_sem]) rfl (by simp(disch:=omega)only[go_sem])).trans (Le.lst [(0,80000000)] _ _ rfl (by simp(disch:=omega)only[go_sem]) (by simp(disch:=omega)only[go_sem]))))
 show @W Tryz.prog 11 ⟨_⟩ ⟨fun x σ=>@qY _ _ _ ⟨_⟩ _ ⟨_⟩ x σ⟩ _ _
 simp(disch:=omega)only[go_sem]
 refine qa (c) ?_
 simp(disch:=omega)only[go_sem]
 exact qn
def ex1:ExV:=⟨false,1,0⟩
theorem ZM:Con Tryz.prog 118 false [] [] (isA (.ag [.v (.bool (ex1).s),.sl (lim (ex1).m).length (qg (lim (ex1).m)),.v (.int .i64 (ex1).e)])):=by
 refine Con.frzA ?_
 refine Con.of_w (rs:=[.cell 0 97]) Tryz.func118 rfl Tryz.ntmps118 rfl ?_
 simp(disch:=omega)only[go_sem]
 refine qa (z7 1 (by omega)) ?_
 simp(disch:=omega)only[go_sem]
 exact qn (hp:=by simp(disch:=omega)only[go_sem,ex1])
def idF(i j:Nat):ExV:=if i=j then ex1 else ex0
def gId(n:Nat):List ExV:=gl n idF (n*n)
theorem ata(i j:Nat):Con Tryz.prog 117 false [.v (.int .i64 i),.v (.int .i64 j)] [] (isA (.ag [.v (.bool (idF i j).s),.sl (lim (idF i j).m).length (qg (lim (idF i j).m)),.v (.int .i64 (idF i j).e)])):=by
 refine Con.frzA ?_
 refine Con.of_w (rs:=[.cell 4 97]) Tryz.func117 rfl Tryz.ntmps117 rfl ?_
 simp(disch:=omega)only[go_sem]
 refine qh (fun h1=>?_) (fun h1=>?_)
 ·simp(disch:=omega)only[go_sem,h1]
  have e:idF i j=ex1:=if_pos (by omega)
  rw[e]
  refine qa (ZM) ?_
  simp(disch:=omega)only[go_sem]
  exact qn
 ·simp(disch:=omega)only[go_sem,h1]
  have e:idF i j=ex0:=if_neg (by omega)
  rw[e]
  exact qn (hp:=by simp(disch:=omega)only[go_sem,ex0,qr,List.length_nil,yt])
theorem ajt(n:Nat)(hn:n≤4):Con Tryz.prog 55 false [.v (.int .i64 n)] [] (isA (.ag [.v (.int .i64 (n)),.sl (gId n).length (qj ExV.cs (gId n))])):=by
 refine Con.frzA ?_
 have c:=Zn n 117 [] idF hn (fun i j hi hj=>ata i j) (by simp(disch:=omega)only[go_sem]) (fun h=>rfl) (fun h=>rfl) (fun ks=>by simp(disch:=omega)only[go_sem]) (fun ρ=>rfl)
 change Con _ _ _ _ _ (isA (.ag [.v (.int .i64 (n)),.sl (gId n).length (qj ExV.cs (gId n))]))at c
 refine Con.of_w (rs:=[.cell 2 89]) Tryz.func55 rfl Tryz.ntmps55 rfl ?_
 simp(disch:=omega)only[go_sem]
 refine qa (c) ?_
 simp(disch:=omega)only[go_sem]
 exact qn
theorem adE{lo hi:Int}(g:Nat→ExV)(h0:lo≤0∧0≤hi):∀k:Nat,(∀t,t<k→(g t).bd lo hi)→((List.range k).foldl (fun s t=>s.plus (g t)) ex0).bd lo (hi+k)
 |0,_=>YC h0.1 (by simpa using h0.2)
 |k+1,h=>by
  rw[List.range_succ,List.foldl_append,List.foldl_cons,List.foldl_nil]
  have:=ExV.plus_bd (adE g h0 k fun t ht=>h t (by omega)) ((h k (by omega)).mono (Int.le_refl _) (show hi≤hi+k by omega))
  exact this.mono (Int.le_refl _) (by omega)
def aBW(n:Nat)(l l':List ExV)(i j k:Nat):ExV:=(List.range k).foldl (fun s t=>s.plus ((l.getD (i*n+t) ex0).times (l'.getD (t*n+j) ex0))) ex0
def awo(n:Nat)(l l':List ExV):List ExV:=gl n (fun i j=>aBW n l l' i j n) (n*n)
theorem aze(n:Nat)(l l':List ExV)(i j:Nat):aBW n l l' i j 0=ex0:=rfl
end Go.Ab
namespace Go.Ab
open Go Go.Proofs
theorem z8{l:List SpV}{i:Nat}(hi:i<l.length):cut (qj SpV.cs l) (i*6) 6=[.v (.bool (l.getD i sp0).lo.s),.sl (lim (l.getD i sp0).lo.m).length (qg (lim (l.getD i sp0).lo.m)),.v (.int .i64 (l.getD i sp0).lo.e),.v (.bool (l.getD i sp0).hi.s),.sl (lim (l.getD i sp0).hi.m).length (qg (lim (l.getD i sp0).hi.m)),.v (.int .i64 (l.getD i sp0).hi.e)]:=Qv (l:=l) agv hi sp0
theorem zB{l:List SpV}{k:Nat}(h:l.length=k):cut (qj SpV.cs l) 0 (k*6)=qj SpV.cs l:=by subst h;exact aqq
theorem Qb:qj ExV.cs []=[]:=jY
theorem jX:qj SpV.cs []=[]:=jY
def mpT{X Y:Type}(l:List X)(F:X→Y)(i:Nat):List Y:=(l.take i).map F
theorem yr{X Y:Type}{l:List X}{F:X→Y}:mpT l F 0=[]:=rfl
theorem qW{X Y:Type}{l:List X}{F:X→Y}{i:Nat}(h:i≤l.length):(mpT l F i).length=i:=by unfold mpT;rw[List.length_map,List.length_take];omega
theorem zK{X Y:Type}{l:List X}{F:X→Y}{i:Nat}(d:X)(h:i<l.length):mpT l F (i+1)=mpT l F i++[F (l.getD i d)]:=by
 unfold mpT
 rw[List.take_add_one,List.getElem?_eq_getElem h,List.map_append,List.getD_eq_getElem?_getD,List.getElem?_eq_getElem h];rfl
theorem ja{X Y:Type}{l:List X}{F:X→Y}:mpT l F l.length=l.map F:=by unfold mpT;rw[List.take_length]
def sbd(lo hi:Int)(l:List SpV):Prop:=∀x∈l,x.bd lo hi
theorem zD{lo hi:Int}{l:List SpV}{i:Nat}(h:sbd lo hi l)(hi':i<l.length):(l.getD i sp0).bd lo hi:=by
 refine h _ ?_
 rw[List.getD_eq_getElem?_getD,List.getElem?_eq_getElem hi'];exact List.getElem_mem _
set_option maxRecDepth 100000 in
theorem YK(n:Int)(l:List ExV)(hl:l.length≤1000):Con Tryz.prog 53 false [.ag [.v (.int .i64 n),.sl l.length (qj ExV.cs l)]] [] (isA (.ag [.v (.int .i64 n),.sl l.length (qj ExV.cs l)])):=by
 refine Con.frzA ?_
 refine Con.of_aw Tryz.func53 rfl Tryz.ntmps53 (by simp) (by simp) (by simp) (W.sound ?_)
 show @W Tryz.prog 25 ⟨_⟩ ⟨fun x σ=>@qY _ _ _ ⟨_⟩ _ ⟨_⟩ x σ⟩ _ _
 simp(disch:=omega)only[go_sem]
 refine qi (fun i:Nat=>[(10,.sl l.length (qj ExV.cs l)),(11,.v (.int .i64 l.length)),(12,.v (.int .i64 i)),(3,.pt 0 0),(2,.pt 2 0)])
  (fun i=>[(0,.own 0 [.v (.int .i64 n),.rf 1 0 i]),(1,.own 3 (qj ExV.cs (mpT l (id) i))),(2,.own 0 [.v (.int .i64 0),.v (.slice none 0 0)])]) (fun i=>i≤l.length) (fun i=>l.length-i) 0 (by omega)
  ((Le.ghostC 50000000 1 1 3 (zo:=0) (cs:=[.v (.int .i64 n),.v (.slice none 0 0)]) (by simp(disch:=omega)only[go_sem]) rfl (by simp(disch:=omega)only[go_sem])).trans (Le.lst [(0,50000000),(2,40000000)] _ _ rfl (by simp(disch:=omega)only[go_sem]) (by simp(disch:=omega)only[go_sem,yr,Qb,List.set_cons_succ,List.set_cons_zero]))) ?_
 intro i hi
 simp(disch:=omega)only[go_sem]
 refine qh (fun h1=>?_) (fun h1=>?_)
 ·have hi2:i<l.length:=by omega
  have hci:=zM hi2
  have hcut:=zp (qW (F:=id) hi)
  have hml:=qW (F:=id) hi
  have hs:=zK (F:=id) ex0 hi2
  generalize l.getD i ex0=x at*
  simp(disch:=omega)only[go_sem,h1,hci]
  refine⟨by omega,by omega,?_⟩
  refine qq rfl [⟨0,[],[]⟩,⟨1,[],[]⟩,⟨2,[1],[]⟩,⟨3,[1],[]⟩,⟨4,[1],[]⟩,⟨5,[],[]⟩,⟨6,[],[]⟩,⟨7,[],[]⟩] (by kernel_rfl) ?_
  simp(disch:=omega)only[go_sem]
  refine qa (acw x.s x.m x.e) ?_
  simp(disch:=omega)only[go_sem]
  simp(disch:=omega)only[go_sem,hcut,QY]
  refine⟨⟨by rw[hml];exact Nat.le_refl _,by omega⟩,qe (i+1) [(1,230000000)] (by show i+1≤_;omega) (by show l.length-(i+1)<l.length-i;omega) rfl (by simp(disch:=omega)only[go_sem];try omega) (by simp(disch:=omega)only[go_sem,hs,id_eq])⟩
 ·simp(disch:=omega)only[go_sem,h1]
  obtain rfl:i=l.length:=by omega
  refine ql [(0,1)] [.own 3 (qj ExV.cs (mpT l (id) l.length))] [] [.ag [.v (.int .i64 n),.rf 0 0 l.length]] rfl (by simp(disch:=omega)only[go_sem]) (by simp(disch:=omega)only[go_sem]) (by simp) (by simp) ?_
  show qD _ 6 _=_
  simp(disch:=omega)only[go_sem,qJ,ja,zp (l:=l.map (id)) (k:=l.length) (List.length_map ..),List.map_id,zp (l:=l) (k:=l.length) rfl]
def ptS(x:ExV):SpV:=⟨x,x⟩
set_option maxRecDepth 100000 in
theorem Qe(n:Nat)(l:List ExV)(hl:l.length≤1000):Con Tryz.prog 141 false [.ag [.v (.int .i64 (n)),.sl (l).length (qj ExV.cs (l))]] [] (isA (.ag [.v (.int .i64 (n)),.sl (l.map ptS).length (qj SpV.cs (l.map ptS))])):=by
 refine Con.frzA ?_
 refine Con.of_aw Tryz.func141 rfl Tryz.ntmps141 (by simp) (by simp) (by simp) (W.sound ?_)
 show @W Tryz.prog 26 ⟨_⟩ ⟨fun x σ=>@qY _ _ _ ⟨_⟩ _ ⟨_⟩ x σ⟩ _ _
 simp(disch:=omega)only[go_sem]
 refine qi (fun i:Nat=>[(10,.sl l.length (qj ExV.cs l)),(11,.v (.int .i64 l.length)),(12,.v (.int .i64 i)),(3,.pt 0 0),(2,.pt 2 0)])
  (fun i=>[(0,.own 0 [.v (.int .i64 n),.rf 1 0 i]),(1,.own 6 (qj SpV.cs (mpT l (ptS) i))),(2,.own 0 [.v (.int .i64 0),.v (.slice none 0 0)])]) (fun i=>i≤l.length) (fun i=>l.length-i) 0 (by omega)
  ((Le.ghostC 50000000 1 1 6 (zo:=0) (cs:=[.v (.int .i64 n),.v (.slice none 0 0)]) (by simp(disch:=omega)only[go_sem]) rfl (by simp(disch:=omega)only[go_sem])).trans (Le.lst [(0,50000000),(2,40000000)] _ _ rfl (by simp(disch:=omega)only[go_sem]) (by simp(disch:=omega)only[go_sem,yr,jX,List.set_cons_succ,List.set_cons_zero]))) ?_
 intro i hi
 simp(disch:=omega)only[go_sem]
 refine qh (fun h1=>?_) (fun h1=>?_)
 ·have hi2:i<l.length:=by omega
  have hci:=zM hi2
  have hcut:=zB (qW (F:=ptS) hi)
  have hml:=qW (F:=ptS) hi
  have hs:=zK (F:=ptS) ex0 hi2
  generalize l.getD i ex0=x at*
  simp(disch:=omega)only[go_sem,h1,hci]
  refine⟨by omega,by omega,?_⟩
  have hsn:∀L:List SpV,qj SpV.cs L++[.v (.bool x.s),.sl (lim x.m).length (qg (lim x.m)),.v (.int .i64 x.e),.v (.bool x.s),.sl (lim x.m).length (qg (lim x.m)),.v (.int .i64 x.e)]=qj SpV.cs (L++[ptS x]):=fun L=>Zs (x:=ptS x)
  simp(disch:=omega)only[go_sem,hcut,hsn]
  refine⟨⟨by rw[hml];exact Nat.le_refl _,by omega⟩,qe (i+1) [(1,240000000)] (by show i+1≤_;omega) (by show l.length-(i+1)<l.length-i;omega) rfl (by simp(disch:=omega)only[go_sem];try omega) (by simp(disch:=omega)only[go_sem,hs])⟩
 ·simp(disch:=omega)only[go_sem,h1]
  obtain rfl:i=l.length:=by omega
  refine ql [(0,1)] [.own 6 (qj SpV.cs (mpT l (ptS) l.length))] [] [.ag [.v (.int .i64 n),.rf 0 0 l.length]] rfl (by simp(disch:=omega)only[go_sem]) (by simp(disch:=omega)only[go_sem]) (by simp) (by simp) ?_
  show qD _ 6 _=_
  simp(disch:=omega)only[go_sem,qJ,ja,zB (l:=l.map (ptS)) (k:=l.length) (List.length_map ..),List.length_map]
def Qm(s:SpV):ExV:=(s.lo.plus s.hi).shift (-1)
set_option maxRecDepth 100000 in
theorem as8(n:Nat)(l:List SpV)(hl:l.length≤1000)(hb:sbd (-390000) 390000 l):Con Tryz.prog 72 false [.ag [.v (.int .i64 (n)),.sl (l).length (qj SpV.cs (l))]] [] (isA (.ag [.v (.int .i64 (n)),.sl (l.map Qm).length (qj ExV.cs (l.map Qm))])):=by
 refine Con.frzA ?_
 refine Con.of_aw Tryz.func72 rfl Tryz.ntmps72 (by simp) (by simp) (by simp) (W.sound ?_)
 show @W Tryz.prog 29 ⟨_⟩ ⟨fun x σ=>@qY _ _ _ ⟨_⟩ _ ⟨_⟩ x σ⟩ _ _
 simp(disch:=omega)only[go_sem]
 refine qi (fun i:Nat=>[(10,.sl l.length (qj SpV.cs l)),(11,.v (.int .i64 l.length)),(12,.v (.int .i64 i)),(3,.pt 0 0),(2,.pt 2 0)])
  (fun i=>[(0,.own 0 [.v (.int .i64 n),.rf 1 0 i]),(1,.own 3 (qj ExV.cs (mpT l (Qm) i))),(2,.own 0 [.v (.int .i64 0),.v (.slice none 0 0)])]) (fun i=>i≤l.length) (fun i=>l.length-i) 0 (by omega)
  ((Le.ghostC 50000000 1 1 3 (zo:=0) (cs:=[.v (.int .i64 n),.v (.slice none 0 0)]) (by simp(disch:=omega)only[go_sem]) rfl (by simp(disch:=omega)only[go_sem])).trans (Le.lst [(0,50000000),(2,40000000)] _ _ rfl (by simp(disch:=omega)only[go_sem]) (by simp(disch:=omega)only[go_sem,yr,Qb,List.set_cons_succ,List.set_cons_zero]))) ?_
 intro i hi
 simp(disch:=omega)only[go_sem]
 refine qh (fun h1=>?_) (fun h1=>?_)
 ·have hi2:i<l.length:=by omega
  have hci:=z8 hi2
  have hcut:=zp (qW (F:=Qm) hi)
  have hml:=qW (F:=Qm) hi
  have hs:=zK (F:=Qm) sp0 hi2
  have hx:=zD hb hi2
  generalize l.getD i sp0=x at*
  simp(disch:=omega)only[go_sem,h1,hci]
  refine⟨by omega,by omega,?_⟩
  refine qq rfl [⟨0,[],[]⟩,⟨1,[],[]⟩,⟨2,[1],[]⟩,⟨3,[1],[]⟩,⟨4,[1,3],[]⟩,⟨5,[1,3],[]⟩,⟨6,[1],[]⟩,⟨7,[1],[]⟩,⟨8,[1],[]⟩,⟨9,[],[]⟩,⟨10,[],[]⟩,⟨11,[],[]⟩] (by kernel_rfl) ?_
  simp(disch:=omega)only[go_sem]
  refine qa (yP x.lo x.hi (hx.1.mono (by omega) (by omega)) (hx.2.mono (by omega) (by omega))) ?_
  simp(disch:=omega)only[go_sem]
  have hp:=ExV.plus_bd hx.1 hx.2
  have hp2: -390000≤(x.lo.plus x.hi).e∧(x.lo.plus x.hi).e≤400000:=⟨hp.2.1,by have:=hp.2.2;omega⟩
  refine qa (yO (x.lo.plus x.hi) (-1) (by omega) (by omega)) ?_
  simp(disch:=omega)only[go_sem]
  have em:Qm x=(x.lo.plus x.hi).shift (-1):=rfl
  rw[em]at hs
  simp(disch:=omega)only[go_sem,hcut,QY]
  refine⟨⟨by rw[hml];exact Nat.le_refl _,by omega⟩,qe (i+1) [(1,270000000)] (by show i+1≤_;omega) (by show l.length-(i+1)<l.length-i;omega) rfl (by simp(disch:=omega)only[go_sem];try omega) (by simp(disch:=omega)only[go_sem,hs])⟩
 ·simp(disch:=omega)only[go_sem,h1]
  obtain rfl:i=l.length:=by omega
  refine ql [(0,1)] [.own 3 (qj ExV.cs (mpT l (Qm) l.length))] [] [.ag [.v (.int .i64 n),.rf 0 0 l.length]] rfl (by simp(disch:=omega)only[go_sem]) (by simp(disch:=omega)only[go_sem]) (by simp) (by simp) ?_
  show qD _ 6 _=_
  simp(disch:=omega)only[go_sem,qJ,ja,zp (l:=l.map (Qm)) (k:=l.length) (List.length_map ..),List.length_map]
set_option maxRecDepth 100000 in
theorem V6(n:Nat)(l:List SpV)(f:Nat)(caps:List AV)(F:SpV→SpV)(hl:l.length≤1000)(hf:∀x∈l,Con Tryz.prog f false (.ag [.v (.bool (x).lo.s),.sl (lim (x).lo.m).length (qg (lim (x).lo.m)),.v (.int .i64 (x).lo.e),.v (.bool (x).hi.s),.sl (lim (x).hi.m).length (qg (lim (x).hi.m)),.v (.int .i64 (x).hi.e)]::caps) [] (isA (.ag [.v (.bool (F x).lo.s),.sl (lim (F x).lo.m).length (qg (lim (F x).lo.m)),.v (.int .i64 (F x).lo.e),.v (.bool (F x).hi.s),.sl (lim (F x).hi.m).length (qg (lim (F x).hi.m)),.v (.int .i64 (F x).hi.e)])))(hg:qz Tryz.prog f=True)
  (hc:∀h:Nat→Ob,caps.map (qD h 6)=caps) (hc5:∀h:Nat→Ob,caps.map (qD h 5)=caps) (hn:∀ks,AllL (jK ks) caps) (hr:∀ρ,zq ρ caps=caps):
  Con Tryz.prog 219 false [.ag [.v (.int .i64 (n)),.sl (l).length (qj SpV.cs (l))],.fn f caps] [] (isA (.ag [.v (.int .i64 (n)),.sl (l.map F).length (qj SpV.cs (l.map F))])):=by
 refine Con.frzA ?_
 refine Con.of_aw Tryz.func219 rfl Tryz.ntmps219 (by simp) (by simp) (by simp) (W.sound ?_)
 show @W Tryz.prog 28 ⟨_⟩ ⟨fun x σ=>@qY _ _ _ ⟨_⟩ _ ⟨_⟩ x σ⟩ _ _
 simp(disch:=omega)only[go_sem,hg]
 refine qi (fun i:Nat=>[(1,.fn f caps),(12,.sl l.length (qj SpV.cs l)),(13,.v (.int .i64 l.length)),(14,.v (.int .i64 i)),(5,.pt 0 0),(4,.pt 2 0)])
  (fun i=>[(0,.own 0 [.v (.int .i64 n),.rf 1 0 i]),(1,.own 6 (qj SpV.cs (mpT l (F) i))),(2,.own 0 [.v (.int .i64 0),.v (.slice none 0 0)])]) (fun i=>i≤l.length) (fun i=>l.length-i) 0 (by omega)
  ((Le.ghostC 70000000 1 1 6 (zo:=0) (cs:=[.v (.int .i64 n),.v (.slice none 0 0)]) (by simp(disch:=omega)only[go_sem]) rfl (by simp(disch:=omega)only[go_sem])).trans (Le.lst [(0,70000000),(2,60000000)] _ _ rfl (by simp(disch:=omega)only[go_sem,hr,hn]) (by simp(disch:=omega)only[go_sem,yr,jX,List.set_cons_succ,List.set_cons_zero]))) ?_
 intro i hi
 simp(disch:=omega)only[go_sem]
 refine qh (fun h1=>?_) (fun h1=>?_)
 ·have hi2:i<l.length:=by omega
  have hci:=z8 hi2
  have hcut:=zB (qW (F:=F) hi)
  have hml:=qW (F:=F) hi
  have hs:=zK (F:=F) sp0 hi2
  have hfx:=hf (l.getD i sp0) (by rw[List.getD_eq_getElem?_getD,List.getElem?_eq_getElem hi2];exact List.getElem_mem _)
  generalize l.getD i sp0=x at*
  simp(disch:=omega)only[go_sem,h1,hci]
  refine⟨by omega,by omega,?_⟩
  refine qq rfl [⟨0,[],[]⟩,⟨1,[],[]⟩,⟨2,[1],[]⟩,⟨3,[1],[]⟩,⟨4,[1],[]⟩,⟨5,[1],[]⟩,⟨6,[],[]⟩,⟨7,[],[]⟩,⟨8,[],[]⟩] (by kernel_rfl) ?_
  simp(disch:=omega)only[go_sem,hg]
  refine qw hfx (by simp(disch:=omega)only[go_sem,hc,hc5]) ?_
  rintro r hs2 ⟨rfl,rfl,_⟩
  refine⟨by simp[qB],?_⟩
  simp(disch:=omega)only[go_sem,hcut,Zs]
  refine⟨⟨by rw[hml];exact Nat.le_refl _,by omega⟩,qe (i+1) [(1,260000000)] (by show i+1≤_;omega) (by show l.length-(i+1)<l.length-i;omega) rfl (by simp(disch:=omega)only[go_sem,hr,hn];try omega) (by simp(disch:=omega)only[go_sem,hs])⟩
 ·simp(disch:=omega)only[go_sem,h1]
  obtain rfl:i=l.length:=by omega
  refine ql [(0,1)] [.own 6 (qj SpV.cs (mpT l (F) l.length))] [] [.ag [.v (.int .i64 n),.rf 0 0 l.length]] rfl (by simp(disch:=omega)only[go_sem]) (by simp(disch:=omega)only[go_sem]) (by simp) (by simp) ?_
  show qD _ 6 _=_
  simp(disch:=omega)only[go_sem,qJ,ja,zB (l:=l.map (F)) (k:=l.length) (List.length_map ..),List.length_map]
end Go.Ab
namespace Go.Ab
open Go Go.Proofs
theorem adJ(n:Nat)(l:List SpV)(i j:Nat)(hl:i*n+j<l.length)(hb:l.length≤1000)(hn:n≤1000)(hi:i≤1000)(hj:j≤1000):
  Con Tryz.prog 217 false [.ag [.v (.int .i64 (n)),.sl (l).length (qj SpV.cs (l))],.v (.int .i64 i),.v (.int .i64 j)] [] (isA (.ag [.v (.bool (l.getD (i*n+j) sp0).lo.s),.sl (lim (l.getD (i*n+j) sp0).lo.m).length (qg (lim (l.getD (i*n+j) sp0).lo.m)),.v (.int .i64 (l.getD (i*n+j) sp0).lo.e),.v (.bool (l.getD (i*n+j) sp0).hi.s),.sl (lim (l.getD (i*n+j) sp0).hi.m).length (qg (lim (l.getD (i*n+j) sp0).hi.m)),.v (.int .i64 (l.getD (i*n+j) sp0).hi.e)])):=by
 refine Con.frzA ?_
 have hin:i*n≤1000:=by omega
 have hp:(i:Int)*(n:Int)≤1000∧0≤(i:Int)*(n:Int):=by rw[←Int.natCast_mul];omega
 have e1:(i:Int)*(n:Int)+(j:Int)=((i*n+j:Nat):Int):=by rw[Int.natCast_add,Int.natCast_mul]
 have hcut:=z8 hl
 generalize i*n+j=k at*
 refine Con.of_w (rs:=[.cell 6 114]) Tryz.func217 rfl Tryz.ntmps217 rfl ?_
 simp(disch:=omega)only[go_sem]
 simp(disch:=omega)only[go_sem,e1,hcut]
 refine⟨by omega,by omega,?_⟩
 exact qn
def gly{Y:Type}(n:Nat)(g:Nat→Nat→Y)(k:Nat):List Y:=(List.range k).map fun t=>g (t/n) (t % n)
theorem zX{Y:Type}{n:Nat}{g:Nat→Nat→Y}{k:Nat}:(gly n g k).length=k:=by simp[gly]
theorem adA{Y:Type}{n:Nat}{g:Nat→Nat→Y}{k:Nat}:gly n g (k+1)=gly n g k++[g (k/n) (k % n)]:=by simp[gly,List.range_succ]
theorem asd{Y:Type}{n:Nat}{g:Nat→Nat→Y}:gly n g 0=[]:=rfl
def jB(n:Nat)(l l':List SpV)(i j k:Nat):SpV:=(List.range k).foldl (fun s t=>s.plus ((l.getD (i*n+t) sp0).times (l'.getD (t*n+j) sp0))) sp0
theorem Z0(n:Nat)(l l':List SpV)(i j:Nat):jB n l l' i j 0=sp0:=rfl
theorem yD(n:Nat)(l l':List SpV)(i j k:Nat):jB n l l' i j (k+1)=(jB n l l' i j k).plus ((l.getD (i*n+k) sp0).times (l'.getD (k*n+j) sp0)):=by
 unfold jB;rw[List.range_succ,List.foldl_append,List.foldl_cons,List.foldl_nil]
def qI(n:Nat)(l l':List SpV):List SpV:=gly n (fun i j=>jB n l l' i j n) (n*n)
theorem SpV.times_bd{s t:SpV}{l1 h1 l2 h2:Int}(hs:s.bd l1 h1)(ht:t.bd l2 h2):(s.times t).bd (l1+l2) (h1+h2):=by
 have he:=VU (F:=ExV.times) hs ht (fun x y hx hy=>ExV.times_bd hx hy)
 exact⟨ZD he (by simp[qC]),QS he (by simp[qC])⟩
theorem SpV.plus_bd{s t:SpV}{lo hi:Int}(hs:s.bd lo hi)(ht:t.bd lo hi):(s.plus t).bd lo (hi+1):=⟨ExV.plus_bd hs.1 ht.1,ExV.plus_bd hs.2 ht.2⟩
theorem SpV.bd.mono{lo hi lo' hi':Int}{x:SpV}(h:x.bd lo hi)(h1:lo'≤lo)(h2:hi≤hi'):x.bd lo' hi':=⟨ExV.bd.mono h.1 h1 h2,ExV.bd.mono h.2 h1 h2⟩
theorem aoG{lo hi:Int}(h1:lo≤0)(h2:0≤hi):sp0.bd lo hi:=⟨YC h1 h2,YC h1 h2⟩
theorem qy{lo hi lo' hi':Int}{l:List SpV}(h:sbd lo hi l)(h1:lo'≤lo)(h2:hi≤hi'):sbd lo' hi' l:=fun x hx=>SpV.bd.mono (h x hx) h1 h2
theorem zC{lo hi lo' hi':Int}{l:List ExV}(h:gbd lo hi l)(h1:lo'≤lo)(h2:hi≤hi'):gbd lo' hi' l:=fun x hx=>ExV.bd.mono (h x hx) h1 h2
theorem KG{lo hi:Int}(g:Nat→SpV)(h0:lo≤0∧0≤hi):∀k:Nat,(∀t,t<k→(g t).bd lo hi)→((List.range k).foldl (fun s t=>s.plus (g t)) sp0).bd lo (hi+k)
 |0,_=>aoG h0.1 (by simpa using h0.2)
 |k+1,h=>by
  rw[List.range_succ,List.foldl_append,List.foldl_cons,List.foldl_nil]
  have:=SpV.plus_bd (KG g h0 k fun t ht=>h t (by omega)) (SpV.bd.mono (h k (by omega)) (Int.le_refl _) (show hi≤hi+k by omega))
  exact SpV.bd.mono this (Int.le_refl _) (by omega)
theorem adb{l1 h1 l2 h2:Int}{n:Nat}{l l':List SpV}{i j k:Nat}(hi:i<n)(hj:j<n)(hk:k≤n)(hl:l.length=n*n)(hl':l'.length=n*n)(hb:sbd l1 h1 l)(hb':sbd l2 h2 l')(h0:l1+l2≤0∧0≤h1+h2):(jB n l l' i j k).bd (l1+l2) (h1+h2+k):=
 KG _ h0 k fun t ht=>SpV.times_bd (zD hb (by rw[hl];exact q8 hi (by omega))) (zD hb' (by rw[hl'];exact q8 (by omega) hj))
theorem aan{l1 h1 l2 h2:Int}{n:Nat}{l l':List SpV}(hl:l.length=n*n)(hl':l'.length=n*n)(hb:sbd l1 h1 l)(hb':sbd l2 h2 l')(h0:l1+l2≤0∧0≤h1+h2):sbd (l1+l2) (h1+h2+n) (qI n l l'):=by
 intro x hx
 simp only[qI,gly,List.mem_map,List.mem_range]at hx
 obtain⟨t,ht,rfl⟩:=hx
 have hn:0<n:=by
  rcases Nat.eq_zero_or_pos n with e|e
  ·subst e;simp at ht
  ·exact e
 exact adb (Nat.div_lt_of_lt_mul ht) (Nat.mod_lt _ hn) (Nat.le_refl _) hl hl' hb hb' h0
set_option maxRecDepth 100000 in
theorem Q0(n:Nat)(l l':List SpV)(hn:n≤4)(hl:l.length=n*n)(hl':l'.length=n*n)(hb:sbd (-190000) 190000 l)(hb':sbd (-190000) 190000 l'):Con Tryz.prog 144 false [.ag [.v (.int .i64 (n)),.sl (l).length (qj SpV.cs (l))],.ag [.v (.int .i64 (n)),.sl (l').length (qj SpV.cs (l'))]] [] (isA (.ag [.v (.int .i64 (n)),.sl (qI n l l').length (qj SpV.cs (qI n l l'))])):=by
 refine Con.frzA ?_
 have hq:=jr hn
 refine Con.of_aw Tryz.func144 rfl Tryz.ntmps144 (by simp) (by simp) (by simp) (W.sound ?_)
 show @W Tryz.prog 49 ⟨_⟩ ⟨fun x σ=>@qY _ _ _ ⟨_⟩ _ ⟨_⟩ x σ⟩ _ _
 simp(disch:=omega)only[go_sem]
 refine qi (fun i:Nat=>[(2,.pt 3 0),(3,.pt 4 0),(4,.pt 2 0),(5,.pt 0 0),(14,.v (.int .i64 n)),(15,.v (.int .i64 i))])
  (fun i=>[(0,.own 0 [.v (.int .i64 n),.rf 1 0 (i*n)]),(1,.own 6 (qj SpV.cs (gly n (fun i j=>jB n l l' i j n) (i*n)))),(2,.own 0 [.v (.int .i64 0),.v (.slice none 0 0)]),(3,.own 0 [.v (.int .i64 n),.sl l.length (qj SpV.cs l)]),(4,.own 0 [.v (.int .i64 n),.sl l'.length (qj SpV.cs l')])]) (fun i=>i≤n) (fun i=>n-i) 0 (by omega)
  ((Le.ghostC 70000000 1 1 6 (zo:=0) (cs:=[.v (.int .i64 n),.v (.slice none 0 0)]) (by simp(disch:=omega)only[go_sem]) rfl (by simp(disch:=omega)only[go_sem])).trans (Le.lst [(0,70000000),(2,60000000),(3,40000000),(4,50000000)] _ _ rfl (by simp(disch:=omega)only[go_sem]) (by simp(disch:=omega)only[go_sem,asd,jX,Nat.zero_mul,List.set_cons_succ,List.set_cons_zero]))) ?_
 intro i hi
 simp(disch:=omega)only[go_sem]
 refine qh (fun h1=>?_) (fun h1=>?_)
 ·simp(disch:=omega)only[go_sem,h1]
  have hin:i*n≤16:=Nat.mul_le_mul (show i≤4 by omega) hn
  refine qi (fun j:Nat=>[(2,.pt 3 0),(3,.pt 4 0),(4,.pt 2 0),(5,.pt 0 0),(6,.v (.int .i64 i)),(14,.v (.int .i64 n)),(15,.v (.int .i64 i)),(19,.v (.int .i64 n)),(20,.v (.int .i64 j))])
   (fun j=>[(0,.own 0 [.v (.int .i64 n),.rf 1 0 (i*n+j)]),(1,.own 6 (qj SpV.cs (gly n (fun i j=>jB n l l' i j n) (i*n+j)))),(2,.own 0 [.v (.int .i64 0),.v (.slice none 0 0)]),(3,.own 0 [.v (.int .i64 n),.sl l.length (qj SpV.cs l)]),(4,.own 0 [.v (.int .i64 n),.sl l'.length (qj SpV.cs l')])]) (fun j=>j≤n) (fun j=>n-j) 0 (by omega)
   (Le.lst [] _ _ rfl (by simp(disch:=omega)only[go_sem,Nat.add_zero]) (by simp(disch:=omega)only[go_sem,Nat.add_zero])) ?_
  intro j hj
  simp(disch:=omega)only[go_sem]
  refine qh (fun h2=>?_) (fun h2=>?_)
  ·simp(disch:=omega)only[go_sem,h2]
   have hd:(i*n+j)/n=i:=by rw[Nat.mul_comm,Nat.mul_add_div (by omega),Nat.div_eq_of_lt (by omega),Nat.add_zero]
   have hm:(i*n+j) % n=j:=by rw[Nat.mul_comm,Nat.mul_add_mod,Nat.mod_eq_of_lt (by omega)]
   have hs:=@adA _ n (fun i j=>jB n l l' i j n) (i*n+j)
   rw[hd,hm]at hs
   have hcut:=zB (@zX _ n (fun i j=>jB n l l' i j n) (i*n+j))
   have hk:i*n+(j+1)=i*n+j+1:=rfl
   generalize hA:gly n (fun i j=>jB n l l' i j n) (i*n+j)=A at*
   have hAl:A.length=i*n+j:=by rw[←hA,zX]
   generalize hA1:gly n (fun i j=>jB n l l' i j n) (i*n+j+1)=A1 at*
   refine qi (fun k:Nat=>[(2,.pt 3 0),(3,.pt 4 0),(4,.pt 2 0),(5,.pt 0 0),(6,.v (.int .i64 i)),(7,.v (.int .i64 j)),(8,.pt 5 0),(14,.v (.int .i64 n)),(15,.v (.int .i64 i)),(19,.v (.int .i64 n)),(20,.v (.int .i64 j)),(24,.v (.int .i64 n)),(25,.v (.int .i64 k))])
    (fun k=>[(0,.own 0 [.v (.int .i64 n),.rf 1 0 (i*n+j)]),(1,.own 6 (qj SpV.cs A)),(2,.own 0 [.v (.int .i64 0),.v (.slice none 0 0)]),(3,.own 0 [.v (.int .i64 n),.sl l.length (qj SpV.cs l)]),(4,.own 0 [.v (.int .i64 n),.sl l'.length (qj SpV.cs l')]),
     (5,.own 0 [.v (.bool (jB n l l' i j k).lo.s),.sl (lim (jB n l l' i j k).lo.m).length (qg (lim (jB n l l' i j k).lo.m)),.v (.int .i64 (jB n l l' i j k).lo.e),.v (.bool (jB n l l' i j k).hi.s),.sl (lim (jB n l l' i j k).hi.m).length (qg (lim (jB n l l' i j k).hi.m)),.v (.int .i64 (jB n l l' i j k).hi.e)])])
    (fun k=>k≤n) (fun k=>n-k) 0 (by omega)
    ((Le.nilC 100000000 1 (zo:=0) (cs:=[.v (.bool false),.v (.slice none 0 0),.v (.int .i64 0),.v (.bool false),.v (.slice none 0 0),.v (.int .i64 0)]) (by simp(disch:=omega)only[go_sem]) rfl).trans
     ((Le.nilC 100000000 4 (zo:=0) (cs:=[.v (.bool false),.sl 0 [],.v (.int .i64 0),.v (.bool false),.v (.slice none 0 0),.v (.int .i64 0)]) (by simp(disch:=omega)only[go_sem,List.set_cons_succ,List.set_cons_zero]) rfl).trans (Le.lst [(5,100000000)] _ _ rfl (by simp(disch:=omega)only[go_sem]) (by simp(disch:=omega)only[go_sem,List.set_cons_succ,List.set_cons_zero,Z0,sp0,ex0,qr])))) ?_
   intro k hk2
   have hD:=adb (k:=k) (show i<n by omega) (show j<n by omega) hk2 hl hl' hb hb' (by omega)
   have hsd:=yD n l l' i j k
   generalize hDD:jB n l l' i j k=D at*
   simp(disch:=omega)only[go_sem]
   refine qh (fun h3=>?_) (fun h3=>?_)
   ·have hx:=q8 (show i<n by omega) (show k<n by omega)
    have hx':=q8 (show k<n by omega) (show j<n by omega)
    have c1:=adJ n l i k (by omega) (by omega) (by omega) (by omega) (by omega)
    have c2:=adJ n l' k j (by omega) (by omega) (by omega) (by omega) (by omega)
    have b1:=zD hb (show i*n+k<l.length by omega)
    have b2:=zD hb' (show k*n+j<l'.length by omega)
    generalize l.getD (i*n+k) sp0=x at*
    generalize l'.getD (k*n+j) sp0=y at*
    simp(disch:=omega)only[go_sem,h3]
    refine qq rfl [⟨0,[],[]⟩,⟨1,[0],[]⟩,⟨2,[0,1],[]⟩,⟨3,[0,1],[]⟩,⟨5,[0,1],[]⟩,⟨6,[0,1,5],[]⟩,⟨7,[0,1,5],[]⟩,⟨4,[0,5],[]⟩,⟨8,[0],[]⟩,⟨9,[0],[]⟩,⟨10,[],[]⟩,⟨11,[],[]⟩] (by kernel_rfl) ?_
    simp(disch:=omega)only[go_sem]
    refine qa (c1) ?_
    simp(disch:=omega)only[go_sem]
    refine qa (c2) ?_
    simp(disch:=omega)only[go_sem]
    refine qa (ab8 x y (SpV.bd.mono b1 (by omega) (by omega)) (SpV.bd.mono b2 (by omega) (by omega))) ?_
    simp(disch:=omega)only[go_sem]
    refine qa (XK D (x.times y) (SpV.bd.mono hD (by omega) (by omega)) (SpV.bd.mono (SpV.times_bd b1 b2) (by omega) (by omega))) ?_
    simp(disch:=omega)only[go_sem]
    exact qe (k+1) [] (by show k+1≤_;omega) (by show n-(k+1)<n-k;omega) rfl (by simp(disch:=omega)only[go_sem];try omega) (by simp(disch:=omega)only[go_sem,hsd])
   ·obtain rfl:n=k:=by omega
    rw[hDD]at hs
    simp(disch:=omega)only[go_sem,h3,hcut,Zs]
    refine⟨⟨by rw[hAl];exact Nat.le_refl _,by omega⟩,qe (j+1) [(1,460000000)] (by show j+1≤_;omega) (by show n-(j+1)<n-j;omega) rfl (by simp(disch:=omega)only[go_sem];try omega) (by simp(disch:=omega)only[go_sem,hk,hA1,hs])⟩
  ·simp(disch:=omega)only[go_sem,h2]
   obtain rfl:n=j:=by omega
   exact qe (i+1) [] (by show i+1≤_;omega) (by show n-(i+1)<n-i;omega) rfl (by simp(disch:=omega)only[go_sem,Nat.add_mul,Nat.one_mul];try omega) (by simp(disch:=omega)only[go_sem,Nat.add_mul,Nat.one_mul])
 ·simp(disch:=omega)only[go_sem,h1]
  obtain rfl:n=i:=by omega
  have hll:(qI n l l').length=n*n:=zX
  have hft:gly n (fun i j=>jB n l l' i j n) (n*n)=qI n l l':=rfl
  rw[hft,hll]
  refine ql [(0,1)] [.own 6 (qj SpV.cs (qI n l l'))] [] [.ag [.v (.int .i64 n),.rf 0 0 (n*n)]] rfl (by simp(disch:=omega)only[go_sem]) (by simp(disch:=omega)only[go_sem]) (by simp) (by simp) ?_
  show qD _ 6 _=_
  simp(disch:=omega)only[go_sem,qJ,zB hll]
end Go.Ab
namespace Go.Ab
open Go Go.Proofs
theorem ae4(x y:ExV)(low mode:Int)(h0:y.m≠0)(hx:x.bd (-400000) 400000)(hy:y.bd (-400000) 400000)(hl: -400000≤low∧low≤400000):
  Con Tryz.prog 272 false [.ag [.v (.bool (x).s),.sl (lim (x).m).length (qg (lim (x).m)),.v (.int .i64 (x).e)],.ag [.v (.bool (y).s),.sl (lim (y).m).length (qg (lim (y).m)),.v (.int .i64 (y).e)],.fp [.v (.int .i64 low)] 0,.fp [.v (.int .i64 mode)] 0] [] (isA (.ag [.v (.bool (x.over y low mode).s),.sl (lim (x.over y low mode).m).length (qg (lim (x.over y low mode).m)),.v (.int .i64 (x.over y low mode).e)])):=by
 refine Con.frzA ?_
 refine Con.of_w (rs:=[.cell 6 97]) Tryz.func272 rfl Tryz.ntmps272 rfl ?_
 simp(disch:=omega)only[go_sem]
 refine qa (ai3 x y low mode h0 hx hy hl) ?_
 simp(disch:=omega)only[go_sem]
 exact qn
theorem ai4(s t:SpV)(low mode:Int)(h1:t.lo.m≠0)(h2:t.hi.m≠0)(hs:s.bd (-400000) 400000)(ht:t.bd (-400000) 400000)(hl: -400000≤low∧low≤400000):
  Con Tryz.prog 271 false [.v (.int .i64 mode),.fp [.v (.bool s.lo.s),.sl (lim s.lo.m).length (qg (lim s.lo.m)),.v (.int .i64 s.lo.e),.v (.bool s.hi.s),.sl (lim s.hi.m).length (qg (lim s.hi.m)),.v (.int .i64 s.hi.e)] 0,.fp [.v (.bool t.lo.s),.sl (lim t.lo.m).length (qg (lim t.lo.m)),.v (.int .i64 t.lo.e),.v (.bool t.hi.s),.sl (lim t.hi.m).length (qg (lim t.hi.m)),.v (.int .i64 t.hi.e)] 0,.fp [.v (.int .i64 low)] 0] [] (isA (.sl 4 (qj ExV.cs (qC (fun x y=>x.over y low mode) s t)))):=by
 refine Con.frzA ?_
 have ce:=XL s t 272 [.fp [.v (.int .i64 low)] 0,.fp [.v (.int .i64 mode)] 0] (fun x y=>x.over y low mode) (fun x y hx hy=>by
  refine ae4 x y low mode ?_ ?_ ?_ hl
  ·rcases hy with rfl|rfl
   ·exact h1
   ·exact h2
  ·rcases hx with rfl|rfl
   ·exact hs.1
   ·exact hs.2
  ·rcases hy with rfl|rfl
   ·exact ht.1
   ·exact ht.2) (by simp(disch:=omega)only[go_sem]) (fun h=>rfl) (fun h=>rfl) (fun ks=>by simp(disch:=omega)only[go_sem]) (fun ρ=>rfl)
 refine Con.of_aw Tryz.func271 rfl Tryz.ntmps271 (by simp) (by simp) (by simp) (AW.seqLe (E:=[(1,.fp [.v (.bool s.lo.s),.sl (lim s.lo.m).length (qg (lim s.lo.m)),.v (.int .i64 s.lo.e),.v (.bool s.hi.s),.sl (lim s.hi.m).length (qg (lim s.hi.m)),.v (.int .i64 s.hi.e)] 0),(2,.fp [.v (.bool t.lo.s),.sl (lim t.lo.m).length (qg (lim t.lo.m)),.v (.int .i64 t.lo.e),.v (.bool t.hi.s),.sl (lim t.hi.m).length (qg (lim t.hi.m)),.v (.int .i64 t.hi.e)] 0),(3,.fp [.v (.int .i64 low)] 0),(4,.fp [.v (.int .i64 mode)] 0),(5,.v (.slice none 0 0))]) (H:=[]) (W.sound ?_) (W.sound ?_))
 ·show @W Tryz.prog 10 ⟨_⟩ ⟨_⟩ _ _
  simp(disch:=omega)only[go_sem]
  exact(Le.frz 60000000 (z:=0) (ks:=[.v (.int .i64 mode)]) (by simp(disch:=omega)only[go_sem]) rfl (by simp(disch:=omega)only[go_sem])).trans (Le.lst [] _ _ rfl (by simp(disch:=omega)only[go_sem]) (by simp(disch:=omega)only[go_sem]))
 show @W Tryz.prog 10 ⟨_⟩ ⟨fun x σ=>@qY _ _ _ ⟨_⟩ _ ⟨_⟩ x σ⟩ _ _
 simp(disch:=omega)only[go_sem]
 refine qa (ce) ?_
 simp(disch:=omega)only[go_sem]
 exact qn
theorem SpV.over_bd{s t:SpV}{lo hi l2 low H:Int}(hs:s.bd lo hi)(ht:l2≤t.lo.e∧l2≤t.hi.e)(h:hi-l2+1≤H)(hb:hi-lo+1+low≤H):(s.over t low).bd low H:=by
 have he:∀mode,gbd low H (qC (fun x y=>x.over y low mode) s t):=by
  intro mode x hx
  simp only[qC,List.mem_cons,List.not_mem_nil,or_false]at hx
  rcases hx with rfl|rfl|rfl|rfl
  ·exact ExV.over_bd hs.1 ht.1 h hb
  ·exact ExV.over_bd hs.1 ht.2 h hb
  ·exact ExV.over_bd hs.2 ht.1 h hb
  ·exact ExV.over_bd hs.2 ht.2 h hb
 exact⟨ZD (he 3) (by simp[qC]),QS (he 2) (by simp[qC])⟩
theorem ae3(s t:SpV)(low:Int)(h1:t.lo.m≠0)(h2:t.hi.m≠0)(hs:s.bd (-100000) 100000)(ht:t.bd (-100000) 100000)(hl: -100000≤low∧low≤100000):
  Con Tryz.prog 221 false [.ag [.v (.bool (s).lo.s),.sl (lim (s).lo.m).length (qg (lim (s).lo.m)),.v (.int .i64 (s).lo.e),.v (.bool (s).hi.s),.sl (lim (s).hi.m).length (qg (lim (s).hi.m)),.v (.int .i64 (s).hi.e)],.ag [.v (.bool (t).lo.s),.sl (lim (t).lo.m).length (qg (lim (t).lo.m)),.v (.int .i64 (t).lo.e),.v (.bool (t).hi.s),.sl (lim (t).hi.m).length (qg (lim (t).hi.m)),.v (.int .i64 (t).hi.e)],.v (.int .i64 low)] [] (isA (.ag [.v (.bool (s.over t low).lo.s),.sl (lim (s.over t low).lo.m).length (qg (lim (s.over t low).lo.m)),.v (.int .i64 (s.over t low).lo.e),.v (.bool (s.over t low).hi.s),.sl (lim (s.over t low).hi.m).length (qg (lim (s.over t low).hi.m)),.v (.int .i64 (s.over t low).hi.e)])):=by
 refine Con.frzA ?_
 have co:=fun mode=>ai4 s t low mode h1 h2 (SpV.bd.mono hs (by omega) (by omega)) (SpV.bd.mono ht (by omega) (by omega)) (by omega)
 have he:∀mode,gbd (-400000) 400000 (qC (fun x y=>x.over y low mode) s t):=by
  intro mode x hx
  have ht1:=ht.1.2.1
  have ht2:=ht.2.2.1
  simp only[qC,List.mem_cons,List.not_mem_nil,or_false]at hx
  rcases hx with rfl|rfl|rfl|rfl
  ·exact(ExV.over_bd (hi:=400000) hs.1 ht1 (by omega) (by omega)).mono (by omega) (by omega)
  ·exact(ExV.over_bd (hi:=400000) hs.1 ht2 (by omega) (by omega)).mono (by omega) (by omega)
  ·exact(ExV.over_bd (hi:=400000) hs.2 ht1 (by omega) (by omega)).mono (by omega) (by omega)
  ·exact(ExV.over_bd (hi:=400000) hs.2 ht2 (by omega) (by omega)).mono (by omega) (by omega)
 have c3:=co 3
 have c2:=co 2
 have e3:=he 3
 have e2:=he 2
 unfold SpV.over
 generalize hE3:qC (fun x y=>x.over y low 3) s t=E3 at*
 generalize hE2:qC (fun x y=>x.over y low 2) s t=E2 at*
 have l3:E3.length=4:=by rw[←hE3];rfl
 have l2:E2.length=4:=by rw[←hE2];rfl
 have cl:=aaH E3 (by omega) (by omega) e3
 have cm:=adL E2 (by omega) (by omega) e2
 rw[l3]at cl
 rw[l2]at cm
 refine Con.of_aw Tryz.func221 rfl Tryz.ntmps221 (by simp) (by simp) (by simp) (AW.seqLe (E:=[(3,.fp [.v (.bool s.lo.s),.sl (lim s.lo.m).length (qg (lim s.lo.m)),.v (.int .i64 s.lo.e),.v (.bool s.hi.s),.sl (lim s.hi.m).length (qg (lim s.hi.m)),.v (.int .i64 s.hi.e)] 0),(4,.fp [.v (.bool t.lo.s),.sl (lim t.lo.m).length (qg (lim t.lo.m)),.v (.int .i64 t.lo.e),.v (.bool t.hi.s),.sl (lim t.hi.m).length (qg (lim t.hi.m)),.v (.int .i64 t.hi.e)] 0),(5,.fp [.v (.int .i64 low)] 0),(6,.pt 0 0)]) (H:=[(0,.own 0 [.v (.bool false),.v (.slice none 0 0),.v (.int .i64 0),.v (.bool false),.v (.slice none 0 0),.v (.int .i64 0)])]) (W.sound ?_) (W.sound ?_))
 ·show @W Tryz.prog 16 ⟨_⟩ ⟨_⟩ _ _
  simp(disch:=omega)only[go_sem]
  exact(Le.frz 50000000 (z:=0) (ks:=[.v (.bool s.lo.s),.sl (lim s.lo.m).length (qg (lim s.lo.m)),.v (.int .i64 s.lo.e),.v (.bool s.hi.s),.sl (lim s.hi.m).length (qg (lim s.hi.m)),.v (.int .i64 s.hi.e)]) (by simp(disch:=omega)only[go_sem]) rfl (by simp(disch:=omega)only[go_sem])).trans ((Le.frz 60000000 (z:=0) (ks:=[.v (.bool t.lo.s),.sl (lim t.lo.m).length (qg (lim t.lo.m)),.v (.int .i64 t.lo.e),.v (.bool t.hi.s),.sl (lim t.hi.m).length (qg (lim t.hi.m)),.v (.int .i64 t.hi.e)]) (by simp(disch:=omega)only[go_sem]) rfl (by simp(disch:=omega)only[go_sem])).trans ((Le.frz 70000000 (z:=0) (ks:=[.v (.int .i64 low)]) (by simp(disch:=omega)only[go_sem]) rfl (by simp(disch:=omega)only[go_sem])).trans (Le.lst [(0,80000000)] _ _ rfl (by simp(disch:=omega)only[go_sem]) (by simp(disch:=omega)only[go_sem]))))
 show @W Tryz.prog 16 ⟨_⟩ ⟨fun x σ=>@qY _ _ _ ⟨_⟩ _ ⟨_⟩ x σ⟩ _ _
 simp(disch:=omega)only[go_sem]
 refine qa (c3) ?_
 simp(disch:=omega)only[go_sem]
 refine qa (cl) ?_
 simp(disch:=omega)only[go_sem]
 refine qa (c2) ?_
 simp(disch:=omega)only[go_sem]
 refine qa (cm) ?_
 simp(disch:=omega)only[go_sem]
 exact qn
def exN(k:Nat):ExV:=⟨false,k,0⟩
theorem aiB{k:Nat}(hk:k<2^63):(exN k).bd 0 64:=⟨fun _=>rfl,Int.le_refl _,by show(bl k:Int)+0≤64;have:bl k≤63:=qZ.2 hk;omega⟩
def SpV.divd(s:SpV)(k:Nat)(low:Int):SpV:=s.over ⟨exN k,exN k⟩ low
theorem aaV(s:SpV)(k:Nat)(low:Int)(h0:k≠0)(hk:k<2^63)(hs:s.bd (-100000) 100000)(hl: -100000≤low∧low≤100000):
  Con Tryz.prog 220 false [.ag [.v (.bool (s).lo.s),.sl (lim (s).lo.m).length (qg (lim (s).lo.m)),.v (.int .i64 (s).lo.e),.v (.bool (s).hi.s),.sl (lim (s).hi.m).length (qg (lim (s).hi.m)),.v (.int .i64 (s).hi.e)],.fp [.v (.bool (exN k).s),.sl (lim (exN k).m).length (qg (lim (exN k).m)),.v (.int .i64 (exN k).e)] 0,.fp [.v (.int .i64 low)] 0] [] (isA (.ag [.v (.bool (s.divd k low).lo.s),.sl (lim (s.divd k low).lo.m).length (qg (lim (s.divd k low).lo.m)),.v (.int .i64 (s.divd k low).lo.e),.v (.bool (s.divd k low).hi.s),.sl (lim (s.divd k low).hi.m).length (qg (lim (s.divd k low).hi.m)),.v (.int .i64 (s.divd k low).hi.e)])):=by
 refine Con.frzA ?_
 have hb:=aiB hk
 have co:=ae3 s ⟨exN k,exN k⟩ low h0 h0 hs ⟨hb.mono (by omega) (by omega),hb.mono (by omega) (by omega)⟩ hl
 change Con _ _ _ _ _ (isA (.ag [.v (.bool (s.divd k low).lo.s),.sl (lim (s.divd k low).lo.m).length (qg (lim (s.divd k low).lo.m)),.v (.int .i64 (s.divd k low).lo.e),.v (.bool (s.divd k low).hi.s),.sl (lim (s.divd k low).hi.m).length (qg (lim (s.divd k low).hi.m)),.v (.int .i64 (s.divd k low).hi.e)]))at co
 generalize s.divd k low=z at*
 dsimp only at co
 refine Con.of_w (rs:=[.cell 4 114]) Tryz.func220 rfl Tryz.ntmps220 rfl ?_
 simp(disch:=omega)only[go_sem]
 refine qa (co) ?_
 simp(disch:=omega)only[go_sem]
 exact qn
theorem SpV.out_bd{s:SpV}{lo hi low:Int}(hs:s.bd lo hi)(hl:lo≤low)(hh:low≤hi):(s.out low).bd lo (hi+1):=⟨ExV.rnd_bd hs.1 hl hh,ExV.rnd_bd hs.2 hl hh⟩
theorem SpV.fat_bd{s:SpV}{lo hi:Int}{y:ExV}(hs:s.bd lo hi)(hy:y.bd lo hi):(s.fat y).bd lo (hi+1):=⟨ExV.plus_bd hs.1 (ExV.neg_bd hy),ExV.plus_bd hs.2 hy⟩
theorem anN(s:SpV)(low:Int)(hs:s.bd (-400000) 400000)(hl: -400000≤low∧low≤400000):Con Tryz.prog 223 false [.ag [.v (.bool (s).lo.s),.sl (lim (s).lo.m).length (qg (lim (s).lo.m)),.v (.int .i64 (s).lo.e),.v (.bool (s).hi.s),.sl (lim (s).hi.m).length (qg (lim (s).hi.m)),.v (.int .i64 (s).hi.e)],.fp [.v (.int .i64 low)] 0] [] (isA (.ag [.v (.bool (s.out low).lo.s),.sl (lim (s.out low).lo.m).length (qg (lim (s.out low).lo.m)),.v (.int .i64 (s.out low).lo.e),.v (.bool (s.out low).hi.s),.sl (lim (s.out low).hi.m).length (qg (lim (s.out low).hi.m)),.v (.int .i64 (s.out low).hi.e)])):=by
 refine Con.frzA ?_
 refine Con.of_w (rs:=[.cell 3 114]) Tryz.func223 rfl Tryz.ntmps223 rfl ?_
 simp(disch:=omega)only[go_sem]
 refine qa (aiZ s low hs hl) ?_
 simp(disch:=omega)only[go_sem]
 exact qn
theorem JY(n:Nat)(l:List SpV)(low:Int)(hl:l.length≤1000)(hb:sbd (-400000) 400000 l)(hlo: -400000≤low∧low≤400000):Con Tryz.prog 148 false [.ag [.v (.int .i64 (n)),.sl (l).length (qj SpV.cs (l))],.v (.int .i64 low)] [] (isA (.ag [.v (.int .i64 (n)),.sl (l.map fun s=>s.out low).length (qj SpV.cs (l.map fun s=>s.out low))])):=by
 refine Con.frzA ?_
 have c:=V6 n l 223 [.fp [.v (.int .i64 low)] 0] (fun s=>s.out low) hl (fun x hx=>anN x low (hb x hx) hlo) (by simp(disch:=omega)only[go_sem]) (fun h=>rfl) (fun h=>rfl) (fun ks=>by simp(disch:=omega)only[go_sem]) (fun ρ=>rfl)
 generalize l.map (fun s=>s.out low)=L at*
 refine Con.of_aw Tryz.func148 rfl Tryz.ntmps148 (by simp) (by simp) (by simp) (AW.seqLe (E:=[(2,.fp [.v (.int .i64 n),.sl l.length (qj SpV.cs l)] 0),(3,.fp [.v (.int .i64 low)] 0),(4,.pt 0 0)]) (H:=[(0,.own 0 [.v (.int .i64 0),.v (.slice none 0 0)])]) (W.sound ?_) (W.sound ?_))
 ·show @W Tryz.prog 8 ⟨_⟩ ⟨_⟩ _ _
  simp(disch:=omega)only[go_sem]
  exact(Le.frz 40000000 (z:=0) (ks:=[.v (.int .i64 n),.sl l.length (qj SpV.cs l)]) (by simp(disch:=omega)only[go_sem]) rfl (by simp(disch:=omega)only[go_sem])).trans ((Le.frz 50000000 (z:=0) (ks:=[.v (.int .i64 low)]) (by simp(disch:=omega)only[go_sem]) rfl (by simp(disch:=omega)only[go_sem])).trans (Le.lst [(0,60000000)] _ _ rfl (by simp(disch:=omega)only[go_sem]) (by simp(disch:=omega)only[go_sem])))
 show @W Tryz.prog 8 ⟨_⟩ ⟨fun x σ=>@qY _ _ _ ⟨_⟩ _ ⟨_⟩ x σ⟩ _ _
 simp(disch:=omega)only[go_sem]
 refine qa (c) ?_
 simp(disch:=omega)only[go_sem]
 exact qn
theorem anS(s:SpV)(y:ExV)(hs:s.bd (-400000) 400000)(hy:y.bd (-400000) 400000):Con Tryz.prog 222 false [.ag [.v (.bool (s).lo.s),.sl (lim (s).lo.m).length (qg (lim (s).lo.m)),.v (.int .i64 (s).lo.e),.v (.bool (s).hi.s),.sl (lim (s).hi.m).length (qg (lim (s).hi.m)),.v (.int .i64 (s).hi.e)],.fp [.v (.bool y.s),.sl (lim y.m).length (qg (lim y.m)),.v (.int .i64 y.e)] 0] [] (isA (.ag [.v (.bool (s.fat y).lo.s),.sl (lim (s.fat y).lo.m).length (qg (lim (s.fat y).lo.m)),.v (.int .i64 (s.fat y).lo.e),.v (.bool (s.fat y).hi.s),.sl (lim (s.fat y).hi.m).length (qg (lim (s.fat y).hi.m)),.v (.int .i64 (s.fat y).hi.e)])):=by
 refine Con.frzA ?_
 refine Con.of_w (rs:=[.cell 3 114]) Tryz.func222 rfl Tryz.ntmps222 rfl ?_
 simp(disch:=omega)only[go_sem]
 refine qq rfl [⟨0,[],[]⟩,⟨1,[],[]⟩,⟨2,[1],[]⟩,⟨4,[1,2],[]⟩,⟨5,[1,2],[]⟩,⟨6,[1,2,5],[]⟩,⟨3,[5,6],[]⟩,⟨7,[],[]⟩,⟨8,[],[]⟩,⟨9,[],[]⟩] (by kernel_rfl) ?_
 simp(disch:=omega)only[go_sem]
 refine qa (Jj s.lo y hs.1 hy) ?_
 simp(disch:=omega)only[go_sem]
 refine qa (yP s.hi y hs.2 hy) ?_
 simp(disch:=omega)only[go_sem]
 exact qn (hp:=by simp(disch:=omega)only[go_sem,SpV.fat])
theorem adO(n:Nat)(l:List SpV)(y:ExV)(hl:l.length≤1000)(hb:sbd (-400000) 400000 l)(hy:y.bd (-400000) 400000):Con Tryz.prog 147 false [.ag [.v (.int .i64 (n)),.sl (l).length (qj SpV.cs (l))],.ag [.v (.bool (y).s),.sl (lim (y).m).length (qg (lim (y).m)),.v (.int .i64 (y).e)]] [] (isA (.ag [.v (.int .i64 (n)),.sl (l.map fun s=>s.fat y).length (qj SpV.cs (l.map fun s=>s.fat y))])):=by
 refine Con.frzA ?_
 have c:=V6 n l 222 [.fp [.v (.bool y.s),.sl (lim y.m).length (qg (lim y.m)),.v (.int .i64 y.e)] 0] (fun s=>s.fat y) hl (fun x hx=>anS x y (hb x hx) hy) (by simp(disch:=omega)only[go_sem]) (fun h=>rfl) (fun h=>rfl) (fun ks=>by simp(disch:=omega)only[go_sem]) (fun ρ=>rfl)
 generalize l.map (fun s=>s.fat y)=L at*
 refine Con.of_aw Tryz.func147 rfl Tryz.ntmps147 (by simp) (by simp) (by simp) (AW.seqLe (E:=[(2,.fp [.v (.int .i64 n),.sl l.length (qj SpV.cs l)] 0),(3,.fp [.v (.bool y.s),.sl (lim y.m).length (qg (lim y.m)),.v (.int .i64 y.e)] 0),(4,.pt 0 0)]) (H:=[(0,.own 0 [.v (.int .i64 0),.v (.slice none 0 0)])]) (W.sound ?_) (W.sound ?_))
 ·show @W Tryz.prog 8 ⟨_⟩ ⟨_⟩ _ _
  simp(disch:=omega)only[go_sem]
  exact(Le.frz 40000000 (z:=0) (ks:=[.v (.int .i64 n),.sl l.length (qj SpV.cs l)]) (by simp(disch:=omega)only[go_sem]) rfl (by simp(disch:=omega)only[go_sem])).trans ((Le.frz 50000000 (z:=0) (ks:=[.v (.bool y.s),.sl (lim y.m).length (qg (lim y.m)),.v (.int .i64 y.e)]) (by simp(disch:=omega)only[go_sem]) rfl (by simp(disch:=omega)only[go_sem])).trans (Le.lst [(0,60000000)] _ _ rfl (by simp(disch:=omega)only[go_sem]) (by simp(disch:=omega)only[go_sem])))
 show @W Tryz.prog 8 ⟨_⟩ ⟨fun x σ=>@qY _ _ _ ⟨_⟩ _ ⟨_⟩ x σ⟩ _ _
 simp(disch:=omega)only[go_sem]
 refine qa (c) ?_
 simp(disch:=omega)only[go_sem]
 exact qn
def yL(l l':List SpV):List SpV:=(List.range l.length).map fun i=>(l.getD i sp0).plus (l'.getD i sp0)
theorem aao{l l':List SpV}:(yL l l').length=l.length:=by simp[yL]
theorem anj{lo hi:Int}{l l':List SpV}(hl:l'.length=l.length)(h:sbd lo hi l)(h':sbd lo hi l'):sbd lo (hi+1) (yL l l'):=by
 intro x hx
 simp only[yL,List.mem_map,List.mem_range]at hx
 obtain⟨i,hi,rfl⟩:=hx
 exact SpV.plus_bd (zD h hi) (zD h' (by omega))
def fpT(l l':List SpV)(i:Nat):List SpV:=(List.range i).map fun i=>(l.getD i sp0).plus (l'.getD i sp0)
theorem aio{l l':List SpV}{i:Nat}:(fpT l l' i).length=i:=by simp[fpT]
theorem am0{l l':List SpV}{i:Nat}:fpT l l' (i+1)=fpT l l' i++[(l.getD i sp0).plus (l'.getD i sp0)]:=by simp[fpT,List.range_succ]
set_option maxRecDepth 100000 in
theorem aaT(n:Nat)(l l':List SpV)(hl:l.length≤1000)(hl':l'.length=l.length)(hb:sbd (-400000) 400000 l)(hb':sbd (-400000) 400000 l'):Con Tryz.prog 146 false [.ag [.v (.int .i64 (n)),.sl (l).length (qj SpV.cs (l))],.ag [.v (.int .i64 (n)),.sl (l').length (qj SpV.cs (l'))]] [] (isA (.ag [.v (.int .i64 (n)),.sl (yL l l').length (qj SpV.cs (yL l l'))])):=by
 refine Con.frzA ?_
 refine Con.of_aw Tryz.func146 rfl Tryz.ntmps146 (by simp) (by simp) (by simp) (W.sound ?_)
 show @W Tryz.prog 33 ⟨_⟩ ⟨fun x σ=>@qY _ _ _ ⟨_⟩ _ ⟨_⟩ x σ⟩ _ _
 simp(disch:=omega)only[go_sem]
 refine qi (fun i:Nat=>[(3,.pt 3 0),(4,.pt 2 0),(5,.pt 0 0),(12,.sl l.length (qj SpV.cs l)),(13,.v (.int .i64 l.length)),(14,.v (.int .i64 i))])
  (fun i=>[(0,.own 0 [.v (.int .i64 n),.rf 1 0 i]),(1,.own 6 (qj SpV.cs (fpT l l' i))),(2,.own 0 [.v (.int .i64 0),.v (.slice none 0 0)]),(3,.own 0 [.v (.int .i64 n),.sl l'.length (qj SpV.cs l')])]) (fun i=>i≤l.length) (fun i=>l.length-i) 0 (by omega)
  ((Le.ghostC 70000000 1 1 6 (zo:=0) (cs:=[.v (.int .i64 n),.v (.slice none 0 0)]) (by simp(disch:=omega)only[go_sem]) rfl (by simp(disch:=omega)only[go_sem])).trans (Le.lst [(0,70000000),(2,60000000),(3,50000000)] _ _ rfl (by simp(disch:=omega)only[go_sem]) (by simp(disch:=omega)only[go_sem,show fpT l l' 0=[] from rfl,jX,List.set_cons_succ,List.set_cons_zero]))) ?_
 intro i hi
 simp(disch:=omega)only[go_sem]
 refine qh (fun h1=>?_) (fun h1=>?_)
 ·have hi2:i<l.length:=by omega
  have hi3:i<l'.length:=by omega
  have hci:=z8 hi2
  have hcj:=z8 hi3
  have hcut:=zB (aio (l:=l) (l':=l') (i:=i))
  have hml:=aio (l:=l) (l':=l') (i:=i)
  have hs:=am0 (l:=l) (l':=l') (i:=i)
  have hx:=zD hb hi2
  have hy:=zD hb' hi3
  generalize l.getD i sp0=x at*
  generalize l'.getD i sp0=y at*
  simp(disch:=omega)only[go_sem,h1,hci]
  refine⟨by omega,by omega,?_⟩
  refine qq rfl [⟨0,[],[]⟩,⟨1,[],[]⟩,⟨2,[1],[]⟩,⟨3,[1,2],[]⟩,⟨4,[1,2],[]⟩,⟨5,[1,2,4],[]⟩,⟨6,[1,2],[]⟩,⟨7,[1,2],[]⟩,⟨8,[1],[]⟩,⟨9,[1],[]⟩,⟨10,[],[]⟩,⟨11,[],[]⟩,⟨12,[],[]⟩] (by kernel_rfl) ?_
  simp(disch:=omega)only[go_sem,hcj]
  refine⟨by omega,by omega,?_⟩
  refine qa (XK x y hx hy) ?_
  simp(disch:=omega)only[go_sem]
  simp(disch:=omega)only[go_sem,hcut,Zs]
  refine⟨⟨by rw[hml];exact Nat.le_refl _,by omega⟩,qe (i+1) [(1,310000000)] (by show i+1≤_;omega) (by show l.length-(i+1)<l.length-i;omega) rfl (by simp(disch:=omega)only[go_sem];try omega) (by simp(disch:=omega)only[go_sem,hs])⟩
 ·simp(disch:=omega)only[go_sem,h1]
  obtain rfl:i=l.length:=by omega
  have hll:(yL l l').length=l.length:=aao
  have hft:fpT l l' l.length=yL l l':=rfl
  rw[hft,hll]
  refine ql [(0,1)] [.own 6 (qj SpV.cs (yL l l'))] [] [.ag [.v (.int .i64 n),.rf 0 0 l.length]] rfl (by simp(disch:=omega)only[go_sem]) (by simp(disch:=omega)only[go_sem]) (by simp) (by simp) ?_
  show qD _ 6 _=_
  simp(disch:=omega)only[go_sem,qJ,zB hll]
theorem adP(n:Nat)(l:List SpV)(k:Nat)(low:Int)(hl:l.length≤1000)(hb:sbd (-100000) 100000 l)(h0:k≠0)(hk:k<2^63)(hlo: -100000≤low∧low≤100000):Con Tryz.prog 145 false [.ag [.v (.int .i64 (n)),.sl (l).length (qj SpV.cs (l))],.v (.int .i64 k),.v (.int .i64 low)] [] (isA (.ag [.v (.int .i64 (n)),.sl (l.map fun s=>s.divd k low).length (qj SpV.cs (l.map fun s=>s.divd k low))])):=by
 refine Con.frzA ?_
 have c:=V6 n l 220 [.fp [.v (.bool (exN k).s),.sl (lim (exN k).m).length (qg (lim (exN k).m)),.v (.int .i64 (exN k).e)] 0,.fp [.v (.int .i64 low)] 0] (fun s=>s.divd k low) hl (fun x hx=>aaV x k low h0 hk (hb x hx) hlo) (by simp(disch:=omega)only[go_sem]) (fun h=>rfl) (fun h=>rfl) (fun ks=>by simp(disch:=omega)only[go_sem]) (fun ρ=>rfl)
 generalize l.map (fun s=>s.divd k low)=L at*
 refine Con.of_aw Tryz.func145 rfl Tryz.ntmps145 (by simp) (by simp) (by simp)
  (AW.seqLe (E:=[(1,.v (.int .i64 k)),(3,.pt 1 0),(5,.fp [.v (.int .i64 low)] 0),(6,.pt 0 0)]) (H:=[(0,.own 0 [.v (.int .i64 0),.v (.slice none 0 0)]),(1,.own 0 [.v (.int .i64 n),.sl l.length (qj SpV.cs l)])]) (W.sound ?_)
   (AW.seqLe (E:=[(3,.pt 1 0),(5,.fp [.v (.int .i64 low)] 0),(6,.pt 0 0),(7,.fp [.v (.bool (exN k).s),.sl (lim (exN k).m).length (qg (lim (exN k).m)),.v (.int .i64 (exN k).e)] 0)]) (H:=[(0,.own 0 [.v (.int .i64 0),.v (.slice none 0 0)]),(1,.own 0 [.v (.int .i64 n),.sl l.length (qj SpV.cs l)])]) (W.sound ?_) (W.sound ?_)))
 ·show @W Tryz.prog 14 ⟨_⟩ ⟨_⟩ _ _
  simp(disch:=omega)only[go_sem]
  exact(Le.frz 70000000 (z:=0) (ks:=[.v (.int .i64 low)]) (by simp(disch:=omega)only[go_sem]) rfl (by simp(disch:=omega)only[go_sem])).trans (Le.lst [(0,80000000),(1,50000000)] _ _ rfl (by simp(disch:=omega)only[go_sem]) (by simp(disch:=omega)only[go_sem]))
 ·show @W Tryz.prog 14 ⟨_⟩ ⟨_⟩ _ _
  simp(disch:=omega)only[go_sem]
  refine qa (z7 k hk) ?_
  simp(disch:=omega)only[go_sem]
  exact(Le.frz 90000000 (z:=0) (ks:=[.v (.bool (exN k).s),.sl (lim (exN k).m).length (qg (lim (exN k).m)),.v (.int .i64 (exN k).e)]) (by simp(disch:=omega)only[go_sem,exN]) rfl (by simp(disch:=omega)only[go_sem])).trans (Le.lst [] _ _ rfl (by simp(disch:=omega)only[go_sem]) (by simp(disch:=omega)only[go_sem]))
 show @W Tryz.prog 14 ⟨_⟩ ⟨fun x σ=>@qY _ _ _ ⟨_⟩ _ ⟨_⟩ x σ⟩ _ _
 simp(disch:=omega)only[go_sem]
 refine qa (c) ?_
 simp(disch:=omega)only[go_sem]
 exact qn
end Go.Ab
namespace Go.Ab
open Go Go.Proofs
theorem aaD(l:List ExV)(h0:0<l.length)(hl:l.length≤1000)(hb:gbd (-400000) 400000 l):Con Tryz.prog 154 false [.rf 10000000 0 l.length,.fn 110 []] [.own 3 (qj ExV.cs l)] (fun r hs bs=>r=.ag [.v (.bool (za l).s),.sl (lim (za l).m).length (qg (lim (za l).m)),.v (.int .i64 (za l).e)]∧hs=[]∧bs=[.own 3 (qj ExV.cs l)]):=by
 have hc0:=zM (l:=l) (i:=0) h0
 have q1:decide ((l.length:Int)<1)=false:=decide_eq_false (by omega)
 refine Con.of_aw Tryz.func154 rfl Tryz.ntmps154 (by simp) (by simp) (by simp) (W.sound ?_)
 show @W Tryz.prog 33 ⟨_⟩ ⟨fun x σ=>@qY _ _ _ ⟨_⟩ _ ⟨_⟩ x σ⟩ _ _
 simp(disch:=omega)only[go_sem,q1,hc0]
 refine⟨by omega,by omega,?_⟩
 refine qi (fun x:Nat×ExV=>[(0,.rf 10000000 0 l.length),(1,.fn 110 []),(4,.pt 1 0),(5,.pt 0 0),(6,.v (.int .i64 x.1))])
  (fun x=>[(0,.own 0 [.v (.bool x.2.s),.sl (lim x.2.m).length (qg (lim x.2.m)),.v (.int .i64 x.2.e)]),(1,.own 0 [.v (.bool false),.v (.slice none 0 0),.v (.int .i64 0)]),(10000000,.own 3 (qj ExV.cs l))])
  (fun x=>1≤x.1∧x.1≤l.length∧x.2=((l.take x.1).drop 1).foldl qT (l.getD 0 ex0)) (fun x=>l.length-x.1) (1,l.getD 0 ex0) ⟨by omega,by omega,by simp⟩
  (Le.lst [(0,70000000),(1,60000000)] _ _ rfl (by simp(disch:=omega)only[go_sem]) (by simp(disch:=omega)only[go_sem])) ?_
 rintro⟨i,m⟩ ⟨h1,hi,hm⟩
 dsimp only at h1 hi hm ⊢
 have hmb:m.bd (-400000) 400000:=by
  rw[hm];exact Z8 QT _ _ (zE hb h0) (fun x hx=>hb x (List.mem_of_mem_take (List.mem_of_mem_drop hx)))
 simp(disch:=omega)only[go_sem]
 refine qh (fun h2=>?_) (fun h2=>?_)
 ·have hi2:i<l.length:=by omega
  have hci:=zM (l:=l) (i:=i) hi2
  have hs:qT m (l.getD i ex0)=((l.take (i+1)).drop 1).foldl qT (l.getD 0 ex0):=by
   rw[yA h1 hi2,List.foldl_append,←hm];rfl
  simp(disch:=omega)only[go_sem,h2]
  refine qq rfl [⟨0,[],[]⟩,⟨1,[],[]⟩,⟨2,[],[]⟩,⟨3,[],[]⟩,⟨4,[],[]⟩,⟨5,[4],[]⟩,⟨6,[],[]⟩,⟨7,[],[]⟩] (by kernel_rfl) ?_
  have hg:qz Tryz.prog 110=True:=by simp(disch:=omega)only[go_sem]
  simp(disch:=omega)only[go_sem,hci,hg]
  refine⟨by omega,by omega,?_⟩
  refine qm (JZ (l.getD i ex0) m (zE hb hi2) hmb) ?_
  simp(disch:=omega)only[go_sem]
  generalize l.getD i ex0=y at*
  refine qh (fun h3=>?_) (fun h3=>?_)
  ·simp(disch:=omega)only[go_sem,h3,hci]
   have:qT m y=y:=if_pos h3
   refine⟨by omega,by omega,qe (i+1,y) [] ⟨by show 1≤i+1;omega,by show i+1≤_;omega,this▸hs⟩ (by show l.length-(i+1)<l.length-i;omega) rfl (by simp(disch:=omega)only[go_sem];try omega) (by simp(disch:=omega)only[go_sem])⟩
  ·simp(disch:=omega)only[go_sem,h3]
   have:qT m y=m:=if_neg h3
   refine qe (i+1,m) [] ⟨by show 1≤i+1;omega,by show i+1≤_;omega,this▸hs⟩ (by show l.length-(i+1)<l.length-i;omega) rfl (by simp(disch:=omega)only[go_sem];try omega) (by simp(disch:=omega)only[go_sem])
 ·simp(disch:=omega)only[go_sem,h2]
  have:i=l.length:=by omega
  subst this
  rw[List.take_length]at hm
  subst hm
  refine ql [] [] [.own 3 (qj ExV.cs l)] [.ag [.v (.bool (za l).s),.sl (lim (za l).m).length (qg (lim (za l).m)),.v (.int .i64 (za l).e)]] rfl (by simp(disch:=omega)only[go_sem,za]) (by simp(disch:=omega)only[go_sem]) (by simp) (by simp) ⟨rfl,rfl,rfl⟩
theorem aaC(l:List ExV)(h0:0<l.length)(hl:l.length≤1000)(hb:gbd (-400000) 400000 l):Con Tryz.prog 73 false [.rf 10000000 0 l.length] [.own 3 (qj ExV.cs l)] (fun r hs bs=>r=.ag [.v (.bool (za l).s),.sl (lim (za l).m).length (qg (lim (za l).m)),.v (.int .i64 (za l).e)]∧hs=[]∧bs=[.own 3 (qj ExV.cs l)]):=by
 refine Con.of_aw Tryz.func73 rfl Tryz.ntmps73 (by simp) (by simp) (by simp) (W.sound ?_)
 show @W Tryz.prog 5 ⟨_⟩ ⟨fun x σ=>@qY _ _ _ ⟨_⟩ _ ⟨_⟩ x σ⟩ _ _
 simp(disch:=omega)only[go_sem]
 refine zl false [10000000] (aaD l h0 hl hb) (by simp(disch:=omega)only[go_sem]) (by simp(disch:=omega)only[go_sem]) rfl (q7 (z:=3) (cs:=qj ExV.cs l) (by simp(disch:=omega)only[go_sem]) (by simp(disch:=omega)only[go_sem])) (by intro n hn;exact⟨_,List.mem_cons_self ..,by rw[List.mem_singleton.1 hn];rfl⟩) ?_
 rintro r hs bs ⟨rfl,rfl,rfl⟩-
 refine⟨by simp[qB],?_⟩
 simp(disch:=omega)only[go_sem]
 refine ql [] [] [.own 3 (qj ExV.cs l)] [.ag [.v (.bool (za l).s),.sl (lim (za l).m).length (qg (lim (za l).m)),.v (.int .i64 (za l).e)]] rfl (by simp(disch:=omega)only[go_sem]) (by simp(disch:=omega)only[go_sem]) (by simp) (by simp) ⟨rfl,rfl,rfl⟩
def aa2(n:Nat)(l:List ExV)(j k:Nat):ExV:=(List.range k).foldl (fun s i=>s.plus (l.getD (i*n+j) ex0).abs) ex0
theorem YW(n:Nat)(l:List ExV)(j k:Nat):aa2 n l j (k+1)=(aa2 n l j k).plus (l.getD (k*n+j) ex0).abs:=by
 unfold aa2;rw[List.range_succ,List.foldl_append,List.foldl_cons,List.foldl_nil]
theorem acE{lo hi:Int}{n:Nat}{l:List ExV}{j k:Nat}(hj:j<n)(hk:k≤n)(hl:l.length=n*n)(hb:gbd lo hi l)(h0:lo≤0∧0≤hi):(aa2 n l j k).bd lo (hi+k):=
 adE _ h0 k fun t ht=>ExV.abs_bd (zE hb (by rw[hl];exact q8 (by omega) hj))
def qR(n:Nat)(l:List ExV)(k:Nat):ExV:=(List.range k).foldl (fun s j=>za [s,aa2 n l j n]) ex0
theorem QR(n:Nat)(l:List ExV)(k:Nat):qR n l (k+1)=za [qR n l k,aa2 n l k n]:=by
 unfold qR;rw[List.range_succ,List.foldl_append,List.foldl_cons,List.foldl_nil]
theorem jh{lo hi:Int}{n:Nat}{l:List ExV}(hl:l.length=n*n)(hb:gbd lo hi l)(h0:lo≤0∧0≤hi):∀k,k≤n→(qR n l k).bd lo (hi+n)
 |0,_=>YC h0.1 (by omega)
 |k+1,h=>by
  rw[QR]
  refine QS (fun x hx=>?_) (by simp)
  simp only[List.mem_cons,List.not_mem_nil,or_false]at hx
  rcases hx with rfl|rfl
  ·exact jh hl hb h0 k (by omega)
  ·exact acE (by omega) (Nat.le_refl _) hl hb h0
set_option maxRecDepth 100000 in
theorem JX(n:Nat)(l:List ExV)(hn:n≤4)(hl:l.length=n*n)(hb:gbd (-390000) 390000 l):Con Tryz.prog 76 false [.ag [.v (.int .i64 (n)),.sl (l).length (qj ExV.cs (l))]] [] (isA (.ag [.v (.bool (qR n l n).s),.sl (lim (qR n l n).m).length (qg (lim (qR n l n).m)),.v (.int .i64 (qR n l n).e)])):=by
 refine Con.frzA ?_
 have hq:=jr hn
 refine Con.of_aw Tryz.func76 rfl Tryz.ntmps76 (by simp) (by simp) (by simp) (AW.seqLe (E:=[(1,.fp [.v (.int .i64 n),.sl l.length (qj ExV.cs l)] 0),(2,.pt 0 0)]) (H:=[(0,.own 0 [.v (.bool false),.v (.slice none 0 0),.v (.int .i64 0)])]) (W.sound ?_) (W.sound ?_))
 ·show @W Tryz.prog 31 ⟨_⟩ ⟨_⟩ _ _
  simp(disch:=omega)only[go_sem]
  exact(Le.frz 30000000 (z:=0) (ks:=[.v (.int .i64 n),.sl l.length (qj ExV.cs l)]) (by simp(disch:=omega)only[go_sem]) rfl (by simp(disch:=omega)only[go_sem])).trans (Le.lst [(0,40000000)] _ _ rfl (by simp(disch:=omega)only[go_sem]) (by simp(disch:=omega)only[go_sem]))
 show @W Tryz.prog 31 ⟨_⟩ ⟨fun x σ=>@qY _ _ _ ⟨_⟩ _ ⟨_⟩ x σ⟩ _ _
 simp(disch:=omega)only[go_sem]
 refine qi (fun j:Nat=>[(1,.fp [.v (.int .i64 n),.sl l.length (qj ExV.cs l)] 0),(2,.pt 0 0),(3,.pt 1 0),(8,.v (.int .i64 n)),(9,.v (.int .i64 j))])
  (fun j=>[(0,.own 0 [.v (.bool false),.v (.slice none 0 0),.v (.int .i64 0)]),(1,.own 0 [.v (.bool (qR n l j).s),.sl (lim (qR n l j).m).length (qg (lim (qR n l j).m)),.v (.int .i64 (qR n l j).e)])]) (fun j=>j≤n) (fun j=>n-j) 0 (by omega)
  ((Le.nilC 50000000 1 (zo:=0) (cs:=[.v (.bool false),.v (.slice none 0 0),.v (.int .i64 0)]) (by simp(disch:=omega)only[go_sem]) rfl).trans (Le.lst [(1,50000000)] _ _ rfl (by simp(disch:=omega)only[go_sem]) (by simp(disch:=omega)only[go_sem,List.set_cons_succ,List.set_cons_zero,show qR n l 0=ex0 from rfl,ex0,qr]))) ?_
 intro j hj
 have hN:=jh hl hb (by omega) j hj
 have hNs:=QR n l j
 generalize hNN:qR n l j=A at*
 simp(disch:=omega)only[go_sem]
 refine qh (fun h1=>?_) (fun h1=>?_)
 ·simp(disch:=omega)only[go_sem,h1]
  refine qi (fun k:Nat=>[(1,.fp [.v (.int .i64 n),.sl l.length (qj ExV.cs l)] 0),(2,.pt 0 0),(3,.pt 1 0),(4,.v (.int .i64 j)),(5,.pt 2 0),(8,.v (.int .i64 n)),(9,.v (.int .i64 j)),(13,.v (.int .i64 n)),(14,.v (.int .i64 k))])
   (fun k=>[(0,.own 0 [.v (.bool false),.v (.slice none 0 0),.v (.int .i64 0)]),(1,.own 0 [.v (.bool A.s),.sl (lim A.m).length (qg (lim A.m)),.v (.int .i64 A.e)]),(2,.own 0 [.v (.bool (aa2 n l j k).s),.sl (lim (aa2 n l j k).m).length (qg (lim (aa2 n l j k).m)),.v (.int .i64 (aa2 n l j k).e)])]) (fun k=>k≤n) (fun k=>n-k) 0 (by omega)
   ((Le.nilC 70000000 1 (zo:=0) (cs:=[.v (.bool false),.v (.slice none 0 0),.v (.int .i64 0)]) (by simp(disch:=omega)only[go_sem]) rfl).trans (Le.lst [(2,70000000)] _ _ rfl (by simp(disch:=omega)only[go_sem]) (by simp(disch:=omega)only[go_sem,List.set_cons_succ,List.set_cons_zero,show aa2 n l j 0=ex0 from rfl,ex0,qr]))) ?_
  intro k hk
  have hC:=acE (k:=k) (show j<n by omega) hk hl hb (by omega)
  have hCs:=YW n l j k
  generalize hCC:aa2 n l j k=D at*
  simp(disch:=omega)only[go_sem]
  refine qh (fun h2=>?_) (fun h2=>?_)
  ·have hx:=q8 (show k<n by omega) (show j<n by omega)
   have c1:=ajB n l k j (by omega) (by omega) (by omega) (by omega) (by omega)
   have b1:=zE hb (show k*n+j<l.length by omega)
   generalize l.getD (k*n+j) ex0=x at*
   simp(disch:=omega)only[go_sem,h2]
   refine qq rfl [⟨0,[],[]⟩,⟨1,[0],[]⟩,⟨2,[0,1],[]⟩,⟨3,[0,1],[]⟩,⟨4,[0],[]⟩,⟨5,[0],[]⟩,⟨6,[],[]⟩,⟨7,[],[]⟩] (by kernel_rfl) ?_
   simp(disch:=omega)only[go_sem]
   refine qa (c1) ?_
   simp(disch:=omega)only[go_sem]
   refine qa (V9 x) ?_
   simp(disch:=omega)only[go_sem]
   refine qa (yP D x.abs (hC.mono (by omega) (by omega)) (ExV.abs_bd (b1.mono (by omega) (by omega)))) ?_
   simp(disch:=omega)only[go_sem]
   exact qe (k+1) [] (by show k+1≤_;omega) (by show n-(k+1)<n-k;omega) rfl (by simp(disch:=omega)only[go_sem];try omega) (by simp(disch:=omega)only[go_sem,hCs])
  ·obtain rfl:n=k:=by omega
   rw[hCC]at hNs
   simp(disch:=omega)only[go_sem,h2]
   have hrow:([.v (.bool A.s),.sl (lim A.m).length (qg (lim A.m)),.v (.int .i64 A.e),.v (.bool D.s),.sl (lim D.m).length (qg (lim D.m)),.v (.int .i64 D.e)]:List AV)=qj ExV.cs [A,D]:=rfl
   rw[hrow]
   refine zl false [290000000] (aaC [A,D] (by simp) (by simp) (fun x hx=>?_)) (by simp(disch:=omega)only[go_sem]) (by simp(disch:=omega)only[go_sem]) rfl (q7 (z:=3) (cs:=qj ExV.cs [A,D]) (by simp(disch:=omega)only[go_sem]) (by simp(disch:=omega)only[go_sem])) (by intro n hn;exact⟨_,List.mem_cons_self ..,by rw[List.mem_singleton.1 hn];rfl⟩) ?_
   ·simp only[List.mem_cons,List.not_mem_nil,or_false]at hx
    rcases hx with rfl|rfl
    ·exact hN.mono (by omega) (by omega)
    ·exact hC.mono (by omega) (by omega)
   rintro r hs bs ⟨rfl,rfl,rfl⟩-
   refine⟨by simp[qB],?_⟩
   simp(disch:=omega)only[go_sem]
   exact qe (j+1) [] (by show j+1≤_;omega) (by show n-(j+1)<n-j;omega) rfl (by simp(disch:=omega)only[go_sem];try omega) (by simp(disch:=omega)only[go_sem,hNs])
 ·simp(disch:=omega)only[go_sem,h1]
  obtain rfl:n=j:=by omega
  rw[hNN]
  exact qn
end Go.Ab
namespace Go.Ab
open Go Go.Proofs
def ExV.can(x:ExV):ExV:=⟨oS x.s x.m,oM x.m,oE x.m x.e⟩
def ExV.fit(x:ExV):Bool:=Jd x.m x.e
def SpV.can(s:SpV):SpV:=⟨s.lo.can,s.hi.can⟩
def SpV.fit(s:SpV):Bool:=s.lo.fit&&s.hi.fit
theorem V7(x:ExV)(hx:x.bd (-400000) 400000):Con Tryz.prog 123 false [.ag [.v (.bool (x).s),.sl (lim (x).m).length (qg (lim (x).m)),.v (.int .i64 (x).e)]] [] (isA (if x.fit=true then .tu [.ag [.v (.bool (x.can).s),.sl (lim (x.can).m).length (qg (lim (x.can).m)),.v (.int .i64 (x.can).e)],.v (.bool true)]else .tu [.ag [.v (.bool (false)),.sl (lim (0)).length (qg (lim (0))),.v (.int .i64 (0))],.v (.bool false)])):=by
 obtain⟨a1,a2,a3⟩:=hx
 exact atb x.s x.m x.e (by omega) (by omega)
set_option maxRecDepth 100000 in
theorem ajw(l:List ExV)(hl:l.length≤1000)(hb:gbd (-400000) 400000 l):Con Tryz.prog 197 false [.sl l.length (qj ExV.cs l)] []
  (isA (if l.all ExV.fit=true then .tu [.sl l.length (qj ExV.cs (l.map ExV.can)),.v (.bool true)]else .tu [.sl 0 [],.v (.bool false)])):=by
 refine Con.frzA ?_
 refine Con.of_aw Tryz.func197 rfl Tryz.ntmps197 (by simp) (by simp) (by simp) (W.sound ?_)
 show @W Tryz.prog 28 ⟨_⟩ ⟨fun x σ=>@qY _ _ _ ⟨_⟩ _ ⟨_⟩ x σ⟩ _ _
 simp(disch:=omega)only[go_sem]
 refine qi (fun i:Nat=>[(2,.v (.slice none 0 0)),(3,.v (.bool false)),(4,.rf 1 0 i),(9,.sl l.length (qj ExV.cs l)),(10,.v (.int .i64 l.length)),(11,.v (.int .i64 i))])
  (fun i=>[(1,.own 3 (qj ExV.cs (mpT l ExV.can i)))]) (fun i=>i≤l.length∧∀x∈l.take i,x.fit=true) (fun i=>l.length-i) 0 ⟨by omega,by simp⟩
  ((Le.ghost 4 1 3 (by simp(disch:=omega)only[go_sem]) (by simp(disch:=omega)only[go_sem])).trans (Le.lst [] _ _ rfl (by simp(disch:=omega)only[go_sem]) (by simp(disch:=omega)only[go_sem,yr,Qb]))) ?_
 rintro i ⟨hi,hf⟩
 simp(disch:=omega)only[go_sem]
 refine qh (fun h1=>?_) (fun h1=>?_)
 ·have hi2:i<l.length:=by omega
  have hci:=zM hi2
  have hcut:=zp (qW (F:=ExV.can) hi)
  have hml:=qW (F:=ExV.can) hi
  have hs:=zK (F:=ExV.can) ex0 hi2
  have hx:=zE hb hi2
  have hmem:l.getD i ex0∈l:=by rw[List.getD_eq_getElem?_getD,List.getElem?_eq_getElem hi2];exact List.getElem_mem _
  have htk:l.take (i+1)=l.take i++[l.getD i ex0]:=by
   rw[List.take_add_one,List.getElem?_eq_getElem hi2,List.getD_eq_getElem?_getD,List.getElem?_eq_getElem hi2];rfl
  generalize l.getD i ex0=x at*
  have cd:=V7 x hx
  simp(disch:=omega)only[go_sem,h1,hci]
  refine⟨by omega,by omega,?_⟩
  cases hft:x.fit
  ·have hall:l.all ExV.fit=false:=by rw[List.all_eq_false];exact⟨x,hmem,by rw[hft];simp⟩
   rw[hft,if_neg (by simp)]at cd
   rw[hall,if_neg (by simp)]
   refine qa (cd) ?_
   simp(disch:=omega)only[go_sem]
   exact qn
  ·rw[hft,if_pos rfl]at cd
   refine qa (cd) ?_
   simp(disch:=omega)only[go_sem]
   simp(disch:=omega)only[go_sem,hcut,QY]
   refine⟨⟨by rw[hml];exact Nat.le_refl _,by omega⟩,qe (i+1) [(1,270000000)] ⟨by show i+1≤_;omega,fun y hy=>?_⟩ (by show l.length-(i+1)<l.length-i;omega) rfl (by simp(disch:=omega)only[go_sem];try omega) (by simp(disch:=omega)only[go_sem,hs])⟩
   rw[htk]at hy
   rcases List.mem_append.1 hy with h|h
   ·exact hf y h
   ·rw[List.mem_singleton.1 h];exact hft
 ·simp(disch:=omega)only[go_sem,h1]
  obtain rfl:i=l.length:=by omega
  rw[List.take_length]at hf
  have hall:l.all ExV.fit=true:=List.all_eq_true.2 hf
  rw[hall,if_pos rfl]
  refine ql [(0,1)] [.own 3 (qj ExV.cs (mpT l ExV.can l.length))] [] [.rf 0 0 l.length,.v (.bool true)] rfl (by simp(disch:=omega)only[go_sem]) (by simp(disch:=omega)only[go_sem]) (by simp) (by simp) ?_
  show qD _ 6 _=_
  simp(disch:=omega)only[go_sem,X9,qJ,ja,zp (l:=l.map ExV.can) (k:=l.length) (List.length_map ..)]
theorem as9(n:Nat)(l:List ExV)(hl:l.length≤1000)(hb:gbd (-400000) 400000 l):Con Tryz.prog 120 false [.ag [.v (.int .i64 (n)),.sl (l).length (qj ExV.cs (l))]] []
  (isA (if l.all ExV.fit=true then .tu [.ag [.v (.int .i64 n),.sl l.length (qj ExV.cs (l.map ExV.can))],.v (.bool true)]else .tu [.ag [.v (.int .i64 0),.sl 0 []],.v (.bool false)])):=by
 refine Con.frzA ?_
 have cd:=ajw l hl hb
 generalize l.map ExV.can=L at*
 cases hf:l.all ExV.fit
 ·rw[hf,if_neg (by simp)]at cd
  rw[if_neg (by simp)]
  refine Con.of_w (rs:=[.cell 2 25,.tmp 3]) Tryz.func120 rfl Tryz.ntmps120 rfl ?_
  simp(disch:=omega)only[go_sem]
  refine qa (cd) ?_
  simp(disch:=omega)only[go_sem]
  exact qn
 ·rw[hf,if_pos rfl]at cd
  rw[if_pos rfl]
  refine Con.of_w (rs:=[.cell 2 25,.tmp 3]) Tryz.func120 rfl Tryz.ntmps120 rfl ?_
  simp(disch:=omega)only[go_sem]
  refine qa (cd) ?_
  simp(disch:=omega)only[go_sem]
  exact qn
theorem ai0(s:SpV)(hs:s.bd (-400000) 400000):Con Tryz.prog 149 false [.ag [.v (.bool (s).lo.s),.sl (lim (s).lo.m).length (qg (lim (s).lo.m)),.v (.int .i64 (s).lo.e),.v (.bool (s).hi.s),.sl (lim (s).hi.m).length (qg (lim (s).hi.m)),.v (.int .i64 (s).hi.e)]] []
  (isA (if s.fit=true then .tu [.ag [.v (.bool (s.can).lo.s),.sl (lim (s.can).lo.m).length (qg (lim (s.can).lo.m)),.v (.int .i64 (s.can).lo.e),.v (.bool (s.can).hi.s),.sl (lim (s.can).hi.m).length (qg (lim (s.can).hi.m)),.v (.int .i64 (s.can).hi.e)],.v (.bool true)]else .tu [.ag [.v (.bool (sp0).lo.s),.sl (lim (sp0).lo.m).length (qg (lim (sp0).lo.m)),.v (.int .i64 (sp0).lo.e),.v (.bool (sp0).hi.s),.sl (lim (sp0).hi.m).length (qg (lim (sp0).hi.m)),.v (.int .i64 (sp0).hi.e)],.v (.bool false)])):=by
 refine Con.frzA ?_
 have c1:=V7 s.lo hs.1
 have c2:=V7 s.hi hs.2
 unfold SpV.fit
 cases h1:s.lo.fit<;>cases h2:s.hi.fit
 ·rw[h1,if_neg (by simp)]at c1
  rw[h2,if_neg (by simp)]at c2
  rw[if_neg (by simp)]
  refine Con.of_w (rs:=[.cell 2 167,.tmp 3]) Tryz.func149 rfl Tryz.ntmps149 rfl ?_
  simp(disch:=omega)only[go_sem]
  refine qa (c1) ?_
  simp(disch:=omega)only[go_sem]
  refine qa (c2) ?_
  simp(disch:=omega)only[go_sem]
  exact qn (hp:=by simp(disch:=omega)only[go_sem,sp0,ex0,qr,List.length_nil,yt])
 ·rw[h1,if_neg (by simp)]at c1
  rw[h2,if_pos rfl]at c2
  rw[if_neg (by simp)]
  refine Con.of_w (rs:=[.cell 2 167,.tmp 3]) Tryz.func149 rfl Tryz.ntmps149 rfl ?_
  simp(disch:=omega)only[go_sem]
  refine qa (c1) ?_
  simp(disch:=omega)only[go_sem]
  refine qa (c2) ?_
  simp(disch:=omega)only[go_sem]
  exact qn (hp:=by simp(disch:=omega)only[go_sem,sp0,ex0,qr,List.length_nil,yt])
 ·rw[h1,if_pos rfl]at c1
  rw[h2,if_neg (by simp)]at c2
  rw[if_neg (by simp)]
  refine Con.of_w (rs:=[.cell 2 167,.tmp 3]) Tryz.func149 rfl Tryz.ntmps149 rfl ?_
  simp(disch:=omega)only[go_sem]
  refine qa (c1) ?_
  simp(disch:=omega)only[go_sem]
  refine qa (c2) ?_
  simp(disch:=omega)only[go_sem]
  exact qn (hp:=by simp(disch:=omega)only[go_sem,sp0,ex0,qr,List.length_nil,yt])
 ·rw[h1,if_pos rfl]at c1
  rw[h2,if_pos rfl]at c2
  rw[if_pos (by rfl)]
  refine Con.of_w (rs:=[.cell 2 167,.tmp 3]) Tryz.func149 rfl Tryz.ntmps149 rfl ?_
  simp(disch:=omega)only[go_sem]
  refine qa (c1) ?_
  simp(disch:=omega)only[go_sem]
  refine qa (c2) ?_
  simp(disch:=omega)only[go_sem]
  exact qn (hp:=by simp(disch:=omega)only[go_sem,SpV.can])
set_option maxRecDepth 100000 in
theorem ajp(n:Nat)(l:List SpV)(hl:l.length≤1000)(hb:sbd (-400000) 400000 l):Con Tryz.prog 66 false [.ag [.v (.int .i64 (n)),.sl (l).length (qj SpV.cs (l))]] []
  (isA (if l.all SpV.fit=true then .tu [.ag [.v (.int .i64 n),.sl l.length (qj SpV.cs (l.map SpV.can))],.v (.bool true)]else .tu [.ag [.v (.int .i64 0),.sl 0 []],.v (.bool false)])):=by
 refine Con.frzA ?_
 refine Con.of_aw Tryz.func66 rfl Tryz.ntmps66 (by simp) (by simp) (by simp) (W.sound ?_)
 show @W Tryz.prog 35 ⟨_⟩ ⟨fun x σ=>@qY _ _ _ ⟨_⟩ _ ⟨_⟩ x σ⟩ _ _
 simp(disch:=omega)only[go_sem]
 refine qi (fun i:Nat=>[(2,.pt 2 0),(3,.v (.bool false)),(4,.pt 0 0),(13,.sl l.length (qj SpV.cs l)),(14,.v (.int .i64 l.length)),(15,.v (.int .i64 i))])
  (fun i=>[(0,.own 0 [.v (.int .i64 n),.rf 1 0 i]),(1,.own 6 (qj SpV.cs (mpT l SpV.can i))),(2,.own 0 [.v (.int .i64 0),.v (.slice none 0 0)])]) (fun i=>i≤l.length∧∀x∈l.take i,x.fit=true) (fun i=>l.length-i) 0 ⟨by omega,by simp⟩
  ((Le.ghostC 60000000 1 1 6 (zo:=0) (cs:=[.v (.int .i64 n),.v (.slice none 0 0)]) (by simp(disch:=omega)only[go_sem]) rfl (by simp(disch:=omega)only[go_sem])).trans (Le.lst [(0,60000000),(2,40000000)] _ _ rfl (by simp(disch:=omega)only[go_sem]) (by simp(disch:=omega)only[go_sem,yr,jX,List.set_cons_succ,List.set_cons_zero]))) ?_
 rintro i ⟨hi,hf⟩
 simp(disch:=omega)only[go_sem]
 refine qh (fun h1=>?_) (fun h1=>?_)
 ·have hi2:i<l.length:=by omega
  have hci:=z8 hi2
  have hcut:=zB (qW (F:=SpV.can) hi)
  have hml:=qW (F:=SpV.can) hi
  have hs:=zK (F:=SpV.can) sp0 hi2
  have hx:=zD hb hi2
  have hmem:l.getD i sp0∈l:=by rw[List.getD_eq_getElem?_getD,List.getElem?_eq_getElem hi2];exact List.getElem_mem _
  have htk:l.take (i+1)=l.take i++[l.getD i sp0]:=by
   rw[List.take_add_one,List.getElem?_eq_getElem hi2,List.getD_eq_getElem?_getD,List.getElem?_eq_getElem hi2];rfl
  generalize l.getD i sp0=x at*
  have cd:=ai0 x hx
  simp(disch:=omega)only[go_sem,h1,hci]
  refine⟨by omega,by omega,?_⟩
  cases hft:x.fit
  ·have hall:l.all SpV.fit=false:=by rw[List.all_eq_false];exact⟨x,hmem,by rw[hft];simp⟩
   rw[hft,if_neg (by simp)]at cd
   rw[hall,if_neg (by simp)]
   refine qa (cd) ?_
   simp(disch:=omega)only[go_sem]
   exact qn
  ·rw[hft,if_pos rfl]at cd
   refine qa (cd) ?_
   simp(disch:=omega)only[go_sem]
   simp(disch:=omega)only[go_sem,hcut,Zs]
   refine⟨⟨by rw[hml];exact Nat.le_refl _,by omega⟩,qe (i+1) [(1,330000000)] ⟨by show i+1≤_;omega,fun y hy=>?_⟩ (by show l.length-(i+1)<l.length-i;omega) rfl (by simp(disch:=omega)only[go_sem];try omega) (by simp(disch:=omega)only[go_sem,hs])⟩
   rw[htk]at hy
   rcases List.mem_append.1 hy with h|h
   ·exact hf y h
   ·rw[List.mem_singleton.1 h];exact hft
 ·simp(disch:=omega)only[go_sem,h1]
  obtain rfl:i=l.length:=by omega
  rw[List.take_length]at hf
  have hall:l.all SpV.fit=true:=List.all_eq_true.2 hf
  rw[hall,if_pos rfl]
  refine ql [(0,1)] [.own 6 (qj SpV.cs (mpT l SpV.can l.length))] [] [.ag [.v (.int .i64 n),.rf 0 0 l.length],.v (.bool true)] rfl (by simp(disch:=omega)only[go_sem]) (by simp(disch:=omega)only[go_sem]) (by simp) (by simp) ?_
  show qD _ 6 _=_
  simp(disch:=omega)only[go_sem,X9,qJ,ja,zB (l:=l.map SpV.can) (k:=l.length) (List.length_map ..)]
end Go.Ab
namespace Go.Ab
open Go Go.Proofs
def fct:Nat→Nat
 |0=>1
 |n+1=>(n+1)*fct n
theorem aam:∀n,n≤500→bl (fct n)≤9*n+1
 |0,_=>by decide
 |n+1,h=>by
  have h1:=aam n (by omega)
  have h2:=jN (n+1) (fct n)
  have h3:bl (n+1)≤9:=qZ.2 (by omega)
  show bl ((n+1)*fct n)≤_
  omega
theorem abU:∀n,0<fct n
 |0=>by decide
 |n+1=>Nat.mul_pos (by omega) (abU n)
theorem anT(n:Nat)(hn:n≤402):Con Tryz.prog 215 false [.v (.int .i64 n)] [] (isA (.sl (lim (fct n)).length (qg (lim (fct n))))):=by
 refine Con.frzA ?_
 refine Con.of_w (rs:=[.tmp 2]) Tryz.func215 rfl Tryz.ntmps215 rfl ?_
 simp(disch:=omega)only[go_sem]
 refine qa (z7 1 (by omega)) ?_
 simp(disch:=omega)only[go_sem]
 by_cases h1:n≤1
 ·have e1:fct n=1:=by
   rcases(by omega:n=0∨n=1)with rfl|rfl<;>rfl
  rw[e1]
  refine qi (fun _:Nat=>[(0,.v (.int .i64 n)),(2,.v (.slice none 0 0)),(3,.sl (lim (1)).length (qg (lim (1)))),(4,.v (.int .i64 2))]) (fun _=>[]) (fun _=>True) (fun _=>0) 0 trivial (Le.lst [] _ _ rfl (by simp(disch:=omega)only[go_sem]) (by simp(disch:=omega)only[go_sem])) ?_
  intro _ _
  simp(disch:=omega)only[go_sem]
  have q:decide ((2:Int)≤(n:Int))=false:=decide_eq_false (by omega)
  simp(disch:=omega)only[go_sem,q]
  exact qn
 ·refine qi (fun k:Nat=>[(0,.v (.int .i64 n)),(2,.v (.slice none 0 0)),(3,.sl (lim (fct k)).length (qg (lim (fct k)))),(4,.v (.int .i64 ((k:Int)+1)))]) (fun _=>[]) (fun k=>1≤k∧k≤n) (fun k=>n-k) 1 (by omega) (Le.lst [] _ _ rfl (by simp(disch:=omega)only[go_sem,show fct 1=1 from rfl,show((1:Nat):Int)+1=2 from rfl];try rfl) (by simp(disch:=omega)only[go_sem])) ?_
  rintro k ⟨hk1,hk⟩
  simp(disch:=omega)only[go_sem]
  refine qh (fun h2=>?_) (fun h2=>?_)
  ·simp(disch:=omega)only[go_sem,h2]
   have e1:(k:Int)+1=((k+1:Nat):Int):=by omega
   have l1:=qv (aam k (by omega))
   have l2:=qv (m:=k+1) (B:=9) (qZ.2 (by omega))
   have cs:=z7 (k+1) (by omega)
   rw[←e1]at cs
   refine qa (cs) ?_
   simp(disch:=omega)only[go_sem]
   refine qa (XJ (fct k) (k+1) (by omega) (by omega)) ?_
   simp(disch:=omega)only[go_sem]
   have e2:fct k*(k+1)=fct (k+1):=Nat.mul_comm _ _
   exact qe (k+1) [] ⟨by omega,by omega⟩ (by show n-(k+1)<n-k;omega) rfl (by simp(disch:=omega)only[go_sem,e2];try omega) (by simp(disch:=omega)only[go_sem])
  ·simp(disch:=omega)only[go_sem,h2]
   obtain rfl:n=k:=by omega
   exact qn
def tmS(W:Nat):Nat→Nat→Nat
 |_,0=>0
 |k,f+1=>if fct (k+1)*2^k<2^W then tmS W (k+1) f else k
def tmF(W:Nat):Nat:=tmS W 1 402
theorem aaz(B:Nat)(hW:B≤400):Con Tryz.prog 143 true [.v (.int .i64 (-(B:Int)))] [] (isA (.v (.int .i64 (tmF B)))):=by
 refine Con.of_w (rs:=[.tmp 2]) Tryz.func143 rfl Tryz.ntmps143 rfl ?_
 simp(disch:=omega)only[go_sem]
 refine qi (fun k:Nat=>[(0,.v (.int .i64 (-(B:Int)))),(2,.v (.int .i64 0)),(3,.v (.int .i64 k))]) (fun _=>[]) (fun k=>1≤k∧k≤401∧tmS B k (403-k)=tmF B) (fun k=>402-k) 1 ⟨by omega,by omega,rfl⟩ (Le.lst [] _ _ rfl (by simp(disch:=omega)only[go_sem]) (by simp(disch:=omega)only[go_sem])) ?_
 rintro k ⟨hk1,hk2,ht⟩
 have e1:(k:Int)+1=((k+1:Nat):Int):=by omega
 have e2:0-(-(B:Int))=(B:Int):=by omega
 have cf:=anT (k+1) (by omega)
 rw[←e1]at cf
 have b1:=aam (k+1) (by omega)
 have l1:=qv b1
 have b2:=Zo (fct (k+1)) k
 have l2:=qv (m:=fct (k+1)*2^k) (B:=5000) (by omega)
 have b3:=Zo 1 B
 have b4:bl 1≤1:=qZ.2 (by decide)
 have l3:=qv (m:=1*2^B) (B:=500) (by omega)
 have l4:=qv b4
 have cu:=jy 1 B (by omega) (by omega)
 rw[←e2]at cu
 have cc:=jI (fct (k+1)*2^k) (1*2^B) (by omega) (by omega)
 have hstep:tmS B k (403-k)=if fct (k+1)*2^k<2^B then tmS B (k+1) (403-(k+1))else k:=by
  rw[show 403-k=(403-(k+1))+1 by omega];rfl
 have hbig:fct (k+1)*2^k<2^B→k<B:=fun h=>by
  rcases Nat.lt_or_ge k B with h'|h'
  ·exact h'
  ·have g1:2^B≤2^k:=Nat.pow_le_pow_right (by omega) h'
   have g2:1*2^k≤fct (k+1)*2^k:=Nat.mul_le_mul_right _ (abU _)
   omega
 have hcl:=(YX ((fct (k+1)*2^k:Nat):Int) ((1*2^B:Nat):Int)).2.1
 generalize zG ((fct (k+1)*2^k:Nat):Int) ((1*2^B:Nat):Int)=C at*
 generalize fct (k+1)=FF at*
 simp(disch:=omega)only[go_sem]
 refine qa (cf) ?_
 simp(disch:=omega)only[go_sem]
 refine qa (jy FF k (by omega) (by omega)) ?_
 simp(disch:=omega)only[go_sem]
 refine qa (z7 1 (by omega)) ?_
 simp(disch:=omega)only[go_sem]
 refine qa (cu) ?_
 simp(disch:=omega)only[go_sem]
 refine qm (cc) ?_
 simp(disch:=omega)only[go_sem]
 refine qh (fun h1=>?_) (fun h1=>?_)
 ·simp(disch:=omega)only[go_sem,h1]
  have hlt:FF*2^k<2^B:=by have:=hcl.1 h1;omega
  have:=hbig hlt
  rw[if_pos hlt,ht]at hstep
  exact qe (k+1) [] ⟨by omega,by omega,hstep.symm⟩ (by show 402-(k+1)<402-k;omega) rfl (by simp(disch:=omega)only[go_sem];try omega) (by simp(disch:=omega)only[go_sem])
 ·simp(disch:=omega)only[go_sem,h1]
  have hlt:¬FF*2^k<2^B:=fun h=>h1 (hcl.2 (by omega))
  rw[if_neg hlt,ht]at hstep
  rw[hstep]
  exact qt
end Go.Ab
namespace Go.Ab
open Go Go.Proofs
instance (lo hi:Int)(x:ExV):Decidable (x.bd lo hi):=inferInstanceAs (Decidable ((x.m=0→x.s=false)∧lo≤x.e∧(bl x.m:Int)+x.e≤hi))
instance (lo hi:Int)(x:SpV):Decidable (x.bd lo hi):=inferInstanceAs (Decidable (x.lo.bd lo hi∧x.hi.bd lo hi))
instance (lo hi:Int)(l:List ExV):Decidable (gbd lo hi l):=inferInstanceAs (Decidable (∀x∈l,x.bd lo hi))
instance (lo hi:Int)(l:List SpV):Decidable (sbd lo hi l):=inferInstanceAs (Decidable (∀x∈l,x.bd lo hi))
def hB:List SpV:=(zn 1 [ex0] (ex1.shift 0)).map ptS
def hSt:Nat→List SpV×List SpV
 |0=>((gId 1).map ptS,(gId 1).map ptS)
 |i+1=>(yL (hSt i).1 ((qI 1 (hSt i).2 hB).map fun s=>s.divd (i+1) (-22)),(qI 1 (hSt i).2 hB).map fun s=>s.divd (i+1) (-22))
def aDk:List SpV:=(hSt 7).1.map fun s=>s.fat (ex1.shift (-22))
def aDU:List SpV:=aDk.map fun s=>s.out (-14)
end Go.Ab
