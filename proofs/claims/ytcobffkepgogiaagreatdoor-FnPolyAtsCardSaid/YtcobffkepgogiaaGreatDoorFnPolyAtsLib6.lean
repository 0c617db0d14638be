/- What the proof of this claim stands on: the walks of the functions and the plain laws, part 6. -/
import Derived.Test.YtcobffkepgogiaaGreatDoorFnPolyAtsLib5
import Derived.Test.YtcobffkepgogiaaGreatDoorRows
import Derived.Test.YtcobffkepgogiaaGreatDoorCards
import Derived.Test.YtcobffkepgogiaaGreatDoorTie
import Derived.Handed
import Derived.ChangeSame
import Derived.JoinedOf
import Derived.RowKit
import Derived.WalkKit
import Derived.ProofKit
import Derived.OpenShut
import Derived.LaidLaws
import Derived.LaidHandle
import Derived.SevenTiedAt
import Derived.Stop.LaidErr
import Derived.Lib.LaidTab
set_option linter.unusedVariables false
set_option linter.unusedSimpArgs false
namespace Go.Ab
open Go Go.Proofs
theorem Jq(l:List UInt8)(hl:l.length≤9223372036854775807):Con Tryz.prog 14 false [.sl l.length (qj l)] [] (fun r hs bs=>hs=[]∧bs=[]∧∃(p:List DyV) (n:Int) (L:List DyV),(p.length≤101∧∀d∈p,d.xs.length≤200)∧bd7 L∧r=.tu [.sl p.length (ql DyV.cs p),.ag [.v (.int .i64 n),.sl L.length (ql DyV.cs L)]]):=by
 refine Con.of_aw Tryz.func14 rfl Tryz.ntmps14 (by simp) (by simp) (by simp) (W.sound ?_)
 show @W Tryz.prog 17 ⟨_⟩ ⟨fun x σ=>@za _ _ _ ⟨_⟩ _ ⟨_⟩ x σ⟩ _ _
 simp(disch:=omega)only[go_sem]
 refine qY (aqB l hl) (by simp(disch:=omega)only[go_sem]) ?_
 rintro r hs ⟨rfl, -,⟨h,rfl⟩⟩
 refine⟨by simp(disch:=omega)only[go_sem],?_⟩
 simp(disch:=omega)only[go_sem]
 refine qu (aLR l hl 0 h (by omega)) ?_
 rintro r i1 h1 hi1 ⟨n,hn,rfl⟩
 simp(disch:=omega)only[go_sem]
 refine qu (ajL l hl i1 h1 hi1 n hn) ?_
 rintro r i2 h2 hi2 ⟨k,L,hL1,hL2,rfl⟩
 simp(disch:=omega)only[go_sem]
 refine qs rfl [⟨0,[],[]⟩,⟨1,[],[]⟩,⟨4,[],[]⟩,⟨2,[4],[]⟩,⟨3,[4],[]⟩,⟨5,[4],[]⟩,⟨6,[],[]⟩] (by kernel_rfl) ?_
 simp(disch:=omega)only[go_sem]
 refine qu (qJ l hl i2 h2 hi2 6 (by omega)) ?_
 rintro r i3 h3 hi3 ⟨m,hm,rfl⟩
 simp(disch:=omega)only[go_sem]
 have hm2:=hm.2 (by omega)
 refine qu (Jo l hl i3 h3 hi3 m (by omega)) ?_
 rintro r i4 h4 hi4 ⟨p,hp1,hp2,rfl⟩
 simp(disch:=omega)only[go_sem]
 exact qO (by simp(disch:=omega)only[go_sem]) ⟨rfl,rfl,p,k,L,⟨hp1,hp2⟩,⟨hL1,hL2⟩,rfl⟩
theorem adB{n:Nat}{L p:List ExV}{y0:ExV}(h:matV n L)(h0:y0.ok=true)(hp:∀x∈p,x.ok=true)(hl:p.length≤11){i j:Nat}(hi:i<n)(hj:j<n):
  mv 43000 (ju n L (y0::p) (p.length+1)) n i j=jl n (mv 40000 (ju n L p p.length) n) (mv 3000 L n) i j+mv 40000 (gId n) n i j*y0.val 3000:=by
 have h0p:∀x∈y0::p,x.ok=true:=fun x hx=>by
  rcases List.mem_cons.1 hx with rfl|hx
  ·exact h0
  ·exact hp x hx
 have e:=aOX (j':=3000) (zV (p.length+1)) (Ya h h0p (p.length+1) (by omega)) hi hj
 rw[J9 h h0p (p.length+1) (by omega) hi hj,aoU (P':=fun t=>(p.getD t ex0).val 3000) hl _ _ (fun t ht=>by rw[List.getD_cons_succ]) hj]at e
 rw[show(43000:Nat)=40000+3000 from rfl,e,aEW hi hj]
 show jl n _ _ i j+_=jl n _ _ i j+_
 congr 1
 exact qB fun t ht=>by rw[J9 h hp p.length (by omega) hi ht]
set_option maxRecDepth 100000 in
set_option maxHeartbeats 4000000 in
theorem adL(l:List UInt8)(hl:l.length≤9223372036854775807):Con Tryz.prog 3 true [.sl l.length (qj l)] [] (isA (.v (.bool true))):=by
 refine Con.of_w (rs:=[.tmp 2]) Tryz.func3 rfl Tryz.ntmps3 rfl ?_
 simp(disch:=omega)only[go_sem]
 refine qY (Jq l hl) (by simp(disch:=omega)only[go_sem]) ?_
 rintro r hs ⟨rfl, -,⟨p,k,M,⟨p1,p2⟩,⟨a1,a2⟩,rfl⟩⟩
 refine⟨by simp[qN],?_⟩
 simp(disch:=omega)only[go_sem]
 cases hB:(K0 k M&&(decide (p.length≤12)&&p.all DyV.ok))
 ·refine qa (YZ k M p a1 a2 p1 p2 hB) ?_
  simp(disch:=omega)only[go_sem]
  refine qm (Z8) ?_
  simp(disch:=omega)only[go_sem]
  exact qx
 simp only[Bool.and_eq_true,decide_eq_true_eq]at hB
 obtain⟨hA,hpl,hpo⟩:=hB
 obtain⟨n,L,rfl,rfl,hL⟩:=aO1 hA
 obtain⟨q,rfl,hq⟩:=bdS hpo
 rw[List.length_map]at hpl
 rw[jW,jW,List.length_map,List.length_map]
 have cX:=Ja n L q hL hq hpl
 have h1n:=hL.n1
 cases hf:(ju n L q q.length).all ExV.fit
 ·have e0:gN n (ju n L q q.length)=0:=if_neg (by rw[hf];simp)
  rw[hf,e0]at cX
  refine qa (cX) ?_
  simp(disch:=omega)only[go_sem]
  refine qm (Z8) ?_
  simp(disch:=omega)only[go_sem]
  exact qx
 obtain⟨e1,e2,gX⟩:=K9 (l:=ju n L q q.length) hL.n1 hL.n4 (zV _) hf
 rw[hf,e1,e2]at cX
 cases q with
 |nil=>
  generalize (ju n L [] ([]:List ExV).length).map ExV.can=X at*
  refine qa (cX) ?_
  simp(disch:=omega)only[go_sem]
  refine qm (Z8) ?_
  simp(disch:=omega)only[go_sem]
  exact qx
 |cons y0 q=>
 have oy:y0.ok=true:=hq y0 (List.mem_cons_self ..)
 have hq2:∀x∈q,x.ok=true:=fun x hx=>hq x (List.mem_cons_of_mem _ hx)
 have hlq:q.length≤11:=by simp only[List.length_cons]at hpl;omega
 have vX:∀i j,i<n→j<n→mv 43000 ((ju n L (y0::q) (y0::q).length).map ExV.can) n i j=jl n (mv 40000 (ju n L q q.length) n) (mv 3000 L n) i j+mv 40000 (gId n) n i j*y0.val 3000:=fun i j hi hj=>by
  rw[aEP (zV _) (fun x hx=>by have:=Ya hL hq _ hpl x hx;omega) hi hj]
  exact adB hL oy hq2 hlq hi hj
 generalize (ju n L (y0::q) (y0::q).length).map ExV.can=X at*
 have cY:=Ja n L q hL hq2 (by omega)
 have oY:optM n (gN n (ju n L q q.length)) (gT (ju n L q q.length)):=Yk hL.n1 hL.n4 (zV _)
 have vY:(ju n L q q.length).all ExV.fit=true→eK 40000 (gT (ju n L q q.length))∧∀i j,i<n→j<n→mv 40000 (gT (ju n L q q.length)) n i j=mv 40000 (ju n L q q.length) n i j:=fun hfy=>by
  obtain⟨-,e2,g⟩:=K9 (l:=ju n L q q.length) hL.n1 hL.n4 (zV _) hfy
  rw[e2]
  exact⟨g.eK (by omega),fun i j hi hj=>aEP (zV _) (Ya hL hq2 _ (by omega)) hi hj⟩
 generalize gN n (ju n L q q.length)=NY at*
 generalize gT (ju n L q q.length)=Y at*
 generalize (ju n L q q.length).all ExV.fit=b1 at*
 have hcut:cut (ql ExV.cs (y0::q)) (1*3) (q.length*3)=ql ExV.cs q:=by
  have:=adz (l:=y0::q) ae5 1 q.length
  rw[this,List.drop_succ_cons,List.drop_zero,List.take_length]
 have hlen:(y0::q).length=q.length+1:=rfl
 refine qa (cX) ?_
 simp(disch:=omega)only[go_sem]
 simp(disch:=omega)only[go_sem,decide_eq_false (show ¬((q.length+1:Nat):Int)=0 by omega)]
 refine qs rfl [⟨0,[],[]⟩,⟨1,[],[]⟩,⟨2,[1],[]⟩,⟨7,[1,2],[]⟩,⟨3,[],[90000000]⟩,⟨4,[],[90000000]⟩,⟨5,[],[90000000]⟩,⟨6,[],[90000000]⟩,⟨8,[],[]⟩,⟨9,[],[]⟩] (by kernel_rfl) ?_
 simp(disch:=omega)only[go_sem]
 rw[show(((q.length+1:Nat):Int)-1).toNat=q.length by omega,show cut (ql ExV.cs (y0::q)) 3 (q.length*3)=ql ExV.cs q from hcut]
 refine⟨by omega,?_⟩
 refine qa (cY) ?_
 simp(disch:=omega)only[go_sem]
 refine qY (aeq n NY n Y L hL.n1 hL.n4 oY (.inl ⟨rfl,hL⟩)) (by simp(disch:=omega)only[go_sem]) ?_
 rintro r hs ⟨rfl, -,NZ,Z,b2,oZ,hZ,rfl⟩
 refine⟨by simp[qN],?_⟩
 simp(disch:=omega)only[go_sem]
 refine qa (ajZ n hL.n1 hL.n4) ?_
 simp(disch:=omega)only[go_sem]
 have hc0:cut (ql ExV.cs (y0::q)) 0 3=[.v (.bool y0.s),.sl (lim y0.m).length (qc (lim y0.m)),.v (.int .i64 y0.e)]:=zI (l:=y0::q) (i:=0) (by simp)
 have cW:=Y0 n (gId n) y0 (apG hL.n1 hL.n4) oy
 have oW:optM n (gN n (qC n (gId n) y0)) (gT (qC n (gId n) y0)):=Yk hL.n1 hL.n4 zn
 have ey:=(jq oy).1.1
 have vW:matV n (gT (qC n (gId n) y0))→∀i j,i<n→j<n→mv (40000+3000) (gT (qC n (gId n) y0)) n i j=mv 40000 (gId n) n i j*y0.val 3000:=fun g i j hi hj=>by
  cases hf:(qC n (gId n) y0).all ExV.fit
  ·have e:gT (qC n (gId n) y0)=[]:=if_neg (by rw[hf];simp)
   have:=g.len
   rw[e]at this
   have:=qZ hi hj
   simp at*;omega
  ·rw[(K9 (l:=qC n (gId n) y0) hL.n1 hL.n4 zn hf).2.1]
   exact ao9 (fun x hx=>by have:=(aab x hx).2.1;omega) (by omega) yn hi hj
 generalize gN n (qC n (gId n) y0)=NW at*
 generalize gT (qC n (gId n) y0)=W1 at*
 generalize (qC n (gId n) y0).all ExV.fit=b3 at*
 refine qs rfl [⟨0,[],[]⟩,⟨1,[0],[]⟩,⟨2,[0],[]⟩,⟨3,[0],[]⟩,⟨8,[0,3],[]⟩,⟨4,[],[150000000]⟩,⟨5,[],[150000000]⟩,⟨6,[],[150000000]⟩,⟨7,[],[150000000]⟩,⟨9,[],[]⟩,⟨10,[],[]⟩] (by kernel_rfl) ?_
 simp(disch:=omega)only[go_sem,hc0]
 refine⟨by omega,by omega,?_⟩
 refine qa (cW) ?_
 simp(disch:=omega)only[go_sem]
 refine qY (aes n NZ NW Z W1 hL.n1 hL.n4 oZ oW) (by simp(disch:=omega)only[go_sem]) ?_
 rintro r hs ⟨rfl, -,NS,S,b4,oS,hS,rfl⟩
 refine⟨by simp[qN],?_⟩
 simp(disch:=omega)only[go_sem]
 cases b1
 ·simp(disch:=omega)only[go_sem]
  exact qx
 cases b2
 ·simp(disch:=omega)only[go_sem]
  exact qx
 cases b3
 ·simp(disch:=omega)only[go_sem]
  exact qx
 cases b4
 ·simp(disch:=omega)only[go_sem]
  exact qx
 obtain⟨⟨-,gZ⟩,⟨-,gW⟩, -,⟨hNS,gS⟩,hSe⟩:=hS rfl
 obtain⟨⟨-,gY⟩, -, -, -,hZe⟩:=hZ rfl
 have hNS:=hNS.symm
 subst hNS
 have hSX:S=X:=by
  refine aKu (K:=43000) (by omega) gS gX fun i j hi hj=>?_
  have z1:mv (40000+3000) Z n i j=jl n (mv 40000 (ju n L q q.length) n) (mv 3000 L n) i j:=by
   rw[hZe,aBL (vY rfl).1 (hL.eK (by omega)) gY.len hL.len hi hj]
   exact qB fun t ht=>by rw[(vY rfl).2 i t hi ht]
  rw[vX i j hi hj,hSe,aKp (gZ.eK (by omega)) (gW.eK (by omega)) gZ.len gW.len hi hj,←vW gW i j hi hj,←z1]
 have cs:=ad8 n S X gS gX
 rw[decide_eq_true hSX]at cs
 simp(disch:=omega)only[go_sem]
 refine qm (cs) ?_
 simp(disch:=omega)only[go_sem]
 exact qx
end Go.Ab
namespace Go.Proofs.YtcobffkepgogiaaGreatDoor
open Go.ChangeShapes Go.WideShapes Go.ChangeAt Go.RowKit Go.Ab
theorem own:ownKnob Tryz.prog.godebug=none:=by kernel_rfl
theorem apn:laidOutB Tryz.prog=true:=by kernel_rfl
theorem aot:Tryz.prog.globalNamed "math/bits.deBruijn64tab" =some 1:=by kernel_rfl
theorem aIM:(Tryz.prog.globals[1]?).map (·.type)=some 262:=by kernel_rfl
theorem aIL:Tryz.prog.underlying 262=some (.array 64 5):=by kernel_rfl
theorem aIP:Tryz.prog.underlying 5=some (.int .u8):=by kernel_rfl
theorem aIQ:Tryz.prog.cellsOf 5=1:=by kernel_rfl
theorem aIN:Tryz.prog.cellsOf 262=64:=by kernel_rfl
noncomputable def yD:List (String×DataW Unit):=[("math/bits.deBruijn32tab",Rows.laid_math_bits_deBruijn32tab),("math/bits.deBruijn64tab",Rows.laid_math_bits_deBruijn64tab)]
theorem aIO{W:World}(h:laidMetH Tryz.prog yD W):Gd W:=by
 have h':laidMet Tryz.prog yD W:=h
 have h2:laidMet Tryz.prog [("math/bits.deBruijn64tab",Lib.tabData .u8 (Lib.deBruijn64tab.map Int.ofNat))] W:=laidMet.tail h'
 have hT:=Lib.tabIs_of_head aot aIM aIL aIP aIQ aIN h2
 intro g l hg
 unfold glb at hg
 split at hg
 ·rename_i e
  subst e
  cases hg
  have hc:∀i,i<Lib.deBruijn64tab.length→W.cell? ⟨1,i,none⟩=some (.int .u8 ((Lib.deBruijn64tab.getD i 0:Nat):Int)):=fun i hi=>by
   have:=hT.cell aot i (by simpa using hi)
   rw[this]
   simp[List.getD,hi]
  exact⟨afh (hc 0 (by decide)),hc⟩
 ·cases hg
noncomputable def K4(os:Os):World:=
 let w0:=World.holding Tryz.prog os ⟨#[],#[],[]⟩
 {w0 with heap:=(w0.heap.modify 1 fun
   | .cells _ t frozen=>.cells (Lib.deBruijn64tab.map fun z=>Value.int .u8 (Int.ofNat z)).toArray t frozen
   |o=>o).modify 0 fun
   | .cells _ t frozen=>.cells (Lib.deBruijn32tab.map fun z=>Value.int .u8 (Int.ofNat z)).toArray t frozen
   |o=>o}
theorem Yw(os:Os)(args:Array Value):laidMetH Tryz.prog yD ((K4 os).forCall (fun _ _=>0) ⟨#[],args,[]⟩).memory:=
 laidMetH_of_parts (laidMet_of_run' 8 (by kernel_rfl) (by kernel_rfl)) (by kernel_rfl)
end Go.Proofs.YtcobffkepgogiaaGreatDoor
