/- Drawn matrices: a product of a sum is the sum of products; identity and difference do as they should: FnMatRing answers true for every code. -/
import Derived.Test.YtjkhfpjccemboaaGreatDoorFnMatRingLib6
import Derived.Lib.SmallJoins
set_option linter.unusedVariables false
set_option linter.unusedSimpArgs false
namespace Go.Proofs.YtjkhfpjccemboaaGreatDoor.matRing
open Go.Joins Go.ChangeShapes Go.WideShapes Go.ChangeAt Go.RowKit Go.Ab
theorem aCC:Tryz.prog.cellsOf 5=1:=by kernel_rfl
set_option maxRecDepth 100000 in
theorem aOS(os:Os)(started:os.Started)(H:Type)(enc:TypeId×Value→H):
  ReturnsInHanded {} Tryz.checked os 6 .any (fun w args=>(Rows.fnMatRingSpec.pre enc Tryz.prog Tryz.f6 [] false w args∧laidMetH Tryz.prog yp w)∧sizedMet enc Tryz.prog Tryz.f6 (OpenSpec.ofChange Rows.fnMatRingSpec) false w args)
   (Rows.fnMatRingSpec.post enc Tryz.prog Tryz.f6 false true false false):=by
 refine returnsInHanded_of_change_and (C:=Tryz.checked) (X:=fun w _=>laidMetH Tryz.prog yp w) (fun _ _ _ hh h=>h.of_heap hh) own started (by kernel_rfl) Tryz.func6
  (ChangeSpec.witness_at (enc:=enc) (C:=Tryz.checked) (os:=os) (X:=fun w _=>laidMetH Tryz.prog yp w) false (KB os) #[.slice none 0 0] 8 rfl (by kernel_rfl) (by kernel_rfl) (by kernel_rfl) (by kernel_rfl) (by kernel_rfl) (Ye os _)) ?_
 intro W base args ds gs before hval0 hW _ hZ hL _
 have hval:∀(j:Nat) t v,Tryz.f6.params[j]? =some t→args[j]? =some v→Value.okWide Tryz.prog W .any base t v:=hval0
 have hW':=hW
 obtain⟨p,q,hA0,hV0,rfl,hfz,hnd⟩:=hW
 have hA:DataW.TrodAll enc Tryz.prog W 0 (fun _=>true) true Tryz.f6.params.toList args.toList ds p:=hA0
 have hV:DataW.TrodVars enc Tryz.prog W (fun _=>true) [] gs q:=hV0
 rw[Tryz.params6]at hA hval
 obtain⟨v0,d0,rfl,rfl,h0⟩:=trodAll_one hA
 have hg:=aIi hL
 obtain⟨rfl,rfl⟩:gs=[]∧q=[]:=by
  cases gs with
  |nil=>exact⟨rfl,hV⟩
  |cons g r=>exact absurd hV (by intro h;cases h)
 have hlt:∀x∈p,x.block<W.heap.size:=fun x hx=>by simpa using hW'.lt x (by simpa using hx)
 obtain⟨v0',l,e0,hm,hr⟩:∃(v:Value) (l:List UInt8),v0=v∧l.length≤140737488351232∧FRep (fun b=>b<W.heap.size) W v (.sl l.length (qk l)):=by
  have h0':=h0
  obtain⟨fuel,hf⟩:=h0'
  obtain⟨a,len,cap,rfl⟩:=okWide_slice Tryz.underlying22 (hval 0 22 v0 rfl rfl)
  obtain⟨v,l,e,h1,h2⟩:=aAN Tryz.underlying22 Tryz.underlying5 aCC (by kernel_rfl) hf (h1:=rfl) (h2:=rfl) hZ
  have e':[Value.slice a len cap]=[v]:=e
  obtain rfl:Value.slice a len cap=v:=by simpa using e'
  exact⟨_,l,rfl,h1,h2⟩
 subst e0
 have ef:Rows.fnMatRingSpec.fn H ([d0]++[])={results:=[.lit (.bool true)],args:=[d0]}:=by simp[Rows.fnMatRingSpec]
 refine((adi l hm).enter (fun b=>b<W.heap.size) W _ (fun _ h=>h) (aAE (.fr _ _ hr)) (by simp[AllL,AV.All]) hg).mono fun e W' ⟨he,hw⟩=>?_
 subst he
 refine⟨_,rfl,_,_,_,[],p,[],hW',?_,?_,?_,hw.kept _,fun h=>by cases h⟩
 ·rw[ef];exact trodAll_mk1 (shut_bool Tryz.underlying4 true)
 ·rw[ef]
  exact trodAll_mk1 (hw.trod aJ3 (by kernel_rfl) (of_decide_eq_true (by kernel_rfl)) h0 (fun x hx=>hlt x hx))
 ·rw[ef];rfl
theorem aok:Rows.FnMatRingSaid:=
 OpenClaim.holds_of_wide 6 Tryz.f6 rfl rfl rfl rfl rfl rfl rfl ⟨rfl,rfl,rfl,rfl,rfl⟩ rfl rfl rfl rfl rfl (by kernel_rfl) Tryz.func6 (by kernel_rfl)
  (of_decide_eq_true (by kernel_rfl)) (by unfold Func.isWrapper;first|(rw[if_pos (by decide+kernel)];kernel_rfl)|(rw[if_neg (by decide+kernel)];exact⟨rfl,rfl⟩))
  (fun os started H enc _=>aOS os started H enc)
theorem proved:Rows.FnMatRingCardSaid:=
 Claim7.holds_tied_plain_at .later [] [.data,.data] true (true,"ece3c45bb4ac150835d178970fb9803bc6f11592ed22d72dc50c89cafeefe5cc") false
  aok (fun _ h=>by cases h) (by kernel_rfl) (fun _ h=>by cases h) fnMatRing_row_tie rfl ⟨rfl,rfl⟩ (by kernel_rfl) rfl
  (fun f fn hf hfn=>by
   obtain rfl:f=6:=Option.some.inj ((show Tryz.prog.funcNamed "loop.example/g00382/laws.FnMatRing" =some 6 by kernel_rfl).symm.trans hf) |>.symm
   obtain rfl:fn=Tryz.f6:=(Option.some.inj (Tryz.func6.symm.trans hfn)).symm
   exact⟨by kernel_rfl,fun j t ht=>by
    rw[Tryz.params6]at ht
    have h3:t=22:=by
     rcases j with _|j
     ·simpa using ht.symm
     ·simp at ht
    subst h3
    exact(show Tryz.prog.wantsStandIn 22=false by kernel_rfl)⟩)
  (by kernel_rfl)
#print axioms proved
end Go.Proofs.YtjkhfpjccemboaaGreatDoor.matRing
