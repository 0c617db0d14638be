/- What the proof of this claim stands on: the walks of the functions and the plain laws, part 1. -/
import Derived.Calls
import Derived.Laws.World
import Derived.Laws.NewBlocks
import Derived.WalkKit
import Derived.Lib.TrailingZeros
import Derived.Laws.BytesString
import Derived.Laws.Sem
set_option linter.unusedVariables false
set_option linter.unusedSimpArgs false
theorem Go.Ab.ID{p:Prop}(h:p):p:=h
namespace Go.Ab
open Go
def glb(g:Nat):Option (List Nat):=none
def Gd(w:World):Prop:=∀g l,glb g=some l→g<w.heap.size∧∀i,i<l.length→w.cell? ⟨g,i,none⟩=some (.int .u8 (l.getD i 0))
def GdL(L:Nat→Prop)(w:World):Prop:=Gd w∧∀g l,glb g=some l→¬L g
theorem Gd.next{w w':World}(h:Gd w)(hs:w.heap.size≤w'.heap.size)(hb:∀g l,glb g=some l→w'.heap[g]? =w.heap[g]?):Gd w':=fun g l e=>by
 obtain⟨h1,h2⟩:=h g l e
 refine⟨by omega,fun i hi=>?_⟩
 rw[World.cell?_of_block (w:=w) (hb g l e)];exact h2 i hi
end Go.Ab
namespace Go.Ab
open Go
inductive AV where
 |un
 |v (x:Value)
 |sl (n:Nat) (cs:List AV)
 |fp (cs:List AV) (o:Nat)
 |rf (nm o n:Nat)
 |pt (nm o:Nat)
 |ag (cs:List AV)
 |tu (cs:List AV)
 |fn (f:Nat) (cs:List AV)
instance:Inhabited AV:=⟨.un⟩
inductive Ob where
 |free
 |dead
 |own (z:Nat) (cs:List AV)
instance:Inhabited Ob:=⟨.free⟩
structure Blk where
 b:Nat
 base:Nat
 top:Nat
 z:Nat
inductive FRep(R:Nat→Prop)(w:World):Value→AV→Prop
 |un (x:Value):FRep R w x .un
 |v (x:Value):FRep R w x (.v x)
 |sl (a:Option Addr) (n cap:Nat) (cs:List AV) (vs:Nat→Value) (b o:Nat) (hcap:n≤cap)
   (ha:0<cs.length→a=some ⟨b,o,none⟩∧R b)
   (hv:∀i,i<cs.length→w.cell? ⟨b,o+i,none⟩=some (vs i))
   (hr:∀i (h:i<cs.length),FRep R w (vs i) cs[i]):FRep R w (.slice a n cap) (.sl n cs)
 |fp (b o0:Nat) (cs:List AV) (o:Nat) (vs:Nat→Value) (hR:0<cs.length→R b)
   (hv:∀i,i<cs.length→w.cell? ⟨b,o0+i,none⟩=some (vs i))
   (hr:∀i (h:i<cs.length),FRep R w (vs i) cs[i]):FRep R w (.pointer (some ⟨b,o0+o,none⟩)) (.fp cs o)
 |fn (f:Nat) (vs:Array Value) (cs:List AV) (hs:vs.size=cs.length)
   (hr:∀i (h:i<cs.length),FRep R w (vs.getD i undef) cs[i]):FRep R w (.func (.func f) #[] vs) (.fn f cs)
 |ag (vs:Array Value) (cs:List AV) (hs:vs.size=cs.length)
   (hr:∀i (h:i<cs.length),FRep R w (vs.getD i undef) cs[i]):FRep R w (.agg vs) (.ag cs)
 |tu (vs:Array Value) (cs:List AV) (hs:vs.size=cs.length)
   (hr:∀i (h:i<cs.length),FRep R w (vs.getD i undef) cs[i]):FRep R w (.tuple vs) (.tu cs)
theorem FRep.mono{R R':Nat→Prop}{w w':World}{x:Value}{a:AV}(h:FRep R w x a)
  (hw:∀b,R b→w'.heap[b]? =w.heap[b]?) (hR:∀b,R b→R' b):FRep R' w' x a:=by
 induction h with
 |un x=>exact .un x
 |v x=>exact .v x
 |sl a n cap cs vs b o hcap ha hv hr ih=>
  refine .sl a n cap cs vs b o hcap (fun h=>⟨(ha h).1,hR _ (ha h).2⟩) (fun i hi=>?_) (fun i h=>ih i h)
  rw[World.cell?_of_block (w:=w) (hw b (ha (by omega)).2)];exact hv i hi
 |fp b o0 cs o vs hRb hv hr ih=>
  refine .fp b o0 cs o vs (fun h=>hR _ (hRb h)) (fun i hi=>?_) (fun i h=>ih i h)
  rw[World.cell?_of_block (w:=w) (hw b (hRb (by omega)))];exact hv i hi
 |fn f vs cs hs hr ih=>exact .fn f vs cs hs (fun i h=>ih i h)
 |ag vs cs hs hr ih=>exact .ag vs cs hs (fun i h=>ih i h)
 |tu vs cs hs hr ih=>exact .tu vs cs hs (fun i h=>ih i h)
def aq8(B:Option Blk)(o n cap:Nat)(a:Option Addr):Prop:=
 n≤cap∧match B with
 |some B=>0<cap→a=some ⟨B.b,B.base+o,none⟩∧B.base+o+cap*B.z≤B.top
 |none=>cap=0
inductive Rep(R:Nat→Prop)(ι:Nat→Option Blk)(w:World):Value→AV→Prop
 |fr (x:Value) (a:AV) (h:FRep R w x a):Rep R ι w x a
 |rf (nm o n cap:Nat) (a:Option Addr) (h:aq8 (ι nm) o n cap a):Rep R ι w (.slice a n cap) (.rf nm o n)
 |pt (nm o:Nat) (B:Blk) (h:ι nm=some B):Rep R ι w (.pointer (some ⟨B.b,B.base+o,none⟩)) (.pt nm o)
 |fn (f:Nat) (vs:Array Value) (cs:List AV) (hs:vs.size=cs.length)
   (hr:∀i (h:i<cs.length),Rep R ι w (vs.getD i undef) cs[i]):Rep R ι w (.func (.func f) #[] vs) (.fn f cs)
 |ag (vs:Array Value) (cs:List AV) (hs:vs.size=cs.length)
   (hr:∀i (h:i<cs.length),Rep R ι w (vs.getD i undef) cs[i]):Rep R ι w (.agg vs) (.ag cs)
 |tu (vs:Array Value) (cs:List AV) (hs:vs.size=cs.length)
   (hr:∀i (h:i<cs.length),Rep R ι w (vs.getD i undef) cs[i]):Rep R ι w (.tuple vs) (.tu cs)
mutual
def AV.All(p:Nat→Prop):AV→Prop
 | .rf nm _ _=>p nm
 | .pt nm _=>p nm
 | .ag cs=>AllL p cs
 | .tu cs=>AllL p cs
 | .fn _ cs=>AllL p cs
 | .un=>True
 | .v _=>True
 | .sl _ _=>True
 | .fp _ _=>True
def AllL(p:Nat→Prop):List AV→Prop
 | []=>True
 |a::r=>a.All p∧AllL p r
end
theorem AllL.get{p:Nat→Prop}:∀{cs:List AV},AllL p cs→∀i (h:i<cs.length),(cs[i]).All p
 | [],_,i,h=>by simp at h
 |a::r,hl,0,h=>by simp[AllL]at hl;exact hl.1
 |a::r,hl,i+1,h=>by simp[AllL]at hl;exact AllL.get hl.2 i (by simpa using h)
theorem AllL.of_get{p:Nat→Prop}:∀{cs:List AV},(∀i (h:i<cs.length),(cs[i]).All p)→AllL p cs
 | [],_=>by simp[AllL]
 |a::r,hl=>by
  simp only[AllL]
  exact⟨hl 0 (by simp),AllL.of_get fun i h=>hl (i+1) (by simpa using h)⟩
theorem AllL.append{p:Nat→Prop}:∀{a b:List AV},AllL p a→AllL p b→AllL p (a++b)
 | [],_,_,h=>by simpa using h
 |x::a,b,h,h'=>by simp only[AllL,List.cons_append]at*;exact⟨h.1,AllL.append h.2 h'⟩
theorem AllL.mem{p:Nat→Prop}{cs:List AV}(h:AllL p cs){a:AV}(ha:a∈cs):a.All p:=by
 obtain⟨i,hi,rfl⟩:=List.getElem_of_mem ha
 exact h.get i hi
theorem AllL.of_mem{p:Nat→Prop}{cs:List AV}(h:∀a∈cs,a.All p):AllL p cs:=
 AllL.of_get fun i hi=>h _ (List.getElem_mem hi)
theorem AV.All.mono{p q:Nat→Prop}:∀{a:AV},a.All p→(∀nm,p nm→q nm)→a.All q
 | .un,_,_| .v _,_,_| .sl _ _,_,_| .fp _ _,_,_=>by simp[AV.All]
 | .rf nm _ _,h,hq=>by simp only[AV.All]at*;exact hq _ h
 | .pt nm _,h,hq=>by simp only[AV.All]at*;exact hq _ h
 | .ag cs,h,hq=>by simp only[AV.All]at*;exact AllL.monoL h hq
 | .tu cs,h,hq=>by simp only[AV.All]at*;exact AllL.monoL h hq
 | .fn _ cs,h,hq=>by simp only[AV.All]at*;exact AllL.monoL h hq
where AllL.monoL {p q:Nat→Prop}:∀{cs:List AV},AllL p cs→(∀nm,p nm→q nm)→AllL q cs
 | [],_,_=>by simp[AllL]
 |a::r,h,hq=>by simp only[AllL]at*;exact⟨AV.All.mono h.1 hq,AllL.monoL h.2 hq⟩
theorem AV.all_true{p:Nat→Prop}(hp:∀nm,p nm):∀a:AV,a.All p
 | .un| .v _| .sl _ _| .fp _ _=>by simp[AV.All]
 | .rf nm _ _=>by simp only[AV.All];exact hp _
 | .pt nm _=>by simp only[AV.All];exact hp _
 | .ag cs=>by simp only[AV.All];exact allT hp cs
 | .tu cs=>by simp only[AV.All];exact allT hp cs
 | .fn _ cs=>by simp only[AV.All];exact allT hp cs
where allT {p:Nat→Prop} (hp:∀nm,p nm):∀cs:List AV,AllL p cs
 | []=>by simp[AllL]
 |a::r=>by simp only[AllL];exact⟨AV.all_true hp a,allT hp r⟩
theorem AllL.mono{p q:Nat→Prop}{cs:List AV}(h:AllL p cs)(hq:∀nm,p nm→q nm):AllL q cs:=
 AllL.of_get fun i hi=>(h.get i hi).mono hq
theorem Rep.mono{R R':Nat→Prop}{ι ι':Nat→Option Blk}{w w':World}{x:Value}{a:AV}(h:Rep R ι w x a)
  (hw:∀b,R b→w'.heap[b]? =w.heap[b]?) (hR:∀b,R b→R' b) (p:Nat→Prop) (hp:a.All p) (hι:∀nm,p nm→ι' nm=ι nm):Rep R' ι' w' x a:=by
 induction h with
 |fr x a h=>exact .fr x a (h.mono hw hR)
 |rf nm o n cap a h=>exact .rf nm o n cap a (by rw[hι nm (by simpa [AV.All]using hp)];exact h)
 |pt nm o B h=>exact .pt nm o B (by rw[hι nm (by simpa [AV.All]using hp)];exact h)
 |fn f vs cs hs hr ih=>simp only[AV.All]at hp;exact .fn f vs cs hs (fun i h=>ih i h (hp.get i h))
 |ag vs cs hs hr ih=>simp only[AV.All]at hp;exact .ag vs cs hs (fun i h=>ih i h (hp.get i h))
 |tu vs cs hs hr ih=>simp only[AV.All]at hp;exact .tu vs cs hs (fun i h=>ih i h (hp.get i h))
end Go.Ab
namespace Go.Ab
open Go
def upd{α:Type}(f:Nat→α)(k:Nat)(a:α):Nat→α:=fun s=>if s=k then a else f s
theorem qj{α:Type}(f:Nat→α)(k:Nat)(a:α):upd f k a k=a:=by simp[upd]
theorem qm{α:Type}{f:Nat→α}{k s:Nat}{a:α}(h:s≠k):upd f k a s=f s:=by simp[upd,h]
structure St where
 env:Nat→AV
 hp:Nat→Ob
def OOk(R:Nat→Prop)(ι:Nat→Option Blk)(w:World)(B:Option Blk):Ob→Prop
 | .free=>True
 | .dead=>True
 | .own z cs=>match B with
  |none=>cs=[]
  |some B=>∃c T lo hi,w.heap[B.b]? =some (.cells c T (lo,hi))∧(lo=hi∨c.size≤lo)∧B.z=z∧B.top≤c.size∧
    B.base+cs.length≤B.top∧∀i (h:i<cs.length),Rep R ι w (c.getD (B.base+i) undef) cs[i]
structure HpOk(R:Nat→Prop)(ι:Nat→Option Blk)(w:World)(hp:Nat→Ob):Prop where
 ok:∀nm,OOk R ι w (ι nm) (hp nm)
 nR:∀nm z cs B,hp nm=.own z cs→ι nm=some B→¬R B.b
 inj:∀nm nm' z z' cs cs' B B',hp nm=.own z cs→hp nm'=.own z' cs'→ι nm=some B→ι nm'=some B'→B.b=B'.b→nm=nm'
 men:∀nm z cs,hp nm=.own z cs→AllL (fun m=>hp m≠ .free) cs
structure Ext(L:Nat→Prop)(w0 w:World):Prop where
 os:w.os=w0.os
 tape:w.tape=w0.tape
 output:w.output=w0.output
 size:w0.heap.size≤w.heap.size
 block:∀b,b<w0.heap.size→¬L b→w.heap[b]? =w0.heap[b]?
def zR(nm:Nat):Bool:=Nat.ble 10000000 nm&&Nat.blt nm 20000000
def lb(L:Nat→Option Blk→Prop)(b:Nat):Prop:=∃nm B,L nm (some B)∧B.b=b
structure Inv(L:Nat→Option Blk→Prop)(w0:World)(R:Nat→Prop)(ι:Nat→Option Blk)(w:World)(tm:Array Value)(σ:St):Prop where
 ext:Ext (lb L) w0 w
 rlt:∀b,R b→b<w.heap.size
 env:∀s,Rep R ι w (tm.getD s undef) (σ.env s)
 men:∀s,(σ.env s).All (fun m=>σ.hp m≠ .free)
 hp:HpOk R ι w σ.hp
 old:∀nm z cs,σ.hp nm=.own z cs→(zR nm=false∧∀B,ι nm=some B→w0.heap.size≤B.b)∨(zR nm=true∧L nm (ι nm))
 lf:∀nm,zR nm=true→σ.hp nm≠ .free
 gd:GdL (lb L) w0
def Snd(K:AV→(Nat→Ob)→Prop)(R:Nat→Prop)(L:Nat→Option Blk→Prop)(w0:World)(tm:Array Value)(env:Nat→AV)(r:Result Next):Prop:=
 ∃x w' ι' av hp',(r=.ok (.value x) w'∨(r=.ok .skip w'∧x=undef))∧K av hp'∧Rep R ι' w' x av∧av.All (fun m=>hp' m≠ .free)∧
  Inv L w0 R ι' w' tm ⟨env,hp'⟩
section
variable {K:AV→(Nat→Ob)→Prop}{L:Nat→Option Blk→Prop}{w0 w:World}{R:Nat→Prop}{ι:Nat→Option Blk}{tm:Array Value}{σ:St}
theorem Snd.same{x:Value}{av:AV}{r:Result Next}(hi:Inv L w0 R ι w tm σ)(hr:r=.ok (.value x) w)(hk:K av σ.hp)(hx:Rep R ι w x av)
  (hm:av.All (fun m=>σ.hp m≠ .free)):Snd K R L w0 tm σ.env r:=
 ⟨x,w,ι,av,σ.hp,.inl hr,hk,hx,hm,hi⟩
theorem Snd.scalar{x:Value}{r:Result Next}(hi:Inv L w0 R ι w tm σ)(hr:r=.ok (.value x) w)(hk:K (.v x) σ.hp):Snd K R L w0 tm σ.env r:=
 Snd.same hi hr hk (.fr _ _ (.v _)) (by simp[AV.All])
theorem HpOk.mono{R':Nat→Prop}{ι':Nat→Option Blk}{w':World}{hp:Nat→Ob}(h:HpOk R ι w hp)
  (hw:∀b,R b→w'.heap[b]? =w.heap[b]?) (hO:∀nm z cs B,hp nm=.own z cs→ι nm=some B→w'.heap[B.b]? =w.heap[B.b]?)
  (hR:∀b,R b→R' b) (hn:∀nm z cs B,hp nm=.own z cs→ι nm=some B→¬R' B.b) (hι:∀nm,hp nm≠ .free→ι' nm=ι nm):HpOk R' ι' w' hp:=by
 have hown:∀{nm z cs},hp nm=.own z cs→ι' nm=ι nm:=fun e=>hι _ (by rw[e];simp)
 refine⟨fun nm=>?_,fun nm z cs B e hB=>hn nm z cs B e (by rw[←hown e];exact hB),
  fun nm nm' z z' cs cs' B B' e e' hB hB'=>h.inj nm nm' z z' cs cs' B B' e e' (by rw[←hown e];exact hB) (by rw[←hown e'];exact hB'),h.men⟩
 have hk:=h.ok nm
 have hO':=hO nm
 have hm:=h.men nm
 have he:=@hown nm
 generalize hp nm=ob at*
 cases ob with
 |free=>trivial
 |dead=>trivial
 |own z cs=>
  rw[he rfl]
  simp only[OOk]at hk ⊢
  cases hB:ι nm with
  |none=>rw[hB]at hk;exact hk
  |some B=>
   rw[hB]at hk
   obtain⟨c,T,lo,hi,h1,h2,h3,h4,h5,h6⟩:=hk
   exact⟨c,T,lo,hi,by rw[hO' z cs B rfl hB];exact h1,h2,h3,h4,h5,fun i hi=>
    (h6 i hi).mono hw hR _ ((hm z cs rfl).get i hi) fun m hm'=>hι m hm'⟩
theorem Inv.next{R':Nat→Prop}{ι':Nat→Option Blk}{w':World}(h:Inv L w0 R ι w tm σ)(he:Ext (lb L) w0 w')
  (hl:∀b,R' b→b<w'.heap.size) (hw:∀b,b<w.heap.size→w'.heap[b]? =w.heap[b]?) (hR:∀b,R b→R' b)
  (hn:∀nm z cs B,σ.hp nm=.own z cs→ι nm=some B→¬R' B.b) (hι:∀nm,σ.hp nm≠ .free→ι' nm=ι nm):
  Inv L w0 R' ι' w' tm σ:=by
 have hb:∀nm z cs B,σ.hp nm=.own z cs→ι nm=some B→B.b<w.heap.size:=by
  intro nm z cs B e hB
  have:=h.hp.ok nm
  rw[e,hB]at this
  obtain⟨c,T,lo,hi,h1,_⟩:=this
  rcases Nat.lt_or_ge B.b w.heap.size with h'|h'
  ·exact h'
  ·simp[Array.getElem?_eq_none h']at h1
 refine⟨he,hl,fun s=>(h.env s).mono (fun b hb=>hw b (h.rlt b hb)) hR _ (h.men s) hι,h.men,
  h.hp.mono (fun b hb=>hw b (h.rlt b hb)) (fun nm z cs B e hB=>hw _ (hb nm z cs B e hB)) hR hn hι,fun nm z cs e=>?_,h.lf,h.gd⟩
 rw[hι nm (by rw[e];simp)];exact h.old nm z cs e
theorem Inv.oldb(h:Inv L w0 R ι w tm σ){nm z:Nat}{cs:List AV}{B:Blk}(e:σ.hp nm=.own z cs)(hB:ι nm=some B):w0.heap.size≤B.b∨lb L B.b:=by
 rcases h.old nm z cs e with h1|h1
 ·exact .inl (h1.2 B hB)
 ·rw[hB]at h1;exact .inr ⟨nm,B,h1.2,rfl⟩
theorem Inv.nl(h:Inv L w0 R ι w tm σ){nm:Nat}(e:σ.hp nm=.free):zR nm=false:=by
 cases hl:zR nm with
 |false=>rfl
 |true=>exact absurd e (h.lf nm hl)
theorem Inv.block_lt(h:Inv L w0 R ι w tm σ){nm z:Nat}{cs:List AV}{B:Blk}(e:σ.hp nm=.own z cs)(hB:ι nm=some B):B.b<w.heap.size:=by
 have:=h.hp.ok nm
 rw[e,hB]at this
 obtain⟨c,T,lo,hi,h1,_⟩:=this
 rcases Nat.lt_or_ge B.b w.heap.size with h'|h'
 ·exact h'
 ·simp[Array.getElem?_eq_none h']at h1
theorem Inv.gdw(h:Inv L w0 R ι w tm σ):Gd w:=h.gd.1.next h.ext.size fun g l e=>h.ext.block g (h.gd.1 g l e).1 (h.gd.2 g l e)
theorem Inv.gno(h:Inv L w0 R ι w tm σ){nm z:Nat}{cs:List AV}{B:Blk}(e:σ.hp nm=.own z cs)(hB:ι nm=some B):∀g l,glb g=some l→B.b≠g:=fun g l hg hb=>by
 rcases h.oldb e hB with h1|h1
 ·have:=(h.gd.1 g l hg).1;omega
 ·rw[hb]at h1;exact h.gd.2 g l hg h1
theorem Ext.refl(L:Nat→Prop)(w:World):Ext L w w:=⟨rfl,rfl,rfl,Nat.le_refl _,fun _ _ _=>rfl⟩
theorem Ext.draw{L:Nat→Prop}(h:Ext L w0 w):Ext L w0 w.drew:=⟨h.os,h.tape,h.output,h.size,h.block⟩
theorem Inv.drew(h:Inv L w0 R ι w tm σ):Inv L w0 R ι w.drew tm σ:=
 h.next h.ext.draw h.rlt (fun _ _=>rfl) (fun _ h=>h) h.hp.nR (fun _ _=>rfl)
theorem Inv.new{nm z:Nat}{cs:List AV}{w':World}{c:Array Value}{T:TypeId}{lo hi:Nat}(h:Inv L w0 R ι w tm σ)(hf:σ.hp nm=.free)
  (hos:w'.os=w.os) (ht:w'.tape=w.tape) (ho:w'.output=w.output) (hs:w'.heap.size=w.heap.size+1)
  (hw:∀b,b<w.heap.size→w'.heap[b]? =w.heap[b]?) (hn:w'.heap[w.heap.size]? =some (.cells c T (lo,hi)))
  (hfz:lo=hi∨c.size≤lo) (hl:cs.length≤c.size) (hm:AllL (fun m=>σ.hp m≠ .free) cs)
  (hc:∀i (h:i<cs.length),Rep R ι w (c.getD i undef) cs[i]):
  Inv L w0 R (upd ι nm (some ⟨w.heap.size,0,c.size,z⟩)) w' tm ⟨σ.env,upd σ.hp nm (.own z cs)⟩:=by
 have hι:∀m,σ.hp m≠ .free→upd ι nm (some ⟨w.heap.size,0,c.size,z⟩) m=ι m:=fun m hm=>qm (fun e=>hm (e▸hf))
 have he:Ext (lb L) w0 w':=⟨hos.trans h.ext.os,ht.trans h.ext.tape,ho.trans h.ext.output,by have:=h.ext.size;omega,
  fun b hb hL=>(hw b (by have:=h.ext.size;omega)).trans (h.ext.block b hb hL)⟩
 have hN:=h.next (ι':=upd ι nm (some ⟨w.heap.size,0,c.size,z⟩)) he (fun b hb=>by have:=h.rlt b hb;omega) hw (fun _ h=>h) h.hp.nR hι
 have hup:∀m,σ.hp m≠ .free→upd σ.hp nm (.own z cs) m≠ .free:=fun m hm=>by
  simp only[upd];split<;>simp_all
 have hsp:∀m z' cs',upd σ.hp nm (.own z cs) m=.own z' cs'→(m=nm∧z'=z∧cs'=cs)∨(m≠nm∧σ.hp m=.own z' cs'):=by
  intro m z' cs' e
  by_cases hm:m=nm
  ·subst hm;rw[qj]at e;cases e;exact .inl ⟨rfl,rfl,rfl⟩
  ·rw[qm hm]at e;exact .inr ⟨hm,e⟩
 have hbl:∀m z' cs' B,σ.hp m=.own z' cs'→upd ι nm (some ⟨w.heap.size,0,c.size,z⟩) m=some B→B.b<w.heap.size:=fun m z' cs' B e hB=>
  h.block_lt e (by rw[←hι m (by rw[e];simp)];exact hB)
 refine⟨hN.ext,hN.rlt,hN.env,fun s=>(h.men s).mono hup,⟨fun m=>?_,fun m z' cs' B e hB=>?_,fun m m' z' z'' cs' cs'' B B' e e' hB hB' hbb=>?_,fun m z' cs' e=>?_⟩,
  fun m z' cs' e=>?_,fun m hm=>hup m (h.lf m hm),h.gd⟩
 ·by_cases hm':m=nm
  ·subst hm'
   show OOk _ _ _ (upd ι m _ m) (upd σ.hp m _ m)
   rw[qj,qj]
   refine⟨c,T,lo,hi,hn,hfz,rfl,Nat.le_refl _,by simpa using hl,fun i hi=>?_⟩
   have:=(hc i hi).mono (w':=w') (R':=R) (ι':=upd ι m (some ⟨w.heap.size,0,c.size,z⟩)) (fun b hb=>hw b (h.rlt b hb)) (fun _ h=>h) _ (hm.get i hi) hι
   simpa using this
  ·have:=hN.hp.ok m
   simp only[qm hm']at this ⊢
   exact this
 ·rcases hsp m z' cs' e with⟨rfl,_,_⟩|⟨hne,e⟩
  ·rw[qj]at hB;cases hB
   intro hR;have:=h.rlt _ hR;simp at this
  ·exact hN.hp.nR m z' cs' B e hB
 ·rcases hsp m z' cs' e with⟨h1,_,_⟩|⟨hne,f⟩<;>rcases hsp m' z'' cs'' e' with⟨h2,_,_⟩|⟨hne',f'⟩
  ·exact h1.trans h2.symm
  ·have:=hbl m' _ _ _ f' hB';rw[h1,qj]at hB;cases hB;simp only at hbb;omega
  ·have:=hbl m _ _ _ f hB;rw[h2,qj]at hB';cases hB';simp only at hbb;omega
  ·exact hN.hp.inj m m' z' z'' cs' cs'' B B' f f' hB hB' hbb
 ·rcases hsp m z' cs' e with⟨_,_,rfl⟩|⟨hne,e⟩
  ·exact hm.mono hup
  ·exact(h.hp.men m z' cs' e).mono hup
 ·rcases hsp m z' cs' e with⟨rfl,_,_⟩|⟨hne,e⟩
  ·refine .inl ⟨h.nl hf,fun B hB=>?_⟩
   rw[qj]at hB;cases hB
   exact h.ext.size
  ·exact hN.old m z' cs' e
theorem Snd.new{nm z n:Nat}{cs:List AV}{w':World}{c:Array Value}{T:TypeId}{lo hi cap:Nat}{av:AV}{x:Value}{r:Result Next}(h:Inv L w0 R ι w tm σ)(hf:σ.hp nm=.free)
  (hos:w'.os=w.os) (ht:w'.tape=w.tape) (ho:w'.output=w.output) (hs:w'.heap.size=w.heap.size+1)
  (hw:∀b,b<w.heap.size→w'.heap[b]? =w.heap[b]?) (hn:w'.heap[w.heap.size]? =some (.cells c T (lo,hi)))
  (hfz:lo=hi∨c.size≤lo) (hl:cs.length≤c.size) (hm:AllL (fun m=>σ.hp m≠ .free) cs)
  (hc:∀i (h:i<cs.length),Rep R ι w (c.getD i undef) cs[i]) (hr:r=.ok (.value x) w') (hk:K av (upd σ.hp nm (.own z cs)))
  (hx:(av=.pt nm 0∧x=.pointer (some ⟨w.heap.size,0,none⟩))∨(av=.rf nm 0 n∧x=.slice (some ⟨w.heap.size,0,none⟩) n cap∧n≤cap∧cap*z≤c.size)):
  Snd K R L w0 tm σ.env r:=by
 refine⟨x,w',_,av,_,.inl hr,hk,?_,?_,h.new hf hos ht ho hs hw hn hfz hl hm hc⟩
 ·rcases hx with⟨rfl,rfl⟩|⟨rfl,rfl,h1,h2⟩
  ·have:=Rep.pt (R:=R) (w:=w') (ι:=upd ι nm (some ⟨w.heap.size,0,c.size,z⟩)) nm 0 ⟨w.heap.size,0,c.size,z⟩ (qj _ _ _)
   simpa using this
  ·refine .rf nm 0 n cap _ ⟨h1,?_⟩
   rw[qj]
   exact fun _=>⟨rfl,by simpa using h2⟩
 ·rcases hx with⟨rfl,_⟩|⟨rfl,_⟩<;>simp[AV.All,qj]
end
end Go.Ab
namespace Go.Ab
open Go
/-! ### Types-/
inductive Kd where
 |int (k:IntKind)
 |bool
 |str
 |sli (e:Nat)
 |stru (fs:List (Nat×Nat))
 |arr (n e:Nat)
 |oth
structure TI where
 kd:Kd
 size:Nat
 bytes:Nat
 zero:Value
def J3:TypeDesc→Kd
 | .int k=>.int k
 | .bool=>.bool
 | .string=>.str
 | .slice e=>.sli e
 | .struct fs=>.stru (fs.toList.map fun f=>(f.offset,f.type))
 | .array n e=>.arr n e
 |_=>.oth
def qz(P:Program)(t:TypeId):Option TI:=
 match P.info? t,P.underlying t with
 |some i,some d=>match i.zero with
  |some z=>some ⟨J3 d,i.size,i.bytes,z⟩
  |none=>none
 |_,_=>none
theorem zo{P:Program}{t:TypeId}{ti:TI}(h:qz P t=some ti):
  ∃i d,P.info? t=some i∧P.underlying t=some d∧i.zero=some ti.zero∧J3 d=ti.kd∧i.size=ti.size∧i.bytes=ti.bytes:=by
 unfold qz at h
 split at h
 ·rename_i i d hi hd
  split at h
  ·rename_i z hz
   cases h
   exact⟨i,d,hi,hd,hz,rfl,rfl,rfl⟩
  ·cases h
 ·cases h
def Kd.agg:Kd→Bool
 | .stru _=>true
 | .arr _ _=>true
 |_=>false
section ty
variable {P:Program}{t:TypeId}{ti:TI}{w:World}
theorem qW(h:qz P t=some ti):(sizeOf t).run P w=.ok ti.size w:=by
 obtain⟨i,d,hi,hd,hz,hk,hs,hb⟩:=zo h
 simp[sizeOf,typeInfo,hi,hs,go_sem]
theorem zp(h:qz P t=some ti):∃d,(underlying t).run P w=.ok d w∧J3 d=ti.kd:=by
 obtain⟨i,d,hi,hd,hz,hk,hs,hb⟩:=zo h
 exact⟨d,by simp[underlying,hd,go_sem],hk⟩
theorem Z8(h:qz P t=some ti):(isAgg t).run P w=.ok ti.kd.agg w:=by
 obtain⟨i,d,hi,hd,hz,hk,hs,hb⟩:=zo h
 rw[←hk]
 cases d<;>simp[isAgg,underlying,hd,go_sem,J3,Kd.agg]
theorem jR(h:qz P t=some ti):(zeroValue t).run P w=.ok ti.zero w:=by
 obtain⟨i,d,hi,hd,hz,hk,hs,hb⟩:=zo h
 simp[zeroValue,typeInfo,hi,hz,go_sem]
theorem KZ(h:qz P t=some ti):∃i,(typeInfo t).run P w=.ok i w∧i.bytes=ti.bytes∧i.size=ti.size:=by
 obtain⟨i,d,hi,hd,hz,hk,hs,hb⟩:=zo h
 exact⟨i,by simp[typeInfo,hi,go_sem],hb,hs⟩
end ty
/-! ### Values of operands-/
def ofV:Value→AV
 | .agg vs=>.ag (vs.toList.map .v)
 |x=>.v x
def St.ev(σ:St):Operand→AV
 | .tmp t=>σ.env t
 | .const c=>ofV c
 | .global g=>.v (.pointer (some ⟨g,0,none⟩))
 | .func f=>.fn f []
section inv
variable {R:Nat→Prop}{ι:Nat→Option Blk}{w:World}{x:Value}
theorem Rep.v_inv{y:Value}(h:Rep R ι w x (.v y)):x=y:=by
 cases h with|fr _ _ h=>cases h;rfl
theorem Rep.sl_inv{n:Nat}{cs:List AV}(h:Rep R ι w x (.sl n cs)):FRep R w x (.sl n cs):=by
 cases h with|fr _ _ h=>exact h
theorem Rep.fp_inv{o:Nat}{cs:List AV}(h:Rep R ι w x (.fp cs o)):FRep R w x (.fp cs o):=by
 cases h with|fr _ _ h=>exact h
theorem Rep.fp_ex{o:Nat}{cs:List AV}(h:Rep R ι w x (.fp cs o)):∃b o0,∃vs:Nat→Value,x=.pointer (some ⟨b,o0+o,none⟩)∧(0<cs.length→R b)∧
  (∀i,i<cs.length→w.cell? ⟨b,o0+i,none⟩=some (vs i))∧(∀i (h:i<cs.length),FRep R w (vs i) cs[i]):=by
 cases h.fp_inv with|fp b o0 _ _ vs hR hv hr=>exact⟨b,o0,vs,rfl,hR,hv,hr⟩
theorem Rep.rf_inv{nm o n:Nat}(h:Rep R ι w x (.rf nm o n)):∃a cap,x=.slice a n cap∧aq8 (ι nm) o n cap a:=by
 cases h with
 |fr _ _ h=>cases h
 |rf _ _ _ cap a h=>exact⟨a,cap,rfl,h⟩
theorem Rep.pt_inv{nm o:Nat}(h:Rep R ι w x (.pt nm o)):∃B,ι nm=some B∧x=.pointer (some ⟨B.b,B.base+o,none⟩):=by
 cases h with
 |fr _ _ h=>cases h
 |pt _ _ B h=>exact⟨B,h,rfl⟩
theorem Rep.ag_inv{cs:List AV}(h:Rep R ι w x (.ag cs)):∃vs:Array Value,x=.agg vs∧vs.size=cs.length∧∀i (h:i<cs.length),Rep R ι w (vs.getD i undef) cs[i]:=by
 cases h with
 |fr _ _ h=>cases h with|ag vs _ hs hr=>exact⟨vs,rfl,hs,fun i h=>.fr _ _ (hr i h)⟩
 |ag vs _ hs hr=>exact⟨vs,rfl,hs,hr⟩
theorem Rep.tu_inv{cs:List AV}(h:Rep R ι w x (.tu cs)):∃vs:Array Value,x=.tuple vs∧vs.size=cs.length∧∀i (h:i<cs.length),Rep R ι w (vs.getD i undef) cs[i]:=by
 cases h with
 |fr _ _ h=>cases h with|tu vs _ hs hr=>exact⟨vs,rfl,hs,fun i h=>.fr _ _ (hr i h)⟩
 |tu vs _ hs hr=>exact⟨vs,rfl,hs,hr⟩
theorem Rep.fn_inv{f:Nat}{cs:List AV}(h:Rep R ι w x (.fn f cs)):∃vs:Array Value,x=.func (.func f) #[] vs∧vs.size=cs.length∧∀i (h:i<cs.length),Rep R ι w (vs.getD i undef) cs[i]:=by
 cases h with
 |fr _ _ h=>cases h with|fn _ vs _ hs hr=>exact⟨vs,rfl,hs,fun i h=>.fr _ _ (hr i h)⟩
 |fn _ vs _ hs hr=>exact⟨vs,rfl,hs,hr⟩
theorem FRep.all{a:AV}(h:FRep R w x a)(p:Nat→Prop:=fun _=>True):a.All p:=by
 induction h with
 |un=>simp[AV.All]
 |v=>simp[AV.All]
 |sl=>simp[AV.All]
 |fp=>simp[AV.All]
 |fn f vs cs hs hr ih=>simp only[AV.All];exact AllL.of_get ih
 |ag vs cs hs hr ih=>simp only[AV.All];exact AllL.of_get ih
 |tu vs cs hs hr ih=>simp only[AV.All];exact AllL.of_get ih
theorem Zm(vs:Array Value):∀i (h:i<(vs.toList.map AV.v).length),Rep R ι w (vs.getD i undef) (vs.toList.map AV.v)[i]:=by
 intro i h
 have h':i<vs.size:=by simpa using h
 simp only[List.getElem_map,Array.getElem_toList]
 rw[Array.getD_eq_getD_getElem?,Array.getElem?_eq_getElem h']
 exact .fr _ _ (.v _)
theorem ahG(c:Value):Rep R ι w c (ofV c):=by
 unfold ofV
 split
 ·exact .ag _ _ (by simp) (Zm _)
 ·exact .fr _ _ (.v _)
theorem akn(p:Nat→Prop)(c:Value):(ofV c).All p:=by
 unfold ofV
 split
 ·simp only[AV.All];exact AllL.of_mem (by simp[AV.All])
 ·simp[AV.All]
def AV.cells:AV→Option (List AV)
 | .ag cs=>some cs
 | .v (.agg vs)=>some (vs.toList.map .v)
 | .un=>none
 | .tu _=>none
 |a=>some [a]
theorem Qo{a:AV}{cs:List AV}(h:Rep R ι w x a)(hc:a.cells=some cs):
  x.cells.size=cs.length∧∀i (h:i<cs.length),Rep R ι w (x.cells.getD i undef) cs[i]:=by
 unfold AV.cells at hc
 split at hc
 ·cases hc
  obtain⟨vs,rfl,hs,hr⟩:=h.ag_inv
  exact⟨hs,hr⟩
 ·cases hc
  have:=h.v_inv;subst this
  exact⟨by simp[Value.cells],by simp only[Value.cells];exact Zm _⟩
 ·cases hc
 ·cases hc
 ·rename_i a h1 h2 h3 h4
  cases hc
  have:x.cells= #[x]:=by
   unfold Value.cells
   split
   ·rename_i vs
    exfalso
    cases h with
    |fr _ _ h=>cases h with
     |un=>exact h3 rfl
     |v=>exact h2 _ rfl
     |ag=>exact h1 _ rfl
    |ag=>exact h1 _ rfl
   ·rfl
  rw[this]
  refine⟨rfl,fun i hi=>?_⟩
  have:i=0:=by simpa using hi
  subst this
  simpa using h
theorem Qp{a:AV}{cs:List AV}{p:Nat→Prop}(h:a.All p)(hc:a.cells=some cs):AllL p cs:=by
 unfold AV.cells at hc
 split at hc
 ·cases hc;simpa [AV.All]using h
 ·cases hc;exact AllL.of_mem (by simp[AV.All])
 ·cases hc
 ·cases hc
 ·cases hc;simp[AllL];exact h
def AV.cellish:AV→Bool
 | .un=>false
 | .ag _=>false
 | .tu _=>false
 | .v (.agg _)=>false
 | .v (.tuple _)=>false
 |_=>true
theorem YV{a:AV}(h:Rep R ι w x a)(hc:a.cellish=true):(∀vs,x≠ .agg vs)∧∀vs,x≠ .tuple vs:=by
 cases h with
 |fr _ _ h=>cases h<;>simp_all[AV.cellish]<;>(constructor<;>(intro vs e;subst e;simp at hc))
 |rf=>simp
 |pt=>simp
 |fn=>simp
 |ag=>simp[AV.cellish]at hc
 |tu=>simp[AV.cellish]at hc
end inv
theorem Inv.ev{L:Nat→Option Blk→Prop}{w0 w:World}{R:Nat→Prop}{ι:Nat→Option Blk}{a:Act}{σ:St}(h:Inv L w0 R ι w a.tmps σ)(x:Operand):
  Rep R ι w (a.eval x) (σ.ev x):=by
 cases x with
 |tmp t=>exact h.env t
 |const c=>exact ahG c
 |global g=>exact .fr _ _ (.v _)
 |func f=>exact .fn f #[] [] rfl (by simp)
theorem Inv.ev_all{L:Nat→Option Blk→Prop}{w0 w:World}{R:Nat→Prop}{ι:Nat→Option Blk}{tm:Array Value}{σ:St}(h:Inv L w0 R ι w tm σ)(x:Operand):
  (σ.ev x).All (fun m=>σ.hp m≠ .free):=by
 cases x with
 |tmp t=>exact h.men t
 |const c=>exact akn _ c
 |global g=>simp[St.ev,AV.All]
 |func f=>simp[St.ev,AV.All,AllL]
/-! ### Memory-/
def cut(cs:List AV)(o k:Nat):List AV:=(cs.drop o).take k
theorem qM{cs:List AV}{o k:Nat}(h:o+k≤cs.length):(cut cs o k).length=k:=by simp[cut];omega
theorem Qc{cs:List AV}{o k i:Nat}(h:o+k≤cs.length)(hi:i<k):(cut cs o k)[i]'(by rw[qM h];exact hi)=cs[o+i]:=by
 simp[cut]
def rdA(agg:Bool)(size:Nat)(cs:List AV)(o:Nat):AV:=bif agg then .ag (cut cs o size)else cs.getD o .un
theorem zC(b o i:Nat):(⟨b,o,none⟩:Addr).add i=⟨b,o+i,none⟩:=by
 unfold Addr.add;split
 ·subst_vars;rfl
 ·rfl
theorem zO{P:Program}{w:World}{b o:Nat}(f:Nat→Value):∀(n i:Nat) (acc:Array Value),(∀j,j<n→w.cell? ⟨b,o+(i+j),none⟩=some (f (i+j)))→
  (loadCellsFrom ⟨b,o,none⟩ i n acc).run P w=.ok (acc++((List.range n).map fun j=>f (i+j)).toArray) w
 |0,i,acc,_=>by simp[loadCellsFrom,go_sem]
 |n+1,i,acc,h=>by
  have h0:=h 0 (by omega)
  simp only[Nat.add_zero]at h0
  have ih:=zO (P:=P) (w:=w) (b:=b) (o:=o) f n (i+1) (acc.push (f i)) (fun j hj=>by
   have:=h (j+1) (by omega)
   rw[show i+1+j=i+(j+1) by omega];exact this)
  simp only[loadCellsFrom,zC]
  simp only[load,Sem.run_bind,Sem.run,h0,Result.andThen]
  rw[ih]
  congr 1
  rw[List.range_succ_eq_map]
  apply Array.ext'
  simp[Function.comp_def,Nat.add_assoc,Nat.add_comm 1]
theorem zS{P:Program}{w:World}{b o:Nat}(f:Nat→Value)(n:Nat)(h:∀j,j<n→w.cell? ⟨b,o+j,none⟩=some (f j)):
  (loadCells ⟨b,o,none⟩ n).run P w=.ok ((List.range n).map f).toArray w:=by
 have:=zO (P:=P) f n 0 #[] (fun j hj=>by simpa using h j hj)
 simpa [loadCells]using this
theorem yP{P:Program}{R:Nat→Prop}{ι:Nat→Option Blk}{w:World}{t:TypeId}{ti:TI}(ht:qz P t=some ti){b o:Nat}{cs:List AV}{j:Nat}(f:Nat→Value)
  (hc:∀i,i<cs.length→w.cell? ⟨b,o+i,none⟩=some (f i)) (hr:∀i (h:i<cs.length),Rep R ι w (f i) cs[i])
  (hl:j+(bif ti.kd.agg then ti.size else 1)≤cs.length):
  ∃x,(loadVar t ⟨b,o+j,none⟩).run P w=.ok x w∧Rep R ι w x (rdA ti.kd.agg ti.size cs j):=by
 unfold loadVar
 simp only[Sem.run_bind,Z8 ht,Result.andThen]
 cases hA:ti.kd.agg with
 |true=>
  simp only[hA,cond_true]at hl
  have hlc:=zS (P:=P) (w:=w) (b:=b) (o:=o+j) (fun i=>f (j+i)) ti.size (fun i hi=>by
   rw[Nat.add_assoc];exact hc _ (by omega))
  refine⟨.agg ((List.range ti.size).map fun i=>f (j+i)).toArray,?_,?_⟩
  ·simp only[↓reduceIte,Sem.run_bind,qW ht,Result.andThen,hlc];rfl
  ·simp only[rdA,cond_true]
   refine .ag _ _ (by simp[qM hl]) (fun i hi=>?_)
   have hi':i<ti.size:=by rw[qM hl]at hi;exact hi
   rw[Qc hl hi']
   simpa [hi']using hr (j+i) (by omega)
 |false=>
  simp only[hA,cond_false]at hl
  refine⟨f j,?_,?_⟩
  ·simp[load,Sem.run,hc j (by omega)]
  ·simp only[rdA,cond_false]
   rw[List.getD_eq_getElem?_getD,List.getElem?_eq_getElem (by omega)]
   exact hr j (by omega)
end Go.Ab
namespace Go.Ab
open Go
theorem jh(w:World)(b o:Nat)(x:Value)(b':Nat)(h:b'≠b):(w.setCell ⟨b,o,none⟩ x).heap[b']? =w.heap[b']? :=by
 simp only[World.setCell,Array.getElem?_modify]
 rw[if_neg (fun e=>h e.symm)]
theorem yd(w:World)(b o:Nat)(x:Value){c:Array Value}{T:TypeId}{fz:Nat×Nat}(h:w.heap[b]? =some (.cells c T fz)):
  (w.setCell ⟨b,o,none⟩ x).heap[b]? =some (.cells (c.setIfInBounds o x) T fz):=by
 simp only[World.setCell,Array.getElem?_modify,↓reduceIte,h,Option.map_some]
 rfl
section
variable {L:Nat→Option Blk→Prop}{w0 w:World}{R:Nat→Prop}{ι:Nat→Option Blk}{tm:Array Value}{σ:St}
theorem Inv.turn{nm z:Nat}{cs cs':List AV}{B:Blk}{w':World}(h:Inv L w0 R ι w tm σ)(e:σ.hp nm=.own z cs)(hB:ι nm=some B)
  (hos:w'.os=w.os) (ht:w'.tape=w.tape) (ho:w'.output=w.output) (hs:w'.heap.size=w.heap.size)
  (hw:∀b,b≠B.b→w'.heap[b]? =w.heap[b]?)
  (hc:OOk R ι w' (some B) (.own z cs')) (hm:AllL (fun m=>σ.hp m≠ .free) cs'):
  Inv L w0 R ι w' tm ⟨σ.env,upd σ.hp nm (.own z cs')⟩:=by
 have hRb:∀b,R b→w'.heap[b]? =w.heap[b]? :=fun b hb=>hw b (fun eb=>h.hp.nR nm z cs B e hB (eb▸hb))
 have hup:∀m,σ.hp m≠ .free→upd σ.hp nm (.own z cs') m≠ .free:=fun m hm=>by
  simp only[upd];split<;>simp_all
 have hsp:∀m z' cs'',upd σ.hp nm (.own z cs') m=.own z' cs''→(m=nm∧z'=z∧cs''=cs')∨(m≠nm∧σ.hp m=.own z' cs''):=by
  intro m z' cs'' e
  by_cases hm:m=nm
  ·subst hm;rw[qj]at e;cases e;exact .inl ⟨rfl,rfl,rfl⟩
  ·rw[qm hm]at e;exact .inr ⟨hm,e⟩
 have hel:∀m z' cs'',upd σ.hp nm (.own z cs') m=.own z' cs''→∃z0 cs0,σ.hp m=.own z0 cs0:=by
  intro m z' cs'' em
  rcases hsp m z' cs'' em with⟨rfl,_,_⟩|⟨_,f⟩
  ·exact⟨_,_,e⟩
  ·exact⟨_,_,f⟩
 refine⟨⟨hos.trans h.ext.os,ht.trans h.ext.tape,ho.trans h.ext.output,by rw[hs];exact h.ext.size,fun b hb hL=>?_⟩,fun b hb=>by rw[hs];exact h.rlt b hb,
  fun s=>(h.env s).mono hRb (fun _ h=>h) (fun _=>True) (AV.all_true (fun _=>trivial) _) (fun _ _=>rfl),fun s=>(h.men s).mono hup,⟨fun m=>?_,fun m z' cs'' B' em hB'=>?_,
   fun m m' z' z'' c1 c2 B1 B2 e1 e2 hB1 hB2 hbb=>?_,fun m z' cs'' em=>?_⟩,fun m z' cs'' em=>?_,fun m hm=>hup m (h.lf m hm),h.gd⟩
 ·rw[hw b (fun eb=>?_)]
  ·exact h.ext.block b hb hL
  ·subst eb
   rcases h.oldb e hB with h1|h1
   ·omega
   ·exact hL h1
 ·by_cases hm':m=nm
  ·subst hm'
   show OOk R ι w' (ι m) (upd σ.hp m _ m)
   rw[qj,hB];exact hc
  ·show OOk R ι w' (ι m) (upd σ.hp nm _ m)
   rw[qm hm']
   have:=h.hp.ok m
   revert this
   cases em:σ.hp m with
   |free=>exact fun _=>trivial
   |dead=>exact fun _=>trivial
   |own z' c'=>
    simp only[OOk]
    cases hBm:ι m with
    |none=>exact id
    |some B'=>
     rintro⟨c,T,lo,hi,h1,h2,h3,h4,h5,h6⟩
     exact⟨c,T,lo,hi,by rw[hw _ (fun eb=>hm' (h.hp.inj m nm z' z c' cs B' B em e hBm hB eb))];exact h1,h2,h3,h4,h5,fun i hi=>
      (h6 i hi).mono hRb (fun _ h=>h) (fun _=>True) (AV.all_true (fun _=>trivial) _) (fun _ _=>rfl)⟩
 ·obtain⟨z0,cs0,f⟩:=hel m z' cs'' em
  exact h.hp.nR m z0 cs0 B' f hB'
 ·obtain⟨z1,d1,f1⟩:=hel m z' c1 e1
  obtain⟨z2,d2,f2⟩:=hel m' z'' c2 e2
  exact h.hp.inj m m' z1 z2 d1 d2 B1 B2 f1 f2 hB1 hB2 hbb
 ·rcases hsp m z' cs'' em with⟨_,_,rfl⟩|⟨_,f⟩
  ·exact hm.mono hup
  ·exact(h.hp.men m z' cs'' f).mono hup
 ·obtain⟨z0,cs0,f⟩:=hel m z' cs'' em
  exact h.old m z0 cs0 f
theorem zX{nm z:Nat}{cs:List AV}{B:Blk}(h:Inv L w0 R ι w tm σ)(e:σ.hp nm=.own z cs)(hB:ι nm=some B):
  ∃c T lo hi,w.heap[B.b]? =some (.cells c T (lo,hi))∧(lo=hi∨c.size≤lo)∧B.z=z∧B.top≤c.size∧
    B.base+cs.length≤B.top∧∀i (h:i<cs.length),Rep R ι w (c.getD (B.base+i) undef) cs[i]:=by
 have:=h.hp.ok nm
 rw[e,hB]at this
 exact this
theorem Yv{c:Array Value}{T:TypeId}{lo hi b o:Nat}(h:w.heap[b]? =some (.cells c T (lo,hi)))(hf:lo=hi∨c.size≤lo)(ho:o<c.size):
  w.frozen? ⟨b,o,none⟩=false:=by
 simp only[World.frozen?,h]
 simp only[Bool.and_eq_false_iff,decide_eq_false_iff_not]
 omega
theorem zI{c:Array Value}{T:TypeId}{fz:Nat×Nat}{b o:Nat}(h:w.heap[b]? =some (.cells c T fz))(ho:o<c.size):w.cell? ⟨b,o,none⟩=some (c.getD o undef):=by
 simp only[World.cell?,h,Option.isSome_none]
 simp[ho]
theorem Inv.store1{nm z o:Nat}{cs:List AV}{B:Blk}{x:Value}{a:AV}(h:Inv L w0 R ι w tm σ)(e:σ.hp nm=.own z cs)(hB:ι nm=some B)(ho:o<cs.length)
  (hx:Rep R ι w x a) (hm:a.All (fun m=>σ.hp m≠ .free)):
  Inv L w0 R ι (w.setCell ⟨B.b,B.base+o,none⟩ x) tm ⟨σ.env,upd σ.hp nm (.own z (cs.set o a))⟩:=by
 obtain⟨c,T,lo,hi,h1,h2,h3,h4,h5,h6⟩:=zX h e hB
 have hRb:∀b,R b→(w.setCell ⟨B.b,B.base+o,none⟩ x).heap[b]? =w.heap[b]? :=fun b hb=>jh _ _ _ _ _ (fun eb=>h.hp.nR nm z cs B e hB (eb▸hb))
 refine h.turn e hB rfl rfl rfl (by simp[World.setCell]) (fun b hb=>jh _ _ _ _ _ hb) ⟨_,T,lo,hi,yd _ _ _ _ h1,by simpa using h2,h3,by simpa using h4,by simpa using h5,fun i hi'=>?_⟩
  (AllL.of_get fun i hi'=>?_)
 ·simp only[List.length_set]at hi'
  rw[List.getElem_set]
  rw[Array.getD_eq_getD_getElem?,Array.getElem?_setIfInBounds]
  by_cases hio:o=i
  ·subst hio
   have:B.base+o<c.size:=by omega
   simp only[↓reduceIte,this,Option.getD_some]
   exact hx.mono hRb (fun _ h=>h) (fun _=>True) (AV.all_true (fun _=>trivial) _) (fun _ _=>rfl)
  ·rw[if_neg (by omega),if_neg hio]
   have:=h6 i hi'
   rw[Array.getD_eq_getD_getElem?]at this
   exact this.mono hRb (fun _ h=>h) (fun _=>True) (AV.all_true (fun _=>trivial) _) (fun _ _=>rfl)
 ·simp only[List.length_set]at hi'
  rw[List.getElem_set]
  split
  ·exact hm
  ·exact(h.hp.men nm z cs e).get i hi'
theorem X8{P:Program}{nm z o:Nat}{cs:List AV}{B:Blk}{x:Value}(h:Inv L w0 R ι w tm σ)(e:σ.hp nm=.own z cs)(hB:ι nm=some B)(ho:o<cs.length)
  (hx:(∀vs,x≠ .agg vs)∧∀vs,x≠ .tuple vs):
  (store ⟨B.b,B.base+o,none⟩ x).run P w=.ok () (w.setCell ⟨B.b,B.base+o,none⟩ x):=by
 obtain⟨c,T,lo,hi,h1,h2,h3,h4,h5,h6⟩:=zX h e hB
 have hc:=zI h1 (o:=B.base+o) (by omega)
 have hf:=Yv h1 h2 (o:=B.base+o) (by omega)
 have hx1:=hx.1
 have hx2:=hx.2
 unfold store
 cases x<;>first
  |(exact absurd rfl (hx1 _))
  |(exact absurd rfl (hx2 _))
  |(simp only[Sem.run,hc,hf];rfl)
def wr:List AV→Nat→List AV→List AV
 |cs,_,[]=>cs
 |cs,o,k::r=>wr (cs.set o k) (o+1) r
theorem Inv.stores{P:Program}{nm z:Nat}{B:Blk}(hB:ι nm=some B):∀(vs:List Value) (ks:List AV) (o j:Nat) (cs:List AV) (w:World) (σ:St),Inv L w0 R ι w tm σ→σ.hp nm=.own z cs→
  o+j+ks.length≤cs.length→vs.length=ks.length→(∀i (h:i<ks.length),Rep R ι w (vs.getD i undef) ks[i])→(∀k∈ks,k.cellish=true)→AllL (fun m=>σ.hp m≠ .free) ks→
  ∃w',(storeCells ⟨B.b,B.base+o,none⟩ vs j).run P w=.ok () w'∧Inv L w0 R ι w' tm ⟨σ.env,upd σ.hp nm (.own z (wr cs (o+j) ks))⟩
 | [],ks,o,j,cs,w,σ,h,e,hl,hv,hr,hc,hm=>by
  have:ks=[]:=by cases ks<;>simp_all
  subst this
  refine⟨w,by simp[storeCells,go_sem],?_⟩
  have:upd σ.hp nm (.own z (wr cs (o+j) []))=σ.hp:=by
   funext m;simp only[upd,wr];split
   ·subst_vars;exact e.symm
   ·rfl
  rw[this];exact h
 |v::vs,[],o,j,cs,w,σ,h,e,hl,hv,hr,hc,hm=>by simp at hv
 |v::vs,k::ks,o,j,cs,w,σ,h,e,hl,hv,hr,hc,hm=>by
  simp only[List.length_cons]at hl hv
  have hv0:Rep R ι w v k:=hr 0 (by simp)
  have hk:=YV hv0 (hc k (by simp))
  simp only[AllL]at hm
  have h1:=h.store1 e hB (o:=o+j) (by omega) hv0 hm.1
  have hRb:∀b,R b→(w.setCell ⟨B.b,B.base+(o+j),none⟩ v).heap[b]? =w.heap[b]? :=fun b hb=>jh _ _ _ _ _ (fun eb=>h.hp.nR nm z cs B e hB (eb▸hb))
  have hup:∀m,σ.hp m≠ .free→upd σ.hp nm (.own z (cs.set (o+j) k)) m≠ .free:=fun m hm=>by
   simp only[upd];split<;>simp_all
  obtain⟨w',hw',hi'⟩:=Inv.stores (P:=P) (nm:=nm) (z:=z) hB vs ks o (j+1) (cs.set (o+j) k) _ _ h1 (by simp[qj]) (by simp;omega) (by omega)
   (fun i hi=>by
    have:=hr (i+1) (by simpa using hi)
    simp at this
    simpa using this.mono hRb (fun _ h=>h) (fun _=>True) (AV.all_true (fun _=>trivial) _) (fun _ _=>rfl)) (fun k hk=>hc k (by simp[hk])) (hm.2.mono hup)
  refine⟨w',?_,?_⟩
  ·simp only[storeCells,zC,Sem.run_bind,Nat.add_assoc]
   rw[X8 h e hB (o:=o+j) (by omega) hk]
   simp only[Result.andThen]
   rw[←hw']
  ·have:upd (upd σ.hp nm (.own z (cs.set (o+j) k))) nm (.own z (wr (cs.set (o+j) k) (o+(j+1)) ks))=upd σ.hp nm (.own z (wr cs (o+j) (k::ks))):=by
    funext m;simp only[upd,wr,Nat.add_assoc];split<;>simp_all
   rw[←this];exact hi'
end
end Go.Ab
namespace Go.Ab
open Go
/-! ### Scalars-/
def yF(op:BinOp)(k:IntKind)(x:Int)(k':IntKind)(y:Int)(K:AV→Prop):Prop:=
 match op with
 | .shl=>0≤y∧(0≤y→K (.v (.int k (k.wrap (x*2^(min y.toNat k.bits))))))
 | .shr=>0≤y∧(0≤y→K (.v (.int k (x.fdiv (2^(min y.toNat k.bits))))))
 | .add=>k=k'∧K (.v (.int k (k.wrap (x+y))))
 | .sub=>k=k'∧K (.v (.int k (k.wrap (x-y))))
 | .mul=>k=k'∧K (.v (.int k (k.wrap (x*y))))
 | .quo=>k=k'∧y≠0∧(y≠0→K (.v (.int k (k.wrap (x.tdiv y)))))
 | .rem=>k=k'∧y≠0∧(y≠0→K (.v (.int k (x.tmod y))))
 | .and=>k=k'∧K (.v (.int k (k.wrap (BitVec.ofInt k.bits x&&&BitVec.ofInt k.bits y).toNat)))
 | .or=>k=k'∧K (.v (.int k (k.wrap (BitVec.ofInt k.bits x|||BitVec.ofInt k.bits y).toNat)))
 | .xor=>k=k'∧K (.v (.int k (k.wrap (BitVec.ofInt k.bits x^^^BitVec.ofInt k.bits y).toNat)))
 | .andNot=>k=k'∧K (.v (.int k (k.wrap (BitVec.ofInt k.bits x&&& ~~~BitVec.ofInt k.bits y).toNat)))
 | .eql=>k=k'∧K (.v (.bool (x==y)))
 | .neq=>k=k'∧K (.v (.bool (x != y)))
 | .lss=>k=k'∧K (.v (.bool (decide (x<y))))
 | .leq=>k=k'∧K (.v (.bool (decide (x≤y))))
 | .gtr=>k=k'∧K (.v (.bool (decide (x>y))))
 | .geq=>k=k'∧K (.v (.bool (decide (x≥y))))
def aof(op:BinOp)(x y:ByteArray)(K:AV→Prop):Prop:=
 match op with
 | .add=>x.size+y.size<2^62∧K (.v (.string (x++y)))
 | .eql=>K (.v (.bool (x.toList==y.toList)))
 | .neq=>K (.v (.bool (!(x.toList==y.toList))))
 |_=>False
def aik(op:BinOp)(may:Prop)(K:AV→Prop):Prop:=
 match op with
 | .eql=>(may→K (.v (.bool true)))∧K (.v (.bool false))
 | .neq=>(may→K (.v (.bool false)))∧K (.v (.bool true))
 |_=>False
def anf(k:Int)(s:Bool)(m e k':Int)(s':Bool)(m' e':Int):Bool:=decide (k=k')&&((s==s')&&(decide (m=m')&&decide (e=e')))
class FlE (P:Program) (t:TypeId):Prop where
 eq:∀(w:World) (k m e k' m' e':Int) (s s':Bool),(Op.equal t (.agg #[.int .i64 k,.bool s,.int .i64 m,.int .i64 e]) (.agg #[.int .i64 k',.bool s',.int .i64 m',.int .i64 e'])).run P w=.ok (anf k s m e k' s' m' e') w
 ng:P.eqGuardType P.depth t=false
def flA(op:BinOp)(cs ds:List AV)(K:AV→Prop):Prop:=
 match cs,ds with
 | [.v (.int .i64 k),.v (.bool s),.v (.int .i64 m),.v (.int .i64 e)],[.v (.int .i64 k'),.v (.bool s'),.v (.int .i64 m'),.v (.int .i64 e')]=>match op with
  | .eql=>K (.v (.bool (anf k s m e k' s' m' e')))
  | .neq=>K (.v (.bool (!anf k s m e k' s' m' e')))
  |_=>False
 |_,_=>False
def yl(P:Program)(op:BinOp)(t:TypeId)(a b:AV)(K:AV→Prop):Prop:=
 match a,b with
 | .v (.int k x),.v (.int k' y)=>yF op k x k' y K
 | .v (.string x),.v (.string y)=>aof op x y K
 | .v (.bool x),.v (.bool y)=>(∃ti,qz P t=some ti∧ti.kd=.bool)∧match op with
  | .eql=>K (.v (.bool (x==y)))
  | .neq=>K (.v (.bool (!(x==y))))
  |_=>False
 | .ag cs,.ag ds=>FlE P t∧flA op cs ds K
 |_,_=>False
def yq:Operand→Bool
 | .const (.slice none 0 0)=>true
 |_=>false
def aii(P:Program)(op:BinOp)(t:TypeId)(a:AV)(K:AV→Prop):Prop:=
 ∃ti e te,qz P t=some ti∧ti.kd=.sli e∧qz P e=some te∧match a with
 | .sl _ cs=>aik op (cs=[]) K
 | .rf _ _ n=>aik op (n=0) K
 | .v (.slice none 0 0)=>match op with
  | .eql=>K (.v (.bool true))
  | .neq=>K (.v (.bool false))
  |_=>False
 |_=>False
def unA(op:UnOp)(a:AV)(K:AV→Prop):Prop:=
 match op,a with
 | .neg,.v (.int k n)=>K (.v (.int k (k.wrap (0-n))))
 | .not,.v (.bool b)=>K (.v (.bool !b))
 |_,_=>False
theorem aiL{P:Program}{w:World}{op:BinOp}{k k':IntKind}{x y:Int}{K:AV→Prop}(h:yF op k x k' y K)(t:TypeId):
  ∃z,(binOp op t (.int k x) (.int k' y)).run P w=.ok z w∧K (.v z):=by
 cases op<;>simp only[yF]at h
 case shl=>exact⟨_,by simp[binOp,Op.shift,Int.not_lt.2 h.1,go_sem],h.2 h.1⟩
 case shr=>exact⟨_,by simp[binOp,Op.shift,Int.not_lt.2 h.1,go_sem],h.2 h.1⟩
 case quo=>obtain⟨rfl,h1,h2⟩:=h;exact⟨_,by simp[binOp,Op.intDiv,h1,go_sem],h2 h1⟩
 case rem=>obtain⟨rfl,h1,h2⟩:=h;exact⟨_,by simp[binOp,Op.intDiv,h1,go_sem],h2 h1⟩
 all_goals
  obtain⟨rfl,h2⟩:=h
  refine⟨_,?_,h2⟩
  simp only[binOp,Op.intArith,Op.intBits,Op.intCmp,ne_eq,not_true_eq_false,if_false]
  rfl
theorem yw{P:Program}{w:World}{t:TypeId}(a b:Bool)(d:Nat)(h:(underlying t).run P w=.ok .bool w):
  (Op.equalIn (d+1) t (.bool a) (.bool b)).run P w=.ok (a==b) w:=by
 simp only[Op.equalIn,Sem.run_bind,h]
 rfl
theorem jA{P:Program}{w:World}{t:TypeId}(a b:Bool)(h:(underlying t).run P w=.ok .bool w):
  (Op.equal t (.bool a) (.bool b)).run P w=.ok (a==b) w:=yw a b 9999 h
theorem jc{P:Program}{w:World}{d:Nat}{t e:TypeId}{a:Option Addr}{l c:Nat}(h:(underlying t).run P w=.ok (.slice e) w):
  (Op.equalIn (d+1) t (.slice a l c) (.slice none 0 0)).run P w=.ok a.isNone w:=by
 cases a<;>simp only[Op.equalIn,Sem.run_bind,h,Result.andThen]<;>rfl
theorem aaH{d:TypeDesc}{e:Nat}(h:J3 d=.sli e):d=.slice e:=by
 cases d<;>simp_all[J3]
theorem aaj{P:Program}{w:World}{op:BinOp}{t:TypeId}{K:AV→Prop}{may:Prop}{a:Option Addr}{l c:Nat}(ht:∃ti e,qz P t=some ti∧ti.kd=.sli e)(hm:a=none→may)(h:aik op may K)(X Y:Operand):
  ∃z,(do eqGuard op t X Y (.slice a l c) (.slice none 0 0);binOp op t (.slice a l c) (.slice none 0 0):Sem Value).run P w=.ok z w∧K (.v z):=by
 obtain⟨ti,e,ht,hk⟩:=ht
 obtain⟨d,hd,hkd⟩:=zp (w:=w) ht
 have:=aaH (hkd.trans hk);subst this
 have hq:(Op.equal t (.slice a l c) (.slice none 0 0)).run P w=.ok a.isNone w:=jc (d:=9999) hd
 have hg:(eqGuard op t X Y (.slice a l c) (.slice none 0 0)).run P w=.ok () w:=by unfold eqGuard;cases op<;>rfl
 rw[Sem.run_bind,hg]
 unfold aik at h
 cases op<;>simp only at h
 case eql=>
  refine⟨.bool a.isNone,?_,?_⟩
  ·show(do pure (.bool (←Op.equal t (.slice a l c) (.slice none 0 0))):Sem Value).run P w=_
   rw[Sem.run_bind,hq];rfl
  ·cases a with
   |none=>exact h.1 (hm rfl)
   |some a=>exact h.2
 case neq=>
  refine⟨.bool (!a.isNone),?_,?_⟩
  ·show(do pure (.bool (!(←Op.equal t (.slice a l c) (.slice none 0 0)))):Sem Value).run P w=_
   rw[Sem.run_bind,hq];rfl
  ·cases a with
   |none=>exact h.1 (hm rfl)
   |some a=>exact h.2
theorem aq7{vs:Array Value}(h:vs.size=4):vs= #[vs.getD 0 undef,vs.getD 1 undef,vs.getD 2 undef,vs.getD 3 undef]:=by
 refine Array.ext (by simp[h]) fun i hi _=>?_
 rcases(by omega:i=0∨i=1∨i=2∨i=3)with rfl|rfl|rfl|rfl<;>simp[h]
theorem anc{P:Program}{R:Nat→Prop}{ι:Nat→Option Blk}{w:World}{op:BinOp}{t:TypeId}{x y:Value}{cs ds:List AV}{K:AV→Prop}(he:FlE P t)(h:flA op cs ds K)
  (hx:Rep R ι w x (.ag cs)) (hy:Rep R ι w y (.ag ds)) (X Y:Operand):
  ∃z,(do eqGuard op t X Y x y;binOp op t x y:Sem Value).run P w=.ok z w∧K (.v z):=by
 unfold flA at h
 split at h
 ·rename_i k s m e k' s' m' e'
  obtain⟨vs,rfl,hs,hr⟩:=hx.ag_inv
  obtain⟨us,rfl,hs',hr'⟩:=hy.ag_inv
  have a0:=(hr 0 (by simp)).v_inv
  have a1:=(hr 1 (by simp)).v_inv
  have a2:=(hr 2 (by simp)).v_inv
  have a3:=(hr 3 (by simp)).v_inv
  have b0:=(hr' 0 (by simp)).v_inv
  have b1:=(hr' 1 (by simp)).v_inv
  have b2:=(hr' 2 (by simp)).v_inv
  have b3:=(hr' 3 (by simp)).v_inv
  have ev:=aq7 hs
  have eu:=aq7 hs'
  rw[a0,a1,a2,a3]at ev
  rw[b0,b1,b2,b3]at eu
  subst ev;subst eu
  have hg:(eqGuard op t X Y (.agg #[.int .i64 k,.bool s,.int .i64 m,.int .i64 e]) (.agg #[.int .i64 k',.bool s',.int .i64 m',.int .i64 e'])).run P w=.ok () w:=by
   unfold eqGuard
   cases op<;>simp[go_sem,he.ng]
  rw[Sem.run_bind,hg]
  split at h
  ·refine⟨_,?_,h⟩
   show(do pure (.bool (←Op.equal t _ _)):Sem Value).run P w=_
   rw[Sem.run_bind,he.eq];rfl
  ·refine⟨_,?_,h⟩
   show(do pure (.bool (!(←Op.equal t _ _))):Sem Value).run P w=_
   rw[Sem.run_bind,he.eq];rfl
  ·exact h.elim
 ·exact h.elim
theorem aj0{P:Program}{R:Nat→Prop}{ι:Nat→Option Blk}{w:World}{op:BinOp}{t:TypeId}{x y:Value}{a b:AV}{K:AV→Prop}(h:yl P op t a b K)
  (hx:Rep R ι w x a) (hy:Rep R ι w y b) (X Y:Operand):
  ∃z,(do eqGuard op t X Y x y;binOp op t x y:Sem Value).run P w=.ok z w∧K (.v z):=by
 unfold yl at h
 split at h
 ·rename_i k n k' n'
  have:=hx.v_inv;subst this
  have:=hy.v_inv;subst this
  obtain⟨z,hz,hk⟩:=aiL (P:=P) (w:=w) h t
  refine⟨z,?_,hk⟩
  rw[Sem.run_bind]
  have:(eqGuard op t X Y (.int k n) (.int k' n')).run P w=.ok () w:=by
   unfold eqGuard;cases op<;>rfl
  rw[this];exact hz
 ·have:=hx.v_inv;subst this
  have:=hy.v_inv;subst this
  rename_i s1 s2
  have hg:(eqGuard op t X Y (.string s1) (.string s2)).run P w=.ok () w:=by
   unfold eqGuard;cases op<;>rfl
  rw[Sem.run_bind,hg]
  unfold aof at h
  split at h
  ·refine⟨_,?_,h.2⟩
   have:¬(((s1.size+s2.size:Nat):Int)>IntKind.i64.max):=by
    simp only[IntKind.max,IntKind.signed,IntKind.bits];simp;omega
   show(Op.stringOp .add s1 s2).run P w=_
   simp only[Op.stringOp,this,if_false];rfl
  ·exact⟨_,rfl,h⟩
  ·exact⟨_,rfl,h⟩
  ·exact h.elim
 ·have:=hx.v_inv;subst this
  have:=hy.v_inv;subst this
  rename_i b1 b2
  obtain⟨⟨ti,ht,hb⟩,h⟩:=h
  obtain⟨d,hd,hk⟩:=zp (w:=w) ht
  have:d=.bool:=by cases d<;>simp_all[J3]
  subst this
  split at h
  ·refine⟨_,?_,h⟩
   rw[Sem.run_bind]
   show(do pure (.bool (←Op.equal t (.bool b1) (.bool b2))):Sem Value).run P w=_
   rw[Sem.run_bind,jA b1 b2 hd]
   rfl
  ·refine⟨_,?_,h⟩
   rw[Sem.run_bind]
   show(do pure (.bool (!(←Op.equal t (.bool b1) (.bool b2)))):Sem Value).run P w=_
   rw[Sem.run_bind,jA b1 b2 hd]
   rfl
  ·exact h.elim
 ·exact anc h.1 h.2 hx hy X Y
 ·exact h.elim
theorem ad2{P:Program}{R:Nat→Prop}{ι:Nat→Option Blk}{w:World}{op:BinOp}{t:TypeId}{x:Value}{a:AV}{K:AV→Prop}(h:aii P op t a K)
  (hx:Rep R ι w x a) (X Y:Operand):
  ∃z,(do eqGuard op t X Y x (.slice none 0 0);binOp op t x (.slice none 0 0):Sem Value).run P w=.ok z w∧K (.v z):=by
 obtain⟨ti,e,te,ht1,ht2,ht3,h⟩:=h
 have ht:∃ti e,qz P t=some ti∧ti.kd=.sli e:=⟨ti,e,ht1,ht2⟩
 split at h
 ·rename_i n cs
  cases hx.sl_inv with
  |sl a _ cap _ vs b o hcap ha hv hr=>
   refine aaj ht (fun e=>?_) h X Y
   rcases Nat.eq_zero_or_pos cs.length with h0|h0
   ·exact List.length_eq_zero_iff.1 h0
   ·rw[(ha h0).1]at e;cases e
 ·obtain⟨a,cap,rfl,hc,hs⟩:=hx.rf_inv
  refine aaj ht (fun e=>?_) h X Y
  rename_i nm o n
  cases hB:ι nm with
  |none=>rw[hB]at hs;simp only at hs;omega
  |some B=>
   rw[hB]at hs
   rcases Nat.eq_zero_or_pos cap with h0|h0
   ·omega
   ·rw[(hs h0).1]at e;cases e
 ·have:=hx.v_inv;subst this
  obtain⟨ti,e,ht,hk⟩:=ht
  obtain⟨d,hd,hkd⟩:=zp (w:=w) ht
  have:=aaH (hkd.trans hk);subst this
  have hq:(Op.equal t (.slice none 0 0) (.slice none 0 0)).run P w=.ok true w:=jc (d:=9999) hd
  have hg:(eqGuard op t X Y (.slice none 0 0) (.slice none 0 0)).run P w=.ok () w:=by unfold eqGuard;cases op<;>rfl
  rw[Sem.run_bind,hg]
  cases op<;>simp only at h
  case eql=>
   refine⟨.bool true,?_,h⟩
   show(do pure (.bool (←Op.equal t (.slice none 0 0) (.slice none 0 0))):Sem Value).run P w=_
   rw[Sem.run_bind,hq];rfl
  case neq=>
   refine⟨.bool false,?_,h⟩
   show(do pure (.bool (!(←Op.equal t (.slice none 0 0) (.slice none 0 0)))):Sem Value).run P w=_
   rw[Sem.run_bind,hq];rfl
 ·exact h.elim
theorem akW{P:Program}{R:Nat→Prop}{ι:Nat→Option Blk}{w:World}{op:UnOp}{x:Value}{a:AV}{K:AV→Prop}(h:unA op a K)(hx:Rep R ι w x a):
  ∃z,(Op.unary op x).run P w=.ok z w∧K (.v z):=by
 unfold unA at h
 split at h
 ·have:=hx.v_inv;subst this;exact⟨_,rfl,h⟩
 ·have:=hx.v_inv;subst this;exact⟨_,rfl,h⟩
 ·exact h.elim
end Go.Ab
namespace Go.Ab
open Go
def crn(o:Oper):Nat:=20000000+10000000*(o.dst.getD 0)
def zc(ti:TI):List AV:=ti.zero.cells.toList.map .v
def zu(n:Nat)(zs:List AV):List AV:=(List.replicate n zs).flatten
def yg(place:Nat→Option (Nat×Nat))(cells:List AV):List (Nat×AV)→Option (List AV)
 | []=>some cells
 |(i,a)::rest=>match place i,a.cells with
  |some (off,size),some cs=>if cs.length=size∧off+size≤cells.length then yg place (wr cells off cs) rest else none
  |_,_=>none
def Jc(P:Program)(fs:List (Nat×Nat))(i:Nat):Option (Nat×Nat):=
 match fs[i]? with
 |some f=>match qz P f.2 with
  |some tf=>some (f.1,tf.size)
  |none=>none
 |none=>none
def abQ(σ:St)(d:Int):Option Operand→(Int→Prop)→Prop
 |none,K=>K d
 |some x,K=>match σ.ev x with
  | .v (.int _ i)=>K i
  |_=>False
def aea(P:Program)(t:TypeId)(hp:Nat→Ob)(a:AV)(K:AV→Prop):Prop:=
 ∃ti,qz P t=some ti∧match a with
  | .pt nm o=>match hp nm with
   | .own _ cs=>o+(bif ti.kd.agg then ti.size else 1)≤cs.length∧(o+(bif ti.kd.agg then ti.size else 1)≤cs.length→K (rdA ti.kd.agg ti.size cs o))
   |_=>False
  | .fp cs o=>o+(bif ti.kd.agg then ti.size else 1)≤cs.length∧(o+(bif ti.kd.agg then ti.size else 1)≤cs.length→K (rdA ti.kd.agg ti.size cs o))
  |_=>False
def alh(P:Program)(t:TypeId)(hp:Nat→Ob)(a v:AV)(K:(Nat→Ob)→Prop):Prop:=
 ∃ti ks,qz P t=some ti∧v.cells=some ks∧ks.length=ti.size∧(∀k∈ks,k.cellish=true)∧match a with
  | .pt nm o=>match hp nm with
   | .own z cs=>o+ti.size≤cs.length∧(o+ti.size≤cs.length→K (upd hp nm (.own z (wr cs o ks))))
   |_=>False
  |_=>False
def afV(P:Program)(s f:Nat)(K:Nat→TI→Prop):Prop:=
 ∃ti fs fo tf,qz P s=some ti∧ti.kd=.stru fs∧fs[f]? =some fo∧qz P fo.2=some tf∧K fo.1 tf
def KT(P:Program)(t:TypeId)(K:TI→Prop):Prop:=
 ∃ti e te,qz P t=some ti∧ti.kd=.sli e∧qz P e=some te∧K te
def amG(te:TI)(x i:AV)(K:AV→Prop):Prop:=
 match i with
 | .v (.int _ n)=>match x with
  | .sl len cs=>(0≤n∧n<len∧n.toNat*te.size<cs.length)∧(0≤n→n<len→K (.fp cs (n.toNat*te.size)))
  | .rf nm o len=>(0≤n∧n<len)∧(0≤n→n<len→K (.pt nm (o+n.toNat*te.size)))
  |_=>False
 |_=>False
def KS(te:TI)(x:AV)(σ:St)(lo hi:Option Operand)(K:AV→Prop):Prop:=
 match x with
 | .sl len cs=>abQ σ 0 lo fun l=>abQ σ len hi fun h=>(0≤l∧l≤h∧h≤len)∧(0≤l→l≤h→h≤len→K (.sl (h-l).toNat (cut cs (l.toNat*te.size) ((h-l).toNat*te.size))))
 | .rf nm o len=>(∃cs,σ.hp nm=.own te.size cs)∧abQ σ 0 lo fun l=>abQ σ len hi fun h=>(0≤l∧l≤h∧h≤len)∧(0≤l→l≤h→h≤len→K (.rf nm (o+l.toNat*te.size) (h-l).toNat))
 |_=>False
def ahK(c a b:AV)(K:AV→Prop):Prop:=
 match c with
 | .v (.bool t)=>K (bif t then a else b)
 |_=>False
def z5(P:Program)(o:Oper)(σ:St)(K:AV→(Nat→Ob)→Prop):Prop:=
 match o.op with
 | .move x=>K (σ.ev x) σ.hp
 | .assign x=>K (σ.ev x) σ.hp
 | .pick c a b=>ahK (σ.ev c) (σ.ev a) (σ.ev b) fun v=>K v σ.hp
 | .binOp op t x y _=>bif yq y then aii P op t (σ.ev x) (fun v=>K v σ.hp)else yl P op t (σ.ev x) (σ.ev y) fun v=>K v σ.hp
 | .unOp op _ x=>unA op (σ.ev x) fun v=>K v σ.hp
 | .alloc t=>∃ti,qz P t=some ti∧σ.hp (crn o)=.free∧K (.pt (crn o) 0) (upd σ.hp (crn o) (.own 0 (zc ti)))
 | .box _ x=>∃ks,(σ.ev x).cells=some ks∧σ.hp (crn o)=.free∧K (.pt (crn o) 0) (upd σ.hp (crn o) (.own 0 ks))
 | .build t parts=>∃ti fs cs,qz P t=some ti∧ti.kd=.stru fs∧(∀f∈fs,(qz P f.2).isSome=true)∧
   yg (Jc P fs) (zc ti) (parts.toList.map fun p=>(p.1,σ.ev p.2))=some cs∧K (.ag cs) σ.hp
 | .buildSlice t len parts=>KT P t fun te=>∃cs,0<te.size∧te.zero.cells.size=te.size∧len*te.size≤2^24∧
   yg (fun i=>some (i*te.size,te.size)) (zu len (zc te)) (parts.toList.map fun p=>(p.1,σ.ev p.2))=some cs∧σ.hp (crn o)=.free∧
   K (.rf (crn o) 0 len) (upd σ.hp (crn o) (.own te.size cs))
 | .load t x=>aea P t σ.hp (σ.ev x) fun v=>K v σ.hp
 | .store t a x=>alh P t σ.hp (σ.ev a) (σ.ev x) fun hp=>K .un hp
 | .fieldAddr s x f=>afV P s f fun off tf=>tf.size≠0∧match σ.ev x with
  | .pt nm o=>K (.pt nm (o+off)) σ.hp
  | .fp cs o=>K (.fp cs (o+off)) σ.hp
  |_=>False
 | .field s x f=>afV P s f fun off tf=>match σ.ev x with
  | .ag cs=>off+(bif tf.kd.agg then tf.size else 1)≤cs.length∧K (rdA tf.kd.agg tf.size cs off) σ.hp
  |_=>False
 | .indexAddr t x i=>KT P t fun te=>amG te (σ.ev x) (σ.ev i) fun v=>K v σ.hp
 | .slice t x lo hi none=>KT P t fun te=>KS te (σ.ev x) σ lo hi fun v=>K v σ.hp
 | .makeSlice t l c=>KT P t fun te=>match σ.ev l,σ.ev c with
  | .v (.int _ l),.v (.int _ c)=>(0≤l∧l≤c∧c≤2^40∧te.bytes≤100∧te.zero.cells.size=te.size∧0<te.size∧σ.hp (crn o)=.free)∧
    (0≤l→l≤c→K (.rf (crn o) 0 l.toNat) (upd σ.hp (crn o) (.own te.size (zu l.toNat (zc te)))))
  |_,_=>False
 | .extract x i=>match σ.ev x with
  | .tu cs=>i<cs.length∧K (cs.getD i .un) σ.hp
  |_=>False
 | .makeFunc (.func f) first cap=>first.size=0∧K (.fn f (cap.toList.map σ.ev)) σ.hp
 | .nilCheck x=>match σ.ev x with
  | .pt nm o=>K (.pt nm o) σ.hp
  | .fp cs o=>K (.fp cs o) σ.hp
  |_=>False
 |_=>False
end Go.Ab
namespace Go.Ab
open Go
theorem qq{s:Sem Value}{P:Program}{w w':World}{x:Value}(h:s.run P w=.ok x w'):(do pure (.value (←s)):Sem Next).run P w=.ok (.value x) w':=by
 rw[Sem.run_bind,h];rfl
section
variable {P:Program}{K:AV→(Nat→Ob)→Prop}{L:Nat→Option Blk→Prop}{w0 w:World}{R:Nat→Prop}{ι:Nat→Option Blk}{a:Act}{σ:St}
theorem Yh{p:Nat→Prop}{cs:List AV}(h:AllL p cs)(agg:Bool)(k o:Nat):(rdA agg k cs o).All p:=by
 cases agg with
 |true=>
  simp only[rdA,cond_true,AV.All]
  exact AllL.of_mem fun x hx=>h.mem (List.mem_of_mem_drop (List.mem_of_mem_take hx))
 |false=>
  simp only[rdA,cond_false]
  rw[List.getD_eq_getElem?_getD]
  by_cases hi:o<cs.length
  ·rw[List.getElem?_eq_getElem hi];exact h.get o hi
  ·rw[List.getElem?_eq_none (by omega)];simp[AV.All]
theorem akG{t:TypeId}{ad:Addr}:Instr.loadAt t (.pointer (some ad))=loadVar t ad:=rfl
theorem Xk{t:TypeId}{x:Value}{av:AV}{Q:AV→Prop}(h:Inv L w0 R ι w a.tmps σ)(hx:Rep R ι w x av)(hl:aea P t σ.hp av Q):
  ∃y b,(Instr.loadAt t x).run P w=.ok y w∧Q b∧Rep R ι w y b∧b.All (fun m=>σ.hp m≠ .free):=by
 obtain⟨ti,ht,hl⟩:=hl
 split at hl
 ·rename_i nm o
  obtain⟨B,hB,rfl⟩:=hx.pt_inv
  split at hl
  ·rename_i z cs e
   obtain⟨h1,h2⟩:=hl
   obtain⟨c,T,lo,hi,g1,g2,g3,g4,g5,g6⟩:=zX h e hB
   obtain⟨y,hy,hr⟩:=yP (P:=P) (R:=R) (ι:=ι) (w:=w) ht (b:=B.b) (o:=B.base) (cs:=cs) (j:=o) (fun i=>c.getD (B.base+i) undef)
    (fun i hi=>zI g1 (by omega)) g6 h1
   exact⟨y,_,hy,h2 h1,hr,Yh (h.hp.men nm z cs e) _ _ _⟩
  ·exact hl.elim
 ·rename_i cs o
  obtain⟨h1,h2⟩:=hl
  cases hx.fp_inv with
  |fp b o0 _ _ vs hR hv hr=>
   obtain⟨y,hy,hr'⟩:=yP (P:=P) (R:=R) (ι:=ι) (w:=w) ht (b:=b) (o:=o0) (cs:=cs) (j:=o) vs hv (fun i hi=>.fr _ _ (hr i hi)) h1
   refine⟨y,_,hy,h2 h1,hr',Yh (AllL.of_mem fun c hc=>?_) _ _ _⟩
   obtain⟨i,hi,rfl⟩:=List.getElem_of_mem hc
   exact FRep.all (hr i hi) _
 ·exact hl.elim
end
end Go.Ab
namespace Go.Ab
open Go
theorem aaG{d:TypeDesc}{fs:List (Nat×Nat)}(h:J3 d=.stru fs):∃fields,d=.struct fields∧fs=fields.toList.map fun f=>(f.offset,f.type):=by
 cases d<;>simp[J3]at h
 exact⟨_,rfl,h.symm⟩
theorem Jq{d:TypeDesc}{e:Nat}(h:J3 d=.sli e):d=.slice e:=by
 cases d<;>simp[J3]at h
 subst h;rfl
theorem aaI{d:TypeDesc}{k:IntKind}(h:J3 d=.int k):d=.int k:=by
 cases d<;>simp[J3]at h
 subst h;rfl
theorem Xn{d:TypeDesc}(h:J3 d=.str):d=.string:=by
 cases d<;>simp[J3]at h
 rfl
section
variable {P:Program}{K:AV→(Nat→Ob)→Prop}{L:Nat→Option Blk→Prop}{w0 w:World}{R:Nat→Prop}{ι:Nat→Option Blk}{a:Act}{σ:St}
theorem KY{t:TypeId}{ti:TI}{nm z o:Nat}{cs ks:List AV}{B:Blk}{x:Value}{v:AV}{tm:Array Value}(h:Inv L w0 R ι w tm σ)(ht:qz P t=some ti)
  (e:σ.hp nm=.own z cs) (hB:ι nm=some B) (hx:Rep R ι w x v) (hm:v.All (fun m=>σ.hp m≠ .free)) (hk:v.cells=some ks) (hs:ks.length=ti.size)
  (hc:∀k∈ks,k.cellish=true) (ho:o+ti.size≤cs.length):
  ∃w',(Instr.storeAt t (.pointer (some ⟨B.b,B.base+o,none⟩)) x).run P w=.ok () w'∧Inv L w0 R ι w' tm ⟨σ.env,upd σ.hp nm (.own z (wr cs o ks))⟩:=by
 obtain⟨h1,h2⟩:=Qo hx hk
 obtain⟨w',hw',hi⟩:=Inv.stores (P:=P) hB x.cells.toList ks o 0 cs w σ h e (by omega) (by simpa using h1) (fun i hi=>by
  have:=h2 i hi
  rw[List.getD_eq_getElem?_getD,Array.getElem?_toList,←Array.getD_eq_getD_getElem?];exact this) hc (Qp hm hk)
 refine⟨w',?_,by simpa using hi⟩
 show(storeVar t ⟨B.b,B.base+o,none⟩ x).run P w=_
 unfold storeVar
 simp only[Sem.run_bind,qW ht,Result.andThen]
 rw[if_neg (by rw[h1,hs];simp)]
 rw[←hw']
theorem QK{t:TypeId}{ti:TI}{fs:List (Nat×Nat)}{f:Nat}{fo:Nat×Nat}(ht:qz P t=some ti)(hk:ti.kd=.stru fs)(hf:fs[f]? =some fo):
  ∃fields fd,(underlying t).run P w=.ok (.struct fields) w∧fields[f]? =some fd∧fd.offset=fo.1∧fd.type=fo.2:=by
 obtain⟨d,hd,hk'⟩:=zp (w:=w) ht
 obtain⟨fields,rfl,rfl⟩:=aaG (hk'.trans hk)
 rw[List.getElem?_map,Option.map_eq_some_iff]at hf
 obtain⟨fd,h1,h2⟩:=hf
 exact⟨fields,fd,hd,by simpa using h1,by rw[←h2],by rw[←h2]⟩
theorem y9{s f off:Nat}{ti tf:TI}{fs:List (Nat×Nat)}{ft:Nat}(ht:qz P s=some ti)(hk:ti.kd=.stru fs)(hf:fs[f]? =some (off,ft))(hft:qz P ft=some tf)
  (hz:tf.size≠0) (b o:Nat):(Instr.fieldAt s (.pointer (some ⟨b,o,none⟩)) f).run P w=.ok (.pointer (some ⟨b,o+off,none⟩)) w:=by
 obtain⟨fields,fd,hu,hfd,rfl,rfl⟩:=QK (w:=w) ht hk hf
 have h3:(sizeOf fd.type).run P w=.ok tf.size w:=qW hft
 unfold Instr.fieldAt
 simp only[Sem.run_bind,hu,Result.andThen,hfd,Instr.sureAddr,Sem.run_pure,fieldPlace,h3,if_neg hz,zC]
end
end Go.Ab
namespace Go.Ab
open Go
section
variable {P:Program}{K:AV→(Nat→Ob)→Prop}{L:Nat→Option Blk→Prop}{w0 w:World}{R:Nat→Prop}{ι:Nat→Option Blk}{a:Act}{σ:St}
theorem aa5{s f off:Nat}{ti tf:TI}{fs:List (Nat×Nat)}{ft:Nat}{x:Value}{cs:List AV}(ht:qz P s=some ti)(hk:ti.kd=.stru fs)(hf:fs[f]? =some (off,ft))
  (hft:qz P ft=some tf) (hx:Rep R ι w x (.ag cs)) (hl:off+(bif tf.kd.agg then tf.size else 1)≤cs.length):
  ∃y,(Instr.field s x f).run P w=.ok y w∧Rep R ι w y (rdA tf.kd.agg tf.size cs off):=by
 obtain⟨fields,fd,hu,hfd,rfl,rfl⟩:=QK (w:=w) ht hk hf
 obtain⟨vs,rfl,hs,hr⟩:=hx.ag_inv
 unfold Instr.field
 simp only[Sem.run_bind,hu,Result.andThen,hfd,asAgg,Sem.run_pure,part,Z8 hft]
 cases hA:tf.kd.agg with
 |true=>
  simp only[hA,cond_true]at hl
  refine⟨.agg (vs.extract fd.offset (fd.offset+tf.size)),?_,?_⟩
  ·simp only[↓reduceIte,Sem.run_bind,qW hft,Result.andThen,Sem.run_pure]
  ·simp only[rdA,cond_true]
   refine .ag _ _ (by rw[qM hl];simp;omega) (fun i hi=>?_)
   have hi':i<tf.size:=by rw[qM hl]at hi;exact hi
   rw[Qc hl hi']
   have:=hr (fd.offset+i) (by omega)
   have e:(vs.extract fd.offset (fd.offset+tf.size)).getD i undef=vs.getD (fd.offset+i) undef:=by
    simp only[Array.getD_eq_getD_getElem?,Array.getElem?_extract]
    rw[if_pos (by omega)]
   rw[e];exact this
 |false=>
  simp only[hA,cond_false]at hl
  have hlt:fd.offset<vs.size:=by omega
  refine⟨vs.getD fd.offset undef,?_,?_⟩
  ·simp only[Bool.false_eq_true,↓reduceIte]
   rw[Array.getD_eq_getD_getElem?,Array.getElem?_eq_getElem hlt];rfl
  ·simp only[rdA,cond_false]
   rw[List.getD_eq_getElem?_getD,List.getElem?_eq_getElem (by omega)]
   exact hr fd.offset (by omega)
theorem zJ{t e:Nat}{ti:TI}(ht:qz P t=some ti)(hk:ti.kd=.sli e):(underlying t).run P w=.ok (.slice e) w:=by
 obtain⟨d,hd,hk'⟩:=zp (w:=w) ht
 rw[Jq (hk'.trans hk)]at hd;exact hd
theorem aiM{t:Nat}{x i:Value}{av iv:AV}{Q:AV→Prop}(h:Inv L w0 R ι w a.tmps σ)(hx:Rep R ι w x av)(hi:Rep R ι w i iv)(hm:av.All (fun m=>σ.hp m≠ .free))
  (hl:KT P t fun te=>amG te av iv Q):
  ∃y b,(Instr.indexAt t x i).run P w=.ok y w∧Q b∧Rep R ι w y b∧b.All (fun m=>σ.hp m≠ .free):=by
 obtain⟨ti,e,te,ht,hk,hte,hl⟩:=hl
 unfold amG at hl
 split at hl
 ·rename_i k n
  have:=hi.v_inv;subst this
  have hu:=zJ (w:=w) ht hk
  split at hl
  ·rename_i len cs
   obtain⟨⟨h0,h1,h2⟩,h3⟩:=hl
   cases hx.sl_inv with
   |sl ad _ cap _ vs b o hcap ha hv hr=>
    obtain⟨rfl,hR⟩:=ha (by omega)
    refine⟨.pointer (some ⟨b,o+n.toNat*te.size,none⟩),_,?_,h3 h0 h1,.fr _ _ (.fp b o cs _ vs (fun _=>hR) hv hr),by simp[AV.All]⟩
    unfold Instr.indexAt
    simp only[Sem.run_bind,asIntOf,Sem.run_pure,hu,Result.andThen]
    simp only[h0,h1,and_self,↓reduceIte,Sem.run_bind,qW hte,Result.andThen,zC,Sem.run_pure]
  ·rename_i nm o len
   obtain⟨⟨h0,h1⟩,h3⟩:=hl
   obtain⟨ad,cap,rfl,hc,hs⟩:=hx.rf_inv
   cases hB:ι nm with
   |none=>rw[hB]at hs;simp only at hs;omega
   |some B=>
    rw[hB]at hs
    obtain⟨rfl,h4⟩:=hs (by omega)
    refine⟨.pointer (some ⟨B.b,B.base+(o+n.toNat*te.size),none⟩),_,?_,h3 h0 h1,.pt nm _ B hB,by simpa [AV.All]using hm⟩
    unfold Instr.indexAt
    simp only[Sem.run_bind,asIntOf,Sem.run_pure,hu,Result.andThen]
    simp only[h0,h1,and_self,↓reduceIte,Sem.run_bind,qW hte,Result.andThen,zC,Sem.run_pure,Nat.add_assoc]
  ·exact hl.elim
 ·exact hl.elim
theorem ZO{d:Int}{lo:Option Operand}{Q:Int→Prop}(h:Inv L w0 R ι w a.tmps σ)(hl:abQ σ d lo Q):
  (∃i,Q i∧((lo=none∧i=d)∨∃X k,lo=some X∧a.eval X=.int k i)):=by
 cases lo with
 |none=>exact⟨d,hl,.inl ⟨rfl,rfl⟩⟩
 |some X=>
  simp only[abQ]at hl
  split at hl
  ·rename_i k i e
   have:=h.ev X
   rw[e]at this
   exact⟨i,hl,.inr ⟨X,k,rfl,this.v_inv⟩⟩
  ·exact hl.elim
theorem zP{X:Value}{k:IntKind}{i:Int}{y:Nat}{code:BoundsCode}(hX:X=.int k i)(h0:0≤i)(h1:i≤y):(Instr.sliceBound X y code).run P w=.ok i.toNat w:=by
 subst hX
 unfold Instr.sliceBound
 simp only[Sem.run_bind,asIntOf,Sem.run_pure,Result.andThen,h0,h1,and_self,↓reduceIte]
theorem QN{len cap:Nat}{lo hi:Option Operand}{l h:Int}(hlo:(lo=none∧l=0)∨∃X k,lo=some X∧a.eval X=.int k l)
  (hhi:(hi=none∧h=len)∨∃X k,hi=some X∧a.eval X=.int k h) (h0:0≤l) (h1:l≤h) (h2:h≤len) (hc:len≤cap):
  (Instr.sliceBounds true len cap (lo.map a.eval) (hi.map a.eval) none).run P w=.ok (l.toNat,h.toNat,cap) w:=by
 unfold Instr.sliceBounds
 rcases hlo with⟨rfl,rfl⟩|⟨X,k,rfl,hX⟩<;>rcases hhi with⟨rfl,rfl⟩|⟨Y,k',rfl,hY⟩<;>
  simp only[Option.map_none,Option.map_some,Sem.run_bind,Sem.run_pure,Result.andThen,Option.isSome_none]
 ·simp
 ·rw[zP hY (by omega) (by omega)];rfl
 ·rw[zP hX h0 (by omega)];simp
 ·rw[zP hY (by omega) (by omega)]
  simp only
  rw[zP hX h0 (by omega)]
theorem KR{t:Nat}{x:Value}{av:AV}{lo hi:Option Operand}{Q:AV→Prop}(h:Inv L w0 R ι w a.tmps σ)(hx:Rep R ι w x av)(hm:av.All (fun m=>σ.hp m≠ .free))
  (hl:KT P t fun te=>KS te av σ lo hi Q):
  ∃y b,(Instr.sliceAt t x (lo.map a.eval) (hi.map a.eval) none).run P w=.ok y w∧Q b∧Rep R ι w y b∧b.All (fun m=>σ.hp m≠ .free):=by
 obtain⟨ti,e,te,ht,hk,hte,hl⟩:=hl
 have hu:=zJ (w:=w) ht hk
 unfold KS at hl
 split at hl
 ·rename_i len cs
  obtain⟨l,hl,hlo⟩:=ZO h hl
  obtain⟨g,⟨⟨h0,h1,h2⟩,hl⟩,hhi⟩:=ZO h hl
  cases hx.sl_inv with
  |sl ad _ cap _ vs b o hcap ha hv hr=>
   have hb:=QN (P:=P) (w:=w) hlo hhi h0 h1 h2 hcap
   refine⟨.slice (if cap=l.toNat then ad else ad.map (·.add (l.toNat*te.size))) (g.toNat-l.toNat) (cap-l.toNat),_,?_,hl h0 h1 h2,?_,by simp[AV.All]⟩
   ·unfold Instr.sliceAt Instr.slice
    simp only[Sem.run_bind,hu,Result.andThen,hb,qW hte,Sem.run_pure]
   ·have e1:(g-l).toNat=g.toNat-l.toNat:=by omega
    rw[e1]
    have hcl:(cut cs (l.toNat*te.size) ((g.toNat-l.toNat)*te.size)).length≤cs.length-l.toNat*te.size:=by simp[cut];omega
    refine .fr _ _ (.sl _ _ _ _ (fun i=>vs (l.toNat*te.size+i)) b (o+l.toNat*te.size) (by omega) (fun hp=>?_) (fun i hi=>?_) (fun i hi=>?_))
    ·have hp':0<g.toNat-l.toNat:=by
      rcases Nat.eq_zero_or_pos (g.toNat-l.toNat)with h|h
      ·simp[cut,h]at hp
      ·exact h
     obtain⟨rfl,hR⟩:=ha (by omega)
     exact⟨by rw[if_neg (by omega)];simp[zC],hR⟩
    ·have:=hv (l.toNat*te.size+i) (by omega)
     rw[←this];congr 2;omega
    ·have:=hr (l.toNat*te.size+i) (by omega)
     simpa [cut]using this
 ·rename_i nm o len
  obtain⟨⟨cs,eo⟩,hl⟩:=hl
  obtain⟨l,hl,hlo⟩:=ZO h hl
  obtain⟨g,⟨⟨h0,h1,h2⟩,hl⟩,hhi⟩:=ZO h hl
  obtain⟨ad,cap,rfl,hcap,hs⟩:=hx.rf_inv
  have hb:=QN (P:=P) (w:=w) hlo hhi h0 h1 h2 hcap
  refine⟨.slice (if cap=l.toNat then ad else ad.map (·.add (l.toNat*te.size))) (g.toNat-l.toNat) (cap-l.toNat),_,?_,hl h0 h1 h2,?_,by simpa [AV.All]using hm⟩
  ·unfold Instr.sliceAt Instr.slice
   simp only[Sem.run_bind,hu,Result.andThen,hb,qW hte,Sem.run_pure]
  ·have e1:(g-l).toNat=g.toNat-l.toNat:=by omega
   rw[e1]
   refine .rf _ _ _ _ _ ⟨by omega,?_⟩
   cases hB:ι nm with
   |none=>rw[hB]at hs;simp only at hs ⊢;omega
   |some B=>
    rw[hB]at hs
    intro hp
    obtain⟨rfl,h4⟩:=hs (by omega)
    refine⟨by rw[if_neg (by omega)];simp[zC,Nat.add_assoc],?_⟩
    have hz:te.size=B.z:=by
     obtain⟨c,T,lo,hi,g1,g2,g3,_⟩:=zX h eo hB
     exact g3.symm
    rw[hz]
    have:(cap-l.toNat)*B.z+l.toNat*B.z=cap*B.z:=by rw[←Nat.add_mul];congr 1;omega
    omega
 ·exact hl.elim
end
end Go.Ab
namespace Go.Ab
open Go
def RepA(R:Nat→Prop)(ι:Nat→Option Blk)(w:World)(vs:Array Value)(cs:List AV):Prop:=
 vs.size=cs.length∧∀i (h:i<cs.length),Rep R ι w (vs.getD i undef) cs[i]
section
variable {P:Program}{K:AV→(Nat→Ob)→Prop}{L:Nat→Option Blk→Prop}{w0 w:World}{R:Nat→Prop}{ι:Nat→Option Blk}{a:Act}{σ:St}
theorem RepA.set{vs:Array Value}{cs:List AV}{x:Value}{k:AV}{o:Nat}(h:RepA R ι w vs cs)(hx:Rep R ι w x k):RepA R ι w (vs.setIfInBounds o x) (cs.set o k):=by
 refine⟨by simpa using h.1,fun i hi=>?_⟩
 simp only[List.length_set]at hi
 rw[List.getElem_set,Array.getD_eq_getD_getElem?,Array.getElem?_setIfInBounds]
 by_cases hio:o=i
 ·subst hio
  have:o<vs.size:=by rw[h.1];exact hi
  simp only[↓reduceIte,this,Option.getD_some];exact hx
 ·rw[if_neg hio,if_neg hio,←Array.getD_eq_getD_getElem?];exact h.2 i hi
theorem RepA.fold{off:Nat}:∀(l:List Value) (ks:List AV) (k:Nat) (vs:Array Value) (cs:List AV),RepA R ι w vs cs→l.length=ks.length→(∀i (h:i<ks.length),Rep R ι w (l.getD i undef) ks[i])→
  RepA R ι w ((l.zipIdx k).foldl (fun cs p=>cs.setIfInBounds (off+p.2) p.1) vs) (wr cs (off+k) ks)
 | [],[],k,vs,cs,h,_,_=>by simpa [wr]using h
 | [],_::_,_,_,_,_,hl,_=>by simp at hl
 |_::_,[],_,_,_,_,hl,_=>by simp at hl
 |v::l,a::ks,k,vs,cs,h,hl,hr=>by
  simp only[List.zipIdx_cons,List.foldl_cons,wr]
  have:=RepA.fold (off:=off) l ks (k+1) (vs.setIfInBounds (off+k) v) (cs.set (off+k) a) (h.set (hr 0 (by simp))) (by simpa using hl) (fun i hi=>hr (i+1) (by simpa using hi))
  simpa [Nat.add_assoc]using this
theorem ZD{place place':Nat→Option (Nat×Nat)}:∀(vps:List (Nat×Value)) (aps:List (Nat×AV)) (vs:Array Value) (cs out:List AV),(∀i p,place i=some p→place' i=some p)→
  RepA R ι w vs cs→vps.length=aps.length→(∀i (h:i<aps.length),∃(h':i<vps.length),(vps[i]).1=(aps[i]).1∧Rep R ι w (vps[i]).2 (aps[i]).2)→yg place cs aps=some out→
  ∃vo,Instr.fill place' vs vps=some vo∧RepA R ι w vo out
 | [],[],vs,cs,out,hp,h,_,_,hf=>by simp[yg]at hf;subst hf;exact⟨vs,rfl,h⟩
 | [],_::_,_,_,_,_,_,hl,_,_=>by simp at hl
 |_::_,[],_,_,_,_,_,hl,_,_=>by simp at hl
 |(i,v)::vps,(j,av)::aps,vs,cs,out,hp,h,hl,hr,hf=>by
  obtain⟨_,h1,h2⟩:=hr 0 (by simp)
  simp only[List.getElem_cons_zero]at h1 h2
  subst h1
  simp only[yg]at hf
  split at hf
  ·rename_i off size ks e1 e2
   split at hf
   ·rename_i hc
    obtain⟨g1,g2⟩:=Qo h2 e2
    have hz:=RepA.fold (off:=off) v.cells.toList ks 0 vs cs h (by simpa using g1) (fun i hi=>by
     have:=g2 i hi
     rw[List.getD_eq_getElem?_getD,Array.getElem?_toList,←Array.getD_eq_getD_getElem?];exact this)
    obtain⟨vo,hvo,hro⟩:=ZD vps aps _ _ out hp hz (by simpa using hl) (fun i hi=>by
     obtain⟨a,b,c⟩:=hr (i+1) (by simpa using hi)
     exact⟨by simpa using a,by simpa using b,by simpa using c⟩) hf
    refine⟨vo,?_,hro⟩
    simp only[Instr.fill,hp _ _ e1]
    have:¬((decide (v.cells.size≠size)||decide (off+v.cells.size>vs.size))=true):=by
     rw[g1,h.1];simp;omega
    rw[if_neg this,←hvo]
    congr 1
    rw[←Array.foldl_toList,Array.toList_zipIdx]
   ·cases hf
  ·cases hf
theorem afB{p:Nat→Prop}:∀(ks cs:List AV) (o:Nat),AllL p cs→AllL p ks→AllL p (wr cs o ks)
 | [],cs,o,h,_=>h
 |k::ks,cs,o,h,hk=>by
  simp only[AllL]at hk
  refine afB ks _ _ (AllL.of_get fun i hi=>?_) hk.2
  simp only[List.length_set]at hi
  rw[List.getElem_set]
  split
  ·exact hk.1
  ·exact h.get i hi
theorem ZF{p:Nat→Prop}{place:Nat→Option (Nat×Nat)}:∀(aps:List (Nat×AV)) (cs out:List AV),AllL p cs→(∀x∈aps,x.2.All p)→yg place cs aps=some out→AllL p out
 | [],cs,out,h,_,hf=>by simp[yg]at hf;subst hf;exact h
 |(j,av)::aps,cs,out,h,hr,hf=>by
  simp only[yg]at hf
  split at hf
  ·rename_i off size ks e1 e2
   split at hf
   ·exact ZF aps _ out (afB _ _ _ h (Qp (hr (j,av) (by simp)) e2)) (fun x hx=>hr x (by simp[hx])) hf
   ·cases hf
  ·cases hf
end
end Go.Ab
namespace Go.Ab
open Go
theorem qS(n:Nat)(zs:List AV):(zu n zs).length=n*zs.length:=by
 induction n with
 |zero=>simp[zu]
 |succ n ih=>simp only[zu,List.replicate_succ,List.flatten_cons,List.length_append]at*;rw[ih,Nat.add_mul];omega
theorem Zc(n:Nat)(zs:List AV)(hz:0<zs.length):∀i (h:i<(zu n zs).length),(zu n zs)[i]=zs[i % zs.length]'(Nat.mod_lt _ hz):=by
 induction n with
 |zero=>intro i h;simp[zu]at h
 |succ n ih=>
  intro i h
  have e:zu (n+1) zs=zs++zu n zs:=by simp[zu,List.replicate_succ]
  simp only[e]
  rw[List.getElem_append]
  split
  ·rename_i hlt;congr 1;rw[Nat.mod_eq_of_lt hlt]
  ·rename_i hge
   have hlt:i-zs.length<(zu n zs).length:=by rw[e,List.length_append]at h;omega
   rw[ih _ hlt]
   congr 1
   exact(Nat.mod_eq_sub_mod (by omega)).symm
section
variable {P:Program}{K:AV→(Nat→Ob)→Prop}{L:Nat→Option Blk→Prop}{w0 w:World}{R:Nat→Prop}{ι:Nat→Option Blk}{a:Act}{σ:St}
theorem yy(n:Nat)(z:Value)(s:Nat)(hs:z.cells.size=s)(hp:0<s):
  RepA R ι w ((Array.range (n*s)).map fun i=>z.cells[i % z.cells.size]!) (zu n (z.cells.toList.map .v)):=by
 refine⟨by simp[qS,hs],fun i hi=>?_⟩
 rw[Zc _ _ (by simp[hs,hp])]
 have hi':i<n*s:=by simpa [qS,hs]using hi
 have hm:i % z.cells.size<z.cells.size:=Nat.mod_lt _ (by omega)
 rw[Array.getD_eq_getD_getElem?,Array.getElem?_map,Array.getElem?_range,if_pos hi']
 simp only[Option.map_some,Option.getD_some,List.getElem_map,Array.getElem_toList,List.length_map,Array.length_toList]
 rw[getElem!_pos z.cells (i % z.cells.size) hm]
 exact .fr _ _ (.v _)
theorem ab0(p:Nat→Prop)(ti:TI):AllL p (zc ti):=AllL.of_mem (by simp[zc,AV.All])
theorem ZQ(p:Nat→Prop)(n:Nat)(ti:TI):AllL p (zu n (zc ti)):=AllL.of_mem (by
 intro x hx
 simp only[zu,List.mem_flatten,List.mem_replicate]at hx
 obtain⟨l,⟨_,rfl⟩,hx⟩:=hx
 exact(ab0 p ti).mem hx)
theorem afN(ti:TI):RepA R ι w ti.zero.cells (zc ti):=⟨by simp[zc],Zm _⟩
theorem Qs(w:World)(o:Obj)(b:Nat)(h:b<w.heap.size):(w.alloc o).heap[b]? =w.heap[b]? :=by
 show(w.heap.push o)[b]? =_
 rw[Array.getElem?_push,if_neg (by omega)]
theorem Qt(w:World)(o:Obj):(w.alloc o).heap[w.heap.size]? =some o:=by
 show(w.heap.push o)[w.heap.size]? =_
 simp
theorem Snd.alloc{nm z n:Nat}{cs:List AV}{c:Array Value}{T:TypeId}{av:AV}{x:Value}{r:Result Next}(h:Inv L w0 R ι w a.tmps σ)(hf:σ.hp nm=.free)
  (hm:AllL (fun m=>σ.hp m≠ .free) cs) (hl:cs.length≤c.size) (hc:∀i (h:i<cs.length),Rep R ι w (c.getD i undef) cs[i])
  (hr:r=.ok (.value x) (w.alloc (.cells c T))) (hk:K av (upd σ.hp nm (.own z cs))) {cap:Nat}
  (hx:(av=.pt nm 0∧x=.pointer (some ⟨w.heap.size,0,none⟩))∨(av=.rf nm 0 n∧x=.slice (some ⟨w.heap.size,0,none⟩) n cap∧n≤cap∧cap*z≤c.size)):
  Snd K R L w0 a.tmps σ.env r:=
 Snd.new (w':=w.alloc (.cells c T)) (lo:=0) (hi:=0) h hf rfl rfl rfl (by simp) (fun b hb=>Qs _ _ _ hb) (Qt _ _) (by simp) hl hm hc hr hk hx
theorem qZ{T:TypeId}{c:Array Value}:(newRow T c).run P w=.ok ⟨w.heap.size,0,none⟩ (w.alloc (.cells c T)):=by
 unfold newRow newObj
 rfl
theorem ajP{T:TypeId}{x:Value}{av:AV}{ks:List AV}{nm:Nat}(h:Inv L w0 R ι w a.tmps σ)(hx:Rep R ι w x av)(hm:av.All (fun m=>σ.hp m≠ .free))(hk:av.cells=some ks)(hf:σ.hp nm=.free)
  (hK:K (.pt nm 0) (upd σ.hp nm (.own 0 ks))):Snd K R L w0 a.tmps σ.env ((do pure (.value (←Instr.box T x)):Sem Next).run P w):=by
 obtain⟨h1,h2⟩:=Qo hx hk
 refine Snd.alloc (c:=x.cells) (T:=T) (n:=0) (cap:=0) h hf (Qp hm hk) (by omega) h2 ?_ hK (.inl ⟨rfl,rfl⟩)
 unfold Instr.box newVar
 simp only[Sem.run_bind,qZ,Result.andThen,Sem.run_pure]
theorem abZ{t:TypeId}{ti:TI}{nm:Nat}(h:Inv L w0 R ι w a.tmps σ)(ht:qz P t=some ti)(hf:σ.hp nm=.free)(hK:K (.pt nm 0) (upd σ.hp nm (.own 0 (zc ti)))):
  Snd K R L w0 a.tmps σ.env ((do pure (.value (←Instr.alloc t true (.tuple #[]))):Sem Next).run P w):=by
 refine Snd.alloc (c:=ti.zero.cells) (T:=t) (n:=0) (cap:=0) h hf (ab0 _ _) (by simp[zc]) (afN ti).2 ?_ hK (.inl ⟨rfl,rfl⟩)
 unfold Instr.alloc newVar
 simp only[Sem.run_bind,jR ht,qZ,Result.andThen,Sem.run_pure]
theorem Qv{fields:Array Field}(h:∀f∈fields.toList,(qz P f.type).isSome=true):
  ((fields.mapM fun f=>do pure (f.offset,←sizeOf f.type)):Sem (Array (Nat×Nat))).run P w=.ok (fields.map fun f=>(f.offset,((qz P f.type).getD ⟨.oth,0,0,undef⟩).size)) w:=by
 have key:∀(l:List Field),(∀f∈l,(qz P f.type).isSome=true)→
   ((l.mapM fun f=>do pure (f.offset,←sizeOf f.type)):Sem (List (Nat×Nat))).run P w=.ok (l.map fun f=>(f.offset,((qz P f.type).getD ⟨.oth,0,0,undef⟩).size)) w:=by
  intro l
  induction l with
  |nil=>intro _;simp
  |cons f l ih=>
   intro hl
   have hf:=hl f (by simp)
   obtain⟨tf,hf⟩:=Option.isSome_iff_exists.1 hf
   simp only[List.mapM_cons,Sem.run_bind,qW hf,Result.andThen,Sem.run_pure,ih (fun g hg=>hl g (by simp[hg])),List.map_cons,hf,Option.getD_some]
 rw[Array.mapM_eq_mapM_toList,Sem.run_map,key _ h]
 simp only[Result.andThen]
 congr 1
 exact Array.ext' (by simp)
end
end Go.Ab
namespace Go.Ab
open Go
section
variable {P:Program}{K:AV→(Nat→Ob)→Prop}{L:Nat→Option Blk→Prop}{w0 w:World}{R:Nat→Prop}{ι:Nat→Option Blk}{a:Act}{σ:St}
def jC(a:Act)(parts:Array (Nat×Operand)):Array (Nat×Value):=parts.map fun(i,x)=>(i,a.eval x)
theorem Jd(h:Inv L w0 R ι w a.tmps σ)(parts:Array (Nat×Operand)):
  (jC a parts).toList.length=(parts.toList.map fun p=>(p.1,σ.ev p.2)).length∧
  ∀i (hi:i<(parts.toList.map fun p=>(p.1,σ.ev p.2)).length),∃(h':i<(jC a parts).toList.length),
   ((jC a parts).toList[i]).1=((parts.toList.map fun p=>(p.1,σ.ev p.2))[i]).1∧
   Rep R ι w ((jC a parts).toList[i]).2 ((parts.toList.map fun p=>(p.1,σ.ev p.2))[i]).2:=by
 refine⟨by simp[jC],fun i hi=>⟨by simpa [jC]using hi,?_,?_⟩⟩
 ·simp[jC]
 ·simp only[jC,Array.toList_map,List.getElem_map]
  exact h.ev _
theorem Je(h:Inv L w0 R ι w a.tmps σ)(parts:Array (Nat×Operand)):
  ∀x∈(parts.toList.map fun p=>(p.1,σ.ev p.2)),x.2.All (fun m=>σ.hp m≠ .free):=by
 intro x hx
 simp only[List.mem_map]at hx
 obtain⟨p,_,rfl⟩:=hx
 exact h.ev_all _
theorem abP{t:TypeId}{ti:TI}{fs:List (Nat×Nat)}{parts:Array (Nat×Operand)}{cs:List AV}(h:Inv L w0 R ι w a.tmps σ)(ht:qz P t=some ti)(hk:ti.kd=.stru fs)
  (hs:∀f∈fs,(qz P f.2).isSome=true) (hf:yg (Jc P fs) (zc ti) (parts.toList.map fun p=>(p.1,σ.ev p.2))=some cs):
  ∃x,(Instr.build t (jC a parts)).run P w=.ok x w∧Rep R ι w x (.ag cs):=by
 obtain⟨d,hd,hk'⟩:=zp (w:=w) ht
 obtain⟨fields,rfl,rfl⟩:=aaG (hk'.trans hk)
 have hs':∀f∈fields.toList,(qz P f.type).isSome=true:=fun f hf=>hs (f.offset,f.type) (by simp only[List.mem_map];exact⟨f,hf,rfl⟩)
 have hsz:=Qv (P:=P) (w:=w) hs'
 obtain⟨h1,h2⟩:=Jd h parts
 obtain⟨vo,hvo,hro⟩:=ZD (R:=R) (ι:=ι) (w:=w) (place':=fun i=>(fields.map fun f=>(f.offset,((qz P f.type).getD ⟨.oth,0,0,undef⟩).size))[i]?) _ _ ti.zero.cells (zc ti) cs (fun i p hp=>by
  unfold Jc at hp
  split at hp
  ·rename_i f hf'
   split at hp
   ·rename_i tf htf
    cases hp
    rw[List.getElem?_map,Option.map_eq_some_iff]at hf'
    obtain⟨fd,h1,h2⟩:=hf'
    rw[Array.getElem?_map]
    rw[Array.getElem?_toList]at h1
    rw[h1]
    subst h2
    simp[htf]
   ·cases hp
  ·cases hp) (afN ti) h1 h2 hf
 refine⟨.agg vo,?_,.ag _ _ hro.1 hro.2⟩
 unfold Instr.build
 simp only[Sem.run_bind,jR ht,Result.andThen,hd,hsz]
 rw[hvo]
 rfl
theorem QD{t len nm:Nat}{parts:Array (Nat×Operand)}(h:Inv L w0 R ι w a.tmps σ)
  (hl:KT P t fun te=>∃cs,0<te.size∧te.zero.cells.size=te.size∧len*te.size≤2^24∧
   yg (fun i=>some (i*te.size,te.size)) (zu len (zc te)) (parts.toList.map fun p=>(p.1,σ.ev p.2))=some cs∧σ.hp nm=.free∧
   K (.rf nm 0 len) (upd σ.hp nm (.own te.size cs))):
  Snd K R L w0 a.tmps σ.env ((do pure (.value (←Instr.buildSlice t len (jC a parts))):Sem Next).run P w):=by
 obtain⟨ti,e,te,ht,hk,hte,cs,hp,hz,hl,hf,hfr,hK⟩:=hl
 have hu:=zJ (w:=w) ht hk
 obtain⟨h1,h2⟩:=Jd h parts
 have hrow:=yy (R:=R) (ι:=ι) (w:=w) len te.zero te.size hz hp
 obtain⟨vo,hvo,hro⟩:=ZD (R:=R) (ι:=ι) (w:=w) (place':=fun i=>some (i*te.size,te.size)) _ _ _ _ cs (fun i p hp=>hp) hrow h1 h2 hf
 have hlen:cs.length=len*te.size:=by
  rw[←hro.1]
  have key:∀(l:List (Nat×Value)) (v o:Array Value) (pl:Nat→Option (Nat×Nat)),Instr.fill pl v l=some o→o.size=v.size:=by
   intro l
   induction l with
   |nil=>intro v o pl h;simp[Instr.fill]at h;rw[h]
   |cons p l ih=>
    intro v o pl h
    obtain⟨i,x⟩:=p
    simp only[Instr.fill]at h
    split at h
    ·cases h
    ·split at h
     ·cases h
     ·rw[ih _ _ _ h]
      rw[←Array.foldl_toList]
      generalize (x.cells.zipIdx).toList=q
      rename_i hneg
      clear hneg h
      induction q generalizing v with
      |nil=>rfl
      |cons c q ih2=>simp only[List.foldl_cons];rw[ih2];simp
  rw[key _ _ _ _ hvo];simp
 refine Snd.alloc (c:=vo) (T:=e) (n:=len) (cap:=len) h hfr (ZF _ _ _ (ZQ _ _ _) (Je h parts) hf) (by rw[hro.1];exact Nat.le_refl _) hro.2 ?_ hK (.inr ⟨rfl,rfl,Nat.le_refl _,by rw[hro.1,hlen];exact Nat.le_refl _⟩)
 unfold Instr.buildSlice
 simp only[Sem.run_bind,hu,Result.andThen,qW hte]
 rw[if_neg (by omega)]
 by_cases h0:len*te.size=0
 ·have key:∀zero:Array Value,(Array.range (len*te.size)).map (fun x=>zero[x % zero.size]!)=(Array.range (len*te.size)).map (fun i=>te.zero.cells[i % te.zero.cells.size]!):=by
   intro zero;rw[h0];simp
  rw[if_pos h0]
  simp only[Sem.run_bind,Sem.run_pure,Result.andThen]
  rw[key,hvo]
  simp only[Sem.run_bind,qZ,Result.andThen,Sem.run_pure]
 ·simp only[if_neg h0,Sem.run_bind,jR hte,Result.andThen,Sem.run_pure]
  rw[hvo]
  simp only[Sem.run_bind,qZ,Result.andThen,Sem.run_pure]
theorem Zu{t e:Nat}{ti te:TI}{l c:Int}{k k':IntKind}(ht:qz P t=some ti)(hk:ti.kd=.sli e)(hte:qz P e=some te)(h0:0≤l)(h1:l≤c)(h2:c≤2^40)(hb:te.bytes≤100):
  (Instr.makeSlice t (.int k l) (.int k' c)).run P w=.ok (.slice (some ⟨w.heap.size,0,none⟩) l.toNat c.toNat) (w.alloc (.cells ((Array.range (c.toNat*te.size)).map fun i=>te.zero.cells[i % te.zero.cells.size]!) e)):=by
 have hu:=zJ (w:=w) ht hk
 obtain⟨i,hi,hbi,hsi⟩:=KZ (w:=w) hte
 have wl:IntKind.i64.wrap l=l:=by unfold IntKind.wrap IntKind.bits IntKind.signed;simp;omega
 have wc:IntKind.i64.wrap c=c:=by unfold IntKind.wrap IntKind.bits IntKind.signed;simp;omega
 have hbc:(i.bytes:Int)*c≤2^47:=by
  rw[hbi]
  have:(te.bytes:Int)*c≤100*c:=Int.mul_le_mul_of_nonneg_right (by omega) (by omega)
  omega
 have hbn:¬(c.toNat*i.bytes>roomBytes):=by
  have:((c.toNat*i.bytes:Nat):Int)=(i.bytes:Int)*c:=by rw[Int.natCast_mul,Int.toNat_of_nonneg (by omega),Int.mul_comm]
  have h3:roomBytes=2^47:=rfl
  omega
 unfold Instr.makeSlice
 simp only[Sem.run_bind,hu,Result.andThen,asInt,asIntOf,Sem.run_pure,hi,wl,wc]
 rw[if_neg (by simp;omega)]
 simp only[askRoom,if_neg hbn,Sem.run_bind,Sem.run_pure,Result.andThen,qW hte]
 by_cases h0:c.toNat*te.size=0
 ·have key:∀zero:Array Value,(Array.range (c.toNat*te.size)).map (fun x=>zero[x % zero.size]!)=(Array.range (c.toNat*te.size)).map (fun i=>te.zero.cells[i % te.zero.cells.size]!):=by
   intro zero;rw[h0];simp
  rw[if_pos h0]
  simp only[Sem.run_bind,Sem.run_pure,Result.andThen]
  rw[key,qZ]
 ·simp only[if_neg h0,Sem.run_bind,jR hte,Result.andThen,Sem.run_pure,qZ]
theorem Zt{t e nm:Nat}{ti te:TI}{l c:Int}{k k':IntKind}(h:Inv L w0 R ι w a.tmps σ)(ht:qz P t=some ti)(hk:ti.kd=.sli e)(hte:qz P e=some te)(h0:0≤l)(h1:l≤c)(h2:c≤2^40)(hb:te.bytes≤100)
  (hz:te.zero.cells.size=te.size) (hp:0<te.size) (hf:σ.hp nm=.free) (hK:K (.rf nm 0 l.toNat) (upd σ.hp nm (.own te.size (zu l.toNat (zc te))))):
  Snd K R L w0 a.tmps σ.env ((do pure (.value (←Instr.makeSlice t (.int k l) (.int k' c))):Sem Next).run P w):=by
 have hrow:=yy (R:=R) (ι:=ι) (w:=w) c.toNat te.zero te.size hz hp
 have hrow':=yy (R:=R) (ι:=ι) (w:=w) l.toNat te.zero te.size hz hp
 have hle:(zu l.toNat (zc te)).length≤(zu c.toNat (zc te)).length:=by
  simp only[qS];exact Nat.mul_le_mul_right _ (by omega)
 have hcl:(zu c.toNat (zc te)).length=c.toNat*te.size:=by simp[qS,zc,hz]
 refine Snd.alloc (c:=(Array.range (c.toNat*te.size)).map fun i=>te.zero.cells[i % te.zero.cells.size]!) (T:=e) (n:=l.toNat) (cap:=c.toNat) h hf (ZQ _ _ _) (by rw[hrow.1];exact hle) (fun i hi=>?_) ?_ hK
  (.inr ⟨rfl,rfl,by omega,by rw[hrow.1];show _≤(zu c.toNat (zc te)).length;rw[hcl];exact Nat.le_refl _⟩)
 ·have:=hrow.2 i (by exact Nat.lt_of_lt_of_le hi hle)
  rw[Zc _ _ (by simp[zc,hz,hp])]
  rw[Zc _ _ (by simp[hz,hp])]at this
  exact this
 ·simp only[Sem.run_bind,Zu ht hk hte h0 h1 h2 hb,Result.andThen,Sem.run_pure]
end
end Go.Ab
namespace Go.Ab
open Go
section
variable {P:Program}{K:AV→(Nat→Ob)→Prop}{L:Nat→Option Blk→Prop}{w0 w:World}{R:Nat→Prop}{ι:Nat→Option Blk}{a:Act}{σ:St}
theorem adn(h:Inv L w0 R ι w a.tmps σ)(cap:Array Operand)(f:Nat):Rep R ι w (.func (.func f) #[] (cap.map a.eval)) (.fn f (cap.toList.map σ.ev)):=by
 refine .fn f _ _ (by simp) (fun i hi=>?_)
 have hi':i<cap.size:=by simpa using hi
 simp only[List.getElem_map,Array.getElem_toList]
 rw[Array.getD_eq_getD_getElem?,Array.getElem?_map,Array.getElem?_eq_getElem hi']
 exact h.ev _
theorem ac6{o:Oper}(h:Inv L w0 R ι w a.tmps σ)(hs:z5 P o σ K):Snd K R L w0 a.tmps σ.env ((execOp a.eval o).run P w):=by
 unfold z5 at hs
 unfold execOp
 cases ho:o.op with
 |move x=>rw[ho]at hs;exact .same h rfl hs (h.ev x) (h.ev_all x)
 |assign x=>rw[ho]at hs;exact .same h rfl hs (h.ev x) (h.ev_all x)
 |pick c p q=>
  rw[ho]at hs
  simp only[ahK]at hs
  split at hs
  ·rename_i t e
   have hc:=h.ev c
   rw[e]at hc
   have hc:=hc.v_inv
   cases t with
   |true=>exact .same (x:=a.eval p) h (by simp[hc,asBool]) hs (h.ev p) (h.ev_all p)
   |false=>exact .same (x:=a.eval q) h (by simp[hc,asBool]) hs (h.ev q) (h.ev_all q)
  ·exact hs.elim
 |binOp op t x y ty=>
  rw[ho]at hs
  cases hn:yq y with
  |true=>
   simp only[hn,cond_true]at hs
   obtain⟨z,hz,hk⟩:=ad2 (P:=P) (w:=w) hs (h.ev x) x y
   have ey:a.eval y=.slice none 0 0:=by
    unfold yq at hn
    split at hn
    ·rfl
    ·cases hn
   exact .scalar h (qq (by rw[ey];exact hz)) hk
  |false=>
   simp only[hn,cond_false]at hs
   obtain⟨z,hz,hk⟩:=aj0 (P:=P) (w:=w) hs (h.ev x) (h.ev y) x y
   exact .scalar h (qq hz) hk
 |unOp op t x=>
  rw[ho]at hs
  obtain⟨z,hz,hk⟩:=akW (P:=P) (w:=w) hs (h.ev x)
  exact .scalar h (qq hz) hk
 |alloc t=>rw[ho]at hs;obtain⟨ti,ht,hf,hk⟩:=hs;exact abZ h ht hf hk
 |box t x=>rw[ho]at hs;obtain⟨ks,hk,hf,hK⟩:=hs;exact ajP h (h.ev x) (h.ev_all x) hk hf hK
 |build t parts=>
  rw[ho]at hs
  obtain⟨ti,fs,cs,ht,hk,hsm,hf,hK⟩:=hs
  obtain⟨x,hx,hr⟩:=abP (w:=w) h ht hk hsm hf
  refine .same h (qq hx) hK hr ?_
  simp only[AV.All]
  exact ZF _ _ _ (ab0 _ _) (Je h parts) hf
 |buildSlice t len parts=>rw[ho]at hs;exact QD h hs
 |load t x=>
  rw[ho]at hs
  obtain⟨y,b,hy,hk,hr,hm⟩:=Xk h (h.ev x) hs
  exact .same h (qq hy) hk hr hm
 |store t ad x=>
  rw[ho]at hs
  obtain⟨ti,ks,ht,hk,hl,hc,hs⟩:=hs
  split at hs
  ·rename_i nm off e
   have hp:=h.ev ad
   rw[e]at hp
   obtain⟨B,hB,hp⟩:=hp.pt_inv
   split at hs
   ·rename_i z cs eo
    obtain⟨h1,h2⟩:=hs
    obtain⟨w',hw',hi⟩:=KY (P:=P) h ht eo hB (h.ev x) (h.ev_all x) hk hl hc h1
    refine⟨undef,w',ι,.un,_,.inr ⟨?_,rfl⟩,h2 h1,.fr _ _ (.un _),by simp[AV.All],hi⟩
    simp only[hp,Sem.run_bind,hw',Result.andThen,Sem.run_pure]
   ·exact hs.elim
  ·exact hs.elim
 |fieldAddr s x f=>
  rw[ho]at hs
  obtain⟨ti,fs,fo,tf,ht,hk,hf,hft,hz,hs⟩:=hs
  have hx:=h.ev x
  have hm:=h.ev_all x
  split at hs
  ·rename_i nm off e
   rw[e]at hx hm
   obtain⟨B,hB,hp⟩:=hx.pt_inv
   refine .same h (qq (x:=.pointer (some ⟨B.b,B.base+(off+fo.1),none⟩)) ?_) hs (.pt _ _ B hB) (by simpa [AV.All]using hm)
   rw[hp,y9 ht hk hf hft hz,Nat.add_assoc]
  ·rename_i cs off e
   rw[e]at hx
   obtain⟨b,o0,vs,hp,hR,hv,hr⟩:=hx.fp_ex
   refine .same h (qq (x:=.pointer (some ⟨b,o0+(off+fo.1),none⟩)) ?_) hs (.fr _ _ (.fp b o0 cs _ vs hR hv hr)) (by simp[AV.All])
   rw[hp,y9 ht hk hf hft hz,Nat.add_assoc]
  ·exact hs.elim
 |field s x f=>
  rw[ho]at hs
  obtain⟨ti,fs,fo,tf,ht,hk,hf,hft,hs⟩:=hs
  have hx:=h.ev x
  have hm:=h.ev_all x
  split at hs
  ·rename_i cs e
   rw[e]at hx hm
   obtain⟨y,hy,hr⟩:=aa5 (P:=P) (w:=w) ht hk hf hft hx hs.1
   exact .same h (qq hy) hs.2 hr (Yh (by simpa [AV.All]using hm) _ _ _)
  ·exact hs.elim
 |indexAddr t x i=>
  rw[ho]at hs
  obtain⟨y,b,hy,hk,hr,hm⟩:=aiM (P:=P) h (h.ev x) (h.ev i) (h.ev_all x) hs
  exact .same h (qq hy) hk hr hm
 |slice t x lo hi mx=>
  rw[ho]at hs
  cases mx with
  |some m=>exact hs.elim
  |none=>
   obtain⟨y,b,hy,hk,hr,hm⟩:=KR (P:=P) h (h.ev x) (h.ev_all x) hs
   exact .same h (qq hy) hk hr hm
 |makeSlice t l c=>
  rw[ho]at hs
  obtain⟨ti,e,te,ht,hk,hte,hs⟩:=hs
  split at hs
  ·rename_i k1 l' k2 c' e1 e2
   obtain⟨⟨h0,h1,h2,hb,hz,hp,hf⟩,hK⟩:=hs
   have hl:=h.ev l
   have hc:=h.ev c
   rw[e1]at hl
   rw[e2]at hc
   simp only[hl.v_inv,hc.v_inv]
   exact Zt h ht hk hte h0 h1 h2 hb hz hp hf (hK h0 h1)
  ·exact hs.elim
 |extract x i=>
  rw[ho]at hs
  dsimp only at hs
  have hx:=h.ev x
  have hm:=h.ev_all x
  split at hs
  ·rename_i cs e
   rw[e]at hx hm
   obtain⟨vs,hp,h1,h2⟩:=hx.tu_inv
   have hi:i<vs.size:=by rw[h1];exact hs.1
   refine .same (x:=vs.getD i undef) h (qq ?_) hs.2 ?_ ?_
   ·rw[hp]
    simp only[Instr.extract,Array.getElem?_eq_getElem hi,Sem.run_pure,Array.getD_eq_getD_getElem?,Option.getD_some]
   ·rw[List.getD_eq_getElem?_getD,List.getElem?_eq_getElem hs.1];exact h2 i hs.1
   ·rw[List.getD_eq_getElem?_getD,List.getElem?_eq_getElem hs.1]
    simp only[AV.All]at hm
    exact hm.get i hs.1
  ·exact hs.elim
 |makeFunc fn first cap=>
  rw[ho]at hs
  cases fn with
  |func f=>
   obtain⟨h1,hk⟩:=hs
   have:first= #[]:=by simpa using h1
   subst this
   refine .same h (qq (x:=.func (.func f) #[] (cap.map a.eval)) ?_) hk (adn h cap f) ?_
   ·simp only[Instr.makeFunc,Sem.run_pure,Array.map_empty]
   ·simp only[AV.All]
    refine AllL.of_mem fun x hx=>?_
    simp only[List.mem_map]at hx
    obtain⟨y,_,rfl⟩:=hx
    exact h.ev_all y
  |method _=>exact hs.elim
  |methodOf _ _=>exact hs.elim
  |via _ _ _ _=>exact hs.elim
  |yield _=>exact hs.elim
 |nilCheck x=>
  rw[ho]at hs
  dsimp only at hs
  have hx:=h.ev x
  have hm:=h.ev_all x
  split at hs
  ·rename_i nm off e
   rw[e]at hx hm
   obtain⟨B,hB,hp⟩:=hx.pt_inv
   exact .same (x:=.pointer (some ⟨B.b,B.base+off,none⟩)) h (by simp only[hp,Sem.run_pure]) hs (.pt _ _ B hB) (by simpa [AV.All]using hm)
  ·rename_i cs off e
   rw[e]at hx
   obtain⟨b,o0,vs,hp,hR,hv,hr⟩:=hx.fp_ex
   exact .same (x:=.pointer (some ⟨b,o0+off,none⟩)) h (by simp only[hp,Sem.run_pure]) hs (.fr _ _ (.fp b o0 cs _ vs hR hv hr)) (by simp[AV.All])
  ·exact hs.elim
 |_=>rw[ho]at hs;exact hs.elim
end
end Go.Ab
namespace Go.Ab
open Go
def qa(l:List UInt8):List AV:=l.map fun b=>.v (.int .u8 b.toNat)
def Zh(hp:Nat→Ob)(x:AV)(z:Nat)(K:Nat→List AV→Prop):Prop:=
 match x with
 | .sl m cs=>m*z≤cs.length∧K m (cut cs 0 (m*z))
 | .rf nm o m=>match hp nm with
  | .own z' cs=>z'=z∧o+m*z≤cs.length∧K m (cut cs o (m*z))
  |_=>False
 | .v (.slice none 0 0)=>K 0 []
 | .v (.string s)=>z=1∧K s.size (qa s.data.toList)
 |_=>False
section
variable {P:Program}{K:AV→(Nat→Ob)→Prop}{L:Nat→Option Blk→Prop}{w0 w:World}{R:Nat→Prop}{ι:Nat→Option Blk}{tm:Array Value}{σ:St}
theorem Inv.kill(h:Inv L w0 R ι w tm σ)(m:Nat):Inv L w0 R ι w tm ⟨σ.env,upd σ.hp m .dead⟩:=by
 have hsp:∀{x z cs},upd σ.hp m .dead x=.own z cs→σ.hp x=.own z cs:=by
  intro x z cs e
  by_cases hx:x=m
  ·subst hx;rw[qj]at e;cases e
  ·rw[qm hx]at e;exact e
 have hup:∀x,σ.hp x≠ .free→upd σ.hp m .dead x≠ .free:=fun x hx=>by simp only[upd];split<;>simp_all
 refine⟨h.ext,h.rlt,h.env,fun s=>(h.men s).mono hup,⟨fun x=>?_,fun x z cs B e=>h.hp.nR x z cs B (hsp e),fun x y z z' c c' B B' e e'=>h.hp.inj x y z z' c c' B B' (hsp e) (hsp e'),
  fun x z cs e=>(h.hp.men x z cs (hsp e)).mono hup⟩,fun x z cs e=>h.old x z cs (hsp e),fun x hx=>hup x (h.lf x hx),h.gd⟩
 by_cases hx:x=m
 ·subst hx;show OOk R ι w (ι x) (upd σ.hp x .dead x);rw[qj];trivial
 ·show OOk R ι w (ι x) (upd σ.hp m .dead x);rw[qm hx];exact h.hp.ok x
theorem Inv.over{m nm z z':Nat}{cs cs':List AV}{B B':Blk}(h:Inv L w0 R ι w tm σ)(e:σ.hp m=.own z cs)(hB:ι m=some B)(hf:σ.hp nm=.free)(hb:B'.b=B.b)(hml:zR m=false)
  (hc:OOk R ι w (some B') (.own z' cs')) (hm:AllL (fun m=>σ.hp m≠ .free) cs'):
  Inv L w0 R (upd ι nm (some B')) w tm ⟨σ.env,upd (upd σ.hp m .dead) nm (.own z' cs')⟩:=by
 have hne:nm≠m:=fun e'=>by rw[e',e]at hf;cases hf
 have hk:=h.kill m
 have hf':upd σ.hp m .dead nm=.free:=by rw[qm hne];exact hf
 have hι:∀x,upd σ.hp m .dead x≠ .free→upd ι nm (some B') x=ι x:=fun x hx=>qm (fun e=>hx (e▸hf'))
 have hι':∀x,σ.hp x≠ .free→upd ι nm (some B') x=ι x:=fun x hx=>qm (fun e=>hx (e▸hf))
 have hN:=hk.next (ι':=upd ι nm (some B')) hk.ext hk.rlt (fun _ _=>rfl) (fun _ h=>h) hk.hp.nR hι
 have hup:∀x,σ.hp x≠ .free→upd (upd σ.hp m .dead) nm (.own z' cs') x≠ .free:=fun x hx=>by
  simp only[upd];repeat' split
  all_goals simp_all
 have hsp:∀{x z1 c1},upd (upd σ.hp m .dead) nm (.own z' cs') x=.own z1 c1→(x=nm∧z1=z'∧c1=cs')∨(x≠nm∧x≠m∧σ.hp x=.own z1 c1):=by
  intro x z1 c1 e
  by_cases hx:x=nm
  ·subst hx;rw[qj]at e;cases e;exact .inl ⟨rfl,rfl,rfl⟩
  ·rw[qm hx]at e
   by_cases hx':x=m
   ·subst hx';rw[qj]at e;cases e
   ·rw[qm hx']at e;exact .inr ⟨hx,hx',e⟩
 refine⟨hN.ext,hN.rlt,hN.env,fun s=>(h.men s).mono hup,⟨fun x=>?_,fun x z1 c1 B1 e1 hB1=>?_,fun x y z1 z2 c1 c2 B1 B2 e1 e2 hB1 hB2 hbb=>?_,fun x z1 c1 e1=>?_⟩,fun x z1 c1 e1=>?_,fun x hx=>hup x (h.lf x hx),h.gd⟩
 ·by_cases hx:x=nm
  ·subst hx
   show OOk _ _ _ (upd ι x _ x) (upd _ x _ x)
   rw[qj,qj]
   obtain⟨c,T,lo,hi,g1,g2,g3,g4,g5,g6⟩:=hc
   exact⟨c,T,lo,hi,g1,g2,g3,g4,g5,fun i hi=>(g6 i hi).mono (fun _ _=>rfl) (fun _ h=>h) _ (hm.get i hi) hι'⟩
  ·show OOk _ _ _ (upd ι nm _ x) (upd _ nm _ x)
   rw[qm hx,qm hx]
   have:=hN.hp.ok x
   rw[qm hx]at this
   exact this
 ·rcases hsp e1 with⟨rfl,_,_⟩|⟨hx,hx',f⟩
  ·rw[qj]at hB1;cases hB1;rw[hb];exact h.hp.nR m z cs B e hB
  ·rw[qm hx]at hB1;exact h.hp.nR x _ _ B1 f hB1
 ·rcases hsp e1 with⟨h1,_,_⟩|⟨hx,hx',f⟩<;>rcases hsp e2 with⟨h2,_,_⟩|⟨hy,hy',f'⟩
  ·exact h1.trans h2.symm
  ·rw[h1,qj]at hB1;cases hB1
   rw[qm hy]at hB2
   exact absurd (h.hp.inj m y _ _ _ _ B B2 e f' hB hB2 (by rw[←hb];exact hbb)) (fun e=>hy' e.symm)
  ·rw[h2,qj]at hB2;cases hB2
   rw[qm hx]at hB1
   exact absurd (h.hp.inj m x _ _ _ _ B B1 e f hB hB1 (by rw[←hb];exact hbb.symm)) (fun e=>hx' e.symm)
  ·rw[qm hx]at hB1;rw[qm hy]at hB2
   exact h.hp.inj x y _ _ _ _ B1 B2 f f' hB1 hB2 hbb
 ·rcases hsp e1 with⟨_,_,rfl⟩|⟨hx,hx',f⟩
  ·exact hm.mono hup
  ·exact(h.hp.men x _ _ f).mono hup
 ·rcases hsp e1 with⟨rfl,_,_⟩|⟨hx,hx',f⟩
  ·refine .inl ⟨h.nl hf,fun B1 hB1=>?_⟩
   rw[qj]at hB1;cases hB1;rw[hb]
   rcases h.old m z cs e with h1|h1
   ·exact h1.2 B hB
   ·rw[hml]at h1;cases h1.1
  ·rw[qm hx];exact h.old x _ _ f
theorem Inv.ghost{nm z:Nat}(h:Inv L w0 R ι w tm σ)(hf:σ.hp nm=.free):Inv L w0 R (upd ι nm none) w tm ⟨σ.env,upd σ.hp nm (.own z [])⟩:=by
 have hι:∀x,σ.hp x≠ .free→upd ι nm none x=ι x:=fun x hx=>qm (fun e=>hx (e▸hf))
 have hN:=h.next (ι':=upd ι nm none) h.ext h.rlt (fun _ _=>rfl) (fun _ h=>h) h.hp.nR hι
 have hup:∀x,σ.hp x≠ .free→upd σ.hp nm (.own z []) x≠ .free:=fun x hx=>by simp only[upd];split<;>simp_all
 have hsp:∀{x z1 c1},upd σ.hp nm (.own z []) x=.own z1 c1→(x=nm∧c1=[])∨(x≠nm∧σ.hp x=.own z1 c1):=by
  intro x z1 c1 e
  by_cases hx:x=nm
  ·subst hx;rw[qj]at e;cases e;exact .inl ⟨rfl,rfl⟩
  ·rw[qm hx]at e;exact .inr ⟨hx,e⟩
 have hs:∀{x z1 c1 B},upd σ.hp nm (.own z []) x=.own z1 c1→upd ι nm none x=some B→σ.hp x=.own z1 c1∧ι x=some B:=by
  intro x z1 c1 B e hB
  rcases hsp e with⟨rfl,_⟩|⟨hx,f⟩
  ·rw[qj]at hB;cases hB
  ·rw[qm hx]at hB;exact⟨f,hB⟩
 refine⟨hN.ext,hN.rlt,hN.env,fun s=>(h.men s).mono hup,⟨fun x=>?_,fun x z1 c1 B1 e1 hB1=>h.hp.nR x _ _ B1 (hs e1 hB1).1 (hs e1 hB1).2,
  fun x y z1 z2 c1 c2 B1 B2 e1 e2 hB1 hB2 hbb=>h.hp.inj x y _ _ _ _ B1 B2 (hs e1 hB1).1 (hs e2 hB2).1 (hs e1 hB1).2 (hs e2 hB2).2 hbb,fun x z1 c1 e1=>?_⟩,
  fun x z1 c1 e1=>?_,fun x hx=>hup x (h.lf x hx),h.gd⟩
 ·by_cases hx:x=nm
  ·subst hx
   show OOk _ _ _ (upd ι x _ x) (upd _ x _ x)
   rw[qj,qj];rfl
  ·show OOk _ _ _ (upd ι nm _ x) (upd _ nm _ x)
   rw[qm hx,qm hx]
   have:=hN.hp.ok x
   rw[qm hx]at this
   exact this
 ·rcases hsp e1 with⟨_,rfl⟩|⟨hx,f⟩
  ·simp[AllL]
  ·exact(h.hp.men x _ _ f).mono hup
 ·rcases hsp e1 with⟨rfl,_⟩|⟨hx,f⟩
  ·refine .inl ⟨h.nl hf,fun B hB=>?_⟩
   rw[qj]at hB;cases hB
  ·rw[qm hx];exact h.old x _ _ f
theorem QO{f:Nat→Value}{n:Nat}{cs:List AV}(hl:cs.length=n)(hr:∀i (h:i<cs.length),Rep R ι w (f i) cs[i]):RepA R ι w ((List.range n).map f).toArray cs:=by
 refine⟨by simp[hl],fun i hi=>?_⟩
 rw[Array.getD_eq_getD_getElem?,List.getElem?_toArray,List.getElem?_map,List.getElem?_range (by omega)]
 exact hr i hi
theorem yO{x:Value}{av:AV}{z:Nat}{Q:Nat→List AV→Prop}(h:Inv L w0 R ι w tm σ)(hx:Rep R ι w x av)(hs:Zh σ.hp av z Q):
  ∃m cs vs,Q m cs∧(Builtin.lenOf x).run P w=.ok m w∧cs.length=m*z∧AllL (fun m=>σ.hp m≠ .free) cs∧RepA R ι w vs cs∧
   (∀w',w'.heap=w.heap→(Builtin.firstCells z m x).run P w'=.ok vs w')∧∀k,k≤m→∃vs',RepA R ι w vs' (cut cs 0 (k*z))∧(Builtin.firstCells z k x).run P w=.ok vs' w:=by
 have cellw:∀{w':World} (a:Addr),w'.heap=w.heap→w'.cell? a=w.cell? a:=fun a e=>by simp[World.cell?,e]
 unfold Zh at hs
 split at hs
 ·rename_i m cs
  obtain⟨hl,hq⟩:=hs
  cases hx.sl_inv with
  |sl ad _ cap _ vs b o hcap ha hv hr=>
   have hcl:(cut cs 0 (m*z)).length=m*z:=qM (by omega)
   have hrep:∀k,k≤m→RepA R ι w ((List.range (k*z)).map vs).toArray (cut cs 0 (k*z)):=fun k hk=>by
    have hkm:k*z≤m*z:=Nat.mul_le_mul_right z hk
    refine QO (qM (by omega)) (fun i hi=>?_)
    rw[qM (by omega)]at hi
    rw[Qc (by omega) hi]
    simp only[Nat.zero_add]
    exact .fr _ _ (hr i (by omega))
   have hrun:∀k,k≤m→∀w',w'.heap=w.heap→(Builtin.firstCells z k (.slice ad m cap)).run P w'=.ok ((List.range (k*z)).map vs).toArray w':=fun k hk w' hw'=>by
    have hkm:k*z≤m*z:=Nat.mul_le_mul_right z hk
    unfold Builtin.firstCells
    cases ad with
    |none=>
     have:k*z=0:=by
      rcases Nat.eq_zero_or_pos (k*z)with h|h
      ·exact h
      ·exact absurd (ha (by omega)).1 (by simp)
     simp[this,Sem.run_pure]
    |some a0=>
     rcases Nat.eq_zero_or_pos (k*z)with h0|h0
     ·simp[h0,loadCells,loadCellsFrom]
     ·obtain⟨e1,hR⟩:=ha (by omega)
      cases e1
      exact zS vs (k*z) (fun j hj=>by rw[cellw _ hw'];exact hv j (by omega))
   refine⟨m,_,_,hq,rfl,hcl,AllL.of_mem fun c hc=>?_,hrep m (Nat.le_refl _),hrun m (Nat.le_refl _),fun k hk=>⟨_,?_,hrun k hk w rfl⟩⟩
   ·obtain⟨i,hi,rfl⟩:=List.getElem_of_mem (List.mem_of_mem_drop (List.mem_of_mem_take hc))
    exact FRep.all (hr i hi) _
   ·have hkm:k*z≤m*z:=Nat.mul_le_mul_right z hk
    have:cut (cut cs 0 (m*z)) 0 (k*z)=cut cs 0 (k*z):=by simp[cut,List.take_take,Nat.min_eq_left hkm]
    rw[this];exact hrep k hk
 ·rename_i nm o m
  split at hs
  ·rename_i z' cs e
   obtain⟨rfl,hl,hq⟩:=hs
   obtain⟨ad,cap,rfl,hcap,hs⟩:=hx.rf_inv
   have hcl:(cut cs o (m*z')).length=m*z':=qM hl
   have hall:AllL (fun m=>σ.hp m≠ .free) (cut cs o (m*z')):=AllL.of_mem fun c hc=>(h.hp.men _ _ _ e).mem (List.mem_of_mem_drop (List.mem_of_mem_take hc))
   cases hB:ι nm with
   |none=>
    rw[hB]at hs
    have hc0:cap=0:=hs
    have hm0:m=0:=by omega
    subst hm0
    have hf:∀w',(Builtin.firstCells z' 0 (.slice ad 0 cap)).run P w'=.ok #[] w':=fun w'=>by
     unfold Builtin.firstCells
     cases ad<;>simp[loadCells,loadCellsFrom,Sem.run_pure]
    refine⟨0,_,#[],hq,rfl,hcl,hall,⟨by simp[cut],by simp[cut]⟩,fun w' _=>hf w',fun k hk=>?_⟩
    have:k=0:=by omega
    subst this
    exact⟨#[],⟨by simp[cut],by simp[cut]⟩,hf w⟩
   |some B=>
    rw[hB]at hs
    obtain⟨c,T,lo,hi,g1,g2,g3,g4,g5,g6⟩:=zX h e hB
    have hrep:∀k,k≤m→RepA R ι w ((List.range (k*z')).map fun i=>c.getD (B.base+(o+i)) undef).toArray (cut cs o (k*z')):=fun k hk=>by
     have hkm:k*z'≤m*z':=Nat.mul_le_mul_right z' hk
     refine QO (qM (by omega)) (fun i hi=>?_)
     rw[qM (by omega)]at hi
     rw[Qc (by omega) hi]
     exact g6 (o+i) (by omega)
    have hrun:∀k,k≤m→∀w',w'.heap=w.heap→(Builtin.firstCells z' k (.slice ad m cap)).run P w'=.ok ((List.range (k*z')).map fun i=>c.getD (B.base+(o+i)) undef).toArray w':=fun k hk w' hw'=>by
     have hkm:k*z'≤m*z':=Nat.mul_le_mul_right z' hk
     unfold Builtin.firstCells
     rcases Nat.eq_zero_or_pos (k*z')with h0|h0
     ·cases ad<;>simp[h0,loadCells,loadCellsFrom,Sem.run_pure]
     ·have hm:0<m:=by
       rcases Nat.eq_zero_or_pos m with h|h
       ·subst h;simp at hkm;omega
       ·exact h
      obtain⟨rfl,_⟩:=hs (by omega)
      exact zS (fun i=>c.getD (B.base+(o+i)) undef) (k*z') (fun j hj=>by
       rw[cellw _ hw',Nat.add_assoc]
       exact zI g1 (by omega))
    refine⟨m,_,_,hq,rfl,hcl,hall,hrep m (Nat.le_refl _),hrun m (Nat.le_refl _),fun k hk=>⟨_,?_,hrun k hk w rfl⟩⟩
    have hkm:k*z'≤m*z':=Nat.mul_le_mul_right z' hk
    have:cut (cut cs o (m*z')) 0 (k*z')=cut cs o (k*z'):=by simp[cut,List.take_take,Nat.min_eq_left hkm]
    rw[this];exact hrep k hk
  ·exact hs.elim
 ·have:=hx.v_inv;subst this
  refine⟨0,[],#[],hs,rfl,by simp,by simp[AllL],⟨rfl,by simp⟩,fun _ _=>rfl,fun k hk=>⟨#[],⟨by simp[cut],by simp[cut]⟩,rfl⟩⟩
 ·rename_i s
  obtain⟨rfl,hq⟩:=hs
  have:=hx.v_inv;subst this
  have hrep:∀k,k≤s.size→RepA R ι w ((s.extract 0 k).data.map fun b=>.int .u8 b.toNat) (cut (qa s.data.toList) 0 (k*1)):=fun k hk=>by
   have hsz:s.data.size=s.size:=rfl
   refine⟨by simp[cut,qa],fun i hi=>?_⟩
   have hi':i<k:=by simp[cut,qa]at hi;omega
   have e1:((s.extract 0 k).data.map fun b=>Value.int .u8 b.toNat).getD i undef=.int .u8 (s.data[i]'(by omega)).toNat:=by
    have:i<(s.extract 0 k).data.size:=by simp;omega
    rw[Array.getD_eq_getD_getElem?,Array.getElem?_map,Array.getElem?_eq_getElem this]
    simp
   rw[e1]
   have e2:(cut (qa s.data.toList) 0 (k*1))[i]=.v (.int .u8 (s.data[i]'(by omega)).toNat):=by simp[cut,qa]
   rw[e2]
   exact .fr _ _ (.v _)
  have hfull:cut (qa s.data.toList) 0 (s.size*1)=qa s.data.toList:=by
   simp only[cut,List.drop_zero];exact List.take_of_length_le (by simp[qa])
  refine⟨s.size,_,_,hq,rfl,by simp[qa],AllL.of_mem (by simp[qa,AV.All]),by have:=hrep s.size (Nat.le_refl _);rw[hfull]at this;exact this,fun _ _=>rfl,fun k hk=>⟨_,hrep k hk,rfl⟩⟩
 ·exact hs.elim
end
end Go.Ab
namespace Go.Ab
open Go
def yx(b:Nat):Nat:=bif Nat.beq b 1 then 140737488354828 else 2^40
theorem afp(te:TI)(hb:te.bytes≤100){n:Nat}(h:n≤yx te.bytes):n≤140737488355328∧(2*n+1000)*te.bytes≤2^48:=by
 unfold yx at h
 cases hc:Nat.beq te.bytes 1 with
 |true=>
  rw[hc]at h
  have:=Nat.eq_of_beq_eq_true hc
  rw[this]
  simp only[cond_true]at h
  omega
 |false=>
  rw[hc]at h
  simp only[cond_false]at h
  have:=Nat.mul_le_mul (show 2*n+1000≤2*n+1000 from Nat.le_refl _) hb
  omega
def afQ(te t2:TI)(hp:Nat→Ob)(x:AV)(K:Nat→List AV→Prop):Prop:=
 match t2.kd with
 | .int _=>match x with
  | .v (.int _ l)=>0≤l∧l≤2^40∧(0≤l→K l.toNat (zu l.toNat (zc te)))
  |_=>False
 | .sli _=>Zh hp x te.size K
 | .str=>Zh hp x te.size K
 |_=>False
def aqH(P:Program)(ts:Array TypeId)(s x:AV)(hp:Nat→Ob)(nm:Nat)(K:AV→(Nat→Ob)→Prop):Prop:=
 ∃T T2 t2,ts[0]? =some T∧ts[1]? =some T2∧qz P T2=some t2∧KT P T fun te=>(te.bytes≤100∧0<te.size∧te.zero.cells.size=te.size∧hp nm=.free)∧
  afQ te t2 hp x fun k new=>(∀c∈new,c.cellish=true)∧match s with
   | .rf m o n=>match hp m with
    | .own z cs=>(z=te.size∧o+n*te.size≤cs.length∧n+k≤yx te.bytes∧zR m=false)∧(n+k≤yx te.bytes→K (.rf nm 0 (n+k)) (upd (upd hp m .dead) nm (.own te.size (cut cs o (n*te.size)++new))))
    |_=>False
   | .v (.slice none 0 0)=>k≤yx te.bytes∧(k≤yx te.bytes→K (.rf nm 0 k) (upd hp nm (.own te.size new)))
   |_=>False
theorem yI(a b c:List AV)(h:b.length=c.length):wr (a++b) a.length c=a++c:=by
 induction c generalizing a b with
 |nil=>
  have:b=[]:=by cases b<;>simp_all
  subst this;rfl
 |cons k c ih=>
  cases b with
  |nil=>simp at h
  |cons x b=>
   simp only[wr]
   have e:(a++x::b).set a.length k=(a++[k])++b:=by simp
   rw[e,show a.length+1=(a++[k]).length by simp,ih (a++[k]) b (by simpa using h)]
   simp
theorem aaQ(n c:Nat)(hc:c<n):∀r x,x≤2*n+1000→Builtin.growBy n r x≤2*n+1000
 |0,x,h=>h
 |r+1,x,h=>by
  simp only[Builtin.growBy]
  split
  ·exact h
  ·exact aaQ n c hc r _ (by omega)
theorem ail(n c:Nat)(hc:c<n):Builtin.nextslicecap n c≤2*n+1000:=by
 unfold Builtin.nextslicecap
 split
 ·omega
 ·split
  ·omega
  ·exact aaQ n c hc 4 c (by omega)
section
variable {P:Program}{K:AV→(Nat→Ob)→Prop}{L:Nat→Option Blk→Prop}{w0 w:World}{R:Nat→Prop}{ι:Nat→Option Blk}{tm:Array Value}{σ:St}
theorem RepA.append{vs us:Array Value}{cs ds:List AV}(h:RepA R ι w vs cs)(h':RepA R ι w us ds):RepA R ι w (vs++us) (cs++ds):=by
 refine⟨by simp[h.1,h'.1],fun i hi=>?_⟩
 rw[Array.getD_eq_getD_getElem?,Array.getElem?_append,List.getElem_append]
 by_cases hlt:i<cs.length
 ·rw[if_pos (by rw[h.1];exact hlt),dif_pos hlt,←Array.getD_eq_getD_getElem?];exact h.2 i hlt
 ·rw[if_neg (by rw[h.1];exact hlt),dif_neg hlt,h.1,←Array.getD_eq_getD_getElem?]
  exact h'.2 _ (by simp at hi;omega)
theorem yQ(n:Nat):(askRoom n).run P w=.ok () w:=by
 unfold askRoom
 split<;>rfl
theorem zT(n c e:Nat):∃k,n≤k∧(choose (.appendCap n c e)).run P w=.ok k w.drew:=
 ⟨n+w.tape w.drawn (.appendCap n c e) % (2^63-n),Nat.le_add_right _ _,rfl⟩
theorem abY{T T2:TypeId}{e:Nat}{te:TI}{d2:TypeDesc}{ts:Array TypeId}{ty:TypeId}{base:Option Addr}{sLen sCap n:Nat}{x:Value}{vs:Array Value}
  (h0:ts[0]? =some T) (h1:ts[1]? =some T2) (hu:(underlying T).run P w=.ok (.slice e) w) (hte:qz P e=some te) (hd2:(underlying T2).run P w=.ok d2 w) (hb:te.bytes≤100)
  (hn:sLen+n≤yx te.bytes)
  (hnew:(∃k,d2=.int k∧∃k' l,x=.int k' l∧0≤l∧n=l.toNat∧vs=if n*te.size=0 then #[]else Builtin.zeroCells te.zero.cells n)∨
   ((d2=.string∨∃e',d2=.slice e')∧(Builtin.lenOf x).run P w=.ok n w∧∀w',w'.heap=w.heap→(Builtin.firstCells te.size n x).run P w'=.ok vs w')):
  (sLen+n≤sCap→∀w',(∀a,base=some a→(storeCells (a.add (sLen*te.size)) vs.toList).run P w=.ok () w')→(base=none→w'=w)→
    (Builtin.append_ ts ty #[.slice base sLen sCap,x]).run P w=.ok (.slice base (sLen+n) sCap) w')∧
  (sCap<sLen+n→∀old,(∀w',w'.heap=w.heap→(Builtin.firstCells te.size sLen (.slice base sLen sCap)).run P w'=.ok old w')→
   ∃cap,sLen+n≤cap∧
    (Builtin.append_ ts ty #[.slice base sLen sCap,x]).run P w=.ok (.slice (some ⟨w.heap.size,0,none⟩) (sLen+n) cap) (w.drew.alloc (.cells (old++vs++Builtin.zeroCells te.zero.cells (cap-(sLen+n))) e))):=by
 have hsz:(sizeOf e).run P w=.ok te.size w:=qW hte
 have hzr:∀w',(zeroValue e).run P w'=.ok te.zero w':=fun w'=>jR hte
 obtain⟨i,d,hi',hd,hz,hkd,hs,hbi⟩:=zo hte
 have hi:∀w',(typeInfo e).run P w'=.ok i w':=fun w'=>by simp[typeInfo,hi',go_sem]
 have hmax:IntKind.i64.max=2^63-1:=by simp[IntKind.max,IntKind.signed,IntKind.bits]
 have hap:=afp te hb hn
 have c1:¬(((sLen+n:Nat):Int)>IntKind.i64.max):=fun h=>by rw[hmax]at h;omega
 have c2:sCap<sLen+n→¬(Builtin.nextslicecap (sLen+n) sCap*i.bytes>2^48):=fun h=>by
  have:=ail (sLen+n) sCap h
  have h3:Builtin.nextslicecap (sLen+n) sCap*i.bytes≤(2*(sLen+n)+1000)*te.bytes:=Nat.mul_le_mul this (by omega)
  exact Nat.not_lt.2 (Nat.le_trans h3 hap.2)
 rcases hnew with⟨k,rfl,k',l,rfl,hl0,hln,hvs⟩|⟨hdd,hlen,hcells⟩
 ·have wl:IntKind.i64.wrap l=l:=by unfold IntKind.wrap IntKind.bits IntKind.signed;simp;omega
  have c3:¬(l*(i.bytes:Int)>2^48):=by
   have h1:n*te.bytes≤(2*(sLen+n)+1000)*te.bytes:=Nat.mul_le_mul_right _ (by omega)
   have h2:=Nat.le_trans h1 hap.2
   have h3:l*(i.bytes:Int)=((n*te.bytes:Nat):Int):=by
    rw[Int.natCast_mul,hln,show i.bytes=te.bytes by omega];congr 1;omega
   rw[h3];omega
  have hnw:∀w',((if l.toNat*te.size=0 then pure #[]else do pure (Builtin.zeroCells (←zeroValue e).cells l.toNat):Sem (Array Value))).run P w'=.ok vs w':=fun w'=>by
   rw[hvs,←hln]
   split
   ·rfl
   ·simp only[Sem.run_bind,hzr,Result.andThen,Sem.run_pure]
  constructor
  ·intro hc w' hw1 hw2
   unfold Builtin.append_
   simp only[h0,h1,Sem.run_bind,hu,hsz,hd2,Result.andThen,Sem.run_pure,List.getElem?_toArray,List.getElem?_cons_zero,List.getElem?_cons_succ,↓reduceIte,asInt,asIntOf,wl,hi,c3,Int.not_lt.2 hl0]
   rw[←hln]at hnw ⊢
   simp only[hc,↓reduceIte,Bool.not_true,Bool.false_eq_true,Sem.run_bind,hnw,Result.andThen]
   cases base with
   |none=>simp only[Sem.run_pure];rw[hw2 rfl]
   |some a0=>simp only[Sem.run_bind,hw1 a0 rfl,Result.andThen,Sem.run_pure]
  ·intro hc old hold
   obtain⟨cap,hcap,hch⟩:=zT (P:=P) (w:=w) (sLen+n) sCap e
   refine⟨cap,hcap,?_⟩
   unfold Builtin.append_
   simp only[h0,h1,Sem.run_bind,hu,hsz,hd2,Result.andThen,Sem.run_pure,List.getElem?_toArray,List.getElem?_cons_zero,List.getElem?_cons_succ,↓reduceIte,asInt,asIntOf,wl,hi,c3,Int.not_lt.2 hl0]
   rw[←hln]at hnw ⊢
   simp only[Nat.not_le.2 hc,↓reduceIte,Sem.run_bind,hi,Result.andThen,c1,false_and,c2 hc,hch,yQ,hold w.drew rfl,Bool.not_true,Bool.false_eq_true,hnw,hzr,qZ,Sem.run_pure]
   rfl
 ·have hdd':∀{α:Type} (p q:α),(match d2 with| .int _=>p|_=>q)=q:=by
   rcases hdd with rfl|⟨e',rfl⟩<;>intros<;>rfl
  rcases hdd with rfl|⟨e',rfl⟩
  all_goals
   constructor
   ·intro hc w' hw1 hw2
    unfold Builtin.append_
    simp only[h0,h1,Sem.run_bind,hu,hsz,hd2,Result.andThen,Sem.run_pure,List.getElem?_toArray,List.getElem?_cons_zero,List.getElem?_cons_succ,↓reduceIte,Bool.false_eq_true,hlen,hc,Bool.not_false,hcells w rfl]
    cases base with
    |none=>simp only[Sem.run_pure];rw[hw2 rfl]
    |some a0=>simp only[Sem.run_bind,hw1 a0 rfl,Result.andThen,Sem.run_pure]
   ·intro hc old hold
    obtain⟨cap,hcap,hch⟩:=zT (P:=P) (w:=w) (sLen+n) sCap e
    refine⟨cap,hcap,?_⟩
    unfold Builtin.append_
    simp only[h0,h1,Sem.run_bind,hu,hsz,hd2,Result.andThen,Sem.run_pure,List.getElem?_toArray,List.getElem?_cons_zero,List.getElem?_cons_succ,↓reduceIte,Bool.false_eq_true,hlen,
     Nat.not_le.2 hc,hi,c1,false_and,c2 hc,hch,yQ,hold w.drew rfl,Bool.not_false,hcells w.drew rfl,hzr,qZ]
    rfl
end
end Go.Ab
namespace Go.Ab
open Go
section
variable {P:Program}{K:AV→(Nat→Ob)→Prop}{L:Nat→Option Blk→Prop}{w0 w:World}{R:Nat→Prop}{ι:Nat→Option Blk}{tm:Array Value}{σ:St}
theorem Zd(n:Nat)(te:TI)(hz:te.zero.cells.size=te.size)(hp:0<te.size):RepA R ι w (Builtin.zeroCells te.zero.cells n) (zu n (zc te)):=by
 have:=yy (R:=R) (ι:=ι) (w:=w) n te.zero te.size hz hp
 unfold Builtin.zeroCells
 rw[hz]at this ⊢
 exact this
theorem aio{T2:TypeId}{te t2:TI}{y:Value}{ya:AV}{Q:Nat→List AV→Prop}(h:Inv L w0 R ι w tm σ)(hy:Rep R ι w y ya)(ht2:qz P T2=some t2)(hz:te.zero.cells.size=te.size)(hp:0<te.size)
  (hs:afQ te t2 σ.hp ya Q):
  ∃k new vs d2,Q k new∧(underlying T2).run P w=.ok d2 w∧new.length=k*te.size∧AllL (fun m=>σ.hp m≠ .free) new∧RepA R ι w vs new∧
   ((∃k1,d2=.int k1∧∃k' l,y=.int k' l∧0≤l∧k=l.toNat∧vs=if k*te.size=0 then #[]else Builtin.zeroCells te.zero.cells k)∨
   ((d2=.string∨∃e',d2=.slice e')∧(Builtin.lenOf y).run P w=.ok k w∧∀w',w'.heap=w.heap→(Builtin.firstCells te.size k y).run P w'=.ok vs w')):=by
 obtain⟨d2,hd2,hk2⟩:=zp (w:=w) ht2
 unfold afQ at hs
 split at hs
 ·rename_i k1 e1
  have hd:=aaI (hk2.trans e1)
  split at hs
  ·rename_i k' l
   obtain⟨h0,h1,h2⟩:=hs
   have:=hy.v_inv;subst this
   refine⟨l.toNat,_,if l.toNat*te.size=0 then #[]else Builtin.zeroCells te.zero.cells l.toNat,d2,h2 h0,hd2,by simp[qS,zc,hz],ZQ _ _ _,?_,.inl ⟨k1,hd,k',l,rfl,h0,rfl,rfl⟩⟩
   have hr:=Zd (R:=R) (ι:=ι) (w:=w) l.toNat te hz hp
   split
   ·rename_i h0'
    refine⟨by simp[qS,zc,hz,h0'],fun i hi=>?_⟩
    simp[qS,zc,hz,h0']at hi
   ·exact hr
  ·exact hs.elim
 ·rename_i e' e1
  have hd:=Jq (hk2.trans e1)
  obtain⟨m,cs,vs,hq,hl,hc,ha,hr,hf,_⟩:=yO (P:=P) h hy hs
  exact⟨m,cs,vs,d2,hq,hd2,hc,ha,hr,.inr ⟨.inr ⟨e',hd⟩,hl,hf⟩⟩
 ·rename_i e1
  have hd:=Xn (hk2.trans e1)
  obtain⟨m,cs,vs,hq,hl,hc,ha,hr,hf,_⟩:=yO (P:=P) h hy hs
  exact⟨m,cs,vs,d2,hq,hd2,hc,ha,hr,.inr ⟨.inl hd,hl,hf⟩⟩
 ·exact hs.elim
theorem Snd.ghost{nm z:Nat}{x:Value}{ad:Option Addr}{r:Result Next}(h:Inv L w0 R ι w tm σ)(hf:σ.hp nm=.free)(hr:r=.ok (.value (.slice ad 0 0)) w)(hk:K (.rf nm 0 0) (upd σ.hp nm (.own z []))):
  Snd K R L w0 tm σ.env r:=
 ⟨_,w,_,_,_,.inl hr,hk,.rf nm 0 0 0 ad ⟨Nat.le_refl _,by rw[qj]⟩,by simp[AV.All,qj],h.ghost hf⟩
theorem Xt{nm z n cap:Nat}{e:Nat}{te:TI}{old vs:Array Value}{ocs new:List AV}{σ1:St}{r:Result Next}(h:Inv L w0 R ι w tm σ1)(hf:σ1.hp nm=.free)(hz:te.zero.cells.size=te.size)(hp:0<te.size)
  (ho:RepA R ι w old ocs) (hv:RepA R ι w vs new) (hoa:AllL (fun m=>σ1.hp m≠ .free) ocs) (hva:AllL (fun m=>σ1.hp m≠ .free) new) (hn:(ocs++new).length=n*te.size) (hc:n≤cap)
  (hr:r=.ok (.value (.slice (some ⟨w.heap.size,0,none⟩) n cap)) (w.drew.alloc (.cells (old++vs++Builtin.zeroCells te.zero.cells (cap-n)) e)))
  (hK:K (.rf nm 0 n) (upd σ1.hp nm (.own te.size (ocs++new)))):Snd K R L w0 tm σ1.env r:=by
 have hov:=ho.append hv
 have hzs:(Builtin.zeroCells te.zero.cells (cap-n)).size=(cap-n)*te.size:=by simp[Builtin.zeroCells,hz]
 have hsz:(old++vs++Builtin.zeroCells te.zero.cells (cap-n)).size=cap*te.size:=by
  rw[Array.size_append,hov.1,hn,hzs,←Nat.add_mul];congr 1;omega
 refine Snd.new (w':=w.drew.alloc (.cells (old++vs++Builtin.zeroCells te.zero.cells (cap-n)) e)) (lo:=0) (hi:=0) (cap:=cap) (n:=n) (z:=te.size) (cs:=ocs++new) h.drew hf rfl rfl rfl (by simp)
  (fun b hb=>Qs _ _ _ hb) (Qt _ _) (by simp) (by rw[Array.size_append,hov.1];omega) (AllL.append hoa hva) (fun i hi=>?_) hr hK (.inr ⟨rfl,rfl,hc,by rw[hsz];exact Nat.le_refl _⟩)
 have:=hov.2 i hi
 rw[Array.getD_eq_getD_getElem?,Array.getElem?_append_left (by rw[hov.1];exact hi),←Array.getD_eq_getD_getElem?]
 exact this.mono (fun _ _=>rfl) (fun _ h=>h) (fun _=>True) (AV.all_true (fun _=>trivial) _) (fun _ _=>rfl)
theorem akj{ts:Array TypeId}{ty:TypeId}{x y:Value}{xa ya:AV}{nm:Nat}(h:Inv L w0 R ι w tm σ)(hx:Rep R ι w x xa)(hy:Rep R ι w y ya)
  (hs:aqH P ts xa ya σ.hp nm K):Snd K R L w0 tm σ.env ((do pure (.value (←Builtin.append_ ts ty #[x,y])):Sem Next).run P w):=by
 obtain⟨T,T2,t2,h0,h1,ht2,ti,e,te,ht,hk,hte,⟨hb,hp,hz,hf⟩,hs⟩:=hs
 obtain⟨k,new,vs,d2,hq,hd2,hnl,hna,hnr,hnew⟩:=aio (P:=P) h hy ht2 hz hp hs
 have hu:=zJ (w:=w) ht hk
 obtain⟨hce,hq⟩:=hq
 split at hq
 ·rename_i m o n
  split at hq
  ·rename_i z cs em
   obtain⟨⟨rfl,hl,hn,hml⟩,hK⟩:=hq
   replace hK:=hK hn
   obtain⟨ad,cap,rfl,hcap,hsl⟩:=hx.rf_inv
   obtain⟨hin,hgr⟩:=abY (base:=ad) (sCap:=cap) (ty:=ty) h0 h1 hu hte hd2 hb hn hnew
   have hne:nm≠m:=fun e'=>by rw[e',em]at hf;cases hf
   have hocs:AllL (fun m=>σ.hp m≠ .free) (cut cs o (n*te.size)):=AllL.of_mem fun c hc=>(h.hp.men _ _ _ em).mem (List.mem_of_mem_drop (List.mem_of_mem_take hc))
   have hup:∀x,σ.hp x≠ .free→upd σ.hp m .dead x≠ .free:=fun x hx=>by simp only[upd];split<;>simp_all
   obtain⟨m',cs',old,hq',hlo,hcl,hal,hold,hfc,_⟩:=yO (P:=P) (z:=te.size) (Q:=fun m' cs'=>m'=n∧cs'=cut cs o (n*te.size)) h hx (by
    simp[Zh,em,hl])
   obtain⟨rfl,rfl⟩:=hq'
   by_cases hc:m'+k≤cap
   ·cases hB:ι m with
    |none=>
     rw[hB]at hsl
     have hc0:cap=0:=hsl
     have e1:m'=0:=by omega
     have e2:k=0:=by omega
     subst hc0 e1 e2
     have hvs:vs= #[]:=by have:=hnr.1;rw[hnl]at this;simpa using this
     have hnw:new=[]:=by simpa using hnl
     subst hnw hvs
     have hr:=hin hc w (fun a0 _=>by simp[storeCells,go_sem]) (fun _=>rfl)
     refine Snd.ghost (x:=undef) (ad:=ad) (z:=te.size) (σ:=⟨σ.env,upd σ.hp m .dead⟩) (h.kill m) (by show upd _ _ _ _=_;rw[qm hne];exact hf) (qq (by simpa using hr)) ?_
     simpa [cut]using hK
    |some B=>
     rw[hB]at hsl
     obtain⟨c,TT,lo,hi,g1,g2,g3,g4,g5,g6⟩:=zX h em hB
     dsimp only at hsl
     rw[g3]at hsl
     by_cases hcp:0<cap
     ·obtain⟨rfl,htop⟩:=hsl hcp
      have hmk:(m'+k)*te.size≤cap*te.size:=Nat.mul_le_mul_right _ hc
      rw[Nat.add_mul]at hmk
      have hov:=h.over (B':=⟨B.b,B.base+o,B.top,te.size⟩) (z':=te.size) (cs':=cut cs o (m'*te.size)++List.replicate (k*te.size) .un) em hB hf rfl hml
       ⟨c,TT,lo,hi,g1,g2,rfl,g4,by simp only[List.length_append,List.length_replicate,hcl];omega,fun i hi'=>by
        rw[List.getElem_append]
        split
        ·rename_i hlt
         rw[hcl]at hlt
         rw[Qc hl hlt]
         have:=g6 (o+i) (by omega)
         simpa [Nat.add_assoc]using this
        ·rw[List.getElem_replicate];exact .fr _ _ (.un _)⟩
       (AllL.append hocs (AllL.of_mem (by intro x hx;rw[List.eq_of_mem_replicate hx];simp[AV.All])))
      have hι:∀x,σ.hp x≠ .free→upd ι nm (some (⟨B.b,B.base+o,B.top,te.size⟩:Blk)) x=ι x:=fun x hx=>qm (fun e=>hx (e▸hf))
      obtain⟨w',hw',hi'⟩:=Inv.stores (P:=P) (nm:=nm) (z:=te.size) (B:=⟨B.b,B.base+o,B.top,te.size⟩) (qj _ _ _) vs.toList new (m'*te.size) 0 _ w _ hov (qj _ _ _)
       (by simp only[List.length_append,List.length_replicate,hcl,hnl];omega) (by simpa using hnr.1) (fun i hi'=>by
        have:=hnr.2 i hi'
        rw[List.getD_eq_getElem?_getD,Array.getElem?_toList,←Array.getD_eq_getD_getElem?]
        exact this.mono (fun _ _=>rfl) (fun _ h=>h) _ (hna.get i hi') hι) hce (hna.mono fun x hx=>by
         simp only[upd];repeat' split
         all_goals simp_all)
      have hr:=hin hc w' (fun a0 ha0=>by
       cases ha0
       rw[zC]
       exact hw') (fun e=>by cases e)
      refine⟨_,w',upd ι nm (some ⟨B.b,B.base+o,B.top,te.size⟩),.rf nm 0 (m'+k),_,.inl (qq hr),hK,.rf nm 0 (m'+k) cap _ ⟨hc,?_⟩,by simp[AV.All,qj],?_⟩
      ·rw[qj]
       exact fun _=>⟨rfl,by show B.base+o+0+cap*te.size≤B.top;omega⟩
      ·have e1:wr (cut cs o (m'*te.size)++List.replicate (k*te.size) .un) (m'*te.size+0) new=cut cs o (m'*te.size)++new:=by
        have e0:=yI (cut cs o (m'*te.size)) (List.replicate (k*te.size) .un) new (by rw[List.length_replicate,hnl])
        rw[hcl]at e0
        rw[Nat.add_zero];exact e0
       rw[e1]at hi'
       have e2:upd (upd (upd σ.hp m .dead) nm (.own te.size (cut cs o (m'*te.size)++List.replicate (k*te.size) .un))) nm (.own te.size (cut cs o (m'*te.size)++new))=
         upd (upd σ.hp m .dead) nm (.own te.size (cut cs o (m'*te.size)++new)):=by
        funext x;simp only[upd];split<;>rfl
       rw[e2]at hi'
       exact hi'
     ·have hc0:cap=0:=by omega
      have e1:m'=0:=by omega
      have e2:k=0:=by omega
      subst hc0 e1 e2
      have hvs:vs= #[]:=by have:=hnr.1;rw[hnl]at this;simpa using this
      have hnw:new=[]:=by simpa using hnl
      subst hnw hvs
      have hr:=hin hc w (fun a0 _=>by simp[storeCells,go_sem]) (fun _=>rfl)
      refine Snd.ghost (x:=undef) (ad:=ad) (z:=te.size) (σ:=⟨σ.env,upd σ.hp m .dead⟩) (h.kill m) (by show upd _ _ _ _=_;rw[qm hne];exact hf) (qq (by simpa using hr)) ?_
      simpa [cut]using hK
   ·obtain⟨cap',hc',hr⟩:=hgr (by omega) old hfc
    exact Xt (z:=te.size) (σ1:=⟨σ.env,upd σ.hp m .dead⟩) (h.kill m) (by show upd _ _ _ _=_;rw[qm hne];exact hf) hz hp hold hnr (hocs.mono hup) (hna.mono hup) (by rw[List.length_append,hcl,hnl,Nat.add_mul]) hc' (qq hr) hK
  ·exact hq.elim
 ·obtain⟨hn,hK⟩:=hq
  replace hK:=hK hn
  have:=hx.v_inv;subst this
  obtain⟨hin,hgr⟩:=abY (base:=none) (sLen:=0) (sCap:=0) (ty:=ty) h0 h1 hu hte hd2 hb (by omega) hnew
  by_cases hc:k=0
  ·subst hc
   have hnw:new=[]:=by simpa using hnl
   subst hnw
   have hr:=hin (by omega) w (fun a0 ha=>by cases ha) (fun _=>rfl)
   exact Snd.ghost (x:=undef) (ad:=none) (z:=te.size) h hf (qq hr) hK
  ·obtain⟨cap',hc',hr⟩:=hgr (by omega) #[] (fun _ _=>rfl)
   refine Xt (z:=te.size) (ocs:=[]) (old:= #[]) (n:=k) (cap:=cap') h hf hz hp ⟨rfl,by simp⟩ hnr (by simp[AllL]) hna (by simpa using hnl) (by omega) (qq (by simpa using hr)) (by simpa using hK)
 ·exact hq.elim
end
end Go.Ab
namespace Go.Ab
open Go
def aoM(P:Program)(ts:Array TypeId)(x:AV)(K:AV→Prop):Prop:=
 ∃T ti,ts[0]? =some T∧qz P T=some ti∧match x with
  | .sl n _=>(∃e,ti.kd=.sli e)∧K (.v (.int .i64 n))
  | .rf _ _ n=>(∃e,ti.kd=.sli e)∧K (.v (.int .i64 n))
  | .v (.slice none 0 0)=>(∃e,ti.kd=.sli e)∧K (.v (.int .i64 0))
  | .v (.string s)=>ti.kd=.str∧K (.v (.int .i64 s.size))
  |_=>False
def ajG(P:Program)(ts:Array TypeId)(d x:AV)(hp:Nat→Ob)(K:AV→(Nat→Ob)→Prop):Prop:=
 ∃T,ts[0]? =some T∧KT P T fun te=>match d with
  | .rf m o n=>match hp m with
   | .own z cs=>(z=te.size∧o+n*te.size≤cs.length)∧Zh hp x te.size fun k new=>(∀c∈new,c.cellish=true)∧
     K (.v (.int .i64 (min k n:Nat))) (upd hp m (.own te.size (wr cs o (cut new 0 (min k n*te.size)))))
   |_=>False
  |_=>False
def aqs(P:Program)(b:Builtin)(ts:Array TypeId)(aa0:List AV)(hp:Nat→Ob)(nm:Nat)(K:AV→(Nat→Ob)→Prop):Prop:=
 match b,aa0 with
 | .len,[x]=>aoM P ts x fun v=>K v hp
 | .max,[.v (.int k x),.v (.int _ y)]=>K (.v (.int k (if y>x then y else x))) hp
 | .min,[.v (.int k x),.v (.int _ y)]=>K (.v (.int k (if y<x then y else x))) hp
 | .append,[s,x]=>aqH P ts s x hp nm K
 | .copy,[d,x]=>ajG P ts d x hp K
 |_,_=>False
def anv(P:Program)(s d:TypeId)(x:AV)(hp:Nat→Ob)(nm:Nat)(K:AV→(Nat→Ob)→Prop):Prop:=
 ∃ts td,qz P s=some ts∧qz P d=some td∧match td.kd,x with
  | .int k,.v (.int _ n)=>K (.v (.int k (k.wrap n))) hp
  | .str,.v (.string t)=>K (.v (.string t)) hp
  | .str,x=>∃e,ts.kd=.sli e∧(∃te,qz P e=some te∧te.kd=.int .u8)∧Zh hp x 1 fun k cs=>∃l:List UInt8,cs=qa l∧K (.v (.string ⟨l.toArray⟩)) hp
  | .sli e,.v (.string t)=>(∃te,qz P e=some te∧te.kd=.int .u8)∧hp nm=.free∧K (.rf nm 0 t.size) (upd hp nm (.own 1 (qa t.data.toList)))
  | .sli e,.rf m o n=>s=d∧ts.kd=.sli e∧(∃te,qz P e=some te∧te.kd=.int .u8)∧(∃z cs,hp m=.own z cs)∧0<n∧K (.rf m o n) hp
  |_,_=>False
section
variable {P:Program}{K:AV→(Nat→Ob)→Prop}{L:Nat→Option Blk→Prop}{w0 w:World}{R:Nat→Prop}{ι:Nat→Option Blk}{tm:Array Value}{σ:St}
theorem aiz{ts:Array TypeId}{ty:TypeId}{x:Value}{xa:AV}{Q:AV→Prop}(hx:Rep R ι w x xa)(hs:aoM P ts xa Q):
  ∃z,(Builtin.len_ ts ty #[x]).run P w=.ok z w∧Q (.v z):=by
 obtain⟨T,ti,h0,ht,hs⟩:=hs
 split at hs
 ·obtain⟨⟨e,hk⟩,hq⟩:=hs
  have hu:=zJ (w:=w) ht hk
  cases hx.sl_inv
  refine⟨_,?_,hq⟩
  simp only[Builtin.len_,h0,Sem.run_bind,hu,Result.andThen,List.getElem?_toArray,List.getElem?_cons_zero];rfl
 ·obtain⟨⟨e,hk⟩,hq⟩:=hs
  have hu:=zJ (w:=w) ht hk
  obtain⟨ad,cap,rfl,_⟩:=hx.rf_inv
  refine⟨_,?_,hq⟩
  simp only[Builtin.len_,h0,Sem.run_bind,hu,Result.andThen,List.getElem?_toArray,List.getElem?_cons_zero];rfl
 ·obtain⟨⟨e,hk⟩,hq⟩:=hs
  have hu:=zJ (w:=w) ht hk
  have:=hx.v_inv;subst this
  refine⟨_,?_,hq⟩
  simp only[Builtin.len_,h0,Sem.run_bind,hu,Result.andThen,List.getElem?_toArray,List.getElem?_cons_zero];rfl
 ·obtain⟨hk,hq⟩:=hs
  have:=hx.v_inv;subst this
  obtain⟨d,hd,hk'⟩:=zp (w:=w) ht
  rw[Xn (hk'.trans hk)]at hd
  refine⟨_,?_,hq⟩
  simp only[Builtin.len_,h0,Sem.run_bind,hd,Result.andThen,List.getElem?_toArray,List.getElem?_cons_zero];rfl
 ·exact hs.elim
theorem aeW{ts:Array TypeId}{ty:TypeId}{x y:Value}{xa ya:AV}(h:Inv L w0 R ι w tm σ)(hx:Rep R ι w x xa)(hy:Rep R ι w y ya)
  (hs:ajG P ts xa ya σ.hp K):Snd K R L w0 tm σ.env ((do pure (.value (←Builtin.copy_ ts ty #[x,y])):Sem Next).run P w):=by
 obtain⟨T,h0,ti,e,te,ht,hk,hte,hs⟩:=hs
 have hu:=zJ (w:=w) ht hk
 split at hs
 ·rename_i m o n
  split at hs
  ·rename_i z cs em
   obtain⟨⟨rfl,hl⟩,hs⟩:=hs
   obtain⟨k,new,vs0,⟨hce,hK⟩,hlen,hnl,hna,hnr0,_,hfc⟩:=yO (P:=P) h hy hs
   obtain⟨vs,hnr,hrun⟩:=hfc (min k n) (Nat.min_le_left _ _)
   obtain⟨ad,cap,rfl,hcap,hsl⟩:=hx.rf_inv
   have hmn:min k n*te.size≤n*te.size:=Nat.mul_le_mul_right _ (Nat.min_le_right _ _)
   have hmk:min k n*te.size≤k*te.size:=Nat.mul_le_mul_right _ (Nat.min_le_left _ _)
   have hcl:(cut new 0 (min k n*te.size)).length=min k n*te.size:=qM (by omega)
   have hmem:∀c∈cut new 0 (min k n*te.size),c∈new:=fun c hc=>List.mem_of_mem_drop (List.mem_of_mem_take hc)
   have base:∀w',((match ad with|some a=>storeCells a vs.toList|none=>pure ():Sem Unit)).run P w=.ok () w'→
     (Builtin.copy_ ts ty #[.slice ad n cap,y]).run P w=.ok (.int .i64 (min k n:Nat)) w':=fun w' hw'=>by
    unfold Builtin.copy_
    simp only[h0,Sem.run_bind,hu,Result.andThen,List.getElem?_toArray,List.getElem?_cons_zero,List.getElem?_cons_succ,hlen,qW hte]
    rw[show Nat.min k n=min k n from rfl,hrun]
    cases ad with
    |none=>simp only at hw' ⊢;cases hw';rfl
    |some a0=>simp only at hw' ⊢;simp only[Sem.run_bind,hw',Result.andThen];rfl
   by_cases hmz:min k n*te.size=0
   ·have hnil:cut new 0 (min k n*te.size)=[]:=by rw[hmz];simp[cut]
    have hvs:vs.toList=[]:=by have:=hnr.1;rw[hcl,hmz]at this;simpa using this
    have hr:=base w (by cases ad<;>simp[hvs,storeCells,Sem.run_pure])
    have e1:upd σ.hp m (.own te.size (wr cs o (cut new 0 (min k n*te.size))))=σ.hp:=by
     rw[hnil];funext x;simp only[upd,wr];split
     ·subst_vars;exact em.symm
     ·rfl
    rw[e1]at hK
    exact .same h (qq hr) hK (.fr _ _ (.v _)) (by simp[AV.All])
   ·cases hB:ι m with
    |none=>
     rw[hB]at hsl
     have hc0:cap=0:=hsl
     have:min k n=0:=by omega
     rw[this]at hmz;simp at hmz
    |some B=>
     rw[hB]at hsl
     dsimp only at hsl
     have hcp:0<cap:=by
      rcases Nat.eq_zero_or_pos cap with h|h
      ·have:min k n=0:=by omega
       rw[this]at hmz;simp at hmz
      ·exact h
     obtain⟨rfl,htop⟩:=hsl hcp
     obtain⟨w',hw',hi'⟩:=Inv.stores (P:=P) (nm:=m) (z:=te.size) hB vs.toList (cut new 0 (min k n*te.size)) o 0 cs w σ h em (by omega) (by simpa using hnr.1) (fun i hi=>by
      have:=hnr.2 i hi
      rw[List.getD_eq_getElem?_getD,Array.getElem?_toList,←Array.getD_eq_getD_getElem?];exact this) (fun c hc=>hce c (hmem c hc)) (AllL.of_mem fun c hc=>hna.mem (hmem c hc))
     exact⟨_,w',ι,_,_,.inl (qq (base w' hw')),hK,.fr _ _ (.v _),by simp[AV.All],by simpa using hi'⟩
  ·exact hs.elim
 ·exact hs.elim
theorem ajQ{b:Builtin}{ts:Array TypeId}{ty:TypeId}{cs:Array Bool}{vs:Array Value}{aa0:List AV}{nm:Nat}(h:Inv L w0 R ι w tm σ)(hv:RepA R ι w vs aa0)
  (hm:AllL (fun m=>σ.hp m≠ .free) aa0) (hs:aqs P b ts aa0 σ.hp nm K):Snd K R L w0 tm σ.env ((builtin b ts ty cs vs).run P w):=by
 have one:∀{x:AV},aa0=[x]→∃v,vs= #[v]∧Rep R ι w v x:=by
  rintro x rfl
  have h1:vs.size=1:=hv.1
  have h2:=hv.2 0 (by simp)
  refine⟨vs[0],Array.ext (by simp[h1]) (fun i hi _=>?_),?_⟩
  ·have:i=0:=by omega
   subst this;simp
  ·simpa [Array.getD_eq_getD_getElem?,h1]using h2
 have two:∀{x y:AV},aa0=[x,y]→∃v u,vs= #[v,u]∧Rep R ι w v x∧Rep R ι w u y:=by
  rintro x y rfl
  have h1:vs.size=2:=hv.1
  have h2:=hv.2 0 (by simp)
  have h3:=hv.2 1 (by simp)
  refine⟨vs[0],vs[1],Array.ext (by simp[h1]) (fun i hi _=>?_),?_,?_⟩
  ·have:i=0∨i=1:=by omega
   rcases this with rfl|rfl<;>simp
  ·simpa [Array.getD_eq_getD_getElem?,h1]using h2
  ·simpa [Array.getD_eq_getD_getElem?,h1]using h3
 unfold aqs at hs
 split at hs
 ·obtain⟨v,rfl,hx⟩:=one rfl
  obtain⟨z,hz,hk⟩:=aiz (P:=P) (ty:=ty) hx hs
  exact .scalar h (qq hz) hk
 ·obtain⟨v,u,rfl,hx,hy⟩:=two rfl
  have:=hx.v_inv;subst this
  have:=hy.v_inv;subst this
  exact .scalar h (qq (by simp[Builtin.max_,Builtin.max2])) hs
 ·obtain⟨v,u,rfl,hx,hy⟩:=two rfl
  have:=hx.v_inv;subst this
  have:=hy.v_inv;subst this
  exact .scalar h (qq (by simp[Builtin.min_,Builtin.min2])) hs
 ·obtain⟨v,u,rfl,hx,hy⟩:=two rfl
  exact akj h hx hy hs
 ·obtain⟨v,u,rfl,hx,hy⟩:=two rfl
  exact aeW h hx hy hs
 ·exact hs.elim
end
end Go.Ab
namespace Go.Ab
open Go
theorem aa3(l:List UInt8):∀s:ByteArray,(l.map fun b=>(b.toNat:Int)).foldl (fun r n=>r.push (UInt8.ofNat n.toNat)) s=⟨s.data++l.toArray⟩:=by
 induction l with
 |nil=>intro s;simp
 |cons b l ih=>
  intro s
  simp only[List.map_cons,List.foldl_cons,Int.toNat_natCast]
  rw[ih]
  have:(s.push (UInt8.ofNat b.toNat)).data=s.data.push b:=by
   show s.data.push _=_
   simp
  rw[this]
  congr 1
  apply Array.ext'
  simp
section
variable {P:Program}{K:AV→(Nat→Ob)→Prop}{L:Nat→Option Blk→Prop}{w0 w:World}{R:Nat→Prop}{ι:Nat→Option Blk}{tm:Array Value}{σ:St}
theorem VX{vs:Array Value}{l:List UInt8}(h:RepA R ι w vs (qa l)):vs=((l.map fun b=>(b.toNat:Int)).map (Value.int .u8)).toArray:=by
 apply Array.ext
 ·simpa [qa]using h.1
 ·intro i h1 h2
  have h3:i<(qa l).length:=by rw[←h.1];exact h1
  have:=h.2 i h3
  rw[Array.getD_eq_getD_getElem?,Array.getElem?_eq_getElem h1]at this
  simp only[Option.getD_some,qa,List.getElem_map]at this
  rw[this.v_inv]
  simp
theorem KX{e:Nat}{te:TI}(h:qz P e=some te)(hk:te.kd=.int .u8):P.underlying e=some (.int .u8):=by
 obtain⟨i,d,hi,hd,hz,hk',hs,hb⟩:=zo h
 rw[hd,aaI (hk'.trans hk)]
theorem afD{t:Nat}{ti:TI}(h:qz P t=some ti):∃d,P.underlying t=some d∧J3 d=ti.kd:=by
 obtain⟨i,d,hi,hd,hz,hk',hs,hb⟩:=zo h
 exact⟨d,hd,hk'⟩
theorem jL(w:World)(b o:Nat)(b':Nat)(h:b'≠b):(w.freeze ⟨b,o,none⟩ 1).heap[b']? =w.heap[b']? :=by
 simp only[World.freeze,Nat.one_ne_zero,↓reduceIte,Array.getElem?_modify]
 rw[if_neg (fun e=>h e.symm)]
theorem z4(w:World)(b o:Nat){c:Array Value}{T:TypeId}{lo hi:Nat}(h:w.heap[b]? =some (.cells c T (lo,hi))):
  (w.freeze ⟨b,o,none⟩ 1).heap[b]? =some (.cells c T (if lo==hi then(o,o+1)else(min lo o,max hi (o+1)))):=by
 simp only[World.freeze,Nat.one_ne_zero,↓reduceIte,Array.getElem?_modify,h,Option.map_some]
theorem Xe{b:Nat}{o:Nat}{c:Array Value}{T:TypeId}{fz:Nat×Nat}(h:w.heap[b]? =some (.cells c T fz)):
  (markStringish ⟨b,o,none⟩).run P w=.ok () (w.freeze ⟨b,c.size,none⟩ 1):=by
 unfold markStringish
 have:w.shape? b=some (T,c.size):=by simp[World.shape?,h]
 simp only[Sem.run_bind]
 show(Result.ok (w.shape? b) w).andThen _=_
 rw[this]
 rfl
theorem aeX{s d:TypeId}{x:Value}{xa:AV}{nm:Nat}(h:Inv L w0 R ι w tm σ)(hx:Rep R ι w x xa)(hm:xa.All (fun m=>σ.hp m≠ .free))
  (hs:anv P s d xa σ.hp nm K):Snd K R L w0 tm σ.env ((do pure (.value (←convert s d x)):Sem Next).run P w):=by
 obtain⟨ts,td,hts,htd,hs⟩:=hs
 obtain⟨ds,hus,hks⟩:=afD hts
 obtain⟨dd,hud,hkd⟩:=afD htd
 split at hs
 ·rename_i k k' n e
  have:=hx.v_inv;subst this
  have hd:=aaI (hkd.trans e);subst hd
  refine .scalar h (qq (x:=.int k (k.wrap n)) ?_) hs
  simp only[convert,Sem.run_bind,run_underlying hus,run_underlying hud,Result.andThen,Conv.intToInt];rfl
 ·rename_i t e
  have:=hx.v_inv;subst this
  have hd:=Xn (hkd.trans e);subst hd
  refine .scalar h (qq (x:=.string t) ?_) hs
  simp only[convert,Sem.run_bind,run_underlying hus,run_underlying hud,Result.andThen];rfl
 ·rename_i e hne
  obtain⟨e',hk,⟨te,hte,hku⟩,hs⟩:=hs
  have hd:=Xn (hkd.trans e);subst hd
  have hd:=Jq (hks.trans hk);subst hd
  have hu8:=KX hte hku
  obtain⟨k,cs,vs,⟨l,rfl,hK⟩,hlen,hcl,hal,hr,hfc,_⟩:=yO (P:=P) h hx hs
  have hv:=VX hr
  have hkl:k=l.length:=by simpa [qa]using hcl.symm
  refine .scalar h (qq (x:=.string ⟨l.toArray⟩) ?_) hK
  have hfc':=hfc w rfl
  unfold Zh at hs
  cases x with
  |slice a n c=>
   rw[run_convert_bytes_string w s d e' a n c hus hu8 hud]
   have hn:n=k:=by
    have:(Result.ok n w:Result Nat)=.ok k w:=hlen
    cases this;rfl
   subst hn
   cases a with
   |none=>
    have:l=[]:=by
     have:(Result.ok #[] w:Result (Array Value))=.ok vs w:=hfc'
     cases this
     have:=hr.1
     simpa [qa]using this.symm
    subst this
    rfl
   |some a0=>
    have hld:(loadCells a0 n).run P w=.ok ((l.map fun b=>(b.toNat:Int)).map (Value.int .u8)).toArray w:=by
     have:(loadCells a0 (n*1)).run P w=.ok vs w:=hfc'
     rw[Nat.mul_one,hv]at this;exact this
    rw[run_bytesToString w a0 n c _ hld,aa3]
    simp
  |string t=>
   exfalso
   cases hx with
   |fr _ _ hx=>
    cases hx with
    |un=>exact hs
    |v=>exact hne t rfl
  |_=>
   exfalso
   cases hx with
   |fr _ _ hx=>cases hx<;>exact hs
   |_=>exact hs
 ·rename_i e' t e
  obtain⟨⟨te,hte,hku⟩,hf,hK⟩:=hs
  have:=hx.v_inv;subst this
  have hd:=Jq (hkd.trans e);subst hd
  have hu8:=KX hte hku
  obtain⟨cap,hcap,hch⟩:=zT (P:=P) (w:=w) t.size 0 e'
  let c:Array Value:=(t.data.map fun b=>Value.int .u8 b.toNat)++Array.replicate (cap-t.size) (.int .u8 0)
  have hcs:c.size=cap:=by
   simp only[c,Array.size_append,Array.size_map,Array.size_replicate]
   have:t.data.size=t.size:=rfl
   omega
  have hheap:(w.drew.alloc (.cells c e')).heap[w.heap.size]? =some (.cells c e'):=Qt w.drew _
  refine Snd.new (w':=(w.drew.alloc (.cells c e')).freeze ⟨w.heap.size,c.size,none⟩ 1) (c:=c) (T:=e') (lo:=c.size) (hi:=c.size+1) (n:=t.size) (cap:=cap) (z:=1) h hf ?_ ?_ ?_ ?_ (fun b hb=>?_) ?_ (.inr (Nat.le_refl _))
   (by simp only[qa,List.length_map,Array.length_toList,hcs];exact hcap) (AllL.of_mem (by simp[qa,AV.All])) (fun i hi=>?_) (qq (x:=.slice (some ⟨w.heap.size,0,none⟩) t.size cap) ?_) hK (.inr ⟨rfl,rfl,hcap,by omega⟩)
  ·simp[World.freeze];rfl
  ·simp[World.freeze]
  ·simp[World.freeze];rfl
  ·simp[World.freeze]
  ·rw[jL _ _ _ _ (by omega)]
   exact Qs w.drew _ _ hb
  ·rw[z4 _ _ _ hheap]
   simp
  ·have hi':i<t.data.size:=by simpa [qa]using hi
   have:c.getD i undef=.int .u8 (t.data[i]).toNat:=by
    simp only[c]
    rw[Array.getD_eq_getD_getElem?,Array.getElem?_append_left (by simpa using hi'),Array.getElem?_map,Array.getElem?_eq_getElem hi']
    rfl
   rw[this]
   simp only[qa,List.getElem_map,Array.getElem_toList]
   exact .fr _ _ (.v _)
  ·simp only[convert,Sem.run_bind,run_underlying hus,run_underlying hud,run_underlying hu8,Result.andThen]
   have h1:(Conv.stringToBytes e' t).run P w=.ok (.slice (some ⟨w.heap.size,0,none⟩) t.size cap) ((w.drew.alloc (.cells c e')).freeze ⟨w.heap.size,c.size,none⟩ 1):=by
    unfold Conv.stringToBytes
    simp only[Sem.run_bind,hch,Result.andThen,qZ]
    rw[show(w.drew.heap.size)=w.heap.size from rfl,Xe hheap]
    rfl
   cases ds<;>exact h1
 ·rename_i e' m o n e
  obtain⟨rfl,hk,⟨te,hte,hku⟩,⟨z,cs,em⟩,hn,hK⟩:=hs
  obtain⟨ad,cap,rfl,hcap,hsl⟩:=hx.rf_inv
  have hd:=Jq (hks.trans hk);subst hd
  have hdd:dd=.slice e':=by rw[hus]at hud;cases hud;rfl
  subst hdd
  have hu8:=KX hte hku
  cases hB:ι m with
  |none=>rw[hB]at hsl;simp only at hsl;omega
  |some B=>
   rw[hB]at hsl
   obtain⟨rfl,htop⟩:=hsl (by omega)
   obtain⟨c,T,lo,hi,g1,g2,g3,g4,g5,g6⟩:=zX h em hB
   have hT:=h.turn (w':=w.freeze ⟨B.b,c.size,none⟩ 1) (cs':=cs) em hB (by simp[World.freeze]) (by simp[World.freeze]) (by simp[World.freeze]) (by simp[World.freeze]) (fun b hb=>jL _ _ _ _ hb)
    ⟨c,T,(if lo==hi then(c.size,c.size+1)else(min lo c.size,max hi (c.size+1))).1,(if lo==hi then(c.size,c.size+1)else(min lo c.size,max hi (c.size+1))).2,z4 _ _ _ g1,by
     split
     ·exact .inr (Nat.le_refl _)
     ·rename_i hne
      have:lo≠hi:=by simpa using hne
      exact .inr (by simp only;omega),g3,g4,g5,fun i hi'=>(g6 i hi').mono (fun b hb=>jL _ _ _ _ (fun eb=>h.hp.nR m z cs B em hB (eb▸hb))) (fun _ h=>h) (fun _=>True) (AV.all_true (fun _=>trivial) _) (fun _ _=>rfl)⟩ (h.hp.men _ _ _ em)
   have e1:upd σ.hp m (.own z cs)=σ.hp:=by
    funext x
    simp only[upd]
    split
    ·subst_vars;exact em.symm
    ·rfl
   rw[e1]at hT
   refine⟨.slice (some ⟨B.b,B.base+o,none⟩) n cap,_,ι,.rf m o n,σ.hp,.inl (qq ?_),hK,.rf m o n cap _ ⟨hcap,by rw[hB];exact fun _=>⟨rfl,htop⟩⟩,hm,hT⟩
   simp only[convert,Sem.run_bind,run_underlying hus,run_underlying hu8,Result.andThen,beq_self_eq_true]
   rw[Xe g1]
   rfl
 ·exact hs.elim
end
end Go.Ab
namespace Go.Ab
open Go
def qx(hp:Nat→Ob):Nat→AV→AV
 |0,_=>.un
 |k+1,.rf nm o n=>match hp nm with
  | .own z cs=>.sl n ((cut cs o (n*z)).map (qx hp k))
  |_=>.un
 |k+1,.pt nm o=>match hp nm with
  | .own _ cs=>.fp (cs.map (qx hp k)) o
  |_=>.un
 |k+1,.ag cs=>.ag (cs.map (qx hp k))
 |k+1,.tu cs=>.tu (cs.map (qx hp k))
 |k+1,.fn f cs=>.fn f (cs.map (qx hp k))
 |_+1,.v (.slice none 0 0)=>.sl 0 []
 |_+1,a=>a
mutual
def AV.ren(ρ:Nat→Nat):AV→AV
 | .rf nm o n=>.rf (ρ nm) o n
 | .pt nm o=>.pt (ρ nm) o
 | .ag cs=>.ag (zb ρ cs)
 | .tu cs=>.tu (zb ρ cs)
 | .fn f cs=>.fn f (zb ρ cs)
 | .un=>.un
 | .v x=>.v x
 | .sl n cs=>.sl n cs
 | .fp cs o=>.fp cs o
def zb(ρ:Nat→Nat):List AV→List AV
 | []=>[]
 |a::r=>a.ren ρ::zb ρ r
end
theorem qA(ρ:Nat→Nat)(cs:List AV):zb ρ cs=cs.map (AV.ren ρ):=by
 induction cs with
 |nil=>rfl
 |cons a r ih=>simp[zb,ih]
def Ob.ren(ρ:Nat→Nat):Ob→Ob
 | .own z cs=>.own z (zb ρ cs)
 |o=>o
section
variable {P:Program}{L:Nat→Option Blk→Prop}{w0 w:World}{R:Nat→Prop}{ι:Nat→Option Blk}{tm:Array Value}{σ:St}
def XG(hp:Nat→Ob)(ι:Nat→Option Blk)(b:Nat):Prop:=∃nm z cs B,hp nm=.own z cs∧ι nm=some B∧B.b=b
theorem zN{k:Nat}{R':Nat→Prop}{hp:Nat→Ob}{vs:Array Value}{cs:List AV}(hs:vs.size=cs.length)
  (h:∀i (h:i<cs.length),FRep R' w (vs.getD i undef) (qx hp k cs[i])):∀i (h:i<(cs.map (qx hp k)).length),FRep R' w (vs.getD i undef) (cs.map (qx hp k))[i]:=by
 intro i hi
 simp only[List.getElem_map]
 exact h i (by simpa using hi)
theorem aer{hp:Nat→Ob}{R':Nat→Prop}:∀(k:Nat) {x:Value} {a:AV},FRep R' w x a→FRep R' w x (qx hp k a)
 |0,x,a,h=>.un _
 |k+1,x,a,h=>by
  cases h with
  |un=>exact .un _
  |v x=>
   unfold qx
   split
   all_goals first
    |(rename_i e;cases e;done)
    |(rename_i e;cases e;exact .sl _ _ _ _ (fun _=>undef) 0 0 (Nat.le_refl _) (by simp) (by simp) (by simp))
    |exact .v _
    |(simp_all;done)
   all_goals simp_all
  |sl a n cap cs vs b o h1 h2 h3 h4=>exact .sl a n cap cs vs b o h1 h2 h3 h4
  |fp b o0 cs o vs h1 h2 h3=>exact .fp b o0 cs o vs h1 h2 h3
  |fn f vs cs hs hr=>exact .fn f vs _ (by simpa using hs) (zN hs fun i hi=>aer k (hr i hi))
  |ag vs cs hs hr=>exact .ag vs _ (by simpa using hs) (zN hs fun i hi=>aer k (hr i hi))
  |tu vs cs hs hr=>exact .tu vs _ (by simpa using hs) (zN hs fun i hi=>aer k (hr i hi))
theorem za{hp:Nat→Ob}(h:HpOk R ι w hp){R':Nat→Prop}(hR:∀b,R b→R' b)(hO:∀b,XG hp ι b→R' b):∀(k:Nat) {x:Value} {a:AV},Rep R ι w x a→FRep R' w x (qx hp k a)
 |0,x,a,_=>.un _
 |k+1,x,a,hx=>by
  cases hx with
  |fr _ _ hx=>exact aer (k+1) (hx.mono (fun _ _=>rfl) hR)
  |rf nm o n cap ad hs=>
   simp only[qx]
   have hk:=h.ok nm
   cases e:hp nm with
   |free=>exact .un _
   |dead=>exact .un _
   |own z cs=>
    rw[e]at hk
    cases hB:ι nm with
    |none=>
     rw[hB]at hk hs
     have:cs=[]:=hk
     subst this
     exact .sl _ _ _ _ (fun _=>undef) 0 0 hs.1 (by simp[cut]) (by simp[cut]) (by simp[cut])
    |some B=>
     rw[hB]at hk hs
     obtain⟨c,T,lo,hi,g1,g2,g3,g4,g5,g6⟩:=hk
     obtain⟨h1,h2⟩:=hs
     have hcl:((cut cs o (n*z)).map (qx hp k)).length=(cut cs o (n*z)).length:=by simp
     have hcl2:(cut cs o (n*z)).length≤cs.length-o:=by simp[cut];omega
     refine .sl _ _ _ _ (fun i=>c.getD (B.base+o+i) undef) B.b (B.base+o) h1 (fun hp'=>?_) (fun i hi=>?_) (fun i hi=>?_)
     ·have hn:0<n:=by
       rcases Nat.eq_zero_or_pos n with h|h
       ·subst h;simp[cut]at hp'
       ·exact h
      exact⟨(h2 (by omega)).1,hO _ ⟨nm,z,cs,B,e,hB,rfl⟩⟩
     ·exact zI g1 (by omega)
     ·simp only[List.getElem_map]
      refine za h hR hO k ?_
      have:=g6 (o+i) (by omega)
      simpa [cut,Nat.add_assoc]using this
  |pt nm o B hB=>
   simp only[qx]
   have hk:=h.ok nm
   cases e:hp nm with
   |free=>exact .un _
   |dead=>exact .un _
   |own z cs=>
    rw[e,hB]at hk
    obtain⟨c,T,lo,hi,g1,g2,g3,g4,g5,g6⟩:=hk
    refine .fp B.b B.base _ o (fun i=>c.getD (B.base+i) undef) (fun _=>hO _ ⟨nm,z,cs,B,e,hB,rfl⟩) (fun i hi=>?_) (fun i hi=>?_)
    ·exact zI g1 (by simp at hi;omega)
    ·simp only[List.getElem_map]
     exact za h hR hO k (g6 i (by simpa using hi))
  |fn f vs cs hs hr=>exact .fn f vs _ (by simpa using hs) (zN hs fun i hi=>za h hR hO k (hr i hi))
  |ag vs cs hs hr=>exact .ag vs _ (by simpa using hs) (zN hs fun i hi=>za h hR hO k (hr i hi))
  |tu vs cs hs hr=>exact .tu vs _ (by simpa using hs) (zN hs fun i hi=>za h hR hO k (hr i hi))
end
end Go.Ab
namespace Go.Ab
open Go
def bhp(bs:List Ob):Nat→Ob:=fun m=>if 10000000≤m then bs.getD (m-10000000) .free else .free
def rhp(hs bs:List Ob):Nat→Ob:=fun m=>if 10000000≤m then bs.getD (m-10000000) .free else hs.getD m .free
structure Fin(cl:Bool)(R:Nat→Prop)(ι:Nat→Option Blk)(w:World)(bs:List Ob)(w':World)(R':Nat→Prop)(ι':Nat→Option Blk)(x:Value)(r:AV)(hs bs':List Ob):Prop where
 ext:Ext (XG (bhp bs) ι) w w'
 rlt:∀b,R' b→b<w'.heap.size
 rnew:∀b,R' b→w.heap.size≤b∨(cl=false∧R b)
 rep:Rep R' ι' w' x r
 all:r.All (fun m=>rhp hs bs' m≠ .free)
 okF:∀m,m<10000000→OOk R' ι' w' (ι' m) (rhp hs bs' m)
 okB:∀m,10000000≤m→OOk (fun b=>R b∨R' b) ι' w' (ι' m) (rhp hs bs' m)
 nR:∀m z cs B,rhp hs bs' m=.own z cs→ι' m=some B→¬(R B.b∨R' B.b)
 inj:∀nm nm' z z' cs cs' B B',rhp hs bs' nm=.own z cs→rhp hs bs' nm'=.own z' cs'→ι' nm=some B→ι' nm'=some B'→B.b=B'.b→nm=nm'
 men:∀nm z cs,rhp hs bs' nm=.own z cs→AllL (fun m=>rhp hs bs' m≠ .free) cs
 fresh:∀m z cs B,m<10000000→rhp hs bs' m=.own z cs→ι' m=some B→w.heap.size≤B.b
 len:bs'.length=bs.length
 bown:∀m,10000000≤m→ι' m=ι m
 bnf:∀i,i<bs'.length→bs'.getD i .free≠ .free
def Con(P:Program)(f:FuncId)(cl:Bool)(args:List AV)(bs:List Ob)(post:AV→List Ob→List Ob→Prop):Prop:=
 ∀(R:Nat→Prop) (ι:Nat→Option Blk) (w:World) (vs:Array Value),(∀b,R b→b<w.heap.size)→RepA R ι w vs args→AllL (fun m=>bhp bs m≠ .free) args→
  HpOk R ι w (bhp bs)→GdL (XG (bhp bs) ι) w→Calls P f vs w fun e w'=>∃x r hs bs' R' ι',e=.returned x∧post r hs bs'∧Fin cl R ι w bs w' R' ι' x r hs bs'
theorem Con.mono{P:Program}{f:FuncId}{cl:Bool}{args:List AV}{bs:List Ob}{post post':AV→List Ob→List Ob→Prop}(h:Con P f cl args bs post)
  (hp:∀r hs bs',post r hs bs'→post' r hs bs'):Con P f cl args bs post':=
 fun R ι w vs h1 h2 h3 h4 h5=>(h R ι w vs h1 h2 h3 h4 h5).mono fun e w' ⟨x,r,hs,bs',R',ι',he,hpo,hf⟩=>⟨x,r,hs,bs',R',ι',he,hp _ _ _ hpo,hf⟩
def qs(hp:Nat→Ob)(k:Nat):List Ob→Prop
 | []=>True
 |_::r=>hp k=.free∧qs hp (k+1) r
def QF(ρ:Nat→Nat)(hp:Nat→Ob)(k:Nat):List Ob→Nat→Ob
 | []=>hp
 |h::r=>QF ρ (upd hp k (h.ren ρ)) (k+1) r
def jM(hp:Nat→Ob):List Nat→List Ob→Nat→Ob
 |n::ns,b::bs=>jM (upd hp n b) ns bs
 |_,_=>hp
theorem jX{hp:Nat→Ob}:∀{hs:List Ob} {k:Nat},qs hp k hs→∀j,j<hs.length→hp (k+j)=.free
 | [],k,_,j,hj=>by simp at hj
 |_::r,k,h,0,_=>h.1
 |_::r,k,h,j+1,hj=>by
  have:=jX h.2 j (by simpa using hj)
  rw[show k+(j+1)=k+1+j by omega];exact this
theorem jx(ρ:Nat→Nat):∀(hs:List Ob) (hp:Nat→Ob) (k m:Nat),QF ρ hp k hs m=if k≤m∧m<k+hs.length then(hs.getD (m-k) .free).ren ρ else hp m
 | [],hp,k,m=>by simp[QF];omega
 |h::r,hp,k,m=>by
  rw[QF,jx ρ r]
  by_cases h1:k+1≤m∧m<k+1+r.length
  ·rw[if_pos h1,if_pos (by simp;omega)]
   rw[show m-k=(m-(k+1))+1 by omega];rfl
  ·rw[if_neg h1]
   by_cases h2:m=k
   ·subst h2;rw[qj,if_pos (by simp)];simp
   ·rw[qm h2,if_neg (by simp;omega)]
section
variable {P:Program}{L:Nat→Option Blk→Prop}{w0 w:World}{R:Nat→Prop}{ι:Nat→Option Blk}{tm:Array Value}{σ:St}
theorem jt{f:AV→AV}{cs:List AV}(h:∀i (h:i<cs.length),f cs[i]=cs[i]):cs.map f=cs:=by
 apply List.ext_getElem
 ·simp
 ·intro i h1 h2;simp only[List.getElem_map];exact h i h2
theorem Rep.ren{ι':Nat→Option Blk}{ρ:Nat→Nat}{x:Value}{a:AV}(h:Rep R ι w x a):a.All (fun m=>ι' (ρ m)=ι m)→Rep R ι' w x (a.ren ρ):=by
 induction h with
 |fr x a h=>
  intro _
  have key:∀{x:Value} {a:AV},FRep R w x a→a.ren ρ=a:=by
   intro x a h
   induction h with
   |un=>rfl
   |v=>rfl
   |sl=>rfl
   |fp=>rfl
   |fn f vs cs hs hr ih=>
    simp only[AV.ren,qA];congr 1
    exact jt ih
   |ag vs cs hs hr ih=>
    simp only[AV.ren,qA];congr 1
    exact jt ih
   |tu vs cs hs hr ih=>
    simp only[AV.ren,qA];congr 1
    exact jt ih
  rw[key h];exact .fr _ _ h
 |rf nm o n cap a h=>intro hn;simp only[AV.All]at hn;exact .rf _ o n cap a (by rw[hn];exact h)
 |pt nm o B h=>intro hn;simp only[AV.All]at hn;exact .pt _ o B (by rw[hn];exact h)
 |fn f vs cs hs hr ih=>
  intro hn;simp only[AV.All]at hn
  simp only[AV.ren,qA]
  exact .fn f vs _ (by simpa using hs) (fun i hi=>by simp only[List.getElem_map];exact ih i (by simpa using hi) (hn.get i (by simpa using hi)))
 |ag vs cs hs hr ih=>
  intro hn;simp only[AV.All]at hn
  simp only[AV.ren,qA]
  exact .ag vs _ (by simpa using hs) (fun i hi=>by simp only[List.getElem_map];exact ih i (by simpa using hi) (hn.get i (by simpa using hi)))
 |tu vs cs hs hr ih=>
  intro hn;simp only[AV.All]at hn
  simp only[AV.ren,qA]
  exact .tu vs _ (by simpa using hs) (fun i hi=>by simp only[List.getElem_map];exact ih i (by simpa using hi) (hn.get i (by simpa using hi)))
theorem AV.All.ren{p q:Nat→Prop}{ρ:Nat→Nat}:∀{a:AV},a.All p→(∀m,p m→q (ρ m))→(a.ren ρ).All q
 | .un,_,_| .v _,_,_| .sl _ _,_,_| .fp _ _,_,_=>by simp[AV.All,AV.ren]
 | .rf nm _ _,h,hq=>by simp only[AV.All,AV.ren]at*;exact hq _ h
 | .pt nm _,h,hq=>by simp only[AV.All,AV.ren]at*;exact hq _ h
 | .ag cs,h,hq=>by simp only[AV.All,AV.ren]at*;exact renAll h hq
 | .tu cs,h,hq=>by simp only[AV.All,AV.ren]at*;exact renAll h hq
 | .fn _ cs,h,hq=>by simp only[AV.All,AV.ren]at*;exact renAll h hq
where renAll {p q:Nat→Prop} {ρ:Nat→Nat}:∀{cs:List AV},AllL p cs→(∀m,p m→q (ρ m))→AllL q (zb ρ cs)
 | [],_,_=>by simp[AllL,zb]
 |a::r,h,hq=>by simp only[AllL,zb]at*;exact⟨AV.All.ren h.1 hq,renAll h.2 hq⟩
theorem AllL.ren{p q:Nat→Prop}{ρ:Nat→Nat}{cs:List AV}(h:AllL p cs)(hq:∀m,p m→q (ρ m)):AllL q (zb ρ cs):=AV.All.ren.renAll h hq
theorem OOk.ren{ι':Nat→Option Blk}{ρ:Nat→Nat}{B:Option Blk}{ob:Ob}(h:OOk R ι w B ob)(hn:∀z cs,ob=.own z cs→AllL (fun m=>ι' (ρ m)=ι m) cs):OOk R ι' w B (ob.ren ρ):=by
 cases ob with
 |free=>trivial
 |dead=>trivial
 |own z cs=>
  cases B with
  |none=>have:cs=[]:=h;subst this;rfl
  |some B=>
   obtain⟨c,T,lo,hi,g1,g2,g3,g4,g5,g6⟩:=h
   have hl:(zb ρ cs).length=cs.length:=by rw[qA];simp
   refine⟨c,T,lo,hi,g1,g2,g3,g4,by rw[hl];exact g5,fun i hi=>?_⟩
   have hi':i<cs.length:=by rw[hl]at hi;exact hi
   have e:(zb ρ cs)[i]=(cs[i]).ren ρ:=by simp only[qA,List.getElem_map]
   rw[e]
   exact(g6 i hi').ren ((hn z cs rfl).get i hi')
end
end Go.Ab
namespace Go.Ab
open Go
theorem yB:∀(ns:List Nat) (bs:List Ob) (hp:Nat→Ob) (m:Nat),m∉ns→jM hp ns bs m=hp m
 | [],bs,hp,m,_=>by simp[jM]
 |n::ns,[],hp,m,_=>by simp[jM]
 |n::ns,b::bs,hp,m,h=>by
  simp only[jM]
  rw[yB ns bs _ m (fun hm=>h (by simp[hm])),qm (fun e=>h (by simp[e]))]
theorem Y5:∀(ns:List Nat) (bs:List Ob) (hp:Nat→Ob),ns.Nodup→∀i (h:i<ns.length) (h':i<bs.length),jM hp ns bs ns[i]=bs[i]
 | [],bs,hp,_,i,h,_=>by simp at h
 |n::ns,[],hp,_,i,_,h=>by simp at h
 |n::ns,b::bs,hp,hn,0,_,_=>by
  simp only[jM,List.getElem_cons_zero]
  rw[yB ns bs _ n (by simpa using(List.nodup_cons.1 hn).1),qj]
 |n::ns,b::bs,hp,hn,i+1,h,h'=>by
  simp only[jM,List.getElem_cons_succ]
  exact Y5 ns bs _ (List.nodup_cons.1 hn).2 i (by simpa using h) (by simpa using h')
def rho(nm0:Nat)(nms:List Nat):Nat→Nat:=fun m=>if m<10000000 then nm0+m else nms.getD (m-10000000) 0
section
variable {P:Program}{L:Nat→Option Blk→Prop}{w0 w:World}{R:Nat→Prop}{ι:Nat→Option Blk}{tm:Array Value}{σ:St}
theorem OOk.mono{R':Nat→Prop}{ι':Nat→Option Blk}{w':World}{B:Option Blk}{ob:Ob}(h:OOk R ι w B ob)(hw:∀b,R b→w'.heap[b]? =w.heap[b]?)
  (hB:∀B',B=some B'→∀z cs,ob=.own z cs→w'.heap[B'.b]? =w.heap[B'.b]?) (hR:∀b,R b→R' b) (hn:∀z cs,ob=.own z cs→AllL (fun m=>ι' m=ι m) cs):OOk R' ι' w' B ob:=by
 cases ob with
 |free=>trivial
 |dead=>trivial
 |own z cs=>
  cases B with
  |none=>exact h
  |some B=>
   obtain⟨c,T,lo,hi,g1,g2,g3,g4,g5,g6⟩:=h
   exact⟨c,T,lo,hi,by rw[hB B rfl z cs rfl];exact g1,g2,g3,g4,g5,fun i hi=>(g6 i hi).mono hw hR _ ((hn z cs rfl).get i hi) (fun _ h=>h)⟩
theorem ym{R':Nat→Prop}{ι':Nat→Option Blk}{w':World}{x:Value}{r:AV}{hs bs':List Ob}{nms:List Nat}{nm0:Nat}(h:Inv L w0 R ι w tm σ)
  (hnd:nms.Nodup) (hlive:∀n∈nms,∃z cs,σ.hp n=.own z cs)
  (hext:Ext (fun b=>∃n∈nms,∃B,ι n=some B∧B.b=b) w w') (hrlt:∀b,R' b→b<w'.heap.size) (hrnew:∀b,R' b→w.heap.size≤b∨R b)
  (hrep:Rep R' ι' w' x r) (hall:r.All (fun m=>rhp hs bs' m≠ .free)) (okF:∀m,m<10000000→OOk R' ι' w' (ι' m) (rhp hs bs' m))
  (okB:∀m,10000000≤m→OOk (fun b=>R b∨R' b) ι' w' (ι' m) (rhp hs bs' m)) (hnR:∀m z cs B,rhp hs bs' m=.own z cs→ι' m=some B→¬(R B.b∨R' B.b))
  (hinj:∀nm nm' z z' cs cs' B B',rhp hs bs' nm=.own z cs→rhp hs bs' nm'=.own z' cs'→ι' nm=some B→ι' nm'=some B'→B.b=B'.b→nm=nm')
  (hmen:∀nm z cs,rhp hs bs' nm=.own z cs→AllL (fun m=>rhp hs bs' m≠ .free) cs)
  (hfresh:∀m z cs B,m<10000000→rhp hs bs' m=.own z cs→ι' m=some B→w.heap.size≤B.b) (hlen:bs'.length=nms.length) (hN:hs.length≤10000000)
  (hbown:∀i (h:i<nms.length),ι' (10000000+i)=ι nms[i]) (hbnf:∀i,i<bs'.length→bs'.getD i .free≠ .free) (hfree:qs σ.hp nm0 hs):
  ∃ι₂,Inv L w0 (fun b=>R b∨R' b) ι₂ w' tm ⟨σ.env,jM (QF (rho nm0 nms) σ.hp nm0 hs) nms (bs'.map (Ob.ren (rho nm0 nms)))⟩∧
   Rep (fun b=>R b∨R' b) ι₂ w' x (r.ren (rho nm0 nms))∧(r.ren (rho nm0 nms)).All (fun m=>jM (QF (rho nm0 nms) σ.hp nm0 hs) nms (bs'.map (Ob.ren (rho nm0 nms))) m≠ .free):=by
 generalize hρ:rho nm0 nms=ρ
 generalize hhp:jM (QF ρ σ.hp nm0 hs) nms (bs'.map (Ob.ren ρ))=hp'
 let V:Nat→Prop:=fun c=>(c<10000000∧c<hs.length)∨(10000000≤c∧c-10000000<nms.length)
 have hV:∀c,rhp hs bs' c≠ .free→V c:=by
  intro c hc
  simp only[rhp]at hc
  by_cases h5:10000000≤c
  ·right
   refine⟨h5,?_⟩
   rcases Nat.lt_or_ge (c-10000000) nms.length with h|h
   ·exact h
   ·rw[if_pos h5,List.getD_eq_getElem?_getD,List.getElem?_eq_none (by omega)]at hc
    exact absurd rfl hc
  ·left
   refine⟨by omega,?_⟩
   rcases Nat.lt_or_ge c hs.length with h|h
   ·exact h
   ·rw[if_neg h5,List.getD_eq_getElem?_getD,List.getElem?_eq_none h]at hc
    exact absurd rfl hc
 have hρ1:∀c,c<10000000→ρ c=nm0+c:=fun c hc=>by rw[←hρ];simp[rho,hc]
 have hρ2:∀i (hi:i<nms.length),ρ (10000000+i)=nms[i]:=fun i hi=>by
  rw[←hρ];simp[rho,show ¬(10000000+i<10000000) by omega,hi]
 have hnin:∀n∈nms,¬(nm0≤n∧n<nm0+hs.length):=fun n hn hc=>by
  obtain⟨z,cs,e⟩:=hlive n hn
  have:=jX hfree (n-nm0) (by omega)
  rw[show nm0+(n-nm0)=n by omega,e]at this;cases this
 let ι₂:Nat→Option Blk:=fun m=>if nm0≤m∧m<nm0+hs.length then ι' (m-nm0)else ι m
 have hp1:∀c,V c→hp' (ρ c)=(rhp hs bs' c).ren ρ∧ι₂ (ρ c)=ι' c:=by
  intro c hc
  rcases hc with⟨h5,hc⟩|⟨h5,hc⟩
  ·have hni:nm0+c∉nms:=fun hm=>hnin _ hm (by omega)
   rw[hρ1 c h5,←hhp,yB _ _ _ _ hni,jx,if_pos (by omega)]
   refine⟨?_,?_⟩
   ·rw[show nm0+c-nm0=c by omega];simp[rhp,show ¬10000000≤c by omega]
   ·show(if _ then _ else _)=_
    rw[if_pos (by omega),show nm0+c-nm0=c by omega]
  ·obtain⟨i,rfl⟩:∃i,c=10000000+i:=⟨c-10000000,by omega⟩
   have hi:i<nms.length:=by omega
   rw[hρ2 i hi,←hhp,Y5 nms _ _ hnd i hi (by simp[hlen];exact hi)]
   refine⟨?_,?_⟩
   ·simp[rhp,List.getD_eq_getElem?_getD,List.getElem?_eq_getElem (show i<bs'.length by omega)]
   ·show(if _ then _ else _)=_
    rw[if_neg (hnin _ (List.getElem_mem hi)),hbown i hi]
 have hp2:∀m,(∀c,V c→ρ c≠m)→hp' m=σ.hp m∧ι₂ m=ι m:=by
  intro m hm
  have hni:m∉nms:=fun hmem=>by
   obtain⟨i,hi,rfl⟩:=List.getElem_of_mem hmem
   exact hm (10000000+i) (.inr ⟨by omega,by omega⟩) (hρ2 i hi)
  have hnr:¬(nm0≤m∧m<nm0+hs.length):=fun hc=>hm (m-nm0) (.inl ⟨by omega,by omega⟩) (by rw[hρ1 _ (by omega)];omega)
  rw[←hhp,yB _ _ _ _ hni,jx,if_neg hnr]
  exact⟨rfl,by show(if _ then _ else _)=_;rw[if_neg hnr]⟩
 have hcase:∀m,(∃c,V c∧m=ρ c)∨(∀c,V c→ρ c≠m):=fun m=>by
  by_cases hx:∃c,V c∧ρ c=m
  ·obtain⟨c,h1,h2⟩:=hx;exact .inl ⟨c,h1,h2.symm⟩
  ·exact .inr fun c hc e=>hx ⟨c,hc,e⟩
 have hrenF:∀{ob:Ob},ob.ren ρ≠ .free↔ob≠ .free:=fun {ob}=>by cases ob<;>simp[Ob.ren]
 have hkeep:∀m,σ.hp m≠ .free→hp' m≠ .free∧ι₂ m=ι m:=by
  intro m hm
  rcases hcase m with⟨c,hc,rfl⟩|hn
  ·rcases hc with⟨h5,hc⟩|⟨h5,hc⟩
   ·exfalso;apply hm;rw[hρ1 c h5];exact jX hfree c hc
   ·obtain⟨i,rfl⟩:∃i,c=10000000+i:=⟨c-10000000,by omega⟩
    have hi:i<nms.length:=by omega
    have h1:=hp1 (10000000+i) (.inr ⟨h5,hc⟩)
    refine⟨?_,by rw[h1.2,hbown i hi,hρ2 i hi]⟩
    rw[h1.1,hrenF]
    have:=hbnf i (by omega)
    simpa [rhp]using this
  ·rw[(hp2 m hn).1,(hp2 m hn).2];exact⟨hm,rfl⟩
 have hbor:∀b,b<w.heap.size→(∀n∈nms,∀B,ι n=some B→B.b≠b)→w'.heap[b]? =w.heap[b]? :=fun b hb hn=>
  hext.block b hb (fun⟨n,hn',B,hB,e⟩=>hn n hn' B hB e)
 have hRb:∀b,R b→w'.heap[b]? =w.heap[b]? :=fun b hb=>hbor b (h.rlt b hb) fun n hn B hB e=>by
  obtain⟨z,cs,eo⟩:=hlive n hn
  exact h.hp.nR n z cs B eo hB (e▸hb)
 have hsame:∀m,(∀c,V c→ρ c≠m)→∀z cs B,σ.hp m=.own z cs→ι m=some B→w'.heap[B.b]? =w.heap[B.b]? :=fun m hm z cs B e hB=>hbor _ (h.block_lt e hB) fun n hn B' hB' eb=>by
  obtain⟨z',cs',eo⟩:=hlive n hn
  have:=h.hp.inj n m z' z cs' cs B' B eo e hB' hB eb
  subst this
  obtain⟨i,hi,e⟩:=List.getElem_of_mem hn
  exact hm (10000000+i) (.inr ⟨by omega,by omega⟩) ((hρ2 i hi).trans e)
 have hokR:∀c,V c→OOk (fun b=>R b∨R' b) ι' w' (ι' c) (rhp hs bs' c):=fun c hc=>by
  by_cases h5:c<10000000
  ·exact(okF c h5).mono (fun _ _=>rfl) (fun _ _ _ _ _=>rfl) (fun _ h=>.inr h) (fun _ _ _=>AllL.of_mem fun a _=>AV.all_true (fun _=>rfl) a)
  ·exact okB c (by omega)
 have hmenV:∀c z cs,rhp hs bs' c=.own z cs→AllL (fun m=>V m) cs:=fun c z cs e=>(hmen c z cs e).mono fun m hm=>hV m hm
 have hownE:∀{c z cs},hp' (ρ c)=.own z cs→V c→∃cs0,rhp hs bs' c=.own z cs0∧cs=zb ρ cs0:=by
  intro c z cs e hc
  rw[(hp1 c hc).1]at e
  revert e
  cases rhp hs bs' c with
  |free=>intro e;cases e
  |dead=>intro e;cases e
  |own z0 c0=>intro e;cases e;exact⟨c0,rfl,rfl⟩
 have hblk:∀c z cs B,V c→rhp hs bs' c=.own z cs→ι' c=some B→(w.heap.size≤B.b∧c<10000000)∨∃i,∃hi:i<nms.length,c=10000000+i∧ι nms[i]=some B:=by
  intro c z cs B hc e hB
  rcases hc with⟨h5,hc⟩|⟨h5,hc⟩
  ·exact .inl ⟨hfresh c z cs B h5 e hB,h5⟩
  ·refine .inr ⟨c-10000000,by omega,by omega,?_⟩
   rw[←hbown (c-10000000) (by omega),show 10000000+(c-10000000)=c by omega];exact hB
 refine⟨ι₂,⟨⟨hext.os.trans h.ext.os,hext.tape.trans h.ext.tape,hext.output.trans h.ext.output,Nat.le_trans h.ext.size hext.size,fun b hb hL=>?_⟩,fun b hb=>?_,fun s=>?_,fun s=>?_,⟨fun m=>?_,fun m z cs B e hB=>?_,fun m m' z z' cs cs' B B' e e' hB hB' hbb=>?_,fun m z cs e=>?_⟩,
  fun m z cs e=>?_,fun m hm=>?_,h.gd⟩,?_,?_⟩
 ·rw[hbor b (Nat.lt_of_lt_of_le hb h.ext.size) fun n hn B hB e=>?_]
  ·exact h.ext.block b hb hL
  ·obtain⟨z,cs,eo⟩:=hlive n hn
   rcases h.oldb eo hB with h1|h1
   ·omega
   ·exact hL (e▸h1)
 ·rcases hb with hb|hb
  ·exact Nat.lt_of_lt_of_le (h.rlt b hb) hext.size
  ·exact hrlt b hb
 ·exact(h.env s).mono hRb (fun _ h=>.inl h) _ (h.men s) (fun m hm=>(hkeep m hm).2)
 ·exact(h.men s).mono fun m hm=>(hkeep m hm).1
 ·show OOk _ ι₂ w' (ι₂ m) (hp' m)
  rcases hcase m with⟨c,hc,rfl⟩|hn
  ·rw[(hp1 c hc).1,(hp1 c hc).2]
   exact(hokR c hc).ren fun z cs e=>(hmenV c z cs e).mono fun m hm=>(hp1 m hm).2
  ·rw[(hp2 m hn).1,(hp2 m hn).2]
   exact(h.hp.ok m).mono hRb (fun B hB z cs e=>hsame m hn z cs B e hB) (fun _ h=>.inl h) (fun z cs e=>(h.hp.men m z cs e).mono fun m hm=>(hkeep m hm).2)
 ·replace e:hp' m=.own z cs:=e
  rcases hcase m with⟨c,hc,rfl⟩|hn
  ·obtain⟨c0,e0,_⟩:=hownE e hc
   rw[(hp1 c hc).2]at hB
   exact hnR c z c0 B e0 hB
  ·rw[(hp2 m hn).1]at e
   rw[(hp2 m hn).2]at hB
   rintro(hR|hR)
   ·exact h.hp.nR m z cs B e hB hR
   ·rcases hrnew _ hR with h1|h1
    ·have:=h.block_lt e hB;omega
    ·exact h.hp.nR m z cs B e hB h1
 ·replace e:hp' m=.own z cs:=e
  replace e':hp' m'=.own z' cs':=e'
  rcases hcase m with⟨c,hc,rfl⟩|hn<;>rcases hcase m' with⟨c',hc',rfl⟩|hn'
  ·obtain⟨c0,e0,_⟩:=hownE e hc
   obtain⟨c1,e1,_⟩:=hownE e' hc'
   rw[(hp1 c hc).2]at hB
   rw[(hp1 c' hc').2]at hB'
   rw[hinj c c' _ _ _ _ B B' e0 e1 hB hB' hbb]
  ·obtain⟨c0,e0,_⟩:=hownE e hc
   rw[(hp1 c hc).2]at hB
   rw[(hp2 m' hn').1]at e'
   rw[(hp2 m' hn').2]at hB'
   rcases hblk c z c0 B hc e0 hB with⟨h1,_⟩|⟨i,hi,rfl,h1⟩
   ·have:=h.block_lt e' hB';omega
   ·obtain⟨z1,d1,f1⟩:=hlive _ (List.getElem_mem hi)
    rw[hρ2 i hi]
    exact h.hp.inj _ _ _ _ _ _ B B' f1 e' h1 hB' hbb
  ·obtain⟨c1,e1,_⟩:=hownE e' hc'
   rw[(hp1 c' hc').2]at hB'
   rw[(hp2 m hn).1]at e
   rw[(hp2 m hn).2]at hB
   rcases hblk c' z' c1 B' hc' e1 hB' with⟨h1,_⟩|⟨i,hi,rfl,h1⟩
   ·have:=h.block_lt e hB;omega
   ·obtain⟨z1,d1,f1⟩:=hlive _ (List.getElem_mem hi)
    rw[hρ2 i hi]
    exact h.hp.inj _ _ _ _ _ _ B B' e f1 hB h1 hbb
  ·rw[(hp2 m hn).1]at e
   rw[(hp2 m hn).2]at hB
   rw[(hp2 m' hn').1]at e'
   rw[(hp2 m' hn').2]at hB'
   exact h.hp.inj _ _ _ _ _ _ B B' e e' hB hB' hbb
 ·replace e:hp' m=.own z cs:=e
  show AllL (fun m=>hp' m≠ .free) cs
  rcases hcase m with⟨c,hc,rfl⟩|hn
  ·obtain⟨c0,e0,rfl⟩:=hownE e hc
   refine(hmen c z c0 e0).ren fun m hm=>?_
   rw[(hp1 m (hV m hm)).1,hrenF];exact hm
  ·rw[(hp2 m hn).1]at e
   exact(h.hp.men m z cs e).mono fun m hm=>(hkeep m hm).1
 ·replace e:hp' m=.own z cs:=e
  show(zR m=false∧∀B,ι₂ m=some B→_)∨(zR m=true∧L m (ι₂ m))
  rcases hcase m with⟨c,hc,rfl⟩|hn
  ·obtain⟨c0,e0,_⟩:=hownE e hc
   rw[(hp1 c hc).2]
   rcases hc with⟨h5,hc⟩|⟨h5,hc⟩
   ·refine .inl ⟨?_,fun B hB=>Nat.le_trans h.ext.size (hfresh c z c0 B h5 e0 hB)⟩
    rw[hρ1 c h5];exact h.nl (jX hfree c hc)
   ·obtain⟨i,rfl⟩:∃i,c=10000000+i:=⟨c-10000000,by omega⟩
    have hi:i<nms.length:=by omega
    obtain⟨z1,d1,f1⟩:=hlive _ (List.getElem_mem hi)
    rw[hρ2 i hi,hbown i hi]
    exact h.old _ _ _ f1
  ·rw[(hp2 m hn).1]at e
   rw[(hp2 m hn).2]
   exact h.old m z cs e
 ·exact(hkeep m (h.lf m hm)).1
 ·refine Rep.ren ((hrep.mono (fun _ _=>rfl) (fun _ h=>.inr h) (fun _=>True) (AV.all_true (fun _=>trivial) _) (fun _ _=>rfl))) (hall.mono fun m hm=>(hp1 m (hV m hm)).2)
 ·refine hall.ren fun m hm=>?_
  rw[(hp1 m (hV m hm)).1,hrenF];exact hm
end
end Go.Ab
namespace Go.Ab
open Go
def idx:List Nat→Nat→Option Nat
 | [],_=>none
 |n::r,m=>if m=n then some 0 else(idx r m).map (· +1)
def back(nms:List Nat)(m:Nat):Nat:=10000000+(idx nms m).getD 0
def hpx(cl:Bool)(nms:List Nat)(hp:Nat→Ob):Nat→Ob:=fun m=>bif cl then(if(idx nms m).isSome then .dead else hp m)else .dead
def snp(hp:Nat→Ob)(ix:Nat→Option Nat):Nat→AV→AV
 |0,_=>.un
 |k+1,.rf nm o n=>match ix nm with
  |some i=>.rf (10000000+i) o n
  |none=>qx hp (k+1) (.rf nm o n)
 |k+1,.pt nm o=>match ix nm with
  |some i=>.pt (10000000+i) o
  |none=>qx hp (k+1) (.pt nm o)
 |k+1,.ag cs=>.ag (cs.map (snp hp ix k))
 |k+1,.tu cs=>.tu (cs.map (snp hp ix k))
 |k+1,.fn f cs=>.fn f (cs.map (snp hp ix k))
 |k+1,a=>qx hp (k+1) a
def Ob.plain:Ob→Prop
 | .own _ cs=>∀c∈cs,∃x,c=.v x
 |_=>True
def jV(hp:Nat→Ob)(nms:List Nat):Prop:=∀n∈nms,∃z cs,hp n=.own z cs∧AllL (fun m=>(idx nms m).isSome=true) cs
def AV.top:AV→Option Nat
 | .rf nm _ _=>some nm
 | .pt nm _=>some nm
 |_=>none
def j4(P:Program)(f:FuncId)(aa0:List AV)(hp:Nat→Ob)(nm0:Nat)(K:AV→(Nat→Ob)→Prop):Prop:=
 ∃cl nms post,Con P f cl (aa0.map (snp (hpx cl nms hp) (idx nms) 6)) (nms.map fun n=>(hp n).ren (back nms)) post∧nms.Nodup∧jV hp nms∧(∀n∈nms,∃a∈aa0,a.top=some n)∧
  ∀r hs bs',post r hs bs'→hs.length≤10000000∧qs hp nm0 hs∧(cl=true→nms=[]∨∀ob∈bs',ob.plain)∧
   K (r.ren (rho nm0 nms)) (jM (QF (rho nm0 nms) hp nm0 hs) nms (bs'.map (Ob.ren (rho nm0 nms))))
theorem zA:∀{nms:List Nat} {m j:Nat},idx nms m=some j→∃h:j<nms.length,nms[j]=m
 | [],m,j,h=>by simp[idx]at h
 |n::r,m,j,h=>by
  simp only[idx]at h
  split at h
  ·rename_i e;cases h;exact⟨by simp,e.symm⟩
  ·cases e:idx r m with
   |none=>rw[e]at h;simp at h
   |some i=>
    rw[e]at h;simp at h;subst h
    obtain⟨h1,h2⟩:=zA e
    exact⟨by simpa using h1,by simpa using h2⟩
section
variable {P:Program}{L:Nat→Option Blk→Prop}{w0 w:World}{R:Nat→Prop}{ι:Nat→Option Blk}{tm:Array Value}{σ:St}{K:AV→(Nat→Ob)→Prop}
theorem Ya{R':Nat→Prop}{hp:Nat→Ob}{ix:Nat→Option Nat}{ι':Nat→Option Blk}(h:HpOk R ι w hp)(hR:∀b,R b→R' b)(hO:∀b,XG hp ι b→R' b)
  (hι:∀m i,ix m=some i→ι' (10000000+i)=ι m):∀(k:Nat) {x:Value} {a:AV},Rep R ι w x a→Rep R' ι' w x (snp hp ix k a)
 |0,x,a,_=>.fr _ _ (.un _)
 |k+1,x,a,hx=>by
  have list:∀{vs:Array Value} {cs:List AV},(∀i (h:i<cs.length),Rep R ι w (vs.getD i undef) cs[i])→∀i (h:i<(cs.map (snp hp ix k)).length),Rep R' ι' w (vs.getD i undef) (cs.map (snp hp ix k))[i]:=by
   intro vs cs hr i hi
   simp only[List.getElem_map]
   exact Ya h hR hO hι k (hr i (by simpa using hi))
  cases a with
  |un=>exact .fr _ _ (.un _)
  |v y=>exact .fr _ _ (za h hR hO (k+1) hx)
  |sl n cs=>exact .fr _ _ (za h hR hO (k+1) hx)
  |fp cs o=>exact .fr _ _ (za h hR hO (k+1) hx)
  |rf nm o n=>
   simp only[snp]
   cases e:ix nm with
   |none=>exact .fr _ _ (za h hR hO (k+1) hx)
   |some i=>
    obtain⟨ad,cap,rfl,hs⟩:=hx.rf_inv
    exact .rf _ o n cap ad (by rw[hι nm i e];exact hs)
  |pt nm o=>
   simp only[snp]
   cases e:ix nm with
   |none=>exact .fr _ _ (za h hR hO (k+1) hx)
   |some i=>
    obtain⟨B,hB,rfl⟩:=hx.pt_inv
    exact .pt _ o B (by rw[hι nm i e];exact hB)
  |ag cs=>
   obtain⟨vs,rfl,h1,h2⟩:=hx.ag_inv
   exact .ag vs _ (by simpa using h1) (list h2)
  |tu cs=>
   obtain⟨vs,rfl,h1,h2⟩:=hx.tu_inv
   exact .tu vs _ (by simpa using h1) (list h2)
  |fn f cs=>
   obtain⟨vs,rfl,h1,h2⟩:=hx.fn_inv
   exact .fn f vs _ (by simpa using h1) (list h2)
theorem zy{p:Nat→Prop}{hp:Nat→Ob}:∀(k:Nat) (a:AV),(qx hp k a).All p
 |0,_=>by simp[qx,AV.All]
 |k+1,a=>by
  have list:∀cs:List AV,AllL p (cs.map (qx hp k)):=fun cs=>AllL.of_mem fun a ha=>by
   obtain⟨b,_,rfl⟩:=List.mem_map.1 ha;exact zy k b
  cases a with
  |un=>simp[qx,AV.All]
  |v x=>unfold qx;split<;>first|(simp[AV.All];done)|simp_all
  |sl n cs=>simp[qx,AV.All]
  |fp cs o=>simp[qx,AV.All]
  |rf nm o n=>simp only[qx];split<;>simp[AV.All]
  |pt nm o=>simp only[qx];split<;>simp[AV.All]
  |ag cs=>exact list cs
  |tu cs=>exact list cs
  |fn f cs=>exact list cs
theorem Yb{p:Nat→Prop}{hp:Nat→Ob}{ix:Nat→Option Nat}(hi:∀m i,ix m=some i→p (10000000+i)):∀(k:Nat) (a:AV),(snp hp ix k a).All p
 |0,_=>by simp[snp,AV.All]
 |k+1,a=>by
  have list:∀cs:List AV,AllL p (cs.map (snp hp ix k)):=fun cs=>AllL.of_mem fun a ha=>by
   obtain⟨b,_,rfl⟩:=List.mem_map.1 ha;exact Yb hi k b
  cases a with
  |un=>exact zy _ _
  |v y=>exact zy _ _
  |sl n cs=>exact zy _ _
  |fp cs o=>exact zy _ _
  |rf nm o n=>
   simp only[snp]
   cases e:ix nm with
   |none=>exact zy _ _
   |some i=>exact hi _ _ e
  |pt nm o=>
   simp only[snp]
   cases e:ix nm with
   |none=>exact zy _ _
   |some i=>exact hi _ _ e
  |ag cs=>exact list cs
  |tu cs=>exact list cs
  |fn f cs=>exact list cs
end
end Go.Ab
namespace Go.Ab
open Go
section
variable {P:Program}{L:Nat→Option Blk→Prop}{w0 w:World}{R:Nat→Prop}{ι:Nat→Option Blk}{tm:Array Value}{σ:St}{K:AV→(Nat→Ob)→Prop}
theorem zK:∀{nms:List Nat},nms.Nodup→∀i (h:i<nms.length),idx nms nms[i]=some i
 | [],_,i,h=>by simp at h
 |n::r,hn,0,_=>by simp[idx]
 |n::r,hn,i+1,h=>by
  have h1:=List.nodup_cons.1 hn
  have h2:i<r.length:=by simpa using h
  have hne:r[i]≠n:=fun e=>h1.1 (e▸List.getElem_mem h2)
  simp only[List.getElem_cons_succ,idx,if_neg hne]
  rw[zK h1.2 i h2];rfl
theorem HpOk.hpx(h:HpOk R ι w σ.hp)(cl:Bool)(nms:List Nat):HpOk R ι w (hpx cl nms σ.hp):=by
 have e:∀{m z cs},Ab.hpx cl nms σ.hp m=.own z cs→σ.hp m=.own z cs∧cl=true∧idx nms m=none:=by
  intro m z cs e
  unfold Ab.hpx at e
  cases cl with
  |false=>cases e
  |true=>
   simp only[cond_true]at e
   split at e
   ·cases e
   ·rename_i hi;exact⟨e,rfl,by simpa using hi⟩
 refine⟨fun m=>?_,fun m z cs B e1=>h.nR m z cs B (e e1).1,fun m m' z z' cs cs' B B' e1 e2=>h.inj m m' z z' cs cs' B B' (e e1).1 (e e2).1,fun m z cs e1=>?_⟩
 ·cases eo:Ab.hpx cl nms σ.hp m with
  |free=>trivial
  |dead=>trivial
  |own z cs=>have:=h.ok m;rw[(e eo).1]at this;exact this
 ·refine(h.men m z cs (e e1).1).mono fun m' hm'=>?_
  unfold Ab.hpx
  have:=(e e1).2.1;subst this
  simp only[cond_true]
  split
  ·simp
  ·exact hm'
theorem RepA.all{vs:Array Value}{aa0:List AV}{f:AV→AV}{R':Nat→Prop}{ι':Nat→Option Blk}(h:RepA R ι w vs aa0)(hf:∀{x a},Rep R ι w x a→Rep R' ι' w x (f a)):RepA R' ι' w vs (aa0.map f):=by
 refine⟨by simpa using h.1,fun i hi=>?_⟩
 simp only[List.getElem_map]
 exact hf (h.2 i (by simpa using hi))
theorem OOk.plain{R₁ R₂:Nat→Prop}{ι':Nat→Option Blk}{B:Option Blk}{ob:Ob}(h:OOk R₁ ι' w B ob)(hp:ob.plain):OOk R₂ ι' w B ob:=by
 cases ob with
 |free=>trivial
 |dead=>trivial
 |own z cs=>
  cases B with
  |none=>exact h
  |some B=>
   obtain⟨c,T,lo,hi,g1,g2,g3,g4,g5,g6⟩:=h
   refine⟨c,T,lo,hi,g1,g2,g3,g4,g5,fun i hi=>?_⟩
   obtain⟨x,hx⟩:=hp _ (List.getElem_mem hi)
   have:=g6 i hi
   rw[hx]at this ⊢
   rw[this.v_inv]
   exact .fr _ _ (.v _)
theorem aff{f:FuncId}{aa0:List AV}{nm0:Nat}{vs:Array Value}(h:Inv L w0 R ι w tm σ)(hv:RepA R ι w vs aa0)(hs:j4 P f aa0 σ.hp nm0 K):
  Calls P f vs w fun e w'=>∃x R' ι' av hp',e=.returned x∧(∀b,R' b→R b∨w.heap.size≤b)∧K av hp'∧Rep R' ι' w' x av∧av.All (fun m=>hp' m≠ .free)∧Inv L w0 R' ι' w' tm ⟨σ.env,hp'⟩:=by
 obtain⟨cl,nms,post,hc,hnd,hl,_,hpost⟩:=hs
 let R₁:Nat→Prop:=fun b=>R b∨XG (hpx cl nms σ.hp) ι b
 let ι₁:Nat→Option Blk:=fun m=>if 10000000≤m then(nms[m-10000000]?).bind ι else none
 have hHx:=h.hp.hpx cl nms
 have hι₁:∀i (hi:i<nms.length),ι₁ (10000000+i)=ι nms[i]:=fun i hi=>by
  show(if 10000000≤10000000+i then _ else _)=_
  rw[if_pos (by omega),show 10000000+i-10000000=i by omega,List.getElem?_eq_getElem hi];rfl
 have hbk:∀m,(idx nms m).isSome=true→∃i,∃hi:i<nms.length,nms[i]=m∧back nms m=10000000+i:=by
  intro m hm
  obtain⟨i,e⟩:=Option.isSome_iff_exists.1 hm
  obtain⟨hi,e2⟩:=zA e
  exact⟨i,hi,e2,by simp[back,e]⟩
 have hxe:∀{m z cs},hpx cl nms σ.hp m=.own z cs→σ.hp m=.own z cs∧cl=true∧idx nms m=none:=by
  intro m z cs e
  unfold hpx at e
  cases cl with
  |false=>cases e
  |true=>
   simp only[cond_true]at e
   split at e
   ·cases e
   ·rename_i hi;exact⟨e,rfl,by simpa using hi⟩
 generalize hbs:nms.map (fun n=>(σ.hp n).ren (back nms))=bs at hc
 have hblen:bs.length=nms.length:=by rw[←hbs];simp
 have hbget:∀i (hi:i<nms.length),bhp bs (10000000+i)=(σ.hp nms[i]).ren (back nms):=fun i hi=>by
  simp only[bhp]
  rw[if_pos (by omega),show 10000000+i-10000000=i by omega,←hbs,List.getD_eq_getElem?_getD,List.getElem?_map,List.getElem?_eq_getElem hi];rfl
 have hbown:∀{m z cs},bhp bs m=.own z cs→∃i,∃hi:i<nms.length,m=10000000+i∧∃cs0,σ.hp nms[i]=.own z cs0∧cs=zb (back nms) cs0∧AllL (fun m=>(idx nms m).isSome=true) cs0:=by
  intro m z cs e
  have h5:10000000≤m:=by
   rcases Nat.lt_or_ge m 10000000 with h|h
   ·simp[bhp,show ¬10000000≤m by omega]at e
   ·exact h
  obtain⟨i,rfl⟩:∃i,m=10000000+i:=⟨m-10000000,by omega⟩
  have hi:i<nms.length:=by
   rcases Nat.lt_or_ge i nms.length with h|h
   ·exact h
   ·simp only[bhp]at e
    rw[if_pos h5,show 10000000+i-10000000=i by omega,List.getD_eq_getElem?_getD,List.getElem?_eq_none (by omega)]at e
    cases e
  rw[hbget i hi]at e
  obtain⟨z',cs0,eo,ha⟩:=hl _ (List.getElem_mem hi)
  rw[eo]at e
  simp only[Ob.ren]at e
  injection e with e1 e2
  subst e1
  exact⟨i,hi,rfl,cs0,eo,e2.symm,ha⟩
 have hbne:∀i,i<nms.length→bhp bs (10000000+i)≠ .free:=fun i hi=>by
  rw[hbget i hi]
  obtain⟨z',cs0,eo,ha⟩:=hl _ (List.getElem_mem hi)
  rw[eo];simp[Ob.ren]
 have hR₁lt:∀b,R₁ b→b<w.heap.size:=fun b hb=>by
  rcases hb with hb|⟨m,z,cs,B,e,hB,rfl⟩
  ·exact h.rlt b hb
  ·exact h.block_lt (hxe e).1 hB
 have hnR₁:∀i (hi:i<nms.length) B,ι nms[i]=some B→¬R₁ B.b:=fun i hi B hB hr=>by
  obtain⟨z',cs0,eo,ha⟩:=hl _ (List.getElem_mem hi)
  rcases hr with hr|⟨m,z,cs,B',e,hB',eb⟩
  ·exact h.hp.nR _ _ _ _ eo hB hr
  ·have:=h.hp.inj _ _ _ _ _ _ _ _ (hxe e).1 eo hB' hB eb
   subst this
   have:=(hxe e).2.2
   rw[zK hnd i hi]at this;cases this
 have hHp:HpOk R₁ ι₁ w (bhp bs):=by
  refine⟨fun m=>?_,fun m z cs B e hB=>?_,fun m m' z z' cs cs' B B' e e' hB hB' hbb=>?_,fun m z cs e=>?_⟩
  ·cases e:bhp bs m with
   |free=>trivial
   |dead=>trivial
   |own z cs=>
    obtain⟨i,hi,rfl,cs0,eo,rfl,ha⟩:=hbown e
    rw[hι₁ i hi]
    have hok:=h.hp.ok nms[i]
    rw[eo]at hok
    have h1:OOk R₁ ι w (ι nms[i]) (.own z cs0):=hok.mono (fun _ _=>rfl) (fun _ _ _ _ _=>rfl) (fun _ h=>.inl h) (fun _ _ _=>AllL.of_mem fun a _=>AV.all_true (fun _=>rfl) a)
    refine h1.ren (ρ:=back nms) fun z' cs' e'=>?_
    cases e'
    refine ha.mono fun m hm=>?_
    obtain⟨j,hj,e1,e2⟩:=hbk m hm
    rw[e2,hι₁ j hj,e1]
  ·obtain⟨i,hi,rfl,cs0,eo,rfl,ha⟩:=hbown e
   rw[hι₁ i hi]at hB
   exact hnR₁ i hi B hB
  ·obtain⟨i,hi,rfl,cs0,eo,rfl,ha⟩:=hbown e
   obtain⟨j,hj,rfl,cs0',eo',rfl,ha'⟩:=hbown e'
   rw[hι₁ i hi]at hB
   rw[hι₁ j hj]at hB'
   have:=h.hp.inj _ _ _ _ _ _ _ _ eo eo' hB hB' hbb
   have h1:=zK hnd i hi
   rw[this,zK hnd j hj]at h1
   cases h1;rfl
  ·obtain⟨i,hi,rfl,cs0,eo,rfl,ha⟩:=hbown e
   refine ha.ren fun m hm=>?_
   obtain⟨j,hj,e1,e2⟩:=hbk m hm
   rw[e2];exact hbne j hj
 have hrho:∀m i,idx nms m=some i→ι₁ (10000000+i)=ι m:=fun m i e=>by
  obtain⟨hi,e2⟩:=zA e
  rw[hι₁ i hi,e2]
 have hargs:RepA R₁ ι₁ w vs (aa0.map (snp (hpx cl nms σ.hp) (idx nms) 6)):=
  hv.all fun hx=>Ya hHx (fun _ h=>.inl h) (fun _ h=>.inr h) hrho 6 hx
 have hall:AllL (fun m=>bhp bs m≠ .free) (aa0.map (snp (hpx cl nms σ.hp) (idx nms) 6)):=AllL.of_mem fun a ha=>by
  obtain⟨b,_,rfl⟩:=List.mem_map.1 ha
  refine Yb (fun m i e=>?_) 6 b
  obtain⟨hi,e2⟩:=zA e
  exact hbne i hi
 have hGd:GdL (XG (bhp bs) ι₁) w:=by
  refine⟨h.gdw,fun g l hg ho=>?_⟩
  obtain⟨m,z,cs,B,e,hB,eb⟩:=ho
  obtain⟨i,hi,rfl,cs0,eo,rfl,ha⟩:=hbown e
  rw[hι₁ i hi]at hB
  exact h.gno eo hB g l hg eb
 refine(hc R₁ ι₁ w vs hR₁lt hargs hall hHp hGd).mono ?_
 rintro e w' ⟨x,r,hs,bs',R',ι',rfl,hp,hF⟩
 obtain⟨hN16,hfree,hpl,hK⟩:=hpost r hs bs' hp
 have hN:hs.length≤10000000:=by omega
 have hlen:bs'.length=nms.length:=hF.len.trans hblen
 have hnew:∀b,R' b→w.heap.size≤b∨R b:=fun b hb=>by
  rcases hF.rnew b hb with h1|⟨hcl,h1|⟨m,z,cs,B,e,_⟩⟩
  ·exact .inl h1
  ·exact .inr h1
  ·have:=(hxe e).2.1;rw[hcl]at this;cases this
 have hext:Ext (fun b=>∃n∈nms,∃B,ι n=some B∧B.b=b) w w':=⟨hF.ext.os,hF.ext.tape,hF.ext.output,hF.ext.size,fun b hb hn=>hF.ext.block b hb fun⟨m,z,cs,B,e,hB,eb⟩=>by
  obtain⟨i,hi,rfl,cs0,eo,rfl,ha⟩:=hbown e
  rw[hι₁ i hi]at hB
  exact hn ⟨_,List.getElem_mem hi,B,hB,eb⟩⟩
 have hok:∀m,10000000≤m→OOk (fun b=>R b∨R' b) ι' w' (ι' m) (rhp hs bs' m):=by
  intro m h5
  have h1:=hF.okB m h5
  cases cl with
  |false=>
   refine OOk.mono h1 (fun _ _=>rfl) (fun _ _ _ _ _=>rfl) (fun b hb=>?_) (fun _ _ _=>AllL.of_mem fun a _=>AV.all_true (fun _=>rfl) a)
   rcases hb with(hb|⟨m,z,cs,B,e,_⟩)|hb
   ·exact .inl hb
   ·have:=(hxe e).2.1;cases this
   ·exact .inr hb
  |true=>
   refine h1.plain ?_
   rcases hpl rfl with h2|h2
   ·subst h2
    have:bs'=[]:=List.length_eq_zero_iff.1 (by simpa using hlen)
    subst this
    simp[rhp,h5,Ob.plain]
   ·simp only[rhp,if_pos h5,List.getD_eq_getElem?_getD]
    cases e:bs'[m-10000000]? with
    |none=>simp[Ob.plain]
    |some ob=>simpa using h2 ob (List.mem_of_getElem? e)
 have hnR:∀m z cs B,rhp hs bs' m=.own z cs→ι' m=some B→¬(R B.b∨R' B.b):=fun m z cs B e hB hr=>hF.nR m z cs B e hB (hr.imp .inl id)
 have hlive:∀n∈nms,∃z cs,σ.hp n=.own z cs:=fun n hn=>let ⟨z,cs,e,_⟩:=hl n hn;⟨z,cs,e⟩
 obtain⟨ι₂,hi,hr,ha⟩:=ym (nm0:=nm0) h hnd hlive hext hF.rlt hnew hF.rep hF.all hF.okF hok hnR hF.inj hF.men hF.fresh hlen hN
  (fun i hi=>by rw[hF.bown _ (by omega),hι₁ i hi]) hF.bnf hfree
 exact⟨x,fun b=>R b∨R' b,ι₂,_,_,rfl,fun b hb=>hb.elim .inl fun hb=>(hnew b hb).elim .inr .inl,hK,hr,ha,hi⟩
end
end Go.Ab
namespace Go.Ab
open Go
def jB(env:Nat→AV)(d:Option Nat)(v:AV):Nat→AV:=match d with
 |some d=>upd env d v
 |none=>env
def opA(P:Program)(o:Oper)(σ:St)(K:AV→(Nat→Ob)→Prop):Prop:=
 match o.op with
 | .convert s d x=>anv P s d (σ.ev x) σ.hp (crn o) K
 | .call c=>match c.callee with
  | .builtin b=>aqs P b c.argTypes (c.args.toList.map σ.ev) σ.hp (crn o) K
  | .value x=>match σ.ev x with
   | .fn f caps=>(∃fn,P.funcs[f]? =some fn∧fn.name≠ "runtime.NumGoroutine" ∧fn.body.isSome=true)∧j4 P f (c.args.toList.map σ.ev++caps) σ.hp (crn o) K
   |_=>False
  |_=>False
 |_=>z5 P o σ K
section
variable {P:Program}{L:Nat→Option Blk→Prop}{w0 w:World}{R:Nat→Prop}{ι:Nat→Option Blk}{tm:Array Value}{a:Act}{σ:St}{K:AV→(Nat→Ob)→Prop}
 {next:Act→World→Prop} {Q:Exit→Act→World→Prop}
theorem jo{o:Oper}{r:Result Next}(hs:Snd K R L w0 a.tmps σ.env r)
  (hnext:∀x w' R' ι' av hp',(∀b,R' b→R b∨w.heap.size≤b)→K av hp'→Rep R' ι' w' x av→av.All (fun m=>hp' m≠ .free)→Inv L w0 R' ι' w' a.tmps ⟨σ.env,hp'⟩→next (a.put o.dst x) w'):
  o.upon P a next Q r:=by
 obtain⟨x,w',ι',av,hp',hr,hK,hx,ha,hi⟩:=hs
 have:=hnext x w' R ι' av hp' (fun _ h=>.inl h) hK hx ha hi
 rcases hr with rfl|⟨rfl,rfl⟩
 ·exact this
 ·exact this
theorem jl{f:FuncId}{fn:Func}(hf:P.funcs[f]? =some fn)(hnn:(fn.name== "runtime.NumGoroutine")=false)(hbn:fn.body.isNone=false)(args:Array Value):
  (callFunc f args).run P w=.ok (.enter f args) w:=by
 have h1:fn.name≠ "runtime.NumGoroutine" :=by simpa using hnn
 have h2:fn.body≠none:=by cases hb:fn.body<;>simp_all
 simp[callFunc,hf,h1,h2]
theorem yD(h:Inv L w0 R ι w a.tmps σ)(args:Array Operand):RepA R ι w (args.map a.eval) (args.toList.map σ.ev):=by
 refine⟨by simp,fun i hi=>?_⟩
 have hi':i<args.size:=by simpa using hi
 simp only[List.getElem_map,Array.getElem_toList]
 rw[Array.getD_eq_getD_getElem?,Array.getElem?_map,Array.getElem?_eq_getElem hi']
 exact h.ev _
theorem Xh{o:Oper}(h:Inv L w0 R ι w a.tmps σ)(hs:opA P o σ K)
  (hnext:∀x w' R' ι' av hp',(∀b,R' b→R b∨w.heap.size≤b)→K av hp'→Rep R' ι' w' x av→av.All (fun m=>hp' m≠ .free)→Inv L w0 R' ι' w' a.tmps ⟨σ.env,hp'⟩→next (a.put o.dst x) w'):
  o.wp P a w next Q:=by
 unfold Oper.wp
 unfold opA at hs
 cases ho:o.op
 case convert s d x=>
  rw[ho]at hs
  have:=aeX (nm:=crn o) h (h.ev x) (h.ev_all x) hs
  refine jo ?_ hnext
  simp only[execOp,ho]
  exact this
 case call c=>
  rw[ho]at hs
  dsimp only at hs
  have hv:=yD h c.args
  cases hc:c.callee with
  |builtin b=>
   rw[hc]at hs
   refine jo ?_ hnext
   simp only[execOp,ho,resolve,hc,invoke,Sem.run_bind,Sem.run_pure,Result.andThen]
   exact ajQ h hv (AllL.of_mem fun x hx=>by obtain⟨y,_,rfl⟩:=List.mem_map.1 hx;exact h.ev_all y) hs
  |invoke r n=>rw[hc]at hs;exact hs.elim
  |value x=>
   rw[hc]at hs
   dsimp only at hs
   split at hs
   ·rename_i f caps e
    obtain⟨⟨fn,hf,hn,hb⟩,hs⟩:=hs
    have hx:=h.ev x
    rw[e]at hx
    obtain⟨vs,hx,h1,h2⟩:=hx.fn_inv
    have hvs:RepA R ι w vs caps:=⟨h1,h2⟩
    have hcl:=aff (nm0:=crn o) h (hv.append hvs) hs
    have hbn:fn.body.isNone=false:=by cases hq:fn.body<;>simp_all
    have hnn:(fn.name== "runtime.NumGoroutine")=false:=by simpa using hn
    have hrun:(execOp a.eval o).run P w=.ok (.enter f (c.args.map a.eval++vs)) w:=by
     simp only[execOp,ho,resolve,hc,hx,Deferred.ofValue,Sem.run_bind,Sem.run_pure,Result.andThen,invoke,Array.empty_append]
     exact jl hf hnn hbn _
    rw[hrun,Oper.upon_enter]
    refine hcl.mono ?_
    rintro e w' ⟨x,R',ι',av,hp',rfl,h3,h4,h5,h6,h7⟩
    exact hnext x w' R' ι' av hp' h3 h4 h5 h6 h7
   ·exact hs.elim
 all_goals
  rw[ho]at hs
  exact jo (ac6 h hs) hnext
theorem Inv.put{d:Nat}{x:Value}{av:AV}(h:Inv L w0 R ι w tm σ)(hx:Rep R ι w x av)(hm:av.All (fun m=>σ.hp m≠ .free))(hd:d<tm.size):
  Inv L w0 R ι w (tm.setIfInBounds d x) ⟨upd σ.env d av,σ.hp⟩:=by
 refine⟨h.ext,h.rlt,fun s=>?_,fun s=>?_,h.hp,h.old,h.lf,h.gd⟩
 ·show Rep R ι w _ (upd σ.env d av s)
  by_cases hs:s=d
  ·subst hs;rw[qj,Array.getD_eq_getD_getElem?,Array.getElem?_setIfInBounds_self_of_lt hd];exact hx
  ·rw[qm hs,Array.getD_eq_getD_getElem?,Array.getElem?_setIfInBounds_ne (fun e=>hs e.symm),←Array.getD_eq_getD_getElem?];exact h.env s
 ·show(upd σ.env d av s).All _
  by_cases hs:s=d
  ·subst hs;rw[qj];exact hm
  ·rw[qm hs];exact h.men s
end
end Go.Ab
namespace Go.Ab
open Go
theorem Xj{a b:Nat}(e:a≠b):Nat.beq a b=false:=by
 cases hb:Nat.beq a b with
 |false=>rfl
 |true=>exact absurd (Nat.eq_of_beq_eq_true hb) e
structure In(L:Nat→Option Blk→Prop)(w0:World)(R0:Nat→Prop)(N:Nat)(σ:St)(a:Act)(w:World):Prop where
 df:a.defers=[]
 sz:a.tmps.size=N
 inv:∃R ι,(∀b,R b→R0 b∨w0.heap.size≤b)∧Inv L w0 R ι w a.tmps σ
def AW(P:Program)(N:Nat)(c:Code)(Q:Exit→St→Prop)(σ:St):Prop:=
 ∀L w0 R0 a w,In L w0 R0 N σ a w→c.wp P (fun e a' w'=>∃σ',In L w0 R0 N σ' a' w'∧Q e σ') a w
def dOk(N:Nat):Option Nat→Prop
 |some d=>d<N
 |none=>True
def aq0(ops:Array Oper)(σ:St)(j:Nat)(K:Bool→Prop):Prop:=
 match (ops[j]?).bind (·.dst)with
 |some d=>match σ.env d with
  | .v (.bool b)=>K b
  |_=>False
 |none=>False
def ifA(c:Bool)(p q:Prop):Prop:=(c=true→p)∧(c=false→q)
def chA(P:Program)(N:Nat)(ops:Array Oper):List Oper→(St→Prop)→St→Prop
 | [],Q,σ=>Q σ
 |o::r,Q,σ=>dOk N o.dst∧match o.guard with
  |none=>opA P o σ fun v hp=>chA P N ops r Q ⟨jB σ.env o.dst v,hp⟩
  |some (j,want)=>aq0 ops σ j fun b=>ifA (b==want) (opA P o σ fun v hp=>chA P N ops r Q ⟨jB σ.env o.dst v,hp⟩) (chA P N ops r Q ⟨jB σ.env o.dst .un,σ.hp⟩)
def anx(c:AV)(p q:Prop):Prop:=
 match c with
 | .v (.bool b)=>ifA b p q
 |_=>False
def Zf(K:St→Prop)(Q:Exit→St→Prop):Exit→St→Prop
 | .normal,σ=>K σ
 |e,σ=>Q e σ
def Yu(id:Nat)(Q:Exit→St→Prop):Exit→St→Prop
 | .exit id',σ=>bif Nat.beq id' id then Q .normal σ else Q (.exit id') σ
 |e,σ=>Q e σ
def arz(P:Program)(N:Nat)(id:Nat)(ops:Array Oper)(draw:Bool)(Q:Exit→St→Prop)(σ:St):Prop:=
 bif draw then AW P N (.region id ops true) Q σ else chA P N ops ops.toList (Q .normal) σ
def awp(P:Program)(N:Nat):Code→(Exit→St→Prop)→St→Prop
 | .skip,Q,σ=>Q .normal σ
 | .region id ops draw,Q,σ=>arz P N id ops draw Q σ
 | .seq x y,Q,σ=>awp P N x (Zf (awp P N y Q) Q) σ
 | .cond c x y,Q,σ=>anx (σ.ev c) (awp P N x Q σ) (awp P N y Q σ)
 | .block id c,Q,σ=>awp P N c (Yu id Q) σ
 | .loop c,Q,σ=>AW P N (.loop c) Q σ
 | .exit id,Q,σ=>Q (.exit id) σ
 | .ret,Q,σ=>Q .ret σ
 |_,_,_=>False
section
variable {P:Program}{N:Nat}{L:Nat→Option Blk→Prop}{w0 w:World}{R0:Nat→Prop}{a:Act}{σ:St}{Q:Exit→St→Prop}
theorem acj{c:Code}{Q:Exit→Act→World→Prop}(I:Nat→Act→World→Prop)(n:Nat)(h₀:I n a w)
  (round:∀n a w,I n a w→c.wp P (Exit.then (fun a' w'=>∃m,m<n∧I m a' w') Q) a w):(Code.loop c).wp P Q a w:=by
 intro b k cs
 have key:∀n a w,I n a w→∃e a' w',Q e a' w'∧Arrives P (lone (b.at a (.code c:: .inLoop c::k)) cs w) b k cs e a' w':=by
  intro n
  induction n using Nat.strongRecOn with
  |_ n ih=>
   intro a w hI
   obtain⟨e,a₁,w₁,hq,harr⟩:=round n a w hI b (.inLoop c::k) cs
   cases e with
   |normal=>
    obtain⟨m,hlt,hI₁⟩:=hq
    obtain⟨e₂,a₂,w₂,hq₂,harr₂⟩:=ih m hlt a₁ w₁ hI₁
    exact⟨e₂,a₂,w₂,hq₂,.of_steps (Steps.trans harr (.one step_inLoop)) harr₂⟩
   |exit id=>exact⟨_,a₁,w₁,hq,.pass (x:=.inLoop c) rfl (fun _ _=>.inl (by simp)) harr⟩
   |goto l=>exact⟨_,a₁,w₁,hq,.pass (x:=.inLoop c) rfl (fun _ _=>.inl (by simp)) harr⟩
   |ret=>exact⟨_,a₁,w₁,hq,.pass (x:=.inLoop c) rfl (fun _ _=>.inl (by simp)) harr⟩
   |panic ch=>exact⟨_,a₁,w₁,hq,.pass (x:=.inLoop c) rfl (fun _ _=>.inl (by simp)) harr⟩
   |outgrown=>exact⟨_,a₁,w₁,hq,.pass (x:=.inLoop c) rfl (fun _ _=>.inl (by simp)) harr⟩
 obtain⟨e,a',w',hq,harr⟩:=key n a w h₀
 exact⟨e,a',w',hq,.of_steps (.one step_loop) harr⟩
theorem AW.mono{c:Code}{Q':Exit→St→Prop}(h:AW P N c Q σ)(hq:∀e σ,Q e σ→Q' e σ):AW P N c Q' σ:=
 fun L w0 R0 a w hi=>wp_mono (h L w0 R0 a w hi) fun e a w ⟨σ',h1,h2⟩=>⟨σ',h1,hq _ _ h2⟩
theorem In.ext(h:In L w0 R0 N σ a w):Ext (lb L) w0 w:=let ⟨_,_,_,hi⟩:=h.inv;hi.ext
theorem In.put{o:Oper}{x:Value}{R R':Nat→Prop}{ι':Nat→Option Blk}{w':World}{av:AV}{hp':Nat→Ob}(h:In L w0 R0 N σ a w)(hd:dOk N o.dst)(hR:∀b,R b→R0 b∨w0.heap.size≤b)
  (hR':∀b,R' b→R b∨w.heap.size≤b) (hx:Rep R' ι' w' x av) (hm:av.All (fun m=>hp' m≠ .free)) (hi:Inv L w0 R' ι' w' a.tmps ⟨σ.env,hp'⟩):
  In L w0 R0 N ⟨jB σ.env o.dst av,hp'⟩ (a.put o.dst x) w':=by
 have hR2:∀b,R' b→R0 b∨w0.heap.size≤b:=fun b hb=>(hR' b hb).elim (hR b) fun h1=>.inr (Nat.le_trans h.ext.size h1)
 cases hds:o.dst with
 |none=>exact⟨h.df,h.sz,R',ι',hR2,hi⟩
 |some d=>
  rw[hds]at hd
  refine⟨h.df,?_,R',ι',hR2,?_⟩
  ·simp only[Act.put,Array.size_setIfInBounds];exact h.sz
  ·exact hi.put hx hm (by rw[h.sz];exact hd)
theorem abG{ops:Array Oper}{K:St→Prop}{Q':Exit→Act→World→Prop}(hQ:∀σ a w,In L w0 R0 N σ a w→K σ→Q' .normal a w):
  ∀(r:List Oper) (k:Nat),ops.toList.drop k=r→∀{σ a w},In L w0 R0 N σ a w→chA P N ops r K σ→wpOps P ops Q' (List.range' k r.length) a w
 | [],k,hk,σ,a,w,hi,h=>by
  simp only[List.length_nil,List.range'_zero,wpOps]
  exact hQ _ _ _ hi h
 |o::r,k,hk,σ,a,w,hi,h=>by
  have ho:ops[k]? =some o:=by
   have:=congrArg List.head? hk
   simpa [List.head?_drop]using this
  have hr:ops.toList.drop (k+1)=r:=by
   have:=congrArg List.tail hk
   simpa [List.tail_drop]using this
  obtain⟨hd,h⟩:=h
  simp only[List.length_cons,List.range'_succ,wpOps,ho]
  have run:opA P o σ (fun v hp=>chA P N ops r K ⟨jB σ.env o.dst v,hp⟩)→o.wp P a w (wpOps P ops Q' (List.range' (k+1) r.length)) Q':=fun h=>by
   obtain⟨R,ι,hR,hinv⟩:=hi.inv
   refine Xh hinv h fun x w' R' ι' av hp' hR' hK hx hm hi'=>?_
   exact abG hQ r (k+1) hr (hi.put hd hR hR' hx hm hi') hK
  have skip:chA P N ops r K ⟨jB σ.env o.dst .un,σ.hp⟩→wpOps P ops Q' (List.range' (k+1) r.length) (a.put o.dst undef) w:=fun h=>by
   obtain⟨R,ι,hR,hinv⟩:=hi.inv
   exact abG hQ r (k+1) hr (hi.put hd hR (fun _ h=>.inl h) (.fr _ _ (.un _)) (by simp[AV.All]) hinv) h
  cases hg:o.guard with
  |none=>
   rw[hg]at h
   rw[if_pos (by simp[Region.wanted,hg])]
   exact .inl (run h)
  |some p=>
   obtain⟨j,want⟩:=p
   rw[hg]at h
   simp only[aq0]at h
   split at h
   ·rename_i d hd'
    split at h
    ·rename_i b hb
     have hy:yielded ops a.tmps j=some b:=by
      obtain⟨R,ι,hR,hinv⟩:=hi.inv
      have:=hinv.env d
      rw[hb]at this
      have:=this.v_inv
      unfold yielded
      rw[hd']
      rw[Array.getD_eq_getD_getElem?]at this
      cases e:a.tmps[d]? with
      |none=>rw[e]at this;cases this
      |some y=>rw[e]at this;simp at this;subst this;simp[e]
     have hw:Region.wanted o (yielded ops a.tmps)=(b==want):=by
      simp only[Region.wanted,hg,hy]
      cases b<;>cases want<;>rfl
     rw[hw]
     cases hbw:b==want with
     |true=>rw[if_pos rfl];exact .inl (run (h.1 hbw))
     |false=>rw[if_neg (by simp)];exact skip (h.2 hbw)
    ·exact h.elim
   ·exact h.elim
theorem AW.of_awp:∀{c:Code} {Q:Exit→St→Prop} {σ:St},awp P N c Q σ→AW P N c Q σ
 | .skip,Q,σ,h=>fun L w0 R0 a w hi=>wp_skip ⟨σ,hi,h⟩
 | .region id ops draw,Q,σ,h=>by
  cases draw with
  |true=>exact h
  |false=>
   intro L w0 R0 a w hi
   refine wp_region ?_
   rw[List.range_eq_range']
   exact abG (K:=Q .normal) (fun σ a w hi hq=>⟨σ,hi,hq⟩) ops.toList 0 (by simp) hi h
 | .seq x y,Q,σ,h=>fun L w0 R0 a w hi=>by
  refine wp_seq (wp_mono (AW.of_awp (c:=x) h L w0 R0 a w hi) fun e a w ⟨σ',h1,h2⟩=>?_)
  cases e with
  |normal=>exact AW.of_awp (c:=y) h2 L w0 R0 a w h1
  |_=>exact⟨σ',h1,h2⟩
 | .cond c x y,Q,σ,h=>fun L w0 R0 a w hi=>by
  simp only[awp,anx]at h
  split at h
  ·rename_i b hb
   obtain⟨R,ι,hR,hinv⟩:=hi.inv
   have hc:=hinv.ev c
   rw[hb]at hc
   exact wp_cond_split hc.v_inv (fun ht=>AW.of_awp (h.1 ht) L w0 R0 a w hi) (fun ht=>AW.of_awp (h.2 ht) L w0 R0 a w hi)
  ·exact h.elim
 | .block id c,Q,σ,h=>fun L w0 R0 a w hi=>by
  refine wp_block (wp_mono (AW.of_awp (c:=c) h L w0 R0 a w hi) fun e a w ⟨σ',h1,h2⟩=>?_)
  cases e with
  |exit id'=>
   simp only[Exit.inBlock,Yu]at h2 ⊢
   by_cases e:id'=id
   ·subst e;simp only[if_true];rw[Nat.beq_refl,cond_true]at h2;exact⟨σ',h1,h2⟩
   ·rw[if_neg e];rw[Xj e,cond_false]at h2;exact⟨σ',h1,h2⟩
  |_=>exact⟨σ',h1,h2⟩
 | .loop c,Q,σ,h=>h
 | .exit id,Q,σ,h=>fun L w0 R0 a w hi=>wp_exit ⟨σ,hi,h⟩
 | .ret,Q,σ,h=>fun L w0 R0 a w hi=>wp_ret ⟨σ,hi,h⟩
 | .rangeFunc _ _ _ _,Q,σ,h=>h.elim
 | .scope _,Q,σ,h=>h.elim
 | .label _,Q,σ,h=>h.elim
 | .goto _,Q,σ,h=>h.elim
 | .refuse _,Q,σ,h=>h.elim
def Le(σ σ':St):Prop:=∀L w0 R0 N a w,In L w0 R0 N σ a w→In L w0 R0 N σ' a w
theorem Le.refl(σ:St):Le σ σ:=fun _ _ _ _ _ _ h=>h
theorem Le.trans{σ σ' σ'':St}(h:Le σ σ')(h':Le σ' σ''):Le σ σ'':=fun L w0 R0 N a w hi=>h' L w0 R0 N a w (h L w0 R0 N a w hi)
theorem AW.le{c:Code}{σ':St}(h:Le σ σ')(h':AW P N c Q σ'):AW P N c Q σ:=fun L w0 R0 a w hi=>h' L w0 R0 a w (h L w0 R0 N a w hi)
theorem AW.seq{x y:Code}(h:AW P N x (Zf (AW P N y Q) Q) σ):AW P N (.seq x y) Q σ:=fun L w0 R0 a w hi=>by
 refine wp_seq (wp_mono (h L w0 R0 a w hi) fun e a w ⟨σ',h1,h2⟩=>?_)
 cases e with
 |normal=>exact h2 L w0 R0 a w h1
 |_=>exact⟨σ',h1,h2⟩
theorem AW.block{id:Nat}{c:Code}(h:AW P N c (Yu id Q) σ):AW P N (.block id c) Q σ:=fun L w0 R0 a w hi=>by
 refine wp_block (wp_mono (h L w0 R0 a w hi) fun e a w ⟨σ',h1,h2⟩=>?_)
 cases e with
 |exit id'=>
  simp only[Exit.inBlock,Yu]at h2 ⊢
  by_cases e:id'=id
  ·subst e;simp only[if_true];rw[Nat.beq_refl,cond_true]at h2;exact⟨σ',h1,h2⟩
  ·rw[if_neg e];rw[Xj e,cond_false]at h2;exact⟨σ',h1,h2⟩
 |_=>exact⟨σ',h1,h2⟩
theorem AW.loop{c:Code}{X:Type}(S:X→St)(inv:X→Prop)(μ:X→Nat)(x0:X)(h0:inv x0)(hσ:Le σ (S x0))
  (round:∀x,inv x→AW P N c (Zf (fun σ'=>∃x',inv x'∧μ x'<μ x∧Le σ' (S x')) Q) (S x)):AW P N (.loop c) Q σ:=by
 intro L w0 R0 a w hi
 refine acj (fun n a w=>∃x,inv x∧μ x=n∧In L w0 R0 N (S x) a w) (μ x0) ⟨x0,h0,rfl,hσ L w0 R0 N a w hi⟩ ?_
 rintro n a w ⟨x,hx,rfl,hi⟩
 refine wp_mono (round x hx L w0 R0 a w hi) fun e a w ⟨σ',h1,h2⟩=>?_
 cases e with
 |normal=>
  obtain⟨x',h3,h4,h5⟩:=h2
  exact⟨μ x',h4,x',h3,rfl,h5 L w0 R0 N a w h1⟩
 |_=>exact⟨σ',h1,h2⟩
end
end Go.Ab
namespace Go.Ab
open Go
def akE(P:Program):List ResultVar→St→(List AV→Prop)→Prop
 | [],σ,K=>K []
 | .tmp t::r,σ,K=>akE P r σ fun l=>K (σ.env t::l)
 | .cell a t::r,σ,K=>aea P t σ.hp (σ.env a) fun v=>akE P r σ fun l=>K (v::l)
def qN:List AV→AV
 | [x]=>x
 |l=>.tu l
def AV.pu:AV→Prop
 | .sl _ cs=>cs=[]
 | .fp cs _=>cs=[]
 | .ag cs=>puL cs
 | .tu cs=>puL cs
 | .fn _ cs=>puL cs
 |_=>True
where puL:List AV→Prop
 | []=>True
 |a::r=>a.pu∧puL r
def Ob.pu:Ob→Prop
 | .own _ cs=>AV.pu.puL cs
 |_=>True
def Ob.men(p:Nat→Prop):Ob→Prop
 | .own _ cs=>AllL p cs
 |_=>True
def Ob.isOwn:Ob→Prop
 | .own _ _=>True
 |_=>False
def chp(hs bs:List Ob):Nat→Ob:=fun m=>bif Nat.blt m 10000000 then hs.getD m .free else bif Nat.blt m 20000000 then bs.getD (m-10000000) .dead else .free
def Ka(N:Nat)(e:Nat→AV)(l:List AV)(s:Nat):AV:=bif Nat.blt s N then e s else l.getD (s-N) .un
def aoy(P:Program)(N:Nat)(cl:Bool)(rs:List ResultVar)(n:Nat)(post:AV→List Ob→List Ob→Prop)(σ:St):Prop:=
 akE P rs σ fun l=>∃σ' hs bs' l',Le ⟨Ka N σ.env l,σ.hp⟩ σ'∧σ'.hp=chp hs bs'∧hs.length≤10000000∧bs'.length=n∧(∀ob∈bs',ob.isOwn)∧(∀ob∈hs++bs',ob.men (fun m=>rhp hs bs' m≠ .free))∧
  (cl=true→∀ob∈hs,ob.pu)∧(cl=true→∀ob∈bs',ob.plain)∧l'.length=l.length∧(∀i,i<l'.length→σ'.env (N+i)=l'.getD i .un)∧
  (cl=true→(qN l').pu)∧(qN l').All (fun m=>rhp hs bs' m≠ .free)∧post (qN l') hs bs'
def aqP(P:Program)(N:Nat)(cl:Bool)(rs:List ResultVar)(n:Nat)(post:AV→List Ob→List Ob→Prop):Exit→St→Prop
 | .normal,σ=>aoy P N cl rs n post σ
 | .ret,σ=>aoy P N cl rs n post σ
 |_,_=>False
section
variable {P:Program}{L:Nat→Option Blk→Prop}{w0 w:World}{R:Nat→Prop}{ι:Nat→Option Blk}{tm:Array Value}{σ:St}
theorem AV.pu.get:∀{cs:List AV},AV.pu.puL cs→∀i (h:i<cs.length),(cs[i]).pu
 | [],_,i,h=>by simp at h
 |a::r,hl,0,h=>by simp[AV.pu.puL]at hl;exact hl.1
 |a::r,hl,i+1,h=>by simp[AV.pu.puL]at hl;exact AV.pu.get hl.2 i (by simpa using h)
theorem Rep.of_pu{R':Nat→Prop}{x:Value}{a:AV}(h:Rep R ι w x a):a.pu→Rep R' ι w x a:=by
 induction h with
 |fr x a h=>
  intro hp
  refine .fr _ _ ?_
  induction h with
  |un=>exact .un _
  |v=>exact .v _
  |sl ad n cap cs vs b o hcap ha hv hr ih=>
   simp only[AV.pu]at hp;subst hp
   exact .sl ad n cap [] vs b o hcap (by simp) (by simp) (by simp)
  |fp b o0 cs o vs hR hv hr ih=>
   simp only[AV.pu]at hp;subst hp
   exact .fp b o0 [] o vs (by simp) (by simp) (by simp)
  |fn f vs cs hs hr ih=>simp only[AV.pu]at hp;exact .fn f vs cs hs fun i hi=>ih i hi (AV.pu.get hp i hi)
  |ag vs cs hs hr ih=>simp only[AV.pu]at hp;exact .ag vs cs hs fun i hi=>ih i hi (AV.pu.get hp i hi)
  |tu vs cs hs hr ih=>simp only[AV.pu]at hp;exact .tu vs cs hs fun i hi=>ih i hi (AV.pu.get hp i hi)
 |rf nm o n cap a h=>intro _;exact .rf nm o n cap a h
 |pt nm o B h=>intro _;exact .pt nm o B h
 |fn f vs cs hs hr ih=>intro hp;simp only[AV.pu]at hp;exact .fn f vs cs hs fun i hi=>ih i hi (AV.pu.get hp i hi)
 |ag vs cs hs hr ih=>intro hp;simp only[AV.pu]at hp;exact .ag vs cs hs fun i hi=>ih i hi (AV.pu.get hp i hi)
 |tu vs cs hs hr ih=>intro hp;simp only[AV.pu]at hp;exact .tu vs cs hs fun i hi=>ih i hi (AV.pu.get hp i hi)
theorem OOk.of_pu{R':Nat→Prop}{B:Option Blk}{ob:Ob}(h:OOk R ι w B ob)(hp:ob.pu):OOk R' ι w B ob:=by
 cases ob with
 |free=>trivial
 |dead=>trivial
 |own z cs=>
  cases B with
  |none=>exact h
  |some B=>
   obtain⟨c,T,lo,hi,g1,g2,g3,g4,g5,g6⟩:=h
   exact⟨c,T,lo,hi,g1,g2,g3,g4,g5,fun i hi=>(g6 i hi).of_pu (AV.pu.get hp i hi)⟩
def ahF(tm:Array Value):ResultVar→Sem Value
 | .tmp t=>pure (tm.getD t undef)
 | .cell a t=>do loadVar t (←asAddr (tm.getD a undef))
theorem Zl(h:Inv L w0 R ι w tm σ):∀(rs:List ResultVar) {K:List AV→Prop},akE P rs σ K→∃vs l,(rs.mapM (ahF tm)).run P w=.ok vs w∧K l∧vs.length=l.length∧(∀i (h:i<l.length),Rep R ι w (vs.getD i undef) l[i])∧AllL (fun m=>σ.hp m≠ .free) l
 | [],K,hs=>⟨[],[],rfl,hs,rfl,by simp,by simp[AllL]⟩
 | .tmp t::r,K,hs=>by
  obtain⟨vs,l,h1,h2,h3,h4,h5⟩:=Zl h r hs
  refine⟨tm.getD t undef::vs,σ.env t::l,?_,h2,by simpa using h3,fun i hi=>?_,⟨h.men t,h5⟩⟩
  ·rw[List.mapM_cons];simp only[ahF,Sem.run_bind,Sem.run_pure,Result.andThen,h1]
  ·cases i with
   |zero=>exact h.env t
   |succ i=>exact h4 i (by simpa using hi)
 | .cell a t::r,K,hs=>by
  obtain⟨y,b,hy,hK,hr,hm⟩:=Xk (P:=P) (a:=⟨tm,[]⟩) h (h.env a) hs
  obtain⟨vs,l,h1,h2,h3,h4,h5⟩:=Zl h r hK
  refine⟨y::vs,b::l,?_,h2,by simpa using h3,fun i hi=>?_,⟨hm,h5⟩⟩
  ·rw[List.mapM_cons]
   have:(ahF tm (.cell a t)).run P w=.ok y w:=by
    obtain⟨ad,hx⟩:∃ad,tm.getD a undef=.pointer (some ad):=by
     have hx:=h.env a
     obtain⟨ti,ht,hl⟩:=hs
     split at hl
     ·rename_i e;rw[e]at hx;obtain⟨B,_,hx⟩:=hx.pt_inv;exact⟨_,hx⟩
     ·rename_i e;rw[e]at hx;obtain⟨b,o0,vs,hx,_⟩:=hx.fp_ex;exact⟨_,hx⟩
     ·exact hl.elim
    rw[hx]at hy
    simp only[ahF,hx]
    exact hy
   rw[Sem.run_bind,this];simp only[Sem.run_bind,Sem.run_pure,Result.andThen,h1]
  ·cases i with
   |zero=>exact hr
   |succ i=>exact h4 i (by simpa using hi)
end
end Go.Ab
namespace Go.Ab
open Go
def akJ(args:List AV):Nat→AV:=fun s=>args.getD s .un
section
variable {P:Program}{w:World}{R:Nat→Prop}{ι:Nat→Option Blk}
theorem ajL{hs bs:List Ob}(hb:bs.length≤10000000){m z:Nat}{cs:List AV}:chp hs bs m=.own z cs↔rhp hs (bs.take 10000000) m=.own z cs∧m<20000000:=by
 have hbt:bs.take 10000000=bs:=List.take_of_length_le hb
 rw[hbt]
 unfold chp rhp
 by_cases h1:m<10000000
 ·rw[show Nat.blt m 10000000=true by simp[Nat.blt];omega,cond_true,if_neg (by omega)]
  simp;intro h;
  rcases Nat.lt_or_ge m hs.length with h'|h'
  ·omega
  ·omega
 ·have h1':Nat.blt m 10000000=false:=by
   cases h:Nat.blt m 10000000 with
   |false=>rfl
   |true=>simp[Nat.blt]at h;omega
  rw[h1',cond_false,if_pos (by omega)]
  by_cases h2:m<20000000
  ·rw[show Nat.blt m 20000000=true by simp[Nat.blt];omega,cond_true]
   rw[List.getD_eq_getElem?_getD,List.getD_eq_getElem?_getD]
   cases e:bs[m-10000000]? with
   |none=>simp
   |some ob=>simp;omega
  ·have h2':Nat.blt m 20000000=false:=by
    cases h:Nat.blt m 20000000 with
    |false=>rfl
    |true=>simp[Nat.blt]at h;omega
   rw[h2',cond_false]
   constructor
   ·intro h;cases h
   ·rintro⟨_,h⟩;omega
theorem ZN{hs bs:List Ob}(hb:bs.length≤10000000){m:Nat}(h:rhp hs bs m≠ .free):chp hs bs m=rhp hs bs m∧(10000000≤m→m-10000000<bs.length):=by
 unfold chp
 unfold rhp at h ⊢
 by_cases h1:m<10000000
 ·rw[show Nat.blt m 10000000=true by simp[Nat.blt];omega,cond_true,if_neg (by omega)]
  exact⟨rfl,fun h=>by omega⟩
 ·have h1':Nat.blt m 10000000=false:=by
   cases h:Nat.blt m 10000000 with
   |false=>rfl
   |true=>simp[Nat.blt]at h;omega
  rw[if_pos (by omega)]at h ⊢
  have hl:m-10000000<bs.length:=by
   rcases Nat.lt_or_ge (m-10000000) bs.length with h'|h'
   ·exact h'
   ·rw[List.getD_eq_getElem?_getD,List.getElem?_eq_none h']at h;exact absurd rfl h
  rw[h1',cond_false,show Nat.blt m 20000000=true by simp[Nat.blt];omega,cond_true]
  refine⟨?_,fun _=>hl⟩
  rw[List.getD_eq_getElem?_getD,List.getD_eq_getElem?_getD,List.getElem?_eq_getElem hl];rfl
theorem zi{m:Nat}:zR m=true↔10000000≤m∧m<20000000:=by
 simp[zR,Nat.blt];omega
theorem ZM{hs bs:List Ob}{m:Nat}(h:zR m=true):chp hs bs m=bs.getD (m-10000000) .dead:=by
 obtain⟨h1,h2⟩:=zi.1 h
 have h1':Nat.blt m 10000000=false:=by
  cases h:Nat.blt m 10000000 with
  |false=>rfl
  |true=>simp[Nat.blt]at h;omega
 simp[chp,h1',show Nat.blt m 20000000=true by simp[Nat.blt];omega]
theorem K1(bs:List Ob):rhp [] bs=bhp bs:=by
 funext m;simp[rhp,bhp]
theorem Con.of_aw{f:FuncId}{fn:Func}{c:Code}{N:Nat}{cl:Bool}{args:List AV}{bs:List Ob}{post:AV→List Ob→List Ob→Prop}(hf:P.funcs[f]? =some fn)(hb:fn.body=some c)
  (hN:fn.ntmps=N) (ha:args.length≤N) (hbl:bs.length≤10000000) (hbn:∀ob∈bs,ob≠ .free) (h:AW P N c (aqP P N cl fn.results.toList bs.length post) ⟨akJ args,chp [] bs⟩):Con P f cl args bs post:=by
 intro R ι w vs hR hv hall hhp hgd
 let L:Nat→Option Blk→Prop:=fun nm ob=>zR nm=true∧(∃z cs,bhp bs nm=.own z cs)∧ob=ι nm
 have htake:bs.take 10000000=bs:=List.take_of_length_le hbl
 have hown:∀{m z cs},chp [] bs m=.own z cs→bhp bs m=.own z cs∧10000000≤m∧m<20000000:=by
  intro m z cs e
  have:=(ajL hbl).1 e
  rw[htake,K1]at this
  refine⟨this.1,?_,this.2⟩
  rcases Nat.lt_or_ge m 10000000 with h'|h'
  ·have:=this.1;simp[bhp,show ¬10000000≤m by omega]at this
  ·exact h'
 have hnf:∀m,bhp bs m≠ .free→chp [] bs m≠ .free:=fun m hm=>by
  rw[←K1]at hm
  rw[(ZN hbl hm).1];exact hm
 have hin:In L w R N ⟨akJ args,chp [] bs⟩ {tmps:=vs++Array.replicate (fn.ntmps-vs.size) undef,defers:=[]} w:=by
  refine⟨rfl,?_,R,ι,fun _ h=>.inl h,⟨Ext.refl _ _,hR,fun s=>?_,fun s=>?_,⟨fun m=>?_,fun m z cs B e hB=>hhp.nR m z cs B (hown e).1 hB,fun m m' z z' cs cs' B B' e e'=>hhp.inj m m' z z' cs cs' B B' (hown e).1 (hown e').1,
   fun m z cs e=>(hhp.men m z cs (hown e).1).mono hnf⟩,fun m z cs e=>?_,fun m hm=>?_,⟨hgd.1,fun g l hg hL=>hgd.2 g l hg ?_⟩⟩⟩
  ·have:=hv.1
   simp only[Array.size_append,Array.size_replicate];omega
  ·show Rep R ι w ((vs++Array.replicate (fn.ntmps-vs.size) undef).getD s undef) (args.getD s .un)
   rcases Nat.lt_or_ge s args.length with hs|hs
   ·rw[List.getD_eq_getElem?_getD,List.getElem?_eq_getElem hs]
    have h1:=hv.2 s hs
    rw[Array.getD_eq_getD_getElem?]at h1 ⊢
    rw[Array.getElem?_append_left (by rw[hv.1];exact hs)]
    exact h1
   ·rw[List.getD_eq_getElem?_getD,List.getElem?_eq_none hs];exact .fr _ _ (.un _)
  ·show(args.getD s .un).All _
   rcases Nat.lt_or_ge s args.length with hs|hs
   ·rw[List.getD_eq_getElem?_getD,List.getElem?_eq_getElem hs]
    exact(hall.get s hs).mono hnf
   ·rw[List.getD_eq_getElem?_getD,List.getElem?_eq_none hs];simp[AV.All]
  ·show OOk R ι w (ι m) (chp [] bs m)
   cases e:chp [] bs m with
   |free=>trivial
   |dead=>trivial
   |own z cs=>have:=hhp.ok m;rw[(hown e).1]at this;exact this
  ·exact .inr ⟨zi.2 (hown e).2,zi.2 (hown e).2,⟨z,cs,(hown e).1⟩,rfl⟩
  ·show chp [] bs m≠ .free
   rw[ZM hm,List.getD_eq_getElem?_getD]
   cases e:bs[m-10000000]? with
   |none=>simp
   |some ob=>simpa using hbn ob (List.mem_of_getElem? e)
  ·obtain⟨nm,B,⟨_,⟨z,cs,e⟩,hB⟩,hb⟩:=hL
   exact⟨nm,z,cs,B,e,hB.symm,hb⟩
 refine calls_of_wp hf hb (wp_mono (h L w R _ w hin) fun e a' w' ⟨σ1,hi1,hq⟩=>?_)
 have key:aoy P N cl fn.results.toList bs.length post σ1→a'.defers=[]∧∃v,(results fn a'.tmps).run P w'=.ok v w'∧∃x r hs bs' R' ι',Ending.returned v=.returned x∧post r hs bs'∧Fin cl R ι w bs w' R' ι' x r hs bs':=by
  intro hq
  obtain⟨R1,ι1,hR1,hinv1⟩:=hi1.inv
  obtain⟨xs,l0,hrun,⟨σ',hs,bs',l,hle,hhp',hhl,hbl',hio,hmen,hcl1,hcl2,hll,hslot,hpu,hlall,hpost⟩,hxl0,hxr0,hxm⟩:=Zl (P:=P) hinv1 fn.results.toList hq
  have hxl:xs.length=l.length:=hxl0.trans hll.symm
  have hsz1:a'.tmps.size=N:=hi1.sz
  have gd1:∀s,s<N→(a'.tmps++xs.toArray).getD s undef=a'.tmps.getD s undef:=fun s hs=>by
   rw[Array.getD_eq_getD_getElem?,Array.getElem?_append_left (by omega),←Array.getD_eq_getD_getElem?]
  have gd2:∀s,N≤s→(a'.tmps++xs.toArray).getD s undef=xs.getD (s-N) undef:=fun s hs=>by
   rw[Array.getD_eq_getD_getElem?,Array.getElem?_append_right (by omega),hsz1,List.getElem?_toArray,List.getD_eq_getElem?_getD]
  have hi2:In L w R (N+xs.length) ⟨Ka N σ1.env l0,σ1.hp⟩ ⟨a'.tmps++xs.toArray,[]⟩ w':=by
   refine⟨rfl,by simp[hsz1],R1,ι1,hR1,⟨hinv1.ext,hinv1.rlt,fun s=>?_,fun s=>?_,hinv1.hp,hinv1.old,hinv1.lf,hinv1.gd⟩⟩
   ·show Rep R1 ι1 w' _ (Ka N σ1.env l0 s)
    unfold Ka
    by_cases h1:s<N
    ·rw[gd1 s h1,show Nat.blt s N=true by simp[Nat.blt];omega,cond_true];exact hinv1.env s
    ·have:Nat.blt s N=false:=by
      cases h:Nat.blt s N with
      |false=>rfl
      |true=>simp[Nat.blt]at h;omega
     rw[gd2 s (by omega),this,cond_false]
     rcases Nat.lt_or_ge (s-N) l0.length with h2|h2
     ·have:=hxr0 (s-N) h2
      simpa [List.getD_eq_getElem?_getD,List.getElem?_eq_getElem h2]using this
     ·rw[List.getD_eq_getElem?_getD (l:=l0),List.getElem?_eq_none h2];exact .fr _ _ (.un _)
   ·show(Ka N σ1.env l0 s).All _
    unfold Ka
    cases Nat.blt s N with
    |true=>exact hinv1.men s
    |false=>
     rw[cond_false]
     rcases Nat.lt_or_ge (s-N) l0.length with h2|h2
     ·rw[List.getD_eq_getElem?_getD,List.getElem?_eq_getElem h2];exact hxm.get _ h2
     ·rw[List.getD_eq_getElem?_getD,List.getElem?_eq_none h2];simp[AV.All]
  have hi:=hle _ _ _ _ _ _ hi2
  obtain⟨Re,ιe,hRe,hinv⟩:=hi.inv
  have hxr:∀i (h:i<l.length),Rep Re ιe w' (xs.getD i undef) l[i]:=fun i h=>by
   have h1:=hinv.env (N+i)
   rw[hslot i h,gd2 _ (by omega),show N+i-N=i by omega,List.getD_eq_getElem?_getD (l:=l),List.getElem?_eq_getElem h]at h1
   exact h1
  have hb5:bs'.length≤10000000:=by omega
  have htake':bs'.take 10000000=bs':=List.take_of_length_le hb5
  let ι':Nat→Option Blk:=fun m=>if 10000000≤m then ι m else ιe m
  have hsame:∀m,rhp hs bs' m≠ .free→ι' m=ιe m:=by
   intro m hm
   show(if 10000000≤m then ι m else ιe m)=ιe m
   split
   ·rename_i h5
    have hml:=(ZN hb5 hm).2 h5
    have hlm:zR m=true:=zi.2 ⟨h5,by omega⟩
    have ho:∃z cs,σ'.hp m=.own z cs:=by
     rw[hhp',ZM hlm,List.getD_eq_getElem?_getD,List.getElem?_eq_getElem hml]
     have:=hio _ (List.getElem_mem hml)
     revert this
     cases bs'[m-10000000]with
     |own z cs=>intro _;exact⟨z,cs,rfl⟩
     |free=>intro h;exact h.elim
     |dead=>intro h;exact h.elim
    obtain⟨z,cs,ho⟩:=ho
    rcases hinv.old m z cs ho with h1|h1
    ·rw[hlm]at h1;cases h1.1
    ·exact h1.2.2.2.symm
   ·rfl
  have hro:∀{m z cs},rhp hs bs' m=.own z cs→σ'.hp m=.own z cs:=by
   intro m z cs e
   rw[hhp',(ZN hb5 (by rw[e];simp)).1];exact e
  have hιo:∀{m z cs},rhp hs bs' m=.own z cs→ι' m=ιe m:=fun e=>hsame _ (by rw[e];simp)
  have hmen2:∀m z cs,rhp hs bs' m=.own z cs→AllL (fun m=>rhp hs bs' m≠ .free) cs:=by
   intro m z cs e
   have hmem:(.own z cs:Ob)∈hs++bs':=by
    unfold rhp at e
    rw[List.mem_append]
    split at e
    ·right
     rw[List.getD_eq_getElem?_getD]at e
     cases e2:bs'[m-10000000]? with
     |none=>rw[e2]at e;cases e
     |some ob=>rw[e2]at e;cases e;exact List.mem_of_getElem? e2
    ·left
     rw[List.getD_eq_getElem?_getD]at e
     cases e2:hs[m]? with
     |none=>rw[e2]at e;cases e
     |some ob=>rw[e2]at e;cases e;exact List.mem_of_getElem? e2
   exact hmen _ hmem
  have hokE:∀m,OOk Re ι' w' (ι' m) (rhp hs bs' m):=by
   intro m
   cases e:rhp hs bs' m with
   |free=>trivial
   |dead=>trivial
   |own z cs=>
    rw[hιo e]
    have:=hinv.hp.ok m
    rw[hro e]at this
    exact this.mono (fun _ _=>rfl) (fun _ _ _ _ _=>rfl) (fun _ h=>h) (fun z' cs' e'=>by cases e';exact(hmen2 m z cs e).mono hsame)
  have hnew:∀m z cs B,rhp hs bs' m=.own z cs→ι' m=some B→(w.heap.size≤B.b)∨(10000000≤m∧bhp bs m≠ .free∧(∃z cs,bhp bs m=.own z cs)∧ι m=some B):=by
   intro m z cs B e hB
   rw[hιo e]at hB
   rcases hinv.old m z cs (hro e)with h1|⟨h1,h2,⟨z',cs',h3⟩,h4⟩
   ·exact .inl (h1.2 B hB)
   ·exact .inr ⟨(zi.1 h1).1,by rw[h3];simp,⟨z',cs',h3⟩,by rw[←h4];exact hB⟩
  have hnR:∀m z cs B,rhp hs bs' m=.own z cs→ι' m=some B→¬R B.b:=by
   intro m z cs B e hB hr
   rcases hnew m z cs B e hB with h1|⟨_,_,⟨z',cs',h3⟩,h4⟩
   ·have:=hR _ hr;omega
   ·exact hhp.nR m z' cs' B h3 h4 hr
  have hnRe:∀m z cs B,rhp hs bs' m=.own z cs→ι' m=some B→¬Re B.b:=by
   intro m z cs B e hB hr
   rw[hιo e]at hB
   exact hinv.hp.nR m z cs B (hro e) hB hr
  have hrepE:∃x,(results fn a'.tmps).run P w'=.ok x w'∧Rep Re ι' w' x (qN l):=by
   have hm:fn.results.mapM (ahF a'.tmps)=(do let l←fn.results.toList.mapM (ahF a'.tmps);pure l.toArray):=by
    rw[Array.mapM_eq_mapM_toList];simp[Functor.map,bind_pure_comp]
   have e0:results fn a'.tmps=(do
     let vs←fn.results.mapM (ahF a'.tmps)
     pure (if h:vs.size=1 then vs[0]else .tuple vs)):=by
    unfold results
    congr 1
   have hconv:∀{x:Value} {av:AV},Rep Re ιe w' x av→av.All (fun m=>rhp hs bs' m≠ .free)→Rep Re ι' w' x av:=fun hx ha=>
    hx.mono (fun _ _=>rfl) (fun _ h=>h) _ ha hsame
   rw[e0,hm]
   simp only[Sem.run_bind,hrun,Result.andThen,Sem.run_pure]
   by_cases h1:l.length=1
   ·obtain⟨y,rfl⟩:=List.length_eq_one_iff.1 h1
    obtain⟨x,rfl⟩:=List.length_eq_one_iff.1 (hxl.trans h1)
    refine⟨x,by simp,hconv ?_ hlall⟩
    exact hxr 0 (by simp)
   ·have ht:qN l=.tu l:=by
     cases l with
     |nil=>rfl
     |cons y l=>cases l with
      |nil=>simp at h1
      |cons z l=>rfl
    refine⟨.tuple xs.toArray,by simp[hxl,h1],hconv ?_ hlall⟩
    rw[ht]
    refine .tu _ _ (by simpa using hxl) fun i hi=>?_
    have:=hxr i hi
    simpa [Array.getD_eq_getD_getElem?,List.getD_eq_getElem?_getD]using this
  obtain⟨x,hrunx,hrepx⟩:=hrepE
  refine⟨hi1.df,x,hrunx,x,qN l,hs,bs',if cl then fun _=>False else Re,ι',rfl,hpost,?_⟩
  have hext:Ext (XG (bhp bs) ι) w w':=⟨hinv.ext.os,hinv.ext.tape,hinv.ext.output,hinv.ext.size,fun b hb hn=>hinv.ext.block b hb fun⟨nm,B,⟨_,⟨z,cs,ho⟩,h3⟩,h4⟩=>hn ⟨nm,z,cs,B,ho,h3.symm,h4⟩⟩
  have hR0Re:True:=trivial
  cases cl with
  |true=>
   refine⟨hext,fun b hb=>hb.elim,fun b hb=>hb.elim,hrepx.of_pu (hpu rfl),hlall,fun m h5=>?_,fun m h5=>?_,fun m z cs B e hB hr=>?_,fun m m' z z' cs cs' B B' e e' hB hB'=>hinv.hp.inj m m' z z' cs cs' B B' (hro e) (hro e') (by rw[←hιo e];exact hB) (by rw[←hιo e'];exact hB'),
    hmen2,fun m z cs B h5 e hB=>?_,hbl',fun m h5=>?_,fun i hi=>?_⟩
   ·refine(hokE m).of_pu ?_
    simp only[rhp,show ¬10000000≤m by omega,if_false,List.getD_eq_getElem?_getD]
    cases e:hs[m]? with
    |none=>trivial
    |some ob=>exact hcl1 rfl ob (List.mem_of_getElem? e)
   ·refine(hokE m).plain ?_
    simp only[rhp,if_pos h5,List.getD_eq_getElem?_getD]
    cases e:bs'[m-10000000]? with
    |none=>trivial
    |some ob=>exact hcl2 rfl ob (List.mem_of_getElem? e)
   ·rcases hr with hr|hr
    ·exact hnR m z cs B e hB hr
    ·exact hr
   ·rcases hnew m z cs B e hB with h1|⟨h1,_⟩
    ·exact h1
    ·omega
   ·show(if 10000000≤m then ι m else ιe m)=ι m
    rw[if_pos h5]
   ·have:=hio _ (List.getElem_mem hi)
    rw[List.getD_eq_getElem?_getD,List.getElem?_eq_getElem hi]
    intro e;simp only[Option.getD_some]at e;rw[e]at this;exact this
  |false=>
   refine⟨hext,hinv.rlt,fun b hb=>(hRe b hb).elim (fun h=>.inr ⟨rfl,h⟩) .inl,hrepx,hlall,fun m h5=>hokE m,fun m h5=>?_,fun m z cs B e hB hr=>?_,fun m m' z z' cs cs' B B' e e' hB hB'=>hinv.hp.inj m m' z z' cs cs' B B' (hro e) (hro e') (by rw[←hιo e];exact hB) (by rw[←hιo e'];exact hB'),
    hmen2,fun m z cs B h5 e hB=>?_,hbl',fun m h5=>?_,fun i hi=>?_⟩
   ·exact(hokE m).mono (fun _ _=>rfl) (fun _ _ _ _ _=>rfl) (fun _ h=>.inr h) (fun _ _ _=>AllL.of_mem fun a _=>AV.all_true (fun _=>rfl) a)
   ·rcases hr with hr|hr
    ·exact hnR m z cs B e hB hr
    ·exact hnRe m z cs B e hB hr
   ·rcases hnew m z cs B e hB with h1|⟨h1,_⟩
    ·exact h1
    ·omega
   ·show(if 10000000≤m then ι m else ιe m)=ι m
    rw[if_pos h5]
   ·have:=hio _ (List.getElem_mem hi)
    rw[List.getD_eq_getElem?_getD,List.getElem?_eq_getElem hi]
    intro e;simp only[Option.getD_some]at e;rw[e]at this;exact this
 cases e with
 |normal=>exact key hq
 |ret=>exact key hq
 |_=>exact hq.elim
end
end Go.Ab
namespace Go.Ab
open Go
def ofL{α:Type}(d:α):List (Nat×α)→Nat→α
 | [],_=>d
 |(k,v)::r,s=>bif Nat.beq k s then v else ofL d r s
def ofH(H:List (Nat×Ob))(m:Nat):Ob:=ofL (bif zR m then .dead else .free) H m
def yZ:List (Nat×Ob)→Nat→Prop
 | [],_=>False
 |(k,_)::r,m=>m=k∨yZ r m
section
variable {P:Program}{L:Nat→Option Blk→Prop}{w0 w:World}{R:Nat→Prop}{ι:Nat→Option Blk}{tm:Array Value}{σ:St}{N:Nat}
theorem yV{α:Type}{d:α}:∀{l:List (Nat×α)} {s:Nat},(∃v,(s,v)∈l∧ofL d l s=v)∨ofL d l s=d
 | [],s=>.inr rfl
 |(k,v)::r,s=>by
  by_cases h:k=s
  ·subst h;left;exact⟨v,by simp,by simp[ofL,Nat.beq_refl]⟩
  ·rw[ofL,Xj h,cond_false]
   rcases yV (l:=r) (s:=s) (d:=d)with⟨v',h1,h2⟩|h1
   ·exact .inl ⟨v',by simp[h1],h2⟩
   ·exact .inr h1
theorem yY:∀{H:List (Nat×Ob)} {m:Nat},yZ H m→∃ob,(m,ob)∈H
 |(k,ob)::r,m,h=>by
  rcases h with rfl|h
  ·exact⟨ob,by simp⟩
  ·obtain⟨o,h⟩:=yY h;exact⟨o,by simp[h]⟩
theorem Rep.unren{ρ:Nat→Nat}{x:Value}{b:AV}(h:Rep R ι w x b):∀{a:AV},b=a.ren ρ→Rep R (fun m=>ι (ρ m)) w x a:=by
 have key:∀{x:Value} {b:AV},FRep R w x b→∀{a:AV},b=a.ren ρ→FRep R w x a:=by
  intro x b h
  induction h with
  |un=>intro a e;cases a<;>simp[AV.ren]at e;exact .un _
  |v=>intro a e;cases a<;>simp[AV.ren]at e;subst e;exact .v _
  |sl ad n cap cs vs b o hcap ha hv hr ih=>intro a e;cases a<;>simp[AV.ren]at e;obtain⟨rfl,rfl⟩:=e;exact .sl ad n cap cs vs b o hcap ha hv hr
  |fp b o0 cs o vs hR hv hr ih=>intro a e;cases a<;>simp[AV.ren]at e;obtain⟨rfl,rfl⟩:=e;exact .fp b o0 cs o vs hR hv hr
  |fn f vs cs hs hr ih=>
   intro a e;cases a<;>simp[AV.ren,qA]at e
   obtain⟨rfl,rfl⟩:=e
   exact .fn f vs _ (by simpa using hs) fun i hi=>ih i (by simpa using hi) (by simp)
  |ag vs cs hs hr ih=>
   intro a e;cases a<;>simp[AV.ren,qA]at e
   subst e
   exact .ag vs _ (by simpa using hs) fun i hi=>ih i (by simpa using hi) (by simp)
  |tu vs cs hs hr ih=>
   intro a e;cases a<;>simp[AV.ren,qA]at e
   subst e
   exact .tu vs _ (by simpa using hs) fun i hi=>ih i (by simpa using hi) (by simp)
 induction h with
 |fr x b h=>intro a e;exact .fr _ _ (key h e)
 |rf nm o n cap ad h=>intro a e;cases a<;>simp[AV.ren]at e;obtain⟨rfl,rfl,rfl⟩:=e;exact .rf _ _ _ cap ad h
 |pt nm o B h=>intro a e;cases a<;>simp[AV.ren]at e;obtain⟨rfl,rfl⟩:=e;exact .pt _ _ B h
 |fn f vs cs hs hr ih=>
  intro a e;cases a<;>simp[AV.ren,qA]at e
  obtain⟨rfl,rfl⟩:=e
  exact .fn f vs _ (by simpa using hs) fun i hi=>ih i (by simpa using hi) (by simp)
 |ag vs cs hs hr ih=>
  intro a e;cases a<;>simp[AV.ren,qA]at e
  subst e
  exact .ag vs _ (by simpa using hs) fun i hi=>ih i (by simpa using hi) (by simp)
 |tu vs cs hs hr ih=>
  intro a e;cases a<;>simp[AV.ren,qA]at e
  subst e
  exact .tu vs _ (by simpa using hs) fun i hi=>ih i (by simpa using hi) (by simp)
theorem Le.mk(ρ:Nat→Nat)(E:List (Nat×AV))(H:List (Nat×Ob))
  (hE:∀p∈E,p.2.ren ρ=σ.env p.1∧p.2.All (yZ H))
  (hH:∀p∈H,p.2.ren ρ=σ.hp (ρ p.1)∧p.2.men (yZ H)∧p.2≠ .free∧ofH H p.1=p.2∧(zR p.1=true→ρ p.1=p.1)∧(zR p.1=false→zR (ρ p.1)=false))
  (hinj:∀p∈H,∀q∈H,ρ p.1=ρ q.1→p.1=q.1):Le σ ⟨ofL .un E,ofH H⟩:=by
 intro L w0 R0 N a w hi
 obtain⟨R,ι,hR,h⟩:=hi.inv
 have hk:∀m,yZ H m→ofH H m≠ .free:=fun m hm=>by
  obtain⟨ob,hm⟩:=yY hm
  obtain⟨_,_,h3,h4,_⟩:=hH _ hm
  rw[h4];exact h3
 have hown:∀{m z cs},ofH H m=.own z cs→(m,.own z cs)∈H:=by
  intro m z cs e
  rcases yV (l:=H) (s:=m) (d:=(bif zR m then .dead else .free:Ob))with⟨v,h1,h2⟩|h1
  ·have:v=.own z cs:=h2.symm.trans e
   exact this▸h1
  ·have:ofH H m=_:=h1
   rw[this]at e
   cases hl:zR m<;>rw[hl]at e<;>cases e
 have hsrc:∀{m z cs},ofH H m=.own z cs→σ.hp (ρ m)=.own z (zb ρ cs)∧AllL (yZ H) cs:=by
  intro m z cs e
  obtain⟨h1,h2,_⟩:=hH _ (hown e)
  exact⟨h1.symm,h2⟩
 have hrep:∀{x:Value} {v:AV},Rep R ι w x (v.ren ρ)→Rep R (fun m=>ι (ρ m)) w x v:=by
  intro x v
  intro hx
  exact hx.unren rfl
 refine⟨hi.df,hi.sz,R,fun m=>ι (ρ m),hR,⟨h.ext,h.rlt,fun s=>?_,fun s=>?_,⟨fun m=>?_,fun m z cs B e hB=>h.hp.nR _ _ _ B (hsrc e).1 hB,fun m m' z z' cs cs' B B' e e' hB hB' hbb=>?_,fun m z cs e=>(hsrc e).2.mono hk⟩,fun m z cs e=>?_,fun m hm=>?_,h.gd⟩⟩
 ·rcases yV (l:=E) (s:=s) (d:=AV.un)with⟨v,h1,h2⟩|h1
  ·show Rep R _ w _ (ofL .un E s)
   rw[h2]
   have:=h.env s
   rw[←(hE _ h1).1]at this
   exact hrep this
  ·show Rep R _ w _ (ofL .un E s)
   rw[h1];exact .fr _ _ (.un _)
 ·show(ofL .un E s).All _
  rcases yV (l:=E) (s:=s) (d:=AV.un)with⟨v,h1,h2⟩|h1
  ·rw[h2];exact(hE _ h1).2.mono hk
  ·rw[h1];simp[AV.All]
 ·show OOk R _ w (ι (ρ m)) (ofH H m)
  cases e:ofH H m with
  |free=>trivial
  |dead=>trivial
  |own z cs=>
   have h1:=h.hp.ok (ρ m)
   rw[(hsrc e).1]at h1
   cases hB:ι (ρ m)with
   |none=>rw[hB]at h1;have:zb ρ cs=[]:=h1;rw[qA]at this;exact List.map_eq_nil_iff.1 this
   |some B=>
    rw[hB]at h1
    obtain⟨c,T,lo,hi,g1,g2,g3,g4,g5,g6⟩:=h1
    rw[qA]at g5 g6
    refine⟨c,T,lo,hi,g1,g2,g3,g4,by simpa using g5,fun i hi=>?_⟩
    have:=g6 i (by simpa using hi)
    simp only[List.getElem_map]at this
    exact hrep this
 ·have:=h.hp.inj _ _ _ _ _ _ B B' (hsrc e).1 (hsrc e').1 hB hB' hbb
  exact hinj _ (hown e) _ (hown e') this
 ·have hm:=hown e
  obtain⟨h1,h2,h3,h4,h5,h6⟩:=hH _ hm
  rcases h.old _ _ _ (hsrc e).1 with g|g
  ·left
   refine⟨?_,g.2⟩
   cases hl:zR m with
   |false=>rfl
   |true=>have:=h5 hl;simp only at this;rw[this,hl]at g;exact g.1
  ·right
   have hl:zR m=true:=by
    cases hl:zR m with
    |true=>rfl
    |false=>have:=h6 hl;simp only at this;rw[this]at g;exact g.1
   have:=h5 hl;simp only at this
   rw[this]at g ⊢
   exact g
 ·show ofH H m≠ .free
  rcases yV (l:=H) (s:=m) (d:=(bif zR m then .dead else .free:Ob))with⟨v,h1,h2⟩|h1
  ·have:ofH H m=v:=h2
   rw[this];exact(hH _ h1).2.2.1
  ·have:ofH H m=_:=h1
   rw[this,hm];simp
end
end Go.Ab
namespace Go.Ab
open Go
def zM{α:Type}:Nat→List α→List (Nat×α)
 |_,[]=>[]
 |k,a::r=>(k,a)::zM (k+1) r
def ji(hs bs:List Ob):List (Nat×Ob):=zM 0 hs++zM 10000000 bs
mutual
def AV.fz(m z:Nat)(ks:List AV):AV→AV
 | .rf nm o n=>bif Nat.beq nm m then .sl n (cut ks o (n*z))else .rf nm o n
 | .pt nm o=>bif Nat.beq nm m then .fp ks o else .pt nm o
 | .ag cs=>.ag (fzL m z ks cs)
 | .tu cs=>.tu (fzL m z ks cs)
 | .fn f cs=>.fn f (fzL m z ks cs)
 | .un=>.un
 | .v x=>.v x
 | .sl n cs=>.sl n cs
 | .fp cs o=>.fp cs o
def fzL(m z:Nat)(ks:List AV):List AV→List AV
 | []=>[]
 |a::r=>a.fz m z ks::fzL m z ks r
end
theorem zL(m z:Nat)(ks cs:List AV):fzL m z ks cs=cs.map (AV.fz m z ks):=by
 induction cs with
 |nil=>rfl
 |cons a r ih=>simp[fzL,ih]
def Ob.fz(m z:Nat)(ks:List AV):Ob→Ob
 | .own y cs=>.own y (fzL m z ks cs)
 |o=>o
section
variable {P:Program}{L:Nat→Option Blk→Prop}{w0 w:World}{R:Nat→Prop}{ι:Nat→Option Blk}{tm:Array Value}{σ:St}{N:Nat}
theorem QS{α:Type}{d:α}:∀(l r:List (Nat×α)) (s:Nat),ofL d (l++r) s=ofL (ofL d r s) l s
 | [],r,s=>rfl
 |(k,v)::l,r,s=>by simp only[List.cons_append,ofL,QS l r s]
theorem yE{α:Type}{d:α}:∀(l:List α) (k s:Nat),ofL d (zM k l) s=if k≤s then l.getD (s-k) d else d
 | [],k,s=>by simp[zM,ofL]
 |a::l,k,s=>by
  simp only[zM,ofL,yE l]
  by_cases h:k=s
  ·subst h;simp[Nat.beq_refl]
  ·rw[Xj h,cond_false]
   by_cases h2:k≤s
   ·rw[if_pos (by omega),if_pos h2,show s-k=(s-(k+1))+1 by omega];rfl
   ·rw[if_neg (by omega),if_neg h2]
theorem aba{hs bs:List Ob}(h:hs.length≤10000000)(h':bs.length≤10000000):ofH (ji hs bs)=chp hs bs:=by
 funext m
 rw[ofH,ji,QS,yE,yE]
 have gd:∀(l:List Ob) i (d:Ob),l.length≤i→l.getD i d=d:=fun l i d hl=>by rw[List.getD_eq_getElem?_getD,List.getElem?_eq_none hl];rfl
 have ge:∀(l:List Ob) i (d d':Ob),i<l.length→l.getD i d=l.getD i d':=fun l i d d' hl=>by simp[List.getD_eq_getElem?_getD,List.getElem?_eq_getElem hl]
 simp only[Nat.zero_le,if_true,Nat.sub_zero]
 by_cases h1:m<10000000
 ·rw[if_neg (by omega)]
  have:zR m=false:=by
   cases hl:zR m with
   |false=>rfl
   |true=>have:=zi.1 hl;omega
  simp[this,chp,show Nat.blt m 10000000=true by simp[Nat.blt];omega]
 ·rw[gd hs m _ (by omega),if_pos (by omega)]
  by_cases h2:m<20000000
  ·rw[zi.2 ⟨by omega,h2⟩,cond_true,ZM (zi.2 ⟨by omega,h2⟩)]
  ·have:zR m=false:=by
    cases hl:zR m with
    |false=>rfl
    |true=>have:=zi.1 hl;omega
   rw[this,cond_false,gd bs _ _ (by omega)]
   have e1:Nat.blt m 10000000=false:=by
    cases h:Nat.blt m 10000000 with
    |false=>rfl
    |true=>simp[Nat.blt]at h;omega
   have e2:Nat.blt m 20000000=false:=by
    cases h:Nat.blt m 20000000 with
    |false=>rfl
    |true=>simp[Nat.blt]at h;omega
   simp[chp,e1,e2]
theorem aaB{hs bs:List Ob}(h:hs.length≤10000000)(h':bs.length≤10000000)(hn:∀ob∈hs++bs,ob≠ .free){m:Nat}(hk:yZ (ji hs bs) m):rhp hs bs m≠ .free:=by
 obtain⟨ob,hm⟩:=yY hk
 have key:∀(l:List Ob) (k:Nat),(m,ob)∈zM k l→k≤m∧l[m-k]? =some ob:=by
  intro l
  induction l with
  |nil=>intro k h;simp[zM]at h
  |cons a l ih=>
   intro k h
   simp only[zM,List.mem_cons]at h
   rcases h with h|h
   ·cases h;simp
   ·obtain⟨h1,h2⟩:=ih (k+1) h
    refine⟨by omega,?_⟩
    rw[show m-k=(m-(k+1))+1 by omega];simpa using h2
 rw[ji,List.mem_append]at hm
 unfold rhp
 rcases hm with hm|hm
 ·obtain⟨_,h2⟩:=key _ _ hm
  have:m<hs.length:=by
   rcases Nat.lt_or_ge m hs.length with h|h
   ·exact h
   ·rw[List.getElem?_eq_none (by omega)]at h2;cases h2
  rw[if_neg (by omega),List.getD_eq_getElem?_getD]
  rw[Nat.sub_zero]at h2
  rw[h2];exact hn ob (List.mem_append.2 (.inl (List.mem_of_getElem? h2)))
 ·obtain⟨h1,h2⟩:=key _ _ hm
  rw[if_pos h1,List.getD_eq_getElem?_getD,h2]
  exact hn ob (List.mem_append.2 (.inr (List.mem_of_getElem? h2)))
theorem Le.ghost(s nm z:Nat)(hs:σ.env s=.v (.slice none 0 0))(hf:σ.hp nm=.free):Le σ ⟨upd σ.env s (.rf nm 0 0),upd σ.hp nm (.own z [])⟩:=by
 intro L w0 R0 N a w hi
 obtain⟨R,ι,hR,h⟩:=hi.inv
 have hg:=h.ghost (z:=z) hf
 refine⟨hi.df,hi.sz,R,_,hR,⟨hg.ext,hg.rlt,fun s'=>?_,fun s'=>?_,hg.hp,hg.old,hg.lf,hg.gd⟩⟩
 ·show Rep R _ w _ (upd σ.env s (.rf nm 0 0) s')
  by_cases e:s'=s
  ·subst e
   rw[qj]
   have:=h.env s'
   rw[hs]at this
   rw[this.v_inv]
   exact .rf nm 0 0 0 none ⟨Nat.le_refl _,by rw[qj]⟩
  ·rw[qm e];exact hg.env s'
 ·show(upd σ.env s (.rf nm 0 0) s').All _
  by_cases e:s'=s
  ·subst e;rw[qj];simp[AV.All,qj]
  ·rw[qm e];exact hg.men s'
theorem Rep.nf{x:Value}{a:AV}(h:Rep R ι w x a):a.All (fun _=>False)→FRep R w x a:=by
 induction h with
 |fr x a h=>intro _;exact h
 |rf nm o n cap a h=>intro hn;simp only[AV.All]at hn
 |pt nm o B h=>intro hn;simp only[AV.All]at hn
 |fn f vs cs hs hr ih=>intro hn;simp only[AV.All]at hn;exact .fn f vs cs hs fun i hi=>ih i hi (hn.get i hi)
 |ag vs cs hs hr ih=>intro hn;simp only[AV.All]at hn;exact .ag vs cs hs fun i hi=>ih i hi (hn.get i hi)
 |tu vs cs hs hr ih=>intro hn;simp only[AV.All]at hn;exact .tu vs cs hs fun i hi=>ih i hi (hn.get i hi)
theorem aaS{hp:Nat→Ob}{m z:Nat}{ks:List AV}:∀{v:AV},v.All (fun k=>hp k≠ .free)→(v.fz m z ks).All (fun k=>(bif Nat.beq k m then .dead else(hp k).fz m z ks:Ob)≠ .free)
 | .un,_| .v _,_| .sl _ _,_| .fp _ _,_=>by simp[AV.fz,AV.All]
 | .rf nm o n,h=>by
  simp only[AV.fz]
  cases e:Nat.beq nm m with
  |true=>simp[AV.All]
  |false=>
   simp only[cond_false,AV.All]at h ⊢
   rw[e,cond_false]
   revert h
   cases hp nm<;>simp[Ob.fz]
 | .pt nm o,h=>by
  simp only[AV.fz]
  cases e:Nat.beq nm m with
  |true=>simp[AV.All]
  |false=>
   simp only[cond_false,AV.All]at h ⊢
   rw[e,cond_false]
   revert h
   cases hp nm<;>simp[Ob.fz]
 | .ag cs,h=>by simp only[AV.fz,AV.All]at*;exact fz_allL h
 | .tu cs,h=>by simp only[AV.fz,AV.All]at*;exact fz_allL h
 | .fn _ cs,h=>by simp only[AV.fz,AV.All]at*;exact fz_allL h
where fz_allL {hp:Nat→Ob} {m z:Nat} {ks:List AV}:∀{cs:List AV},AllL (fun k=>hp k≠ .free) cs→AllL (fun k=>(bif Nat.beq k m then .dead else(hp k).fz m z ks:Ob)≠ .free) (fzL m z ks cs)
 | [],_=>by simp[AllL,fzL]
 |a::r,h=>by simp only[AllL,fzL]at*;exact⟨aaS h.1,fz_allL h.2⟩
theorem Le.freeze(m:Nat){z:Nat}{ks:List AV}(hm:σ.hp m=.own z ks)(hl:zR m=false)(hn:AllL (fun _=>False) ks):
  Le σ ⟨fun s=>(σ.env s).fz m z ks,fun k=>bif Nat.beq k m then .dead else(σ.hp k).fz m z ks⟩:=by
 intro L w0 R0 N a w hi
 obtain⟨R,ι,hR,h⟩:=hi.inv
 let R':Nat→Prop:=fun b=>R b∨∃B,ι m=some B∧B.b=b
 have hnew:∀B,ι m=some B→w0.heap.size≤B.b:=fun B hB=>by
  rcases h.old _ _ _ hm with g|g
  ·exact g.2 B hB
  ·rw[hl]at g;cases g.1
 have hok:=h.hp.ok m
 rw[hm]at hok
 have hcell:∀B,ι m=some B→∃c T lo hi,w.heap[B.b]? =some (.cells c T (lo,hi))∧B.z=z∧B.top≤c.size∧B.base+ks.length≤B.top∧∀i (h:i<ks.length),FRep R' w (c.getD (B.base+i) undef) ks[i]:=by
  intro B hB
  rw[hB]at hok
  obtain⟨c,T,lo,hi,g1,g2,g3,g4,g5,g6⟩:=hok
  exact⟨c,T,lo,hi,g1,g3,g4,g5,fun i hi=>((g6 i hi).nf (hn.get i hi)).mono (fun _ _=>rfl) (fun _ h=>.inl h)⟩
 have hnil:ι m=none→ks=[]:=fun e=>by rw[e]at hok;exact hok
 have hrep:∀{x:Value} {v:AV},Rep R ι w x v→Rep R' ι w x (v.fz m z ks):=by
  intro x v hx
  induction hx with
  |fr x v hx=>
   have hx':=hx.mono (w':=w) (R':=R') (fun _ _=>rfl) (fun _ h=>.inl h)
   have key:∀{x:Value} {a:AV},FRep R w x a→a.fz m z ks=a:=by
    intro x a hx
    induction hx with
    |un=>rfl
    |v=>rfl
    |sl=>rfl
    |fp=>rfl
    |fn f vs cs hs hr ih=>simp only[AV.fz,zL];congr 1;exact jt ih
    |ag vs cs hs hr ih=>simp only[AV.fz,zL];congr 1;exact jt ih
    |tu vs cs hs hr ih=>simp only[AV.fz,zL];congr 1;exact jt ih
   rw[key hx];exact .fr _ _ hx'
  |rf nm o n cap ad hs=>
   simp only[AV.fz]
   by_cases e:nm=m
   ·subst e
    rw[Nat.beq_refl,cond_true]
    refine .fr _ _ ?_
    cases hB:ι nm with
    |none=>
     rw[hB]at hs
     rw[hnil hB]
     exact .sl _ _ _ _ (fun _=>undef) 0 0 hs.1 (by simp[cut]) (by simp[cut]) (by simp[cut])
    |some B=>
     rw[hB]at hs
     obtain⟨c,T,lo,hi,g1,g3,g4,g5,g6⟩:=hcell B hB
     have hcl:(cut ks o (n*z)).length≤ks.length-o:=by simp[cut];omega
     refine .sl _ _ _ _ (fun i=>c.getD (B.base+o+i) undef) B.b (B.base+o) hs.1 (fun hp'=>?_) (fun i hi=>?_) (fun i hi=>?_)
     ·have hn:0<n:=by
       rcases Nat.eq_zero_or_pos n with h|h
       ·subst h;simp[cut]at hp'
       ·exact h
      have:=hs.1
      exact⟨(hs.2 (by omega)).1,.inr ⟨B,hB,rfl⟩⟩
     ·exact zI g1 (by omega)
     ·have:=g6 (o+i) (by omega)
      simpa [cut,Nat.add_assoc]using this
   ·rw[Xj e,cond_false];exact .rf nm o n cap ad hs
  |pt nm o B hB=>
   simp only[AV.fz]
   by_cases e:nm=m
   ·subst e
    rw[Nat.beq_refl,cond_true]
    obtain⟨c,T,lo,hi,g1,g3,g4,g5,g6⟩:=hcell B hB
    refine .fr _ _ (.fp B.b B.base _ o (fun i=>c.getD (B.base+i) undef) (fun _=>.inr ⟨B,hB,rfl⟩) (fun i hi=>?_) (fun i hi=>g6 i hi))
    exact zI g1 (by omega)
   ·rw[Xj e,cond_false];exact .pt nm o B hB
  |fn f vs cs hs hr ih=>simp only[AV.fz,zL];exact .fn f vs _ (by simpa using hs) fun i hi=>by simp only[List.getElem_map];exact ih i (by simpa using hi)
  |ag vs cs hs hr ih=>simp only[AV.fz,zL];exact .ag vs _ (by simpa using hs) fun i hi=>by simp only[List.getElem_map];exact ih i (by simpa using hi)
  |tu vs cs hs hr ih=>simp only[AV.fz,zL];exact .tu vs _ (by simpa using hs) fun i hi=>by simp only[List.getElem_map];exact ih i (by simpa using hi)
 have hall:∀{v:AV},v.All (fun k=>σ.hp k≠ .free)→(v.fz m z ks).All (fun k=>(bif Nat.beq k m then .dead else(σ.hp k).fz m z ks:Ob)≠ .free):=fun {v} hv=>aaS hv
 have hsp:∀{k z' cs},(bif Nat.beq k m then .dead else(σ.hp k).fz m z ks:Ob)=.own z' cs→k≠m∧∃cs0,σ.hp k=.own z' cs0∧cs=fzL m z ks cs0:=by
  intro k z' cs e
  by_cases hk:k=m
  ·subst hk;rw[Nat.beq_refl]at e;cases e
  ·rw[Xj hk,cond_false]at e
   cases eo:σ.hp k with
   |free=>rw[eo]at e;cases e
   |dead=>rw[eo]at e;cases e
   |own z0 c0=>rw[eo]at e;cases e;exact⟨hk,c0,rfl,rfl⟩
 refine⟨hi.df,hi.sz,R',ι,fun b hb=>?_,⟨h.ext,fun b hb=>?_,fun s=>hrep (h.env s),fun s=>hall (h.men s),⟨fun k=>?_,fun k z' cs B e hB hr=>?_,fun k k' z' z'' cs cs' B B' e e' hB hB'=>?_,fun k z' cs e=>?_⟩,fun k z' cs e=>?_,fun k hk=>?_,h.gd⟩⟩
 ·rcases hb with hb|⟨B,hB,rfl⟩
  ·exact hR b hb
  ·exact .inr (hnew B hB)
 ·rcases hb with hb|⟨B,hB,rfl⟩
  ·exact h.rlt b hb
  ·exact h.block_lt hm hB
 ·show OOk R' ι w (ι k) (bif Nat.beq k m then .dead else(σ.hp k).fz m z ks)
  by_cases hk:k=m
  ·subst hk;rw[Nat.beq_refl];trivial
  ·rw[Xj hk,cond_false]
   have:=h.hp.ok k
   revert this
   cases σ.hp k with
   |free=>intro _;trivial
   |dead=>intro _;trivial
   |own z0 c0=>
    cases ι k with
    |none=>intro g;have:c0=[]:=g;subst this;rfl
    |some B=>
     rintro⟨c,T,lo,hi,g1,g2,g3,g4,g5,g6⟩
     refine⟨c,T,lo,hi,g1,g2,g3,g4,by rw[zL];simpa using g5,fun i hi=>?_⟩
     have hi':i<c0.length:=by rw[zL]at hi;simpa using hi
     have:=hrep (g6 i hi')
     simpa only[zL,List.getElem_map]using this
 ·obtain⟨hk,c0,eo,_⟩:=hsp e
  rcases hr with hr|⟨B',hB',eb⟩
  ·exact h.hp.nR _ _ _ B eo hB hr
  ·exact hk (h.hp.inj _ _ _ _ _ _ B B' eo hm hB hB' eb.symm)
 ·obtain⟨hk,c0,eo,_⟩:=hsp e
  obtain⟨hk',c0',eo',_⟩:=hsp e'
  exact h.hp.inj _ _ _ _ _ _ B B' eo eo' hB hB'
 ·obtain⟨hk,c0,eo,rfl⟩:=hsp e
  exact aaS.fz_allL (h.hp.men _ _ _ eo)
 ·obtain⟨hk,c0,eo,rfl⟩:=hsp e
  exact h.old _ _ _ eo
 ·show(bif Nat.beq k m then .dead else(σ.hp k).fz m z ks:Ob)≠ .free
  have h1:=h.lf k hk
  cases hb:Nat.beq k m with
  |true=>simp
  |false=>
   rw[cond_false]
   revert h1
   cases σ.hp k<;>simp[Ob.fz]
end
end Go.Ab
