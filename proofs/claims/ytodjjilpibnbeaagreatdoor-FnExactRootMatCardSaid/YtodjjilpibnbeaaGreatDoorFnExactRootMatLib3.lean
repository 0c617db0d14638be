/- What the proof of this claim stands on: the walks of the functions and the plain laws, part 3. -/
import Derived.Test.YtodjjilpibnbeaaGreatDoorFnExactRootMatLib2
import Derived.Test.YtodjjilpibnbeaaGreatDoorProg
import Derived.KernelRfl
import Derived.Shelf.Spec.TrailingZeros
import Derived.Shelf.Small.Bits
import Derived.Shelf.Strconv.Itoa0
import Derived.Carry
import Derived.ChangeSlices
set_option linter.unusedVariables false
set_option linter.unusedSimpArgs false
namespace Go.Ab
open Go Go.Proofs
def ti2:TI:=⟨Kd.int IntKind.i64,1,8,Value.int IntKind.i64 0⟩
theorem tf2:qU Tryz.prog 2=some ti2:=by kernel_rfl
def ti3:TI:=⟨Kd.int IntKind.i64,1,8,Value.int IntKind.i64 0⟩
theorem tf3:qU Tryz.prog 3=some ti3:=by kernel_rfl
def ti4:TI:=⟨Kd.bool,1,1,Value.bool false⟩
theorem tf4:qU Tryz.prog 4=some ti4:=by kernel_rfl
def ti6:TI:=⟨Kd.int IntKind.u8,1,1,Value.int IntKind.u8 0⟩
theorem tf6:qU Tryz.prog 6=some ti6:=by kernel_rfl
def ti7:TI:=⟨Kd.stru [(0,2),(1,3),(2,4),(3,6)],4,24,Value.agg ⟨[Value.int IntKind.i64 0,Value.int IntKind.i64 0,Value.bool false,Value.int IntKind.u8 0]⟩⟩
theorem tf7:qU Tryz.prog 7=some ti7:=by kernel_rfl
def abQ:TI:=⟨Kd.sli 44,1,24,Value.slice none 0 0⟩
theorem am4:qU Tryz.prog 23=some abQ:=by kernel_rfl
def afp:TI:=⟨Kd.stru [(0,3),(1,23)],2,32,Value.agg ⟨[Value.int IntKind.i64 0,Value.slice none 0 0]⟩⟩
theorem ayr:qU Tryz.prog 24=some afp:=by kernel_rfl
def afm:TI:=⟨Kd.stru [(0,3),(1,23)],2,32,Value.agg ⟨[Value.int IntKind.i64 0,Value.slice none 0 0]⟩⟩
theorem ayq:qU Tryz.prog 25=some afm:=by kernel_rfl
def afk:TI:=⟨Kd.sli 137,1,24,Value.slice none 0 0⟩
theorem atj:qU Tryz.prog 34=some afk:=by kernel_rfl
def afi:TI:=⟨Kd.stru [(0,3),(1,34)],2,32,Value.agg ⟨[Value.int IntKind.i64 0,Value.slice none 0 0]⟩⟩
theorem ayp:qU Tryz.prog 36=some afi:=by kernel_rfl
def JA:TI:=⟨Kd.sli 3,1,24,Value.slice none 0 0⟩
theorem VH:qU Tryz.prog 38=some JA:=by kernel_rfl
def ai3:TI:=⟨Kd.stru [(0,38)],1,24,Value.agg ⟨[Value.slice none 0 0]⟩⟩
theorem ayD:qU Tryz.prog 39=some ai3:=by kernel_rfl
def K2:TI:=⟨Kd.stru [(0,38)],1,24,Value.agg ⟨[Value.slice none 0 0]⟩⟩
theorem ajY:qU Tryz.prog 40=some K2:=by kernel_rfl
def afc:TI:=⟨Kd.stru [(0,4),(1,40)],2,32,Value.agg ⟨[Value.bool false,Value.slice none 0 0]⟩⟩
theorem ayo:qU Tryz.prog 41=some afc:=by kernel_rfl
def VB:TI:=⟨Kd.stru [(0,4),(1,40)],2,32,Value.agg ⟨[Value.bool false,Value.slice none 0 0]⟩⟩
theorem ai4:qU Tryz.prog 42=some VB:=by kernel_rfl
def ae9:TI:=⟨Kd.stru [(0,42),(2,3)],3,40,Value.agg ⟨[Value.bool false,Value.slice none 0 0,Value.int IntKind.i64 0]⟩⟩
theorem ayn:qU Tryz.prog 43=some ae9:=by kernel_rfl
def aeF:TI:=⟨Kd.stru [(0,42),(2,3)],3,40,Value.agg ⟨[Value.bool false,Value.slice none 0 0,Value.int IntKind.i64 0]⟩⟩
theorem ati:qU Tryz.prog 44=some aeF:=by kernel_rfl
def am2:TI:=⟨Kd.oth,1,8,Value.nilFunc⟩
theorem aBi:qU Tryz.prog 83=some am2:=by kernel_rfl
def abP:TI:=⟨Kd.sli 97,1,24,Value.slice none 0 0⟩
theorem am3:qU Tryz.prog 87=some abP:=by kernel_rfl
def ae2:TI:=⟨Kd.stru [(0,3),(1,87)],2,32,Value.agg ⟨[Value.int IntKind.i64 0,Value.slice none 0 0]⟩⟩
theorem aym:qU Tryz.prog 88=some ae2:=by kernel_rfl
def ae0:TI:=⟨Kd.stru [(0,3),(1,87)],2,32,Value.agg ⟨[Value.int IntKind.i64 0,Value.slice none 0 0]⟩⟩
theorem ayl:qU Tryz.prog 89=some ae0:=by kernel_rfl
def aeE:TI:=⟨Kd.stru [(0,4),(1,38),(2,3)],3,40,Value.agg ⟨[Value.bool false,Value.slice none 0 0,Value.int IntKind.i64 0]⟩⟩
theorem ath:qU Tryz.prog 96=some aeE:=by kernel_rfl
def acR:TI:=⟨Kd.stru [(0,4),(1,38),(2,3)],3,40,Value.agg ⟨[Value.bool false,Value.slice none 0 0,Value.int IntKind.i64 0]⟩⟩
theorem asI:qU Tryz.prog 97=some acR:=by kernel_rfl
def VD:TI:=⟨Kd.oth,1,8,Value.nilFunc⟩
theorem ayF:qU Tryz.prog 120=some VD:=by kernel_rfl
def Zm:TI:=⟨Kd.stru [(0,38)],1,24,Value.agg ⟨[Value.slice none 0 0]⟩⟩
theorem adg:qU Tryz.prog 133=some Zm:=by kernel_rfl
def QV:TI:=⟨Kd.stru [(0,4),(1,133)],2,32,Value.agg ⟨[Value.bool false,Value.slice none 0 0]⟩⟩
theorem aad:qU Tryz.prog 135=some QV:=by kernel_rfl
def Jd:TI:=⟨Kd.stru [(0,135),(2,3)],3,40,Value.agg ⟨[Value.bool false,Value.slice none 0 0,Value.int IntKind.i64 0]⟩⟩
theorem afx:qU Tryz.prog 137=some Jd:=by kernel_rfl
def VC:TI:=⟨Kd.int IntKind.u64,1,8,Value.int IntKind.u64 0⟩
theorem ayE:qU Tryz.prog 243=some VC:=by kernel_rfl
theorem ty3{K:TI→Prop}:@tyW Tryz.prog 3 ⟨K⟩=K ti3:=jo tf3
theorem atg:ti3.kd=Kd.int IntKind.i64:=ID rfl
theorem aou:ti3.kd.agg=false:=ID rfl
theorem ajz:ti3.size=1:=ID rfl
theorem afe:ti3.bytes=8:=ID rfl
theorem ate:QB ti3=True:=eq_true rfl
theorem atf:zc ti3=[.v (Value.int IntKind.i64 0)]:=ID rfl
theorem ty4{K:TI→Prop}:@tyW Tryz.prog 4 ⟨K⟩=K ti4:=jo tf4
theorem atd:ti4.kd=Kd.bool:=ID rfl
theorem aoe:ti4.kd.agg=false:=ID rfl
theorem ajt:ti4.size=1:=ID rfl
theorem ae6:ti4.bytes=1:=ID rfl
theorem atb:QB ti4=True:=eq_true rfl
theorem atc:zc ti4=[.v (Value.bool false)]:=ID rfl
theorem ty7{K:TI→Prop}:@tyW Tryz.prog 7 ⟨K⟩=K ti7:=jo tf7
theorem ata:ti7.kd=Kd.stru [(0,2),(1,3),(2,4),(3,6)]:=ID rfl
theorem aod:ti7.kd.agg=true:=ID rfl
theorem ajs:ti7.size=4:=ID rfl
theorem ae5:ti7.bytes=24:=ID rfl
theorem as8:QB ti7=True:=eq_true rfl
theorem as9:zc ti7=[.v (Value.int IntKind.i64 0),.v (Value.int IntKind.i64 0),.v (Value.bool false),.v (Value.int IntKind.u8 0)]:=ID rfl
theorem axj{K:Nat→TI→Prop}:@qR Tryz.prog 7 0 ⟨K⟩=K 0 ti2:=qD (ti:=ti7) (tf:=ti2) (fo:=(0,2)) (fs:=[(0,2),(1,3),(2,4),(3,6)]) tf7 rfl rfl tf2
theorem ayZ{K:Nat→Nat→Prop}:qA Tryz.prog [(0,2),(1,3),(2,4),(3,6)] 0 K=K 0 1:=qC (tf:=ti2) (fo:=(0,2)) (fs:=[(0,2),(1,3),(2,4),(3,6)]) rfl tf2
theorem axi{K:Nat→TI→Prop}:@qR Tryz.prog 7 1 ⟨K⟩=K 1 ti3:=qD (ti:=ti7) (tf:=ti3) (fo:=(1,3)) (fs:=[(0,2),(1,3),(2,4),(3,6)]) tf7 rfl rfl tf3
theorem ayY{K:Nat→Nat→Prop}:qA Tryz.prog [(0,2),(1,3),(2,4),(3,6)] 1 K=K 1 1:=qC (tf:=ti3) (fo:=(1,3)) (fs:=[(0,2),(1,3),(2,4),(3,6)]) rfl tf3
theorem axh{K:Nat→TI→Prop}:@qR Tryz.prog 7 2 ⟨K⟩=K 2 ti4:=qD (ti:=ti7) (tf:=ti4) (fo:=(2,4)) (fs:=[(0,2),(1,3),(2,4),(3,6)]) tf7 rfl rfl tf4
theorem ayX{K:Nat→Nat→Prop}:qA Tryz.prog [(0,2),(1,3),(2,4),(3,6)] 2 K=K 2 1:=qC (tf:=ti4) (fo:=(2,4)) (fs:=[(0,2),(1,3),(2,4),(3,6)]) rfl tf4
theorem axg{K:Nat→TI→Prop}:@qR Tryz.prog 7 3 ⟨K⟩=K 3 ti6:=qD (ti:=ti7) (tf:=ti6) (fo:=(3,6)) (fs:=[(0,2),(1,3),(2,4),(3,6)]) tf7 rfl rfl tf6
theorem ayW{K:Nat→Nat→Prop}:qA Tryz.prog [(0,2),(1,3),(2,4),(3,6)] 3 K=K 3 1:=qC (tf:=ti6) (fo:=(3,6)) (fs:=[(0,2),(1,3),(2,4),(3,6)]) rfl tf6
theorem azi:∀f∈([(0,2),(1,3),(2,4),(3,6)]:List (Nat×Nat)),(qU Tryz.prog f.2).isSome=true:=by
 intro f hf
 simp only[List.mem_cons,List.not_mem_nil,or_false]at hf
 rcases hf with rfl|rfl|rfl|rfl
 ·rw[tf2];rfl
 ·rw[tf3];rfl
 ·rw[tf4];rfl
 ·rw[tf6];rfl
theorem aBW{ps:List (Nat×AV)}{K:AV→Prop}:@z8 Tryz.prog 7 ps ⟨K⟩=@zR (qA Tryz.prog [(0,2),(1,3),(2,4),(3,6)]) (zc ti7) ps ⟨fun cs=>K (.ag cs)⟩:=zl tf7 rfl azi
theorem aBh{K:TI→Prop}:@tyW Tryz.prog 23 ⟨K⟩=K abQ:=jo am4
theorem aoP:abQ.kd=Kd.sli 44:=ID rfl
theorem ajJ:abQ.kd.agg=false:=ID rfl
theorem afq:abQ.size=1:=ID rfl
theorem ac9:abQ.bytes=24:=ID rfl
theorem aoN:QB abQ=True:=eq_true rfl
theorem aoO:zc abQ=[.v (Value.slice none 0 0)]:=ID rfl
theorem ayO{K:TI→Prop}:@QX Tryz.prog 23 ⟨K⟩=K aeF:=abS am4 rfl ati
theorem aBg{K:TI→Prop}:@tyW Tryz.prog 24 ⟨K⟩=K afp:=jo ayr
theorem aoM:afp.kd=Kd.stru [(0,3),(1,23)]:=ID rfl
theorem ajF:afp.kd.agg=true:=ID rfl
theorem afn:afp.size=2:=ID rfl
theorem ac7:afp.bytes=32:=ID rfl
theorem aoK:QB afp=True:=eq_true rfl
theorem aoL:zc afp=[.v (Value.int IntKind.i64 0),.v (Value.slice none 0 0)]:=ID rfl
theorem arm{K:Nat→TI→Prop}:@qR Tryz.prog 24 0 ⟨K⟩=K 0 ti3:=qD (ti:=afp) (tf:=ti3) (fo:=(0,3)) (fs:=[(0,3),(1,23)]) ayr rfl rfl tf3
theorem auo{K:Nat→Nat→Prop}:qA Tryz.prog [(0,3),(1,23)] 0 K=K 0 1:=qC (tf:=ti3) (fo:=(0,3)) (fs:=[(0,3),(1,23)]) rfl tf3
theorem arl{K:Nat→TI→Prop}:@qR Tryz.prog 24 1 ⟨K⟩=K 1 abQ:=qD (ti:=afp) (tf:=abQ) (fo:=(1,23)) (fs:=[(0,3),(1,23)]) ayr rfl rfl am4
theorem aun{K:Nat→Nat→Prop}:qA Tryz.prog [(0,3),(1,23)] 1 K=K 1 1:=qC (tf:=abQ) (fo:=(1,23)) (fs:=[(0,3),(1,23)]) rfl am4
theorem avh:∀f∈([(0,3),(1,23)]:List (Nat×Nat)),(qU Tryz.prog f.2).isSome=true:=by
 intro f hf
 simp only[List.mem_cons,List.not_mem_nil,or_false]at hf
 rcases hf with rfl|rfl
 ·rw[tf3];rfl
 ·rw[am4];rfl
theorem aAz{ps:List (Nat×AV)}{K:AV→Prop}:@z8 Tryz.prog 24 ps ⟨K⟩=@zR (qA Tryz.prog [(0,3),(1,23)]) (zc afp) ps ⟨fun cs=>K (.ag cs)⟩:=zl ayr rfl avh
theorem aBf{K:TI→Prop}:@tyW Tryz.prog 25 ⟨K⟩=K afm:=jo ayq
theorem aoJ:afm.kd=Kd.stru [(0,3),(1,23)]:=ID rfl
theorem ajE:afm.kd.agg=true:=ID rfl
theorem afl:afm.size=2:=ID rfl
theorem ac6:afm.bytes=32:=ID rfl
theorem aoH:QB afm=True:=eq_true rfl
theorem aoI:zc afm=[.v (Value.int IntKind.i64 0),.v (Value.slice none 0 0)]:=ID rfl
theorem ark{K:Nat→TI→Prop}:@qR Tryz.prog 25 0 ⟨K⟩=K 0 ti3:=qD (ti:=afm) (tf:=ti3) (fo:=(0,3)) (fs:=[(0,3),(1,23)]) ayq rfl rfl tf3
theorem aum{K:Nat→Nat→Prop}:qA Tryz.prog [(0,3),(1,23)] 0 K=K 0 1:=qC (tf:=ti3) (fo:=(0,3)) (fs:=[(0,3),(1,23)]) rfl tf3
theorem arj{K:Nat→TI→Prop}:@qR Tryz.prog 25 1 ⟨K⟩=K 1 abQ:=qD (ti:=afm) (tf:=abQ) (fo:=(1,23)) (fs:=[(0,3),(1,23)]) ayq rfl rfl am4
theorem aul{K:Nat→Nat→Prop}:qA Tryz.prog [(0,3),(1,23)] 1 K=K 1 1:=qC (tf:=abQ) (fo:=(1,23)) (fs:=[(0,3),(1,23)]) rfl am4
theorem avg:∀f∈([(0,3),(1,23)]:List (Nat×Nat)),(qU Tryz.prog f.2).isSome=true:=by
 intro f hf
 simp only[List.mem_cons,List.not_mem_nil,or_false]at hf
 rcases hf with rfl|rfl
 ·rw[tf3];rfl
 ·rw[am4];rfl
theorem aAy{ps:List (Nat×AV)}{K:AV→Prop}:@z8 Tryz.prog 25 ps ⟨K⟩=@zR (qA Tryz.prog [(0,3),(1,23)]) (zc afm) ps ⟨fun cs=>K (.ag cs)⟩:=zl ayq rfl avg
theorem aBe{K:TI→Prop}:@tyW Tryz.prog 34 ⟨K⟩=K afk:=jo atj
theorem aoG:afk.kd=Kd.sli 137:=ID rfl
theorem ajD:afk.kd.agg=false:=ID rfl
theorem afj:afk.size=1:=ID rfl
theorem ac5:afk.bytes=24:=ID rfl
theorem aoE:QB afk=True:=eq_true rfl
theorem aoF:zc afk=[.v (Value.slice none 0 0)]:=ID rfl
theorem ayN{K:TI→Prop}:@QX Tryz.prog 34 ⟨K⟩=K Jd:=abS atj rfl afx
theorem aBd{K:TI→Prop}:@tyW Tryz.prog 36 ⟨K⟩=K afi:=jo ayp
theorem aoD:afi.kd=Kd.stru [(0,3),(1,34)]:=ID rfl
theorem ajC:afi.kd.agg=true:=ID rfl
theorem afh:afi.size=2:=ID rfl
theorem ac4:afi.bytes=32:=ID rfl
theorem aoB:QB afi=True:=eq_true rfl
theorem aoC:zc afi=[.v (Value.int IntKind.i64 0),.v (Value.slice none 0 0)]:=ID rfl
theorem ari{K:Nat→TI→Prop}:@qR Tryz.prog 36 0 ⟨K⟩=K 0 ti3:=qD (ti:=afi) (tf:=ti3) (fo:=(0,3)) (fs:=[(0,3),(1,34)]) ayp rfl rfl tf3
theorem auk{K:Nat→Nat→Prop}:qA Tryz.prog [(0,3),(1,34)] 0 K=K 0 1:=qC (tf:=ti3) (fo:=(0,3)) (fs:=[(0,3),(1,34)]) rfl tf3
theorem arh{K:Nat→TI→Prop}:@qR Tryz.prog 36 1 ⟨K⟩=K 1 afk:=qD (ti:=afi) (tf:=afk) (fo:=(1,34)) (fs:=[(0,3),(1,34)]) ayp rfl rfl atj
theorem auj{K:Nat→Nat→Prop}:qA Tryz.prog [(0,3),(1,34)] 1 K=K 1 1:=qC (tf:=afk) (fo:=(1,34)) (fs:=[(0,3),(1,34)]) rfl atj
theorem avf:∀f∈([(0,3),(1,34)]:List (Nat×Nat)),(qU Tryz.prog f.2).isSome=true:=by
 intro f hf
 simp only[List.mem_cons,List.not_mem_nil,or_false]at hf
 rcases hf with rfl|rfl
 ·rw[tf3];rfl
 ·rw[atj];rfl
theorem aAx{ps:List (Nat×AV)}{K:AV→Prop}:@z8 Tryz.prog 36 ps ⟨K⟩=@zR (qA Tryz.prog [(0,3),(1,34)]) (zc afi) ps ⟨fun cs=>K (.ag cs)⟩:=zl ayp rfl avf
theorem aBc{K:TI→Prop}:@tyW Tryz.prog 38 ⟨K⟩=K JA:=jo VH
theorem aoA:JA.kd=Kd.sli 3:=ID rfl
theorem ajB:JA.kd.agg=false:=ID rfl
theorem afg:JA.size=1:=ID rfl
theorem ac3:JA.bytes=24:=ID rfl
theorem aoy:QB JA=True:=eq_true rfl
theorem aoz:zc JA=[.v (Value.slice none 0 0)]:=ID rfl
theorem ayM{K:TI→Prop}:@QX Tryz.prog 38 ⟨K⟩=K ti3:=abS VH rfl tf3
theorem aBb{K:TI→Prop}:@tyW Tryz.prog 39 ⟨K⟩=K ai3:=jo ayD
theorem aox:ai3.kd=Kd.stru [(0,38)]:=ID rfl
theorem ajA:ai3.kd.agg=true:=ID rfl
theorem aff:ai3.size=1:=ID rfl
theorem ac2:ai3.bytes=24:=ID rfl
theorem aov:QB ai3=True:=eq_true rfl
theorem aow:zc ai3=[.v (Value.slice none 0 0)]:=ID rfl
theorem arg{K:Nat→TI→Prop}:@qR Tryz.prog 39 0 ⟨K⟩=K 0 JA:=qD (ti:=ai3) (tf:=JA) (fo:=(0,38)) (fs:=[(0,38)]) ayD rfl rfl VH
theorem aui{K:Nat→Nat→Prop}:qA Tryz.prog [(0,38)] 0 K=K 0 1:=qC (tf:=JA) (fo:=(0,38)) (fs:=[(0,38)]) rfl VH
theorem ave:∀f∈([(0,38)]:List (Nat×Nat)),(qU Tryz.prog f.2).isSome=true:=by
 intro f hf
 simp only[List.mem_cons,List.not_mem_nil,or_false]at hf
 subst hf;rw[VH];rfl
theorem aAw{ps:List (Nat×AV)}{K:AV→Prop}:@z8 Tryz.prog 39 ps ⟨K⟩=@zR (qA Tryz.prog [(0,38)]) (zc ai3) ps ⟨fun cs=>K (.ag cs)⟩:=zl ayD rfl ave
theorem aBa{K:TI→Prop}:@tyW Tryz.prog 40 ⟨K⟩=K K2:=jo ajY
theorem aot:K2.kd=Kd.stru [(0,38)]:=ID rfl
theorem ajy:K2.kd.agg=true:=ID rfl
theorem afd:K2.size=1:=ID rfl
theorem ac1:K2.bytes=24:=ID rfl
theorem aor:QB K2=True:=eq_true rfl
theorem aos:zc K2=[.v (Value.slice none 0 0)]:=ID rfl
theorem arf{K:Nat→TI→Prop}:@qR Tryz.prog 40 0 ⟨K⟩=K 0 JA:=qD (ti:=K2) (tf:=JA) (fo:=(0,38)) (fs:=[(0,38)]) ajY rfl rfl VH
theorem auh{K:Nat→Nat→Prop}:qA Tryz.prog [(0,38)] 0 K=K 0 1:=qC (tf:=JA) (fo:=(0,38)) (fs:=[(0,38)]) rfl VH
theorem avd:∀f∈([(0,38)]:List (Nat×Nat)),(qU Tryz.prog f.2).isSome=true:=by
 intro f hf
 simp only[List.mem_cons,List.not_mem_nil,or_false]at hf
 subst hf;rw[VH];rfl
theorem aAv{ps:List (Nat×AV)}{K:AV→Prop}:@z8 Tryz.prog 40 ps ⟨K⟩=@zR (qA Tryz.prog [(0,38)]) (zc K2) ps ⟨fun cs=>K (.ag cs)⟩:=zl ajY rfl avd
theorem aA9{K:TI→Prop}:@tyW Tryz.prog 41 ⟨K⟩=K afc:=jo ayo
theorem aoq:afc.kd=Kd.stru [(0,4),(1,40)]:=ID rfl
theorem ajx:afc.kd.agg=true:=ID rfl
theorem afb:afc.size=2:=ID rfl
theorem ac0:afc.bytes=32:=ID rfl
theorem aoo:QB afc=True:=eq_true rfl
theorem aop:zc afc=[.v (Value.bool false),.v (Value.slice none 0 0)]:=ID rfl
theorem ard{K:Nat→TI→Prop}:@qR Tryz.prog 41 0 ⟨K⟩=K 0 ti4:=qD (ti:=afc) (tf:=ti4) (fo:=(0,4)) (fs:=[(0,4),(1,40)]) ayo rfl rfl tf4
theorem aug{K:Nat→Nat→Prop}:qA Tryz.prog [(0,4),(1,40)] 0 K=K 0 1:=qC (tf:=ti4) (fo:=(0,4)) (fs:=[(0,4),(1,40)]) rfl tf4
theorem arc{K:Nat→TI→Prop}:@qR Tryz.prog 41 1 ⟨K⟩=K 1 K2:=qD (ti:=afc) (tf:=K2) (fo:=(1,40)) (fs:=[(0,4),(1,40)]) ayo rfl rfl ajY
theorem auf{K:Nat→Nat→Prop}:qA Tryz.prog [(0,4),(1,40)] 1 K=K 1 1:=qC (tf:=K2) (fo:=(1,40)) (fs:=[(0,4),(1,40)]) rfl ajY
theorem avc:∀f∈([(0,4),(1,40)]:List (Nat×Nat)),(qU Tryz.prog f.2).isSome=true:=by
 intro f hf
 simp only[List.mem_cons,List.not_mem_nil,or_false]at hf
 rcases hf with rfl|rfl
 ·rw[tf4];rfl
 ·rw[ajY];rfl
theorem aAu{ps:List (Nat×AV)}{K:AV→Prop}:@z8 Tryz.prog 41 ps ⟨K⟩=@zR (qA Tryz.prog [(0,4),(1,40)]) (zc afc) ps ⟨fun cs=>K (.ag cs)⟩:=zl ayo rfl avc
theorem aA8{K:TI→Prop}:@tyW Tryz.prog 42 ⟨K⟩=K VB:=jo ai4
theorem aon:VB.kd=Kd.stru [(0,4),(1,40)]:=ID rfl
theorem ajw:VB.kd.agg=true:=ID rfl
theorem afa:VB.size=2:=ID rfl
theorem acZ:VB.bytes=32:=ID rfl
theorem aol:QB VB=True:=eq_true rfl
theorem aom:zc VB=[.v (Value.bool false),.v (Value.slice none 0 0)]:=ID rfl
theorem arb{K:Nat→TI→Prop}:@qR Tryz.prog 42 0 ⟨K⟩=K 0 ti4:=qD (ti:=VB) (tf:=ti4) (fo:=(0,4)) (fs:=[(0,4),(1,40)]) ai4 rfl rfl tf4
theorem aue{K:Nat→Nat→Prop}:qA Tryz.prog [(0,4),(1,40)] 0 K=K 0 1:=qC (tf:=ti4) (fo:=(0,4)) (fs:=[(0,4),(1,40)]) rfl tf4
theorem ara{K:Nat→TI→Prop}:@qR Tryz.prog 42 1 ⟨K⟩=K 1 K2:=qD (ti:=VB) (tf:=K2) (fo:=(1,40)) (fs:=[(0,4),(1,40)]) ai4 rfl rfl ajY
theorem aud{K:Nat→Nat→Prop}:qA Tryz.prog [(0,4),(1,40)] 1 K=K 1 1:=qC (tf:=K2) (fo:=(1,40)) (fs:=[(0,4),(1,40)]) rfl ajY
theorem avb:∀f∈([(0,4),(1,40)]:List (Nat×Nat)),(qU Tryz.prog f.2).isSome=true:=by
 intro f hf
 simp only[List.mem_cons,List.not_mem_nil,or_false]at hf
 rcases hf with rfl|rfl
 ·rw[tf4];rfl
 ·rw[ajY];rfl
theorem aAt{ps:List (Nat×AV)}{K:AV→Prop}:@z8 Tryz.prog 42 ps ⟨K⟩=@zR (qA Tryz.prog [(0,4),(1,40)]) (zc VB) ps ⟨fun cs=>K (.ag cs)⟩:=zl ai4 rfl avb
theorem aA7{K:TI→Prop}:@tyW Tryz.prog 43 ⟨K⟩=K ae9:=jo ayn
theorem aok:ae9.kd=Kd.stru [(0,42),(2,3)]:=ID rfl
theorem ajv:ae9.kd.agg=true:=ID rfl
theorem ae8:ae9.size=3:=ID rfl
theorem acY:ae9.bytes=40:=ID rfl
theorem aoi:QB ae9=True:=eq_true rfl
theorem aoj:zc ae9=[.v (Value.bool false),.v (Value.slice none 0 0),.v (Value.int IntKind.i64 0)]:=ID rfl
theorem aq9{K:Nat→TI→Prop}:@qR Tryz.prog 43 0 ⟨K⟩=K 0 VB:=qD (ti:=ae9) (tf:=VB) (fo:=(0,42)) (fs:=[(0,42),(2,3)]) ayn rfl rfl ai4
theorem auc{K:Nat→Nat→Prop}:qA Tryz.prog [(0,42),(2,3)] 0 K=K 0 2:=qC (tf:=VB) (fo:=(0,42)) (fs:=[(0,42),(2,3)]) rfl ai4
theorem aq8{K:Nat→TI→Prop}:@qR Tryz.prog 43 1 ⟨K⟩=K 2 ti3:=qD (ti:=ae9) (tf:=ti3) (fo:=(2,3)) (fs:=[(0,42),(2,3)]) ayn rfl rfl tf3
theorem aub{K:Nat→Nat→Prop}:qA Tryz.prog [(0,42),(2,3)] 1 K=K 2 1:=qC (tf:=ti3) (fo:=(2,3)) (fs:=[(0,42),(2,3)]) rfl tf3
theorem ava:∀f∈([(0,42),(2,3)]:List (Nat×Nat)),(qU Tryz.prog f.2).isSome=true:=by
 intro f hf
 simp only[List.mem_cons,List.not_mem_nil,or_false]at hf
 rcases hf with rfl|rfl
 ·rw[ai4];rfl
 ·rw[tf3];rfl
theorem aAs{ps:List (Nat×AV)}{K:AV→Prop}:@z8 Tryz.prog 43 ps ⟨K⟩=@zR (qA Tryz.prog [(0,42),(2,3)]) (zc ae9) ps ⟨fun cs=>K (.ag cs)⟩:=zl ayn rfl ava
theorem aA6{K:TI→Prop}:@tyW Tryz.prog 44 ⟨K⟩=K aeF:=jo ati
theorem aoh:aeF.kd=Kd.stru [(0,42),(2,3)]:=ID rfl
theorem aju:aeF.kd.agg=true:=ID rfl
theorem ae7:aeF.size=3:=ID rfl
theorem acX:aeF.bytes=40:=ID rfl
theorem aof:QB aeF=True:=eq_true rfl
theorem aog:zc aeF=[.v (Value.bool false),.v (Value.slice none 0 0),.v (Value.int IntKind.i64 0)]:=ID rfl
theorem aq7{K:Nat→TI→Prop}:@qR Tryz.prog 44 0 ⟨K⟩=K 0 VB:=qD (ti:=aeF) (tf:=VB) (fo:=(0,42)) (fs:=[(0,42),(2,3)]) ati rfl rfl ai4
theorem aua{K:Nat→Nat→Prop}:qA Tryz.prog [(0,42),(2,3)] 0 K=K 0 2:=qC (tf:=VB) (fo:=(0,42)) (fs:=[(0,42),(2,3)]) rfl ai4
theorem aq6{K:Nat→TI→Prop}:@qR Tryz.prog 44 1 ⟨K⟩=K 2 ti3:=qD (ti:=aeF) (tf:=ti3) (fo:=(2,3)) (fs:=[(0,42),(2,3)]) ati rfl rfl tf3
theorem at9{K:Nat→Nat→Prop}:qA Tryz.prog [(0,42),(2,3)] 1 K=K 2 1:=qC (tf:=ti3) (fo:=(2,3)) (fs:=[(0,42),(2,3)]) rfl tf3
theorem au9:∀f∈([(0,42),(2,3)]:List (Nat×Nat)),(qU Tryz.prog f.2).isSome=true:=by
 intro f hf
 simp only[List.mem_cons,List.not_mem_nil,or_false]at hf
 rcases hf with rfl|rfl
 ·rw[ai4];rfl
 ·rw[tf3];rfl
theorem aAr{ps:List (Nat×AV)}{K:AV→Prop}:@z8 Tryz.prog 44 ps ⟨K⟩=@zR (qA Tryz.prog [(0,42),(2,3)]) (zc aeF) ps ⟨fun cs=>K (.ag cs)⟩:=zl ati rfl au9
theorem aA5{K:TI→Prop}:@tyW Tryz.prog 83 ⟨K⟩=K am2:=jo aBi
theorem aoc:am2.kd=Kd.oth:=ID rfl
theorem ajr:am2.kd.agg=false:=ID rfl
theorem ae4:am2.size=1:=ID rfl
theorem acW:am2.bytes=8:=ID rfl
theorem aoa:QB am2=True:=eq_true rfl
theorem aob:zc am2=[.v Value.nilFunc]:=ID rfl
theorem aA4{K:TI→Prop}:@tyW Tryz.prog 87 ⟨K⟩=K abP:=jo am3
theorem an9:abP.kd=Kd.sli 97:=ID rfl
theorem ajq:abP.kd.agg=false:=ID rfl
theorem ae3:abP.size=1:=ID rfl
theorem acV:abP.bytes=24:=ID rfl
theorem an7:QB abP=True:=eq_true rfl
theorem an8:zc abP=[.v (Value.slice none 0 0)]:=ID rfl
theorem ayL{K:TI→Prop}:@QX Tryz.prog 87 ⟨K⟩=K acR:=abS am3 rfl asI
theorem aA3{K:TI→Prop}:@tyW Tryz.prog 88 ⟨K⟩=K ae2:=jo aym
theorem an6:ae2.kd=Kd.stru [(0,3),(1,87)]:=ID rfl
theorem ajp:ae2.kd.agg=true:=ID rfl
theorem ae1:ae2.size=2:=ID rfl
theorem acU:ae2.bytes=32:=ID rfl
theorem an4:QB ae2=True:=eq_true rfl
theorem an5:zc ae2=[.v (Value.int IntKind.i64 0),.v (Value.slice none 0 0)]:=ID rfl
theorem aq5{K:Nat→TI→Prop}:@qR Tryz.prog 88 0 ⟨K⟩=K 0 ti3:=qD (ti:=ae2) (tf:=ti3) (fo:=(0,3)) (fs:=[(0,3),(1,87)]) aym rfl rfl tf3
theorem at8{K:Nat→Nat→Prop}:qA Tryz.prog [(0,3),(1,87)] 0 K=K 0 1:=qC (tf:=ti3) (fo:=(0,3)) (fs:=[(0,3),(1,87)]) rfl tf3
theorem aq4{K:Nat→TI→Prop}:@qR Tryz.prog 88 1 ⟨K⟩=K 1 abP:=qD (ti:=ae2) (tf:=abP) (fo:=(1,87)) (fs:=[(0,3),(1,87)]) aym rfl rfl am3
theorem at7{K:Nat→Nat→Prop}:qA Tryz.prog [(0,3),(1,87)] 1 K=K 1 1:=qC (tf:=abP) (fo:=(1,87)) (fs:=[(0,3),(1,87)]) rfl am3
theorem au8:∀f∈([(0,3),(1,87)]:List (Nat×Nat)),(qU Tryz.prog f.2).isSome=true:=by
 intro f hf
 simp only[List.mem_cons,List.not_mem_nil,or_false]at hf
 rcases hf with rfl|rfl
 ·rw[tf3];rfl
 ·rw[am3];rfl
theorem aAq{ps:List (Nat×AV)}{K:AV→Prop}:@z8 Tryz.prog 88 ps ⟨K⟩=@zR (qA Tryz.prog [(0,3),(1,87)]) (zc ae2) ps ⟨fun cs=>K (.ag cs)⟩:=zl aym rfl au8
theorem aA2{K:TI→Prop}:@tyW Tryz.prog 89 ⟨K⟩=K ae0:=jo ayl
theorem an3:ae0.kd=Kd.stru [(0,3),(1,87)]:=ID rfl
theorem ajo:ae0.kd.agg=true:=ID rfl
theorem aeZ:ae0.size=2:=ID rfl
theorem acT:ae0.bytes=32:=ID rfl
theorem an1:QB ae0=True:=eq_true rfl
theorem an2:zc ae0=[.v (Value.int IntKind.i64 0),.v (Value.slice none 0 0)]:=ID rfl
theorem aq3{K:Nat→TI→Prop}:@qR Tryz.prog 89 0 ⟨K⟩=K 0 ti3:=qD (ti:=ae0) (tf:=ti3) (fo:=(0,3)) (fs:=[(0,3),(1,87)]) ayl rfl rfl tf3
theorem at6{K:Nat→Nat→Prop}:qA Tryz.prog [(0,3),(1,87)] 0 K=K 0 1:=qC (tf:=ti3) (fo:=(0,3)) (fs:=[(0,3),(1,87)]) rfl tf3
theorem aq2{K:Nat→TI→Prop}:@qR Tryz.prog 89 1 ⟨K⟩=K 1 abP:=qD (ti:=ae0) (tf:=abP) (fo:=(1,87)) (fs:=[(0,3),(1,87)]) ayl rfl rfl am3
theorem at5{K:Nat→Nat→Prop}:qA Tryz.prog [(0,3),(1,87)] 1 K=K 1 1:=qC (tf:=abP) (fo:=(1,87)) (fs:=[(0,3),(1,87)]) rfl am3
theorem au7:∀f∈([(0,3),(1,87)]:List (Nat×Nat)),(qU Tryz.prog f.2).isSome=true:=by
 intro f hf
 simp only[List.mem_cons,List.not_mem_nil,or_false]at hf
 rcases hf with rfl|rfl
 ·rw[tf3];rfl
 ·rw[am3];rfl
theorem aAp{ps:List (Nat×AV)}{K:AV→Prop}:@z8 Tryz.prog 89 ps ⟨K⟩=@zR (qA Tryz.prog [(0,3),(1,87)]) (zc ae0) ps ⟨fun cs=>K (.ag cs)⟩:=zl ayl rfl au7
theorem aA1{K:TI→Prop}:@tyW Tryz.prog 96 ⟨K⟩=K aeE:=jo ath
theorem an0:aeE.kd=Kd.stru [(0,4),(1,38),(2,3)]:=ID rfl
theorem ajn:aeE.kd.agg=true:=ID rfl
theorem aeY:aeE.size=3:=ID rfl
theorem acS:aeE.bytes=40:=ID rfl
theorem anY:QB aeE=True:=eq_true rfl
theorem anZ:zc aeE=[.v (Value.bool false),.v (Value.slice none 0 0),.v (Value.int IntKind.i64 0)]:=ID rfl
theorem aq1{K:Nat→TI→Prop}:@qR Tryz.prog 96 0 ⟨K⟩=K 0 ti4:=qD (ti:=aeE) (tf:=ti4) (fo:=(0,4)) (fs:=[(0,4),(1,38),(2,3)]) ath rfl rfl tf4
theorem at4{K:Nat→Nat→Prop}:qA Tryz.prog [(0,4),(1,38),(2,3)] 0 K=K 0 1:=qC (tf:=ti4) (fo:=(0,4)) (fs:=[(0,4),(1,38),(2,3)]) rfl tf4
theorem aq0{K:Nat→TI→Prop}:@qR Tryz.prog 96 1 ⟨K⟩=K 1 JA:=qD (ti:=aeE) (tf:=JA) (fo:=(1,38)) (fs:=[(0,4),(1,38),(2,3)]) ath rfl rfl VH
theorem at3{K:Nat→Nat→Prop}:qA Tryz.prog [(0,4),(1,38),(2,3)] 1 K=K 1 1:=qC (tf:=JA) (fo:=(1,38)) (fs:=[(0,4),(1,38),(2,3)]) rfl VH
theorem aqZ{K:Nat→TI→Prop}:@qR Tryz.prog 96 2 ⟨K⟩=K 2 ti3:=qD (ti:=aeE) (tf:=ti3) (fo:=(2,3)) (fs:=[(0,4),(1,38),(2,3)]) ath rfl rfl tf3
theorem at2{K:Nat→Nat→Prop}:qA Tryz.prog [(0,4),(1,38),(2,3)] 2 K=K 2 1:=qC (tf:=ti3) (fo:=(2,3)) (fs:=[(0,4),(1,38),(2,3)]) rfl tf3
theorem au6:∀f∈([(0,4),(1,38),(2,3)]:List (Nat×Nat)),(qU Tryz.prog f.2).isSome=true:=by
 intro f hf
 simp only[List.mem_cons,List.not_mem_nil,or_false]at hf
 rcases hf with rfl|rfl|rfl
 ·rw[tf4];rfl
 ·rw[VH];rfl
 ·rw[tf3];rfl
theorem aAo{ps:List (Nat×AV)}{K:AV→Prop}:@z8 Tryz.prog 96 ps ⟨K⟩=@zR (qA Tryz.prog [(0,4),(1,38),(2,3)]) (zc aeE) ps ⟨fun cs=>K (.ag cs)⟩:=zl ath rfl au6
theorem aA0{K:TI→Prop}:@tyW Tryz.prog 97 ⟨K⟩=K acR:=jo asI
theorem anX:acR.kd=Kd.stru [(0,4),(1,38),(2,3)]:=ID rfl
theorem ajm:acR.kd.agg=true:=ID rfl
theorem aeX:acR.size=3:=ID rfl
theorem acQ:acR.bytes=40:=ID rfl
theorem anV:QB acR=True:=eq_true rfl
theorem anW:zc acR=[.v (Value.bool false),.v (Value.slice none 0 0),.v (Value.int IntKind.i64 0)]:=ID rfl
theorem aqY{K:Nat→TI→Prop}:@qR Tryz.prog 97 0 ⟨K⟩=K 0 ti4:=qD (ti:=acR) (tf:=ti4) (fo:=(0,4)) (fs:=[(0,4),(1,38),(2,3)]) asI rfl rfl tf4
theorem at1{K:Nat→Nat→Prop}:qA Tryz.prog [(0,4),(1,38),(2,3)] 0 K=K 0 1:=qC (tf:=ti4) (fo:=(0,4)) (fs:=[(0,4),(1,38),(2,3)]) rfl tf4
theorem aqX{K:Nat→TI→Prop}:@qR Tryz.prog 97 1 ⟨K⟩=K 1 JA:=qD (ti:=acR) (tf:=JA) (fo:=(1,38)) (fs:=[(0,4),(1,38),(2,3)]) asI rfl rfl VH
theorem at0{K:Nat→Nat→Prop}:qA Tryz.prog [(0,4),(1,38),(2,3)] 1 K=K 1 1:=qC (tf:=JA) (fo:=(1,38)) (fs:=[(0,4),(1,38),(2,3)]) rfl VH
theorem aqW{K:Nat→TI→Prop}:@qR Tryz.prog 97 2 ⟨K⟩=K 2 ti3:=qD (ti:=acR) (tf:=ti3) (fo:=(2,3)) (fs:=[(0,4),(1,38),(2,3)]) asI rfl rfl tf3
theorem atZ{K:Nat→Nat→Prop}:qA Tryz.prog [(0,4),(1,38),(2,3)] 2 K=K 2 1:=qC (tf:=ti3) (fo:=(2,3)) (fs:=[(0,4),(1,38),(2,3)]) rfl tf3
theorem au5:∀f∈([(0,4),(1,38),(2,3)]:List (Nat×Nat)),(qU Tryz.prog f.2).isSome=true:=by
 intro f hf
 simp only[List.mem_cons,List.not_mem_nil,or_false]at hf
 rcases hf with rfl|rfl|rfl
 ·rw[tf4];rfl
 ·rw[VH];rfl
 ·rw[tf3];rfl
theorem aAn{ps:List (Nat×AV)}{K:AV→Prop}:@z8 Tryz.prog 97 ps ⟨K⟩=@zR (qA Tryz.prog [(0,4),(1,38),(2,3)]) (zc acR) ps ⟨fun cs=>K (.ag cs)⟩:=zl asI rfl au5
theorem ayC{K:TI→Prop}:@tyW Tryz.prog 120 ⟨K⟩=K VD:=jo ayF
theorem ajV:VD.kd=Kd.oth:=ID rfl
theorem afu:VD.kd.agg=false:=ID rfl
theorem ade:VD.size=1:=ID rfl
theorem aab:VD.bytes=8:=ID rfl
theorem ajT:QB VD=True:=eq_true rfl
theorem ajU:zc VD=[.v Value.nilFunc]:=ID rfl
theorem ayB{K:TI→Prop}:@tyW Tryz.prog 133 ⟨K⟩=K Zm:=jo adg
theorem ajS:Zm.kd=Kd.stru [(0,38)]:=ID rfl
theorem aft:Zm.kd.agg=true:=ID rfl
theorem adc:Zm.size=1:=ID rfl
theorem aaa:Zm.bytes=24:=ID rfl
theorem ajQ:QB Zm=True:=eq_true rfl
theorem ajR:zc Zm=[.v (Value.slice none 0 0)]:=ID rfl
theorem alT{K:Nat→TI→Prop}:@qR Tryz.prog 133 0 ⟨K⟩=K 0 JA:=qD (ti:=Zm) (tf:=JA) (fo:=(0,38)) (fs:=[(0,38)]) adg rfl rfl VH
theorem apA{K:Nat→Nat→Prop}:qA Tryz.prog [(0,38)] 0 K=K 0 1:=qC (tf:=JA) (fo:=(0,38)) (fs:=[(0,38)]) rfl VH
theorem aqQ:∀f∈([(0,38)]:List (Nat×Nat)),(qU Tryz.prog f.2).isSome=true:=by
 intro f hf
 simp only[List.mem_cons,List.not_mem_nil,or_false]at hf
 subst hf;rw[VH];rfl
theorem axT{ps:List (Nat×AV)}{K:AV→Prop}:@z8 Tryz.prog 133 ps ⟨K⟩=@zR (qA Tryz.prog [(0,38)]) (zc Zm) ps ⟨fun cs=>K (.ag cs)⟩:=zl adg rfl aqQ
theorem ayA{K:TI→Prop}:@tyW Tryz.prog 135 ⟨K⟩=K QV:=jo aad
theorem ajP:QV.kd=Kd.stru [(0,4),(1,133)]:=ID rfl
theorem afs:QV.kd.agg=true:=ID rfl
theorem adb:QV.size=2:=ID rfl
theorem K9:QV.bytes=32:=ID rfl
theorem ajN:QB QV=True:=eq_true rfl
theorem ajO:zc QV=[.v (Value.bool false),.v (Value.slice none 0 0)]:=ID rfl
theorem alS{K:Nat→TI→Prop}:@qR Tryz.prog 135 0 ⟨K⟩=K 0 ti4:=qD (ti:=QV) (tf:=ti4) (fo:=(0,4)) (fs:=[(0,4),(1,133)]) aad rfl rfl tf4
theorem apz{K:Nat→Nat→Prop}:qA Tryz.prog [(0,4),(1,133)] 0 K=K 0 1:=qC (tf:=ti4) (fo:=(0,4)) (fs:=[(0,4),(1,133)]) rfl tf4
theorem alR{K:Nat→TI→Prop}:@qR Tryz.prog 135 1 ⟨K⟩=K 1 Zm:=qD (ti:=QV) (tf:=Zm) (fo:=(1,133)) (fs:=[(0,4),(1,133)]) aad rfl rfl adg
theorem apy{K:Nat→Nat→Prop}:qA Tryz.prog [(0,4),(1,133)] 1 K=K 1 1:=qC (tf:=Zm) (fo:=(1,133)) (fs:=[(0,4),(1,133)]) rfl adg
theorem aqP:∀f∈([(0,4),(1,133)]:List (Nat×Nat)),(qU Tryz.prog f.2).isSome=true:=by
 intro f hf
 simp only[List.mem_cons,List.not_mem_nil,or_false]at hf
 rcases hf with rfl|rfl
 ·rw[tf4];rfl
 ·rw[adg];rfl
theorem axS{ps:List (Nat×AV)}{K:AV→Prop}:@z8 Tryz.prog 135 ps ⟨K⟩=@zR (qA Tryz.prog [(0,4),(1,133)]) (zc QV) ps ⟨fun cs=>K (.ag cs)⟩:=zl aad rfl aqP
theorem ayz{K:TI→Prop}:@tyW Tryz.prog 137 ⟨K⟩=K Jd:=jo afx
theorem ajM:Jd.kd=Kd.stru [(0,135),(2,3)]:=ID rfl
theorem afr:Jd.kd.agg=true:=ID rfl
theorem ada:Jd.size=3:=ID rfl
theorem K8:Jd.bytes=40:=ID rfl
theorem ajK:QB Jd=True:=eq_true rfl
theorem ajL:zc Jd=[.v (Value.bool false),.v (Value.slice none 0 0),.v (Value.int IntKind.i64 0)]:=ID rfl
theorem alQ{K:Nat→TI→Prop}:@qR Tryz.prog 137 0 ⟨K⟩=K 0 QV:=qD (ti:=Jd) (tf:=QV) (fo:=(0,135)) (fs:=[(0,135),(2,3)]) afx rfl rfl aad
theorem apx{K:Nat→Nat→Prop}:qA Tryz.prog [(0,135),(2,3)] 0 K=K 0 2:=qC (tf:=QV) (fo:=(0,135)) (fs:=[(0,135),(2,3)]) rfl aad
theorem alP{K:Nat→TI→Prop}:@qR Tryz.prog 137 1 ⟨K⟩=K 2 ti3:=qD (ti:=Jd) (tf:=ti3) (fo:=(2,3)) (fs:=[(0,135),(2,3)]) afx rfl rfl tf3
theorem apw{K:Nat→Nat→Prop}:qA Tryz.prog [(0,135),(2,3)] 1 K=K 2 1:=qC (tf:=ti3) (fo:=(2,3)) (fs:=[(0,135),(2,3)]) rfl tf3
theorem aqO:∀f∈([(0,135),(2,3)]:List (Nat×Nat)),(qU Tryz.prog f.2).isSome=true:=by
 intro f hf
 simp only[List.mem_cons,List.not_mem_nil,or_false]at hf
 rcases hf with rfl|rfl
 ·rw[aad];rfl
 ·rw[tf3];rfl
theorem axR{ps:List (Nat×AV)}{K:AV→Prop}:@z8 Tryz.prog 137 ps ⟨K⟩=@zR (qA Tryz.prog [(0,135),(2,3)]) (zc Jd) ps ⟨fun cs=>K (.ag cs)⟩:=zl afx rfl aqO
theorem ayy{K:TI→Prop}:@tyW Tryz.prog 243 ⟨K⟩=K VC:=jo ayE
theorem ajI:VC.kd=Kd.int IntKind.u64:=ID rfl
theorem afo:VC.kd.agg=false:=ID rfl
theorem ac8:VC.size=1:=ID rfl
theorem K7:VC.bytes=8:=ID rfl
theorem ajG:QB VC=True:=eq_true rfl
theorem ajH:zc VC=[.v (Value.int IntKind.u64 0)]:=ID rfl
theorem az9:qy Tryz.prog 10=True:=eq_true ⟨_,Tryz.func10,of_decide_eq_false (by kernel_rfl),rfl⟩
theorem az8:qy Tryz.prog 13=True:=eq_true ⟨_,Tryz.func13,of_decide_eq_false (by kernel_rfl),rfl⟩
theorem az7:qy Tryz.prog 14=True:=eq_true ⟨_,Tryz.func14,of_decide_eq_false (by kernel_rfl),rfl⟩
theorem az6:qy Tryz.prog 15=True:=eq_true ⟨_,Tryz.func15,of_decide_eq_false (by kernel_rfl),rfl⟩
theorem az5:qy Tryz.prog 16=True:=eq_true ⟨_,Tryz.func16,of_decide_eq_false (by kernel_rfl),rfl⟩
theorem az4:qy Tryz.prog 17=True:=eq_true ⟨_,Tryz.func17,of_decide_eq_false (by kernel_rfl),rfl⟩
theorem az3:qy Tryz.prog 18=True:=eq_true ⟨_,Tryz.func18,of_decide_eq_false (by kernel_rfl),rfl⟩
theorem az2:qy Tryz.prog 19=True:=eq_true ⟨_,Tryz.func19,of_decide_eq_false (by kernel_rfl),rfl⟩
theorem az1:qy Tryz.prog 20=True:=eq_true ⟨_,Tryz.func20,of_decide_eq_false (by kernel_rfl),rfl⟩
theorem az0:qy Tryz.prog 21=True:=eq_true ⟨_,Tryz.func21,of_decide_eq_false (by kernel_rfl),rfl⟩
theorem azZ:qy Tryz.prog 32=True:=eq_true ⟨_,Tryz.func32,of_decide_eq_false (by kernel_rfl),rfl⟩
theorem azY:qy Tryz.prog 36=True:=eq_true ⟨_,Tryz.func36,of_decide_eq_false (by kernel_rfl),rfl⟩
theorem azX:qy Tryz.prog 37=True:=eq_true ⟨_,Tryz.func37,of_decide_eq_false (by kernel_rfl),rfl⟩
theorem azW:qy Tryz.prog 38=True:=eq_true ⟨_,Tryz.func38,of_decide_eq_false (by kernel_rfl),rfl⟩
theorem azV:qy Tryz.prog 39=True:=eq_true ⟨_,Tryz.func39,of_decide_eq_false (by kernel_rfl),rfl⟩
theorem azU:qy Tryz.prog 40=True:=eq_true ⟨_,Tryz.func40,of_decide_eq_false (by kernel_rfl),rfl⟩
theorem azT:qy Tryz.prog 41=True:=eq_true ⟨_,Tryz.func41,of_decide_eq_false (by kernel_rfl),rfl⟩
theorem azS:qy Tryz.prog 42=True:=eq_true ⟨_,Tryz.func42,of_decide_eq_false (by kernel_rfl),rfl⟩
theorem azR:qy Tryz.prog 43=True:=eq_true ⟨_,Tryz.func43,of_decide_eq_false (by kernel_rfl),rfl⟩
theorem azQ:qy Tryz.prog 44=True:=eq_true ⟨_,Tryz.func44,of_decide_eq_false (by kernel_rfl),rfl⟩
theorem azP:qy Tryz.prog 45=True:=eq_true ⟨_,Tryz.func45,of_decide_eq_false (by kernel_rfl),rfl⟩
theorem azO:qy Tryz.prog 46=True:=eq_true ⟨_,Tryz.func46,of_decide_eq_false (by kernel_rfl),rfl⟩
theorem azN:qy Tryz.prog 47=True:=eq_true ⟨_,Tryz.func47,of_decide_eq_false (by kernel_rfl),rfl⟩
theorem azM:qy Tryz.prog 48=True:=eq_true ⟨_,Tryz.func48,of_decide_eq_false (by kernel_rfl),rfl⟩
theorem azL:qy Tryz.prog 49=True:=eq_true ⟨_,Tryz.func49,of_decide_eq_false (by kernel_rfl),rfl⟩
theorem azK:qy Tryz.prog 50=True:=eq_true ⟨_,Tryz.func50,of_decide_eq_false (by kernel_rfl),rfl⟩
theorem azJ:qy Tryz.prog 51=True:=eq_true ⟨_,Tryz.func51,of_decide_eq_false (by kernel_rfl),rfl⟩
theorem azI:qy Tryz.prog 52=True:=eq_true ⟨_,Tryz.func52,of_decide_eq_false (by kernel_rfl),rfl⟩
theorem azH:qy Tryz.prog 53=True:=eq_true ⟨_,Tryz.func53,of_decide_eq_false (by kernel_rfl),rfl⟩
theorem azG:qy Tryz.prog 54=True:=eq_true ⟨_,Tryz.func54,of_decide_eq_false (by kernel_rfl),rfl⟩
theorem azF:qy Tryz.prog 55=True:=eq_true ⟨_,Tryz.func55,of_decide_eq_false (by kernel_rfl),rfl⟩
theorem azE:qy Tryz.prog 56=True:=eq_true ⟨_,Tryz.func56,of_decide_eq_false (by kernel_rfl),rfl⟩
theorem azD:qy Tryz.prog 57=True:=eq_true ⟨_,Tryz.func57,of_decide_eq_false (by kernel_rfl),rfl⟩
theorem azC:qy Tryz.prog 58=True:=eq_true ⟨_,Tryz.func58,of_decide_eq_false (by kernel_rfl),rfl⟩
theorem azB:qy Tryz.prog 59=True:=eq_true ⟨_,Tryz.func59,of_decide_eq_false (by kernel_rfl),rfl⟩
theorem azA:qy Tryz.prog 60=True:=eq_true ⟨_,Tryz.func60,of_decide_eq_false (by kernel_rfl),rfl⟩
theorem azz:qy Tryz.prog 61=True:=eq_true ⟨_,Tryz.func61,of_decide_eq_false (by kernel_rfl),rfl⟩
theorem azy:qy Tryz.prog 73=True:=eq_true ⟨_,Tryz.func73,of_decide_eq_false (by kernel_rfl),rfl⟩
theorem azx:qy Tryz.prog 74=True:=eq_true ⟨_,Tryz.func74,of_decide_eq_false (by kernel_rfl),rfl⟩
theorem azw:qy Tryz.prog 75=True:=eq_true ⟨_,Tryz.func75,of_decide_eq_false (by kernel_rfl),rfl⟩
theorem azv:qy Tryz.prog 76=True:=eq_true ⟨_,Tryz.func76,of_decide_eq_false (by kernel_rfl),rfl⟩
theorem azu:qy Tryz.prog 88=True:=eq_true ⟨_,Tryz.func88,of_decide_eq_false (by kernel_rfl),rfl⟩
theorem azt:qy Tryz.prog 89=True:=eq_true ⟨_,Tryz.func89,of_decide_eq_false (by kernel_rfl),rfl⟩
theorem azs:qy Tryz.prog 90=True:=eq_true ⟨_,Tryz.func90,of_decide_eq_false (by kernel_rfl),rfl⟩
theorem azr:qy Tryz.prog 91=True:=eq_true ⟨_,Tryz.func91,of_decide_eq_false (by kernel_rfl),rfl⟩
theorem azq:qy Tryz.prog 92=True:=eq_true ⟨_,Tryz.func92,of_decide_eq_false (by kernel_rfl),rfl⟩
theorem azp:qy Tryz.prog 93=True:=eq_true ⟨_,Tryz.func93,of_decide_eq_false (by kernel_rfl),rfl⟩
theorem azo:qy Tryz.prog 94=True:=eq_true ⟨_,Tryz.func94,of_decide_eq_false (by kernel_rfl),rfl⟩
theorem azn:qy Tryz.prog 95=True:=eq_true ⟨_,Tryz.func95,of_decide_eq_false (by kernel_rfl),rfl⟩
theorem azm:qy Tryz.prog 96=True:=eq_true ⟨_,Tryz.func96,of_decide_eq_false (by kernel_rfl),rfl⟩
theorem azl:qy Tryz.prog 97=True:=eq_true ⟨_,Tryz.func97,of_decide_eq_false (by kernel_rfl),rfl⟩
theorem azk:qy Tryz.prog 98=True:=eq_true ⟨_,Tryz.func98,of_decide_eq_false (by kernel_rfl),rfl⟩
theorem azj:qy Tryz.prog 99=True:=eq_true ⟨_,Tryz.func99,of_decide_eq_false (by kernel_rfl),rfl⟩
theorem axe:qy Tryz.prog 100=True:=eq_true ⟨_,Tryz.func100,of_decide_eq_false (by kernel_rfl),rfl⟩
theorem axd:qy Tryz.prog 101=True:=eq_true ⟨_,Tryz.func101,of_decide_eq_false (by kernel_rfl),rfl⟩
theorem axc:qy Tryz.prog 102=True:=eq_true ⟨_,Tryz.func102,of_decide_eq_false (by kernel_rfl),rfl⟩
theorem axb:qy Tryz.prog 103=True:=eq_true ⟨_,Tryz.func103,of_decide_eq_false (by kernel_rfl),rfl⟩
theorem axa:qy Tryz.prog 104=True:=eq_true ⟨_,Tryz.func104,of_decide_eq_false (by kernel_rfl),rfl⟩
theorem aw9:qy Tryz.prog 105=True:=eq_true ⟨_,Tryz.func105,of_decide_eq_false (by kernel_rfl),rfl⟩
theorem aw8:qy Tryz.prog 106=True:=eq_true ⟨_,Tryz.func106,of_decide_eq_false (by kernel_rfl),rfl⟩
theorem aw7:qy Tryz.prog 107=True:=eq_true ⟨_,Tryz.func107,of_decide_eq_false (by kernel_rfl),rfl⟩
theorem aw6:qy Tryz.prog 108=True:=eq_true ⟨_,Tryz.func108,of_decide_eq_false (by kernel_rfl),rfl⟩
theorem aw5:qy Tryz.prog 109=True:=eq_true ⟨_,Tryz.func109,of_decide_eq_false (by kernel_rfl),rfl⟩
theorem aw4:qy Tryz.prog 110=True:=eq_true ⟨_,Tryz.func110,of_decide_eq_false (by kernel_rfl),rfl⟩
theorem aw3:qy Tryz.prog 111=True:=eq_true ⟨_,Tryz.func111,of_decide_eq_false (by kernel_rfl),rfl⟩
theorem aw2:qy Tryz.prog 112=True:=eq_true ⟨_,Tryz.func112,of_decide_eq_false (by kernel_rfl),rfl⟩
theorem aw1:qy Tryz.prog 113=True:=eq_true ⟨_,Tryz.func113,of_decide_eq_false (by kernel_rfl),rfl⟩
theorem aw0:qy Tryz.prog 114=True:=eq_true ⟨_,Tryz.func114,of_decide_eq_false (by kernel_rfl),rfl⟩
theorem awZ:qy Tryz.prog 115=True:=eq_true ⟨_,Tryz.func115,of_decide_eq_false (by kernel_rfl),rfl⟩
theorem awY:qy Tryz.prog 116=True:=eq_true ⟨_,Tryz.func116,of_decide_eq_false (by kernel_rfl),rfl⟩
theorem awX:qy Tryz.prog 117=True:=eq_true ⟨_,Tryz.func117,of_decide_eq_false (by kernel_rfl),rfl⟩
theorem awW:qy Tryz.prog 118=True:=eq_true ⟨_,Tryz.func118,of_decide_eq_false (by kernel_rfl),rfl⟩
theorem awU:qy Tryz.prog 119=True:=eq_true ⟨_,Tryz.func119,of_decide_eq_false (by kernel_rfl),rfl⟩
theorem awT:qy Tryz.prog 120=True:=eq_true ⟨_,Tryz.func120,of_decide_eq_false (by kernel_rfl),rfl⟩
theorem awS:qy Tryz.prog 121=True:=eq_true ⟨_,Tryz.func121,of_decide_eq_false (by kernel_rfl),rfl⟩
theorem awR:qy Tryz.prog 122=True:=eq_true ⟨_,Tryz.func122,of_decide_eq_false (by kernel_rfl),rfl⟩
theorem awQ:qy Tryz.prog 123=True:=eq_true ⟨_,Tryz.func123,of_decide_eq_false (by kernel_rfl),rfl⟩
theorem awP:qy Tryz.prog 124=True:=eq_true ⟨_,Tryz.func124,of_decide_eq_false (by kernel_rfl),rfl⟩
theorem awO:qy Tryz.prog 125=True:=eq_true ⟨_,Tryz.func125,of_decide_eq_false (by kernel_rfl),rfl⟩
theorem awN:qy Tryz.prog 126=True:=eq_true ⟨_,Tryz.func126,of_decide_eq_false (by kernel_rfl),rfl⟩
theorem awM:qy Tryz.prog 127=True:=eq_true ⟨_,Tryz.func127,of_decide_eq_false (by kernel_rfl),rfl⟩
theorem awL:qy Tryz.prog 128=True:=eq_true ⟨_,Tryz.func128,of_decide_eq_false (by kernel_rfl),rfl⟩
theorem awK:qy Tryz.prog 139=True:=eq_true ⟨_,Tryz.func139,of_decide_eq_false (by kernel_rfl),rfl⟩
theorem awJ:qy Tryz.prog 151=True:=eq_true ⟨_,Tryz.func151,of_decide_eq_false (by kernel_rfl),rfl⟩
theorem awI:qy Tryz.prog 152=True:=eq_true ⟨_,Tryz.func152,of_decide_eq_false (by kernel_rfl),rfl⟩
theorem awH:qy Tryz.prog 153=True:=eq_true ⟨_,Tryz.func153,of_decide_eq_false (by kernel_rfl),rfl⟩
theorem awG:qy Tryz.prog 154=True:=eq_true ⟨_,Tryz.func154,of_decide_eq_false (by kernel_rfl),rfl⟩
theorem awF:qy Tryz.prog 155=True:=eq_true ⟨_,Tryz.func155,of_decide_eq_false (by kernel_rfl),rfl⟩
theorem awE:qy Tryz.prog 174=True:=eq_true ⟨_,Tryz.func174,of_decide_eq_false (by kernel_rfl),rfl⟩
theorem awD:qy Tryz.prog 175=True:=eq_true ⟨_,Tryz.func175,of_decide_eq_false (by kernel_rfl),rfl⟩
theorem awC:qy Tryz.prog 176=True:=eq_true ⟨_,Tryz.func176,of_decide_eq_false (by kernel_rfl),rfl⟩
theorem awB:qy Tryz.prog 177=True:=eq_true ⟨_,Tryz.func177,of_decide_eq_false (by kernel_rfl),rfl⟩
theorem awA:qy Tryz.prog 178=True:=eq_true ⟨_,Tryz.func178,of_decide_eq_false (by kernel_rfl),rfl⟩
theorem awz:qy Tryz.prog 179=True:=eq_true ⟨_,Tryz.func179,of_decide_eq_false (by kernel_rfl),rfl⟩
theorem awy:qy Tryz.prog 180=True:=eq_true ⟨_,Tryz.func180,of_decide_eq_false (by kernel_rfl),rfl⟩
theorem awx:qy Tryz.prog 181=True:=eq_true ⟨_,Tryz.func181,of_decide_eq_false (by kernel_rfl),rfl⟩
theorem aww:qy Tryz.prog 182=True:=eq_true ⟨_,Tryz.func182,of_decide_eq_false (by kernel_rfl),rfl⟩
theorem awv:qy Tryz.prog 183=True:=eq_true ⟨_,Tryz.func183,of_decide_eq_false (by kernel_rfl),rfl⟩
theorem awu:qy Tryz.prog 184=True:=eq_true ⟨_,Tryz.func184,of_decide_eq_false (by kernel_rfl),rfl⟩
theorem awt:qy Tryz.prog 185=True:=eq_true ⟨_,Tryz.func185,of_decide_eq_false (by kernel_rfl),rfl⟩
theorem aws:qy Tryz.prog 186=True:=eq_true ⟨_,Tryz.func186,of_decide_eq_false (by kernel_rfl),rfl⟩
theorem awr:qy Tryz.prog 187=True:=eq_true ⟨_,Tryz.func187,of_decide_eq_false (by kernel_rfl),rfl⟩
theorem awq:qy Tryz.prog 188=True:=eq_true ⟨_,Tryz.func188,of_decide_eq_false (by kernel_rfl),rfl⟩
theorem awo:qy Tryz.prog 189=True:=eq_true ⟨_,Tryz.func189,of_decide_eq_false (by kernel_rfl),rfl⟩
theorem awn:qy Tryz.prog 190=True:=eq_true ⟨_,Tryz.func190,of_decide_eq_false (by kernel_rfl),rfl⟩
theorem awm:qy Tryz.prog 191=True:=eq_true ⟨_,Tryz.func191,of_decide_eq_false (by kernel_rfl),rfl⟩
theorem awl:qy Tryz.prog 192=True:=eq_true ⟨_,Tryz.func192,of_decide_eq_false (by kernel_rfl),rfl⟩
theorem awk:qy Tryz.prog 193=True:=eq_true ⟨_,Tryz.func193,of_decide_eq_false (by kernel_rfl),rfl⟩
theorem awj:qy Tryz.prog 194=True:=eq_true ⟨_,Tryz.func194,of_decide_eq_false (by kernel_rfl),rfl⟩
theorem awi:qy Tryz.prog 195=True:=eq_true ⟨_,Tryz.func195,of_decide_eq_false (by kernel_rfl),rfl⟩
theorem awh:qy Tryz.prog 196=True:=eq_true ⟨_,Tryz.func196,of_decide_eq_false (by kernel_rfl),rfl⟩
theorem awg:qy Tryz.prog 197=True:=eq_true ⟨_,Tryz.func197,of_decide_eq_false (by kernel_rfl),rfl⟩
theorem awf:qy Tryz.prog 198=True:=eq_true ⟨_,Tryz.func198,of_decide_eq_false (by kernel_rfl),rfl⟩
theorem awe:qy Tryz.prog 199=True:=eq_true ⟨_,Tryz.func199,of_decide_eq_false (by kernel_rfl),rfl⟩
theorem awd:qy Tryz.prog 200=True:=eq_true ⟨_,Tryz.func200,of_decide_eq_false (by kernel_rfl),rfl⟩
theorem awc:qy Tryz.prog 201=True:=eq_true ⟨_,Tryz.func201,of_decide_eq_false (by kernel_rfl),rfl⟩
theorem awb:qy Tryz.prog 202=True:=eq_true ⟨_,Tryz.func202,of_decide_eq_false (by kernel_rfl),rfl⟩
theorem awa:qy Tryz.prog 203=True:=eq_true ⟨_,Tryz.func203,of_decide_eq_false (by kernel_rfl),rfl⟩
theorem av9:qy Tryz.prog 204=True:=eq_true ⟨_,Tryz.func204,of_decide_eq_false (by kernel_rfl),rfl⟩
theorem av8:qy Tryz.prog 205=True:=eq_true ⟨_,Tryz.func205,of_decide_eq_false (by kernel_rfl),rfl⟩
theorem av7:qy Tryz.prog 212=True:=eq_true ⟨_,Tryz.func212,of_decide_eq_false (by kernel_rfl),rfl⟩
theorem av6:qy Tryz.prog 213=True:=eq_true ⟨_,Tryz.func213,of_decide_eq_false (by kernel_rfl),rfl⟩
theorem av5:qy Tryz.prog 214=True:=eq_true ⟨_,Tryz.func214,of_decide_eq_false (by kernel_rfl),rfl⟩
theorem av4:qy Tryz.prog 225=True:=eq_true ⟨_,Tryz.func225,of_decide_eq_false (by kernel_rfl),rfl⟩
theorem av3:qy Tryz.prog 246=True:=eq_true ⟨_,Tryz.func246,of_decide_eq_false (by kernel_rfl),rfl⟩
theorem av2:qy Tryz.prog 247=True:=eq_true ⟨_,Tryz.func247,of_decide_eq_false (by kernel_rfl),rfl⟩
theorem av1:qy Tryz.prog 248=True:=eq_true ⟨_,Tryz.func248,of_decide_eq_false (by kernel_rfl),rfl⟩
theorem av0:qy Tryz.prog 249=True:=eq_true ⟨_,Tryz.func249,of_decide_eq_false (by kernel_rfl),rfl⟩
theorem avZ:qy Tryz.prog 250=True:=eq_true ⟨_,Tryz.func250,of_decide_eq_false (by kernel_rfl),rfl⟩
theorem avY:qy Tryz.prog 251=True:=eq_true ⟨_,Tryz.func251,of_decide_eq_false (by kernel_rfl),rfl⟩
theorem avX:qy Tryz.prog 252=True:=eq_true ⟨_,Tryz.func252,of_decide_eq_false (by kernel_rfl),rfl⟩
theorem avW:qy Tryz.prog 253=True:=eq_true ⟨_,Tryz.func253,of_decide_eq_false (by kernel_rfl),rfl⟩
theorem avV:qy Tryz.prog 254=True:=eq_true ⟨_,Tryz.func254,of_decide_eq_false (by kernel_rfl),rfl⟩
theorem avU:qy Tryz.prog 255=True:=eq_true ⟨_,Tryz.func255,of_decide_eq_false (by kernel_rfl),rfl⟩
theorem avT:qy Tryz.prog 256=True:=eq_true ⟨_,Tryz.func256,of_decide_eq_false (by kernel_rfl),rfl⟩
theorem avS:qy Tryz.prog 257=True:=eq_true ⟨_,Tryz.func257,of_decide_eq_false (by kernel_rfl),rfl⟩
theorem avR:qy Tryz.prog 258=True:=eq_true ⟨_,Tryz.func258,of_decide_eq_false (by kernel_rfl),rfl⟩
theorem avQ:qy Tryz.prog 259=True:=eq_true ⟨_,Tryz.func259,of_decide_eq_false (by kernel_rfl),rfl⟩
theorem avP:qy Tryz.prog 260=True:=eq_true ⟨_,Tryz.func260,of_decide_eq_false (by kernel_rfl),rfl⟩
theorem avO:qy Tryz.prog 261=True:=eq_true ⟨_,Tryz.func261,of_decide_eq_false (by kernel_rfl),rfl⟩
theorem avN:qy Tryz.prog 262=True:=eq_true ⟨_,Tryz.func262,of_decide_eq_false (by kernel_rfl),rfl⟩
theorem avM:qy Tryz.prog 263=True:=eq_true ⟨_,Tryz.func263,of_decide_eq_false (by kernel_rfl),rfl⟩
theorem avL:qy Tryz.prog 264=True:=eq_true ⟨_,Tryz.func264,of_decide_eq_false (by kernel_rfl),rfl⟩
theorem avK:qy Tryz.prog 266=True:=eq_true ⟨_,Tryz.func266,of_decide_eq_false (by kernel_rfl),rfl⟩
theorem avJ:qy Tryz.prog 267=True:=eq_true ⟨_,Tryz.func267,of_decide_eq_false (by kernel_rfl),rfl⟩
theorem avI:qy Tryz.prog 268=True:=eq_true ⟨_,Tryz.func268,of_decide_eq_false (by kernel_rfl),rfl⟩
theorem avH:qy Tryz.prog 273=True:=eq_true ⟨_,Tryz.func273,of_decide_eq_false (by kernel_rfl),rfl⟩
theorem avG:qy Tryz.prog 274=True:=eq_true ⟨_,Tryz.func274,of_decide_eq_false (by kernel_rfl),rfl⟩
theorem avF:qy Tryz.prog 295=True:=eq_true ⟨_,Tryz.func295,of_decide_eq_false (by kernel_rfl),rfl⟩
theorem avE:qy Tryz.prog 296=True:=eq_true ⟨_,Tryz.func296,of_decide_eq_false (by kernel_rfl),rfl⟩
theorem avD:qy Tryz.prog 297=True:=eq_true ⟨_,Tryz.func297,of_decide_eq_false (by kernel_rfl),rfl⟩
theorem avC:qy Tryz.prog 298=True:=eq_true ⟨_,Tryz.func298,of_decide_eq_false (by kernel_rfl),rfl⟩
theorem avB:qy Tryz.prog 299=True:=eq_true ⟨_,Tryz.func299,of_decide_eq_false (by kernel_rfl),rfl⟩
theorem avA:qy Tryz.prog 300=True:=eq_true ⟨_,Tryz.func300,of_decide_eq_false (by kernel_rfl),rfl⟩
theorem avz:qy Tryz.prog 301=True:=eq_true ⟨_,Tryz.func301,of_decide_eq_false (by kernel_rfl),rfl⟩
theorem avy:qy Tryz.prog 302=True:=eq_true ⟨_,Tryz.func302,of_decide_eq_false (by kernel_rfl),rfl⟩
theorem avx:qy Tryz.prog 303=True:=eq_true ⟨_,Tryz.func303,of_decide_eq_false (by kernel_rfl),rfl⟩
theorem avw:qy Tryz.prog 304=True:=eq_true ⟨_,Tryz.func304,of_decide_eq_false (by kernel_rfl),rfl⟩
theorem avv:qy Tryz.prog 306=True:=eq_true ⟨_,Tryz.func306,of_decide_eq_false (by kernel_rfl),rfl⟩
theorem avu:qy Tryz.prog 307=True:=eq_true ⟨_,Tryz.func307,of_decide_eq_false (by kernel_rfl),rfl⟩
theorem avt:qy Tryz.prog 325=True:=eq_true ⟨_,Tryz.func325,of_decide_eq_false (by kernel_rfl),rfl⟩
theorem avs:qy Tryz.prog 326=True:=eq_true ⟨_,Tryz.func326,of_decide_eq_false (by kernel_rfl),rfl⟩
theorem avr:qy Tryz.prog 327=True:=eq_true ⟨_,Tryz.func327,of_decide_eq_false (by kernel_rfl),rfl⟩
theorem avq:qy Tryz.prog 328=True:=eq_true ⟨_,Tryz.func328,of_decide_eq_false (by kernel_rfl),rfl⟩
theorem avp:qy Tryz.prog 329=True:=eq_true ⟨_,Tryz.func329,of_decide_eq_false (by kernel_rfl),rfl⟩
theorem avo:qy Tryz.prog 330=True:=eq_true ⟨_,Tryz.func330,of_decide_eq_false (by kernel_rfl),rfl⟩
theorem avn:qy Tryz.prog 332=True:=eq_true ⟨_,Tryz.func332,of_decide_eq_false (by kernel_rfl),rfl⟩
theorem avm:qy Tryz.prog 340=True:=eq_true ⟨_,Tryz.func340,of_decide_eq_false (by kernel_rfl),rfl⟩
theorem avl:qy Tryz.prog 341=True:=eq_true ⟨_,Tryz.func341,of_decide_eq_false (by kernel_rfl),rfl⟩
theorem avk:qy Tryz.prog 345=True:=eq_true ⟨_,Tryz.func345,of_decide_eq_false (by kernel_rfl),rfl⟩
theorem avj:qy Tryz.prog 346=True:=eq_true ⟨_,Tryz.func346,of_decide_eq_false (by kernel_rfl),rfl⟩
theorem avi:qy Tryz.prog 347=True:=eq_true ⟨_,Tryz.func347,of_decide_eq_false (by kernel_rfl),rfl⟩
attribute [go_sem] ty3 atg aou ajz afe ate
attribute [go_sem] atf ty4 atd aoe ajt ae6 atb atc
attribute [go_sem] ty7 ata aod ajs ae5 as8 as9 axj
attribute [go_sem] ayZ axi ayY axh ayX axg ayW aBW
attribute [go_sem] aBh aoP ajJ
attribute [go_sem] afq ac9 aoN aoO ayO aBg aoM ajF afn ac7
attribute [go_sem] aoK aoL arm auo arl aun aAz aBf aoJ ajE
attribute [go_sem] afl ac6 aoH aoI ark aum arj aul aAy
attribute [go_sem] aBe aoG
attribute [go_sem] ajD afj ac5 aoE aoF ayN
attribute [go_sem] aBd aoD
attribute [go_sem] ajC afh ac4 aoB aoC ari auk arh auj aAx
attribute [go_sem] aBc aoA ajB
attribute [go_sem] afg ac3 aoy aoz ayM aBb aox ajA aff ac2
attribute [go_sem] aov aow arg aui aAw aBa aot ajy afd ac1
attribute [go_sem] aor aos arf auh aAv aA9 aoq ajx afb ac0
attribute [go_sem] aoo aop ard aug arc auf aAu aA8 aon ajw
attribute [go_sem] afa acZ aol aom arb aue ara aud aAt aA7
attribute [go_sem] aok ajv ae8 acY aoi aoj aq9 auc aq8 aub
attribute [go_sem] aAs aA6 aoh aju ae7 acX aof aog aq7 aua
attribute [go_sem] aq6 at9 aAr
attribute [go_sem] aA5 aoc ajr ae4 acW aoa aob
attribute [go_sem] aA4 an9
attribute [go_sem] ajq ae3 acV an7 an8 ayL aA3 an6 ajp ae1
attribute [go_sem] acU an4 an5 aq5 at8 aq4 at7 aAq aA2 an3
attribute [go_sem] ajo aeZ acT an1 an2 aq3 at6 aq2 at5 aAp
attribute [go_sem] aA1 an0 ajn aeY acS
attribute [go_sem] anY anZ aq1 at4 aq0 at3 aqZ at2 aAo aA0
attribute [go_sem] anX ajm aeX acQ anV anW aqY at1 aqX at0
attribute [go_sem] aqW atZ aAn
attribute [go_sem] ayC ajV
attribute [go_sem] afu ade aab ajT ajU
attribute [go_sem] ayB ajS aft adc aaa ajQ ajR alT
attribute [go_sem] apA axT
attribute [go_sem] ayA ajP afs adb K9 ajN
attribute [go_sem] ajO alS apz alR apy axS
attribute [go_sem] ayz ajM
attribute [go_sem] afr ada K8 ajK ajL alQ apx alP apw axR
attribute [go_sem] ayy ajI afo ac8 K7 ajG ajH
attribute [go_sem] az9
attribute [go_sem] az8 az7 az6 az5 az4 az3 az2 az1 az0
attribute [go_sem] azZ
attribute [go_sem] azY azX azW azV azU azT azS
attribute [go_sem] azR azQ azP azO azN azM azL azK azJ azI
attribute [go_sem] azH azG azF azE azD azC azB azA azz
attribute [go_sem] azy azx azw azv
attribute [go_sem] azu azt azs azr azq
attribute [go_sem] azp azo azn azm azl azk azj axe axd axc
attribute [go_sem] axb axa aw9 aw8 aw7 aw6 aw5 aw4 aw3 aw2
attribute [go_sem] aw1 aw0 awZ awY awX awW awU awT awS awR
attribute [go_sem] awQ awP awO awN awM awL
attribute [go_sem] awK
attribute [go_sem] awJ awI
attribute [go_sem] awH awG awF
attribute [go_sem] awE awD awC awB awA awz awy awx aww
attribute [go_sem] awv awu awt aws awr awq awo awn awm awl
attribute [go_sem] awk awj awi awh awg awf awe awd awc awb
attribute [go_sem] awa av9 av8 av7
attribute [go_sem] av6 av5
attribute [go_sem] av4
attribute [go_sem] av3 av2 av1 av0 avZ avY avX
attribute [go_sem] avW avV avU avT avS avR avQ avP avO avN
attribute [go_sem] avM avL avK avJ avI
attribute [go_sem] avH avG
attribute [go_sem] avF avE avD avC avB avA avz avy
attribute [go_sem] avx avw avv avu
attribute [go_sem] avt avs avr avq avp avo avn
attribute [go_sem] avm avl
attribute [go_sem] avk avj avi
end Go.Ab
namespace Go.Ab
open Go Go.Proofs
theorem jK(cl:Bool)(xs:List Int)(m:Nat)(hl:xs.length≤2^39)(hx:gd xs)(hv:vl xs=(m:Int)):Con Tryz.prog 188 cl [.sl xs.length (qg xs)] [] (ak8 m):=by
 refine Con.of_aw Tryz.func188 rfl Tryz.ntmps188 (by simp) (by simp) (by simp) (W.sound ?_)
 show @W Tryz.prog 24 ⟨_⟩ ⟨fun x σ=>@q8 _ _ _ ⟨_⟩ _ ⟨_⟩ x σ⟩ _ _
 simp(disch:=omega)only[go_sem]
 have hcz:Yc xs=lim m:=by rw[jk hx,hv,Int.toNat_natCast]
 refine qj (fun k:Nat=>[(0,.sl xs.length (qg xs)),(2,.pt 40000000 0),(3,.v (.int .i64 k))]) (fun _=>[(40000000,.own 0 [.v (.slice none 0 0)])]) (fun k=>k≤xs.length∧Yc (xs.take k)=Yc xs) id xs.length ⟨Nat.le_refl _,by simp⟩
  (Le.lst [] _ _ rfl (by simp(disch:=omega)only[go_sem]) (by simp(disch:=omega)only[go_sem])) ?_
 intro k ⟨hk,hc⟩
 have hkx:∀j,j+1=k→xs.take k=xs.take j++[xs.getD j 0]:=fun j hj=>by rw[←hj];exact Zo (by omega)
 simp(disch:=omega)only[go_sem]
 refine qh (fun h1=>?_) (fun h1=>?_)
 ·obtain⟨j,rfl⟩:∃j,k=j+1:=⟨k-1,by omega⟩
  have e1:((j+1:Nat):Int)-1=(j:Nat):=by omega
  rw[hkx j rfl]at hc
  simp(disch:=omega)only[go_sem,h1,e1]
  refine⟨by omega,by omega,qh (fun h2=>?_) (fun h2=>?_)⟩
  ·simp(disch:=omega)only[go_sem,h2,e1]
   rw[h2,Zd]at hc
   exact qe j [] ⟨by omega,hc⟩ (by show j<j+1;omega) rfl (by simp(disch:=omega)only[go_sem];try omega) (by simp(disch:=omega)only[go_sem])
  ·rw[Vg _ h2,←hkx j rfl,hcz]at hc
   have hlm:j+1=(lim m).length:=by rw[←hc,List.length_take];omega
   have e0:(((j+1:Nat):Int)-0).toNat=(lim m).length:=by omega
   rw[hlm]at hc
   simp(disch:=omega)only[go_sem,h2,e0,hc]
   refine⟨by omega,by omega,?_⟩
   refine ql [(0,240000000)] [.own 1 (qg (lim m))] [] [.ag [.rf 0 0 (lim m).length]] rfl (by simp(disch:=omega)only[go_sem]) (by simp(disch:=omega)only[go_sem]) (by simp) (by intro _;simp[zb,AV.pu,AV.pu.puL,Ob.pu,qQ]) (.inr ⟨[],rfl,by rw[List.append_nil]⟩)
 ·have hlm:k=(lim m).length:=by
   have:k=0:=by omega
   rw[←hcz,←hc,this];rfl
  subst hlm
  have hc:xs.take (lim m).length=lim m:=by
   have:lim m=[]:=List.length_eq_zero_iff.1 (by omega)
   rw[this];simp
  have e0:(((lim m).length:Int)-0).toNat=(lim m).length:=by omega
  simp(disch:=omega)only[go_sem,h1,e0,hc]
  refine⟨by omega,by omega,?_⟩
  refine ql [(0,240000000)] [.own 1 (qg (lim m))] [] [.ag [.rf 0 0 (lim m).length]] rfl (by simp(disch:=omega)only[go_sem]) (by simp(disch:=omega)only[go_sem]) (by simp) (by intro _;simp[zb,AV.pu,AV.pu.puL,Ob.pu,qQ]) (.inr ⟨[],rfl,by rw[List.append_nil]⟩)
theorem acA(cl:Bool)(n:Nat)(hn:n<2^63):Con Tryz.prog 180 cl [.v (.int .i64 n)] [] (ak8 n):=by
 refine Con.of_aw Tryz.func180 rfl Tryz.ntmps180 (by simp) (by simp) (by simp) (W.sound ?_)
 show @W Tryz.prog 15 ⟨_⟩ ⟨fun x σ=>@q8 _ _ _ ⟨_⟩ _ ⟨_⟩ x σ⟩ _ _
 simp(disch:=omega)only[go_sem]
 refine qj (fun x:Nat×List Int=>[(0,.v (.int .i64 x.1)),(2,.pt 2 0),(3,.rf 1 0 x.2.length)]) (fun x=>[(1,.own 1 (qg x.2)),(2,.own 0 [.v (.slice none 0 0)])]) (fun x=>x.1<2^63∧x.2++lim x.1=lim n) (fun x=>x.1) (n,[]) ⟨hn,rfl⟩
  ((Le.ghost 3 1 1 (by simp(disch:=omega)only[go_sem]) (by simp(disch:=omega)only[go_sem])).trans (Le.lst [(2,40000000)] _ _ rfl (by simp(disch:=omega)only[go_sem]) (by simp(disch:=omega)only[go_sem]))) ?_
 rintro⟨k,l⟩ ⟨hk,hl⟩
 dsimp only at hk hl ⊢
 have hlen:l.length≤4:=by
  have h1:=congrArg List.length hl
  have h2:=yz (n:=n) (k:=4) |>.2 (by omega)
  rw[List.length_append]at h1;omega
 simp(disch:=omega)only[go_sem]
 refine qh (fun h1=>?_) (fun h1=>?_)
 ·simp(disch:=omega)only[go_sem,h1]
  have hk0:k≠0:=by omega
  refine⟨by omega,qe (k/65536,l++[(k:Int) % 65536]) [(1,120000000)] ⟨by show k/65536<2^63;omega,?_⟩ (by show k/65536<k;omega) rfl (by simp(disch:=omega)only[go_sem,List.length_append];try omega) (by simp(disch:=omega)only[go_sem])⟩
  rw[yx hk0]at hl
  rw[←hl,List.append_assoc];rfl
 ·simp(disch:=omega)only[go_sem,h1]
  have hk0:k=0:=by omega
  subst hk0
  rw[qt,List.append_nil]at hl
  subst hl
  refine ql [(0,1)] [.own 1 (qg (lim n++[]))] [] [.ag [.rf 0 0 (lim n).length]] rfl (by simp(disch:=omega)only[go_sem]) (by simp(disch:=omega)only[go_sem]) (by simp) (by intro _;simp[zb,AV.pu,AV.pu.puL,Ob.pu,qQ]) (.inr ⟨[],rfl,rfl⟩)
end Go.Ab
namespace Go.Ab
open Go Go.Proofs
theorem jE(xs:List Int)(hl:xs.length≤2^40):Con Tryz.prog 268 false [.rf 10000000 0 xs.length] [.own 1 (qg xs)] (fun r hs bs=>r=.rf 10000000 0 (Yc xs).length∧hs=[]∧bs=[.own 1 (qg xs)]):=by
 refine Con.of_aw Tryz.func268 rfl Tryz.ntmps268 (by simp) (by simp) (by simp) (W.sound ?_)
 show @W Tryz.prog 21 ⟨_⟩ ⟨fun x σ=>@q8 _ _ _ ⟨_⟩ _ ⟨_⟩ x σ⟩ _ _
 simp(disch:=omega)only[go_sem]
 refine qj (fun m:Nat=>[(0,.rf 10000000 0 m)]) (fun _=>[(10000000,.own 1 (qg xs))]) (fun m=>m≤xs.length∧Yc (xs.take m)=Yc xs) id xs.length ⟨Nat.le_refl _,by simp⟩
  (Le.lst [] _ _ rfl (by simp(disch:=omega)only[go_sem];try omega) (by simp(disch:=omega)only[go_sem])) ?_
 intro m ⟨hm,hx⟩
 have hmx:∀k,k+1=m→xs.take m=xs.take k++[xs.getD k 0]:=fun k hk=>by rw[←hk];exact Zo (by omega)
 simp(disch:=omega)only[go_sem]
 refine qh (fun h1=>?_) (fun h1=>?_)
 ·obtain⟨k,rfl⟩:∃k,m=k+1:=⟨m-1,by omega⟩
  have e1:((k+1:Nat):Int)-1=(k:Nat):=by omega
  rw[hmx k rfl]at hx
  simp(disch:=omega)only[go_sem,h1,e1]
  refine⟨by omega,by omega,qh (fun h2=>?_) (fun h2=>?_)⟩
  ·simp(disch:=omega)only[go_sem,h2,e1]
   rw[h2,Zd]at hx
   refine⟨by omega,qe k [] ⟨by omega,hx⟩ (by show k<k+1;omega) rfl (by simp(disch:=omega)only[go_sem];try omega) (by simp(disch:=omega)only[go_sem])⟩
  ·simp(disch:=omega)only[go_sem,h2]
   refine ql [] [] [.own 1 (qg xs)] [.rf 10000000 0 (k+1)] rfl (by simp(disch:=omega)only[go_sem]) (by simp(disch:=omega)only[go_sem]) (by simp) (by simp) ⟨?_,rfl,rfl⟩
   rw[Vg _ h2,←hmx k rfl]at hx
   rw[←hx,List.length_take,Nat.min_eq_left hm];rfl
 ·simp(disch:=omega)only[go_sem,h1]
  refine ql [] [] [.own 1 (qg xs)] [.rf 10000000 0 m] rfl (by simp(disch:=omega)only[go_sem]) (by simp(disch:=omega)only[go_sem]) (by simp) (by simp) ⟨?_,rfl,rfl⟩
  have:m=0:=by omega
  subst this
  rw[←hx];rfl
end Go.Ab
namespace Go.Ab
open Go Go.Proofs
theorem ago{x y:Int}(hx:0≤x∧x<65536)(hy:0≤y∧y<65536):0≤x*y∧x*y≤4294836225:=by
 have h1:=Int.mul_nonneg hx.1 hy.1
 have h2:x*y≤65535*65535:=Int.mul_le_mul (by omega) (by omega) hy.1 (by omega)
 omega
theorem Vz(n:Nat):zA n [.v (.int .i64 0)]=qg (List.replicate n 0):=Kb
theorem ahE(cl:Bool)(A B:List Int)(hA:gd A)(hB:gd B)(lA:A.length≤1000000)(lB:B.length≤1000000):
  Con Tryz.prog 260 cl [.sl A.length (qg A),.sl B.length (qg B)] [] (agb (lim (vl A*vl B).toNat)):=by
 refine Con.of_aw Tryz.func260 rfl Tryz.ntmps260 (by simp) (by simp) (by simp) (W.sound ?_)
 show @W Tryz.prog 63 ⟨_⟩ ⟨fun x σ=>@q8 _ _ _ ⟨_⟩ _ ⟨_⟩ x σ⟩ _ _
 simp(disch:=omega)only[go_sem]
 refine⟨⟨by omega,by omega,by omega⟩,?_⟩
 refine qj (fun x:Nat×List Int=>[(1,.sl B.length (qg B)),(5,.rf 180000000 0 (A.length+B.length)),(17,.sl A.length (qg A)),(18,.v (.int .i64 A.length)),(19,.v (.int .i64 x.1))])
  (fun x=>[(180000000,.own 1 (qg x.2))])
  (fun x=>x.1≤A.length∧x.2.length=A.length+B.length∧gd x.2∧vl x.2=vl (A.take x.1)*vl B∧∀j,x.1+B.length≤j→x.2.getD j 0=0)
  (fun x=>A.length-x.1) (0,List.replicate (A.length+B.length) 0) ⟨by simp,by simp,zk _,by simp[zY,vl],fun j _=>by
   rw[List.getD_eq_getElem?_getD,List.getElem?_replicate];split<;>rfl⟩
  (Le.lst [] _ _ rfl (by simp(disch:=omega)only[go_sem];try omega) (by simp(disch:=omega)only[go_sem,show((A.length:Int)+(B.length:Int)).toNat=A.length+B.length by omega])) ?_
 rintro⟨i,out⟩ ⟨hi,hol,hog,hov,hoz⟩
 dsimp only at hi hol hog hov hoz ⊢
 simp(disch:=omega)only[go_sem]
 refine qh (fun h1=>?_) (fun h1=>?_)
 ·have hx:=qL hA i
  simp(disch:=omega)only[go_sem,h1]
  refine⟨by omega,by omega,?_⟩
  refine qj (fun x:Nat×List Int×Int=>[(1,.sl B.length (qg B)),(5,.rf 180000000 0 (A.length+B.length)),(17,.sl A.length (qg A)),(18,.v (.int .i64 A.length)),(19,.v (.int .i64 i)),(6,.v (.int .i64 i)),
    (7,.v (.int .i64 (A.getD i 0))),(8,.v (.int .i64 x.2.2)),(24,.sl B.length (qg B)),(25,.v (.int .i64 B.length)),(26,.v (.int .i64 x.1))])
   (fun x=>[(180000000,.own 1 (qg x.2.1))])
   (fun x=>x.1≤B.length∧x.2.1.length=A.length+B.length∧gd x.2.1∧(0≤x.2.2∧x.2.2<65536)∧vl x.2.1+65536^(i+x.1)*x.2.2=vl out+65536^i*(A.getD i 0*vl (B.take x.1))∧∀j,i+B.length≤j→x.2.1.getD j 0=0)
   (fun x=>B.length-x.1) (0,out,0) ⟨by simp,hol,hog,by simp,by simp[vl],hoz⟩
   (Le.lst [] _ _ rfl (by simp(disch:=omega)only[go_sem];try omega) (by simp(disch:=omega)only[go_sem])) ?_
  rintro⟨j,o2,cy⟩ ⟨hj,hol2,hog2,hcy,hov2,hoz2⟩
  dsimp only at hj hol2 hog2 hcy hov2 hoz2 ⊢
  simp(disch:=omega)only[go_sem]
  refine qh (fun h2=>?_) (fun h2=>?_)
  ·have hy:=qL hB j
   have ho:=qL hog2 (i+j)
   have hxy:=ago hx hy
   have e1:((i:Int)+(j:Int)).toNat=i+j:=by omega
   simp(disch:=omega)only[go_sem,h2,e1]
   generalize hq:cy+(o2.getD (i+j) 0+A.getD i 0*B.getD j 0)=q
   refine⟨by omega,by omega,by omega,by omega,by omega,by omega,qe (j+1,o2.set (i+j) (q % 65536),q/65536) [] ⟨by show j+1≤_;omega,by simp[hol2],yK hog2 (by omega),by show 0≤q/65536∧q/65536<65536;omega,?_,fun k hk=>?_⟩
    (by show B.length-(j+1)<B.length-j;omega) rfl (by simp(disch:=omega)only[go_sem];try omega) (by simp(disch:=omega)only[go_sem])⟩
   ·show vl (o2.set (i+j) (q % 65536))+65536^(i+(j+1))*(q/65536)=vl out+65536^i*(A.getD i 0*vl (B.take (j+1)))
    rw[ZW (by omega),jm (by omega),←Nat.add_assoc,Int.pow_succ]
    have e2:(65536:Int)^(i+j)=65536^i*65536^j:=Int.pow_add _ _ _
    have e3:q % 65536+65536*(q/65536)=q:=Int.emod_add_mul_ediv q 65536
    rw[e2]at hov2 ⊢
    generalize (65536:Int)^i=Pi at*
    generalize (65536:Int)^j=Pj at*
    grind
   ·show(o2.set (i+j) (q % 65536)).getD k 0=0
    rw[List.getD_eq_getElem?_getD,List.getElem?_set_ne (by omega),←List.getD_eq_getElem?_getD]
    exact hoz2 k hk
  ·simp(disch:=omega)only[go_sem,h2]
   have e1:((i:Int)+(B.length:Int)).toNat=i+B.length:=by omega
   have hjB:j=B.length:=by omega
   subst hjB
   rw[List.take_length]at hov2
   simp(disch:=omega)only[go_sem,e1]
   refine⟨by omega,by omega,qe (i+1,o2.set (i+B.length) cy) [] ⟨by show i+1≤_;omega,by simp[hol2],yK hog2 hcy,?_,fun k hk=>?_⟩ (by show A.length-(i+1)<A.length-i;omega) rfl (by simp(disch:=omega)only[go_sem];try omega) (by simp(disch:=omega)only[go_sem])⟩
   ·show vl (o2.set (i+B.length) cy)=vl (A.take (i+1))*vl B
    rw[ZW (by omega),hoz2 _ (Nat.le_refl _),jm (by omega)]
    generalize (65536:Int)^i=Pi at*
    grind
   ·show(o2.set (i+B.length) cy).getD k 0=0
    rw[List.getD_eq_getElem?_getD,List.getElem?_set_ne (by show i+B.length≠k;omega),←List.getD_eq_getElem?_getD]
    exact hoz2 k (by omega)
 ·simp(disch:=omega)only[go_sem,h1]
  have hiA:i=A.length:=by omega
  subst hiA
  rw[List.take_length]at hov
  refine zf false [180000000] (jE out (by omega)) (by rw[←hol];simp(disch:=omega)only[go_sem]) (by simp(disch:=omega)only[go_sem]) rfl (qZ (z:=1) (cs:=qg out) (by simp(disch:=omega)only[go_sem]) (by simp(disch:=omega)only[go_sem])) (by intro n hn;exact⟨_,List.mem_singleton.2 rfl,by rw[List.mem_singleton.1 hn];rfl⟩) ?_
  rintro r hs bs ⟨rfl,rfl,rfl⟩ _
  refine⟨by simp[qB],?_⟩
  simp(disch:=omega)only[go_sem]
  obtain⟨z,hz⟩:=zV out
  have hc:=jk hog
  rw[hov]at hc
  rw[hc]at hz ⊢
  refine ql [(0,180000000)] [.own 1 (qg out)] [] [.rf 0 0 (lim (vl A*vl B).toNat).length] rfl (by simp(disch:=omega)only[go_sem]) (by simp(disch:=omega)only[go_sem]) (by simp) (by intro _;simp[zb,AV.pu,AV.pu.puL,Ob.pu,qQ]) (.inr ⟨List.replicate z 0,rfl,by rw[←hz]⟩)
end Go.Ab
namespace Go.Ab
open Go Go.Proofs
set_option maxRecDepth 100000 in
theorem ah5(cl:Bool)(a b:Nat)(la:(lim a).length≤2000000)(lb:(lim b).length≤2000000):Con Tryz.prog 179 cl [.ag [.sl (lim (a)).length (qg (lim (a)))],.ag [.sl (lim (b)).length (qg (lim (b)))]] [] (ak8 (a+b)):=by
 refine Con.of_aw Tryz.func179 rfl Tryz.ntmps179 (by simp) (by simp) (by simp) (W.sound ?_)
 show @W Tryz.prog 61 ⟨_⟩ ⟨fun x σ=>@q8 _ _ _ ⟨_⟩ _ ⟨_⟩ x σ⟩ _ _
 simp(disch:=omega)only[go_sem]
 have hA:=q5 a
 have hB:=q5 b
 refine qj (fun x:Nat×List Int×Int=>[(2,.pt 3 0),(3,.pt 4 0),(4,.pt 2 0),(5,.rf 1 0 x.2.1.length),(6,.v (.int .i64 x.2.2)),(7,.v (.int .i64 x.1))])
  (fun x=>[(1,.own 1 (qg x.2.1)),(2,.own 0 [.v (.slice none 0 0)]),(3,.own 0 [.sl (lim (a)).length (qg (lim (a)))]),(4,.own 0 [.sl (lim (b)).length (qg (lim (b)))])])
  (fun x=>x.1≤max (lim a).length (lim b).length+1∧x.2.1.length=x.1∧gd x.2.1∧(0≤x.2.2∧x.2.2≤1)∧vl x.2.1+65536^x.1*x.2.2=vl ((lim a).take x.1)+vl ((lim b).take x.1)∧(max (lim a).length (lim b).length<x.1→x.2.2=0))
  (fun x=>2*(max (lim a).length (lim b).length-x.1)+x.2.2.toNat) (0,[],0) ⟨by simp,rfl,JZ,by simp,by simp[vl],fun h=>rfl⟩
  ((Le.ghost 5 1 1 (by simp(disch:=omega)only[go_sem]) (by simp(disch:=omega)only[go_sem])).trans (Le.lst [(2,60000000),(3,40000000),(4,50000000)] _ _ rfl (by simp(disch:=omega)only[go_sem]) (by simp(disch:=omega)only[go_sem]))) ?_
 rintro⟨i,out,cy⟩ ⟨hi,hol,hog,hcy,hov,hcz⟩
 dsimp only at hi hol hog hcy hov hcz ⊢
 have hx:=qL hA i
 have hy:=qL hB i
 have hxz:¬(i:Int)<(lim a).length→(lim a).getD i 0=0:=fun h=>by rw[List.getD_eq_getElem?_getD,List.getElem?_eq_none (by omega)];rfl
 have hyz:¬(i:Int)<(lim b).length→(lim b).getD i 0=0:=fun h=>by rw[List.getD_eq_getElem?_getD,List.getElem?_eq_none (by omega)];rfl
 have hstep:∀q:Int,q=cy+(lim a).getD i 0+(lim b).getD i 0→vl (out++[q % 65536])+65536^(i+1)*(q/65536)=vl ((lim a).take (i+1))+vl ((lim b).take (i+1)):=by
  intro q hq
  rw[jL,qX,qX,hol,Int.pow_succ]
  have e3:q % 65536+65536*(q/65536)=q:=Int.emod_add_mul_ediv q 65536
  generalize (65536:Int)^i=Pi at*
  grind
 have key:∀q:Int,q=cy+(lim a).getD i 0+(lim b).getD i 0→(i:Int)<(lim a).length∨(i:Int)<(lim b).length∨0<cy→
   ((i+1≤max (lim a).length (lim b).length+1∧(out++[q % 65536]).length=i+1∧gd (out++[q % 65536])∧(0≤q/65536∧q/65536≤1)∧vl (out++[q % 65536])+65536^(i+1)*(q/65536)=vl ((lim a).take (i+1))+vl ((lim b).take (i+1))∧(max (lim a).length (lim b).length<i+1→q/65536=0))∧
   2*(max (lim a).length (lim b).length-(i+1))+(q/65536).toNat<2*(max (lim a).length (lim b).length-i)+cy.toNat):=by
  intro q hq hc
  have hle:i≤max (lim a).length (lim b).length:=by
   rcases Nat.lt_or_ge (max (lim a).length (lim b).length) i with h|h
   ·have:=hcz h;omega
   ·exact h
  have hbig:max (lim a).length (lim b).length<i+1→q/65536=0:=fun h=>by
   have:=hxz (by omega)
   have:=hyz (by omega)
   omega
  refine⟨⟨by omega,by simp[hol],qM.2 ⟨hog,jf.2 (by omega)⟩,by omega,hstep q hq,hbig⟩,?_⟩
  by_cases hm:max (lim a).length (lim b).length<i+1
  ·have:=hbig hm;omega
  ·omega
 by_cases h1:(i:Int)<(lim a).length<;>by_cases h2:(i:Int)<(lim b).length
 ·simp(disch:=omega)only[go_sem,h1,h2]
  obtain⟨k1,k2⟩:=key _ rfl (.inl h1)
  refine⟨by omega,by omega,by omega,by omega,by omega,qe (i+1,out++[(cy+(lim a).getD i 0+(lim b).getD i 0) % 65536],(cy+(lim a).getD i 0+(lim b).getD i 0)/65536) [(1,580000000)] k1 k2 rfl (by simp(disch:=omega)only[go_sem,List.length_append];try omega) (by simp(disch:=omega)only[go_sem])⟩
 ·simp(disch:=omega)only[go_sem,h1,h2]
  have e0:cy+(lim a).getD i 0=cy+(lim a).getD i 0+(lim b).getD i 0:=by rw[hyz h2];omega
  obtain⟨k1,k2⟩:=key (cy+(lim a).getD i 0) e0 (.inl h1)
  refine⟨by omega,by omega,by omega,qe (i+1,out++[(cy+(lim a).getD i 0) % 65536],(cy+(lim a).getD i 0)/65536) [(1,580000000)] k1 k2 rfl (by simp(disch:=omega)only[go_sem,List.length_append];try omega) (by simp(disch:=omega)only[go_sem])⟩
 ·simp(disch:=omega)only[go_sem,h1,h2]
  have e0:cy+(lim b).getD i 0=cy+(lim a).getD i 0+(lim b).getD i 0:=by rw[hxz h1];omega
  obtain⟨k1,k2⟩:=key (cy+(lim b).getD i 0) e0 (.inr (.inl h2))
  refine⟨by omega,by omega,by omega,qe (i+1,out++[(cy+(lim b).getD i 0) % 65536],(cy+(lim b).getD i 0)/65536) [(1,580000000)] k1 k2 rfl (by simp(disch:=omega)only[go_sem,List.length_append];try omega) (by simp(disch:=omega)only[go_sem])⟩
 ·by_cases h3:0<cy
  ·simp(disch:=omega)only[go_sem,h1,h2,h3]
   have e0:cy=cy+(lim a).getD i 0+(lim b).getD i 0:=by rw[hxz h1,hyz h2];omega
   obtain⟨k1,k2⟩:=key cy e0 (.inr (.inr h3))
   refine⟨by omega,qe (i+1,out++[cy % 65536],cy/65536) [(1,580000000)] k1 k2 rfl (by simp(disch:=omega)only[go_sem,List.length_append];try omega) (by simp(disch:=omega)only[go_sem])⟩
  ·have hcy0:cy=0:=by omega
   have hov2:vl out=((a+b:Nat):Int):=by
    rw[List.take_of_length_le (by omega),List.take_of_length_le (by omega),qY,qY,hcy0]at hov
    simp at hov;omega
   simp(disch:=omega)only[go_sem,h1,h2,h3]
   refine qr (jK true out (a+b) (by omega) hog hov2) (by simp(disch:=omega)only[go_sem]) ?_
   rintro r hs (⟨h0,rfl,rfl⟩|⟨zs,rfl,rfl⟩)
   ·refine⟨⟨by simp,by simp(disch:=omega)only[go_sem]⟩,?_⟩
    simp(disch:=omega)only[go_sem]
    refine ql [] [] [] [.ag [.v (.slice none 0 0)]] rfl (by simp(disch:=omega)only[go_sem]) (by simp(disch:=omega)only[go_sem]) (by simp) (by intro _;simp[zb,AV.pu,AV.pu.puL,Ob.pu,qQ]) (.inl ⟨h0,rfl,rfl⟩)
   ·refine⟨⟨by simp,by simp(disch:=omega)only[go_sem]⟩,?_⟩
    simp(disch:=omega)only[go_sem]
    refine ql [(0,620000000)] [.own 1 (qg (lim (a+b)++zs))] [] [.ag [.rf 0 0 (lim (a+b)).length]] rfl (by simp(disch:=omega)only[go_sem]) (by simp(disch:=omega)only[go_sem]) (by simp) (by intro _;simp[zb,AV.pu,AV.pu.puL,Ob.pu,qQ]) (.inr ⟨zs,rfl,rfl⟩)
end Go.Ab
namespace Go.Ab
open Go Go.Proofs
set_option maxRecDepth 100000 in
theorem Xk(cl:Bool)(A:List Int)(hA:gd A)(b:Nat)(lA:A.length≤1000000)(lB:(lim b).length≤1000000)(m:Nat)(hm:vl A*(b:Int)=(m:Int)):
  Con Tryz.prog 264 cl [.ag [.sl A.length (qg A)],.ag [.sl (lim (b)).length (qg (lim (b)))]] [] (ak8 m):=by
 refine Con.of_aw Tryz.func264 rfl Tryz.ntmps264 (by simp) (by simp) (by simp) (W.sound ?_)
 show @W Tryz.prog 80 ⟨_⟩ ⟨fun x σ=>@q8 _ _ _ ⟨_⟩ _ ⟨_⟩ x σ⟩ _ _
 have hvb:=qY b
 have hB:=q5 b
 generalize lim b=B at*
 simp(disch:=omega)only[go_sem]
 refine⟨by omega,?_⟩
 refine qj (fun x:Nat×List Int=>[(2,.pt 0 0),(3,.pt 1 0),(4,.pt 2 0),(5,.rf 3 0 (A.length+B.length)),(6,.v (.int .i64 x.1))])
  (fun x=>[(0,.own 0 [.sl A.length (qg A)]),(1,.own 0 [.sl B.length (qg B)]),(2,.own 0 [.v (.slice none 0 0)]),(3,.own 1 (qg x.2))])
  (fun x=>x.1≤A.length∧x.2.length=A.length+B.length∧gd x.2∧vl x.2=vl (A.take x.1)*vl B∧∀j,x.1+B.length≤j→x.2.getD j 0=0)
  (fun x=>A.length-x.1) (0,List.replicate (A.length+B.length) 0) ⟨by simp,by simp,zk _,by simp[zY,vl],fun j _=>by
   rw[List.getD_eq_getElem?_getD,List.getElem?_replicate];split<;>rfl⟩
  (Le.lst [(0,40000000),(1,50000000),(2,60000000),(3,190000000)] _ _ rfl (by simp(disch:=omega)only[go_sem];try omega) (by simp(disch:=omega)only[go_sem,show((A.length:Int)+(B.length:Int)).toNat=A.length+B.length by omega])) ?_
 rintro⟨i,out⟩ ⟨hi,hol,hog,hov,hoz⟩
 dsimp only at hi hol hog hov hoz ⊢
 simp(disch:=omega)only[go_sem]
 refine qh (fun h1=>?_) (fun h1=>?_)
 ·have hx:=qL hA i
  simp(disch:=omega)only[go_sem,h1]
  refine qj (fun x:Nat×List Int×Int=>[(2,.pt 0 0),(3,.pt 1 0),(4,.pt 2 0),(5,.rf 3 0 (A.length+B.length)),(6,.v (.int .i64 i)),(7,.v (.int .i64 x.2.2)),(8,.v (.int .i64 x.1))])
   (fun x=>[(0,.own 0 [.sl A.length (qg A)]),(1,.own 0 [.sl B.length (qg B)]),(2,.own 0 [.v (.slice none 0 0)]),(3,.own 1 (qg x.2.1))])
   (fun x=>x.1≤B.length∧x.2.1.length=A.length+B.length∧gd x.2.1∧(0≤x.2.2∧x.2.2<65536)∧vl x.2.1+65536^(i+x.1)*x.2.2=vl out+65536^i*(A.getD i 0*vl (B.take x.1))∧∀j,i+B.length≤j→x.2.1.getD j 0=0)
   (fun x=>B.length-x.1) (0,out,0) ⟨by simp,hol,hog,by simp,by simp[vl],hoz⟩
   (Le.lst [] _ _ rfl (by simp(disch:=omega)only[go_sem];try omega) (by simp(disch:=omega)only[go_sem])) ?_
  rintro⟨j,o2,cy⟩ ⟨hj,hol2,hog2,hcy,hov2,hoz2⟩
  dsimp only at hj hol2 hog2 hcy hov2 hoz2 ⊢
  simp(disch:=omega)only[go_sem]
  refine qh (fun h2=>?_) (fun h2=>?_)
  ·have hy:=qL hB j
   have ho:=qL hog2 (i+j)
   have hxy:=ago hx hy
   have e1:((i:Int)+(j:Int)).toNat=i+j:=by omega
   simp(disch:=omega)only[go_sem,h2]
   refine qs rfl [⟨0,[],[]⟩,⟨1,[],[]⟩,⟨2,[],[]⟩,⟨3,[],[]⟩,⟨4,[],[]⟩,⟨5,[],[]⟩,⟨6,[5],[]⟩,⟨7,[5],[]⟩,⟨8,[5,7],[]⟩,⟨9,[5],[]⟩,⟨10,[5],[]⟩,⟨11,[5,7,10],[]⟩,⟨12,[5,7,10],[]⟩,⟨13,[5,7,10,12],[]⟩,⟨14,[5,7,10],[]⟩,⟨15,[5,7,10],[]⟩,⟨16,[5],[]⟩,⟨17,[],[]⟩,⟨18,[5,7,10,12,15],[]⟩,⟨19,[],[]⟩,⟨20,[],[]⟩] (by kernel_rfl) ?_
   simp(disch:=omega)only[go_sem,e1]
   generalize hq:o2.getD (i+j) 0+A.getD i 0*B.getD j 0+cy=q
   refine⟨by omega,by omega,by omega,by omega,by omega,by omega,by omega,by omega,qe (j+1,o2.set (i+j) (q % 65536),q/65536) [] ⟨by show j+1≤_;omega,by simp[hol2],yK hog2 (by omega),by show 0≤q/65536∧q/65536<65536;omega,?_,fun k hk=>?_⟩
    (by show B.length-(j+1)<B.length-j;omega) rfl (by simp(disch:=omega)only[go_sem];try omega) (by simp(disch:=omega)only[go_sem])⟩
   ·show vl (o2.set (i+j) (q % 65536))+65536^(i+(j+1))*(q/65536)=vl out+65536^i*(A.getD i 0*vl (B.take (j+1)))
    rw[ZW (by omega),jm (by omega),←Nat.add_assoc,Int.pow_succ]
    have e2:(65536:Int)^(i+j)=65536^i*65536^j:=Int.pow_add _ _ _
    have e3:q % 65536+65536*(q/65536)=q:=Int.emod_add_mul_ediv q 65536
    rw[e2]at hov2 ⊢
    generalize (65536:Int)^i=Pi at*
    generalize (65536:Int)^j=Pj at*
    grind
   ·show(o2.set (i+j) (q % 65536)).getD k 0=0
    rw[List.getD_eq_getElem?_getD,List.getElem?_set_ne (by omega),←List.getD_eq_getElem?_getD]
    exact hoz2 k hk
  ·simp(disch:=omega)only[go_sem,h2]
   have e1:((i:Int)+(B.length:Int)).toNat=i+B.length:=by omega
   have hjB:j=B.length:=by omega
   subst hjB
   rw[List.take_length]at hov2
   have hz:=hoz2 (i+B.length) (Nat.le_refl _)
   refine qs rfl [⟨0,[],[]⟩,⟨1,[],[]⟩,⟨2,[],[]⟩,⟨3,[],[]⟩,⟨4,[],[]⟩,⟨5,[],[]⟩,⟨6,[3],[]⟩,⟨7,[3],[]⟩,⟨8,[3],[]⟩,⟨9,[3],[]⟩,⟨10,[3],[]⟩,⟨11,[3],[]⟩,⟨12,[3],[]⟩,⟨13,[3],[]⟩,⟨14,[3,9,13],[]⟩,⟨15,[3],[]⟩,⟨16,[],[]⟩,⟨17,[],[]⟩] (by kernel_rfl) ?_
   simp(disch:=omega)only[go_sem,e1,hz]
   have e0:(0:Int)+cy=cy:=by omega
   refine⟨by omega,by omega,by omega,by omega,qe (i+1,o2.set (i+B.length) cy) [] ⟨by show i+1≤_;omega,by simp[hol2],yK hog2 hcy,?_,fun k hk=>?_⟩ (by show A.length-(i+1)<A.length-i;omega) rfl (by simp(disch:=omega)only[go_sem];try omega) (by simp(disch:=omega)only[go_sem,e0])⟩
   ·show vl (o2.set (i+B.length) cy)=vl (A.take (i+1))*vl B
    rw[ZW (by omega),hz,jm (by omega)]
    generalize (65536:Int)^i=Pi at*
    grind
   ·show(o2.set (i+B.length) cy).getD k 0=0
    rw[List.getD_eq_getElem?_getD,List.getElem?_set_ne (by show i+B.length≠k;omega),←List.getD_eq_getElem?_getD]
    exact hoz2 k (by omega)
 ·simp(disch:=omega)only[go_sem,h1]
  have hiA:i=A.length:=by omega
  subst hiA
  rw[List.take_length,hvb,hm]at hov
  rw[←hol]
  refine qr (jK true (out) (m) (by omega) (hog) (hov)) (by simp(disch:=omega)only[go_sem]) ?_
  rintro r hs (⟨h0,rfl,rfl⟩|⟨zs,rfl,rfl⟩)
  ·refine⟨⟨by simp,by simp(disch:=omega)only[go_sem]⟩,?_⟩
   simp(disch:=omega)only[go_sem]
   refine ql [] [] [] [.ag [.v (.slice none 0 0)]] rfl (by simp(disch:=omega)only[go_sem]) (by simp(disch:=omega)only[go_sem]) (by simp) (by intro _;simp[zb,AV.pu,AV.pu.puL,Ob.pu,qQ]) (.inl ⟨h0,rfl,rfl⟩)
  ·refine⟨⟨by simp,by simp(disch:=omega)only[go_sem]⟩,?_⟩
   simp(disch:=omega)only[go_sem]
   refine ql [(0,810000000)] [.own 1 (qg (lim (m)++zs))] [] [.ag [.rf 0 0 (lim (m)).length]] rfl (by simp(disch:=omega)only[go_sem]) (by simp(disch:=omega)only[go_sem]) (by simp) (by intro _;simp[zb,AV.pu,AV.pu.puL,Ob.pu,qQ]) (.inr ⟨zs,rfl,rfl⟩)
theorem ah4(cl:Bool)(a b:Nat)(la:(lim a).length≤1000000)(lb:(lim b).length≤1000000):Con Tryz.prog 264 cl [.ag [.sl (lim (a)).length (qg (lim (a)))],.ag [.sl (lim (b)).length (qg (lim (b)))]] [] (ak8 (a*b)):=
 Xk cl (lim a) (q5 a) b la lb (a*b) (by rw[qY,Int.natCast_mul])
end Go.Ab
namespace Go.Ab
open Go Go.Proofs
theorem yV(k:Nat)(h:k<16):(0:Int)<2^k∧(2:Int)^k≤32768:=by
 have:∀k,k<16→(0:Int)<2^k∧(2:Int)^k≤32768:=by decide
 exact this k h
theorem agn{x:Int}(hx:0≤x∧x<65536){k:Nat}(hk:k<16):0≤x*2^k∧x*2^k≤2147450880:=by
 obtain⟨h1,h2⟩:=yV k hk
 have h3:=Int.mul_nonneg hx.1 (Int.le_of_lt h1)
 have h4:x*2^k≤65535*32768:=Int.mul_le_mul (by omega) h2 (by omega) (by omega)
 omega
theorem VS(k:Nat):(65536:Int)^(k/16)*2^(k % 16)=2^k:=by
 have e:(65536:Int)=2^16:=by decide
 rw[e,←Int.pow_mul,←Int.pow_add,Nat.div_add_mod]
theorem axI(cl:Bool)(A:List Int)(k:Nat)(hA:gd A)(lA:A.length≤1000000)(hk:k≤100000000):
  Con Tryz.prog 214 cl [.sl A.length (qg A),.v (.int .i64 k)] [] (agb (lim (vl A*2^k).toNat)):=by
 refine Con.of_aw Tryz.func214 rfl Tryz.ntmps214 (by simp) (by simp) (by simp) (W.sound ?_)
 show @W Tryz.prog 46 ⟨_⟩ ⟨fun x σ=>@q8 _ _ _ ⟨_⟩ _ ⟨_⟩ x σ⟩ _ _
 simp(disch:=omega)only[go_sem]
 refine qh (fun h0=>?_) (fun h0=>?_)
 ·simp(disch:=omega)only[go_sem,h0]
  have:A=[]:=List.length_eq_zero_iff.1 (by omega)
  subst this
  refine ql [] [] [] [.v (.slice none 0 0)] rfl (by simp(disch:=omega)only[go_sem]) (by simp(disch:=omega)only[go_sem]) (by simp) (by intro _;simp[zb,AV.pu,AV.pu.puL,Ob.pu,qQ]) (.inl ⟨by simp[vl,qt],rfl,rfl⟩)
 ·simp(disch:=omega)only[go_sem,h0]
  refine⟨by omega,?_⟩
  have e16:((k:Int)/16).toNat=k/16:=by omega
  refine qj (fun x:Nat×List Int×Int=>[(1,.v (.int .i64 k)),(5,.rf 1 0 x.2.1.length),(6,.v (.int .i64 x.2.2)),(21,.sl A.length (qg A)),(22,.v (.int .i64 A.length)),(23,.v (.int .i64 x.1))])
   (fun x=>[(1,.own 1 (qg x.2.1))])
   (fun x=>x.1≤A.length∧x.2.1.length=k/16+x.1∧gd x.2.1∧(0≤x.2.2∧x.2.2<65536)∧vl x.2.1+65536^(k/16+x.1)*x.2.2=65536^(k/16)*2^(k % 16)*vl (A.take x.1))
   (fun x=>A.length-x.1) (0,List.replicate (k/16) 0,0) ⟨by simp,by simp,zk _,by simp,by simp[vl,zY]⟩
   (Le.lst [(1,220000000)] _ _ rfl (by simp(disch:=omega)only[go_sem,List.length_replicate,e16]) (by simp(disch:=omega)only[go_sem,e16])) ?_
  rintro⟨i,out,cy⟩ ⟨hi,hol,hog,hcy,hov⟩
  dsimp only at hi hol hog hcy hov ⊢
  simp(disch:=omega)only[go_sem]
  refine qh (fun h1=>?_) (fun h1=>?_)
  ·have hx:=qL hA i
   have hxs:=agn hx (show k % 16<16 by omega)
   have em:min ((k:Int) % 16).toNat 64=k % 16:=by omega
   simp(disch:=omega)only[go_sem,h1,em]
   generalize hq:cy+A.getD i 0*2^(k % 16)=q
   refine⟨by omega,by omega,by omega,by omega,qe (i+1,out++[q % 65536],q/65536) [(1,390000000)] ⟨by show i+1≤_;omega,by simp[hol];omega,qM.2 ⟨hog,jf.2 (by omega)⟩,by show 0≤q/65536∧q/65536<65536;omega,?_⟩ (by show A.length-(i+1)<A.length-i;omega) rfl (by simp(disch:=omega)only[go_sem,List.length_append];try omega) (by simp(disch:=omega)only[go_sem])⟩
   show vl (out++[q % 65536])+65536^(k/16+(i+1))*(q/65536)=65536^(k/16)*2^(k % 16)*vl (A.take (i+1))
   rw[jL,qX,hol,←Nat.add_assoc,Int.pow_succ]
   have e3:q % 65536+65536*(q/65536)=q:=Int.emod_add_mul_ediv q 65536
   rw[Int.pow_add]at hov ⊢
   generalize (65536:Int)^i=Pi at*
   generalize (65536:Int)^(k/16)=Pk at*
   generalize (2:Int)^(k % 16)=Pm at*
   grind
  ·simp(disch:=omega)only[go_sem,h1]
   have hiA:i=A.length:=by omega
   subst hiA
   rw[List.take_length,VS]at hov
   have hov2:vl (out++[cy])=vl A*2^k:=by rw[jL,hol,hov];grind
   have hog2:gd (out++[cy]):=qM.2 ⟨hog,jf.2 hcy⟩
   refine⟨by omega,?_⟩
   have hl2:out.length+1=(out++[cy]).length:=by simp
   rw[hl2]
   refine zf false [460000000] (jE (out++[cy]) (by simp;omega)) (by simp(disch:=omega)only[go_sem]) (by simp(disch:=omega)only[go_sem]) rfl (qZ (z:=1) (cs:=qg (out++[cy])) (by simp(disch:=omega)only[go_sem]) (by simp(disch:=omega)only[go_sem])) (by intro n hn;exact⟨_,List.mem_singleton.2 rfl,by rw[List.mem_singleton.1 hn];rfl⟩) ?_
   rintro r hs bs ⟨rfl,rfl,rfl⟩ _
   refine⟨by simp[qB],?_⟩
   simp(disch:=omega)only[go_sem]
   obtain⟨z,hz⟩:=zV (out++[cy])
   have hc:=jk hog2
   rw[hov2]at hc
   rw[hc]at hz ⊢
   refine ql [(0,460000000)] [.own 1 (qg (out++[cy]))] [] [.rf 0 0 (lim (vl A*2^k).toNat).length] rfl (by simp(disch:=omega)only[go_sem]) (by simp(disch:=omega)only[go_sem]) (by simp) (by intro _;simp[zb,AV.pu,AV.pu.puL,Ob.pu,qQ]) (.inr ⟨List.replicate z 0,rfl,by rw[←hz]⟩)
end Go.Ab
namespace Go.Ab
open Go Go.Proofs
theorem drop_set{l:List Int}{i:Nat}(h:i<l.length)(z:Int):(l.set i z).drop i=z::l.drop (i+1):=by
 rw[List.drop_eq_getElem_cons (by simpa using h)]
 simp[List.drop_set]
theorem amp(cl:Bool)(A:List Int)(d:Nat)(hA:gd A)(lA:A.length≤1000000)(hd:0<d)(hd2:d<65536):
  Con Tryz.prog 327 cl [.sl A.length (qg A),.v (.int .i64 d)] [] (fun r hs bs=>∃zs,r=.tu [.rf 0 0 (lim (vl A/d).toNat).length,.v (.int .i64 (vl A % d))]∧hs=[.own 1 (qg (lim (vl A/d).toNat++zs))]):=by
 refine Con.of_aw Tryz.func327 rfl Tryz.ntmps327 (by simp) (by simp) (by simp) (W.sound ?_)
 show @W Tryz.prog 38 ⟨_⟩ ⟨fun x σ=>@q8 _ _ _ ⟨_⟩ _ ⟨_⟩ x σ⟩ _ _
 simp(disch:=omega)only[go_sem]
 refine⟨by omega,?_⟩
 refine qj (fun x:Nat×List Int×Int=>[(0,.sl A.length (qg A)),(1,.v (.int .i64 d)),(6,.rf 130000000 0 A.length),(7,.v (.int .i64 x.2.2)),(8,.v (.int .i64 ((x.1:Int)-1)))])
  (fun x=>[(130000000,.own 1 (qg x.2.1))])
  (fun x=>x.1≤A.length∧x.2.1.length=A.length∧gd x.2.1∧x.2.2=vl (A.drop x.1) % d∧vl (x.2.1.drop x.1)=vl (A.drop x.1)/d)
  (fun x=>x.1) (A.length,List.replicate A.length 0,0) ⟨by simp,by simp,zk _,by simp[vl],by simp[vl]⟩
  (Le.lst [] _ _ rfl (by simp(disch:=omega)only[go_sem];try omega) (by simp(disch:=omega)only[go_sem])) ?_
 rintro⟨m,out,rest⟩ ⟨hm,hol,hog,hr,hov⟩
 dsimp only at hm hol hog hr hov ⊢
 simp(disch:=omega)only[go_sem]
 refine qh (fun h1=>?_) (fun h1=>?_)
 ·obtain⟨i,rfl⟩:∃i,m=i+1:=⟨m-1,by omega⟩
  have e1:((i+1:Nat):Int)-1=(i:Nat):=by omega
  have hx:=qL hA i
  have hr2:0≤rest∧rest<d:=by rw[hr];exact⟨Int.emod_nonneg _ (by omega),Int.emod_lt_of_pos _ (by omega)⟩
  generalize hq:rest*65536+A.getD i 0=q
  have hq0:0≤q:=by omega
  have hqd:0≤q/d∧q/d<65536:=⟨Int.ediv_nonneg hq0 (by omega),Int.ediv_lt_of_lt_mul (by omega) (by omega)⟩
  have hqm:0≤q % d∧q % d<d:=⟨Int.emod_nonneg _ (by omega),Int.emod_lt_of_pos _ (by omega)⟩
  simp(disch:=omega)only[go_sem,h1,e1,hq]
  refine⟨by omega,by omega,by omega,by omega,by omega,by omega,qe (i,out.set i (q/d),q % d) [] ⟨by show i≤_;omega,by simp[hol],yK hog hqd,?_,?_⟩ (by show i<i+1;omega) rfl (by simp(disch:=omega)only[go_sem]) (by simp(disch:=omega)only[go_sem])⟩
  ·show q % d=vl (A.drop i) % d
   rw[zG (l:=A) (i:=i) (by omega),←hq,hr]
   have h3:=Int.emod_add_mul_ediv (vl (A.drop (i+1))) d
   rw[show A.getD i 0+65536*vl (A.drop (i+1))=vl (A.drop (i+1)) % d*65536+A.getD i 0+d*(65536*(vl (A.drop (i+1))/d)) by grind,Int.add_mul_emod_self_left]
  ·show vl ((out.set i (q/d)).drop i)=vl (A.drop i)/d
   rw[drop_set (by omega),vl,hov,zG (l:=A) (i:=i) (by omega),←hq,hr]
   have h3:=Int.emod_add_mul_ediv (vl (A.drop (i+1))) d
   rw[show A.getD i 0+65536*vl (A.drop (i+1))=vl (A.drop (i+1)) % d*65536+A.getD i 0+d*(65536*(vl (A.drop (i+1))/d)) by grind,Int.add_mul_ediv_left _ _ (by omega)]
 ·simp(disch:=omega)only[go_sem,h1]
  have:m=0:=by omega
  subst this
  rw[List.drop_zero,List.drop_zero]at hov
  rw[List.drop_zero]at hr
  rw[←hol]
  refine zf false [130000000] (jE out (by omega)) (by simp(disch:=omega)only[go_sem]) (by simp(disch:=omega)only[go_sem]) rfl (qZ (z:=1) (cs:=qg out) (by simp(disch:=omega)only[go_sem]) (by simp(disch:=omega)only[go_sem])) (by intro n hn;exact⟨_,List.mem_singleton.2 rfl,by rw[List.mem_singleton.1 hn];rfl⟩) ?_
  rintro r hs bs ⟨rfl,rfl,rfl⟩ _
  refine⟨by simp[qB],?_⟩
  simp(disch:=omega)only[go_sem]
  obtain⟨z,hz⟩:=zV out
  have hc:=jk hog
  rw[hov]at hc
  rw[hc]at hz ⊢
  rw[hr]
  refine ql [(0,130000000)] [.own 1 (qg out)] [] [.rf 0 0 (lim (vl A/d).toNat).length,.v (.int .i64 (vl A % d))] rfl (by simp(disch:=omega)only[go_sem]) (by simp(disch:=omega)only[go_sem]) (by simp) (by intro _;simp[zb,AV.pu,AV.pu.puL,Ob.pu,qQ]) ⟨List.replicate z 0,rfl,by rw[←hz]⟩
end Go.Ab
namespace Go.Ab
open Go Go.Proofs
def auK(m:Nat)(r0:Int):AV→List Ob→List Ob→Prop:=fun r hs bs=>
 (m=0∧r=.tu [.ag [.v (.slice none 0 0)],.v (.int .i64 r0)]∧hs=[])∨∃zs,r=.tu [.ag [.rf 0 0 (lim m).length],.v (.int .i64 r0)]∧hs=[.own 1 (qg (lim m++zs))]
theorem Con.natF2{P:Program}{f:FuncId}{args:List AV}{m:Nat}{r0:Int}(h:Con P f false args [] (auK m r0)):Con P f false args [] (isA (.tu [.ag [.sl (lim (m)).length (qg (lim (m)))],.v (.int .i64 r0)])):=
 Con.frzA <| h.mono fun r hs bs h=>by
  rcases h with⟨rfl,rfl,rfl⟩|⟨zs,rfl,rfl⟩
  ·show qE _ 6 _=_
   rw[qt];rfl
  ·show qE _ 6 _=_
   rw[aag,List.map_cons,List.map_cons,List.map_nil,XB,List.map_cons,List.map_nil,ja (k:=2) (l:=lim m) (zs:=zs) zg rfl]
   rfl
theorem Z5(cl:Bool)(A:List Int)(d:Nat)(hA:gd A)(lA:A.length≤1000000)(hd:0<d)(hd2:d<65536)(m:Nat)(hm:vl A/(d:Int)=(m:Int)):
  Con Tryz.prog 249 cl [.ag [.sl A.length (qg A)],.v (.int .i64 d)] [] (auK m (vl A % d)):=by
 refine Con.of_aw Tryz.func249 rfl Tryz.ntmps249 (by simp) (by simp) (by simp) (W.sound ?_)
 show @W Tryz.prog 42 ⟨_⟩ ⟨fun x σ=>@q8 _ _ _ ⟨_⟩ _ ⟨_⟩ x σ⟩ _ _
 simp(disch:=omega)only[go_sem]
 refine⟨by omega,?_⟩
 refine qj (fun x:Nat×List Int×Int=>[(1,.v (.int .i64 d)),(2,.pt 0 0),(4,.pt 1 0),(6,.rf 2 0 A.length),(7,.v (.int .i64 x.2.2)),(8,.v (.int .i64 ((x.1:Int)-1)))])
  (fun x=>[(0,.own 0 [.sl A.length (qg A)]),(1,.own 0 [.v (.slice none 0 0)]),(2,.own 1 (qg x.2.1))])
  (fun x=>x.1≤A.length∧x.2.1.length=A.length∧gd x.2.1∧x.2.2=vl (A.drop x.1) % d∧vl (x.2.1.drop x.1)=vl (A.drop x.1)/d)
  (fun x=>x.1) (A.length,List.replicate A.length 0,0) ⟨Nat.le_refl _,by simp,zk _,by simp[vl],by simp[vl]⟩
  (Le.lst [(0,40000000),(1,60000000),(2,150000000)] _ _ rfl (by simp(disch:=omega)only[go_sem,List.length_replicate];try omega) (by simp(disch:=omega)only[go_sem])) ?_
 rintro⟨k,out,rest⟩ ⟨hk,hol,hog,hr,hov⟩
 dsimp only at hk hol hog hr hov ⊢
 have hr0:0≤rest∧rest<d:=by rw[hr];exact⟨Int.emod_nonneg _ (by omega),Int.emod_lt_of_pos _ (by omega)⟩
 simp(disch:=omega)only[go_sem]
 refine qh (fun h1=>?_) (fun h1=>?_)
 ·obtain⟨i,rfl⟩:∃i,k=i+1:=⟨k-1,by omega⟩
  have ei:((i+1:Nat):Int)-1=(i:Nat):=by omega
  have hx:=qL hA i
  have hq6:0≤(rest*65536+A.getD i 0)/d∧(rest*65536+A.getD i 0)/d<65536:=by
   refine⟨Int.ediv_nonneg (by omega) (by omega),Int.ediv_lt_of_lt_mul (by omega) ?_⟩
   have:rest+1≤(d:Int):=by omega
   have:=Int.mul_le_mul_of_nonneg_left this (show(0:Int)≤65536 by omega)
   omega
  simp(disch:=omega)only[go_sem,h1,ei]
  generalize hq:rest*65536+A.getD i 0=q at*
  refine⟨by omega,by omega,by omega,by omega,by omega,by omega,qe (i,out.set i (q/d),q % d) [] ⟨by show i≤_;omega,by simp[hol],yK hog hq6,?_,?_⟩ (by show i<i+1;omega) rfl (by simp(disch:=omega)only[go_sem];try omega) (by simp(disch:=omega)only[go_sem])⟩
  ·show q % d=vl (A.drop i) % d
   rw[zG (l:=A) (i:=i) (by omega),←hq,hr]
   have h3:=Int.emod_add_mul_ediv (vl (A.drop (i+1))) d
   rw[show A.getD i 0+65536*vl (A.drop (i+1))=vl (A.drop (i+1)) % d*65536+A.getD i 0+d*(65536*(vl (A.drop (i+1))/d)) by grind,Int.add_mul_emod_self_left]
  ·show vl ((out.set i (q/d)).drop i)=vl (A.drop i)/d
   rw[drop_set (by omega),vl,hov,zG (l:=A) (i:=i) (by omega),←hq,hr]
   have h3:=Int.emod_add_mul_ediv (vl (A.drop (i+1))) d
   rw[show A.getD i 0+65536*vl (A.drop (i+1))=vl (A.drop (i+1)) % d*65536+A.getD i 0+d*(65536*(vl (A.drop (i+1))/d)) by grind,Int.add_mul_ediv_left _ _ (by omega)]
 ·simp(disch:=omega)only[go_sem,h1]
  have:k=0:=by omega
  subst this
  rw[List.drop_zero,List.drop_zero,hm]at hov
  rw[List.drop_zero]at hr
  rw[←hol]
  refine qr (jK true out m (by omega) hog hov) (by simp(disch:=omega)only[go_sem]) ?_
  rintro r hs (⟨h0,rfl,rfl⟩|⟨zs,rfl,rfl⟩)
  ·refine⟨⟨by simp,by simp(disch:=omega)only[go_sem]⟩,?_⟩
   simp(disch:=omega)only[go_sem]
   rw[hr]
   refine ql [] [] [] [.ag [.v (.slice none 0 0)],.v (.int .i64 (vl A % d))] rfl (by simp(disch:=omega)only[go_sem]) (by simp(disch:=omega)only[go_sem]) (by simp) (by intro _;simp[zb,AV.pu,AV.pu.puL,Ob.pu,qQ]) (.inl ⟨h0,rfl,rfl⟩)
  ·refine⟨⟨by simp,by simp(disch:=omega)only[go_sem]⟩,?_⟩
   simp(disch:=omega)only[go_sem]
   rw[hr]
   refine ql [(0,420000000)] [.own 1 (qg (lim m++zs))] [] [.ag [.rf 0 0 (lim m).length],.v (.int .i64 (vl A % d))] rfl (by simp(disch:=omega)only[go_sem]) (by simp(disch:=omega)only[go_sem]) (by simp) (by intro _;simp[zb,AV.pu,AV.pu.puL,Ob.pu,qQ]) (.inr ⟨zs,rfl,rfl⟩)
theorem KD(a d:Nat)(la:(lim a).length≤1000000)(hd:0<d)(hd2:d<65536):
  Con Tryz.prog 249 false [.ag [.sl (lim (a)).length (qg (lim (a)))],.v (.int .i64 d)] [] (isA (.tu [.ag [.sl (lim (a/d)).length (qg (lim (a/d)))],.v (.int .i64 ((a % d:Nat):Int))])):=by
 have:=(Z5 false (lim a) d (q5 a) la hd hd2 (a/d) (by rw[qY,Int.natCast_ediv])).natF2
 rwa[qY,←Int.natCast_emod]at this
/-! ### Shifts-/
theorem afI{k:Nat}(hk:k<16):IntKind.i64.wrap (1*2^(min ((k:Int)).toNat 64))=((2^k:Nat):Int):=by
 have e:min ((k:Int)).toNat 64=k:=by omega
 rw[e,Int.one_mul]
 have h:=yV k hk
 rw[aeQ (by omega) (by omega),Int.natCast_pow];rfl
theorem ah3(cl:Bool)(a k:Nat)(la:(lim a).length≤400000)(hk:k≤5000000):Con Tryz.prog 247 cl [.ag [.sl (lim (a)).length (qg (lim (a)))],.v (.int .i64 k)] [] (ak8 (a*2^k)):=by
 refine Con.of_aw Tryz.func247 rfl Tryz.ntmps247 (by simp) (by simp) (by simp) (W.sound ?_)
 show @W Tryz.prog 22 ⟨_⟩ ⟨fun x σ=>@q8 _ _ _ ⟨_⟩ _ ⟨_⟩ x σ⟩ _ _
 have hz:((lim a).length:Int)=0→a=0:=fun h=>qJ.1 (List.length_eq_zero_iff.1 (by omega))
 have hvA:=qY a
 have gA:=q5 a
 generalize hLA:lim a=A at*
 simp(disch:=omega)only[go_sem]
 refine qh (fun h1=>?_) (fun h1=>?_)
 ·simp(disch:=omega)only[go_sem,h1]
  have h0:=hz h1
  subst h0
  refine ql [] [] [] [.ag [.v (.slice none 0 0)]] rfl (by simp(disch:=omega)only[go_sem]) (by simp(disch:=omega)only[go_sem]) (by simp) (by intro _;simp[zb,AV.pu,AV.pu.puL,Ob.pu,qQ]) (.inl ⟨by simp,rfl,rfl⟩)
 ·simp(disch:=omega)only[go_sem,h1]
  refine qs rfl [⟨0,[],[]⟩,⟨1,[],[]⟩,⟨3,[],[]⟩,⟨4,[],[]⟩,⟨7,[4],[]⟩,⟨8,[4],[]⟩,⟨9,[4],[]⟩,⟨2,[4],[]⟩,⟨5,[],[]⟩,⟨6,[],[]⟩,⟨10,[],[]⟩,⟨11,[],[]⟩,⟨12,[],[]⟩] (by kernel_rfl) ?_
  have e16:((k:Int)/16).toNat=k/16:=by omega
  have e17:(k:Int) % 16=((k % 16:Nat):Int):=by omega
  have es:IntKind.i64.wrap (1*2^(min ((k:Int) % 16).toNat 64))=((2^(k % 16):Nat):Int):=by rw[e17];exact afI (by omega)
  have hp15:2^(k % 16)≤2^15:=Nat.pow_le_pow_right (by omega) (by omega)
  have ecut:(List.replicate (k/16) (0:Int)).take (k/16)=List.replicate (k/16) 0:=List.take_of_length_le (by simp)
  simp(disch:=omega)only[go_sem,e16,ecut,es]
  refine⟨by omega,by omega,by simp;omega,?_⟩
  refine qa ((acA false (2^(k % 16)) (by omega)).natF) ?_
  simp(disch:=omega)only[go_sem]
  have hvA2:vl (List.replicate (k/16) 0++A)*((2^(k % 16):Nat):Int)=((a*2^k:Nat):Int):=by
   rw[QT,zY,hvA,List.length_replicate]
   have h2:a*2^k=65536^(k/16)*a*2^(k % 16):=by
    have:2^k=65536^(k/16)*2^(k % 16):=by rw[JL,←Nat.pow_add,Nat.div_add_mod]
    rw[this];grind
   rw[h2,Int.natCast_mul,Int.natCast_mul,Int.natCast_pow]
   simp
  have gA2:gd (List.replicate (k/16) 0++A):=qM.2 ⟨zk _,gA⟩
  have lA2:(List.replicate (k/16) (0:Int)++A).length=k/16+A.length:=by simp
  have et:(List.replicate (k/16) (0:Int)++A).take (k/16+A.length)=List.replicate (k/16) 0++A:=List.take_of_length_le (by simp)
  have l2s:(lim (2^(k % 16))).length≤1000000:=by
   have:=qx (m:=2^(k % 16)) (B:=16) (zN.2 (by omega));omega
  refine qr (Xk true (List.replicate (k/16) 0++A) gA2 (2^(k % 16)) (by omega) l2s (a*2^k) hvA2) (by simp(disch:=omega)only[go_sem,lA2,et]) ?_
  rintro r hs (⟨h0,rfl,rfl⟩|⟨zs,rfl,rfl⟩)
  ·refine⟨⟨by simp,by simp(disch:=omega)only[go_sem]⟩,?_⟩
   simp(disch:=omega)only[go_sem]
   refine ql [] [] [] [.ag [.v (.slice none 0 0)]] rfl (by simp(disch:=omega)only[go_sem]) (by simp(disch:=omega)only[go_sem]) (by simp) (by intro _;simp[zb,AV.pu,AV.pu.puL,Ob.pu,qQ]) (.inl ⟨h0,rfl,rfl⟩)
  ·refine⟨⟨by simp,by simp(disch:=omega)only[go_sem]⟩,?_⟩
   simp(disch:=omega)only[go_sem]
   refine ql [(0,230000000)] [.own 1 (qg (lim (a*2^k)++zs))] [] [.ag [.rf 0 0 (lim (a*2^k)).length]] rfl (by simp(disch:=omega)only[go_sem]) (by simp(disch:=omega)only[go_sem]) (by simp) (by intro _;simp[zb,AV.pu,AV.pu.puL,Ob.pu,qQ]) (.inr ⟨zs,rfl,rfl⟩)
end Go.Ab
namespace Go.Ab
open Go Go.Proofs
theorem KE(a k:Nat)(la:(lim a).length≤1000000)(hk:k≤100000000):Con Tryz.prog 178 false [.ag [.sl (lim (a)).length (qg (lim (a)))],.v (.int .i64 k)] [] (isA (.ag [.sl (lim (a/2^k)).length (qg (lim (a/2^k)))])):=by
 refine Con.frzA ?_
 refine Con.of_aw Tryz.func178 rfl Tryz.ntmps178 (by simp) (by simp) (by simp) (W.sound ?_)
 show @W Tryz.prog 28 ⟨_⟩ ⟨fun x σ=>@q8 _ _ _ ⟨_⟩ _ ⟨_⟩ x σ⟩ _ _
 simp(disch:=omega)only[go_sem]
 refine qh (fun h1=>?_) (fun h1=>?_)
 ·simp(disch:=omega)only[go_sem,h1]
  have h0:a/2^k=0:=by
   refine Nat.div_eq_of_lt (Nat.lt_of_lt_of_le (Z1 a) ?_)
   rw[JL];exact Nat.pow_le_pow_right (by omega) (by omega)
  rw[h0,qt]
  exact qo
 ·simp(disch:=omega)only[go_sem,h1]
  refine qs rfl [⟨0,[],[]⟩,⟨1,[],[]⟩,⟨2,[1],[]⟩,⟨3,[1],[]⟩,⟨4,[],[]⟩,⟨5,[],[]⟩,⟨6,[1,4],[]⟩,⟨7,[1,4],[]⟩,⟨8,[1,4],[]⟩,⟨13,[1,4],[]⟩,⟨9,[],[70000000]⟩,⟨10,[],[70000000]⟩,⟨11,[],[70000000]⟩,⟨12,[],[70000000]⟩,⟨14,[],[]⟩,⟨15,[],[]⟩] (by kernel_rfl) ?_
  have e16:((k:Int)/16).toNat=k/16:=by omega
  have e17:(k:Int) % 16=((k % 16:Nat):Int):=by omega
  have e18:(((lim a).length:Int)-(k:Int)/16).toNat=((lim a).drop (k/16)).length:=by simp;omega
  have es:IntKind.i64.wrap (1*2^(min ((k:Int) % 16).toNat 64))=((2^(k % 16):Nat):Int):=by rw[e17];exact afI (by omega)
  have hp15:2^(k % 16)≤2^15:=Nat.pow_le_pow_right (by omega) (by omega)
  have hp0:0<2^(k % 16):=Nat.pow_pos (by omega)
  have hvD:=abL (q5 a) (i:=k/16) (by omega)
  have gD:=y3 (q5 a) (k/16)
  have hlD:((lim a).drop (k/16)).length≤1000000:=by simp;omega
  have hm:vl ((lim a).drop (k/16))/((2^(k % 16):Nat):Int)=((a/2^k:Nat):Int):=by
   rw[←hvD,qY]
   have:a/2^k=a/65536^(k/16)/2^(k % 16):=by rw[Nat.div_div_eq_div_mul,JL,←Nat.pow_add,Nat.div_add_mod]
   rw[this,Int.natCast_ediv,Int.natCast_ediv,Int.natCast_pow 65536];rfl
  have et:((lim a).drop (k/16)).take ((lim a).drop (k/16)).length=(lim a).drop (k/16):=List.take_length
  simp(disch:=omega)only[go_sem,e16,e18,et,es]
  generalize (lim a).drop (k/16)=D at*
  refine⟨by omega,by omega,?_⟩
  refine qa ((Z5 false D (2^(k % 16)) gD hlD hp0 (by omega) (a/2^k) hm).natF2) ?_
  simp(disch:=omega)only[go_sem]
  exact qo
theorem asQ(a:Nat)(la:(lim a).length≤2^40):Con Tryz.prog 208 true [.ag [.sl (lim (a)).length (qg (lim (a)))]] [] (isA (.v (.int .i64 (bl a)))):=by
 refine Con.of_aw Tryz.func208 rfl Tryz.ntmps208 (by simp) (by simp) (by simp) (W.sound ?_)
 show @W Tryz.prog 29 ⟨_⟩ ⟨fun x σ=>@q8 _ _ _ ⟨_⟩ _ ⟨_⟩ x σ⟩ _ _
 simp(disch:=omega)only[go_sem]
 refine qh (fun h1=>?_) (fun h1=>?_)
 ·simp(disch:=omega)only[go_sem,h1]
  have:a=0:=qJ.1 (List.length_eq_zero_iff.1 (by omega))
  subst this
  rw[Qe]
  exact qu
 ·have hm:a≠0:=fun e=>by rw[e,qt]at h1;simp at h1
  have e2:(((lim a).length:Int)-1).toNat=(lim a).length-1:=by omega
  have ht:=JU hm
  have hb:=aiD hm
  have eq:(lim a).getD ((lim a).length-1) 0=((a/65536^((lim a).length-1):Nat):Int):=by rw[jc,Nat.mod_eq_of_lt ht.2]
  generalize a/65536^((lim a).length-1)=q at*
  simp(disch:=omega)only[go_sem,h1,e2,eq]
  refine⟨by omega,by omega,?_⟩
  refine qj (fun x:Nat×Nat=>[(3,.v (.int .i64 x.1)),(4,.v (.int .i64 x.2))]) (fun _=>[]) (fun x=>x.1+bl x.2=bl a∧x.2<65536∧x.1≤2^45) (fun x=>x.2) (16*((lim a).length-1),q) ⟨hb.symm,ht.2,by show 16*((lim a).length-1)≤2^45;omega⟩ (Le.lst [] _ _ rfl (by simp(disch:=omega)only[go_sem];try omega) (by simp(disch:=omega)only[go_sem])) ?_
  rintro⟨n,x⟩ ⟨hn,hx,hn2⟩
  dsimp only at hn hx hn2 ⊢
  simp(disch:=omega)only[go_sem]
  refine qh (fun h2=>?_) (fun h2=>?_)
  ·simp(disch:=omega)only[go_sem,h2]
   have hd:=anI (x:=x) (by omega)
   have hp:=zN.2 (show x<2^16 by omega)
   refine qe (n+1,x/2) [] ⟨by show n+1+bl (x/2)=bl a;omega,by show x/2<65536;omega,?_⟩ (by show x/2<x;omega) rfl (by simp(disch:=omega)only[go_sem];try omega) (by simp(disch:=omega)only[go_sem])
   show n+1≤2^45
   have:=Zh (m:=a)
   omega
  ·simp(disch:=omega)only[go_sem,h2]
   have:x=0:=by omega
   subst this
   rw[Qe]at hn
   refine qv (by simp(disch:=omega)only[go_sem]) (by simp(disch:=omega)only[go_sem]) ⟨?_,rfl,rfl⟩
   simp[zb];omega
theorem Ze(m:Nat)(i:Int)(hl:(lim m).length≤2^40)(hi:0≤i)(hi2:i<2^62):Con Tryz.prog 106 true [.ag [.sl (lim (m)).length (qg (lim (m)))],.v (.int .i64 i)] [] (isA (.v (.int .i64 ((m/2^i.toNat % 2:Nat):Int)))):=by
 refine Con.of_w (rs:=[.tmp 4]) Tryz.func106 rfl Tryz.ntmps106 rfl ?_
 obtain⟨k,rfl⟩:=Int.eq_ofNat_of_zero_le hi
 rw[Int.toNat_natCast]
 have h0:¬((k:Int)<0):=by omega
 have e16:((k:Int)/16).toNat=k/16:=by omega
 have em:min ((k:Int) % 16).toNat 64=k % 16:=by omega
 have hb:=aiE m k
 simp(disch:=omega)only[go_sem,h0]
 refine qh (fun h1=>?_) (fun h1=>?_)
 ·simp(disch:=omega)only[go_sem,h1]
  have:m/2^k % 2=0:=by
   rw[←hb]
   have h2:=jc m (k/16)
   rw[List.getD_eq_getElem?_getD,List.getElem?_eq_none (by omega)]at h2
   have h3:m/65536^(k/16) % 65536=0:=by simp only[Option.getD_none]at h2;omega
   rw[h3];simp
  rw[this]
  exact qu
 ·have hx:=qL (q5 m) (k/16)
  have hp:(0:Int)<2^(k % 16):=Int.pow_pos (by omega)
  have efd:∀x:Int,x.fdiv (2^(k % 16))=x/2^(k % 16):=fun x=>Int.fdiv_eq_ediv_of_nonneg _ (Int.le_of_lt hp)
  have hq:0≤(lim m).getD (k/16) 0/2^(k % 16)∧(lim m).getD (k/16) 0/2^(k % 16)<65536:=by
   refine⟨Int.ediv_nonneg hx.1 (Int.le_of_lt hp),Int.lt_of_le_of_lt (Int.ediv_le_self _ hx.1) hx.2⟩
  have hr:(lim m).getD (k/16) 0/2^(k % 16) % 2=((m/2^k % 2:Nat):Int):=by
   rw[←hb,jc]
   generalize m/65536^(k/16) % 65536=x
   rw[Int.natCast_emod,Int.natCast_ediv,Int.natCast_pow];rfl
  simp(disch:=omega)only[go_sem,h1,e16,em,efd,hr]
  refine⟨by omega,by omega,by omega,?_⟩
  exact qu
theorem ajc{m i:Nat}(hz:∀j,j<i→m/2^j % 2=0)(h1:m/2^i % 2=1):tz m=i:=by
 have key:∀k,k≤i→2^k*(m/2^k)=m:=by
  intro k
  induction k with
  |zero=>intro _;simp
  |succ k ih=>
   intro hk
   have h2:=ih (by omega)
   have h3:=hz k (by omega)
   have h4:m/2^(k+1)=m/2^k/2:=by rw[Nat.pow_succ,Nat.div_div_eq_div_mul]
   rw[h4,Nat.pow_succ,Nat.mul_assoc,show 2*(m/2^k/2)=m/2^k by omega];exact h2
 refine Jz (a:=m/2^i/2) ?_
 have:=key i (Nat.le_refl _)
 rw[show 2*(m/2^i/2)+1=m/2^i by omega];exact this.symm
theorem Ym(m:Nat)(hl:(lim m).length≤2^40):Con Tryz.prog 177 true [.ag [.sl (lim (m)).length (qg (lim (m)))]] [] (isA (.v (.int .i64 (tz m)))):=by
 refine Con.of_w (rs:=[.tmp 2]) Tryz.func177 rfl Tryz.ntmps177 rfl ?_
 simp(disch:=omega)only[go_sem]
 refine qj (fun i:Nat=>[(1,.pt 0 0),(3,.v (.int .i64 i))]) (fun _=>[(0,.own 0 [.sl (lim (m)).length (qg (lim (m)))])]) (fun i=>i≤16*(lim m).length∧∀j,j<i→m/2^j % 2=0) (fun i=>16*(lim m).length-i) 0 ⟨by omega,fun j hj=>by omega⟩ (Le.lst [(0,30000000)] _ _ rfl (by simp(disch:=omega)only[go_sem];try omega) (by simp(disch:=omega)only[go_sem])) ?_
 rintro i ⟨hi,hz⟩
 simp(disch:=omega)only[go_sem]
 refine qh (fun h1=>?_) (fun h1=>?_)
 ·simp(disch:=omega)only[go_sem,h1]
  refine qm (Ze m i hl (by omega) (by omega)) ?_
  simp(disch:=omega)only[go_sem]
  refine qh (fun h2=>?_) (fun h2=>?_)
  ·simp(disch:=omega)only[go_sem,h2]
   have:=ajc hz (by omega)
   rw[this]
   exact qu
  ·simp(disch:=omega)only[go_sem,h2]
   refine qe (i+1) [] ⟨by omega,fun j hj=>?_⟩ (by show 16*(lim m).length-(i+1)<16*(lim m).length-i;omega) rfl (by simp(disch:=omega)only[go_sem];try omega) (by simp(disch:=omega)only[go_sem])
   rcases(by omega:j<i∨j=i)with h|h
   ·exact hz j h
   ·subst h;omega
 ·simp(disch:=omega)only[go_sem,h1]
  have hm:m=0:=by
   have h3:=Zh (m:=m)
   rcases Nat.eq_zero_or_pos m with h|h
   ·exact h
   ·have h4:=Qf (n:=m) (by omega)
    have h5:=(Q3 (n:=m) (by omega)).1
    have:=hz (tz m) (by omega)
    omega
  subst hm
  rw[aeU]
  exact qu
end Go.Ab
namespace Go.Ab
open Go Go.Proofs
set_option maxRecDepth 100000 in
theorem abn(U V:List Int)(j:Nat)(hU:gd U)(hV:gd V)(lU:U.length≤2000000)(h2:2≤V.length)(hj:j+V.length<U.length)(hv1:32768≤V.getD (V.length-1) 0)(hW:vl (U.drop j)<65536*vl V):
  Con Tryz.prog 328 true [.sl U.length (qg U),.sl V.length (qg V),.v (.int .i64 j)] [] (fun r hs bs=>∃q:Int,r=.v (.int .i64 q)∧hs=[]∧bs=[]∧(0≤q∧q<65536)∧vl (U.drop j)<(q+1)*vl V∧q*vl V<vl (U.drop j)+vl V):=by
 refine Con.of_aw Tryz.func328 rfl Tryz.ntmps328 (by simp) (by simp) (by simp) (W.sound ?_)
 show @W Tryz.prog 76 ⟨_⟩ ⟨fun x σ=>@q8 _ _ _ ⟨_⟩ _ ⟨_⟩ x σ⟩ _ _
 have hDl:V.length<(U.drop j).length:=by simp;omega
 have hz:=abM (y3 hU j) hV hDl hW
 have hw:=asY hDl h2 hz
 have hvv:=anN h2
 rw[jg,jg,jg]at hw
 have hx0:=q9 (yB (y3 hU j) (V.length-2))
 have hx1:=Jc (yB (y3 hU j) (V.length-2))
 have hy0:=q9 (yB hV (V.length-2))
 have hy1:=Jc (yB hV (V.length-2))
 rw[List.length_take,Nat.min_eq_left (by omega)]at hx1 hy1
 have gu0:=qL hU (j+V.length)
 have gu1:=qL hU (j+(V.length-1))
 have gu2:=qL hU (j+(V.length-2))
 have gv1:=qL hV (V.length-1)
 have gv2:=qL hV (V.length-2)
 have htop:=auY hw hvv ⟨hx0,hx1⟩ ⟨hy0,hy1⟩ gu2.1 gu1.1 gv2.2 hW
 have e0:((j:Int)+(V.length:Int)).toNat=j+V.length:=by omega
 have e1:((j:Int)+(V.length:Int)-1).toNat=j+(V.length-1):=by omega
 have e2:((j:Int)+(V.length:Int)-2).toNat=j+(V.length-2):=by omega
 have f1:((V.length:Int)-1).toNat=V.length-1:=by omega
 have f2:((V.length:Int)-2).toNat=V.length-2:=by omega
 simp(disch:=omega)only[go_sem]
 refine qs rfl [⟨0,[],[]⟩,⟨1,[],[]⟩,⟨2,[],[]⟩,⟨3,[],[]⟩,⟨4,[],[]⟩,⟨5,[],[]⟩,⟨6,[],[]⟩,⟨7,[5],[]⟩,⟨8,[5],[]⟩,⟨9,[5],[]⟩,⟨10,[5],[]⟩,⟨11,[5],[]⟩,⟨12,[5],[]⟩,⟨13,[5],[]⟩,⟨14,[],[]⟩,⟨15,[],[]⟩] (by kernel_rfl) ?_
 simp(disch:=omega)only[go_sem,e0,e1]
 generalize hu0:U.getD (j+V.length) 0=u0 at*
 generalize hu1:U.getD (j+(V.length-1)) 0=u1 at*
 generalize hu2:U.getD (j+(V.length-2)) 0=u2 at*
 refine⟨by omega,by omega,by omega,by omega,?_⟩
 refine qs rfl [⟨0,[],[]⟩,⟨1,[],[]⟩,⟨2,[],[]⟩,⟨3,[],[]⟩,⟨4,[],[]⟩,⟨5,[],[]⟩,⟨6,[],[]⟩,⟨7,[5],[]⟩,⟨8,[5],[]⟩,⟨9,[5],[]⟩,⟨10,[5],[]⟩,⟨11,[5],[]⟩,⟨12,[5],[]⟩,⟨13,[5],[]⟩,⟨14,[12],[]⟩,⟨15,[],[]⟩] (by kernel_rfl) ?_
 simp(disch:=omega)only[go_sem,f1]
 generalize hvv1:V.getD (V.length-1) 0=v1 at*
 generalize hvv2:V.getD (V.length-2) 0=v2 at*
 generalize htt:u0*65536+u1=top at*
 refine⟨by omega,by omega,by omega,by omega,by omega,by omega,?_⟩
 have hq0:0≤top/v1:=Int.ediv_nonneg (by omega) (by omega)
 have hq1:top/v1≤65537:=by
  have:top/v1<65538:=Int.ediv_lt_of_lt_mul (by omega) (by omega)
  omega
 have hr0:=Int.emod_nonneg top (show v1≠0 by omega)
 have hr1:=Int.emod_lt_of_pos top (show 0<v1 by omega)
 have hqr:=Int.emod_add_mul_ediv top v1
 have hini:=aqv hw hvv ⟨hx0,hx1⟩ ⟨hy0,hy1⟩ gu2 gv2.1 hq0 (show top<(top/v1+1)*v1 by rw[Int.add_mul,Int.mul_comm (top/v1)];omega)
 have hqr':top/v1*v1+top % v1=top:=by rw[Int.mul_comm];omega
 generalize top/v1=q0 at*
 generalize top % v1=r0 at*
 refine qj (fun x:Int×Int=>[(0,.sl U.length (qg U)),(1,.sl V.length (qg V)),(2,.v (.int .i64 j)),(7,.v (.int .i64 V.length)),(9,.v (.int .i64 x.1)),(10,.v (.int .i64 x.2))])
  (fun _=>[]) (fun x=>(0≤x.1∧x.1≤65537)∧(0≤x.2∧x.2<65536)∧x.1*v1+x.2=top∧vl (U.drop j)<(x.1+1)*vl V) (fun x=>x.1.toNat) (q0,r0) ⟨⟨hq0,hq1⟩,⟨hr0,by omega⟩,hqr',hini⟩
  (Le.lst [] _ _ rfl (by simp(disch:=omega)only[go_sem];try omega) (by simp(disch:=omega)only[go_sem])) ?_
 rintro⟨q,r⟩ ⟨hq,hr,hqr2,hlt⟩
 dsimp only at hq hr hqr2 hlt ⊢
 have hqv:0≤q*v2∧q*v2≤65537*65535:=⟨Int.mul_nonneg hq.1 gv2.1,Int.mul_le_mul hq.2 (by omega) gv2.1 (by omega)⟩
 simp(disch:=omega)only[go_sem]
 refine qs rfl [⟨0,[],[]⟩,⟨1,[],[]⟩,⟨2,[],[]⟩,⟨3,[],[]⟩,⟨4,[],[]⟩,⟨5,[],[]⟩,⟨6,[],[]⟩,⟨7,[],[]⟩,⟨8,[],[]⟩,⟨9,[],[]⟩,⟨10,[8],[]⟩,⟨11,[8],[]⟩,⟨12,[8],[]⟩,⟨13,[8],[]⟩,⟨14,[8],[]⟩,⟨15,[8],[]⟩,⟨16,[8],[]⟩,⟨17,[8],[]⟩,⟨18,[8],[]⟩,⟨19,[8],[]⟩,⟨20,[],[]⟩,⟨21,[],[]⟩] (by kernel_rfl) ?_
 simp(disch:=omega)only[go_sem]
 refine je (fun h1=>?_) (fun h1=>?_)
 ·simp(disch:=omega)only[go_sem,h1,e2,f2,hu2,hvv2]
  refine⟨by omega,by omega,by omega,by omega,qh (fun h2=>?_) (fun h2=>?_)⟩
  ·simp(disch:=omega)only[go_sem,h2,f1,hvv1]
   have hst:=agJ hw hvv ⟨hx0,hx1⟩ ⟨hy0,hy1⟩ hW gv2.1 (by omega) hq.1 hqr2 (.inr h2)
   have hqp:0<q:=by
    rcases(by omega:0<q∨q=0)with h|h
    ·exact h
    ·subst h;omega
   have hm:(q-1)*v1+(r+v1)=top:=by rw[Int.sub_mul];omega
   refine⟨by omega,by omega,qh (fun h3=>?_) (fun h3=>?_)⟩
   ·simp(disch:=omega)only[go_sem,h3]
    have h4:q-1<65536:=by
     rcases(by omega:q-1<65536∨65536≤q-1)with h|h
     ·exact h
     ·have:=Int.mul_le_mul_of_nonneg_right h (show 0≤v1 by omega)
      omega
    have h5:(q-1)*v2≤(r+v1)*65536+u2:=by
     have:(q-1)*v2≤65535*65535:=Int.mul_le_mul (by omega) (by omega) gv2.1 (by omega)
     omega
    have h6:=aaF hw hvv ⟨hx0,hx1⟩ ⟨hy0,hy1⟩ gv2.1 (by omega) ⟨by omega,h4⟩ hm h5
    exact qv (by simp(disch:=omega)only[go_sem]) (by simp(disch:=omega)only[go_sem]) ⟨q-1,rfl,rfl,rfl,⟨by omega,h4⟩,by rw[show q-1+1=q by omega];exact hst,h6⟩
   ·simp(disch:=omega)only[go_sem,h3]
    refine qe (q-1,r+v1) [] ⟨by show 0≤q-1∧q-1≤65537;omega,by show 0≤r+v1∧r+v1<65536;omega,hm,by show _<(q-1+1)*vl V;rw[show q-1+1=q by omega];exact hst⟩ (by show(q-1).toNat<q.toNat;omega) rfl (by simp(disch:=omega)only[go_sem];try omega) (by simp(disch:=omega)only[go_sem])
  ·simp(disch:=omega)only[go_sem,h2]
   have h6:=aaF hw hvv ⟨hx0,hx1⟩ ⟨hy0,hy1⟩ gv2.1 (by omega) ⟨hq.1,by omega⟩ hqr2 (by omega)
   exact qv (by simp(disch:=omega)only[go_sem]) (by simp(disch:=omega)only[go_sem]) ⟨q,rfl,rfl,rfl,⟨hq.1,by omega⟩,hlt,h6⟩
 ·simp(disch:=omega)only[go_sem,h1,f1,hvv1]
  have hst:=agJ hw hvv ⟨hx0,hx1⟩ ⟨hy0,hy1⟩ hW gv2.1 (by omega) hq.1 hqr2 (.inl h1)
  have hqp:0<q:=by omega
  have hm:(q-1)*v1+(r+v1)=top:=by rw[Int.sub_mul];omega
  refine⟨by omega,by omega,qh (fun h3=>?_) (fun h3=>?_)⟩
  ·simp(disch:=omega)only[go_sem,h3]
   have h4:q-1<65536:=by
    rcases(by omega:q-1<65536∨65536≤q-1)with h|h
    ·exact h
    ·have:=Int.mul_le_mul_of_nonneg_right h (show 0≤v1 by omega)
     omega
   have h5:(q-1)*v2≤(r+v1)*65536+u2:=by
    have:(q-1)*v2≤65535*65535:=Int.mul_le_mul (by omega) (by omega) gv2.1 (by omega)
    omega
   have h6:=aaF hw hvv ⟨hx0,hx1⟩ ⟨hy0,hy1⟩ gv2.1 (by omega) ⟨by omega,h4⟩ hm h5
   exact qv (by simp(disch:=omega)only[go_sem]) (by simp(disch:=omega)only[go_sem]) ⟨q-1,rfl,rfl,rfl,⟨by omega,h4⟩,by rw[show q-1+1=q by omega];exact hst,h6⟩
  ·simp(disch:=omega)only[go_sem,h3]
   refine qe (q-1,r+v1) [] ⟨by show 0≤q-1∧q-1≤65537;omega,by show 0≤r+v1∧r+v1<65536;omega,hm,by show _<(q-1+1)*vl V;rw[show q-1+1=q by omega];exact hst⟩ (by show(q-1).toNat<q.toNat;omega) rfl (by simp(disch:=omega)only[go_sem];try omega) (by simp(disch:=omega)only[go_sem])
end Go.Ab
namespace Go.Ab
open Go Go.Proofs
theorem Ks(U V:List Int)(j:Nat)(q:Int)(hU:gd U)(hV:gd V)(lU:U.length≤2000000)(hj:j+V.length<U.length)(hq:0≤q∧q<65536):
  Con Tryz.prog 329 false [.rf 10000000 0 U.length,.sl V.length (qg V),.v (.int .i64 j),.v (.int .i64 q)] [.own 1 (qg U)]
   (fun r hs bs=>∃(U':List Int) (bo:Int),r=.v (.bool (decide (U.getD (j+V.length) 0-bo<0)))∧hs=[]∧bs=[.own 1 (qg (U'.set (j+V.length) (U.getD (j+V.length) 0-bo)))]∧
    U'.length=U.length∧gd U'∧(0≤bo∧bo<65536)∧(∀t,t<j∨j+V.length≤t→U'.getD t 0=U.getD t 0)∧vl U'-65536^(j+V.length)*bo=vl U-65536^j*(q*vl V)):=by
 refine Con.of_aw Tryz.func329 rfl Tryz.ntmps329 (by simp) (by simp) (by simp) (W.sound ?_)
 show @W Tryz.prog 68 ⟨_⟩ ⟨fun x σ=>@q8 _ _ _ ⟨_⟩ _ ⟨_⟩ x σ⟩ _ _
 simp(disch:=omega)only[go_sem]
 refine qj (fun x:Nat×List Int×Int=>[(0,.rf 10000000 0 U.length),(1,.sl V.length (qg V)),(2,.v (.int .i64 j)),(3,.v (.int .i64 q)),(9,.v (.int .i64 x.2.2)),(13,.sl V.length (qg V)),(14,.v (.int .i64 V.length)),(15,.v (.int .i64 x.1))])
  (fun x=>[(10000000,.own 1 (qg x.2.1))])
  (fun x=>x.1≤V.length∧x.2.1.length=U.length∧gd x.2.1∧(0≤x.2.2∧x.2.2<65536)∧(∀t,t<j∨j+x.1≤t→x.2.1.getD t 0=U.getD t 0)∧vl x.2.1-65536^(j+x.1)*x.2.2=vl U-65536^j*(q*vl (V.take x.1)))
  (fun x=>V.length-x.1) (0,U,0) ⟨by simp,rfl,hU,by simp,fun _ _=>rfl,by simp[vl]⟩
  (Le.lst [] _ _ rfl (by simp(disch:=omega)only[go_sem];try omega) (by simp(disch:=omega)only[go_sem])) ?_
 rintro⟨i,U1,bo⟩ ⟨hi,hl1,hg1,hbo,hsame,hval⟩
 dsimp only at hi hl1 hg1 hbo hsame hval ⊢
 simp(disch:=omega)only[go_sem]
 refine qh (fun h1=>?_) (fun h1=>?_)
 ·have hx:=qL hV i
  have hu:=qL hg1 (j+i)
  have hqx:0≤q*V.getD i 0∧q*V.getD i 0≤65535*65535:=⟨Int.mul_nonneg hq.1 hx.1,Int.mul_le_mul (by omega) (by omega) hx.1 (by omega)⟩
  have e1:((j:Int)+(i:Int)).toNat=j+i:=by omega
  have hstep:∀d b:Int,d-65536*b=U1.getD (j+i) 0-q*V.getD i 0-bo→vl (U1.set (j+i) d)-65536^(j+(i+1))*b=vl U-65536^j*(q*vl (V.take (i+1))):=by
   intro d b hd
   rw[ZW (by omega),qX,←Nat.add_assoc,Int.pow_succ]
   have e3:(65536:Int)^(j+i)=65536^j*65536^i:=Int.pow_add _ _ _
   rw[e3]at hval ⊢
   generalize (65536:Int)^i=Pi at*
   generalize (65536:Int)^j=Pj at*
   grind
  have hsm:∀d:Int,∀t,t<j∨j+(i+1)≤t→(U1.set (j+i) d).getD t 0=U.getD t 0:=fun d t ht=>by
   rw[jC (by omega),if_neg (by omega)];exact hsame t (by omega)
  simp(disch:=omega)only[go_sem,h1,e1]
  refine⟨by omega,by omega,by omega,by omega,qh (fun h2=>?_) (fun h2=>?_)⟩
  ·simp(disch:=omega)only[go_sem,h2,e1]
   generalize hb:(0-(U1.getD (j+i) 0-q*V.getD i 0-bo)+65536-1)/65536=b
   refine⟨by omega,by omega,qe (i+1,U1.set (j+i) (U1.getD (j+i) 0-q*V.getD i 0-bo+b*65536),b) [] ⟨by show i+1≤_;omega,by simp[hl1],yK hg1 (by omega),by show 0≤b∧b<65536;omega,hsm _,hstep (U1.getD (j+i) 0-q*V.getD i 0-bo+b*65536) b (by omega)⟩
    (by show V.length-(i+1)<V.length-i;omega) rfl (by simp(disch:=omega)only[go_sem];try omega) (by simp(disch:=omega)only[go_sem])⟩
  ·simp(disch:=omega)only[go_sem,h2,e1]
   refine⟨by omega,by omega,qe (i+1,U1.set (j+i) (U1.getD (j+i) 0-q*V.getD i 0-bo),0) [] ⟨by show i+1≤_;omega,by simp[hl1],yK hg1 (by omega),by simp,hsm _,hstep (U1.getD (j+i) 0-q*V.getD i 0-bo) 0 (by omega)⟩
    (by show V.length-(i+1)<V.length-i;omega) rfl (by simp(disch:=omega)only[go_sem];try omega) (by simp(disch:=omega)only[go_sem])⟩
 ·have hiA:i=V.length:=by omega
  subst hiA
  rw[List.take_length]at hval
  have e1:((j:Int)+(V.length:Int)).toNat=j+V.length:=by omega
  have hu:=qL hg1 (j+V.length)
  have es:=hsame (j+V.length) (by omega)
  have eg:(U1.set (j+V.length) (U.getD (j+V.length) 0-bo)).getD (j+V.length) 0=U.getD (j+V.length) 0-bo:=by rw[jC (by omega),if_pos rfl]
  simp(disch:=omega)only[go_sem,h1,e1,es]
  refine⟨by omega,by omega,by omega,by omega,by omega,by simp;omega,?_⟩
  simp(disch:=omega)only[go_sem,eg]
  refine ql [] [] [.own 1 (qg (U1.set (j+V.length) (U.getD (j+V.length) 0-bo)))] [.v (.bool (decide (U.getD (j+V.length) 0-bo<0)))] rfl (by simp(disch:=omega)only[go_sem]) (by simp(disch:=omega)only[go_sem]) (by simp) (by simp) ⟨U1,bo,rfl,rfl,rfl,hl1,hg1,hbo,hsame,hval⟩
theorem abq(U V:List Int)(j:Nat)(hU:∀t,t≠j+V.length→0≤U.getD t 0∧U.getD t 0<65536)(hUt: -65536≤U.getD (j+V.length) 0∧U.getD (j+V.length) 0<65536)(hV:gd V)(lU:U.length≤2000000)(hj:j+V.length<U.length):
  Con Tryz.prog 330 false [.rf 10000000 0 U.length,.sl V.length (qg V),.v (.int .i64 j)] [.own 1 (qg U)]
   (fun r hs bs=>∃(U':List Int),r=.tu []∧hs=[]∧bs=[.own 1 (qg U')]∧
    U'.length=U.length∧(∀t,t≠j+V.length→0≤U'.getD t 0∧U'.getD t 0<65536)∧(∀t,t<j∨j+V.length<t→U'.getD t 0=U.getD t 0)∧vl U'=vl U+65536^j*vl V):=by
 refine Con.of_aw Tryz.func330 rfl Tryz.ntmps330 (by simp) (by simp) (by simp) (W.sound ?_)
 show @W Tryz.prog 46 ⟨_⟩ ⟨fun x σ=>@q8 _ _ _ ⟨_⟩ _ ⟨_⟩ x σ⟩ _ _
 simp(disch:=omega)only[go_sem]
 refine qj (fun x:Nat×List Int×Int=>[(0,.rf 10000000 0 U.length),(1,.sl V.length (qg V)),(2,.v (.int .i64 j)),(6,.v (.int .i64 x.2.2)),(9,.sl V.length (qg V)),(10,.v (.int .i64 V.length)),(11,.v (.int .i64 x.1))])
  (fun x=>[(10000000,.own 1 (qg x.2.1))])
  (fun x=>x.1≤V.length∧x.2.1.length=U.length∧(∀t,t≠j+V.length→0≤x.2.1.getD t 0∧x.2.1.getD t 0<65536)∧(0≤x.2.2∧x.2.2≤1)∧(∀t,t<j∨j+x.1≤t→x.2.1.getD t 0=U.getD t 0)∧vl x.2.1+65536^(j+x.1)*x.2.2=vl U+65536^j*vl (V.take x.1))
  (fun x=>V.length-x.1) (0,U,0) ⟨by simp,rfl,hU,by simp,fun _ _=>rfl,by simp[vl]⟩
  (Le.lst [] _ _ rfl (by simp(disch:=omega)only[go_sem];try omega) (by simp(disch:=omega)only[go_sem])) ?_
 rintro⟨i,U1,cy⟩ ⟨hi,hl1,hg1,hcy,hsame,hval⟩
 dsimp only at hi hl1 hg1 hcy hsame hval ⊢
 simp(disch:=omega)only[go_sem]
 refine qh (fun h1=>?_) (fun h1=>?_)
 ·have hx:=qL hV i
  have hu:=hg1 (j+i) (by omega)
  have e1:((j:Int)+(i:Int)).toNat=j+i:=by omega
  simp(disch:=omega)only[go_sem,h1,e1]
  generalize hb:cy+(U1.getD (j+i) 0+V.getD i 0)=b
  have hg2:∀t,t≠j+V.length→0≤(U1.set (j+i) (b % 65536)).getD t 0∧(U1.set (j+i) (b % 65536)).getD t 0<65536:=fun t ht=>by
   rw[jC (by omega)]
   split
   ·omega
   ·exact hg1 t ht
  refine⟨by omega,by omega,by omega,by omega,by omega,by omega,qe (i+1,U1.set (j+i) (b % 65536),b/65536) [] ⟨by show i+1≤_;omega,by simp[hl1],hg2,by show 0≤b/65536∧b/65536≤1;omega,fun t ht=>?_,?_⟩
   (by show V.length-(i+1)<V.length-i;omega) rfl (by simp(disch:=omega)only[go_sem];try omega) (by simp(disch:=omega)only[go_sem])⟩
  ·show(U1.set (j+i) (b % 65536)).getD t 0=_
   have ht:t<j∨j+(i+1)≤t:=ht
   rw[jC (by omega),if_neg (by omega)];exact hsame t (by omega)
  ·show vl (U1.set (j+i) (b % 65536))+65536^(j+(i+1))*(b/65536)=vl U+65536^j*vl (V.take (i+1))
   rw[ZW (by omega),qX,←Nat.add_assoc,Int.pow_succ]
   have e3:(65536:Int)^(j+i)=65536^j*65536^i:=Int.pow_add _ _ _
   have e4:b % 65536+65536*(b/65536)=b:=Int.emod_add_mul_ediv b 65536
   rw[e3]at hval ⊢
   generalize (65536:Int)^i=Pi at*
   generalize (65536:Int)^j=Pj at*
   grind
 ·have hiA:i=V.length:=by omega
  subst hiA
  rw[List.take_length]at hval
  have e1:((j:Int)+(V.length:Int)).toNat=j+V.length:=by omega
  have es:=hsame (j+V.length) (by omega)
  simp(disch:=omega)only[go_sem,h1,e1,es]
  refine⟨by omega,by omega,by omega,by omega,?_⟩
  refine ql [] [] [.own 1 (qg (U1.set (j+V.length) (U.getD (j+V.length) 0+cy)))] [] rfl (by simp(disch:=omega)only[go_sem]) (by simp(disch:=omega)only[go_sem]) (by simp) (by simp) ⟨_,rfl,rfl,rfl,by simp[hl1],fun t ht=>?_,fun t ht=>?_,?_⟩
  ·rw[jC (by omega),if_neg ht];exact hg1 t ht
  ·rw[jC (by omega),if_neg (by omega)];exact hsame t (by omega)
  ·rw[ZW (by omega),es]
   generalize (65536:Int)^(j+V.length)=Pj at*
   grind
end Go.Ab
namespace Go.Ab
open Go Go.Proofs
theorem ahH(cl:Bool)(n:Nat)(hn:n<2^63):Con Tryz.prog 111 cl [.v (.int .i64 n)] [] (agb (lim n)):=by
 refine Con.of_aw Tryz.func111 rfl Tryz.ntmps111 (by simp) (by simp) (by simp) (W.sound ?_)
 show @W Tryz.prog 14 ⟨_⟩ ⟨fun x σ=>@q8 _ _ _ ⟨_⟩ _ ⟨_⟩ x σ⟩ _ _
 simp(disch:=omega)only[go_sem]
 refine qj (fun x:Nat×List Int=>[(0,.v (.int .i64 x.1)),(3,.rf 1 0 x.2.length)]) (fun x=>[(1,.own 1 (qg x.2))]) (fun x=>x.1<2^63∧x.2++lim x.1=lim n) (fun x=>x.1) (n,[]) ⟨hn,rfl⟩
  ((Le.ghost 3 1 1 (by simp(disch:=omega)only[go_sem]) (by simp(disch:=omega)only[go_sem])).trans (Le.lst [] _ _ rfl (by simp(disch:=omega)only[go_sem]) (by simp(disch:=omega)only[go_sem]))) ?_
 rintro⟨k,l⟩ ⟨hk,hl⟩
 dsimp only at hk hl ⊢
 have hlen:l.length≤4:=by
  have h1:=congrArg List.length hl
  have h2:=yz (n:=n) (k:=4) |>.2 (by omega)
  rw[List.length_append]at h1;omega
 simp(disch:=omega)only[go_sem]
 refine qh (fun h1=>?_) (fun h1=>?_)
 ·simp(disch:=omega)only[go_sem,h1]
  have hk0:k≠0:=by omega
  refine⟨by omega,qe (k/65536,l++[(k:Int) % 65536]) [(1,140000000)] ⟨by show k/65536<2^63;omega,?_⟩ (by show k/65536<k;omega) rfl (by simp(disch:=omega)only[go_sem,List.length_append];omega) (by simp(disch:=omega)only[go_sem])⟩
  rw[yx hk0]at hl
  rw[←hl,List.append_assoc];rfl
 ·simp(disch:=omega)only[go_sem,h1]
  have hk0:k=0:=by omega
  subst hk0
  rw[qt,List.append_nil]at hl
  subst hl
  refine ql [(0,1)] [.own 1 (qg (lim n++[]))] [] [.rf 0 0 (lim n).length] rfl (by simp(disch:=omega)only[go_sem]) (by simp(disch:=omega)only[go_sem]) (by simp) (by intro _;simp[zb,AV.pu,AV.pu.puL,Ob.pu,qQ]) (.inr ⟨[],rfl,rfl⟩)
end Go.Ab
namespace Go.Ab
open Go Go.Proofs
theorem ala(V P:Int)(hP:0<P):V % (P*65536)=V % P+P*(V/P % 65536):=by
 rw[Int.emod_def,Int.emod_def,Int.emod_def,←Int.ediv_ediv_of_nonneg (Int.le_of_lt hP)]
 grind
theorem akx{s:Nat}(hs:s<16):(65536:Int)=2^s*2^(16-s):=by
 rw[←Int.pow_add,show s+(16-s)=16 by omega];decide
theorem adY{D:List Int}(hD:gd D){i s:Nat}(hi:i<D.length)(hs:s<16):
  (vl D/2^s)/65536^i % 65536=(D.getD i 0+D.getD (i+1) 0*65536)/2^s % 65536:=by
 have h2:=(yV s hs).1
 rw[Int.ediv_ediv_of_nonneg (Int.le_of_lt h2),Int.mul_comm,←Int.ediv_ediv_of_nonneg (Int.le_of_lt (Int.pow_pos (by omega))),abL hD (by omega),zG hi]
 have h3:vl (D.drop (i+1))=D.getD (i+1) 0+65536*vl (D.drop (i+2)):=by
  rcases Nat.lt_or_ge (i+1) D.length with h|h
  ·exact zG h
  ·rw[List.drop_of_length_le h,List.drop_of_length_le (by omega),List.getD_eq_getElem?_getD,List.getElem?_eq_none h];simp[vl]
 rw[h3]
 have e:D.getD i 0+65536*(D.getD (i+1) 0+65536*vl (D.drop (i+2)))=(D.getD i 0+D.getD (i+1) 0*65536)+2^s*(65536*(2^(16-s)*vl (D.drop (i+2)))):=by
  have:=akx hs
  generalize (2:Int)^s=a at*
  generalize (2:Int)^(16-s)=b at*
  grind
 rw[e,Int.add_mul_ediv_left _ _ (by omega),Int.add_mul_emod_self_left]
theorem af6{a b:Nat}(h:a≤b):(65536:Int)^a≤65536^b:=by
 obtain⟨d,rfl⟩:=Nat.exists_eq_add_of_le h
 have h1:(0:Int)<65536^a:=Int.pow_pos (by omega)
 have h2:(0:Int)<65536^d:=Int.pow_pos (by omega)
 have h3:=Int.mul_le_mul_of_nonneg_left (show(1:Int)≤65536^d by omega) (Int.le_of_lt h1)
 rw[Int.mul_one,←Int.pow_add]at h3
 exact h3
theorem amo(cl:Bool)(A:List Int)(k:Nat)(hA:gd A)(lA:A.length≤1000000)(hk:k≤100000000):
  Con Tryz.prog 262 cl [.sl A.length (qg A),.v (.int .i64 k)] [] (agb (lim (vl A/2^k).toNat)):=by
 refine Con.of_aw Tryz.func262 rfl Tryz.ntmps262 (by simp) (by simp) (by simp) (W.sound ?_)
 show @W Tryz.prog 52 ⟨_⟩ ⟨fun x σ=>@q8 _ _ _ ⟨_⟩ _ ⟨_⟩ x σ⟩ _ _
 have hvk:vl A/2^k=vl A/65536^(k/16)/2^(k % 16):=by
  rw[Int.ediv_ediv_of_nonneg (Int.le_of_lt (Int.pow_pos (by omega))),VS]
 simp(disch:=omega)only[go_sem]
 refine qh (fun h0=>?_) (fun h0=>?_)
 ·simp(disch:=omega)only[go_sem,h0]
  have hz:vl A/2^k=0:=by
   rw[hvk,Int.ediv_eq_zero_of_lt (q9 hA)]
   ·simp
   ·refine Int.lt_of_lt_of_le (Jc hA) ?_
    exact af6 (by omega)
  rw[hz]
  refine ql [] [] [] [.v (.slice none 0 0)] rfl (by simp(disch:=omega)only[go_sem]) (by simp(disch:=omega)only[go_sem]) (by simp) (by intro _;simp[zb,AV.pu,AV.pu.puL,Ob.pu,qQ]) (.inl ⟨by simp[qt],rfl,rfl⟩)
 ·have e16:((k:Int)/16).toNat=k/16:=by omega
  have e17:((A.length:Int)-(k:Int)/16).toNat=(A.drop (k/16)).length:=by simp;omega
  have e18:(A.drop (k/16)).take (A.drop (k/16)).length=A.drop (k/16):=List.take_length
  have hvD:=abL hA (i:=k/16) (by omega)
  have hlD:(A.drop (k/16)).length≤1000000:=by simp;omega
  have hD:=y3 hA (k/16)
  simp(disch:=omega)only[go_sem,h0,e16,e17,e18]
  generalize A.drop (k/16)=D at*
  refine⟨by omega,by omega,?_⟩
  refine qj (fun x:Nat×List Int=>[(1,.v (.int .i64 k)),(5,.sl D.length (qg D)),(6,.rf 1 0 x.2.length),(21,.sl D.length (qg D)),(22,.v (.int .i64 D.length)),(23,.v (.int .i64 x.1))])
   (fun x=>[(1,.own 1 (qg x.2))])
   (fun x=>x.1≤D.length∧x.2.length=x.1∧gd x.2∧vl x.2=vl D/2^(k % 16) % 65536^x.1)
   (fun x=>D.length-x.1) (0,[]) ⟨by simp,rfl,JZ,by simp[vl]⟩
   (Le.lst [(1,220000000)] _ _ rfl (by simp(disch:=omega)only[go_sem]) (by simp(disch:=omega)only[go_sem])) ?_
  rintro⟨i,out⟩ ⟨hi,hol,hog,hov⟩
  dsimp only at hi hol hog hov ⊢
  simp(disch:=omega)only[go_sem]
  refine qh (fun h1=>?_) (fun h1=>?_)
  ·have hx:=qL hD i
   have hy:=qL hD (i+1)
   have em:min ((k:Int) % 16).toNat 64=k % 16:=by omega
   have hm:=yV (k % 16) (by omega)
   have efd:∀x:Int,x.fdiv (2^(k % 16))=x/2^(k % 16):=fun x=>Int.fdiv_eq_ediv_of_nonneg _ (Int.le_of_lt hm.1)
   have hdig:=adY hD (i:=i) (s:=k % 16) (by omega) (by omega)
   have hnn:∀x:Int,0≤x→0≤x/2^(k % 16):=fun x hx=>Int.ediv_nonneg hx (Int.le_of_lt hm.1)
   have ei:((i:Int)+1).toNat=i+1:=by omega
   have hstep:∀z:Int,z=(D.getD i 0+D.getD (i+1) 0*65536)/2^(k % 16) % 65536→vl (out++[z])=vl D/2^(k % 16) % 65536^(i+1):=by
    intro z hz
    rw[jL,hov,hol,Int.pow_succ,ala _ _ (Int.pow_pos (by omega)),hdig,hz]
   simp(disch:=omega)only[go_sem,h1]
   refine⟨by omega,by omega,qh (fun h2=>?_) (fun h2=>?_)⟩
   ·have hn1:=hnn (D.getD i 0+D.getD (i+1) 0*65536) (by omega)
    simp(disch:=omega)only[go_sem,h2,em,efd,ei]
    refine⟨by omega,by omega,by omega,by omega,qe (i+1,out++[(D.getD i 0+D.getD (i+1) 0*65536)/2^(k % 16) % 65536]) [(1,500000000)] ⟨by show i+1≤_;omega,by simp[hol],qM.2 ⟨hog,jf.2 (by omega)⟩,hstep _ rfl⟩ (by show D.length-(i+1)<D.length-i;omega) rfl (by simp(disch:=omega)only[go_sem,List.length_append];try omega) (by simp(disch:=omega)only[go_sem])⟩
   ·have hn1:=hnn (D.getD i 0) (by omega)
    simp(disch:=omega)only[go_sem,h2,em,efd]
    have hy0:D.getD (i+1) 0=0:=by rw[List.getD_eq_getElem?_getD,List.getElem?_eq_none (by omega)];rfl
    refine⟨by omega,by omega,qe (i+1,out++[D.getD i 0/2^(k % 16) % 65536]) [(1,500000000)] ⟨by show i+1≤_;omega,by simp[hol],qM.2 ⟨hog,jf.2 (by omega)⟩,hstep _ (by rw[hy0];simp)⟩ (by show D.length-(i+1)<D.length-i;omega) rfl (by simp(disch:=omega)only[go_sem,List.length_append];try omega) (by simp(disch:=omega)only[go_sem])⟩
  ·simp(disch:=omega)only[go_sem,h1]
   have hiD:i=D.length:=by omega
   subst hiD
   have hV:vl out=vl A/2^k:=by
    rw[hov,hvk,hvD]
    refine Int.emod_eq_of_lt (Int.ediv_nonneg (q9 hD) (Int.le_of_lt (yV (k % 16) (by omega)).1)) ?_
    exact Int.lt_of_le_of_lt (Int.ediv_le_self _ (q9 hD)) (Jc hD)
   refine zf false [1] (jE out (by omega)) (by simp(disch:=omega)only[go_sem]) (by simp(disch:=omega)only[go_sem]) rfl (qZ (z:=1) (cs:=qg out) (by simp(disch:=omega)only[go_sem]) (by simp(disch:=omega)only[go_sem])) (by intro n hn;exact⟨_,List.mem_singleton.2 rfl,by rw[List.mem_singleton.1 hn];rfl⟩) ?_
   rintro r hs bs ⟨rfl,rfl,rfl⟩ _
   refine⟨by simp[qB],?_⟩
   simp(disch:=omega)only[go_sem]
   obtain⟨z,hz⟩:=zV out
   have hc:=jk hog
   rw[hV]at hc
   rw[hc]at hz ⊢
   refine ql [(0,1)] [.own 1 (qg out)] [] [.rf 0 0 (lim (vl A/2^k).toNat).length] rfl (by simp(disch:=omega)only[go_sem]) (by simp(disch:=omega)only[go_sem]) (by simp) (by intro _;simp[zb,AV.pu,AV.pu.puL,Ob.pu,qQ]) (.inr ⟨List.replicate z 0,rfl,by rw[←hz]⟩)
end Go.Ab
namespace Go.Ab
open Go Go.Proofs
theorem amj(cl:Bool)(A B:List Int)(hA:gd A)(hB:gd B)(lA:A.length≤2000000)(lB:B.length≤2000000):
  Con Tryz.prog 273 cl [.sl A.length (qg A),.sl B.length (qg B)] [] (agb (lim (vl A+vl B).toNat)):=by
 refine Con.of_aw Tryz.func273 rfl Tryz.ntmps273 (by simp) (by simp) (by simp) (W.sound ?_)
 show @W Tryz.prog 53 ⟨_⟩ ⟨fun x σ=>@q8 _ _ _ ⟨_⟩ _ ⟨_⟩ x σ⟩ _ _
 simp(disch:=omega)only[go_sem]
 refine qh (fun h0=>?_) (fun h0=>?_)
 all_goals simp(disch:=omega)only[go_sem,h0]
 ·revert A B
  intro Y X hY hX lY lX h0'
  have h00:Y.length≤X.length:=by omega
  have hcm:vl Y+vl X=vl X+vl Y:=Int.add_comm _ _
  refine⟨by omega,?_⟩
  refine qj (fun x:Nat×List Int×Int=>[(1,.sl Y.length (qg Y)),(5,.rf 1 0 x.2.1.length),(6,.v (.int .i64 x.2.2)),(20,.sl X.length (qg X)),(21,.v (.int .i64 X.length)),(22,.v (.int .i64 x.1))])
   (fun x=>[(1,.own 1 (qg x.2.1))])
   (fun x=>x.1≤X.length∧x.2.1.length=x.1∧gd x.2.1∧(0≤x.2.2∧x.2.2≤1)∧vl x.2.1+65536^x.1*x.2.2=vl (X.take x.1)+vl (Y.take x.1))
   (fun x=>X.length-x.1) (0,[],0) ⟨by simp,rfl,JZ,by simp,by simp[vl]⟩
   (Le.lst [(1,210000000)] _ _ rfl (by simp(disch:=omega)only[go_sem]) (by simp(disch:=omega)only[go_sem])) ?_
  rintro⟨i,out,cy⟩ ⟨hi,hol,hog,hcy,hov⟩
  dsimp only at hi hol hog hcy hov ⊢
  simp(disch:=omega)only[go_sem]
  refine qh (fun h1=>?_) (fun h1=>?_)
  ·have hx:=qL hX i
   have hy:=qL hY i
   have hstep:∀q:Int,q=cy+X.getD i 0+Y.getD i 0→vl (out++[q % 65536])+65536^(i+1)*(q/65536)=vl (X.take (i+1))+vl (Y.take (i+1)):=by
    intro q hq
    rw[jL,qX,qX,hol,Int.pow_succ]
    have e3:q % 65536+65536*(q/65536)=q:=Int.emod_add_mul_ediv q 65536
    generalize (65536:Int)^i=Pi at*
    grind
   have hyz:¬i<Y.length→Y.getD i 0=0:=fun h=>by rw[List.getD_eq_getElem?_getD,List.getElem?_eq_none (by omega)];rfl
   simp(disch:=omega)only[go_sem,h1]
   refine⟨by omega,by omega,qh (fun h2=>?_) (fun h2=>?_)⟩
   ·simp(disch:=omega)only[go_sem,h2]
    generalize hq:cy+X.getD i 0+Y.getD i 0=q
    refine⟨by omega,by omega,by omega,qe (i+1,out++[q % 65536],q/65536) [(1,460000000)] ⟨by show i+1≤_;omega,by simp[hol],qM.2 ⟨hog,jf.2 (by omega)⟩,by show 0≤q/65536∧q/65536≤1;omega,hstep q hq.symm⟩ (by show X.length-(i+1)<X.length-i;omega) rfl (by simp(disch:=omega)only[go_sem,List.length_append];try omega) (by simp(disch:=omega)only[go_sem])⟩
   ·simp(disch:=omega)only[go_sem,h2]
    have hy0:=hyz (by omega)
    generalize hq:cy+X.getD i 0=q
    refine⟨by omega,qe (i+1,out++[q % 65536],q/65536) [(1,460000000)] ⟨by show i+1≤_;omega,by simp[hol],qM.2 ⟨hog,jf.2 (by omega)⟩,by show 0≤q/65536∧q/65536≤1;omega,hstep q (by omega)⟩ (by show X.length-(i+1)<X.length-i;omega) rfl (by simp(disch:=omega)only[go_sem,List.length_append];try omega) (by simp(disch:=omega)only[go_sem])⟩
  ·simp(disch:=omega)only[go_sem,h1]
   have hiA:i=X.length:=by omega
   subst hiA
   rw[List.take_length,List.take_of_length_le h00]at hov
   have hov2:vl (out++[cy])=vl X+vl Y:=by rw[jL,hol];exact hov
   have hog2:gd (out++[cy]):=qM.2 ⟨hog,jf.2 (by omega)⟩
   refine⟨by omega,?_⟩
   have hl2:out.length+1=(out++[cy]).length:=by simp
   rw[hl2]
   refine zf false [530000000] (jE (out++[cy]) (by simp;omega)) (by simp(disch:=omega)only[go_sem]) (by simp(disch:=omega)only[go_sem]) rfl (qZ (z:=1) (cs:=qg (out++[cy])) (by simp(disch:=omega)only[go_sem]) (by simp(disch:=omega)only[go_sem])) (by intro n hn;exact⟨_,List.mem_singleton.2 rfl,by rw[List.mem_singleton.1 hn];rfl⟩) ?_
   rintro r hs bs ⟨rfl,rfl,rfl⟩ _
   refine⟨by simp[qB],?_⟩
   simp(disch:=omega)only[go_sem]
   obtain⟨z,hz⟩:=zV (out++[cy])
   have hc:=jk hog2
   rw[hov2]at hc
   rw[hc]at hz ⊢
   refine ql [(0,530000000)] [.own 1 (qg (out++[cy]))] [] [.rf 0 0 (lim (vl X+vl Y).toNat).length] rfl (by simp(disch:=omega)only[go_sem]) (by simp(disch:=omega)only[go_sem]) (by simp) (by intro _;simp[zb,AV.pu,AV.pu.puL,Ob.pu,qQ]) (.inr ⟨List.replicate z 0,by rw[hcm];rfl,by rw[hcm,←hz]⟩)
 ·revert A B
  intro X Y hX hY lX lY h0'
  have h00:Y.length≤X.length:=by omega
  have hcm:vl X+vl Y=vl X+vl Y:=rfl
  refine⟨by omega,?_⟩
  refine qj (fun x:Nat×List Int×Int=>[(1,.sl Y.length (qg Y)),(5,.rf 1 0 x.2.1.length),(6,.v (.int .i64 x.2.2)),(20,.sl X.length (qg X)),(21,.v (.int .i64 X.length)),(22,.v (.int .i64 x.1))])
   (fun x=>[(1,.own 1 (qg x.2.1))])
   (fun x=>x.1≤X.length∧x.2.1.length=x.1∧gd x.2.1∧(0≤x.2.2∧x.2.2≤1)∧vl x.2.1+65536^x.1*x.2.2=vl (X.take x.1)+vl (Y.take x.1))
   (fun x=>X.length-x.1) (0,[],0) ⟨by simp,rfl,JZ,by simp,by simp[vl]⟩
   (Le.lst [(1,210000000)] _ _ rfl (by simp(disch:=omega)only[go_sem]) (by simp(disch:=omega)only[go_sem])) ?_
  rintro⟨i,out,cy⟩ ⟨hi,hol,hog,hcy,hov⟩
  dsimp only at hi hol hog hcy hov ⊢
  simp(disch:=omega)only[go_sem]
  refine qh (fun h1=>?_) (fun h1=>?_)
  ·have hx:=qL hX i
   have hy:=qL hY i
   have hstep:∀q:Int,q=cy+X.getD i 0+Y.getD i 0→vl (out++[q % 65536])+65536^(i+1)*(q/65536)=vl (X.take (i+1))+vl (Y.take (i+1)):=by
    intro q hq
    rw[jL,qX,qX,hol,Int.pow_succ]
    have e3:q % 65536+65536*(q/65536)=q:=Int.emod_add_mul_ediv q 65536
    generalize (65536:Int)^i=Pi at*
    grind
   have hyz:¬i<Y.length→Y.getD i 0=0:=fun h=>by rw[List.getD_eq_getElem?_getD,List.getElem?_eq_none (by omega)];rfl
   simp(disch:=omega)only[go_sem,h1]
   refine⟨by omega,by omega,qh (fun h2=>?_) (fun h2=>?_)⟩
   ·simp(disch:=omega)only[go_sem,h2]
    generalize hq:cy+X.getD i 0+Y.getD i 0=q
    refine⟨by omega,by omega,by omega,qe (i+1,out++[q % 65536],q/65536) [(1,460000000)] ⟨by show i+1≤_;omega,by simp[hol],qM.2 ⟨hog,jf.2 (by omega)⟩,by show 0≤q/65536∧q/65536≤1;omega,hstep q hq.symm⟩ (by show X.length-(i+1)<X.length-i;omega) rfl (by simp(disch:=omega)only[go_sem,List.length_append];try omega) (by simp(disch:=omega)only[go_sem])⟩
   ·simp(disch:=omega)only[go_sem,h2]
    have hy0:=hyz (by omega)
    generalize hq:cy+X.getD i 0=q
    refine⟨by omega,qe (i+1,out++[q % 65536],q/65536) [(1,460000000)] ⟨by show i+1≤_;omega,by simp[hol],qM.2 ⟨hog,jf.2 (by omega)⟩,by show 0≤q/65536∧q/65536≤1;omega,hstep q (by omega)⟩ (by show X.length-(i+1)<X.length-i;omega) rfl (by simp(disch:=omega)only[go_sem,List.length_append];try omega) (by simp(disch:=omega)only[go_sem])⟩
  ·simp(disch:=omega)only[go_sem,h1]
   have hiA:i=X.length:=by omega
   subst hiA
   rw[List.take_length,List.take_of_length_le h00]at hov
   have hov2:vl (out++[cy])=vl X+vl Y:=by rw[jL,hol];exact hov
   have hog2:gd (out++[cy]):=qM.2 ⟨hog,jf.2 (by omega)⟩
   refine⟨by omega,?_⟩
   have hl2:out.length+1=(out++[cy]).length:=by simp
   rw[hl2]
   refine zf false [530000000] (jE (out++[cy]) (by simp;omega)) (by simp(disch:=omega)only[go_sem]) (by simp(disch:=omega)only[go_sem]) rfl (qZ (z:=1) (cs:=qg (out++[cy])) (by simp(disch:=omega)only[go_sem]) (by simp(disch:=omega)only[go_sem])) (by intro n hn;exact⟨_,List.mem_singleton.2 rfl,by rw[List.mem_singleton.1 hn];rfl⟩) ?_
   rintro r hs bs ⟨rfl,rfl,rfl⟩ _
   refine⟨by simp[qB],?_⟩
   simp(disch:=omega)only[go_sem]
   obtain⟨z,hz⟩:=zV (out++[cy])
   have hc:=jk hog2
   rw[hov2]at hc
   rw[hc]at hz ⊢
   refine ql [(0,530000000)] [.own 1 (qg (out++[cy]))] [] [.rf 0 0 (lim (vl X+vl Y).toNat).length] rfl (by simp(disch:=omega)only[go_sem]) (by simp(disch:=omega)only[go_sem]) (by simp) (by intro _;simp[zb,AV.pu,AV.pu.puL,Ob.pu,qQ]) (.inr ⟨List.replicate z 0,by rw[hcm];rfl,by rw[hcm,←hz]⟩)
end Go.Ab
namespace Go.Ab
open Go Go.Proofs
theorem KO(cl:Bool)(xs:List Int)(hl:xs.length≤2^39):Con Tryz.prog 304 cl [.sl xs.length (qg xs)] [] (agb xs):=by
 refine Con.of_aw Tryz.func304 rfl Tryz.ntmps304 (by simp) (by simp) (by simp) (W.sound ?_)
 show @W Tryz.prog 8 ⟨_⟩ ⟨fun x σ=>@q8 _ _ _ ⟨_⟩ _ ⟨_⟩ x σ⟩ _ _
 simp(disch:=omega)only[go_sem]
 refine⟨fun h0=>?_,?_⟩
 ·have:xs=[]:=by cases xs with|nil=>rfl|cons a r=>cases h0
  subst this
  refine ql [] [] [] [.v (.slice none 0 0)] rfl (by simp(disch:=omega)only[go_sem]) (by simp(disch:=omega)only[go_sem]) (by simp) (by intro _;simp[zb,AV.pu]) (.inl ⟨rfl,rfl,rfl⟩)
 ·refine⟨by omega,?_⟩
  refine ql [(0,90000000)] [.own 1 (qg xs)] [] [.rf 0 0 xs.length] rfl (by simp(disch:=omega)only[go_sem]) (by simp(disch:=omega)only[go_sem]) (by simp) (by intro _;simp[zb,AV.pu,Ob.pu,qQ]) (.inr ⟨[],rfl,by rw[List.append_nil]⟩)
end Go.Ab
namespace Go.Ab
open Go Go.Proofs
theorem KH(x:Int):Con Tryz.prog 307 true [.v (.int .i64 x)] [] (isA (.v (.bool false))):=by
 refine Con.of_w (rs:=[.tmp 2]) Tryz.func307 rfl Tryz.ntmps307 rfl ?_
 simp(disch:=omega)only[go_sem]
 exact qu
theorem aig(x y:Int):Con Tryz.prog 267 true [.v (.int .i64 x),.v (.int .i64 y)] [] (isA (.v (.int .i64 (zF x y)))):=by
 refine Con.of_w (rs:=[.tmp 4]) Tryz.func267 rfl Tryz.ntmps267 rfl ?_
 simp(disch:=omega)only[go_sem]
 refine qm (KH x) ?_
 simp(disch:=omega)only[go_sem]
 refine qm (KH y) ?_
 simp(disch:=omega)only[go_sem]
 refine qh (fun h1=>?_) (fun h1=>?_)
 ·simp(disch:=omega)only[go_sem,h1]
  rw[show zF x y= -1 by simp[zF,h1]]
  exact qu
 ·simp(disch:=omega)only[go_sem,h1]
  refine qh (fun h2=>?_) (fun h2=>?_)
  ·simp(disch:=omega)only[go_sem,h2]
   rw[show zF x y=1 by simp[zF,h1,h2]]
   exact qu
  ·simp(disch:=omega)only[go_sem,h2]
   rw[show zF x y=0 by simp[zF,h1,h2]]
   exact qu
theorem jT(a b:Nat)(la:(lim a).length≤2^40)(lb:(lim b).length≤2^40):
  Con Tryz.prog 213 true [.sl (lim (a)).length (qg (lim (a))),.sl (lim (b)).length (qg (lim (b)))] [] (isA (.v (.int .i64 (zF a b)))):=by
 refine Con.of_w (rs:=[.tmp 4]) Tryz.func213 rfl Tryz.ntmps213 rfl ?_
 simp(disch:=omega)only[go_sem]
 refine je (fun h1=>?_) (fun h1=>?_)
 ·simp(disch:=omega)only[go_sem,h1]
  refine qm (aig (lim a).length (lim b).length) ?_
  simp(disch:=omega)only[go_sem]
  have:zF ((lim a).length:Int) ((lim b).length:Int)=zF a b:=by
   unfold zF
   rcases(by omega:(lim a).length<(lim b).length∨(lim b).length<(lim a).length)with h|h
   ·have:=Q5 h
    rw[if_pos (by omega),if_pos (by omega)]
   ·have:=Q5 h
    rw[if_neg (by omega),if_pos (by omega),if_neg (by omega),if_pos (by omega)]
  rw[this]
  exact qu
 ·simp(disch:=omega)only[go_sem,h1]
  have hl:(lim a).length=(lim b).length:=by omega
  refine qj (fun k:Nat=>[(0,.sl (lim (a)).length (qg (lim (a)))),(1,.sl (lim (b)).length (qg (lim (b)))),(5,.v (.int .i64 ((k:Int)-1)))])
   (fun _=>[]) (fun k=>k≤(lim a).length∧(lim a).drop k=(lim b).drop k) (fun k=>k) (lim a).length ⟨Nat.le_refl _,by rw[List.drop_length,hl,List.drop_length]⟩ (Le.lst [] _ _ rfl (by simp(disch:=omega)only[go_sem];try omega) (by simp(disch:=omega)only[go_sem])) ?_
  rintro k ⟨hk,hd⟩
  simp(disch:=omega)only[go_sem]
  refine qh (fun h2=>?_) (fun h2=>?_)
  ·obtain⟨i,rfl⟩:∃i,k=i+1:=⟨k-1,by omega⟩
   have ei:((i+1:Nat):Int)-1=(i:Nat):=by omega
   simp(disch:=omega)only[go_sem,h2,ei]
   refine qs rfl [⟨0,[],[]⟩,⟨1,[],[]⟩,⟨2,[],[]⟩,⟨3,[],[]⟩,⟨4,[3],[]⟩,⟨5,[3],[]⟩,⟨6,[3],[]⟩,⟨7,[3],[]⟩,⟨8,[],[]⟩] (by kernel_rfl) ?_
   simp(disch:=omega)only[go_sem,ei]
   refine⟨by omega,by omega,by omega,by omega,?_⟩
   refine je (fun h3=>?_) (fun h3=>?_)
   ·simp(disch:=omega)only[go_sem,h3]
    refine qs rfl [⟨0,[],[]⟩,⟨1,[],[]⟩,⟨2,[],[]⟩,⟨3,[],[]⟩,⟨4,[3],[]⟩,⟨5,[3],[]⟩,⟨6,[3],[]⟩,⟨7,[3],[]⟩,⟨8,[],[]⟩,⟨9,[],[]⟩] (by kernel_rfl) ?_
    simp(disch:=omega)only[go_sem,ei]
    refine⟨by omega,by omega,by omega,by omega,?_⟩
    refine qm (aig ((lim a).getD i 0) ((lim b).getD i 0)) ?_
    simp(disch:=omega)only[go_sem]
    have hva:=qY a
    have hvb:=qY b
    have:zF ((lim a).getD i 0) ((lim b).getD i 0)=zF a b:=by
     unfold zF
     rcases(by omega:(lim a).getD i 0<(lim b).getD i 0∨(lim b).getD i 0<(lim a).getD i 0)with h|h
     ·have:=Ji (q5 a) (q5 b) (by omega) hl hd h
      rw[if_pos (by omega),if_pos (by omega)]
     ·have:=Ji (q5 b) (q5 a) (by omega) hl.symm hd.symm h
      rw[if_neg (by omega),if_pos (by omega),if_neg (by omega),if_pos (by omega)]
    rw[this]
    exact qu
   ·simp(disch:=omega)only[go_sem,h3]
    refine qe i [] ⟨by omega,?_⟩ (by show i<i+1;omega) rfl (by simp(disch:=omega)only[go_sem];try omega) (by simp(disch:=omega)only[go_sem])
    rw[y6 (l:=lim a) (by omega),y6 (l:=lim b) (by omega),h3,hd]
  ·simp(disch:=omega)only[go_sem,h2]
   have:k=0:=by omega
   subst this
   rw[List.drop_zero,List.drop_zero]at hd
   have:=XV hd
   subst this
   rw[show zF (a:Int) (a:Int)=0 by simp[zF]]
   exact qu
end Go.Ab
namespace Go.Proofs
open Go.Shelf
def Tryz.lays29_ren:Go.Shelf.Ren:=⟨fun|29=>332|n=>n,fun|0=>0|3=>3|4=>4|5=>5|22=>295|25=>243|54=>316|n=>n,fun|1=>1|n=>n⟩
theorem Tryz.lays29:Go.Proofs.Lays7.n29 Tryz.prog Tryz.lays29_ren:={
 mixed:=by kernel_rfl
 f29:=Tryz.func332.trans (congrArg some (by kernel_rfl))
 t0:=Tryz.underlying0
 a0:=Tryz.isAgg0
 z0:=Tryz.sizeOf0
 v0:=Tryz.zeroValue0
 i0:=by kernel_rfl
 t3:=Tryz.underlying3
 a3:=Tryz.isAgg3
 z3:=Tryz.sizeOf3
 v3:=Tryz.zeroValue3
 i3:=by kernel_rfl
 t4:=Tryz.underlying4
 a4:=Tryz.isAgg4
 z4:=Tryz.sizeOf4
 v4:=Tryz.zeroValue4
 i4:=by kernel_rfl
 t5:=Tryz.underlying5
 a5:=Tryz.isAgg5
 z5:=Tryz.sizeOf5
 v5:=Tryz.zeroValue5
 i5:=by kernel_rfl
 t22:=Tryz.underlying295
 a22:=Tryz.isAgg295
 z22:=Tryz.sizeOf295
 v22:=Tryz.zeroValue295
 i22:=by kernel_rfl
 t25:=Tryz.underlying243
 a25:=Tryz.isAgg243
 z25:=Tryz.sizeOf243
 v25:=Tryz.zeroValue243
 i25:=by kernel_rfl
 t54:=Tryz.underlying316
 a54:=Tryz.isAgg316
 z54:=Tryz.sizeOf316
 g1:=by kernel_rfl}
def Tryz.lays129_ren:Go.Shelf.Ren:=⟨fun|129=>306|n=>n,fun|53=>295|46=>243|3=>3|4=>4|5=>5|9=>9|n=>n,fun|n=>n⟩
theorem Tryz.lays129:Go.Proofs.Lays.n129 Tryz.prog Tryz.lays129_ren:={
 mixed:=by kernel_rfl
 f129:=Tryz.func306.trans (congrArg some (by kernel_rfl))
 t3:=Tryz.underlying3
 a3:=Tryz.isAgg3
 z3:=Tryz.sizeOf3
 v3:=Tryz.zeroValue3
 t4:=Tryz.underlying4
 a4:=Tryz.isAgg4
 z4:=Tryz.sizeOf4
 v4:=Tryz.zeroValue4
 t5:=Tryz.underlying5
 a5:=Tryz.isAgg5
 z5:=Tryz.sizeOf5
 v5:=Tryz.zeroValue5
 t9:=Tryz.underlying9
 a9:=Tryz.isAgg9
 z9:=Tryz.sizeOf9
 v9:=Tryz.zeroValue9
 t46:=Tryz.underlying243
 a46:=Tryz.isAgg243
 z46:=Tryz.sizeOf243
 v46:=Tryz.zeroValue243
 t53:=Tryz.underlying295
 a53:=Tryz.isAgg295
 z53:=Tryz.sizeOf295
 v53:=Tryz.zeroValue295}
end Go.Proofs
namespace Go.Ab
open Go Go.Proofs
theorem axC(x:Nat)(h0:x≠0)(h:x<2^64):Lib.ctz 64 x=tz x:=by
 unfold Lib.ctz
 rw[if_neg h0]
 obtain⟨m,hm,_⟩:=Lib.ctzFrom_spec 64 x (by omega) h
 exact(Jz hm).symm
theorem aiF(x:Nat)(h:x<2^64):Lib.bitLen x=bl x:=by
 induction x using Nat.strongRecOn with
 |_ x ih=>
  by_cases h0:x=0
  ·subst h0;rfl
  ·rw[Lib.bitLen_half x h0 h,ih (x/2) (by omega) (by omega),anI h0,Nat.add_comm]
theorem amg(x:Nat)(h0:x≠0)(h:x<2^64):Con Tryz.prog 332 true [.v (.int .u64 x)] [] (isA (.v (.int .i64 (tz x)))):=
 Con.scalar (xs:=[.int .u64 x]) fun w hg=>by
  rw[←axC x h0 h]
  exact Any7.bits_TrailingZeros64 Tryz.lays29 x h w fun _ j hj=>(hg 1 Lib.deBruijn64tab rfl).2 j hj
theorem ahO(x:Nat)(h:x<2^64):Con Tryz.prog 306 true [.v (.int .u64 x)] [] (isA (.v (.int .i64 (bl x)))):=
 Con.scalar (xs:=[.int .u64 x]) fun w hg=>by
  rw[←aiF x h]
  exact Any.bits_Len64 Tryz.lays129 x w (by omega) (by omega)
theorem axJ(x:Nat)(h0:x≠0)(h:x<2^64):Con Tryz.prog 303 true [.v (.int .u64 x)] [] (isA (.v (.int .i64 (tz x)))):=by
 refine Con.of_w (rs:=[.tmp 2]) Tryz.func303 rfl Tryz.ntmps303 rfl ?_
 simp(disch:=omega)only[go_sem]
 refine qm (amg x h0 h) ?_
 simp(disch:=omega)only[go_sem]
 exact qu
theorem ahP(x:Nat)(h:x<2^64):Con Tryz.prog 266 true [.v (.int .u64 x)] [] (isA (.v (.int .i64 (bl x)))):=by
 refine Con.of_w (rs:=[.tmp 2]) Tryz.func266 rfl Tryz.ntmps266 rfl ?_
 simp(disch:=omega)only[go_sem]
 refine qm (ahO x h) ?_
 simp(disch:=omega)only[go_sem]
 exact qu
theorem aeP{x:Int}(h1:0≤x)(h2:x<9223372036854775808):IntKind.u64.wrap x=x:=by
 simp only[IntKind.wrap,IntKind.signed,IntKind.bits]
 simp only[Bool.false_and,Bool.false_eq_true,if_false]
 omega
theorem aem(m:Nat)(hl:(lim m).length≤2^40):Con Tryz.prog 212 true [.sl (lim (m)).length (qg (lim (m)))] [] (isA (.v (.int .i64 (bl m)))):=by
 refine Con.of_w (rs:=[.tmp 2]) Tryz.func212 rfl Tryz.ntmps212 rfl ?_
 simp(disch:=omega)only[go_sem]
 refine qh (fun h1=>?_) (fun h1=>?_)
 ·simp(disch:=omega)only[go_sem,h1]
  have:m=0:=qJ.1 (List.length_eq_zero_iff.1 (by omega))
  subst this
  rw[Qe]
  exact qu
 ·have hm:m≠0:=fun e=>by rw[e,qt]at h1;simp at h1
  have e1:((lim m).length:Int).toNat-1=(lim m).length-1:=by omega
  have e2:(((lim m).length:Int)-1).toNat=(lim m).length-1:=by omega
  have ht:=JU hm
  have hb:=aiD hm
  simp(disch:=omega)only[go_sem,h1,e2,jc]
  generalize m/65536^((lim m).length-1)=q at*
  have e3:((q % 65536:Nat):Int)=(q:Int):=by omega
  simp(disch:=omega)only[go_sem,e3,aeP]
  refine⟨by omega,by omega,?_⟩
  refine qm (ahP q (by omega)) ?_
  simp(disch:=omega)only[go_sem]
  have hq:bl q≤16:=zN.2 (by omega)
  have e4:(16:Int)*(((lim m).length:Int)-1)+(bl q:Int)=(bl m:Int):=by omega
  simp(disch:=omega)only[go_sem,e4]
  exact qu
theorem anQ{m i:Nat}(hz:∀j,j<i→(lim m).getD j 0=0)(hx:(lim m).getD i 0≠0):tz m=16*i+tz (m/65536^i % 65536):=by
 rw[jc]at hx
 have hx':m/65536^i % 65536≠0:=fun e=>hx (by rw[e];rfl)
 obtain⟨a,ha⟩:=Xv hx'
 have hlow:65536^i*(m/65536^i)=m:=by
  have key:∀k,k≤i→m % 65536^k=0:=by
   intro k
   induction k with
   |zero=>intro _;simp[Nat.mod_one]
   |succ k ih=>
    intro hk
    have h1:=ih (by omega)
    have h2:=hz k (by omega)
    rw[jc]at h2
    have h3:m/65536^k % 65536=0:=by omega
    rw[Nat.pow_succ,Nat.mod_mul,h1,h3];omega
  have:=Nat.div_add_mod m (65536^i)
  rw[key i (Nat.le_refl _)]at this
  omega
 generalize hq:m/65536^i=q at*
 have ht:tz (q % 65536)<16:=by
  have h1:=Qf hx'
  have:bl (q % 65536)≤16:=zN.2 (by omega)
  omega
 generalize hk:tz (q % 65536)=k at*
 have e16:(65536:Nat)=2^k*(2*2^(15-k)):=by rw[Nat.mul_left_comm,←Nat.pow_add,show k+(15-k)=15 by omega]
 refine Jz (a:=a+2^(15-k)*(q/65536)) ?_
 have hd:=Nat.div_add_mod q 65536
 rw[←hlow,Nat.pow_add,←JL]
 have h5:q=2^k*(2*(a+2^(15-k)*(q/65536))+1):=by
  have:q=2^k*(2*2^(15-k))*(q/65536)+2^k*(2*a+1):=by rw[←e16,←ha];omega
  generalize q/65536=y at*
  generalize 2^(15-k)=z at*
  grind
 generalize q/65536=y at*
 rw[Nat.mul_assoc,←h5]
theorem aaX(m:Nat)(hl:(lim m).length≤2^40):Con Tryz.prog 261 true [.sl (lim (m)).length (qg (lim (m)))] [] (isA (.v (.int .i64 (tz m)))):=by
 refine Con.of_w (rs:=[.tmp 2]) Tryz.func261 rfl Tryz.ntmps261 rfl ?_
 simp(disch:=omega)only[go_sem]
 refine qj (fun i:Nat=>[(0,.sl (lim (m)).length (qg (lim (m)))),(5,.sl (lim (m)).length (qg (lim (m)))),(6,.v (.int .i64 (lim m).length)),(7,.v (.int .i64 i))])
  (fun _=>[]) (fun i=>i≤(lim m).length∧∀j,j<i→(lim m).getD j 0=0) (fun i=>(lim m).length-i) 0 ⟨by omega,fun j hj=>by omega⟩ (Le.lst [] _ _ rfl (by simp(disch:=omega)only[go_sem];try omega) (by simp(disch:=omega)only[go_sem])) ?_
 rintro i ⟨hi,hz⟩
 simp(disch:=omega)only[go_sem]
 refine qh (fun h1=>?_) (fun h1=>?_)
 ·simp(disch:=omega)only[go_sem,h1]
  refine⟨by omega,by omega,je (fun h2=>?_) (fun h2=>?_)⟩
  ·have ht:=anQ hz h2
   have hx:m/65536^i % 65536≠0:=fun e=>h2 (by rw[jc,e];rfl)
   have ht16:tz (m/65536^i % 65536)<16:=by
    have h1:=Qf hx
    have:bl (m/65536^i % 65536)≤16:=zN.2 (by omega)
    omega
   simp(disch:=omega)only[go_sem,h2,jc]
   generalize hq:m/65536^i % 65536=q at*
   have hq6:q<65536:=by omega
   simp(disch:=omega)only[go_sem,aeP]
   refine qm (axJ q hx (by omega)) ?_
   simp(disch:=omega)only[go_sem]
   have e4:(16:Int)*(i:Int)+(tz q:Int)=(tz m:Int):=by omega
   simp(disch:=omega)only[go_sem,e4]
   exact qu
  ·simp(disch:=omega)only[go_sem,h2]
   refine qe (i+1) [] ⟨by omega,fun j hj=>?_⟩ (by show(lim m).length-(i+1)<(lim m).length-i;omega) rfl (by simp(disch:=omega)only[go_sem];try omega) (by simp(disch:=omega)only[go_sem])
   rcases(by omega:j<i∨j=i)with h|h
   ·exact hz j h
   ·subst h;exact h2
 ·simp(disch:=omega)only[go_sem,h1]
  have hm:m=0:=by
   have:=qY m
   have h3:lim m=List.replicate (lim m).length 0:=by
    apply List.ext_getElem
    ·simp
    ·intro j h1 h2
     have:=hz j (by omega)
     rw[List.getD_eq_getElem?_getD,List.getElem?_eq_getElem h1]at this
     simpa using this
   rw[h3,zY]at this
   omega
  subst hm
  rw[aeU]
  exact qu
theorem KP(m:Nat)(i:Int)(hl:(lim m).length≤2^40)(hi:0≤i)(hi2:i<2^62):Con Tryz.prog 300 true [.sl (lim (m)).length (qg (lim (m))),.v (.int .i64 i)] [] (isA (.v (.int .i64 ((m/2^i.toNat % 2:Nat):Int)))):=by
 refine Con.of_w (rs:=[.tmp 4]) Tryz.func300 rfl Tryz.ntmps300 rfl ?_
 obtain⟨k,rfl⟩:=Int.eq_ofNat_of_zero_le hi
 rw[Int.toNat_natCast]
 have h0:¬((k:Int)<0):=by omega
 have e16:((k:Int)/16).toNat=k/16:=by omega
 have em:min ((k:Int) % 16).toNat 64=k % 16:=by omega
 have hb:=aiE m k
 simp(disch:=omega)only[go_sem,h0]
 refine qh (fun h1=>?_) (fun h1=>?_)
 ·simp(disch:=omega)only[go_sem,h1]
  have:m/2^k % 2=0:=by
   rw[←hb]
   have h2:=jc m (k/16)
   rw[List.getD_eq_getElem?_getD,List.getElem?_eq_none (by omega)]at h2
   have h3:m/65536^(k/16) % 65536=0:=by simp only[Option.getD_none]at h2;omega
   rw[h3];simp
  rw[this]
  exact qu
 ·have hx:=qL (q5 m) (k/16)
  have hp:(0:Int)<2^(k % 16):=Int.pow_pos (by omega)
  have efd:∀x:Int,x.fdiv (2^(k % 16))=x/2^(k % 16):=fun x=>Int.fdiv_eq_ediv_of_nonneg _ (Int.le_of_lt hp)
  have hq:0≤(lim m).getD (k/16) 0/2^(k % 16)∧(lim m).getD (k/16) 0/2^(k % 16)<65536:=by
   refine⟨Int.ediv_nonneg hx.1 (Int.le_of_lt hp),Int.lt_of_le_of_lt (Int.ediv_le_self _ hx.1) hx.2⟩
  have hr:(lim m).getD (k/16) 0/2^(k % 16) % 2=((m/2^k % 2:Nat):Int):=by
   rw[←hb,jc]
   generalize m/65536^(k/16) % 65536=x
   rw[Int.natCast_emod,Int.natCast_ediv,Int.natCast_pow];rfl
  simp(disch:=omega)only[go_sem,h1,e16,em,efd,hr]
  refine⟨by omega,by omega,by omega,?_⟩
  exact qu
end Go.Ab
namespace Go.Ab
open Go Go.Proofs
theorem K5(a k:Nat):(vl (lim a)*2^k).toNat=a*2^k:=by
 rw[qY]
 have:((a:Int)*2^k)=((a*2^k:Nat):Int):=by rw[Int.natCast_mul,Int.natCast_pow];rfl
 rw[this,Int.toNat_natCast]
theorem K6(a k:Nat):(vl (lim a)/2^k).toNat=a/2^k:=by
 rw[qY]
 have:((a:Int)/2^k)=((a/2^k:Nat):Int):=by rw[Int.natCast_ediv,Int.natCast_pow];rfl
 rw[this,Int.toNat_natCast]
theorem anT(a b:Nat):(vl (lim a)*vl (lim b)).toNat=a*b:=by rw[qY,qY,←Int.natCast_mul,Int.toNat_natCast]
theorem anU(a b:Nat):(vl (lim a)+vl (lim b)).toNat=a+b:=by rw[qY,qY];omega
theorem anS(a b:Nat):(vl (lim a)-vl (lim b)).toNat=a-b:=by rw[qY,qY];omega
theorem jH(n:Nat)(hn:n<2^63):Con Tryz.prog 111 false [.v (.int .i64 n)] [] (apS (lim n)):=(ahH false n hn).num
theorem ahC(cl:Bool)(a k:Nat)(la:(lim a).length≤1000000)(hk:k≤100000000):Con Tryz.prog 214 cl [.sl (lim (a)).length (qg (lim (a))),.v (.int .i64 k)] [] (agb (lim (a*2^k))):=by
 have:=axI cl (lim a) k (q5 a) la hk
 rwa[K5]at this
theorem jy(a k:Nat)(la:(lim a).length≤1000000)(hk:k≤100000000):Con Tryz.prog 214 false [.sl (lim (a)).length (qg (lim (a))),.v (.int .i64 k)] [] (apS (lim (a*2^k))):=(ahC false a k la hk).num
theorem KM(cl:Bool)(a k:Nat)(la:(lim a).length≤1000000)(hk:k≤100000000):Con Tryz.prog 262 cl [.sl (lim (a)).length (qg (lim (a))),.v (.int .i64 k)] [] (agb (lim (a/2^k))):=by
 have:=amo cl (lim a) k (q5 a) la hk
 rwa[K6]at this
theorem aie(a k:Nat)(la:(lim a).length≤1000000)(hk:k≤100000000):Con Tryz.prog 262 false [.sl (lim (a)).length (qg (lim (a))),.v (.int .i64 k)] [] (apS (lim (a/2^k))):=(KM false a k la hk).num
theorem ad4(a b:Nat)(la:(lim a).length≤1000000)(lb:(lim b).length≤1000000):Con Tryz.prog 260 false [.sl (lim (a)).length (qg (lim (a))),.sl (lim (b)).length (qg (lim (b)))] [] (apS (lim (a*b))):=by
 have:=(ahE false (lim a) (lim b) (q5 a) (q5 b) la lb).num
 rwa[anT]at this
theorem Kv(a b:Nat)(la:(lim a).length≤2000000)(lb:(lim b).length≤2000000):Con Tryz.prog 273 false [.sl (lim (a)).length (qg (lim (a))),.sl (lim (b)).length (qg (lim (b)))] [] (apS (lim (a+b))):=by
 have:=(amj false (lim a) (lim b) (q5 a) (q5 b) la lb).num
 rwa[anU]at this
theorem aif(a d:Nat)(la:(lim a).length≤1000000)(hd:0<d)(hd2:d<65536):
  Con Tryz.prog 327 false [.sl (lim (a)).length (qg (lim (a))),.v (.int .i64 d)] [] (isA (.tu [.sl (lim (a/d)).length (qg (lim (a/d))),.v (.int .i64 ((a % d:Nat):Int))])):=
 Con.frzA <| (amp false (lim a) d (q5 a) la hd hd2).mono fun r hs bs ⟨zs,h1,h2⟩=>by
  rw[qY]at h1 h2
  rw[h1,h2]
  have e:((a:Int)/(d:Int)).toNat=a/d:=by
   rw[←Int.natCast_ediv,Int.toNat_natCast]
  rw[e]
  show qE _ 6 _=_
  unfold qE
  simp only[List.map_cons,List.map_nil]
  rw[ja (k:=3) (l:=lim (a/d)) (zs:=zs) zg rfl]
  rw[Int.natCast_emod];rfl
end Go.Ab
namespace Go.Ab
open Go Go.Proofs
set_option maxRecDepth 100000 in
theorem aek(a b:Nat)(hb:b≠0)(la:(lim a).length≤900000)(lb:(lim b).length≤900000):
  Con Tryz.prog 301 false [.sl (lim (a)).length (qg (lim (a))),.sl (lim (b)).length (qg (lim (b)))] [] (ayu (.tu [.sl (lim (a/b)).length (qg (lim (a/b))),.sl (lim (a % b)).length (qg (lim (a % b)))])):=by
 refine Con.of_aw Tryz.func301 rfl Tryz.ntmps301 (by simp) (by simp) (by simp) (W.sound ?_)
 show @W Tryz.prog 96 ⟨_⟩ ⟨fun x σ=>@q8 _ _ _ ⟨_⟩ _ ⟨_⟩ x σ⟩ _ _
 simp(disch:=omega)only[go_sem]
 refine qr (jT a b (by omega) (by omega)) (by simp(disch:=omega)only[go_sem]) ?_
 rintro r hs ⟨rfl,rfl,_⟩
 refine⟨by simp[qB],?_⟩
 simp(disch:=omega)only[go_sem]
 refine qh (fun h1=>?_) (fun h1=>?_)
 ·simp(disch:=omega)only[go_sem,h1]
  have hab:a<b:=by
   unfold zF at h1;split at h1
   ·omega
   ·split at h1<;>omega
  refine qa (KO false (lim a) (by omega)).num ?_
  simp(disch:=omega)only[go_sem]
  refine qW (by simp(disch:=omega)only[go_sem]) ?_
  show qE _ 6 _=_
  rw[Nat.div_eq_of_lt hab,Nat.mod_eq_of_lt hab]
  simp only[qE,qt];rfl
 ·have hab:b≤a:=by
   unfold zF at h1;split at h1
   ·omega
   ·omega
  have ha:a≠0:=by omega
  have hlb:=yg hb
  simp(disch:=omega)only[go_sem,h1]
  refine qh (fun h2=>?_) (fun h2=>?_)
  ·simp(disch:=omega)only[go_sem,h2]
   have hb6:b<65536:=by have:=Z1 b;rw[show(lim b).length=1 by omega]at this;omega
   have e0:(lim b).getD 0 0=(b:Int):=by rw[jc];simp;omega
   simp(disch:=omega)only[go_sem,e0]
   refine⟨by omega,by omega,?_⟩
   refine qa (aif a b (by omega) (by omega) hb6) ?_
   simp(disch:=omega)only[go_sem]
   have:a % b<b:=Nat.mod_lt _ (by omega)
   refine qa (jH (a % b) (by omega)) ?_
   simp(disch:=omega)only[go_sem]
   exact qW (by simp(disch:=omega)only[go_sem]) (by rfl)
  ·have hl2:2≤(lim b).length:=by omega
   have hll:(lim b).length≤(lim a).length:=yy hab
   have ht:=JU hb
   have eb:(((lim b).length:Int)-1).toNat=(lim b).length-1:=by omega
   have hnd:=akN hb _ rfl
   simp(disch:=omega)only[go_sem,h2,eb,jc]
   have e3:((b/65536^((lim b).length-1) % 65536:Nat):Int)=((b/65536^((lim b).length-1):Nat):Int):=by rw[Nat.mod_eq_of_lt ht.2]
   generalize hq:b/65536^((lim b).length-1)=q at*
   have hq16:bl q≤16:=zN.2 (by omega)
   simp(disch:=omega)only[go_sem,e3,aeP]
   refine⟨by omega,by omega,?_⟩
   refine qm (ahP q (by omega)) ?_
   simp(disch:=omega)only[go_sem]
   have e4:(16:Int)-(bl q:Int)=((16-bl q:Nat):Int):=by omega
   simp(disch:=omega)only[go_sem,e4]
   generalize hs:16-bl q=s at*
   obtain⟨hs16,hvl,hv1,hvge⟩:=hnd
   refine qz (jy b s (by omega) (by omega)) (by simp(disch:=omega)only[go_sem,e4]) ?_
   rintro r hs0 ⟨rfl,rfl,_⟩
   refine⟨by simp[qB],?_⟩
   simp(disch:=omega)only[go_sem]
   refine qz (ahC false a s (by omega) (by omega)) (by simp(disch:=omega)only[go_sem,e4]) ?_
   have hun:a*2^s≠0:=by have:0<2^s:=Nat.pow_pos (by omega);have:=Nat.mul_pos (show 0<a by omega) this;omega
   rintro r hs1 (⟨h,_,_⟩|⟨zs,rfl,rfl⟩)
   ·exact absurd (qJ.1 h) hun
   refine⟨⟨by simp,by simp(disch:=omega)only[go_sem]⟩,?_⟩
   have hul:=adD a hs16
   have hug:=agB a s
   have ex:((lim a).length:Int)+1-((lim (a*2^s)).length:Int)=(((lim a).length+1-(lim (a*2^s)).length:Nat):Int):=by omega
   have ecut:(lim (a*2^s)++zs).take (lim (a*2^s)).length=lim (a*2^s):=List.take_left' rfl
   have em:(((lim a).length:Int)-((lim b).length:Int)+1).toNat=(lim a).length-(lim b).length+1:=by omega
   simp(disch:=omega)only[go_sem,ex,ecut,em]
   generalize hU0:lim (a*2^s)++List.replicate ((lim a).length+1-(lim (a*2^s)).length) 0=U0
   have lU0:U0.length=(lim a).length+1:=by rw[←hU0];simp;omega
   have gU0:gd U0:=by rw[←hU0];exact qM.2 ⟨q5 _,zk _⟩
   have vU0:vl U0=((a*2^s:Nat):Int):=by rw[←hU0,abK,qY]
   have hfw:=ahc gU0 hll hlb hs16 lU0 vU0 hvge
   have elen:(lim (a*2^s)).length+((lim a).length+1-(lim (a*2^s)).length)=U0.length:=by omega
   refine⟨by omega,⟨by simp,by omega⟩,by omega,?_⟩
   generalize hV:lim (b*2^s)=V at*
   have gV:gd V:=by rw[←hV];exact q5 _
   have vV:vl V=((b*2^s:Nat):Int):=by rw[←hV,qY]
   generalize hm:(lim a).length-(lim b).length+1=m at*
   refine qj (fun x:Nat×List Int×List Int=>[(8,.v (.int .i64 s)),(9,.sl V.length (qg V)),(10,.rf 0 0 x.2.1.length),(11,.rf 1 0 x.2.2.length),(12,.v (.int .i64 ((x.1:Int)-1)))])
    (fun x=>[(0,.own 1 (qg x.2.1)),(1,.own 1 (qg x.2.2))])
    (fun x=>x.1≤m∧x.2.1.length=U0.length∧gd x.2.1∧x.2.2.length=m∧gd x.2.2∧vl (x.2.1.drop x.1)<vl V∧vl x.2.1+vl V*(65536^x.1*vl (x.2.2.drop x.1))=((a*2^s:Nat):Int))
    (fun x=>x.1) (m,U0,List.replicate m 0) ⟨Nat.le_refl _,rfl,gU0,by simp,zk _,by show vl (U0.drop m)<vl V;rw[vV];exact hfw,by show vl U0+vl V*(65536^m*vl ((List.replicate m 0).drop m))=_;rw[List.drop_of_length_le (by simp)];simp[vl];exact vU0⟩
    (Le.lst [(0,580000000),(1,650000000)] _ _ rfl (by simp(disch:=omega)only[go_sem,elen,e4,List.length_replicate];try omega) (by simp(disch:=omega)only[go_sem,hU0,em])) ?_
   rintro⟨k,U,O⟩ ⟨hk,lU,gU,lO,gO,hlt,hval⟩
   dsimp only at hk lU gU lO gO hlt hval ⊢
   simp(disch:=omega)only[go_sem]
   refine qh (fun g1=>?_) (fun g1=>?_)
   ·obtain⟨j,rfl⟩:∃j,k=j+1:=⟨k-1,by omega⟩
    have ej:((j+1:Nat):Int)-1=(j:Nat):=by omega
    have hWj:vl (U.drop j)<65536*vl V:=by
     rw[zG (by omega)]
     have:=qL gU j
     omega
    simp(disch:=omega)only[go_sem,g1,ej]
    refine qr (abn U V j gU gV (by omega) (by omega) (by omega) (by rw[hvl];exact hv1) hWj) (by simp(disch:=omega)only[go_sem]) ?_
    rintro r hs ⟨qd,rfl,rfl,_,hq,hq1,hq2⟩
    refine⟨by simp[qB],?_⟩
    simp(disch:=omega)only[go_sem]
    refine zf false [0] (Ks U V j qd gU gV (by omega) (by omega) hq) (by simp(disch:=omega)only[go_sem]) (by simp(disch:=omega)only[go_sem]) rfl (qZ (z:=1) (cs:=qg U) (by simp(disch:=omega)only[go_sem]) (by simp(disch:=omega)only[go_sem])) (by intro n hn;exact⟨_,List.mem_cons_self ..,by rw[List.mem_singleton.1 hn];rfl⟩) ?_
    rintro r hs bs ⟨U',bo,rfl,rfl,rfl,hl',gU',hbo,hsm,hv'⟩ _
    refine⟨by simp[qB],?_⟩
    generalize hT:U'.set (j+V.length) (U.getD (j+V.length) 0-bo)=T at*
    obtain⟨lT,vT,wT,tT,aT,pT,nT⟩:=afy gU gV (by omega) hWj hq1 hq2 hl' gU' hsm hv' T hT.symm
    have hfin:∀(U2:List Int) (qf:Int),vl U2=vl U-65536^j*(qf*vl V)→vl U2+vl V*(65536^j*vl ((O.set j qf).drop j))=((a*2^s:Nat):Int):=by
     intro U2 qf h2
     rw[VM (by omega),h2,←hval,Int.pow_succ]
     generalize (65536:Int)^j=Pj at*
     grind
    simp(disch:=omega)only[go_sem]
    refine qh (fun g2=>?_) (fun g2=>?_)
    ·obtain⟨⟨n1,n2⟩,n3⟩:=nT g2
     simp(disch:=omega)only[go_sem,g2]
     refine zf false [0] (abq T V j n3 (by rw[tT];omega) gV (by omega) (by omega)) (by simp(disch:=omega)only[go_sem,lT]) (by simp(disch:=omega)only[go_sem]) rfl (qZ (z:=1) (cs:=qg T) (by simp(disch:=omega)only[go_sem]) (by simp(disch:=omega)only[go_sem])) (by intro n hn;exact⟨_,List.mem_cons_self ..,by rw[List.mem_singleton.1 hn];rfl⟩) ?_
     rintro r hs bs ⟨T',rfl,rfl,rfl,lT',gT',sT',vT'⟩ _
     refine⟨by simp[qB],?_⟩
     rw[Int.add_mul]at hq1
     obtain⟨gT2,wT2⟩:=aiI gV (by omega) lT' gT' sT' aT vT' (by omega) (by omega)
     simp(disch:=omega)only[go_sem,lO]
     have hqp:0<qd:=by
      have h3:=q9 (y3 gU j)
      rcases(by omega:0<qd∨qd=0)with h|h
      ·exact h
      ·subst h;simp at n2;omega
     refine⟨by omega,by omega,qe (j,T',O.set j (qd-1)) [] ⟨by show j≤m;omega,by show T'.length=_;omega,gT2,by simp[lO],yK gO (by omega),by show vl (T'.drop j)<vl V;omega,hfin T' (qd-1) ?_⟩ (by show j<j+1;omega) rfl (by simp(disch:=omega)only[go_sem,List.length_set];try omega) (by simp(disch:=omega)only[go_sem])⟩
     rw[vT',vT,Int.sub_mul,Int.one_mul,Int.mul_sub];omega
    ·obtain⟨p1,p2⟩:=pT g2
     rw[Int.add_mul]at hq1
     simp(disch:=omega)only[go_sem,g2,lO]
     refine⟨by omega,by omega,qe (j,T,O.set j qd) [] ⟨by show j≤m;omega,by show T.length=_;omega,p1,by simp[lO],yK gO hq,by show vl (T.drop j)<vl V;omega,hfin T qd vT⟩ (by show j<j+1;omega) rfl (by simp(disch:=omega)only[go_sem,List.length_set];try omega) (by simp(disch:=omega)only[go_sem])⟩
   ·have:k=0:=by omega
    subst this
    rw[List.drop_zero]at hlt
    rw[List.drop_zero,Int.pow_zero,Int.one_mul]at hval
    have hvO:=q9 gO
    have hvU:=q9 gU
    have hcO:=jk gO
    have hcU:=jk gU
    have hpS:0<2^s:=Nat.pow_pos (by omega)
    obtain⟨d1,d2⟩:(vl O).toNat=a/b∧(vl U).toNat=a % b*2^s:=by
     refine al3 hpS (by omega) ?_ (by omega)
     rw[vV]at hval
     have:((vl U).toNat:Int)+((b*2^s:Nat):Int)*((vl O).toNat:Int)=((a*2^s:Nat):Int):=by
      rw[Int.toNat_of_nonneg hvO,Int.toNat_of_nonneg hvU];exact hval
     rw[←Int.natCast_mul,←Int.natCast_add]at this
     exact Int.ofNat.inj this
    rw[d1]at hcO
    rw[d2]at hcU
    obtain⟨zo,hzo⟩:=zV O
    obtain⟨zu,hzu⟩:=zV U
    have htU:=ahA U
    rw[hcO]at hzo
    rw[hcU]at hzu htU
    simp(disch:=omega)only[go_sem,g1]
    refine zf false [1] (jE O (by omega)) (by simp(disch:=omega)only[go_sem]) (by simp(disch:=omega)only[go_sem]) rfl (qZ (z:=1) (cs:=qg O) (by simp(disch:=omega)only[go_sem]) (by simp(disch:=omega)only[go_sem])) (by intro n hn;exact⟨_,List.mem_singleton.2 rfl,by rw[List.mem_singleton.1 hn];rfl⟩) ?_
    rintro r hs bs ⟨rfl,rfl,rfl⟩ _
    refine⟨by simp[qB],?_⟩
    simp(disch:=omega)only[go_sem]
    refine zf false [0] (jE U (by omega)) (by simp(disch:=omega)only[go_sem]) (by simp(disch:=omega)only[go_sem]) rfl (qZ (z:=1) (cs:=qg U) (by simp(disch:=omega)only[go_sem]) (by simp(disch:=omega)only[go_sem])) (by intro n hn;exact⟨_,List.mem_singleton.2 rfl,by rw[List.mem_singleton.1 hn];rfl⟩) ?_
    rintro r hs bs ⟨rfl,rfl,rfl⟩ _
    refine⟨by simp[qB],?_⟩
    simp(disch:=omega)only[go_sem,hcO,hcU]
    have hlr:(lim (a % b*2^s)).length≤1000000:=by
     have:=congrArg List.length hzu
     simp at this;omega
    refine qr (KM true (a % b*2^s) s hlr (by omega)) (by simp(disch:=omega)only[go_sem,htU]) ?_
    rw[Nat.mul_div_cancel _ hpS]
    rintro r hs2 (⟨h,rfl,rfl⟩|⟨z2,rfl,rfl⟩)
    ·refine⟨⟨by simp,by simp(disch:=omega)only[go_sem]⟩,?_⟩
     simp(disch:=omega)only[go_sem]
     refine ql [(0,1)] [.own 1 (qg O)] [] [.rf 0 0 (lim (a/b)).length,.v (.slice none 0 0)] rfl (by simp(disch:=omega)only[go_sem]) (by simp(disch:=omega)only[go_sem]) (by simp) (by simp) ?_
     show qE _ 6 _=_
     unfold qE
     simp only[zb,List.map_cons,List.map_nil]
     rw[hzo,ja (k:=3) (l:=lim (a/b)) (zs:=List.replicate zo 0) zg rfl,h]
     rfl
    ·refine⟨⟨by simp,by simp(disch:=omega)only[go_sem]⟩,?_⟩
     simp(disch:=omega)only[go_sem]
     refine ql [(0,1),(1,970000000)] [.own 1 (qg O),.own 1 (qg (lim (a % b)++z2))] [] [.rf 0 0 (lim (a/b)).length,.rf 1 0 (lim (a % b)).length] rfl (by simp(disch:=omega)only[go_sem]) (by simp(disch:=omega)only[go_sem]) (by simp) (by simp) ?_
     show qE _ 6 _=_
     unfold qE
     simp only[zb,List.map_cons,List.map_nil]
     rw[hzo,ja (k:=3) (l:=lim (a/b)) (zs:=List.replicate zo 0) zg rfl,ja (k:=3) (l:=lim (a % b)) (zs:=z2) apj rfl]
end Go.Ab
namespace Go.Ab
open Go Go.Proofs
theorem Xg(n lo hi:Int):Con Tryz.prog 52 true [.v (.int .i64 n),.v (.int .i64 lo),.v (.int .i64 hi)] [] (fun r hs bs=>r=.v (.bool (decide (lo≤n)&&decide (n≤hi)))∧hs=[]):=by
 refine Con.of_aw Tryz.func52 rfl Tryz.ntmps52 (by simp) (by simp) (by simp) (W.sound ?_)
 show @W Tryz.prog 15 ⟨_⟩ ⟨fun x σ=>@q8 _ _ _ ⟨_⟩ _ ⟨_⟩ x σ⟩ _ _
 simp(disch:=omega)only[go_sem]
 refine qh (fun h1=>?_) (fun h1=>?_)
 ·simp(disch:=omega)only[go_sem,h1]
  refine ql [] [] [] [.v (.bool (decide (n≤hi)))] rfl (by simp(disch:=omega)only[go_sem]) (by simp(disch:=omega)only[go_sem]) (by simp) (by simp[AV.pu,zb]) ⟨by simp[zb,h1],rfl⟩
 ·simp(disch:=omega)only[go_sem,h1]
  refine ql [] [] [] [.v (.bool false)] rfl (by simp(disch:=omega)only[go_sem]) (by simp(disch:=omega)only[go_sem]) (by simp) (by simp[AV.pu,zb]) ⟨by simp[zb,h1],rfl⟩
end Go.Ab
namespace Go.Ab
open Go Go.Proofs
theorem abm(a b:Nat)(hb:b≠0)(la:(lim a).length≤900000)(lb:(lim b).length≤900000):
  Con Tryz.prog 301 false [.sl (lim (a)).length (qg (lim (a))),.sl (lim (b)).length (qg (lim (b)))] [] (isA (.tu [.sl (lim (a/b)).length (qg (lim (a/b))),.sl (lim (a % b)).length (qg (lim (a % b)))])):=(aek a b hb la lb).frzA
theorem aa2(neg odd:Bool)(half mode:Int):Con Tryz.prog 302 true [.v (.bool neg),.v (.bool odd),.v (.int .i64 half),.v (.int .i64 mode)] [] (isA (.v (.bool (rup neg odd half mode)))):=by
 refine Con.of_aw Tryz.func302 rfl Tryz.ntmps302 (by simp) (by simp) (by simp) (W.sound ?_)
 show @W Tryz.prog 32 ⟨_⟩ ⟨fun x σ=>@q8 _ _ _ ⟨_⟩ _ ⟨_⟩ x σ⟩ _ _
 simp(disch:=omega)only[go_sem]
 refine qh (fun h1=>?_) (fun h1=>?_)
 ·simp(disch:=omega)only[go_sem,h1]
  exact qv (by simp(disch:=omega)only[go_sem]) (by simp(disch:=omega)only[go_sem]) ⟨by simp[zb,rup,h1],rfl,rfl⟩
 ·simp(disch:=omega)only[go_sem,h1]
  refine qh (fun h2=>?_) (fun h2=>?_)
  ·simp(disch:=omega)only[go_sem,h2]
   exact qv (by simp(disch:=omega)only[go_sem]) (by simp(disch:=omega)only[go_sem]) ⟨by simp[zb,rup,h2],rfl,rfl⟩
  ·simp(disch:=omega)only[go_sem,h2]
   refine qh (fun h3=>?_) (fun h3=>?_)
   ·simp(disch:=omega)only[go_sem,h3]
    refine je (fun h4=>?_) (fun h4=>?_)
    ·simp(disch:=omega)only[go_sem,h4]
     refine qh (fun h5=>?_) (fun h5=>?_)
     ·simp(disch:=omega)only[go_sem,h5]
      exact qv (by simp(disch:=omega)only[go_sem]) (by simp(disch:=omega)only[go_sem]) ⟨by simp[zb,rup,h3,h5],rfl,rfl⟩
     ·simp(disch:=omega)only[go_sem,h5]
      exact qv (by simp(disch:=omega)only[go_sem]) (by simp(disch:=omega)only[go_sem]) ⟨by simp[zb,rup,h3,h4,h5],rfl,rfl⟩
    ·simp(disch:=omega)only[go_sem,h4]
     exact qv (by simp(disch:=omega)only[go_sem]) (by simp(disch:=omega)only[go_sem]) ⟨by simp[zb,rup,h3,h4],rfl,rfl⟩
   ·simp(disch:=omega)only[go_sem,h3]
    refine qh (fun h4=>?_) (fun h4=>?_)
    ·simp(disch:=omega)only[go_sem,h4]
     exact qv (by simp(disch:=omega)only[go_sem]) (by simp(disch:=omega)only[go_sem]) ⟨by simp[zb,rup,h4],rfl,rfl⟩
    ·simp(disch:=omega)only[go_sem,h4]
     exact qv (by simp(disch:=omega)only[go_sem]) (by simp(disch:=omega)only[go_sem]) ⟨by simp[zb,rup,h1,h2,h3,h4],rfl,rfl⟩
theorem ZK(neg:Bool)(a b:Nat)(mode:Int)(hb:b≠0)(la:bl a≤8000000)(lb:bl b≤8000000):
  Con Tryz.prog 256 false [.v (.bool neg),.sl (lim (a)).length (qg (lim (a))),.sl (lim (b)).length (qg (lim (b))),.v (.int .i64 mode)] [] (isA (.tu [.sl (lim (rq neg a b mode)).length (qg (lim (rq neg a b mode))),.v (.bool (decide (a % b=0)))])):=by
 refine Con.of_aw Tryz.func256 rfl Tryz.ntmps256 (by simp) (by simp) (by simp) (W.sound ?_)
 show @W Tryz.prog 36 ⟨_⟩ ⟨fun x σ=>@q8 _ _ _ ⟨_⟩ _ ⟨_⟩ x σ⟩ _ _
 simp(disch:=omega)only[go_sem]
 have lla:=qx la
 have llb:=qx lb
 refine qa (abm a b hb (by omega) (by omega)) ?_
 simp(disch:=omega)only[go_sem]
 have hmb:a % b<b:=Nat.mod_lt _ (by omega)
 have llr:=qx (Nat.le_trans (jh (Nat.le_of_lt hmb)) lb)
 have llq:=qx (Nat.le_trans (Qw a b) la)
 refine qh (fun h1=>?_) (fun h1=>?_)
 ·simp(disch:=omega)only[go_sem,h1]
  have h0:a % b=0:=qJ.1 (List.length_eq_zero_iff.1 (by omega))
  refine qW (by simp(disch:=omega)only[go_sem]) ⟨?_,rfl,rfl⟩
  simp[zb,rq,h0]
 ·simp(disch:=omega)only[go_sem,h1]
  have h0:a % b≠0:=fun e=>h1 (by rw[e,qt];rfl)
  refine qm (KP (a/b) 0 (by omega) (by omega) (by omega)) ?_
  simp(disch:=omega)only[go_sem]
  refine qa (jy (a % b) 1 (by omega) (by omega)) ?_
  simp(disch:=omega)only[go_sem]
  have llu:=qx (Nat.le_trans (ZS (a % b) 1) (Nat.add_le_add_right (Nat.le_trans (jh (Nat.le_of_lt hmb)) lb) 1))
  refine qm (jT (a % b*2^1) b (by omega) (by omega)) ?_
  simp(disch:=omega)only[go_sem]
  have e1:(decide (((a/b/1 % 2:Nat):Int)=1))=decide (a/b % 2=1):=by
   simp;omega
  refine qm (aa2 neg (decide (a/b % 2=1)) (zF ((a % b*2^1:Nat):Int) (b:Int)) mode) ?_ (by simp(disch:=omega)only[go_sem,e1,Int.toNat_zero,Nat.pow_zero])
  simp(disch:=omega)only[go_sem]
  refine QA (fun h2=>?_) (fun h2=>?_)
  ·simp(disch:=omega)only[go_sem,h2]
   refine qa (jH 1 (by omega)) ?_
   simp(disch:=omega)only[go_sem]
   have l1:(lim 1).length≤2000000:=by have:=qx (m:=1) (B:=1) (by decide);omega
   refine qa (Kv (a/b) 1 (by omega) l1) ?_
   simp(disch:=omega)only[go_sem]
   refine qW (by simp(disch:=omega)only[go_sem]) ⟨?_,rfl,rfl⟩
   have e:rq neg a b mode=a/b+1:=by unfold rq;rw[if_neg h0,if_pos h2]
   rw[e];simp[zb,h0]
  ·simp(disch:=omega)only[go_sem,h2]
   refine qW (by simp(disch:=omega)only[go_sem]) ⟨?_,rfl,rfl⟩
   have e:rq neg a b mode=a/b:=by unfold rq;rw[if_neg h0,if_neg (by rw[h2];simp)]
   rw[e];simp[zb,h0]
end Go.Ab
namespace Go.Ab
open Go Go.Proofs
theorem ZR(s:Bool)(m:Nat)(e:Int):Con Tryz.prog 139 true [.ag [.v (.bool (s)),.sl (lim (m)).length (qg (lim (m))),.v (.int .i64 (e))]] [] (isA (.v (.bool (decide (m=0))))):=by
 refine Con.of_aw Tryz.func139 rfl Tryz.ntmps139 (by simp) (by simp) (by simp) (W.sound ?_)
 show @W Tryz.prog 7 ⟨_⟩ ⟨fun x σ=>@q8 _ _ _ ⟨_⟩ _ ⟨_⟩ x σ⟩ _ _
 simp(disch:=omega)only[go_sem]
 refine qv (by simp(disch:=omega)only[go_sem]) (by simp(disch:=omega)only[go_sem]) ⟨?_,rfl,rfl⟩
 have:decide (((lim m).length:Int)=0)=decide (m=0):=by
  rw[decide_eq_decide]
  exact⟨fun h=>qJ.1 (List.length_eq_zero_iff.1 (by omega)),fun h=>by rw[h,qt];rfl⟩
 rw[this];rfl
theorem ayx(s:Bool)(m:Nat)(e:Int)(hm:(lim m).length≤2^40)(he: -2^40≤e∧e≤2^40):Con Tryz.prog 140 true [.ag [.v (.bool (s)),.sl (lim (m)).length (qg (lim (m))),.v (.int .i64 (e))]] [] (isA (.v (.int .i64 (if m=0 then 0 else(bl m:Int)+e)))):=by
 refine Con.of_w (rs:=[.tmp 2]) Tryz.func140 rfl Tryz.ntmps140 rfl ?_
 simp(disch:=omega)only[go_sem]
 refine qh (fun h1=>?_) (fun h1=>?_)
 ·simp(disch:=omega)only[go_sem,h1]
  have h0:m=0:=qJ.1 (List.length_eq_zero_iff.1 (by omega))
  rw[if_pos h0]
  exact qu
 ·have h0:m≠0:=fun e=>h1 (by rw[e,qt];rfl)
  have:=Zh (m:=m)
  simp(disch:=omega)only[go_sem,h1]
  refine qs rfl [⟨0,[],[]⟩,⟨1,[],[]⟩,⟨3,[1],[]⟩,⟨4,[1],[]⟩,⟨2,[4],[]⟩,⟨5,[],[]⟩,⟨6,[],[]⟩] (by kernel_rfl) ?_
  simp(disch:=omega)only[go_sem]
  refine qm (aem m hm) ?_
  simp(disch:=omega)only[go_sem]
  rw[if_neg h0]
  exact qu
theorem aa3(s:Bool)(m:Nat)(e:Int)(hm:bl m≤10000000)(he: -2^40≤e∧e≤2^40):Con Tryz.prog 201 false [.ag [.v (.bool (s)),.sl (lim (m)).length (qg (lim (m))),.v (.int .i64 (e))]] [] (isA (.ag [.v (.bool (oS s m)),.sl (lim (oM m)).length (qg (lim (oM m))),.v (.int .i64 (oE m e))])):=by
 refine Con.frzA ?_
 refine Con.of_aw Tryz.func201 rfl Tryz.ntmps201 (by simp) (by simp) (by simp) (W.sound ?_)
 show @W Tryz.prog 23 ⟨_⟩ ⟨fun x σ=>@q8 _ _ _ ⟨_⟩ _ ⟨_⟩ x σ⟩ _ _
 simp(disch:=omega)only[go_sem]
 have hl:=qx hm
 refine qh (fun h1=>?_) (fun h1=>?_)
 ·simp(disch:=omega)only[go_sem,h1]
  have h0:m=0:=qJ.1 (List.length_eq_zero_iff.1 (by omega))
  subst h0
  refine qW (by simp(disch:=omega)only[go_sem]) ?_
  show qE _ 6 _=_
  simp only[oS,jQ,oE,qt,if_true]
  simp(disch:=omega)only[go_sem]
 ·have h0:m≠0:=fun e=>h1 (by rw[e,qt];rfl)
  have ht:=Qf h0
  simp(disch:=omega)only[go_sem,h1]
  refine qm (aaX m (by omega)) ?_
  simp(disch:=omega)only[go_sem]
  refine qs rfl [⟨0,[],[]⟩,⟨1,[],[]⟩,⟨2,[1],[]⟩,⟨3,[1],[]⟩,⟨4,[1,3],[]⟩,⟨6,[1,3],[]⟩,⟨7,[1,3],[]⟩,⟨8,[1,3,7],[]⟩,⟨9,[1,3],[]⟩,⟨5,[1,7],[]⟩,⟨10,[],[]⟩,⟨11,[],[]⟩] (by kernel_rfl) ?_
  simp(disch:=omega)only[go_sem]
  refine qa (aie m (tz m) (by omega) (by omega)) ?_
  simp(disch:=omega)only[go_sem]
  refine qW (by simp(disch:=omega)only[go_sem]) ?_
  show qE _ 6 _=_
  simp only[oS,oM,oE,if_neg h0]
  simp(disch:=omega)only[go_sem]
def ovA(m1:Nat)(k:Int):Nat:=m1*2^k.toNat
def ovQ(s:Bool)(m1:Nat)(e1:Int)(m2:Nat)(e2 low mode:Int):Nat:=rq s (ovA m1 (e1-e2-low)) (ovA m2 (-(e1-e2-low))) mode
def ovX(m1:Nat)(e1:Int)(m2:Nat)(e2 low:Int):Bool:=decide (ovA m1 (e1-e2-low) % ovA m2 (-(e1-e2-low))=0)
theorem anG{m B:Nat}{k:Int}{C:Nat}(h:bl m≤B)(hk:k≤C):bl (ovA m k)≤B+C:=by
 have:=ZS m k.toNat
 unfold ovA;omega
theorem aut{m:Nat}{k:Int}(h:m≠0):ovA m k≠0:=by
 unfold ovA
 have:0<2^k.toNat:=Nat.pow_pos (by omega)
 have:=Nat.mul_pos (show 0<m by omega) this
 omega
theorem acu(s1:Bool)(m1:Nat)(e1:Int)(s2:Bool)(m2:Nat)(e2 low mode:Int)(h2:m2≠0)(hm1:bl m1≤4000000)(hm2:bl m2≤4000000)(hk: -4000000≤e1-e2-low∧e1-e2-low≤4000000)
  (he1: -2^40≤e1∧e1≤2^40) (he2: -2^40≤e2∧e2≤2^40) (hlo: -2^40≤low∧low≤2^40):
  Con Tryz.prog 193 false [.ag [.v (.bool (s1)),.sl (lim (m1)).length (qg (lim (m1))),.v (.int .i64 (e1))],.ag [.v (.bool (s2)),.sl (lim (m2)).length (qg (lim (m2))),.v (.int .i64 (e2))],.v (.int .i64 low),.v (.int .i64 mode)] []
   (isA (.tu [.ag [.v (.bool ((s1 != s2)&&decide (ovQ (s1 != s2) m1 e1 m2 e2 low mode≠0))),.sl (lim (ovQ (s1 != s2) m1 e1 m2 e2 low mode)).length (qg (lim (ovQ (s1 != s2) m1 e1 m2 e2 low mode))),.v (.int .i64 (low))],.v (.bool (ovX m1 e1 m2 e2 low))])):=by
 refine Con.frzA ?_
 refine Con.of_w (rs:=[.cell 8 97,.tmp 9]) Tryz.func193 rfl Tryz.ntmps193 rfl ?_
 have l1:=qx hm1
 have l2:=qx hm2
 generalize hsh:e1-e2-low=sh at*
 have eq1:ovQ (s1 != s2) m1 e1 m2 e2 low mode=rq (s1 != s2) (ovA m1 sh) (ovA m2 (-sh)) mode:=by unfold ovQ;rw[hsh]
 have eq2:ovX m1 e1 m2 e2 low=decide (ovA m1 sh % ovA m2 (-sh)=0):=by unfold ovX;rw[hsh]
 rw[eq1,eq2]
 simp(disch:=omega)only[go_sem,hsh]
 refine qs rfl [⟨0,[],[]⟩,⟨1,[],[]⟩,⟨2,[],[]⟩,⟨3,[2],[]⟩,⟨4,[2],[]⟩,⟨6,[2],[]⟩,⟨7,[2],[]⟩,⟨8,[2,7],[]⟩,⟨9,[2,7],[]⟩,⟨10,[2,7],[]⟩,⟨12,[2,7],[]⟩,⟨5,[7],[]⟩,⟨11,[],[]⟩,⟨13,[],[]⟩,⟨14,[],[]⟩,⟨15,[],[]⟩,⟨16,[],[]⟩,⟨17,[],[]⟩,⟨18,[],[]⟩] (by kernel_rfl) ?_
 have ex1:(if 0>sh then 0 else sh)=((sh.toNat:Nat):Int):=by split<;>omega
 have ex2:(if 0>0-sh then 0 else 0-sh)=(((-sh).toNat:Nat):Int):=by split<;>omega
 simp(disch:=omega)only[go_sem,ex1,ex2]
 refine qa (jy m1 sh.toNat (by omega) (by omega)) ?_
 simp(disch:=omega)only[go_sem]
 refine qa (jy m2 (-sh).toNat (by omega) (by omega)) ?_
 simp(disch:=omega)only[go_sem]
 refine qa (ZK (s1 != s2) (ovA m1 sh) (ovA m2 (-sh)) mode (aut h2) (anG (C:=4000000) hm1 (by omega)) (anG (C:=4000000) hm2 (by omega))) ?_ (by simp(disch:=omega)only[go_sem,ovA])
 simp(disch:=omega)only[go_sem]
 generalize rq (s1 != s2) (ovA m1 sh) (ovA m2 (-sh)) mode=q
 generalize decide (ovA m1 sh % ovA m2 (-sh)=0)=b
 have hq:decide ((0:Int)<((lim q).length:Int))=decide (q≠0):=by
  rw[decide_eq_decide]
  exact⟨fun h e=>by rw[e,qt]at h;simp at h,fun h=>by have:=yg h;omega⟩
 refine QA (fun h3=>?_) (fun h3=>?_)
 ·simp(disch:=omega)only[go_sem,h3,hq]
  exact qo (hp:=by simp(disch:=omega)only[go_sem,h3,Bool.true_and])
 ·simp(disch:=omega)only[go_sem,h3]
  exact qo (hp:=by simp(disch:=omega)only[go_sem,h3,Bool.false_and])
def roM(s:Bool)(m:Nat)(e low mode:Int):Nat:=if low≤e∨m=0 then m else rq s m (2^(low-e).toNat) mode
def roE(m:Nat)(e low:Int):Int:=if low≤e∨m=0 then e else low
def roX(m:Nat)(e low:Int):Bool:=if low≤e∨m=0 then true else decide (m % 2^(low-e).toNat=0)
def roS(s:Bool)(m:Nat)(e low mode:Int):Bool:=if low≤e∨m=0 then s else s&&decide (rq s m (2^(low-e).toNat) mode≠0)
theorem aa1(s:Bool)(m:Nat)(e low mode:Int)(hm:bl m≤4000000)(he: -1000000≤e∧e≤1000000)(hlo: -1000000≤low∧low≤1000000):
  Con Tryz.prog 116 false [.ag [.v (.bool (s)),.sl (lim (m)).length (qg (lim (m))),.v (.int .i64 (e))],.v (.int .i64 low),.v (.int .i64 mode)] []
   (isA (.tu [.ag [.v (.bool (roS s m e low mode)),.sl (lim (roM s m e low mode)).length (qg (lim (roM s m e low mode))),.v (.int .i64 (roE m e low))],.v (.bool (roX m e low))])):=by
 refine Con.frzA ?_
 refine Con.of_aw Tryz.func116 rfl Tryz.ntmps116 (by simp) (by simp) (by simp) (W.sound ?_)
 show @W Tryz.prog 25 ⟨_⟩ ⟨fun x σ=>@q8 _ _ _ ⟨_⟩ _ ⟨_⟩ x σ⟩ _ _
 simp(disch:=omega)only[go_sem]
 refine je (fun h1=>?_) (fun h1=>?_)
 ·simp(disch:=omega)only[go_sem,h1]
  refine qm (ZR s m e) ?_
  simp(disch:=omega)only[go_sem]
  refine qh (fun h2=>?_) (fun h2=>?_)
  ·simp(disch:=omega)only[go_sem,h2]
   refine qW (by simp(disch:=omega)only[go_sem]) ?_
   show qE _ 6 _=_
   simp only[roS,roM,roE,roX,h2,or_true,if_true]
   simp(disch:=omega)only[go_sem]
  ·simp(disch:=omega)only[go_sem,h2]
   refine qs rfl [⟨0,[],[]⟩,⟨3,[0],[]⟩,⟨4,[0],[]⟩,⟨1,[0],[]⟩,⟨2,[0],[]⟩,⟨5,[],[]⟩,⟨6,[],[]⟩,⟨7,[],[]⟩,⟨8,[],[]⟩,⟨9,[],[]⟩] (by kernel_rfl) ?_
   simp(disch:=omega)only[go_sem]
   refine qa (jH 1 (by omega)) ?_
   simp(disch:=omega)only[go_sem]
   refine qa (acu s m e false 1 0 low mode (by omega) hm (by decide) (by omega) (by omega) (by omega) (by omega)) ?_
   simp(disch:=omega)only[go_sem]
   refine qW (by simp(disch:=omega)only[go_sem]) ?_
   show qE _ 6 _=_
   have hc:¬(low≤e∨m=0):=by omega
   have e1:ovA m (e-0-low)=m:=by unfold ovA;rw[show(e-0-low).toNat=0 by omega];simp
   have e2:ovA 1 (-(e-0-low))=2^(low-e).toNat:=by unfold ovA;rw[show(-(e-0-low)).toNat=(low-e).toNat by omega];simp
   have e3:(s != false)=s:=by cases s<;>rfl
   simp only[roS,roM,roE,roX,if_neg hc,ovQ,ovX,e1,e2,e3]
   simp(disch:=omega)only[go_sem]
 ·simp(disch:=omega)only[go_sem,h1]
  refine qW (by simp(disch:=omega)only[go_sem]) ?_
  show qE _ 6 _=_
  simp only[roS,roM,roE,roX,h1,true_or,if_true]
  simp(disch:=omega)only[go_sem]
end Go.Ab
namespace Go.Ab
open Go Go.Proofs
def YR(b:Bool):AV→List Ob→List Ob→Prop:=fun r hs bs=>r=.v (.bool b)∧hs=[]
theorem ad8(x:Int):Con Tryz.prog 341 true [.v (.int .i64 x)] [] (YR (decide (0≤x)&&decide (x≤65535))):=by
 refine Con.of_aw Tryz.func341 rfl Tryz.ntmps341 (by simp) (by simp) (by simp) (W.sound ?_)
 show @W Tryz.prog 5 ⟨_⟩ ⟨fun x σ=>@q8 _ _ _ ⟨_⟩ _ ⟨_⟩ x σ⟩ _ _
 simp(disch:=omega)only[go_sem]
 refine qr (Xg x 0 65535) (by simp(disch:=omega)only[go_sem]) ?_
 rintro r hs ⟨rfl,rfl⟩
 refine⟨by simp[qB],?_⟩
 simp(disch:=omega)only[go_sem]
 refine ql [] [] [] [.v (.bool (decide (0≤x)&&decide (x≤65535)))] rfl (by simp(disch:=omega)only[go_sem]) (by simp(disch:=omega)only[go_sem]) (by simp) (by simp[AV.pu,zb]) ⟨rfl,rfl⟩
theorem abp(g:Nat)(p:Int→Bool)(x:Int)(hf:Con Tryz.prog g true [.v (.int .i64 x)] [] (YR (p x)))(hg:qy Tryz.prog g):
  Con Tryz.prog 346 true [.v (.int .i64 x),.fp [.fn g []] 0] [] (YR (!p x)):=by
 refine Con.of_aw Tryz.func346 rfl Tryz.ntmps346 (by simp) (by simp) (by simp) (W.sound ?_)
 show @W Tryz.prog 8 ⟨_⟩ ⟨fun x σ=>@q8 _ _ _ ⟨_⟩ _ ⟨_⟩ x σ⟩ _ _
 simp(disch:=omega)only[go_sem]
 refine⟨hg,qr hf (by simp(disch:=omega)only[go_sem]) ?_⟩
 rintro r hs ⟨rfl,rfl⟩
 refine⟨by simp[qB],?_⟩
 simp(disch:=omega)only[go_sem]
 refine ql [] [] [] [.v (.bool (!p x))] rfl (by simp(disch:=omega)only[go_sem]) (by simp(disch:=omega)only[go_sem]) (by simp) (by simp[AV.pu,zb]) ⟨rfl,rfl⟩
theorem aee(f:Nat)(caps:List AV)(p:Int→Bool)(xs:List Int)(hl:xs.length≤2^40)(hf:∀x,Con Tryz.prog f true (.v (.int .i64 x)::caps) [] (YR (p x)))(hg:qy Tryz.prog f)
  (hc:∀h:Nat→Ob,caps.map (qE h 6)=caps) (hc5:∀h:Nat→Ob,caps.map (qE h 5)=caps) (hn:∀ks,AllL (jv ks) caps) (hr:∀ρ,ze ρ caps=caps):
  Con Tryz.prog 347 true [.sl xs.length (qg xs),.fn f caps] [] (fun r hs bs=>∃i:Int,r=.v (.int .i64 i)∧hs=[]∧(0≤i↔∃x∈xs,p x=true)):=by
 refine Con.of_aw Tryz.func347 rfl Tryz.ntmps347 (by simp) (by simp) (by simp) (W.sound ?_)
 show @W Tryz.prog 19 ⟨_⟩ ⟨fun x σ=>@q8 _ _ _ ⟨_⟩ _ ⟨_⟩ x σ⟩ _ _
 simp(disch:=omega)only[go_sem]
 refine qj (fun i:Nat=>[(0,.sl xs.length (qg xs)),(1,.fn f caps),(6,.sl xs.length (qg xs)),(7,.v (.int .i64 xs.length)),(8,.v (.int .i64 i))])
  (fun _=>[]) (fun i=>i≤xs.length∧∀j,j<i→p (xs.getD j 0)=false) (fun i=>xs.length-i) 0 ⟨by omega,fun j hj=>by omega⟩ (Le.lst [] _ _ rfl (by simp(disch:=omega)only[go_sem,hr,hn]) (by simp(disch:=omega)only[go_sem])) ?_
 rintro i ⟨hi,hp⟩
 simp(disch:=omega)only[go_sem]
 refine qh (fun h1=>?_) (fun h1=>?_)
 ·simp(disch:=omega)only[go_sem,h1]
  refine⟨by omega,by omega,hg,qr (hf (xs.getD i 0)) (by simp(disch:=omega)only[go_sem,hc,hc5]) ?_⟩
  rintro r hs ⟨rfl,rfl⟩
  refine⟨by simp[qB],?_⟩
  simp(disch:=omega)only[go_sem]
  refine QA (fun h2=>?_) (fun h2=>?_)
  ·simp(disch:=omega)only[go_sem,h2]
   refine ql [] [] [] [.v (.int .i64 i)] rfl (by simp(disch:=omega)only[go_sem]) (by simp(disch:=omega)only[go_sem]) (by simp) (by simp[AV.pu,zb]) ⟨i,rfl,rfl,?_⟩
   refine⟨fun _=>⟨xs.getD i 0,?_,h2⟩,fun _=>by omega⟩
   rw[List.getD_eq_getElem?_getD,List.getElem?_eq_getElem (by omega)];exact List.getElem_mem _
  ·simp(disch:=omega)only[go_sem,h2]
   refine qe (i+1) [] ⟨by omega,fun j hj=>?_⟩ (by show xs.length-(i+1)<xs.length-i;omega) rfl (by simp(disch:=omega)only[go_sem,hr,hn];try omega) (by simp(disch:=omega)only[go_sem])
   rcases(by omega:j<i∨j=i)with h|h
   ·exact hp j h
   ·subst h;exact h2
 ·simp(disch:=omega)only[go_sem,h1]
  refine ql [] [] [] [.v (.int .i64 (-1))] rfl (by simp(disch:=omega)only[go_sem]) (by simp(disch:=omega)only[go_sem]) (by simp) (by simp[AV.pu,zb]) ⟨-1,rfl,rfl,?_⟩
  refine⟨fun h=>by omega,fun⟨x,hx,hpx⟩=>?_⟩
  obtain⟨j,hj,rfl⟩:=List.getElem_of_mem hx
  have:=hp j (by omega)
  rw[List.getD_eq_getElem?_getD,List.getElem?_eq_getElem hj]at this
  simp only[Option.getD_some]at this
  rw[this]at hpx;cases hpx
theorem Vq(f:Nat)(caps:List AV)(p:Int→Bool)(xs:List Int)(hl:xs.length≤2^40)(hf:∀x,Con Tryz.prog f true (.v (.int .i64 x)::caps) [] (YR (p x)))(hg:qy Tryz.prog f)
  (hc:∀h:Nat→Ob,caps.map (qE h 6)=caps) (hc5:∀h:Nat→Ob,caps.map (qE h 5)=caps) (hn:∀ks,AllL (jv ks) caps) (hr:∀ρ,ze ρ caps=caps):
  Con Tryz.prog 345 true [.sl xs.length (qg xs),.fn f caps] [] (YR (xs.any p)):=by
 refine Con.of_aw Tryz.func345 rfl Tryz.ntmps345 (by simp) (by simp) (by simp) (W.sound ?_)
 show @W Tryz.prog 9 ⟨_⟩ ⟨fun x σ=>@q8 _ _ _ ⟨_⟩ _ ⟨_⟩ x σ⟩ _ _
 simp(disch:=omega)only[go_sem]
 refine qr (aee f caps p xs hl hf hg hc hc5 hn hr) (by simp(disch:=omega)only[go_sem,hc,hc5]) ?_
 rintro r hs ⟨i,rfl,rfl,hi⟩
 refine⟨by simp[qB],?_⟩
 simp(disch:=omega)only[go_sem]
 refine ql [] [] [] [.v (.bool (decide (0≤i)))] rfl (by simp(disch:=omega)only[go_sem]) (by simp(disch:=omega)only[go_sem]) (by simp) (by simp[AV.pu,zb]) ⟨?_,rfl⟩
 have:decide (0≤i)=xs.any p:=by rw[Bool.eq_iff_iff,decide_eq_true_eq,hi,List.any_eq_true]
 rw[this];rfl
theorem aen(g:Nat)(p:Int→Bool)(xs:List Int)(hl:xs.length≤2^40)(hf:∀x,Con Tryz.prog g true [.v (.int .i64 x)] [] (YR (p x)))(hg:qy Tryz.prog g):
  Con Tryz.prog 340 true [.sl xs.length (qg xs),.fn g []] [] (YR (xs.all p)):=by
 refine Con.of_aw Tryz.func340 rfl Tryz.ntmps340 (by simp) (by simp) (by simp) (W.sound ?_)
 show @W Tryz.prog 9 ⟨_⟩ ⟨fun x σ=>@q8 _ _ _ ⟨_⟩ _ ⟨_⟩ x σ⟩ _ _
 simp(disch:=omega)only[go_sem]
 refine qr (Vq 346 [.fp [.fn g []] 0] (fun x=> !p x) xs hl (fun x=>abp g p x (hf x) hg) (by simp(disch:=omega)only[go_sem]) (fun h=>rfl) (fun h=>rfl) (fun ks=>by simp(disch:=omega)only[go_sem]) (fun ρ=>rfl)) (by simp(disch:=omega)only[go_sem]) ?_
 rintro r hs ⟨rfl,rfl⟩
 refine⟨by simp[qB],?_⟩
 simp(disch:=omega)only[go_sem]
 refine ql [] [] [] [.v (.bool (!xs.any fun x=> !p x))] rfl (by simp(disch:=omega)only[go_sem]) (by simp(disch:=omega)only[go_sem]) (by simp) (by simp[AV.pu,zb]) ⟨?_,rfl⟩
 have:(!xs.any fun x=> !p x)=xs.all p:=by rw[List.all_eq_not_any_not]
 rw[this];rfl
end Go.Ab
namespace Go.Ab
open Go Go.Proofs
theorem ahK(xs:List Int)(hl:xs.length≤2^40):Con Tryz.prog 326 true [.ag [.sl xs.length (qg xs)]] [] (YR (Y7 xs)):=by
 refine Con.of_aw Tryz.func326 rfl Tryz.ntmps326 (by simp) (by simp) (by simp) (W.sound ?_)
 show @W Tryz.prog 29 ⟨_⟩ ⟨fun x σ=>@q8 _ _ _ ⟨_⟩ _ ⟨_⟩ x σ⟩ _ _
 have en:((xs.length:Int)-1).toNat=xs.length-1:=by omega
 simp(disch:=omega)only[go_sem]
 refine qh (fun h1=>?_) (fun h1=>?_)
 ·simp(disch:=omega)only[go_sem,h1]
  refine qr (aen 341 (fun x=>decide (0≤x)&&decide (x≤65535)) xs hl ad8 (by simp(disch:=omega)only[go_sem])) (by simp(disch:=omega)only[go_sem]) ?_
  rintro r hs ⟨rfl,rfl⟩
  refine⟨by simp[qB],?_⟩
  simp(disch:=omega)only[go_sem]
  refine QA (fun h2=>?_) (fun h2=>?_)
  ·simp(disch:=omega)only[go_sem,h2]
   refine je (fun h3=>?_) (fun h3=>?_)
   ·simp(disch:=omega)only[go_sem,h3,en]
    refine⟨by omega,by omega,?_⟩
    refine qv (by simp(disch:=omega)only[go_sem]) (by simp(disch:=omega)only[go_sem]) ⟨?_,rfl⟩
    have e1:decide (xs.length≤100)=true:=by simp;omega
    have e2:decide (xs.length=0)=false:=by simp;intro h;subst h;simp at h3
    show AV.v (.bool _)=AV.v (.bool _)
    unfold Y7
    rw[e1,h2,e2]
    simp
   ·simp(disch:=omega)only[go_sem,h3]
    refine qv (by simp(disch:=omega)only[go_sem]) (by simp(disch:=omega)only[go_sem]) ⟨?_,rfl⟩
    have e1:decide (xs.length≤100)=true:=by simp;omega
    have e2:decide (xs.length=0)=true:=by simp;exact List.length_eq_zero_iff.1 (by omega)
    show AV.v (.bool _)=AV.v (.bool _)
    unfold Y7
    rw[e1,h2,e2]
    simp
  ·simp(disch:=omega)only[go_sem,h2]
   refine qv (by simp(disch:=omega)only[go_sem]) (by simp(disch:=omega)only[go_sem]) ⟨?_,rfl⟩
   show AV.v (.bool _)=AV.v (.bool _)
   unfold Y7
   rw[h2];simp
 ·simp(disch:=omega)only[go_sem,h1]
  exact qv (by simp(disch:=omega)only[go_sem]) (by simp(disch:=omega)only[go_sem]) ⟨by simp[Y7,zb];omega,rfl⟩
end Go.Ab
namespace Go.Ab
open Go Go.Proofs
theorem Con.boolI{P:Program}{f:FuncId}{args:List AV}{b:Bool}(h:Con P f true args [] (YR b)):Con P f true args [] (isA (.v (.bool b))):=
 (Con.len h).mono fun r hs bs ⟨⟨h1,h2⟩,h3⟩=>⟨h1,h2,h3⟩
theorem zw(n lo hi:Int):Con Tryz.prog 52 true [.v (.int .i64 n),.v (.int .i64 lo),.v (.int .i64 hi)] [] (isA (.v (.bool (decide (lo≤n)&&decide (n≤hi))))):=
 Con.boolI (Xg n lo hi)
theorem ad7(xs:List Int)(hl:xs.length≤2^40):Con Tryz.prog 326 true [.ag [.sl xs.length (qg xs)]] [] (isA (.v (.bool (Y7 xs)))):=Con.boolI (ahK xs hl)
theorem aaV(s:Bool)(xs:List Int)(hl:xs.length≤2^40):Con Tryz.prog 299 true [.ag [.v (.bool s),.sl xs.length (qg xs)]] [] (isA (.v (.bool (yP s xs)))):=by
 refine Con.of_aw Tryz.func299 rfl Tryz.ntmps299 (by simp) (by simp) (by simp) (W.sound ?_)
 show @W Tryz.prog 18 ⟨_⟩ ⟨fun x σ=>@q8 _ _ _ ⟨_⟩ _ ⟨_⟩ x σ⟩ _ _
 simp(disch:=omega)only[go_sem]
 refine qm (ad7 xs hl) ?_
 simp(disch:=omega)only[go_sem]
 repeat' first
  |simp(disch:=omega)only[go_sem, *]
  |(with_reducible refine qh (fun _=>?_) (fun _=>?_))
  |(with_reducible refine je (fun _=>?_) (fun _=>?_))
  |(with_reducible refine aci (fun _=>?_) (fun _=>?_))
  |(with_reducible refine QA (fun _=>?_) (fun _=>?_))
 all_goals exact qv (by simp(disch:=omega)only[go_sem]) (by simp(disch:=omega)only[go_sem]) ⟨by simp_all[zb,yP]<;>omega,rfl,rfl⟩
def ovB(s:Bool)(mode:Int):Bool:=decide (mode=1)||((decide (mode=2)&&s)||(decide (mode=3)&& !s))
def flB(k:Int)(s:Bool)(m e:Int):Bool:=
 if k=1 then(decide (-1074≤e)&&decide (e≤971))&&((decide (4503599627370496≤m)&&decide (m≤9007199254740991))||((decide (1≤m)&&decide (m≤4503599627370495))&&decide (e= -1074)))
 else if k=0∨k=2 then decide (m=0)&&decide (e=0)else((decide (k=3)&&decide (m=0))&&decide (e=0))&& !s
end Go.Ab
namespace Go.Ab
open Go Go.Proofs
def J2(top:Int):Int:=if-1074>top-53 then-1074 else top-53
def flE(rm:Nat)(re:Int):Int:=J2 ((bl rm:Int)+re)
def flM(rm:Nat)(re:Int):Nat:=oM rm*2^(oE rm re-flE rm re).toNat
def arn(top:Int)(same:Bool):Int:=if same then 0 else if top≤ -1022 then 5 else 1
def flK(s:Bool)(mode:Int)(rm:Nat)(re:Int):Int:=if rm=0 then 0 else if 1024<(bl rm:Int)+re then(if ovB s mode then 1 else 2)else 1
def aAa(s:Bool)(mode:Int)(rm:Nat)(re:Int):Int:=if rm=0 then 0 else if 1024<(bl rm:Int)+re then(if ovB s mode then 9007199254740991 else 0)else(flM rm re:Int)
def aAb(s:Bool)(mode:Int)(rm:Nat)(re:Int):Int:=if rm=0 then 0 else if 1024<(bl rm:Int)+re then(if ovB s mode then 971 else 0)else flE rm re
def aAT(top:Int)(same:Bool)(rm:Nat)(re:Int):Int:=if rm≠0∧1024<(bl rm:Int)+re then 3 else arn top same
end Go.Ab
namespace Go.Ab
open Go
def qk{X:Type}(f:X→List AV)(l:List X):List AV:=(l.map f).flatten
section
variable {X:Type}{f:X→List AV}{z:Nat}{l:List X}
theorem yt:qk f []=[]:=by simp[qk]
theorem qT{x:X}:qk f (x::l)=f x++qk f l:=by simp[qk]
theorem jN(hz:∀x,(f x).length=z):(qk f l).length=l.length*z:=by
 induction l with
 |nil=>simp[qk]
 |cons x r ih=>rw[qT,List.length_append,hz,ih,List.length_cons,Nat.add_mul,Nat.one_mul,Nat.add_comm]
theorem aki(hz:∀x,(f x).length=z)(i:Nat):(qk f l).drop (i*z)=qk f (l.drop i):=by
 induction l generalizing i with
 |nil=>simp[qk]
 |cons x r ih=>
  cases i with
  |zero=>simp
  |succ i=>
   rw[qT,List.drop_succ_cons,←ih,Nat.add_mul,Nat.one_mul,Nat.add_comm,←List.drop_drop,List.drop_left' (hz x)]
theorem akh(hz:∀x,(f x).length=z)(i:Nat):(qk f l).take (i*z)=qk f (l.take i):=by
 induction l generalizing i with
 |nil=>simp[qk]
 |cons x r ih=>
  cases i with
  |zero=>simp[yt]
  |succ i=>
   rw[qT,List.take_succ_cons,qT,←ih,Nat.add_mul,Nat.one_mul,Nat.add_comm,←hz x,List.take_length_add_append]
theorem aph(hz:∀x,(f x).length=z)(o n:Nat):cut (qk f l) (o*z) (n*z)=qk f ((l.drop o).take n):=by
 rw[cut,aki hz,akh hz]
theorem Zs(hz:∀x,(f x).length=z){i:Nat}(hi:i<l.length)(d:X):cut (qk f l) (i*z) z=f (l.getD i d):=by
 have h:=aph (l:=l) hz i 1
 rw[Nat.one_mul]at h
 have e:(l.drop i).take 1=[l.getD i d]:=by
  rw[List.drop_eq_getElem_cons hi,List.getD_eq_getElem?_getD,List.getElem?_eq_getElem hi];rfl
 rw[h,e,qT,yt,List.append_nil]
theorem Zr{ρ:Nat→Nat}(h:∀x,ze ρ (f x)=f x):ze ρ (qk f l)=qk f l:=by
 induction l with
 |nil=>rfl
 |cons x r ih=>
  rw[qT]
  have:∀a b:List AV,ze ρ (a++b)=ze ρ a++ze ρ b:=fun a b=>by simp[qV]
  rw[this,h,ih]
theorem Q0{hp:Nat→Ob}{k:Nat}(h:∀x,(f x).map (qE hp k)=f x):(qk f l).map (qE hp k)=qk f l:=by
 induction l with
 |nil=>rfl
 |cons x r ih=>rw[qT,List.map_append,h,ih]
theorem Zt{p:Nat→Prop}(h:∀x,AllL p (f x)):AllL p (qk f l):=by
 induction l with
 |nil=>simp[qk,AllL]
 |cons x r ih=>rw[qT];exact AllL.append (h x) ih
theorem alg{h:Nat→Ob}{sz o:Nat}{K:AV→Prop}:@yN true sz h (.fp (qk f l) o) ⟨K⟩=(o+sz≤(qk f l).length∧K (.ag (cut (qk f l) o sz))):=ID rfl
theorem yU{l':List X}:qk f l++qk f l'=qk f (l++l'):=by simp[qk]
end
structure FlV where
 k:Int
 s:Bool
 m:Int
 e:Int
def FlV.cs(x:FlV):List AV:=[.v (.int .i64 x.k),.v (.bool x.s),.v (.int .i64 x.m),.v (.int .i64 x.e)]
theorem axl(x:FlV):x.cs.length=4:=rfl
theorem anv{ρ:Nat→Nat}(x:FlV):ze ρ x.cs=x.cs:=rfl
theorem ahb{hp:Nat→Ob}{k:Nat}(x:FlV):x.cs.map (qE hp (k+1))=x.cs:=rfl
theorem anw{p:Nat→Prop}(x:FlV):AllL p x.cs:=by simp[FlV.cs,AllL,AV.All]
theorem aqU{l:List FlV}:(qk FlV.cs l).length=l.length*4:=jN axl
theorem aqT{ρ:Nat→Nat}{l:List FlV}:ze ρ (qk FlV.cs l)=qk FlV.cs l:=Zr anv
theorem alN{hp:Nat→Ob}{k:Nat}{l:List FlV}:(qk FlV.cs l).map (qE hp (k+1))=qk FlV.cs l:=Q0 ahb
theorem aqV{p:Nat→Prop}{l:List FlV}:AllL p (qk FlV.cs l)=True:=eq_true (Zt anw)
theorem alO{p:Nat→Prop}{x:FlV}:AllL p x.cs=True:=eq_true (anw x)
attribute [go_sem] alg aqU aqT alN aqV alO anv ahb
end Go.Ab
namespace Go.Ab
open Go Go.Proofs
section
variable (g:Nat)(p:FlV→Bool)
end
def aCu(x:FlV):Bool:=flB x.k x.s x.m x.e
end Go.Ab
namespace Go.Ab
open Go Go.Proofs
def flV(s:Bool)(m:Nat)(e mode:Int)(z:Bool):FlV:=
 if m=0 then⟨0,z,0,0⟩else
  ⟨flK s mode (roM s m e (J2 (bl m+e)) mode) (roE m e (J2 (bl m+e))),s,aAa s mode (roM s m e (J2 (bl m+e)) mode) (roE m e (J2 (bl m+e))),aAb s mode (roM s m e (J2 (bl m+e)) mode) (roE m e (J2 (bl m+e)))⟩
def flG(s:Bool)(m:Nat)(e mode:Int):Int:=
 if m=0 then 0 else aAT (bl m+e) (roX m e (J2 (bl m+e))) (roM s m e (J2 (bl m+e)) mode) (roE m e (J2 (bl m+e)))
theorem ad3(s1:Bool)(m1:Nat)(e1:Int)(s2:Bool)(m2:Nat)(e2:Int)(h1:bl m1≤4000000)(h2:bl m2≤4000000)(he1: -2^40≤e1∧e1≤2^40)(he2: -2^40≤e2∧e2≤2^40):
  Con Tryz.prog 200 false [.ag [.v (.bool (s1)),.sl (lim (m1)).length (qg (lim (m1))),.v (.int .i64 (e1))],.ag [.v (.bool (s2)),.sl (lim (m2)).length (qg (lim (m2))),.v (.int .i64 (e2))]] [] (isA (.ag [.v (.bool ((s1 != s2)&&decide (m1*m2≠0))),.sl (lim (m1*m2)).length (qg (lim (m1*m2))),.v (.int .i64 (e1+e2))])):=by
 refine Con.frzA ?_
 refine Con.of_w (rs:=[.cell 4 97]) Tryz.func200 rfl Tryz.ntmps200 rfl ?_
 simp(disch:=omega)only[go_sem]
 have l1:=qx h1
 have l2:=qx h2
 refine qa (ad4 m1 m2 (by omega) (by omega)) ?_
 simp(disch:=omega)only[go_sem]
 have hl:(lim (m1*m2)).length≤2000000:=by have:=qx (Nat.le_trans (jG m1 m2) (Nat.add_le_add h1 h2));omega
 have hq:decide ((0:Int)<((lim (m1*m2)).length:Int))=decide (m1*m2≠0):=by
  rw[decide_eq_decide]
  exact⟨fun h e=>by rw[e,qt]at h;simp at h,fun h=>by have:=yg h;omega⟩
 refine QA (fun h3=>?_) (fun h3=>?_)
 ·simp(disch:=omega)only[go_sem,h3,hq]
  exact qo (hp:=by simp(disch:=omega)only[go_sem,h3,Bool.true_and])
 ·simp(disch:=omega)only[go_sem,h3]
  exact qo (hp:=by simp(disch:=omega)only[go_sem,h3,Bool.false_and])
end Go.Ab
namespace Go.Ab
open Go Go.Proofs
theorem auU(m:Nat):decide ((0:Int)<((lim m).length:Int))=decide (m≠0):=by
 rw[decide_eq_decide]
 exact⟨fun h e=>by rw[e,qt]at h;simp at h,fun h=>by have:=yg h;omega⟩
theorem Yn(m:Nat)(hl:(lim m).length≤2^39):Con Tryz.prog 188 false [.sl (lim (m)).length (qg (lim (m)))] [] (isA (.ag [.sl (lim (m)).length (qg (lim (m)))])):=(jK false (lim m) m hl (q5 m) (qY m)).natF
theorem zK(n:Nat)(hn:n<2^63):Con Tryz.prog 180 false [.v (.int .i64 n)] [] (isA (.ag [.sl (lim (n)).length (qg (lim (n)))])):=(acA false n hn).natF
theorem ym(a b:Nat)(la:(lim a).length≤2000000)(lb:(lim b).length≤2000000):Con Tryz.prog 179 false [.ag [.sl (lim (a)).length (qg (lim (a)))],.ag [.sl (lim (b)).length (qg (lim (b)))]] [] (isA (.ag [.sl (lim (a+b)).length (qg (lim (a+b)))])):=(ah5 false a b la lb).natF
theorem yl(a b:Nat)(la:(lim a).length≤1000000)(lb:(lim b).length≤1000000):Con Tryz.prog 264 false [.ag [.sl (lim (a)).length (qg (lim (a)))],.ag [.sl (lim (b)).length (qg (lim (b)))]] [] (isA (.ag [.sl (lim (a*b)).length (qg (lim (a*b)))])):=(ah4 false a b la lb).natF
theorem jJ(a k:Nat)(la:(lim a).length≤400000)(hk:k≤5000000):Con Tryz.prog 247 false [.ag [.sl (lim (a)).length (qg (lim (a)))],.v (.int .i64 k)] [] (isA (.ag [.sl (lim (a*2^k)).length (qg (lim (a*2^k)))])):=(ah3 false a k la hk).natF
theorem qP(s:Bool)(m:Nat)(hl:(lim m).length≤2^39):Con Tryz.prog 107 false [.v (.bool s),.ag [.sl (lim (m)).length (qg (lim (m)))]] [] (isA (.ag [.v (.bool (s&&decide (m≠0))),.sl (lim (m)).length (qg (lim (m)))])):=by
 refine Con.frzA ?_
 refine Con.of_w (rs:=[.cell 4 42]) Tryz.func107 rfl Tryz.ntmps107 rfl ?_
 simp(disch:=omega)only[go_sem]
 refine qs rfl [⟨0,[],[]⟩,⟨1,[],[]⟩,⟨2,[],[]⟩,⟨3,[],[]⟩,⟨4,[],[]⟩,⟨5,[],[]⟩,⟨6,[],[]⟩,⟨7,[3],[]⟩,⟨8,[3],[]⟩,⟨9,[3],[]⟩,⟨10,[],[]⟩,⟨11,[],[]⟩] (by kernel_rfl) ?_
 simp(disch:=omega)only[go_sem]
 refine QA (fun h1=>?_) (fun h1=>?_)
 ·simp(disch:=omega)only[go_sem,h1,auU]
  refine qa (Yn m hl) ?_
  simp(disch:=omega)only[go_sem]
  exact qo (hp:=by simp(disch:=omega)only[go_sem,h1,Bool.true_and])
 ·simp(disch:=omega)only[go_sem,h1]
  refine qa (Yn m hl) ?_
  simp(disch:=omega)only[go_sem]
  exact qo (hp:=by simp(disch:=omega)only[go_sem,h1,Bool.false_and])
theorem acz(n:Int)(h: -9223372036854775808≤n∧n<9223372036854775808):Con Tryz.prog 95 false [.v (.int .i64 n)] [] (isA (.ag [.v (.bool (decide (n<0))),.sl (lim (n.natAbs)).length (qg (lim (n.natAbs)))])):=by
 refine Con.frzA ?_
 refine Con.of_aw Tryz.func95 rfl Tryz.ntmps95 (by simp) (by simp) (by simp) (W.sound ?_)
 show @W Tryz.prog 15 ⟨_⟩ ⟨fun x σ=>@q8 _ _ _ ⟨_⟩ _ ⟨_⟩ x σ⟩ _ _
 simp(disch:=omega)only[go_sem]
 refine qh (fun h1=>?_) (fun h1=>?_)
 ·simp(disch:=omega)only[go_sem,h1]
  have e1:0-(n+1)=(((0-(n+1)).toNat:Nat):Int):=by omega
  refine qa (zK (0-(n+1)).toNat (by omega)) ?_ (by simp(disch:=omega)only[go_sem,←e1])
  simp(disch:=omega)only[go_sem]
  refine qa (zK 1 (by omega)) ?_
  simp(disch:=omega)only[go_sem]
  have l1:=qx (m:=(0-(n+1)).toNat) (B:=64) (zN.2 (by omega))
  have l2:=qx (m:=1) (B:=64) (by decide)
  refine qa (ym (0-(n+1)).toNat 1 (by omega) (by omega)) ?_
  simp(disch:=omega)only[go_sem]
  have e2:(0-(n+1)).toNat+1=n.natAbs:=by omega
  have l3:=qx (m:=(0-(n+1)).toNat+1) (B:=64) (zN.2 (by omega))
  refine qa (qP true ((0-(n+1)).toNat+1) (by omega)) ?_
  simp(disch:=omega)only[go_sem]
  refine qW (by simp(disch:=omega)only[go_sem]) ?_
  show qE _ 6 _=_
  have e3:decide (n.natAbs≠0)=true:=by simp;omega
  rw[e2]
  simp(disch:=omega)only[go_sem,e3,h1,Bool.true_and]
 ·simp(disch:=omega)only[go_sem,h1]
  have e1:n=((n.natAbs:Nat):Int):=by omega
  refine qa (zK n.natAbs (by omega)) ?_ (by simp(disch:=omega)only[go_sem,←e1])
  simp(disch:=omega)only[go_sem]
  have l3:=qx (m:=n.natAbs) (B:=64) (zN.2 (by omega))
  refine qa (qP false n.natAbs (by omega)) ?_
  simp(disch:=omega)only[go_sem]
  exact qo (hp:=by simp(disch:=omega)only[go_sem,h1,Bool.false_and])
theorem ahZ(s1:Bool)(m1:Nat)(s2:Bool)(m2:Nat)(h1:bl m1≤4000000)(h2:bl m2≤4000000):Con Tryz.prog 250 false [.ag [.v (.bool (s1)),.sl (lim (m1)).length (qg (lim (m1)))],.ag [.v (.bool (s2)),.sl (lim (m2)).length (qg (lim (m2)))]] [] (isA (.ag [.v (.bool ((s1 != s2)&&decide (m1*m2≠0))),.sl (lim (m1*m2)).length (qg (lim (m1*m2)))])):=by
 refine Con.frzA ?_
 refine Con.of_w (rs:=[.cell 4 42]) Tryz.func250 rfl Tryz.ntmps250 rfl ?_
 simp(disch:=omega)only[go_sem]
 have l1:=qx h1
 have l2:=qx h2
 refine qs rfl [⟨0,[],[]⟩,⟨1,[],[]⟩,⟨2,[1],[]⟩,⟨3,[1],[]⟩,⟨4,[],[]⟩,⟨5,[1,3],[]⟩,⟨6,[1,3],[]⟩,⟨7,[1,3,6],[]⟩,⟨8,[1,3,6],[]⟩,⟨9,[1,3],[]⟩,⟨10,[],[]⟩,⟨11,[],[]⟩] (by kernel_rfl) ?_
 simp(disch:=omega)only[go_sem]
 refine qa (yl m1 m2 (by omega) (by omega)) ?_
 simp(disch:=omega)only[go_sem]
 have l3:=qx (Nat.le_trans (jG m1 m2) (Nat.add_le_add h1 h2))
 refine qa (qP (s1 != s2) (m1*m2) (by omega)) ?_
 simp(disch:=omega)only[go_sem]
 exact qo
theorem jI(s:Bool)(m:Nat)(e:Int)(hm:bl m≤8000000)(he: -2^40≤e∧e≤2^40):Con Tryz.prog 94 false [.ag [.v (.bool (s)),.sl (lim (m)).length (qg (lim (m)))],.v (.int .i64 e)] [] (isA (.ag [.v (.bool (oS s m)),.sl (lim (oM m)).length (qg (lim (oM m))),.v (.int .i64 (oE m e))])):=by
 refine Con.frzA ?_
 refine Con.of_aw Tryz.func94 rfl Tryz.ntmps94 (by simp) (by simp) (by simp) (W.sound ?_)
 show @W Tryz.prog 26 ⟨_⟩ ⟨fun x σ=>@q8 _ _ _ ⟨_⟩ _ ⟨_⟩ x σ⟩ _ _
 simp(disch:=omega)only[go_sem]
 have hl:=qx hm
 refine qh (fun h1=>?_) (fun h1=>?_)
 ·simp(disch:=omega)only[go_sem,h1]
  have h0:m=0:=qJ.1 (List.length_eq_zero_iff.1 (by omega))
  subst h0
  refine qW (by simp(disch:=omega)only[go_sem]) ?_
  show qE _ 6 _=_
  simp only[oS,jQ,oE,qt,if_true]
  simp(disch:=omega)only[go_sem]
 ·have h0:m≠0:=fun e=>h1 (by rw[e,qt];rfl)
  have ht:=Qf h0
  simp(disch:=omega)only[go_sem,h1]
  refine qm (Ym m (by omega)) ?_
  simp(disch:=omega)only[go_sem]
  refine qs rfl [⟨0,[],[]⟩,⟨1,[],[]⟩,⟨2,[1],[]⟩,⟨3,[1],[]⟩,⟨4,[1,3],[]⟩,⟨7,[1,3],[]⟩,⟨8,[1,3],[]⟩,⟨9,[1,3],[]⟩,⟨5,[1],[]⟩,⟨6,[],[]⟩,⟨10,[],[]⟩,⟨11,[],[]⟩] (by kernel_rfl) ?_
  simp(disch:=omega)only[go_sem]
  refine qa (KE m (tz m) (by omega) (by omega)) ?_
  simp(disch:=omega)only[go_sem]
  have l3:=qx (Nat.le_trans (Qw m (2^tz m)) hm)
  refine qa (qP s (m/2^tz m) (by omega)) ?_
  simp(disch:=omega)only[go_sem]
  refine qW (by simp(disch:=omega)only[go_sem]) ?_
  show qE _ 6 _=_
  have h3:decide (m/2^tz m≠0)=true:=by
   have:=(Q3 h0).1
   simp only[decide_eq_true_eq];omega
  simp only[oS,oM,oE,if_neg h0]
  simp(disch:=omega)only[go_sem,h3,Bool.and_true]
theorem ahV(s1:Bool)(m1:Nat)(e1:Int)(s2:Bool)(m2:Nat)(e2:Int)(h1:bl m1≤4000000)(h2:bl m2≤4000000)(he1: -2^39≤e1∧e1≤2^39)(he2: -2^39≤e2∧e2≤2^39):
  Con Tryz.prog 182 false [.ag [.v (.bool (s1)),.sl (lim (m1)).length (qg (lim (m1))),.v (.int .i64 (e1))],.ag [.v (.bool (s2)),.sl (lim (m2)).length (qg (lim (m2))),.v (.int .i64 (e2))]] [] (isA (.ag [.v (.bool (oS ((s1 != s2)&&decide (m1*m2≠0)) (m1*m2))),.sl (lim (oM (m1*m2))).length (qg (lim (oM (m1*m2)))),.v (.int .i64 (oE (m1*m2) (e1+e2)))])):=by
 refine Con.frzA ?_
 refine Con.of_w (rs:=[.cell 4 44]) Tryz.func182 rfl Tryz.ntmps182 rfl ?_
 simp(disch:=omega)only[go_sem]
 refine qs rfl [⟨0,[],[]⟩,⟨1,[],[]⟩,⟨2,[1],[]⟩,⟨3,[1],[]⟩,⟨5,[1,3],[]⟩,⟨6,[1,3],[]⟩,⟨7,[1,3,6],[]⟩,⟨8,[1,3,6],[]⟩,⟨9,[1,3],[]⟩,⟨4,[6,8],[]⟩,⟨10,[],[]⟩,⟨11,[],[]⟩] (by kernel_rfl) ?_
 simp(disch:=omega)only[go_sem]
 refine qa (ahZ s1 m1 s2 m2 h1 h2) ?_
 simp(disch:=omega)only[go_sem]
 have h3:=Nat.le_trans (jG m1 m2) (Nat.add_le_add h1 h2)
 refine qa (jI ((s1 != s2)&&decide (m1*m2≠0)) (m1*m2) (e1+e2) (by omega) (by omega)) ?_
 simp(disch:=omega)only[go_sem]
 exact qo
end Go.Ab
namespace Go.Ab
def aeS(neg:Bool)(m k:Nat)(mode:Int):Bool:=
 if mode=1 then false else if mode=2 then !neg else if mode=3 then neg else if mode=4 then decide (m/2^(k-1) % 2=1)
 else decide (m/2^(k-1) % 2=1)&&(decide (tz m<k-1)||decide (m/2^k % 2=1))
theorem alu{m k:Nat}(hk:1≤k):m/2^(k-1) % 2=1↔2^k≤m % 2^k*2:=by
 obtain⟨j,rfl⟩:∃j,k=j+1:=⟨k-1,by omega⟩
 rw[Nat.add_sub_cancel]
 have hp:0<2^j:=Nat.pow_pos (by omega)
 have h1:m % 2^(j+1)/2^j=m/2^j % 2:=by rw[Nat.pow_succ,Nat.mod_mul_right_div_self]
 have h2:m % 2^(j+1)<2^(j+1):=Nat.mod_lt _ (Nat.pow_pos (by omega))
 rw[←h1]
 generalize m % 2^(j+1)=r at*
 rw[Nat.pow_succ]at*
 constructor
 ·intro h
  have h3:=(Nat.le_div_iff_mul_le hp).1 (show 1≤r/2^j by
   rcases Nat.eq_zero_or_pos (r/2^j)with e|e
   ·rw[e]at h;simp at h
   ·exact e)
  omega
 ·intro h
  have h3:1≤r/2^j:=(Nat.le_div_iff_mul_le hp).2 (by omega)
  have h4:r/2^j<2:=(Nat.div_lt_iff_lt_mul hp).2 (by omega)
  omega
theorem abv{a b:Int}:(0<zF a b↔b<a)∧(zF a b=0↔a=b)∧(0≤zF a b↔b≤a):=by
 unfold zF
 split
 ·omega
 ·split<;>omega
theorem abO{m:Nat}(h:m % 2=1):tz m=0:=Jz (a:=m/2) (by simp;omega)
theorem as2{neg:Bool}{m k:Nat}{mode:Int}(hm:m % 2=1)(hk:1≤k)(h0:0≤mode∧mode≤4):
  aeS neg m k mode=rup neg (decide (m/2^k % 2=1)) (zF ((m % 2^k*2:Nat):Int) ((2^k:Nat):Int)) mode:=by
 have hb:=alu (m:=m) hk
 obtain⟨c1,c2,c3⟩:=abv (a:=((m % 2^k*2:Nat):Int)) (b:=((2^k:Nat):Int))
 generalize zF ((m % 2^k*2:Nat):Int) ((2^k:Nat):Int)=c at*
 have ht:=abO hm
 unfold aeS rup
 rcases(by omega:mode=0∨mode=1∨mode=2∨mode=3∨mode=4)with rfl|rfl|rfl|rfl|rfl
 ·rw[if_neg (by omega),if_neg (by omega),if_neg (by omega),if_neg (by omega),if_neg (by omega),if_neg (by omega),if_pos rfl,ht]
  rw[Bool.eq_iff_iff]
  simp only[Bool.and_eq_true,Bool.or_eq_true,decide_eq_true_eq,c1,c2]
  rw[hb]
  rcases(by omega:k=1∨1<k)with rfl|h
  ·have:m % 2^1=1:=by rw[Nat.pow_one];exact hm
   rw[this];simp
  ·have hodd:m % 2^k % 2=1:=by
    obtain⟨j,rfl⟩:∃j,k=j+1:=⟨k-1,by omega⟩
    rw[Nat.pow_succ,Nat.mul_comm,Nat.mod_mul_right_mod];exact hm
   have h4:2^k % 4=0:=by
    obtain⟨j,rfl⟩:∃j,k=j+2:=⟨k-2,by omega⟩
    rw[Nat.pow_add];omega
   omega
 ·simp
 ·simp
 ·simp
 ·rw[if_neg (by omega),if_neg (by omega),if_neg (by omega),if_pos rfl,if_neg (by omega),if_neg (by omega),if_neg (by omega),if_pos rfl]
  rw[decide_eq_decide,hb,c3];omega
theorem apP{m k:Nat}(hm:m % 2=1)(hk:1≤k):m % 2^k≠0:=by
 obtain⟨j,rfl⟩:∃j,k=j+1:=⟨k-1,by omega⟩
 intro h
 have:m % 2^(j+1) % 2=1:=by rw[Nat.pow_succ,Nat.mul_comm,Nat.mod_mul_right_mod];exact hm
 omega
/-! ### The normal form and rounding-/
theorem ann{m k:Nat}:oM (m*2^k)=oM m:=by
 by_cases h:m=0
 ·subst h;simp
 ·unfold oM
  rw[Zk h,Nat.pow_add,Nat.mul_comm (2^tz m),←Nat.div_div_eq_div_mul,Nat.mul_div_cancel _ (Nat.pow_pos (by omega))]
theorem Jl{s:Bool}{a b k:Nat}{mode:Int}:rq s (a*2^k) (b*2^k) mode=rq s a b mode:=by
 have hp:0<2^k:=Nat.pow_pos (by omega)
 have h1:a*2^k/(b*2^k)=a/b:=Nat.mul_div_mul_right _ _ hp
 have h2:a*2^k % (b*2^k)=a % b*2^k:=Nat.mul_mod_mul_right _ _ _
 have h3:zF ((a % b*2^k*2:Nat):Int) ((b*2^k:Nat):Int)=zF ((a % b*2:Nat):Int) (b:Int):=by
  have e1:a % b*2^k*2=a % b*2*2^k:=by grind
  rw[e1]
  have h4:∀x y:Nat,x*2^k<y*2^k↔x<y:=fun x y=>Nat.mul_lt_mul_right hp
  have key:∀x y X Y:Nat,(X<Y↔x<y)→(Y<X↔y<x)→zF (X:Int) (Y:Int)=zF (x:Int) (y:Int):=by
   intro x y X Y p q
   unfold zF
   rcases Nat.lt_trichotomy x y with h|h|h
   ·have:=p.2 h
    rw[if_pos (by omega),if_pos (by omega)]
   ·have g1:¬X<Y:=fun g=>by have:=p.1 g;omega
    have g2:¬Y<X:=fun g=>by have:=q.1 g;omega
    rw[if_neg (by omega),if_neg (by omega),if_neg (by omega),if_neg (by omega)]
   ·have:=q.2 h
    rw[if_neg (by omega),if_pos (by omega),if_neg (by omega),if_pos (by omega)]
  exact key _ _ _ _ (h4 _ _) (h4 _ _)
 unfold rq
 rw[h1,h2,h3]
 by_cases h:a % b=0
 ·rw[if_pos h,if_pos (by rw[h];simp)]
 ·rw[if_neg h,if_neg (by have:=Nat.mul_pos (show 0<a % b by omega) hp;omega)]
theorem atE{s:Bool}{a:Nat}{mode:Int}:rq s a 1 mode=a:=by unfold rq;simp[Nat.mod_one]
end Go.Ab
namespace Go.Ab
open Go Go.Proofs
theorem ahT(neg:Bool)(m k:Nat)(mode:Int)(hl:(lim m).length≤2^40)(hk:1≤k)(hk2:k≤2^40):Con Tryz.prog 181 true [.v (.bool neg),.ag [.sl (lim (m)).length (qg (lim (m)))],.v (.int .i64 k),.v (.int .i64 mode)] [] (isA (.v (.bool (aeS neg m k mode)))):=by
 refine Con.of_aw Tryz.func181 rfl Tryz.ntmps181 (by simp) (by simp) (by simp) (W.sound ?_)
 show @W Tryz.prog 44 ⟨_⟩ ⟨fun x σ=>@q8 _ _ _ ⟨_⟩ _ ⟨_⟩ x σ⟩ _ _
 have ek:((k:Int)-1)=((k-1:Nat):Int):=by omega
 have e1:decide (((m/2^(k-1) % 2:Nat):Int)=1)=decide (m/2^(k-1) % 2=1):=by rw[decide_eq_decide];omega
 have e2:decide (((m/2^k % 2:Nat):Int)=1)=decide (m/2^k % 2=1):=by rw[decide_eq_decide];omega
 have e3:decide ((tz m:Int)<((k-1:Nat):Int))=decide (tz m<k-1):=by rw[decide_eq_decide];omega
 simp(disch:=omega)only[go_sem,ek]
 refine qr (Ze m ((k-1:Nat):Int) hl (by omega) (by omega)) (by simp(disch:=omega)only[go_sem,ek]) ?_
 rintro r hs ⟨rfl,rfl,_⟩
 refine⟨by simp[qB],?_⟩
 simp(disch:=omega)only[go_sem,ek,e1]
 refine qm (Ym m hl) ?_
 simp(disch:=omega)only[go_sem]
 refine qh (fun h1=>?_) (fun h1=>?_)
 ·simp(disch:=omega)only[go_sem,h1]
  exact qv (by simp(disch:=omega)only[go_sem]) (by simp(disch:=omega)only[go_sem]) ⟨by simp[zb,aeS,h1],rfl,rfl⟩
 ·simp(disch:=omega)only[go_sem,h1]
  refine qh (fun h2=>?_) (fun h2=>?_)
  ·simp(disch:=omega)only[go_sem,h2]
   exact qv (by simp(disch:=omega)only[go_sem]) (by simp(disch:=omega)only[go_sem]) ⟨by simp[zb,aeS,h2],rfl,rfl⟩
  ·simp(disch:=omega)only[go_sem,h2]
   refine qh (fun h3=>?_) (fun h3=>?_)
   ·simp(disch:=omega)only[go_sem,h3]
    exact qv (by simp(disch:=omega)only[go_sem]) (by simp(disch:=omega)only[go_sem]) ⟨by simp[zb,aeS,h3],rfl,rfl⟩
   ·simp(disch:=omega)only[go_sem,h3]
    refine qh (fun h4=>?_) (fun h4=>?_)
    ·simp(disch:=omega)only[go_sem,h4]
     exact qv (by simp(disch:=omega)only[go_sem]) (by simp(disch:=omega)only[go_sem]) ⟨by simp[zb,aeS,h4],rfl,rfl⟩
    ·simp(disch:=omega)only[go_sem,h4]
     refine QA (fun h5=>?_) (fun h5=>?_)
     ·simp(disch:=omega)only[go_sem,h5]
      refine aci (fun h6=>?_) (fun h6=>?_)
      ·simp(disch:=omega)only[go_sem,h6]
       refine qm (Ze m (k:Int) hl (by omega) (by omega)) ?_
       simp(disch:=omega)only[go_sem]
       have h7:decide (tz m<k-1)=false:=by rw[←e3,←ek];exact h6
       rw[e2]
       refine qv (by simp(disch:=omega)only[go_sem]) (by simp(disch:=omega)only[go_sem]) ⟨?_,rfl,rfl⟩
       show AV.v (.bool _)=AV.v (.bool _)
       unfold aeS;rw[if_neg h1,if_neg h2,if_neg h3,if_neg h4,h5,h7];rfl
      ·simp(disch:=omega)only[go_sem,h6]
       have h7:decide (tz m<k-1)=true:=by rw[←e3,←ek];exact h6
       refine qv (by simp(disch:=omega)only[go_sem]) (by simp(disch:=omega)only[go_sem]) ⟨?_,rfl,rfl⟩
       show AV.v (.bool _)=AV.v (.bool _)
       unfold aeS;rw[if_neg h1,if_neg h2,if_neg h3,if_neg h4,h5,h7];rfl
     ·simp(disch:=omega)only[go_sem,h5]
      refine qv (by simp(disch:=omega)only[go_sem]) (by simp(disch:=omega)only[go_sem]) ⟨?_,rfl,rfl⟩
      show AV.v (.bool _)=AV.v (.bool _)
      unfold aeS;rw[if_neg h1,if_neg h2,if_neg h3,if_neg h4,h5];rfl
def srM(s:Bool)(m:Nat)(e low mode:Int):Nat:=oM (roM s m e low mode)
def srE(s:Bool)(m:Nat)(e low mode:Int):Int:=if low≤e∨m=0 then e else oE (roM s m e low mode) low
theorem aba(s:Bool)(m:Nat)(e low mode:Int)(hodd:m % 2=1∨m=0)(hs:m=0→s=false)(hmode:0≤mode∧mode≤4)(hm:bl m≤4000000)(he: -1000000≤e∧e≤1000000)(hlo: -1000000≤low∧low≤1000000):
  Con Tryz.prog 97 false [.ag [.v (.bool (s)),.sl (lim (m)).length (qg (lim (m))),.v (.int .i64 (e))],.v (.int .i64 low),.v (.int .i64 mode)] []
   (isA (.tu [.ag [.v (.bool (oS (roS s m e low mode) (roM s m e low mode))),.sl (lim (srM s m e low mode)).length (qg (lim (srM s m e low mode))),.v (.int .i64 (srE s m e low mode))],.v (.bool (roX m e low))])):=by
 refine Con.frzA ?_
 have l1:=qx hm
 refine Con.of_aw Tryz.func97 rfl Tryz.ntmps97 (by simp) (by simp) (by simp) (W.sound ?_)
 show @W Tryz.prog 51 ⟨_⟩ ⟨fun x σ=>@q8 _ _ _ ⟨_⟩ _ ⟨_⟩ x σ⟩ _ _
 simp(disch:=omega)only[go_sem]
 refine je (fun h1=>?_) (fun h1=>?_)
 ·have h0:m≠0:=fun e=>h1 (by rw[e,qt];rfl)
  have hod:m % 2=1:=hodd.resolve_right h0
  simp(disch:=omega)only[go_sem,h1]
  refine qh (fun h2=>?_) (fun h2=>?_)
  ·simp(disch:=omega)only[go_sem,h2]
   refine qW (by simp(disch:=omega)only[go_sem]) ?_
   show qE _ 6 _=_
   have ht:=abO hod
   have e3:oM m=m:=by unfold oM;rw[ht];simp
   simp only[srM,srE,roM,roS,roX,h2,true_or,if_true,oS,if_neg h0,e3]
   simp(disch:=omega)only[go_sem]
  ·simp(disch:=omega)only[go_sem,h2]
   have ek:low-e=(((low-e).toNat:Nat):Int):=by omega
   have hk1:1≤(low-e).toNat:=by omega
   refine qz (KE m (low-e).toNat (by omega) (by omega)) (by simp(disch:=omega)only[go_sem,←ek]) ?_
   rintro r hs ⟨rfl,rfl,_⟩
   refine⟨by simp[qB],?_⟩
   simp(disch:=omega)only[go_sem]
   refine qr (ahT s m (low-e).toNat mode (by omega) hk1 (by omega)) (by simp(disch:=omega)only[go_sem,←ek]) ?_
   rintro r hs ⟨rfl,rfl,_⟩
   refine⟨by simp[qB],?_⟩
   simp(disch:=omega)only[go_sem]
   have hc:¬(low≤e∨m=0):=by omega
   have hne:=apP hod hk1
   have hups:=as2 (neg:=s) hod hk1 hmode
   have hq:roM s m e low mode=if aeS s m (low-e).toNat mode=true then m/2^(low-e).toNat+1 else m/2^(low-e).toNat:=by
    unfold roM rq
    rw[if_neg hc,if_neg hne,←hups]
   have hro:roS s m e low mode=(s&&decide (roM s m e low mode≠0)):=by unfold roS roM;rw[if_neg hc,if_neg hc]
   have hblq:bl (m/2^(low-e).toNat+1)≤4000001:=by
    have h3:=YA (m/2^(low-e).toNat)
    have h4:=Qw m (2^(low-e).toNat)
    omega
   have hblq0:bl (m/2^(low-e).toNat)≤4000001:=Nat.le_trans (jh (by omega)) hblq
   have lq:=qx hblq
   have lq0:=qx hblq0
   have hrx:roX m e low=false:=by unfold roX;rw[if_neg hc];simp[hne]
   have hfin:∀q,roM s m e low mode=q→bl q≤4000001→AV.ag [.v (.bool (oS (s&&decide (q≠0)) q)),.sl (lim (oM q)).length (qg (lim (oM q))),.v (.int .i64 (oE q low))]=AV.ag [.v (.bool (oS (roS s m e low mode) (roM s m e low mode))),.sl (lim (srM s m e low mode)).length (qg (lim (srM s m e low mode))),.v (.int .i64 (srE s m e low mode))]:=by
    intro q hq' _
    rw[hro,hq']
    unfold srM srE
    rw[if_neg hc,hq']
   refine QA (fun h3=>?_) (fun h3=>?_)
   ·rw[if_pos h3]at hq
    simp(disch:=omega)only[go_sem,h3]
    refine qs rfl [⟨0,[],[]⟩,⟨1,[0],[]⟩,⟨2,[],[]⟩,⟨3,[],[]⟩] (by kernel_rfl) ?_
    simp(disch:=omega)only[go_sem]
    refine qa (zK 1 (by omega)) ?_
    simp(disch:=omega)only[go_sem]
    refine qa (ym (m/2^(low-e).toNat) 1 (by omega) (by have:=qx (m:=1) (B:=1) (by decide);omega)) ?_
    simp(disch:=omega)only[go_sem]
    refine qa (qP s (m/2^(low-e).toNat+1) (by omega)) ?_
    simp(disch:=omega)only[go_sem]
    refine qa (jI (s&&decide (m/2^(low-e).toNat+1≠0)) (m/2^(low-e).toNat+1) low (by omega) (by omega)) ?_
    simp(disch:=omega)only[go_sem]
    refine qW (by simp(disch:=omega)only[go_sem]) ?_
    show qE _ 6 _=_
    rw[←hfin _ hq hblq,hrx]
    simp(disch:=omega)only[go_sem]
   ·rw[if_neg (by rw[h3];simp)]at hq
    simp(disch:=omega)only[go_sem,h3]
    refine qa (qP s (m/2^(low-e).toNat) (by omega)) ?_
    simp(disch:=omega)only[go_sem]
    refine qa (jI (s&&decide (m/2^(low-e).toNat≠0)) (m/2^(low-e).toNat) low (by omega) (by omega)) ?_
    simp(disch:=omega)only[go_sem]
    refine qW (by simp(disch:=omega)only[go_sem]) ?_
    show qE _ 6 _=_
    rw[←hfin _ hq hblq0,hrx]
    simp(disch:=omega)only[go_sem]
 ·have h0:m=0:=qJ.1 (List.length_eq_zero_iff.1 (by omega))
  simp(disch:=omega)only[go_sem,h1]
  refine qW (by simp(disch:=omega)only[go_sem]) ?_
  show qE _ 6 _=_
  have hs0:=hs h0
  subst h0
  subst hs0
  simp only[srM,srE,roM,roS,roX,or_true,if_true,oS,jQ]
  simp(disch:=omega)only[go_sem]
end Go.Ab
namespace Go.Ab
open Go Go.Proofs
theorem aaU(n lo hi:Int):Con Tryz.prog 52 true [.v (.int .i64 n),.v (.int .i64 lo),.v (.int .i64 hi)] [] (isA (.v (.bool (decide (lo≤n)&&decide (n≤hi))))):=zw n lo hi
theorem amn(s:Bool)(xs:List Int)(e:Int)(hl:xs.length≤2^40):Con Tryz.prog 255 true [.ag [.v (.bool s),.sl xs.length (qg xs),.v (.int .i64 e)]] [] (isA (.v (.bool (dyB s xs e)))):=by
 refine Con.of_aw Tryz.func255 rfl Tryz.ntmps255 (by simp) (by simp) (by simp) (W.sound ?_)
 show @W Tryz.prog 32 ⟨_⟩ ⟨fun x σ=>@q8 _ _ _ ⟨_⟩ _ ⟨_⟩ x σ⟩ _ _
 simp(disch:=omega)only[go_sem]
 refine qm (aaV s xs hl) ?_
 simp(disch:=omega)only[go_sem]
 refine QA (fun hw=>?_) (fun h1=>?_)
 ·have h1:=hw
  simp only[yP,Bool.and_eq_true]at h1
  obtain⟨hx,hll⟩:=XN h1.1
  have hxs:xs=lim (vl xs).toNat:=hx
  generalize hm:(vl xs).toNat=m at*
  subst hx
  simp(disch:=omega)only[go_sem,hw]
  refine qm (aaU e (-3000) 3000) ?_
  simp(disch:=omega)only[go_sem]
  refine aci (fun h2=>?_) (fun h2=>?_)
  ·simp(disch:=omega)only[go_sem,h2]
   refine qv (by simp(disch:=omega)only[go_sem]) (by simp(disch:=omega)only[go_sem]) ⟨?_,rfl,rfl⟩
   simp[zb,dyB,hw,h2]
  ·simp(disch:=omega)only[go_sem,h2]
   refine qm (KP m 0 (by omega) (by omega) (by omega)) ?_
   simp(disch:=omega)only[go_sem]
   refine je (fun h3=>?_) (fun h3=>?_)
   ·have h3':¬m % 2=1:=fun h=>h3 (by simp;omega)
    simp(disch:=omega)only[go_sem,h3]
    refine qh (fun h4=>?_) (fun h4=>?_)
    ·simp(disch:=omega)only[go_sem,h4]
     refine qv (by simp(disch:=omega)only[go_sem]) (by simp(disch:=omega)only[go_sem]) ⟨?_,rfl,rfl⟩
     have h4':(lim m).length=0:=by omega
     simp[zb,dyB,hw,h2,hm,h3',h4']
    ·simp(disch:=omega)only[go_sem,h4]
     refine qv (by simp(disch:=omega)only[go_sem]) (by simp(disch:=omega)only[go_sem]) ⟨?_,rfl,rfl⟩
     have h4':¬(lim m).length=0:=by omega
     simp[zb,dyB,hw,h2,hm,h3',h4']
   ·have h3':m % 2=1:=by simp at h3;omega
    simp(disch:=omega)only[go_sem,h3]
    refine qv (by simp(disch:=omega)only[go_sem]) (by simp(disch:=omega)only[go_sem]) ⟨?_,rfl,rfl⟩
    simp[zb,dyB,hw,h2,hm,h3']
 ·simp(disch:=omega)only[go_sem,h1]
  refine qv (by simp(disch:=omega)only[go_sem]) (by simp(disch:=omega)only[go_sem]) ⟨?_,rfl,rfl⟩
  simp[zb,dyB,h1]
end Go.Ab
namespace Go.Ab
open Go Go.Proofs
theorem abl(s:Bool)(m:Nat)(e:Int):Con Tryz.prog 112 false [.ag [.v (.bool (s)),.sl (lim (m)).length (qg (lim (m))),.v (.int .i64 (e))]] [] (isA (.ag [.v (.bool (s)),.sl (lim (m)).length (qg (lim (m))),.v (.int .i64 (e))])):=by
 refine Con.frzA ?_
 refine Con.of_w (rs:=[.cell 2 97]) Tryz.func112 rfl Tryz.ntmps112 rfl ?_
 simp(disch:=omega)only[go_sem]
 exact qo
def aBH(mode:Int):Bool:=decide (0≤mode)&&decide (mode≤4)
def dyV:AV→AV:=id
end Go.Ab
namespace Go.Ab
open Go Go.Proofs
theorem ayK{s:Bool}{m:Nat}{e low mode:Int}(hodd:m % 2=1):srM s m e low mode=oM (roM s m e low mode)∧srE s m e low mode=oE (roM s m e low mode) (roE m e low):=by
 refine⟨rfl,?_⟩
 unfold srE
 by_cases h:low≤e∨m=0
 ·have h0:m≠0:=fun e=>by omega
  rw[if_pos h]
  unfold roM roE oE
  rw[if_pos h,if_pos h,if_neg h0,abO hodd];simp
 ·rw[if_neg h]
  unfold roE
  rw[if_neg h]
end Go.Ab
namespace Go.Ab
/-! ### Numbers with a sign-/
def sv(s:Bool)(m:Nat):Int:=if s=true then-(m:Int)else(m:Int)
theorem afA(s:Bool)(m:Nat):(sv s m).natAbs=m:=by unfold sv;split<;>omega
theorem yQ(s:Bool):sv s 0=0:=by unfold sv;split<;>rfl
theorem ayI(z:Int):sv (decide (z<0)) z.natAbs=z:=by
 unfold sv;split
 ·rename_i h;simp only[decide_eq_true_eq]at h;omega
 ·rename_i h;simp only[decide_eq_true_eq]at h;omega
theorem VJ(s:Bool)(m k:Nat):sv s (m*k)=sv s m*(k:Int):=by
 unfold sv;split
 ·rw[Int.natCast_mul,Int.neg_mul]
 ·rw[Int.natCast_mul]
theorem atm(s:Bool)(m:Nat):sv (s&&decide (m≠0)) m=sv s m:=by
 by_cases h:m=0
 ·subst h;rw[yQ,yQ]
 ·rw[decide_eq_true h,Bool.and_true]
theorem ayG(s:Bool)(m:Nat):sv (oS s m) m=sv s m:=by
 unfold oS
 by_cases h:m=0
 ·subst h;rw[yQ,yQ]
 ·rw[if_neg h]
theorem ayH(s1:Bool)(m1:Nat)(s2:Bool)(m2:Nat):sv (s1 != s2) (m1*m2)=sv s1 m1*sv s2 m2:=by
 cases s1<;>cases s2<;>simp[sv,Int.natCast_mul,Int.neg_mul,Int.mul_neg]
theorem atl{s:Bool}{m:Nat}(h:m≠0):decide (sv s m<0)=s:=by
 cases s<;>simp[sv]<;>omega
theorem atk(s:Bool)(m:Nat):sv (!s) m= -sv s m:=by cases s<;>simp[sv]
def dv(K:Nat)(s:Bool)(m:Nat)(e:Int):Int:=sv s m*2^(e+K).toNat
theorem axA{K:Nat}{s:Bool}{m:Nat}{e:Int}{s':Bool}{m':Nat}{e':Int}(h0:m≠0)(he: -(K:Int)≤e)(he': -(K:Int)≤e')(h:dv K s m e=dv K s' m' e'):
  s=s'∧oM m=oM m'∧oE m e=oE m' e'∧m'≠0:=by
 unfold dv at h
 obtain⟨a,ha⟩:∃a,a=(e+K).toNat:=⟨_,rfl⟩
 obtain⟨a',ha'⟩:∃a,a=(e'+K).toNat:=⟨_,rfl⟩
 rw[←ha,←ha']at h
 have habs:m*2^a=m'*2^a':=by
  have:=congrArg Int.natAbs h
  rw[Int.natAbs_mul,Int.natAbs_mul,afA,afA,Int.natAbs_pow,Int.natAbs_pow]at this
  exact this
 have hp:0<2^a:=Nat.pow_pos (by omega)
 have h1:0<m*2^a:=Nat.mul_pos (by omega) hp
 have h0':m'≠0:=fun e=>by rw[habs,e,Nat.zero_mul]at h1;omega
 have hM:oM m=oM m':=by rw[←@ann m a,habs,ann]
 have hT:tz m+a=tz m'+a':=by rw[←Zk h0,habs,Zk h0']
 refine⟨?_,hM,?_,h0'⟩
 ·have e1:sv s m*2^a=sv s (m*2^a):=by rw[VJ,Int.natCast_pow];rfl
  have e2:sv s' m'*2^a'=sv s' (m'*2^a'):=by rw[VJ,Int.natCast_pow];rfl
  rw[e1,e2,←habs]at h
  rw[←atl (s:=s) (m:=m*2^a) (by omega),h,atl (by omega)]
 ·unfold oE;rw[if_neg h0,if_neg h0'];omega
theorem ZE{K:Nat}{s:Bool}{e:Int}:dv K s 0 e=0:=by unfold dv;rw[yQ,Int.zero_mul]
theorem adU{K:Nat}{s:Bool}{m:Nat}{e:Int}:dv K s m e=0↔m=0:=by
 refine⟨fun h=>?_,fun h=>by rw[h,ZE]⟩
 unfold dv at h
 rcases Int.mul_eq_zero.1 h with h|h
 ·rw[←afA s m,h];rfl
 ·have:(0:Int)<2^(e+K).toNat:=Int.pow_pos (by omega)
  omega
theorem aAd(K:Nat)(s:Bool)(m:Nat)(e:Int):dv K (oS s m) m e=dv K s m e:=by unfold dv;rw[ayG]
theorem ahr(K:Nat)(s:Bool)(m:Nat)(e:Int):dv K (s&&decide (m≠0)) m e=dv K s m e:=by unfold dv;rw[atm]
theorem arz{K:Nat}{s:Bool}{m:Nat}{e:Int}(he: -(K:Int)≤e):dv K s (oM m) (oE m e)=dv K s m e:=by
 by_cases h:m=0
 ·subst h;rw[jQ,ZE,ZE]
 ·unfold dv oE
  rw[if_neg h]
  have e1:(e+(tz m:Int)+K).toNat=tz m+(e+K).toNat:=by omega
  conv=>rhs;rw[←@ZZ m]
  rw[e1,Int.pow_add,VJ,Int.natCast_pow,Int.mul_assoc];rfl
theorem ay1{K:Int}{m:Nat}{e:Int}(h: -K≤e)(h0:0≤K): -K≤oE m e:=by unfold oE;split<;>omega
theorem axz{K K':Nat}{s s':Bool}{m m':Nat}{e e':Int}(he: -(K:Int)≤e)(he': -(K':Int)≤e'):dv (K+K') (s != s') (m*m') (e+e')=dv K s m e*dv K' s' m' e':=by
 unfold dv
 have e1:(e+e'+((K+K':Nat):Int)).toNat=(e+K).toNat+(e'+K').toNat:=by omega
 rw[e1,Int.pow_add,ayH]
 simp only[Int.mul_assoc,Int.mul_left_comm]
/-! ### Sums-/
def suM(s1:Bool)(m1:Nat)(s2:Bool)(m2:Nat):Nat:=(sv s1 m1+sv s2 m2).natAbs
def suS(s1:Bool)(m1:Nat)(s2:Bool)(m2:Nat):Bool:=decide (sv s1 m1+sv s2 m2<0)
def sgS(s1:Bool)(m1:Nat)(s2:Bool)(m2:Nat):Bool:=if s1=s2 then s1 else if m2≤m1 then s1 else s2
theorem abR(s:Bool)(m1 m2:Nat):suM s m1 s m2=m1+m2:=by unfold suM sv;split<;>omega
theorem am6{s1 s2:Bool}{m1 m2:Nat}(h:s1≠s2)(hm:m2≤m1):suM s1 m1 s2 m2=m1-m2:=by
 cases s1<;>cases s2<;>simp[suM,sv]at* <;>omega
theorem am5{s1 s2:Bool}{m1 m2:Nat}(h:s1≠s2)(hm:¬m2≤m1):suM s1 m1 s2 m2=m2-m1:=by
 cases s1<;>cases s2<;>simp[suM,sv]at* <;>omega
theorem abT(s:Bool)(m1 m2:Nat):sgS s m1 s m2=s:=by unfold sgS;rw[if_pos rfl]
theorem anc{s1 s2:Bool}{m1 m2:Nat}(h:s1≠s2)(hm:m2≤m1):sgS s1 m1 s2 m2=s1:=by unfold sgS;rw[if_neg h,if_pos hm]
theorem anb{s1 s2:Bool}{m1 m2:Nat}(h:s1≠s2)(hm:¬m2≤m1):sgS s1 m1 s2 m2=s2:=by unfold sgS;rw[if_neg h,if_neg hm]
theorem afJ(s1:Bool)(m1:Nat)(s2:Bool)(m2:Nat):(sgS s1 m1 s2 m2&&decide (suM s1 m1 s2 m2≠0))=suS s1 m1 s2 m2:=by
 rw[Bool.eq_iff_iff]
 simp only[Bool.and_eq_true,decide_eq_true_eq,suS]
 unfold sgS suM
 cases s1<;>cases s2<;>simp[sv]
 all_goals omega
theorem atn(s1:Bool)(m1:Nat)(s2:Bool)(m2:Nat):suM s1 m1 s2 m2≤m1+m2:=by unfold suM sv;split<;>split<;>omega
theorem axV{a b B:Nat}(ha:bl a≤B)(hb:bl b≤B):bl (a+b)≤B+1:=by
 have h1:=zN.1 ha
 have h2:=zN.1 hb
 refine zN.2 ?_
 rw[Nat.pow_succ];omega
theorem acH{s1:Bool}{m1:Nat}{s2:Bool}{m2 B:Nat}(h1:bl m1≤B)(h2:bl m2≤B):bl (suM s1 m1 s2 m2)≤B+1:=
 Nat.le_trans (jh (atn _ _ _ _)) (axV h1 h2)
def alE(m1:Nat)(e1:Int)(m2:Nat)(e2:Int):Int:=if m2=0 then e1 else if m1=0 then e2 else if e2<e1 then e2 else e1
def alA(m:Nat)(e E:Int):Nat:=m*2^(e-E).toNat
def adM(s1:Bool)(m1:Nat)(e1:Int)(s2:Bool)(m2:Nat)(e2:Int):Nat:=suM s1 (alA m1 e1 (alE m1 e1 m2 e2)) s2 (alA m2 e2 (alE m1 e1 m2 e2))
def adS(s1:Bool)(m1:Nat)(e1:Int)(s2:Bool)(m2:Nat)(e2:Int):Bool:=suS s1 (alA m1 e1 (alE m1 e1 m2 e2)) s2 (alA m2 e2 (alE m1 e1 m2 e2))
theorem Zi{K:Int}{m1:Nat}{e1:Int}{m2:Nat}{e2:Int}(h1:K≤e1)(h2:K≤e2):K≤alE m1 e1 m2 e2:=by
 unfold alE
 repeat' split
 all_goals omega
theorem anK{K:Int}{m1:Nat}{e1:Int}{m2:Nat}{e2:Int}(h1:e1≤K)(h2:e2≤K):alE m1 e1 m2 e2≤K:=by
 unfold alE
 repeat' split
 all_goals omega
theorem acL{K:Nat}{s:Bool}{m:Nat}{e E:Int}(hE: -(K:Int)≤E)(h:m≠0→E≤e):sv s (alA m e E)*2^(E+K).toNat=dv K s m e:=by
 by_cases h0:m=0
 ·subst h0;unfold alA;rw[Nat.zero_mul,yQ,ZE,Int.zero_mul]
 ·have:=h h0
  unfold alA dv
  have e1:(e+K).toNat=(e-E).toNat+(E+K).toNat:=by omega
  rw[e1,Int.pow_add,VJ,Int.natCast_pow,Int.mul_assoc];rfl
theorem Ja{m B:Nat}{e E:Int}{C:Nat}(h:bl m≤B)(hk:e-E≤C):bl (alA m e E)≤B+C:=by
 have:=ZS m (e-E).toNat
 unfold alA;omega
theorem aAC{K:Nat}{s1:Bool}{m1:Nat}{e1:Int}{s2:Bool}{m2:Nat}{e2:Int}(h1: -(K:Int)≤e1)(h2: -(K:Int)≤e2):
  dv K (adS s1 m1 e1 s2 m2 e2) (adM s1 m1 e1 s2 m2 e2) (alE m1 e1 m2 e2)=dv K s1 m1 e1+dv K s2 m2 e2:=by
 have hE: -(K:Int)≤alE m1 e1 m2 e2:=Zi h1 h2
 have g1:m1≠0→alE m1 e1 m2 e2≤e1:=fun h=>by
  unfold alE
  repeat' split
  all_goals omega
 have g2:m2≠0→alE m1 e1 m2 e2≤e2:=fun h=>by
  unfold alE
  repeat' split
  all_goals omega
 rw[←acL hE g1,←acL hE g2,←Int.add_mul]
 show sv (adS s1 m1 e1 s2 m2 e2) (adM s1 m1 e1 s2 m2 e2)*_=_
 unfold adS adM suS suM
 rw[ayI]
end Go.Ab
namespace Go.Ab
theorem ano(m:Nat):oM m % 2=1∨oM m=0:=by
 by_cases h0:m=0
 ·exact .inr (zZ.2 h0)
 ·exact .inl (Q3 h0).1
theorem aBz(s:Bool)(m:Nat):oM m=0→oS s m=false:=fun h=>by unfold oS;rw[if_pos (zZ.1 h)]
end Go.Ab
namespace Go.Ab
end Go.Ab
namespace Go.Ab
open Go Go.Proofs
end Go.Ab
namespace Go.Ab
open Go
theorem YB(m:Nat):bhp [] m=.free:=by unfold bhp;split<;>simp
theorem Con.enter{P:Program}{f:FuncId}{cl:Bool}{args:List AV}{x:Value}(h:Con P f cl args [] (isA (.v x)))(R:Nat→Prop)(w:World)(vs:Array Value)
  (hlt:∀b,R b→b<w.heap.size) (hr:RepA R (fun _=>none) w vs args) (ha:AllL (fun m=>bhp [] m≠ .free) args) (hg:Gd w):
  Calls P f vs w fun e w'=>e=.returned x∧Ext (fun _=>False) w w':=by
 have hno:∀b,¬aeL (bhp []) (fun _=>none) b:=fun b ⟨nm,z,cs,B,e,_⟩=>by rw[YB]at e;cases e
 have hh:HpOk R (fun _=>none) w (bhp []):=
  ⟨fun nm=>(by rw[YB];trivial),fun nm z cs B e=>absurd e (by rw[YB];simp),fun nm nm' z z' cs cs' B B' e=>absurd e (by rw[YB];simp),fun nm z cs e=>absurd e (by rw[YB];simp)⟩
 refine(h R (fun _=>none) w vs hlt hr ha hh ⟨hg,fun g l _=>hno g⟩).mono ?_
 rintro e w' ⟨y,r,hs,bs',R',ι',rfl,⟨rfl,rfl,rfl⟩,hf⟩
 refine⟨?_,hf.ext.os,hf.ext.tape,hf.ext.output,hf.ext.size,fun b hb _=>hf.ext.block b hb (hno b)⟩
 cases hf.rep with
 |fr _ _ h=>cases h;rfl
theorem Ext.kept{w w':World}(h:Ext (fun _=>False) w w')(may:MemPlace→Prop):w.keptBut w' may:=by
 refine⟨h.os,h.output,fun i hi=>?_⟩
 rw[h.block i hi (fun h=>h)]
 cases w.heap[i]? with
 |none=>trivial
 |some o=>cases o with
  |cells c t fr=>exact⟨rfl,rfl,rfl,fun _ _=>rfl⟩
  |map es cl=>exact .inr ⟨rfl,rfl⟩
  |_=>rfl
theorem Ext.below{w w':World}(h:Ext (fun _=>False) w w'):RowKit.Below w.heap.size w w':=⟨h.os,h.tape,h.output,h.size,fun k hk=>h.block k hk (fun h=>h)⟩
theorem Ext.trod{H:Type}{enc:TypeId×Value→H}{P:Program}{t:TypeId}{W W':World}(hw:Ext (fun _=>False) W W')(hl:laidOutB P=true)(hr:P.readableRec t=true)(hrow:t<P.types.size){v:Value}{d:DataW H}{ps:List MemPlace}
  (h:DataW.Trod enc P W 0 (fun _=>true) true t v d ps) (hlt:∀x∈ps,x.block<W.heap.size):DataW.Trod enc P W' 0 (fun b=>decide (b<W.heap.size)) true t v d ps:=
 RowKit.Below.trod hl hr hrow h hw.below hlt
theorem Vt{w:World}{a:Addr}{v:Value}(h:w.cell? a=some v):a.block<w.heap.size:=by
 rcases Nat.lt_or_ge a.block w.heap.size with h'|h'
 ·exact h'
 ·simp[World.cell?,Array.getElem?_eq_none h']at h
theorem atL{R:Nat→Prop}{ι:Nat→Option Blk}{w:World}(x:Value):Rep R ι w x (.v x):=.fr _ _ (.v x)
theorem adn{R:Nat→Prop}{ι:Nat→Option Blk}{w:World}{x y z:Value}{a b c:AV}(h1:Rep R ι w x a)(h2:Rep R ι w y b)(h3:Rep R ι w z c):RepA R ι w #[x,y,z] [a,b,c]:=
 ⟨rfl,fun i h=>match i,h with
  |0,_=>h1
  |1,_=>h2
  |2,_=>h3⟩
theorem YE(b o i:Nat):(⟨b,o,none⟩:Addr).add i=⟨b,o+i,none⟩:=by
 unfold Addr.add
 split
 ·subst_vars;rfl
 ·rfl
theorem ag1{R:Nat→Prop}{W:World}{a:Addr}{len cap:Nat}{zs:List Int}(hle:len≤cap)(hz:zs.length=cap)(hc:∀i,i<zs.length→W.cell? (a.add i)=some (.int .i64 (zs.getD i 0)))(hR:∀b,b<W.heap.size→R b):
  FRep R W (.slice (some a) len cap) (.sl (zs.take len).length (qg (zs.take len))):=by
 have hl:(zs.take len).length=len:=by rw[List.length_take];omega
 have hil:(qg (zs.take len)).length=len:=by unfold qg;rw[List.length_map,hl]
 rw[hl]
 obtain⟨b,o,sp⟩:=a
 have hsp:0<len→sp=none:=fun h0=>by
  have h1:=World.cell?_spot (hc 0 (by omega))
  simpa [Addr.add]using h1
 refine .sl _ len cap _ (fun i=>.int .i64 (zs.getD i 0)) b o hle (fun h0=>?_) (fun i hi=>?_) (fun i hi=>?_)
 ·have hs:=hsp (by omega)
  subst hs
  exact⟨rfl,hR _ (Vt (hc 0 (by omega)))⟩
 ·have hs:=hsp (by omega)
  subst hs
  have h1:=hc i (by omega)
  rw[YE]at h1
  exact h1
 ·have:(qg (zs.take len))[i]=.v (.int .i64 (zs.getD i 0)):=by
   have hi2:i<(zs.take len).length:=by omega
   simp only[qg,List.getElem_map,List.getElem_take,List.getD_eq_getElem?_getD]
   rw[List.getElem?_eq_getElem (by omega)]
   rfl
  rw[this]
  exact .v _
theorem ack{R:Nat→Prop}{W:World}:FRep R W (.slice none 0 0) (.sl 0 []):=
 .sl none 0 0 [] (fun _=>undef) 0 0 (Nat.le_refl _) (fun h=>absurd h (by simp)) (fun i h=>absurd h (by simp)) (fun i h=>absurd h (by simp))
theorem apJ{H:Type}{enc:TypeId×Value→H}{P:Program}{W:World}{t e fuel:Nat}{cs:List Value}{x:DataW H×List MemPlace}(ht:P.underlying t=some (.slice e))(he:P.underlying e=some (.int .i64))(hc:P.cellsOf e=1)
  (h:DataW.trod enc P W 0 (fun _=>true) true fuel t cs=some x):
  ∃(v:Value) (xs:List Int),cs=[v]∧xs.length≤maxLen∧FRep (fun b=>b<W.heap.size) W v (.sl xs.length (qg xs)):=by
 rcases ChangeShapes.open_ints ht he hc h with⟨rfl,_⟩|⟨a,len,cap,zs,rfl,_,hl,hm,hz,_,hcell,_⟩
 ·exact⟨_,[],rfl,Nat.zero_le _,ack⟩
 ·rw[if_pos rfl]at hz
  refine⟨_,zs.take len,rfl,?_,ag1 hl hz hcell (fun _ h=>h)⟩
  rw[List.length_take];omega
end Go.Ab
namespace Go.Ab
open Go Go.Proofs
end Go.Ab
namespace Go.Ab
open Go Go.Proofs
end Go.Ab
namespace Go.Ab
open Go Go.Proofs
theorem ad6(xs:List Int)(hl:xs.length≤2^40):Con Tryz.prog 187 true [.ag [.sl xs.length (qg xs)]] [] (isA (.v (.bool (Y7 xs)))):=by
 refine Con.of_aw Tryz.func187 rfl Tryz.ntmps187 (by simp) (by simp) (by simp) (W.sound ?_)
 show @W Tryz.prog 44 ⟨_⟩ ⟨fun x σ=>@q8 _ _ _ ⟨_⟩ _ ⟨_⟩ x σ⟩ _ _
 simp(disch:=omega)only[go_sem]
 refine qh (fun h1=>?_) (fun h1=>?_)
 ·simp(disch:=omega)only[go_sem,h1]
  refine qv (by simp(disch:=omega)only[go_sem]) (by simp(disch:=omega)only[go_sem]) ⟨?_,rfl,rfl⟩
  have:¬(xs.length≤100):=by omega
  simp[zb,Y7,this]
 ·simp(disch:=omega)only[go_sem,h1]
  refine qj (fun i:Nat=>[(1,.pt 30000000 0),(2,.v (.bool false)),(3,.v (.int .i64 i))]) (fun _=>[(30000000,.own 0 [.sl xs.length (qg xs)])]) (fun i=>i≤xs.length∧∀x∈xs.take i,0≤x∧x≤65535) (fun i=>xs.length-i) 0 ⟨by omega,by simp⟩
   (Le.lst [] _ _ rfl (by simp(disch:=omega)only[go_sem]) (by simp(disch:=omega)only[go_sem])) ?_
  rintro i ⟨hi,hx⟩
  simp(disch:=omega)only[go_sem]
  refine qh (fun h2=>?_) (fun h2=>?_)
  ·simp(disch:=omega)only[go_sem,h2]
   have hmem:xs.getD i 0∈xs:=by
    rw[List.getD_eq_getElem?_getD,List.getElem?_eq_getElem (by omega)];exact List.getElem_mem _
   have bad:¬(0≤xs.getD i 0∧xs.getD i 0≤65535)→Y7 xs=false:=by
    intro hc
    unfold Y7
    have:xs.all (fun x=>decide (0≤x)&&decide (x≤65535))=false:=by
     rw[List.all_eq_false]
     refine⟨_,hmem,?_⟩
     simp only[Bool.and_eq_true,decide_eq_true_eq];exact hc
    rw[this];simp
   refine⟨by omega,by omega,?_⟩
   refine je (fun h3=>?_) (fun h3=>?_)
   ·simp(disch:=omega)only[go_sem,h3]
    refine⟨by omega,by omega,?_⟩
    refine qh (fun h4=>?_) (fun h4=>?_)
    ·simp(disch:=omega)only[go_sem,h4]
     rw[bad (by omega)]
     exact qu
    ·simp(disch:=omega)only[go_sem,h4]
     refine qe (i+1) [] ⟨by omega,?_⟩ (by show xs.length-(i+1)<xs.length-i;omega) rfl (by simp(disch:=omega)only[go_sem];try omega) (by simp(disch:=omega)only[go_sem])
     intro x hxx
     rw[List.take_add_one]at hxx
     rcases List.mem_append.1 hxx with h|h
     ·exact hx x h
     ·rw[List.getElem?_eq_getElem (by omega)]at h
      simp at h
      rw[List.getD_eq_getElem?_getD,List.getElem?_eq_getElem (by omega)]at h3 h4
      simp at h3 h4
      subst h
      omega
   ·simp(disch:=omega)only[go_sem,h3]
    rw[bad (by omega)]
    exact qu
  ·have:i=xs.length:=by omega
   subst this
   rw[List.take_length]at hx
   have hall:xs.all (fun x=>decide (0≤x)&&decide (x≤65535))=true:=by
    rw[List.all_eq_true]
    intro x h;have:=hx x h;simp only[Bool.and_eq_true,decide_eq_true_eq];exact this
   have e1:decide (xs.length≤100)=true:=by simp;omega
   simp(disch:=omega)only[go_sem,h2]
   refine je (fun h3=>?_) (fun h3=>?_)
   ·have en:((xs.length:Int)-1).toNat=xs.length-1:=by omega
    have hmem:xs.getD (xs.length-1) 0∈xs:=by
     rw[List.getD_eq_getElem?_getD,List.getElem?_eq_getElem (by omega)];exact List.getElem_mem _
    have hp:=hx _ hmem
    simp(disch:=omega)only[go_sem,h3,en]
    refine⟨by omega,by omega,?_⟩
    refine qv (by simp(disch:=omega)only[go_sem]) (by simp(disch:=omega)only[go_sem]) ⟨?_,rfl,rfl⟩
    have e2:decide (xs.length=0)=false:=by simp;intro h;subst h;simp at h3
    show AV.v (.bool _)=AV.v (.bool _)
    unfold Y7
    rw[e1,hall,e2,Bool.false_or,Bool.true_and,Bool.true_and]
    congr 2
    rw[decide_eq_decide]
    omega
   ·simp(disch:=omega)only[go_sem,h3]
    refine qv (by simp(disch:=omega)only[go_sem]) (by simp(disch:=omega)only[go_sem]) ⟨?_,rfl,rfl⟩
    have e2:decide (xs.length=0)=true:=by simp;exact List.length_eq_zero_iff.1 (by omega)
    show AV.v (.bool _)=AV.v (.bool _)
    unfold Y7
    rw[e1,hall,e2]
    simp
theorem Kp(s:Bool)(xs:List Int)(hl:xs.length≤2^40):Con Tryz.prog 105 true [.ag [.v (.bool s),.sl xs.length (qg xs)]] [] (isA (.v (.bool (yP s xs)))):=by
 refine Con.of_aw Tryz.func105 rfl Tryz.ntmps105 (by simp) (by simp) (by simp) (W.sound ?_)
 show @W Tryz.prog 18 ⟨_⟩ ⟨fun x σ=>@q8 _ _ _ ⟨_⟩ _ ⟨_⟩ x σ⟩ _ _
 simp(disch:=omega)only[go_sem]
 refine qm (ad6 xs hl) ?_
 simp(disch:=omega)only[go_sem]
 refine QA (fun h1=>?_) (fun h1=>?_)
 ·simp(disch:=omega)only[go_sem,h1]
  cases s
  ·simp(disch:=omega)only[go_sem]
   refine qv (by simp(disch:=omega)only[go_sem]) (by simp(disch:=omega)only[go_sem]) ⟨?_,rfl,rfl⟩
   simp[zb,yP,h1]
  ·simp(disch:=omega)only[go_sem]
   refine qv (by simp(disch:=omega)only[go_sem]) (by simp(disch:=omega)only[go_sem]) ⟨?_,rfl,rfl⟩
   show AV.v (.bool _)=AV.v (.bool _)
   unfold yP
   rw[h1,Bool.true_and,Bool.true_and,←decide_not]
   congr 2
   rw[decide_eq_decide]
   omega
 ·simp(disch:=omega)only[go_sem,h1]
  refine qv (by simp(disch:=omega)only[go_sem]) (by simp(disch:=omega)only[go_sem]) ⟨?_,rfl,rfl⟩
  simp[zb,yP,h1]
theorem Yr(s:Bool)(xs:List Int)(e:Int)(hl:xs.length≤2^40):Con Tryz.prog 48 true [.ag [.v (.bool s),.sl xs.length (qg xs),.v (.int .i64 e)]] [] (isA (.v (.bool (dyB s xs e)))):=by
 refine Con.of_aw Tryz.func48 rfl Tryz.ntmps48 (by simp) (by simp) (by simp) (W.sound ?_)
 show @W Tryz.prog 31 ⟨_⟩ ⟨fun x σ=>@q8 _ _ _ ⟨_⟩ _ ⟨_⟩ x σ⟩ _ _
 simp(disch:=omega)only[go_sem]
 refine qm (Kp s xs hl) ?_
 simp(disch:=omega)only[go_sem]
 refine QA (fun hw=>?_) (fun hw=>?_)
 ·have h1:=hw
  simp only[yP,Bool.and_eq_true]at h1
  obtain⟨hx,hll⟩:=XN h1.1
  have hxs:xs=lim (vl xs).toNat:=hx
  generalize hm:(vl xs).toNat=m at*
  subst hx
  simp(disch:=omega)only[go_sem,hw]
  refine je (fun h2=>?_) (fun h2=>?_)
  ·simp(disch:=omega)only[go_sem,h2]
   refine qh (fun h3=>?_) (fun h3=>?_)
   ·simp(disch:=omega)only[go_sem,h3]
    refine qv (by simp(disch:=omega)only[go_sem]) (by simp(disch:=omega)only[go_sem]) ⟨?_,rfl,rfl⟩
    have a2:¬e≤3000:=by omega
    simp[zb,dyB,a2]
   ·simp(disch:=omega)only[go_sem,h3]
    refine qh (fun h4=>?_) (fun h4=>?_)
    ·simp(disch:=omega)only[go_sem,h4]
     have h0:m=0:=qJ.1 (List.length_eq_zero_iff.1 (by omega))
     refine qv (by simp(disch:=omega)only[go_sem]) (by simp(disch:=omega)only[go_sem]) ⟨?_,rfl,rfl⟩
     have a1: -3000≤e:=by omega
     have a2:e≤3000:=by omega
     have a3:(lim m).length=0:=by omega
     show AV.v (.bool _)=AV.v (.bool _)
     unfold dyB
     rw[hw,hm,decide_eq_true a1,decide_eq_true a2,decide_eq_true a3,h0]
     simp
    ·simp(disch:=omega)only[go_sem,h4]
     refine qm (Ze m 0 (by omega) (by omega) (by omega)) ?_
     simp(disch:=omega)only[go_sem]
     refine qv (by simp(disch:=omega)only[go_sem]) (by simp(disch:=omega)only[go_sem]) ⟨?_,rfl,rfl⟩
     have a1: -3000≤e:=by omega
     have a2:e≤3000:=by omega
     have a3:¬(lim m).length=0:=by omega
     show AV.v (.bool _)=AV.v (.bool _)
     unfold dyB
     rw[hw,hm,decide_eq_true a1,decide_eq_true a2,decide_eq_false a3]
     simp
     omega
  ·simp(disch:=omega)only[go_sem,h2]
   refine qv (by simp(disch:=omega)only[go_sem]) (by simp(disch:=omega)only[go_sem]) ⟨?_,rfl,rfl⟩
   have a1:¬ -3000≤e:=by omega
   simp[zb,dyB,a1]
 ·simp(disch:=omega)only[go_sem,hw]
  refine qv (by simp(disch:=omega)only[go_sem]) (by simp(disch:=omega)only[go_sem]) ⟨?_,rfl,rfl⟩
  simp[zb,dyB,hw]
end Go.Ab
