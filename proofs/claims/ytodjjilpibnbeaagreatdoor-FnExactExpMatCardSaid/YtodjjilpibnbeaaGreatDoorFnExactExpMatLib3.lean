/- What the proof of this claim stands on: the walks of the functions and the plain laws, part 3. -/
import Derived.Test.YtodjjilpibnbeaaGreatDoorFnExactExpMatLib2
import Derived.Test.YtodjjilpibnbeaaGreatDoorProg
import Derived.KernelRfl
import Derived.Shelf.Spec.TrailingZeros
import Derived.Shelf.Small.Bits
import Derived.Shelf.Strconv.Itoa0
import Derived.Carry
import Derived.ChangeSlices
set_option linter.unusedVariables false
set_option linter.unusedSimpArgs false
namespace Go.Ab
open Go Go.Proofs
def ti2:TI:=⟨Kd.int IntKind.i64,1,8,Value.int IntKind.i64 0⟩
theorem tf2:q6 Tryz.prog 2=some ti2:=by kernel_rfl
def ti3:TI:=⟨Kd.int IntKind.i64,1,8,Value.int IntKind.i64 0⟩
theorem tf3:q6 Tryz.prog 3=some ti3:=by kernel_rfl
def ti4:TI:=⟨Kd.bool,1,1,Value.bool false⟩
theorem tf4:q6 Tryz.prog 4=some ti4:=by kernel_rfl
def ti6:TI:=⟨Kd.int IntKind.u8,1,1,Value.int IntKind.u8 0⟩
theorem tf6:q6 Tryz.prog 6=some ti6:=by kernel_rfl
def aqa:TI:=⟨Kd.sli 44,1,24,Value.slice none 0 0⟩
theorem auF:q6 Tryz.prog 23=some aqa:=by kernel_rfl
def aoz:TI:=⟨Kd.stru [(0,3),(1,23)],2,32,Value.agg ⟨[Value.int IntKind.i64 0,Value.slice none 0 0]⟩⟩
theorem az2:q6 Tryz.prog 25=some aoz:=by kernel_rfl
def aub:TI:=⟨Kd.sli 137,1,24,Value.slice none 0 0⟩
theorem aAi:q6 Tryz.prog 34=some aub:=by kernel_rfl
def aua:TI:=⟨Kd.stru [(0,3),(1,34)],2,32,Value.agg ⟨[Value.int IntKind.i64 0,Value.slice none 0 0]⟩⟩
theorem aAh:q6 Tryz.prog 36=some aua:=by kernel_rfl
def afH:TI:=⟨Kd.sli 3,1,24,Value.slice none 0 0⟩
theorem akZ:q6 Tryz.prog 38=some afH:=by kernel_rfl
def akm:TI:=⟨Kd.stru [(0,38)],1,24,Value.agg ⟨[Value.slice none 0 0]⟩⟩
theorem auc:q6 Tryz.prog 40=some akm:=by kernel_rfl
def aga:TI:=⟨Kd.stru [(0,4),(1,40)],2,32,Value.agg ⟨[Value.bool false,Value.slice none 0 0]⟩⟩
theorem aqb:q6 Tryz.prog 42=some aga:=by kernel_rfl
def Kq:TI:=⟨Kd.stru [(0,42),(2,3)],3,40,Value.agg ⟨[Value.bool false,Value.slice none 0 0,Value.int IntKind.i64 0]⟩⟩
theorem agl:q6 Tryz.prog 44=some Kq:=by kernel_rfl
def apV:TI:=⟨Kd.sli 167,1,24,Value.slice none 0 0⟩
theorem auE:q6 Tryz.prog 51=some apV:=by kernel_rfl
def aoy:TI:=⟨Kd.stru [(0,3),(1,51)],2,32,Value.agg ⟨[Value.int IntKind.i64 0,Value.slice none 0 0]⟩⟩
theorem az1:q6 Tryz.prog 53=some aoy:=by kernel_rfl
def azY:TI:=⟨Kd.oth,1,8,Value.nilFunc⟩
theorem aCP:q6 Tryz.prog 83=some azY:=by kernel_rfl
def at9:TI:=⟨Kd.sli 97,1,24,Value.slice none 0 0⟩
theorem az0:q6 Tryz.prog 87=some at9:=by kernel_rfl
def aox:TI:=⟨Kd.stru [(0,3),(1,87)],2,32,Value.agg ⟨[Value.int IntKind.i64 0,Value.slice none 0 0]⟩⟩
theorem azZ:q6 Tryz.prog 89=some aox:=by kernel_rfl
def Km:TI:=⟨Kd.stru [(0,4),(1,38),(2,3)],3,40,Value.agg ⟨[Value.bool false,Value.slice none 0 0,Value.int IntKind.i64 0]⟩⟩
theorem afI:q6 Tryz.prog 97=some Km:=by kernel_rfl
def aeh:TI:=⟨Kd.sli 114,1,24,Value.slice none 0 0⟩
theorem ak3:q6 Tryz.prog 104=some aeh:=by kernel_rfl
def Ks:TI:=⟨Kd.stru [(0,3),(1,104)],2,32,Value.agg ⟨[Value.int IntKind.i64 0,Value.slice none 0 0]⟩⟩
theorem ak2:q6 Tryz.prog 106=some Ks:=by kernel_rfl
def J5:TI:=⟨Kd.stru [(0,97),(3,97)],6,80,Value.agg ⟨[Value.bool false,Value.slice none 0 0,Value.int IntKind.i64 0,Value.bool false,Value.slice none 0 0,Value.int IntKind.i64 0]⟩⟩
theorem agn:q6 Tryz.prog 114=some J5:=by kernel_rfl
def akQ:TI:=⟨Kd.oth,1,8,Value.nilFunc⟩
theorem aAk:q6 Tryz.prog 120=some akQ:=by kernel_rfl
def abj:TI:=⟨Kd.stru [(0,38)],1,24,Value.agg ⟨[Value.slice none 0 0]⟩⟩
theorem aqc:q6 Tryz.prog 133=some abj:=by kernel_rfl
def Kr:TI:=⟨Kd.stru [(0,4),(1,133)],2,32,Value.agg ⟨[Value.bool false,Value.slice none 0 0]⟩⟩
theorem ak1:q6 Tryz.prog 135=some Kr:=by kernel_rfl
def abi:TI:=⟨Kd.stru [(0,135),(2,3)],3,40,Value.agg ⟨[Value.bool false,Value.slice none 0 0,Value.int IntKind.i64 0]⟩⟩
theorem ak0:q6 Tryz.prog 137=some abi:=by kernel_rfl
def J4:TI:=⟨Kd.stru [(0,44),(3,44)],6,80,Value.agg ⟨[Value.bool false,Value.slice none 0 0,Value.int IntKind.i64 0,Value.bool false,Value.slice none 0 0,Value.int IntKind.i64 0]⟩⟩
theorem agm:q6 Tryz.prog 167=some J4:=by kernel_rfl
def ap8:TI:=⟨Kd.int IntKind.u64,1,8,Value.int IntKind.u64 0⟩
theorem aAj:q6 Tryz.prog 243=some ap8:=by kernel_rfl
theorem ty3{K:TI→Prop}:@tyW Tryz.prog 3 ⟨K⟩=K ti3:=jW tf3
theorem auD:ti3.kd=Kd.int IntKind.i64:=ID rfl
theorem akH:ti3.size=1:=ID rfl
theorem agc:ti3.bytes=8:=ID rfl
theorem auB:afQ ti3=True:=eq_true rfl
theorem auC:zc ti3=[.v (Value.int IntKind.i64 0)]:=ID rfl
theorem ty4{K:TI→Prop}:@tyW Tryz.prog 4 ⟨K⟩=K ti4:=jW tf4
theorem auA:ti4.kd=Kd.bool:=ID rfl
theorem akG:ti4.size=1:=ID rfl
theorem aDo:∀f∈([(0,2),(1,3),(2,4),(3,6)]:List (Nat×Nat)),(q6 Tryz.prog f.2).isSome=true:=by
 intro f hf
 simp only[List.mem_cons,List.not_mem_nil,or_false]at hf
 rcases hf with rfl|rfl|rfl|rfl
 ·rw[tf2];rfl
 ·rw[tf3];rfl
 ·rw[tf4];rfl
 ·rw[tf6];rfl
theorem aCO{K:TI→Prop}:@tyW Tryz.prog 23 ⟨K⟩=K aqa:=jW auF
theorem ap9:aqa.kd=Kd.sli 44:=ID rfl
theorem agi:aqa.size=1:=ID rfl
theorem aAv{K:TI→Prop}:@Ze Tryz.prog 23 ⟨K⟩=K Kq:=Xn auF rfl agl
theorem avw{K:Nat→Nat→Prop}:zd Tryz.prog [(0,3),(1,23)] 0 K=K 0 1:=zt (tf:=ti3) (fo:=(0,3)) (fs:=[(0,3),(1,23)]) rfl tf3
theorem avv{K:Nat→Nat→Prop}:zd Tryz.prog [(0,3),(1,23)] 1 K=K 1 1:=zt (tf:=aqa) (fo:=(1,23)) (fs:=[(0,3),(1,23)]) rfl auF
theorem aCN{K:TI→Prop}:@tyW Tryz.prog 25 ⟨K⟩=K aoz:=jW az2
theorem ap7:aoz.kd=Kd.stru [(0,3),(1,23)]:=ID rfl
theorem agh:aoz.size=2:=ID rfl
theorem ap6:zc aoz=[.v (Value.int IntKind.i64 0),.v (Value.slice none 0 0)]:=ID rfl
theorem asL{K:Nat→TI→Prop}:@zh Tryz.prog 25 0 ⟨K⟩=K 0 ti3:=qM (ti:=aoz) (tf:=ti3) (fo:=(0,3)) (fs:=[(0,3),(1,23)]) az2 rfl rfl tf3
theorem asK{K:Nat→TI→Prop}:@zh Tryz.prog 25 1 ⟨K⟩=K 1 aqa:=qM (ti:=aoz) (tf:=aqa) (fo:=(1,23)) (fs:=[(0,3),(1,23)]) az2 rfl rfl auF
theorem awA:∀f∈([(0,3),(1,23)]:List (Nat×Nat)),(q6 Tryz.prog f.2).isSome=true:=by
 intro f hf
 simp only[List.mem_cons,List.not_mem_nil,or_false]at hf
 rcases hf with rfl|rfl
 ·rw[tf3];rfl
 ·rw[auF];rfl
theorem aCb{ps:List (Nat×AV)}{K:AV→Prop}:@yS Tryz.prog 25 ps ⟨K⟩=@jF (zd Tryz.prog [(0,3),(1,23)]) (zc aoz) ps ⟨fun cs=>K (.ag cs)⟩:=jM az2 rfl awA
theorem aCM{K:TI→Prop}:@tyW Tryz.prog 34 ⟨K⟩=K aub:=jW aAi
theorem ap5:aub.kd=Kd.sli 137:=ID rfl
theorem agf:aub.size=1:=ID rfl
theorem aAu{K:TI→Prop}:@Ze Tryz.prog 34 ⟨K⟩=K abi:=Xn aAi rfl ak0
theorem aCL{K:TI→Prop}:@tyW Tryz.prog 36 ⟨K⟩=K aua:=jW aAh
theorem ap4:aua.kd=Kd.stru [(0,3),(1,34)]:=ID rfl
theorem age:aua.size=2:=ID rfl
theorem asJ{K:Nat→TI→Prop}:@zh Tryz.prog 36 0 ⟨K⟩=K 0 ti3:=qM (ti:=aua) (tf:=ti3) (fo:=(0,3)) (fs:=[(0,3),(1,34)]) aAh rfl rfl tf3
theorem asI{K:Nat→TI→Prop}:@zh Tryz.prog 36 1 ⟨K⟩=K 1 aub:=qM (ti:=aua) (tf:=aub) (fo:=(1,34)) (fs:=[(0,3),(1,34)]) aAh rfl rfl aAi
theorem aCK{K:TI→Prop}:@tyW Tryz.prog 38 ⟨K⟩=K afH:=jW akZ
theorem ap3:afH.kd=Kd.sli 3:=ID rfl
theorem agd:afH.size=1:=ID rfl
theorem aAt{K:TI→Prop}:@Ze Tryz.prog 38 ⟨K⟩=K ti3:=Xn akZ rfl tf3
theorem avu{K:Nat→Nat→Prop}:zd Tryz.prog [(0,38)] 0 K=K 0 1:=zt (tf:=afH) (fo:=(0,38)) (fs:=[(0,38)]) rfl akZ
theorem aCJ{K:TI→Prop}:@tyW Tryz.prog 40 ⟨K⟩=K akm:=jW auc
theorem ap2:akm.kd=Kd.stru [(0,38)]:=ID rfl
theorem agb:akm.size=1:=ID rfl
theorem ap1:zc akm=[.v (Value.slice none 0 0)]:=ID rfl
theorem asH{K:Nat→TI→Prop}:@zh Tryz.prog 40 0 ⟨K⟩=K 0 afH:=qM (ti:=akm) (tf:=afH) (fo:=(0,38)) (fs:=[(0,38)]) auc rfl rfl akZ
theorem awz:∀f∈([(0,38)]:List (Nat×Nat)),(q6 Tryz.prog f.2).isSome=true:=by
 intro f hf
 simp only[List.mem_cons,List.not_mem_nil,or_false]at hf
 subst hf;rw[akZ];rfl
theorem aCa{ps:List (Nat×AV)}{K:AV→Prop}:@yS Tryz.prog 40 ps ⟨K⟩=@jF (zd Tryz.prog [(0,38)]) (zc akm) ps ⟨fun cs=>K (.ag cs)⟩:=jM auc rfl awz
theorem avt{K:Nat→Nat→Prop}:zd Tryz.prog [(0,4),(1,40)] 0 K=K 0 1:=zt (tf:=ti4) (fo:=(0,4)) (fs:=[(0,4),(1,40)]) rfl tf4
theorem avs{K:Nat→Nat→Prop}:zd Tryz.prog [(0,4),(1,40)] 1 K=K 1 1:=zt (tf:=akm) (fo:=(1,40)) (fs:=[(0,4),(1,40)]) rfl auc
theorem aCI{K:TI→Prop}:@tyW Tryz.prog 42 ⟨K⟩=K aga:=jW aqb
theorem ap0:aga.kd=Kd.stru [(0,4),(1,40)]:=ID rfl
theorem af9:aga.size=2:=ID rfl
theorem apZ:zc aga=[.v (Value.bool false),.v (Value.slice none 0 0)]:=ID rfl
theorem asG{K:Nat→TI→Prop}:@zh Tryz.prog 42 0 ⟨K⟩=K 0 ti4:=qM (ti:=aga) (tf:=ti4) (fo:=(0,4)) (fs:=[(0,4),(1,40)]) aqb rfl rfl tf4
theorem asF{K:Nat→TI→Prop}:@zh Tryz.prog 42 1 ⟨K⟩=K 1 akm:=qM (ti:=aga) (tf:=akm) (fo:=(1,40)) (fs:=[(0,4),(1,40)]) aqb rfl rfl auc
theorem awy:∀f∈([(0,4),(1,40)]:List (Nat×Nat)),(q6 Tryz.prog f.2).isSome=true:=by
 intro f hf
 simp only[List.mem_cons,List.not_mem_nil,or_false]at hf
 rcases hf with rfl|rfl
 ·rw[tf4];rfl
 ·rw[auc];rfl
theorem aB9{ps:List (Nat×AV)}{K:AV→Prop}:@yS Tryz.prog 42 ps ⟨K⟩=@jF (zd Tryz.prog [(0,4),(1,40)]) (zc aga) ps ⟨fun cs=>K (.ag cs)⟩:=jM aqb rfl awy
theorem avr{K:Nat→Nat→Prop}:zd Tryz.prog [(0,42),(2,3)] 0 K=K 0 2:=zt (tf:=aga) (fo:=(0,42)) (fs:=[(0,42),(2,3)]) rfl aqb
theorem avq{K:Nat→Nat→Prop}:zd Tryz.prog [(0,42),(2,3)] 1 K=K 2 1:=zt (tf:=ti3) (fo:=(2,3)) (fs:=[(0,42),(2,3)]) rfl tf3
theorem aCH{K:TI→Prop}:@tyW Tryz.prog 44 ⟨K⟩=K Kq:=jW agl
theorem apY:Kq.kd=Kd.stru [(0,42),(2,3)]:=ID rfl
theorem af8:Kq.size=3:=ID rfl
theorem ad8:Kq.bytes=40:=ID rfl
theorem apW:afQ Kq=True:=eq_true rfl
theorem apX:zc Kq=[.v (Value.bool false),.v (Value.slice none 0 0),.v (Value.int IntKind.i64 0)]:=ID rfl
theorem asE{K:Nat→TI→Prop}:@zh Tryz.prog 44 0 ⟨K⟩=K 0 aga:=qM (ti:=Kq) (tf:=aga) (fo:=(0,42)) (fs:=[(0,42),(2,3)]) agl rfl rfl aqb
theorem asD{K:Nat→TI→Prop}:@zh Tryz.prog 44 1 ⟨K⟩=K 2 ti3:=qM (ti:=Kq) (tf:=ti3) (fo:=(2,3)) (fs:=[(0,42),(2,3)]) agl rfl rfl tf3
theorem awx:∀f∈([(0,42),(2,3)]:List (Nat×Nat)),(q6 Tryz.prog f.2).isSome=true:=by
 intro f hf
 simp only[List.mem_cons,List.not_mem_nil,or_false]at hf
 rcases hf with rfl|rfl
 ·rw[aqb];rfl
 ·rw[tf3];rfl
theorem aB8{ps:List (Nat×AV)}{K:AV→Prop}:@yS Tryz.prog 44 ps ⟨K⟩=@jF (zd Tryz.prog [(0,42),(2,3)]) (zc Kq) ps ⟨fun cs=>K (.ag cs)⟩:=jM agl rfl awx
theorem aCG{K:TI→Prop}:@tyW Tryz.prog 51 ⟨K⟩=K apV:=jW auE
theorem apU:apV.kd=Kd.sli 167:=ID rfl
theorem af7:apV.size=1:=ID rfl
theorem aAs{K:TI→Prop}:@Ze Tryz.prog 51 ⟨K⟩=K J4:=Xn auE rfl agm
theorem avp{K:Nat→Nat→Prop}:zd Tryz.prog [(0,3),(1,51)] 0 K=K 0 1:=zt (tf:=ti3) (fo:=(0,3)) (fs:=[(0,3),(1,51)]) rfl tf3
theorem avo{K:Nat→Nat→Prop}:zd Tryz.prog [(0,3),(1,51)] 1 K=K 1 1:=zt (tf:=apV) (fo:=(1,51)) (fs:=[(0,3),(1,51)]) rfl auE
theorem aCF{K:TI→Prop}:@tyW Tryz.prog 53 ⟨K⟩=K aoy:=jW az1
theorem apT:aoy.kd=Kd.stru [(0,3),(1,51)]:=ID rfl
theorem af6:aoy.size=2:=ID rfl
theorem apS:zc aoy=[.v (Value.int IntKind.i64 0),.v (Value.slice none 0 0)]:=ID rfl
theorem asC{K:Nat→TI→Prop}:@zh Tryz.prog 53 0 ⟨K⟩=K 0 ti3:=qM (ti:=aoy) (tf:=ti3) (fo:=(0,3)) (fs:=[(0,3),(1,51)]) az1 rfl rfl tf3
theorem asB{K:Nat→TI→Prop}:@zh Tryz.prog 53 1 ⟨K⟩=K 1 apV:=qM (ti:=aoy) (tf:=apV) (fo:=(1,51)) (fs:=[(0,3),(1,51)]) az1 rfl rfl auE
theorem aww:∀f∈([(0,3),(1,51)]:List (Nat×Nat)),(q6 Tryz.prog f.2).isSome=true:=by
 intro f hf
 simp only[List.mem_cons,List.not_mem_nil,or_false]at hf
 rcases hf with rfl|rfl
 ·rw[tf3];rfl
 ·rw[auE];rfl
theorem aB7{ps:List (Nat×AV)}{K:AV→Prop}:@yS Tryz.prog 53 ps ⟨K⟩=@jF (zd Tryz.prog [(0,3),(1,51)]) (zc aoy) ps ⟨fun cs=>K (.ag cs)⟩:=jM az1 rfl aww
theorem aCE{K:TI→Prop}:@tyW Tryz.prog 83 ⟨K⟩=K azY:=jW aCP
theorem apR:azY.kd=Kd.oth:=ID rfl
theorem af5:azY.size=1:=ID rfl
theorem aCD{K:TI→Prop}:@tyW Tryz.prog 87 ⟨K⟩=K at9:=jW az0
theorem apQ:at9.kd=Kd.sli 97:=ID rfl
theorem af4:at9.size=1:=ID rfl
theorem aAr{K:TI→Prop}:@Ze Tryz.prog 87 ⟨K⟩=K Km:=Xn az0 rfl afI
theorem avn{K:Nat→Nat→Prop}:zd Tryz.prog [(0,3),(1,87)] 0 K=K 0 1:=zt (tf:=ti3) (fo:=(0,3)) (fs:=[(0,3),(1,87)]) rfl tf3
theorem aCC{K:TI→Prop}:@tyW Tryz.prog 89 ⟨K⟩=K aox:=jW azZ
theorem apP:aox.kd=Kd.stru [(0,3),(1,87)]:=ID rfl
theorem af3:aox.size=2:=ID rfl
theorem apO:zc aox=[.v (Value.int IntKind.i64 0),.v (Value.slice none 0 0)]:=ID rfl
theorem asA{K:Nat→TI→Prop}:@zh Tryz.prog 89 0 ⟨K⟩=K 0 ti3:=qM (ti:=aox) (tf:=ti3) (fo:=(0,3)) (fs:=[(0,3),(1,87)]) azZ rfl rfl tf3
theorem asz{K:Nat→TI→Prop}:@zh Tryz.prog 89 1 ⟨K⟩=K 1 at9:=qM (ti:=aox) (tf:=at9) (fo:=(1,87)) (fs:=[(0,3),(1,87)]) azZ rfl rfl az0
theorem awv:∀f∈([(0,3),(1,87)]:List (Nat×Nat)),(q6 Tryz.prog f.2).isSome=true:=by
 intro f hf
 simp only[List.mem_cons,List.not_mem_nil,or_false]at hf
 rcases hf with rfl|rfl
 ·rw[tf3];rfl
 ·rw[az0];rfl
theorem aB6{ps:List (Nat×AV)}{K:AV→Prop}:@yS Tryz.prog 89 ps ⟨K⟩=@jF (zd Tryz.prog [(0,3),(1,87)]) (zc aox) ps ⟨fun cs=>K (.ag cs)⟩:=jM azZ rfl awv
theorem avm{K:Nat→Nat→Prop}:zd Tryz.prog [(0,4),(1,38),(2,3)] 0 K=K 0 1:=zt (tf:=ti4) (fo:=(0,4)) (fs:=[(0,4),(1,38),(2,3)]) rfl tf4
theorem avl{K:Nat→Nat→Prop}:zd Tryz.prog [(0,4),(1,38),(2,3)] 1 K=K 1 1:=zt (tf:=afH) (fo:=(1,38)) (fs:=[(0,4),(1,38),(2,3)]) rfl akZ
theorem avk{K:Nat→Nat→Prop}:zd Tryz.prog [(0,4),(1,38),(2,3)] 2 K=K 2 1:=zt (tf:=ti3) (fo:=(2,3)) (fs:=[(0,4),(1,38),(2,3)]) rfl tf3
theorem aCB{K:TI→Prop}:@tyW Tryz.prog 97 ⟨K⟩=K Km:=jW afI
theorem apN:Km.kd=Kd.stru [(0,4),(1,38),(2,3)]:=ID rfl
theorem af2:Km.size=3:=ID rfl
theorem ad7:Km.bytes=40:=ID rfl
theorem apL:afQ Km=True:=eq_true rfl
theorem apM:zc Km=[.v (Value.bool false),.v (Value.slice none 0 0),.v (Value.int IntKind.i64 0)]:=ID rfl
theorem asy{K:Nat→TI→Prop}:@zh Tryz.prog 97 0 ⟨K⟩=K 0 ti4:=qM (ti:=Km) (tf:=ti4) (fo:=(0,4)) (fs:=[(0,4),(1,38),(2,3)]) afI rfl rfl tf4
theorem asx{K:Nat→TI→Prop}:@zh Tryz.prog 97 1 ⟨K⟩=K 1 afH:=qM (ti:=Km) (tf:=afH) (fo:=(1,38)) (fs:=[(0,4),(1,38),(2,3)]) afI rfl rfl akZ
theorem asw{K:Nat→TI→Prop}:@zh Tryz.prog 97 2 ⟨K⟩=K 2 ti3:=qM (ti:=Km) (tf:=ti3) (fo:=(2,3)) (fs:=[(0,4),(1,38),(2,3)]) afI rfl rfl tf3
theorem awu:∀f∈([(0,4),(1,38),(2,3)]:List (Nat×Nat)),(q6 Tryz.prog f.2).isSome=true:=by
 intro f hf
 simp only[List.mem_cons,List.not_mem_nil,or_false]at hf
 rcases hf with rfl|rfl|rfl
 ·rw[tf4];rfl
 ·rw[akZ];rfl
 ·rw[tf3];rfl
theorem aB5{ps:List (Nat×AV)}{K:AV→Prop}:@yS Tryz.prog 97 ps ⟨K⟩=@jF (zd Tryz.prog [(0,4),(1,38),(2,3)]) (zc Km) ps ⟨fun cs=>K (.ag cs)⟩:=jM afI rfl awu
theorem aAf{K:TI→Prop}:@tyW Tryz.prog 104 ⟨K⟩=K aeh:=jW ak3
theorem akW:aeh.kd=Kd.sli 114:=ID rfl
theorem aeg:aeh.size=1:=ID rfl
theorem auV{K:TI→Prop}:@Ze Tryz.prog 104 ⟨K⟩=K J5:=Xn ak3 rfl agn
theorem aqZ{K:Nat→Nat→Prop}:zd Tryz.prog [(0,3),(1,104)] 0 K=K 0 1:=zt (tf:=ti3) (fo:=(0,3)) (fs:=[(0,3),(1,104)]) rfl tf3
theorem aAe{K:TI→Prop}:@tyW Tryz.prog 106 ⟨K⟩=K Ks:=jW ak2
theorem akV:Ks.kd=Kd.stru [(0,3),(1,104)]:=ID rfl
theorem aef:Ks.size=2:=ID rfl
theorem akU:zc Ks=[.v (Value.int IntKind.i64 0),.v (Value.slice none 0 0)]:=ID rfl
theorem anf{K:Nat→TI→Prop}:@zh Tryz.prog 106 0 ⟨K⟩=K 0 ti3:=qM (ti:=Ks) (tf:=ti3) (fo:=(0,3)) (fs:=[(0,3),(1,104)]) ak2 rfl rfl tf3
theorem ane{K:Nat→TI→Prop}:@zh Tryz.prog 106 1 ⟨K⟩=K 1 aeh:=qM (ti:=Ks) (tf:=aeh) (fo:=(1,104)) (fs:=[(0,3),(1,104)]) ak2 rfl rfl ak3
theorem asq:∀f∈([(0,3),(1,104)]:List (Nat×Nat)),(q6 Tryz.prog f.2).isSome=true:=by
 intro f hf
 simp only[List.mem_cons,List.not_mem_nil,or_false]at hf
 rcases hf with rfl|rfl
 ·rw[tf3];rfl
 ·rw[ak3];rfl
theorem azx{ps:List (Nat×AV)}{K:AV→Prop}:@yS Tryz.prog 106 ps ⟨K⟩=@jF (zd Tryz.prog [(0,3),(1,104)]) (zc Ks) ps ⟨fun cs=>K (.ag cs)⟩:=jM ak2 rfl asq
theorem aqY{K:Nat→Nat→Prop}:zd Tryz.prog [(0,97),(3,97)] 0 K=K 0 3:=zt (tf:=Km) (fo:=(0,97)) (fs:=[(0,97),(3,97)]) rfl afI
theorem aqX{K:Nat→Nat→Prop}:zd Tryz.prog [(0,97),(3,97)] 1 K=K 3 3:=zt (tf:=Km) (fo:=(3,97)) (fs:=[(0,97),(3,97)]) rfl afI
theorem aAd{K:TI→Prop}:@tyW Tryz.prog 114 ⟨K⟩=K J5:=jW agn
theorem akT:J5.kd=Kd.stru [(0,97),(3,97)]:=ID rfl
theorem aee:J5.size=6:=ID rfl
theorem abk:J5.bytes=80:=ID rfl
theorem akR:afQ J5=True:=eq_true rfl
theorem akS:zc J5=[.v (Value.bool false),.v (Value.slice none 0 0),.v (Value.int IntKind.i64 0),.v (Value.bool false),.v (Value.slice none 0 0),.v (Value.int IntKind.i64 0)]:=ID rfl
theorem anc{K:Nat→TI→Prop}:@zh Tryz.prog 114 0 ⟨K⟩=K 0 Km:=qM (ti:=J5) (tf:=Km) (fo:=(0,97)) (fs:=[(0,97),(3,97)]) agn rfl rfl afI
theorem anb{K:Nat→TI→Prop}:@zh Tryz.prog 114 1 ⟨K⟩=K 3 Km:=qM (ti:=J5) (tf:=Km) (fo:=(3,97)) (fs:=[(0,97),(3,97)]) agn rfl rfl afI
theorem asp:∀f∈([(0,97),(3,97)]:List (Nat×Nat)),(q6 Tryz.prog f.2).isSome=true:=by
 intro f hf
 simp only[List.mem_cons,List.not_mem_nil,or_false]at hf
 rcases hf with rfl|rfl
 ·rw[afI];rfl
 ·rw[afI];rfl
theorem azw{ps:List (Nat×AV)}{K:AV→Prop}:@yS Tryz.prog 114 ps ⟨K⟩=@jF (zd Tryz.prog [(0,97),(3,97)]) (zc J5) ps ⟨fun cs=>K (.ag cs)⟩:=jM agn rfl asp
theorem aAc{K:TI→Prop}:@tyW Tryz.prog 120 ⟨K⟩=K akQ:=jW aAk
theorem akP:akQ.kd=Kd.oth:=ID rfl
theorem aed:akQ.size=1:=ID rfl
theorem aAb{K:TI→Prop}:@tyW Tryz.prog 133 ⟨K⟩=K abj:=jW aqc
theorem akO:abj.kd=Kd.stru [(0,38)]:=ID rfl
theorem aec:abj.size=1:=ID rfl
theorem ana{K:Nat→TI→Prop}:@zh Tryz.prog 133 0 ⟨K⟩=K 0 afH:=qM (ti:=abj) (tf:=afH) (fo:=(0,38)) (fs:=[(0,38)]) aqc rfl rfl akZ
theorem aAa{K:TI→Prop}:@tyW Tryz.prog 135 ⟨K⟩=K Kr:=jW ak1
theorem akN:Kr.kd=Kd.stru [(0,4),(1,133)]:=ID rfl
theorem aeb:Kr.size=2:=ID rfl
theorem am9{K:Nat→TI→Prop}:@zh Tryz.prog 135 0 ⟨K⟩=K 0 ti4:=qM (ti:=Kr) (tf:=ti4) (fo:=(0,4)) (fs:=[(0,4),(1,133)]) ak1 rfl rfl tf4
theorem am8{K:Nat→TI→Prop}:@zh Tryz.prog 135 1 ⟨K⟩=K 1 abj:=qM (ti:=Kr) (tf:=abj) (fo:=(1,133)) (fs:=[(0,4),(1,133)]) ak1 rfl rfl aqc
theorem az9{K:TI→Prop}:@tyW Tryz.prog 137 ⟨K⟩=K abi:=jW ak0
theorem akM:abi.kd=Kd.stru [(0,135),(2,3)]:=ID rfl
theorem aea:abi.size=3:=ID rfl
theorem am7{K:Nat→TI→Prop}:@zh Tryz.prog 137 0 ⟨K⟩=K 0 Kr:=qM (ti:=abi) (tf:=Kr) (fo:=(0,135)) (fs:=[(0,135),(2,3)]) ak0 rfl rfl ak1
theorem am6{K:Nat→TI→Prop}:@zh Tryz.prog 137 1 ⟨K⟩=K 2 ti3:=qM (ti:=abi) (tf:=ti3) (fo:=(2,3)) (fs:=[(0,135),(2,3)]) ak0 rfl rfl tf3
theorem aqW{K:Nat→Nat→Prop}:zd Tryz.prog [(0,44),(3,44)] 0 K=K 0 3:=zt (tf:=Kq) (fo:=(0,44)) (fs:=[(0,44),(3,44)]) rfl agl
theorem aqV{K:Nat→Nat→Prop}:zd Tryz.prog [(0,44),(3,44)] 1 K=K 3 3:=zt (tf:=Kq) (fo:=(3,44)) (fs:=[(0,44),(3,44)]) rfl agl
theorem az8{K:TI→Prop}:@tyW Tryz.prog 167 ⟨K⟩=K J4:=jW agm
theorem akL:J4.kd=Kd.stru [(0,44),(3,44)]:=ID rfl
theorem ad9:J4.size=6:=ID rfl
theorem abh:J4.bytes=80:=ID rfl
theorem akJ:afQ J4=True:=eq_true rfl
theorem akK:zc J4=[.v (Value.bool false),.v (Value.slice none 0 0),.v (Value.int IntKind.i64 0),.v (Value.bool false),.v (Value.slice none 0 0),.v (Value.int IntKind.i64 0)]:=ID rfl
theorem am5{K:Nat→TI→Prop}:@zh Tryz.prog 167 0 ⟨K⟩=K 0 Kq:=qM (ti:=J4) (tf:=Kq) (fo:=(0,44)) (fs:=[(0,44),(3,44)]) agm rfl rfl agl
theorem am4{K:Nat→TI→Prop}:@zh Tryz.prog 167 1 ⟨K⟩=K 3 Kq:=qM (ti:=J4) (tf:=Kq) (fo:=(3,44)) (fs:=[(0,44),(3,44)]) agm rfl rfl agl
theorem aso:∀f∈([(0,44),(3,44)]:List (Nat×Nat)),(q6 Tryz.prog f.2).isSome=true:=by
 intro f hf
 simp only[List.mem_cons,List.not_mem_nil,or_false]at hf
 rcases hf with rfl|rfl
 ·rw[agl];rfl
 ·rw[agl];rfl
theorem azv{ps:List (Nat×AV)}{K:AV→Prop}:@yS Tryz.prog 167 ps ⟨K⟩=@jF (zd Tryz.prog [(0,44),(3,44)]) (zc J4) ps ⟨fun cs=>K (.ag cs)⟩:=jM agm rfl aso
theorem az7{K:TI→Prop}:@tyW Tryz.prog 243 ⟨K⟩=K ap8:=jW aAj
theorem akI:ap8.kd=Kd.int IntKind.u64:=ID rfl
theorem aBR:qz Tryz.prog 10=True:=eq_true ⟨_,Tryz.func10,of_decide_eq_false (by kernel_rfl),rfl⟩
theorem aBQ:qz Tryz.prog 13=True:=eq_true ⟨_,Tryz.func13,of_decide_eq_false (by kernel_rfl),rfl⟩
theorem aBP:qz Tryz.prog 14=True:=eq_true ⟨_,Tryz.func14,of_decide_eq_false (by kernel_rfl),rfl⟩
theorem aBO:qz Tryz.prog 15=True:=eq_true ⟨_,Tryz.func15,of_decide_eq_false (by kernel_rfl),rfl⟩
theorem aBN:qz Tryz.prog 17=True:=eq_true ⟨_,Tryz.func17,of_decide_eq_false (by kernel_rfl),rfl⟩
theorem aBM:qz Tryz.prog 19=True:=eq_true ⟨_,Tryz.func19,of_decide_eq_false (by kernel_rfl),rfl⟩
theorem aBL:qz Tryz.prog 20=True:=eq_true ⟨_,Tryz.func20,of_decide_eq_false (by kernel_rfl),rfl⟩
theorem aBK:qz Tryz.prog 21=True:=eq_true ⟨_,Tryz.func21,of_decide_eq_false (by kernel_rfl),rfl⟩
theorem aBJ:qz Tryz.prog 22=True:=eq_true ⟨_,Tryz.func22,of_decide_eq_false (by kernel_rfl),rfl⟩
theorem aBI:qz Tryz.prog 27=True:=eq_true ⟨_,Tryz.func27,of_decide_eq_false (by kernel_rfl),rfl⟩
theorem aBH:qz Tryz.prog 28=True:=eq_true ⟨_,Tryz.func28,of_decide_eq_false (by kernel_rfl),rfl⟩
theorem aBG:qz Tryz.prog 32=True:=eq_true ⟨_,Tryz.func32,of_decide_eq_false (by kernel_rfl),rfl⟩
theorem aBF:qz Tryz.prog 36=True:=eq_true ⟨_,Tryz.func36,of_decide_eq_false (by kernel_rfl),rfl⟩
theorem aBE:qz Tryz.prog 37=True:=eq_true ⟨_,Tryz.func37,of_decide_eq_false (by kernel_rfl),rfl⟩
theorem aBD:qz Tryz.prog 38=True:=eq_true ⟨_,Tryz.func38,of_decide_eq_false (by kernel_rfl),rfl⟩
theorem aBC:qz Tryz.prog 39=True:=eq_true ⟨_,Tryz.func39,of_decide_eq_false (by kernel_rfl),rfl⟩
theorem aBB:qz Tryz.prog 40=True:=eq_true ⟨_,Tryz.func40,of_decide_eq_false (by kernel_rfl),rfl⟩
theorem aBA:qz Tryz.prog 41=True:=eq_true ⟨_,Tryz.func41,of_decide_eq_false (by kernel_rfl),rfl⟩
theorem aBz:qz Tryz.prog 42=True:=eq_true ⟨_,Tryz.func42,of_decide_eq_false (by kernel_rfl),rfl⟩
theorem aBy:qz Tryz.prog 44=True:=eq_true ⟨_,Tryz.func44,of_decide_eq_false (by kernel_rfl),rfl⟩
theorem aBx:qz Tryz.prog 48=True:=eq_true ⟨_,Tryz.func48,of_decide_eq_false (by kernel_rfl),rfl⟩
theorem aBw:qz Tryz.prog 49=True:=eq_true ⟨_,Tryz.func49,of_decide_eq_false (by kernel_rfl),rfl⟩
theorem aBv:qz Tryz.prog 50=True:=eq_true ⟨_,Tryz.func50,of_decide_eq_false (by kernel_rfl),rfl⟩
theorem aBu:qz Tryz.prog 51=True:=eq_true ⟨_,Tryz.func51,of_decide_eq_false (by kernel_rfl),rfl⟩
theorem aBt:qz Tryz.prog 52=True:=eq_true ⟨_,Tryz.func52,of_decide_eq_false (by kernel_rfl),rfl⟩
theorem aBs:qz Tryz.prog 53=True:=eq_true ⟨_,Tryz.func53,of_decide_eq_false (by kernel_rfl),rfl⟩
theorem aBr:qz Tryz.prog 54=True:=eq_true ⟨_,Tryz.func54,of_decide_eq_false (by kernel_rfl),rfl⟩
theorem aBq:qz Tryz.prog 55=True:=eq_true ⟨_,Tryz.func55,of_decide_eq_false (by kernel_rfl),rfl⟩
theorem aBp:qz Tryz.prog 57=True:=eq_true ⟨_,Tryz.func57,of_decide_eq_false (by kernel_rfl),rfl⟩
theorem aBo:qz Tryz.prog 59=True:=eq_true ⟨_,Tryz.func59,of_decide_eq_false (by kernel_rfl),rfl⟩
theorem aBn:qz Tryz.prog 60=True:=eq_true ⟨_,Tryz.func60,of_decide_eq_false (by kernel_rfl),rfl⟩
theorem aBm:qz Tryz.prog 61=True:=eq_true ⟨_,Tryz.func61,of_decide_eq_false (by kernel_rfl),rfl⟩
theorem aBl:qz Tryz.prog 62=True:=eq_true ⟨_,Tryz.func62,of_decide_eq_false (by kernel_rfl),rfl⟩
theorem aBk:qz Tryz.prog 63=True:=eq_true ⟨_,Tryz.func63,of_decide_eq_false (by kernel_rfl),rfl⟩
theorem aBj:qz Tryz.prog 64=True:=eq_true ⟨_,Tryz.func64,of_decide_eq_false (by kernel_rfl),rfl⟩
theorem aBi:qz Tryz.prog 65=True:=eq_true ⟨_,Tryz.func65,of_decide_eq_false (by kernel_rfl),rfl⟩
theorem aBh:qz Tryz.prog 66=True:=eq_true ⟨_,Tryz.func66,of_decide_eq_false (by kernel_rfl),rfl⟩
theorem aBg:qz Tryz.prog 70=True:=eq_true ⟨_,Tryz.func70,of_decide_eq_false (by kernel_rfl),rfl⟩
theorem aBf:qz Tryz.prog 71=True:=eq_true ⟨_,Tryz.func71,of_decide_eq_false (by kernel_rfl),rfl⟩
theorem aBe:qz Tryz.prog 72=True:=eq_true ⟨_,Tryz.func72,of_decide_eq_false (by kernel_rfl),rfl⟩
theorem aBd:qz Tryz.prog 73=True:=eq_true ⟨_,Tryz.func73,of_decide_eq_false (by kernel_rfl),rfl⟩
theorem aBc:qz Tryz.prog 74=True:=eq_true ⟨_,Tryz.func74,of_decide_eq_false (by kernel_rfl),rfl⟩
theorem aBb:qz Tryz.prog 75=True:=eq_true ⟨_,Tryz.func75,of_decide_eq_false (by kernel_rfl),rfl⟩
theorem aBa:qz Tryz.prog 76=True:=eq_true ⟨_,Tryz.func76,of_decide_eq_false (by kernel_rfl),rfl⟩
theorem aA9:qz Tryz.prog 88=True:=eq_true ⟨_,Tryz.func88,of_decide_eq_false (by kernel_rfl),rfl⟩
theorem aA8:qz Tryz.prog 89=True:=eq_true ⟨_,Tryz.func89,of_decide_eq_false (by kernel_rfl),rfl⟩
theorem aA7:qz Tryz.prog 90=True:=eq_true ⟨_,Tryz.func90,of_decide_eq_false (by kernel_rfl),rfl⟩
theorem aA6:qz Tryz.prog 91=True:=eq_true ⟨_,Tryz.func91,of_decide_eq_false (by kernel_rfl),rfl⟩
theorem aA5:qz Tryz.prog 92=True:=eq_true ⟨_,Tryz.func92,of_decide_eq_false (by kernel_rfl),rfl⟩
theorem aA4:qz Tryz.prog 93=True:=eq_true ⟨_,Tryz.func93,of_decide_eq_false (by kernel_rfl),rfl⟩
theorem aA3:qz Tryz.prog 94=True:=eq_true ⟨_,Tryz.func94,of_decide_eq_false (by kernel_rfl),rfl⟩
theorem aA2:qz Tryz.prog 95=True:=eq_true ⟨_,Tryz.func95,of_decide_eq_false (by kernel_rfl),rfl⟩
theorem aA1:qz Tryz.prog 96=True:=eq_true ⟨_,Tryz.func96,of_decide_eq_false (by kernel_rfl),rfl⟩
theorem aA0:qz Tryz.prog 97=True:=eq_true ⟨_,Tryz.func97,of_decide_eq_false (by kernel_rfl),rfl⟩
theorem ayY:qz Tryz.prog 100=True:=eq_true ⟨_,Tryz.func100,of_decide_eq_false (by kernel_rfl),rfl⟩
theorem ayX:qz Tryz.prog 102=True:=eq_true ⟨_,Tryz.func102,of_decide_eq_false (by kernel_rfl),rfl⟩
theorem ayW:qz Tryz.prog 103=True:=eq_true ⟨_,Tryz.func103,of_decide_eq_false (by kernel_rfl),rfl⟩
theorem ayV:qz Tryz.prog 104=True:=eq_true ⟨_,Tryz.func104,of_decide_eq_false (by kernel_rfl),rfl⟩
theorem ayU:qz Tryz.prog 105=True:=eq_true ⟨_,Tryz.func105,of_decide_eq_false (by kernel_rfl),rfl⟩
theorem ayT:qz Tryz.prog 106=True:=eq_true ⟨_,Tryz.func106,of_decide_eq_false (by kernel_rfl),rfl⟩
theorem ayS:qz Tryz.prog 107=True:=eq_true ⟨_,Tryz.func107,of_decide_eq_false (by kernel_rfl),rfl⟩
theorem ayR:qz Tryz.prog 108=True:=eq_true ⟨_,Tryz.func108,of_decide_eq_false (by kernel_rfl),rfl⟩
theorem ayQ:qz Tryz.prog 109=True:=eq_true ⟨_,Tryz.func109,of_decide_eq_false (by kernel_rfl),rfl⟩
theorem ayP:qz Tryz.prog 110=True:=eq_true ⟨_,Tryz.func110,of_decide_eq_false (by kernel_rfl),rfl⟩
theorem ayO:qz Tryz.prog 111=True:=eq_true ⟨_,Tryz.func111,of_decide_eq_false (by kernel_rfl),rfl⟩
theorem ayN:qz Tryz.prog 112=True:=eq_true ⟨_,Tryz.func112,of_decide_eq_false (by kernel_rfl),rfl⟩
theorem ayM:qz Tryz.prog 113=True:=eq_true ⟨_,Tryz.func113,of_decide_eq_false (by kernel_rfl),rfl⟩
theorem ayL:qz Tryz.prog 114=True:=eq_true ⟨_,Tryz.func114,of_decide_eq_false (by kernel_rfl),rfl⟩
theorem ayK:qz Tryz.prog 115=True:=eq_true ⟨_,Tryz.func115,of_decide_eq_false (by kernel_rfl),rfl⟩
theorem ayJ:qz Tryz.prog 116=True:=eq_true ⟨_,Tryz.func116,of_decide_eq_false (by kernel_rfl),rfl⟩
theorem ayI:qz Tryz.prog 117=True:=eq_true ⟨_,Tryz.func117,of_decide_eq_false (by kernel_rfl),rfl⟩
theorem ayH:qz Tryz.prog 118=True:=eq_true ⟨_,Tryz.func118,of_decide_eq_false (by kernel_rfl),rfl⟩
theorem ayG:qz Tryz.prog 120=True:=eq_true ⟨_,Tryz.func120,of_decide_eq_false (by kernel_rfl),rfl⟩
theorem ayF:qz Tryz.prog 122=True:=eq_true ⟨_,Tryz.func122,of_decide_eq_false (by kernel_rfl),rfl⟩
theorem ayE:qz Tryz.prog 123=True:=eq_true ⟨_,Tryz.func123,of_decide_eq_false (by kernel_rfl),rfl⟩
theorem ayD:qz Tryz.prog 126=True:=eq_true ⟨_,Tryz.func126,of_decide_eq_false (by kernel_rfl),rfl⟩
theorem ayC:qz Tryz.prog 127=True:=eq_true ⟨_,Tryz.func127,of_decide_eq_false (by kernel_rfl),rfl⟩
theorem ayB:qz Tryz.prog 128=True:=eq_true ⟨_,Tryz.func128,of_decide_eq_false (by kernel_rfl),rfl⟩
theorem ayA:qz Tryz.prog 129=True:=eq_true ⟨_,Tryz.func129,of_decide_eq_false (by kernel_rfl),rfl⟩
theorem ayz:qz Tryz.prog 130=True:=eq_true ⟨_,Tryz.func130,of_decide_eq_false (by kernel_rfl),rfl⟩
theorem ayy:qz Tryz.prog 131=True:=eq_true ⟨_,Tryz.func131,of_decide_eq_false (by kernel_rfl),rfl⟩
theorem ayx:qz Tryz.prog 132=True:=eq_true ⟨_,Tryz.func132,of_decide_eq_false (by kernel_rfl),rfl⟩
theorem ayw:qz Tryz.prog 133=True:=eq_true ⟨_,Tryz.func133,of_decide_eq_false (by kernel_rfl),rfl⟩
theorem ayv:qz Tryz.prog 134=True:=eq_true ⟨_,Tryz.func134,of_decide_eq_false (by kernel_rfl),rfl⟩
theorem ayu:qz Tryz.prog 135=True:=eq_true ⟨_,Tryz.func135,of_decide_eq_false (by kernel_rfl),rfl⟩
theorem ayt:qz Tryz.prog 136=True:=eq_true ⟨_,Tryz.func136,of_decide_eq_false (by kernel_rfl),rfl⟩
theorem ays:qz Tryz.prog 137=True:=eq_true ⟨_,Tryz.func137,of_decide_eq_false (by kernel_rfl),rfl⟩
theorem ayr:qz Tryz.prog 138=True:=eq_true ⟨_,Tryz.func138,of_decide_eq_false (by kernel_rfl),rfl⟩
theorem ayq:qz Tryz.prog 139=True:=eq_true ⟨_,Tryz.func139,of_decide_eq_false (by kernel_rfl),rfl⟩
theorem ayp:qz Tryz.prog 140=True:=eq_true ⟨_,Tryz.func140,of_decide_eq_false (by kernel_rfl),rfl⟩
theorem ayo:qz Tryz.prog 141=True:=eq_true ⟨_,Tryz.func141,of_decide_eq_false (by kernel_rfl),rfl⟩
theorem ayn:qz Tryz.prog 142=True:=eq_true ⟨_,Tryz.func142,of_decide_eq_false (by kernel_rfl),rfl⟩
theorem aym:qz Tryz.prog 143=True:=eq_true ⟨_,Tryz.func143,of_decide_eq_false (by kernel_rfl),rfl⟩
theorem ayl:qz Tryz.prog 144=True:=eq_true ⟨_,Tryz.func144,of_decide_eq_false (by kernel_rfl),rfl⟩
theorem ayk:qz Tryz.prog 145=True:=eq_true ⟨_,Tryz.func145,of_decide_eq_false (by kernel_rfl),rfl⟩
theorem ayj:qz Tryz.prog 146=True:=eq_true ⟨_,Tryz.func146,of_decide_eq_false (by kernel_rfl),rfl⟩
theorem ayi:qz Tryz.prog 147=True:=eq_true ⟨_,Tryz.func147,of_decide_eq_false (by kernel_rfl),rfl⟩
theorem ayh:qz Tryz.prog 148=True:=eq_true ⟨_,Tryz.func148,of_decide_eq_false (by kernel_rfl),rfl⟩
theorem ayg:qz Tryz.prog 149=True:=eq_true ⟨_,Tryz.func149,of_decide_eq_false (by kernel_rfl),rfl⟩
theorem ayf:qz Tryz.prog 151=True:=eq_true ⟨_,Tryz.func151,of_decide_eq_false (by kernel_rfl),rfl⟩
theorem aye:qz Tryz.prog 152=True:=eq_true ⟨_,Tryz.func152,of_decide_eq_false (by kernel_rfl),rfl⟩
theorem ayd:qz Tryz.prog 153=True:=eq_true ⟨_,Tryz.func153,of_decide_eq_false (by kernel_rfl),rfl⟩
theorem ayc:qz Tryz.prog 154=True:=eq_true ⟨_,Tryz.func154,of_decide_eq_false (by kernel_rfl),rfl⟩
theorem ayb:qz Tryz.prog 155=True:=eq_true ⟨_,Tryz.func155,of_decide_eq_false (by kernel_rfl),rfl⟩
theorem aya:qz Tryz.prog 174=True:=eq_true ⟨_,Tryz.func174,of_decide_eq_false (by kernel_rfl),rfl⟩
theorem ax9:qz Tryz.prog 175=True:=eq_true ⟨_,Tryz.func175,of_decide_eq_false (by kernel_rfl),rfl⟩
theorem ax8:qz Tryz.prog 176=True:=eq_true ⟨_,Tryz.func176,of_decide_eq_false (by kernel_rfl),rfl⟩
theorem ax7:qz Tryz.prog 177=True:=eq_true ⟨_,Tryz.func177,of_decide_eq_false (by kernel_rfl),rfl⟩
theorem ax6:qz Tryz.prog 178=True:=eq_true ⟨_,Tryz.func178,of_decide_eq_false (by kernel_rfl),rfl⟩
theorem ax5:qz Tryz.prog 179=True:=eq_true ⟨_,Tryz.func179,of_decide_eq_false (by kernel_rfl),rfl⟩
theorem ax4:qz Tryz.prog 180=True:=eq_true ⟨_,Tryz.func180,of_decide_eq_false (by kernel_rfl),rfl⟩
theorem ax3:qz Tryz.prog 181=True:=eq_true ⟨_,Tryz.func181,of_decide_eq_false (by kernel_rfl),rfl⟩
theorem ax2:qz Tryz.prog 182=True:=eq_true ⟨_,Tryz.func182,of_decide_eq_false (by kernel_rfl),rfl⟩
theorem ax1:qz Tryz.prog 184=True:=eq_true ⟨_,Tryz.func184,of_decide_eq_false (by kernel_rfl),rfl⟩
theorem ax0:qz Tryz.prog 185=True:=eq_true ⟨_,Tryz.func185,of_decide_eq_false (by kernel_rfl),rfl⟩
theorem axZ:qz Tryz.prog 186=True:=eq_true ⟨_,Tryz.func186,of_decide_eq_false (by kernel_rfl),rfl⟩
theorem axY:qz Tryz.prog 187=True:=eq_true ⟨_,Tryz.func187,of_decide_eq_false (by kernel_rfl),rfl⟩
theorem axX:qz Tryz.prog 188=True:=eq_true ⟨_,Tryz.func188,of_decide_eq_false (by kernel_rfl),rfl⟩
theorem axW:qz Tryz.prog 189=True:=eq_true ⟨_,Tryz.func189,of_decide_eq_false (by kernel_rfl),rfl⟩
theorem axV:qz Tryz.prog 190=True:=eq_true ⟨_,Tryz.func190,of_decide_eq_false (by kernel_rfl),rfl⟩
theorem axU:qz Tryz.prog 191=True:=eq_true ⟨_,Tryz.func191,of_decide_eq_false (by kernel_rfl),rfl⟩
theorem axT:qz Tryz.prog 192=True:=eq_true ⟨_,Tryz.func192,of_decide_eq_false (by kernel_rfl),rfl⟩
theorem axS:qz Tryz.prog 193=True:=eq_true ⟨_,Tryz.func193,of_decide_eq_false (by kernel_rfl),rfl⟩
theorem axR:qz Tryz.prog 197=True:=eq_true ⟨_,Tryz.func197,of_decide_eq_false (by kernel_rfl),rfl⟩
theorem axQ:qz Tryz.prog 199=True:=eq_true ⟨_,Tryz.func199,of_decide_eq_false (by kernel_rfl),rfl⟩
theorem axP:qz Tryz.prog 200=True:=eq_true ⟨_,Tryz.func200,of_decide_eq_false (by kernel_rfl),rfl⟩
theorem axO:qz Tryz.prog 201=True:=eq_true ⟨_,Tryz.func201,of_decide_eq_false (by kernel_rfl),rfl⟩
theorem axN:qz Tryz.prog 202=True:=eq_true ⟨_,Tryz.func202,of_decide_eq_false (by kernel_rfl),rfl⟩
theorem axM:qz Tryz.prog 205=True:=eq_true ⟨_,Tryz.func205,of_decide_eq_false (by kernel_rfl),rfl⟩
theorem axL:qz Tryz.prog 206=True:=eq_true ⟨_,Tryz.func206,of_decide_eq_false (by kernel_rfl),rfl⟩
theorem axK:qz Tryz.prog 207=True:=eq_true ⟨_,Tryz.func207,of_decide_eq_false (by kernel_rfl),rfl⟩
theorem axJ:qz Tryz.prog 208=True:=eq_true ⟨_,Tryz.func208,of_decide_eq_false (by kernel_rfl),rfl⟩
theorem axI:qz Tryz.prog 209=True:=eq_true ⟨_,Tryz.func209,of_decide_eq_false (by kernel_rfl),rfl⟩
theorem axH:qz Tryz.prog 210=True:=eq_true ⟨_,Tryz.func210,of_decide_eq_false (by kernel_rfl),rfl⟩
theorem axG:qz Tryz.prog 211=True:=eq_true ⟨_,Tryz.func211,of_decide_eq_false (by kernel_rfl),rfl⟩
theorem axF:qz Tryz.prog 212=True:=eq_true ⟨_,Tryz.func212,of_decide_eq_false (by kernel_rfl),rfl⟩
theorem axE:qz Tryz.prog 213=True:=eq_true ⟨_,Tryz.func213,of_decide_eq_false (by kernel_rfl),rfl⟩
theorem axD:qz Tryz.prog 214=True:=eq_true ⟨_,Tryz.func214,of_decide_eq_false (by kernel_rfl),rfl⟩
theorem axC:qz Tryz.prog 215=True:=eq_true ⟨_,Tryz.func215,of_decide_eq_false (by kernel_rfl),rfl⟩
theorem axB:qz Tryz.prog 216=True:=eq_true ⟨_,Tryz.func216,of_decide_eq_false (by kernel_rfl),rfl⟩
theorem axA:qz Tryz.prog 217=True:=eq_true ⟨_,Tryz.func217,of_decide_eq_false (by kernel_rfl),rfl⟩
theorem axz:qz Tryz.prog 218=True:=eq_true ⟨_,Tryz.func218,of_decide_eq_false (by kernel_rfl),rfl⟩
theorem axy:qz Tryz.prog 219=True:=eq_true ⟨_,Tryz.func219,of_decide_eq_false (by kernel_rfl),rfl⟩
theorem axx:qz Tryz.prog 220=True:=eq_true ⟨_,Tryz.func220,of_decide_eq_false (by kernel_rfl),rfl⟩
theorem axw:qz Tryz.prog 221=True:=eq_true ⟨_,Tryz.func221,of_decide_eq_false (by kernel_rfl),rfl⟩
theorem axv:qz Tryz.prog 222=True:=eq_true ⟨_,Tryz.func222,of_decide_eq_false (by kernel_rfl),rfl⟩
theorem axu:qz Tryz.prog 223=True:=eq_true ⟨_,Tryz.func223,of_decide_eq_false (by kernel_rfl),rfl⟩
theorem axt:qz Tryz.prog 224=True:=eq_true ⟨_,Tryz.func224,of_decide_eq_false (by kernel_rfl),rfl⟩
theorem axs:qz Tryz.prog 225=True:=eq_true ⟨_,Tryz.func225,of_decide_eq_false (by kernel_rfl),rfl⟩
theorem axr:qz Tryz.prog 246=True:=eq_true ⟨_,Tryz.func246,of_decide_eq_false (by kernel_rfl),rfl⟩
theorem axq:qz Tryz.prog 247=True:=eq_true ⟨_,Tryz.func247,of_decide_eq_false (by kernel_rfl),rfl⟩
theorem axp:qz Tryz.prog 248=True:=eq_true ⟨_,Tryz.func248,of_decide_eq_false (by kernel_rfl),rfl⟩
theorem axo:qz Tryz.prog 249=True:=eq_true ⟨_,Tryz.func249,of_decide_eq_false (by kernel_rfl),rfl⟩
theorem axn:qz Tryz.prog 250=True:=eq_true ⟨_,Tryz.func250,of_decide_eq_false (by kernel_rfl),rfl⟩
theorem axm:qz Tryz.prog 251=True:=eq_true ⟨_,Tryz.func251,of_decide_eq_false (by kernel_rfl),rfl⟩
theorem axl:qz Tryz.prog 252=True:=eq_true ⟨_,Tryz.func252,of_decide_eq_false (by kernel_rfl),rfl⟩
theorem axk:qz Tryz.prog 253=True:=eq_true ⟨_,Tryz.func253,of_decide_eq_false (by kernel_rfl),rfl⟩
theorem axj:qz Tryz.prog 254=True:=eq_true ⟨_,Tryz.func254,of_decide_eq_false (by kernel_rfl),rfl⟩
theorem axi:qz Tryz.prog 255=True:=eq_true ⟨_,Tryz.func255,of_decide_eq_false (by kernel_rfl),rfl⟩
theorem axh:qz Tryz.prog 256=True:=eq_true ⟨_,Tryz.func256,of_decide_eq_false (by kernel_rfl),rfl⟩
theorem axg:qz Tryz.prog 260=True:=eq_true ⟨_,Tryz.func260,of_decide_eq_false (by kernel_rfl),rfl⟩
theorem axf:qz Tryz.prog 261=True:=eq_true ⟨_,Tryz.func261,of_decide_eq_false (by kernel_rfl),rfl⟩
theorem axe:qz Tryz.prog 262=True:=eq_true ⟨_,Tryz.func262,of_decide_eq_false (by kernel_rfl),rfl⟩
theorem axd:qz Tryz.prog 263=True:=eq_true ⟨_,Tryz.func263,of_decide_eq_false (by kernel_rfl),rfl⟩
theorem axc:qz Tryz.prog 264=True:=eq_true ⟨_,Tryz.func264,of_decide_eq_false (by kernel_rfl),rfl⟩
theorem axb:qz Tryz.prog 265=True:=eq_true ⟨_,Tryz.func265,of_decide_eq_false (by kernel_rfl),rfl⟩
theorem axa:qz Tryz.prog 266=True:=eq_true ⟨_,Tryz.func266,of_decide_eq_false (by kernel_rfl),rfl⟩
theorem aw9:qz Tryz.prog 267=True:=eq_true ⟨_,Tryz.func267,of_decide_eq_false (by kernel_rfl),rfl⟩
theorem aw8:qz Tryz.prog 268=True:=eq_true ⟨_,Tryz.func268,of_decide_eq_false (by kernel_rfl),rfl⟩
theorem aw7:qz Tryz.prog 269=True:=eq_true ⟨_,Tryz.func269,of_decide_eq_false (by kernel_rfl),rfl⟩
theorem aw6:qz Tryz.prog 270=True:=eq_true ⟨_,Tryz.func270,of_decide_eq_false (by kernel_rfl),rfl⟩
theorem aw5:qz Tryz.prog 271=True:=eq_true ⟨_,Tryz.func271,of_decide_eq_false (by kernel_rfl),rfl⟩
theorem aw4:qz Tryz.prog 272=True:=eq_true ⟨_,Tryz.func272,of_decide_eq_false (by kernel_rfl),rfl⟩
theorem aw3:qz Tryz.prog 273=True:=eq_true ⟨_,Tryz.func273,of_decide_eq_false (by kernel_rfl),rfl⟩
theorem aw2:qz Tryz.prog 274=True:=eq_true ⟨_,Tryz.func274,of_decide_eq_false (by kernel_rfl),rfl⟩
theorem aw1:qz Tryz.prog 295=True:=eq_true ⟨_,Tryz.func295,of_decide_eq_false (by kernel_rfl),rfl⟩
theorem aw0:qz Tryz.prog 296=True:=eq_true ⟨_,Tryz.func296,of_decide_eq_false (by kernel_rfl),rfl⟩
theorem awZ:qz Tryz.prog 297=True:=eq_true ⟨_,Tryz.func297,of_decide_eq_false (by kernel_rfl),rfl⟩
theorem awY:qz Tryz.prog 298=True:=eq_true ⟨_,Tryz.func298,of_decide_eq_false (by kernel_rfl),rfl⟩
theorem awX:qz Tryz.prog 299=True:=eq_true ⟨_,Tryz.func299,of_decide_eq_false (by kernel_rfl),rfl⟩
theorem awW:qz Tryz.prog 300=True:=eq_true ⟨_,Tryz.func300,of_decide_eq_false (by kernel_rfl),rfl⟩
theorem awU:qz Tryz.prog 301=True:=eq_true ⟨_,Tryz.func301,of_decide_eq_false (by kernel_rfl),rfl⟩
theorem awT:qz Tryz.prog 302=True:=eq_true ⟨_,Tryz.func302,of_decide_eq_false (by kernel_rfl),rfl⟩
theorem awS:qz Tryz.prog 303=True:=eq_true ⟨_,Tryz.func303,of_decide_eq_false (by kernel_rfl),rfl⟩
theorem awR:qz Tryz.prog 304=True:=eq_true ⟨_,Tryz.func304,of_decide_eq_false (by kernel_rfl),rfl⟩
theorem awQ:qz Tryz.prog 306=True:=eq_true ⟨_,Tryz.func306,of_decide_eq_false (by kernel_rfl),rfl⟩
theorem awP:qz Tryz.prog 307=True:=eq_true ⟨_,Tryz.func307,of_decide_eq_false (by kernel_rfl),rfl⟩
theorem awO:qz Tryz.prog 308=True:=eq_true ⟨_,Tryz.func308,of_decide_eq_false (by kernel_rfl),rfl⟩
theorem awN:qz Tryz.prog 325=True:=eq_true ⟨_,Tryz.func325,of_decide_eq_false (by kernel_rfl),rfl⟩
theorem awM:qz Tryz.prog 326=True:=eq_true ⟨_,Tryz.func326,of_decide_eq_false (by kernel_rfl),rfl⟩
theorem awL:qz Tryz.prog 327=True:=eq_true ⟨_,Tryz.func327,of_decide_eq_false (by kernel_rfl),rfl⟩
theorem awK:qz Tryz.prog 328=True:=eq_true ⟨_,Tryz.func328,of_decide_eq_false (by kernel_rfl),rfl⟩
theorem awJ:qz Tryz.prog 329=True:=eq_true ⟨_,Tryz.func329,of_decide_eq_false (by kernel_rfl),rfl⟩
theorem awI:qz Tryz.prog 330=True:=eq_true ⟨_,Tryz.func330,of_decide_eq_false (by kernel_rfl),rfl⟩
theorem awH:qz Tryz.prog 332=True:=eq_true ⟨_,Tryz.func332,of_decide_eq_false (by kernel_rfl),rfl⟩
theorem awG:qz Tryz.prog 340=True:=eq_true ⟨_,Tryz.func340,of_decide_eq_false (by kernel_rfl),rfl⟩
theorem awF:qz Tryz.prog 341=True:=eq_true ⟨_,Tryz.func341,of_decide_eq_false (by kernel_rfl),rfl⟩
theorem awE:qz Tryz.prog 345=True:=eq_true ⟨_,Tryz.func345,of_decide_eq_false (by kernel_rfl),rfl⟩
theorem awD:qz Tryz.prog 346=True:=eq_true ⟨_,Tryz.func346,of_decide_eq_false (by kernel_rfl),rfl⟩
theorem awC:qz Tryz.prog 347=True:=eq_true ⟨_,Tryz.func347,of_decide_eq_false (by kernel_rfl),rfl⟩
attribute [go_sem] ty3 auD akH agc auB
attribute [go_sem] auC ty4 auA akG
attribute [go_sem] aCO ap9
attribute [go_sem] agi aAv
attribute [go_sem] avw avv aCN ap7
attribute [go_sem] agh ap6 asL asK aCb
attribute [go_sem] aCM ap5
attribute [go_sem] agf aAu
attribute [go_sem] aCL ap4
attribute [go_sem] age asJ asI
attribute [go_sem] aCK ap3
attribute [go_sem] agd aAt
attribute [go_sem] avu aCJ ap2 agb
attribute [go_sem] ap1 asH aCa
attribute [go_sem] avt avs aCI ap0
attribute [go_sem] af9 apZ asG asF aB9
attribute [go_sem] avr avq
attribute [go_sem] aCH apY af8 ad8 apW apX asE
attribute [go_sem] asD aB8
attribute [go_sem] aCG apU
attribute [go_sem] af7 aAs
attribute [go_sem] avp avo aCF apT
attribute [go_sem] af6 apS asC asB aB7
attribute [go_sem] aCE apR af5
attribute [go_sem] aCD apQ
attribute [go_sem] af4 aAr
attribute [go_sem] avn aCC apP
attribute [go_sem] af3 apO asA asz aB6
attribute [go_sem] avm avl avk aCB
attribute [go_sem] apN af2 ad7 apL apM asy asx
attribute [go_sem] asw aB5
attribute [go_sem] aAf akW aeg
attribute [go_sem] auV
attribute [go_sem] aqZ aAe akV aef
attribute [go_sem] akU anf ane azx
attribute [go_sem] aqY aqX
attribute [go_sem] aAd akT aee abk akR akS anc
attribute [go_sem] anb azw
attribute [go_sem] aAc akP
attribute [go_sem] aed
attribute [go_sem] aAb akO aec ana
attribute [go_sem] aAa akN aeb
attribute [go_sem] am9 am8
attribute [go_sem] az9 akM
attribute [go_sem] aea am7 am6
attribute [go_sem] aqW aqV az8 akL ad9 abh akJ
attribute [go_sem] akK am5 am4 azv
attribute [go_sem] az7 akI
attribute [go_sem] aBR
attribute [go_sem] aBQ aBP aBO aBN aBM aBL aBK aBJ
attribute [go_sem] aBI aBH aBG
attribute [go_sem] aBF aBE aBD aBC aBB aBA aBz
attribute [go_sem] aBy aBx aBw aBv aBu aBt
attribute [go_sem] aBs aBr aBq aBp aBo aBn aBm aBl
attribute [go_sem] aBk aBj aBi aBh aBg aBf aBe
attribute [go_sem] aBd aBc aBb aBa
attribute [go_sem] aA9 aA8 aA7 aA6 aA5
attribute [go_sem] aA4 aA3 aA2 aA1 aA0 ayY ayX
attribute [go_sem] ayW ayV ayU ayT ayS ayR ayQ ayP ayO ayN
attribute [go_sem] ayM ayL ayK ayJ ayI ayH ayG ayF
attribute [go_sem] ayE ayD ayC ayB ayA ayz ayy ayx
attribute [go_sem] ayw ayv ayu ayt ays ayr ayq ayp ayo ayn
attribute [go_sem] aym ayl ayk ayj ayi ayh ayg ayf aye
attribute [go_sem] ayd ayc ayb
attribute [go_sem] aya ax9 ax8 ax7 ax6 ax5 ax4 ax3 ax2
attribute [go_sem] ax1 ax0 axZ axY axX axW axV axU axT
attribute [go_sem] axS axR axQ axP axO axN
attribute [go_sem] axM axL axK axJ axI axH axG axF
attribute [go_sem] axE axD axC axB axA axz axy axx axw axv
attribute [go_sem] axu axt axs
attribute [go_sem] axr axq axp axo axn axm axl
attribute [go_sem] axk axj axi axh axg axf axe
attribute [go_sem] axd axc axb axa aw9 aw8 aw7 aw6 aw5 aw4
attribute [go_sem] aw3 aw2
attribute [go_sem] aw1 aw0 awZ awY awX awW awU awT
attribute [go_sem] awS awR awQ awP awO
attribute [go_sem] awN awM awL awK awJ awI awH
attribute [go_sem] awG awF
attribute [go_sem] awE awD awC
end Go.Ab
namespace Go.Ab
open Go Go.Proofs
theorem yd(cl:Bool)(xs:List Int)(m:Nat)(hl:xs.length≤2^39)(hx:gd xs)(hv:vl xs=(m:Int)):Con Tryz.prog 188 cl [.sl xs.length (qg xs)] [] (amn m):=by
 refine Con.of_aw Tryz.func188 rfl Tryz.ntmps188 (by simp) (by simp) (by simp) (W.sound ?_)
 show @W Tryz.prog 24 ⟨_⟩ ⟨fun x σ=>@qY _ _ _ ⟨_⟩ _ ⟨_⟩ x σ⟩ _ _
 simp(disch:=omega)only[go_sem]
 have hcz:YH xs=lim m:=by rw[jL hx,hv,Int.toNat_natCast]
 refine qi (fun k:Nat=>[(0,.sl xs.length (qg xs)),(2,.pt 40000000 0),(3,.v (.int .i64 k))]) (fun _=>[(40000000,.own 0 [.v (.slice none 0 0)])]) (fun k=>k≤xs.length∧YH (xs.take k)=YH xs) id xs.length ⟨Nat.le_refl _,by simp⟩
  (Le.lst [] _ _ rfl (by simp(disch:=omega)only[go_sem]) (by simp(disch:=omega)only[go_sem])) ?_
 intro k ⟨hk,hc⟩
 have hkx:∀j,j+1=k→xs.take k=xs.take j++[xs.getD j 0]:=fun j hj=>by rw[←hj];exact ZW (by omega)
 simp(disch:=omega)only[go_sem]
 refine qh (fun h1=>?_) (fun h1=>?_)
 ·obtain⟨j,rfl⟩:∃j,k=j+1:=⟨k-1,by omega⟩
  have e1:((j+1:Nat):Int)-1=(j:Nat):=by omega
  rw[hkx j rfl]at hc
  simp(disch:=omega)only[go_sem,h1,e1]
  refine⟨by omega,by omega,qh (fun h2=>?_) (fun h2=>?_)⟩
  ·simp(disch:=omega)only[go_sem,h2,e1]
   rw[h2,ZL]at hc
   exact qe j [] ⟨by omega,hc⟩ (by show j<j+1;omega) rfl (by simp(disch:=omega)only[go_sem];try omega) (by simp(disch:=omega)only[go_sem])
  ·rw[VW _ h2,←hkx j rfl,hcz]at hc
   have hlm:j+1=(lim m).length:=by rw[←hc,List.length_take];omega
   have e0:(((j+1:Nat):Int)-0).toNat=(lim m).length:=by omega
   rw[hlm]at hc
   simp(disch:=omega)only[go_sem,h2,e0,hc]
   refine⟨by omega,by omega,?_⟩
   refine ql [(0,240000000)] [.own 1 (qg (lim m))] [] [.ag [.rf 0 0 (lim m).length]] rfl (by simp(disch:=omega)only[go_sem]) (by simp(disch:=omega)only[go_sem]) (by simp) (by intro _;simp[zr,AV.pu,AV.pu.puL,Ob.pu,qV]) (.inr ⟨[],rfl,by rw[List.append_nil]⟩)
 ·have hlm:k=(lim m).length:=by
   have:k=0:=by omega
   rw[←hcz,←hc,this];rfl
  subst hlm
  have hc:xs.take (lim m).length=lim m:=by
   have:lim m=[]:=List.length_eq_zero_iff.1 (by omega)
   rw[this];simp
  have e0:(((lim m).length:Int)-0).toNat=(lim m).length:=by omega
  simp(disch:=omega)only[go_sem,h1,e0,hc]
  refine⟨by omega,by omega,?_⟩
  refine ql [(0,240000000)] [.own 1 (qg (lim m))] [] [.ag [.rf 0 0 (lim m).length]] rfl (by simp(disch:=omega)only[go_sem]) (by simp(disch:=omega)only[go_sem]) (by simp) (by intro _;simp[zr,AV.pu,AV.pu.puL,Ob.pu,qV]) (.inr ⟨[],rfl,by rw[List.append_nil]⟩)
theorem adN(cl:Bool)(n:Nat)(hn:n<2^63):Con Tryz.prog 180 cl [.v (.int .i64 n)] [] (amn n):=by
 refine Con.of_aw Tryz.func180 rfl Tryz.ntmps180 (by simp) (by simp) (by simp) (W.sound ?_)
 show @W Tryz.prog 15 ⟨_⟩ ⟨fun x σ=>@qY _ _ _ ⟨_⟩ _ ⟨_⟩ x σ⟩ _ _
 simp(disch:=omega)only[go_sem]
 refine qi (fun x:Nat×List Int=>[(0,.v (.int .i64 x.1)),(2,.pt 2 0),(3,.rf 1 0 x.2.length)]) (fun x=>[(1,.own 1 (qg x.2)),(2,.own 0 [.v (.slice none 0 0)])]) (fun x=>x.1<2^63∧x.2++lim x.1=lim n) (fun x=>x.1) (n,[]) ⟨hn,rfl⟩
  ((Le.ghost 3 1 1 (by simp(disch:=omega)only[go_sem]) (by simp(disch:=omega)only[go_sem])).trans (Le.lst [(2,40000000)] _ _ rfl (by simp(disch:=omega)only[go_sem]) (by simp(disch:=omega)only[go_sem]))) ?_
 rintro⟨k,l⟩ ⟨hk,hl⟩
 dsimp only at hk hl ⊢
 have hlen:l.length≤4:=by
  have h1:=congrArg List.length hl
  have h2:=y6 (n:=n) (k:=4) |>.2 (by omega)
  rw[List.length_append]at h1;omega
 simp(disch:=omega)only[go_sem]
 refine qh (fun h1=>?_) (fun h1=>?_)
 ·simp(disch:=omega)only[go_sem,h1]
  have hk0:k≠0:=by omega
  refine⟨by omega,qe (k/65536,l++[(k:Int) % 65536]) [(1,120000000)] ⟨by show k/65536<2^63;omega,?_⟩ (by show k/65536<k;omega) rfl (by simp(disch:=omega)only[go_sem,List.length_append];try omega) (by simp(disch:=omega)only[go_sem])⟩
  rw[y4 hk0]at hl
  rw[←hl,List.append_assoc];rfl
 ·simp(disch:=omega)only[go_sem,h1]
  have hk0:k=0:=by omega
  subst hk0
  rw[qr,List.append_nil]at hl
  subst hl
  refine ql [(0,1)] [.own 1 (qg (lim n++[]))] [] [.ag [.rf 0 0 (lim n).length]] rfl (by simp(disch:=omega)only[go_sem]) (by simp(disch:=omega)only[go_sem]) (by simp) (by intro _;simp[zr,AV.pu,AV.pu.puL,Ob.pu,qV]) (.inr ⟨[],rfl,rfl⟩)
end Go.Ab
namespace Go.Ab
open Go Go.Proofs
theorem j9(xs:List Int)(hl:xs.length≤2^40):Con Tryz.prog 268 false [.rf 10000000 0 xs.length] [.own 1 (qg xs)] (fun r hs bs=>r=.rf 10000000 0 (YH xs).length∧hs=[]∧bs=[.own 1 (qg xs)]):=by
 refine Con.of_aw Tryz.func268 rfl Tryz.ntmps268 (by simp) (by simp) (by simp) (W.sound ?_)
 show @W Tryz.prog 21 ⟨_⟩ ⟨fun x σ=>@qY _ _ _ ⟨_⟩ _ ⟨_⟩ x σ⟩ _ _
 simp(disch:=omega)only[go_sem]
 refine qi (fun m:Nat=>[(0,.rf 10000000 0 m)]) (fun _=>[(10000000,.own 1 (qg xs))]) (fun m=>m≤xs.length∧YH (xs.take m)=YH xs) id xs.length ⟨Nat.le_refl _,by simp⟩
  (Le.lst [] _ _ rfl (by simp(disch:=omega)only[go_sem];try omega) (by simp(disch:=omega)only[go_sem])) ?_
 intro m ⟨hm,hx⟩
 have hmx:∀k,k+1=m→xs.take m=xs.take k++[xs.getD k 0]:=fun k hk=>by rw[←hk];exact ZW (by omega)
 simp(disch:=omega)only[go_sem]
 refine qh (fun h1=>?_) (fun h1=>?_)
 ·obtain⟨k,rfl⟩:∃k,m=k+1:=⟨m-1,by omega⟩
  have e1:((k+1:Nat):Int)-1=(k:Nat):=by omega
  rw[hmx k rfl]at hx
  simp(disch:=omega)only[go_sem,h1,e1]
  refine⟨by omega,by omega,qh (fun h2=>?_) (fun h2=>?_)⟩
  ·simp(disch:=omega)only[go_sem,h2,e1]
   rw[h2,ZL]at hx
   refine⟨by omega,qe k [] ⟨by omega,hx⟩ (by show k<k+1;omega) rfl (by simp(disch:=omega)only[go_sem];try omega) (by simp(disch:=omega)only[go_sem])⟩
  ·simp(disch:=omega)only[go_sem,h2]
   refine ql [] [] [.own 1 (qg xs)] [.rf 10000000 0 (k+1)] rfl (by simp(disch:=omega)only[go_sem]) (by simp(disch:=omega)only[go_sem]) (by simp) (by simp) ⟨?_,rfl,rfl⟩
   rw[VW _ h2,←hmx k rfl]at hx
   rw[←hx,List.length_take,Nat.min_eq_left hm];rfl
 ·simp(disch:=omega)only[go_sem,h1]
  refine ql [] [] [.own 1 (qg xs)] [.rf 10000000 0 m] rfl (by simp(disch:=omega)only[go_sem]) (by simp(disch:=omega)only[go_sem]) (by simp) (by simp) ⟨?_,rfl,rfl⟩
  have:m=0:=by omega
  subst this
  rw[←hx];rfl
end Go.Ab
namespace Go.Ab
open Go Go.Proofs
theorem ahv{x y:Int}(hx:0≤x∧x<65536)(hy:0≤y∧y<65536):0≤x*y∧x*y≤4294836225:=by
 have h1:=Int.mul_nonneg hx.1 hy.1
 have h2:x*y≤65535*65535:=Int.mul_le_mul (by omega) (by omega) hy.1 (by omega)
 omega
theorem Ko(n:Nat):zA n [.v (.int .i64 0)]=qg (List.replicate n 0):=aaa
theorem aiW(cl:Bool)(A B:List Int)(hA:gd A)(hB:gd B)(lA:A.length≤1000000)(lB:B.length≤1000000):
  Con Tryz.prog 260 cl [.sl A.length (qg A),.sl B.length (qg B)] [] (ahi (lim (vl A*vl B).toNat)):=by
 refine Con.of_aw Tryz.func260 rfl Tryz.ntmps260 (by simp) (by simp) (by simp) (W.sound ?_)
 show @W Tryz.prog 63 ⟨_⟩ ⟨fun x σ=>@qY _ _ _ ⟨_⟩ _ ⟨_⟩ x σ⟩ _ _
 simp(disch:=omega)only[go_sem]
 refine⟨⟨by omega,by omega,by omega⟩,?_⟩
 refine qi (fun x:Nat×List Int=>[(1,.sl B.length (qg B)),(5,.rf 180000000 0 (A.length+B.length)),(17,.sl A.length (qg A)),(18,.v (.int .i64 A.length)),(19,.v (.int .i64 x.1))])
  (fun x=>[(180000000,.own 1 (qg x.2))])
  (fun x=>x.1≤A.length∧x.2.length=A.length+B.length∧gd x.2∧vl x.2=vl (A.take x.1)*vl B∧∀j,x.1+B.length≤j→x.2.getD j 0=0)
  (fun x=>A.length-x.1) (0,List.replicate (A.length+B.length) 0) ⟨by simp,by simp,zy _,by simp[jm,vl],fun j _=>by
   rw[List.getD_eq_getElem?_getD,List.getElem?_replicate];split<;>rfl⟩
  (Le.lst [] _ _ rfl (by simp(disch:=omega)only[go_sem];try omega) (by simp(disch:=omega)only[go_sem,show((A.length:Int)+(B.length:Int)).toNat=A.length+B.length by omega])) ?_
 rintro⟨i,out⟩ ⟨hi,hol,hog,hov,hoz⟩
 dsimp only at hi hol hog hov hoz ⊢
 simp(disch:=omega)only[go_sem]
 refine qh (fun h1=>?_) (fun h1=>?_)
 ·have hx:=qL hA i
  simp(disch:=omega)only[go_sem,h1]
  refine⟨by omega,by omega,?_⟩
  refine qi (fun x:Nat×List Int×Int=>[(1,.sl B.length (qg B)),(5,.rf 180000000 0 (A.length+B.length)),(17,.sl A.length (qg A)),(18,.v (.int .i64 A.length)),(19,.v (.int .i64 i)),(6,.v (.int .i64 i)),
    (7,.v (.int .i64 (A.getD i 0))),(8,.v (.int .i64 x.2.2)),(24,.sl B.length (qg B)),(25,.v (.int .i64 B.length)),(26,.v (.int .i64 x.1))])
   (fun x=>[(180000000,.own 1 (qg x.2.1))])
   (fun x=>x.1≤B.length∧x.2.1.length=A.length+B.length∧gd x.2.1∧(0≤x.2.2∧x.2.2<65536)∧vl x.2.1+65536^(i+x.1)*x.2.2=vl out+65536^i*(A.getD i 0*vl (B.take x.1))∧∀j,i+B.length≤j→x.2.1.getD j 0=0)
   (fun x=>B.length-x.1) (0,out,0) ⟨by simp,hol,hog,by simp,by simp[vl],hoz⟩
   (Le.lst [] _ _ rfl (by simp(disch:=omega)only[go_sem];try omega) (by simp(disch:=omega)only[go_sem])) ?_
  rintro⟨j,o2,cy⟩ ⟨hj,hol2,hog2,hcy,hov2,hoz2⟩
  dsimp only at hj hol2 hog2 hcy hov2 hoz2 ⊢
  simp(disch:=omega)only[go_sem]
  refine qh (fun h2=>?_) (fun h2=>?_)
  ·have hy:=qL hB j
   have ho:=qL hog2 (i+j)
   have hxy:=ahv hx hy
   have e1:((i:Int)+(j:Int)).toNat=i+j:=by omega
   simp(disch:=omega)only[go_sem,h2,e1]
   generalize hq:cy+(o2.getD (i+j) 0+A.getD i 0*B.getD j 0)=q
   refine⟨by omega,by omega,by omega,by omega,by omega,by omega,qe (j+1,o2.set (i+j) (q % 65536),q/65536) [] ⟨by show j+1≤_;omega,by simp[hol2],Qk hog2 (by omega),by show 0≤q/65536∧q/65536<65536;omega,?_,fun k hk=>?_⟩
    (by show B.length-(j+1)<B.length-j;omega) rfl (by simp(disch:=omega)only[go_sem];try omega) (by simp(disch:=omega)only[go_sem])⟩
   ·show vl (o2.set (i+j) (q % 65536))+65536^(i+(j+1))*(q/65536)=vl out+65536^i*(A.getD i 0*vl (B.take (j+1)))
    rw[Js (by omega),jP (by omega),←Nat.add_assoc,Int.pow_succ]
    have e2:(65536:Int)^(i+j)=65536^i*65536^j:=Int.pow_add _ _ _
    have e3:q % 65536+65536*(q/65536)=q:=Int.emod_add_mul_ediv q 65536
    rw[e2]at hov2 ⊢
    generalize (65536:Int)^i=Pi at*
    generalize (65536:Int)^j=Pj at*
    grind
   ·show(o2.set (i+j) (q % 65536)).getD k 0=0
    rw[List.getD_eq_getElem?_getD,List.getElem?_set_ne (by omega),←List.getD_eq_getElem?_getD]
    exact hoz2 k hk
  ·simp(disch:=omega)only[go_sem,h2]
   have e1:((i:Int)+(B.length:Int)).toNat=i+B.length:=by omega
   have hjB:j=B.length:=by omega
   subst hjB
   rw[List.take_length]at hov2
   simp(disch:=omega)only[go_sem,e1]
   refine⟨by omega,by omega,qe (i+1,o2.set (i+B.length) cy) [] ⟨by show i+1≤_;omega,by simp[hol2],Qk hog2 hcy,?_,fun k hk=>?_⟩ (by show A.length-(i+1)<A.length-i;omega) rfl (by simp(disch:=omega)only[go_sem];try omega) (by simp(disch:=omega)only[go_sem])⟩
   ·show vl (o2.set (i+B.length) cy)=vl (A.take (i+1))*vl B
    rw[Js (by omega),hoz2 _ (Nat.le_refl _),jP (by omega)]
    generalize (65536:Int)^i=Pi at*
    grind
   ·show(o2.set (i+B.length) cy).getD k 0=0
    rw[List.getD_eq_getElem?_getD,List.getElem?_set_ne (by show i+B.length≠k;omega),←List.getD_eq_getElem?_getD]
    exact hoz2 k (by omega)
 ·simp(disch:=omega)only[go_sem,h1]
  have hiA:i=A.length:=by omega
  subst hiA
  rw[List.take_length]at hov
  refine zl false [180000000] (j9 out (by omega)) (by rw[←hol];simp(disch:=omega)only[go_sem]) (by simp(disch:=omega)only[go_sem]) rfl (q7 (z:=1) (cs:=qg out) (by simp(disch:=omega)only[go_sem]) (by simp(disch:=omega)only[go_sem])) (by intro n hn;exact⟨_,List.mem_singleton.2 rfl,by rw[List.mem_singleton.1 hn];rfl⟩) ?_
  rintro r hs bs ⟨rfl,rfl,rfl⟩ _
  refine⟨by simp[qB],?_⟩
  simp(disch:=omega)only[go_sem]
  obtain⟨z,hz⟩:=ji out
  have hc:=jL hog
  rw[hov]at hc
  rw[hc]at hz ⊢
  refine ql [(0,180000000)] [.own 1 (qg out)] [] [.rf 0 0 (lim (vl A*vl B).toNat).length] rfl (by simp(disch:=omega)only[go_sem]) (by simp(disch:=omega)only[go_sem]) (by simp) (by intro _;simp[zr,AV.pu,AV.pu.puL,Ob.pu,qV]) (.inr ⟨List.replicate z 0,rfl,by rw[←hz]⟩)
end Go.Ab
namespace Go.Ab
open Go Go.Proofs
set_option maxRecDepth 100000 in
theorem ajn(cl:Bool)(a b:Nat)(la:(lim a).length≤2000000)(lb:(lim b).length≤2000000):Con Tryz.prog 179 cl [.ag [.sl (lim (a)).length (qg (lim (a)))],.ag [.sl (lim (b)).length (qg (lim (b)))]] [] (amn (a+b)):=by
 refine Con.of_aw Tryz.func179 rfl Tryz.ntmps179 (by simp) (by simp) (by simp) (W.sound ?_)
 show @W Tryz.prog 61 ⟨_⟩ ⟨fun x σ=>@qY _ _ _ ⟨_⟩ _ ⟨_⟩ x σ⟩ _ _
 simp(disch:=omega)only[go_sem]
 have hA:=zf a
 have hB:=zf b
 refine qi (fun x:Nat×List Int×Int=>[(2,.pt 3 0),(3,.pt 4 0),(4,.pt 2 0),(5,.rf 1 0 x.2.1.length),(6,.v (.int .i64 x.2.2)),(7,.v (.int .i64 x.1))])
  (fun x=>[(1,.own 1 (qg x.2.1)),(2,.own 0 [.v (.slice none 0 0)]),(3,.own 0 [.sl (lim (a)).length (qg (lim (a)))]),(4,.own 0 [.sl (lim (b)).length (qg (lim (b)))])])
  (fun x=>x.1≤max (lim a).length (lim b).length+1∧x.2.1.length=x.1∧gd x.2.1∧(0≤x.2.2∧x.2.2≤1)∧vl x.2.1+65536^x.1*x.2.2=vl ((lim a).take x.1)+vl ((lim b).take x.1)∧(max (lim a).length (lim b).length<x.1→x.2.2=0))
  (fun x=>2*(max (lim a).length (lim b).length-x.1)+x.2.2.toNat) (0,[],0) ⟨by simp,rfl,Yv,by simp,by simp[vl],fun h=>rfl⟩
  ((Le.ghost 5 1 1 (by simp(disch:=omega)only[go_sem]) (by simp(disch:=omega)only[go_sem])).trans (Le.lst [(2,60000000),(3,40000000),(4,50000000)] _ _ rfl (by simp(disch:=omega)only[go_sem]) (by simp(disch:=omega)only[go_sem]))) ?_
 rintro⟨i,out,cy⟩ ⟨hi,hol,hog,hcy,hov,hcz⟩
 dsimp only at hi hol hog hcy hov hcz ⊢
 have hx:=qL hA i
 have hy:=qL hB i
 have hxz:¬(i:Int)<(lim a).length→(lim a).getD i 0=0:=fun h=>by rw[List.getD_eq_getElem?_getD,List.getElem?_eq_none (by omega)];rfl
 have hyz:¬(i:Int)<(lim b).length→(lim b).getD i 0=0:=fun h=>by rw[List.getD_eq_getElem?_getD,List.getElem?_eq_none (by omega)];rfl
 have hstep:∀q:Int,q=cy+(lim a).getD i 0+(lim b).getD i 0→vl (out++[q % 65536])+65536^(i+1)*(q/65536)=vl ((lim a).take (i+1))+vl ((lim b).take (i+1)):=by
  intro q hq
  rw[yf,q9,q9,hol,Int.pow_succ]
  have e3:q % 65536+65536*(q/65536)=q:=Int.emod_add_mul_ediv q 65536
  generalize (65536:Int)^i=Pi at*
  grind
 have key:∀q:Int,q=cy+(lim a).getD i 0+(lim b).getD i 0→(i:Int)<(lim a).length∨(i:Int)<(lim b).length∨0<cy→
   ((i+1≤max (lim a).length (lim b).length+1∧(out++[q % 65536]).length=i+1∧gd (out++[q % 65536])∧(0≤q/65536∧q/65536≤1)∧vl (out++[q % 65536])+65536^(i+1)*(q/65536)=vl ((lim a).take (i+1))+vl ((lim b).take (i+1))∧(max (lim a).length (lim b).length<i+1→q/65536=0))∧
   2*(max (lim a).length (lim b).length-(i+1))+(q/65536).toNat<2*(max (lim a).length (lim b).length-i)+cy.toNat):=by
  intro q hq hc
  have hle:i≤max (lim a).length (lim b).length:=by
   rcases Nat.lt_or_ge (max (lim a).length (lim b).length) i with h|h
   ·have:=hcz h;omega
   ·exact h
  have hbig:max (lim a).length (lim b).length<i+1→q/65536=0:=fun h=>by
   have:=hxz (by omega)
   have:=hyz (by omega)
   omega
  refine⟨⟨by omega,by simp[hol],qN.2 ⟨hog,jx.2 (by omega)⟩,by omega,hstep q hq,hbig⟩,?_⟩
  by_cases hm:max (lim a).length (lim b).length<i+1
  ·have:=hbig hm;omega
  ·omega
 by_cases h1:(i:Int)<(lim a).length<;>by_cases h2:(i:Int)<(lim b).length
 ·simp(disch:=omega)only[go_sem,h1,h2]
  obtain⟨k1,k2⟩:=key _ rfl (.inl h1)
  refine⟨by omega,by omega,by omega,by omega,by omega,qe (i+1,out++[(cy+(lim a).getD i 0+(lim b).getD i 0) % 65536],(cy+(lim a).getD i 0+(lim b).getD i 0)/65536) [(1,580000000)] k1 k2 rfl (by simp(disch:=omega)only[go_sem,List.length_append];try omega) (by simp(disch:=omega)only[go_sem])⟩
 ·simp(disch:=omega)only[go_sem,h1,h2]
  have e0:cy+(lim a).getD i 0=cy+(lim a).getD i 0+(lim b).getD i 0:=by rw[hyz h2];omega
  obtain⟨k1,k2⟩:=key (cy+(lim a).getD i 0) e0 (.inl h1)
  refine⟨by omega,by omega,by omega,qe (i+1,out++[(cy+(lim a).getD i 0) % 65536],(cy+(lim a).getD i 0)/65536) [(1,580000000)] k1 k2 rfl (by simp(disch:=omega)only[go_sem,List.length_append];try omega) (by simp(disch:=omega)only[go_sem])⟩
 ·simp(disch:=omega)only[go_sem,h1,h2]
  have e0:cy+(lim b).getD i 0=cy+(lim a).getD i 0+(lim b).getD i 0:=by rw[hxz h1];omega
  obtain⟨k1,k2⟩:=key (cy+(lim b).getD i 0) e0 (.inr (.inl h2))
  refine⟨by omega,by omega,by omega,qe (i+1,out++[(cy+(lim b).getD i 0) % 65536],(cy+(lim b).getD i 0)/65536) [(1,580000000)] k1 k2 rfl (by simp(disch:=omega)only[go_sem,List.length_append];try omega) (by simp(disch:=omega)only[go_sem])⟩
 ·by_cases h3:0<cy
  ·simp(disch:=omega)only[go_sem,h1,h2,h3]
   have e0:cy=cy+(lim a).getD i 0+(lim b).getD i 0:=by rw[hxz h1,hyz h2];omega
   obtain⟨k1,k2⟩:=key cy e0 (.inr (.inr h3))
   refine⟨by omega,qe (i+1,out++[cy % 65536],cy/65536) [(1,580000000)] k1 k2 rfl (by simp(disch:=omega)only[go_sem,List.length_append];try omega) (by simp(disch:=omega)only[go_sem])⟩
  ·have hcy0:cy=0:=by omega
   have hov2:vl out=((a+b:Nat):Int):=by
    rw[List.take_of_length_le (by omega),List.take_of_length_le (by omega),zb,zb,hcy0]at hov
    simp at hov;omega
   simp(disch:=omega)only[go_sem,h1,h2,h3]
   refine qs (yd true out (a+b) (by omega) hog hov2) (by simp(disch:=omega)only[go_sem]) ?_
   rintro r hs (⟨h0,rfl,rfl⟩|⟨zs,rfl,rfl⟩)
   ·refine⟨⟨by simp,by simp(disch:=omega)only[go_sem]⟩,?_⟩
    simp(disch:=omega)only[go_sem]
    refine ql [] [] [] [.ag [.v (.slice none 0 0)]] rfl (by simp(disch:=omega)only[go_sem]) (by simp(disch:=omega)only[go_sem]) (by simp) (by intro _;simp[zr,AV.pu,AV.pu.puL,Ob.pu,qV]) (.inl ⟨h0,rfl,rfl⟩)
   ·refine⟨⟨by simp,by simp(disch:=omega)only[go_sem]⟩,?_⟩
    simp(disch:=omega)only[go_sem]
    refine ql [(0,620000000)] [.own 1 (qg (lim (a+b)++zs))] [] [.ag [.rf 0 0 (lim (a+b)).length]] rfl (by simp(disch:=omega)only[go_sem]) (by simp(disch:=omega)only[go_sem]) (by simp) (by intro _;simp[zr,AV.pu,AV.pu.puL,Ob.pu,qV]) (.inr ⟨zs,rfl,rfl⟩)
end Go.Ab
namespace Go.Ab
open Go Go.Proofs
set_option maxRecDepth 100000 in
theorem XP(cl:Bool)(A:List Int)(hA:gd A)(b:Nat)(lA:A.length≤1000000)(lB:(lim b).length≤1000000)(m:Nat)(hm:vl A*(b:Int)=(m:Int)):
  Con Tryz.prog 264 cl [.ag [.sl A.length (qg A)],.ag [.sl (lim (b)).length (qg (lim (b)))]] [] (amn m):=by
 refine Con.of_aw Tryz.func264 rfl Tryz.ntmps264 (by simp) (by simp) (by simp) (W.sound ?_)
 show @W Tryz.prog 80 ⟨_⟩ ⟨fun x σ=>@qY _ _ _ ⟨_⟩ _ ⟨_⟩ x σ⟩ _ _
 have hvb:=zb b
 have hB:=zf b
 generalize lim b=B at*
 simp(disch:=omega)only[go_sem]
 refine⟨by omega,?_⟩
 refine qi (fun x:Nat×List Int=>[(2,.pt 0 0),(3,.pt 1 0),(4,.pt 2 0),(5,.rf 3 0 (A.length+B.length)),(6,.v (.int .i64 x.1))])
  (fun x=>[(0,.own 0 [.sl A.length (qg A)]),(1,.own 0 [.sl B.length (qg B)]),(2,.own 0 [.v (.slice none 0 0)]),(3,.own 1 (qg x.2))])
  (fun x=>x.1≤A.length∧x.2.length=A.length+B.length∧gd x.2∧vl x.2=vl (A.take x.1)*vl B∧∀j,x.1+B.length≤j→x.2.getD j 0=0)
  (fun x=>A.length-x.1) (0,List.replicate (A.length+B.length) 0) ⟨by simp,by simp,zy _,by simp[jm,vl],fun j _=>by
   rw[List.getD_eq_getElem?_getD,List.getElem?_replicate];split<;>rfl⟩
  (Le.lst [(0,40000000),(1,50000000),(2,60000000),(3,190000000)] _ _ rfl (by simp(disch:=omega)only[go_sem];try omega) (by simp(disch:=omega)only[go_sem,show((A.length:Int)+(B.length:Int)).toNat=A.length+B.length by omega])) ?_
 rintro⟨i,out⟩ ⟨hi,hol,hog,hov,hoz⟩
 dsimp only at hi hol hog hov hoz ⊢
 simp(disch:=omega)only[go_sem]
 refine qh (fun h1=>?_) (fun h1=>?_)
 ·have hx:=qL hA i
  simp(disch:=omega)only[go_sem,h1]
  refine qi (fun x:Nat×List Int×Int=>[(2,.pt 0 0),(3,.pt 1 0),(4,.pt 2 0),(5,.rf 3 0 (A.length+B.length)),(6,.v (.int .i64 i)),(7,.v (.int .i64 x.2.2)),(8,.v (.int .i64 x.1))])
   (fun x=>[(0,.own 0 [.sl A.length (qg A)]),(1,.own 0 [.sl B.length (qg B)]),(2,.own 0 [.v (.slice none 0 0)]),(3,.own 1 (qg x.2.1))])
   (fun x=>x.1≤B.length∧x.2.1.length=A.length+B.length∧gd x.2.1∧(0≤x.2.2∧x.2.2<65536)∧vl x.2.1+65536^(i+x.1)*x.2.2=vl out+65536^i*(A.getD i 0*vl (B.take x.1))∧∀j,i+B.length≤j→x.2.1.getD j 0=0)
   (fun x=>B.length-x.1) (0,out,0) ⟨by simp,hol,hog,by simp,by simp[vl],hoz⟩
   (Le.lst [] _ _ rfl (by simp(disch:=omega)only[go_sem];try omega) (by simp(disch:=omega)only[go_sem])) ?_
  rintro⟨j,o2,cy⟩ ⟨hj,hol2,hog2,hcy,hov2,hoz2⟩
  dsimp only at hj hol2 hog2 hcy hov2 hoz2 ⊢
  simp(disch:=omega)only[go_sem]
  refine qh (fun h2=>?_) (fun h2=>?_)
  ·have hy:=qL hB j
   have ho:=qL hog2 (i+j)
   have hxy:=ahv hx hy
   have e1:((i:Int)+(j:Int)).toNat=i+j:=by omega
   simp(disch:=omega)only[go_sem,h2]
   refine qq rfl [⟨0,[],[]⟩,⟨1,[],[]⟩,⟨2,[],[]⟩,⟨3,[],[]⟩,⟨4,[],[]⟩,⟨5,[],[]⟩,⟨6,[5],[]⟩,⟨7,[5],[]⟩,⟨8,[5,7],[]⟩,⟨9,[5],[]⟩,⟨10,[5],[]⟩,⟨11,[5,7,10],[]⟩,⟨12,[5,7,10],[]⟩,⟨13,[5,7,10,12],[]⟩,⟨14,[5,7,10],[]⟩,⟨15,[5,7,10],[]⟩,⟨16,[5],[]⟩,⟨17,[],[]⟩,⟨18,[5,7,10,12,15],[]⟩,⟨19,[],[]⟩,⟨20,[],[]⟩] (by kernel_rfl) ?_
   simp(disch:=omega)only[go_sem,e1]
   generalize hq:o2.getD (i+j) 0+A.getD i 0*B.getD j 0+cy=q
   refine⟨by omega,by omega,by omega,by omega,by omega,by omega,by omega,by omega,qe (j+1,o2.set (i+j) (q % 65536),q/65536) [] ⟨by show j+1≤_;omega,by simp[hol2],Qk hog2 (by omega),by show 0≤q/65536∧q/65536<65536;omega,?_,fun k hk=>?_⟩
    (by show B.length-(j+1)<B.length-j;omega) rfl (by simp(disch:=omega)only[go_sem];try omega) (by simp(disch:=omega)only[go_sem])⟩
   ·show vl (o2.set (i+j) (q % 65536))+65536^(i+(j+1))*(q/65536)=vl out+65536^i*(A.getD i 0*vl (B.take (j+1)))
    rw[Js (by omega),jP (by omega),←Nat.add_assoc,Int.pow_succ]
    have e2:(65536:Int)^(i+j)=65536^i*65536^j:=Int.pow_add _ _ _
    have e3:q % 65536+65536*(q/65536)=q:=Int.emod_add_mul_ediv q 65536
    rw[e2]at hov2 ⊢
    generalize (65536:Int)^i=Pi at*
    generalize (65536:Int)^j=Pj at*
    grind
   ·show(o2.set (i+j) (q % 65536)).getD k 0=0
    rw[List.getD_eq_getElem?_getD,List.getElem?_set_ne (by omega),←List.getD_eq_getElem?_getD]
    exact hoz2 k hk
  ·simp(disch:=omega)only[go_sem,h2]
   have e1:((i:Int)+(B.length:Int)).toNat=i+B.length:=by omega
   have hjB:j=B.length:=by omega
   subst hjB
   rw[List.take_length]at hov2
   have hz:=hoz2 (i+B.length) (Nat.le_refl _)
   refine qq rfl [⟨0,[],[]⟩,⟨1,[],[]⟩,⟨2,[],[]⟩,⟨3,[],[]⟩,⟨4,[],[]⟩,⟨5,[],[]⟩,⟨6,[3],[]⟩,⟨7,[3],[]⟩,⟨8,[3],[]⟩,⟨9,[3],[]⟩,⟨10,[3],[]⟩,⟨11,[3],[]⟩,⟨12,[3],[]⟩,⟨13,[3],[]⟩,⟨14,[3,9,13],[]⟩,⟨15,[3],[]⟩,⟨16,[],[]⟩,⟨17,[],[]⟩] (by kernel_rfl) ?_
   simp(disch:=omega)only[go_sem,e1,hz]
   have e0:(0:Int)+cy=cy:=by omega
   refine⟨by omega,by omega,by omega,by omega,qe (i+1,o2.set (i+B.length) cy) [] ⟨by show i+1≤_;omega,by simp[hol2],Qk hog2 hcy,?_,fun k hk=>?_⟩ (by show A.length-(i+1)<A.length-i;omega) rfl (by simp(disch:=omega)only[go_sem];try omega) (by simp(disch:=omega)only[go_sem,e0])⟩
   ·show vl (o2.set (i+B.length) cy)=vl (A.take (i+1))*vl B
    rw[Js (by omega),hz,jP (by omega)]
    generalize (65536:Int)^i=Pi at*
    grind
   ·show(o2.set (i+B.length) cy).getD k 0=0
    rw[List.getD_eq_getElem?_getD,List.getElem?_set_ne (by show i+B.length≠k;omega),←List.getD_eq_getElem?_getD]
    exact hoz2 k (by omega)
 ·simp(disch:=omega)only[go_sem,h1]
  have hiA:i=A.length:=by omega
  subst hiA
  rw[List.take_length,hvb,hm]at hov
  rw[←hol]
  refine qs (yd true (out) (m) (by omega) (hog) (hov)) (by simp(disch:=omega)only[go_sem]) ?_
  rintro r hs (⟨h0,rfl,rfl⟩|⟨zs,rfl,rfl⟩)
  ·refine⟨⟨by simp,by simp(disch:=omega)only[go_sem]⟩,?_⟩
   simp(disch:=omega)only[go_sem]
   refine ql [] [] [] [.ag [.v (.slice none 0 0)]] rfl (by simp(disch:=omega)only[go_sem]) (by simp(disch:=omega)only[go_sem]) (by simp) (by intro _;simp[zr,AV.pu,AV.pu.puL,Ob.pu,qV]) (.inl ⟨h0,rfl,rfl⟩)
  ·refine⟨⟨by simp,by simp(disch:=omega)only[go_sem]⟩,?_⟩
   simp(disch:=omega)only[go_sem]
   refine ql [(0,810000000)] [.own 1 (qg (lim (m)++zs))] [] [.ag [.rf 0 0 (lim (m)).length]] rfl (by simp(disch:=omega)only[go_sem]) (by simp(disch:=omega)only[go_sem]) (by simp) (by intro _;simp[zr,AV.pu,AV.pu.puL,Ob.pu,qV]) (.inr ⟨zs,rfl,rfl⟩)
theorem ajm(cl:Bool)(a b:Nat)(la:(lim a).length≤1000000)(lb:(lim b).length≤1000000):Con Tryz.prog 264 cl [.ag [.sl (lim (a)).length (qg (lim (a)))],.ag [.sl (lim (b)).length (qg (lim (b)))]] [] (amn (a*b)):=
 XP cl (lim a) (zf a) b la lb (a*b) (by rw[zb,Int.natCast_mul])
end Go.Ab
namespace Go.Ab
open Go Go.Proofs
theorem Qw(k:Nat)(h:k<16):(0:Int)<2^k∧(2:Int)^k≤32768:=by
 have:∀k,k<16→(0:Int)<2^k∧(2:Int)^k≤32768:=by decide
 exact this k h
theorem ahu{x:Int}(hx:0≤x∧x<65536){k:Nat}(hk:k<16):0≤x*2^k∧x*2^k≤2147450880:=by
 obtain⟨h1,h2⟩:=Qw k hk
 have h3:=Int.mul_nonneg hx.1 (Int.le_of_lt h1)
 have h4:x*2^k≤65535*32768:=Int.mul_le_mul (by omega) h2 (by omega) (by omega)
 omega
theorem KM(k:Nat):(65536:Int)^(k/16)*2^(k % 16)=2^k:=by
 have e:(65536:Int)=2^16:=by decide
 rw[e,←Int.pow_mul,←Int.pow_add,Nat.div_add_mod]
theorem azm(cl:Bool)(A:List Int)(k:Nat)(hA:gd A)(lA:A.length≤1000000)(hk:k≤100000000):
  Con Tryz.prog 214 cl [.sl A.length (qg A),.v (.int .i64 k)] [] (ahi (lim (vl A*2^k).toNat)):=by
 refine Con.of_aw Tryz.func214 rfl Tryz.ntmps214 (by simp) (by simp) (by simp) (W.sound ?_)
 show @W Tryz.prog 46 ⟨_⟩ ⟨fun x σ=>@qY _ _ _ ⟨_⟩ _ ⟨_⟩ x σ⟩ _ _
 simp(disch:=omega)only[go_sem]
 refine qh (fun h0=>?_) (fun h0=>?_)
 ·simp(disch:=omega)only[go_sem,h0]
  have:A=[]:=List.length_eq_zero_iff.1 (by omega)
  subst this
  refine ql [] [] [] [.v (.slice none 0 0)] rfl (by simp(disch:=omega)only[go_sem]) (by simp(disch:=omega)only[go_sem]) (by simp) (by intro _;simp[zr,AV.pu,AV.pu.puL,Ob.pu,qV]) (.inl ⟨by simp[vl,qr],rfl,rfl⟩)
 ·simp(disch:=omega)only[go_sem,h0]
  refine⟨by omega,?_⟩
  have e16:((k:Int)/16).toNat=k/16:=by omega
  refine qi (fun x:Nat×List Int×Int=>[(1,.v (.int .i64 k)),(5,.rf 1 0 x.2.1.length),(6,.v (.int .i64 x.2.2)),(21,.sl A.length (qg A)),(22,.v (.int .i64 A.length)),(23,.v (.int .i64 x.1))])
   (fun x=>[(1,.own 1 (qg x.2.1))])
   (fun x=>x.1≤A.length∧x.2.1.length=k/16+x.1∧gd x.2.1∧(0≤x.2.2∧x.2.2<65536)∧vl x.2.1+65536^(k/16+x.1)*x.2.2=65536^(k/16)*2^(k % 16)*vl (A.take x.1))
   (fun x=>A.length-x.1) (0,List.replicate (k/16) 0,0) ⟨by simp,by simp,zy _,by simp,by simp[vl,jm]⟩
   (Le.lst [(1,220000000)] _ _ rfl (by simp(disch:=omega)only[go_sem,List.length_replicate,e16]) (by simp(disch:=omega)only[go_sem,e16])) ?_
  rintro⟨i,out,cy⟩ ⟨hi,hol,hog,hcy,hov⟩
  dsimp only at hi hol hog hcy hov ⊢
  simp(disch:=omega)only[go_sem]
  refine qh (fun h1=>?_) (fun h1=>?_)
  ·have hx:=qL hA i
   have hxs:=ahu hx (show k % 16<16 by omega)
   have em:min ((k:Int) % 16).toNat 64=k % 16:=by omega
   simp(disch:=omega)only[go_sem,h1,em]
   generalize hq:cy+A.getD i 0*2^(k % 16)=q
   refine⟨by omega,by omega,by omega,by omega,qe (i+1,out++[q % 65536],q/65536) [(1,390000000)] ⟨by show i+1≤_;omega,by simp[hol];omega,qN.2 ⟨hog,jx.2 (by omega)⟩,by show 0≤q/65536∧q/65536<65536;omega,?_⟩ (by show A.length-(i+1)<A.length-i;omega) rfl (by simp(disch:=omega)only[go_sem,List.length_append];try omega) (by simp(disch:=omega)only[go_sem])⟩
   show vl (out++[q % 65536])+65536^(k/16+(i+1))*(q/65536)=65536^(k/16)*2^(k % 16)*vl (A.take (i+1))
   rw[yf,q9,hol,←Nat.add_assoc,Int.pow_succ]
   have e3:q % 65536+65536*(q/65536)=q:=Int.emod_add_mul_ediv q 65536
   rw[Int.pow_add]at hov ⊢
   generalize (65536:Int)^i=Pi at*
   generalize (65536:Int)^(k/16)=Pk at*
   generalize (2:Int)^(k % 16)=Pm at*
   grind
  ·simp(disch:=omega)only[go_sem,h1]
   have hiA:i=A.length:=by omega
   subst hiA
   rw[List.take_length,KM]at hov
   have hov2:vl (out++[cy])=vl A*2^k:=by rw[yf,hol,hov];grind
   have hog2:gd (out++[cy]):=qN.2 ⟨hog,jx.2 hcy⟩
   refine⟨by omega,?_⟩
   have hl2:out.length+1=(out++[cy]).length:=by simp
   rw[hl2]
   refine zl false [460000000] (j9 (out++[cy]) (by simp;omega)) (by simp(disch:=omega)only[go_sem]) (by simp(disch:=omega)only[go_sem]) rfl (q7 (z:=1) (cs:=qg (out++[cy])) (by simp(disch:=omega)only[go_sem]) (by simp(disch:=omega)only[go_sem])) (by intro n hn;exact⟨_,List.mem_singleton.2 rfl,by rw[List.mem_singleton.1 hn];rfl⟩) ?_
   rintro r hs bs ⟨rfl,rfl,rfl⟩ _
   refine⟨by simp[qB],?_⟩
   simp(disch:=omega)only[go_sem]
   obtain⟨z,hz⟩:=ji (out++[cy])
   have hc:=jL hog2
   rw[hov2]at hc
   rw[hc]at hz ⊢
   refine ql [(0,460000000)] [.own 1 (qg (out++[cy]))] [] [.rf 0 0 (lim (vl A*2^k).toNat).length] rfl (by simp(disch:=omega)only[go_sem]) (by simp(disch:=omega)only[go_sem]) (by simp) (by intro _;simp[zr,AV.pu,AV.pu.puL,Ob.pu,qV]) (.inr ⟨List.replicate z 0,rfl,by rw[←hz]⟩)
end Go.Ab
namespace Go.Ab
open Go Go.Proofs
theorem drop_set{l:List Int}{i:Nat}(h:i<l.length)(z:Int):(l.set i z).drop i=z::l.drop (i+1):=by
 rw[List.drop_eq_getElem_cons (by simpa using h)]
 simp[List.drop_set]
theorem anX(cl:Bool)(A:List Int)(d:Nat)(hA:gd A)(lA:A.length≤1000000)(hd:0<d)(hd2:d<65536):
  Con Tryz.prog 327 cl [.sl A.length (qg A),.v (.int .i64 d)] [] (fun r hs bs=>∃zs,r=.tu [.rf 0 0 (lim (vl A/d).toNat).length,.v (.int .i64 (vl A % d))]∧hs=[.own 1 (qg (lim (vl A/d).toNat++zs))]):=by
 refine Con.of_aw Tryz.func327 rfl Tryz.ntmps327 (by simp) (by simp) (by simp) (W.sound ?_)
 show @W Tryz.prog 38 ⟨_⟩ ⟨fun x σ=>@qY _ _ _ ⟨_⟩ _ ⟨_⟩ x σ⟩ _ _
 simp(disch:=omega)only[go_sem]
 refine⟨by omega,?_⟩
 refine qi (fun x:Nat×List Int×Int=>[(0,.sl A.length (qg A)),(1,.v (.int .i64 d)),(6,.rf 130000000 0 A.length),(7,.v (.int .i64 x.2.2)),(8,.v (.int .i64 ((x.1:Int)-1)))])
  (fun x=>[(130000000,.own 1 (qg x.2.1))])
  (fun x=>x.1≤A.length∧x.2.1.length=A.length∧gd x.2.1∧x.2.2=vl (A.drop x.1) % d∧vl (x.2.1.drop x.1)=vl (A.drop x.1)/d)
  (fun x=>x.1) (A.length,List.replicate A.length 0,0) ⟨by simp,by simp,zy _,by simp[vl],by simp[vl]⟩
  (Le.lst [] _ _ rfl (by simp(disch:=omega)only[go_sem];try omega) (by simp(disch:=omega)only[go_sem])) ?_
 rintro⟨m,out,rest⟩ ⟨hm,hol,hog,hr,hov⟩
 dsimp only at hm hol hog hr hov ⊢
 simp(disch:=omega)only[go_sem]
 refine qh (fun h1=>?_) (fun h1=>?_)
 ·obtain⟨i,rfl⟩:∃i,m=i+1:=⟨m-1,by omega⟩
  have e1:((i+1:Nat):Int)-1=(i:Nat):=by omega
  have hx:=qL hA i
  have hr2:0≤rest∧rest<d:=by rw[hr];exact⟨Int.emod_nonneg _ (by omega),Int.emod_lt_of_pos _ (by omega)⟩
  generalize hq:rest*65536+A.getD i 0=q
  have hq0:0≤q:=by omega
  have hqd:0≤q/d∧q/d<65536:=⟨Int.ediv_nonneg hq0 (by omega),Int.ediv_lt_of_lt_mul (by omega) (by omega)⟩
  have hqm:0≤q % d∧q % d<d:=⟨Int.emod_nonneg _ (by omega),Int.emod_lt_of_pos _ (by omega)⟩
  simp(disch:=omega)only[go_sem,h1,e1,hq]
  refine⟨by omega,by omega,by omega,by omega,by omega,by omega,qe (i,out.set i (q/d),q % d) [] ⟨by show i≤_;omega,by simp[hol],Qk hog hqd,?_,?_⟩ (by show i<i+1;omega) rfl (by simp(disch:=omega)only[go_sem]) (by simp(disch:=omega)only[go_sem])⟩
  ·show q % d=vl (A.drop i) % d
   rw[zT (l:=A) (i:=i) (by omega),←hq,hr]
   have h3:=Int.emod_add_mul_ediv (vl (A.drop (i+1))) d
   rw[show A.getD i 0+65536*vl (A.drop (i+1))=vl (A.drop (i+1)) % d*65536+A.getD i 0+d*(65536*(vl (A.drop (i+1))/d)) by grind,Int.add_mul_emod_self_left]
  ·show vl ((out.set i (q/d)).drop i)=vl (A.drop i)/d
   rw[drop_set (by omega),vl,hov,zT (l:=A) (i:=i) (by omega),←hq,hr]
   have h3:=Int.emod_add_mul_ediv (vl (A.drop (i+1))) d
   rw[show A.getD i 0+65536*vl (A.drop (i+1))=vl (A.drop (i+1)) % d*65536+A.getD i 0+d*(65536*(vl (A.drop (i+1))/d)) by grind,Int.add_mul_ediv_left _ _ (by omega)]
 ·simp(disch:=omega)only[go_sem,h1]
  have:m=0:=by omega
  subst this
  rw[List.drop_zero,List.drop_zero]at hov
  rw[List.drop_zero]at hr
  rw[←hol]
  refine zl false [130000000] (j9 out (by omega)) (by simp(disch:=omega)only[go_sem]) (by simp(disch:=omega)only[go_sem]) rfl (q7 (z:=1) (cs:=qg out) (by simp(disch:=omega)only[go_sem]) (by simp(disch:=omega)only[go_sem])) (by intro n hn;exact⟨_,List.mem_singleton.2 rfl,by rw[List.mem_singleton.1 hn];rfl⟩) ?_
  rintro r hs bs ⟨rfl,rfl,rfl⟩ _
  refine⟨by simp[qB],?_⟩
  simp(disch:=omega)only[go_sem]
  obtain⟨z,hz⟩:=ji out
  have hc:=jL hog
  rw[hov]at hc
  rw[hc]at hz ⊢
  rw[hr]
  refine ql [(0,130000000)] [.own 1 (qg out)] [] [.rf 0 0 (lim (vl A/d).toNat).length,.v (.int .i64 (vl A % d))] rfl (by simp(disch:=omega)only[go_sem]) (by simp(disch:=omega)only[go_sem]) (by simp) (by intro _;simp[zr,AV.pu,AV.pu.puL,Ob.pu,qV]) ⟨List.replicate z 0,rfl,by rw[←hz]⟩
end Go.Ab
namespace Go.Ab
open Go Go.Proofs
def avS(m:Nat)(r0:Int):AV→List Ob→List Ob→Prop:=fun r hs bs=>
 (m=0∧r=.tu [.ag [.v (.slice none 0 0)],.v (.int .i64 r0)]∧hs=[])∨∃zs,r=.tu [.ag [.rf 0 0 (lim m).length],.v (.int .i64 r0)]∧hs=[.own 1 (qg (lim m++zs))]
theorem Con.natF2{P:Program}{f:FuncId}{args:List AV}{m:Nat}{r0:Int}(h:Con P f false args [] (avS m r0)):Con P f false args [] (isA (.tu [.ag [.sl (lim (m)).length (qg (lim (m)))],.v (.int .i64 r0)])):=
 Con.frzA <| h.mono fun r hs bs h=>by
  rcases h with⟨rfl,rfl,rfl⟩|⟨zs,rfl,rfl⟩
  ·show qD _ 6 _=_
   rw[qr];rfl
  ·show qD _ 6 _=_
   rw[X9,List.map_cons,List.map_cons,List.map_nil,Vb,List.map_cons,List.map_nil,js (k:=2) (l:=lim m) (zs:=zs) qJ rfl]
   rfl
theorem JA(cl:Bool)(A:List Int)(d:Nat)(hA:gd A)(lA:A.length≤1000000)(hd:0<d)(hd2:d<65536)(m:Nat)(hm:vl A/(d:Int)=(m:Int)):
  Con Tryz.prog 249 cl [.ag [.sl A.length (qg A)],.v (.int .i64 d)] [] (avS m (vl A % d)):=by
 refine Con.of_aw Tryz.func249 rfl Tryz.ntmps249 (by simp) (by simp) (by simp) (W.sound ?_)
 show @W Tryz.prog 42 ⟨_⟩ ⟨fun x σ=>@qY _ _ _ ⟨_⟩ _ ⟨_⟩ x σ⟩ _ _
 simp(disch:=omega)only[go_sem]
 refine⟨by omega,?_⟩
 refine qi (fun x:Nat×List Int×Int=>[(1,.v (.int .i64 d)),(2,.pt 0 0),(4,.pt 1 0),(6,.rf 2 0 A.length),(7,.v (.int .i64 x.2.2)),(8,.v (.int .i64 ((x.1:Int)-1)))])
  (fun x=>[(0,.own 0 [.sl A.length (qg A)]),(1,.own 0 [.v (.slice none 0 0)]),(2,.own 1 (qg x.2.1))])
  (fun x=>x.1≤A.length∧x.2.1.length=A.length∧gd x.2.1∧x.2.2=vl (A.drop x.1) % d∧vl (x.2.1.drop x.1)=vl (A.drop x.1)/d)
  (fun x=>x.1) (A.length,List.replicate A.length 0,0) ⟨Nat.le_refl _,by simp,zy _,by simp[vl],by simp[vl]⟩
  (Le.lst [(0,40000000),(1,60000000),(2,150000000)] _ _ rfl (by simp(disch:=omega)only[go_sem,List.length_replicate];try omega) (by simp(disch:=omega)only[go_sem])) ?_
 rintro⟨k,out,rest⟩ ⟨hk,hol,hog,hr,hov⟩
 dsimp only at hk hol hog hr hov ⊢
 have hr0:0≤rest∧rest<d:=by rw[hr];exact⟨Int.emod_nonneg _ (by omega),Int.emod_lt_of_pos _ (by omega)⟩
 simp(disch:=omega)only[go_sem]
 refine qh (fun h1=>?_) (fun h1=>?_)
 ·obtain⟨i,rfl⟩:∃i,k=i+1:=⟨k-1,by omega⟩
  have ei:((i+1:Nat):Int)-1=(i:Nat):=by omega
  have hx:=qL hA i
  have hq6:0≤(rest*65536+A.getD i 0)/d∧(rest*65536+A.getD i 0)/d<65536:=by
   refine⟨Int.ediv_nonneg (by omega) (by omega),Int.ediv_lt_of_lt_mul (by omega) ?_⟩
   have:rest+1≤(d:Int):=by omega
   have:=Int.mul_le_mul_of_nonneg_left this (show(0:Int)≤65536 by omega)
   omega
  simp(disch:=omega)only[go_sem,h1,ei]
  generalize hq:rest*65536+A.getD i 0=q at*
  refine⟨by omega,by omega,by omega,by omega,by omega,by omega,qe (i,out.set i (q/d),q % d) [] ⟨by show i≤_;omega,by simp[hol],Qk hog hq6,?_,?_⟩ (by show i<i+1;omega) rfl (by simp(disch:=omega)only[go_sem];try omega) (by simp(disch:=omega)only[go_sem])⟩
  ·show q % d=vl (A.drop i) % d
   rw[zT (l:=A) (i:=i) (by omega),←hq,hr]
   have h3:=Int.emod_add_mul_ediv (vl (A.drop (i+1))) d
   rw[show A.getD i 0+65536*vl (A.drop (i+1))=vl (A.drop (i+1)) % d*65536+A.getD i 0+d*(65536*(vl (A.drop (i+1))/d)) by grind,Int.add_mul_emod_self_left]
  ·show vl ((out.set i (q/d)).drop i)=vl (A.drop i)/d
   rw[drop_set (by omega),vl,hov,zT (l:=A) (i:=i) (by omega),←hq,hr]
   have h3:=Int.emod_add_mul_ediv (vl (A.drop (i+1))) d
   rw[show A.getD i 0+65536*vl (A.drop (i+1))=vl (A.drop (i+1)) % d*65536+A.getD i 0+d*(65536*(vl (A.drop (i+1))/d)) by grind,Int.add_mul_ediv_left _ _ (by omega)]
 ·simp(disch:=omega)only[go_sem,h1]
  have:k=0:=by omega
  subst this
  rw[List.drop_zero,List.drop_zero,hm]at hov
  rw[List.drop_zero]at hr
  rw[←hol]
  refine qs (yd true out m (by omega) hog hov) (by simp(disch:=omega)only[go_sem]) ?_
  rintro r hs (⟨h0,rfl,rfl⟩|⟨zs,rfl,rfl⟩)
  ·refine⟨⟨by simp,by simp(disch:=omega)only[go_sem]⟩,?_⟩
   simp(disch:=omega)only[go_sem]
   rw[hr]
   refine ql [] [] [] [.ag [.v (.slice none 0 0)],.v (.int .i64 (vl A % d))] rfl (by simp(disch:=omega)only[go_sem]) (by simp(disch:=omega)only[go_sem]) (by simp) (by intro _;simp[zr,AV.pu,AV.pu.puL,Ob.pu,qV]) (.inl ⟨h0,rfl,rfl⟩)
  ·refine⟨⟨by simp,by simp(disch:=omega)only[go_sem]⟩,?_⟩
   simp(disch:=omega)only[go_sem]
   rw[hr]
   refine ql [(0,420000000)] [.own 1 (qg (lim m++zs))] [] [.ag [.rf 0 0 (lim m).length],.v (.int .i64 (vl A % d))] rfl (by simp(disch:=omega)only[go_sem]) (by simp(disch:=omega)only[go_sem]) (by simp) (by intro _;simp[zr,AV.pu,AV.pu.puL,Ob.pu,qV]) (.inr ⟨zs,rfl,rfl⟩)
theorem aaJ(a d:Nat)(la:(lim a).length≤1000000)(hd:0<d)(hd2:d<65536):
  Con Tryz.prog 249 false [.ag [.sl (lim (a)).length (qg (lim (a)))],.v (.int .i64 d)] [] (isA (.tu [.ag [.sl (lim (a/d)).length (qg (lim (a/d)))],.v (.int .i64 ((a % d:Nat):Int))])):=by
 have:=(JA false (lim a) d (zf a) la hd hd2 (a/d) (by rw[zb,Int.natCast_ediv])).natF2
 rwa[zb,←Int.natCast_emod]at this
/-! ### Shifts-/
theorem agD{k:Nat}(hk:k<16):IntKind.i64.wrap (1*2^(min ((k:Int)).toNat 64))=((2^k:Nat):Int):=by
 have e:min ((k:Int)).toNat 64=k:=by omega
 rw[e,Int.one_mul]
 have h:=Qw k hk
 rw[afV (by omega) (by omega),Int.natCast_pow];rfl
theorem ajl(cl:Bool)(a k:Nat)(la:(lim a).length≤400000)(hk:k≤5000000):Con Tryz.prog 247 cl [.ag [.sl (lim (a)).length (qg (lim (a)))],.v (.int .i64 k)] [] (amn (a*2^k)):=by
 refine Con.of_aw Tryz.func247 rfl Tryz.ntmps247 (by simp) (by simp) (by simp) (W.sound ?_)
 show @W Tryz.prog 22 ⟨_⟩ ⟨fun x σ=>@qY _ _ _ ⟨_⟩ _ ⟨_⟩ x σ⟩ _ _
 have hz:((lim a).length:Int)=0→a=0:=fun h=>qE.1 (List.length_eq_zero_iff.1 (by omega))
 have hvA:=zb a
 have gA:=zf a
 generalize hLA:lim a=A at*
 simp(disch:=omega)only[go_sem]
 refine qh (fun h1=>?_) (fun h1=>?_)
 ·simp(disch:=omega)only[go_sem,h1]
  have h0:=hz h1
  subst h0
  refine ql [] [] [] [.ag [.v (.slice none 0 0)]] rfl (by simp(disch:=omega)only[go_sem]) (by simp(disch:=omega)only[go_sem]) (by simp) (by intro _;simp[zr,AV.pu,AV.pu.puL,Ob.pu,qV]) (.inl ⟨by simp,rfl,rfl⟩)
 ·simp(disch:=omega)only[go_sem,h1]
  refine qq rfl [⟨0,[],[]⟩,⟨1,[],[]⟩,⟨3,[],[]⟩,⟨4,[],[]⟩,⟨7,[4],[]⟩,⟨8,[4],[]⟩,⟨9,[4],[]⟩,⟨2,[4],[]⟩,⟨5,[],[]⟩,⟨6,[],[]⟩,⟨10,[],[]⟩,⟨11,[],[]⟩,⟨12,[],[]⟩] (by kernel_rfl) ?_
  have e16:((k:Int)/16).toNat=k/16:=by omega
  have e17:(k:Int) % 16=((k % 16:Nat):Int):=by omega
  have es:IntKind.i64.wrap (1*2^(min ((k:Int) % 16).toNat 64))=((2^(k % 16):Nat):Int):=by rw[e17];exact agD (by omega)
  have hp15:2^(k % 16)≤2^15:=Nat.pow_le_pow_right (by omega) (by omega)
  have ecut:(List.replicate (k/16) (0:Int)).take (k/16)=List.replicate (k/16) 0:=List.take_of_length_le (by simp)
  simp(disch:=omega)only[go_sem,e16,ecut,es]
  refine⟨by omega,by omega,by simp;omega,?_⟩
  refine qa ((adN false (2^(k % 16)) (by omega)).natF) ?_
  simp(disch:=omega)only[go_sem]
  have hvA2:vl (List.replicate (k/16) 0++A)*((2^(k % 16):Nat):Int)=((a*2^k:Nat):Int):=by
   rw[Zp,jm,hvA,List.length_replicate]
   have h2:a*2^k=65536^(k/16)*a*2^(k % 16):=by
    have:2^k=65536^(k/16)*2^(k % 16):=by rw[Yh,←Nat.pow_add,Nat.div_add_mod]
    rw[this];grind
   rw[h2,Int.natCast_mul,Int.natCast_mul,Int.natCast_pow]
   simp
  have gA2:gd (List.replicate (k/16) 0++A):=qN.2 ⟨zy _,gA⟩
  have lA2:(List.replicate (k/16) (0:Int)++A).length=k/16+A.length:=by simp
  have et:(List.replicate (k/16) (0:Int)++A).take (k/16+A.length)=List.replicate (k/16) 0++A:=List.take_of_length_le (by simp)
  have l2s:(lim (2^(k % 16))).length≤1000000:=by
   have:=qv (m:=2^(k % 16)) (B:=16) (qZ.2 (by omega));omega
  refine qs (XP true (List.replicate (k/16) 0++A) gA2 (2^(k % 16)) (by omega) l2s (a*2^k) hvA2) (by simp(disch:=omega)only[go_sem,lA2,et]) ?_
  rintro r hs (⟨h0,rfl,rfl⟩|⟨zs,rfl,rfl⟩)
  ·refine⟨⟨by simp,by simp(disch:=omega)only[go_sem]⟩,?_⟩
   simp(disch:=omega)only[go_sem]
   refine ql [] [] [] [.ag [.v (.slice none 0 0)]] rfl (by simp(disch:=omega)only[go_sem]) (by simp(disch:=omega)only[go_sem]) (by simp) (by intro _;simp[zr,AV.pu,AV.pu.puL,Ob.pu,qV]) (.inl ⟨h0,rfl,rfl⟩)
  ·refine⟨⟨by simp,by simp(disch:=omega)only[go_sem]⟩,?_⟩
   simp(disch:=omega)only[go_sem]
   refine ql [(0,230000000)] [.own 1 (qg (lim (a*2^k)++zs))] [] [.ag [.rf 0 0 (lim (a*2^k)).length]] rfl (by simp(disch:=omega)only[go_sem]) (by simp(disch:=omega)only[go_sem]) (by simp) (by intro _;simp[zr,AV.pu,AV.pu.puL,Ob.pu,qV]) (.inr ⟨zs,rfl,rfl⟩)
end Go.Ab
namespace Go.Ab
open Go Go.Proofs
theorem aaK(a k:Nat)(la:(lim a).length≤1000000)(hk:k≤100000000):Con Tryz.prog 178 false [.ag [.sl (lim (a)).length (qg (lim (a)))],.v (.int .i64 k)] [] (isA (.ag [.sl (lim (a/2^k)).length (qg (lim (a/2^k)))])):=by
 refine Con.frzA ?_
 refine Con.of_aw Tryz.func178 rfl Tryz.ntmps178 (by simp) (by simp) (by simp) (W.sound ?_)
 show @W Tryz.prog 28 ⟨_⟩ ⟨fun x σ=>@qY _ _ _ ⟨_⟩ _ ⟨_⟩ x σ⟩ _ _
 simp(disch:=omega)only[go_sem]
 refine qh (fun h1=>?_) (fun h1=>?_)
 ·simp(disch:=omega)only[go_sem,h1]
  have h0:a/2^k=0:=by
   refine Nat.div_eq_of_lt (Nat.lt_of_lt_of_le (Jx a) ?_)
   rw[Yh];exact Nat.pow_le_pow_right (by omega) (by omega)
  rw[h0,qr]
  exact qn
 ·simp(disch:=omega)only[go_sem,h1]
  refine qq rfl [⟨0,[],[]⟩,⟨1,[],[]⟩,⟨2,[1],[]⟩,⟨3,[1],[]⟩,⟨4,[],[]⟩,⟨5,[],[]⟩,⟨6,[1,4],[]⟩,⟨7,[1,4],[]⟩,⟨8,[1,4],[]⟩,⟨13,[1,4],[]⟩,⟨9,[],[70000000]⟩,⟨10,[],[70000000]⟩,⟨11,[],[70000000]⟩,⟨12,[],[70000000]⟩,⟨14,[],[]⟩,⟨15,[],[]⟩] (by kernel_rfl) ?_
  have e16:((k:Int)/16).toNat=k/16:=by omega
  have e17:(k:Int) % 16=((k % 16:Nat):Int):=by omega
  have e18:(((lim a).length:Int)-(k:Int)/16).toNat=((lim a).drop (k/16)).length:=by simp;omega
  have es:IntKind.i64.wrap (1*2^(min ((k:Int) % 16).toNat 64))=((2^(k % 16):Nat):Int):=by rw[e17];exact agD (by omega)
  have hp15:2^(k % 16)≤2^15:=Nat.pow_le_pow_right (by omega) (by omega)
  have hp0:0<2^(k % 16):=Nat.pow_pos (by omega)
  have hvD:=acW (zf a) (i:=k/16) (by omega)
  have gD:=QD (zf a) (k/16)
  have hlD:((lim a).drop (k/16)).length≤1000000:=by simp;omega
  have hm:vl ((lim a).drop (k/16))/((2^(k % 16):Nat):Int)=((a/2^k:Nat):Int):=by
   rw[←hvD,zb]
   have:a/2^k=a/65536^(k/16)/2^(k % 16):=by rw[Nat.div_div_eq_div_mul,Yh,←Nat.pow_add,Nat.div_add_mod]
   rw[this,Int.natCast_ediv,Int.natCast_ediv,Int.natCast_pow 65536];rfl
  have et:((lim a).drop (k/16)).take ((lim a).drop (k/16)).length=(lim a).drop (k/16):=List.take_length
  simp(disch:=omega)only[go_sem,e16,e18,et,es]
  generalize (lim a).drop (k/16)=D at*
  refine⟨by omega,by omega,?_⟩
  refine qa ((JA false D (2^(k % 16)) gD hlD hp0 (by omega) (a/2^k) hm).natF2) ?_
  simp(disch:=omega)only[go_sem]
  exact qn
theorem XR(a:Nat)(la:(lim a).length≤2^40):Con Tryz.prog 208 true [.ag [.sl (lim (a)).length (qg (lim (a)))]] [] (isA (.v (.int .i64 (bl a)))):=by
 refine Con.of_aw Tryz.func208 rfl Tryz.ntmps208 (by simp) (by simp) (by simp) (W.sound ?_)
 show @W Tryz.prog 29 ⟨_⟩ ⟨fun x σ=>@qY _ _ _ ⟨_⟩ _ ⟨_⟩ x σ⟩ _ _
 simp(disch:=omega)only[go_sem]
 refine qh (fun h1=>?_) (fun h1=>?_)
 ·simp(disch:=omega)only[go_sem,h1]
  have:a=0:=qE.1 (List.length_eq_zero_iff.1 (by omega))
  subst this
  rw[QL]
  exact qt
 ·have hm:a≠0:=fun e=>by rw[e,qr]at h1;simp at h1
  have e2:(((lim a).length:Int)-1).toNat=(lim a).length-1:=by omega
  have ht:=Yq hm
  have hb:=ajY hm
  have eq:(lim a).getD ((lim a).length-1) 0=((a/65536^((lim a).length-1):Nat):Int):=by rw[jt,Nat.mod_eq_of_lt ht.2]
  generalize a/65536^((lim a).length-1)=q at*
  simp(disch:=omega)only[go_sem,h1,e2,eq]
  refine⟨by omega,by omega,?_⟩
  refine qi (fun x:Nat×Nat=>[(3,.v (.int .i64 x.1)),(4,.v (.int .i64 x.2))]) (fun _=>[]) (fun x=>x.1+bl x.2=bl a∧x.2<65536∧x.1≤2^45) (fun x=>x.2) (16*((lim a).length-1),q) ⟨hb.symm,ht.2,by show 16*((lim a).length-1)≤2^45;omega⟩ (Le.lst [] _ _ rfl (by simp(disch:=omega)only[go_sem];try omega) (by simp(disch:=omega)only[go_sem])) ?_
  rintro⟨n,x⟩ ⟨hn,hx,hn2⟩
  dsimp only at hn hx hn2 ⊢
  simp(disch:=omega)only[go_sem]
  refine qh (fun h2=>?_) (fun h2=>?_)
  ·simp(disch:=omega)only[go_sem,h2]
   have hd:=apv (x:=x) (by omega)
   have hp:=qZ.2 (show x<2^16 by omega)
   refine qe (n+1,x/2) [] ⟨by show n+1+bl (x/2)=bl a;omega,by show x/2<65536;omega,?_⟩ (by show x/2<x;omega) rfl (by simp(disch:=omega)only[go_sem];try omega) (by simp(disch:=omega)only[go_sem])
   show n+1≤2^45
   have:=Za (m:=a)
   omega
  ·simp(disch:=omega)only[go_sem,h2]
   have:x=0:=by omega
   subst this
   rw[QL]at hn
   refine qu (by simp(disch:=omega)only[go_sem]) (by simp(disch:=omega)only[go_sem]) ⟨?_,rfl,rfl⟩
   simp[zr];omega
theorem ZO(m:Nat)(i:Int)(hl:(lim m).length≤2^40)(hi:0≤i)(hi2:i<2^62):Con Tryz.prog 106 true [.ag [.sl (lim (m)).length (qg (lim (m)))],.v (.int .i64 i)] [] (isA (.v (.int .i64 ((m/2^i.toNat % 2:Nat):Int)))):=by
 refine Con.of_w (rs:=[.tmp 4]) Tryz.func106 rfl Tryz.ntmps106 rfl ?_
 obtain⟨k,rfl⟩:=Int.eq_ofNat_of_zero_le hi
 rw[Int.toNat_natCast]
 have h0:¬((k:Int)<0):=by omega
 have e16:((k:Int)/16).toNat=k/16:=by omega
 have em:min ((k:Int) % 16).toNat 64=k % 16:=by omega
 have hb:=ajZ m k
 simp(disch:=omega)only[go_sem,h0]
 refine qh (fun h1=>?_) (fun h1=>?_)
 ·simp(disch:=omega)only[go_sem,h1]
  have:m/2^k % 2=0:=by
   rw[←hb]
   have h2:=jt m (k/16)
   rw[List.getD_eq_getElem?_getD,List.getElem?_eq_none (by omega)]at h2
   have h3:m/65536^(k/16) % 65536=0:=by simp only[Option.getD_none]at h2;omega
   rw[h3];simp
  rw[this]
  exact qt
 ·have hx:=qL (zf m) (k/16)
  have hp:(0:Int)<2^(k % 16):=Int.pow_pos (by omega)
  have efd:∀x:Int,x.fdiv (2^(k % 16))=x/2^(k % 16):=fun x=>Int.fdiv_eq_ediv_of_nonneg _ (Int.le_of_lt hp)
  have hq:0≤(lim m).getD (k/16) 0/2^(k % 16)∧(lim m).getD (k/16) 0/2^(k % 16)<65536:=by
   refine⟨Int.ediv_nonneg hx.1 (Int.le_of_lt hp),Int.lt_of_le_of_lt (Int.ediv_le_self _ hx.1) hx.2⟩
  have hr:(lim m).getD (k/16) 0/2^(k % 16) % 2=((m/2^k % 2:Nat):Int):=by
   rw[←hb,jt]
   generalize m/65536^(k/16) % 65536=x
   rw[Int.natCast_emod,Int.natCast_ediv,Int.natCast_pow];rfl
  simp(disch:=omega)only[go_sem,h1,e16,em,efd,hr]
  refine⟨by omega,by omega,by omega,?_⟩
  exact qt
theorem akw{m i:Nat}(hz:∀j,j<i→m/2^j % 2=0)(h1:m/2^i % 2=1):tz m=i:=by
 have key:∀k,k≤i→2^k*(m/2^k)=m:=by
  intro k
  induction k with
  |zero=>intro _;simp
  |succ k ih=>
   intro hk
   have h2:=ih (by omega)
   have h3:=hz k (by omega)
   have h4:m/2^(k+1)=m/2^k/2:=by rw[Nat.pow_succ,Nat.div_div_eq_div_mul]
   rw[h4,Nat.pow_succ,Nat.mul_assoc,show 2*(m/2^k/2)=m/2^k by omega];exact h2
 refine J3 (a:=m/2^i/2) ?_
 have:=key i (Nat.le_refl _)
 rw[show 2*(m/2^i/2)+1=m/2^i by omega];exact this.symm
theorem YP(m:Nat)(hl:(lim m).length≤2^40):Con Tryz.prog 177 true [.ag [.sl (lim (m)).length (qg (lim (m)))]] [] (isA (.v (.int .i64 (tz m)))):=by
 refine Con.of_w (rs:=[.tmp 2]) Tryz.func177 rfl Tryz.ntmps177 rfl ?_
 simp(disch:=omega)only[go_sem]
 refine qi (fun i:Nat=>[(1,.pt 0 0),(3,.v (.int .i64 i))]) (fun _=>[(0,.own 0 [.sl (lim (m)).length (qg (lim (m)))])]) (fun i=>i≤16*(lim m).length∧∀j,j<i→m/2^j % 2=0) (fun i=>16*(lim m).length-i) 0 ⟨by omega,fun j hj=>by omega⟩ (Le.lst [(0,30000000)] _ _ rfl (by simp(disch:=omega)only[go_sem];try omega) (by simp(disch:=omega)only[go_sem])) ?_
 rintro i ⟨hi,hz⟩
 simp(disch:=omega)only[go_sem]
 refine qh (fun h1=>?_) (fun h1=>?_)
 ·simp(disch:=omega)only[go_sem,h1]
  refine qm (ZO m i hl (by omega) (by omega)) ?_
  simp(disch:=omega)only[go_sem]
  refine qh (fun h2=>?_) (fun h2=>?_)
  ·simp(disch:=omega)only[go_sem,h2]
   have:=akw hz (by omega)
   rw[this]
   exact qt
  ·simp(disch:=omega)only[go_sem,h2]
   refine qe (i+1) [] ⟨by omega,fun j hj=>?_⟩ (by show 16*(lim m).length-(i+1)<16*(lim m).length-i;omega) rfl (by simp(disch:=omega)only[go_sem];try omega) (by simp(disch:=omega)only[go_sem])
   rcases(by omega:j<i∨j=i)with h|h
   ·exact hz j h
   ·subst h;omega
 ·simp(disch:=omega)only[go_sem,h1]
  have hm:m=0:=by
   have h3:=Za (m:=m)
   rcases Nat.eq_zero_or_pos m with h|h
   ·exact h
   ·have h4:=yV (n:=m) (by omega)
    have h5:=(ZB (n:=m) (by omega)).1
    have:=hz (tz m) (by omega)
    omega
  subst hm
  rw[afZ]
  exact qt
end Go.Ab
namespace Go.Ab
open Go Go.Proofs
set_option maxRecDepth 100000 in
theorem acy(U V:List Int)(j:Nat)(hU:gd U)(hV:gd V)(lU:U.length≤2000000)(h2:2≤V.length)(hj:j+V.length<U.length)(hv1:32768≤V.getD (V.length-1) 0)(hW:vl (U.drop j)<65536*vl V):
  Con Tryz.prog 328 true [.sl U.length (qg U),.sl V.length (qg V),.v (.int .i64 j)] [] (fun r hs bs=>∃q:Int,r=.v (.int .i64 q)∧hs=[]∧bs=[]∧(0≤q∧q<65536)∧vl (U.drop j)<(q+1)*vl V∧q*vl V<vl (U.drop j)+vl V):=by
 refine Con.of_aw Tryz.func328 rfl Tryz.ntmps328 (by simp) (by simp) (by simp) (W.sound ?_)
 show @W Tryz.prog 76 ⟨_⟩ ⟨fun x σ=>@qY _ _ _ ⟨_⟩ _ ⟨_⟩ x σ⟩ _ _
 have hDl:V.length<(U.drop j).length:=by simp;omega
 have hz:=acX (QD hU j) hV hDl hW
 have hw:=aup hDl h2 hz
 have hvv:=apA h2
 rw[jE,jE,jE]at hw
 have hx0:=zi (y9 (QD hU j) (V.length-2))
 have hx1:=JH (y9 (QD hU j) (V.length-2))
 have hy0:=zi (y9 hV (V.length-2))
 have hy1:=JH (y9 hV (V.length-2))
 rw[List.length_take,Nat.min_eq_left (by omega)]at hx1 hy1
 have gu0:=qL hU (j+V.length)
 have gu1:=qL hU (j+(V.length-1))
 have gu2:=qL hU (j+(V.length-2))
 have gv1:=qL hV (V.length-1)
 have gv2:=qL hV (V.length-2)
 have htop:=av6 hw hvv ⟨hx0,hx1⟩ ⟨hy0,hy1⟩ gu2.1 gu1.1 gv2.2 hW
 have e0:((j:Int)+(V.length:Int)).toNat=j+V.length:=by omega
 have e1:((j:Int)+(V.length:Int)-1).toNat=j+(V.length-1):=by omega
 have e2:((j:Int)+(V.length:Int)-2).toNat=j+(V.length-2):=by omega
 have f1:((V.length:Int)-1).toNat=V.length-1:=by omega
 have f2:((V.length:Int)-2).toNat=V.length-2:=by omega
 simp(disch:=omega)only[go_sem]
 refine qq rfl [⟨0,[],[]⟩,⟨1,[],[]⟩,⟨2,[],[]⟩,⟨3,[],[]⟩,⟨4,[],[]⟩,⟨5,[],[]⟩,⟨6,[],[]⟩,⟨7,[5],[]⟩,⟨8,[5],[]⟩,⟨9,[5],[]⟩,⟨10,[5],[]⟩,⟨11,[5],[]⟩,⟨12,[5],[]⟩,⟨13,[5],[]⟩,⟨14,[],[]⟩,⟨15,[],[]⟩] (by kernel_rfl) ?_
 simp(disch:=omega)only[go_sem,e0,e1]
 generalize hu0:U.getD (j+V.length) 0=u0 at*
 generalize hu1:U.getD (j+(V.length-1)) 0=u1 at*
 generalize hu2:U.getD (j+(V.length-2)) 0=u2 at*
 refine⟨by omega,by omega,by omega,by omega,?_⟩
 refine qq rfl [⟨0,[],[]⟩,⟨1,[],[]⟩,⟨2,[],[]⟩,⟨3,[],[]⟩,⟨4,[],[]⟩,⟨5,[],[]⟩,⟨6,[],[]⟩,⟨7,[5],[]⟩,⟨8,[5],[]⟩,⟨9,[5],[]⟩,⟨10,[5],[]⟩,⟨11,[5],[]⟩,⟨12,[5],[]⟩,⟨13,[5],[]⟩,⟨14,[12],[]⟩,⟨15,[],[]⟩] (by kernel_rfl) ?_
 simp(disch:=omega)only[go_sem,f1]
 generalize hvv1:V.getD (V.length-1) 0=v1 at*
 generalize hvv2:V.getD (V.length-2) 0=v2 at*
 generalize htt:u0*65536+u1=top at*
 refine⟨by omega,by omega,by omega,by omega,by omega,by omega,?_⟩
 have hq0:0≤top/v1:=Int.ediv_nonneg (by omega) (by omega)
 have hq1:top/v1≤65537:=by
  have:top/v1<65538:=Int.ediv_lt_of_lt_mul (by omega) (by omega)
  omega
 have hr0:=Int.emod_nonneg top (show v1≠0 by omega)
 have hr1:=Int.emod_lt_of_pos top (show 0<v1 by omega)
 have hqr:=Int.emod_add_mul_ediv top v1
 have hini:=ar1 hw hvv ⟨hx0,hx1⟩ ⟨hy0,hy1⟩ gu2 gv2.1 hq0 (show top<(top/v1+1)*v1 by rw[Int.add_mul,Int.mul_comm (top/v1)];omega)
 have hqr':top/v1*v1+top % v1=top:=by rw[Int.mul_comm];omega
 generalize top/v1=q0 at*
 generalize top % v1=r0 at*
 refine qi (fun x:Int×Int=>[(0,.sl U.length (qg U)),(1,.sl V.length (qg V)),(2,.v (.int .i64 j)),(7,.v (.int .i64 V.length)),(9,.v (.int .i64 x.1)),(10,.v (.int .i64 x.2))])
  (fun _=>[]) (fun x=>(0≤x.1∧x.1≤65537)∧(0≤x.2∧x.2<65536)∧x.1*v1+x.2=top∧vl (U.drop j)<(x.1+1)*vl V) (fun x=>x.1.toNat) (q0,r0) ⟨⟨hq0,hq1⟩,⟨hr0,by omega⟩,hqr',hini⟩
  (Le.lst [] _ _ rfl (by simp(disch:=omega)only[go_sem];try omega) (by simp(disch:=omega)only[go_sem])) ?_
 rintro⟨q,r⟩ ⟨hq,hr,hqr2,hlt⟩
 dsimp only at hq hr hqr2 hlt ⊢
 have hqv:0≤q*v2∧q*v2≤65537*65535:=⟨Int.mul_nonneg hq.1 gv2.1,Int.mul_le_mul hq.2 (by omega) gv2.1 (by omega)⟩
 simp(disch:=omega)only[go_sem]
 refine qq rfl [⟨0,[],[]⟩,⟨1,[],[]⟩,⟨2,[],[]⟩,⟨3,[],[]⟩,⟨4,[],[]⟩,⟨5,[],[]⟩,⟨6,[],[]⟩,⟨7,[],[]⟩,⟨8,[],[]⟩,⟨9,[],[]⟩,⟨10,[8],[]⟩,⟨11,[8],[]⟩,⟨12,[8],[]⟩,⟨13,[8],[]⟩,⟨14,[8],[]⟩,⟨15,[8],[]⟩,⟨16,[8],[]⟩,⟨17,[8],[]⟩,⟨18,[8],[]⟩,⟨19,[8],[]⟩,⟨20,[],[]⟩,⟨21,[],[]⟩] (by kernel_rfl) ?_
 simp(disch:=omega)only[go_sem]
 refine jv (fun h1=>?_) (fun h1=>?_)
 ·simp(disch:=omega)only[go_sem,h1,e2,f2,hu2,hvv2]
  refine⟨by omega,by omega,by omega,by omega,qh (fun h2=>?_) (fun h2=>?_)⟩
  ·simp(disch:=omega)only[go_sem,h2,f1,hvv1]
   have hst:=ahS hw hvv ⟨hx0,hx1⟩ ⟨hy0,hy1⟩ hW gv2.1 (by omega) hq.1 hqr2 (.inr h2)
   have hqp:0<q:=by
    rcases(by omega:0<q∨q=0)with h|h
    ·exact h
    ·subst h;omega
   have hm:(q-1)*v1+(r+v1)=top:=by rw[Int.sub_mul];omega
   refine⟨by omega,by omega,qh (fun h3=>?_) (fun h3=>?_)⟩
   ·simp(disch:=omega)only[go_sem,h3]
    have h4:q-1<65536:=by
     rcases(by omega:q-1<65536∨65536≤q-1)with h|h
     ·exact h
     ·have:=Int.mul_le_mul_of_nonneg_right h (show 0≤v1 by omega)
      omega
    have h5:(q-1)*v2≤(r+v1)*65536+u2:=by
     have:(q-1)*v2≤65535*65535:=Int.mul_le_mul (by omega) (by omega) gv2.1 (by omega)
     omega
    have h6:=abL hw hvv ⟨hx0,hx1⟩ ⟨hy0,hy1⟩ gv2.1 (by omega) ⟨by omega,h4⟩ hm h5
    exact qu (by simp(disch:=omega)only[go_sem]) (by simp(disch:=omega)only[go_sem]) ⟨q-1,rfl,rfl,rfl,⟨by omega,h4⟩,by rw[show q-1+1=q by omega];exact hst,h6⟩
   ·simp(disch:=omega)only[go_sem,h3]
    refine qe (q-1,r+v1) [] ⟨by show 0≤q-1∧q-1≤65537;omega,by show 0≤r+v1∧r+v1<65536;omega,hm,by show _<(q-1+1)*vl V;rw[show q-1+1=q by omega];exact hst⟩ (by show(q-1).toNat<q.toNat;omega) rfl (by simp(disch:=omega)only[go_sem];try omega) (by simp(disch:=omega)only[go_sem])
  ·simp(disch:=omega)only[go_sem,h2]
   have h6:=abL hw hvv ⟨hx0,hx1⟩ ⟨hy0,hy1⟩ gv2.1 (by omega) ⟨hq.1,by omega⟩ hqr2 (by omega)
   exact qu (by simp(disch:=omega)only[go_sem]) (by simp(disch:=omega)only[go_sem]) ⟨q,rfl,rfl,rfl,⟨hq.1,by omega⟩,hlt,h6⟩
 ·simp(disch:=omega)only[go_sem,h1,f1,hvv1]
  have hst:=ahS hw hvv ⟨hx0,hx1⟩ ⟨hy0,hy1⟩ hW gv2.1 (by omega) hq.1 hqr2 (.inl h1)
  have hqp:0<q:=by omega
  have hm:(q-1)*v1+(r+v1)=top:=by rw[Int.sub_mul];omega
  refine⟨by omega,by omega,qh (fun h3=>?_) (fun h3=>?_)⟩
  ·simp(disch:=omega)only[go_sem,h3]
   have h4:q-1<65536:=by
    rcases(by omega:q-1<65536∨65536≤q-1)with h|h
    ·exact h
    ·have:=Int.mul_le_mul_of_nonneg_right h (show 0≤v1 by omega)
     omega
   have h5:(q-1)*v2≤(r+v1)*65536+u2:=by
    have:(q-1)*v2≤65535*65535:=Int.mul_le_mul (by omega) (by omega) gv2.1 (by omega)
    omega
   have h6:=abL hw hvv ⟨hx0,hx1⟩ ⟨hy0,hy1⟩ gv2.1 (by omega) ⟨by omega,h4⟩ hm h5
   exact qu (by simp(disch:=omega)only[go_sem]) (by simp(disch:=omega)only[go_sem]) ⟨q-1,rfl,rfl,rfl,⟨by omega,h4⟩,by rw[show q-1+1=q by omega];exact hst,h6⟩
  ·simp(disch:=omega)only[go_sem,h3]
   refine qe (q-1,r+v1) [] ⟨by show 0≤q-1∧q-1≤65537;omega,by show 0≤r+v1∧r+v1<65536;omega,hm,by show _<(q-1+1)*vl V;rw[show q-1+1=q by omega];exact hst⟩ (by show(q-1).toNat<q.toNat;omega) rfl (by simp(disch:=omega)only[go_sem];try omega) (by simp(disch:=omega)only[go_sem])
end Go.Ab
namespace Go.Ab
open Go Go.Proofs
theorem aaA(U V:List Int)(j:Nat)(q:Int)(hU:gd U)(hV:gd V)(lU:U.length≤2000000)(hj:j+V.length<U.length)(hq:0≤q∧q<65536):
  Con Tryz.prog 329 false [.rf 10000000 0 U.length,.sl V.length (qg V),.v (.int .i64 j),.v (.int .i64 q)] [.own 1 (qg U)]
   (fun r hs bs=>∃(U':List Int) (bo:Int),r=.v (.bool (decide (U.getD (j+V.length) 0-bo<0)))∧hs=[]∧bs=[.own 1 (qg (U'.set (j+V.length) (U.getD (j+V.length) 0-bo)))]∧
    U'.length=U.length∧gd U'∧(0≤bo∧bo<65536)∧(∀t,t<j∨j+V.length≤t→U'.getD t 0=U.getD t 0)∧vl U'-65536^(j+V.length)*bo=vl U-65536^j*(q*vl V)):=by
 refine Con.of_aw Tryz.func329 rfl Tryz.ntmps329 (by simp) (by simp) (by simp) (W.sound ?_)
 show @W Tryz.prog 68 ⟨_⟩ ⟨fun x σ=>@qY _ _ _ ⟨_⟩ _ ⟨_⟩ x σ⟩ _ _
 simp(disch:=omega)only[go_sem]
 refine qi (fun x:Nat×List Int×Int=>[(0,.rf 10000000 0 U.length),(1,.sl V.length (qg V)),(2,.v (.int .i64 j)),(3,.v (.int .i64 q)),(9,.v (.int .i64 x.2.2)),(13,.sl V.length (qg V)),(14,.v (.int .i64 V.length)),(15,.v (.int .i64 x.1))])
  (fun x=>[(10000000,.own 1 (qg x.2.1))])
  (fun x=>x.1≤V.length∧x.2.1.length=U.length∧gd x.2.1∧(0≤x.2.2∧x.2.2<65536)∧(∀t,t<j∨j+x.1≤t→x.2.1.getD t 0=U.getD t 0)∧vl x.2.1-65536^(j+x.1)*x.2.2=vl U-65536^j*(q*vl (V.take x.1)))
  (fun x=>V.length-x.1) (0,U,0) ⟨by simp,rfl,hU,by simp,fun _ _=>rfl,by simp[vl]⟩
  (Le.lst [] _ _ rfl (by simp(disch:=omega)only[go_sem];try omega) (by simp(disch:=omega)only[go_sem])) ?_
 rintro⟨i,U1,bo⟩ ⟨hi,hl1,hg1,hbo,hsame,hval⟩
 dsimp only at hi hl1 hg1 hbo hsame hval ⊢
 simp(disch:=omega)only[go_sem]
 refine qh (fun h1=>?_) (fun h1=>?_)
 ·have hx:=qL hV i
  have hu:=qL hg1 (j+i)
  have hqx:0≤q*V.getD i 0∧q*V.getD i 0≤65535*65535:=⟨Int.mul_nonneg hq.1 hx.1,Int.mul_le_mul (by omega) (by omega) hx.1 (by omega)⟩
  have e1:((j:Int)+(i:Int)).toNat=j+i:=by omega
  have hstep:∀d b:Int,d-65536*b=U1.getD (j+i) 0-q*V.getD i 0-bo→vl (U1.set (j+i) d)-65536^(j+(i+1))*b=vl U-65536^j*(q*vl (V.take (i+1))):=by
   intro d b hd
   rw[Js (by omega),q9,←Nat.add_assoc,Int.pow_succ]
   have e3:(65536:Int)^(j+i)=65536^j*65536^i:=Int.pow_add _ _ _
   rw[e3]at hval ⊢
   generalize (65536:Int)^i=Pi at*
   generalize (65536:Int)^j=Pj at*
   grind
  have hsm:∀d:Int,∀t,t<j∨j+(i+1)≤t→(U1.set (j+i) d).getD t 0=U.getD t 0:=fun d t ht=>by
   rw[j7 (by omega),if_neg (by omega)];exact hsame t (by omega)
  simp(disch:=omega)only[go_sem,h1,e1]
  refine⟨by omega,by omega,by omega,by omega,qh (fun h2=>?_) (fun h2=>?_)⟩
  ·simp(disch:=omega)only[go_sem,h2,e1]
   generalize hb:(0-(U1.getD (j+i) 0-q*V.getD i 0-bo)+65536-1)/65536=b
   refine⟨by omega,by omega,qe (i+1,U1.set (j+i) (U1.getD (j+i) 0-q*V.getD i 0-bo+b*65536),b) [] ⟨by show i+1≤_;omega,by simp[hl1],Qk hg1 (by omega),by show 0≤b∧b<65536;omega,hsm _,hstep (U1.getD (j+i) 0-q*V.getD i 0-bo+b*65536) b (by omega)⟩
    (by show V.length-(i+1)<V.length-i;omega) rfl (by simp(disch:=omega)only[go_sem];try omega) (by simp(disch:=omega)only[go_sem])⟩
  ·simp(disch:=omega)only[go_sem,h2,e1]
   refine⟨by omega,by omega,qe (i+1,U1.set (j+i) (U1.getD (j+i) 0-q*V.getD i 0-bo),0) [] ⟨by show i+1≤_;omega,by simp[hl1],Qk hg1 (by omega),by simp,hsm _,hstep (U1.getD (j+i) 0-q*V.getD i 0-bo) 0 (by omega)⟩
    (by show V.length-(i+1)<V.length-i;omega) rfl (by simp(disch:=omega)only[go_sem];try omega) (by simp(disch:=omega)only[go_sem])⟩
 ·have hiA:i=V.length:=by omega
  subst hiA
  rw[List.take_length]at hval
  have e1:((j:Int)+(V.length:Int)).toNat=j+V.length:=by omega
  have hu:=qL hg1 (j+V.length)
  have es:=hsame (j+V.length) (by omega)
  have eg:(U1.set (j+V.length) (U.getD (j+V.length) 0-bo)).getD (j+V.length) 0=U.getD (j+V.length) 0-bo:=by rw[j7 (by omega),if_pos rfl]
  simp(disch:=omega)only[go_sem,h1,e1,es]
  refine⟨by omega,by omega,by omega,by omega,by omega,by simp;omega,?_⟩
  simp(disch:=omega)only[go_sem,eg]
  refine ql [] [] [.own 1 (qg (U1.set (j+V.length) (U.getD (j+V.length) 0-bo)))] [.v (.bool (decide (U.getD (j+V.length) 0-bo<0)))] rfl (by simp(disch:=omega)only[go_sem]) (by simp(disch:=omega)only[go_sem]) (by simp) (by simp) ⟨U1,bo,rfl,rfl,rfl,hl1,hg1,hbo,hsame,hval⟩
theorem acA(U V:List Int)(j:Nat)(hU:∀t,t≠j+V.length→0≤U.getD t 0∧U.getD t 0<65536)(hUt: -65536≤U.getD (j+V.length) 0∧U.getD (j+V.length) 0<65536)(hV:gd V)(lU:U.length≤2000000)(hj:j+V.length<U.length):
  Con Tryz.prog 330 false [.rf 10000000 0 U.length,.sl V.length (qg V),.v (.int .i64 j)] [.own 1 (qg U)]
   (fun r hs bs=>∃(U':List Int),r=.tu []∧hs=[]∧bs=[.own 1 (qg U')]∧
    U'.length=U.length∧(∀t,t≠j+V.length→0≤U'.getD t 0∧U'.getD t 0<65536)∧(∀t,t<j∨j+V.length<t→U'.getD t 0=U.getD t 0)∧vl U'=vl U+65536^j*vl V):=by
 refine Con.of_aw Tryz.func330 rfl Tryz.ntmps330 (by simp) (by simp) (by simp) (W.sound ?_)
 show @W Tryz.prog 46 ⟨_⟩ ⟨fun x σ=>@qY _ _ _ ⟨_⟩ _ ⟨_⟩ x σ⟩ _ _
 simp(disch:=omega)only[go_sem]
 refine qi (fun x:Nat×List Int×Int=>[(0,.rf 10000000 0 U.length),(1,.sl V.length (qg V)),(2,.v (.int .i64 j)),(6,.v (.int .i64 x.2.2)),(9,.sl V.length (qg V)),(10,.v (.int .i64 V.length)),(11,.v (.int .i64 x.1))])
  (fun x=>[(10000000,.own 1 (qg x.2.1))])
  (fun x=>x.1≤V.length∧x.2.1.length=U.length∧(∀t,t≠j+V.length→0≤x.2.1.getD t 0∧x.2.1.getD t 0<65536)∧(0≤x.2.2∧x.2.2≤1)∧(∀t,t<j∨j+x.1≤t→x.2.1.getD t 0=U.getD t 0)∧vl x.2.1+65536^(j+x.1)*x.2.2=vl U+65536^j*vl (V.take x.1))
  (fun x=>V.length-x.1) (0,U,0) ⟨by simp,rfl,hU,by simp,fun _ _=>rfl,by simp[vl]⟩
  (Le.lst [] _ _ rfl (by simp(disch:=omega)only[go_sem];try omega) (by simp(disch:=omega)only[go_sem])) ?_
 rintro⟨i,U1,cy⟩ ⟨hi,hl1,hg1,hcy,hsame,hval⟩
 dsimp only at hi hl1 hg1 hcy hsame hval ⊢
 simp(disch:=omega)only[go_sem]
 refine qh (fun h1=>?_) (fun h1=>?_)
 ·have hx:=qL hV i
  have hu:=hg1 (j+i) (by omega)
  have e1:((j:Int)+(i:Int)).toNat=j+i:=by omega
  simp(disch:=omega)only[go_sem,h1,e1]
  generalize hb:cy+(U1.getD (j+i) 0+V.getD i 0)=b
  have hg2:∀t,t≠j+V.length→0≤(U1.set (j+i) (b % 65536)).getD t 0∧(U1.set (j+i) (b % 65536)).getD t 0<65536:=fun t ht=>by
   rw[j7 (by omega)]
   split
   ·omega
   ·exact hg1 t ht
  refine⟨by omega,by omega,by omega,by omega,by omega,by omega,qe (i+1,U1.set (j+i) (b % 65536),b/65536) [] ⟨by show i+1≤_;omega,by simp[hl1],hg2,by show 0≤b/65536∧b/65536≤1;omega,fun t ht=>?_,?_⟩
   (by show V.length-(i+1)<V.length-i;omega) rfl (by simp(disch:=omega)only[go_sem];try omega) (by simp(disch:=omega)only[go_sem])⟩
  ·show(U1.set (j+i) (b % 65536)).getD t 0=_
   have ht:t<j∨j+(i+1)≤t:=ht
   rw[j7 (by omega),if_neg (by omega)];exact hsame t (by omega)
  ·show vl (U1.set (j+i) (b % 65536))+65536^(j+(i+1))*(b/65536)=vl U+65536^j*vl (V.take (i+1))
   rw[Js (by omega),q9,←Nat.add_assoc,Int.pow_succ]
   have e3:(65536:Int)^(j+i)=65536^j*65536^i:=Int.pow_add _ _ _
   have e4:b % 65536+65536*(b/65536)=b:=Int.emod_add_mul_ediv b 65536
   rw[e3]at hval ⊢
   generalize (65536:Int)^i=Pi at*
   generalize (65536:Int)^j=Pj at*
   grind
 ·have hiA:i=V.length:=by omega
  subst hiA
  rw[List.take_length]at hval
  have e1:((j:Int)+(V.length:Int)).toNat=j+V.length:=by omega
  have es:=hsame (j+V.length) (by omega)
  simp(disch:=omega)only[go_sem,h1,e1,es]
  refine⟨by omega,by omega,by omega,by omega,?_⟩
  refine ql [] [] [.own 1 (qg (U1.set (j+V.length) (U.getD (j+V.length) 0+cy)))] [] rfl (by simp(disch:=omega)only[go_sem]) (by simp(disch:=omega)only[go_sem]) (by simp) (by simp) ⟨_,rfl,rfl,rfl,by simp[hl1],fun t ht=>?_,fun t ht=>?_,?_⟩
  ·rw[j7 (by omega),if_neg ht];exact hg1 t ht
  ·rw[j7 (by omega),if_neg (by omega)];exact hsame t (by omega)
  ·rw[Js (by omega),es]
   generalize (65536:Int)^(j+V.length)=Pj at*
   grind
end Go.Ab
namespace Go.Ab
open Go Go.Proofs
theorem ai1(cl:Bool)(n:Nat)(hn:n<2^63):Con Tryz.prog 111 cl [.v (.int .i64 n)] [] (ahi (lim n)):=by
 refine Con.of_aw Tryz.func111 rfl Tryz.ntmps111 (by simp) (by simp) (by simp) (W.sound ?_)
 show @W Tryz.prog 14 ⟨_⟩ ⟨fun x σ=>@qY _ _ _ ⟨_⟩ _ ⟨_⟩ x σ⟩ _ _
 simp(disch:=omega)only[go_sem]
 refine qi (fun x:Nat×List Int=>[(0,.v (.int .i64 x.1)),(3,.rf 1 0 x.2.length)]) (fun x=>[(1,.own 1 (qg x.2))]) (fun x=>x.1<2^63∧x.2++lim x.1=lim n) (fun x=>x.1) (n,[]) ⟨hn,rfl⟩
  ((Le.ghost 3 1 1 (by simp(disch:=omega)only[go_sem]) (by simp(disch:=omega)only[go_sem])).trans (Le.lst [] _ _ rfl (by simp(disch:=omega)only[go_sem]) (by simp(disch:=omega)only[go_sem]))) ?_
 rintro⟨k,l⟩ ⟨hk,hl⟩
 dsimp only at hk hl ⊢
 have hlen:l.length≤4:=by
  have h1:=congrArg List.length hl
  have h2:=y6 (n:=n) (k:=4) |>.2 (by omega)
  rw[List.length_append]at h1;omega
 simp(disch:=omega)only[go_sem]
 refine qh (fun h1=>?_) (fun h1=>?_)
 ·simp(disch:=omega)only[go_sem,h1]
  have hk0:k≠0:=by omega
  refine⟨by omega,qe (k/65536,l++[(k:Int) % 65536]) [(1,140000000)] ⟨by show k/65536<2^63;omega,?_⟩ (by show k/65536<k;omega) rfl (by simp(disch:=omega)only[go_sem,List.length_append];omega) (by simp(disch:=omega)only[go_sem])⟩
  rw[y4 hk0]at hl
  rw[←hl,List.append_assoc];rfl
 ·simp(disch:=omega)only[go_sem,h1]
  have hk0:k=0:=by omega
  subst hk0
  rw[qr,List.append_nil]at hl
  subst hl
  refine ql [(0,1)] [.own 1 (qg (lim n++[]))] [] [.rf 0 0 (lim n).length] rfl (by simp(disch:=omega)only[go_sem]) (by simp(disch:=omega)only[go_sem]) (by simp) (by intro _;simp[zr,AV.pu,AV.pu.puL,Ob.pu,qV]) (.inr ⟨[],rfl,rfl⟩)
end Go.Ab
namespace Go.Ab
open Go Go.Proofs
theorem amp(V P:Int)(hP:0<P):V % (P*65536)=V % P+P*(V/P % 65536):=by
 rw[Int.emod_def,Int.emod_def,Int.emod_def,←Int.ediv_ediv_of_nonneg (Int.le_of_lt hP)]
 grind
theorem alJ{s:Nat}(hs:s<16):(65536:Int)=2^s*2^(16-s):=by
 rw[←Int.pow_add,show s+(16-s)=16 by omega];decide
theorem aeX{D:List Int}(hD:gd D){i s:Nat}(hi:i<D.length)(hs:s<16):
  (vl D/2^s)/65536^i % 65536=(D.getD i 0+D.getD (i+1) 0*65536)/2^s % 65536:=by
 have h2:=(Qw s hs).1
 rw[Int.ediv_ediv_of_nonneg (Int.le_of_lt h2),Int.mul_comm,←Int.ediv_ediv_of_nonneg (Int.le_of_lt (Int.pow_pos (by omega))),acW hD (by omega),zT hi]
 have h3:vl (D.drop (i+1))=D.getD (i+1) 0+65536*vl (D.drop (i+2)):=by
  rcases Nat.lt_or_ge (i+1) D.length with h|h
  ·exact zT h
  ·rw[List.drop_of_length_le h,List.drop_of_length_le (by omega),List.getD_eq_getElem?_getD,List.getElem?_eq_none h];simp[vl]
 rw[h3]
 have e:D.getD i 0+65536*(D.getD (i+1) 0+65536*vl (D.drop (i+2)))=(D.getD i 0+D.getD (i+1) 0*65536)+2^s*(65536*(2^(16-s)*vl (D.drop (i+2)))):=by
  have:=alJ hs
  generalize (2:Int)^s=a at*
  generalize (2:Int)^(16-s)=b at*
  grind
 rw[e,Int.add_mul_ediv_left _ _ (by omega),Int.add_mul_emod_self_left]
theorem ag8{a b:Nat}(h:a≤b):(65536:Int)^a≤65536^b:=by
 obtain⟨d,rfl⟩:=Nat.exists_eq_add_of_le h
 have h1:(0:Int)<65536^a:=Int.pow_pos (by omega)
 have h2:(0:Int)<65536^d:=Int.pow_pos (by omega)
 have h3:=Int.mul_le_mul_of_nonneg_left (show(1:Int)≤65536^d by omega) (Int.le_of_lt h1)
 rw[Int.mul_one,←Int.pow_add]at h3
 exact h3
theorem anW(cl:Bool)(A:List Int)(k:Nat)(hA:gd A)(lA:A.length≤1000000)(hk:k≤100000000):
  Con Tryz.prog 262 cl [.sl A.length (qg A),.v (.int .i64 k)] [] (ahi (lim (vl A/2^k).toNat)):=by
 refine Con.of_aw Tryz.func262 rfl Tryz.ntmps262 (by simp) (by simp) (by simp) (W.sound ?_)
 show @W Tryz.prog 52 ⟨_⟩ ⟨fun x σ=>@qY _ _ _ ⟨_⟩ _ ⟨_⟩ x σ⟩ _ _
 have hvk:vl A/2^k=vl A/65536^(k/16)/2^(k % 16):=by
  rw[Int.ediv_ediv_of_nonneg (Int.le_of_lt (Int.pow_pos (by omega))),KM]
 simp(disch:=omega)only[go_sem]
 refine qh (fun h0=>?_) (fun h0=>?_)
 ·simp(disch:=omega)only[go_sem,h0]
  have hz:vl A/2^k=0:=by
   rw[hvk,Int.ediv_eq_zero_of_lt (zi hA)]
   ·simp
   ·refine Int.lt_of_lt_of_le (JH hA) ?_
    exact ag8 (by omega)
  rw[hz]
  refine ql [] [] [] [.v (.slice none 0 0)] rfl (by simp(disch:=omega)only[go_sem]) (by simp(disch:=omega)only[go_sem]) (by simp) (by intro _;simp[zr,AV.pu,AV.pu.puL,Ob.pu,qV]) (.inl ⟨by simp[qr],rfl,rfl⟩)
 ·have e16:((k:Int)/16).toNat=k/16:=by omega
  have e17:((A.length:Int)-(k:Int)/16).toNat=(A.drop (k/16)).length:=by simp;omega
  have e18:(A.drop (k/16)).take (A.drop (k/16)).length=A.drop (k/16):=List.take_length
  have hvD:=acW hA (i:=k/16) (by omega)
  have hlD:(A.drop (k/16)).length≤1000000:=by simp;omega
  have hD:=QD hA (k/16)
  simp(disch:=omega)only[go_sem,h0,e16,e17,e18]
  generalize A.drop (k/16)=D at*
  refine⟨by omega,by omega,?_⟩
  refine qi (fun x:Nat×List Int=>[(1,.v (.int .i64 k)),(5,.sl D.length (qg D)),(6,.rf 1 0 x.2.length),(21,.sl D.length (qg D)),(22,.v (.int .i64 D.length)),(23,.v (.int .i64 x.1))])
   (fun x=>[(1,.own 1 (qg x.2))])
   (fun x=>x.1≤D.length∧x.2.length=x.1∧gd x.2∧vl x.2=vl D/2^(k % 16) % 65536^x.1)
   (fun x=>D.length-x.1) (0,[]) ⟨by simp,rfl,Yv,by simp[vl]⟩
   (Le.lst [(1,220000000)] _ _ rfl (by simp(disch:=omega)only[go_sem]) (by simp(disch:=omega)only[go_sem])) ?_
  rintro⟨i,out⟩ ⟨hi,hol,hog,hov⟩
  dsimp only at hi hol hog hov ⊢
  simp(disch:=omega)only[go_sem]
  refine qh (fun h1=>?_) (fun h1=>?_)
  ·have hx:=qL hD i
   have hy:=qL hD (i+1)
   have em:min ((k:Int) % 16).toNat 64=k % 16:=by omega
   have hm:=Qw (k % 16) (by omega)
   have efd:∀x:Int,x.fdiv (2^(k % 16))=x/2^(k % 16):=fun x=>Int.fdiv_eq_ediv_of_nonneg _ (Int.le_of_lt hm.1)
   have hdig:=aeX hD (i:=i) (s:=k % 16) (by omega) (by omega)
   have hnn:∀x:Int,0≤x→0≤x/2^(k % 16):=fun x hx=>Int.ediv_nonneg hx (Int.le_of_lt hm.1)
   have ei:((i:Int)+1).toNat=i+1:=by omega
   have hstep:∀z:Int,z=(D.getD i 0+D.getD (i+1) 0*65536)/2^(k % 16) % 65536→vl (out++[z])=vl D/2^(k % 16) % 65536^(i+1):=by
    intro z hz
    rw[yf,hov,hol,Int.pow_succ,amp _ _ (Int.pow_pos (by omega)),hdig,hz]
   simp(disch:=omega)only[go_sem,h1]
   refine⟨by omega,by omega,qh (fun h2=>?_) (fun h2=>?_)⟩
   ·have hn1:=hnn (D.getD i 0+D.getD (i+1) 0*65536) (by omega)
    simp(disch:=omega)only[go_sem,h2,em,efd,ei]
    refine⟨by omega,by omega,by omega,by omega,qe (i+1,out++[(D.getD i 0+D.getD (i+1) 0*65536)/2^(k % 16) % 65536]) [(1,500000000)] ⟨by show i+1≤_;omega,by simp[hol],qN.2 ⟨hog,jx.2 (by omega)⟩,hstep _ rfl⟩ (by show D.length-(i+1)<D.length-i;omega) rfl (by simp(disch:=omega)only[go_sem,List.length_append];try omega) (by simp(disch:=omega)only[go_sem])⟩
   ·have hn1:=hnn (D.getD i 0) (by omega)
    simp(disch:=omega)only[go_sem,h2,em,efd]
    have hy0:D.getD (i+1) 0=0:=by rw[List.getD_eq_getElem?_getD,List.getElem?_eq_none (by omega)];rfl
    refine⟨by omega,by omega,qe (i+1,out++[D.getD i 0/2^(k % 16) % 65536]) [(1,500000000)] ⟨by show i+1≤_;omega,by simp[hol],qN.2 ⟨hog,jx.2 (by omega)⟩,hstep _ (by rw[hy0];simp)⟩ (by show D.length-(i+1)<D.length-i;omega) rfl (by simp(disch:=omega)only[go_sem,List.length_append];try omega) (by simp(disch:=omega)only[go_sem])⟩
  ·simp(disch:=omega)only[go_sem,h1]
   have hiD:i=D.length:=by omega
   subst hiD
   have hV:vl out=vl A/2^k:=by
    rw[hov,hvk,hvD]
    refine Int.emod_eq_of_lt (Int.ediv_nonneg (zi hD) (Int.le_of_lt (Qw (k % 16) (by omega)).1)) ?_
    exact Int.lt_of_le_of_lt (Int.ediv_le_self _ (zi hD)) (JH hD)
   refine zl false [1] (j9 out (by omega)) (by simp(disch:=omega)only[go_sem]) (by simp(disch:=omega)only[go_sem]) rfl (q7 (z:=1) (cs:=qg out) (by simp(disch:=omega)only[go_sem]) (by simp(disch:=omega)only[go_sem])) (by intro n hn;exact⟨_,List.mem_singleton.2 rfl,by rw[List.mem_singleton.1 hn];rfl⟩) ?_
   rintro r hs bs ⟨rfl,rfl,rfl⟩ _
   refine⟨by simp[qB],?_⟩
   simp(disch:=omega)only[go_sem]
   obtain⟨z,hz⟩:=ji out
   have hc:=jL hog
   rw[hV]at hc
   rw[hc]at hz ⊢
   refine ql [(0,1)] [.own 1 (qg out)] [] [.rf 0 0 (lim (vl A/2^k).toNat).length] rfl (by simp(disch:=omega)only[go_sem]) (by simp(disch:=omega)only[go_sem]) (by simp) (by intro _;simp[zr,AV.pu,AV.pu.puL,Ob.pu,qV]) (.inr ⟨List.replicate z 0,rfl,by rw[←hz]⟩)
end Go.Ab
namespace Go.Ab
open Go Go.Proofs
theorem anM(cl:Bool)(A B:List Int)(hA:gd A)(hB:gd B)(lA:A.length≤2000000)(lB:B.length≤2000000):
  Con Tryz.prog 273 cl [.sl A.length (qg A),.sl B.length (qg B)] [] (ahi (lim (vl A+vl B).toNat)):=by
 refine Con.of_aw Tryz.func273 rfl Tryz.ntmps273 (by simp) (by simp) (by simp) (W.sound ?_)
 show @W Tryz.prog 53 ⟨_⟩ ⟨fun x σ=>@qY _ _ _ ⟨_⟩ _ ⟨_⟩ x σ⟩ _ _
 simp(disch:=omega)only[go_sem]
 refine qh (fun h0=>?_) (fun h0=>?_)
 all_goals simp(disch:=omega)only[go_sem,h0]
 ·revert A B
  intro Y X hY hX lY lX h0'
  have h00:Y.length≤X.length:=by omega
  have hcm:vl Y+vl X=vl X+vl Y:=Int.add_comm _ _
  refine⟨by omega,?_⟩
  refine qi (fun x:Nat×List Int×Int=>[(1,.sl Y.length (qg Y)),(5,.rf 1 0 x.2.1.length),(6,.v (.int .i64 x.2.2)),(20,.sl X.length (qg X)),(21,.v (.int .i64 X.length)),(22,.v (.int .i64 x.1))])
   (fun x=>[(1,.own 1 (qg x.2.1))])
   (fun x=>x.1≤X.length∧x.2.1.length=x.1∧gd x.2.1∧(0≤x.2.2∧x.2.2≤1)∧vl x.2.1+65536^x.1*x.2.2=vl (X.take x.1)+vl (Y.take x.1))
   (fun x=>X.length-x.1) (0,[],0) ⟨by simp,rfl,Yv,by simp,by simp[vl]⟩
   (Le.lst [(1,210000000)] _ _ rfl (by simp(disch:=omega)only[go_sem]) (by simp(disch:=omega)only[go_sem])) ?_
  rintro⟨i,out,cy⟩ ⟨hi,hol,hog,hcy,hov⟩
  dsimp only at hi hol hog hcy hov ⊢
  simp(disch:=omega)only[go_sem]
  refine qh (fun h1=>?_) (fun h1=>?_)
  ·have hx:=qL hX i
   have hy:=qL hY i
   have hstep:∀q:Int,q=cy+X.getD i 0+Y.getD i 0→vl (out++[q % 65536])+65536^(i+1)*(q/65536)=vl (X.take (i+1))+vl (Y.take (i+1)):=by
    intro q hq
    rw[yf,q9,q9,hol,Int.pow_succ]
    have e3:q % 65536+65536*(q/65536)=q:=Int.emod_add_mul_ediv q 65536
    generalize (65536:Int)^i=Pi at*
    grind
   have hyz:¬i<Y.length→Y.getD i 0=0:=fun h=>by rw[List.getD_eq_getElem?_getD,List.getElem?_eq_none (by omega)];rfl
   simp(disch:=omega)only[go_sem,h1]
   refine⟨by omega,by omega,qh (fun h2=>?_) (fun h2=>?_)⟩
   ·simp(disch:=omega)only[go_sem,h2]
    generalize hq:cy+X.getD i 0+Y.getD i 0=q
    refine⟨by omega,by omega,by omega,qe (i+1,out++[q % 65536],q/65536) [(1,460000000)] ⟨by show i+1≤_;omega,by simp[hol],qN.2 ⟨hog,jx.2 (by omega)⟩,by show 0≤q/65536∧q/65536≤1;omega,hstep q hq.symm⟩ (by show X.length-(i+1)<X.length-i;omega) rfl (by simp(disch:=omega)only[go_sem,List.length_append];try omega) (by simp(disch:=omega)only[go_sem])⟩
   ·simp(disch:=omega)only[go_sem,h2]
    have hy0:=hyz (by omega)
    generalize hq:cy+X.getD i 0=q
    refine⟨by omega,qe (i+1,out++[q % 65536],q/65536) [(1,460000000)] ⟨by show i+1≤_;omega,by simp[hol],qN.2 ⟨hog,jx.2 (by omega)⟩,by show 0≤q/65536∧q/65536≤1;omega,hstep q (by omega)⟩ (by show X.length-(i+1)<X.length-i;omega) rfl (by simp(disch:=omega)only[go_sem,List.length_append];try omega) (by simp(disch:=omega)only[go_sem])⟩
  ·simp(disch:=omega)only[go_sem,h1]
   have hiA:i=X.length:=by omega
   subst hiA
   rw[List.take_length,List.take_of_length_le h00]at hov
   have hov2:vl (out++[cy])=vl X+vl Y:=by rw[yf,hol];exact hov
   have hog2:gd (out++[cy]):=qN.2 ⟨hog,jx.2 (by omega)⟩
   refine⟨by omega,?_⟩
   have hl2:out.length+1=(out++[cy]).length:=by simp
   rw[hl2]
   refine zl false [530000000] (j9 (out++[cy]) (by simp;omega)) (by simp(disch:=omega)only[go_sem]) (by simp(disch:=omega)only[go_sem]) rfl (q7 (z:=1) (cs:=qg (out++[cy])) (by simp(disch:=omega)only[go_sem]) (by simp(disch:=omega)only[go_sem])) (by intro n hn;exact⟨_,List.mem_singleton.2 rfl,by rw[List.mem_singleton.1 hn];rfl⟩) ?_
   rintro r hs bs ⟨rfl,rfl,rfl⟩ _
   refine⟨by simp[qB],?_⟩
   simp(disch:=omega)only[go_sem]
   obtain⟨z,hz⟩:=ji (out++[cy])
   have hc:=jL hog2
   rw[hov2]at hc
   rw[hc]at hz ⊢
   refine ql [(0,530000000)] [.own 1 (qg (out++[cy]))] [] [.rf 0 0 (lim (vl X+vl Y).toNat).length] rfl (by simp(disch:=omega)only[go_sem]) (by simp(disch:=omega)only[go_sem]) (by simp) (by intro _;simp[zr,AV.pu,AV.pu.puL,Ob.pu,qV]) (.inr ⟨List.replicate z 0,by rw[hcm];rfl,by rw[hcm,←hz]⟩)
 ·revert A B
  intro X Y hX hY lX lY h0'
  have h00:Y.length≤X.length:=by omega
  have hcm:vl X+vl Y=vl X+vl Y:=rfl
  refine⟨by omega,?_⟩
  refine qi (fun x:Nat×List Int×Int=>[(1,.sl Y.length (qg Y)),(5,.rf 1 0 x.2.1.length),(6,.v (.int .i64 x.2.2)),(20,.sl X.length (qg X)),(21,.v (.int .i64 X.length)),(22,.v (.int .i64 x.1))])
   (fun x=>[(1,.own 1 (qg x.2.1))])
   (fun x=>x.1≤X.length∧x.2.1.length=x.1∧gd x.2.1∧(0≤x.2.2∧x.2.2≤1)∧vl x.2.1+65536^x.1*x.2.2=vl (X.take x.1)+vl (Y.take x.1))
   (fun x=>X.length-x.1) (0,[],0) ⟨by simp,rfl,Yv,by simp,by simp[vl]⟩
   (Le.lst [(1,210000000)] _ _ rfl (by simp(disch:=omega)only[go_sem]) (by simp(disch:=omega)only[go_sem])) ?_
  rintro⟨i,out,cy⟩ ⟨hi,hol,hog,hcy,hov⟩
  dsimp only at hi hol hog hcy hov ⊢
  simp(disch:=omega)only[go_sem]
  refine qh (fun h1=>?_) (fun h1=>?_)
  ·have hx:=qL hX i
   have hy:=qL hY i
   have hstep:∀q:Int,q=cy+X.getD i 0+Y.getD i 0→vl (out++[q % 65536])+65536^(i+1)*(q/65536)=vl (X.take (i+1))+vl (Y.take (i+1)):=by
    intro q hq
    rw[yf,q9,q9,hol,Int.pow_succ]
    have e3:q % 65536+65536*(q/65536)=q:=Int.emod_add_mul_ediv q 65536
    generalize (65536:Int)^i=Pi at*
    grind
   have hyz:¬i<Y.length→Y.getD i 0=0:=fun h=>by rw[List.getD_eq_getElem?_getD,List.getElem?_eq_none (by omega)];rfl
   simp(disch:=omega)only[go_sem,h1]
   refine⟨by omega,by omega,qh (fun h2=>?_) (fun h2=>?_)⟩
   ·simp(disch:=omega)only[go_sem,h2]
    generalize hq:cy+X.getD i 0+Y.getD i 0=q
    refine⟨by omega,by omega,by omega,qe (i+1,out++[q % 65536],q/65536) [(1,460000000)] ⟨by show i+1≤_;omega,by simp[hol],qN.2 ⟨hog,jx.2 (by omega)⟩,by show 0≤q/65536∧q/65536≤1;omega,hstep q hq.symm⟩ (by show X.length-(i+1)<X.length-i;omega) rfl (by simp(disch:=omega)only[go_sem,List.length_append];try omega) (by simp(disch:=omega)only[go_sem])⟩
   ·simp(disch:=omega)only[go_sem,h2]
    have hy0:=hyz (by omega)
    generalize hq:cy+X.getD i 0=q
    refine⟨by omega,qe (i+1,out++[q % 65536],q/65536) [(1,460000000)] ⟨by show i+1≤_;omega,by simp[hol],qN.2 ⟨hog,jx.2 (by omega)⟩,by show 0≤q/65536∧q/65536≤1;omega,hstep q (by omega)⟩ (by show X.length-(i+1)<X.length-i;omega) rfl (by simp(disch:=omega)only[go_sem,List.length_append];try omega) (by simp(disch:=omega)only[go_sem])⟩
  ·simp(disch:=omega)only[go_sem,h1]
   have hiA:i=X.length:=by omega
   subst hiA
   rw[List.take_length,List.take_of_length_le h00]at hov
   have hov2:vl (out++[cy])=vl X+vl Y:=by rw[yf,hol];exact hov
   have hog2:gd (out++[cy]):=qN.2 ⟨hog,jx.2 (by omega)⟩
   refine⟨by omega,?_⟩
   have hl2:out.length+1=(out++[cy]).length:=by simp
   rw[hl2]
   refine zl false [530000000] (j9 (out++[cy]) (by simp;omega)) (by simp(disch:=omega)only[go_sem]) (by simp(disch:=omega)only[go_sem]) rfl (q7 (z:=1) (cs:=qg (out++[cy])) (by simp(disch:=omega)only[go_sem]) (by simp(disch:=omega)only[go_sem])) (by intro n hn;exact⟨_,List.mem_singleton.2 rfl,by rw[List.mem_singleton.1 hn];rfl⟩) ?_
   rintro r hs bs ⟨rfl,rfl,rfl⟩ _
   refine⟨by simp[qB],?_⟩
   simp(disch:=omega)only[go_sem]
   obtain⟨z,hz⟩:=ji (out++[cy])
   have hc:=jL hog2
   rw[hov2]at hc
   rw[hc]at hz ⊢
   refine ql [(0,530000000)] [.own 1 (qg (out++[cy]))] [] [.rf 0 0 (lim (vl X+vl Y).toNat).length] rfl (by simp(disch:=omega)only[go_sem]) (by simp(disch:=omega)only[go_sem]) (by simp) (by intro _;simp[zr,AV.pu,AV.pu.puL,Ob.pu,qV]) (.inr ⟨List.replicate z 0,by rw[hcm];rfl,by rw[hcm,←hz]⟩)
end Go.Ab
namespace Go.Ab
open Go Go.Proofs
theorem aaX(cl:Bool)(xs:List Int)(hl:xs.length≤2^39):Con Tryz.prog 304 cl [.sl xs.length (qg xs)] [] (ahi xs):=by
 refine Con.of_aw Tryz.func304 rfl Tryz.ntmps304 (by simp) (by simp) (by simp) (W.sound ?_)
 show @W Tryz.prog 8 ⟨_⟩ ⟨fun x σ=>@qY _ _ _ ⟨_⟩ _ ⟨_⟩ x σ⟩ _ _
 simp(disch:=omega)only[go_sem]
 refine⟨fun h0=>?_,?_⟩
 ·have:xs=[]:=by cases xs with|nil=>rfl|cons a r=>cases h0
  subst this
  refine ql [] [] [] [.v (.slice none 0 0)] rfl (by simp(disch:=omega)only[go_sem]) (by simp(disch:=omega)only[go_sem]) (by simp) (by intro _;simp[zr,AV.pu]) (.inl ⟨rfl,rfl,rfl⟩)
 ·refine⟨by omega,?_⟩
  refine ql [(0,90000000)] [.own 1 (qg xs)] [] [.rf 0 0 xs.length] rfl (by simp(disch:=omega)only[go_sem]) (by simp(disch:=omega)only[go_sem]) (by simp) (by intro _;simp[zr,AV.pu,Ob.pu,qV]) (.inr ⟨[],rfl,by rw[List.append_nil]⟩)
end Go.Ab
namespace Go.Ab
open Go Go.Proofs
theorem aaO(x:Int):Con Tryz.prog 307 true [.v (.int .i64 x)] [] (isA (.v (.bool false))):=by
 refine Con.of_w (rs:=[.tmp 2]) Tryz.func307 rfl Tryz.ntmps307 rfl ?_
 simp(disch:=omega)only[go_sem]
 exact qt
theorem ajA(x y:Int):Con Tryz.prog 267 true [.v (.int .i64 x),.v (.int .i64 y)] [] (isA (.v (.int .i64 (zG x y)))):=by
 refine Con.of_w (rs:=[.tmp 4]) Tryz.func267 rfl Tryz.ntmps267 rfl ?_
 simp(disch:=omega)only[go_sem]
 refine qm (aaO x) ?_
 simp(disch:=omega)only[go_sem]
 refine qm (aaO y) ?_
 simp(disch:=omega)only[go_sem]
 refine qh (fun h1=>?_) (fun h1=>?_)
 ·simp(disch:=omega)only[go_sem,h1]
  rw[show zG x y= -1 by simp[zG,h1]]
  exact qt
 ·simp(disch:=omega)only[go_sem,h1]
  refine qh (fun h2=>?_) (fun h2=>?_)
  ·simp(disch:=omega)only[go_sem,h2]
   rw[show zG x y=1 by simp[zG,h1,h2]]
   exact qt
  ·simp(disch:=omega)only[go_sem,h2]
   rw[show zG x y=0 by simp[zG,h1,h2]]
   exact qt
theorem jI(a b:Nat)(la:(lim a).length≤2^40)(lb:(lim b).length≤2^40):
  Con Tryz.prog 213 true [.sl (lim (a)).length (qg (lim (a))),.sl (lim (b)).length (qg (lim (b)))] [] (isA (.v (.int .i64 (zG a b)))):=by
 refine Con.of_w (rs:=[.tmp 4]) Tryz.func213 rfl Tryz.ntmps213 rfl ?_
 simp(disch:=omega)only[go_sem]
 refine jv (fun h1=>?_) (fun h1=>?_)
 ·simp(disch:=omega)only[go_sem,h1]
  refine qm (ajA (lim a).length (lim b).length) ?_
  simp(disch:=omega)only[go_sem]
  have:zG ((lim a).length:Int) ((lim b).length:Int)=zG a b:=by
   unfold zG
   rcases(by omega:(lim a).length<(lim b).length∨(lim b).length<(lim a).length)with h|h
   ·have:=ZC h
    rw[if_pos (by omega),if_pos (by omega)]
   ·have:=ZC h
    rw[if_neg (by omega),if_pos (by omega),if_neg (by omega),if_pos (by omega)]
  rw[this]
  exact qt
 ·simp(disch:=omega)only[go_sem,h1]
  have hl:(lim a).length=(lim b).length:=by omega
  refine qi (fun k:Nat=>[(0,.sl (lim (a)).length (qg (lim (a)))),(1,.sl (lim (b)).length (qg (lim (b)))),(5,.v (.int .i64 ((k:Int)-1)))])
   (fun _=>[]) (fun k=>k≤(lim a).length∧(lim a).drop k=(lim b).drop k) (fun k=>k) (lim a).length ⟨Nat.le_refl _,by rw[List.drop_length,hl,List.drop_length]⟩ (Le.lst [] _ _ rfl (by simp(disch:=omega)only[go_sem];try omega) (by simp(disch:=omega)only[go_sem])) ?_
  rintro k ⟨hk,hd⟩
  simp(disch:=omega)only[go_sem]
  refine qh (fun h2=>?_) (fun h2=>?_)
  ·obtain⟨i,rfl⟩:∃i,k=i+1:=⟨k-1,by omega⟩
   have ei:((i+1:Nat):Int)-1=(i:Nat):=by omega
   simp(disch:=omega)only[go_sem,h2,ei]
   refine qq rfl [⟨0,[],[]⟩,⟨1,[],[]⟩,⟨2,[],[]⟩,⟨3,[],[]⟩,⟨4,[3],[]⟩,⟨5,[3],[]⟩,⟨6,[3],[]⟩,⟨7,[3],[]⟩,⟨8,[],[]⟩] (by kernel_rfl) ?_
   simp(disch:=omega)only[go_sem,ei]
   refine⟨by omega,by omega,by omega,by omega,?_⟩
   refine jv (fun h3=>?_) (fun h3=>?_)
   ·simp(disch:=omega)only[go_sem,h3]
    refine qq rfl [⟨0,[],[]⟩,⟨1,[],[]⟩,⟨2,[],[]⟩,⟨3,[],[]⟩,⟨4,[3],[]⟩,⟨5,[3],[]⟩,⟨6,[3],[]⟩,⟨7,[3],[]⟩,⟨8,[],[]⟩,⟨9,[],[]⟩] (by kernel_rfl) ?_
    simp(disch:=omega)only[go_sem,ei]
    refine⟨by omega,by omega,by omega,by omega,?_⟩
    refine qm (ajA ((lim a).getD i 0) ((lim b).getD i 0)) ?_
    simp(disch:=omega)only[go_sem]
    have hva:=zb a
    have hvb:=zb b
    have:zG ((lim a).getD i 0) ((lim b).getD i 0)=zG a b:=by
     unfold zG
     rcases(by omega:(lim a).getD i 0<(lim b).getD i 0∨(lim b).getD i 0<(lim a).getD i 0)with h|h
     ·have:=JN (zf a) (zf b) (by omega) hl hd h
      rw[if_pos (by omega),if_pos (by omega)]
     ·have:=JN (zf b) (zf a) (by omega) hl.symm hd.symm h
      rw[if_neg (by omega),if_pos (by omega),if_neg (by omega),if_pos (by omega)]
    rw[this]
    exact qt
   ·simp(disch:=omega)only[go_sem,h3]
    refine qe i [] ⟨by omega,?_⟩ (by show i<i+1;omega) rfl (by simp(disch:=omega)only[go_sem];try omega) (by simp(disch:=omega)only[go_sem])
    rw[QF (l:=lim a) (by omega),QF (l:=lim b) (by omega),h3,hd]
  ·simp(disch:=omega)only[go_sem,h2]
   have:k=0:=by omega
   subst this
   rw[List.drop_zero,List.drop_zero]at hd
   have:=VB hd
   subst this
   rw[show zG (a:Int) (a:Int)=0 by simp[zG]]
   exact qt
end Go.Ab
namespace Go.Proofs
open Go.Shelf
def Tryz.lays29_ren:Go.Shelf.Ren:=⟨fun|29=>332|n=>n,fun|0=>0|3=>3|4=>4|5=>5|22=>295|25=>243|54=>316|n=>n,fun|1=>1|n=>n⟩
theorem Tryz.lays29:Go.Proofs.Lays7.n29 Tryz.prog Tryz.lays29_ren:={
 mixed:=by kernel_rfl
 f29:=Tryz.func332.trans (congrArg some (by kernel_rfl))
 t0:=Tryz.underlying0
 a0:=Tryz.isAgg0
 z0:=Tryz.sizeOf0
 v0:=Tryz.zeroValue0
 i0:=by kernel_rfl
 t3:=Tryz.underlying3
 a3:=Tryz.isAgg3
 z3:=Tryz.sizeOf3
 v3:=Tryz.zeroValue3
 i3:=by kernel_rfl
 t4:=Tryz.underlying4
 a4:=Tryz.isAgg4
 z4:=Tryz.sizeOf4
 v4:=Tryz.zeroValue4
 i4:=by kernel_rfl
 t5:=Tryz.underlying5
 a5:=Tryz.isAgg5
 z5:=Tryz.sizeOf5
 v5:=Tryz.zeroValue5
 i5:=by kernel_rfl
 t22:=Tryz.underlying295
 a22:=Tryz.isAgg295
 z22:=Tryz.sizeOf295
 v22:=Tryz.zeroValue295
 i22:=by kernel_rfl
 t25:=Tryz.underlying243
 a25:=Tryz.isAgg243
 z25:=Tryz.sizeOf243
 v25:=Tryz.zeroValue243
 i25:=by kernel_rfl
 t54:=Tryz.underlying316
 a54:=Tryz.isAgg316
 z54:=Tryz.sizeOf316
 g1:=by kernel_rfl}
def Tryz.lays129_ren:Go.Shelf.Ren:=⟨fun|129=>306|n=>n,fun|53=>295|46=>243|3=>3|4=>4|5=>5|9=>9|n=>n,fun|n=>n⟩
theorem Tryz.lays129:Go.Proofs.Lays.n129 Tryz.prog Tryz.lays129_ren:={
 mixed:=by kernel_rfl
 f129:=Tryz.func306.trans (congrArg some (by kernel_rfl))
 t3:=Tryz.underlying3
 a3:=Tryz.isAgg3
 z3:=Tryz.sizeOf3
 v3:=Tryz.zeroValue3
 t4:=Tryz.underlying4
 a4:=Tryz.isAgg4
 z4:=Tryz.sizeOf4
 v4:=Tryz.zeroValue4
 t5:=Tryz.underlying5
 a5:=Tryz.isAgg5
 z5:=Tryz.sizeOf5
 v5:=Tryz.zeroValue5
 t9:=Tryz.underlying9
 a9:=Tryz.isAgg9
 z9:=Tryz.sizeOf9
 v9:=Tryz.zeroValue9
 t46:=Tryz.underlying243
 a46:=Tryz.isAgg243
 z46:=Tryz.sizeOf243
 v46:=Tryz.zeroValue243
 t53:=Tryz.underlying295
 a53:=Tryz.isAgg295
 z53:=Tryz.sizeOf295
 v53:=Tryz.zeroValue295}
end Go.Proofs
namespace Go.Ab
open Go Go.Proofs
theorem azg(x:Nat)(h0:x≠0)(h:x<2^64):Lib.ctz 64 x=tz x:=by
 unfold Lib.ctz
 rw[if_neg h0]
 obtain⟨m,hm,_⟩:=Lib.ctzFrom_spec 64 x (by omega) h
 exact(J3 hm).symm
theorem aj0(x:Nat)(h:x<2^64):Lib.bitLen x=bl x:=by
 induction x using Nat.strongRecOn with
 |_ x ih=>
  by_cases h0:x=0
  ·subst h0;rfl
  ·rw[Lib.bitLen_half x h0 h,ih (x/2) (by omega) (by omega),apv h0,Nat.add_comm]
theorem anI(x:Nat)(h0:x≠0)(h:x<2^64):Con Tryz.prog 332 true [.v (.int .u64 x)] [] (isA (.v (.int .i64 (tz x)))):=
 Con.scalar (xs:=[.int .u64 x]) fun w hg=>by
  rw[←azg x h0 h]
  exact Any7.bits_TrailingZeros64 Tryz.lays29 x h w fun _ j hj=>(hg 1 Lib.deBruijn64tab rfl).2 j hj
theorem ai8(x:Nat)(h:x<2^64):Con Tryz.prog 306 true [.v (.int .u64 x)] [] (isA (.v (.int .i64 (bl x)))):=
 Con.scalar (xs:=[.int .u64 x]) fun w hg=>by
  rw[←aj0 x h]
  exact Any.bits_Len64 Tryz.lays129 x w (by omega) (by omega)
theorem azn(x:Nat)(h0:x≠0)(h:x<2^64):Con Tryz.prog 303 true [.v (.int .u64 x)] [] (isA (.v (.int .i64 (tz x)))):=by
 refine Con.of_w (rs:=[.tmp 2]) Tryz.func303 rfl Tryz.ntmps303 rfl ?_
 simp(disch:=omega)only[go_sem]
 refine qm (anI x h0 h) ?_
 simp(disch:=omega)only[go_sem]
 exact qt
theorem ai9(x:Nat)(h:x<2^64):Con Tryz.prog 266 true [.v (.int .u64 x)] [] (isA (.v (.int .i64 (bl x)))):=by
 refine Con.of_w (rs:=[.tmp 2]) Tryz.func266 rfl Tryz.ntmps266 rfl ?_
 simp(disch:=omega)only[go_sem]
 refine qm (ai8 x h) ?_
 simp(disch:=omega)only[go_sem]
 exact qt
theorem afU{x:Int}(h1:0≤x)(h2:x<9223372036854775808):IntKind.u64.wrap x=x:=by
 simp only[IntKind.wrap,IntKind.signed,IntKind.bits]
 simp only[Bool.false_and,Bool.false_eq_true,if_false]
 omega
theorem afp(m:Nat)(hl:(lim m).length≤2^40):Con Tryz.prog 212 true [.sl (lim (m)).length (qg (lim (m)))] [] (isA (.v (.int .i64 (bl m)))):=by
 refine Con.of_w (rs:=[.tmp 2]) Tryz.func212 rfl Tryz.ntmps212 rfl ?_
 simp(disch:=omega)only[go_sem]
 refine qh (fun h1=>?_) (fun h1=>?_)
 ·simp(disch:=omega)only[go_sem,h1]
  have:m=0:=qE.1 (List.length_eq_zero_iff.1 (by omega))
  subst this
  rw[QL]
  exact qt
 ·have hm:m≠0:=fun e=>by rw[e,qr]at h1;simp at h1
  have e1:((lim m).length:Int).toNat-1=(lim m).length-1:=by omega
  have e2:(((lim m).length:Int)-1).toNat=(lim m).length-1:=by omega
  have ht:=Yq hm
  have hb:=ajY hm
  simp(disch:=omega)only[go_sem,h1,e2,jt]
  generalize m/65536^((lim m).length-1)=q at*
  have e3:((q % 65536:Nat):Int)=(q:Int):=by omega
  simp(disch:=omega)only[go_sem,e3,afU]
  refine⟨by omega,by omega,?_⟩
  refine qm (ai9 q (by omega)) ?_
  simp(disch:=omega)only[go_sem]
  have hq:bl q≤16:=qZ.2 (by omega)
  have e4:(16:Int)*(((lim m).length:Int)-1)+(bl q:Int)=(bl m:Int):=by omega
  simp(disch:=omega)only[go_sem,e4]
  exact qt
theorem apF{m i:Nat}(hz:∀j,j<i→(lim m).getD j 0=0)(hx:(lim m).getD i 0≠0):tz m=16*i+tz (m/65536^i % 65536):=by
 rw[jt]at hx
 have hx':m/65536^i % 65536≠0:=fun e=>hx (by rw[e];rfl)
 obtain⟨a,ha⟩:=X4 hx'
 have hlow:65536^i*(m/65536^i)=m:=by
  have key:∀k,k≤i→m % 65536^k=0:=by
   intro k
   induction k with
   |zero=>intro _;simp[Nat.mod_one]
   |succ k ih=>
    intro hk
    have h1:=ih (by omega)
    have h2:=hz k (by omega)
    rw[jt]at h2
    have h3:m/65536^k % 65536=0:=by omega
    rw[Nat.pow_succ,Nat.mod_mul,h1,h3];omega
  have:=Nat.div_add_mod m (65536^i)
  rw[key i (Nat.le_refl _)]at this
  omega
 generalize hq:m/65536^i=q at*
 have ht:tz (q % 65536)<16:=by
  have h1:=yV hx'
  have:bl (q % 65536)≤16:=qZ.2 (by omega)
  omega
 generalize hk:tz (q % 65536)=k at*
 have e16:(65536:Nat)=2^k*(2*2^(15-k)):=by rw[Nat.mul_left_comm,←Nat.pow_add,show k+(15-k)=15 by omega]
 refine J3 (a:=a+2^(15-k)*(q/65536)) ?_
 have hd:=Nat.div_add_mod q 65536
 rw[←hlow,Nat.pow_add,←Yh]
 have h5:q=2^k*(2*(a+2^(15-k)*(q/65536))+1):=by
  have:q=2^k*(2*2^(15-k))*(q/65536)+2^k*(2*a+1):=by rw[←e16,←ha];omega
  generalize q/65536=y at*
  generalize 2^(15-k)=z at*
  grind
 generalize q/65536=y at*
 rw[Nat.mul_assoc,←h5]
theorem ab5(m:Nat)(hl:(lim m).length≤2^40):Con Tryz.prog 261 true [.sl (lim (m)).length (qg (lim (m)))] [] (isA (.v (.int .i64 (tz m)))):=by
 refine Con.of_w (rs:=[.tmp 2]) Tryz.func261 rfl Tryz.ntmps261 rfl ?_
 simp(disch:=omega)only[go_sem]
 refine qi (fun i:Nat=>[(0,.sl (lim (m)).length (qg (lim (m)))),(5,.sl (lim (m)).length (qg (lim (m)))),(6,.v (.int .i64 (lim m).length)),(7,.v (.int .i64 i))])
  (fun _=>[]) (fun i=>i≤(lim m).length∧∀j,j<i→(lim m).getD j 0=0) (fun i=>(lim m).length-i) 0 ⟨by omega,fun j hj=>by omega⟩ (Le.lst [] _ _ rfl (by simp(disch:=omega)only[go_sem];try omega) (by simp(disch:=omega)only[go_sem])) ?_
 rintro i ⟨hi,hz⟩
 simp(disch:=omega)only[go_sem]
 refine qh (fun h1=>?_) (fun h1=>?_)
 ·simp(disch:=omega)only[go_sem,h1]
  refine⟨by omega,by omega,jv (fun h2=>?_) (fun h2=>?_)⟩
  ·have ht:=apF hz h2
   have hx:m/65536^i % 65536≠0:=fun e=>h2 (by rw[jt,e];rfl)
   have ht16:tz (m/65536^i % 65536)<16:=by
    have h1:=yV hx
    have:bl (m/65536^i % 65536)≤16:=qZ.2 (by omega)
    omega
   simp(disch:=omega)only[go_sem,h2,jt]
   generalize hq:m/65536^i % 65536=q at*
   have hq6:q<65536:=by omega
   simp(disch:=omega)only[go_sem,afU]
   refine qm (azn q hx (by omega)) ?_
   simp(disch:=omega)only[go_sem]
   have e4:(16:Int)*(i:Int)+(tz q:Int)=(tz m:Int):=by omega
   simp(disch:=omega)only[go_sem,e4]
   exact qt
  ·simp(disch:=omega)only[go_sem,h2]
   refine qe (i+1) [] ⟨by omega,fun j hj=>?_⟩ (by show(lim m).length-(i+1)<(lim m).length-i;omega) rfl (by simp(disch:=omega)only[go_sem];try omega) (by simp(disch:=omega)only[go_sem])
   rcases(by omega:j<i∨j=i)with h|h
   ·exact hz j h
   ·subst h;exact h2
 ·simp(disch:=omega)only[go_sem,h1]
  have hm:m=0:=by
   have:=zb m
   have h3:lim m=List.replicate (lim m).length 0:=by
    apply List.ext_getElem
    ·simp
    ·intro j h1 h2
     have:=hz j (by omega)
     rw[List.getD_eq_getElem?_getD,List.getElem?_eq_getElem h1]at this
     simpa using this
   rw[h3,jm]at this
   omega
  subst hm
  rw[afZ]
  exact qt
theorem aaY(m:Nat)(i:Int)(hl:(lim m).length≤2^40)(hi:0≤i)(hi2:i<2^62):Con Tryz.prog 300 true [.sl (lim (m)).length (qg (lim (m))),.v (.int .i64 i)] [] (isA (.v (.int .i64 ((m/2^i.toNat % 2:Nat):Int)))):=by
 refine Con.of_w (rs:=[.tmp 4]) Tryz.func300 rfl Tryz.ntmps300 rfl ?_
 obtain⟨k,rfl⟩:=Int.eq_ofNat_of_zero_le hi
 rw[Int.toNat_natCast]
 have h0:¬((k:Int)<0):=by omega
 have e16:((k:Int)/16).toNat=k/16:=by omega
 have em:min ((k:Int) % 16).toNat 64=k % 16:=by omega
 have hb:=ajZ m k
 simp(disch:=omega)only[go_sem,h0]
 refine qh (fun h1=>?_) (fun h1=>?_)
 ·simp(disch:=omega)only[go_sem,h1]
  have:m/2^k % 2=0:=by
   rw[←hb]
   have h2:=jt m (k/16)
   rw[List.getD_eq_getElem?_getD,List.getElem?_eq_none (by omega)]at h2
   have h3:m/65536^(k/16) % 65536=0:=by simp only[Option.getD_none]at h2;omega
   rw[h3];simp
  rw[this]
  exact qt
 ·have hx:=qL (zf m) (k/16)
  have hp:(0:Int)<2^(k % 16):=Int.pow_pos (by omega)
  have efd:∀x:Int,x.fdiv (2^(k % 16))=x/2^(k % 16):=fun x=>Int.fdiv_eq_ediv_of_nonneg _ (Int.le_of_lt hp)
  have hq:0≤(lim m).getD (k/16) 0/2^(k % 16)∧(lim m).getD (k/16) 0/2^(k % 16)<65536:=by
   refine⟨Int.ediv_nonneg hx.1 (Int.le_of_lt hp),Int.lt_of_le_of_lt (Int.ediv_le_self _ hx.1) hx.2⟩
  have hr:(lim m).getD (k/16) 0/2^(k % 16) % 2=((m/2^k % 2:Nat):Int):=by
   rw[←hb,jt]
   generalize m/65536^(k/16) % 65536=x
   rw[Int.natCast_emod,Int.natCast_ediv,Int.natCast_pow];rfl
  simp(disch:=omega)only[go_sem,h1,e16,em,efd,hr]
  refine⟨by omega,by omega,by omega,?_⟩
  exact qt
end Go.Ab
namespace Go.Ab
open Go Go.Proofs
theorem abf(a k:Nat):(vl (lim a)*2^k).toNat=a*2^k:=by
 rw[zb]
 have:((a:Int)*2^k)=((a*2^k:Nat):Int):=by rw[Int.natCast_mul,Int.natCast_pow];rfl
 rw[this,Int.toNat_natCast]
theorem abg(a k:Nat):(vl (lim a)/2^k).toNat=a/2^k:=by
 rw[zb]
 have:((a:Int)/2^k)=((a/2^k:Nat):Int):=by rw[Int.natCast_ediv,Int.natCast_pow];rfl
 rw[this,Int.toNat_natCast]
theorem apJ(a b:Nat):(vl (lim a)*vl (lim b)).toNat=a*b:=by rw[zb,zb,←Int.natCast_mul,Int.toNat_natCast]
theorem apK(a b:Nat):(vl (lim a)+vl (lim b)).toNat=a+b:=by rw[zb,zb];omega
theorem apI(a b:Nat):(vl (lim a)-vl (lim b)).toNat=a-b:=by rw[zb,zb];omega
theorem z7(n:Nat)(hn:n<2^63):Con Tryz.prog 111 false [.v (.int .i64 n)] [] (arn (lim n)):=(ai1 false n hn).num
theorem aiU(cl:Bool)(a k:Nat)(la:(lim a).length≤1000000)(hk:k≤100000000):Con Tryz.prog 214 cl [.sl (lim (a)).length (qg (lim (a))),.v (.int .i64 k)] [] (ahi (lim (a*2^k))):=by
 have:=azm cl (lim a) k (zf a) la hk
 rwa[abf]at this
theorem jy(a k:Nat)(la:(lim a).length≤1000000)(hk:k≤100000000):Con Tryz.prog 214 false [.sl (lim (a)).length (qg (lim (a))),.v (.int .i64 k)] [] (arn (lim (a*2^k))):=(aiU false a k la hk).num
theorem aaU(cl:Bool)(a k:Nat)(la:(lim a).length≤1000000)(hk:k≤100000000):Con Tryz.prog 262 cl [.sl (lim (a)).length (qg (lim (a))),.v (.int .i64 k)] [] (ahi (lim (a/2^k))):=by
 have:=anW cl (lim a) k (zf a) la hk
 rwa[abg]at this
theorem ajy(a k:Nat)(la:(lim a).length≤1000000)(hk:k≤100000000):Con Tryz.prog 262 false [.sl (lim (a)).length (qg (lim (a))),.v (.int .i64 k)] [] (arn (lim (a/2^k))):=(aaU false a k la hk).num
theorem XJ(a b:Nat)(la:(lim a).length≤1000000)(lb:(lim b).length≤1000000):Con Tryz.prog 260 false [.sl (lim (a)).length (qg (lim (a))),.sl (lim (b)).length (qg (lim (b)))] [] (arn (lim (a*b))):=by
 have:=(aiW false (lim a) (lim b) (zf a) (zf b) la lb).num
 rwa[apJ]at this
theorem aaB(a b:Nat)(la:(lim a).length≤2000000)(lb:(lim b).length≤2000000):Con Tryz.prog 273 false [.sl (lim (a)).length (qg (lim (a))),.sl (lim (b)).length (qg (lim (b)))] [] (arn (lim (a+b))):=by
 have:=(anM false (lim a) (lim b) (zf a) (zf b) la lb).num
 rwa[apK]at this
theorem ajz(a d:Nat)(la:(lim a).length≤1000000)(hd:0<d)(hd2:d<65536):
  Con Tryz.prog 327 false [.sl (lim (a)).length (qg (lim (a))),.v (.int .i64 d)] [] (isA (.tu [.sl (lim (a/d)).length (qg (lim (a/d))),.v (.int .i64 ((a % d:Nat):Int))])):=
 Con.frzA <| (anX false (lim a) d (zf a) la hd hd2).mono fun r hs bs ⟨zs,h1,h2⟩=>by
  rw[zb]at h1 h2
  rw[h1,h2]
  have e:((a:Int)/(d:Int)).toNat=a/d:=by
   rw[←Int.natCast_ediv,Int.toNat_natCast]
  rw[e]
  show qD _ 6 _=_
  unfold qD
  simp only[List.map_cons,List.map_nil]
  rw[js (k:=3) (l:=lim (a/d)) (zs:=zs) qJ rfl]
  rw[Int.natCast_emod];rfl
end Go.Ab
namespace Go.Ab
open Go Go.Proofs
set_option maxRecDepth 100000 in
theorem afn(a b:Nat)(hb:b≠0)(la:(lim a).length≤900000)(lb:(lim b).length≤900000):
  Con Tryz.prog 301 false [.sl (lim (a)).length (qg (lim (a))),.sl (lim (b)).length (qg (lim (b)))] [] (az5 (.tu [.sl (lim (a/b)).length (qg (lim (a/b))),.sl (lim (a % b)).length (qg (lim (a % b)))])):=by
 refine Con.of_aw Tryz.func301 rfl Tryz.ntmps301 (by simp) (by simp) (by simp) (W.sound ?_)
 show @W Tryz.prog 96 ⟨_⟩ ⟨fun x σ=>@qY _ _ _ ⟨_⟩ _ ⟨_⟩ x σ⟩ _ _
 simp(disch:=omega)only[go_sem]
 refine qs (jI a b (by omega) (by omega)) (by simp(disch:=omega)only[go_sem]) ?_
 rintro r hs ⟨rfl,rfl,_⟩
 refine⟨by simp[qB],?_⟩
 simp(disch:=omega)only[go_sem]
 refine qh (fun h1=>?_) (fun h1=>?_)
 ·simp(disch:=omega)only[go_sem,h1]
  have hab:a<b:=by
   unfold zG at h1;split at h1
   ·omega
   ·split at h1<;>omega
  refine qa (aaX false (lim a) (by omega)).num ?_
  simp(disch:=omega)only[go_sem]
  refine qX (by simp(disch:=omega)only[go_sem]) ?_
  show qD _ 6 _=_
  rw[Nat.div_eq_of_lt hab,Nat.mod_eq_of_lt hab]
  simp only[qD,qr];rfl
 ·have hab:b≤a:=by
   unfold zG at h1;split at h1
   ·omega
   ·omega
  have ha:a≠0:=by omega
  have hlb:=yG hb
  simp(disch:=omega)only[go_sem,h1]
  refine qh (fun h2=>?_) (fun h2=>?_)
  ·simp(disch:=omega)only[go_sem,h2]
   have hb6:b<65536:=by have:=Jx b;rw[show(lim b).length=1 by omega]at this;omega
   have e0:(lim b).getD 0 0=(b:Int):=by rw[jt];simp;omega
   simp(disch:=omega)only[go_sem,e0]
   refine⟨by omega,by omega,?_⟩
   refine qa (ajz a b (by omega) (by omega) hb6) ?_
   simp(disch:=omega)only[go_sem]
   have:a % b<b:=Nat.mod_lt _ (by omega)
   refine qa (z7 (a % b) (by omega)) ?_
   simp(disch:=omega)only[go_sem]
   exact qX (by simp(disch:=omega)only[go_sem]) (by rfl)
  ·have hl2:2≤(lim b).length:=by omega
   have hll:(lim b).length≤(lim a).length:=y5 hab
   have ht:=Yq hb
   have eb:(((lim b).length:Int)-1).toNat=(lim b).length-1:=by omega
   have hnd:=al3 hb _ rfl
   simp(disch:=omega)only[go_sem,h2,eb,jt]
   have e3:((b/65536^((lim b).length-1) % 65536:Nat):Int)=((b/65536^((lim b).length-1):Nat):Int):=by rw[Nat.mod_eq_of_lt ht.2]
   generalize hq:b/65536^((lim b).length-1)=q at*
   have hq16:bl q≤16:=qZ.2 (by omega)
   simp(disch:=omega)only[go_sem,e3,afU]
   refine⟨by omega,by omega,?_⟩
   refine qm (ai9 q (by omega)) ?_
   simp(disch:=omega)only[go_sem]
   have e4:(16:Int)-(bl q:Int)=((16-bl q:Nat):Int):=by omega
   simp(disch:=omega)only[go_sem,e4]
   generalize hs:16-bl q=s at*
   obtain⟨hs16,hvl,hv1,hvge⟩:=hnd
   refine qw (jy b s (by omega) (by omega)) (by simp(disch:=omega)only[go_sem,e4]) ?_
   rintro r hs0 ⟨rfl,rfl,_⟩
   refine⟨by simp[qB],?_⟩
   simp(disch:=omega)only[go_sem]
   refine qw (aiU false a s (by omega) (by omega)) (by simp(disch:=omega)only[go_sem,e4]) ?_
   have hun:a*2^s≠0:=by have:0<2^s:=Nat.pow_pos (by omega);have:=Nat.mul_pos (show 0<a by omega) this;omega
   rintro r hs1 (⟨h,_,_⟩|⟨zs,rfl,rfl⟩)
   ·exact absurd (qE.1 h) hun
   refine⟨⟨by simp,by simp(disch:=omega)only[go_sem]⟩,?_⟩
   have hul:=aeF a hs16
   have hug:=ahK a s
   have ex:((lim a).length:Int)+1-((lim (a*2^s)).length:Int)=(((lim a).length+1-(lim (a*2^s)).length:Nat):Int):=by omega
   have ecut:(lim (a*2^s)++zs).take (lim (a*2^s)).length=lim (a*2^s):=List.take_left' rfl
   have em:(((lim a).length:Int)-((lim b).length:Int)+1).toNat=(lim a).length-(lim b).length+1:=by omega
   simp(disch:=omega)only[go_sem,ex,ecut,em]
   generalize hU0:lim (a*2^s)++List.replicate ((lim a).length+1-(lim (a*2^s)).length) 0=U0
   have lU0:U0.length=(lim a).length+1:=by rw[←hU0];simp;omega
   have gU0:gd U0:=by rw[←hU0];exact qN.2 ⟨zf _,zy _⟩
   have vU0:vl U0=((a*2^s:Nat):Int):=by rw[←hU0,acV,zb]
   have hfw:=ait gU0 hll hlb hs16 lU0 vU0 hvge
   have elen:(lim (a*2^s)).length+((lim a).length+1-(lim (a*2^s)).length)=U0.length:=by omega
   refine⟨by omega,⟨by simp,by omega⟩,by omega,?_⟩
   generalize hV:lim (b*2^s)=V at*
   have gV:gd V:=by rw[←hV];exact zf _
   have vV:vl V=((b*2^s:Nat):Int):=by rw[←hV,zb]
   generalize hm:(lim a).length-(lim b).length+1=m at*
   refine qi (fun x:Nat×List Int×List Int=>[(8,.v (.int .i64 s)),(9,.sl V.length (qg V)),(10,.rf 0 0 x.2.1.length),(11,.rf 1 0 x.2.2.length),(12,.v (.int .i64 ((x.1:Int)-1)))])
    (fun x=>[(0,.own 1 (qg x.2.1)),(1,.own 1 (qg x.2.2))])
    (fun x=>x.1≤m∧x.2.1.length=U0.length∧gd x.2.1∧x.2.2.length=m∧gd x.2.2∧vl (x.2.1.drop x.1)<vl V∧vl x.2.1+vl V*(65536^x.1*vl (x.2.2.drop x.1))=((a*2^s:Nat):Int))
    (fun x=>x.1) (m,U0,List.replicate m 0) ⟨Nat.le_refl _,rfl,gU0,by simp,zy _,by show vl (U0.drop m)<vl V;rw[vV];exact hfw,by show vl U0+vl V*(65536^m*vl ((List.replicate m 0).drop m))=_;rw[List.drop_of_length_le (by simp)];simp[vl];exact vU0⟩
    (Le.lst [(0,580000000),(1,650000000)] _ _ rfl (by simp(disch:=omega)only[go_sem,elen,e4,List.length_replicate];try omega) (by simp(disch:=omega)only[go_sem,hU0,em])) ?_
   rintro⟨k,U,O⟩ ⟨hk,lU,gU,lO,gO,hlt,hval⟩
   dsimp only at hk lU gU lO gO hlt hval ⊢
   simp(disch:=omega)only[go_sem]
   refine qh (fun g1=>?_) (fun g1=>?_)
   ·obtain⟨j,rfl⟩:∃j,k=j+1:=⟨k-1,by omega⟩
    have ej:((j+1:Nat):Int)-1=(j:Nat):=by omega
    have hWj:vl (U.drop j)<65536*vl V:=by
     rw[zT (by omega)]
     have:=qL gU j
     omega
    simp(disch:=omega)only[go_sem,g1,ej]
    refine qs (acy U V j gU gV (by omega) (by omega) (by omega) (by rw[hvl];exact hv1) hWj) (by simp(disch:=omega)only[go_sem]) ?_
    rintro r hs ⟨qd,rfl,rfl,_,hq,hq1,hq2⟩
    refine⟨by simp[qB],?_⟩
    simp(disch:=omega)only[go_sem]
    refine zl false [0] (aaA U V j qd gU gV (by omega) (by omega) hq) (by simp(disch:=omega)only[go_sem]) (by simp(disch:=omega)only[go_sem]) rfl (q7 (z:=1) (cs:=qg U) (by simp(disch:=omega)only[go_sem]) (by simp(disch:=omega)only[go_sem])) (by intro n hn;exact⟨_,List.mem_cons_self ..,by rw[List.mem_singleton.1 hn];rfl⟩) ?_
    rintro r hs bs ⟨U',bo,rfl,rfl,rfl,hl',gU',hbo,hsm,hv'⟩ _
    refine⟨by simp[qB],?_⟩
    generalize hT:U'.set (j+V.length) (U.getD (j+V.length) 0-bo)=T at*
    obtain⟨lT,vT,wT,tT,aT,pT,nT⟩:=ago gU gV (by omega) hWj hq1 hq2 hl' gU' hsm hv' T hT.symm
    have hfin:∀(U2:List Int) (qf:Int),vl U2=vl U-65536^j*(qf*vl V)→vl U2+vl V*(65536^j*vl ((O.set j qf).drop j))=((a*2^s:Nat):Int):=by
     intro U2 qf h2
     rw[KH (by omega),h2,←hval,Int.pow_succ]
     generalize (65536:Int)^j=Pj at*
     grind
    simp(disch:=omega)only[go_sem]
    refine qh (fun g2=>?_) (fun g2=>?_)
    ·obtain⟨⟨n1,n2⟩,n3⟩:=nT g2
     simp(disch:=omega)only[go_sem,g2]
     refine zl false [0] (acA T V j n3 (by rw[tT];omega) gV (by omega) (by omega)) (by simp(disch:=omega)only[go_sem,lT]) (by simp(disch:=omega)only[go_sem]) rfl (q7 (z:=1) (cs:=qg T) (by simp(disch:=omega)only[go_sem]) (by simp(disch:=omega)only[go_sem])) (by intro n hn;exact⟨_,List.mem_cons_self ..,by rw[List.mem_singleton.1 hn];rfl⟩) ?_
     rintro r hs bs ⟨T',rfl,rfl,rfl,lT',gT',sT',vT'⟩ _
     refine⟨by simp[qB],?_⟩
     rw[Int.add_mul]at hq1
     obtain⟨gT2,wT2⟩:=aj3 gV (by omega) lT' gT' sT' aT vT' (by omega) (by omega)
     simp(disch:=omega)only[go_sem,lO]
     have hqp:0<qd:=by
      have h3:=zi (QD gU j)
      rcases(by omega:0<qd∨qd=0)with h|h
      ·exact h
      ·subst h;simp at n2;omega
     refine⟨by omega,by omega,qe (j,T',O.set j (qd-1)) [] ⟨by show j≤m;omega,by show T'.length=_;omega,gT2,by simp[lO],Qk gO (by omega),by show vl (T'.drop j)<vl V;omega,hfin T' (qd-1) ?_⟩ (by show j<j+1;omega) rfl (by simp(disch:=omega)only[go_sem,List.length_set];try omega) (by simp(disch:=omega)only[go_sem])⟩
     rw[vT',vT,Int.sub_mul,Int.one_mul,Int.mul_sub];omega
    ·obtain⟨p1,p2⟩:=pT g2
     rw[Int.add_mul]at hq1
     simp(disch:=omega)only[go_sem,g2,lO]
     refine⟨by omega,by omega,qe (j,T,O.set j qd) [] ⟨by show j≤m;omega,by show T.length=_;omega,p1,by simp[lO],Qk gO hq,by show vl (T.drop j)<vl V;omega,hfin T qd vT⟩ (by show j<j+1;omega) rfl (by simp(disch:=omega)only[go_sem,List.length_set];try omega) (by simp(disch:=omega)only[go_sem])⟩
   ·have:k=0:=by omega
    subst this
    rw[List.drop_zero]at hlt
    rw[List.drop_zero,Int.pow_zero,Int.one_mul]at hval
    have hvO:=zi gO
    have hvU:=zi gU
    have hcO:=jL gO
    have hcU:=jL gU
    have hpS:0<2^s:=Nat.pow_pos (by omega)
    obtain⟨d1,d2⟩:(vl O).toNat=a/b∧(vl U).toNat=a % b*2^s:=by
     refine anu hpS (by omega) ?_ (by omega)
     rw[vV]at hval
     have:((vl U).toNat:Int)+((b*2^s:Nat):Int)*((vl O).toNat:Int)=((a*2^s:Nat):Int):=by
      rw[Int.toNat_of_nonneg hvO,Int.toNat_of_nonneg hvU];exact hval
     rw[←Int.natCast_mul,←Int.natCast_add]at this
     exact Int.ofNat.inj this
    rw[d1]at hcO
    rw[d2]at hcU
    obtain⟨zo,hzo⟩:=ji O
    obtain⟨zu,hzu⟩:=ji U
    have htU:=aiR U
    rw[hcO]at hzo
    rw[hcU]at hzu htU
    simp(disch:=omega)only[go_sem,g1]
    refine zl false [1] (j9 O (by omega)) (by simp(disch:=omega)only[go_sem]) (by simp(disch:=omega)only[go_sem]) rfl (q7 (z:=1) (cs:=qg O) (by simp(disch:=omega)only[go_sem]) (by simp(disch:=omega)only[go_sem])) (by intro n hn;exact⟨_,List.mem_singleton.2 rfl,by rw[List.mem_singleton.1 hn];rfl⟩) ?_
    rintro r hs bs ⟨rfl,rfl,rfl⟩ _
    refine⟨by simp[qB],?_⟩
    simp(disch:=omega)only[go_sem]
    refine zl false [0] (j9 U (by omega)) (by simp(disch:=omega)only[go_sem]) (by simp(disch:=omega)only[go_sem]) rfl (q7 (z:=1) (cs:=qg U) (by simp(disch:=omega)only[go_sem]) (by simp(disch:=omega)only[go_sem])) (by intro n hn;exact⟨_,List.mem_singleton.2 rfl,by rw[List.mem_singleton.1 hn];rfl⟩) ?_
    rintro r hs bs ⟨rfl,rfl,rfl⟩ _
    refine⟨by simp[qB],?_⟩
    simp(disch:=omega)only[go_sem,hcO,hcU]
    have hlr:(lim (a % b*2^s)).length≤1000000:=by
     have:=congrArg List.length hzu
     simp at this;omega
    refine qs (aaU true (a % b*2^s) s hlr (by omega)) (by simp(disch:=omega)only[go_sem,htU]) ?_
    rw[Nat.mul_div_cancel _ hpS]
    rintro r hs2 (⟨h,rfl,rfl⟩|⟨z2,rfl,rfl⟩)
    ·refine⟨⟨by simp,by simp(disch:=omega)only[go_sem]⟩,?_⟩
     simp(disch:=omega)only[go_sem]
     refine ql [(0,1)] [.own 1 (qg O)] [] [.rf 0 0 (lim (a/b)).length,.v (.slice none 0 0)] rfl (by simp(disch:=omega)only[go_sem]) (by simp(disch:=omega)only[go_sem]) (by simp) (by simp) ?_
     show qD _ 6 _=_
     unfold qD
     simp only[zr,List.map_cons,List.map_nil]
     rw[hzo,js (k:=3) (l:=lim (a/b)) (zs:=List.replicate zo 0) qJ rfl,h]
     rfl
    ·refine⟨⟨by simp,by simp(disch:=omega)only[go_sem]⟩,?_⟩
     simp(disch:=omega)only[go_sem]
     refine ql [(0,1),(1,970000000)] [.own 1 (qg O),.own 1 (qg (lim (a % b)++z2))] [] [.rf 0 0 (lim (a/b)).length,.rf 1 0 (lim (a % b)).length] rfl (by simp(disch:=omega)only[go_sem]) (by simp(disch:=omega)only[go_sem]) (by simp) (by simp) ?_
     show qD _ 6 _=_
     unfold qD
     simp only[zr,List.map_cons,List.map_nil]
     rw[hzo,js (k:=3) (l:=lim (a/b)) (zs:=List.replicate zo 0) qJ rfl,js (k:=3) (l:=lim (a % b)) (zs:=z2) aqL rfl]
end Go.Ab
namespace Go.Ab
open Go Go.Proofs
theorem XG(n lo hi:Int):Con Tryz.prog 52 true [.v (.int .i64 n),.v (.int .i64 lo),.v (.int .i64 hi)] [] (fun r hs bs=>r=.v (.bool (decide (lo≤n)&&decide (n≤hi)))∧hs=[]):=by
 refine Con.of_aw Tryz.func52 rfl Tryz.ntmps52 (by simp) (by simp) (by simp) (W.sound ?_)
 show @W Tryz.prog 15 ⟨_⟩ ⟨fun x σ=>@qY _ _ _ ⟨_⟩ _ ⟨_⟩ x σ⟩ _ _
 simp(disch:=omega)only[go_sem]
 refine qh (fun h1=>?_) (fun h1=>?_)
 ·simp(disch:=omega)only[go_sem,h1]
  refine ql [] [] [] [.v (.bool (decide (n≤hi)))] rfl (by simp(disch:=omega)only[go_sem]) (by simp(disch:=omega)only[go_sem]) (by simp) (by simp[AV.pu,zr]) ⟨by simp[zr,h1],rfl⟩
 ·simp(disch:=omega)only[go_sem,h1]
  refine ql [] [] [] [.v (.bool false)] rfl (by simp(disch:=omega)only[go_sem]) (by simp(disch:=omega)only[go_sem]) (by simp) (by simp[AV.pu,zr]) ⟨by simp[zr,h1],rfl⟩
end Go.Ab
namespace Go.Ab
open Go Go.Proofs
theorem acx(a b:Nat)(hb:b≠0)(la:(lim a).length≤900000)(lb:(lim b).length≤900000):
  Con Tryz.prog 301 false [.sl (lim (a)).length (qg (lim (a))),.sl (lim (b)).length (qg (lim (b)))] [] (isA (.tu [.sl (lim (a/b)).length (qg (lim (a/b))),.sl (lim (a % b)).length (qg (lim (a % b)))])):=(afn a b hb la lb).frzA
theorem aca(neg odd:Bool)(half mode:Int):Con Tryz.prog 302 true [.v (.bool neg),.v (.bool odd),.v (.int .i64 half),.v (.int .i64 mode)] [] (isA (.v (.bool (rup neg odd half mode)))):=by
 refine Con.of_aw Tryz.func302 rfl Tryz.ntmps302 (by simp) (by simp) (by simp) (W.sound ?_)
 show @W Tryz.prog 32 ⟨_⟩ ⟨fun x σ=>@qY _ _ _ ⟨_⟩ _ ⟨_⟩ x σ⟩ _ _
 simp(disch:=omega)only[go_sem]
 refine qh (fun h1=>?_) (fun h1=>?_)
 ·simp(disch:=omega)only[go_sem,h1]
  exact qu (by simp(disch:=omega)only[go_sem]) (by simp(disch:=omega)only[go_sem]) ⟨by simp[zr,rup,h1],rfl,rfl⟩
 ·simp(disch:=omega)only[go_sem,h1]
  refine qh (fun h2=>?_) (fun h2=>?_)
  ·simp(disch:=omega)only[go_sem,h2]
   exact qu (by simp(disch:=omega)only[go_sem]) (by simp(disch:=omega)only[go_sem]) ⟨by simp[zr,rup,h2],rfl,rfl⟩
  ·simp(disch:=omega)only[go_sem,h2]
   refine qh (fun h3=>?_) (fun h3=>?_)
   ·simp(disch:=omega)only[go_sem,h3]
    refine jv (fun h4=>?_) (fun h4=>?_)
    ·simp(disch:=omega)only[go_sem,h4]
     refine qh (fun h5=>?_) (fun h5=>?_)
     ·simp(disch:=omega)only[go_sem,h5]
      exact qu (by simp(disch:=omega)only[go_sem]) (by simp(disch:=omega)only[go_sem]) ⟨by simp[zr,rup,h3,h5],rfl,rfl⟩
     ·simp(disch:=omega)only[go_sem,h5]
      exact qu (by simp(disch:=omega)only[go_sem]) (by simp(disch:=omega)only[go_sem]) ⟨by simp[zr,rup,h3,h4,h5],rfl,rfl⟩
    ·simp(disch:=omega)only[go_sem,h4]
     exact qu (by simp(disch:=omega)only[go_sem]) (by simp(disch:=omega)only[go_sem]) ⟨by simp[zr,rup,h3,h4],rfl,rfl⟩
   ·simp(disch:=omega)only[go_sem,h3]
    refine qh (fun h4=>?_) (fun h4=>?_)
    ·simp(disch:=omega)only[go_sem,h4]
     exact qu (by simp(disch:=omega)only[go_sem]) (by simp(disch:=omega)only[go_sem]) ⟨by simp[zr,rup,h4],rfl,rfl⟩
    ·simp(disch:=omega)only[go_sem,h4]
     exact qu (by simp(disch:=omega)only[go_sem]) (by simp(disch:=omega)only[go_sem]) ⟨by simp[zr,rup,h1,h2,h3,h4],rfl,rfl⟩
theorem Ji(neg:Bool)(a b:Nat)(mode:Int)(hb:b≠0)(la:bl a≤8000000)(lb:bl b≤8000000):
  Con Tryz.prog 256 false [.v (.bool neg),.sl (lim (a)).length (qg (lim (a))),.sl (lim (b)).length (qg (lim (b))),.v (.int .i64 mode)] [] (isA (.tu [.sl (lim (rq neg a b mode)).length (qg (lim (rq neg a b mode))),.v (.bool (decide (a % b=0)))])):=by
 refine Con.of_aw Tryz.func256 rfl Tryz.ntmps256 (by simp) (by simp) (by simp) (W.sound ?_)
 show @W Tryz.prog 36 ⟨_⟩ ⟨fun x σ=>@qY _ _ _ ⟨_⟩ _ ⟨_⟩ x σ⟩ _ _
 simp(disch:=omega)only[go_sem]
 have lla:=qv la
 have llb:=qv lb
 refine qa (acx a b hb (by omega) (by omega)) ?_
 simp(disch:=omega)only[go_sem]
 have hmb:a % b<b:=Nat.mod_lt _ (by omega)
 have llr:=qv (Nat.le_trans (jc (Nat.le_of_lt hmb)) lb)
 have llq:=qv (Nat.le_trans (Qf a b) la)
 refine qh (fun h1=>?_) (fun h1=>?_)
 ·simp(disch:=omega)only[go_sem,h1]
  have h0:a % b=0:=qE.1 (List.length_eq_zero_iff.1 (by omega))
  refine qX (by simp(disch:=omega)only[go_sem]) ⟨?_,rfl,rfl⟩
  simp[zr,rq,h0]
 ·simp(disch:=omega)only[go_sem,h1]
  have h0:a % b≠0:=fun e=>h1 (by rw[e,qr];rfl)
  refine qm (aaY (a/b) 0 (by omega) (by omega) (by omega)) ?_
  simp(disch:=omega)only[go_sem]
  refine qa (jy (a % b) 1 (by omega) (by omega)) ?_
  simp(disch:=omega)only[go_sem]
  have llu:=qv (Nat.le_trans (Zo (a % b) 1) (Nat.add_le_add_right (Nat.le_trans (jc (Nat.le_of_lt hmb)) lb) 1))
  refine qm (jI (a % b*2^1) b (by omega) (by omega)) ?_
  simp(disch:=omega)only[go_sem]
  have e1:(decide (((a/b/1 % 2:Nat):Int)=1))=decide (a/b % 2=1):=by
   simp;omega
  refine qm (aca neg (decide (a/b % 2=1)) (zG ((a % b*2^1:Nat):Int) (b:Int)) mode) ?_ (by simp(disch:=omega)only[go_sem,e1,Int.toNat_zero,Nat.pow_zero])
  simp(disch:=omega)only[go_sem]
  refine Q5 (fun h2=>?_) (fun h2=>?_)
  ·simp(disch:=omega)only[go_sem,h2]
   refine qa (z7 1 (by omega)) ?_
   simp(disch:=omega)only[go_sem]
   have l1:(lim 1).length≤2000000:=by have:=qv (m:=1) (B:=1) (by decide);omega
   refine qa (aaB (a/b) 1 (by omega) l1) ?_
   simp(disch:=omega)only[go_sem]
   refine qX (by simp(disch:=omega)only[go_sem]) ⟨?_,rfl,rfl⟩
   have e:rq neg a b mode=a/b+1:=by unfold rq;rw[if_neg h0,if_pos h2]
   rw[e];simp[zr,h0]
  ·simp(disch:=omega)only[go_sem,h2]
   refine qX (by simp(disch:=omega)only[go_sem]) ⟨?_,rfl,rfl⟩
   have e:rq neg a b mode=a/b:=by unfold rq;rw[if_neg h0,if_neg (by rw[h2];simp)]
   rw[e];simp[zr,h0]
end Go.Ab
namespace Go.Ab
open Go Go.Proofs
theorem Jn(s:Bool)(m:Nat)(e:Int):Con Tryz.prog 139 true [.ag [.v (.bool (s)),.sl (lim (m)).length (qg (lim (m))),.v (.int .i64 (e))]] [] (isA (.v (.bool (decide (m=0))))):=by
 refine Con.of_aw Tryz.func139 rfl Tryz.ntmps139 (by simp) (by simp) (by simp) (W.sound ?_)
 show @W Tryz.prog 7 ⟨_⟩ ⟨fun x σ=>@qY _ _ _ ⟨_⟩ _ ⟨_⟩ x σ⟩ _ _
 simp(disch:=omega)only[go_sem]
 refine qu (by simp(disch:=omega)only[go_sem]) (by simp(disch:=omega)only[go_sem]) ⟨?_,rfl,rfl⟩
 have:decide (((lim m).length:Int)=0)=decide (m=0):=by
  rw[decide_eq_decide]
  exact⟨fun h=>qE.1 (List.length_eq_zero_iff.1 (by omega)),fun h=>by rw[h,qr];rfl⟩
 rw[this];rfl
theorem anJ(s:Bool)(m:Nat)(e:Int)(hm:(lim m).length≤2^40)(he: -2^40≤e∧e≤2^40):Con Tryz.prog 140 true [.ag [.v (.bool (s)),.sl (lim (m)).length (qg (lim (m))),.v (.int .i64 (e))]] [] (isA (.v (.int .i64 (if m=0 then 0 else(bl m:Int)+e)))):=by
 refine Con.of_w (rs:=[.tmp 2]) Tryz.func140 rfl Tryz.ntmps140 rfl ?_
 simp(disch:=omega)only[go_sem]
 refine qh (fun h1=>?_) (fun h1=>?_)
 ·simp(disch:=omega)only[go_sem,h1]
  have h0:m=0:=qE.1 (List.length_eq_zero_iff.1 (by omega))
  rw[if_pos h0]
  exact qt
 ·have h0:m≠0:=fun e=>h1 (by rw[e,qr];rfl)
  have:=Za (m:=m)
  simp(disch:=omega)only[go_sem,h1]
  refine qq rfl [⟨0,[],[]⟩,⟨1,[],[]⟩,⟨3,[1],[]⟩,⟨4,[1],[]⟩,⟨2,[4],[]⟩,⟨5,[],[]⟩,⟨6,[],[]⟩] (by kernel_rfl) ?_
  simp(disch:=omega)only[go_sem]
  refine qm (afp m hm) ?_
  simp(disch:=omega)only[go_sem]
  rw[if_neg h0]
  exact qt
theorem acb(s:Bool)(m:Nat)(e:Int)(hm:bl m≤10000000)(he: -2^40≤e∧e≤2^40):Con Tryz.prog 201 false [.ag [.v (.bool (s)),.sl (lim (m)).length (qg (lim (m))),.v (.int .i64 (e))]] [] (isA (.ag [.v (.bool (oS s m)),.sl (lim (oM m)).length (qg (lim (oM m))),.v (.int .i64 (oE m e))])):=by
 refine Con.frzA ?_
 refine Con.of_aw Tryz.func201 rfl Tryz.ntmps201 (by simp) (by simp) (by simp) (W.sound ?_)
 show @W Tryz.prog 23 ⟨_⟩ ⟨fun x σ=>@qY _ _ _ ⟨_⟩ _ ⟨_⟩ x σ⟩ _ _
 simp(disch:=omega)only[go_sem]
 have hl:=qv hm
 refine qh (fun h1=>?_) (fun h1=>?_)
 ·simp(disch:=omega)only[go_sem,h1]
  have h0:m=0:=qE.1 (List.length_eq_zero_iff.1 (by omega))
  subst h0
  refine qX (by simp(disch:=omega)only[go_sem]) ?_
  show qD _ 6 _=_
  simp only[oS,jC,oE,qr,if_true]
  simp(disch:=omega)only[go_sem]
 ·have h0:m≠0:=fun e=>h1 (by rw[e,qr];rfl)
  have ht:=yV h0
  simp(disch:=omega)only[go_sem,h1]
  refine qm (ab5 m (by omega)) ?_
  simp(disch:=omega)only[go_sem]
  refine qq rfl [⟨0,[],[]⟩,⟨1,[],[]⟩,⟨2,[1],[]⟩,⟨3,[1],[]⟩,⟨4,[1,3],[]⟩,⟨6,[1,3],[]⟩,⟨7,[1,3],[]⟩,⟨8,[1,3,7],[]⟩,⟨9,[1,3],[]⟩,⟨5,[1,7],[]⟩,⟨10,[],[]⟩,⟨11,[],[]⟩] (by kernel_rfl) ?_
  simp(disch:=omega)only[go_sem]
  refine qa (ajy m (tz m) (by omega) (by omega)) ?_
  simp(disch:=omega)only[go_sem]
  refine qX (by simp(disch:=omega)only[go_sem]) ?_
  show qD _ 6 _=_
  simp only[oS,oM,oE,if_neg h0]
  simp(disch:=omega)only[go_sem]
def ovA(m1:Nat)(k:Int):Nat:=m1*2^k.toNat
def ovQ(s:Bool)(m1:Nat)(e1:Int)(m2:Nat)(e2 low mode:Int):Nat:=rq s (ovA m1 (e1-e2-low)) (ovA m2 (-(e1-e2-low))) mode
def ovX(m1:Nat)(e1:Int)(m2:Nat)(e2 low:Int):Bool:=decide (ovA m1 (e1-e2-low) % ovA m2 (-(e1-e2-low))=0)
theorem apt{m B:Nat}{k:Int}{C:Nat}(h:bl m≤B)(hk:k≤C):bl (ovA m k)≤B+C:=by
 have:=Zo m k.toNat
 unfold ovA;omega
theorem avA{m:Nat}{k:Int}(h:m≠0):ovA m k≠0:=by
 unfold ovA
 have:0<2^k.toNat:=Nat.pow_pos (by omega)
 have:=Nat.mul_pos (show 0<m by omega) this
 omega
theorem adK(s1:Bool)(m1:Nat)(e1:Int)(s2:Bool)(m2:Nat)(e2 low mode:Int)(h2:m2≠0)(hm1:bl m1≤4000000)(hm2:bl m2≤4000000)(hk: -4000000≤e1-e2-low∧e1-e2-low≤4000000)
  (he1: -2^40≤e1∧e1≤2^40) (he2: -2^40≤e2∧e2≤2^40) (hlo: -2^40≤low∧low≤2^40):
  Con Tryz.prog 193 false [.ag [.v (.bool (s1)),.sl (lim (m1)).length (qg (lim (m1))),.v (.int .i64 (e1))],.ag [.v (.bool (s2)),.sl (lim (m2)).length (qg (lim (m2))),.v (.int .i64 (e2))],.v (.int .i64 low),.v (.int .i64 mode)] []
   (isA (.tu [.ag [.v (.bool ((s1 != s2)&&decide (ovQ (s1 != s2) m1 e1 m2 e2 low mode≠0))),.sl (lim (ovQ (s1 != s2) m1 e1 m2 e2 low mode)).length (qg (lim (ovQ (s1 != s2) m1 e1 m2 e2 low mode))),.v (.int .i64 (low))],.v (.bool (ovX m1 e1 m2 e2 low))])):=by
 refine Con.frzA ?_
 refine Con.of_w (rs:=[.cell 8 97,.tmp 9]) Tryz.func193 rfl Tryz.ntmps193 rfl ?_
 have l1:=qv hm1
 have l2:=qv hm2
 generalize hsh:e1-e2-low=sh at*
 have eq1:ovQ (s1 != s2) m1 e1 m2 e2 low mode=rq (s1 != s2) (ovA m1 sh) (ovA m2 (-sh)) mode:=by unfold ovQ;rw[hsh]
 have eq2:ovX m1 e1 m2 e2 low=decide (ovA m1 sh % ovA m2 (-sh)=0):=by unfold ovX;rw[hsh]
 rw[eq1,eq2]
 simp(disch:=omega)only[go_sem,hsh]
 refine qq rfl [⟨0,[],[]⟩,⟨1,[],[]⟩,⟨2,[],[]⟩,⟨3,[2],[]⟩,⟨4,[2],[]⟩,⟨6,[2],[]⟩,⟨7,[2],[]⟩,⟨8,[2,7],[]⟩,⟨9,[2,7],[]⟩,⟨10,[2,7],[]⟩,⟨12,[2,7],[]⟩,⟨5,[7],[]⟩,⟨11,[],[]⟩,⟨13,[],[]⟩,⟨14,[],[]⟩,⟨15,[],[]⟩,⟨16,[],[]⟩,⟨17,[],[]⟩,⟨18,[],[]⟩] (by kernel_rfl) ?_
 have ex1:(if 0>sh then 0 else sh)=((sh.toNat:Nat):Int):=by split<;>omega
 have ex2:(if 0>0-sh then 0 else 0-sh)=(((-sh).toNat:Nat):Int):=by split<;>omega
 simp(disch:=omega)only[go_sem,ex1,ex2]
 refine qa (jy m1 sh.toNat (by omega) (by omega)) ?_
 simp(disch:=omega)only[go_sem]
 refine qa (jy m2 (-sh).toNat (by omega) (by omega)) ?_
 simp(disch:=omega)only[go_sem]
 refine qa (Ji (s1 != s2) (ovA m1 sh) (ovA m2 (-sh)) mode (avA h2) (apt (C:=4000000) hm1 (by omega)) (apt (C:=4000000) hm2 (by omega))) ?_ (by simp(disch:=omega)only[go_sem,ovA])
 simp(disch:=omega)only[go_sem]
 generalize rq (s1 != s2) (ovA m1 sh) (ovA m2 (-sh)) mode=q
 generalize decide (ovA m1 sh % ovA m2 (-sh)=0)=b
 have hq:decide ((0:Int)<((lim q).length:Int))=decide (q≠0):=by
  rw[decide_eq_decide]
  exact⟨fun h e=>by rw[e,qr]at h;simp at h,fun h=>by have:=yG h;omega⟩
 refine Q5 (fun h3=>?_) (fun h3=>?_)
 ·simp(disch:=omega)only[go_sem,h3,hq]
  exact qn (hp:=by simp(disch:=omega)only[go_sem,h3,Bool.true_and])
 ·simp(disch:=omega)only[go_sem,h3]
  exact qn (hp:=by simp(disch:=omega)only[go_sem,h3,Bool.false_and])
def roM(s:Bool)(m:Nat)(e low mode:Int):Nat:=if low≤e∨m=0 then m else rq s m (2^(low-e).toNat) mode
def roE(m:Nat)(e low:Int):Int:=if low≤e∨m=0 then e else low
def roX(m:Nat)(e low:Int):Bool:=if low≤e∨m=0 then true else decide (m % 2^(low-e).toNat=0)
def roS(s:Bool)(m:Nat)(e low mode:Int):Bool:=if low≤e∨m=0 then s else s&&decide (rq s m (2^(low-e).toNat) mode≠0)
theorem ab9(s:Bool)(m:Nat)(e low mode:Int)(hm:bl m≤4000000)(he: -1000000≤e∧e≤1000000)(hlo: -1000000≤low∧low≤1000000):
  Con Tryz.prog 116 false [.ag [.v (.bool (s)),.sl (lim (m)).length (qg (lim (m))),.v (.int .i64 (e))],.v (.int .i64 low),.v (.int .i64 mode)] []
   (isA (.tu [.ag [.v (.bool (roS s m e low mode)),.sl (lim (roM s m e low mode)).length (qg (lim (roM s m e low mode))),.v (.int .i64 (roE m e low))],.v (.bool (roX m e low))])):=by
 refine Con.frzA ?_
 refine Con.of_aw Tryz.func116 rfl Tryz.ntmps116 (by simp) (by simp) (by simp) (W.sound ?_)
 show @W Tryz.prog 25 ⟨_⟩ ⟨fun x σ=>@qY _ _ _ ⟨_⟩ _ ⟨_⟩ x σ⟩ _ _
 simp(disch:=omega)only[go_sem]
 refine jv (fun h1=>?_) (fun h1=>?_)
 ·simp(disch:=omega)only[go_sem,h1]
  refine qm (Jn s m e) ?_
  simp(disch:=omega)only[go_sem]
  refine qh (fun h2=>?_) (fun h2=>?_)
  ·simp(disch:=omega)only[go_sem,h2]
   refine qX (by simp(disch:=omega)only[go_sem]) ?_
   show qD _ 6 _=_
   simp only[roS,roM,roE,roX,h2,or_true,if_true]
   simp(disch:=omega)only[go_sem]
  ·simp(disch:=omega)only[go_sem,h2]
   refine qq rfl [⟨0,[],[]⟩,⟨3,[0],[]⟩,⟨4,[0],[]⟩,⟨1,[0],[]⟩,⟨2,[0],[]⟩,⟨5,[],[]⟩,⟨6,[],[]⟩,⟨7,[],[]⟩,⟨8,[],[]⟩,⟨9,[],[]⟩] (by kernel_rfl) ?_
   simp(disch:=omega)only[go_sem]
   refine qa (z7 1 (by omega)) ?_
   simp(disch:=omega)only[go_sem]
   refine qa (adK s m e false 1 0 low mode (by omega) hm (by decide) (by omega) (by omega) (by omega) (by omega)) ?_
   simp(disch:=omega)only[go_sem]
   refine qX (by simp(disch:=omega)only[go_sem]) ?_
   show qD _ 6 _=_
   have hc:¬(low≤e∨m=0):=by omega
   have e1:ovA m (e-0-low)=m:=by unfold ovA;rw[show(e-0-low).toNat=0 by omega];simp
   have e2:ovA 1 (-(e-0-low))=2^(low-e).toNat:=by unfold ovA;rw[show(-(e-0-low)).toNat=(low-e).toNat by omega];simp
   have e3:(s != false)=s:=by cases s<;>rfl
   simp only[roS,roM,roE,roX,if_neg hc,ovQ,ovX,e1,e2,e3]
   simp(disch:=omega)only[go_sem]
 ·simp(disch:=omega)only[go_sem,h1]
  refine qX (by simp(disch:=omega)only[go_sem]) ?_
  show qD _ 6 _=_
  simp only[roS,roM,roE,roX,h1,true_or,if_true]
  simp(disch:=omega)only[go_sem]
end Go.Ab
namespace Go.Ab
open Go Go.Proofs
def Xg(b:Bool):AV→List Ob→List Ob→Prop:=fun r hs bs=>r=.v (.bool b)∧hs=[]
theorem ae7(x:Int):Con Tryz.prog 341 true [.v (.int .i64 x)] [] (Xg (decide (0≤x)&&decide (x≤65535))):=by
 refine Con.of_aw Tryz.func341 rfl Tryz.ntmps341 (by simp) (by simp) (by simp) (W.sound ?_)
 show @W Tryz.prog 5 ⟨_⟩ ⟨fun x σ=>@qY _ _ _ ⟨_⟩ _ ⟨_⟩ x σ⟩ _ _
 simp(disch:=omega)only[go_sem]
 refine qs (XG x 0 65535) (by simp(disch:=omega)only[go_sem]) ?_
 rintro r hs ⟨rfl,rfl⟩
 refine⟨by simp[qB],?_⟩
 simp(disch:=omega)only[go_sem]
 refine ql [] [] [] [.v (.bool (decide (0≤x)&&decide (x≤65535)))] rfl (by simp(disch:=omega)only[go_sem]) (by simp(disch:=omega)only[go_sem]) (by simp) (by simp[AV.pu,zr]) ⟨rfl,rfl⟩
theorem acz(g:Nat)(p:Int→Bool)(x:Int)(hf:Con Tryz.prog g true [.v (.int .i64 x)] [] (Xg (p x)))(hg:qz Tryz.prog g):
  Con Tryz.prog 346 true [.v (.int .i64 x),.fp [.fn g []] 0] [] (Xg (!p x)):=by
 refine Con.of_aw Tryz.func346 rfl Tryz.ntmps346 (by simp) (by simp) (by simp) (W.sound ?_)
 show @W Tryz.prog 8 ⟨_⟩ ⟨fun x σ=>@qY _ _ _ ⟨_⟩ _ ⟨_⟩ x σ⟩ _ _
 simp(disch:=omega)only[go_sem]
 refine⟨hg,qs hf (by simp(disch:=omega)only[go_sem]) ?_⟩
 rintro r hs ⟨rfl,rfl⟩
 refine⟨by simp[qB],?_⟩
 simp(disch:=omega)only[go_sem]
 refine ql [] [] [] [.v (.bool (!p x))] rfl (by simp(disch:=omega)only[go_sem]) (by simp(disch:=omega)only[go_sem]) (by simp) (by simp[AV.pu,zr]) ⟨rfl,rfl⟩
theorem afj(f:Nat)(caps:List AV)(p:Int→Bool)(xs:List Int)(hl:xs.length≤2^40)(hf:∀x,Con Tryz.prog f true (.v (.int .i64 x)::caps) [] (Xg (p x)))(hg:qz Tryz.prog f)
  (hc:∀h:Nat→Ob,caps.map (qD h 6)=caps) (hc5:∀h:Nat→Ob,caps.map (qD h 5)=caps) (hn:∀ks,AllL (jK ks) caps) (hr:∀ρ,zq ρ caps=caps):
  Con Tryz.prog 347 true [.sl xs.length (qg xs),.fn f caps] [] (fun r hs bs=>∃i:Int,r=.v (.int .i64 i)∧hs=[]∧(0≤i↔∃x∈xs,p x=true)):=by
 refine Con.of_aw Tryz.func347 rfl Tryz.ntmps347 (by simp) (by simp) (by simp) (W.sound ?_)
 show @W Tryz.prog 19 ⟨_⟩ ⟨fun x σ=>@qY _ _ _ ⟨_⟩ _ ⟨_⟩ x σ⟩ _ _
 simp(disch:=omega)only[go_sem]
 refine qi (fun i:Nat=>[(0,.sl xs.length (qg xs)),(1,.fn f caps),(6,.sl xs.length (qg xs)),(7,.v (.int .i64 xs.length)),(8,.v (.int .i64 i))])
  (fun _=>[]) (fun i=>i≤xs.length∧∀j,j<i→p (xs.getD j 0)=false) (fun i=>xs.length-i) 0 ⟨by omega,fun j hj=>by omega⟩ (Le.lst [] _ _ rfl (by simp(disch:=omega)only[go_sem,hr,hn]) (by simp(disch:=omega)only[go_sem])) ?_
 rintro i ⟨hi,hp⟩
 simp(disch:=omega)only[go_sem]
 refine qh (fun h1=>?_) (fun h1=>?_)
 ·simp(disch:=omega)only[go_sem,h1]
  refine⟨by omega,by omega,hg,qs (hf (xs.getD i 0)) (by simp(disch:=omega)only[go_sem,hc,hc5]) ?_⟩
  rintro r hs ⟨rfl,rfl⟩
  refine⟨by simp[qB],?_⟩
  simp(disch:=omega)only[go_sem]
  refine Q5 (fun h2=>?_) (fun h2=>?_)
  ·simp(disch:=omega)only[go_sem,h2]
   refine ql [] [] [] [.v (.int .i64 i)] rfl (by simp(disch:=omega)only[go_sem]) (by simp(disch:=omega)only[go_sem]) (by simp) (by simp[AV.pu,zr]) ⟨i,rfl,rfl,?_⟩
   refine⟨fun _=>⟨xs.getD i 0,?_,h2⟩,fun _=>by omega⟩
   rw[List.getD_eq_getElem?_getD,List.getElem?_eq_getElem (by omega)];exact List.getElem_mem _
  ·simp(disch:=omega)only[go_sem,h2]
   refine qe (i+1) [] ⟨by omega,fun j hj=>?_⟩ (by show xs.length-(i+1)<xs.length-i;omega) rfl (by simp(disch:=omega)only[go_sem,hr,hn];try omega) (by simp(disch:=omega)only[go_sem])
   rcases(by omega:j<i∨j=i)with h|h
   ·exact hp j h
   ·subst h;exact h2
 ·simp(disch:=omega)only[go_sem,h1]
  refine ql [] [] [] [.v (.int .i64 (-1))] rfl (by simp(disch:=omega)only[go_sem]) (by simp(disch:=omega)only[go_sem]) (by simp) (by simp[AV.pu,zr]) ⟨-1,rfl,rfl,?_⟩
  refine⟨fun h=>by omega,fun⟨x,hx,hpx⟩=>?_⟩
  obtain⟨j,hj,rfl⟩:=List.getElem_of_mem hx
  have:=hp j (by omega)
  rw[List.getD_eq_getElem?_getD,List.getElem?_eq_getElem hj]at this
  simp only[Option.getD_some]at this
  rw[this]at hpx;cases hpx
theorem V8(f:Nat)(caps:List AV)(p:Int→Bool)(xs:List Int)(hl:xs.length≤2^40)(hf:∀x,Con Tryz.prog f true (.v (.int .i64 x)::caps) [] (Xg (p x)))(hg:qz Tryz.prog f)
  (hc:∀h:Nat→Ob,caps.map (qD h 6)=caps) (hc5:∀h:Nat→Ob,caps.map (qD h 5)=caps) (hn:∀ks,AllL (jK ks) caps) (hr:∀ρ,zq ρ caps=caps):
  Con Tryz.prog 345 true [.sl xs.length (qg xs),.fn f caps] [] (Xg (xs.any p)):=by
 refine Con.of_aw Tryz.func345 rfl Tryz.ntmps345 (by simp) (by simp) (by simp) (W.sound ?_)
 show @W Tryz.prog 9 ⟨_⟩ ⟨fun x σ=>@qY _ _ _ ⟨_⟩ _ ⟨_⟩ x σ⟩ _ _
 simp(disch:=omega)only[go_sem]
 refine qs (afj f caps p xs hl hf hg hc hc5 hn hr) (by simp(disch:=omega)only[go_sem,hc,hc5]) ?_
 rintro r hs ⟨i,rfl,rfl,hi⟩
 refine⟨by simp[qB],?_⟩
 simp(disch:=omega)only[go_sem]
 refine ql [] [] [] [.v (.bool (decide (0≤i)))] rfl (by simp(disch:=omega)only[go_sem]) (by simp(disch:=omega)only[go_sem]) (by simp) (by simp[AV.pu,zr]) ⟨?_,rfl⟩
 have:decide (0≤i)=xs.any p:=by rw[Bool.eq_iff_iff,decide_eq_true_eq,hi,List.any_eq_true]
 rw[this];rfl
theorem afq(g:Nat)(p:Int→Bool)(xs:List Int)(hl:xs.length≤2^40)(hf:∀x,Con Tryz.prog g true [.v (.int .i64 x)] [] (Xg (p x)))(hg:qz Tryz.prog g):
  Con Tryz.prog 340 true [.sl xs.length (qg xs),.fn g []] [] (Xg (xs.all p)):=by
 refine Con.of_aw Tryz.func340 rfl Tryz.ntmps340 (by simp) (by simp) (by simp) (W.sound ?_)
 show @W Tryz.prog 9 ⟨_⟩ ⟨fun x σ=>@qY _ _ _ ⟨_⟩ _ ⟨_⟩ x σ⟩ _ _
 simp(disch:=omega)only[go_sem]
 refine qs (V8 346 [.fp [.fn g []] 0] (fun x=> !p x) xs hl (fun x=>acz g p x (hf x) hg) (by simp(disch:=omega)only[go_sem]) (fun h=>rfl) (fun h=>rfl) (fun ks=>by simp(disch:=omega)only[go_sem]) (fun ρ=>rfl)) (by simp(disch:=omega)only[go_sem]) ?_
 rintro r hs ⟨rfl,rfl⟩
 refine⟨by simp[qB],?_⟩
 simp(disch:=omega)only[go_sem]
 refine ql [] [] [] [.v (.bool (!xs.any fun x=> !p x))] rfl (by simp(disch:=omega)only[go_sem]) (by simp(disch:=omega)only[go_sem]) (by simp) (by simp[AV.pu,zr]) ⟨?_,rfl⟩
 have:(!xs.any fun x=> !p x)=xs.all p:=by rw[List.all_eq_not_any_not]
 rw[this];rfl
end Go.Ab
namespace Go.Ab
open Go Go.Proofs
theorem ai5(xs:List Int)(hl:xs.length≤2^40):Con Tryz.prog 326 true [.ag [.sl xs.length (qg xs)]] [] (Xg (Xw xs)):=by
 refine Con.of_aw Tryz.func326 rfl Tryz.ntmps326 (by simp) (by simp) (by simp) (W.sound ?_)
 show @W Tryz.prog 29 ⟨_⟩ ⟨fun x σ=>@qY _ _ _ ⟨_⟩ _ ⟨_⟩ x σ⟩ _ _
 have en:((xs.length:Int)-1).toNat=xs.length-1:=by omega
 simp(disch:=omega)only[go_sem]
 refine qh (fun h1=>?_) (fun h1=>?_)
 ·simp(disch:=omega)only[go_sem,h1]
  refine qs (afq 341 (fun x=>decide (0≤x)&&decide (x≤65535)) xs hl ae7 (by simp(disch:=omega)only[go_sem])) (by simp(disch:=omega)only[go_sem]) ?_
  rintro r hs ⟨rfl,rfl⟩
  refine⟨by simp[qB],?_⟩
  simp(disch:=omega)only[go_sem]
  refine Q5 (fun h2=>?_) (fun h2=>?_)
  ·simp(disch:=omega)only[go_sem,h2]
   refine jv (fun h3=>?_) (fun h3=>?_)
   ·simp(disch:=omega)only[go_sem,h3,en]
    refine⟨by omega,by omega,?_⟩
    refine qu (by simp(disch:=omega)only[go_sem]) (by simp(disch:=omega)only[go_sem]) ⟨?_,rfl⟩
    have e1:decide (xs.length≤100)=true:=by simp;omega
    have e2:decide (xs.length=0)=false:=by simp;intro h;subst h;simp at h3
    show AV.v (.bool _)=AV.v (.bool _)
    unfold Xw
    rw[e1,h2,e2]
    simp
   ·simp(disch:=omega)only[go_sem,h3]
    refine qu (by simp(disch:=omega)only[go_sem]) (by simp(disch:=omega)only[go_sem]) ⟨?_,rfl⟩
    have e1:decide (xs.length≤100)=true:=by simp;omega
    have e2:decide (xs.length=0)=true:=by simp;exact List.length_eq_zero_iff.1 (by omega)
    show AV.v (.bool _)=AV.v (.bool _)
    unfold Xw
    rw[e1,h2,e2]
    simp
  ·simp(disch:=omega)only[go_sem,h2]
   refine qu (by simp(disch:=omega)only[go_sem]) (by simp(disch:=omega)only[go_sem]) ⟨?_,rfl⟩
   show AV.v (.bool _)=AV.v (.bool _)
   unfold Xw
   rw[h2];simp
 ·simp(disch:=omega)only[go_sem,h1]
  exact qu (by simp(disch:=omega)only[go_sem]) (by simp(disch:=omega)only[go_sem]) ⟨by simp[Xw,zr];omega,rfl⟩
end Go.Ab
namespace Go.Ab
open Go Go.Proofs
theorem Con.boolI{P:Program}{f:FuncId}{args:List AV}{b:Bool}(h:Con P f true args [] (Xg b)):Con P f true args [] (isA (.v (.bool b))):=
 (Con.len h).mono fun r hs bs ⟨⟨h1,h2⟩,h3⟩=>⟨h1,h2,h3⟩
theorem jl(n lo hi:Int):Con Tryz.prog 52 true [.v (.int .i64 n),.v (.int .i64 lo),.v (.int .i64 hi)] [] (isA (.v (.bool (decide (lo≤n)&&decide (n≤hi))))):=
 Con.boolI (XG n lo hi)
theorem ae6(xs:List Int)(hl:xs.length≤2^40):Con Tryz.prog 326 true [.ag [.sl xs.length (qg xs)]] [] (isA (.v (.bool (Xw xs)))):=Con.boolI (ai5 xs hl)
theorem ab3(s:Bool)(xs:List Int)(hl:xs.length≤2^40):Con Tryz.prog 299 true [.ag [.v (.bool s),.sl xs.length (qg xs)]] [] (isA (.v (.bool (Qp s xs)))):=by
 refine Con.of_aw Tryz.func299 rfl Tryz.ntmps299 (by simp) (by simp) (by simp) (W.sound ?_)
 show @W Tryz.prog 18 ⟨_⟩ ⟨fun x σ=>@qY _ _ _ ⟨_⟩ _ ⟨_⟩ x σ⟩ _ _
 simp(disch:=omega)only[go_sem]
 refine qm (ae6 xs hl) ?_
 simp(disch:=omega)only[go_sem]
 repeat' first
  |simp(disch:=omega)only[go_sem, *]
  |(with_reducible refine qh (fun _=>?_) (fun _=>?_))
  |(with_reducible refine jv (fun _=>?_) (fun _=>?_))
  |(with_reducible refine ady (fun _=>?_) (fun _=>?_))
  |(with_reducible refine Q5 (fun _=>?_) (fun _=>?_))
 all_goals exact qu (by simp(disch:=omega)only[go_sem]) (by simp(disch:=omega)only[go_sem]) ⟨by simp_all[zr,Qp]<;>omega,rfl,rfl⟩
def ovB(s:Bool)(mode:Int):Bool:=decide (mode=1)||((decide (mode=2)&&s)||(decide (mode=3)&& !s))
def flB(k:Int)(s:Bool)(m e:Int):Bool:=
 if k=1 then(decide (-1074≤e)&&decide (e≤971))&&((decide (4503599627370496≤m)&&decide (m≤9007199254740991))||((decide (1≤m)&&decide (m≤4503599627370495))&&decide (e= -1074)))
 else if k=0∨k=2 then decide (m=0)&&decide (e=0)else((decide (k=3)&&decide (m=0))&&decide (e=0))&& !s
end Go.Ab
namespace Go.Ab
open Go Go.Proofs
def Yx(top:Int):Int:=if-1074>top-53 then-1074 else top-53
def flE(rm:Nat)(re:Int):Int:=Yx ((bl rm:Int)+re)
def flM(rm:Nat)(re:Int):Nat:=oM rm*2^(oE rm re-flE rm re).toNat
def asM(top:Int)(same:Bool):Int:=if same then 0 else if top≤ -1022 then 5 else 1
def flK(s:Bool)(mode:Int)(rm:Nat)(re:Int):Int:=if rm=0 then 0 else if 1024<(bl rm:Int)+re then(if ovB s mode then 1 else 2)else 1
def aBS(s:Bool)(mode:Int)(rm:Nat)(re:Int):Int:=if rm=0 then 0 else if 1024<(bl rm:Int)+re then(if ovB s mode then 9007199254740991 else 0)else(flM rm re:Int)
def aBT(s:Bool)(mode:Int)(rm:Nat)(re:Int):Int:=if rm=0 then 0 else if 1024<(bl rm:Int)+re then(if ovB s mode then 971 else 0)else flE rm re
def aCu(top:Int)(same:Bool)(rm:Nat)(re:Int):Int:=if rm≠0∧1024<(bl rm:Int)+re then 3 else asM top same
end Go.Ab
namespace Go.Ab
open Go
def qj{X:Type}(f:X→List AV)(l:List X):List AV:=(l.map f).flatten
section
variable {X:Type}{f:X→List AV}{z:Nat}{l:List X}
theorem jY:qj f []=[]:=by simp[qj]
theorem qO{x:X}:qj f (x::l)=f x++qj f l:=by simp[qj]
theorem yh(hz:∀x,(f x).length=z):(qj f l).length=l.length*z:=by
 induction l with
 |nil=>simp[qj]
 |cons x r ih=>rw[qO,List.length_append,hz,ih,List.length_cons,Nat.add_mul,Nat.one_mul,Nat.add_comm]
theorem alr(hz:∀x,(f x).length=z)(i:Nat):(qj f l).drop (i*z)=qj f (l.drop i):=by
 induction l generalizing i with
 |nil=>simp[qj]
 |cons x r ih=>
  cases i with
  |zero=>simp
  |succ i=>
   rw[qO,List.drop_succ_cons,←ih,Nat.add_mul,Nat.one_mul,Nat.add_comm,←List.drop_drop,List.drop_left' (hz x)]
theorem alq(hz:∀x,(f x).length=z)(i:Nat):(qj f l).take (i*z)=qj f (l.take i):=by
 induction l generalizing i with
 |nil=>simp[qj]
 |cons x r ih=>
  cases i with
  |zero=>simp[jY]
  |succ i=>
   rw[qO,List.take_succ_cons,qO,←ih,Nat.add_mul,Nat.one_mul,Nat.add_comm,←hz x,List.take_length_add_append]
theorem aqJ(hz:∀x,(f x).length=z)(o n:Nat):cut (qj f l) (o*z) (n*z)=qj f ((l.drop o).take n):=by
 rw[cut,alr hz,alq hz]
theorem Qv(hz:∀x,(f x).length=z){i:Nat}(hi:i<l.length)(d:X):cut (qj f l) (i*z) z=f (l.getD i d):=by
 have h:=aqJ (l:=l) hz i 1
 rw[Nat.one_mul]at h
 have e:(l.drop i).take 1=[l.getD i d]:=by
  rw[List.drop_eq_getElem_cons hi,List.getD_eq_getElem?_getD,List.getElem?_eq_getElem hi];rfl
 rw[h,e,qO,jY,List.append_nil]
theorem Z1{ρ:Nat→Nat}(h:∀x,zq ρ (f x)=f x):zq ρ (qj f l)=qj f l:=by
 induction l with
 |nil=>rfl
 |cons x r ih=>
  rw[qO]
  have:∀a b:List AV,zq ρ (a++b)=zq ρ a++zq ρ b:=fun a b=>by simp[qU]
  rw[this,h,ih]
theorem Zw{hp:Nat→Ob}{k:Nat}(h:∀x,(f x).map (qD hp k)=f x):(qj f l).map (qD hp k)=qj f l:=by
 induction l with
 |nil=>rfl
 |cons x r ih=>rw[qO,List.map_append,h,ih]
theorem Z2{p:Nat→Prop}(h:∀x,AllL p (f x)):AllL p (qj f l):=by
 induction l with
 |nil=>simp[qj,AllL]
 |cons x r ih=>rw[qO];exact AllL.append (h x) ih
theorem amy{h:Nat→Ob}{sz o:Nat}{K:AV→Prop}:@Qn true sz h (.fp (qj f l) o) ⟨K⟩=(o+sz≤(qj f l).length∧K (.ag (cut (qj f l) o sz))):=ID rfl
theorem yi{l':List X}:qj f l++qj f l'=qj f (l++l'):=by simp[qj]
end
structure FlV where
 k:Int
 s:Bool
 m:Int
 e:Int
def FlV.cs(x:FlV):List AV:=[.v (.int .i64 x.k),.v (.bool x.s),.v (.int .i64 x.m),.v (.int .i64 x.e)]
theorem ay1(x:FlV):x.cs.length=4:=rfl
theorem apc{ρ:Nat→Nat}(x:FlV):zq ρ x.cs=x.cs:=rfl
theorem air{hp:Nat→Ob}{k:Nat}(x:FlV):x.cs.map (qD hp (k+1))=x.cs:=rfl
theorem apd{p:Nat→Prop}(x:FlV):AllL p x.cs:=by simp[FlV.cs,AllL,AV.All]
theorem asu{l:List FlV}:(qj FlV.cs l).length=l.length*4:=yh ay1
theorem ast{ρ:Nat→Nat}{l:List FlV}:zq ρ (qj FlV.cs l)=qj FlV.cs l:=Z1 apc
theorem am2{hp:Nat→Ob}{k:Nat}{l:List FlV}:(qj FlV.cs l).map (qD hp (k+1))=qj FlV.cs l:=Zw air
theorem asv{p:Nat→Prop}{l:List FlV}:AllL p (qj FlV.cs l)=True:=eq_true (Z2 apd)
theorem am3{p:Nat→Prop}{x:FlV}:AllL p x.cs=True:=eq_true (apd x)
attribute [go_sem] amy asu ast am2 asv am3 apc air
end Go.Ab
namespace Go.Ab
open Go Go.Proofs
section
variable (g:Nat)(p:FlV→Bool)
end
def aDY(x:FlV):Bool:=flB x.k x.s x.m x.e
end Go.Ab
namespace Go.Ab
open Go Go.Proofs
def flV(s:Bool)(m:Nat)(e mode:Int)(z:Bool):FlV:=
 if m=0 then⟨0,z,0,0⟩else
  ⟨flK s mode (roM s m e (Yx (bl m+e)) mode) (roE m e (Yx (bl m+e))),s,aBS s mode (roM s m e (Yx (bl m+e)) mode) (roE m e (Yx (bl m+e))),aBT s mode (roM s m e (Yx (bl m+e)) mode) (roE m e (Yx (bl m+e)))⟩
def flG(s:Bool)(m:Nat)(e mode:Int):Int:=
 if m=0 then 0 else aCu (bl m+e) (roX m e (Yx (bl m+e))) (roM s m e (Yx (bl m+e)) mode) (roE m e (Yx (bl m+e)))
theorem ae1(s1:Bool)(m1:Nat)(e1:Int)(s2:Bool)(m2:Nat)(e2:Int)(h1:bl m1≤4000000)(h2:bl m2≤4000000)(he1: -2^40≤e1∧e1≤2^40)(he2: -2^40≤e2∧e2≤2^40):
  Con Tryz.prog 200 false [.ag [.v (.bool (s1)),.sl (lim (m1)).length (qg (lim (m1))),.v (.int .i64 (e1))],.ag [.v (.bool (s2)),.sl (lim (m2)).length (qg (lim (m2))),.v (.int .i64 (e2))]] [] (isA (.ag [.v (.bool ((s1 != s2)&&decide (m1*m2≠0))),.sl (lim (m1*m2)).length (qg (lim (m1*m2))),.v (.int .i64 (e1+e2))])):=by
 refine Con.frzA ?_
 refine Con.of_w (rs:=[.cell 4 97]) Tryz.func200 rfl Tryz.ntmps200 rfl ?_
 simp(disch:=omega)only[go_sem]
 have l1:=qv h1
 have l2:=qv h2
 refine qa (XJ m1 m2 (by omega) (by omega)) ?_
 simp(disch:=omega)only[go_sem]
 have hl:(lim (m1*m2)).length≤2000000:=by have:=qv (Nat.le_trans (jN m1 m2) (Nat.add_le_add h1 h2));omega
 have hq:decide ((0:Int)<((lim (m1*m2)).length:Int))=decide (m1*m2≠0):=by
  rw[decide_eq_decide]
  exact⟨fun h e=>by rw[e,qr]at h;simp at h,fun h=>by have:=yG h;omega⟩
 refine Q5 (fun h3=>?_) (fun h3=>?_)
 ·simp(disch:=omega)only[go_sem,h3,hq]
  exact qn (hp:=by simp(disch:=omega)only[go_sem,h3,Bool.true_and])
 ·simp(disch:=omega)only[go_sem,h3]
  exact qn (hp:=by simp(disch:=omega)only[go_sem,h3,Bool.false_and])
end Go.Ab
namespace Go.Ab
open Go Go.Proofs
theorem av2(m:Nat):decide ((0:Int)<((lim m).length:Int))=decide (m≠0):=by
 rw[decide_eq_decide]
 exact⟨fun h e=>by rw[e,qr]at h;simp at h,fun h=>by have:=yG h;omega⟩
theorem YQ(m:Nat)(hl:(lim m).length≤2^39):Con Tryz.prog 188 false [.sl (lim (m)).length (qg (lim (m)))] [] (isA (.ag [.sl (lim (m)).length (qg (lim (m)))])):=(yd false (lim m) m hl (zf m) (zb m)).natF
theorem zF(n:Nat)(hn:n<2^63):Con Tryz.prog 180 false [.v (.int .i64 n)] [] (isA (.ag [.sl (lim (n)).length (qg (lim (n)))])):=(adN false n hn).natF
theorem yR(a b:Nat)(la:(lim a).length≤2000000)(lb:(lim b).length≤2000000):Con Tryz.prog 179 false [.ag [.sl (lim (a)).length (qg (lim (a)))],.ag [.sl (lim (b)).length (qg (lim (b)))]] [] (isA (.ag [.sl (lim (a+b)).length (qg (lim (a+b)))])):=(ajn false a b la lb).natF
theorem ye(a b:Nat)(la:(lim a).length≤1000000)(lb:(lim b).length≤1000000):Con Tryz.prog 264 false [.ag [.sl (lim (a)).length (qg (lim (a)))],.ag [.sl (lim (b)).length (qg (lim (b)))]] [] (isA (.ag [.sl (lim (a*b)).length (qg (lim (a*b)))])):=(ajm false a b la lb).natF
theorem yc(a k:Nat)(la:(lim a).length≤400000)(hk:k≤5000000):Con Tryz.prog 247 false [.ag [.sl (lim (a)).length (qg (lim (a)))],.v (.int .i64 k)] [] (isA (.ag [.sl (lim (a*2^k)).length (qg (lim (a*2^k)))])):=(ajl false a k la hk).natF
theorem qQ(s:Bool)(m:Nat)(hl:(lim m).length≤2^39):Con Tryz.prog 107 false [.v (.bool s),.ag [.sl (lim (m)).length (qg (lim (m)))]] [] (isA (.ag [.v (.bool (s&&decide (m≠0))),.sl (lim (m)).length (qg (lim (m)))])):=by
 refine Con.frzA ?_
 refine Con.of_w (rs:=[.cell 4 42]) Tryz.func107 rfl Tryz.ntmps107 rfl ?_
 simp(disch:=omega)only[go_sem]
 refine qq rfl [⟨0,[],[]⟩,⟨1,[],[]⟩,⟨2,[],[]⟩,⟨3,[],[]⟩,⟨4,[],[]⟩,⟨5,[],[]⟩,⟨6,[],[]⟩,⟨7,[3],[]⟩,⟨8,[3],[]⟩,⟨9,[3],[]⟩,⟨10,[],[]⟩,⟨11,[],[]⟩] (by kernel_rfl) ?_
 simp(disch:=omega)only[go_sem]
 refine Q5 (fun h1=>?_) (fun h1=>?_)
 ·simp(disch:=omega)only[go_sem,h1,av2]
  refine qa (YQ m hl) ?_
  simp(disch:=omega)only[go_sem]
  exact qn (hp:=by simp(disch:=omega)only[go_sem,h1,Bool.true_and])
 ·simp(disch:=omega)only[go_sem,h1]
  refine qa (YQ m hl) ?_
  simp(disch:=omega)only[go_sem]
  exact qn (hp:=by simp(disch:=omega)only[go_sem,h1,Bool.false_and])
theorem V2(n:Int)(h: -9223372036854775808≤n∧n<9223372036854775808):Con Tryz.prog 95 false [.v (.int .i64 n)] [] (isA (.ag [.v (.bool (decide (n<0))),.sl (lim (n.natAbs)).length (qg (lim (n.natAbs)))])):=by
 refine Con.frzA ?_
 refine Con.of_aw Tryz.func95 rfl Tryz.ntmps95 (by simp) (by simp) (by simp) (W.sound ?_)
 show @W Tryz.prog 15 ⟨_⟩ ⟨fun x σ=>@qY _ _ _ ⟨_⟩ _ ⟨_⟩ x σ⟩ _ _
 simp(disch:=omega)only[go_sem]
 refine qh (fun h1=>?_) (fun h1=>?_)
 ·simp(disch:=omega)only[go_sem,h1]
  have e1:0-(n+1)=(((0-(n+1)).toNat:Nat):Int):=by omega
  refine qa (zF (0-(n+1)).toNat (by omega)) ?_ (by simp(disch:=omega)only[go_sem,←e1])
  simp(disch:=omega)only[go_sem]
  refine qa (zF 1 (by omega)) ?_
  simp(disch:=omega)only[go_sem]
  have l1:=qv (m:=(0-(n+1)).toNat) (B:=64) (qZ.2 (by omega))
  have l2:=qv (m:=1) (B:=64) (by decide)
  refine qa (yR (0-(n+1)).toNat 1 (by omega) (by omega)) ?_
  simp(disch:=omega)only[go_sem]
  have e2:(0-(n+1)).toNat+1=n.natAbs:=by omega
  have l3:=qv (m:=(0-(n+1)).toNat+1) (B:=64) (qZ.2 (by omega))
  refine qa (qQ true ((0-(n+1)).toNat+1) (by omega)) ?_
  simp(disch:=omega)only[go_sem]
  refine qX (by simp(disch:=omega)only[go_sem]) ?_
  show qD _ 6 _=_
  have e3:decide (n.natAbs≠0)=true:=by simp;omega
  rw[e2]
  simp(disch:=omega)only[go_sem,e3,h1,Bool.true_and]
 ·simp(disch:=omega)only[go_sem,h1]
  have e1:n=((n.natAbs:Nat):Int):=by omega
  refine qa (zF n.natAbs (by omega)) ?_ (by simp(disch:=omega)only[go_sem,←e1])
  simp(disch:=omega)only[go_sem]
  have l3:=qv (m:=n.natAbs) (B:=64) (qZ.2 (by omega))
  refine qa (qQ false n.natAbs (by omega)) ?_
  simp(disch:=omega)only[go_sem]
  exact qn (hp:=by simp(disch:=omega)only[go_sem,h1,Bool.false_and])
theorem ajh(s1:Bool)(m1:Nat)(s2:Bool)(m2:Nat)(h1:bl m1≤4000000)(h2:bl m2≤4000000):Con Tryz.prog 250 false [.ag [.v (.bool (s1)),.sl (lim (m1)).length (qg (lim (m1)))],.ag [.v (.bool (s2)),.sl (lim (m2)).length (qg (lim (m2)))]] [] (isA (.ag [.v (.bool ((s1 != s2)&&decide (m1*m2≠0))),.sl (lim (m1*m2)).length (qg (lim (m1*m2)))])):=by
 refine Con.frzA ?_
 refine Con.of_w (rs:=[.cell 4 42]) Tryz.func250 rfl Tryz.ntmps250 rfl ?_
 simp(disch:=omega)only[go_sem]
 have l1:=qv h1
 have l2:=qv h2
 refine qq rfl [⟨0,[],[]⟩,⟨1,[],[]⟩,⟨2,[1],[]⟩,⟨3,[1],[]⟩,⟨4,[],[]⟩,⟨5,[1,3],[]⟩,⟨6,[1,3],[]⟩,⟨7,[1,3,6],[]⟩,⟨8,[1,3,6],[]⟩,⟨9,[1,3],[]⟩,⟨10,[],[]⟩,⟨11,[],[]⟩] (by kernel_rfl) ?_
 simp(disch:=omega)only[go_sem]
 refine qa (ye m1 m2 (by omega) (by omega)) ?_
 simp(disch:=omega)only[go_sem]
 have l3:=qv (Nat.le_trans (jN m1 m2) (Nat.add_le_add h1 h2))
 refine qa (qQ (s1 != s2) (m1*m2) (by omega)) ?_
 simp(disch:=omega)only[go_sem]
 exact qn
theorem jG(s:Bool)(m:Nat)(e:Int)(hm:bl m≤8000000)(he: -2^40≤e∧e≤2^40):Con Tryz.prog 94 false [.ag [.v (.bool (s)),.sl (lim (m)).length (qg (lim (m)))],.v (.int .i64 e)] [] (isA (.ag [.v (.bool (oS s m)),.sl (lim (oM m)).length (qg (lim (oM m))),.v (.int .i64 (oE m e))])):=by
 refine Con.frzA ?_
 refine Con.of_aw Tryz.func94 rfl Tryz.ntmps94 (by simp) (by simp) (by simp) (W.sound ?_)
 show @W Tryz.prog 26 ⟨_⟩ ⟨fun x σ=>@qY _ _ _ ⟨_⟩ _ ⟨_⟩ x σ⟩ _ _
 simp(disch:=omega)only[go_sem]
 have hl:=qv hm
 refine qh (fun h1=>?_) (fun h1=>?_)
 ·simp(disch:=omega)only[go_sem,h1]
  have h0:m=0:=qE.1 (List.length_eq_zero_iff.1 (by omega))
  subst h0
  refine qX (by simp(disch:=omega)only[go_sem]) ?_
  show qD _ 6 _=_
  simp only[oS,jC,oE,qr,if_true]
  simp(disch:=omega)only[go_sem]
 ·have h0:m≠0:=fun e=>h1 (by rw[e,qr];rfl)
  have ht:=yV h0
  simp(disch:=omega)only[go_sem,h1]
  refine qm (YP m (by omega)) ?_
  simp(disch:=omega)only[go_sem]
  refine qq rfl [⟨0,[],[]⟩,⟨1,[],[]⟩,⟨2,[1],[]⟩,⟨3,[1],[]⟩,⟨4,[1,3],[]⟩,⟨7,[1,3],[]⟩,⟨8,[1,3],[]⟩,⟨9,[1,3],[]⟩,⟨5,[1],[]⟩,⟨6,[],[]⟩,⟨10,[],[]⟩,⟨11,[],[]⟩] (by kernel_rfl) ?_
  simp(disch:=omega)only[go_sem]
  refine qa (aaK m (tz m) (by omega) (by omega)) ?_
  simp(disch:=omega)only[go_sem]
  have l3:=qv (Nat.le_trans (Qf m (2^tz m)) hm)
  refine qa (qQ s (m/2^tz m) (by omega)) ?_
  simp(disch:=omega)only[go_sem]
  refine qX (by simp(disch:=omega)only[go_sem]) ?_
  show qD _ 6 _=_
  have h3:decide (m/2^tz m≠0)=true:=by
   have:=(ZB h0).1
   simp only[decide_eq_true_eq];omega
  simp only[oS,oM,oE,if_neg h0]
  simp(disch:=omega)only[go_sem,h3,Bool.and_true]
theorem aje(s1:Bool)(m1:Nat)(e1:Int)(s2:Bool)(m2:Nat)(e2:Int)(h1:bl m1≤4000000)(h2:bl m2≤4000000)(he1: -2^39≤e1∧e1≤2^39)(he2: -2^39≤e2∧e2≤2^39):
  Con Tryz.prog 182 false [.ag [.v (.bool (s1)),.sl (lim (m1)).length (qg (lim (m1))),.v (.int .i64 (e1))],.ag [.v (.bool (s2)),.sl (lim (m2)).length (qg (lim (m2))),.v (.int .i64 (e2))]] [] (isA (.ag [.v (.bool (oS ((s1 != s2)&&decide (m1*m2≠0)) (m1*m2))),.sl (lim (oM (m1*m2))).length (qg (lim (oM (m1*m2)))),.v (.int .i64 (oE (m1*m2) (e1+e2)))])):=by
 refine Con.frzA ?_
 refine Con.of_w (rs:=[.cell 4 44]) Tryz.func182 rfl Tryz.ntmps182 rfl ?_
 simp(disch:=omega)only[go_sem]
 refine qq rfl [⟨0,[],[]⟩,⟨1,[],[]⟩,⟨2,[1],[]⟩,⟨3,[1],[]⟩,⟨5,[1,3],[]⟩,⟨6,[1,3],[]⟩,⟨7,[1,3,6],[]⟩,⟨8,[1,3,6],[]⟩,⟨9,[1,3],[]⟩,⟨4,[6,8],[]⟩,⟨10,[],[]⟩,⟨11,[],[]⟩] (by kernel_rfl) ?_
 simp(disch:=omega)only[go_sem]
 refine qa (ajh s1 m1 s2 m2 h1 h2) ?_
 simp(disch:=omega)only[go_sem]
 have h3:=Nat.le_trans (jN m1 m2) (Nat.add_le_add h1 h2)
 refine qa (jG ((s1 != s2)&&decide (m1*m2≠0)) (m1*m2) (e1+e2) (by omega) (by omega)) ?_
 simp(disch:=omega)only[go_sem]
 exact qn
theorem ajc(s:Bool)(m:Nat)(e:Int)(hm:(lim m).length≤2^40)(he: -2^40≤e∧e≤2^40):Con Tryz.prog 207 true [.ag [.v (.bool (s)),.sl (lim (m)).length (qg (lim (m))),.v (.int .i64 (e))]] [] (isA (.v (.int .i64 (if m=0 then 0 else e+(bl m:Int))))):=by
 refine Con.of_w (rs:=[.tmp 2]) Tryz.func207 rfl Tryz.ntmps207 rfl ?_
 simp(disch:=omega)only[go_sem]
 refine qh (fun h1=>?_) (fun h1=>?_)
 ·simp(disch:=omega)only[go_sem,h1]
  have h0:m=0:=qE.1 (List.length_eq_zero_iff.1 (by omega))
  rw[if_pos h0]
  exact qt
 ·have h0:m≠0:=fun e=>h1 (by rw[e,qr];rfl)
  have:=Za (m:=m)
  simp(disch:=omega)only[go_sem,h1]
  refine qq rfl [⟨0,[],[]⟩,⟨1,[],[]⟩,⟨2,[1],[]⟩,⟨3,[1],[]⟩,⟨4,[1],[]⟩,⟨5,[1],[]⟩,⟨6,[],[]⟩,⟨7,[],[]⟩] (by kernel_rfl) ?_
  simp(disch:=omega)only[go_sem]
  refine qm (XR m hm) ?_
  simp(disch:=omega)only[go_sem]
  rw[if_neg h0]
  exact qt
end Go.Ab
namespace Go.Ab
def afX(neg:Bool)(m k:Nat)(mode:Int):Bool:=
 if mode=1 then false else if mode=2 then !neg else if mode=3 then neg else if mode=4 then decide (m/2^(k-1) % 2=1)
 else decide (m/2^(k-1) % 2=1)&&(decide (tz m<k-1)||decide (m/2^k % 2=1))
theorem amL{m k:Nat}(hk:1≤k):m/2^(k-1) % 2=1↔2^k≤m % 2^k*2:=by
 obtain⟨j,rfl⟩:∃j,k=j+1:=⟨k-1,by omega⟩
 rw[Nat.add_sub_cancel]
 have hp:0<2^j:=Nat.pow_pos (by omega)
 have h1:m % 2^(j+1)/2^j=m/2^j % 2:=by rw[Nat.pow_succ,Nat.mod_mul_right_div_self]
 have h2:m % 2^(j+1)<2^(j+1):=Nat.mod_lt _ (Nat.pow_pos (by omega))
 rw[←h1]
 generalize m % 2^(j+1)=r at*
 rw[Nat.pow_succ]at*
 constructor
 ·intro h
  have h3:=(Nat.le_div_iff_mul_le hp).1 (show 1≤r/2^j by
   rcases Nat.eq_zero_or_pos (r/2^j)with e|e
   ·rw[e]at h;simp at h
   ·exact e)
  omega
 ·intro h
  have h3:1≤r/2^j:=(Nat.le_div_iff_mul_le hp).2 (by omega)
  have h4:r/2^j<2:=(Nat.div_lt_iff_lt_mul hp).2 (by omega)
  omega
theorem acF{a b:Int}:(0<zG a b↔b<a)∧(zG a b=0↔a=b)∧(0≤zG a b↔b≤a):=by
 unfold zG
 split
 ·omega
 ·split<;>omega
theorem ac0{m:Nat}(h:m % 2=1):tz m=0:=J3 (a:=m/2) (by simp;omega)
theorem aut{neg:Bool}{m k:Nat}{mode:Int}(hm:m % 2=1)(hk:1≤k)(h0:0≤mode∧mode≤4):
  afX neg m k mode=rup neg (decide (m/2^k % 2=1)) (zG ((m % 2^k*2:Nat):Int) ((2^k:Nat):Int)) mode:=by
 have hb:=amL (m:=m) hk
 obtain⟨c1,c2,c3⟩:=acF (a:=((m % 2^k*2:Nat):Int)) (b:=((2^k:Nat):Int))
 generalize zG ((m % 2^k*2:Nat):Int) ((2^k:Nat):Int)=c at*
 have ht:=ac0 hm
 unfold afX rup
 rcases(by omega:mode=0∨mode=1∨mode=2∨mode=3∨mode=4)with rfl|rfl|rfl|rfl|rfl
 ·rw[if_neg (by omega),if_neg (by omega),if_neg (by omega),if_neg (by omega),if_neg (by omega),if_neg (by omega),if_pos rfl,ht]
  rw[Bool.eq_iff_iff]
  simp only[Bool.and_eq_true,Bool.or_eq_true,decide_eq_true_eq,c1,c2]
  rw[hb]
  rcases(by omega:k=1∨1<k)with rfl|h
  ·have:m % 2^1=1:=by rw[Nat.pow_one];exact hm
   rw[this];simp
  ·have hodd:m % 2^k % 2=1:=by
    obtain⟨j,rfl⟩:∃j,k=j+1:=⟨k-1,by omega⟩
    rw[Nat.pow_succ,Nat.mul_comm,Nat.mod_mul_right_mod];exact hm
   have h4:2^k % 4=0:=by
    obtain⟨j,rfl⟩:∃j,k=j+2:=⟨k-2,by omega⟩
    rw[Nat.pow_add];omega
   omega
 ·simp
 ·simp
 ·simp
 ·rw[if_neg (by omega),if_neg (by omega),if_neg (by omega),if_pos rfl,if_neg (by omega),if_neg (by omega),if_neg (by omega),if_pos rfl]
  rw[decide_eq_decide,hb,c3];omega
theorem ari{m k:Nat}(hm:m % 2=1)(hk:1≤k):m % 2^k≠0:=by
 obtain⟨j,rfl⟩:∃j,k=j+1:=⟨k-1,by omega⟩
 intro h
 have:m % 2^(j+1) % 2=1:=by rw[Nat.pow_succ,Nat.mul_comm,Nat.mod_mul_right_mod];exact hm
 omega
/-! ### The normal form and rounding-/
theorem aoX{m k:Nat}:oM (m*2^k)=oM m:=by
 by_cases h:m=0
 ·subst h;simp
 ·unfold oM
  rw[ZU h,Nat.pow_add,Nat.mul_comm (2^tz m),←Nat.div_div_eq_div_mul,Nat.mul_div_cancel _ (Nat.pow_pos (by omega))]
theorem JR{s:Bool}{a b k:Nat}{mode:Int}:rq s (a*2^k) (b*2^k) mode=rq s a b mode:=by
 have hp:0<2^k:=Nat.pow_pos (by omega)
 have h1:a*2^k/(b*2^k)=a/b:=Nat.mul_div_mul_right _ _ hp
 have h2:a*2^k % (b*2^k)=a % b*2^k:=Nat.mul_mod_mul_right _ _ _
 have h3:zG ((a % b*2^k*2:Nat):Int) ((b*2^k:Nat):Int)=zG ((a % b*2:Nat):Int) (b:Int):=by
  have e1:a % b*2^k*2=a % b*2*2^k:=by grind
  rw[e1]
  have h4:∀x y:Nat,x*2^k<y*2^k↔x<y:=fun x y=>Nat.mul_lt_mul_right hp
  have key:∀x y X Y:Nat,(X<Y↔x<y)→(Y<X↔y<x)→zG (X:Int) (Y:Int)=zG (x:Int) (y:Int):=by
   intro x y X Y p q
   unfold zG
   rcases Nat.lt_trichotomy x y with h|h|h
   ·have:=p.2 h
    rw[if_pos (by omega),if_pos (by omega)]
   ·have g1:¬X<Y:=fun g=>by have:=p.1 g;omega
    have g2:¬Y<X:=fun g=>by have:=q.1 g;omega
    rw[if_neg (by omega),if_neg (by omega),if_neg (by omega),if_neg (by omega)]
   ·have:=q.2 h
    rw[if_neg (by omega),if_pos (by omega),if_neg (by omega),if_pos (by omega)]
  exact key _ _ _ _ (h4 _ _) (h4 _ _)
 unfold rq
 rw[h1,h2,h3]
 by_cases h:a % b=0
 ·rw[if_pos h,if_pos (by rw[h];simp)]
 ·rw[if_neg h,if_neg (by have:=Nat.mul_pos (show 0<a % b by omega) hp;omega)]
theorem au1{s:Bool}{a:Nat}{mode:Int}:rq s a 1 mode=a:=by unfold rq;simp[Nat.mod_one]
end Go.Ab
namespace Go.Ab
open Go Go.Proofs
theorem ajb(neg:Bool)(m k:Nat)(mode:Int)(hl:(lim m).length≤2^40)(hk:1≤k)(hk2:k≤2^40):Con Tryz.prog 181 true [.v (.bool neg),.ag [.sl (lim (m)).length (qg (lim (m)))],.v (.int .i64 k),.v (.int .i64 mode)] [] (isA (.v (.bool (afX neg m k mode)))):=by
 refine Con.of_aw Tryz.func181 rfl Tryz.ntmps181 (by simp) (by simp) (by simp) (W.sound ?_)
 show @W Tryz.prog 44 ⟨_⟩ ⟨fun x σ=>@qY _ _ _ ⟨_⟩ _ ⟨_⟩ x σ⟩ _ _
 have ek:((k:Int)-1)=((k-1:Nat):Int):=by omega
 have e1:decide (((m/2^(k-1) % 2:Nat):Int)=1)=decide (m/2^(k-1) % 2=1):=by rw[decide_eq_decide];omega
 have e2:decide (((m/2^k % 2:Nat):Int)=1)=decide (m/2^k % 2=1):=by rw[decide_eq_decide];omega
 have e3:decide ((tz m:Int)<((k-1:Nat):Int))=decide (tz m<k-1):=by rw[decide_eq_decide];omega
 simp(disch:=omega)only[go_sem,ek]
 refine qs (ZO m ((k-1:Nat):Int) hl (by omega) (by omega)) (by simp(disch:=omega)only[go_sem,ek]) ?_
 rintro r hs ⟨rfl,rfl,_⟩
 refine⟨by simp[qB],?_⟩
 simp(disch:=omega)only[go_sem,ek,e1]
 refine qm (YP m hl) ?_
 simp(disch:=omega)only[go_sem]
 refine qh (fun h1=>?_) (fun h1=>?_)
 ·simp(disch:=omega)only[go_sem,h1]
  exact qu (by simp(disch:=omega)only[go_sem]) (by simp(disch:=omega)only[go_sem]) ⟨by simp[zr,afX,h1],rfl,rfl⟩
 ·simp(disch:=omega)only[go_sem,h1]
  refine qh (fun h2=>?_) (fun h2=>?_)
  ·simp(disch:=omega)only[go_sem,h2]
   exact qu (by simp(disch:=omega)only[go_sem]) (by simp(disch:=omega)only[go_sem]) ⟨by simp[zr,afX,h2],rfl,rfl⟩
  ·simp(disch:=omega)only[go_sem,h2]
   refine qh (fun h3=>?_) (fun h3=>?_)
   ·simp(disch:=omega)only[go_sem,h3]
    exact qu (by simp(disch:=omega)only[go_sem]) (by simp(disch:=omega)only[go_sem]) ⟨by simp[zr,afX,h3],rfl,rfl⟩
   ·simp(disch:=omega)only[go_sem,h3]
    refine qh (fun h4=>?_) (fun h4=>?_)
    ·simp(disch:=omega)only[go_sem,h4]
     exact qu (by simp(disch:=omega)only[go_sem]) (by simp(disch:=omega)only[go_sem]) ⟨by simp[zr,afX,h4],rfl,rfl⟩
    ·simp(disch:=omega)only[go_sem,h4]
     refine Q5 (fun h5=>?_) (fun h5=>?_)
     ·simp(disch:=omega)only[go_sem,h5]
      refine ady (fun h6=>?_) (fun h6=>?_)
      ·simp(disch:=omega)only[go_sem,h6]
       refine qm (ZO m (k:Int) hl (by omega) (by omega)) ?_
       simp(disch:=omega)only[go_sem]
       have h7:decide (tz m<k-1)=false:=by rw[←e3,←ek];exact h6
       rw[e2]
       refine qu (by simp(disch:=omega)only[go_sem]) (by simp(disch:=omega)only[go_sem]) ⟨?_,rfl,rfl⟩
       show AV.v (.bool _)=AV.v (.bool _)
       unfold afX;rw[if_neg h1,if_neg h2,if_neg h3,if_neg h4,h5,h7];rfl
      ·simp(disch:=omega)only[go_sem,h6]
       have h7:decide (tz m<k-1)=true:=by rw[←e3,←ek];exact h6
       refine qu (by simp(disch:=omega)only[go_sem]) (by simp(disch:=omega)only[go_sem]) ⟨?_,rfl,rfl⟩
       show AV.v (.bool _)=AV.v (.bool _)
       unfold afX;rw[if_neg h1,if_neg h2,if_neg h3,if_neg h4,h5,h7];rfl
     ·simp(disch:=omega)only[go_sem,h5]
      refine qu (by simp(disch:=omega)only[go_sem]) (by simp(disch:=omega)only[go_sem]) ⟨?_,rfl,rfl⟩
      show AV.v (.bool _)=AV.v (.bool _)
      unfold afX;rw[if_neg h1,if_neg h2,if_neg h3,if_neg h4,h5];rfl
def srM(s:Bool)(m:Nat)(e low mode:Int):Nat:=oM (roM s m e low mode)
def srE(s:Bool)(m:Nat)(e low mode:Int):Int:=if low≤e∨m=0 then e else oE (roM s m e low mode) low
theorem acl(s:Bool)(m:Nat)(e low mode:Int)(hodd:m % 2=1∨m=0)(hs:m=0→s=false)(hmode:0≤mode∧mode≤4)(hm:bl m≤4000000)(he: -1000000≤e∧e≤1000000)(hlo: -1000000≤low∧low≤1000000):
  Con Tryz.prog 97 false [.ag [.v (.bool (s)),.sl (lim (m)).length (qg (lim (m))),.v (.int .i64 (e))],.v (.int .i64 low),.v (.int .i64 mode)] []
   (isA (.tu [.ag [.v (.bool (oS (roS s m e low mode) (roM s m e low mode))),.sl (lim (srM s m e low mode)).length (qg (lim (srM s m e low mode))),.v (.int .i64 (srE s m e low mode))],.v (.bool (roX m e low))])):=by
 refine Con.frzA ?_
 have l1:=qv hm
 refine Con.of_aw Tryz.func97 rfl Tryz.ntmps97 (by simp) (by simp) (by simp) (W.sound ?_)
 show @W Tryz.prog 51 ⟨_⟩ ⟨fun x σ=>@qY _ _ _ ⟨_⟩ _ ⟨_⟩ x σ⟩ _ _
 simp(disch:=omega)only[go_sem]
 refine jv (fun h1=>?_) (fun h1=>?_)
 ·have h0:m≠0:=fun e=>h1 (by rw[e,qr];rfl)
  have hod:m % 2=1:=hodd.resolve_right h0
  simp(disch:=omega)only[go_sem,h1]
  refine qh (fun h2=>?_) (fun h2=>?_)
  ·simp(disch:=omega)only[go_sem,h2]
   refine qX (by simp(disch:=omega)only[go_sem]) ?_
   show qD _ 6 _=_
   have ht:=ac0 hod
   have e3:oM m=m:=by unfold oM;rw[ht];simp
   simp only[srM,srE,roM,roS,roX,h2,true_or,if_true,oS,if_neg h0,e3]
   simp(disch:=omega)only[go_sem]
  ·simp(disch:=omega)only[go_sem,h2]
   have ek:low-e=(((low-e).toNat:Nat):Int):=by omega
   have hk1:1≤(low-e).toNat:=by omega
   refine qw (aaK m (low-e).toNat (by omega) (by omega)) (by simp(disch:=omega)only[go_sem,←ek]) ?_
   rintro r hs ⟨rfl,rfl,_⟩
   refine⟨by simp[qB],?_⟩
   simp(disch:=omega)only[go_sem]
   refine qs (ajb s m (low-e).toNat mode (by omega) hk1 (by omega)) (by simp(disch:=omega)only[go_sem,←ek]) ?_
   rintro r hs ⟨rfl,rfl,_⟩
   refine⟨by simp[qB],?_⟩
   simp(disch:=omega)only[go_sem]
   have hc:¬(low≤e∨m=0):=by omega
   have hne:=ari hod hk1
   have hups:=aut (neg:=s) hod hk1 hmode
   have hq:roM s m e low mode=if afX s m (low-e).toNat mode=true then m/2^(low-e).toNat+1 else m/2^(low-e).toNat:=by
    unfold roM rq
    rw[if_neg hc,if_neg hne,←hups]
   have hro:roS s m e low mode=(s&&decide (roM s m e low mode≠0)):=by unfold roS roM;rw[if_neg hc,if_neg hc]
   have hblq:bl (m/2^(low-e).toNat+1)≤4000001:=by
    have h3:=Jp (m/2^(low-e).toNat)
    have h4:=Qf m (2^(low-e).toNat)
    omega
   have hblq0:bl (m/2^(low-e).toNat)≤4000001:=Nat.le_trans (jc (by omega)) hblq
   have lq:=qv hblq
   have lq0:=qv hblq0
   have hrx:roX m e low=false:=by unfold roX;rw[if_neg hc];simp[hne]
   have hfin:∀q,roM s m e low mode=q→bl q≤4000001→AV.ag [.v (.bool (oS (s&&decide (q≠0)) q)),.sl (lim (oM q)).length (qg (lim (oM q))),.v (.int .i64 (oE q low))]=AV.ag [.v (.bool (oS (roS s m e low mode) (roM s m e low mode))),.sl (lim (srM s m e low mode)).length (qg (lim (srM s m e low mode))),.v (.int .i64 (srE s m e low mode))]:=by
    intro q hq' _
    rw[hro,hq']
    unfold srM srE
    rw[if_neg hc,hq']
   refine Q5 (fun h3=>?_) (fun h3=>?_)
   ·rw[if_pos h3]at hq
    simp(disch:=omega)only[go_sem,h3]
    refine qq rfl [⟨0,[],[]⟩,⟨1,[0],[]⟩,⟨2,[],[]⟩,⟨3,[],[]⟩] (by kernel_rfl) ?_
    simp(disch:=omega)only[go_sem]
    refine qa (zF 1 (by omega)) ?_
    simp(disch:=omega)only[go_sem]
    refine qa (yR (m/2^(low-e).toNat) 1 (by omega) (by have:=qv (m:=1) (B:=1) (by decide);omega)) ?_
    simp(disch:=omega)only[go_sem]
    refine qa (qQ s (m/2^(low-e).toNat+1) (by omega)) ?_
    simp(disch:=omega)only[go_sem]
    refine qa (jG (s&&decide (m/2^(low-e).toNat+1≠0)) (m/2^(low-e).toNat+1) low (by omega) (by omega)) ?_
    simp(disch:=omega)only[go_sem]
    refine qX (by simp(disch:=omega)only[go_sem]) ?_
    show qD _ 6 _=_
    rw[←hfin _ hq hblq,hrx]
    simp(disch:=omega)only[go_sem]
   ·rw[if_neg (by rw[h3];simp)]at hq
    simp(disch:=omega)only[go_sem,h3]
    refine qa (qQ s (m/2^(low-e).toNat) (by omega)) ?_
    simp(disch:=omega)only[go_sem]
    refine qa (jG (s&&decide (m/2^(low-e).toNat≠0)) (m/2^(low-e).toNat) low (by omega) (by omega)) ?_
    simp(disch:=omega)only[go_sem]
    refine qX (by simp(disch:=omega)only[go_sem]) ?_
    show qD _ 6 _=_
    rw[←hfin _ hq hblq0,hrx]
    simp(disch:=omega)only[go_sem]
 ·have h0:m=0:=qE.1 (List.length_eq_zero_iff.1 (by omega))
  simp(disch:=omega)only[go_sem,h1]
  refine qX (by simp(disch:=omega)only[go_sem]) ?_
  show qD _ 6 _=_
  have hs0:=hs h0
  subst h0
  subst hs0
  simp only[srM,srE,roM,roS,roX,or_true,if_true,oS,jC]
  simp(disch:=omega)only[go_sem]
end Go.Ab
namespace Go.Ab
open Go Go.Proofs
theorem ab2(n lo hi:Int):Con Tryz.prog 52 true [.v (.int .i64 n),.v (.int .i64 lo),.v (.int .i64 hi)] [] (isA (.v (.bool (decide (lo≤n)&&decide (n≤hi))))):=jl n lo hi
theorem anV(s:Bool)(xs:List Int)(e:Int)(hl:xs.length≤2^40):Con Tryz.prog 255 true [.ag [.v (.bool s),.sl xs.length (qg xs),.v (.int .i64 e)]] [] (isA (.v (.bool (dyB s xs e)))):=by
 refine Con.of_aw Tryz.func255 rfl Tryz.ntmps255 (by simp) (by simp) (by simp) (W.sound ?_)
 show @W Tryz.prog 32 ⟨_⟩ ⟨fun x σ=>@qY _ _ _ ⟨_⟩ _ ⟨_⟩ x σ⟩ _ _
 simp(disch:=omega)only[go_sem]
 refine qm (ab3 s xs hl) ?_
 simp(disch:=omega)only[go_sem]
 refine Q5 (fun hw=>?_) (fun h1=>?_)
 ·have h1:=hw
  simp only[Qp,Bool.and_eq_true]at h1
  obtain⟨hx,hll⟩:=Vu h1.1
  have hxs:xs=lim (vl xs).toNat:=hx
  generalize hm:(vl xs).toNat=m at*
  subst hx
  simp(disch:=omega)only[go_sem,hw]
  refine qm (ab2 e (-3000) 3000) ?_
  simp(disch:=omega)only[go_sem]
  refine ady (fun h2=>?_) (fun h2=>?_)
  ·simp(disch:=omega)only[go_sem,h2]
   refine qu (by simp(disch:=omega)only[go_sem]) (by simp(disch:=omega)only[go_sem]) ⟨?_,rfl,rfl⟩
   simp[zr,dyB,hw,h2]
  ·simp(disch:=omega)only[go_sem,h2]
   refine qm (aaY m 0 (by omega) (by omega) (by omega)) ?_
   simp(disch:=omega)only[go_sem]
   refine jv (fun h3=>?_) (fun h3=>?_)
   ·have h3':¬m % 2=1:=fun h=>h3 (by simp;omega)
    simp(disch:=omega)only[go_sem,h3]
    refine qh (fun h4=>?_) (fun h4=>?_)
    ·simp(disch:=omega)only[go_sem,h4]
     refine qu (by simp(disch:=omega)only[go_sem]) (by simp(disch:=omega)only[go_sem]) ⟨?_,rfl,rfl⟩
     have h4':(lim m).length=0:=by omega
     simp[zr,dyB,hw,h2,hm,h3',h4']
    ·simp(disch:=omega)only[go_sem,h4]
     refine qu (by simp(disch:=omega)only[go_sem]) (by simp(disch:=omega)only[go_sem]) ⟨?_,rfl,rfl⟩
     have h4':¬(lim m).length=0:=by omega
     simp[zr,dyB,hw,h2,hm,h3',h4']
   ·have h3':m % 2=1:=by simp at h3;omega
    simp(disch:=omega)only[go_sem,h3]
    refine qu (by simp(disch:=omega)only[go_sem]) (by simp(disch:=omega)only[go_sem]) ⟨?_,rfl,rfl⟩
    simp[zr,dyB,hw,h2,hm,h3']
 ·simp(disch:=omega)only[go_sem,h1]
  refine qu (by simp(disch:=omega)only[go_sem]) (by simp(disch:=omega)only[go_sem]) ⟨?_,rfl,rfl⟩
  simp[zr,dyB,h1]
end Go.Ab
namespace Go.Ab
open Go Go.Proofs
theorem acw(s:Bool)(m:Nat)(e:Int):Con Tryz.prog 112 false [.ag [.v (.bool (s)),.sl (lim (m)).length (qg (lim (m))),.v (.int .i64 (e))]] [] (isA (.ag [.v (.bool (s)),.sl (lim (m)).length (qg (lim (m))),.v (.int .i64 (e))])):=by
 refine Con.frzA ?_
 refine Con.of_w (rs:=[.cell 2 97]) Tryz.func112 rfl Tryz.ntmps112 rfl ?_
 simp(disch:=omega)only[go_sem]
 exact qn
def aDd(mode:Int):Bool:=decide (0≤mode)&&decide (mode≤4)
def dyV:AV→AV:=id
end Go.Ab
namespace Go.Ab
open Go Go.Proofs
theorem aAq{s:Bool}{m:Nat}{e low mode:Int}(hodd:m % 2=1):srM s m e low mode=oM (roM s m e low mode)∧srE s m e low mode=oE (roM s m e low mode) (roE m e low):=by
 refine⟨rfl,?_⟩
 unfold srE
 by_cases h:low≤e∨m=0
 ·have h0:m≠0:=fun e=>by omega
  rw[if_pos h]
  unfold roM roE oE
  rw[if_pos h,if_pos h,if_neg h0,ac0 hodd];simp
 ·rw[if_neg h]
  unfold roE
  rw[if_neg h]
end Go.Ab
namespace Go.Ab
/-! ### Numbers with a sign-/
def sv(s:Bool)(m:Nat):Int:=if s=true then-(m:Int)else(m:Int)
theorem Jt(s:Bool)(m:Nat):(sv s m).natAbs=m:=by unfold sv;split<;>omega
theorem Qq(s:Bool):sv s 0=0:=by unfold sv;split<;>rfl
theorem aAo(z:Int):sv (decide (z<0)) z.natAbs=z:=by
 unfold sv;split
 ·rename_i h;simp only[decide_eq_true_eq]at h;omega
 ·rename_i h;simp only[decide_eq_true_eq]at h;omega
theorem J6(s:Bool)(m k:Nat):sv s (m*k)=sv s m*(k:Int):=by
 unfold sv;split
 ·rw[Int.natCast_mul,Int.neg_mul]
 ·rw[Int.natCast_mul]
theorem auI(s:Bool)(m:Nat):sv (s&&decide (m≠0)) m=sv s m:=by
 by_cases h:m=0
 ·subst h;rw[Qq,Qq]
 ·rw[decide_eq_true h,Bool.and_true]
theorem aAm(s:Bool)(m:Nat):sv (oS s m) m=sv s m:=by
 unfold oS
 by_cases h:m=0
 ·subst h;rw[Qq,Qq]
 ·rw[if_neg h]
theorem aAn(s1:Bool)(m1:Nat)(s2:Bool)(m2:Nat):sv (s1 != s2) (m1*m2)=sv s1 m1*sv s2 m2:=by
 cases s1<;>cases s2<;>simp[sv,Int.natCast_mul,Int.neg_mul,Int.mul_neg]
theorem auH{s:Bool}{m:Nat}(h:m≠0):decide (sv s m<0)=s:=by
 cases s<;>simp[sv]<;>omega
theorem auG(s:Bool)(m:Nat):sv (!s) m= -sv s m:=by cases s<;>simp[sv]
def dv(K:Nat)(s:Bool)(m:Nat)(e:Int):Int:=sv s m*2^(e+K).toNat
theorem azd{K:Nat}{s:Bool}{m:Nat}{e:Int}{s':Bool}{m':Nat}{e':Int}(h0:m≠0)(he: -(K:Int)≤e)(he': -(K:Int)≤e')(h:dv K s m e=dv K s' m' e'):
  s=s'∧oM m=oM m'∧oE m e=oE m' e'∧m'≠0:=by
 unfold dv at h
 obtain⟨a,ha⟩:∃a,a=(e+K).toNat:=⟨_,rfl⟩
 obtain⟨a',ha'⟩:∃a,a=(e'+K).toNat:=⟨_,rfl⟩
 rw[←ha,←ha']at h
 have habs:m*2^a=m'*2^a':=by
  have:=congrArg Int.natAbs h
  rw[Int.natAbs_mul,Int.natAbs_mul,Jt,Jt,Int.natAbs_pow,Int.natAbs_pow]at this
  exact this
 have hp:0<2^a:=Nat.pow_pos (by omega)
 have h1:0<m*2^a:=Nat.mul_pos (by omega) hp
 have h0':m'≠0:=fun e=>by rw[habs,e,Nat.zero_mul]at h1;omega
 have hM:oM m=oM m':=by rw[←@aoX m a,habs,aoX]
 have hT:tz m+a=tz m'+a':=by rw[←ZU h0,habs,ZU h0']
 refine⟨?_,hM,?_,h0'⟩
 ·have e1:sv s m*2^a=sv s (m*2^a):=by rw[J6,Int.natCast_pow];rfl
  have e2:sv s' m'*2^a'=sv s' (m'*2^a'):=by rw[J6,Int.natCast_pow];rfl
  rw[e1,e2,←habs]at h
  rw[←auH (s:=s) (m:=m*2^a) (by omega),h,auH (by omega)]
 ·unfold oE;rw[if_neg h0,if_neg h0'];omega
theorem Je{K:Nat}{s:Bool}{e:Int}:dv K s 0 e=0:=by unfold dv;rw[Qq,Int.zero_mul]
theorem aeT{K:Nat}{s:Bool}{m:Nat}{e:Int}:dv K s m e=0↔m=0:=by
 refine⟨fun h=>?_,fun h=>by rw[h,Je]⟩
 unfold dv at h
 rcases Int.mul_eq_zero.1 h with h|h
 ·rw[←Jt s m,h];rfl
 ·have:(0:Int)<2^(e+K).toNat:=Int.pow_pos (by omega)
  omega
theorem aBV(K:Nat)(s:Bool)(m:Nat)(e:Int):dv K (oS s m) m e=dv K s m e:=by unfold dv;rw[aAm]
theorem XF(K:Nat)(s:Bool)(m:Nat)(e:Int):dv K (s&&decide (m≠0)) m e=dv K s m e:=by unfold dv;rw[auI]
theorem as1{K:Nat}{s:Bool}{m:Nat}{e:Int}(he: -(K:Int)≤e):dv K s (oM m) (oE m e)=dv K s m e:=by
 by_cases h:m=0
 ·subst h;rw[jC,Je,Je]
 ·unfold dv oE
  rw[if_neg h]
  have e1:(e+(tz m:Int)+K).toNat=tz m+(e+K).toNat:=by omega
  conv=>rhs;rw[←@Jw m]
  rw[e1,Int.pow_add,J6,Int.natCast_pow,Int.mul_assoc];rfl
theorem aAH{K:Int}{m:Nat}{e:Int}(h: -K≤e)(h0:0≤K): -K≤oE m e:=by unfold oE;split<;>omega
theorem azc{K K':Nat}{s s':Bool}{m m':Nat}{e e':Int}(he: -(K:Int)≤e)(he': -(K':Int)≤e'):dv (K+K') (s != s') (m*m') (e+e')=dv K s m e*dv K' s' m' e':=by
 unfold dv
 have e1:(e+e'+((K+K':Nat):Int)).toNat=(e+K).toNat+(e'+K').toNat:=by omega
 rw[e1,Int.pow_add,aAn]
 simp only[Int.mul_assoc,Int.mul_left_comm]
/-! ### Sums-/
def suM(s1:Bool)(m1:Nat)(s2:Bool)(m2:Nat):Nat:=(sv s1 m1+sv s2 m2).natAbs
def suS(s1:Bool)(m1:Nat)(s2:Bool)(m2:Nat):Bool:=decide (sv s1 m1+sv s2 m2<0)
def sgS(s1:Bool)(m1:Nat)(s2:Bool)(m2:Nat):Bool:=if s1=s2 then s1 else if m2≤m1 then s1 else s2
theorem ac2(s:Bool)(m1 m2:Nat):suM s m1 s m2=m1+m2:=by unfold suM sv;split<;>omega
theorem aoC{s1 s2:Bool}{m1 m2:Nat}(h:s1≠s2)(hm:m2≤m1):suM s1 m1 s2 m2=m1-m2:=by
 cases s1<;>cases s2<;>simp[suM,sv]at* <;>omega
theorem aoB{s1 s2:Bool}{m1 m2:Nat}(h:s1≠s2)(hm:¬m2≤m1):suM s1 m1 s2 m2=m2-m1:=by
 cases s1<;>cases s2<;>simp[suM,sv]at* <;>omega
theorem ac7(s:Bool)(m1 m2:Nat):sgS s m1 s m2=s:=by unfold sgS;rw[if_pos rfl]
theorem aoJ{s1 s2:Bool}{m1 m2:Nat}(h:s1≠s2)(hm:m2≤m1):sgS s1 m1 s2 m2=s1:=by unfold sgS;rw[if_neg h,if_pos hm]
theorem aoI{s1 s2:Bool}{m1 m2:Nat}(h:s1≠s2)(hm:¬m2≤m1):sgS s1 m1 s2 m2=s2:=by unfold sgS;rw[if_neg h,if_neg hm]
theorem agE(s1:Bool)(m1:Nat)(s2:Bool)(m2:Nat):(sgS s1 m1 s2 m2&&decide (suM s1 m1 s2 m2≠0))=suS s1 m1 s2 m2:=by
 rw[Bool.eq_iff_iff]
 simp only[Bool.and_eq_true,decide_eq_true_eq,suS]
 unfold sgS suM
 cases s1<;>cases s2<;>simp[sv]
 all_goals omega
theorem auJ(s1:Bool)(m1:Nat)(s2:Bool)(m2:Nat):suM s1 m1 s2 m2≤m1+m2:=by unfold suM sv;split<;>split<;>omega
theorem azy{a b B:Nat}(ha:bl a≤B)(hb:bl b≤B):bl (a+b)≤B+1:=by
 have h1:=qZ.1 ha
 have h2:=qZ.1 hb
 refine qZ.2 ?_
 rw[Nat.pow_succ];omega
theorem adX{s1:Bool}{m1:Nat}{s2:Bool}{m2 B:Nat}(h1:bl m1≤B)(h2:bl m2≤B):bl (suM s1 m1 s2 m2)≤B+1:=
 Nat.le_trans (jc (auJ _ _ _ _)) (azy h1 h2)
def alE(m1:Nat)(e1:Int)(m2:Nat)(e2:Int):Int:=if m2=0 then e1 else if m1=0 then e2 else if e2<e1 then e2 else e1
def alA(m:Nat)(e E:Int):Nat:=m*2^(e-E).toNat
def adM(s1:Bool)(m1:Nat)(e1:Int)(s2:Bool)(m2:Nat)(e2:Int):Nat:=suM s1 (alA m1 e1 (alE m1 e1 m2 e2)) s2 (alA m2 e2 (alE m1 e1 m2 e2))
def adS(s1:Bool)(m1:Nat)(e1:Int)(s2:Bool)(m2:Nat)(e2:Int):Bool:=suS s1 (alA m1 e1 (alE m1 e1 m2 e2)) s2 (alA m2 e2 (alE m1 e1 m2 e2))
theorem ZS{K:Int}{m1:Nat}{e1:Int}{m2:Nat}{e2:Int}(h1:K≤e1)(h2:K≤e2):K≤alE m1 e1 m2 e2:=by
 unfold alE
 repeat' split
 all_goals omega
theorem apx{K:Int}{m1:Nat}{e1:Int}{m2:Nat}{e2:Int}(h1:e1≤K)(h2:e2≤K):alE m1 e1 m2 e2≤K:=by
 unfold alE
 repeat' split
 all_goals omega
theorem ad2{K:Nat}{s:Bool}{m:Nat}{e E:Int}(hE: -(K:Int)≤E)(h:m≠0→E≤e):sv s (alA m e E)*2^(E+K).toNat=dv K s m e:=by
 by_cases h0:m=0
 ·subst h0;unfold alA;rw[Nat.zero_mul,Qq,Je,Int.zero_mul]
 ·have:=h h0
  unfold alA dv
  have e1:(e+K).toNat=(e-E).toNat+(E+K).toNat:=by omega
  rw[e1,Int.pow_add,J6,Int.natCast_pow,Int.mul_assoc];rfl
theorem JF{m B:Nat}{e E:Int}{C:Nat}(h:bl m≤B)(hk:e-E≤C):bl (alA m e E)≤B+C:=by
 have:=Zo m (e-E).toNat
 unfold alA;omega
theorem aCe{K:Nat}{s1:Bool}{m1:Nat}{e1:Int}{s2:Bool}{m2:Nat}{e2:Int}(h1: -(K:Int)≤e1)(h2: -(K:Int)≤e2):
  dv K (adS s1 m1 e1 s2 m2 e2) (adM s1 m1 e1 s2 m2 e2) (alE m1 e1 m2 e2)=dv K s1 m1 e1+dv K s2 m2 e2:=by
 have hE: -(K:Int)≤alE m1 e1 m2 e2:=ZS h1 h2
 have g1:m1≠0→alE m1 e1 m2 e2≤e1:=fun h=>by
  unfold alE
  repeat' split
  all_goals omega
 have g2:m2≠0→alE m1 e1 m2 e2≤e2:=fun h=>by
  unfold alE
  repeat' split
  all_goals omega
 rw[←ad2 hE g1,←ad2 hE g2,←Int.add_mul]
 show sv (adS s1 m1 e1 s2 m2 e2) (adM s1 m1 e1 s2 m2 e2)*_=_
 unfold adS adM suS suM
 rw[aAo]
end Go.Ab
namespace Go.Ab
theorem aoY(m:Nat):oM m % 2=1∨oM m=0:=by
 by_cases h0:m=0
 ·exact .inr (jD.2 h0)
 ·exact .inl (ZB h0).1
theorem aC5(s:Bool)(m:Nat):oM m=0→oS s m=false:=fun h=>by unfold oS;rw[if_pos (jD.1 h)]
end Go.Ab
namespace Go.Ab
end Go.Ab
namespace Go.Ab
open Go Go.Proofs
end Go.Ab
namespace Go.Ab
open Go
theorem Y1(m:Nat):bhp [] m=.free:=by unfold bhp;split<;>simp
theorem Con.enter{P:Program}{f:FuncId}{cl:Bool}{args:List AV}{x:Value}(h:Con P f cl args [] (isA (.v x)))(R:Nat→Prop)(w:World)(vs:Array Value)
  (hlt:∀b,R b→b<w.heap.size) (hr:RepA R (fun _=>none) w vs args) (ha:AllL (fun m=>bhp [] m≠ .free) args) (hg:Gd w):
  Calls P f vs w fun e w'=>e=.returned x∧Ext (fun _=>False) w w':=by
 have hno:∀b,¬afP (bhp []) (fun _=>none) b:=fun b ⟨nm,z,cs,B,e,_⟩=>by rw[Y1]at e;cases e
 have hh:HpOk R (fun _=>none) w (bhp []):=
  ⟨fun nm=>(by rw[Y1];trivial),fun nm z cs B e=>absurd e (by rw[Y1];simp),fun nm nm' z z' cs cs' B B' e=>absurd e (by rw[Y1];simp),fun nm z cs e=>absurd e (by rw[Y1];simp)⟩
 refine(h R (fun _=>none) w vs hlt hr ha hh ⟨hg,fun g l _=>hno g⟩).mono ?_
 rintro e w' ⟨y,r,hs,bs',R',ι',rfl,⟨rfl,rfl,rfl⟩,hf⟩
 refine⟨?_,hf.ext.os,hf.ext.tape,hf.ext.output,hf.ext.size,fun b hb _=>hf.ext.block b hb (hno b)⟩
 cases hf.rep with
 |fr _ _ h=>cases h;rfl
theorem Ext.kept{w w':World}(h:Ext (fun _=>False) w w')(may:MemPlace→Prop):w.keptBut w' may:=by
 refine⟨h.os,h.output,fun i hi=>?_⟩
 rw[h.block i hi (fun h=>h)]
 cases w.heap[i]? with
 |none=>trivial
 |some o=>cases o with
  |cells c t fr=>exact⟨rfl,rfl,rfl,fun _ _=>rfl⟩
  |map es cl=>exact .inr ⟨rfl,rfl⟩
  |_=>rfl
theorem Ext.below{w w':World}(h:Ext (fun _=>False) w w'):RowKit.Below w.heap.size w w':=⟨h.os,h.tape,h.output,h.size,fun k hk=>h.block k hk (fun h=>h)⟩
theorem Ext.trod{H:Type}{enc:TypeId×Value→H}{P:Program}{t:TypeId}{W W':World}(hw:Ext (fun _=>False) W W')(hl:laidOutB P=true)(hr:P.readableRec t=true)(hrow:t<P.types.size){v:Value}{d:DataW H}{ps:List MemPlace}
  (h:DataW.Trod enc P W 0 (fun _=>true) true t v d ps) (hlt:∀x∈ps,x.block<W.heap.size):DataW.Trod enc P W' 0 (fun b=>decide (b<W.heap.size)) true t v d ps:=
 RowKit.Below.trod hl hr hrow h hw.below hlt
theorem Kh{w:World}{a:Addr}{v:Value}(h:w.cell? a=some v):a.block<w.heap.size:=by
 rcases Nat.lt_or_ge a.block w.heap.size with h'|h'
 ·exact h'
 ·simp[World.cell?,Array.getElem?_eq_none h']at h
theorem aAz{R:Nat→Prop}{ι:Nat→Option Blk}{w:World}(x:Value):Rep R ι w x (.v x):=.fr _ _ (.v x)
theorem alz{R:Nat→Prop}{ι:Nat→Option Blk}{w:World}{x y:Value}{a b:AV}(h1:Rep R ι w x a)(h2:Rep R ι w y b):RepA R ι w #[x,y] [a,b]:=
 ⟨rfl,fun i h=>match i,h with
  |0,_=>h1
  |1,_=>h2⟩
theorem Y4(b o i:Nat):(⟨b,o,none⟩:Addr).add i=⟨b,o+i,none⟩:=by
 unfold Addr.add
 split
 ·subst_vars;rfl
 ·rfl
theorem aif{R:Nat→Prop}{W:World}{a:Addr}{len cap:Nat}{zs:List Int}(hle:len≤cap)(hz:zs.length=cap)(hc:∀i,i<zs.length→W.cell? (a.add i)=some (.int .i64 (zs.getD i 0)))(hR:∀b,b<W.heap.size→R b):
  FRep R W (.slice (some a) len cap) (.sl (zs.take len).length (qg (zs.take len))):=by
 have hl:(zs.take len).length=len:=by rw[List.length_take];omega
 have hil:(qg (zs.take len)).length=len:=by unfold qg;rw[List.length_map,hl]
 rw[hl]
 obtain⟨b,o,sp⟩:=a
 have hsp:0<len→sp=none:=fun h0=>by
  have h1:=World.cell?_spot (hc 0 (by omega))
  simpa [Addr.add]using h1
 refine .sl _ len cap _ (fun i=>.int .i64 (zs.getD i 0)) b o hle (fun h0=>?_) (fun i hi=>?_) (fun i hi=>?_)
 ·have hs:=hsp (by omega)
  subst hs
  exact⟨rfl,hR _ (Kh (hc 0 (by omega)))⟩
 ·have hs:=hsp (by omega)
  subst hs
  have h1:=hc i (by omega)
  rw[Y4]at h1
  exact h1
 ·have:(qg (zs.take len))[i]=.v (.int .i64 (zs.getD i 0)):=by
   have hi2:i<(zs.take len).length:=by omega
   simp only[qg,List.getElem_map,List.getElem_take,List.getD_eq_getElem?_getD]
   rw[List.getElem?_eq_getElem (by omega)]
   rfl
  rw[this]
  exact .v _
theorem adC{R:Nat→Prop}{W:World}:FRep R W (.slice none 0 0) (.sl 0 []):=
 .sl none 0 0 [] (fun _=>undef) 0 0 (Nat.le_refl _) (fun h=>absurd h (by simp)) (fun i h=>absurd h (by simp)) (fun i h=>absurd h (by simp))
theorem ara{H:Type}{enc:TypeId×Value→H}{P:Program}{W:World}{t e fuel:Nat}{cs:List Value}{x:DataW H×List MemPlace}(ht:P.underlying t=some (.slice e))(he:P.underlying e=some (.int .i64))(hc:P.cellsOf e=1)
  (h:DataW.trod enc P W 0 (fun _=>true) true fuel t cs=some x):
  ∃(v:Value) (xs:List Int),cs=[v]∧xs.length≤maxLen∧FRep (fun b=>b<W.heap.size) W v (.sl xs.length (qg xs)):=by
 rcases ChangeShapes.open_ints ht he hc h with⟨rfl,_⟩|⟨a,len,cap,zs,rfl,_,hl,hm,hz,_,hcell,_⟩
 ·exact⟨_,[],rfl,Nat.zero_le _,adC⟩
 ·rw[if_pos rfl]at hz
  refine⟨_,zs.take len,rfl,?_,aif hl hz hcell (fun _ h=>h)⟩
  rw[List.length_take];omega
end Go.Ab
namespace Go.Ab
open Go Go.Proofs
end Go.Ab
namespace Go.Ab
open Go Go.Proofs
end Go.Ab
namespace Go.Ab
open Go Go.Proofs
theorem ae5(xs:List Int)(hl:xs.length≤2^40):Con Tryz.prog 187 true [.ag [.sl xs.length (qg xs)]] [] (isA (.v (.bool (Xw xs)))):=by
 refine Con.of_aw Tryz.func187 rfl Tryz.ntmps187 (by simp) (by simp) (by simp) (W.sound ?_)
 show @W Tryz.prog 44 ⟨_⟩ ⟨fun x σ=>@qY _ _ _ ⟨_⟩ _ ⟨_⟩ x σ⟩ _ _
 simp(disch:=omega)only[go_sem]
 refine qh (fun h1=>?_) (fun h1=>?_)
 ·simp(disch:=omega)only[go_sem,h1]
  refine qu (by simp(disch:=omega)only[go_sem]) (by simp(disch:=omega)only[go_sem]) ⟨?_,rfl,rfl⟩
  have:¬(xs.length≤100):=by omega
  simp[zr,Xw,this]
 ·simp(disch:=omega)only[go_sem,h1]
  refine qi (fun i:Nat=>[(1,.pt 30000000 0),(2,.v (.bool false)),(3,.v (.int .i64 i))]) (fun _=>[(30000000,.own 0 [.sl xs.length (qg xs)])]) (fun i=>i≤xs.length∧∀x∈xs.take i,0≤x∧x≤65535) (fun i=>xs.length-i) 0 ⟨by omega,by simp⟩
   (Le.lst [] _ _ rfl (by simp(disch:=omega)only[go_sem]) (by simp(disch:=omega)only[go_sem])) ?_
  rintro i ⟨hi,hx⟩
  simp(disch:=omega)only[go_sem]
  refine qh (fun h2=>?_) (fun h2=>?_)
  ·simp(disch:=omega)only[go_sem,h2]
   have hmem:xs.getD i 0∈xs:=by
    rw[List.getD_eq_getElem?_getD,List.getElem?_eq_getElem (by omega)];exact List.getElem_mem _
   have bad:¬(0≤xs.getD i 0∧xs.getD i 0≤65535)→Xw xs=false:=by
    intro hc
    unfold Xw
    have:xs.all (fun x=>decide (0≤x)&&decide (x≤65535))=false:=by
     rw[List.all_eq_false]
     refine⟨_,hmem,?_⟩
     simp only[Bool.and_eq_true,decide_eq_true_eq];exact hc
    rw[this];simp
   refine⟨by omega,by omega,?_⟩
   refine jv (fun h3=>?_) (fun h3=>?_)
   ·simp(disch:=omega)only[go_sem,h3]
    refine⟨by omega,by omega,?_⟩
    refine qh (fun h4=>?_) (fun h4=>?_)
    ·simp(disch:=omega)only[go_sem,h4]
     rw[bad (by omega)]
     exact qt
    ·simp(disch:=omega)only[go_sem,h4]
     refine qe (i+1) [] ⟨by omega,?_⟩ (by show xs.length-(i+1)<xs.length-i;omega) rfl (by simp(disch:=omega)only[go_sem];try omega) (by simp(disch:=omega)only[go_sem])
     intro x hxx
     rw[List.take_add_one]at hxx
     rcases List.mem_append.1 hxx with h|h
     ·exact hx x h
     ·rw[List.getElem?_eq_getElem (by omega)]at h
      simp at h
      rw[List.getD_eq_getElem?_getD,List.getElem?_eq_getElem (by omega)]at h3 h4
      simp at h3 h4
      subst h
      omega
   ·simp(disch:=omega)only[go_sem,h3]
    rw[bad (by omega)]
    exact qt
  ·have:i=xs.length:=by omega
   subst this
   rw[List.take_length]at hx
   have hall:xs.all (fun x=>decide (0≤x)&&decide (x≤65535))=true:=by
    rw[List.all_eq_true]
    intro x h;have:=hx x h;simp only[Bool.and_eq_true,decide_eq_true_eq];exact this
   have e1:decide (xs.length≤100)=true:=by simp;omega
   simp(disch:=omega)only[go_sem,h2]
   refine jv (fun h3=>?_) (fun h3=>?_)
   ·have en:((xs.length:Int)-1).toNat=xs.length-1:=by omega
    have hmem:xs.getD (xs.length-1) 0∈xs:=by
     rw[List.getD_eq_getElem?_getD,List.getElem?_eq_getElem (by omega)];exact List.getElem_mem _
    have hp:=hx _ hmem
    simp(disch:=omega)only[go_sem,h3,en]
    refine⟨by omega,by omega,?_⟩
    refine qu (by simp(disch:=omega)only[go_sem]) (by simp(disch:=omega)only[go_sem]) ⟨?_,rfl,rfl⟩
    have e2:decide (xs.length=0)=false:=by simp;intro h;subst h;simp at h3
    show AV.v (.bool _)=AV.v (.bool _)
    unfold Xw
    rw[e1,hall,e2,Bool.false_or,Bool.true_and,Bool.true_and]
    congr 2
    rw[decide_eq_decide]
    omega
   ·simp(disch:=omega)only[go_sem,h3]
    refine qu (by simp(disch:=omega)only[go_sem]) (by simp(disch:=omega)only[go_sem]) ⟨?_,rfl,rfl⟩
    have e2:decide (xs.length=0)=true:=by simp;exact List.length_eq_zero_iff.1 (by omega)
    show AV.v (.bool _)=AV.v (.bool _)
    unfold Xw
    rw[e1,hall,e2]
    simp
theorem aaw(s:Bool)(xs:List Int)(hl:xs.length≤2^40):Con Tryz.prog 105 true [.ag [.v (.bool s),.sl xs.length (qg xs)]] [] (isA (.v (.bool (Qp s xs)))):=by
 refine Con.of_aw Tryz.func105 rfl Tryz.ntmps105 (by simp) (by simp) (by simp) (W.sound ?_)
 show @W Tryz.prog 18 ⟨_⟩ ⟨fun x σ=>@qY _ _ _ ⟨_⟩ _ ⟨_⟩ x σ⟩ _ _
 simp(disch:=omega)only[go_sem]
 refine qm (ae5 xs hl) ?_
 simp(disch:=omega)only[go_sem]
 refine Q5 (fun h1=>?_) (fun h1=>?_)
 ·simp(disch:=omega)only[go_sem,h1]
  cases s
  ·simp(disch:=omega)only[go_sem]
   refine qu (by simp(disch:=omega)only[go_sem]) (by simp(disch:=omega)only[go_sem]) ⟨?_,rfl,rfl⟩
   simp[zr,Qp,h1]
  ·simp(disch:=omega)only[go_sem]
   refine qu (by simp(disch:=omega)only[go_sem]) (by simp(disch:=omega)only[go_sem]) ⟨?_,rfl,rfl⟩
   show AV.v (.bool _)=AV.v (.bool _)
   unfold Qp
   rw[h1,Bool.true_and,Bool.true_and,←decide_not]
   congr 2
   rw[decide_eq_decide]
   omega
 ·simp(disch:=omega)only[go_sem,h1]
  refine qu (by simp(disch:=omega)only[go_sem]) (by simp(disch:=omega)only[go_sem]) ⟨?_,rfl,rfl⟩
  simp[zr,Qp,h1]
theorem QJ(s:Bool)(xs:List Int)(e:Int)(hl:xs.length≤2^40):Con Tryz.prog 48 true [.ag [.v (.bool s),.sl xs.length (qg xs),.v (.int .i64 e)]] [] (isA (.v (.bool (dyB s xs e)))):=by
 refine Con.of_aw Tryz.func48 rfl Tryz.ntmps48 (by simp) (by simp) (by simp) (W.sound ?_)
 show @W Tryz.prog 31 ⟨_⟩ ⟨fun x σ=>@qY _ _ _ ⟨_⟩ _ ⟨_⟩ x σ⟩ _ _
 simp(disch:=omega)only[go_sem]
 refine qm (aaw s xs hl) ?_
 simp(disch:=omega)only[go_sem]
 refine Q5 (fun hw=>?_) (fun hw=>?_)
 ·have h1:=hw
  simp only[Qp,Bool.and_eq_true]at h1
  obtain⟨hx,hll⟩:=Vu h1.1
  have hxs:xs=lim (vl xs).toNat:=hx
  generalize hm:(vl xs).toNat=m at*
  subst hx
  simp(disch:=omega)only[go_sem,hw]
  refine jv (fun h2=>?_) (fun h2=>?_)
  ·simp(disch:=omega)only[go_sem,h2]
   refine qh (fun h3=>?_) (fun h3=>?_)
   ·simp(disch:=omega)only[go_sem,h3]
    refine qu (by simp(disch:=omega)only[go_sem]) (by simp(disch:=omega)only[go_sem]) ⟨?_,rfl,rfl⟩
    have a2:¬e≤3000:=by omega
    simp[zr,dyB,a2]
   ·simp(disch:=omega)only[go_sem,h3]
    refine qh (fun h4=>?_) (fun h4=>?_)
    ·simp(disch:=omega)only[go_sem,h4]
     have h0:m=0:=qE.1 (List.length_eq_zero_iff.1 (by omega))
     refine qu (by simp(disch:=omega)only[go_sem]) (by simp(disch:=omega)only[go_sem]) ⟨?_,rfl,rfl⟩
     have a1: -3000≤e:=by omega
     have a2:e≤3000:=by omega
     have a3:(lim m).length=0:=by omega
     show AV.v (.bool _)=AV.v (.bool _)
     unfold dyB
     rw[hw,hm,decide_eq_true a1,decide_eq_true a2,decide_eq_true a3,h0]
     simp
    ·simp(disch:=omega)only[go_sem,h4]
     refine qm (ZO m 0 (by omega) (by omega) (by omega)) ?_
     simp(disch:=omega)only[go_sem]
     refine qu (by simp(disch:=omega)only[go_sem]) (by simp(disch:=omega)only[go_sem]) ⟨?_,rfl,rfl⟩
     have a1: -3000≤e:=by omega
     have a2:e≤3000:=by omega
     have a3:¬(lim m).length=0:=by omega
     show AV.v (.bool _)=AV.v (.bool _)
     unfold dyB
     rw[hw,hm,decide_eq_true a1,decide_eq_true a2,decide_eq_false a3]
     simp
     omega
  ·simp(disch:=omega)only[go_sem,h2]
   refine qu (by simp(disch:=omega)only[go_sem]) (by simp(disch:=omega)only[go_sem]) ⟨?_,rfl,rfl⟩
   have a1:¬ -3000≤e:=by omega
   simp[zr,dyB,a1]
 ·simp(disch:=omega)only[go_sem,hw]
  refine qu (by simp(disch:=omega)only[go_sem]) (by simp(disch:=omega)only[go_sem]) ⟨?_,rfl,rfl⟩
  simp[zr,dyB,hw]
end Go.Ab
