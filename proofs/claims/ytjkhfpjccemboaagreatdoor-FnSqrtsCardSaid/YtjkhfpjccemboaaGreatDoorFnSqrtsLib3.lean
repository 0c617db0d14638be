/- What the proof of this claim stands on: the walks of the functions and the plain laws, part 3. -/
import Derived.Test.YtjkhfpjccemboaaGreatDoorFnSqrtsLib2
import Derived.Test.YtjkhfpjccemboaaGreatDoorChecked
import Derived.KernelRfl
import Derived.Shelf.Spec.TrailingZeros
import Derived.Shelf.Small.Bits
import Derived.Shelf.Strconv.Itoa0
set_option linter.unusedVariables false
set_option linter.unusedSimpArgs false
namespace Go.Ab
open Go Go.Proofs
def ti1:TI:=⟨Kd.oth,1,8,Value.nilFunc⟩
theorem tf1:qo Tryz.prog 1=some ti1:=by kernel_rfl
def ti2:TI:=⟨Kd.int IntKind.i64,1,8,Value.int IntKind.i64 0⟩
theorem tf2:qo Tryz.prog 2=some ti2:=by kernel_rfl
def ti3:TI:=⟨Kd.int IntKind.i64,1,8,Value.int IntKind.i64 0⟩
theorem tf3:qo Tryz.prog 3=some ti3:=by kernel_rfl
def ti4:TI:=⟨Kd.bool,1,1,Value.bool false⟩
theorem tf4:qo Tryz.prog 4=some ti4:=by kernel_rfl
def ti5:TI:=⟨Kd.int IntKind.u8,1,1,Value.int IntKind.u8 0⟩
theorem tf5:qo Tryz.prog 5=some ti5:=by kernel_rfl
def ti6:TI:=⟨Kd.int IntKind.u8,1,1,Value.int IntKind.u8 0⟩
theorem tf6:qo Tryz.prog 6=some ti6:=by kernel_rfl
def ti7:TI:=⟨Kd.stru [(0,2),(1,3),(2,4),(3,6)],4,24,Value.agg ⟨[Value.int IntKind.i64 0,Value.int IntKind.i64 0,Value.bool false,Value.int IntKind.u8 0]⟩⟩
theorem tf7:qo Tryz.prog 7=some ti7:=by kernel_rfl
def ti8:TI:=⟨Kd.stru [(0,2),(1,3),(2,4),(3,6)],4,24,Value.agg ⟨[Value.int IntKind.i64 0,Value.int IntKind.i64 0,Value.bool false,Value.int IntKind.u8 0]⟩⟩
theorem tf8:qo Tryz.prog 8=some ti8:=by kernel_rfl
def ti9:TI:=⟨Kd.str,1,16,Value.string {data:=⟨[]⟩}⟩
theorem tf9:qo Tryz.prog 9=some ti9:=by kernel_rfl
def aDt:TI:=⟨Kd.str,1,16,Value.string {data:=⟨[]⟩}⟩
theorem bcE:qo Tryz.prog 10=some aDt:=by kernel_rfl
def aDs:TI:=⟨Kd.str,1,16,Value.string {data:=⟨[]⟩}⟩
theorem bcD:qo Tryz.prog 11=some aDs:=by kernel_rfl
def aDr:TI:=⟨Kd.int IntKind.u64,1,8,Value.int IntKind.u64 0⟩
theorem bcC:qo Tryz.prog 12=some aDr:=by kernel_rfl
def aDq:TI:=⟨Kd.int IntKind.i32,1,4,Value.int IntKind.i32 0⟩
theorem bcB:qo Tryz.prog 21=some aDq:=by kernel_rfl
def adW:TI:=⟨Kd.sli 5,1,24,Value.slice none 0 0⟩
theorem aDv:qo Tryz.prog 22=some adW:=by kernel_rfl
def Jz:TI:=⟨Kd.sli 3,1,24,Value.slice none 0 0⟩
theorem adX:qo Tryz.prog 23=some Jz:=by kernel_rfl
def aqE:TI:=⟨Kd.stru [(0,23)],1,24,Value.agg ⟨[Value.slice none 0 0]⟩⟩
theorem aV6:qo Tryz.prog 24=some aqE:=by kernel_rfl
def aaj:TI:=⟨Kd.stru [(0,23)],1,24,Value.agg ⟨[Value.slice none 0 0]⟩⟩
theorem azJ:qo Tryz.prog 25=some aaj:=by kernel_rfl
def akV:TI:=⟨Kd.stru [(0,4),(1,25)],2,32,Value.agg ⟨[Value.bool false,Value.slice none 0 0]⟩⟩
theorem aS6:qo Tryz.prog 26=some akV:=by kernel_rfl
def Y0:TI:=⟨Kd.stru [(0,4),(1,25)],2,32,Value.agg ⟨[Value.bool false,Value.slice none 0 0]⟩⟩
theorem aqF:qo Tryz.prog 27=some Y0:=by kernel_rfl
def akI:TI:=⟨Kd.stru [(0,27),(2,3)],3,40,Value.agg ⟨[Value.bool false,Value.slice none 0 0,Value.int IntKind.i64 0]⟩⟩
theorem aS5:qo Tryz.prog 28=some akI:=by kernel_rfl
def Q9:TI:=⟨Kd.stru [(0,27),(2,3)],3,40,Value.agg ⟨[Value.bool false,Value.slice none 0 0,Value.int IntKind.i64 0]⟩⟩
theorem Kg:qo Tryz.prog 29=some Q9:=by kernel_rfl
def aDp:TI:=⟨Kd.oth,1,8,Value.nilFunc⟩
theorem bcA:qo Tryz.prog 31=some aDp:=by kernel_rfl
def aDo:TI:=⟨Kd.oth,1,8,Value.nilFunc⟩
theorem bcz:qo Tryz.prog 33=some aDo:=by kernel_rfl
def aDn:TI:=⟨Kd.oth,1,8,Value.nilFunc⟩
theorem bcy:qo Tryz.prog 34=some aDn:=by kernel_rfl
def aDm:TI:=⟨Kd.oth,1,8,Value.nilFunc⟩
theorem bcx:qo Tryz.prog 35=some aDm:=by kernel_rfl
def aDl:TI:=⟨Kd.oth,1,8,Value.nilFunc⟩
theorem bcw:qo Tryz.prog 36=some aDl:=by kernel_rfl
def aDk:TI:=⟨Kd.oth,1,8,Value.nilFunc⟩
theorem bcv:qo Tryz.prog 37=some aDk:=by kernel_rfl
def aDj:TI:=⟨Kd.oth,1,8,Value.nilFunc⟩
theorem bcu:qo Tryz.prog 38=some aDj:=by kernel_rfl
def aDi:TI:=⟨Kd.oth,1,8,Value.nilFunc⟩
theorem bct:qo Tryz.prog 39=some aDi:=by kernel_rfl
def adV:TI:=⟨Kd.sli 29,1,24,Value.slice none 0 0⟩
theorem aDu:qo Tryz.prog 40=some adV:=by kernel_rfl
def akt:TI:=⟨Kd.stru [(0,3),(1,40)],2,32,Value.agg ⟨[Value.int IntKind.i64 0,Value.slice none 0 0]⟩⟩
theorem aS4:qo Tryz.prog 41=some akt:=by kernel_rfl
def akr:TI:=⟨Kd.stru [(0,3),(1,40)],2,32,Value.agg ⟨[Value.int IntKind.i64 0,Value.slice none 0 0]⟩⟩
theorem aS3:qo Tryz.prog 42=some akr:=by kernel_rfl
def aDh:TI:=⟨Kd.oth,1,8,Value.nilFunc⟩
theorem bcs:qo Tryz.prog 44=some aDh:=by kernel_rfl
def aDg:TI:=⟨Kd.oth,1,8,Value.nilFunc⟩
theorem bcr:qo Tryz.prog 45=some aDg:=by kernel_rfl
def aDf:TI:=⟨Kd.oth,1,8,Value.nilFunc⟩
theorem bcq:qo Tryz.prog 47=some aDf:=by kernel_rfl
def aDe:TI:=⟨Kd.oth,1,8,Value.nilFunc⟩
theorem bcp:qo Tryz.prog 48=some aDe:=by kernel_rfl
def akl:TI:=⟨Kd.stru [(0,29),(3,29)],6,80,Value.agg ⟨[Value.bool false,Value.slice none 0 0,Value.int IntKind.i64 0,Value.bool false,Value.slice none 0 0,Value.int IntKind.i64 0]⟩⟩
theorem aS2:qo Tryz.prog 49=some akl:=by kernel_rfl
def ajn:TI:=⟨Kd.stru [(0,29),(3,29)],6,80,Value.agg ⟨[Value.bool false,Value.slice none 0 0,Value.int IntKind.i64 0,Value.bool false,Value.slice none 0 0,Value.int IntKind.i64 0]⟩⟩
theorem aMC:qo Tryz.prog 50=some ajn:=by kernel_rfl
def aDd:TI:=⟨Kd.oth,1,8,Value.nilFunc⟩
theorem bco:qo Tryz.prog 52=some aDd:=by kernel_rfl
def aDc:TI:=⟨Kd.oth,1,8,Value.nilFunc⟩
theorem bcn:qo Tryz.prog 54=some aDc:=by kernel_rfl
def aDb:TI:=⟨Kd.oth,1,8,Value.nilFunc⟩
theorem bcm:qo Tryz.prog 55=some aDb:=by kernel_rfl
def aDa:TI:=⟨Kd.oth,1,8,Value.nilFunc⟩
theorem bcl:qo Tryz.prog 56=some aDa:=by kernel_rfl
def aC9:TI:=⟨Kd.oth,1,8,Value.nilFunc⟩
theorem bck:qo Tryz.prog 57=some aC9:=by kernel_rfl
def aC8:TI:=⟨Kd.oth,1,8,Value.nilFunc⟩
theorem bcj:qo Tryz.prog 58=some aC8:=by kernel_rfl
def aC7:TI:=⟨Kd.oth,1,8,Value.nilFunc⟩
theorem bci:qo Tryz.prog 59=some aC7:=by kernel_rfl
def aC6:TI:=⟨Kd.oth,1,8,Value.nilFunc⟩
theorem bch:qo Tryz.prog 60=some aC6:=by kernel_rfl
def aC5:TI:=⟨Kd.oth,1,8,Value.nilFunc⟩
theorem bcg:qo Tryz.prog 61=some aC5:=by kernel_rfl
def ae0:TI:=⟨Kd.stru [(0,3),(1,4),(2,3),(3,3)],4,32,Value.agg ⟨[Value.int IntKind.i64 0,Value.bool false,Value.int IntKind.i64 0,Value.int IntKind.i64 0]⟩⟩
theorem aLO:qo Tryz.prog 62=some ae0:=by kernel_rfl
def adU:TI:=⟨Kd.stru [(0,3),(1,4),(2,3),(3,3)],4,32,Value.agg ⟨[Value.int IntKind.i64 0,Value.bool false,Value.int IntKind.i64 0,Value.int IntKind.i64 0]⟩⟩
theorem aHN:qo Tryz.prog 63=some adU:=by kernel_rfl
def aC4:TI:=⟨Kd.oth,1,8,Value.nilFunc⟩
theorem bcf:qo Tryz.prog 65=some aC4:=by kernel_rfl
def aC3:TI:=⟨Kd.oth,1,8,Value.nilFunc⟩
theorem bce:qo Tryz.prog 67=some aC3:=by kernel_rfl
def aC2:TI:=⟨Kd.oth,1,8,Value.nilFunc⟩
theorem bcd:qo Tryz.prog 68=some aC2:=by kernel_rfl
def aC1:TI:=⟨Kd.oth,1,8,Value.nilFunc⟩
theorem bcc:qo Tryz.prog 69=some aC1:=by kernel_rfl
def aC0:TI:=⟨Kd.oth,1,8,Value.nilFunc⟩
theorem bcb:qo Tryz.prog 70=some aC0:=by kernel_rfl
def aCZ:TI:=⟨Kd.oth,1,8,Value.nilFunc⟩
theorem bca:qo Tryz.prog 71=some aCZ:=by kernel_rfl
def aCY:TI:=⟨Kd.oth,1,8,Value.nilFunc⟩
theorem bb9:qo Tryz.prog 72=some aCY:=by kernel_rfl
def aCX:TI:=⟨Kd.oth,1,8,Value.nilFunc⟩
theorem bb8:qo Tryz.prog 74=some aCX:=by kernel_rfl
def aCW:TI:=⟨Kd.oth,1,8,Value.nilFunc⟩
theorem bb7:qo Tryz.prog 76=some aCW:=by kernel_rfl
def aCV:TI:=⟨Kd.oth,1,8,Value.nilFunc⟩
theorem bb6:qo Tryz.prog 77=some aCV:=by kernel_rfl
def aCU:TI:=⟨Kd.oth,1,8,Value.nilFunc⟩
theorem bb5:qo Tryz.prog 79=some aCU:=by kernel_rfl
def aCT:TI:=⟨Kd.oth,1,8,Value.nilFunc⟩
theorem bb4:qo Tryz.prog 80=some aCT:=by kernel_rfl
def aCS:TI:=⟨Kd.oth,1,8,Value.nilFunc⟩
theorem bb3:qo Tryz.prog 82=some aCS:=by kernel_rfl
def aCR:TI:=⟨Kd.oth,1,8,Value.nilFunc⟩
theorem bb2:qo Tryz.prog 83=some aCR:=by kernel_rfl
def aCQ:TI:=⟨Kd.oth,1,8,Value.nilFunc⟩
theorem bb1:qo Tryz.prog 84=some aCQ:=by kernel_rfl
def aCP:TI:=⟨Kd.oth,1,8,Value.nilFunc⟩
theorem bb0:qo Tryz.prog 85=some aCP:=by kernel_rfl
def aCO:TI:=⟨Kd.oth,1,8,Value.nilFunc⟩
theorem bbZ:qo Tryz.prog 86=some aCO:=by kernel_rfl
def aCN:TI:=⟨Kd.oth,1,8,Value.nilFunc⟩
theorem bbY:qo Tryz.prog 87=some aCN:=by kernel_rfl
def aCM:TI:=⟨Kd.oth,1,8,Value.nilFunc⟩
theorem bbX:qo Tryz.prog 88=some aCM:=by kernel_rfl
def ajm:TI:=⟨Kd.stru [(0,4),(1,23),(2,3)],3,40,Value.agg ⟨[Value.bool false,Value.slice none 0 0,Value.int IntKind.i64 0]⟩⟩
theorem aMB:qo Tryz.prog 89=some ajm:=by kernel_rfl
def Q0:TI:=⟨Kd.stru [(0,4),(1,23),(2,3)],3,40,Value.agg ⟨[Value.bool false,Value.slice none 0 0,Value.int IntKind.i64 0]⟩⟩
theorem YW:qo Tryz.prog 90=some Q0:=by kernel_rfl
def aCL:TI:=⟨Kd.oth,1,8,Value.nilFunc⟩
theorem bbW:qo Tryz.prog 92=some aCL:=by kernel_rfl
def aCK:TI:=⟨Kd.oth,1,8,Value.nilFunc⟩
theorem bbV:qo Tryz.prog 93=some aCK:=by kernel_rfl
def aCJ:TI:=⟨Kd.oth,1,8,Value.nilFunc⟩
theorem bbU:qo Tryz.prog 94=some aCJ:=by kernel_rfl
def aCI:TI:=⟨Kd.oth,1,8,Value.nilFunc⟩
theorem bbT:qo Tryz.prog 95=some aCI:=by kernel_rfl
def aCH:TI:=⟨Kd.oth,1,8,Value.nilFunc⟩
theorem bbS:qo Tryz.prog 97=some aCH:=by kernel_rfl
def aCG:TI:=⟨Kd.oth,1,8,Value.nilFunc⟩
theorem bbR:qo Tryz.prog 98=some aCG:=by kernel_rfl
def aCF:TI:=⟨Kd.oth,1,8,Value.nilFunc⟩
theorem bbQ:qo Tryz.prog 99=some aCF:=by kernel_rfl
def yU:TI:=⟨Kd.sli 90,1,24,Value.slice none 0 0⟩
theorem J3:qo Tryz.prog 100=some yU:=by kernel_rfl
def Zq:TI:=⟨Kd.stru [(0,3),(1,100)],2,32,Value.agg ⟨[Value.int IntKind.i64 0,Value.slice none 0 0]⟩⟩
theorem azQ:qo Tryz.prog 101=some Zq:=by kernel_rfl
def Zp:TI:=⟨Kd.stru [(0,3),(1,100)],2,32,Value.agg ⟨[Value.int IntKind.i64 0,Value.slice none 0 0]⟩⟩
theorem azP:qo Tryz.prog 102=some Zp:=by kernel_rfl
def Kf:TI:=⟨Kd.oth,1,8,Value.nilFunc⟩
theorem aXV:qo Tryz.prog 103=some Kf:=by kernel_rfl
def Ke:TI:=⟨Kd.oth,1,8,Value.nilFunc⟩
theorem aXU:qo Tryz.prog 104=some Ke:=by kernel_rfl
def Kc:TI:=⟨Kd.oth,1,8,Value.nilFunc⟩
theorem aXT:qo Tryz.prog 105=some Kc:=by kernel_rfl
def Kb:TI:=⟨Kd.oth,1,8,Value.nilFunc⟩
theorem aXS:qo Tryz.prog 106=some Kb:=by kernel_rfl
def Ka:TI:=⟨Kd.oth,1,8,Value.nilFunc⟩
theorem aXR:qo Tryz.prog 107=some Ka:=by kernel_rfl
def V9:TI:=⟨Kd.oth,1,8,Value.nilFunc⟩
theorem aXQ:qo Tryz.prog 108=some V9:=by kernel_rfl
def V8:TI:=⟨Kd.oth,1,8,Value.nilFunc⟩
theorem aXP:qo Tryz.prog 109=some V8:=by kernel_rfl
def Zo:TI:=⟨Kd.stru [(0,90),(3,90)],6,80,Value.agg ⟨[Value.bool false,Value.slice none 0 0,Value.int IntKind.i64 0,Value.bool false,Value.slice none 0 0,Value.int IntKind.i64 0]⟩⟩
theorem azO:qo Tryz.prog 110=some Zo:=by kernel_rfl
def Q3:TI:=⟨Kd.stru [(0,90),(3,90)],6,80,Value.agg ⟨[Value.bool false,Value.slice none 0 0,Value.int IntKind.i64 0,Value.bool false,Value.slice none 0 0,Value.int IntKind.i64 0]⟩⟩
theorem anx:qo Tryz.prog 111=some Q3:=by kernel_rfl
def V7:TI:=⟨Kd.oth,1,8,Value.nilFunc⟩
theorem aXO:qo Tryz.prog 113=some V7:=by kernel_rfl
def V6:TI:=⟨Kd.oth,1,8,Value.nilFunc⟩
theorem aXN:qo Tryz.prog 114=some V6:=by kernel_rfl
def V5:TI:=⟨Kd.oth,1,8,Value.nilFunc⟩
theorem aXM:qo Tryz.prog 115=some V5:=by kernel_rfl
def V4:TI:=⟨Kd.oth,1,8,Value.nilFunc⟩
theorem aXL:qo Tryz.prog 116=some V4:=by kernel_rfl
def V3:TI:=⟨Kd.oth,1,8,Value.nilFunc⟩
theorem aXK:qo Tryz.prog 117=some V3:=by kernel_rfl
def V2:TI:=⟨Kd.oth,1,8,Value.nilFunc⟩
theorem aXJ:qo Tryz.prog 118=some V2:=by kernel_rfl
def V1:TI:=⟨Kd.oth,1,8,Value.nilFunc⟩
theorem aXI:qo Tryz.prog 119=some V1:=by kernel_rfl
def V0:TI:=⟨Kd.oth,1,8,Value.nilFunc⟩
theorem aXH:qo Tryz.prog 120=some V0:=by kernel_rfl
def VZ:TI:=⟨Kd.oth,1,8,Value.nilFunc⟩
theorem aXG:qo Tryz.prog 121=some VZ:=by kernel_rfl
def VY:TI:=⟨Kd.oth,1,8,Value.nilFunc⟩
theorem aXF:qo Tryz.prog 122=some VY:=by kernel_rfl
def VX:TI:=⟨Kd.oth,1,8,Value.nilFunc⟩
theorem aXE:qo Tryz.prog 123=some VX:=by kernel_rfl
def VW:TI:=⟨Kd.oth,1,8,Value.nilFunc⟩
theorem aXD:qo Tryz.prog 124=some VW:=by kernel_rfl
def VV:TI:=⟨Kd.oth,1,8,Value.nilFunc⟩
theorem aXC:qo Tryz.prog 125=some VV:=by kernel_rfl
def VU:TI:=⟨Kd.oth,1,8,Value.nilFunc⟩
theorem aXB:qo Tryz.prog 126=some VU:=by kernel_rfl
def VT:TI:=⟨Kd.oth,1,8,Value.nilFunc⟩
theorem aXA:qo Tryz.prog 127=some VT:=by kernel_rfl
def VS:TI:=⟨Kd.oth,1,8,Value.nilFunc⟩
theorem aXz:qo Tryz.prog 128=some VS:=by kernel_rfl
def VR:TI:=⟨Kd.oth,1,8,Value.nilFunc⟩
theorem aXy:qo Tryz.prog 129=some VR:=by kernel_rfl
def VQ:TI:=⟨Kd.oth,1,8,Value.nilFunc⟩
theorem aXx:qo Tryz.prog 130=some VQ:=by kernel_rfl
def VP:TI:=⟨Kd.oth,1,8,Value.nilFunc⟩
theorem aXw:qo Tryz.prog 131=some VP:=by kernel_rfl
def VO:TI:=⟨Kd.int IntKind.u64,1,8,Value.int IntKind.u64 0⟩
theorem aXv:qo Tryz.prog 132=some VO:=by kernel_rfl
def VN:TI:=⟨Kd.oth,1,8,Value.nilFunc⟩
theorem aXu:qo Tryz.prog 133=some VN:=by kernel_rfl
def VM:TI:=⟨Kd.oth,1,8,Value.nilFunc⟩
theorem aXt:qo Tryz.prog 135=some VM:=by kernel_rfl
def VL:TI:=⟨Kd.oth,1,8,Value.nilFunc⟩
theorem aXs:qo Tryz.prog 136=some VL:=by kernel_rfl
def VK:TI:=⟨Kd.oth,1,8,Value.nilFunc⟩
theorem aXr:qo Tryz.prog 137=some VK:=by kernel_rfl
def VJ:TI:=⟨Kd.oth,1,8,Value.nilFunc⟩
theorem aXq:qo Tryz.prog 138=some VJ:=by kernel_rfl
def VI:TI:=⟨Kd.oth,1,8,Value.nilFunc⟩
theorem aXp:qo Tryz.prog 139=some VI:=by kernel_rfl
def VH:TI:=⟨Kd.oth,1,8,Value.nilFunc⟩
theorem aXo:qo Tryz.prog 140=some VH:=by kernel_rfl
def VG:TI:=⟨Kd.oth,1,8,Value.nilFunc⟩
theorem aXn:qo Tryz.prog 141=some VG:=by kernel_rfl
def Q2:TI:=⟨Kd.stru [(0,22),(1,3),(2,3)],3,40,Value.agg ⟨[Value.slice none 0 0,Value.int IntKind.i64 0,Value.int IntKind.i64 0]⟩⟩
theorem anw:qo Tryz.prog 142=some Q2:=by kernel_rfl
def Q1:TI:=⟨Kd.stru [(0,22),(1,3),(2,3)],3,40,Value.agg ⟨[Value.slice none 0 0,Value.int IntKind.i64 0,Value.int IntKind.i64 0]⟩⟩
theorem anv:qo Tryz.prog 143=some Q1:=by kernel_rfl
def VF:TI:=⟨Kd.oth,1,8,Value.nilFunc⟩
theorem aXm:qo Tryz.prog 144=some VF:=by kernel_rfl
def VE:TI:=⟨Kd.oth,1,8,Value.nilFunc⟩
theorem aXl:qo Tryz.prog 145=some VE:=by kernel_rfl
def VD:TI:=⟨Kd.oth,1,8,Value.nilFunc⟩
theorem aXk:qo Tryz.prog 146=some VD:=by kernel_rfl
def VC:TI:=⟨Kd.oth,1,8,Value.nilFunc⟩
theorem aXj:qo Tryz.prog 147=some VC:=by kernel_rfl
def VB:TI:=⟨Kd.oth,1,8,Value.nilFunc⟩
theorem aXi:qo Tryz.prog 148=some VB:=by kernel_rfl
def VA:TI:=⟨Kd.oth,1,8,Value.nilFunc⟩
theorem aXh:qo Tryz.prog 150=some VA:=by kernel_rfl
def Vz:TI:=⟨Kd.oth,1,8,Value.nilFunc⟩
theorem aXg:qo Tryz.prog 152=some Vz:=by kernel_rfl
def Vy:TI:=⟨Kd.oth,1,8,Value.nilFunc⟩
theorem aXf:qo Tryz.prog 153=some Vy:=by kernel_rfl
def Vx:TI:=⟨Kd.oth,1,8,Value.nilFunc⟩
theorem aXe:qo Tryz.prog 154=some Vx:=by kernel_rfl
def y9:TI:=⟨Kd.sli 111,1,24,Value.slice none 0 0⟩
theorem Ki:qo Tryz.prog 155=some y9:=by kernel_rfl
def Zn:TI:=⟨Kd.stru [(0,3),(1,155)],2,32,Value.agg ⟨[Value.int IntKind.i64 0,Value.slice none 0 0]⟩⟩
theorem azN:qo Tryz.prog 156=some Zn:=by kernel_rfl
def Zm:TI:=⟨Kd.stru [(0,3),(1,155)],2,32,Value.agg ⟨[Value.int IntKind.i64 0,Value.slice none 0 0]⟩⟩
theorem azM:qo Tryz.prog 157=some Zm:=by kernel_rfl
def Vw:TI:=⟨Kd.oth,1,8,Value.nilFunc⟩
theorem aXd:qo Tryz.prog 158=some Vw:=by kernel_rfl
def y8:TI:=⟨Kd.sli 50,1,24,Value.slice none 0 0⟩
theorem Kh:qo Tryz.prog 159=some y8:=by kernel_rfl
def Zl:TI:=⟨Kd.stru [(0,3),(1,159)],2,32,Value.agg ⟨[Value.int IntKind.i64 0,Value.slice none 0 0]⟩⟩
theorem azL:qo Tryz.prog 160=some Zl:=by kernel_rfl
def Zk:TI:=⟨Kd.stru [(0,3),(1,159)],2,32,Value.agg ⟨[Value.int IntKind.i64 0,Value.slice none 0 0]⟩⟩
theorem azK:qo Tryz.prog 161=some Zk:=by kernel_rfl
def Vv:TI:=⟨Kd.oth,1,8,Value.nilFunc⟩
theorem aXc:qo Tryz.prog 163=some Vv:=by kernel_rfl
def Vu:TI:=⟨Kd.oth,1,8,Value.nilFunc⟩
theorem aXb:qo Tryz.prog 164=some Vu:=by kernel_rfl
def Vt:TI:=⟨Kd.oth,1,8,Value.nilFunc⟩
theorem aXa:qo Tryz.prog 165=some Vt:=by kernel_rfl
def Vs:TI:=⟨Kd.oth,1,8,Value.nilFunc⟩
theorem aW9:qo Tryz.prog 166=some Vs:=by kernel_rfl
def Vr:TI:=⟨Kd.oth,1,8,Value.nilFunc⟩
theorem aW8:qo Tryz.prog 167=some Vr:=by kernel_rfl
def Vq:TI:=⟨Kd.oth,1,8,Value.nilFunc⟩
theorem aW7:qo Tryz.prog 169=some Vq:=by kernel_rfl
def Vp:TI:=⟨Kd.oth,1,8,Value.nilFunc⟩
theorem aW6:qo Tryz.prog 170=some Vp:=by kernel_rfl
def Vo:TI:=⟨Kd.oth,1,8,Value.nilFunc⟩
theorem aW5:qo Tryz.prog 171=some Vo:=by kernel_rfl
def Vn:TI:=⟨Kd.oth,1,8,Value.nilFunc⟩
theorem aW4:qo Tryz.prog 172=some Vn:=by kernel_rfl
def Vm:TI:=⟨Kd.oth,1,8,Value.nilFunc⟩
theorem aW3:qo Tryz.prog 173=some Vm:=by kernel_rfl
def Vl:TI:=⟨Kd.oth,1,8,Value.nilFunc⟩
theorem aW2:qo Tryz.prog 174=some Vl:=by kernel_rfl
def Vk:TI:=⟨Kd.oth,1,8,Value.nilFunc⟩
theorem aW1:qo Tryz.prog 176=some Vk:=by kernel_rfl
def Vj:TI:=⟨Kd.oth,1,8,Value.nilFunc⟩
theorem aW0:qo Tryz.prog 177=some Vj:=by kernel_rfl
def Vi:TI:=⟨Kd.oth,1,8,Value.nilFunc⟩
theorem aWZ:qo Tryz.prog 178=some Vi:=by kernel_rfl
def Vh:TI:=⟨Kd.oth,1,8,Value.nilFunc⟩
theorem aWY:qo Tryz.prog 179=some Vh:=by kernel_rfl
def Vg:TI:=⟨Kd.oth,1,8,Value.nilFunc⟩
theorem aWX:qo Tryz.prog 180=some Vg:=by kernel_rfl
def Vf:TI:=⟨Kd.oth,1,8,Value.nilFunc⟩
theorem aWW:qo Tryz.prog 181=some Vf:=by kernel_rfl
def Ve:TI:=⟨Kd.oth,1,8,Value.nilFunc⟩
theorem aWV:qo Tryz.prog 183=some Ve:=by kernel_rfl
def Vd:TI:=⟨Kd.oth,1,8,Value.nilFunc⟩
theorem aWU:qo Tryz.prog 184=some Vd:=by kernel_rfl
def Vc:TI:=⟨Kd.sli 63,1,24,Value.slice none 0 0⟩
theorem aME:qo Tryz.prog 185=some Vc:=by kernel_rfl
def Vb:TI:=⟨Kd.oth,1,8,Value.nilFunc⟩
theorem aWT:qo Tryz.prog 186=some Vb:=by kernel_rfl
def Va:TI:=⟨Kd.oth,1,8,Value.nilFunc⟩
theorem aWS:qo Tryz.prog 187=some Va:=by kernel_rfl
def X9:TI:=⟨Kd.oth,1,8,Value.nilFunc⟩
theorem aWR:qo Tryz.prog 188=some X9:=by kernel_rfl
def X8:TI:=⟨Kd.oth,1,8,Value.nilFunc⟩
theorem aWQ:qo Tryz.prog 189=some X8:=by kernel_rfl
def X7:TI:=⟨Kd.oth,1,8,Value.nilFunc⟩
theorem aWP:qo Tryz.prog 190=some X7:=by kernel_rfl
def X6:TI:=⟨Kd.oth,1,8,Value.nilFunc⟩
theorem aWO:qo Tryz.prog 191=some X6:=by kernel_rfl
def X5:TI:=⟨Kd.oth,1,8,Value.nilFunc⟩
theorem aWN:qo Tryz.prog 192=some X5:=by kernel_rfl
def X4:TI:=⟨Kd.oth,1,8,Value.nilFunc⟩
theorem aWM:qo Tryz.prog 193=some X4:=by kernel_rfl
def X3:TI:=⟨Kd.oth,1,8,Value.nilFunc⟩
theorem aWL:qo Tryz.prog 194=some X3:=by kernel_rfl
def X2:TI:=⟨Kd.oth,1,8,Value.nilFunc⟩
theorem aWK:qo Tryz.prog 195=some X2:=by kernel_rfl
def X1:TI:=⟨Kd.oth,1,8,Value.nilFunc⟩
theorem aWJ:qo Tryz.prog 196=some X1:=by kernel_rfl
def X0:TI:=⟨Kd.oth,1,8,Value.nilFunc⟩
theorem aWI:qo Tryz.prog 197=some X0:=by kernel_rfl
def XZ:TI:=⟨Kd.oth,1,8,Value.nilFunc⟩
theorem aWH:qo Tryz.prog 198=some XZ:=by kernel_rfl
def XY:TI:=⟨Kd.oth,1,8,Value.nilFunc⟩
theorem aWG:qo Tryz.prog 199=some XY:=by kernel_rfl
def XX:TI:=⟨Kd.oth,1,8,Value.nilFunc⟩
theorem aWF:qo Tryz.prog 200=some XX:=by kernel_rfl
def XW:TI:=⟨Kd.oth,1,8,Value.nilFunc⟩
theorem aWE:qo Tryz.prog 201=some XW:=by kernel_rfl
def XV:TI:=⟨Kd.oth,1,8,Value.nilFunc⟩
theorem aWD:qo Tryz.prog 202=some XV:=by kernel_rfl
def XU:TI:=⟨Kd.oth,1,8,Value.nilFunc⟩
theorem aWC:qo Tryz.prog 203=some XU:=by kernel_rfl
def XT:TI:=⟨Kd.oth,1,8,Value.nilFunc⟩
theorem aWB:qo Tryz.prog 204=some XT:=by kernel_rfl
def XS:TI:=⟨Kd.oth,1,8,Value.nilFunc⟩
theorem aWA:qo Tryz.prog 205=some XS:=by kernel_rfl
def XR:TI:=⟨Kd.oth,1,8,Value.nilFunc⟩
theorem aWz:qo Tryz.prog 206=some XR:=by kernel_rfl
def XQ:TI:=⟨Kd.oth,1,8,Value.nilFunc⟩
theorem aWy:qo Tryz.prog 208=some XQ:=by kernel_rfl
def XP:TI:=⟨Kd.oth,1,8,Value.nilFunc⟩
theorem aWx:qo Tryz.prog 209=some XP:=by kernel_rfl
def XO:TI:=⟨Kd.oth,1,8,Value.nilFunc⟩
theorem aWw:qo Tryz.prog 210=some XO:=by kernel_rfl
def XN:TI:=⟨Kd.oth,1,8,Value.nilFunc⟩
theorem aWv:qo Tryz.prog 211=some XN:=by kernel_rfl
def XM:TI:=⟨Kd.oth,1,8,Value.nilFunc⟩
theorem aWu:qo Tryz.prog 212=some XM:=by kernel_rfl
def XL:TI:=⟨Kd.oth,1,8,Value.nilFunc⟩
theorem aWt:qo Tryz.prog 213=some XL:=by kernel_rfl
def XK:TI:=⟨Kd.oth,1,8,Value.nilFunc⟩
theorem aWs:qo Tryz.prog 214=some XK:=by kernel_rfl
def XJ:TI:=⟨Kd.oth,1,8,Value.nilFunc⟩
theorem aWr:qo Tryz.prog 215=some XJ:=by kernel_rfl
def XI:TI:=⟨Kd.oth,1,8,Value.nilFunc⟩
theorem aWq:qo Tryz.prog 216=some XI:=by kernel_rfl
def XH:TI:=⟨Kd.oth,1,8,Value.nilFunc⟩
theorem aWp:qo Tryz.prog 217=some XH:=by kernel_rfl
def XG:TI:=⟨Kd.oth,1,8,Value.nilFunc⟩
theorem aWo:qo Tryz.prog 218=some XG:=by kernel_rfl
def XF:TI:=⟨Kd.oth,1,8,Value.nilFunc⟩
theorem aWn:qo Tryz.prog 220=some XF:=by kernel_rfl
def XE:TI:=⟨Kd.oth,1,8,Value.nilFunc⟩
theorem aWm:qo Tryz.prog 221=some XE:=by kernel_rfl
def XD:TI:=⟨Kd.sli 100,1,24,Value.slice none 0 0⟩
theorem aMD:qo Tryz.prog 222=some XD:=by kernel_rfl
def XC:TI:=⟨Kd.oth,1,8,Value.nilFunc⟩
theorem aWl:qo Tryz.prog 223=some XC:=by kernel_rfl
def XB:TI:=⟨Kd.oth,1,8,Value.nilFunc⟩
theorem aWk:qo Tryz.prog 224=some XB:=by kernel_rfl
def XA:TI:=⟨Kd.oth,1,8,Value.nilFunc⟩
theorem aWj:qo Tryz.prog 225=some XA:=by kernel_rfl
def Xz:TI:=⟨Kd.oth,1,8,Value.nilFunc⟩
theorem aWi:qo Tryz.prog 226=some Xz:=by kernel_rfl
def Xy:TI:=⟨Kd.oth,1,8,Value.nilFunc⟩
theorem aWh:qo Tryz.prog 227=some Xy:=by kernel_rfl
def Xx:TI:=⟨Kd.oth,1,8,Value.nilFunc⟩
theorem aWg:qo Tryz.prog 228=some Xx:=by kernel_rfl
def Xw:TI:=⟨Kd.oth,1,8,Value.nilFunc⟩
theorem aWf:qo Tryz.prog 229=some Xw:=by kernel_rfl
def Xv:TI:=⟨Kd.oth,1,8,Value.nilFunc⟩
theorem aWe:qo Tryz.prog 230=some Xv:=by kernel_rfl
def Xu:TI:=⟨Kd.oth,1,8,Value.nilFunc⟩
theorem aWd:qo Tryz.prog 232=some Xu:=by kernel_rfl
def Xt:TI:=⟨Kd.oth,1,8,Value.nilFunc⟩
theorem aWc:qo Tryz.prog 233=some Xt:=by kernel_rfl
def Xs:TI:=⟨Kd.oth,1,8,Value.nilFunc⟩
theorem aWb:qo Tryz.prog 234=some Xs:=by kernel_rfl
def Xr:TI:=⟨Kd.oth,1,8,Value.nilFunc⟩
theorem aWa:qo Tryz.prog 235=some Xr:=by kernel_rfl
def Xq:TI:=⟨Kd.oth,1,8,Value.nilFunc⟩
theorem aV9:qo Tryz.prog 237=some Xq:=by kernel_rfl
def Xp:TI:=⟨Kd.oth,1,8,Value.nilFunc⟩
theorem aV8:qo Tryz.prog 238=some Xp:=by kernel_rfl
def Xo:TI:=⟨Kd.oth,1,8,Value.nilFunc⟩
theorem aV7:qo Tryz.prog 239=some Xo:=by kernel_rfl
def Xn:TI:=⟨Kd.oth,1,8,Value.nilFunc⟩
theorem aV5:qo Tryz.prog 240=some Xn:=by kernel_rfl
def Xm:TI:=⟨Kd.oth,1,8,Value.nilFunc⟩
theorem aV4:qo Tryz.prog 241=some Xm:=by kernel_rfl
def Xl:TI:=⟨Kd.int IntKind.u32,1,4,Value.int IntKind.u32 0⟩
theorem aV3:qo Tryz.prog 242=some Xl:=by kernel_rfl
def Xk:TI:=⟨Kd.oth,1,8,Value.nilFunc⟩
theorem aV2:qo Tryz.prog 243=some Xk:=by kernel_rfl
def Xj:TI:=⟨Kd.int IntKind.u64,1,8,Value.int IntKind.u64 0⟩
theorem aV1:qo Tryz.prog 244=some Xj:=by kernel_rfl
def Xi:TI:=⟨Kd.oth,1,8,Value.nilFunc⟩
theorem aV0:qo Tryz.prog 245=some Xi:=by kernel_rfl
def Xh:TI:=⟨Kd.oth,1,8,Value.nilFunc⟩
theorem aVZ:qo Tryz.prog 247=some Xh:=by kernel_rfl
def Xg:TI:=⟨Kd.oth,1,8,Value.nilFunc⟩
theorem aVY:qo Tryz.prog 248=some Xg:=by kernel_rfl
def Xf:TI:=⟨Kd.oth,1,8,Value.nilFunc⟩
theorem aVX:qo Tryz.prog 249=some Xf:=by kernel_rfl
def Xe:TI:=⟨Kd.oth,1,8,Value.nilFunc⟩
theorem aVW:qo Tryz.prog 250=some Xe:=by kernel_rfl
def Xd:TI:=⟨Kd.oth,1,8,Value.nilFunc⟩
theorem aVV:qo Tryz.prog 251=some Xd:=by kernel_rfl
def Xc:TI:=⟨Kd.oth,1,8,Value.nilFunc⟩
theorem aVU:qo Tryz.prog 252=some Xc:=by kernel_rfl
def Xb:TI:=⟨Kd.oth,1,8,Value.nilFunc⟩
theorem aVT:qo Tryz.prog 253=some Xb:=by kernel_rfl
def Xa:TI:=⟨Kd.oth,1,8,Value.nilFunc⟩
theorem aVS:qo Tryz.prog 254=some Xa:=by kernel_rfl
def Y9:TI:=⟨Kd.oth,1,8,Value.nilFunc⟩
theorem aVR:qo Tryz.prog 255=some Y9:=by kernel_rfl
def Y8:TI:=⟨Kd.oth,1,8,Value.nilFunc⟩
theorem aVQ:qo Tryz.prog 258=some Y8:=by kernel_rfl
def Y7:TI:=⟨Kd.stru [(0,261)],0,0,Value.agg ⟨[]⟩⟩
theorem aVP:qo Tryz.prog 262=some Y7:=by kernel_rfl
def Y6:TI:=⟨Kd.stru [(0,261)],0,0,Value.agg ⟨[]⟩⟩
theorem aVO:qo Tryz.prog 263=some Y6:=by kernel_rfl
def Y5:TI:=⟨Kd.int IntKind.u8,1,1,Value.int IntKind.u8 0⟩
theorem aVN:qo Tryz.prog 264=some Y5:=by kernel_rfl
def Y4:TI:=⟨Kd.int IntKind.u8,1,1,Value.int IntKind.u8 0⟩
theorem aVM:qo Tryz.prog 265=some Y4:=by kernel_rfl
def Y3:TI:=⟨Kd.oth,1,8,Value.nilFunc⟩
theorem aVL:qo Tryz.prog 266=some Y3:=by kernel_rfl
def Y2:TI:=⟨Kd.int IntKind.i32,1,4,Value.int IntKind.i32 0⟩
theorem aVK:qo Tryz.prog 268=some Y2:=by kernel_rfl
def Y1:TI:=⟨Kd.int IntKind.i32,1,4,Value.int IntKind.i32 0⟩
theorem aVJ:qo Tryz.prog 269=some Y1:=by kernel_rfl
def YZ:TI:=⟨Kd.oth,1,8,Value.nilFunc⟩
theorem aVI:qo Tryz.prog 272=some YZ:=by kernel_rfl
def YY:TI:=⟨Kd.oth,1,8,Value.nilFunc⟩
theorem aVH:qo Tryz.prog 273=some YY:=by kernel_rfl
def YX:TI:=⟨Kd.oth,1,8,Value.nilFunc⟩
theorem aVG:qo Tryz.prog 274=some YX:=by kernel_rfl
theorem ty1{K:TI→Prop}:@tyW Tryz.prog 1 ⟨K⟩=K ti1:=qi tf1
theorem aMA:ti1.kd=Kd.oth:=ID rfl
theorem aHD:ti1.kd.agg=false:=ID rfl
theorem au9:ti1.size=1:=ID rfl
theorem alV:ti1.bytes=8:=ID rfl
theorem aMy:qz ti1=True:=eq_true rfl
theorem aMz:zc ti1=[.v Value.nilFunc]:=ID rfl
theorem ty2{K:TI→Prop}:@tyW Tryz.prog 2 ⟨K⟩=K ti2:=qi tf2
theorem aMx:ti2.kd=Kd.int IntKind.i64:=ID rfl
theorem aHb:ti2.kd.agg=false:=ID rfl
theorem arZ:ti2.size=1:=ID rfl
theorem akF:ti2.bytes=8:=ID rfl
theorem aMv:qz ti2=True:=eq_true rfl
theorem aMw:zc ti2=[.v (Value.int IntKind.i64 0)]:=ID rfl
theorem ty3{K:TI→Prop}:@tyW Tryz.prog 3 ⟨K⟩=K ti3:=qi tf3
theorem aMu:ti3.kd=Kd.int IntKind.i64:=ID rfl
theorem akw:ti3.kd.agg=false:=ID rfl
theorem arQ:ti3.size=1:=ID rfl
theorem akv:ti3.bytes=8:=ID rfl
theorem aMs:qz ti3=True:=eq_true rfl
theorem aMt:zc ti3=[.v (Value.int IntKind.i64 0)]:=ID rfl
theorem ty4{K:TI→Prop}:@tyW Tryz.prog 4 ⟨K⟩=K ti4:=qi tf4
theorem aMr:ti4.kd=Kd.bool:=ID rfl
theorem akj:ti4.kd.agg=false:=ID rfl
theorem arH:ti4.size=1:=ID rfl
theorem aki:ti4.bytes=1:=ID rfl
theorem aMp:qz ti4=True:=eq_true rfl
theorem aMq:zc ti4=[.v (Value.bool false)]:=ID rfl
theorem ty5{K:TI→Prop}:@tyW Tryz.prog 5 ⟨K⟩=K ti5:=qi tf5
theorem aMo:ti5.kd=Kd.int IntKind.u8:=ID rfl
theorem aF0:ti5.kd.agg=false:=ID rfl
theorem ary:ti5.size=1:=ID rfl
theorem aj9:ti5.bytes=1:=ID rfl
theorem aMm:qz ti5=True:=eq_true rfl
theorem aMn:zc ti5=[.v (Value.int IntKind.u8 0)]:=ID rfl
theorem ty6{K:TI→Prop}:@tyW Tryz.prog 6 ⟨K⟩=K ti6:=qi tf6
theorem aMl:ti6.kd=Kd.int IntKind.u8:=ID rfl
theorem aFB:ti6.kd.agg=false:=ID rfl
theorem aro:ti6.size=1:=ID rfl
theorem aj0:ti6.bytes=1:=ID rfl
theorem aMj:qz ti6=True:=eq_true rfl
theorem aMk:zc ti6=[.v (Value.int IntKind.u8 0)]:=ID rfl
theorem ty7{K:TI→Prop}:@tyW Tryz.prog 7 ⟨K⟩=K ti7:=qi tf7
theorem aMi:ti7.kd=Kd.stru [(0,2),(1,3),(2,4),(3,6)]:=ID rfl
theorem aFf:ti7.kd.agg=true:=ID rfl
theorem arg:ti7.size=4:=ID rfl
theorem ajS:ti7.bytes=24:=ID rfl
theorem aMg:qz ti7=True:=eq_true rfl
theorem aMh:zc ti7=[.v (Value.int IntKind.i64 0),.v (Value.int IntKind.i64 0),.v (Value.bool false),.v (Value.int IntKind.u8 0)]:=ID rfl
theorem aRS{K:Nat→TI→Prop}:@qC Tryz.prog 7 0 ⟨K⟩=K 0 ti2:=qr (ti:=ti7) (tf:=ti2) (fo:=(0,2)) (fs:=[(0,2),(1,3),(2,4),(3,6)]) tf7 rfl rfl tf2
theorem aYl{K:Nat→Nat→Prop}:qs Tryz.prog [(0,2),(1,3),(2,4),(3,6)] 0 K=K 0 1:=qq (tf:=ti2) (fo:=(0,2)) (fs:=[(0,2),(1,3),(2,4),(3,6)]) rfl tf2
theorem aRR{K:Nat→TI→Prop}:@qC Tryz.prog 7 1 ⟨K⟩=K 1 ti3:=qr (ti:=ti7) (tf:=ti3) (fo:=(1,3)) (fs:=[(0,2),(1,3),(2,4),(3,6)]) tf7 rfl rfl tf3
theorem aYk{K:Nat→Nat→Prop}:qs Tryz.prog [(0,2),(1,3),(2,4),(3,6)] 1 K=K 1 1:=qq (tf:=ti3) (fo:=(1,3)) (fs:=[(0,2),(1,3),(2,4),(3,6)]) rfl tf3
theorem aRQ{K:Nat→TI→Prop}:@qC Tryz.prog 7 2 ⟨K⟩=K 2 ti4:=qr (ti:=ti7) (tf:=ti4) (fo:=(2,4)) (fs:=[(0,2),(1,3),(2,4),(3,6)]) tf7 rfl rfl tf4
theorem aYj{K:Nat→Nat→Prop}:qs Tryz.prog [(0,2),(1,3),(2,4),(3,6)] 2 K=K 2 1:=qq (tf:=ti4) (fo:=(2,4)) (fs:=[(0,2),(1,3),(2,4),(3,6)]) rfl tf4
theorem aRP{K:Nat→TI→Prop}:@qC Tryz.prog 7 3 ⟨K⟩=K 3 ti6:=qr (ti:=ti7) (tf:=ti6) (fo:=(3,6)) (fs:=[(0,2),(1,3),(2,4),(3,6)]) tf7 rfl rfl tf6
theorem aYi{K:Nat→Nat→Prop}:qs Tryz.prog [(0,2),(1,3),(2,4),(3,6)] 3 K=K 3 1:=qq (tf:=ti6) (fo:=(3,6)) (fs:=[(0,2),(1,3),(2,4),(3,6)]) rfl tf6
theorem aYC:∀f∈([(0,2),(1,3),(2,4),(3,6)]:List (Nat×Nat)),(qo Tryz.prog f.2).isSome=true:=by
 intro f hf
 simp only[List.mem_cons,List.not_mem_nil,or_false]at hf
 rcases hf with rfl|rfl|rfl|rfl
 ·rw[tf2];rfl
 ·rw[tf3];rfl
 ·rw[tf4];rfl
 ·rw[tf6];rfl
theorem bc4{ps:List (Nat×AV)}{K:AV→Prop}:@zp Tryz.prog 7 ps ⟨K⟩=@zr (qs Tryz.prog [(0,2),(1,3),(2,4),(3,6)]) (zc ti7) ps ⟨fun cs=>K (.ag cs)⟩:=qR tf7 rfl aYC
theorem ty8{K:TI→Prop}:@tyW Tryz.prog 8 ⟨K⟩=K ti8:=qi tf8
theorem aMf:ti8.kd=Kd.stru [(0,2),(1,3),(2,4),(3,6)]:=ID rfl
theorem aEN:ti8.kd.agg=true:=ID rfl
theorem aq5:ti8.size=4:=ID rfl
theorem ajI:ti8.bytes=24:=ID rfl
theorem aMd:qz ti8=True:=eq_true rfl
theorem aMe:zc ti8=[.v (Value.int IntKind.i64 0),.v (Value.int IntKind.i64 0),.v (Value.bool false),.v (Value.int IntKind.u8 0)]:=ID rfl
theorem aRO{K:Nat→TI→Prop}:@qC Tryz.prog 8 0 ⟨K⟩=K 0 ti2:=qr (ti:=ti8) (tf:=ti2) (fo:=(0,2)) (fs:=[(0,2),(1,3),(2,4),(3,6)]) tf8 rfl rfl tf2
theorem aYh{K:Nat→Nat→Prop}:qs Tryz.prog [(0,2),(1,3),(2,4),(3,6)] 0 K=K 0 1:=qq (tf:=ti2) (fo:=(0,2)) (fs:=[(0,2),(1,3),(2,4),(3,6)]) rfl tf2
theorem aRN{K:Nat→TI→Prop}:@qC Tryz.prog 8 1 ⟨K⟩=K 1 ti3:=qr (ti:=ti8) (tf:=ti3) (fo:=(1,3)) (fs:=[(0,2),(1,3),(2,4),(3,6)]) tf8 rfl rfl tf3
theorem aYg{K:Nat→Nat→Prop}:qs Tryz.prog [(0,2),(1,3),(2,4),(3,6)] 1 K=K 1 1:=qq (tf:=ti3) (fo:=(1,3)) (fs:=[(0,2),(1,3),(2,4),(3,6)]) rfl tf3
theorem aRM{K:Nat→TI→Prop}:@qC Tryz.prog 8 2 ⟨K⟩=K 2 ti4:=qr (ti:=ti8) (tf:=ti4) (fo:=(2,4)) (fs:=[(0,2),(1,3),(2,4),(3,6)]) tf8 rfl rfl tf4
theorem aYf{K:Nat→Nat→Prop}:qs Tryz.prog [(0,2),(1,3),(2,4),(3,6)] 2 K=K 2 1:=qq (tf:=ti4) (fo:=(2,4)) (fs:=[(0,2),(1,3),(2,4),(3,6)]) rfl tf4
theorem aRL{K:Nat→TI→Prop}:@qC Tryz.prog 8 3 ⟨K⟩=K 3 ti6:=qr (ti:=ti8) (tf:=ti6) (fo:=(3,6)) (fs:=[(0,2),(1,3),(2,4),(3,6)]) tf8 rfl rfl tf6
theorem aYe{K:Nat→Nat→Prop}:qs Tryz.prog [(0,2),(1,3),(2,4),(3,6)] 3 K=K 3 1:=qq (tf:=ti6) (fo:=(3,6)) (fs:=[(0,2),(1,3),(2,4),(3,6)]) rfl tf6
theorem aYB:∀f∈([(0,2),(1,3),(2,4),(3,6)]:List (Nat×Nat)),(qo Tryz.prog f.2).isSome=true:=by
 intro f hf
 simp only[List.mem_cons,List.not_mem_nil,or_false]at hf
 rcases hf with rfl|rfl|rfl|rfl
 ·rw[tf2];rfl
 ·rw[tf3];rfl
 ·rw[tf4];rfl
 ·rw[tf6];rfl
theorem bc3{ps:List (Nat×AV)}{K:AV→Prop}:@zp Tryz.prog 8 ps ⟨K⟩=@zr (qs Tryz.prog [(0,2),(1,3),(2,4),(3,6)]) (zc ti8) ps ⟨fun cs=>K (.ag cs)⟩:=qR tf8 rfl aYB
theorem ty9{K:TI→Prop}:@tyW Tryz.prog 9 ⟨K⟩=K ti9:=qi tf9
theorem aMc:ti9.kd=Kd.str:=ID rfl
theorem aEo:ti9.kd.agg=false:=ID rfl
theorem aqW:ti9.size=1:=ID rfl
theorem ajz:ti9.bytes=16:=ID rfl
theorem aMa:qz ti9=True:=eq_true rfl
theorem aMb:zc ti9=[.v (Value.string {data:=⟨[]⟩})]:=ID rfl
theorem bbO{K:TI→Prop}:@tyW Tryz.prog 10 ⟨K⟩=K aDt:=qi bcE
theorem aHM:aDt.kd=Kd.str:=ID rfl
theorem azc:aDt.kd.agg=false:=ID rfl
theorem anj:aDt.size=1:=ID rfl
theorem ahX:aDt.bytes=16:=ID rfl
theorem aHK:qz aDt=True:=eq_true rfl
theorem aHL:zc aDt=[.v (Value.string {data:=⟨[]⟩})]:=ID rfl
theorem bbN{K:TI→Prop}:@tyW Tryz.prog 11 ⟨K⟩=K aDs:=qi bcD
theorem aHJ:aDs.kd=Kd.str:=ID rfl
theorem ayK:aDs.kd.agg=false:=ID rfl
theorem am8:aDs.size=1:=ID rfl
theorem ahN:aDs.bytes=16:=ID rfl
theorem aHH:qz aDs=True:=eq_true rfl
theorem aHI:zc aDs=[.v (Value.string {data:=⟨[]⟩})]:=ID rfl
theorem bbM{K:TI→Prop}:@tyW Tryz.prog 12 ⟨K⟩=K aDr:=qi bcC
theorem aHG:aDr.kd=Kd.int IntKind.u64:=ID rfl
theorem ayf:aDr.kd.agg=false:=ID rfl
theorem amX:aDr.size=1:=ID rfl
theorem ahC:aDr.bytes=8:=ID rfl
theorem aHE:qz aDr=True:=eq_true rfl
theorem aHF:zc aDr=[.v (Value.int IntKind.u64 0)]:=ID rfl
theorem bbL{K:TI→Prop}:@tyW Tryz.prog 21 ⟨K⟩=K aDq:=qi bcB
theorem aHC:aDq.kd=Kd.int IntKind.i32:=ID rfl
theorem aug:aDq.kd.agg=false:=ID rfl
theorem alz:aDq.size=1:=ID rfl
theorem agi:aDq.bytes=4:=ID rfl
theorem aHA:qz aDq=True:=eq_true rfl
theorem aHB:zc aDq=[.v (Value.int IntKind.i32 0)]:=ID rfl
theorem bbK{K:TI→Prop}:@tyW Tryz.prog 22 ⟨K⟩=K adW:=qi aDv
theorem aHz:adW.kd=Kd.sli 5:=ID rfl
theorem atL:adW.kd.agg=false:=ID rfl
theorem alo:adW.size=1:=ID rfl
theorem af6:adW.bytes=24:=ID rfl
theorem aHx:qz adW=True:=eq_true rfl
theorem aHy:zc adW=[.v (Value.slice none 0 0)]:=ID rfl
theorem aX3{K:TI→Prop}:@yL Tryz.prog 22 ⟨K⟩=K ti5:=QP aDv rfl tf5
theorem bbJ{K:TI→Prop}:@tyW Tryz.prog 23 ⟨K⟩=K Jz:=qi adX
theorem aHw:Jz.kd=Kd.sli 3:=ID rfl
theorem atm:Jz.kd.agg=false:=ID rfl
theorem ale:Jz.size=1:=ID rfl
theorem afX:Jz.bytes=24:=ID rfl
theorem aHu:qz Jz=True:=eq_true rfl
theorem aHv:zc Jz=[.v (Value.slice none 0 0)]:=ID rfl
theorem aX2{K:TI→Prop}:@yL Tryz.prog 23 ⟨K⟩=K ti3:=QP adX rfl tf3
theorem bbI{K:TI→Prop}:@tyW Tryz.prog 24 ⟨K⟩=K aqE:=qi aV6
theorem aHt:aqE.kd=Kd.stru [(0,23)]:=ID rfl
theorem asU:aqE.kd.agg=true:=ID rfl
theorem ak4:aqE.size=1:=ID rfl
theorem afN:aqE.bytes=24:=ID rfl
theorem aHr:qz aqE=True:=eq_true rfl
theorem aHs:zc aqE=[.v (Value.slice none 0 0)]:=ID rfl
theorem aKB{K:Nat→TI→Prop}:@qC Tryz.prog 24 0 ⟨K⟩=K 0 Jz:=qr (ti:=aqE) (tf:=Jz) (fo:=(0,23)) (fs:=[(0,23)]) aV6 rfl rfl adX
theorem aNL{K:Nat→Nat→Prop}:qs Tryz.prog [(0,23)] 0 K=K 0 1:=qq (tf:=Jz) (fo:=(0,23)) (fs:=[(0,23)]) rfl adX
theorem aOo:∀f∈([(0,23)]:List (Nat×Nat)),(qo Tryz.prog f.2).isSome=true:=by
 intro f hf
 simp only[List.mem_cons,List.not_mem_nil,or_false]at hf
 subst hf;rw[adX];rfl
theorem bap{ps:List (Nat×AV)}{K:AV→Prop}:@zp Tryz.prog 24 ps ⟨K⟩=@zr (qs Tryz.prog [(0,23)]) (zc aqE) ps ⟨fun cs=>K (.ag cs)⟩:=qR aV6 rfl aOo
theorem bbH{K:TI→Prop}:@tyW Tryz.prog 25 ⟨K⟩=K aaj:=qi azJ
theorem aHq:aaj.kd=Kd.stru [(0,23)]:=ID rfl
theorem asy:aaj.kd.agg=true:=ID rfl
theorem akW:aaj.size=1:=ID rfl
theorem afF:aaj.bytes=24:=ID rfl
theorem aHo:qz aaj=True:=eq_true rfl
theorem aHp:zc aaj=[.v (Value.slice none 0 0)]:=ID rfl
theorem aKA{K:Nat→TI→Prop}:@qC Tryz.prog 25 0 ⟨K⟩=K 0 Jz:=qr (ti:=aaj) (tf:=Jz) (fo:=(0,23)) (fs:=[(0,23)]) azJ rfl rfl adX
theorem aNK{K:Nat→Nat→Prop}:qs Tryz.prog [(0,23)] 0 K=K 0 1:=qq (tf:=Jz) (fo:=(0,23)) (fs:=[(0,23)]) rfl adX
theorem aOn:∀f∈([(0,23)]:List (Nat×Nat)),(qo Tryz.prog f.2).isSome=true:=by
 intro f hf
 simp only[List.mem_cons,List.not_mem_nil,or_false]at hf
 subst hf;rw[adX];rfl
theorem bao{ps:List (Nat×AV)}{K:AV→Prop}:@zp Tryz.prog 25 ps ⟨K⟩=@zr (qs Tryz.prog [(0,23)]) (zc aaj) ps ⟨fun cs=>K (.ag cs)⟩:=qR azJ rfl aOn
theorem bbG{K:TI→Prop}:@tyW Tryz.prog 26 ⟨K⟩=K akV:=qi aS6
theorem aHn:akV.kd=Kd.stru [(0,4),(1,25)]:=ID rfl
theorem asc:akV.kd.agg=true:=ID rfl
theorem akN:akV.size=2:=ID rfl
theorem afx:akV.bytes=32:=ID rfl
theorem aHl:qz akV=True:=eq_true rfl
theorem aHm:zc akV=[.v (Value.bool false),.v (Value.slice none 0 0)]:=ID rfl
theorem aKz{K:Nat→TI→Prop}:@qC Tryz.prog 26 0 ⟨K⟩=K 0 ti4:=qr (ti:=akV) (tf:=ti4) (fo:=(0,4)) (fs:=[(0,4),(1,25)]) aS6 rfl rfl tf4
theorem aNJ{K:Nat→Nat→Prop}:qs Tryz.prog [(0,4),(1,25)] 0 K=K 0 1:=qq (tf:=ti4) (fo:=(0,4)) (fs:=[(0,4),(1,25)]) rfl tf4
theorem aKy{K:Nat→TI→Prop}:@qC Tryz.prog 26 1 ⟨K⟩=K 1 aaj:=qr (ti:=akV) (tf:=aaj) (fo:=(1,25)) (fs:=[(0,4),(1,25)]) aS6 rfl rfl azJ
theorem aNI{K:Nat→Nat→Prop}:qs Tryz.prog [(0,4),(1,25)] 1 K=K 1 1:=qq (tf:=aaj) (fo:=(1,25)) (fs:=[(0,4),(1,25)]) rfl azJ
theorem aOm:∀f∈([(0,4),(1,25)]:List (Nat×Nat)),(qo Tryz.prog f.2).isSome=true:=by
 intro f hf
 simp only[List.mem_cons,List.not_mem_nil,or_false]at hf
 rcases hf with rfl|rfl
 ·rw[tf4];rfl
 ·rw[azJ];rfl
theorem ban{ps:List (Nat×AV)}{K:AV→Prop}:@zp Tryz.prog 26 ps ⟨K⟩=@zr (qs Tryz.prog [(0,4),(1,25)]) (zc akV) ps ⟨fun cs=>K (.ag cs)⟩:=qR aS6 rfl aOm
theorem bbF{K:TI→Prop}:@tyW Tryz.prog 27 ⟨K⟩=K Y0:=qi aqF
theorem aHk:Y0.kd=Kd.stru [(0,4),(1,25)]:=ID rfl
theorem ar2:Y0.kd.agg=true:=ID rfl
theorem akJ:Y0.size=2:=ID rfl
theorem aft:Y0.bytes=32:=ID rfl
theorem aHi:qz Y0=True:=eq_true rfl
theorem aHj:zc Y0=[.v (Value.bool false),.v (Value.slice none 0 0)]:=ID rfl
theorem aKx{K:Nat→TI→Prop}:@qC Tryz.prog 27 0 ⟨K⟩=K 0 ti4:=qr (ti:=Y0) (tf:=ti4) (fo:=(0,4)) (fs:=[(0,4),(1,25)]) aqF rfl rfl tf4
theorem aNH{K:Nat→Nat→Prop}:qs Tryz.prog [(0,4),(1,25)] 0 K=K 0 1:=qq (tf:=ti4) (fo:=(0,4)) (fs:=[(0,4),(1,25)]) rfl tf4
theorem aKw{K:Nat→TI→Prop}:@qC Tryz.prog 27 1 ⟨K⟩=K 1 aaj:=qr (ti:=Y0) (tf:=aaj) (fo:=(1,25)) (fs:=[(0,4),(1,25)]) aqF rfl rfl azJ
theorem aNG{K:Nat→Nat→Prop}:qs Tryz.prog [(0,4),(1,25)] 1 K=K 1 1:=qq (tf:=aaj) (fo:=(1,25)) (fs:=[(0,4),(1,25)]) rfl azJ
theorem aOl:∀f∈([(0,4),(1,25)]:List (Nat×Nat)),(qo Tryz.prog f.2).isSome=true:=by
 intro f hf
 simp only[List.mem_cons,List.not_mem_nil,or_false]at hf
 rcases hf with rfl|rfl
 ·rw[tf4];rfl
 ·rw[azJ];rfl
theorem bam{ps:List (Nat×AV)}{K:AV→Prop}:@zp Tryz.prog 27 ps ⟨K⟩=@zr (qs Tryz.prog [(0,4),(1,25)]) (zc Y0) ps ⟨fun cs=>K (.ag cs)⟩:=qR aqF rfl aOl
theorem bbE{K:TI→Prop}:@tyW Tryz.prog 28 ⟨K⟩=K akI:=qi aS5
theorem aHh:akI.kd=Kd.stru [(0,27),(2,3)]:=ID rfl
theorem ar1:akI.kd.agg=true:=ID rfl
theorem akH:akI.size=3:=ID rfl
theorem afs:akI.bytes=40:=ID rfl
theorem aHf:qz akI=True:=eq_true rfl
theorem aHg:zc akI=[.v (Value.bool false),.v (Value.slice none 0 0),.v (Value.int IntKind.i64 0)]:=ID rfl
theorem aKv{K:Nat→TI→Prop}:@qC Tryz.prog 28 0 ⟨K⟩=K 0 Y0:=qr (ti:=akI) (tf:=Y0) (fo:=(0,27)) (fs:=[(0,27),(2,3)]) aS5 rfl rfl aqF
theorem aNF{K:Nat→Nat→Prop}:qs Tryz.prog [(0,27),(2,3)] 0 K=K 0 2:=qq (tf:=Y0) (fo:=(0,27)) (fs:=[(0,27),(2,3)]) rfl aqF
theorem aKu{K:Nat→TI→Prop}:@qC Tryz.prog 28 1 ⟨K⟩=K 2 ti3:=qr (ti:=akI) (tf:=ti3) (fo:=(2,3)) (fs:=[(0,27),(2,3)]) aS5 rfl rfl tf3
theorem aNE{K:Nat→Nat→Prop}:qs Tryz.prog [(0,27),(2,3)] 1 K=K 2 1:=qq (tf:=ti3) (fo:=(2,3)) (fs:=[(0,27),(2,3)]) rfl tf3
theorem aOk:∀f∈([(0,27),(2,3)]:List (Nat×Nat)),(qo Tryz.prog f.2).isSome=true:=by
 intro f hf
 simp only[List.mem_cons,List.not_mem_nil,or_false]at hf
 rcases hf with rfl|rfl
 ·rw[aqF];rfl
 ·rw[tf3];rfl
theorem bal{ps:List (Nat×AV)}{K:AV→Prop}:@zp Tryz.prog 28 ps ⟨K⟩=@zr (qs Tryz.prog [(0,27),(2,3)]) (zc akI) ps ⟨fun cs=>K (.ag cs)⟩:=qR aS5 rfl aOk
theorem bbD{K:TI→Prop}:@tyW Tryz.prog 29 ⟨K⟩=K Q9:=qi Kg
theorem aHe:Q9.kd=Kd.stru [(0,27),(2,3)]:=ID rfl
theorem ar0:Q9.kd.agg=true:=ID rfl
theorem akG:Q9.size=3:=ID rfl
theorem afr:Q9.bytes=40:=ID rfl
theorem aHc:qz Q9=True:=eq_true rfl
theorem aHd:zc Q9=[.v (Value.bool false),.v (Value.slice none 0 0),.v (Value.int IntKind.i64 0)]:=ID rfl
theorem aKt{K:Nat→TI→Prop}:@qC Tryz.prog 29 0 ⟨K⟩=K 0 Y0:=qr (ti:=Q9) (tf:=Y0) (fo:=(0,27)) (fs:=[(0,27),(2,3)]) Kg rfl rfl aqF
theorem aND{K:Nat→Nat→Prop}:qs Tryz.prog [(0,27),(2,3)] 0 K=K 0 2:=qq (tf:=Y0) (fo:=(0,27)) (fs:=[(0,27),(2,3)]) rfl aqF
theorem aKs{K:Nat→TI→Prop}:@qC Tryz.prog 29 1 ⟨K⟩=K 2 ti3:=qr (ti:=Q9) (tf:=ti3) (fo:=(2,3)) (fs:=[(0,27),(2,3)]) Kg rfl rfl tf3
theorem aNC{K:Nat→Nat→Prop}:qs Tryz.prog [(0,27),(2,3)] 1 K=K 2 1:=qq (tf:=ti3) (fo:=(2,3)) (fs:=[(0,27),(2,3)]) rfl tf3
theorem aOj:∀f∈([(0,27),(2,3)]:List (Nat×Nat)),(qo Tryz.prog f.2).isSome=true:=by
 intro f hf
 simp only[List.mem_cons,List.not_mem_nil,or_false]at hf
 rcases hf with rfl|rfl
 ·rw[aqF];rfl
 ·rw[tf3];rfl
theorem bak{ps:List (Nat×AV)}{K:AV→Prop}:@zp Tryz.prog 29 ps ⟨K⟩=@zr (qs Tryz.prog [(0,27),(2,3)]) (zc Q9) ps ⟨fun cs=>K (.ag cs)⟩:=qR Kg rfl aOj
theorem bbC{K:TI→Prop}:@tyW Tryz.prog 31 ⟨K⟩=K aDp:=qi bcA
theorem aHa:aDp.kd=Kd.oth:=ID rfl
theorem arY:aDp.kd.agg=false:=ID rfl
theorem akE:aDp.size=1:=ID rfl
theorem afq:aDp.bytes=8:=ID rfl
theorem aG8:qz aDp=True:=eq_true rfl
theorem aG9:zc aDp=[.v Value.nilFunc]:=ID rfl
theorem bbB{K:TI→Prop}:@tyW Tryz.prog 33 ⟨K⟩=K aDo:=qi bcz
theorem aG7:aDo.kd=Kd.oth:=ID rfl
theorem arX:aDo.kd.agg=false:=ID rfl
theorem akD:aDo.size=1:=ID rfl
theorem afp:aDo.bytes=8:=ID rfl
theorem aG5:qz aDo=True:=eq_true rfl
theorem aG6:zc aDo=[.v Value.nilFunc]:=ID rfl
theorem bbA{K:TI→Prop}:@tyW Tryz.prog 34 ⟨K⟩=K aDn:=qi bcy
theorem aG4:aDn.kd=Kd.oth:=ID rfl
theorem arW:aDn.kd.agg=false:=ID rfl
theorem akC:aDn.size=1:=ID rfl
theorem afo:aDn.bytes=8:=ID rfl
theorem aG2:qz aDn=True:=eq_true rfl
theorem aG3:zc aDn=[.v Value.nilFunc]:=ID rfl
theorem bbz{K:TI→Prop}:@tyW Tryz.prog 35 ⟨K⟩=K aDm:=qi bcx
theorem aG1:aDm.kd=Kd.oth:=ID rfl
theorem arV:aDm.kd.agg=false:=ID rfl
theorem akB:aDm.size=1:=ID rfl
theorem afn:aDm.bytes=8:=ID rfl
theorem aGZ:qz aDm=True:=eq_true rfl
theorem aG0:zc aDm=[.v Value.nilFunc]:=ID rfl
theorem bby{K:TI→Prop}:@tyW Tryz.prog 36 ⟨K⟩=K aDl:=qi bcw
theorem aGY:aDl.kd=Kd.oth:=ID rfl
theorem arU:aDl.kd.agg=false:=ID rfl
theorem akA:aDl.size=1:=ID rfl
theorem afm:aDl.bytes=8:=ID rfl
theorem aGW:qz aDl=True:=eq_true rfl
theorem aGX:zc aDl=[.v Value.nilFunc]:=ID rfl
theorem bbx{K:TI→Prop}:@tyW Tryz.prog 37 ⟨K⟩=K aDk:=qi bcv
theorem aGV:aDk.kd=Kd.oth:=ID rfl
theorem arT:aDk.kd.agg=false:=ID rfl
theorem akz:aDk.size=1:=ID rfl
theorem afl:aDk.bytes=8:=ID rfl
theorem aGT:qz aDk=True:=eq_true rfl
theorem aGU:zc aDk=[.v Value.nilFunc]:=ID rfl
theorem bbw{K:TI→Prop}:@tyW Tryz.prog 38 ⟨K⟩=K aDj:=qi bcu
theorem aGS:aDj.kd=Kd.oth:=ID rfl
theorem arS:aDj.kd.agg=false:=ID rfl
theorem aky:aDj.size=1:=ID rfl
theorem afk:aDj.bytes=8:=ID rfl
theorem aGQ:qz aDj=True:=eq_true rfl
theorem aGR:zc aDj=[.v Value.nilFunc]:=ID rfl
theorem bbv{K:TI→Prop}:@tyW Tryz.prog 39 ⟨K⟩=K aDi:=qi bct
theorem aGP:aDi.kd=Kd.oth:=ID rfl
theorem arR:aDi.kd.agg=false:=ID rfl
theorem akx:aDi.size=1:=ID rfl
theorem afj:aDi.bytes=8:=ID rfl
theorem aGN:qz aDi=True:=eq_true rfl
theorem aGO:zc aDi=[.v Value.nilFunc]:=ID rfl
theorem bbu{K:TI→Prop}:@tyW Tryz.prog 40 ⟨K⟩=K adV:=qi aDu
theorem aGM:adV.kd=Kd.sli 29:=ID rfl
theorem arP:adV.kd.agg=false:=ID rfl
theorem aku:adV.size=1:=ID rfl
theorem afi:adV.bytes=24:=ID rfl
theorem aGK:qz adV=True:=eq_true rfl
theorem aGL:zc adV=[.v (Value.slice none 0 0)]:=ID rfl
theorem aX1{K:TI→Prop}:@yL Tryz.prog 40 ⟨K⟩=K Q9:=QP aDu rfl Kg
theorem bbt{K:TI→Prop}:@tyW Tryz.prog 41 ⟨K⟩=K akt:=qi aS4
theorem aGJ:akt.kd=Kd.stru [(0,3),(1,40)]:=ID rfl
theorem arO:akt.kd.agg=true:=ID rfl
theorem aks:akt.size=2:=ID rfl
theorem afh:akt.bytes=32:=ID rfl
theorem aGH:qz akt=True:=eq_true rfl
theorem aGI:zc akt=[.v (Value.int IntKind.i64 0),.v (Value.slice none 0 0)]:=ID rfl
theorem aKr{K:Nat→TI→Prop}:@qC Tryz.prog 41 0 ⟨K⟩=K 0 ti3:=qr (ti:=akt) (tf:=ti3) (fo:=(0,3)) (fs:=[(0,3),(1,40)]) aS4 rfl rfl tf3
theorem aNB{K:Nat→Nat→Prop}:qs Tryz.prog [(0,3),(1,40)] 0 K=K 0 1:=qq (tf:=ti3) (fo:=(0,3)) (fs:=[(0,3),(1,40)]) rfl tf3
theorem aKq{K:Nat→TI→Prop}:@qC Tryz.prog 41 1 ⟨K⟩=K 1 adV:=qr (ti:=akt) (tf:=adV) (fo:=(1,40)) (fs:=[(0,3),(1,40)]) aS4 rfl rfl aDu
theorem aNA{K:Nat→Nat→Prop}:qs Tryz.prog [(0,3),(1,40)] 1 K=K 1 1:=qq (tf:=adV) (fo:=(1,40)) (fs:=[(0,3),(1,40)]) rfl aDu
theorem aOi:∀f∈([(0,3),(1,40)]:List (Nat×Nat)),(qo Tryz.prog f.2).isSome=true:=by
 intro f hf
 simp only[List.mem_cons,List.not_mem_nil,or_false]at hf
 rcases hf with rfl|rfl
 ·rw[tf3];rfl
 ·rw[aDu];rfl
theorem baj{ps:List (Nat×AV)}{K:AV→Prop}:@zp Tryz.prog 41 ps ⟨K⟩=@zr (qs Tryz.prog [(0,3),(1,40)]) (zc akt) ps ⟨fun cs=>K (.ag cs)⟩:=qR aS4 rfl aOi
theorem bbs{K:TI→Prop}:@tyW Tryz.prog 42 ⟨K⟩=K akr:=qi aS3
theorem aGG:akr.kd=Kd.stru [(0,3),(1,40)]:=ID rfl
theorem arN:akr.kd.agg=true:=ID rfl
theorem akq:akr.size=2:=ID rfl
theorem afg:akr.bytes=32:=ID rfl
theorem aGE:qz akr=True:=eq_true rfl
theorem aGF:zc akr=[.v (Value.int IntKind.i64 0),.v (Value.slice none 0 0)]:=ID rfl
theorem aKp{K:Nat→TI→Prop}:@qC Tryz.prog 42 0 ⟨K⟩=K 0 ti3:=qr (ti:=akr) (tf:=ti3) (fo:=(0,3)) (fs:=[(0,3),(1,40)]) aS3 rfl rfl tf3
theorem aNz{K:Nat→Nat→Prop}:qs Tryz.prog [(0,3),(1,40)] 0 K=K 0 1:=qq (tf:=ti3) (fo:=(0,3)) (fs:=[(0,3),(1,40)]) rfl tf3
theorem aKo{K:Nat→TI→Prop}:@qC Tryz.prog 42 1 ⟨K⟩=K 1 adV:=qr (ti:=akr) (tf:=adV) (fo:=(1,40)) (fs:=[(0,3),(1,40)]) aS3 rfl rfl aDu
theorem aNy{K:Nat→Nat→Prop}:qs Tryz.prog [(0,3),(1,40)] 1 K=K 1 1:=qq (tf:=adV) (fo:=(1,40)) (fs:=[(0,3),(1,40)]) rfl aDu
theorem aOh:∀f∈([(0,3),(1,40)]:List (Nat×Nat)),(qo Tryz.prog f.2).isSome=true:=by
 intro f hf
 simp only[List.mem_cons,List.not_mem_nil,or_false]at hf
 rcases hf with rfl|rfl
 ·rw[tf3];rfl
 ·rw[aDu];rfl
theorem bai{ps:List (Nat×AV)}{K:AV→Prop}:@zp Tryz.prog 42 ps ⟨K⟩=@zr (qs Tryz.prog [(0,3),(1,40)]) (zc akr) ps ⟨fun cs=>K (.ag cs)⟩:=qR aS3 rfl aOh
theorem bbr{K:TI→Prop}:@tyW Tryz.prog 44 ⟨K⟩=K aDh:=qi bcs
theorem aGD:aDh.kd=Kd.oth:=ID rfl
theorem arM:aDh.kd.agg=false:=ID rfl
theorem akp:aDh.size=1:=ID rfl
theorem aff:aDh.bytes=8:=ID rfl
theorem aGB:qz aDh=True:=eq_true rfl
theorem aGC:zc aDh=[.v Value.nilFunc]:=ID rfl
theorem bbq{K:TI→Prop}:@tyW Tryz.prog 45 ⟨K⟩=K aDg:=qi bcr
theorem aGA:aDg.kd=Kd.oth:=ID rfl
theorem arL:aDg.kd.agg=false:=ID rfl
theorem ako:aDg.size=1:=ID rfl
theorem afe:aDg.bytes=8:=ID rfl
theorem aGy:qz aDg=True:=eq_true rfl
theorem aGz:zc aDg=[.v Value.nilFunc]:=ID rfl
theorem bbp{K:TI→Prop}:@tyW Tryz.prog 47 ⟨K⟩=K aDf:=qi bcq
theorem aGx:aDf.kd=Kd.oth:=ID rfl
theorem arK:aDf.kd.agg=false:=ID rfl
theorem akn:aDf.size=1:=ID rfl
theorem afd:aDf.bytes=8:=ID rfl
theorem aGv:qz aDf=True:=eq_true rfl
theorem aGw:zc aDf=[.v Value.nilFunc]:=ID rfl
theorem bbo{K:TI→Prop}:@tyW Tryz.prog 48 ⟨K⟩=K aDe:=qi bcp
theorem aGu:aDe.kd=Kd.oth:=ID rfl
theorem arJ:aDe.kd.agg=false:=ID rfl
theorem akm:aDe.size=1:=ID rfl
theorem afc:aDe.bytes=8:=ID rfl
theorem aGs:qz aDe=True:=eq_true rfl
theorem aGt:zc aDe=[.v Value.nilFunc]:=ID rfl
theorem bbn{K:TI→Prop}:@tyW Tryz.prog 49 ⟨K⟩=K akl:=qi aS2
theorem aGr:akl.kd=Kd.stru [(0,29),(3,29)]:=ID rfl
theorem arI:akl.kd.agg=true:=ID rfl
theorem akk:akl.size=6:=ID rfl
theorem afb:akl.bytes=80:=ID rfl
theorem aGp:qz akl=True:=eq_true rfl
theorem aGq:zc akl=[.v (Value.bool false),.v (Value.slice none 0 0),.v (Value.int IntKind.i64 0),.v (Value.bool false),.v (Value.slice none 0 0),.v (Value.int IntKind.i64 0)]:=ID rfl
theorem aKn{K:Nat→TI→Prop}:@qC Tryz.prog 49 0 ⟨K⟩=K 0 Q9:=qr (ti:=akl) (tf:=Q9) (fo:=(0,29)) (fs:=[(0,29),(3,29)]) aS2 rfl rfl Kg
theorem aNx{K:Nat→Nat→Prop}:qs Tryz.prog [(0,29),(3,29)] 0 K=K 0 3:=qq (tf:=Q9) (fo:=(0,29)) (fs:=[(0,29),(3,29)]) rfl Kg
theorem aKm{K:Nat→TI→Prop}:@qC Tryz.prog 49 1 ⟨K⟩=K 3 Q9:=qr (ti:=akl) (tf:=Q9) (fo:=(3,29)) (fs:=[(0,29),(3,29)]) aS2 rfl rfl Kg
theorem aNw{K:Nat→Nat→Prop}:qs Tryz.prog [(0,29),(3,29)] 1 K=K 3 3:=qq (tf:=Q9) (fo:=(3,29)) (fs:=[(0,29),(3,29)]) rfl Kg
theorem aOg:∀f∈([(0,29),(3,29)]:List (Nat×Nat)),(qo Tryz.prog f.2).isSome=true:=by
 intro f hf
 simp only[List.mem_cons,List.not_mem_nil,or_false]at hf
 rcases hf with rfl|rfl
 ·rw[Kg];rfl
 ·rw[Kg];rfl
theorem bah{ps:List (Nat×AV)}{K:AV→Prop}:@zp Tryz.prog 49 ps ⟨K⟩=@zr (qs Tryz.prog [(0,29),(3,29)]) (zc akl) ps ⟨fun cs=>K (.ag cs)⟩:=qR aS2 rfl aOg
theorem bbm{K:TI→Prop}:@tyW Tryz.prog 50 ⟨K⟩=K ajn:=qi aMC
theorem aGo:ajn.kd=Kd.stru [(0,29),(3,29)]:=ID rfl
theorem arG:ajn.kd.agg=true:=ID rfl
theorem akh:ajn.size=6:=ID rfl
theorem afa:ajn.bytes=80:=ID rfl
theorem aGm:qz ajn=True:=eq_true rfl
theorem aGn:zc ajn=[.v (Value.bool false),.v (Value.slice none 0 0),.v (Value.int IntKind.i64 0),.v (Value.bool false),.v (Value.slice none 0 0),.v (Value.int IntKind.i64 0)]:=ID rfl
theorem aKl{K:Nat→TI→Prop}:@qC Tryz.prog 50 0 ⟨K⟩=K 0 Q9:=qr (ti:=ajn) (tf:=Q9) (fo:=(0,29)) (fs:=[(0,29),(3,29)]) aMC rfl rfl Kg
theorem aNv{K:Nat→Nat→Prop}:qs Tryz.prog [(0,29),(3,29)] 0 K=K 0 3:=qq (tf:=Q9) (fo:=(0,29)) (fs:=[(0,29),(3,29)]) rfl Kg
theorem aKk{K:Nat→TI→Prop}:@qC Tryz.prog 50 1 ⟨K⟩=K 3 Q9:=qr (ti:=ajn) (tf:=Q9) (fo:=(3,29)) (fs:=[(0,29),(3,29)]) aMC rfl rfl Kg
theorem aNu{K:Nat→Nat→Prop}:qs Tryz.prog [(0,29),(3,29)] 1 K=K 3 3:=qq (tf:=Q9) (fo:=(3,29)) (fs:=[(0,29),(3,29)]) rfl Kg
theorem aOf:∀f∈([(0,29),(3,29)]:List (Nat×Nat)),(qo Tryz.prog f.2).isSome=true:=by
 intro f hf
 simp only[List.mem_cons,List.not_mem_nil,or_false]at hf
 rcases hf with rfl|rfl
 ·rw[Kg];rfl
 ·rw[Kg];rfl
theorem bag{ps:List (Nat×AV)}{K:AV→Prop}:@zp Tryz.prog 50 ps ⟨K⟩=@zr (qs Tryz.prog [(0,29),(3,29)]) (zc ajn) ps ⟨fun cs=>K (.ag cs)⟩:=qR aMC rfl aOf
theorem bbl{K:TI→Prop}:@tyW Tryz.prog 52 ⟨K⟩=K aDd:=qi bco
theorem aGl:aDd.kd=Kd.oth:=ID rfl
theorem arF:aDd.kd.agg=false:=ID rfl
theorem akg:aDd.size=1:=ID rfl
theorem ae9:aDd.bytes=8:=ID rfl
theorem aGj:qz aDd=True:=eq_true rfl
theorem aGk:zc aDd=[.v Value.nilFunc]:=ID rfl
theorem bbk{K:TI→Prop}:@tyW Tryz.prog 54 ⟨K⟩=K aDc:=qi bcn
theorem aGi:aDc.kd=Kd.oth:=ID rfl
theorem arE:aDc.kd.agg=false:=ID rfl
theorem akf:aDc.size=1:=ID rfl
theorem ae8:aDc.bytes=8:=ID rfl
theorem aGg:qz aDc=True:=eq_true rfl
theorem aGh:zc aDc=[.v Value.nilFunc]:=ID rfl
theorem bbj{K:TI→Prop}:@tyW Tryz.prog 55 ⟨K⟩=K aDb:=qi bcm
theorem aGf:aDb.kd=Kd.oth:=ID rfl
theorem arD:aDb.kd.agg=false:=ID rfl
theorem ake:aDb.size=1:=ID rfl
theorem ae7:aDb.bytes=8:=ID rfl
theorem aGd:qz aDb=True:=eq_true rfl
theorem aGe:zc aDb=[.v Value.nilFunc]:=ID rfl
theorem bbi{K:TI→Prop}:@tyW Tryz.prog 56 ⟨K⟩=K aDa:=qi bcl
theorem aGc:aDa.kd=Kd.oth:=ID rfl
theorem arC:aDa.kd.agg=false:=ID rfl
theorem akd:aDa.size=1:=ID rfl
theorem ae6:aDa.bytes=8:=ID rfl
theorem aGa:qz aDa=True:=eq_true rfl
theorem aGb:zc aDa=[.v Value.nilFunc]:=ID rfl
theorem bbh{K:TI→Prop}:@tyW Tryz.prog 57 ⟨K⟩=K aC9:=qi bck
theorem aF9:aC9.kd=Kd.oth:=ID rfl
theorem arB:aC9.kd.agg=false:=ID rfl
theorem akc:aC9.size=1:=ID rfl
theorem ae5:aC9.bytes=8:=ID rfl
theorem aF7:qz aC9=True:=eq_true rfl
theorem aF8:zc aC9=[.v Value.nilFunc]:=ID rfl
theorem bbg{K:TI→Prop}:@tyW Tryz.prog 58 ⟨K⟩=K aC8:=qi bcj
theorem aF6:aC8.kd=Kd.oth:=ID rfl
theorem arA:aC8.kd.agg=false:=ID rfl
theorem akb:aC8.size=1:=ID rfl
theorem ae4:aC8.bytes=8:=ID rfl
theorem aF4:qz aC8=True:=eq_true rfl
theorem aF5:zc aC8=[.v Value.nilFunc]:=ID rfl
theorem bbf{K:TI→Prop}:@tyW Tryz.prog 59 ⟨K⟩=K aC7:=qi bci
theorem aF3:aC7.kd=Kd.oth:=ID rfl
theorem arz:aC7.kd.agg=false:=ID rfl
theorem aka:aC7.size=1:=ID rfl
theorem ae3:aC7.bytes=8:=ID rfl
theorem aF1:qz aC7=True:=eq_true rfl
theorem aF2:zc aC7=[.v Value.nilFunc]:=ID rfl
theorem bbe{K:TI→Prop}:@tyW Tryz.prog 60 ⟨K⟩=K aC6:=qi bch
theorem aFZ:aC6.kd=Kd.oth:=ID rfl
theorem arx:aC6.kd.agg=false:=ID rfl
theorem aj8:aC6.size=1:=ID rfl
theorem ae2:aC6.bytes=8:=ID rfl
theorem aFX:qz aC6=True:=eq_true rfl
theorem aFY:zc aC6=[.v Value.nilFunc]:=ID rfl
theorem bbd{K:TI→Prop}:@tyW Tryz.prog 61 ⟨K⟩=K aC5:=qi bcg
theorem aFW:aC5.kd=Kd.oth:=ID rfl
theorem arw:aC5.kd.agg=false:=ID rfl
theorem aj7:aC5.size=1:=ID rfl
theorem ae1:aC5.bytes=8:=ID rfl
theorem aFU:qz aC5=True:=eq_true rfl
theorem aFV:zc aC5=[.v Value.nilFunc]:=ID rfl
theorem bbc{K:TI→Prop}:@tyW Tryz.prog 62 ⟨K⟩=K ae0:=qi aLO
theorem aFT:ae0.kd=Kd.stru [(0,3),(1,4),(2,3),(3,3)]:=ID rfl
theorem arv:ae0.kd.agg=true:=ID rfl
theorem aj6:ae0.size=4:=ID rfl
theorem aeZ:ae0.bytes=32:=ID rfl
theorem aFR:qz ae0=True:=eq_true rfl
theorem aFS:zc ae0=[.v (Value.int IntKind.i64 0),.v (Value.bool false),.v (Value.int IntKind.i64 0),.v (Value.int IntKind.i64 0)]:=ID rfl
theorem aKj{K:Nat→TI→Prop}:@qC Tryz.prog 62 0 ⟨K⟩=K 0 ti3:=qr (ti:=ae0) (tf:=ti3) (fo:=(0,3)) (fs:=[(0,3),(1,4),(2,3),(3,3)]) aLO rfl rfl tf3
theorem aNt{K:Nat→Nat→Prop}:qs Tryz.prog [(0,3),(1,4),(2,3),(3,3)] 0 K=K 0 1:=qq (tf:=ti3) (fo:=(0,3)) (fs:=[(0,3),(1,4),(2,3),(3,3)]) rfl tf3
theorem aKi{K:Nat→TI→Prop}:@qC Tryz.prog 62 1 ⟨K⟩=K 1 ti4:=qr (ti:=ae0) (tf:=ti4) (fo:=(1,4)) (fs:=[(0,3),(1,4),(2,3),(3,3)]) aLO rfl rfl tf4
theorem aNs{K:Nat→Nat→Prop}:qs Tryz.prog [(0,3),(1,4),(2,3),(3,3)] 1 K=K 1 1:=qq (tf:=ti4) (fo:=(1,4)) (fs:=[(0,3),(1,4),(2,3),(3,3)]) rfl tf4
theorem aKh{K:Nat→TI→Prop}:@qC Tryz.prog 62 2 ⟨K⟩=K 2 ti3:=qr (ti:=ae0) (tf:=ti3) (fo:=(2,3)) (fs:=[(0,3),(1,4),(2,3),(3,3)]) aLO rfl rfl tf3
theorem aNr{K:Nat→Nat→Prop}:qs Tryz.prog [(0,3),(1,4),(2,3),(3,3)] 2 K=K 2 1:=qq (tf:=ti3) (fo:=(2,3)) (fs:=[(0,3),(1,4),(2,3),(3,3)]) rfl tf3
theorem aKg{K:Nat→TI→Prop}:@qC Tryz.prog 62 3 ⟨K⟩=K 3 ti3:=qr (ti:=ae0) (tf:=ti3) (fo:=(3,3)) (fs:=[(0,3),(1,4),(2,3),(3,3)]) aLO rfl rfl tf3
theorem aNq{K:Nat→Nat→Prop}:qs Tryz.prog [(0,3),(1,4),(2,3),(3,3)] 3 K=K 3 1:=qq (tf:=ti3) (fo:=(3,3)) (fs:=[(0,3),(1,4),(2,3),(3,3)]) rfl tf3
theorem aOe:∀f∈([(0,3),(1,4),(2,3),(3,3)]:List (Nat×Nat)),(qo Tryz.prog f.2).isSome=true:=by
 intro f hf
 simp only[List.mem_cons,List.not_mem_nil,or_false]at hf
 rcases hf with rfl|rfl|rfl|rfl
 ·rw[tf3];rfl
 ·rw[tf4];rfl
 ·rw[tf3];rfl
 ·rw[tf3];rfl
theorem baf{ps:List (Nat×AV)}{K:AV→Prop}:@zp Tryz.prog 62 ps ⟨K⟩=@zr (qs Tryz.prog [(0,3),(1,4),(2,3),(3,3)]) (zc ae0) ps ⟨fun cs=>K (.ag cs)⟩:=qR aLO rfl aOe
theorem bbb{K:TI→Prop}:@tyW Tryz.prog 63 ⟨K⟩=K adU:=qi aHN
theorem aFQ:adU.kd=Kd.stru [(0,3),(1,4),(2,3),(3,3)]:=ID rfl
theorem aru:adU.kd.agg=true:=ID rfl
theorem aj5:adU.size=4:=ID rfl
theorem aeY:adU.bytes=32:=ID rfl
theorem aFO:qz adU=True:=eq_true rfl
theorem aFP:zc adU=[.v (Value.int IntKind.i64 0),.v (Value.bool false),.v (Value.int IntKind.i64 0),.v (Value.int IntKind.i64 0)]:=ID rfl
theorem aKf{K:Nat→TI→Prop}:@qC Tryz.prog 63 0 ⟨K⟩=K 0 ti3:=qr (ti:=adU) (tf:=ti3) (fo:=(0,3)) (fs:=[(0,3),(1,4),(2,3),(3,3)]) aHN rfl rfl tf3
theorem aNp{K:Nat→Nat→Prop}:qs Tryz.prog [(0,3),(1,4),(2,3),(3,3)] 0 K=K 0 1:=qq (tf:=ti3) (fo:=(0,3)) (fs:=[(0,3),(1,4),(2,3),(3,3)]) rfl tf3
theorem aKe{K:Nat→TI→Prop}:@qC Tryz.prog 63 1 ⟨K⟩=K 1 ti4:=qr (ti:=adU) (tf:=ti4) (fo:=(1,4)) (fs:=[(0,3),(1,4),(2,3),(3,3)]) aHN rfl rfl tf4
theorem aNo{K:Nat→Nat→Prop}:qs Tryz.prog [(0,3),(1,4),(2,3),(3,3)] 1 K=K 1 1:=qq (tf:=ti4) (fo:=(1,4)) (fs:=[(0,3),(1,4),(2,3),(3,3)]) rfl tf4
theorem aKd{K:Nat→TI→Prop}:@qC Tryz.prog 63 2 ⟨K⟩=K 2 ti3:=qr (ti:=adU) (tf:=ti3) (fo:=(2,3)) (fs:=[(0,3),(1,4),(2,3),(3,3)]) aHN rfl rfl tf3
theorem aNn{K:Nat→Nat→Prop}:qs Tryz.prog [(0,3),(1,4),(2,3),(3,3)] 2 K=K 2 1:=qq (tf:=ti3) (fo:=(2,3)) (fs:=[(0,3),(1,4),(2,3),(3,3)]) rfl tf3
theorem aKc{K:Nat→TI→Prop}:@qC Tryz.prog 63 3 ⟨K⟩=K 3 ti3:=qr (ti:=adU) (tf:=ti3) (fo:=(3,3)) (fs:=[(0,3),(1,4),(2,3),(3,3)]) aHN rfl rfl tf3
theorem aNm{K:Nat→Nat→Prop}:qs Tryz.prog [(0,3),(1,4),(2,3),(3,3)] 3 K=K 3 1:=qq (tf:=ti3) (fo:=(3,3)) (fs:=[(0,3),(1,4),(2,3),(3,3)]) rfl tf3
theorem aOd:∀f∈([(0,3),(1,4),(2,3),(3,3)]:List (Nat×Nat)),(qo Tryz.prog f.2).isSome=true:=by
 intro f hf
 simp only[List.mem_cons,List.not_mem_nil,or_false]at hf
 rcases hf with rfl|rfl|rfl|rfl
 ·rw[tf3];rfl
 ·rw[tf4];rfl
 ·rw[tf3];rfl
 ·rw[tf3];rfl
theorem bae{ps:List (Nat×AV)}{K:AV→Prop}:@zp Tryz.prog 63 ps ⟨K⟩=@zr (qs Tryz.prog [(0,3),(1,4),(2,3),(3,3)]) (zc adU) ps ⟨fun cs=>K (.ag cs)⟩:=qR aHN rfl aOd
theorem bba{K:TI→Prop}:@tyW Tryz.prog 65 ⟨K⟩=K aC4:=qi bcf
theorem aFN:aC4.kd=Kd.oth:=ID rfl
theorem art:aC4.kd.agg=false:=ID rfl
theorem aj4:aC4.size=1:=ID rfl
theorem aeX:aC4.bytes=8:=ID rfl
theorem aFL:qz aC4=True:=eq_true rfl
theorem aFM:zc aC4=[.v Value.nilFunc]:=ID rfl
theorem ba9{K:TI→Prop}:@tyW Tryz.prog 67 ⟨K⟩=K aC3:=qi bce
theorem aFK:aC3.kd=Kd.oth:=ID rfl
theorem ars:aC3.kd.agg=false:=ID rfl
theorem aj3:aC3.size=1:=ID rfl
theorem aeW:aC3.bytes=8:=ID rfl
theorem aFI:qz aC3=True:=eq_true rfl
theorem aFJ:zc aC3=[.v Value.nilFunc]:=ID rfl
theorem ba8{K:TI→Prop}:@tyW Tryz.prog 68 ⟨K⟩=K aC2:=qi bcd
theorem aFH:aC2.kd=Kd.oth:=ID rfl
theorem arq:aC2.kd.agg=false:=ID rfl
theorem aj2:aC2.size=1:=ID rfl
theorem aeV:aC2.bytes=8:=ID rfl
theorem aFF:qz aC2=True:=eq_true rfl
theorem aFG:zc aC2=[.v Value.nilFunc]:=ID rfl
theorem ba7{K:TI→Prop}:@tyW Tryz.prog 69 ⟨K⟩=K aC1:=qi bcc
theorem aFE:aC1.kd=Kd.oth:=ID rfl
theorem arp:aC1.kd.agg=false:=ID rfl
theorem aj1:aC1.size=1:=ID rfl
theorem aeU:aC1.bytes=8:=ID rfl
theorem aFC:qz aC1=True:=eq_true rfl
theorem aFD:zc aC1=[.v Value.nilFunc]:=ID rfl
theorem ba6{K:TI→Prop}:@tyW Tryz.prog 70 ⟨K⟩=K aC0:=qi bcb
theorem aFA:aC0.kd=Kd.oth:=ID rfl
theorem arn:aC0.kd.agg=false:=ID rfl
theorem ajZ:aC0.size=1:=ID rfl
theorem aeT:aC0.bytes=8:=ID rfl
theorem aFy:qz aC0=True:=eq_true rfl
theorem aFz:zc aC0=[.v Value.nilFunc]:=ID rfl
theorem ba5{K:TI→Prop}:@tyW Tryz.prog 71 ⟨K⟩=K aCZ:=qi bca
theorem aFx:aCZ.kd=Kd.oth:=ID rfl
theorem arm:aCZ.kd.agg=false:=ID rfl
theorem ajY:aCZ.size=1:=ID rfl
theorem aeS:aCZ.bytes=8:=ID rfl
theorem aFv:qz aCZ=True:=eq_true rfl
theorem aFw:zc aCZ=[.v Value.nilFunc]:=ID rfl
theorem ba4{K:TI→Prop}:@tyW Tryz.prog 72 ⟨K⟩=K aCY:=qi bb9
theorem aFu:aCY.kd=Kd.oth:=ID rfl
theorem arl:aCY.kd.agg=false:=ID rfl
theorem ajX:aCY.size=1:=ID rfl
theorem aeR:aCY.bytes=8:=ID rfl
theorem aFs:qz aCY=True:=eq_true rfl
theorem aFt:zc aCY=[.v Value.nilFunc]:=ID rfl
theorem ba3{K:TI→Prop}:@tyW Tryz.prog 74 ⟨K⟩=K aCX:=qi bb8
theorem aFr:aCX.kd=Kd.oth:=ID rfl
theorem ark:aCX.kd.agg=false:=ID rfl
theorem ajW:aCX.size=1:=ID rfl
theorem aeQ:aCX.bytes=8:=ID rfl
theorem aFp:qz aCX=True:=eq_true rfl
theorem aFq:zc aCX=[.v Value.nilFunc]:=ID rfl
theorem ba2{K:TI→Prop}:@tyW Tryz.prog 76 ⟨K⟩=K aCW:=qi bb7
theorem aFo:aCW.kd=Kd.oth:=ID rfl
theorem arj:aCW.kd.agg=false:=ID rfl
theorem ajV:aCW.size=1:=ID rfl
theorem aeP:aCW.bytes=8:=ID rfl
theorem aFm:qz aCW=True:=eq_true rfl
theorem aFn:zc aCW=[.v Value.nilFunc]:=ID rfl
theorem ba1{K:TI→Prop}:@tyW Tryz.prog 77 ⟨K⟩=K aCV:=qi bb6
theorem aFl:aCV.kd=Kd.oth:=ID rfl
theorem ari:aCV.kd.agg=false:=ID rfl
theorem ajU:aCV.size=1:=ID rfl
theorem aeO:aCV.bytes=8:=ID rfl
theorem aFj:qz aCV=True:=eq_true rfl
theorem aFk:zc aCV=[.v Value.nilFunc]:=ID rfl
theorem ba0{K:TI→Prop}:@tyW Tryz.prog 79 ⟨K⟩=K aCU:=qi bb5
theorem aFi:aCU.kd=Kd.oth:=ID rfl
theorem arh:aCU.kd.agg=false:=ID rfl
theorem ajT:aCU.size=1:=ID rfl
theorem aeN:aCU.bytes=8:=ID rfl
theorem aFg:qz aCU=True:=eq_true rfl
theorem aFh:zc aCU=[.v Value.nilFunc]:=ID rfl
theorem baZ{K:TI→Prop}:@tyW Tryz.prog 80 ⟨K⟩=K aCT:=qi bb4
theorem aFe:aCT.kd=Kd.oth:=ID rfl
theorem arf:aCT.kd.agg=false:=ID rfl
theorem ajR:aCT.size=1:=ID rfl
theorem aeM:aCT.bytes=8:=ID rfl
theorem aFc:qz aCT=True:=eq_true rfl
theorem aFd:zc aCT=[.v Value.nilFunc]:=ID rfl
theorem baY{K:TI→Prop}:@tyW Tryz.prog 82 ⟨K⟩=K aCS:=qi bb3
theorem aFb:aCS.kd=Kd.oth:=ID rfl
theorem ard:aCS.kd.agg=false:=ID rfl
theorem ajQ:aCS.size=1:=ID rfl
theorem aeL:aCS.bytes=8:=ID rfl
theorem aE9:qz aCS=True:=eq_true rfl
theorem aFa:zc aCS=[.v Value.nilFunc]:=ID rfl
theorem baX{K:TI→Prop}:@tyW Tryz.prog 83 ⟨K⟩=K aCR:=qi bb2
theorem aE8:aCR.kd=Kd.oth:=ID rfl
theorem arc:aCR.kd.agg=false:=ID rfl
theorem ajP:aCR.size=1:=ID rfl
theorem aeK:aCR.bytes=8:=ID rfl
theorem aE6:qz aCR=True:=eq_true rfl
theorem aE7:zc aCR=[.v Value.nilFunc]:=ID rfl
theorem baW{K:TI→Prop}:@tyW Tryz.prog 84 ⟨K⟩=K aCQ:=qi bb1
theorem aE5:aCQ.kd=Kd.oth:=ID rfl
theorem arb:aCQ.kd.agg=false:=ID rfl
theorem ajO:aCQ.size=1:=ID rfl
theorem aeJ:aCQ.bytes=8:=ID rfl
theorem aE3:qz aCQ=True:=eq_true rfl
theorem aE4:zc aCQ=[.v Value.nilFunc]:=ID rfl
theorem baV{K:TI→Prop}:@tyW Tryz.prog 85 ⟨K⟩=K aCP:=qi bb0
theorem aE2:aCP.kd=Kd.oth:=ID rfl
theorem ara:aCP.kd.agg=false:=ID rfl
theorem ajN:aCP.size=1:=ID rfl
theorem aeI:aCP.bytes=8:=ID rfl
theorem aE0:qz aCP=True:=eq_true rfl
theorem aE1:zc aCP=[.v Value.nilFunc]:=ID rfl
theorem baU{K:TI→Prop}:@tyW Tryz.prog 86 ⟨K⟩=K aCO:=qi bbZ
theorem aEZ:aCO.kd=Kd.oth:=ID rfl
theorem aq9:aCO.kd.agg=false:=ID rfl
theorem ajM:aCO.size=1:=ID rfl
theorem aeH:aCO.bytes=8:=ID rfl
theorem aEX:qz aCO=True:=eq_true rfl
theorem aEY:zc aCO=[.v Value.nilFunc]:=ID rfl
theorem baT{K:TI→Prop}:@tyW Tryz.prog 87 ⟨K⟩=K aCN:=qi bbY
theorem aEW:aCN.kd=Kd.oth:=ID rfl
theorem aq8:aCN.kd.agg=false:=ID rfl
theorem ajL:aCN.size=1:=ID rfl
theorem aeG:aCN.bytes=8:=ID rfl
theorem aEU:qz aCN=True:=eq_true rfl
theorem aEV:zc aCN=[.v Value.nilFunc]:=ID rfl
theorem baS{K:TI→Prop}:@tyW Tryz.prog 88 ⟨K⟩=K aCM:=qi bbX
theorem aET:aCM.kd=Kd.oth:=ID rfl
theorem aq7:aCM.kd.agg=false:=ID rfl
theorem ajK:aCM.size=1:=ID rfl
theorem aeF:aCM.bytes=8:=ID rfl
theorem aER:qz aCM=True:=eq_true rfl
theorem aES:zc aCM=[.v Value.nilFunc]:=ID rfl
theorem baR{K:TI→Prop}:@tyW Tryz.prog 89 ⟨K⟩=K ajm:=qi aMB
theorem aEQ:ajm.kd=Kd.stru [(0,4),(1,23),(2,3)]:=ID rfl
theorem aq6:ajm.kd.agg=true:=ID rfl
theorem ajJ:ajm.size=3:=ID rfl
theorem aeE:ajm.bytes=40:=ID rfl
theorem aEO:qz ajm=True:=eq_true rfl
theorem aEP:zc ajm=[.v (Value.bool false),.v (Value.slice none 0 0),.v (Value.int IntKind.i64 0)]:=ID rfl
theorem aKb{K:Nat→TI→Prop}:@qC Tryz.prog 89 0 ⟨K⟩=K 0 ti4:=qr (ti:=ajm) (tf:=ti4) (fo:=(0,4)) (fs:=[(0,4),(1,23),(2,3)]) aMB rfl rfl tf4
theorem aNl{K:Nat→Nat→Prop}:qs Tryz.prog [(0,4),(1,23),(2,3)] 0 K=K 0 1:=qq (tf:=ti4) (fo:=(0,4)) (fs:=[(0,4),(1,23),(2,3)]) rfl tf4
theorem aKa{K:Nat→TI→Prop}:@qC Tryz.prog 89 1 ⟨K⟩=K 1 Jz:=qr (ti:=ajm) (tf:=Jz) (fo:=(1,23)) (fs:=[(0,4),(1,23),(2,3)]) aMB rfl rfl adX
theorem aNk{K:Nat→Nat→Prop}:qs Tryz.prog [(0,4),(1,23),(2,3)] 1 K=K 1 1:=qq (tf:=Jz) (fo:=(1,23)) (fs:=[(0,4),(1,23),(2,3)]) rfl adX
theorem aJ9{K:Nat→TI→Prop}:@qC Tryz.prog 89 2 ⟨K⟩=K 2 ti3:=qr (ti:=ajm) (tf:=ti3) (fo:=(2,3)) (fs:=[(0,4),(1,23),(2,3)]) aMB rfl rfl tf3
theorem aNj{K:Nat→Nat→Prop}:qs Tryz.prog [(0,4),(1,23),(2,3)] 2 K=K 2 1:=qq (tf:=ti3) (fo:=(2,3)) (fs:=[(0,4),(1,23),(2,3)]) rfl tf3
theorem aOc:∀f∈([(0,4),(1,23),(2,3)]:List (Nat×Nat)),(qo Tryz.prog f.2).isSome=true:=by
 intro f hf
 simp only[List.mem_cons,List.not_mem_nil,or_false]at hf
 rcases hf with rfl|rfl|rfl
 ·rw[tf4];rfl
 ·rw[adX];rfl
 ·rw[tf3];rfl
theorem bac{ps:List (Nat×AV)}{K:AV→Prop}:@zp Tryz.prog 89 ps ⟨K⟩=@zr (qs Tryz.prog [(0,4),(1,23),(2,3)]) (zc ajm) ps ⟨fun cs=>K (.ag cs)⟩:=qR aMB rfl aOc
theorem baQ{K:TI→Prop}:@tyW Tryz.prog 90 ⟨K⟩=K Q0:=qi YW
theorem aEM:Q0.kd=Kd.stru [(0,4),(1,23),(2,3)]:=ID rfl
theorem aq4:Q0.kd.agg=true:=ID rfl
theorem ajH:Q0.size=3:=ID rfl
theorem aeD:Q0.bytes=40:=ID rfl
theorem aEK:qz Q0=True:=eq_true rfl
theorem aEL:zc Q0=[.v (Value.bool false),.v (Value.slice none 0 0),.v (Value.int IntKind.i64 0)]:=ID rfl
theorem aJ8{K:Nat→TI→Prop}:@qC Tryz.prog 90 0 ⟨K⟩=K 0 ti4:=qr (ti:=Q0) (tf:=ti4) (fo:=(0,4)) (fs:=[(0,4),(1,23),(2,3)]) YW rfl rfl tf4
theorem aNi{K:Nat→Nat→Prop}:qs Tryz.prog [(0,4),(1,23),(2,3)] 0 K=K 0 1:=qq (tf:=ti4) (fo:=(0,4)) (fs:=[(0,4),(1,23),(2,3)]) rfl tf4
theorem aJ7{K:Nat→TI→Prop}:@qC Tryz.prog 90 1 ⟨K⟩=K 1 Jz:=qr (ti:=Q0) (tf:=Jz) (fo:=(1,23)) (fs:=[(0,4),(1,23),(2,3)]) YW rfl rfl adX
theorem aNh{K:Nat→Nat→Prop}:qs Tryz.prog [(0,4),(1,23),(2,3)] 1 K=K 1 1:=qq (tf:=Jz) (fo:=(1,23)) (fs:=[(0,4),(1,23),(2,3)]) rfl adX
theorem aJ6{K:Nat→TI→Prop}:@qC Tryz.prog 90 2 ⟨K⟩=K 2 ti3:=qr (ti:=Q0) (tf:=ti3) (fo:=(2,3)) (fs:=[(0,4),(1,23),(2,3)]) YW rfl rfl tf3
theorem aNg{K:Nat→Nat→Prop}:qs Tryz.prog [(0,4),(1,23),(2,3)] 2 K=K 2 1:=qq (tf:=ti3) (fo:=(2,3)) (fs:=[(0,4),(1,23),(2,3)]) rfl tf3
theorem aOb:∀f∈([(0,4),(1,23),(2,3)]:List (Nat×Nat)),(qo Tryz.prog f.2).isSome=true:=by
 intro f hf
 simp only[List.mem_cons,List.not_mem_nil,or_false]at hf
 rcases hf with rfl|rfl|rfl
 ·rw[tf4];rfl
 ·rw[adX];rfl
 ·rw[tf3];rfl
theorem bab{ps:List (Nat×AV)}{K:AV→Prop}:@zp Tryz.prog 90 ps ⟨K⟩=@zr (qs Tryz.prog [(0,4),(1,23),(2,3)]) (zc Q0) ps ⟨fun cs=>K (.ag cs)⟩:=qR YW rfl aOb
theorem baP{K:TI→Prop}:@tyW Tryz.prog 92 ⟨K⟩=K aCL:=qi bbW
theorem aEJ:aCL.kd=Kd.oth:=ID rfl
theorem aq3:aCL.kd.agg=false:=ID rfl
theorem ajG:aCL.size=1:=ID rfl
theorem aeC:aCL.bytes=8:=ID rfl
theorem aEH:qz aCL=True:=eq_true rfl
theorem aEI:zc aCL=[.v Value.nilFunc]:=ID rfl
theorem baO{K:TI→Prop}:@tyW Tryz.prog 93 ⟨K⟩=K aCK:=qi bbV
theorem aEG:aCK.kd=Kd.oth:=ID rfl
theorem aq2:aCK.kd.agg=false:=ID rfl
theorem ajF:aCK.size=1:=ID rfl
theorem aeB:aCK.bytes=8:=ID rfl
theorem aEE:qz aCK=True:=eq_true rfl
theorem aEF:zc aCK=[.v Value.nilFunc]:=ID rfl
theorem baN{K:TI→Prop}:@tyW Tryz.prog 94 ⟨K⟩=K aCJ:=qi bbU
theorem aED:aCJ.kd=Kd.oth:=ID rfl
theorem aq1:aCJ.kd.agg=false:=ID rfl
theorem ajE:aCJ.size=1:=ID rfl
theorem aeA:aCJ.bytes=8:=ID rfl
theorem aEB:qz aCJ=True:=eq_true rfl
theorem aEC:zc aCJ=[.v Value.nilFunc]:=ID rfl
theorem baM{K:TI→Prop}:@tyW Tryz.prog 95 ⟨K⟩=K aCI:=qi bbT
theorem aEA:aCI.kd=Kd.oth:=ID rfl
theorem aq0:aCI.kd.agg=false:=ID rfl
theorem ajD:aCI.size=1:=ID rfl
theorem aez:aCI.bytes=8:=ID rfl
theorem aEy:qz aCI=True:=eq_true rfl
theorem aEz:zc aCI=[.v Value.nilFunc]:=ID rfl
theorem baL{K:TI→Prop}:@tyW Tryz.prog 97 ⟨K⟩=K aCH:=qi bbS
theorem aEx:aCH.kd=Kd.oth:=ID rfl
theorem aqZ:aCH.kd.agg=false:=ID rfl
theorem ajC:aCH.size=1:=ID rfl
theorem aey:aCH.bytes=8:=ID rfl
theorem aEv:qz aCH=True:=eq_true rfl
theorem aEw:zc aCH=[.v Value.nilFunc]:=ID rfl
theorem baK{K:TI→Prop}:@tyW Tryz.prog 98 ⟨K⟩=K aCG:=qi bbR
theorem aEu:aCG.kd=Kd.oth:=ID rfl
theorem aqY:aCG.kd.agg=false:=ID rfl
theorem ajB:aCG.size=1:=ID rfl
theorem aex:aCG.bytes=8:=ID rfl
theorem aEs:qz aCG=True:=eq_true rfl
theorem aEt:zc aCG=[.v Value.nilFunc]:=ID rfl
theorem baJ{K:TI→Prop}:@tyW Tryz.prog 99 ⟨K⟩=K aCF:=qi bbQ
theorem aEr:aCF.kd=Kd.oth:=ID rfl
theorem aqX:aCF.kd.agg=false:=ID rfl
theorem ajA:aCF.size=1:=ID rfl
theorem aew:aCF.bytes=8:=ID rfl
theorem aEp:qz aCF=True:=eq_true rfl
theorem aEq:zc aCF=[.v Value.nilFunc]:=ID rfl
theorem aVF{K:TI→Prop}:@tyW Tryz.prog 100 ⟨K⟩=K yU:=qi J3
theorem azG:yU.kd=Kd.sli 90:=ID rfl
theorem ant:yU.kd.agg=false:=ID rfl
theorem ah7:yU.size=1:=ID rfl
theorem acU:yU.bytes=24:=ID rfl
theorem azE:qz yU=True:=eq_true rfl
theorem azF:zc yU=[.v (Value.slice none 0 0)]:=ID rfl
theorem aMY{K:TI→Prop}:@yL Tryz.prog 100 ⟨K⟩=K Q0:=QP J3 rfl YW
theorem aVE{K:TI→Prop}:@tyW Tryz.prog 101 ⟨K⟩=K Zq:=qi azQ
theorem azD:Zq.kd=Kd.stru [(0,3),(1,100)]:=ID rfl
theorem ans:Zq.kd.agg=true:=ID rfl
theorem ah6:Zq.size=2:=ID rfl
theorem acT:Zq.bytes=32:=ID rfl
theorem azB:qz Zq=True:=eq_true rfl
theorem azC:zc Zq=[.v (Value.int IntKind.i64 0),.v (Value.slice none 0 0)]:=ID rfl
theorem aBA{K:Nat→TI→Prop}:@qC Tryz.prog 101 0 ⟨K⟩=K 0 ti3:=qr (ti:=Zq) (tf:=ti3) (fo:=(0,3)) (fs:=[(0,3),(1,100)]) azQ rfl rfl tf3
theorem aIM{K:Nat→Nat→Prop}:qs Tryz.prog [(0,3),(1,100)] 0 K=K 0 1:=qq (tf:=ti3) (fo:=(0,3)) (fs:=[(0,3),(1,100)]) rfl tf3
theorem aBz{K:Nat→TI→Prop}:@qC Tryz.prog 101 1 ⟨K⟩=K 1 yU:=qr (ti:=Zq) (tf:=yU) (fo:=(1,100)) (fs:=[(0,3),(1,100)]) azQ rfl rfl J3
theorem aIL{K:Nat→Nat→Prop}:qs Tryz.prog [(0,3),(1,100)] 1 K=K 1 1:=qq (tf:=yU) (fo:=(1,100)) (fs:=[(0,3),(1,100)]) rfl J3
theorem aJ0:∀f∈([(0,3),(1,100)]:List (Nat×Nat)),(qo Tryz.prog f.2).isSome=true:=by
 intro f hf
 simp only[List.mem_cons,List.not_mem_nil,or_false]at hf
 rcases hf with rfl|rfl
 ·rw[tf3];rfl
 ·rw[J3];rfl
theorem aSA{ps:List (Nat×AV)}{K:AV→Prop}:@zp Tryz.prog 101 ps ⟨K⟩=@zr (qs Tryz.prog [(0,3),(1,100)]) (zc Zq) ps ⟨fun cs=>K (.ag cs)⟩:=qR azQ rfl aJ0
theorem aVD{K:TI→Prop}:@tyW Tryz.prog 102 ⟨K⟩=K Zp:=qi azP
theorem azA:Zp.kd=Kd.stru [(0,3),(1,100)]:=ID rfl
theorem anr:Zp.kd.agg=true:=ID rfl
theorem ah5:Zp.size=2:=ID rfl
theorem acS:Zp.bytes=32:=ID rfl
theorem azy:qz Zp=True:=eq_true rfl
theorem azz:zc Zp=[.v (Value.int IntKind.i64 0),.v (Value.slice none 0 0)]:=ID rfl
theorem aBy{K:Nat→TI→Prop}:@qC Tryz.prog 102 0 ⟨K⟩=K 0 ti3:=qr (ti:=Zp) (tf:=ti3) (fo:=(0,3)) (fs:=[(0,3),(1,100)]) azP rfl rfl tf3
theorem aIK{K:Nat→Nat→Prop}:qs Tryz.prog [(0,3),(1,100)] 0 K=K 0 1:=qq (tf:=ti3) (fo:=(0,3)) (fs:=[(0,3),(1,100)]) rfl tf3
theorem aBx{K:Nat→TI→Prop}:@qC Tryz.prog 102 1 ⟨K⟩=K 1 yU:=qr (ti:=Zp) (tf:=yU) (fo:=(1,100)) (fs:=[(0,3),(1,100)]) azP rfl rfl J3
theorem aIJ{K:Nat→Nat→Prop}:qs Tryz.prog [(0,3),(1,100)] 1 K=K 1 1:=qq (tf:=yU) (fo:=(1,100)) (fs:=[(0,3),(1,100)]) rfl J3
theorem aJZ:∀f∈([(0,3),(1,100)]:List (Nat×Nat)),(qo Tryz.prog f.2).isSome=true:=by
 intro f hf
 simp only[List.mem_cons,List.not_mem_nil,or_false]at hf
 rcases hf with rfl|rfl
 ·rw[tf3];rfl
 ·rw[J3];rfl
theorem aSz{ps:List (Nat×AV)}{K:AV→Prop}:@zp Tryz.prog 102 ps ⟨K⟩=@zr (qs Tryz.prog [(0,3),(1,100)]) (zc Zp) ps ⟨fun cs=>K (.ag cs)⟩:=qR azP rfl aJZ
theorem aVC{K:TI→Prop}:@tyW Tryz.prog 103 ⟨K⟩=K Kf:=qi aXV
theorem azx:Kf.kd=Kd.oth:=ID rfl
theorem anq:Kf.kd.agg=false:=ID rfl
theorem ah4:Kf.size=1:=ID rfl
theorem acR:Kf.bytes=8:=ID rfl
theorem azv:qz Kf=True:=eq_true rfl
theorem azw:zc Kf=[.v Value.nilFunc]:=ID rfl
theorem aVB{K:TI→Prop}:@tyW Tryz.prog 104 ⟨K⟩=K Ke:=qi aXU
theorem azu:Ke.kd=Kd.oth:=ID rfl
theorem anp:Ke.kd.agg=false:=ID rfl
theorem ah3:Ke.size=1:=ID rfl
theorem acQ:Ke.bytes=8:=ID rfl
theorem azs:qz Ke=True:=eq_true rfl
theorem azt:zc Ke=[.v Value.nilFunc]:=ID rfl
theorem aVA{K:TI→Prop}:@tyW Tryz.prog 105 ⟨K⟩=K Kc:=qi aXT
theorem azr:Kc.kd=Kd.oth:=ID rfl
theorem ano:Kc.kd.agg=false:=ID rfl
theorem ah2:Kc.size=1:=ID rfl
theorem acP:Kc.bytes=8:=ID rfl
theorem azp:qz Kc=True:=eq_true rfl
theorem azq:zc Kc=[.v Value.nilFunc]:=ID rfl
theorem aVz{K:TI→Prop}:@tyW Tryz.prog 106 ⟨K⟩=K Kb:=qi aXS
theorem azo:Kb.kd=Kd.oth:=ID rfl
theorem ann:Kb.kd.agg=false:=ID rfl
theorem ah1:Kb.size=1:=ID rfl
theorem acO:Kb.bytes=8:=ID rfl
theorem azm:qz Kb=True:=eq_true rfl
theorem azn:zc Kb=[.v Value.nilFunc]:=ID rfl
theorem aVy{K:TI→Prop}:@tyW Tryz.prog 107 ⟨K⟩=K Ka:=qi aXR
theorem azl:Ka.kd=Kd.oth:=ID rfl
theorem anm:Ka.kd.agg=false:=ID rfl
theorem ah0:Ka.size=1:=ID rfl
theorem acN:Ka.bytes=8:=ID rfl
theorem azj:qz Ka=True:=eq_true rfl
theorem azk:zc Ka=[.v Value.nilFunc]:=ID rfl
theorem aVx{K:TI→Prop}:@tyW Tryz.prog 108 ⟨K⟩=K V9:=qi aXQ
theorem azi:V9.kd=Kd.oth:=ID rfl
theorem anl:V9.kd.agg=false:=ID rfl
theorem ahZ:V9.size=1:=ID rfl
theorem acM:V9.bytes=8:=ID rfl
theorem azg:qz V9=True:=eq_true rfl
theorem azh:zc V9=[.v Value.nilFunc]:=ID rfl
theorem aVw{K:TI→Prop}:@tyW Tryz.prog 109 ⟨K⟩=K V8:=qi aXP
theorem azf:V8.kd=Kd.oth:=ID rfl
theorem ank:V8.kd.agg=false:=ID rfl
theorem ahY:V8.size=1:=ID rfl
theorem acL:V8.bytes=8:=ID rfl
theorem azd:qz V8=True:=eq_true rfl
theorem aze:zc V8=[.v Value.nilFunc]:=ID rfl
theorem aVv{K:TI→Prop}:@tyW Tryz.prog 110 ⟨K⟩=K Zo:=qi azO
theorem azb:Zo.kd=Kd.stru [(0,90),(3,90)]:=ID rfl
theorem ani:Zo.kd.agg=true:=ID rfl
theorem ahW:Zo.size=6:=ID rfl
theorem acK:Zo.bytes=80:=ID rfl
theorem ay9:qz Zo=True:=eq_true rfl
theorem aza:zc Zo=[.v (Value.bool false),.v (Value.slice none 0 0),.v (Value.int IntKind.i64 0),.v (Value.bool false),.v (Value.slice none 0 0),.v (Value.int IntKind.i64 0)]:=ID rfl
theorem aBw{K:Nat→TI→Prop}:@qC Tryz.prog 110 0 ⟨K⟩=K 0 Q0:=qr (ti:=Zo) (tf:=Q0) (fo:=(0,90)) (fs:=[(0,90),(3,90)]) azO rfl rfl YW
theorem aII{K:Nat→Nat→Prop}:qs Tryz.prog [(0,90),(3,90)] 0 K=K 0 3:=qq (tf:=Q0) (fo:=(0,90)) (fs:=[(0,90),(3,90)]) rfl YW
theorem aBv{K:Nat→TI→Prop}:@qC Tryz.prog 110 1 ⟨K⟩=K 3 Q0:=qr (ti:=Zo) (tf:=Q0) (fo:=(3,90)) (fs:=[(0,90),(3,90)]) azO rfl rfl YW
theorem aIH{K:Nat→Nat→Prop}:qs Tryz.prog [(0,90),(3,90)] 1 K=K 3 3:=qq (tf:=Q0) (fo:=(3,90)) (fs:=[(0,90),(3,90)]) rfl YW
theorem aJY:∀f∈([(0,90),(3,90)]:List (Nat×Nat)),(qo Tryz.prog f.2).isSome=true:=by
 intro f hf
 simp only[List.mem_cons,List.not_mem_nil,or_false]at hf
 rcases hf with rfl|rfl
 ·rw[YW];rfl
 ·rw[YW];rfl
theorem aSy{ps:List (Nat×AV)}{K:AV→Prop}:@zp Tryz.prog 110 ps ⟨K⟩=@zr (qs Tryz.prog [(0,90),(3,90)]) (zc Zo) ps ⟨fun cs=>K (.ag cs)⟩:=qR azO rfl aJY
theorem aVu{K:TI→Prop}:@tyW Tryz.prog 111 ⟨K⟩=K Q3:=qi anx
theorem ay8:Q3.kd=Kd.stru [(0,90),(3,90)]:=ID rfl
theorem anh:Q3.kd.agg=true:=ID rfl
theorem ahV:Q3.size=6:=ID rfl
theorem acJ:Q3.bytes=80:=ID rfl
theorem ay6:qz Q3=True:=eq_true rfl
theorem ay7:zc Q3=[.v (Value.bool false),.v (Value.slice none 0 0),.v (Value.int IntKind.i64 0),.v (Value.bool false),.v (Value.slice none 0 0),.v (Value.int IntKind.i64 0)]:=ID rfl
theorem aBu{K:Nat→TI→Prop}:@qC Tryz.prog 111 0 ⟨K⟩=K 0 Q0:=qr (ti:=Q3) (tf:=Q0) (fo:=(0,90)) (fs:=[(0,90),(3,90)]) anx rfl rfl YW
theorem aIG{K:Nat→Nat→Prop}:qs Tryz.prog [(0,90),(3,90)] 0 K=K 0 3:=qq (tf:=Q0) (fo:=(0,90)) (fs:=[(0,90),(3,90)]) rfl YW
theorem aBt{K:Nat→TI→Prop}:@qC Tryz.prog 111 1 ⟨K⟩=K 3 Q0:=qr (ti:=Q3) (tf:=Q0) (fo:=(3,90)) (fs:=[(0,90),(3,90)]) anx rfl rfl YW
theorem aIF{K:Nat→Nat→Prop}:qs Tryz.prog [(0,90),(3,90)] 1 K=K 3 3:=qq (tf:=Q0) (fo:=(3,90)) (fs:=[(0,90),(3,90)]) rfl YW
theorem aJX:∀f∈([(0,90),(3,90)]:List (Nat×Nat)),(qo Tryz.prog f.2).isSome=true:=by
 intro f hf
 simp only[List.mem_cons,List.not_mem_nil,or_false]at hf
 rcases hf with rfl|rfl
 ·rw[YW];rfl
 ·rw[YW];rfl
theorem aSx{ps:List (Nat×AV)}{K:AV→Prop}:@zp Tryz.prog 111 ps ⟨K⟩=@zr (qs Tryz.prog [(0,90),(3,90)]) (zc Q3) ps ⟨fun cs=>K (.ag cs)⟩:=qR anx rfl aJX
theorem aVt{K:TI→Prop}:@tyW Tryz.prog 113 ⟨K⟩=K V7:=qi aXO
theorem ay5:V7.kd=Kd.oth:=ID rfl
theorem ang:V7.kd.agg=false:=ID rfl
theorem ahU:V7.size=1:=ID rfl
theorem acI:V7.bytes=8:=ID rfl
theorem ay3:qz V7=True:=eq_true rfl
theorem ay4:zc V7=[.v Value.nilFunc]:=ID rfl
theorem aVs{K:TI→Prop}:@tyW Tryz.prog 114 ⟨K⟩=K V6:=qi aXN
theorem ay2:V6.kd=Kd.oth:=ID rfl
theorem anf:V6.kd.agg=false:=ID rfl
theorem ahT:V6.size=1:=ID rfl
theorem acH:V6.bytes=8:=ID rfl
theorem ay0:qz V6=True:=eq_true rfl
theorem ay1:zc V6=[.v Value.nilFunc]:=ID rfl
theorem aVr{K:TI→Prop}:@tyW Tryz.prog 115 ⟨K⟩=K V5:=qi aXM
theorem ayZ:V5.kd=Kd.oth:=ID rfl
theorem ane:V5.kd.agg=false:=ID rfl
theorem ahS:V5.size=1:=ID rfl
theorem acG:V5.bytes=8:=ID rfl
theorem ayX:qz V5=True:=eq_true rfl
theorem ayY:zc V5=[.v Value.nilFunc]:=ID rfl
theorem aVq{K:TI→Prop}:@tyW Tryz.prog 116 ⟨K⟩=K V4:=qi aXL
theorem ayW:V4.kd=Kd.oth:=ID rfl
theorem anc:V4.kd.agg=false:=ID rfl
theorem ahR:V4.size=1:=ID rfl
theorem acF:V4.bytes=8:=ID rfl
theorem ayU:qz V4=True:=eq_true rfl
theorem ayV:zc V4=[.v Value.nilFunc]:=ID rfl
theorem aVp{K:TI→Prop}:@tyW Tryz.prog 117 ⟨K⟩=K V3:=qi aXK
theorem ayT:V3.kd=Kd.oth:=ID rfl
theorem anb:V3.kd.agg=false:=ID rfl
theorem ahQ:V3.size=1:=ID rfl
theorem acE:V3.bytes=8:=ID rfl
theorem ayR:qz V3=True:=eq_true rfl
theorem ayS:zc V3=[.v Value.nilFunc]:=ID rfl
theorem aVo{K:TI→Prop}:@tyW Tryz.prog 118 ⟨K⟩=K V2:=qi aXJ
theorem ayQ:V2.kd=Kd.oth:=ID rfl
theorem ana:V2.kd.agg=false:=ID rfl
theorem ahP:V2.size=1:=ID rfl
theorem acD:V2.bytes=8:=ID rfl
theorem ayO:qz V2=True:=eq_true rfl
theorem ayP:zc V2=[.v Value.nilFunc]:=ID rfl
theorem aVn{K:TI→Prop}:@tyW Tryz.prog 119 ⟨K⟩=K V1:=qi aXI
theorem ayN:V1.kd=Kd.oth:=ID rfl
theorem am9:V1.kd.agg=false:=ID rfl
theorem ahO:V1.size=1:=ID rfl
theorem acC:V1.bytes=8:=ID rfl
theorem ayL:qz V1=True:=eq_true rfl
theorem ayM:zc V1=[.v Value.nilFunc]:=ID rfl
theorem aVm{K:TI→Prop}:@tyW Tryz.prog 120 ⟨K⟩=K V0:=qi aXH
theorem ayJ:V0.kd=Kd.oth:=ID rfl
theorem am7:V0.kd.agg=false:=ID rfl
theorem ahM:V0.size=1:=ID rfl
theorem acB:V0.bytes=8:=ID rfl
theorem ayH:qz V0=True:=eq_true rfl
theorem ayI:zc V0=[.v Value.nilFunc]:=ID rfl
theorem aVl{K:TI→Prop}:@tyW Tryz.prog 121 ⟨K⟩=K VZ:=qi aXG
theorem ayG:VZ.kd=Kd.oth:=ID rfl
theorem am6:VZ.kd.agg=false:=ID rfl
theorem ahL:VZ.size=1:=ID rfl
theorem acA:VZ.bytes=8:=ID rfl
theorem ayE:qz VZ=True:=eq_true rfl
theorem ayF:zc VZ=[.v Value.nilFunc]:=ID rfl
theorem aVk{K:TI→Prop}:@tyW Tryz.prog 122 ⟨K⟩=K VY:=qi aXF
theorem ayD:VY.kd=Kd.oth:=ID rfl
theorem am5:VY.kd.agg=false:=ID rfl
theorem ahK:VY.size=1:=ID rfl
theorem acz:VY.bytes=8:=ID rfl
theorem ayB:qz VY=True:=eq_true rfl
theorem ayC:zc VY=[.v Value.nilFunc]:=ID rfl
theorem aVj{K:TI→Prop}:@tyW Tryz.prog 123 ⟨K⟩=K VX:=qi aXE
theorem ayA:VX.kd=Kd.oth:=ID rfl
theorem am4:VX.kd.agg=false:=ID rfl
theorem ahJ:VX.size=1:=ID rfl
theorem acy:VX.bytes=8:=ID rfl
theorem ayy:qz VX=True:=eq_true rfl
theorem ayz:zc VX=[.v Value.nilFunc]:=ID rfl
theorem aVi{K:TI→Prop}:@tyW Tryz.prog 124 ⟨K⟩=K VW:=qi aXD
theorem ayx:VW.kd=Kd.oth:=ID rfl
theorem am3:VW.kd.agg=false:=ID rfl
theorem ahI:VW.size=1:=ID rfl
theorem acx:VW.bytes=8:=ID rfl
theorem ayv:qz VW=True:=eq_true rfl
theorem ayw:zc VW=[.v Value.nilFunc]:=ID rfl
theorem aVh{K:TI→Prop}:@tyW Tryz.prog 125 ⟨K⟩=K VV:=qi aXC
theorem ayu:VV.kd=Kd.oth:=ID rfl
theorem am2:VV.kd.agg=false:=ID rfl
theorem ahH:VV.size=1:=ID rfl
theorem acw:VV.bytes=8:=ID rfl
theorem ays:qz VV=True:=eq_true rfl
theorem ayt:zc VV=[.v Value.nilFunc]:=ID rfl
theorem aVg{K:TI→Prop}:@tyW Tryz.prog 126 ⟨K⟩=K VU:=qi aXB
theorem ayr:VU.kd=Kd.oth:=ID rfl
theorem am1:VU.kd.agg=false:=ID rfl
theorem ahG:VU.size=1:=ID rfl
theorem acv:VU.bytes=8:=ID rfl
theorem ayp:qz VU=True:=eq_true rfl
theorem ayq:zc VU=[.v Value.nilFunc]:=ID rfl
theorem aVf{K:TI→Prop}:@tyW Tryz.prog 127 ⟨K⟩=K VT:=qi aXA
theorem ayo:VT.kd=Kd.oth:=ID rfl
theorem am0:VT.kd.agg=false:=ID rfl
theorem ahF:VT.size=1:=ID rfl
theorem acu:VT.bytes=8:=ID rfl
theorem aym:qz VT=True:=eq_true rfl
theorem ayn:zc VT=[.v Value.nilFunc]:=ID rfl
theorem aVe{K:TI→Prop}:@tyW Tryz.prog 128 ⟨K⟩=K VS:=qi aXz
theorem ayl:VS.kd=Kd.oth:=ID rfl
theorem amZ:VS.kd.agg=false:=ID rfl
theorem ahE:VS.size=1:=ID rfl
theorem act:VS.bytes=8:=ID rfl
theorem ayj:qz VS=True:=eq_true rfl
theorem ayk:zc VS=[.v Value.nilFunc]:=ID rfl
theorem aVd{K:TI→Prop}:@tyW Tryz.prog 129 ⟨K⟩=K VR:=qi aXy
theorem ayi:VR.kd=Kd.oth:=ID rfl
theorem amY:VR.kd.agg=false:=ID rfl
theorem ahD:VR.size=1:=ID rfl
theorem acs:VR.bytes=8:=ID rfl
theorem ayg:qz VR=True:=eq_true rfl
theorem ayh:zc VR=[.v Value.nilFunc]:=ID rfl
theorem aVc{K:TI→Prop}:@tyW Tryz.prog 130 ⟨K⟩=K VQ:=qi aXx
theorem aye:VQ.kd=Kd.oth:=ID rfl
theorem amW:VQ.kd.agg=false:=ID rfl
theorem ahB:VQ.size=1:=ID rfl
theorem acr:VQ.bytes=8:=ID rfl
theorem ayc:qz VQ=True:=eq_true rfl
theorem ayd:zc VQ=[.v Value.nilFunc]:=ID rfl
theorem aVb{K:TI→Prop}:@tyW Tryz.prog 131 ⟨K⟩=K VP:=qi aXw
theorem ayb:VP.kd=Kd.oth:=ID rfl
theorem amV:VP.kd.agg=false:=ID rfl
theorem ahA:VP.size=1:=ID rfl
theorem acq:VP.bytes=8:=ID rfl
theorem ax9:qz VP=True:=eq_true rfl
theorem aya:zc VP=[.v Value.nilFunc]:=ID rfl
theorem aVa{K:TI→Prop}:@tyW Tryz.prog 132 ⟨K⟩=K VO:=qi aXv
theorem ax8:VO.kd=Kd.int IntKind.u64:=ID rfl
theorem amU:VO.kd.agg=false:=ID rfl
theorem ahz:VO.size=1:=ID rfl
theorem acp:VO.bytes=8:=ID rfl
theorem ax6:qz VO=True:=eq_true rfl
theorem ax7:zc VO=[.v (Value.int IntKind.u64 0)]:=ID rfl
theorem aU9{K:TI→Prop}:@tyW Tryz.prog 133 ⟨K⟩=K VN:=qi aXu
theorem ax5:VN.kd=Kd.oth:=ID rfl
theorem amT:VN.kd.agg=false:=ID rfl
theorem ahy:VN.size=1:=ID rfl
theorem aco:VN.bytes=8:=ID rfl
theorem ax3:qz VN=True:=eq_true rfl
theorem ax4:zc VN=[.v Value.nilFunc]:=ID rfl
theorem aU8{K:TI→Prop}:@tyW Tryz.prog 135 ⟨K⟩=K VM:=qi aXt
theorem ax2:VM.kd=Kd.oth:=ID rfl
theorem amS:VM.kd.agg=false:=ID rfl
theorem ahx:VM.size=1:=ID rfl
theorem acn:VM.bytes=8:=ID rfl
theorem ax0:qz VM=True:=eq_true rfl
theorem ax1:zc VM=[.v Value.nilFunc]:=ID rfl
theorem aU7{K:TI→Prop}:@tyW Tryz.prog 136 ⟨K⟩=K VL:=qi aXs
theorem axZ:VL.kd=Kd.oth:=ID rfl
theorem amR:VL.kd.agg=false:=ID rfl
theorem ahw:VL.size=1:=ID rfl
theorem acm:VL.bytes=8:=ID rfl
theorem axX:qz VL=True:=eq_true rfl
theorem axY:zc VL=[.v Value.nilFunc]:=ID rfl
theorem aU6{K:TI→Prop}:@tyW Tryz.prog 137 ⟨K⟩=K VK:=qi aXr
theorem axW:VK.kd=Kd.oth:=ID rfl
theorem amQ:VK.kd.agg=false:=ID rfl
theorem ahv:VK.size=1:=ID rfl
theorem acl:VK.bytes=8:=ID rfl
theorem axU:qz VK=True:=eq_true rfl
theorem axV:zc VK=[.v Value.nilFunc]:=ID rfl
theorem aU5{K:TI→Prop}:@tyW Tryz.prog 138 ⟨K⟩=K VJ:=qi aXq
theorem axT:VJ.kd=Kd.oth:=ID rfl
theorem amP:VJ.kd.agg=false:=ID rfl
theorem ahu:VJ.size=1:=ID rfl
theorem ack:VJ.bytes=8:=ID rfl
theorem axR:qz VJ=True:=eq_true rfl
theorem axS:zc VJ=[.v Value.nilFunc]:=ID rfl
theorem aU4{K:TI→Prop}:@tyW Tryz.prog 139 ⟨K⟩=K VI:=qi aXp
theorem axQ:VI.kd=Kd.oth:=ID rfl
theorem amO:VI.kd.agg=false:=ID rfl
theorem aht:VI.size=1:=ID rfl
theorem acj:VI.bytes=8:=ID rfl
theorem axO:qz VI=True:=eq_true rfl
theorem axP:zc VI=[.v Value.nilFunc]:=ID rfl
theorem aU3{K:TI→Prop}:@tyW Tryz.prog 140 ⟨K⟩=K VH:=qi aXo
theorem axN:VH.kd=Kd.oth:=ID rfl
theorem amN:VH.kd.agg=false:=ID rfl
theorem ahs:VH.size=1:=ID rfl
theorem aci:VH.bytes=8:=ID rfl
theorem axL:qz VH=True:=eq_true rfl
theorem axM:zc VH=[.v Value.nilFunc]:=ID rfl
theorem aU2{K:TI→Prop}:@tyW Tryz.prog 141 ⟨K⟩=K VG:=qi aXn
theorem axK:VG.kd=Kd.oth:=ID rfl
theorem amM:VG.kd.agg=false:=ID rfl
theorem ahr:VG.size=1:=ID rfl
theorem ach:VG.bytes=8:=ID rfl
theorem axI:qz VG=True:=eq_true rfl
theorem axJ:zc VG=[.v Value.nilFunc]:=ID rfl
theorem aU1{K:TI→Prop}:@tyW Tryz.prog 142 ⟨K⟩=K Q2:=qi anw
theorem axH:Q2.kd=Kd.stru [(0,22),(1,3),(2,3)]:=ID rfl
theorem amL:Q2.kd.agg=true:=ID rfl
theorem ahq:Q2.size=3:=ID rfl
theorem acg:Q2.bytes=40:=ID rfl
theorem axF:qz Q2=True:=eq_true rfl
theorem axG:zc Q2=[.v (Value.slice none 0 0),.v (Value.int IntKind.i64 0),.v (Value.int IntKind.i64 0)]:=ID rfl
theorem aBs{K:Nat→TI→Prop}:@qC Tryz.prog 142 0 ⟨K⟩=K 0 adW:=qr (ti:=Q2) (tf:=adW) (fo:=(0,22)) (fs:=[(0,22),(1,3),(2,3)]) anw rfl rfl aDv
theorem aIE{K:Nat→Nat→Prop}:qs Tryz.prog [(0,22),(1,3),(2,3)] 0 K=K 0 1:=qq (tf:=adW) (fo:=(0,22)) (fs:=[(0,22),(1,3),(2,3)]) rfl aDv
theorem aBr{K:Nat→TI→Prop}:@qC Tryz.prog 142 1 ⟨K⟩=K 1 ti3:=qr (ti:=Q2) (tf:=ti3) (fo:=(1,3)) (fs:=[(0,22),(1,3),(2,3)]) anw rfl rfl tf3
theorem aID{K:Nat→Nat→Prop}:qs Tryz.prog [(0,22),(1,3),(2,3)] 1 K=K 1 1:=qq (tf:=ti3) (fo:=(1,3)) (fs:=[(0,22),(1,3),(2,3)]) rfl tf3
theorem aBq{K:Nat→TI→Prop}:@qC Tryz.prog 142 2 ⟨K⟩=K 2 ti3:=qr (ti:=Q2) (tf:=ti3) (fo:=(2,3)) (fs:=[(0,22),(1,3),(2,3)]) anw rfl rfl tf3
theorem aIC{K:Nat→Nat→Prop}:qs Tryz.prog [(0,22),(1,3),(2,3)] 2 K=K 2 1:=qq (tf:=ti3) (fo:=(2,3)) (fs:=[(0,22),(1,3),(2,3)]) rfl tf3
theorem aJW:∀f∈([(0,22),(1,3),(2,3)]:List (Nat×Nat)),(qo Tryz.prog f.2).isSome=true:=by
 intro f hf
 simp only[List.mem_cons,List.not_mem_nil,or_false]at hf
 rcases hf with rfl|rfl|rfl
 ·rw[aDv];rfl
 ·rw[tf3];rfl
 ·rw[tf3];rfl
theorem aSw{ps:List (Nat×AV)}{K:AV→Prop}:@zp Tryz.prog 142 ps ⟨K⟩=@zr (qs Tryz.prog [(0,22),(1,3),(2,3)]) (zc Q2) ps ⟨fun cs=>K (.ag cs)⟩:=qR anw rfl aJW
theorem aU0{K:TI→Prop}:@tyW Tryz.prog 143 ⟨K⟩=K Q1:=qi anv
theorem axE:Q1.kd=Kd.stru [(0,22),(1,3),(2,3)]:=ID rfl
theorem amK:Q1.kd.agg=true:=ID rfl
theorem ahp:Q1.size=3:=ID rfl
theorem acf:Q1.bytes=40:=ID rfl
theorem axC:qz Q1=True:=eq_true rfl
theorem axD:zc Q1=[.v (Value.slice none 0 0),.v (Value.int IntKind.i64 0),.v (Value.int IntKind.i64 0)]:=ID rfl
theorem aBp{K:Nat→TI→Prop}:@qC Tryz.prog 143 0 ⟨K⟩=K 0 adW:=qr (ti:=Q1) (tf:=adW) (fo:=(0,22)) (fs:=[(0,22),(1,3),(2,3)]) anv rfl rfl aDv
theorem aIB{K:Nat→Nat→Prop}:qs Tryz.prog [(0,22),(1,3),(2,3)] 0 K=K 0 1:=qq (tf:=adW) (fo:=(0,22)) (fs:=[(0,22),(1,3),(2,3)]) rfl aDv
theorem aBo{K:Nat→TI→Prop}:@qC Tryz.prog 143 1 ⟨K⟩=K 1 ti3:=qr (ti:=Q1) (tf:=ti3) (fo:=(1,3)) (fs:=[(0,22),(1,3),(2,3)]) anv rfl rfl tf3
theorem aIA{K:Nat→Nat→Prop}:qs Tryz.prog [(0,22),(1,3),(2,3)] 1 K=K 1 1:=qq (tf:=ti3) (fo:=(1,3)) (fs:=[(0,22),(1,3),(2,3)]) rfl tf3
theorem aBn{K:Nat→TI→Prop}:@qC Tryz.prog 143 2 ⟨K⟩=K 2 ti3:=qr (ti:=Q1) (tf:=ti3) (fo:=(2,3)) (fs:=[(0,22),(1,3),(2,3)]) anv rfl rfl tf3
theorem aIz{K:Nat→Nat→Prop}:qs Tryz.prog [(0,22),(1,3),(2,3)] 2 K=K 2 1:=qq (tf:=ti3) (fo:=(2,3)) (fs:=[(0,22),(1,3),(2,3)]) rfl tf3
theorem aJV:∀f∈([(0,22),(1,3),(2,3)]:List (Nat×Nat)),(qo Tryz.prog f.2).isSome=true:=by
 intro f hf
 simp only[List.mem_cons,List.not_mem_nil,or_false]at hf
 rcases hf with rfl|rfl|rfl
 ·rw[aDv];rfl
 ·rw[tf3];rfl
 ·rw[tf3];rfl
theorem aSv{ps:List (Nat×AV)}{K:AV→Prop}:@zp Tryz.prog 143 ps ⟨K⟩=@zr (qs Tryz.prog [(0,22),(1,3),(2,3)]) (zc Q1) ps ⟨fun cs=>K (.ag cs)⟩:=qR anv rfl aJV
theorem aUZ{K:TI→Prop}:@tyW Tryz.prog 144 ⟨K⟩=K VF:=qi aXm
theorem axB:VF.kd=Kd.oth:=ID rfl
theorem amJ:VF.kd.agg=false:=ID rfl
theorem aho:VF.size=1:=ID rfl
theorem ace:VF.bytes=8:=ID rfl
theorem axz:qz VF=True:=eq_true rfl
theorem axA:zc VF=[.v Value.nilFunc]:=ID rfl
theorem aUY{K:TI→Prop}:@tyW Tryz.prog 145 ⟨K⟩=K VE:=qi aXl
theorem axy:VE.kd=Kd.oth:=ID rfl
theorem amI:VE.kd.agg=false:=ID rfl
theorem ahn:VE.size=1:=ID rfl
theorem acd:VE.bytes=8:=ID rfl
theorem axw:qz VE=True:=eq_true rfl
theorem axx:zc VE=[.v Value.nilFunc]:=ID rfl
theorem aUX{K:TI→Prop}:@tyW Tryz.prog 146 ⟨K⟩=K VD:=qi aXk
theorem axv:VD.kd=Kd.oth:=ID rfl
theorem amH:VD.kd.agg=false:=ID rfl
theorem ahm:VD.size=1:=ID rfl
theorem acb:VD.bytes=8:=ID rfl
theorem axt:qz VD=True:=eq_true rfl
theorem axu:zc VD=[.v Value.nilFunc]:=ID rfl
theorem aUW{K:TI→Prop}:@tyW Tryz.prog 147 ⟨K⟩=K VC:=qi aXj
theorem axs:VC.kd=Kd.oth:=ID rfl
theorem amG:VC.kd.agg=false:=ID rfl
theorem ahl:VC.size=1:=ID rfl
theorem aca:VC.bytes=8:=ID rfl
theorem axq:qz VC=True:=eq_true rfl
theorem axr:zc VC=[.v Value.nilFunc]:=ID rfl
theorem aUV{K:TI→Prop}:@tyW Tryz.prog 148 ⟨K⟩=K VB:=qi aXi
theorem axp:VB.kd=Kd.oth:=ID rfl
theorem amF:VB.kd.agg=false:=ID rfl
theorem ahk:VB.size=1:=ID rfl
theorem ab9:VB.bytes=8:=ID rfl
theorem axn:qz VB=True:=eq_true rfl
theorem axo:zc VB=[.v Value.nilFunc]:=ID rfl
theorem aUU{K:TI→Prop}:@tyW Tryz.prog 150 ⟨K⟩=K VA:=qi aXh
theorem axm:VA.kd=Kd.oth:=ID rfl
theorem amE:VA.kd.agg=false:=ID rfl
theorem ahj:VA.size=1:=ID rfl
theorem ab8:VA.bytes=8:=ID rfl
theorem axk:qz VA=True:=eq_true rfl
theorem axl:zc VA=[.v Value.nilFunc]:=ID rfl
theorem aUT{K:TI→Prop}:@tyW Tryz.prog 152 ⟨K⟩=K Vz:=qi aXg
theorem axj:Vz.kd=Kd.oth:=ID rfl
theorem amD:Vz.kd.agg=false:=ID rfl
theorem ahi:Vz.size=1:=ID rfl
theorem ab7:Vz.bytes=8:=ID rfl
theorem axh:qz Vz=True:=eq_true rfl
theorem axi:zc Vz=[.v Value.nilFunc]:=ID rfl
theorem aUS{K:TI→Prop}:@tyW Tryz.prog 153 ⟨K⟩=K Vy:=qi aXf
theorem axg:Vy.kd=Kd.oth:=ID rfl
theorem amC:Vy.kd.agg=false:=ID rfl
theorem ahh:Vy.size=1:=ID rfl
theorem ab6:Vy.bytes=8:=ID rfl
theorem axe:qz Vy=True:=eq_true rfl
theorem axf:zc Vy=[.v Value.nilFunc]:=ID rfl
theorem aUR{K:TI→Prop}:@tyW Tryz.prog 154 ⟨K⟩=K Vx:=qi aXe
theorem axd:Vx.kd=Kd.oth:=ID rfl
theorem amB:Vx.kd.agg=false:=ID rfl
theorem ahg:Vx.size=1:=ID rfl
theorem ab5:Vx.bytes=8:=ID rfl
theorem axb:qz Vx=True:=eq_true rfl
theorem axc:zc Vx=[.v Value.nilFunc]:=ID rfl
theorem aUQ{K:TI→Prop}:@tyW Tryz.prog 155 ⟨K⟩=K y9:=qi Ki
theorem axa:y9.kd=Kd.sli 111:=ID rfl
theorem amA:y9.kd.agg=false:=ID rfl
theorem ahf:y9.size=1:=ID rfl
theorem ab4:y9.bytes=24:=ID rfl
theorem aw8:qz y9=True:=eq_true rfl
theorem aw9:zc y9=[.v (Value.slice none 0 0)]:=ID rfl
theorem aMX{K:TI→Prop}:@yL Tryz.prog 155 ⟨K⟩=K Q3:=QP Ki rfl anx
theorem aUP{K:TI→Prop}:@tyW Tryz.prog 156 ⟨K⟩=K Zn:=qi azN
theorem aw7:Zn.kd=Kd.stru [(0,3),(1,155)]:=ID rfl
theorem amz:Zn.kd.agg=true:=ID rfl
theorem ahe:Zn.size=2:=ID rfl
theorem ab3:Zn.bytes=32:=ID rfl
theorem aw5:qz Zn=True:=eq_true rfl
theorem aw6:zc Zn=[.v (Value.int IntKind.i64 0),.v (Value.slice none 0 0)]:=ID rfl
theorem aBm{K:Nat→TI→Prop}:@qC Tryz.prog 156 0 ⟨K⟩=K 0 ti3:=qr (ti:=Zn) (tf:=ti3) (fo:=(0,3)) (fs:=[(0,3),(1,155)]) azN rfl rfl tf3
theorem aIy{K:Nat→Nat→Prop}:qs Tryz.prog [(0,3),(1,155)] 0 K=K 0 1:=qq (tf:=ti3) (fo:=(0,3)) (fs:=[(0,3),(1,155)]) rfl tf3
theorem aBl{K:Nat→TI→Prop}:@qC Tryz.prog 156 1 ⟨K⟩=K 1 y9:=qr (ti:=Zn) (tf:=y9) (fo:=(1,155)) (fs:=[(0,3),(1,155)]) azN rfl rfl Ki
theorem aIx{K:Nat→Nat→Prop}:qs Tryz.prog [(0,3),(1,155)] 1 K=K 1 1:=qq (tf:=y9) (fo:=(1,155)) (fs:=[(0,3),(1,155)]) rfl Ki
theorem aJU:∀f∈([(0,3),(1,155)]:List (Nat×Nat)),(qo Tryz.prog f.2).isSome=true:=by
 intro f hf
 simp only[List.mem_cons,List.not_mem_nil,or_false]at hf
 rcases hf with rfl|rfl
 ·rw[tf3];rfl
 ·rw[Ki];rfl
theorem aSu{ps:List (Nat×AV)}{K:AV→Prop}:@zp Tryz.prog 156 ps ⟨K⟩=@zr (qs Tryz.prog [(0,3),(1,155)]) (zc Zn) ps ⟨fun cs=>K (.ag cs)⟩:=qR azN rfl aJU
theorem aUO{K:TI→Prop}:@tyW Tryz.prog 157 ⟨K⟩=K Zm:=qi azM
theorem aw4:Zm.kd=Kd.stru [(0,3),(1,155)]:=ID rfl
theorem amy:Zm.kd.agg=true:=ID rfl
theorem ahd:Zm.size=2:=ID rfl
theorem ab2:Zm.bytes=32:=ID rfl
theorem aw2:qz Zm=True:=eq_true rfl
theorem aw3:zc Zm=[.v (Value.int IntKind.i64 0),.v (Value.slice none 0 0)]:=ID rfl
theorem aBk{K:Nat→TI→Prop}:@qC Tryz.prog 157 0 ⟨K⟩=K 0 ti3:=qr (ti:=Zm) (tf:=ti3) (fo:=(0,3)) (fs:=[(0,3),(1,155)]) azM rfl rfl tf3
theorem aIw{K:Nat→Nat→Prop}:qs Tryz.prog [(0,3),(1,155)] 0 K=K 0 1:=qq (tf:=ti3) (fo:=(0,3)) (fs:=[(0,3),(1,155)]) rfl tf3
theorem aBj{K:Nat→TI→Prop}:@qC Tryz.prog 157 1 ⟨K⟩=K 1 y9:=qr (ti:=Zm) (tf:=y9) (fo:=(1,155)) (fs:=[(0,3),(1,155)]) azM rfl rfl Ki
theorem aIv{K:Nat→Nat→Prop}:qs Tryz.prog [(0,3),(1,155)] 1 K=K 1 1:=qq (tf:=y9) (fo:=(1,155)) (fs:=[(0,3),(1,155)]) rfl Ki
theorem aJT:∀f∈([(0,3),(1,155)]:List (Nat×Nat)),(qo Tryz.prog f.2).isSome=true:=by
 intro f hf
 simp only[List.mem_cons,List.not_mem_nil,or_false]at hf
 rcases hf with rfl|rfl
 ·rw[tf3];rfl
 ·rw[Ki];rfl
theorem aSt{ps:List (Nat×AV)}{K:AV→Prop}:@zp Tryz.prog 157 ps ⟨K⟩=@zr (qs Tryz.prog [(0,3),(1,155)]) (zc Zm) ps ⟨fun cs=>K (.ag cs)⟩:=qR azM rfl aJT
theorem aUN{K:TI→Prop}:@tyW Tryz.prog 158 ⟨K⟩=K Vw:=qi aXd
theorem aw1:Vw.kd=Kd.oth:=ID rfl
theorem amx:Vw.kd.agg=false:=ID rfl
theorem ahc:Vw.size=1:=ID rfl
theorem ab1:Vw.bytes=8:=ID rfl
theorem awZ:qz Vw=True:=eq_true rfl
theorem aw0:zc Vw=[.v Value.nilFunc]:=ID rfl
theorem aUM{K:TI→Prop}:@tyW Tryz.prog 159 ⟨K⟩=K y8:=qi Kh
theorem awY:y8.kd=Kd.sli 50:=ID rfl
theorem amw:y8.kd.agg=false:=ID rfl
theorem ahb:y8.size=1:=ID rfl
theorem ab0:y8.bytes=24:=ID rfl
theorem awW:qz y8=True:=eq_true rfl
theorem awX:zc y8=[.v (Value.slice none 0 0)]:=ID rfl
theorem aMW{K:TI→Prop}:@yL Tryz.prog 159 ⟨K⟩=K ajn:=QP Kh rfl aMC
theorem aUL{K:TI→Prop}:@tyW Tryz.prog 160 ⟨K⟩=K Zl:=qi azL
theorem awU:Zl.kd=Kd.stru [(0,3),(1,159)]:=ID rfl
theorem amv:Zl.kd.agg=true:=ID rfl
theorem aha:Zl.size=2:=ID rfl
theorem abZ:Zl.bytes=32:=ID rfl
theorem awS:qz Zl=True:=eq_true rfl
theorem awT:zc Zl=[.v (Value.int IntKind.i64 0),.v (Value.slice none 0 0)]:=ID rfl
theorem aBi{K:Nat→TI→Prop}:@qC Tryz.prog 160 0 ⟨K⟩=K 0 ti3:=qr (ti:=Zl) (tf:=ti3) (fo:=(0,3)) (fs:=[(0,3),(1,159)]) azL rfl rfl tf3
theorem aIu{K:Nat→Nat→Prop}:qs Tryz.prog [(0,3),(1,159)] 0 K=K 0 1:=qq (tf:=ti3) (fo:=(0,3)) (fs:=[(0,3),(1,159)]) rfl tf3
theorem aBh{K:Nat→TI→Prop}:@qC Tryz.prog 160 1 ⟨K⟩=K 1 y8:=qr (ti:=Zl) (tf:=y8) (fo:=(1,159)) (fs:=[(0,3),(1,159)]) azL rfl rfl Kh
theorem aIt{K:Nat→Nat→Prop}:qs Tryz.prog [(0,3),(1,159)] 1 K=K 1 1:=qq (tf:=y8) (fo:=(1,159)) (fs:=[(0,3),(1,159)]) rfl Kh
theorem aJS:∀f∈([(0,3),(1,159)]:List (Nat×Nat)),(qo Tryz.prog f.2).isSome=true:=by
 intro f hf
 simp only[List.mem_cons,List.not_mem_nil,or_false]at hf
 rcases hf with rfl|rfl
 ·rw[tf3];rfl
 ·rw[Kh];rfl
theorem aSs{ps:List (Nat×AV)}{K:AV→Prop}:@zp Tryz.prog 160 ps ⟨K⟩=@zr (qs Tryz.prog [(0,3),(1,159)]) (zc Zl) ps ⟨fun cs=>K (.ag cs)⟩:=qR azL rfl aJS
theorem aUK{K:TI→Prop}:@tyW Tryz.prog 161 ⟨K⟩=K Zk:=qi azK
theorem awR:Zk.kd=Kd.stru [(0,3),(1,159)]:=ID rfl
theorem amu:Zk.kd.agg=true:=ID rfl
theorem ag9:Zk.size=2:=ID rfl
theorem abY:Zk.bytes=32:=ID rfl
theorem awP:qz Zk=True:=eq_true rfl
theorem awQ:zc Zk=[.v (Value.int IntKind.i64 0),.v (Value.slice none 0 0)]:=ID rfl
theorem aBg{K:Nat→TI→Prop}:@qC Tryz.prog 161 0 ⟨K⟩=K 0 ti3:=qr (ti:=Zk) (tf:=ti3) (fo:=(0,3)) (fs:=[(0,3),(1,159)]) azK rfl rfl tf3
theorem aIs{K:Nat→Nat→Prop}:qs Tryz.prog [(0,3),(1,159)] 0 K=K 0 1:=qq (tf:=ti3) (fo:=(0,3)) (fs:=[(0,3),(1,159)]) rfl tf3
theorem aBf{K:Nat→TI→Prop}:@qC Tryz.prog 161 1 ⟨K⟩=K 1 y8:=qr (ti:=Zk) (tf:=y8) (fo:=(1,159)) (fs:=[(0,3),(1,159)]) azK rfl rfl Kh
theorem aIr{K:Nat→Nat→Prop}:qs Tryz.prog [(0,3),(1,159)] 1 K=K 1 1:=qq (tf:=y8) (fo:=(1,159)) (fs:=[(0,3),(1,159)]) rfl Kh
theorem aJR:∀f∈([(0,3),(1,159)]:List (Nat×Nat)),(qo Tryz.prog f.2).isSome=true:=by
 intro f hf
 simp only[List.mem_cons,List.not_mem_nil,or_false]at hf
 rcases hf with rfl|rfl
 ·rw[tf3];rfl
 ·rw[Kh];rfl
theorem aSr{ps:List (Nat×AV)}{K:AV→Prop}:@zp Tryz.prog 161 ps ⟨K⟩=@zr (qs Tryz.prog [(0,3),(1,159)]) (zc Zk) ps ⟨fun cs=>K (.ag cs)⟩:=qR azK rfl aJR
theorem aUJ{K:TI→Prop}:@tyW Tryz.prog 163 ⟨K⟩=K Vv:=qi aXc
theorem awO:Vv.kd=Kd.oth:=ID rfl
theorem amt:Vv.kd.agg=false:=ID rfl
theorem ag8:Vv.size=1:=ID rfl
theorem abX:Vv.bytes=8:=ID rfl
theorem awM:qz Vv=True:=eq_true rfl
theorem awN:zc Vv=[.v Value.nilFunc]:=ID rfl
theorem aUI{K:TI→Prop}:@tyW Tryz.prog 164 ⟨K⟩=K Vu:=qi aXb
theorem awL:Vu.kd=Kd.oth:=ID rfl
theorem ams:Vu.kd.agg=false:=ID rfl
theorem ag7:Vu.size=1:=ID rfl
theorem abW:Vu.bytes=8:=ID rfl
theorem awJ:qz Vu=True:=eq_true rfl
theorem awK:zc Vu=[.v Value.nilFunc]:=ID rfl
theorem aUH{K:TI→Prop}:@tyW Tryz.prog 165 ⟨K⟩=K Vt:=qi aXa
theorem awI:Vt.kd=Kd.oth:=ID rfl
theorem amr:Vt.kd.agg=false:=ID rfl
theorem ag6:Vt.size=1:=ID rfl
theorem abV:Vt.bytes=8:=ID rfl
theorem awG:qz Vt=True:=eq_true rfl
theorem awH:zc Vt=[.v Value.nilFunc]:=ID rfl
theorem aUG{K:TI→Prop}:@tyW Tryz.prog 166 ⟨K⟩=K Vs:=qi aW9
theorem awF:Vs.kd=Kd.oth:=ID rfl
theorem amq:Vs.kd.agg=false:=ID rfl
theorem ag5:Vs.size=1:=ID rfl
theorem abU:Vs.bytes=8:=ID rfl
theorem awD:qz Vs=True:=eq_true rfl
theorem awE:zc Vs=[.v Value.nilFunc]:=ID rfl
theorem aUF{K:TI→Prop}:@tyW Tryz.prog 167 ⟨K⟩=K Vr:=qi aW8
theorem awC:Vr.kd=Kd.oth:=ID rfl
theorem amp:Vr.kd.agg=false:=ID rfl
theorem ag4:Vr.size=1:=ID rfl
theorem abT:Vr.bytes=8:=ID rfl
theorem awA:qz Vr=True:=eq_true rfl
theorem awB:zc Vr=[.v Value.nilFunc]:=ID rfl
theorem aUE{K:TI→Prop}:@tyW Tryz.prog 169 ⟨K⟩=K Vq:=qi aW7
theorem awz:Vq.kd=Kd.oth:=ID rfl
theorem amo:Vq.kd.agg=false:=ID rfl
theorem ag3:Vq.size=1:=ID rfl
theorem abS:Vq.bytes=8:=ID rfl
theorem awx:qz Vq=True:=eq_true rfl
theorem awy:zc Vq=[.v Value.nilFunc]:=ID rfl
theorem aUD{K:TI→Prop}:@tyW Tryz.prog 170 ⟨K⟩=K Vp:=qi aW6
theorem aww:Vp.kd=Kd.oth:=ID rfl
theorem amn:Vp.kd.agg=false:=ID rfl
theorem ag2:Vp.size=1:=ID rfl
theorem abR:Vp.bytes=8:=ID rfl
theorem awu:qz Vp=True:=eq_true rfl
theorem awv:zc Vp=[.v Value.nilFunc]:=ID rfl
theorem aUC{K:TI→Prop}:@tyW Tryz.prog 171 ⟨K⟩=K Vo:=qi aW5
theorem awt:Vo.kd=Kd.oth:=ID rfl
theorem amm:Vo.kd.agg=false:=ID rfl
theorem ag1:Vo.size=1:=ID rfl
theorem abQ:Vo.bytes=8:=ID rfl
theorem awr:qz Vo=True:=eq_true rfl
theorem aws:zc Vo=[.v Value.nilFunc]:=ID rfl
theorem aUB{K:TI→Prop}:@tyW Tryz.prog 172 ⟨K⟩=K Vn:=qi aW4
theorem awq:Vn.kd=Kd.oth:=ID rfl
theorem aml:Vn.kd.agg=false:=ID rfl
theorem ag0:Vn.size=1:=ID rfl
theorem abP:Vn.bytes=8:=ID rfl
theorem awn:qz Vn=True:=eq_true rfl
theorem awo:zc Vn=[.v Value.nilFunc]:=ID rfl
theorem aUA{K:TI→Prop}:@tyW Tryz.prog 173 ⟨K⟩=K Vm:=qi aW3
theorem awm:Vm.kd=Kd.oth:=ID rfl
theorem amk:Vm.kd.agg=false:=ID rfl
theorem agZ:Vm.size=1:=ID rfl
theorem abO:Vm.bytes=8:=ID rfl
theorem awk:qz Vm=True:=eq_true rfl
theorem awl:zc Vm=[.v Value.nilFunc]:=ID rfl
theorem aUz{K:TI→Prop}:@tyW Tryz.prog 174 ⟨K⟩=K Vl:=qi aW2
theorem awj:Vl.kd=Kd.oth:=ID rfl
theorem amj:Vl.kd.agg=false:=ID rfl
theorem agY:Vl.size=1:=ID rfl
theorem abN:Vl.bytes=8:=ID rfl
theorem awh:qz Vl=True:=eq_true rfl
theorem awi:zc Vl=[.v Value.nilFunc]:=ID rfl
theorem aUy{K:TI→Prop}:@tyW Tryz.prog 176 ⟨K⟩=K Vk:=qi aW1
theorem awg:Vk.kd=Kd.oth:=ID rfl
theorem ami:Vk.kd.agg=false:=ID rfl
theorem agX:Vk.size=1:=ID rfl
theorem abM:Vk.bytes=8:=ID rfl
theorem awe:qz Vk=True:=eq_true rfl
theorem awf:zc Vk=[.v Value.nilFunc]:=ID rfl
theorem aUx{K:TI→Prop}:@tyW Tryz.prog 177 ⟨K⟩=K Vj:=qi aW0
theorem awd:Vj.kd=Kd.oth:=ID rfl
theorem amh:Vj.kd.agg=false:=ID rfl
theorem agW:Vj.size=1:=ID rfl
theorem abL:Vj.bytes=8:=ID rfl
theorem awb:qz Vj=True:=eq_true rfl
theorem awc:zc Vj=[.v Value.nilFunc]:=ID rfl
theorem aUw{K:TI→Prop}:@tyW Tryz.prog 178 ⟨K⟩=K Vi:=qi aWZ
theorem awa:Vi.kd=Kd.oth:=ID rfl
theorem amg:Vi.kd.agg=false:=ID rfl
theorem agV:Vi.size=1:=ID rfl
theorem abK:Vi.bytes=8:=ID rfl
theorem av8:qz Vi=True:=eq_true rfl
theorem av9:zc Vi=[.v Value.nilFunc]:=ID rfl
theorem aUv{K:TI→Prop}:@tyW Tryz.prog 179 ⟨K⟩=K Vh:=qi aWY
theorem av7:Vh.kd=Kd.oth:=ID rfl
theorem amf:Vh.kd.agg=false:=ID rfl
theorem agU:Vh.size=1:=ID rfl
theorem abJ:Vh.bytes=8:=ID rfl
theorem av5:qz Vh=True:=eq_true rfl
theorem av6:zc Vh=[.v Value.nilFunc]:=ID rfl
theorem aUu{K:TI→Prop}:@tyW Tryz.prog 180 ⟨K⟩=K Vg:=qi aWX
theorem av4:Vg.kd=Kd.oth:=ID rfl
theorem ame:Vg.kd.agg=false:=ID rfl
theorem agT:Vg.size=1:=ID rfl
theorem abI:Vg.bytes=8:=ID rfl
theorem av2:qz Vg=True:=eq_true rfl
theorem av3:zc Vg=[.v Value.nilFunc]:=ID rfl
theorem aUt{K:TI→Prop}:@tyW Tryz.prog 181 ⟨K⟩=K Vf:=qi aWW
theorem av1:Vf.kd=Kd.oth:=ID rfl
theorem amd:Vf.kd.agg=false:=ID rfl
theorem agS:Vf.size=1:=ID rfl
theorem abH:Vf.bytes=8:=ID rfl
theorem avZ:qz Vf=True:=eq_true rfl
theorem av0:zc Vf=[.v Value.nilFunc]:=ID rfl
theorem aUs{K:TI→Prop}:@tyW Tryz.prog 183 ⟨K⟩=K Ve:=qi aWV
theorem avY:Ve.kd=Kd.oth:=ID rfl
theorem amc:Ve.kd.agg=false:=ID rfl
theorem agR:Ve.size=1:=ID rfl
theorem abG:Ve.bytes=8:=ID rfl
theorem avW:qz Ve=True:=eq_true rfl
theorem avX:zc Ve=[.v Value.nilFunc]:=ID rfl
theorem aUr{K:TI→Prop}:@tyW Tryz.prog 184 ⟨K⟩=K Vd:=qi aWU
theorem avV:Vd.kd=Kd.oth:=ID rfl
theorem amb:Vd.kd.agg=false:=ID rfl
theorem agQ:Vd.size=1:=ID rfl
theorem abF:Vd.bytes=8:=ID rfl
theorem avT:qz Vd=True:=eq_true rfl
theorem avU:zc Vd=[.v Value.nilFunc]:=ID rfl
theorem aUq{K:TI→Prop}:@tyW Tryz.prog 185 ⟨K⟩=K Vc:=qi aME
theorem avS:Vc.kd=Kd.sli 63:=ID rfl
theorem ama:Vc.kd.agg=false:=ID rfl
theorem agP:Vc.size=1:=ID rfl
theorem abE:Vc.bytes=24:=ID rfl
theorem avQ:qz Vc=True:=eq_true rfl
theorem avR:zc Vc=[.v (Value.slice none 0 0)]:=ID rfl
theorem aMV{K:TI→Prop}:@yL Tryz.prog 185 ⟨K⟩=K adU:=QP aME rfl aHN
theorem aUp{K:TI→Prop}:@tyW Tryz.prog 186 ⟨K⟩=K Vb:=qi aWT
theorem avP:Vb.kd=Kd.oth:=ID rfl
theorem al9:Vb.kd.agg=false:=ID rfl
theorem agO:Vb.size=1:=ID rfl
theorem abD:Vb.bytes=8:=ID rfl
theorem avN:qz Vb=True:=eq_true rfl
theorem avO:zc Vb=[.v Value.nilFunc]:=ID rfl
theorem aUo{K:TI→Prop}:@tyW Tryz.prog 187 ⟨K⟩=K Va:=qi aWS
theorem avM:Va.kd=Kd.oth:=ID rfl
theorem al8:Va.kd.agg=false:=ID rfl
theorem agN:Va.size=1:=ID rfl
theorem abC:Va.bytes=8:=ID rfl
theorem avK:qz Va=True:=eq_true rfl
theorem avL:zc Va=[.v Value.nilFunc]:=ID rfl
theorem aUn{K:TI→Prop}:@tyW Tryz.prog 188 ⟨K⟩=K X9:=qi aWR
theorem avJ:X9.kd=Kd.oth:=ID rfl
theorem al7:X9.kd.agg=false:=ID rfl
theorem agM:X9.size=1:=ID rfl
theorem abB:X9.bytes=8:=ID rfl
theorem avH:qz X9=True:=eq_true rfl
theorem avI:zc X9=[.v Value.nilFunc]:=ID rfl
theorem aUm{K:TI→Prop}:@tyW Tryz.prog 189 ⟨K⟩=K X8:=qi aWQ
theorem avG:X8.kd=Kd.oth:=ID rfl
theorem al6:X8.kd.agg=false:=ID rfl
theorem agL:X8.size=1:=ID rfl
theorem abA:X8.bytes=8:=ID rfl
theorem avE:qz X8=True:=eq_true rfl
theorem avF:zc X8=[.v Value.nilFunc]:=ID rfl
theorem aUl{K:TI→Prop}:@tyW Tryz.prog 190 ⟨K⟩=K X7:=qi aWP
theorem avD:X7.kd=Kd.oth:=ID rfl
theorem al5:X7.kd.agg=false:=ID rfl
theorem agK:X7.size=1:=ID rfl
theorem abz:X7.bytes=8:=ID rfl
theorem avB:qz X7=True:=eq_true rfl
theorem avC:zc X7=[.v Value.nilFunc]:=ID rfl
theorem aUk{K:TI→Prop}:@tyW Tryz.prog 191 ⟨K⟩=K X6:=qi aWO
theorem avA:X6.kd=Kd.oth:=ID rfl
theorem al4:X6.kd.agg=false:=ID rfl
theorem agJ:X6.size=1:=ID rfl
theorem aby:X6.bytes=8:=ID rfl
theorem avy:qz X6=True:=eq_true rfl
theorem avz:zc X6=[.v Value.nilFunc]:=ID rfl
theorem aUj{K:TI→Prop}:@tyW Tryz.prog 192 ⟨K⟩=K X5:=qi aWN
theorem avx:X5.kd=Kd.oth:=ID rfl
theorem al3:X5.kd.agg=false:=ID rfl
theorem agI:X5.size=1:=ID rfl
theorem abx:X5.bytes=8:=ID rfl
theorem avv:qz X5=True:=eq_true rfl
theorem avw:zc X5=[.v Value.nilFunc]:=ID rfl
theorem aUi{K:TI→Prop}:@tyW Tryz.prog 193 ⟨K⟩=K X4:=qi aWM
theorem avu:X4.kd=Kd.oth:=ID rfl
theorem al2:X4.kd.agg=false:=ID rfl
theorem agH:X4.size=1:=ID rfl
theorem abw:X4.bytes=8:=ID rfl
theorem avs:qz X4=True:=eq_true rfl
theorem avt:zc X4=[.v Value.nilFunc]:=ID rfl
theorem aUh{K:TI→Prop}:@tyW Tryz.prog 194 ⟨K⟩=K X3:=qi aWL
theorem avr:X3.kd=Kd.oth:=ID rfl
theorem al1:X3.kd.agg=false:=ID rfl
theorem agG:X3.size=1:=ID rfl
theorem abv:X3.bytes=8:=ID rfl
theorem avp:qz X3=True:=eq_true rfl
theorem avq:zc X3=[.v Value.nilFunc]:=ID rfl
theorem aUg{K:TI→Prop}:@tyW Tryz.prog 195 ⟨K⟩=K X2:=qi aWK
theorem avo:X2.kd=Kd.oth:=ID rfl
theorem al0:X2.kd.agg=false:=ID rfl
theorem agF:X2.size=1:=ID rfl
theorem abu:X2.bytes=8:=ID rfl
theorem avm:qz X2=True:=eq_true rfl
theorem avn:zc X2=[.v Value.nilFunc]:=ID rfl
theorem aUf{K:TI→Prop}:@tyW Tryz.prog 196 ⟨K⟩=K X1:=qi aWJ
theorem avl:X1.kd=Kd.oth:=ID rfl
theorem alZ:X1.kd.agg=false:=ID rfl
theorem agE:X1.size=1:=ID rfl
theorem abt:X1.bytes=8:=ID rfl
theorem avj:qz X1=True:=eq_true rfl
theorem avk:zc X1=[.v Value.nilFunc]:=ID rfl
theorem aUe{K:TI→Prop}:@tyW Tryz.prog 197 ⟨K⟩=K X0:=qi aWI
theorem avi:X0.kd=Kd.oth:=ID rfl
theorem alY:X0.kd.agg=false:=ID rfl
theorem agD:X0.size=1:=ID rfl
theorem abr:X0.bytes=8:=ID rfl
theorem avg:qz X0=True:=eq_true rfl
theorem avh:zc X0=[.v Value.nilFunc]:=ID rfl
theorem aUd{K:TI→Prop}:@tyW Tryz.prog 198 ⟨K⟩=K XZ:=qi aWH
theorem avf:XZ.kd=Kd.oth:=ID rfl
theorem alX:XZ.kd.agg=false:=ID rfl
theorem agC:XZ.size=1:=ID rfl
theorem abq:XZ.bytes=8:=ID rfl
theorem avd:qz XZ=True:=eq_true rfl
theorem ave:zc XZ=[.v Value.nilFunc]:=ID rfl
theorem aUc{K:TI→Prop}:@tyW Tryz.prog 199 ⟨K⟩=K XY:=qi aWG
theorem avc:XY.kd=Kd.oth:=ID rfl
theorem alW:XY.kd.agg=false:=ID rfl
theorem agB:XY.size=1:=ID rfl
theorem abp:XY.bytes=8:=ID rfl
theorem ava:qz XY=True:=eq_true rfl
theorem avb:zc XY=[.v Value.nilFunc]:=ID rfl
theorem aUb{K:TI→Prop}:@tyW Tryz.prog 200 ⟨K⟩=K XX:=qi aWF
theorem au8:XX.kd=Kd.oth:=ID rfl
theorem alU:XX.kd.agg=false:=ID rfl
theorem agA:XX.size=1:=ID rfl
theorem abo:XX.bytes=8:=ID rfl
theorem au6:qz XX=True:=eq_true rfl
theorem au7:zc XX=[.v Value.nilFunc]:=ID rfl
theorem aUa{K:TI→Prop}:@tyW Tryz.prog 201 ⟨K⟩=K XW:=qi aWE
theorem au5:XW.kd=Kd.oth:=ID rfl
theorem alT:XW.kd.agg=false:=ID rfl
theorem agz:XW.size=1:=ID rfl
theorem abn:XW.bytes=8:=ID rfl
theorem au3:qz XW=True:=eq_true rfl
theorem au4:zc XW=[.v Value.nilFunc]:=ID rfl
theorem aT9{K:TI→Prop}:@tyW Tryz.prog 202 ⟨K⟩=K XV:=qi aWD
theorem au2:XV.kd=Kd.oth:=ID rfl
theorem alS:XV.kd.agg=false:=ID rfl
theorem agy:XV.size=1:=ID rfl
theorem abm:XV.bytes=8:=ID rfl
theorem au0:qz XV=True:=eq_true rfl
theorem au1:zc XV=[.v Value.nilFunc]:=ID rfl
theorem aT8{K:TI→Prop}:@tyW Tryz.prog 203 ⟨K⟩=K XU:=qi aWC
theorem auZ:XU.kd=Kd.oth:=ID rfl
theorem alR:XU.kd.agg=false:=ID rfl
theorem agx:XU.size=1:=ID rfl
theorem abl:XU.bytes=8:=ID rfl
theorem auX:qz XU=True:=eq_true rfl
theorem auY:zc XU=[.v Value.nilFunc]:=ID rfl
theorem aT7{K:TI→Prop}:@tyW Tryz.prog 204 ⟨K⟩=K XT:=qi aWB
theorem auW:XT.kd=Kd.oth:=ID rfl
theorem alQ:XT.kd.agg=false:=ID rfl
theorem agw:XT.size=1:=ID rfl
theorem abk:XT.bytes=8:=ID rfl
theorem auU:qz XT=True:=eq_true rfl
theorem auV:zc XT=[.v Value.nilFunc]:=ID rfl
theorem aT6{K:TI→Prop}:@tyW Tryz.prog 205 ⟨K⟩=K XS:=qi aWA
theorem auT:XS.kd=Kd.oth:=ID rfl
theorem alP:XS.kd.agg=false:=ID rfl
theorem agv:XS.size=1:=ID rfl
theorem abj:XS.bytes=8:=ID rfl
theorem auR:qz XS=True:=eq_true rfl
theorem auS:zc XS=[.v Value.nilFunc]:=ID rfl
theorem aT5{K:TI→Prop}:@tyW Tryz.prog 206 ⟨K⟩=K XR:=qi aWz
theorem auQ:XR.kd=Kd.oth:=ID rfl
theorem alO:XR.kd.agg=false:=ID rfl
theorem agu:XR.size=1:=ID rfl
theorem abi:XR.bytes=8:=ID rfl
theorem auO:qz XR=True:=eq_true rfl
theorem auP:zc XR=[.v Value.nilFunc]:=ID rfl
theorem aT4{K:TI→Prop}:@tyW Tryz.prog 208 ⟨K⟩=K XQ:=qi aWy
theorem auN:XQ.kd=Kd.oth:=ID rfl
theorem alN:XQ.kd.agg=false:=ID rfl
theorem agt:XQ.size=1:=ID rfl
theorem abh:XQ.bytes=8:=ID rfl
theorem auL:qz XQ=True:=eq_true rfl
theorem auM:zc XQ=[.v Value.nilFunc]:=ID rfl
theorem aT3{K:TI→Prop}:@tyW Tryz.prog 209 ⟨K⟩=K XP:=qi aWx
theorem auK:XP.kd=Kd.oth:=ID rfl
theorem alM:XP.kd.agg=false:=ID rfl
theorem ags:XP.size=1:=ID rfl
theorem abg:XP.bytes=8:=ID rfl
theorem auI:qz XP=True:=eq_true rfl
theorem auJ:zc XP=[.v Value.nilFunc]:=ID rfl
theorem aT2{K:TI→Prop}:@tyW Tryz.prog 210 ⟨K⟩=K XO:=qi aWw
theorem auH:XO.kd=Kd.oth:=ID rfl
theorem alL:XO.kd.agg=false:=ID rfl
theorem agr:XO.size=1:=ID rfl
theorem abf:XO.bytes=8:=ID rfl
theorem auF:qz XO=True:=eq_true rfl
theorem auG:zc XO=[.v Value.nilFunc]:=ID rfl
theorem aT1{K:TI→Prop}:@tyW Tryz.prog 211 ⟨K⟩=K XN:=qi aWv
theorem auE:XN.kd=Kd.oth:=ID rfl
theorem alK:XN.kd.agg=false:=ID rfl
theorem agq:XN.size=1:=ID rfl
theorem abe:XN.bytes=8:=ID rfl
theorem auC:qz XN=True:=eq_true rfl
theorem auD:zc XN=[.v Value.nilFunc]:=ID rfl
theorem aT0{K:TI→Prop}:@tyW Tryz.prog 212 ⟨K⟩=K XM:=qi aWu
theorem auB:XM.kd=Kd.oth:=ID rfl
theorem alJ:XM.kd.agg=false:=ID rfl
theorem agp:XM.size=1:=ID rfl
theorem abd:XM.bytes=8:=ID rfl
theorem auz:qz XM=True:=eq_true rfl
theorem auA:zc XM=[.v Value.nilFunc]:=ID rfl
theorem aTZ{K:TI→Prop}:@tyW Tryz.prog 213 ⟨K⟩=K XL:=qi aWt
theorem auy:XL.kd=Kd.oth:=ID rfl
theorem alI:XL.kd.agg=false:=ID rfl
theorem ago:XL.size=1:=ID rfl
theorem abc:XL.bytes=8:=ID rfl
theorem auw:qz XL=True:=eq_true rfl
theorem aux:zc XL=[.v Value.nilFunc]:=ID rfl
theorem aTY{K:TI→Prop}:@tyW Tryz.prog 214 ⟨K⟩=K XK:=qi aWs
theorem auv:XK.kd=Kd.oth:=ID rfl
theorem alH:XK.kd.agg=false:=ID rfl
theorem agn:XK.size=1:=ID rfl
theorem abb:XK.bytes=8:=ID rfl
theorem aut:qz XK=True:=eq_true rfl
theorem auu:zc XK=[.v Value.nilFunc]:=ID rfl
theorem aTX{K:TI→Prop}:@tyW Tryz.prog 215 ⟨K⟩=K XJ:=qi aWr
theorem aus:XJ.kd=Kd.oth:=ID rfl
theorem alG:XJ.kd.agg=false:=ID rfl
theorem agm:XJ.size=1:=ID rfl
theorem aba:XJ.bytes=8:=ID rfl
theorem auq:qz XJ=True:=eq_true rfl
theorem aur:zc XJ=[.v Value.nilFunc]:=ID rfl
theorem aTW{K:TI→Prop}:@tyW Tryz.prog 216 ⟨K⟩=K XI:=qi aWq
theorem aup:XI.kd=Kd.oth:=ID rfl
theorem alD:XI.kd.agg=false:=ID rfl
theorem agl:XI.size=1:=ID rfl
theorem aa9:XI.bytes=8:=ID rfl
theorem aun:qz XI=True:=eq_true rfl
theorem auo:zc XI=[.v Value.nilFunc]:=ID rfl
theorem aTV{K:TI→Prop}:@tyW Tryz.prog 217 ⟨K⟩=K XH:=qi aWp
theorem aum:XH.kd=Kd.oth:=ID rfl
theorem alC:XH.kd.agg=false:=ID rfl
theorem agk:XH.size=1:=ID rfl
theorem aa8:XH.bytes=8:=ID rfl
theorem auk:qz XH=True:=eq_true rfl
theorem aul:zc XH=[.v Value.nilFunc]:=ID rfl
theorem aTU{K:TI→Prop}:@tyW Tryz.prog 218 ⟨K⟩=K XG:=qi aWo
theorem auj:XG.kd=Kd.oth:=ID rfl
theorem alB:XG.kd.agg=false:=ID rfl
theorem agj:XG.size=1:=ID rfl
theorem aa7:XG.bytes=8:=ID rfl
theorem auh:qz XG=True:=eq_true rfl
theorem aui:zc XG=[.v Value.nilFunc]:=ID rfl
theorem aTT{K:TI→Prop}:@tyW Tryz.prog 220 ⟨K⟩=K XF:=qi aWn
theorem auf:XF.kd=Kd.oth:=ID rfl
theorem aly:XF.kd.agg=false:=ID rfl
theorem agh:XF.size=1:=ID rfl
theorem aa6:XF.bytes=8:=ID rfl
theorem aud:qz XF=True:=eq_true rfl
theorem aue:zc XF=[.v Value.nilFunc]:=ID rfl
theorem aTS{K:TI→Prop}:@tyW Tryz.prog 221 ⟨K⟩=K XE:=qi aWm
theorem auc:XE.kd=Kd.oth:=ID rfl
theorem alx:XE.kd.agg=false:=ID rfl
theorem agf:XE.size=1:=ID rfl
theorem aa5:XE.bytes=8:=ID rfl
theorem aua:qz XE=True:=eq_true rfl
theorem aub:zc XE=[.v Value.nilFunc]:=ID rfl
theorem aTR{K:TI→Prop}:@tyW Tryz.prog 222 ⟨K⟩=K XD:=qi aMD
theorem at9:XD.kd=Kd.sli 100:=ID rfl
theorem alw:XD.kd.agg=false:=ID rfl
theorem age:XD.size=1:=ID rfl
theorem aa4:XD.bytes=24:=ID rfl
theorem at7:qz XD=True:=eq_true rfl
theorem at8:zc XD=[.v (Value.slice none 0 0)]:=ID rfl
theorem aMU{K:TI→Prop}:@yL Tryz.prog 222 ⟨K⟩=K yU:=QP aMD rfl J3
theorem aTQ{K:TI→Prop}:@tyW Tryz.prog 223 ⟨K⟩=K XC:=qi aWl
theorem at6:XC.kd=Kd.oth:=ID rfl
theorem alv:XC.kd.agg=false:=ID rfl
theorem agd:XC.size=1:=ID rfl
theorem aa3:XC.bytes=8:=ID rfl
theorem at4:qz XC=True:=eq_true rfl
theorem at5:zc XC=[.v Value.nilFunc]:=ID rfl
theorem aTP{K:TI→Prop}:@tyW Tryz.prog 224 ⟨K⟩=K XB:=qi aWk
theorem at3:XB.kd=Kd.oth:=ID rfl
theorem alu:XB.kd.agg=false:=ID rfl
theorem agc:XB.size=1:=ID rfl
theorem aa2:XB.bytes=8:=ID rfl
theorem at1:qz XB=True:=eq_true rfl
theorem at2:zc XB=[.v Value.nilFunc]:=ID rfl
theorem aTO{K:TI→Prop}:@tyW Tryz.prog 225 ⟨K⟩=K XA:=qi aWj
theorem at0:XA.kd=Kd.oth:=ID rfl
theorem alt:XA.kd.agg=false:=ID rfl
theorem agb:XA.size=1:=ID rfl
theorem aa1:XA.bytes=8:=ID rfl
theorem atY:qz XA=True:=eq_true rfl
theorem atZ:zc XA=[.v Value.nilFunc]:=ID rfl
theorem aTN{K:TI→Prop}:@tyW Tryz.prog 226 ⟨K⟩=K Xz:=qi aWi
theorem atX:Xz.kd=Kd.oth:=ID rfl
theorem als:Xz.kd.agg=false:=ID rfl
theorem aga:Xz.size=1:=ID rfl
theorem aaZ:Xz.bytes=8:=ID rfl
theorem atV:qz Xz=True:=eq_true rfl
theorem atW:zc Xz=[.v Value.nilFunc]:=ID rfl
theorem aTM{K:TI→Prop}:@tyW Tryz.prog 227 ⟨K⟩=K Xy:=qi aWh
theorem atU:Xy.kd=Kd.oth:=ID rfl
theorem alr:Xy.kd.agg=false:=ID rfl
theorem af9:Xy.size=1:=ID rfl
theorem aaY:Xy.bytes=8:=ID rfl
theorem atS:qz Xy=True:=eq_true rfl
theorem atT:zc Xy=[.v Value.nilFunc]:=ID rfl
theorem aTL{K:TI→Prop}:@tyW Tryz.prog 228 ⟨K⟩=K Xx:=qi aWg
theorem atR:Xx.kd=Kd.oth:=ID rfl
theorem alq:Xx.kd.agg=false:=ID rfl
theorem af8:Xx.size=1:=ID rfl
theorem aaX:Xx.bytes=8:=ID rfl
theorem atP:qz Xx=True:=eq_true rfl
theorem atQ:zc Xx=[.v Value.nilFunc]:=ID rfl
theorem aTK{K:TI→Prop}:@tyW Tryz.prog 229 ⟨K⟩=K Xw:=qi aWf
theorem atO:Xw.kd=Kd.oth:=ID rfl
theorem alp:Xw.kd.agg=false:=ID rfl
theorem af7:Xw.size=1:=ID rfl
theorem aaW:Xw.bytes=8:=ID rfl
theorem atM:qz Xw=True:=eq_true rfl
theorem atN:zc Xw=[.v Value.nilFunc]:=ID rfl
theorem aTJ{K:TI→Prop}:@tyW Tryz.prog 230 ⟨K⟩=K Xv:=qi aWe
theorem atK:Xv.kd=Kd.oth:=ID rfl
theorem aln:Xv.kd.agg=false:=ID rfl
theorem af5:Xv.size=1:=ID rfl
theorem aaV:Xv.bytes=8:=ID rfl
theorem atI:qz Xv=True:=eq_true rfl
theorem atJ:zc Xv=[.v Value.nilFunc]:=ID rfl
theorem aTI{K:TI→Prop}:@tyW Tryz.prog 232 ⟨K⟩=K Xu:=qi aWd
theorem atH:Xu.kd=Kd.oth:=ID rfl
theorem alm:Xu.kd.agg=false:=ID rfl
theorem af4:Xu.size=1:=ID rfl
theorem aaU:Xu.bytes=8:=ID rfl
theorem atF:qz Xu=True:=eq_true rfl
theorem atG:zc Xu=[.v Value.nilFunc]:=ID rfl
theorem aTH{K:TI→Prop}:@tyW Tryz.prog 233 ⟨K⟩=K Xt:=qi aWc
theorem atE:Xt.kd=Kd.oth:=ID rfl
theorem alk:Xt.kd.agg=false:=ID rfl
theorem af3:Xt.size=1:=ID rfl
theorem aaT:Xt.bytes=8:=ID rfl
theorem atC:qz Xt=True:=eq_true rfl
theorem atD:zc Xt=[.v Value.nilFunc]:=ID rfl
theorem aTG{K:TI→Prop}:@tyW Tryz.prog 234 ⟨K⟩=K Xs:=qi aWb
theorem atB:Xs.kd=Kd.oth:=ID rfl
theorem alj:Xs.kd.agg=false:=ID rfl
theorem af2:Xs.size=1:=ID rfl
theorem aaS:Xs.bytes=8:=ID rfl
theorem atz:qz Xs=True:=eq_true rfl
theorem atA:zc Xs=[.v Value.nilFunc]:=ID rfl
theorem aTF{K:TI→Prop}:@tyW Tryz.prog 235 ⟨K⟩=K Xr:=qi aWa
theorem aty:Xr.kd=Kd.oth:=ID rfl
theorem ali:Xr.kd.agg=false:=ID rfl
theorem af1:Xr.size=1:=ID rfl
theorem aaR:Xr.bytes=8:=ID rfl
theorem atw:qz Xr=True:=eq_true rfl
theorem atx:zc Xr=[.v Value.nilFunc]:=ID rfl
theorem aTE{K:TI→Prop}:@tyW Tryz.prog 237 ⟨K⟩=K Xq:=qi aV9
theorem atv:Xq.kd=Kd.oth:=ID rfl
theorem alh:Xq.kd.agg=false:=ID rfl
theorem af0:Xq.size=1:=ID rfl
theorem aaQ:Xq.bytes=8:=ID rfl
theorem att:qz Xq=True:=eq_true rfl
theorem atu:zc Xq=[.v Value.nilFunc]:=ID rfl
theorem aTD{K:TI→Prop}:@tyW Tryz.prog 238 ⟨K⟩=K Xp:=qi aV8
theorem ats:Xp.kd=Kd.oth:=ID rfl
theorem alg:Xp.kd.agg=false:=ID rfl
theorem afZ:Xp.size=1:=ID rfl
theorem aaP:Xp.bytes=8:=ID rfl
theorem atq:qz Xp=True:=eq_true rfl
theorem atr:zc Xp=[.v Value.nilFunc]:=ID rfl
theorem aTC{K:TI→Prop}:@tyW Tryz.prog 239 ⟨K⟩=K Xo:=qi aV7
theorem atp:Xo.kd=Kd.oth:=ID rfl
theorem alf:Xo.kd.agg=false:=ID rfl
theorem afY:Xo.size=1:=ID rfl
theorem aaO:Xo.bytes=8:=ID rfl
theorem atn:qz Xo=True:=eq_true rfl
theorem ato:zc Xo=[.v Value.nilFunc]:=ID rfl
theorem aTB{K:TI→Prop}:@tyW Tryz.prog 240 ⟨K⟩=K Xn:=qi aV5
theorem atl:Xn.kd=Kd.oth:=ID rfl
theorem ald:Xn.kd.agg=false:=ID rfl
theorem afW:Xn.size=1:=ID rfl
theorem aaN:Xn.bytes=8:=ID rfl
theorem atj:qz Xn=True:=eq_true rfl
theorem atk:zc Xn=[.v Value.nilFunc]:=ID rfl
theorem aTA{K:TI→Prop}:@tyW Tryz.prog 241 ⟨K⟩=K Xm:=qi aV4
theorem ati:Xm.kd=Kd.oth:=ID rfl
theorem alc:Xm.kd.agg=false:=ID rfl
theorem afV:Xm.size=1:=ID rfl
theorem aaM:Xm.bytes=8:=ID rfl
theorem atg:qz Xm=True:=eq_true rfl
theorem ath:zc Xm=[.v Value.nilFunc]:=ID rfl
theorem aTz{K:TI→Prop}:@tyW Tryz.prog 242 ⟨K⟩=K Xl:=qi aV3
theorem atf:Xl.kd=Kd.int IntKind.u32:=ID rfl
theorem alb:Xl.kd.agg=false:=ID rfl
theorem afU:Xl.size=1:=ID rfl
theorem aaL:Xl.bytes=4:=ID rfl
theorem atd:qz Xl=True:=eq_true rfl
theorem ate:zc Xl=[.v (Value.int IntKind.u32 0)]:=ID rfl
theorem aTy{K:TI→Prop}:@tyW Tryz.prog 243 ⟨K⟩=K Xk:=qi aV2
theorem atc:Xk.kd=Kd.oth:=ID rfl
theorem ala:Xk.kd.agg=false:=ID rfl
theorem afT:Xk.size=1:=ID rfl
theorem aaK:Xk.bytes=8:=ID rfl
theorem ata:qz Xk=True:=eq_true rfl
theorem atb:zc Xk=[.v Value.nilFunc]:=ID rfl
theorem aTx{K:TI→Prop}:@tyW Tryz.prog 244 ⟨K⟩=K Xj:=qi aV1
theorem as9:Xj.kd=Kd.int IntKind.u64:=ID rfl
theorem ak9:Xj.kd.agg=false:=ID rfl
theorem afS:Xj.size=1:=ID rfl
theorem aaJ:Xj.bytes=8:=ID rfl
theorem as7:qz Xj=True:=eq_true rfl
theorem as8:zc Xj=[.v (Value.int IntKind.u64 0)]:=ID rfl
theorem aTw{K:TI→Prop}:@tyW Tryz.prog 245 ⟨K⟩=K Xi:=qi aV0
theorem as6:Xi.kd=Kd.oth:=ID rfl
theorem ak8:Xi.kd.agg=false:=ID rfl
theorem afR:Xi.size=1:=ID rfl
theorem aaI:Xi.bytes=8:=ID rfl
theorem as4:qz Xi=True:=eq_true rfl
theorem as5:zc Xi=[.v Value.nilFunc]:=ID rfl
theorem aTv{K:TI→Prop}:@tyW Tryz.prog 247 ⟨K⟩=K Xh:=qi aVZ
theorem as3:Xh.kd=Kd.oth:=ID rfl
theorem ak7:Xh.kd.agg=false:=ID rfl
theorem afQ:Xh.size=1:=ID rfl
theorem aaH:Xh.bytes=8:=ID rfl
theorem as1:qz Xh=True:=eq_true rfl
theorem as2:zc Xh=[.v Value.nilFunc]:=ID rfl
theorem aTu{K:TI→Prop}:@tyW Tryz.prog 248 ⟨K⟩=K Xg:=qi aVY
theorem as0:Xg.kd=Kd.oth:=ID rfl
theorem ak6:Xg.kd.agg=false:=ID rfl
theorem afP:Xg.size=1:=ID rfl
theorem aaG:Xg.bytes=8:=ID rfl
theorem asY:qz Xg=True:=eq_true rfl
theorem asZ:zc Xg=[.v Value.nilFunc]:=ID rfl
theorem aTt{K:TI→Prop}:@tyW Tryz.prog 249 ⟨K⟩=K Xf:=qi aVX
theorem asX:Xf.kd=Kd.oth:=ID rfl
theorem ak5:Xf.kd.agg=false:=ID rfl
theorem afO:Xf.size=1:=ID rfl
theorem aaF:Xf.bytes=8:=ID rfl
theorem asV:qz Xf=True:=eq_true rfl
theorem asW:zc Xf=[.v Value.nilFunc]:=ID rfl
theorem aTs{K:TI→Prop}:@tyW Tryz.prog 250 ⟨K⟩=K Xe:=qi aVW
theorem asT:Xe.kd=Kd.oth:=ID rfl
theorem ak3:Xe.kd.agg=false:=ID rfl
theorem afM:Xe.size=1:=ID rfl
theorem aaE:Xe.bytes=8:=ID rfl
theorem asR:qz Xe=True:=eq_true rfl
theorem asS:zc Xe=[.v Value.nilFunc]:=ID rfl
theorem aTr{K:TI→Prop}:@tyW Tryz.prog 251 ⟨K⟩=K Xd:=qi aVV
theorem asQ:Xd.kd=Kd.oth:=ID rfl
theorem ak2:Xd.kd.agg=false:=ID rfl
theorem afL:Xd.size=1:=ID rfl
theorem aaD:Xd.bytes=8:=ID rfl
theorem asO:qz Xd=True:=eq_true rfl
theorem asP:zc Xd=[.v Value.nilFunc]:=ID rfl
theorem aTq{K:TI→Prop}:@tyW Tryz.prog 252 ⟨K⟩=K Xc:=qi aVU
theorem asN:Xc.kd=Kd.oth:=ID rfl
theorem ak1:Xc.kd.agg=false:=ID rfl
theorem afK:Xc.size=1:=ID rfl
theorem aaC:Xc.bytes=8:=ID rfl
theorem asL:qz Xc=True:=eq_true rfl
theorem asM:zc Xc=[.v Value.nilFunc]:=ID rfl
theorem aTp{K:TI→Prop}:@tyW Tryz.prog 253 ⟨K⟩=K Xb:=qi aVT
theorem asK:Xb.kd=Kd.oth:=ID rfl
theorem ak0:Xb.kd.agg=false:=ID rfl
theorem afJ:Xb.size=1:=ID rfl
theorem aaB:Xb.bytes=8:=ID rfl
theorem asI:qz Xb=True:=eq_true rfl
theorem asJ:zc Xb=[.v Value.nilFunc]:=ID rfl
theorem aTo{K:TI→Prop}:@tyW Tryz.prog 254 ⟨K⟩=K Xa:=qi aVS
theorem asH:Xa.kd=Kd.oth:=ID rfl
theorem akZ:Xa.kd.agg=false:=ID rfl
theorem afI:Xa.size=1:=ID rfl
theorem aaA:Xa.bytes=8:=ID rfl
theorem asF:qz Xa=True:=eq_true rfl
theorem asG:zc Xa=[.v Value.nilFunc]:=ID rfl
theorem aTn{K:TI→Prop}:@tyW Tryz.prog 255 ⟨K⟩=K Y9:=qi aVR
theorem asE:Y9.kd=Kd.oth:=ID rfl
theorem akY:Y9.kd.agg=false:=ID rfl
theorem afH:Y9.size=1:=ID rfl
theorem aaz:Y9.bytes=8:=ID rfl
theorem asC:qz Y9=True:=eq_true rfl
theorem asD:zc Y9=[.v Value.nilFunc]:=ID rfl
theorem aTm{K:TI→Prop}:@tyW Tryz.prog 258 ⟨K⟩=K Y8:=qi aVQ
theorem asB:Y8.kd=Kd.oth:=ID rfl
theorem akX:Y8.kd.agg=false:=ID rfl
theorem afG:Y8.size=1:=ID rfl
theorem aay:Y8.bytes=8:=ID rfl
theorem asz:qz Y8=True:=eq_true rfl
theorem asA:zc Y8=[.v Value.nilFunc]:=ID rfl
theorem aTl{K:TI→Prop}:@tyW Tryz.prog 262 ⟨K⟩=K Y7:=qi aVP
theorem asx:Y7.kd=Kd.stru [(0,261)]:=ID rfl
theorem akU:Y7.kd.agg=true:=ID rfl
theorem afE:Y7.size=0:=ID rfl
theorem aax:Y7.bytes=0:=ID rfl
theorem asv:qz Y7=True:=eq_true rfl
theorem asw:zc Y7=[]:=ID rfl
theorem aTk{K:TI→Prop}:@tyW Tryz.prog 263 ⟨K⟩=K Y6:=qi aVO
theorem asu:Y6.kd=Kd.stru [(0,261)]:=ID rfl
theorem akT:Y6.kd.agg=true:=ID rfl
theorem afD:Y6.size=0:=ID rfl
theorem aaw:Y6.bytes=0:=ID rfl
theorem ass:qz Y6=True:=eq_true rfl
theorem ast:zc Y6=[]:=ID rfl
theorem aTj{K:TI→Prop}:@tyW Tryz.prog 264 ⟨K⟩=K Y5:=qi aVN
theorem asr:Y5.kd=Kd.int IntKind.u8:=ID rfl
theorem akS:Y5.kd.agg=false:=ID rfl
theorem afC:Y5.size=1:=ID rfl
theorem aav:Y5.bytes=1:=ID rfl
theorem asp:qz Y5=True:=eq_true rfl
theorem asq:zc Y5=[.v (Value.int IntKind.u8 0)]:=ID rfl
theorem aTi{K:TI→Prop}:@tyW Tryz.prog 265 ⟨K⟩=K Y4:=qi aVM
theorem aso:Y4.kd=Kd.int IntKind.u8:=ID rfl
theorem akR:Y4.kd.agg=false:=ID rfl
theorem afB:Y4.size=1:=ID rfl
theorem aau:Y4.bytes=1:=ID rfl
theorem asm:qz Y4=True:=eq_true rfl
theorem asn:zc Y4=[.v (Value.int IntKind.u8 0)]:=ID rfl
theorem aTh{K:TI→Prop}:@tyW Tryz.prog 266 ⟨K⟩=K Y3:=qi aVL
theorem asl:Y3.kd=Kd.oth:=ID rfl
theorem akQ:Y3.kd.agg=false:=ID rfl
theorem afA:Y3.size=1:=ID rfl
theorem aat:Y3.bytes=8:=ID rfl
theorem asj:qz Y3=True:=eq_true rfl
theorem ask:zc Y3=[.v Value.nilFunc]:=ID rfl
theorem aTg{K:TI→Prop}:@tyW Tryz.prog 268 ⟨K⟩=K Y2:=qi aVK
theorem asi:Y2.kd=Kd.int IntKind.i32:=ID rfl
theorem akP:Y2.kd.agg=false:=ID rfl
theorem afz:Y2.size=1:=ID rfl
theorem aas:Y2.bytes=4:=ID rfl
theorem asg:qz Y2=True:=eq_true rfl
theorem ash:zc Y2=[.v (Value.int IntKind.i32 0)]:=ID rfl
theorem aTf{K:TI→Prop}:@tyW Tryz.prog 269 ⟨K⟩=K Y1:=qi aVJ
theorem asf:Y1.kd=Kd.int IntKind.i32:=ID rfl
theorem akO:Y1.kd.agg=false:=ID rfl
theorem afy:Y1.size=1:=ID rfl
theorem aar:Y1.bytes=4:=ID rfl
theorem asd:qz Y1=True:=eq_true rfl
theorem ase:zc Y1=[.v (Value.int IntKind.i32 0)]:=ID rfl
theorem aTe{K:TI→Prop}:@tyW Tryz.prog 272 ⟨K⟩=K YZ:=qi aVI
theorem asb:YZ.kd=Kd.oth:=ID rfl
theorem akM:YZ.kd.agg=false:=ID rfl
theorem afw:YZ.size=1:=ID rfl
theorem aaq:YZ.bytes=8:=ID rfl
theorem ar9:qz YZ=True:=eq_true rfl
theorem asa:zc YZ=[.v Value.nilFunc]:=ID rfl
theorem aTd{K:TI→Prop}:@tyW Tryz.prog 273 ⟨K⟩=K YY:=qi aVH
theorem ar8:YY.kd=Kd.oth:=ID rfl
theorem akL:YY.kd.agg=false:=ID rfl
theorem afv:YY.size=1:=ID rfl
theorem aap:YY.bytes=8:=ID rfl
theorem ar6:qz YY=True:=eq_true rfl
theorem ar7:zc YY=[.v Value.nilFunc]:=ID rfl
theorem aTc{K:TI→Prop}:@tyW Tryz.prog 274 ⟨K⟩=K YX:=qi aVG
theorem ar5:YX.kd=Kd.oth:=ID rfl
theorem akK:YX.kd.agg=false:=ID rfl
theorem afu:YX.size=1:=ID rfl
theorem aao:YX.bytes=8:=ID rfl
theorem ar3:qz YX=True:=eq_true rfl
theorem ar4:zc YX=[.v Value.nilFunc]:=ID rfl
theorem bc0:qp Tryz.prog 2=True:=eq_true ⟨_,Tryz.func2,of_decide_eq_false (by kernel_rfl),rfl⟩
theorem bcZ:qp Tryz.prog 3=True:=eq_true ⟨_,Tryz.func3,of_decide_eq_false (by kernel_rfl),rfl⟩
theorem bcY:qp Tryz.prog 4=True:=eq_true ⟨_,Tryz.func4,of_decide_eq_false (by kernel_rfl),rfl⟩
theorem bcX:qp Tryz.prog 5=True:=eq_true ⟨_,Tryz.func5,of_decide_eq_false (by kernel_rfl),rfl⟩
theorem bcW:qp Tryz.prog 6=True:=eq_true ⟨_,Tryz.func6,of_decide_eq_false (by kernel_rfl),rfl⟩
theorem bcV:qp Tryz.prog 7=True:=eq_true ⟨_,Tryz.func7,of_decide_eq_false (by kernel_rfl),rfl⟩
theorem bcU:qp Tryz.prog 8=True:=eq_true ⟨_,Tryz.func8,of_decide_eq_false (by kernel_rfl),rfl⟩
theorem bcT:qp Tryz.prog 9=True:=eq_true ⟨_,Tryz.func9,of_decide_eq_false (by kernel_rfl),rfl⟩
theorem aZ5:qp Tryz.prog 10=True:=eq_true ⟨_,Tryz.func10,of_decide_eq_false (by kernel_rfl),rfl⟩
theorem aZ4:qp Tryz.prog 11=True:=eq_true ⟨_,Tryz.func11,of_decide_eq_false (by kernel_rfl),rfl⟩
theorem aZ3:qp Tryz.prog 12=True:=eq_true ⟨_,Tryz.func12,of_decide_eq_false (by kernel_rfl),rfl⟩
theorem aZ2:qp Tryz.prog 13=True:=eq_true ⟨_,Tryz.func13,of_decide_eq_false (by kernel_rfl),rfl⟩
theorem aZ1:qp Tryz.prog 14=True:=eq_true ⟨_,Tryz.func14,of_decide_eq_false (by kernel_rfl),rfl⟩
theorem aZ0:qp Tryz.prog 15=True:=eq_true ⟨_,Tryz.func15,of_decide_eq_false (by kernel_rfl),rfl⟩
theorem aZZ:qp Tryz.prog 16=True:=eq_true ⟨_,Tryz.func16,of_decide_eq_false (by kernel_rfl),rfl⟩
theorem aZY:qp Tryz.prog 17=True:=eq_true ⟨_,Tryz.func17,of_decide_eq_false (by kernel_rfl),rfl⟩
theorem aZX:qp Tryz.prog 18=True:=eq_true ⟨_,Tryz.func18,of_decide_eq_false (by kernel_rfl),rfl⟩
theorem aZW:qp Tryz.prog 19=True:=eq_true ⟨_,Tryz.func19,of_decide_eq_false (by kernel_rfl),rfl⟩
theorem aZV:qp Tryz.prog 20=True:=eq_true ⟨_,Tryz.func20,of_decide_eq_false (by kernel_rfl),rfl⟩
theorem aZU:qp Tryz.prog 21=True:=eq_true ⟨_,Tryz.func21,of_decide_eq_false (by kernel_rfl),rfl⟩
theorem aZT:qp Tryz.prog 22=True:=eq_true ⟨_,Tryz.func22,of_decide_eq_false (by kernel_rfl),rfl⟩
theorem aZS:qp Tryz.prog 23=True:=eq_true ⟨_,Tryz.func23,of_decide_eq_false (by kernel_rfl),rfl⟩
theorem aZR:qp Tryz.prog 24=True:=eq_true ⟨_,Tryz.func24,of_decide_eq_false (by kernel_rfl),rfl⟩
theorem aZQ:qp Tryz.prog 25=True:=eq_true ⟨_,Tryz.func25,of_decide_eq_false (by kernel_rfl),rfl⟩
theorem aZP:qp Tryz.prog 26=True:=eq_true ⟨_,Tryz.func26,of_decide_eq_false (by kernel_rfl),rfl⟩
theorem aZO:qp Tryz.prog 27=True:=eq_true ⟨_,Tryz.func27,of_decide_eq_false (by kernel_rfl),rfl⟩
theorem aZN:qp Tryz.prog 28=True:=eq_true ⟨_,Tryz.func28,of_decide_eq_false (by kernel_rfl),rfl⟩
theorem aZM:qp Tryz.prog 29=True:=eq_true ⟨_,Tryz.func29,of_decide_eq_false (by kernel_rfl),rfl⟩
theorem aZL:qp Tryz.prog 30=True:=eq_true ⟨_,Tryz.func30,of_decide_eq_false (by kernel_rfl),rfl⟩
theorem aZK:qp Tryz.prog 31=True:=eq_true ⟨_,Tryz.func31,of_decide_eq_false (by kernel_rfl),rfl⟩
theorem aZJ:qp Tryz.prog 32=True:=eq_true ⟨_,Tryz.func32,of_decide_eq_false (by kernel_rfl),rfl⟩
theorem aZI:qp Tryz.prog 33=True:=eq_true ⟨_,Tryz.func33,of_decide_eq_false (by kernel_rfl),rfl⟩
theorem aZH:qp Tryz.prog 34=True:=eq_true ⟨_,Tryz.func34,of_decide_eq_false (by kernel_rfl),rfl⟩
theorem aZG:qp Tryz.prog 35=True:=eq_true ⟨_,Tryz.func35,of_decide_eq_false (by kernel_rfl),rfl⟩
theorem aZF:qp Tryz.prog 36=True:=eq_true ⟨_,Tryz.func36,of_decide_eq_false (by kernel_rfl),rfl⟩
theorem aZE:qp Tryz.prog 37=True:=eq_true ⟨_,Tryz.func37,of_decide_eq_false (by kernel_rfl),rfl⟩
theorem aZD:qp Tryz.prog 38=True:=eq_true ⟨_,Tryz.func38,of_decide_eq_false (by kernel_rfl),rfl⟩
theorem aZC:qp Tryz.prog 39=True:=eq_true ⟨_,Tryz.func39,of_decide_eq_false (by kernel_rfl),rfl⟩
theorem aZB:qp Tryz.prog 40=True:=eq_true ⟨_,Tryz.func40,of_decide_eq_false (by kernel_rfl),rfl⟩
theorem aZA:qp Tryz.prog 41=True:=eq_true ⟨_,Tryz.func41,of_decide_eq_false (by kernel_rfl),rfl⟩
theorem aZz:qp Tryz.prog 42=True:=eq_true ⟨_,Tryz.func42,of_decide_eq_false (by kernel_rfl),rfl⟩
theorem aZy:qp Tryz.prog 43=True:=eq_true ⟨_,Tryz.func43,of_decide_eq_false (by kernel_rfl),rfl⟩
theorem aZx:qp Tryz.prog 44=True:=eq_true ⟨_,Tryz.func44,of_decide_eq_false (by kernel_rfl),rfl⟩
theorem aZw:qp Tryz.prog 45=True:=eq_true ⟨_,Tryz.func45,of_decide_eq_false (by kernel_rfl),rfl⟩
theorem aZv:qp Tryz.prog 46=True:=eq_true ⟨_,Tryz.func46,of_decide_eq_false (by kernel_rfl),rfl⟩
theorem aZu:qp Tryz.prog 47=True:=eq_true ⟨_,Tryz.func47,of_decide_eq_false (by kernel_rfl),rfl⟩
theorem aZt:qp Tryz.prog 48=True:=eq_true ⟨_,Tryz.func48,of_decide_eq_false (by kernel_rfl),rfl⟩
theorem aZs:qp Tryz.prog 49=True:=eq_true ⟨_,Tryz.func49,of_decide_eq_false (by kernel_rfl),rfl⟩
theorem aZr:qp Tryz.prog 50=True:=eq_true ⟨_,Tryz.func50,of_decide_eq_false (by kernel_rfl),rfl⟩
theorem aZq:qp Tryz.prog 51=True:=eq_true ⟨_,Tryz.func51,of_decide_eq_false (by kernel_rfl),rfl⟩
theorem aZp:qp Tryz.prog 52=True:=eq_true ⟨_,Tryz.func52,of_decide_eq_false (by kernel_rfl),rfl⟩
theorem aZo:qp Tryz.prog 53=True:=eq_true ⟨_,Tryz.func53,of_decide_eq_false (by kernel_rfl),rfl⟩
theorem aZn:qp Tryz.prog 54=True:=eq_true ⟨_,Tryz.func54,of_decide_eq_false (by kernel_rfl),rfl⟩
theorem aZm:qp Tryz.prog 55=True:=eq_true ⟨_,Tryz.func55,of_decide_eq_false (by kernel_rfl),rfl⟩
theorem aZl:qp Tryz.prog 56=True:=eq_true ⟨_,Tryz.func56,of_decide_eq_false (by kernel_rfl),rfl⟩
theorem aZk:qp Tryz.prog 57=True:=eq_true ⟨_,Tryz.func57,of_decide_eq_false (by kernel_rfl),rfl⟩
theorem aZj:qp Tryz.prog 58=True:=eq_true ⟨_,Tryz.func58,of_decide_eq_false (by kernel_rfl),rfl⟩
theorem aZi:qp Tryz.prog 59=True:=eq_true ⟨_,Tryz.func59,of_decide_eq_false (by kernel_rfl),rfl⟩
theorem aZh:qp Tryz.prog 60=True:=eq_true ⟨_,Tryz.func60,of_decide_eq_false (by kernel_rfl),rfl⟩
theorem aZg:qp Tryz.prog 61=True:=eq_true ⟨_,Tryz.func61,of_decide_eq_false (by kernel_rfl),rfl⟩
theorem aZf:qp Tryz.prog 62=True:=eq_true ⟨_,Tryz.func62,of_decide_eq_false (by kernel_rfl),rfl⟩
theorem aZe:qp Tryz.prog 63=True:=eq_true ⟨_,Tryz.func63,of_decide_eq_false (by kernel_rfl),rfl⟩
theorem aZd:qp Tryz.prog 64=True:=eq_true ⟨_,Tryz.func64,of_decide_eq_false (by kernel_rfl),rfl⟩
theorem aZc:qp Tryz.prog 65=True:=eq_true ⟨_,Tryz.func65,of_decide_eq_false (by kernel_rfl),rfl⟩
theorem aZb:qp Tryz.prog 66=True:=eq_true ⟨_,Tryz.func66,of_decide_eq_false (by kernel_rfl),rfl⟩
theorem aZa:qp Tryz.prog 67=True:=eq_true ⟨_,Tryz.func67,of_decide_eq_false (by kernel_rfl),rfl⟩
theorem aY9:qp Tryz.prog 68=True:=eq_true ⟨_,Tryz.func68,of_decide_eq_false (by kernel_rfl),rfl⟩
theorem aY8:qp Tryz.prog 69=True:=eq_true ⟨_,Tryz.func69,of_decide_eq_false (by kernel_rfl),rfl⟩
theorem aY7:qp Tryz.prog 70=True:=eq_true ⟨_,Tryz.func70,of_decide_eq_false (by kernel_rfl),rfl⟩
theorem aY6:qp Tryz.prog 71=True:=eq_true ⟨_,Tryz.func71,of_decide_eq_false (by kernel_rfl),rfl⟩
theorem aY5:qp Tryz.prog 72=True:=eq_true ⟨_,Tryz.func72,of_decide_eq_false (by kernel_rfl),rfl⟩
theorem aY4:qp Tryz.prog 73=True:=eq_true ⟨_,Tryz.func73,of_decide_eq_false (by kernel_rfl),rfl⟩
theorem aY3:qp Tryz.prog 74=True:=eq_true ⟨_,Tryz.func74,of_decide_eq_false (by kernel_rfl),rfl⟩
theorem aY2:qp Tryz.prog 75=True:=eq_true ⟨_,Tryz.func75,of_decide_eq_false (by kernel_rfl),rfl⟩
theorem aY1:qp Tryz.prog 76=True:=eq_true ⟨_,Tryz.func76,of_decide_eq_false (by kernel_rfl),rfl⟩
theorem aY0:qp Tryz.prog 77=True:=eq_true ⟨_,Tryz.func77,of_decide_eq_false (by kernel_rfl),rfl⟩
theorem aYZ:qp Tryz.prog 78=True:=eq_true ⟨_,Tryz.func78,of_decide_eq_false (by kernel_rfl),rfl⟩
theorem aYY:qp Tryz.prog 79=True:=eq_true ⟨_,Tryz.func79,of_decide_eq_false (by kernel_rfl),rfl⟩
theorem aYX:qp Tryz.prog 80=True:=eq_true ⟨_,Tryz.func80,of_decide_eq_false (by kernel_rfl),rfl⟩
theorem aYW:qp Tryz.prog 81=True:=eq_true ⟨_,Tryz.func81,of_decide_eq_false (by kernel_rfl),rfl⟩
theorem aYV:qp Tryz.prog 82=True:=eq_true ⟨_,Tryz.func82,of_decide_eq_false (by kernel_rfl),rfl⟩
theorem aYU:qp Tryz.prog 83=True:=eq_true ⟨_,Tryz.func83,of_decide_eq_false (by kernel_rfl),rfl⟩
theorem aYT:qp Tryz.prog 84=True:=eq_true ⟨_,Tryz.func84,of_decide_eq_false (by kernel_rfl),rfl⟩
theorem aYS:qp Tryz.prog 85=True:=eq_true ⟨_,Tryz.func85,of_decide_eq_false (by kernel_rfl),rfl⟩
theorem aYR:qp Tryz.prog 86=True:=eq_true ⟨_,Tryz.func86,of_decide_eq_false (by kernel_rfl),rfl⟩
theorem aYQ:qp Tryz.prog 87=True:=eq_true ⟨_,Tryz.func87,of_decide_eq_false (by kernel_rfl),rfl⟩
theorem aYP:qp Tryz.prog 88=True:=eq_true ⟨_,Tryz.func88,of_decide_eq_false (by kernel_rfl),rfl⟩
theorem aYO:qp Tryz.prog 89=True:=eq_true ⟨_,Tryz.func89,of_decide_eq_false (by kernel_rfl),rfl⟩
theorem aYN:qp Tryz.prog 90=True:=eq_true ⟨_,Tryz.func90,of_decide_eq_false (by kernel_rfl),rfl⟩
theorem aYM:qp Tryz.prog 91=True:=eq_true ⟨_,Tryz.func91,of_decide_eq_false (by kernel_rfl),rfl⟩
theorem aYL:qp Tryz.prog 92=True:=eq_true ⟨_,Tryz.func92,of_decide_eq_false (by kernel_rfl),rfl⟩
theorem aYK:qp Tryz.prog 93=True:=eq_true ⟨_,Tryz.func93,of_decide_eq_false (by kernel_rfl),rfl⟩
theorem aYJ:qp Tryz.prog 94=True:=eq_true ⟨_,Tryz.func94,of_decide_eq_false (by kernel_rfl),rfl⟩
theorem aYI:qp Tryz.prog 95=True:=eq_true ⟨_,Tryz.func95,of_decide_eq_false (by kernel_rfl),rfl⟩
theorem aYH:qp Tryz.prog 96=True:=eq_true ⟨_,Tryz.func96,of_decide_eq_false (by kernel_rfl),rfl⟩
theorem aYG:qp Tryz.prog 97=True:=eq_true ⟨_,Tryz.func97,of_decide_eq_false (by kernel_rfl),rfl⟩
theorem aYF:qp Tryz.prog 98=True:=eq_true ⟨_,Tryz.func98,of_decide_eq_false (by kernel_rfl),rfl⟩
theorem aYE:qp Tryz.prog 99=True:=eq_true ⟨_,Tryz.func99,of_decide_eq_false (by kernel_rfl),rfl⟩
theorem aRJ:qp Tryz.prog 100=True:=eq_true ⟨_,Tryz.func100,of_decide_eq_false (by kernel_rfl),rfl⟩
theorem aRI:qp Tryz.prog 101=True:=eq_true ⟨_,Tryz.func101,of_decide_eq_false (by kernel_rfl),rfl⟩
theorem aRH:qp Tryz.prog 102=True:=eq_true ⟨_,Tryz.func102,of_decide_eq_false (by kernel_rfl),rfl⟩
theorem aRG:qp Tryz.prog 103=True:=eq_true ⟨_,Tryz.func103,of_decide_eq_false (by kernel_rfl),rfl⟩
theorem aRF:qp Tryz.prog 104=True:=eq_true ⟨_,Tryz.func104,of_decide_eq_false (by kernel_rfl),rfl⟩
theorem aRE:qp Tryz.prog 105=True:=eq_true ⟨_,Tryz.func105,of_decide_eq_false (by kernel_rfl),rfl⟩
theorem aRD:qp Tryz.prog 106=True:=eq_true ⟨_,Tryz.func106,of_decide_eq_false (by kernel_rfl),rfl⟩
theorem aRC:qp Tryz.prog 107=True:=eq_true ⟨_,Tryz.func107,of_decide_eq_false (by kernel_rfl),rfl⟩
theorem aRB:qp Tryz.prog 108=True:=eq_true ⟨_,Tryz.func108,of_decide_eq_false (by kernel_rfl),rfl⟩
theorem aRA:qp Tryz.prog 109=True:=eq_true ⟨_,Tryz.func109,of_decide_eq_false (by kernel_rfl),rfl⟩
theorem aRz:qp Tryz.prog 110=True:=eq_true ⟨_,Tryz.func110,of_decide_eq_false (by kernel_rfl),rfl⟩
theorem aRy:qp Tryz.prog 111=True:=eq_true ⟨_,Tryz.func111,of_decide_eq_false (by kernel_rfl),rfl⟩
theorem aRx:qp Tryz.prog 112=True:=eq_true ⟨_,Tryz.func112,of_decide_eq_false (by kernel_rfl),rfl⟩
theorem aRw:qp Tryz.prog 113=True:=eq_true ⟨_,Tryz.func113,of_decide_eq_false (by kernel_rfl),rfl⟩
theorem aRv:qp Tryz.prog 114=True:=eq_true ⟨_,Tryz.func114,of_decide_eq_false (by kernel_rfl),rfl⟩
theorem aRu:qp Tryz.prog 115=True:=eq_true ⟨_,Tryz.func115,of_decide_eq_false (by kernel_rfl),rfl⟩
theorem aRt:qp Tryz.prog 116=True:=eq_true ⟨_,Tryz.func116,of_decide_eq_false (by kernel_rfl),rfl⟩
theorem aRs:qp Tryz.prog 117=True:=eq_true ⟨_,Tryz.func117,of_decide_eq_false (by kernel_rfl),rfl⟩
theorem aRr:qp Tryz.prog 118=True:=eq_true ⟨_,Tryz.func118,of_decide_eq_false (by kernel_rfl),rfl⟩
theorem aRq:qp Tryz.prog 119=True:=eq_true ⟨_,Tryz.func119,of_decide_eq_false (by kernel_rfl),rfl⟩
theorem aRp:qp Tryz.prog 120=True:=eq_true ⟨_,Tryz.func120,of_decide_eq_false (by kernel_rfl),rfl⟩
theorem aRo:qp Tryz.prog 121=True:=eq_true ⟨_,Tryz.func121,of_decide_eq_false (by kernel_rfl),rfl⟩
theorem aRn:qp Tryz.prog 122=True:=eq_true ⟨_,Tryz.func122,of_decide_eq_false (by kernel_rfl),rfl⟩
theorem aRm:qp Tryz.prog 123=True:=eq_true ⟨_,Tryz.func123,of_decide_eq_false (by kernel_rfl),rfl⟩
theorem aRl:qp Tryz.prog 124=True:=eq_true ⟨_,Tryz.func124,of_decide_eq_false (by kernel_rfl),rfl⟩
theorem aRk:qp Tryz.prog 125=True:=eq_true ⟨_,Tryz.func125,of_decide_eq_false (by kernel_rfl),rfl⟩
theorem aRj:qp Tryz.prog 126=True:=eq_true ⟨_,Tryz.func126,of_decide_eq_false (by kernel_rfl),rfl⟩
theorem aRi:qp Tryz.prog 127=True:=eq_true ⟨_,Tryz.func127,of_decide_eq_false (by kernel_rfl),rfl⟩
theorem aRh:qp Tryz.prog 128=True:=eq_true ⟨_,Tryz.func128,of_decide_eq_false (by kernel_rfl),rfl⟩
theorem aRg:qp Tryz.prog 129=True:=eq_true ⟨_,Tryz.func129,of_decide_eq_false (by kernel_rfl),rfl⟩
theorem aRf:qp Tryz.prog 130=True:=eq_true ⟨_,Tryz.func130,of_decide_eq_false (by kernel_rfl),rfl⟩
theorem aRe:qp Tryz.prog 131=True:=eq_true ⟨_,Tryz.func131,of_decide_eq_false (by kernel_rfl),rfl⟩
theorem aRd:qp Tryz.prog 132=True:=eq_true ⟨_,Tryz.func132,of_decide_eq_false (by kernel_rfl),rfl⟩
theorem aRc:qp Tryz.prog 133=True:=eq_true ⟨_,Tryz.func133,of_decide_eq_false (by kernel_rfl),rfl⟩
theorem aRb:qp Tryz.prog 134=True:=eq_true ⟨_,Tryz.func134,of_decide_eq_false (by kernel_rfl),rfl⟩
theorem aRa:qp Tryz.prog 135=True:=eq_true ⟨_,Tryz.func135,of_decide_eq_false (by kernel_rfl),rfl⟩
theorem aQ9:qp Tryz.prog 136=True:=eq_true ⟨_,Tryz.func136,of_decide_eq_false (by kernel_rfl),rfl⟩
theorem aQ8:qp Tryz.prog 137=True:=eq_true ⟨_,Tryz.func137,of_decide_eq_false (by kernel_rfl),rfl⟩
theorem aQ7:qp Tryz.prog 138=True:=eq_true ⟨_,Tryz.func138,of_decide_eq_false (by kernel_rfl),rfl⟩
theorem aQ6:qp Tryz.prog 139=True:=eq_true ⟨_,Tryz.func139,of_decide_eq_false (by kernel_rfl),rfl⟩
theorem aQ5:qp Tryz.prog 140=True:=eq_true ⟨_,Tryz.func140,of_decide_eq_false (by kernel_rfl),rfl⟩
theorem aQ4:qp Tryz.prog 141=True:=eq_true ⟨_,Tryz.func141,of_decide_eq_false (by kernel_rfl),rfl⟩
theorem aQ3:qp Tryz.prog 142=True:=eq_true ⟨_,Tryz.func142,of_decide_eq_false (by kernel_rfl),rfl⟩
theorem aQ2:qp Tryz.prog 143=True:=eq_true ⟨_,Tryz.func143,of_decide_eq_false (by kernel_rfl),rfl⟩
theorem aQ1:qp Tryz.prog 144=True:=eq_true ⟨_,Tryz.func144,of_decide_eq_false (by kernel_rfl),rfl⟩
theorem aQ0:qp Tryz.prog 145=True:=eq_true ⟨_,Tryz.func145,of_decide_eq_false (by kernel_rfl),rfl⟩
theorem aQZ:qp Tryz.prog 146=True:=eq_true ⟨_,Tryz.func146,of_decide_eq_false (by kernel_rfl),rfl⟩
theorem aQY:qp Tryz.prog 147=True:=eq_true ⟨_,Tryz.func147,of_decide_eq_false (by kernel_rfl),rfl⟩
theorem aQX:qp Tryz.prog 148=True:=eq_true ⟨_,Tryz.func148,of_decide_eq_false (by kernel_rfl),rfl⟩
theorem aQW:qp Tryz.prog 149=True:=eq_true ⟨_,Tryz.func149,of_decide_eq_false (by kernel_rfl),rfl⟩
theorem aQV:qp Tryz.prog 150=True:=eq_true ⟨_,Tryz.func150,of_decide_eq_false (by kernel_rfl),rfl⟩
theorem aQU:qp Tryz.prog 151=True:=eq_true ⟨_,Tryz.func151,of_decide_eq_false (by kernel_rfl),rfl⟩
theorem aQT:qp Tryz.prog 152=True:=eq_true ⟨_,Tryz.func152,of_decide_eq_false (by kernel_rfl),rfl⟩
theorem aQS:qp Tryz.prog 153=True:=eq_true ⟨_,Tryz.func153,of_decide_eq_false (by kernel_rfl),rfl⟩
theorem aQR:qp Tryz.prog 154=True:=eq_true ⟨_,Tryz.func154,of_decide_eq_false (by kernel_rfl),rfl⟩
theorem aQQ:qp Tryz.prog 155=True:=eq_true ⟨_,Tryz.func155,of_decide_eq_false (by kernel_rfl),rfl⟩
theorem aQP:qp Tryz.prog 156=True:=eq_true ⟨_,Tryz.func156,of_decide_eq_false (by kernel_rfl),rfl⟩
theorem aQO:qp Tryz.prog 157=True:=eq_true ⟨_,Tryz.func157,of_decide_eq_false (by kernel_rfl),rfl⟩
theorem aQN:qp Tryz.prog 158=True:=eq_true ⟨_,Tryz.func158,of_decide_eq_false (by kernel_rfl),rfl⟩
theorem aQM:qp Tryz.prog 159=True:=eq_true ⟨_,Tryz.func159,of_decide_eq_false (by kernel_rfl),rfl⟩
theorem aQL:qp Tryz.prog 160=True:=eq_true ⟨_,Tryz.func160,of_decide_eq_false (by kernel_rfl),rfl⟩
theorem aQK:qp Tryz.prog 161=True:=eq_true ⟨_,Tryz.func161,of_decide_eq_false (by kernel_rfl),rfl⟩
theorem aQJ:qp Tryz.prog 162=True:=eq_true ⟨_,Tryz.func162,of_decide_eq_false (by kernel_rfl),rfl⟩
theorem aQI:qp Tryz.prog 163=True:=eq_true ⟨_,Tryz.func163,of_decide_eq_false (by kernel_rfl),rfl⟩
theorem aQH:qp Tryz.prog 164=True:=eq_true ⟨_,Tryz.func164,of_decide_eq_false (by kernel_rfl),rfl⟩
theorem aQG:qp Tryz.prog 165=True:=eq_true ⟨_,Tryz.func165,of_decide_eq_false (by kernel_rfl),rfl⟩
theorem aQF:qp Tryz.prog 166=True:=eq_true ⟨_,Tryz.func166,of_decide_eq_false (by kernel_rfl),rfl⟩
theorem aQE:qp Tryz.prog 167=True:=eq_true ⟨_,Tryz.func167,of_decide_eq_false (by kernel_rfl),rfl⟩
theorem aQD:qp Tryz.prog 168=True:=eq_true ⟨_,Tryz.func168,of_decide_eq_false (by kernel_rfl),rfl⟩
theorem aQC:qp Tryz.prog 169=True:=eq_true ⟨_,Tryz.func169,of_decide_eq_false (by kernel_rfl),rfl⟩
theorem aQB:qp Tryz.prog 170=True:=eq_true ⟨_,Tryz.func170,of_decide_eq_false (by kernel_rfl),rfl⟩
theorem aQA:qp Tryz.prog 171=True:=eq_true ⟨_,Tryz.func171,of_decide_eq_false (by kernel_rfl),rfl⟩
theorem aQz:qp Tryz.prog 172=True:=eq_true ⟨_,Tryz.func172,of_decide_eq_false (by kernel_rfl),rfl⟩
theorem aQy:qp Tryz.prog 173=True:=eq_true ⟨_,Tryz.func173,of_decide_eq_false (by kernel_rfl),rfl⟩
theorem aQx:qp Tryz.prog 174=True:=eq_true ⟨_,Tryz.func174,of_decide_eq_false (by kernel_rfl),rfl⟩
theorem aQw:qp Tryz.prog 175=True:=eq_true ⟨_,Tryz.func175,of_decide_eq_false (by kernel_rfl),rfl⟩
theorem aQv:qp Tryz.prog 176=True:=eq_true ⟨_,Tryz.func176,of_decide_eq_false (by kernel_rfl),rfl⟩
theorem aQu:qp Tryz.prog 177=True:=eq_true ⟨_,Tryz.func177,of_decide_eq_false (by kernel_rfl),rfl⟩
theorem aQt:qp Tryz.prog 178=True:=eq_true ⟨_,Tryz.func178,of_decide_eq_false (by kernel_rfl),rfl⟩
theorem aQs:qp Tryz.prog 179=True:=eq_true ⟨_,Tryz.func179,of_decide_eq_false (by kernel_rfl),rfl⟩
theorem aQr:qp Tryz.prog 180=True:=eq_true ⟨_,Tryz.func180,of_decide_eq_false (by kernel_rfl),rfl⟩
theorem aQq:qp Tryz.prog 181=True:=eq_true ⟨_,Tryz.func181,of_decide_eq_false (by kernel_rfl),rfl⟩
theorem aQp:qp Tryz.prog 182=True:=eq_true ⟨_,Tryz.func182,of_decide_eq_false (by kernel_rfl),rfl⟩
theorem aQo:qp Tryz.prog 183=True:=eq_true ⟨_,Tryz.func183,of_decide_eq_false (by kernel_rfl),rfl⟩
theorem aQn:qp Tryz.prog 184=True:=eq_true ⟨_,Tryz.func184,of_decide_eq_false (by kernel_rfl),rfl⟩
theorem aQm:qp Tryz.prog 185=True:=eq_true ⟨_,Tryz.func185,of_decide_eq_false (by kernel_rfl),rfl⟩
theorem aQl:qp Tryz.prog 186=True:=eq_true ⟨_,Tryz.func186,of_decide_eq_false (by kernel_rfl),rfl⟩
theorem aQk:qp Tryz.prog 187=True:=eq_true ⟨_,Tryz.func187,of_decide_eq_false (by kernel_rfl),rfl⟩
theorem aQj:qp Tryz.prog 188=True:=eq_true ⟨_,Tryz.func188,of_decide_eq_false (by kernel_rfl),rfl⟩
theorem aQi:qp Tryz.prog 189=True:=eq_true ⟨_,Tryz.func189,of_decide_eq_false (by kernel_rfl),rfl⟩
theorem aQh:qp Tryz.prog 190=True:=eq_true ⟨_,Tryz.func190,of_decide_eq_false (by kernel_rfl),rfl⟩
theorem aQg:qp Tryz.prog 191=True:=eq_true ⟨_,Tryz.func191,of_decide_eq_false (by kernel_rfl),rfl⟩
theorem aQf:qp Tryz.prog 192=True:=eq_true ⟨_,Tryz.func192,of_decide_eq_false (by kernel_rfl),rfl⟩
theorem aQe:qp Tryz.prog 193=True:=eq_true ⟨_,Tryz.func193,of_decide_eq_false (by kernel_rfl),rfl⟩
theorem aQd:qp Tryz.prog 194=True:=eq_true ⟨_,Tryz.func194,of_decide_eq_false (by kernel_rfl),rfl⟩
theorem aQc:qp Tryz.prog 195=True:=eq_true ⟨_,Tryz.func195,of_decide_eq_false (by kernel_rfl),rfl⟩
theorem aQb:qp Tryz.prog 196=True:=eq_true ⟨_,Tryz.func196,of_decide_eq_false (by kernel_rfl),rfl⟩
theorem aQa:qp Tryz.prog 197=True:=eq_true ⟨_,Tryz.func197,of_decide_eq_false (by kernel_rfl),rfl⟩
theorem aP9:qp Tryz.prog 198=True:=eq_true ⟨_,Tryz.func198,of_decide_eq_false (by kernel_rfl),rfl⟩
theorem aP8:qp Tryz.prog 199=True:=eq_true ⟨_,Tryz.func199,of_decide_eq_false (by kernel_rfl),rfl⟩
theorem aP7:qp Tryz.prog 200=True:=eq_true ⟨_,Tryz.func200,of_decide_eq_false (by kernel_rfl),rfl⟩
theorem aP6:qp Tryz.prog 201=True:=eq_true ⟨_,Tryz.func201,of_decide_eq_false (by kernel_rfl),rfl⟩
theorem aP5:qp Tryz.prog 202=True:=eq_true ⟨_,Tryz.func202,of_decide_eq_false (by kernel_rfl),rfl⟩
theorem aP4:qp Tryz.prog 203=True:=eq_true ⟨_,Tryz.func203,of_decide_eq_false (by kernel_rfl),rfl⟩
theorem aP3:qp Tryz.prog 204=True:=eq_true ⟨_,Tryz.func204,of_decide_eq_false (by kernel_rfl),rfl⟩
theorem aP2:qp Tryz.prog 205=True:=eq_true ⟨_,Tryz.func205,of_decide_eq_false (by kernel_rfl),rfl⟩
theorem aP1:qp Tryz.prog 206=True:=eq_true ⟨_,Tryz.func206,of_decide_eq_false (by kernel_rfl),rfl⟩
theorem aP0:qp Tryz.prog 207=True:=eq_true ⟨_,Tryz.func207,of_decide_eq_false (by kernel_rfl),rfl⟩
theorem aPZ:qp Tryz.prog 208=True:=eq_true ⟨_,Tryz.func208,of_decide_eq_false (by kernel_rfl),rfl⟩
theorem aPY:qp Tryz.prog 209=True:=eq_true ⟨_,Tryz.func209,of_decide_eq_false (by kernel_rfl),rfl⟩
theorem aPX:qp Tryz.prog 210=True:=eq_true ⟨_,Tryz.func210,of_decide_eq_false (by kernel_rfl),rfl⟩
theorem aPW:qp Tryz.prog 211=True:=eq_true ⟨_,Tryz.func211,of_decide_eq_false (by kernel_rfl),rfl⟩
theorem aPV:qp Tryz.prog 212=True:=eq_true ⟨_,Tryz.func212,of_decide_eq_false (by kernel_rfl),rfl⟩
theorem aPU:qp Tryz.prog 213=True:=eq_true ⟨_,Tryz.func213,of_decide_eq_false (by kernel_rfl),rfl⟩
theorem aPT:qp Tryz.prog 214=True:=eq_true ⟨_,Tryz.func214,of_decide_eq_false (by kernel_rfl),rfl⟩
theorem aPS:qp Tryz.prog 215=True:=eq_true ⟨_,Tryz.func215,of_decide_eq_false (by kernel_rfl),rfl⟩
theorem aPR:qp Tryz.prog 216=True:=eq_true ⟨_,Tryz.func216,of_decide_eq_false (by kernel_rfl),rfl⟩
theorem aPQ:qp Tryz.prog 217=True:=eq_true ⟨_,Tryz.func217,of_decide_eq_false (by kernel_rfl),rfl⟩
theorem aPP:qp Tryz.prog 218=True:=eq_true ⟨_,Tryz.func218,of_decide_eq_false (by kernel_rfl),rfl⟩
theorem aPO:qp Tryz.prog 219=True:=eq_true ⟨_,Tryz.func219,of_decide_eq_false (by kernel_rfl),rfl⟩
theorem aPN:qp Tryz.prog 220=True:=eq_true ⟨_,Tryz.func220,of_decide_eq_false (by kernel_rfl),rfl⟩
theorem aPM:qp Tryz.prog 221=True:=eq_true ⟨_,Tryz.func221,of_decide_eq_false (by kernel_rfl),rfl⟩
theorem aPL:qp Tryz.prog 222=True:=eq_true ⟨_,Tryz.func222,of_decide_eq_false (by kernel_rfl),rfl⟩
theorem aPK:qp Tryz.prog 223=True:=eq_true ⟨_,Tryz.func223,of_decide_eq_false (by kernel_rfl),rfl⟩
theorem aPJ:qp Tryz.prog 224=True:=eq_true ⟨_,Tryz.func224,of_decide_eq_false (by kernel_rfl),rfl⟩
theorem aPI:qp Tryz.prog 225=True:=eq_true ⟨_,Tryz.func225,of_decide_eq_false (by kernel_rfl),rfl⟩
theorem aPH:qp Tryz.prog 226=True:=eq_true ⟨_,Tryz.func226,of_decide_eq_false (by kernel_rfl),rfl⟩
theorem aPG:qp Tryz.prog 227=True:=eq_true ⟨_,Tryz.func227,of_decide_eq_false (by kernel_rfl),rfl⟩
theorem aPF:qp Tryz.prog 228=True:=eq_true ⟨_,Tryz.func228,of_decide_eq_false (by kernel_rfl),rfl⟩
theorem aPE:qp Tryz.prog 229=True:=eq_true ⟨_,Tryz.func229,of_decide_eq_false (by kernel_rfl),rfl⟩
theorem aPD:qp Tryz.prog 230=True:=eq_true ⟨_,Tryz.func230,of_decide_eq_false (by kernel_rfl),rfl⟩
theorem aPC:qp Tryz.prog 231=True:=eq_true ⟨_,Tryz.func231,of_decide_eq_false (by kernel_rfl),rfl⟩
theorem aPB:qp Tryz.prog 232=True:=eq_true ⟨_,Tryz.func232,of_decide_eq_false (by kernel_rfl),rfl⟩
theorem aPA:qp Tryz.prog 233=True:=eq_true ⟨_,Tryz.func233,of_decide_eq_false (by kernel_rfl),rfl⟩
theorem aPz:qp Tryz.prog 234=True:=eq_true ⟨_,Tryz.func234,of_decide_eq_false (by kernel_rfl),rfl⟩
theorem aPy:qp Tryz.prog 235=True:=eq_true ⟨_,Tryz.func235,of_decide_eq_false (by kernel_rfl),rfl⟩
theorem aPx:qp Tryz.prog 236=True:=eq_true ⟨_,Tryz.func236,of_decide_eq_false (by kernel_rfl),rfl⟩
theorem aPw:qp Tryz.prog 237=True:=eq_true ⟨_,Tryz.func237,of_decide_eq_false (by kernel_rfl),rfl⟩
theorem aPv:qp Tryz.prog 238=True:=eq_true ⟨_,Tryz.func238,of_decide_eq_false (by kernel_rfl),rfl⟩
theorem aPu:qp Tryz.prog 239=True:=eq_true ⟨_,Tryz.func239,of_decide_eq_false (by kernel_rfl),rfl⟩
theorem aPt:qp Tryz.prog 240=True:=eq_true ⟨_,Tryz.func240,of_decide_eq_false (by kernel_rfl),rfl⟩
theorem aPs:qp Tryz.prog 241=True:=eq_true ⟨_,Tryz.func241,of_decide_eq_false (by kernel_rfl),rfl⟩
theorem aPr:qp Tryz.prog 242=True:=eq_true ⟨_,Tryz.func242,of_decide_eq_false (by kernel_rfl),rfl⟩
theorem aPq:qp Tryz.prog 243=True:=eq_true ⟨_,Tryz.func243,of_decide_eq_false (by kernel_rfl),rfl⟩
theorem aPp:qp Tryz.prog 244=True:=eq_true ⟨_,Tryz.func244,of_decide_eq_false (by kernel_rfl),rfl⟩
theorem aPo:qp Tryz.prog 245=True:=eq_true ⟨_,Tryz.func245,of_decide_eq_false (by kernel_rfl),rfl⟩
theorem aPn:qp Tryz.prog 246=True:=eq_true ⟨_,Tryz.func246,of_decide_eq_false (by kernel_rfl),rfl⟩
theorem aPm:qp Tryz.prog 247=True:=eq_true ⟨_,Tryz.func247,of_decide_eq_false (by kernel_rfl),rfl⟩
theorem aPl:qp Tryz.prog 248=True:=eq_true ⟨_,Tryz.func248,of_decide_eq_false (by kernel_rfl),rfl⟩
theorem aPk:qp Tryz.prog 249=True:=eq_true ⟨_,Tryz.func249,of_decide_eq_false (by kernel_rfl),rfl⟩
theorem aPj:qp Tryz.prog 250=True:=eq_true ⟨_,Tryz.func250,of_decide_eq_false (by kernel_rfl),rfl⟩
theorem aPi:qp Tryz.prog 251=True:=eq_true ⟨_,Tryz.func251,of_decide_eq_false (by kernel_rfl),rfl⟩
theorem aPh:qp Tryz.prog 252=True:=eq_true ⟨_,Tryz.func252,of_decide_eq_false (by kernel_rfl),rfl⟩
theorem aPg:qp Tryz.prog 253=True:=eq_true ⟨_,Tryz.func253,of_decide_eq_false (by kernel_rfl),rfl⟩
theorem aPf:qp Tryz.prog 254=True:=eq_true ⟨_,Tryz.func254,of_decide_eq_false (by kernel_rfl),rfl⟩
theorem aPe:qp Tryz.prog 255=True:=eq_true ⟨_,Tryz.func255,of_decide_eq_false (by kernel_rfl),rfl⟩
theorem aPd:qp Tryz.prog 256=True:=eq_true ⟨_,Tryz.func256,of_decide_eq_false (by kernel_rfl),rfl⟩
theorem aPc:qp Tryz.prog 257=True:=eq_true ⟨_,Tryz.func257,of_decide_eq_false (by kernel_rfl),rfl⟩
theorem aPb:qp Tryz.prog 258=True:=eq_true ⟨_,Tryz.func258,of_decide_eq_false (by kernel_rfl),rfl⟩
theorem aPa:qp Tryz.prog 259=True:=eq_true ⟨_,Tryz.func259,of_decide_eq_false (by kernel_rfl),rfl⟩
theorem aO9:qp Tryz.prog 260=True:=eq_true ⟨_,Tryz.func260,of_decide_eq_false (by kernel_rfl),rfl⟩
theorem aO8:qp Tryz.prog 261=True:=eq_true ⟨_,Tryz.func261,of_decide_eq_false (by kernel_rfl),rfl⟩
theorem aO7:qp Tryz.prog 262=True:=eq_true ⟨_,Tryz.func262,of_decide_eq_false (by kernel_rfl),rfl⟩
theorem aO6:qp Tryz.prog 263=True:=eq_true ⟨_,Tryz.func263,of_decide_eq_false (by kernel_rfl),rfl⟩
theorem aO5:qp Tryz.prog 264=True:=eq_true ⟨_,Tryz.func264,of_decide_eq_false (by kernel_rfl),rfl⟩
theorem aO4:qp Tryz.prog 265=True:=eq_true ⟨_,Tryz.func265,of_decide_eq_false (by kernel_rfl),rfl⟩
theorem aO3:qp Tryz.prog 266=True:=eq_true ⟨_,Tryz.func266,of_decide_eq_false (by kernel_rfl),rfl⟩
theorem aO2:qp Tryz.prog 267=True:=eq_true ⟨_,Tryz.func267,of_decide_eq_false (by kernel_rfl),rfl⟩
theorem aO1:qp Tryz.prog 268=True:=eq_true ⟨_,Tryz.func268,of_decide_eq_false (by kernel_rfl),rfl⟩
theorem aO0:qp Tryz.prog 269=True:=eq_true ⟨_,Tryz.func269,of_decide_eq_false (by kernel_rfl),rfl⟩
theorem aOZ:qp Tryz.prog 270=True:=eq_true ⟨_,Tryz.func270,of_decide_eq_false (by kernel_rfl),rfl⟩
theorem aOY:qp Tryz.prog 271=True:=eq_true ⟨_,Tryz.func271,of_decide_eq_false (by kernel_rfl),rfl⟩
theorem aOX:qp Tryz.prog 272=True:=eq_true ⟨_,Tryz.func272,of_decide_eq_false (by kernel_rfl),rfl⟩
theorem aOW:qp Tryz.prog 273=True:=eq_true ⟨_,Tryz.func273,of_decide_eq_false (by kernel_rfl),rfl⟩
theorem aOV:qp Tryz.prog 274=True:=eq_true ⟨_,Tryz.func274,of_decide_eq_false (by kernel_rfl),rfl⟩
theorem aOU:qp Tryz.prog 275=True:=eq_true ⟨_,Tryz.func275,of_decide_eq_false (by kernel_rfl),rfl⟩
theorem aOT:qp Tryz.prog 276=True:=eq_true ⟨_,Tryz.func276,of_decide_eq_false (by kernel_rfl),rfl⟩
theorem aOS:qp Tryz.prog 277=True:=eq_true ⟨_,Tryz.func277,of_decide_eq_false (by kernel_rfl),rfl⟩
theorem aOR:qp Tryz.prog 278=True:=eq_true ⟨_,Tryz.func278,of_decide_eq_false (by kernel_rfl),rfl⟩
theorem aOQ:qp Tryz.prog 279=True:=eq_true ⟨_,Tryz.func279,of_decide_eq_false (by kernel_rfl),rfl⟩
theorem aOP:qp Tryz.prog 280=True:=eq_true ⟨_,Tryz.func280,of_decide_eq_false (by kernel_rfl),rfl⟩
theorem aOO:qp Tryz.prog 281=True:=eq_true ⟨_,Tryz.func281,of_decide_eq_false (by kernel_rfl),rfl⟩
theorem aON:qp Tryz.prog 282=True:=eq_true ⟨_,Tryz.func282,of_decide_eq_false (by kernel_rfl),rfl⟩
theorem aOM:qp Tryz.prog 283=True:=eq_true ⟨_,Tryz.func283,of_decide_eq_false (by kernel_rfl),rfl⟩
theorem aOL:qp Tryz.prog 284=True:=eq_true ⟨_,Tryz.func284,of_decide_eq_false (by kernel_rfl),rfl⟩
theorem aOK:qp Tryz.prog 285=True:=eq_true ⟨_,Tryz.func285,of_decide_eq_false (by kernel_rfl),rfl⟩
theorem aOJ:qp Tryz.prog 286=True:=eq_true ⟨_,Tryz.func286,of_decide_eq_false (by kernel_rfl),rfl⟩
theorem aOI:qp Tryz.prog 287=True:=eq_true ⟨_,Tryz.func287,of_decide_eq_false (by kernel_rfl),rfl⟩
theorem aOH:qp Tryz.prog 288=True:=eq_true ⟨_,Tryz.func288,of_decide_eq_false (by kernel_rfl),rfl⟩
theorem aOG:qp Tryz.prog 289=True:=eq_true ⟨_,Tryz.func289,of_decide_eq_false (by kernel_rfl),rfl⟩
theorem aOF:qp Tryz.prog 290=True:=eq_true ⟨_,Tryz.func290,of_decide_eq_false (by kernel_rfl),rfl⟩
theorem aOE:qp Tryz.prog 291=True:=eq_true ⟨_,Tryz.func291,of_decide_eq_false (by kernel_rfl),rfl⟩
theorem aOD:qp Tryz.prog 292=True:=eq_true ⟨_,Tryz.func292,of_decide_eq_false (by kernel_rfl),rfl⟩
theorem aOC:qp Tryz.prog 293=True:=eq_true ⟨_,Tryz.func293,of_decide_eq_false (by kernel_rfl),rfl⟩
theorem aOB:qp Tryz.prog 294=True:=eq_true ⟨_,Tryz.func294,of_decide_eq_false (by kernel_rfl),rfl⟩
theorem aOA:qp Tryz.prog 295=True:=eq_true ⟨_,Tryz.func295,of_decide_eq_false (by kernel_rfl),rfl⟩
theorem aOz:qp Tryz.prog 296=True:=eq_true ⟨_,Tryz.func296,of_decide_eq_false (by kernel_rfl),rfl⟩
theorem aOy:qp Tryz.prog 297=True:=eq_true ⟨_,Tryz.func297,of_decide_eq_false (by kernel_rfl),rfl⟩
theorem aOx:qp Tryz.prog 298=True:=eq_true ⟨_,Tryz.func298,of_decide_eq_false (by kernel_rfl),rfl⟩
theorem aOw:qp Tryz.prog 299=True:=eq_true ⟨_,Tryz.func299,of_decide_eq_false (by kernel_rfl),rfl⟩
theorem aOv:qp Tryz.prog 300=True:=eq_true ⟨_,Tryz.func300,of_decide_eq_false (by kernel_rfl),rfl⟩
theorem aOu:qp Tryz.prog 301=True:=eq_true ⟨_,Tryz.func301,of_decide_eq_false (by kernel_rfl),rfl⟩
theorem aOt:qp Tryz.prog 302=True:=eq_true ⟨_,Tryz.func302,of_decide_eq_false (by kernel_rfl),rfl⟩
theorem aOs:qp Tryz.prog 303=True:=eq_true ⟨_,Tryz.func303,of_decide_eq_false (by kernel_rfl),rfl⟩
theorem aOr:qp Tryz.prog 304=True:=eq_true ⟨_,Tryz.func304,of_decide_eq_false (by kernel_rfl),rfl⟩
theorem aOq:qp Tryz.prog 305=True:=eq_true ⟨_,Tryz.func305,of_decide_eq_false (by kernel_rfl),rfl⟩
theorem aOp:qp Tryz.prog 330=True:=eq_true ⟨_,Tryz.func330,of_decide_eq_false (by kernel_rfl),rfl⟩
attribute [go_sem] ty1 aMA aHD au9 alV aMy aMz ty2 aMx aHb
attribute [go_sem] arZ akF aMv aMw ty3 aMu akw arQ akv aMs
attribute [go_sem] aMt ty4 aMr akj arH aki aMp aMq ty5 aMo
attribute [go_sem] aF0 ary aj9 aMm aMn ty6 aMl aFB aro aj0
attribute [go_sem] aMj aMk ty7 aMi aFf arg ajS aMg aMh aRS
attribute [go_sem] aYl aRR aYk aRQ aYj aRP aYi bc4 ty8 aMf
attribute [go_sem] aEN aq5 ajI aMd aMe aRO aYh aRN aYg aRM
attribute [go_sem] aYf aRL aYe bc3 ty9 aMc aEo aqW ajz aMa
attribute [go_sem] aMb bbO aHM azc anj ahX aHK aHL bbN aHJ
attribute [go_sem] ayK am8 ahN aHH aHI bbM aHG ayf amX ahC
attribute [go_sem] aHE aHF bbL aHC aug alz agi aHA aHB bbK
attribute [go_sem] aHz atL alo af6 aHx aHy aX3 bbJ aHw atm
attribute [go_sem] ale afX aHu aHv aX2 bbI aHt asU ak4 afN
attribute [go_sem] aHr aHs aKB aNL bap bbH aHq asy akW afF
attribute [go_sem] aHo aHp aKA aNK bao bbG aHn asc akN afx
attribute [go_sem] aHl aHm aKz aNJ aKy aNI ban bbF aHk ar2
attribute [go_sem] akJ aft aHi aHj aKx aNH aKw aNG bam bbE
attribute [go_sem] aHh ar1 akH afs aHf aHg aKv aNF aKu aNE
attribute [go_sem] bal bbD aHe ar0 akG afr aHc aHd aKt aND
attribute [go_sem] aKs aNC bak bbC aHa arY akE afq aG8 aG9
attribute [go_sem] bbB aG7 arX akD afp aG5 aG6 bbA aG4 arW
attribute [go_sem] akC afo aG2 aG3 bbz aG1 arV akB afn aGZ
attribute [go_sem] aG0 bby aGY arU akA afm aGW aGX bbx aGV
attribute [go_sem] arT akz afl aGT aGU bbw aGS arS aky afk
attribute [go_sem] aGQ aGR bbv aGP arR akx afj aGN aGO bbu
attribute [go_sem] aGM arP aku afi aGK aGL aX1 bbt aGJ arO
attribute [go_sem] aks afh aGH aGI aKr aNB aKq aNA baj bbs
attribute [go_sem] aGG arN akq afg aGE aGF aKp aNz aKo aNy
attribute [go_sem] bai bbr aGD arM akp aff aGB aGC bbq aGA
attribute [go_sem] arL ako afe aGy aGz bbp aGx arK akn afd
attribute [go_sem] aGv aGw bbo aGu arJ akm afc aGs aGt bbn
attribute [go_sem] aGr arI akk afb aGp aGq aKn aNx aKm aNw
attribute [go_sem] bah bbm aGo arG akh afa aGm aGn aKl aNv
attribute [go_sem] aKk aNu bag bbl aGl arF akg ae9 aGj aGk
attribute [go_sem] bbk aGi arE akf ae8 aGg aGh bbj aGf arD
attribute [go_sem] ake ae7 aGd aGe bbi aGc arC akd ae6 aGa
attribute [go_sem] aGb bbh aF9 arB akc ae5 aF7 aF8 bbg aF6
attribute [go_sem] arA akb ae4 aF4 aF5 bbf aF3 arz aka ae3
attribute [go_sem] aF1 aF2 bbe aFZ arx aj8 ae2 aFX aFY bbd
attribute [go_sem] aFW arw aj7 ae1 aFU aFV bbc aFT arv aj6
attribute [go_sem] aeZ aFR aFS aKj aNt aKi aNs aKh aNr aKg
attribute [go_sem] aNq baf bbb aFQ aru aj5 aeY aFO aFP aKf
attribute [go_sem] aNp aKe aNo aKd aNn aKc aNm bae bba aFN
attribute [go_sem] art aj4 aeX aFL aFM ba9 aFK ars aj3 aeW
attribute [go_sem] aFI aFJ ba8 aFH arq aj2 aeV aFF aFG ba7
attribute [go_sem] aFE arp aj1 aeU aFC aFD ba6 aFA arn ajZ
attribute [go_sem] aeT aFy aFz ba5 aFx arm ajY aeS aFv aFw
attribute [go_sem] ba4 aFu arl ajX aeR aFs aFt ba3 aFr ark
attribute [go_sem] ajW aeQ aFp aFq ba2 aFo arj ajV aeP aFm
attribute [go_sem] aFn ba1 aFl ari ajU aeO aFj aFk ba0 aFi
attribute [go_sem] arh ajT aeN aFg aFh baZ aFe arf ajR aeM
attribute [go_sem] aFc aFd baY aFb ard ajQ aeL aE9 aFa baX
attribute [go_sem] aE8 arc ajP aeK aE6 aE7 baW aE5 arb ajO
attribute [go_sem] aeJ aE3 aE4 baV aE2 ara ajN aeI aE0 aE1
attribute [go_sem] baU aEZ aq9 ajM aeH aEX aEY baT aEW aq8
attribute [go_sem] ajL aeG aEU aEV baS aET aq7 ajK aeF aER
attribute [go_sem] aES baR aEQ aq6 ajJ aeE aEO aEP aKb aNl
attribute [go_sem] aKa aNk aJ9 aNj bac baQ aEM aq4 ajH aeD
attribute [go_sem] aEK aEL aJ8 aNi aJ7 aNh aJ6 aNg bab baP
attribute [go_sem] aEJ aq3 ajG aeC aEH aEI baO aEG aq2 ajF
attribute [go_sem] aeB aEE aEF baN aED aq1 ajE aeA aEB aEC
attribute [go_sem] baM aEA aq0 ajD aez aEy aEz baL aEx aqZ
attribute [go_sem] ajC aey aEv aEw baK aEu aqY ajB aex aEs
attribute [go_sem] aEt baJ aEr aqX ajA aew aEp aEq aVF azG
attribute [go_sem] ant ah7 acU azE azF aMY aVE azD ans ah6
attribute [go_sem] acT azB azC aBA aIM aBz aIL aSA aVD azA
attribute [go_sem] anr ah5 acS azy azz aBy aIK aBx aIJ aSz
attribute [go_sem] aVC azx anq ah4 acR azv azw aVB azu anp
attribute [go_sem] ah3 acQ azs azt aVA azr ano ah2 acP azp
attribute [go_sem] azq aVz azo ann ah1 acO azm azn aVy azl
attribute [go_sem] anm ah0 acN azj azk aVx azi anl ahZ acM
attribute [go_sem] azg azh aVw azf ank ahY acL azd aze aVv
attribute [go_sem] azb ani ahW acK ay9 aza aBw aII aBv aIH
attribute [go_sem] aSy aVu ay8 anh ahV acJ ay6 ay7 aBu aIG
attribute [go_sem] aBt aIF aSx aVt ay5 ang ahU acI ay3 ay4
attribute [go_sem] aVs ay2 anf ahT acH ay0 ay1 aVr ayZ ane
attribute [go_sem] ahS acG ayX ayY aVq ayW anc ahR acF ayU
attribute [go_sem] ayV aVp ayT anb ahQ acE ayR ayS aVo ayQ
attribute [go_sem] ana ahP acD ayO ayP aVn ayN am9 ahO acC
attribute [go_sem] ayL ayM aVm ayJ am7 ahM acB ayH ayI aVl
attribute [go_sem] ayG am6 ahL acA ayE ayF aVk ayD am5 ahK
attribute [go_sem] acz ayB ayC aVj ayA am4 ahJ acy ayy ayz
attribute [go_sem] aVi ayx am3 ahI acx ayv ayw aVh ayu am2
attribute [go_sem] ahH acw ays ayt aVg ayr am1 ahG acv ayp
attribute [go_sem] ayq aVf ayo am0 ahF acu aym ayn aVe ayl
attribute [go_sem] amZ ahE act ayj ayk aVd ayi amY ahD acs
attribute [go_sem] ayg ayh aVc aye amW ahB acr ayc ayd aVb
attribute [go_sem] ayb amV ahA acq ax9 aya aVa ax8 amU ahz
attribute [go_sem] acp ax6 ax7 aU9 ax5 amT ahy aco ax3 ax4
attribute [go_sem] aU8 ax2 amS ahx acn ax0 ax1 aU7 axZ amR
attribute [go_sem] ahw acm axX axY aU6 axW amQ ahv acl axU
attribute [go_sem] axV aU5 axT amP ahu ack axR axS aU4 axQ
attribute [go_sem] amO aht acj axO axP aU3 axN amN ahs aci
attribute [go_sem] axL axM aU2 axK amM ahr ach axI axJ aU1
attribute [go_sem] axH amL ahq acg axF axG aBs aIE aBr aID
attribute [go_sem] aBq aIC aSw aU0 axE amK ahp acf axC axD
attribute [go_sem] aBp aIB aBo aIA aBn aIz aSv aUZ axB amJ
attribute [go_sem] aho ace axz axA aUY axy amI ahn acd axw
attribute [go_sem] axx aUX axv amH ahm acb axt axu aUW axs
attribute [go_sem] amG ahl aca axq axr aUV axp amF ahk ab9
attribute [go_sem] axn axo aUU axm amE ahj ab8 axk axl aUT
attribute [go_sem] axj amD ahi ab7 axh axi aUS axg amC ahh
attribute [go_sem] ab6 axe axf aUR axd amB ahg ab5 axb axc
attribute [go_sem] aUQ axa amA ahf ab4 aw8 aw9 aMX aUP aw7
attribute [go_sem] amz ahe ab3 aw5 aw6 aBm aIy aBl aIx aSu
attribute [go_sem] aUO aw4 amy ahd ab2 aw2 aw3 aBk aIw aBj
attribute [go_sem] aIv aSt aUN aw1 amx ahc ab1 awZ aw0 aUM
attribute [go_sem] awY amw ahb ab0 awW awX aMW aUL awU amv
attribute [go_sem] aha abZ awS awT aBi aIu aBh aIt aSs aUK
attribute [go_sem] awR amu ag9 abY awP awQ aBg aIs aBf aIr
attribute [go_sem] aSr aUJ awO amt ag8 abX awM awN aUI awL
attribute [go_sem] ams ag7 abW awJ awK aUH awI amr ag6 abV
attribute [go_sem] awG awH aUG awF amq ag5 abU awD awE aUF
attribute [go_sem] awC amp ag4 abT awA awB aUE awz amo ag3
attribute [go_sem] abS awx awy aUD aww amn ag2 abR awu awv
attribute [go_sem] aUC awt amm ag1 abQ awr aws aUB awq aml
attribute [go_sem] ag0 abP awn awo aUA awm amk agZ abO awk
attribute [go_sem] awl aUz awj amj agY abN awh awi aUy awg
attribute [go_sem] ami agX abM awe awf aUx awd amh agW abL
attribute [go_sem] awb awc aUw awa amg agV abK av8 av9 aUv
attribute [go_sem] av7 amf agU abJ av5 av6 aUu av4 ame agT
attribute [go_sem] abI av2 av3 aUt av1 amd agS abH avZ av0
attribute [go_sem] aUs avY amc agR abG avW avX aUr avV amb
attribute [go_sem] agQ abF avT avU aUq avS ama agP abE avQ
attribute [go_sem] avR aMV aUp avP al9 agO abD avN avO aUo
attribute [go_sem] avM al8 agN abC avK avL aUn avJ al7 agM
attribute [go_sem] abB avH avI aUm avG al6 agL abA avE avF
attribute [go_sem] aUl avD al5 agK abz avB avC aUk avA al4
attribute [go_sem] agJ aby avy avz aUj avx al3 agI abx avv
attribute [go_sem] avw aUi avu al2 agH abw avs avt aUh avr
attribute [go_sem] al1 agG abv avp avq aUg avo al0 agF abu
attribute [go_sem] avm avn aUf avl alZ agE abt avj avk aUe
attribute [go_sem] avi alY agD abr avg avh aUd avf alX agC
attribute [go_sem] abq avd ave aUc avc alW agB abp ava avb
attribute [go_sem] aUb au8 alU agA abo au6 au7 aUa au5 alT
attribute [go_sem] agz abn au3 au4 aT9 au2 alS agy abm au0
attribute [go_sem] au1 aT8 auZ alR agx abl auX auY aT7 auW
attribute [go_sem] alQ agw abk auU auV aT6 auT alP agv abj
attribute [go_sem] auR auS aT5 auQ alO agu abi auO auP aT4
attribute [go_sem] auN alN agt abh auL auM aT3 auK alM ags
attribute [go_sem] abg auI auJ aT2 auH alL agr abf auF auG
attribute [go_sem] aT1 auE alK agq abe auC auD aT0 auB alJ
attribute [go_sem] agp abd auz auA aTZ auy alI ago abc auw
attribute [go_sem] aux aTY auv alH agn abb aut auu aTX aus
attribute [go_sem] alG agm aba auq aur aTW aup alD agl aa9
attribute [go_sem] aun auo aTV aum alC agk aa8 auk aul aTU
attribute [go_sem] auj alB agj aa7 auh aui aTT auf aly agh
attribute [go_sem] aa6 aud aue aTS auc alx agf aa5 aua aub
attribute [go_sem] aTR at9 alw age aa4 at7 at8 aMU aTQ at6
attribute [go_sem] alv agd aa3 at4 at5 aTP at3 alu agc aa2
attribute [go_sem] at1 at2 aTO at0 alt agb aa1 atY atZ aTN
attribute [go_sem] atX als aga aaZ atV atW aTM atU alr af9
attribute [go_sem] aaY atS atT aTL atR alq af8 aaX atP atQ
attribute [go_sem] aTK atO alp af7 aaW atM atN aTJ atK aln
attribute [go_sem] af5 aaV atI atJ aTI atH alm af4 aaU atF
attribute [go_sem] atG aTH atE alk af3 aaT atC atD aTG atB
attribute [go_sem] alj af2 aaS atz atA aTF aty ali af1 aaR
attribute [go_sem] atw atx aTE atv alh af0 aaQ att atu aTD
attribute [go_sem] ats alg afZ aaP atq atr aTC atp alf afY
attribute [go_sem] aaO atn ato aTB atl ald afW aaN atj atk
attribute [go_sem] aTA ati alc afV aaM atg ath aTz atf alb
attribute [go_sem] afU aaL atd ate aTy atc ala afT aaK ata
attribute [go_sem] atb aTx as9 ak9 afS aaJ as7 as8 aTw as6
attribute [go_sem] ak8 afR aaI as4 as5 aTv as3 ak7 afQ aaH
attribute [go_sem] as1 as2 aTu as0 ak6 afP aaG asY asZ aTt
attribute [go_sem] asX ak5 afO aaF asV asW aTs asT ak3 afM
attribute [go_sem] aaE asR asS aTr asQ ak2 afL aaD asO asP
attribute [go_sem] aTq asN ak1 afK aaC asL asM aTp asK ak0
attribute [go_sem] afJ aaB asI asJ aTo asH akZ afI aaA asF
attribute [go_sem] asG aTn asE akY afH aaz asC asD aTm asB
attribute [go_sem] akX afG aay asz asA aTl asx akU afE aax
attribute [go_sem] asv asw aTk asu akT afD aaw ass ast aTj
attribute [go_sem] asr akS afC aav asp asq aTi aso akR afB
attribute [go_sem] aau asm asn aTh asl akQ afA aat asj ask
attribute [go_sem] aTg asi akP afz aas asg ash aTf asf akO
attribute [go_sem] afy aar asd ase aTe asb akM afw aaq ar9
attribute [go_sem] asa aTd ar8 akL afv aap ar6 ar7 aTc ar5
attribute [go_sem] akK afu aao ar3 ar4 bc0 bcZ bcY bcX bcW
attribute [go_sem] bcV bcU bcT aZ5 aZ4 aZ3 aZ2 aZ1 aZ0 aZZ
attribute [go_sem] aZY aZX aZW aZV aZU aZT aZS aZR aZQ aZP
attribute [go_sem] aZO aZN aZM aZL aZK aZJ aZI aZH aZG aZF
attribute [go_sem] aZE aZD aZC aZB aZA aZz aZy aZx aZw aZv
attribute [go_sem] aZu aZt aZs aZr aZq aZp aZo aZn aZm aZl
attribute [go_sem] aZk aZj aZi aZh aZg aZf aZe aZd aZc aZb
attribute [go_sem] aZa aY9 aY8 aY7 aY6 aY5 aY4 aY3 aY2 aY1
attribute [go_sem] aY0 aYZ aYY aYX aYW aYV aYU aYT aYS aYR
attribute [go_sem] aYQ aYP aYO aYN aYM aYL aYK aYJ aYI aYH
attribute [go_sem] aYG aYF aYE aRJ aRI aRH aRG aRF aRE aRD
attribute [go_sem] aRC aRB aRA aRz aRy aRx aRw aRv aRu aRt
attribute [go_sem] aRs aRr aRq aRp aRo aRn aRm aRl aRk aRj
attribute [go_sem] aRi aRh aRg aRf aRe aRd aRc aRb aRa aQ9
attribute [go_sem] aQ8 aQ7 aQ6 aQ5 aQ4 aQ3 aQ2 aQ1 aQ0 aQZ
attribute [go_sem] aQY aQX aQW aQV aQU aQT aQS aQR aQQ aQP
attribute [go_sem] aQO aQN aQM aQL aQK aQJ aQI aQH aQG aQF
attribute [go_sem] aQE aQD aQC aQB aQA aQz aQy aQx aQw aQv
attribute [go_sem] aQu aQt aQs aQr aQq aQp aQo aQn aQm aQl
attribute [go_sem] aQk aQj aQi aQh aQg aQf aQe aQd aQc aQb
attribute [go_sem] aQa aP9 aP8 aP7 aP6 aP5 aP4 aP3 aP2 aP1
attribute [go_sem] aP0 aPZ aPY aPX aPW aPV aPU aPT aPS aPR
attribute [go_sem] aPQ aPP aPO aPN aPM aPL aPK aPJ aPI aPH
attribute [go_sem] aPG aPF aPE aPD aPC aPB aPA aPz aPy aPx
attribute [go_sem] aPw aPv aPu aPt aPs aPr aPq aPp aPo aPn
attribute [go_sem] aPm aPl aPk aPj aPi aPh aPg aPf aPe aPd
attribute [go_sem] aPc aPb aPa aO9 aO8 aO7 aO6 aO5 aO4 aO3
attribute [go_sem] aO2 aO1 aO0 aOZ aOY aOX aOW aOV aOU aOT
attribute [go_sem] aOS aOR aOQ aOP aOO aON aOM aOL aOK aOJ
attribute [go_sem] aOI aOH aOG aOF aOE aOD aOC aOB aOA aOz
attribute [go_sem] aOy aOx aOw aOv aOu aOt aOs aOr aOq aOp
end Go.Ab
namespace Go.Ab
open Go Go.Proofs
set_option maxRecDepth 100000 in
theorem adB(U V:List Int)(j:Nat)(hU:gd U)(hV:gd V)(lU:U.length≤2000000)(h2:2≤V.length)(hj:j+V.length<U.length)(hv1:32768≤V.getD (V.length-1) 0)(hW:vl (U.drop j)<65536*vl V):
  Con Tryz.prog 296 true [.sl U.length (qg U),.sl V.length (qg V),.v (.int .i64 j)] [] (fun r hs bs=>∃q:Int,r=.v (.int .i64 q)∧hs=[]∧bs=[]∧(0≤q∧q<65536)∧vl (U.drop j)<(q+1)*vl V∧q*vl V<vl (U.drop j)+vl V):=by
 refine Con.of_aw Tryz.func296 rfl Tryz.ntmps296 (by simp) (by simp) (by simp) (W.sound ?_)
 show @W Tryz.prog 76 ⟨_⟩ ⟨fun x σ=>@qV _ _ _ ⟨_⟩ _ ⟨_⟩ x σ⟩ _ _
 have hDl:V.length<(U.drop j).length:=by simp;omega
 have hz:=adR (jm hU j) hV hDl hW
 have hw:=aL1 hDl h2 hz
 have hvv:=aEf h2
 rw[jb,jb,jb]at hw
 have hx0:=qL (zL (jm hU j) (V.length-2))
 have hx1:=yS (zL (jm hU j) (V.length-2))
 have hy0:=qL (zL hV (V.length-2))
 have hy1:=yS (zL hV (V.length-2))
 rw[List.length_take,Nat.min_eq_left (by omega)]at hx1 hy1
 have gu0:=qJ hU (j+V.length)
 have gu1:=qJ hU (j+(V.length-1))
 have gu2:=qJ hU (j+(V.length-2))
 have gv1:=qJ hV (V.length-1)
 have gv2:=qJ hV (V.length-2)
 have htop:=aN6 hw hvv ⟨hx0,hx1⟩ ⟨hy0,hy1⟩ gu2.1 gu1.1 gv2.2 hW
 have e0:((j:Int)+(V.length:Int)).toNat=j+V.length:=by omega
 have e1:((j:Int)+(V.length:Int)-1).toNat=j+(V.length-1):=by omega
 have e2:((j:Int)+(V.length:Int)-2).toNat=j+(V.length-2):=by omega
 have f1:((V.length:Int)-1).toNat=V.length-1:=by omega
 have f2:((V.length:Int)-2).toNat=V.length-2:=by omega
 simp(disch:=omega)only[go_sem]
 refine qn rfl [⟨0,[],[]⟩,⟨1,[],[]⟩,⟨2,[],[]⟩,⟨3,[],[]⟩,⟨4,[],[]⟩,⟨5,[],[]⟩,⟨6,[],[]⟩,⟨7,[5],[]⟩,⟨8,[5],[]⟩,⟨9,[5],[]⟩,⟨10,[5],[]⟩,⟨11,[5],[]⟩,⟨12,[5],[]⟩,⟨13,[5],[]⟩,⟨14,[],[]⟩,⟨15,[],[]⟩] (by kernel_rfl) ?_
 simp(disch:=omega)only[go_sem,e0,e1]
 generalize hu0:U.getD (j+V.length) 0=u0 at*
 generalize hu1:U.getD (j+(V.length-1)) 0=u1 at*
 generalize hu2:U.getD (j+(V.length-2)) 0=u2 at*
 refine⟨by omega,by omega,by omega,by omega,?_⟩
 refine qn rfl [⟨0,[],[]⟩,⟨1,[],[]⟩,⟨2,[],[]⟩,⟨3,[],[]⟩,⟨4,[],[]⟩,⟨5,[],[]⟩,⟨6,[],[]⟩,⟨7,[5],[]⟩,⟨8,[5],[]⟩,⟨9,[5],[]⟩,⟨10,[5],[]⟩,⟨11,[5],[]⟩,⟨12,[5],[]⟩,⟨13,[5],[]⟩,⟨14,[12],[]⟩,⟨15,[],[]⟩] (by kernel_rfl) ?_
 simp(disch:=omega)only[go_sem,f1]
 generalize hvv1:V.getD (V.length-1) 0=v1 at*
 generalize hvv2:V.getD (V.length-2) 0=v2 at*
 generalize htt:u0*65536+u1=top at*
 refine⟨by omega,by omega,by omega,by omega,by omega,by omega,?_⟩
 have hq0:0≤top/v1:=Int.ediv_nonneg (by omega) (by omega)
 have hq1:top/v1≤65537:=by
  have:top/v1<65538:=Int.ediv_lt_of_lt_mul (by omega) (by omega)
  omega
 have hr0:=Int.emod_nonneg top (show v1≠0 by omega)
 have hr1:=Int.emod_lt_of_pos top (show 0<v1 by omega)
 have hqr:=Int.emod_add_mul_ediv top v1
 have hini:=aJC hw hvv ⟨hx0,hx1⟩ ⟨hy0,hy1⟩ gu2 gv2.1 hq0 (show top<(top/v1+1)*v1 by rw[Int.add_mul,Int.mul_comm (top/v1)];omega)
 have hqr':top/v1*v1+top % v1=top:=by rw[Int.mul_comm];omega
 generalize top/v1=q0 at*
 generalize top % v1=r0 at*
 refine qj (fun x:Int×Int=>[(0,.sl U.length (qg U)),(1,.sl V.length (qg V)),(2,.v (.int .i64 j)),(7,.v (.int .i64 V.length)),(9,.v (.int .i64 x.1)),(10,.v (.int .i64 x.2))])
  (fun _=>[]) (fun x=>(0≤x.1∧x.1≤65537)∧(0≤x.2∧x.2<65536)∧x.1*v1+x.2=top∧vl (U.drop j)<(x.1+1)*vl V) (fun x=>x.1.toNat) (q0,r0) ⟨⟨hq0,hq1⟩,⟨hr0,by omega⟩,hqr',hini⟩
  (Le.lst [] _ _ rfl (by simp(disch:=omega)only[go_sem];try omega) (by simp(disch:=omega)only[go_sem])) ?_
 rintro⟨q,r⟩ ⟨hq,hr,hqr2,hlt⟩
 dsimp only at hq hr hqr2 hlt ⊢
 have hqv:0≤q*v2∧q*v2≤65537*65535:=⟨Int.mul_nonneg hq.1 gv2.1,Int.mul_le_mul hq.2 (by omega) gv2.1 (by omega)⟩
 simp(disch:=omega)only[go_sem]
 refine qn rfl [⟨0,[],[]⟩,⟨1,[],[]⟩,⟨2,[],[]⟩,⟨3,[],[]⟩,⟨4,[],[]⟩,⟨5,[],[]⟩,⟨6,[],[]⟩,⟨7,[],[]⟩,⟨8,[],[]⟩,⟨9,[],[]⟩,⟨10,[8],[]⟩,⟨11,[8],[]⟩,⟨12,[8],[]⟩,⟨13,[8],[]⟩,⟨14,[8],[]⟩,⟨15,[8],[]⟩,⟨16,[8],[]⟩,⟨17,[8],[]⟩,⟨18,[8],[]⟩,⟨19,[8],[]⟩,⟨20,[],[]⟩,⟨21,[],[]⟩] (by kernel_rfl) ?_
 simp(disch:=omega)only[go_sem]
 refine qY (fun h1=>?_) (fun h1=>?_)
 ·simp(disch:=omega)only[go_sem,h1,e2,f2,hu2,hvv2]
  refine⟨by omega,by omega,by omega,by omega,qe (fun h2=>?_) (fun h2=>?_)⟩
  ·simp(disch:=omega)only[go_sem,h2,f1,hvv1]
   have hst:=aoA hw hvv ⟨hx0,hx1⟩ ⟨hy0,hy1⟩ hW gv2.1 (by omega) hq.1 hqr2 (.inr h2)
   have hqp:0<q:=by
    rcases(by omega:0<q∨q=0)with h|h
    ·exact h
    ·subst h;omega
   have hm:(q-1)*v1+(r+v1)=top:=by rw[Int.sub_mul];omega
   refine⟨by omega,by omega,qe (fun h3=>?_) (fun h3=>?_)⟩
   ·simp(disch:=omega)only[go_sem,h3]
    have h4:q-1<65536:=by
     rcases(by omega:q-1<65536∨65536≤q-1)with h|h
     ·exact h
     ·have:=Int.mul_le_mul_of_nonneg_right h (show 0≤v1 by omega)
      omega
    have h5:(q-1)*v2≤(r+v1)*65536+u2:=by
     have:(q-1)*v2≤65535*65535:=Int.mul_le_mul (by omega) (by omega) gv2.1 (by omega)
     omega
    have h6:=ada hw hvv ⟨hx0,hx1⟩ ⟨hy0,hy1⟩ gv2.1 (by omega) ⟨by omega,h4⟩ hm h5
    exact qb (by simp(disch:=omega)only[go_sem]) (by simp(disch:=omega)only[go_sem]) ⟨q-1,rfl,rfl,rfl,⟨by omega,h4⟩,by rw[show q-1+1=q by omega];exact hst,h6⟩
   ·simp(disch:=omega)only[go_sem,h3]
    refine qh (q-1,r+v1) [] ⟨by show 0≤q-1∧q-1≤65537;omega,by show 0≤r+v1∧r+v1<65536;omega,hm,by show _<(q-1+1)*vl V;rw[show q-1+1=q by omega];exact hst⟩ (by show(q-1).toNat<q.toNat;omega) rfl (by simp(disch:=omega)only[go_sem];try omega) (by simp(disch:=omega)only[go_sem])
  ·simp(disch:=omega)only[go_sem,h2]
   have h6:=ada hw hvv ⟨hx0,hx1⟩ ⟨hy0,hy1⟩ gv2.1 (by omega) ⟨hq.1,by omega⟩ hqr2 (by omega)
   exact qb (by simp(disch:=omega)only[go_sem]) (by simp(disch:=omega)only[go_sem]) ⟨q,rfl,rfl,rfl,⟨hq.1,by omega⟩,hlt,h6⟩
 ·simp(disch:=omega)only[go_sem,h1,f1,hvv1]
  have hst:=aoA hw hvv ⟨hx0,hx1⟩ ⟨hy0,hy1⟩ hW gv2.1 (by omega) hq.1 hqr2 (.inl h1)
  have hqp:0<q:=by omega
  have hm:(q-1)*v1+(r+v1)=top:=by rw[Int.sub_mul];omega
  refine⟨by omega,by omega,qe (fun h3=>?_) (fun h3=>?_)⟩
  ·simp(disch:=omega)only[go_sem,h3]
   have h4:q-1<65536:=by
    rcases(by omega:q-1<65536∨65536≤q-1)with h|h
    ·exact h
    ·have:=Int.mul_le_mul_of_nonneg_right h (show 0≤v1 by omega)
     omega
   have h5:(q-1)*v2≤(r+v1)*65536+u2:=by
    have:(q-1)*v2≤65535*65535:=Int.mul_le_mul (by omega) (by omega) gv2.1 (by omega)
    omega
   have h6:=ada hw hvv ⟨hx0,hx1⟩ ⟨hy0,hy1⟩ gv2.1 (by omega) ⟨by omega,h4⟩ hm h5
   exact qb (by simp(disch:=omega)only[go_sem]) (by simp(disch:=omega)only[go_sem]) ⟨q-1,rfl,rfl,rfl,⟨by omega,h4⟩,by rw[show q-1+1=q by omega];exact hst,h6⟩
  ·simp(disch:=omega)only[go_sem,h3]
   refine qh (q-1,r+v1) [] ⟨by show 0≤q-1∧q-1≤65537;omega,by show 0≤r+v1∧r+v1<65536;omega,hm,by show _<(q-1+1)*vl V;rw[show q-1+1=q by omega];exact hst⟩ (by show(q-1).toNat<q.toNat;omega) rfl (by simp(disch:=omega)only[go_sem];try omega) (by simp(disch:=omega)only[go_sem])
end Go.Ab
namespace Go.Ab
open Go Go.Proofs
theorem KR(U V:List Int)(j:Nat)(q:Int)(hU:gd U)(hV:gd V)(lU:U.length≤2000000)(hj:j+V.length<U.length)(hq:0≤q∧q<65536):
  Con Tryz.prog 297 false [.rf 10000000 0 U.length,.sl V.length (qg V),.v (.int .i64 j),.v (.int .i64 q)] [.own 1 (qg U)]
   (fun r hs bs=>∃(U':List Int) (bo:Int),r=.v (.bool (decide (U.getD (j+V.length) 0-bo<0)))∧hs=[]∧bs=[.own 1 (qg (U'.set (j+V.length) (U.getD (j+V.length) 0-bo)))]∧
    U'.length=U.length∧gd U'∧(0≤bo∧bo<65536)∧(∀t,t<j∨j+V.length≤t→U'.getD t 0=U.getD t 0)∧vl U'-65536^(j+V.length)*bo=vl U-65536^j*(q*vl V)):=by
 refine Con.of_aw Tryz.func297 rfl Tryz.ntmps297 (by simp) (by simp) (by simp) (W.sound ?_)
 show @W Tryz.prog 68 ⟨_⟩ ⟨fun x σ=>@qV _ _ _ ⟨_⟩ _ ⟨_⟩ x σ⟩ _ _
 simp(disch:=omega)only[go_sem]
 refine qj (fun x:Nat×List Int×Int=>[(0,.rf 10000000 0 U.length),(1,.sl V.length (qg V)),(2,.v (.int .i64 j)),(3,.v (.int .i64 q)),(9,.v (.int .i64 x.2.2)),(13,.sl V.length (qg V)),(14,.v (.int .i64 V.length)),(15,.v (.int .i64 x.1))])
  (fun x=>[(10000000,.own 1 (qg x.2.1))])
  (fun x=>x.1≤V.length∧x.2.1.length=U.length∧gd x.2.1∧(0≤x.2.2∧x.2.2<65536)∧(∀t,t<j∨j+x.1≤t→x.2.1.getD t 0=U.getD t 0)∧vl x.2.1-65536^(j+x.1)*x.2.2=vl U-65536^j*(q*vl (V.take x.1)))
  (fun x=>V.length-x.1) (0,U,0) ⟨by simp,rfl,hU,by simp,fun _ _=>rfl,by simp[vl]⟩
  (Le.lst [] _ _ rfl (by simp(disch:=omega)only[go_sem];try omega) (by simp(disch:=omega)only[go_sem])) ?_
 rintro⟨i,U1,bo⟩ ⟨hi,hl1,hg1,hbo,hsame,hval⟩
 dsimp only at hi hl1 hg1 hbo hsame hval ⊢
 simp(disch:=omega)only[go_sem]
 refine qe (fun h1=>?_) (fun h1=>?_)
 ·have hx:=qJ hV i
  have hu:=qJ hg1 (j+i)
  have hqx:0≤q*V.getD i 0∧q*V.getD i 0≤65535*65535:=⟨Int.mul_nonneg hq.1 hx.1,Int.mul_le_mul (by omega) (by omega) hx.1 (by omega)⟩
  have e1:((j:Int)+(i:Int)).toNat=j+i:=by omega
  have hstep:∀d b:Int,d-65536*b=U1.getD (j+i) 0-q*V.getD i 0-bo→vl (U1.set (j+i) d)-65536^(j+(i+1))*b=vl U-65536^j*(q*vl (V.take (i+1))):=by
   intro d b hd
   rw[QN (by omega),qX,←Nat.add_assoc,Int.pow_succ]
   have e3:(65536:Int)^(j+i)=65536^j*65536^i:=Int.pow_add _ _ _
   rw[e3]at hval ⊢
   generalize (65536:Int)^i=Pi at*
   generalize (65536:Int)^j=Pj at*
   grind
  have hsm:∀d:Int,∀t,t<j∨j+(i+1)≤t→(U1.set (j+i) d).getD t 0=U.getD t 0:=fun d t ht=>by
   rw[jp (by omega),if_neg (by omega)];exact hsame t (by omega)
  simp(disch:=omega)only[go_sem,h1,e1]
  refine⟨by omega,by omega,by omega,by omega,qe (fun h2=>?_) (fun h2=>?_)⟩
  ·simp(disch:=omega)only[go_sem,h2,e1]
   generalize hb:(0-(U1.getD (j+i) 0-q*V.getD i 0-bo)+65536-1)/65536=b
   refine⟨by omega,by omega,qh (i+1,U1.set (j+i) (U1.getD (j+i) 0-q*V.getD i 0-bo+b*65536),b) [] ⟨by show i+1≤_;omega,by simp[hl1],yQ hg1 (by omega),by show 0≤b∧b<65536;omega,hsm _,hstep (U1.getD (j+i) 0-q*V.getD i 0-bo+b*65536) b (by omega)⟩
    (by show V.length-(i+1)<V.length-i;omega) rfl (by simp(disch:=omega)only[go_sem];try omega) (by simp(disch:=omega)only[go_sem])⟩
  ·simp(disch:=omega)only[go_sem,h2,e1]
   refine⟨by omega,by omega,qh (i+1,U1.set (j+i) (U1.getD (j+i) 0-q*V.getD i 0-bo),0) [] ⟨by show i+1≤_;omega,by simp[hl1],yQ hg1 (by omega),by simp,hsm _,hstep (U1.getD (j+i) 0-q*V.getD i 0-bo) 0 (by omega)⟩
    (by show V.length-(i+1)<V.length-i;omega) rfl (by simp(disch:=omega)only[go_sem];try omega) (by simp(disch:=omega)only[go_sem])⟩
 ·have hiA:i=V.length:=by omega
  subst hiA
  rw[List.take_length]at hval
  have e1:((j:Int)+(V.length:Int)).toNat=j+V.length:=by omega
  have hu:=qJ hg1 (j+V.length)
  have es:=hsame (j+V.length) (by omega)
  have eg:(U1.set (j+V.length) (U.getD (j+V.length) 0-bo)).getD (j+V.length) 0=U.getD (j+V.length) 0-bo:=by rw[jp (by omega),if_pos rfl]
  simp(disch:=omega)only[go_sem,h1,e1,es]
  refine⟨by omega,by omega,by omega,by omega,by omega,by simp;omega,?_⟩
  simp(disch:=omega)only[go_sem,eg]
  refine qm [] [] [.own 1 (qg (U1.set (j+V.length) (U.getD (j+V.length) 0-bo)))] [.v (.bool (decide (U.getD (j+V.length) 0-bo<0)))] rfl (by simp(disch:=omega)only[go_sem]) (by simp(disch:=omega)only[go_sem]) (by simp) (by simp) ⟨U1,bo,rfl,rfl,rfl,hl1,hg1,hbo,hsame,hval⟩
theorem adD(U V:List Int)(j:Nat)(hU:∀t,t≠j+V.length→0≤U.getD t 0∧U.getD t 0<65536)(hUt: -65536≤U.getD (j+V.length) 0∧U.getD (j+V.length) 0<65536)(hV:gd V)(lU:U.length≤2000000)(hj:j+V.length<U.length):
  Con Tryz.prog 298 false [.rf 10000000 0 U.length,.sl V.length (qg V),.v (.int .i64 j)] [.own 1 (qg U)]
   (fun r hs bs=>∃(U':List Int),r=.tu []∧hs=[]∧bs=[.own 1 (qg U')]∧
    U'.length=U.length∧(∀t,t≠j+V.length→0≤U'.getD t 0∧U'.getD t 0<65536)∧(∀t,t<j∨j+V.length<t→U'.getD t 0=U.getD t 0)∧vl U'=vl U+65536^j*vl V):=by
 refine Con.of_aw Tryz.func298 rfl Tryz.ntmps298 (by simp) (by simp) (by simp) (W.sound ?_)
 show @W Tryz.prog 46 ⟨_⟩ ⟨fun x σ=>@qV _ _ _ ⟨_⟩ _ ⟨_⟩ x σ⟩ _ _
 simp(disch:=omega)only[go_sem]
 refine qj (fun x:Nat×List Int×Int=>[(0,.rf 10000000 0 U.length),(1,.sl V.length (qg V)),(2,.v (.int .i64 j)),(6,.v (.int .i64 x.2.2)),(9,.sl V.length (qg V)),(10,.v (.int .i64 V.length)),(11,.v (.int .i64 x.1))])
  (fun x=>[(10000000,.own 1 (qg x.2.1))])
  (fun x=>x.1≤V.length∧x.2.1.length=U.length∧(∀t,t≠j+V.length→0≤x.2.1.getD t 0∧x.2.1.getD t 0<65536)∧(0≤x.2.2∧x.2.2≤1)∧(∀t,t<j∨j+x.1≤t→x.2.1.getD t 0=U.getD t 0)∧vl x.2.1+65536^(j+x.1)*x.2.2=vl U+65536^j*vl (V.take x.1))
  (fun x=>V.length-x.1) (0,U,0) ⟨by simp,rfl,hU,by simp,fun _ _=>rfl,by simp[vl]⟩
  (Le.lst [] _ _ rfl (by simp(disch:=omega)only[go_sem];try omega) (by simp(disch:=omega)only[go_sem])) ?_
 rintro⟨i,U1,cy⟩ ⟨hi,hl1,hg1,hcy,hsame,hval⟩
 dsimp only at hi hl1 hg1 hcy hsame hval ⊢
 simp(disch:=omega)only[go_sem]
 refine qe (fun h1=>?_) (fun h1=>?_)
 ·have hx:=qJ hV i
  have hu:=hg1 (j+i) (by omega)
  have e1:((j:Int)+(i:Int)).toNat=j+i:=by omega
  simp(disch:=omega)only[go_sem,h1,e1]
  generalize hb:cy+(U1.getD (j+i) 0+V.getD i 0)=b
  have hg2:∀t,t≠j+V.length→0≤(U1.set (j+i) (b % 65536)).getD t 0∧(U1.set (j+i) (b % 65536)).getD t 0<65536:=fun t ht=>by
   rw[jp (by omega)]
   split
   ·omega
   ·exact hg1 t ht
  refine⟨by omega,by omega,by omega,by omega,by omega,by omega,qh (i+1,U1.set (j+i) (b % 65536),b/65536) [] ⟨by show i+1≤_;omega,by simp[hl1],hg2,by show 0≤b/65536∧b/65536≤1;omega,fun t ht=>?_,?_⟩
   (by show V.length-(i+1)<V.length-i;omega) rfl (by simp(disch:=omega)only[go_sem];try omega) (by simp(disch:=omega)only[go_sem])⟩
  ·show(U1.set (j+i) (b % 65536)).getD t 0=_
   have ht:t<j∨j+(i+1)≤t:=ht
   rw[jp (by omega),if_neg (by omega)];exact hsame t (by omega)
  ·show vl (U1.set (j+i) (b % 65536))+65536^(j+(i+1))*(b/65536)=vl U+65536^j*vl (V.take (i+1))
   rw[QN (by omega),qX,←Nat.add_assoc,Int.pow_succ]
   have e3:(65536:Int)^(j+i)=65536^j*65536^i:=Int.pow_add _ _ _
   have e4:b % 65536+65536*(b/65536)=b:=Int.emod_add_mul_ediv b 65536
   rw[e3]at hval ⊢
   generalize (65536:Int)^i=Pi at*
   generalize (65536:Int)^j=Pj at*
   grind
 ·have hiA:i=V.length:=by omega
  subst hiA
  rw[List.take_length]at hval
  have e1:((j:Int)+(V.length:Int)).toNat=j+V.length:=by omega
  have es:=hsame (j+V.length) (by omega)
  simp(disch:=omega)only[go_sem,h1,e1,es]
  refine⟨by omega,by omega,by omega,by omega,?_⟩
  refine qm [] [] [.own 1 (qg (U1.set (j+V.length) (U.getD (j+V.length) 0+cy)))] [] rfl (by simp(disch:=omega)only[go_sem]) (by simp(disch:=omega)only[go_sem]) (by simp) (by simp) ⟨_,rfl,rfl,rfl,by simp[hl1],fun t ht=>?_,fun t ht=>?_,?_⟩
  ·rw[jp (by omega),if_neg ht];exact hg1 t ht
  ·rw[jp (by omega),if_neg (by omega)];exact hsame t (by omega)
  ·rw[QN (by omega),es]
   generalize (65536:Int)^(j+V.length)=Pj at*
   grind
end Go.Ab
namespace Go.Ab
open Go Go.Proofs
theorem jq(xs:List Int)(hl:xs.length≤2^40):Con Tryz.prog 254 false [.rf 10000000 0 xs.length] [.own 1 (qg xs)] (fun r hs bs=>r=.rf 10000000 0 (ZT xs).length∧hs=[]∧bs=[.own 1 (qg xs)]):=by
 refine Con.of_aw Tryz.func254 rfl Tryz.ntmps254 (by simp) (by simp) (by simp) (W.sound ?_)
 show @W Tryz.prog 21 ⟨_⟩ ⟨fun x σ=>@qV _ _ _ ⟨_⟩ _ ⟨_⟩ x σ⟩ _ _
 simp(disch:=omega)only[go_sem]
 refine qj (fun m:Nat=>[(0,.rf 10000000 0 m)]) (fun _=>[(10000000,.own 1 (qg xs))]) (fun m=>m≤xs.length∧ZT (xs.take m)=ZT xs) id xs.length ⟨Nat.le_refl _,by simp⟩
  (Le.lst [] _ _ rfl (by simp(disch:=omega)only[go_sem];try omega) (by simp(disch:=omega)only[go_sem])) ?_
 intro m ⟨hm,hx⟩
 have hmx:∀k,k+1=m→xs.take m=xs.take k++[xs.getD k 0]:=fun k hk=>by rw[←hk];exact jT (by omega)
 simp(disch:=omega)only[go_sem]
 refine qe (fun h1=>?_) (fun h1=>?_)
 ·obtain⟨k,rfl⟩:∃k,m=k+1:=⟨m-1,by omega⟩
  have e1:((k+1:Nat):Int)-1=(k:Nat):=by omega
  rw[hmx k rfl]at hx
  simp(disch:=omega)only[go_sem,h1,e1]
  refine⟨by omega,by omega,qe (fun h2=>?_) (fun h2=>?_)⟩
  ·simp(disch:=omega)only[go_sem,h2,e1]
   rw[h2,Qs]at hx
   refine⟨by omega,qh k [] ⟨by omega,hx⟩ (by show k<k+1;omega) rfl (by simp(disch:=omega)only[go_sem];try omega) (by simp(disch:=omega)only[go_sem])⟩
  ·simp(disch:=omega)only[go_sem,h2]
   refine qm [] [] [.own 1 (qg xs)] [.rf 10000000 0 (k+1)] rfl (by simp(disch:=omega)only[go_sem]) (by simp(disch:=omega)only[go_sem]) (by simp) (by simp) ⟨?_,rfl,rfl⟩
   rw[YE _ h2,←hmx k rfl]at hx
   rw[←hx,List.length_take,Nat.min_eq_left hm];rfl
 ·simp(disch:=omega)only[go_sem,h1]
  refine qm [] [] [.own 1 (qg xs)] [.rf 10000000 0 m] rfl (by simp(disch:=omega)only[go_sem]) (by simp(disch:=omega)only[go_sem]) (by simp) (by simp) ⟨?_,rfl,rfl⟩
  have:m=0:=by omega
  subst this
  rw[←hx];rfl
end Go.Ab
namespace Go.Ab
open Go Go.Proofs
theorem aon{x y:Int}(hx:0≤x∧x<65536)(hy:0≤y∧y<65536):0≤x*y∧x*y≤4294836225:=by
 have h1:=Int.mul_nonneg hx.1 hy.1
 have h2:x*y≤65535*65535:=Int.mul_le_mul (by omega) (by omega) hy.1 (by omega)
 omega
theorem ape(cl:Bool)(A B:List Int)(hA:gd A)(hB:gd B)(lA:A.length≤1000000)(lB:B.length≤1000000):
  Con Tryz.prog 218 cl [.sl A.length (qg A),.sl B.length (qg B)] [] (aqH (lim (vl A*vl B).toNat)):=by
 refine Con.of_aw Tryz.func218 rfl Tryz.ntmps218 (by simp) (by simp) (by simp) (W.sound ?_)
 show @W Tryz.prog 63 ⟨_⟩ ⟨fun x σ=>@qV _ _ _ ⟨_⟩ _ ⟨_⟩ x σ⟩ _ _
 simp(disch:=omega)only[go_sem]
 refine⟨⟨by omega,by omega,by omega⟩,?_⟩
 refine qj (fun x:Nat×List Int=>[(1,.sl B.length (qg B)),(5,.rf 180000000 0 (A.length+B.length)),(17,.sl A.length (qg A)),(18,.v (.int .i64 A.length)),(19,.v (.int .i64 x.1))])
  (fun x=>[(180000000,.own 1 (qg x.2))])
  (fun x=>x.1≤A.length∧x.2.length=A.length+B.length∧gd x.2∧vl x.2=vl (A.take x.1)*vl B∧∀j,x.1+B.length≤j→x.2.getD j 0=0)
  (fun x=>A.length-x.1) (0,List.replicate (A.length+B.length) 0) ⟨by simp,by simp,zy _,by simp[zT,vl],fun j _=>by
   rw[List.getD_eq_getElem?_getD,List.getElem?_replicate];split<;>rfl⟩
  (Le.lst [] _ _ rfl (by simp(disch:=omega)only[go_sem];try omega) (by simp(disch:=omega)only[go_sem,show((A.length:Int)+(B.length:Int)).toNat=A.length+B.length by omega])) ?_
 rintro⟨i,out⟩ ⟨hi,hol,hog,hov,hoz⟩
 dsimp only at hi hol hog hov hoz ⊢
 simp(disch:=omega)only[go_sem]
 refine qe (fun h1=>?_) (fun h1=>?_)
 ·have hx:=qJ hA i
  simp(disch:=omega)only[go_sem,h1]
  refine⟨by omega,by omega,?_⟩
  refine qj (fun x:Nat×List Int×Int=>[(1,.sl B.length (qg B)),(5,.rf 180000000 0 (A.length+B.length)),(17,.sl A.length (qg A)),(18,.v (.int .i64 A.length)),(19,.v (.int .i64 i)),(6,.v (.int .i64 i)),
    (7,.v (.int .i64 (A.getD i 0))),(8,.v (.int .i64 x.2.2)),(24,.sl B.length (qg B)),(25,.v (.int .i64 B.length)),(26,.v (.int .i64 x.1))])
   (fun x=>[(180000000,.own 1 (qg x.2.1))])
   (fun x=>x.1≤B.length∧x.2.1.length=A.length+B.length∧gd x.2.1∧(0≤x.2.2∧x.2.2<65536)∧vl x.2.1+65536^(i+x.1)*x.2.2=vl out+65536^i*(A.getD i 0*vl (B.take x.1))∧∀j,i+B.length≤j→x.2.1.getD j 0=0)
   (fun x=>B.length-x.1) (0,out,0) ⟨by simp,hol,hog,by simp,by simp[vl],hoz⟩
   (Le.lst [] _ _ rfl (by simp(disch:=omega)only[go_sem];try omega) (by simp(disch:=omega)only[go_sem])) ?_
  rintro⟨j,o2,cy⟩ ⟨hj,hol2,hog2,hcy,hov2,hoz2⟩
  dsimp only at hj hol2 hog2 hcy hov2 hoz2 ⊢
  simp(disch:=omega)only[go_sem]
  refine qe (fun h2=>?_) (fun h2=>?_)
  ·have hy:=qJ hB j
   have ho:=qJ hog2 (i+j)
   have hxy:=aon hx hy
   have e1:((i:Int)+(j:Int)).toNat=i+j:=by omega
   simp(disch:=omega)only[go_sem,h2,e1]
   generalize hq:cy+(o2.getD (i+j) 0+A.getD i 0*B.getD j 0)=q
   refine⟨by omega,by omega,by omega,by omega,by omega,by omega,qh (j+1,o2.set (i+j) (q % 65536),q/65536) [] ⟨by show j+1≤_;omega,by simp[hol2],yQ hog2 (by omega),by show 0≤q/65536∧q/65536<65536;omega,?_,fun k hk=>?_⟩
    (by show B.length-(j+1)<B.length-j;omega) rfl (by simp(disch:=omega)only[go_sem];try omega) (by simp(disch:=omega)only[go_sem])⟩
   ·show vl (o2.set (i+j) (q % 65536))+65536^(i+(j+1))*(q/65536)=vl out+65536^i*(A.getD i 0*vl (B.take (j+1)))
    rw[QN (by omega),zx (by omega),←Nat.add_assoc,Int.pow_succ]
    have e2:(65536:Int)^(i+j)=65536^i*65536^j:=Int.pow_add _ _ _
    have e3:q % 65536+65536*(q/65536)=q:=Int.emod_add_mul_ediv q 65536
    rw[e2]at hov2 ⊢
    generalize (65536:Int)^i=Pi at*
    generalize (65536:Int)^j=Pj at*
    grind
   ·show(o2.set (i+j) (q % 65536)).getD k 0=0
    rw[List.getD_eq_getElem?_getD,List.getElem?_set_ne (by omega),←List.getD_eq_getElem?_getD]
    exact hoz2 k hk
  ·simp(disch:=omega)only[go_sem,h2]
   have e1:((i:Int)+(B.length:Int)).toNat=i+B.length:=by omega
   have hjB:j=B.length:=by omega
   subst hjB
   rw[List.take_length]at hov2
   simp(disch:=omega)only[go_sem,e1]
   refine⟨by omega,by omega,qh (i+1,o2.set (i+B.length) cy) [] ⟨by show i+1≤_;omega,by simp[hol2],yQ hog2 hcy,?_,fun k hk=>?_⟩ (by show A.length-(i+1)<A.length-i;omega) rfl (by simp(disch:=omega)only[go_sem];try omega) (by simp(disch:=omega)only[go_sem])⟩
   ·show vl (o2.set (i+B.length) cy)=vl (A.take (i+1))*vl B
    rw[QN (by omega),hoz2 _ (Nat.le_refl _),zx (by omega)]
    generalize (65536:Int)^i=Pi at*
    grind
   ·show(o2.set (i+B.length) cy).getD k 0=0
    rw[List.getD_eq_getElem?_getD,List.getElem?_set_ne (by show i+B.length≠k;omega),←List.getD_eq_getElem?_getD]
    exact hoz2 k (by omega)
 ·simp(disch:=omega)only[go_sem,h1]
  have hiA:i=A.length:=by omega
  subst hiA
  rw[List.take_length]at hov
  refine zk false [180000000] (jq out (by omega)) (by rw[←hol];simp(disch:=omega)only[go_sem]) (by simp(disch:=omega)only[go_sem]) rfl (zh (z:=1) (cs:=qg out) (by simp(disch:=omega)only[go_sem]) (by simp(disch:=omega)only[go_sem])) (by intro n hn;exact⟨_,List.mem_singleton.2 rfl,by rw[List.mem_singleton.1 hn];rfl⟩) ?_
  rintro r hs bs ⟨rfl,rfl,rfl⟩ _
  refine⟨by simp[qK],?_⟩
  simp(disch:=omega)only[go_sem]
  obtain⟨z,hz⟩:=zQ out
  have hc:=je hog
  rw[hov]at hc
  rw[hc]at hz ⊢
  refine qm [(0,180000000)] [.own 1 (qg out)] [] [.rf 0 0 (lim (vl A*vl B).toNat).length] rfl (by simp(disch:=omega)only[go_sem]) (by simp(disch:=omega)only[go_sem]) (by simp) (by intro _;simp[qW,AV.pu,AV.pu.puL,Ob.pu,za]) (.inr ⟨List.replicate z 0,rfl,by rw[←hz]⟩)
end Go.Ab
namespace Go.Ab
open Go Go.Proofs
theorem apj(cl:Bool)(n:Nat)(hn:n<2^63):Con Tryz.prog 189 cl [.v (.int .i64 n)] [] (aqH (lim n)):=by
 refine Con.of_aw Tryz.func189 rfl Tryz.ntmps189 (by simp) (by simp) (by simp) (W.sound ?_)
 show @W Tryz.prog 14 ⟨_⟩ ⟨fun x σ=>@qV _ _ _ ⟨_⟩ _ ⟨_⟩ x σ⟩ _ _
 simp(disch:=omega)only[go_sem]
 refine qj (fun x:Nat×List Int=>[(0,.v (.int .i64 x.1)),(3,.rf 1 0 x.2.length)]) (fun x=>[(1,.own 1 (qg x.2))]) (fun x=>x.1<2^63∧x.2++lim x.1=lim n) (fun x=>x.1) (n,[]) ⟨hn,rfl⟩
  ((Le.ghost 3 1 1 (by simp(disch:=omega)only[go_sem]) (by simp(disch:=omega)only[go_sem])).trans (Le.lst [] _ _ rfl (by simp(disch:=omega)only[go_sem]) (by simp(disch:=omega)only[go_sem]))) ?_
 rintro⟨k,l⟩ ⟨hk,hl⟩
 dsimp only at hk hl ⊢
 have hlen:l.length≤4:=by
  have h1:=congrArg List.length hl
  have h2:=jL (n:=n) (k:=4) |>.2 (by omega)
  rw[List.length_append]at h1;omega
 simp(disch:=omega)only[go_sem]
 refine qe (fun h1=>?_) (fun h1=>?_)
 ·simp(disch:=omega)only[go_sem,h1]
  have hk0:k≠0:=by omega
  refine⟨by omega,qh (k/65536,l++[(k:Int) % 65536]) [(1,140000000)] ⟨by show k/65536<2^63;omega,?_⟩ (by show k/65536<k;omega) rfl (by simp(disch:=omega)only[go_sem,List.length_append];omega) (by simp(disch:=omega)only[go_sem])⟩
  rw[yb hk0]at hl
  rw[←hl,List.append_assoc];rfl
 ·simp(disch:=omega)only[go_sem,h1]
  have hk0:k=0:=by omega
  subst hk0
  rw[ql,List.append_nil]at hl
  subst hl
  refine qm [(0,1)] [.own 1 (qg (lim n++[]))] [] [.rf 0 0 (lim n).length] rfl (by simp(disch:=omega)only[go_sem]) (by simp(disch:=omega)only[go_sem]) (by simp) (by intro _;simp[qW,AV.pu,AV.pu.puL,Ob.pu,za]) (.inr ⟨[],rfl,rfl⟩)
end Go.Ab
namespace Go.Ab
open Go Go.Proofs
theorem ym(k:Nat)(h:k<16):(0:Int)<2^k∧(2:Int)^k≤32768:=by
 have:∀k,k<16→(0:Int)<2^k∧(2:Int)^k≤32768:=by decide
 exact this k h
theorem aom{x:Int}(hx:0≤x∧x<65536){k:Nat}(hk:k<16):0≤x*2^k∧x*2^k≤2147450880:=by
 obtain⟨h1,h2⟩:=ym k hk
 have h3:=Int.mul_nonneg hx.1 (Int.le_of_lt h1)
 have h4:x*2^k≤65535*32768:=Int.mul_le_mul (by omega) h2 (by omega) (by omega)
 omega
theorem Kp(k:Nat):(65536:Int)^(k/16)*2^(k % 16)=2^k:=by
 have e:(65536:Int)=2^16:=by decide
 rw[e,←Int.pow_mul,←Int.pow_add,Nat.div_add_mod]
theorem aSg(cl:Bool)(A:List Int)(k:Nat)(hA:gd A)(lA:A.length≤1000000)(hk:k≤100000000):
  Con Tryz.prog 195 cl [.sl A.length (qg A),.v (.int .i64 k)] [] (aqH (lim (vl A*2^k).toNat)):=by
 refine Con.of_aw Tryz.func195 rfl Tryz.ntmps195 (by simp) (by simp) (by simp) (W.sound ?_)
 show @W Tryz.prog 46 ⟨_⟩ ⟨fun x σ=>@qV _ _ _ ⟨_⟩ _ ⟨_⟩ x σ⟩ _ _
 simp(disch:=omega)only[go_sem]
 refine qe (fun h0=>?_) (fun h0=>?_)
 ·simp(disch:=omega)only[go_sem,h0]
  have:A=[]:=List.length_eq_zero_iff.1 (by omega)
  subst this
  refine qm [] [] [] [.v (.slice none 0 0)] rfl (by simp(disch:=omega)only[go_sem]) (by simp(disch:=omega)only[go_sem]) (by simp) (by intro _;simp[qW,AV.pu,AV.pu.puL,Ob.pu,za]) (.inl ⟨by simp[vl,ql],rfl,rfl⟩)
 ·simp(disch:=omega)only[go_sem,h0]
  refine⟨by omega,?_⟩
  have e16:((k:Int)/16).toNat=k/16:=by omega
  refine qj (fun x:Nat×List Int×Int=>[(1,.v (.int .i64 k)),(5,.rf 1 0 x.2.1.length),(6,.v (.int .i64 x.2.2)),(21,.sl A.length (qg A)),(22,.v (.int .i64 A.length)),(23,.v (.int .i64 x.1))])
   (fun x=>[(1,.own 1 (qg x.2.1))])
   (fun x=>x.1≤A.length∧x.2.1.length=k/16+x.1∧gd x.2.1∧(0≤x.2.2∧x.2.2<65536)∧vl x.2.1+65536^(k/16+x.1)*x.2.2=65536^(k/16)*2^(k % 16)*vl (A.take x.1))
   (fun x=>A.length-x.1) (0,List.replicate (k/16) 0,0) ⟨by simp,by simp,zy _,by simp,by simp[vl,zT]⟩
   (Le.lst [(1,220000000)] _ _ rfl (by simp(disch:=omega)only[go_sem,List.length_replicate,e16]) (by simp(disch:=omega)only[go_sem,e16])) ?_
  rintro⟨i,out,cy⟩ ⟨hi,hol,hog,hcy,hov⟩
  dsimp only at hi hol hog hcy hov ⊢
  simp(disch:=omega)only[go_sem]
  refine qe (fun h1=>?_) (fun h1=>?_)
  ·have hx:=qJ hA i
   have hxs:=aom hx (show k % 16<16 by omega)
   have em:min ((k:Int) % 16).toNat 64=k % 16:=by omega
   simp(disch:=omega)only[go_sem,h1,em]
   generalize hq:cy+A.getD i 0*2^(k % 16)=q
   refine⟨by omega,by omega,by omega,by omega,qh (i+1,out++[q % 65536],q/65536) [(1,390000000)] ⟨by show i+1≤_;omega,by simp[hol];omega,qP.2 ⟨hog,z7.2 (by omega)⟩,by show 0≤q/65536∧q/65536<65536;omega,?_⟩ (by show A.length-(i+1)<A.length-i;omega) rfl (by simp(disch:=omega)only[go_sem,List.length_append];try omega) (by simp(disch:=omega)only[go_sem])⟩
   show vl (out++[q % 65536])+65536^(k/16+(i+1))*(q/65536)=65536^(k/16)*2^(k % 16)*vl (A.take (i+1))
   rw[js,qX,hol,←Nat.add_assoc,Int.pow_succ]
   have e3:q % 65536+65536*(q/65536)=q:=Int.emod_add_mul_ediv q 65536
   rw[Int.pow_add]at hov ⊢
   generalize (65536:Int)^i=Pi at*
   generalize (65536:Int)^(k/16)=Pk at*
   generalize (2:Int)^(k % 16)=Pm at*
   grind
  ·simp(disch:=omega)only[go_sem,h1]
   have hiA:i=A.length:=by omega
   subst hiA
   rw[List.take_length,Kp]at hov
   have hov2:vl (out++[cy])=vl A*2^k:=by rw[js,hol,hov];grind
   have hog2:gd (out++[cy]):=qP.2 ⟨hog,z7.2 hcy⟩
   refine⟨by omega,?_⟩
   have hl2:out.length+1=(out++[cy]).length:=by simp
   rw[hl2]
   refine zk false [460000000] (jq (out++[cy]) (by simp;omega)) (by simp(disch:=omega)only[go_sem]) (by simp(disch:=omega)only[go_sem]) rfl (zh (z:=1) (cs:=qg (out++[cy])) (by simp(disch:=omega)only[go_sem]) (by simp(disch:=omega)only[go_sem])) (by intro n hn;exact⟨_,List.mem_singleton.2 rfl,by rw[List.mem_singleton.1 hn];rfl⟩) ?_
   rintro r hs bs ⟨rfl,rfl,rfl⟩ _
   refine⟨by simp[qK],?_⟩
   simp(disch:=omega)only[go_sem]
   obtain⟨z,hz⟩:=zQ (out++[cy])
   have hc:=je hog2
   rw[hov2]at hc
   rw[hc]at hz ⊢
   refine qm [(0,460000000)] [.own 1 (qg (out++[cy]))] [] [.rf 0 0 (lim (vl A*2^k).toNat).length] rfl (by simp(disch:=omega)only[go_sem]) (by simp(disch:=omega)only[go_sem]) (by simp) (by intro _;simp[qW,AV.pu,AV.pu.puL,Ob.pu,za]) (.inr ⟨List.replicate z 0,rfl,by rw[←hz]⟩)
end Go.Ab
namespace Go.Ab
open Go Go.Proofs
theorem aAM(V P:Int)(hP:0<P):V % (P*65536)=V % P+P*(V/P % 65536):=by
 rw[Int.emod_def,Int.emod_def,Int.emod_def,←Int.ediv_ediv_of_nonneg (Int.le_of_lt hP)]
 grind
theorem aAj{s:Nat}(hs:s<16):(65536:Int)=2^s*2^(16-s):=by
 rw[←Int.pow_add,show s+(16-s)=16 by omega];decide
theorem aiH{D:List Int}(hD:gd D){i s:Nat}(hi:i<D.length)(hs:s<16):
  (vl D/2^s)/65536^i % 65536=(D.getD i 0+D.getD (i+1) 0*65536)/2^s % 65536:=by
 have h2:=(ym s hs).1
 rw[Int.ediv_ediv_of_nonneg (Int.le_of_lt h2),Int.mul_comm,←Int.ediv_ediv_of_nonneg (Int.le_of_lt (Int.pow_pos (by omega))),adQ hD (by omega),zF hi]
 have h3:vl (D.drop (i+1))=D.getD (i+1) 0+65536*vl (D.drop (i+2)):=by
  rcases Nat.lt_or_ge (i+1) D.length with h|h
  ·exact zF h
  ·rw[List.drop_of_length_le h,List.drop_of_length_le (by omega),List.getD_eq_getElem?_getD,List.getElem?_eq_none h];simp[vl]
 rw[h3]
 have e:D.getD i 0+65536*(D.getD (i+1) 0+65536*vl (D.drop (i+2)))=(D.getD i 0+D.getD (i+1) 0*65536)+2^s*(65536*(2^(16-s)*vl (D.drop (i+2)))):=by
  have:=aAj hs
  generalize (2:Int)^s=a at*
  generalize (2:Int)^(16-s)=b at*
  grind
 rw[e,Int.add_mul_ediv_left _ _ (by omega),Int.add_mul_emod_self_left]
theorem an6{a b:Nat}(h:a≤b):(65536:Int)^a≤65536^b:=by
 obtain⟨d,rfl⟩:=Nat.exists_eq_add_of_le h
 have h1:(0:Int)<65536^a:=Int.pow_pos (by omega)
 have h2:(0:Int)<65536^d:=Int.pow_pos (by omega)
 have h3:=Int.mul_le_mul_of_nonneg_left (show(1:Int)≤65536^d by omega) (Int.le_of_lt h1)
 rw[Int.mul_one,←Int.pow_add]at h3
 exact h3
theorem aB5(cl:Bool)(A:List Int)(k:Nat)(hA:gd A)(lA:A.length≤1000000)(hk:k≤100000000):
  Con Tryz.prog 216 cl [.sl A.length (qg A),.v (.int .i64 k)] [] (aqH (lim (vl A/2^k).toNat)):=by
 refine Con.of_aw Tryz.func216 rfl Tryz.ntmps216 (by simp) (by simp) (by simp) (W.sound ?_)
 show @W Tryz.prog 52 ⟨_⟩ ⟨fun x σ=>@qV _ _ _ ⟨_⟩ _ ⟨_⟩ x σ⟩ _ _
 have hvk:vl A/2^k=vl A/65536^(k/16)/2^(k % 16):=by
  rw[Int.ediv_ediv_of_nonneg (Int.le_of_lt (Int.pow_pos (by omega))),Kp]
 simp(disch:=omega)only[go_sem]
 refine qe (fun h0=>?_) (fun h0=>?_)
 ·simp(disch:=omega)only[go_sem,h0]
  have hz:vl A/2^k=0:=by
   rw[hvk,Int.ediv_eq_zero_of_lt (qL hA)]
   ·simp
   ·refine Int.lt_of_lt_of_le (yS hA) ?_
    exact an6 (by omega)
  rw[hz]
  refine qm [] [] [] [.v (.slice none 0 0)] rfl (by simp(disch:=omega)only[go_sem]) (by simp(disch:=omega)only[go_sem]) (by simp) (by intro _;simp[qW,AV.pu,AV.pu.puL,Ob.pu,za]) (.inl ⟨by simp[ql],rfl,rfl⟩)
 ·have e16:((k:Int)/16).toNat=k/16:=by omega
  have e17:((A.length:Int)-(k:Int)/16).toNat=(A.drop (k/16)).length:=by simp;omega
  have e18:(A.drop (k/16)).take (A.drop (k/16)).length=A.drop (k/16):=List.take_length
  have hvD:=adQ hA (i:=k/16) (by omega)
  have hlD:(A.drop (k/16)).length≤1000000:=by simp;omega
  have hD:=jm hA (k/16)
  simp(disch:=omega)only[go_sem,h0,e16,e17,e18]
  generalize A.drop (k/16)=D at*
  refine⟨by omega,by omega,?_⟩
  refine qj (fun x:Nat×List Int=>[(1,.v (.int .i64 k)),(5,.sl D.length (qg D)),(6,.rf 1 0 x.2.length),(21,.sl D.length (qg D)),(22,.v (.int .i64 D.length)),(23,.v (.int .i64 x.1))])
   (fun x=>[(1,.own 1 (qg x.2))])
   (fun x=>x.1≤D.length∧x.2.length=x.1∧gd x.2∧vl x.2=vl D/2^(k % 16) % 65536^x.1)
   (fun x=>D.length-x.1) (0,[]) ⟨by simp,rfl,ZM,by simp[vl]⟩
   (Le.lst [(1,220000000)] _ _ rfl (by simp(disch:=omega)only[go_sem]) (by simp(disch:=omega)only[go_sem])) ?_
  rintro⟨i,out⟩ ⟨hi,hol,hog,hov⟩
  dsimp only at hi hol hog hov ⊢
  simp(disch:=omega)only[go_sem]
  refine qe (fun h1=>?_) (fun h1=>?_)
  ·have hx:=qJ hD i
   have hy:=qJ hD (i+1)
   have em:min ((k:Int) % 16).toNat 64=k % 16:=by omega
   have hm:=ym (k % 16) (by omega)
   have efd:∀x:Int,x.fdiv (2^(k % 16))=x/2^(k % 16):=fun x=>Int.fdiv_eq_ediv_of_nonneg _ (Int.le_of_lt hm.1)
   have hdig:=aiH hD (i:=i) (s:=k % 16) (by omega) (by omega)
   have hnn:∀x:Int,0≤x→0≤x/2^(k % 16):=fun x hx=>Int.ediv_nonneg hx (Int.le_of_lt hm.1)
   have ei:((i:Int)+1).toNat=i+1:=by omega
   have hstep:∀z:Int,z=(D.getD i 0+D.getD (i+1) 0*65536)/2^(k % 16) % 65536→vl (out++[z])=vl D/2^(k % 16) % 65536^(i+1):=by
    intro z hz
    rw[js,hov,hol,Int.pow_succ,aAM _ _ (Int.pow_pos (by omega)),hdig,hz]
   simp(disch:=omega)only[go_sem,h1]
   refine⟨by omega,by omega,qe (fun h2=>?_) (fun h2=>?_)⟩
   ·have hn1:=hnn (D.getD i 0+D.getD (i+1) 0*65536) (by omega)
    simp(disch:=omega)only[go_sem,h2,em,efd,ei]
    refine⟨by omega,by omega,by omega,by omega,qh (i+1,out++[(D.getD i 0+D.getD (i+1) 0*65536)/2^(k % 16) % 65536]) [(1,500000000)] ⟨by show i+1≤_;omega,by simp[hol],qP.2 ⟨hog,z7.2 (by omega)⟩,hstep _ rfl⟩ (by show D.length-(i+1)<D.length-i;omega) rfl (by simp(disch:=omega)only[go_sem,List.length_append];try omega) (by simp(disch:=omega)only[go_sem])⟩
   ·have hn1:=hnn (D.getD i 0) (by omega)
    simp(disch:=omega)only[go_sem,h2,em,efd]
    have hy0:D.getD (i+1) 0=0:=by rw[List.getD_eq_getElem?_getD,List.getElem?_eq_none (by omega)];rfl
    refine⟨by omega,by omega,qh (i+1,out++[D.getD i 0/2^(k % 16) % 65536]) [(1,500000000)] ⟨by show i+1≤_;omega,by simp[hol],qP.2 ⟨hog,z7.2 (by omega)⟩,hstep _ (by rw[hy0];simp)⟩ (by show D.length-(i+1)<D.length-i;omega) rfl (by simp(disch:=omega)only[go_sem,List.length_append];try omega) (by simp(disch:=omega)only[go_sem])⟩
  ·simp(disch:=omega)only[go_sem,h1]
   have hiD:i=D.length:=by omega
   subst hiD
   have hV:vl out=vl A/2^k:=by
    rw[hov,hvk,hvD]
    refine Int.emod_eq_of_lt (Int.ediv_nonneg (qL hD) (Int.le_of_lt (ym (k % 16) (by omega)).1)) ?_
    exact Int.lt_of_le_of_lt (Int.ediv_le_self _ (qL hD)) (yS hD)
   refine zk false [1] (jq out (by omega)) (by simp(disch:=omega)only[go_sem]) (by simp(disch:=omega)only[go_sem]) rfl (zh (z:=1) (cs:=qg out) (by simp(disch:=omega)only[go_sem]) (by simp(disch:=omega)only[go_sem])) (by intro n hn;exact⟨_,List.mem_singleton.2 rfl,by rw[List.mem_singleton.1 hn];rfl⟩) ?_
   rintro r hs bs ⟨rfl,rfl,rfl⟩ _
   refine⟨by simp[qK],?_⟩
   simp(disch:=omega)only[go_sem]
   obtain⟨z,hz⟩:=zQ out
   have hc:=je hog
   rw[hV]at hc
   rw[hc]at hz ⊢
   refine qm [(0,1)] [.own 1 (qg out)] [] [.rf 0 0 (lim (vl A/2^k).toNat).length] rfl (by simp(disch:=omega)only[go_sem]) (by simp(disch:=omega)only[go_sem]) (by simp) (by intro _;simp[qW,AV.pu,AV.pu.puL,Ob.pu,za]) (.inr ⟨List.replicate z 0,rfl,by rw[←hz]⟩)
end Go.Ab
namespace Go.Ab
open Go Go.Proofs
theorem drop_set{l:List Int}{i:Nat}(h:i<l.length)(z:Int):(l.set i z).drop i=z::l.drop (i+1):=by
 rw[List.drop_eq_getElem_cons (by simpa using h)]
 simp[List.drop_set]
theorem aB6(cl:Bool)(A:List Int)(d:Nat)(hA:gd A)(lA:A.length≤1000000)(hd:0<d)(hd2:d<65536):
  Con Tryz.prog 295 cl [.sl A.length (qg A),.v (.int .i64 d)] [] (fun r hs bs=>∃zs,r=.tu [.rf 0 0 (lim (vl A/d).toNat).length,.v (.int .i64 (vl A % d))]∧hs=[.own 1 (qg (lim (vl A/d).toNat++zs))]):=by
 refine Con.of_aw Tryz.func295 rfl Tryz.ntmps295 (by simp) (by simp) (by simp) (W.sound ?_)
 show @W Tryz.prog 38 ⟨_⟩ ⟨fun x σ=>@qV _ _ _ ⟨_⟩ _ ⟨_⟩ x σ⟩ _ _
 simp(disch:=omega)only[go_sem]
 refine⟨by omega,?_⟩
 refine qj (fun x:Nat×List Int×Int=>[(0,.sl A.length (qg A)),(1,.v (.int .i64 d)),(6,.rf 130000000 0 A.length),(7,.v (.int .i64 x.2.2)),(8,.v (.int .i64 ((x.1:Int)-1)))])
  (fun x=>[(130000000,.own 1 (qg x.2.1))])
  (fun x=>x.1≤A.length∧x.2.1.length=A.length∧gd x.2.1∧x.2.2=vl (A.drop x.1) % d∧vl (x.2.1.drop x.1)=vl (A.drop x.1)/d)
  (fun x=>x.1) (A.length,List.replicate A.length 0,0) ⟨by simp,by simp,zy _,by simp[vl],by simp[vl]⟩
  (Le.lst [] _ _ rfl (by simp(disch:=omega)only[go_sem];try omega) (by simp(disch:=omega)only[go_sem])) ?_
 rintro⟨m,out,rest⟩ ⟨hm,hol,hog,hr,hov⟩
 dsimp only at hm hol hog hr hov ⊢
 simp(disch:=omega)only[go_sem]
 refine qe (fun h1=>?_) (fun h1=>?_)
 ·obtain⟨i,rfl⟩:∃i,m=i+1:=⟨m-1,by omega⟩
  have e1:((i+1:Nat):Int)-1=(i:Nat):=by omega
  have hx:=qJ hA i
  have hr2:0≤rest∧rest<d:=by rw[hr];exact⟨Int.emod_nonneg _ (by omega),Int.emod_lt_of_pos _ (by omega)⟩
  generalize hq:rest*65536+A.getD i 0=q
  have hq0:0≤q:=by omega
  have hqd:0≤q/d∧q/d<65536:=⟨Int.ediv_nonneg hq0 (by omega),Int.ediv_lt_of_lt_mul (by omega) (by omega)⟩
  have hqm:0≤q % d∧q % d<d:=⟨Int.emod_nonneg _ (by omega),Int.emod_lt_of_pos _ (by omega)⟩
  simp(disch:=omega)only[go_sem,h1,e1,hq]
  refine⟨by omega,by omega,by omega,by omega,by omega,by omega,qh (i,out.set i (q/d),q % d) [] ⟨by show i≤_;omega,by simp[hol],yQ hog hqd,?_,?_⟩ (by show i<i+1;omega) rfl (by simp(disch:=omega)only[go_sem]) (by simp(disch:=omega)only[go_sem])⟩
  ·show q % d=vl (A.drop i) % d
   rw[zF (l:=A) (i:=i) (by omega),←hq,hr]
   have h3:=Int.emod_add_mul_ediv (vl (A.drop (i+1))) d
   rw[show A.getD i 0+65536*vl (A.drop (i+1))=vl (A.drop (i+1)) % d*65536+A.getD i 0+d*(65536*(vl (A.drop (i+1))/d)) by grind,Int.add_mul_emod_self_left]
  ·show vl ((out.set i (q/d)).drop i)=vl (A.drop i)/d
   rw[drop_set (by omega),vl,hov,zF (l:=A) (i:=i) (by omega),←hq,hr]
   have h3:=Int.emod_add_mul_ediv (vl (A.drop (i+1))) d
   rw[show A.getD i 0+65536*vl (A.drop (i+1))=vl (A.drop (i+1)) % d*65536+A.getD i 0+d*(65536*(vl (A.drop (i+1))/d)) by grind,Int.add_mul_ediv_left _ _ (by omega)]
 ·simp(disch:=omega)only[go_sem,h1]
  have:m=0:=by omega
  subst this
  rw[List.drop_zero,List.drop_zero]at hov
  rw[List.drop_zero]at hr
  rw[←hol]
  refine zk false [130000000] (jq out (by omega)) (by simp(disch:=omega)only[go_sem]) (by simp(disch:=omega)only[go_sem]) rfl (zh (z:=1) (cs:=qg out) (by simp(disch:=omega)only[go_sem]) (by simp(disch:=omega)only[go_sem])) (by intro n hn;exact⟨_,List.mem_singleton.2 rfl,by rw[List.mem_singleton.1 hn];rfl⟩) ?_
  rintro r hs bs ⟨rfl,rfl,rfl⟩ _
  refine⟨by simp[qK],?_⟩
  simp(disch:=omega)only[go_sem]
  obtain⟨z,hz⟩:=zQ out
  have hc:=je hog
  rw[hov]at hc
  rw[hc]at hz ⊢
  rw[hr]
  refine qm [(0,130000000)] [.own 1 (qg out)] [] [.rf 0 0 (lim (vl A/d).toNat).length,.v (.int .i64 (vl A % d))] rfl (by simp(disch:=omega)only[go_sem]) (by simp(disch:=omega)only[go_sem]) (by simp) (by intro _;simp[qW,AV.pu,AV.pu.puL,Ob.pu,za]) ⟨List.replicate z 0,rfl,by rw[←hz]⟩
end Go.Ab
namespace Go.Ab
open Go Go.Proofs
theorem aBU(cl:Bool)(A B:List Int)(hA:gd A)(hB:gd B)(lA:A.length≤2000000)(lB:B.length≤2000000):
  Con Tryz.prog 219 cl [.sl A.length (qg A),.sl B.length (qg B)] [] (aqH (lim (vl A+vl B).toNat)):=by
 refine Con.of_aw Tryz.func219 rfl Tryz.ntmps219 (by simp) (by simp) (by simp) (W.sound ?_)
 show @W Tryz.prog 53 ⟨_⟩ ⟨fun x σ=>@qV _ _ _ ⟨_⟩ _ ⟨_⟩ x σ⟩ _ _
 simp(disch:=omega)only[go_sem]
 refine qe (fun h0=>?_) (fun h0=>?_)
 all_goals simp(disch:=omega)only[go_sem,h0]
 ·revert A B
  intro Y X hY hX lY lX h0'
  have h00:Y.length≤X.length:=by omega
  have hcm:vl Y+vl X=vl X+vl Y:=Int.add_comm _ _
  refine⟨by omega,?_⟩
  refine qj (fun x:Nat×List Int×Int=>[(1,.sl Y.length (qg Y)),(5,.rf 1 0 x.2.1.length),(6,.v (.int .i64 x.2.2)),(20,.sl X.length (qg X)),(21,.v (.int .i64 X.length)),(22,.v (.int .i64 x.1))])
   (fun x=>[(1,.own 1 (qg x.2.1))])
   (fun x=>x.1≤X.length∧x.2.1.length=x.1∧gd x.2.1∧(0≤x.2.2∧x.2.2≤1)∧vl x.2.1+65536^x.1*x.2.2=vl (X.take x.1)+vl (Y.take x.1))
   (fun x=>X.length-x.1) (0,[],0) ⟨by simp,rfl,ZM,by simp,by simp[vl]⟩
   (Le.lst [(1,210000000)] _ _ rfl (by simp(disch:=omega)only[go_sem]) (by simp(disch:=omega)only[go_sem])) ?_
  rintro⟨i,out,cy⟩ ⟨hi,hol,hog,hcy,hov⟩
  dsimp only at hi hol hog hcy hov ⊢
  simp(disch:=omega)only[go_sem]
  refine qe (fun h1=>?_) (fun h1=>?_)
  ·have hx:=qJ hX i
   have hy:=qJ hY i
   have hstep:∀q:Int,q=cy+X.getD i 0+Y.getD i 0→vl (out++[q % 65536])+65536^(i+1)*(q/65536)=vl (X.take (i+1))+vl (Y.take (i+1)):=by
    intro q hq
    rw[js,qX,qX,hol,Int.pow_succ]
    have e3:q % 65536+65536*(q/65536)=q:=Int.emod_add_mul_ediv q 65536
    generalize (65536:Int)^i=Pi at*
    grind
   have hyz:¬i<Y.length→Y.getD i 0=0:=fun h=>by rw[List.getD_eq_getElem?_getD,List.getElem?_eq_none (by omega)];rfl
   simp(disch:=omega)only[go_sem,h1]
   refine⟨by omega,by omega,qe (fun h2=>?_) (fun h2=>?_)⟩
   ·simp(disch:=omega)only[go_sem,h2]
    generalize hq:cy+X.getD i 0+Y.getD i 0=q
    refine⟨by omega,by omega,by omega,qh (i+1,out++[q % 65536],q/65536) [(1,460000000)] ⟨by show i+1≤_;omega,by simp[hol],qP.2 ⟨hog,z7.2 (by omega)⟩,by show 0≤q/65536∧q/65536≤1;omega,hstep q hq.symm⟩ (by show X.length-(i+1)<X.length-i;omega) rfl (by simp(disch:=omega)only[go_sem,List.length_append];try omega) (by simp(disch:=omega)only[go_sem])⟩
   ·simp(disch:=omega)only[go_sem,h2]
    have hy0:=hyz (by omega)
    generalize hq:cy+X.getD i 0=q
    refine⟨by omega,qh (i+1,out++[q % 65536],q/65536) [(1,460000000)] ⟨by show i+1≤_;omega,by simp[hol],qP.2 ⟨hog,z7.2 (by omega)⟩,by show 0≤q/65536∧q/65536≤1;omega,hstep q (by omega)⟩ (by show X.length-(i+1)<X.length-i;omega) rfl (by simp(disch:=omega)only[go_sem,List.length_append];try omega) (by simp(disch:=omega)only[go_sem])⟩
  ·simp(disch:=omega)only[go_sem,h1]
   have hiA:i=X.length:=by omega
   subst hiA
   rw[List.take_length,List.take_of_length_le h00]at hov
   have hov2:vl (out++[cy])=vl X+vl Y:=by rw[js,hol];exact hov
   have hog2:gd (out++[cy]):=qP.2 ⟨hog,z7.2 (by omega)⟩
   refine⟨by omega,?_⟩
   have hl2:out.length+1=(out++[cy]).length:=by simp
   rw[hl2]
   refine zk false [530000000] (jq (out++[cy]) (by simp;omega)) (by simp(disch:=omega)only[go_sem]) (by simp(disch:=omega)only[go_sem]) rfl (zh (z:=1) (cs:=qg (out++[cy])) (by simp(disch:=omega)only[go_sem]) (by simp(disch:=omega)only[go_sem])) (by intro n hn;exact⟨_,List.mem_singleton.2 rfl,by rw[List.mem_singleton.1 hn];rfl⟩) ?_
   rintro r hs bs ⟨rfl,rfl,rfl⟩ _
   refine⟨by simp[qK],?_⟩
   simp(disch:=omega)only[go_sem]
   obtain⟨z,hz⟩:=zQ (out++[cy])
   have hc:=je hog2
   rw[hov2]at hc
   rw[hc]at hz ⊢
   refine qm [(0,530000000)] [.own 1 (qg (out++[cy]))] [] [.rf 0 0 (lim (vl X+vl Y).toNat).length] rfl (by simp(disch:=omega)only[go_sem]) (by simp(disch:=omega)only[go_sem]) (by simp) (by intro _;simp[qW,AV.pu,AV.pu.puL,Ob.pu,za]) (.inr ⟨List.replicate z 0,by rw[hcm];rfl,by rw[hcm,←hz]⟩)
 ·revert A B
  intro X Y hX hY lX lY h0'
  have h00:Y.length≤X.length:=by omega
  have hcm:vl X+vl Y=vl X+vl Y:=rfl
  refine⟨by omega,?_⟩
  refine qj (fun x:Nat×List Int×Int=>[(1,.sl Y.length (qg Y)),(5,.rf 1 0 x.2.1.length),(6,.v (.int .i64 x.2.2)),(20,.sl X.length (qg X)),(21,.v (.int .i64 X.length)),(22,.v (.int .i64 x.1))])
   (fun x=>[(1,.own 1 (qg x.2.1))])
   (fun x=>x.1≤X.length∧x.2.1.length=x.1∧gd x.2.1∧(0≤x.2.2∧x.2.2≤1)∧vl x.2.1+65536^x.1*x.2.2=vl (X.take x.1)+vl (Y.take x.1))
   (fun x=>X.length-x.1) (0,[],0) ⟨by simp,rfl,ZM,by simp,by simp[vl]⟩
   (Le.lst [(1,210000000)] _ _ rfl (by simp(disch:=omega)only[go_sem]) (by simp(disch:=omega)only[go_sem])) ?_
  rintro⟨i,out,cy⟩ ⟨hi,hol,hog,hcy,hov⟩
  dsimp only at hi hol hog hcy hov ⊢
  simp(disch:=omega)only[go_sem]
  refine qe (fun h1=>?_) (fun h1=>?_)
  ·have hx:=qJ hX i
   have hy:=qJ hY i
   have hstep:∀q:Int,q=cy+X.getD i 0+Y.getD i 0→vl (out++[q % 65536])+65536^(i+1)*(q/65536)=vl (X.take (i+1))+vl (Y.take (i+1)):=by
    intro q hq
    rw[js,qX,qX,hol,Int.pow_succ]
    have e3:q % 65536+65536*(q/65536)=q:=Int.emod_add_mul_ediv q 65536
    generalize (65536:Int)^i=Pi at*
    grind
   have hyz:¬i<Y.length→Y.getD i 0=0:=fun h=>by rw[List.getD_eq_getElem?_getD,List.getElem?_eq_none (by omega)];rfl
   simp(disch:=omega)only[go_sem,h1]
   refine⟨by omega,by omega,qe (fun h2=>?_) (fun h2=>?_)⟩
   ·simp(disch:=omega)only[go_sem,h2]
    generalize hq:cy+X.getD i 0+Y.getD i 0=q
    refine⟨by omega,by omega,by omega,qh (i+1,out++[q % 65536],q/65536) [(1,460000000)] ⟨by show i+1≤_;omega,by simp[hol],qP.2 ⟨hog,z7.2 (by omega)⟩,by show 0≤q/65536∧q/65536≤1;omega,hstep q hq.symm⟩ (by show X.length-(i+1)<X.length-i;omega) rfl (by simp(disch:=omega)only[go_sem,List.length_append];try omega) (by simp(disch:=omega)only[go_sem])⟩
   ·simp(disch:=omega)only[go_sem,h2]
    have hy0:=hyz (by omega)
    generalize hq:cy+X.getD i 0=q
    refine⟨by omega,qh (i+1,out++[q % 65536],q/65536) [(1,460000000)] ⟨by show i+1≤_;omega,by simp[hol],qP.2 ⟨hog,z7.2 (by omega)⟩,by show 0≤q/65536∧q/65536≤1;omega,hstep q (by omega)⟩ (by show X.length-(i+1)<X.length-i;omega) rfl (by simp(disch:=omega)only[go_sem,List.length_append];try omega) (by simp(disch:=omega)only[go_sem])⟩
  ·simp(disch:=omega)only[go_sem,h1]
   have hiA:i=X.length:=by omega
   subst hiA
   rw[List.take_length,List.take_of_length_le h00]at hov
   have hov2:vl (out++[cy])=vl X+vl Y:=by rw[js,hol];exact hov
   have hog2:gd (out++[cy]):=qP.2 ⟨hog,z7.2 (by omega)⟩
   refine⟨by omega,?_⟩
   have hl2:out.length+1=(out++[cy]).length:=by simp
   rw[hl2]
   refine zk false [530000000] (jq (out++[cy]) (by simp;omega)) (by simp(disch:=omega)only[go_sem]) (by simp(disch:=omega)only[go_sem]) rfl (zh (z:=1) (cs:=qg (out++[cy])) (by simp(disch:=omega)only[go_sem]) (by simp(disch:=omega)only[go_sem])) (by intro n hn;exact⟨_,List.mem_singleton.2 rfl,by rw[List.mem_singleton.1 hn];rfl⟩) ?_
   rintro r hs bs ⟨rfl,rfl,rfl⟩ _
   refine⟨by simp[qK],?_⟩
   simp(disch:=omega)only[go_sem]
   obtain⟨z,hz⟩:=zQ (out++[cy])
   have hc:=je hog2
   rw[hov2]at hc
   rw[hc]at hz ⊢
   refine qm [(0,530000000)] [.own 1 (qg (out++[cy]))] [] [.rf 0 0 (lim (vl X+vl Y).toNat).length] rfl (by simp(disch:=omega)only[go_sem]) (by simp(disch:=omega)only[go_sem]) (by simp) (by intro _;simp[qW,AV.pu,AV.pu.puL,Ob.pu,za]) (.inr ⟨List.replicate z 0,by rw[hcm];rfl,by rw[hcm,←hz]⟩)
end Go.Ab
namespace Go.Ab
open Go Go.Proofs
theorem K7(cl:Bool)(xs:List Int)(hl:xs.length≤2^39):Con Tryz.prog 270 cl [.sl xs.length (qg xs)] [] (aqH xs):=by
 refine Con.of_aw Tryz.func270 rfl Tryz.ntmps270 (by simp) (by simp) (by simp) (W.sound ?_)
 show @W Tryz.prog 8 ⟨_⟩ ⟨fun x σ=>@qV _ _ _ ⟨_⟩ _ ⟨_⟩ x σ⟩ _ _
 simp(disch:=omega)only[go_sem]
 refine⟨fun h0=>?_,?_⟩
 ·have:xs=[]:=by cases xs with|nil=>rfl|cons a r=>cases h0
  subst this
  refine qm [] [] [] [.v (.slice none 0 0)] rfl (by simp(disch:=omega)only[go_sem]) (by simp(disch:=omega)only[go_sem]) (by simp) (by intro _;simp[qW,AV.pu]) (.inl ⟨rfl,rfl,rfl⟩)
 ·refine⟨by omega,?_⟩
  refine qm [(0,90000000)] [.own 1 (qg xs)] [] [.rf 0 0 xs.length] rfl (by simp(disch:=omega)only[go_sem]) (by simp(disch:=omega)only[go_sem]) (by simp) (by intro _;simp[qW,AV.pu,Ob.pu,za]) (.inr ⟨[],rfl,by rw[List.append_nil]⟩)
end Go.Ab
namespace Go.Ab
open Go Go.Proofs
theorem KY(x:Int):Con Tryz.prog 263 true [.v (.int .i64 x)] [] (isA (.v (.bool false))):=by
 refine Con.of_w (rs:=[.tmp 2]) Tryz.func263 rfl Tryz.ntmps263 rfl ?_
 simp(disch:=omega)only[go_sem]
 exact qu
theorem apR(x y:Int):Con Tryz.prog 209 true [.v (.int .i64 x),.v (.int .i64 y)] [] (isA (.v (.int .i64 (zw x y)))):=by
 refine Con.of_w (rs:=[.tmp 4]) Tryz.func209 rfl Tryz.ntmps209 rfl ?_
 simp(disch:=omega)only[go_sem]
 refine qc (KY x) ?_
 simp(disch:=omega)only[go_sem]
 refine qc (KY y) ?_
 simp(disch:=omega)only[go_sem]
 refine qe (fun h1=>?_) (fun h1=>?_)
 ·simp(disch:=omega)only[go_sem,h1]
  rw[show zw x y= -1 by simp[zw,h1]]
  exact qu
 ·simp(disch:=omega)only[go_sem,h1]
  refine qe (fun h2=>?_) (fun h2=>?_)
  ·simp(disch:=omega)only[go_sem,h2]
   rw[show zw x y=1 by simp[zw,h1,h2]]
   exact qu
  ·simp(disch:=omega)only[go_sem,h2]
   rw[show zw x y=0 by simp[zw,h1,h2]]
   exact qu
theorem zB(a b:Nat)(la:(lim a).length≤2^40)(lb:(lim b).length≤2^40):
  Con Tryz.prog 217 true [.sl (lim (a)).length (qg (lim (a))),.sl (lim (b)).length (qg (lim (b)))] [] (isA (.v (.int .i64 (zw a b)))):=by
 refine Con.of_w (rs:=[.tmp 4]) Tryz.func217 rfl Tryz.ntmps217 rfl ?_
 simp(disch:=omega)only[go_sem]
 refine qY (fun h1=>?_) (fun h1=>?_)
 ·simp(disch:=omega)only[go_sem,h1]
  refine qc (apR (lim a).length (lim b).length) ?_
  simp(disch:=omega)only[go_sem]
  have:zw ((lim a).length:Int) ((lim b).length:Int)=zw a b:=by
   unfold zw
   rcases(by omega:(lim a).length<(lim b).length∨(lim b).length<(lim a).length)with h|h
   ·have:=Qk h
    rw[if_pos (by omega),if_pos (by omega)]
   ·have:=Qk h
    rw[if_neg (by omega),if_pos (by omega),if_neg (by omega),if_pos (by omega)]
  rw[this]
  exact qu
 ·simp(disch:=omega)only[go_sem,h1]
  have hl:(lim a).length=(lim b).length:=by omega
  refine qj (fun k:Nat=>[(0,.sl (lim (a)).length (qg (lim (a)))),(1,.sl (lim (b)).length (qg (lim (b)))),(5,.v (.int .i64 ((k:Int)-1)))])
   (fun _=>[]) (fun k=>k≤(lim a).length∧(lim a).drop k=(lim b).drop k) (fun k=>k) (lim a).length ⟨Nat.le_refl _,by rw[List.drop_length,hl,List.drop_length]⟩ (Le.lst [] _ _ rfl (by simp(disch:=omega)only[go_sem];try omega) (by simp(disch:=omega)only[go_sem])) ?_
  rintro k ⟨hk,hd⟩
  simp(disch:=omega)only[go_sem]
  refine qe (fun h2=>?_) (fun h2=>?_)
  ·obtain⟨i,rfl⟩:∃i,k=i+1:=⟨k-1,by omega⟩
   have ei:((i+1:Nat):Int)-1=(i:Nat):=by omega
   simp(disch:=omega)only[go_sem,h2,ei]
   refine qn rfl [⟨0,[],[]⟩,⟨1,[],[]⟩,⟨2,[],[]⟩,⟨3,[],[]⟩,⟨4,[3],[]⟩,⟨5,[3],[]⟩,⟨6,[3],[]⟩,⟨7,[3],[]⟩,⟨8,[],[]⟩] (by kernel_rfl) ?_
   simp(disch:=omega)only[go_sem,ei]
   refine⟨by omega,by omega,by omega,by omega,?_⟩
   refine qY (fun h3=>?_) (fun h3=>?_)
   ·simp(disch:=omega)only[go_sem,h3]
    refine qn rfl [⟨0,[],[]⟩,⟨1,[],[]⟩,⟨2,[],[]⟩,⟨3,[],[]⟩,⟨4,[3],[]⟩,⟨5,[3],[]⟩,⟨6,[3],[]⟩,⟨7,[3],[]⟩,⟨8,[],[]⟩,⟨9,[],[]⟩] (by kernel_rfl) ?_
    simp(disch:=omega)only[go_sem,ei]
    refine⟨by omega,by omega,by omega,by omega,?_⟩
    refine qc (apR ((lim a).getD i 0) ((lim b).getD i 0)) ?_
    simp(disch:=omega)only[go_sem]
    have hva:=qS a
    have hvb:=qS b
    have:zw ((lim a).getD i 0) ((lim b).getD i 0)=zw a b:=by
     unfold zw
     rcases(by omega:(lim a).getD i 0<(lim b).getD i 0∨(lim b).getD i 0<(lim a).getD i 0)with h|h
     ·have:=Q7 (qO a) (qO b) (by omega) hl hd h
      rw[if_pos (by omega),if_pos (by omega)]
     ·have:=Q7 (qO b) (qO a) (by omega) hl.symm hd.symm h
      rw[if_neg (by omega),if_pos (by omega),if_neg (by omega),if_pos (by omega)]
    rw[this]
    exact qu
   ·simp(disch:=omega)only[go_sem,h3]
    refine qh i [] ⟨by omega,?_⟩ (by show i<i+1;omega) rfl (by simp(disch:=omega)only[go_sem];try omega) (by simp(disch:=omega)only[go_sem])
    rw[yu (l:=lim a) (by omega),yu (l:=lim b) (by omega),h3,hd]
  ·simp(disch:=omega)only[go_sem,h2]
   have:k=0:=by omega
   subst this
   rw[List.drop_zero,List.drop_zero]at hd
   have:=jM hd
   subst this
   rw[show zw (a:Int) (a:Int)=0 by simp[zw]]
   exact qu
end Go.Ab
namespace Go.Proofs
open Go.Shelf
def Tryz.lays29_ren:Go.Shelf.Ren:=⟨fun|29=>300|n=>n,fun|0=>0|3=>3|4=>4|5=>5|22=>244|25=>132|54=>257|n=>n,fun|1=>1|n=>n⟩
theorem Tryz.lays29:Go.Proofs.Lays7.n29 Tryz.prog Tryz.lays29_ren:={
 mixed:=by kernel_rfl
 f29:=Tryz.func300.trans (congrArg some (by kernel_rfl))
 t0:=Tryz.underlying0
 a0:=Tryz.isAgg0
 z0:=Tryz.sizeOf0
 v0:=Tryz.zeroValue0
 i0:=by kernel_rfl
 t3:=Tryz.underlying3
 a3:=Tryz.isAgg3
 z3:=Tryz.sizeOf3
 v3:=Tryz.zeroValue3
 i3:=by kernel_rfl
 t4:=Tryz.underlying4
 a4:=Tryz.isAgg4
 z4:=Tryz.sizeOf4
 v4:=Tryz.zeroValue4
 i4:=by kernel_rfl
 t5:=Tryz.underlying5
 a5:=Tryz.isAgg5
 z5:=Tryz.sizeOf5
 v5:=Tryz.zeroValue5
 i5:=by kernel_rfl
 t22:=Tryz.underlying244
 a22:=Tryz.isAgg244
 z22:=Tryz.sizeOf244
 v22:=Tryz.zeroValue244
 i22:=by kernel_rfl
 t25:=Tryz.underlying132
 a25:=Tryz.isAgg132
 z25:=Tryz.sizeOf132
 v25:=Tryz.zeroValue132
 i25:=by kernel_rfl
 t54:=Tryz.underlying257
 a54:=Tryz.isAgg257
 z54:=Tryz.sizeOf257
 g1:=by kernel_rfl}
def Tryz.lays129_ren:Go.Shelf.Ren:=⟨fun|129=>289|n=>n,fun|53=>244|46=>132|3=>3|4=>4|5=>5|9=>9|n=>n,fun|n=>n⟩
theorem Tryz.lays129:Go.Proofs.Lays.n129 Tryz.prog Tryz.lays129_ren:={
 mixed:=by kernel_rfl
 f129:=Tryz.func289.trans (congrArg some (by kernel_rfl))
 t3:=Tryz.underlying3
 a3:=Tryz.isAgg3
 z3:=Tryz.sizeOf3
 v3:=Tryz.zeroValue3
 t4:=Tryz.underlying4
 a4:=Tryz.isAgg4
 z4:=Tryz.sizeOf4
 v4:=Tryz.zeroValue4
 t5:=Tryz.underlying5
 a5:=Tryz.isAgg5
 z5:=Tryz.sizeOf5
 v5:=Tryz.zeroValue5
 t9:=Tryz.underlying9
 a9:=Tryz.isAgg9
 z9:=Tryz.sizeOf9
 v9:=Tryz.zeroValue9
 t46:=Tryz.underlying132
 a46:=Tryz.isAgg132
 z46:=Tryz.sizeOf132
 v46:=Tryz.zeroValue132
 t53:=Tryz.underlying244
 a53:=Tryz.isAgg244
 z53:=Tryz.sizeOf244
 v53:=Tryz.zeroValue244}
end Go.Proofs
namespace Go.Ab
open Go Go.Proofs
theorem aSa(x:Nat)(h0:x≠0)(h:x<2^64):Lib.ctz 64 x=tz x:=by
 unfold Lib.ctz
 rw[if_neg h0]
 obtain⟨m,hm,_⟩:=Lib.ctzFrom_spec 64 x (by omega) h
 exact(j4 hm).symm
theorem aqi(x:Nat)(h:x<2^64):Lib.bitLen x=bl x:=by
 induction x using Nat.strongRecOn with
 |_ x ih=>
  by_cases h0:x=0
  ·subst h0;rfl
  ·rw[Lib.bitLen_half x h0 h,ih (x/2) (by omega) (by omega),aD9 h0,Nat.add_comm]
theorem aBT(x:Nat)(h0:x≠0)(h:x<2^64):Con Tryz.prog 300 true [.v (.int .u64 x)] [] (isA (.v (.int .i64 (tz x)))):=
 Con.scalar (xs:=[.int .u64 x]) fun w hg=>by
  rw[←aSa x h0 h]
  exact Any7.bits_TrailingZeros64 Tryz.lays29 x h w fun _ j hj=>(hg 1 Lib.deBruijn64tab rfl).2 j hj
theorem apr(x:Nat)(h:x<2^64):Con Tryz.prog 289 true [.v (.int .u64 x)] [] (isA (.v (.int .i64 (bl x)))):=
 Con.scalar (xs:=[.int .u64 x]) fun w hg=>by
  rw[←aqi x h]
  exact Any.bits_Len64 Tryz.lays129 x w (by omega) (by omega)
theorem aSh(x:Nat)(h0:x≠0)(h:x<2^64):Con Tryz.prog 269 true [.v (.int .u64 x)] [] (isA (.v (.int .i64 (tz x)))):=by
 refine Con.of_w (rs:=[.tmp 2]) Tryz.func269 rfl Tryz.ntmps269 rfl ?_
 simp(disch:=omega)only[go_sem]
 refine qc (aBT x h0 h) ?_
 simp(disch:=omega)only[go_sem]
 exact qu
theorem apt(x:Nat)(h:x<2^64):Con Tryz.prog 255 true [.v (.int .u64 x)] [] (isA (.v (.int .i64 (bl x)))):=by
 refine Con.of_w (rs:=[.tmp 2]) Tryz.func255 rfl Tryz.ntmps255 rfl ?_
 simp(disch:=omega)only[go_sem]
 refine qc (apr x h) ?_
 simp(disch:=omega)only[go_sem]
 exact qu
theorem ajr{x:Int}(h1:0≤x)(h2:x<9223372036854775808):IntKind.u64.wrap x=x:=by
 simp only[IntKind.wrap,IntKind.signed,IntKind.bits]
 simp only[Bool.false_and,Bool.false_eq_true,if_false]
 omega
theorem JU(m:Nat)(hl:(lim m).length≤2^40):Con Tryz.prog 196 true [.sl (lim (m)).length (qg (lim (m)))] [] (isA (.v (.int .i64 (bl m)))):=by
 refine Con.of_w (rs:=[.tmp 2]) Tryz.func196 rfl Tryz.ntmps196 rfl ?_
 simp(disch:=omega)only[go_sem]
 refine qe (fun h1=>?_) (fun h1=>?_)
 ·simp(disch:=omega)only[go_sem,h1]
  have:m=0:=qD.1 (List.length_eq_zero_iff.1 (by omega))
  subst this
  rw[yA]
  exact qu
 ·have hm:m≠0:=fun e=>by rw[e,ql]at h1;simp at h1
  have e1:((lim m).length:Int).toNat-1=(lim m).length-1:=by omega
  have e2:(((lim m).length:Int)-1).toNat=(lim m).length-1:=by omega
  have ht:=ZE hm
  have hb:=aqe hm
  simp(disch:=omega)only[go_sem,h1,e2,zY]
  generalize m/65536^((lim m).length-1)=q at*
  have e3:((q % 65536:Nat):Int)=(q:Int):=by omega
  simp(disch:=omega)only[go_sem,e3,ajr]
  refine⟨by omega,by omega,?_⟩
  refine qc (apt q (by omega)) ?_
  simp(disch:=omega)only[go_sem]
  have hq:bl q≤16:=zl.2 (by omega)
  have e4:(16:Int)*(((lim m).length:Int)-1)+(bl q:Int)=(bl m:Int):=by omega
  simp(disch:=omega)only[go_sem,e4]
  exact qu
theorem aEi{m i:Nat}(hz:∀j,j<i→(lim m).getD j 0=0)(hx:(lim m).getD i 0≠0):tz m=16*i+tz (m/65536^i % 65536):=by
 rw[zY]at hx
 have hx':m/65536^i % 65536≠0:=fun e=>hx (by rw[e];rfl)
 obtain⟨a,ha⟩:=J2 hx'
 have hlow:65536^i*(m/65536^i)=m:=by
  have key:∀k,k≤i→m % 65536^k=0:=by
   intro k
   induction k with
   |zero=>intro _;simp[Nat.mod_one]
   |succ k ih=>
    intro hk
    have h1:=ih (by omega)
    have h2:=hz k (by omega)
    rw[zY]at h2
    have h3:m/65536^k % 65536=0:=by omega
    rw[Nat.pow_succ,Nat.mod_mul,h1,h3];omega
  have:=Nat.div_add_mod m (65536^i)
  rw[key i (Nat.le_refl _)]at this
  omega
 generalize hq:m/65536^i=q at*
 have ht:tz (q % 65536)<16:=by
  have h1:=j5 hx'
  have:bl (q % 65536)≤16:=zl.2 (by omega)
  omega
 generalize hk:tz (q % 65536)=k at*
 have e16:(65536:Nat)=2^k*(2*2^(15-k)):=by rw[Nat.mul_left_comm,←Nat.pow_add,show k+(15-k)=15 by omega]
 refine j4 (a:=a+2^(15-k)*(q/65536)) ?_
 have hd:=Nat.div_add_mod q 65536
 rw[←hlow,Nat.pow_add,←yn]
 have h5:q=2^k*(2*(a+2^(15-k)*(q/65536))+1):=by
  have:q=2^k*(2*2^(15-k))*(q/65536)+2^k*(2*a+1):=by rw[←e16,←ha];omega
  generalize q/65536=y at*
  generalize 2^(15-k)=z at*
  grind
 generalize q/65536=y at*
 rw[Nat.mul_assoc,←h5]
theorem ado(m:Nat)(hl:(lim m).length≤2^40):Con Tryz.prog 221 true [.sl (lim (m)).length (qg (lim (m)))] [] (isA (.v (.int .i64 (tz m)))):=by
 refine Con.of_w (rs:=[.tmp 2]) Tryz.func221 rfl Tryz.ntmps221 rfl ?_
 simp(disch:=omega)only[go_sem]
 refine qj (fun i:Nat=>[(0,.sl (lim (m)).length (qg (lim (m)))),(5,.sl (lim (m)).length (qg (lim (m)))),(6,.v (.int .i64 (lim m).length)),(7,.v (.int .i64 i))])
  (fun _=>[]) (fun i=>i≤(lim m).length∧∀j,j<i→(lim m).getD j 0=0) (fun i=>(lim m).length-i) 0 ⟨by omega,fun j hj=>by omega⟩ (Le.lst [] _ _ rfl (by simp(disch:=omega)only[go_sem];try omega) (by simp(disch:=omega)only[go_sem])) ?_
 rintro i ⟨hi,hz⟩
 simp(disch:=omega)only[go_sem]
 refine qe (fun h1=>?_) (fun h1=>?_)
 ·simp(disch:=omega)only[go_sem,h1]
  refine⟨by omega,by omega,qY (fun h2=>?_) (fun h2=>?_)⟩
  ·have ht:=aEi hz h2
   have hx:m/65536^i % 65536≠0:=fun e=>h2 (by rw[zY,e];rfl)
   have ht16:tz (m/65536^i % 65536)<16:=by
    have h1:=j5 hx
    have:bl (m/65536^i % 65536)≤16:=zl.2 (by omega)
    omega
   simp(disch:=omega)only[go_sem,h2,zY]
   generalize hq:m/65536^i % 65536=q at*
   have hq6:q<65536:=by omega
   simp(disch:=omega)only[go_sem,ajr]
   refine qc (aSh q hx (by omega)) ?_
   simp(disch:=omega)only[go_sem]
   have e4:(16:Int)*(i:Int)+(tz q:Int)=(tz m:Int):=by omega
   simp(disch:=omega)only[go_sem,e4]
   exact qu
  ·simp(disch:=omega)only[go_sem,h2]
   refine qh (i+1) [] ⟨by omega,fun j hj=>?_⟩ (by show(lim m).length-(i+1)<(lim m).length-i;omega) rfl (by simp(disch:=omega)only[go_sem];try omega) (by simp(disch:=omega)only[go_sem])
   rcases(by omega:j<i∨j=i)with h|h
   ·exact hz j h
   ·subst h;exact h2
 ·simp(disch:=omega)only[go_sem,h1]
  have hm:m=0:=by
   have:=qS m
   have h3:lim m=List.replicate (lim m).length 0:=by
    apply List.ext_getElem
    ·simp
    ·intro j h1 h2
     have:=hz j (by omega)
     rw[List.getD_eq_getElem?_getD,List.getElem?_eq_getElem h1]at this
     simpa using this
   rw[h3,zT]at this
   omega
  subst hm
  rw[ajw]
  exact qu
theorem Z8(m:Nat)(i:Int)(hl:(lim m).length≤2^40)(hi:0≤i)(hi2:i<2^62):Con Tryz.prog 142 true [.sl (lim (m)).length (qg (lim (m))),.v (.int .i64 i)] [] (isA (.v (.int .i64 ((m/2^i.toNat % 2:Nat):Int)))):=by
 refine Con.of_w (rs:=[.tmp 4]) Tryz.func142 rfl Tryz.ntmps142 rfl ?_
 obtain⟨k,rfl⟩:=Int.eq_ofNat_of_zero_le hi
 rw[Int.toNat_natCast]
 have h0:¬((k:Int)<0):=by omega
 have e16:((k:Int)/16).toNat=k/16:=by omega
 have em:min ((k:Int) % 16).toNat 64=k % 16:=by omega
 have hb:=aqh m k
 simp(disch:=omega)only[go_sem,h0]
 refine qe (fun h1=>?_) (fun h1=>?_)
 ·simp(disch:=omega)only[go_sem,h1]
  have:m/2^k % 2=0:=by
   rw[←hb]
   have h2:=zY m (k/16)
   rw[List.getD_eq_getElem?_getD,List.getElem?_eq_none (by omega)]at h2
   have h3:m/65536^(k/16) % 65536=0:=by simp only[Option.getD_none]at h2;omega
   rw[h3];simp
  rw[this]
  exact qu
 ·have hx:=qJ (qO m) (k/16)
  have hp:(0:Int)<2^(k % 16):=Int.pow_pos (by omega)
  have efd:∀x:Int,x.fdiv (2^(k % 16))=x/2^(k % 16):=fun x=>Int.fdiv_eq_ediv_of_nonneg _ (Int.le_of_lt hp)
  have hq:0≤(lim m).getD (k/16) 0/2^(k % 16)∧(lim m).getD (k/16) 0/2^(k % 16)<65536:=by
   refine⟨Int.ediv_nonneg hx.1 (Int.le_of_lt hp),Int.lt_of_le_of_lt (Int.ediv_le_self _ hx.1) hx.2⟩
  have hr:(lim m).getD (k/16) 0/2^(k % 16) % 2=((m/2^k % 2:Nat):Int):=by
   rw[←hb,zY]
   generalize m/65536^(k/16) % 65536=x
   rw[Int.natCast_emod,Int.natCast_ediv,Int.natCast_pow];rfl
  simp(disch:=omega)only[go_sem,h1,e16,em,efd,hr]
  refine⟨by omega,by omega,by omega,?_⟩
  exact qu
end Go.Ab
namespace Go.Ab
open Go Go.Proofs
theorem aam(a k:Nat):(vl (lim a)*2^k).toNat=a*2^k:=by
 rw[qS]
 have:((a:Int)*2^k)=((a*2^k:Nat):Int):=by rw[Int.natCast_mul,Int.natCast_pow];rfl
 rw[this,Int.toNat_natCast]
theorem aan(a k:Nat):(vl (lim a)/2^k).toNat=a/2^k:=by
 rw[qS]
 have:((a:Int)/2^k)=((a/2^k:Nat):Int):=by rw[Int.natCast_ediv,Int.natCast_pow];rfl
 rw[this,Int.toNat_natCast]
theorem aEm(a b:Nat):(vl (lim a)*vl (lim b)).toNat=a*b:=by rw[qS,qS,←Int.natCast_mul,Int.toNat_natCast]
theorem aEn(a b:Nat):(vl (lim a)+vl (lim b)).toNat=a+b:=by rw[qS,qS];omega
theorem aEl(a b:Nat):(vl (lim a)-vl (lim b)).toNat=a-b:=by rw[qS,qS];omega
theorem q8(n:Nat)(hn:n<2^63):Con Tryz.prog 189 false [.v (.int .i64 n)] [] (aDM (lim n)):=(apj false n hn).num
theorem apd(cl:Bool)(a k:Nat)(la:(lim a).length≤1000000)(hk:k≤100000000):Con Tryz.prog 195 cl [.sl (lim (a)).length (qg (lim (a))),.v (.int .i64 k)] [] (aqH (lim (a*2^k))):=by
 have:=aSg cl (lim a) k (qO a) la hk
 rwa[aam]at this
theorem zf(a k:Nat)(la:(lim a).length≤1000000)(hk:k≤100000000):Con Tryz.prog 195 false [.sl (lim (a)).length (qg (lim (a))),.v (.int .i64 k)] [] (aDM (lim (a*2^k))):=(apd false a k la hk).num
theorem K4(cl:Bool)(a k:Nat)(la:(lim a).length≤1000000)(hk:k≤100000000):Con Tryz.prog 216 cl [.sl (lim (a)).length (qg (lim (a))),.v (.int .i64 k)] [] (aqH (lim (a/2^k))):=by
 have:=aB5 cl (lim a) k (qO a) la hk
 rwa[aan]at this
theorem Z5(a k:Nat)(la:(lim a).length≤1000000)(hk:k≤100000000):Con Tryz.prog 216 false [.sl (lim (a)).length (qg (lim (a))),.v (.int .i64 k)] [] (aDM (lim (a/2^k))):=(K4 false a k la hk).num
theorem yJ(a b:Nat)(la:(lim a).length≤1000000)(lb:(lim b).length≤1000000):Con Tryz.prog 218 false [.sl (lim (a)).length (qg (lim (a))),.sl (lim (b)).length (qg (lim (b)))] [] (aDM (lim (a*b))):=by
 have:=(ape false (lim a) (lim b) (qO a) (qO b) la lb).num
 rwa[aEm]at this
theorem yv(a b:Nat)(la:(lim a).length≤2000000)(lb:(lim b).length≤2000000):Con Tryz.prog 219 false [.sl (lim (a)).length (qg (lim (a))),.sl (lim (b)).length (qg (lim (b)))] [] (aDM (lim (a+b))):=by
 have:=(aBU false (lim a) (lim b) (qO a) (qO b) la lb).num
 rwa[aEn]at this
theorem apQ(a d:Nat)(la:(lim a).length≤1000000)(hd:0<d)(hd2:d<65536):
  Con Tryz.prog 295 false [.sl (lim (a)).length (qg (lim (a))),.v (.int .i64 d)] [] (isA (.tu [.sl (lim (a/d)).length (qg (lim (a/d))),.v (.int .i64 ((a % d:Nat):Int))])):=
 Con.frzA <| (aB6 false (lim a) d (qO a) la hd hd2).mono fun r hs bs ⟨zs,h1,h2⟩=>by
  rw[qS]at h1 h2
  rw[h1,h2]
  have e:((a:Int)/(d:Int)).toNat=a/d:=by
   rw[←Int.natCast_ediv,Int.toNat_natCast]
  rw[e]
  show qM _ 6 _=_
  unfold qM
  simp only[List.map_cons,List.map_nil]
  rw[yB (k:=3) (l:=lim (a/d)) (zs:=zs) zz rfl]
  rw[Int.natCast_emod];rfl
end Go.Ab
