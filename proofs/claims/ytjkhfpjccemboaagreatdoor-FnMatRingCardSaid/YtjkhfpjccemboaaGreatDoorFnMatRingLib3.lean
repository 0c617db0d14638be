/- What the proof of this claim stands on: the walks of the functions and the plain laws, part 3. -/
import Derived.Test.YtjkhfpjccemboaaGreatDoorFnMatRingLib2
import Derived.Test.YtjkhfpjccemboaaGreatDoorChecked
import Derived.KernelRfl
import Derived.Shelf.Spec.TrailingZeros
import Derived.Shelf.Small.Bits
import Derived.Shelf.Strconv.Itoa0
set_option linter.unusedVariables false
set_option linter.unusedSimpArgs false
namespace Go.Ab
open Go Go.Proofs
def ti1:TI:=⟨Kd.oth,1,8,Value.nilFunc⟩
theorem tf1:qo Tryz.prog 1=some ti1:=by kernel_rfl
def ti2:TI:=⟨Kd.int IntKind.i64,1,8,Value.int IntKind.i64 0⟩
theorem tf2:qo Tryz.prog 2=some ti2:=by kernel_rfl
def ti3:TI:=⟨Kd.int IntKind.i64,1,8,Value.int IntKind.i64 0⟩
theorem tf3:qo Tryz.prog 3=some ti3:=by kernel_rfl
def ti4:TI:=⟨Kd.bool,1,1,Value.bool false⟩
theorem tf4:qo Tryz.prog 4=some ti4:=by kernel_rfl
def ti5:TI:=⟨Kd.int IntKind.u8,1,1,Value.int IntKind.u8 0⟩
theorem tf5:qo Tryz.prog 5=some ti5:=by kernel_rfl
def ti6:TI:=⟨Kd.int IntKind.u8,1,1,Value.int IntKind.u8 0⟩
theorem tf6:qo Tryz.prog 6=some ti6:=by kernel_rfl
def ti7:TI:=⟨Kd.stru [(0,2),(1,3),(2,4),(3,6)],4,24,Value.agg ⟨[Value.int IntKind.i64 0,Value.int IntKind.i64 0,Value.bool false,Value.int IntKind.u8 0]⟩⟩
theorem tf7:qo Tryz.prog 7=some ti7:=by kernel_rfl
def ti8:TI:=⟨Kd.stru [(0,2),(1,3),(2,4),(3,6)],4,24,Value.agg ⟨[Value.int IntKind.i64 0,Value.int IntKind.i64 0,Value.bool false,Value.int IntKind.u8 0]⟩⟩
theorem tf8:qo Tryz.prog 8=some ti8:=by kernel_rfl
def ti9:TI:=⟨Kd.str,1,16,Value.string {data:=⟨[]⟩}⟩
theorem tf9:qo Tryz.prog 9=some ti9:=by kernel_rfl
def aDX:TI:=⟨Kd.str,1,16,Value.string {data:=⟨[]⟩}⟩
theorem bdu:qo Tryz.prog 10=some aDX:=by kernel_rfl
def aDW:TI:=⟨Kd.str,1,16,Value.string {data:=⟨[]⟩}⟩
theorem bdt:qo Tryz.prog 11=some aDW:=by kernel_rfl
def aDV:TI:=⟨Kd.int IntKind.u64,1,8,Value.int IntKind.u64 0⟩
theorem bds:qo Tryz.prog 12=some aDV:=by kernel_rfl
def aDU:TI:=⟨Kd.int IntKind.i32,1,4,Value.int IntKind.i32 0⟩
theorem bdr:qo Tryz.prog 21=some aDU:=by kernel_rfl
def aei:TI:=⟨Kd.sli 5,1,24,Value.slice none 0 0⟩
theorem aDZ:qo Tryz.prog 22=some aei:=by kernel_rfl
def Jh:TI:=⟨Kd.sli 3,1,24,Value.slice none 0 0⟩
theorem aej:qo Tryz.prog 23=some Jh:=by kernel_rfl
def aq0:TI:=⟨Kd.stru [(0,23)],1,24,Value.agg ⟨[Value.slice none 0 0]⟩⟩
theorem aWV:qo Tryz.prog 24=some aq0:=by kernel_rfl
def aak:TI:=⟨Kd.stru [(0,23)],1,24,Value.agg ⟨[Value.slice none 0 0]⟩⟩
theorem az6:qo Tryz.prog 25=some aak:=by kernel_rfl
def alq:TI:=⟨Kd.stru [(0,4),(1,25)],2,32,Value.agg ⟨[Value.bool false,Value.slice none 0 0]⟩⟩
theorem aTX:qo Tryz.prog 26=some alq:=by kernel_rfl
def YU:TI:=⟨Kd.stru [(0,4),(1,25)],2,32,Value.agg ⟨[Value.bool false,Value.slice none 0 0]⟩⟩
theorem aq1:qo Tryz.prog 27=some YU:=by kernel_rfl
def alc:TI:=⟨Kd.stru [(0,27),(2,3)],3,40,Value.agg ⟨[Value.bool false,Value.slice none 0 0,Value.int IntKind.i64 0]⟩⟩
theorem aTW:qo Tryz.prog 28=some alc:=by kernel_rfl
def QZ:TI:=⟨Kd.stru [(0,27),(2,3)],3,40,Value.agg ⟨[Value.bool false,Value.slice none 0 0,Value.int IntKind.i64 0]⟩⟩
theorem V9:qo Tryz.prog 29=some QZ:=by kernel_rfl
def aDT:TI:=⟨Kd.oth,1,8,Value.nilFunc⟩
theorem bdq:qo Tryz.prog 31=some aDT:=by kernel_rfl
def aDS:TI:=⟨Kd.oth,1,8,Value.nilFunc⟩
theorem bdp:qo Tryz.prog 33=some aDS:=by kernel_rfl
def aDR:TI:=⟨Kd.oth,1,8,Value.nilFunc⟩
theorem bdo:qo Tryz.prog 34=some aDR:=by kernel_rfl
def aDQ:TI:=⟨Kd.oth,1,8,Value.nilFunc⟩
theorem bdn:qo Tryz.prog 35=some aDQ:=by kernel_rfl
def aDP:TI:=⟨Kd.oth,1,8,Value.nilFunc⟩
theorem bdm:qo Tryz.prog 36=some aDP:=by kernel_rfl
def aDO:TI:=⟨Kd.oth,1,8,Value.nilFunc⟩
theorem bdl:qo Tryz.prog 37=some aDO:=by kernel_rfl
def aDN:TI:=⟨Kd.oth,1,8,Value.nilFunc⟩
theorem bdk:qo Tryz.prog 38=some aDN:=by kernel_rfl
def aDM:TI:=⟨Kd.oth,1,8,Value.nilFunc⟩
theorem bdj:qo Tryz.prog 39=some aDM:=by kernel_rfl
def aeh:TI:=⟨Kd.sli 29,1,24,Value.slice none 0 0⟩
theorem aDY:qo Tryz.prog 40=some aeh:=by kernel_rfl
def akY:TI:=⟨Kd.stru [(0,3),(1,40)],2,32,Value.agg ⟨[Value.int IntKind.i64 0,Value.slice none 0 0]⟩⟩
theorem aTV:qo Tryz.prog 41=some akY:=by kernel_rfl
def akW:TI:=⟨Kd.stru [(0,3),(1,40)],2,32,Value.agg ⟨[Value.int IntKind.i64 0,Value.slice none 0 0]⟩⟩
theorem aTU:qo Tryz.prog 42=some akW:=by kernel_rfl
def aDL:TI:=⟨Kd.oth,1,8,Value.nilFunc⟩
theorem bdi:qo Tryz.prog 44=some aDL:=by kernel_rfl
def aDK:TI:=⟨Kd.oth,1,8,Value.nilFunc⟩
theorem bdh:qo Tryz.prog 45=some aDK:=by kernel_rfl
def aDJ:TI:=⟨Kd.oth,1,8,Value.nilFunc⟩
theorem bdg:qo Tryz.prog 47=some aDJ:=by kernel_rfl
def aDI:TI:=⟨Kd.oth,1,8,Value.nilFunc⟩
theorem bdf:qo Tryz.prog 48=some aDI:=by kernel_rfl
def akQ:TI:=⟨Kd.stru [(0,29),(3,29)],6,80,Value.agg ⟨[Value.bool false,Value.slice none 0 0,Value.int IntKind.i64 0,Value.bool false,Value.slice none 0 0,Value.int IntKind.i64 0]⟩⟩
theorem aTT:qo Tryz.prog 49=some akQ:=by kernel_rfl
def ajU:TI:=⟨Kd.stru [(0,29),(3,29)],6,80,Value.agg ⟨[Value.bool false,Value.slice none 0 0,Value.int IntKind.i64 0,Value.bool false,Value.slice none 0 0,Value.int IntKind.i64 0]⟩⟩
theorem aNi:qo Tryz.prog 50=some ajU:=by kernel_rfl
def aDH:TI:=⟨Kd.oth,1,8,Value.nilFunc⟩
theorem bde:qo Tryz.prog 52=some aDH:=by kernel_rfl
def aDG:TI:=⟨Kd.oth,1,8,Value.nilFunc⟩
theorem bdd:qo Tryz.prog 54=some aDG:=by kernel_rfl
def aDF:TI:=⟨Kd.oth,1,8,Value.nilFunc⟩
theorem bdc:qo Tryz.prog 55=some aDF:=by kernel_rfl
def aDE:TI:=⟨Kd.oth,1,8,Value.nilFunc⟩
theorem bdb:qo Tryz.prog 56=some aDE:=by kernel_rfl
def aDD:TI:=⟨Kd.oth,1,8,Value.nilFunc⟩
theorem bda:qo Tryz.prog 57=some aDD:=by kernel_rfl
def aDC:TI:=⟨Kd.oth,1,8,Value.nilFunc⟩
theorem bc9:qo Tryz.prog 58=some aDC:=by kernel_rfl
def aDB:TI:=⟨Kd.oth,1,8,Value.nilFunc⟩
theorem bc8:qo Tryz.prog 59=some aDB:=by kernel_rfl
def aDA:TI:=⟨Kd.oth,1,8,Value.nilFunc⟩
theorem bc7:qo Tryz.prog 60=some aDA:=by kernel_rfl
def aDz:TI:=⟨Kd.oth,1,8,Value.nilFunc⟩
theorem bc6:qo Tryz.prog 61=some aDz:=by kernel_rfl
def afp:TI:=⟨Kd.stru [(0,3),(1,4),(2,3),(3,3)],4,32,Value.agg ⟨[Value.int IntKind.i64 0,Value.bool false,Value.int IntKind.i64 0,Value.int IntKind.i64 0]⟩⟩
theorem aMt:qo Tryz.prog 62=some afp:=by kernel_rfl
def aeg:TI:=⟨Kd.stru [(0,3),(1,4),(2,3),(3,3)],4,32,Value.agg ⟨[Value.int IntKind.i64 0,Value.bool false,Value.int IntKind.i64 0,Value.int IntKind.i64 0]⟩⟩
theorem aIe:qo Tryz.prog 63=some aeg:=by kernel_rfl
def aDy:TI:=⟨Kd.oth,1,8,Value.nilFunc⟩
theorem bc5:qo Tryz.prog 65=some aDy:=by kernel_rfl
def aDx:TI:=⟨Kd.oth,1,8,Value.nilFunc⟩
theorem bc4:qo Tryz.prog 67=some aDx:=by kernel_rfl
def aDw:TI:=⟨Kd.oth,1,8,Value.nilFunc⟩
theorem bc3:qo Tryz.prog 68=some aDw:=by kernel_rfl
def aDv:TI:=⟨Kd.oth,1,8,Value.nilFunc⟩
theorem bc2:qo Tryz.prog 69=some aDv:=by kernel_rfl
def aDu:TI:=⟨Kd.oth,1,8,Value.nilFunc⟩
theorem bc1:qo Tryz.prog 70=some aDu:=by kernel_rfl
def aDt:TI:=⟨Kd.oth,1,8,Value.nilFunc⟩
theorem bc0:qo Tryz.prog 71=some aDt:=by kernel_rfl
def aDs:TI:=⟨Kd.oth,1,8,Value.nilFunc⟩
theorem bcZ:qo Tryz.prog 72=some aDs:=by kernel_rfl
def aDr:TI:=⟨Kd.oth,1,8,Value.nilFunc⟩
theorem bcY:qo Tryz.prog 74=some aDr:=by kernel_rfl
def aDq:TI:=⟨Kd.oth,1,8,Value.nilFunc⟩
theorem bcX:qo Tryz.prog 76=some aDq:=by kernel_rfl
def aDp:TI:=⟨Kd.oth,1,8,Value.nilFunc⟩
theorem bcW:qo Tryz.prog 77=some aDp:=by kernel_rfl
def aDo:TI:=⟨Kd.oth,1,8,Value.nilFunc⟩
theorem bcV:qo Tryz.prog 79=some aDo:=by kernel_rfl
def aDn:TI:=⟨Kd.oth,1,8,Value.nilFunc⟩
theorem bcU:qo Tryz.prog 80=some aDn:=by kernel_rfl
def aDm:TI:=⟨Kd.oth,1,8,Value.nilFunc⟩
theorem bcT:qo Tryz.prog 82=some aDm:=by kernel_rfl
def aDl:TI:=⟨Kd.oth,1,8,Value.nilFunc⟩
theorem bcS:qo Tryz.prog 83=some aDl:=by kernel_rfl
def aDk:TI:=⟨Kd.oth,1,8,Value.nilFunc⟩
theorem bcR:qo Tryz.prog 84=some aDk:=by kernel_rfl
def aDj:TI:=⟨Kd.oth,1,8,Value.nilFunc⟩
theorem bcQ:qo Tryz.prog 85=some aDj:=by kernel_rfl
def aDi:TI:=⟨Kd.oth,1,8,Value.nilFunc⟩
theorem bcP:qo Tryz.prog 86=some aDi:=by kernel_rfl
def aDh:TI:=⟨Kd.oth,1,8,Value.nilFunc⟩
theorem bcO:qo Tryz.prog 87=some aDh:=by kernel_rfl
def aDg:TI:=⟨Kd.oth,1,8,Value.nilFunc⟩
theorem bcN:qo Tryz.prog 88=some aDg:=by kernel_rfl
def ajT:TI:=⟨Kd.stru [(0,4),(1,23),(2,3)],3,40,Value.agg ⟨[Value.bool false,Value.slice none 0 0,Value.int IntKind.i64 0]⟩⟩
theorem aNh:qo Tryz.prog 89=some ajT:=by kernel_rfl
def QO:TI:=⟨Kd.stru [(0,4),(1,23),(2,3)],3,40,Value.agg ⟨[Value.bool false,Value.slice none 0 0,Value.int IntKind.i64 0]⟩⟩
theorem YO:qo Tryz.prog 90=some QO:=by kernel_rfl
def aDf:TI:=⟨Kd.oth,1,8,Value.nilFunc⟩
theorem bcM:qo Tryz.prog 92=some aDf:=by kernel_rfl
def aDe:TI:=⟨Kd.oth,1,8,Value.nilFunc⟩
theorem bcL:qo Tryz.prog 93=some aDe:=by kernel_rfl
def aDd:TI:=⟨Kd.oth,1,8,Value.nilFunc⟩
theorem bcK:qo Tryz.prog 94=some aDd:=by kernel_rfl
def aDc:TI:=⟨Kd.oth,1,8,Value.nilFunc⟩
theorem bcJ:qo Tryz.prog 95=some aDc:=by kernel_rfl
def aDb:TI:=⟨Kd.oth,1,8,Value.nilFunc⟩
theorem bcI:qo Tryz.prog 97=some aDb:=by kernel_rfl
def aDa:TI:=⟨Kd.oth,1,8,Value.nilFunc⟩
theorem bcH:qo Tryz.prog 98=some aDa:=by kernel_rfl
def aC9:TI:=⟨Kd.oth,1,8,Value.nilFunc⟩
theorem bcG:qo Tryz.prog 99=some aC9:=by kernel_rfl
def yD:TI:=⟨Kd.sli 90,1,24,Value.slice none 0 0⟩
theorem JT:qo Tryz.prog 100=some yD:=by kernel_rfl
def Zj:TI:=⟨Kd.stru [(0,3),(1,100)],2,32,Value.agg ⟨[Value.int IntKind.i64 0,Value.slice none 0 0]⟩⟩
theorem aAd:qo Tryz.prog 101=some Zj:=by kernel_rfl
def Zi:TI:=⟨Kd.stru [(0,3),(1,100)],2,32,Value.agg ⟨[Value.int IntKind.i64 0,Value.slice none 0 0]⟩⟩
theorem aAc:qo Tryz.prog 102=some Zi:=by kernel_rfl
def V8:TI:=⟨Kd.oth,1,8,Value.nilFunc⟩
theorem aYK:qo Tryz.prog 103=some V8:=by kernel_rfl
def V7:TI:=⟨Kd.oth,1,8,Value.nilFunc⟩
theorem aYJ:qo Tryz.prog 104=some V7:=by kernel_rfl
def V6:TI:=⟨Kd.oth,1,8,Value.nilFunc⟩
theorem aYI:qo Tryz.prog 105=some V6:=by kernel_rfl
def V5:TI:=⟨Kd.oth,1,8,Value.nilFunc⟩
theorem aYH:qo Tryz.prog 106=some V5:=by kernel_rfl
def V4:TI:=⟨Kd.oth,1,8,Value.nilFunc⟩
theorem aYG:qo Tryz.prog 107=some V4:=by kernel_rfl
def V3:TI:=⟨Kd.oth,1,8,Value.nilFunc⟩
theorem aYF:qo Tryz.prog 108=some V3:=by kernel_rfl
def V2:TI:=⟨Kd.oth,1,8,Value.nilFunc⟩
theorem aYE:qo Tryz.prog 109=some V2:=by kernel_rfl
def Zh:TI:=⟨Kd.stru [(0,90),(3,90)],6,80,Value.agg ⟨[Value.bool false,Value.slice none 0 0,Value.int IntKind.i64 0,Value.bool false,Value.slice none 0 0,Value.int IntKind.i64 0]⟩⟩
theorem aAb:qo Tryz.prog 110=some Zh:=by kernel_rfl
def QR:TI:=⟨Kd.stru [(0,90),(3,90)],6,80,Value.agg ⟨[Value.bool false,Value.slice none 0 0,Value.int IntKind.i64 0,Value.bool false,Value.slice none 0 0,Value.int IntKind.i64 0]⟩⟩
theorem an2:qo Tryz.prog 111=some QR:=by kernel_rfl
def V1:TI:=⟨Kd.oth,1,8,Value.nilFunc⟩
theorem aYD:qo Tryz.prog 113=some V1:=by kernel_rfl
def V0:TI:=⟨Kd.oth,1,8,Value.nilFunc⟩
theorem aYC:qo Tryz.prog 114=some V0:=by kernel_rfl
def VZ:TI:=⟨Kd.oth,1,8,Value.nilFunc⟩
theorem aYB:qo Tryz.prog 115=some VZ:=by kernel_rfl
def VY:TI:=⟨Kd.oth,1,8,Value.nilFunc⟩
theorem aYA:qo Tryz.prog 116=some VY:=by kernel_rfl
def VX:TI:=⟨Kd.oth,1,8,Value.nilFunc⟩
theorem aYz:qo Tryz.prog 117=some VX:=by kernel_rfl
def VW:TI:=⟨Kd.oth,1,8,Value.nilFunc⟩
theorem aYy:qo Tryz.prog 118=some VW:=by kernel_rfl
def VV:TI:=⟨Kd.oth,1,8,Value.nilFunc⟩
theorem aYx:qo Tryz.prog 119=some VV:=by kernel_rfl
def VU:TI:=⟨Kd.oth,1,8,Value.nilFunc⟩
theorem aYw:qo Tryz.prog 120=some VU:=by kernel_rfl
def VT:TI:=⟨Kd.oth,1,8,Value.nilFunc⟩
theorem aYv:qo Tryz.prog 121=some VT:=by kernel_rfl
def VS:TI:=⟨Kd.oth,1,8,Value.nilFunc⟩
theorem aYu:qo Tryz.prog 122=some VS:=by kernel_rfl
def VR:TI:=⟨Kd.oth,1,8,Value.nilFunc⟩
theorem aYt:qo Tryz.prog 123=some VR:=by kernel_rfl
def VQ:TI:=⟨Kd.oth,1,8,Value.nilFunc⟩
theorem aYs:qo Tryz.prog 124=some VQ:=by kernel_rfl
def VP:TI:=⟨Kd.oth,1,8,Value.nilFunc⟩
theorem aYr:qo Tryz.prog 125=some VP:=by kernel_rfl
def VO:TI:=⟨Kd.oth,1,8,Value.nilFunc⟩
theorem aYq:qo Tryz.prog 126=some VO:=by kernel_rfl
def VN:TI:=⟨Kd.oth,1,8,Value.nilFunc⟩
theorem aYp:qo Tryz.prog 127=some VN:=by kernel_rfl
def VM:TI:=⟨Kd.oth,1,8,Value.nilFunc⟩
theorem aYo:qo Tryz.prog 128=some VM:=by kernel_rfl
def VL:TI:=⟨Kd.oth,1,8,Value.nilFunc⟩
theorem aYn:qo Tryz.prog 129=some VL:=by kernel_rfl
def VK:TI:=⟨Kd.oth,1,8,Value.nilFunc⟩
theorem aYm:qo Tryz.prog 130=some VK:=by kernel_rfl
def VJ:TI:=⟨Kd.oth,1,8,Value.nilFunc⟩
theorem aYl:qo Tryz.prog 131=some VJ:=by kernel_rfl
def VI:TI:=⟨Kd.int IntKind.u64,1,8,Value.int IntKind.u64 0⟩
theorem aYk:qo Tryz.prog 132=some VI:=by kernel_rfl
def VH:TI:=⟨Kd.oth,1,8,Value.nilFunc⟩
theorem aYj:qo Tryz.prog 133=some VH:=by kernel_rfl
def VG:TI:=⟨Kd.oth,1,8,Value.nilFunc⟩
theorem aYi:qo Tryz.prog 135=some VG:=by kernel_rfl
def VF:TI:=⟨Kd.oth,1,8,Value.nilFunc⟩
theorem aYh:qo Tryz.prog 136=some VF:=by kernel_rfl
def VE:TI:=⟨Kd.oth,1,8,Value.nilFunc⟩
theorem aYg:qo Tryz.prog 137=some VE:=by kernel_rfl
def VD:TI:=⟨Kd.oth,1,8,Value.nilFunc⟩
theorem aYf:qo Tryz.prog 138=some VD:=by kernel_rfl
def VC:TI:=⟨Kd.oth,1,8,Value.nilFunc⟩
theorem aYe:qo Tryz.prog 139=some VC:=by kernel_rfl
def VB:TI:=⟨Kd.oth,1,8,Value.nilFunc⟩
theorem aYd:qo Tryz.prog 140=some VB:=by kernel_rfl
def VA:TI:=⟨Kd.oth,1,8,Value.nilFunc⟩
theorem aYc:qo Tryz.prog 141=some VA:=by kernel_rfl
def QQ:TI:=⟨Kd.stru [(0,22),(1,3),(2,3)],3,40,Value.agg ⟨[Value.slice none 0 0,Value.int IntKind.i64 0,Value.int IntKind.i64 0]⟩⟩
theorem an1:qo Tryz.prog 142=some QQ:=by kernel_rfl
def QP:TI:=⟨Kd.stru [(0,22),(1,3),(2,3)],3,40,Value.agg ⟨[Value.slice none 0 0,Value.int IntKind.i64 0,Value.int IntKind.i64 0]⟩⟩
theorem an0:qo Tryz.prog 143=some QP:=by kernel_rfl
def Vz:TI:=⟨Kd.oth,1,8,Value.nilFunc⟩
theorem aYb:qo Tryz.prog 144=some Vz:=by kernel_rfl
def Vy:TI:=⟨Kd.oth,1,8,Value.nilFunc⟩
theorem aYa:qo Tryz.prog 145=some Vy:=by kernel_rfl
def Vx:TI:=⟨Kd.oth,1,8,Value.nilFunc⟩
theorem aX9:qo Tryz.prog 146=some Vx:=by kernel_rfl
def Vw:TI:=⟨Kd.oth,1,8,Value.nilFunc⟩
theorem aX8:qo Tryz.prog 147=some Vw:=by kernel_rfl
def Vv:TI:=⟨Kd.oth,1,8,Value.nilFunc⟩
theorem aX7:qo Tryz.prog 148=some Vv:=by kernel_rfl
def Vu:TI:=⟨Kd.oth,1,8,Value.nilFunc⟩
theorem aX6:qo Tryz.prog 150=some Vu:=by kernel_rfl
def Vt:TI:=⟨Kd.oth,1,8,Value.nilFunc⟩
theorem aX5:qo Tryz.prog 152=some Vt:=by kernel_rfl
def Vs:TI:=⟨Kd.oth,1,8,Value.nilFunc⟩
theorem aX4:qo Tryz.prog 153=some Vs:=by kernel_rfl
def Vr:TI:=⟨Kd.oth,1,8,Value.nilFunc⟩
theorem aX3:qo Tryz.prog 154=some Vr:=by kernel_rfl
def yR:TI:=⟨Kd.sli 111,1,24,Value.slice none 0 0⟩
theorem Kb:qo Tryz.prog 155=some yR:=by kernel_rfl
def Zg:TI:=⟨Kd.stru [(0,3),(1,155)],2,32,Value.agg ⟨[Value.int IntKind.i64 0,Value.slice none 0 0]⟩⟩
theorem aAa:qo Tryz.prog 156=some Zg:=by kernel_rfl
def Zf:TI:=⟨Kd.stru [(0,3),(1,155)],2,32,Value.agg ⟨[Value.int IntKind.i64 0,Value.slice none 0 0]⟩⟩
theorem az9:qo Tryz.prog 157=some Zf:=by kernel_rfl
def Vq:TI:=⟨Kd.oth,1,8,Value.nilFunc⟩
theorem aX2:qo Tryz.prog 158=some Vq:=by kernel_rfl
def yQ:TI:=⟨Kd.sli 50,1,24,Value.slice none 0 0⟩
theorem Ka:qo Tryz.prog 159=some yQ:=by kernel_rfl
def Ze:TI:=⟨Kd.stru [(0,3),(1,159)],2,32,Value.agg ⟨[Value.int IntKind.i64 0,Value.slice none 0 0]⟩⟩
theorem az8:qo Tryz.prog 160=some Ze:=by kernel_rfl
def Zd:TI:=⟨Kd.stru [(0,3),(1,159)],2,32,Value.agg ⟨[Value.int IntKind.i64 0,Value.slice none 0 0]⟩⟩
theorem az7:qo Tryz.prog 161=some Zd:=by kernel_rfl
def Vp:TI:=⟨Kd.oth,1,8,Value.nilFunc⟩
theorem aX1:qo Tryz.prog 163=some Vp:=by kernel_rfl
def Vo:TI:=⟨Kd.oth,1,8,Value.nilFunc⟩
theorem aX0:qo Tryz.prog 164=some Vo:=by kernel_rfl
def Vn:TI:=⟨Kd.oth,1,8,Value.nilFunc⟩
theorem aXZ:qo Tryz.prog 165=some Vn:=by kernel_rfl
def Vm:TI:=⟨Kd.oth,1,8,Value.nilFunc⟩
theorem aXY:qo Tryz.prog 166=some Vm:=by kernel_rfl
def Vl:TI:=⟨Kd.oth,1,8,Value.nilFunc⟩
theorem aXX:qo Tryz.prog 167=some Vl:=by kernel_rfl
def Vk:TI:=⟨Kd.oth,1,8,Value.nilFunc⟩
theorem aXW:qo Tryz.prog 169=some Vk:=by kernel_rfl
def Vj:TI:=⟨Kd.oth,1,8,Value.nilFunc⟩
theorem aXV:qo Tryz.prog 170=some Vj:=by kernel_rfl
def Vi:TI:=⟨Kd.oth,1,8,Value.nilFunc⟩
theorem aXU:qo Tryz.prog 171=some Vi:=by kernel_rfl
def Vh:TI:=⟨Kd.oth,1,8,Value.nilFunc⟩
theorem aXT:qo Tryz.prog 172=some Vh:=by kernel_rfl
def Vg:TI:=⟨Kd.oth,1,8,Value.nilFunc⟩
theorem aXS:qo Tryz.prog 173=some Vg:=by kernel_rfl
def Vf:TI:=⟨Kd.oth,1,8,Value.nilFunc⟩
theorem aXR:qo Tryz.prog 174=some Vf:=by kernel_rfl
def Ve:TI:=⟨Kd.oth,1,8,Value.nilFunc⟩
theorem aXQ:qo Tryz.prog 176=some Ve:=by kernel_rfl
def Vd:TI:=⟨Kd.oth,1,8,Value.nilFunc⟩
theorem aXP:qo Tryz.prog 177=some Vd:=by kernel_rfl
def Vc:TI:=⟨Kd.oth,1,8,Value.nilFunc⟩
theorem aXO:qo Tryz.prog 178=some Vc:=by kernel_rfl
def Vb:TI:=⟨Kd.oth,1,8,Value.nilFunc⟩
theorem aXN:qo Tryz.prog 179=some Vb:=by kernel_rfl
def Va:TI:=⟨Kd.oth,1,8,Value.nilFunc⟩
theorem aXM:qo Tryz.prog 180=some Va:=by kernel_rfl
def X9:TI:=⟨Kd.oth,1,8,Value.nilFunc⟩
theorem aXL:qo Tryz.prog 181=some X9:=by kernel_rfl
def X8:TI:=⟨Kd.oth,1,8,Value.nilFunc⟩
theorem aXK:qo Tryz.prog 183=some X8:=by kernel_rfl
def X7:TI:=⟨Kd.oth,1,8,Value.nilFunc⟩
theorem aXJ:qo Tryz.prog 184=some X7:=by kernel_rfl
def X6:TI:=⟨Kd.sli 63,1,24,Value.slice none 0 0⟩
theorem aNk:qo Tryz.prog 185=some X6:=by kernel_rfl
def X5:TI:=⟨Kd.oth,1,8,Value.nilFunc⟩
theorem aXI:qo Tryz.prog 186=some X5:=by kernel_rfl
def X4:TI:=⟨Kd.oth,1,8,Value.nilFunc⟩
theorem aXH:qo Tryz.prog 187=some X4:=by kernel_rfl
def X3:TI:=⟨Kd.oth,1,8,Value.nilFunc⟩
theorem aXG:qo Tryz.prog 188=some X3:=by kernel_rfl
def X2:TI:=⟨Kd.oth,1,8,Value.nilFunc⟩
theorem aXF:qo Tryz.prog 189=some X2:=by kernel_rfl
def X1:TI:=⟨Kd.oth,1,8,Value.nilFunc⟩
theorem aXE:qo Tryz.prog 190=some X1:=by kernel_rfl
def X0:TI:=⟨Kd.oth,1,8,Value.nilFunc⟩
theorem aXD:qo Tryz.prog 191=some X0:=by kernel_rfl
def XZ:TI:=⟨Kd.oth,1,8,Value.nilFunc⟩
theorem aXC:qo Tryz.prog 192=some XZ:=by kernel_rfl
def XY:TI:=⟨Kd.oth,1,8,Value.nilFunc⟩
theorem aXB:qo Tryz.prog 193=some XY:=by kernel_rfl
def XX:TI:=⟨Kd.oth,1,8,Value.nilFunc⟩
theorem aXA:qo Tryz.prog 194=some XX:=by kernel_rfl
def XW:TI:=⟨Kd.oth,1,8,Value.nilFunc⟩
theorem aXz:qo Tryz.prog 195=some XW:=by kernel_rfl
def XV:TI:=⟨Kd.oth,1,8,Value.nilFunc⟩
theorem aXy:qo Tryz.prog 196=some XV:=by kernel_rfl
def XU:TI:=⟨Kd.oth,1,8,Value.nilFunc⟩
theorem aXx:qo Tryz.prog 197=some XU:=by kernel_rfl
def XT:TI:=⟨Kd.oth,1,8,Value.nilFunc⟩
theorem aXw:qo Tryz.prog 198=some XT:=by kernel_rfl
def XS:TI:=⟨Kd.oth,1,8,Value.nilFunc⟩
theorem aXv:qo Tryz.prog 199=some XS:=by kernel_rfl
def XR:TI:=⟨Kd.oth,1,8,Value.nilFunc⟩
theorem aXu:qo Tryz.prog 200=some XR:=by kernel_rfl
def XQ:TI:=⟨Kd.oth,1,8,Value.nilFunc⟩
theorem aXt:qo Tryz.prog 201=some XQ:=by kernel_rfl
def XP:TI:=⟨Kd.oth,1,8,Value.nilFunc⟩
theorem aXs:qo Tryz.prog 202=some XP:=by kernel_rfl
def XO:TI:=⟨Kd.oth,1,8,Value.nilFunc⟩
theorem aXr:qo Tryz.prog 203=some XO:=by kernel_rfl
def XN:TI:=⟨Kd.oth,1,8,Value.nilFunc⟩
theorem aXq:qo Tryz.prog 204=some XN:=by kernel_rfl
def XM:TI:=⟨Kd.oth,1,8,Value.nilFunc⟩
theorem aXp:qo Tryz.prog 205=some XM:=by kernel_rfl
def XL:TI:=⟨Kd.oth,1,8,Value.nilFunc⟩
theorem aXo:qo Tryz.prog 206=some XL:=by kernel_rfl
def XK:TI:=⟨Kd.oth,1,8,Value.nilFunc⟩
theorem aXn:qo Tryz.prog 208=some XK:=by kernel_rfl
def XJ:TI:=⟨Kd.oth,1,8,Value.nilFunc⟩
theorem aXm:qo Tryz.prog 209=some XJ:=by kernel_rfl
def XI:TI:=⟨Kd.oth,1,8,Value.nilFunc⟩
theorem aXl:qo Tryz.prog 210=some XI:=by kernel_rfl
def XH:TI:=⟨Kd.oth,1,8,Value.nilFunc⟩
theorem aXk:qo Tryz.prog 211=some XH:=by kernel_rfl
def XG:TI:=⟨Kd.oth,1,8,Value.nilFunc⟩
theorem aXj:qo Tryz.prog 212=some XG:=by kernel_rfl
def XF:TI:=⟨Kd.oth,1,8,Value.nilFunc⟩
theorem aXi:qo Tryz.prog 213=some XF:=by kernel_rfl
def XE:TI:=⟨Kd.oth,1,8,Value.nilFunc⟩
theorem aXh:qo Tryz.prog 214=some XE:=by kernel_rfl
def XD:TI:=⟨Kd.oth,1,8,Value.nilFunc⟩
theorem aXg:qo Tryz.prog 215=some XD:=by kernel_rfl
def XC:TI:=⟨Kd.oth,1,8,Value.nilFunc⟩
theorem aXf:qo Tryz.prog 216=some XC:=by kernel_rfl
def XB:TI:=⟨Kd.oth,1,8,Value.nilFunc⟩
theorem aXe:qo Tryz.prog 217=some XB:=by kernel_rfl
def XA:TI:=⟨Kd.oth,1,8,Value.nilFunc⟩
theorem aXd:qo Tryz.prog 218=some XA:=by kernel_rfl
def Xz:TI:=⟨Kd.oth,1,8,Value.nilFunc⟩
theorem aXc:qo Tryz.prog 220=some Xz:=by kernel_rfl
def Xy:TI:=⟨Kd.oth,1,8,Value.nilFunc⟩
theorem aXb:qo Tryz.prog 221=some Xy:=by kernel_rfl
def Xx:TI:=⟨Kd.sli 100,1,24,Value.slice none 0 0⟩
theorem aNj:qo Tryz.prog 222=some Xx:=by kernel_rfl
def Xw:TI:=⟨Kd.oth,1,8,Value.nilFunc⟩
theorem aXa:qo Tryz.prog 223=some Xw:=by kernel_rfl
def Xv:TI:=⟨Kd.oth,1,8,Value.nilFunc⟩
theorem aW9:qo Tryz.prog 224=some Xv:=by kernel_rfl
def Xu:TI:=⟨Kd.oth,1,8,Value.nilFunc⟩
theorem aW8:qo Tryz.prog 225=some Xu:=by kernel_rfl
def Xt:TI:=⟨Kd.oth,1,8,Value.nilFunc⟩
theorem aW7:qo Tryz.prog 226=some Xt:=by kernel_rfl
def Xs:TI:=⟨Kd.oth,1,8,Value.nilFunc⟩
theorem aW6:qo Tryz.prog 227=some Xs:=by kernel_rfl
def Xr:TI:=⟨Kd.oth,1,8,Value.nilFunc⟩
theorem aW5:qo Tryz.prog 228=some Xr:=by kernel_rfl
def Xq:TI:=⟨Kd.oth,1,8,Value.nilFunc⟩
theorem aW4:qo Tryz.prog 229=some Xq:=by kernel_rfl
def Xp:TI:=⟨Kd.oth,1,8,Value.nilFunc⟩
theorem aW3:qo Tryz.prog 230=some Xp:=by kernel_rfl
def Xo:TI:=⟨Kd.oth,1,8,Value.nilFunc⟩
theorem aW2:qo Tryz.prog 232=some Xo:=by kernel_rfl
def Xn:TI:=⟨Kd.oth,1,8,Value.nilFunc⟩
theorem aW1:qo Tryz.prog 233=some Xn:=by kernel_rfl
def Xm:TI:=⟨Kd.oth,1,8,Value.nilFunc⟩
theorem aW0:qo Tryz.prog 234=some Xm:=by kernel_rfl
def Xl:TI:=⟨Kd.oth,1,8,Value.nilFunc⟩
theorem aWZ:qo Tryz.prog 235=some Xl:=by kernel_rfl
def Xk:TI:=⟨Kd.oth,1,8,Value.nilFunc⟩
theorem aWY:qo Tryz.prog 237=some Xk:=by kernel_rfl
def Xj:TI:=⟨Kd.oth,1,8,Value.nilFunc⟩
theorem aWX:qo Tryz.prog 238=some Xj:=by kernel_rfl
def Xi:TI:=⟨Kd.oth,1,8,Value.nilFunc⟩
theorem aWW:qo Tryz.prog 239=some Xi:=by kernel_rfl
def Xh:TI:=⟨Kd.oth,1,8,Value.nilFunc⟩
theorem aWU:qo Tryz.prog 240=some Xh:=by kernel_rfl
def Xg:TI:=⟨Kd.oth,1,8,Value.nilFunc⟩
theorem aWT:qo Tryz.prog 241=some Xg:=by kernel_rfl
def Xf:TI:=⟨Kd.int IntKind.u32,1,4,Value.int IntKind.u32 0⟩
theorem aWS:qo Tryz.prog 242=some Xf:=by kernel_rfl
def Xe:TI:=⟨Kd.oth,1,8,Value.nilFunc⟩
theorem aWR:qo Tryz.prog 243=some Xe:=by kernel_rfl
def Xd:TI:=⟨Kd.int IntKind.u64,1,8,Value.int IntKind.u64 0⟩
theorem aWQ:qo Tryz.prog 244=some Xd:=by kernel_rfl
def Xc:TI:=⟨Kd.oth,1,8,Value.nilFunc⟩
theorem aWP:qo Tryz.prog 245=some Xc:=by kernel_rfl
def Xb:TI:=⟨Kd.oth,1,8,Value.nilFunc⟩
theorem aWO:qo Tryz.prog 247=some Xb:=by kernel_rfl
def Xa:TI:=⟨Kd.oth,1,8,Value.nilFunc⟩
theorem aWN:qo Tryz.prog 248=some Xa:=by kernel_rfl
def Y9:TI:=⟨Kd.oth,1,8,Value.nilFunc⟩
theorem aWM:qo Tryz.prog 249=some Y9:=by kernel_rfl
def Y8:TI:=⟨Kd.oth,1,8,Value.nilFunc⟩
theorem aWL:qo Tryz.prog 250=some Y8:=by kernel_rfl
def Y7:TI:=⟨Kd.oth,1,8,Value.nilFunc⟩
theorem aWK:qo Tryz.prog 251=some Y7:=by kernel_rfl
def Y6:TI:=⟨Kd.oth,1,8,Value.nilFunc⟩
theorem aWJ:qo Tryz.prog 252=some Y6:=by kernel_rfl
def Y5:TI:=⟨Kd.oth,1,8,Value.nilFunc⟩
theorem aWI:qo Tryz.prog 253=some Y5:=by kernel_rfl
def Y4:TI:=⟨Kd.oth,1,8,Value.nilFunc⟩
theorem aWH:qo Tryz.prog 254=some Y4:=by kernel_rfl
def Y3:TI:=⟨Kd.oth,1,8,Value.nilFunc⟩
theorem aWG:qo Tryz.prog 255=some Y3:=by kernel_rfl
def Y2:TI:=⟨Kd.oth,1,8,Value.nilFunc⟩
theorem aWF:qo Tryz.prog 258=some Y2:=by kernel_rfl
def Y1:TI:=⟨Kd.stru [(0,261)],0,0,Value.agg ⟨[]⟩⟩
theorem aWE:qo Tryz.prog 262=some Y1:=by kernel_rfl
def Y0:TI:=⟨Kd.stru [(0,261)],0,0,Value.agg ⟨[]⟩⟩
theorem aWD:qo Tryz.prog 263=some Y0:=by kernel_rfl
def YZ:TI:=⟨Kd.int IntKind.u8,1,1,Value.int IntKind.u8 0⟩
theorem aWC:qo Tryz.prog 264=some YZ:=by kernel_rfl
def YY:TI:=⟨Kd.int IntKind.u8,1,1,Value.int IntKind.u8 0⟩
theorem aWB:qo Tryz.prog 265=some YY:=by kernel_rfl
def YX:TI:=⟨Kd.oth,1,8,Value.nilFunc⟩
theorem aWA:qo Tryz.prog 266=some YX:=by kernel_rfl
def YW:TI:=⟨Kd.int IntKind.i32,1,4,Value.int IntKind.i32 0⟩
theorem aWz:qo Tryz.prog 268=some YW:=by kernel_rfl
def YV:TI:=⟨Kd.int IntKind.i32,1,4,Value.int IntKind.i32 0⟩
theorem aWy:qo Tryz.prog 269=some YV:=by kernel_rfl
def YT:TI:=⟨Kd.oth,1,8,Value.nilFunc⟩
theorem aWx:qo Tryz.prog 272=some YT:=by kernel_rfl
def YS:TI:=⟨Kd.oth,1,8,Value.nilFunc⟩
theorem aWw:qo Tryz.prog 273=some YS:=by kernel_rfl
def YR:TI:=⟨Kd.oth,1,8,Value.nilFunc⟩
theorem aWv:qo Tryz.prog 274=some YR:=by kernel_rfl
theorem ty1{K:TI→Prop}:@tyW Tryz.prog 1 ⟨K⟩=K ti1:=qi tf1
theorem aNg:ti1.kd=Kd.oth:=ID rfl
theorem aH4:ti1.kd.agg=false:=ID rfl
theorem avw:ti1.size=1:=ID rfl
theorem amp:ti1.bytes=8:=ID rfl
theorem aNe:qx ti1=True:=eq_true rfl
theorem aNf:zc ti1=[.v Value.nilFunc]:=ID rfl
theorem ty2{K:TI→Prop}:@tyW Tryz.prog 2 ⟨K⟩=K ti2:=qi tf2
theorem aNd:ti2.kd=Kd.int IntKind.i64:=ID rfl
theorem aHC:ti2.kd.agg=false:=ID rfl
theorem asm:ti2.size=1:=ID rfl
theorem ak9:ti2.bytes=8:=ID rfl
theorem aNb:qx ti2=True:=eq_true rfl
theorem aNc:zc ti2=[.v (Value.int IntKind.i64 0)]:=ID rfl
theorem ty3{K:TI→Prop}:@tyW Tryz.prog 3 ⟨K⟩=K ti3:=qi tf3
theorem aNa:ti3.kd=Kd.int IntKind.i64:=ID rfl
theorem aHd:ti3.kd.agg=false:=ID rfl
theorem asd:ti3.size=1:=ID rfl
theorem ak0:ti3.bytes=8:=ID rfl
theorem aM8:qx ti3=True:=eq_true rfl
theorem aM9:zc ti3=[.v (Value.int IntKind.i64 0)]:=ID rfl
theorem ty4{K:TI→Prop}:@tyW Tryz.prog 4 ⟨K⟩=K ti4:=qi tf4
theorem aM7:ti4.kd=Kd.bool:=ID rfl
theorem aGO:ti4.kd.agg=false:=ID rfl
theorem ar4:ti4.size=1:=ID rfl
theorem akO:ti4.bytes=1:=ID rfl
theorem aM5:qx ti4=True:=eq_true rfl
theorem aM6:zc ti4=[.v (Value.bool false)]:=ID rfl
theorem ty5{K:TI→Prop}:@tyW Tryz.prog 5 ⟨K⟩=K ti5:=qi tf5
theorem aM4:ti5.kd=Kd.int IntKind.u8:=ID rfl
theorem aGp:ti5.kd.agg=false:=ID rfl
theorem arV:ti5.size=1:=ID rfl
theorem akF:ti5.bytes=1:=ID rfl
theorem aM2:qx ti5=True:=eq_true rfl
theorem aM3:zc ti5=[.v (Value.int IntKind.u8 0)]:=ID rfl
theorem ty6{K:TI→Prop}:@tyW Tryz.prog 6 ⟨K⟩=K ti6:=qi tf6
theorem aM1:ti6.kd=Kd.int IntKind.u8:=ID rfl
theorem aF0:ti6.kd.agg=false:=ID rfl
theorem arM:ti6.size=1:=ID rfl
theorem akw:ti6.bytes=1:=ID rfl
theorem aMZ:qx ti6=True:=eq_true rfl
theorem aM0:zc ti6=[.v (Value.int IntKind.u8 0)]:=ID rfl
theorem ty7{K:TI→Prop}:@tyW Tryz.prog 7 ⟨K⟩=K ti7:=qi tf7
theorem aMY:ti7.kd=Kd.stru [(0,2),(1,3),(2,4),(3,6)]:=ID rfl
theorem aFE:ti7.kd.agg=true:=ID rfl
theorem arE:ti7.size=4:=ID rfl
theorem ako:ti7.bytes=24:=ID rfl
theorem aMW:qx ti7=True:=eq_true rfl
theorem aMX:zc ti7=[.v (Value.int IntKind.i64 0),.v (Value.int IntKind.i64 0),.v (Value.bool false),.v (Value.int IntKind.u8 0)]:=ID rfl
theorem aSL{K:Nat→TI→Prop}:@qy Tryz.prog 7 0 ⟨K⟩=K 0 ti2:=qr (ti:=ti7) (tf:=ti2) (fo:=(0,2)) (fs:=[(0,2),(1,3),(2,4),(3,6)]) tf7 rfl rfl tf2
theorem aY7{K:Nat→Nat→Prop}:qs Tryz.prog [(0,2),(1,3),(2,4),(3,6)] 0 K=K 0 1:=qq (tf:=ti2) (fo:=(0,2)) (fs:=[(0,2),(1,3),(2,4),(3,6)]) rfl tf2
theorem aSK{K:Nat→TI→Prop}:@qy Tryz.prog 7 1 ⟨K⟩=K 1 ti3:=qr (ti:=ti7) (tf:=ti3) (fo:=(1,3)) (fs:=[(0,2),(1,3),(2,4),(3,6)]) tf7 rfl rfl tf3
theorem aY6{K:Nat→Nat→Prop}:qs Tryz.prog [(0,2),(1,3),(2,4),(3,6)] 1 K=K 1 1:=qq (tf:=ti3) (fo:=(1,3)) (fs:=[(0,2),(1,3),(2,4),(3,6)]) rfl tf3
theorem aSJ{K:Nat→TI→Prop}:@qy Tryz.prog 7 2 ⟨K⟩=K 2 ti4:=qr (ti:=ti7) (tf:=ti4) (fo:=(2,4)) (fs:=[(0,2),(1,3),(2,4),(3,6)]) tf7 rfl rfl tf4
theorem aY5{K:Nat→Nat→Prop}:qs Tryz.prog [(0,2),(1,3),(2,4),(3,6)] 2 K=K 2 1:=qq (tf:=ti4) (fo:=(2,4)) (fs:=[(0,2),(1,3),(2,4),(3,6)]) rfl tf4
theorem aSI{K:Nat→TI→Prop}:@qy Tryz.prog 7 3 ⟨K⟩=K 3 ti6:=qr (ti:=ti7) (tf:=ti6) (fo:=(3,6)) (fs:=[(0,2),(1,3),(2,4),(3,6)]) tf7 rfl rfl tf6
theorem aY4{K:Nat→Nat→Prop}:qs Tryz.prog [(0,2),(1,3),(2,4),(3,6)] 3 K=K 3 1:=qq (tf:=ti6) (fo:=(3,6)) (fs:=[(0,2),(1,3),(2,4),(3,6)]) rfl tf6
theorem aZp:∀f∈([(0,2),(1,3),(2,4),(3,6)]:List (Nat×Nat)),(qo Tryz.prog f.2).isSome=true:=by
 intro f hf
 simp only[List.mem_cons,List.not_mem_nil,or_false]at hf
 rcases hf with rfl|rfl|rfl|rfl
 ·rw[tf2];rfl
 ·rw[tf3];rfl
 ·rw[tf4];rfl
 ·rw[tf6];rfl
theorem bdZ{ps:List (Nat×AV)}{K:AV→Prop}:@zb Tryz.prog 7 ps ⟨K⟩=@zd (qs Tryz.prog [(0,2),(1,3),(2,4),(3,6)]) (zc ti7) ps ⟨fun cs=>K (.ag cs)⟩:=qH tf7 rfl aZp
theorem ty8{K:TI→Prop}:@tyW Tryz.prog 8 ⟨K⟩=K ti8:=qi tf8
theorem aMV:ti8.kd=Kd.stru [(0,2),(1,3),(2,4),(3,6)]:=ID rfl
theorem aFc:ti8.kd.agg=true:=ID rfl
theorem aru:ti8.size=4:=ID rfl
theorem ake:ti8.bytes=24:=ID rfl
theorem aMT:qx ti8=True:=eq_true rfl
theorem aMU:zc ti8=[.v (Value.int IntKind.i64 0),.v (Value.int IntKind.i64 0),.v (Value.bool false),.v (Value.int IntKind.u8 0)]:=ID rfl
theorem aSH{K:Nat→TI→Prop}:@qy Tryz.prog 8 0 ⟨K⟩=K 0 ti2:=qr (ti:=ti8) (tf:=ti2) (fo:=(0,2)) (fs:=[(0,2),(1,3),(2,4),(3,6)]) tf8 rfl rfl tf2
theorem aY3{K:Nat→Nat→Prop}:qs Tryz.prog [(0,2),(1,3),(2,4),(3,6)] 0 K=K 0 1:=qq (tf:=ti2) (fo:=(0,2)) (fs:=[(0,2),(1,3),(2,4),(3,6)]) rfl tf2
theorem aSG{K:Nat→TI→Prop}:@qy Tryz.prog 8 1 ⟨K⟩=K 1 ti3:=qr (ti:=ti8) (tf:=ti3) (fo:=(1,3)) (fs:=[(0,2),(1,3),(2,4),(3,6)]) tf8 rfl rfl tf3
theorem aY2{K:Nat→Nat→Prop}:qs Tryz.prog [(0,2),(1,3),(2,4),(3,6)] 1 K=K 1 1:=qq (tf:=ti3) (fo:=(1,3)) (fs:=[(0,2),(1,3),(2,4),(3,6)]) rfl tf3
theorem aSF{K:Nat→TI→Prop}:@qy Tryz.prog 8 2 ⟨K⟩=K 2 ti4:=qr (ti:=ti8) (tf:=ti4) (fo:=(2,4)) (fs:=[(0,2),(1,3),(2,4),(3,6)]) tf8 rfl rfl tf4
theorem aY1{K:Nat→Nat→Prop}:qs Tryz.prog [(0,2),(1,3),(2,4),(3,6)] 2 K=K 2 1:=qq (tf:=ti4) (fo:=(2,4)) (fs:=[(0,2),(1,3),(2,4),(3,6)]) rfl tf4
theorem aSE{K:Nat→TI→Prop}:@qy Tryz.prog 8 3 ⟨K⟩=K 3 ti6:=qr (ti:=ti8) (tf:=ti6) (fo:=(3,6)) (fs:=[(0,2),(1,3),(2,4),(3,6)]) tf8 rfl rfl tf6
theorem aY0{K:Nat→Nat→Prop}:qs Tryz.prog [(0,2),(1,3),(2,4),(3,6)] 3 K=K 3 1:=qq (tf:=ti6) (fo:=(3,6)) (fs:=[(0,2),(1,3),(2,4),(3,6)]) rfl tf6
theorem aZo:∀f∈([(0,2),(1,3),(2,4),(3,6)]:List (Nat×Nat)),(qo Tryz.prog f.2).isSome=true:=by
 intro f hf
 simp only[List.mem_cons,List.not_mem_nil,or_false]at hf
 rcases hf with rfl|rfl|rfl|rfl
 ·rw[tf2];rfl
 ·rw[tf3];rfl
 ·rw[tf4];rfl
 ·rw[tf6];rfl
theorem bdY{ps:List (Nat×AV)}{K:AV→Prop}:@zb Tryz.prog 8 ps ⟨K⟩=@zd (qs Tryz.prog [(0,2),(1,3),(2,4),(3,6)]) (zc ti8) ps ⟨fun cs=>K (.ag cs)⟩:=qH tf8 rfl aZo
theorem ty9{K:TI→Prop}:@tyW Tryz.prog 9 ⟨K⟩=K ti9:=qi tf9
theorem aMS:ti9.kd=Kd.str:=ID rfl
theorem aEN:ti9.kd.agg=false:=ID rfl
theorem ark:ti9.size=1:=ID rfl
theorem aj5:ti9.bytes=16:=ID rfl
theorem aMQ:qx ti9=True:=eq_true rfl
theorem aMR:zc ti9=[.v (Value.string {data:=⟨[]⟩})]:=ID rfl
theorem bcE{K:TI→Prop}:@tyW Tryz.prog 10 ⟨K⟩=K aDX:=qi bdu
theorem aId:aDX.kd=Kd.str:=ID rfl
theorem azz:aDX.kd.agg=false:=ID rfl
theorem anO:aDX.size=1:=ID rfl
theorem aim:aDX.bytes=16:=ID rfl
theorem aIb:qx aDX=True:=eq_true rfl
theorem aIc:zc aDX=[.v (Value.string {data:=⟨[]⟩})]:=ID rfl
theorem bcD{K:TI→Prop}:@tyW Tryz.prog 11 ⟨K⟩=K aDW:=qi bdt
theorem aIa:aDW.kd=Kd.str:=ID rfl
theorem ay7:aDW.kd.agg=false:=ID rfl
theorem anE:aDW.size=1:=ID rfl
theorem aic:aDW.bytes=16:=ID rfl
theorem aH8:qx aDW=True:=eq_true rfl
theorem aH9:zc aDW=[.v (Value.string {data:=⟨[]⟩})]:=ID rfl
theorem bcC{K:TI→Prop}:@tyW Tryz.prog 12 ⟨K⟩=K aDV:=qi bds
theorem aH7:aDV.kd=Kd.int IntKind.u64:=ID rfl
theorem ayC:aDV.kd.agg=false:=ID rfl
theorem ans:aDV.size=1:=ID rfl
theorem ah1:aDV.bytes=8:=ID rfl
theorem aH5:qx aDV=True:=eq_true rfl
theorem aH6:zc aDV=[.v (Value.int IntKind.u64 0)]:=ID rfl
theorem bcB{K:TI→Prop}:@tyW Tryz.prog 21 ⟨K⟩=K aDU:=qi bdr
theorem aH3:aDU.kd=Kd.int IntKind.i32:=ID rfl
theorem auD:aDU.kd.agg=false:=ID rfl
theorem al6:aDU.size=1:=ID rfl
theorem agH:aDU.bytes=4:=ID rfl
theorem aH1:qx aDU=True:=eq_true rfl
theorem aH2:zc aDU=[.v (Value.int IntKind.i32 0)]:=ID rfl
theorem bcA{K:TI→Prop}:@tyW Tryz.prog 22 ⟨K⟩=K aei:=qi aDZ
theorem aH0:aei.kd=Kd.sli 5:=ID rfl
theorem at8:aei.kd.agg=false:=ID rfl
theorem alV:aei.size=1:=ID rfl
theorem agw:aei.bytes=24:=ID rfl
theorem aHY:qx aei=True:=eq_true rfl
theorem aHZ:zc aei=[.v (Value.slice none 0 0)]:=ID rfl
theorem aYR{K:TI→Prop}:@yw Tryz.prog 22 ⟨K⟩=K ti5:=QE aDZ rfl tf5
theorem bcz{K:TI→Prop}:@tyW Tryz.prog 23 ⟨K⟩=K Jh:=qi aej
theorem aHX:Jh.kd=Kd.sli 3:=ID rfl
theorem atJ:Jh.kd.agg=false:=ID rfl
theorem alM:Jh.size=1:=ID rfl
theorem agn:Jh.bytes=24:=ID rfl
theorem aHV:qx Jh=True:=eq_true rfl
theorem aHW:zc Jh=[.v (Value.slice none 0 0)]:=ID rfl
theorem aYQ{K:TI→Prop}:@yw Tryz.prog 23 ⟨K⟩=K ti3:=QE aej rfl tf3
theorem bcy{K:TI→Prop}:@tyW Tryz.prog 24 ⟨K⟩=K aq0:=qi aWV
theorem aHU:aq0.kd=Kd.stru [(0,23)]:=ID rfl
theorem ath:aq0.kd.agg=true:=ID rfl
theorem alz:aq0.size=1:=ID rfl
theorem agc:aq0.bytes=24:=ID rfl
theorem aHS:qx aq0=True:=eq_true rfl
theorem aHT:zc aq0=[.v (Value.slice none 0 0)]:=ID rfl
theorem aK7{K:Nat→TI→Prop}:@qy Tryz.prog 24 0 ⟨K⟩=K 0 Jh:=qr (ti:=aq0) (tf:=Jh) (fo:=(0,23)) (fs:=[(0,23)]) aWV rfl rfl aej
theorem aOs{K:Nat→Nat→Prop}:qs Tryz.prog [(0,23)] 0 K=K 0 1:=qq (tf:=Jh) (fo:=(0,23)) (fs:=[(0,23)]) rfl aej
theorem aPh:∀f∈([(0,23)]:List (Nat×Nat)),(qo Tryz.prog f.2).isSome=true:=by
 intro f hf
 simp only[List.mem_cons,List.not_mem_nil,or_false]at hf
 subst hf;rw[aej];rfl
theorem bbg{ps:List (Nat×AV)}{K:AV→Prop}:@zb Tryz.prog 24 ps ⟨K⟩=@zd (qs Tryz.prog [(0,23)]) (zc aq0) ps ⟨fun cs=>K (.ag cs)⟩:=qH aWV rfl aPh
theorem bcx{K:TI→Prop}:@tyW Tryz.prog 25 ⟨K⟩=K aak:=qi az6
theorem aHR:aak.kd=Kd.stru [(0,23)]:=ID rfl
theorem asV:aak.kd.agg=true:=ID rfl
theorem alr:aak.size=1:=ID rfl
theorem af4:aak.bytes=24:=ID rfl
theorem aHP:qx aak=True:=eq_true rfl
theorem aHQ:zc aak=[.v (Value.slice none 0 0)]:=ID rfl
theorem aK6{K:Nat→TI→Prop}:@qy Tryz.prog 25 0 ⟨K⟩=K 0 Jh:=qr (ti:=aak) (tf:=Jh) (fo:=(0,23)) (fs:=[(0,23)]) az6 rfl rfl aej
theorem aOr{K:Nat→Nat→Prop}:qs Tryz.prog [(0,23)] 0 K=K 0 1:=qq (tf:=Jh) (fo:=(0,23)) (fs:=[(0,23)]) rfl aej
theorem aPg:∀f∈([(0,23)]:List (Nat×Nat)),(qo Tryz.prog f.2).isSome=true:=by
 intro f hf
 simp only[List.mem_cons,List.not_mem_nil,or_false]at hf
 subst hf;rw[aej];rfl
theorem bbf{ps:List (Nat×AV)}{K:AV→Prop}:@zb Tryz.prog 25 ps ⟨K⟩=@zd (qs Tryz.prog [(0,23)]) (zc aak) ps ⟨fun cs=>K (.ag cs)⟩:=qH az6 rfl aPg
theorem bcw{K:TI→Prop}:@tyW Tryz.prog 26 ⟨K⟩=K alq:=qi aTX
theorem aHO:alq.kd=Kd.stru [(0,4),(1,25)]:=ID rfl
theorem asz:alq.kd.agg=true:=ID rfl
theorem alh:alq.size=2:=ID rfl
theorem afW:alq.bytes=32:=ID rfl
theorem aHM:qx alq=True:=eq_true rfl
theorem aHN:zc alq=[.v (Value.bool false),.v (Value.slice none 0 0)]:=ID rfl
theorem aK5{K:Nat→TI→Prop}:@qy Tryz.prog 26 0 ⟨K⟩=K 0 ti4:=qr (ti:=alq) (tf:=ti4) (fo:=(0,4)) (fs:=[(0,4),(1,25)]) aTX rfl rfl tf4
theorem aOq{K:Nat→Nat→Prop}:qs Tryz.prog [(0,4),(1,25)] 0 K=K 0 1:=qq (tf:=ti4) (fo:=(0,4)) (fs:=[(0,4),(1,25)]) rfl tf4
theorem aK4{K:Nat→TI→Prop}:@qy Tryz.prog 26 1 ⟨K⟩=K 1 aak:=qr (ti:=alq) (tf:=aak) (fo:=(1,25)) (fs:=[(0,4),(1,25)]) aTX rfl rfl az6
theorem aOp{K:Nat→Nat→Prop}:qs Tryz.prog [(0,4),(1,25)] 1 K=K 1 1:=qq (tf:=aak) (fo:=(1,25)) (fs:=[(0,4),(1,25)]) rfl az6
theorem aPf:∀f∈([(0,4),(1,25)]:List (Nat×Nat)),(qo Tryz.prog f.2).isSome=true:=by
 intro f hf
 simp only[List.mem_cons,List.not_mem_nil,or_false]at hf
 rcases hf with rfl|rfl
 ·rw[tf4];rfl
 ·rw[az6];rfl
theorem bbe{ps:List (Nat×AV)}{K:AV→Prop}:@zb Tryz.prog 26 ps ⟨K⟩=@zd (qs Tryz.prog [(0,4),(1,25)]) (zc alq) ps ⟨fun cs=>K (.ag cs)⟩:=qH aTX rfl aPf
theorem bcv{K:TI→Prop}:@tyW Tryz.prog 27 ⟨K⟩=K YU:=qi aq1
theorem aHL:YU.kd=Kd.stru [(0,4),(1,25)]:=ID rfl
theorem asp:YU.kd.agg=true:=ID rfl
theorem ald:YU.size=2:=ID rfl
theorem afS:YU.bytes=32:=ID rfl
theorem aHJ:qx YU=True:=eq_true rfl
theorem aHK:zc YU=[.v (Value.bool false),.v (Value.slice none 0 0)]:=ID rfl
theorem aK3{K:Nat→TI→Prop}:@qy Tryz.prog 27 0 ⟨K⟩=K 0 ti4:=qr (ti:=YU) (tf:=ti4) (fo:=(0,4)) (fs:=[(0,4),(1,25)]) aq1 rfl rfl tf4
theorem aOo{K:Nat→Nat→Prop}:qs Tryz.prog [(0,4),(1,25)] 0 K=K 0 1:=qq (tf:=ti4) (fo:=(0,4)) (fs:=[(0,4),(1,25)]) rfl tf4
theorem aK2{K:Nat→TI→Prop}:@qy Tryz.prog 27 1 ⟨K⟩=K 1 aak:=qr (ti:=YU) (tf:=aak) (fo:=(1,25)) (fs:=[(0,4),(1,25)]) aq1 rfl rfl az6
theorem aOn{K:Nat→Nat→Prop}:qs Tryz.prog [(0,4),(1,25)] 1 K=K 1 1:=qq (tf:=aak) (fo:=(1,25)) (fs:=[(0,4),(1,25)]) rfl az6
theorem aPe:∀f∈([(0,4),(1,25)]:List (Nat×Nat)),(qo Tryz.prog f.2).isSome=true:=by
 intro f hf
 simp only[List.mem_cons,List.not_mem_nil,or_false]at hf
 rcases hf with rfl|rfl
 ·rw[tf4];rfl
 ·rw[az6];rfl
theorem bbd{ps:List (Nat×AV)}{K:AV→Prop}:@zb Tryz.prog 27 ps ⟨K⟩=@zd (qs Tryz.prog [(0,4),(1,25)]) (zc YU) ps ⟨fun cs=>K (.ag cs)⟩:=qH aq1 rfl aPe
theorem bcu{K:TI→Prop}:@tyW Tryz.prog 28 ⟨K⟩=K alc:=qi aTW
theorem aHI:alc.kd=Kd.stru [(0,27),(2,3)]:=ID rfl
theorem aso:alc.kd.agg=true:=ID rfl
theorem alb:alc.size=3:=ID rfl
theorem afR:alc.bytes=40:=ID rfl
theorem aHG:qx alc=True:=eq_true rfl
theorem aHH:zc alc=[.v (Value.bool false),.v (Value.slice none 0 0),.v (Value.int IntKind.i64 0)]:=ID rfl
theorem aK1{K:Nat→TI→Prop}:@qy Tryz.prog 28 0 ⟨K⟩=K 0 YU:=qr (ti:=alc) (tf:=YU) (fo:=(0,27)) (fs:=[(0,27),(2,3)]) aTW rfl rfl aq1
theorem aOm{K:Nat→Nat→Prop}:qs Tryz.prog [(0,27),(2,3)] 0 K=K 0 2:=qq (tf:=YU) (fo:=(0,27)) (fs:=[(0,27),(2,3)]) rfl aq1
theorem aK0{K:Nat→TI→Prop}:@qy Tryz.prog 28 1 ⟨K⟩=K 2 ti3:=qr (ti:=alc) (tf:=ti3) (fo:=(2,3)) (fs:=[(0,27),(2,3)]) aTW rfl rfl tf3
theorem aOl{K:Nat→Nat→Prop}:qs Tryz.prog [(0,27),(2,3)] 1 K=K 2 1:=qq (tf:=ti3) (fo:=(2,3)) (fs:=[(0,27),(2,3)]) rfl tf3
theorem aPd:∀f∈([(0,27),(2,3)]:List (Nat×Nat)),(qo Tryz.prog f.2).isSome=true:=by
 intro f hf
 simp only[List.mem_cons,List.not_mem_nil,or_false]at hf
 rcases hf with rfl|rfl
 ·rw[aq1];rfl
 ·rw[tf3];rfl
theorem bbc{ps:List (Nat×AV)}{K:AV→Prop}:@zb Tryz.prog 28 ps ⟨K⟩=@zd (qs Tryz.prog [(0,27),(2,3)]) (zc alc) ps ⟨fun cs=>K (.ag cs)⟩:=qH aTW rfl aPd
theorem bct{K:TI→Prop}:@tyW Tryz.prog 29 ⟨K⟩=K QZ:=qi V9
theorem aHF:QZ.kd=Kd.stru [(0,27),(2,3)]:=ID rfl
theorem asn:QZ.kd.agg=true:=ID rfl
theorem ala:QZ.size=3:=ID rfl
theorem afQ:QZ.bytes=40:=ID rfl
theorem aHD:qx QZ=True:=eq_true rfl
theorem aHE:zc QZ=[.v (Value.bool false),.v (Value.slice none 0 0),.v (Value.int IntKind.i64 0)]:=ID rfl
theorem aKZ{K:Nat→TI→Prop}:@qy Tryz.prog 29 0 ⟨K⟩=K 0 YU:=qr (ti:=QZ) (tf:=YU) (fo:=(0,27)) (fs:=[(0,27),(2,3)]) V9 rfl rfl aq1
theorem aOk{K:Nat→Nat→Prop}:qs Tryz.prog [(0,27),(2,3)] 0 K=K 0 2:=qq (tf:=YU) (fo:=(0,27)) (fs:=[(0,27),(2,3)]) rfl aq1
theorem aKY{K:Nat→TI→Prop}:@qy Tryz.prog 29 1 ⟨K⟩=K 2 ti3:=qr (ti:=QZ) (tf:=ti3) (fo:=(2,3)) (fs:=[(0,27),(2,3)]) V9 rfl rfl tf3
theorem aOj{K:Nat→Nat→Prop}:qs Tryz.prog [(0,27),(2,3)] 1 K=K 2 1:=qq (tf:=ti3) (fo:=(2,3)) (fs:=[(0,27),(2,3)]) rfl tf3
theorem aPc:∀f∈([(0,27),(2,3)]:List (Nat×Nat)),(qo Tryz.prog f.2).isSome=true:=by
 intro f hf
 simp only[List.mem_cons,List.not_mem_nil,or_false]at hf
 rcases hf with rfl|rfl
 ·rw[aq1];rfl
 ·rw[tf3];rfl
theorem bbb{ps:List (Nat×AV)}{K:AV→Prop}:@zb Tryz.prog 29 ps ⟨K⟩=@zd (qs Tryz.prog [(0,27),(2,3)]) (zc QZ) ps ⟨fun cs=>K (.ag cs)⟩:=qH V9 rfl aPc
theorem bcs{K:TI→Prop}:@tyW Tryz.prog 31 ⟨K⟩=K aDT:=qi bdq
theorem aHB:aDT.kd=Kd.oth:=ID rfl
theorem asl:aDT.kd.agg=false:=ID rfl
theorem ak8:aDT.size=1:=ID rfl
theorem afP:aDT.bytes=8:=ID rfl
theorem aHz:qx aDT=True:=eq_true rfl
theorem aHA:zc aDT=[.v Value.nilFunc]:=ID rfl
theorem bcr{K:TI→Prop}:@tyW Tryz.prog 33 ⟨K⟩=K aDS:=qi bdp
theorem aHy:aDS.kd=Kd.oth:=ID rfl
theorem ask:aDS.kd.agg=false:=ID rfl
theorem ak7:aDS.size=1:=ID rfl
theorem afO:aDS.bytes=8:=ID rfl
theorem aHw:qx aDS=True:=eq_true rfl
theorem aHx:zc aDS=[.v Value.nilFunc]:=ID rfl
theorem bcq{K:TI→Prop}:@tyW Tryz.prog 34 ⟨K⟩=K aDR:=qi bdo
theorem aHv:aDR.kd=Kd.oth:=ID rfl
theorem asj:aDR.kd.agg=false:=ID rfl
theorem ak6:aDR.size=1:=ID rfl
theorem afN:aDR.bytes=8:=ID rfl
theorem aHt:qx aDR=True:=eq_true rfl
theorem aHu:zc aDR=[.v Value.nilFunc]:=ID rfl
theorem bcp{K:TI→Prop}:@tyW Tryz.prog 35 ⟨K⟩=K aDQ:=qi bdn
theorem aHs:aDQ.kd=Kd.oth:=ID rfl
theorem asi:aDQ.kd.agg=false:=ID rfl
theorem ak5:aDQ.size=1:=ID rfl
theorem afM:aDQ.bytes=8:=ID rfl
theorem aHq:qx aDQ=True:=eq_true rfl
theorem aHr:zc aDQ=[.v Value.nilFunc]:=ID rfl
theorem bco{K:TI→Prop}:@tyW Tryz.prog 36 ⟨K⟩=K aDP:=qi bdm
theorem aHp:aDP.kd=Kd.oth:=ID rfl
theorem ash:aDP.kd.agg=false:=ID rfl
theorem ak4:aDP.size=1:=ID rfl
theorem afL:aDP.bytes=8:=ID rfl
theorem aHn:qx aDP=True:=eq_true rfl
theorem aHo:zc aDP=[.v Value.nilFunc]:=ID rfl
theorem bcn{K:TI→Prop}:@tyW Tryz.prog 37 ⟨K⟩=K aDO:=qi bdl
theorem aHm:aDO.kd=Kd.oth:=ID rfl
theorem asg:aDO.kd.agg=false:=ID rfl
theorem ak3:aDO.size=1:=ID rfl
theorem afK:aDO.bytes=8:=ID rfl
theorem aHk:qx aDO=True:=eq_true rfl
theorem aHl:zc aDO=[.v Value.nilFunc]:=ID rfl
theorem bcm{K:TI→Prop}:@tyW Tryz.prog 38 ⟨K⟩=K aDN:=qi bdk
theorem aHj:aDN.kd=Kd.oth:=ID rfl
theorem asf:aDN.kd.agg=false:=ID rfl
theorem ak2:aDN.size=1:=ID rfl
theorem afJ:aDN.bytes=8:=ID rfl
theorem aHh:qx aDN=True:=eq_true rfl
theorem aHi:zc aDN=[.v Value.nilFunc]:=ID rfl
theorem bcl{K:TI→Prop}:@tyW Tryz.prog 39 ⟨K⟩=K aDM:=qi bdj
theorem aHg:aDM.kd=Kd.oth:=ID rfl
theorem ase:aDM.kd.agg=false:=ID rfl
theorem ak1:aDM.size=1:=ID rfl
theorem afI:aDM.bytes=8:=ID rfl
theorem aHe:qx aDM=True:=eq_true rfl
theorem aHf:zc aDM=[.v Value.nilFunc]:=ID rfl
theorem bck{K:TI→Prop}:@tyW Tryz.prog 40 ⟨K⟩=K aeh:=qi aDY
theorem aHc:aeh.kd=Kd.sli 29:=ID rfl
theorem asc:aeh.kd.agg=false:=ID rfl
theorem akZ:aeh.size=1:=ID rfl
theorem afH:aeh.bytes=24:=ID rfl
theorem aHa:qx aeh=True:=eq_true rfl
theorem aHb:zc aeh=[.v (Value.slice none 0 0)]:=ID rfl
theorem aYP{K:TI→Prop}:@yw Tryz.prog 40 ⟨K⟩=K QZ:=QE aDY rfl V9
theorem bcj{K:TI→Prop}:@tyW Tryz.prog 41 ⟨K⟩=K akY:=qi aTV
theorem aG9:akY.kd=Kd.stru [(0,3),(1,40)]:=ID rfl
theorem asb:akY.kd.agg=true:=ID rfl
theorem akX:akY.size=2:=ID rfl
theorem afG:akY.bytes=32:=ID rfl
theorem aG7:qx akY=True:=eq_true rfl
theorem aG8:zc akY=[.v (Value.int IntKind.i64 0),.v (Value.slice none 0 0)]:=ID rfl
theorem aKX{K:Nat→TI→Prop}:@qy Tryz.prog 41 0 ⟨K⟩=K 0 ti3:=qr (ti:=akY) (tf:=ti3) (fo:=(0,3)) (fs:=[(0,3),(1,40)]) aTV rfl rfl tf3
theorem aOi{K:Nat→Nat→Prop}:qs Tryz.prog [(0,3),(1,40)] 0 K=K 0 1:=qq (tf:=ti3) (fo:=(0,3)) (fs:=[(0,3),(1,40)]) rfl tf3
theorem aKW{K:Nat→TI→Prop}:@qy Tryz.prog 41 1 ⟨K⟩=K 1 aeh:=qr (ti:=akY) (tf:=aeh) (fo:=(1,40)) (fs:=[(0,3),(1,40)]) aTV rfl rfl aDY
theorem aOh{K:Nat→Nat→Prop}:qs Tryz.prog [(0,3),(1,40)] 1 K=K 1 1:=qq (tf:=aeh) (fo:=(1,40)) (fs:=[(0,3),(1,40)]) rfl aDY
theorem aPb:∀f∈([(0,3),(1,40)]:List (Nat×Nat)),(qo Tryz.prog f.2).isSome=true:=by
 intro f hf
 simp only[List.mem_cons,List.not_mem_nil,or_false]at hf
 rcases hf with rfl|rfl
 ·rw[tf3];rfl
 ·rw[aDY];rfl
theorem bba{ps:List (Nat×AV)}{K:AV→Prop}:@zb Tryz.prog 41 ps ⟨K⟩=@zd (qs Tryz.prog [(0,3),(1,40)]) (zc akY) ps ⟨fun cs=>K (.ag cs)⟩:=qH aTV rfl aPb
theorem bci{K:TI→Prop}:@tyW Tryz.prog 42 ⟨K⟩=K akW:=qi aTU
theorem aG6:akW.kd=Kd.stru [(0,3),(1,40)]:=ID rfl
theorem asa:akW.kd.agg=true:=ID rfl
theorem akV:akW.size=2:=ID rfl
theorem afF:akW.bytes=32:=ID rfl
theorem aG4:qx akW=True:=eq_true rfl
theorem aG5:zc akW=[.v (Value.int IntKind.i64 0),.v (Value.slice none 0 0)]:=ID rfl
theorem aKV{K:Nat→TI→Prop}:@qy Tryz.prog 42 0 ⟨K⟩=K 0 ti3:=qr (ti:=akW) (tf:=ti3) (fo:=(0,3)) (fs:=[(0,3),(1,40)]) aTU rfl rfl tf3
theorem aOg{K:Nat→Nat→Prop}:qs Tryz.prog [(0,3),(1,40)] 0 K=K 0 1:=qq (tf:=ti3) (fo:=(0,3)) (fs:=[(0,3),(1,40)]) rfl tf3
theorem aKU{K:Nat→TI→Prop}:@qy Tryz.prog 42 1 ⟨K⟩=K 1 aeh:=qr (ti:=akW) (tf:=aeh) (fo:=(1,40)) (fs:=[(0,3),(1,40)]) aTU rfl rfl aDY
theorem aOf{K:Nat→Nat→Prop}:qs Tryz.prog [(0,3),(1,40)] 1 K=K 1 1:=qq (tf:=aeh) (fo:=(1,40)) (fs:=[(0,3),(1,40)]) rfl aDY
theorem aPa:∀f∈([(0,3),(1,40)]:List (Nat×Nat)),(qo Tryz.prog f.2).isSome=true:=by
 intro f hf
 simp only[List.mem_cons,List.not_mem_nil,or_false]at hf
 rcases hf with rfl|rfl
 ·rw[tf3];rfl
 ·rw[aDY];rfl
theorem ba9{ps:List (Nat×AV)}{K:AV→Prop}:@zb Tryz.prog 42 ps ⟨K⟩=@zd (qs Tryz.prog [(0,3),(1,40)]) (zc akW) ps ⟨fun cs=>K (.ag cs)⟩:=qH aTU rfl aPa
theorem bch{K:TI→Prop}:@tyW Tryz.prog 44 ⟨K⟩=K aDL:=qi bdi
theorem aG3:aDL.kd=Kd.oth:=ID rfl
theorem ar9:aDL.kd.agg=false:=ID rfl
theorem akU:aDL.size=1:=ID rfl
theorem afE:aDL.bytes=8:=ID rfl
theorem aG1:qx aDL=True:=eq_true rfl
theorem aG2:zc aDL=[.v Value.nilFunc]:=ID rfl
theorem bcg{K:TI→Prop}:@tyW Tryz.prog 45 ⟨K⟩=K aDK:=qi bdh
theorem aG0:aDK.kd=Kd.oth:=ID rfl
theorem ar8:aDK.kd.agg=false:=ID rfl
theorem akT:aDK.size=1:=ID rfl
theorem afD:aDK.bytes=8:=ID rfl
theorem aGY:qx aDK=True:=eq_true rfl
theorem aGZ:zc aDK=[.v Value.nilFunc]:=ID rfl
theorem bcf{K:TI→Prop}:@tyW Tryz.prog 47 ⟨K⟩=K aDJ:=qi bdg
theorem aGX:aDJ.kd=Kd.oth:=ID rfl
theorem ar7:aDJ.kd.agg=false:=ID rfl
theorem akS:aDJ.size=1:=ID rfl
theorem afC:aDJ.bytes=8:=ID rfl
theorem aGV:qx aDJ=True:=eq_true rfl
theorem aGW:zc aDJ=[.v Value.nilFunc]:=ID rfl
theorem bce{K:TI→Prop}:@tyW Tryz.prog 48 ⟨K⟩=K aDI:=qi bdf
theorem aGU:aDI.kd=Kd.oth:=ID rfl
theorem ar6:aDI.kd.agg=false:=ID rfl
theorem akR:aDI.size=1:=ID rfl
theorem afB:aDI.bytes=8:=ID rfl
theorem aGS:qx aDI=True:=eq_true rfl
theorem aGT:zc aDI=[.v Value.nilFunc]:=ID rfl
theorem bcd{K:TI→Prop}:@tyW Tryz.prog 49 ⟨K⟩=K akQ:=qi aTT
theorem aGR:akQ.kd=Kd.stru [(0,29),(3,29)]:=ID rfl
theorem ar5:akQ.kd.agg=true:=ID rfl
theorem akP:akQ.size=6:=ID rfl
theorem afA:akQ.bytes=80:=ID rfl
theorem aGP:qx akQ=True:=eq_true rfl
theorem aGQ:zc akQ=[.v (Value.bool false),.v (Value.slice none 0 0),.v (Value.int IntKind.i64 0),.v (Value.bool false),.v (Value.slice none 0 0),.v (Value.int IntKind.i64 0)]:=ID rfl
theorem aKT{K:Nat→TI→Prop}:@qy Tryz.prog 49 0 ⟨K⟩=K 0 QZ:=qr (ti:=akQ) (tf:=QZ) (fo:=(0,29)) (fs:=[(0,29),(3,29)]) aTT rfl rfl V9
theorem aOe{K:Nat→Nat→Prop}:qs Tryz.prog [(0,29),(3,29)] 0 K=K 0 3:=qq (tf:=QZ) (fo:=(0,29)) (fs:=[(0,29),(3,29)]) rfl V9
theorem aKS{K:Nat→TI→Prop}:@qy Tryz.prog 49 1 ⟨K⟩=K 3 QZ:=qr (ti:=akQ) (tf:=QZ) (fo:=(3,29)) (fs:=[(0,29),(3,29)]) aTT rfl rfl V9
theorem aOd{K:Nat→Nat→Prop}:qs Tryz.prog [(0,29),(3,29)] 1 K=K 3 3:=qq (tf:=QZ) (fo:=(3,29)) (fs:=[(0,29),(3,29)]) rfl V9
theorem aO9:∀f∈([(0,29),(3,29)]:List (Nat×Nat)),(qo Tryz.prog f.2).isSome=true:=by
 intro f hf
 simp only[List.mem_cons,List.not_mem_nil,or_false]at hf
 rcases hf with rfl|rfl
 ·rw[V9];rfl
 ·rw[V9];rfl
theorem ba8{ps:List (Nat×AV)}{K:AV→Prop}:@zb Tryz.prog 49 ps ⟨K⟩=@zd (qs Tryz.prog [(0,29),(3,29)]) (zc akQ) ps ⟨fun cs=>K (.ag cs)⟩:=qH aTT rfl aO9
theorem bcc{K:TI→Prop}:@tyW Tryz.prog 50 ⟨K⟩=K ajU:=qi aNi
theorem aGN:ajU.kd=Kd.stru [(0,29),(3,29)]:=ID rfl
theorem ar3:ajU.kd.agg=true:=ID rfl
theorem akN:ajU.size=6:=ID rfl
theorem afz:ajU.bytes=80:=ID rfl
theorem aGL:qx ajU=True:=eq_true rfl
theorem aGM:zc ajU=[.v (Value.bool false),.v (Value.slice none 0 0),.v (Value.int IntKind.i64 0),.v (Value.bool false),.v (Value.slice none 0 0),.v (Value.int IntKind.i64 0)]:=ID rfl
theorem aKR{K:Nat→TI→Prop}:@qy Tryz.prog 50 0 ⟨K⟩=K 0 QZ:=qr (ti:=ajU) (tf:=QZ) (fo:=(0,29)) (fs:=[(0,29),(3,29)]) aNi rfl rfl V9
theorem aOc{K:Nat→Nat→Prop}:qs Tryz.prog [(0,29),(3,29)] 0 K=K 0 3:=qq (tf:=QZ) (fo:=(0,29)) (fs:=[(0,29),(3,29)]) rfl V9
theorem aKQ{K:Nat→TI→Prop}:@qy Tryz.prog 50 1 ⟨K⟩=K 3 QZ:=qr (ti:=ajU) (tf:=QZ) (fo:=(3,29)) (fs:=[(0,29),(3,29)]) aNi rfl rfl V9
theorem aOb{K:Nat→Nat→Prop}:qs Tryz.prog [(0,29),(3,29)] 1 K=K 3 3:=qq (tf:=QZ) (fo:=(3,29)) (fs:=[(0,29),(3,29)]) rfl V9
theorem aO8:∀f∈([(0,29),(3,29)]:List (Nat×Nat)),(qo Tryz.prog f.2).isSome=true:=by
 intro f hf
 simp only[List.mem_cons,List.not_mem_nil,or_false]at hf
 rcases hf with rfl|rfl
 ·rw[V9];rfl
 ·rw[V9];rfl
theorem ba7{ps:List (Nat×AV)}{K:AV→Prop}:@zb Tryz.prog 50 ps ⟨K⟩=@zd (qs Tryz.prog [(0,29),(3,29)]) (zc ajU) ps ⟨fun cs=>K (.ag cs)⟩:=qH aNi rfl aO8
theorem bcb{K:TI→Prop}:@tyW Tryz.prog 52 ⟨K⟩=K aDH:=qi bde
theorem aGK:aDH.kd=Kd.oth:=ID rfl
theorem ar2:aDH.kd.agg=false:=ID rfl
theorem akM:aDH.size=1:=ID rfl
theorem afy:aDH.bytes=8:=ID rfl
theorem aGI:qx aDH=True:=eq_true rfl
theorem aGJ:zc aDH=[.v Value.nilFunc]:=ID rfl
theorem bca{K:TI→Prop}:@tyW Tryz.prog 54 ⟨K⟩=K aDG:=qi bdd
theorem aGH:aDG.kd=Kd.oth:=ID rfl
theorem ar1:aDG.kd.agg=false:=ID rfl
theorem akL:aDG.size=1:=ID rfl
theorem afx:aDG.bytes=8:=ID rfl
theorem aGF:qx aDG=True:=eq_true rfl
theorem aGG:zc aDG=[.v Value.nilFunc]:=ID rfl
theorem bb9{K:TI→Prop}:@tyW Tryz.prog 55 ⟨K⟩=K aDF:=qi bdc
theorem aGE:aDF.kd=Kd.oth:=ID rfl
theorem ar0:aDF.kd.agg=false:=ID rfl
theorem akK:aDF.size=1:=ID rfl
theorem afw:aDF.bytes=8:=ID rfl
theorem aGC:qx aDF=True:=eq_true rfl
theorem aGD:zc aDF=[.v Value.nilFunc]:=ID rfl
theorem bb8{K:TI→Prop}:@tyW Tryz.prog 56 ⟨K⟩=K aDE:=qi bdb
theorem aGB:aDE.kd=Kd.oth:=ID rfl
theorem arZ:aDE.kd.agg=false:=ID rfl
theorem akJ:aDE.size=1:=ID rfl
theorem afv:aDE.bytes=8:=ID rfl
theorem aGz:qx aDE=True:=eq_true rfl
theorem aGA:zc aDE=[.v Value.nilFunc]:=ID rfl
theorem bb7{K:TI→Prop}:@tyW Tryz.prog 57 ⟨K⟩=K aDD:=qi bda
theorem aGy:aDD.kd=Kd.oth:=ID rfl
theorem arY:aDD.kd.agg=false:=ID rfl
theorem akI:aDD.size=1:=ID rfl
theorem afu:aDD.bytes=8:=ID rfl
theorem aGw:qx aDD=True:=eq_true rfl
theorem aGx:zc aDD=[.v Value.nilFunc]:=ID rfl
theorem bb6{K:TI→Prop}:@tyW Tryz.prog 58 ⟨K⟩=K aDC:=qi bc9
theorem aGv:aDC.kd=Kd.oth:=ID rfl
theorem arX:aDC.kd.agg=false:=ID rfl
theorem akH:aDC.size=1:=ID rfl
theorem aft:aDC.bytes=8:=ID rfl
theorem aGt:qx aDC=True:=eq_true rfl
theorem aGu:zc aDC=[.v Value.nilFunc]:=ID rfl
theorem bb5{K:TI→Prop}:@tyW Tryz.prog 59 ⟨K⟩=K aDB:=qi bc8
theorem aGs:aDB.kd=Kd.oth:=ID rfl
theorem arW:aDB.kd.agg=false:=ID rfl
theorem akG:aDB.size=1:=ID rfl
theorem afs:aDB.bytes=8:=ID rfl
theorem aGq:qx aDB=True:=eq_true rfl
theorem aGr:zc aDB=[.v Value.nilFunc]:=ID rfl
theorem bb4{K:TI→Prop}:@tyW Tryz.prog 60 ⟨K⟩=K aDA:=qi bc7
theorem aGo:aDA.kd=Kd.oth:=ID rfl
theorem arU:aDA.kd.agg=false:=ID rfl
theorem akE:aDA.size=1:=ID rfl
theorem afr:aDA.bytes=8:=ID rfl
theorem aGm:qx aDA=True:=eq_true rfl
theorem aGn:zc aDA=[.v Value.nilFunc]:=ID rfl
theorem bb3{K:TI→Prop}:@tyW Tryz.prog 61 ⟨K⟩=K aDz:=qi bc6
theorem aGl:aDz.kd=Kd.oth:=ID rfl
theorem arT:aDz.kd.agg=false:=ID rfl
theorem akD:aDz.size=1:=ID rfl
theorem afq:aDz.bytes=8:=ID rfl
theorem aGj:qx aDz=True:=eq_true rfl
theorem aGk:zc aDz=[.v Value.nilFunc]:=ID rfl
theorem bb2{K:TI→Prop}:@tyW Tryz.prog 62 ⟨K⟩=K afp:=qi aMt
theorem aGi:afp.kd=Kd.stru [(0,3),(1,4),(2,3),(3,3)]:=ID rfl
theorem arS:afp.kd.agg=true:=ID rfl
theorem akC:afp.size=4:=ID rfl
theorem afo:afp.bytes=32:=ID rfl
theorem aGg:qx afp=True:=eq_true rfl
theorem aGh:zc afp=[.v (Value.int IntKind.i64 0),.v (Value.bool false),.v (Value.int IntKind.i64 0),.v (Value.int IntKind.i64 0)]:=ID rfl
theorem aKP{K:Nat→TI→Prop}:@qy Tryz.prog 62 0 ⟨K⟩=K 0 ti3:=qr (ti:=afp) (tf:=ti3) (fo:=(0,3)) (fs:=[(0,3),(1,4),(2,3),(3,3)]) aMt rfl rfl tf3
theorem aOa{K:Nat→Nat→Prop}:qs Tryz.prog [(0,3),(1,4),(2,3),(3,3)] 0 K=K 0 1:=qq (tf:=ti3) (fo:=(0,3)) (fs:=[(0,3),(1,4),(2,3),(3,3)]) rfl tf3
theorem aKO{K:Nat→TI→Prop}:@qy Tryz.prog 62 1 ⟨K⟩=K 1 ti4:=qr (ti:=afp) (tf:=ti4) (fo:=(1,4)) (fs:=[(0,3),(1,4),(2,3),(3,3)]) aMt rfl rfl tf4
theorem aN9{K:Nat→Nat→Prop}:qs Tryz.prog [(0,3),(1,4),(2,3),(3,3)] 1 K=K 1 1:=qq (tf:=ti4) (fo:=(1,4)) (fs:=[(0,3),(1,4),(2,3),(3,3)]) rfl tf4
theorem aKN{K:Nat→TI→Prop}:@qy Tryz.prog 62 2 ⟨K⟩=K 2 ti3:=qr (ti:=afp) (tf:=ti3) (fo:=(2,3)) (fs:=[(0,3),(1,4),(2,3),(3,3)]) aMt rfl rfl tf3
theorem aN8{K:Nat→Nat→Prop}:qs Tryz.prog [(0,3),(1,4),(2,3),(3,3)] 2 K=K 2 1:=qq (tf:=ti3) (fo:=(2,3)) (fs:=[(0,3),(1,4),(2,3),(3,3)]) rfl tf3
theorem aKM{K:Nat→TI→Prop}:@qy Tryz.prog 62 3 ⟨K⟩=K 3 ti3:=qr (ti:=afp) (tf:=ti3) (fo:=(3,3)) (fs:=[(0,3),(1,4),(2,3),(3,3)]) aMt rfl rfl tf3
theorem aN7{K:Nat→Nat→Prop}:qs Tryz.prog [(0,3),(1,4),(2,3),(3,3)] 3 K=K 3 1:=qq (tf:=ti3) (fo:=(3,3)) (fs:=[(0,3),(1,4),(2,3),(3,3)]) rfl tf3
theorem aO7:∀f∈([(0,3),(1,4),(2,3),(3,3)]:List (Nat×Nat)),(qo Tryz.prog f.2).isSome=true:=by
 intro f hf
 simp only[List.mem_cons,List.not_mem_nil,or_false]at hf
 rcases hf with rfl|rfl|rfl|rfl
 ·rw[tf3];rfl
 ·rw[tf4];rfl
 ·rw[tf3];rfl
 ·rw[tf3];rfl
theorem ba6{ps:List (Nat×AV)}{K:AV→Prop}:@zb Tryz.prog 62 ps ⟨K⟩=@zd (qs Tryz.prog [(0,3),(1,4),(2,3),(3,3)]) (zc afp) ps ⟨fun cs=>K (.ag cs)⟩:=qH aMt rfl aO7
theorem bb1{K:TI→Prop}:@tyW Tryz.prog 63 ⟨K⟩=K aeg:=qi aIe
theorem aGf:aeg.kd=Kd.stru [(0,3),(1,4),(2,3),(3,3)]:=ID rfl
theorem arR:aeg.kd.agg=true:=ID rfl
theorem akB:aeg.size=4:=ID rfl
theorem afn:aeg.bytes=32:=ID rfl
theorem aGd:qx aeg=True:=eq_true rfl
theorem aGe:zc aeg=[.v (Value.int IntKind.i64 0),.v (Value.bool false),.v (Value.int IntKind.i64 0),.v (Value.int IntKind.i64 0)]:=ID rfl
theorem aKL{K:Nat→TI→Prop}:@qy Tryz.prog 63 0 ⟨K⟩=K 0 ti3:=qr (ti:=aeg) (tf:=ti3) (fo:=(0,3)) (fs:=[(0,3),(1,4),(2,3),(3,3)]) aIe rfl rfl tf3
theorem aN6{K:Nat→Nat→Prop}:qs Tryz.prog [(0,3),(1,4),(2,3),(3,3)] 0 K=K 0 1:=qq (tf:=ti3) (fo:=(0,3)) (fs:=[(0,3),(1,4),(2,3),(3,3)]) rfl tf3
theorem aKK{K:Nat→TI→Prop}:@qy Tryz.prog 63 1 ⟨K⟩=K 1 ti4:=qr (ti:=aeg) (tf:=ti4) (fo:=(1,4)) (fs:=[(0,3),(1,4),(2,3),(3,3)]) aIe rfl rfl tf4
theorem aN5{K:Nat→Nat→Prop}:qs Tryz.prog [(0,3),(1,4),(2,3),(3,3)] 1 K=K 1 1:=qq (tf:=ti4) (fo:=(1,4)) (fs:=[(0,3),(1,4),(2,3),(3,3)]) rfl tf4
theorem aKJ{K:Nat→TI→Prop}:@qy Tryz.prog 63 2 ⟨K⟩=K 2 ti3:=qr (ti:=aeg) (tf:=ti3) (fo:=(2,3)) (fs:=[(0,3),(1,4),(2,3),(3,3)]) aIe rfl rfl tf3
theorem aN4{K:Nat→Nat→Prop}:qs Tryz.prog [(0,3),(1,4),(2,3),(3,3)] 2 K=K 2 1:=qq (tf:=ti3) (fo:=(2,3)) (fs:=[(0,3),(1,4),(2,3),(3,3)]) rfl tf3
theorem aKI{K:Nat→TI→Prop}:@qy Tryz.prog 63 3 ⟨K⟩=K 3 ti3:=qr (ti:=aeg) (tf:=ti3) (fo:=(3,3)) (fs:=[(0,3),(1,4),(2,3),(3,3)]) aIe rfl rfl tf3
theorem aN3{K:Nat→Nat→Prop}:qs Tryz.prog [(0,3),(1,4),(2,3),(3,3)] 3 K=K 3 1:=qq (tf:=ti3) (fo:=(3,3)) (fs:=[(0,3),(1,4),(2,3),(3,3)]) rfl tf3
theorem aO6:∀f∈([(0,3),(1,4),(2,3),(3,3)]:List (Nat×Nat)),(qo Tryz.prog f.2).isSome=true:=by
 intro f hf
 simp only[List.mem_cons,List.not_mem_nil,or_false]at hf
 rcases hf with rfl|rfl|rfl|rfl
 ·rw[tf3];rfl
 ·rw[tf4];rfl
 ·rw[tf3];rfl
 ·rw[tf3];rfl
theorem ba5{ps:List (Nat×AV)}{K:AV→Prop}:@zb Tryz.prog 63 ps ⟨K⟩=@zd (qs Tryz.prog [(0,3),(1,4),(2,3),(3,3)]) (zc aeg) ps ⟨fun cs=>K (.ag cs)⟩:=qH aIe rfl aO6
theorem bb0{K:TI→Prop}:@tyW Tryz.prog 65 ⟨K⟩=K aDy:=qi bc5
theorem aGc:aDy.kd=Kd.oth:=ID rfl
theorem arQ:aDy.kd.agg=false:=ID rfl
theorem akA:aDy.size=1:=ID rfl
theorem afm:aDy.bytes=8:=ID rfl
theorem aGa:qx aDy=True:=eq_true rfl
theorem aGb:zc aDy=[.v Value.nilFunc]:=ID rfl
theorem bbZ{K:TI→Prop}:@tyW Tryz.prog 67 ⟨K⟩=K aDx:=qi bc4
theorem aF9:aDx.kd=Kd.oth:=ID rfl
theorem arP:aDx.kd.agg=false:=ID rfl
theorem akz:aDx.size=1:=ID rfl
theorem afl:aDx.bytes=8:=ID rfl
theorem aF7:qx aDx=True:=eq_true rfl
theorem aF8:zc aDx=[.v Value.nilFunc]:=ID rfl
theorem bbY{K:TI→Prop}:@tyW Tryz.prog 68 ⟨K⟩=K aDw:=qi bc3
theorem aF6:aDw.kd=Kd.oth:=ID rfl
theorem arO:aDw.kd.agg=false:=ID rfl
theorem aky:aDw.size=1:=ID rfl
theorem afk:aDw.bytes=8:=ID rfl
theorem aF4:qx aDw=True:=eq_true rfl
theorem aF5:zc aDw=[.v Value.nilFunc]:=ID rfl
theorem bbX{K:TI→Prop}:@tyW Tryz.prog 69 ⟨K⟩=K aDv:=qi bc2
theorem aF3:aDv.kd=Kd.oth:=ID rfl
theorem arN:aDv.kd.agg=false:=ID rfl
theorem akx:aDv.size=1:=ID rfl
theorem afj:aDv.bytes=8:=ID rfl
theorem aF1:qx aDv=True:=eq_true rfl
theorem aF2:zc aDv=[.v Value.nilFunc]:=ID rfl
theorem bbW{K:TI→Prop}:@tyW Tryz.prog 70 ⟨K⟩=K aDu:=qi bc1
theorem aFZ:aDu.kd=Kd.oth:=ID rfl
theorem arL:aDu.kd.agg=false:=ID rfl
theorem akv:aDu.size=1:=ID rfl
theorem afi:aDu.bytes=8:=ID rfl
theorem aFX:qx aDu=True:=eq_true rfl
theorem aFY:zc aDu=[.v Value.nilFunc]:=ID rfl
theorem bbV{K:TI→Prop}:@tyW Tryz.prog 71 ⟨K⟩=K aDt:=qi bc0
theorem aFW:aDt.kd=Kd.oth:=ID rfl
theorem arK:aDt.kd.agg=false:=ID rfl
theorem aku:aDt.size=1:=ID rfl
theorem afh:aDt.bytes=8:=ID rfl
theorem aFU:qx aDt=True:=eq_true rfl
theorem aFV:zc aDt=[.v Value.nilFunc]:=ID rfl
theorem bbU{K:TI→Prop}:@tyW Tryz.prog 72 ⟨K⟩=K aDs:=qi bcZ
theorem aFT:aDs.kd=Kd.oth:=ID rfl
theorem arJ:aDs.kd.agg=false:=ID rfl
theorem akt:aDs.size=1:=ID rfl
theorem afg:aDs.bytes=8:=ID rfl
theorem aFR:qx aDs=True:=eq_true rfl
theorem aFS:zc aDs=[.v Value.nilFunc]:=ID rfl
theorem bbT{K:TI→Prop}:@tyW Tryz.prog 74 ⟨K⟩=K aDr:=qi bcY
theorem aFQ:aDr.kd=Kd.oth:=ID rfl
theorem arI:aDr.kd.agg=false:=ID rfl
theorem aks:aDr.size=1:=ID rfl
theorem aff:aDr.bytes=8:=ID rfl
theorem aFO:qx aDr=True:=eq_true rfl
theorem aFP:zc aDr=[.v Value.nilFunc]:=ID rfl
theorem bbS{K:TI→Prop}:@tyW Tryz.prog 76 ⟨K⟩=K aDq:=qi bcX
theorem aFN:aDq.kd=Kd.oth:=ID rfl
theorem arH:aDq.kd.agg=false:=ID rfl
theorem akr:aDq.size=1:=ID rfl
theorem afe:aDq.bytes=8:=ID rfl
theorem aFL:qx aDq=True:=eq_true rfl
theorem aFM:zc aDq=[.v Value.nilFunc]:=ID rfl
theorem bbR{K:TI→Prop}:@tyW Tryz.prog 77 ⟨K⟩=K aDp:=qi bcW
theorem aFK:aDp.kd=Kd.oth:=ID rfl
theorem arG:aDp.kd.agg=false:=ID rfl
theorem akq:aDp.size=1:=ID rfl
theorem afd:aDp.bytes=8:=ID rfl
theorem aFI:qx aDp=True:=eq_true rfl
theorem aFJ:zc aDp=[.v Value.nilFunc]:=ID rfl
theorem bbQ{K:TI→Prop}:@tyW Tryz.prog 79 ⟨K⟩=K aDo:=qi bcV
theorem aFH:aDo.kd=Kd.oth:=ID rfl
theorem arF:aDo.kd.agg=false:=ID rfl
theorem akp:aDo.size=1:=ID rfl
theorem afc:aDo.bytes=8:=ID rfl
theorem aFF:qx aDo=True:=eq_true rfl
theorem aFG:zc aDo=[.v Value.nilFunc]:=ID rfl
theorem bbP{K:TI→Prop}:@tyW Tryz.prog 80 ⟨K⟩=K aDn:=qi bcU
theorem aFD:aDn.kd=Kd.oth:=ID rfl
theorem arD:aDn.kd.agg=false:=ID rfl
theorem akn:aDn.size=1:=ID rfl
theorem afb:aDn.bytes=8:=ID rfl
theorem aFB:qx aDn=True:=eq_true rfl
theorem aFC:zc aDn=[.v Value.nilFunc]:=ID rfl
theorem bbO{K:TI→Prop}:@tyW Tryz.prog 82 ⟨K⟩=K aDm:=qi bcT
theorem aFA:aDm.kd=Kd.oth:=ID rfl
theorem arC:aDm.kd.agg=false:=ID rfl
theorem akm:aDm.size=1:=ID rfl
theorem afa:aDm.bytes=8:=ID rfl
theorem aFy:qx aDm=True:=eq_true rfl
theorem aFz:zc aDm=[.v Value.nilFunc]:=ID rfl
theorem bbN{K:TI→Prop}:@tyW Tryz.prog 83 ⟨K⟩=K aDl:=qi bcS
theorem aFx:aDl.kd=Kd.oth:=ID rfl
theorem arB:aDl.kd.agg=false:=ID rfl
theorem akl:aDl.size=1:=ID rfl
theorem ae9:aDl.bytes=8:=ID rfl
theorem aFv:qx aDl=True:=eq_true rfl
theorem aFw:zc aDl=[.v Value.nilFunc]:=ID rfl
theorem bbM{K:TI→Prop}:@tyW Tryz.prog 84 ⟨K⟩=K aDk:=qi bcR
theorem aFu:aDk.kd=Kd.oth:=ID rfl
theorem arA:aDk.kd.agg=false:=ID rfl
theorem akk:aDk.size=1:=ID rfl
theorem ae8:aDk.bytes=8:=ID rfl
theorem aFs:qx aDk=True:=eq_true rfl
theorem aFt:zc aDk=[.v Value.nilFunc]:=ID rfl
theorem bbL{K:TI→Prop}:@tyW Tryz.prog 85 ⟨K⟩=K aDj:=qi bcQ
theorem aFr:aDj.kd=Kd.oth:=ID rfl
theorem arz:aDj.kd.agg=false:=ID rfl
theorem akj:aDj.size=1:=ID rfl
theorem ae7:aDj.bytes=8:=ID rfl
theorem aFp:qx aDj=True:=eq_true rfl
theorem aFq:zc aDj=[.v Value.nilFunc]:=ID rfl
theorem bbK{K:TI→Prop}:@tyW Tryz.prog 86 ⟨K⟩=K aDi:=qi bcP
theorem aFo:aDi.kd=Kd.oth:=ID rfl
theorem ary:aDi.kd.agg=false:=ID rfl
theorem aki:aDi.size=1:=ID rfl
theorem ae6:aDi.bytes=8:=ID rfl
theorem aFm:qx aDi=True:=eq_true rfl
theorem aFn:zc aDi=[.v Value.nilFunc]:=ID rfl
theorem bbJ{K:TI→Prop}:@tyW Tryz.prog 87 ⟨K⟩=K aDh:=qi bcO
theorem aFl:aDh.kd=Kd.oth:=ID rfl
theorem arx:aDh.kd.agg=false:=ID rfl
theorem akh:aDh.size=1:=ID rfl
theorem ae5:aDh.bytes=8:=ID rfl
theorem aFj:qx aDh=True:=eq_true rfl
theorem aFk:zc aDh=[.v Value.nilFunc]:=ID rfl
theorem bbI{K:TI→Prop}:@tyW Tryz.prog 88 ⟨K⟩=K aDg:=qi bcN
theorem aFi:aDg.kd=Kd.oth:=ID rfl
theorem arw:aDg.kd.agg=false:=ID rfl
theorem akg:aDg.size=1:=ID rfl
theorem ae4:aDg.bytes=8:=ID rfl
theorem aFg:qx aDg=True:=eq_true rfl
theorem aFh:zc aDg=[.v Value.nilFunc]:=ID rfl
theorem bbH{K:TI→Prop}:@tyW Tryz.prog 89 ⟨K⟩=K ajT:=qi aNh
theorem aFf:ajT.kd=Kd.stru [(0,4),(1,23),(2,3)]:=ID rfl
theorem arv:ajT.kd.agg=true:=ID rfl
theorem akf:ajT.size=3:=ID rfl
theorem ae3:ajT.bytes=40:=ID rfl
theorem aFd:qx ajT=True:=eq_true rfl
theorem aFe:zc ajT=[.v (Value.bool false),.v (Value.slice none 0 0),.v (Value.int IntKind.i64 0)]:=ID rfl
theorem aKH{K:Nat→TI→Prop}:@qy Tryz.prog 89 0 ⟨K⟩=K 0 ti4:=qr (ti:=ajT) (tf:=ti4) (fo:=(0,4)) (fs:=[(0,4),(1,23),(2,3)]) aNh rfl rfl tf4
theorem aN2{K:Nat→Nat→Prop}:qs Tryz.prog [(0,4),(1,23),(2,3)] 0 K=K 0 1:=qq (tf:=ti4) (fo:=(0,4)) (fs:=[(0,4),(1,23),(2,3)]) rfl tf4
theorem aKG{K:Nat→TI→Prop}:@qy Tryz.prog 89 1 ⟨K⟩=K 1 Jh:=qr (ti:=ajT) (tf:=Jh) (fo:=(1,23)) (fs:=[(0,4),(1,23),(2,3)]) aNh rfl rfl aej
theorem aN1{K:Nat→Nat→Prop}:qs Tryz.prog [(0,4),(1,23),(2,3)] 1 K=K 1 1:=qq (tf:=Jh) (fo:=(1,23)) (fs:=[(0,4),(1,23),(2,3)]) rfl aej
theorem aKF{K:Nat→TI→Prop}:@qy Tryz.prog 89 2 ⟨K⟩=K 2 ti3:=qr (ti:=ajT) (tf:=ti3) (fo:=(2,3)) (fs:=[(0,4),(1,23),(2,3)]) aNh rfl rfl tf3
theorem aN0{K:Nat→Nat→Prop}:qs Tryz.prog [(0,4),(1,23),(2,3)] 2 K=K 2 1:=qq (tf:=ti3) (fo:=(2,3)) (fs:=[(0,4),(1,23),(2,3)]) rfl tf3
theorem aO5:∀f∈([(0,4),(1,23),(2,3)]:List (Nat×Nat)),(qo Tryz.prog f.2).isSome=true:=by
 intro f hf
 simp only[List.mem_cons,List.not_mem_nil,or_false]at hf
 rcases hf with rfl|rfl|rfl
 ·rw[tf4];rfl
 ·rw[aej];rfl
 ·rw[tf3];rfl
theorem ba4{ps:List (Nat×AV)}{K:AV→Prop}:@zb Tryz.prog 89 ps ⟨K⟩=@zd (qs Tryz.prog [(0,4),(1,23),(2,3)]) (zc ajT) ps ⟨fun cs=>K (.ag cs)⟩:=qH aNh rfl aO5
theorem bbG{K:TI→Prop}:@tyW Tryz.prog 90 ⟨K⟩=K QO:=qi YO
theorem aFb:QO.kd=Kd.stru [(0,4),(1,23),(2,3)]:=ID rfl
theorem art:QO.kd.agg=true:=ID rfl
theorem akd:QO.size=3:=ID rfl
theorem ae2:QO.bytes=40:=ID rfl
theorem aE9:qx QO=True:=eq_true rfl
theorem aFa:zc QO=[.v (Value.bool false),.v (Value.slice none 0 0),.v (Value.int IntKind.i64 0)]:=ID rfl
theorem aKE{K:Nat→TI→Prop}:@qy Tryz.prog 90 0 ⟨K⟩=K 0 ti4:=qr (ti:=QO) (tf:=ti4) (fo:=(0,4)) (fs:=[(0,4),(1,23),(2,3)]) YO rfl rfl tf4
theorem aNZ{K:Nat→Nat→Prop}:qs Tryz.prog [(0,4),(1,23),(2,3)] 0 K=K 0 1:=qq (tf:=ti4) (fo:=(0,4)) (fs:=[(0,4),(1,23),(2,3)]) rfl tf4
theorem aKD{K:Nat→TI→Prop}:@qy Tryz.prog 90 1 ⟨K⟩=K 1 Jh:=qr (ti:=QO) (tf:=Jh) (fo:=(1,23)) (fs:=[(0,4),(1,23),(2,3)]) YO rfl rfl aej
theorem aNY{K:Nat→Nat→Prop}:qs Tryz.prog [(0,4),(1,23),(2,3)] 1 K=K 1 1:=qq (tf:=Jh) (fo:=(1,23)) (fs:=[(0,4),(1,23),(2,3)]) rfl aej
theorem aKC{K:Nat→TI→Prop}:@qy Tryz.prog 90 2 ⟨K⟩=K 2 ti3:=qr (ti:=QO) (tf:=ti3) (fo:=(2,3)) (fs:=[(0,4),(1,23),(2,3)]) YO rfl rfl tf3
theorem aNX{K:Nat→Nat→Prop}:qs Tryz.prog [(0,4),(1,23),(2,3)] 2 K=K 2 1:=qq (tf:=ti3) (fo:=(2,3)) (fs:=[(0,4),(1,23),(2,3)]) rfl tf3
theorem aO4:∀f∈([(0,4),(1,23),(2,3)]:List (Nat×Nat)),(qo Tryz.prog f.2).isSome=true:=by
 intro f hf
 simp only[List.mem_cons,List.not_mem_nil,or_false]at hf
 rcases hf with rfl|rfl|rfl
 ·rw[tf4];rfl
 ·rw[aej];rfl
 ·rw[tf3];rfl
theorem ba3{ps:List (Nat×AV)}{K:AV→Prop}:@zb Tryz.prog 90 ps ⟨K⟩=@zd (qs Tryz.prog [(0,4),(1,23),(2,3)]) (zc QO) ps ⟨fun cs=>K (.ag cs)⟩:=qH YO rfl aO4
theorem bbF{K:TI→Prop}:@tyW Tryz.prog 92 ⟨K⟩=K aDf:=qi bcM
theorem aE8:aDf.kd=Kd.oth:=ID rfl
theorem ars:aDf.kd.agg=false:=ID rfl
theorem akc:aDf.size=1:=ID rfl
theorem ae1:aDf.bytes=8:=ID rfl
theorem aE6:qx aDf=True:=eq_true rfl
theorem aE7:zc aDf=[.v Value.nilFunc]:=ID rfl
theorem bbE{K:TI→Prop}:@tyW Tryz.prog 93 ⟨K⟩=K aDe:=qi bcL
theorem aE5:aDe.kd=Kd.oth:=ID rfl
theorem arq:aDe.kd.agg=false:=ID rfl
theorem akb:aDe.size=1:=ID rfl
theorem ae0:aDe.bytes=8:=ID rfl
theorem aE3:qx aDe=True:=eq_true rfl
theorem aE4:zc aDe=[.v Value.nilFunc]:=ID rfl
theorem bbD{K:TI→Prop}:@tyW Tryz.prog 94 ⟨K⟩=K aDd:=qi bcK
theorem aE2:aDd.kd=Kd.oth:=ID rfl
theorem arp:aDd.kd.agg=false:=ID rfl
theorem aka:aDd.size=1:=ID rfl
theorem aeZ:aDd.bytes=8:=ID rfl
theorem aE0:qx aDd=True:=eq_true rfl
theorem aE1:zc aDd=[.v Value.nilFunc]:=ID rfl
theorem bbC{K:TI→Prop}:@tyW Tryz.prog 95 ⟨K⟩=K aDc:=qi bcJ
theorem aEZ:aDc.kd=Kd.oth:=ID rfl
theorem aro:aDc.kd.agg=false:=ID rfl
theorem aj9:aDc.size=1:=ID rfl
theorem aeY:aDc.bytes=8:=ID rfl
theorem aEX:qx aDc=True:=eq_true rfl
theorem aEY:zc aDc=[.v Value.nilFunc]:=ID rfl
theorem bbB{K:TI→Prop}:@tyW Tryz.prog 97 ⟨K⟩=K aDb:=qi bcI
theorem aEW:aDb.kd=Kd.oth:=ID rfl
theorem arn:aDb.kd.agg=false:=ID rfl
theorem aj8:aDb.size=1:=ID rfl
theorem aeX:aDb.bytes=8:=ID rfl
theorem aEU:qx aDb=True:=eq_true rfl
theorem aEV:zc aDb=[.v Value.nilFunc]:=ID rfl
theorem bbA{K:TI→Prop}:@tyW Tryz.prog 98 ⟨K⟩=K aDa:=qi bcH
theorem aET:aDa.kd=Kd.oth:=ID rfl
theorem arm:aDa.kd.agg=false:=ID rfl
theorem aj7:aDa.size=1:=ID rfl
theorem aeW:aDa.bytes=8:=ID rfl
theorem aER:qx aDa=True:=eq_true rfl
theorem aES:zc aDa=[.v Value.nilFunc]:=ID rfl
theorem bbz{K:TI→Prop}:@tyW Tryz.prog 99 ⟨K⟩=K aC9:=qi bcG
theorem aEQ:aC9.kd=Kd.oth:=ID rfl
theorem arl:aC9.kd.agg=false:=ID rfl
theorem aj6:aC9.size=1:=ID rfl
theorem aeV:aC9.bytes=8:=ID rfl
theorem aEO:qx aC9=True:=eq_true rfl
theorem aEP:zc aC9=[.v Value.nilFunc]:=ID rfl
theorem aWu{K:TI→Prop}:@tyW Tryz.prog 100 ⟨K⟩=K yD:=qi JT
theorem az3:yD.kd=Kd.sli 90:=ID rfl
theorem anY:yD.kd.agg=false:=ID rfl
theorem aiw:yD.size=1:=ID rfl
theorem acW:yD.bytes=24:=ID rfl
theorem az1:qx yD=True:=eq_true rfl
theorem az2:zc yD=[.v (Value.slice none 0 0)]:=ID rfl
theorem aNG{K:TI→Prop}:@yw Tryz.prog 100 ⟨K⟩=K QO:=QE JT rfl YO
theorem aWt{K:TI→Prop}:@tyW Tryz.prog 101 ⟨K⟩=K Zj:=qi aAd
theorem az0:Zj.kd=Kd.stru [(0,3),(1,100)]:=ID rfl
theorem anX:Zj.kd.agg=true:=ID rfl
theorem aiv:Zj.size=2:=ID rfl
theorem acV:Zj.bytes=32:=ID rfl
theorem azY:qx Zj=True:=eq_true rfl
theorem azZ:zc Zj=[.v (Value.int IntKind.i64 0),.v (Value.slice none 0 0)]:=ID rfl
theorem aB4{K:Nat→TI→Prop}:@qy Tryz.prog 101 0 ⟨K⟩=K 0 ti3:=qr (ti:=Zj) (tf:=ti3) (fo:=(0,3)) (fs:=[(0,3),(1,100)]) aAd rfl rfl tf3
theorem aI9{K:Nat→Nat→Prop}:qs Tryz.prog [(0,3),(1,100)] 0 K=K 0 1:=qq (tf:=ti3) (fo:=(0,3)) (fs:=[(0,3),(1,100)]) rfl tf3
theorem aB3{K:Nat→TI→Prop}:@qy Tryz.prog 101 1 ⟨K⟩=K 1 yD:=qr (ti:=Zj) (tf:=yD) (fo:=(1,100)) (fs:=[(0,3),(1,100)]) aAd rfl rfl JT
theorem aI8{K:Nat→Nat→Prop}:qs Tryz.prog [(0,3),(1,100)] 1 K=K 1 1:=qq (tf:=yD) (fo:=(1,100)) (fs:=[(0,3),(1,100)]) rfl JT
theorem aKw:∀f∈([(0,3),(1,100)]:List (Nat×Nat)),(qo Tryz.prog f.2).isSome=true:=by
 intro f hf
 simp only[List.mem_cons,List.not_mem_nil,or_false]at hf
 rcases hf with rfl|rfl
 ·rw[tf3];rfl
 ·rw[JT];rfl
theorem aTr{ps:List (Nat×AV)}{K:AV→Prop}:@zb Tryz.prog 101 ps ⟨K⟩=@zd (qs Tryz.prog [(0,3),(1,100)]) (zc Zj) ps ⟨fun cs=>K (.ag cs)⟩:=qH aAd rfl aKw
theorem aWs{K:TI→Prop}:@tyW Tryz.prog 102 ⟨K⟩=K Zi:=qi aAc
theorem azX:Zi.kd=Kd.stru [(0,3),(1,100)]:=ID rfl
theorem anW:Zi.kd.agg=true:=ID rfl
theorem aiu:Zi.size=2:=ID rfl
theorem acU:Zi.bytes=32:=ID rfl
theorem azV:qx Zi=True:=eq_true rfl
theorem azW:zc Zi=[.v (Value.int IntKind.i64 0),.v (Value.slice none 0 0)]:=ID rfl
theorem aB2{K:Nat→TI→Prop}:@qy Tryz.prog 102 0 ⟨K⟩=K 0 ti3:=qr (ti:=Zi) (tf:=ti3) (fo:=(0,3)) (fs:=[(0,3),(1,100)]) aAc rfl rfl tf3
theorem aI7{K:Nat→Nat→Prop}:qs Tryz.prog [(0,3),(1,100)] 0 K=K 0 1:=qq (tf:=ti3) (fo:=(0,3)) (fs:=[(0,3),(1,100)]) rfl tf3
theorem aB1{K:Nat→TI→Prop}:@qy Tryz.prog 102 1 ⟨K⟩=K 1 yD:=qr (ti:=Zi) (tf:=yD) (fo:=(1,100)) (fs:=[(0,3),(1,100)]) aAc rfl rfl JT
theorem aI6{K:Nat→Nat→Prop}:qs Tryz.prog [(0,3),(1,100)] 1 K=K 1 1:=qq (tf:=yD) (fo:=(1,100)) (fs:=[(0,3),(1,100)]) rfl JT
theorem aKv:∀f∈([(0,3),(1,100)]:List (Nat×Nat)),(qo Tryz.prog f.2).isSome=true:=by
 intro f hf
 simp only[List.mem_cons,List.not_mem_nil,or_false]at hf
 rcases hf with rfl|rfl
 ·rw[tf3];rfl
 ·rw[JT];rfl
theorem aTq{ps:List (Nat×AV)}{K:AV→Prop}:@zb Tryz.prog 102 ps ⟨K⟩=@zd (qs Tryz.prog [(0,3),(1,100)]) (zc Zi) ps ⟨fun cs=>K (.ag cs)⟩:=qH aAc rfl aKv
theorem aWr{K:TI→Prop}:@tyW Tryz.prog 103 ⟨K⟩=K V8:=qi aYK
theorem azU:V8.kd=Kd.oth:=ID rfl
theorem anV:V8.kd.agg=false:=ID rfl
theorem ait:V8.size=1:=ID rfl
theorem acT:V8.bytes=8:=ID rfl
theorem azS:qx V8=True:=eq_true rfl
theorem azT:zc V8=[.v Value.nilFunc]:=ID rfl
theorem aWq{K:TI→Prop}:@tyW Tryz.prog 104 ⟨K⟩=K V7:=qi aYJ
theorem azR:V7.kd=Kd.oth:=ID rfl
theorem anU:V7.kd.agg=false:=ID rfl
theorem ais:V7.size=1:=ID rfl
theorem acS:V7.bytes=8:=ID rfl
theorem azP:qx V7=True:=eq_true rfl
theorem azQ:zc V7=[.v Value.nilFunc]:=ID rfl
theorem aWp{K:TI→Prop}:@tyW Tryz.prog 105 ⟨K⟩=K V6:=qi aYI
theorem azO:V6.kd=Kd.oth:=ID rfl
theorem anT:V6.kd.agg=false:=ID rfl
theorem air:V6.size=1:=ID rfl
theorem acR:V6.bytes=8:=ID rfl
theorem azM:qx V6=True:=eq_true rfl
theorem azN:zc V6=[.v Value.nilFunc]:=ID rfl
theorem aWo{K:TI→Prop}:@tyW Tryz.prog 106 ⟨K⟩=K V5:=qi aYH
theorem azL:V5.kd=Kd.oth:=ID rfl
theorem anS:V5.kd.agg=false:=ID rfl
theorem aiq:V5.size=1:=ID rfl
theorem acQ:V5.bytes=8:=ID rfl
theorem azJ:qx V5=True:=eq_true rfl
theorem azK:zc V5=[.v Value.nilFunc]:=ID rfl
theorem aWn{K:TI→Prop}:@tyW Tryz.prog 107 ⟨K⟩=K V4:=qi aYG
theorem azI:V4.kd=Kd.oth:=ID rfl
theorem anR:V4.kd.agg=false:=ID rfl
theorem aip:V4.size=1:=ID rfl
theorem acP:V4.bytes=8:=ID rfl
theorem azG:qx V4=True:=eq_true rfl
theorem azH:zc V4=[.v Value.nilFunc]:=ID rfl
theorem aWm{K:TI→Prop}:@tyW Tryz.prog 108 ⟨K⟩=K V3:=qi aYF
theorem azF:V3.kd=Kd.oth:=ID rfl
theorem anQ:V3.kd.agg=false:=ID rfl
theorem aio:V3.size=1:=ID rfl
theorem acO:V3.bytes=8:=ID rfl
theorem azD:qx V3=True:=eq_true rfl
theorem azE:zc V3=[.v Value.nilFunc]:=ID rfl
theorem aWl{K:TI→Prop}:@tyW Tryz.prog 109 ⟨K⟩=K V2:=qi aYE
theorem azC:V2.kd=Kd.oth:=ID rfl
theorem anP:V2.kd.agg=false:=ID rfl
theorem ain:V2.size=1:=ID rfl
theorem acN:V2.bytes=8:=ID rfl
theorem azA:qx V2=True:=eq_true rfl
theorem azB:zc V2=[.v Value.nilFunc]:=ID rfl
theorem aWk{K:TI→Prop}:@tyW Tryz.prog 110 ⟨K⟩=K Zh:=qi aAb
theorem azy:Zh.kd=Kd.stru [(0,90),(3,90)]:=ID rfl
theorem anN:Zh.kd.agg=true:=ID rfl
theorem ail:Zh.size=6:=ID rfl
theorem acM:Zh.bytes=80:=ID rfl
theorem azw:qx Zh=True:=eq_true rfl
theorem azx:zc Zh=[.v (Value.bool false),.v (Value.slice none 0 0),.v (Value.int IntKind.i64 0),.v (Value.bool false),.v (Value.slice none 0 0),.v (Value.int IntKind.i64 0)]:=ID rfl
theorem aB0{K:Nat→TI→Prop}:@qy Tryz.prog 110 0 ⟨K⟩=K 0 QO:=qr (ti:=Zh) (tf:=QO) (fo:=(0,90)) (fs:=[(0,90),(3,90)]) aAb rfl rfl YO
theorem aI5{K:Nat→Nat→Prop}:qs Tryz.prog [(0,90),(3,90)] 0 K=K 0 3:=qq (tf:=QO) (fo:=(0,90)) (fs:=[(0,90),(3,90)]) rfl YO
theorem aBZ{K:Nat→TI→Prop}:@qy Tryz.prog 110 1 ⟨K⟩=K 3 QO:=qr (ti:=Zh) (tf:=QO) (fo:=(3,90)) (fs:=[(0,90),(3,90)]) aAb rfl rfl YO
theorem aI4{K:Nat→Nat→Prop}:qs Tryz.prog [(0,90),(3,90)] 1 K=K 3 3:=qq (tf:=QO) (fo:=(3,90)) (fs:=[(0,90),(3,90)]) rfl YO
theorem aKu:∀f∈([(0,90),(3,90)]:List (Nat×Nat)),(qo Tryz.prog f.2).isSome=true:=by
 intro f hf
 simp only[List.mem_cons,List.not_mem_nil,or_false]at hf
 rcases hf with rfl|rfl
 ·rw[YO];rfl
 ·rw[YO];rfl
theorem aTp{ps:List (Nat×AV)}{K:AV→Prop}:@zb Tryz.prog 110 ps ⟨K⟩=@zd (qs Tryz.prog [(0,90),(3,90)]) (zc Zh) ps ⟨fun cs=>K (.ag cs)⟩:=qH aAb rfl aKu
theorem aWj{K:TI→Prop}:@tyW Tryz.prog 111 ⟨K⟩=K QR:=qi an2
theorem azv:QR.kd=Kd.stru [(0,90),(3,90)]:=ID rfl
theorem anM:QR.kd.agg=true:=ID rfl
theorem aik:QR.size=6:=ID rfl
theorem acL:QR.bytes=80:=ID rfl
theorem azt:qx QR=True:=eq_true rfl
theorem azu:zc QR=[.v (Value.bool false),.v (Value.slice none 0 0),.v (Value.int IntKind.i64 0),.v (Value.bool false),.v (Value.slice none 0 0),.v (Value.int IntKind.i64 0)]:=ID rfl
theorem aBY{K:Nat→TI→Prop}:@qy Tryz.prog 111 0 ⟨K⟩=K 0 QO:=qr (ti:=QR) (tf:=QO) (fo:=(0,90)) (fs:=[(0,90),(3,90)]) an2 rfl rfl YO
theorem aI3{K:Nat→Nat→Prop}:qs Tryz.prog [(0,90),(3,90)] 0 K=K 0 3:=qq (tf:=QO) (fo:=(0,90)) (fs:=[(0,90),(3,90)]) rfl YO
theorem aBX{K:Nat→TI→Prop}:@qy Tryz.prog 111 1 ⟨K⟩=K 3 QO:=qr (ti:=QR) (tf:=QO) (fo:=(3,90)) (fs:=[(0,90),(3,90)]) an2 rfl rfl YO
theorem aI2{K:Nat→Nat→Prop}:qs Tryz.prog [(0,90),(3,90)] 1 K=K 3 3:=qq (tf:=QO) (fo:=(3,90)) (fs:=[(0,90),(3,90)]) rfl YO
theorem aKt:∀f∈([(0,90),(3,90)]:List (Nat×Nat)),(qo Tryz.prog f.2).isSome=true:=by
 intro f hf
 simp only[List.mem_cons,List.not_mem_nil,or_false]at hf
 rcases hf with rfl|rfl
 ·rw[YO];rfl
 ·rw[YO];rfl
theorem aTo{ps:List (Nat×AV)}{K:AV→Prop}:@zb Tryz.prog 111 ps ⟨K⟩=@zd (qs Tryz.prog [(0,90),(3,90)]) (zc QR) ps ⟨fun cs=>K (.ag cs)⟩:=qH an2 rfl aKt
theorem aWi{K:TI→Prop}:@tyW Tryz.prog 113 ⟨K⟩=K V1:=qi aYD
theorem azs:V1.kd=Kd.oth:=ID rfl
theorem anL:V1.kd.agg=false:=ID rfl
theorem aij:V1.size=1:=ID rfl
theorem acK:V1.bytes=8:=ID rfl
theorem azq:qx V1=True:=eq_true rfl
theorem azr:zc V1=[.v Value.nilFunc]:=ID rfl
theorem aWh{K:TI→Prop}:@tyW Tryz.prog 114 ⟨K⟩=K V0:=qi aYC
theorem azp:V0.kd=Kd.oth:=ID rfl
theorem anK:V0.kd.agg=false:=ID rfl
theorem aii:V0.size=1:=ID rfl
theorem acJ:V0.bytes=8:=ID rfl
theorem azn:qx V0=True:=eq_true rfl
theorem azo:zc V0=[.v Value.nilFunc]:=ID rfl
theorem aWg{K:TI→Prop}:@tyW Tryz.prog 115 ⟨K⟩=K VZ:=qi aYB
theorem azm:VZ.kd=Kd.oth:=ID rfl
theorem anJ:VZ.kd.agg=false:=ID rfl
theorem aih:VZ.size=1:=ID rfl
theorem acI:VZ.bytes=8:=ID rfl
theorem azk:qx VZ=True:=eq_true rfl
theorem azl:zc VZ=[.v Value.nilFunc]:=ID rfl
theorem aWf{K:TI→Prop}:@tyW Tryz.prog 116 ⟨K⟩=K VY:=qi aYA
theorem azj:VY.kd=Kd.oth:=ID rfl
theorem anI:VY.kd.agg=false:=ID rfl
theorem aig:VY.size=1:=ID rfl
theorem acH:VY.bytes=8:=ID rfl
theorem azh:qx VY=True:=eq_true rfl
theorem azi:zc VY=[.v Value.nilFunc]:=ID rfl
theorem aWe{K:TI→Prop}:@tyW Tryz.prog 117 ⟨K⟩=K VX:=qi aYz
theorem azg:VX.kd=Kd.oth:=ID rfl
theorem anH:VX.kd.agg=false:=ID rfl
theorem aif:VX.size=1:=ID rfl
theorem acG:VX.bytes=8:=ID rfl
theorem aze:qx VX=True:=eq_true rfl
theorem azf:zc VX=[.v Value.nilFunc]:=ID rfl
theorem aWd{K:TI→Prop}:@tyW Tryz.prog 118 ⟨K⟩=K VW:=qi aYy
theorem azd:VW.kd=Kd.oth:=ID rfl
theorem anG:VW.kd.agg=false:=ID rfl
theorem aie:VW.size=1:=ID rfl
theorem acF:VW.bytes=8:=ID rfl
theorem azb:qx VW=True:=eq_true rfl
theorem azc:zc VW=[.v Value.nilFunc]:=ID rfl
theorem aWc{K:TI→Prop}:@tyW Tryz.prog 119 ⟨K⟩=K VV:=qi aYx
theorem aza:VV.kd=Kd.oth:=ID rfl
theorem anF:VV.kd.agg=false:=ID rfl
theorem aid:VV.size=1:=ID rfl
theorem acE:VV.bytes=8:=ID rfl
theorem ay8:qx VV=True:=eq_true rfl
theorem ay9:zc VV=[.v Value.nilFunc]:=ID rfl
theorem aWb{K:TI→Prop}:@tyW Tryz.prog 120 ⟨K⟩=K VU:=qi aYw
theorem ay6:VU.kd=Kd.oth:=ID rfl
theorem anD:VU.kd.agg=false:=ID rfl
theorem aib:VU.size=1:=ID rfl
theorem acD:VU.bytes=8:=ID rfl
theorem ay4:qx VU=True:=eq_true rfl
theorem ay5:zc VU=[.v Value.nilFunc]:=ID rfl
theorem aWa{K:TI→Prop}:@tyW Tryz.prog 121 ⟨K⟩=K VT:=qi aYv
theorem ay3:VT.kd=Kd.oth:=ID rfl
theorem anC:VT.kd.agg=false:=ID rfl
theorem aia:VT.size=1:=ID rfl
theorem acC:VT.bytes=8:=ID rfl
theorem ay1:qx VT=True:=eq_true rfl
theorem ay2:zc VT=[.v Value.nilFunc]:=ID rfl
theorem aV9{K:TI→Prop}:@tyW Tryz.prog 122 ⟨K⟩=K VS:=qi aYu
theorem ay0:VS.kd=Kd.oth:=ID rfl
theorem anB:VS.kd.agg=false:=ID rfl
theorem ah9:VS.size=1:=ID rfl
theorem acB:VS.bytes=8:=ID rfl
theorem ayY:qx VS=True:=eq_true rfl
theorem ayZ:zc VS=[.v Value.nilFunc]:=ID rfl
theorem aV8{K:TI→Prop}:@tyW Tryz.prog 123 ⟨K⟩=K VR:=qi aYt
theorem ayX:VR.kd=Kd.oth:=ID rfl
theorem anA:VR.kd.agg=false:=ID rfl
theorem ah8:VR.size=1:=ID rfl
theorem acA:VR.bytes=8:=ID rfl
theorem ayV:qx VR=True:=eq_true rfl
theorem ayW:zc VR=[.v Value.nilFunc]:=ID rfl
theorem aV7{K:TI→Prop}:@tyW Tryz.prog 124 ⟨K⟩=K VQ:=qi aYs
theorem ayU:VQ.kd=Kd.oth:=ID rfl
theorem anz:VQ.kd.agg=false:=ID rfl
theorem ah7:VQ.size=1:=ID rfl
theorem acz:VQ.bytes=8:=ID rfl
theorem ayS:qx VQ=True:=eq_true rfl
theorem ayT:zc VQ=[.v Value.nilFunc]:=ID rfl
theorem aV6{K:TI→Prop}:@tyW Tryz.prog 125 ⟨K⟩=K VP:=qi aYr
theorem ayR:VP.kd=Kd.oth:=ID rfl
theorem anx:VP.kd.agg=false:=ID rfl
theorem ah6:VP.size=1:=ID rfl
theorem acy:VP.bytes=8:=ID rfl
theorem ayP:qx VP=True:=eq_true rfl
theorem ayQ:zc VP=[.v Value.nilFunc]:=ID rfl
theorem aV5{K:TI→Prop}:@tyW Tryz.prog 126 ⟨K⟩=K VO:=qi aYq
theorem ayO:VO.kd=Kd.oth:=ID rfl
theorem anw:VO.kd.agg=false:=ID rfl
theorem ah5:VO.size=1:=ID rfl
theorem acx:VO.bytes=8:=ID rfl
theorem ayM:qx VO=True:=eq_true rfl
theorem ayN:zc VO=[.v Value.nilFunc]:=ID rfl
theorem aV4{K:TI→Prop}:@tyW Tryz.prog 127 ⟨K⟩=K VN:=qi aYp
theorem ayL:VN.kd=Kd.oth:=ID rfl
theorem anv:VN.kd.agg=false:=ID rfl
theorem ah4:VN.size=1:=ID rfl
theorem acw:VN.bytes=8:=ID rfl
theorem ayJ:qx VN=True:=eq_true rfl
theorem ayK:zc VN=[.v Value.nilFunc]:=ID rfl
theorem aV3{K:TI→Prop}:@tyW Tryz.prog 128 ⟨K⟩=K VM:=qi aYo
theorem ayI:VM.kd=Kd.oth:=ID rfl
theorem anu:VM.kd.agg=false:=ID rfl
theorem ah3:VM.size=1:=ID rfl
theorem acv:VM.bytes=8:=ID rfl
theorem ayG:qx VM=True:=eq_true rfl
theorem ayH:zc VM=[.v Value.nilFunc]:=ID rfl
theorem aV2{K:TI→Prop}:@tyW Tryz.prog 129 ⟨K⟩=K VL:=qi aYn
theorem ayF:VL.kd=Kd.oth:=ID rfl
theorem ant:VL.kd.agg=false:=ID rfl
theorem ah2:VL.size=1:=ID rfl
theorem acu:VL.bytes=8:=ID rfl
theorem ayD:qx VL=True:=eq_true rfl
theorem ayE:zc VL=[.v Value.nilFunc]:=ID rfl
theorem aV1{K:TI→Prop}:@tyW Tryz.prog 130 ⟨K⟩=K VK:=qi aYm
theorem ayB:VK.kd=Kd.oth:=ID rfl
theorem anr:VK.kd.agg=false:=ID rfl
theorem ah0:VK.size=1:=ID rfl
theorem act:VK.bytes=8:=ID rfl
theorem ayz:qx VK=True:=eq_true rfl
theorem ayA:zc VK=[.v Value.nilFunc]:=ID rfl
theorem aV0{K:TI→Prop}:@tyW Tryz.prog 131 ⟨K⟩=K VJ:=qi aYl
theorem ayy:VJ.kd=Kd.oth:=ID rfl
theorem anq:VJ.kd.agg=false:=ID rfl
theorem ahZ:VJ.size=1:=ID rfl
theorem acs:VJ.bytes=8:=ID rfl
theorem ayw:qx VJ=True:=eq_true rfl
theorem ayx:zc VJ=[.v Value.nilFunc]:=ID rfl
theorem aVZ{K:TI→Prop}:@tyW Tryz.prog 132 ⟨K⟩=K VI:=qi aYk
theorem ayv:VI.kd=Kd.int IntKind.u64:=ID rfl
theorem anp:VI.kd.agg=false:=ID rfl
theorem ahY:VI.size=1:=ID rfl
theorem acr:VI.bytes=8:=ID rfl
theorem ayt:qx VI=True:=eq_true rfl
theorem ayu:zc VI=[.v (Value.int IntKind.u64 0)]:=ID rfl
theorem aVY{K:TI→Prop}:@tyW Tryz.prog 133 ⟨K⟩=K VH:=qi aYj
theorem ays:VH.kd=Kd.oth:=ID rfl
theorem ano:VH.kd.agg=false:=ID rfl
theorem ahX:VH.size=1:=ID rfl
theorem acq:VH.bytes=8:=ID rfl
theorem ayq:qx VH=True:=eq_true rfl
theorem ayr:zc VH=[.v Value.nilFunc]:=ID rfl
theorem aVX{K:TI→Prop}:@tyW Tryz.prog 135 ⟨K⟩=K VG:=qi aYi
theorem ayp:VG.kd=Kd.oth:=ID rfl
theorem ann:VG.kd.agg=false:=ID rfl
theorem ahW:VG.size=1:=ID rfl
theorem acp:VG.bytes=8:=ID rfl
theorem ayn:qx VG=True:=eq_true rfl
theorem ayo:zc VG=[.v Value.nilFunc]:=ID rfl
theorem aVW{K:TI→Prop}:@tyW Tryz.prog 136 ⟨K⟩=K VF:=qi aYh
theorem aym:VF.kd=Kd.oth:=ID rfl
theorem anm:VF.kd.agg=false:=ID rfl
theorem ahV:VF.size=1:=ID rfl
theorem aco:VF.bytes=8:=ID rfl
theorem ayk:qx VF=True:=eq_true rfl
theorem ayl:zc VF=[.v Value.nilFunc]:=ID rfl
theorem aVV{K:TI→Prop}:@tyW Tryz.prog 137 ⟨K⟩=K VE:=qi aYg
theorem ayj:VE.kd=Kd.oth:=ID rfl
theorem anl:VE.kd.agg=false:=ID rfl
theorem ahU:VE.size=1:=ID rfl
theorem acn:VE.bytes=8:=ID rfl
theorem ayh:qx VE=True:=eq_true rfl
theorem ayi:zc VE=[.v Value.nilFunc]:=ID rfl
theorem aVU{K:TI→Prop}:@tyW Tryz.prog 138 ⟨K⟩=K VD:=qi aYf
theorem ayg:VD.kd=Kd.oth:=ID rfl
theorem ank:VD.kd.agg=false:=ID rfl
theorem ahT:VD.size=1:=ID rfl
theorem acm:VD.bytes=8:=ID rfl
theorem aye:qx VD=True:=eq_true rfl
theorem ayf:zc VD=[.v Value.nilFunc]:=ID rfl
theorem aVT{K:TI→Prop}:@tyW Tryz.prog 139 ⟨K⟩=K VC:=qi aYe
theorem ayd:VC.kd=Kd.oth:=ID rfl
theorem anj:VC.kd.agg=false:=ID rfl
theorem ahS:VC.size=1:=ID rfl
theorem acl:VC.bytes=8:=ID rfl
theorem ayb:qx VC=True:=eq_true rfl
theorem ayc:zc VC=[.v Value.nilFunc]:=ID rfl
theorem aVS{K:TI→Prop}:@tyW Tryz.prog 140 ⟨K⟩=K VB:=qi aYd
theorem aya:VB.kd=Kd.oth:=ID rfl
theorem ani:VB.kd.agg=false:=ID rfl
theorem ahR:VB.size=1:=ID rfl
theorem ack:VB.bytes=8:=ID rfl
theorem ax8:qx VB=True:=eq_true rfl
theorem ax9:zc VB=[.v Value.nilFunc]:=ID rfl
theorem aVR{K:TI→Prop}:@tyW Tryz.prog 141 ⟨K⟩=K VA:=qi aYc
theorem ax7:VA.kd=Kd.oth:=ID rfl
theorem anh:VA.kd.agg=false:=ID rfl
theorem ahQ:VA.size=1:=ID rfl
theorem acj:VA.bytes=8:=ID rfl
theorem ax5:qx VA=True:=eq_true rfl
theorem ax6:zc VA=[.v Value.nilFunc]:=ID rfl
theorem aVQ{K:TI→Prop}:@tyW Tryz.prog 142 ⟨K⟩=K QQ:=qi an1
theorem ax4:QQ.kd=Kd.stru [(0,22),(1,3),(2,3)]:=ID rfl
theorem ang:QQ.kd.agg=true:=ID rfl
theorem ahP:QQ.size=3:=ID rfl
theorem aci:QQ.bytes=40:=ID rfl
theorem ax2:qx QQ=True:=eq_true rfl
theorem ax3:zc QQ=[.v (Value.slice none 0 0),.v (Value.int IntKind.i64 0),.v (Value.int IntKind.i64 0)]:=ID rfl
theorem aBW{K:Nat→TI→Prop}:@qy Tryz.prog 142 0 ⟨K⟩=K 0 aei:=qr (ti:=QQ) (tf:=aei) (fo:=(0,22)) (fs:=[(0,22),(1,3),(2,3)]) an1 rfl rfl aDZ
theorem aI1{K:Nat→Nat→Prop}:qs Tryz.prog [(0,22),(1,3),(2,3)] 0 K=K 0 1:=qq (tf:=aei) (fo:=(0,22)) (fs:=[(0,22),(1,3),(2,3)]) rfl aDZ
theorem aBV{K:Nat→TI→Prop}:@qy Tryz.prog 142 1 ⟨K⟩=K 1 ti3:=qr (ti:=QQ) (tf:=ti3) (fo:=(1,3)) (fs:=[(0,22),(1,3),(2,3)]) an1 rfl rfl tf3
theorem aI0{K:Nat→Nat→Prop}:qs Tryz.prog [(0,22),(1,3),(2,3)] 1 K=K 1 1:=qq (tf:=ti3) (fo:=(1,3)) (fs:=[(0,22),(1,3),(2,3)]) rfl tf3
theorem aBU{K:Nat→TI→Prop}:@qy Tryz.prog 142 2 ⟨K⟩=K 2 ti3:=qr (ti:=QQ) (tf:=ti3) (fo:=(2,3)) (fs:=[(0,22),(1,3),(2,3)]) an1 rfl rfl tf3
theorem aIZ{K:Nat→Nat→Prop}:qs Tryz.prog [(0,22),(1,3),(2,3)] 2 K=K 2 1:=qq (tf:=ti3) (fo:=(2,3)) (fs:=[(0,22),(1,3),(2,3)]) rfl tf3
theorem aKs:∀f∈([(0,22),(1,3),(2,3)]:List (Nat×Nat)),(qo Tryz.prog f.2).isSome=true:=by
 intro f hf
 simp only[List.mem_cons,List.not_mem_nil,or_false]at hf
 rcases hf with rfl|rfl|rfl
 ·rw[aDZ];rfl
 ·rw[tf3];rfl
 ·rw[tf3];rfl
theorem aTn{ps:List (Nat×AV)}{K:AV→Prop}:@zb Tryz.prog 142 ps ⟨K⟩=@zd (qs Tryz.prog [(0,22),(1,3),(2,3)]) (zc QQ) ps ⟨fun cs=>K (.ag cs)⟩:=qH an1 rfl aKs
theorem aVP{K:TI→Prop}:@tyW Tryz.prog 143 ⟨K⟩=K QP:=qi an0
theorem ax1:QP.kd=Kd.stru [(0,22),(1,3),(2,3)]:=ID rfl
theorem anf:QP.kd.agg=true:=ID rfl
theorem ahO:QP.size=3:=ID rfl
theorem ach:QP.bytes=40:=ID rfl
theorem axZ:qx QP=True:=eq_true rfl
theorem ax0:zc QP=[.v (Value.slice none 0 0),.v (Value.int IntKind.i64 0),.v (Value.int IntKind.i64 0)]:=ID rfl
theorem aBT{K:Nat→TI→Prop}:@qy Tryz.prog 143 0 ⟨K⟩=K 0 aei:=qr (ti:=QP) (tf:=aei) (fo:=(0,22)) (fs:=[(0,22),(1,3),(2,3)]) an0 rfl rfl aDZ
theorem aIY{K:Nat→Nat→Prop}:qs Tryz.prog [(0,22),(1,3),(2,3)] 0 K=K 0 1:=qq (tf:=aei) (fo:=(0,22)) (fs:=[(0,22),(1,3),(2,3)]) rfl aDZ
theorem aBS{K:Nat→TI→Prop}:@qy Tryz.prog 143 1 ⟨K⟩=K 1 ti3:=qr (ti:=QP) (tf:=ti3) (fo:=(1,3)) (fs:=[(0,22),(1,3),(2,3)]) an0 rfl rfl tf3
theorem aIX{K:Nat→Nat→Prop}:qs Tryz.prog [(0,22),(1,3),(2,3)] 1 K=K 1 1:=qq (tf:=ti3) (fo:=(1,3)) (fs:=[(0,22),(1,3),(2,3)]) rfl tf3
theorem aBR{K:Nat→TI→Prop}:@qy Tryz.prog 143 2 ⟨K⟩=K 2 ti3:=qr (ti:=QP) (tf:=ti3) (fo:=(2,3)) (fs:=[(0,22),(1,3),(2,3)]) an0 rfl rfl tf3
theorem aIW{K:Nat→Nat→Prop}:qs Tryz.prog [(0,22),(1,3),(2,3)] 2 K=K 2 1:=qq (tf:=ti3) (fo:=(2,3)) (fs:=[(0,22),(1,3),(2,3)]) rfl tf3
theorem aKr:∀f∈([(0,22),(1,3),(2,3)]:List (Nat×Nat)),(qo Tryz.prog f.2).isSome=true:=by
 intro f hf
 simp only[List.mem_cons,List.not_mem_nil,or_false]at hf
 rcases hf with rfl|rfl|rfl
 ·rw[aDZ];rfl
 ·rw[tf3];rfl
 ·rw[tf3];rfl
theorem aTm{ps:List (Nat×AV)}{K:AV→Prop}:@zb Tryz.prog 143 ps ⟨K⟩=@zd (qs Tryz.prog [(0,22),(1,3),(2,3)]) (zc QP) ps ⟨fun cs=>K (.ag cs)⟩:=qH an0 rfl aKr
theorem aVO{K:TI→Prop}:@tyW Tryz.prog 144 ⟨K⟩=K Vz:=qi aYb
theorem axY:Vz.kd=Kd.oth:=ID rfl
theorem ane:Vz.kd.agg=false:=ID rfl
theorem ahN:Vz.size=1:=ID rfl
theorem acg:Vz.bytes=8:=ID rfl
theorem axW:qx Vz=True:=eq_true rfl
theorem axX:zc Vz=[.v Value.nilFunc]:=ID rfl
theorem aVN{K:TI→Prop}:@tyW Tryz.prog 145 ⟨K⟩=K Vy:=qi aYa
theorem axV:Vy.kd=Kd.oth:=ID rfl
theorem anc:Vy.kd.agg=false:=ID rfl
theorem ahM:Vy.size=1:=ID rfl
theorem acf:Vy.bytes=8:=ID rfl
theorem axT:qx Vy=True:=eq_true rfl
theorem axU:zc Vy=[.v Value.nilFunc]:=ID rfl
theorem aVM{K:TI→Prop}:@tyW Tryz.prog 146 ⟨K⟩=K Vx:=qi aX9
theorem axS:Vx.kd=Kd.oth:=ID rfl
theorem anb:Vx.kd.agg=false:=ID rfl
theorem ahL:Vx.size=1:=ID rfl
theorem ace:Vx.bytes=8:=ID rfl
theorem axQ:qx Vx=True:=eq_true rfl
theorem axR:zc Vx=[.v Value.nilFunc]:=ID rfl
theorem aVL{K:TI→Prop}:@tyW Tryz.prog 147 ⟨K⟩=K Vw:=qi aX8
theorem axP:Vw.kd=Kd.oth:=ID rfl
theorem ana:Vw.kd.agg=false:=ID rfl
theorem ahK:Vw.size=1:=ID rfl
theorem acd:Vw.bytes=8:=ID rfl
theorem axN:qx Vw=True:=eq_true rfl
theorem axO:zc Vw=[.v Value.nilFunc]:=ID rfl
theorem aVK{K:TI→Prop}:@tyW Tryz.prog 148 ⟨K⟩=K Vv:=qi aX7
theorem axM:Vv.kd=Kd.oth:=ID rfl
theorem am9:Vv.kd.agg=false:=ID rfl
theorem ahJ:Vv.size=1:=ID rfl
theorem acb:Vv.bytes=8:=ID rfl
theorem axK:qx Vv=True:=eq_true rfl
theorem axL:zc Vv=[.v Value.nilFunc]:=ID rfl
theorem aVJ{K:TI→Prop}:@tyW Tryz.prog 150 ⟨K⟩=K Vu:=qi aX6
theorem axJ:Vu.kd=Kd.oth:=ID rfl
theorem am8:Vu.kd.agg=false:=ID rfl
theorem ahI:Vu.size=1:=ID rfl
theorem aca:Vu.bytes=8:=ID rfl
theorem axH:qx Vu=True:=eq_true rfl
theorem axI:zc Vu=[.v Value.nilFunc]:=ID rfl
theorem aVI{K:TI→Prop}:@tyW Tryz.prog 152 ⟨K⟩=K Vt:=qi aX5
theorem axG:Vt.kd=Kd.oth:=ID rfl
theorem am7:Vt.kd.agg=false:=ID rfl
theorem ahH:Vt.size=1:=ID rfl
theorem ab9:Vt.bytes=8:=ID rfl
theorem axE:qx Vt=True:=eq_true rfl
theorem axF:zc Vt=[.v Value.nilFunc]:=ID rfl
theorem aVH{K:TI→Prop}:@tyW Tryz.prog 153 ⟨K⟩=K Vs:=qi aX4
theorem axD:Vs.kd=Kd.oth:=ID rfl
theorem am6:Vs.kd.agg=false:=ID rfl
theorem ahG:Vs.size=1:=ID rfl
theorem ab8:Vs.bytes=8:=ID rfl
theorem axB:qx Vs=True:=eq_true rfl
theorem axC:zc Vs=[.v Value.nilFunc]:=ID rfl
theorem aVG{K:TI→Prop}:@tyW Tryz.prog 154 ⟨K⟩=K Vr:=qi aX3
theorem axA:Vr.kd=Kd.oth:=ID rfl
theorem am5:Vr.kd.agg=false:=ID rfl
theorem ahF:Vr.size=1:=ID rfl
theorem ab7:Vr.bytes=8:=ID rfl
theorem axy:qx Vr=True:=eq_true rfl
theorem axz:zc Vr=[.v Value.nilFunc]:=ID rfl
theorem aVF{K:TI→Prop}:@tyW Tryz.prog 155 ⟨K⟩=K yR:=qi Kb
theorem axx:yR.kd=Kd.sli 111:=ID rfl
theorem am4:yR.kd.agg=false:=ID rfl
theorem ahE:yR.size=1:=ID rfl
theorem ab6:yR.bytes=24:=ID rfl
theorem axv:qx yR=True:=eq_true rfl
theorem axw:zc yR=[.v (Value.slice none 0 0)]:=ID rfl
theorem aNF{K:TI→Prop}:@yw Tryz.prog 155 ⟨K⟩=K QR:=QE Kb rfl an2
theorem aVE{K:TI→Prop}:@tyW Tryz.prog 156 ⟨K⟩=K Zg:=qi aAa
theorem axu:Zg.kd=Kd.stru [(0,3),(1,155)]:=ID rfl
theorem am3:Zg.kd.agg=true:=ID rfl
theorem ahD:Zg.size=2:=ID rfl
theorem ab5:Zg.bytes=32:=ID rfl
theorem axs:qx Zg=True:=eq_true rfl
theorem axt:zc Zg=[.v (Value.int IntKind.i64 0),.v (Value.slice none 0 0)]:=ID rfl
theorem aBQ{K:Nat→TI→Prop}:@qy Tryz.prog 156 0 ⟨K⟩=K 0 ti3:=qr (ti:=Zg) (tf:=ti3) (fo:=(0,3)) (fs:=[(0,3),(1,155)]) aAa rfl rfl tf3
theorem aIV{K:Nat→Nat→Prop}:qs Tryz.prog [(0,3),(1,155)] 0 K=K 0 1:=qq (tf:=ti3) (fo:=(0,3)) (fs:=[(0,3),(1,155)]) rfl tf3
theorem aBP{K:Nat→TI→Prop}:@qy Tryz.prog 156 1 ⟨K⟩=K 1 yR:=qr (ti:=Zg) (tf:=yR) (fo:=(1,155)) (fs:=[(0,3),(1,155)]) aAa rfl rfl Kb
theorem aIU{K:Nat→Nat→Prop}:qs Tryz.prog [(0,3),(1,155)] 1 K=K 1 1:=qq (tf:=yR) (fo:=(1,155)) (fs:=[(0,3),(1,155)]) rfl Kb
theorem aKq:∀f∈([(0,3),(1,155)]:List (Nat×Nat)),(qo Tryz.prog f.2).isSome=true:=by
 intro f hf
 simp only[List.mem_cons,List.not_mem_nil,or_false]at hf
 rcases hf with rfl|rfl
 ·rw[tf3];rfl
 ·rw[Kb];rfl
theorem aTl{ps:List (Nat×AV)}{K:AV→Prop}:@zb Tryz.prog 156 ps ⟨K⟩=@zd (qs Tryz.prog [(0,3),(1,155)]) (zc Zg) ps ⟨fun cs=>K (.ag cs)⟩:=qH aAa rfl aKq
theorem aVD{K:TI→Prop}:@tyW Tryz.prog 157 ⟨K⟩=K Zf:=qi az9
theorem axr:Zf.kd=Kd.stru [(0,3),(1,155)]:=ID rfl
theorem am2:Zf.kd.agg=true:=ID rfl
theorem ahC:Zf.size=2:=ID rfl
theorem ab4:Zf.bytes=32:=ID rfl
theorem axp:qx Zf=True:=eq_true rfl
theorem axq:zc Zf=[.v (Value.int IntKind.i64 0),.v (Value.slice none 0 0)]:=ID rfl
theorem aBO{K:Nat→TI→Prop}:@qy Tryz.prog 157 0 ⟨K⟩=K 0 ti3:=qr (ti:=Zf) (tf:=ti3) (fo:=(0,3)) (fs:=[(0,3),(1,155)]) az9 rfl rfl tf3
theorem aIT{K:Nat→Nat→Prop}:qs Tryz.prog [(0,3),(1,155)] 0 K=K 0 1:=qq (tf:=ti3) (fo:=(0,3)) (fs:=[(0,3),(1,155)]) rfl tf3
theorem aBN{K:Nat→TI→Prop}:@qy Tryz.prog 157 1 ⟨K⟩=K 1 yR:=qr (ti:=Zf) (tf:=yR) (fo:=(1,155)) (fs:=[(0,3),(1,155)]) az9 rfl rfl Kb
theorem aIS{K:Nat→Nat→Prop}:qs Tryz.prog [(0,3),(1,155)] 1 K=K 1 1:=qq (tf:=yR) (fo:=(1,155)) (fs:=[(0,3),(1,155)]) rfl Kb
theorem aKp:∀f∈([(0,3),(1,155)]:List (Nat×Nat)),(qo Tryz.prog f.2).isSome=true:=by
 intro f hf
 simp only[List.mem_cons,List.not_mem_nil,or_false]at hf
 rcases hf with rfl|rfl
 ·rw[tf3];rfl
 ·rw[Kb];rfl
theorem aTk{ps:List (Nat×AV)}{K:AV→Prop}:@zb Tryz.prog 157 ps ⟨K⟩=@zd (qs Tryz.prog [(0,3),(1,155)]) (zc Zf) ps ⟨fun cs=>K (.ag cs)⟩:=qH az9 rfl aKp
theorem aVC{K:TI→Prop}:@tyW Tryz.prog 158 ⟨K⟩=K Vq:=qi aX2
theorem axo:Vq.kd=Kd.oth:=ID rfl
theorem am1:Vq.kd.agg=false:=ID rfl
theorem ahB:Vq.size=1:=ID rfl
theorem ab3:Vq.bytes=8:=ID rfl
theorem axm:qx Vq=True:=eq_true rfl
theorem axn:zc Vq=[.v Value.nilFunc]:=ID rfl
theorem aVB{K:TI→Prop}:@tyW Tryz.prog 159 ⟨K⟩=K yQ:=qi Ka
theorem axl:yQ.kd=Kd.sli 50:=ID rfl
theorem am0:yQ.kd.agg=false:=ID rfl
theorem ahA:yQ.size=1:=ID rfl
theorem ab2:yQ.bytes=24:=ID rfl
theorem axj:qx yQ=True:=eq_true rfl
theorem axk:zc yQ=[.v (Value.slice none 0 0)]:=ID rfl
theorem aNE{K:TI→Prop}:@yw Tryz.prog 159 ⟨K⟩=K ajU:=QE Ka rfl aNi
theorem aVA{K:TI→Prop}:@tyW Tryz.prog 160 ⟨K⟩=K Ze:=qi az8
theorem axi:Ze.kd=Kd.stru [(0,3),(1,159)]:=ID rfl
theorem amZ:Ze.kd.agg=true:=ID rfl
theorem ahz:Ze.size=2:=ID rfl
theorem ab1:Ze.bytes=32:=ID rfl
theorem axg:qx Ze=True:=eq_true rfl
theorem axh:zc Ze=[.v (Value.int IntKind.i64 0),.v (Value.slice none 0 0)]:=ID rfl
theorem aBM{K:Nat→TI→Prop}:@qy Tryz.prog 160 0 ⟨K⟩=K 0 ti3:=qr (ti:=Ze) (tf:=ti3) (fo:=(0,3)) (fs:=[(0,3),(1,159)]) az8 rfl rfl tf3
theorem aIR{K:Nat→Nat→Prop}:qs Tryz.prog [(0,3),(1,159)] 0 K=K 0 1:=qq (tf:=ti3) (fo:=(0,3)) (fs:=[(0,3),(1,159)]) rfl tf3
theorem aBL{K:Nat→TI→Prop}:@qy Tryz.prog 160 1 ⟨K⟩=K 1 yQ:=qr (ti:=Ze) (tf:=yQ) (fo:=(1,159)) (fs:=[(0,3),(1,159)]) az8 rfl rfl Ka
theorem aIQ{K:Nat→Nat→Prop}:qs Tryz.prog [(0,3),(1,159)] 1 K=K 1 1:=qq (tf:=yQ) (fo:=(1,159)) (fs:=[(0,3),(1,159)]) rfl Ka
theorem aKo:∀f∈([(0,3),(1,159)]:List (Nat×Nat)),(qo Tryz.prog f.2).isSome=true:=by
 intro f hf
 simp only[List.mem_cons,List.not_mem_nil,or_false]at hf
 rcases hf with rfl|rfl
 ·rw[tf3];rfl
 ·rw[Ka];rfl
theorem aTj{ps:List (Nat×AV)}{K:AV→Prop}:@zb Tryz.prog 160 ps ⟨K⟩=@zd (qs Tryz.prog [(0,3),(1,159)]) (zc Ze) ps ⟨fun cs=>K (.ag cs)⟩:=qH az8 rfl aKo
theorem aVz{K:TI→Prop}:@tyW Tryz.prog 161 ⟨K⟩=K Zd:=qi az7
theorem axf:Zd.kd=Kd.stru [(0,3),(1,159)]:=ID rfl
theorem amY:Zd.kd.agg=true:=ID rfl
theorem ahy:Zd.size=2:=ID rfl
theorem ab0:Zd.bytes=32:=ID rfl
theorem axd:qx Zd=True:=eq_true rfl
theorem axe:zc Zd=[.v (Value.int IntKind.i64 0),.v (Value.slice none 0 0)]:=ID rfl
theorem aBK{K:Nat→TI→Prop}:@qy Tryz.prog 161 0 ⟨K⟩=K 0 ti3:=qr (ti:=Zd) (tf:=ti3) (fo:=(0,3)) (fs:=[(0,3),(1,159)]) az7 rfl rfl tf3
theorem aIP{K:Nat→Nat→Prop}:qs Tryz.prog [(0,3),(1,159)] 0 K=K 0 1:=qq (tf:=ti3) (fo:=(0,3)) (fs:=[(0,3),(1,159)]) rfl tf3
theorem aBJ{K:Nat→TI→Prop}:@qy Tryz.prog 161 1 ⟨K⟩=K 1 yQ:=qr (ti:=Zd) (tf:=yQ) (fo:=(1,159)) (fs:=[(0,3),(1,159)]) az7 rfl rfl Ka
theorem aIO{K:Nat→Nat→Prop}:qs Tryz.prog [(0,3),(1,159)] 1 K=K 1 1:=qq (tf:=yQ) (fo:=(1,159)) (fs:=[(0,3),(1,159)]) rfl Ka
theorem aKn:∀f∈([(0,3),(1,159)]:List (Nat×Nat)),(qo Tryz.prog f.2).isSome=true:=by
 intro f hf
 simp only[List.mem_cons,List.not_mem_nil,or_false]at hf
 rcases hf with rfl|rfl
 ·rw[tf3];rfl
 ·rw[Ka];rfl
theorem aTi{ps:List (Nat×AV)}{K:AV→Prop}:@zb Tryz.prog 161 ps ⟨K⟩=@zd (qs Tryz.prog [(0,3),(1,159)]) (zc Zd) ps ⟨fun cs=>K (.ag cs)⟩:=qH az7 rfl aKn
theorem aVy{K:TI→Prop}:@tyW Tryz.prog 163 ⟨K⟩=K Vp:=qi aX1
theorem axc:Vp.kd=Kd.oth:=ID rfl
theorem amX:Vp.kd.agg=false:=ID rfl
theorem ahx:Vp.size=1:=ID rfl
theorem abZ:Vp.bytes=8:=ID rfl
theorem axa:qx Vp=True:=eq_true rfl
theorem axb:zc Vp=[.v Value.nilFunc]:=ID rfl
theorem aVx{K:TI→Prop}:@tyW Tryz.prog 164 ⟨K⟩=K Vo:=qi aX0
theorem aw9:Vo.kd=Kd.oth:=ID rfl
theorem amW:Vo.kd.agg=false:=ID rfl
theorem ahw:Vo.size=1:=ID rfl
theorem abY:Vo.bytes=8:=ID rfl
theorem aw7:qx Vo=True:=eq_true rfl
theorem aw8:zc Vo=[.v Value.nilFunc]:=ID rfl
theorem aVw{K:TI→Prop}:@tyW Tryz.prog 165 ⟨K⟩=K Vn:=qi aXZ
theorem aw6:Vn.kd=Kd.oth:=ID rfl
theorem amV:Vn.kd.agg=false:=ID rfl
theorem ahv:Vn.size=1:=ID rfl
theorem abX:Vn.bytes=8:=ID rfl
theorem aw4:qx Vn=True:=eq_true rfl
theorem aw5:zc Vn=[.v Value.nilFunc]:=ID rfl
theorem aVv{K:TI→Prop}:@tyW Tryz.prog 166 ⟨K⟩=K Vm:=qi aXY
theorem aw3:Vm.kd=Kd.oth:=ID rfl
theorem amU:Vm.kd.agg=false:=ID rfl
theorem ahu:Vm.size=1:=ID rfl
theorem abW:Vm.bytes=8:=ID rfl
theorem aw1:qx Vm=True:=eq_true rfl
theorem aw2:zc Vm=[.v Value.nilFunc]:=ID rfl
theorem aVu{K:TI→Prop}:@tyW Tryz.prog 167 ⟨K⟩=K Vl:=qi aXX
theorem aw0:Vl.kd=Kd.oth:=ID rfl
theorem amT:Vl.kd.agg=false:=ID rfl
theorem aht:Vl.size=1:=ID rfl
theorem abV:Vl.bytes=8:=ID rfl
theorem awY:qx Vl=True:=eq_true rfl
theorem awZ:zc Vl=[.v Value.nilFunc]:=ID rfl
theorem aVt{K:TI→Prop}:@tyW Tryz.prog 169 ⟨K⟩=K Vk:=qi aXW
theorem awX:Vk.kd=Kd.oth:=ID rfl
theorem amS:Vk.kd.agg=false:=ID rfl
theorem ahs:Vk.size=1:=ID rfl
theorem abU:Vk.bytes=8:=ID rfl
theorem awU:qx Vk=True:=eq_true rfl
theorem awW:zc Vk=[.v Value.nilFunc]:=ID rfl
theorem aVs{K:TI→Prop}:@tyW Tryz.prog 170 ⟨K⟩=K Vj:=qi aXV
theorem awT:Vj.kd=Kd.oth:=ID rfl
theorem amR:Vj.kd.agg=false:=ID rfl
theorem ahr:Vj.size=1:=ID rfl
theorem abT:Vj.bytes=8:=ID rfl
theorem awR:qx Vj=True:=eq_true rfl
theorem awS:zc Vj=[.v Value.nilFunc]:=ID rfl
theorem aVr{K:TI→Prop}:@tyW Tryz.prog 171 ⟨K⟩=K Vi:=qi aXU
theorem awQ:Vi.kd=Kd.oth:=ID rfl
theorem amQ:Vi.kd.agg=false:=ID rfl
theorem ahq:Vi.size=1:=ID rfl
theorem abS:Vi.bytes=8:=ID rfl
theorem awO:qx Vi=True:=eq_true rfl
theorem awP:zc Vi=[.v Value.nilFunc]:=ID rfl
theorem aVq{K:TI→Prop}:@tyW Tryz.prog 172 ⟨K⟩=K Vh:=qi aXT
theorem awN:Vh.kd=Kd.oth:=ID rfl
theorem amP:Vh.kd.agg=false:=ID rfl
theorem ahp:Vh.size=1:=ID rfl
theorem abR:Vh.bytes=8:=ID rfl
theorem awL:qx Vh=True:=eq_true rfl
theorem awM:zc Vh=[.v Value.nilFunc]:=ID rfl
theorem aVp{K:TI→Prop}:@tyW Tryz.prog 173 ⟨K⟩=K Vg:=qi aXS
theorem awK:Vg.kd=Kd.oth:=ID rfl
theorem amO:Vg.kd.agg=false:=ID rfl
theorem aho:Vg.size=1:=ID rfl
theorem abQ:Vg.bytes=8:=ID rfl
theorem awI:qx Vg=True:=eq_true rfl
theorem awJ:zc Vg=[.v Value.nilFunc]:=ID rfl
theorem aVo{K:TI→Prop}:@tyW Tryz.prog 174 ⟨K⟩=K Vf:=qi aXR
theorem awH:Vf.kd=Kd.oth:=ID rfl
theorem amN:Vf.kd.agg=false:=ID rfl
theorem ahn:Vf.size=1:=ID rfl
theorem abP:Vf.bytes=8:=ID rfl
theorem awF:qx Vf=True:=eq_true rfl
theorem awG:zc Vf=[.v Value.nilFunc]:=ID rfl
theorem aVn{K:TI→Prop}:@tyW Tryz.prog 176 ⟨K⟩=K Ve:=qi aXQ
theorem awE:Ve.kd=Kd.oth:=ID rfl
theorem amM:Ve.kd.agg=false:=ID rfl
theorem ahm:Ve.size=1:=ID rfl
theorem abO:Ve.bytes=8:=ID rfl
theorem awC:qx Ve=True:=eq_true rfl
theorem awD:zc Ve=[.v Value.nilFunc]:=ID rfl
theorem aVm{K:TI→Prop}:@tyW Tryz.prog 177 ⟨K⟩=K Vd:=qi aXP
theorem awB:Vd.kd=Kd.oth:=ID rfl
theorem amL:Vd.kd.agg=false:=ID rfl
theorem ahl:Vd.size=1:=ID rfl
theorem abN:Vd.bytes=8:=ID rfl
theorem awz:qx Vd=True:=eq_true rfl
theorem awA:zc Vd=[.v Value.nilFunc]:=ID rfl
theorem aVl{K:TI→Prop}:@tyW Tryz.prog 178 ⟨K⟩=K Vc:=qi aXO
theorem awy:Vc.kd=Kd.oth:=ID rfl
theorem amK:Vc.kd.agg=false:=ID rfl
theorem ahk:Vc.size=1:=ID rfl
theorem abM:Vc.bytes=8:=ID rfl
theorem aww:qx Vc=True:=eq_true rfl
theorem awx:zc Vc=[.v Value.nilFunc]:=ID rfl
theorem aVk{K:TI→Prop}:@tyW Tryz.prog 179 ⟨K⟩=K Vb:=qi aXN
theorem awv:Vb.kd=Kd.oth:=ID rfl
theorem amJ:Vb.kd.agg=false:=ID rfl
theorem ahj:Vb.size=1:=ID rfl
theorem abL:Vb.bytes=8:=ID rfl
theorem awt:qx Vb=True:=eq_true rfl
theorem awu:zc Vb=[.v Value.nilFunc]:=ID rfl
theorem aVj{K:TI→Prop}:@tyW Tryz.prog 180 ⟨K⟩=K Va:=qi aXM
theorem aws:Va.kd=Kd.oth:=ID rfl
theorem amI:Va.kd.agg=false:=ID rfl
theorem ahi:Va.size=1:=ID rfl
theorem abK:Va.bytes=8:=ID rfl
theorem awq:qx Va=True:=eq_true rfl
theorem awr:zc Va=[.v Value.nilFunc]:=ID rfl
theorem aVi{K:TI→Prop}:@tyW Tryz.prog 181 ⟨K⟩=K X9:=qi aXL
theorem awo:X9.kd=Kd.oth:=ID rfl
theorem amH:X9.kd.agg=false:=ID rfl
theorem ahh:X9.size=1:=ID rfl
theorem abJ:X9.bytes=8:=ID rfl
theorem awm:qx X9=True:=eq_true rfl
theorem awn:zc X9=[.v Value.nilFunc]:=ID rfl
theorem aVh{K:TI→Prop}:@tyW Tryz.prog 183 ⟨K⟩=K X8:=qi aXK
theorem awl:X8.kd=Kd.oth:=ID rfl
theorem amG:X8.kd.agg=false:=ID rfl
theorem ahg:X8.size=1:=ID rfl
theorem abI:X8.bytes=8:=ID rfl
theorem awj:qx X8=True:=eq_true rfl
theorem awk:zc X8=[.v Value.nilFunc]:=ID rfl
theorem aVg{K:TI→Prop}:@tyW Tryz.prog 184 ⟨K⟩=K X7:=qi aXJ
theorem awi:X7.kd=Kd.oth:=ID rfl
theorem amF:X7.kd.agg=false:=ID rfl
theorem ahf:X7.size=1:=ID rfl
theorem abH:X7.bytes=8:=ID rfl
theorem awg:qx X7=True:=eq_true rfl
theorem awh:zc X7=[.v Value.nilFunc]:=ID rfl
theorem aVf{K:TI→Prop}:@tyW Tryz.prog 185 ⟨K⟩=K X6:=qi aNk
theorem awf:X6.kd=Kd.sli 63:=ID rfl
theorem amE:X6.kd.agg=false:=ID rfl
theorem ahe:X6.size=1:=ID rfl
theorem abG:X6.bytes=24:=ID rfl
theorem awd:qx X6=True:=eq_true rfl
theorem awe:zc X6=[.v (Value.slice none 0 0)]:=ID rfl
theorem aND{K:TI→Prop}:@yw Tryz.prog 185 ⟨K⟩=K aeg:=QE aNk rfl aIe
theorem aVe{K:TI→Prop}:@tyW Tryz.prog 186 ⟨K⟩=K X5:=qi aXI
theorem awc:X5.kd=Kd.oth:=ID rfl
theorem amD:X5.kd.agg=false:=ID rfl
theorem ahd:X5.size=1:=ID rfl
theorem abF:X5.bytes=8:=ID rfl
theorem awa:qx X5=True:=eq_true rfl
theorem awb:zc X5=[.v Value.nilFunc]:=ID rfl
theorem aVd{K:TI→Prop}:@tyW Tryz.prog 187 ⟨K⟩=K X4:=qi aXH
theorem av9:X4.kd=Kd.oth:=ID rfl
theorem amC:X4.kd.agg=false:=ID rfl
theorem ahc:X4.size=1:=ID rfl
theorem abE:X4.bytes=8:=ID rfl
theorem av7:qx X4=True:=eq_true rfl
theorem av8:zc X4=[.v Value.nilFunc]:=ID rfl
theorem aVc{K:TI→Prop}:@tyW Tryz.prog 188 ⟨K⟩=K X3:=qi aXG
theorem av6:X3.kd=Kd.oth:=ID rfl
theorem amB:X3.kd.agg=false:=ID rfl
theorem ahb:X3.size=1:=ID rfl
theorem abD:X3.bytes=8:=ID rfl
theorem av4:qx X3=True:=eq_true rfl
theorem av5:zc X3=[.v Value.nilFunc]:=ID rfl
theorem aVb{K:TI→Prop}:@tyW Tryz.prog 189 ⟨K⟩=K X2:=qi aXF
theorem av3:X2.kd=Kd.oth:=ID rfl
theorem amA:X2.kd.agg=false:=ID rfl
theorem aha:X2.size=1:=ID rfl
theorem abC:X2.bytes=8:=ID rfl
theorem av1:qx X2=True:=eq_true rfl
theorem av2:zc X2=[.v Value.nilFunc]:=ID rfl
theorem aVa{K:TI→Prop}:@tyW Tryz.prog 190 ⟨K⟩=K X1:=qi aXE
theorem av0:X1.kd=Kd.oth:=ID rfl
theorem amz:X1.kd.agg=false:=ID rfl
theorem ag9:X1.size=1:=ID rfl
theorem abB:X1.bytes=8:=ID rfl
theorem avY:qx X1=True:=eq_true rfl
theorem avZ:zc X1=[.v Value.nilFunc]:=ID rfl
theorem aU9{K:TI→Prop}:@tyW Tryz.prog 191 ⟨K⟩=K X0:=qi aXD
theorem avX:X0.kd=Kd.oth:=ID rfl
theorem amy:X0.kd.agg=false:=ID rfl
theorem ag8:X0.size=1:=ID rfl
theorem abA:X0.bytes=8:=ID rfl
theorem avV:qx X0=True:=eq_true rfl
theorem avW:zc X0=[.v Value.nilFunc]:=ID rfl
theorem aU8{K:TI→Prop}:@tyW Tryz.prog 192 ⟨K⟩=K XZ:=qi aXC
theorem avU:XZ.kd=Kd.oth:=ID rfl
theorem amx:XZ.kd.agg=false:=ID rfl
theorem ag7:XZ.size=1:=ID rfl
theorem abz:XZ.bytes=8:=ID rfl
theorem avS:qx XZ=True:=eq_true rfl
theorem avT:zc XZ=[.v Value.nilFunc]:=ID rfl
theorem aU7{K:TI→Prop}:@tyW Tryz.prog 193 ⟨K⟩=K XY:=qi aXB
theorem avR:XY.kd=Kd.oth:=ID rfl
theorem amw:XY.kd.agg=false:=ID rfl
theorem ag6:XY.size=1:=ID rfl
theorem aby:XY.bytes=8:=ID rfl
theorem avP:qx XY=True:=eq_true rfl
theorem avQ:zc XY=[.v Value.nilFunc]:=ID rfl
theorem aU6{K:TI→Prop}:@tyW Tryz.prog 194 ⟨K⟩=K XX:=qi aXA
theorem avO:XX.kd=Kd.oth:=ID rfl
theorem amv:XX.kd.agg=false:=ID rfl
theorem ag5:XX.size=1:=ID rfl
theorem abx:XX.bytes=8:=ID rfl
theorem avM:qx XX=True:=eq_true rfl
theorem avN:zc XX=[.v Value.nilFunc]:=ID rfl
theorem aU5{K:TI→Prop}:@tyW Tryz.prog 195 ⟨K⟩=K XW:=qi aXz
theorem avL:XW.kd=Kd.oth:=ID rfl
theorem amu:XW.kd.agg=false:=ID rfl
theorem ag4:XW.size=1:=ID rfl
theorem abw:XW.bytes=8:=ID rfl
theorem avJ:qx XW=True:=eq_true rfl
theorem avK:zc XW=[.v Value.nilFunc]:=ID rfl
theorem aU4{K:TI→Prop}:@tyW Tryz.prog 196 ⟨K⟩=K XV:=qi aXy
theorem avI:XV.kd=Kd.oth:=ID rfl
theorem amt:XV.kd.agg=false:=ID rfl
theorem ag3:XV.size=1:=ID rfl
theorem abv:XV.bytes=8:=ID rfl
theorem avG:qx XV=True:=eq_true rfl
theorem avH:zc XV=[.v Value.nilFunc]:=ID rfl
theorem aU3{K:TI→Prop}:@tyW Tryz.prog 197 ⟨K⟩=K XU:=qi aXx
theorem avF:XU.kd=Kd.oth:=ID rfl
theorem ams:XU.kd.agg=false:=ID rfl
theorem ag2:XU.size=1:=ID rfl
theorem abu:XU.bytes=8:=ID rfl
theorem avD:qx XU=True:=eq_true rfl
theorem avE:zc XU=[.v Value.nilFunc]:=ID rfl
theorem aU2{K:TI→Prop}:@tyW Tryz.prog 198 ⟨K⟩=K XT:=qi aXw
theorem avC:XT.kd=Kd.oth:=ID rfl
theorem amr:XT.kd.agg=false:=ID rfl
theorem ag1:XT.size=1:=ID rfl
theorem abt:XT.bytes=8:=ID rfl
theorem avA:qx XT=True:=eq_true rfl
theorem avB:zc XT=[.v Value.nilFunc]:=ID rfl
theorem aU1{K:TI→Prop}:@tyW Tryz.prog 199 ⟨K⟩=K XS:=qi aXv
theorem avz:XS.kd=Kd.oth:=ID rfl
theorem amq:XS.kd.agg=false:=ID rfl
theorem ag0:XS.size=1:=ID rfl
theorem abr:XS.bytes=8:=ID rfl
theorem avx:qx XS=True:=eq_true rfl
theorem avy:zc XS=[.v Value.nilFunc]:=ID rfl
theorem aU0{K:TI→Prop}:@tyW Tryz.prog 200 ⟨K⟩=K XR:=qi aXu
theorem avv:XR.kd=Kd.oth:=ID rfl
theorem amo:XR.kd.agg=false:=ID rfl
theorem agZ:XR.size=1:=ID rfl
theorem abq:XR.bytes=8:=ID rfl
theorem avt:qx XR=True:=eq_true rfl
theorem avu:zc XR=[.v Value.nilFunc]:=ID rfl
theorem aUZ{K:TI→Prop}:@tyW Tryz.prog 201 ⟨K⟩=K XQ:=qi aXt
theorem avs:XQ.kd=Kd.oth:=ID rfl
theorem amn:XQ.kd.agg=false:=ID rfl
theorem agY:XQ.size=1:=ID rfl
theorem abp:XQ.bytes=8:=ID rfl
theorem avq:qx XQ=True:=eq_true rfl
theorem avr:zc XQ=[.v Value.nilFunc]:=ID rfl
theorem aUY{K:TI→Prop}:@tyW Tryz.prog 202 ⟨K⟩=K XP:=qi aXs
theorem avp:XP.kd=Kd.oth:=ID rfl
theorem amm:XP.kd.agg=false:=ID rfl
theorem agX:XP.size=1:=ID rfl
theorem abo:XP.bytes=8:=ID rfl
theorem avn:qx XP=True:=eq_true rfl
theorem avo:zc XP=[.v Value.nilFunc]:=ID rfl
theorem aUX{K:TI→Prop}:@tyW Tryz.prog 203 ⟨K⟩=K XO:=qi aXr
theorem avm:XO.kd=Kd.oth:=ID rfl
theorem aml:XO.kd.agg=false:=ID rfl
theorem agW:XO.size=1:=ID rfl
theorem abn:XO.bytes=8:=ID rfl
theorem avk:qx XO=True:=eq_true rfl
theorem avl:zc XO=[.v Value.nilFunc]:=ID rfl
theorem aUW{K:TI→Prop}:@tyW Tryz.prog 204 ⟨K⟩=K XN:=qi aXq
theorem avj:XN.kd=Kd.oth:=ID rfl
theorem amk:XN.kd.agg=false:=ID rfl
theorem agV:XN.size=1:=ID rfl
theorem abm:XN.bytes=8:=ID rfl
theorem avh:qx XN=True:=eq_true rfl
theorem avi:zc XN=[.v Value.nilFunc]:=ID rfl
theorem aUV{K:TI→Prop}:@tyW Tryz.prog 205 ⟨K⟩=K XM:=qi aXp
theorem avg:XM.kd=Kd.oth:=ID rfl
theorem amj:XM.kd.agg=false:=ID rfl
theorem agU:XM.size=1:=ID rfl
theorem abl:XM.bytes=8:=ID rfl
theorem ave:qx XM=True:=eq_true rfl
theorem avf:zc XM=[.v Value.nilFunc]:=ID rfl
theorem aUU{K:TI→Prop}:@tyW Tryz.prog 206 ⟨K⟩=K XL:=qi aXo
theorem avd:XL.kd=Kd.oth:=ID rfl
theorem ami:XL.kd.agg=false:=ID rfl
theorem agT:XL.size=1:=ID rfl
theorem abk:XL.bytes=8:=ID rfl
theorem avb:qx XL=True:=eq_true rfl
theorem avc:zc XL=[.v Value.nilFunc]:=ID rfl
theorem aUT{K:TI→Prop}:@tyW Tryz.prog 208 ⟨K⟩=K XK:=qi aXn
theorem ava:XK.kd=Kd.oth:=ID rfl
theorem amh:XK.kd.agg=false:=ID rfl
theorem agS:XK.size=1:=ID rfl
theorem abj:XK.bytes=8:=ID rfl
theorem au8:qx XK=True:=eq_true rfl
theorem au9:zc XK=[.v Value.nilFunc]:=ID rfl
theorem aUS{K:TI→Prop}:@tyW Tryz.prog 209 ⟨K⟩=K XJ:=qi aXm
theorem au7:XJ.kd=Kd.oth:=ID rfl
theorem amg:XJ.kd.agg=false:=ID rfl
theorem agR:XJ.size=1:=ID rfl
theorem abi:XJ.bytes=8:=ID rfl
theorem au5:qx XJ=True:=eq_true rfl
theorem au6:zc XJ=[.v Value.nilFunc]:=ID rfl
theorem aUR{K:TI→Prop}:@tyW Tryz.prog 210 ⟨K⟩=K XI:=qi aXl
theorem au4:XI.kd=Kd.oth:=ID rfl
theorem amf:XI.kd.agg=false:=ID rfl
theorem agQ:XI.size=1:=ID rfl
theorem abh:XI.bytes=8:=ID rfl
theorem au2:qx XI=True:=eq_true rfl
theorem au3:zc XI=[.v Value.nilFunc]:=ID rfl
theorem aUQ{K:TI→Prop}:@tyW Tryz.prog 211 ⟨K⟩=K XH:=qi aXk
theorem au1:XH.kd=Kd.oth:=ID rfl
theorem ame:XH.kd.agg=false:=ID rfl
theorem agP:XH.size=1:=ID rfl
theorem abg:XH.bytes=8:=ID rfl
theorem auZ:qx XH=True:=eq_true rfl
theorem au0:zc XH=[.v Value.nilFunc]:=ID rfl
theorem aUP{K:TI→Prop}:@tyW Tryz.prog 212 ⟨K⟩=K XG:=qi aXj
theorem auY:XG.kd=Kd.oth:=ID rfl
theorem amd:XG.kd.agg=false:=ID rfl
theorem agO:XG.size=1:=ID rfl
theorem abf:XG.bytes=8:=ID rfl
theorem auW:qx XG=True:=eq_true rfl
theorem auX:zc XG=[.v Value.nilFunc]:=ID rfl
theorem aUO{K:TI→Prop}:@tyW Tryz.prog 213 ⟨K⟩=K XF:=qi aXi
theorem auV:XF.kd=Kd.oth:=ID rfl
theorem amc:XF.kd.agg=false:=ID rfl
theorem agN:XF.size=1:=ID rfl
theorem abe:XF.bytes=8:=ID rfl
theorem auT:qx XF=True:=eq_true rfl
theorem auU:zc XF=[.v Value.nilFunc]:=ID rfl
theorem aUN{K:TI→Prop}:@tyW Tryz.prog 214 ⟨K⟩=K XE:=qi aXh
theorem auS:XE.kd=Kd.oth:=ID rfl
theorem amb:XE.kd.agg=false:=ID rfl
theorem agM:XE.size=1:=ID rfl
theorem abd:XE.bytes=8:=ID rfl
theorem auQ:qx XE=True:=eq_true rfl
theorem auR:zc XE=[.v Value.nilFunc]:=ID rfl
theorem aUM{K:TI→Prop}:@tyW Tryz.prog 215 ⟨K⟩=K XD:=qi aXg
theorem auP:XD.kd=Kd.oth:=ID rfl
theorem ama:XD.kd.agg=false:=ID rfl
theorem agL:XD.size=1:=ID rfl
theorem abc:XD.bytes=8:=ID rfl
theorem auN:qx XD=True:=eq_true rfl
theorem auO:zc XD=[.v Value.nilFunc]:=ID rfl
theorem aUL{K:TI→Prop}:@tyW Tryz.prog 216 ⟨K⟩=K XC:=qi aXf
theorem auM:XC.kd=Kd.oth:=ID rfl
theorem al9:XC.kd.agg=false:=ID rfl
theorem agK:XC.size=1:=ID rfl
theorem abb:XC.bytes=8:=ID rfl
theorem auK:qx XC=True:=eq_true rfl
theorem auL:zc XC=[.v Value.nilFunc]:=ID rfl
theorem aUK{K:TI→Prop}:@tyW Tryz.prog 217 ⟨K⟩=K XB:=qi aXe
theorem auJ:XB.kd=Kd.oth:=ID rfl
theorem al8:XB.kd.agg=false:=ID rfl
theorem agJ:XB.size=1:=ID rfl
theorem aba:XB.bytes=8:=ID rfl
theorem auH:qx XB=True:=eq_true rfl
theorem auI:zc XB=[.v Value.nilFunc]:=ID rfl
theorem aUJ{K:TI→Prop}:@tyW Tryz.prog 218 ⟨K⟩=K XA:=qi aXd
theorem auG:XA.kd=Kd.oth:=ID rfl
theorem al7:XA.kd.agg=false:=ID rfl
theorem agI:XA.size=1:=ID rfl
theorem aa9:XA.bytes=8:=ID rfl
theorem auE:qx XA=True:=eq_true rfl
theorem auF:zc XA=[.v Value.nilFunc]:=ID rfl
theorem aUI{K:TI→Prop}:@tyW Tryz.prog 220 ⟨K⟩=K Xz:=qi aXc
theorem auC:Xz.kd=Kd.oth:=ID rfl
theorem al5:Xz.kd.agg=false:=ID rfl
theorem agG:Xz.size=1:=ID rfl
theorem aa8:Xz.bytes=8:=ID rfl
theorem auA:qx Xz=True:=eq_true rfl
theorem auB:zc Xz=[.v Value.nilFunc]:=ID rfl
theorem aUH{K:TI→Prop}:@tyW Tryz.prog 221 ⟨K⟩=K Xy:=qi aXb
theorem auz:Xy.kd=Kd.oth:=ID rfl
theorem al4:Xy.kd.agg=false:=ID rfl
theorem agF:Xy.size=1:=ID rfl
theorem aa7:Xy.bytes=8:=ID rfl
theorem aux:qx Xy=True:=eq_true rfl
theorem auy:zc Xy=[.v Value.nilFunc]:=ID rfl
theorem aUG{K:TI→Prop}:@tyW Tryz.prog 222 ⟨K⟩=K Xx:=qi aNj
theorem auw:Xx.kd=Kd.sli 100:=ID rfl
theorem al3:Xx.kd.agg=false:=ID rfl
theorem agE:Xx.size=1:=ID rfl
theorem aa6:Xx.bytes=24:=ID rfl
theorem auu:qx Xx=True:=eq_true rfl
theorem auv:zc Xx=[.v (Value.slice none 0 0)]:=ID rfl
theorem aNC{K:TI→Prop}:@yw Tryz.prog 222 ⟨K⟩=K yD:=QE aNj rfl JT
theorem aUF{K:TI→Prop}:@tyW Tryz.prog 223 ⟨K⟩=K Xw:=qi aXa
theorem aut:Xw.kd=Kd.oth:=ID rfl
theorem al2:Xw.kd.agg=false:=ID rfl
theorem agD:Xw.size=1:=ID rfl
theorem aa5:Xw.bytes=8:=ID rfl
theorem aur:qx Xw=True:=eq_true rfl
theorem aus:zc Xw=[.v Value.nilFunc]:=ID rfl
theorem aUE{K:TI→Prop}:@tyW Tryz.prog 224 ⟨K⟩=K Xv:=qi aW9
theorem auq:Xv.kd=Kd.oth:=ID rfl
theorem al1:Xv.kd.agg=false:=ID rfl
theorem agC:Xv.size=1:=ID rfl
theorem aa4:Xv.bytes=8:=ID rfl
theorem auo:qx Xv=True:=eq_true rfl
theorem aup:zc Xv=[.v Value.nilFunc]:=ID rfl
theorem aUD{K:TI→Prop}:@tyW Tryz.prog 225 ⟨K⟩=K Xu:=qi aW8
theorem aun:Xu.kd=Kd.oth:=ID rfl
theorem al0:Xu.kd.agg=false:=ID rfl
theorem agB:Xu.size=1:=ID rfl
theorem aa3:Xu.bytes=8:=ID rfl
theorem aul:qx Xu=True:=eq_true rfl
theorem aum:zc Xu=[.v Value.nilFunc]:=ID rfl
theorem aUC{K:TI→Prop}:@tyW Tryz.prog 226 ⟨K⟩=K Xt:=qi aW7
theorem auk:Xt.kd=Kd.oth:=ID rfl
theorem alZ:Xt.kd.agg=false:=ID rfl
theorem agA:Xt.size=1:=ID rfl
theorem aa2:Xt.bytes=8:=ID rfl
theorem aui:qx Xt=True:=eq_true rfl
theorem auj:zc Xt=[.v Value.nilFunc]:=ID rfl
theorem aUB{K:TI→Prop}:@tyW Tryz.prog 227 ⟨K⟩=K Xs:=qi aW6
theorem auh:Xs.kd=Kd.oth:=ID rfl
theorem alY:Xs.kd.agg=false:=ID rfl
theorem agz:Xs.size=1:=ID rfl
theorem aa1:Xs.bytes=8:=ID rfl
theorem auf:qx Xs=True:=eq_true rfl
theorem aug:zc Xs=[.v Value.nilFunc]:=ID rfl
theorem aUA{K:TI→Prop}:@tyW Tryz.prog 228 ⟨K⟩=K Xr:=qi aW5
theorem aue:Xr.kd=Kd.oth:=ID rfl
theorem alX:Xr.kd.agg=false:=ID rfl
theorem agy:Xr.size=1:=ID rfl
theorem aaZ:Xr.bytes=8:=ID rfl
theorem auc:qx Xr=True:=eq_true rfl
theorem aud:zc Xr=[.v Value.nilFunc]:=ID rfl
theorem aUz{K:TI→Prop}:@tyW Tryz.prog 229 ⟨K⟩=K Xq:=qi aW4
theorem aub:Xq.kd=Kd.oth:=ID rfl
theorem alW:Xq.kd.agg=false:=ID rfl
theorem agx:Xq.size=1:=ID rfl
theorem aaY:Xq.bytes=8:=ID rfl
theorem at9:qx Xq=True:=eq_true rfl
theorem aua:zc Xq=[.v Value.nilFunc]:=ID rfl
theorem aUy{K:TI→Prop}:@tyW Tryz.prog 230 ⟨K⟩=K Xp:=qi aW3
theorem at7:Xp.kd=Kd.oth:=ID rfl
theorem alU:Xp.kd.agg=false:=ID rfl
theorem agv:Xp.size=1:=ID rfl
theorem aaX:Xp.bytes=8:=ID rfl
theorem at5:qx Xp=True:=eq_true rfl
theorem at6:zc Xp=[.v Value.nilFunc]:=ID rfl
theorem aUx{K:TI→Prop}:@tyW Tryz.prog 232 ⟨K⟩=K Xo:=qi aW2
theorem at4:Xo.kd=Kd.oth:=ID rfl
theorem alT:Xo.kd.agg=false:=ID rfl
theorem agu:Xo.size=1:=ID rfl
theorem aaW:Xo.bytes=8:=ID rfl
theorem at2:qx Xo=True:=eq_true rfl
theorem at3:zc Xo=[.v Value.nilFunc]:=ID rfl
theorem aUw{K:TI→Prop}:@tyW Tryz.prog 233 ⟨K⟩=K Xn:=qi aW1
theorem at1:Xn.kd=Kd.oth:=ID rfl
theorem alS:Xn.kd.agg=false:=ID rfl
theorem agt:Xn.size=1:=ID rfl
theorem aaV:Xn.bytes=8:=ID rfl
theorem atZ:qx Xn=True:=eq_true rfl
theorem at0:zc Xn=[.v Value.nilFunc]:=ID rfl
theorem aUv{K:TI→Prop}:@tyW Tryz.prog 234 ⟨K⟩=K Xm:=qi aW0
theorem atY:Xm.kd=Kd.oth:=ID rfl
theorem alR:Xm.kd.agg=false:=ID rfl
theorem ags:Xm.size=1:=ID rfl
theorem aaU:Xm.bytes=8:=ID rfl
theorem atW:qx Xm=True:=eq_true rfl
theorem atX:zc Xm=[.v Value.nilFunc]:=ID rfl
theorem aUu{K:TI→Prop}:@tyW Tryz.prog 235 ⟨K⟩=K Xl:=qi aWZ
theorem atV:Xl.kd=Kd.oth:=ID rfl
theorem alQ:Xl.kd.agg=false:=ID rfl
theorem agr:Xl.size=1:=ID rfl
theorem aaT:Xl.bytes=8:=ID rfl
theorem atT:qx Xl=True:=eq_true rfl
theorem atU:zc Xl=[.v Value.nilFunc]:=ID rfl
theorem aUt{K:TI→Prop}:@tyW Tryz.prog 237 ⟨K⟩=K Xk:=qi aWY
theorem atS:Xk.kd=Kd.oth:=ID rfl
theorem alP:Xk.kd.agg=false:=ID rfl
theorem agq:Xk.size=1:=ID rfl
theorem aaS:Xk.bytes=8:=ID rfl
theorem atQ:qx Xk=True:=eq_true rfl
theorem atR:zc Xk=[.v Value.nilFunc]:=ID rfl
theorem aUs{K:TI→Prop}:@tyW Tryz.prog 238 ⟨K⟩=K Xj:=qi aWX
theorem atP:Xj.kd=Kd.oth:=ID rfl
theorem alO:Xj.kd.agg=false:=ID rfl
theorem agp:Xj.size=1:=ID rfl
theorem aaR:Xj.bytes=8:=ID rfl
theorem atN:qx Xj=True:=eq_true rfl
theorem atO:zc Xj=[.v Value.nilFunc]:=ID rfl
theorem aUr{K:TI→Prop}:@tyW Tryz.prog 239 ⟨K⟩=K Xi:=qi aWW
theorem atM:Xi.kd=Kd.oth:=ID rfl
theorem alN:Xi.kd.agg=false:=ID rfl
theorem ago:Xi.size=1:=ID rfl
theorem aaQ:Xi.bytes=8:=ID rfl
theorem atK:qx Xi=True:=eq_true rfl
theorem atL:zc Xi=[.v Value.nilFunc]:=ID rfl
theorem aUq{K:TI→Prop}:@tyW Tryz.prog 240 ⟨K⟩=K Xh:=qi aWU
theorem atI:Xh.kd=Kd.oth:=ID rfl
theorem alL:Xh.kd.agg=false:=ID rfl
theorem agm:Xh.size=1:=ID rfl
theorem aaP:Xh.bytes=8:=ID rfl
theorem atG:qx Xh=True:=eq_true rfl
theorem atH:zc Xh=[.v Value.nilFunc]:=ID rfl
theorem aUp{K:TI→Prop}:@tyW Tryz.prog 241 ⟨K⟩=K Xg:=qi aWT
theorem atF:Xg.kd=Kd.oth:=ID rfl
theorem alK:Xg.kd.agg=false:=ID rfl
theorem agl:Xg.size=1:=ID rfl
theorem aaO:Xg.bytes=8:=ID rfl
theorem atD:qx Xg=True:=eq_true rfl
theorem atE:zc Xg=[.v Value.nilFunc]:=ID rfl
theorem aUo{K:TI→Prop}:@tyW Tryz.prog 242 ⟨K⟩=K Xf:=qi aWS
theorem atC:Xf.kd=Kd.int IntKind.u32:=ID rfl
theorem alJ:Xf.kd.agg=false:=ID rfl
theorem agk:Xf.size=1:=ID rfl
theorem aaN:Xf.bytes=4:=ID rfl
theorem atA:qx Xf=True:=eq_true rfl
theorem atB:zc Xf=[.v (Value.int IntKind.u32 0)]:=ID rfl
theorem aUn{K:TI→Prop}:@tyW Tryz.prog 243 ⟨K⟩=K Xe:=qi aWR
theorem atz:Xe.kd=Kd.oth:=ID rfl
theorem alI:Xe.kd.agg=false:=ID rfl
theorem agj:Xe.size=1:=ID rfl
theorem aaM:Xe.bytes=8:=ID rfl
theorem atx:qx Xe=True:=eq_true rfl
theorem aty:zc Xe=[.v Value.nilFunc]:=ID rfl
theorem aUm{K:TI→Prop}:@tyW Tryz.prog 244 ⟨K⟩=K Xd:=qi aWQ
theorem atw:Xd.kd=Kd.int IntKind.u64:=ID rfl
theorem alH:Xd.kd.agg=false:=ID rfl
theorem agi:Xd.size=1:=ID rfl
theorem aaL:Xd.bytes=8:=ID rfl
theorem atu:qx Xd=True:=eq_true rfl
theorem atv:zc Xd=[.v (Value.int IntKind.u64 0)]:=ID rfl
theorem aUl{K:TI→Prop}:@tyW Tryz.prog 245 ⟨K⟩=K Xc:=qi aWP
theorem att:Xc.kd=Kd.oth:=ID rfl
theorem alG:Xc.kd.agg=false:=ID rfl
theorem agh:Xc.size=1:=ID rfl
theorem aaK:Xc.bytes=8:=ID rfl
theorem atr:qx Xc=True:=eq_true rfl
theorem ats:zc Xc=[.v Value.nilFunc]:=ID rfl
theorem aUk{K:TI→Prop}:@tyW Tryz.prog 247 ⟨K⟩=K Xb:=qi aWO
theorem atq:Xb.kd=Kd.oth:=ID rfl
theorem alD:Xb.kd.agg=false:=ID rfl
theorem agf:Xb.size=1:=ID rfl
theorem aaJ:Xb.bytes=8:=ID rfl
theorem ato:qx Xb=True:=eq_true rfl
theorem atp:zc Xb=[.v Value.nilFunc]:=ID rfl
theorem aUj{K:TI→Prop}:@tyW Tryz.prog 248 ⟨K⟩=K Xa:=qi aWN
theorem atn:Xa.kd=Kd.oth:=ID rfl
theorem alC:Xa.kd.agg=false:=ID rfl
theorem age:Xa.size=1:=ID rfl
theorem aaI:Xa.bytes=8:=ID rfl
theorem atl:qx Xa=True:=eq_true rfl
theorem atm:zc Xa=[.v Value.nilFunc]:=ID rfl
theorem aUi{K:TI→Prop}:@tyW Tryz.prog 249 ⟨K⟩=K Y9:=qi aWM
theorem atk:Y9.kd=Kd.oth:=ID rfl
theorem alB:Y9.kd.agg=false:=ID rfl
theorem agd:Y9.size=1:=ID rfl
theorem aaH:Y9.bytes=8:=ID rfl
theorem ati:qx Y9=True:=eq_true rfl
theorem atj:zc Y9=[.v Value.nilFunc]:=ID rfl
theorem aUh{K:TI→Prop}:@tyW Tryz.prog 250 ⟨K⟩=K Y8:=qi aWL
theorem atg:Y8.kd=Kd.oth:=ID rfl
theorem aly:Y8.kd.agg=false:=ID rfl
theorem agb:Y8.size=1:=ID rfl
theorem aaG:Y8.bytes=8:=ID rfl
theorem ate:qx Y8=True:=eq_true rfl
theorem atf:zc Y8=[.v Value.nilFunc]:=ID rfl
theorem aUg{K:TI→Prop}:@tyW Tryz.prog 251 ⟨K⟩=K Y7:=qi aWK
theorem atd:Y7.kd=Kd.oth:=ID rfl
theorem alx:Y7.kd.agg=false:=ID rfl
theorem aga:Y7.size=1:=ID rfl
theorem aaF:Y7.bytes=8:=ID rfl
theorem atb:qx Y7=True:=eq_true rfl
theorem atc:zc Y7=[.v Value.nilFunc]:=ID rfl
theorem aUf{K:TI→Prop}:@tyW Tryz.prog 252 ⟨K⟩=K Y6:=qi aWJ
theorem ata:Y6.kd=Kd.oth:=ID rfl
theorem alw:Y6.kd.agg=false:=ID rfl
theorem af9:Y6.size=1:=ID rfl
theorem aaE:Y6.bytes=8:=ID rfl
theorem as8:qx Y6=True:=eq_true rfl
theorem as9:zc Y6=[.v Value.nilFunc]:=ID rfl
theorem aUe{K:TI→Prop}:@tyW Tryz.prog 253 ⟨K⟩=K Y5:=qi aWI
theorem as7:Y5.kd=Kd.oth:=ID rfl
theorem alv:Y5.kd.agg=false:=ID rfl
theorem af8:Y5.size=1:=ID rfl
theorem aaD:Y5.bytes=8:=ID rfl
theorem as5:qx Y5=True:=eq_true rfl
theorem as6:zc Y5=[.v Value.nilFunc]:=ID rfl
theorem aUd{K:TI→Prop}:@tyW Tryz.prog 254 ⟨K⟩=K Y4:=qi aWH
theorem as4:Y4.kd=Kd.oth:=ID rfl
theorem alu:Y4.kd.agg=false:=ID rfl
theorem af7:Y4.size=1:=ID rfl
theorem aaC:Y4.bytes=8:=ID rfl
theorem as2:qx Y4=True:=eq_true rfl
theorem as3:zc Y4=[.v Value.nilFunc]:=ID rfl
theorem aUc{K:TI→Prop}:@tyW Tryz.prog 255 ⟨K⟩=K Y3:=qi aWG
theorem as1:Y3.kd=Kd.oth:=ID rfl
theorem alt:Y3.kd.agg=false:=ID rfl
theorem af6:Y3.size=1:=ID rfl
theorem aaB:Y3.bytes=8:=ID rfl
theorem asZ:qx Y3=True:=eq_true rfl
theorem as0:zc Y3=[.v Value.nilFunc]:=ID rfl
theorem aUb{K:TI→Prop}:@tyW Tryz.prog 258 ⟨K⟩=K Y2:=qi aWF
theorem asY:Y2.kd=Kd.oth:=ID rfl
theorem als:Y2.kd.agg=false:=ID rfl
theorem af5:Y2.size=1:=ID rfl
theorem aaA:Y2.bytes=8:=ID rfl
theorem asW:qx Y2=True:=eq_true rfl
theorem asX:zc Y2=[.v Value.nilFunc]:=ID rfl
theorem aUa{K:TI→Prop}:@tyW Tryz.prog 262 ⟨K⟩=K Y1:=qi aWE
theorem asU:Y1.kd=Kd.stru [(0,261)]:=ID rfl
theorem alp:Y1.kd.agg=true:=ID rfl
theorem af3:Y1.size=0:=ID rfl
theorem aaz:Y1.bytes=0:=ID rfl
theorem asS:qx Y1=True:=eq_true rfl
theorem asT:zc Y1=[]:=ID rfl
theorem aT9{K:TI→Prop}:@tyW Tryz.prog 263 ⟨K⟩=K Y0:=qi aWD
theorem asR:Y0.kd=Kd.stru [(0,261)]:=ID rfl
theorem alo:Y0.kd.agg=true:=ID rfl
theorem af2:Y0.size=0:=ID rfl
theorem aay:Y0.bytes=0:=ID rfl
theorem asP:qx Y0=True:=eq_true rfl
theorem asQ:zc Y0=[]:=ID rfl
theorem aT8{K:TI→Prop}:@tyW Tryz.prog 264 ⟨K⟩=K YZ:=qi aWC
theorem asO:YZ.kd=Kd.int IntKind.u8:=ID rfl
theorem aln:YZ.kd.agg=false:=ID rfl
theorem af1:YZ.size=1:=ID rfl
theorem aax:YZ.bytes=1:=ID rfl
theorem asM:qx YZ=True:=eq_true rfl
theorem asN:zc YZ=[.v (Value.int IntKind.u8 0)]:=ID rfl
theorem aT7{K:TI→Prop}:@tyW Tryz.prog 265 ⟨K⟩=K YY:=qi aWB
theorem asL:YY.kd=Kd.int IntKind.u8:=ID rfl
theorem alm:YY.kd.agg=false:=ID rfl
theorem af0:YY.size=1:=ID rfl
theorem aaw:YY.bytes=1:=ID rfl
theorem asJ:qx YY=True:=eq_true rfl
theorem asK:zc YY=[.v (Value.int IntKind.u8 0)]:=ID rfl
theorem aT6{K:TI→Prop}:@tyW Tryz.prog 266 ⟨K⟩=K YX:=qi aWA
theorem asI:YX.kd=Kd.oth:=ID rfl
theorem alk:YX.kd.agg=false:=ID rfl
theorem afZ:YX.size=1:=ID rfl
theorem aav:YX.bytes=8:=ID rfl
theorem asG:qx YX=True:=eq_true rfl
theorem asH:zc YX=[.v Value.nilFunc]:=ID rfl
theorem aT5{K:TI→Prop}:@tyW Tryz.prog 268 ⟨K⟩=K YW:=qi aWz
theorem asF:YW.kd=Kd.int IntKind.i32:=ID rfl
theorem alj:YW.kd.agg=false:=ID rfl
theorem afY:YW.size=1:=ID rfl
theorem aau:YW.bytes=4:=ID rfl
theorem asD:qx YW=True:=eq_true rfl
theorem asE:zc YW=[.v (Value.int IntKind.i32 0)]:=ID rfl
theorem aT4{K:TI→Prop}:@tyW Tryz.prog 269 ⟨K⟩=K YV:=qi aWy
theorem asC:YV.kd=Kd.int IntKind.i32:=ID rfl
theorem ali:YV.kd.agg=false:=ID rfl
theorem afX:YV.size=1:=ID rfl
theorem aat:YV.bytes=4:=ID rfl
theorem asA:qx YV=True:=eq_true rfl
theorem asB:zc YV=[.v (Value.int IntKind.i32 0)]:=ID rfl
theorem aT3{K:TI→Prop}:@tyW Tryz.prog 272 ⟨K⟩=K YT:=qi aWx
theorem asy:YT.kd=Kd.oth:=ID rfl
theorem alg:YT.kd.agg=false:=ID rfl
theorem afV:YT.size=1:=ID rfl
theorem aas:YT.bytes=8:=ID rfl
theorem asw:qx YT=True:=eq_true rfl
theorem asx:zc YT=[.v Value.nilFunc]:=ID rfl
theorem aT2{K:TI→Prop}:@tyW Tryz.prog 273 ⟨K⟩=K YS:=qi aWw
theorem asv:YS.kd=Kd.oth:=ID rfl
theorem alf:YS.kd.agg=false:=ID rfl
theorem afU:YS.size=1:=ID rfl
theorem aar:YS.bytes=8:=ID rfl
theorem ast:qx YS=True:=eq_true rfl
theorem asu:zc YS=[.v Value.nilFunc]:=ID rfl
theorem aT1{K:TI→Prop}:@tyW Tryz.prog 274 ⟨K⟩=K YR:=qi aWv
theorem ass:YR.kd=Kd.oth:=ID rfl
theorem ale:YR.kd.agg=false:=ID rfl
theorem afT:YR.size=1:=ID rfl
theorem aaq:YR.bytes=8:=ID rfl
theorem asq:qx YR=True:=eq_true rfl
theorem asr:zc YR=[.v Value.nilFunc]:=ID rfl
theorem bdV:qp Tryz.prog 2=True:=eq_true ⟨_,Tryz.func2,of_decide_eq_false (by kernel_rfl),rfl⟩
theorem bdU:qp Tryz.prog 3=True:=eq_true ⟨_,Tryz.func3,of_decide_eq_false (by kernel_rfl),rfl⟩
theorem bdT:qp Tryz.prog 4=True:=eq_true ⟨_,Tryz.func4,of_decide_eq_false (by kernel_rfl),rfl⟩
theorem bdS:qp Tryz.prog 5=True:=eq_true ⟨_,Tryz.func5,of_decide_eq_false (by kernel_rfl),rfl⟩
theorem bdR:qp Tryz.prog 6=True:=eq_true ⟨_,Tryz.func6,of_decide_eq_false (by kernel_rfl),rfl⟩
theorem bdQ:qp Tryz.prog 7=True:=eq_true ⟨_,Tryz.func7,of_decide_eq_false (by kernel_rfl),rfl⟩
theorem bdP:qp Tryz.prog 8=True:=eq_true ⟨_,Tryz.func8,of_decide_eq_false (by kernel_rfl),rfl⟩
theorem bdO:qp Tryz.prog 9=True:=eq_true ⟨_,Tryz.func9,of_decide_eq_false (by kernel_rfl),rfl⟩
theorem baT:qp Tryz.prog 10=True:=eq_true ⟨_,Tryz.func10,of_decide_eq_false (by kernel_rfl),rfl⟩
theorem baS:qp Tryz.prog 11=True:=eq_true ⟨_,Tryz.func11,of_decide_eq_false (by kernel_rfl),rfl⟩
theorem baR:qp Tryz.prog 12=True:=eq_true ⟨_,Tryz.func12,of_decide_eq_false (by kernel_rfl),rfl⟩
theorem baQ:qp Tryz.prog 13=True:=eq_true ⟨_,Tryz.func13,of_decide_eq_false (by kernel_rfl),rfl⟩
theorem baP:qp Tryz.prog 14=True:=eq_true ⟨_,Tryz.func14,of_decide_eq_false (by kernel_rfl),rfl⟩
theorem baO:qp Tryz.prog 15=True:=eq_true ⟨_,Tryz.func15,of_decide_eq_false (by kernel_rfl),rfl⟩
theorem baN:qp Tryz.prog 16=True:=eq_true ⟨_,Tryz.func16,of_decide_eq_false (by kernel_rfl),rfl⟩
theorem baM:qp Tryz.prog 17=True:=eq_true ⟨_,Tryz.func17,of_decide_eq_false (by kernel_rfl),rfl⟩
theorem baL:qp Tryz.prog 18=True:=eq_true ⟨_,Tryz.func18,of_decide_eq_false (by kernel_rfl),rfl⟩
theorem baK:qp Tryz.prog 19=True:=eq_true ⟨_,Tryz.func19,of_decide_eq_false (by kernel_rfl),rfl⟩
theorem baJ:qp Tryz.prog 20=True:=eq_true ⟨_,Tryz.func20,of_decide_eq_false (by kernel_rfl),rfl⟩
theorem baI:qp Tryz.prog 21=True:=eq_true ⟨_,Tryz.func21,of_decide_eq_false (by kernel_rfl),rfl⟩
theorem baH:qp Tryz.prog 22=True:=eq_true ⟨_,Tryz.func22,of_decide_eq_false (by kernel_rfl),rfl⟩
theorem baG:qp Tryz.prog 23=True:=eq_true ⟨_,Tryz.func23,of_decide_eq_false (by kernel_rfl),rfl⟩
theorem baF:qp Tryz.prog 24=True:=eq_true ⟨_,Tryz.func24,of_decide_eq_false (by kernel_rfl),rfl⟩
theorem baE:qp Tryz.prog 25=True:=eq_true ⟨_,Tryz.func25,of_decide_eq_false (by kernel_rfl),rfl⟩
theorem baD:qp Tryz.prog 26=True:=eq_true ⟨_,Tryz.func26,of_decide_eq_false (by kernel_rfl),rfl⟩
theorem baC:qp Tryz.prog 27=True:=eq_true ⟨_,Tryz.func27,of_decide_eq_false (by kernel_rfl),rfl⟩
theorem baB:qp Tryz.prog 28=True:=eq_true ⟨_,Tryz.func28,of_decide_eq_false (by kernel_rfl),rfl⟩
theorem baA:qp Tryz.prog 29=True:=eq_true ⟨_,Tryz.func29,of_decide_eq_false (by kernel_rfl),rfl⟩
theorem baz:qp Tryz.prog 30=True:=eq_true ⟨_,Tryz.func30,of_decide_eq_false (by kernel_rfl),rfl⟩
theorem bay:qp Tryz.prog 31=True:=eq_true ⟨_,Tryz.func31,of_decide_eq_false (by kernel_rfl),rfl⟩
theorem bax:qp Tryz.prog 32=True:=eq_true ⟨_,Tryz.func32,of_decide_eq_false (by kernel_rfl),rfl⟩
theorem baw:qp Tryz.prog 33=True:=eq_true ⟨_,Tryz.func33,of_decide_eq_false (by kernel_rfl),rfl⟩
theorem bav:qp Tryz.prog 34=True:=eq_true ⟨_,Tryz.func34,of_decide_eq_false (by kernel_rfl),rfl⟩
theorem bau:qp Tryz.prog 35=True:=eq_true ⟨_,Tryz.func35,of_decide_eq_false (by kernel_rfl),rfl⟩
theorem bat:qp Tryz.prog 36=True:=eq_true ⟨_,Tryz.func36,of_decide_eq_false (by kernel_rfl),rfl⟩
theorem bas:qp Tryz.prog 37=True:=eq_true ⟨_,Tryz.func37,of_decide_eq_false (by kernel_rfl),rfl⟩
theorem bar:qp Tryz.prog 38=True:=eq_true ⟨_,Tryz.func38,of_decide_eq_false (by kernel_rfl),rfl⟩
theorem baq:qp Tryz.prog 39=True:=eq_true ⟨_,Tryz.func39,of_decide_eq_false (by kernel_rfl),rfl⟩
theorem bap:qp Tryz.prog 40=True:=eq_true ⟨_,Tryz.func40,of_decide_eq_false (by kernel_rfl),rfl⟩
theorem bao:qp Tryz.prog 41=True:=eq_true ⟨_,Tryz.func41,of_decide_eq_false (by kernel_rfl),rfl⟩
theorem ban:qp Tryz.prog 42=True:=eq_true ⟨_,Tryz.func42,of_decide_eq_false (by kernel_rfl),rfl⟩
theorem bam:qp Tryz.prog 43=True:=eq_true ⟨_,Tryz.func43,of_decide_eq_false (by kernel_rfl),rfl⟩
theorem bal:qp Tryz.prog 44=True:=eq_true ⟨_,Tryz.func44,of_decide_eq_false (by kernel_rfl),rfl⟩
theorem bak:qp Tryz.prog 45=True:=eq_true ⟨_,Tryz.func45,of_decide_eq_false (by kernel_rfl),rfl⟩
theorem baj:qp Tryz.prog 46=True:=eq_true ⟨_,Tryz.func46,of_decide_eq_false (by kernel_rfl),rfl⟩
theorem bai:qp Tryz.prog 47=True:=eq_true ⟨_,Tryz.func47,of_decide_eq_false (by kernel_rfl),rfl⟩
theorem bah:qp Tryz.prog 48=True:=eq_true ⟨_,Tryz.func48,of_decide_eq_false (by kernel_rfl),rfl⟩
theorem bag:qp Tryz.prog 49=True:=eq_true ⟨_,Tryz.func49,of_decide_eq_false (by kernel_rfl),rfl⟩
theorem baf:qp Tryz.prog 50=True:=eq_true ⟨_,Tryz.func50,of_decide_eq_false (by kernel_rfl),rfl⟩
theorem bae:qp Tryz.prog 51=True:=eq_true ⟨_,Tryz.func51,of_decide_eq_false (by kernel_rfl),rfl⟩
theorem bac:qp Tryz.prog 52=True:=eq_true ⟨_,Tryz.func52,of_decide_eq_false (by kernel_rfl),rfl⟩
theorem bab:qp Tryz.prog 53=True:=eq_true ⟨_,Tryz.func53,of_decide_eq_false (by kernel_rfl),rfl⟩
theorem baa:qp Tryz.prog 54=True:=eq_true ⟨_,Tryz.func54,of_decide_eq_false (by kernel_rfl),rfl⟩
theorem aZ9:qp Tryz.prog 55=True:=eq_true ⟨_,Tryz.func55,of_decide_eq_false (by kernel_rfl),rfl⟩
theorem aZ8:qp Tryz.prog 56=True:=eq_true ⟨_,Tryz.func56,of_decide_eq_false (by kernel_rfl),rfl⟩
theorem aZ7:qp Tryz.prog 57=True:=eq_true ⟨_,Tryz.func57,of_decide_eq_false (by kernel_rfl),rfl⟩
theorem aZ6:qp Tryz.prog 58=True:=eq_true ⟨_,Tryz.func58,of_decide_eq_false (by kernel_rfl),rfl⟩
theorem aZ5:qp Tryz.prog 59=True:=eq_true ⟨_,Tryz.func59,of_decide_eq_false (by kernel_rfl),rfl⟩
theorem aZ4:qp Tryz.prog 60=True:=eq_true ⟨_,Tryz.func60,of_decide_eq_false (by kernel_rfl),rfl⟩
theorem aZ3:qp Tryz.prog 61=True:=eq_true ⟨_,Tryz.func61,of_decide_eq_false (by kernel_rfl),rfl⟩
theorem aZ2:qp Tryz.prog 62=True:=eq_true ⟨_,Tryz.func62,of_decide_eq_false (by kernel_rfl),rfl⟩
theorem aZ1:qp Tryz.prog 63=True:=eq_true ⟨_,Tryz.func63,of_decide_eq_false (by kernel_rfl),rfl⟩
theorem aZ0:qp Tryz.prog 64=True:=eq_true ⟨_,Tryz.func64,of_decide_eq_false (by kernel_rfl),rfl⟩
theorem aZZ:qp Tryz.prog 65=True:=eq_true ⟨_,Tryz.func65,of_decide_eq_false (by kernel_rfl),rfl⟩
theorem aZY:qp Tryz.prog 66=True:=eq_true ⟨_,Tryz.func66,of_decide_eq_false (by kernel_rfl),rfl⟩
theorem aZX:qp Tryz.prog 67=True:=eq_true ⟨_,Tryz.func67,of_decide_eq_false (by kernel_rfl),rfl⟩
theorem aZW:qp Tryz.prog 68=True:=eq_true ⟨_,Tryz.func68,of_decide_eq_false (by kernel_rfl),rfl⟩
theorem aZV:qp Tryz.prog 69=True:=eq_true ⟨_,Tryz.func69,of_decide_eq_false (by kernel_rfl),rfl⟩
theorem aZU:qp Tryz.prog 70=True:=eq_true ⟨_,Tryz.func70,of_decide_eq_false (by kernel_rfl),rfl⟩
theorem aZT:qp Tryz.prog 71=True:=eq_true ⟨_,Tryz.func71,of_decide_eq_false (by kernel_rfl),rfl⟩
theorem aZS:qp Tryz.prog 72=True:=eq_true ⟨_,Tryz.func72,of_decide_eq_false (by kernel_rfl),rfl⟩
theorem aZR:qp Tryz.prog 73=True:=eq_true ⟨_,Tryz.func73,of_decide_eq_false (by kernel_rfl),rfl⟩
theorem aZQ:qp Tryz.prog 74=True:=eq_true ⟨_,Tryz.func74,of_decide_eq_false (by kernel_rfl),rfl⟩
theorem aZP:qp Tryz.prog 75=True:=eq_true ⟨_,Tryz.func75,of_decide_eq_false (by kernel_rfl),rfl⟩
theorem aZO:qp Tryz.prog 76=True:=eq_true ⟨_,Tryz.func76,of_decide_eq_false (by kernel_rfl),rfl⟩
theorem aZN:qp Tryz.prog 77=True:=eq_true ⟨_,Tryz.func77,of_decide_eq_false (by kernel_rfl),rfl⟩
theorem aZM:qp Tryz.prog 78=True:=eq_true ⟨_,Tryz.func78,of_decide_eq_false (by kernel_rfl),rfl⟩
theorem aZL:qp Tryz.prog 79=True:=eq_true ⟨_,Tryz.func79,of_decide_eq_false (by kernel_rfl),rfl⟩
theorem aZK:qp Tryz.prog 80=True:=eq_true ⟨_,Tryz.func80,of_decide_eq_false (by kernel_rfl),rfl⟩
theorem aZJ:qp Tryz.prog 81=True:=eq_true ⟨_,Tryz.func81,of_decide_eq_false (by kernel_rfl),rfl⟩
theorem aZI:qp Tryz.prog 82=True:=eq_true ⟨_,Tryz.func82,of_decide_eq_false (by kernel_rfl),rfl⟩
theorem aZH:qp Tryz.prog 83=True:=eq_true ⟨_,Tryz.func83,of_decide_eq_false (by kernel_rfl),rfl⟩
theorem aZG:qp Tryz.prog 84=True:=eq_true ⟨_,Tryz.func84,of_decide_eq_false (by kernel_rfl),rfl⟩
theorem aZF:qp Tryz.prog 85=True:=eq_true ⟨_,Tryz.func85,of_decide_eq_false (by kernel_rfl),rfl⟩
theorem aZE:qp Tryz.prog 86=True:=eq_true ⟨_,Tryz.func86,of_decide_eq_false (by kernel_rfl),rfl⟩
theorem aZD:qp Tryz.prog 87=True:=eq_true ⟨_,Tryz.func87,of_decide_eq_false (by kernel_rfl),rfl⟩
theorem aZC:qp Tryz.prog 88=True:=eq_true ⟨_,Tryz.func88,of_decide_eq_false (by kernel_rfl),rfl⟩
theorem aZB:qp Tryz.prog 89=True:=eq_true ⟨_,Tryz.func89,of_decide_eq_false (by kernel_rfl),rfl⟩
theorem aZA:qp Tryz.prog 90=True:=eq_true ⟨_,Tryz.func90,of_decide_eq_false (by kernel_rfl),rfl⟩
theorem aZz:qp Tryz.prog 91=True:=eq_true ⟨_,Tryz.func91,of_decide_eq_false (by kernel_rfl),rfl⟩
theorem aZy:qp Tryz.prog 92=True:=eq_true ⟨_,Tryz.func92,of_decide_eq_false (by kernel_rfl),rfl⟩
theorem aZx:qp Tryz.prog 93=True:=eq_true ⟨_,Tryz.func93,of_decide_eq_false (by kernel_rfl),rfl⟩
theorem aZw:qp Tryz.prog 94=True:=eq_true ⟨_,Tryz.func94,of_decide_eq_false (by kernel_rfl),rfl⟩
theorem aZv:qp Tryz.prog 95=True:=eq_true ⟨_,Tryz.func95,of_decide_eq_false (by kernel_rfl),rfl⟩
theorem aZu:qp Tryz.prog 96=True:=eq_true ⟨_,Tryz.func96,of_decide_eq_false (by kernel_rfl),rfl⟩
theorem aZt:qp Tryz.prog 97=True:=eq_true ⟨_,Tryz.func97,of_decide_eq_false (by kernel_rfl),rfl⟩
theorem aZs:qp Tryz.prog 98=True:=eq_true ⟨_,Tryz.func98,of_decide_eq_false (by kernel_rfl),rfl⟩
theorem aZr:qp Tryz.prog 99=True:=eq_true ⟨_,Tryz.func99,of_decide_eq_false (by kernel_rfl),rfl⟩
theorem aSC:qp Tryz.prog 100=True:=eq_true ⟨_,Tryz.func100,of_decide_eq_false (by kernel_rfl),rfl⟩
theorem aSB:qp Tryz.prog 101=True:=eq_true ⟨_,Tryz.func101,of_decide_eq_false (by kernel_rfl),rfl⟩
theorem aSA:qp Tryz.prog 102=True:=eq_true ⟨_,Tryz.func102,of_decide_eq_false (by kernel_rfl),rfl⟩
theorem aSz:qp Tryz.prog 103=True:=eq_true ⟨_,Tryz.func103,of_decide_eq_false (by kernel_rfl),rfl⟩
theorem aSy:qp Tryz.prog 104=True:=eq_true ⟨_,Tryz.func104,of_decide_eq_false (by kernel_rfl),rfl⟩
theorem aSx:qp Tryz.prog 105=True:=eq_true ⟨_,Tryz.func105,of_decide_eq_false (by kernel_rfl),rfl⟩
theorem aSw:qp Tryz.prog 106=True:=eq_true ⟨_,Tryz.func106,of_decide_eq_false (by kernel_rfl),rfl⟩
theorem aSv:qp Tryz.prog 107=True:=eq_true ⟨_,Tryz.func107,of_decide_eq_false (by kernel_rfl),rfl⟩
theorem aSu:qp Tryz.prog 108=True:=eq_true ⟨_,Tryz.func108,of_decide_eq_false (by kernel_rfl),rfl⟩
theorem aSt:qp Tryz.prog 109=True:=eq_true ⟨_,Tryz.func109,of_decide_eq_false (by kernel_rfl),rfl⟩
theorem aSs:qp Tryz.prog 110=True:=eq_true ⟨_,Tryz.func110,of_decide_eq_false (by kernel_rfl),rfl⟩
theorem aSr:qp Tryz.prog 111=True:=eq_true ⟨_,Tryz.func111,of_decide_eq_false (by kernel_rfl),rfl⟩
theorem aSq:qp Tryz.prog 112=True:=eq_true ⟨_,Tryz.func112,of_decide_eq_false (by kernel_rfl),rfl⟩
theorem aSp:qp Tryz.prog 113=True:=eq_true ⟨_,Tryz.func113,of_decide_eq_false (by kernel_rfl),rfl⟩
theorem aSo:qp Tryz.prog 114=True:=eq_true ⟨_,Tryz.func114,of_decide_eq_false (by kernel_rfl),rfl⟩
theorem aSn:qp Tryz.prog 115=True:=eq_true ⟨_,Tryz.func115,of_decide_eq_false (by kernel_rfl),rfl⟩
theorem aSm:qp Tryz.prog 116=True:=eq_true ⟨_,Tryz.func116,of_decide_eq_false (by kernel_rfl),rfl⟩
theorem aSl:qp Tryz.prog 117=True:=eq_true ⟨_,Tryz.func117,of_decide_eq_false (by kernel_rfl),rfl⟩
theorem aSk:qp Tryz.prog 118=True:=eq_true ⟨_,Tryz.func118,of_decide_eq_false (by kernel_rfl),rfl⟩
theorem aSj:qp Tryz.prog 119=True:=eq_true ⟨_,Tryz.func119,of_decide_eq_false (by kernel_rfl),rfl⟩
theorem aSi:qp Tryz.prog 120=True:=eq_true ⟨_,Tryz.func120,of_decide_eq_false (by kernel_rfl),rfl⟩
theorem aSh:qp Tryz.prog 121=True:=eq_true ⟨_,Tryz.func121,of_decide_eq_false (by kernel_rfl),rfl⟩
theorem aSg:qp Tryz.prog 122=True:=eq_true ⟨_,Tryz.func122,of_decide_eq_false (by kernel_rfl),rfl⟩
theorem aSf:qp Tryz.prog 123=True:=eq_true ⟨_,Tryz.func123,of_decide_eq_false (by kernel_rfl),rfl⟩
theorem aSe:qp Tryz.prog 124=True:=eq_true ⟨_,Tryz.func124,of_decide_eq_false (by kernel_rfl),rfl⟩
theorem aSd:qp Tryz.prog 125=True:=eq_true ⟨_,Tryz.func125,of_decide_eq_false (by kernel_rfl),rfl⟩
theorem aSc:qp Tryz.prog 126=True:=eq_true ⟨_,Tryz.func126,of_decide_eq_false (by kernel_rfl),rfl⟩
theorem aSb:qp Tryz.prog 127=True:=eq_true ⟨_,Tryz.func127,of_decide_eq_false (by kernel_rfl),rfl⟩
theorem aSa:qp Tryz.prog 128=True:=eq_true ⟨_,Tryz.func128,of_decide_eq_false (by kernel_rfl),rfl⟩
theorem aR9:qp Tryz.prog 129=True:=eq_true ⟨_,Tryz.func129,of_decide_eq_false (by kernel_rfl),rfl⟩
theorem aR8:qp Tryz.prog 130=True:=eq_true ⟨_,Tryz.func130,of_decide_eq_false (by kernel_rfl),rfl⟩
theorem aR7:qp Tryz.prog 131=True:=eq_true ⟨_,Tryz.func131,of_decide_eq_false (by kernel_rfl),rfl⟩
theorem aR6:qp Tryz.prog 132=True:=eq_true ⟨_,Tryz.func132,of_decide_eq_false (by kernel_rfl),rfl⟩
theorem aR5:qp Tryz.prog 133=True:=eq_true ⟨_,Tryz.func133,of_decide_eq_false (by kernel_rfl),rfl⟩
theorem aR4:qp Tryz.prog 134=True:=eq_true ⟨_,Tryz.func134,of_decide_eq_false (by kernel_rfl),rfl⟩
theorem aR3:qp Tryz.prog 135=True:=eq_true ⟨_,Tryz.func135,of_decide_eq_false (by kernel_rfl),rfl⟩
theorem aR2:qp Tryz.prog 136=True:=eq_true ⟨_,Tryz.func136,of_decide_eq_false (by kernel_rfl),rfl⟩
theorem aR1:qp Tryz.prog 137=True:=eq_true ⟨_,Tryz.func137,of_decide_eq_false (by kernel_rfl),rfl⟩
theorem aR0:qp Tryz.prog 138=True:=eq_true ⟨_,Tryz.func138,of_decide_eq_false (by kernel_rfl),rfl⟩
theorem aRZ:qp Tryz.prog 139=True:=eq_true ⟨_,Tryz.func139,of_decide_eq_false (by kernel_rfl),rfl⟩
theorem aRY:qp Tryz.prog 140=True:=eq_true ⟨_,Tryz.func140,of_decide_eq_false (by kernel_rfl),rfl⟩
theorem aRX:qp Tryz.prog 141=True:=eq_true ⟨_,Tryz.func141,of_decide_eq_false (by kernel_rfl),rfl⟩
theorem aRW:qp Tryz.prog 142=True:=eq_true ⟨_,Tryz.func142,of_decide_eq_false (by kernel_rfl),rfl⟩
theorem aRV:qp Tryz.prog 143=True:=eq_true ⟨_,Tryz.func143,of_decide_eq_false (by kernel_rfl),rfl⟩
theorem aRU:qp Tryz.prog 144=True:=eq_true ⟨_,Tryz.func144,of_decide_eq_false (by kernel_rfl),rfl⟩
theorem aRT:qp Tryz.prog 145=True:=eq_true ⟨_,Tryz.func145,of_decide_eq_false (by kernel_rfl),rfl⟩
theorem aRS:qp Tryz.prog 146=True:=eq_true ⟨_,Tryz.func146,of_decide_eq_false (by kernel_rfl),rfl⟩
theorem aRR:qp Tryz.prog 147=True:=eq_true ⟨_,Tryz.func147,of_decide_eq_false (by kernel_rfl),rfl⟩
theorem aRQ:qp Tryz.prog 148=True:=eq_true ⟨_,Tryz.func148,of_decide_eq_false (by kernel_rfl),rfl⟩
theorem aRP:qp Tryz.prog 149=True:=eq_true ⟨_,Tryz.func149,of_decide_eq_false (by kernel_rfl),rfl⟩
theorem aRO:qp Tryz.prog 150=True:=eq_true ⟨_,Tryz.func150,of_decide_eq_false (by kernel_rfl),rfl⟩
theorem aRN:qp Tryz.prog 151=True:=eq_true ⟨_,Tryz.func151,of_decide_eq_false (by kernel_rfl),rfl⟩
theorem aRM:qp Tryz.prog 152=True:=eq_true ⟨_,Tryz.func152,of_decide_eq_false (by kernel_rfl),rfl⟩
theorem aRL:qp Tryz.prog 153=True:=eq_true ⟨_,Tryz.func153,of_decide_eq_false (by kernel_rfl),rfl⟩
theorem aRK:qp Tryz.prog 154=True:=eq_true ⟨_,Tryz.func154,of_decide_eq_false (by kernel_rfl),rfl⟩
theorem aRJ:qp Tryz.prog 155=True:=eq_true ⟨_,Tryz.func155,of_decide_eq_false (by kernel_rfl),rfl⟩
theorem aRI:qp Tryz.prog 156=True:=eq_true ⟨_,Tryz.func156,of_decide_eq_false (by kernel_rfl),rfl⟩
theorem aRH:qp Tryz.prog 157=True:=eq_true ⟨_,Tryz.func157,of_decide_eq_false (by kernel_rfl),rfl⟩
theorem aRG:qp Tryz.prog 158=True:=eq_true ⟨_,Tryz.func158,of_decide_eq_false (by kernel_rfl),rfl⟩
theorem aRF:qp Tryz.prog 159=True:=eq_true ⟨_,Tryz.func159,of_decide_eq_false (by kernel_rfl),rfl⟩
theorem aRE:qp Tryz.prog 160=True:=eq_true ⟨_,Tryz.func160,of_decide_eq_false (by kernel_rfl),rfl⟩
theorem aRD:qp Tryz.prog 161=True:=eq_true ⟨_,Tryz.func161,of_decide_eq_false (by kernel_rfl),rfl⟩
theorem aRC:qp Tryz.prog 162=True:=eq_true ⟨_,Tryz.func162,of_decide_eq_false (by kernel_rfl),rfl⟩
theorem aRB:qp Tryz.prog 163=True:=eq_true ⟨_,Tryz.func163,of_decide_eq_false (by kernel_rfl),rfl⟩
theorem aRA:qp Tryz.prog 164=True:=eq_true ⟨_,Tryz.func164,of_decide_eq_false (by kernel_rfl),rfl⟩
theorem aRz:qp Tryz.prog 165=True:=eq_true ⟨_,Tryz.func165,of_decide_eq_false (by kernel_rfl),rfl⟩
theorem aRy:qp Tryz.prog 166=True:=eq_true ⟨_,Tryz.func166,of_decide_eq_false (by kernel_rfl),rfl⟩
theorem aRx:qp Tryz.prog 167=True:=eq_true ⟨_,Tryz.func167,of_decide_eq_false (by kernel_rfl),rfl⟩
theorem aRw:qp Tryz.prog 168=True:=eq_true ⟨_,Tryz.func168,of_decide_eq_false (by kernel_rfl),rfl⟩
theorem aRv:qp Tryz.prog 169=True:=eq_true ⟨_,Tryz.func169,of_decide_eq_false (by kernel_rfl),rfl⟩
theorem aRu:qp Tryz.prog 170=True:=eq_true ⟨_,Tryz.func170,of_decide_eq_false (by kernel_rfl),rfl⟩
theorem aRt:qp Tryz.prog 171=True:=eq_true ⟨_,Tryz.func171,of_decide_eq_false (by kernel_rfl),rfl⟩
theorem aRs:qp Tryz.prog 172=True:=eq_true ⟨_,Tryz.func172,of_decide_eq_false (by kernel_rfl),rfl⟩
theorem aRr:qp Tryz.prog 173=True:=eq_true ⟨_,Tryz.func173,of_decide_eq_false (by kernel_rfl),rfl⟩
theorem aRq:qp Tryz.prog 174=True:=eq_true ⟨_,Tryz.func174,of_decide_eq_false (by kernel_rfl),rfl⟩
theorem aRp:qp Tryz.prog 175=True:=eq_true ⟨_,Tryz.func175,of_decide_eq_false (by kernel_rfl),rfl⟩
theorem aRo:qp Tryz.prog 176=True:=eq_true ⟨_,Tryz.func176,of_decide_eq_false (by kernel_rfl),rfl⟩
theorem aRn:qp Tryz.prog 177=True:=eq_true ⟨_,Tryz.func177,of_decide_eq_false (by kernel_rfl),rfl⟩
theorem aRm:qp Tryz.prog 178=True:=eq_true ⟨_,Tryz.func178,of_decide_eq_false (by kernel_rfl),rfl⟩
theorem aRl:qp Tryz.prog 179=True:=eq_true ⟨_,Tryz.func179,of_decide_eq_false (by kernel_rfl),rfl⟩
theorem aRk:qp Tryz.prog 180=True:=eq_true ⟨_,Tryz.func180,of_decide_eq_false (by kernel_rfl),rfl⟩
theorem aRj:qp Tryz.prog 181=True:=eq_true ⟨_,Tryz.func181,of_decide_eq_false (by kernel_rfl),rfl⟩
theorem aRi:qp Tryz.prog 182=True:=eq_true ⟨_,Tryz.func182,of_decide_eq_false (by kernel_rfl),rfl⟩
theorem aRh:qp Tryz.prog 183=True:=eq_true ⟨_,Tryz.func183,of_decide_eq_false (by kernel_rfl),rfl⟩
theorem aRg:qp Tryz.prog 184=True:=eq_true ⟨_,Tryz.func184,of_decide_eq_false (by kernel_rfl),rfl⟩
theorem aRf:qp Tryz.prog 185=True:=eq_true ⟨_,Tryz.func185,of_decide_eq_false (by kernel_rfl),rfl⟩
theorem aRe:qp Tryz.prog 186=True:=eq_true ⟨_,Tryz.func186,of_decide_eq_false (by kernel_rfl),rfl⟩
theorem aRd:qp Tryz.prog 187=True:=eq_true ⟨_,Tryz.func187,of_decide_eq_false (by kernel_rfl),rfl⟩
theorem aRc:qp Tryz.prog 188=True:=eq_true ⟨_,Tryz.func188,of_decide_eq_false (by kernel_rfl),rfl⟩
theorem aRb:qp Tryz.prog 189=True:=eq_true ⟨_,Tryz.func189,of_decide_eq_false (by kernel_rfl),rfl⟩
theorem aRa:qp Tryz.prog 190=True:=eq_true ⟨_,Tryz.func190,of_decide_eq_false (by kernel_rfl),rfl⟩
theorem aQ9:qp Tryz.prog 191=True:=eq_true ⟨_,Tryz.func191,of_decide_eq_false (by kernel_rfl),rfl⟩
theorem aQ8:qp Tryz.prog 192=True:=eq_true ⟨_,Tryz.func192,of_decide_eq_false (by kernel_rfl),rfl⟩
theorem aQ7:qp Tryz.prog 193=True:=eq_true ⟨_,Tryz.func193,of_decide_eq_false (by kernel_rfl),rfl⟩
theorem aQ6:qp Tryz.prog 194=True:=eq_true ⟨_,Tryz.func194,of_decide_eq_false (by kernel_rfl),rfl⟩
theorem aQ5:qp Tryz.prog 195=True:=eq_true ⟨_,Tryz.func195,of_decide_eq_false (by kernel_rfl),rfl⟩
theorem aQ4:qp Tryz.prog 196=True:=eq_true ⟨_,Tryz.func196,of_decide_eq_false (by kernel_rfl),rfl⟩
theorem aQ3:qp Tryz.prog 197=True:=eq_true ⟨_,Tryz.func197,of_decide_eq_false (by kernel_rfl),rfl⟩
theorem aQ2:qp Tryz.prog 198=True:=eq_true ⟨_,Tryz.func198,of_decide_eq_false (by kernel_rfl),rfl⟩
theorem aQ1:qp Tryz.prog 199=True:=eq_true ⟨_,Tryz.func199,of_decide_eq_false (by kernel_rfl),rfl⟩
theorem aQ0:qp Tryz.prog 200=True:=eq_true ⟨_,Tryz.func200,of_decide_eq_false (by kernel_rfl),rfl⟩
theorem aQZ:qp Tryz.prog 201=True:=eq_true ⟨_,Tryz.func201,of_decide_eq_false (by kernel_rfl),rfl⟩
theorem aQY:qp Tryz.prog 202=True:=eq_true ⟨_,Tryz.func202,of_decide_eq_false (by kernel_rfl),rfl⟩
theorem aQX:qp Tryz.prog 203=True:=eq_true ⟨_,Tryz.func203,of_decide_eq_false (by kernel_rfl),rfl⟩
theorem aQW:qp Tryz.prog 204=True:=eq_true ⟨_,Tryz.func204,of_decide_eq_false (by kernel_rfl),rfl⟩
theorem aQV:qp Tryz.prog 205=True:=eq_true ⟨_,Tryz.func205,of_decide_eq_false (by kernel_rfl),rfl⟩
theorem aQU:qp Tryz.prog 206=True:=eq_true ⟨_,Tryz.func206,of_decide_eq_false (by kernel_rfl),rfl⟩
theorem aQT:qp Tryz.prog 207=True:=eq_true ⟨_,Tryz.func207,of_decide_eq_false (by kernel_rfl),rfl⟩
theorem aQS:qp Tryz.prog 208=True:=eq_true ⟨_,Tryz.func208,of_decide_eq_false (by kernel_rfl),rfl⟩
theorem aQR:qp Tryz.prog 209=True:=eq_true ⟨_,Tryz.func209,of_decide_eq_false (by kernel_rfl),rfl⟩
theorem aQQ:qp Tryz.prog 210=True:=eq_true ⟨_,Tryz.func210,of_decide_eq_false (by kernel_rfl),rfl⟩
theorem aQP:qp Tryz.prog 211=True:=eq_true ⟨_,Tryz.func211,of_decide_eq_false (by kernel_rfl),rfl⟩
theorem aQO:qp Tryz.prog 212=True:=eq_true ⟨_,Tryz.func212,of_decide_eq_false (by kernel_rfl),rfl⟩
theorem aQN:qp Tryz.prog 213=True:=eq_true ⟨_,Tryz.func213,of_decide_eq_false (by kernel_rfl),rfl⟩
theorem aQM:qp Tryz.prog 214=True:=eq_true ⟨_,Tryz.func214,of_decide_eq_false (by kernel_rfl),rfl⟩
theorem aQL:qp Tryz.prog 215=True:=eq_true ⟨_,Tryz.func215,of_decide_eq_false (by kernel_rfl),rfl⟩
theorem aQK:qp Tryz.prog 216=True:=eq_true ⟨_,Tryz.func216,of_decide_eq_false (by kernel_rfl),rfl⟩
theorem aQJ:qp Tryz.prog 217=True:=eq_true ⟨_,Tryz.func217,of_decide_eq_false (by kernel_rfl),rfl⟩
theorem aQI:qp Tryz.prog 218=True:=eq_true ⟨_,Tryz.func218,of_decide_eq_false (by kernel_rfl),rfl⟩
theorem aQH:qp Tryz.prog 219=True:=eq_true ⟨_,Tryz.func219,of_decide_eq_false (by kernel_rfl),rfl⟩
theorem aQG:qp Tryz.prog 220=True:=eq_true ⟨_,Tryz.func220,of_decide_eq_false (by kernel_rfl),rfl⟩
theorem aQF:qp Tryz.prog 221=True:=eq_true ⟨_,Tryz.func221,of_decide_eq_false (by kernel_rfl),rfl⟩
theorem aQE:qp Tryz.prog 222=True:=eq_true ⟨_,Tryz.func222,of_decide_eq_false (by kernel_rfl),rfl⟩
theorem aQD:qp Tryz.prog 223=True:=eq_true ⟨_,Tryz.func223,of_decide_eq_false (by kernel_rfl),rfl⟩
theorem aQC:qp Tryz.prog 224=True:=eq_true ⟨_,Tryz.func224,of_decide_eq_false (by kernel_rfl),rfl⟩
theorem aQB:qp Tryz.prog 225=True:=eq_true ⟨_,Tryz.func225,of_decide_eq_false (by kernel_rfl),rfl⟩
theorem aQA:qp Tryz.prog 226=True:=eq_true ⟨_,Tryz.func226,of_decide_eq_false (by kernel_rfl),rfl⟩
theorem aQz:qp Tryz.prog 227=True:=eq_true ⟨_,Tryz.func227,of_decide_eq_false (by kernel_rfl),rfl⟩
theorem aQy:qp Tryz.prog 228=True:=eq_true ⟨_,Tryz.func228,of_decide_eq_false (by kernel_rfl),rfl⟩
theorem aQx:qp Tryz.prog 229=True:=eq_true ⟨_,Tryz.func229,of_decide_eq_false (by kernel_rfl),rfl⟩
theorem aQw:qp Tryz.prog 230=True:=eq_true ⟨_,Tryz.func230,of_decide_eq_false (by kernel_rfl),rfl⟩
theorem aQv:qp Tryz.prog 231=True:=eq_true ⟨_,Tryz.func231,of_decide_eq_false (by kernel_rfl),rfl⟩
theorem aQu:qp Tryz.prog 232=True:=eq_true ⟨_,Tryz.func232,of_decide_eq_false (by kernel_rfl),rfl⟩
theorem aQt:qp Tryz.prog 233=True:=eq_true ⟨_,Tryz.func233,of_decide_eq_false (by kernel_rfl),rfl⟩
theorem aQs:qp Tryz.prog 234=True:=eq_true ⟨_,Tryz.func234,of_decide_eq_false (by kernel_rfl),rfl⟩
theorem aQr:qp Tryz.prog 235=True:=eq_true ⟨_,Tryz.func235,of_decide_eq_false (by kernel_rfl),rfl⟩
theorem aQq:qp Tryz.prog 236=True:=eq_true ⟨_,Tryz.func236,of_decide_eq_false (by kernel_rfl),rfl⟩
theorem aQp:qp Tryz.prog 237=True:=eq_true ⟨_,Tryz.func237,of_decide_eq_false (by kernel_rfl),rfl⟩
theorem aQo:qp Tryz.prog 238=True:=eq_true ⟨_,Tryz.func238,of_decide_eq_false (by kernel_rfl),rfl⟩
theorem aQn:qp Tryz.prog 239=True:=eq_true ⟨_,Tryz.func239,of_decide_eq_false (by kernel_rfl),rfl⟩
theorem aQm:qp Tryz.prog 240=True:=eq_true ⟨_,Tryz.func240,of_decide_eq_false (by kernel_rfl),rfl⟩
theorem aQl:qp Tryz.prog 241=True:=eq_true ⟨_,Tryz.func241,of_decide_eq_false (by kernel_rfl),rfl⟩
theorem aQk:qp Tryz.prog 242=True:=eq_true ⟨_,Tryz.func242,of_decide_eq_false (by kernel_rfl),rfl⟩
theorem aQj:qp Tryz.prog 243=True:=eq_true ⟨_,Tryz.func243,of_decide_eq_false (by kernel_rfl),rfl⟩
theorem aQi:qp Tryz.prog 244=True:=eq_true ⟨_,Tryz.func244,of_decide_eq_false (by kernel_rfl),rfl⟩
theorem aQh:qp Tryz.prog 245=True:=eq_true ⟨_,Tryz.func245,of_decide_eq_false (by kernel_rfl),rfl⟩
theorem aQg:qp Tryz.prog 246=True:=eq_true ⟨_,Tryz.func246,of_decide_eq_false (by kernel_rfl),rfl⟩
theorem aQf:qp Tryz.prog 247=True:=eq_true ⟨_,Tryz.func247,of_decide_eq_false (by kernel_rfl),rfl⟩
theorem aQe:qp Tryz.prog 248=True:=eq_true ⟨_,Tryz.func248,of_decide_eq_false (by kernel_rfl),rfl⟩
theorem aQd:qp Tryz.prog 249=True:=eq_true ⟨_,Tryz.func249,of_decide_eq_false (by kernel_rfl),rfl⟩
theorem aQc:qp Tryz.prog 250=True:=eq_true ⟨_,Tryz.func250,of_decide_eq_false (by kernel_rfl),rfl⟩
theorem aQb:qp Tryz.prog 251=True:=eq_true ⟨_,Tryz.func251,of_decide_eq_false (by kernel_rfl),rfl⟩
theorem aQa:qp Tryz.prog 252=True:=eq_true ⟨_,Tryz.func252,of_decide_eq_false (by kernel_rfl),rfl⟩
theorem aP9:qp Tryz.prog 253=True:=eq_true ⟨_,Tryz.func253,of_decide_eq_false (by kernel_rfl),rfl⟩
theorem aP8:qp Tryz.prog 254=True:=eq_true ⟨_,Tryz.func254,of_decide_eq_false (by kernel_rfl),rfl⟩
theorem aP7:qp Tryz.prog 255=True:=eq_true ⟨_,Tryz.func255,of_decide_eq_false (by kernel_rfl),rfl⟩
theorem aP6:qp Tryz.prog 256=True:=eq_true ⟨_,Tryz.func256,of_decide_eq_false (by kernel_rfl),rfl⟩
theorem aP5:qp Tryz.prog 257=True:=eq_true ⟨_,Tryz.func257,of_decide_eq_false (by kernel_rfl),rfl⟩
theorem aP4:qp Tryz.prog 258=True:=eq_true ⟨_,Tryz.func258,of_decide_eq_false (by kernel_rfl),rfl⟩
theorem aP3:qp Tryz.prog 259=True:=eq_true ⟨_,Tryz.func259,of_decide_eq_false (by kernel_rfl),rfl⟩
theorem aP2:qp Tryz.prog 260=True:=eq_true ⟨_,Tryz.func260,of_decide_eq_false (by kernel_rfl),rfl⟩
theorem aP1:qp Tryz.prog 261=True:=eq_true ⟨_,Tryz.func261,of_decide_eq_false (by kernel_rfl),rfl⟩
theorem aP0:qp Tryz.prog 262=True:=eq_true ⟨_,Tryz.func262,of_decide_eq_false (by kernel_rfl),rfl⟩
theorem aPZ:qp Tryz.prog 263=True:=eq_true ⟨_,Tryz.func263,of_decide_eq_false (by kernel_rfl),rfl⟩
theorem aPY:qp Tryz.prog 264=True:=eq_true ⟨_,Tryz.func264,of_decide_eq_false (by kernel_rfl),rfl⟩
theorem aPX:qp Tryz.prog 265=True:=eq_true ⟨_,Tryz.func265,of_decide_eq_false (by kernel_rfl),rfl⟩
theorem aPW:qp Tryz.prog 266=True:=eq_true ⟨_,Tryz.func266,of_decide_eq_false (by kernel_rfl),rfl⟩
theorem aPV:qp Tryz.prog 267=True:=eq_true ⟨_,Tryz.func267,of_decide_eq_false (by kernel_rfl),rfl⟩
theorem aPU:qp Tryz.prog 268=True:=eq_true ⟨_,Tryz.func268,of_decide_eq_false (by kernel_rfl),rfl⟩
theorem aPT:qp Tryz.prog 269=True:=eq_true ⟨_,Tryz.func269,of_decide_eq_false (by kernel_rfl),rfl⟩
theorem aPS:qp Tryz.prog 270=True:=eq_true ⟨_,Tryz.func270,of_decide_eq_false (by kernel_rfl),rfl⟩
theorem aPR:qp Tryz.prog 271=True:=eq_true ⟨_,Tryz.func271,of_decide_eq_false (by kernel_rfl),rfl⟩
theorem aPQ:qp Tryz.prog 272=True:=eq_true ⟨_,Tryz.func272,of_decide_eq_false (by kernel_rfl),rfl⟩
theorem aPP:qp Tryz.prog 273=True:=eq_true ⟨_,Tryz.func273,of_decide_eq_false (by kernel_rfl),rfl⟩
theorem aPO:qp Tryz.prog 274=True:=eq_true ⟨_,Tryz.func274,of_decide_eq_false (by kernel_rfl),rfl⟩
theorem aPN:qp Tryz.prog 275=True:=eq_true ⟨_,Tryz.func275,of_decide_eq_false (by kernel_rfl),rfl⟩
theorem aPM:qp Tryz.prog 276=True:=eq_true ⟨_,Tryz.func276,of_decide_eq_false (by kernel_rfl),rfl⟩
theorem aPL:qp Tryz.prog 277=True:=eq_true ⟨_,Tryz.func277,of_decide_eq_false (by kernel_rfl),rfl⟩
theorem aPK:qp Tryz.prog 278=True:=eq_true ⟨_,Tryz.func278,of_decide_eq_false (by kernel_rfl),rfl⟩
theorem aPJ:qp Tryz.prog 279=True:=eq_true ⟨_,Tryz.func279,of_decide_eq_false (by kernel_rfl),rfl⟩
theorem aPI:qp Tryz.prog 280=True:=eq_true ⟨_,Tryz.func280,of_decide_eq_false (by kernel_rfl),rfl⟩
theorem aPH:qp Tryz.prog 281=True:=eq_true ⟨_,Tryz.func281,of_decide_eq_false (by kernel_rfl),rfl⟩
theorem aPG:qp Tryz.prog 282=True:=eq_true ⟨_,Tryz.func282,of_decide_eq_false (by kernel_rfl),rfl⟩
theorem aPF:qp Tryz.prog 283=True:=eq_true ⟨_,Tryz.func283,of_decide_eq_false (by kernel_rfl),rfl⟩
theorem aPE:qp Tryz.prog 284=True:=eq_true ⟨_,Tryz.func284,of_decide_eq_false (by kernel_rfl),rfl⟩
theorem aPD:qp Tryz.prog 285=True:=eq_true ⟨_,Tryz.func285,of_decide_eq_false (by kernel_rfl),rfl⟩
theorem aPC:qp Tryz.prog 286=True:=eq_true ⟨_,Tryz.func286,of_decide_eq_false (by kernel_rfl),rfl⟩
theorem aPB:qp Tryz.prog 287=True:=eq_true ⟨_,Tryz.func287,of_decide_eq_false (by kernel_rfl),rfl⟩
theorem aPA:qp Tryz.prog 288=True:=eq_true ⟨_,Tryz.func288,of_decide_eq_false (by kernel_rfl),rfl⟩
theorem aPz:qp Tryz.prog 289=True:=eq_true ⟨_,Tryz.func289,of_decide_eq_false (by kernel_rfl),rfl⟩
theorem aPy:qp Tryz.prog 290=True:=eq_true ⟨_,Tryz.func290,of_decide_eq_false (by kernel_rfl),rfl⟩
theorem aPx:qp Tryz.prog 291=True:=eq_true ⟨_,Tryz.func291,of_decide_eq_false (by kernel_rfl),rfl⟩
theorem aPw:qp Tryz.prog 292=True:=eq_true ⟨_,Tryz.func292,of_decide_eq_false (by kernel_rfl),rfl⟩
theorem aPv:qp Tryz.prog 293=True:=eq_true ⟨_,Tryz.func293,of_decide_eq_false (by kernel_rfl),rfl⟩
theorem aPu:qp Tryz.prog 294=True:=eq_true ⟨_,Tryz.func294,of_decide_eq_false (by kernel_rfl),rfl⟩
theorem aPt:qp Tryz.prog 295=True:=eq_true ⟨_,Tryz.func295,of_decide_eq_false (by kernel_rfl),rfl⟩
theorem aPs:qp Tryz.prog 296=True:=eq_true ⟨_,Tryz.func296,of_decide_eq_false (by kernel_rfl),rfl⟩
theorem aPr:qp Tryz.prog 297=True:=eq_true ⟨_,Tryz.func297,of_decide_eq_false (by kernel_rfl),rfl⟩
theorem aPq:qp Tryz.prog 298=True:=eq_true ⟨_,Tryz.func298,of_decide_eq_false (by kernel_rfl),rfl⟩
theorem aPp:qp Tryz.prog 299=True:=eq_true ⟨_,Tryz.func299,of_decide_eq_false (by kernel_rfl),rfl⟩
theorem aPo:qp Tryz.prog 300=True:=eq_true ⟨_,Tryz.func300,of_decide_eq_false (by kernel_rfl),rfl⟩
theorem aPn:qp Tryz.prog 301=True:=eq_true ⟨_,Tryz.func301,of_decide_eq_false (by kernel_rfl),rfl⟩
theorem aPm:qp Tryz.prog 302=True:=eq_true ⟨_,Tryz.func302,of_decide_eq_false (by kernel_rfl),rfl⟩
theorem aPl:qp Tryz.prog 303=True:=eq_true ⟨_,Tryz.func303,of_decide_eq_false (by kernel_rfl),rfl⟩
theorem aPk:qp Tryz.prog 304=True:=eq_true ⟨_,Tryz.func304,of_decide_eq_false (by kernel_rfl),rfl⟩
theorem aPj:qp Tryz.prog 305=True:=eq_true ⟨_,Tryz.func305,of_decide_eq_false (by kernel_rfl),rfl⟩
theorem aPi:qp Tryz.prog 330=True:=eq_true ⟨_,Tryz.func330,of_decide_eq_false (by kernel_rfl),rfl⟩
attribute [go_sem] ty1 aNg aH4 avw amp aNe aNf ty2 aNd aHC
attribute [go_sem] asm ak9 aNb aNc ty3 aNa aHd asd ak0 aM8
attribute [go_sem] aM9 ty4 aM7 aGO ar4 akO aM5 aM6 ty5 aM4
attribute [go_sem] aGp arV akF aM2 aM3 ty6 aM1 aF0 arM akw
attribute [go_sem] aMZ aM0 ty7 aMY aFE arE ako aMW aMX aSL
attribute [go_sem] aY7 aSK aY6 aSJ aY5 aSI aY4 bdZ ty8 aMV
attribute [go_sem] aFc aru ake aMT aMU aSH aY3 aSG aY2 aSF
attribute [go_sem] aY1 aSE aY0 bdY ty9 aMS aEN ark aj5 aMQ
attribute [go_sem] aMR bcE aId azz anO aim aIb aIc bcD aIa
attribute [go_sem] ay7 anE aic aH8 aH9 bcC aH7 ayC ans ah1
attribute [go_sem] aH5 aH6 bcB aH3 auD al6 agH aH1 aH2 bcA
attribute [go_sem] aH0 at8 alV agw aHY aHZ aYR bcz aHX atJ
attribute [go_sem] alM agn aHV aHW aYQ bcy aHU ath alz agc
attribute [go_sem] aHS aHT aK7 aOs bbg bcx aHR asV alr af4
attribute [go_sem] aHP aHQ aK6 aOr bbf bcw aHO asz alh afW
attribute [go_sem] aHM aHN aK5 aOq aK4 aOp bbe bcv aHL asp
attribute [go_sem] ald afS aHJ aHK aK3 aOo aK2 aOn bbd bcu
attribute [go_sem] aHI aso alb afR aHG aHH aK1 aOm aK0 aOl
attribute [go_sem] bbc bct aHF asn ala afQ aHD aHE aKZ aOk
attribute [go_sem] aKY aOj bbb bcs aHB asl ak8 afP aHz aHA
attribute [go_sem] bcr aHy ask ak7 afO aHw aHx bcq aHv asj
attribute [go_sem] ak6 afN aHt aHu bcp aHs asi ak5 afM aHq
attribute [go_sem] aHr bco aHp ash ak4 afL aHn aHo bcn aHm
attribute [go_sem] asg ak3 afK aHk aHl bcm aHj asf ak2 afJ
attribute [go_sem] aHh aHi bcl aHg ase ak1 afI aHe aHf bck
attribute [go_sem] aHc asc akZ afH aHa aHb aYP bcj aG9 asb
attribute [go_sem] akX afG aG7 aG8 aKX aOi aKW aOh bba bci
attribute [go_sem] aG6 asa akV afF aG4 aG5 aKV aOg aKU aOf
attribute [go_sem] ba9 bch aG3 ar9 akU afE aG1 aG2 bcg aG0
attribute [go_sem] ar8 akT afD aGY aGZ bcf aGX ar7 akS afC
attribute [go_sem] aGV aGW bce aGU ar6 akR afB aGS aGT bcd
attribute [go_sem] aGR ar5 akP afA aGP aGQ aKT aOe aKS aOd
attribute [go_sem] ba8 bcc aGN ar3 akN afz aGL aGM aKR aOc
attribute [go_sem] aKQ aOb ba7 bcb aGK ar2 akM afy aGI aGJ
attribute [go_sem] bca aGH ar1 akL afx aGF aGG bb9 aGE ar0
attribute [go_sem] akK afw aGC aGD bb8 aGB arZ akJ afv aGz
attribute [go_sem] aGA bb7 aGy arY akI afu aGw aGx bb6 aGv
attribute [go_sem] arX akH aft aGt aGu bb5 aGs arW akG afs
attribute [go_sem] aGq aGr bb4 aGo arU akE afr aGm aGn bb3
attribute [go_sem] aGl arT akD afq aGj aGk bb2 aGi arS akC
attribute [go_sem] afo aGg aGh aKP aOa aKO aN9 aKN aN8 aKM
attribute [go_sem] aN7 ba6 bb1 aGf arR akB afn aGd aGe aKL
attribute [go_sem] aN6 aKK aN5 aKJ aN4 aKI aN3 ba5 bb0 aGc
attribute [go_sem] arQ akA afm aGa aGb bbZ aF9 arP akz afl
attribute [go_sem] aF7 aF8 bbY aF6 arO aky afk aF4 aF5 bbX
attribute [go_sem] aF3 arN akx afj aF1 aF2 bbW aFZ arL akv
attribute [go_sem] afi aFX aFY bbV aFW arK aku afh aFU aFV
attribute [go_sem] bbU aFT arJ akt afg aFR aFS bbT aFQ arI
attribute [go_sem] aks aff aFO aFP bbS aFN arH akr afe aFL
attribute [go_sem] aFM bbR aFK arG akq afd aFI aFJ bbQ aFH
attribute [go_sem] arF akp afc aFF aFG bbP aFD arD akn afb
attribute [go_sem] aFB aFC bbO aFA arC akm afa aFy aFz bbN
attribute [go_sem] aFx arB akl ae9 aFv aFw bbM aFu arA akk
attribute [go_sem] ae8 aFs aFt bbL aFr arz akj ae7 aFp aFq
attribute [go_sem] bbK aFo ary aki ae6 aFm aFn bbJ aFl arx
attribute [go_sem] akh ae5 aFj aFk bbI aFi arw akg ae4 aFg
attribute [go_sem] aFh bbH aFf arv akf ae3 aFd aFe aKH aN2
attribute [go_sem] aKG aN1 aKF aN0 ba4 bbG aFb art akd ae2
attribute [go_sem] aE9 aFa aKE aNZ aKD aNY aKC aNX ba3 bbF
attribute [go_sem] aE8 ars akc ae1 aE6 aE7 bbE aE5 arq akb
attribute [go_sem] ae0 aE3 aE4 bbD aE2 arp aka aeZ aE0 aE1
attribute [go_sem] bbC aEZ aro aj9 aeY aEX aEY bbB aEW arn
attribute [go_sem] aj8 aeX aEU aEV bbA aET arm aj7 aeW aER
attribute [go_sem] aES bbz aEQ arl aj6 aeV aEO aEP aWu az3
attribute [go_sem] anY aiw acW az1 az2 aNG aWt az0 anX aiv
attribute [go_sem] acV azY azZ aB4 aI9 aB3 aI8 aTr aWs azX
attribute [go_sem] anW aiu acU azV azW aB2 aI7 aB1 aI6 aTq
attribute [go_sem] aWr azU anV ait acT azS azT aWq azR anU
attribute [go_sem] ais acS azP azQ aWp azO anT air acR azM
attribute [go_sem] azN aWo azL anS aiq acQ azJ azK aWn azI
attribute [go_sem] anR aip acP azG azH aWm azF anQ aio acO
attribute [go_sem] azD azE aWl azC anP ain acN azA azB aWk
attribute [go_sem] azy anN ail acM azw azx aB0 aI5 aBZ aI4
attribute [go_sem] aTp aWj azv anM aik acL azt azu aBY aI3
attribute [go_sem] aBX aI2 aTo aWi azs anL aij acK azq azr
attribute [go_sem] aWh azp anK aii acJ azn azo aWg azm anJ
attribute [go_sem] aih acI azk azl aWf azj anI aig acH azh
attribute [go_sem] azi aWe azg anH aif acG aze azf aWd azd
attribute [go_sem] anG aie acF azb azc aWc aza anF aid acE
attribute [go_sem] ay8 ay9 aWb ay6 anD aib acD ay4 ay5 aWa
attribute [go_sem] ay3 anC aia acC ay1 ay2 aV9 ay0 anB ah9
attribute [go_sem] acB ayY ayZ aV8 ayX anA ah8 acA ayV ayW
attribute [go_sem] aV7 ayU anz ah7 acz ayS ayT aV6 ayR anx
attribute [go_sem] ah6 acy ayP ayQ aV5 ayO anw ah5 acx ayM
attribute [go_sem] ayN aV4 ayL anv ah4 acw ayJ ayK aV3 ayI
attribute [go_sem] anu ah3 acv ayG ayH aV2 ayF ant ah2 acu
attribute [go_sem] ayD ayE aV1 ayB anr ah0 act ayz ayA aV0
attribute [go_sem] ayy anq ahZ acs ayw ayx aVZ ayv anp ahY
attribute [go_sem] acr ayt ayu aVY ays ano ahX acq ayq ayr
attribute [go_sem] aVX ayp ann ahW acp ayn ayo aVW aym anm
attribute [go_sem] ahV aco ayk ayl aVV ayj anl ahU acn ayh
attribute [go_sem] ayi aVU ayg ank ahT acm aye ayf aVT ayd
attribute [go_sem] anj ahS acl ayb ayc aVS aya ani ahR ack
attribute [go_sem] ax8 ax9 aVR ax7 anh ahQ acj ax5 ax6 aVQ
attribute [go_sem] ax4 ang ahP aci ax2 ax3 aBW aI1 aBV aI0
attribute [go_sem] aBU aIZ aTn aVP ax1 anf ahO ach axZ ax0
attribute [go_sem] aBT aIY aBS aIX aBR aIW aTm aVO axY ane
attribute [go_sem] ahN acg axW axX aVN axV anc ahM acf axT
attribute [go_sem] axU aVM axS anb ahL ace axQ axR aVL axP
attribute [go_sem] ana ahK acd axN axO aVK axM am9 ahJ acb
attribute [go_sem] axK axL aVJ axJ am8 ahI aca axH axI aVI
attribute [go_sem] axG am7 ahH ab9 axE axF aVH axD am6 ahG
attribute [go_sem] ab8 axB axC aVG axA am5 ahF ab7 axy axz
attribute [go_sem] aVF axx am4 ahE ab6 axv axw aNF aVE axu
attribute [go_sem] am3 ahD ab5 axs axt aBQ aIV aBP aIU aTl
attribute [go_sem] aVD axr am2 ahC ab4 axp axq aBO aIT aBN
attribute [go_sem] aIS aTk aVC axo am1 ahB ab3 axm axn aVB
attribute [go_sem] axl am0 ahA ab2 axj axk aNE aVA axi amZ
attribute [go_sem] ahz ab1 axg axh aBM aIR aBL aIQ aTj aVz
attribute [go_sem] axf amY ahy ab0 axd axe aBK aIP aBJ aIO
attribute [go_sem] aTi aVy axc amX ahx abZ axa axb aVx aw9
attribute [go_sem] amW ahw abY aw7 aw8 aVw aw6 amV ahv abX
attribute [go_sem] aw4 aw5 aVv aw3 amU ahu abW aw1 aw2 aVu
attribute [go_sem] aw0 amT aht abV awY awZ aVt awX amS ahs
attribute [go_sem] abU awU awW aVs awT amR ahr abT awR awS
attribute [go_sem] aVr awQ amQ ahq abS awO awP aVq awN amP
attribute [go_sem] ahp abR awL awM aVp awK amO aho abQ awI
attribute [go_sem] awJ aVo awH amN ahn abP awF awG aVn awE
attribute [go_sem] amM ahm abO awC awD aVm awB amL ahl abN
attribute [go_sem] awz awA aVl awy amK ahk abM aww awx aVk
attribute [go_sem] awv amJ ahj abL awt awu aVj aws amI ahi
attribute [go_sem] abK awq awr aVi awo amH ahh abJ awm awn
attribute [go_sem] aVh awl amG ahg abI awj awk aVg awi amF
attribute [go_sem] ahf abH awg awh aVf awf amE ahe abG awd
attribute [go_sem] awe aND aVe awc amD ahd abF awa awb aVd
attribute [go_sem] av9 amC ahc abE av7 av8 aVc av6 amB ahb
attribute [go_sem] abD av4 av5 aVb av3 amA aha abC av1 av2
attribute [go_sem] aVa av0 amz ag9 abB avY avZ aU9 avX amy
attribute [go_sem] ag8 abA avV avW aU8 avU amx ag7 abz avS
attribute [go_sem] avT aU7 avR amw ag6 aby avP avQ aU6 avO
attribute [go_sem] amv ag5 abx avM avN aU5 avL amu ag4 abw
attribute [go_sem] avJ avK aU4 avI amt ag3 abv avG avH aU3
attribute [go_sem] avF ams ag2 abu avD avE aU2 avC amr ag1
attribute [go_sem] abt avA avB aU1 avz amq ag0 abr avx avy
attribute [go_sem] aU0 avv amo agZ abq avt avu aUZ avs amn
attribute [go_sem] agY abp avq avr aUY avp amm agX abo avn
attribute [go_sem] avo aUX avm aml agW abn avk avl aUW avj
attribute [go_sem] amk agV abm avh avi aUV avg amj agU abl
attribute [go_sem] ave avf aUU avd ami agT abk avb avc aUT
attribute [go_sem] ava amh agS abj au8 au9 aUS au7 amg agR
attribute [go_sem] abi au5 au6 aUR au4 amf agQ abh au2 au3
attribute [go_sem] aUQ au1 ame agP abg auZ au0 aUP auY amd
attribute [go_sem] agO abf auW auX aUO auV amc agN abe auT
attribute [go_sem] auU aUN auS amb agM abd auQ auR aUM auP
attribute [go_sem] ama agL abc auN auO aUL auM al9 agK abb
attribute [go_sem] auK auL aUK auJ al8 agJ aba auH auI aUJ
attribute [go_sem] auG al7 agI aa9 auE auF aUI auC al5 agG
attribute [go_sem] aa8 auA auB aUH auz al4 agF aa7 aux auy
attribute [go_sem] aUG auw al3 agE aa6 auu auv aNC aUF aut
attribute [go_sem] al2 agD aa5 aur aus aUE auq al1 agC aa4
attribute [go_sem] auo aup aUD aun al0 agB aa3 aul aum aUC
attribute [go_sem] auk alZ agA aa2 aui auj aUB auh alY agz
attribute [go_sem] aa1 auf aug aUA aue alX agy aaZ auc aud
attribute [go_sem] aUz aub alW agx aaY at9 aua aUy at7 alU
attribute [go_sem] agv aaX at5 at6 aUx at4 alT agu aaW at2
attribute [go_sem] at3 aUw at1 alS agt aaV atZ at0 aUv atY
attribute [go_sem] alR ags aaU atW atX aUu atV alQ agr aaT
attribute [go_sem] atT atU aUt atS alP agq aaS atQ atR aUs
attribute [go_sem] atP alO agp aaR atN atO aUr atM alN ago
attribute [go_sem] aaQ atK atL aUq atI alL agm aaP atG atH
attribute [go_sem] aUp atF alK agl aaO atD atE aUo atC alJ
attribute [go_sem] agk aaN atA atB aUn atz alI agj aaM atx
attribute [go_sem] aty aUm atw alH agi aaL atu atv aUl att
attribute [go_sem] alG agh aaK atr ats aUk atq alD agf aaJ
attribute [go_sem] ato atp aUj atn alC age aaI atl atm aUi
attribute [go_sem] atk alB agd aaH ati atj aUh atg aly agb
attribute [go_sem] aaG ate atf aUg atd alx aga aaF atb atc
attribute [go_sem] aUf ata alw af9 aaE as8 as9 aUe as7 alv
attribute [go_sem] af8 aaD as5 as6 aUd as4 alu af7 aaC as2
attribute [go_sem] as3 aUc as1 alt af6 aaB asZ as0 aUb asY
attribute [go_sem] als af5 aaA asW asX aUa asU alp af3 aaz
attribute [go_sem] asS asT aT9 asR alo af2 aay asP asQ aT8
attribute [go_sem] asO aln af1 aax asM asN aT7 asL alm af0
attribute [go_sem] aaw asJ asK aT6 asI alk afZ aav asG asH
attribute [go_sem] aT5 asF alj afY aau asD asE aT4 asC ali
attribute [go_sem] afX aat asA asB aT3 asy alg afV aas asw
attribute [go_sem] asx aT2 asv alf afU aar ast asu aT1 ass
attribute [go_sem] ale afT aaq asq asr bdV bdU bdT bdS bdR
attribute [go_sem] bdQ bdP bdO baT baS baR baQ baP baO baN
attribute [go_sem] baM baL baK baJ baI baH baG baF baE baD
attribute [go_sem] baC baB baA baz bay bax baw bav bau bat
attribute [go_sem] bas bar baq bap bao ban bam bal bak baj
attribute [go_sem] bai bah bag baf bae bac bab baa aZ9 aZ8
attribute [go_sem] aZ7 aZ6 aZ5 aZ4 aZ3 aZ2 aZ1 aZ0 aZZ aZY
attribute [go_sem] aZX aZW aZV aZU aZT aZS aZR aZQ aZP aZO
attribute [go_sem] aZN aZM aZL aZK aZJ aZI aZH aZG aZF aZE
attribute [go_sem] aZD aZC aZB aZA aZz aZy aZx aZw aZv aZu
attribute [go_sem] aZt aZs aZr aSC aSB aSA aSz aSy aSx aSw
attribute [go_sem] aSv aSu aSt aSs aSr aSq aSp aSo aSn aSm
attribute [go_sem] aSl aSk aSj aSi aSh aSg aSf aSe aSd aSc
attribute [go_sem] aSb aSa aR9 aR8 aR7 aR6 aR5 aR4 aR3 aR2
attribute [go_sem] aR1 aR0 aRZ aRY aRX aRW aRV aRU aRT aRS
attribute [go_sem] aRR aRQ aRP aRO aRN aRM aRL aRK aRJ aRI
attribute [go_sem] aRH aRG aRF aRE aRD aRC aRB aRA aRz aRy
attribute [go_sem] aRx aRw aRv aRu aRt aRs aRr aRq aRp aRo
attribute [go_sem] aRn aRm aRl aRk aRj aRi aRh aRg aRf aRe
attribute [go_sem] aRd aRc aRb aRa aQ9 aQ8 aQ7 aQ6 aQ5 aQ4
attribute [go_sem] aQ3 aQ2 aQ1 aQ0 aQZ aQY aQX aQW aQV aQU
attribute [go_sem] aQT aQS aQR aQQ aQP aQO aQN aQM aQL aQK
attribute [go_sem] aQJ aQI aQH aQG aQF aQE aQD aQC aQB aQA
attribute [go_sem] aQz aQy aQx aQw aQv aQu aQt aQs aQr aQq
attribute [go_sem] aQp aQo aQn aQm aQl aQk aQj aQi aQh aQg
attribute [go_sem] aQf aQe aQd aQc aQb aQa aP9 aP8 aP7 aP6
attribute [go_sem] aP5 aP4 aP3 aP2 aP1 aP0 aPZ aPY aPX aPW
attribute [go_sem] aPV aPU aPT aPS aPR aPQ aPP aPO aPN aPM
attribute [go_sem] aPL aPK aPJ aPI aPH aPG aPF aPE aPD aPC
attribute [go_sem] aPB aPA aPz aPy aPx aPw aPv aPu aPt aPs
attribute [go_sem] aPr aPq aPp aPo aPn aPm aPl aPk aPj aPi
end Go.Ab
namespace Go.Ab
open Go Go.Proofs
set_option maxRecDepth 100000 in
theorem adT(U V:List Int)(j:Nat)(hU:gd U)(hV:gd V)(lU:U.length≤2000000)(h2:2≤V.length)(hj:j+V.length<U.length)(hv1:32768≤V.getD (V.length-1) 0)(hW:vl (U.drop j)<65536*vl V):
  Con Tryz.prog 296 true [.sl U.length (qc U),.sl V.length (qc V),.v (.int .i64 j)] [] (fun r hs bs=>∃q:Int,r=.v (.int .i64 q)∧hs=[]∧bs=[]∧(0≤q∧q<65536)∧vl (U.drop j)<(q+1)*vl V∧q*vl V<vl (U.drop j)+vl V):=by
 refine Con.of_aw Tryz.func296 rfl Tryz.ntmps296 (by simp) (by simp) (by simp) (W.sound ?_)
 show @W Tryz.prog 76 ⟨_⟩ ⟨fun x σ=>@qX _ _ _ ⟨_⟩ _ ⟨_⟩ x σ⟩ _ _
 have hDl:V.length<(U.drop j).length:=by simp;omega
 have hz:=aed (j7 hU j) hV hDl hW
 have hw:=aMI hDl h2 hz
 have hvv:=aEE h2
 rw[zR,zR,zR]at hw
 have hx0:=qP (jU (j7 hU j) (V.length-2))
 have hx1:=QN (jU (j7 hU j) (V.length-2))
 have hy0:=qP (jU hV (V.length-2))
 have hy1:=QN (jU hV (V.length-2))
 rw[List.length_take,Nat.min_eq_left (by omega)]at hx1 hy1
 have gu0:=qI hU (j+V.length)
 have gu1:=qI hU (j+(V.length-1))
 have gu2:=qI hU (j+(V.length-2))
 have gv1:=qI hV (V.length-1)
 have gv2:=qI hV (V.length-2)
 have htop:=aOW hw hvv ⟨hx0,hx1⟩ ⟨hy0,hy1⟩ gu2.1 gu1.1 gv2.2 hW
 have e0:((j:Int)+(V.length:Int)).toNat=j+V.length:=by omega
 have e1:((j:Int)+(V.length:Int)-1).toNat=j+(V.length-1):=by omega
 have e2:((j:Int)+(V.length:Int)-2).toNat=j+(V.length-2):=by omega
 have f1:((V.length:Int)-1).toNat=V.length-1:=by omega
 have f2:((V.length:Int)-2).toNat=V.length-2:=by omega
 simp(disch:=omega)only[go_sem]
 refine qt rfl [⟨0,[],[]⟩,⟨1,[],[]⟩,⟨2,[],[]⟩,⟨3,[],[]⟩,⟨4,[],[]⟩,⟨5,[],[]⟩,⟨6,[],[]⟩,⟨7,[5],[]⟩,⟨8,[5],[]⟩,⟨9,[5],[]⟩,⟨10,[5],[]⟩,⟨11,[5],[]⟩,⟨12,[5],[]⟩,⟨13,[5],[]⟩,⟨14,[],[]⟩,⟨15,[],[]⟩] (by kernel_rfl) ?_
 simp(disch:=omega)only[go_sem,e0,e1]
 generalize hu0:U.getD (j+V.length) 0=u0 at*
 generalize hu1:U.getD (j+(V.length-1)) 0=u1 at*
 generalize hu2:U.getD (j+(V.length-2)) 0=u2 at*
 refine⟨by omega,by omega,by omega,by omega,?_⟩
 refine qt rfl [⟨0,[],[]⟩,⟨1,[],[]⟩,⟨2,[],[]⟩,⟨3,[],[]⟩,⟨4,[],[]⟩,⟨5,[],[]⟩,⟨6,[],[]⟩,⟨7,[5],[]⟩,⟨8,[5],[]⟩,⟨9,[5],[]⟩,⟨10,[5],[]⟩,⟨11,[5],[]⟩,⟨12,[5],[]⟩,⟨13,[5],[]⟩,⟨14,[12],[]⟩,⟨15,[],[]⟩] (by kernel_rfl) ?_
 simp(disch:=omega)only[go_sem,f1]
 generalize hvv1:V.getD (V.length-1) 0=v1 at*
 generalize hvv2:V.getD (V.length-2) 0=v2 at*
 generalize htt:u0*65536+u1=top at*
 refine⟨by omega,by omega,by omega,by omega,by omega,by omega,?_⟩
 have hq0:0≤top/v1:=Int.ediv_nonneg (by omega) (by omega)
 have hq1:top/v1≤65537:=by
  have:top/v1<65538:=Int.ediv_lt_of_lt_mul (by omega) (by omega)
  omega
 have hr0:=Int.emod_nonneg top (show v1≠0 by omega)
 have hr1:=Int.emod_lt_of_pos top (show 0<v1 by omega)
 have hqr:=Int.emod_add_mul_ediv top v1
 have hini:=aJ4 hw hvv ⟨hx0,hx1⟩ ⟨hy0,hy1⟩ gu2 gv2.1 hq0 (show top<(top/v1+1)*v1 by rw[Int.add_mul,Int.mul_comm (top/v1)];omega)
 have hqr':top/v1*v1+top % v1=top:=by rw[Int.mul_comm];omega
 generalize top/v1=q0 at*
 generalize top % v1=r0 at*
 refine qg (fun x:Int×Int=>[(0,.sl U.length (qc U)),(1,.sl V.length (qc V)),(2,.v (.int .i64 j)),(7,.v (.int .i64 V.length)),(9,.v (.int .i64 x.1)),(10,.v (.int .i64 x.2))])
  (fun _=>[]) (fun x=>(0≤x.1∧x.1≤65537)∧(0≤x.2∧x.2<65536)∧x.1*v1+x.2=top∧vl (U.drop j)<(x.1+1)*vl V) (fun x=>x.1.toNat) (q0,r0) ⟨⟨hq0,hq1⟩,⟨hr0,by omega⟩,hqr',hini⟩
  (Le.lst [] _ _ rfl (by simp(disch:=omega)only[go_sem];try omega) (by simp(disch:=omega)only[go_sem])) ?_
 rintro⟨q,r⟩ ⟨hq,hr,hqr2,hlt⟩
 dsimp only at hq hr hqr2 hlt ⊢
 have hqv:0≤q*v2∧q*v2≤65537*65535:=⟨Int.mul_nonneg hq.1 gv2.1,Int.mul_le_mul hq.2 (by omega) gv2.1 (by omega)⟩
 simp(disch:=omega)only[go_sem]
 refine qt rfl [⟨0,[],[]⟩,⟨1,[],[]⟩,⟨2,[],[]⟩,⟨3,[],[]⟩,⟨4,[],[]⟩,⟨5,[],[]⟩,⟨6,[],[]⟩,⟨7,[],[]⟩,⟨8,[],[]⟩,⟨9,[],[]⟩,⟨10,[8],[]⟩,⟨11,[8],[]⟩,⟨12,[8],[]⟩,⟨13,[8],[]⟩,⟨14,[8],[]⟩,⟨15,[8],[]⟩,⟨16,[8],[]⟩,⟨17,[8],[]⟩,⟨18,[8],[]⟩,⟨19,[8],[]⟩,⟨20,[],[]⟩,⟨21,[],[]⟩] (by kernel_rfl) ?_
 simp(disch:=omega)only[go_sem]
 refine zz (fun h1=>?_) (fun h1=>?_)
 ·simp(disch:=omega)only[go_sem,h1,e2,f2,hu2,hvv2]
  refine⟨by omega,by omega,by omega,by omega,qe (fun h2=>?_) (fun h2=>?_)⟩
  ·simp(disch:=omega)only[go_sem,h2,f1,hvv1]
   have hst:=aoV hw hvv ⟨hx0,hx1⟩ ⟨hy0,hy1⟩ hW gv2.1 (by omega) hq.1 hqr2 (.inr h2)
   have hqp:0<q:=by
    rcases(by omega:0<q∨q=0)with h|h
    ·exact h
    ·subst h;omega
   have hm:(q-1)*v1+(r+v1)=top:=by rw[Int.sub_mul];omega
   refine⟨by omega,by omega,qe (fun h3=>?_) (fun h3=>?_)⟩
   ·simp(disch:=omega)only[go_sem,h3]
    have h4:q-1<65536:=by
     rcases(by omega:q-1<65536∨65536≤q-1)with h|h
     ·exact h
     ·have:=Int.mul_le_mul_of_nonneg_right h (show 0≤v1 by omega)
      omega
    have h5:(q-1)*v2≤(r+v1)*65536+u2:=by
     have:(q-1)*v2≤65535*65535:=Int.mul_le_mul (by omega) (by omega) gv2.1 (by omega)
     omega
    have h6:=adj hw hvv ⟨hx0,hx1⟩ ⟨hy0,hy1⟩ gv2.1 (by omega) ⟨by omega,h4⟩ hm h5
    exact qz (by simp(disch:=omega)only[go_sem]) (by simp(disch:=omega)only[go_sem]) ⟨q-1,rfl,rfl,rfl,⟨by omega,h4⟩,by rw[show q-1+1=q by omega];exact hst,h6⟩
   ·simp(disch:=omega)only[go_sem,h3]
    refine qb (q-1,r+v1) [] ⟨by show 0≤q-1∧q-1≤65537;omega,by show 0≤r+v1∧r+v1<65536;omega,hm,by show _<(q-1+1)*vl V;rw[show q-1+1=q by omega];exact hst⟩ (by show(q-1).toNat<q.toNat;omega) rfl (by simp(disch:=omega)only[go_sem];try omega) (by simp(disch:=omega)only[go_sem])
  ·simp(disch:=omega)only[go_sem,h2]
   have h6:=adj hw hvv ⟨hx0,hx1⟩ ⟨hy0,hy1⟩ gv2.1 (by omega) ⟨hq.1,by omega⟩ hqr2 (by omega)
   exact qz (by simp(disch:=omega)only[go_sem]) (by simp(disch:=omega)only[go_sem]) ⟨q,rfl,rfl,rfl,⟨hq.1,by omega⟩,hlt,h6⟩
 ·simp(disch:=omega)only[go_sem,h1,f1,hvv1]
  have hst:=aoV hw hvv ⟨hx0,hx1⟩ ⟨hy0,hy1⟩ hW gv2.1 (by omega) hq.1 hqr2 (.inl h1)
  have hqp:0<q:=by omega
  have hm:(q-1)*v1+(r+v1)=top:=by rw[Int.sub_mul];omega
  refine⟨by omega,by omega,qe (fun h3=>?_) (fun h3=>?_)⟩
  ·simp(disch:=omega)only[go_sem,h3]
   have h4:q-1<65536:=by
    rcases(by omega:q-1<65536∨65536≤q-1)with h|h
    ·exact h
    ·have:=Int.mul_le_mul_of_nonneg_right h (show 0≤v1 by omega)
     omega
   have h5:(q-1)*v2≤(r+v1)*65536+u2:=by
    have:(q-1)*v2≤65535*65535:=Int.mul_le_mul (by omega) (by omega) gv2.1 (by omega)
    omega
   have h6:=adj hw hvv ⟨hx0,hx1⟩ ⟨hy0,hy1⟩ gv2.1 (by omega) ⟨by omega,h4⟩ hm h5
   exact qz (by simp(disch:=omega)only[go_sem]) (by simp(disch:=omega)only[go_sem]) ⟨q-1,rfl,rfl,rfl,⟨by omega,h4⟩,by rw[show q-1+1=q by omega];exact hst,h6⟩
  ·simp(disch:=omega)only[go_sem,h3]
   refine qb (q-1,r+v1) [] ⟨by show 0≤q-1∧q-1≤65537;omega,by show 0≤r+v1∧r+v1<65536;omega,hm,by show _<(q-1+1)*vl V;rw[show q-1+1=q by omega];exact hst⟩ (by show(q-1).toNat<q.toNat;omega) rfl (by simp(disch:=omega)only[go_sem];try omega) (by simp(disch:=omega)only[go_sem])
end Go.Ab
namespace Go.Ab
open Go Go.Proofs
theorem KP(U V:List Int)(j:Nat)(q:Int)(hU:gd U)(hV:gd V)(lU:U.length≤2000000)(hj:j+V.length<U.length)(hq:0≤q∧q<65536):
  Con Tryz.prog 297 false [.rf 10000000 0 U.length,.sl V.length (qc V),.v (.int .i64 j),.v (.int .i64 q)] [.own 1 (qc U)]
   (fun r hs bs=>∃(U':List Int) (bo:Int),r=.v (.bool (decide (U.getD (j+V.length) 0-bo<0)))∧hs=[]∧bs=[.own 1 (qc (U'.set (j+V.length) (U.getD (j+V.length) 0-bo)))]∧
    U'.length=U.length∧gd U'∧(0≤bo∧bo<65536)∧(∀t,t<j∨j+V.length≤t→U'.getD t 0=U.getD t 0)∧vl U'-65536^(j+V.length)*bo=vl U-65536^j*(q*vl V)):=by
 refine Con.of_aw Tryz.func297 rfl Tryz.ntmps297 (by simp) (by simp) (by simp) (W.sound ?_)
 show @W Tryz.prog 68 ⟨_⟩ ⟨fun x σ=>@qX _ _ _ ⟨_⟩ _ ⟨_⟩ x σ⟩ _ _
 simp(disch:=omega)only[go_sem]
 refine qg (fun x:Nat×List Int×Int=>[(0,.rf 10000000 0 U.length),(1,.sl V.length (qc V)),(2,.v (.int .i64 j)),(3,.v (.int .i64 q)),(9,.v (.int .i64 x.2.2)),(13,.sl V.length (qc V)),(14,.v (.int .i64 V.length)),(15,.v (.int .i64 x.1))])
  (fun x=>[(10000000,.own 1 (qc x.2.1))])
  (fun x=>x.1≤V.length∧x.2.1.length=U.length∧gd x.2.1∧(0≤x.2.2∧x.2.2<65536)∧(∀t,t<j∨j+x.1≤t→x.2.1.getD t 0=U.getD t 0)∧vl x.2.1-65536^(j+x.1)*x.2.2=vl U-65536^j*(q*vl (V.take x.1)))
  (fun x=>V.length-x.1) (0,U,0) ⟨by simp,rfl,hU,by simp,fun _ _=>rfl,by simp[vl]⟩
  (Le.lst [] _ _ rfl (by simp(disch:=omega)only[go_sem];try omega) (by simp(disch:=omega)only[go_sem])) ?_
 rintro⟨i,U1,bo⟩ ⟨hi,hl1,hg1,hbo,hsame,hval⟩
 dsimp only at hi hl1 hg1 hbo hsame hval ⊢
 simp(disch:=omega)only[go_sem]
 refine qe (fun h1=>?_) (fun h1=>?_)
 ·have hx:=qI hV i
  have hu:=qI hg1 (j+i)
  have hqx:0≤q*V.getD i 0∧q*V.getD i 0≤65535*65535:=⟨Int.mul_nonneg hq.1 hx.1,Int.mul_le_mul (by omega) (by omega) hx.1 (by omega)⟩
  have e1:((j:Int)+(i:Int)).toNat=j+i:=by omega
  have hstep:∀d b:Int,d-65536*b=U1.getD (j+i) 0-q*V.getD i 0-bo→vl (U1.set (j+i) d)-65536^(j+(i+1))*b=vl U-65536^j*(q*vl (V.take (i+1))):=by
   intro d b hd
   rw[QC (by omega),qY,←Nat.add_assoc,Int.pow_succ]
   have e3:(65536:Int)^(j+i)=65536^j*65536^i:=Int.pow_add _ _ _
   rw[e3]at hval ⊢
   generalize (65536:Int)^i=Pi at*
   generalize (65536:Int)^j=Pj at*
   grind
  have hsm:∀d:Int,∀t,t<j∨j+(i+1)≤t→(U1.set (j+i) d).getD t 0=U.getD t 0:=fun d t ht=>by
   rw[je (by omega),if_neg (by omega)];exact hsame t (by omega)
  simp(disch:=omega)only[go_sem,h1,e1]
  refine⟨by omega,by omega,by omega,by omega,qe (fun h2=>?_) (fun h2=>?_)⟩
  ·simp(disch:=omega)only[go_sem,h2,e1]
   generalize hb:(0-(U1.getD (j+i) 0-q*V.getD i 0-bo)+65536-1)/65536=b
   refine⟨by omega,by omega,qb (i+1,U1.set (j+i) (U1.getD (j+i) 0-q*V.getD i 0-bo+b*65536),b) [] ⟨by show i+1≤_;omega,by simp[hl1],yA hg1 (by omega),by show 0≤b∧b<65536;omega,hsm _,hstep (U1.getD (j+i) 0-q*V.getD i 0-bo+b*65536) b (by omega)⟩
    (by show V.length-(i+1)<V.length-i;omega) rfl (by simp(disch:=omega)only[go_sem];try omega) (by simp(disch:=omega)only[go_sem])⟩
  ·simp(disch:=omega)only[go_sem,h2,e1]
   refine⟨by omega,by omega,qb (i+1,U1.set (j+i) (U1.getD (j+i) 0-q*V.getD i 0-bo),0) [] ⟨by show i+1≤_;omega,by simp[hl1],yA hg1 (by omega),by simp,hsm _,hstep (U1.getD (j+i) 0-q*V.getD i 0-bo) 0 (by omega)⟩
    (by show V.length-(i+1)<V.length-i;omega) rfl (by simp(disch:=omega)only[go_sem];try omega) (by simp(disch:=omega)only[go_sem])⟩
 ·have hiA:i=V.length:=by omega
  subst hiA
  rw[List.take_length]at hval
  have e1:((j:Int)+(V.length:Int)).toNat=j+V.length:=by omega
  have hu:=qI hg1 (j+V.length)
  have es:=hsame (j+V.length) (by omega)
  have eg:(U1.set (j+V.length) (U.getD (j+V.length) 0-bo)).getD (j+V.length) 0=U.getD (j+V.length) 0-bo:=by rw[je (by omega),if_pos rfl]
  simp(disch:=omega)only[go_sem,h1,e1,es]
  refine⟨by omega,by omega,by omega,by omega,by omega,by simp;omega,?_⟩
  simp(disch:=omega)only[go_sem,eg]
  refine qh [] [] [.own 1 (qc (U1.set (j+V.length) (U.getD (j+V.length) 0-bo)))] [.v (.bool (decide (U.getD (j+V.length) 0-bo<0)))] rfl (by simp(disch:=omega)only[go_sem]) (by simp(disch:=omega)only[go_sem]) (by simp) (by simp) ⟨U1,bo,rfl,rfl,rfl,hl1,hg1,hbo,hsame,hval⟩
theorem adV(U V:List Int)(j:Nat)(hU:∀t,t≠j+V.length→0≤U.getD t 0∧U.getD t 0<65536)(hUt: -65536≤U.getD (j+V.length) 0∧U.getD (j+V.length) 0<65536)(hV:gd V)(lU:U.length≤2000000)(hj:j+V.length<U.length):
  Con Tryz.prog 298 false [.rf 10000000 0 U.length,.sl V.length (qc V),.v (.int .i64 j)] [.own 1 (qc U)]
   (fun r hs bs=>∃(U':List Int),r=.tu []∧hs=[]∧bs=[.own 1 (qc U')]∧
    U'.length=U.length∧(∀t,t≠j+V.length→0≤U'.getD t 0∧U'.getD t 0<65536)∧(∀t,t<j∨j+V.length<t→U'.getD t 0=U.getD t 0)∧vl U'=vl U+65536^j*vl V):=by
 refine Con.of_aw Tryz.func298 rfl Tryz.ntmps298 (by simp) (by simp) (by simp) (W.sound ?_)
 show @W Tryz.prog 46 ⟨_⟩ ⟨fun x σ=>@qX _ _ _ ⟨_⟩ _ ⟨_⟩ x σ⟩ _ _
 simp(disch:=omega)only[go_sem]
 refine qg (fun x:Nat×List Int×Int=>[(0,.rf 10000000 0 U.length),(1,.sl V.length (qc V)),(2,.v (.int .i64 j)),(6,.v (.int .i64 x.2.2)),(9,.sl V.length (qc V)),(10,.v (.int .i64 V.length)),(11,.v (.int .i64 x.1))])
  (fun x=>[(10000000,.own 1 (qc x.2.1))])
  (fun x=>x.1≤V.length∧x.2.1.length=U.length∧(∀t,t≠j+V.length→0≤x.2.1.getD t 0∧x.2.1.getD t 0<65536)∧(0≤x.2.2∧x.2.2≤1)∧(∀t,t<j∨j+x.1≤t→x.2.1.getD t 0=U.getD t 0)∧vl x.2.1+65536^(j+x.1)*x.2.2=vl U+65536^j*vl (V.take x.1))
  (fun x=>V.length-x.1) (0,U,0) ⟨by simp,rfl,hU,by simp,fun _ _=>rfl,by simp[vl]⟩
  (Le.lst [] _ _ rfl (by simp(disch:=omega)only[go_sem];try omega) (by simp(disch:=omega)only[go_sem])) ?_
 rintro⟨i,U1,cy⟩ ⟨hi,hl1,hg1,hcy,hsame,hval⟩
 dsimp only at hi hl1 hg1 hcy hsame hval ⊢
 simp(disch:=omega)only[go_sem]
 refine qe (fun h1=>?_) (fun h1=>?_)
 ·have hx:=qI hV i
  have hu:=hg1 (j+i) (by omega)
  have e1:((j:Int)+(i:Int)).toNat=j+i:=by omega
  simp(disch:=omega)only[go_sem,h1,e1]
  generalize hb:cy+(U1.getD (j+i) 0+V.getD i 0)=b
  have hg2:∀t,t≠j+V.length→0≤(U1.set (j+i) (b % 65536)).getD t 0∧(U1.set (j+i) (b % 65536)).getD t 0<65536:=fun t ht=>by
   rw[je (by omega)]
   split
   ·omega
   ·exact hg1 t ht
  refine⟨by omega,by omega,by omega,by omega,by omega,by omega,qb (i+1,U1.set (j+i) (b % 65536),b/65536) [] ⟨by show i+1≤_;omega,by simp[hl1],hg2,by show 0≤b/65536∧b/65536≤1;omega,fun t ht=>?_,?_⟩
   (by show V.length-(i+1)<V.length-i;omega) rfl (by simp(disch:=omega)only[go_sem];try omega) (by simp(disch:=omega)only[go_sem])⟩
  ·show(U1.set (j+i) (b % 65536)).getD t 0=_
   have ht:t<j∨j+(i+1)≤t:=ht
   rw[je (by omega),if_neg (by omega)];exact hsame t (by omega)
  ·show vl (U1.set (j+i) (b % 65536))+65536^(j+(i+1))*(b/65536)=vl U+65536^j*vl (V.take (i+1))
   rw[QC (by omega),qY,←Nat.add_assoc,Int.pow_succ]
   have e3:(65536:Int)^(j+i)=65536^j*65536^i:=Int.pow_add _ _ _
   have e4:b % 65536+65536*(b/65536)=b:=Int.emod_add_mul_ediv b 65536
   rw[e3]at hval ⊢
   generalize (65536:Int)^i=Pi at*
   generalize (65536:Int)^j=Pj at*
   grind
 ·have hiA:i=V.length:=by omega
  subst hiA
  rw[List.take_length]at hval
  have e1:((j:Int)+(V.length:Int)).toNat=j+V.length:=by omega
  have es:=hsame (j+V.length) (by omega)
  simp(disch:=omega)only[go_sem,h1,e1,es]
  refine⟨by omega,by omega,by omega,by omega,?_⟩
  refine qh [] [] [.own 1 (qc (U1.set (j+V.length) (U.getD (j+V.length) 0+cy)))] [] rfl (by simp(disch:=omega)only[go_sem]) (by simp(disch:=omega)only[go_sem]) (by simp) (by simp) ⟨_,rfl,rfl,rfl,by simp[hl1],fun t ht=>?_,fun t ht=>?_,?_⟩
  ·rw[je (by omega),if_neg ht];exact hg1 t ht
  ·rw[je (by omega),if_neg (by omega)];exact hsame t (by omega)
  ·rw[QC (by omega),es]
   generalize (65536:Int)^(j+V.length)=Pj at*
   grind
end Go.Ab
namespace Go.Ab
open Go Go.Proofs
theorem jg(xs:List Int)(hl:xs.length≤2^40):Con Tryz.prog 254 false [.rf 10000000 0 xs.length] [.own 1 (qc xs)] (fun r hs bs=>r=.rf 10000000 0 (ZO xs).length∧hs=[]∧bs=[.own 1 (qc xs)]):=by
 refine Con.of_aw Tryz.func254 rfl Tryz.ntmps254 (by simp) (by simp) (by simp) (W.sound ?_)
 show @W Tryz.prog 21 ⟨_⟩ ⟨fun x σ=>@qX _ _ _ ⟨_⟩ _ ⟨_⟩ x σ⟩ _ _
 simp(disch:=omega)only[go_sem]
 refine qg (fun m:Nat=>[(0,.rf 10000000 0 m)]) (fun _=>[(10000000,.own 1 (qc xs))]) (fun m=>m≤xs.length∧ZO (xs.take m)=ZO xs) id xs.length ⟨Nat.le_refl _,by simp⟩
  (Le.lst [] _ _ rfl (by simp(disch:=omega)only[go_sem];try omega) (by simp(disch:=omega)only[go_sem])) ?_
 intro m ⟨hm,hx⟩
 have hmx:∀k,k+1=m→xs.take m=xs.take k++[xs.getD k 0]:=fun k hk=>by rw[←hk];exact jB (by omega)
 simp(disch:=omega)only[go_sem]
 refine qe (fun h1=>?_) (fun h1=>?_)
 ·obtain⟨k,rfl⟩:∃k,m=k+1:=⟨m-1,by omega⟩
  have e1:((k+1:Nat):Int)-1=(k:Nat):=by omega
  rw[hmx k rfl]at hx
  simp(disch:=omega)only[go_sem,h1,e1]
  refine⟨by omega,by omega,qe (fun h2=>?_) (fun h2=>?_)⟩
  ·simp(disch:=omega)only[go_sem,h2,e1]
   rw[h2,Qb]at hx
   refine⟨by omega,qb k [] ⟨by omega,hx⟩ (by show k<k+1;omega) rfl (by simp(disch:=omega)only[go_sem];try omega) (by simp(disch:=omega)only[go_sem])⟩
  ·simp(disch:=omega)only[go_sem,h2]
   refine qh [] [] [.own 1 (qc xs)] [.rf 10000000 0 (k+1)] rfl (by simp(disch:=omega)only[go_sem]) (by simp(disch:=omega)only[go_sem]) (by simp) (by simp) ⟨?_,rfl,rfl⟩
   rw[Ys _ h2,←hmx k rfl]at hx
   rw[←hx,List.length_take,Nat.min_eq_left hm];rfl
 ·simp(disch:=omega)only[go_sem,h1]
  refine qh [] [] [.own 1 (qc xs)] [.rf 10000000 0 m] rfl (by simp(disch:=omega)only[go_sem]) (by simp(disch:=omega)only[go_sem]) (by simp) (by simp) ⟨?_,rfl,rfl⟩
  have:m=0:=by omega
  subst this
  rw[←hx];rfl
end Go.Ab
namespace Go.Ab
open Go Go.Proofs
theorem aoK{x y:Int}(hx:0≤x∧x<65536)(hy:0≤y∧y<65536):0≤x*y∧x*y≤4294836225:=by
 have h1:=Int.mul_nonneg hx.1 hy.1
 have h2:x*y≤65535*65535:=Int.mul_le_mul (by omega) (by omega) hy.1 (by omega)
 omega
theorem apI(cl:Bool)(A B:List Int)(hA:gd A)(hB:gd B)(lA:A.length≤1000000)(lB:B.length≤1000000):
  Con Tryz.prog 218 cl [.sl A.length (qc A),.sl B.length (qc B)] [] (aq3 (lim (vl A*vl B).toNat)):=by
 refine Con.of_aw Tryz.func218 rfl Tryz.ntmps218 (by simp) (by simp) (by simp) (W.sound ?_)
 show @W Tryz.prog 63 ⟨_⟩ ⟨fun x σ=>@qX _ _ _ ⟨_⟩ _ ⟨_⟩ x σ⟩ _ _
 simp(disch:=omega)only[go_sem]
 refine⟨⟨by omega,by omega,by omega⟩,?_⟩
 refine qg (fun x:Nat×List Int=>[(1,.sl B.length (qc B)),(5,.rf 180000000 0 (A.length+B.length)),(17,.sl A.length (qc A)),(18,.v (.int .i64 A.length)),(19,.v (.int .i64 x.1))])
  (fun x=>[(180000000,.own 1 (qc x.2))])
  (fun x=>x.1≤A.length∧x.2.length=A.length+B.length∧gd x.2∧vl x.2=vl (A.take x.1)*vl B∧∀j,x.1+B.length≤j→x.2.getD j 0=0)
  (fun x=>A.length-x.1) (0,List.replicate (A.length+B.length) 0) ⟨by simp,by simp,zj _,by simp[zI,vl],fun j _=>by
   rw[List.getD_eq_getElem?_getD,List.getElem?_replicate];split<;>rfl⟩
  (Le.lst [] _ _ rfl (by simp(disch:=omega)only[go_sem];try omega) (by simp(disch:=omega)only[go_sem,show((A.length:Int)+(B.length:Int)).toNat=A.length+B.length by omega])) ?_
 rintro⟨i,out⟩ ⟨hi,hol,hog,hov,hoz⟩
 dsimp only at hi hol hog hov hoz ⊢
 simp(disch:=omega)only[go_sem]
 refine qe (fun h1=>?_) (fun h1=>?_)
 ·have hx:=qI hA i
  simp(disch:=omega)only[go_sem,h1]
  refine⟨by omega,by omega,?_⟩
  refine qg (fun x:Nat×List Int×Int=>[(1,.sl B.length (qc B)),(5,.rf 180000000 0 (A.length+B.length)),(17,.sl A.length (qc A)),(18,.v (.int .i64 A.length)),(19,.v (.int .i64 i)),(6,.v (.int .i64 i)),
    (7,.v (.int .i64 (A.getD i 0))),(8,.v (.int .i64 x.2.2)),(24,.sl B.length (qc B)),(25,.v (.int .i64 B.length)),(26,.v (.int .i64 x.1))])
   (fun x=>[(180000000,.own 1 (qc x.2.1))])
   (fun x=>x.1≤B.length∧x.2.1.length=A.length+B.length∧gd x.2.1∧(0≤x.2.2∧x.2.2<65536)∧vl x.2.1+65536^(i+x.1)*x.2.2=vl out+65536^i*(A.getD i 0*vl (B.take x.1))∧∀j,i+B.length≤j→x.2.1.getD j 0=0)
   (fun x=>B.length-x.1) (0,out,0) ⟨by simp,hol,hog,by simp,by simp[vl],hoz⟩
   (Le.lst [] _ _ rfl (by simp(disch:=omega)only[go_sem];try omega) (by simp(disch:=omega)only[go_sem])) ?_
  rintro⟨j,o2,cy⟩ ⟨hj,hol2,hog2,hcy,hov2,hoz2⟩
  dsimp only at hj hol2 hog2 hcy hov2 hoz2 ⊢
  simp(disch:=omega)only[go_sem]
  refine qe (fun h2=>?_) (fun h2=>?_)
  ·have hy:=qI hB j
   have ho:=qI hog2 (i+j)
   have hxy:=aoK hx hy
   have e1:((i:Int)+(j:Int)).toNat=i+j:=by omega
   simp(disch:=omega)only[go_sem,h2,e1]
   generalize hq:cy+(o2.getD (i+j) 0+A.getD i 0*B.getD j 0)=q
   refine⟨by omega,by omega,by omega,by omega,by omega,by omega,qb (j+1,o2.set (i+j) (q % 65536),q/65536) [] ⟨by show j+1≤_;omega,by simp[hol2],yA hog2 (by omega),by show 0≤q/65536∧q/65536<65536;omega,?_,fun k hk=>?_⟩
    (by show B.length-(j+1)<B.length-j;omega) rfl (by simp(disch:=omega)only[go_sem];try omega) (by simp(disch:=omega)only[go_sem])⟩
   ·show vl (o2.set (i+j) (q % 65536))+65536^(i+(j+1))*(q/65536)=vl out+65536^i*(A.getD i 0*vl (B.take (j+1)))
    rw[QC (by omega),zZ (by omega),←Nat.add_assoc,Int.pow_succ]
    have e2:(65536:Int)^(i+j)=65536^i*65536^j:=Int.pow_add _ _ _
    have e3:q % 65536+65536*(q/65536)=q:=Int.emod_add_mul_ediv q 65536
    rw[e2]at hov2 ⊢
    generalize (65536:Int)^i=Pi at*
    generalize (65536:Int)^j=Pj at*
    grind
   ·show(o2.set (i+j) (q % 65536)).getD k 0=0
    rw[List.getD_eq_getElem?_getD,List.getElem?_set_ne (by omega),←List.getD_eq_getElem?_getD]
    exact hoz2 k hk
  ·simp(disch:=omega)only[go_sem,h2]
   have e1:((i:Int)+(B.length:Int)).toNat=i+B.length:=by omega
   have hjB:j=B.length:=by omega
   subst hjB
   rw[List.take_length]at hov2
   simp(disch:=omega)only[go_sem,e1]
   refine⟨by omega,by omega,qb (i+1,o2.set (i+B.length) cy) [] ⟨by show i+1≤_;omega,by simp[hol2],yA hog2 hcy,?_,fun k hk=>?_⟩ (by show A.length-(i+1)<A.length-i;omega) rfl (by simp(disch:=omega)only[go_sem];try omega) (by simp(disch:=omega)only[go_sem])⟩
   ·show vl (o2.set (i+B.length) cy)=vl (A.take (i+1))*vl B
    rw[QC (by omega),hoz2 _ (Nat.le_refl _),zZ (by omega)]
    generalize (65536:Int)^i=Pi at*
    grind
   ·show(o2.set (i+B.length) cy).getD k 0=0
    rw[List.getD_eq_getElem?_getD,List.getElem?_set_ne (by show i+B.length≠k;omega),←List.getD_eq_getElem?_getD]
    exact hoz2 k (by omega)
 ·simp(disch:=omega)only[go_sem,h1]
  have hiA:i=A.length:=by omega
  subst hiA
  rw[List.take_length]at hov
  refine q6 false [180000000] (jg out (by omega)) (by rw[←hol];simp(disch:=omega)only[go_sem]) (by simp(disch:=omega)only[go_sem]) rfl (qQ (z:=1) (cs:=qc out) (by simp(disch:=omega)only[go_sem]) (by simp(disch:=omega)only[go_sem])) (by intro n hn;exact⟨_,List.mem_singleton.2 rfl,by rw[List.mem_singleton.1 hn];rfl⟩) ?_
  rintro r hs bs ⟨rfl,rfl,rfl⟩ _
  refine⟨by simp[qK],?_⟩
  simp(disch:=omega)only[go_sem]
  obtain⟨z,hz⟩:=zF out
  have hc:=zX hog
  rw[hov]at hc
  rw[hc]at hz ⊢
  refine qh [(0,180000000)] [.own 1 (qc out)] [] [.rf 0 0 (lim (vl A*vl B).toNat).length] rfl (by simp(disch:=omega)only[go_sem]) (by simp(disch:=omega)only[go_sem]) (by simp) (by intro _;simp[zh,AV.pu,AV.pu.puL,Ob.pu,qZ]) (.inr ⟨List.replicate z 0,rfl,by rw[←hz]⟩)
end Go.Ab
namespace Go.Ab
open Go Go.Proofs
theorem apM(cl:Bool)(n:Nat)(hn:n<2^63):Con Tryz.prog 189 cl [.v (.int .i64 n)] [] (aq3 (lim n)):=by
 refine Con.of_aw Tryz.func189 rfl Tryz.ntmps189 (by simp) (by simp) (by simp) (W.sound ?_)
 show @W Tryz.prog 14 ⟨_⟩ ⟨fun x σ=>@qX _ _ _ ⟨_⟩ _ ⟨_⟩ x σ⟩ _ _
 simp(disch:=omega)only[go_sem]
 refine qg (fun x:Nat×List Int=>[(0,.v (.int .i64 x.1)),(3,.rf 1 0 x.2.length)]) (fun x=>[(1,.own 1 (qc x.2))]) (fun x=>x.1<2^63∧x.2++lim x.1=lim n) (fun x=>x.1) (n,[]) ⟨hn,rfl⟩
  ((Le.ghost 3 1 1 (by simp(disch:=omega)only[go_sem]) (by simp(disch:=omega)only[go_sem])).trans (Le.lst [] _ _ rfl (by simp(disch:=omega)only[go_sem]) (by simp(disch:=omega)only[go_sem]))) ?_
 rintro⟨k,l⟩ ⟨hk,hl⟩
 dsimp only at hk hl ⊢
 have hlen:l.length≤4:=by
  have h1:=congrArg List.length hl
  have h2:=jx (n:=n) (k:=4) |>.2 (by omega)
  rw[List.length_append]at h1;omega
 simp(disch:=omega)only[go_sem]
 refine qe (fun h1=>?_) (fun h1=>?_)
 ·simp(disch:=omega)only[go_sem,h1]
  have hk0:k≠0:=by omega
  refine⟨by omega,qb (k/65536,l++[(k:Int) % 65536]) [(1,140000000)] ⟨by show k/65536<2^63;omega,?_⟩ (by show k/65536<k;omega) rfl (by simp(disch:=omega)only[go_sem,List.length_append];omega) (by simp(disch:=omega)only[go_sem])⟩
  rw[jT hk0]at hl
  rw[←hl,List.append_assoc];rfl
 ·simp(disch:=omega)only[go_sem,h1]
  have hk0:k=0:=by omega
  subst hk0
  rw[qn,List.append_nil]at hl
  subst hl
  refine qh [(0,1)] [.own 1 (qc (lim n++[]))] [] [.rf 0 0 (lim n).length] rfl (by simp(disch:=omega)only[go_sem]) (by simp(disch:=omega)only[go_sem]) (by simp) (by intro _;simp[zh,AV.pu,AV.pu.puL,Ob.pu,qZ]) (.inr ⟨[],rfl,rfl⟩)
end Go.Ab
namespace Go.Ab
open Go Go.Proofs
theorem j2(k:Nat)(h:k<16):(0:Int)<2^k∧(2:Int)^k≤32768:=by
 have:∀k,k<16→(0:Int)<2^k∧(2:Int)^k≤32768:=by decide
 exact this k h
theorem aoJ{x:Int}(hx:0≤x∧x<65536){k:Nat}(hk:k<16):0≤x*2^k∧x*2^k≤2147450880:=by
 obtain⟨h1,h2⟩:=j2 k hk
 have h3:=Int.mul_nonneg hx.1 (Int.le_of_lt h1)
 have h4:x*2^k≤65535*32768:=Int.mul_le_mul (by omega) h2 (by omega) (by omega)
 omega
theorem Km(k:Nat):(65536:Int)^(k/16)*2^(k % 16)=2^k:=by
 have e:(65536:Int)=2^16:=by decide
 rw[e,←Int.pow_mul,←Int.pow_add,Nat.div_add_mod]
theorem aS7(cl:Bool)(A:List Int)(k:Nat)(hA:gd A)(lA:A.length≤1000000)(hk:k≤100000000):
  Con Tryz.prog 195 cl [.sl A.length (qc A),.v (.int .i64 k)] [] (aq3 (lim (vl A*2^k).toNat)):=by
 refine Con.of_aw Tryz.func195 rfl Tryz.ntmps195 (by simp) (by simp) (by simp) (W.sound ?_)
 show @W Tryz.prog 46 ⟨_⟩ ⟨fun x σ=>@qX _ _ _ ⟨_⟩ _ ⟨_⟩ x σ⟩ _ _
 simp(disch:=omega)only[go_sem]
 refine qe (fun h0=>?_) (fun h0=>?_)
 ·simp(disch:=omega)only[go_sem,h0]
  have:A=[]:=List.length_eq_zero_iff.1 (by omega)
  subst this
  refine qh [] [] [] [.v (.slice none 0 0)] rfl (by simp(disch:=omega)only[go_sem]) (by simp(disch:=omega)only[go_sem]) (by simp) (by intro _;simp[zh,AV.pu,AV.pu.puL,Ob.pu,qZ]) (.inl ⟨by simp[vl,qn],rfl,rfl⟩)
 ·simp(disch:=omega)only[go_sem,h0]
  refine⟨by omega,?_⟩
  have e16:((k:Int)/16).toNat=k/16:=by omega
  refine qg (fun x:Nat×List Int×Int=>[(1,.v (.int .i64 k)),(5,.rf 1 0 x.2.1.length),(6,.v (.int .i64 x.2.2)),(21,.sl A.length (qc A)),(22,.v (.int .i64 A.length)),(23,.v (.int .i64 x.1))])
   (fun x=>[(1,.own 1 (qc x.2.1))])
   (fun x=>x.1≤A.length∧x.2.1.length=k/16+x.1∧gd x.2.1∧(0≤x.2.2∧x.2.2<65536)∧vl x.2.1+65536^(k/16+x.1)*x.2.2=65536^(k/16)*2^(k % 16)*vl (A.take x.1))
   (fun x=>A.length-x.1) (0,List.replicate (k/16) 0,0) ⟨by simp,by simp,zj _,by simp,by simp[vl,zI]⟩
   (Le.lst [(1,220000000)] _ _ rfl (by simp(disch:=omega)only[go_sem,List.length_replicate,e16]) (by simp(disch:=omega)only[go_sem,e16])) ?_
  rintro⟨i,out,cy⟩ ⟨hi,hol,hog,hcy,hov⟩
  dsimp only at hi hol hog hcy hov ⊢
  simp(disch:=omega)only[go_sem]
  refine qe (fun h1=>?_) (fun h1=>?_)
  ·have hx:=qI hA i
   have hxs:=aoJ hx (show k % 16<16 by omega)
   have em:min ((k:Int) % 16).toNat 64=k % 16:=by omega
   simp(disch:=omega)only[go_sem,h1,em]
   generalize hq:cy+A.getD i 0*2^(k % 16)=q
   refine⟨by omega,by omega,by omega,by omega,qb (i+1,out++[q % 65536],q/65536) [(1,390000000)] ⟨by show i+1≤_;omega,by simp[hol];omega,qJ.2 ⟨hog,jl.2 (by omega)⟩,by show 0≤q/65536∧q/65536<65536;omega,?_⟩ (by show A.length-(i+1)<A.length-i;omega) rfl (by simp(disch:=omega)only[go_sem,List.length_append];try omega) (by simp(disch:=omega)only[go_sem])⟩
   show vl (out++[q % 65536])+65536^(k/16+(i+1))*(q/65536)=65536^(k/16)*2^(k % 16)*vl (A.take (i+1))
   rw[ju,qY,hol,←Nat.add_assoc,Int.pow_succ]
   have e3:q % 65536+65536*(q/65536)=q:=Int.emod_add_mul_ediv q 65536
   rw[Int.pow_add]at hov ⊢
   generalize (65536:Int)^i=Pi at*
   generalize (65536:Int)^(k/16)=Pk at*
   generalize (2:Int)^(k % 16)=Pm at*
   grind
  ·simp(disch:=omega)only[go_sem,h1]
   have hiA:i=A.length:=by omega
   subst hiA
   rw[List.take_length,Km]at hov
   have hov2:vl (out++[cy])=vl A*2^k:=by rw[ju,hol,hov];grind
   have hog2:gd (out++[cy]):=qJ.2 ⟨hog,jl.2 hcy⟩
   refine⟨by omega,?_⟩
   have hl2:out.length+1=(out++[cy]).length:=by simp
   rw[hl2]
   refine q6 false [460000000] (jg (out++[cy]) (by simp;omega)) (by simp(disch:=omega)only[go_sem]) (by simp(disch:=omega)only[go_sem]) rfl (qQ (z:=1) (cs:=qc (out++[cy])) (by simp(disch:=omega)only[go_sem]) (by simp(disch:=omega)only[go_sem])) (by intro n hn;exact⟨_,List.mem_singleton.2 rfl,by rw[List.mem_singleton.1 hn];rfl⟩) ?_
   rintro r hs bs ⟨rfl,rfl,rfl⟩ _
   refine⟨by simp[qK],?_⟩
   simp(disch:=omega)only[go_sem]
   obtain⟨z,hz⟩:=zF (out++[cy])
   have hc:=zX hog2
   rw[hov2]at hc
   rw[hc]at hz ⊢
   refine qh [(0,460000000)] [.own 1 (qc (out++[cy]))] [] [.rf 0 0 (lim (vl A*2^k).toNat).length] rfl (by simp(disch:=omega)only[go_sem]) (by simp(disch:=omega)only[go_sem]) (by simp) (by intro _;simp[zh,AV.pu,AV.pu.puL,Ob.pu,qZ]) (.inr ⟨List.replicate z 0,rfl,by rw[←hz]⟩)
end Go.Ab
namespace Go.Ab
open Go Go.Proofs
theorem aBe(V P:Int)(hP:0<P):V % (P*65536)=V % P+P*(V/P % 65536):=by
 rw[Int.emod_def,Int.emod_def,Int.emod_def,←Int.ediv_ediv_of_nonneg (Int.le_of_lt hP)]
 grind
theorem aAH{s:Nat}(hs:s<16):(65536:Int)=2^s*2^(16-s):=by
 rw[←Int.pow_add,show s+(16-s)=16 by omega];decide
theorem ajb{D:List Int}(hD:gd D){i s:Nat}(hi:i<D.length)(hs:s<16):
  (vl D/2^s)/65536^i % 65536=(D.getD i 0+D.getD (i+1) 0*65536)/2^s % 65536:=by
 have h2:=(j2 s hs).1
 rw[Int.ediv_ediv_of_nonneg (Int.le_of_lt h2),Int.mul_comm,←Int.ediv_ediv_of_nonneg (Int.le_of_lt (Int.pow_pos (by omega))),aec hD (by omega),zy hi]
 have h3:vl (D.drop (i+1))=D.getD (i+1) 0+65536*vl (D.drop (i+2)):=by
  rcases Nat.lt_or_ge (i+1) D.length with h|h
  ·exact zy h
  ·rw[List.drop_of_length_le h,List.drop_of_length_le (by omega),List.getD_eq_getElem?_getD,List.getElem?_eq_none h];simp[vl]
 rw[h3]
 have e:D.getD i 0+65536*(D.getD (i+1) 0+65536*vl (D.drop (i+2)))=(D.getD i 0+D.getD (i+1) 0*65536)+2^s*(65536*(2^(16-s)*vl (D.drop (i+2)))):=by
  have:=aAH hs
  generalize (2:Int)^s=a at*
  generalize (2:Int)^(16-s)=b at*
  grind
 rw[e,Int.add_mul_ediv_left _ _ (by omega),Int.add_mul_emod_self_left]
theorem aot{a b:Nat}(h:a≤b):(65536:Int)^a≤65536^b:=by
 obtain⟨d,rfl⟩:=Nat.exists_eq_add_of_le h
 have h1:(0:Int)<65536^a:=Int.pow_pos (by omega)
 have h2:(0:Int)<65536^d:=Int.pow_pos (by omega)
 have h3:=Int.mul_le_mul_of_nonneg_left (show(1:Int)≤65536^d by omega) (Int.le_of_lt h1)
 rw[Int.mul_one,←Int.pow_add]at h3
 exact h3
theorem aCx(cl:Bool)(A:List Int)(k:Nat)(hA:gd A)(lA:A.length≤1000000)(hk:k≤100000000):
  Con Tryz.prog 216 cl [.sl A.length (qc A),.v (.int .i64 k)] [] (aq3 (lim (vl A/2^k).toNat)):=by
 refine Con.of_aw Tryz.func216 rfl Tryz.ntmps216 (by simp) (by simp) (by simp) (W.sound ?_)
 show @W Tryz.prog 52 ⟨_⟩ ⟨fun x σ=>@qX _ _ _ ⟨_⟩ _ ⟨_⟩ x σ⟩ _ _
 have hvk:vl A/2^k=vl A/65536^(k/16)/2^(k % 16):=by
  rw[Int.ediv_ediv_of_nonneg (Int.le_of_lt (Int.pow_pos (by omega))),Km]
 simp(disch:=omega)only[go_sem]
 refine qe (fun h0=>?_) (fun h0=>?_)
 ·simp(disch:=omega)only[go_sem,h0]
  have hz:vl A/2^k=0:=by
   rw[hvk,Int.ediv_eq_zero_of_lt (qP hA)]
   ·simp
   ·refine Int.lt_of_lt_of_le (QN hA) ?_
    exact aot (by omega)
  rw[hz]
  refine qh [] [] [] [.v (.slice none 0 0)] rfl (by simp(disch:=omega)only[go_sem]) (by simp(disch:=omega)only[go_sem]) (by simp) (by intro _;simp[zh,AV.pu,AV.pu.puL,Ob.pu,qZ]) (.inl ⟨by simp[qn],rfl,rfl⟩)
 ·have e16:((k:Int)/16).toNat=k/16:=by omega
  have e17:((A.length:Int)-(k:Int)/16).toNat=(A.drop (k/16)).length:=by simp;omega
  have e18:(A.drop (k/16)).take (A.drop (k/16)).length=A.drop (k/16):=List.take_length
  have hvD:=aec hA (i:=k/16) (by omega)
  have hlD:(A.drop (k/16)).length≤1000000:=by simp;omega
  have hD:=j7 hA (k/16)
  simp(disch:=omega)only[go_sem,h0,e16,e17,e18]
  generalize A.drop (k/16)=D at*
  refine⟨by omega,by omega,?_⟩
  refine qg (fun x:Nat×List Int=>[(1,.v (.int .i64 k)),(5,.sl D.length (qc D)),(6,.rf 1 0 x.2.length),(21,.sl D.length (qc D)),(22,.v (.int .i64 D.length)),(23,.v (.int .i64 x.1))])
   (fun x=>[(1,.own 1 (qc x.2))])
   (fun x=>x.1≤D.length∧x.2.length=x.1∧gd x.2∧vl x.2=vl D/2^(k % 16) % 65536^x.1)
   (fun x=>D.length-x.1) (0,[]) ⟨by simp,rfl,Jv,by simp[vl]⟩
   (Le.lst [(1,220000000)] _ _ rfl (by simp(disch:=omega)only[go_sem]) (by simp(disch:=omega)only[go_sem])) ?_
  rintro⟨i,out⟩ ⟨hi,hol,hog,hov⟩
  dsimp only at hi hol hog hov ⊢
  simp(disch:=omega)only[go_sem]
  refine qe (fun h1=>?_) (fun h1=>?_)
  ·have hx:=qI hD i
   have hy:=qI hD (i+1)
   have em:min ((k:Int) % 16).toNat 64=k % 16:=by omega
   have hm:=j2 (k % 16) (by omega)
   have efd:∀x:Int,x.fdiv (2^(k % 16))=x/2^(k % 16):=fun x=>Int.fdiv_eq_ediv_of_nonneg _ (Int.le_of_lt hm.1)
   have hdig:=ajb hD (i:=i) (s:=k % 16) (by omega) (by omega)
   have hnn:∀x:Int,0≤x→0≤x/2^(k % 16):=fun x hx=>Int.ediv_nonneg hx (Int.le_of_lt hm.1)
   have ei:((i:Int)+1).toNat=i+1:=by omega
   have hstep:∀z:Int,z=(D.getD i 0+D.getD (i+1) 0*65536)/2^(k % 16) % 65536→vl (out++[z])=vl D/2^(k % 16) % 65536^(i+1):=by
    intro z hz
    rw[ju,hov,hol,Int.pow_succ,aBe _ _ (Int.pow_pos (by omega)),hdig,hz]
   simp(disch:=omega)only[go_sem,h1]
   refine⟨by omega,by omega,qe (fun h2=>?_) (fun h2=>?_)⟩
   ·have hn1:=hnn (D.getD i 0+D.getD (i+1) 0*65536) (by omega)
    simp(disch:=omega)only[go_sem,h2,em,efd,ei]
    refine⟨by omega,by omega,by omega,by omega,qb (i+1,out++[(D.getD i 0+D.getD (i+1) 0*65536)/2^(k % 16) % 65536]) [(1,500000000)] ⟨by show i+1≤_;omega,by simp[hol],qJ.2 ⟨hog,jl.2 (by omega)⟩,hstep _ rfl⟩ (by show D.length-(i+1)<D.length-i;omega) rfl (by simp(disch:=omega)only[go_sem,List.length_append];try omega) (by simp(disch:=omega)only[go_sem])⟩
   ·have hn1:=hnn (D.getD i 0) (by omega)
    simp(disch:=omega)only[go_sem,h2,em,efd]
    have hy0:D.getD (i+1) 0=0:=by rw[List.getD_eq_getElem?_getD,List.getElem?_eq_none (by omega)];rfl
    refine⟨by omega,by omega,qb (i+1,out++[D.getD i 0/2^(k % 16) % 65536]) [(1,500000000)] ⟨by show i+1≤_;omega,by simp[hol],qJ.2 ⟨hog,jl.2 (by omega)⟩,hstep _ (by rw[hy0];simp)⟩ (by show D.length-(i+1)<D.length-i;omega) rfl (by simp(disch:=omega)only[go_sem,List.length_append];try omega) (by simp(disch:=omega)only[go_sem])⟩
  ·simp(disch:=omega)only[go_sem,h1]
   have hiD:i=D.length:=by omega
   subst hiD
   have hV:vl out=vl A/2^k:=by
    rw[hov,hvk,hvD]
    refine Int.emod_eq_of_lt (Int.ediv_nonneg (qP hD) (Int.le_of_lt (j2 (k % 16) (by omega)).1)) ?_
    exact Int.lt_of_le_of_lt (Int.ediv_le_self _ (qP hD)) (QN hD)
   refine q6 false [1] (jg out (by omega)) (by simp(disch:=omega)only[go_sem]) (by simp(disch:=omega)only[go_sem]) rfl (qQ (z:=1) (cs:=qc out) (by simp(disch:=omega)only[go_sem]) (by simp(disch:=omega)only[go_sem])) (by intro n hn;exact⟨_,List.mem_singleton.2 rfl,by rw[List.mem_singleton.1 hn];rfl⟩) ?_
   rintro r hs bs ⟨rfl,rfl,rfl⟩ _
   refine⟨by simp[qK],?_⟩
   simp(disch:=omega)only[go_sem]
   obtain⟨z,hz⟩:=zF out
   have hc:=zX hog
   rw[hV]at hc
   rw[hc]at hz ⊢
   refine qh [(0,1)] [.own 1 (qc out)] [] [.rf 0 0 (lim (vl A/2^k).toNat).length] rfl (by simp(disch:=omega)only[go_sem]) (by simp(disch:=omega)only[go_sem]) (by simp) (by intro _;simp[zh,AV.pu,AV.pu.puL,Ob.pu,qZ]) (.inr ⟨List.replicate z 0,rfl,by rw[←hz]⟩)
end Go.Ab
namespace Go.Ab
open Go Go.Proofs
theorem drop_set{l:List Int}{i:Nat}(h:i<l.length)(z:Int):(l.set i z).drop i=z::l.drop (i+1):=by
 rw[List.drop_eq_getElem_cons (by simpa using h)]
 simp[List.drop_set]
theorem aCy(cl:Bool)(A:List Int)(d:Nat)(hA:gd A)(lA:A.length≤1000000)(hd:0<d)(hd2:d<65536):
  Con Tryz.prog 295 cl [.sl A.length (qc A),.v (.int .i64 d)] [] (fun r hs bs=>∃zs,r=.tu [.rf 0 0 (lim (vl A/d).toNat).length,.v (.int .i64 (vl A % d))]∧hs=[.own 1 (qc (lim (vl A/d).toNat++zs))]):=by
 refine Con.of_aw Tryz.func295 rfl Tryz.ntmps295 (by simp) (by simp) (by simp) (W.sound ?_)
 show @W Tryz.prog 38 ⟨_⟩ ⟨fun x σ=>@qX _ _ _ ⟨_⟩ _ ⟨_⟩ x σ⟩ _ _
 simp(disch:=omega)only[go_sem]
 refine⟨by omega,?_⟩
 refine qg (fun x:Nat×List Int×Int=>[(0,.sl A.length (qc A)),(1,.v (.int .i64 d)),(6,.rf 130000000 0 A.length),(7,.v (.int .i64 x.2.2)),(8,.v (.int .i64 ((x.1:Int)-1)))])
  (fun x=>[(130000000,.own 1 (qc x.2.1))])
  (fun x=>x.1≤A.length∧x.2.1.length=A.length∧gd x.2.1∧x.2.2=vl (A.drop x.1) % d∧vl (x.2.1.drop x.1)=vl (A.drop x.1)/d)
  (fun x=>x.1) (A.length,List.replicate A.length 0,0) ⟨by simp,by simp,zj _,by simp[vl],by simp[vl]⟩
  (Le.lst [] _ _ rfl (by simp(disch:=omega)only[go_sem];try omega) (by simp(disch:=omega)only[go_sem])) ?_
 rintro⟨m,out,rest⟩ ⟨hm,hol,hog,hr,hov⟩
 dsimp only at hm hol hog hr hov ⊢
 simp(disch:=omega)only[go_sem]
 refine qe (fun h1=>?_) (fun h1=>?_)
 ·obtain⟨i,rfl⟩:∃i,m=i+1:=⟨m-1,by omega⟩
  have e1:((i+1:Nat):Int)-1=(i:Nat):=by omega
  have hx:=qI hA i
  have hr2:0≤rest∧rest<d:=by rw[hr];exact⟨Int.emod_nonneg _ (by omega),Int.emod_lt_of_pos _ (by omega)⟩
  generalize hq:rest*65536+A.getD i 0=q
  have hq0:0≤q:=by omega
  have hqd:0≤q/d∧q/d<65536:=⟨Int.ediv_nonneg hq0 (by omega),Int.ediv_lt_of_lt_mul (by omega) (by omega)⟩
  have hqm:0≤q % d∧q % d<d:=⟨Int.emod_nonneg _ (by omega),Int.emod_lt_of_pos _ (by omega)⟩
  simp(disch:=omega)only[go_sem,h1,e1,hq]
  refine⟨by omega,by omega,by omega,by omega,by omega,by omega,qb (i,out.set i (q/d),q % d) [] ⟨by show i≤_;omega,by simp[hol],yA hog hqd,?_,?_⟩ (by show i<i+1;omega) rfl (by simp(disch:=omega)only[go_sem]) (by simp(disch:=omega)only[go_sem])⟩
  ·show q % d=vl (A.drop i) % d
   rw[zy (l:=A) (i:=i) (by omega),←hq,hr]
   have h3:=Int.emod_add_mul_ediv (vl (A.drop (i+1))) d
   rw[show A.getD i 0+65536*vl (A.drop (i+1))=vl (A.drop (i+1)) % d*65536+A.getD i 0+d*(65536*(vl (A.drop (i+1))/d)) by grind,Int.add_mul_emod_self_left]
  ·show vl ((out.set i (q/d)).drop i)=vl (A.drop i)/d
   rw[drop_set (by omega),vl,hov,zy (l:=A) (i:=i) (by omega),←hq,hr]
   have h3:=Int.emod_add_mul_ediv (vl (A.drop (i+1))) d
   rw[show A.getD i 0+65536*vl (A.drop (i+1))=vl (A.drop (i+1)) % d*65536+A.getD i 0+d*(65536*(vl (A.drop (i+1))/d)) by grind,Int.add_mul_ediv_left _ _ (by omega)]
 ·simp(disch:=omega)only[go_sem,h1]
  have:m=0:=by omega
  subst this
  rw[List.drop_zero,List.drop_zero]at hov
  rw[List.drop_zero]at hr
  rw[←hol]
  refine q6 false [130000000] (jg out (by omega)) (by simp(disch:=omega)only[go_sem]) (by simp(disch:=omega)only[go_sem]) rfl (qQ (z:=1) (cs:=qc out) (by simp(disch:=omega)only[go_sem]) (by simp(disch:=omega)only[go_sem])) (by intro n hn;exact⟨_,List.mem_singleton.2 rfl,by rw[List.mem_singleton.1 hn];rfl⟩) ?_
  rintro r hs bs ⟨rfl,rfl,rfl⟩ _
  refine⟨by simp[qK],?_⟩
  simp(disch:=omega)only[go_sem]
  obtain⟨z,hz⟩:=zF out
  have hc:=zX hog
  rw[hov]at hc
  rw[hc]at hz ⊢
  rw[hr]
  refine qh [(0,130000000)] [.own 1 (qc out)] [] [.rf 0 0 (lim (vl A/d).toNat).length,.v (.int .i64 (vl A % d))] rfl (by simp(disch:=omega)only[go_sem]) (by simp(disch:=omega)only[go_sem]) (by simp) (by intro _;simp[zh,AV.pu,AV.pu.puL,Ob.pu,qZ]) ⟨List.replicate z 0,rfl,by rw[←hz]⟩
end Go.Ab
namespace Go.Ab
open Go Go.Proofs
theorem aCn(cl:Bool)(A B:List Int)(hA:gd A)(hB:gd B)(lA:A.length≤2000000)(lB:B.length≤2000000):
  Con Tryz.prog 219 cl [.sl A.length (qc A),.sl B.length (qc B)] [] (aq3 (lim (vl A+vl B).toNat)):=by
 refine Con.of_aw Tryz.func219 rfl Tryz.ntmps219 (by simp) (by simp) (by simp) (W.sound ?_)
 show @W Tryz.prog 53 ⟨_⟩ ⟨fun x σ=>@qX _ _ _ ⟨_⟩ _ ⟨_⟩ x σ⟩ _ _
 simp(disch:=omega)only[go_sem]
 refine qe (fun h0=>?_) (fun h0=>?_)
 all_goals simp(disch:=omega)only[go_sem,h0]
 ·revert A B
  intro Y X hY hX lY lX h0'
  have h00:Y.length≤X.length:=by omega
  have hcm:vl Y+vl X=vl X+vl Y:=Int.add_comm _ _
  refine⟨by omega,?_⟩
  refine qg (fun x:Nat×List Int×Int=>[(1,.sl Y.length (qc Y)),(5,.rf 1 0 x.2.1.length),(6,.v (.int .i64 x.2.2)),(20,.sl X.length (qc X)),(21,.v (.int .i64 X.length)),(22,.v (.int .i64 x.1))])
   (fun x=>[(1,.own 1 (qc x.2.1))])
   (fun x=>x.1≤X.length∧x.2.1.length=x.1∧gd x.2.1∧(0≤x.2.2∧x.2.2≤1)∧vl x.2.1+65536^x.1*x.2.2=vl (X.take x.1)+vl (Y.take x.1))
   (fun x=>X.length-x.1) (0,[],0) ⟨by simp,rfl,Jv,by simp,by simp[vl]⟩
   (Le.lst [(1,210000000)] _ _ rfl (by simp(disch:=omega)only[go_sem]) (by simp(disch:=omega)only[go_sem])) ?_
  rintro⟨i,out,cy⟩ ⟨hi,hol,hog,hcy,hov⟩
  dsimp only at hi hol hog hcy hov ⊢
  simp(disch:=omega)only[go_sem]
  refine qe (fun h1=>?_) (fun h1=>?_)
  ·have hx:=qI hX i
   have hy:=qI hY i
   have hstep:∀q:Int,q=cy+X.getD i 0+Y.getD i 0→vl (out++[q % 65536])+65536^(i+1)*(q/65536)=vl (X.take (i+1))+vl (Y.take (i+1)):=by
    intro q hq
    rw[ju,qY,qY,hol,Int.pow_succ]
    have e3:q % 65536+65536*(q/65536)=q:=Int.emod_add_mul_ediv q 65536
    generalize (65536:Int)^i=Pi at*
    grind
   have hyz:¬i<Y.length→Y.getD i 0=0:=fun h=>by rw[List.getD_eq_getElem?_getD,List.getElem?_eq_none (by omega)];rfl
   simp(disch:=omega)only[go_sem,h1]
   refine⟨by omega,by omega,qe (fun h2=>?_) (fun h2=>?_)⟩
   ·simp(disch:=omega)only[go_sem,h2]
    generalize hq:cy+X.getD i 0+Y.getD i 0=q
    refine⟨by omega,by omega,by omega,qb (i+1,out++[q % 65536],q/65536) [(1,460000000)] ⟨by show i+1≤_;omega,by simp[hol],qJ.2 ⟨hog,jl.2 (by omega)⟩,by show 0≤q/65536∧q/65536≤1;omega,hstep q hq.symm⟩ (by show X.length-(i+1)<X.length-i;omega) rfl (by simp(disch:=omega)only[go_sem,List.length_append];try omega) (by simp(disch:=omega)only[go_sem])⟩
   ·simp(disch:=omega)only[go_sem,h2]
    have hy0:=hyz (by omega)
    generalize hq:cy+X.getD i 0=q
    refine⟨by omega,qb (i+1,out++[q % 65536],q/65536) [(1,460000000)] ⟨by show i+1≤_;omega,by simp[hol],qJ.2 ⟨hog,jl.2 (by omega)⟩,by show 0≤q/65536∧q/65536≤1;omega,hstep q (by omega)⟩ (by show X.length-(i+1)<X.length-i;omega) rfl (by simp(disch:=omega)only[go_sem,List.length_append];try omega) (by simp(disch:=omega)only[go_sem])⟩
  ·simp(disch:=omega)only[go_sem,h1]
   have hiA:i=X.length:=by omega
   subst hiA
   rw[List.take_length,List.take_of_length_le h00]at hov
   have hov2:vl (out++[cy])=vl X+vl Y:=by rw[ju,hol];exact hov
   have hog2:gd (out++[cy]):=qJ.2 ⟨hog,jl.2 (by omega)⟩
   refine⟨by omega,?_⟩
   have hl2:out.length+1=(out++[cy]).length:=by simp
   rw[hl2]
   refine q6 false [530000000] (jg (out++[cy]) (by simp;omega)) (by simp(disch:=omega)only[go_sem]) (by simp(disch:=omega)only[go_sem]) rfl (qQ (z:=1) (cs:=qc (out++[cy])) (by simp(disch:=omega)only[go_sem]) (by simp(disch:=omega)only[go_sem])) (by intro n hn;exact⟨_,List.mem_singleton.2 rfl,by rw[List.mem_singleton.1 hn];rfl⟩) ?_
   rintro r hs bs ⟨rfl,rfl,rfl⟩ _
   refine⟨by simp[qK],?_⟩
   simp(disch:=omega)only[go_sem]
   obtain⟨z,hz⟩:=zF (out++[cy])
   have hc:=zX hog2
   rw[hov2]at hc
   rw[hc]at hz ⊢
   refine qh [(0,530000000)] [.own 1 (qc (out++[cy]))] [] [.rf 0 0 (lim (vl X+vl Y).toNat).length] rfl (by simp(disch:=omega)only[go_sem]) (by simp(disch:=omega)only[go_sem]) (by simp) (by intro _;simp[zh,AV.pu,AV.pu.puL,Ob.pu,qZ]) (.inr ⟨List.replicate z 0,by rw[hcm];rfl,by rw[hcm,←hz]⟩)
 ·revert A B
  intro X Y hX hY lX lY h0'
  have h00:Y.length≤X.length:=by omega
  have hcm:vl X+vl Y=vl X+vl Y:=rfl
  refine⟨by omega,?_⟩
  refine qg (fun x:Nat×List Int×Int=>[(1,.sl Y.length (qc Y)),(5,.rf 1 0 x.2.1.length),(6,.v (.int .i64 x.2.2)),(20,.sl X.length (qc X)),(21,.v (.int .i64 X.length)),(22,.v (.int .i64 x.1))])
   (fun x=>[(1,.own 1 (qc x.2.1))])
   (fun x=>x.1≤X.length∧x.2.1.length=x.1∧gd x.2.1∧(0≤x.2.2∧x.2.2≤1)∧vl x.2.1+65536^x.1*x.2.2=vl (X.take x.1)+vl (Y.take x.1))
   (fun x=>X.length-x.1) (0,[],0) ⟨by simp,rfl,Jv,by simp,by simp[vl]⟩
   (Le.lst [(1,210000000)] _ _ rfl (by simp(disch:=omega)only[go_sem]) (by simp(disch:=omega)only[go_sem])) ?_
  rintro⟨i,out,cy⟩ ⟨hi,hol,hog,hcy,hov⟩
  dsimp only at hi hol hog hcy hov ⊢
  simp(disch:=omega)only[go_sem]
  refine qe (fun h1=>?_) (fun h1=>?_)
  ·have hx:=qI hX i
   have hy:=qI hY i
   have hstep:∀q:Int,q=cy+X.getD i 0+Y.getD i 0→vl (out++[q % 65536])+65536^(i+1)*(q/65536)=vl (X.take (i+1))+vl (Y.take (i+1)):=by
    intro q hq
    rw[ju,qY,qY,hol,Int.pow_succ]
    have e3:q % 65536+65536*(q/65536)=q:=Int.emod_add_mul_ediv q 65536
    generalize (65536:Int)^i=Pi at*
    grind
   have hyz:¬i<Y.length→Y.getD i 0=0:=fun h=>by rw[List.getD_eq_getElem?_getD,List.getElem?_eq_none (by omega)];rfl
   simp(disch:=omega)only[go_sem,h1]
   refine⟨by omega,by omega,qe (fun h2=>?_) (fun h2=>?_)⟩
   ·simp(disch:=omega)only[go_sem,h2]
    generalize hq:cy+X.getD i 0+Y.getD i 0=q
    refine⟨by omega,by omega,by omega,qb (i+1,out++[q % 65536],q/65536) [(1,460000000)] ⟨by show i+1≤_;omega,by simp[hol],qJ.2 ⟨hog,jl.2 (by omega)⟩,by show 0≤q/65536∧q/65536≤1;omega,hstep q hq.symm⟩ (by show X.length-(i+1)<X.length-i;omega) rfl (by simp(disch:=omega)only[go_sem,List.length_append];try omega) (by simp(disch:=omega)only[go_sem])⟩
   ·simp(disch:=omega)only[go_sem,h2]
    have hy0:=hyz (by omega)
    generalize hq:cy+X.getD i 0=q
    refine⟨by omega,qb (i+1,out++[q % 65536],q/65536) [(1,460000000)] ⟨by show i+1≤_;omega,by simp[hol],qJ.2 ⟨hog,jl.2 (by omega)⟩,by show 0≤q/65536∧q/65536≤1;omega,hstep q (by omega)⟩ (by show X.length-(i+1)<X.length-i;omega) rfl (by simp(disch:=omega)only[go_sem,List.length_append];try omega) (by simp(disch:=omega)only[go_sem])⟩
  ·simp(disch:=omega)only[go_sem,h1]
   have hiA:i=X.length:=by omega
   subst hiA
   rw[List.take_length,List.take_of_length_le h00]at hov
   have hov2:vl (out++[cy])=vl X+vl Y:=by rw[ju,hol];exact hov
   have hog2:gd (out++[cy]):=qJ.2 ⟨hog,jl.2 (by omega)⟩
   refine⟨by omega,?_⟩
   have hl2:out.length+1=(out++[cy]).length:=by simp
   rw[hl2]
   refine q6 false [530000000] (jg (out++[cy]) (by simp;omega)) (by simp(disch:=omega)only[go_sem]) (by simp(disch:=omega)only[go_sem]) rfl (qQ (z:=1) (cs:=qc (out++[cy])) (by simp(disch:=omega)only[go_sem]) (by simp(disch:=omega)only[go_sem])) (by intro n hn;exact⟨_,List.mem_singleton.2 rfl,by rw[List.mem_singleton.1 hn];rfl⟩) ?_
   rintro r hs bs ⟨rfl,rfl,rfl⟩ _
   refine⟨by simp[qK],?_⟩
   simp(disch:=omega)only[go_sem]
   obtain⟨z,hz⟩:=zF (out++[cy])
   have hc:=zX hog2
   rw[hov2]at hc
   rw[hc]at hz ⊢
   refine qh [(0,530000000)] [.own 1 (qc (out++[cy]))] [] [.rf 0 0 (lim (vl X+vl Y).toNat).length] rfl (by simp(disch:=omega)only[go_sem]) (by simp(disch:=omega)only[go_sem]) (by simp) (by intro _;simp[zh,AV.pu,AV.pu.puL,Ob.pu,qZ]) (.inr ⟨List.replicate z 0,by rw[hcm];rfl,by rw[hcm,←hz]⟩)
end Go.Ab
namespace Go.Ab
open Go Go.Proofs
theorem K6(cl:Bool)(xs:List Int)(hl:xs.length≤2^39):Con Tryz.prog 270 cl [.sl xs.length (qc xs)] [] (aq3 xs):=by
 refine Con.of_aw Tryz.func270 rfl Tryz.ntmps270 (by simp) (by simp) (by simp) (W.sound ?_)
 show @W Tryz.prog 8 ⟨_⟩ ⟨fun x σ=>@qX _ _ _ ⟨_⟩ _ ⟨_⟩ x σ⟩ _ _
 simp(disch:=omega)only[go_sem]
 refine⟨fun h0=>?_,?_⟩
 ·have:xs=[]:=by cases xs with|nil=>rfl|cons a r=>cases h0
  subst this
  refine qh [] [] [] [.v (.slice none 0 0)] rfl (by simp(disch:=omega)only[go_sem]) (by simp(disch:=omega)only[go_sem]) (by simp) (by intro _;simp[zh,AV.pu]) (.inl ⟨rfl,rfl,rfl⟩)
 ·refine⟨by omega,?_⟩
  refine qh [(0,90000000)] [.own 1 (qc xs)] [] [.rf 0 0 xs.length] rfl (by simp(disch:=omega)only[go_sem]) (by simp(disch:=omega)only[go_sem]) (by simp) (by intro _;simp[zh,AV.pu,Ob.pu,qZ]) (.inr ⟨[],rfl,by rw[List.append_nil]⟩)
end Go.Ab
namespace Go.Ab
open Go Go.Proofs
theorem KZ(x:Int):Con Tryz.prog 263 true [.v (.int .i64 x)] [] (isA (.v (.bool false))):=by
 refine Con.of_w (rs:=[.tmp 2]) Tryz.func263 rfl Tryz.ntmps263 rfl ?_
 simp(disch:=omega)only[go_sem]
 exact qu
theorem aqj(x y:Int):Con Tryz.prog 209 true [.v (.int .i64 x),.v (.int .i64 y)] [] (isA (.v (.int .i64 (zA x y)))):=by
 refine Con.of_w (rs:=[.tmp 4]) Tryz.func209 rfl Tryz.ntmps209 rfl ?_
 simp(disch:=omega)only[go_sem]
 refine qj (KZ x) ?_
 simp(disch:=omega)only[go_sem]
 refine qj (KZ y) ?_
 simp(disch:=omega)only[go_sem]
 refine qe (fun h1=>?_) (fun h1=>?_)
 ·simp(disch:=omega)only[go_sem,h1]
  rw[show zA x y= -1 by simp[zA,h1]]
  exact qu
 ·simp(disch:=omega)only[go_sem,h1]
  refine qe (fun h2=>?_) (fun h2=>?_)
  ·simp(disch:=omega)only[go_sem,h2]
   rw[show zA x y=1 by simp[zA,h1,h2]]
   exact qu
  ·simp(disch:=omega)only[go_sem,h2]
   rw[show zA x y=0 by simp[zA,h1,h2]]
   exact qu
theorem zU(a b:Nat)(la:(lim a).length≤2^40)(lb:(lim b).length≤2^40):
  Con Tryz.prog 217 true [.sl (lim (a)).length (qc (lim (a))),.sl (lim (b)).length (qc (lim (b)))] [] (isA (.v (.int .i64 (zA a b)))):=by
 refine Con.of_w (rs:=[.tmp 4]) Tryz.func217 rfl Tryz.ntmps217 rfl ?_
 simp(disch:=omega)only[go_sem]
 refine zz (fun h1=>?_) (fun h1=>?_)
 ·simp(disch:=omega)only[go_sem,h1]
  refine qj (aqj (lim a).length (lim b).length) ?_
  simp(disch:=omega)only[go_sem]
  have:zA ((lim a).length:Int) ((lim b).length:Int)=zA a b:=by
   unfold zA
   rcases(by omega:(lim a).length<(lim b).length∨(lim b).length<(lim a).length)with h|h
   ·have:=y3 h
    rw[if_pos (by omega),if_pos (by omega)]
   ·have:=y3 h
    rw[if_neg (by omega),if_pos (by omega),if_neg (by omega),if_pos (by omega)]
  rw[this]
  exact qu
 ·simp(disch:=omega)only[go_sem,h1]
  have hl:(lim a).length=(lim b).length:=by omega
  refine qg (fun k:Nat=>[(0,.sl (lim (a)).length (qc (lim (a)))),(1,.sl (lim (b)).length (qc (lim (b)))),(5,.v (.int .i64 ((k:Int)-1)))])
   (fun _=>[]) (fun k=>k≤(lim a).length∧(lim a).drop k=(lim b).drop k) (fun k=>k) (lim a).length ⟨Nat.le_refl _,by rw[List.drop_length,hl,List.drop_length]⟩ (Le.lst [] _ _ rfl (by simp(disch:=omega)only[go_sem];try omega) (by simp(disch:=omega)only[go_sem])) ?_
  rintro k ⟨hk,hd⟩
  simp(disch:=omega)only[go_sem]
  refine qe (fun h2=>?_) (fun h2=>?_)
  ·obtain⟨i,rfl⟩:∃i,k=i+1:=⟨k-1,by omega⟩
   have ei:((i+1:Nat):Int)-1=(i:Nat):=by omega
   simp(disch:=omega)only[go_sem,h2,ei]
   refine qt rfl [⟨0,[],[]⟩,⟨1,[],[]⟩,⟨2,[],[]⟩,⟨3,[],[]⟩,⟨4,[3],[]⟩,⟨5,[3],[]⟩,⟨6,[3],[]⟩,⟨7,[3],[]⟩,⟨8,[],[]⟩] (by kernel_rfl) ?_
   simp(disch:=omega)only[go_sem,ei]
   refine⟨by omega,by omega,by omega,by omega,?_⟩
   refine zz (fun h3=>?_) (fun h3=>?_)
   ·simp(disch:=omega)only[go_sem,h3]
    refine qt rfl [⟨0,[],[]⟩,⟨1,[],[]⟩,⟨2,[],[]⟩,⟨3,[],[]⟩,⟨4,[3],[]⟩,⟨5,[3],[]⟩,⟨6,[3],[]⟩,⟨7,[3],[]⟩,⟨8,[],[]⟩,⟨9,[],[]⟩] (by kernel_rfl) ?_
    simp(disch:=omega)only[go_sem,ei]
    refine⟨by omega,by omega,by omega,by omega,?_⟩
    refine qj (aqj ((lim a).getD i 0) ((lim b).getD i 0)) ?_
    simp(disch:=omega)only[go_sem]
    have hva:=q9 a
    have hvb:=q9 b
    have:zA ((lim a).getD i 0) ((lim b).getD i 0)=zA a b:=by
     unfold zA
     rcases(by omega:(lim a).getD i 0<(lim b).getD i 0∨(lim b).getD i 0<(lim a).getD i 0)with h|h
     ·have:=QX (za a) (za b) (by omega) hl hd h
      rw[if_pos (by omega),if_pos (by omega)]
     ·have:=QX (za b) (za a) (by omega) hl.symm hd.symm h
      rw[if_neg (by omega),if_pos (by omega),if_neg (by omega),if_pos (by omega)]
    rw[this]
    exact qu
   ·simp(disch:=omega)only[go_sem,h3]
    refine qb i [] ⟨by omega,?_⟩ (by show i<i+1;omega) rfl (by simp(disch:=omega)only[go_sem];try omega) (by simp(disch:=omega)only[go_sem])
    rw[yc (l:=lim a) (by omega),yc (l:=lim b) (by omega),h3,hd]
  ·simp(disch:=omega)only[go_sem,h2]
   have:k=0:=by omega
   subst this
   rw[List.drop_zero,List.drop_zero]at hd
   have:=j5 hd
   subst this
   rw[show zA (a:Int) (a:Int)=0 by simp[zA]]
   exact qu
end Go.Ab
namespace Go.Proofs
open Go.Shelf
def Tryz.lays29_ren:Go.Shelf.Ren:=⟨fun|29=>300|n=>n,fun|0=>0|3=>3|4=>4|5=>5|22=>244|25=>132|54=>257|n=>n,fun|1=>1|n=>n⟩
theorem Tryz.lays29:Go.Proofs.Lays7.n29 Tryz.prog Tryz.lays29_ren:={
 mixed:=by kernel_rfl
 f29:=Tryz.func300.trans (congrArg some (by kernel_rfl))
 t0:=Tryz.underlying0
 a0:=Tryz.isAgg0
 z0:=Tryz.sizeOf0
 v0:=Tryz.zeroValue0
 i0:=by kernel_rfl
 t3:=Tryz.underlying3
 a3:=Tryz.isAgg3
 z3:=Tryz.sizeOf3
 v3:=Tryz.zeroValue3
 i3:=by kernel_rfl
 t4:=Tryz.underlying4
 a4:=Tryz.isAgg4
 z4:=Tryz.sizeOf4
 v4:=Tryz.zeroValue4
 i4:=by kernel_rfl
 t5:=Tryz.underlying5
 a5:=Tryz.isAgg5
 z5:=Tryz.sizeOf5
 v5:=Tryz.zeroValue5
 i5:=by kernel_rfl
 t22:=Tryz.underlying244
 a22:=Tryz.isAgg244
 z22:=Tryz.sizeOf244
 v22:=Tryz.zeroValue244
 i22:=by kernel_rfl
 t25:=Tryz.underlying132
 a25:=Tryz.isAgg132
 z25:=Tryz.sizeOf132
 v25:=Tryz.zeroValue132
 i25:=by kernel_rfl
 t54:=Tryz.underlying257
 a54:=Tryz.isAgg257
 z54:=Tryz.sizeOf257
 g1:=by kernel_rfl}
def Tryz.lays129_ren:Go.Shelf.Ren:=⟨fun|129=>289|n=>n,fun|53=>244|46=>132|3=>3|4=>4|5=>5|9=>9|n=>n,fun|n=>n⟩
theorem Tryz.lays129:Go.Proofs.Lays.n129 Tryz.prog Tryz.lays129_ren:={
 mixed:=by kernel_rfl
 f129:=Tryz.func289.trans (congrArg some (by kernel_rfl))
 t3:=Tryz.underlying3
 a3:=Tryz.isAgg3
 z3:=Tryz.sizeOf3
 v3:=Tryz.zeroValue3
 t4:=Tryz.underlying4
 a4:=Tryz.isAgg4
 z4:=Tryz.sizeOf4
 v4:=Tryz.zeroValue4
 t5:=Tryz.underlying5
 a5:=Tryz.isAgg5
 z5:=Tryz.sizeOf5
 v5:=Tryz.zeroValue5
 t9:=Tryz.underlying9
 a9:=Tryz.isAgg9
 z9:=Tryz.sizeOf9
 v9:=Tryz.zeroValue9
 t46:=Tryz.underlying132
 a46:=Tryz.isAgg132
 z46:=Tryz.sizeOf132
 v46:=Tryz.zeroValue132
 t53:=Tryz.underlying244
 a53:=Tryz.isAgg244
 z53:=Tryz.sizeOf244
 v53:=Tryz.zeroValue244}
end Go.Proofs
namespace Go.Ab
open Go Go.Proofs
theorem aS1(x:Nat)(h0:x≠0)(h:x<2^64):Lib.ctz 64 x=tz x:=by
 unfold Lib.ctz
 rw[if_neg h0]
 obtain⟨m,hm,_⟩:=Lib.ctzFrom_spec 64 x (by omega) h
 exact(Qi hm).symm
theorem aqE(x:Nat)(h:x<2^64):Lib.bitLen x=bl x:=by
 induction x using Nat.strongRecOn with
 |_ x ih=>
  by_cases h0:x=0
  ·subst h0;rfl
  ·rw[Lib.bitLen_half x h0 h,ih (x/2) (by omega) (by omega),aEz h0,Nat.add_comm]
theorem aCm(x:Nat)(h0:x≠0)(h:x<2^64):Con Tryz.prog 300 true [.v (.int .u64 x)] [] (isA (.v (.int .i64 (tz x)))):=
 Con.scalar (xs:=[.int .u64 x]) fun w hg=>by
  rw[←aS1 x h0 h]
  exact Any7.bits_TrailingZeros64 Tryz.lays29 x h w fun _ j hj=>(hg 1 Lib.deBruijn64tab rfl).2 j hj
theorem apY(x:Nat)(h:x<2^64):Con Tryz.prog 289 true [.v (.int .u64 x)] [] (isA (.v (.int .i64 (bl x)))):=
 Con.scalar (xs:=[.int .u64 x]) fun w hg=>by
  rw[←aqE x h]
  exact Any.bits_Len64 Tryz.lays129 x w (by omega) (by omega)
theorem aS8(x:Nat)(h0:x≠0)(h:x<2^64):Con Tryz.prog 269 true [.v (.int .u64 x)] [] (isA (.v (.int .i64 (tz x)))):=by
 refine Con.of_w (rs:=[.tmp 2]) Tryz.func269 rfl Tryz.ntmps269 rfl ?_
 simp(disch:=omega)only[go_sem]
 refine qj (aCm x h0 h) ?_
 simp(disch:=omega)only[go_sem]
 exact qu
theorem apZ(x:Nat)(h:x<2^64):Con Tryz.prog 255 true [.v (.int .u64 x)] [] (isA (.v (.int .i64 (bl x)))):=by
 refine Con.of_w (rs:=[.tmp 2]) Tryz.func255 rfl Tryz.ntmps255 rfl ?_
 simp(disch:=omega)only[go_sem]
 refine qj (apY x h) ?_
 simp(disch:=omega)only[go_sem]
 exact qu
theorem ajY{x:Int}(h1:0≤x)(h2:x<9223372036854775808):IntKind.u64.wrap x=x:=by
 simp only[IntKind.wrap,IntKind.signed,IntKind.bits]
 simp only[Bool.false_and,Bool.false_eq_true,if_false]
 omega
theorem ajA(m:Nat)(hl:(lim m).length≤2^40):Con Tryz.prog 196 true [.sl (lim (m)).length (qc (lim (m)))] [] (isA (.v (.int .i64 (bl m)))):=by
 refine Con.of_w (rs:=[.tmp 2]) Tryz.func196 rfl Tryz.ntmps196 rfl ?_
 simp(disch:=omega)only[go_sem]
 refine qe (fun h1=>?_) (fun h1=>?_)
 ·simp(disch:=omega)only[go_sem,h1]
  have:m=0:=qF.1 (List.length_eq_zero_iff.1 (by omega))
  subst this
  rw[yO]
  exact qu
 ·have hm:m≠0:=fun e=>by rw[e,qn]at h1;simp at h1
  have e1:((lim m).length:Int).toNat-1=(lim m).length-1:=by omega
  have e2:(((lim m).length:Int)-1).toNat=(lim m).length-1:=by omega
  have ht:=ZB hm
  have hb:=aqC hm
  simp(disch:=omega)only[go_sem,h1,e2,zL]
  generalize m/65536^((lim m).length-1)=q at*
  have e3:((q % 65536:Nat):Int)=(q:Int):=by omega
  simp(disch:=omega)only[go_sem,e3,ajY]
  refine⟨by omega,by omega,?_⟩
  refine qj (apZ q (by omega)) ?_
  simp(disch:=omega)only[go_sem]
  have hq:bl q≤16:=zq.2 (by omega)
  have e4:(16:Int)*(((lim m).length:Int)-1)+(bl q:Int)=(bl m:Int):=by omega
  simp(disch:=omega)only[go_sem,e4]
  exact qu
theorem aEH{m i:Nat}(hz:∀j,j<i→(lim m).getD j 0=0)(hx:(lim m).getD i 0≠0):tz m=16*i+tz (m/65536^i % 65536):=by
 rw[zL]at hx
 have hx':m/65536^i % 65536≠0:=fun e=>hx (by rw[e];rfl)
 obtain⟨a,ha⟩:=JS hx'
 have hlow:65536^i*(m/65536^i)=m:=by
  have key:∀k,k≤i→m % 65536^k=0:=by
   intro k
   induction k with
   |zero=>intro _;simp[Nat.mod_one]
   |succ k ih=>
    intro hk
    have h1:=ih (by omega)
    have h2:=hz k (by omega)
    rw[zL]at h2
    have h3:m/65536^k % 65536=0:=by omega
    rw[Nat.pow_succ,Nat.mod_mul,h1,h3];omega
  have:=Nat.div_add_mod m (65536^i)
  rw[key i (Nat.le_refl _)]at this
  omega
 generalize hq:m/65536^i=q at*
 have ht:tz (q % 65536)<16:=by
  have h1:=yi hx'
  have:bl (q % 65536)≤16:=zq.2 (by omega)
  omega
 generalize hk:tz (q % 65536)=k at*
 have e16:(65536:Nat)=2^k*(2*2^(15-k)):=by rw[Nat.mul_left_comm,←Nat.pow_add,show k+(15-k)=15 by omega]
 refine Qi (a:=a+2^(15-k)*(q/65536)) ?_
 have hd:=Nat.div_add_mod q 65536
 rw[←hlow,Nat.pow_add,←Zs]
 have h5:q=2^k*(2*(a+2^(15-k)*(q/65536))+1):=by
  have:q=2^k*(2*2^(15-k))*(q/65536)+2^k*(2*a+1):=by rw[←e16,←ha];omega
  generalize q/65536=y at*
  generalize 2^(15-k)=z at*
  grind
 generalize q/65536=y at*
 rw[Nat.mul_assoc,←h5]
theorem adz(m:Nat)(hl:(lim m).length≤2^40):Con Tryz.prog 221 true [.sl (lim (m)).length (qc (lim (m)))] [] (isA (.v (.int .i64 (tz m)))):=by
 refine Con.of_w (rs:=[.tmp 2]) Tryz.func221 rfl Tryz.ntmps221 rfl ?_
 simp(disch:=omega)only[go_sem]
 refine qg (fun i:Nat=>[(0,.sl (lim (m)).length (qc (lim (m)))),(5,.sl (lim (m)).length (qc (lim (m)))),(6,.v (.int .i64 (lim m).length)),(7,.v (.int .i64 i))])
  (fun _=>[]) (fun i=>i≤(lim m).length∧∀j,j<i→(lim m).getD j 0=0) (fun i=>(lim m).length-i) 0 ⟨by omega,fun j hj=>by omega⟩ (Le.lst [] _ _ rfl (by simp(disch:=omega)only[go_sem];try omega) (by simp(disch:=omega)only[go_sem])) ?_
 rintro i ⟨hi,hz⟩
 simp(disch:=omega)only[go_sem]
 refine qe (fun h1=>?_) (fun h1=>?_)
 ·simp(disch:=omega)only[go_sem,h1]
  refine⟨by omega,by omega,zz (fun h2=>?_) (fun h2=>?_)⟩
  ·have ht:=aEH hz h2
   have hx:m/65536^i % 65536≠0:=fun e=>h2 (by rw[zL,e];rfl)
   have ht16:tz (m/65536^i % 65536)<16:=by
    have h1:=yi hx
    have:bl (m/65536^i % 65536)≤16:=zq.2 (by omega)
    omega
   simp(disch:=omega)only[go_sem,h2,zL]
   generalize hq:m/65536^i % 65536=q at*
   have hq6:q<65536:=by omega
   simp(disch:=omega)only[go_sem,ajY]
   refine qj (aS8 q hx (by omega)) ?_
   simp(disch:=omega)only[go_sem]
   have e4:(16:Int)*(i:Int)+(tz q:Int)=(tz m:Int):=by omega
   simp(disch:=omega)only[go_sem,e4]
   exact qu
  ·simp(disch:=omega)only[go_sem,h2]
   refine qb (i+1) [] ⟨by omega,fun j hj=>?_⟩ (by show(lim m).length-(i+1)<(lim m).length-i;omega) rfl (by simp(disch:=omega)only[go_sem];try omega) (by simp(disch:=omega)only[go_sem])
   rcases(by omega:j<i∨j=i)with h|h
   ·exact hz j h
   ·subst h;exact h2
 ·simp(disch:=omega)only[go_sem,h1]
  have hm:m=0:=by
   have:=q9 m
   have h3:lim m=List.replicate (lim m).length 0:=by
    apply List.ext_getElem
    ·simp
    ·intro j h1 h2
     have:=hz j (by omega)
     rw[List.getD_eq_getElem?_getD,List.getElem?_eq_getElem h1]at this
     simpa using this
   rw[h3,zI]at this
   omega
  subst hm
  rw[aj2]
  exact qu
theorem K7(m:Nat)(i:Int)(hl:(lim m).length≤2^40)(hi:0≤i)(hi2:i<2^62):Con Tryz.prog 142 true [.sl (lim (m)).length (qc (lim (m))),.v (.int .i64 i)] [] (isA (.v (.int .i64 ((m/2^i.toNat % 2:Nat):Int)))):=by
 refine Con.of_w (rs:=[.tmp 4]) Tryz.func142 rfl Tryz.ntmps142 rfl ?_
 obtain⟨k,rfl⟩:=Int.eq_ofNat_of_zero_le hi
 rw[Int.toNat_natCast]
 have h0:¬((k:Int)<0):=by omega
 have e16:((k:Int)/16).toNat=k/16:=by omega
 have em:min ((k:Int) % 16).toNat 64=k % 16:=by omega
 have hb:=aqD m k
 simp(disch:=omega)only[go_sem,h0]
 refine qe (fun h1=>?_) (fun h1=>?_)
 ·simp(disch:=omega)only[go_sem,h1]
  have:m/2^k % 2=0:=by
   rw[←hb]
   have h2:=zL m (k/16)
   rw[List.getD_eq_getElem?_getD,List.getElem?_eq_none (by omega)]at h2
   have h3:m/65536^(k/16) % 65536=0:=by simp only[Option.getD_none]at h2;omega
   rw[h3];simp
  rw[this]
  exact qu
 ·have hx:=qI (za m) (k/16)
  have hp:(0:Int)<2^(k % 16):=Int.pow_pos (by omega)
  have efd:∀x:Int,x.fdiv (2^(k % 16))=x/2^(k % 16):=fun x=>Int.fdiv_eq_ediv_of_nonneg _ (Int.le_of_lt hp)
  have hq:0≤(lim m).getD (k/16) 0/2^(k % 16)∧(lim m).getD (k/16) 0/2^(k % 16)<65536:=by
   refine⟨Int.ediv_nonneg hx.1 (Int.le_of_lt hp),Int.lt_of_le_of_lt (Int.ediv_le_self _ hx.1) hx.2⟩
  have hr:(lim m).getD (k/16) 0/2^(k % 16) % 2=((m/2^k % 2:Nat):Int):=by
   rw[←hb,zL]
   generalize m/65536^(k/16) % 65536=x
   rw[Int.natCast_emod,Int.natCast_ediv,Int.natCast_pow];rfl
  simp(disch:=omega)only[go_sem,h1,e16,em,efd,hr]
  refine⟨by omega,by omega,by omega,?_⟩
  exact qu
end Go.Ab
namespace Go.Ab
open Go Go.Proofs
theorem aao(a k:Nat):(vl (lim a)*2^k).toNat=a*2^k:=by
 rw[q9]
 have:((a:Int)*2^k)=((a*2^k:Nat):Int):=by rw[Int.natCast_mul,Int.natCast_pow];rfl
 rw[this,Int.toNat_natCast]
theorem aap(a k:Nat):(vl (lim a)/2^k).toNat=a/2^k:=by
 rw[q9]
 have:((a:Int)/2^k)=((a/2^k:Nat):Int):=by rw[Int.natCast_ediv,Int.natCast_pow];rfl
 rw[this,Int.toNat_natCast]
theorem aEL(a b:Nat):(vl (lim a)*vl (lim b)).toNat=a*b:=by rw[q9,q9,←Int.natCast_mul,Int.toNat_natCast]
theorem aEM(a b:Nat):(vl (lim a)+vl (lim b)).toNat=a+b:=by rw[q9,q9];omega
theorem aEK(a b:Nat):(vl (lim a)-vl (lim b)).toNat=a-b:=by rw[q9,q9];omega
theorem zw(n:Nat)(hn:n<2^63):Con Tryz.prog 189 false [.v (.int .i64 n)] [] (aJp (lim n)):=(apM false n hn).num
theorem apH(cl:Bool)(a k:Nat)(la:(lim a).length≤1000000)(hk:k≤100000000):Con Tryz.prog 195 cl [.sl (lim (a)).length (qc (lim (a))),.v (.int .i64 k)] [] (aq3 (lim (a*2^k))):=by
 have:=aS7 cl (lim a) k (za a) la hk
 rwa[aao]at this
theorem zO(a k:Nat)(la:(lim a).length≤1000000)(hk:k≤100000000):Con Tryz.prog 195 false [.sl (lim (a)).length (qc (lim (a))),.v (.int .i64 k)] [] (aJp (lim (a*2^k))):=(apH false a k la hk).num
theorem K3(cl:Bool)(a k:Nat)(la:(lim a).length≤1000000)(hk:k≤100000000):Con Tryz.prog 216 cl [.sl (lim (a)).length (qc (lim (a))),.v (.int .i64 k)] [] (aq3 (lim (a/2^k))):=by
 have:=aCx cl (lim a) k (za a) la hk
 rwa[aap]at this
theorem aqh(a k:Nat)(la:(lim a).length≤1000000)(hk:k≤100000000):Con Tryz.prog 216 false [.sl (lim (a)).length (qc (lim (a))),.v (.int .i64 k)] [] (aJp (lim (a/2^k))):=(K3 false a k la hk).num
theorem Jz(a b:Nat)(la:(lim a).length≤1000000)(lb:(lim b).length≤1000000):Con Tryz.prog 218 false [.sl (lim (a)).length (qc (lim (a))),.sl (lim (b)).length (qc (lim (b)))] [] (aJp (lim (a*b))):=by
 have:=(apI false (lim a) (lim b) (za a) (za b) la lb).num
 rwa[aEL]at this
theorem KR(a b:Nat)(la:(lim a).length≤2000000)(lb:(lim b).length≤2000000):Con Tryz.prog 219 false [.sl (lim (a)).length (qc (lim (a))),.sl (lim (b)).length (qc (lim (b)))] [] (aJp (lim (a+b))):=by
 have:=(aCn false (lim a) (lim b) (za a) (za b) la lb).num
 rwa[aEM]at this
theorem aqi(a d:Nat)(la:(lim a).length≤1000000)(hd:0<d)(hd2:d<65536):
  Con Tryz.prog 295 false [.sl (lim (a)).length (qc (lim (a))),.v (.int .i64 d)] [] (isA (.tu [.sl (lim (a/d)).length (qc (lim (a/d))),.v (.int .i64 ((a % d:Nat):Int))])):=
 Con.frzA <| (aCy false (lim a) d (za a) la hd hd2).mono fun r hs bs ⟨zs,h1,h2⟩=>by
  rw[q9]at h1 h2
  rw[h1,h2]
  have e:((a:Int)/(d:Int)).toNat=a/d:=by
   rw[←Int.natCast_ediv,Int.toNat_natCast]
  rw[e]
  show qD _ 6 _=_
  unfold qD
  simp only[List.map_cons,List.map_nil]
  rw[jO (k:=3) (l:=lim (a/d)) (zs:=zs) qW rfl]
  rw[Int.natCast_emod];rfl
end Go.Ab
