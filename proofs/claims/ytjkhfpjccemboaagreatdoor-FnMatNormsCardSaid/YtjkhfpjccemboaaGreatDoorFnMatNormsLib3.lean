/- What the proof of this claim stands on: the walks of the functions and the plain laws, part 3. -/
import Derived.Test.YtjkhfpjccemboaaGreatDoorFnMatNormsLib2
import Derived.Test.YtjkhfpjccemboaaGreatDoorChecked
import Derived.KernelRfl
import Derived.Shelf.Spec.TrailingZeros
import Derived.Shelf.Small.Bits
import Derived.Shelf.Strconv.Itoa0
set_option linter.unusedVariables false
set_option linter.unusedSimpArgs false
namespace Go.Ab
open Go Go.Proofs
def ti1:TI:=⟨Kd.oth,1,8,Value.nilFunc⟩
theorem tf1:qn Tryz.prog 1=some ti1:=by kernel_rfl
def ti2:TI:=⟨Kd.int IntKind.i64,1,8,Value.int IntKind.i64 0⟩
theorem tf2:qn Tryz.prog 2=some ti2:=by kernel_rfl
def ti3:TI:=⟨Kd.int IntKind.i64,1,8,Value.int IntKind.i64 0⟩
theorem tf3:qn Tryz.prog 3=some ti3:=by kernel_rfl
def ti4:TI:=⟨Kd.bool,1,1,Value.bool false⟩
theorem tf4:qn Tryz.prog 4=some ti4:=by kernel_rfl
def ti5:TI:=⟨Kd.int IntKind.u8,1,1,Value.int IntKind.u8 0⟩
theorem tf5:qn Tryz.prog 5=some ti5:=by kernel_rfl
def ti6:TI:=⟨Kd.int IntKind.u8,1,1,Value.int IntKind.u8 0⟩
theorem tf6:qn Tryz.prog 6=some ti6:=by kernel_rfl
def ti7:TI:=⟨Kd.stru [(0,2),(1,3),(2,4),(3,6)],4,24,Value.agg ⟨[Value.int IntKind.i64 0,Value.int IntKind.i64 0,Value.bool false,Value.int IntKind.u8 0]⟩⟩
theorem tf7:qn Tryz.prog 7=some ti7:=by kernel_rfl
def ti8:TI:=⟨Kd.stru [(0,2),(1,3),(2,4),(3,6)],4,24,Value.agg ⟨[Value.int IntKind.i64 0,Value.int IntKind.i64 0,Value.bool false,Value.int IntKind.u8 0]⟩⟩
theorem tf8:qn Tryz.prog 8=some ti8:=by kernel_rfl
def ti9:TI:=⟨Kd.str,1,16,Value.string {data:=⟨[]⟩}⟩
theorem tf9:qn Tryz.prog 9=some ti9:=by kernel_rfl
def aDT:TI:=⟨Kd.str,1,16,Value.string {data:=⟨[]⟩}⟩
theorem bde:qn Tryz.prog 10=some aDT:=by kernel_rfl
def aDS:TI:=⟨Kd.str,1,16,Value.string {data:=⟨[]⟩}⟩
theorem bdd:qn Tryz.prog 11=some aDS:=by kernel_rfl
def aDR:TI:=⟨Kd.int IntKind.u64,1,8,Value.int IntKind.u64 0⟩
theorem bdc:qn Tryz.prog 12=some aDR:=by kernel_rfl
def aDQ:TI:=⟨Kd.int IntKind.i32,1,4,Value.int IntKind.i32 0⟩
theorem bdb:qn Tryz.prog 21=some aDQ:=by kernel_rfl
def aeh:TI:=⟨Kd.sli 5,1,24,Value.slice none 0 0⟩
theorem aDV:qn Tryz.prog 22=some aeh:=by kernel_rfl
def Jq:TI:=⟨Kd.sli 3,1,24,Value.slice none 0 0⟩
theorem aei:qn Tryz.prog 23=some Jq:=by kernel_rfl
def aqZ:TI:=⟨Kd.stru [(0,23)],1,24,Value.agg ⟨[Value.slice none 0 0]⟩⟩
theorem aWF:qn Tryz.prog 24=some aqZ:=by kernel_rfl
def aas:TI:=⟨Kd.stru [(0,23)],1,24,Value.agg ⟨[Value.slice none 0 0]⟩⟩
theorem az5:qn Tryz.prog 25=some aas:=by kernel_rfl
def alh:TI:=⟨Kd.stru [(0,4),(1,25)],2,32,Value.agg ⟨[Value.bool false,Value.slice none 0 0]⟩⟩
theorem aTH:qn Tryz.prog 26=some alh:=by kernel_rfl
def Y3:TI:=⟨Kd.stru [(0,4),(1,25)],2,32,Value.agg ⟨[Value.bool false,Value.slice none 0 0]⟩⟩
theorem aq0:qn Tryz.prog 27=some Y3:=by kernel_rfl
def ak4:TI:=⟨Kd.stru [(0,27),(2,3)],3,40,Value.agg ⟨[Value.bool false,Value.slice none 0 0,Value.int IntKind.i64 0]⟩⟩
theorem aTG:qn Tryz.prog 28=some ak4:=by kernel_rfl
def Q4:TI:=⟨Kd.stru [(0,27),(2,3)],3,40,Value.agg ⟨[Value.bool false,Value.slice none 0 0,Value.int IntKind.i64 0]⟩⟩
theorem Kj:qn Tryz.prog 29=some Q4:=by kernel_rfl
def aDP:TI:=⟨Kd.oth,1,8,Value.nilFunc⟩
theorem bda:qn Tryz.prog 31=some aDP:=by kernel_rfl
def aDO:TI:=⟨Kd.oth,1,8,Value.nilFunc⟩
theorem bc9:qn Tryz.prog 33=some aDO:=by kernel_rfl
def aDN:TI:=⟨Kd.oth,1,8,Value.nilFunc⟩
theorem bc8:qn Tryz.prog 34=some aDN:=by kernel_rfl
def aDM:TI:=⟨Kd.oth,1,8,Value.nilFunc⟩
theorem bc7:qn Tryz.prog 35=some aDM:=by kernel_rfl
def aDL:TI:=⟨Kd.oth,1,8,Value.nilFunc⟩
theorem bc6:qn Tryz.prog 36=some aDL:=by kernel_rfl
def aDK:TI:=⟨Kd.oth,1,8,Value.nilFunc⟩
theorem bc5:qn Tryz.prog 37=some aDK:=by kernel_rfl
def aDJ:TI:=⟨Kd.oth,1,8,Value.nilFunc⟩
theorem bc4:qn Tryz.prog 38=some aDJ:=by kernel_rfl
def aDI:TI:=⟨Kd.oth,1,8,Value.nilFunc⟩
theorem bc3:qn Tryz.prog 39=some aDI:=by kernel_rfl
def aeg:TI:=⟨Kd.sli 29,1,24,Value.slice none 0 0⟩
theorem aDU:qn Tryz.prog 40=some aeg:=by kernel_rfl
def akQ:TI:=⟨Kd.stru [(0,3),(1,40)],2,32,Value.agg ⟨[Value.int IntKind.i64 0,Value.slice none 0 0]⟩⟩
theorem aTF:qn Tryz.prog 41=some akQ:=by kernel_rfl
def akO:TI:=⟨Kd.stru [(0,3),(1,40)],2,32,Value.agg ⟨[Value.int IntKind.i64 0,Value.slice none 0 0]⟩⟩
theorem aTE:qn Tryz.prog 42=some akO:=by kernel_rfl
def aDH:TI:=⟨Kd.oth,1,8,Value.nilFunc⟩
theorem bc2:qn Tryz.prog 44=some aDH:=by kernel_rfl
def aDG:TI:=⟨Kd.oth,1,8,Value.nilFunc⟩
theorem bc1:qn Tryz.prog 45=some aDG:=by kernel_rfl
def aDF:TI:=⟨Kd.oth,1,8,Value.nilFunc⟩
theorem bc0:qn Tryz.prog 47=some aDF:=by kernel_rfl
def aDE:TI:=⟨Kd.oth,1,8,Value.nilFunc⟩
theorem bcZ:qn Tryz.prog 48=some aDE:=by kernel_rfl
def akI:TI:=⟨Kd.stru [(0,29),(3,29)],6,80,Value.agg ⟨[Value.bool false,Value.slice none 0 0,Value.int IntKind.i64 0,Value.bool false,Value.slice none 0 0,Value.int IntKind.i64 0]⟩⟩
theorem aTD:qn Tryz.prog 49=some akI:=by kernel_rfl
def ajN:TI:=⟨Kd.stru [(0,29),(3,29)],6,80,Value.agg ⟨[Value.bool false,Value.slice none 0 0,Value.int IntKind.i64 0,Value.bool false,Value.slice none 0 0,Value.int IntKind.i64 0]⟩⟩
theorem aM8:qn Tryz.prog 50=some ajN:=by kernel_rfl
def aDD:TI:=⟨Kd.oth,1,8,Value.nilFunc⟩
theorem bcY:qn Tryz.prog 52=some aDD:=by kernel_rfl
def aDC:TI:=⟨Kd.oth,1,8,Value.nilFunc⟩
theorem bcX:qn Tryz.prog 54=some aDC:=by kernel_rfl
def aDB:TI:=⟨Kd.oth,1,8,Value.nilFunc⟩
theorem bcW:qn Tryz.prog 55=some aDB:=by kernel_rfl
def aDA:TI:=⟨Kd.oth,1,8,Value.nilFunc⟩
theorem bcV:qn Tryz.prog 56=some aDA:=by kernel_rfl
def aDz:TI:=⟨Kd.oth,1,8,Value.nilFunc⟩
theorem bcU:qn Tryz.prog 57=some aDz:=by kernel_rfl
def aDy:TI:=⟨Kd.oth,1,8,Value.nilFunc⟩
theorem bcT:qn Tryz.prog 58=some aDy:=by kernel_rfl
def aDx:TI:=⟨Kd.oth,1,8,Value.nilFunc⟩
theorem bcS:qn Tryz.prog 59=some aDx:=by kernel_rfl
def aDw:TI:=⟨Kd.oth,1,8,Value.nilFunc⟩
theorem bcR:qn Tryz.prog 60=some aDw:=by kernel_rfl
def aDv:TI:=⟨Kd.oth,1,8,Value.nilFunc⟩
theorem bcQ:qn Tryz.prog 61=some aDv:=by kernel_rfl
def afq:TI:=⟨Kd.stru [(0,3),(1,4),(2,3),(3,3)],4,32,Value.agg ⟨[Value.int IntKind.i64 0,Value.bool false,Value.int IntKind.i64 0,Value.int IntKind.i64 0]⟩⟩
theorem aMi:qn Tryz.prog 62=some afq:=by kernel_rfl
def aef:TI:=⟨Kd.stru [(0,3),(1,4),(2,3),(3,3)],4,32,Value.agg ⟨[Value.int IntKind.i64 0,Value.bool false,Value.int IntKind.i64 0,Value.int IntKind.i64 0]⟩⟩
theorem aIa:qn Tryz.prog 63=some aef:=by kernel_rfl
def aDu:TI:=⟨Kd.oth,1,8,Value.nilFunc⟩
theorem bcP:qn Tryz.prog 65=some aDu:=by kernel_rfl
def aDt:TI:=⟨Kd.oth,1,8,Value.nilFunc⟩
theorem bcO:qn Tryz.prog 67=some aDt:=by kernel_rfl
def aDs:TI:=⟨Kd.oth,1,8,Value.nilFunc⟩
theorem bcN:qn Tryz.prog 68=some aDs:=by kernel_rfl
def aDr:TI:=⟨Kd.oth,1,8,Value.nilFunc⟩
theorem bcM:qn Tryz.prog 69=some aDr:=by kernel_rfl
def aDq:TI:=⟨Kd.oth,1,8,Value.nilFunc⟩
theorem bcL:qn Tryz.prog 70=some aDq:=by kernel_rfl
def aDp:TI:=⟨Kd.oth,1,8,Value.nilFunc⟩
theorem bcK:qn Tryz.prog 71=some aDp:=by kernel_rfl
def aDo:TI:=⟨Kd.oth,1,8,Value.nilFunc⟩
theorem bcJ:qn Tryz.prog 72=some aDo:=by kernel_rfl
def aDn:TI:=⟨Kd.oth,1,8,Value.nilFunc⟩
theorem bcI:qn Tryz.prog 74=some aDn:=by kernel_rfl
def aDm:TI:=⟨Kd.oth,1,8,Value.nilFunc⟩
theorem bcH:qn Tryz.prog 76=some aDm:=by kernel_rfl
def aDl:TI:=⟨Kd.oth,1,8,Value.nilFunc⟩
theorem bcG:qn Tryz.prog 77=some aDl:=by kernel_rfl
def aDk:TI:=⟨Kd.oth,1,8,Value.nilFunc⟩
theorem bcF:qn Tryz.prog 79=some aDk:=by kernel_rfl
def aDj:TI:=⟨Kd.oth,1,8,Value.nilFunc⟩
theorem bcE:qn Tryz.prog 80=some aDj:=by kernel_rfl
def aDi:TI:=⟨Kd.oth,1,8,Value.nilFunc⟩
theorem bcD:qn Tryz.prog 82=some aDi:=by kernel_rfl
def aDh:TI:=⟨Kd.oth,1,8,Value.nilFunc⟩
theorem bcC:qn Tryz.prog 83=some aDh:=by kernel_rfl
def aDg:TI:=⟨Kd.oth,1,8,Value.nilFunc⟩
theorem bcB:qn Tryz.prog 84=some aDg:=by kernel_rfl
def aDf:TI:=⟨Kd.oth,1,8,Value.nilFunc⟩
theorem bcA:qn Tryz.prog 85=some aDf:=by kernel_rfl
def aDe:TI:=⟨Kd.oth,1,8,Value.nilFunc⟩
theorem bcz:qn Tryz.prog 86=some aDe:=by kernel_rfl
def aDd:TI:=⟨Kd.oth,1,8,Value.nilFunc⟩
theorem bcy:qn Tryz.prog 87=some aDd:=by kernel_rfl
def aDc:TI:=⟨Kd.oth,1,8,Value.nilFunc⟩
theorem bcx:qn Tryz.prog 88=some aDc:=by kernel_rfl
def ajM:TI:=⟨Kd.stru [(0,4),(1,23),(2,3)],3,40,Value.agg ⟨[Value.bool false,Value.slice none 0 0,Value.int IntKind.i64 0]⟩⟩
theorem aM7:qn Tryz.prog 89=some ajM:=by kernel_rfl
def QV:TI:=⟨Kd.stru [(0,4),(1,23),(2,3)],3,40,Value.agg ⟨[Value.bool false,Value.slice none 0 0,Value.int IntKind.i64 0]⟩⟩
theorem YW:qn Tryz.prog 90=some QV:=by kernel_rfl
def aDb:TI:=⟨Kd.oth,1,8,Value.nilFunc⟩
theorem bcw:qn Tryz.prog 92=some aDb:=by kernel_rfl
def aDa:TI:=⟨Kd.oth,1,8,Value.nilFunc⟩
theorem bcv:qn Tryz.prog 93=some aDa:=by kernel_rfl
def aC9:TI:=⟨Kd.oth,1,8,Value.nilFunc⟩
theorem bcu:qn Tryz.prog 94=some aC9:=by kernel_rfl
def aC8:TI:=⟨Kd.oth,1,8,Value.nilFunc⟩
theorem bct:qn Tryz.prog 95=some aC8:=by kernel_rfl
def aC7:TI:=⟨Kd.oth,1,8,Value.nilFunc⟩
theorem bcs:qn Tryz.prog 97=some aC7:=by kernel_rfl
def aC6:TI:=⟨Kd.oth,1,8,Value.nilFunc⟩
theorem bcr:qn Tryz.prog 98=some aC6:=by kernel_rfl
def aC5:TI:=⟨Kd.oth,1,8,Value.nilFunc⟩
theorem bcq:qn Tryz.prog 99=some aC5:=by kernel_rfl
def yI:TI:=⟨Kd.sli 90,1,24,Value.slice none 0 0⟩
theorem J3:qn Tryz.prog 100=some yI:=by kernel_rfl
def Zp:TI:=⟨Kd.stru [(0,3),(1,100)],2,32,Value.agg ⟨[Value.int IntKind.i64 0,Value.slice none 0 0]⟩⟩
theorem aAc:qn Tryz.prog 101=some Zp:=by kernel_rfl
def Zo:TI:=⟨Kd.stru [(0,3),(1,100)],2,32,Value.agg ⟨[Value.int IntKind.i64 0,Value.slice none 0 0]⟩⟩
theorem aAb:qn Tryz.prog 102=some Zo:=by kernel_rfl
def Ki:TI:=⟨Kd.oth,1,8,Value.nilFunc⟩
theorem aYu:qn Tryz.prog 103=some Ki:=by kernel_rfl
def Kh:TI:=⟨Kd.oth,1,8,Value.nilFunc⟩
theorem aYt:qn Tryz.prog 104=some Kh:=by kernel_rfl
def Kg:TI:=⟨Kd.oth,1,8,Value.nilFunc⟩
theorem aYs:qn Tryz.prog 105=some Kg:=by kernel_rfl
def Kf:TI:=⟨Kd.oth,1,8,Value.nilFunc⟩
theorem aYr:qn Tryz.prog 106=some Kf:=by kernel_rfl
def Ke:TI:=⟨Kd.oth,1,8,Value.nilFunc⟩
theorem aYq:qn Tryz.prog 107=some Ke:=by kernel_rfl
def Kc:TI:=⟨Kd.oth,1,8,Value.nilFunc⟩
theorem aYp:qn Tryz.prog 108=some Kc:=by kernel_rfl
def Kb:TI:=⟨Kd.oth,1,8,Value.nilFunc⟩
theorem aYo:qn Tryz.prog 109=some Kb:=by kernel_rfl
def Zn:TI:=⟨Kd.stru [(0,90),(3,90)],6,80,Value.agg ⟨[Value.bool false,Value.slice none 0 0,Value.int IntKind.i64 0,Value.bool false,Value.slice none 0 0,Value.int IntKind.i64 0]⟩⟩
theorem aAa:qn Tryz.prog 110=some Zn:=by kernel_rfl
def QY:TI:=⟨Kd.stru [(0,90),(3,90)],6,80,Value.agg ⟨[Value.bool false,Value.slice none 0 0,Value.int IntKind.i64 0,Value.bool false,Value.slice none 0 0,Value.int IntKind.i64 0]⟩⟩
theorem anU:qn Tryz.prog 111=some QY:=by kernel_rfl
def Ka:TI:=⟨Kd.oth,1,8,Value.nilFunc⟩
theorem aYn:qn Tryz.prog 113=some Ka:=by kernel_rfl
def V9:TI:=⟨Kd.oth,1,8,Value.nilFunc⟩
theorem aYm:qn Tryz.prog 114=some V9:=by kernel_rfl
def V8:TI:=⟨Kd.oth,1,8,Value.nilFunc⟩
theorem aYl:qn Tryz.prog 115=some V8:=by kernel_rfl
def V7:TI:=⟨Kd.oth,1,8,Value.nilFunc⟩
theorem aYk:qn Tryz.prog 116=some V7:=by kernel_rfl
def V6:TI:=⟨Kd.oth,1,8,Value.nilFunc⟩
theorem aYj:qn Tryz.prog 117=some V6:=by kernel_rfl
def V5:TI:=⟨Kd.oth,1,8,Value.nilFunc⟩
theorem aYi:qn Tryz.prog 118=some V5:=by kernel_rfl
def V4:TI:=⟨Kd.oth,1,8,Value.nilFunc⟩
theorem aYh:qn Tryz.prog 119=some V4:=by kernel_rfl
def V3:TI:=⟨Kd.oth,1,8,Value.nilFunc⟩
theorem aYg:qn Tryz.prog 120=some V3:=by kernel_rfl
def V2:TI:=⟨Kd.oth,1,8,Value.nilFunc⟩
theorem aYf:qn Tryz.prog 121=some V2:=by kernel_rfl
def V1:TI:=⟨Kd.oth,1,8,Value.nilFunc⟩
theorem aYe:qn Tryz.prog 122=some V1:=by kernel_rfl
def V0:TI:=⟨Kd.oth,1,8,Value.nilFunc⟩
theorem aYd:qn Tryz.prog 123=some V0:=by kernel_rfl
def VZ:TI:=⟨Kd.oth,1,8,Value.nilFunc⟩
theorem aYc:qn Tryz.prog 124=some VZ:=by kernel_rfl
def VY:TI:=⟨Kd.oth,1,8,Value.nilFunc⟩
theorem aYb:qn Tryz.prog 125=some VY:=by kernel_rfl
def VX:TI:=⟨Kd.oth,1,8,Value.nilFunc⟩
theorem aYa:qn Tryz.prog 126=some VX:=by kernel_rfl
def VW:TI:=⟨Kd.oth,1,8,Value.nilFunc⟩
theorem aX9:qn Tryz.prog 127=some VW:=by kernel_rfl
def VV:TI:=⟨Kd.oth,1,8,Value.nilFunc⟩
theorem aX8:qn Tryz.prog 128=some VV:=by kernel_rfl
def VU:TI:=⟨Kd.oth,1,8,Value.nilFunc⟩
theorem aX7:qn Tryz.prog 129=some VU:=by kernel_rfl
def VT:TI:=⟨Kd.oth,1,8,Value.nilFunc⟩
theorem aX6:qn Tryz.prog 130=some VT:=by kernel_rfl
def VS:TI:=⟨Kd.oth,1,8,Value.nilFunc⟩
theorem aX5:qn Tryz.prog 131=some VS:=by kernel_rfl
def VR:TI:=⟨Kd.int IntKind.u64,1,8,Value.int IntKind.u64 0⟩
theorem aX4:qn Tryz.prog 132=some VR:=by kernel_rfl
def VQ:TI:=⟨Kd.oth,1,8,Value.nilFunc⟩
theorem aX3:qn Tryz.prog 133=some VQ:=by kernel_rfl
def VP:TI:=⟨Kd.oth,1,8,Value.nilFunc⟩
theorem aX2:qn Tryz.prog 135=some VP:=by kernel_rfl
def VO:TI:=⟨Kd.oth,1,8,Value.nilFunc⟩
theorem aX1:qn Tryz.prog 136=some VO:=by kernel_rfl
def VN:TI:=⟨Kd.oth,1,8,Value.nilFunc⟩
theorem aX0:qn Tryz.prog 137=some VN:=by kernel_rfl
def VM:TI:=⟨Kd.oth,1,8,Value.nilFunc⟩
theorem aXZ:qn Tryz.prog 138=some VM:=by kernel_rfl
def VL:TI:=⟨Kd.oth,1,8,Value.nilFunc⟩
theorem aXY:qn Tryz.prog 139=some VL:=by kernel_rfl
def VK:TI:=⟨Kd.oth,1,8,Value.nilFunc⟩
theorem aXX:qn Tryz.prog 140=some VK:=by kernel_rfl
def VJ:TI:=⟨Kd.oth,1,8,Value.nilFunc⟩
theorem aXW:qn Tryz.prog 141=some VJ:=by kernel_rfl
def QX:TI:=⟨Kd.stru [(0,22),(1,3),(2,3)],3,40,Value.agg ⟨[Value.slice none 0 0,Value.int IntKind.i64 0,Value.int IntKind.i64 0]⟩⟩
theorem anT:qn Tryz.prog 142=some QX:=by kernel_rfl
def QW:TI:=⟨Kd.stru [(0,22),(1,3),(2,3)],3,40,Value.agg ⟨[Value.slice none 0 0,Value.int IntKind.i64 0,Value.int IntKind.i64 0]⟩⟩
theorem anS:qn Tryz.prog 143=some QW:=by kernel_rfl
def VI:TI:=⟨Kd.oth,1,8,Value.nilFunc⟩
theorem aXV:qn Tryz.prog 144=some VI:=by kernel_rfl
def VH:TI:=⟨Kd.oth,1,8,Value.nilFunc⟩
theorem aXU:qn Tryz.prog 145=some VH:=by kernel_rfl
def VG:TI:=⟨Kd.oth,1,8,Value.nilFunc⟩
theorem aXT:qn Tryz.prog 146=some VG:=by kernel_rfl
def VF:TI:=⟨Kd.oth,1,8,Value.nilFunc⟩
theorem aXS:qn Tryz.prog 147=some VF:=by kernel_rfl
def VE:TI:=⟨Kd.oth,1,8,Value.nilFunc⟩
theorem aXR:qn Tryz.prog 148=some VE:=by kernel_rfl
def VD:TI:=⟨Kd.oth,1,8,Value.nilFunc⟩
theorem aXQ:qn Tryz.prog 150=some VD:=by kernel_rfl
def VC:TI:=⟨Kd.oth,1,8,Value.nilFunc⟩
theorem aXP:qn Tryz.prog 152=some VC:=by kernel_rfl
def VB:TI:=⟨Kd.oth,1,8,Value.nilFunc⟩
theorem aXO:qn Tryz.prog 153=some VB:=by kernel_rfl
def VA:TI:=⟨Kd.oth,1,8,Value.nilFunc⟩
theorem aXN:qn Tryz.prog 154=some VA:=by kernel_rfl
def yW:TI:=⟨Kd.sli 111,1,24,Value.slice none 0 0⟩
theorem Kl:qn Tryz.prog 155=some yW:=by kernel_rfl
def Zm:TI:=⟨Kd.stru [(0,3),(1,155)],2,32,Value.agg ⟨[Value.int IntKind.i64 0,Value.slice none 0 0]⟩⟩
theorem az9:qn Tryz.prog 156=some Zm:=by kernel_rfl
def Zl:TI:=⟨Kd.stru [(0,3),(1,155)],2,32,Value.agg ⟨[Value.int IntKind.i64 0,Value.slice none 0 0]⟩⟩
theorem az8:qn Tryz.prog 157=some Zl:=by kernel_rfl
def Vz:TI:=⟨Kd.oth,1,8,Value.nilFunc⟩
theorem aXM:qn Tryz.prog 158=some Vz:=by kernel_rfl
def yV:TI:=⟨Kd.sli 50,1,24,Value.slice none 0 0⟩
theorem Kk:qn Tryz.prog 159=some yV:=by kernel_rfl
def Zk:TI:=⟨Kd.stru [(0,3),(1,159)],2,32,Value.agg ⟨[Value.int IntKind.i64 0,Value.slice none 0 0]⟩⟩
theorem az7:qn Tryz.prog 160=some Zk:=by kernel_rfl
def Zj:TI:=⟨Kd.stru [(0,3),(1,159)],2,32,Value.agg ⟨[Value.int IntKind.i64 0,Value.slice none 0 0]⟩⟩
theorem az6:qn Tryz.prog 161=some Zj:=by kernel_rfl
def Vy:TI:=⟨Kd.oth,1,8,Value.nilFunc⟩
theorem aXL:qn Tryz.prog 163=some Vy:=by kernel_rfl
def Vx:TI:=⟨Kd.oth,1,8,Value.nilFunc⟩
theorem aXK:qn Tryz.prog 164=some Vx:=by kernel_rfl
def Vw:TI:=⟨Kd.oth,1,8,Value.nilFunc⟩
theorem aXJ:qn Tryz.prog 165=some Vw:=by kernel_rfl
def Vv:TI:=⟨Kd.oth,1,8,Value.nilFunc⟩
theorem aXI:qn Tryz.prog 166=some Vv:=by kernel_rfl
def Vu:TI:=⟨Kd.oth,1,8,Value.nilFunc⟩
theorem aXH:qn Tryz.prog 167=some Vu:=by kernel_rfl
def Vt:TI:=⟨Kd.oth,1,8,Value.nilFunc⟩
theorem aXG:qn Tryz.prog 169=some Vt:=by kernel_rfl
def Vs:TI:=⟨Kd.oth,1,8,Value.nilFunc⟩
theorem aXF:qn Tryz.prog 170=some Vs:=by kernel_rfl
def Vr:TI:=⟨Kd.oth,1,8,Value.nilFunc⟩
theorem aXE:qn Tryz.prog 171=some Vr:=by kernel_rfl
def Vq:TI:=⟨Kd.oth,1,8,Value.nilFunc⟩
theorem aXD:qn Tryz.prog 172=some Vq:=by kernel_rfl
def Vp:TI:=⟨Kd.oth,1,8,Value.nilFunc⟩
theorem aXC:qn Tryz.prog 173=some Vp:=by kernel_rfl
def Vo:TI:=⟨Kd.oth,1,8,Value.nilFunc⟩
theorem aXB:qn Tryz.prog 174=some Vo:=by kernel_rfl
def Vn:TI:=⟨Kd.oth,1,8,Value.nilFunc⟩
theorem aXA:qn Tryz.prog 176=some Vn:=by kernel_rfl
def Vm:TI:=⟨Kd.oth,1,8,Value.nilFunc⟩
theorem aXz:qn Tryz.prog 177=some Vm:=by kernel_rfl
def Vl:TI:=⟨Kd.oth,1,8,Value.nilFunc⟩
theorem aXy:qn Tryz.prog 178=some Vl:=by kernel_rfl
def Vk:TI:=⟨Kd.oth,1,8,Value.nilFunc⟩
theorem aXx:qn Tryz.prog 179=some Vk:=by kernel_rfl
def Vj:TI:=⟨Kd.oth,1,8,Value.nilFunc⟩
theorem aXw:qn Tryz.prog 180=some Vj:=by kernel_rfl
def Vi:TI:=⟨Kd.oth,1,8,Value.nilFunc⟩
theorem aXv:qn Tryz.prog 181=some Vi:=by kernel_rfl
def Vh:TI:=⟨Kd.oth,1,8,Value.nilFunc⟩
theorem aXu:qn Tryz.prog 183=some Vh:=by kernel_rfl
def Vg:TI:=⟨Kd.oth,1,8,Value.nilFunc⟩
theorem aXt:qn Tryz.prog 184=some Vg:=by kernel_rfl
def Vf:TI:=⟨Kd.sli 63,1,24,Value.slice none 0 0⟩
theorem aNa:qn Tryz.prog 185=some Vf:=by kernel_rfl
def Ve:TI:=⟨Kd.oth,1,8,Value.nilFunc⟩
theorem aXs:qn Tryz.prog 186=some Ve:=by kernel_rfl
def Vd:TI:=⟨Kd.oth,1,8,Value.nilFunc⟩
theorem aXr:qn Tryz.prog 187=some Vd:=by kernel_rfl
def Vc:TI:=⟨Kd.oth,1,8,Value.nilFunc⟩
theorem aXq:qn Tryz.prog 188=some Vc:=by kernel_rfl
def Vb:TI:=⟨Kd.oth,1,8,Value.nilFunc⟩
theorem aXp:qn Tryz.prog 189=some Vb:=by kernel_rfl
def Va:TI:=⟨Kd.oth,1,8,Value.nilFunc⟩
theorem aXo:qn Tryz.prog 190=some Va:=by kernel_rfl
def X9:TI:=⟨Kd.oth,1,8,Value.nilFunc⟩
theorem aXn:qn Tryz.prog 191=some X9:=by kernel_rfl
def X8:TI:=⟨Kd.oth,1,8,Value.nilFunc⟩
theorem aXm:qn Tryz.prog 192=some X8:=by kernel_rfl
def X7:TI:=⟨Kd.oth,1,8,Value.nilFunc⟩
theorem aXl:qn Tryz.prog 193=some X7:=by kernel_rfl
def X6:TI:=⟨Kd.oth,1,8,Value.nilFunc⟩
theorem aXk:qn Tryz.prog 194=some X6:=by kernel_rfl
def X5:TI:=⟨Kd.oth,1,8,Value.nilFunc⟩
theorem aXj:qn Tryz.prog 195=some X5:=by kernel_rfl
def X4:TI:=⟨Kd.oth,1,8,Value.nilFunc⟩
theorem aXi:qn Tryz.prog 196=some X4:=by kernel_rfl
def X3:TI:=⟨Kd.oth,1,8,Value.nilFunc⟩
theorem aXh:qn Tryz.prog 197=some X3:=by kernel_rfl
def X2:TI:=⟨Kd.oth,1,8,Value.nilFunc⟩
theorem aXg:qn Tryz.prog 198=some X2:=by kernel_rfl
def X1:TI:=⟨Kd.oth,1,8,Value.nilFunc⟩
theorem aXf:qn Tryz.prog 199=some X1:=by kernel_rfl
def X0:TI:=⟨Kd.oth,1,8,Value.nilFunc⟩
theorem aXe:qn Tryz.prog 200=some X0:=by kernel_rfl
def XZ:TI:=⟨Kd.oth,1,8,Value.nilFunc⟩
theorem aXd:qn Tryz.prog 201=some XZ:=by kernel_rfl
def XY:TI:=⟨Kd.oth,1,8,Value.nilFunc⟩
theorem aXc:qn Tryz.prog 202=some XY:=by kernel_rfl
def XX:TI:=⟨Kd.oth,1,8,Value.nilFunc⟩
theorem aXb:qn Tryz.prog 203=some XX:=by kernel_rfl
def XW:TI:=⟨Kd.oth,1,8,Value.nilFunc⟩
theorem aXa:qn Tryz.prog 204=some XW:=by kernel_rfl
def XV:TI:=⟨Kd.oth,1,8,Value.nilFunc⟩
theorem aW9:qn Tryz.prog 205=some XV:=by kernel_rfl
def XU:TI:=⟨Kd.oth,1,8,Value.nilFunc⟩
theorem aW8:qn Tryz.prog 206=some XU:=by kernel_rfl
def XT:TI:=⟨Kd.oth,1,8,Value.nilFunc⟩
theorem aW7:qn Tryz.prog 208=some XT:=by kernel_rfl
def XS:TI:=⟨Kd.oth,1,8,Value.nilFunc⟩
theorem aW6:qn Tryz.prog 209=some XS:=by kernel_rfl
def XR:TI:=⟨Kd.oth,1,8,Value.nilFunc⟩
theorem aW5:qn Tryz.prog 210=some XR:=by kernel_rfl
def XQ:TI:=⟨Kd.oth,1,8,Value.nilFunc⟩
theorem aW4:qn Tryz.prog 211=some XQ:=by kernel_rfl
def XP:TI:=⟨Kd.oth,1,8,Value.nilFunc⟩
theorem aW3:qn Tryz.prog 212=some XP:=by kernel_rfl
def XO:TI:=⟨Kd.oth,1,8,Value.nilFunc⟩
theorem aW2:qn Tryz.prog 213=some XO:=by kernel_rfl
def XN:TI:=⟨Kd.oth,1,8,Value.nilFunc⟩
theorem aW1:qn Tryz.prog 214=some XN:=by kernel_rfl
def XM:TI:=⟨Kd.oth,1,8,Value.nilFunc⟩
theorem aW0:qn Tryz.prog 215=some XM:=by kernel_rfl
def XL:TI:=⟨Kd.oth,1,8,Value.nilFunc⟩
theorem aWZ:qn Tryz.prog 216=some XL:=by kernel_rfl
def XK:TI:=⟨Kd.oth,1,8,Value.nilFunc⟩
theorem aWY:qn Tryz.prog 217=some XK:=by kernel_rfl
def XJ:TI:=⟨Kd.oth,1,8,Value.nilFunc⟩
theorem aWX:qn Tryz.prog 218=some XJ:=by kernel_rfl
def XI:TI:=⟨Kd.oth,1,8,Value.nilFunc⟩
theorem aWW:qn Tryz.prog 220=some XI:=by kernel_rfl
def XH:TI:=⟨Kd.oth,1,8,Value.nilFunc⟩
theorem aWV:qn Tryz.prog 221=some XH:=by kernel_rfl
def XG:TI:=⟨Kd.sli 100,1,24,Value.slice none 0 0⟩
theorem aM9:qn Tryz.prog 222=some XG:=by kernel_rfl
def XF:TI:=⟨Kd.oth,1,8,Value.nilFunc⟩
theorem aWU:qn Tryz.prog 223=some XF:=by kernel_rfl
def XE:TI:=⟨Kd.oth,1,8,Value.nilFunc⟩
theorem aWT:qn Tryz.prog 224=some XE:=by kernel_rfl
def XD:TI:=⟨Kd.oth,1,8,Value.nilFunc⟩
theorem aWS:qn Tryz.prog 225=some XD:=by kernel_rfl
def XC:TI:=⟨Kd.oth,1,8,Value.nilFunc⟩
theorem aWR:qn Tryz.prog 226=some XC:=by kernel_rfl
def XB:TI:=⟨Kd.oth,1,8,Value.nilFunc⟩
theorem aWQ:qn Tryz.prog 227=some XB:=by kernel_rfl
def XA:TI:=⟨Kd.oth,1,8,Value.nilFunc⟩
theorem aWP:qn Tryz.prog 228=some XA:=by kernel_rfl
def Xz:TI:=⟨Kd.oth,1,8,Value.nilFunc⟩
theorem aWO:qn Tryz.prog 229=some Xz:=by kernel_rfl
def Xy:TI:=⟨Kd.oth,1,8,Value.nilFunc⟩
theorem aWN:qn Tryz.prog 230=some Xy:=by kernel_rfl
def Xx:TI:=⟨Kd.oth,1,8,Value.nilFunc⟩
theorem aWM:qn Tryz.prog 232=some Xx:=by kernel_rfl
def Xw:TI:=⟨Kd.oth,1,8,Value.nilFunc⟩
theorem aWL:qn Tryz.prog 233=some Xw:=by kernel_rfl
def Xv:TI:=⟨Kd.oth,1,8,Value.nilFunc⟩
theorem aWK:qn Tryz.prog 234=some Xv:=by kernel_rfl
def Xu:TI:=⟨Kd.oth,1,8,Value.nilFunc⟩
theorem aWJ:qn Tryz.prog 235=some Xu:=by kernel_rfl
def Xt:TI:=⟨Kd.oth,1,8,Value.nilFunc⟩
theorem aWI:qn Tryz.prog 237=some Xt:=by kernel_rfl
def Xs:TI:=⟨Kd.oth,1,8,Value.nilFunc⟩
theorem aWH:qn Tryz.prog 238=some Xs:=by kernel_rfl
def Xr:TI:=⟨Kd.oth,1,8,Value.nilFunc⟩
theorem aWG:qn Tryz.prog 239=some Xr:=by kernel_rfl
def Xq:TI:=⟨Kd.oth,1,8,Value.nilFunc⟩
theorem aWE:qn Tryz.prog 240=some Xq:=by kernel_rfl
def Xp:TI:=⟨Kd.oth,1,8,Value.nilFunc⟩
theorem aWD:qn Tryz.prog 241=some Xp:=by kernel_rfl
def Xo:TI:=⟨Kd.int IntKind.u32,1,4,Value.int IntKind.u32 0⟩
theorem aWC:qn Tryz.prog 242=some Xo:=by kernel_rfl
def Xn:TI:=⟨Kd.oth,1,8,Value.nilFunc⟩
theorem aWB:qn Tryz.prog 243=some Xn:=by kernel_rfl
def Xm:TI:=⟨Kd.int IntKind.u64,1,8,Value.int IntKind.u64 0⟩
theorem aWA:qn Tryz.prog 244=some Xm:=by kernel_rfl
def Xl:TI:=⟨Kd.oth,1,8,Value.nilFunc⟩
theorem aWz:qn Tryz.prog 245=some Xl:=by kernel_rfl
def Xk:TI:=⟨Kd.oth,1,8,Value.nilFunc⟩
theorem aWy:qn Tryz.prog 247=some Xk:=by kernel_rfl
def Xj:TI:=⟨Kd.oth,1,8,Value.nilFunc⟩
theorem aWx:qn Tryz.prog 248=some Xj:=by kernel_rfl
def Xi:TI:=⟨Kd.oth,1,8,Value.nilFunc⟩
theorem aWw:qn Tryz.prog 249=some Xi:=by kernel_rfl
def Xh:TI:=⟨Kd.oth,1,8,Value.nilFunc⟩
theorem aWv:qn Tryz.prog 250=some Xh:=by kernel_rfl
def Xg:TI:=⟨Kd.oth,1,8,Value.nilFunc⟩
theorem aWu:qn Tryz.prog 251=some Xg:=by kernel_rfl
def Xf:TI:=⟨Kd.oth,1,8,Value.nilFunc⟩
theorem aWt:qn Tryz.prog 252=some Xf:=by kernel_rfl
def Xe:TI:=⟨Kd.oth,1,8,Value.nilFunc⟩
theorem aWs:qn Tryz.prog 253=some Xe:=by kernel_rfl
def Xd:TI:=⟨Kd.oth,1,8,Value.nilFunc⟩
theorem aWr:qn Tryz.prog 254=some Xd:=by kernel_rfl
def Xc:TI:=⟨Kd.oth,1,8,Value.nilFunc⟩
theorem aWq:qn Tryz.prog 255=some Xc:=by kernel_rfl
def Xb:TI:=⟨Kd.oth,1,8,Value.nilFunc⟩
theorem aWp:qn Tryz.prog 258=some Xb:=by kernel_rfl
def Xa:TI:=⟨Kd.stru [(0,261)],0,0,Value.agg ⟨[]⟩⟩
theorem aWo:qn Tryz.prog 262=some Xa:=by kernel_rfl
def Y9:TI:=⟨Kd.stru [(0,261)],0,0,Value.agg ⟨[]⟩⟩
theorem aWn:qn Tryz.prog 263=some Y9:=by kernel_rfl
def Y8:TI:=⟨Kd.int IntKind.u8,1,1,Value.int IntKind.u8 0⟩
theorem aWm:qn Tryz.prog 264=some Y8:=by kernel_rfl
def Y7:TI:=⟨Kd.int IntKind.u8,1,1,Value.int IntKind.u8 0⟩
theorem aWl:qn Tryz.prog 265=some Y7:=by kernel_rfl
def Y6:TI:=⟨Kd.oth,1,8,Value.nilFunc⟩
theorem aWk:qn Tryz.prog 266=some Y6:=by kernel_rfl
def Y5:TI:=⟨Kd.int IntKind.i32,1,4,Value.int IntKind.i32 0⟩
theorem aWj:qn Tryz.prog 268=some Y5:=by kernel_rfl
def Y4:TI:=⟨Kd.int IntKind.i32,1,4,Value.int IntKind.i32 0⟩
theorem aWi:qn Tryz.prog 269=some Y4:=by kernel_rfl
def Y2:TI:=⟨Kd.oth,1,8,Value.nilFunc⟩
theorem aWh:qn Tryz.prog 272=some Y2:=by kernel_rfl
def Y1:TI:=⟨Kd.oth,1,8,Value.nilFunc⟩
theorem aWg:qn Tryz.prog 273=some Y1:=by kernel_rfl
def Y0:TI:=⟨Kd.oth,1,8,Value.nilFunc⟩
theorem aWf:qn Tryz.prog 274=some Y0:=by kernel_rfl
theorem ty1{K:TI→Prop}:@tyW Tryz.prog 1 ⟨K⟩=K ti1:=qh tf1
theorem aM6:ti1.kd=Kd.oth:=ID rfl
theorem aH0:ti1.kd.agg=false:=ID rfl
theorem avv:ti1.size=1:=ID rfl
theorem amh:ti1.bytes=8:=ID rfl
theorem aM4:qw ti1=True:=eq_true rfl
theorem aM5:zc ti1=[.v Value.nilFunc]:=ID rfl
theorem ty2{K:TI→Prop}:@tyW Tryz.prog 2 ⟨K⟩=K ti2:=qh tf2
theorem aM3:ti2.kd=Kd.int IntKind.i64:=ID rfl
theorem aHy:ti2.kd.agg=false:=ID rfl
theorem asl:ti2.size=1:=ID rfl
theorem ak1:ti2.bytes=8:=ID rfl
theorem aM1:qw ti2=True:=eq_true rfl
theorem aM2:zc ti2=[.v (Value.int IntKind.i64 0)]:=ID rfl
theorem ty3{K:TI→Prop}:@tyW Tryz.prog 3 ⟨K⟩=K ti3:=qh tf3
theorem aM0:ti3.kd=Kd.int IntKind.i64:=ID rfl
theorem aG9:ti3.kd.agg=false:=ID rfl
theorem asc:ti3.size=1:=ID rfl
theorem akS:ti3.bytes=8:=ID rfl
theorem aMY:qw ti3=True:=eq_true rfl
theorem aMZ:zc ti3=[.v (Value.int IntKind.i64 0)]:=ID rfl
theorem ty4{K:TI→Prop}:@tyW Tryz.prog 4 ⟨K⟩=K ti4:=qh tf4
theorem aMX:ti4.kd=Kd.bool:=ID rfl
theorem aGK:ti4.kd.agg=false:=ID rfl
theorem ar3:ti4.size=1:=ID rfl
theorem akG:ti4.bytes=1:=ID rfl
theorem aMV:qw ti4=True:=eq_true rfl
theorem aMW:zc ti4=[.v (Value.bool false)]:=ID rfl
theorem ty5{K:TI→Prop}:@tyW Tryz.prog 5 ⟨K⟩=K ti5:=qh tf5
theorem aMU:ti5.kd=Kd.int IntKind.u8:=ID rfl
theorem aGl:ti5.kd.agg=false:=ID rfl
theorem arU:ti5.size=1:=ID rfl
theorem akx:ti5.bytes=1:=ID rfl
theorem aMS:qw ti5=True:=eq_true rfl
theorem aMT:zc ti5=[.v (Value.int IntKind.u8 0)]:=ID rfl
theorem ty6{K:TI→Prop}:@tyW Tryz.prog 6 ⟨K⟩=K ti6:=qh tf6
theorem aMR:ti6.kd=Kd.int IntKind.u8:=ID rfl
theorem aFW:ti6.kd.agg=false:=ID rfl
theorem arL:ti6.size=1:=ID rfl
theorem ako:ti6.bytes=1:=ID rfl
theorem aMP:qw ti6=True:=eq_true rfl
theorem aMQ:zc ti6=[.v (Value.int IntKind.u8 0)]:=ID rfl
theorem ty7{K:TI→Prop}:@tyW Tryz.prog 7 ⟨K⟩=K ti7:=qh tf7
theorem aMO:ti7.kd=Kd.stru [(0,2),(1,3),(2,4),(3,6)]:=ID rfl
theorem aFA:ti7.kd.agg=true:=ID rfl
theorem arD:ti7.size=4:=ID rfl
theorem akg:ti7.bytes=24:=ID rfl
theorem aMM:qw ti7=True:=eq_true rfl
theorem aMN:zc ti7=[.v (Value.int IntKind.i64 0),.v (Value.int IntKind.i64 0),.v (Value.bool false),.v (Value.int IntKind.u8 0)]:=ID rfl
theorem aSu{K:Nat→TI→Prop}:@qy Tryz.prog 7 0 ⟨K⟩=K 0 ti2:=qr (ti:=ti7) (tf:=ti2) (fo:=(0,2)) (fs:=[(0,2),(1,3),(2,4),(3,6)]) tf7 rfl rfl tf2
theorem aYR{K:Nat→Nat→Prop}:qt Tryz.prog [(0,2),(1,3),(2,4),(3,6)] 0 K=K 0 1:=qq (tf:=ti2) (fo:=(0,2)) (fs:=[(0,2),(1,3),(2,4),(3,6)]) rfl tf2
theorem aSt{K:Nat→TI→Prop}:@qy Tryz.prog 7 1 ⟨K⟩=K 1 ti3:=qr (ti:=ti7) (tf:=ti3) (fo:=(1,3)) (fs:=[(0,2),(1,3),(2,4),(3,6)]) tf7 rfl rfl tf3
theorem aYQ{K:Nat→Nat→Prop}:qt Tryz.prog [(0,2),(1,3),(2,4),(3,6)] 1 K=K 1 1:=qq (tf:=ti3) (fo:=(1,3)) (fs:=[(0,2),(1,3),(2,4),(3,6)]) rfl tf3
theorem aSs{K:Nat→TI→Prop}:@qy Tryz.prog 7 2 ⟨K⟩=K 2 ti4:=qr (ti:=ti7) (tf:=ti4) (fo:=(2,4)) (fs:=[(0,2),(1,3),(2,4),(3,6)]) tf7 rfl rfl tf4
theorem aYP{K:Nat→Nat→Prop}:qt Tryz.prog [(0,2),(1,3),(2,4),(3,6)] 2 K=K 2 1:=qq (tf:=ti4) (fo:=(2,4)) (fs:=[(0,2),(1,3),(2,4),(3,6)]) rfl tf4
theorem aSr{K:Nat→TI→Prop}:@qy Tryz.prog 7 3 ⟨K⟩=K 3 ti6:=qr (ti:=ti7) (tf:=ti6) (fo:=(3,6)) (fs:=[(0,2),(1,3),(2,4),(3,6)]) tf7 rfl rfl tf6
theorem aYO{K:Nat→Nat→Prop}:qt Tryz.prog [(0,2),(1,3),(2,4),(3,6)] 3 K=K 3 1:=qq (tf:=ti6) (fo:=(3,6)) (fs:=[(0,2),(1,3),(2,4),(3,6)]) rfl tf6
theorem aZa:∀f∈([(0,2),(1,3),(2,4),(3,6)]:List (Nat×Nat)),(qn Tryz.prog f.2).isSome=true:=by
 intro f hf
 simp only[List.mem_cons,List.not_mem_nil,or_false]at hf
 rcases hf with rfl|rfl|rfl|rfl
 ·rw[tf2];rfl
 ·rw[tf3];rfl
 ·rw[tf4];rfl
 ·rw[tf6];rfl
theorem bdJ{ps:List (Nat×AV)}{K:AV→Prop}:@ze Tryz.prog 7 ps ⟨K⟩=@zf (qt Tryz.prog [(0,2),(1,3),(2,4),(3,6)]) (zc ti7) ps ⟨fun cs=>K (.ag cs)⟩:=qI tf7 rfl aZa
theorem ty8{K:TI→Prop}:@tyW Tryz.prog 8 ⟨K⟩=K ti8:=qh tf8
theorem aML:ti8.kd=Kd.stru [(0,2),(1,3),(2,4),(3,6)]:=ID rfl
theorem aE8:ti8.kd.agg=true:=ID rfl
theorem art:ti8.size=4:=ID rfl
theorem aj6:ti8.bytes=24:=ID rfl
theorem aMJ:qw ti8=True:=eq_true rfl
theorem aMK:zc ti8=[.v (Value.int IntKind.i64 0),.v (Value.int IntKind.i64 0),.v (Value.bool false),.v (Value.int IntKind.u8 0)]:=ID rfl
theorem aSq{K:Nat→TI→Prop}:@qy Tryz.prog 8 0 ⟨K⟩=K 0 ti2:=qr (ti:=ti8) (tf:=ti2) (fo:=(0,2)) (fs:=[(0,2),(1,3),(2,4),(3,6)]) tf8 rfl rfl tf2
theorem aYN{K:Nat→Nat→Prop}:qt Tryz.prog [(0,2),(1,3),(2,4),(3,6)] 0 K=K 0 1:=qq (tf:=ti2) (fo:=(0,2)) (fs:=[(0,2),(1,3),(2,4),(3,6)]) rfl tf2
theorem aSp{K:Nat→TI→Prop}:@qy Tryz.prog 8 1 ⟨K⟩=K 1 ti3:=qr (ti:=ti8) (tf:=ti3) (fo:=(1,3)) (fs:=[(0,2),(1,3),(2,4),(3,6)]) tf8 rfl rfl tf3
theorem aYM{K:Nat→Nat→Prop}:qt Tryz.prog [(0,2),(1,3),(2,4),(3,6)] 1 K=K 1 1:=qq (tf:=ti3) (fo:=(1,3)) (fs:=[(0,2),(1,3),(2,4),(3,6)]) rfl tf3
theorem aSo{K:Nat→TI→Prop}:@qy Tryz.prog 8 2 ⟨K⟩=K 2 ti4:=qr (ti:=ti8) (tf:=ti4) (fo:=(2,4)) (fs:=[(0,2),(1,3),(2,4),(3,6)]) tf8 rfl rfl tf4
theorem aYL{K:Nat→Nat→Prop}:qt Tryz.prog [(0,2),(1,3),(2,4),(3,6)] 2 K=K 2 1:=qq (tf:=ti4) (fo:=(2,4)) (fs:=[(0,2),(1,3),(2,4),(3,6)]) rfl tf4
theorem aSn{K:Nat→TI→Prop}:@qy Tryz.prog 8 3 ⟨K⟩=K 3 ti6:=qr (ti:=ti8) (tf:=ti6) (fo:=(3,6)) (fs:=[(0,2),(1,3),(2,4),(3,6)]) tf8 rfl rfl tf6
theorem aYK{K:Nat→Nat→Prop}:qt Tryz.prog [(0,2),(1,3),(2,4),(3,6)] 3 K=K 3 1:=qq (tf:=ti6) (fo:=(3,6)) (fs:=[(0,2),(1,3),(2,4),(3,6)]) rfl tf6
theorem aY9:∀f∈([(0,2),(1,3),(2,4),(3,6)]:List (Nat×Nat)),(qn Tryz.prog f.2).isSome=true:=by
 intro f hf
 simp only[List.mem_cons,List.not_mem_nil,or_false]at hf
 rcases hf with rfl|rfl|rfl|rfl
 ·rw[tf2];rfl
 ·rw[tf3];rfl
 ·rw[tf4];rfl
 ·rw[tf6];rfl
theorem bdI{ps:List (Nat×AV)}{K:AV→Prop}:@ze Tryz.prog 8 ps ⟨K⟩=@zf (qt Tryz.prog [(0,2),(1,3),(2,4),(3,6)]) (zc ti8) ps ⟨fun cs=>K (.ag cs)⟩:=qI tf8 rfl aY9
theorem ty9{K:TI→Prop}:@tyW Tryz.prog 9 ⟨K⟩=K ti9:=qh tf9
theorem aMI:ti9.kd=Kd.str:=ID rfl
theorem aEJ:ti9.kd.agg=false:=ID rfl
theorem arj:ti9.size=1:=ID rfl
theorem ajX:ti9.bytes=16:=ID rfl
theorem aMG:qw ti9=True:=eq_true rfl
theorem aMH:zc ti9=[.v (Value.string {data:=⟨[]⟩})]:=ID rfl
theorem bco{K:TI→Prop}:@tyW Tryz.prog 10 ⟨K⟩=K aDT:=qh bde
theorem aH9:aDT.kd=Kd.str:=ID rfl
theorem azy:aDT.kd.agg=false:=ID rfl
theorem anG:aDT.size=1:=ID rfl
theorem ain:aDT.bytes=16:=ID rfl
theorem aH7:qw aDT=True:=eq_true rfl
theorem aH8:zc aDT=[.v (Value.string {data:=⟨[]⟩})]:=ID rfl
theorem bcn{K:TI→Prop}:@tyW Tryz.prog 11 ⟨K⟩=K aDS:=qh bdd
theorem aH6:aDS.kd=Kd.str:=ID rfl
theorem ay6:aDS.kd.agg=false:=ID rfl
theorem anv:aDS.size=1:=ID rfl
theorem aid:aDS.bytes=16:=ID rfl
theorem aH4:qw aDS=True:=eq_true rfl
theorem aH5:zc aDS=[.v (Value.string {data:=⟨[]⟩})]:=ID rfl
theorem bcm{K:TI→Prop}:@tyW Tryz.prog 12 ⟨K⟩=K aDR:=qh bdc
theorem aH3:aDR.kd=Kd.int IntKind.u64:=ID rfl
theorem ayB:aDR.kd.agg=false:=ID rfl
theorem ank:aDR.size=1:=ID rfl
theorem ah2:aDR.bytes=8:=ID rfl
theorem aH1:qw aDR=True:=eq_true rfl
theorem aH2:zc aDR=[.v (Value.int IntKind.u64 0)]:=ID rfl
theorem bcl{K:TI→Prop}:@tyW Tryz.prog 21 ⟨K⟩=K aDQ:=qh bdb
theorem aHZ:aDQ.kd=Kd.int IntKind.i32:=ID rfl
theorem auC:aDQ.kd.agg=false:=ID rfl
theorem alY:aDQ.size=1:=ID rfl
theorem agI:aDQ.bytes=4:=ID rfl
theorem aHX:qw aDQ=True:=eq_true rfl
theorem aHY:zc aDQ=[.v (Value.int IntKind.i32 0)]:=ID rfl
theorem bck{K:TI→Prop}:@tyW Tryz.prog 22 ⟨K⟩=K aeh:=qh aDV
theorem aHW:aeh.kd=Kd.sli 5:=ID rfl
theorem at7:aeh.kd.agg=false:=ID rfl
theorem alN:aeh.size=1:=ID rfl
theorem agx:aeh.bytes=24:=ID rfl
theorem aHU:qw aeh=True:=eq_true rfl
theorem aHV:zc aeh=[.v (Value.slice none 0 0)]:=ID rfl
theorem aYB{K:TI→Prop}:@yA Tryz.prog 22 ⟨K⟩=K ti5:=QK aDV rfl tf5
theorem bcj{K:TI→Prop}:@tyW Tryz.prog 23 ⟨K⟩=K Jq:=qh aei
theorem aHT:Jq.kd=Kd.sli 3:=ID rfl
theorem atI:Jq.kd.agg=false:=ID rfl
theorem alC:Jq.size=1:=ID rfl
theorem ago:Jq.bytes=24:=ID rfl
theorem aHR:qw Jq=True:=eq_true rfl
theorem aHS:zc Jq=[.v (Value.slice none 0 0)]:=ID rfl
theorem aYA{K:TI→Prop}:@yA Tryz.prog 23 ⟨K⟩=K ti3:=QK aei rfl tf3
theorem bci{K:TI→Prop}:@tyW Tryz.prog 24 ⟨K⟩=K aqZ:=qh aWF
theorem aHQ:aqZ.kd=Kd.stru [(0,23)]:=ID rfl
theorem atg:aqZ.kd.agg=true:=ID rfl
theorem alr:aqZ.size=1:=ID rfl
theorem agd:aqZ.bytes=24:=ID rfl
theorem aHO:qw aqZ=True:=eq_true rfl
theorem aHP:zc aqZ=[.v (Value.slice none 0 0)]:=ID rfl
theorem aK3{K:Nat→TI→Prop}:@qy Tryz.prog 24 0 ⟨K⟩=K 0 Jq:=qr (ti:=aqZ) (tf:=Jq) (fo:=(0,23)) (fs:=[(0,23)]) aWF rfl rfl aei
theorem aOd{K:Nat→Nat→Prop}:qt Tryz.prog [(0,23)] 0 K=K 0 1:=qq (tf:=Jq) (fo:=(0,23)) (fs:=[(0,23)]) rfl aei
theorem aO0:∀f∈([(0,23)]:List (Nat×Nat)),(qn Tryz.prog f.2).isSome=true:=by
 intro f hf
 simp only[List.mem_cons,List.not_mem_nil,or_false]at hf
 subst hf;rw[aei];rfl
theorem ba1{ps:List (Nat×AV)}{K:AV→Prop}:@ze Tryz.prog 24 ps ⟨K⟩=@zf (qt Tryz.prog [(0,23)]) (zc aqZ) ps ⟨fun cs=>K (.ag cs)⟩:=qI aWF rfl aO0
theorem bch{K:TI→Prop}:@tyW Tryz.prog 25 ⟨K⟩=K aas:=qh az5
theorem aHN:aas.kd=Kd.stru [(0,23)]:=ID rfl
theorem asU:aas.kd.agg=true:=ID rfl
theorem ali:aas.size=1:=ID rfl
theorem af5:aas.bytes=24:=ID rfl
theorem aHL:qw aas=True:=eq_true rfl
theorem aHM:zc aas=[.v (Value.slice none 0 0)]:=ID rfl
theorem aK2{K:Nat→TI→Prop}:@qy Tryz.prog 25 0 ⟨K⟩=K 0 Jq:=qr (ti:=aas) (tf:=Jq) (fo:=(0,23)) (fs:=[(0,23)]) az5 rfl rfl aei
theorem aOc{K:Nat→Nat→Prop}:qt Tryz.prog [(0,23)] 0 K=K 0 1:=qq (tf:=Jq) (fo:=(0,23)) (fs:=[(0,23)]) rfl aei
theorem aOZ:∀f∈([(0,23)]:List (Nat×Nat)),(qn Tryz.prog f.2).isSome=true:=by
 intro f hf
 simp only[List.mem_cons,List.not_mem_nil,or_false]at hf
 subst hf;rw[aei];rfl
theorem ba0{ps:List (Nat×AV)}{K:AV→Prop}:@ze Tryz.prog 25 ps ⟨K⟩=@zf (qt Tryz.prog [(0,23)]) (zc aas) ps ⟨fun cs=>K (.ag cs)⟩:=qI az5 rfl aOZ
theorem bcg{K:TI→Prop}:@tyW Tryz.prog 26 ⟨K⟩=K alh:=qh aTH
theorem aHK:alh.kd=Kd.stru [(0,4),(1,25)]:=ID rfl
theorem asy:alh.kd.agg=true:=ID rfl
theorem ak9:alh.size=2:=ID rfl
theorem afX:alh.bytes=32:=ID rfl
theorem aHI:qw alh=True:=eq_true rfl
theorem aHJ:zc alh=[.v (Value.bool false),.v (Value.slice none 0 0)]:=ID rfl
theorem aK1{K:Nat→TI→Prop}:@qy Tryz.prog 26 0 ⟨K⟩=K 0 ti4:=qr (ti:=alh) (tf:=ti4) (fo:=(0,4)) (fs:=[(0,4),(1,25)]) aTH rfl rfl tf4
theorem aOb{K:Nat→Nat→Prop}:qt Tryz.prog [(0,4),(1,25)] 0 K=K 0 1:=qq (tf:=ti4) (fo:=(0,4)) (fs:=[(0,4),(1,25)]) rfl tf4
theorem aK0{K:Nat→TI→Prop}:@qy Tryz.prog 26 1 ⟨K⟩=K 1 aas:=qr (ti:=alh) (tf:=aas) (fo:=(1,25)) (fs:=[(0,4),(1,25)]) aTH rfl rfl az5
theorem aOa{K:Nat→Nat→Prop}:qt Tryz.prog [(0,4),(1,25)] 1 K=K 1 1:=qq (tf:=aas) (fo:=(1,25)) (fs:=[(0,4),(1,25)]) rfl az5
theorem aOY:∀f∈([(0,4),(1,25)]:List (Nat×Nat)),(qn Tryz.prog f.2).isSome=true:=by
 intro f hf
 simp only[List.mem_cons,List.not_mem_nil,or_false]at hf
 rcases hf with rfl|rfl
 ·rw[tf4];rfl
 ·rw[az5];rfl
theorem baZ{ps:List (Nat×AV)}{K:AV→Prop}:@ze Tryz.prog 26 ps ⟨K⟩=@zf (qt Tryz.prog [(0,4),(1,25)]) (zc alh) ps ⟨fun cs=>K (.ag cs)⟩:=qI aTH rfl aOY
theorem bcf{K:TI→Prop}:@tyW Tryz.prog 27 ⟨K⟩=K Y3:=qh aq0
theorem aHH:Y3.kd=Kd.stru [(0,4),(1,25)]:=ID rfl
theorem aso:Y3.kd.agg=true:=ID rfl
theorem ak5:Y3.size=2:=ID rfl
theorem afT:Y3.bytes=32:=ID rfl
theorem aHF:qw Y3=True:=eq_true rfl
theorem aHG:zc Y3=[.v (Value.bool false),.v (Value.slice none 0 0)]:=ID rfl
theorem aKZ{K:Nat→TI→Prop}:@qy Tryz.prog 27 0 ⟨K⟩=K 0 ti4:=qr (ti:=Y3) (tf:=ti4) (fo:=(0,4)) (fs:=[(0,4),(1,25)]) aq0 rfl rfl tf4
theorem aN9{K:Nat→Nat→Prop}:qt Tryz.prog [(0,4),(1,25)] 0 K=K 0 1:=qq (tf:=ti4) (fo:=(0,4)) (fs:=[(0,4),(1,25)]) rfl tf4
theorem aKY{K:Nat→TI→Prop}:@qy Tryz.prog 27 1 ⟨K⟩=K 1 aas:=qr (ti:=Y3) (tf:=aas) (fo:=(1,25)) (fs:=[(0,4),(1,25)]) aq0 rfl rfl az5
theorem aN8{K:Nat→Nat→Prop}:qt Tryz.prog [(0,4),(1,25)] 1 K=K 1 1:=qq (tf:=aas) (fo:=(1,25)) (fs:=[(0,4),(1,25)]) rfl az5
theorem aOX:∀f∈([(0,4),(1,25)]:List (Nat×Nat)),(qn Tryz.prog f.2).isSome=true:=by
 intro f hf
 simp only[List.mem_cons,List.not_mem_nil,or_false]at hf
 rcases hf with rfl|rfl
 ·rw[tf4];rfl
 ·rw[az5];rfl
theorem baY{ps:List (Nat×AV)}{K:AV→Prop}:@ze Tryz.prog 27 ps ⟨K⟩=@zf (qt Tryz.prog [(0,4),(1,25)]) (zc Y3) ps ⟨fun cs=>K (.ag cs)⟩:=qI aq0 rfl aOX
theorem bce{K:TI→Prop}:@tyW Tryz.prog 28 ⟨K⟩=K ak4:=qh aTG
theorem aHE:ak4.kd=Kd.stru [(0,27),(2,3)]:=ID rfl
theorem asn:ak4.kd.agg=true:=ID rfl
theorem ak3:ak4.size=3:=ID rfl
theorem afS:ak4.bytes=40:=ID rfl
theorem aHC:qw ak4=True:=eq_true rfl
theorem aHD:zc ak4=[.v (Value.bool false),.v (Value.slice none 0 0),.v (Value.int IntKind.i64 0)]:=ID rfl
theorem aKX{K:Nat→TI→Prop}:@qy Tryz.prog 28 0 ⟨K⟩=K 0 Y3:=qr (ti:=ak4) (tf:=Y3) (fo:=(0,27)) (fs:=[(0,27),(2,3)]) aTG rfl rfl aq0
theorem aN7{K:Nat→Nat→Prop}:qt Tryz.prog [(0,27),(2,3)] 0 K=K 0 2:=qq (tf:=Y3) (fo:=(0,27)) (fs:=[(0,27),(2,3)]) rfl aq0
theorem aKW{K:Nat→TI→Prop}:@qy Tryz.prog 28 1 ⟨K⟩=K 2 ti3:=qr (ti:=ak4) (tf:=ti3) (fo:=(2,3)) (fs:=[(0,27),(2,3)]) aTG rfl rfl tf3
theorem aN6{K:Nat→Nat→Prop}:qt Tryz.prog [(0,27),(2,3)] 1 K=K 2 1:=qq (tf:=ti3) (fo:=(2,3)) (fs:=[(0,27),(2,3)]) rfl tf3
theorem aOW:∀f∈([(0,27),(2,3)]:List (Nat×Nat)),(qn Tryz.prog f.2).isSome=true:=by
 intro f hf
 simp only[List.mem_cons,List.not_mem_nil,or_false]at hf
 rcases hf with rfl|rfl
 ·rw[aq0];rfl
 ·rw[tf3];rfl
theorem baX{ps:List (Nat×AV)}{K:AV→Prop}:@ze Tryz.prog 28 ps ⟨K⟩=@zf (qt Tryz.prog [(0,27),(2,3)]) (zc ak4) ps ⟨fun cs=>K (.ag cs)⟩:=qI aTG rfl aOW
theorem bcd{K:TI→Prop}:@tyW Tryz.prog 29 ⟨K⟩=K Q4:=qh Kj
theorem aHB:Q4.kd=Kd.stru [(0,27),(2,3)]:=ID rfl
theorem asm:Q4.kd.agg=true:=ID rfl
theorem ak2:Q4.size=3:=ID rfl
theorem afR:Q4.bytes=40:=ID rfl
theorem aHz:qw Q4=True:=eq_true rfl
theorem aHA:zc Q4=[.v (Value.bool false),.v (Value.slice none 0 0),.v (Value.int IntKind.i64 0)]:=ID rfl
theorem aKV{K:Nat→TI→Prop}:@qy Tryz.prog 29 0 ⟨K⟩=K 0 Y3:=qr (ti:=Q4) (tf:=Y3) (fo:=(0,27)) (fs:=[(0,27),(2,3)]) Kj rfl rfl aq0
theorem aN5{K:Nat→Nat→Prop}:qt Tryz.prog [(0,27),(2,3)] 0 K=K 0 2:=qq (tf:=Y3) (fo:=(0,27)) (fs:=[(0,27),(2,3)]) rfl aq0
theorem aKU{K:Nat→TI→Prop}:@qy Tryz.prog 29 1 ⟨K⟩=K 2 ti3:=qr (ti:=Q4) (tf:=ti3) (fo:=(2,3)) (fs:=[(0,27),(2,3)]) Kj rfl rfl tf3
theorem aN4{K:Nat→Nat→Prop}:qt Tryz.prog [(0,27),(2,3)] 1 K=K 2 1:=qq (tf:=ti3) (fo:=(2,3)) (fs:=[(0,27),(2,3)]) rfl tf3
theorem aOV:∀f∈([(0,27),(2,3)]:List (Nat×Nat)),(qn Tryz.prog f.2).isSome=true:=by
 intro f hf
 simp only[List.mem_cons,List.not_mem_nil,or_false]at hf
 rcases hf with rfl|rfl
 ·rw[aq0];rfl
 ·rw[tf3];rfl
theorem baW{ps:List (Nat×AV)}{K:AV→Prop}:@ze Tryz.prog 29 ps ⟨K⟩=@zf (qt Tryz.prog [(0,27),(2,3)]) (zc Q4) ps ⟨fun cs=>K (.ag cs)⟩:=qI Kj rfl aOV
theorem bcc{K:TI→Prop}:@tyW Tryz.prog 31 ⟨K⟩=K aDP:=qh bda
theorem aHx:aDP.kd=Kd.oth:=ID rfl
theorem ask:aDP.kd.agg=false:=ID rfl
theorem ak0:aDP.size=1:=ID rfl
theorem afQ:aDP.bytes=8:=ID rfl
theorem aHv:qw aDP=True:=eq_true rfl
theorem aHw:zc aDP=[.v Value.nilFunc]:=ID rfl
theorem bcb{K:TI→Prop}:@tyW Tryz.prog 33 ⟨K⟩=K aDO:=qh bc9
theorem aHu:aDO.kd=Kd.oth:=ID rfl
theorem asj:aDO.kd.agg=false:=ID rfl
theorem akZ:aDO.size=1:=ID rfl
theorem afP:aDO.bytes=8:=ID rfl
theorem aHs:qw aDO=True:=eq_true rfl
theorem aHt:zc aDO=[.v Value.nilFunc]:=ID rfl
theorem bca{K:TI→Prop}:@tyW Tryz.prog 34 ⟨K⟩=K aDN:=qh bc8
theorem aHr:aDN.kd=Kd.oth:=ID rfl
theorem asi:aDN.kd.agg=false:=ID rfl
theorem akY:aDN.size=1:=ID rfl
theorem afO:aDN.bytes=8:=ID rfl
theorem aHp:qw aDN=True:=eq_true rfl
theorem aHq:zc aDN=[.v Value.nilFunc]:=ID rfl
theorem bb9{K:TI→Prop}:@tyW Tryz.prog 35 ⟨K⟩=K aDM:=qh bc7
theorem aHo:aDM.kd=Kd.oth:=ID rfl
theorem ash:aDM.kd.agg=false:=ID rfl
theorem akX:aDM.size=1:=ID rfl
theorem afN:aDM.bytes=8:=ID rfl
theorem aHm:qw aDM=True:=eq_true rfl
theorem aHn:zc aDM=[.v Value.nilFunc]:=ID rfl
theorem bb8{K:TI→Prop}:@tyW Tryz.prog 36 ⟨K⟩=K aDL:=qh bc6
theorem aHl:aDL.kd=Kd.oth:=ID rfl
theorem asg:aDL.kd.agg=false:=ID rfl
theorem akW:aDL.size=1:=ID rfl
theorem afM:aDL.bytes=8:=ID rfl
theorem aHj:qw aDL=True:=eq_true rfl
theorem aHk:zc aDL=[.v Value.nilFunc]:=ID rfl
theorem bb7{K:TI→Prop}:@tyW Tryz.prog 37 ⟨K⟩=K aDK:=qh bc5
theorem aHi:aDK.kd=Kd.oth:=ID rfl
theorem asf:aDK.kd.agg=false:=ID rfl
theorem akV:aDK.size=1:=ID rfl
theorem afL:aDK.bytes=8:=ID rfl
theorem aHg:qw aDK=True:=eq_true rfl
theorem aHh:zc aDK=[.v Value.nilFunc]:=ID rfl
theorem bb6{K:TI→Prop}:@tyW Tryz.prog 38 ⟨K⟩=K aDJ:=qh bc4
theorem aHf:aDJ.kd=Kd.oth:=ID rfl
theorem ase:aDJ.kd.agg=false:=ID rfl
theorem akU:aDJ.size=1:=ID rfl
theorem afK:aDJ.bytes=8:=ID rfl
theorem aHd:qw aDJ=True:=eq_true rfl
theorem aHe:zc aDJ=[.v Value.nilFunc]:=ID rfl
theorem bb5{K:TI→Prop}:@tyW Tryz.prog 39 ⟨K⟩=K aDI:=qh bc3
theorem aHc:aDI.kd=Kd.oth:=ID rfl
theorem asd:aDI.kd.agg=false:=ID rfl
theorem akT:aDI.size=1:=ID rfl
theorem afJ:aDI.bytes=8:=ID rfl
theorem aHa:qw aDI=True:=eq_true rfl
theorem aHb:zc aDI=[.v Value.nilFunc]:=ID rfl
theorem bb4{K:TI→Prop}:@tyW Tryz.prog 40 ⟨K⟩=K aeg:=qh aDU
theorem aG8:aeg.kd=Kd.sli 29:=ID rfl
theorem asb:aeg.kd.agg=false:=ID rfl
theorem akR:aeg.size=1:=ID rfl
theorem afI:aeg.bytes=24:=ID rfl
theorem aG6:qw aeg=True:=eq_true rfl
theorem aG7:zc aeg=[.v (Value.slice none 0 0)]:=ID rfl
theorem aYz{K:TI→Prop}:@yA Tryz.prog 40 ⟨K⟩=K Q4:=QK aDU rfl Kj
theorem bb3{K:TI→Prop}:@tyW Tryz.prog 41 ⟨K⟩=K akQ:=qh aTF
theorem aG5:akQ.kd=Kd.stru [(0,3),(1,40)]:=ID rfl
theorem asa:akQ.kd.agg=true:=ID rfl
theorem akP:akQ.size=2:=ID rfl
theorem afH:akQ.bytes=32:=ID rfl
theorem aG3:qw akQ=True:=eq_true rfl
theorem aG4:zc akQ=[.v (Value.int IntKind.i64 0),.v (Value.slice none 0 0)]:=ID rfl
theorem aKT{K:Nat→TI→Prop}:@qy Tryz.prog 41 0 ⟨K⟩=K 0 ti3:=qr (ti:=akQ) (tf:=ti3) (fo:=(0,3)) (fs:=[(0,3),(1,40)]) aTF rfl rfl tf3
theorem aN3{K:Nat→Nat→Prop}:qt Tryz.prog [(0,3),(1,40)] 0 K=K 0 1:=qq (tf:=ti3) (fo:=(0,3)) (fs:=[(0,3),(1,40)]) rfl tf3
theorem aKS{K:Nat→TI→Prop}:@qy Tryz.prog 41 1 ⟨K⟩=K 1 aeg:=qr (ti:=akQ) (tf:=aeg) (fo:=(1,40)) (fs:=[(0,3),(1,40)]) aTF rfl rfl aDU
theorem aN2{K:Nat→Nat→Prop}:qt Tryz.prog [(0,3),(1,40)] 1 K=K 1 1:=qq (tf:=aeg) (fo:=(1,40)) (fs:=[(0,3),(1,40)]) rfl aDU
theorem aOU:∀f∈([(0,3),(1,40)]:List (Nat×Nat)),(qn Tryz.prog f.2).isSome=true:=by
 intro f hf
 simp only[List.mem_cons,List.not_mem_nil,or_false]at hf
 rcases hf with rfl|rfl
 ·rw[tf3];rfl
 ·rw[aDU];rfl
theorem baV{ps:List (Nat×AV)}{K:AV→Prop}:@ze Tryz.prog 41 ps ⟨K⟩=@zf (qt Tryz.prog [(0,3),(1,40)]) (zc akQ) ps ⟨fun cs=>K (.ag cs)⟩:=qI aTF rfl aOU
theorem bb2{K:TI→Prop}:@tyW Tryz.prog 42 ⟨K⟩=K akO:=qh aTE
theorem aG2:akO.kd=Kd.stru [(0,3),(1,40)]:=ID rfl
theorem ar9:akO.kd.agg=true:=ID rfl
theorem akN:akO.size=2:=ID rfl
theorem afG:akO.bytes=32:=ID rfl
theorem aG0:qw akO=True:=eq_true rfl
theorem aG1:zc akO=[.v (Value.int IntKind.i64 0),.v (Value.slice none 0 0)]:=ID rfl
theorem aKR{K:Nat→TI→Prop}:@qy Tryz.prog 42 0 ⟨K⟩=K 0 ti3:=qr (ti:=akO) (tf:=ti3) (fo:=(0,3)) (fs:=[(0,3),(1,40)]) aTE rfl rfl tf3
theorem aN1{K:Nat→Nat→Prop}:qt Tryz.prog [(0,3),(1,40)] 0 K=K 0 1:=qq (tf:=ti3) (fo:=(0,3)) (fs:=[(0,3),(1,40)]) rfl tf3
theorem aKQ{K:Nat→TI→Prop}:@qy Tryz.prog 42 1 ⟨K⟩=K 1 aeg:=qr (ti:=akO) (tf:=aeg) (fo:=(1,40)) (fs:=[(0,3),(1,40)]) aTE rfl rfl aDU
theorem aN0{K:Nat→Nat→Prop}:qt Tryz.prog [(0,3),(1,40)] 1 K=K 1 1:=qq (tf:=aeg) (fo:=(1,40)) (fs:=[(0,3),(1,40)]) rfl aDU
theorem aOT:∀f∈([(0,3),(1,40)]:List (Nat×Nat)),(qn Tryz.prog f.2).isSome=true:=by
 intro f hf
 simp only[List.mem_cons,List.not_mem_nil,or_false]at hf
 rcases hf with rfl|rfl
 ·rw[tf3];rfl
 ·rw[aDU];rfl
theorem baU{ps:List (Nat×AV)}{K:AV→Prop}:@ze Tryz.prog 42 ps ⟨K⟩=@zf (qt Tryz.prog [(0,3),(1,40)]) (zc akO) ps ⟨fun cs=>K (.ag cs)⟩:=qI aTE rfl aOT
theorem bb1{K:TI→Prop}:@tyW Tryz.prog 44 ⟨K⟩=K aDH:=qh bc2
theorem aGZ:aDH.kd=Kd.oth:=ID rfl
theorem ar8:aDH.kd.agg=false:=ID rfl
theorem akM:aDH.size=1:=ID rfl
theorem afF:aDH.bytes=8:=ID rfl
theorem aGX:qw aDH=True:=eq_true rfl
theorem aGY:zc aDH=[.v Value.nilFunc]:=ID rfl
theorem bb0{K:TI→Prop}:@tyW Tryz.prog 45 ⟨K⟩=K aDG:=qh bc1
theorem aGW:aDG.kd=Kd.oth:=ID rfl
theorem ar7:aDG.kd.agg=false:=ID rfl
theorem akL:aDG.size=1:=ID rfl
theorem afE:aDG.bytes=8:=ID rfl
theorem aGU:qw aDG=True:=eq_true rfl
theorem aGV:zc aDG=[.v Value.nilFunc]:=ID rfl
theorem bbZ{K:TI→Prop}:@tyW Tryz.prog 47 ⟨K⟩=K aDF:=qh bc0
theorem aGT:aDF.kd=Kd.oth:=ID rfl
theorem ar6:aDF.kd.agg=false:=ID rfl
theorem akK:aDF.size=1:=ID rfl
theorem afD:aDF.bytes=8:=ID rfl
theorem aGR:qw aDF=True:=eq_true rfl
theorem aGS:zc aDF=[.v Value.nilFunc]:=ID rfl
theorem bbY{K:TI→Prop}:@tyW Tryz.prog 48 ⟨K⟩=K aDE:=qh bcZ
theorem aGQ:aDE.kd=Kd.oth:=ID rfl
theorem ar5:aDE.kd.agg=false:=ID rfl
theorem akJ:aDE.size=1:=ID rfl
theorem afC:aDE.bytes=8:=ID rfl
theorem aGO:qw aDE=True:=eq_true rfl
theorem aGP:zc aDE=[.v Value.nilFunc]:=ID rfl
theorem bbX{K:TI→Prop}:@tyW Tryz.prog 49 ⟨K⟩=K akI:=qh aTD
theorem aGN:akI.kd=Kd.stru [(0,29),(3,29)]:=ID rfl
theorem ar4:akI.kd.agg=true:=ID rfl
theorem akH:akI.size=6:=ID rfl
theorem afB:akI.bytes=80:=ID rfl
theorem aGL:qw akI=True:=eq_true rfl
theorem aGM:zc akI=[.v (Value.bool false),.v (Value.slice none 0 0),.v (Value.int IntKind.i64 0),.v (Value.bool false),.v (Value.slice none 0 0),.v (Value.int IntKind.i64 0)]:=ID rfl
theorem aKP{K:Nat→TI→Prop}:@qy Tryz.prog 49 0 ⟨K⟩=K 0 Q4:=qr (ti:=akI) (tf:=Q4) (fo:=(0,29)) (fs:=[(0,29),(3,29)]) aTD rfl rfl Kj
theorem aNZ{K:Nat→Nat→Prop}:qt Tryz.prog [(0,29),(3,29)] 0 K=K 0 3:=qq (tf:=Q4) (fo:=(0,29)) (fs:=[(0,29),(3,29)]) rfl Kj
theorem aKO{K:Nat→TI→Prop}:@qy Tryz.prog 49 1 ⟨K⟩=K 3 Q4:=qr (ti:=akI) (tf:=Q4) (fo:=(3,29)) (fs:=[(0,29),(3,29)]) aTD rfl rfl Kj
theorem aNY{K:Nat→Nat→Prop}:qt Tryz.prog [(0,29),(3,29)] 1 K=K 3 3:=qq (tf:=Q4) (fo:=(3,29)) (fs:=[(0,29),(3,29)]) rfl Kj
theorem aOS:∀f∈([(0,29),(3,29)]:List (Nat×Nat)),(qn Tryz.prog f.2).isSome=true:=by
 intro f hf
 simp only[List.mem_cons,List.not_mem_nil,or_false]at hf
 rcases hf with rfl|rfl
 ·rw[Kj];rfl
 ·rw[Kj];rfl
theorem baT{ps:List (Nat×AV)}{K:AV→Prop}:@ze Tryz.prog 49 ps ⟨K⟩=@zf (qt Tryz.prog [(0,29),(3,29)]) (zc akI) ps ⟨fun cs=>K (.ag cs)⟩:=qI aTD rfl aOS
theorem bbW{K:TI→Prop}:@tyW Tryz.prog 50 ⟨K⟩=K ajN:=qh aM8
theorem aGJ:ajN.kd=Kd.stru [(0,29),(3,29)]:=ID rfl
theorem ar2:ajN.kd.agg=true:=ID rfl
theorem akF:ajN.size=6:=ID rfl
theorem afA:ajN.bytes=80:=ID rfl
theorem aGH:qw ajN=True:=eq_true rfl
theorem aGI:zc ajN=[.v (Value.bool false),.v (Value.slice none 0 0),.v (Value.int IntKind.i64 0),.v (Value.bool false),.v (Value.slice none 0 0),.v (Value.int IntKind.i64 0)]:=ID rfl
theorem aKN{K:Nat→TI→Prop}:@qy Tryz.prog 50 0 ⟨K⟩=K 0 Q4:=qr (ti:=ajN) (tf:=Q4) (fo:=(0,29)) (fs:=[(0,29),(3,29)]) aM8 rfl rfl Kj
theorem aNX{K:Nat→Nat→Prop}:qt Tryz.prog [(0,29),(3,29)] 0 K=K 0 3:=qq (tf:=Q4) (fo:=(0,29)) (fs:=[(0,29),(3,29)]) rfl Kj
theorem aKM{K:Nat→TI→Prop}:@qy Tryz.prog 50 1 ⟨K⟩=K 3 Q4:=qr (ti:=ajN) (tf:=Q4) (fo:=(3,29)) (fs:=[(0,29),(3,29)]) aM8 rfl rfl Kj
theorem aNW{K:Nat→Nat→Prop}:qt Tryz.prog [(0,29),(3,29)] 1 K=K 3 3:=qq (tf:=Q4) (fo:=(3,29)) (fs:=[(0,29),(3,29)]) rfl Kj
theorem aOR:∀f∈([(0,29),(3,29)]:List (Nat×Nat)),(qn Tryz.prog f.2).isSome=true:=by
 intro f hf
 simp only[List.mem_cons,List.not_mem_nil,or_false]at hf
 rcases hf with rfl|rfl
 ·rw[Kj];rfl
 ·rw[Kj];rfl
theorem baS{ps:List (Nat×AV)}{K:AV→Prop}:@ze Tryz.prog 50 ps ⟨K⟩=@zf (qt Tryz.prog [(0,29),(3,29)]) (zc ajN) ps ⟨fun cs=>K (.ag cs)⟩:=qI aM8 rfl aOR
theorem bbV{K:TI→Prop}:@tyW Tryz.prog 52 ⟨K⟩=K aDD:=qh bcY
theorem aGG:aDD.kd=Kd.oth:=ID rfl
theorem ar1:aDD.kd.agg=false:=ID rfl
theorem akE:aDD.size=1:=ID rfl
theorem afz:aDD.bytes=8:=ID rfl
theorem aGE:qw aDD=True:=eq_true rfl
theorem aGF:zc aDD=[.v Value.nilFunc]:=ID rfl
theorem bbU{K:TI→Prop}:@tyW Tryz.prog 54 ⟨K⟩=K aDC:=qh bcX
theorem aGD:aDC.kd=Kd.oth:=ID rfl
theorem ar0:aDC.kd.agg=false:=ID rfl
theorem akD:aDC.size=1:=ID rfl
theorem afy:aDC.bytes=8:=ID rfl
theorem aGB:qw aDC=True:=eq_true rfl
theorem aGC:zc aDC=[.v Value.nilFunc]:=ID rfl
theorem bbT{K:TI→Prop}:@tyW Tryz.prog 55 ⟨K⟩=K aDB:=qh bcW
theorem aGA:aDB.kd=Kd.oth:=ID rfl
theorem arZ:aDB.kd.agg=false:=ID rfl
theorem akC:aDB.size=1:=ID rfl
theorem afx:aDB.bytes=8:=ID rfl
theorem aGy:qw aDB=True:=eq_true rfl
theorem aGz:zc aDB=[.v Value.nilFunc]:=ID rfl
theorem bbS{K:TI→Prop}:@tyW Tryz.prog 56 ⟨K⟩=K aDA:=qh bcV
theorem aGx:aDA.kd=Kd.oth:=ID rfl
theorem arY:aDA.kd.agg=false:=ID rfl
theorem akB:aDA.size=1:=ID rfl
theorem afw:aDA.bytes=8:=ID rfl
theorem aGv:qw aDA=True:=eq_true rfl
theorem aGw:zc aDA=[.v Value.nilFunc]:=ID rfl
theorem bbR{K:TI→Prop}:@tyW Tryz.prog 57 ⟨K⟩=K aDz:=qh bcU
theorem aGu:aDz.kd=Kd.oth:=ID rfl
theorem arX:aDz.kd.agg=false:=ID rfl
theorem akA:aDz.size=1:=ID rfl
theorem afv:aDz.bytes=8:=ID rfl
theorem aGs:qw aDz=True:=eq_true rfl
theorem aGt:zc aDz=[.v Value.nilFunc]:=ID rfl
theorem bbQ{K:TI→Prop}:@tyW Tryz.prog 58 ⟨K⟩=K aDy:=qh bcT
theorem aGr:aDy.kd=Kd.oth:=ID rfl
theorem arW:aDy.kd.agg=false:=ID rfl
theorem akz:aDy.size=1:=ID rfl
theorem afu:aDy.bytes=8:=ID rfl
theorem aGp:qw aDy=True:=eq_true rfl
theorem aGq:zc aDy=[.v Value.nilFunc]:=ID rfl
theorem bbP{K:TI→Prop}:@tyW Tryz.prog 59 ⟨K⟩=K aDx:=qh bcS
theorem aGo:aDx.kd=Kd.oth:=ID rfl
theorem arV:aDx.kd.agg=false:=ID rfl
theorem aky:aDx.size=1:=ID rfl
theorem aft:aDx.bytes=8:=ID rfl
theorem aGm:qw aDx=True:=eq_true rfl
theorem aGn:zc aDx=[.v Value.nilFunc]:=ID rfl
theorem bbO{K:TI→Prop}:@tyW Tryz.prog 60 ⟨K⟩=K aDw:=qh bcR
theorem aGk:aDw.kd=Kd.oth:=ID rfl
theorem arT:aDw.kd.agg=false:=ID rfl
theorem akw:aDw.size=1:=ID rfl
theorem afs:aDw.bytes=8:=ID rfl
theorem aGi:qw aDw=True:=eq_true rfl
theorem aGj:zc aDw=[.v Value.nilFunc]:=ID rfl
theorem bbN{K:TI→Prop}:@tyW Tryz.prog 61 ⟨K⟩=K aDv:=qh bcQ
theorem aGh:aDv.kd=Kd.oth:=ID rfl
theorem arS:aDv.kd.agg=false:=ID rfl
theorem akv:aDv.size=1:=ID rfl
theorem afr:aDv.bytes=8:=ID rfl
theorem aGf:qw aDv=True:=eq_true rfl
theorem aGg:zc aDv=[.v Value.nilFunc]:=ID rfl
theorem bbM{K:TI→Prop}:@tyW Tryz.prog 62 ⟨K⟩=K afq:=qh aMi
theorem aGe:afq.kd=Kd.stru [(0,3),(1,4),(2,3),(3,3)]:=ID rfl
theorem arR:afq.kd.agg=true:=ID rfl
theorem aku:afq.size=4:=ID rfl
theorem afp:afq.bytes=32:=ID rfl
theorem aGc:qw afq=True:=eq_true rfl
theorem aGd:zc afq=[.v (Value.int IntKind.i64 0),.v (Value.bool false),.v (Value.int IntKind.i64 0),.v (Value.int IntKind.i64 0)]:=ID rfl
theorem aKL{K:Nat→TI→Prop}:@qy Tryz.prog 62 0 ⟨K⟩=K 0 ti3:=qr (ti:=afq) (tf:=ti3) (fo:=(0,3)) (fs:=[(0,3),(1,4),(2,3),(3,3)]) aMi rfl rfl tf3
theorem aNV{K:Nat→Nat→Prop}:qt Tryz.prog [(0,3),(1,4),(2,3),(3,3)] 0 K=K 0 1:=qq (tf:=ti3) (fo:=(0,3)) (fs:=[(0,3),(1,4),(2,3),(3,3)]) rfl tf3
theorem aKK{K:Nat→TI→Prop}:@qy Tryz.prog 62 1 ⟨K⟩=K 1 ti4:=qr (ti:=afq) (tf:=ti4) (fo:=(1,4)) (fs:=[(0,3),(1,4),(2,3),(3,3)]) aMi rfl rfl tf4
theorem aNU{K:Nat→Nat→Prop}:qt Tryz.prog [(0,3),(1,4),(2,3),(3,3)] 1 K=K 1 1:=qq (tf:=ti4) (fo:=(1,4)) (fs:=[(0,3),(1,4),(2,3),(3,3)]) rfl tf4
theorem aKJ{K:Nat→TI→Prop}:@qy Tryz.prog 62 2 ⟨K⟩=K 2 ti3:=qr (ti:=afq) (tf:=ti3) (fo:=(2,3)) (fs:=[(0,3),(1,4),(2,3),(3,3)]) aMi rfl rfl tf3
theorem aNT{K:Nat→Nat→Prop}:qt Tryz.prog [(0,3),(1,4),(2,3),(3,3)] 2 K=K 2 1:=qq (tf:=ti3) (fo:=(2,3)) (fs:=[(0,3),(1,4),(2,3),(3,3)]) rfl tf3
theorem aKI{K:Nat→TI→Prop}:@qy Tryz.prog 62 3 ⟨K⟩=K 3 ti3:=qr (ti:=afq) (tf:=ti3) (fo:=(3,3)) (fs:=[(0,3),(1,4),(2,3),(3,3)]) aMi rfl rfl tf3
theorem aNS{K:Nat→Nat→Prop}:qt Tryz.prog [(0,3),(1,4),(2,3),(3,3)] 3 K=K 3 1:=qq (tf:=ti3) (fo:=(3,3)) (fs:=[(0,3),(1,4),(2,3),(3,3)]) rfl tf3
theorem aOQ:∀f∈([(0,3),(1,4),(2,3),(3,3)]:List (Nat×Nat)),(qn Tryz.prog f.2).isSome=true:=by
 intro f hf
 simp only[List.mem_cons,List.not_mem_nil,or_false]at hf
 rcases hf with rfl|rfl|rfl|rfl
 ·rw[tf3];rfl
 ·rw[tf4];rfl
 ·rw[tf3];rfl
 ·rw[tf3];rfl
theorem baR{ps:List (Nat×AV)}{K:AV→Prop}:@ze Tryz.prog 62 ps ⟨K⟩=@zf (qt Tryz.prog [(0,3),(1,4),(2,3),(3,3)]) (zc afq) ps ⟨fun cs=>K (.ag cs)⟩:=qI aMi rfl aOQ
theorem bbL{K:TI→Prop}:@tyW Tryz.prog 63 ⟨K⟩=K aef:=qh aIa
theorem aGb:aef.kd=Kd.stru [(0,3),(1,4),(2,3),(3,3)]:=ID rfl
theorem arQ:aef.kd.agg=true:=ID rfl
theorem akt:aef.size=4:=ID rfl
theorem afo:aef.bytes=32:=ID rfl
theorem aF9:qw aef=True:=eq_true rfl
theorem aGa:zc aef=[.v (Value.int IntKind.i64 0),.v (Value.bool false),.v (Value.int IntKind.i64 0),.v (Value.int IntKind.i64 0)]:=ID rfl
theorem aKH{K:Nat→TI→Prop}:@qy Tryz.prog 63 0 ⟨K⟩=K 0 ti3:=qr (ti:=aef) (tf:=ti3) (fo:=(0,3)) (fs:=[(0,3),(1,4),(2,3),(3,3)]) aIa rfl rfl tf3
theorem aNR{K:Nat→Nat→Prop}:qt Tryz.prog [(0,3),(1,4),(2,3),(3,3)] 0 K=K 0 1:=qq (tf:=ti3) (fo:=(0,3)) (fs:=[(0,3),(1,4),(2,3),(3,3)]) rfl tf3
theorem aKG{K:Nat→TI→Prop}:@qy Tryz.prog 63 1 ⟨K⟩=K 1 ti4:=qr (ti:=aef) (tf:=ti4) (fo:=(1,4)) (fs:=[(0,3),(1,4),(2,3),(3,3)]) aIa rfl rfl tf4
theorem aNQ{K:Nat→Nat→Prop}:qt Tryz.prog [(0,3),(1,4),(2,3),(3,3)] 1 K=K 1 1:=qq (tf:=ti4) (fo:=(1,4)) (fs:=[(0,3),(1,4),(2,3),(3,3)]) rfl tf4
theorem aKF{K:Nat→TI→Prop}:@qy Tryz.prog 63 2 ⟨K⟩=K 2 ti3:=qr (ti:=aef) (tf:=ti3) (fo:=(2,3)) (fs:=[(0,3),(1,4),(2,3),(3,3)]) aIa rfl rfl tf3
theorem aNP{K:Nat→Nat→Prop}:qt Tryz.prog [(0,3),(1,4),(2,3),(3,3)] 2 K=K 2 1:=qq (tf:=ti3) (fo:=(2,3)) (fs:=[(0,3),(1,4),(2,3),(3,3)]) rfl tf3
theorem aKE{K:Nat→TI→Prop}:@qy Tryz.prog 63 3 ⟨K⟩=K 3 ti3:=qr (ti:=aef) (tf:=ti3) (fo:=(3,3)) (fs:=[(0,3),(1,4),(2,3),(3,3)]) aIa rfl rfl tf3
theorem aNO{K:Nat→Nat→Prop}:qt Tryz.prog [(0,3),(1,4),(2,3),(3,3)] 3 K=K 3 1:=qq (tf:=ti3) (fo:=(3,3)) (fs:=[(0,3),(1,4),(2,3),(3,3)]) rfl tf3
theorem aOP:∀f∈([(0,3),(1,4),(2,3),(3,3)]:List (Nat×Nat)),(qn Tryz.prog f.2).isSome=true:=by
 intro f hf
 simp only[List.mem_cons,List.not_mem_nil,or_false]at hf
 rcases hf with rfl|rfl|rfl|rfl
 ·rw[tf3];rfl
 ·rw[tf4];rfl
 ·rw[tf3];rfl
 ·rw[tf3];rfl
theorem baQ{ps:List (Nat×AV)}{K:AV→Prop}:@ze Tryz.prog 63 ps ⟨K⟩=@zf (qt Tryz.prog [(0,3),(1,4),(2,3),(3,3)]) (zc aef) ps ⟨fun cs=>K (.ag cs)⟩:=qI aIa rfl aOP
theorem bbK{K:TI→Prop}:@tyW Tryz.prog 65 ⟨K⟩=K aDu:=qh bcP
theorem aF8:aDu.kd=Kd.oth:=ID rfl
theorem arP:aDu.kd.agg=false:=ID rfl
theorem aks:aDu.size=1:=ID rfl
theorem afn:aDu.bytes=8:=ID rfl
theorem aF6:qw aDu=True:=eq_true rfl
theorem aF7:zc aDu=[.v Value.nilFunc]:=ID rfl
theorem bbJ{K:TI→Prop}:@tyW Tryz.prog 67 ⟨K⟩=K aDt:=qh bcO
theorem aF5:aDt.kd=Kd.oth:=ID rfl
theorem arO:aDt.kd.agg=false:=ID rfl
theorem akr:aDt.size=1:=ID rfl
theorem afm:aDt.bytes=8:=ID rfl
theorem aF3:qw aDt=True:=eq_true rfl
theorem aF4:zc aDt=[.v Value.nilFunc]:=ID rfl
theorem bbI{K:TI→Prop}:@tyW Tryz.prog 68 ⟨K⟩=K aDs:=qh bcN
theorem aF2:aDs.kd=Kd.oth:=ID rfl
theorem arN:aDs.kd.agg=false:=ID rfl
theorem akq:aDs.size=1:=ID rfl
theorem afl:aDs.bytes=8:=ID rfl
theorem aF0:qw aDs=True:=eq_true rfl
theorem aF1:zc aDs=[.v Value.nilFunc]:=ID rfl
theorem bbH{K:TI→Prop}:@tyW Tryz.prog 69 ⟨K⟩=K aDr:=qh bcM
theorem aFZ:aDr.kd=Kd.oth:=ID rfl
theorem arM:aDr.kd.agg=false:=ID rfl
theorem akp:aDr.size=1:=ID rfl
theorem afk:aDr.bytes=8:=ID rfl
theorem aFX:qw aDr=True:=eq_true rfl
theorem aFY:zc aDr=[.v Value.nilFunc]:=ID rfl
theorem bbG{K:TI→Prop}:@tyW Tryz.prog 70 ⟨K⟩=K aDq:=qh bcL
theorem aFV:aDq.kd=Kd.oth:=ID rfl
theorem arK:aDq.kd.agg=false:=ID rfl
theorem akn:aDq.size=1:=ID rfl
theorem afj:aDq.bytes=8:=ID rfl
theorem aFT:qw aDq=True:=eq_true rfl
theorem aFU:zc aDq=[.v Value.nilFunc]:=ID rfl
theorem bbF{K:TI→Prop}:@tyW Tryz.prog 71 ⟨K⟩=K aDp:=qh bcK
theorem aFS:aDp.kd=Kd.oth:=ID rfl
theorem arJ:aDp.kd.agg=false:=ID rfl
theorem akm:aDp.size=1:=ID rfl
theorem afi:aDp.bytes=8:=ID rfl
theorem aFQ:qw aDp=True:=eq_true rfl
theorem aFR:zc aDp=[.v Value.nilFunc]:=ID rfl
theorem bbE{K:TI→Prop}:@tyW Tryz.prog 72 ⟨K⟩=K aDo:=qh bcJ
theorem aFP:aDo.kd=Kd.oth:=ID rfl
theorem arI:aDo.kd.agg=false:=ID rfl
theorem akl:aDo.size=1:=ID rfl
theorem afh:aDo.bytes=8:=ID rfl
theorem aFN:qw aDo=True:=eq_true rfl
theorem aFO:zc aDo=[.v Value.nilFunc]:=ID rfl
theorem bbD{K:TI→Prop}:@tyW Tryz.prog 74 ⟨K⟩=K aDn:=qh bcI
theorem aFM:aDn.kd=Kd.oth:=ID rfl
theorem arH:aDn.kd.agg=false:=ID rfl
theorem akk:aDn.size=1:=ID rfl
theorem afg:aDn.bytes=8:=ID rfl
theorem aFK:qw aDn=True:=eq_true rfl
theorem aFL:zc aDn=[.v Value.nilFunc]:=ID rfl
theorem bbC{K:TI→Prop}:@tyW Tryz.prog 76 ⟨K⟩=K aDm:=qh bcH
theorem aFJ:aDm.kd=Kd.oth:=ID rfl
theorem arG:aDm.kd.agg=false:=ID rfl
theorem akj:aDm.size=1:=ID rfl
theorem aff:aDm.bytes=8:=ID rfl
theorem aFH:qw aDm=True:=eq_true rfl
theorem aFI:zc aDm=[.v Value.nilFunc]:=ID rfl
theorem bbB{K:TI→Prop}:@tyW Tryz.prog 77 ⟨K⟩=K aDl:=qh bcG
theorem aFG:aDl.kd=Kd.oth:=ID rfl
theorem arF:aDl.kd.agg=false:=ID rfl
theorem aki:aDl.size=1:=ID rfl
theorem afe:aDl.bytes=8:=ID rfl
theorem aFE:qw aDl=True:=eq_true rfl
theorem aFF:zc aDl=[.v Value.nilFunc]:=ID rfl
theorem bbA{K:TI→Prop}:@tyW Tryz.prog 79 ⟨K⟩=K aDk:=qh bcF
theorem aFD:aDk.kd=Kd.oth:=ID rfl
theorem arE:aDk.kd.agg=false:=ID rfl
theorem akh:aDk.size=1:=ID rfl
theorem afd:aDk.bytes=8:=ID rfl
theorem aFB:qw aDk=True:=eq_true rfl
theorem aFC:zc aDk=[.v Value.nilFunc]:=ID rfl
theorem bbz{K:TI→Prop}:@tyW Tryz.prog 80 ⟨K⟩=K aDj:=qh bcE
theorem aFz:aDj.kd=Kd.oth:=ID rfl
theorem arC:aDj.kd.agg=false:=ID rfl
theorem akf:aDj.size=1:=ID rfl
theorem afc:aDj.bytes=8:=ID rfl
theorem aFx:qw aDj=True:=eq_true rfl
theorem aFy:zc aDj=[.v Value.nilFunc]:=ID rfl
theorem bby{K:TI→Prop}:@tyW Tryz.prog 82 ⟨K⟩=K aDi:=qh bcD
theorem aFw:aDi.kd=Kd.oth:=ID rfl
theorem arB:aDi.kd.agg=false:=ID rfl
theorem ake:aDi.size=1:=ID rfl
theorem afb:aDi.bytes=8:=ID rfl
theorem aFu:qw aDi=True:=eq_true rfl
theorem aFv:zc aDi=[.v Value.nilFunc]:=ID rfl
theorem bbx{K:TI→Prop}:@tyW Tryz.prog 83 ⟨K⟩=K aDh:=qh bcC
theorem aFt:aDh.kd=Kd.oth:=ID rfl
theorem arA:aDh.kd.agg=false:=ID rfl
theorem akd:aDh.size=1:=ID rfl
theorem afa:aDh.bytes=8:=ID rfl
theorem aFr:qw aDh=True:=eq_true rfl
theorem aFs:zc aDh=[.v Value.nilFunc]:=ID rfl
theorem bbw{K:TI→Prop}:@tyW Tryz.prog 84 ⟨K⟩=K aDg:=qh bcB
theorem aFq:aDg.kd=Kd.oth:=ID rfl
theorem arz:aDg.kd.agg=false:=ID rfl
theorem akc:aDg.size=1:=ID rfl
theorem ae9:aDg.bytes=8:=ID rfl
theorem aFo:qw aDg=True:=eq_true rfl
theorem aFp:zc aDg=[.v Value.nilFunc]:=ID rfl
theorem bbv{K:TI→Prop}:@tyW Tryz.prog 85 ⟨K⟩=K aDf:=qh bcA
theorem aFn:aDf.kd=Kd.oth:=ID rfl
theorem ary:aDf.kd.agg=false:=ID rfl
theorem akb:aDf.size=1:=ID rfl
theorem ae8:aDf.bytes=8:=ID rfl
theorem aFl:qw aDf=True:=eq_true rfl
theorem aFm:zc aDf=[.v Value.nilFunc]:=ID rfl
theorem bbu{K:TI→Prop}:@tyW Tryz.prog 86 ⟨K⟩=K aDe:=qh bcz
theorem aFk:aDe.kd=Kd.oth:=ID rfl
theorem arx:aDe.kd.agg=false:=ID rfl
theorem aka:aDe.size=1:=ID rfl
theorem ae7:aDe.bytes=8:=ID rfl
theorem aFi:qw aDe=True:=eq_true rfl
theorem aFj:zc aDe=[.v Value.nilFunc]:=ID rfl
theorem bbt{K:TI→Prop}:@tyW Tryz.prog 87 ⟨K⟩=K aDd:=qh bcy
theorem aFh:aDd.kd=Kd.oth:=ID rfl
theorem arw:aDd.kd.agg=false:=ID rfl
theorem aj9:aDd.size=1:=ID rfl
theorem ae6:aDd.bytes=8:=ID rfl
theorem aFf:qw aDd=True:=eq_true rfl
theorem aFg:zc aDd=[.v Value.nilFunc]:=ID rfl
theorem bbs{K:TI→Prop}:@tyW Tryz.prog 88 ⟨K⟩=K aDc:=qh bcx
theorem aFe:aDc.kd=Kd.oth:=ID rfl
theorem arv:aDc.kd.agg=false:=ID rfl
theorem aj8:aDc.size=1:=ID rfl
theorem ae5:aDc.bytes=8:=ID rfl
theorem aFc:qw aDc=True:=eq_true rfl
theorem aFd:zc aDc=[.v Value.nilFunc]:=ID rfl
theorem bbr{K:TI→Prop}:@tyW Tryz.prog 89 ⟨K⟩=K ajM:=qh aM7
theorem aFb:ajM.kd=Kd.stru [(0,4),(1,23),(2,3)]:=ID rfl
theorem aru:ajM.kd.agg=true:=ID rfl
theorem aj7:ajM.size=3:=ID rfl
theorem ae4:ajM.bytes=40:=ID rfl
theorem aE9:qw ajM=True:=eq_true rfl
theorem aFa:zc ajM=[.v (Value.bool false),.v (Value.slice none 0 0),.v (Value.int IntKind.i64 0)]:=ID rfl
theorem aKD{K:Nat→TI→Prop}:@qy Tryz.prog 89 0 ⟨K⟩=K 0 ti4:=qr (ti:=ajM) (tf:=ti4) (fo:=(0,4)) (fs:=[(0,4),(1,23),(2,3)]) aM7 rfl rfl tf4
theorem aNN{K:Nat→Nat→Prop}:qt Tryz.prog [(0,4),(1,23),(2,3)] 0 K=K 0 1:=qq (tf:=ti4) (fo:=(0,4)) (fs:=[(0,4),(1,23),(2,3)]) rfl tf4
theorem aKC{K:Nat→TI→Prop}:@qy Tryz.prog 89 1 ⟨K⟩=K 1 Jq:=qr (ti:=ajM) (tf:=Jq) (fo:=(1,23)) (fs:=[(0,4),(1,23),(2,3)]) aM7 rfl rfl aei
theorem aNM{K:Nat→Nat→Prop}:qt Tryz.prog [(0,4),(1,23),(2,3)] 1 K=K 1 1:=qq (tf:=Jq) (fo:=(1,23)) (fs:=[(0,4),(1,23),(2,3)]) rfl aei
theorem aKB{K:Nat→TI→Prop}:@qy Tryz.prog 89 2 ⟨K⟩=K 2 ti3:=qr (ti:=ajM) (tf:=ti3) (fo:=(2,3)) (fs:=[(0,4),(1,23),(2,3)]) aM7 rfl rfl tf3
theorem aNL{K:Nat→Nat→Prop}:qt Tryz.prog [(0,4),(1,23),(2,3)] 2 K=K 2 1:=qq (tf:=ti3) (fo:=(2,3)) (fs:=[(0,4),(1,23),(2,3)]) rfl tf3
theorem aOO:∀f∈([(0,4),(1,23),(2,3)]:List (Nat×Nat)),(qn Tryz.prog f.2).isSome=true:=by
 intro f hf
 simp only[List.mem_cons,List.not_mem_nil,or_false]at hf
 rcases hf with rfl|rfl|rfl
 ·rw[tf4];rfl
 ·rw[aei];rfl
 ·rw[tf3];rfl
theorem baP{ps:List (Nat×AV)}{K:AV→Prop}:@ze Tryz.prog 89 ps ⟨K⟩=@zf (qt Tryz.prog [(0,4),(1,23),(2,3)]) (zc ajM) ps ⟨fun cs=>K (.ag cs)⟩:=qI aM7 rfl aOO
theorem bbq{K:TI→Prop}:@tyW Tryz.prog 90 ⟨K⟩=K QV:=qh YW
theorem aE7:QV.kd=Kd.stru [(0,4),(1,23),(2,3)]:=ID rfl
theorem ars:QV.kd.agg=true:=ID rfl
theorem aj5:QV.size=3:=ID rfl
theorem ae3:QV.bytes=40:=ID rfl
theorem aE5:qw QV=True:=eq_true rfl
theorem aE6:zc QV=[.v (Value.bool false),.v (Value.slice none 0 0),.v (Value.int IntKind.i64 0)]:=ID rfl
theorem aKA{K:Nat→TI→Prop}:@qy Tryz.prog 90 0 ⟨K⟩=K 0 ti4:=qr (ti:=QV) (tf:=ti4) (fo:=(0,4)) (fs:=[(0,4),(1,23),(2,3)]) YW rfl rfl tf4
theorem aNK{K:Nat→Nat→Prop}:qt Tryz.prog [(0,4),(1,23),(2,3)] 0 K=K 0 1:=qq (tf:=ti4) (fo:=(0,4)) (fs:=[(0,4),(1,23),(2,3)]) rfl tf4
theorem aKz{K:Nat→TI→Prop}:@qy Tryz.prog 90 1 ⟨K⟩=K 1 Jq:=qr (ti:=QV) (tf:=Jq) (fo:=(1,23)) (fs:=[(0,4),(1,23),(2,3)]) YW rfl rfl aei
theorem aNJ{K:Nat→Nat→Prop}:qt Tryz.prog [(0,4),(1,23),(2,3)] 1 K=K 1 1:=qq (tf:=Jq) (fo:=(1,23)) (fs:=[(0,4),(1,23),(2,3)]) rfl aei
theorem aKy{K:Nat→TI→Prop}:@qy Tryz.prog 90 2 ⟨K⟩=K 2 ti3:=qr (ti:=QV) (tf:=ti3) (fo:=(2,3)) (fs:=[(0,4),(1,23),(2,3)]) YW rfl rfl tf3
theorem aNI{K:Nat→Nat→Prop}:qt Tryz.prog [(0,4),(1,23),(2,3)] 2 K=K 2 1:=qq (tf:=ti3) (fo:=(2,3)) (fs:=[(0,4),(1,23),(2,3)]) rfl tf3
theorem aON:∀f∈([(0,4),(1,23),(2,3)]:List (Nat×Nat)),(qn Tryz.prog f.2).isSome=true:=by
 intro f hf
 simp only[List.mem_cons,List.not_mem_nil,or_false]at hf
 rcases hf with rfl|rfl|rfl
 ·rw[tf4];rfl
 ·rw[aei];rfl
 ·rw[tf3];rfl
theorem baO{ps:List (Nat×AV)}{K:AV→Prop}:@ze Tryz.prog 90 ps ⟨K⟩=@zf (qt Tryz.prog [(0,4),(1,23),(2,3)]) (zc QV) ps ⟨fun cs=>K (.ag cs)⟩:=qI YW rfl aON
theorem bbp{K:TI→Prop}:@tyW Tryz.prog 92 ⟨K⟩=K aDb:=qh bcw
theorem aE4:aDb.kd=Kd.oth:=ID rfl
theorem arq:aDb.kd.agg=false:=ID rfl
theorem aj4:aDb.size=1:=ID rfl
theorem ae2:aDb.bytes=8:=ID rfl
theorem aE2:qw aDb=True:=eq_true rfl
theorem aE3:zc aDb=[.v Value.nilFunc]:=ID rfl
theorem bbo{K:TI→Prop}:@tyW Tryz.prog 93 ⟨K⟩=K aDa:=qh bcv
theorem aE1:aDa.kd=Kd.oth:=ID rfl
theorem arp:aDa.kd.agg=false:=ID rfl
theorem aj3:aDa.size=1:=ID rfl
theorem ae1:aDa.bytes=8:=ID rfl
theorem aEZ:qw aDa=True:=eq_true rfl
theorem aE0:zc aDa=[.v Value.nilFunc]:=ID rfl
theorem bbn{K:TI→Prop}:@tyW Tryz.prog 94 ⟨K⟩=K aC9:=qh bcu
theorem aEY:aC9.kd=Kd.oth:=ID rfl
theorem aro:aC9.kd.agg=false:=ID rfl
theorem aj2:aC9.size=1:=ID rfl
theorem ae0:aC9.bytes=8:=ID rfl
theorem aEW:qw aC9=True:=eq_true rfl
theorem aEX:zc aC9=[.v Value.nilFunc]:=ID rfl
theorem bbm{K:TI→Prop}:@tyW Tryz.prog 95 ⟨K⟩=K aC8:=qh bct
theorem aEV:aC8.kd=Kd.oth:=ID rfl
theorem arn:aC8.kd.agg=false:=ID rfl
theorem aj1:aC8.size=1:=ID rfl
theorem aeZ:aC8.bytes=8:=ID rfl
theorem aET:qw aC8=True:=eq_true rfl
theorem aEU:zc aC8=[.v Value.nilFunc]:=ID rfl
theorem bbl{K:TI→Prop}:@tyW Tryz.prog 97 ⟨K⟩=K aC7:=qh bcs
theorem aES:aC7.kd=Kd.oth:=ID rfl
theorem arm:aC7.kd.agg=false:=ID rfl
theorem aj0:aC7.size=1:=ID rfl
theorem aeY:aC7.bytes=8:=ID rfl
theorem aEQ:qw aC7=True:=eq_true rfl
theorem aER:zc aC7=[.v Value.nilFunc]:=ID rfl
theorem bbk{K:TI→Prop}:@tyW Tryz.prog 98 ⟨K⟩=K aC6:=qh bcr
theorem aEP:aC6.kd=Kd.oth:=ID rfl
theorem arl:aC6.kd.agg=false:=ID rfl
theorem ajZ:aC6.size=1:=ID rfl
theorem aeX:aC6.bytes=8:=ID rfl
theorem aEN:qw aC6=True:=eq_true rfl
theorem aEO:zc aC6=[.v Value.nilFunc]:=ID rfl
theorem bbj{K:TI→Prop}:@tyW Tryz.prog 99 ⟨K⟩=K aC5:=qh bcq
theorem aEM:aC5.kd=Kd.oth:=ID rfl
theorem ark:aC5.kd.agg=false:=ID rfl
theorem ajY:aC5.size=1:=ID rfl
theorem aeW:aC5.bytes=8:=ID rfl
theorem aEK:qw aC5=True:=eq_true rfl
theorem aEL:zc aC5=[.v Value.nilFunc]:=ID rfl
theorem aWe{K:TI→Prop}:@tyW Tryz.prog 100 ⟨K⟩=K yI:=qh J3
theorem az2:yI.kd=Kd.sli 90:=ID rfl
theorem anQ:yI.kd.agg=false:=ID rfl
theorem aix:yI.size=1:=ID rfl
theorem ac5:yI.bytes=24:=ID rfl
theorem az0:qw yI=True:=eq_true rfl
theorem az1:zc yI=[.v (Value.slice none 0 0)]:=ID rfl
theorem aNt{K:TI→Prop}:@yA Tryz.prog 100 ⟨K⟩=K QV:=QK J3 rfl YW
theorem aWd{K:TI→Prop}:@tyW Tryz.prog 101 ⟨K⟩=K Zp:=qh aAc
theorem azZ:Zp.kd=Kd.stru [(0,3),(1,100)]:=ID rfl
theorem anP:Zp.kd.agg=true:=ID rfl
theorem aiw:Zp.size=2:=ID rfl
theorem ac4:Zp.bytes=32:=ID rfl
theorem azX:qw Zp=True:=eq_true rfl
theorem azY:zc Zp=[.v (Value.int IntKind.i64 0),.v (Value.slice none 0 0)]:=ID rfl
theorem aB3{K:Nat→TI→Prop}:@qy Tryz.prog 101 0 ⟨K⟩=K 0 ti3:=qr (ti:=Zp) (tf:=ti3) (fo:=(0,3)) (fs:=[(0,3),(1,100)]) aAc rfl rfl tf3
theorem aI4{K:Nat→Nat→Prop}:qt Tryz.prog [(0,3),(1,100)] 0 K=K 0 1:=qq (tf:=ti3) (fo:=(0,3)) (fs:=[(0,3),(1,100)]) rfl tf3
theorem aB2{K:Nat→TI→Prop}:@qy Tryz.prog 101 1 ⟨K⟩=K 1 yI:=qr (ti:=Zp) (tf:=yI) (fo:=(1,100)) (fs:=[(0,3),(1,100)]) aAc rfl rfl J3
theorem aI3{K:Nat→Nat→Prop}:qt Tryz.prog [(0,3),(1,100)] 1 K=K 1 1:=qq (tf:=yI) (fo:=(1,100)) (fs:=[(0,3),(1,100)]) rfl J3
theorem aKs:∀f∈([(0,3),(1,100)]:List (Nat×Nat)),(qn Tryz.prog f.2).isSome=true:=by
 intro f hf
 simp only[List.mem_cons,List.not_mem_nil,or_false]at hf
 rcases hf with rfl|rfl
 ·rw[tf3];rfl
 ·rw[J3];rfl
theorem aTa{ps:List (Nat×AV)}{K:AV→Prop}:@ze Tryz.prog 101 ps ⟨K⟩=@zf (qt Tryz.prog [(0,3),(1,100)]) (zc Zp) ps ⟨fun cs=>K (.ag cs)⟩:=qI aAc rfl aKs
theorem aWc{K:TI→Prop}:@tyW Tryz.prog 102 ⟨K⟩=K Zo:=qh aAb
theorem azW:Zo.kd=Kd.stru [(0,3),(1,100)]:=ID rfl
theorem anO:Zo.kd.agg=true:=ID rfl
theorem aiv:Zo.size=2:=ID rfl
theorem ac3:Zo.bytes=32:=ID rfl
theorem azU:qw Zo=True:=eq_true rfl
theorem azV:zc Zo=[.v (Value.int IntKind.i64 0),.v (Value.slice none 0 0)]:=ID rfl
theorem aB1{K:Nat→TI→Prop}:@qy Tryz.prog 102 0 ⟨K⟩=K 0 ti3:=qr (ti:=Zo) (tf:=ti3) (fo:=(0,3)) (fs:=[(0,3),(1,100)]) aAb rfl rfl tf3
theorem aI2{K:Nat→Nat→Prop}:qt Tryz.prog [(0,3),(1,100)] 0 K=K 0 1:=qq (tf:=ti3) (fo:=(0,3)) (fs:=[(0,3),(1,100)]) rfl tf3
theorem aB0{K:Nat→TI→Prop}:@qy Tryz.prog 102 1 ⟨K⟩=K 1 yI:=qr (ti:=Zo) (tf:=yI) (fo:=(1,100)) (fs:=[(0,3),(1,100)]) aAb rfl rfl J3
theorem aI1{K:Nat→Nat→Prop}:qt Tryz.prog [(0,3),(1,100)] 1 K=K 1 1:=qq (tf:=yI) (fo:=(1,100)) (fs:=[(0,3),(1,100)]) rfl J3
theorem aKr:∀f∈([(0,3),(1,100)]:List (Nat×Nat)),(qn Tryz.prog f.2).isSome=true:=by
 intro f hf
 simp only[List.mem_cons,List.not_mem_nil,or_false]at hf
 rcases hf with rfl|rfl
 ·rw[tf3];rfl
 ·rw[J3];rfl
theorem aS9{ps:List (Nat×AV)}{K:AV→Prop}:@ze Tryz.prog 102 ps ⟨K⟩=@zf (qt Tryz.prog [(0,3),(1,100)]) (zc Zo) ps ⟨fun cs=>K (.ag cs)⟩:=qI aAb rfl aKr
theorem aWb{K:TI→Prop}:@tyW Tryz.prog 103 ⟨K⟩=K Ki:=qh aYu
theorem azT:Ki.kd=Kd.oth:=ID rfl
theorem anN:Ki.kd.agg=false:=ID rfl
theorem aiu:Ki.size=1:=ID rfl
theorem ac2:Ki.bytes=8:=ID rfl
theorem azR:qw Ki=True:=eq_true rfl
theorem azS:zc Ki=[.v Value.nilFunc]:=ID rfl
theorem aWa{K:TI→Prop}:@tyW Tryz.prog 104 ⟨K⟩=K Kh:=qh aYt
theorem azQ:Kh.kd=Kd.oth:=ID rfl
theorem anM:Kh.kd.agg=false:=ID rfl
theorem ait:Kh.size=1:=ID rfl
theorem ac1:Kh.bytes=8:=ID rfl
theorem azO:qw Kh=True:=eq_true rfl
theorem azP:zc Kh=[.v Value.nilFunc]:=ID rfl
theorem aV9{K:TI→Prop}:@tyW Tryz.prog 105 ⟨K⟩=K Kg:=qh aYs
theorem azN:Kg.kd=Kd.oth:=ID rfl
theorem anL:Kg.kd.agg=false:=ID rfl
theorem ais:Kg.size=1:=ID rfl
theorem ac0:Kg.bytes=8:=ID rfl
theorem azL:qw Kg=True:=eq_true rfl
theorem azM:zc Kg=[.v Value.nilFunc]:=ID rfl
theorem aV8{K:TI→Prop}:@tyW Tryz.prog 106 ⟨K⟩=K Kf:=qh aYr
theorem azK:Kf.kd=Kd.oth:=ID rfl
theorem anK:Kf.kd.agg=false:=ID rfl
theorem air:Kf.size=1:=ID rfl
theorem acZ:Kf.bytes=8:=ID rfl
theorem azI:qw Kf=True:=eq_true rfl
theorem azJ:zc Kf=[.v Value.nilFunc]:=ID rfl
theorem aV7{K:TI→Prop}:@tyW Tryz.prog 107 ⟨K⟩=K Ke:=qh aYq
theorem azH:Ke.kd=Kd.oth:=ID rfl
theorem anJ:Ke.kd.agg=false:=ID rfl
theorem aiq:Ke.size=1:=ID rfl
theorem acY:Ke.bytes=8:=ID rfl
theorem azF:qw Ke=True:=eq_true rfl
theorem azG:zc Ke=[.v Value.nilFunc]:=ID rfl
theorem aV6{K:TI→Prop}:@tyW Tryz.prog 108 ⟨K⟩=K Kc:=qh aYp
theorem azE:Kc.kd=Kd.oth:=ID rfl
theorem anI:Kc.kd.agg=false:=ID rfl
theorem aip:Kc.size=1:=ID rfl
theorem acX:Kc.bytes=8:=ID rfl
theorem azC:qw Kc=True:=eq_true rfl
theorem azD:zc Kc=[.v Value.nilFunc]:=ID rfl
theorem aV5{K:TI→Prop}:@tyW Tryz.prog 109 ⟨K⟩=K Kb:=qh aYo
theorem azB:Kb.kd=Kd.oth:=ID rfl
theorem anH:Kb.kd.agg=false:=ID rfl
theorem aio:Kb.size=1:=ID rfl
theorem acW:Kb.bytes=8:=ID rfl
theorem azz:qw Kb=True:=eq_true rfl
theorem azA:zc Kb=[.v Value.nilFunc]:=ID rfl
theorem aV4{K:TI→Prop}:@tyW Tryz.prog 110 ⟨K⟩=K Zn:=qh aAa
theorem azx:Zn.kd=Kd.stru [(0,90),(3,90)]:=ID rfl
theorem anF:Zn.kd.agg=true:=ID rfl
theorem aim:Zn.size=6:=ID rfl
theorem acV:Zn.bytes=80:=ID rfl
theorem azv:qw Zn=True:=eq_true rfl
theorem azw:zc Zn=[.v (Value.bool false),.v (Value.slice none 0 0),.v (Value.int IntKind.i64 0),.v (Value.bool false),.v (Value.slice none 0 0),.v (Value.int IntKind.i64 0)]:=ID rfl
theorem aBZ{K:Nat→TI→Prop}:@qy Tryz.prog 110 0 ⟨K⟩=K 0 QV:=qr (ti:=Zn) (tf:=QV) (fo:=(0,90)) (fs:=[(0,90),(3,90)]) aAa rfl rfl YW
theorem aI0{K:Nat→Nat→Prop}:qt Tryz.prog [(0,90),(3,90)] 0 K=K 0 3:=qq (tf:=QV) (fo:=(0,90)) (fs:=[(0,90),(3,90)]) rfl YW
theorem aBY{K:Nat→TI→Prop}:@qy Tryz.prog 110 1 ⟨K⟩=K 3 QV:=qr (ti:=Zn) (tf:=QV) (fo:=(3,90)) (fs:=[(0,90),(3,90)]) aAa rfl rfl YW
theorem aIZ{K:Nat→Nat→Prop}:qt Tryz.prog [(0,90),(3,90)] 1 K=K 3 3:=qq (tf:=QV) (fo:=(3,90)) (fs:=[(0,90),(3,90)]) rfl YW
theorem aKq:∀f∈([(0,90),(3,90)]:List (Nat×Nat)),(qn Tryz.prog f.2).isSome=true:=by
 intro f hf
 simp only[List.mem_cons,List.not_mem_nil,or_false]at hf
 rcases hf with rfl|rfl
 ·rw[YW];rfl
 ·rw[YW];rfl
theorem aS8{ps:List (Nat×AV)}{K:AV→Prop}:@ze Tryz.prog 110 ps ⟨K⟩=@zf (qt Tryz.prog [(0,90),(3,90)]) (zc Zn) ps ⟨fun cs=>K (.ag cs)⟩:=qI aAa rfl aKq
theorem aV3{K:TI→Prop}:@tyW Tryz.prog 111 ⟨K⟩=K QY:=qh anU
theorem azu:QY.kd=Kd.stru [(0,90),(3,90)]:=ID rfl
theorem anE:QY.kd.agg=true:=ID rfl
theorem ail:QY.size=6:=ID rfl
theorem acU:QY.bytes=80:=ID rfl
theorem azs:qw QY=True:=eq_true rfl
theorem azt:zc QY=[.v (Value.bool false),.v (Value.slice none 0 0),.v (Value.int IntKind.i64 0),.v (Value.bool false),.v (Value.slice none 0 0),.v (Value.int IntKind.i64 0)]:=ID rfl
theorem aBX{K:Nat→TI→Prop}:@qy Tryz.prog 111 0 ⟨K⟩=K 0 QV:=qr (ti:=QY) (tf:=QV) (fo:=(0,90)) (fs:=[(0,90),(3,90)]) anU rfl rfl YW
theorem aIY{K:Nat→Nat→Prop}:qt Tryz.prog [(0,90),(3,90)] 0 K=K 0 3:=qq (tf:=QV) (fo:=(0,90)) (fs:=[(0,90),(3,90)]) rfl YW
theorem aBW{K:Nat→TI→Prop}:@qy Tryz.prog 111 1 ⟨K⟩=K 3 QV:=qr (ti:=QY) (tf:=QV) (fo:=(3,90)) (fs:=[(0,90),(3,90)]) anU rfl rfl YW
theorem aIX{K:Nat→Nat→Prop}:qt Tryz.prog [(0,90),(3,90)] 1 K=K 3 3:=qq (tf:=QV) (fo:=(3,90)) (fs:=[(0,90),(3,90)]) rfl YW
theorem aKp:∀f∈([(0,90),(3,90)]:List (Nat×Nat)),(qn Tryz.prog f.2).isSome=true:=by
 intro f hf
 simp only[List.mem_cons,List.not_mem_nil,or_false]at hf
 rcases hf with rfl|rfl
 ·rw[YW];rfl
 ·rw[YW];rfl
theorem aS7{ps:List (Nat×AV)}{K:AV→Prop}:@ze Tryz.prog 111 ps ⟨K⟩=@zf (qt Tryz.prog [(0,90),(3,90)]) (zc QY) ps ⟨fun cs=>K (.ag cs)⟩:=qI anU rfl aKp
theorem aV2{K:TI→Prop}:@tyW Tryz.prog 113 ⟨K⟩=K Ka:=qh aYn
theorem azr:Ka.kd=Kd.oth:=ID rfl
theorem anD:Ka.kd.agg=false:=ID rfl
theorem aik:Ka.size=1:=ID rfl
theorem acT:Ka.bytes=8:=ID rfl
theorem azp:qw Ka=True:=eq_true rfl
theorem azq:zc Ka=[.v Value.nilFunc]:=ID rfl
theorem aV1{K:TI→Prop}:@tyW Tryz.prog 114 ⟨K⟩=K V9:=qh aYm
theorem azo:V9.kd=Kd.oth:=ID rfl
theorem anC:V9.kd.agg=false:=ID rfl
theorem aij:V9.size=1:=ID rfl
theorem acS:V9.bytes=8:=ID rfl
theorem azm:qw V9=True:=eq_true rfl
theorem azn:zc V9=[.v Value.nilFunc]:=ID rfl
theorem aV0{K:TI→Prop}:@tyW Tryz.prog 115 ⟨K⟩=K V8:=qh aYl
theorem azl:V8.kd=Kd.oth:=ID rfl
theorem anB:V8.kd.agg=false:=ID rfl
theorem aii:V8.size=1:=ID rfl
theorem acR:V8.bytes=8:=ID rfl
theorem azj:qw V8=True:=eq_true rfl
theorem azk:zc V8=[.v Value.nilFunc]:=ID rfl
theorem aVZ{K:TI→Prop}:@tyW Tryz.prog 116 ⟨K⟩=K V7:=qh aYk
theorem azi:V7.kd=Kd.oth:=ID rfl
theorem anA:V7.kd.agg=false:=ID rfl
theorem aih:V7.size=1:=ID rfl
theorem acQ:V7.bytes=8:=ID rfl
theorem azg:qw V7=True:=eq_true rfl
theorem azh:zc V7=[.v Value.nilFunc]:=ID rfl
theorem aVY{K:TI→Prop}:@tyW Tryz.prog 117 ⟨K⟩=K V6:=qh aYj
theorem azf:V6.kd=Kd.oth:=ID rfl
theorem anz:V6.kd.agg=false:=ID rfl
theorem aig:V6.size=1:=ID rfl
theorem acP:V6.bytes=8:=ID rfl
theorem azd:qw V6=True:=eq_true rfl
theorem aze:zc V6=[.v Value.nilFunc]:=ID rfl
theorem aVX{K:TI→Prop}:@tyW Tryz.prog 118 ⟨K⟩=K V5:=qh aYi
theorem azc:V5.kd=Kd.oth:=ID rfl
theorem anx:V5.kd.agg=false:=ID rfl
theorem aif:V5.size=1:=ID rfl
theorem acO:V5.bytes=8:=ID rfl
theorem aza:qw V5=True:=eq_true rfl
theorem azb:zc V5=[.v Value.nilFunc]:=ID rfl
theorem aVW{K:TI→Prop}:@tyW Tryz.prog 119 ⟨K⟩=K V4:=qh aYh
theorem ay9:V4.kd=Kd.oth:=ID rfl
theorem anw:V4.kd.agg=false:=ID rfl
theorem aie:V4.size=1:=ID rfl
theorem acN:V4.bytes=8:=ID rfl
theorem ay7:qw V4=True:=eq_true rfl
theorem ay8:zc V4=[.v Value.nilFunc]:=ID rfl
theorem aVV{K:TI→Prop}:@tyW Tryz.prog 120 ⟨K⟩=K V3:=qh aYg
theorem ay5:V3.kd=Kd.oth:=ID rfl
theorem anu:V3.kd.agg=false:=ID rfl
theorem aic:V3.size=1:=ID rfl
theorem acM:V3.bytes=8:=ID rfl
theorem ay3:qw V3=True:=eq_true rfl
theorem ay4:zc V3=[.v Value.nilFunc]:=ID rfl
theorem aVU{K:TI→Prop}:@tyW Tryz.prog 121 ⟨K⟩=K V2:=qh aYf
theorem ay2:V2.kd=Kd.oth:=ID rfl
theorem ant:V2.kd.agg=false:=ID rfl
theorem aib:V2.size=1:=ID rfl
theorem acL:V2.bytes=8:=ID rfl
theorem ay0:qw V2=True:=eq_true rfl
theorem ay1:zc V2=[.v Value.nilFunc]:=ID rfl
theorem aVT{K:TI→Prop}:@tyW Tryz.prog 122 ⟨K⟩=K V1:=qh aYe
theorem ayZ:V1.kd=Kd.oth:=ID rfl
theorem ans:V1.kd.agg=false:=ID rfl
theorem aia:V1.size=1:=ID rfl
theorem acK:V1.bytes=8:=ID rfl
theorem ayX:qw V1=True:=eq_true rfl
theorem ayY:zc V1=[.v Value.nilFunc]:=ID rfl
theorem aVS{K:TI→Prop}:@tyW Tryz.prog 123 ⟨K⟩=K V0:=qh aYd
theorem ayW:V0.kd=Kd.oth:=ID rfl
theorem anr:V0.kd.agg=false:=ID rfl
theorem ah9:V0.size=1:=ID rfl
theorem acJ:V0.bytes=8:=ID rfl
theorem ayU:qw V0=True:=eq_true rfl
theorem ayV:zc V0=[.v Value.nilFunc]:=ID rfl
theorem aVR{K:TI→Prop}:@tyW Tryz.prog 124 ⟨K⟩=K VZ:=qh aYc
theorem ayT:VZ.kd=Kd.oth:=ID rfl
theorem anq:VZ.kd.agg=false:=ID rfl
theorem ah8:VZ.size=1:=ID rfl
theorem acI:VZ.bytes=8:=ID rfl
theorem ayR:qw VZ=True:=eq_true rfl
theorem ayS:zc VZ=[.v Value.nilFunc]:=ID rfl
theorem aVQ{K:TI→Prop}:@tyW Tryz.prog 125 ⟨K⟩=K VY:=qh aYb
theorem ayQ:VY.kd=Kd.oth:=ID rfl
theorem anp:VY.kd.agg=false:=ID rfl
theorem ah7:VY.size=1:=ID rfl
theorem acH:VY.bytes=8:=ID rfl
theorem ayO:qw VY=True:=eq_true rfl
theorem ayP:zc VY=[.v Value.nilFunc]:=ID rfl
theorem aVP{K:TI→Prop}:@tyW Tryz.prog 126 ⟨K⟩=K VX:=qh aYa
theorem ayN:VX.kd=Kd.oth:=ID rfl
theorem ano:VX.kd.agg=false:=ID rfl
theorem ah6:VX.size=1:=ID rfl
theorem acG:VX.bytes=8:=ID rfl
theorem ayL:qw VX=True:=eq_true rfl
theorem ayM:zc VX=[.v Value.nilFunc]:=ID rfl
theorem aVO{K:TI→Prop}:@tyW Tryz.prog 127 ⟨K⟩=K VW:=qh aX9
theorem ayK:VW.kd=Kd.oth:=ID rfl
theorem ann:VW.kd.agg=false:=ID rfl
theorem ah5:VW.size=1:=ID rfl
theorem acF:VW.bytes=8:=ID rfl
theorem ayI:qw VW=True:=eq_true rfl
theorem ayJ:zc VW=[.v Value.nilFunc]:=ID rfl
theorem aVN{K:TI→Prop}:@tyW Tryz.prog 128 ⟨K⟩=K VV:=qh aX8
theorem ayH:VV.kd=Kd.oth:=ID rfl
theorem anm:VV.kd.agg=false:=ID rfl
theorem ah4:VV.size=1:=ID rfl
theorem acE:VV.bytes=8:=ID rfl
theorem ayF:qw VV=True:=eq_true rfl
theorem ayG:zc VV=[.v Value.nilFunc]:=ID rfl
theorem aVM{K:TI→Prop}:@tyW Tryz.prog 129 ⟨K⟩=K VU:=qh aX7
theorem ayE:VU.kd=Kd.oth:=ID rfl
theorem anl:VU.kd.agg=false:=ID rfl
theorem ah3:VU.size=1:=ID rfl
theorem acD:VU.bytes=8:=ID rfl
theorem ayC:qw VU=True:=eq_true rfl
theorem ayD:zc VU=[.v Value.nilFunc]:=ID rfl
theorem aVL{K:TI→Prop}:@tyW Tryz.prog 130 ⟨K⟩=K VT:=qh aX6
theorem ayA:VT.kd=Kd.oth:=ID rfl
theorem anj:VT.kd.agg=false:=ID rfl
theorem ah1:VT.size=1:=ID rfl
theorem acC:VT.bytes=8:=ID rfl
theorem ayy:qw VT=True:=eq_true rfl
theorem ayz:zc VT=[.v Value.nilFunc]:=ID rfl
theorem aVK{K:TI→Prop}:@tyW Tryz.prog 131 ⟨K⟩=K VS:=qh aX5
theorem ayx:VS.kd=Kd.oth:=ID rfl
theorem ani:VS.kd.agg=false:=ID rfl
theorem ah0:VS.size=1:=ID rfl
theorem acB:VS.bytes=8:=ID rfl
theorem ayv:qw VS=True:=eq_true rfl
theorem ayw:zc VS=[.v Value.nilFunc]:=ID rfl
theorem aVJ{K:TI→Prop}:@tyW Tryz.prog 132 ⟨K⟩=K VR:=qh aX4
theorem ayu:VR.kd=Kd.int IntKind.u64:=ID rfl
theorem anh:VR.kd.agg=false:=ID rfl
theorem ahZ:VR.size=1:=ID rfl
theorem acA:VR.bytes=8:=ID rfl
theorem ays:qw VR=True:=eq_true rfl
theorem ayt:zc VR=[.v (Value.int IntKind.u64 0)]:=ID rfl
theorem aVI{K:TI→Prop}:@tyW Tryz.prog 133 ⟨K⟩=K VQ:=qh aX3
theorem ayr:VQ.kd=Kd.oth:=ID rfl
theorem ang:VQ.kd.agg=false:=ID rfl
theorem ahY:VQ.size=1:=ID rfl
theorem acz:VQ.bytes=8:=ID rfl
theorem ayp:qw VQ=True:=eq_true rfl
theorem ayq:zc VQ=[.v Value.nilFunc]:=ID rfl
theorem aVH{K:TI→Prop}:@tyW Tryz.prog 135 ⟨K⟩=K VP:=qh aX2
theorem ayo:VP.kd=Kd.oth:=ID rfl
theorem anf:VP.kd.agg=false:=ID rfl
theorem ahX:VP.size=1:=ID rfl
theorem acy:VP.bytes=8:=ID rfl
theorem aym:qw VP=True:=eq_true rfl
theorem ayn:zc VP=[.v Value.nilFunc]:=ID rfl
theorem aVG{K:TI→Prop}:@tyW Tryz.prog 136 ⟨K⟩=K VO:=qh aX1
theorem ayl:VO.kd=Kd.oth:=ID rfl
theorem ane:VO.kd.agg=false:=ID rfl
theorem ahW:VO.size=1:=ID rfl
theorem acx:VO.bytes=8:=ID rfl
theorem ayj:qw VO=True:=eq_true rfl
theorem ayk:zc VO=[.v Value.nilFunc]:=ID rfl
theorem aVF{K:TI→Prop}:@tyW Tryz.prog 137 ⟨K⟩=K VN:=qh aX0
theorem ayi:VN.kd=Kd.oth:=ID rfl
theorem anc:VN.kd.agg=false:=ID rfl
theorem ahV:VN.size=1:=ID rfl
theorem acw:VN.bytes=8:=ID rfl
theorem ayg:qw VN=True:=eq_true rfl
theorem ayh:zc VN=[.v Value.nilFunc]:=ID rfl
theorem aVE{K:TI→Prop}:@tyW Tryz.prog 138 ⟨K⟩=K VM:=qh aXZ
theorem ayf:VM.kd=Kd.oth:=ID rfl
theorem anb:VM.kd.agg=false:=ID rfl
theorem ahU:VM.size=1:=ID rfl
theorem acv:VM.bytes=8:=ID rfl
theorem ayd:qw VM=True:=eq_true rfl
theorem aye:zc VM=[.v Value.nilFunc]:=ID rfl
theorem aVD{K:TI→Prop}:@tyW Tryz.prog 139 ⟨K⟩=K VL:=qh aXY
theorem ayc:VL.kd=Kd.oth:=ID rfl
theorem ana:VL.kd.agg=false:=ID rfl
theorem ahT:VL.size=1:=ID rfl
theorem acu:VL.bytes=8:=ID rfl
theorem aya:qw VL=True:=eq_true rfl
theorem ayb:zc VL=[.v Value.nilFunc]:=ID rfl
theorem aVC{K:TI→Prop}:@tyW Tryz.prog 140 ⟨K⟩=K VK:=qh aXX
theorem ax9:VK.kd=Kd.oth:=ID rfl
theorem am9:VK.kd.agg=false:=ID rfl
theorem ahS:VK.size=1:=ID rfl
theorem act:VK.bytes=8:=ID rfl
theorem ax7:qw VK=True:=eq_true rfl
theorem ax8:zc VK=[.v Value.nilFunc]:=ID rfl
theorem aVB{K:TI→Prop}:@tyW Tryz.prog 141 ⟨K⟩=K VJ:=qh aXW
theorem ax6:VJ.kd=Kd.oth:=ID rfl
theorem am8:VJ.kd.agg=false:=ID rfl
theorem ahR:VJ.size=1:=ID rfl
theorem acs:VJ.bytes=8:=ID rfl
theorem ax4:qw VJ=True:=eq_true rfl
theorem ax5:zc VJ=[.v Value.nilFunc]:=ID rfl
theorem aVA{K:TI→Prop}:@tyW Tryz.prog 142 ⟨K⟩=K QX:=qh anT
theorem ax3:QX.kd=Kd.stru [(0,22),(1,3),(2,3)]:=ID rfl
theorem am7:QX.kd.agg=true:=ID rfl
theorem ahQ:QX.size=3:=ID rfl
theorem acr:QX.bytes=40:=ID rfl
theorem ax1:qw QX=True:=eq_true rfl
theorem ax2:zc QX=[.v (Value.slice none 0 0),.v (Value.int IntKind.i64 0),.v (Value.int IntKind.i64 0)]:=ID rfl
theorem aBV{K:Nat→TI→Prop}:@qy Tryz.prog 142 0 ⟨K⟩=K 0 aeh:=qr (ti:=QX) (tf:=aeh) (fo:=(0,22)) (fs:=[(0,22),(1,3),(2,3)]) anT rfl rfl aDV
theorem aIW{K:Nat→Nat→Prop}:qt Tryz.prog [(0,22),(1,3),(2,3)] 0 K=K 0 1:=qq (tf:=aeh) (fo:=(0,22)) (fs:=[(0,22),(1,3),(2,3)]) rfl aDV
theorem aBU{K:Nat→TI→Prop}:@qy Tryz.prog 142 1 ⟨K⟩=K 1 ti3:=qr (ti:=QX) (tf:=ti3) (fo:=(1,3)) (fs:=[(0,22),(1,3),(2,3)]) anT rfl rfl tf3
theorem aIV{K:Nat→Nat→Prop}:qt Tryz.prog [(0,22),(1,3),(2,3)] 1 K=K 1 1:=qq (tf:=ti3) (fo:=(1,3)) (fs:=[(0,22),(1,3),(2,3)]) rfl tf3
theorem aBT{K:Nat→TI→Prop}:@qy Tryz.prog 142 2 ⟨K⟩=K 2 ti3:=qr (ti:=QX) (tf:=ti3) (fo:=(2,3)) (fs:=[(0,22),(1,3),(2,3)]) anT rfl rfl tf3
theorem aIU{K:Nat→Nat→Prop}:qt Tryz.prog [(0,22),(1,3),(2,3)] 2 K=K 2 1:=qq (tf:=ti3) (fo:=(2,3)) (fs:=[(0,22),(1,3),(2,3)]) rfl tf3
theorem aKo:∀f∈([(0,22),(1,3),(2,3)]:List (Nat×Nat)),(qn Tryz.prog f.2).isSome=true:=by
 intro f hf
 simp only[List.mem_cons,List.not_mem_nil,or_false]at hf
 rcases hf with rfl|rfl|rfl
 ·rw[aDV];rfl
 ·rw[tf3];rfl
 ·rw[tf3];rfl
theorem aS6{ps:List (Nat×AV)}{K:AV→Prop}:@ze Tryz.prog 142 ps ⟨K⟩=@zf (qt Tryz.prog [(0,22),(1,3),(2,3)]) (zc QX) ps ⟨fun cs=>K (.ag cs)⟩:=qI anT rfl aKo
theorem aVz{K:TI→Prop}:@tyW Tryz.prog 143 ⟨K⟩=K QW:=qh anS
theorem ax0:QW.kd=Kd.stru [(0,22),(1,3),(2,3)]:=ID rfl
theorem am6:QW.kd.agg=true:=ID rfl
theorem ahP:QW.size=3:=ID rfl
theorem acq:QW.bytes=40:=ID rfl
theorem axY:qw QW=True:=eq_true rfl
theorem axZ:zc QW=[.v (Value.slice none 0 0),.v (Value.int IntKind.i64 0),.v (Value.int IntKind.i64 0)]:=ID rfl
theorem aBS{K:Nat→TI→Prop}:@qy Tryz.prog 143 0 ⟨K⟩=K 0 aeh:=qr (ti:=QW) (tf:=aeh) (fo:=(0,22)) (fs:=[(0,22),(1,3),(2,3)]) anS rfl rfl aDV
theorem aIT{K:Nat→Nat→Prop}:qt Tryz.prog [(0,22),(1,3),(2,3)] 0 K=K 0 1:=qq (tf:=aeh) (fo:=(0,22)) (fs:=[(0,22),(1,3),(2,3)]) rfl aDV
theorem aBR{K:Nat→TI→Prop}:@qy Tryz.prog 143 1 ⟨K⟩=K 1 ti3:=qr (ti:=QW) (tf:=ti3) (fo:=(1,3)) (fs:=[(0,22),(1,3),(2,3)]) anS rfl rfl tf3
theorem aIS{K:Nat→Nat→Prop}:qt Tryz.prog [(0,22),(1,3),(2,3)] 1 K=K 1 1:=qq (tf:=ti3) (fo:=(1,3)) (fs:=[(0,22),(1,3),(2,3)]) rfl tf3
theorem aBQ{K:Nat→TI→Prop}:@qy Tryz.prog 143 2 ⟨K⟩=K 2 ti3:=qr (ti:=QW) (tf:=ti3) (fo:=(2,3)) (fs:=[(0,22),(1,3),(2,3)]) anS rfl rfl tf3
theorem aIR{K:Nat→Nat→Prop}:qt Tryz.prog [(0,22),(1,3),(2,3)] 2 K=K 2 1:=qq (tf:=ti3) (fo:=(2,3)) (fs:=[(0,22),(1,3),(2,3)]) rfl tf3
theorem aKn:∀f∈([(0,22),(1,3),(2,3)]:List (Nat×Nat)),(qn Tryz.prog f.2).isSome=true:=by
 intro f hf
 simp only[List.mem_cons,List.not_mem_nil,or_false]at hf
 rcases hf with rfl|rfl|rfl
 ·rw[aDV];rfl
 ·rw[tf3];rfl
 ·rw[tf3];rfl
theorem aS5{ps:List (Nat×AV)}{K:AV→Prop}:@ze Tryz.prog 143 ps ⟨K⟩=@zf (qt Tryz.prog [(0,22),(1,3),(2,3)]) (zc QW) ps ⟨fun cs=>K (.ag cs)⟩:=qI anS rfl aKn
theorem aVy{K:TI→Prop}:@tyW Tryz.prog 144 ⟨K⟩=K VI:=qh aXV
theorem axX:VI.kd=Kd.oth:=ID rfl
theorem am5:VI.kd.agg=false:=ID rfl
theorem ahO:VI.size=1:=ID rfl
theorem acp:VI.bytes=8:=ID rfl
theorem axV:qw VI=True:=eq_true rfl
theorem axW:zc VI=[.v Value.nilFunc]:=ID rfl
theorem aVx{K:TI→Prop}:@tyW Tryz.prog 145 ⟨K⟩=K VH:=qh aXU
theorem axU:VH.kd=Kd.oth:=ID rfl
theorem am4:VH.kd.agg=false:=ID rfl
theorem ahN:VH.size=1:=ID rfl
theorem aco:VH.bytes=8:=ID rfl
theorem axS:qw VH=True:=eq_true rfl
theorem axT:zc VH=[.v Value.nilFunc]:=ID rfl
theorem aVw{K:TI→Prop}:@tyW Tryz.prog 146 ⟨K⟩=K VG:=qh aXT
theorem axR:VG.kd=Kd.oth:=ID rfl
theorem am3:VG.kd.agg=false:=ID rfl
theorem ahM:VG.size=1:=ID rfl
theorem acn:VG.bytes=8:=ID rfl
theorem axP:qw VG=True:=eq_true rfl
theorem axQ:zc VG=[.v Value.nilFunc]:=ID rfl
theorem aVv{K:TI→Prop}:@tyW Tryz.prog 147 ⟨K⟩=K VF:=qh aXS
theorem axO:VF.kd=Kd.oth:=ID rfl
theorem am2:VF.kd.agg=false:=ID rfl
theorem ahL:VF.size=1:=ID rfl
theorem acm:VF.bytes=8:=ID rfl
theorem axM:qw VF=True:=eq_true rfl
theorem axN:zc VF=[.v Value.nilFunc]:=ID rfl
theorem aVu{K:TI→Prop}:@tyW Tryz.prog 148 ⟨K⟩=K VE:=qh aXR
theorem axL:VE.kd=Kd.oth:=ID rfl
theorem am1:VE.kd.agg=false:=ID rfl
theorem ahK:VE.size=1:=ID rfl
theorem acl:VE.bytes=8:=ID rfl
theorem axJ:qw VE=True:=eq_true rfl
theorem axK:zc VE=[.v Value.nilFunc]:=ID rfl
theorem aVt{K:TI→Prop}:@tyW Tryz.prog 150 ⟨K⟩=K VD:=qh aXQ
theorem axI:VD.kd=Kd.oth:=ID rfl
theorem am0:VD.kd.agg=false:=ID rfl
theorem ahJ:VD.size=1:=ID rfl
theorem ack:VD.bytes=8:=ID rfl
theorem axG:qw VD=True:=eq_true rfl
theorem axH:zc VD=[.v Value.nilFunc]:=ID rfl
theorem aVs{K:TI→Prop}:@tyW Tryz.prog 152 ⟨K⟩=K VC:=qh aXP
theorem axF:VC.kd=Kd.oth:=ID rfl
theorem amZ:VC.kd.agg=false:=ID rfl
theorem ahI:VC.size=1:=ID rfl
theorem acj:VC.bytes=8:=ID rfl
theorem axD:qw VC=True:=eq_true rfl
theorem axE:zc VC=[.v Value.nilFunc]:=ID rfl
theorem aVr{K:TI→Prop}:@tyW Tryz.prog 153 ⟨K⟩=K VB:=qh aXO
theorem axC:VB.kd=Kd.oth:=ID rfl
theorem amY:VB.kd.agg=false:=ID rfl
theorem ahH:VB.size=1:=ID rfl
theorem aci:VB.bytes=8:=ID rfl
theorem axA:qw VB=True:=eq_true rfl
theorem axB:zc VB=[.v Value.nilFunc]:=ID rfl
theorem aVq{K:TI→Prop}:@tyW Tryz.prog 154 ⟨K⟩=K VA:=qh aXN
theorem axz:VA.kd=Kd.oth:=ID rfl
theorem amX:VA.kd.agg=false:=ID rfl
theorem ahG:VA.size=1:=ID rfl
theorem ach:VA.bytes=8:=ID rfl
theorem axx:qw VA=True:=eq_true rfl
theorem axy:zc VA=[.v Value.nilFunc]:=ID rfl
theorem aVp{K:TI→Prop}:@tyW Tryz.prog 155 ⟨K⟩=K yW:=qh Kl
theorem axw:yW.kd=Kd.sli 111:=ID rfl
theorem amW:yW.kd.agg=false:=ID rfl
theorem ahF:yW.size=1:=ID rfl
theorem acg:yW.bytes=24:=ID rfl
theorem axu:qw yW=True:=eq_true rfl
theorem axv:zc yW=[.v (Value.slice none 0 0)]:=ID rfl
theorem aNs{K:TI→Prop}:@yA Tryz.prog 155 ⟨K⟩=K QY:=QK Kl rfl anU
theorem aVo{K:TI→Prop}:@tyW Tryz.prog 156 ⟨K⟩=K Zm:=qh az9
theorem axt:Zm.kd=Kd.stru [(0,3),(1,155)]:=ID rfl
theorem amV:Zm.kd.agg=true:=ID rfl
theorem ahE:Zm.size=2:=ID rfl
theorem acf:Zm.bytes=32:=ID rfl
theorem axr:qw Zm=True:=eq_true rfl
theorem axs:zc Zm=[.v (Value.int IntKind.i64 0),.v (Value.slice none 0 0)]:=ID rfl
theorem aBP{K:Nat→TI→Prop}:@qy Tryz.prog 156 0 ⟨K⟩=K 0 ti3:=qr (ti:=Zm) (tf:=ti3) (fo:=(0,3)) (fs:=[(0,3),(1,155)]) az9 rfl rfl tf3
theorem aIQ{K:Nat→Nat→Prop}:qt Tryz.prog [(0,3),(1,155)] 0 K=K 0 1:=qq (tf:=ti3) (fo:=(0,3)) (fs:=[(0,3),(1,155)]) rfl tf3
theorem aBO{K:Nat→TI→Prop}:@qy Tryz.prog 156 1 ⟨K⟩=K 1 yW:=qr (ti:=Zm) (tf:=yW) (fo:=(1,155)) (fs:=[(0,3),(1,155)]) az9 rfl rfl Kl
theorem aIP{K:Nat→Nat→Prop}:qt Tryz.prog [(0,3),(1,155)] 1 K=K 1 1:=qq (tf:=yW) (fo:=(1,155)) (fs:=[(0,3),(1,155)]) rfl Kl
theorem aKm:∀f∈([(0,3),(1,155)]:List (Nat×Nat)),(qn Tryz.prog f.2).isSome=true:=by
 intro f hf
 simp only[List.mem_cons,List.not_mem_nil,or_false]at hf
 rcases hf with rfl|rfl
 ·rw[tf3];rfl
 ·rw[Kl];rfl
theorem aS4{ps:List (Nat×AV)}{K:AV→Prop}:@ze Tryz.prog 156 ps ⟨K⟩=@zf (qt Tryz.prog [(0,3),(1,155)]) (zc Zm) ps ⟨fun cs=>K (.ag cs)⟩:=qI az9 rfl aKm
theorem aVn{K:TI→Prop}:@tyW Tryz.prog 157 ⟨K⟩=K Zl:=qh az8
theorem axq:Zl.kd=Kd.stru [(0,3),(1,155)]:=ID rfl
theorem amU:Zl.kd.agg=true:=ID rfl
theorem ahD:Zl.size=2:=ID rfl
theorem ace:Zl.bytes=32:=ID rfl
theorem axo:qw Zl=True:=eq_true rfl
theorem axp:zc Zl=[.v (Value.int IntKind.i64 0),.v (Value.slice none 0 0)]:=ID rfl
theorem aBN{K:Nat→TI→Prop}:@qy Tryz.prog 157 0 ⟨K⟩=K 0 ti3:=qr (ti:=Zl) (tf:=ti3) (fo:=(0,3)) (fs:=[(0,3),(1,155)]) az8 rfl rfl tf3
theorem aIO{K:Nat→Nat→Prop}:qt Tryz.prog [(0,3),(1,155)] 0 K=K 0 1:=qq (tf:=ti3) (fo:=(0,3)) (fs:=[(0,3),(1,155)]) rfl tf3
theorem aBM{K:Nat→TI→Prop}:@qy Tryz.prog 157 1 ⟨K⟩=K 1 yW:=qr (ti:=Zl) (tf:=yW) (fo:=(1,155)) (fs:=[(0,3),(1,155)]) az8 rfl rfl Kl
theorem aIN{K:Nat→Nat→Prop}:qt Tryz.prog [(0,3),(1,155)] 1 K=K 1 1:=qq (tf:=yW) (fo:=(1,155)) (fs:=[(0,3),(1,155)]) rfl Kl
theorem aKl:∀f∈([(0,3),(1,155)]:List (Nat×Nat)),(qn Tryz.prog f.2).isSome=true:=by
 intro f hf
 simp only[List.mem_cons,List.not_mem_nil,or_false]at hf
 rcases hf with rfl|rfl
 ·rw[tf3];rfl
 ·rw[Kl];rfl
theorem aS3{ps:List (Nat×AV)}{K:AV→Prop}:@ze Tryz.prog 157 ps ⟨K⟩=@zf (qt Tryz.prog [(0,3),(1,155)]) (zc Zl) ps ⟨fun cs=>K (.ag cs)⟩:=qI az8 rfl aKl
theorem aVm{K:TI→Prop}:@tyW Tryz.prog 158 ⟨K⟩=K Vz:=qh aXM
theorem axn:Vz.kd=Kd.oth:=ID rfl
theorem amT:Vz.kd.agg=false:=ID rfl
theorem ahC:Vz.size=1:=ID rfl
theorem acd:Vz.bytes=8:=ID rfl
theorem axl:qw Vz=True:=eq_true rfl
theorem axm:zc Vz=[.v Value.nilFunc]:=ID rfl
theorem aVl{K:TI→Prop}:@tyW Tryz.prog 159 ⟨K⟩=K yV:=qh Kk
theorem axk:yV.kd=Kd.sli 50:=ID rfl
theorem amS:yV.kd.agg=false:=ID rfl
theorem ahB:yV.size=1:=ID rfl
theorem acb:yV.bytes=24:=ID rfl
theorem axi:qw yV=True:=eq_true rfl
theorem axj:zc yV=[.v (Value.slice none 0 0)]:=ID rfl
theorem aNr{K:TI→Prop}:@yA Tryz.prog 159 ⟨K⟩=K ajN:=QK Kk rfl aM8
theorem aVk{K:TI→Prop}:@tyW Tryz.prog 160 ⟨K⟩=K Zk:=qh az7
theorem axh:Zk.kd=Kd.stru [(0,3),(1,159)]:=ID rfl
theorem amR:Zk.kd.agg=true:=ID rfl
theorem ahA:Zk.size=2:=ID rfl
theorem aca:Zk.bytes=32:=ID rfl
theorem axf:qw Zk=True:=eq_true rfl
theorem axg:zc Zk=[.v (Value.int IntKind.i64 0),.v (Value.slice none 0 0)]:=ID rfl
theorem aBL{K:Nat→TI→Prop}:@qy Tryz.prog 160 0 ⟨K⟩=K 0 ti3:=qr (ti:=Zk) (tf:=ti3) (fo:=(0,3)) (fs:=[(0,3),(1,159)]) az7 rfl rfl tf3
theorem aIM{K:Nat→Nat→Prop}:qt Tryz.prog [(0,3),(1,159)] 0 K=K 0 1:=qq (tf:=ti3) (fo:=(0,3)) (fs:=[(0,3),(1,159)]) rfl tf3
theorem aBK{K:Nat→TI→Prop}:@qy Tryz.prog 160 1 ⟨K⟩=K 1 yV:=qr (ti:=Zk) (tf:=yV) (fo:=(1,159)) (fs:=[(0,3),(1,159)]) az7 rfl rfl Kk
theorem aIL{K:Nat→Nat→Prop}:qt Tryz.prog [(0,3),(1,159)] 1 K=K 1 1:=qq (tf:=yV) (fo:=(1,159)) (fs:=[(0,3),(1,159)]) rfl Kk
theorem aKk:∀f∈([(0,3),(1,159)]:List (Nat×Nat)),(qn Tryz.prog f.2).isSome=true:=by
 intro f hf
 simp only[List.mem_cons,List.not_mem_nil,or_false]at hf
 rcases hf with rfl|rfl
 ·rw[tf3];rfl
 ·rw[Kk];rfl
theorem aS2{ps:List (Nat×AV)}{K:AV→Prop}:@ze Tryz.prog 160 ps ⟨K⟩=@zf (qt Tryz.prog [(0,3),(1,159)]) (zc Zk) ps ⟨fun cs=>K (.ag cs)⟩:=qI az7 rfl aKk
theorem aVj{K:TI→Prop}:@tyW Tryz.prog 161 ⟨K⟩=K Zj:=qh az6
theorem axe:Zj.kd=Kd.stru [(0,3),(1,159)]:=ID rfl
theorem amQ:Zj.kd.agg=true:=ID rfl
theorem ahz:Zj.size=2:=ID rfl
theorem ab9:Zj.bytes=32:=ID rfl
theorem axc:qw Zj=True:=eq_true rfl
theorem axd:zc Zj=[.v (Value.int IntKind.i64 0),.v (Value.slice none 0 0)]:=ID rfl
theorem aBJ{K:Nat→TI→Prop}:@qy Tryz.prog 161 0 ⟨K⟩=K 0 ti3:=qr (ti:=Zj) (tf:=ti3) (fo:=(0,3)) (fs:=[(0,3),(1,159)]) az6 rfl rfl tf3
theorem aIK{K:Nat→Nat→Prop}:qt Tryz.prog [(0,3),(1,159)] 0 K=K 0 1:=qq (tf:=ti3) (fo:=(0,3)) (fs:=[(0,3),(1,159)]) rfl tf3
theorem aBI{K:Nat→TI→Prop}:@qy Tryz.prog 161 1 ⟨K⟩=K 1 yV:=qr (ti:=Zj) (tf:=yV) (fo:=(1,159)) (fs:=[(0,3),(1,159)]) az6 rfl rfl Kk
theorem aIJ{K:Nat→Nat→Prop}:qt Tryz.prog [(0,3),(1,159)] 1 K=K 1 1:=qq (tf:=yV) (fo:=(1,159)) (fs:=[(0,3),(1,159)]) rfl Kk
theorem aKj:∀f∈([(0,3),(1,159)]:List (Nat×Nat)),(qn Tryz.prog f.2).isSome=true:=by
 intro f hf
 simp only[List.mem_cons,List.not_mem_nil,or_false]at hf
 rcases hf with rfl|rfl
 ·rw[tf3];rfl
 ·rw[Kk];rfl
theorem aS1{ps:List (Nat×AV)}{K:AV→Prop}:@ze Tryz.prog 161 ps ⟨K⟩=@zf (qt Tryz.prog [(0,3),(1,159)]) (zc Zj) ps ⟨fun cs=>K (.ag cs)⟩:=qI az6 rfl aKj
theorem aVi{K:TI→Prop}:@tyW Tryz.prog 163 ⟨K⟩=K Vy:=qh aXL
theorem axb:Vy.kd=Kd.oth:=ID rfl
theorem amP:Vy.kd.agg=false:=ID rfl
theorem ahy:Vy.size=1:=ID rfl
theorem ab8:Vy.bytes=8:=ID rfl
theorem aw9:qw Vy=True:=eq_true rfl
theorem axa:zc Vy=[.v Value.nilFunc]:=ID rfl
theorem aVh{K:TI→Prop}:@tyW Tryz.prog 164 ⟨K⟩=K Vx:=qh aXK
theorem aw8:Vx.kd=Kd.oth:=ID rfl
theorem amO:Vx.kd.agg=false:=ID rfl
theorem ahx:Vx.size=1:=ID rfl
theorem ab7:Vx.bytes=8:=ID rfl
theorem aw6:qw Vx=True:=eq_true rfl
theorem aw7:zc Vx=[.v Value.nilFunc]:=ID rfl
theorem aVg{K:TI→Prop}:@tyW Tryz.prog 165 ⟨K⟩=K Vw:=qh aXJ
theorem aw5:Vw.kd=Kd.oth:=ID rfl
theorem amN:Vw.kd.agg=false:=ID rfl
theorem ahw:Vw.size=1:=ID rfl
theorem ab6:Vw.bytes=8:=ID rfl
theorem aw3:qw Vw=True:=eq_true rfl
theorem aw4:zc Vw=[.v Value.nilFunc]:=ID rfl
theorem aVf{K:TI→Prop}:@tyW Tryz.prog 166 ⟨K⟩=K Vv:=qh aXI
theorem aw2:Vv.kd=Kd.oth:=ID rfl
theorem amM:Vv.kd.agg=false:=ID rfl
theorem ahv:Vv.size=1:=ID rfl
theorem ab5:Vv.bytes=8:=ID rfl
theorem aw0:qw Vv=True:=eq_true rfl
theorem aw1:zc Vv=[.v Value.nilFunc]:=ID rfl
theorem aVe{K:TI→Prop}:@tyW Tryz.prog 167 ⟨K⟩=K Vu:=qh aXH
theorem awZ:Vu.kd=Kd.oth:=ID rfl
theorem amL:Vu.kd.agg=false:=ID rfl
theorem ahu:Vu.size=1:=ID rfl
theorem ab4:Vu.bytes=8:=ID rfl
theorem awX:qw Vu=True:=eq_true rfl
theorem awY:zc Vu=[.v Value.nilFunc]:=ID rfl
theorem aVd{K:TI→Prop}:@tyW Tryz.prog 169 ⟨K⟩=K Vt:=qh aXG
theorem awW:Vt.kd=Kd.oth:=ID rfl
theorem amK:Vt.kd.agg=false:=ID rfl
theorem aht:Vt.size=1:=ID rfl
theorem ab3:Vt.bytes=8:=ID rfl
theorem awT:qw Vt=True:=eq_true rfl
theorem awU:zc Vt=[.v Value.nilFunc]:=ID rfl
theorem aVc{K:TI→Prop}:@tyW Tryz.prog 170 ⟨K⟩=K Vs:=qh aXF
theorem awS:Vs.kd=Kd.oth:=ID rfl
theorem amJ:Vs.kd.agg=false:=ID rfl
theorem ahs:Vs.size=1:=ID rfl
theorem ab2:Vs.bytes=8:=ID rfl
theorem awQ:qw Vs=True:=eq_true rfl
theorem awR:zc Vs=[.v Value.nilFunc]:=ID rfl
theorem aVb{K:TI→Prop}:@tyW Tryz.prog 171 ⟨K⟩=K Vr:=qh aXE
theorem awP:Vr.kd=Kd.oth:=ID rfl
theorem amI:Vr.kd.agg=false:=ID rfl
theorem ahr:Vr.size=1:=ID rfl
theorem ab1:Vr.bytes=8:=ID rfl
theorem awN:qw Vr=True:=eq_true rfl
theorem awO:zc Vr=[.v Value.nilFunc]:=ID rfl
theorem aVa{K:TI→Prop}:@tyW Tryz.prog 172 ⟨K⟩=K Vq:=qh aXD
theorem awM:Vq.kd=Kd.oth:=ID rfl
theorem amH:Vq.kd.agg=false:=ID rfl
theorem ahq:Vq.size=1:=ID rfl
theorem ab0:Vq.bytes=8:=ID rfl
theorem awK:qw Vq=True:=eq_true rfl
theorem awL:zc Vq=[.v Value.nilFunc]:=ID rfl
theorem aU9{K:TI→Prop}:@tyW Tryz.prog 173 ⟨K⟩=K Vp:=qh aXC
theorem awJ:Vp.kd=Kd.oth:=ID rfl
theorem amG:Vp.kd.agg=false:=ID rfl
theorem ahp:Vp.size=1:=ID rfl
theorem abZ:Vp.bytes=8:=ID rfl
theorem awH:qw Vp=True:=eq_true rfl
theorem awI:zc Vp=[.v Value.nilFunc]:=ID rfl
theorem aU8{K:TI→Prop}:@tyW Tryz.prog 174 ⟨K⟩=K Vo:=qh aXB
theorem awG:Vo.kd=Kd.oth:=ID rfl
theorem amF:Vo.kd.agg=false:=ID rfl
theorem aho:Vo.size=1:=ID rfl
theorem abY:Vo.bytes=8:=ID rfl
theorem awE:qw Vo=True:=eq_true rfl
theorem awF:zc Vo=[.v Value.nilFunc]:=ID rfl
theorem aU7{K:TI→Prop}:@tyW Tryz.prog 176 ⟨K⟩=K Vn:=qh aXA
theorem awD:Vn.kd=Kd.oth:=ID rfl
theorem amE:Vn.kd.agg=false:=ID rfl
theorem ahn:Vn.size=1:=ID rfl
theorem abX:Vn.bytes=8:=ID rfl
theorem awB:qw Vn=True:=eq_true rfl
theorem awC:zc Vn=[.v Value.nilFunc]:=ID rfl
theorem aU6{K:TI→Prop}:@tyW Tryz.prog 177 ⟨K⟩=K Vm:=qh aXz
theorem awA:Vm.kd=Kd.oth:=ID rfl
theorem amD:Vm.kd.agg=false:=ID rfl
theorem ahm:Vm.size=1:=ID rfl
theorem abW:Vm.bytes=8:=ID rfl
theorem awy:qw Vm=True:=eq_true rfl
theorem awz:zc Vm=[.v Value.nilFunc]:=ID rfl
theorem aU5{K:TI→Prop}:@tyW Tryz.prog 178 ⟨K⟩=K Vl:=qh aXy
theorem awx:Vl.kd=Kd.oth:=ID rfl
theorem amC:Vl.kd.agg=false:=ID rfl
theorem ahl:Vl.size=1:=ID rfl
theorem abV:Vl.bytes=8:=ID rfl
theorem awv:qw Vl=True:=eq_true rfl
theorem aww:zc Vl=[.v Value.nilFunc]:=ID rfl
theorem aU4{K:TI→Prop}:@tyW Tryz.prog 179 ⟨K⟩=K Vk:=qh aXx
theorem awu:Vk.kd=Kd.oth:=ID rfl
theorem amB:Vk.kd.agg=false:=ID rfl
theorem ahk:Vk.size=1:=ID rfl
theorem abU:Vk.bytes=8:=ID rfl
theorem aws:qw Vk=True:=eq_true rfl
theorem awt:zc Vk=[.v Value.nilFunc]:=ID rfl
theorem aU3{K:TI→Prop}:@tyW Tryz.prog 180 ⟨K⟩=K Vj:=qh aXw
theorem awr:Vj.kd=Kd.oth:=ID rfl
theorem amA:Vj.kd.agg=false:=ID rfl
theorem ahj:Vj.size=1:=ID rfl
theorem abT:Vj.bytes=8:=ID rfl
theorem awo:qw Vj=True:=eq_true rfl
theorem awq:zc Vj=[.v Value.nilFunc]:=ID rfl
theorem aU2{K:TI→Prop}:@tyW Tryz.prog 181 ⟨K⟩=K Vi:=qh aXv
theorem awn:Vi.kd=Kd.oth:=ID rfl
theorem amz:Vi.kd.agg=false:=ID rfl
theorem ahi:Vi.size=1:=ID rfl
theorem abS:Vi.bytes=8:=ID rfl
theorem awl:qw Vi=True:=eq_true rfl
theorem awm:zc Vi=[.v Value.nilFunc]:=ID rfl
theorem aU1{K:TI→Prop}:@tyW Tryz.prog 183 ⟨K⟩=K Vh:=qh aXu
theorem awk:Vh.kd=Kd.oth:=ID rfl
theorem amy:Vh.kd.agg=false:=ID rfl
theorem ahh:Vh.size=1:=ID rfl
theorem abR:Vh.bytes=8:=ID rfl
theorem awi:qw Vh=True:=eq_true rfl
theorem awj:zc Vh=[.v Value.nilFunc]:=ID rfl
theorem aU0{K:TI→Prop}:@tyW Tryz.prog 184 ⟨K⟩=K Vg:=qh aXt
theorem awh:Vg.kd=Kd.oth:=ID rfl
theorem amx:Vg.kd.agg=false:=ID rfl
theorem ahg:Vg.size=1:=ID rfl
theorem abQ:Vg.bytes=8:=ID rfl
theorem awf:qw Vg=True:=eq_true rfl
theorem awg:zc Vg=[.v Value.nilFunc]:=ID rfl
theorem aUZ{K:TI→Prop}:@tyW Tryz.prog 185 ⟨K⟩=K Vf:=qh aNa
theorem awe:Vf.kd=Kd.sli 63:=ID rfl
theorem amw:Vf.kd.agg=false:=ID rfl
theorem ahf:Vf.size=1:=ID rfl
theorem abP:Vf.bytes=24:=ID rfl
theorem awc:qw Vf=True:=eq_true rfl
theorem awd:zc Vf=[.v (Value.slice none 0 0)]:=ID rfl
theorem aNq{K:TI→Prop}:@yA Tryz.prog 185 ⟨K⟩=K aef:=QK aNa rfl aIa
theorem aUY{K:TI→Prop}:@tyW Tryz.prog 186 ⟨K⟩=K Ve:=qh aXs
theorem awb:Ve.kd=Kd.oth:=ID rfl
theorem amv:Ve.kd.agg=false:=ID rfl
theorem ahe:Ve.size=1:=ID rfl
theorem abO:Ve.bytes=8:=ID rfl
theorem av9:qw Ve=True:=eq_true rfl
theorem awa:zc Ve=[.v Value.nilFunc]:=ID rfl
theorem aUX{K:TI→Prop}:@tyW Tryz.prog 187 ⟨K⟩=K Vd:=qh aXr
theorem av8:Vd.kd=Kd.oth:=ID rfl
theorem amu:Vd.kd.agg=false:=ID rfl
theorem ahd:Vd.size=1:=ID rfl
theorem abN:Vd.bytes=8:=ID rfl
theorem av6:qw Vd=True:=eq_true rfl
theorem av7:zc Vd=[.v Value.nilFunc]:=ID rfl
theorem aUW{K:TI→Prop}:@tyW Tryz.prog 188 ⟨K⟩=K Vc:=qh aXq
theorem av5:Vc.kd=Kd.oth:=ID rfl
theorem amt:Vc.kd.agg=false:=ID rfl
theorem ahc:Vc.size=1:=ID rfl
theorem abM:Vc.bytes=8:=ID rfl
theorem av3:qw Vc=True:=eq_true rfl
theorem av4:zc Vc=[.v Value.nilFunc]:=ID rfl
theorem aUV{K:TI→Prop}:@tyW Tryz.prog 189 ⟨K⟩=K Vb:=qh aXp
theorem av2:Vb.kd=Kd.oth:=ID rfl
theorem ams:Vb.kd.agg=false:=ID rfl
theorem ahb:Vb.size=1:=ID rfl
theorem abL:Vb.bytes=8:=ID rfl
theorem av0:qw Vb=True:=eq_true rfl
theorem av1:zc Vb=[.v Value.nilFunc]:=ID rfl
theorem aUU{K:TI→Prop}:@tyW Tryz.prog 190 ⟨K⟩=K Va:=qh aXo
theorem avZ:Va.kd=Kd.oth:=ID rfl
theorem amr:Va.kd.agg=false:=ID rfl
theorem aha:Va.size=1:=ID rfl
theorem abK:Va.bytes=8:=ID rfl
theorem avX:qw Va=True:=eq_true rfl
theorem avY:zc Va=[.v Value.nilFunc]:=ID rfl
theorem aUT{K:TI→Prop}:@tyW Tryz.prog 191 ⟨K⟩=K X9:=qh aXn
theorem avW:X9.kd=Kd.oth:=ID rfl
theorem amq:X9.kd.agg=false:=ID rfl
theorem ag9:X9.size=1:=ID rfl
theorem abJ:X9.bytes=8:=ID rfl
theorem avU:qw X9=True:=eq_true rfl
theorem avV:zc X9=[.v Value.nilFunc]:=ID rfl
theorem aUS{K:TI→Prop}:@tyW Tryz.prog 192 ⟨K⟩=K X8:=qh aXm
theorem avT:X8.kd=Kd.oth:=ID rfl
theorem amp:X8.kd.agg=false:=ID rfl
theorem ag8:X8.size=1:=ID rfl
theorem abI:X8.bytes=8:=ID rfl
theorem avR:qw X8=True:=eq_true rfl
theorem avS:zc X8=[.v Value.nilFunc]:=ID rfl
theorem aUR{K:TI→Prop}:@tyW Tryz.prog 193 ⟨K⟩=K X7:=qh aXl
theorem avQ:X7.kd=Kd.oth:=ID rfl
theorem amo:X7.kd.agg=false:=ID rfl
theorem ag7:X7.size=1:=ID rfl
theorem abH:X7.bytes=8:=ID rfl
theorem avO:qw X7=True:=eq_true rfl
theorem avP:zc X7=[.v Value.nilFunc]:=ID rfl
theorem aUQ{K:TI→Prop}:@tyW Tryz.prog 194 ⟨K⟩=K X6:=qh aXk
theorem avN:X6.kd=Kd.oth:=ID rfl
theorem amn:X6.kd.agg=false:=ID rfl
theorem ag6:X6.size=1:=ID rfl
theorem abG:X6.bytes=8:=ID rfl
theorem avL:qw X6=True:=eq_true rfl
theorem avM:zc X6=[.v Value.nilFunc]:=ID rfl
theorem aUP{K:TI→Prop}:@tyW Tryz.prog 195 ⟨K⟩=K X5:=qh aXj
theorem avK:X5.kd=Kd.oth:=ID rfl
theorem amm:X5.kd.agg=false:=ID rfl
theorem ag5:X5.size=1:=ID rfl
theorem abF:X5.bytes=8:=ID rfl
theorem avI:qw X5=True:=eq_true rfl
theorem avJ:zc X5=[.v Value.nilFunc]:=ID rfl
theorem aUO{K:TI→Prop}:@tyW Tryz.prog 196 ⟨K⟩=K X4:=qh aXi
theorem avH:X4.kd=Kd.oth:=ID rfl
theorem aml:X4.kd.agg=false:=ID rfl
theorem ag4:X4.size=1:=ID rfl
theorem abE:X4.bytes=8:=ID rfl
theorem avF:qw X4=True:=eq_true rfl
theorem avG:zc X4=[.v Value.nilFunc]:=ID rfl
theorem aUN{K:TI→Prop}:@tyW Tryz.prog 197 ⟨K⟩=K X3:=qh aXh
theorem avE:X3.kd=Kd.oth:=ID rfl
theorem amk:X3.kd.agg=false:=ID rfl
theorem ag3:X3.size=1:=ID rfl
theorem abD:X3.bytes=8:=ID rfl
theorem avC:qw X3=True:=eq_true rfl
theorem avD:zc X3=[.v Value.nilFunc]:=ID rfl
theorem aUM{K:TI→Prop}:@tyW Tryz.prog 198 ⟨K⟩=K X2:=qh aXg
theorem avB:X2.kd=Kd.oth:=ID rfl
theorem amj:X2.kd.agg=false:=ID rfl
theorem ag2:X2.size=1:=ID rfl
theorem abC:X2.bytes=8:=ID rfl
theorem avz:qw X2=True:=eq_true rfl
theorem avA:zc X2=[.v Value.nilFunc]:=ID rfl
theorem aUL{K:TI→Prop}:@tyW Tryz.prog 199 ⟨K⟩=K X1:=qh aXf
theorem avy:X1.kd=Kd.oth:=ID rfl
theorem ami:X1.kd.agg=false:=ID rfl
theorem ag1:X1.size=1:=ID rfl
theorem abB:X1.bytes=8:=ID rfl
theorem avw:qw X1=True:=eq_true rfl
theorem avx:zc X1=[.v Value.nilFunc]:=ID rfl
theorem aUK{K:TI→Prop}:@tyW Tryz.prog 200 ⟨K⟩=K X0:=qh aXe
theorem avu:X0.kd=Kd.oth:=ID rfl
theorem amg:X0.kd.agg=false:=ID rfl
theorem ag0:X0.size=1:=ID rfl
theorem abA:X0.bytes=8:=ID rfl
theorem avs:qw X0=True:=eq_true rfl
theorem avt:zc X0=[.v Value.nilFunc]:=ID rfl
theorem aUJ{K:TI→Prop}:@tyW Tryz.prog 201 ⟨K⟩=K XZ:=qh aXd
theorem avr:XZ.kd=Kd.oth:=ID rfl
theorem amf:XZ.kd.agg=false:=ID rfl
theorem agZ:XZ.size=1:=ID rfl
theorem abz:XZ.bytes=8:=ID rfl
theorem avp:qw XZ=True:=eq_true rfl
theorem avq:zc XZ=[.v Value.nilFunc]:=ID rfl
theorem aUI{K:TI→Prop}:@tyW Tryz.prog 202 ⟨K⟩=K XY:=qh aXc
theorem avo:XY.kd=Kd.oth:=ID rfl
theorem ame:XY.kd.agg=false:=ID rfl
theorem agY:XY.size=1:=ID rfl
theorem aby:XY.bytes=8:=ID rfl
theorem avm:qw XY=True:=eq_true rfl
theorem avn:zc XY=[.v Value.nilFunc]:=ID rfl
theorem aUH{K:TI→Prop}:@tyW Tryz.prog 203 ⟨K⟩=K XX:=qh aXb
theorem avl:XX.kd=Kd.oth:=ID rfl
theorem amd:XX.kd.agg=false:=ID rfl
theorem agX:XX.size=1:=ID rfl
theorem abx:XX.bytes=8:=ID rfl
theorem avj:qw XX=True:=eq_true rfl
theorem avk:zc XX=[.v Value.nilFunc]:=ID rfl
theorem aUG{K:TI→Prop}:@tyW Tryz.prog 204 ⟨K⟩=K XW:=qh aXa
theorem avi:XW.kd=Kd.oth:=ID rfl
theorem amc:XW.kd.agg=false:=ID rfl
theorem agW:XW.size=1:=ID rfl
theorem abw:XW.bytes=8:=ID rfl
theorem avg:qw XW=True:=eq_true rfl
theorem avh:zc XW=[.v Value.nilFunc]:=ID rfl
theorem aUF{K:TI→Prop}:@tyW Tryz.prog 205 ⟨K⟩=K XV:=qh aW9
theorem avf:XV.kd=Kd.oth:=ID rfl
theorem amb:XV.kd.agg=false:=ID rfl
theorem agV:XV.size=1:=ID rfl
theorem abv:XV.bytes=8:=ID rfl
theorem avd:qw XV=True:=eq_true rfl
theorem ave:zc XV=[.v Value.nilFunc]:=ID rfl
theorem aUE{K:TI→Prop}:@tyW Tryz.prog 206 ⟨K⟩=K XU:=qh aW8
theorem avc:XU.kd=Kd.oth:=ID rfl
theorem ama:XU.kd.agg=false:=ID rfl
theorem agU:XU.size=1:=ID rfl
theorem abu:XU.bytes=8:=ID rfl
theorem ava:qw XU=True:=eq_true rfl
theorem avb:zc XU=[.v Value.nilFunc]:=ID rfl
theorem aUD{K:TI→Prop}:@tyW Tryz.prog 208 ⟨K⟩=K XT:=qh aW7
theorem au9:XT.kd=Kd.oth:=ID rfl
theorem al9:XT.kd.agg=false:=ID rfl
theorem agT:XT.size=1:=ID rfl
theorem abt:XT.bytes=8:=ID rfl
theorem au7:qw XT=True:=eq_true rfl
theorem au8:zc XT=[.v Value.nilFunc]:=ID rfl
theorem aUC{K:TI→Prop}:@tyW Tryz.prog 209 ⟨K⟩=K XS:=qh aW6
theorem au6:XS.kd=Kd.oth:=ID rfl
theorem al8:XS.kd.agg=false:=ID rfl
theorem agS:XS.size=1:=ID rfl
theorem abr:XS.bytes=8:=ID rfl
theorem au4:qw XS=True:=eq_true rfl
theorem au5:zc XS=[.v Value.nilFunc]:=ID rfl
theorem aUB{K:TI→Prop}:@tyW Tryz.prog 210 ⟨K⟩=K XR:=qh aW5
theorem au3:XR.kd=Kd.oth:=ID rfl
theorem al7:XR.kd.agg=false:=ID rfl
theorem agR:XR.size=1:=ID rfl
theorem abq:XR.bytes=8:=ID rfl
theorem au1:qw XR=True:=eq_true rfl
theorem au2:zc XR=[.v Value.nilFunc]:=ID rfl
theorem aUA{K:TI→Prop}:@tyW Tryz.prog 211 ⟨K⟩=K XQ:=qh aW4
theorem au0:XQ.kd=Kd.oth:=ID rfl
theorem al6:XQ.kd.agg=false:=ID rfl
theorem agQ:XQ.size=1:=ID rfl
theorem abp:XQ.bytes=8:=ID rfl
theorem auY:qw XQ=True:=eq_true rfl
theorem auZ:zc XQ=[.v Value.nilFunc]:=ID rfl
theorem aUz{K:TI→Prop}:@tyW Tryz.prog 212 ⟨K⟩=K XP:=qh aW3
theorem auX:XP.kd=Kd.oth:=ID rfl
theorem al5:XP.kd.agg=false:=ID rfl
theorem agP:XP.size=1:=ID rfl
theorem abo:XP.bytes=8:=ID rfl
theorem auV:qw XP=True:=eq_true rfl
theorem auW:zc XP=[.v Value.nilFunc]:=ID rfl
theorem aUy{K:TI→Prop}:@tyW Tryz.prog 213 ⟨K⟩=K XO:=qh aW2
theorem auU:XO.kd=Kd.oth:=ID rfl
theorem al4:XO.kd.agg=false:=ID rfl
theorem agO:XO.size=1:=ID rfl
theorem abn:XO.bytes=8:=ID rfl
theorem auS:qw XO=True:=eq_true rfl
theorem auT:zc XO=[.v Value.nilFunc]:=ID rfl
theorem aUx{K:TI→Prop}:@tyW Tryz.prog 214 ⟨K⟩=K XN:=qh aW1
theorem auR:XN.kd=Kd.oth:=ID rfl
theorem al3:XN.kd.agg=false:=ID rfl
theorem agN:XN.size=1:=ID rfl
theorem abm:XN.bytes=8:=ID rfl
theorem auP:qw XN=True:=eq_true rfl
theorem auQ:zc XN=[.v Value.nilFunc]:=ID rfl
theorem aUw{K:TI→Prop}:@tyW Tryz.prog 215 ⟨K⟩=K XM:=qh aW0
theorem auO:XM.kd=Kd.oth:=ID rfl
theorem al2:XM.kd.agg=false:=ID rfl
theorem agM:XM.size=1:=ID rfl
theorem abl:XM.bytes=8:=ID rfl
theorem auM:qw XM=True:=eq_true rfl
theorem auN:zc XM=[.v Value.nilFunc]:=ID rfl
theorem aUv{K:TI→Prop}:@tyW Tryz.prog 216 ⟨K⟩=K XL:=qh aWZ
theorem auL:XL.kd=Kd.oth:=ID rfl
theorem al1:XL.kd.agg=false:=ID rfl
theorem agL:XL.size=1:=ID rfl
theorem abk:XL.bytes=8:=ID rfl
theorem auJ:qw XL=True:=eq_true rfl
theorem auK:zc XL=[.v Value.nilFunc]:=ID rfl
theorem aUu{K:TI→Prop}:@tyW Tryz.prog 217 ⟨K⟩=K XK:=qh aWY
theorem auI:XK.kd=Kd.oth:=ID rfl
theorem al0:XK.kd.agg=false:=ID rfl
theorem agK:XK.size=1:=ID rfl
theorem abj:XK.bytes=8:=ID rfl
theorem auG:qw XK=True:=eq_true rfl
theorem auH:zc XK=[.v Value.nilFunc]:=ID rfl
theorem aUt{K:TI→Prop}:@tyW Tryz.prog 218 ⟨K⟩=K XJ:=qh aWX
theorem auF:XJ.kd=Kd.oth:=ID rfl
theorem alZ:XJ.kd.agg=false:=ID rfl
theorem agJ:XJ.size=1:=ID rfl
theorem abi:XJ.bytes=8:=ID rfl
theorem auD:qw XJ=True:=eq_true rfl
theorem auE:zc XJ=[.v Value.nilFunc]:=ID rfl
theorem aUs{K:TI→Prop}:@tyW Tryz.prog 220 ⟨K⟩=K XI:=qh aWW
theorem auB:XI.kd=Kd.oth:=ID rfl
theorem alX:XI.kd.agg=false:=ID rfl
theorem agH:XI.size=1:=ID rfl
theorem abh:XI.bytes=8:=ID rfl
theorem auz:qw XI=True:=eq_true rfl
theorem auA:zc XI=[.v Value.nilFunc]:=ID rfl
theorem aUr{K:TI→Prop}:@tyW Tryz.prog 221 ⟨K⟩=K XH:=qh aWV
theorem auy:XH.kd=Kd.oth:=ID rfl
theorem alW:XH.kd.agg=false:=ID rfl
theorem agG:XH.size=1:=ID rfl
theorem abg:XH.bytes=8:=ID rfl
theorem auw:qw XH=True:=eq_true rfl
theorem aux:zc XH=[.v Value.nilFunc]:=ID rfl
theorem aUq{K:TI→Prop}:@tyW Tryz.prog 222 ⟨K⟩=K XG:=qh aM9
theorem auv:XG.kd=Kd.sli 100:=ID rfl
theorem alV:XG.kd.agg=false:=ID rfl
theorem agF:XG.size=1:=ID rfl
theorem abf:XG.bytes=24:=ID rfl
theorem aut:qw XG=True:=eq_true rfl
theorem auu:zc XG=[.v (Value.slice none 0 0)]:=ID rfl
theorem aNp{K:TI→Prop}:@yA Tryz.prog 222 ⟨K⟩=K yI:=QK aM9 rfl J3
theorem aUp{K:TI→Prop}:@tyW Tryz.prog 223 ⟨K⟩=K XF:=qh aWU
theorem aus:XF.kd=Kd.oth:=ID rfl
theorem alU:XF.kd.agg=false:=ID rfl
theorem agE:XF.size=1:=ID rfl
theorem abe:XF.bytes=8:=ID rfl
theorem auq:qw XF=True:=eq_true rfl
theorem aur:zc XF=[.v Value.nilFunc]:=ID rfl
theorem aUo{K:TI→Prop}:@tyW Tryz.prog 224 ⟨K⟩=K XE:=qh aWT
theorem aup:XE.kd=Kd.oth:=ID rfl
theorem alT:XE.kd.agg=false:=ID rfl
theorem agD:XE.size=1:=ID rfl
theorem abd:XE.bytes=8:=ID rfl
theorem aun:qw XE=True:=eq_true rfl
theorem auo:zc XE=[.v Value.nilFunc]:=ID rfl
theorem aUn{K:TI→Prop}:@tyW Tryz.prog 225 ⟨K⟩=K XD:=qh aWS
theorem aum:XD.kd=Kd.oth:=ID rfl
theorem alS:XD.kd.agg=false:=ID rfl
theorem agC:XD.size=1:=ID rfl
theorem abc:XD.bytes=8:=ID rfl
theorem auk:qw XD=True:=eq_true rfl
theorem aul:zc XD=[.v Value.nilFunc]:=ID rfl
theorem aUm{K:TI→Prop}:@tyW Tryz.prog 226 ⟨K⟩=K XC:=qh aWR
theorem auj:XC.kd=Kd.oth:=ID rfl
theorem alR:XC.kd.agg=false:=ID rfl
theorem agB:XC.size=1:=ID rfl
theorem abb:XC.bytes=8:=ID rfl
theorem auh:qw XC=True:=eq_true rfl
theorem aui:zc XC=[.v Value.nilFunc]:=ID rfl
theorem aUl{K:TI→Prop}:@tyW Tryz.prog 227 ⟨K⟩=K XB:=qh aWQ
theorem aug:XB.kd=Kd.oth:=ID rfl
theorem alQ:XB.kd.agg=false:=ID rfl
theorem agA:XB.size=1:=ID rfl
theorem aba:XB.bytes=8:=ID rfl
theorem aue:qw XB=True:=eq_true rfl
theorem auf:zc XB=[.v Value.nilFunc]:=ID rfl
theorem aUk{K:TI→Prop}:@tyW Tryz.prog 228 ⟨K⟩=K XA:=qh aWP
theorem aud:XA.kd=Kd.oth:=ID rfl
theorem alP:XA.kd.agg=false:=ID rfl
theorem agz:XA.size=1:=ID rfl
theorem aa9:XA.bytes=8:=ID rfl
theorem aub:qw XA=True:=eq_true rfl
theorem auc:zc XA=[.v Value.nilFunc]:=ID rfl
theorem aUj{K:TI→Prop}:@tyW Tryz.prog 229 ⟨K⟩=K Xz:=qh aWO
theorem aua:Xz.kd=Kd.oth:=ID rfl
theorem alO:Xz.kd.agg=false:=ID rfl
theorem agy:Xz.size=1:=ID rfl
theorem aa8:Xz.bytes=8:=ID rfl
theorem at8:qw Xz=True:=eq_true rfl
theorem at9:zc Xz=[.v Value.nilFunc]:=ID rfl
theorem aUi{K:TI→Prop}:@tyW Tryz.prog 230 ⟨K⟩=K Xy:=qh aWN
theorem at6:Xy.kd=Kd.oth:=ID rfl
theorem alM:Xy.kd.agg=false:=ID rfl
theorem agw:Xy.size=1:=ID rfl
theorem aa7:Xy.bytes=8:=ID rfl
theorem at4:qw Xy=True:=eq_true rfl
theorem at5:zc Xy=[.v Value.nilFunc]:=ID rfl
theorem aUh{K:TI→Prop}:@tyW Tryz.prog 232 ⟨K⟩=K Xx:=qh aWM
theorem at3:Xx.kd=Kd.oth:=ID rfl
theorem alL:Xx.kd.agg=false:=ID rfl
theorem agv:Xx.size=1:=ID rfl
theorem aa6:Xx.bytes=8:=ID rfl
theorem at1:qw Xx=True:=eq_true rfl
theorem at2:zc Xx=[.v Value.nilFunc]:=ID rfl
theorem aUg{K:TI→Prop}:@tyW Tryz.prog 233 ⟨K⟩=K Xw:=qh aWL
theorem at0:Xw.kd=Kd.oth:=ID rfl
theorem alK:Xw.kd.agg=false:=ID rfl
theorem agu:Xw.size=1:=ID rfl
theorem aa5:Xw.bytes=8:=ID rfl
theorem atY:qw Xw=True:=eq_true rfl
theorem atZ:zc Xw=[.v Value.nilFunc]:=ID rfl
theorem aUf{K:TI→Prop}:@tyW Tryz.prog 234 ⟨K⟩=K Xv:=qh aWK
theorem atX:Xv.kd=Kd.oth:=ID rfl
theorem alJ:Xv.kd.agg=false:=ID rfl
theorem agt:Xv.size=1:=ID rfl
theorem aa4:Xv.bytes=8:=ID rfl
theorem atV:qw Xv=True:=eq_true rfl
theorem atW:zc Xv=[.v Value.nilFunc]:=ID rfl
theorem aUe{K:TI→Prop}:@tyW Tryz.prog 235 ⟨K⟩=K Xu:=qh aWJ
theorem atU:Xu.kd=Kd.oth:=ID rfl
theorem alI:Xu.kd.agg=false:=ID rfl
theorem ags:Xu.size=1:=ID rfl
theorem aa3:Xu.bytes=8:=ID rfl
theorem atS:qw Xu=True:=eq_true rfl
theorem atT:zc Xu=[.v Value.nilFunc]:=ID rfl
theorem aUd{K:TI→Prop}:@tyW Tryz.prog 237 ⟨K⟩=K Xt:=qh aWI
theorem atR:Xt.kd=Kd.oth:=ID rfl
theorem alH:Xt.kd.agg=false:=ID rfl
theorem agr:Xt.size=1:=ID rfl
theorem aa2:Xt.bytes=8:=ID rfl
theorem atP:qw Xt=True:=eq_true rfl
theorem atQ:zc Xt=[.v Value.nilFunc]:=ID rfl
theorem aUc{K:TI→Prop}:@tyW Tryz.prog 238 ⟨K⟩=K Xs:=qh aWH
theorem atO:Xs.kd=Kd.oth:=ID rfl
theorem alG:Xs.kd.agg=false:=ID rfl
theorem agq:Xs.size=1:=ID rfl
theorem aa1:Xs.bytes=8:=ID rfl
theorem atM:qw Xs=True:=eq_true rfl
theorem atN:zc Xs=[.v Value.nilFunc]:=ID rfl
theorem aUb{K:TI→Prop}:@tyW Tryz.prog 239 ⟨K⟩=K Xr:=qh aWG
theorem atL:Xr.kd=Kd.oth:=ID rfl
theorem alD:Xr.kd.agg=false:=ID rfl
theorem agp:Xr.size=1:=ID rfl
theorem aaZ:Xr.bytes=8:=ID rfl
theorem atJ:qw Xr=True:=eq_true rfl
theorem atK:zc Xr=[.v Value.nilFunc]:=ID rfl
theorem aUa{K:TI→Prop}:@tyW Tryz.prog 240 ⟨K⟩=K Xq:=qh aWE
theorem atH:Xq.kd=Kd.oth:=ID rfl
theorem alB:Xq.kd.agg=false:=ID rfl
theorem agn:Xq.size=1:=ID rfl
theorem aaY:Xq.bytes=8:=ID rfl
theorem atF:qw Xq=True:=eq_true rfl
theorem atG:zc Xq=[.v Value.nilFunc]:=ID rfl
theorem aT9{K:TI→Prop}:@tyW Tryz.prog 241 ⟨K⟩=K Xp:=qh aWD
theorem atE:Xp.kd=Kd.oth:=ID rfl
theorem alz:Xp.kd.agg=false:=ID rfl
theorem agm:Xp.size=1:=ID rfl
theorem aaX:Xp.bytes=8:=ID rfl
theorem atC:qw Xp=True:=eq_true rfl
theorem atD:zc Xp=[.v Value.nilFunc]:=ID rfl
theorem aT8{K:TI→Prop}:@tyW Tryz.prog 242 ⟨K⟩=K Xo:=qh aWC
theorem atB:Xo.kd=Kd.int IntKind.u32:=ID rfl
theorem aly:Xo.kd.agg=false:=ID rfl
theorem agl:Xo.size=1:=ID rfl
theorem aaW:Xo.bytes=4:=ID rfl
theorem atz:qw Xo=True:=eq_true rfl
theorem atA:zc Xo=[.v (Value.int IntKind.u32 0)]:=ID rfl
theorem aT7{K:TI→Prop}:@tyW Tryz.prog 243 ⟨K⟩=K Xn:=qh aWB
theorem aty:Xn.kd=Kd.oth:=ID rfl
theorem alx:Xn.kd.agg=false:=ID rfl
theorem agk:Xn.size=1:=ID rfl
theorem aaV:Xn.bytes=8:=ID rfl
theorem atw:qw Xn=True:=eq_true rfl
theorem atx:zc Xn=[.v Value.nilFunc]:=ID rfl
theorem aT6{K:TI→Prop}:@tyW Tryz.prog 244 ⟨K⟩=K Xm:=qh aWA
theorem atv:Xm.kd=Kd.int IntKind.u64:=ID rfl
theorem alw:Xm.kd.agg=false:=ID rfl
theorem agj:Xm.size=1:=ID rfl
theorem aaU:Xm.bytes=8:=ID rfl
theorem att:qw Xm=True:=eq_true rfl
theorem atu:zc Xm=[.v (Value.int IntKind.u64 0)]:=ID rfl
theorem aT5{K:TI→Prop}:@tyW Tryz.prog 245 ⟨K⟩=K Xl:=qh aWz
theorem ats:Xl.kd=Kd.oth:=ID rfl
theorem alv:Xl.kd.agg=false:=ID rfl
theorem agi:Xl.size=1:=ID rfl
theorem aaT:Xl.bytes=8:=ID rfl
theorem atq:qw Xl=True:=eq_true rfl
theorem atr:zc Xl=[.v Value.nilFunc]:=ID rfl
theorem aT4{K:TI→Prop}:@tyW Tryz.prog 247 ⟨K⟩=K Xk:=qh aWy
theorem atp:Xk.kd=Kd.oth:=ID rfl
theorem alu:Xk.kd.agg=false:=ID rfl
theorem agh:Xk.size=1:=ID rfl
theorem aaS:Xk.bytes=8:=ID rfl
theorem atn:qw Xk=True:=eq_true rfl
theorem ato:zc Xk=[.v Value.nilFunc]:=ID rfl
theorem aT3{K:TI→Prop}:@tyW Tryz.prog 248 ⟨K⟩=K Xj:=qh aWx
theorem atm:Xj.kd=Kd.oth:=ID rfl
theorem alt:Xj.kd.agg=false:=ID rfl
theorem agf:Xj.size=1:=ID rfl
theorem aaR:Xj.bytes=8:=ID rfl
theorem atk:qw Xj=True:=eq_true rfl
theorem atl:zc Xj=[.v Value.nilFunc]:=ID rfl
theorem aT2{K:TI→Prop}:@tyW Tryz.prog 249 ⟨K⟩=K Xi:=qh aWw
theorem atj:Xi.kd=Kd.oth:=ID rfl
theorem als:Xi.kd.agg=false:=ID rfl
theorem age:Xi.size=1:=ID rfl
theorem aaQ:Xi.bytes=8:=ID rfl
theorem ath:qw Xi=True:=eq_true rfl
theorem ati:zc Xi=[.v Value.nilFunc]:=ID rfl
theorem aT1{K:TI→Prop}:@tyW Tryz.prog 250 ⟨K⟩=K Xh:=qh aWv
theorem atf:Xh.kd=Kd.oth:=ID rfl
theorem alq:Xh.kd.agg=false:=ID rfl
theorem agc:Xh.size=1:=ID rfl
theorem aaP:Xh.bytes=8:=ID rfl
theorem atd:qw Xh=True:=eq_true rfl
theorem ate:zc Xh=[.v Value.nilFunc]:=ID rfl
theorem aT0{K:TI→Prop}:@tyW Tryz.prog 251 ⟨K⟩=K Xg:=qh aWu
theorem atc:Xg.kd=Kd.oth:=ID rfl
theorem alp:Xg.kd.agg=false:=ID rfl
theorem agb:Xg.size=1:=ID rfl
theorem aaO:Xg.bytes=8:=ID rfl
theorem ata:qw Xg=True:=eq_true rfl
theorem atb:zc Xg=[.v Value.nilFunc]:=ID rfl
theorem aTZ{K:TI→Prop}:@tyW Tryz.prog 252 ⟨K⟩=K Xf:=qh aWt
theorem as9:Xf.kd=Kd.oth:=ID rfl
theorem alo:Xf.kd.agg=false:=ID rfl
theorem aga:Xf.size=1:=ID rfl
theorem aaN:Xf.bytes=8:=ID rfl
theorem as7:qw Xf=True:=eq_true rfl
theorem as8:zc Xf=[.v Value.nilFunc]:=ID rfl
theorem aTY{K:TI→Prop}:@tyW Tryz.prog 253 ⟨K⟩=K Xe:=qh aWs
theorem as6:Xe.kd=Kd.oth:=ID rfl
theorem aln:Xe.kd.agg=false:=ID rfl
theorem af9:Xe.size=1:=ID rfl
theorem aaM:Xe.bytes=8:=ID rfl
theorem as4:qw Xe=True:=eq_true rfl
theorem as5:zc Xe=[.v Value.nilFunc]:=ID rfl
theorem aTX{K:TI→Prop}:@tyW Tryz.prog 254 ⟨K⟩=K Xd:=qh aWr
theorem as3:Xd.kd=Kd.oth:=ID rfl
theorem alm:Xd.kd.agg=false:=ID rfl
theorem af8:Xd.size=1:=ID rfl
theorem aaL:Xd.bytes=8:=ID rfl
theorem as1:qw Xd=True:=eq_true rfl
theorem as2:zc Xd=[.v Value.nilFunc]:=ID rfl
theorem aTW{K:TI→Prop}:@tyW Tryz.prog 255 ⟨K⟩=K Xc:=qh aWq
theorem as0:Xc.kd=Kd.oth:=ID rfl
theorem alk:Xc.kd.agg=false:=ID rfl
theorem af7:Xc.size=1:=ID rfl
theorem aaK:Xc.bytes=8:=ID rfl
theorem asY:qw Xc=True:=eq_true rfl
theorem asZ:zc Xc=[.v Value.nilFunc]:=ID rfl
theorem aTV{K:TI→Prop}:@tyW Tryz.prog 258 ⟨K⟩=K Xb:=qh aWp
theorem asX:Xb.kd=Kd.oth:=ID rfl
theorem alj:Xb.kd.agg=false:=ID rfl
theorem af6:Xb.size=1:=ID rfl
theorem aaJ:Xb.bytes=8:=ID rfl
theorem asV:qw Xb=True:=eq_true rfl
theorem asW:zc Xb=[.v Value.nilFunc]:=ID rfl
theorem aTU{K:TI→Prop}:@tyW Tryz.prog 262 ⟨K⟩=K Xa:=qh aWo
theorem asT:Xa.kd=Kd.stru [(0,261)]:=ID rfl
theorem alg:Xa.kd.agg=true:=ID rfl
theorem af4:Xa.size=0:=ID rfl
theorem aaI:Xa.bytes=0:=ID rfl
theorem asR:qw Xa=True:=eq_true rfl
theorem asS:zc Xa=[]:=ID rfl
theorem aTT{K:TI→Prop}:@tyW Tryz.prog 263 ⟨K⟩=K Y9:=qh aWn
theorem asQ:Y9.kd=Kd.stru [(0,261)]:=ID rfl
theorem alf:Y9.kd.agg=true:=ID rfl
theorem af3:Y9.size=0:=ID rfl
theorem aaH:Y9.bytes=0:=ID rfl
theorem asO:qw Y9=True:=eq_true rfl
theorem asP:zc Y9=[]:=ID rfl
theorem aTS{K:TI→Prop}:@tyW Tryz.prog 264 ⟨K⟩=K Y8:=qh aWm
theorem asN:Y8.kd=Kd.int IntKind.u8:=ID rfl
theorem ale:Y8.kd.agg=false:=ID rfl
theorem af2:Y8.size=1:=ID rfl
theorem aaG:Y8.bytes=1:=ID rfl
theorem asL:qw Y8=True:=eq_true rfl
theorem asM:zc Y8=[.v (Value.int IntKind.u8 0)]:=ID rfl
theorem aTR{K:TI→Prop}:@tyW Tryz.prog 265 ⟨K⟩=K Y7:=qh aWl
theorem asK:Y7.kd=Kd.int IntKind.u8:=ID rfl
theorem ald:Y7.kd.agg=false:=ID rfl
theorem af1:Y7.size=1:=ID rfl
theorem aaF:Y7.bytes=1:=ID rfl
theorem asI:qw Y7=True:=eq_true rfl
theorem asJ:zc Y7=[.v (Value.int IntKind.u8 0)]:=ID rfl
theorem aTQ{K:TI→Prop}:@tyW Tryz.prog 266 ⟨K⟩=K Y6:=qh aWk
theorem asH:Y6.kd=Kd.oth:=ID rfl
theorem alc:Y6.kd.agg=false:=ID rfl
theorem af0:Y6.size=1:=ID rfl
theorem aaE:Y6.bytes=8:=ID rfl
theorem asF:qw Y6=True:=eq_true rfl
theorem asG:zc Y6=[.v Value.nilFunc]:=ID rfl
theorem aTP{K:TI→Prop}:@tyW Tryz.prog 268 ⟨K⟩=K Y5:=qh aWj
theorem asE:Y5.kd=Kd.int IntKind.i32:=ID rfl
theorem alb:Y5.kd.agg=false:=ID rfl
theorem afZ:Y5.size=1:=ID rfl
theorem aaD:Y5.bytes=4:=ID rfl
theorem asC:qw Y5=True:=eq_true rfl
theorem asD:zc Y5=[.v (Value.int IntKind.i32 0)]:=ID rfl
theorem aTO{K:TI→Prop}:@tyW Tryz.prog 269 ⟨K⟩=K Y4:=qh aWi
theorem asB:Y4.kd=Kd.int IntKind.i32:=ID rfl
theorem ala:Y4.kd.agg=false:=ID rfl
theorem afY:Y4.size=1:=ID rfl
theorem aaC:Y4.bytes=4:=ID rfl
theorem asz:qw Y4=True:=eq_true rfl
theorem asA:zc Y4=[.v (Value.int IntKind.i32 0)]:=ID rfl
theorem aTN{K:TI→Prop}:@tyW Tryz.prog 272 ⟨K⟩=K Y2:=qh aWh
theorem asx:Y2.kd=Kd.oth:=ID rfl
theorem ak8:Y2.kd.agg=false:=ID rfl
theorem afW:Y2.size=1:=ID rfl
theorem aaB:Y2.bytes=8:=ID rfl
theorem asv:qw Y2=True:=eq_true rfl
theorem asw:zc Y2=[.v Value.nilFunc]:=ID rfl
theorem aTM{K:TI→Prop}:@tyW Tryz.prog 273 ⟨K⟩=K Y1:=qh aWg
theorem asu:Y1.kd=Kd.oth:=ID rfl
theorem ak7:Y1.kd.agg=false:=ID rfl
theorem afV:Y1.size=1:=ID rfl
theorem aaA:Y1.bytes=8:=ID rfl
theorem ass:qw Y1=True:=eq_true rfl
theorem ast:zc Y1=[.v Value.nilFunc]:=ID rfl
theorem aTL{K:TI→Prop}:@tyW Tryz.prog 274 ⟨K⟩=K Y0:=qh aWf
theorem asr:Y0.kd=Kd.oth:=ID rfl
theorem ak6:Y0.kd.agg=false:=ID rfl
theorem afU:Y0.size=1:=ID rfl
theorem aaz:Y0.bytes=8:=ID rfl
theorem asp:qw Y0=True:=eq_true rfl
theorem asq:zc Y0=[.v Value.nilFunc]:=ID rfl
theorem bdF:qo Tryz.prog 2=True:=eq_true ⟨_,Tryz.func2,of_decide_eq_false (by kernel_rfl),rfl⟩
theorem bdE:qo Tryz.prog 3=True:=eq_true ⟨_,Tryz.func3,of_decide_eq_false (by kernel_rfl),rfl⟩
theorem bdD:qo Tryz.prog 4=True:=eq_true ⟨_,Tryz.func4,of_decide_eq_false (by kernel_rfl),rfl⟩
theorem bdC:qo Tryz.prog 5=True:=eq_true ⟨_,Tryz.func5,of_decide_eq_false (by kernel_rfl),rfl⟩
theorem bdB:qo Tryz.prog 6=True:=eq_true ⟨_,Tryz.func6,of_decide_eq_false (by kernel_rfl),rfl⟩
theorem bdA:qo Tryz.prog 7=True:=eq_true ⟨_,Tryz.func7,of_decide_eq_false (by kernel_rfl),rfl⟩
theorem bdz:qo Tryz.prog 8=True:=eq_true ⟨_,Tryz.func8,of_decide_eq_false (by kernel_rfl),rfl⟩
theorem bdy:qo Tryz.prog 9=True:=eq_true ⟨_,Tryz.func9,of_decide_eq_false (by kernel_rfl),rfl⟩
theorem baE:qo Tryz.prog 10=True:=eq_true ⟨_,Tryz.func10,of_decide_eq_false (by kernel_rfl),rfl⟩
theorem baD:qo Tryz.prog 11=True:=eq_true ⟨_,Tryz.func11,of_decide_eq_false (by kernel_rfl),rfl⟩
theorem baC:qo Tryz.prog 12=True:=eq_true ⟨_,Tryz.func12,of_decide_eq_false (by kernel_rfl),rfl⟩
theorem baB:qo Tryz.prog 13=True:=eq_true ⟨_,Tryz.func13,of_decide_eq_false (by kernel_rfl),rfl⟩
theorem baA:qo Tryz.prog 14=True:=eq_true ⟨_,Tryz.func14,of_decide_eq_false (by kernel_rfl),rfl⟩
theorem baz:qo Tryz.prog 15=True:=eq_true ⟨_,Tryz.func15,of_decide_eq_false (by kernel_rfl),rfl⟩
theorem bay:qo Tryz.prog 16=True:=eq_true ⟨_,Tryz.func16,of_decide_eq_false (by kernel_rfl),rfl⟩
theorem bax:qo Tryz.prog 17=True:=eq_true ⟨_,Tryz.func17,of_decide_eq_false (by kernel_rfl),rfl⟩
theorem baw:qo Tryz.prog 18=True:=eq_true ⟨_,Tryz.func18,of_decide_eq_false (by kernel_rfl),rfl⟩
theorem bav:qo Tryz.prog 19=True:=eq_true ⟨_,Tryz.func19,of_decide_eq_false (by kernel_rfl),rfl⟩
theorem bau:qo Tryz.prog 20=True:=eq_true ⟨_,Tryz.func20,of_decide_eq_false (by kernel_rfl),rfl⟩
theorem bat:qo Tryz.prog 21=True:=eq_true ⟨_,Tryz.func21,of_decide_eq_false (by kernel_rfl),rfl⟩
theorem bas:qo Tryz.prog 22=True:=eq_true ⟨_,Tryz.func22,of_decide_eq_false (by kernel_rfl),rfl⟩
theorem bar:qo Tryz.prog 23=True:=eq_true ⟨_,Tryz.func23,of_decide_eq_false (by kernel_rfl),rfl⟩
theorem baq:qo Tryz.prog 24=True:=eq_true ⟨_,Tryz.func24,of_decide_eq_false (by kernel_rfl),rfl⟩
theorem bap:qo Tryz.prog 25=True:=eq_true ⟨_,Tryz.func25,of_decide_eq_false (by kernel_rfl),rfl⟩
theorem bao:qo Tryz.prog 26=True:=eq_true ⟨_,Tryz.func26,of_decide_eq_false (by kernel_rfl),rfl⟩
theorem ban:qo Tryz.prog 27=True:=eq_true ⟨_,Tryz.func27,of_decide_eq_false (by kernel_rfl),rfl⟩
theorem bam:qo Tryz.prog 28=True:=eq_true ⟨_,Tryz.func28,of_decide_eq_false (by kernel_rfl),rfl⟩
theorem bal:qo Tryz.prog 29=True:=eq_true ⟨_,Tryz.func29,of_decide_eq_false (by kernel_rfl),rfl⟩
theorem bak:qo Tryz.prog 30=True:=eq_true ⟨_,Tryz.func30,of_decide_eq_false (by kernel_rfl),rfl⟩
theorem baj:qo Tryz.prog 31=True:=eq_true ⟨_,Tryz.func31,of_decide_eq_false (by kernel_rfl),rfl⟩
theorem bai:qo Tryz.prog 32=True:=eq_true ⟨_,Tryz.func32,of_decide_eq_false (by kernel_rfl),rfl⟩
theorem bah:qo Tryz.prog 33=True:=eq_true ⟨_,Tryz.func33,of_decide_eq_false (by kernel_rfl),rfl⟩
theorem bag:qo Tryz.prog 34=True:=eq_true ⟨_,Tryz.func34,of_decide_eq_false (by kernel_rfl),rfl⟩
theorem baf:qo Tryz.prog 35=True:=eq_true ⟨_,Tryz.func35,of_decide_eq_false (by kernel_rfl),rfl⟩
theorem bae:qo Tryz.prog 36=True:=eq_true ⟨_,Tryz.func36,of_decide_eq_false (by kernel_rfl),rfl⟩
theorem bac:qo Tryz.prog 37=True:=eq_true ⟨_,Tryz.func37,of_decide_eq_false (by kernel_rfl),rfl⟩
theorem bab:qo Tryz.prog 38=True:=eq_true ⟨_,Tryz.func38,of_decide_eq_false (by kernel_rfl),rfl⟩
theorem baa:qo Tryz.prog 39=True:=eq_true ⟨_,Tryz.func39,of_decide_eq_false (by kernel_rfl),rfl⟩
theorem aZ9:qo Tryz.prog 40=True:=eq_true ⟨_,Tryz.func40,of_decide_eq_false (by kernel_rfl),rfl⟩
theorem aZ8:qo Tryz.prog 41=True:=eq_true ⟨_,Tryz.func41,of_decide_eq_false (by kernel_rfl),rfl⟩
theorem aZ7:qo Tryz.prog 42=True:=eq_true ⟨_,Tryz.func42,of_decide_eq_false (by kernel_rfl),rfl⟩
theorem aZ6:qo Tryz.prog 43=True:=eq_true ⟨_,Tryz.func43,of_decide_eq_false (by kernel_rfl),rfl⟩
theorem aZ5:qo Tryz.prog 44=True:=eq_true ⟨_,Tryz.func44,of_decide_eq_false (by kernel_rfl),rfl⟩
theorem aZ4:qo Tryz.prog 45=True:=eq_true ⟨_,Tryz.func45,of_decide_eq_false (by kernel_rfl),rfl⟩
theorem aZ3:qo Tryz.prog 46=True:=eq_true ⟨_,Tryz.func46,of_decide_eq_false (by kernel_rfl),rfl⟩
theorem aZ2:qo Tryz.prog 47=True:=eq_true ⟨_,Tryz.func47,of_decide_eq_false (by kernel_rfl),rfl⟩
theorem aZ1:qo Tryz.prog 48=True:=eq_true ⟨_,Tryz.func48,of_decide_eq_false (by kernel_rfl),rfl⟩
theorem aZ0:qo Tryz.prog 49=True:=eq_true ⟨_,Tryz.func49,of_decide_eq_false (by kernel_rfl),rfl⟩
theorem aZZ:qo Tryz.prog 50=True:=eq_true ⟨_,Tryz.func50,of_decide_eq_false (by kernel_rfl),rfl⟩
theorem aZY:qo Tryz.prog 51=True:=eq_true ⟨_,Tryz.func51,of_decide_eq_false (by kernel_rfl),rfl⟩
theorem aZX:qo Tryz.prog 52=True:=eq_true ⟨_,Tryz.func52,of_decide_eq_false (by kernel_rfl),rfl⟩
theorem aZW:qo Tryz.prog 53=True:=eq_true ⟨_,Tryz.func53,of_decide_eq_false (by kernel_rfl),rfl⟩
theorem aZV:qo Tryz.prog 54=True:=eq_true ⟨_,Tryz.func54,of_decide_eq_false (by kernel_rfl),rfl⟩
theorem aZU:qo Tryz.prog 55=True:=eq_true ⟨_,Tryz.func55,of_decide_eq_false (by kernel_rfl),rfl⟩
theorem aZT:qo Tryz.prog 56=True:=eq_true ⟨_,Tryz.func56,of_decide_eq_false (by kernel_rfl),rfl⟩
theorem aZS:qo Tryz.prog 57=True:=eq_true ⟨_,Tryz.func57,of_decide_eq_false (by kernel_rfl),rfl⟩
theorem aZR:qo Tryz.prog 58=True:=eq_true ⟨_,Tryz.func58,of_decide_eq_false (by kernel_rfl),rfl⟩
theorem aZQ:qo Tryz.prog 59=True:=eq_true ⟨_,Tryz.func59,of_decide_eq_false (by kernel_rfl),rfl⟩
theorem aZP:qo Tryz.prog 60=True:=eq_true ⟨_,Tryz.func60,of_decide_eq_false (by kernel_rfl),rfl⟩
theorem aZO:qo Tryz.prog 61=True:=eq_true ⟨_,Tryz.func61,of_decide_eq_false (by kernel_rfl),rfl⟩
theorem aZN:qo Tryz.prog 62=True:=eq_true ⟨_,Tryz.func62,of_decide_eq_false (by kernel_rfl),rfl⟩
theorem aZM:qo Tryz.prog 63=True:=eq_true ⟨_,Tryz.func63,of_decide_eq_false (by kernel_rfl),rfl⟩
theorem aZL:qo Tryz.prog 64=True:=eq_true ⟨_,Tryz.func64,of_decide_eq_false (by kernel_rfl),rfl⟩
theorem aZK:qo Tryz.prog 65=True:=eq_true ⟨_,Tryz.func65,of_decide_eq_false (by kernel_rfl),rfl⟩
theorem aZJ:qo Tryz.prog 66=True:=eq_true ⟨_,Tryz.func66,of_decide_eq_false (by kernel_rfl),rfl⟩
theorem aZI:qo Tryz.prog 67=True:=eq_true ⟨_,Tryz.func67,of_decide_eq_false (by kernel_rfl),rfl⟩
theorem aZH:qo Tryz.prog 68=True:=eq_true ⟨_,Tryz.func68,of_decide_eq_false (by kernel_rfl),rfl⟩
theorem aZG:qo Tryz.prog 69=True:=eq_true ⟨_,Tryz.func69,of_decide_eq_false (by kernel_rfl),rfl⟩
theorem aZF:qo Tryz.prog 70=True:=eq_true ⟨_,Tryz.func70,of_decide_eq_false (by kernel_rfl),rfl⟩
theorem aZE:qo Tryz.prog 71=True:=eq_true ⟨_,Tryz.func71,of_decide_eq_false (by kernel_rfl),rfl⟩
theorem aZD:qo Tryz.prog 72=True:=eq_true ⟨_,Tryz.func72,of_decide_eq_false (by kernel_rfl),rfl⟩
theorem aZC:qo Tryz.prog 73=True:=eq_true ⟨_,Tryz.func73,of_decide_eq_false (by kernel_rfl),rfl⟩
theorem aZB:qo Tryz.prog 74=True:=eq_true ⟨_,Tryz.func74,of_decide_eq_false (by kernel_rfl),rfl⟩
theorem aZA:qo Tryz.prog 75=True:=eq_true ⟨_,Tryz.func75,of_decide_eq_false (by kernel_rfl),rfl⟩
theorem aZz:qo Tryz.prog 76=True:=eq_true ⟨_,Tryz.func76,of_decide_eq_false (by kernel_rfl),rfl⟩
theorem aZy:qo Tryz.prog 77=True:=eq_true ⟨_,Tryz.func77,of_decide_eq_false (by kernel_rfl),rfl⟩
theorem aZx:qo Tryz.prog 78=True:=eq_true ⟨_,Tryz.func78,of_decide_eq_false (by kernel_rfl),rfl⟩
theorem aZw:qo Tryz.prog 79=True:=eq_true ⟨_,Tryz.func79,of_decide_eq_false (by kernel_rfl),rfl⟩
theorem aZv:qo Tryz.prog 80=True:=eq_true ⟨_,Tryz.func80,of_decide_eq_false (by kernel_rfl),rfl⟩
theorem aZu:qo Tryz.prog 81=True:=eq_true ⟨_,Tryz.func81,of_decide_eq_false (by kernel_rfl),rfl⟩
theorem aZt:qo Tryz.prog 82=True:=eq_true ⟨_,Tryz.func82,of_decide_eq_false (by kernel_rfl),rfl⟩
theorem aZs:qo Tryz.prog 83=True:=eq_true ⟨_,Tryz.func83,of_decide_eq_false (by kernel_rfl),rfl⟩
theorem aZr:qo Tryz.prog 84=True:=eq_true ⟨_,Tryz.func84,of_decide_eq_false (by kernel_rfl),rfl⟩
theorem aZq:qo Tryz.prog 85=True:=eq_true ⟨_,Tryz.func85,of_decide_eq_false (by kernel_rfl),rfl⟩
theorem aZp:qo Tryz.prog 86=True:=eq_true ⟨_,Tryz.func86,of_decide_eq_false (by kernel_rfl),rfl⟩
theorem aZo:qo Tryz.prog 87=True:=eq_true ⟨_,Tryz.func87,of_decide_eq_false (by kernel_rfl),rfl⟩
theorem aZn:qo Tryz.prog 88=True:=eq_true ⟨_,Tryz.func88,of_decide_eq_false (by kernel_rfl),rfl⟩
theorem aZm:qo Tryz.prog 89=True:=eq_true ⟨_,Tryz.func89,of_decide_eq_false (by kernel_rfl),rfl⟩
theorem aZl:qo Tryz.prog 90=True:=eq_true ⟨_,Tryz.func90,of_decide_eq_false (by kernel_rfl),rfl⟩
theorem aZk:qo Tryz.prog 91=True:=eq_true ⟨_,Tryz.func91,of_decide_eq_false (by kernel_rfl),rfl⟩
theorem aZj:qo Tryz.prog 92=True:=eq_true ⟨_,Tryz.func92,of_decide_eq_false (by kernel_rfl),rfl⟩
theorem aZi:qo Tryz.prog 93=True:=eq_true ⟨_,Tryz.func93,of_decide_eq_false (by kernel_rfl),rfl⟩
theorem aZh:qo Tryz.prog 94=True:=eq_true ⟨_,Tryz.func94,of_decide_eq_false (by kernel_rfl),rfl⟩
theorem aZg:qo Tryz.prog 95=True:=eq_true ⟨_,Tryz.func95,of_decide_eq_false (by kernel_rfl),rfl⟩
theorem aZf:qo Tryz.prog 96=True:=eq_true ⟨_,Tryz.func96,of_decide_eq_false (by kernel_rfl),rfl⟩
theorem aZe:qo Tryz.prog 97=True:=eq_true ⟨_,Tryz.func97,of_decide_eq_false (by kernel_rfl),rfl⟩
theorem aZd:qo Tryz.prog 98=True:=eq_true ⟨_,Tryz.func98,of_decide_eq_false (by kernel_rfl),rfl⟩
theorem aZc:qo Tryz.prog 99=True:=eq_true ⟨_,Tryz.func99,of_decide_eq_false (by kernel_rfl),rfl⟩
theorem aSl:qo Tryz.prog 100=True:=eq_true ⟨_,Tryz.func100,of_decide_eq_false (by kernel_rfl),rfl⟩
theorem aSk:qo Tryz.prog 101=True:=eq_true ⟨_,Tryz.func101,of_decide_eq_false (by kernel_rfl),rfl⟩
theorem aSj:qo Tryz.prog 102=True:=eq_true ⟨_,Tryz.func102,of_decide_eq_false (by kernel_rfl),rfl⟩
theorem aSi:qo Tryz.prog 103=True:=eq_true ⟨_,Tryz.func103,of_decide_eq_false (by kernel_rfl),rfl⟩
theorem aSh:qo Tryz.prog 104=True:=eq_true ⟨_,Tryz.func104,of_decide_eq_false (by kernel_rfl),rfl⟩
theorem aSg:qo Tryz.prog 105=True:=eq_true ⟨_,Tryz.func105,of_decide_eq_false (by kernel_rfl),rfl⟩
theorem aSf:qo Tryz.prog 106=True:=eq_true ⟨_,Tryz.func106,of_decide_eq_false (by kernel_rfl),rfl⟩
theorem aSe:qo Tryz.prog 107=True:=eq_true ⟨_,Tryz.func107,of_decide_eq_false (by kernel_rfl),rfl⟩
theorem aSd:qo Tryz.prog 108=True:=eq_true ⟨_,Tryz.func108,of_decide_eq_false (by kernel_rfl),rfl⟩
theorem aSc:qo Tryz.prog 109=True:=eq_true ⟨_,Tryz.func109,of_decide_eq_false (by kernel_rfl),rfl⟩
theorem aSb:qo Tryz.prog 110=True:=eq_true ⟨_,Tryz.func110,of_decide_eq_false (by kernel_rfl),rfl⟩
theorem aSa:qo Tryz.prog 111=True:=eq_true ⟨_,Tryz.func111,of_decide_eq_false (by kernel_rfl),rfl⟩
theorem aR9:qo Tryz.prog 112=True:=eq_true ⟨_,Tryz.func112,of_decide_eq_false (by kernel_rfl),rfl⟩
theorem aR8:qo Tryz.prog 113=True:=eq_true ⟨_,Tryz.func113,of_decide_eq_false (by kernel_rfl),rfl⟩
theorem aR7:qo Tryz.prog 114=True:=eq_true ⟨_,Tryz.func114,of_decide_eq_false (by kernel_rfl),rfl⟩
theorem aR6:qo Tryz.prog 115=True:=eq_true ⟨_,Tryz.func115,of_decide_eq_false (by kernel_rfl),rfl⟩
theorem aR5:qo Tryz.prog 116=True:=eq_true ⟨_,Tryz.func116,of_decide_eq_false (by kernel_rfl),rfl⟩
theorem aR4:qo Tryz.prog 117=True:=eq_true ⟨_,Tryz.func117,of_decide_eq_false (by kernel_rfl),rfl⟩
theorem aR3:qo Tryz.prog 118=True:=eq_true ⟨_,Tryz.func118,of_decide_eq_false (by kernel_rfl),rfl⟩
theorem aR2:qo Tryz.prog 119=True:=eq_true ⟨_,Tryz.func119,of_decide_eq_false (by kernel_rfl),rfl⟩
theorem aR1:qo Tryz.prog 120=True:=eq_true ⟨_,Tryz.func120,of_decide_eq_false (by kernel_rfl),rfl⟩
theorem aR0:qo Tryz.prog 121=True:=eq_true ⟨_,Tryz.func121,of_decide_eq_false (by kernel_rfl),rfl⟩
theorem aRZ:qo Tryz.prog 122=True:=eq_true ⟨_,Tryz.func122,of_decide_eq_false (by kernel_rfl),rfl⟩
theorem aRY:qo Tryz.prog 123=True:=eq_true ⟨_,Tryz.func123,of_decide_eq_false (by kernel_rfl),rfl⟩
theorem aRX:qo Tryz.prog 124=True:=eq_true ⟨_,Tryz.func124,of_decide_eq_false (by kernel_rfl),rfl⟩
theorem aRW:qo Tryz.prog 125=True:=eq_true ⟨_,Tryz.func125,of_decide_eq_false (by kernel_rfl),rfl⟩
theorem aRV:qo Tryz.prog 126=True:=eq_true ⟨_,Tryz.func126,of_decide_eq_false (by kernel_rfl),rfl⟩
theorem aRU:qo Tryz.prog 127=True:=eq_true ⟨_,Tryz.func127,of_decide_eq_false (by kernel_rfl),rfl⟩
theorem aRT:qo Tryz.prog 128=True:=eq_true ⟨_,Tryz.func128,of_decide_eq_false (by kernel_rfl),rfl⟩
theorem aRS:qo Tryz.prog 129=True:=eq_true ⟨_,Tryz.func129,of_decide_eq_false (by kernel_rfl),rfl⟩
theorem aRR:qo Tryz.prog 130=True:=eq_true ⟨_,Tryz.func130,of_decide_eq_false (by kernel_rfl),rfl⟩
theorem aRQ:qo Tryz.prog 131=True:=eq_true ⟨_,Tryz.func131,of_decide_eq_false (by kernel_rfl),rfl⟩
theorem aRP:qo Tryz.prog 132=True:=eq_true ⟨_,Tryz.func132,of_decide_eq_false (by kernel_rfl),rfl⟩
theorem aRO:qo Tryz.prog 133=True:=eq_true ⟨_,Tryz.func133,of_decide_eq_false (by kernel_rfl),rfl⟩
theorem aRN:qo Tryz.prog 134=True:=eq_true ⟨_,Tryz.func134,of_decide_eq_false (by kernel_rfl),rfl⟩
theorem aRM:qo Tryz.prog 135=True:=eq_true ⟨_,Tryz.func135,of_decide_eq_false (by kernel_rfl),rfl⟩
theorem aRL:qo Tryz.prog 136=True:=eq_true ⟨_,Tryz.func136,of_decide_eq_false (by kernel_rfl),rfl⟩
theorem aRK:qo Tryz.prog 137=True:=eq_true ⟨_,Tryz.func137,of_decide_eq_false (by kernel_rfl),rfl⟩
theorem aRJ:qo Tryz.prog 138=True:=eq_true ⟨_,Tryz.func138,of_decide_eq_false (by kernel_rfl),rfl⟩
theorem aRI:qo Tryz.prog 139=True:=eq_true ⟨_,Tryz.func139,of_decide_eq_false (by kernel_rfl),rfl⟩
theorem aRH:qo Tryz.prog 140=True:=eq_true ⟨_,Tryz.func140,of_decide_eq_false (by kernel_rfl),rfl⟩
theorem aRG:qo Tryz.prog 141=True:=eq_true ⟨_,Tryz.func141,of_decide_eq_false (by kernel_rfl),rfl⟩
theorem aRF:qo Tryz.prog 142=True:=eq_true ⟨_,Tryz.func142,of_decide_eq_false (by kernel_rfl),rfl⟩
theorem aRE:qo Tryz.prog 143=True:=eq_true ⟨_,Tryz.func143,of_decide_eq_false (by kernel_rfl),rfl⟩
theorem aRD:qo Tryz.prog 144=True:=eq_true ⟨_,Tryz.func144,of_decide_eq_false (by kernel_rfl),rfl⟩
theorem aRC:qo Tryz.prog 145=True:=eq_true ⟨_,Tryz.func145,of_decide_eq_false (by kernel_rfl),rfl⟩
theorem aRB:qo Tryz.prog 146=True:=eq_true ⟨_,Tryz.func146,of_decide_eq_false (by kernel_rfl),rfl⟩
theorem aRA:qo Tryz.prog 147=True:=eq_true ⟨_,Tryz.func147,of_decide_eq_false (by kernel_rfl),rfl⟩
theorem aRz:qo Tryz.prog 148=True:=eq_true ⟨_,Tryz.func148,of_decide_eq_false (by kernel_rfl),rfl⟩
theorem aRy:qo Tryz.prog 149=True:=eq_true ⟨_,Tryz.func149,of_decide_eq_false (by kernel_rfl),rfl⟩
theorem aRx:qo Tryz.prog 150=True:=eq_true ⟨_,Tryz.func150,of_decide_eq_false (by kernel_rfl),rfl⟩
theorem aRw:qo Tryz.prog 151=True:=eq_true ⟨_,Tryz.func151,of_decide_eq_false (by kernel_rfl),rfl⟩
theorem aRv:qo Tryz.prog 152=True:=eq_true ⟨_,Tryz.func152,of_decide_eq_false (by kernel_rfl),rfl⟩
theorem aRu:qo Tryz.prog 153=True:=eq_true ⟨_,Tryz.func153,of_decide_eq_false (by kernel_rfl),rfl⟩
theorem aRt:qo Tryz.prog 154=True:=eq_true ⟨_,Tryz.func154,of_decide_eq_false (by kernel_rfl),rfl⟩
theorem aRs:qo Tryz.prog 155=True:=eq_true ⟨_,Tryz.func155,of_decide_eq_false (by kernel_rfl),rfl⟩
theorem aRr:qo Tryz.prog 156=True:=eq_true ⟨_,Tryz.func156,of_decide_eq_false (by kernel_rfl),rfl⟩
theorem aRq:qo Tryz.prog 157=True:=eq_true ⟨_,Tryz.func157,of_decide_eq_false (by kernel_rfl),rfl⟩
theorem aRp:qo Tryz.prog 158=True:=eq_true ⟨_,Tryz.func158,of_decide_eq_false (by kernel_rfl),rfl⟩
theorem aRo:qo Tryz.prog 159=True:=eq_true ⟨_,Tryz.func159,of_decide_eq_false (by kernel_rfl),rfl⟩
theorem aRn:qo Tryz.prog 160=True:=eq_true ⟨_,Tryz.func160,of_decide_eq_false (by kernel_rfl),rfl⟩
theorem aRm:qo Tryz.prog 161=True:=eq_true ⟨_,Tryz.func161,of_decide_eq_false (by kernel_rfl),rfl⟩
theorem aRl:qo Tryz.prog 162=True:=eq_true ⟨_,Tryz.func162,of_decide_eq_false (by kernel_rfl),rfl⟩
theorem aRk:qo Tryz.prog 163=True:=eq_true ⟨_,Tryz.func163,of_decide_eq_false (by kernel_rfl),rfl⟩
theorem aRj:qo Tryz.prog 164=True:=eq_true ⟨_,Tryz.func164,of_decide_eq_false (by kernel_rfl),rfl⟩
theorem aRi:qo Tryz.prog 165=True:=eq_true ⟨_,Tryz.func165,of_decide_eq_false (by kernel_rfl),rfl⟩
theorem aRh:qo Tryz.prog 166=True:=eq_true ⟨_,Tryz.func166,of_decide_eq_false (by kernel_rfl),rfl⟩
theorem aRg:qo Tryz.prog 167=True:=eq_true ⟨_,Tryz.func167,of_decide_eq_false (by kernel_rfl),rfl⟩
theorem aRf:qo Tryz.prog 168=True:=eq_true ⟨_,Tryz.func168,of_decide_eq_false (by kernel_rfl),rfl⟩
theorem aRe:qo Tryz.prog 169=True:=eq_true ⟨_,Tryz.func169,of_decide_eq_false (by kernel_rfl),rfl⟩
theorem aRd:qo Tryz.prog 170=True:=eq_true ⟨_,Tryz.func170,of_decide_eq_false (by kernel_rfl),rfl⟩
theorem aRc:qo Tryz.prog 171=True:=eq_true ⟨_,Tryz.func171,of_decide_eq_false (by kernel_rfl),rfl⟩
theorem aRb:qo Tryz.prog 172=True:=eq_true ⟨_,Tryz.func172,of_decide_eq_false (by kernel_rfl),rfl⟩
theorem aRa:qo Tryz.prog 173=True:=eq_true ⟨_,Tryz.func173,of_decide_eq_false (by kernel_rfl),rfl⟩
theorem aQ9:qo Tryz.prog 174=True:=eq_true ⟨_,Tryz.func174,of_decide_eq_false (by kernel_rfl),rfl⟩
theorem aQ8:qo Tryz.prog 175=True:=eq_true ⟨_,Tryz.func175,of_decide_eq_false (by kernel_rfl),rfl⟩
theorem aQ7:qo Tryz.prog 176=True:=eq_true ⟨_,Tryz.func176,of_decide_eq_false (by kernel_rfl),rfl⟩
theorem aQ6:qo Tryz.prog 177=True:=eq_true ⟨_,Tryz.func177,of_decide_eq_false (by kernel_rfl),rfl⟩
theorem aQ5:qo Tryz.prog 178=True:=eq_true ⟨_,Tryz.func178,of_decide_eq_false (by kernel_rfl),rfl⟩
theorem aQ4:qo Tryz.prog 179=True:=eq_true ⟨_,Tryz.func179,of_decide_eq_false (by kernel_rfl),rfl⟩
theorem aQ3:qo Tryz.prog 180=True:=eq_true ⟨_,Tryz.func180,of_decide_eq_false (by kernel_rfl),rfl⟩
theorem aQ2:qo Tryz.prog 181=True:=eq_true ⟨_,Tryz.func181,of_decide_eq_false (by kernel_rfl),rfl⟩
theorem aQ1:qo Tryz.prog 182=True:=eq_true ⟨_,Tryz.func182,of_decide_eq_false (by kernel_rfl),rfl⟩
theorem aQ0:qo Tryz.prog 183=True:=eq_true ⟨_,Tryz.func183,of_decide_eq_false (by kernel_rfl),rfl⟩
theorem aQZ:qo Tryz.prog 184=True:=eq_true ⟨_,Tryz.func184,of_decide_eq_false (by kernel_rfl),rfl⟩
theorem aQY:qo Tryz.prog 185=True:=eq_true ⟨_,Tryz.func185,of_decide_eq_false (by kernel_rfl),rfl⟩
theorem aQX:qo Tryz.prog 186=True:=eq_true ⟨_,Tryz.func186,of_decide_eq_false (by kernel_rfl),rfl⟩
theorem aQW:qo Tryz.prog 187=True:=eq_true ⟨_,Tryz.func187,of_decide_eq_false (by kernel_rfl),rfl⟩
theorem aQV:qo Tryz.prog 188=True:=eq_true ⟨_,Tryz.func188,of_decide_eq_false (by kernel_rfl),rfl⟩
theorem aQU:qo Tryz.prog 189=True:=eq_true ⟨_,Tryz.func189,of_decide_eq_false (by kernel_rfl),rfl⟩
theorem aQT:qo Tryz.prog 190=True:=eq_true ⟨_,Tryz.func190,of_decide_eq_false (by kernel_rfl),rfl⟩
theorem aQS:qo Tryz.prog 191=True:=eq_true ⟨_,Tryz.func191,of_decide_eq_false (by kernel_rfl),rfl⟩
theorem aQR:qo Tryz.prog 192=True:=eq_true ⟨_,Tryz.func192,of_decide_eq_false (by kernel_rfl),rfl⟩
theorem aQQ:qo Tryz.prog 193=True:=eq_true ⟨_,Tryz.func193,of_decide_eq_false (by kernel_rfl),rfl⟩
theorem aQP:qo Tryz.prog 194=True:=eq_true ⟨_,Tryz.func194,of_decide_eq_false (by kernel_rfl),rfl⟩
theorem aQO:qo Tryz.prog 195=True:=eq_true ⟨_,Tryz.func195,of_decide_eq_false (by kernel_rfl),rfl⟩
theorem aQN:qo Tryz.prog 196=True:=eq_true ⟨_,Tryz.func196,of_decide_eq_false (by kernel_rfl),rfl⟩
theorem aQM:qo Tryz.prog 197=True:=eq_true ⟨_,Tryz.func197,of_decide_eq_false (by kernel_rfl),rfl⟩
theorem aQL:qo Tryz.prog 198=True:=eq_true ⟨_,Tryz.func198,of_decide_eq_false (by kernel_rfl),rfl⟩
theorem aQK:qo Tryz.prog 199=True:=eq_true ⟨_,Tryz.func199,of_decide_eq_false (by kernel_rfl),rfl⟩
theorem aQJ:qo Tryz.prog 200=True:=eq_true ⟨_,Tryz.func200,of_decide_eq_false (by kernel_rfl),rfl⟩
theorem aQI:qo Tryz.prog 201=True:=eq_true ⟨_,Tryz.func201,of_decide_eq_false (by kernel_rfl),rfl⟩
theorem aQH:qo Tryz.prog 202=True:=eq_true ⟨_,Tryz.func202,of_decide_eq_false (by kernel_rfl),rfl⟩
theorem aQG:qo Tryz.prog 203=True:=eq_true ⟨_,Tryz.func203,of_decide_eq_false (by kernel_rfl),rfl⟩
theorem aQF:qo Tryz.prog 204=True:=eq_true ⟨_,Tryz.func204,of_decide_eq_false (by kernel_rfl),rfl⟩
theorem aQE:qo Tryz.prog 205=True:=eq_true ⟨_,Tryz.func205,of_decide_eq_false (by kernel_rfl),rfl⟩
theorem aQD:qo Tryz.prog 206=True:=eq_true ⟨_,Tryz.func206,of_decide_eq_false (by kernel_rfl),rfl⟩
theorem aQC:qo Tryz.prog 207=True:=eq_true ⟨_,Tryz.func207,of_decide_eq_false (by kernel_rfl),rfl⟩
theorem aQB:qo Tryz.prog 208=True:=eq_true ⟨_,Tryz.func208,of_decide_eq_false (by kernel_rfl),rfl⟩
theorem aQA:qo Tryz.prog 209=True:=eq_true ⟨_,Tryz.func209,of_decide_eq_false (by kernel_rfl),rfl⟩
theorem aQz:qo Tryz.prog 210=True:=eq_true ⟨_,Tryz.func210,of_decide_eq_false (by kernel_rfl),rfl⟩
theorem aQy:qo Tryz.prog 211=True:=eq_true ⟨_,Tryz.func211,of_decide_eq_false (by kernel_rfl),rfl⟩
theorem aQx:qo Tryz.prog 212=True:=eq_true ⟨_,Tryz.func212,of_decide_eq_false (by kernel_rfl),rfl⟩
theorem aQw:qo Tryz.prog 213=True:=eq_true ⟨_,Tryz.func213,of_decide_eq_false (by kernel_rfl),rfl⟩
theorem aQv:qo Tryz.prog 214=True:=eq_true ⟨_,Tryz.func214,of_decide_eq_false (by kernel_rfl),rfl⟩
theorem aQu:qo Tryz.prog 215=True:=eq_true ⟨_,Tryz.func215,of_decide_eq_false (by kernel_rfl),rfl⟩
theorem aQt:qo Tryz.prog 216=True:=eq_true ⟨_,Tryz.func216,of_decide_eq_false (by kernel_rfl),rfl⟩
theorem aQs:qo Tryz.prog 217=True:=eq_true ⟨_,Tryz.func217,of_decide_eq_false (by kernel_rfl),rfl⟩
theorem aQr:qo Tryz.prog 218=True:=eq_true ⟨_,Tryz.func218,of_decide_eq_false (by kernel_rfl),rfl⟩
theorem aQq:qo Tryz.prog 219=True:=eq_true ⟨_,Tryz.func219,of_decide_eq_false (by kernel_rfl),rfl⟩
theorem aQp:qo Tryz.prog 220=True:=eq_true ⟨_,Tryz.func220,of_decide_eq_false (by kernel_rfl),rfl⟩
theorem aQo:qo Tryz.prog 221=True:=eq_true ⟨_,Tryz.func221,of_decide_eq_false (by kernel_rfl),rfl⟩
theorem aQn:qo Tryz.prog 222=True:=eq_true ⟨_,Tryz.func222,of_decide_eq_false (by kernel_rfl),rfl⟩
theorem aQm:qo Tryz.prog 223=True:=eq_true ⟨_,Tryz.func223,of_decide_eq_false (by kernel_rfl),rfl⟩
theorem aQl:qo Tryz.prog 224=True:=eq_true ⟨_,Tryz.func224,of_decide_eq_false (by kernel_rfl),rfl⟩
theorem aQk:qo Tryz.prog 225=True:=eq_true ⟨_,Tryz.func225,of_decide_eq_false (by kernel_rfl),rfl⟩
theorem aQj:qo Tryz.prog 226=True:=eq_true ⟨_,Tryz.func226,of_decide_eq_false (by kernel_rfl),rfl⟩
theorem aQi:qo Tryz.prog 227=True:=eq_true ⟨_,Tryz.func227,of_decide_eq_false (by kernel_rfl),rfl⟩
theorem aQh:qo Tryz.prog 228=True:=eq_true ⟨_,Tryz.func228,of_decide_eq_false (by kernel_rfl),rfl⟩
theorem aQg:qo Tryz.prog 229=True:=eq_true ⟨_,Tryz.func229,of_decide_eq_false (by kernel_rfl),rfl⟩
theorem aQf:qo Tryz.prog 230=True:=eq_true ⟨_,Tryz.func230,of_decide_eq_false (by kernel_rfl),rfl⟩
theorem aQe:qo Tryz.prog 231=True:=eq_true ⟨_,Tryz.func231,of_decide_eq_false (by kernel_rfl),rfl⟩
theorem aQd:qo Tryz.prog 232=True:=eq_true ⟨_,Tryz.func232,of_decide_eq_false (by kernel_rfl),rfl⟩
theorem aQc:qo Tryz.prog 233=True:=eq_true ⟨_,Tryz.func233,of_decide_eq_false (by kernel_rfl),rfl⟩
theorem aQb:qo Tryz.prog 234=True:=eq_true ⟨_,Tryz.func234,of_decide_eq_false (by kernel_rfl),rfl⟩
theorem aQa:qo Tryz.prog 235=True:=eq_true ⟨_,Tryz.func235,of_decide_eq_false (by kernel_rfl),rfl⟩
theorem aP9:qo Tryz.prog 236=True:=eq_true ⟨_,Tryz.func236,of_decide_eq_false (by kernel_rfl),rfl⟩
theorem aP8:qo Tryz.prog 237=True:=eq_true ⟨_,Tryz.func237,of_decide_eq_false (by kernel_rfl),rfl⟩
theorem aP7:qo Tryz.prog 238=True:=eq_true ⟨_,Tryz.func238,of_decide_eq_false (by kernel_rfl),rfl⟩
theorem aP6:qo Tryz.prog 239=True:=eq_true ⟨_,Tryz.func239,of_decide_eq_false (by kernel_rfl),rfl⟩
theorem aP5:qo Tryz.prog 240=True:=eq_true ⟨_,Tryz.func240,of_decide_eq_false (by kernel_rfl),rfl⟩
theorem aP4:qo Tryz.prog 241=True:=eq_true ⟨_,Tryz.func241,of_decide_eq_false (by kernel_rfl),rfl⟩
theorem aP3:qo Tryz.prog 242=True:=eq_true ⟨_,Tryz.func242,of_decide_eq_false (by kernel_rfl),rfl⟩
theorem aP2:qo Tryz.prog 243=True:=eq_true ⟨_,Tryz.func243,of_decide_eq_false (by kernel_rfl),rfl⟩
theorem aP1:qo Tryz.prog 244=True:=eq_true ⟨_,Tryz.func244,of_decide_eq_false (by kernel_rfl),rfl⟩
theorem aP0:qo Tryz.prog 245=True:=eq_true ⟨_,Tryz.func245,of_decide_eq_false (by kernel_rfl),rfl⟩
theorem aPZ:qo Tryz.prog 246=True:=eq_true ⟨_,Tryz.func246,of_decide_eq_false (by kernel_rfl),rfl⟩
theorem aPY:qo Tryz.prog 247=True:=eq_true ⟨_,Tryz.func247,of_decide_eq_false (by kernel_rfl),rfl⟩
theorem aPX:qo Tryz.prog 248=True:=eq_true ⟨_,Tryz.func248,of_decide_eq_false (by kernel_rfl),rfl⟩
theorem aPW:qo Tryz.prog 249=True:=eq_true ⟨_,Tryz.func249,of_decide_eq_false (by kernel_rfl),rfl⟩
theorem aPV:qo Tryz.prog 250=True:=eq_true ⟨_,Tryz.func250,of_decide_eq_false (by kernel_rfl),rfl⟩
theorem aPU:qo Tryz.prog 251=True:=eq_true ⟨_,Tryz.func251,of_decide_eq_false (by kernel_rfl),rfl⟩
theorem aPT:qo Tryz.prog 252=True:=eq_true ⟨_,Tryz.func252,of_decide_eq_false (by kernel_rfl),rfl⟩
theorem aPS:qo Tryz.prog 253=True:=eq_true ⟨_,Tryz.func253,of_decide_eq_false (by kernel_rfl),rfl⟩
theorem aPR:qo Tryz.prog 254=True:=eq_true ⟨_,Tryz.func254,of_decide_eq_false (by kernel_rfl),rfl⟩
theorem aPQ:qo Tryz.prog 255=True:=eq_true ⟨_,Tryz.func255,of_decide_eq_false (by kernel_rfl),rfl⟩
theorem aPP:qo Tryz.prog 256=True:=eq_true ⟨_,Tryz.func256,of_decide_eq_false (by kernel_rfl),rfl⟩
theorem aPO:qo Tryz.prog 257=True:=eq_true ⟨_,Tryz.func257,of_decide_eq_false (by kernel_rfl),rfl⟩
theorem aPN:qo Tryz.prog 258=True:=eq_true ⟨_,Tryz.func258,of_decide_eq_false (by kernel_rfl),rfl⟩
theorem aPM:qo Tryz.prog 259=True:=eq_true ⟨_,Tryz.func259,of_decide_eq_false (by kernel_rfl),rfl⟩
theorem aPL:qo Tryz.prog 260=True:=eq_true ⟨_,Tryz.func260,of_decide_eq_false (by kernel_rfl),rfl⟩
theorem aPK:qo Tryz.prog 261=True:=eq_true ⟨_,Tryz.func261,of_decide_eq_false (by kernel_rfl),rfl⟩
theorem aPJ:qo Tryz.prog 262=True:=eq_true ⟨_,Tryz.func262,of_decide_eq_false (by kernel_rfl),rfl⟩
theorem aPI:qo Tryz.prog 263=True:=eq_true ⟨_,Tryz.func263,of_decide_eq_false (by kernel_rfl),rfl⟩
theorem aPH:qo Tryz.prog 264=True:=eq_true ⟨_,Tryz.func264,of_decide_eq_false (by kernel_rfl),rfl⟩
theorem aPG:qo Tryz.prog 265=True:=eq_true ⟨_,Tryz.func265,of_decide_eq_false (by kernel_rfl),rfl⟩
theorem aPF:qo Tryz.prog 266=True:=eq_true ⟨_,Tryz.func266,of_decide_eq_false (by kernel_rfl),rfl⟩
theorem aPE:qo Tryz.prog 267=True:=eq_true ⟨_,Tryz.func267,of_decide_eq_false (by kernel_rfl),rfl⟩
theorem aPD:qo Tryz.prog 268=True:=eq_true ⟨_,Tryz.func268,of_decide_eq_false (by kernel_rfl),rfl⟩
theorem aPC:qo Tryz.prog 269=True:=eq_true ⟨_,Tryz.func269,of_decide_eq_false (by kernel_rfl),rfl⟩
theorem aPB:qo Tryz.prog 270=True:=eq_true ⟨_,Tryz.func270,of_decide_eq_false (by kernel_rfl),rfl⟩
theorem aPA:qo Tryz.prog 271=True:=eq_true ⟨_,Tryz.func271,of_decide_eq_false (by kernel_rfl),rfl⟩
theorem aPz:qo Tryz.prog 272=True:=eq_true ⟨_,Tryz.func272,of_decide_eq_false (by kernel_rfl),rfl⟩
theorem aPy:qo Tryz.prog 273=True:=eq_true ⟨_,Tryz.func273,of_decide_eq_false (by kernel_rfl),rfl⟩
theorem aPx:qo Tryz.prog 274=True:=eq_true ⟨_,Tryz.func274,of_decide_eq_false (by kernel_rfl),rfl⟩
theorem aPw:qo Tryz.prog 275=True:=eq_true ⟨_,Tryz.func275,of_decide_eq_false (by kernel_rfl),rfl⟩
theorem aPv:qo Tryz.prog 276=True:=eq_true ⟨_,Tryz.func276,of_decide_eq_false (by kernel_rfl),rfl⟩
theorem aPu:qo Tryz.prog 277=True:=eq_true ⟨_,Tryz.func277,of_decide_eq_false (by kernel_rfl),rfl⟩
theorem aPt:qo Tryz.prog 278=True:=eq_true ⟨_,Tryz.func278,of_decide_eq_false (by kernel_rfl),rfl⟩
theorem aPs:qo Tryz.prog 279=True:=eq_true ⟨_,Tryz.func279,of_decide_eq_false (by kernel_rfl),rfl⟩
theorem aPr:qo Tryz.prog 280=True:=eq_true ⟨_,Tryz.func280,of_decide_eq_false (by kernel_rfl),rfl⟩
theorem aPq:qo Tryz.prog 281=True:=eq_true ⟨_,Tryz.func281,of_decide_eq_false (by kernel_rfl),rfl⟩
theorem aPp:qo Tryz.prog 282=True:=eq_true ⟨_,Tryz.func282,of_decide_eq_false (by kernel_rfl),rfl⟩
theorem aPo:qo Tryz.prog 283=True:=eq_true ⟨_,Tryz.func283,of_decide_eq_false (by kernel_rfl),rfl⟩
theorem aPn:qo Tryz.prog 284=True:=eq_true ⟨_,Tryz.func284,of_decide_eq_false (by kernel_rfl),rfl⟩
theorem aPm:qo Tryz.prog 285=True:=eq_true ⟨_,Tryz.func285,of_decide_eq_false (by kernel_rfl),rfl⟩
theorem aPl:qo Tryz.prog 286=True:=eq_true ⟨_,Tryz.func286,of_decide_eq_false (by kernel_rfl),rfl⟩
theorem aPk:qo Tryz.prog 287=True:=eq_true ⟨_,Tryz.func287,of_decide_eq_false (by kernel_rfl),rfl⟩
theorem aPj:qo Tryz.prog 288=True:=eq_true ⟨_,Tryz.func288,of_decide_eq_false (by kernel_rfl),rfl⟩
theorem aPi:qo Tryz.prog 289=True:=eq_true ⟨_,Tryz.func289,of_decide_eq_false (by kernel_rfl),rfl⟩
theorem aPh:qo Tryz.prog 290=True:=eq_true ⟨_,Tryz.func290,of_decide_eq_false (by kernel_rfl),rfl⟩
theorem aPg:qo Tryz.prog 291=True:=eq_true ⟨_,Tryz.func291,of_decide_eq_false (by kernel_rfl),rfl⟩
theorem aPf:qo Tryz.prog 292=True:=eq_true ⟨_,Tryz.func292,of_decide_eq_false (by kernel_rfl),rfl⟩
theorem aPe:qo Tryz.prog 293=True:=eq_true ⟨_,Tryz.func293,of_decide_eq_false (by kernel_rfl),rfl⟩
theorem aPd:qo Tryz.prog 294=True:=eq_true ⟨_,Tryz.func294,of_decide_eq_false (by kernel_rfl),rfl⟩
theorem aPc:qo Tryz.prog 295=True:=eq_true ⟨_,Tryz.func295,of_decide_eq_false (by kernel_rfl),rfl⟩
theorem aPb:qo Tryz.prog 296=True:=eq_true ⟨_,Tryz.func296,of_decide_eq_false (by kernel_rfl),rfl⟩
theorem aPa:qo Tryz.prog 297=True:=eq_true ⟨_,Tryz.func297,of_decide_eq_false (by kernel_rfl),rfl⟩
theorem aO9:qo Tryz.prog 298=True:=eq_true ⟨_,Tryz.func298,of_decide_eq_false (by kernel_rfl),rfl⟩
theorem aO8:qo Tryz.prog 299=True:=eq_true ⟨_,Tryz.func299,of_decide_eq_false (by kernel_rfl),rfl⟩
theorem aO7:qo Tryz.prog 300=True:=eq_true ⟨_,Tryz.func300,of_decide_eq_false (by kernel_rfl),rfl⟩
theorem aO6:qo Tryz.prog 301=True:=eq_true ⟨_,Tryz.func301,of_decide_eq_false (by kernel_rfl),rfl⟩
theorem aO5:qo Tryz.prog 302=True:=eq_true ⟨_,Tryz.func302,of_decide_eq_false (by kernel_rfl),rfl⟩
theorem aO4:qo Tryz.prog 303=True:=eq_true ⟨_,Tryz.func303,of_decide_eq_false (by kernel_rfl),rfl⟩
theorem aO3:qo Tryz.prog 304=True:=eq_true ⟨_,Tryz.func304,of_decide_eq_false (by kernel_rfl),rfl⟩
theorem aO2:qo Tryz.prog 305=True:=eq_true ⟨_,Tryz.func305,of_decide_eq_false (by kernel_rfl),rfl⟩
theorem aO1:qo Tryz.prog 330=True:=eq_true ⟨_,Tryz.func330,of_decide_eq_false (by kernel_rfl),rfl⟩
attribute [go_sem] ty1 aM6 aH0 avv amh aM4 aM5 ty2 aM3 aHy
attribute [go_sem] asl ak1 aM1 aM2 ty3 aM0 aG9 asc akS aMY
attribute [go_sem] aMZ ty4 aMX aGK ar3 akG aMV aMW ty5 aMU
attribute [go_sem] aGl arU akx aMS aMT ty6 aMR aFW arL ako
attribute [go_sem] aMP aMQ ty7 aMO aFA arD akg aMM aMN aSu
attribute [go_sem] aYR aSt aYQ aSs aYP aSr aYO bdJ ty8 aML
attribute [go_sem] aE8 art aj6 aMJ aMK aSq aYN aSp aYM aSo
attribute [go_sem] aYL aSn aYK bdI ty9 aMI aEJ arj ajX aMG
attribute [go_sem] aMH bco aH9 azy anG ain aH7 aH8 bcn aH6
attribute [go_sem] ay6 anv aid aH4 aH5 bcm aH3 ayB ank ah2
attribute [go_sem] aH1 aH2 bcl aHZ auC alY agI aHX aHY bck
attribute [go_sem] aHW at7 alN agx aHU aHV aYB bcj aHT atI
attribute [go_sem] alC ago aHR aHS aYA bci aHQ atg alr agd
attribute [go_sem] aHO aHP aK3 aOd ba1 bch aHN asU ali af5
attribute [go_sem] aHL aHM aK2 aOc ba0 bcg aHK asy ak9 afX
attribute [go_sem] aHI aHJ aK1 aOb aK0 aOa baZ bcf aHH aso
attribute [go_sem] ak5 afT aHF aHG aKZ aN9 aKY aN8 baY bce
attribute [go_sem] aHE asn ak3 afS aHC aHD aKX aN7 aKW aN6
attribute [go_sem] baX bcd aHB asm ak2 afR aHz aHA aKV aN5
attribute [go_sem] aKU aN4 baW bcc aHx ask ak0 afQ aHv aHw
attribute [go_sem] bcb aHu asj akZ afP aHs aHt bca aHr asi
attribute [go_sem] akY afO aHp aHq bb9 aHo ash akX afN aHm
attribute [go_sem] aHn bb8 aHl asg akW afM aHj aHk bb7 aHi
attribute [go_sem] asf akV afL aHg aHh bb6 aHf ase akU afK
attribute [go_sem] aHd aHe bb5 aHc asd akT afJ aHa aHb bb4
attribute [go_sem] aG8 asb akR afI aG6 aG7 aYz bb3 aG5 asa
attribute [go_sem] akP afH aG3 aG4 aKT aN3 aKS aN2 baV bb2
attribute [go_sem] aG2 ar9 akN afG aG0 aG1 aKR aN1 aKQ aN0
attribute [go_sem] baU bb1 aGZ ar8 akM afF aGX aGY bb0 aGW
attribute [go_sem] ar7 akL afE aGU aGV bbZ aGT ar6 akK afD
attribute [go_sem] aGR aGS bbY aGQ ar5 akJ afC aGO aGP bbX
attribute [go_sem] aGN ar4 akH afB aGL aGM aKP aNZ aKO aNY
attribute [go_sem] baT bbW aGJ ar2 akF afA aGH aGI aKN aNX
attribute [go_sem] aKM aNW baS bbV aGG ar1 akE afz aGE aGF
attribute [go_sem] bbU aGD ar0 akD afy aGB aGC bbT aGA arZ
attribute [go_sem] akC afx aGy aGz bbS aGx arY akB afw aGv
attribute [go_sem] aGw bbR aGu arX akA afv aGs aGt bbQ aGr
attribute [go_sem] arW akz afu aGp aGq bbP aGo arV aky aft
attribute [go_sem] aGm aGn bbO aGk arT akw afs aGi aGj bbN
attribute [go_sem] aGh arS akv afr aGf aGg bbM aGe arR aku
attribute [go_sem] afp aGc aGd aKL aNV aKK aNU aKJ aNT aKI
attribute [go_sem] aNS baR bbL aGb arQ akt afo aF9 aGa aKH
attribute [go_sem] aNR aKG aNQ aKF aNP aKE aNO baQ bbK aF8
attribute [go_sem] arP aks afn aF6 aF7 bbJ aF5 arO akr afm
attribute [go_sem] aF3 aF4 bbI aF2 arN akq afl aF0 aF1 bbH
attribute [go_sem] aFZ arM akp afk aFX aFY bbG aFV arK akn
attribute [go_sem] afj aFT aFU bbF aFS arJ akm afi aFQ aFR
attribute [go_sem] bbE aFP arI akl afh aFN aFO bbD aFM arH
attribute [go_sem] akk afg aFK aFL bbC aFJ arG akj aff aFH
attribute [go_sem] aFI bbB aFG arF aki afe aFE aFF bbA aFD
attribute [go_sem] arE akh afd aFB aFC bbz aFz arC akf afc
attribute [go_sem] aFx aFy bby aFw arB ake afb aFu aFv bbx
attribute [go_sem] aFt arA akd afa aFr aFs bbw aFq arz akc
attribute [go_sem] ae9 aFo aFp bbv aFn ary akb ae8 aFl aFm
attribute [go_sem] bbu aFk arx aka ae7 aFi aFj bbt aFh arw
attribute [go_sem] aj9 ae6 aFf aFg bbs aFe arv aj8 ae5 aFc
attribute [go_sem] aFd bbr aFb aru aj7 ae4 aE9 aFa aKD aNN
attribute [go_sem] aKC aNM aKB aNL baP bbq aE7 ars aj5 ae3
attribute [go_sem] aE5 aE6 aKA aNK aKz aNJ aKy aNI baO bbp
attribute [go_sem] aE4 arq aj4 ae2 aE2 aE3 bbo aE1 arp aj3
attribute [go_sem] ae1 aEZ aE0 bbn aEY aro aj2 ae0 aEW aEX
attribute [go_sem] bbm aEV arn aj1 aeZ aET aEU bbl aES arm
attribute [go_sem] aj0 aeY aEQ aER bbk aEP arl ajZ aeX aEN
attribute [go_sem] aEO bbj aEM ark ajY aeW aEK aEL aWe az2
attribute [go_sem] anQ aix ac5 az0 az1 aNt aWd azZ anP aiw
attribute [go_sem] ac4 azX azY aB3 aI4 aB2 aI3 aTa aWc azW
attribute [go_sem] anO aiv ac3 azU azV aB1 aI2 aB0 aI1 aS9
attribute [go_sem] aWb azT anN aiu ac2 azR azS aWa azQ anM
attribute [go_sem] ait ac1 azO azP aV9 azN anL ais ac0 azL
attribute [go_sem] azM aV8 azK anK air acZ azI azJ aV7 azH
attribute [go_sem] anJ aiq acY azF azG aV6 azE anI aip acX
attribute [go_sem] azC azD aV5 azB anH aio acW azz azA aV4
attribute [go_sem] azx anF aim acV azv azw aBZ aI0 aBY aIZ
attribute [go_sem] aS8 aV3 azu anE ail acU azs azt aBX aIY
attribute [go_sem] aBW aIX aS7 aV2 azr anD aik acT azp azq
attribute [go_sem] aV1 azo anC aij acS azm azn aV0 azl anB
attribute [go_sem] aii acR azj azk aVZ azi anA aih acQ azg
attribute [go_sem] azh aVY azf anz aig acP azd aze aVX azc
attribute [go_sem] anx aif acO aza azb aVW ay9 anw aie acN
attribute [go_sem] ay7 ay8 aVV ay5 anu aic acM ay3 ay4 aVU
attribute [go_sem] ay2 ant aib acL ay0 ay1 aVT ayZ ans aia
attribute [go_sem] acK ayX ayY aVS ayW anr ah9 acJ ayU ayV
attribute [go_sem] aVR ayT anq ah8 acI ayR ayS aVQ ayQ anp
attribute [go_sem] ah7 acH ayO ayP aVP ayN ano ah6 acG ayL
attribute [go_sem] ayM aVO ayK ann ah5 acF ayI ayJ aVN ayH
attribute [go_sem] anm ah4 acE ayF ayG aVM ayE anl ah3 acD
attribute [go_sem] ayC ayD aVL ayA anj ah1 acC ayy ayz aVK
attribute [go_sem] ayx ani ah0 acB ayv ayw aVJ ayu anh ahZ
attribute [go_sem] acA ays ayt aVI ayr ang ahY acz ayp ayq
attribute [go_sem] aVH ayo anf ahX acy aym ayn aVG ayl ane
attribute [go_sem] ahW acx ayj ayk aVF ayi anc ahV acw ayg
attribute [go_sem] ayh aVE ayf anb ahU acv ayd aye aVD ayc
attribute [go_sem] ana ahT acu aya ayb aVC ax9 am9 ahS act
attribute [go_sem] ax7 ax8 aVB ax6 am8 ahR acs ax4 ax5 aVA
attribute [go_sem] ax3 am7 ahQ acr ax1 ax2 aBV aIW aBU aIV
attribute [go_sem] aBT aIU aS6 aVz ax0 am6 ahP acq axY axZ
attribute [go_sem] aBS aIT aBR aIS aBQ aIR aS5 aVy axX am5
attribute [go_sem] ahO acp axV axW aVx axU am4 ahN aco axS
attribute [go_sem] axT aVw axR am3 ahM acn axP axQ aVv axO
attribute [go_sem] am2 ahL acm axM axN aVu axL am1 ahK acl
attribute [go_sem] axJ axK aVt axI am0 ahJ ack axG axH aVs
attribute [go_sem] axF amZ ahI acj axD axE aVr axC amY ahH
attribute [go_sem] aci axA axB aVq axz amX ahG ach axx axy
attribute [go_sem] aVp axw amW ahF acg axu axv aNs aVo axt
attribute [go_sem] amV ahE acf axr axs aBP aIQ aBO aIP aS4
attribute [go_sem] aVn axq amU ahD ace axo axp aBN aIO aBM
attribute [go_sem] aIN aS3 aVm axn amT ahC acd axl axm aVl
attribute [go_sem] axk amS ahB acb axi axj aNr aVk axh amR
attribute [go_sem] ahA aca axf axg aBL aIM aBK aIL aS2 aVj
attribute [go_sem] axe amQ ahz ab9 axc axd aBJ aIK aBI aIJ
attribute [go_sem] aS1 aVi axb amP ahy ab8 aw9 axa aVh aw8
attribute [go_sem] amO ahx ab7 aw6 aw7 aVg aw5 amN ahw ab6
attribute [go_sem] aw3 aw4 aVf aw2 amM ahv ab5 aw0 aw1 aVe
attribute [go_sem] awZ amL ahu ab4 awX awY aVd awW amK aht
attribute [go_sem] ab3 awT awU aVc awS amJ ahs ab2 awQ awR
attribute [go_sem] aVb awP amI ahr ab1 awN awO aVa awM amH
attribute [go_sem] ahq ab0 awK awL aU9 awJ amG ahp abZ awH
attribute [go_sem] awI aU8 awG amF aho abY awE awF aU7 awD
attribute [go_sem] amE ahn abX awB awC aU6 awA amD ahm abW
attribute [go_sem] awy awz aU5 awx amC ahl abV awv aww aU4
attribute [go_sem] awu amB ahk abU aws awt aU3 awr amA ahj
attribute [go_sem] abT awo awq aU2 awn amz ahi abS awl awm
attribute [go_sem] aU1 awk amy ahh abR awi awj aU0 awh amx
attribute [go_sem] ahg abQ awf awg aUZ awe amw ahf abP awc
attribute [go_sem] awd aNq aUY awb amv ahe abO av9 awa aUX
attribute [go_sem] av8 amu ahd abN av6 av7 aUW av5 amt ahc
attribute [go_sem] abM av3 av4 aUV av2 ams ahb abL av0 av1
attribute [go_sem] aUU avZ amr aha abK avX avY aUT avW amq
attribute [go_sem] ag9 abJ avU avV aUS avT amp ag8 abI avR
attribute [go_sem] avS aUR avQ amo ag7 abH avO avP aUQ avN
attribute [go_sem] amn ag6 abG avL avM aUP avK amm ag5 abF
attribute [go_sem] avI avJ aUO avH aml ag4 abE avF avG aUN
attribute [go_sem] avE amk ag3 abD avC avD aUM avB amj ag2
attribute [go_sem] abC avz avA aUL avy ami ag1 abB avw avx
attribute [go_sem] aUK avu amg ag0 abA avs avt aUJ avr amf
attribute [go_sem] agZ abz avp avq aUI avo ame agY aby avm
attribute [go_sem] avn aUH avl amd agX abx avj avk aUG avi
attribute [go_sem] amc agW abw avg avh aUF avf amb agV abv
attribute [go_sem] avd ave aUE avc ama agU abu ava avb aUD
attribute [go_sem] au9 al9 agT abt au7 au8 aUC au6 al8 agS
attribute [go_sem] abr au4 au5 aUB au3 al7 agR abq au1 au2
attribute [go_sem] aUA au0 al6 agQ abp auY auZ aUz auX al5
attribute [go_sem] agP abo auV auW aUy auU al4 agO abn auS
attribute [go_sem] auT aUx auR al3 agN abm auP auQ aUw auO
attribute [go_sem] al2 agM abl auM auN aUv auL al1 agL abk
attribute [go_sem] auJ auK aUu auI al0 agK abj auG auH aUt
attribute [go_sem] auF alZ agJ abi auD auE aUs auB alX agH
attribute [go_sem] abh auz auA aUr auy alW agG abg auw aux
attribute [go_sem] aUq auv alV agF abf aut auu aNp aUp aus
attribute [go_sem] alU agE abe auq aur aUo aup alT agD abd
attribute [go_sem] aun auo aUn aum alS agC abc auk aul aUm
attribute [go_sem] auj alR agB abb auh aui aUl aug alQ agA
attribute [go_sem] aba aue auf aUk aud alP agz aa9 aub auc
attribute [go_sem] aUj aua alO agy aa8 at8 at9 aUi at6 alM
attribute [go_sem] agw aa7 at4 at5 aUh at3 alL agv aa6 at1
attribute [go_sem] at2 aUg at0 alK agu aa5 atY atZ aUf atX
attribute [go_sem] alJ agt aa4 atV atW aUe atU alI ags aa3
attribute [go_sem] atS atT aUd atR alH agr aa2 atP atQ aUc
attribute [go_sem] atO alG agq aa1 atM atN aUb atL alD agp
attribute [go_sem] aaZ atJ atK aUa atH alB agn aaY atF atG
attribute [go_sem] aT9 atE alz agm aaX atC atD aT8 atB aly
attribute [go_sem] agl aaW atz atA aT7 aty alx agk aaV atw
attribute [go_sem] atx aT6 atv alw agj aaU att atu aT5 ats
attribute [go_sem] alv agi aaT atq atr aT4 atp alu agh aaS
attribute [go_sem] atn ato aT3 atm alt agf aaR atk atl aT2
attribute [go_sem] atj als age aaQ ath ati aT1 atf alq agc
attribute [go_sem] aaP atd ate aT0 atc alp agb aaO ata atb
attribute [go_sem] aTZ as9 alo aga aaN as7 as8 aTY as6 aln
attribute [go_sem] af9 aaM as4 as5 aTX as3 alm af8 aaL as1
attribute [go_sem] as2 aTW as0 alk af7 aaK asY asZ aTV asX
attribute [go_sem] alj af6 aaJ asV asW aTU asT alg af4 aaI
attribute [go_sem] asR asS aTT asQ alf af3 aaH asO asP aTS
attribute [go_sem] asN ale af2 aaG asL asM aTR asK ald af1
attribute [go_sem] aaF asI asJ aTQ asH alc af0 aaE asF asG
attribute [go_sem] aTP asE alb afZ aaD asC asD aTO asB ala
attribute [go_sem] afY aaC asz asA aTN asx ak8 afW aaB asv
attribute [go_sem] asw aTM asu ak7 afV aaA ass ast aTL asr
attribute [go_sem] ak6 afU aaz asp asq bdF bdE bdD bdC bdB
attribute [go_sem] bdA bdz bdy baE baD baC baB baA baz bay
attribute [go_sem] bax baw bav bau bat bas bar baq bap bao
attribute [go_sem] ban bam bal bak baj bai bah bag baf bae
attribute [go_sem] bac bab baa aZ9 aZ8 aZ7 aZ6 aZ5 aZ4 aZ3
attribute [go_sem] aZ2 aZ1 aZ0 aZZ aZY aZX aZW aZV aZU aZT
attribute [go_sem] aZS aZR aZQ aZP aZO aZN aZM aZL aZK aZJ
attribute [go_sem] aZI aZH aZG aZF aZE aZD aZC aZB aZA aZz
attribute [go_sem] aZy aZx aZw aZv aZu aZt aZs aZr aZq aZp
attribute [go_sem] aZo aZn aZm aZl aZk aZj aZi aZh aZg aZf
attribute [go_sem] aZe aZd aZc aSl aSk aSj aSi aSh aSg aSf
attribute [go_sem] aSe aSd aSc aSb aSa aR9 aR8 aR7 aR6 aR5
attribute [go_sem] aR4 aR3 aR2 aR1 aR0 aRZ aRY aRX aRW aRV
attribute [go_sem] aRU aRT aRS aRR aRQ aRP aRO aRN aRM aRL
attribute [go_sem] aRK aRJ aRI aRH aRG aRF aRE aRD aRC aRB
attribute [go_sem] aRA aRz aRy aRx aRw aRv aRu aRt aRs aRr
attribute [go_sem] aRq aRp aRo aRn aRm aRl aRk aRj aRi aRh
attribute [go_sem] aRg aRf aRe aRd aRc aRb aRa aQ9 aQ8 aQ7
attribute [go_sem] aQ6 aQ5 aQ4 aQ3 aQ2 aQ1 aQ0 aQZ aQY aQX
attribute [go_sem] aQW aQV aQU aQT aQS aQR aQQ aQP aQO aQN
attribute [go_sem] aQM aQL aQK aQJ aQI aQH aQG aQF aQE aQD
attribute [go_sem] aQC aQB aQA aQz aQy aQx aQw aQv aQu aQt
attribute [go_sem] aQs aQr aQq aQp aQo aQn aQm aQl aQk aQj
attribute [go_sem] aQi aQh aQg aQf aQe aQd aQc aQb aQa aP9
attribute [go_sem] aP8 aP7 aP6 aP5 aP4 aP3 aP2 aP1 aP0 aPZ
attribute [go_sem] aPY aPX aPW aPV aPU aPT aPS aPR aPQ aPP
attribute [go_sem] aPO aPN aPM aPL aPK aPJ aPI aPH aPG aPF
attribute [go_sem] aPE aPD aPC aPB aPA aPz aPy aPx aPw aPv
attribute [go_sem] aPu aPt aPs aPr aPq aPp aPo aPn aPm aPl
attribute [go_sem] aPk aPj aPi aPh aPg aPf aPe aPd aPc aPb
attribute [go_sem] aPa aO9 aO8 aO7 aO6 aO5 aO4 aO3 aO2 aO1
end Go.Ab
namespace Go.Ab
open Go Go.Proofs
set_option maxRecDepth 100000 in
theorem adR(U V:List Int)(j:Nat)(hU:gd U)(hV:gd V)(lU:U.length≤2000000)(h2:2≤V.length)(hj:j+V.length<U.length)(hv1:32768≤V.getD (V.length-1) 0)(hW:vl (U.drop j)<65536*vl V):
  Con Tryz.prog 296 true [.sl U.length (qb U),.sl V.length (qb V),.v (.int .i64 j)] [] (fun r hs bs=>∃q:Int,r=.v (.int .i64 q)∧hs=[]∧bs=[]∧(0≤q∧q<65536)∧vl (U.drop j)<(q+1)*vl V∧q*vl V<vl (U.drop j)+vl V):=by
 refine Con.of_aw Tryz.func296 rfl Tryz.ntmps296 (by simp) (by simp) (by simp) (W.sound ?_)
 show @W Tryz.prog 76 ⟨_⟩ ⟨fun x σ=>@q7 _ _ _ ⟨_⟩ _ ⟨_⟩ x σ⟩ _ _
 have hDl:V.length<(U.drop j).length:=by simp;omega
 have hz:=aec (yf hU j) hV hDl hW
 have hw:=aMx hDl h2 hz
 have hvv:=aEA h2
 rw[zT,zT,zT]at hw
 have hx0:=qQ (jZ (yf hU j) (V.length-2))
 have hx1:=Ql (jZ (yf hU j) (V.length-2))
 have hy0:=qQ (jZ hV (V.length-2))
 have hy1:=Ql (jZ hV (V.length-2))
 rw[List.length_take,Nat.min_eq_left (by omega)]at hx1 hy1
 have gu0:=qH hU (j+V.length)
 have gu1:=qH hU (j+(V.length-1))
 have gu2:=qH hU (j+(V.length-2))
 have gv1:=qH hV (V.length-1)
 have gv2:=qH hV (V.length-2)
 have htop:=aOG hw hvv ⟨hx0,hx1⟩ ⟨hy0,hy1⟩ gu2.1 gu1.1 gv2.2 hW
 have e0:((j:Int)+(V.length:Int)).toNat=j+V.length:=by omega
 have e1:((j:Int)+(V.length:Int)-1).toNat=j+(V.length-1):=by omega
 have e2:((j:Int)+(V.length:Int)-2).toNat=j+(V.length-2):=by omega
 have f1:((V.length:Int)-1).toNat=V.length-1:=by omega
 have f2:((V.length:Int)-2).toNat=V.length-2:=by omega
 simp(disch:=omega)only[go_sem]
 refine qs rfl [⟨0,[],[]⟩,⟨1,[],[]⟩,⟨2,[],[]⟩,⟨3,[],[]⟩,⟨4,[],[]⟩,⟨5,[],[]⟩,⟨6,[],[]⟩,⟨7,[5],[]⟩,⟨8,[5],[]⟩,⟨9,[5],[]⟩,⟨10,[5],[]⟩,⟨11,[5],[]⟩,⟨12,[5],[]⟩,⟨13,[5],[]⟩,⟨14,[],[]⟩,⟨15,[],[]⟩] (by kernel_rfl) ?_
 simp(disch:=omega)only[go_sem,e0,e1]
 generalize hu0:U.getD (j+V.length) 0=u0 at*
 generalize hu1:U.getD (j+(V.length-1)) 0=u1 at*
 generalize hu2:U.getD (j+(V.length-2)) 0=u2 at*
 refine⟨by omega,by omega,by omega,by omega,?_⟩
 refine qs rfl [⟨0,[],[]⟩,⟨1,[],[]⟩,⟨2,[],[]⟩,⟨3,[],[]⟩,⟨4,[],[]⟩,⟨5,[],[]⟩,⟨6,[],[]⟩,⟨7,[5],[]⟩,⟨8,[5],[]⟩,⟨9,[5],[]⟩,⟨10,[5],[]⟩,⟨11,[5],[]⟩,⟨12,[5],[]⟩,⟨13,[5],[]⟩,⟨14,[12],[]⟩,⟨15,[],[]⟩] (by kernel_rfl) ?_
 simp(disch:=omega)only[go_sem,f1]
 generalize hvv1:V.getD (V.length-1) 0=v1 at*
 generalize hvv2:V.getD (V.length-2) 0=v2 at*
 generalize htt:u0*65536+u1=top at*
 refine⟨by omega,by omega,by omega,by omega,by omega,by omega,?_⟩
 have hq0:0≤top/v1:=Int.ediv_nonneg (by omega) (by omega)
 have hq1:top/v1≤65537:=by
  have:top/v1<65538:=Int.ediv_lt_of_lt_mul (by omega) (by omega)
  omega
 have hr0:=Int.emod_nonneg top (show v1≠0 by omega)
 have hr1:=Int.emod_lt_of_pos top (show 0<v1 by omega)
 have hqr:=Int.emod_add_mul_ediv top v1
 have hini:=aJ1 hw hvv ⟨hx0,hx1⟩ ⟨hy0,hy1⟩ gu2 gv2.1 hq0 (show top<(top/v1+1)*v1 by rw[Int.add_mul,Int.mul_comm (top/v1)];omega)
 have hqr':top/v1*v1+top % v1=top:=by rw[Int.mul_comm];omega
 generalize top/v1=q0 at*
 generalize top % v1=r0 at*
 refine qj (fun x:Int×Int=>[(0,.sl U.length (qb U)),(1,.sl V.length (qb V)),(2,.v (.int .i64 j)),(7,.v (.int .i64 V.length)),(9,.v (.int .i64 x.1)),(10,.v (.int .i64 x.2))])
  (fun _=>[]) (fun x=>(0≤x.1∧x.1≤65537)∧(0≤x.2∧x.2<65536)∧x.1*v1+x.2=top∧vl (U.drop j)<(x.1+1)*vl V) (fun x=>x.1.toNat) (q0,r0) ⟨⟨hq0,hq1⟩,⟨hr0,by omega⟩,hqr',hini⟩
  (Le.lst [] _ _ rfl (by simp(disch:=omega)only[go_sem];try omega) (by simp(disch:=omega)only[go_sem])) ?_
 rintro⟨q,r⟩ ⟨hq,hr,hqr2,hlt⟩
 dsimp only at hq hr hqr2 hlt ⊢
 have hqv:0≤q*v2∧q*v2≤65537*65535:=⟨Int.mul_nonneg hq.1 gv2.1,Int.mul_le_mul hq.2 (by omega) gv2.1 (by omega)⟩
 simp(disch:=omega)only[go_sem]
 refine qs rfl [⟨0,[],[]⟩,⟨1,[],[]⟩,⟨2,[],[]⟩,⟨3,[],[]⟩,⟨4,[],[]⟩,⟨5,[],[]⟩,⟨6,[],[]⟩,⟨7,[],[]⟩,⟨8,[],[]⟩,⟨9,[],[]⟩,⟨10,[8],[]⟩,⟨11,[8],[]⟩,⟨12,[8],[]⟩,⟨13,[8],[]⟩,⟨14,[8],[]⟩,⟨15,[8],[]⟩,⟨16,[8],[]⟩,⟨17,[8],[]⟩,⟨18,[8],[]⟩,⟨19,[8],[]⟩,⟨20,[],[]⟩,⟨21,[],[]⟩] (by kernel_rfl) ?_
 simp(disch:=omega)only[go_sem]
 refine zA (fun h1=>?_) (fun h1=>?_)
 ·simp(disch:=omega)only[go_sem,h1,e2,f2,hu2,hvv2]
  refine⟨by omega,by omega,by omega,by omega,qe (fun h2=>?_) (fun h2=>?_)⟩
  ·simp(disch:=omega)only[go_sem,h2,f1,hvv1]
   have hst:=aoS hw hvv ⟨hx0,hx1⟩ ⟨hy0,hy1⟩ hW gv2.1 (by omega) hq.1 hqr2 (.inr h2)
   have hqp:0<q:=by
    rcases(by omega:0<q∨q=0)with h|h
    ·exact h
    ·subst h;omega
   have hm:(q-1)*v1+(r+v1)=top:=by rw[Int.sub_mul];omega
   refine⟨by omega,by omega,qe (fun h3=>?_) (fun h3=>?_)⟩
   ·simp(disch:=omega)only[go_sem,h3]
    have h4:q-1<65536:=by
     rcases(by omega:q-1<65536∨65536≤q-1)with h|h
     ·exact h
     ·have:=Int.mul_le_mul_of_nonneg_right h (show 0≤v1 by omega)
      omega
    have h5:(q-1)*v2≤(r+v1)*65536+u2:=by
     have:(q-1)*v2≤65535*65535:=Int.mul_le_mul (by omega) (by omega) gv2.1 (by omega)
     omega
    have h6:=ado hw hvv ⟨hx0,hx1⟩ ⟨hy0,hy1⟩ gv2.1 (by omega) ⟨by omega,h4⟩ hm h5
    exact qz (by simp(disch:=omega)only[go_sem]) (by simp(disch:=omega)only[go_sem]) ⟨q-1,rfl,rfl,rfl,⟨by omega,h4⟩,by rw[show q-1+1=q by omega];exact hst,h6⟩
   ·simp(disch:=omega)only[go_sem,h3]
    refine qc (q-1,r+v1) [] ⟨by show 0≤q-1∧q-1≤65537;omega,by show 0≤r+v1∧r+v1<65536;omega,hm,by show _<(q-1+1)*vl V;rw[show q-1+1=q by omega];exact hst⟩ (by show(q-1).toNat<q.toNat;omega) rfl (by simp(disch:=omega)only[go_sem];try omega) (by simp(disch:=omega)only[go_sem])
  ·simp(disch:=omega)only[go_sem,h2]
   have h6:=ado hw hvv ⟨hx0,hx1⟩ ⟨hy0,hy1⟩ gv2.1 (by omega) ⟨hq.1,by omega⟩ hqr2 (by omega)
   exact qz (by simp(disch:=omega)only[go_sem]) (by simp(disch:=omega)only[go_sem]) ⟨q,rfl,rfl,rfl,⟨hq.1,by omega⟩,hlt,h6⟩
 ·simp(disch:=omega)only[go_sem,h1,f1,hvv1]
  have hst:=aoS hw hvv ⟨hx0,hx1⟩ ⟨hy0,hy1⟩ hW gv2.1 (by omega) hq.1 hqr2 (.inl h1)
  have hqp:0<q:=by omega
  have hm:(q-1)*v1+(r+v1)=top:=by rw[Int.sub_mul];omega
  refine⟨by omega,by omega,qe (fun h3=>?_) (fun h3=>?_)⟩
  ·simp(disch:=omega)only[go_sem,h3]
   have h4:q-1<65536:=by
    rcases(by omega:q-1<65536∨65536≤q-1)with h|h
    ·exact h
    ·have:=Int.mul_le_mul_of_nonneg_right h (show 0≤v1 by omega)
     omega
   have h5:(q-1)*v2≤(r+v1)*65536+u2:=by
    have:(q-1)*v2≤65535*65535:=Int.mul_le_mul (by omega) (by omega) gv2.1 (by omega)
    omega
   have h6:=ado hw hvv ⟨hx0,hx1⟩ ⟨hy0,hy1⟩ gv2.1 (by omega) ⟨by omega,h4⟩ hm h5
   exact qz (by simp(disch:=omega)only[go_sem]) (by simp(disch:=omega)only[go_sem]) ⟨q-1,rfl,rfl,rfl,⟨by omega,h4⟩,by rw[show q-1+1=q by omega];exact hst,h6⟩
  ·simp(disch:=omega)only[go_sem,h3]
   refine qc (q-1,r+v1) [] ⟨by show 0≤q-1∧q-1≤65537;omega,by show 0≤r+v1∧r+v1<65536;omega,hm,by show _<(q-1+1)*vl V;rw[show q-1+1=q by omega];exact hst⟩ (by show(q-1).toNat<q.toNat;omega) rfl (by simp(disch:=omega)only[go_sem];try omega) (by simp(disch:=omega)only[go_sem])
end Go.Ab
namespace Go.Ab
open Go Go.Proofs
theorem KZ(U V:List Int)(j:Nat)(q:Int)(hU:gd U)(hV:gd V)(lU:U.length≤2000000)(hj:j+V.length<U.length)(hq:0≤q∧q<65536):
  Con Tryz.prog 297 false [.rf 10000000 0 U.length,.sl V.length (qb V),.v (.int .i64 j),.v (.int .i64 q)] [.own 1 (qb U)]
   (fun r hs bs=>∃(U':List Int) (bo:Int),r=.v (.bool (decide (U.getD (j+V.length) 0-bo<0)))∧hs=[]∧bs=[.own 1 (qb (U'.set (j+V.length) (U.getD (j+V.length) 0-bo)))]∧
    U'.length=U.length∧gd U'∧(0≤bo∧bo<65536)∧(∀t,t<j∨j+V.length≤t→U'.getD t 0=U.getD t 0)∧vl U'-65536^(j+V.length)*bo=vl U-65536^j*(q*vl V)):=by
 refine Con.of_aw Tryz.func297 rfl Tryz.ntmps297 (by simp) (by simp) (by simp) (W.sound ?_)
 show @W Tryz.prog 68 ⟨_⟩ ⟨fun x σ=>@q7 _ _ _ ⟨_⟩ _ ⟨_⟩ x σ⟩ _ _
 simp(disch:=omega)only[go_sem]
 refine qj (fun x:Nat×List Int×Int=>[(0,.rf 10000000 0 U.length),(1,.sl V.length (qb V)),(2,.v (.int .i64 j)),(3,.v (.int .i64 q)),(9,.v (.int .i64 x.2.2)),(13,.sl V.length (qb V)),(14,.v (.int .i64 V.length)),(15,.v (.int .i64 x.1))])
  (fun x=>[(10000000,.own 1 (qb x.2.1))])
  (fun x=>x.1≤V.length∧x.2.1.length=U.length∧gd x.2.1∧(0≤x.2.2∧x.2.2<65536)∧(∀t,t<j∨j+x.1≤t→x.2.1.getD t 0=U.getD t 0)∧vl x.2.1-65536^(j+x.1)*x.2.2=vl U-65536^j*(q*vl (V.take x.1)))
  (fun x=>V.length-x.1) (0,U,0) ⟨by simp,rfl,hU,by simp,fun _ _=>rfl,by simp[vl]⟩
  (Le.lst [] _ _ rfl (by simp(disch:=omega)only[go_sem];try omega) (by simp(disch:=omega)only[go_sem])) ?_
 rintro⟨i,U1,bo⟩ ⟨hi,hl1,hg1,hbo,hsame,hval⟩
 dsimp only at hi hl1 hg1 hbo hsame hval ⊢
 simp(disch:=omega)only[go_sem]
 refine qe (fun h1=>?_) (fun h1=>?_)
 ·have hx:=qH hV i
  have hu:=qH hg1 (j+i)
  have hqx:0≤q*V.getD i 0∧q*V.getD i 0≤65535*65535:=⟨Int.mul_nonneg hq.1 hx.1,Int.mul_le_mul (by omega) (by omega) hx.1 (by omega)⟩
  have e1:((j:Int)+(i:Int)).toNat=j+i:=by omega
  have hstep:∀d b:Int,d-65536*b=U1.getD (j+i) 0-q*V.getD i 0-bo→vl (U1.set (j+i) d)-65536^(j+(i+1))*b=vl U-65536^j*(q*vl (V.take (i+1))):=by
   intro d b hd
   rw[QI (by omega),qO,←Nat.add_assoc,Int.pow_succ]
   have e3:(65536:Int)^(j+i)=65536^j*65536^i:=Int.pow_add _ _ _
   rw[e3]at hval ⊢
   generalize (65536:Int)^i=Pi at*
   generalize (65536:Int)^j=Pj at*
   grind
  have hsm:∀d:Int,∀t,t<j∨j+(i+1)≤t→(U1.set (j+i) d).getD t 0=U.getD t 0:=fun d t ht=>by
   rw[jj (by omega),if_neg (by omega)];exact hsame t (by omega)
  simp(disch:=omega)only[go_sem,h1,e1]
  refine⟨by omega,by omega,by omega,by omega,qe (fun h2=>?_) (fun h2=>?_)⟩
  ·simp(disch:=omega)only[go_sem,h2,e1]
   generalize hb:(0-(U1.getD (j+i) 0-q*V.getD i 0-bo)+65536-1)/65536=b
   refine⟨by omega,by omega,qc (i+1,U1.set (j+i) (U1.getD (j+i) 0-q*V.getD i 0-bo+b*65536),b) [] ⟨by show i+1≤_;omega,by simp[hl1],yE hg1 (by omega),by show 0≤b∧b<65536;omega,hsm _,hstep (U1.getD (j+i) 0-q*V.getD i 0-bo+b*65536) b (by omega)⟩
    (by show V.length-(i+1)<V.length-i;omega) rfl (by simp(disch:=omega)only[go_sem];try omega) (by simp(disch:=omega)only[go_sem])⟩
  ·simp(disch:=omega)only[go_sem,h2,e1]
   refine⟨by omega,by omega,qc (i+1,U1.set (j+i) (U1.getD (j+i) 0-q*V.getD i 0-bo),0) [] ⟨by show i+1≤_;omega,by simp[hl1],yE hg1 (by omega),by simp,hsm _,hstep (U1.getD (j+i) 0-q*V.getD i 0-bo) 0 (by omega)⟩
    (by show V.length-(i+1)<V.length-i;omega) rfl (by simp(disch:=omega)only[go_sem];try omega) (by simp(disch:=omega)only[go_sem])⟩
 ·have hiA:i=V.length:=by omega
  subst hiA
  rw[List.take_length]at hval
  have e1:((j:Int)+(V.length:Int)).toNat=j+V.length:=by omega
  have hu:=qH hg1 (j+V.length)
  have es:=hsame (j+V.length) (by omega)
  have eg:(U1.set (j+V.length) (U.getD (j+V.length) 0-bo)).getD (j+V.length) 0=U.getD (j+V.length) 0-bo:=by rw[jj (by omega),if_pos rfl]
  simp(disch:=omega)only[go_sem,h1,e1,es]
  refine⟨by omega,by omega,by omega,by omega,by omega,by simp;omega,?_⟩
  simp(disch:=omega)only[go_sem,eg]
  refine qg [] [] [.own 1 (qb (U1.set (j+V.length) (U.getD (j+V.length) 0-bo)))] [.v (.bool (decide (U.getD (j+V.length) 0-bo<0)))] rfl (by simp(disch:=omega)only[go_sem]) (by simp(disch:=omega)only[go_sem]) (by simp) (by simp) ⟨U1,bo,rfl,rfl,rfl,hl1,hg1,hbo,hsame,hval⟩
theorem adU(U V:List Int)(j:Nat)(hU:∀t,t≠j+V.length→0≤U.getD t 0∧U.getD t 0<65536)(hUt: -65536≤U.getD (j+V.length) 0∧U.getD (j+V.length) 0<65536)(hV:gd V)(lU:U.length≤2000000)(hj:j+V.length<U.length):
  Con Tryz.prog 298 false [.rf 10000000 0 U.length,.sl V.length (qb V),.v (.int .i64 j)] [.own 1 (qb U)]
   (fun r hs bs=>∃(U':List Int),r=.tu []∧hs=[]∧bs=[.own 1 (qb U')]∧
    U'.length=U.length∧(∀t,t≠j+V.length→0≤U'.getD t 0∧U'.getD t 0<65536)∧(∀t,t<j∨j+V.length<t→U'.getD t 0=U.getD t 0)∧vl U'=vl U+65536^j*vl V):=by
 refine Con.of_aw Tryz.func298 rfl Tryz.ntmps298 (by simp) (by simp) (by simp) (W.sound ?_)
 show @W Tryz.prog 46 ⟨_⟩ ⟨fun x σ=>@q7 _ _ _ ⟨_⟩ _ ⟨_⟩ x σ⟩ _ _
 simp(disch:=omega)only[go_sem]
 refine qj (fun x:Nat×List Int×Int=>[(0,.rf 10000000 0 U.length),(1,.sl V.length (qb V)),(2,.v (.int .i64 j)),(6,.v (.int .i64 x.2.2)),(9,.sl V.length (qb V)),(10,.v (.int .i64 V.length)),(11,.v (.int .i64 x.1))])
  (fun x=>[(10000000,.own 1 (qb x.2.1))])
  (fun x=>x.1≤V.length∧x.2.1.length=U.length∧(∀t,t≠j+V.length→0≤x.2.1.getD t 0∧x.2.1.getD t 0<65536)∧(0≤x.2.2∧x.2.2≤1)∧(∀t,t<j∨j+x.1≤t→x.2.1.getD t 0=U.getD t 0)∧vl x.2.1+65536^(j+x.1)*x.2.2=vl U+65536^j*vl (V.take x.1))
  (fun x=>V.length-x.1) (0,U,0) ⟨by simp,rfl,hU,by simp,fun _ _=>rfl,by simp[vl]⟩
  (Le.lst [] _ _ rfl (by simp(disch:=omega)only[go_sem];try omega) (by simp(disch:=omega)only[go_sem])) ?_
 rintro⟨i,U1,cy⟩ ⟨hi,hl1,hg1,hcy,hsame,hval⟩
 dsimp only at hi hl1 hg1 hcy hsame hval ⊢
 simp(disch:=omega)only[go_sem]
 refine qe (fun h1=>?_) (fun h1=>?_)
 ·have hx:=qH hV i
  have hu:=hg1 (j+i) (by omega)
  have e1:((j:Int)+(i:Int)).toNat=j+i:=by omega
  simp(disch:=omega)only[go_sem,h1,e1]
  generalize hb:cy+(U1.getD (j+i) 0+V.getD i 0)=b
  have hg2:∀t,t≠j+V.length→0≤(U1.set (j+i) (b % 65536)).getD t 0∧(U1.set (j+i) (b % 65536)).getD t 0<65536:=fun t ht=>by
   rw[jj (by omega)]
   split
   ·omega
   ·exact hg1 t ht
  refine⟨by omega,by omega,by omega,by omega,by omega,by omega,qc (i+1,U1.set (j+i) (b % 65536),b/65536) [] ⟨by show i+1≤_;omega,by simp[hl1],hg2,by show 0≤b/65536∧b/65536≤1;omega,fun t ht=>?_,?_⟩
   (by show V.length-(i+1)<V.length-i;omega) rfl (by simp(disch:=omega)only[go_sem];try omega) (by simp(disch:=omega)only[go_sem])⟩
  ·show(U1.set (j+i) (b % 65536)).getD t 0=_
   have ht:t<j∨j+(i+1)≤t:=ht
   rw[jj (by omega),if_neg (by omega)];exact hsame t (by omega)
  ·show vl (U1.set (j+i) (b % 65536))+65536^(j+(i+1))*(b/65536)=vl U+65536^j*vl (V.take (i+1))
   rw[QI (by omega),qO,←Nat.add_assoc,Int.pow_succ]
   have e3:(65536:Int)^(j+i)=65536^j*65536^i:=Int.pow_add _ _ _
   have e4:b % 65536+65536*(b/65536)=b:=Int.emod_add_mul_ediv b 65536
   rw[e3]at hval ⊢
   generalize (65536:Int)^i=Pi at*
   generalize (65536:Int)^j=Pj at*
   grind
 ·have hiA:i=V.length:=by omega
  subst hiA
  rw[List.take_length]at hval
  have e1:((j:Int)+(V.length:Int)).toNat=j+V.length:=by omega
  have es:=hsame (j+V.length) (by omega)
  simp(disch:=omega)only[go_sem,h1,e1,es]
  refine⟨by omega,by omega,by omega,by omega,?_⟩
  refine qg [] [] [.own 1 (qb (U1.set (j+V.length) (U.getD (j+V.length) 0+cy)))] [] rfl (by simp(disch:=omega)only[go_sem]) (by simp(disch:=omega)only[go_sem]) (by simp) (by simp) ⟨_,rfl,rfl,rfl,by simp[hl1],fun t ht=>?_,fun t ht=>?_,?_⟩
  ·rw[jj (by omega),if_neg ht];exact hg1 t ht
  ·rw[jj (by omega),if_neg (by omega)];exact hsame t (by omega)
  ·rw[QI (by omega),es]
   generalize (65536:Int)^(j+V.length)=Pj at*
   grind
end Go.Ab
namespace Go.Ab
open Go Go.Proofs
theorem jk(xs:List Int)(hl:xs.length≤2^40):Con Tryz.prog 254 false [.rf 10000000 0 xs.length] [.own 1 (qb xs)] (fun r hs bs=>r=.rf 10000000 0 (ZX xs).length∧hs=[]∧bs=[.own 1 (qb xs)]):=by
 refine Con.of_aw Tryz.func254 rfl Tryz.ntmps254 (by simp) (by simp) (by simp) (W.sound ?_)
 show @W Tryz.prog 21 ⟨_⟩ ⟨fun x σ=>@q7 _ _ _ ⟨_⟩ _ ⟨_⟩ x σ⟩ _ _
 simp(disch:=omega)only[go_sem]
 refine qj (fun m:Nat=>[(0,.rf 10000000 0 m)]) (fun _=>[(10000000,.own 1 (qb xs))]) (fun m=>m≤xs.length∧ZX (xs.take m)=ZX xs) id xs.length ⟨Nat.le_refl _,by simp⟩
  (Le.lst [] _ _ rfl (by simp(disch:=omega)only[go_sem];try omega) (by simp(disch:=omega)only[go_sem])) ?_
 intro m ⟨hm,hx⟩
 have hmx:∀k,k+1=m→xs.take m=xs.take k++[xs.getD k 0]:=fun k hk=>by rw[←hk];exact jH (by omega)
 simp(disch:=omega)only[go_sem]
 refine qe (fun h1=>?_) (fun h1=>?_)
 ·obtain⟨k,rfl⟩:∃k,m=k+1:=⟨m-1,by omega⟩
  have e1:((k+1:Nat):Int)-1=(k:Nat):=by omega
  rw[hmx k rfl]at hx
  simp(disch:=omega)only[go_sem,h1,e1]
  refine⟨by omega,by omega,qe (fun h2=>?_) (fun h2=>?_)⟩
  ·simp(disch:=omega)only[go_sem,h2,e1]
   rw[h2,Qg]at hx
   refine⟨by omega,qc k [] ⟨by omega,hx⟩ (by show k<k+1;omega) rfl (by simp(disch:=omega)only[go_sem];try omega) (by simp(disch:=omega)only[go_sem])⟩
  ·simp(disch:=omega)only[go_sem,h2]
   refine qg [] [] [.own 1 (qb xs)] [.rf 10000000 0 (k+1)] rfl (by simp(disch:=omega)only[go_sem]) (by simp(disch:=omega)only[go_sem]) (by simp) (by simp) ⟨?_,rfl,rfl⟩
   rw[YA _ h2,←hmx k rfl]at hx
   rw[←hx,List.length_take,Nat.min_eq_left hm];rfl
 ·simp(disch:=omega)only[go_sem,h1]
  refine qg [] [] [.own 1 (qb xs)] [.rf 10000000 0 m] rfl (by simp(disch:=omega)only[go_sem]) (by simp(disch:=omega)only[go_sem]) (by simp) (by simp) ⟨?_,rfl,rfl⟩
  have:m=0:=by omega
  subst this
  rw[←hx];rfl
end Go.Ab
namespace Go.Ab
open Go Go.Proofs
theorem aoH{x y:Int}(hx:0≤x∧x<65536)(hy:0≤y∧y<65536):0≤x*y∧x*y≤4294836225:=by
 have h1:=Int.mul_nonneg hx.1 hy.1
 have h2:x*y≤65535*65535:=Int.mul_le_mul (by omega) (by omega) hy.1 (by omega)
 omega
theorem apD(cl:Bool)(A B:List Int)(hA:gd A)(hB:gd B)(lA:A.length≤1000000)(lB:B.length≤1000000):
  Con Tryz.prog 218 cl [.sl A.length (qb A),.sl B.length (qb B)] [] (aq2 (lim (vl A*vl B).toNat)):=by
 refine Con.of_aw Tryz.func218 rfl Tryz.ntmps218 (by simp) (by simp) (by simp) (W.sound ?_)
 show @W Tryz.prog 63 ⟨_⟩ ⟨fun x σ=>@q7 _ _ _ ⟨_⟩ _ ⟨_⟩ x σ⟩ _ _
 simp(disch:=omega)only[go_sem]
 refine⟨⟨by omega,by omega,by omega⟩,?_⟩
 refine qj (fun x:Nat×List Int=>[(1,.sl B.length (qb B)),(5,.rf 180000000 0 (A.length+B.length)),(17,.sl A.length (qb A)),(18,.v (.int .i64 A.length)),(19,.v (.int .i64 x.1))])
  (fun x=>[(180000000,.own 1 (qb x.2))])
  (fun x=>x.1≤A.length∧x.2.length=A.length+B.length∧gd x.2∧vl x.2=vl (A.take x.1)*vl B∧∀j,x.1+B.length≤j→x.2.getD j 0=0)
  (fun x=>A.length-x.1) (0,List.replicate (A.length+B.length) 0) ⟨by simp,by simp,zj _,by simp[zI,vl],fun j _=>by
   rw[List.getD_eq_getElem?_getD,List.getElem?_replicate];split<;>rfl⟩
  (Le.lst [] _ _ rfl (by simp(disch:=omega)only[go_sem];try omega) (by simp(disch:=omega)only[go_sem,show((A.length:Int)+(B.length:Int)).toNat=A.length+B.length by omega])) ?_
 rintro⟨i,out⟩ ⟨hi,hol,hog,hov,hoz⟩
 dsimp only at hi hol hog hov hoz ⊢
 simp(disch:=omega)only[go_sem]
 refine qe (fun h1=>?_) (fun h1=>?_)
 ·have hx:=qH hA i
  simp(disch:=omega)only[go_sem,h1]
  refine⟨by omega,by omega,?_⟩
  refine qj (fun x:Nat×List Int×Int=>[(1,.sl B.length (qb B)),(5,.rf 180000000 0 (A.length+B.length)),(17,.sl A.length (qb A)),(18,.v (.int .i64 A.length)),(19,.v (.int .i64 i)),(6,.v (.int .i64 i)),
    (7,.v (.int .i64 (A.getD i 0))),(8,.v (.int .i64 x.2.2)),(24,.sl B.length (qb B)),(25,.v (.int .i64 B.length)),(26,.v (.int .i64 x.1))])
   (fun x=>[(180000000,.own 1 (qb x.2.1))])
   (fun x=>x.1≤B.length∧x.2.1.length=A.length+B.length∧gd x.2.1∧(0≤x.2.2∧x.2.2<65536)∧vl x.2.1+65536^(i+x.1)*x.2.2=vl out+65536^i*(A.getD i 0*vl (B.take x.1))∧∀j,i+B.length≤j→x.2.1.getD j 0=0)
   (fun x=>B.length-x.1) (0,out,0) ⟨by simp,hol,hog,by simp,by simp[vl],hoz⟩
   (Le.lst [] _ _ rfl (by simp(disch:=omega)only[go_sem];try omega) (by simp(disch:=omega)only[go_sem])) ?_
  rintro⟨j,o2,cy⟩ ⟨hj,hol2,hog2,hcy,hov2,hoz2⟩
  dsimp only at hj hol2 hog2 hcy hov2 hoz2 ⊢
  simp(disch:=omega)only[go_sem]
  refine qe (fun h2=>?_) (fun h2=>?_)
  ·have hy:=qH hB j
   have ho:=qH hog2 (i+j)
   have hxy:=aoH hx hy
   have e1:((i:Int)+(j:Int)).toNat=i+j:=by omega
   simp(disch:=omega)only[go_sem,h2,e1]
   generalize hq:cy+(o2.getD (i+j) 0+A.getD i 0*B.getD j 0)=q
   refine⟨by omega,by omega,by omega,by omega,by omega,by omega,qc (j+1,o2.set (i+j) (q % 65536),q/65536) [] ⟨by show j+1≤_;omega,by simp[hol2],yE hog2 (by omega),by show 0≤q/65536∧q/65536<65536;omega,?_,fun k hk=>?_⟩
    (by show B.length-(j+1)<B.length-j;omega) rfl (by simp(disch:=omega)only[go_sem];try omega) (by simp(disch:=omega)only[go_sem])⟩
   ·show vl (o2.set (i+j) (q % 65536))+65536^(i+(j+1))*(q/65536)=vl out+65536^i*(A.getD i 0*vl (B.take (j+1)))
    rw[QI (by omega),zZ (by omega),←Nat.add_assoc,Int.pow_succ]
    have e2:(65536:Int)^(i+j)=65536^i*65536^j:=Int.pow_add _ _ _
    have e3:q % 65536+65536*(q/65536)=q:=Int.emod_add_mul_ediv q 65536
    rw[e2]at hov2 ⊢
    generalize (65536:Int)^i=Pi at*
    generalize (65536:Int)^j=Pj at*
    grind
   ·show(o2.set (i+j) (q % 65536)).getD k 0=0
    rw[List.getD_eq_getElem?_getD,List.getElem?_set_ne (by omega),←List.getD_eq_getElem?_getD]
    exact hoz2 k hk
  ·simp(disch:=omega)only[go_sem,h2]
   have e1:((i:Int)+(B.length:Int)).toNat=i+B.length:=by omega
   have hjB:j=B.length:=by omega
   subst hjB
   rw[List.take_length]at hov2
   simp(disch:=omega)only[go_sem,e1]
   refine⟨by omega,by omega,qc (i+1,o2.set (i+B.length) cy) [] ⟨by show i+1≤_;omega,by simp[hol2],yE hog2 hcy,?_,fun k hk=>?_⟩ (by show A.length-(i+1)<A.length-i;omega) rfl (by simp(disch:=omega)only[go_sem];try omega) (by simp(disch:=omega)only[go_sem])⟩
   ·show vl (o2.set (i+B.length) cy)=vl (A.take (i+1))*vl B
    rw[QI (by omega),hoz2 _ (Nat.le_refl _),zZ (by omega)]
    generalize (65536:Int)^i=Pi at*
    grind
   ·show(o2.set (i+B.length) cy).getD k 0=0
    rw[List.getD_eq_getElem?_getD,List.getElem?_set_ne (by show i+B.length≠k;omega),←List.getD_eq_getElem?_getD]
    exact hoz2 k (by omega)
 ·simp(disch:=omega)only[go_sem,h1]
  have hiA:i=A.length:=by omega
  subst hiA
  rw[List.take_length]at hov
  refine q9 false [180000000] (jk out (by omega)) (by rw[←hol];simp(disch:=omega)only[go_sem]) (by simp(disch:=omega)only[go_sem]) rfl (qR (z:=1) (cs:=qb out) (by simp(disch:=omega)only[go_sem]) (by simp(disch:=omega)only[go_sem])) (by intro n hn;exact⟨_,List.mem_singleton.2 rfl,by rw[List.mem_singleton.1 hn];rfl⟩) ?_
  rintro r hs bs ⟨rfl,rfl,rfl⟩ _
  refine⟨by simp[qM],?_⟩
  simp(disch:=omega)only[go_sem]
  obtain⟨z,hz⟩:=zG out
  have hc:=zX hog
  rw[hov]at hc
  rw[hc]at hz ⊢
  refine qg [(0,180000000)] [.own 1 (qb out)] [] [.rf 0 0 (lim (vl A*vl B).toNat).length] rfl (by simp(disch:=omega)only[go_sem]) (by simp(disch:=omega)only[go_sem]) (by simp) (by intro _;simp[zh,AV.pu,AV.pu.puL,Ob.pu,qV]) (.inr ⟨List.replicate z 0,rfl,by rw[←hz]⟩)
end Go.Ab
namespace Go.Ab
open Go Go.Proofs
theorem apI(cl:Bool)(n:Nat)(hn:n<2^63):Con Tryz.prog 189 cl [.v (.int .i64 n)] [] (aq2 (lim n)):=by
 refine Con.of_aw Tryz.func189 rfl Tryz.ntmps189 (by simp) (by simp) (by simp) (W.sound ?_)
 show @W Tryz.prog 14 ⟨_⟩ ⟨fun x σ=>@q7 _ _ _ ⟨_⟩ _ ⟨_⟩ x σ⟩ _ _
 simp(disch:=omega)only[go_sem]
 refine qj (fun x:Nat×List Int=>[(0,.v (.int .i64 x.1)),(3,.rf 1 0 x.2.length)]) (fun x=>[(1,.own 1 (qb x.2))]) (fun x=>x.1<2^63∧x.2++lim x.1=lim n) (fun x=>x.1) (n,[]) ⟨hn,rfl⟩
  ((Le.ghost 3 1 1 (by simp(disch:=omega)only[go_sem]) (by simp(disch:=omega)only[go_sem])).trans (Le.lst [] _ _ rfl (by simp(disch:=omega)only[go_sem]) (by simp(disch:=omega)only[go_sem]))) ?_
 rintro⟨k,l⟩ ⟨hk,hl⟩
 dsimp only at hk hl ⊢
 have hlen:l.length≤4:=by
  have h1:=congrArg List.length hl
  have h2:=jC (n:=n) (k:=4) |>.2 (by omega)
  rw[List.length_append]at h1;omega
 simp(disch:=omega)only[go_sem]
 refine qe (fun h1=>?_) (fun h1=>?_)
 ·simp(disch:=omega)only[go_sem,h1]
  have hk0:k≠0:=by omega
  refine⟨by omega,qc (k/65536,l++[(k:Int) % 65536]) [(1,140000000)] ⟨by show k/65536<2^63;omega,?_⟩ (by show k/65536<k;omega) rfl (by simp(disch:=omega)only[go_sem,List.length_append];omega) (by simp(disch:=omega)only[go_sem])⟩
  rw[jY hk0]at hl
  rw[←hl,List.append_assoc];rfl
 ·simp(disch:=omega)only[go_sem,h1]
  have hk0:k=0:=by omega
  subst hk0
  rw[qm,List.append_nil]at hl
  subst hl
  refine qg [(0,1)] [.own 1 (qb (lim n++[]))] [] [.rf 0 0 (lim n).length] rfl (by simp(disch:=omega)only[go_sem]) (by simp(disch:=omega)only[go_sem]) (by simp) (by intro _;simp[zh,AV.pu,AV.pu.puL,Ob.pu,qV]) (.inr ⟨[],rfl,rfl⟩)
end Go.Ab
namespace Go.Ab
open Go Go.Proofs
theorem yb(k:Nat)(h:k<16):(0:Int)<2^k∧(2:Int)^k≤32768:=by
 have:∀k,k<16→(0:Int)<2^k∧(2:Int)^k≤32768:=by decide
 exact this k h
theorem aoG{x:Int}(hx:0≤x∧x<65536){k:Nat}(hk:k<16):0≤x*2^k∧x*2^k≤2147450880:=by
 obtain⟨h1,h2⟩:=yb k hk
 have h3:=Int.mul_nonneg hx.1 (Int.le_of_lt h1)
 have h4:x*2^k≤65535*32768:=Int.mul_le_mul (by omega) h2 (by omega) (by omega)
 omega
theorem Ku(k:Nat):(65536:Int)^(k/16)*2^(k % 16)=2^k:=by
 have e:(65536:Int)=2^16:=by decide
 rw[e,←Int.pow_mul,←Int.pow_add,Nat.div_add_mod]
theorem aSR(cl:Bool)(A:List Int)(k:Nat)(hA:gd A)(lA:A.length≤1000000)(hk:k≤100000000):
  Con Tryz.prog 195 cl [.sl A.length (qb A),.v (.int .i64 k)] [] (aq2 (lim (vl A*2^k).toNat)):=by
 refine Con.of_aw Tryz.func195 rfl Tryz.ntmps195 (by simp) (by simp) (by simp) (W.sound ?_)
 show @W Tryz.prog 46 ⟨_⟩ ⟨fun x σ=>@q7 _ _ _ ⟨_⟩ _ ⟨_⟩ x σ⟩ _ _
 simp(disch:=omega)only[go_sem]
 refine qe (fun h0=>?_) (fun h0=>?_)
 ·simp(disch:=omega)only[go_sem,h0]
  have:A=[]:=List.length_eq_zero_iff.1 (by omega)
  subst this
  refine qg [] [] [] [.v (.slice none 0 0)] rfl (by simp(disch:=omega)only[go_sem]) (by simp(disch:=omega)only[go_sem]) (by simp) (by intro _;simp[zh,AV.pu,AV.pu.puL,Ob.pu,qV]) (.inl ⟨by simp[vl,qm],rfl,rfl⟩)
 ·simp(disch:=omega)only[go_sem,h0]
  refine⟨by omega,?_⟩
  have e16:((k:Int)/16).toNat=k/16:=by omega
  refine qj (fun x:Nat×List Int×Int=>[(1,.v (.int .i64 k)),(5,.rf 1 0 x.2.1.length),(6,.v (.int .i64 x.2.2)),(21,.sl A.length (qb A)),(22,.v (.int .i64 A.length)),(23,.v (.int .i64 x.1))])
   (fun x=>[(1,.own 1 (qb x.2.1))])
   (fun x=>x.1≤A.length∧x.2.1.length=k/16+x.1∧gd x.2.1∧(0≤x.2.2∧x.2.2<65536)∧vl x.2.1+65536^(k/16+x.1)*x.2.2=65536^(k/16)*2^(k % 16)*vl (A.take x.1))
   (fun x=>A.length-x.1) (0,List.replicate (k/16) 0,0) ⟨by simp,by simp,zj _,by simp,by simp[vl,zI]⟩
   (Le.lst [(1,220000000)] _ _ rfl (by simp(disch:=omega)only[go_sem,List.length_replicate,e16]) (by simp(disch:=omega)only[go_sem,e16])) ?_
  rintro⟨i,out,cy⟩ ⟨hi,hol,hog,hcy,hov⟩
  dsimp only at hi hol hog hcy hov ⊢
  simp(disch:=omega)only[go_sem]
  refine qe (fun h1=>?_) (fun h1=>?_)
  ·have hx:=qH hA i
   have hxs:=aoG hx (show k % 16<16 by omega)
   have em:min ((k:Int) % 16).toNat 64=k % 16:=by omega
   simp(disch:=omega)only[go_sem,h1,em]
   generalize hq:cy+A.getD i 0*2^(k % 16)=q
   refine⟨by omega,by omega,by omega,by omega,qc (i+1,out++[q % 65536],q/65536) [(1,390000000)] ⟨by show i+1≤_;omega,by simp[hol];omega,qD.2 ⟨hog,zN.2 (by omega)⟩,by show 0≤q/65536∧q/65536<65536;omega,?_⟩ (by show A.length-(i+1)<A.length-i;omega) rfl (by simp(disch:=omega)only[go_sem,List.length_append];try omega) (by simp(disch:=omega)only[go_sem])⟩
   show vl (out++[q % 65536])+65536^(k/16+(i+1))*(q/65536)=65536^(k/16)*2^(k % 16)*vl (A.take (i+1))
   rw[jn,qO,hol,←Nat.add_assoc,Int.pow_succ]
   have e3:q % 65536+65536*(q/65536)=q:=Int.emod_add_mul_ediv q 65536
   rw[Int.pow_add]at hov ⊢
   generalize (65536:Int)^i=Pi at*
   generalize (65536:Int)^(k/16)=Pk at*
   generalize (2:Int)^(k % 16)=Pm at*
   grind
  ·simp(disch:=omega)only[go_sem,h1]
   have hiA:i=A.length:=by omega
   subst hiA
   rw[List.take_length,Ku]at hov
   have hov2:vl (out++[cy])=vl A*2^k:=by rw[jn,hol,hov];grind
   have hog2:gd (out++[cy]):=qD.2 ⟨hog,zN.2 hcy⟩
   refine⟨by omega,?_⟩
   have hl2:out.length+1=(out++[cy]).length:=by simp
   rw[hl2]
   refine q9 false [460000000] (jk (out++[cy]) (by simp;omega)) (by simp(disch:=omega)only[go_sem]) (by simp(disch:=omega)only[go_sem]) rfl (qR (z:=1) (cs:=qb (out++[cy])) (by simp(disch:=omega)only[go_sem]) (by simp(disch:=omega)only[go_sem])) (by intro n hn;exact⟨_,List.mem_singleton.2 rfl,by rw[List.mem_singleton.1 hn];rfl⟩) ?_
   rintro r hs bs ⟨rfl,rfl,rfl⟩ _
   refine⟨by simp[qM],?_⟩
   simp(disch:=omega)only[go_sem]
   obtain⟨z,hz⟩:=zG (out++[cy])
   have hc:=zX hog2
   rw[hov2]at hc
   rw[hc]at hz ⊢
   refine qg [(0,460000000)] [.own 1 (qb (out++[cy]))] [] [.rf 0 0 (lim (vl A*2^k).toNat).length] rfl (by simp(disch:=omega)only[go_sem]) (by simp(disch:=omega)only[go_sem]) (by simp) (by intro _;simp[zh,AV.pu,AV.pu.puL,Ob.pu,qV]) (.inr ⟨List.replicate z 0,rfl,by rw[←hz]⟩)
end Go.Ab
namespace Go.Ab
open Go Go.Proofs
theorem aBc(V P:Int)(hP:0<P):V % (P*65536)=V % P+P*(V/P % 65536):=by
 rw[Int.emod_def,Int.emod_def,Int.emod_def,←Int.ediv_ediv_of_nonneg (Int.le_of_lt hP)]
 grind
theorem aAE{s:Nat}(hs:s<16):(65536:Int)=2^s*2^(16-s):=by
 rw[←Int.pow_add,show s+(16-s)=16 by omega];decide
theorem ai9{D:List Int}(hD:gd D){i s:Nat}(hi:i<D.length)(hs:s<16):
  (vl D/2^s)/65536^i % 65536=(D.getD i 0+D.getD (i+1) 0*65536)/2^s % 65536:=by
 have h2:=(yb s hs).1
 rw[Int.ediv_ediv_of_nonneg (Int.le_of_lt h2),Int.mul_comm,←Int.ediv_ediv_of_nonneg (Int.le_of_lt (Int.pow_pos (by omega))),aeb hD (by omega),zz hi]
 have h3:vl (D.drop (i+1))=D.getD (i+1) 0+65536*vl (D.drop (i+2)):=by
  rcases Nat.lt_or_ge (i+1) D.length with h|h
  ·exact zz h
  ·rw[List.drop_of_length_le h,List.drop_of_length_le (by omega),List.getD_eq_getElem?_getD,List.getElem?_eq_none h];simp[vl]
 rw[h3]
 have e:D.getD i 0+65536*(D.getD (i+1) 0+65536*vl (D.drop (i+2)))=(D.getD i 0+D.getD (i+1) 0*65536)+2^s*(65536*(2^(16-s)*vl (D.drop (i+2)))):=by
  have:=aAE hs
  generalize (2:Int)^s=a at*
  generalize (2:Int)^(16-s)=b at*
  grind
 rw[e,Int.add_mul_ediv_left _ _ (by omega),Int.add_mul_emod_self_left]
theorem aon{a b:Nat}(h:a≤b):(65536:Int)^a≤65536^b:=by
 obtain⟨d,rfl⟩:=Nat.exists_eq_add_of_le h
 have h1:(0:Int)<65536^a:=Int.pow_pos (by omega)
 have h2:(0:Int)<65536^d:=Int.pow_pos (by omega)
 have h3:=Int.mul_le_mul_of_nonneg_left (show(1:Int)≤65536^d by omega) (Int.le_of_lt h1)
 rw[Int.mul_one,←Int.pow_add]at h3
 exact h3
theorem aCu(cl:Bool)(A:List Int)(k:Nat)(hA:gd A)(lA:A.length≤1000000)(hk:k≤100000000):
  Con Tryz.prog 216 cl [.sl A.length (qb A),.v (.int .i64 k)] [] (aq2 (lim (vl A/2^k).toNat)):=by
 refine Con.of_aw Tryz.func216 rfl Tryz.ntmps216 (by simp) (by simp) (by simp) (W.sound ?_)
 show @W Tryz.prog 52 ⟨_⟩ ⟨fun x σ=>@q7 _ _ _ ⟨_⟩ _ ⟨_⟩ x σ⟩ _ _
 have hvk:vl A/2^k=vl A/65536^(k/16)/2^(k % 16):=by
  rw[Int.ediv_ediv_of_nonneg (Int.le_of_lt (Int.pow_pos (by omega))),Ku]
 simp(disch:=omega)only[go_sem]
 refine qe (fun h0=>?_) (fun h0=>?_)
 ·simp(disch:=omega)only[go_sem,h0]
  have hz:vl A/2^k=0:=by
   rw[hvk,Int.ediv_eq_zero_of_lt (qQ hA)]
   ·simp
   ·refine Int.lt_of_lt_of_le (Ql hA) ?_
    exact aon (by omega)
  rw[hz]
  refine qg [] [] [] [.v (.slice none 0 0)] rfl (by simp(disch:=omega)only[go_sem]) (by simp(disch:=omega)only[go_sem]) (by simp) (by intro _;simp[zh,AV.pu,AV.pu.puL,Ob.pu,qV]) (.inl ⟨by simp[qm],rfl,rfl⟩)
 ·have e16:((k:Int)/16).toNat=k/16:=by omega
  have e17:((A.length:Int)-(k:Int)/16).toNat=(A.drop (k/16)).length:=by simp;omega
  have e18:(A.drop (k/16)).take (A.drop (k/16)).length=A.drop (k/16):=List.take_length
  have hvD:=aeb hA (i:=k/16) (by omega)
  have hlD:(A.drop (k/16)).length≤1000000:=by simp;omega
  have hD:=yf hA (k/16)
  simp(disch:=omega)only[go_sem,h0,e16,e17,e18]
  generalize A.drop (k/16)=D at*
  refine⟨by omega,by omega,?_⟩
  refine qj (fun x:Nat×List Int=>[(1,.v (.int .i64 k)),(5,.sl D.length (qb D)),(6,.rf 1 0 x.2.length),(21,.sl D.length (qb D)),(22,.v (.int .i64 D.length)),(23,.v (.int .i64 x.1))])
   (fun x=>[(1,.own 1 (qb x.2))])
   (fun x=>x.1≤D.length∧x.2.length=x.1∧gd x.2∧vl x.2=vl D/2^(k % 16) % 65536^x.1)
   (fun x=>D.length-x.1) (0,[]) ⟨by simp,rfl,ZP,by simp[vl]⟩
   (Le.lst [(1,220000000)] _ _ rfl (by simp(disch:=omega)only[go_sem]) (by simp(disch:=omega)only[go_sem])) ?_
  rintro⟨i,out⟩ ⟨hi,hol,hog,hov⟩
  dsimp only at hi hol hog hov ⊢
  simp(disch:=omega)only[go_sem]
  refine qe (fun h1=>?_) (fun h1=>?_)
  ·have hx:=qH hD i
   have hy:=qH hD (i+1)
   have em:min ((k:Int) % 16).toNat 64=k % 16:=by omega
   have hm:=yb (k % 16) (by omega)
   have efd:∀x:Int,x.fdiv (2^(k % 16))=x/2^(k % 16):=fun x=>Int.fdiv_eq_ediv_of_nonneg _ (Int.le_of_lt hm.1)
   have hdig:=ai9 hD (i:=i) (s:=k % 16) (by omega) (by omega)
   have hnn:∀x:Int,0≤x→0≤x/2^(k % 16):=fun x hx=>Int.ediv_nonneg hx (Int.le_of_lt hm.1)
   have ei:((i:Int)+1).toNat=i+1:=by omega
   have hstep:∀z:Int,z=(D.getD i 0+D.getD (i+1) 0*65536)/2^(k % 16) % 65536→vl (out++[z])=vl D/2^(k % 16) % 65536^(i+1):=by
    intro z hz
    rw[jn,hov,hol,Int.pow_succ,aBc _ _ (Int.pow_pos (by omega)),hdig,hz]
   simp(disch:=omega)only[go_sem,h1]
   refine⟨by omega,by omega,qe (fun h2=>?_) (fun h2=>?_)⟩
   ·have hn1:=hnn (D.getD i 0+D.getD (i+1) 0*65536) (by omega)
    simp(disch:=omega)only[go_sem,h2,em,efd,ei]
    refine⟨by omega,by omega,by omega,by omega,qc (i+1,out++[(D.getD i 0+D.getD (i+1) 0*65536)/2^(k % 16) % 65536]) [(1,500000000)] ⟨by show i+1≤_;omega,by simp[hol],qD.2 ⟨hog,zN.2 (by omega)⟩,hstep _ rfl⟩ (by show D.length-(i+1)<D.length-i;omega) rfl (by simp(disch:=omega)only[go_sem,List.length_append];try omega) (by simp(disch:=omega)only[go_sem])⟩
   ·have hn1:=hnn (D.getD i 0) (by omega)
    simp(disch:=omega)only[go_sem,h2,em,efd]
    have hy0:D.getD (i+1) 0=0:=by rw[List.getD_eq_getElem?_getD,List.getElem?_eq_none (by omega)];rfl
    refine⟨by omega,by omega,qc (i+1,out++[D.getD i 0/2^(k % 16) % 65536]) [(1,500000000)] ⟨by show i+1≤_;omega,by simp[hol],qD.2 ⟨hog,zN.2 (by omega)⟩,hstep _ (by rw[hy0];simp)⟩ (by show D.length-(i+1)<D.length-i;omega) rfl (by simp(disch:=omega)only[go_sem,List.length_append];try omega) (by simp(disch:=omega)only[go_sem])⟩
  ·simp(disch:=omega)only[go_sem,h1]
   have hiD:i=D.length:=by omega
   subst hiD
   have hV:vl out=vl A/2^k:=by
    rw[hov,hvk,hvD]
    refine Int.emod_eq_of_lt (Int.ediv_nonneg (qQ hD) (Int.le_of_lt (yb (k % 16) (by omega)).1)) ?_
    exact Int.lt_of_le_of_lt (Int.ediv_le_self _ (qQ hD)) (Ql hD)
   refine q9 false [1] (jk out (by omega)) (by simp(disch:=omega)only[go_sem]) (by simp(disch:=omega)only[go_sem]) rfl (qR (z:=1) (cs:=qb out) (by simp(disch:=omega)only[go_sem]) (by simp(disch:=omega)only[go_sem])) (by intro n hn;exact⟨_,List.mem_singleton.2 rfl,by rw[List.mem_singleton.1 hn];rfl⟩) ?_
   rintro r hs bs ⟨rfl,rfl,rfl⟩ _
   refine⟨by simp[qM],?_⟩
   simp(disch:=omega)only[go_sem]
   obtain⟨z,hz⟩:=zG out
   have hc:=zX hog
   rw[hV]at hc
   rw[hc]at hz ⊢
   refine qg [(0,1)] [.own 1 (qb out)] [] [.rf 0 0 (lim (vl A/2^k).toNat).length] rfl (by simp(disch:=omega)only[go_sem]) (by simp(disch:=omega)only[go_sem]) (by simp) (by intro _;simp[zh,AV.pu,AV.pu.puL,Ob.pu,qV]) (.inr ⟨List.replicate z 0,rfl,by rw[←hz]⟩)
end Go.Ab
namespace Go.Ab
open Go Go.Proofs
theorem drop_set{l:List Int}{i:Nat}(h:i<l.length)(z:Int):(l.set i z).drop i=z::l.drop (i+1):=by
 rw[List.drop_eq_getElem_cons (by simpa using h)]
 simp[List.drop_set]
theorem aCv(cl:Bool)(A:List Int)(d:Nat)(hA:gd A)(lA:A.length≤1000000)(hd:0<d)(hd2:d<65536):
  Con Tryz.prog 295 cl [.sl A.length (qb A),.v (.int .i64 d)] [] (fun r hs bs=>∃zs,r=.tu [.rf 0 0 (lim (vl A/d).toNat).length,.v (.int .i64 (vl A % d))]∧hs=[.own 1 (qb (lim (vl A/d).toNat++zs))]):=by
 refine Con.of_aw Tryz.func295 rfl Tryz.ntmps295 (by simp) (by simp) (by simp) (W.sound ?_)
 show @W Tryz.prog 38 ⟨_⟩ ⟨fun x σ=>@q7 _ _ _ ⟨_⟩ _ ⟨_⟩ x σ⟩ _ _
 simp(disch:=omega)only[go_sem]
 refine⟨by omega,?_⟩
 refine qj (fun x:Nat×List Int×Int=>[(0,.sl A.length (qb A)),(1,.v (.int .i64 d)),(6,.rf 130000000 0 A.length),(7,.v (.int .i64 x.2.2)),(8,.v (.int .i64 ((x.1:Int)-1)))])
  (fun x=>[(130000000,.own 1 (qb x.2.1))])
  (fun x=>x.1≤A.length∧x.2.1.length=A.length∧gd x.2.1∧x.2.2=vl (A.drop x.1) % d∧vl (x.2.1.drop x.1)=vl (A.drop x.1)/d)
  (fun x=>x.1) (A.length,List.replicate A.length 0,0) ⟨by simp,by simp,zj _,by simp[vl],by simp[vl]⟩
  (Le.lst [] _ _ rfl (by simp(disch:=omega)only[go_sem];try omega) (by simp(disch:=omega)only[go_sem])) ?_
 rintro⟨m,out,rest⟩ ⟨hm,hol,hog,hr,hov⟩
 dsimp only at hm hol hog hr hov ⊢
 simp(disch:=omega)only[go_sem]
 refine qe (fun h1=>?_) (fun h1=>?_)
 ·obtain⟨i,rfl⟩:∃i,m=i+1:=⟨m-1,by omega⟩
  have e1:((i+1:Nat):Int)-1=(i:Nat):=by omega
  have hx:=qH hA i
  have hr2:0≤rest∧rest<d:=by rw[hr];exact⟨Int.emod_nonneg _ (by omega),Int.emod_lt_of_pos _ (by omega)⟩
  generalize hq:rest*65536+A.getD i 0=q
  have hq0:0≤q:=by omega
  have hqd:0≤q/d∧q/d<65536:=⟨Int.ediv_nonneg hq0 (by omega),Int.ediv_lt_of_lt_mul (by omega) (by omega)⟩
  have hqm:0≤q % d∧q % d<d:=⟨Int.emod_nonneg _ (by omega),Int.emod_lt_of_pos _ (by omega)⟩
  simp(disch:=omega)only[go_sem,h1,e1,hq]
  refine⟨by omega,by omega,by omega,by omega,by omega,by omega,qc (i,out.set i (q/d),q % d) [] ⟨by show i≤_;omega,by simp[hol],yE hog hqd,?_,?_⟩ (by show i<i+1;omega) rfl (by simp(disch:=omega)only[go_sem]) (by simp(disch:=omega)only[go_sem])⟩
  ·show q % d=vl (A.drop i) % d
   rw[zz (l:=A) (i:=i) (by omega),←hq,hr]
   have h3:=Int.emod_add_mul_ediv (vl (A.drop (i+1))) d
   rw[show A.getD i 0+65536*vl (A.drop (i+1))=vl (A.drop (i+1)) % d*65536+A.getD i 0+d*(65536*(vl (A.drop (i+1))/d)) by grind,Int.add_mul_emod_self_left]
  ·show vl ((out.set i (q/d)).drop i)=vl (A.drop i)/d
   rw[drop_set (by omega),vl,hov,zz (l:=A) (i:=i) (by omega),←hq,hr]
   have h3:=Int.emod_add_mul_ediv (vl (A.drop (i+1))) d
   rw[show A.getD i 0+65536*vl (A.drop (i+1))=vl (A.drop (i+1)) % d*65536+A.getD i 0+d*(65536*(vl (A.drop (i+1))/d)) by grind,Int.add_mul_ediv_left _ _ (by omega)]
 ·simp(disch:=omega)only[go_sem,h1]
  have:m=0:=by omega
  subst this
  rw[List.drop_zero,List.drop_zero]at hov
  rw[List.drop_zero]at hr
  rw[←hol]
  refine q9 false [130000000] (jk out (by omega)) (by simp(disch:=omega)only[go_sem]) (by simp(disch:=omega)only[go_sem]) rfl (qR (z:=1) (cs:=qb out) (by simp(disch:=omega)only[go_sem]) (by simp(disch:=omega)only[go_sem])) (by intro n hn;exact⟨_,List.mem_singleton.2 rfl,by rw[List.mem_singleton.1 hn];rfl⟩) ?_
  rintro r hs bs ⟨rfl,rfl,rfl⟩ _
  refine⟨by simp[qM],?_⟩
  simp(disch:=omega)only[go_sem]
  obtain⟨z,hz⟩:=zG out
  have hc:=zX hog
  rw[hov]at hc
  rw[hc]at hz ⊢
  rw[hr]
  refine qg [(0,130000000)] [.own 1 (qb out)] [] [.rf 0 0 (lim (vl A/d).toNat).length,.v (.int .i64 (vl A % d))] rfl (by simp(disch:=omega)only[go_sem]) (by simp(disch:=omega)only[go_sem]) (by simp) (by intro _;simp[zh,AV.pu,AV.pu.puL,Ob.pu,qV]) ⟨List.replicate z 0,rfl,by rw[←hz]⟩
end Go.Ab
namespace Go.Ab
open Go Go.Proofs
theorem aCl(cl:Bool)(A B:List Int)(hA:gd A)(hB:gd B)(lA:A.length≤2000000)(lB:B.length≤2000000):
  Con Tryz.prog 219 cl [.sl A.length (qb A),.sl B.length (qb B)] [] (aq2 (lim (vl A+vl B).toNat)):=by
 refine Con.of_aw Tryz.func219 rfl Tryz.ntmps219 (by simp) (by simp) (by simp) (W.sound ?_)
 show @W Tryz.prog 53 ⟨_⟩ ⟨fun x σ=>@q7 _ _ _ ⟨_⟩ _ ⟨_⟩ x σ⟩ _ _
 simp(disch:=omega)only[go_sem]
 refine qe (fun h0=>?_) (fun h0=>?_)
 all_goals simp(disch:=omega)only[go_sem,h0]
 ·revert A B
  intro Y X hY hX lY lX h0'
  have h00:Y.length≤X.length:=by omega
  have hcm:vl Y+vl X=vl X+vl Y:=Int.add_comm _ _
  refine⟨by omega,?_⟩
  refine qj (fun x:Nat×List Int×Int=>[(1,.sl Y.length (qb Y)),(5,.rf 1 0 x.2.1.length),(6,.v (.int .i64 x.2.2)),(20,.sl X.length (qb X)),(21,.v (.int .i64 X.length)),(22,.v (.int .i64 x.1))])
   (fun x=>[(1,.own 1 (qb x.2.1))])
   (fun x=>x.1≤X.length∧x.2.1.length=x.1∧gd x.2.1∧(0≤x.2.2∧x.2.2≤1)∧vl x.2.1+65536^x.1*x.2.2=vl (X.take x.1)+vl (Y.take x.1))
   (fun x=>X.length-x.1) (0,[],0) ⟨by simp,rfl,ZP,by simp,by simp[vl]⟩
   (Le.lst [(1,210000000)] _ _ rfl (by simp(disch:=omega)only[go_sem]) (by simp(disch:=omega)only[go_sem])) ?_
  rintro⟨i,out,cy⟩ ⟨hi,hol,hog,hcy,hov⟩
  dsimp only at hi hol hog hcy hov ⊢
  simp(disch:=omega)only[go_sem]
  refine qe (fun h1=>?_) (fun h1=>?_)
  ·have hx:=qH hX i
   have hy:=qH hY i
   have hstep:∀q:Int,q=cy+X.getD i 0+Y.getD i 0→vl (out++[q % 65536])+65536^(i+1)*(q/65536)=vl (X.take (i+1))+vl (Y.take (i+1)):=by
    intro q hq
    rw[jn,qO,qO,hol,Int.pow_succ]
    have e3:q % 65536+65536*(q/65536)=q:=Int.emod_add_mul_ediv q 65536
    generalize (65536:Int)^i=Pi at*
    grind
   have hyz:¬i<Y.length→Y.getD i 0=0:=fun h=>by rw[List.getD_eq_getElem?_getD,List.getElem?_eq_none (by omega)];rfl
   simp(disch:=omega)only[go_sem,h1]
   refine⟨by omega,by omega,qe (fun h2=>?_) (fun h2=>?_)⟩
   ·simp(disch:=omega)only[go_sem,h2]
    generalize hq:cy+X.getD i 0+Y.getD i 0=q
    refine⟨by omega,by omega,by omega,qc (i+1,out++[q % 65536],q/65536) [(1,460000000)] ⟨by show i+1≤_;omega,by simp[hol],qD.2 ⟨hog,zN.2 (by omega)⟩,by show 0≤q/65536∧q/65536≤1;omega,hstep q hq.symm⟩ (by show X.length-(i+1)<X.length-i;omega) rfl (by simp(disch:=omega)only[go_sem,List.length_append];try omega) (by simp(disch:=omega)only[go_sem])⟩
   ·simp(disch:=omega)only[go_sem,h2]
    have hy0:=hyz (by omega)
    generalize hq:cy+X.getD i 0=q
    refine⟨by omega,qc (i+1,out++[q % 65536],q/65536) [(1,460000000)] ⟨by show i+1≤_;omega,by simp[hol],qD.2 ⟨hog,zN.2 (by omega)⟩,by show 0≤q/65536∧q/65536≤1;omega,hstep q (by omega)⟩ (by show X.length-(i+1)<X.length-i;omega) rfl (by simp(disch:=omega)only[go_sem,List.length_append];try omega) (by simp(disch:=omega)only[go_sem])⟩
  ·simp(disch:=omega)only[go_sem,h1]
   have hiA:i=X.length:=by omega
   subst hiA
   rw[List.take_length,List.take_of_length_le h00]at hov
   have hov2:vl (out++[cy])=vl X+vl Y:=by rw[jn,hol];exact hov
   have hog2:gd (out++[cy]):=qD.2 ⟨hog,zN.2 (by omega)⟩
   refine⟨by omega,?_⟩
   have hl2:out.length+1=(out++[cy]).length:=by simp
   rw[hl2]
   refine q9 false [530000000] (jk (out++[cy]) (by simp;omega)) (by simp(disch:=omega)only[go_sem]) (by simp(disch:=omega)only[go_sem]) rfl (qR (z:=1) (cs:=qb (out++[cy])) (by simp(disch:=omega)only[go_sem]) (by simp(disch:=omega)only[go_sem])) (by intro n hn;exact⟨_,List.mem_singleton.2 rfl,by rw[List.mem_singleton.1 hn];rfl⟩) ?_
   rintro r hs bs ⟨rfl,rfl,rfl⟩ _
   refine⟨by simp[qM],?_⟩
   simp(disch:=omega)only[go_sem]
   obtain⟨z,hz⟩:=zG (out++[cy])
   have hc:=zX hog2
   rw[hov2]at hc
   rw[hc]at hz ⊢
   refine qg [(0,530000000)] [.own 1 (qb (out++[cy]))] [] [.rf 0 0 (lim (vl X+vl Y).toNat).length] rfl (by simp(disch:=omega)only[go_sem]) (by simp(disch:=omega)only[go_sem]) (by simp) (by intro _;simp[zh,AV.pu,AV.pu.puL,Ob.pu,qV]) (.inr ⟨List.replicate z 0,by rw[hcm];rfl,by rw[hcm,←hz]⟩)
 ·revert A B
  intro X Y hX hY lX lY h0'
  have h00:Y.length≤X.length:=by omega
  have hcm:vl X+vl Y=vl X+vl Y:=rfl
  refine⟨by omega,?_⟩
  refine qj (fun x:Nat×List Int×Int=>[(1,.sl Y.length (qb Y)),(5,.rf 1 0 x.2.1.length),(6,.v (.int .i64 x.2.2)),(20,.sl X.length (qb X)),(21,.v (.int .i64 X.length)),(22,.v (.int .i64 x.1))])
   (fun x=>[(1,.own 1 (qb x.2.1))])
   (fun x=>x.1≤X.length∧x.2.1.length=x.1∧gd x.2.1∧(0≤x.2.2∧x.2.2≤1)∧vl x.2.1+65536^x.1*x.2.2=vl (X.take x.1)+vl (Y.take x.1))
   (fun x=>X.length-x.1) (0,[],0) ⟨by simp,rfl,ZP,by simp,by simp[vl]⟩
   (Le.lst [(1,210000000)] _ _ rfl (by simp(disch:=omega)only[go_sem]) (by simp(disch:=omega)only[go_sem])) ?_
  rintro⟨i,out,cy⟩ ⟨hi,hol,hog,hcy,hov⟩
  dsimp only at hi hol hog hcy hov ⊢
  simp(disch:=omega)only[go_sem]
  refine qe (fun h1=>?_) (fun h1=>?_)
  ·have hx:=qH hX i
   have hy:=qH hY i
   have hstep:∀q:Int,q=cy+X.getD i 0+Y.getD i 0→vl (out++[q % 65536])+65536^(i+1)*(q/65536)=vl (X.take (i+1))+vl (Y.take (i+1)):=by
    intro q hq
    rw[jn,qO,qO,hol,Int.pow_succ]
    have e3:q % 65536+65536*(q/65536)=q:=Int.emod_add_mul_ediv q 65536
    generalize (65536:Int)^i=Pi at*
    grind
   have hyz:¬i<Y.length→Y.getD i 0=0:=fun h=>by rw[List.getD_eq_getElem?_getD,List.getElem?_eq_none (by omega)];rfl
   simp(disch:=omega)only[go_sem,h1]
   refine⟨by omega,by omega,qe (fun h2=>?_) (fun h2=>?_)⟩
   ·simp(disch:=omega)only[go_sem,h2]
    generalize hq:cy+X.getD i 0+Y.getD i 0=q
    refine⟨by omega,by omega,by omega,qc (i+1,out++[q % 65536],q/65536) [(1,460000000)] ⟨by show i+1≤_;omega,by simp[hol],qD.2 ⟨hog,zN.2 (by omega)⟩,by show 0≤q/65536∧q/65536≤1;omega,hstep q hq.symm⟩ (by show X.length-(i+1)<X.length-i;omega) rfl (by simp(disch:=omega)only[go_sem,List.length_append];try omega) (by simp(disch:=omega)only[go_sem])⟩
   ·simp(disch:=omega)only[go_sem,h2]
    have hy0:=hyz (by omega)
    generalize hq:cy+X.getD i 0=q
    refine⟨by omega,qc (i+1,out++[q % 65536],q/65536) [(1,460000000)] ⟨by show i+1≤_;omega,by simp[hol],qD.2 ⟨hog,zN.2 (by omega)⟩,by show 0≤q/65536∧q/65536≤1;omega,hstep q (by omega)⟩ (by show X.length-(i+1)<X.length-i;omega) rfl (by simp(disch:=omega)only[go_sem,List.length_append];try omega) (by simp(disch:=omega)only[go_sem])⟩
  ·simp(disch:=omega)only[go_sem,h1]
   have hiA:i=X.length:=by omega
   subst hiA
   rw[List.take_length,List.take_of_length_le h00]at hov
   have hov2:vl (out++[cy])=vl X+vl Y:=by rw[jn,hol];exact hov
   have hog2:gd (out++[cy]):=qD.2 ⟨hog,zN.2 (by omega)⟩
   refine⟨by omega,?_⟩
   have hl2:out.length+1=(out++[cy]).length:=by simp
   rw[hl2]
   refine q9 false [530000000] (jk (out++[cy]) (by simp;omega)) (by simp(disch:=omega)only[go_sem]) (by simp(disch:=omega)only[go_sem]) rfl (qR (z:=1) (cs:=qb (out++[cy])) (by simp(disch:=omega)only[go_sem]) (by simp(disch:=omega)only[go_sem])) (by intro n hn;exact⟨_,List.mem_singleton.2 rfl,by rw[List.mem_singleton.1 hn];rfl⟩) ?_
   rintro r hs bs ⟨rfl,rfl,rfl⟩ _
   refine⟨by simp[qM],?_⟩
   simp(disch:=omega)only[go_sem]
   obtain⟨z,hz⟩:=zG (out++[cy])
   have hc:=zX hog2
   rw[hov2]at hc
   rw[hc]at hz ⊢
   refine qg [(0,530000000)] [.own 1 (qb (out++[cy]))] [] [.rf 0 0 (lim (vl X+vl Y).toNat).length] rfl (by simp(disch:=omega)only[go_sem]) (by simp(disch:=omega)only[go_sem]) (by simp) (by intro _;simp[zh,AV.pu,AV.pu.puL,Ob.pu,qV]) (.inr ⟨List.replicate z 0,by rw[hcm];rfl,by rw[hcm,←hz]⟩)
end Go.Ab
namespace Go.Ab
open Go Go.Proofs
theorem aae(cl:Bool)(xs:List Int)(hl:xs.length≤2^39):Con Tryz.prog 270 cl [.sl xs.length (qb xs)] [] (aq2 xs):=by
 refine Con.of_aw Tryz.func270 rfl Tryz.ntmps270 (by simp) (by simp) (by simp) (W.sound ?_)
 show @W Tryz.prog 8 ⟨_⟩ ⟨fun x σ=>@q7 _ _ _ ⟨_⟩ _ ⟨_⟩ x σ⟩ _ _
 simp(disch:=omega)only[go_sem]
 refine⟨fun h0=>?_,?_⟩
 ·have:xs=[]:=by cases xs with|nil=>rfl|cons a r=>cases h0
  subst this
  refine qg [] [] [] [.v (.slice none 0 0)] rfl (by simp(disch:=omega)only[go_sem]) (by simp(disch:=omega)only[go_sem]) (by simp) (by intro _;simp[zh,AV.pu]) (.inl ⟨rfl,rfl,rfl⟩)
 ·refine⟨by omega,?_⟩
  refine qg [(0,90000000)] [.own 1 (qb xs)] [] [.rf 0 0 xs.length] rfl (by simp(disch:=omega)only[go_sem]) (by simp(disch:=omega)only[go_sem]) (by simp) (by intro _;simp[zh,AV.pu,Ob.pu,qV]) (.inr ⟨[],rfl,by rw[List.append_nil]⟩)
end Go.Ab
namespace Go.Ab
open Go Go.Proofs
theorem K6(x:Int):Con Tryz.prog 263 true [.v (.int .i64 x)] [] (isA (.v (.bool false))):=by
 refine Con.of_w (rs:=[.tmp 2]) Tryz.func263 rfl Tryz.ntmps263 rfl ?_
 simp(disch:=omega)only[go_sem]
 exact qx
theorem aqj(x y:Int):Con Tryz.prog 209 true [.v (.int .i64 x),.v (.int .i64 y)] [] (isA (.v (.int .i64 (zy x y)))):=by
 refine Con.of_w (rs:=[.tmp 4]) Tryz.func209 rfl Tryz.ntmps209 rfl ?_
 simp(disch:=omega)only[go_sem]
 refine ql (K6 x) ?_
 simp(disch:=omega)only[go_sem]
 refine ql (K6 y) ?_
 simp(disch:=omega)only[go_sem]
 refine qe (fun h1=>?_) (fun h1=>?_)
 ·simp(disch:=omega)only[go_sem,h1]
  rw[show zy x y= -1 by simp[zy,h1]]
  exact qx
 ·simp(disch:=omega)only[go_sem,h1]
  refine qe (fun h2=>?_) (fun h2=>?_)
  ·simp(disch:=omega)only[go_sem,h2]
   rw[show zy x y=1 by simp[zy,h1,h2]]
   exact qx
  ·simp(disch:=omega)only[go_sem,h2]
   rw[show zy x y=0 by simp[zy,h1,h2]]
   exact qx
theorem zV(a b:Nat)(la:(lim a).length≤2^40)(lb:(lim b).length≤2^40):
  Con Tryz.prog 217 true [.sl (lim (a)).length (qb (lim (a))),.sl (lim (b)).length (qb (lim (b)))] [] (isA (.v (.int .i64 (zy a b)))):=by
 refine Con.of_w (rs:=[.tmp 4]) Tryz.func217 rfl Tryz.ntmps217 rfl ?_
 simp(disch:=omega)only[go_sem]
 refine zA (fun h1=>?_) (fun h1=>?_)
 ·simp(disch:=omega)only[go_sem,h1]
  refine ql (aqj (lim a).length (lim b).length) ?_
  simp(disch:=omega)only[go_sem]
  have:zy ((lim a).length:Int) ((lim b).length:Int)=zy a b:=by
   unfold zy
   rcases(by omega:(lim a).length<(lim b).length∨(lim b).length<(lim a).length)with h|h
   ·have:=Qa h
    rw[if_pos (by omega),if_pos (by omega)]
   ·have:=Qa h
    rw[if_neg (by omega),if_pos (by omega),if_neg (by omega),if_pos (by omega)]
  rw[this]
  exact qx
 ·simp(disch:=omega)only[go_sem,h1]
  have hl:(lim a).length=(lim b).length:=by omega
  refine qj (fun k:Nat=>[(0,.sl (lim (a)).length (qb (lim (a)))),(1,.sl (lim (b)).length (qb (lim (b)))),(5,.v (.int .i64 ((k:Int)-1)))])
   (fun _=>[]) (fun k=>k≤(lim a).length∧(lim a).drop k=(lim b).drop k) (fun k=>k) (lim a).length ⟨Nat.le_refl _,by rw[List.drop_length,hl,List.drop_length]⟩ (Le.lst [] _ _ rfl (by simp(disch:=omega)only[go_sem];try omega) (by simp(disch:=omega)only[go_sem])) ?_
  rintro k ⟨hk,hd⟩
  simp(disch:=omega)only[go_sem]
  refine qe (fun h2=>?_) (fun h2=>?_)
  ·obtain⟨i,rfl⟩:∃i,k=i+1:=⟨k-1,by omega⟩
   have ei:((i+1:Nat):Int)-1=(i:Nat):=by omega
   simp(disch:=omega)only[go_sem,h2,ei]
   refine qs rfl [⟨0,[],[]⟩,⟨1,[],[]⟩,⟨2,[],[]⟩,⟨3,[],[]⟩,⟨4,[3],[]⟩,⟨5,[3],[]⟩,⟨6,[3],[]⟩,⟨7,[3],[]⟩,⟨8,[],[]⟩] (by kernel_rfl) ?_
   simp(disch:=omega)only[go_sem,ei]
   refine⟨by omega,by omega,by omega,by omega,?_⟩
   refine zA (fun h3=>?_) (fun h3=>?_)
   ·simp(disch:=omega)only[go_sem,h3]
    refine qs rfl [⟨0,[],[]⟩,⟨1,[],[]⟩,⟨2,[],[]⟩,⟨3,[],[]⟩,⟨4,[3],[]⟩,⟨5,[3],[]⟩,⟨6,[3],[]⟩,⟨7,[3],[]⟩,⟨8,[],[]⟩,⟨9,[],[]⟩] (by kernel_rfl) ?_
    simp(disch:=omega)only[go_sem,ei]
    refine⟨by omega,by omega,by omega,by omega,?_⟩
    refine ql (aqj ((lim a).getD i 0) ((lim b).getD i 0)) ?_
    simp(disch:=omega)only[go_sem]
    have hva:=qZ a
    have hvb:=qZ b
    have:zy ((lim a).getD i 0) ((lim b).getD i 0)=zy a b:=by
     unfold zy
     rcases(by omega:(lim a).getD i 0<(lim b).getD i 0∨(lim b).getD i 0<(lim a).getD i 0)with h|h
     ·have:=Q2 (q6 a) (q6 b) (by omega) hl hd h
      rw[if_pos (by omega),if_pos (by omega)]
     ·have:=Q2 (q6 b) (q6 a) (by omega) hl.symm hd.symm h
      rw[if_neg (by omega),if_pos (by omega),if_neg (by omega),if_pos (by omega)]
    rw[this]
    exact qx
   ·simp(disch:=omega)only[go_sem,h3]
    refine qc i [] ⟨by omega,?_⟩ (by show i<i+1;omega) rfl (by simp(disch:=omega)only[go_sem];try omega) (by simp(disch:=omega)only[go_sem])
    rw[yh (l:=lim a) (by omega),yh (l:=lim b) (by omega),h3,hd]
  ·simp(disch:=omega)only[go_sem,h2]
   have:k=0:=by omega
   subst this
   rw[List.drop_zero,List.drop_zero]at hd
   have:=je hd
   subst this
   rw[show zy (a:Int) (a:Int)=0 by simp[zy]]
   exact qx
end Go.Ab
namespace Go.Proofs
open Go.Shelf
def Tryz.lays29_ren:Go.Shelf.Ren:=⟨fun|29=>300|n=>n,fun|0=>0|3=>3|4=>4|5=>5|22=>244|25=>132|54=>257|n=>n,fun|1=>1|n=>n⟩
theorem Tryz.lays29:Go.Proofs.Lays7.n29 Tryz.prog Tryz.lays29_ren:={
 mixed:=by kernel_rfl
 f29:=Tryz.func300.trans (congrArg some (by kernel_rfl))
 t0:=Tryz.underlying0
 a0:=Tryz.isAgg0
 z0:=Tryz.sizeOf0
 v0:=Tryz.zeroValue0
 i0:=by kernel_rfl
 t3:=Tryz.underlying3
 a3:=Tryz.isAgg3
 z3:=Tryz.sizeOf3
 v3:=Tryz.zeroValue3
 i3:=by kernel_rfl
 t4:=Tryz.underlying4
 a4:=Tryz.isAgg4
 z4:=Tryz.sizeOf4
 v4:=Tryz.zeroValue4
 i4:=by kernel_rfl
 t5:=Tryz.underlying5
 a5:=Tryz.isAgg5
 z5:=Tryz.sizeOf5
 v5:=Tryz.zeroValue5
 i5:=by kernel_rfl
 t22:=Tryz.underlying244
 a22:=Tryz.isAgg244
 z22:=Tryz.sizeOf244
 v22:=Tryz.zeroValue244
 i22:=by kernel_rfl
 t25:=Tryz.underlying132
 a25:=Tryz.isAgg132
 z25:=Tryz.sizeOf132
 v25:=Tryz.zeroValue132
 i25:=by kernel_rfl
 t54:=Tryz.underlying257
 a54:=Tryz.isAgg257
 z54:=Tryz.sizeOf257
 g1:=by kernel_rfl}
def Tryz.lays129_ren:Go.Shelf.Ren:=⟨fun|129=>289|n=>n,fun|53=>244|46=>132|3=>3|4=>4|5=>5|9=>9|n=>n,fun|n=>n⟩
theorem Tryz.lays129:Go.Proofs.Lays.n129 Tryz.prog Tryz.lays129_ren:={
 mixed:=by kernel_rfl
 f129:=Tryz.func289.trans (congrArg some (by kernel_rfl))
 t3:=Tryz.underlying3
 a3:=Tryz.isAgg3
 z3:=Tryz.sizeOf3
 v3:=Tryz.zeroValue3
 t4:=Tryz.underlying4
 a4:=Tryz.isAgg4
 z4:=Tryz.sizeOf4
 v4:=Tryz.zeroValue4
 t5:=Tryz.underlying5
 a5:=Tryz.isAgg5
 z5:=Tryz.sizeOf5
 v5:=Tryz.zeroValue5
 t9:=Tryz.underlying9
 a9:=Tryz.isAgg9
 z9:=Tryz.sizeOf9
 v9:=Tryz.zeroValue9
 t46:=Tryz.underlying132
 a46:=Tryz.isAgg132
 z46:=Tryz.sizeOf132
 v46:=Tryz.zeroValue132
 t53:=Tryz.underlying244
 a53:=Tryz.isAgg244
 z53:=Tryz.sizeOf244
 v53:=Tryz.zeroValue244}
end Go.Proofs
namespace Go.Ab
open Go Go.Proofs
theorem aSL(x:Nat)(h0:x≠0)(h:x<2^64):Lib.ctz 64 x=tz x:=by
 unfold Lib.ctz
 rw[if_neg h0]
 obtain⟨m,hm,_⟩:=Lib.ctzFrom_spec 64 x (by omega) h
 exact(Qn hm).symm
theorem aqD(x:Nat)(h:x<2^64):Lib.bitLen x=bl x:=by
 induction x using Nat.strongRecOn with
 |_ x ih=>
  by_cases h0:x=0
  ·subst h0;rfl
  ·rw[Lib.bitLen_half x h0 h,ih (x/2) (by omega) (by omega),aEv h0,Nat.add_comm]
theorem aCk(x:Nat)(h0:x≠0)(h:x<2^64):Con Tryz.prog 300 true [.v (.int .u64 x)] [] (isA (.v (.int .i64 (tz x)))):=
 Con.scalar (xs:=[.int .u64 x]) fun w hg=>by
  rw[←aSL x h0 h]
  exact Any7.bits_TrailingZeros64 Tryz.lays29 x h w fun _ j hj=>(hg 1 Lib.deBruijn64tab rfl).2 j hj
theorem apS(x:Nat)(h:x<2^64):Con Tryz.prog 289 true [.v (.int .u64 x)] [] (isA (.v (.int .i64 (bl x)))):=
 Con.scalar (xs:=[.int .u64 x]) fun w hg=>by
  rw[←aqD x h]
  exact Any.bits_Len64 Tryz.lays129 x w (by omega) (by omega)
theorem aSS(x:Nat)(h0:x≠0)(h:x<2^64):Con Tryz.prog 269 true [.v (.int .u64 x)] [] (isA (.v (.int .i64 (tz x)))):=by
 refine Con.of_w (rs:=[.tmp 2]) Tryz.func269 rfl Tryz.ntmps269 rfl ?_
 simp(disch:=omega)only[go_sem]
 refine ql (aCk x h0 h) ?_
 simp(disch:=omega)only[go_sem]
 exact qx
theorem apT(x:Nat)(h:x<2^64):Con Tryz.prog 255 true [.v (.int .u64 x)] [] (isA (.v (.int .i64 (bl x)))):=by
 refine Con.of_w (rs:=[.tmp 2]) Tryz.func255 rfl Tryz.ntmps255 rfl ?_
 simp(disch:=omega)only[go_sem]
 refine ql (apS x h) ?_
 simp(disch:=omega)only[go_sem]
 exact qx
theorem ajR{x:Int}(h1:0≤x)(h2:x<9223372036854775808):IntKind.u64.wrap x=x:=by
 simp only[IntKind.wrap,IntKind.signed,IntKind.bits]
 simp only[Bool.false_and,Bool.false_eq_true,if_false]
 omega
theorem aju(m:Nat)(hl:(lim m).length≤2^40):Con Tryz.prog 196 true [.sl (lim (m)).length (qb (lim (m)))] [] (isA (.v (.int .i64 (bl m)))):=by
 refine Con.of_w (rs:=[.tmp 2]) Tryz.func196 rfl Tryz.ntmps196 rfl ?_
 simp(disch:=omega)only[go_sem]
 refine qe (fun h1=>?_) (fun h1=>?_)
 ·simp(disch:=omega)only[go_sem,h1]
  have:m=0:=qF.1 (List.length_eq_zero_iff.1 (by omega))
  subst this
  rw[yS]
  exact qx
 ·have hm:m≠0:=fun e=>by rw[e,qm]at h1;simp at h1
  have e1:((lim m).length:Int).toNat-1=(lim m).length-1:=by omega
  have e2:(((lim m).length:Int)-1).toNat=(lim m).length-1:=by omega
  have ht:=ZI hm
  have hb:=aqB hm
  simp(disch:=omega)only[go_sem,h1,e2,zL]
  generalize m/65536^((lim m).length-1)=q at*
  have e3:((q % 65536:Nat):Int)=(q:Int):=by omega
  simp(disch:=omega)only[go_sem,e3,ajR]
  refine⟨by omega,by omega,?_⟩
  refine ql (apT q (by omega)) ?_
  simp(disch:=omega)only[go_sem]
  have hq:bl q≤16:=zx.2 (by omega)
  have e4:(16:Int)*(((lim m).length:Int)-1)+(bl q:Int)=(bl m:Int):=by omega
  simp(disch:=omega)only[go_sem,e4]
  exact qx
theorem aED{m i:Nat}(hz:∀j,j<i→(lim m).getD j 0=0)(hx:(lim m).getD i 0≠0):tz m=16*i+tz (m/65536^i % 65536):=by
 rw[zL]at hx
 have hx':m/65536^i % 65536≠0:=fun e=>hx (by rw[e];rfl)
 obtain⟨a,ha⟩:=J2 hx'
 have hlow:65536^i*(m/65536^i)=m:=by
  have key:∀k,k≤i→m % 65536^k=0:=by
   intro k
   induction k with
   |zero=>intro _;simp[Nat.mod_one]
   |succ k ih=>
    intro hk
    have h1:=ih (by omega)
    have h2:=hz k (by omega)
    rw[zL]at h2
    have h3:m/65536^k % 65536=0:=by omega
    rw[Nat.pow_succ,Nat.mod_mul,h1,h3];omega
  have:=Nat.div_add_mod m (65536^i)
  rw[key i (Nat.le_refl _)]at this
  omega
 generalize hq:m/65536^i=q at*
 have ht:tz (q % 65536)<16:=by
  have h1:=yl hx'
  have:bl (q % 65536)≤16:=zx.2 (by omega)
  omega
 generalize hk:tz (q % 65536)=k at*
 have e16:(65536:Nat)=2^k*(2*2^(15-k)):=by rw[Nat.mul_left_comm,←Nat.pow_add,show k+(15-k)=15 by omega]
 refine Qn (a:=a+2^(15-k)*(q/65536)) ?_
 have hd:=Nat.div_add_mod q 65536
 rw[←hlow,Nat.pow_add,←Zz]
 have h5:q=2^k*(2*(a+2^(15-k)*(q/65536))+1):=by
  have:q=2^k*(2*2^(15-k))*(q/65536)+2^k*(2*a+1):=by rw[←e16,←ha];omega
  generalize q/65536=y at*
  generalize 2^(15-k)=z at*
  grind
 generalize q/65536=y at*
 rw[Nat.mul_assoc,←h5]
theorem adC(m:Nat)(hl:(lim m).length≤2^40):Con Tryz.prog 221 true [.sl (lim (m)).length (qb (lim (m)))] [] (isA (.v (.int .i64 (tz m)))):=by
 refine Con.of_w (rs:=[.tmp 2]) Tryz.func221 rfl Tryz.ntmps221 rfl ?_
 simp(disch:=omega)only[go_sem]
 refine qj (fun i:Nat=>[(0,.sl (lim (m)).length (qb (lim (m)))),(5,.sl (lim (m)).length (qb (lim (m)))),(6,.v (.int .i64 (lim m).length)),(7,.v (.int .i64 i))])
  (fun _=>[]) (fun i=>i≤(lim m).length∧∀j,j<i→(lim m).getD j 0=0) (fun i=>(lim m).length-i) 0 ⟨by omega,fun j hj=>by omega⟩ (Le.lst [] _ _ rfl (by simp(disch:=omega)only[go_sem];try omega) (by simp(disch:=omega)only[go_sem])) ?_
 rintro i ⟨hi,hz⟩
 simp(disch:=omega)only[go_sem]
 refine qe (fun h1=>?_) (fun h1=>?_)
 ·simp(disch:=omega)only[go_sem,h1]
  refine⟨by omega,by omega,zA (fun h2=>?_) (fun h2=>?_)⟩
  ·have ht:=aED hz h2
   have hx:m/65536^i % 65536≠0:=fun e=>h2 (by rw[zL,e];rfl)
   have ht16:tz (m/65536^i % 65536)<16:=by
    have h1:=yl hx
    have:bl (m/65536^i % 65536)≤16:=zx.2 (by omega)
    omega
   simp(disch:=omega)only[go_sem,h2,zL]
   generalize hq:m/65536^i % 65536=q at*
   have hq6:q<65536:=by omega
   simp(disch:=omega)only[go_sem,ajR]
   refine ql (aSS q hx (by omega)) ?_
   simp(disch:=omega)only[go_sem]
   have e4:(16:Int)*(i:Int)+(tz q:Int)=(tz m:Int):=by omega
   simp(disch:=omega)only[go_sem,e4]
   exact qx
  ·simp(disch:=omega)only[go_sem,h2]
   refine qc (i+1) [] ⟨by omega,fun j hj=>?_⟩ (by show(lim m).length-(i+1)<(lim m).length-i;omega) rfl (by simp(disch:=omega)only[go_sem];try omega) (by simp(disch:=omega)only[go_sem])
   rcases(by omega:j<i∨j=i)with h|h
   ·exact hz j h
   ·subst h;exact h2
 ·simp(disch:=omega)only[go_sem,h1]
  have hm:m=0:=by
   have:=qZ m
   have h3:lim m=List.replicate (lim m).length 0:=by
    apply List.ext_getElem
    ·simp
    ·intro j h1 h2
     have:=hz j (by omega)
     rw[List.getD_eq_getElem?_getD,List.getElem?_eq_getElem h1]at this
     simpa using this
   rw[h3,zI]at this
   omega
  subst hm
  rw[ajV]
  exact qx
theorem aaf(m:Nat)(i:Int)(hl:(lim m).length≤2^40)(hi:0≤i)(hi2:i<2^62):Con Tryz.prog 142 true [.sl (lim (m)).length (qb (lim (m))),.v (.int .i64 i)] [] (isA (.v (.int .i64 ((m/2^i.toNat % 2:Nat):Int)))):=by
 refine Con.of_w (rs:=[.tmp 4]) Tryz.func142 rfl Tryz.ntmps142 rfl ?_
 obtain⟨k,rfl⟩:=Int.eq_ofNat_of_zero_le hi
 rw[Int.toNat_natCast]
 have h0:¬((k:Int)<0):=by omega
 have e16:((k:Int)/16).toNat=k/16:=by omega
 have em:min ((k:Int) % 16).toNat 64=k % 16:=by omega
 have hb:=aqC m k
 simp(disch:=omega)only[go_sem,h0]
 refine qe (fun h1=>?_) (fun h1=>?_)
 ·simp(disch:=omega)only[go_sem,h1]
  have:m/2^k % 2=0:=by
   rw[←hb]
   have h2:=zL m (k/16)
   rw[List.getD_eq_getElem?_getD,List.getElem?_eq_none (by omega)]at h2
   have h3:m/65536^(k/16) % 65536=0:=by simp only[Option.getD_none]at h2;omega
   rw[h3];simp
  rw[this]
  exact qx
 ·have hx:=qH (q6 m) (k/16)
  have hp:(0:Int)<2^(k % 16):=Int.pow_pos (by omega)
  have efd:∀x:Int,x.fdiv (2^(k % 16))=x/2^(k % 16):=fun x=>Int.fdiv_eq_ediv_of_nonneg _ (Int.le_of_lt hp)
  have hq:0≤(lim m).getD (k/16) 0/2^(k % 16)∧(lim m).getD (k/16) 0/2^(k % 16)<65536:=by
   refine⟨Int.ediv_nonneg hx.1 (Int.le_of_lt hp),Int.lt_of_le_of_lt (Int.ediv_le_self _ hx.1) hx.2⟩
  have hr:(lim m).getD (k/16) 0/2^(k % 16) % 2=((m/2^k % 2:Nat):Int):=by
   rw[←hb,zL]
   generalize m/65536^(k/16) % 65536=x
   rw[Int.natCast_emod,Int.natCast_ediv,Int.natCast_pow];rfl
  simp(disch:=omega)only[go_sem,h1,e16,em,efd,hr]
  refine⟨by omega,by omega,by omega,?_⟩
  exact qx
end Go.Ab
namespace Go.Ab
open Go Go.Proofs
theorem aax(a k:Nat):(vl (lim a)*2^k).toNat=a*2^k:=by
 rw[qZ]
 have:((a:Int)*2^k)=((a*2^k:Nat):Int):=by rw[Int.natCast_mul,Int.natCast_pow];rfl
 rw[this,Int.toNat_natCast]
theorem aay(a k:Nat):(vl (lim a)/2^k).toNat=a/2^k:=by
 rw[qZ]
 have:((a:Int)/2^k)=((a/2^k:Nat):Int):=by rw[Int.natCast_ediv,Int.natCast_pow];rfl
 rw[this,Int.toNat_natCast]
theorem aEH(a b:Nat):(vl (lim a)*vl (lim b)).toNat=a*b:=by rw[qZ,qZ,←Int.natCast_mul,Int.toNat_natCast]
theorem aEI(a b:Nat):(vl (lim a)+vl (lim b)).toNat=a+b:=by rw[qZ,qZ];omega
theorem aEG(a b:Nat):(vl (lim a)-vl (lim b)).toNat=a-b:=by rw[qZ,qZ];omega
theorem zv(n:Nat)(hn:n<2^63):Con Tryz.prog 189 false [.v (.int .i64 n)] [] (aJk (lim n)):=(apI false n hn).num
theorem apC(cl:Bool)(a k:Nat)(la:(lim a).length≤1000000)(hk:k≤100000000):Con Tryz.prog 195 cl [.sl (lim (a)).length (qb (lim (a))),.v (.int .i64 k)] [] (aq2 (lim (a*2^k))):=by
 have:=aSR cl (lim a) k (q6 a) la hk
 rwa[aax]at this
theorem zP(a k:Nat)(la:(lim a).length≤1000000)(hk:k≤100000000):Con Tryz.prog 195 false [.sl (lim (a)).length (qb (lim (a))),.v (.int .i64 k)] [] (aJk (lim (a*2^k))):=(apC false a k la hk).num
theorem aaa(cl:Bool)(a k:Nat)(la:(lim a).length≤1000000)(hk:k≤100000000):Con Tryz.prog 216 cl [.sl (lim (a)).length (qb (lim (a))),.v (.int .i64 k)] [] (aq2 (lim (a/2^k))):=by
 have:=aCu cl (lim a) k (q6 a) la hk
 rwa[aay]at this
theorem aqh(a k:Nat)(la:(lim a).length≤1000000)(hk:k≤100000000):Con Tryz.prog 216 false [.sl (lim (a)).length (qb (lim (a))),.v (.int .i64 k)] [] (aJk (lim (a/2^k))):=(aaa false a k la hk).num
theorem JH(a b:Nat)(la:(lim a).length≤1000000)(lb:(lim b).length≤1000000):Con Tryz.prog 218 false [.sl (lim (a)).length (qb (lim (a))),.sl (lim (b)).length (qb (lim (b)))] [] (aJk (lim (a*b))):=by
 have:=(apD false (lim a) (lim b) (q6 a) (q6 b) la lb).num
 rwa[aEH]at this
theorem K0(a b:Nat)(la:(lim a).length≤2000000)(lb:(lim b).length≤2000000):Con Tryz.prog 219 false [.sl (lim (a)).length (qb (lim (a))),.sl (lim (b)).length (qb (lim (b)))] [] (aJk (lim (a+b))):=by
 have:=(aCl false (lim a) (lim b) (q6 a) (q6 b) la lb).num
 rwa[aEI]at this
theorem aqi(a d:Nat)(la:(lim a).length≤1000000)(hd:0<d)(hd2:d<65536):
  Con Tryz.prog 295 false [.sl (lim (a)).length (qb (lim (a))),.v (.int .i64 d)] [] (isA (.tu [.sl (lim (a/d)).length (qb (lim (a/d))),.v (.int .i64 ((a % d:Nat):Int))])):=
 Con.frzA <| (aCv false (lim a) d (q6 a) la hd hd2).mono fun r hs bs ⟨zs,h1,h2⟩=>by
  rw[qZ]at h1 h2
  rw[h1,h2]
  have e:((a:Int)/(d:Int)).toNat=a/d:=by
   rw[←Int.natCast_ediv,Int.toNat_natCast]
  rw[e]
  show qE _ 6 _=_
  unfold qE
  simp only[List.map_cons,List.map_nil]
  rw[jT (k:=3) (l:=lim (a/d)) (zs:=zs) zd rfl]
  rw[Int.natCast_emod];rfl
end Go.Ab
