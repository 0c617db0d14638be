/- What the proof of this claim stands on: the walks of the functions and the plain laws, part 3. -/
import Derived.Test.YtcobffkepgogiaaGreatDoorFnDetsLib2
import Derived.Test.YtcobffkepgogiaaGreatDoorProg
import Derived.KernelRfl
import Derived.Shelf.Spec.TrailingZeros
import Derived.Shelf.Small.Bits
import Derived.Shelf.Strconv.Itoa0
set_option linter.unusedVariables false
set_option linter.unusedSimpArgs false
namespace Go.Ab
open Go Go.Proofs
def ti1:TI:=⟨Kd.oth,1,8,Value.nilFunc⟩
theorem tf1:qo Tryz.prog 1=some ti1:=by kernel_rfl
def ti2:TI:=⟨Kd.int IntKind.i64,1,8,Value.int IntKind.i64 0⟩
theorem tf2:qo Tryz.prog 2=some ti2:=by kernel_rfl
def ti3:TI:=⟨Kd.int IntKind.i64,1,8,Value.int IntKind.i64 0⟩
theorem tf3:qo Tryz.prog 3=some ti3:=by kernel_rfl
def ti4:TI:=⟨Kd.bool,1,1,Value.bool false⟩
theorem tf4:qo Tryz.prog 4=some ti4:=by kernel_rfl
def ti5:TI:=⟨Kd.int IntKind.u8,1,1,Value.int IntKind.u8 0⟩
theorem tf5:qo Tryz.prog 5=some ti5:=by kernel_rfl
def ti6:TI:=⟨Kd.int IntKind.u8,1,1,Value.int IntKind.u8 0⟩
theorem tf6:qo Tryz.prog 6=some ti6:=by kernel_rfl
def ti7:TI:=⟨Kd.stru [(0,2),(1,3),(2,4),(3,6)],4,24,Value.agg ⟨[Value.int IntKind.i64 0,Value.int IntKind.i64 0,Value.bool false,Value.int IntKind.u8 0]⟩⟩
theorem tf7:qo Tryz.prog 7=some ti7:=by kernel_rfl
def ti8:TI:=⟨Kd.stru [(0,2),(1,3),(2,4),(3,6)],4,24,Value.agg ⟨[Value.int IntKind.i64 0,Value.int IntKind.i64 0,Value.bool false,Value.int IntKind.u8 0]⟩⟩
theorem tf8:qo Tryz.prog 8=some ti8:=by kernel_rfl
def ti9:TI:=⟨Kd.str,1,16,Value.string {data:=⟨[]⟩}⟩
theorem tf9:qo Tryz.prog 9=some ti9:=by kernel_rfl
def aD7:TI:=⟨Kd.str,1,16,Value.string {data:=⟨[]⟩}⟩
theorem bdj:qo Tryz.prog 10=some aD7:=by kernel_rfl
def aD6:TI:=⟨Kd.str,1,16,Value.string {data:=⟨[]⟩}⟩
theorem bdi:qo Tryz.prog 11=some aD6:=by kernel_rfl
def aD5:TI:=⟨Kd.int IntKind.u64,1,8,Value.int IntKind.u64 0⟩
theorem bdh:qo Tryz.prog 12=some aD5:=by kernel_rfl
def aD4:TI:=⟨Kd.int IntKind.i32,1,4,Value.int IntKind.i32 0⟩
theorem bdg:qo Tryz.prog 21=some aD4:=by kernel_rfl
def aeb:TI:=⟨Kd.sli 5,1,24,Value.slice none 0 0⟩
theorem aEa:qo Tryz.prog 22=some aeb:=by kernel_rfl
def aea:TI:=⟨Kd.sli 40,1,24,Value.slice none 0 0⟩
theorem aD9:qo Tryz.prog 23=some aea:=by kernel_rfl
def aly:TI:=⟨Kd.stru [(0,3),(1,23)],2,32,Value.agg ⟨[Value.int IntKind.i64 0,Value.slice none 0 0]⟩⟩
theorem aTE:qo Tryz.prog 24=some aly:=by kernel_rfl
def alo:TI:=⟨Kd.stru [(0,3),(1,23)],2,32,Value.agg ⟨[Value.int IntKind.i64 0,Value.slice none 0 0]⟩⟩
theorem aTD:qo Tryz.prog 25=some alo:=by kernel_rfl
def aD3:TI:=⟨Kd.oth,1,8,Value.nilFunc⟩
theorem bdf:qo Tryz.prog 27=some aD3:=by kernel_rfl
def aD2:TI:=⟨Kd.oth,1,8,Value.nilFunc⟩
theorem bde:qo Tryz.prog 29=some aD2:=by kernel_rfl
def aD1:TI:=⟨Kd.oth,1,8,Value.nilFunc⟩
theorem bdd:qo Tryz.prog 30=some aD1:=by kernel_rfl
def aD0:TI:=⟨Kd.oth,1,8,Value.nilFunc⟩
theorem bdc:qo Tryz.prog 31=some aD0:=by kernel_rfl
def aDZ:TI:=⟨Kd.oth,1,8,Value.nilFunc⟩
theorem bdb:qo Tryz.prog 32=some aDZ:=by kernel_rfl
def aDY:TI:=⟨Kd.oth,1,8,Value.nilFunc⟩
theorem bda:qo Tryz.prog 33=some aDY:=by kernel_rfl
def Jj:TI:=⟨Kd.sli 3,1,24,Value.slice none 0 0⟩
theorem aec:qo Tryz.prog 34=some Jj:=by kernel_rfl
def aq4:TI:=⟨Kd.stru [(0,34)],1,24,Value.agg ⟨[Value.slice none 0 0]⟩⟩
theorem aWe:qo Tryz.prog 35=some aq4:=by kernel_rfl
def aag:TI:=⟨Kd.stru [(0,34)],1,24,Value.agg ⟨[Value.slice none 0 0]⟩⟩
theorem aAd:qo Tryz.prog 36=some aag:=by kernel_rfl
def akS:TI:=⟨Kd.stru [(0,4),(1,36)],2,32,Value.agg ⟨[Value.bool false,Value.slice none 0 0]⟩⟩
theorem aTC:qo Tryz.prog 37=some akS:=by kernel_rfl
def YM:TI:=⟨Kd.stru [(0,4),(1,36)],2,32,Value.agg ⟨[Value.bool false,Value.slice none 0 0]⟩⟩
theorem aq5:qo Tryz.prog 38=some YM:=by kernel_rfl
def akP:TI:=⟨Kd.stru [(0,38),(2,3)],3,40,Value.agg ⟨[Value.bool false,Value.slice none 0 0,Value.int IntKind.i64 0]⟩⟩
theorem aTB:qo Tryz.prog 39=some akP:=by kernel_rfl
def Q5:TI:=⟨Kd.stru [(0,38),(2,3)],3,40,Value.agg ⟨[Value.bool false,Value.slice none 0 0,Value.int IntKind.i64 0]⟩⟩
theorem V7:qo Tryz.prog 40=some Q5:=by kernel_rfl
def aDX:TI:=⟨Kd.oth,1,8,Value.nilFunc⟩
theorem bc9:qo Tryz.prog 41=some aDX:=by kernel_rfl
def aDW:TI:=⟨Kd.oth,1,8,Value.nilFunc⟩
theorem bc8:qo Tryz.prog 42=some aDW:=by kernel_rfl
def aDV:TI:=⟨Kd.oth,1,8,Value.nilFunc⟩
theorem bc7:qo Tryz.prog 44=some aDV:=by kernel_rfl
def aDU:TI:=⟨Kd.oth,1,8,Value.nilFunc⟩
theorem bc6:qo Tryz.prog 46=some aDU:=by kernel_rfl
def aDT:TI:=⟨Kd.oth,1,8,Value.nilFunc⟩
theorem bc5:qo Tryz.prog 47=some aDT:=by kernel_rfl
def aDS:TI:=⟨Kd.oth,1,8,Value.nilFunc⟩
theorem bc4:qo Tryz.prog 48=some aDS:=by kernel_rfl
def aDR:TI:=⟨Kd.oth,1,8,Value.nilFunc⟩
theorem bc3:qo Tryz.prog 49=some aDR:=by kernel_rfl
def akD:TI:=⟨Kd.stru [(0,40),(3,40)],6,80,Value.agg ⟨[Value.bool false,Value.slice none 0 0,Value.int IntKind.i64 0,Value.bool false,Value.slice none 0 0,Value.int IntKind.i64 0]⟩⟩
theorem aTA:qo Tryz.prog 50=some akD:=by kernel_rfl
def ajK:TI:=⟨Kd.stru [(0,40),(3,40)],6,80,Value.agg ⟨[Value.bool false,Value.slice none 0 0,Value.int IntKind.i64 0,Value.bool false,Value.slice none 0 0,Value.int IntKind.i64 0]⟩⟩
theorem aNl:qo Tryz.prog 51=some ajK:=by kernel_rfl
def aDQ:TI:=⟨Kd.oth,1,8,Value.nilFunc⟩
theorem bc2:qo Tryz.prog 53=some aDQ:=by kernel_rfl
def aDP:TI:=⟨Kd.oth,1,8,Value.nilFunc⟩
theorem bc1:qo Tryz.prog 55=some aDP:=by kernel_rfl
def aDO:TI:=⟨Kd.oth,1,8,Value.nilFunc⟩
theorem bc0:qo Tryz.prog 56=some aDO:=by kernel_rfl
def aDN:TI:=⟨Kd.oth,1,8,Value.nilFunc⟩
theorem bcZ:qo Tryz.prog 57=some aDN:=by kernel_rfl
def aDM:TI:=⟨Kd.oth,1,8,Value.nilFunc⟩
theorem bcY:qo Tryz.prog 58=some aDM:=by kernel_rfl
def aDL:TI:=⟨Kd.oth,1,8,Value.nilFunc⟩
theorem bcX:qo Tryz.prog 60=some aDL:=by kernel_rfl
def aDK:TI:=⟨Kd.oth,1,8,Value.nilFunc⟩
theorem bcW:qo Tryz.prog 61=some aDK:=by kernel_rfl
def aDJ:TI:=⟨Kd.oth,1,8,Value.nilFunc⟩
theorem bcV:qo Tryz.prog 62=some aDJ:=by kernel_rfl
def aDI:TI:=⟨Kd.oth,1,8,Value.nilFunc⟩
theorem bcU:qo Tryz.prog 63=some aDI:=by kernel_rfl
def aDH:TI:=⟨Kd.oth,1,8,Value.nilFunc⟩
theorem bcT:qo Tryz.prog 64=some aDH:=by kernel_rfl
def aDG:TI:=⟨Kd.oth,1,8,Value.nilFunc⟩
theorem bcS:qo Tryz.prog 65=some aDG:=by kernel_rfl
def aDF:TI:=⟨Kd.oth,1,8,Value.nilFunc⟩
theorem bcR:qo Tryz.prog 66=some aDF:=by kernel_rfl
def aDE:TI:=⟨Kd.oth,1,8,Value.nilFunc⟩
theorem bcQ:qo Tryz.prog 68=some aDE:=by kernel_rfl
def ad9:TI:=⟨Kd.sli 51,1,24,Value.slice none 0 0⟩
theorem aD8:qo Tryz.prog 69=some ad9:=by kernel_rfl
def aDD:TI:=⟨Kd.oth,1,8,Value.nilFunc⟩
theorem bcP:qo Tryz.prog 71=some aDD:=by kernel_rfl
def aDC:TI:=⟨Kd.oth,1,8,Value.nilFunc⟩
theorem bcO:qo Tryz.prog 73=some aDC:=by kernel_rfl
def aDB:TI:=⟨Kd.oth,1,8,Value.nilFunc⟩
theorem bcN:qo Tryz.prog 74=some aDB:=by kernel_rfl
def aDA:TI:=⟨Kd.oth,1,8,Value.nilFunc⟩
theorem bcM:qo Tryz.prog 75=some aDA:=by kernel_rfl
def aDz:TI:=⟨Kd.oth,1,8,Value.nilFunc⟩
theorem bcL:qo Tryz.prog 77=some aDz:=by kernel_rfl
def aDy:TI:=⟨Kd.oth,1,8,Value.nilFunc⟩
theorem bcK:qo Tryz.prog 79=some aDy:=by kernel_rfl
def aDx:TI:=⟨Kd.oth,1,8,Value.nilFunc⟩
theorem bcJ:qo Tryz.prog 80=some aDx:=by kernel_rfl
def akc:TI:=⟨Kd.stru [(0,3),(1,69)],2,32,Value.agg ⟨[Value.int IntKind.i64 0,Value.slice none 0 0]⟩⟩
theorem aTz:qo Tryz.prog 81=some akc:=by kernel_rfl
def aka:TI:=⟨Kd.stru [(0,3),(1,69)],2,32,Value.agg ⟨[Value.int IntKind.i64 0,Value.slice none 0 0]⟩⟩
theorem aTy:qo Tryz.prog 82=some aka:=by kernel_rfl
def aDw:TI:=⟨Kd.oth,1,8,Value.nilFunc⟩
theorem bcI:qo Tryz.prog 84=some aDw:=by kernel_rfl
def aDv:TI:=⟨Kd.oth,1,8,Value.nilFunc⟩
theorem bcH:qo Tryz.prog 86=some aDv:=by kernel_rfl
def aDu:TI:=⟨Kd.oth,1,8,Value.nilFunc⟩
theorem bcG:qo Tryz.prog 87=some aDu:=by kernel_rfl
def aDt:TI:=⟨Kd.oth,1,8,Value.nilFunc⟩
theorem bcF:qo Tryz.prog 88=some aDt:=by kernel_rfl
def aDs:TI:=⟨Kd.oth,1,8,Value.nilFunc⟩
theorem bcE:qo Tryz.prog 89=some aDs:=by kernel_rfl
def aDr:TI:=⟨Kd.oth,1,8,Value.nilFunc⟩
theorem bcD:qo Tryz.prog 91=some aDr:=by kernel_rfl
def aDq:TI:=⟨Kd.oth,1,8,Value.nilFunc⟩
theorem bcC:qo Tryz.prog 92=some aDq:=by kernel_rfl
def aDp:TI:=⟨Kd.oth,1,8,Value.nilFunc⟩
theorem bcB:qo Tryz.prog 93=some aDp:=by kernel_rfl
def aDo:TI:=⟨Kd.oth,1,8,Value.nilFunc⟩
theorem bcA:qo Tryz.prog 94=some aDo:=by kernel_rfl
def aDn:TI:=⟨Kd.oth,1,8,Value.nilFunc⟩
theorem bcz:qo Tryz.prog 96=some aDn:=by kernel_rfl
def aDm:TI:=⟨Kd.oth,1,8,Value.nilFunc⟩
theorem bcy:qo Tryz.prog 97=some aDm:=by kernel_rfl
def aDl:TI:=⟨Kd.oth,1,8,Value.nilFunc⟩
theorem bcx:qo Tryz.prog 98=some aDl:=by kernel_rfl
def aDk:TI:=⟨Kd.oth,1,8,Value.nilFunc⟩
theorem bcw:qo Tryz.prog 99=some aDk:=by kernel_rfl
def V6:TI:=⟨Kd.oth,1,8,Value.nilFunc⟩
theorem aYx:qo Tryz.prog 100=some V6:=by kernel_rfl
def V5:TI:=⟨Kd.oth,1,8,Value.nilFunc⟩
theorem aYw:qo Tryz.prog 101=some V5:=by kernel_rfl
def V4:TI:=⟨Kd.oth,1,8,Value.nilFunc⟩
theorem aYv:qo Tryz.prog 102=some V4:=by kernel_rfl
def V3:TI:=⟨Kd.oth,1,8,Value.nilFunc⟩
theorem aYu:qo Tryz.prog 103=some V3:=by kernel_rfl
def V2:TI:=⟨Kd.oth,1,8,Value.nilFunc⟩
theorem aYt:qo Tryz.prog 105=some V2:=by kernel_rfl
def V1:TI:=⟨Kd.oth,1,8,Value.nilFunc⟩
theorem aYs:qo Tryz.prog 106=some V1:=by kernel_rfl
def V0:TI:=⟨Kd.oth,1,8,Value.nilFunc⟩
theorem aYr:qo Tryz.prog 107=some V0:=by kernel_rfl
def VZ:TI:=⟨Kd.oth,1,8,Value.nilFunc⟩
theorem aYq:qo Tryz.prog 108=some VZ:=by kernel_rfl
def VY:TI:=⟨Kd.oth,1,8,Value.nilFunc⟩
theorem aYp:qo Tryz.prog 109=some VY:=by kernel_rfl
def VX:TI:=⟨Kd.oth,1,8,Value.nilFunc⟩
theorem aYo:qo Tryz.prog 110=some VX:=by kernel_rfl
def yJ:TI:=⟨Kd.sli 118,1,24,Value.slice none 0 0⟩
theorem JS:qo Tryz.prog 111=some yJ:=by kernel_rfl
def Zm:TI:=⟨Kd.stru [(0,3),(1,111)],2,32,Value.agg ⟨[Value.int IntKind.i64 0,Value.slice none 0 0]⟩⟩
theorem aAi:qo Tryz.prog 112=some Zm:=by kernel_rfl
def Zl:TI:=⟨Kd.stru [(0,3),(1,111)],2,32,Value.agg ⟨[Value.int IntKind.i64 0,Value.slice none 0 0]⟩⟩
theorem aAh:qo Tryz.prog 113=some Zl:=by kernel_rfl
def VW:TI:=⟨Kd.oth,1,8,Value.nilFunc⟩
theorem aYn:qo Tryz.prog 114=some VW:=by kernel_rfl
def VV:TI:=⟨Kd.oth,1,8,Value.nilFunc⟩
theorem aYm:qo Tryz.prog 115=some VV:=by kernel_rfl
def VU:TI:=⟨Kd.oth,1,8,Value.nilFunc⟩
theorem aYl:qo Tryz.prog 116=some VU:=by kernel_rfl
def QX:TI:=⟨Kd.stru [(0,4),(1,34),(2,3)],3,40,Value.agg ⟨[Value.bool false,Value.slice none 0 0,Value.int IntKind.i64 0]⟩⟩
theorem anU:qo Tryz.prog 117=some QX:=by kernel_rfl
def z7:TI:=⟨Kd.stru [(0,4),(1,34),(2,3)],3,40,Value.agg ⟨[Value.bool false,Value.slice none 0 0,Value.int IntKind.i64 0]⟩⟩
theorem jY:qo Tryz.prog 118=some z7:=by kernel_rfl
def VT:TI:=⟨Kd.oth,1,8,Value.nilFunc⟩
theorem aYk:qo Tryz.prog 119=some VT:=by kernel_rfl
def VS:TI:=⟨Kd.oth,1,8,Value.nilFunc⟩
theorem aYj:qo Tryz.prog 120=some VS:=by kernel_rfl
def VR:TI:=⟨Kd.oth,1,8,Value.nilFunc⟩
theorem aYi:qo Tryz.prog 121=some VR:=by kernel_rfl
def VQ:TI:=⟨Kd.oth,1,8,Value.nilFunc⟩
theorem aYh:qo Tryz.prog 122=some VQ:=by kernel_rfl
def VP:TI:=⟨Kd.oth,1,8,Value.nilFunc⟩
theorem aYg:qo Tryz.prog 123=some VP:=by kernel_rfl
def VO:TI:=⟨Kd.oth,1,8,Value.nilFunc⟩
theorem aYf:qo Tryz.prog 124=some VO:=by kernel_rfl
def VN:TI:=⟨Kd.oth,1,8,Value.nilFunc⟩
theorem aYe:qo Tryz.prog 125=some VN:=by kernel_rfl
def VM:TI:=⟨Kd.oth,1,8,Value.nilFunc⟩
theorem aYd:qo Tryz.prog 126=some VM:=by kernel_rfl
def VL:TI:=⟨Kd.oth,1,8,Value.nilFunc⟩
theorem aYc:qo Tryz.prog 127=some VL:=by kernel_rfl
def VK:TI:=⟨Kd.oth,1,8,Value.nilFunc⟩
theorem aYb:qo Tryz.prog 128=some VK:=by kernel_rfl
def VJ:TI:=⟨Kd.oth,1,8,Value.nilFunc⟩
theorem aYa:qo Tryz.prog 129=some VJ:=by kernel_rfl
def VI:TI:=⟨Kd.oth,1,8,Value.nilFunc⟩
theorem aX9:qo Tryz.prog 130=some VI:=by kernel_rfl
def VH:TI:=⟨Kd.oth,1,8,Value.nilFunc⟩
theorem aX8:qo Tryz.prog 131=some VH:=by kernel_rfl
def Zk:TI:=⟨Kd.stru [(0,118),(3,118)],6,80,Value.agg ⟨[Value.bool false,Value.slice none 0 0,Value.int IntKind.i64 0,Value.bool false,Value.slice none 0 0,Value.int IntKind.i64 0]⟩⟩
theorem aAg:qo Tryz.prog 132=some Zk:=by kernel_rfl
def QW:TI:=⟨Kd.stru [(0,118),(3,118)],6,80,Value.agg ⟨[Value.bool false,Value.slice none 0 0,Value.int IntKind.i64 0,Value.bool false,Value.slice none 0 0,Value.int IntKind.i64 0]⟩⟩
theorem anT:qo Tryz.prog 133=some QW:=by kernel_rfl
def VG:TI:=⟨Kd.oth,1,8,Value.nilFunc⟩
theorem aX7:qo Tryz.prog 134=some VG:=by kernel_rfl
def VF:TI:=⟨Kd.oth,1,8,Value.nilFunc⟩
theorem aX6:qo Tryz.prog 135=some VF:=by kernel_rfl
def VE:TI:=⟨Kd.oth,1,8,Value.nilFunc⟩
theorem aX5:qo Tryz.prog 136=some VE:=by kernel_rfl
def VD:TI:=⟨Kd.oth,1,8,Value.nilFunc⟩
theorem aX4:qo Tryz.prog 137=some VD:=by kernel_rfl
def VC:TI:=⟨Kd.oth,1,8,Value.nilFunc⟩
theorem aX3:qo Tryz.prog 138=some VC:=by kernel_rfl
def VB:TI:=⟨Kd.oth,1,8,Value.nilFunc⟩
theorem aX2:qo Tryz.prog 139=some VB:=by kernel_rfl
def VA:TI:=⟨Kd.oth,1,8,Value.nilFunc⟩
theorem aX1:qo Tryz.prog 140=some VA:=by kernel_rfl
def Vz:TI:=⟨Kd.oth,1,8,Value.nilFunc⟩
theorem aX0:qo Tryz.prog 142=some Vz:=by kernel_rfl
def Vy:TI:=⟨Kd.oth,1,8,Value.nilFunc⟩
theorem aXZ:qo Tryz.prog 143=some Vy:=by kernel_rfl
def Vx:TI:=⟨Kd.oth,1,8,Value.nilFunc⟩
theorem aXY:qo Tryz.prog 144=some Vx:=by kernel_rfl
def Vw:TI:=⟨Kd.oth,1,8,Value.nilFunc⟩
theorem aXX:qo Tryz.prog 145=some Vw:=by kernel_rfl
def Vv:TI:=⟨Kd.oth,1,8,Value.nilFunc⟩
theorem aXW:qo Tryz.prog 146=some Vv:=by kernel_rfl
def Vu:TI:=⟨Kd.oth,1,8,Value.nilFunc⟩
theorem aXV:qo Tryz.prog 147=some Vu:=by kernel_rfl
def Vt:TI:=⟨Kd.oth,1,8,Value.nilFunc⟩
theorem aXU:qo Tryz.prog 148=some Vt:=by kernel_rfl
def Vs:TI:=⟨Kd.oth,1,8,Value.nilFunc⟩
theorem aXT:qo Tryz.prog 149=some Vs:=by kernel_rfl
def Vr:TI:=⟨Kd.oth,1,8,Value.nilFunc⟩
theorem aXS:qo Tryz.prog 151=some Vr:=by kernel_rfl
def Vq:TI:=⟨Kd.oth,1,8,Value.nilFunc⟩
theorem aXR:qo Tryz.prog 152=some Vq:=by kernel_rfl
def yV:TI:=⟨Kd.sli 133,1,24,Value.slice none 0 0⟩
theorem V8:qo Tryz.prog 153=some yV:=by kernel_rfl
def Zj:TI:=⟨Kd.stru [(0,3),(1,153)],2,32,Value.agg ⟨[Value.int IntKind.i64 0,Value.slice none 0 0]⟩⟩
theorem aAf:qo Tryz.prog 154=some Zj:=by kernel_rfl
def Zi:TI:=⟨Kd.stru [(0,3),(1,153)],2,32,Value.agg ⟨[Value.int IntKind.i64 0,Value.slice none 0 0]⟩⟩
theorem aAe:qo Tryz.prog 155=some Zi:=by kernel_rfl
def Vp:TI:=⟨Kd.oth,1,8,Value.nilFunc⟩
theorem aXQ:qo Tryz.prog 156=some Vp:=by kernel_rfl
def Vo:TI:=⟨Kd.oth,1,8,Value.nilFunc⟩
theorem aXP:qo Tryz.prog 157=some Vo:=by kernel_rfl
def Vn:TI:=⟨Kd.oth,1,8,Value.nilFunc⟩
theorem aXO:qo Tryz.prog 158=some Vn:=by kernel_rfl
def Vm:TI:=⟨Kd.oth,1,8,Value.nilFunc⟩
theorem aXN:qo Tryz.prog 159=some Vm:=by kernel_rfl
def Vl:TI:=⟨Kd.oth,1,8,Value.nilFunc⟩
theorem aXM:qo Tryz.prog 160=some Vl:=by kernel_rfl
def Vk:TI:=⟨Kd.oth,1,8,Value.nilFunc⟩
theorem aXL:qo Tryz.prog 161=some Vk:=by kernel_rfl
def Vj:TI:=⟨Kd.oth,1,8,Value.nilFunc⟩
theorem aXK:qo Tryz.prog 163=some Vj:=by kernel_rfl
def Vi:TI:=⟨Kd.oth,1,8,Value.nilFunc⟩
theorem aXJ:qo Tryz.prog 164=some Vi:=by kernel_rfl
def Vh:TI:=⟨Kd.oth,1,8,Value.nilFunc⟩
theorem aXI:qo Tryz.prog 165=some Vh:=by kernel_rfl
def Vg:TI:=⟨Kd.oth,1,8,Value.nilFunc⟩
theorem aXH:qo Tryz.prog 166=some Vg:=by kernel_rfl
def Vf:TI:=⟨Kd.oth,1,8,Value.nilFunc⟩
theorem aXG:qo Tryz.prog 167=some Vf:=by kernel_rfl
def Ve:TI:=⟨Kd.oth,1,8,Value.nilFunc⟩
theorem aXF:qo Tryz.prog 168=some Ve:=by kernel_rfl
def Vd:TI:=⟨Kd.oth,1,8,Value.nilFunc⟩
theorem aXE:qo Tryz.prog 169=some Vd:=by kernel_rfl
def Vc:TI:=⟨Kd.oth,1,8,Value.nilFunc⟩
theorem aXD:qo Tryz.prog 170=some Vc:=by kernel_rfl
def Vb:TI:=⟨Kd.oth,1,8,Value.nilFunc⟩
theorem aXC:qo Tryz.prog 171=some Vb:=by kernel_rfl
def Va:TI:=⟨Kd.oth,1,8,Value.nilFunc⟩
theorem aXB:qo Tryz.prog 173=some Va:=by kernel_rfl
def QV:TI:=⟨Kd.stru [(0,22),(1,3),(2,3)],3,40,Value.agg ⟨[Value.slice none 0 0,Value.int IntKind.i64 0,Value.int IntKind.i64 0]⟩⟩
theorem anS:qo Tryz.prog 174=some QV:=by kernel_rfl
def QU:TI:=⟨Kd.stru [(0,22),(1,3),(2,3)],3,40,Value.agg ⟨[Value.slice none 0 0,Value.int IntKind.i64 0,Value.int IntKind.i64 0]⟩⟩
theorem anR:qo Tryz.prog 175=some QU:=by kernel_rfl
def X9:TI:=⟨Kd.oth,1,8,Value.nilFunc⟩
theorem aXA:qo Tryz.prog 176=some X9:=by kernel_rfl
def X8:TI:=⟨Kd.oth,1,8,Value.nilFunc⟩
theorem aXz:qo Tryz.prog 177=some X8:=by kernel_rfl
def X7:TI:=⟨Kd.oth,1,8,Value.nilFunc⟩
theorem aXy:qo Tryz.prog 178=some X7:=by kernel_rfl
def X6:TI:=⟨Kd.oth,1,8,Value.nilFunc⟩
theorem aXx:qo Tryz.prog 179=some X6:=by kernel_rfl
def X5:TI:=⟨Kd.oth,1,8,Value.nilFunc⟩
theorem aXw:qo Tryz.prog 180=some X5:=by kernel_rfl
def X4:TI:=⟨Kd.oth,1,8,Value.nilFunc⟩
theorem aXv:qo Tryz.prog 182=some X4:=by kernel_rfl
def X3:TI:=⟨Kd.oth,1,8,Value.nilFunc⟩
theorem aXu:qo Tryz.prog 183=some X3:=by kernel_rfl
def X2:TI:=⟨Kd.oth,1,8,Value.nilFunc⟩
theorem aXt:qo Tryz.prog 184=some X2:=by kernel_rfl
def X1:TI:=⟨Kd.oth,1,8,Value.nilFunc⟩
theorem aXs:qo Tryz.prog 185=some X1:=by kernel_rfl
def X0:TI:=⟨Kd.oth,1,8,Value.nilFunc⟩
theorem aXr:qo Tryz.prog 186=some X0:=by kernel_rfl
def XZ:TI:=⟨Kd.oth,1,8,Value.nilFunc⟩
theorem aXq:qo Tryz.prog 187=some XZ:=by kernel_rfl
def XY:TI:=⟨Kd.oth,1,8,Value.nilFunc⟩
theorem aXp:qo Tryz.prog 188=some XY:=by kernel_rfl
def XX:TI:=⟨Kd.oth,1,8,Value.nilFunc⟩
theorem aXo:qo Tryz.prog 189=some XX:=by kernel_rfl
def XW:TI:=⟨Kd.oth,1,8,Value.nilFunc⟩
theorem aXn:qo Tryz.prog 190=some XW:=by kernel_rfl
def XV:TI:=⟨Kd.oth,1,8,Value.nilFunc⟩
theorem aXm:qo Tryz.prog 191=some XV:=by kernel_rfl
def XU:TI:=⟨Kd.oth,1,8,Value.nilFunc⟩
theorem aXl:qo Tryz.prog 192=some XU:=by kernel_rfl
def XT:TI:=⟨Kd.oth,1,8,Value.nilFunc⟩
theorem aXk:qo Tryz.prog 194=some XT:=by kernel_rfl
def XS:TI:=⟨Kd.sli 111,1,24,Value.slice none 0 0⟩
theorem aNm:qo Tryz.prog 195=some XS:=by kernel_rfl
def XR:TI:=⟨Kd.oth,1,8,Value.nilFunc⟩
theorem aXj:qo Tryz.prog 196=some XR:=by kernel_rfl
def XQ:TI:=⟨Kd.oth,1,8,Value.nilFunc⟩
theorem aXi:qo Tryz.prog 197=some XQ:=by kernel_rfl
def XP:TI:=⟨Kd.oth,1,8,Value.nilFunc⟩
theorem aXh:qo Tryz.prog 198=some XP:=by kernel_rfl
def XO:TI:=⟨Kd.oth,1,8,Value.nilFunc⟩
theorem aXg:qo Tryz.prog 199=some XO:=by kernel_rfl
def XN:TI:=⟨Kd.oth,1,8,Value.nilFunc⟩
theorem aXf:qo Tryz.prog 201=some XN:=by kernel_rfl
def XM:TI:=⟨Kd.oth,1,8,Value.nilFunc⟩
theorem aXe:qo Tryz.prog 203=some XM:=by kernel_rfl
def XL:TI:=⟨Kd.oth,1,8,Value.nilFunc⟩
theorem aXd:qo Tryz.prog 204=some XL:=by kernel_rfl
def XK:TI:=⟨Kd.oth,1,8,Value.nilFunc⟩
theorem aXc:qo Tryz.prog 205=some XK:=by kernel_rfl
def XJ:TI:=⟨Kd.oth,1,8,Value.nilFunc⟩
theorem aXb:qo Tryz.prog 207=some XJ:=by kernel_rfl
def XI:TI:=⟨Kd.oth,1,8,Value.nilFunc⟩
theorem aXa:qo Tryz.prog 208=some XI:=by kernel_rfl
def XH:TI:=⟨Kd.oth,1,8,Value.nilFunc⟩
theorem aW9:qo Tryz.prog 209=some XH:=by kernel_rfl
def XG:TI:=⟨Kd.oth,1,8,Value.nilFunc⟩
theorem aW8:qo Tryz.prog 210=some XG:=by kernel_rfl
def XF:TI:=⟨Kd.oth,1,8,Value.nilFunc⟩
theorem aW7:qo Tryz.prog 211=some XF:=by kernel_rfl
def XE:TI:=⟨Kd.oth,1,8,Value.nilFunc⟩
theorem aW6:qo Tryz.prog 212=some XE:=by kernel_rfl
def XD:TI:=⟨Kd.oth,1,8,Value.nilFunc⟩
theorem aW5:qo Tryz.prog 213=some XD:=by kernel_rfl
def XC:TI:=⟨Kd.oth,1,8,Value.nilFunc⟩
theorem aW4:qo Tryz.prog 214=some XC:=by kernel_rfl
def XB:TI:=⟨Kd.oth,1,8,Value.nilFunc⟩
theorem aW3:qo Tryz.prog 215=some XB:=by kernel_rfl
def XA:TI:=⟨Kd.int IntKind.u64,1,8,Value.int IntKind.u64 0⟩
theorem aW2:qo Tryz.prog 216=some XA:=by kernel_rfl
def Xz:TI:=⟨Kd.oth,1,8,Value.nilFunc⟩
theorem aW1:qo Tryz.prog 217=some Xz:=by kernel_rfl
def Xy:TI:=⟨Kd.oth,1,8,Value.nilFunc⟩
theorem aW0:qo Tryz.prog 218=some Xy:=by kernel_rfl
def Xx:TI:=⟨Kd.oth,1,8,Value.nilFunc⟩
theorem aWZ:qo Tryz.prog 219=some Xx:=by kernel_rfl
def Xw:TI:=⟨Kd.oth,1,8,Value.nilFunc⟩
theorem aWY:qo Tryz.prog 220=some Xw:=by kernel_rfl
def Xv:TI:=⟨Kd.oth,1,8,Value.nilFunc⟩
theorem aWX:qo Tryz.prog 221=some Xv:=by kernel_rfl
def Xu:TI:=⟨Kd.oth,1,8,Value.nilFunc⟩
theorem aWW:qo Tryz.prog 222=some Xu:=by kernel_rfl
def Xt:TI:=⟨Kd.oth,1,8,Value.nilFunc⟩
theorem aWV:qo Tryz.prog 224=some Xt:=by kernel_rfl
def Xs:TI:=⟨Kd.oth,1,8,Value.nilFunc⟩
theorem aWU:qo Tryz.prog 225=some Xs:=by kernel_rfl
def Xr:TI:=⟨Kd.oth,1,8,Value.nilFunc⟩
theorem aWT:qo Tryz.prog 226=some Xr:=by kernel_rfl
def Xq:TI:=⟨Kd.oth,1,8,Value.nilFunc⟩
theorem aWS:qo Tryz.prog 227=some Xq:=by kernel_rfl
def Xp:TI:=⟨Kd.oth,1,8,Value.nilFunc⟩
theorem aWR:qo Tryz.prog 228=some Xp:=by kernel_rfl
def Xo:TI:=⟨Kd.oth,1,8,Value.nilFunc⟩
theorem aWQ:qo Tryz.prog 229=some Xo:=by kernel_rfl
def Xn:TI:=⟨Kd.oth,1,8,Value.nilFunc⟩
theorem aWP:qo Tryz.prog 230=some Xn:=by kernel_rfl
def Xm:TI:=⟨Kd.oth,1,8,Value.nilFunc⟩
theorem aWO:qo Tryz.prog 231=some Xm:=by kernel_rfl
def Xl:TI:=⟨Kd.oth,1,8,Value.nilFunc⟩
theorem aWN:qo Tryz.prog 232=some Xl:=by kernel_rfl
def Xk:TI:=⟨Kd.oth,1,8,Value.nilFunc⟩
theorem aWM:qo Tryz.prog 233=some Xk:=by kernel_rfl
def Xj:TI:=⟨Kd.oth,1,8,Value.nilFunc⟩
theorem aWL:qo Tryz.prog 234=some Xj:=by kernel_rfl
def Xi:TI:=⟨Kd.oth,1,8,Value.nilFunc⟩
theorem aWK:qo Tryz.prog 235=some Xi:=by kernel_rfl
def Xh:TI:=⟨Kd.oth,1,8,Value.nilFunc⟩
theorem aWJ:qo Tryz.prog 236=some Xh:=by kernel_rfl
def Xg:TI:=⟨Kd.oth,1,8,Value.nilFunc⟩
theorem aWI:qo Tryz.prog 237=some Xg:=by kernel_rfl
def Xf:TI:=⟨Kd.oth,1,8,Value.nilFunc⟩
theorem aWH:qo Tryz.prog 238=some Xf:=by kernel_rfl
def Xe:TI:=⟨Kd.oth,1,8,Value.nilFunc⟩
theorem aWG:qo Tryz.prog 239=some Xe:=by kernel_rfl
def Xd:TI:=⟨Kd.oth,1,8,Value.nilFunc⟩
theorem aWF:qo Tryz.prog 240=some Xd:=by kernel_rfl
def Xc:TI:=⟨Kd.oth,1,8,Value.nilFunc⟩
theorem aWE:qo Tryz.prog 241=some Xc:=by kernel_rfl
def Xb:TI:=⟨Kd.oth,1,8,Value.nilFunc⟩
theorem aWD:qo Tryz.prog 242=some Xb:=by kernel_rfl
def Xa:TI:=⟨Kd.oth,1,8,Value.nilFunc⟩
theorem aWC:qo Tryz.prog 243=some Xa:=by kernel_rfl
def Y9:TI:=⟨Kd.oth,1,8,Value.nilFunc⟩
theorem aWB:qo Tryz.prog 245=some Y9:=by kernel_rfl
def Y8:TI:=⟨Kd.oth,1,8,Value.nilFunc⟩
theorem aWA:qo Tryz.prog 246=some Y8:=by kernel_rfl
def Y7:TI:=⟨Kd.oth,1,8,Value.nilFunc⟩
theorem aWz:qo Tryz.prog 247=some Y7:=by kernel_rfl
def Y6:TI:=⟨Kd.oth,1,8,Value.nilFunc⟩
theorem aWy:qo Tryz.prog 249=some Y6:=by kernel_rfl
def Y5:TI:=⟨Kd.oth,1,8,Value.nilFunc⟩
theorem aWx:qo Tryz.prog 250=some Y5:=by kernel_rfl
def Y4:TI:=⟨Kd.oth,1,8,Value.nilFunc⟩
theorem aWw:qo Tryz.prog 251=some Y4:=by kernel_rfl
def Y3:TI:=⟨Kd.int IntKind.u32,1,4,Value.int IntKind.u32 0⟩
theorem aWv:qo Tryz.prog 252=some Y3:=by kernel_rfl
def Y2:TI:=⟨Kd.oth,1,8,Value.nilFunc⟩
theorem aWu:qo Tryz.prog 253=some Y2:=by kernel_rfl
def Y1:TI:=⟨Kd.int IntKind.u64,1,8,Value.int IntKind.u64 0⟩
theorem aWt:qo Tryz.prog 254=some Y1:=by kernel_rfl
def Y0:TI:=⟨Kd.oth,1,8,Value.nilFunc⟩
theorem aWs:qo Tryz.prog 256=some Y0:=by kernel_rfl
def YZ:TI:=⟨Kd.oth,1,8,Value.nilFunc⟩
theorem aWr:qo Tryz.prog 257=some YZ:=by kernel_rfl
def YY:TI:=⟨Kd.oth,1,8,Value.nilFunc⟩
theorem aWq:qo Tryz.prog 258=some YY:=by kernel_rfl
def YX:TI:=⟨Kd.oth,1,8,Value.nilFunc⟩
theorem aWp:qo Tryz.prog 259=some YX:=by kernel_rfl
def YW:TI:=⟨Kd.oth,1,8,Value.nilFunc⟩
theorem aWo:qo Tryz.prog 260=some YW:=by kernel_rfl
def YV:TI:=⟨Kd.oth,1,8,Value.nilFunc⟩
theorem aWn:qo Tryz.prog 263=some YV:=by kernel_rfl
def YU:TI:=⟨Kd.stru [(0,266)],0,0,Value.agg ⟨[]⟩⟩
theorem aWm:qo Tryz.prog 267=some YU:=by kernel_rfl
def YT:TI:=⟨Kd.stru [(0,266)],0,0,Value.agg ⟨[]⟩⟩
theorem aWl:qo Tryz.prog 268=some YT:=by kernel_rfl
def YS:TI:=⟨Kd.int IntKind.u8,1,1,Value.int IntKind.u8 0⟩
theorem aWk:qo Tryz.prog 269=some YS:=by kernel_rfl
def YR:TI:=⟨Kd.int IntKind.u8,1,1,Value.int IntKind.u8 0⟩
theorem aWj:qo Tryz.prog 270=some YR:=by kernel_rfl
def YQ:TI:=⟨Kd.oth,1,8,Value.nilFunc⟩
theorem aWi:qo Tryz.prog 271=some YQ:=by kernel_rfl
def YP:TI:=⟨Kd.int IntKind.i32,1,4,Value.int IntKind.i32 0⟩
theorem aWh:qo Tryz.prog 273=some YP:=by kernel_rfl
def YO:TI:=⟨Kd.int IntKind.i32,1,4,Value.int IntKind.i32 0⟩
theorem aWg:qo Tryz.prog 274=some YO:=by kernel_rfl
def YN:TI:=⟨Kd.oth,1,8,Value.nilFunc⟩
theorem aWf:qo Tryz.prog 277=some YN:=by kernel_rfl
theorem ty1{K:TI→Prop}:@tyW Tryz.prog 1 ⟨K⟩=K ti1:=qh tf1
theorem aNk:ti1.kd=Kd.oth:=ID rfl
theorem aIc:ti1.kd.agg=false:=ID rfl
theorem avA:ti1.size=1:=ID rfl
theorem amf:ti1.bytes=8:=ID rfl
theorem aNi:qw ti1=True:=eq_true rfl
theorem aNj:zc ti1=[.v Value.nilFunc]:=ID rfl
theorem ty2{K:TI→Prop}:@tyW Tryz.prog 2 ⟨K⟩=K ti2:=qh tf2
theorem aNh:ti2.kd=Kd.int IntKind.i64:=ID rfl
theorem aHQ:ti2.kd.agg=false:=ID rfl
theorem asp:ti2.size=1:=ID rfl
theorem ak0:ti2.bytes=8:=ID rfl
theorem aNf:qw ti2=True:=eq_true rfl
theorem aNg:zc ti2=[.v (Value.int IntKind.i64 0)]:=ID rfl
theorem ty3{K:TI→Prop}:@tyW Tryz.prog 3 ⟨K⟩=K ti3:=qh tf3
theorem aNe:ti3.kd=Kd.int IntKind.i64:=ID rfl
theorem aHl:ti3.kd.agg=false:=ID rfl
theorem ase:ti3.size=1:=ID rfl
theorem akN:ti3.bytes=8:=ID rfl
theorem aNc:qw ti3=True:=eq_true rfl
theorem aNd:zc ti3=[.v (Value.int IntKind.i64 0)]:=ID rfl
theorem ty4{K:TI→Prop}:@tyW Tryz.prog 4 ⟨K⟩=K ti4:=qh tf4
theorem aNb:ti4.kd=Kd.bool:=ID rfl
theorem aGW:ti4.kd.agg=false:=ID rfl
theorem ar5:ti4.size=1:=ID rfl
theorem akE:ti4.bytes=1:=ID rfl
theorem aM9:qw ti4=True:=eq_true rfl
theorem aNa:zc ti4=[.v (Value.bool false)]:=ID rfl
theorem ty5{K:TI→Prop}:@tyW Tryz.prog 5 ⟨K⟩=K ti5:=qh tf5
theorem aM8:ti5.kd=Kd.int IntKind.u8:=ID rfl
theorem aGA:ti5.kd.agg=false:=ID rfl
theorem arX:ti5.size=1:=ID rfl
theorem akv:ti5.bytes=1:=ID rfl
theorem aM6:qw ti5=True:=eq_true rfl
theorem aM7:zc ti5=[.v (Value.int IntKind.u8 0)]:=ID rfl
theorem ty6{K:TI→Prop}:@tyW Tryz.prog 6 ⟨K⟩=K ti6:=qh tf6
theorem aM5:ti6.kd=Kd.int IntKind.u8:=ID rfl
theorem aF8:ti6.kd.agg=false:=ID rfl
theorem arN:ti6.size=1:=ID rfl
theorem akl:ti6.bytes=1:=ID rfl
theorem aM3:qw ti6=True:=eq_true rfl
theorem aM4:zc ti6=[.v (Value.int IntKind.u8 0)]:=ID rfl
theorem ty7{K:TI→Prop}:@tyW Tryz.prog 7 ⟨K⟩=K ti7:=qh tf7
theorem aM2:ti7.kd=Kd.stru [(0,2),(1,3),(2,4),(3,6)]:=ID rfl
theorem aFP:ti7.kd.agg=true:=ID rfl
theorem arG:ti7.size=4:=ID rfl
theorem ake:ti7.bytes=24:=ID rfl
theorem aM0:qw ti7=True:=eq_true rfl
theorem aM1:zc ti7=[.v (Value.int IntKind.i64 0),.v (Value.int IntKind.i64 0),.v (Value.bool false),.v (Value.int IntKind.u8 0)]:=ID rfl
theorem aSo{K:Nat→TI→Prop}:@qz Tryz.prog 7 0 ⟨K⟩=K 0 ti2:=qs (ti:=ti7) (tf:=ti2) (fo:=(0,2)) (fs:=[(0,2),(1,3),(2,4),(3,6)]) tf7 rfl rfl tf2
theorem aYW{K:Nat→Nat→Prop}:qt Tryz.prog [(0,2),(1,3),(2,4),(3,6)] 0 K=K 0 1:=qr (tf:=ti2) (fo:=(0,2)) (fs:=[(0,2),(1,3),(2,4),(3,6)]) rfl tf2
theorem aSn{K:Nat→TI→Prop}:@qz Tryz.prog 7 1 ⟨K⟩=K 1 ti3:=qs (ti:=ti7) (tf:=ti3) (fo:=(1,3)) (fs:=[(0,2),(1,3),(2,4),(3,6)]) tf7 rfl rfl tf3
theorem aYV{K:Nat→Nat→Prop}:qt Tryz.prog [(0,2),(1,3),(2,4),(3,6)] 1 K=K 1 1:=qr (tf:=ti3) (fo:=(1,3)) (fs:=[(0,2),(1,3),(2,4),(3,6)]) rfl tf3
theorem aSm{K:Nat→TI→Prop}:@qz Tryz.prog 7 2 ⟨K⟩=K 2 ti4:=qs (ti:=ti7) (tf:=ti4) (fo:=(2,4)) (fs:=[(0,2),(1,3),(2,4),(3,6)]) tf7 rfl rfl tf4
theorem aYU{K:Nat→Nat→Prop}:qt Tryz.prog [(0,2),(1,3),(2,4),(3,6)] 2 K=K 2 1:=qr (tf:=ti4) (fo:=(2,4)) (fs:=[(0,2),(1,3),(2,4),(3,6)]) rfl tf4
theorem aSl{K:Nat→TI→Prop}:@qz Tryz.prog 7 3 ⟨K⟩=K 3 ti6:=qs (ti:=ti7) (tf:=ti6) (fo:=(3,6)) (fs:=[(0,2),(1,3),(2,4),(3,6)]) tf7 rfl rfl tf6
theorem aYT{K:Nat→Nat→Prop}:qt Tryz.prog [(0,2),(1,3),(2,4),(3,6)] 3 K=K 3 1:=qr (tf:=ti6) (fo:=(3,6)) (fs:=[(0,2),(1,3),(2,4),(3,6)]) rfl tf6
theorem aZh:∀f∈([(0,2),(1,3),(2,4),(3,6)]:List (Nat×Nat)),(qo Tryz.prog f.2).isSome=true:=by
 intro f hf
 simp only[List.mem_cons,List.not_mem_nil,or_false]at hf
 rcases hf with rfl|rfl|rfl|rfl
 ·rw[tf2];rfl
 ·rw[tf3];rfl
 ·rw[tf4];rfl
 ·rw[tf6];rfl
theorem bdZ{ps:List (Nat×AV)}{K:AV→Prop}:@zg Tryz.prog 7 ps ⟨K⟩=@ze (qt Tryz.prog [(0,2),(1,3),(2,4),(3,6)]) (zc ti7) ps ⟨fun cs=>K (.ag cs)⟩:=qJ tf7 rfl aZh
theorem ty8{K:TI→Prop}:@tyW Tryz.prog 8 ⟨K⟩=K ti8:=qh tf8
theorem aMZ:ti8.kd=Kd.stru [(0,2),(1,3),(2,4),(3,6)]:=ID rfl
theorem aFq:ti8.kd.agg=true:=ID rfl
theorem arx:ti8.size=4:=ID rfl
theorem aj3:ti8.bytes=24:=ID rfl
theorem aMX:qw ti8=True:=eq_true rfl
theorem aMY:zc ti8=[.v (Value.int IntKind.i64 0),.v (Value.int IntKind.i64 0),.v (Value.bool false),.v (Value.int IntKind.u8 0)]:=ID rfl
theorem aSk{K:Nat→TI→Prop}:@qz Tryz.prog 8 0 ⟨K⟩=K 0 ti2:=qs (ti:=ti8) (tf:=ti2) (fo:=(0,2)) (fs:=[(0,2),(1,3),(2,4),(3,6)]) tf8 rfl rfl tf2
theorem aYS{K:Nat→Nat→Prop}:qt Tryz.prog [(0,2),(1,3),(2,4),(3,6)] 0 K=K 0 1:=qr (tf:=ti2) (fo:=(0,2)) (fs:=[(0,2),(1,3),(2,4),(3,6)]) rfl tf2
theorem aSj{K:Nat→TI→Prop}:@qz Tryz.prog 8 1 ⟨K⟩=K 1 ti3:=qs (ti:=ti8) (tf:=ti3) (fo:=(1,3)) (fs:=[(0,2),(1,3),(2,4),(3,6)]) tf8 rfl rfl tf3
theorem aYR{K:Nat→Nat→Prop}:qt Tryz.prog [(0,2),(1,3),(2,4),(3,6)] 1 K=K 1 1:=qr (tf:=ti3) (fo:=(1,3)) (fs:=[(0,2),(1,3),(2,4),(3,6)]) rfl tf3
theorem aSi{K:Nat→TI→Prop}:@qz Tryz.prog 8 2 ⟨K⟩=K 2 ti4:=qs (ti:=ti8) (tf:=ti4) (fo:=(2,4)) (fs:=[(0,2),(1,3),(2,4),(3,6)]) tf8 rfl rfl tf4
theorem aYQ{K:Nat→Nat→Prop}:qt Tryz.prog [(0,2),(1,3),(2,4),(3,6)] 2 K=K 2 1:=qr (tf:=ti4) (fo:=(2,4)) (fs:=[(0,2),(1,3),(2,4),(3,6)]) rfl tf4
theorem aSh{K:Nat→TI→Prop}:@qz Tryz.prog 8 3 ⟨K⟩=K 3 ti6:=qs (ti:=ti8) (tf:=ti6) (fo:=(3,6)) (fs:=[(0,2),(1,3),(2,4),(3,6)]) tf8 rfl rfl tf6
theorem aYP{K:Nat→Nat→Prop}:qt Tryz.prog [(0,2),(1,3),(2,4),(3,6)] 3 K=K 3 1:=qr (tf:=ti6) (fo:=(3,6)) (fs:=[(0,2),(1,3),(2,4),(3,6)]) rfl tf6
theorem aZg:∀f∈([(0,2),(1,3),(2,4),(3,6)]:List (Nat×Nat)),(qo Tryz.prog f.2).isSome=true:=by
 intro f hf
 simp only[List.mem_cons,List.not_mem_nil,or_false]at hf
 rcases hf with rfl|rfl|rfl|rfl
 ·rw[tf2];rfl
 ·rw[tf3];rfl
 ·rw[tf4];rfl
 ·rw[tf6];rfl
theorem bdY{ps:List (Nat×AV)}{K:AV→Prop}:@zg Tryz.prog 8 ps ⟨K⟩=@ze (qt Tryz.prog [(0,2),(1,3),(2,4),(3,6)]) (zc ti8) ps ⟨fun cs=>K (.ag cs)⟩:=qJ tf8 rfl aZg
theorem ty9{K:TI→Prop}:@tyW Tryz.prog 9 ⟨K⟩=K ti9:=qh tf9
theorem aMW:ti9.kd=Kd.str:=ID rfl
theorem aE1:ti9.kd.agg=false:=ID rfl
theorem arn:ti9.size=1:=ID rfl
theorem ajU:ti9.bytes=16:=ID rfl
theorem aMU:qw ti9=True:=eq_true rfl
theorem aMV:zc ti9=[.v (Value.string {data:=⟨[]⟩})]:=ID rfl
theorem bcu{K:TI→Prop}:@tyW Tryz.prog 10 ⟨K⟩=K aD7:=qh bdj
theorem aIl:aD7.kd=Kd.str:=ID rfl
theorem azJ:aD7.kd.agg=false:=ID rfl
theorem anG:aD7.size=1:=ID rfl
theorem aih:aD7.bytes=16:=ID rfl
theorem aIj:qw aD7=True:=eq_true rfl
theorem aIk:zc aD7=[.v (Value.string {data:=⟨[]⟩})]:=ID rfl
theorem bct{K:TI→Prop}:@tyW Tryz.prog 11 ⟨K⟩=K aD6:=qh bdi
theorem aIi:aD6.kd=Kd.str:=ID rfl
theorem aze:aD6.kd.agg=false:=ID rfl
theorem anu:aD6.size=1:=ID rfl
theorem ah6:aD6.bytes=16:=ID rfl
theorem aIg:qw aD6=True:=eq_true rfl
theorem aIh:zc aD6=[.v (Value.string {data:=⟨[]⟩})]:=ID rfl
theorem bcs{K:TI→Prop}:@tyW Tryz.prog 12 ⟨K⟩=K aD5:=qh bdh
theorem aIf:aD5.kd=Kd.int IntKind.u64:=ID rfl
theorem ayJ:aD5.kd.agg=false:=ID rfl
theorem anj:aD5.size=1:=ID rfl
theorem ahV:aD5.bytes=8:=ID rfl
theorem aId:qw aD5=True:=eq_true rfl
theorem aIe:zc aD5=[.v (Value.int IntKind.u64 0)]:=ID rfl
theorem bcr{K:TI→Prop}:@tyW Tryz.prog 21 ⟨K⟩=K aD4:=qh bdg
theorem aIb:aD4.kd=Kd.int IntKind.i32:=ID rfl
theorem auK:aD4.kd.agg=false:=ID rfl
theorem alX:aD4.size=1:=ID rfl
theorem agB:aD4.bytes=4:=ID rfl
theorem aH9:qw aD4=True:=eq_true rfl
theorem aIa:zc aD4=[.v (Value.int IntKind.i32 0)]:=ID rfl
theorem bcq{K:TI→Prop}:@tyW Tryz.prog 22 ⟨K⟩=K aeb:=qh aEa
theorem aH8:aeb.kd=Kd.sli 5:=ID rfl
theorem aui:aeb.kd.agg=false:=ID rfl
theorem alN:aeb.size=1:=ID rfl
theorem agr:aeb.bytes=24:=ID rfl
theorem aH6:qw aeb=True:=eq_true rfl
theorem aH7:zc aeb=[.v (Value.slice none 0 0)]:=ID rfl
theorem aYF{K:TI→Prop}:@yA Tryz.prog 22 ⟨K⟩=K ti5:=Zr aEa rfl tf5
theorem bcp{K:TI→Prop}:@tyW Tryz.prog 23 ⟨K⟩=K aea:=qh aD9
theorem aH5:aea.kd=Kd.sli 40:=ID rfl
theorem atN:aea.kd.agg=false:=ID rfl
theorem alz:aea.size=1:=ID rfl
theorem agf:aea.bytes=24:=ID rfl
theorem aH3:qw aea=True:=eq_true rfl
theorem aH4:zc aea=[.v (Value.slice none 0 0)]:=ID rfl
theorem aYE{K:TI→Prop}:@yA Tryz.prog 23 ⟨K⟩=K Q5:=Zr aD9 rfl V7
theorem bco{K:TI→Prop}:@tyW Tryz.prog 24 ⟨K⟩=K aly:=qh aTE
theorem aH2:aly.kd=Kd.stru [(0,3),(1,23)]:=ID rfl
theorem ato:aly.kd.agg=true:=ID rfl
theorem alp:aly.size=2:=ID rfl
theorem af6:aly.bytes=32:=ID rfl
theorem aH0:qw aly=True:=eq_true rfl
theorem aH1:zc aly=[.v (Value.int IntKind.i64 0),.v (Value.slice none 0 0)]:=ID rfl
theorem aLb{K:Nat→TI→Prop}:@qz Tryz.prog 24 0 ⟨K⟩=K 0 ti3:=qs (ti:=aly) (tf:=ti3) (fo:=(0,3)) (fs:=[(0,3),(1,23)]) aTE rfl rfl tf3
theorem aOe{K:Nat→Nat→Prop}:qt Tryz.prog [(0,3),(1,23)] 0 K=K 0 1:=qr (tf:=ti3) (fo:=(0,3)) (fs:=[(0,3),(1,23)]) rfl tf3
theorem aLa{K:Nat→TI→Prop}:@qz Tryz.prog 24 1 ⟨K⟩=K 1 aea:=qs (ti:=aly) (tf:=aea) (fo:=(1,23)) (fs:=[(0,3),(1,23)]) aTE rfl rfl aD9
theorem aOd{K:Nat→Nat→Prop}:qt Tryz.prog [(0,3),(1,23)] 1 K=K 1 1:=qr (tf:=aea) (fo:=(1,23)) (fs:=[(0,3),(1,23)]) rfl aD9
theorem aO3:∀f∈([(0,3),(1,23)]:List (Nat×Nat)),(qo Tryz.prog f.2).isSome=true:=by
 intro f hf
 simp only[List.mem_cons,List.not_mem_nil,or_false]at hf
 rcases hf with rfl|rfl
 ·rw[tf3];rfl
 ·rw[aD9];rfl
theorem ba7{ps:List (Nat×AV)}{K:AV→Prop}:@zg Tryz.prog 24 ps ⟨K⟩=@ze (qt Tryz.prog [(0,3),(1,23)]) (zc aly) ps ⟨fun cs=>K (.ag cs)⟩:=qJ aTE rfl aO3
theorem bcn{K:TI→Prop}:@tyW Tryz.prog 25 ⟨K⟩=K alo:=qh aTD
theorem aHZ:alo.kd=Kd.stru [(0,3),(1,23)]:=ID rfl
theorem asW:alo.kd.agg=true:=ID rfl
theorem ald:alo.size=2:=ID rfl
theorem afW:alo.bytes=32:=ID rfl
theorem aHX:qw alo=True:=eq_true rfl
theorem aHY:zc alo=[.v (Value.int IntKind.i64 0),.v (Value.slice none 0 0)]:=ID rfl
theorem aK9{K:Nat→TI→Prop}:@qz Tryz.prog 25 0 ⟨K⟩=K 0 ti3:=qs (ti:=alo) (tf:=ti3) (fo:=(0,3)) (fs:=[(0,3),(1,23)]) aTD rfl rfl tf3
theorem aOc{K:Nat→Nat→Prop}:qt Tryz.prog [(0,3),(1,23)] 0 K=K 0 1:=qr (tf:=ti3) (fo:=(0,3)) (fs:=[(0,3),(1,23)]) rfl tf3
theorem aK8{K:Nat→TI→Prop}:@qz Tryz.prog 25 1 ⟨K⟩=K 1 aea:=qs (ti:=alo) (tf:=aea) (fo:=(1,23)) (fs:=[(0,3),(1,23)]) aTD rfl rfl aD9
theorem aOb{K:Nat→Nat→Prop}:qt Tryz.prog [(0,3),(1,23)] 1 K=K 1 1:=qr (tf:=aea) (fo:=(1,23)) (fs:=[(0,3),(1,23)]) rfl aD9
theorem aO2:∀f∈([(0,3),(1,23)]:List (Nat×Nat)),(qo Tryz.prog f.2).isSome=true:=by
 intro f hf
 simp only[List.mem_cons,List.not_mem_nil,or_false]at hf
 rcases hf with rfl|rfl
 ·rw[tf3];rfl
 ·rw[aD9];rfl
theorem ba6{ps:List (Nat×AV)}{K:AV→Prop}:@zg Tryz.prog 25 ps ⟨K⟩=@ze (qt Tryz.prog [(0,3),(1,23)]) (zc alo) ps ⟨fun cs=>K (.ag cs)⟩:=qJ aTD rfl aO2
theorem bcm{K:TI→Prop}:@tyW Tryz.prog 27 ⟨K⟩=K aD3:=qh bdf
theorem aHW:aD3.kd=Kd.oth:=ID rfl
theorem asr:aD3.kd.agg=false:=ID rfl
theorem ak2:aD3.size=1:=ID rfl
theorem afL:aD3.bytes=8:=ID rfl
theorem aHU:qw aD3=True:=eq_true rfl
theorem aHV:zc aD3=[.v Value.nilFunc]:=ID rfl
theorem bcl{K:TI→Prop}:@tyW Tryz.prog 29 ⟨K⟩=K aD2:=qh bde
theorem aHT:aD2.kd=Kd.oth:=ID rfl
theorem asq:aD2.kd.agg=false:=ID rfl
theorem ak1:aD2.size=1:=ID rfl
theorem afK:aD2.bytes=8:=ID rfl
theorem aHR:qw aD2=True:=eq_true rfl
theorem aHS:zc aD2=[.v Value.nilFunc]:=ID rfl
theorem bck{K:TI→Prop}:@tyW Tryz.prog 30 ⟨K⟩=K aD1:=qh bdd
theorem aHP:aD1.kd=Kd.oth:=ID rfl
theorem aso:aD1.kd.agg=false:=ID rfl
theorem akZ:aD1.size=1:=ID rfl
theorem afJ:aD1.bytes=8:=ID rfl
theorem aHN:qw aD1=True:=eq_true rfl
theorem aHO:zc aD1=[.v Value.nilFunc]:=ID rfl
theorem bcj{K:TI→Prop}:@tyW Tryz.prog 31 ⟨K⟩=K aD0:=qh bdc
theorem aHM:aD0.kd=Kd.oth:=ID rfl
theorem asn:aD0.kd.agg=false:=ID rfl
theorem akY:aD0.size=1:=ID rfl
theorem afI:aD0.bytes=8:=ID rfl
theorem aHK:qw aD0=True:=eq_true rfl
theorem aHL:zc aD0=[.v Value.nilFunc]:=ID rfl
theorem bci{K:TI→Prop}:@tyW Tryz.prog 32 ⟨K⟩=K aDZ:=qh bdb
theorem aHJ:aDZ.kd=Kd.oth:=ID rfl
theorem asm:aDZ.kd.agg=false:=ID rfl
theorem akX:aDZ.size=1:=ID rfl
theorem afH:aDZ.bytes=8:=ID rfl
theorem aHH:qw aDZ=True:=eq_true rfl
theorem aHI:zc aDZ=[.v Value.nilFunc]:=ID rfl
theorem bch{K:TI→Prop}:@tyW Tryz.prog 33 ⟨K⟩=K aDY:=qh bda
theorem aHG:aDY.kd=Kd.oth:=ID rfl
theorem asl:aDY.kd.agg=false:=ID rfl
theorem akW:aDY.size=1:=ID rfl
theorem afG:aDY.bytes=8:=ID rfl
theorem aHE:qw aDY=True:=eq_true rfl
theorem aHF:zc aDY=[.v Value.nilFunc]:=ID rfl
theorem bcg{K:TI→Prop}:@tyW Tryz.prog 34 ⟨K⟩=K Jj:=qh aec
theorem aHD:Jj.kd=Kd.sli 3:=ID rfl
theorem ask:Jj.kd.agg=false:=ID rfl
theorem akV:Jj.size=1:=ID rfl
theorem afF:Jj.bytes=24:=ID rfl
theorem aHB:qw Jj=True:=eq_true rfl
theorem aHC:zc Jj=[.v (Value.slice none 0 0)]:=ID rfl
theorem aYD{K:TI→Prop}:@yA Tryz.prog 34 ⟨K⟩=K ti3:=Zr aec rfl tf3
theorem bcf{K:TI→Prop}:@tyW Tryz.prog 35 ⟨K⟩=K aq4:=qh aWe
theorem aHA:aq4.kd=Kd.stru [(0,34)]:=ID rfl
theorem asj:aq4.kd.agg=true:=ID rfl
theorem akU:aq4.size=1:=ID rfl
theorem afE:aq4.bytes=24:=ID rfl
theorem aHy:qw aq4=True:=eq_true rfl
theorem aHz:zc aq4=[.v (Value.slice none 0 0)]:=ID rfl
theorem aK7{K:Nat→TI→Prop}:@qz Tryz.prog 35 0 ⟨K⟩=K 0 Jj:=qs (ti:=aq4) (tf:=Jj) (fo:=(0,34)) (fs:=[(0,34)]) aWe rfl rfl aec
theorem aOa{K:Nat→Nat→Prop}:qt Tryz.prog [(0,34)] 0 K=K 0 1:=qr (tf:=Jj) (fo:=(0,34)) (fs:=[(0,34)]) rfl aec
theorem aO1:∀f∈([(0,34)]:List (Nat×Nat)),(qo Tryz.prog f.2).isSome=true:=by
 intro f hf
 simp only[List.mem_cons,List.not_mem_nil,or_false]at hf
 subst hf;rw[aec];rfl
theorem ba5{ps:List (Nat×AV)}{K:AV→Prop}:@zg Tryz.prog 35 ps ⟨K⟩=@ze (qt Tryz.prog [(0,34)]) (zc aq4) ps ⟨fun cs=>K (.ag cs)⟩:=qJ aWe rfl aO1
theorem bce{K:TI→Prop}:@tyW Tryz.prog 36 ⟨K⟩=K aag:=qh aAd
theorem aHx:aag.kd=Kd.stru [(0,34)]:=ID rfl
theorem asi:aag.kd.agg=true:=ID rfl
theorem akT:aag.size=1:=ID rfl
theorem afD:aag.bytes=24:=ID rfl
theorem aHv:qw aag=True:=eq_true rfl
theorem aHw:zc aag=[.v (Value.slice none 0 0)]:=ID rfl
theorem aK6{K:Nat→TI→Prop}:@qz Tryz.prog 36 0 ⟨K⟩=K 0 Jj:=qs (ti:=aag) (tf:=Jj) (fo:=(0,34)) (fs:=[(0,34)]) aAd rfl rfl aec
theorem aN9{K:Nat→Nat→Prop}:qt Tryz.prog [(0,34)] 0 K=K 0 1:=qr (tf:=Jj) (fo:=(0,34)) (fs:=[(0,34)]) rfl aec
theorem aO0:∀f∈([(0,34)]:List (Nat×Nat)),(qo Tryz.prog f.2).isSome=true:=by
 intro f hf
 simp only[List.mem_cons,List.not_mem_nil,or_false]at hf
 subst hf;rw[aec];rfl
theorem ba4{ps:List (Nat×AV)}{K:AV→Prop}:@zg Tryz.prog 36 ps ⟨K⟩=@ze (qt Tryz.prog [(0,34)]) (zc aag) ps ⟨fun cs=>K (.ag cs)⟩:=qJ aAd rfl aO0
theorem bcd{K:TI→Prop}:@tyW Tryz.prog 37 ⟨K⟩=K akS:=qh aTC
theorem aHu:akS.kd=Kd.stru [(0,4),(1,36)]:=ID rfl
theorem ash:akS.kd.agg=true:=ID rfl
theorem akR:akS.size=2:=ID rfl
theorem afC:akS.bytes=32:=ID rfl
theorem aHs:qw akS=True:=eq_true rfl
theorem aHt:zc akS=[.v (Value.bool false),.v (Value.slice none 0 0)]:=ID rfl
theorem aK5{K:Nat→TI→Prop}:@qz Tryz.prog 37 0 ⟨K⟩=K 0 ti4:=qs (ti:=akS) (tf:=ti4) (fo:=(0,4)) (fs:=[(0,4),(1,36)]) aTC rfl rfl tf4
theorem aN8{K:Nat→Nat→Prop}:qt Tryz.prog [(0,4),(1,36)] 0 K=K 0 1:=qr (tf:=ti4) (fo:=(0,4)) (fs:=[(0,4),(1,36)]) rfl tf4
theorem aK4{K:Nat→TI→Prop}:@qz Tryz.prog 37 1 ⟨K⟩=K 1 aag:=qs (ti:=akS) (tf:=aag) (fo:=(1,36)) (fs:=[(0,4),(1,36)]) aTC rfl rfl aAd
theorem aN7{K:Nat→Nat→Prop}:qt Tryz.prog [(0,4),(1,36)] 1 K=K 1 1:=qr (tf:=aag) (fo:=(1,36)) (fs:=[(0,4),(1,36)]) rfl aAd
theorem aOZ:∀f∈([(0,4),(1,36)]:List (Nat×Nat)),(qo Tryz.prog f.2).isSome=true:=by
 intro f hf
 simp only[List.mem_cons,List.not_mem_nil,or_false]at hf
 rcases hf with rfl|rfl
 ·rw[tf4];rfl
 ·rw[aAd];rfl
theorem ba3{ps:List (Nat×AV)}{K:AV→Prop}:@zg Tryz.prog 37 ps ⟨K⟩=@ze (qt Tryz.prog [(0,4),(1,36)]) (zc akS) ps ⟨fun cs=>K (.ag cs)⟩:=qJ aTC rfl aOZ
theorem bcc{K:TI→Prop}:@tyW Tryz.prog 38 ⟨K⟩=K YM:=qh aq5
theorem aHr:YM.kd=Kd.stru [(0,4),(1,36)]:=ID rfl
theorem asg:YM.kd.agg=true:=ID rfl
theorem akQ:YM.size=2:=ID rfl
theorem afB:YM.bytes=32:=ID rfl
theorem aHp:qw YM=True:=eq_true rfl
theorem aHq:zc YM=[.v (Value.bool false),.v (Value.slice none 0 0)]:=ID rfl
theorem aK3{K:Nat→TI→Prop}:@qz Tryz.prog 38 0 ⟨K⟩=K 0 ti4:=qs (ti:=YM) (tf:=ti4) (fo:=(0,4)) (fs:=[(0,4),(1,36)]) aq5 rfl rfl tf4
theorem aN6{K:Nat→Nat→Prop}:qt Tryz.prog [(0,4),(1,36)] 0 K=K 0 1:=qr (tf:=ti4) (fo:=(0,4)) (fs:=[(0,4),(1,36)]) rfl tf4
theorem aK2{K:Nat→TI→Prop}:@qz Tryz.prog 38 1 ⟨K⟩=K 1 aag:=qs (ti:=YM) (tf:=aag) (fo:=(1,36)) (fs:=[(0,4),(1,36)]) aq5 rfl rfl aAd
theorem aN5{K:Nat→Nat→Prop}:qt Tryz.prog [(0,4),(1,36)] 1 K=K 1 1:=qr (tf:=aag) (fo:=(1,36)) (fs:=[(0,4),(1,36)]) rfl aAd
theorem aOY:∀f∈([(0,4),(1,36)]:List (Nat×Nat)),(qo Tryz.prog f.2).isSome=true:=by
 intro f hf
 simp only[List.mem_cons,List.not_mem_nil,or_false]at hf
 rcases hf with rfl|rfl
 ·rw[tf4];rfl
 ·rw[aAd];rfl
theorem ba2{ps:List (Nat×AV)}{K:AV→Prop}:@zg Tryz.prog 38 ps ⟨K⟩=@ze (qt Tryz.prog [(0,4),(1,36)]) (zc YM) ps ⟨fun cs=>K (.ag cs)⟩:=qJ aq5 rfl aOY
theorem bcb{K:TI→Prop}:@tyW Tryz.prog 39 ⟨K⟩=K akP:=qh aTB
theorem aHo:akP.kd=Kd.stru [(0,38),(2,3)]:=ID rfl
theorem asf:akP.kd.agg=true:=ID rfl
theorem akO:akP.size=3:=ID rfl
theorem afA:akP.bytes=40:=ID rfl
theorem aHm:qw akP=True:=eq_true rfl
theorem aHn:zc akP=[.v (Value.bool false),.v (Value.slice none 0 0),.v (Value.int IntKind.i64 0)]:=ID rfl
theorem aK1{K:Nat→TI→Prop}:@qz Tryz.prog 39 0 ⟨K⟩=K 0 YM:=qs (ti:=akP) (tf:=YM) (fo:=(0,38)) (fs:=[(0,38),(2,3)]) aTB rfl rfl aq5
theorem aN4{K:Nat→Nat→Prop}:qt Tryz.prog [(0,38),(2,3)] 0 K=K 0 2:=qr (tf:=YM) (fo:=(0,38)) (fs:=[(0,38),(2,3)]) rfl aq5
theorem aK0{K:Nat→TI→Prop}:@qz Tryz.prog 39 1 ⟨K⟩=K 2 ti3:=qs (ti:=akP) (tf:=ti3) (fo:=(2,3)) (fs:=[(0,38),(2,3)]) aTB rfl rfl tf3
theorem aN3{K:Nat→Nat→Prop}:qt Tryz.prog [(0,38),(2,3)] 1 K=K 2 1:=qr (tf:=ti3) (fo:=(2,3)) (fs:=[(0,38),(2,3)]) rfl tf3
theorem aOX:∀f∈([(0,38),(2,3)]:List (Nat×Nat)),(qo Tryz.prog f.2).isSome=true:=by
 intro f hf
 simp only[List.mem_cons,List.not_mem_nil,or_false]at hf
 rcases hf with rfl|rfl
 ·rw[aq5];rfl
 ·rw[tf3];rfl
theorem ba1{ps:List (Nat×AV)}{K:AV→Prop}:@zg Tryz.prog 39 ps ⟨K⟩=@ze (qt Tryz.prog [(0,38),(2,3)]) (zc akP) ps ⟨fun cs=>K (.ag cs)⟩:=qJ aTB rfl aOX
theorem bca{K:TI→Prop}:@tyW Tryz.prog 40 ⟨K⟩=K Q5:=qh V7
theorem aHk:Q5.kd=Kd.stru [(0,38),(2,3)]:=ID rfl
theorem asd:Q5.kd.agg=true:=ID rfl
theorem akM:Q5.size=3:=ID rfl
theorem afz:Q5.bytes=40:=ID rfl
theorem aHi:qw Q5=True:=eq_true rfl
theorem aHj:zc Q5=[.v (Value.bool false),.v (Value.slice none 0 0),.v (Value.int IntKind.i64 0)]:=ID rfl
theorem aKZ{K:Nat→TI→Prop}:@qz Tryz.prog 40 0 ⟨K⟩=K 0 YM:=qs (ti:=Q5) (tf:=YM) (fo:=(0,38)) (fs:=[(0,38),(2,3)]) V7 rfl rfl aq5
theorem aN2{K:Nat→Nat→Prop}:qt Tryz.prog [(0,38),(2,3)] 0 K=K 0 2:=qr (tf:=YM) (fo:=(0,38)) (fs:=[(0,38),(2,3)]) rfl aq5
theorem aKY{K:Nat→TI→Prop}:@qz Tryz.prog 40 1 ⟨K⟩=K 2 ti3:=qs (ti:=Q5) (tf:=ti3) (fo:=(2,3)) (fs:=[(0,38),(2,3)]) V7 rfl rfl tf3
theorem aN1{K:Nat→Nat→Prop}:qt Tryz.prog [(0,38),(2,3)] 1 K=K 2 1:=qr (tf:=ti3) (fo:=(2,3)) (fs:=[(0,38),(2,3)]) rfl tf3
theorem aOW:∀f∈([(0,38),(2,3)]:List (Nat×Nat)),(qo Tryz.prog f.2).isSome=true:=by
 intro f hf
 simp only[List.mem_cons,List.not_mem_nil,or_false]at hf
 rcases hf with rfl|rfl
 ·rw[aq5];rfl
 ·rw[tf3];rfl
theorem ba0{ps:List (Nat×AV)}{K:AV→Prop}:@zg Tryz.prog 40 ps ⟨K⟩=@ze (qt Tryz.prog [(0,38),(2,3)]) (zc Q5) ps ⟨fun cs=>K (.ag cs)⟩:=qJ V7 rfl aOW
theorem bb9{K:TI→Prop}:@tyW Tryz.prog 41 ⟨K⟩=K aDX:=qh bc9
theorem aHh:aDX.kd=Kd.oth:=ID rfl
theorem asc:aDX.kd.agg=false:=ID rfl
theorem akL:aDX.size=1:=ID rfl
theorem afy:aDX.bytes=8:=ID rfl
theorem aHf:qw aDX=True:=eq_true rfl
theorem aHg:zc aDX=[.v Value.nilFunc]:=ID rfl
theorem bb8{K:TI→Prop}:@tyW Tryz.prog 42 ⟨K⟩=K aDW:=qh bc8
theorem aHe:aDW.kd=Kd.oth:=ID rfl
theorem asb:aDW.kd.agg=false:=ID rfl
theorem akK:aDW.size=1:=ID rfl
theorem afx:aDW.bytes=8:=ID rfl
theorem aHc:qw aDW=True:=eq_true rfl
theorem aHd:zc aDW=[.v Value.nilFunc]:=ID rfl
theorem bb7{K:TI→Prop}:@tyW Tryz.prog 44 ⟨K⟩=K aDV:=qh bc7
theorem aHb:aDV.kd=Kd.oth:=ID rfl
theorem asa:aDV.kd.agg=false:=ID rfl
theorem akJ:aDV.size=1:=ID rfl
theorem afw:aDV.bytes=8:=ID rfl
theorem aG9:qw aDV=True:=eq_true rfl
theorem aHa:zc aDV=[.v Value.nilFunc]:=ID rfl
theorem bb6{K:TI→Prop}:@tyW Tryz.prog 46 ⟨K⟩=K aDU:=qh bc6
theorem aG8:aDU.kd=Kd.oth:=ID rfl
theorem ar9:aDU.kd.agg=false:=ID rfl
theorem akI:aDU.size=1:=ID rfl
theorem afv:aDU.bytes=8:=ID rfl
theorem aG6:qw aDU=True:=eq_true rfl
theorem aG7:zc aDU=[.v Value.nilFunc]:=ID rfl
theorem bb5{K:TI→Prop}:@tyW Tryz.prog 47 ⟨K⟩=K aDT:=qh bc5
theorem aG5:aDT.kd=Kd.oth:=ID rfl
theorem ar8:aDT.kd.agg=false:=ID rfl
theorem akH:aDT.size=1:=ID rfl
theorem afu:aDT.bytes=8:=ID rfl
theorem aG3:qw aDT=True:=eq_true rfl
theorem aG4:zc aDT=[.v Value.nilFunc]:=ID rfl
theorem bb4{K:TI→Prop}:@tyW Tryz.prog 48 ⟨K⟩=K aDS:=qh bc4
theorem aG2:aDS.kd=Kd.oth:=ID rfl
theorem ar7:aDS.kd.agg=false:=ID rfl
theorem akG:aDS.size=1:=ID rfl
theorem aft:aDS.bytes=8:=ID rfl
theorem aG0:qw aDS=True:=eq_true rfl
theorem aG1:zc aDS=[.v Value.nilFunc]:=ID rfl
theorem bb3{K:TI→Prop}:@tyW Tryz.prog 49 ⟨K⟩=K aDR:=qh bc3
theorem aGZ:aDR.kd=Kd.oth:=ID rfl
theorem ar6:aDR.kd.agg=false:=ID rfl
theorem akF:aDR.size=1:=ID rfl
theorem afs:aDR.bytes=8:=ID rfl
theorem aGX:qw aDR=True:=eq_true rfl
theorem aGY:zc aDR=[.v Value.nilFunc]:=ID rfl
theorem bb2{K:TI→Prop}:@tyW Tryz.prog 50 ⟨K⟩=K akD:=qh aTA
theorem aGV:akD.kd=Kd.stru [(0,40),(3,40)]:=ID rfl
theorem ar4:akD.kd.agg=true:=ID rfl
theorem akC:akD.size=6:=ID rfl
theorem afr:akD.bytes=80:=ID rfl
theorem aGT:qw akD=True:=eq_true rfl
theorem aGU:zc akD=[.v (Value.bool false),.v (Value.slice none 0 0),.v (Value.int IntKind.i64 0),.v (Value.bool false),.v (Value.slice none 0 0),.v (Value.int IntKind.i64 0)]:=ID rfl
theorem aKX{K:Nat→TI→Prop}:@qz Tryz.prog 50 0 ⟨K⟩=K 0 Q5:=qs (ti:=akD) (tf:=Q5) (fo:=(0,40)) (fs:=[(0,40),(3,40)]) aTA rfl rfl V7
theorem aN0{K:Nat→Nat→Prop}:qt Tryz.prog [(0,40),(3,40)] 0 K=K 0 3:=qr (tf:=Q5) (fo:=(0,40)) (fs:=[(0,40),(3,40)]) rfl V7
theorem aKW{K:Nat→TI→Prop}:@qz Tryz.prog 50 1 ⟨K⟩=K 3 Q5:=qs (ti:=akD) (tf:=Q5) (fo:=(3,40)) (fs:=[(0,40),(3,40)]) aTA rfl rfl V7
theorem aNZ{K:Nat→Nat→Prop}:qt Tryz.prog [(0,40),(3,40)] 1 K=K 3 3:=qr (tf:=Q5) (fo:=(3,40)) (fs:=[(0,40),(3,40)]) rfl V7
theorem aOV:∀f∈([(0,40),(3,40)]:List (Nat×Nat)),(qo Tryz.prog f.2).isSome=true:=by
 intro f hf
 simp only[List.mem_cons,List.not_mem_nil,or_false]at hf
 rcases hf with rfl|rfl
 ·rw[V7];rfl
 ·rw[V7];rfl
theorem baZ{ps:List (Nat×AV)}{K:AV→Prop}:@zg Tryz.prog 50 ps ⟨K⟩=@ze (qt Tryz.prog [(0,40),(3,40)]) (zc akD) ps ⟨fun cs=>K (.ag cs)⟩:=qJ aTA rfl aOV
theorem bb1{K:TI→Prop}:@tyW Tryz.prog 51 ⟨K⟩=K ajK:=qh aNl
theorem aGS:ajK.kd=Kd.stru [(0,40),(3,40)]:=ID rfl
theorem ar3:ajK.kd.agg=true:=ID rfl
theorem akB:ajK.size=6:=ID rfl
theorem afq:ajK.bytes=80:=ID rfl
theorem aGQ:qw ajK=True:=eq_true rfl
theorem aGR:zc ajK=[.v (Value.bool false),.v (Value.slice none 0 0),.v (Value.int IntKind.i64 0),.v (Value.bool false),.v (Value.slice none 0 0),.v (Value.int IntKind.i64 0)]:=ID rfl
theorem aKV{K:Nat→TI→Prop}:@qz Tryz.prog 51 0 ⟨K⟩=K 0 Q5:=qs (ti:=ajK) (tf:=Q5) (fo:=(0,40)) (fs:=[(0,40),(3,40)]) aNl rfl rfl V7
theorem aNY{K:Nat→Nat→Prop}:qt Tryz.prog [(0,40),(3,40)] 0 K=K 0 3:=qr (tf:=Q5) (fo:=(0,40)) (fs:=[(0,40),(3,40)]) rfl V7
theorem aKU{K:Nat→TI→Prop}:@qz Tryz.prog 51 1 ⟨K⟩=K 3 Q5:=qs (ti:=ajK) (tf:=Q5) (fo:=(3,40)) (fs:=[(0,40),(3,40)]) aNl rfl rfl V7
theorem aNX{K:Nat→Nat→Prop}:qt Tryz.prog [(0,40),(3,40)] 1 K=K 3 3:=qr (tf:=Q5) (fo:=(3,40)) (fs:=[(0,40),(3,40)]) rfl V7
theorem aOU:∀f∈([(0,40),(3,40)]:List (Nat×Nat)),(qo Tryz.prog f.2).isSome=true:=by
 intro f hf
 simp only[List.mem_cons,List.not_mem_nil,or_false]at hf
 rcases hf with rfl|rfl
 ·rw[V7];rfl
 ·rw[V7];rfl
theorem baY{ps:List (Nat×AV)}{K:AV→Prop}:@zg Tryz.prog 51 ps ⟨K⟩=@ze (qt Tryz.prog [(0,40),(3,40)]) (zc ajK) ps ⟨fun cs=>K (.ag cs)⟩:=qJ aNl rfl aOU
theorem bb0{K:TI→Prop}:@tyW Tryz.prog 53 ⟨K⟩=K aDQ:=qh bc2
theorem aGP:aDQ.kd=Kd.oth:=ID rfl
theorem ar2:aDQ.kd.agg=false:=ID rfl
theorem akA:aDQ.size=1:=ID rfl
theorem afp:aDQ.bytes=8:=ID rfl
theorem aGN:qw aDQ=True:=eq_true rfl
theorem aGO:zc aDQ=[.v Value.nilFunc]:=ID rfl
theorem bbZ{K:TI→Prop}:@tyW Tryz.prog 55 ⟨K⟩=K aDP:=qh bc1
theorem aGM:aDP.kd=Kd.oth:=ID rfl
theorem ar1:aDP.kd.agg=false:=ID rfl
theorem akz:aDP.size=1:=ID rfl
theorem afo:aDP.bytes=8:=ID rfl
theorem aGK:qw aDP=True:=eq_true rfl
theorem aGL:zc aDP=[.v Value.nilFunc]:=ID rfl
theorem bbY{K:TI→Prop}:@tyW Tryz.prog 56 ⟨K⟩=K aDO:=qh bc0
theorem aGJ:aDO.kd=Kd.oth:=ID rfl
theorem ar0:aDO.kd.agg=false:=ID rfl
theorem aky:aDO.size=1:=ID rfl
theorem afn:aDO.bytes=8:=ID rfl
theorem aGH:qw aDO=True:=eq_true rfl
theorem aGI:zc aDO=[.v Value.nilFunc]:=ID rfl
theorem bbX{K:TI→Prop}:@tyW Tryz.prog 57 ⟨K⟩=K aDN:=qh bcZ
theorem aGG:aDN.kd=Kd.oth:=ID rfl
theorem arZ:aDN.kd.agg=false:=ID rfl
theorem akx:aDN.size=1:=ID rfl
theorem afm:aDN.bytes=8:=ID rfl
theorem aGE:qw aDN=True:=eq_true rfl
theorem aGF:zc aDN=[.v Value.nilFunc]:=ID rfl
theorem bbW{K:TI→Prop}:@tyW Tryz.prog 58 ⟨K⟩=K aDM:=qh bcY
theorem aGD:aDM.kd=Kd.oth:=ID rfl
theorem arY:aDM.kd.agg=false:=ID rfl
theorem akw:aDM.size=1:=ID rfl
theorem afl:aDM.bytes=8:=ID rfl
theorem aGB:qw aDM=True:=eq_true rfl
theorem aGC:zc aDM=[.v Value.nilFunc]:=ID rfl
theorem bbV{K:TI→Prop}:@tyW Tryz.prog 60 ⟨K⟩=K aDL:=qh bcX
theorem aGz:aDL.kd=Kd.oth:=ID rfl
theorem arW:aDL.kd.agg=false:=ID rfl
theorem aku:aDL.size=1:=ID rfl
theorem afk:aDL.bytes=8:=ID rfl
theorem aGx:qw aDL=True:=eq_true rfl
theorem aGy:zc aDL=[.v Value.nilFunc]:=ID rfl
theorem bbU{K:TI→Prop}:@tyW Tryz.prog 61 ⟨K⟩=K aDK:=qh bcW
theorem aGw:aDK.kd=Kd.oth:=ID rfl
theorem arV:aDK.kd.agg=false:=ID rfl
theorem akt:aDK.size=1:=ID rfl
theorem afj:aDK.bytes=8:=ID rfl
theorem aGu:qw aDK=True:=eq_true rfl
theorem aGv:zc aDK=[.v Value.nilFunc]:=ID rfl
theorem bbT{K:TI→Prop}:@tyW Tryz.prog 62 ⟨K⟩=K aDJ:=qh bcV
theorem aGt:aDJ.kd=Kd.oth:=ID rfl
theorem arU:aDJ.kd.agg=false:=ID rfl
theorem aks:aDJ.size=1:=ID rfl
theorem afi:aDJ.bytes=8:=ID rfl
theorem aGr:qw aDJ=True:=eq_true rfl
theorem aGs:zc aDJ=[.v Value.nilFunc]:=ID rfl
theorem bbS{K:TI→Prop}:@tyW Tryz.prog 63 ⟨K⟩=K aDI:=qh bcU
theorem aGq:aDI.kd=Kd.oth:=ID rfl
theorem arT:aDI.kd.agg=false:=ID rfl
theorem akr:aDI.size=1:=ID rfl
theorem afh:aDI.bytes=8:=ID rfl
theorem aGo:qw aDI=True:=eq_true rfl
theorem aGp:zc aDI=[.v Value.nilFunc]:=ID rfl
theorem bbR{K:TI→Prop}:@tyW Tryz.prog 64 ⟨K⟩=K aDH:=qh bcT
theorem aGn:aDH.kd=Kd.oth:=ID rfl
theorem arS:aDH.kd.agg=false:=ID rfl
theorem akq:aDH.size=1:=ID rfl
theorem afg:aDH.bytes=8:=ID rfl
theorem aGl:qw aDH=True:=eq_true rfl
theorem aGm:zc aDH=[.v Value.nilFunc]:=ID rfl
theorem bbQ{K:TI→Prop}:@tyW Tryz.prog 65 ⟨K⟩=K aDG:=qh bcS
theorem aGk:aDG.kd=Kd.oth:=ID rfl
theorem arR:aDG.kd.agg=false:=ID rfl
theorem akp:aDG.size=1:=ID rfl
theorem aff:aDG.bytes=8:=ID rfl
theorem aGi:qw aDG=True:=eq_true rfl
theorem aGj:zc aDG=[.v Value.nilFunc]:=ID rfl
theorem bbP{K:TI→Prop}:@tyW Tryz.prog 66 ⟨K⟩=K aDF:=qh bcR
theorem aGh:aDF.kd=Kd.oth:=ID rfl
theorem arQ:aDF.kd.agg=false:=ID rfl
theorem ako:aDF.size=1:=ID rfl
theorem afe:aDF.bytes=8:=ID rfl
theorem aGf:qw aDF=True:=eq_true rfl
theorem aGg:zc aDF=[.v Value.nilFunc]:=ID rfl
theorem bbO{K:TI→Prop}:@tyW Tryz.prog 68 ⟨K⟩=K aDE:=qh bcQ
theorem aGe:aDE.kd=Kd.oth:=ID rfl
theorem arP:aDE.kd.agg=false:=ID rfl
theorem akn:aDE.size=1:=ID rfl
theorem afd:aDE.bytes=8:=ID rfl
theorem aGc:qw aDE=True:=eq_true rfl
theorem aGd:zc aDE=[.v Value.nilFunc]:=ID rfl
theorem bbN{K:TI→Prop}:@tyW Tryz.prog 69 ⟨K⟩=K ad9:=qh aD8
theorem aGb:ad9.kd=Kd.sli 51:=ID rfl
theorem arO:ad9.kd.agg=false:=ID rfl
theorem akm:ad9.size=1:=ID rfl
theorem afc:ad9.bytes=24:=ID rfl
theorem aF9:qw ad9=True:=eq_true rfl
theorem aGa:zc ad9=[.v (Value.slice none 0 0)]:=ID rfl
theorem aYC{K:TI→Prop}:@yA Tryz.prog 69 ⟨K⟩=K ajK:=Zr aD8 rfl aNl
theorem bbM{K:TI→Prop}:@tyW Tryz.prog 71 ⟨K⟩=K aDD:=qh bcP
theorem aF7:aDD.kd=Kd.oth:=ID rfl
theorem arM:aDD.kd.agg=false:=ID rfl
theorem akk:aDD.size=1:=ID rfl
theorem afb:aDD.bytes=8:=ID rfl
theorem aF5:qw aDD=True:=eq_true rfl
theorem aF6:zc aDD=[.v Value.nilFunc]:=ID rfl
theorem bbL{K:TI→Prop}:@tyW Tryz.prog 73 ⟨K⟩=K aDC:=qh bcO
theorem aF4:aDC.kd=Kd.oth:=ID rfl
theorem arL:aDC.kd.agg=false:=ID rfl
theorem akj:aDC.size=1:=ID rfl
theorem afa:aDC.bytes=8:=ID rfl
theorem aF2:qw aDC=True:=eq_true rfl
theorem aF3:zc aDC=[.v Value.nilFunc]:=ID rfl
theorem bbK{K:TI→Prop}:@tyW Tryz.prog 74 ⟨K⟩=K aDB:=qh bcN
theorem aF1:aDB.kd=Kd.oth:=ID rfl
theorem arK:aDB.kd.agg=false:=ID rfl
theorem aki:aDB.size=1:=ID rfl
theorem ae9:aDB.bytes=8:=ID rfl
theorem aFZ:qw aDB=True:=eq_true rfl
theorem aF0:zc aDB=[.v Value.nilFunc]:=ID rfl
theorem bbJ{K:TI→Prop}:@tyW Tryz.prog 75 ⟨K⟩=K aDA:=qh bcM
theorem aFY:aDA.kd=Kd.oth:=ID rfl
theorem arJ:aDA.kd.agg=false:=ID rfl
theorem akh:aDA.size=1:=ID rfl
theorem ae8:aDA.bytes=8:=ID rfl
theorem aFW:qw aDA=True:=eq_true rfl
theorem aFX:zc aDA=[.v Value.nilFunc]:=ID rfl
theorem bbI{K:TI→Prop}:@tyW Tryz.prog 77 ⟨K⟩=K aDz:=qh bcL
theorem aFV:aDz.kd=Kd.oth:=ID rfl
theorem arI:aDz.kd.agg=false:=ID rfl
theorem akg:aDz.size=1:=ID rfl
theorem ae7:aDz.bytes=8:=ID rfl
theorem aFT:qw aDz=True:=eq_true rfl
theorem aFU:zc aDz=[.v Value.nilFunc]:=ID rfl
theorem bbH{K:TI→Prop}:@tyW Tryz.prog 79 ⟨K⟩=K aDy:=qh bcK
theorem aFS:aDy.kd=Kd.oth:=ID rfl
theorem arH:aDy.kd.agg=false:=ID rfl
theorem akf:aDy.size=1:=ID rfl
theorem ae6:aDy.bytes=8:=ID rfl
theorem aFQ:qw aDy=True:=eq_true rfl
theorem aFR:zc aDy=[.v Value.nilFunc]:=ID rfl
theorem bbG{K:TI→Prop}:@tyW Tryz.prog 80 ⟨K⟩=K aDx:=qh bcJ
theorem aFO:aDx.kd=Kd.oth:=ID rfl
theorem arF:aDx.kd.agg=false:=ID rfl
theorem akd:aDx.size=1:=ID rfl
theorem ae5:aDx.bytes=8:=ID rfl
theorem aFM:qw aDx=True:=eq_true rfl
theorem aFN:zc aDx=[.v Value.nilFunc]:=ID rfl
theorem bbF{K:TI→Prop}:@tyW Tryz.prog 81 ⟨K⟩=K akc:=qh aTz
theorem aFL:akc.kd=Kd.stru [(0,3),(1,69)]:=ID rfl
theorem arE:akc.kd.agg=true:=ID rfl
theorem akb:akc.size=2:=ID rfl
theorem ae4:akc.bytes=32:=ID rfl
theorem aFJ:qw akc=True:=eq_true rfl
theorem aFK:zc akc=[.v (Value.int IntKind.i64 0),.v (Value.slice none 0 0)]:=ID rfl
theorem aKT{K:Nat→TI→Prop}:@qz Tryz.prog 81 0 ⟨K⟩=K 0 ti3:=qs (ti:=akc) (tf:=ti3) (fo:=(0,3)) (fs:=[(0,3),(1,69)]) aTz rfl rfl tf3
theorem aNW{K:Nat→Nat→Prop}:qt Tryz.prog [(0,3),(1,69)] 0 K=K 0 1:=qr (tf:=ti3) (fo:=(0,3)) (fs:=[(0,3),(1,69)]) rfl tf3
theorem aKS{K:Nat→TI→Prop}:@qz Tryz.prog 81 1 ⟨K⟩=K 1 ad9:=qs (ti:=akc) (tf:=ad9) (fo:=(1,69)) (fs:=[(0,3),(1,69)]) aTz rfl rfl aD8
theorem aNV{K:Nat→Nat→Prop}:qt Tryz.prog [(0,3),(1,69)] 1 K=K 1 1:=qr (tf:=ad9) (fo:=(1,69)) (fs:=[(0,3),(1,69)]) rfl aD8
theorem aOT:∀f∈([(0,3),(1,69)]:List (Nat×Nat)),(qo Tryz.prog f.2).isSome=true:=by
 intro f hf
 simp only[List.mem_cons,List.not_mem_nil,or_false]at hf
 rcases hf with rfl|rfl
 ·rw[tf3];rfl
 ·rw[aD8];rfl
theorem baX{ps:List (Nat×AV)}{K:AV→Prop}:@zg Tryz.prog 81 ps ⟨K⟩=@ze (qt Tryz.prog [(0,3),(1,69)]) (zc akc) ps ⟨fun cs=>K (.ag cs)⟩:=qJ aTz rfl aOT
theorem bbE{K:TI→Prop}:@tyW Tryz.prog 82 ⟨K⟩=K aka:=qh aTy
theorem aFI:aka.kd=Kd.stru [(0,3),(1,69)]:=ID rfl
theorem arD:aka.kd.agg=true:=ID rfl
theorem aj9:aka.size=2:=ID rfl
theorem ae3:aka.bytes=32:=ID rfl
theorem aFG:qw aka=True:=eq_true rfl
theorem aFH:zc aka=[.v (Value.int IntKind.i64 0),.v (Value.slice none 0 0)]:=ID rfl
theorem aKR{K:Nat→TI→Prop}:@qz Tryz.prog 82 0 ⟨K⟩=K 0 ti3:=qs (ti:=aka) (tf:=ti3) (fo:=(0,3)) (fs:=[(0,3),(1,69)]) aTy rfl rfl tf3
theorem aNU{K:Nat→Nat→Prop}:qt Tryz.prog [(0,3),(1,69)] 0 K=K 0 1:=qr (tf:=ti3) (fo:=(0,3)) (fs:=[(0,3),(1,69)]) rfl tf3
theorem aKQ{K:Nat→TI→Prop}:@qz Tryz.prog 82 1 ⟨K⟩=K 1 ad9:=qs (ti:=aka) (tf:=ad9) (fo:=(1,69)) (fs:=[(0,3),(1,69)]) aTy rfl rfl aD8
theorem aNT{K:Nat→Nat→Prop}:qt Tryz.prog [(0,3),(1,69)] 1 K=K 1 1:=qr (tf:=ad9) (fo:=(1,69)) (fs:=[(0,3),(1,69)]) rfl aD8
theorem aOS:∀f∈([(0,3),(1,69)]:List (Nat×Nat)),(qo Tryz.prog f.2).isSome=true:=by
 intro f hf
 simp only[List.mem_cons,List.not_mem_nil,or_false]at hf
 rcases hf with rfl|rfl
 ·rw[tf3];rfl
 ·rw[aD8];rfl
theorem baW{ps:List (Nat×AV)}{K:AV→Prop}:@zg Tryz.prog 82 ps ⟨K⟩=@ze (qt Tryz.prog [(0,3),(1,69)]) (zc aka) ps ⟨fun cs=>K (.ag cs)⟩:=qJ aTy rfl aOS
theorem bbD{K:TI→Prop}:@tyW Tryz.prog 84 ⟨K⟩=K aDw:=qh bcI
theorem aFF:aDw.kd=Kd.oth:=ID rfl
theorem arC:aDw.kd.agg=false:=ID rfl
theorem aj8:aDw.size=1:=ID rfl
theorem ae2:aDw.bytes=8:=ID rfl
theorem aFD:qw aDw=True:=eq_true rfl
theorem aFE:zc aDw=[.v Value.nilFunc]:=ID rfl
theorem bbC{K:TI→Prop}:@tyW Tryz.prog 86 ⟨K⟩=K aDv:=qh bcH
theorem aFC:aDv.kd=Kd.oth:=ID rfl
theorem arB:aDv.kd.agg=false:=ID rfl
theorem aj7:aDv.size=1:=ID rfl
theorem ae1:aDv.bytes=8:=ID rfl
theorem aFA:qw aDv=True:=eq_true rfl
theorem aFB:zc aDv=[.v Value.nilFunc]:=ID rfl
theorem bbB{K:TI→Prop}:@tyW Tryz.prog 87 ⟨K⟩=K aDu:=qh bcG
theorem aFz:aDu.kd=Kd.oth:=ID rfl
theorem arA:aDu.kd.agg=false:=ID rfl
theorem aj6:aDu.size=1:=ID rfl
theorem ae0:aDu.bytes=8:=ID rfl
theorem aFx:qw aDu=True:=eq_true rfl
theorem aFy:zc aDu=[.v Value.nilFunc]:=ID rfl
theorem bbA{K:TI→Prop}:@tyW Tryz.prog 88 ⟨K⟩=K aDt:=qh bcF
theorem aFw:aDt.kd=Kd.oth:=ID rfl
theorem arz:aDt.kd.agg=false:=ID rfl
theorem aj5:aDt.size=1:=ID rfl
theorem aeZ:aDt.bytes=8:=ID rfl
theorem aFu:qw aDt=True:=eq_true rfl
theorem aFv:zc aDt=[.v Value.nilFunc]:=ID rfl
theorem bbz{K:TI→Prop}:@tyW Tryz.prog 89 ⟨K⟩=K aDs:=qh bcE
theorem aFt:aDs.kd=Kd.oth:=ID rfl
theorem ary:aDs.kd.agg=false:=ID rfl
theorem aj4:aDs.size=1:=ID rfl
theorem aeY:aDs.bytes=8:=ID rfl
theorem aFr:qw aDs=True:=eq_true rfl
theorem aFs:zc aDs=[.v Value.nilFunc]:=ID rfl
theorem bby{K:TI→Prop}:@tyW Tryz.prog 91 ⟨K⟩=K aDr:=qh bcD
theorem aFp:aDr.kd=Kd.oth:=ID rfl
theorem arw:aDr.kd.agg=false:=ID rfl
theorem aj2:aDr.size=1:=ID rfl
theorem aeX:aDr.bytes=8:=ID rfl
theorem aFn:qw aDr=True:=eq_true rfl
theorem aFo:zc aDr=[.v Value.nilFunc]:=ID rfl
theorem bbx{K:TI→Prop}:@tyW Tryz.prog 92 ⟨K⟩=K aDq:=qh bcC
theorem aFm:aDq.kd=Kd.oth:=ID rfl
theorem arv:aDq.kd.agg=false:=ID rfl
theorem aj1:aDq.size=1:=ID rfl
theorem aeW:aDq.bytes=8:=ID rfl
theorem aFk:qw aDq=True:=eq_true rfl
theorem aFl:zc aDq=[.v Value.nilFunc]:=ID rfl
theorem bbw{K:TI→Prop}:@tyW Tryz.prog 93 ⟨K⟩=K aDp:=qh bcB
theorem aFj:aDp.kd=Kd.oth:=ID rfl
theorem aru:aDp.kd.agg=false:=ID rfl
theorem aj0:aDp.size=1:=ID rfl
theorem aeV:aDp.bytes=8:=ID rfl
theorem aFh:qw aDp=True:=eq_true rfl
theorem aFi:zc aDp=[.v Value.nilFunc]:=ID rfl
theorem bbv{K:TI→Prop}:@tyW Tryz.prog 94 ⟨K⟩=K aDo:=qh bcA
theorem aFg:aDo.kd=Kd.oth:=ID rfl
theorem art:aDo.kd.agg=false:=ID rfl
theorem ajZ:aDo.size=1:=ID rfl
theorem aeU:aDo.bytes=8:=ID rfl
theorem aFe:qw aDo=True:=eq_true rfl
theorem aFf:zc aDo=[.v Value.nilFunc]:=ID rfl
theorem bbu{K:TI→Prop}:@tyW Tryz.prog 96 ⟨K⟩=K aDn:=qh bcz
theorem aFd:aDn.kd=Kd.oth:=ID rfl
theorem ars:aDn.kd.agg=false:=ID rfl
theorem ajY:aDn.size=1:=ID rfl
theorem aeT:aDn.bytes=8:=ID rfl
theorem aFb:qw aDn=True:=eq_true rfl
theorem aFc:zc aDn=[.v Value.nilFunc]:=ID rfl
theorem bbt{K:TI→Prop}:@tyW Tryz.prog 97 ⟨K⟩=K aDm:=qh bcy
theorem aFa:aDm.kd=Kd.oth:=ID rfl
theorem arq:aDm.kd.agg=false:=ID rfl
theorem ajX:aDm.size=1:=ID rfl
theorem aeS:aDm.bytes=8:=ID rfl
theorem aE8:qw aDm=True:=eq_true rfl
theorem aE9:zc aDm=[.v Value.nilFunc]:=ID rfl
theorem bbs{K:TI→Prop}:@tyW Tryz.prog 98 ⟨K⟩=K aDl:=qh bcx
theorem aE7:aDl.kd=Kd.oth:=ID rfl
theorem arp:aDl.kd.agg=false:=ID rfl
theorem ajW:aDl.size=1:=ID rfl
theorem aeR:aDl.bytes=8:=ID rfl
theorem aE5:qw aDl=True:=eq_true rfl
theorem aE6:zc aDl=[.v Value.nilFunc]:=ID rfl
theorem bbr{K:TI→Prop}:@tyW Tryz.prog 99 ⟨K⟩=K aDk:=qh bcw
theorem aE4:aDk.kd=Kd.oth:=ID rfl
theorem aro:aDk.kd.agg=false:=ID rfl
theorem ajV:aDk.size=1:=ID rfl
theorem aeQ:aDk.bytes=8:=ID rfl
theorem aE2:qw aDk=True:=eq_true rfl
theorem aE3:zc aDk=[.v Value.nilFunc]:=ID rfl
theorem aWd{K:TI→Prop}:@tyW Tryz.prog 100 ⟨K⟩=K V6:=qh aYx
theorem aAa:V6.kd=Kd.oth:=ID rfl
theorem anP:V6.kd.agg=false:=ID rfl
theorem aiq:V6.size=1:=ID rfl
theorem acU:V6.bytes=8:=ID rfl
theorem az8:qw V6=True:=eq_true rfl
theorem az9:zc V6=[.v Value.nilFunc]:=ID rfl
theorem aWc{K:TI→Prop}:@tyW Tryz.prog 101 ⟨K⟩=K V5:=qh aYw
theorem az7:V5.kd=Kd.oth:=ID rfl
theorem anO:V5.kd.agg=false:=ID rfl
theorem aip:V5.size=1:=ID rfl
theorem acT:V5.bytes=8:=ID rfl
theorem az5:qw V5=True:=eq_true rfl
theorem az6:zc V5=[.v Value.nilFunc]:=ID rfl
theorem aWb{K:TI→Prop}:@tyW Tryz.prog 102 ⟨K⟩=K V4:=qh aYv
theorem az4:V4.kd=Kd.oth:=ID rfl
theorem anN:V4.kd.agg=false:=ID rfl
theorem aio:V4.size=1:=ID rfl
theorem acS:V4.bytes=8:=ID rfl
theorem az2:qw V4=True:=eq_true rfl
theorem az3:zc V4=[.v Value.nilFunc]:=ID rfl
theorem aWa{K:TI→Prop}:@tyW Tryz.prog 103 ⟨K⟩=K V3:=qh aYu
theorem az1:V3.kd=Kd.oth:=ID rfl
theorem anM:V3.kd.agg=false:=ID rfl
theorem ain:V3.size=1:=ID rfl
theorem acR:V3.bytes=8:=ID rfl
theorem azZ:qw V3=True:=eq_true rfl
theorem az0:zc V3=[.v Value.nilFunc]:=ID rfl
theorem aV9{K:TI→Prop}:@tyW Tryz.prog 105 ⟨K⟩=K V2:=qh aYt
theorem azY:V2.kd=Kd.oth:=ID rfl
theorem anL:V2.kd.agg=false:=ID rfl
theorem aim:V2.size=1:=ID rfl
theorem acQ:V2.bytes=8:=ID rfl
theorem azW:qw V2=True:=eq_true rfl
theorem azX:zc V2=[.v Value.nilFunc]:=ID rfl
theorem aV8{K:TI→Prop}:@tyW Tryz.prog 106 ⟨K⟩=K V1:=qh aYs
theorem azV:V1.kd=Kd.oth:=ID rfl
theorem anK:V1.kd.agg=false:=ID rfl
theorem ail:V1.size=1:=ID rfl
theorem acP:V1.bytes=8:=ID rfl
theorem azT:qw V1=True:=eq_true rfl
theorem azU:zc V1=[.v Value.nilFunc]:=ID rfl
theorem aV7{K:TI→Prop}:@tyW Tryz.prog 107 ⟨K⟩=K V0:=qh aYr
theorem azS:V0.kd=Kd.oth:=ID rfl
theorem anJ:V0.kd.agg=false:=ID rfl
theorem aik:V0.size=1:=ID rfl
theorem acO:V0.bytes=8:=ID rfl
theorem azQ:qw V0=True:=eq_true rfl
theorem azR:zc V0=[.v Value.nilFunc]:=ID rfl
theorem aV6{K:TI→Prop}:@tyW Tryz.prog 108 ⟨K⟩=K VZ:=qh aYq
theorem azP:VZ.kd=Kd.oth:=ID rfl
theorem anI:VZ.kd.agg=false:=ID rfl
theorem aij:VZ.size=1:=ID rfl
theorem acN:VZ.bytes=8:=ID rfl
theorem azN:qw VZ=True:=eq_true rfl
theorem azO:zc VZ=[.v Value.nilFunc]:=ID rfl
theorem aV5{K:TI→Prop}:@tyW Tryz.prog 109 ⟨K⟩=K VY:=qh aYp
theorem azM:VY.kd=Kd.oth:=ID rfl
theorem anH:VY.kd.agg=false:=ID rfl
theorem aii:VY.size=1:=ID rfl
theorem acM:VY.bytes=8:=ID rfl
theorem azK:qw VY=True:=eq_true rfl
theorem azL:zc VY=[.v Value.nilFunc]:=ID rfl
theorem aV4{K:TI→Prop}:@tyW Tryz.prog 110 ⟨K⟩=K VX:=qh aYo
theorem azI:VX.kd=Kd.oth:=ID rfl
theorem anF:VX.kd.agg=false:=ID rfl
theorem aig:VX.size=1:=ID rfl
theorem acL:VX.bytes=8:=ID rfl
theorem azG:qw VX=True:=eq_true rfl
theorem azH:zc VX=[.v Value.nilFunc]:=ID rfl
theorem aV3{K:TI→Prop}:@tyW Tryz.prog 111 ⟨K⟩=K yJ:=qh JS
theorem azF:yJ.kd=Kd.sli 118:=ID rfl
theorem anE:yJ.kd.agg=false:=ID rfl
theorem aif:yJ.size=1:=ID rfl
theorem acK:yJ.bytes=24:=ID rfl
theorem azD:qw yJ=True:=eq_true rfl
theorem azE:zc yJ=[.v (Value.slice none 0 0)]:=ID rfl
theorem aNE{K:TI→Prop}:@yA Tryz.prog 111 ⟨K⟩=K z7:=Zr JS rfl jY
theorem aV2{K:TI→Prop}:@tyW Tryz.prog 112 ⟨K⟩=K Zm:=qh aAi
theorem azC:Zm.kd=Kd.stru [(0,3),(1,111)]:=ID rfl
theorem anD:Zm.kd.agg=true:=ID rfl
theorem aie:Zm.size=2:=ID rfl
theorem acJ:Zm.bytes=32:=ID rfl
theorem azA:qw Zm=True:=eq_true rfl
theorem azB:zc Zm=[.v (Value.int IntKind.i64 0),.v (Value.slice none 0 0)]:=ID rfl
theorem aCc{K:Nat→TI→Prop}:@qz Tryz.prog 112 0 ⟨K⟩=K 0 ti3:=qs (ti:=Zm) (tf:=ti3) (fo:=(0,3)) (fs:=[(0,3),(1,111)]) aAi rfl rfl tf3
theorem aJj{K:Nat→Nat→Prop}:qt Tryz.prog [(0,3),(1,111)] 0 K=K 0 1:=qr (tf:=ti3) (fo:=(0,3)) (fs:=[(0,3),(1,111)]) rfl tf3
theorem aCb{K:Nat→TI→Prop}:@qz Tryz.prog 112 1 ⟨K⟩=K 1 yJ:=qs (ti:=Zm) (tf:=yJ) (fo:=(1,111)) (fs:=[(0,3),(1,111)]) aAi rfl rfl JS
theorem aJi{K:Nat→Nat→Prop}:qt Tryz.prog [(0,3),(1,111)] 1 K=K 1 1:=qr (tf:=yJ) (fo:=(1,111)) (fs:=[(0,3),(1,111)]) rfl JS
theorem aKK:∀f∈([(0,3),(1,111)]:List (Nat×Nat)),(qo Tryz.prog f.2).isSome=true:=by
 intro f hf
 simp only[List.mem_cons,List.not_mem_nil,or_false]at hf
 rcases hf with rfl|rfl
 ·rw[tf3];rfl
 ·rw[JS];rfl
theorem aS4{ps:List (Nat×AV)}{K:AV→Prop}:@zg Tryz.prog 112 ps ⟨K⟩=@ze (qt Tryz.prog [(0,3),(1,111)]) (zc Zm) ps ⟨fun cs=>K (.ag cs)⟩:=qJ aAi rfl aKK
theorem aV1{K:TI→Prop}:@tyW Tryz.prog 113 ⟨K⟩=K Zl:=qh aAh
theorem azz:Zl.kd=Kd.stru [(0,3),(1,111)]:=ID rfl
theorem anC:Zl.kd.agg=true:=ID rfl
theorem aid:Zl.size=2:=ID rfl
theorem acI:Zl.bytes=32:=ID rfl
theorem azx:qw Zl=True:=eq_true rfl
theorem azy:zc Zl=[.v (Value.int IntKind.i64 0),.v (Value.slice none 0 0)]:=ID rfl
theorem aCa{K:Nat→TI→Prop}:@qz Tryz.prog 113 0 ⟨K⟩=K 0 ti3:=qs (ti:=Zl) (tf:=ti3) (fo:=(0,3)) (fs:=[(0,3),(1,111)]) aAh rfl rfl tf3
theorem aJh{K:Nat→Nat→Prop}:qt Tryz.prog [(0,3),(1,111)] 0 K=K 0 1:=qr (tf:=ti3) (fo:=(0,3)) (fs:=[(0,3),(1,111)]) rfl tf3
theorem aB9{K:Nat→TI→Prop}:@qz Tryz.prog 113 1 ⟨K⟩=K 1 yJ:=qs (ti:=Zl) (tf:=yJ) (fo:=(1,111)) (fs:=[(0,3),(1,111)]) aAh rfl rfl JS
theorem aJg{K:Nat→Nat→Prop}:qt Tryz.prog [(0,3),(1,111)] 1 K=K 1 1:=qr (tf:=yJ) (fo:=(1,111)) (fs:=[(0,3),(1,111)]) rfl JS
theorem aKJ:∀f∈([(0,3),(1,111)]:List (Nat×Nat)),(qo Tryz.prog f.2).isSome=true:=by
 intro f hf
 simp only[List.mem_cons,List.not_mem_nil,or_false]at hf
 rcases hf with rfl|rfl
 ·rw[tf3];rfl
 ·rw[JS];rfl
theorem aS3{ps:List (Nat×AV)}{K:AV→Prop}:@zg Tryz.prog 113 ps ⟨K⟩=@ze (qt Tryz.prog [(0,3),(1,111)]) (zc Zl) ps ⟨fun cs=>K (.ag cs)⟩:=qJ aAh rfl aKJ
theorem aV0{K:TI→Prop}:@tyW Tryz.prog 114 ⟨K⟩=K VW:=qh aYn
theorem azw:VW.kd=Kd.oth:=ID rfl
theorem anB:VW.kd.agg=false:=ID rfl
theorem aic:VW.size=1:=ID rfl
theorem acH:VW.bytes=8:=ID rfl
theorem azu:qw VW=True:=eq_true rfl
theorem azv:zc VW=[.v Value.nilFunc]:=ID rfl
theorem aVZ{K:TI→Prop}:@tyW Tryz.prog 115 ⟨K⟩=K VV:=qh aYm
theorem azt:VV.kd=Kd.oth:=ID rfl
theorem anA:VV.kd.agg=false:=ID rfl
theorem aib:VV.size=1:=ID rfl
theorem acG:VV.bytes=8:=ID rfl
theorem azr:qw VV=True:=eq_true rfl
theorem azs:zc VV=[.v Value.nilFunc]:=ID rfl
theorem aVY{K:TI→Prop}:@tyW Tryz.prog 116 ⟨K⟩=K VU:=qh aYl
theorem azq:VU.kd=Kd.oth:=ID rfl
theorem anz:VU.kd.agg=false:=ID rfl
theorem aia:VU.size=1:=ID rfl
theorem acF:VU.bytes=8:=ID rfl
theorem azo:qw VU=True:=eq_true rfl
theorem azp:zc VU=[.v Value.nilFunc]:=ID rfl
theorem aVX{K:TI→Prop}:@tyW Tryz.prog 117 ⟨K⟩=K QX:=qh anU
theorem azn:QX.kd=Kd.stru [(0,4),(1,34),(2,3)]:=ID rfl
theorem anx:QX.kd.agg=true:=ID rfl
theorem ah9:QX.size=3:=ID rfl
theorem acE:QX.bytes=40:=ID rfl
theorem azl:qw QX=True:=eq_true rfl
theorem azm:zc QX=[.v (Value.bool false),.v (Value.slice none 0 0),.v (Value.int IntKind.i64 0)]:=ID rfl
theorem aB8{K:Nat→TI→Prop}:@qz Tryz.prog 117 0 ⟨K⟩=K 0 ti4:=qs (ti:=QX) (tf:=ti4) (fo:=(0,4)) (fs:=[(0,4),(1,34),(2,3)]) anU rfl rfl tf4
theorem aJf{K:Nat→Nat→Prop}:qt Tryz.prog [(0,4),(1,34),(2,3)] 0 K=K 0 1:=qr (tf:=ti4) (fo:=(0,4)) (fs:=[(0,4),(1,34),(2,3)]) rfl tf4
theorem aB7{K:Nat→TI→Prop}:@qz Tryz.prog 117 1 ⟨K⟩=K 1 Jj:=qs (ti:=QX) (tf:=Jj) (fo:=(1,34)) (fs:=[(0,4),(1,34),(2,3)]) anU rfl rfl aec
theorem aJe{K:Nat→Nat→Prop}:qt Tryz.prog [(0,4),(1,34),(2,3)] 1 K=K 1 1:=qr (tf:=Jj) (fo:=(1,34)) (fs:=[(0,4),(1,34),(2,3)]) rfl aec
theorem aB6{K:Nat→TI→Prop}:@qz Tryz.prog 117 2 ⟨K⟩=K 2 ti3:=qs (ti:=QX) (tf:=ti3) (fo:=(2,3)) (fs:=[(0,4),(1,34),(2,3)]) anU rfl rfl tf3
theorem aJd{K:Nat→Nat→Prop}:qt Tryz.prog [(0,4),(1,34),(2,3)] 2 K=K 2 1:=qr (tf:=ti3) (fo:=(2,3)) (fs:=[(0,4),(1,34),(2,3)]) rfl tf3
theorem aKI:∀f∈([(0,4),(1,34),(2,3)]:List (Nat×Nat)),(qo Tryz.prog f.2).isSome=true:=by
 intro f hf
 simp only[List.mem_cons,List.not_mem_nil,or_false]at hf
 rcases hf with rfl|rfl|rfl
 ·rw[tf4];rfl
 ·rw[aec];rfl
 ·rw[tf3];rfl
theorem aS2{ps:List (Nat×AV)}{K:AV→Prop}:@zg Tryz.prog 117 ps ⟨K⟩=@ze (qt Tryz.prog [(0,4),(1,34),(2,3)]) (zc QX) ps ⟨fun cs=>K (.ag cs)⟩:=qJ anU rfl aKI
theorem aVW{K:TI→Prop}:@tyW Tryz.prog 118 ⟨K⟩=K z7:=qh jY
theorem azk:z7.kd=Kd.stru [(0,4),(1,34),(2,3)]:=ID rfl
theorem anw:z7.kd.agg=true:=ID rfl
theorem ah8:z7.size=3:=ID rfl
theorem acD:z7.bytes=40:=ID rfl
theorem azi:qw z7=True:=eq_true rfl
theorem azj:zc z7=[.v (Value.bool false),.v (Value.slice none 0 0),.v (Value.int IntKind.i64 0)]:=ID rfl
theorem aB5{K:Nat→TI→Prop}:@qz Tryz.prog 118 0 ⟨K⟩=K 0 ti4:=qs (ti:=z7) (tf:=ti4) (fo:=(0,4)) (fs:=[(0,4),(1,34),(2,3)]) jY rfl rfl tf4
theorem aJc{K:Nat→Nat→Prop}:qt Tryz.prog [(0,4),(1,34),(2,3)] 0 K=K 0 1:=qr (tf:=ti4) (fo:=(0,4)) (fs:=[(0,4),(1,34),(2,3)]) rfl tf4
theorem aB4{K:Nat→TI→Prop}:@qz Tryz.prog 118 1 ⟨K⟩=K 1 Jj:=qs (ti:=z7) (tf:=Jj) (fo:=(1,34)) (fs:=[(0,4),(1,34),(2,3)]) jY rfl rfl aec
theorem aJb{K:Nat→Nat→Prop}:qt Tryz.prog [(0,4),(1,34),(2,3)] 1 K=K 1 1:=qr (tf:=Jj) (fo:=(1,34)) (fs:=[(0,4),(1,34),(2,3)]) rfl aec
theorem aB3{K:Nat→TI→Prop}:@qz Tryz.prog 118 2 ⟨K⟩=K 2 ti3:=qs (ti:=z7) (tf:=ti3) (fo:=(2,3)) (fs:=[(0,4),(1,34),(2,3)]) jY rfl rfl tf3
theorem aJa{K:Nat→Nat→Prop}:qt Tryz.prog [(0,4),(1,34),(2,3)] 2 K=K 2 1:=qr (tf:=ti3) (fo:=(2,3)) (fs:=[(0,4),(1,34),(2,3)]) rfl tf3
theorem aKH:∀f∈([(0,4),(1,34),(2,3)]:List (Nat×Nat)),(qo Tryz.prog f.2).isSome=true:=by
 intro f hf
 simp only[List.mem_cons,List.not_mem_nil,or_false]at hf
 rcases hf with rfl|rfl|rfl
 ·rw[tf4];rfl
 ·rw[aec];rfl
 ·rw[tf3];rfl
theorem aS1{ps:List (Nat×AV)}{K:AV→Prop}:@zg Tryz.prog 118 ps ⟨K⟩=@ze (qt Tryz.prog [(0,4),(1,34),(2,3)]) (zc z7) ps ⟨fun cs=>K (.ag cs)⟩:=qJ jY rfl aKH
theorem aVV{K:TI→Prop}:@tyW Tryz.prog 119 ⟨K⟩=K VT:=qh aYk
theorem azh:VT.kd=Kd.oth:=ID rfl
theorem anv:VT.kd.agg=false:=ID rfl
theorem ah7:VT.size=1:=ID rfl
theorem acC:VT.bytes=8:=ID rfl
theorem azf:qw VT=True:=eq_true rfl
theorem azg:zc VT=[.v Value.nilFunc]:=ID rfl
theorem aVU{K:TI→Prop}:@tyW Tryz.prog 120 ⟨K⟩=K VS:=qh aYj
theorem azd:VS.kd=Kd.oth:=ID rfl
theorem ant:VS.kd.agg=false:=ID rfl
theorem ah5:VS.size=1:=ID rfl
theorem acB:VS.bytes=8:=ID rfl
theorem azb:qw VS=True:=eq_true rfl
theorem azc:zc VS=[.v Value.nilFunc]:=ID rfl
theorem aVT{K:TI→Prop}:@tyW Tryz.prog 121 ⟨K⟩=K VR:=qh aYi
theorem aza:VR.kd=Kd.oth:=ID rfl
theorem ans:VR.kd.agg=false:=ID rfl
theorem ah4:VR.size=1:=ID rfl
theorem acA:VR.bytes=8:=ID rfl
theorem ay8:qw VR=True:=eq_true rfl
theorem ay9:zc VR=[.v Value.nilFunc]:=ID rfl
theorem aVS{K:TI→Prop}:@tyW Tryz.prog 122 ⟨K⟩=K VQ:=qh aYh
theorem ay7:VQ.kd=Kd.oth:=ID rfl
theorem anr:VQ.kd.agg=false:=ID rfl
theorem ah3:VQ.size=1:=ID rfl
theorem acz:VQ.bytes=8:=ID rfl
theorem ay5:qw VQ=True:=eq_true rfl
theorem ay6:zc VQ=[.v Value.nilFunc]:=ID rfl
theorem aVR{K:TI→Prop}:@tyW Tryz.prog 123 ⟨K⟩=K VP:=qh aYg
theorem ay4:VP.kd=Kd.oth:=ID rfl
theorem anq:VP.kd.agg=false:=ID rfl
theorem ah2:VP.size=1:=ID rfl
theorem acy:VP.bytes=8:=ID rfl
theorem ay2:qw VP=True:=eq_true rfl
theorem ay3:zc VP=[.v Value.nilFunc]:=ID rfl
theorem aVQ{K:TI→Prop}:@tyW Tryz.prog 124 ⟨K⟩=K VO:=qh aYf
theorem ay1:VO.kd=Kd.oth:=ID rfl
theorem anp:VO.kd.agg=false:=ID rfl
theorem ah1:VO.size=1:=ID rfl
theorem acx:VO.bytes=8:=ID rfl
theorem ayZ:qw VO=True:=eq_true rfl
theorem ay0:zc VO=[.v Value.nilFunc]:=ID rfl
theorem aVP{K:TI→Prop}:@tyW Tryz.prog 125 ⟨K⟩=K VN:=qh aYe
theorem ayY:VN.kd=Kd.oth:=ID rfl
theorem ano:VN.kd.agg=false:=ID rfl
theorem ah0:VN.size=1:=ID rfl
theorem acw:VN.bytes=8:=ID rfl
theorem ayW:qw VN=True:=eq_true rfl
theorem ayX:zc VN=[.v Value.nilFunc]:=ID rfl
theorem aVO{K:TI→Prop}:@tyW Tryz.prog 126 ⟨K⟩=K VM:=qh aYd
theorem ayV:VM.kd=Kd.oth:=ID rfl
theorem ann:VM.kd.agg=false:=ID rfl
theorem ahZ:VM.size=1:=ID rfl
theorem acv:VM.bytes=8:=ID rfl
theorem ayT:qw VM=True:=eq_true rfl
theorem ayU:zc VM=[.v Value.nilFunc]:=ID rfl
theorem aVN{K:TI→Prop}:@tyW Tryz.prog 127 ⟨K⟩=K VL:=qh aYc
theorem ayS:VL.kd=Kd.oth:=ID rfl
theorem anm:VL.kd.agg=false:=ID rfl
theorem ahY:VL.size=1:=ID rfl
theorem acu:VL.bytes=8:=ID rfl
theorem ayQ:qw VL=True:=eq_true rfl
theorem ayR:zc VL=[.v Value.nilFunc]:=ID rfl
theorem aVM{K:TI→Prop}:@tyW Tryz.prog 128 ⟨K⟩=K VK:=qh aYb
theorem ayP:VK.kd=Kd.oth:=ID rfl
theorem anl:VK.kd.agg=false:=ID rfl
theorem ahX:VK.size=1:=ID rfl
theorem act:VK.bytes=8:=ID rfl
theorem ayN:qw VK=True:=eq_true rfl
theorem ayO:zc VK=[.v Value.nilFunc]:=ID rfl
theorem aVL{K:TI→Prop}:@tyW Tryz.prog 129 ⟨K⟩=K VJ:=qh aYa
theorem ayM:VJ.kd=Kd.oth:=ID rfl
theorem ank:VJ.kd.agg=false:=ID rfl
theorem ahW:VJ.size=1:=ID rfl
theorem acs:VJ.bytes=8:=ID rfl
theorem ayK:qw VJ=True:=eq_true rfl
theorem ayL:zc VJ=[.v Value.nilFunc]:=ID rfl
theorem aVK{K:TI→Prop}:@tyW Tryz.prog 130 ⟨K⟩=K VI:=qh aX9
theorem ayI:VI.kd=Kd.oth:=ID rfl
theorem ani:VI.kd.agg=false:=ID rfl
theorem ahU:VI.size=1:=ID rfl
theorem acr:VI.bytes=8:=ID rfl
theorem ayG:qw VI=True:=eq_true rfl
theorem ayH:zc VI=[.v Value.nilFunc]:=ID rfl
theorem aVJ{K:TI→Prop}:@tyW Tryz.prog 131 ⟨K⟩=K VH:=qh aX8
theorem ayF:VH.kd=Kd.oth:=ID rfl
theorem anh:VH.kd.agg=false:=ID rfl
theorem ahT:VH.size=1:=ID rfl
theorem acq:VH.bytes=8:=ID rfl
theorem ayD:qw VH=True:=eq_true rfl
theorem ayE:zc VH=[.v Value.nilFunc]:=ID rfl
theorem aVI{K:TI→Prop}:@tyW Tryz.prog 132 ⟨K⟩=K Zk:=qh aAg
theorem ayC:Zk.kd=Kd.stru [(0,118),(3,118)]:=ID rfl
theorem ang:Zk.kd.agg=true:=ID rfl
theorem ahS:Zk.size=6:=ID rfl
theorem acp:Zk.bytes=80:=ID rfl
theorem ayA:qw Zk=True:=eq_true rfl
theorem ayB:zc Zk=[.v (Value.bool false),.v (Value.slice none 0 0),.v (Value.int IntKind.i64 0),.v (Value.bool false),.v (Value.slice none 0 0),.v (Value.int IntKind.i64 0)]:=ID rfl
theorem aB2{K:Nat→TI→Prop}:@qz Tryz.prog 132 0 ⟨K⟩=K 0 z7:=qs (ti:=Zk) (tf:=z7) (fo:=(0,118)) (fs:=[(0,118),(3,118)]) aAg rfl rfl jY
theorem aI9{K:Nat→Nat→Prop}:qt Tryz.prog [(0,118),(3,118)] 0 K=K 0 3:=qr (tf:=z7) (fo:=(0,118)) (fs:=[(0,118),(3,118)]) rfl jY
theorem aB1{K:Nat→TI→Prop}:@qz Tryz.prog 132 1 ⟨K⟩=K 3 z7:=qs (ti:=Zk) (tf:=z7) (fo:=(3,118)) (fs:=[(0,118),(3,118)]) aAg rfl rfl jY
theorem aI8{K:Nat→Nat→Prop}:qt Tryz.prog [(0,118),(3,118)] 1 K=K 3 3:=qr (tf:=z7) (fo:=(3,118)) (fs:=[(0,118),(3,118)]) rfl jY
theorem aKG:∀f∈([(0,118),(3,118)]:List (Nat×Nat)),(qo Tryz.prog f.2).isSome=true:=by
 intro f hf
 simp only[List.mem_cons,List.not_mem_nil,or_false]at hf
 rcases hf with rfl|rfl
 ·rw[jY];rfl
 ·rw[jY];rfl
theorem aS0{ps:List (Nat×AV)}{K:AV→Prop}:@zg Tryz.prog 132 ps ⟨K⟩=@ze (qt Tryz.prog [(0,118),(3,118)]) (zc Zk) ps ⟨fun cs=>K (.ag cs)⟩:=qJ aAg rfl aKG
theorem aVH{K:TI→Prop}:@tyW Tryz.prog 133 ⟨K⟩=K QW:=qh anT
theorem ayz:QW.kd=Kd.stru [(0,118),(3,118)]:=ID rfl
theorem anf:QW.kd.agg=true:=ID rfl
theorem ahR:QW.size=6:=ID rfl
theorem aco:QW.bytes=80:=ID rfl
theorem ayx:qw QW=True:=eq_true rfl
theorem ayy:zc QW=[.v (Value.bool false),.v (Value.slice none 0 0),.v (Value.int IntKind.i64 0),.v (Value.bool false),.v (Value.slice none 0 0),.v (Value.int IntKind.i64 0)]:=ID rfl
theorem aB0{K:Nat→TI→Prop}:@qz Tryz.prog 133 0 ⟨K⟩=K 0 z7:=qs (ti:=QW) (tf:=z7) (fo:=(0,118)) (fs:=[(0,118),(3,118)]) anT rfl rfl jY
theorem aI7{K:Nat→Nat→Prop}:qt Tryz.prog [(0,118),(3,118)] 0 K=K 0 3:=qr (tf:=z7) (fo:=(0,118)) (fs:=[(0,118),(3,118)]) rfl jY
theorem aBZ{K:Nat→TI→Prop}:@qz Tryz.prog 133 1 ⟨K⟩=K 3 z7:=qs (ti:=QW) (tf:=z7) (fo:=(3,118)) (fs:=[(0,118),(3,118)]) anT rfl rfl jY
theorem aI6{K:Nat→Nat→Prop}:qt Tryz.prog [(0,118),(3,118)] 1 K=K 3 3:=qr (tf:=z7) (fo:=(3,118)) (fs:=[(0,118),(3,118)]) rfl jY
theorem aKF:∀f∈([(0,118),(3,118)]:List (Nat×Nat)),(qo Tryz.prog f.2).isSome=true:=by
 intro f hf
 simp only[List.mem_cons,List.not_mem_nil,or_false]at hf
 rcases hf with rfl|rfl
 ·rw[jY];rfl
 ·rw[jY];rfl
theorem aSZ{ps:List (Nat×AV)}{K:AV→Prop}:@zg Tryz.prog 133 ps ⟨K⟩=@ze (qt Tryz.prog [(0,118),(3,118)]) (zc QW) ps ⟨fun cs=>K (.ag cs)⟩:=qJ anT rfl aKF
theorem aVG{K:TI→Prop}:@tyW Tryz.prog 134 ⟨K⟩=K VG:=qh aX7
theorem ayw:VG.kd=Kd.oth:=ID rfl
theorem ane:VG.kd.agg=false:=ID rfl
theorem ahQ:VG.size=1:=ID rfl
theorem acn:VG.bytes=8:=ID rfl
theorem ayu:qw VG=True:=eq_true rfl
theorem ayv:zc VG=[.v Value.nilFunc]:=ID rfl
theorem aVF{K:TI→Prop}:@tyW Tryz.prog 135 ⟨K⟩=K VF:=qh aX6
theorem ayt:VF.kd=Kd.oth:=ID rfl
theorem anc:VF.kd.agg=false:=ID rfl
theorem ahP:VF.size=1:=ID rfl
theorem acm:VF.bytes=8:=ID rfl
theorem ayr:qw VF=True:=eq_true rfl
theorem ays:zc VF=[.v Value.nilFunc]:=ID rfl
theorem aVE{K:TI→Prop}:@tyW Tryz.prog 136 ⟨K⟩=K VE:=qh aX5
theorem ayq:VE.kd=Kd.oth:=ID rfl
theorem anb:VE.kd.agg=false:=ID rfl
theorem ahO:VE.size=1:=ID rfl
theorem acl:VE.bytes=8:=ID rfl
theorem ayo:qw VE=True:=eq_true rfl
theorem ayp:zc VE=[.v Value.nilFunc]:=ID rfl
theorem aVD{K:TI→Prop}:@tyW Tryz.prog 137 ⟨K⟩=K VD:=qh aX4
theorem ayn:VD.kd=Kd.oth:=ID rfl
theorem ana:VD.kd.agg=false:=ID rfl
theorem ahN:VD.size=1:=ID rfl
theorem ack:VD.bytes=8:=ID rfl
theorem ayl:qw VD=True:=eq_true rfl
theorem aym:zc VD=[.v Value.nilFunc]:=ID rfl
theorem aVC{K:TI→Prop}:@tyW Tryz.prog 138 ⟨K⟩=K VC:=qh aX3
theorem ayk:VC.kd=Kd.oth:=ID rfl
theorem am9:VC.kd.agg=false:=ID rfl
theorem ahM:VC.size=1:=ID rfl
theorem acj:VC.bytes=8:=ID rfl
theorem ayi:qw VC=True:=eq_true rfl
theorem ayj:zc VC=[.v Value.nilFunc]:=ID rfl
theorem aVB{K:TI→Prop}:@tyW Tryz.prog 139 ⟨K⟩=K VB:=qh aX2
theorem ayh:VB.kd=Kd.oth:=ID rfl
theorem am8:VB.kd.agg=false:=ID rfl
theorem ahL:VB.size=1:=ID rfl
theorem aci:VB.bytes=8:=ID rfl
theorem ayf:qw VB=True:=eq_true rfl
theorem ayg:zc VB=[.v Value.nilFunc]:=ID rfl
theorem aVA{K:TI→Prop}:@tyW Tryz.prog 140 ⟨K⟩=K VA:=qh aX1
theorem aye:VA.kd=Kd.oth:=ID rfl
theorem am7:VA.kd.agg=false:=ID rfl
theorem ahK:VA.size=1:=ID rfl
theorem ach:VA.bytes=8:=ID rfl
theorem ayc:qw VA=True:=eq_true rfl
theorem ayd:zc VA=[.v Value.nilFunc]:=ID rfl
theorem aVz{K:TI→Prop}:@tyW Tryz.prog 142 ⟨K⟩=K Vz:=qh aX0
theorem ayb:Vz.kd=Kd.oth:=ID rfl
theorem am6:Vz.kd.agg=false:=ID rfl
theorem ahJ:Vz.size=1:=ID rfl
theorem acg:Vz.bytes=8:=ID rfl
theorem ax9:qw Vz=True:=eq_true rfl
theorem aya:zc Vz=[.v Value.nilFunc]:=ID rfl
theorem aVy{K:TI→Prop}:@tyW Tryz.prog 143 ⟨K⟩=K Vy:=qh aXZ
theorem ax8:Vy.kd=Kd.oth:=ID rfl
theorem am5:Vy.kd.agg=false:=ID rfl
theorem ahI:Vy.size=1:=ID rfl
theorem acf:Vy.bytes=8:=ID rfl
theorem ax6:qw Vy=True:=eq_true rfl
theorem ax7:zc Vy=[.v Value.nilFunc]:=ID rfl
theorem aVx{K:TI→Prop}:@tyW Tryz.prog 144 ⟨K⟩=K Vx:=qh aXY
theorem ax5:Vx.kd=Kd.oth:=ID rfl
theorem am4:Vx.kd.agg=false:=ID rfl
theorem ahH:Vx.size=1:=ID rfl
theorem ace:Vx.bytes=8:=ID rfl
theorem ax3:qw Vx=True:=eq_true rfl
theorem ax4:zc Vx=[.v Value.nilFunc]:=ID rfl
theorem aVw{K:TI→Prop}:@tyW Tryz.prog 145 ⟨K⟩=K Vw:=qh aXX
theorem ax2:Vw.kd=Kd.oth:=ID rfl
theorem am3:Vw.kd.agg=false:=ID rfl
theorem ahG:Vw.size=1:=ID rfl
theorem acd:Vw.bytes=8:=ID rfl
theorem ax0:qw Vw=True:=eq_true rfl
theorem ax1:zc Vw=[.v Value.nilFunc]:=ID rfl
theorem aVv{K:TI→Prop}:@tyW Tryz.prog 146 ⟨K⟩=K Vv:=qh aXW
theorem axZ:Vv.kd=Kd.oth:=ID rfl
theorem am2:Vv.kd.agg=false:=ID rfl
theorem ahF:Vv.size=1:=ID rfl
theorem acb:Vv.bytes=8:=ID rfl
theorem axX:qw Vv=True:=eq_true rfl
theorem axY:zc Vv=[.v Value.nilFunc]:=ID rfl
theorem aVu{K:TI→Prop}:@tyW Tryz.prog 147 ⟨K⟩=K Vu:=qh aXV
theorem axW:Vu.kd=Kd.oth:=ID rfl
theorem am1:Vu.kd.agg=false:=ID rfl
theorem ahE:Vu.size=1:=ID rfl
theorem aca:Vu.bytes=8:=ID rfl
theorem axU:qw Vu=True:=eq_true rfl
theorem axV:zc Vu=[.v Value.nilFunc]:=ID rfl
theorem aVt{K:TI→Prop}:@tyW Tryz.prog 148 ⟨K⟩=K Vt:=qh aXU
theorem axT:Vt.kd=Kd.oth:=ID rfl
theorem am0:Vt.kd.agg=false:=ID rfl
theorem ahD:Vt.size=1:=ID rfl
theorem ab9:Vt.bytes=8:=ID rfl
theorem axR:qw Vt=True:=eq_true rfl
theorem axS:zc Vt=[.v Value.nilFunc]:=ID rfl
theorem aVs{K:TI→Prop}:@tyW Tryz.prog 149 ⟨K⟩=K Vs:=qh aXT
theorem axQ:Vs.kd=Kd.oth:=ID rfl
theorem amZ:Vs.kd.agg=false:=ID rfl
theorem ahC:Vs.size=1:=ID rfl
theorem ab8:Vs.bytes=8:=ID rfl
theorem axO:qw Vs=True:=eq_true rfl
theorem axP:zc Vs=[.v Value.nilFunc]:=ID rfl
theorem aVr{K:TI→Prop}:@tyW Tryz.prog 151 ⟨K⟩=K Vr:=qh aXS
theorem axN:Vr.kd=Kd.oth:=ID rfl
theorem amY:Vr.kd.agg=false:=ID rfl
theorem ahB:Vr.size=1:=ID rfl
theorem ab7:Vr.bytes=8:=ID rfl
theorem axL:qw Vr=True:=eq_true rfl
theorem axM:zc Vr=[.v Value.nilFunc]:=ID rfl
theorem aVq{K:TI→Prop}:@tyW Tryz.prog 152 ⟨K⟩=K Vq:=qh aXR
theorem axK:Vq.kd=Kd.oth:=ID rfl
theorem amX:Vq.kd.agg=false:=ID rfl
theorem ahA:Vq.size=1:=ID rfl
theorem ab6:Vq.bytes=8:=ID rfl
theorem axI:qw Vq=True:=eq_true rfl
theorem axJ:zc Vq=[.v Value.nilFunc]:=ID rfl
theorem aVp{K:TI→Prop}:@tyW Tryz.prog 153 ⟨K⟩=K yV:=qh V8
theorem axH:yV.kd=Kd.sli 133:=ID rfl
theorem amW:yV.kd.agg=false:=ID rfl
theorem ahz:yV.size=1:=ID rfl
theorem ab5:yV.bytes=24:=ID rfl
theorem axF:qw yV=True:=eq_true rfl
theorem axG:zc yV=[.v (Value.slice none 0 0)]:=ID rfl
theorem aND{K:TI→Prop}:@yA Tryz.prog 153 ⟨K⟩=K QW:=Zr V8 rfl anT
theorem aVo{K:TI→Prop}:@tyW Tryz.prog 154 ⟨K⟩=K Zj:=qh aAf
theorem axE:Zj.kd=Kd.stru [(0,3),(1,153)]:=ID rfl
theorem amV:Zj.kd.agg=true:=ID rfl
theorem ahy:Zj.size=2:=ID rfl
theorem ab4:Zj.bytes=32:=ID rfl
theorem axC:qw Zj=True:=eq_true rfl
theorem axD:zc Zj=[.v (Value.int IntKind.i64 0),.v (Value.slice none 0 0)]:=ID rfl
theorem aBY{K:Nat→TI→Prop}:@qz Tryz.prog 154 0 ⟨K⟩=K 0 ti3:=qs (ti:=Zj) (tf:=ti3) (fo:=(0,3)) (fs:=[(0,3),(1,153)]) aAf rfl rfl tf3
theorem aI5{K:Nat→Nat→Prop}:qt Tryz.prog [(0,3),(1,153)] 0 K=K 0 1:=qr (tf:=ti3) (fo:=(0,3)) (fs:=[(0,3),(1,153)]) rfl tf3
theorem aBX{K:Nat→TI→Prop}:@qz Tryz.prog 154 1 ⟨K⟩=K 1 yV:=qs (ti:=Zj) (tf:=yV) (fo:=(1,153)) (fs:=[(0,3),(1,153)]) aAf rfl rfl V8
theorem aI4{K:Nat→Nat→Prop}:qt Tryz.prog [(0,3),(1,153)] 1 K=K 1 1:=qr (tf:=yV) (fo:=(1,153)) (fs:=[(0,3),(1,153)]) rfl V8
theorem aKE:∀f∈([(0,3),(1,153)]:List (Nat×Nat)),(qo Tryz.prog f.2).isSome=true:=by
 intro f hf
 simp only[List.mem_cons,List.not_mem_nil,or_false]at hf
 rcases hf with rfl|rfl
 ·rw[tf3];rfl
 ·rw[V8];rfl
theorem aSY{ps:List (Nat×AV)}{K:AV→Prop}:@zg Tryz.prog 154 ps ⟨K⟩=@ze (qt Tryz.prog [(0,3),(1,153)]) (zc Zj) ps ⟨fun cs=>K (.ag cs)⟩:=qJ aAf rfl aKE
theorem aVn{K:TI→Prop}:@tyW Tryz.prog 155 ⟨K⟩=K Zi:=qh aAe
theorem axB:Zi.kd=Kd.stru [(0,3),(1,153)]:=ID rfl
theorem amU:Zi.kd.agg=true:=ID rfl
theorem ahx:Zi.size=2:=ID rfl
theorem ab3:Zi.bytes=32:=ID rfl
theorem axz:qw Zi=True:=eq_true rfl
theorem axA:zc Zi=[.v (Value.int IntKind.i64 0),.v (Value.slice none 0 0)]:=ID rfl
theorem aBW{K:Nat→TI→Prop}:@qz Tryz.prog 155 0 ⟨K⟩=K 0 ti3:=qs (ti:=Zi) (tf:=ti3) (fo:=(0,3)) (fs:=[(0,3),(1,153)]) aAe rfl rfl tf3
theorem aI3{K:Nat→Nat→Prop}:qt Tryz.prog [(0,3),(1,153)] 0 K=K 0 1:=qr (tf:=ti3) (fo:=(0,3)) (fs:=[(0,3),(1,153)]) rfl tf3
theorem aBV{K:Nat→TI→Prop}:@qz Tryz.prog 155 1 ⟨K⟩=K 1 yV:=qs (ti:=Zi) (tf:=yV) (fo:=(1,153)) (fs:=[(0,3),(1,153)]) aAe rfl rfl V8
theorem aI2{K:Nat→Nat→Prop}:qt Tryz.prog [(0,3),(1,153)] 1 K=K 1 1:=qr (tf:=yV) (fo:=(1,153)) (fs:=[(0,3),(1,153)]) rfl V8
theorem aKD:∀f∈([(0,3),(1,153)]:List (Nat×Nat)),(qo Tryz.prog f.2).isSome=true:=by
 intro f hf
 simp only[List.mem_cons,List.not_mem_nil,or_false]at hf
 rcases hf with rfl|rfl
 ·rw[tf3];rfl
 ·rw[V8];rfl
theorem aSX{ps:List (Nat×AV)}{K:AV→Prop}:@zg Tryz.prog 155 ps ⟨K⟩=@ze (qt Tryz.prog [(0,3),(1,153)]) (zc Zi) ps ⟨fun cs=>K (.ag cs)⟩:=qJ aAe rfl aKD
theorem aVm{K:TI→Prop}:@tyW Tryz.prog 156 ⟨K⟩=K Vp:=qh aXQ
theorem axy:Vp.kd=Kd.oth:=ID rfl
theorem amT:Vp.kd.agg=false:=ID rfl
theorem ahw:Vp.size=1:=ID rfl
theorem ab2:Vp.bytes=8:=ID rfl
theorem axw:qw Vp=True:=eq_true rfl
theorem axx:zc Vp=[.v Value.nilFunc]:=ID rfl
theorem aVl{K:TI→Prop}:@tyW Tryz.prog 157 ⟨K⟩=K Vo:=qh aXP
theorem axv:Vo.kd=Kd.oth:=ID rfl
theorem amS:Vo.kd.agg=false:=ID rfl
theorem ahv:Vo.size=1:=ID rfl
theorem ab1:Vo.bytes=8:=ID rfl
theorem axt:qw Vo=True:=eq_true rfl
theorem axu:zc Vo=[.v Value.nilFunc]:=ID rfl
theorem aVk{K:TI→Prop}:@tyW Tryz.prog 158 ⟨K⟩=K Vn:=qh aXO
theorem axs:Vn.kd=Kd.oth:=ID rfl
theorem amR:Vn.kd.agg=false:=ID rfl
theorem ahu:Vn.size=1:=ID rfl
theorem ab0:Vn.bytes=8:=ID rfl
theorem axq:qw Vn=True:=eq_true rfl
theorem axr:zc Vn=[.v Value.nilFunc]:=ID rfl
theorem aVj{K:TI→Prop}:@tyW Tryz.prog 159 ⟨K⟩=K Vm:=qh aXN
theorem axp:Vm.kd=Kd.oth:=ID rfl
theorem amQ:Vm.kd.agg=false:=ID rfl
theorem aht:Vm.size=1:=ID rfl
theorem abZ:Vm.bytes=8:=ID rfl
theorem axn:qw Vm=True:=eq_true rfl
theorem axo:zc Vm=[.v Value.nilFunc]:=ID rfl
theorem aVi{K:TI→Prop}:@tyW Tryz.prog 160 ⟨K⟩=K Vl:=qh aXM
theorem axm:Vl.kd=Kd.oth:=ID rfl
theorem amP:Vl.kd.agg=false:=ID rfl
theorem ahs:Vl.size=1:=ID rfl
theorem abY:Vl.bytes=8:=ID rfl
theorem axk:qw Vl=True:=eq_true rfl
theorem axl:zc Vl=[.v Value.nilFunc]:=ID rfl
theorem aVh{K:TI→Prop}:@tyW Tryz.prog 161 ⟨K⟩=K Vk:=qh aXL
theorem axj:Vk.kd=Kd.oth:=ID rfl
theorem amO:Vk.kd.agg=false:=ID rfl
theorem ahr:Vk.size=1:=ID rfl
theorem abX:Vk.bytes=8:=ID rfl
theorem axh:qw Vk=True:=eq_true rfl
theorem axi:zc Vk=[.v Value.nilFunc]:=ID rfl
theorem aVg{K:TI→Prop}:@tyW Tryz.prog 163 ⟨K⟩=K Vj:=qh aXK
theorem axg:Vj.kd=Kd.oth:=ID rfl
theorem amN:Vj.kd.agg=false:=ID rfl
theorem ahq:Vj.size=1:=ID rfl
theorem abW:Vj.bytes=8:=ID rfl
theorem axe:qw Vj=True:=eq_true rfl
theorem axf:zc Vj=[.v Value.nilFunc]:=ID rfl
theorem aVf{K:TI→Prop}:@tyW Tryz.prog 164 ⟨K⟩=K Vi:=qh aXJ
theorem axd:Vi.kd=Kd.oth:=ID rfl
theorem amM:Vi.kd.agg=false:=ID rfl
theorem ahp:Vi.size=1:=ID rfl
theorem abV:Vi.bytes=8:=ID rfl
theorem axb:qw Vi=True:=eq_true rfl
theorem axc:zc Vi=[.v Value.nilFunc]:=ID rfl
theorem aVe{K:TI→Prop}:@tyW Tryz.prog 165 ⟨K⟩=K Vh:=qh aXI
theorem axa:Vh.kd=Kd.oth:=ID rfl
theorem amL:Vh.kd.agg=false:=ID rfl
theorem aho:Vh.size=1:=ID rfl
theorem abU:Vh.bytes=8:=ID rfl
theorem aw8:qw Vh=True:=eq_true rfl
theorem aw9:zc Vh=[.v Value.nilFunc]:=ID rfl
theorem aVd{K:TI→Prop}:@tyW Tryz.prog 166 ⟨K⟩=K Vg:=qh aXH
theorem aw7:Vg.kd=Kd.oth:=ID rfl
theorem amK:Vg.kd.agg=false:=ID rfl
theorem ahn:Vg.size=1:=ID rfl
theorem abT:Vg.bytes=8:=ID rfl
theorem aw5:qw Vg=True:=eq_true rfl
theorem aw6:zc Vg=[.v Value.nilFunc]:=ID rfl
theorem aVc{K:TI→Prop}:@tyW Tryz.prog 167 ⟨K⟩=K Vf:=qh aXG
theorem aw4:Vf.kd=Kd.oth:=ID rfl
theorem amJ:Vf.kd.agg=false:=ID rfl
theorem ahm:Vf.size=1:=ID rfl
theorem abS:Vf.bytes=8:=ID rfl
theorem aw2:qw Vf=True:=eq_true rfl
theorem aw3:zc Vf=[.v Value.nilFunc]:=ID rfl
theorem aVb{K:TI→Prop}:@tyW Tryz.prog 168 ⟨K⟩=K Ve:=qh aXF
theorem aw1:Ve.kd=Kd.oth:=ID rfl
theorem amI:Ve.kd.agg=false:=ID rfl
theorem ahl:Ve.size=1:=ID rfl
theorem abR:Ve.bytes=8:=ID rfl
theorem awZ:qw Ve=True:=eq_true rfl
theorem aw0:zc Ve=[.v Value.nilFunc]:=ID rfl
theorem aVa{K:TI→Prop}:@tyW Tryz.prog 169 ⟨K⟩=K Vd:=qh aXE
theorem awY:Vd.kd=Kd.oth:=ID rfl
theorem amH:Vd.kd.agg=false:=ID rfl
theorem ahk:Vd.size=1:=ID rfl
theorem abQ:Vd.bytes=8:=ID rfl
theorem awW:qw Vd=True:=eq_true rfl
theorem awX:zc Vd=[.v Value.nilFunc]:=ID rfl
theorem aU9{K:TI→Prop}:@tyW Tryz.prog 170 ⟨K⟩=K Vc:=qh aXD
theorem awU:Vc.kd=Kd.oth:=ID rfl
theorem amG:Vc.kd.agg=false:=ID rfl
theorem ahj:Vc.size=1:=ID rfl
theorem abP:Vc.bytes=8:=ID rfl
theorem awS:qw Vc=True:=eq_true rfl
theorem awT:zc Vc=[.v Value.nilFunc]:=ID rfl
theorem aU8{K:TI→Prop}:@tyW Tryz.prog 171 ⟨K⟩=K Vb:=qh aXC
theorem awR:Vb.kd=Kd.oth:=ID rfl
theorem amF:Vb.kd.agg=false:=ID rfl
theorem ahi:Vb.size=1:=ID rfl
theorem abO:Vb.bytes=8:=ID rfl
theorem awP:qw Vb=True:=eq_true rfl
theorem awQ:zc Vb=[.v Value.nilFunc]:=ID rfl
theorem aU7{K:TI→Prop}:@tyW Tryz.prog 173 ⟨K⟩=K Va:=qh aXB
theorem awO:Va.kd=Kd.oth:=ID rfl
theorem amE:Va.kd.agg=false:=ID rfl
theorem ahh:Va.size=1:=ID rfl
theorem abN:Va.bytes=8:=ID rfl
theorem awM:qw Va=True:=eq_true rfl
theorem awN:zc Va=[.v Value.nilFunc]:=ID rfl
theorem aU6{K:TI→Prop}:@tyW Tryz.prog 174 ⟨K⟩=K QV:=qh anS
theorem awL:QV.kd=Kd.stru [(0,22),(1,3),(2,3)]:=ID rfl
theorem amD:QV.kd.agg=true:=ID rfl
theorem ahg:QV.size=3:=ID rfl
theorem abM:QV.bytes=40:=ID rfl
theorem awJ:qw QV=True:=eq_true rfl
theorem awK:zc QV=[.v (Value.slice none 0 0),.v (Value.int IntKind.i64 0),.v (Value.int IntKind.i64 0)]:=ID rfl
theorem aBU{K:Nat→TI→Prop}:@qz Tryz.prog 174 0 ⟨K⟩=K 0 aeb:=qs (ti:=QV) (tf:=aeb) (fo:=(0,22)) (fs:=[(0,22),(1,3),(2,3)]) anS rfl rfl aEa
theorem aI1{K:Nat→Nat→Prop}:qt Tryz.prog [(0,22),(1,3),(2,3)] 0 K=K 0 1:=qr (tf:=aeb) (fo:=(0,22)) (fs:=[(0,22),(1,3),(2,3)]) rfl aEa
theorem aBT{K:Nat→TI→Prop}:@qz Tryz.prog 174 1 ⟨K⟩=K 1 ti3:=qs (ti:=QV) (tf:=ti3) (fo:=(1,3)) (fs:=[(0,22),(1,3),(2,3)]) anS rfl rfl tf3
theorem aI0{K:Nat→Nat→Prop}:qt Tryz.prog [(0,22),(1,3),(2,3)] 1 K=K 1 1:=qr (tf:=ti3) (fo:=(1,3)) (fs:=[(0,22),(1,3),(2,3)]) rfl tf3
theorem aBS{K:Nat→TI→Prop}:@qz Tryz.prog 174 2 ⟨K⟩=K 2 ti3:=qs (ti:=QV) (tf:=ti3) (fo:=(2,3)) (fs:=[(0,22),(1,3),(2,3)]) anS rfl rfl tf3
theorem aIZ{K:Nat→Nat→Prop}:qt Tryz.prog [(0,22),(1,3),(2,3)] 2 K=K 2 1:=qr (tf:=ti3) (fo:=(2,3)) (fs:=[(0,22),(1,3),(2,3)]) rfl tf3
theorem aKC:∀f∈([(0,22),(1,3),(2,3)]:List (Nat×Nat)),(qo Tryz.prog f.2).isSome=true:=by
 intro f hf
 simp only[List.mem_cons,List.not_mem_nil,or_false]at hf
 rcases hf with rfl|rfl|rfl
 ·rw[aEa];rfl
 ·rw[tf3];rfl
 ·rw[tf3];rfl
theorem aSW{ps:List (Nat×AV)}{K:AV→Prop}:@zg Tryz.prog 174 ps ⟨K⟩=@ze (qt Tryz.prog [(0,22),(1,3),(2,3)]) (zc QV) ps ⟨fun cs=>K (.ag cs)⟩:=qJ anS rfl aKC
theorem aU5{K:TI→Prop}:@tyW Tryz.prog 175 ⟨K⟩=K QU:=qh anR
theorem awI:QU.kd=Kd.stru [(0,22),(1,3),(2,3)]:=ID rfl
theorem amC:QU.kd.agg=true:=ID rfl
theorem ahf:QU.size=3:=ID rfl
theorem abL:QU.bytes=40:=ID rfl
theorem awG:qw QU=True:=eq_true rfl
theorem awH:zc QU=[.v (Value.slice none 0 0),.v (Value.int IntKind.i64 0),.v (Value.int IntKind.i64 0)]:=ID rfl
theorem aBR{K:Nat→TI→Prop}:@qz Tryz.prog 175 0 ⟨K⟩=K 0 aeb:=qs (ti:=QU) (tf:=aeb) (fo:=(0,22)) (fs:=[(0,22),(1,3),(2,3)]) anR rfl rfl aEa
theorem aIY{K:Nat→Nat→Prop}:qt Tryz.prog [(0,22),(1,3),(2,3)] 0 K=K 0 1:=qr (tf:=aeb) (fo:=(0,22)) (fs:=[(0,22),(1,3),(2,3)]) rfl aEa
theorem aBQ{K:Nat→TI→Prop}:@qz Tryz.prog 175 1 ⟨K⟩=K 1 ti3:=qs (ti:=QU) (tf:=ti3) (fo:=(1,3)) (fs:=[(0,22),(1,3),(2,3)]) anR rfl rfl tf3
theorem aIX{K:Nat→Nat→Prop}:qt Tryz.prog [(0,22),(1,3),(2,3)] 1 K=K 1 1:=qr (tf:=ti3) (fo:=(1,3)) (fs:=[(0,22),(1,3),(2,3)]) rfl tf3
theorem aBP{K:Nat→TI→Prop}:@qz Tryz.prog 175 2 ⟨K⟩=K 2 ti3:=qs (ti:=QU) (tf:=ti3) (fo:=(2,3)) (fs:=[(0,22),(1,3),(2,3)]) anR rfl rfl tf3
theorem aIW{K:Nat→Nat→Prop}:qt Tryz.prog [(0,22),(1,3),(2,3)] 2 K=K 2 1:=qr (tf:=ti3) (fo:=(2,3)) (fs:=[(0,22),(1,3),(2,3)]) rfl tf3
theorem aKB:∀f∈([(0,22),(1,3),(2,3)]:List (Nat×Nat)),(qo Tryz.prog f.2).isSome=true:=by
 intro f hf
 simp only[List.mem_cons,List.not_mem_nil,or_false]at hf
 rcases hf with rfl|rfl|rfl
 ·rw[aEa];rfl
 ·rw[tf3];rfl
 ·rw[tf3];rfl
theorem aSV{ps:List (Nat×AV)}{K:AV→Prop}:@zg Tryz.prog 175 ps ⟨K⟩=@ze (qt Tryz.prog [(0,22),(1,3),(2,3)]) (zc QU) ps ⟨fun cs=>K (.ag cs)⟩:=qJ anR rfl aKB
theorem aU4{K:TI→Prop}:@tyW Tryz.prog 176 ⟨K⟩=K X9:=qh aXA
theorem awF:X9.kd=Kd.oth:=ID rfl
theorem amB:X9.kd.agg=false:=ID rfl
theorem ahe:X9.size=1:=ID rfl
theorem abK:X9.bytes=8:=ID rfl
theorem awD:qw X9=True:=eq_true rfl
theorem awE:zc X9=[.v Value.nilFunc]:=ID rfl
theorem aU3{K:TI→Prop}:@tyW Tryz.prog 177 ⟨K⟩=K X8:=qh aXz
theorem awC:X8.kd=Kd.oth:=ID rfl
theorem amA:X8.kd.agg=false:=ID rfl
theorem ahd:X8.size=1:=ID rfl
theorem abJ:X8.bytes=8:=ID rfl
theorem awA:qw X8=True:=eq_true rfl
theorem awB:zc X8=[.v Value.nilFunc]:=ID rfl
theorem aU2{K:TI→Prop}:@tyW Tryz.prog 178 ⟨K⟩=K X7:=qh aXy
theorem awz:X7.kd=Kd.oth:=ID rfl
theorem amz:X7.kd.agg=false:=ID rfl
theorem ahc:X7.size=1:=ID rfl
theorem abI:X7.bytes=8:=ID rfl
theorem awx:qw X7=True:=eq_true rfl
theorem awy:zc X7=[.v Value.nilFunc]:=ID rfl
theorem aU1{K:TI→Prop}:@tyW Tryz.prog 179 ⟨K⟩=K X6:=qh aXx
theorem aww:X6.kd=Kd.oth:=ID rfl
theorem amy:X6.kd.agg=false:=ID rfl
theorem ahb:X6.size=1:=ID rfl
theorem abH:X6.bytes=8:=ID rfl
theorem awu:qw X6=True:=eq_true rfl
theorem awv:zc X6=[.v Value.nilFunc]:=ID rfl
theorem aU0{K:TI→Prop}:@tyW Tryz.prog 180 ⟨K⟩=K X5:=qh aXw
theorem awt:X5.kd=Kd.oth:=ID rfl
theorem amx:X5.kd.agg=false:=ID rfl
theorem aha:X5.size=1:=ID rfl
theorem abG:X5.bytes=8:=ID rfl
theorem awr:qw X5=True:=eq_true rfl
theorem aws:zc X5=[.v Value.nilFunc]:=ID rfl
theorem aUZ{K:TI→Prop}:@tyW Tryz.prog 182 ⟨K⟩=K X4:=qh aXv
theorem awq:X4.kd=Kd.oth:=ID rfl
theorem amw:X4.kd.agg=false:=ID rfl
theorem ag9:X4.size=1:=ID rfl
theorem abF:X4.bytes=8:=ID rfl
theorem awn:qw X4=True:=eq_true rfl
theorem awo:zc X4=[.v Value.nilFunc]:=ID rfl
theorem aUY{K:TI→Prop}:@tyW Tryz.prog 183 ⟨K⟩=K X3:=qh aXu
theorem awm:X3.kd=Kd.oth:=ID rfl
theorem amv:X3.kd.agg=false:=ID rfl
theorem ag8:X3.size=1:=ID rfl
theorem abE:X3.bytes=8:=ID rfl
theorem awk:qw X3=True:=eq_true rfl
theorem awl:zc X3=[.v Value.nilFunc]:=ID rfl
theorem aUX{K:TI→Prop}:@tyW Tryz.prog 184 ⟨K⟩=K X2:=qh aXt
theorem awj:X2.kd=Kd.oth:=ID rfl
theorem amu:X2.kd.agg=false:=ID rfl
theorem ag7:X2.size=1:=ID rfl
theorem abD:X2.bytes=8:=ID rfl
theorem awh:qw X2=True:=eq_true rfl
theorem awi:zc X2=[.v Value.nilFunc]:=ID rfl
theorem aUW{K:TI→Prop}:@tyW Tryz.prog 185 ⟨K⟩=K X1:=qh aXs
theorem awg:X1.kd=Kd.oth:=ID rfl
theorem amt:X1.kd.agg=false:=ID rfl
theorem ag6:X1.size=1:=ID rfl
theorem abC:X1.bytes=8:=ID rfl
theorem awe:qw X1=True:=eq_true rfl
theorem awf:zc X1=[.v Value.nilFunc]:=ID rfl
theorem aUV{K:TI→Prop}:@tyW Tryz.prog 186 ⟨K⟩=K X0:=qh aXr
theorem awd:X0.kd=Kd.oth:=ID rfl
theorem ams:X0.kd.agg=false:=ID rfl
theorem ag5:X0.size=1:=ID rfl
theorem abB:X0.bytes=8:=ID rfl
theorem awb:qw X0=True:=eq_true rfl
theorem awc:zc X0=[.v Value.nilFunc]:=ID rfl
theorem aUU{K:TI→Prop}:@tyW Tryz.prog 187 ⟨K⟩=K XZ:=qh aXq
theorem awa:XZ.kd=Kd.oth:=ID rfl
theorem amr:XZ.kd.agg=false:=ID rfl
theorem ag4:XZ.size=1:=ID rfl
theorem abA:XZ.bytes=8:=ID rfl
theorem av8:qw XZ=True:=eq_true rfl
theorem av9:zc XZ=[.v Value.nilFunc]:=ID rfl
theorem aUT{K:TI→Prop}:@tyW Tryz.prog 188 ⟨K⟩=K XY:=qh aXp
theorem av7:XY.kd=Kd.oth:=ID rfl
theorem amq:XY.kd.agg=false:=ID rfl
theorem ag3:XY.size=1:=ID rfl
theorem abz:XY.bytes=8:=ID rfl
theorem av5:qw XY=True:=eq_true rfl
theorem av6:zc XY=[.v Value.nilFunc]:=ID rfl
theorem aUS{K:TI→Prop}:@tyW Tryz.prog 189 ⟨K⟩=K XX:=qh aXo
theorem av4:XX.kd=Kd.oth:=ID rfl
theorem amp:XX.kd.agg=false:=ID rfl
theorem ag2:XX.size=1:=ID rfl
theorem aby:XX.bytes=8:=ID rfl
theorem av2:qw XX=True:=eq_true rfl
theorem av3:zc XX=[.v Value.nilFunc]:=ID rfl
theorem aUR{K:TI→Prop}:@tyW Tryz.prog 190 ⟨K⟩=K XW:=qh aXn
theorem av1:XW.kd=Kd.oth:=ID rfl
theorem amo:XW.kd.agg=false:=ID rfl
theorem ag1:XW.size=1:=ID rfl
theorem abx:XW.bytes=8:=ID rfl
theorem avZ:qw XW=True:=eq_true rfl
theorem av0:zc XW=[.v Value.nilFunc]:=ID rfl
theorem aUQ{K:TI→Prop}:@tyW Tryz.prog 191 ⟨K⟩=K XV:=qh aXm
theorem avY:XV.kd=Kd.oth:=ID rfl
theorem amn:XV.kd.agg=false:=ID rfl
theorem ag0:XV.size=1:=ID rfl
theorem abw:XV.bytes=8:=ID rfl
theorem avW:qw XV=True:=eq_true rfl
theorem avX:zc XV=[.v Value.nilFunc]:=ID rfl
theorem aUP{K:TI→Prop}:@tyW Tryz.prog 192 ⟨K⟩=K XU:=qh aXl
theorem avV:XU.kd=Kd.oth:=ID rfl
theorem amm:XU.kd.agg=false:=ID rfl
theorem agZ:XU.size=1:=ID rfl
theorem abv:XU.bytes=8:=ID rfl
theorem avT:qw XU=True:=eq_true rfl
theorem avU:zc XU=[.v Value.nilFunc]:=ID rfl
theorem aUO{K:TI→Prop}:@tyW Tryz.prog 194 ⟨K⟩=K XT:=qh aXk
theorem avS:XT.kd=Kd.oth:=ID rfl
theorem aml:XT.kd.agg=false:=ID rfl
theorem agY:XT.size=1:=ID rfl
theorem abu:XT.bytes=8:=ID rfl
theorem avQ:qw XT=True:=eq_true rfl
theorem avR:zc XT=[.v Value.nilFunc]:=ID rfl
theorem aUN{K:TI→Prop}:@tyW Tryz.prog 195 ⟨K⟩=K XS:=qh aNm
theorem avP:XS.kd=Kd.sli 111:=ID rfl
theorem amk:XS.kd.agg=false:=ID rfl
theorem agX:XS.size=1:=ID rfl
theorem abt:XS.bytes=24:=ID rfl
theorem avN:qw XS=True:=eq_true rfl
theorem avO:zc XS=[.v (Value.slice none 0 0)]:=ID rfl
theorem aNC{K:TI→Prop}:@yA Tryz.prog 195 ⟨K⟩=K yJ:=Zr aNm rfl JS
theorem aUM{K:TI→Prop}:@tyW Tryz.prog 196 ⟨K⟩=K XR:=qh aXj
theorem avM:XR.kd=Kd.oth:=ID rfl
theorem amj:XR.kd.agg=false:=ID rfl
theorem agW:XR.size=1:=ID rfl
theorem abr:XR.bytes=8:=ID rfl
theorem avK:qw XR=True:=eq_true rfl
theorem avL:zc XR=[.v Value.nilFunc]:=ID rfl
theorem aUL{K:TI→Prop}:@tyW Tryz.prog 197 ⟨K⟩=K XQ:=qh aXi
theorem avJ:XQ.kd=Kd.oth:=ID rfl
theorem ami:XQ.kd.agg=false:=ID rfl
theorem agV:XQ.size=1:=ID rfl
theorem abq:XQ.bytes=8:=ID rfl
theorem avH:qw XQ=True:=eq_true rfl
theorem avI:zc XQ=[.v Value.nilFunc]:=ID rfl
theorem aUK{K:TI→Prop}:@tyW Tryz.prog 198 ⟨K⟩=K XP:=qh aXh
theorem avG:XP.kd=Kd.oth:=ID rfl
theorem amh:XP.kd.agg=false:=ID rfl
theorem agU:XP.size=1:=ID rfl
theorem abp:XP.bytes=8:=ID rfl
theorem avE:qw XP=True:=eq_true rfl
theorem avF:zc XP=[.v Value.nilFunc]:=ID rfl
theorem aUJ{K:TI→Prop}:@tyW Tryz.prog 199 ⟨K⟩=K XO:=qh aXg
theorem avD:XO.kd=Kd.oth:=ID rfl
theorem amg:XO.kd.agg=false:=ID rfl
theorem agT:XO.size=1:=ID rfl
theorem abo:XO.bytes=8:=ID rfl
theorem avB:qw XO=True:=eq_true rfl
theorem avC:zc XO=[.v Value.nilFunc]:=ID rfl
theorem aUI{K:TI→Prop}:@tyW Tryz.prog 201 ⟨K⟩=K XN:=qh aXf
theorem avz:XN.kd=Kd.oth:=ID rfl
theorem ame:XN.kd.agg=false:=ID rfl
theorem agS:XN.size=1:=ID rfl
theorem abn:XN.bytes=8:=ID rfl
theorem avx:qw XN=True:=eq_true rfl
theorem avy:zc XN=[.v Value.nilFunc]:=ID rfl
theorem aUH{K:TI→Prop}:@tyW Tryz.prog 203 ⟨K⟩=K XM:=qh aXe
theorem avw:XM.kd=Kd.oth:=ID rfl
theorem amd:XM.kd.agg=false:=ID rfl
theorem agR:XM.size=1:=ID rfl
theorem abm:XM.bytes=8:=ID rfl
theorem avu:qw XM=True:=eq_true rfl
theorem avv:zc XM=[.v Value.nilFunc]:=ID rfl
theorem aUG{K:TI→Prop}:@tyW Tryz.prog 204 ⟨K⟩=K XL:=qh aXd
theorem avt:XL.kd=Kd.oth:=ID rfl
theorem amc:XL.kd.agg=false:=ID rfl
theorem agQ:XL.size=1:=ID rfl
theorem abl:XL.bytes=8:=ID rfl
theorem avr:qw XL=True:=eq_true rfl
theorem avs:zc XL=[.v Value.nilFunc]:=ID rfl
theorem aUF{K:TI→Prop}:@tyW Tryz.prog 205 ⟨K⟩=K XK:=qh aXc
theorem avq:XK.kd=Kd.oth:=ID rfl
theorem amb:XK.kd.agg=false:=ID rfl
theorem agP:XK.size=1:=ID rfl
theorem abk:XK.bytes=8:=ID rfl
theorem avo:qw XK=True:=eq_true rfl
theorem avp:zc XK=[.v Value.nilFunc]:=ID rfl
theorem aUE{K:TI→Prop}:@tyW Tryz.prog 207 ⟨K⟩=K XJ:=qh aXb
theorem avn:XJ.kd=Kd.oth:=ID rfl
theorem ama:XJ.kd.agg=false:=ID rfl
theorem agO:XJ.size=1:=ID rfl
theorem abj:XJ.bytes=8:=ID rfl
theorem avl:qw XJ=True:=eq_true rfl
theorem avm:zc XJ=[.v Value.nilFunc]:=ID rfl
theorem aUD{K:TI→Prop}:@tyW Tryz.prog 208 ⟨K⟩=K XI:=qh aXa
theorem avk:XI.kd=Kd.oth:=ID rfl
theorem al9:XI.kd.agg=false:=ID rfl
theorem agN:XI.size=1:=ID rfl
theorem abi:XI.bytes=8:=ID rfl
theorem avi:qw XI=True:=eq_true rfl
theorem avj:zc XI=[.v Value.nilFunc]:=ID rfl
theorem aUC{K:TI→Prop}:@tyW Tryz.prog 209 ⟨K⟩=K XH:=qh aW9
theorem avh:XH.kd=Kd.oth:=ID rfl
theorem al8:XH.kd.agg=false:=ID rfl
theorem agM:XH.size=1:=ID rfl
theorem abh:XH.bytes=8:=ID rfl
theorem avf:qw XH=True:=eq_true rfl
theorem avg:zc XH=[.v Value.nilFunc]:=ID rfl
theorem aUB{K:TI→Prop}:@tyW Tryz.prog 210 ⟨K⟩=K XG:=qh aW8
theorem ave:XG.kd=Kd.oth:=ID rfl
theorem al7:XG.kd.agg=false:=ID rfl
theorem agL:XG.size=1:=ID rfl
theorem abg:XG.bytes=8:=ID rfl
theorem avc:qw XG=True:=eq_true rfl
theorem avd:zc XG=[.v Value.nilFunc]:=ID rfl
theorem aUA{K:TI→Prop}:@tyW Tryz.prog 211 ⟨K⟩=K XF:=qh aW7
theorem avb:XF.kd=Kd.oth:=ID rfl
theorem al6:XF.kd.agg=false:=ID rfl
theorem agK:XF.size=1:=ID rfl
theorem abf:XF.bytes=8:=ID rfl
theorem au9:qw XF=True:=eq_true rfl
theorem ava:zc XF=[.v Value.nilFunc]:=ID rfl
theorem aUz{K:TI→Prop}:@tyW Tryz.prog 212 ⟨K⟩=K XE:=qh aW6
theorem au8:XE.kd=Kd.oth:=ID rfl
theorem al5:XE.kd.agg=false:=ID rfl
theorem agJ:XE.size=1:=ID rfl
theorem abe:XE.bytes=8:=ID rfl
theorem au6:qw XE=True:=eq_true rfl
theorem au7:zc XE=[.v Value.nilFunc]:=ID rfl
theorem aUy{K:TI→Prop}:@tyW Tryz.prog 213 ⟨K⟩=K XD:=qh aW5
theorem au5:XD.kd=Kd.oth:=ID rfl
theorem al4:XD.kd.agg=false:=ID rfl
theorem agI:XD.size=1:=ID rfl
theorem abd:XD.bytes=8:=ID rfl
theorem au3:qw XD=True:=eq_true rfl
theorem au4:zc XD=[.v Value.nilFunc]:=ID rfl
theorem aUx{K:TI→Prop}:@tyW Tryz.prog 214 ⟨K⟩=K XC:=qh aW4
theorem au2:XC.kd=Kd.oth:=ID rfl
theorem al3:XC.kd.agg=false:=ID rfl
theorem agH:XC.size=1:=ID rfl
theorem abc:XC.bytes=8:=ID rfl
theorem au0:qw XC=True:=eq_true rfl
theorem au1:zc XC=[.v Value.nilFunc]:=ID rfl
theorem aUw{K:TI→Prop}:@tyW Tryz.prog 215 ⟨K⟩=K XB:=qh aW3
theorem auZ:XB.kd=Kd.oth:=ID rfl
theorem al2:XB.kd.agg=false:=ID rfl
theorem agG:XB.size=1:=ID rfl
theorem abb:XB.bytes=8:=ID rfl
theorem auX:qw XB=True:=eq_true rfl
theorem auY:zc XB=[.v Value.nilFunc]:=ID rfl
theorem aUv{K:TI→Prop}:@tyW Tryz.prog 216 ⟨K⟩=K XA:=qh aW2
theorem auW:XA.kd=Kd.int IntKind.u64:=ID rfl
theorem al1:XA.kd.agg=false:=ID rfl
theorem agF:XA.size=1:=ID rfl
theorem aba:XA.bytes=8:=ID rfl
theorem auU:qw XA=True:=eq_true rfl
theorem auV:zc XA=[.v (Value.int IntKind.u64 0)]:=ID rfl
theorem aUu{K:TI→Prop}:@tyW Tryz.prog 217 ⟨K⟩=K Xz:=qh aW1
theorem auT:Xz.kd=Kd.oth:=ID rfl
theorem al0:Xz.kd.agg=false:=ID rfl
theorem agE:Xz.size=1:=ID rfl
theorem aa9:Xz.bytes=8:=ID rfl
theorem auR:qw Xz=True:=eq_true rfl
theorem auS:zc Xz=[.v Value.nilFunc]:=ID rfl
theorem aUt{K:TI→Prop}:@tyW Tryz.prog 218 ⟨K⟩=K Xy:=qh aW0
theorem auQ:Xy.kd=Kd.oth:=ID rfl
theorem alZ:Xy.kd.agg=false:=ID rfl
theorem agD:Xy.size=1:=ID rfl
theorem aa8:Xy.bytes=8:=ID rfl
theorem auO:qw Xy=True:=eq_true rfl
theorem auP:zc Xy=[.v Value.nilFunc]:=ID rfl
theorem aUs{K:TI→Prop}:@tyW Tryz.prog 219 ⟨K⟩=K Xx:=qh aWZ
theorem auN:Xx.kd=Kd.oth:=ID rfl
theorem alY:Xx.kd.agg=false:=ID rfl
theorem agC:Xx.size=1:=ID rfl
theorem aa7:Xx.bytes=8:=ID rfl
theorem auL:qw Xx=True:=eq_true rfl
theorem auM:zc Xx=[.v Value.nilFunc]:=ID rfl
theorem aUr{K:TI→Prop}:@tyW Tryz.prog 220 ⟨K⟩=K Xw:=qh aWY
theorem auJ:Xw.kd=Kd.oth:=ID rfl
theorem alW:Xw.kd.agg=false:=ID rfl
theorem agA:Xw.size=1:=ID rfl
theorem aa6:Xw.bytes=8:=ID rfl
theorem auH:qw Xw=True:=eq_true rfl
theorem auI:zc Xw=[.v Value.nilFunc]:=ID rfl
theorem aUq{K:TI→Prop}:@tyW Tryz.prog 221 ⟨K⟩=K Xv:=qh aWX
theorem auG:Xv.kd=Kd.oth:=ID rfl
theorem alV:Xv.kd.agg=false:=ID rfl
theorem agz:Xv.size=1:=ID rfl
theorem aa5:Xv.bytes=8:=ID rfl
theorem auE:qw Xv=True:=eq_true rfl
theorem auF:zc Xv=[.v Value.nilFunc]:=ID rfl
theorem aUp{K:TI→Prop}:@tyW Tryz.prog 222 ⟨K⟩=K Xu:=qh aWW
theorem auD:Xu.kd=Kd.oth:=ID rfl
theorem alU:Xu.kd.agg=false:=ID rfl
theorem agy:Xu.size=1:=ID rfl
theorem aa4:Xu.bytes=8:=ID rfl
theorem auB:qw Xu=True:=eq_true rfl
theorem auC:zc Xu=[.v Value.nilFunc]:=ID rfl
theorem aUo{K:TI→Prop}:@tyW Tryz.prog 224 ⟨K⟩=K Xt:=qh aWV
theorem auA:Xt.kd=Kd.oth:=ID rfl
theorem alT:Xt.kd.agg=false:=ID rfl
theorem agx:Xt.size=1:=ID rfl
theorem aa3:Xt.bytes=8:=ID rfl
theorem auy:qw Xt=True:=eq_true rfl
theorem auz:zc Xt=[.v Value.nilFunc]:=ID rfl
theorem aUn{K:TI→Prop}:@tyW Tryz.prog 225 ⟨K⟩=K Xs:=qh aWU
theorem aux:Xs.kd=Kd.oth:=ID rfl
theorem alS:Xs.kd.agg=false:=ID rfl
theorem agw:Xs.size=1:=ID rfl
theorem aa2:Xs.bytes=8:=ID rfl
theorem auv:qw Xs=True:=eq_true rfl
theorem auw:zc Xs=[.v Value.nilFunc]:=ID rfl
theorem aUm{K:TI→Prop}:@tyW Tryz.prog 226 ⟨K⟩=K Xr:=qh aWT
theorem auu:Xr.kd=Kd.oth:=ID rfl
theorem alR:Xr.kd.agg=false:=ID rfl
theorem agv:Xr.size=1:=ID rfl
theorem aa1:Xr.bytes=8:=ID rfl
theorem aus:qw Xr=True:=eq_true rfl
theorem aut:zc Xr=[.v Value.nilFunc]:=ID rfl
theorem aUl{K:TI→Prop}:@tyW Tryz.prog 227 ⟨K⟩=K Xq:=qh aWS
theorem aur:Xq.kd=Kd.oth:=ID rfl
theorem alQ:Xq.kd.agg=false:=ID rfl
theorem agu:Xq.size=1:=ID rfl
theorem aaZ:Xq.bytes=8:=ID rfl
theorem aup:qw Xq=True:=eq_true rfl
theorem auq:zc Xq=[.v Value.nilFunc]:=ID rfl
theorem aUk{K:TI→Prop}:@tyW Tryz.prog 228 ⟨K⟩=K Xp:=qh aWR
theorem auo:Xp.kd=Kd.oth:=ID rfl
theorem alP:Xp.kd.agg=false:=ID rfl
theorem agt:Xp.size=1:=ID rfl
theorem aaY:Xp.bytes=8:=ID rfl
theorem aum:qw Xp=True:=eq_true rfl
theorem aun:zc Xp=[.v Value.nilFunc]:=ID rfl
theorem aUj{K:TI→Prop}:@tyW Tryz.prog 229 ⟨K⟩=K Xo:=qh aWQ
theorem aul:Xo.kd=Kd.oth:=ID rfl
theorem alO:Xo.kd.agg=false:=ID rfl
theorem ags:Xo.size=1:=ID rfl
theorem aaX:Xo.bytes=8:=ID rfl
theorem auj:qw Xo=True:=eq_true rfl
theorem auk:zc Xo=[.v Value.nilFunc]:=ID rfl
theorem aUi{K:TI→Prop}:@tyW Tryz.prog 230 ⟨K⟩=K Xn:=qh aWP
theorem auh:Xn.kd=Kd.oth:=ID rfl
theorem alM:Xn.kd.agg=false:=ID rfl
theorem agq:Xn.size=1:=ID rfl
theorem aaW:Xn.bytes=8:=ID rfl
theorem auf:qw Xn=True:=eq_true rfl
theorem aug:zc Xn=[.v Value.nilFunc]:=ID rfl
theorem aUh{K:TI→Prop}:@tyW Tryz.prog 231 ⟨K⟩=K Xm:=qh aWO
theorem aue:Xm.kd=Kd.oth:=ID rfl
theorem alL:Xm.kd.agg=false:=ID rfl
theorem agp:Xm.size=1:=ID rfl
theorem aaV:Xm.bytes=8:=ID rfl
theorem auc:qw Xm=True:=eq_true rfl
theorem aud:zc Xm=[.v Value.nilFunc]:=ID rfl
theorem aUg{K:TI→Prop}:@tyW Tryz.prog 232 ⟨K⟩=K Xl:=qh aWN
theorem aub:Xl.kd=Kd.oth:=ID rfl
theorem alK:Xl.kd.agg=false:=ID rfl
theorem ago:Xl.size=1:=ID rfl
theorem aaU:Xl.bytes=8:=ID rfl
theorem at9:qw Xl=True:=eq_true rfl
theorem aua:zc Xl=[.v Value.nilFunc]:=ID rfl
theorem aUf{K:TI→Prop}:@tyW Tryz.prog 233 ⟨K⟩=K Xk:=qh aWM
theorem at8:Xk.kd=Kd.oth:=ID rfl
theorem alJ:Xk.kd.agg=false:=ID rfl
theorem agn:Xk.size=1:=ID rfl
theorem aaT:Xk.bytes=8:=ID rfl
theorem at6:qw Xk=True:=eq_true rfl
theorem at7:zc Xk=[.v Value.nilFunc]:=ID rfl
theorem aUe{K:TI→Prop}:@tyW Tryz.prog 234 ⟨K⟩=K Xj:=qh aWL
theorem at5:Xj.kd=Kd.oth:=ID rfl
theorem alI:Xj.kd.agg=false:=ID rfl
theorem agm:Xj.size=1:=ID rfl
theorem aaS:Xj.bytes=8:=ID rfl
theorem at3:qw Xj=True:=eq_true rfl
theorem at4:zc Xj=[.v Value.nilFunc]:=ID rfl
theorem aUd{K:TI→Prop}:@tyW Tryz.prog 235 ⟨K⟩=K Xi:=qh aWK
theorem at2:Xi.kd=Kd.oth:=ID rfl
theorem alH:Xi.kd.agg=false:=ID rfl
theorem agl:Xi.size=1:=ID rfl
theorem aaR:Xi.bytes=8:=ID rfl
theorem at0:qw Xi=True:=eq_true rfl
theorem at1:zc Xi=[.v Value.nilFunc]:=ID rfl
theorem aUc{K:TI→Prop}:@tyW Tryz.prog 236 ⟨K⟩=K Xh:=qh aWJ
theorem atZ:Xh.kd=Kd.oth:=ID rfl
theorem alG:Xh.kd.agg=false:=ID rfl
theorem agk:Xh.size=1:=ID rfl
theorem aaQ:Xh.bytes=8:=ID rfl
theorem atX:qw Xh=True:=eq_true rfl
theorem atY:zc Xh=[.v Value.nilFunc]:=ID rfl
theorem aUb{K:TI→Prop}:@tyW Tryz.prog 237 ⟨K⟩=K Xg:=qh aWI
theorem atW:Xg.kd=Kd.oth:=ID rfl
theorem alD:Xg.kd.agg=false:=ID rfl
theorem agj:Xg.size=1:=ID rfl
theorem aaP:Xg.bytes=8:=ID rfl
theorem atU:qw Xg=True:=eq_true rfl
theorem atV:zc Xg=[.v Value.nilFunc]:=ID rfl
theorem aUa{K:TI→Prop}:@tyW Tryz.prog 238 ⟨K⟩=K Xf:=qh aWH
theorem atT:Xf.kd=Kd.oth:=ID rfl
theorem alC:Xf.kd.agg=false:=ID rfl
theorem agi:Xf.size=1:=ID rfl
theorem aaO:Xf.bytes=8:=ID rfl
theorem atR:qw Xf=True:=eq_true rfl
theorem atS:zc Xf=[.v Value.nilFunc]:=ID rfl
theorem aT9{K:TI→Prop}:@tyW Tryz.prog 239 ⟨K⟩=K Xe:=qh aWG
theorem atQ:Xe.kd=Kd.oth:=ID rfl
theorem alB:Xe.kd.agg=false:=ID rfl
theorem agh:Xe.size=1:=ID rfl
theorem aaN:Xe.bytes=8:=ID rfl
theorem atO:qw Xe=True:=eq_true rfl
theorem atP:zc Xe=[.v Value.nilFunc]:=ID rfl
theorem aT8{K:TI→Prop}:@tyW Tryz.prog 240 ⟨K⟩=K Xd:=qh aWF
theorem atM:Xd.kd=Kd.oth:=ID rfl
theorem alx:Xd.kd.agg=false:=ID rfl
theorem age:Xd.size=1:=ID rfl
theorem aaM:Xd.bytes=8:=ID rfl
theorem atK:qw Xd=True:=eq_true rfl
theorem atL:zc Xd=[.v Value.nilFunc]:=ID rfl
theorem aT7{K:TI→Prop}:@tyW Tryz.prog 241 ⟨K⟩=K Xc:=qh aWE
theorem atJ:Xc.kd=Kd.oth:=ID rfl
theorem alw:Xc.kd.agg=false:=ID rfl
theorem agd:Xc.size=1:=ID rfl
theorem aaL:Xc.bytes=8:=ID rfl
theorem atH:qw Xc=True:=eq_true rfl
theorem atI:zc Xc=[.v Value.nilFunc]:=ID rfl
theorem aT6{K:TI→Prop}:@tyW Tryz.prog 242 ⟨K⟩=K Xb:=qh aWD
theorem atG:Xb.kd=Kd.oth:=ID rfl
theorem alv:Xb.kd.agg=false:=ID rfl
theorem agc:Xb.size=1:=ID rfl
theorem aaK:Xb.bytes=8:=ID rfl
theorem atE:qw Xb=True:=eq_true rfl
theorem atF:zc Xb=[.v Value.nilFunc]:=ID rfl
theorem aT5{K:TI→Prop}:@tyW Tryz.prog 243 ⟨K⟩=K Xa:=qh aWC
theorem atD:Xa.kd=Kd.oth:=ID rfl
theorem alu:Xa.kd.agg=false:=ID rfl
theorem agb:Xa.size=1:=ID rfl
theorem aaJ:Xa.bytes=8:=ID rfl
theorem atB:qw Xa=True:=eq_true rfl
theorem atC:zc Xa=[.v Value.nilFunc]:=ID rfl
theorem aT4{K:TI→Prop}:@tyW Tryz.prog 245 ⟨K⟩=K Y9:=qh aWB
theorem atA:Y9.kd=Kd.oth:=ID rfl
theorem alt:Y9.kd.agg=false:=ID rfl
theorem aga:Y9.size=1:=ID rfl
theorem aaI:Y9.bytes=8:=ID rfl
theorem aty:qw Y9=True:=eq_true rfl
theorem atz:zc Y9=[.v Value.nilFunc]:=ID rfl
theorem aT3{K:TI→Prop}:@tyW Tryz.prog 246 ⟨K⟩=K Y8:=qh aWA
theorem atx:Y8.kd=Kd.oth:=ID rfl
theorem als:Y8.kd.agg=false:=ID rfl
theorem af9:Y8.size=1:=ID rfl
theorem aaH:Y8.bytes=8:=ID rfl
theorem atv:qw Y8=True:=eq_true rfl
theorem atw:zc Y8=[.v Value.nilFunc]:=ID rfl
theorem aT2{K:TI→Prop}:@tyW Tryz.prog 247 ⟨K⟩=K Y7:=qh aWz
theorem atu:Y7.kd=Kd.oth:=ID rfl
theorem alr:Y7.kd.agg=false:=ID rfl
theorem af8:Y7.size=1:=ID rfl
theorem aaG:Y7.bytes=8:=ID rfl
theorem ats:qw Y7=True:=eq_true rfl
theorem att:zc Y7=[.v Value.nilFunc]:=ID rfl
theorem aT1{K:TI→Prop}:@tyW Tryz.prog 249 ⟨K⟩=K Y6:=qh aWy
theorem atr:Y6.kd=Kd.oth:=ID rfl
theorem alq:Y6.kd.agg=false:=ID rfl
theorem af7:Y6.size=1:=ID rfl
theorem aaF:Y6.bytes=8:=ID rfl
theorem atp:qw Y6=True:=eq_true rfl
theorem atq:zc Y6=[.v Value.nilFunc]:=ID rfl
theorem aT0{K:TI→Prop}:@tyW Tryz.prog 250 ⟨K⟩=K Y5:=qh aWx
theorem atn:Y5.kd=Kd.oth:=ID rfl
theorem aln:Y5.kd.agg=false:=ID rfl
theorem af5:Y5.size=1:=ID rfl
theorem aaE:Y5.bytes=8:=ID rfl
theorem atl:qw Y5=True:=eq_true rfl
theorem atm:zc Y5=[.v Value.nilFunc]:=ID rfl
theorem aTZ{K:TI→Prop}:@tyW Tryz.prog 251 ⟨K⟩=K Y4:=qh aWw
theorem atk:Y4.kd=Kd.oth:=ID rfl
theorem alm:Y4.kd.agg=false:=ID rfl
theorem af4:Y4.size=1:=ID rfl
theorem aaD:Y4.bytes=8:=ID rfl
theorem ati:qw Y4=True:=eq_true rfl
theorem atj:zc Y4=[.v Value.nilFunc]:=ID rfl
theorem aTY{K:TI→Prop}:@tyW Tryz.prog 252 ⟨K⟩=K Y3:=qh aWv
theorem ath:Y3.kd=Kd.int IntKind.u32:=ID rfl
theorem alk:Y3.kd.agg=false:=ID rfl
theorem af3:Y3.size=1:=ID rfl
theorem aaC:Y3.bytes=4:=ID rfl
theorem atf:qw Y3=True:=eq_true rfl
theorem atg:zc Y3=[.v (Value.int IntKind.u32 0)]:=ID rfl
theorem aTX{K:TI→Prop}:@tyW Tryz.prog 253 ⟨K⟩=K Y2:=qh aWu
theorem ate:Y2.kd=Kd.oth:=ID rfl
theorem alj:Y2.kd.agg=false:=ID rfl
theorem af2:Y2.size=1:=ID rfl
theorem aaB:Y2.bytes=8:=ID rfl
theorem atc:qw Y2=True:=eq_true rfl
theorem atd:zc Y2=[.v Value.nilFunc]:=ID rfl
theorem aTW{K:TI→Prop}:@tyW Tryz.prog 254 ⟨K⟩=K Y1:=qh aWt
theorem atb:Y1.kd=Kd.int IntKind.u64:=ID rfl
theorem ali:Y1.kd.agg=false:=ID rfl
theorem af1:Y1.size=1:=ID rfl
theorem aaA:Y1.bytes=8:=ID rfl
theorem as9:qw Y1=True:=eq_true rfl
theorem ata:zc Y1=[.v (Value.int IntKind.u64 0)]:=ID rfl
theorem aTV{K:TI→Prop}:@tyW Tryz.prog 256 ⟨K⟩=K Y0:=qh aWs
theorem as8:Y0.kd=Kd.oth:=ID rfl
theorem alh:Y0.kd.agg=false:=ID rfl
theorem af0:Y0.size=1:=ID rfl
theorem aaz:Y0.bytes=8:=ID rfl
theorem as6:qw Y0=True:=eq_true rfl
theorem as7:zc Y0=[.v Value.nilFunc]:=ID rfl
theorem aTU{K:TI→Prop}:@tyW Tryz.prog 257 ⟨K⟩=K YZ:=qh aWr
theorem as5:YZ.kd=Kd.oth:=ID rfl
theorem alg:YZ.kd.agg=false:=ID rfl
theorem afZ:YZ.size=1:=ID rfl
theorem aay:YZ.bytes=8:=ID rfl
theorem as3:qw YZ=True:=eq_true rfl
theorem as4:zc YZ=[.v Value.nilFunc]:=ID rfl
theorem aTT{K:TI→Prop}:@tyW Tryz.prog 258 ⟨K⟩=K YY:=qh aWq
theorem as2:YY.kd=Kd.oth:=ID rfl
theorem alf:YY.kd.agg=false:=ID rfl
theorem afY:YY.size=1:=ID rfl
theorem aax:YY.bytes=8:=ID rfl
theorem as0:qw YY=True:=eq_true rfl
theorem as1:zc YY=[.v Value.nilFunc]:=ID rfl
theorem aTS{K:TI→Prop}:@tyW Tryz.prog 259 ⟨K⟩=K YX:=qh aWp
theorem asZ:YX.kd=Kd.oth:=ID rfl
theorem ale:YX.kd.agg=false:=ID rfl
theorem afX:YX.size=1:=ID rfl
theorem aaw:YX.bytes=8:=ID rfl
theorem asX:qw YX=True:=eq_true rfl
theorem asY:zc YX=[.v Value.nilFunc]:=ID rfl
theorem aTR{K:TI→Prop}:@tyW Tryz.prog 260 ⟨K⟩=K YW:=qh aWo
theorem asV:YW.kd=Kd.oth:=ID rfl
theorem alc:YW.kd.agg=false:=ID rfl
theorem afV:YW.size=1:=ID rfl
theorem aav:YW.bytes=8:=ID rfl
theorem asT:qw YW=True:=eq_true rfl
theorem asU:zc YW=[.v Value.nilFunc]:=ID rfl
theorem aTQ{K:TI→Prop}:@tyW Tryz.prog 263 ⟨K⟩=K YV:=qh aWn
theorem asS:YV.kd=Kd.oth:=ID rfl
theorem alb:YV.kd.agg=false:=ID rfl
theorem afU:YV.size=1:=ID rfl
theorem aau:YV.bytes=8:=ID rfl
theorem asQ:qw YV=True:=eq_true rfl
theorem asR:zc YV=[.v Value.nilFunc]:=ID rfl
theorem aTP{K:TI→Prop}:@tyW Tryz.prog 267 ⟨K⟩=K YU:=qh aWm
theorem asP:YU.kd=Kd.stru [(0,266)]:=ID rfl
theorem ala:YU.kd.agg=true:=ID rfl
theorem afT:YU.size=0:=ID rfl
theorem aat:YU.bytes=0:=ID rfl
theorem asN:qw YU=True:=eq_true rfl
theorem asO:zc YU=[]:=ID rfl
theorem aTO{K:TI→Prop}:@tyW Tryz.prog 268 ⟨K⟩=K YT:=qh aWl
theorem asM:YT.kd=Kd.stru [(0,266)]:=ID rfl
theorem ak9:YT.kd.agg=true:=ID rfl
theorem afS:YT.size=0:=ID rfl
theorem aas:YT.bytes=0:=ID rfl
theorem asK:qw YT=True:=eq_true rfl
theorem asL:zc YT=[]:=ID rfl
theorem aTN{K:TI→Prop}:@tyW Tryz.prog 269 ⟨K⟩=K YS:=qh aWk
theorem asJ:YS.kd=Kd.int IntKind.u8:=ID rfl
theorem ak8:YS.kd.agg=false:=ID rfl
theorem afR:YS.size=1:=ID rfl
theorem aar:YS.bytes=1:=ID rfl
theorem asH:qw YS=True:=eq_true rfl
theorem asI:zc YS=[.v (Value.int IntKind.u8 0)]:=ID rfl
theorem aTM{K:TI→Prop}:@tyW Tryz.prog 270 ⟨K⟩=K YR:=qh aWj
theorem asG:YR.kd=Kd.int IntKind.u8:=ID rfl
theorem ak7:YR.kd.agg=false:=ID rfl
theorem afQ:YR.size=1:=ID rfl
theorem aaq:YR.bytes=1:=ID rfl
theorem asE:qw YR=True:=eq_true rfl
theorem asF:zc YR=[.v (Value.int IntKind.u8 0)]:=ID rfl
theorem aTL{K:TI→Prop}:@tyW Tryz.prog 271 ⟨K⟩=K YQ:=qh aWi
theorem asD:YQ.kd=Kd.oth:=ID rfl
theorem ak6:YQ.kd.agg=false:=ID rfl
theorem afP:YQ.size=1:=ID rfl
theorem aap:YQ.bytes=8:=ID rfl
theorem asB:qw YQ=True:=eq_true rfl
theorem asC:zc YQ=[.v Value.nilFunc]:=ID rfl
theorem aTK{K:TI→Prop}:@tyW Tryz.prog 273 ⟨K⟩=K YP:=qh aWh
theorem asA:YP.kd=Kd.int IntKind.i32:=ID rfl
theorem ak5:YP.kd.agg=false:=ID rfl
theorem afO:YP.size=1:=ID rfl
theorem aao:YP.bytes=4:=ID rfl
theorem asy:qw YP=True:=eq_true rfl
theorem asz:zc YP=[.v (Value.int IntKind.i32 0)]:=ID rfl
theorem aTJ{K:TI→Prop}:@tyW Tryz.prog 274 ⟨K⟩=K YO:=qh aWg
theorem asx:YO.kd=Kd.int IntKind.i32:=ID rfl
theorem ak4:YO.kd.agg=false:=ID rfl
theorem afN:YO.size=1:=ID rfl
theorem aan:YO.bytes=4:=ID rfl
theorem asv:qw YO=True:=eq_true rfl
theorem asw:zc YO=[.v (Value.int IntKind.i32 0)]:=ID rfl
theorem aTI{K:TI→Prop}:@tyW Tryz.prog 277 ⟨K⟩=K YN:=qh aWf
theorem asu:YN.kd=Kd.oth:=ID rfl
theorem ak3:YN.kd.agg=false:=ID rfl
theorem afM:YN.size=1:=ID rfl
theorem aam:YN.bytes=8:=ID rfl
theorem ass:qw YN=True:=eq_true rfl
theorem ast:zc YN=[.v Value.nilFunc]:=ID rfl
theorem bdV:qp Tryz.prog 2=True:=eq_true ⟨_,Tryz.func2,of_decide_eq_false (by kernel_rfl),rfl⟩
theorem bdU:qp Tryz.prog 3=True:=eq_true ⟨_,Tryz.func3,of_decide_eq_false (by kernel_rfl),rfl⟩
theorem bdT:qp Tryz.prog 4=True:=eq_true ⟨_,Tryz.func4,of_decide_eq_false (by kernel_rfl),rfl⟩
theorem bdS:qp Tryz.prog 5=True:=eq_true ⟨_,Tryz.func5,of_decide_eq_false (by kernel_rfl),rfl⟩
theorem bdR:qp Tryz.prog 6=True:=eq_true ⟨_,Tryz.func6,of_decide_eq_false (by kernel_rfl),rfl⟩
theorem bdQ:qp Tryz.prog 7=True:=eq_true ⟨_,Tryz.func7,of_decide_eq_false (by kernel_rfl),rfl⟩
theorem bdP:qp Tryz.prog 8=True:=eq_true ⟨_,Tryz.func8,of_decide_eq_false (by kernel_rfl),rfl⟩
theorem bdO:qp Tryz.prog 9=True:=eq_true ⟨_,Tryz.func9,of_decide_eq_false (by kernel_rfl),rfl⟩
theorem baL:qp Tryz.prog 10=True:=eq_true ⟨_,Tryz.func10,of_decide_eq_false (by kernel_rfl),rfl⟩
theorem baK:qp Tryz.prog 11=True:=eq_true ⟨_,Tryz.func11,of_decide_eq_false (by kernel_rfl),rfl⟩
theorem baJ:qp Tryz.prog 12=True:=eq_true ⟨_,Tryz.func12,of_decide_eq_false (by kernel_rfl),rfl⟩
theorem baI:qp Tryz.prog 13=True:=eq_true ⟨_,Tryz.func13,of_decide_eq_false (by kernel_rfl),rfl⟩
theorem baH:qp Tryz.prog 14=True:=eq_true ⟨_,Tryz.func14,of_decide_eq_false (by kernel_rfl),rfl⟩
theorem baG:qp Tryz.prog 15=True:=eq_true ⟨_,Tryz.func15,of_decide_eq_false (by kernel_rfl),rfl⟩
theorem baF:qp Tryz.prog 16=True:=eq_true ⟨_,Tryz.func16,of_decide_eq_false (by kernel_rfl),rfl⟩
theorem baE:qp Tryz.prog 17=True:=eq_true ⟨_,Tryz.func17,of_decide_eq_false (by kernel_rfl),rfl⟩
theorem baD:qp Tryz.prog 18=True:=eq_true ⟨_,Tryz.func18,of_decide_eq_false (by kernel_rfl),rfl⟩
theorem baC:qp Tryz.prog 19=True:=eq_true ⟨_,Tryz.func19,of_decide_eq_false (by kernel_rfl),rfl⟩
theorem baB:qp Tryz.prog 20=True:=eq_true ⟨_,Tryz.func20,of_decide_eq_false (by kernel_rfl),rfl⟩
theorem baA:qp Tryz.prog 21=True:=eq_true ⟨_,Tryz.func21,of_decide_eq_false (by kernel_rfl),rfl⟩
theorem baz:qp Tryz.prog 22=True:=eq_true ⟨_,Tryz.func22,of_decide_eq_false (by kernel_rfl),rfl⟩
theorem bay:qp Tryz.prog 23=True:=eq_true ⟨_,Tryz.func23,of_decide_eq_false (by kernel_rfl),rfl⟩
theorem bax:qp Tryz.prog 24=True:=eq_true ⟨_,Tryz.func24,of_decide_eq_false (by kernel_rfl),rfl⟩
theorem baw:qp Tryz.prog 25=True:=eq_true ⟨_,Tryz.func25,of_decide_eq_false (by kernel_rfl),rfl⟩
theorem bav:qp Tryz.prog 26=True:=eq_true ⟨_,Tryz.func26,of_decide_eq_false (by kernel_rfl),rfl⟩
theorem bau:qp Tryz.prog 27=True:=eq_true ⟨_,Tryz.func27,of_decide_eq_false (by kernel_rfl),rfl⟩
theorem bat:qp Tryz.prog 28=True:=eq_true ⟨_,Tryz.func28,of_decide_eq_false (by kernel_rfl),rfl⟩
theorem bas:qp Tryz.prog 29=True:=eq_true ⟨_,Tryz.func29,of_decide_eq_false (by kernel_rfl),rfl⟩
theorem bar:qp Tryz.prog 30=True:=eq_true ⟨_,Tryz.func30,of_decide_eq_false (by kernel_rfl),rfl⟩
theorem baq:qp Tryz.prog 31=True:=eq_true ⟨_,Tryz.func31,of_decide_eq_false (by kernel_rfl),rfl⟩
theorem bap:qp Tryz.prog 32=True:=eq_true ⟨_,Tryz.func32,of_decide_eq_false (by kernel_rfl),rfl⟩
theorem bao:qp Tryz.prog 33=True:=eq_true ⟨_,Tryz.func33,of_decide_eq_false (by kernel_rfl),rfl⟩
theorem ban:qp Tryz.prog 34=True:=eq_true ⟨_,Tryz.func34,of_decide_eq_false (by kernel_rfl),rfl⟩
theorem bam:qp Tryz.prog 35=True:=eq_true ⟨_,Tryz.func35,of_decide_eq_false (by kernel_rfl),rfl⟩
theorem bal:qp Tryz.prog 36=True:=eq_true ⟨_,Tryz.func36,of_decide_eq_false (by kernel_rfl),rfl⟩
theorem bak:qp Tryz.prog 37=True:=eq_true ⟨_,Tryz.func37,of_decide_eq_false (by kernel_rfl),rfl⟩
theorem baj:qp Tryz.prog 38=True:=eq_true ⟨_,Tryz.func38,of_decide_eq_false (by kernel_rfl),rfl⟩
theorem bai:qp Tryz.prog 39=True:=eq_true ⟨_,Tryz.func39,of_decide_eq_false (by kernel_rfl),rfl⟩
theorem bah:qp Tryz.prog 40=True:=eq_true ⟨_,Tryz.func40,of_decide_eq_false (by kernel_rfl),rfl⟩
theorem bag:qp Tryz.prog 41=True:=eq_true ⟨_,Tryz.func41,of_decide_eq_false (by kernel_rfl),rfl⟩
theorem baf:qp Tryz.prog 42=True:=eq_true ⟨_,Tryz.func42,of_decide_eq_false (by kernel_rfl),rfl⟩
theorem bae:qp Tryz.prog 43=True:=eq_true ⟨_,Tryz.func43,of_decide_eq_false (by kernel_rfl),rfl⟩
theorem bac:qp Tryz.prog 44=True:=eq_true ⟨_,Tryz.func44,of_decide_eq_false (by kernel_rfl),rfl⟩
theorem bab:qp Tryz.prog 45=True:=eq_true ⟨_,Tryz.func45,of_decide_eq_false (by kernel_rfl),rfl⟩
theorem baa:qp Tryz.prog 46=True:=eq_true ⟨_,Tryz.func46,of_decide_eq_false (by kernel_rfl),rfl⟩
theorem aZ9:qp Tryz.prog 47=True:=eq_true ⟨_,Tryz.func47,of_decide_eq_false (by kernel_rfl),rfl⟩
theorem aZ8:qp Tryz.prog 48=True:=eq_true ⟨_,Tryz.func48,of_decide_eq_false (by kernel_rfl),rfl⟩
theorem aZ7:qp Tryz.prog 49=True:=eq_true ⟨_,Tryz.func49,of_decide_eq_false (by kernel_rfl),rfl⟩
theorem aZ6:qp Tryz.prog 50=True:=eq_true ⟨_,Tryz.func50,of_decide_eq_false (by kernel_rfl),rfl⟩
theorem aZ5:qp Tryz.prog 51=True:=eq_true ⟨_,Tryz.func51,of_decide_eq_false (by kernel_rfl),rfl⟩
theorem aZ4:qp Tryz.prog 52=True:=eq_true ⟨_,Tryz.func52,of_decide_eq_false (by kernel_rfl),rfl⟩
theorem aZ3:qp Tryz.prog 53=True:=eq_true ⟨_,Tryz.func53,of_decide_eq_false (by kernel_rfl),rfl⟩
theorem aZ2:qp Tryz.prog 54=True:=eq_true ⟨_,Tryz.func54,of_decide_eq_false (by kernel_rfl),rfl⟩
theorem aZ1:qp Tryz.prog 55=True:=eq_true ⟨_,Tryz.func55,of_decide_eq_false (by kernel_rfl),rfl⟩
theorem aZ0:qp Tryz.prog 56=True:=eq_true ⟨_,Tryz.func56,of_decide_eq_false (by kernel_rfl),rfl⟩
theorem aZZ:qp Tryz.prog 57=True:=eq_true ⟨_,Tryz.func57,of_decide_eq_false (by kernel_rfl),rfl⟩
theorem aZY:qp Tryz.prog 58=True:=eq_true ⟨_,Tryz.func58,of_decide_eq_false (by kernel_rfl),rfl⟩
theorem aZX:qp Tryz.prog 59=True:=eq_true ⟨_,Tryz.func59,of_decide_eq_false (by kernel_rfl),rfl⟩
theorem aZW:qp Tryz.prog 60=True:=eq_true ⟨_,Tryz.func60,of_decide_eq_false (by kernel_rfl),rfl⟩
theorem aZV:qp Tryz.prog 61=True:=eq_true ⟨_,Tryz.func61,of_decide_eq_false (by kernel_rfl),rfl⟩
theorem aZU:qp Tryz.prog 62=True:=eq_true ⟨_,Tryz.func62,of_decide_eq_false (by kernel_rfl),rfl⟩
theorem aZT:qp Tryz.prog 63=True:=eq_true ⟨_,Tryz.func63,of_decide_eq_false (by kernel_rfl),rfl⟩
theorem aZS:qp Tryz.prog 64=True:=eq_true ⟨_,Tryz.func64,of_decide_eq_false (by kernel_rfl),rfl⟩
theorem aZR:qp Tryz.prog 65=True:=eq_true ⟨_,Tryz.func65,of_decide_eq_false (by kernel_rfl),rfl⟩
theorem aZQ:qp Tryz.prog 66=True:=eq_true ⟨_,Tryz.func66,of_decide_eq_false (by kernel_rfl),rfl⟩
theorem aZP:qp Tryz.prog 67=True:=eq_true ⟨_,Tryz.func67,of_decide_eq_false (by kernel_rfl),rfl⟩
theorem aZO:qp Tryz.prog 68=True:=eq_true ⟨_,Tryz.func68,of_decide_eq_false (by kernel_rfl),rfl⟩
theorem aZN:qp Tryz.prog 69=True:=eq_true ⟨_,Tryz.func69,of_decide_eq_false (by kernel_rfl),rfl⟩
theorem aZM:qp Tryz.prog 70=True:=eq_true ⟨_,Tryz.func70,of_decide_eq_false (by kernel_rfl),rfl⟩
theorem aZL:qp Tryz.prog 71=True:=eq_true ⟨_,Tryz.func71,of_decide_eq_false (by kernel_rfl),rfl⟩
theorem aZK:qp Tryz.prog 72=True:=eq_true ⟨_,Tryz.func72,of_decide_eq_false (by kernel_rfl),rfl⟩
theorem aZJ:qp Tryz.prog 73=True:=eq_true ⟨_,Tryz.func73,of_decide_eq_false (by kernel_rfl),rfl⟩
theorem aZI:qp Tryz.prog 74=True:=eq_true ⟨_,Tryz.func74,of_decide_eq_false (by kernel_rfl),rfl⟩
theorem aZH:qp Tryz.prog 75=True:=eq_true ⟨_,Tryz.func75,of_decide_eq_false (by kernel_rfl),rfl⟩
theorem aZG:qp Tryz.prog 76=True:=eq_true ⟨_,Tryz.func76,of_decide_eq_false (by kernel_rfl),rfl⟩
theorem aZF:qp Tryz.prog 77=True:=eq_true ⟨_,Tryz.func77,of_decide_eq_false (by kernel_rfl),rfl⟩
theorem aZE:qp Tryz.prog 78=True:=eq_true ⟨_,Tryz.func78,of_decide_eq_false (by kernel_rfl),rfl⟩
theorem aZD:qp Tryz.prog 79=True:=eq_true ⟨_,Tryz.func79,of_decide_eq_false (by kernel_rfl),rfl⟩
theorem aZC:qp Tryz.prog 80=True:=eq_true ⟨_,Tryz.func80,of_decide_eq_false (by kernel_rfl),rfl⟩
theorem aZB:qp Tryz.prog 81=True:=eq_true ⟨_,Tryz.func81,of_decide_eq_false (by kernel_rfl),rfl⟩
theorem aZA:qp Tryz.prog 82=True:=eq_true ⟨_,Tryz.func82,of_decide_eq_false (by kernel_rfl),rfl⟩
theorem aZz:qp Tryz.prog 83=True:=eq_true ⟨_,Tryz.func83,of_decide_eq_false (by kernel_rfl),rfl⟩
theorem aZy:qp Tryz.prog 84=True:=eq_true ⟨_,Tryz.func84,of_decide_eq_false (by kernel_rfl),rfl⟩
theorem aZx:qp Tryz.prog 85=True:=eq_true ⟨_,Tryz.func85,of_decide_eq_false (by kernel_rfl),rfl⟩
theorem aZw:qp Tryz.prog 86=True:=eq_true ⟨_,Tryz.func86,of_decide_eq_false (by kernel_rfl),rfl⟩
theorem aZv:qp Tryz.prog 87=True:=eq_true ⟨_,Tryz.func87,of_decide_eq_false (by kernel_rfl),rfl⟩
theorem aZu:qp Tryz.prog 88=True:=eq_true ⟨_,Tryz.func88,of_decide_eq_false (by kernel_rfl),rfl⟩
theorem aZt:qp Tryz.prog 89=True:=eq_true ⟨_,Tryz.func89,of_decide_eq_false (by kernel_rfl),rfl⟩
theorem aZs:qp Tryz.prog 90=True:=eq_true ⟨_,Tryz.func90,of_decide_eq_false (by kernel_rfl),rfl⟩
theorem aZr:qp Tryz.prog 91=True:=eq_true ⟨_,Tryz.func91,of_decide_eq_false (by kernel_rfl),rfl⟩
theorem aZq:qp Tryz.prog 92=True:=eq_true ⟨_,Tryz.func92,of_decide_eq_false (by kernel_rfl),rfl⟩
theorem aZp:qp Tryz.prog 93=True:=eq_true ⟨_,Tryz.func93,of_decide_eq_false (by kernel_rfl),rfl⟩
theorem aZo:qp Tryz.prog 94=True:=eq_true ⟨_,Tryz.func94,of_decide_eq_false (by kernel_rfl),rfl⟩
theorem aZn:qp Tryz.prog 95=True:=eq_true ⟨_,Tryz.func95,of_decide_eq_false (by kernel_rfl),rfl⟩
theorem aZm:qp Tryz.prog 96=True:=eq_true ⟨_,Tryz.func96,of_decide_eq_false (by kernel_rfl),rfl⟩
theorem aZl:qp Tryz.prog 97=True:=eq_true ⟨_,Tryz.func97,of_decide_eq_false (by kernel_rfl),rfl⟩
theorem aZk:qp Tryz.prog 98=True:=eq_true ⟨_,Tryz.func98,of_decide_eq_false (by kernel_rfl),rfl⟩
theorem aZj:qp Tryz.prog 99=True:=eq_true ⟨_,Tryz.func99,of_decide_eq_false (by kernel_rfl),rfl⟩
theorem aSf:qp Tryz.prog 100=True:=eq_true ⟨_,Tryz.func100,of_decide_eq_false (by kernel_rfl),rfl⟩
theorem aSe:qp Tryz.prog 101=True:=eq_true ⟨_,Tryz.func101,of_decide_eq_false (by kernel_rfl),rfl⟩
theorem aSd:qp Tryz.prog 102=True:=eq_true ⟨_,Tryz.func102,of_decide_eq_false (by kernel_rfl),rfl⟩
theorem aSc:qp Tryz.prog 103=True:=eq_true ⟨_,Tryz.func103,of_decide_eq_false (by kernel_rfl),rfl⟩
theorem aSb:qp Tryz.prog 104=True:=eq_true ⟨_,Tryz.func104,of_decide_eq_false (by kernel_rfl),rfl⟩
theorem aSa:qp Tryz.prog 105=True:=eq_true ⟨_,Tryz.func105,of_decide_eq_false (by kernel_rfl),rfl⟩
theorem aR9:qp Tryz.prog 106=True:=eq_true ⟨_,Tryz.func106,of_decide_eq_false (by kernel_rfl),rfl⟩
theorem aR8:qp Tryz.prog 107=True:=eq_true ⟨_,Tryz.func107,of_decide_eq_false (by kernel_rfl),rfl⟩
theorem aR7:qp Tryz.prog 108=True:=eq_true ⟨_,Tryz.func108,of_decide_eq_false (by kernel_rfl),rfl⟩
theorem aR6:qp Tryz.prog 109=True:=eq_true ⟨_,Tryz.func109,of_decide_eq_false (by kernel_rfl),rfl⟩
theorem aR5:qp Tryz.prog 110=True:=eq_true ⟨_,Tryz.func110,of_decide_eq_false (by kernel_rfl),rfl⟩
theorem aR4:qp Tryz.prog 111=True:=eq_true ⟨_,Tryz.func111,of_decide_eq_false (by kernel_rfl),rfl⟩
theorem aR3:qp Tryz.prog 112=True:=eq_true ⟨_,Tryz.func112,of_decide_eq_false (by kernel_rfl),rfl⟩
theorem aR2:qp Tryz.prog 113=True:=eq_true ⟨_,Tryz.func113,of_decide_eq_false (by kernel_rfl),rfl⟩
theorem aR1:qp Tryz.prog 114=True:=eq_true ⟨_,Tryz.func114,of_decide_eq_false (by kernel_rfl),rfl⟩
theorem aR0:qp Tryz.prog 115=True:=eq_true ⟨_,Tryz.func115,of_decide_eq_false (by kernel_rfl),rfl⟩
theorem aRZ:qp Tryz.prog 116=True:=eq_true ⟨_,Tryz.func116,of_decide_eq_false (by kernel_rfl),rfl⟩
theorem aRY:qp Tryz.prog 117=True:=eq_true ⟨_,Tryz.func117,of_decide_eq_false (by kernel_rfl),rfl⟩
theorem aRX:qp Tryz.prog 118=True:=eq_true ⟨_,Tryz.func118,of_decide_eq_false (by kernel_rfl),rfl⟩
theorem aRW:qp Tryz.prog 119=True:=eq_true ⟨_,Tryz.func119,of_decide_eq_false (by kernel_rfl),rfl⟩
theorem aRV:qp Tryz.prog 120=True:=eq_true ⟨_,Tryz.func120,of_decide_eq_false (by kernel_rfl),rfl⟩
theorem aRU:qp Tryz.prog 121=True:=eq_true ⟨_,Tryz.func121,of_decide_eq_false (by kernel_rfl),rfl⟩
theorem aRT:qp Tryz.prog 122=True:=eq_true ⟨_,Tryz.func122,of_decide_eq_false (by kernel_rfl),rfl⟩
theorem aRS:qp Tryz.prog 123=True:=eq_true ⟨_,Tryz.func123,of_decide_eq_false (by kernel_rfl),rfl⟩
theorem aRR:qp Tryz.prog 124=True:=eq_true ⟨_,Tryz.func124,of_decide_eq_false (by kernel_rfl),rfl⟩
theorem aRQ:qp Tryz.prog 125=True:=eq_true ⟨_,Tryz.func125,of_decide_eq_false (by kernel_rfl),rfl⟩
theorem aRP:qp Tryz.prog 126=True:=eq_true ⟨_,Tryz.func126,of_decide_eq_false (by kernel_rfl),rfl⟩
theorem aRO:qp Tryz.prog 127=True:=eq_true ⟨_,Tryz.func127,of_decide_eq_false (by kernel_rfl),rfl⟩
theorem aRN:qp Tryz.prog 128=True:=eq_true ⟨_,Tryz.func128,of_decide_eq_false (by kernel_rfl),rfl⟩
theorem aRM:qp Tryz.prog 129=True:=eq_true ⟨_,Tryz.func129,of_decide_eq_false (by kernel_rfl),rfl⟩
theorem aRL:qp Tryz.prog 130=True:=eq_true ⟨_,Tryz.func130,of_decide_eq_false (by kernel_rfl),rfl⟩
theorem aRK:qp Tryz.prog 131=True:=eq_true ⟨_,Tryz.func131,of_decide_eq_false (by kernel_rfl),rfl⟩
theorem aRJ:qp Tryz.prog 132=True:=eq_true ⟨_,Tryz.func132,of_decide_eq_false (by kernel_rfl),rfl⟩
theorem aRI:qp Tryz.prog 133=True:=eq_true ⟨_,Tryz.func133,of_decide_eq_false (by kernel_rfl),rfl⟩
theorem aRH:qp Tryz.prog 134=True:=eq_true ⟨_,Tryz.func134,of_decide_eq_false (by kernel_rfl),rfl⟩
theorem aRG:qp Tryz.prog 135=True:=eq_true ⟨_,Tryz.func135,of_decide_eq_false (by kernel_rfl),rfl⟩
theorem aRF:qp Tryz.prog 136=True:=eq_true ⟨_,Tryz.func136,of_decide_eq_false (by kernel_rfl),rfl⟩
theorem aRE:qp Tryz.prog 137=True:=eq_true ⟨_,Tryz.func137,of_decide_eq_false (by kernel_rfl),rfl⟩
theorem aRD:qp Tryz.prog 138=True:=eq_true ⟨_,Tryz.func138,of_decide_eq_false (by kernel_rfl),rfl⟩
theorem aRC:qp Tryz.prog 139=True:=eq_true ⟨_,Tryz.func139,of_decide_eq_false (by kernel_rfl),rfl⟩
theorem aRB:qp Tryz.prog 140=True:=eq_true ⟨_,Tryz.func140,of_decide_eq_false (by kernel_rfl),rfl⟩
theorem aRA:qp Tryz.prog 141=True:=eq_true ⟨_,Tryz.func141,of_decide_eq_false (by kernel_rfl),rfl⟩
theorem aRz:qp Tryz.prog 142=True:=eq_true ⟨_,Tryz.func142,of_decide_eq_false (by kernel_rfl),rfl⟩
theorem aRy:qp Tryz.prog 143=True:=eq_true ⟨_,Tryz.func143,of_decide_eq_false (by kernel_rfl),rfl⟩
theorem aRx:qp Tryz.prog 144=True:=eq_true ⟨_,Tryz.func144,of_decide_eq_false (by kernel_rfl),rfl⟩
theorem aRw:qp Tryz.prog 145=True:=eq_true ⟨_,Tryz.func145,of_decide_eq_false (by kernel_rfl),rfl⟩
theorem aRv:qp Tryz.prog 146=True:=eq_true ⟨_,Tryz.func146,of_decide_eq_false (by kernel_rfl),rfl⟩
theorem aRu:qp Tryz.prog 147=True:=eq_true ⟨_,Tryz.func147,of_decide_eq_false (by kernel_rfl),rfl⟩
theorem aRt:qp Tryz.prog 148=True:=eq_true ⟨_,Tryz.func148,of_decide_eq_false (by kernel_rfl),rfl⟩
theorem aRs:qp Tryz.prog 149=True:=eq_true ⟨_,Tryz.func149,of_decide_eq_false (by kernel_rfl),rfl⟩
theorem aRr:qp Tryz.prog 150=True:=eq_true ⟨_,Tryz.func150,of_decide_eq_false (by kernel_rfl),rfl⟩
theorem aRq:qp Tryz.prog 151=True:=eq_true ⟨_,Tryz.func151,of_decide_eq_false (by kernel_rfl),rfl⟩
theorem aRp:qp Tryz.prog 152=True:=eq_true ⟨_,Tryz.func152,of_decide_eq_false (by kernel_rfl),rfl⟩
theorem aRo:qp Tryz.prog 153=True:=eq_true ⟨_,Tryz.func153,of_decide_eq_false (by kernel_rfl),rfl⟩
theorem aRn:qp Tryz.prog 154=True:=eq_true ⟨_,Tryz.func154,of_decide_eq_false (by kernel_rfl),rfl⟩
theorem aRm:qp Tryz.prog 155=True:=eq_true ⟨_,Tryz.func155,of_decide_eq_false (by kernel_rfl),rfl⟩
theorem aRl:qp Tryz.prog 156=True:=eq_true ⟨_,Tryz.func156,of_decide_eq_false (by kernel_rfl),rfl⟩
theorem aRk:qp Tryz.prog 157=True:=eq_true ⟨_,Tryz.func157,of_decide_eq_false (by kernel_rfl),rfl⟩
theorem aRj:qp Tryz.prog 158=True:=eq_true ⟨_,Tryz.func158,of_decide_eq_false (by kernel_rfl),rfl⟩
theorem aRi:qp Tryz.prog 159=True:=eq_true ⟨_,Tryz.func159,of_decide_eq_false (by kernel_rfl),rfl⟩
theorem aRh:qp Tryz.prog 160=True:=eq_true ⟨_,Tryz.func160,of_decide_eq_false (by kernel_rfl),rfl⟩
theorem aRg:qp Tryz.prog 161=True:=eq_true ⟨_,Tryz.func161,of_decide_eq_false (by kernel_rfl),rfl⟩
theorem aRf:qp Tryz.prog 162=True:=eq_true ⟨_,Tryz.func162,of_decide_eq_false (by kernel_rfl),rfl⟩
theorem aRe:qp Tryz.prog 163=True:=eq_true ⟨_,Tryz.func163,of_decide_eq_false (by kernel_rfl),rfl⟩
theorem aRd:qp Tryz.prog 164=True:=eq_true ⟨_,Tryz.func164,of_decide_eq_false (by kernel_rfl),rfl⟩
theorem aRc:qp Tryz.prog 165=True:=eq_true ⟨_,Tryz.func165,of_decide_eq_false (by kernel_rfl),rfl⟩
theorem aRb:qp Tryz.prog 166=True:=eq_true ⟨_,Tryz.func166,of_decide_eq_false (by kernel_rfl),rfl⟩
theorem aRa:qp Tryz.prog 167=True:=eq_true ⟨_,Tryz.func167,of_decide_eq_false (by kernel_rfl),rfl⟩
theorem aQ9:qp Tryz.prog 168=True:=eq_true ⟨_,Tryz.func168,of_decide_eq_false (by kernel_rfl),rfl⟩
theorem aQ8:qp Tryz.prog 169=True:=eq_true ⟨_,Tryz.func169,of_decide_eq_false (by kernel_rfl),rfl⟩
theorem aQ7:qp Tryz.prog 170=True:=eq_true ⟨_,Tryz.func170,of_decide_eq_false (by kernel_rfl),rfl⟩
theorem aQ6:qp Tryz.prog 171=True:=eq_true ⟨_,Tryz.func171,of_decide_eq_false (by kernel_rfl),rfl⟩
theorem aQ5:qp Tryz.prog 172=True:=eq_true ⟨_,Tryz.func172,of_decide_eq_false (by kernel_rfl),rfl⟩
theorem aQ4:qp Tryz.prog 173=True:=eq_true ⟨_,Tryz.func173,of_decide_eq_false (by kernel_rfl),rfl⟩
theorem aQ3:qp Tryz.prog 174=True:=eq_true ⟨_,Tryz.func174,of_decide_eq_false (by kernel_rfl),rfl⟩
theorem aQ2:qp Tryz.prog 175=True:=eq_true ⟨_,Tryz.func175,of_decide_eq_false (by kernel_rfl),rfl⟩
theorem aQ1:qp Tryz.prog 176=True:=eq_true ⟨_,Tryz.func176,of_decide_eq_false (by kernel_rfl),rfl⟩
theorem aQ0:qp Tryz.prog 177=True:=eq_true ⟨_,Tryz.func177,of_decide_eq_false (by kernel_rfl),rfl⟩
theorem aQZ:qp Tryz.prog 178=True:=eq_true ⟨_,Tryz.func178,of_decide_eq_false (by kernel_rfl),rfl⟩
theorem aQY:qp Tryz.prog 179=True:=eq_true ⟨_,Tryz.func179,of_decide_eq_false (by kernel_rfl),rfl⟩
theorem aQX:qp Tryz.prog 180=True:=eq_true ⟨_,Tryz.func180,of_decide_eq_false (by kernel_rfl),rfl⟩
theorem aQW:qp Tryz.prog 181=True:=eq_true ⟨_,Tryz.func181,of_decide_eq_false (by kernel_rfl),rfl⟩
theorem aQV:qp Tryz.prog 182=True:=eq_true ⟨_,Tryz.func182,of_decide_eq_false (by kernel_rfl),rfl⟩
theorem aQU:qp Tryz.prog 183=True:=eq_true ⟨_,Tryz.func183,of_decide_eq_false (by kernel_rfl),rfl⟩
theorem aQT:qp Tryz.prog 184=True:=eq_true ⟨_,Tryz.func184,of_decide_eq_false (by kernel_rfl),rfl⟩
theorem aQS:qp Tryz.prog 185=True:=eq_true ⟨_,Tryz.func185,of_decide_eq_false (by kernel_rfl),rfl⟩
theorem aQR:qp Tryz.prog 186=True:=eq_true ⟨_,Tryz.func186,of_decide_eq_false (by kernel_rfl),rfl⟩
theorem aQQ:qp Tryz.prog 187=True:=eq_true ⟨_,Tryz.func187,of_decide_eq_false (by kernel_rfl),rfl⟩
theorem aQP:qp Tryz.prog 188=True:=eq_true ⟨_,Tryz.func188,of_decide_eq_false (by kernel_rfl),rfl⟩
theorem aQO:qp Tryz.prog 189=True:=eq_true ⟨_,Tryz.func189,of_decide_eq_false (by kernel_rfl),rfl⟩
theorem aQN:qp Tryz.prog 190=True:=eq_true ⟨_,Tryz.func190,of_decide_eq_false (by kernel_rfl),rfl⟩
theorem aQM:qp Tryz.prog 191=True:=eq_true ⟨_,Tryz.func191,of_decide_eq_false (by kernel_rfl),rfl⟩
theorem aQL:qp Tryz.prog 192=True:=eq_true ⟨_,Tryz.func192,of_decide_eq_false (by kernel_rfl),rfl⟩
theorem aQK:qp Tryz.prog 193=True:=eq_true ⟨_,Tryz.func193,of_decide_eq_false (by kernel_rfl),rfl⟩
theorem aQJ:qp Tryz.prog 194=True:=eq_true ⟨_,Tryz.func194,of_decide_eq_false (by kernel_rfl),rfl⟩
theorem aQI:qp Tryz.prog 195=True:=eq_true ⟨_,Tryz.func195,of_decide_eq_false (by kernel_rfl),rfl⟩
theorem aQH:qp Tryz.prog 196=True:=eq_true ⟨_,Tryz.func196,of_decide_eq_false (by kernel_rfl),rfl⟩
theorem aQG:qp Tryz.prog 197=True:=eq_true ⟨_,Tryz.func197,of_decide_eq_false (by kernel_rfl),rfl⟩
theorem aQF:qp Tryz.prog 198=True:=eq_true ⟨_,Tryz.func198,of_decide_eq_false (by kernel_rfl),rfl⟩
theorem aQE:qp Tryz.prog 199=True:=eq_true ⟨_,Tryz.func199,of_decide_eq_false (by kernel_rfl),rfl⟩
theorem aQD:qp Tryz.prog 200=True:=eq_true ⟨_,Tryz.func200,of_decide_eq_false (by kernel_rfl),rfl⟩
theorem aQC:qp Tryz.prog 201=True:=eq_true ⟨_,Tryz.func201,of_decide_eq_false (by kernel_rfl),rfl⟩
theorem aQB:qp Tryz.prog 202=True:=eq_true ⟨_,Tryz.func202,of_decide_eq_false (by kernel_rfl),rfl⟩
theorem aQA:qp Tryz.prog 203=True:=eq_true ⟨_,Tryz.func203,of_decide_eq_false (by kernel_rfl),rfl⟩
theorem aQz:qp Tryz.prog 204=True:=eq_true ⟨_,Tryz.func204,of_decide_eq_false (by kernel_rfl),rfl⟩
theorem aQy:qp Tryz.prog 205=True:=eq_true ⟨_,Tryz.func205,of_decide_eq_false (by kernel_rfl),rfl⟩
theorem aQx:qp Tryz.prog 206=True:=eq_true ⟨_,Tryz.func206,of_decide_eq_false (by kernel_rfl),rfl⟩
theorem aQw:qp Tryz.prog 207=True:=eq_true ⟨_,Tryz.func207,of_decide_eq_false (by kernel_rfl),rfl⟩
theorem aQv:qp Tryz.prog 208=True:=eq_true ⟨_,Tryz.func208,of_decide_eq_false (by kernel_rfl),rfl⟩
theorem aQu:qp Tryz.prog 209=True:=eq_true ⟨_,Tryz.func209,of_decide_eq_false (by kernel_rfl),rfl⟩
theorem aQt:qp Tryz.prog 210=True:=eq_true ⟨_,Tryz.func210,of_decide_eq_false (by kernel_rfl),rfl⟩
theorem aQs:qp Tryz.prog 211=True:=eq_true ⟨_,Tryz.func211,of_decide_eq_false (by kernel_rfl),rfl⟩
theorem aQr:qp Tryz.prog 212=True:=eq_true ⟨_,Tryz.func212,of_decide_eq_false (by kernel_rfl),rfl⟩
theorem aQq:qp Tryz.prog 213=True:=eq_true ⟨_,Tryz.func213,of_decide_eq_false (by kernel_rfl),rfl⟩
theorem aQp:qp Tryz.prog 214=True:=eq_true ⟨_,Tryz.func214,of_decide_eq_false (by kernel_rfl),rfl⟩
theorem aQo:qp Tryz.prog 215=True:=eq_true ⟨_,Tryz.func215,of_decide_eq_false (by kernel_rfl),rfl⟩
theorem aQn:qp Tryz.prog 216=True:=eq_true ⟨_,Tryz.func216,of_decide_eq_false (by kernel_rfl),rfl⟩
theorem aQm:qp Tryz.prog 217=True:=eq_true ⟨_,Tryz.func217,of_decide_eq_false (by kernel_rfl),rfl⟩
theorem aQl:qp Tryz.prog 218=True:=eq_true ⟨_,Tryz.func218,of_decide_eq_false (by kernel_rfl),rfl⟩
theorem aQk:qp Tryz.prog 219=True:=eq_true ⟨_,Tryz.func219,of_decide_eq_false (by kernel_rfl),rfl⟩
theorem aQj:qp Tryz.prog 220=True:=eq_true ⟨_,Tryz.func220,of_decide_eq_false (by kernel_rfl),rfl⟩
theorem aQi:qp Tryz.prog 221=True:=eq_true ⟨_,Tryz.func221,of_decide_eq_false (by kernel_rfl),rfl⟩
theorem aQh:qp Tryz.prog 222=True:=eq_true ⟨_,Tryz.func222,of_decide_eq_false (by kernel_rfl),rfl⟩
theorem aQg:qp Tryz.prog 223=True:=eq_true ⟨_,Tryz.func223,of_decide_eq_false (by kernel_rfl),rfl⟩
theorem aQf:qp Tryz.prog 224=True:=eq_true ⟨_,Tryz.func224,of_decide_eq_false (by kernel_rfl),rfl⟩
theorem aQe:qp Tryz.prog 225=True:=eq_true ⟨_,Tryz.func225,of_decide_eq_false (by kernel_rfl),rfl⟩
theorem aQd:qp Tryz.prog 226=True:=eq_true ⟨_,Tryz.func226,of_decide_eq_false (by kernel_rfl),rfl⟩
theorem aQc:qp Tryz.prog 227=True:=eq_true ⟨_,Tryz.func227,of_decide_eq_false (by kernel_rfl),rfl⟩
theorem aQb:qp Tryz.prog 228=True:=eq_true ⟨_,Tryz.func228,of_decide_eq_false (by kernel_rfl),rfl⟩
theorem aQa:qp Tryz.prog 229=True:=eq_true ⟨_,Tryz.func229,of_decide_eq_false (by kernel_rfl),rfl⟩
theorem aP9:qp Tryz.prog 230=True:=eq_true ⟨_,Tryz.func230,of_decide_eq_false (by kernel_rfl),rfl⟩
theorem aP8:qp Tryz.prog 231=True:=eq_true ⟨_,Tryz.func231,of_decide_eq_false (by kernel_rfl),rfl⟩
theorem aP7:qp Tryz.prog 232=True:=eq_true ⟨_,Tryz.func232,of_decide_eq_false (by kernel_rfl),rfl⟩
theorem aP6:qp Tryz.prog 233=True:=eq_true ⟨_,Tryz.func233,of_decide_eq_false (by kernel_rfl),rfl⟩
theorem aP5:qp Tryz.prog 234=True:=eq_true ⟨_,Tryz.func234,of_decide_eq_false (by kernel_rfl),rfl⟩
theorem aP4:qp Tryz.prog 235=True:=eq_true ⟨_,Tryz.func235,of_decide_eq_false (by kernel_rfl),rfl⟩
theorem aP3:qp Tryz.prog 236=True:=eq_true ⟨_,Tryz.func236,of_decide_eq_false (by kernel_rfl),rfl⟩
theorem aP2:qp Tryz.prog 237=True:=eq_true ⟨_,Tryz.func237,of_decide_eq_false (by kernel_rfl),rfl⟩
theorem aP1:qp Tryz.prog 238=True:=eq_true ⟨_,Tryz.func238,of_decide_eq_false (by kernel_rfl),rfl⟩
theorem aP0:qp Tryz.prog 239=True:=eq_true ⟨_,Tryz.func239,of_decide_eq_false (by kernel_rfl),rfl⟩
theorem aPZ:qp Tryz.prog 240=True:=eq_true ⟨_,Tryz.func240,of_decide_eq_false (by kernel_rfl),rfl⟩
theorem aPY:qp Tryz.prog 241=True:=eq_true ⟨_,Tryz.func241,of_decide_eq_false (by kernel_rfl),rfl⟩
theorem aPX:qp Tryz.prog 242=True:=eq_true ⟨_,Tryz.func242,of_decide_eq_false (by kernel_rfl),rfl⟩
theorem aPW:qp Tryz.prog 243=True:=eq_true ⟨_,Tryz.func243,of_decide_eq_false (by kernel_rfl),rfl⟩
theorem aPV:qp Tryz.prog 244=True:=eq_true ⟨_,Tryz.func244,of_decide_eq_false (by kernel_rfl),rfl⟩
theorem aPU:qp Tryz.prog 245=True:=eq_true ⟨_,Tryz.func245,of_decide_eq_false (by kernel_rfl),rfl⟩
theorem aPT:qp Tryz.prog 246=True:=eq_true ⟨_,Tryz.func246,of_decide_eq_false (by kernel_rfl),rfl⟩
theorem aPS:qp Tryz.prog 247=True:=eq_true ⟨_,Tryz.func247,of_decide_eq_false (by kernel_rfl),rfl⟩
theorem aPR:qp Tryz.prog 248=True:=eq_true ⟨_,Tryz.func248,of_decide_eq_false (by kernel_rfl),rfl⟩
theorem aPQ:qp Tryz.prog 249=True:=eq_true ⟨_,Tryz.func249,of_decide_eq_false (by kernel_rfl),rfl⟩
theorem aPP:qp Tryz.prog 250=True:=eq_true ⟨_,Tryz.func250,of_decide_eq_false (by kernel_rfl),rfl⟩
theorem aPO:qp Tryz.prog 251=True:=eq_true ⟨_,Tryz.func251,of_decide_eq_false (by kernel_rfl),rfl⟩
theorem aPN:qp Tryz.prog 252=True:=eq_true ⟨_,Tryz.func252,of_decide_eq_false (by kernel_rfl),rfl⟩
theorem aPM:qp Tryz.prog 253=True:=eq_true ⟨_,Tryz.func253,of_decide_eq_false (by kernel_rfl),rfl⟩
theorem aPL:qp Tryz.prog 254=True:=eq_true ⟨_,Tryz.func254,of_decide_eq_false (by kernel_rfl),rfl⟩
theorem aPK:qp Tryz.prog 255=True:=eq_true ⟨_,Tryz.func255,of_decide_eq_false (by kernel_rfl),rfl⟩
theorem aPJ:qp Tryz.prog 256=True:=eq_true ⟨_,Tryz.func256,of_decide_eq_false (by kernel_rfl),rfl⟩
theorem aPI:qp Tryz.prog 257=True:=eq_true ⟨_,Tryz.func257,of_decide_eq_false (by kernel_rfl),rfl⟩
theorem aPH:qp Tryz.prog 258=True:=eq_true ⟨_,Tryz.func258,of_decide_eq_false (by kernel_rfl),rfl⟩
theorem aPG:qp Tryz.prog 259=True:=eq_true ⟨_,Tryz.func259,of_decide_eq_false (by kernel_rfl),rfl⟩
theorem aPF:qp Tryz.prog 260=True:=eq_true ⟨_,Tryz.func260,of_decide_eq_false (by kernel_rfl),rfl⟩
theorem aPE:qp Tryz.prog 261=True:=eq_true ⟨_,Tryz.func261,of_decide_eq_false (by kernel_rfl),rfl⟩
theorem aPD:qp Tryz.prog 262=True:=eq_true ⟨_,Tryz.func262,of_decide_eq_false (by kernel_rfl),rfl⟩
theorem aPC:qp Tryz.prog 263=True:=eq_true ⟨_,Tryz.func263,of_decide_eq_false (by kernel_rfl),rfl⟩
theorem aPB:qp Tryz.prog 264=True:=eq_true ⟨_,Tryz.func264,of_decide_eq_false (by kernel_rfl),rfl⟩
theorem aPA:qp Tryz.prog 265=True:=eq_true ⟨_,Tryz.func265,of_decide_eq_false (by kernel_rfl),rfl⟩
theorem aPz:qp Tryz.prog 266=True:=eq_true ⟨_,Tryz.func266,of_decide_eq_false (by kernel_rfl),rfl⟩
theorem aPy:qp Tryz.prog 267=True:=eq_true ⟨_,Tryz.func267,of_decide_eq_false (by kernel_rfl),rfl⟩
theorem aPx:qp Tryz.prog 268=True:=eq_true ⟨_,Tryz.func268,of_decide_eq_false (by kernel_rfl),rfl⟩
theorem aPw:qp Tryz.prog 269=True:=eq_true ⟨_,Tryz.func269,of_decide_eq_false (by kernel_rfl),rfl⟩
theorem aPv:qp Tryz.prog 270=True:=eq_true ⟨_,Tryz.func270,of_decide_eq_false (by kernel_rfl),rfl⟩
theorem aPu:qp Tryz.prog 271=True:=eq_true ⟨_,Tryz.func271,of_decide_eq_false (by kernel_rfl),rfl⟩
theorem aPt:qp Tryz.prog 272=True:=eq_true ⟨_,Tryz.func272,of_decide_eq_false (by kernel_rfl),rfl⟩
theorem aPs:qp Tryz.prog 273=True:=eq_true ⟨_,Tryz.func273,of_decide_eq_false (by kernel_rfl),rfl⟩
theorem aPr:qp Tryz.prog 274=True:=eq_true ⟨_,Tryz.func274,of_decide_eq_false (by kernel_rfl),rfl⟩
theorem aPq:qp Tryz.prog 275=True:=eq_true ⟨_,Tryz.func275,of_decide_eq_false (by kernel_rfl),rfl⟩
theorem aPp:qp Tryz.prog 276=True:=eq_true ⟨_,Tryz.func276,of_decide_eq_false (by kernel_rfl),rfl⟩
theorem aPo:qp Tryz.prog 277=True:=eq_true ⟨_,Tryz.func277,of_decide_eq_false (by kernel_rfl),rfl⟩
theorem aPn:qp Tryz.prog 278=True:=eq_true ⟨_,Tryz.func278,of_decide_eq_false (by kernel_rfl),rfl⟩
theorem aPm:qp Tryz.prog 279=True:=eq_true ⟨_,Tryz.func279,of_decide_eq_false (by kernel_rfl),rfl⟩
theorem aPl:qp Tryz.prog 280=True:=eq_true ⟨_,Tryz.func280,of_decide_eq_false (by kernel_rfl),rfl⟩
theorem aPk:qp Tryz.prog 281=True:=eq_true ⟨_,Tryz.func281,of_decide_eq_false (by kernel_rfl),rfl⟩
theorem aPj:qp Tryz.prog 282=True:=eq_true ⟨_,Tryz.func282,of_decide_eq_false (by kernel_rfl),rfl⟩
theorem aPi:qp Tryz.prog 283=True:=eq_true ⟨_,Tryz.func283,of_decide_eq_false (by kernel_rfl),rfl⟩
theorem aPh:qp Tryz.prog 284=True:=eq_true ⟨_,Tryz.func284,of_decide_eq_false (by kernel_rfl),rfl⟩
theorem aPg:qp Tryz.prog 285=True:=eq_true ⟨_,Tryz.func285,of_decide_eq_false (by kernel_rfl),rfl⟩
theorem aPf:qp Tryz.prog 286=True:=eq_true ⟨_,Tryz.func286,of_decide_eq_false (by kernel_rfl),rfl⟩
theorem aPe:qp Tryz.prog 287=True:=eq_true ⟨_,Tryz.func287,of_decide_eq_false (by kernel_rfl),rfl⟩
theorem aPd:qp Tryz.prog 288=True:=eq_true ⟨_,Tryz.func288,of_decide_eq_false (by kernel_rfl),rfl⟩
theorem aPc:qp Tryz.prog 289=True:=eq_true ⟨_,Tryz.func289,of_decide_eq_false (by kernel_rfl),rfl⟩
theorem aPb:qp Tryz.prog 290=True:=eq_true ⟨_,Tryz.func290,of_decide_eq_false (by kernel_rfl),rfl⟩
theorem aPa:qp Tryz.prog 291=True:=eq_true ⟨_,Tryz.func291,of_decide_eq_false (by kernel_rfl),rfl⟩
theorem aO9:qp Tryz.prog 292=True:=eq_true ⟨_,Tryz.func292,of_decide_eq_false (by kernel_rfl),rfl⟩
theorem aO8:qp Tryz.prog 293=True:=eq_true ⟨_,Tryz.func293,of_decide_eq_false (by kernel_rfl),rfl⟩
theorem aO7:qp Tryz.prog 294=True:=eq_true ⟨_,Tryz.func294,of_decide_eq_false (by kernel_rfl),rfl⟩
theorem aO6:qp Tryz.prog 295=True:=eq_true ⟨_,Tryz.func295,of_decide_eq_false (by kernel_rfl),rfl⟩
theorem aO5:qp Tryz.prog 296=True:=eq_true ⟨_,Tryz.func296,of_decide_eq_false (by kernel_rfl),rfl⟩
theorem aO4:qp Tryz.prog 318=True:=eq_true ⟨_,Tryz.func318,of_decide_eq_false (by kernel_rfl),rfl⟩
attribute [go_sem] ty1 aNk aIc avA amf aNi aNj ty2 aNh aHQ
attribute [go_sem] asp ak0 aNf aNg ty3 aNe aHl ase akN aNc
attribute [go_sem] aNd ty4 aNb aGW ar5 akE aM9 aNa ty5 aM8
attribute [go_sem] aGA arX akv aM6 aM7 ty6 aM5 aF8 arN akl
attribute [go_sem] aM3 aM4 ty7 aM2 aFP arG ake aM0 aM1 aSo
attribute [go_sem] aYW aSn aYV aSm aYU aSl aYT bdZ ty8 aMZ
attribute [go_sem] aFq arx aj3 aMX aMY aSk aYS aSj aYR aSi
attribute [go_sem] aYQ aSh aYP bdY ty9 aMW aE1 arn ajU aMU
attribute [go_sem] aMV bcu aIl azJ anG aih aIj aIk bct aIi
attribute [go_sem] aze anu ah6 aIg aIh bcs aIf ayJ anj ahV
attribute [go_sem] aId aIe bcr aIb auK alX agB aH9 aIa bcq
attribute [go_sem] aH8 aui alN agr aH6 aH7 aYF bcp aH5 atN
attribute [go_sem] alz agf aH3 aH4 aYE bco aH2 ato alp af6
attribute [go_sem] aH0 aH1 aLb aOe aLa aOd ba7 bcn aHZ asW
attribute [go_sem] ald afW aHX aHY aK9 aOc aK8 aOb ba6 bcm
attribute [go_sem] aHW asr ak2 afL aHU aHV bcl aHT asq ak1
attribute [go_sem] afK aHR aHS bck aHP aso akZ afJ aHN aHO
attribute [go_sem] bcj aHM asn akY afI aHK aHL bci aHJ asm
attribute [go_sem] akX afH aHH aHI bch aHG asl akW afG aHE
attribute [go_sem] aHF bcg aHD ask akV afF aHB aHC aYD bcf
attribute [go_sem] aHA asj akU afE aHy aHz aK7 aOa ba5 bce
attribute [go_sem] aHx asi akT afD aHv aHw aK6 aN9 ba4 bcd
attribute [go_sem] aHu ash akR afC aHs aHt aK5 aN8 aK4 aN7
attribute [go_sem] ba3 bcc aHr asg akQ afB aHp aHq aK3 aN6
attribute [go_sem] aK2 aN5 ba2 bcb aHo asf akO afA aHm aHn
attribute [go_sem] aK1 aN4 aK0 aN3 ba1 bca aHk asd akM afz
attribute [go_sem] aHi aHj aKZ aN2 aKY aN1 ba0 bb9 aHh asc
attribute [go_sem] akL afy aHf aHg bb8 aHe asb akK afx aHc
attribute [go_sem] aHd bb7 aHb asa akJ afw aG9 aHa bb6 aG8
attribute [go_sem] ar9 akI afv aG6 aG7 bb5 aG5 ar8 akH afu
attribute [go_sem] aG3 aG4 bb4 aG2 ar7 akG aft aG0 aG1 bb3
attribute [go_sem] aGZ ar6 akF afs aGX aGY bb2 aGV ar4 akC
attribute [go_sem] afr aGT aGU aKX aN0 aKW aNZ baZ bb1 aGS
attribute [go_sem] ar3 akB afq aGQ aGR aKV aNY aKU aNX baY
attribute [go_sem] bb0 aGP ar2 akA afp aGN aGO bbZ aGM ar1
attribute [go_sem] akz afo aGK aGL bbY aGJ ar0 aky afn aGH
attribute [go_sem] aGI bbX aGG arZ akx afm aGE aGF bbW aGD
attribute [go_sem] arY akw afl aGB aGC bbV aGz arW aku afk
attribute [go_sem] aGx aGy bbU aGw arV akt afj aGu aGv bbT
attribute [go_sem] aGt arU aks afi aGr aGs bbS aGq arT akr
attribute [go_sem] afh aGo aGp bbR aGn arS akq afg aGl aGm
attribute [go_sem] bbQ aGk arR akp aff aGi aGj bbP aGh arQ
attribute [go_sem] ako afe aGf aGg bbO aGe arP akn afd aGc
attribute [go_sem] aGd bbN aGb arO akm afc aF9 aGa aYC bbM
attribute [go_sem] aF7 arM akk afb aF5 aF6 bbL aF4 arL akj
attribute [go_sem] afa aF2 aF3 bbK aF1 arK aki ae9 aFZ aF0
attribute [go_sem] bbJ aFY arJ akh ae8 aFW aFX bbI aFV arI
attribute [go_sem] akg ae7 aFT aFU bbH aFS arH akf ae6 aFQ
attribute [go_sem] aFR bbG aFO arF akd ae5 aFM aFN bbF aFL
attribute [go_sem] arE akb ae4 aFJ aFK aKT aNW aKS aNV baX
attribute [go_sem] bbE aFI arD aj9 ae3 aFG aFH aKR aNU aKQ
attribute [go_sem] aNT baW bbD aFF arC aj8 ae2 aFD aFE bbC
attribute [go_sem] aFC arB aj7 ae1 aFA aFB bbB aFz arA aj6
attribute [go_sem] ae0 aFx aFy bbA aFw arz aj5 aeZ aFu aFv
attribute [go_sem] bbz aFt ary aj4 aeY aFr aFs bby aFp arw
attribute [go_sem] aj2 aeX aFn aFo bbx aFm arv aj1 aeW aFk
attribute [go_sem] aFl bbw aFj aru aj0 aeV aFh aFi bbv aFg
attribute [go_sem] art ajZ aeU aFe aFf bbu aFd ars ajY aeT
attribute [go_sem] aFb aFc bbt aFa arq ajX aeS aE8 aE9 bbs
attribute [go_sem] aE7 arp ajW aeR aE5 aE6 bbr aE4 aro ajV
attribute [go_sem] aeQ aE2 aE3 aWd aAa anP aiq acU az8 az9
attribute [go_sem] aWc az7 anO aip acT az5 az6 aWb az4 anN
attribute [go_sem] aio acS az2 az3 aWa az1 anM ain acR azZ
attribute [go_sem] az0 aV9 azY anL aim acQ azW azX aV8 azV
attribute [go_sem] anK ail acP azT azU aV7 azS anJ aik acO
attribute [go_sem] azQ azR aV6 azP anI aij acN azN azO aV5
attribute [go_sem] azM anH aii acM azK azL aV4 azI anF aig
attribute [go_sem] acL azG azH aV3 azF anE aif acK azD azE
attribute [go_sem] aNE aV2 azC anD aie acJ azA azB aCc aJj
attribute [go_sem] aCb aJi aS4 aV1 azz anC aid acI azx azy
attribute [go_sem] aCa aJh aB9 aJg aS3 aV0 azw anB aic acH
attribute [go_sem] azu azv aVZ azt anA aib acG azr azs aVY
attribute [go_sem] azq anz aia acF azo azp aVX azn anx ah9
attribute [go_sem] acE azl azm aB8 aJf aB7 aJe aB6 aJd aS2
attribute [go_sem] aVW azk anw ah8 acD azi azj aB5 aJc aB4
attribute [go_sem] aJb aB3 aJa aS1 aVV azh anv ah7 acC azf
attribute [go_sem] azg aVU azd ant ah5 acB azb azc aVT aza
attribute [go_sem] ans ah4 acA ay8 ay9 aVS ay7 anr ah3 acz
attribute [go_sem] ay5 ay6 aVR ay4 anq ah2 acy ay2 ay3 aVQ
attribute [go_sem] ay1 anp ah1 acx ayZ ay0 aVP ayY ano ah0
attribute [go_sem] acw ayW ayX aVO ayV ann ahZ acv ayT ayU
attribute [go_sem] aVN ayS anm ahY acu ayQ ayR aVM ayP anl
attribute [go_sem] ahX act ayN ayO aVL ayM ank ahW acs ayK
attribute [go_sem] ayL aVK ayI ani ahU acr ayG ayH aVJ ayF
attribute [go_sem] anh ahT acq ayD ayE aVI ayC ang ahS acp
attribute [go_sem] ayA ayB aB2 aI9 aB1 aI8 aS0 aVH ayz anf
attribute [go_sem] ahR aco ayx ayy aB0 aI7 aBZ aI6 aSZ aVG
attribute [go_sem] ayw ane ahQ acn ayu ayv aVF ayt anc ahP
attribute [go_sem] acm ayr ays aVE ayq anb ahO acl ayo ayp
attribute [go_sem] aVD ayn ana ahN ack ayl aym aVC ayk am9
attribute [go_sem] ahM acj ayi ayj aVB ayh am8 ahL aci ayf
attribute [go_sem] ayg aVA aye am7 ahK ach ayc ayd aVz ayb
attribute [go_sem] am6 ahJ acg ax9 aya aVy ax8 am5 ahI acf
attribute [go_sem] ax6 ax7 aVx ax5 am4 ahH ace ax3 ax4 aVw
attribute [go_sem] ax2 am3 ahG acd ax0 ax1 aVv axZ am2 ahF
attribute [go_sem] acb axX axY aVu axW am1 ahE aca axU axV
attribute [go_sem] aVt axT am0 ahD ab9 axR axS aVs axQ amZ
attribute [go_sem] ahC ab8 axO axP aVr axN amY ahB ab7 axL
attribute [go_sem] axM aVq axK amX ahA ab6 axI axJ aVp axH
attribute [go_sem] amW ahz ab5 axF axG aND aVo axE amV ahy
attribute [go_sem] ab4 axC axD aBY aI5 aBX aI4 aSY aVn axB
attribute [go_sem] amU ahx ab3 axz axA aBW aI3 aBV aI2 aSX
attribute [go_sem] aVm axy amT ahw ab2 axw axx aVl axv amS
attribute [go_sem] ahv ab1 axt axu aVk axs amR ahu ab0 axq
attribute [go_sem] axr aVj axp amQ aht abZ axn axo aVi axm
attribute [go_sem] amP ahs abY axk axl aVh axj amO ahr abX
attribute [go_sem] axh axi aVg axg amN ahq abW axe axf aVf
attribute [go_sem] axd amM ahp abV axb axc aVe axa amL aho
attribute [go_sem] abU aw8 aw9 aVd aw7 amK ahn abT aw5 aw6
attribute [go_sem] aVc aw4 amJ ahm abS aw2 aw3 aVb aw1 amI
attribute [go_sem] ahl abR awZ aw0 aVa awY amH ahk abQ awW
attribute [go_sem] awX aU9 awU amG ahj abP awS awT aU8 awR
attribute [go_sem] amF ahi abO awP awQ aU7 awO amE ahh abN
attribute [go_sem] awM awN aU6 awL amD ahg abM awJ awK aBU
attribute [go_sem] aI1 aBT aI0 aBS aIZ aSW aU5 awI amC ahf
attribute [go_sem] abL awG awH aBR aIY aBQ aIX aBP aIW aSV
attribute [go_sem] aU4 awF amB ahe abK awD awE aU3 awC amA
attribute [go_sem] ahd abJ awA awB aU2 awz amz ahc abI awx
attribute [go_sem] awy aU1 aww amy ahb abH awu awv aU0 awt
attribute [go_sem] amx aha abG awr aws aUZ awq amw ag9 abF
attribute [go_sem] awn awo aUY awm amv ag8 abE awk awl aUX
attribute [go_sem] awj amu ag7 abD awh awi aUW awg amt ag6
attribute [go_sem] abC awe awf aUV awd ams ag5 abB awb awc
attribute [go_sem] aUU awa amr ag4 abA av8 av9 aUT av7 amq
attribute [go_sem] ag3 abz av5 av6 aUS av4 amp ag2 aby av2
attribute [go_sem] av3 aUR av1 amo ag1 abx avZ av0 aUQ avY
attribute [go_sem] amn ag0 abw avW avX aUP avV amm agZ abv
attribute [go_sem] avT avU aUO avS aml agY abu avQ avR aUN
attribute [go_sem] avP amk agX abt avN avO aNC aUM avM amj
attribute [go_sem] agW abr avK avL aUL avJ ami agV abq avH
attribute [go_sem] avI aUK avG amh agU abp avE avF aUJ avD
attribute [go_sem] amg agT abo avB avC aUI avz ame agS abn
attribute [go_sem] avx avy aUH avw amd agR abm avu avv aUG
attribute [go_sem] avt amc agQ abl avr avs aUF avq amb agP
attribute [go_sem] abk avo avp aUE avn ama agO abj avl avm
attribute [go_sem] aUD avk al9 agN abi avi avj aUC avh al8
attribute [go_sem] agM abh avf avg aUB ave al7 agL abg avc
attribute [go_sem] avd aUA avb al6 agK abf au9 ava aUz au8
attribute [go_sem] al5 agJ abe au6 au7 aUy au5 al4 agI abd
attribute [go_sem] au3 au4 aUx au2 al3 agH abc au0 au1 aUw
attribute [go_sem] auZ al2 agG abb auX auY aUv auW al1 agF
attribute [go_sem] aba auU auV aUu auT al0 agE aa9 auR auS
attribute [go_sem] aUt auQ alZ agD aa8 auO auP aUs auN alY
attribute [go_sem] agC aa7 auL auM aUr auJ alW agA aa6 auH
attribute [go_sem] auI aUq auG alV agz aa5 auE auF aUp auD
attribute [go_sem] alU agy aa4 auB auC aUo auA alT agx aa3
attribute [go_sem] auy auz aUn aux alS agw aa2 auv auw aUm
attribute [go_sem] auu alR agv aa1 aus aut aUl aur alQ agu
attribute [go_sem] aaZ aup auq aUk auo alP agt aaY aum aun
attribute [go_sem] aUj aul alO ags aaX auj auk aUi auh alM
attribute [go_sem] agq aaW auf aug aUh aue alL agp aaV auc
attribute [go_sem] aud aUg aub alK ago aaU at9 aua aUf at8
attribute [go_sem] alJ agn aaT at6 at7 aUe at5 alI agm aaS
attribute [go_sem] at3 at4 aUd at2 alH agl aaR at0 at1 aUc
attribute [go_sem] atZ alG agk aaQ atX atY aUb atW alD agj
attribute [go_sem] aaP atU atV aUa atT alC agi aaO atR atS
attribute [go_sem] aT9 atQ alB agh aaN atO atP aT8 atM alx
attribute [go_sem] age aaM atK atL aT7 atJ alw agd aaL atH
attribute [go_sem] atI aT6 atG alv agc aaK atE atF aT5 atD
attribute [go_sem] alu agb aaJ atB atC aT4 atA alt aga aaI
attribute [go_sem] aty atz aT3 atx als af9 aaH atv atw aT2
attribute [go_sem] atu alr af8 aaG ats att aT1 atr alq af7
attribute [go_sem] aaF atp atq aT0 atn aln af5 aaE atl atm
attribute [go_sem] aTZ atk alm af4 aaD ati atj aTY ath alk
attribute [go_sem] af3 aaC atf atg aTX ate alj af2 aaB atc
attribute [go_sem] atd aTW atb ali af1 aaA as9 ata aTV as8
attribute [go_sem] alh af0 aaz as6 as7 aTU as5 alg afZ aay
attribute [go_sem] as3 as4 aTT as2 alf afY aax as0 as1 aTS
attribute [go_sem] asZ ale afX aaw asX asY aTR asV alc afV
attribute [go_sem] aav asT asU aTQ asS alb afU aau asQ asR
attribute [go_sem] aTP asP ala afT aat asN asO aTO asM ak9
attribute [go_sem] afS aas asK asL aTN asJ ak8 afR aar asH
attribute [go_sem] asI aTM asG ak7 afQ aaq asE asF aTL asD
attribute [go_sem] ak6 afP aap asB asC aTK asA ak5 afO aao
attribute [go_sem] asy asz aTJ asx ak4 afN aan asv asw aTI
attribute [go_sem] asu ak3 afM aam ass ast bdV bdU bdT bdS
attribute [go_sem] bdR bdQ bdP bdO baL baK baJ baI baH baG
attribute [go_sem] baF baE baD baC baB baA baz bay bax baw
attribute [go_sem] bav bau bat bas bar baq bap bao ban bam
attribute [go_sem] bal bak baj bai bah bag baf bae bac bab
attribute [go_sem] baa aZ9 aZ8 aZ7 aZ6 aZ5 aZ4 aZ3 aZ2 aZ1
attribute [go_sem] aZ0 aZZ aZY aZX aZW aZV aZU aZT aZS aZR
attribute [go_sem] aZQ aZP aZO aZN aZM aZL aZK aZJ aZI aZH
attribute [go_sem] aZG aZF aZE aZD aZC aZB aZA aZz aZy aZx
attribute [go_sem] aZw aZv aZu aZt aZs aZr aZq aZp aZo aZn
attribute [go_sem] aZm aZl aZk aZj aSf aSe aSd aSc aSb aSa
attribute [go_sem] aR9 aR8 aR7 aR6 aR5 aR4 aR3 aR2 aR1 aR0
attribute [go_sem] aRZ aRY aRX aRW aRV aRU aRT aRS aRR aRQ
attribute [go_sem] aRP aRO aRN aRM aRL aRK aRJ aRI aRH aRG
attribute [go_sem] aRF aRE aRD aRC aRB aRA aRz aRy aRx aRw
attribute [go_sem] aRv aRu aRt aRs aRr aRq aRp aRo aRn aRm
attribute [go_sem] aRl aRk aRj aRi aRh aRg aRf aRe aRd aRc
attribute [go_sem] aRb aRa aQ9 aQ8 aQ7 aQ6 aQ5 aQ4 aQ3 aQ2
attribute [go_sem] aQ1 aQ0 aQZ aQY aQX aQW aQV aQU aQT aQS
attribute [go_sem] aQR aQQ aQP aQO aQN aQM aQL aQK aQJ aQI
attribute [go_sem] aQH aQG aQF aQE aQD aQC aQB aQA aQz aQy
attribute [go_sem] aQx aQw aQv aQu aQt aQs aQr aQq aQp aQo
attribute [go_sem] aQn aQm aQl aQk aQj aQi aQh aQg aQf aQe
attribute [go_sem] aQd aQc aQb aQa aP9 aP8 aP7 aP6 aP5 aP4
attribute [go_sem] aP3 aP2 aP1 aP0 aPZ aPY aPX aPW aPV aPU
attribute [go_sem] aPT aPS aPR aPQ aPP aPO aPN aPM aPL aPK
attribute [go_sem] aPJ aPI aPH aPG aPF aPE aPD aPC aPB aPA
attribute [go_sem] aPz aPy aPx aPw aPv aPu aPt aPs aPr aPq
attribute [go_sem] aPp aPo aPn aPm aPl aPk aPj aPi aPh aPg
attribute [go_sem] aPf aPe aPd aPc aPb aPa aO9 aO8 aO7 aO6
attribute [go_sem] aO5 aO4
end Go.Ab
namespace Go.Ab
open Go Go.Proofs
set_option maxRecDepth 100000 in
theorem adL(U V:List Int)(j:Nat)(hU:gd U)(hV:gd V)(lU:U.length≤2000000)(h2:2≤V.length)(hj:j+V.length<U.length)(hv1:32768≤V.getD (V.length-1) 0)(hW:vl (U.drop j)<65536*vl V):
  Con Tryz.prog 289 true [.sl U.length (qc U),.sl V.length (qc V),.v (.int .i64 j)] [] (fun r hs bs=>∃q:Int,r=.v (.int .i64 q)∧hs=[]∧bs=[]∧(0≤q∧q<65536)∧vl (U.drop j)<(q+1)*vl V∧q*vl V<vl (U.drop j)+vl V):=by
 refine Con.of_aw Tryz.func289 rfl Tryz.ntmps289 (by simp) (by simp) (by simp) (W.sound ?_)
 show @W Tryz.prog 76 ⟨_⟩ ⟨fun x σ=>@qY _ _ _ ⟨_⟩ _ ⟨_⟩ x σ⟩ _ _
 have hDl:V.length<(U.drop j).length:=by simp;omega
 have hz:=ad6 (ye hU j) hV hDl hW
 have hw:=aMM hDl h2 hz
 have hvv:=aES h2
 rw[zP,zP,zP]at hw
 have hx0:=qP (jT (ye hU j) (V.length-2))
 have hx1:=Qp (jT (ye hU j) (V.length-2))
 have hy0:=qP (jT hV (V.length-2))
 have hy1:=Qp (jT hV (V.length-2))
 rw[List.length_take,Nat.min_eq_left (by omega)]at hx1 hy1
 have gu0:=qH hU (j+V.length)
 have gu1:=qH hU (j+(V.length-1))
 have gu2:=qH hU (j+(V.length-2))
 have gv1:=qH hV (V.length-1)
 have gv2:=qH hV (V.length-2)
 have htop:=aOJ hw hvv ⟨hx0,hx1⟩ ⟨hy0,hy1⟩ gu2.1 gu1.1 gv2.2 hW
 have e0:((j:Int)+(V.length:Int)).toNat=j+V.length:=by omega
 have e1:((j:Int)+(V.length:Int)-1).toNat=j+(V.length-1):=by omega
 have e2:((j:Int)+(V.length:Int)-2).toNat=j+(V.length-2):=by omega
 have f1:((V.length:Int)-1).toNat=V.length-1:=by omega
 have f2:((V.length:Int)-2).toNat=V.length-2:=by omega
 simp(disch:=omega)only[go_sem]
 refine qq rfl [⟨0,[],[]⟩,⟨1,[],[]⟩,⟨2,[],[]⟩,⟨3,[],[]⟩,⟨4,[],[]⟩,⟨5,[],[]⟩,⟨6,[],[]⟩,⟨7,[5],[]⟩,⟨8,[5],[]⟩,⟨9,[5],[]⟩,⟨10,[5],[]⟩,⟨11,[5],[]⟩,⟨12,[5],[]⟩,⟨13,[5],[]⟩,⟨14,[],[]⟩,⟨15,[],[]⟩] (by kernel_rfl) ?_
 simp(disch:=omega)only[go_sem,e0,e1]
 generalize hu0:U.getD (j+V.length) 0=u0 at*
 generalize hu1:U.getD (j+(V.length-1)) 0=u1 at*
 generalize hu2:U.getD (j+(V.length-2)) 0=u2 at*
 refine⟨by omega,by omega,by omega,by omega,?_⟩
 refine qq rfl [⟨0,[],[]⟩,⟨1,[],[]⟩,⟨2,[],[]⟩,⟨3,[],[]⟩,⟨4,[],[]⟩,⟨5,[],[]⟩,⟨6,[],[]⟩,⟨7,[5],[]⟩,⟨8,[5],[]⟩,⟨9,[5],[]⟩,⟨10,[5],[]⟩,⟨11,[5],[]⟩,⟨12,[5],[]⟩,⟨13,[5],[]⟩,⟨14,[12],[]⟩,⟨15,[],[]⟩] (by kernel_rfl) ?_
 simp(disch:=omega)only[go_sem,f1]
 generalize hvv1:V.getD (V.length-1) 0=v1 at*
 generalize hvv2:V.getD (V.length-2) 0=v2 at*
 generalize htt:u0*65536+u1=top at*
 refine⟨by omega,by omega,by omega,by omega,by omega,by omega,?_⟩
 have hq0:0≤top/v1:=Int.ediv_nonneg (by omega) (by omega)
 have hq1:top/v1≤65537:=by
  have:top/v1<65538:=Int.ediv_lt_of_lt_mul (by omega) (by omega)
  omega
 have hr0:=Int.emod_nonneg top (show v1≠0 by omega)
 have hr1:=Int.emod_lt_of_pos top (show 0<v1 by omega)
 have hqr:=Int.emod_add_mul_ediv top v1
 have hini:=aKi hw hvv ⟨hx0,hx1⟩ ⟨hy0,hy1⟩ gu2 gv2.1 hq0 (show top<(top/v1+1)*v1 by rw[Int.add_mul,Int.mul_comm (top/v1)];omega)
 have hqr':top/v1*v1+top % v1=top:=by rw[Int.mul_comm];omega
 generalize top/v1=q0 at*
 generalize top % v1=r0 at*
 refine qi (fun x:Int×Int=>[(0,.sl U.length (qc U)),(1,.sl V.length (qc V)),(2,.v (.int .i64 j)),(7,.v (.int .i64 V.length)),(9,.v (.int .i64 x.1)),(10,.v (.int .i64 x.2))])
  (fun _=>[]) (fun x=>(0≤x.1∧x.1≤65537)∧(0≤x.2∧x.2<65536)∧x.1*v1+x.2=top∧vl (U.drop j)<(x.1+1)*vl V) (fun x=>x.1.toNat) (q0,r0) ⟨⟨hq0,hq1⟩,⟨hr0,by omega⟩,hqr',hini⟩
  (Le.lst [] _ _ rfl (by simp(disch:=omega)only[go_sem];try omega) (by simp(disch:=omega)only[go_sem])) ?_
 rintro⟨q,r⟩ ⟨hq,hr,hqr2,hlt⟩
 dsimp only at hq hr hqr2 hlt ⊢
 have hqv:0≤q*v2∧q*v2≤65537*65535:=⟨Int.mul_nonneg hq.1 gv2.1,Int.mul_le_mul hq.2 (by omega) gv2.1 (by omega)⟩
 simp(disch:=omega)only[go_sem]
 refine qq rfl [⟨0,[],[]⟩,⟨1,[],[]⟩,⟨2,[],[]⟩,⟨3,[],[]⟩,⟨4,[],[]⟩,⟨5,[],[]⟩,⟨6,[],[]⟩,⟨7,[],[]⟩,⟨8,[],[]⟩,⟨9,[],[]⟩,⟨10,[8],[]⟩,⟨11,[8],[]⟩,⟨12,[8],[]⟩,⟨13,[8],[]⟩,⟨14,[8],[]⟩,⟨15,[8],[]⟩,⟨16,[8],[]⟩,⟨17,[8],[]⟩,⟨18,[8],[]⟩,⟨19,[8],[]⟩,⟨20,[],[]⟩,⟨21,[],[]⟩] (by kernel_rfl) ?_
 simp(disch:=omega)only[go_sem]
 refine zw (fun h1=>?_) (fun h1=>?_)
 ·simp(disch:=omega)only[go_sem,h1,e2,f2,hu2,hvv2]
  refine⟨by omega,by omega,by omega,by omega,qe (fun h2=>?_) (fun h2=>?_)⟩
  ·simp(disch:=omega)only[go_sem,h2,f1,hvv1]
   have hst:=aoR hw hvv ⟨hx0,hx1⟩ ⟨hy0,hy1⟩ hW gv2.1 (by omega) hq.1 hqr2 (.inr h2)
   have hqp:0<q:=by
    rcases(by omega:0<q∨q=0)with h|h
    ·exact h
    ·subst h;omega
   have hm:(q-1)*v1+(r+v1)=top:=by rw[Int.sub_mul];omega
   refine⟨by omega,by omega,qe (fun h3=>?_) (fun h3=>?_)⟩
   ·simp(disch:=omega)only[go_sem,h3]
    have h4:q-1<65536:=by
     rcases(by omega:q-1<65536∨65536≤q-1)with h|h
     ·exact h
     ·have:=Int.mul_le_mul_of_nonneg_right h (show 0≤v1 by omega)
      omega
    have h5:(q-1)*v2≤(r+v1)*65536+u2:=by
     have:(q-1)*v2≤65535*65535:=Int.mul_le_mul (by omega) (by omega) gv2.1 (by omega)
     omega
    have h6:=adg hw hvv ⟨hx0,hx1⟩ ⟨hy0,hy1⟩ gv2.1 (by omega) ⟨by omega,h4⟩ hm h5
    exact qy (by simp(disch:=omega)only[go_sem]) (by simp(disch:=omega)only[go_sem]) ⟨q-1,rfl,rfl,rfl,⟨by omega,h4⟩,by rw[show q-1+1=q by omega];exact hst,h6⟩
   ·simp(disch:=omega)only[go_sem,h3]
    refine qb (q-1,r+v1) [] ⟨by show 0≤q-1∧q-1≤65537;omega,by show 0≤r+v1∧r+v1<65536;omega,hm,by show _<(q-1+1)*vl V;rw[show q-1+1=q by omega];exact hst⟩ (by show(q-1).toNat<q.toNat;omega) rfl (by simp(disch:=omega)only[go_sem];try omega) (by simp(disch:=omega)only[go_sem])
  ·simp(disch:=omega)only[go_sem,h2]
   have h6:=adg hw hvv ⟨hx0,hx1⟩ ⟨hy0,hy1⟩ gv2.1 (by omega) ⟨hq.1,by omega⟩ hqr2 (by omega)
   exact qy (by simp(disch:=omega)only[go_sem]) (by simp(disch:=omega)only[go_sem]) ⟨q,rfl,rfl,rfl,⟨hq.1,by omega⟩,hlt,h6⟩
 ·simp(disch:=omega)only[go_sem,h1,f1,hvv1]
  have hst:=aoR hw hvv ⟨hx0,hx1⟩ ⟨hy0,hy1⟩ hW gv2.1 (by omega) hq.1 hqr2 (.inl h1)
  have hqp:0<q:=by omega
  have hm:(q-1)*v1+(r+v1)=top:=by rw[Int.sub_mul];omega
  refine⟨by omega,by omega,qe (fun h3=>?_) (fun h3=>?_)⟩
  ·simp(disch:=omega)only[go_sem,h3]
   have h4:q-1<65536:=by
    rcases(by omega:q-1<65536∨65536≤q-1)with h|h
    ·exact h
    ·have:=Int.mul_le_mul_of_nonneg_right h (show 0≤v1 by omega)
     omega
   have h5:(q-1)*v2≤(r+v1)*65536+u2:=by
    have:(q-1)*v2≤65535*65535:=Int.mul_le_mul (by omega) (by omega) gv2.1 (by omega)
    omega
   have h6:=adg hw hvv ⟨hx0,hx1⟩ ⟨hy0,hy1⟩ gv2.1 (by omega) ⟨by omega,h4⟩ hm h5
   exact qy (by simp(disch:=omega)only[go_sem]) (by simp(disch:=omega)only[go_sem]) ⟨q-1,rfl,rfl,rfl,⟨by omega,h4⟩,by rw[show q-1+1=q by omega];exact hst,h6⟩
  ·simp(disch:=omega)only[go_sem,h3]
   refine qb (q-1,r+v1) [] ⟨by show 0≤q-1∧q-1≤65537;omega,by show 0≤r+v1∧r+v1<65536;omega,hm,by show _<(q-1+1)*vl V;rw[show q-1+1=q by omega];exact hst⟩ (by show(q-1).toNat<q.toNat;omega) rfl (by simp(disch:=omega)only[go_sem];try omega) (by simp(disch:=omega)only[go_sem])
end Go.Ab
namespace Go.Ab
open Go Go.Proofs
theorem KL(U V:List Int)(j:Nat)(q:Int)(hU:gd U)(hV:gd V)(lU:U.length≤2000000)(hj:j+V.length<U.length)(hq:0≤q∧q<65536):
  Con Tryz.prog 290 false [.rf 10000000 0 U.length,.sl V.length (qc V),.v (.int .i64 j),.v (.int .i64 q)] [.own 1 (qc U)]
   (fun r hs bs=>∃(U':List Int) (bo:Int),r=.v (.bool (decide (U.getD (j+V.length) 0-bo<0)))∧hs=[]∧bs=[.own 1 (qc (U'.set (j+V.length) (U.getD (j+V.length) 0-bo)))]∧
    U'.length=U.length∧gd U'∧(0≤bo∧bo<65536)∧(∀t,t<j∨j+V.length≤t→U'.getD t 0=U.getD t 0)∧vl U'-65536^(j+V.length)*bo=vl U-65536^j*(q*vl V)):=by
 refine Con.of_aw Tryz.func290 rfl Tryz.ntmps290 (by simp) (by simp) (by simp) (W.sound ?_)
 show @W Tryz.prog 68 ⟨_⟩ ⟨fun x σ=>@qY _ _ _ ⟨_⟩ _ ⟨_⟩ x σ⟩ _ _
 simp(disch:=omega)only[go_sem]
 refine qi (fun x:Nat×List Int×Int=>[(0,.rf 10000000 0 U.length),(1,.sl V.length (qc V)),(2,.v (.int .i64 j)),(3,.v (.int .i64 q)),(9,.v (.int .i64 x.2.2)),(13,.sl V.length (qc V)),(14,.v (.int .i64 V.length)),(15,.v (.int .i64 x.1))])
  (fun x=>[(10000000,.own 1 (qc x.2.1))])
  (fun x=>x.1≤V.length∧x.2.1.length=U.length∧gd x.2.1∧(0≤x.2.2∧x.2.2<65536)∧(∀t,t<j∨j+x.1≤t→x.2.1.getD t 0=U.getD t 0)∧vl x.2.1-65536^(j+x.1)*x.2.2=vl U-65536^j*(q*vl (V.take x.1)))
  (fun x=>V.length-x.1) (0,U,0) ⟨by simp,rfl,hU,by simp,fun _ _=>rfl,by simp[vl]⟩
  (Le.lst [] _ _ rfl (by simp(disch:=omega)only[go_sem];try omega) (by simp(disch:=omega)only[go_sem])) ?_
 rintro⟨i,U1,bo⟩ ⟨hi,hl1,hg1,hbo,hsame,hval⟩
 dsimp only at hi hl1 hg1 hbo hsame hval ⊢
 simp(disch:=omega)only[go_sem]
 refine qe (fun h1=>?_) (fun h1=>?_)
 ·have hx:=qH hV i
  have hu:=qH hg1 (j+i)
  have hqx:0≤q*V.getD i 0∧q*V.getD i 0≤65535*65535:=⟨Int.mul_nonneg hq.1 hx.1,Int.mul_le_mul (by omega) (by omega) hx.1 (by omega)⟩
  have e1:((j:Int)+(i:Int)).toNat=j+i:=by omega
  have hstep:∀d b:Int,d-65536*b=U1.getD (j+i) 0-q*V.getD i 0-bo→vl (U1.set (j+i) d)-65536^(j+(i+1))*b=vl U-65536^j*(q*vl (V.take (i+1))):=by
   intro d b hd
   rw[QJ (by omega),qL,←Nat.add_assoc,Int.pow_succ]
   have e3:(65536:Int)^(j+i)=65536^j*65536^i:=Int.pow_add _ _ _
   rw[e3]at hval ⊢
   generalize (65536:Int)^i=Pi at*
   generalize (65536:Int)^j=Pj at*
   grind
  have hsm:∀d:Int,∀t,t<j∨j+(i+1)≤t→(U1.set (j+i) d).getD t 0=U.getD t 0:=fun d t ht=>by
   rw[je (by omega),if_neg (by omega)];exact hsame t (by omega)
  simp(disch:=omega)only[go_sem,h1,e1]
  refine⟨by omega,by omega,by omega,by omega,qe (fun h2=>?_) (fun h2=>?_)⟩
  ·simp(disch:=omega)only[go_sem,h2,e1]
   generalize hb:(0-(U1.getD (j+i) 0-q*V.getD i 0-bo)+65536-1)/65536=b
   refine⟨by omega,by omega,qb (i+1,U1.set (j+i) (U1.getD (j+i) 0-q*V.getD i 0-bo+b*65536),b) [] ⟨by show i+1≤_;omega,by simp[hl1],yE hg1 (by omega),by show 0≤b∧b<65536;omega,hsm _,hstep (U1.getD (j+i) 0-q*V.getD i 0-bo+b*65536) b (by omega)⟩
    (by show V.length-(i+1)<V.length-i;omega) rfl (by simp(disch:=omega)only[go_sem];try omega) (by simp(disch:=omega)only[go_sem])⟩
  ·simp(disch:=omega)only[go_sem,h2,e1]
   refine⟨by omega,by omega,qb (i+1,U1.set (j+i) (U1.getD (j+i) 0-q*V.getD i 0-bo),0) [] ⟨by show i+1≤_;omega,by simp[hl1],yE hg1 (by omega),by simp,hsm _,hstep (U1.getD (j+i) 0-q*V.getD i 0-bo) 0 (by omega)⟩
    (by show V.length-(i+1)<V.length-i;omega) rfl (by simp(disch:=omega)only[go_sem];try omega) (by simp(disch:=omega)only[go_sem])⟩
 ·have hiA:i=V.length:=by omega
  subst hiA
  rw[List.take_length]at hval
  have e1:((j:Int)+(V.length:Int)).toNat=j+V.length:=by omega
  have hu:=qH hg1 (j+V.length)
  have es:=hsame (j+V.length) (by omega)
  have eg:(U1.set (j+V.length) (U.getD (j+V.length) 0-bo)).getD (j+V.length) 0=U.getD (j+V.length) 0-bo:=by rw[je (by omega),if_pos rfl]
  simp(disch:=omega)only[go_sem,h1,e1,es]
  refine⟨by omega,by omega,by omega,by omega,by omega,by simp;omega,?_⟩
  simp(disch:=omega)only[go_sem,eg]
  refine qg [] [] [.own 1 (qc (U1.set (j+V.length) (U.getD (j+V.length) 0-bo)))] [.v (.bool (decide (U.getD (j+V.length) 0-bo<0)))] rfl (by simp(disch:=omega)only[go_sem]) (by simp(disch:=omega)only[go_sem]) (by simp) (by simp) ⟨U1,bo,rfl,rfl,rfl,hl1,hg1,hbo,hsame,hval⟩
theorem adO(U V:List Int)(j:Nat)(hU:∀t,t≠j+V.length→0≤U.getD t 0∧U.getD t 0<65536)(hUt: -65536≤U.getD (j+V.length) 0∧U.getD (j+V.length) 0<65536)(hV:gd V)(lU:U.length≤2000000)(hj:j+V.length<U.length):
  Con Tryz.prog 291 false [.rf 10000000 0 U.length,.sl V.length (qc V),.v (.int .i64 j)] [.own 1 (qc U)]
   (fun r hs bs=>∃(U':List Int),r=.tu []∧hs=[]∧bs=[.own 1 (qc U')]∧
    U'.length=U.length∧(∀t,t≠j+V.length→0≤U'.getD t 0∧U'.getD t 0<65536)∧(∀t,t<j∨j+V.length<t→U'.getD t 0=U.getD t 0)∧vl U'=vl U+65536^j*vl V):=by
 refine Con.of_aw Tryz.func291 rfl Tryz.ntmps291 (by simp) (by simp) (by simp) (W.sound ?_)
 show @W Tryz.prog 46 ⟨_⟩ ⟨fun x σ=>@qY _ _ _ ⟨_⟩ _ ⟨_⟩ x σ⟩ _ _
 simp(disch:=omega)only[go_sem]
 refine qi (fun x:Nat×List Int×Int=>[(0,.rf 10000000 0 U.length),(1,.sl V.length (qc V)),(2,.v (.int .i64 j)),(6,.v (.int .i64 x.2.2)),(9,.sl V.length (qc V)),(10,.v (.int .i64 V.length)),(11,.v (.int .i64 x.1))])
  (fun x=>[(10000000,.own 1 (qc x.2.1))])
  (fun x=>x.1≤V.length∧x.2.1.length=U.length∧(∀t,t≠j+V.length→0≤x.2.1.getD t 0∧x.2.1.getD t 0<65536)∧(0≤x.2.2∧x.2.2≤1)∧(∀t,t<j∨j+x.1≤t→x.2.1.getD t 0=U.getD t 0)∧vl x.2.1+65536^(j+x.1)*x.2.2=vl U+65536^j*vl (V.take x.1))
  (fun x=>V.length-x.1) (0,U,0) ⟨by simp,rfl,hU,by simp,fun _ _=>rfl,by simp[vl]⟩
  (Le.lst [] _ _ rfl (by simp(disch:=omega)only[go_sem];try omega) (by simp(disch:=omega)only[go_sem])) ?_
 rintro⟨i,U1,cy⟩ ⟨hi,hl1,hg1,hcy,hsame,hval⟩
 dsimp only at hi hl1 hg1 hcy hsame hval ⊢
 simp(disch:=omega)only[go_sem]
 refine qe (fun h1=>?_) (fun h1=>?_)
 ·have hx:=qH hV i
  have hu:=hg1 (j+i) (by omega)
  have e1:((j:Int)+(i:Int)).toNat=j+i:=by omega
  simp(disch:=omega)only[go_sem,h1,e1]
  generalize hb:cy+(U1.getD (j+i) 0+V.getD i 0)=b
  have hg2:∀t,t≠j+V.length→0≤(U1.set (j+i) (b % 65536)).getD t 0∧(U1.set (j+i) (b % 65536)).getD t 0<65536:=fun t ht=>by
   rw[je (by omega)]
   split
   ·omega
   ·exact hg1 t ht
  refine⟨by omega,by omega,by omega,by omega,by omega,by omega,qb (i+1,U1.set (j+i) (b % 65536),b/65536) [] ⟨by show i+1≤_;omega,by simp[hl1],hg2,by show 0≤b/65536∧b/65536≤1;omega,fun t ht=>?_,?_⟩
   (by show V.length-(i+1)<V.length-i;omega) rfl (by simp(disch:=omega)only[go_sem];try omega) (by simp(disch:=omega)only[go_sem])⟩
  ·show(U1.set (j+i) (b % 65536)).getD t 0=_
   have ht:t<j∨j+(i+1)≤t:=ht
   rw[je (by omega),if_neg (by omega)];exact hsame t (by omega)
  ·show vl (U1.set (j+i) (b % 65536))+65536^(j+(i+1))*(b/65536)=vl U+65536^j*vl (V.take (i+1))
   rw[QJ (by omega),qL,←Nat.add_assoc,Int.pow_succ]
   have e3:(65536:Int)^(j+i)=65536^j*65536^i:=Int.pow_add _ _ _
   have e4:b % 65536+65536*(b/65536)=b:=Int.emod_add_mul_ediv b 65536
   rw[e3]at hval ⊢
   generalize (65536:Int)^i=Pi at*
   generalize (65536:Int)^j=Pj at*
   grind
 ·have hiA:i=V.length:=by omega
  subst hiA
  rw[List.take_length]at hval
  have e1:((j:Int)+(V.length:Int)).toNat=j+V.length:=by omega
  have es:=hsame (j+V.length) (by omega)
  simp(disch:=omega)only[go_sem,h1,e1,es]
  refine⟨by omega,by omega,by omega,by omega,?_⟩
  refine qg [] [] [.own 1 (qc (U1.set (j+V.length) (U.getD (j+V.length) 0+cy)))] [] rfl (by simp(disch:=omega)only[go_sem]) (by simp(disch:=omega)only[go_sem]) (by simp) (by simp) ⟨_,rfl,rfl,rfl,by simp[hl1],fun t ht=>?_,fun t ht=>?_,?_⟩
  ·rw[je (by omega),if_neg ht];exact hg1 t ht
  ·rw[je (by omega),if_neg (by omega)];exact hsame t (by omega)
  ·rw[QJ (by omega),es]
   generalize (65536:Int)^(j+V.length)=Pj at*
   grind
end Go.Ab
namespace Go.Ab
open Go Go.Proofs
theorem jf(xs:List Int)(hl:xs.length≤2^40):Con Tryz.prog 254 false [.rf 10000000 0 xs.length] [.own 1 (qc xs)] (fun r hs bs=>r=.rf 10000000 0 (ZS xs).length∧hs=[]∧bs=[.own 1 (qc xs)]):=by
 refine Con.of_aw Tryz.func254 rfl Tryz.ntmps254 (by simp) (by simp) (by simp) (W.sound ?_)
 show @W Tryz.prog 21 ⟨_⟩ ⟨fun x σ=>@qY _ _ _ ⟨_⟩ _ ⟨_⟩ x σ⟩ _ _
 simp(disch:=omega)only[go_sem]
 refine qi (fun m:Nat=>[(0,.rf 10000000 0 m)]) (fun _=>[(10000000,.own 1 (qc xs))]) (fun m=>m≤xs.length∧ZS (xs.take m)=ZS xs) id xs.length ⟨Nat.le_refl _,by simp⟩
  (Le.lst [] _ _ rfl (by simp(disch:=omega)only[go_sem];try omega) (by simp(disch:=omega)only[go_sem])) ?_
 intro m ⟨hm,hx⟩
 have hmx:∀k,k+1=m→xs.take m=xs.take k++[xs.getD k 0]:=fun k hk=>by rw[←hk];exact jA (by omega)
 simp(disch:=omega)only[go_sem]
 refine qe (fun h1=>?_) (fun h1=>?_)
 ·obtain⟨k,rfl⟩:∃k,m=k+1:=⟨m-1,by omega⟩
  have e1:((k+1:Nat):Int)-1=(k:Nat):=by omega
  rw[hmx k rfl]at hx
  simp(disch:=omega)only[go_sem,h1,e1]
  refine⟨by omega,by omega,qe (fun h2=>?_) (fun h2=>?_)⟩
  ·simp(disch:=omega)only[go_sem,h2,e1]
   rw[h2,Qk]at hx
   refine⟨by omega,qb k [] ⟨by omega,hx⟩ (by show k<k+1;omega) rfl (by simp(disch:=omega)only[go_sem];try omega) (by simp(disch:=omega)only[go_sem])⟩
  ·simp(disch:=omega)only[go_sem,h2]
   refine qg [] [] [.own 1 (qc xs)] [.rf 10000000 0 (k+1)] rfl (by simp(disch:=omega)only[go_sem]) (by simp(disch:=omega)only[go_sem]) (by simp) (by simp) ⟨?_,rfl,rfl⟩
   rw[Yo _ h2,←hmx k rfl]at hx
   rw[←hx,List.length_take,Nat.min_eq_left hm];rfl
 ·simp(disch:=omega)only[go_sem,h1]
  refine qg [] [] [.own 1 (qc xs)] [.rf 10000000 0 m] rfl (by simp(disch:=omega)only[go_sem]) (by simp(disch:=omega)only[go_sem]) (by simp) (by simp) ⟨?_,rfl,rfl⟩
  have:m=0:=by omega
  subst this
  rw[←hx];rfl
end Go.Ab
namespace Go.Ab
open Go Go.Proofs
theorem aoD{x y:Int}(hx:0≤x∧x<65536)(hy:0≤y∧y<65536):0≤x*y∧x*y≤4294836225:=by
 have h1:=Int.mul_nonneg hx.1 hy.1
 have h2:x*y≤65535*65535:=Int.mul_le_mul (by omega) (by omega) hy.1 (by omega)
 omega
theorem apG(cl:Bool)(A B:List Int)(hA:gd A)(hB:gd B)(lA:A.length≤1000000)(lB:B.length≤1000000):
  Con Tryz.prog 201 cl [.sl A.length (qc A),.sl B.length (qc B)] [] (aq7 (lim (vl A*vl B).toNat)):=by
 refine Con.of_aw Tryz.func201 rfl Tryz.ntmps201 (by simp) (by simp) (by simp) (W.sound ?_)
 show @W Tryz.prog 63 ⟨_⟩ ⟨fun x σ=>@qY _ _ _ ⟨_⟩ _ ⟨_⟩ x σ⟩ _ _
 simp(disch:=omega)only[go_sem]
 refine⟨⟨by omega,by omega,by omega⟩,?_⟩
 refine qi (fun x:Nat×List Int=>[(1,.sl B.length (qc B)),(5,.rf 180000000 0 (A.length+B.length)),(17,.sl A.length (qc A)),(18,.v (.int .i64 A.length)),(19,.v (.int .i64 x.1))])
  (fun x=>[(180000000,.own 1 (qc x.2))])
  (fun x=>x.1≤A.length∧x.2.length=A.length+B.length∧gd x.2∧vl x.2=vl (A.take x.1)*vl B∧∀j,x.1+B.length≤j→x.2.getD j 0=0)
  (fun x=>A.length-x.1) (0,List.replicate (A.length+B.length) 0) ⟨by simp,by simp,zh _,by simp[zF,vl],fun j _=>by
   rw[List.getD_eq_getElem?_getD,List.getElem?_replicate];split<;>rfl⟩
  (Le.lst [] _ _ rfl (by simp(disch:=omega)only[go_sem];try omega) (by simp(disch:=omega)only[go_sem,show((A.length:Int)+(B.length:Int)).toNat=A.length+B.length by omega])) ?_
 rintro⟨i,out⟩ ⟨hi,hol,hog,hov,hoz⟩
 dsimp only at hi hol hog hov hoz ⊢
 simp(disch:=omega)only[go_sem]
 refine qe (fun h1=>?_) (fun h1=>?_)
 ·have hx:=qH hA i
  simp(disch:=omega)only[go_sem,h1]
  refine⟨by omega,by omega,?_⟩
  refine qi (fun x:Nat×List Int×Int=>[(1,.sl B.length (qc B)),(5,.rf 180000000 0 (A.length+B.length)),(17,.sl A.length (qc A)),(18,.v (.int .i64 A.length)),(19,.v (.int .i64 i)),(6,.v (.int .i64 i)),
    (7,.v (.int .i64 (A.getD i 0))),(8,.v (.int .i64 x.2.2)),(24,.sl B.length (qc B)),(25,.v (.int .i64 B.length)),(26,.v (.int .i64 x.1))])
   (fun x=>[(180000000,.own 1 (qc x.2.1))])
   (fun x=>x.1≤B.length∧x.2.1.length=A.length+B.length∧gd x.2.1∧(0≤x.2.2∧x.2.2<65536)∧vl x.2.1+65536^(i+x.1)*x.2.2=vl out+65536^i*(A.getD i 0*vl (B.take x.1))∧∀j,i+B.length≤j→x.2.1.getD j 0=0)
   (fun x=>B.length-x.1) (0,out,0) ⟨by simp,hol,hog,by simp,by simp[vl],hoz⟩
   (Le.lst [] _ _ rfl (by simp(disch:=omega)only[go_sem];try omega) (by simp(disch:=omega)only[go_sem])) ?_
  rintro⟨j,o2,cy⟩ ⟨hj,hol2,hog2,hcy,hov2,hoz2⟩
  dsimp only at hj hol2 hog2 hcy hov2 hoz2 ⊢
  simp(disch:=omega)only[go_sem]
  refine qe (fun h2=>?_) (fun h2=>?_)
  ·have hy:=qH hB j
   have ho:=qH hog2 (i+j)
   have hxy:=aoD hx hy
   have e1:((i:Int)+(j:Int)).toNat=i+j:=by omega
   simp(disch:=omega)only[go_sem,h2,e1]
   generalize hq:cy+(o2.getD (i+j) 0+A.getD i 0*B.getD j 0)=q
   refine⟨by omega,by omega,by omega,by omega,by omega,by omega,qb (j+1,o2.set (i+j) (q % 65536),q/65536) [] ⟨by show j+1≤_;omega,by simp[hol2],yE hog2 (by omega),by show 0≤q/65536∧q/65536<65536;omega,?_,fun k hk=>?_⟩
    (by show B.length-(j+1)<B.length-j;omega) rfl (by simp(disch:=omega)only[go_sem];try omega) (by simp(disch:=omega)only[go_sem])⟩
   ·show vl (o2.set (i+j) (q % 65536))+65536^(i+(j+1))*(q/65536)=vl out+65536^i*(A.getD i 0*vl (B.take (j+1)))
    rw[QJ (by omega),zW (by omega),←Nat.add_assoc,Int.pow_succ]
    have e2:(65536:Int)^(i+j)=65536^i*65536^j:=Int.pow_add _ _ _
    have e3:q % 65536+65536*(q/65536)=q:=Int.emod_add_mul_ediv q 65536
    rw[e2]at hov2 ⊢
    generalize (65536:Int)^i=Pi at*
    generalize (65536:Int)^j=Pj at*
    grind
   ·show(o2.set (i+j) (q % 65536)).getD k 0=0
    rw[List.getD_eq_getElem?_getD,List.getElem?_set_ne (by omega),←List.getD_eq_getElem?_getD]
    exact hoz2 k hk
  ·simp(disch:=omega)only[go_sem,h2]
   have e1:((i:Int)+(B.length:Int)).toNat=i+B.length:=by omega
   have hjB:j=B.length:=by omega
   subst hjB
   rw[List.take_length]at hov2
   simp(disch:=omega)only[go_sem,e1]
   refine⟨by omega,by omega,qb (i+1,o2.set (i+B.length) cy) [] ⟨by show i+1≤_;omega,by simp[hol2],yE hog2 hcy,?_,fun k hk=>?_⟩ (by show A.length-(i+1)<A.length-i;omega) rfl (by simp(disch:=omega)only[go_sem];try omega) (by simp(disch:=omega)only[go_sem])⟩
   ·show vl (o2.set (i+B.length) cy)=vl (A.take (i+1))*vl B
    rw[QJ (by omega),hoz2 _ (Nat.le_refl _),zW (by omega)]
    generalize (65536:Int)^i=Pi at*
    grind
   ·show(o2.set (i+B.length) cy).getD k 0=0
    rw[List.getD_eq_getElem?_getD,List.getElem?_set_ne (by show i+B.length≠k;omega),←List.getD_eq_getElem?_getD]
    exact hoz2 k (by omega)
 ·simp(disch:=omega)only[go_sem,h1]
  have hiA:i=A.length:=by omega
  subst hiA
  rw[List.take_length]at hov
  refine q6 false [180000000] (jf out (by omega)) (by rw[←hol];simp(disch:=omega)only[go_sem]) (by simp(disch:=omega)only[go_sem]) rfl (qQ (z:=1) (cs:=qc out) (by simp(disch:=omega)only[go_sem]) (by simp(disch:=omega)only[go_sem])) (by intro n hn;exact⟨_,List.mem_singleton.2 rfl,by rw[List.mem_singleton.1 hn];rfl⟩) ?_
  rintro r hs bs ⟨rfl,rfl,rfl⟩ _
  refine⟨by simp[qN],?_⟩
  simp(disch:=omega)only[go_sem]
  obtain⟨z,hz⟩:=zC out
  have hc:=zU hog
  rw[hov]at hc
  rw[hc]at hz ⊢
  refine qg [(0,180000000)] [.own 1 (qc out)] [] [.rf 0 0 (lim (vl A*vl B).toNat).length] rfl (by simp(disch:=omega)only[go_sem]) (by simp(disch:=omega)only[go_sem]) (by simp) (by intro _;simp[zd,AV.pu,AV.pu.puL,Ob.pu,qU]) (.inr ⟨List.replicate z 0,rfl,by rw[←hz]⟩)
end Go.Ab
namespace Go.Ab
open Go Go.Proofs
theorem apK(cl:Bool)(n:Nat)(hn:n<2^63):Con Tryz.prog 216 cl [.v (.int .i64 n)] [] (aq7 (lim n)):=by
 refine Con.of_aw Tryz.func216 rfl Tryz.ntmps216 (by simp) (by simp) (by simp) (W.sound ?_)
 show @W Tryz.prog 14 ⟨_⟩ ⟨fun x σ=>@qY _ _ _ ⟨_⟩ _ ⟨_⟩ x σ⟩ _ _
 simp(disch:=omega)only[go_sem]
 refine qi (fun x:Nat×List Int=>[(0,.v (.int .i64 x.1)),(3,.rf 1 0 x.2.length)]) (fun x=>[(1,.own 1 (qc x.2))]) (fun x=>x.1<2^63∧x.2++lim x.1=lim n) (fun x=>x.1) (n,[]) ⟨hn,rfl⟩
  ((Le.ghost 3 1 1 (by simp(disch:=omega)only[go_sem]) (by simp(disch:=omega)only[go_sem])).trans (Le.lst [] _ _ rfl (by simp(disch:=omega)only[go_sem]) (by simp(disch:=omega)only[go_sem]))) ?_
 rintro⟨k,l⟩ ⟨hk,hl⟩
 dsimp only at hk hl ⊢
 have hlen:l.length≤4:=by
  have h1:=congrArg List.length hl
  have h2:=jv (n:=n) (k:=4) |>.2 (by omega)
  rw[List.length_append]at h1;omega
 simp(disch:=omega)only[go_sem]
 refine qe (fun h1=>?_) (fun h1=>?_)
 ·simp(disch:=omega)only[go_sem,h1]
  have hk0:k≠0:=by omega
  refine⟨by omega,qb (k/65536,l++[(k:Int) % 65536]) [(1,140000000)] ⟨by show k/65536<2^63;omega,?_⟩ (by show k/65536<k;omega) rfl (by simp(disch:=omega)only[go_sem,List.length_append];omega) (by simp(disch:=omega)only[go_sem])⟩
  rw[jS hk0]at hl
  rw[←hl,List.append_assoc];rfl
 ·simp(disch:=omega)only[go_sem,h1]
  have hk0:k=0:=by omega
  subst hk0
  rw[qm,List.append_nil]at hl
  subst hl
  refine qg [(0,1)] [.own 1 (qc (lim n++[]))] [] [.rf 0 0 (lim n).length] rfl (by simp(disch:=omega)only[go_sem]) (by simp(disch:=omega)only[go_sem]) (by simp) (by intro _;simp[zd,AV.pu,AV.pu.puL,Ob.pu,qU]) (.inr ⟨[],rfl,rfl⟩)
end Go.Ab
namespace Go.Ab
open Go Go.Proofs
theorem j9(k:Nat)(h:k<16):(0:Int)<2^k∧(2:Int)^k≤32768:=by
 have:∀k,k<16→(0:Int)<2^k∧(2:Int)^k≤32768:=by decide
 exact this k h
theorem aoC{x:Int}(hx:0≤x∧x<65536){k:Nat}(hk:k<16):0≤x*2^k∧x*2^k≤2147450880:=by
 obtain⟨h1,h2⟩:=j9 k hk
 have h3:=Int.mul_nonneg hx.1 (Int.le_of_lt h1)
 have h4:x*2^k≤65535*32768:=Int.mul_le_mul (by omega) h2 (by omega) (by omega)
 omega
theorem Ki(k:Nat):(65536:Int)^(k/16)*2^(k % 16)=2^k:=by
 have e:(65536:Int)=2^16:=by decide
 rw[e,←Int.pow_mul,←Int.pow_add,Nat.div_add_mod]
theorem aSL(cl:Bool)(A:List Int)(k:Nat)(hA:gd A)(lA:A.length≤1000000)(hk:k≤100000000):
  Con Tryz.prog 244 cl [.sl A.length (qc A),.v (.int .i64 k)] [] (aq7 (lim (vl A*2^k).toNat)):=by
 refine Con.of_aw Tryz.func244 rfl Tryz.ntmps244 (by simp) (by simp) (by simp) (W.sound ?_)
 show @W Tryz.prog 46 ⟨_⟩ ⟨fun x σ=>@qY _ _ _ ⟨_⟩ _ ⟨_⟩ x σ⟩ _ _
 simp(disch:=omega)only[go_sem]
 refine qe (fun h0=>?_) (fun h0=>?_)
 ·simp(disch:=omega)only[go_sem,h0]
  have:A=[]:=List.length_eq_zero_iff.1 (by omega)
  subst this
  refine qg [] [] [] [.v (.slice none 0 0)] rfl (by simp(disch:=omega)only[go_sem]) (by simp(disch:=omega)only[go_sem]) (by simp) (by intro _;simp[zd,AV.pu,AV.pu.puL,Ob.pu,qU]) (.inl ⟨by simp[vl,qm],rfl,rfl⟩)
 ·simp(disch:=omega)only[go_sem,h0]
  refine⟨by omega,?_⟩
  have e16:((k:Int)/16).toNat=k/16:=by omega
  refine qi (fun x:Nat×List Int×Int=>[(1,.v (.int .i64 k)),(5,.rf 1 0 x.2.1.length),(6,.v (.int .i64 x.2.2)),(21,.sl A.length (qc A)),(22,.v (.int .i64 A.length)),(23,.v (.int .i64 x.1))])
   (fun x=>[(1,.own 1 (qc x.2.1))])
   (fun x=>x.1≤A.length∧x.2.1.length=k/16+x.1∧gd x.2.1∧(0≤x.2.2∧x.2.2<65536)∧vl x.2.1+65536^(k/16+x.1)*x.2.2=65536^(k/16)*2^(k % 16)*vl (A.take x.1))
   (fun x=>A.length-x.1) (0,List.replicate (k/16) 0,0) ⟨by simp,by simp,zh _,by simp,by simp[vl,zF]⟩
   (Le.lst [(1,220000000)] _ _ rfl (by simp(disch:=omega)only[go_sem,List.length_replicate,e16]) (by simp(disch:=omega)only[go_sem,e16])) ?_
  rintro⟨i,out,cy⟩ ⟨hi,hol,hog,hcy,hov⟩
  dsimp only at hi hol hog hcy hov ⊢
  simp(disch:=omega)only[go_sem]
  refine qe (fun h1=>?_) (fun h1=>?_)
  ·have hx:=qH hA i
   have hxs:=aoC hx (show k % 16<16 by omega)
   have em:min ((k:Int) % 16).toNat 64=k % 16:=by omega
   simp(disch:=omega)only[go_sem,h1,em]
   generalize hq:cy+A.getD i 0*2^(k % 16)=q
   refine⟨by omega,by omega,by omega,by omega,qb (i+1,out++[q % 65536],q/65536) [(1,390000000)] ⟨by show i+1≤_;omega,by simp[hol];omega,qD.2 ⟨hog,zI.2 (by omega)⟩,by show 0≤q/65536∧q/65536<65536;omega,?_⟩ (by show A.length-(i+1)<A.length-i;omega) rfl (by simp(disch:=omega)only[go_sem,List.length_append];try omega) (by simp(disch:=omega)only[go_sem])⟩
   show vl (out++[q % 65536])+65536^(k/16+(i+1))*(q/65536)=65536^(k/16)*2^(k % 16)*vl (A.take (i+1))
   rw[ji,qL,hol,←Nat.add_assoc,Int.pow_succ]
   have e3:q % 65536+65536*(q/65536)=q:=Int.emod_add_mul_ediv q 65536
   rw[Int.pow_add]at hov ⊢
   generalize (65536:Int)^i=Pi at*
   generalize (65536:Int)^(k/16)=Pk at*
   generalize (2:Int)^(k % 16)=Pm at*
   grind
  ·simp(disch:=omega)only[go_sem,h1]
   have hiA:i=A.length:=by omega
   subst hiA
   rw[List.take_length,Ki]at hov
   have hov2:vl (out++[cy])=vl A*2^k:=by rw[ji,hol,hov];grind
   have hog2:gd (out++[cy]):=qD.2 ⟨hog,zI.2 hcy⟩
   refine⟨by omega,?_⟩
   have hl2:out.length+1=(out++[cy]).length:=by simp
   rw[hl2]
   refine q6 false [460000000] (jf (out++[cy]) (by simp;omega)) (by simp(disch:=omega)only[go_sem]) (by simp(disch:=omega)only[go_sem]) rfl (qQ (z:=1) (cs:=qc (out++[cy])) (by simp(disch:=omega)only[go_sem]) (by simp(disch:=omega)only[go_sem])) (by intro n hn;exact⟨_,List.mem_singleton.2 rfl,by rw[List.mem_singleton.1 hn];rfl⟩) ?_
   rintro r hs bs ⟨rfl,rfl,rfl⟩ _
   refine⟨by simp[qN],?_⟩
   simp(disch:=omega)only[go_sem]
   obtain⟨z,hz⟩:=zC (out++[cy])
   have hc:=zU hog2
   rw[hov2]at hc
   rw[hc]at hz ⊢
   refine qg [(0,460000000)] [.own 1 (qc (out++[cy]))] [] [.rf 0 0 (lim (vl A*2^k).toNat).length] rfl (by simp(disch:=omega)only[go_sem]) (by simp(disch:=omega)only[go_sem]) (by simp) (by intro _;simp[zd,AV.pu,AV.pu.puL,Ob.pu,qU]) (.inr ⟨List.replicate z 0,rfl,by rw[←hz]⟩)
end Go.Ab
namespace Go.Ab
open Go Go.Proofs
theorem aBk(V P:Int)(hP:0<P):V % (P*65536)=V % P+P*(V/P % 65536):=by
 rw[Int.emod_def,Int.emod_def,Int.emod_def,←Int.ediv_ediv_of_nonneg (Int.le_of_lt hP)]
 grind
theorem aAM{s:Nat}(hs:s<16):(65536:Int)=2^s*2^(16-s):=by
 rw[←Int.pow_add,show s+(16-s)=16 by omega];decide
theorem ai3{D:List Int}(hD:gd D){i s:Nat}(hi:i<D.length)(hs:s<16):
  (vl D/2^s)/65536^i % 65536=(D.getD i 0+D.getD (i+1) 0*65536)/2^s % 65536:=by
 have h2:=(j9 s hs).1
 rw[Int.ediv_ediv_of_nonneg (Int.le_of_lt h2),Int.mul_comm,←Int.ediv_ediv_of_nonneg (Int.le_of_lt (Int.pow_pos (by omega))),ad5 hD (by omega),zv hi]
 have h3:vl (D.drop (i+1))=D.getD (i+1) 0+65536*vl (D.drop (i+2)):=by
  rcases Nat.lt_or_ge (i+1) D.length with h|h
  ·exact zv h
  ·rw[List.drop_of_length_le h,List.drop_of_length_le (by omega),List.getD_eq_getElem?_getD,List.getElem?_eq_none h];simp[vl]
 rw[h3]
 have e:D.getD i 0+65536*(D.getD (i+1) 0+65536*vl (D.drop (i+2)))=(D.getD i 0+D.getD (i+1) 0*65536)+2^s*(65536*(2^(16-s)*vl (D.drop (i+2)))):=by
  have:=aAM hs
  generalize (2:Int)^s=a at*
  generalize (2:Int)^(16-s)=b at*
  grind
 rw[e,Int.add_mul_ediv_left _ _ (by omega),Int.add_mul_emod_self_left]
theorem aom{a b:Nat}(h:a≤b):(65536:Int)^a≤65536^b:=by
 obtain⟨d,rfl⟩:=Nat.exists_eq_add_of_le h
 have h1:(0:Int)<65536^a:=Int.pow_pos (by omega)
 have h2:(0:Int)<65536^d:=Int.pow_pos (by omega)
 have h3:=Int.mul_le_mul_of_nonneg_left (show(1:Int)≤65536^d by omega) (Int.le_of_lt h1)
 rw[Int.mul_one,←Int.pow_add]at h3
 exact h3
theorem aCH(cl:Bool)(A:List Int)(k:Nat)(hA:gd A)(lA:A.length≤1000000)(hk:k≤100000000):
  Con Tryz.prog 235 cl [.sl A.length (qc A),.v (.int .i64 k)] [] (aq7 (lim (vl A/2^k).toNat)):=by
 refine Con.of_aw Tryz.func235 rfl Tryz.ntmps235 (by simp) (by simp) (by simp) (W.sound ?_)
 show @W Tryz.prog 52 ⟨_⟩ ⟨fun x σ=>@qY _ _ _ ⟨_⟩ _ ⟨_⟩ x σ⟩ _ _
 have hvk:vl A/2^k=vl A/65536^(k/16)/2^(k % 16):=by
  rw[Int.ediv_ediv_of_nonneg (Int.le_of_lt (Int.pow_pos (by omega))),Ki]
 simp(disch:=omega)only[go_sem]
 refine qe (fun h0=>?_) (fun h0=>?_)
 ·simp(disch:=omega)only[go_sem,h0]
  have hz:vl A/2^k=0:=by
   rw[hvk,Int.ediv_eq_zero_of_lt (qP hA)]
   ·simp
   ·refine Int.lt_of_lt_of_le (Qp hA) ?_
    exact aom (by omega)
  rw[hz]
  refine qg [] [] [] [.v (.slice none 0 0)] rfl (by simp(disch:=omega)only[go_sem]) (by simp(disch:=omega)only[go_sem]) (by simp) (by intro _;simp[zd,AV.pu,AV.pu.puL,Ob.pu,qU]) (.inl ⟨by simp[qm],rfl,rfl⟩)
 ·have e16:((k:Int)/16).toNat=k/16:=by omega
  have e17:((A.length:Int)-(k:Int)/16).toNat=(A.drop (k/16)).length:=by simp;omega
  have e18:(A.drop (k/16)).take (A.drop (k/16)).length=A.drop (k/16):=List.take_length
  have hvD:=ad5 hA (i:=k/16) (by omega)
  have hlD:(A.drop (k/16)).length≤1000000:=by simp;omega
  have hD:=ye hA (k/16)
  simp(disch:=omega)only[go_sem,h0,e16,e17,e18]
  generalize A.drop (k/16)=D at*
  refine⟨by omega,by omega,?_⟩
  refine qi (fun x:Nat×List Int=>[(1,.v (.int .i64 k)),(5,.sl D.length (qc D)),(6,.rf 1 0 x.2.length),(21,.sl D.length (qc D)),(22,.v (.int .i64 D.length)),(23,.v (.int .i64 x.1))])
   (fun x=>[(1,.own 1 (qc x.2))])
   (fun x=>x.1≤D.length∧x.2.length=x.1∧gd x.2∧vl x.2=vl D/2^(k % 16) % 65536^x.1)
   (fun x=>D.length-x.1) (0,[]) ⟨by simp,rfl,ZM,by simp[vl]⟩
   (Le.lst [(1,220000000)] _ _ rfl (by simp(disch:=omega)only[go_sem]) (by simp(disch:=omega)only[go_sem])) ?_
  rintro⟨i,out⟩ ⟨hi,hol,hog,hov⟩
  dsimp only at hi hol hog hov ⊢
  simp(disch:=omega)only[go_sem]
  refine qe (fun h1=>?_) (fun h1=>?_)
  ·have hx:=qH hD i
   have hy:=qH hD (i+1)
   have em:min ((k:Int) % 16).toNat 64=k % 16:=by omega
   have hm:=j9 (k % 16) (by omega)
   have efd:∀x:Int,x.fdiv (2^(k % 16))=x/2^(k % 16):=fun x=>Int.fdiv_eq_ediv_of_nonneg _ (Int.le_of_lt hm.1)
   have hdig:=ai3 hD (i:=i) (s:=k % 16) (by omega) (by omega)
   have hnn:∀x:Int,0≤x→0≤x/2^(k % 16):=fun x hx=>Int.ediv_nonneg hx (Int.le_of_lt hm.1)
   have ei:((i:Int)+1).toNat=i+1:=by omega
   have hstep:∀z:Int,z=(D.getD i 0+D.getD (i+1) 0*65536)/2^(k % 16) % 65536→vl (out++[z])=vl D/2^(k % 16) % 65536^(i+1):=by
    intro z hz
    rw[ji,hov,hol,Int.pow_succ,aBk _ _ (Int.pow_pos (by omega)),hdig,hz]
   simp(disch:=omega)only[go_sem,h1]
   refine⟨by omega,by omega,qe (fun h2=>?_) (fun h2=>?_)⟩
   ·have hn1:=hnn (D.getD i 0+D.getD (i+1) 0*65536) (by omega)
    simp(disch:=omega)only[go_sem,h2,em,efd,ei]
    refine⟨by omega,by omega,by omega,by omega,qb (i+1,out++[(D.getD i 0+D.getD (i+1) 0*65536)/2^(k % 16) % 65536]) [(1,500000000)] ⟨by show i+1≤_;omega,by simp[hol],qD.2 ⟨hog,zI.2 (by omega)⟩,hstep _ rfl⟩ (by show D.length-(i+1)<D.length-i;omega) rfl (by simp(disch:=omega)only[go_sem,List.length_append];try omega) (by simp(disch:=omega)only[go_sem])⟩
   ·have hn1:=hnn (D.getD i 0) (by omega)
    simp(disch:=omega)only[go_sem,h2,em,efd]
    have hy0:D.getD (i+1) 0=0:=by rw[List.getD_eq_getElem?_getD,List.getElem?_eq_none (by omega)];rfl
    refine⟨by omega,by omega,qb (i+1,out++[D.getD i 0/2^(k % 16) % 65536]) [(1,500000000)] ⟨by show i+1≤_;omega,by simp[hol],qD.2 ⟨hog,zI.2 (by omega)⟩,hstep _ (by rw[hy0];simp)⟩ (by show D.length-(i+1)<D.length-i;omega) rfl (by simp(disch:=omega)only[go_sem,List.length_append];try omega) (by simp(disch:=omega)only[go_sem])⟩
  ·simp(disch:=omega)only[go_sem,h1]
   have hiD:i=D.length:=by omega
   subst hiD
   have hV:vl out=vl A/2^k:=by
    rw[hov,hvk,hvD]
    refine Int.emod_eq_of_lt (Int.ediv_nonneg (qP hD) (Int.le_of_lt (j9 (k % 16) (by omega)).1)) ?_
    exact Int.lt_of_le_of_lt (Int.ediv_le_self _ (qP hD)) (Qp hD)
   refine q6 false [1] (jf out (by omega)) (by simp(disch:=omega)only[go_sem]) (by simp(disch:=omega)only[go_sem]) rfl (qQ (z:=1) (cs:=qc out) (by simp(disch:=omega)only[go_sem]) (by simp(disch:=omega)only[go_sem])) (by intro n hn;exact⟨_,List.mem_singleton.2 rfl,by rw[List.mem_singleton.1 hn];rfl⟩) ?_
   rintro r hs bs ⟨rfl,rfl,rfl⟩ _
   refine⟨by simp[qN],?_⟩
   simp(disch:=omega)only[go_sem]
   obtain⟨z,hz⟩:=zC out
   have hc:=zU hog
   rw[hV]at hc
   rw[hc]at hz ⊢
   refine qg [(0,1)] [.own 1 (qc out)] [] [.rf 0 0 (lim (vl A/2^k).toNat).length] rfl (by simp(disch:=omega)only[go_sem]) (by simp(disch:=omega)only[go_sem]) (by simp) (by intro _;simp[zd,AV.pu,AV.pu.puL,Ob.pu,qU]) (.inr ⟨List.replicate z 0,rfl,by rw[←hz]⟩)
end Go.Ab
namespace Go.Ab
open Go Go.Proofs
theorem drop_set{l:List Int}{i:Nat}(h:i<l.length)(z:Int):(l.set i z).drop i=z::l.drop (i+1):=by
 rw[List.drop_eq_getElem_cons (by simpa using h)]
 simp[List.drop_set]
theorem aCI(cl:Bool)(A:List Int)(d:Nat)(hA:gd A)(lA:A.length≤1000000)(hd:0<d)(hd2:d<65536):
  Con Tryz.prog 288 cl [.sl A.length (qc A),.v (.int .i64 d)] [] (fun r hs bs=>∃zs,r=.tu [.rf 0 0 (lim (vl A/d).toNat).length,.v (.int .i64 (vl A % d))]∧hs=[.own 1 (qc (lim (vl A/d).toNat++zs))]):=by
 refine Con.of_aw Tryz.func288 rfl Tryz.ntmps288 (by simp) (by simp) (by simp) (W.sound ?_)
 show @W Tryz.prog 38 ⟨_⟩ ⟨fun x σ=>@qY _ _ _ ⟨_⟩ _ ⟨_⟩ x σ⟩ _ _
 simp(disch:=omega)only[go_sem]
 refine⟨by omega,?_⟩
 refine qi (fun x:Nat×List Int×Int=>[(0,.sl A.length (qc A)),(1,.v (.int .i64 d)),(6,.rf 130000000 0 A.length),(7,.v (.int .i64 x.2.2)),(8,.v (.int .i64 ((x.1:Int)-1)))])
  (fun x=>[(130000000,.own 1 (qc x.2.1))])
  (fun x=>x.1≤A.length∧x.2.1.length=A.length∧gd x.2.1∧x.2.2=vl (A.drop x.1) % d∧vl (x.2.1.drop x.1)=vl (A.drop x.1)/d)
  (fun x=>x.1) (A.length,List.replicate A.length 0,0) ⟨by simp,by simp,zh _,by simp[vl],by simp[vl]⟩
  (Le.lst [] _ _ rfl (by simp(disch:=omega)only[go_sem];try omega) (by simp(disch:=omega)only[go_sem])) ?_
 rintro⟨m,out,rest⟩ ⟨hm,hol,hog,hr,hov⟩
 dsimp only at hm hol hog hr hov ⊢
 simp(disch:=omega)only[go_sem]
 refine qe (fun h1=>?_) (fun h1=>?_)
 ·obtain⟨i,rfl⟩:∃i,m=i+1:=⟨m-1,by omega⟩
  have e1:((i+1:Nat):Int)-1=(i:Nat):=by omega
  have hx:=qH hA i
  have hr2:0≤rest∧rest<d:=by rw[hr];exact⟨Int.emod_nonneg _ (by omega),Int.emod_lt_of_pos _ (by omega)⟩
  generalize hq:rest*65536+A.getD i 0=q
  have hq0:0≤q:=by omega
  have hqd:0≤q/d∧q/d<65536:=⟨Int.ediv_nonneg hq0 (by omega),Int.ediv_lt_of_lt_mul (by omega) (by omega)⟩
  have hqm:0≤q % d∧q % d<d:=⟨Int.emod_nonneg _ (by omega),Int.emod_lt_of_pos _ (by omega)⟩
  simp(disch:=omega)only[go_sem,h1,e1,hq]
  refine⟨by omega,by omega,by omega,by omega,by omega,by omega,qb (i,out.set i (q/d),q % d) [] ⟨by show i≤_;omega,by simp[hol],yE hog hqd,?_,?_⟩ (by show i<i+1;omega) rfl (by simp(disch:=omega)only[go_sem]) (by simp(disch:=omega)only[go_sem])⟩
  ·show q % d=vl (A.drop i) % d
   rw[zv (l:=A) (i:=i) (by omega),←hq,hr]
   have h3:=Int.emod_add_mul_ediv (vl (A.drop (i+1))) d
   rw[show A.getD i 0+65536*vl (A.drop (i+1))=vl (A.drop (i+1)) % d*65536+A.getD i 0+d*(65536*(vl (A.drop (i+1))/d)) by grind,Int.add_mul_emod_self_left]
  ·show vl ((out.set i (q/d)).drop i)=vl (A.drop i)/d
   rw[drop_set (by omega),vl,hov,zv (l:=A) (i:=i) (by omega),←hq,hr]
   have h3:=Int.emod_add_mul_ediv (vl (A.drop (i+1))) d
   rw[show A.getD i 0+65536*vl (A.drop (i+1))=vl (A.drop (i+1)) % d*65536+A.getD i 0+d*(65536*(vl (A.drop (i+1))/d)) by grind,Int.add_mul_ediv_left _ _ (by omega)]
 ·simp(disch:=omega)only[go_sem,h1]
  have:m=0:=by omega
  subst this
  rw[List.drop_zero,List.drop_zero]at hov
  rw[List.drop_zero]at hr
  rw[←hol]
  refine q6 false [130000000] (jf out (by omega)) (by simp(disch:=omega)only[go_sem]) (by simp(disch:=omega)only[go_sem]) rfl (qQ (z:=1) (cs:=qc out) (by simp(disch:=omega)only[go_sem]) (by simp(disch:=omega)only[go_sem])) (by intro n hn;exact⟨_,List.mem_singleton.2 rfl,by rw[List.mem_singleton.1 hn];rfl⟩) ?_
  rintro r hs bs ⟨rfl,rfl,rfl⟩ _
  refine⟨by simp[qN],?_⟩
  simp(disch:=omega)only[go_sem]
  obtain⟨z,hz⟩:=zC out
  have hc:=zU hog
  rw[hov]at hc
  rw[hc]at hz ⊢
  rw[hr]
  refine qg [(0,130000000)] [.own 1 (qc out)] [] [.rf 0 0 (lim (vl A/d).toNat).length,.v (.int .i64 (vl A % d))] rfl (by simp(disch:=omega)only[go_sem]) (by simp(disch:=omega)only[go_sem]) (by simp) (by intro _;simp[zd,AV.pu,AV.pu.puL,Ob.pu,qU]) ⟨List.replicate z 0,rfl,by rw[←hz]⟩
end Go.Ab
namespace Go.Ab
open Go Go.Proofs
theorem aCx(cl:Bool)(A B:List Int)(hA:gd A)(hB:gd B)(lA:A.length≤2000000)(lB:B.length≤2000000):
  Con Tryz.prog 249 cl [.sl A.length (qc A),.sl B.length (qc B)] [] (aq7 (lim (vl A+vl B).toNat)):=by
 refine Con.of_aw Tryz.func249 rfl Tryz.ntmps249 (by simp) (by simp) (by simp) (W.sound ?_)
 show @W Tryz.prog 53 ⟨_⟩ ⟨fun x σ=>@qY _ _ _ ⟨_⟩ _ ⟨_⟩ x σ⟩ _ _
 simp(disch:=omega)only[go_sem]
 refine qe (fun h0=>?_) (fun h0=>?_)
 all_goals simp(disch:=omega)only[go_sem,h0]
 ·revert A B
  intro Y X hY hX lY lX h0'
  have h00:Y.length≤X.length:=by omega
  have hcm:vl Y+vl X=vl X+vl Y:=Int.add_comm _ _
  refine⟨by omega,?_⟩
  refine qi (fun x:Nat×List Int×Int=>[(1,.sl Y.length (qc Y)),(5,.rf 1 0 x.2.1.length),(6,.v (.int .i64 x.2.2)),(20,.sl X.length (qc X)),(21,.v (.int .i64 X.length)),(22,.v (.int .i64 x.1))])
   (fun x=>[(1,.own 1 (qc x.2.1))])
   (fun x=>x.1≤X.length∧x.2.1.length=x.1∧gd x.2.1∧(0≤x.2.2∧x.2.2≤1)∧vl x.2.1+65536^x.1*x.2.2=vl (X.take x.1)+vl (Y.take x.1))
   (fun x=>X.length-x.1) (0,[],0) ⟨by simp,rfl,ZM,by simp,by simp[vl]⟩
   (Le.lst [(1,210000000)] _ _ rfl (by simp(disch:=omega)only[go_sem]) (by simp(disch:=omega)only[go_sem])) ?_
  rintro⟨i,out,cy⟩ ⟨hi,hol,hog,hcy,hov⟩
  dsimp only at hi hol hog hcy hov ⊢
  simp(disch:=omega)only[go_sem]
  refine qe (fun h1=>?_) (fun h1=>?_)
  ·have hx:=qH hX i
   have hy:=qH hY i
   have hstep:∀q:Int,q=cy+X.getD i 0+Y.getD i 0→vl (out++[q % 65536])+65536^(i+1)*(q/65536)=vl (X.take (i+1))+vl (Y.take (i+1)):=by
    intro q hq
    rw[ji,qL,qL,hol,Int.pow_succ]
    have e3:q % 65536+65536*(q/65536)=q:=Int.emod_add_mul_ediv q 65536
    generalize (65536:Int)^i=Pi at*
    grind
   have hyz:¬i<Y.length→Y.getD i 0=0:=fun h=>by rw[List.getD_eq_getElem?_getD,List.getElem?_eq_none (by omega)];rfl
   simp(disch:=omega)only[go_sem,h1]
   refine⟨by omega,by omega,qe (fun h2=>?_) (fun h2=>?_)⟩
   ·simp(disch:=omega)only[go_sem,h2]
    generalize hq:cy+X.getD i 0+Y.getD i 0=q
    refine⟨by omega,by omega,by omega,qb (i+1,out++[q % 65536],q/65536) [(1,460000000)] ⟨by show i+1≤_;omega,by simp[hol],qD.2 ⟨hog,zI.2 (by omega)⟩,by show 0≤q/65536∧q/65536≤1;omega,hstep q hq.symm⟩ (by show X.length-(i+1)<X.length-i;omega) rfl (by simp(disch:=omega)only[go_sem,List.length_append];try omega) (by simp(disch:=omega)only[go_sem])⟩
   ·simp(disch:=omega)only[go_sem,h2]
    have hy0:=hyz (by omega)
    generalize hq:cy+X.getD i 0=q
    refine⟨by omega,qb (i+1,out++[q % 65536],q/65536) [(1,460000000)] ⟨by show i+1≤_;omega,by simp[hol],qD.2 ⟨hog,zI.2 (by omega)⟩,by show 0≤q/65536∧q/65536≤1;omega,hstep q (by omega)⟩ (by show X.length-(i+1)<X.length-i;omega) rfl (by simp(disch:=omega)only[go_sem,List.length_append];try omega) (by simp(disch:=omega)only[go_sem])⟩
  ·simp(disch:=omega)only[go_sem,h1]
   have hiA:i=X.length:=by omega
   subst hiA
   rw[List.take_length,List.take_of_length_le h00]at hov
   have hov2:vl (out++[cy])=vl X+vl Y:=by rw[ji,hol];exact hov
   have hog2:gd (out++[cy]):=qD.2 ⟨hog,zI.2 (by omega)⟩
   refine⟨by omega,?_⟩
   have hl2:out.length+1=(out++[cy]).length:=by simp
   rw[hl2]
   refine q6 false [530000000] (jf (out++[cy]) (by simp;omega)) (by simp(disch:=omega)only[go_sem]) (by simp(disch:=omega)only[go_sem]) rfl (qQ (z:=1) (cs:=qc (out++[cy])) (by simp(disch:=omega)only[go_sem]) (by simp(disch:=omega)only[go_sem])) (by intro n hn;exact⟨_,List.mem_singleton.2 rfl,by rw[List.mem_singleton.1 hn];rfl⟩) ?_
   rintro r hs bs ⟨rfl,rfl,rfl⟩ _
   refine⟨by simp[qN],?_⟩
   simp(disch:=omega)only[go_sem]
   obtain⟨z,hz⟩:=zC (out++[cy])
   have hc:=zU hog2
   rw[hov2]at hc
   rw[hc]at hz ⊢
   refine qg [(0,530000000)] [.own 1 (qc (out++[cy]))] [] [.rf 0 0 (lim (vl X+vl Y).toNat).length] rfl (by simp(disch:=omega)only[go_sem]) (by simp(disch:=omega)only[go_sem]) (by simp) (by intro _;simp[zd,AV.pu,AV.pu.puL,Ob.pu,qU]) (.inr ⟨List.replicate z 0,by rw[hcm];rfl,by rw[hcm,←hz]⟩)
 ·revert A B
  intro X Y hX hY lX lY h0'
  have h00:Y.length≤X.length:=by omega
  have hcm:vl X+vl Y=vl X+vl Y:=rfl
  refine⟨by omega,?_⟩
  refine qi (fun x:Nat×List Int×Int=>[(1,.sl Y.length (qc Y)),(5,.rf 1 0 x.2.1.length),(6,.v (.int .i64 x.2.2)),(20,.sl X.length (qc X)),(21,.v (.int .i64 X.length)),(22,.v (.int .i64 x.1))])
   (fun x=>[(1,.own 1 (qc x.2.1))])
   (fun x=>x.1≤X.length∧x.2.1.length=x.1∧gd x.2.1∧(0≤x.2.2∧x.2.2≤1)∧vl x.2.1+65536^x.1*x.2.2=vl (X.take x.1)+vl (Y.take x.1))
   (fun x=>X.length-x.1) (0,[],0) ⟨by simp,rfl,ZM,by simp,by simp[vl]⟩
   (Le.lst [(1,210000000)] _ _ rfl (by simp(disch:=omega)only[go_sem]) (by simp(disch:=omega)only[go_sem])) ?_
  rintro⟨i,out,cy⟩ ⟨hi,hol,hog,hcy,hov⟩
  dsimp only at hi hol hog hcy hov ⊢
  simp(disch:=omega)only[go_sem]
  refine qe (fun h1=>?_) (fun h1=>?_)
  ·have hx:=qH hX i
   have hy:=qH hY i
   have hstep:∀q:Int,q=cy+X.getD i 0+Y.getD i 0→vl (out++[q % 65536])+65536^(i+1)*(q/65536)=vl (X.take (i+1))+vl (Y.take (i+1)):=by
    intro q hq
    rw[ji,qL,qL,hol,Int.pow_succ]
    have e3:q % 65536+65536*(q/65536)=q:=Int.emod_add_mul_ediv q 65536
    generalize (65536:Int)^i=Pi at*
    grind
   have hyz:¬i<Y.length→Y.getD i 0=0:=fun h=>by rw[List.getD_eq_getElem?_getD,List.getElem?_eq_none (by omega)];rfl
   simp(disch:=omega)only[go_sem,h1]
   refine⟨by omega,by omega,qe (fun h2=>?_) (fun h2=>?_)⟩
   ·simp(disch:=omega)only[go_sem,h2]
    generalize hq:cy+X.getD i 0+Y.getD i 0=q
    refine⟨by omega,by omega,by omega,qb (i+1,out++[q % 65536],q/65536) [(1,460000000)] ⟨by show i+1≤_;omega,by simp[hol],qD.2 ⟨hog,zI.2 (by omega)⟩,by show 0≤q/65536∧q/65536≤1;omega,hstep q hq.symm⟩ (by show X.length-(i+1)<X.length-i;omega) rfl (by simp(disch:=omega)only[go_sem,List.length_append];try omega) (by simp(disch:=omega)only[go_sem])⟩
   ·simp(disch:=omega)only[go_sem,h2]
    have hy0:=hyz (by omega)
    generalize hq:cy+X.getD i 0=q
    refine⟨by omega,qb (i+1,out++[q % 65536],q/65536) [(1,460000000)] ⟨by show i+1≤_;omega,by simp[hol],qD.2 ⟨hog,zI.2 (by omega)⟩,by show 0≤q/65536∧q/65536≤1;omega,hstep q (by omega)⟩ (by show X.length-(i+1)<X.length-i;omega) rfl (by simp(disch:=omega)only[go_sem,List.length_append];try omega) (by simp(disch:=omega)only[go_sem])⟩
  ·simp(disch:=omega)only[go_sem,h1]
   have hiA:i=X.length:=by omega
   subst hiA
   rw[List.take_length,List.take_of_length_le h00]at hov
   have hov2:vl (out++[cy])=vl X+vl Y:=by rw[ji,hol];exact hov
   have hog2:gd (out++[cy]):=qD.2 ⟨hog,zI.2 (by omega)⟩
   refine⟨by omega,?_⟩
   have hl2:out.length+1=(out++[cy]).length:=by simp
   rw[hl2]
   refine q6 false [530000000] (jf (out++[cy]) (by simp;omega)) (by simp(disch:=omega)only[go_sem]) (by simp(disch:=omega)only[go_sem]) rfl (qQ (z:=1) (cs:=qc (out++[cy])) (by simp(disch:=omega)only[go_sem]) (by simp(disch:=omega)only[go_sem])) (by intro n hn;exact⟨_,List.mem_singleton.2 rfl,by rw[List.mem_singleton.1 hn];rfl⟩) ?_
   rintro r hs bs ⟨rfl,rfl,rfl⟩ _
   refine⟨by simp[qN],?_⟩
   simp(disch:=omega)only[go_sem]
   obtain⟨z,hz⟩:=zC (out++[cy])
   have hc:=zU hog2
   rw[hov2]at hc
   rw[hc]at hz ⊢
   refine qg [(0,530000000)] [.own 1 (qc (out++[cy]))] [] [.rf 0 0 (lim (vl X+vl Y).toNat).length] rfl (by simp(disch:=omega)only[go_sem]) (by simp(disch:=omega)only[go_sem]) (by simp) (by intro _;simp[zd,AV.pu,AV.pu.puL,Ob.pu,qU]) (.inr ⟨List.replicate z 0,by rw[hcm];rfl,by rw[hcm,←hz]⟩)
end Go.Ab
namespace Go.Ab
open Go Go.Proofs
theorem K0(cl:Bool)(xs:List Int)(hl:xs.length≤2^39):Con Tryz.prog 272 cl [.sl xs.length (qc xs)] [] (aq7 xs):=by
 refine Con.of_aw Tryz.func272 rfl Tryz.ntmps272 (by simp) (by simp) (by simp) (W.sound ?_)
 show @W Tryz.prog 8 ⟨_⟩ ⟨fun x σ=>@qY _ _ _ ⟨_⟩ _ ⟨_⟩ x σ⟩ _ _
 simp(disch:=omega)only[go_sem]
 refine⟨fun h0=>?_,?_⟩
 ·have:xs=[]:=by cases xs with|nil=>rfl|cons a r=>cases h0
  subst this
  refine qg [] [] [] [.v (.slice none 0 0)] rfl (by simp(disch:=omega)only[go_sem]) (by simp(disch:=omega)only[go_sem]) (by simp) (by intro _;simp[zd,AV.pu]) (.inl ⟨rfl,rfl,rfl⟩)
 ·refine⟨by omega,?_⟩
  refine qg [(0,90000000)] [.own 1 (qc xs)] [] [.rf 0 0 xs.length] rfl (by simp(disch:=omega)only[go_sem]) (by simp(disch:=omega)only[go_sem]) (by simp) (by intro _;simp[zd,AV.pu,Ob.pu,qU]) (.inr ⟨[],rfl,by rw[List.append_nil]⟩)
end Go.Ab
namespace Go.Ab
open Go Go.Proofs
theorem KS(x:Int):Con Tryz.prog 292 true [.v (.int .i64 x)] [] (isA (.v (.bool false))):=by
 refine Con.of_w (rs:=[.tmp 2]) Tryz.func292 rfl Tryz.ntmps292 rfl ?_
 simp(disch:=omega)only[go_sem]
 exact qx
theorem aql(x y:Int):Con Tryz.prog 277 true [.v (.int .i64 x),.v (.int .i64 y)] [] (isA (.v (.int .i64 (zD x y)))):=by
 refine Con.of_w (rs:=[.tmp 4]) Tryz.func277 rfl Tryz.ntmps277 rfl ?_
 simp(disch:=omega)only[go_sem]
 refine ql (KS x) ?_
 simp(disch:=omega)only[go_sem]
 refine ql (KS y) ?_
 simp(disch:=omega)only[go_sem]
 refine qe (fun h1=>?_) (fun h1=>?_)
 ·simp(disch:=omega)only[go_sem,h1]
  rw[show zD x y= -1 by simp[zD,h1]]
  exact qx
 ·simp(disch:=omega)only[go_sem,h1]
  refine qe (fun h2=>?_) (fun h2=>?_)
  ·simp(disch:=omega)only[go_sem,h2]
   rw[show zD x y=1 by simp[zD,h1,h2]]
   exact qx
  ·simp(disch:=omega)only[go_sem,h2]
   rw[show zD x y=0 by simp[zD,h1,h2]]
   exact qx
theorem zS(a b:Nat)(la:(lim a).length≤2^40)(lb:(lim b).length≤2^40):
  Con Tryz.prog 248 true [.sl (lim (a)).length (qc (lim (a))),.sl (lim (b)).length (qc (lim (b)))] [] (isA (.v (.int .i64 (zD a b)))):=by
 refine Con.of_w (rs:=[.tmp 4]) Tryz.func248 rfl Tryz.ntmps248 rfl ?_
 simp(disch:=omega)only[go_sem]
 refine zw (fun h1=>?_) (fun h1=>?_)
 ·simp(disch:=omega)only[go_sem,h1]
  refine ql (aql (lim a).length (lim b).length) ?_
  simp(disch:=omega)only[go_sem]
  have:zD ((lim a).length:Int) ((lim b).length:Int)=zD a b:=by
   unfold zD
   rcases(by omega:(lim a).length<(lim b).length∨(lim b).length<(lim a).length)with h|h
   ·have:=Qa h
    rw[if_pos (by omega),if_pos (by omega)]
   ·have:=Qa h
    rw[if_neg (by omega),if_pos (by omega),if_neg (by omega),if_pos (by omega)]
  rw[this]
  exact qx
 ·simp(disch:=omega)only[go_sem,h1]
  have hl:(lim a).length=(lim b).length:=by omega
  refine qi (fun k:Nat=>[(0,.sl (lim (a)).length (qc (lim (a)))),(1,.sl (lim (b)).length (qc (lim (b)))),(5,.v (.int .i64 ((k:Int)-1)))])
   (fun _=>[]) (fun k=>k≤(lim a).length∧(lim a).drop k=(lim b).drop k) (fun k=>k) (lim a).length ⟨Nat.le_refl _,by rw[List.drop_length,hl,List.drop_length]⟩ (Le.lst [] _ _ rfl (by simp(disch:=omega)only[go_sem];try omega) (by simp(disch:=omega)only[go_sem])) ?_
  rintro k ⟨hk,hd⟩
  simp(disch:=omega)only[go_sem]
  refine qe (fun h2=>?_) (fun h2=>?_)
  ·obtain⟨i,rfl⟩:∃i,k=i+1:=⟨k-1,by omega⟩
   have ei:((i+1:Nat):Int)-1=(i:Nat):=by omega
   simp(disch:=omega)only[go_sem,h2,ei]
   refine qq rfl [⟨0,[],[]⟩,⟨1,[],[]⟩,⟨2,[],[]⟩,⟨3,[],[]⟩,⟨4,[3],[]⟩,⟨5,[3],[]⟩,⟨6,[3],[]⟩,⟨7,[3],[]⟩,⟨8,[],[]⟩] (by kernel_rfl) ?_
   simp(disch:=omega)only[go_sem,ei]
   refine⟨by omega,by omega,by omega,by omega,?_⟩
   refine zw (fun h3=>?_) (fun h3=>?_)
   ·simp(disch:=omega)only[go_sem,h3]
    refine qq rfl [⟨0,[],[]⟩,⟨1,[],[]⟩,⟨2,[],[]⟩,⟨3,[],[]⟩,⟨4,[3],[]⟩,⟨5,[3],[]⟩,⟨6,[3],[]⟩,⟨7,[3],[]⟩,⟨8,[],[]⟩,⟨9,[],[]⟩] (by kernel_rfl) ?_
    simp(disch:=omega)only[go_sem,ei]
    refine⟨by omega,by omega,by omega,by omega,?_⟩
    refine ql (aql ((lim a).getD i 0) ((lim b).getD i 0)) ?_
    simp(disch:=omega)only[go_sem]
    have hva:=qX a
    have hvb:=qX b
    have:zD ((lim a).getD i 0) ((lim b).getD i 0)=zD a b:=by
     unfold zD
     rcases(by omega:(lim a).getD i 0<(lim b).getD i 0∨(lim b).getD i 0<(lim a).getD i 0)with h|h
     ·have:=Q3 (qZ a) (qZ b) (by omega) hl hd h
      rw[if_pos (by omega),if_pos (by omega)]
     ·have:=Q3 (qZ b) (qZ a) (by omega) hl.symm hd.symm h
      rw[if_neg (by omega),if_pos (by omega),if_neg (by omega),if_pos (by omega)]
    rw[this]
    exact qx
   ·simp(disch:=omega)only[go_sem,h3]
    refine qb i [] ⟨by omega,?_⟩ (by show i<i+1;omega) rfl (by simp(disch:=omega)only[go_sem];try omega) (by simp(disch:=omega)only[go_sem])
    rw[yh (l:=lim a) (by omega),yh (l:=lim b) (by omega),h3,hd]
  ·simp(disch:=omega)only[go_sem,h2]
   have:k=0:=by omega
   subst this
   rw[List.drop_zero,List.drop_zero]at hd
   have:=ja hd
   subst this
   rw[show zD (a:Int) (a:Int)=0 by simp[zD]]
   exact qx
end Go.Ab
namespace Go.Proofs
open Go.Shelf
def Tryz.lays29_ren:Go.Shelf.Ren:=⟨fun|29=>287|n=>n,fun|0=>0|3=>3|4=>4|5=>5|22=>254|25=>216|54=>262|n=>n,fun|1=>1|n=>n⟩
theorem Tryz.lays29:Go.Proofs.Lays7.n29 Tryz.prog Tryz.lays29_ren:={
 mixed:=by kernel_rfl
 f29:=Tryz.func287.trans (congrArg some (by kernel_rfl))
 t0:=Tryz.underlying0
 a0:=Tryz.isAgg0
 z0:=Tryz.sizeOf0
 v0:=Tryz.zeroValue0
 i0:=by kernel_rfl
 t3:=Tryz.underlying3
 a3:=Tryz.isAgg3
 z3:=Tryz.sizeOf3
 v3:=Tryz.zeroValue3
 i3:=by kernel_rfl
 t4:=Tryz.underlying4
 a4:=Tryz.isAgg4
 z4:=Tryz.sizeOf4
 v4:=Tryz.zeroValue4
 i4:=by kernel_rfl
 t5:=Tryz.underlying5
 a5:=Tryz.isAgg5
 z5:=Tryz.sizeOf5
 v5:=Tryz.zeroValue5
 i5:=by kernel_rfl
 t22:=Tryz.underlying254
 a22:=Tryz.isAgg254
 z22:=Tryz.sizeOf254
 v22:=Tryz.zeroValue254
 i22:=by kernel_rfl
 t25:=Tryz.underlying216
 a25:=Tryz.isAgg216
 z25:=Tryz.sizeOf216
 v25:=Tryz.zeroValue216
 i25:=by kernel_rfl
 t54:=Tryz.underlying262
 a54:=Tryz.isAgg262
 z54:=Tryz.sizeOf262
 g1:=by kernel_rfl}
def Tryz.lays129_ren:Go.Shelf.Ren:=⟨fun|129=>295|n=>n,fun|53=>254|46=>216|3=>3|4=>4|5=>5|9=>9|n=>n,fun|n=>n⟩
theorem Tryz.lays129:Go.Proofs.Lays.n129 Tryz.prog Tryz.lays129_ren:={
 mixed:=by kernel_rfl
 f129:=Tryz.func295.trans (congrArg some (by kernel_rfl))
 t3:=Tryz.underlying3
 a3:=Tryz.isAgg3
 z3:=Tryz.sizeOf3
 v3:=Tryz.zeroValue3
 t4:=Tryz.underlying4
 a4:=Tryz.isAgg4
 z4:=Tryz.sizeOf4
 v4:=Tryz.zeroValue4
 t5:=Tryz.underlying5
 a5:=Tryz.isAgg5
 z5:=Tryz.sizeOf5
 v5:=Tryz.zeroValue5
 t9:=Tryz.underlying9
 a9:=Tryz.isAgg9
 z9:=Tryz.sizeOf9
 v9:=Tryz.zeroValue9
 t46:=Tryz.underlying216
 a46:=Tryz.isAgg216
 z46:=Tryz.sizeOf216
 v46:=Tryz.zeroValue216
 t53:=Tryz.underlying254
 a53:=Tryz.isAgg254
 z53:=Tryz.sizeOf254
 v53:=Tryz.zeroValue254}
end Go.Proofs
namespace Go.Ab
open Go Go.Proofs
theorem aSF(x:Nat)(h0:x≠0)(h:x<2^64):Lib.ctz 64 x=tz x:=by
 unfold Lib.ctz
 rw[if_neg h0]
 obtain⟨m,hm,_⟩:=Lib.ctzFrom_spec 64 x (by omega) h
 exact(Qr hm).symm
theorem aqH(x:Nat)(h:x<2^64):Lib.bitLen x=bl x:=by
 induction x using Nat.strongRecOn with
 |_ x ih=>
  by_cases h0:x=0
  ·subst h0;rfl
  ·rw[Lib.bitLen_half x h0 h,ih (x/2) (by omega) (by omega),aS6 h0,Nat.add_comm]
theorem aCw(x:Nat)(h0:x≠0)(h:x<2^64):Con Tryz.prog 287 true [.v (.int .u64 x)] [] (isA (.v (.int .i64 (tz x)))):=
 Con.scalar (xs:=[.int .u64 x]) fun w hg=>by
  rw[←aSF x h0 h]
  exact Any7.bits_TrailingZeros64 Tryz.lays29 x h w fun _ j hj=>(hg 1 Lib.deBruijn64tab rfl).2 j hj
theorem apV(x:Nat)(h:x<2^64):Con Tryz.prog 295 true [.v (.int .u64 x)] [] (isA (.v (.int .i64 (bl x)))):=
 Con.scalar (xs:=[.int .u64 x]) fun w hg=>by
  rw[←aqH x h]
  exact Any.bits_Len64 Tryz.lays129 x w (by omega) (by omega)
theorem aSM(x:Nat)(h0:x≠0)(h:x<2^64):Con Tryz.prog 271 true [.v (.int .u64 x)] [] (isA (.v (.int .i64 (tz x)))):=by
 refine Con.of_w (rs:=[.tmp 2]) Tryz.func271 rfl Tryz.ntmps271 rfl ?_
 simp(disch:=omega)only[go_sem]
 refine ql (aCw x h0 h) ?_
 simp(disch:=omega)only[go_sem]
 exact qx
theorem apW(x:Nat)(h:x<2^64):Con Tryz.prog 283 true [.v (.int .u64 x)] [] (isA (.v (.int .i64 (bl x)))):=by
 refine Con.of_w (rs:=[.tmp 2]) Tryz.func283 rfl Tryz.ntmps283 rfl ?_
 simp(disch:=omega)only[go_sem]
 refine ql (apV x h) ?_
 simp(disch:=omega)only[go_sem]
 exact qx
theorem ajO{x:Int}(h1:0≤x)(h2:x<9223372036854775808):IntKind.u64.wrap x=x:=by
 simp only[IntKind.wrap,IntKind.signed,IntKind.bits]
 simp only[Bool.false_and,Bool.false_eq_true,if_false]
 omega
theorem ajr(m:Nat)(hl:(lim m).length≤2^40):Con Tryz.prog 267 true [.sl (lim (m)).length (qc (lim (m)))] [] (isA (.v (.int .i64 (bl m)))):=by
 refine Con.of_w (rs:=[.tmp 2]) Tryz.func267 rfl Tryz.ntmps267 rfl ?_
 simp(disch:=omega)only[go_sem]
 refine qe (fun h1=>?_) (fun h1=>?_)
 ·simp(disch:=omega)only[go_sem,h1]
  have:m=0:=qG.1 (List.length_eq_zero_iff.1 (by omega))
  subst this
  rw[Z4]
  exact qx
 ·have hm:m≠0:=fun e=>by rw[e,qm]at h1;simp at h1
  have e1:((lim m).length:Int).toNat-1=(lim m).length-1:=by omega
  have e2:(((lim m).length:Int)-1).toNat=(lim m).length-1:=by omega
  have ht:=J9 hm
  have hb:=aEM hm
  simp(disch:=omega)only[go_sem,h1,e2,zO]
  generalize m/65536^((lim m).length-1)=q at*
  have e3:((q % 65536:Nat):Int)=(q:Int):=by omega
  simp(disch:=omega)only[go_sem,e3,ajO]
  refine⟨by omega,by omega,?_⟩
  refine ql (apW q (by omega)) ?_
  simp(disch:=omega)only[go_sem]
  have hq:bl q≤16:=zt.2 (by omega)
  have e4:(16:Int)*(((lim m).length:Int)-1)+(bl q:Int)=(bl m:Int):=by omega
  simp(disch:=omega)only[go_sem,e4]
  exact qx
theorem aEV{m i:Nat}(hz:∀j,j<i→(lim m).getD j 0=0)(hx:(lim m).getD i 0≠0):tz m=16*i+tz (m/65536^i % 65536):=by
 rw[zO]at hx
 have hx':m/65536^i % 65536≠0:=fun e=>hx (by rw[e];rfl)
 obtain⟨a,ha⟩:=JR hx'
 have hlow:65536^i*(m/65536^i)=m:=by
  have key:∀k,k≤i→m % 65536^k=0:=by
   intro k
   induction k with
   |zero=>intro _;simp[Nat.mod_one]
   |succ k ih=>
    intro hk
    have h1:=ih (by omega)
    have h2:=hz k (by omega)
    rw[zO]at h2
    have h3:m/65536^k % 65536=0:=by omega
    rw[Nat.pow_succ,Nat.mod_mul,h1,h3];omega
  have:=Nat.div_add_mod m (65536^i)
  rw[key i (Nat.le_refl _)]at this
  omega
 generalize hq:m/65536^i=q at*
 have ht:tz (q % 65536)<16:=by
  have h1:=yk hx'
  have:bl (q % 65536)≤16:=zt.2 (by omega)
  omega
 generalize hk:tz (q % 65536)=k at*
 have e16:(65536:Nat)=2^k*(2*2^(15-k)):=by rw[Nat.mul_left_comm,←Nat.pow_add,show k+(15-k)=15 by omega]
 refine Qr (a:=a+2^(15-k)*(q/65536)) ?_
 have hd:=Nat.div_add_mod q 65536
 rw[←hlow,Nat.pow_add,←Zx]
 have h5:q=2^k*(2*(a+2^(15-k)*(q/65536))+1):=by
  have:q=2^k*(2*2^(15-k))*(q/65536)+2^k*(2*a+1):=by rw[←e16,←ha];omega
  generalize q/65536=y at*
  generalize 2^(15-k)=z at*
  grind
 generalize q/65536=y at*
 rw[Nat.mul_assoc,←h5]
theorem adu(m:Nat)(hl:(lim m).length≤2^40):Con Tryz.prog 234 true [.sl (lim (m)).length (qc (lim (m)))] [] (isA (.v (.int .i64 (tz m)))):=by
 refine Con.of_w (rs:=[.tmp 2]) Tryz.func234 rfl Tryz.ntmps234 rfl ?_
 simp(disch:=omega)only[go_sem]
 refine qi (fun i:Nat=>[(0,.sl (lim (m)).length (qc (lim (m)))),(5,.sl (lim (m)).length (qc (lim (m)))),(6,.v (.int .i64 (lim m).length)),(7,.v (.int .i64 i))])
  (fun _=>[]) (fun i=>i≤(lim m).length∧∀j,j<i→(lim m).getD j 0=0) (fun i=>(lim m).length-i) 0 ⟨by omega,fun j hj=>by omega⟩ (Le.lst [] _ _ rfl (by simp(disch:=omega)only[go_sem];try omega) (by simp(disch:=omega)only[go_sem])) ?_
 rintro i ⟨hi,hz⟩
 simp(disch:=omega)only[go_sem]
 refine qe (fun h1=>?_) (fun h1=>?_)
 ·simp(disch:=omega)only[go_sem,h1]
  refine⟨by omega,by omega,zw (fun h2=>?_) (fun h2=>?_)⟩
  ·have ht:=aEV hz h2
   have hx:m/65536^i % 65536≠0:=fun e=>h2 (by rw[zO,e];rfl)
   have ht16:tz (m/65536^i % 65536)<16:=by
    have h1:=yk hx
    have:bl (m/65536^i % 65536)≤16:=zt.2 (by omega)
    omega
   simp(disch:=omega)only[go_sem,h2,zO]
   generalize hq:m/65536^i % 65536=q at*
   have hq6:q<65536:=by omega
   simp(disch:=omega)only[go_sem,ajO]
   refine ql (aSM q hx (by omega)) ?_
   simp(disch:=omega)only[go_sem]
   have e4:(16:Int)*(i:Int)+(tz q:Int)=(tz m:Int):=by omega
   simp(disch:=omega)only[go_sem,e4]
   exact qx
  ·simp(disch:=omega)only[go_sem,h2]
   refine qb (i+1) [] ⟨by omega,fun j hj=>?_⟩ (by show(lim m).length-(i+1)<(lim m).length-i;omega) rfl (by simp(disch:=omega)only[go_sem];try omega) (by simp(disch:=omega)only[go_sem])
   rcases(by omega:j<i∨j=i)with h|h
   ·exact hz j h
   ·subst h;exact h2
 ·simp(disch:=omega)only[go_sem,h1]
  have hm:m=0:=by
   have:=qX m
   have h3:lim m=List.replicate (lim m).length 0:=by
    apply List.ext_getElem
    ·simp
    ·intro j h1 h2
     have:=hz j (by omega)
     rw[List.getD_eq_getElem?_getD,List.getElem?_eq_getElem h1]at this
     simpa using this
   rw[h3,zF]at this
   omega
  subst hm
  rw[ajS]
  exact qx
theorem K1(m:Nat)(i:Int)(hl:(lim m).length≤2^40)(hi:0≤i)(hi2:i<2^62):Con Tryz.prog 175 true [.sl (lim (m)).length (qc (lim (m))),.v (.int .i64 i)] [] (isA (.v (.int .i64 ((m/2^i.toNat % 2:Nat):Int)))):=by
 refine Con.of_w (rs:=[.tmp 4]) Tryz.func175 rfl Tryz.ntmps175 rfl ?_
 obtain⟨k,rfl⟩:=Int.eq_ofNat_of_zero_le hi
 rw[Int.toNat_natCast]
 have h0:¬((k:Int)<0):=by omega
 have e16:((k:Int)/16).toNat=k/16:=by omega
 have em:min ((k:Int) % 16).toNat 64=k % 16:=by omega
 have hb:=aqG m k
 simp(disch:=omega)only[go_sem,h0]
 refine qe (fun h1=>?_) (fun h1=>?_)
 ·simp(disch:=omega)only[go_sem,h1]
  have:m/2^k % 2=0:=by
   rw[←hb]
   have h2:=zO m (k/16)
   rw[List.getD_eq_getElem?_getD,List.getElem?_eq_none (by omega)]at h2
   have h3:m/65536^(k/16) % 65536=0:=by simp only[Option.getD_none]at h2;omega
   rw[h3];simp
  rw[this]
  exact qx
 ·have hx:=qH (qZ m) (k/16)
  have hp:(0:Int)<2^(k % 16):=Int.pow_pos (by omega)
  have efd:∀x:Int,x.fdiv (2^(k % 16))=x/2^(k % 16):=fun x=>Int.fdiv_eq_ediv_of_nonneg _ (Int.le_of_lt hp)
  have hq:0≤(lim m).getD (k/16) 0/2^(k % 16)∧(lim m).getD (k/16) 0/2^(k % 16)<65536:=by
   refine⟨Int.ediv_nonneg hx.1 (Int.le_of_lt hp),Int.lt_of_le_of_lt (Int.ediv_le_self _ hx.1) hx.2⟩
  have hr:(lim m).getD (k/16) 0/2^(k % 16) % 2=((m/2^k % 2:Nat):Int):=by
   rw[←hb,zO]
   generalize m/65536^(k/16) % 65536=x
   rw[Int.natCast_emod,Int.natCast_ediv,Int.natCast_pow];rfl
  simp(disch:=omega)only[go_sem,h1,e16,em,efd,hr]
  refine⟨by omega,by omega,by omega,?_⟩
  exact qx
end Go.Ab
namespace Go.Ab
open Go Go.Proofs
theorem aak(a k:Nat):(vl (lim a)*2^k).toNat=a*2^k:=by
 rw[qX]
 have:((a:Int)*2^k)=((a*2^k:Nat):Int):=by rw[Int.natCast_mul,Int.natCast_pow];rfl
 rw[this,Int.toNat_natCast]
theorem aal(a k:Nat):(vl (lim a)/2^k).toNat=a/2^k:=by
 rw[qX]
 have:((a:Int)/2^k)=((a/2^k:Nat):Int):=by rw[Int.natCast_ediv,Int.natCast_pow];rfl
 rw[this,Int.toNat_natCast]
theorem aEZ(a b:Nat):(vl (lim a)*vl (lim b)).toNat=a*b:=by rw[qX,qX,←Int.natCast_mul,Int.toNat_natCast]
theorem aE0(a b:Nat):(vl (lim a)+vl (lim b)).toNat=a+b:=by rw[qX,qX];omega
theorem aEY(a b:Nat):(vl (lim a)-vl (lim b)).toNat=a-b:=by rw[qX,qX];omega
theorem zq(n:Nat)(hn:n<2^63):Con Tryz.prog 216 false [.v (.int .i64 n)] [] (aJB (lim n)):=(apK false n hn).num
theorem apF(cl:Bool)(a k:Nat)(la:(lim a).length≤1000000)(hk:k≤100000000):Con Tryz.prog 244 cl [.sl (lim (a)).length (qc (lim (a))),.v (.int .i64 k)] [] (aq7 (lim (a*2^k))):=by
 have:=aSL cl (lim a) k (qZ a) la hk
 rwa[aak]at this
theorem zJ(a k:Nat)(la:(lim a).length≤1000000)(hk:k≤100000000):Con Tryz.prog 244 false [.sl (lim (a)).length (qc (lim (a))),.v (.int .i64 k)] [] (aJB (lim (a*2^k))):=(apF false a k la hk).num
theorem KX(cl:Bool)(a k:Nat)(la:(lim a).length≤1000000)(hk:k≤100000000):Con Tryz.prog 235 cl [.sl (lim (a)).length (qc (lim (a))),.v (.int .i64 k)] [] (aq7 (lim (a/2^k))):=by
 have:=aCH cl (lim a) k (qZ a) la hk
 rwa[aal]at this
theorem aqj(a k:Nat)(la:(lim a).length≤1000000)(hk:k≤100000000):Con Tryz.prog 235 false [.sl (lim (a)).length (qc (lim (a))),.v (.int .i64 k)] [] (aJB (lim (a/2^k))):=(KX false a k la hk).num
theorem Jx(a b:Nat)(la:(lim a).length≤1000000)(lb:(lim b).length≤1000000):Con Tryz.prog 201 false [.sl (lim (a)).length (qc (lim (a))),.sl (lim (b)).length (qc (lim (b)))] [] (aJB (lim (a*b))):=by
 have:=(apG false (lim a) (lim b) (qZ a) (qZ b) la lb).num
 rwa[aEZ]at this
theorem KM(a b:Nat)(la:(lim a).length≤2000000)(lb:(lim b).length≤2000000):Con Tryz.prog 249 false [.sl (lim (a)).length (qc (lim (a))),.sl (lim (b)).length (qc (lim (b)))] [] (aJB (lim (a+b))):=by
 have:=(aCx false (lim a) (lim b) (qZ a) (qZ b) la lb).num
 rwa[aE0]at this
theorem aqk(a d:Nat)(la:(lim a).length≤1000000)(hd:0<d)(hd2:d<65536):
  Con Tryz.prog 288 false [.sl (lim (a)).length (qc (lim (a))),.v (.int .i64 d)] [] (isA (.tu [.sl (lim (a/d)).length (qc (lim (a/d))),.v (.int .i64 ((a % d:Nat):Int))])):=
 Con.frzA <| (aCI false (lim a) d (qZ a) la hd hd2).mono fun r hs bs ⟨zs,h1,h2⟩=>by
  rw[qX]at h1 h2
  rw[h1,h2]
  have e:((a:Int)/(d:Int)).toNat=a/d:=by
   rw[←Int.natCast_ediv,Int.toNat_natCast]
  rw[e]
  show qE _ 6 _=_
  unfold qE
  simp only[List.map_cons,List.map_nil]
  rw[jN (k:=3) (l:=lim (a/d)) (zs:=zs) q7 rfl]
  rw[Int.natCast_emod];rfl
end Go.Ab
