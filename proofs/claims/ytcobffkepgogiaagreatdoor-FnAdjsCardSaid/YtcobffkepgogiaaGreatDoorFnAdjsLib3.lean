/- What the proof of this claim stands on: the walks of the functions and the plain laws, part 3. -/
import Derived.Test.YtcobffkepgogiaaGreatDoorFnAdjsLib2
import Derived.Test.YtcobffkepgogiaaGreatDoorProg
import Derived.KernelRfl
import Derived.Shelf.Spec.TrailingZeros
import Derived.Shelf.Small.Bits
import Derived.Shelf.Strconv.Itoa0
set_option linter.unusedVariables false
set_option linter.unusedSimpArgs false
namespace Go.Ab
open Go Go.Proofs
def ti1:TI:=⟨Kd.oth,1,8,Value.nilFunc⟩
theorem tf1:qo Tryz.prog 1=some ti1:=by kernel_rfl
def ti2:TI:=⟨Kd.int IntKind.i64,1,8,Value.int IntKind.i64 0⟩
theorem tf2:qo Tryz.prog 2=some ti2:=by kernel_rfl
def ti3:TI:=⟨Kd.int IntKind.i64,1,8,Value.int IntKind.i64 0⟩
theorem tf3:qo Tryz.prog 3=some ti3:=by kernel_rfl
def ti4:TI:=⟨Kd.bool,1,1,Value.bool false⟩
theorem tf4:qo Tryz.prog 4=some ti4:=by kernel_rfl
def ti5:TI:=⟨Kd.int IntKind.u8,1,1,Value.int IntKind.u8 0⟩
theorem tf5:qo Tryz.prog 5=some ti5:=by kernel_rfl
def ti6:TI:=⟨Kd.int IntKind.u8,1,1,Value.int IntKind.u8 0⟩
theorem tf6:qo Tryz.prog 6=some ti6:=by kernel_rfl
def ti7:TI:=⟨Kd.stru [(0,2),(1,3),(2,4),(3,6)],4,24,Value.agg ⟨[Value.int IntKind.i64 0,Value.int IntKind.i64 0,Value.bool false,Value.int IntKind.u8 0]⟩⟩
theorem tf7:qo Tryz.prog 7=some ti7:=by kernel_rfl
def ti8:TI:=⟨Kd.stru [(0,2),(1,3),(2,4),(3,6)],4,24,Value.agg ⟨[Value.int IntKind.i64 0,Value.int IntKind.i64 0,Value.bool false,Value.int IntKind.u8 0]⟩⟩
theorem tf8:qo Tryz.prog 8=some ti8:=by kernel_rfl
def ti9:TI:=⟨Kd.str,1,16,Value.string {data:=⟨[]⟩}⟩
theorem tf9:qo Tryz.prog 9=some ti9:=by kernel_rfl
def aEz:TI:=⟨Kd.str,1,16,Value.string {data:=⟨[]⟩}⟩
theorem bdI:qo Tryz.prog 10=some aEz:=by kernel_rfl
def aEy:TI:=⟨Kd.str,1,16,Value.string {data:=⟨[]⟩}⟩
theorem bdH:qo Tryz.prog 11=some aEy:=by kernel_rfl
def aEx:TI:=⟨Kd.int IntKind.u64,1,8,Value.int IntKind.u64 0⟩
theorem bdG:qo Tryz.prog 12=some aEx:=by kernel_rfl
def aEw:TI:=⟨Kd.int IntKind.i32,1,4,Value.int IntKind.i32 0⟩
theorem bdF:qo Tryz.prog 21=some aEw:=by kernel_rfl
def aez:TI:=⟨Kd.sli 5,1,24,Value.slice none 0 0⟩
theorem aEC:qo Tryz.prog 22=some aez:=by kernel_rfl
def aey:TI:=⟨Kd.sli 40,1,24,Value.slice none 0 0⟩
theorem aEB:qo Tryz.prog 23=some aey:=by kernel_rfl
def al0:TI:=⟨Kd.stru [(0,3),(1,23)],2,32,Value.agg ⟨[Value.int IntKind.i64 0,Value.slice none 0 0]⟩⟩
theorem aT3:qo Tryz.prog 24=some al0:=by kernel_rfl
def alQ:TI:=⟨Kd.stru [(0,3),(1,23)],2,32,Value.agg ⟨[Value.int IntKind.i64 0,Value.slice none 0 0]⟩⟩
theorem aT2:qo Tryz.prog 25=some alQ:=by kernel_rfl
def aEv:TI:=⟨Kd.oth,1,8,Value.nilFunc⟩
theorem bdE:qo Tryz.prog 27=some aEv:=by kernel_rfl
def aEu:TI:=⟨Kd.oth,1,8,Value.nilFunc⟩
theorem bdD:qo Tryz.prog 29=some aEu:=by kernel_rfl
def aEt:TI:=⟨Kd.oth,1,8,Value.nilFunc⟩
theorem bdC:qo Tryz.prog 30=some aEt:=by kernel_rfl
def aEs:TI:=⟨Kd.oth,1,8,Value.nilFunc⟩
theorem bdB:qo Tryz.prog 31=some aEs:=by kernel_rfl
def aEr:TI:=⟨Kd.oth,1,8,Value.nilFunc⟩
theorem bdA:qo Tryz.prog 32=some aEr:=by kernel_rfl
def aEq:TI:=⟨Kd.oth,1,8,Value.nilFunc⟩
theorem bdz:qo Tryz.prog 33=some aEq:=by kernel_rfl
def Ju:TI:=⟨Kd.sli 3,1,24,Value.slice none 0 0⟩
theorem aeA:qo Tryz.prog 34=some Ju:=by kernel_rfl
def arx:TI:=⟨Kd.stru [(0,34)],1,24,Value.agg ⟨[Value.slice none 0 0]⟩⟩
theorem aWD:qo Tryz.prog 35=some arx:=by kernel_rfl
def aaC:TI:=⟨Kd.stru [(0,34)],1,24,Value.agg ⟨[Value.slice none 0 0]⟩⟩
theorem aAH:qo Tryz.prog 36=some aaC:=by kernel_rfl
def alh:TI:=⟨Kd.stru [(0,4),(1,36)],2,32,Value.agg ⟨[Value.bool false,Value.slice none 0 0]⟩⟩
theorem aT1:qo Tryz.prog 37=some alh:=by kernel_rfl
def Y8:TI:=⟨Kd.stru [(0,4),(1,36)],2,32,Value.agg ⟨[Value.bool false,Value.slice none 0 0]⟩⟩
theorem ary:qo Tryz.prog 38=some Y8:=by kernel_rfl
def ale:TI:=⟨Kd.stru [(0,38),(2,3)],3,40,Value.agg ⟨[Value.bool false,Value.slice none 0 0,Value.int IntKind.i64 0]⟩⟩
theorem aT0:qo Tryz.prog 39=some ale:=by kernel_rfl
def Zb:TI:=⟨Kd.stru [(0,38),(2,3)],3,40,Value.agg ⟨[Value.bool false,Value.slice none 0 0,Value.int IntKind.i64 0]⟩⟩
theorem Ku:qo Tryz.prog 40=some Zb:=by kernel_rfl
def aEp:TI:=⟨Kd.oth,1,8,Value.nilFunc⟩
theorem bdy:qo Tryz.prog 41=some aEp:=by kernel_rfl
def aEo:TI:=⟨Kd.oth,1,8,Value.nilFunc⟩
theorem bdx:qo Tryz.prog 42=some aEo:=by kernel_rfl
def aEn:TI:=⟨Kd.oth,1,8,Value.nilFunc⟩
theorem bdw:qo Tryz.prog 44=some aEn:=by kernel_rfl
def aEm:TI:=⟨Kd.oth,1,8,Value.nilFunc⟩
theorem bdv:qo Tryz.prog 46=some aEm:=by kernel_rfl
def aEl:TI:=⟨Kd.oth,1,8,Value.nilFunc⟩
theorem bdu:qo Tryz.prog 47=some aEl:=by kernel_rfl
def aEk:TI:=⟨Kd.oth,1,8,Value.nilFunc⟩
theorem bdt:qo Tryz.prog 48=some aEk:=by kernel_rfl
def aEj:TI:=⟨Kd.oth,1,8,Value.nilFunc⟩
theorem bds:qo Tryz.prog 49=some aEj:=by kernel_rfl
def ak2:TI:=⟨Kd.stru [(0,40),(3,40)],6,80,Value.agg ⟨[Value.bool false,Value.slice none 0 0,Value.int IntKind.i64 0,Value.bool false,Value.slice none 0 0,Value.int IntKind.i64 0]⟩⟩
theorem aTZ:qo Tryz.prog 50=some ak2:=by kernel_rfl
def aj9:TI:=⟨Kd.stru [(0,40),(3,40)],6,80,Value.agg ⟨[Value.bool false,Value.slice none 0 0,Value.int IntKind.i64 0,Value.bool false,Value.slice none 0 0,Value.int IntKind.i64 0]⟩⟩
theorem aNJ:qo Tryz.prog 51=some aj9:=by kernel_rfl
def aEi:TI:=⟨Kd.oth,1,8,Value.nilFunc⟩
theorem bdr:qo Tryz.prog 53=some aEi:=by kernel_rfl
def aEh:TI:=⟨Kd.oth,1,8,Value.nilFunc⟩
theorem bdq:qo Tryz.prog 55=some aEh:=by kernel_rfl
def aEg:TI:=⟨Kd.oth,1,8,Value.nilFunc⟩
theorem bdp:qo Tryz.prog 56=some aEg:=by kernel_rfl
def aEf:TI:=⟨Kd.oth,1,8,Value.nilFunc⟩
theorem bdo:qo Tryz.prog 57=some aEf:=by kernel_rfl
def aEe:TI:=⟨Kd.oth,1,8,Value.nilFunc⟩
theorem bdn:qo Tryz.prog 58=some aEe:=by kernel_rfl
def aEd:TI:=⟨Kd.oth,1,8,Value.nilFunc⟩
theorem bdm:qo Tryz.prog 60=some aEd:=by kernel_rfl
def aEc:TI:=⟨Kd.oth,1,8,Value.nilFunc⟩
theorem bdl:qo Tryz.prog 61=some aEc:=by kernel_rfl
def aEb:TI:=⟨Kd.oth,1,8,Value.nilFunc⟩
theorem bdk:qo Tryz.prog 62=some aEb:=by kernel_rfl
def aEa:TI:=⟨Kd.oth,1,8,Value.nilFunc⟩
theorem bdj:qo Tryz.prog 63=some aEa:=by kernel_rfl
def aD9:TI:=⟨Kd.oth,1,8,Value.nilFunc⟩
theorem bdi:qo Tryz.prog 64=some aD9:=by kernel_rfl
def aD8:TI:=⟨Kd.oth,1,8,Value.nilFunc⟩
theorem bdh:qo Tryz.prog 65=some aD8:=by kernel_rfl
def aD7:TI:=⟨Kd.oth,1,8,Value.nilFunc⟩
theorem bdg:qo Tryz.prog 66=some aD7:=by kernel_rfl
def aD6:TI:=⟨Kd.oth,1,8,Value.nilFunc⟩
theorem bdf:qo Tryz.prog 68=some aD6:=by kernel_rfl
def aex:TI:=⟨Kd.sli 51,1,24,Value.slice none 0 0⟩
theorem aEA:qo Tryz.prog 69=some aex:=by kernel_rfl
def aD5:TI:=⟨Kd.oth,1,8,Value.nilFunc⟩
theorem bde:qo Tryz.prog 71=some aD5:=by kernel_rfl
def aD4:TI:=⟨Kd.oth,1,8,Value.nilFunc⟩
theorem bdd:qo Tryz.prog 73=some aD4:=by kernel_rfl
def aD3:TI:=⟨Kd.oth,1,8,Value.nilFunc⟩
theorem bdc:qo Tryz.prog 74=some aD3:=by kernel_rfl
def aD2:TI:=⟨Kd.oth,1,8,Value.nilFunc⟩
theorem bdb:qo Tryz.prog 75=some aD2:=by kernel_rfl
def aD1:TI:=⟨Kd.oth,1,8,Value.nilFunc⟩
theorem bda:qo Tryz.prog 77=some aD1:=by kernel_rfl
def aD0:TI:=⟨Kd.oth,1,8,Value.nilFunc⟩
theorem bc9:qo Tryz.prog 79=some aD0:=by kernel_rfl
def aDZ:TI:=⟨Kd.oth,1,8,Value.nilFunc⟩
theorem bc8:qo Tryz.prog 80=some aDZ:=by kernel_rfl
def akB:TI:=⟨Kd.stru [(0,3),(1,69)],2,32,Value.agg ⟨[Value.int IntKind.i64 0,Value.slice none 0 0]⟩⟩
theorem aTY:qo Tryz.prog 81=some akB:=by kernel_rfl
def akz:TI:=⟨Kd.stru [(0,3),(1,69)],2,32,Value.agg ⟨[Value.int IntKind.i64 0,Value.slice none 0 0]⟩⟩
theorem aTX:qo Tryz.prog 82=some akz:=by kernel_rfl
def aDY:TI:=⟨Kd.oth,1,8,Value.nilFunc⟩
theorem bc7:qo Tryz.prog 84=some aDY:=by kernel_rfl
def aDX:TI:=⟨Kd.oth,1,8,Value.nilFunc⟩
theorem bc6:qo Tryz.prog 86=some aDX:=by kernel_rfl
def aDW:TI:=⟨Kd.oth,1,8,Value.nilFunc⟩
theorem bc5:qo Tryz.prog 87=some aDW:=by kernel_rfl
def aDV:TI:=⟨Kd.oth,1,8,Value.nilFunc⟩
theorem bc4:qo Tryz.prog 88=some aDV:=by kernel_rfl
def aDU:TI:=⟨Kd.oth,1,8,Value.nilFunc⟩
theorem bc3:qo Tryz.prog 89=some aDU:=by kernel_rfl
def aDT:TI:=⟨Kd.oth,1,8,Value.nilFunc⟩
theorem bc2:qo Tryz.prog 91=some aDT:=by kernel_rfl
def aDS:TI:=⟨Kd.oth,1,8,Value.nilFunc⟩
theorem bc1:qo Tryz.prog 92=some aDS:=by kernel_rfl
def aDR:TI:=⟨Kd.oth,1,8,Value.nilFunc⟩
theorem bc0:qo Tryz.prog 93=some aDR:=by kernel_rfl
def aDQ:TI:=⟨Kd.oth,1,8,Value.nilFunc⟩
theorem bcZ:qo Tryz.prog 94=some aDQ:=by kernel_rfl
def aDP:TI:=⟨Kd.oth,1,8,Value.nilFunc⟩
theorem bcY:qo Tryz.prog 96=some aDP:=by kernel_rfl
def aDO:TI:=⟨Kd.oth,1,8,Value.nilFunc⟩
theorem bcX:qo Tryz.prog 97=some aDO:=by kernel_rfl
def aDN:TI:=⟨Kd.oth,1,8,Value.nilFunc⟩
theorem bcW:qo Tryz.prog 98=some aDN:=by kernel_rfl
def aDM:TI:=⟨Kd.oth,1,8,Value.nilFunc⟩
theorem bcV:qo Tryz.prog 99=some aDM:=by kernel_rfl
def Kt:TI:=⟨Kd.oth,1,8,Value.nilFunc⟩
theorem aYW:qo Tryz.prog 100=some Kt:=by kernel_rfl
def Ks:TI:=⟨Kd.oth,1,8,Value.nilFunc⟩
theorem aYV:qo Tryz.prog 101=some Ks:=by kernel_rfl
def Kr:TI:=⟨Kd.oth,1,8,Value.nilFunc⟩
theorem aYU:qo Tryz.prog 102=some Kr:=by kernel_rfl
def Kq:TI:=⟨Kd.oth,1,8,Value.nilFunc⟩
theorem aYT:qo Tryz.prog 103=some Kq:=by kernel_rfl
def Kp:TI:=⟨Kd.oth,1,8,Value.nilFunc⟩
theorem aYS:qo Tryz.prog 105=some Kp:=by kernel_rfl
def Ko:TI:=⟨Kd.oth,1,8,Value.nilFunc⟩
theorem aYR:qo Tryz.prog 106=some Ko:=by kernel_rfl
def Kn:TI:=⟨Kd.oth,1,8,Value.nilFunc⟩
theorem aYQ:qo Tryz.prog 107=some Kn:=by kernel_rfl
def Km:TI:=⟨Kd.oth,1,8,Value.nilFunc⟩
theorem aYP:qo Tryz.prog 108=some Km:=by kernel_rfl
def Kl:TI:=⟨Kd.oth,1,8,Value.nilFunc⟩
theorem aYO:qo Tryz.prog 109=some Kl:=by kernel_rfl
def Kk:TI:=⟨Kd.oth,1,8,Value.nilFunc⟩
theorem aYN:qo Tryz.prog 110=some Kk:=by kernel_rfl
def yP:TI:=⟨Kd.sli 118,1,24,Value.slice none 0 0⟩
theorem J6:qo Tryz.prog 111=some yP:=by kernel_rfl
def Zr:TI:=⟨Kd.stru [(0,3),(1,111)],2,32,Value.agg ⟨[Value.int IntKind.i64 0,Value.slice none 0 0]⟩⟩
theorem aAM:qo Tryz.prog 112=some Zr:=by kernel_rfl
def Zq:TI:=⟨Kd.stru [(0,3),(1,111)],2,32,Value.agg ⟨[Value.int IntKind.i64 0,Value.slice none 0 0]⟩⟩
theorem aAL:qo Tryz.prog 113=some Zq:=by kernel_rfl
def Kj:TI:=⟨Kd.oth,1,8,Value.nilFunc⟩
theorem aYM:qo Tryz.prog 114=some Kj:=by kernel_rfl
def Ki:TI:=⟨Kd.oth,1,8,Value.nilFunc⟩
theorem aYL:qo Tryz.prog 115=some Ki:=by kernel_rfl
def Kh:TI:=⟨Kd.oth,1,8,Value.nilFunc⟩
theorem aYK:qo Tryz.prog 116=some Kh:=by kernel_rfl
def Q4:TI:=⟨Kd.stru [(0,4),(1,34),(2,3)],3,40,Value.agg ⟨[Value.bool false,Value.slice none 0 0,Value.int IntKind.i64 0]⟩⟩
theorem aoj:qo Tryz.prog 117=some Q4:=by kernel_rfl
def jd:TI:=⟨Kd.stru [(0,4),(1,34),(2,3)],3,40,Value.agg ⟨[Value.bool false,Value.slice none 0 0,Value.int IntKind.i64 0]⟩⟩
theorem j6:qo Tryz.prog 118=some jd:=by kernel_rfl
def Kg:TI:=⟨Kd.oth,1,8,Value.nilFunc⟩
theorem aYJ:qo Tryz.prog 119=some Kg:=by kernel_rfl
def Kf:TI:=⟨Kd.oth,1,8,Value.nilFunc⟩
theorem aYI:qo Tryz.prog 120=some Kf:=by kernel_rfl
def Ke:TI:=⟨Kd.oth,1,8,Value.nilFunc⟩
theorem aYH:qo Tryz.prog 121=some Ke:=by kernel_rfl
def Kc:TI:=⟨Kd.oth,1,8,Value.nilFunc⟩
theorem aYG:qo Tryz.prog 122=some Kc:=by kernel_rfl
def Kb:TI:=⟨Kd.oth,1,8,Value.nilFunc⟩
theorem aYF:qo Tryz.prog 123=some Kb:=by kernel_rfl
def Ka:TI:=⟨Kd.oth,1,8,Value.nilFunc⟩
theorem aYE:qo Tryz.prog 124=some Ka:=by kernel_rfl
def V9:TI:=⟨Kd.oth,1,8,Value.nilFunc⟩
theorem aYD:qo Tryz.prog 125=some V9:=by kernel_rfl
def V8:TI:=⟨Kd.oth,1,8,Value.nilFunc⟩
theorem aYC:qo Tryz.prog 126=some V8:=by kernel_rfl
def V7:TI:=⟨Kd.oth,1,8,Value.nilFunc⟩
theorem aYB:qo Tryz.prog 127=some V7:=by kernel_rfl
def V6:TI:=⟨Kd.oth,1,8,Value.nilFunc⟩
theorem aYA:qo Tryz.prog 128=some V6:=by kernel_rfl
def V5:TI:=⟨Kd.oth,1,8,Value.nilFunc⟩
theorem aYz:qo Tryz.prog 129=some V5:=by kernel_rfl
def V4:TI:=⟨Kd.oth,1,8,Value.nilFunc⟩
theorem aYy:qo Tryz.prog 130=some V4:=by kernel_rfl
def V3:TI:=⟨Kd.oth,1,8,Value.nilFunc⟩
theorem aYx:qo Tryz.prog 131=some V3:=by kernel_rfl
def Zp:TI:=⟨Kd.stru [(0,118),(3,118)],6,80,Value.agg ⟨[Value.bool false,Value.slice none 0 0,Value.int IntKind.i64 0,Value.bool false,Value.slice none 0 0,Value.int IntKind.i64 0]⟩⟩
theorem aAK:qo Tryz.prog 132=some Zp:=by kernel_rfl
def Q3:TI:=⟨Kd.stru [(0,118),(3,118)],6,80,Value.agg ⟨[Value.bool false,Value.slice none 0 0,Value.int IntKind.i64 0,Value.bool false,Value.slice none 0 0,Value.int IntKind.i64 0]⟩⟩
theorem aoi:qo Tryz.prog 133=some Q3:=by kernel_rfl
def V2:TI:=⟨Kd.oth,1,8,Value.nilFunc⟩
theorem aYw:qo Tryz.prog 134=some V2:=by kernel_rfl
def V1:TI:=⟨Kd.oth,1,8,Value.nilFunc⟩
theorem aYv:qo Tryz.prog 135=some V1:=by kernel_rfl
def V0:TI:=⟨Kd.oth,1,8,Value.nilFunc⟩
theorem aYu:qo Tryz.prog 136=some V0:=by kernel_rfl
def VZ:TI:=⟨Kd.oth,1,8,Value.nilFunc⟩
theorem aYt:qo Tryz.prog 137=some VZ:=by kernel_rfl
def VY:TI:=⟨Kd.oth,1,8,Value.nilFunc⟩
theorem aYs:qo Tryz.prog 138=some VY:=by kernel_rfl
def VX:TI:=⟨Kd.oth,1,8,Value.nilFunc⟩
theorem aYr:qo Tryz.prog 139=some VX:=by kernel_rfl
def VW:TI:=⟨Kd.oth,1,8,Value.nilFunc⟩
theorem aYq:qo Tryz.prog 140=some VW:=by kernel_rfl
def VV:TI:=⟨Kd.oth,1,8,Value.nilFunc⟩
theorem aYp:qo Tryz.prog 142=some VV:=by kernel_rfl
def VU:TI:=⟨Kd.oth,1,8,Value.nilFunc⟩
theorem aYo:qo Tryz.prog 143=some VU:=by kernel_rfl
def VT:TI:=⟨Kd.oth,1,8,Value.nilFunc⟩
theorem aYn:qo Tryz.prog 144=some VT:=by kernel_rfl
def VS:TI:=⟨Kd.oth,1,8,Value.nilFunc⟩
theorem aYm:qo Tryz.prog 145=some VS:=by kernel_rfl
def VR:TI:=⟨Kd.oth,1,8,Value.nilFunc⟩
theorem aYl:qo Tryz.prog 146=some VR:=by kernel_rfl
def VQ:TI:=⟨Kd.oth,1,8,Value.nilFunc⟩
theorem aYk:qo Tryz.prog 147=some VQ:=by kernel_rfl
def VP:TI:=⟨Kd.oth,1,8,Value.nilFunc⟩
theorem aYj:qo Tryz.prog 148=some VP:=by kernel_rfl
def VO:TI:=⟨Kd.oth,1,8,Value.nilFunc⟩
theorem aYi:qo Tryz.prog 149=some VO:=by kernel_rfl
def VN:TI:=⟨Kd.oth,1,8,Value.nilFunc⟩
theorem aYh:qo Tryz.prog 151=some VN:=by kernel_rfl
def VM:TI:=⟨Kd.oth,1,8,Value.nilFunc⟩
theorem aYg:qo Tryz.prog 152=some VM:=by kernel_rfl
def y5:TI:=⟨Kd.sli 133,1,24,Value.slice none 0 0⟩
theorem Kv:qo Tryz.prog 153=some y5:=by kernel_rfl
def Zo:TI:=⟨Kd.stru [(0,3),(1,153)],2,32,Value.agg ⟨[Value.int IntKind.i64 0,Value.slice none 0 0]⟩⟩
theorem aAJ:qo Tryz.prog 154=some Zo:=by kernel_rfl
def Zn:TI:=⟨Kd.stru [(0,3),(1,153)],2,32,Value.agg ⟨[Value.int IntKind.i64 0,Value.slice none 0 0]⟩⟩
theorem aAI:qo Tryz.prog 155=some Zn:=by kernel_rfl
def VL:TI:=⟨Kd.oth,1,8,Value.nilFunc⟩
theorem aYf:qo Tryz.prog 156=some VL:=by kernel_rfl
def VK:TI:=⟨Kd.oth,1,8,Value.nilFunc⟩
theorem aYe:qo Tryz.prog 157=some VK:=by kernel_rfl
def VJ:TI:=⟨Kd.oth,1,8,Value.nilFunc⟩
theorem aYd:qo Tryz.prog 158=some VJ:=by kernel_rfl
def VI:TI:=⟨Kd.oth,1,8,Value.nilFunc⟩
theorem aYc:qo Tryz.prog 159=some VI:=by kernel_rfl
def VH:TI:=⟨Kd.oth,1,8,Value.nilFunc⟩
theorem aYb:qo Tryz.prog 160=some VH:=by kernel_rfl
def VG:TI:=⟨Kd.oth,1,8,Value.nilFunc⟩
theorem aYa:qo Tryz.prog 161=some VG:=by kernel_rfl
def VF:TI:=⟨Kd.oth,1,8,Value.nilFunc⟩
theorem aX9:qo Tryz.prog 163=some VF:=by kernel_rfl
def VE:TI:=⟨Kd.oth,1,8,Value.nilFunc⟩
theorem aX8:qo Tryz.prog 164=some VE:=by kernel_rfl
def VD:TI:=⟨Kd.oth,1,8,Value.nilFunc⟩
theorem aX7:qo Tryz.prog 165=some VD:=by kernel_rfl
def VC:TI:=⟨Kd.oth,1,8,Value.nilFunc⟩
theorem aX6:qo Tryz.prog 166=some VC:=by kernel_rfl
def VB:TI:=⟨Kd.oth,1,8,Value.nilFunc⟩
theorem aX5:qo Tryz.prog 167=some VB:=by kernel_rfl
def VA:TI:=⟨Kd.oth,1,8,Value.nilFunc⟩
theorem aX4:qo Tryz.prog 168=some VA:=by kernel_rfl
def Vz:TI:=⟨Kd.oth,1,8,Value.nilFunc⟩
theorem aX3:qo Tryz.prog 169=some Vz:=by kernel_rfl
def Vy:TI:=⟨Kd.oth,1,8,Value.nilFunc⟩
theorem aX2:qo Tryz.prog 170=some Vy:=by kernel_rfl
def Vx:TI:=⟨Kd.oth,1,8,Value.nilFunc⟩
theorem aX1:qo Tryz.prog 171=some Vx:=by kernel_rfl
def Vw:TI:=⟨Kd.oth,1,8,Value.nilFunc⟩
theorem aX0:qo Tryz.prog 173=some Vw:=by kernel_rfl
def Q2:TI:=⟨Kd.stru [(0,22),(1,3),(2,3)],3,40,Value.agg ⟨[Value.slice none 0 0,Value.int IntKind.i64 0,Value.int IntKind.i64 0]⟩⟩
theorem aoh:qo Tryz.prog 174=some Q2:=by kernel_rfl
def Q1:TI:=⟨Kd.stru [(0,22),(1,3),(2,3)],3,40,Value.agg ⟨[Value.slice none 0 0,Value.int IntKind.i64 0,Value.int IntKind.i64 0]⟩⟩
theorem aog:qo Tryz.prog 175=some Q1:=by kernel_rfl
def Vv:TI:=⟨Kd.oth,1,8,Value.nilFunc⟩
theorem aXZ:qo Tryz.prog 176=some Vv:=by kernel_rfl
def Vu:TI:=⟨Kd.oth,1,8,Value.nilFunc⟩
theorem aXY:qo Tryz.prog 177=some Vu:=by kernel_rfl
def Vt:TI:=⟨Kd.oth,1,8,Value.nilFunc⟩
theorem aXX:qo Tryz.prog 178=some Vt:=by kernel_rfl
def Vs:TI:=⟨Kd.oth,1,8,Value.nilFunc⟩
theorem aXW:qo Tryz.prog 179=some Vs:=by kernel_rfl
def Vr:TI:=⟨Kd.oth,1,8,Value.nilFunc⟩
theorem aXV:qo Tryz.prog 180=some Vr:=by kernel_rfl
def Vq:TI:=⟨Kd.oth,1,8,Value.nilFunc⟩
theorem aXU:qo Tryz.prog 182=some Vq:=by kernel_rfl
def Vp:TI:=⟨Kd.oth,1,8,Value.nilFunc⟩
theorem aXT:qo Tryz.prog 183=some Vp:=by kernel_rfl
def Vo:TI:=⟨Kd.oth,1,8,Value.nilFunc⟩
theorem aXS:qo Tryz.prog 184=some Vo:=by kernel_rfl
def Vn:TI:=⟨Kd.oth,1,8,Value.nilFunc⟩
theorem aXR:qo Tryz.prog 185=some Vn:=by kernel_rfl
def Vm:TI:=⟨Kd.oth,1,8,Value.nilFunc⟩
theorem aXQ:qo Tryz.prog 186=some Vm:=by kernel_rfl
def Vl:TI:=⟨Kd.oth,1,8,Value.nilFunc⟩
theorem aXP:qo Tryz.prog 187=some Vl:=by kernel_rfl
def Vk:TI:=⟨Kd.oth,1,8,Value.nilFunc⟩
theorem aXO:qo Tryz.prog 188=some Vk:=by kernel_rfl
def Vj:TI:=⟨Kd.oth,1,8,Value.nilFunc⟩
theorem aXN:qo Tryz.prog 189=some Vj:=by kernel_rfl
def Vi:TI:=⟨Kd.oth,1,8,Value.nilFunc⟩
theorem aXM:qo Tryz.prog 190=some Vi:=by kernel_rfl
def Vh:TI:=⟨Kd.oth,1,8,Value.nilFunc⟩
theorem aXL:qo Tryz.prog 191=some Vh:=by kernel_rfl
def Vg:TI:=⟨Kd.oth,1,8,Value.nilFunc⟩
theorem aXK:qo Tryz.prog 192=some Vg:=by kernel_rfl
def Vf:TI:=⟨Kd.oth,1,8,Value.nilFunc⟩
theorem aXJ:qo Tryz.prog 194=some Vf:=by kernel_rfl
def Ve:TI:=⟨Kd.sli 111,1,24,Value.slice none 0 0⟩
theorem aNK:qo Tryz.prog 195=some Ve:=by kernel_rfl
def Vd:TI:=⟨Kd.oth,1,8,Value.nilFunc⟩
theorem aXI:qo Tryz.prog 196=some Vd:=by kernel_rfl
def Vc:TI:=⟨Kd.oth,1,8,Value.nilFunc⟩
theorem aXH:qo Tryz.prog 197=some Vc:=by kernel_rfl
def Vb:TI:=⟨Kd.oth,1,8,Value.nilFunc⟩
theorem aXG:qo Tryz.prog 198=some Vb:=by kernel_rfl
def Va:TI:=⟨Kd.oth,1,8,Value.nilFunc⟩
theorem aXF:qo Tryz.prog 199=some Va:=by kernel_rfl
def X9:TI:=⟨Kd.oth,1,8,Value.nilFunc⟩
theorem aXE:qo Tryz.prog 201=some X9:=by kernel_rfl
def X8:TI:=⟨Kd.oth,1,8,Value.nilFunc⟩
theorem aXD:qo Tryz.prog 203=some X8:=by kernel_rfl
def X7:TI:=⟨Kd.oth,1,8,Value.nilFunc⟩
theorem aXC:qo Tryz.prog 204=some X7:=by kernel_rfl
def X6:TI:=⟨Kd.oth,1,8,Value.nilFunc⟩
theorem aXB:qo Tryz.prog 205=some X6:=by kernel_rfl
def X5:TI:=⟨Kd.oth,1,8,Value.nilFunc⟩
theorem aXA:qo Tryz.prog 207=some X5:=by kernel_rfl
def X4:TI:=⟨Kd.oth,1,8,Value.nilFunc⟩
theorem aXz:qo Tryz.prog 208=some X4:=by kernel_rfl
def X3:TI:=⟨Kd.oth,1,8,Value.nilFunc⟩
theorem aXy:qo Tryz.prog 209=some X3:=by kernel_rfl
def X2:TI:=⟨Kd.oth,1,8,Value.nilFunc⟩
theorem aXx:qo Tryz.prog 210=some X2:=by kernel_rfl
def X1:TI:=⟨Kd.oth,1,8,Value.nilFunc⟩
theorem aXw:qo Tryz.prog 211=some X1:=by kernel_rfl
def X0:TI:=⟨Kd.oth,1,8,Value.nilFunc⟩
theorem aXv:qo Tryz.prog 212=some X0:=by kernel_rfl
def XZ:TI:=⟨Kd.oth,1,8,Value.nilFunc⟩
theorem aXu:qo Tryz.prog 213=some XZ:=by kernel_rfl
def XY:TI:=⟨Kd.oth,1,8,Value.nilFunc⟩
theorem aXt:qo Tryz.prog 214=some XY:=by kernel_rfl
def XX:TI:=⟨Kd.oth,1,8,Value.nilFunc⟩
theorem aXs:qo Tryz.prog 215=some XX:=by kernel_rfl
def XW:TI:=⟨Kd.int IntKind.u64,1,8,Value.int IntKind.u64 0⟩
theorem aXr:qo Tryz.prog 216=some XW:=by kernel_rfl
def XV:TI:=⟨Kd.oth,1,8,Value.nilFunc⟩
theorem aXq:qo Tryz.prog 217=some XV:=by kernel_rfl
def XU:TI:=⟨Kd.oth,1,8,Value.nilFunc⟩
theorem aXp:qo Tryz.prog 218=some XU:=by kernel_rfl
def XT:TI:=⟨Kd.oth,1,8,Value.nilFunc⟩
theorem aXo:qo Tryz.prog 219=some XT:=by kernel_rfl
def XS:TI:=⟨Kd.oth,1,8,Value.nilFunc⟩
theorem aXn:qo Tryz.prog 220=some XS:=by kernel_rfl
def XR:TI:=⟨Kd.oth,1,8,Value.nilFunc⟩
theorem aXm:qo Tryz.prog 221=some XR:=by kernel_rfl
def XQ:TI:=⟨Kd.oth,1,8,Value.nilFunc⟩
theorem aXl:qo Tryz.prog 222=some XQ:=by kernel_rfl
def XP:TI:=⟨Kd.oth,1,8,Value.nilFunc⟩
theorem aXk:qo Tryz.prog 224=some XP:=by kernel_rfl
def XO:TI:=⟨Kd.oth,1,8,Value.nilFunc⟩
theorem aXj:qo Tryz.prog 225=some XO:=by kernel_rfl
def XN:TI:=⟨Kd.oth,1,8,Value.nilFunc⟩
theorem aXi:qo Tryz.prog 226=some XN:=by kernel_rfl
def XM:TI:=⟨Kd.oth,1,8,Value.nilFunc⟩
theorem aXh:qo Tryz.prog 227=some XM:=by kernel_rfl
def XL:TI:=⟨Kd.oth,1,8,Value.nilFunc⟩
theorem aXg:qo Tryz.prog 228=some XL:=by kernel_rfl
def XK:TI:=⟨Kd.oth,1,8,Value.nilFunc⟩
theorem aXf:qo Tryz.prog 229=some XK:=by kernel_rfl
def XJ:TI:=⟨Kd.oth,1,8,Value.nilFunc⟩
theorem aXe:qo Tryz.prog 230=some XJ:=by kernel_rfl
def XI:TI:=⟨Kd.oth,1,8,Value.nilFunc⟩
theorem aXd:qo Tryz.prog 231=some XI:=by kernel_rfl
def XH:TI:=⟨Kd.oth,1,8,Value.nilFunc⟩
theorem aXc:qo Tryz.prog 232=some XH:=by kernel_rfl
def XG:TI:=⟨Kd.oth,1,8,Value.nilFunc⟩
theorem aXb:qo Tryz.prog 233=some XG:=by kernel_rfl
def XF:TI:=⟨Kd.oth,1,8,Value.nilFunc⟩
theorem aXa:qo Tryz.prog 234=some XF:=by kernel_rfl
def XE:TI:=⟨Kd.oth,1,8,Value.nilFunc⟩
theorem aW9:qo Tryz.prog 235=some XE:=by kernel_rfl
def XD:TI:=⟨Kd.oth,1,8,Value.nilFunc⟩
theorem aW8:qo Tryz.prog 236=some XD:=by kernel_rfl
def XC:TI:=⟨Kd.oth,1,8,Value.nilFunc⟩
theorem aW7:qo Tryz.prog 237=some XC:=by kernel_rfl
def XB:TI:=⟨Kd.oth,1,8,Value.nilFunc⟩
theorem aW6:qo Tryz.prog 238=some XB:=by kernel_rfl
def XA:TI:=⟨Kd.oth,1,8,Value.nilFunc⟩
theorem aW5:qo Tryz.prog 239=some XA:=by kernel_rfl
def Xz:TI:=⟨Kd.oth,1,8,Value.nilFunc⟩
theorem aW4:qo Tryz.prog 240=some Xz:=by kernel_rfl
def Xy:TI:=⟨Kd.oth,1,8,Value.nilFunc⟩
theorem aW3:qo Tryz.prog 241=some Xy:=by kernel_rfl
def Xx:TI:=⟨Kd.oth,1,8,Value.nilFunc⟩
theorem aW2:qo Tryz.prog 242=some Xx:=by kernel_rfl
def Xw:TI:=⟨Kd.oth,1,8,Value.nilFunc⟩
theorem aW1:qo Tryz.prog 243=some Xw:=by kernel_rfl
def Xv:TI:=⟨Kd.oth,1,8,Value.nilFunc⟩
theorem aW0:qo Tryz.prog 245=some Xv:=by kernel_rfl
def Xu:TI:=⟨Kd.oth,1,8,Value.nilFunc⟩
theorem aWZ:qo Tryz.prog 246=some Xu:=by kernel_rfl
def Xt:TI:=⟨Kd.oth,1,8,Value.nilFunc⟩
theorem aWY:qo Tryz.prog 247=some Xt:=by kernel_rfl
def Xs:TI:=⟨Kd.oth,1,8,Value.nilFunc⟩
theorem aWX:qo Tryz.prog 249=some Xs:=by kernel_rfl
def Xr:TI:=⟨Kd.oth,1,8,Value.nilFunc⟩
theorem aWW:qo Tryz.prog 250=some Xr:=by kernel_rfl
def Xq:TI:=⟨Kd.oth,1,8,Value.nilFunc⟩
theorem aWV:qo Tryz.prog 251=some Xq:=by kernel_rfl
def Xp:TI:=⟨Kd.int IntKind.u32,1,4,Value.int IntKind.u32 0⟩
theorem aWU:qo Tryz.prog 252=some Xp:=by kernel_rfl
def Xo:TI:=⟨Kd.oth,1,8,Value.nilFunc⟩
theorem aWT:qo Tryz.prog 253=some Xo:=by kernel_rfl
def Xn:TI:=⟨Kd.int IntKind.u64,1,8,Value.int IntKind.u64 0⟩
theorem aWS:qo Tryz.prog 254=some Xn:=by kernel_rfl
def Xm:TI:=⟨Kd.oth,1,8,Value.nilFunc⟩
theorem aWR:qo Tryz.prog 256=some Xm:=by kernel_rfl
def Xl:TI:=⟨Kd.oth,1,8,Value.nilFunc⟩
theorem aWQ:qo Tryz.prog 257=some Xl:=by kernel_rfl
def Xk:TI:=⟨Kd.oth,1,8,Value.nilFunc⟩
theorem aWP:qo Tryz.prog 258=some Xk:=by kernel_rfl
def Xj:TI:=⟨Kd.oth,1,8,Value.nilFunc⟩
theorem aWO:qo Tryz.prog 259=some Xj:=by kernel_rfl
def Xi:TI:=⟨Kd.oth,1,8,Value.nilFunc⟩
theorem aWN:qo Tryz.prog 260=some Xi:=by kernel_rfl
def Xh:TI:=⟨Kd.oth,1,8,Value.nilFunc⟩
theorem aWM:qo Tryz.prog 263=some Xh:=by kernel_rfl
def Xg:TI:=⟨Kd.stru [(0,266)],0,0,Value.agg ⟨[]⟩⟩
theorem aWL:qo Tryz.prog 267=some Xg:=by kernel_rfl
def Xf:TI:=⟨Kd.stru [(0,266)],0,0,Value.agg ⟨[]⟩⟩
theorem aWK:qo Tryz.prog 268=some Xf:=by kernel_rfl
def Xe:TI:=⟨Kd.int IntKind.u8,1,1,Value.int IntKind.u8 0⟩
theorem aWJ:qo Tryz.prog 269=some Xe:=by kernel_rfl
def Xd:TI:=⟨Kd.int IntKind.u8,1,1,Value.int IntKind.u8 0⟩
theorem aWI:qo Tryz.prog 270=some Xd:=by kernel_rfl
def Xc:TI:=⟨Kd.oth,1,8,Value.nilFunc⟩
theorem aWH:qo Tryz.prog 271=some Xc:=by kernel_rfl
def Xb:TI:=⟨Kd.int IntKind.i32,1,4,Value.int IntKind.i32 0⟩
theorem aWG:qo Tryz.prog 273=some Xb:=by kernel_rfl
def Xa:TI:=⟨Kd.int IntKind.i32,1,4,Value.int IntKind.i32 0⟩
theorem aWF:qo Tryz.prog 274=some Xa:=by kernel_rfl
def Y9:TI:=⟨Kd.oth,1,8,Value.nilFunc⟩
theorem aWE:qo Tryz.prog 277=some Y9:=by kernel_rfl
theorem ty1{K:TI→Prop}:@tyW Tryz.prog 1 ⟨K⟩=K ti1:=qj tf1
theorem aNI:ti1.kd=Kd.oth:=ID rfl
theorem aIF:ti1.kd.agg=false:=ID rfl
theorem av4:ti1.size=1:=ID rfl
theorem amE:ti1.bytes=8:=ID rfl
theorem aNG:qv ti1=True:=eq_true rfl
theorem aNH:zc ti1=[.v Value.nilFunc]:=ID rfl
theorem ty2{K:TI→Prop}:@tyW Tryz.prog 2 ⟨K⟩=K ti2:=qj tf2
theorem aNF:ti2.kd=Kd.int IntKind.i64:=ID rfl
theorem aIj:ti2.kd.agg=false:=ID rfl
theorem asT:ti2.size=1:=ID rfl
theorem alq:ti2.bytes=8:=ID rfl
theorem aND:qv ti2=True:=eq_true rfl
theorem aNE:zc ti2=[.v (Value.int IntKind.i64 0)]:=ID rfl
theorem ty3{K:TI→Prop}:@tyW Tryz.prog 3 ⟨K⟩=K ti3:=qj tf3
theorem aNC:ti3.kd=Kd.int IntKind.i64:=ID rfl
theorem aHO:ti3.kd.agg=false:=ID rfl
theorem asI:ti3.size=1:=ID rfl
theorem alc:ti3.bytes=8:=ID rfl
theorem aNA:qv ti3=True:=eq_true rfl
theorem aNB:zc ti3=[.v (Value.int IntKind.i64 0)]:=ID rfl
theorem ty4{K:TI→Prop}:@tyW Tryz.prog 4 ⟨K⟩=K ti4:=qj tf4
theorem aNz:ti4.kd=Kd.bool:=ID rfl
theorem aHp:ti4.kd.agg=false:=ID rfl
theorem asz:ti4.size=1:=ID rfl
theorem ak3:ti4.bytes=1:=ID rfl
theorem aNx:qv ti4=True:=eq_true rfl
theorem aNy:zc ti4=[.v (Value.bool false)]:=ID rfl
theorem ty5{K:TI→Prop}:@tyW Tryz.prog 5 ⟨K⟩=K ti5:=qj tf5
theorem aNw:ti5.kd=Kd.int IntKind.u8:=ID rfl
theorem aG3:ti5.kd.agg=false:=ID rfl
theorem asr:ti5.size=1:=ID rfl
theorem akU:ti5.bytes=1:=ID rfl
theorem aNu:qv ti5=True:=eq_true rfl
theorem aNv:zc ti5=[.v (Value.int IntKind.u8 0)]:=ID rfl
theorem ty6{K:TI→Prop}:@tyW Tryz.prog 6 ⟨K⟩=K ti6:=qj tf6
theorem aNt:ti6.kd=Kd.int IntKind.u8:=ID rfl
theorem aGB:ti6.kd.agg=false:=ID rfl
theorem ash:ti6.size=1:=ID rfl
theorem akK:ti6.bytes=1:=ID rfl
theorem aNr:qv ti6=True:=eq_true rfl
theorem aNs:zc ti6=[.v (Value.int IntKind.u8 0)]:=ID rfl
theorem ty7{K:TI→Prop}:@tyW Tryz.prog 7 ⟨K⟩=K ti7:=qj tf7
theorem aNq:ti7.kd=Kd.stru [(0,2),(1,3),(2,4),(3,6)]:=ID rfl
theorem aGi:ti7.kd.agg=true:=ID rfl
theorem asa:ti7.size=4:=ID rfl
theorem akD:ti7.bytes=24:=ID rfl
theorem aNo:qv ti7=True:=eq_true rfl
theorem aNp:zc ti7=[.v (Value.int IntKind.i64 0),.v (Value.int IntKind.i64 0),.v (Value.bool false),.v (Value.int IntKind.u8 0)]:=ID rfl
theorem aSO{K:Nat→TI→Prop}:@qz Tryz.prog 7 0 ⟨K⟩=K 0 ti2:=qs (ti:=ti7) (tf:=ti2) (fo:=(0,2)) (fs:=[(0,2),(1,3),(2,4),(3,6)]) tf7 rfl rfl tf2
theorem aZk{K:Nat→Nat→Prop}:qt Tryz.prog [(0,2),(1,3),(2,4),(3,6)] 0 K=K 0 1:=qr (tf:=ti2) (fo:=(0,2)) (fs:=[(0,2),(1,3),(2,4),(3,6)]) rfl tf2
theorem aSN{K:Nat→TI→Prop}:@qz Tryz.prog 7 1 ⟨K⟩=K 1 ti3:=qs (ti:=ti7) (tf:=ti3) (fo:=(1,3)) (fs:=[(0,2),(1,3),(2,4),(3,6)]) tf7 rfl rfl tf3
theorem aZj{K:Nat→Nat→Prop}:qt Tryz.prog [(0,2),(1,3),(2,4),(3,6)] 1 K=K 1 1:=qr (tf:=ti3) (fo:=(1,3)) (fs:=[(0,2),(1,3),(2,4),(3,6)]) rfl tf3
theorem aSM{K:Nat→TI→Prop}:@qz Tryz.prog 7 2 ⟨K⟩=K 2 ti4:=qs (ti:=ti7) (tf:=ti4) (fo:=(2,4)) (fs:=[(0,2),(1,3),(2,4),(3,6)]) tf7 rfl rfl tf4
theorem aZi{K:Nat→Nat→Prop}:qt Tryz.prog [(0,2),(1,3),(2,4),(3,6)] 2 K=K 2 1:=qr (tf:=ti4) (fo:=(2,4)) (fs:=[(0,2),(1,3),(2,4),(3,6)]) rfl tf4
theorem aSL{K:Nat→TI→Prop}:@qz Tryz.prog 7 3 ⟨K⟩=K 3 ti6:=qs (ti:=ti7) (tf:=ti6) (fo:=(3,6)) (fs:=[(0,2),(1,3),(2,4),(3,6)]) tf7 rfl rfl tf6
theorem aZh{K:Nat→Nat→Prop}:qt Tryz.prog [(0,2),(1,3),(2,4),(3,6)] 3 K=K 3 1:=qr (tf:=ti6) (fo:=(3,6)) (fs:=[(0,2),(1,3),(2,4),(3,6)]) rfl tf6
theorem aZD:∀f∈([(0,2),(1,3),(2,4),(3,6)]:List (Nat×Nat)),(qo Tryz.prog f.2).isSome=true:=by
 intro f hf
 simp only[List.mem_cons,List.not_mem_nil,or_false]at hf
 rcases hf with rfl|rfl|rfl|rfl
 ·rw[tf2];rfl
 ·rw[tf3];rfl
 ·rw[tf4];rfl
 ·rw[tf6];rfl
theorem ben{ps:List (Nat×AV)}{K:AV→Prop}:@zi Tryz.prog 7 ps ⟨K⟩=@zg (qt Tryz.prog [(0,2),(1,3),(2,4),(3,6)]) (zc ti7) ps ⟨fun cs=>K (.ag cs)⟩:=qJ tf7 rfl aZD
theorem ty8{K:TI→Prop}:@tyW Tryz.prog 8 ⟨K⟩=K ti8:=qj tf8
theorem aNn:ti8.kd=Kd.stru [(0,2),(1,3),(2,4),(3,6)]:=ID rfl
theorem aFT:ti8.kd.agg=true:=ID rfl
theorem ar1:ti8.size=4:=ID rfl
theorem aks:ti8.bytes=24:=ID rfl
theorem aNl:qv ti8=True:=eq_true rfl
theorem aNm:zc ti8=[.v (Value.int IntKind.i64 0),.v (Value.int IntKind.i64 0),.v (Value.bool false),.v (Value.int IntKind.u8 0)]:=ID rfl
theorem aSK{K:Nat→TI→Prop}:@qz Tryz.prog 8 0 ⟨K⟩=K 0 ti2:=qs (ti:=ti8) (tf:=ti2) (fo:=(0,2)) (fs:=[(0,2),(1,3),(2,4),(3,6)]) tf8 rfl rfl tf2
theorem aZg{K:Nat→Nat→Prop}:qt Tryz.prog [(0,2),(1,3),(2,4),(3,6)] 0 K=K 0 1:=qr (tf:=ti2) (fo:=(0,2)) (fs:=[(0,2),(1,3),(2,4),(3,6)]) rfl tf2
theorem aSJ{K:Nat→TI→Prop}:@qz Tryz.prog 8 1 ⟨K⟩=K 1 ti3:=qs (ti:=ti8) (tf:=ti3) (fo:=(1,3)) (fs:=[(0,2),(1,3),(2,4),(3,6)]) tf8 rfl rfl tf3
theorem aZf{K:Nat→Nat→Prop}:qt Tryz.prog [(0,2),(1,3),(2,4),(3,6)] 1 K=K 1 1:=qr (tf:=ti3) (fo:=(1,3)) (fs:=[(0,2),(1,3),(2,4),(3,6)]) rfl tf3
theorem aSI{K:Nat→TI→Prop}:@qz Tryz.prog 8 2 ⟨K⟩=K 2 ti4:=qs (ti:=ti8) (tf:=ti4) (fo:=(2,4)) (fs:=[(0,2),(1,3),(2,4),(3,6)]) tf8 rfl rfl tf4
theorem aZe{K:Nat→Nat→Prop}:qt Tryz.prog [(0,2),(1,3),(2,4),(3,6)] 2 K=K 2 1:=qr (tf:=ti4) (fo:=(2,4)) (fs:=[(0,2),(1,3),(2,4),(3,6)]) rfl tf4
theorem aSH{K:Nat→TI→Prop}:@qz Tryz.prog 8 3 ⟨K⟩=K 3 ti6:=qs (ti:=ti8) (tf:=ti6) (fo:=(3,6)) (fs:=[(0,2),(1,3),(2,4),(3,6)]) tf8 rfl rfl tf6
theorem aZd{K:Nat→Nat→Prop}:qt Tryz.prog [(0,2),(1,3),(2,4),(3,6)] 3 K=K 3 1:=qr (tf:=ti6) (fo:=(3,6)) (fs:=[(0,2),(1,3),(2,4),(3,6)]) rfl tf6
theorem aZC:∀f∈([(0,2),(1,3),(2,4),(3,6)]:List (Nat×Nat)),(qo Tryz.prog f.2).isSome=true:=by
 intro f hf
 simp only[List.mem_cons,List.not_mem_nil,or_false]at hf
 rcases hf with rfl|rfl|rfl|rfl
 ·rw[tf2];rfl
 ·rw[tf3];rfl
 ·rw[tf4];rfl
 ·rw[tf6];rfl
theorem bem{ps:List (Nat×AV)}{K:AV→Prop}:@zi Tryz.prog 8 ps ⟨K⟩=@zg (qt Tryz.prog [(0,2),(1,3),(2,4),(3,6)]) (zc ti8) ps ⟨fun cs=>K (.ag cs)⟩:=qJ tf8 rfl aZC
theorem ty9{K:TI→Prop}:@tyW Tryz.prog 9 ⟨K⟩=K ti9:=qj tf9
theorem aNk:ti9.kd=Kd.str:=ID rfl
theorem aFu:ti9.kd.agg=false:=ID rfl
theorem arS:ti9.size=1:=ID rfl
theorem akj:ti9.bytes=16:=ID rfl
theorem aNi:qv ti9=True:=eq_true rfl
theorem aNj:zc ti9=[.v (Value.string {data:=⟨[]⟩})]:=ID rfl
theorem bcT{K:TI→Prop}:@tyW Tryz.prog 10 ⟨K⟩=K aEz:=qj bdI
theorem aIO:aEz.kd=Kd.str:=ID rfl
theorem aAd:aEz.kd.agg=false:=ID rfl
theorem an5:aEz.size=1:=ID rfl
theorem aiE:aEz.bytes=16:=ID rfl
theorem aIM:qv aEz=True:=eq_true rfl
theorem aIN:zc aEz=[.v (Value.string {data:=⟨[]⟩})]:=ID rfl
theorem bcS{K:TI→Prop}:@tyW Tryz.prog 11 ⟨K⟩=K aEy:=qj bdH
theorem aIL:aEy.kd=Kd.str:=ID rfl
theorem azI:aEy.kd.agg=false:=ID rfl
theorem anU:aEy.size=1:=ID rfl
theorem ait:aEy.bytes=16:=ID rfl
theorem aIJ:qv aEy=True:=eq_true rfl
theorem aIK:zc aEy=[.v (Value.string {data:=⟨[]⟩})]:=ID rfl
theorem bcR{K:TI→Prop}:@tyW Tryz.prog 12 ⟨K⟩=K aEx:=qj bdG
theorem aII:aEx.kd=Kd.int IntKind.u64:=ID rfl
theorem azd:aEx.kd.agg=false:=ID rfl
theorem anJ:aEx.size=1:=ID rfl
theorem aii:aEx.bytes=8:=ID rfl
theorem aIG:qv aEx=True:=eq_true rfl
theorem aIH:zc aEx=[.v (Value.int IntKind.u64 0)]:=ID rfl
theorem bcQ{K:TI→Prop}:@tyW Tryz.prog 21 ⟨K⟩=K aEw:=qj bdF
theorem aIE:aEw.kd=Kd.int IntKind.i32:=ID rfl
theorem ave:aEw.kd.agg=false:=ID rfl
theorem amm:aEw.size=1:=ID rfl
theorem agY:aEw.bytes=4:=ID rfl
theorem aIC:qv aEw=True:=eq_true rfl
theorem aID:zc aEw=[.v (Value.int IntKind.i32 0)]:=ID rfl
theorem bcP{K:TI→Prop}:@tyW Tryz.prog 22 ⟨K⟩=K aez:=qj aEC
theorem aIB:aez.kd=Kd.sli 5:=ID rfl
theorem auM:aez.kd.agg=false:=ID rfl
theorem amc:aez.size=1:=ID rfl
theorem agO:aez.bytes=24:=ID rfl
theorem aIz:qv aez=True:=eq_true rfl
theorem aIA:zc aez=[.v (Value.slice none 0 0)]:=ID rfl
theorem aY4{K:TI→Prop}:@yG Tryz.prog 22 ⟨K⟩=K ti5:=Zv aEC rfl tf5
theorem bcO{K:TI→Prop}:@tyW Tryz.prog 23 ⟨K⟩=K aey:=qj aEB
theorem aIy:aey.kd=Kd.sli 40:=ID rfl
theorem auh:aey.kd.agg=false:=ID rfl
theorem al1:aey.size=1:=ID rfl
theorem agD:aey.bytes=24:=ID rfl
theorem aIw:qv aey=True:=eq_true rfl
theorem aIx:zc aey=[.v (Value.slice none 0 0)]:=ID rfl
theorem aY3{K:TI→Prop}:@yG Tryz.prog 23 ⟨K⟩=K Zb:=Zv aEB rfl Ku
theorem bcN{K:TI→Prop}:@tyW Tryz.prog 24 ⟨K⟩=K al0:=qj aT3
theorem aIv:al0.kd=Kd.stru [(0,3),(1,23)]:=ID rfl
theorem atS:al0.kd.agg=true:=ID rfl
theorem alR:al0.size=2:=ID rfl
theorem agu:al0.bytes=32:=ID rfl
theorem aIt:qv al0=True:=eq_true rfl
theorem aIu:zc al0=[.v (Value.int IntKind.i64 0),.v (Value.slice none 0 0)]:=ID rfl
theorem aLC{K:Nat→TI→Prop}:@qz Tryz.prog 24 0 ⟨K⟩=K 0 ti3:=qs (ti:=al0) (tf:=ti3) (fo:=(0,3)) (fs:=[(0,3),(1,23)]) aT3 rfl rfl tf3
theorem aOD{K:Nat→Nat→Prop}:qt Tryz.prog [(0,3),(1,23)] 0 K=K 0 1:=qr (tf:=ti3) (fo:=(0,3)) (fs:=[(0,3),(1,23)]) rfl tf3
theorem aLB{K:Nat→TI→Prop}:@qz Tryz.prog 24 1 ⟨K⟩=K 1 aey:=qs (ti:=al0) (tf:=aey) (fo:=(1,23)) (fs:=[(0,3),(1,23)]) aT3 rfl rfl aEB
theorem aOC{K:Nat→Nat→Prop}:qt Tryz.prog [(0,3),(1,23)] 1 K=K 1 1:=qr (tf:=aey) (fo:=(1,23)) (fs:=[(0,3),(1,23)]) rfl aEB
theorem aPt:∀f∈([(0,3),(1,23)]:List (Nat×Nat)),(qo Tryz.prog f.2).isSome=true:=by
 intro f hf
 simp only[List.mem_cons,List.not_mem_nil,or_false]at hf
 rcases hf with rfl|rfl
 ·rw[tf3];rfl
 ·rw[aEB];rfl
theorem bbv{ps:List (Nat×AV)}{K:AV→Prop}:@zi Tryz.prog 24 ps ⟨K⟩=@zg (qt Tryz.prog [(0,3),(1,23)]) (zc al0) ps ⟨fun cs=>K (.ag cs)⟩:=qJ aT3 rfl aPt
theorem bcM{K:TI→Prop}:@tyW Tryz.prog 25 ⟨K⟩=K alQ:=qj aT2
theorem aIs:alQ.kd=Kd.stru [(0,3),(1,23)]:=ID rfl
theorem atq:alQ.kd.agg=true:=ID rfl
theorem alG:alQ.size=2:=ID rfl
theorem agk:alQ.bytes=32:=ID rfl
theorem aIq:qv alQ=True:=eq_true rfl
theorem aIr:zc alQ=[.v (Value.int IntKind.i64 0),.v (Value.slice none 0 0)]:=ID rfl
theorem aLA{K:Nat→TI→Prop}:@qz Tryz.prog 25 0 ⟨K⟩=K 0 ti3:=qs (ti:=alQ) (tf:=ti3) (fo:=(0,3)) (fs:=[(0,3),(1,23)]) aT2 rfl rfl tf3
theorem aOB{K:Nat→Nat→Prop}:qt Tryz.prog [(0,3),(1,23)] 0 K=K 0 1:=qr (tf:=ti3) (fo:=(0,3)) (fs:=[(0,3),(1,23)]) rfl tf3
theorem aLz{K:Nat→TI→Prop}:@qz Tryz.prog 25 1 ⟨K⟩=K 1 aey:=qs (ti:=alQ) (tf:=aey) (fo:=(1,23)) (fs:=[(0,3),(1,23)]) aT2 rfl rfl aEB
theorem aOA{K:Nat→Nat→Prop}:qt Tryz.prog [(0,3),(1,23)] 1 K=K 1 1:=qr (tf:=aey) (fo:=(1,23)) (fs:=[(0,3),(1,23)]) rfl aEB
theorem aPs:∀f∈([(0,3),(1,23)]:List (Nat×Nat)),(qo Tryz.prog f.2).isSome=true:=by
 intro f hf
 simp only[List.mem_cons,List.not_mem_nil,or_false]at hf
 rcases hf with rfl|rfl
 ·rw[tf3];rfl
 ·rw[aEB];rfl
theorem bbu{ps:List (Nat×AV)}{K:AV→Prop}:@zi Tryz.prog 25 ps ⟨K⟩=@zg (qt Tryz.prog [(0,3),(1,23)]) (zc alQ) ps ⟨fun cs=>K (.ag cs)⟩:=qJ aT2 rfl aPs
theorem bcL{K:TI→Prop}:@tyW Tryz.prog 27 ⟨K⟩=K aEv:=qj bdE
theorem aIp:aEv.kd=Kd.oth:=ID rfl
theorem asV:aEv.kd.agg=false:=ID rfl
theorem als:aEv.size=1:=ID rfl
theorem af8:aEv.bytes=8:=ID rfl
theorem aIn:qv aEv=True:=eq_true rfl
theorem aIo:zc aEv=[.v Value.nilFunc]:=ID rfl
theorem bcK{K:TI→Prop}:@tyW Tryz.prog 29 ⟨K⟩=K aEu:=qj bdD
theorem aIm:aEu.kd=Kd.oth:=ID rfl
theorem asU:aEu.kd.agg=false:=ID rfl
theorem alr:aEu.size=1:=ID rfl
theorem af7:aEu.bytes=8:=ID rfl
theorem aIk:qv aEu=True:=eq_true rfl
theorem aIl:zc aEu=[.v Value.nilFunc]:=ID rfl
theorem bcJ{K:TI→Prop}:@tyW Tryz.prog 30 ⟨K⟩=K aEt:=qj bdC
theorem aIi:aEt.kd=Kd.oth:=ID rfl
theorem asS:aEt.kd.agg=false:=ID rfl
theorem alp:aEt.size=1:=ID rfl
theorem af6:aEt.bytes=8:=ID rfl
theorem aIg:qv aEt=True:=eq_true rfl
theorem aIh:zc aEt=[.v Value.nilFunc]:=ID rfl
theorem bcI{K:TI→Prop}:@tyW Tryz.prog 31 ⟨K⟩=K aEs:=qj bdB
theorem aIf:aEs.kd=Kd.oth:=ID rfl
theorem asR:aEs.kd.agg=false:=ID rfl
theorem alo:aEs.size=1:=ID rfl
theorem af5:aEs.bytes=8:=ID rfl
theorem aId:qv aEs=True:=eq_true rfl
theorem aIe:zc aEs=[.v Value.nilFunc]:=ID rfl
theorem bcH{K:TI→Prop}:@tyW Tryz.prog 32 ⟨K⟩=K aEr:=qj bdA
theorem aIc:aEr.kd=Kd.oth:=ID rfl
theorem asQ:aEr.kd.agg=false:=ID rfl
theorem aln:aEr.size=1:=ID rfl
theorem af4:aEr.bytes=8:=ID rfl
theorem aIa:qv aEr=True:=eq_true rfl
theorem aIb:zc aEr=[.v Value.nilFunc]:=ID rfl
theorem bcG{K:TI→Prop}:@tyW Tryz.prog 33 ⟨K⟩=K aEq:=qj bdz
theorem aH9:aEq.kd=Kd.oth:=ID rfl
theorem asP:aEq.kd.agg=false:=ID rfl
theorem alm:aEq.size=1:=ID rfl
theorem af3:aEq.bytes=8:=ID rfl
theorem aH7:qv aEq=True:=eq_true rfl
theorem aH8:zc aEq=[.v Value.nilFunc]:=ID rfl
theorem bcF{K:TI→Prop}:@tyW Tryz.prog 34 ⟨K⟩=K Ju:=qj aeA
theorem aH6:Ju.kd=Kd.sli 3:=ID rfl
theorem asO:Ju.kd.agg=false:=ID rfl
theorem alk:Ju.size=1:=ID rfl
theorem af2:Ju.bytes=24:=ID rfl
theorem aH4:qv Ju=True:=eq_true rfl
theorem aH5:zc Ju=[.v (Value.slice none 0 0)]:=ID rfl
theorem aY2{K:TI→Prop}:@yG Tryz.prog 34 ⟨K⟩=K ti3:=Zv aeA rfl tf3
theorem bcE{K:TI→Prop}:@tyW Tryz.prog 35 ⟨K⟩=K arx:=qj aWD
theorem aH3:arx.kd=Kd.stru [(0,34)]:=ID rfl
theorem asN:arx.kd.agg=true:=ID rfl
theorem alj:arx.size=1:=ID rfl
theorem af1:arx.bytes=24:=ID rfl
theorem aH1:qv arx=True:=eq_true rfl
theorem aH2:zc arx=[.v (Value.slice none 0 0)]:=ID rfl
theorem aLy{K:Nat→TI→Prop}:@qz Tryz.prog 35 0 ⟨K⟩=K 0 Ju:=qs (ti:=arx) (tf:=Ju) (fo:=(0,34)) (fs:=[(0,34)]) aWD rfl rfl aeA
theorem aOz{K:Nat→Nat→Prop}:qt Tryz.prog [(0,34)] 0 K=K 0 1:=qr (tf:=Ju) (fo:=(0,34)) (fs:=[(0,34)]) rfl aeA
theorem aPr:∀f∈([(0,34)]:List (Nat×Nat)),(qo Tryz.prog f.2).isSome=true:=by
 intro f hf
 simp only[List.mem_cons,List.not_mem_nil,or_false]at hf
 subst hf;rw[aeA];rfl
theorem bbt{ps:List (Nat×AV)}{K:AV→Prop}:@zi Tryz.prog 35 ps ⟨K⟩=@zg (qt Tryz.prog [(0,34)]) (zc arx) ps ⟨fun cs=>K (.ag cs)⟩:=qJ aWD rfl aPr
theorem bcD{K:TI→Prop}:@tyW Tryz.prog 36 ⟨K⟩=K aaC:=qj aAH
theorem aH0:aaC.kd=Kd.stru [(0,34)]:=ID rfl
theorem asM:aaC.kd.agg=true:=ID rfl
theorem ali:aaC.size=1:=ID rfl
theorem af0:aaC.bytes=24:=ID rfl
theorem aHY:qv aaC=True:=eq_true rfl
theorem aHZ:zc aaC=[.v (Value.slice none 0 0)]:=ID rfl
theorem aLx{K:Nat→TI→Prop}:@qz Tryz.prog 36 0 ⟨K⟩=K 0 Ju:=qs (ti:=aaC) (tf:=Ju) (fo:=(0,34)) (fs:=[(0,34)]) aAH rfl rfl aeA
theorem aOy{K:Nat→Nat→Prop}:qt Tryz.prog [(0,34)] 0 K=K 0 1:=qr (tf:=Ju) (fo:=(0,34)) (fs:=[(0,34)]) rfl aeA
theorem aPq:∀f∈([(0,34)]:List (Nat×Nat)),(qo Tryz.prog f.2).isSome=true:=by
 intro f hf
 simp only[List.mem_cons,List.not_mem_nil,or_false]at hf
 subst hf;rw[aeA];rfl
theorem bbs{ps:List (Nat×AV)}{K:AV→Prop}:@zi Tryz.prog 36 ps ⟨K⟩=@zg (qt Tryz.prog [(0,34)]) (zc aaC) ps ⟨fun cs=>K (.ag cs)⟩:=qJ aAH rfl aPq
theorem bcC{K:TI→Prop}:@tyW Tryz.prog 37 ⟨K⟩=K alh:=qj aT1
theorem aHX:alh.kd=Kd.stru [(0,4),(1,36)]:=ID rfl
theorem asL:alh.kd.agg=true:=ID rfl
theorem alg:alh.size=2:=ID rfl
theorem afZ:alh.bytes=32:=ID rfl
theorem aHV:qv alh=True:=eq_true rfl
theorem aHW:zc alh=[.v (Value.bool false),.v (Value.slice none 0 0)]:=ID rfl
theorem aLw{K:Nat→TI→Prop}:@qz Tryz.prog 37 0 ⟨K⟩=K 0 ti4:=qs (ti:=alh) (tf:=ti4) (fo:=(0,4)) (fs:=[(0,4),(1,36)]) aT1 rfl rfl tf4
theorem aOx{K:Nat→Nat→Prop}:qt Tryz.prog [(0,4),(1,36)] 0 K=K 0 1:=qr (tf:=ti4) (fo:=(0,4)) (fs:=[(0,4),(1,36)]) rfl tf4
theorem aLv{K:Nat→TI→Prop}:@qz Tryz.prog 37 1 ⟨K⟩=K 1 aaC:=qs (ti:=alh) (tf:=aaC) (fo:=(1,36)) (fs:=[(0,4),(1,36)]) aT1 rfl rfl aAH
theorem aOw{K:Nat→Nat→Prop}:qt Tryz.prog [(0,4),(1,36)] 1 K=K 1 1:=qr (tf:=aaC) (fo:=(1,36)) (fs:=[(0,4),(1,36)]) rfl aAH
theorem aPp:∀f∈([(0,4),(1,36)]:List (Nat×Nat)),(qo Tryz.prog f.2).isSome=true:=by
 intro f hf
 simp only[List.mem_cons,List.not_mem_nil,or_false]at hf
 rcases hf with rfl|rfl
 ·rw[tf4];rfl
 ·rw[aAH];rfl
theorem bbr{ps:List (Nat×AV)}{K:AV→Prop}:@zi Tryz.prog 37 ps ⟨K⟩=@zg (qt Tryz.prog [(0,4),(1,36)]) (zc alh) ps ⟨fun cs=>K (.ag cs)⟩:=qJ aT1 rfl aPp
theorem bcB{K:TI→Prop}:@tyW Tryz.prog 38 ⟨K⟩=K Y8:=qj ary
theorem aHU:Y8.kd=Kd.stru [(0,4),(1,36)]:=ID rfl
theorem asK:Y8.kd.agg=true:=ID rfl
theorem alf:Y8.size=2:=ID rfl
theorem afY:Y8.bytes=32:=ID rfl
theorem aHS:qv Y8=True:=eq_true rfl
theorem aHT:zc Y8=[.v (Value.bool false),.v (Value.slice none 0 0)]:=ID rfl
theorem aLu{K:Nat→TI→Prop}:@qz Tryz.prog 38 0 ⟨K⟩=K 0 ti4:=qs (ti:=Y8) (tf:=ti4) (fo:=(0,4)) (fs:=[(0,4),(1,36)]) ary rfl rfl tf4
theorem aOv{K:Nat→Nat→Prop}:qt Tryz.prog [(0,4),(1,36)] 0 K=K 0 1:=qr (tf:=ti4) (fo:=(0,4)) (fs:=[(0,4),(1,36)]) rfl tf4
theorem aLt{K:Nat→TI→Prop}:@qz Tryz.prog 38 1 ⟨K⟩=K 1 aaC:=qs (ti:=Y8) (tf:=aaC) (fo:=(1,36)) (fs:=[(0,4),(1,36)]) ary rfl rfl aAH
theorem aOu{K:Nat→Nat→Prop}:qt Tryz.prog [(0,4),(1,36)] 1 K=K 1 1:=qr (tf:=aaC) (fo:=(1,36)) (fs:=[(0,4),(1,36)]) rfl aAH
theorem aPo:∀f∈([(0,4),(1,36)]:List (Nat×Nat)),(qo Tryz.prog f.2).isSome=true:=by
 intro f hf
 simp only[List.mem_cons,List.not_mem_nil,or_false]at hf
 rcases hf with rfl|rfl
 ·rw[tf4];rfl
 ·rw[aAH];rfl
theorem bbq{ps:List (Nat×AV)}{K:AV→Prop}:@zi Tryz.prog 38 ps ⟨K⟩=@zg (qt Tryz.prog [(0,4),(1,36)]) (zc Y8) ps ⟨fun cs=>K (.ag cs)⟩:=qJ ary rfl aPo
theorem bcA{K:TI→Prop}:@tyW Tryz.prog 39 ⟨K⟩=K ale:=qj aT0
theorem aHR:ale.kd=Kd.stru [(0,38),(2,3)]:=ID rfl
theorem asJ:ale.kd.agg=true:=ID rfl
theorem ald:ale.size=3:=ID rfl
theorem afX:ale.bytes=40:=ID rfl
theorem aHP:qv ale=True:=eq_true rfl
theorem aHQ:zc ale=[.v (Value.bool false),.v (Value.slice none 0 0),.v (Value.int IntKind.i64 0)]:=ID rfl
theorem aLs{K:Nat→TI→Prop}:@qz Tryz.prog 39 0 ⟨K⟩=K 0 Y8:=qs (ti:=ale) (tf:=Y8) (fo:=(0,38)) (fs:=[(0,38),(2,3)]) aT0 rfl rfl ary
theorem aOt{K:Nat→Nat→Prop}:qt Tryz.prog [(0,38),(2,3)] 0 K=K 0 2:=qr (tf:=Y8) (fo:=(0,38)) (fs:=[(0,38),(2,3)]) rfl ary
theorem aLr{K:Nat→TI→Prop}:@qz Tryz.prog 39 1 ⟨K⟩=K 2 ti3:=qs (ti:=ale) (tf:=ti3) (fo:=(2,3)) (fs:=[(0,38),(2,3)]) aT0 rfl rfl tf3
theorem aOs{K:Nat→Nat→Prop}:qt Tryz.prog [(0,38),(2,3)] 1 K=K 2 1:=qr (tf:=ti3) (fo:=(2,3)) (fs:=[(0,38),(2,3)]) rfl tf3
theorem aPn:∀f∈([(0,38),(2,3)]:List (Nat×Nat)),(qo Tryz.prog f.2).isSome=true:=by
 intro f hf
 simp only[List.mem_cons,List.not_mem_nil,or_false]at hf
 rcases hf with rfl|rfl
 ·rw[ary];rfl
 ·rw[tf3];rfl
theorem bbp{ps:List (Nat×AV)}{K:AV→Prop}:@zi Tryz.prog 39 ps ⟨K⟩=@zg (qt Tryz.prog [(0,38),(2,3)]) (zc ale) ps ⟨fun cs=>K (.ag cs)⟩:=qJ aT0 rfl aPn
theorem bcz{K:TI→Prop}:@tyW Tryz.prog 40 ⟨K⟩=K Zb:=qj Ku
theorem aHN:Zb.kd=Kd.stru [(0,38),(2,3)]:=ID rfl
theorem asH:Zb.kd.agg=true:=ID rfl
theorem alb:Zb.size=3:=ID rfl
theorem afW:Zb.bytes=40:=ID rfl
theorem aHL:qv Zb=True:=eq_true rfl
theorem aHM:zc Zb=[.v (Value.bool false),.v (Value.slice none 0 0),.v (Value.int IntKind.i64 0)]:=ID rfl
theorem aLq{K:Nat→TI→Prop}:@qz Tryz.prog 40 0 ⟨K⟩=K 0 Y8:=qs (ti:=Zb) (tf:=Y8) (fo:=(0,38)) (fs:=[(0,38),(2,3)]) Ku rfl rfl ary
theorem aOr{K:Nat→Nat→Prop}:qt Tryz.prog [(0,38),(2,3)] 0 K=K 0 2:=qr (tf:=Y8) (fo:=(0,38)) (fs:=[(0,38),(2,3)]) rfl ary
theorem aLp{K:Nat→TI→Prop}:@qz Tryz.prog 40 1 ⟨K⟩=K 2 ti3:=qs (ti:=Zb) (tf:=ti3) (fo:=(2,3)) (fs:=[(0,38),(2,3)]) Ku rfl rfl tf3
theorem aOq{K:Nat→Nat→Prop}:qt Tryz.prog [(0,38),(2,3)] 1 K=K 2 1:=qr (tf:=ti3) (fo:=(2,3)) (fs:=[(0,38),(2,3)]) rfl tf3
theorem aPm:∀f∈([(0,38),(2,3)]:List (Nat×Nat)),(qo Tryz.prog f.2).isSome=true:=by
 intro f hf
 simp only[List.mem_cons,List.not_mem_nil,or_false]at hf
 rcases hf with rfl|rfl
 ·rw[ary];rfl
 ·rw[tf3];rfl
theorem bbo{ps:List (Nat×AV)}{K:AV→Prop}:@zi Tryz.prog 40 ps ⟨K⟩=@zg (qt Tryz.prog [(0,38),(2,3)]) (zc Zb) ps ⟨fun cs=>K (.ag cs)⟩:=qJ Ku rfl aPm
theorem bcy{K:TI→Prop}:@tyW Tryz.prog 41 ⟨K⟩=K aEp:=qj bdy
theorem aHK:aEp.kd=Kd.oth:=ID rfl
theorem asG:aEp.kd.agg=false:=ID rfl
theorem ala:aEp.size=1:=ID rfl
theorem afV:aEp.bytes=8:=ID rfl
theorem aHI:qv aEp=True:=eq_true rfl
theorem aHJ:zc aEp=[.v Value.nilFunc]:=ID rfl
theorem bcx{K:TI→Prop}:@tyW Tryz.prog 42 ⟨K⟩=K aEo:=qj bdx
theorem aHH:aEo.kd=Kd.oth:=ID rfl
theorem asF:aEo.kd.agg=false:=ID rfl
theorem ak9:aEo.size=1:=ID rfl
theorem afU:aEo.bytes=8:=ID rfl
theorem aHF:qv aEo=True:=eq_true rfl
theorem aHG:zc aEo=[.v Value.nilFunc]:=ID rfl
theorem bcw{K:TI→Prop}:@tyW Tryz.prog 44 ⟨K⟩=K aEn:=qj bdw
theorem aHE:aEn.kd=Kd.oth:=ID rfl
theorem asE:aEn.kd.agg=false:=ID rfl
theorem ak8:aEn.size=1:=ID rfl
theorem afT:aEn.bytes=8:=ID rfl
theorem aHC:qv aEn=True:=eq_true rfl
theorem aHD:zc aEn=[.v Value.nilFunc]:=ID rfl
theorem bcv{K:TI→Prop}:@tyW Tryz.prog 46 ⟨K⟩=K aEm:=qj bdv
theorem aHB:aEm.kd=Kd.oth:=ID rfl
theorem asD:aEm.kd.agg=false:=ID rfl
theorem ak7:aEm.size=1:=ID rfl
theorem afS:aEm.bytes=8:=ID rfl
theorem aHz:qv aEm=True:=eq_true rfl
theorem aHA:zc aEm=[.v Value.nilFunc]:=ID rfl
theorem bcu{K:TI→Prop}:@tyW Tryz.prog 47 ⟨K⟩=K aEl:=qj bdu
theorem aHy:aEl.kd=Kd.oth:=ID rfl
theorem asC:aEl.kd.agg=false:=ID rfl
theorem ak6:aEl.size=1:=ID rfl
theorem afR:aEl.bytes=8:=ID rfl
theorem aHw:qv aEl=True:=eq_true rfl
theorem aHx:zc aEl=[.v Value.nilFunc]:=ID rfl
theorem bct{K:TI→Prop}:@tyW Tryz.prog 48 ⟨K⟩=K aEk:=qj bdt
theorem aHv:aEk.kd=Kd.oth:=ID rfl
theorem asB:aEk.kd.agg=false:=ID rfl
theorem ak5:aEk.size=1:=ID rfl
theorem afQ:aEk.bytes=8:=ID rfl
theorem aHt:qv aEk=True:=eq_true rfl
theorem aHu:zc aEk=[.v Value.nilFunc]:=ID rfl
theorem bcs{K:TI→Prop}:@tyW Tryz.prog 49 ⟨K⟩=K aEj:=qj bds
theorem aHs:aEj.kd=Kd.oth:=ID rfl
theorem asA:aEj.kd.agg=false:=ID rfl
theorem ak4:aEj.size=1:=ID rfl
theorem afP:aEj.bytes=8:=ID rfl
theorem aHq:qv aEj=True:=eq_true rfl
theorem aHr:zc aEj=[.v Value.nilFunc]:=ID rfl
theorem bcr{K:TI→Prop}:@tyW Tryz.prog 50 ⟨K⟩=K ak2:=qj aTZ
theorem aHo:ak2.kd=Kd.stru [(0,40),(3,40)]:=ID rfl
theorem asy:ak2.kd.agg=true:=ID rfl
theorem ak1:ak2.size=6:=ID rfl
theorem afO:ak2.bytes=80:=ID rfl
theorem aHm:qv ak2=True:=eq_true rfl
theorem aHn:zc ak2=[.v (Value.bool false),.v (Value.slice none 0 0),.v (Value.int IntKind.i64 0),.v (Value.bool false),.v (Value.slice none 0 0),.v (Value.int IntKind.i64 0)]:=ID rfl
theorem aLo{K:Nat→TI→Prop}:@qz Tryz.prog 50 0 ⟨K⟩=K 0 Zb:=qs (ti:=ak2) (tf:=Zb) (fo:=(0,40)) (fs:=[(0,40),(3,40)]) aTZ rfl rfl Ku
theorem aOp{K:Nat→Nat→Prop}:qt Tryz.prog [(0,40),(3,40)] 0 K=K 0 3:=qr (tf:=Zb) (fo:=(0,40)) (fs:=[(0,40),(3,40)]) rfl Ku
theorem aLn{K:Nat→TI→Prop}:@qz Tryz.prog 50 1 ⟨K⟩=K 3 Zb:=qs (ti:=ak2) (tf:=Zb) (fo:=(3,40)) (fs:=[(0,40),(3,40)]) aTZ rfl rfl Ku
theorem aOo{K:Nat→Nat→Prop}:qt Tryz.prog [(0,40),(3,40)] 1 K=K 3 3:=qr (tf:=Zb) (fo:=(3,40)) (fs:=[(0,40),(3,40)]) rfl Ku
theorem aPl:∀f∈([(0,40),(3,40)]:List (Nat×Nat)),(qo Tryz.prog f.2).isSome=true:=by
 intro f hf
 simp only[List.mem_cons,List.not_mem_nil,or_false]at hf
 rcases hf with rfl|rfl
 ·rw[Ku];rfl
 ·rw[Ku];rfl
theorem bbn{ps:List (Nat×AV)}{K:AV→Prop}:@zi Tryz.prog 50 ps ⟨K⟩=@zg (qt Tryz.prog [(0,40),(3,40)]) (zc ak2) ps ⟨fun cs=>K (.ag cs)⟩:=qJ aTZ rfl aPl
theorem bcq{K:TI→Prop}:@tyW Tryz.prog 51 ⟨K⟩=K aj9:=qj aNJ
theorem aHl:aj9.kd=Kd.stru [(0,40),(3,40)]:=ID rfl
theorem asx:aj9.kd.agg=true:=ID rfl
theorem ak0:aj9.size=6:=ID rfl
theorem afN:aj9.bytes=80:=ID rfl
theorem aHj:qv aj9=True:=eq_true rfl
theorem aHk:zc aj9=[.v (Value.bool false),.v (Value.slice none 0 0),.v (Value.int IntKind.i64 0),.v (Value.bool false),.v (Value.slice none 0 0),.v (Value.int IntKind.i64 0)]:=ID rfl
theorem aLm{K:Nat→TI→Prop}:@qz Tryz.prog 51 0 ⟨K⟩=K 0 Zb:=qs (ti:=aj9) (tf:=Zb) (fo:=(0,40)) (fs:=[(0,40),(3,40)]) aNJ rfl rfl Ku
theorem aOn{K:Nat→Nat→Prop}:qt Tryz.prog [(0,40),(3,40)] 0 K=K 0 3:=qr (tf:=Zb) (fo:=(0,40)) (fs:=[(0,40),(3,40)]) rfl Ku
theorem aLl{K:Nat→TI→Prop}:@qz Tryz.prog 51 1 ⟨K⟩=K 3 Zb:=qs (ti:=aj9) (tf:=Zb) (fo:=(3,40)) (fs:=[(0,40),(3,40)]) aNJ rfl rfl Ku
theorem aOm{K:Nat→Nat→Prop}:qt Tryz.prog [(0,40),(3,40)] 1 K=K 3 3:=qr (tf:=Zb) (fo:=(3,40)) (fs:=[(0,40),(3,40)]) rfl Ku
theorem aPk:∀f∈([(0,40),(3,40)]:List (Nat×Nat)),(qo Tryz.prog f.2).isSome=true:=by
 intro f hf
 simp only[List.mem_cons,List.not_mem_nil,or_false]at hf
 rcases hf with rfl|rfl
 ·rw[Ku];rfl
 ·rw[Ku];rfl
theorem bbm{ps:List (Nat×AV)}{K:AV→Prop}:@zi Tryz.prog 51 ps ⟨K⟩=@zg (qt Tryz.prog [(0,40),(3,40)]) (zc aj9) ps ⟨fun cs=>K (.ag cs)⟩:=qJ aNJ rfl aPk
theorem bcp{K:TI→Prop}:@tyW Tryz.prog 53 ⟨K⟩=K aEi:=qj bdr
theorem aHi:aEi.kd=Kd.oth:=ID rfl
theorem asw:aEi.kd.agg=false:=ID rfl
theorem akZ:aEi.size=1:=ID rfl
theorem afM:aEi.bytes=8:=ID rfl
theorem aHg:qv aEi=True:=eq_true rfl
theorem aHh:zc aEi=[.v Value.nilFunc]:=ID rfl
theorem bco{K:TI→Prop}:@tyW Tryz.prog 55 ⟨K⟩=K aEh:=qj bdq
theorem aHf:aEh.kd=Kd.oth:=ID rfl
theorem asv:aEh.kd.agg=false:=ID rfl
theorem akY:aEh.size=1:=ID rfl
theorem afL:aEh.bytes=8:=ID rfl
theorem aHd:qv aEh=True:=eq_true rfl
theorem aHe:zc aEh=[.v Value.nilFunc]:=ID rfl
theorem bcn{K:TI→Prop}:@tyW Tryz.prog 56 ⟨K⟩=K aEg:=qj bdp
theorem aHc:aEg.kd=Kd.oth:=ID rfl
theorem asu:aEg.kd.agg=false:=ID rfl
theorem akX:aEg.size=1:=ID rfl
theorem afK:aEg.bytes=8:=ID rfl
theorem aHa:qv aEg=True:=eq_true rfl
theorem aHb:zc aEg=[.v Value.nilFunc]:=ID rfl
theorem bcm{K:TI→Prop}:@tyW Tryz.prog 57 ⟨K⟩=K aEf:=qj bdo
theorem aG9:aEf.kd=Kd.oth:=ID rfl
theorem ast:aEf.kd.agg=false:=ID rfl
theorem akW:aEf.size=1:=ID rfl
theorem afJ:aEf.bytes=8:=ID rfl
theorem aG7:qv aEf=True:=eq_true rfl
theorem aG8:zc aEf=[.v Value.nilFunc]:=ID rfl
theorem bcl{K:TI→Prop}:@tyW Tryz.prog 58 ⟨K⟩=K aEe:=qj bdn
theorem aG6:aEe.kd=Kd.oth:=ID rfl
theorem ass:aEe.kd.agg=false:=ID rfl
theorem akV:aEe.size=1:=ID rfl
theorem afI:aEe.bytes=8:=ID rfl
theorem aG4:qv aEe=True:=eq_true rfl
theorem aG5:zc aEe=[.v Value.nilFunc]:=ID rfl
theorem bck{K:TI→Prop}:@tyW Tryz.prog 60 ⟨K⟩=K aEd:=qj bdm
theorem aG2:aEd.kd=Kd.oth:=ID rfl
theorem asq:aEd.kd.agg=false:=ID rfl
theorem akT:aEd.size=1:=ID rfl
theorem afH:aEd.bytes=8:=ID rfl
theorem aG0:qv aEd=True:=eq_true rfl
theorem aG1:zc aEd=[.v Value.nilFunc]:=ID rfl
theorem bcj{K:TI→Prop}:@tyW Tryz.prog 61 ⟨K⟩=K aEc:=qj bdl
theorem aGZ:aEc.kd=Kd.oth:=ID rfl
theorem asp:aEc.kd.agg=false:=ID rfl
theorem akS:aEc.size=1:=ID rfl
theorem afG:aEc.bytes=8:=ID rfl
theorem aGX:qv aEc=True:=eq_true rfl
theorem aGY:zc aEc=[.v Value.nilFunc]:=ID rfl
theorem bci{K:TI→Prop}:@tyW Tryz.prog 62 ⟨K⟩=K aEb:=qj bdk
theorem aGW:aEb.kd=Kd.oth:=ID rfl
theorem aso:aEb.kd.agg=false:=ID rfl
theorem akR:aEb.size=1:=ID rfl
theorem afF:aEb.bytes=8:=ID rfl
theorem aGU:qv aEb=True:=eq_true rfl
theorem aGV:zc aEb=[.v Value.nilFunc]:=ID rfl
theorem bch{K:TI→Prop}:@tyW Tryz.prog 63 ⟨K⟩=K aEa:=qj bdj
theorem aGT:aEa.kd=Kd.oth:=ID rfl
theorem asn:aEa.kd.agg=false:=ID rfl
theorem akQ:aEa.size=1:=ID rfl
theorem afE:aEa.bytes=8:=ID rfl
theorem aGR:qv aEa=True:=eq_true rfl
theorem aGS:zc aEa=[.v Value.nilFunc]:=ID rfl
theorem bcg{K:TI→Prop}:@tyW Tryz.prog 64 ⟨K⟩=K aD9:=qj bdi
theorem aGQ:aD9.kd=Kd.oth:=ID rfl
theorem asm:aD9.kd.agg=false:=ID rfl
theorem akP:aD9.size=1:=ID rfl
theorem afD:aD9.bytes=8:=ID rfl
theorem aGO:qv aD9=True:=eq_true rfl
theorem aGP:zc aD9=[.v Value.nilFunc]:=ID rfl
theorem bcf{K:TI→Prop}:@tyW Tryz.prog 65 ⟨K⟩=K aD8:=qj bdh
theorem aGN:aD8.kd=Kd.oth:=ID rfl
theorem asl:aD8.kd.agg=false:=ID rfl
theorem akO:aD8.size=1:=ID rfl
theorem afC:aD8.bytes=8:=ID rfl
theorem aGL:qv aD8=True:=eq_true rfl
theorem aGM:zc aD8=[.v Value.nilFunc]:=ID rfl
theorem bce{K:TI→Prop}:@tyW Tryz.prog 66 ⟨K⟩=K aD7:=qj bdg
theorem aGK:aD7.kd=Kd.oth:=ID rfl
theorem ask:aD7.kd.agg=false:=ID rfl
theorem akN:aD7.size=1:=ID rfl
theorem afB:aD7.bytes=8:=ID rfl
theorem aGI:qv aD7=True:=eq_true rfl
theorem aGJ:zc aD7=[.v Value.nilFunc]:=ID rfl
theorem bcd{K:TI→Prop}:@tyW Tryz.prog 68 ⟨K⟩=K aD6:=qj bdf
theorem aGH:aD6.kd=Kd.oth:=ID rfl
theorem asj:aD6.kd.agg=false:=ID rfl
theorem akM:aD6.size=1:=ID rfl
theorem afA:aD6.bytes=8:=ID rfl
theorem aGF:qv aD6=True:=eq_true rfl
theorem aGG:zc aD6=[.v Value.nilFunc]:=ID rfl
theorem bcc{K:TI→Prop}:@tyW Tryz.prog 69 ⟨K⟩=K aex:=qj aEA
theorem aGE:aex.kd=Kd.sli 51:=ID rfl
theorem asi:aex.kd.agg=false:=ID rfl
theorem akL:aex.size=1:=ID rfl
theorem afz:aex.bytes=24:=ID rfl
theorem aGC:qv aex=True:=eq_true rfl
theorem aGD:zc aex=[.v (Value.slice none 0 0)]:=ID rfl
theorem aY1{K:TI→Prop}:@yG Tryz.prog 69 ⟨K⟩=K aj9:=Zv aEA rfl aNJ
theorem bcb{K:TI→Prop}:@tyW Tryz.prog 71 ⟨K⟩=K aD5:=qj bde
theorem aGA:aD5.kd=Kd.oth:=ID rfl
theorem asg:aD5.kd.agg=false:=ID rfl
theorem akJ:aD5.size=1:=ID rfl
theorem afy:aD5.bytes=8:=ID rfl
theorem aGy:qv aD5=True:=eq_true rfl
theorem aGz:zc aD5=[.v Value.nilFunc]:=ID rfl
theorem bca{K:TI→Prop}:@tyW Tryz.prog 73 ⟨K⟩=K aD4:=qj bdd
theorem aGx:aD4.kd=Kd.oth:=ID rfl
theorem asf:aD4.kd.agg=false:=ID rfl
theorem akI:aD4.size=1:=ID rfl
theorem afx:aD4.bytes=8:=ID rfl
theorem aGv:qv aD4=True:=eq_true rfl
theorem aGw:zc aD4=[.v Value.nilFunc]:=ID rfl
theorem bb9{K:TI→Prop}:@tyW Tryz.prog 74 ⟨K⟩=K aD3:=qj bdc
theorem aGu:aD3.kd=Kd.oth:=ID rfl
theorem ase:aD3.kd.agg=false:=ID rfl
theorem akH:aD3.size=1:=ID rfl
theorem afw:aD3.bytes=8:=ID rfl
theorem aGs:qv aD3=True:=eq_true rfl
theorem aGt:zc aD3=[.v Value.nilFunc]:=ID rfl
theorem bb8{K:TI→Prop}:@tyW Tryz.prog 75 ⟨K⟩=K aD2:=qj bdb
theorem aGr:aD2.kd=Kd.oth:=ID rfl
theorem asd:aD2.kd.agg=false:=ID rfl
theorem akG:aD2.size=1:=ID rfl
theorem afv:aD2.bytes=8:=ID rfl
theorem aGp:qv aD2=True:=eq_true rfl
theorem aGq:zc aD2=[.v Value.nilFunc]:=ID rfl
theorem bb7{K:TI→Prop}:@tyW Tryz.prog 77 ⟨K⟩=K aD1:=qj bda
theorem aGo:aD1.kd=Kd.oth:=ID rfl
theorem asc:aD1.kd.agg=false:=ID rfl
theorem akF:aD1.size=1:=ID rfl
theorem afu:aD1.bytes=8:=ID rfl
theorem aGm:qv aD1=True:=eq_true rfl
theorem aGn:zc aD1=[.v Value.nilFunc]:=ID rfl
theorem bb6{K:TI→Prop}:@tyW Tryz.prog 79 ⟨K⟩=K aD0:=qj bc9
theorem aGl:aD0.kd=Kd.oth:=ID rfl
theorem asb:aD0.kd.agg=false:=ID rfl
theorem akE:aD0.size=1:=ID rfl
theorem aft:aD0.bytes=8:=ID rfl
theorem aGj:qv aD0=True:=eq_true rfl
theorem aGk:zc aD0=[.v Value.nilFunc]:=ID rfl
theorem bb5{K:TI→Prop}:@tyW Tryz.prog 80 ⟨K⟩=K aDZ:=qj bc8
theorem aGh:aDZ.kd=Kd.oth:=ID rfl
theorem ar9:aDZ.kd.agg=false:=ID rfl
theorem akC:aDZ.size=1:=ID rfl
theorem afs:aDZ.bytes=8:=ID rfl
theorem aGf:qv aDZ=True:=eq_true rfl
theorem aGg:zc aDZ=[.v Value.nilFunc]:=ID rfl
theorem bb4{K:TI→Prop}:@tyW Tryz.prog 81 ⟨K⟩=K akB:=qj aTY
theorem aGe:akB.kd=Kd.stru [(0,3),(1,69)]:=ID rfl
theorem ar8:akB.kd.agg=true:=ID rfl
theorem akA:akB.size=2:=ID rfl
theorem afr:akB.bytes=32:=ID rfl
theorem aGc:qv akB=True:=eq_true rfl
theorem aGd:zc akB=[.v (Value.int IntKind.i64 0),.v (Value.slice none 0 0)]:=ID rfl
theorem aLk{K:Nat→TI→Prop}:@qz Tryz.prog 81 0 ⟨K⟩=K 0 ti3:=qs (ti:=akB) (tf:=ti3) (fo:=(0,3)) (fs:=[(0,3),(1,69)]) aTY rfl rfl tf3
theorem aOl{K:Nat→Nat→Prop}:qt Tryz.prog [(0,3),(1,69)] 0 K=K 0 1:=qr (tf:=ti3) (fo:=(0,3)) (fs:=[(0,3),(1,69)]) rfl tf3
theorem aLj{K:Nat→TI→Prop}:@qz Tryz.prog 81 1 ⟨K⟩=K 1 aex:=qs (ti:=akB) (tf:=aex) (fo:=(1,69)) (fs:=[(0,3),(1,69)]) aTY rfl rfl aEA
theorem aOk{K:Nat→Nat→Prop}:qt Tryz.prog [(0,3),(1,69)] 1 K=K 1 1:=qr (tf:=aex) (fo:=(1,69)) (fs:=[(0,3),(1,69)]) rfl aEA
theorem aPj:∀f∈([(0,3),(1,69)]:List (Nat×Nat)),(qo Tryz.prog f.2).isSome=true:=by
 intro f hf
 simp only[List.mem_cons,List.not_mem_nil,or_false]at hf
 rcases hf with rfl|rfl
 ·rw[tf3];rfl
 ·rw[aEA];rfl
theorem bbl{ps:List (Nat×AV)}{K:AV→Prop}:@zi Tryz.prog 81 ps ⟨K⟩=@zg (qt Tryz.prog [(0,3),(1,69)]) (zc akB) ps ⟨fun cs=>K (.ag cs)⟩:=qJ aTY rfl aPj
theorem bb3{K:TI→Prop}:@tyW Tryz.prog 82 ⟨K⟩=K akz:=qj aTX
theorem aGb:akz.kd=Kd.stru [(0,3),(1,69)]:=ID rfl
theorem ar7:akz.kd.agg=true:=ID rfl
theorem aky:akz.size=2:=ID rfl
theorem afq:akz.bytes=32:=ID rfl
theorem aF9:qv akz=True:=eq_true rfl
theorem aGa:zc akz=[.v (Value.int IntKind.i64 0),.v (Value.slice none 0 0)]:=ID rfl
theorem aLi{K:Nat→TI→Prop}:@qz Tryz.prog 82 0 ⟨K⟩=K 0 ti3:=qs (ti:=akz) (tf:=ti3) (fo:=(0,3)) (fs:=[(0,3),(1,69)]) aTX rfl rfl tf3
theorem aOj{K:Nat→Nat→Prop}:qt Tryz.prog [(0,3),(1,69)] 0 K=K 0 1:=qr (tf:=ti3) (fo:=(0,3)) (fs:=[(0,3),(1,69)]) rfl tf3
theorem aLh{K:Nat→TI→Prop}:@qz Tryz.prog 82 1 ⟨K⟩=K 1 aex:=qs (ti:=akz) (tf:=aex) (fo:=(1,69)) (fs:=[(0,3),(1,69)]) aTX rfl rfl aEA
theorem aOi{K:Nat→Nat→Prop}:qt Tryz.prog [(0,3),(1,69)] 1 K=K 1 1:=qr (tf:=aex) (fo:=(1,69)) (fs:=[(0,3),(1,69)]) rfl aEA
theorem aPi:∀f∈([(0,3),(1,69)]:List (Nat×Nat)),(qo Tryz.prog f.2).isSome=true:=by
 intro f hf
 simp only[List.mem_cons,List.not_mem_nil,or_false]at hf
 rcases hf with rfl|rfl
 ·rw[tf3];rfl
 ·rw[aEA];rfl
theorem bbk{ps:List (Nat×AV)}{K:AV→Prop}:@zi Tryz.prog 82 ps ⟨K⟩=@zg (qt Tryz.prog [(0,3),(1,69)]) (zc akz) ps ⟨fun cs=>K (.ag cs)⟩:=qJ aTX rfl aPi
theorem bb2{K:TI→Prop}:@tyW Tryz.prog 84 ⟨K⟩=K aDY:=qj bc7
theorem aF8:aDY.kd=Kd.oth:=ID rfl
theorem ar6:aDY.kd.agg=false:=ID rfl
theorem akx:aDY.size=1:=ID rfl
theorem afp:aDY.bytes=8:=ID rfl
theorem aF6:qv aDY=True:=eq_true rfl
theorem aF7:zc aDY=[.v Value.nilFunc]:=ID rfl
theorem bb1{K:TI→Prop}:@tyW Tryz.prog 86 ⟨K⟩=K aDX:=qj bc6
theorem aF5:aDX.kd=Kd.oth:=ID rfl
theorem ar5:aDX.kd.agg=false:=ID rfl
theorem akw:aDX.size=1:=ID rfl
theorem afo:aDX.bytes=8:=ID rfl
theorem aF3:qv aDX=True:=eq_true rfl
theorem aF4:zc aDX=[.v Value.nilFunc]:=ID rfl
theorem bb0{K:TI→Prop}:@tyW Tryz.prog 87 ⟨K⟩=K aDW:=qj bc5
theorem aF2:aDW.kd=Kd.oth:=ID rfl
theorem ar4:aDW.kd.agg=false:=ID rfl
theorem akv:aDW.size=1:=ID rfl
theorem afn:aDW.bytes=8:=ID rfl
theorem aF0:qv aDW=True:=eq_true rfl
theorem aF1:zc aDW=[.v Value.nilFunc]:=ID rfl
theorem bbZ{K:TI→Prop}:@tyW Tryz.prog 88 ⟨K⟩=K aDV:=qj bc4
theorem aFZ:aDV.kd=Kd.oth:=ID rfl
theorem ar3:aDV.kd.agg=false:=ID rfl
theorem aku:aDV.size=1:=ID rfl
theorem afm:aDV.bytes=8:=ID rfl
theorem aFX:qv aDV=True:=eq_true rfl
theorem aFY:zc aDV=[.v Value.nilFunc]:=ID rfl
theorem bbY{K:TI→Prop}:@tyW Tryz.prog 89 ⟨K⟩=K aDU:=qj bc3
theorem aFW:aDU.kd=Kd.oth:=ID rfl
theorem ar2:aDU.kd.agg=false:=ID rfl
theorem akt:aDU.size=1:=ID rfl
theorem afl:aDU.bytes=8:=ID rfl
theorem aFU:qv aDU=True:=eq_true rfl
theorem aFV:zc aDU=[.v Value.nilFunc]:=ID rfl
theorem bbX{K:TI→Prop}:@tyW Tryz.prog 91 ⟨K⟩=K aDT:=qj bc2
theorem aFS:aDT.kd=Kd.oth:=ID rfl
theorem ar0:aDT.kd.agg=false:=ID rfl
theorem akr:aDT.size=1:=ID rfl
theorem afk:aDT.bytes=8:=ID rfl
theorem aFQ:qv aDT=True:=eq_true rfl
theorem aFR:zc aDT=[.v Value.nilFunc]:=ID rfl
theorem bbW{K:TI→Prop}:@tyW Tryz.prog 92 ⟨K⟩=K aDS:=qj bc1
theorem aFP:aDS.kd=Kd.oth:=ID rfl
theorem arZ:aDS.kd.agg=false:=ID rfl
theorem akq:aDS.size=1:=ID rfl
theorem afj:aDS.bytes=8:=ID rfl
theorem aFN:qv aDS=True:=eq_true rfl
theorem aFO:zc aDS=[.v Value.nilFunc]:=ID rfl
theorem bbV{K:TI→Prop}:@tyW Tryz.prog 93 ⟨K⟩=K aDR:=qj bc0
theorem aFM:aDR.kd=Kd.oth:=ID rfl
theorem arY:aDR.kd.agg=false:=ID rfl
theorem akp:aDR.size=1:=ID rfl
theorem afi:aDR.bytes=8:=ID rfl
theorem aFK:qv aDR=True:=eq_true rfl
theorem aFL:zc aDR=[.v Value.nilFunc]:=ID rfl
theorem bbU{K:TI→Prop}:@tyW Tryz.prog 94 ⟨K⟩=K aDQ:=qj bcZ
theorem aFJ:aDQ.kd=Kd.oth:=ID rfl
theorem arX:aDQ.kd.agg=false:=ID rfl
theorem ako:aDQ.size=1:=ID rfl
theorem afh:aDQ.bytes=8:=ID rfl
theorem aFH:qv aDQ=True:=eq_true rfl
theorem aFI:zc aDQ=[.v Value.nilFunc]:=ID rfl
theorem bbT{K:TI→Prop}:@tyW Tryz.prog 96 ⟨K⟩=K aDP:=qj bcY
theorem aFG:aDP.kd=Kd.oth:=ID rfl
theorem arW:aDP.kd.agg=false:=ID rfl
theorem akn:aDP.size=1:=ID rfl
theorem afg:aDP.bytes=8:=ID rfl
theorem aFE:qv aDP=True:=eq_true rfl
theorem aFF:zc aDP=[.v Value.nilFunc]:=ID rfl
theorem bbS{K:TI→Prop}:@tyW Tryz.prog 97 ⟨K⟩=K aDO:=qj bcX
theorem aFD:aDO.kd=Kd.oth:=ID rfl
theorem arV:aDO.kd.agg=false:=ID rfl
theorem akm:aDO.size=1:=ID rfl
theorem aff:aDO.bytes=8:=ID rfl
theorem aFB:qv aDO=True:=eq_true rfl
theorem aFC:zc aDO=[.v Value.nilFunc]:=ID rfl
theorem bbR{K:TI→Prop}:@tyW Tryz.prog 98 ⟨K⟩=K aDN:=qj bcW
theorem aFA:aDN.kd=Kd.oth:=ID rfl
theorem arU:aDN.kd.agg=false:=ID rfl
theorem akl:aDN.size=1:=ID rfl
theorem afe:aDN.bytes=8:=ID rfl
theorem aFy:qv aDN=True:=eq_true rfl
theorem aFz:zc aDN=[.v Value.nilFunc]:=ID rfl
theorem bbQ{K:TI→Prop}:@tyW Tryz.prog 99 ⟨K⟩=K aDM:=qj bcV
theorem aFx:aDM.kd=Kd.oth:=ID rfl
theorem arT:aDM.kd.agg=false:=ID rfl
theorem akk:aDM.size=1:=ID rfl
theorem afd:aDM.bytes=8:=ID rfl
theorem aFv:qv aDM=True:=eq_true rfl
theorem aFw:zc aDM=[.v Value.nilFunc]:=ID rfl
theorem aWC{K:TI→Prop}:@tyW Tryz.prog 100 ⟨K⟩=K Kt:=qj aYW
theorem aAE:Kt.kd=Kd.oth:=ID rfl
theorem aoe:Kt.kd.agg=false:=ID rfl
theorem aiN:Kt.size=1:=ID rfl
theorem adg:Kt.bytes=8:=ID rfl
theorem aAC:qv Kt=True:=eq_true rfl
theorem aAD:zc Kt=[.v Value.nilFunc]:=ID rfl
theorem aWB{K:TI→Prop}:@tyW Tryz.prog 101 ⟨K⟩=K Ks:=qj aYV
theorem aAB:Ks.kd=Kd.oth:=ID rfl
theorem aod:Ks.kd.agg=false:=ID rfl
theorem aiM:Ks.size=1:=ID rfl
theorem adf:Ks.bytes=8:=ID rfl
theorem aAz:qv Ks=True:=eq_true rfl
theorem aAA:zc Ks=[.v Value.nilFunc]:=ID rfl
theorem aWA{K:TI→Prop}:@tyW Tryz.prog 102 ⟨K⟩=K Kr:=qj aYU
theorem aAy:Kr.kd=Kd.oth:=ID rfl
theorem aoc:Kr.kd.agg=false:=ID rfl
theorem aiL:Kr.size=1:=ID rfl
theorem ade:Kr.bytes=8:=ID rfl
theorem aAw:qv Kr=True:=eq_true rfl
theorem aAx:zc Kr=[.v Value.nilFunc]:=ID rfl
theorem aWz{K:TI→Prop}:@tyW Tryz.prog 103 ⟨K⟩=K Kq:=qj aYT
theorem aAv:Kq.kd=Kd.oth:=ID rfl
theorem aob:Kq.kd.agg=false:=ID rfl
theorem aiK:Kq.size=1:=ID rfl
theorem adc:Kq.bytes=8:=ID rfl
theorem aAt:qv Kq=True:=eq_true rfl
theorem aAu:zc Kq=[.v Value.nilFunc]:=ID rfl
theorem aWy{K:TI→Prop}:@tyW Tryz.prog 105 ⟨K⟩=K Kp:=qj aYS
theorem aAs:Kp.kd=Kd.oth:=ID rfl
theorem aoa:Kp.kd.agg=false:=ID rfl
theorem aiJ:Kp.size=1:=ID rfl
theorem adb:Kp.bytes=8:=ID rfl
theorem aAq:qv Kp=True:=eq_true rfl
theorem aAr:zc Kp=[.v Value.nilFunc]:=ID rfl
theorem aWx{K:TI→Prop}:@tyW Tryz.prog 106 ⟨K⟩=K Ko:=qj aYR
theorem aAp:Ko.kd=Kd.oth:=ID rfl
theorem an9:Ko.kd.agg=false:=ID rfl
theorem aiI:Ko.size=1:=ID rfl
theorem ada:Ko.bytes=8:=ID rfl
theorem aAn:qv Ko=True:=eq_true rfl
theorem aAo:zc Ko=[.v Value.nilFunc]:=ID rfl
theorem aWw{K:TI→Prop}:@tyW Tryz.prog 107 ⟨K⟩=K Kn:=qj aYQ
theorem aAm:Kn.kd=Kd.oth:=ID rfl
theorem an8:Kn.kd.agg=false:=ID rfl
theorem aiH:Kn.size=1:=ID rfl
theorem ac9:Kn.bytes=8:=ID rfl
theorem aAk:qv Kn=True:=eq_true rfl
theorem aAl:zc Kn=[.v Value.nilFunc]:=ID rfl
theorem aWv{K:TI→Prop}:@tyW Tryz.prog 108 ⟨K⟩=K Km:=qj aYP
theorem aAj:Km.kd=Kd.oth:=ID rfl
theorem an7:Km.kd.agg=false:=ID rfl
theorem aiG:Km.size=1:=ID rfl
theorem ac8:Km.bytes=8:=ID rfl
theorem aAh:qv Km=True:=eq_true rfl
theorem aAi:zc Km=[.v Value.nilFunc]:=ID rfl
theorem aWu{K:TI→Prop}:@tyW Tryz.prog 109 ⟨K⟩=K Kl:=qj aYO
theorem aAg:Kl.kd=Kd.oth:=ID rfl
theorem an6:Kl.kd.agg=false:=ID rfl
theorem aiF:Kl.size=1:=ID rfl
theorem ac7:Kl.bytes=8:=ID rfl
theorem aAe:qv Kl=True:=eq_true rfl
theorem aAf:zc Kl=[.v Value.nilFunc]:=ID rfl
theorem aWt{K:TI→Prop}:@tyW Tryz.prog 110 ⟨K⟩=K Kk:=qj aYN
theorem aAc:Kk.kd=Kd.oth:=ID rfl
theorem an4:Kk.kd.agg=false:=ID rfl
theorem aiD:Kk.size=1:=ID rfl
theorem ac6:Kk.bytes=8:=ID rfl
theorem aAa:qv Kk=True:=eq_true rfl
theorem aAb:zc Kk=[.v Value.nilFunc]:=ID rfl
theorem aWs{K:TI→Prop}:@tyW Tryz.prog 111 ⟨K⟩=K yP:=qj J6
theorem az9:yP.kd=Kd.sli 118:=ID rfl
theorem an3:yP.kd.agg=false:=ID rfl
theorem aiC:yP.size=1:=ID rfl
theorem ac5:yP.bytes=24:=ID rfl
theorem az7:qv yP=True:=eq_true rfl
theorem az8:zc yP=[.v (Value.slice none 0 0)]:=ID rfl
theorem aN2{K:TI→Prop}:@yG Tryz.prog 111 ⟨K⟩=K jd:=Zv J6 rfl j6
theorem aWr{K:TI→Prop}:@tyW Tryz.prog 112 ⟨K⟩=K Zr:=qj aAM
theorem az6:Zr.kd=Kd.stru [(0,3),(1,111)]:=ID rfl
theorem an2:Zr.kd.agg=true:=ID rfl
theorem aiB:Zr.size=2:=ID rfl
theorem ac4:Zr.bytes=32:=ID rfl
theorem az4:qv Zr=True:=eq_true rfl
theorem az5:zc Zr=[.v (Value.int IntKind.i64 0),.v (Value.slice none 0 0)]:=ID rfl
theorem aCF{K:Nat→TI→Prop}:@qz Tryz.prog 112 0 ⟨K⟩=K 0 ti3:=qs (ti:=Zr) (tf:=ti3) (fo:=(0,3)) (fs:=[(0,3),(1,111)]) aAM rfl rfl tf3
theorem aJL{K:Nat→Nat→Prop}:qt Tryz.prog [(0,3),(1,111)] 0 K=K 0 1:=qr (tf:=ti3) (fo:=(0,3)) (fs:=[(0,3),(1,111)]) rfl tf3
theorem aCE{K:Nat→TI→Prop}:@qz Tryz.prog 112 1 ⟨K⟩=K 1 yP:=qs (ti:=Zr) (tf:=yP) (fo:=(1,111)) (fs:=[(0,3),(1,111)]) aAM rfl rfl J6
theorem aJK{K:Nat→Nat→Prop}:qt Tryz.prog [(0,3),(1,111)] 1 K=K 1 1:=qr (tf:=yP) (fo:=(1,111)) (fs:=[(0,3),(1,111)]) rfl J6
theorem aLb:∀f∈([(0,3),(1,111)]:List (Nat×Nat)),(qo Tryz.prog f.2).isSome=true:=by
 intro f hf
 simp only[List.mem_cons,List.not_mem_nil,or_false]at hf
 rcases hf with rfl|rfl
 ·rw[tf3];rfl
 ·rw[J6];rfl
theorem aTt{ps:List (Nat×AV)}{K:AV→Prop}:@zi Tryz.prog 112 ps ⟨K⟩=@zg (qt Tryz.prog [(0,3),(1,111)]) (zc Zr) ps ⟨fun cs=>K (.ag cs)⟩:=qJ aAM rfl aLb
theorem aWq{K:TI→Prop}:@tyW Tryz.prog 113 ⟨K⟩=K Zq:=qj aAL
theorem az3:Zq.kd=Kd.stru [(0,3),(1,111)]:=ID rfl
theorem an1:Zq.kd.agg=true:=ID rfl
theorem aiA:Zq.size=2:=ID rfl
theorem ac3:Zq.bytes=32:=ID rfl
theorem az1:qv Zq=True:=eq_true rfl
theorem az2:zc Zq=[.v (Value.int IntKind.i64 0),.v (Value.slice none 0 0)]:=ID rfl
theorem aCD{K:Nat→TI→Prop}:@qz Tryz.prog 113 0 ⟨K⟩=K 0 ti3:=qs (ti:=Zq) (tf:=ti3) (fo:=(0,3)) (fs:=[(0,3),(1,111)]) aAL rfl rfl tf3
theorem aJJ{K:Nat→Nat→Prop}:qt Tryz.prog [(0,3),(1,111)] 0 K=K 0 1:=qr (tf:=ti3) (fo:=(0,3)) (fs:=[(0,3),(1,111)]) rfl tf3
theorem aCC{K:Nat→TI→Prop}:@qz Tryz.prog 113 1 ⟨K⟩=K 1 yP:=qs (ti:=Zq) (tf:=yP) (fo:=(1,111)) (fs:=[(0,3),(1,111)]) aAL rfl rfl J6
theorem aJI{K:Nat→Nat→Prop}:qt Tryz.prog [(0,3),(1,111)] 1 K=K 1 1:=qr (tf:=yP) (fo:=(1,111)) (fs:=[(0,3),(1,111)]) rfl J6
theorem aLa:∀f∈([(0,3),(1,111)]:List (Nat×Nat)),(qo Tryz.prog f.2).isSome=true:=by
 intro f hf
 simp only[List.mem_cons,List.not_mem_nil,or_false]at hf
 rcases hf with rfl|rfl
 ·rw[tf3];rfl
 ·rw[J6];rfl
theorem aTs{ps:List (Nat×AV)}{K:AV→Prop}:@zi Tryz.prog 113 ps ⟨K⟩=@zg (qt Tryz.prog [(0,3),(1,111)]) (zc Zq) ps ⟨fun cs=>K (.ag cs)⟩:=qJ aAL rfl aLa
theorem aWp{K:TI→Prop}:@tyW Tryz.prog 114 ⟨K⟩=K Kj:=qj aYM
theorem az0:Kj.kd=Kd.oth:=ID rfl
theorem an0:Kj.kd.agg=false:=ID rfl
theorem aiz:Kj.size=1:=ID rfl
theorem ac2:Kj.bytes=8:=ID rfl
theorem azY:qv Kj=True:=eq_true rfl
theorem azZ:zc Kj=[.v Value.nilFunc]:=ID rfl
theorem aWo{K:TI→Prop}:@tyW Tryz.prog 115 ⟨K⟩=K Ki:=qj aYL
theorem azX:Ki.kd=Kd.oth:=ID rfl
theorem anZ:Ki.kd.agg=false:=ID rfl
theorem aiy:Ki.size=1:=ID rfl
theorem ac1:Ki.bytes=8:=ID rfl
theorem azV:qv Ki=True:=eq_true rfl
theorem azW:zc Ki=[.v Value.nilFunc]:=ID rfl
theorem aWn{K:TI→Prop}:@tyW Tryz.prog 116 ⟨K⟩=K Kh:=qj aYK
theorem azU:Kh.kd=Kd.oth:=ID rfl
theorem anY:Kh.kd.agg=false:=ID rfl
theorem aix:Kh.size=1:=ID rfl
theorem ac0:Kh.bytes=8:=ID rfl
theorem azS:qv Kh=True:=eq_true rfl
theorem azT:zc Kh=[.v Value.nilFunc]:=ID rfl
theorem aWm{K:TI→Prop}:@tyW Tryz.prog 117 ⟨K⟩=K Q4:=qj aoj
theorem azR:Q4.kd=Kd.stru [(0,4),(1,34),(2,3)]:=ID rfl
theorem anX:Q4.kd.agg=true:=ID rfl
theorem aiw:Q4.size=3:=ID rfl
theorem acZ:Q4.bytes=40:=ID rfl
theorem azP:qv Q4=True:=eq_true rfl
theorem azQ:zc Q4=[.v (Value.bool false),.v (Value.slice none 0 0),.v (Value.int IntKind.i64 0)]:=ID rfl
theorem aCB{K:Nat→TI→Prop}:@qz Tryz.prog 117 0 ⟨K⟩=K 0 ti4:=qs (ti:=Q4) (tf:=ti4) (fo:=(0,4)) (fs:=[(0,4),(1,34),(2,3)]) aoj rfl rfl tf4
theorem aJH{K:Nat→Nat→Prop}:qt Tryz.prog [(0,4),(1,34),(2,3)] 0 K=K 0 1:=qr (tf:=ti4) (fo:=(0,4)) (fs:=[(0,4),(1,34),(2,3)]) rfl tf4
theorem aCA{K:Nat→TI→Prop}:@qz Tryz.prog 117 1 ⟨K⟩=K 1 Ju:=qs (ti:=Q4) (tf:=Ju) (fo:=(1,34)) (fs:=[(0,4),(1,34),(2,3)]) aoj rfl rfl aeA
theorem aJG{K:Nat→Nat→Prop}:qt Tryz.prog [(0,4),(1,34),(2,3)] 1 K=K 1 1:=qr (tf:=Ju) (fo:=(1,34)) (fs:=[(0,4),(1,34),(2,3)]) rfl aeA
theorem aCz{K:Nat→TI→Prop}:@qz Tryz.prog 117 2 ⟨K⟩=K 2 ti3:=qs (ti:=Q4) (tf:=ti3) (fo:=(2,3)) (fs:=[(0,4),(1,34),(2,3)]) aoj rfl rfl tf3
theorem aJF{K:Nat→Nat→Prop}:qt Tryz.prog [(0,4),(1,34),(2,3)] 2 K=K 2 1:=qr (tf:=ti3) (fo:=(2,3)) (fs:=[(0,4),(1,34),(2,3)]) rfl tf3
theorem aK9:∀f∈([(0,4),(1,34),(2,3)]:List (Nat×Nat)),(qo Tryz.prog f.2).isSome=true:=by
 intro f hf
 simp only[List.mem_cons,List.not_mem_nil,or_false]at hf
 rcases hf with rfl|rfl|rfl
 ·rw[tf4];rfl
 ·rw[aeA];rfl
 ·rw[tf3];rfl
theorem aTr{ps:List (Nat×AV)}{K:AV→Prop}:@zi Tryz.prog 117 ps ⟨K⟩=@zg (qt Tryz.prog [(0,4),(1,34),(2,3)]) (zc Q4) ps ⟨fun cs=>K (.ag cs)⟩:=qJ aoj rfl aK9
theorem aWl{K:TI→Prop}:@tyW Tryz.prog 118 ⟨K⟩=K jd:=qj j6
theorem azO:jd.kd=Kd.stru [(0,4),(1,34),(2,3)]:=ID rfl
theorem anW:jd.kd.agg=true:=ID rfl
theorem aiv:jd.size=3:=ID rfl
theorem acY:jd.bytes=40:=ID rfl
theorem azM:qv jd=True:=eq_true rfl
theorem azN:zc jd=[.v (Value.bool false),.v (Value.slice none 0 0),.v (Value.int IntKind.i64 0)]:=ID rfl
theorem aCy{K:Nat→TI→Prop}:@qz Tryz.prog 118 0 ⟨K⟩=K 0 ti4:=qs (ti:=jd) (tf:=ti4) (fo:=(0,4)) (fs:=[(0,4),(1,34),(2,3)]) j6 rfl rfl tf4
theorem aJE{K:Nat→Nat→Prop}:qt Tryz.prog [(0,4),(1,34),(2,3)] 0 K=K 0 1:=qr (tf:=ti4) (fo:=(0,4)) (fs:=[(0,4),(1,34),(2,3)]) rfl tf4
theorem aCx{K:Nat→TI→Prop}:@qz Tryz.prog 118 1 ⟨K⟩=K 1 Ju:=qs (ti:=jd) (tf:=Ju) (fo:=(1,34)) (fs:=[(0,4),(1,34),(2,3)]) j6 rfl rfl aeA
theorem aJD{K:Nat→Nat→Prop}:qt Tryz.prog [(0,4),(1,34),(2,3)] 1 K=K 1 1:=qr (tf:=Ju) (fo:=(1,34)) (fs:=[(0,4),(1,34),(2,3)]) rfl aeA
theorem aCw{K:Nat→TI→Prop}:@qz Tryz.prog 118 2 ⟨K⟩=K 2 ti3:=qs (ti:=jd) (tf:=ti3) (fo:=(2,3)) (fs:=[(0,4),(1,34),(2,3)]) j6 rfl rfl tf3
theorem aJC{K:Nat→Nat→Prop}:qt Tryz.prog [(0,4),(1,34),(2,3)] 2 K=K 2 1:=qr (tf:=ti3) (fo:=(2,3)) (fs:=[(0,4),(1,34),(2,3)]) rfl tf3
theorem aK8:∀f∈([(0,4),(1,34),(2,3)]:List (Nat×Nat)),(qo Tryz.prog f.2).isSome=true:=by
 intro f hf
 simp only[List.mem_cons,List.not_mem_nil,or_false]at hf
 rcases hf with rfl|rfl|rfl
 ·rw[tf4];rfl
 ·rw[aeA];rfl
 ·rw[tf3];rfl
theorem aTq{ps:List (Nat×AV)}{K:AV→Prop}:@zi Tryz.prog 118 ps ⟨K⟩=@zg (qt Tryz.prog [(0,4),(1,34),(2,3)]) (zc jd) ps ⟨fun cs=>K (.ag cs)⟩:=qJ j6 rfl aK8
theorem aWk{K:TI→Prop}:@tyW Tryz.prog 119 ⟨K⟩=K Kg:=qj aYJ
theorem azL:Kg.kd=Kd.oth:=ID rfl
theorem anV:Kg.kd.agg=false:=ID rfl
theorem aiu:Kg.size=1:=ID rfl
theorem acX:Kg.bytes=8:=ID rfl
theorem azJ:qv Kg=True:=eq_true rfl
theorem azK:zc Kg=[.v Value.nilFunc]:=ID rfl
theorem aWj{K:TI→Prop}:@tyW Tryz.prog 120 ⟨K⟩=K Kf:=qj aYI
theorem azH:Kf.kd=Kd.oth:=ID rfl
theorem anT:Kf.kd.agg=false:=ID rfl
theorem ais:Kf.size=1:=ID rfl
theorem acW:Kf.bytes=8:=ID rfl
theorem azF:qv Kf=True:=eq_true rfl
theorem azG:zc Kf=[.v Value.nilFunc]:=ID rfl
theorem aWi{K:TI→Prop}:@tyW Tryz.prog 121 ⟨K⟩=K Ke:=qj aYH
theorem azE:Ke.kd=Kd.oth:=ID rfl
theorem anS:Ke.kd.agg=false:=ID rfl
theorem air:Ke.size=1:=ID rfl
theorem acV:Ke.bytes=8:=ID rfl
theorem azC:qv Ke=True:=eq_true rfl
theorem azD:zc Ke=[.v Value.nilFunc]:=ID rfl
theorem aWh{K:TI→Prop}:@tyW Tryz.prog 122 ⟨K⟩=K Kc:=qj aYG
theorem azB:Kc.kd=Kd.oth:=ID rfl
theorem anR:Kc.kd.agg=false:=ID rfl
theorem aiq:Kc.size=1:=ID rfl
theorem acU:Kc.bytes=8:=ID rfl
theorem azz:qv Kc=True:=eq_true rfl
theorem azA:zc Kc=[.v Value.nilFunc]:=ID rfl
theorem aWg{K:TI→Prop}:@tyW Tryz.prog 123 ⟨K⟩=K Kb:=qj aYF
theorem azy:Kb.kd=Kd.oth:=ID rfl
theorem anQ:Kb.kd.agg=false:=ID rfl
theorem aip:Kb.size=1:=ID rfl
theorem acT:Kb.bytes=8:=ID rfl
theorem azw:qv Kb=True:=eq_true rfl
theorem azx:zc Kb=[.v Value.nilFunc]:=ID rfl
theorem aWf{K:TI→Prop}:@tyW Tryz.prog 124 ⟨K⟩=K Ka:=qj aYE
theorem azv:Ka.kd=Kd.oth:=ID rfl
theorem anP:Ka.kd.agg=false:=ID rfl
theorem aio:Ka.size=1:=ID rfl
theorem acS:Ka.bytes=8:=ID rfl
theorem azt:qv Ka=True:=eq_true rfl
theorem azu:zc Ka=[.v Value.nilFunc]:=ID rfl
theorem aWe{K:TI→Prop}:@tyW Tryz.prog 125 ⟨K⟩=K V9:=qj aYD
theorem azs:V9.kd=Kd.oth:=ID rfl
theorem anO:V9.kd.agg=false:=ID rfl
theorem ain:V9.size=1:=ID rfl
theorem acR:V9.bytes=8:=ID rfl
theorem azq:qv V9=True:=eq_true rfl
theorem azr:zc V9=[.v Value.nilFunc]:=ID rfl
theorem aWd{K:TI→Prop}:@tyW Tryz.prog 126 ⟨K⟩=K V8:=qj aYC
theorem azp:V8.kd=Kd.oth:=ID rfl
theorem anN:V8.kd.agg=false:=ID rfl
theorem aim:V8.size=1:=ID rfl
theorem acQ:V8.bytes=8:=ID rfl
theorem azn:qv V8=True:=eq_true rfl
theorem azo:zc V8=[.v Value.nilFunc]:=ID rfl
theorem aWc{K:TI→Prop}:@tyW Tryz.prog 127 ⟨K⟩=K V7:=qj aYB
theorem azm:V7.kd=Kd.oth:=ID rfl
theorem anM:V7.kd.agg=false:=ID rfl
theorem ail:V7.size=1:=ID rfl
theorem acP:V7.bytes=8:=ID rfl
theorem azk:qv V7=True:=eq_true rfl
theorem azl:zc V7=[.v Value.nilFunc]:=ID rfl
theorem aWb{K:TI→Prop}:@tyW Tryz.prog 128 ⟨K⟩=K V6:=qj aYA
theorem azj:V6.kd=Kd.oth:=ID rfl
theorem anL:V6.kd.agg=false:=ID rfl
theorem aik:V6.size=1:=ID rfl
theorem acO:V6.bytes=8:=ID rfl
theorem azh:qv V6=True:=eq_true rfl
theorem azi:zc V6=[.v Value.nilFunc]:=ID rfl
theorem aWa{K:TI→Prop}:@tyW Tryz.prog 129 ⟨K⟩=K V5:=qj aYz
theorem azg:V5.kd=Kd.oth:=ID rfl
theorem anK:V5.kd.agg=false:=ID rfl
theorem aij:V5.size=1:=ID rfl
theorem acN:V5.bytes=8:=ID rfl
theorem aze:qv V5=True:=eq_true rfl
theorem azf:zc V5=[.v Value.nilFunc]:=ID rfl
theorem aV9{K:TI→Prop}:@tyW Tryz.prog 130 ⟨K⟩=K V4:=qj aYy
theorem azc:V4.kd=Kd.oth:=ID rfl
theorem anI:V4.kd.agg=false:=ID rfl
theorem aih:V4.size=1:=ID rfl
theorem acM:V4.bytes=8:=ID rfl
theorem aza:qv V4=True:=eq_true rfl
theorem azb:zc V4=[.v Value.nilFunc]:=ID rfl
theorem aV8{K:TI→Prop}:@tyW Tryz.prog 131 ⟨K⟩=K V3:=qj aYx
theorem ay9:V3.kd=Kd.oth:=ID rfl
theorem anH:V3.kd.agg=false:=ID rfl
theorem aig:V3.size=1:=ID rfl
theorem acL:V3.bytes=8:=ID rfl
theorem ay7:qv V3=True:=eq_true rfl
theorem ay8:zc V3=[.v Value.nilFunc]:=ID rfl
theorem aV7{K:TI→Prop}:@tyW Tryz.prog 132 ⟨K⟩=K Zp:=qj aAK
theorem ay6:Zp.kd=Kd.stru [(0,118),(3,118)]:=ID rfl
theorem anG:Zp.kd.agg=true:=ID rfl
theorem aif:Zp.size=6:=ID rfl
theorem acK:Zp.bytes=80:=ID rfl
theorem ay4:qv Zp=True:=eq_true rfl
theorem ay5:zc Zp=[.v (Value.bool false),.v (Value.slice none 0 0),.v (Value.int IntKind.i64 0),.v (Value.bool false),.v (Value.slice none 0 0),.v (Value.int IntKind.i64 0)]:=ID rfl
theorem aCv{K:Nat→TI→Prop}:@qz Tryz.prog 132 0 ⟨K⟩=K 0 jd:=qs (ti:=Zp) (tf:=jd) (fo:=(0,118)) (fs:=[(0,118),(3,118)]) aAK rfl rfl j6
theorem aJB{K:Nat→Nat→Prop}:qt Tryz.prog [(0,118),(3,118)] 0 K=K 0 3:=qr (tf:=jd) (fo:=(0,118)) (fs:=[(0,118),(3,118)]) rfl j6
theorem aCu{K:Nat→TI→Prop}:@qz Tryz.prog 132 1 ⟨K⟩=K 3 jd:=qs (ti:=Zp) (tf:=jd) (fo:=(3,118)) (fs:=[(0,118),(3,118)]) aAK rfl rfl j6
theorem aJA{K:Nat→Nat→Prop}:qt Tryz.prog [(0,118),(3,118)] 1 K=K 3 3:=qr (tf:=jd) (fo:=(3,118)) (fs:=[(0,118),(3,118)]) rfl j6
theorem aK7:∀f∈([(0,118),(3,118)]:List (Nat×Nat)),(qo Tryz.prog f.2).isSome=true:=by
 intro f hf
 simp only[List.mem_cons,List.not_mem_nil,or_false]at hf
 rcases hf with rfl|rfl
 ·rw[j6];rfl
 ·rw[j6];rfl
theorem aTp{ps:List (Nat×AV)}{K:AV→Prop}:@zi Tryz.prog 132 ps ⟨K⟩=@zg (qt Tryz.prog [(0,118),(3,118)]) (zc Zp) ps ⟨fun cs=>K (.ag cs)⟩:=qJ aAK rfl aK7
theorem aV6{K:TI→Prop}:@tyW Tryz.prog 133 ⟨K⟩=K Q3:=qj aoi
theorem ay3:Q3.kd=Kd.stru [(0,118),(3,118)]:=ID rfl
theorem anF:Q3.kd.agg=true:=ID rfl
theorem aie:Q3.size=6:=ID rfl
theorem acJ:Q3.bytes=80:=ID rfl
theorem ay1:qv Q3=True:=eq_true rfl
theorem ay2:zc Q3=[.v (Value.bool false),.v (Value.slice none 0 0),.v (Value.int IntKind.i64 0),.v (Value.bool false),.v (Value.slice none 0 0),.v (Value.int IntKind.i64 0)]:=ID rfl
theorem aCt{K:Nat→TI→Prop}:@qz Tryz.prog 133 0 ⟨K⟩=K 0 jd:=qs (ti:=Q3) (tf:=jd) (fo:=(0,118)) (fs:=[(0,118),(3,118)]) aoi rfl rfl j6
theorem aJz{K:Nat→Nat→Prop}:qt Tryz.prog [(0,118),(3,118)] 0 K=K 0 3:=qr (tf:=jd) (fo:=(0,118)) (fs:=[(0,118),(3,118)]) rfl j6
theorem aCs{K:Nat→TI→Prop}:@qz Tryz.prog 133 1 ⟨K⟩=K 3 jd:=qs (ti:=Q3) (tf:=jd) (fo:=(3,118)) (fs:=[(0,118),(3,118)]) aoi rfl rfl j6
theorem aJy{K:Nat→Nat→Prop}:qt Tryz.prog [(0,118),(3,118)] 1 K=K 3 3:=qr (tf:=jd) (fo:=(3,118)) (fs:=[(0,118),(3,118)]) rfl j6
theorem aK6:∀f∈([(0,118),(3,118)]:List (Nat×Nat)),(qo Tryz.prog f.2).isSome=true:=by
 intro f hf
 simp only[List.mem_cons,List.not_mem_nil,or_false]at hf
 rcases hf with rfl|rfl
 ·rw[j6];rfl
 ·rw[j6];rfl
theorem aTo{ps:List (Nat×AV)}{K:AV→Prop}:@zi Tryz.prog 133 ps ⟨K⟩=@zg (qt Tryz.prog [(0,118),(3,118)]) (zc Q3) ps ⟨fun cs=>K (.ag cs)⟩:=qJ aoi rfl aK6
theorem aV5{K:TI→Prop}:@tyW Tryz.prog 134 ⟨K⟩=K V2:=qj aYw
theorem ay0:V2.kd=Kd.oth:=ID rfl
theorem anE:V2.kd.agg=false:=ID rfl
theorem aid:V2.size=1:=ID rfl
theorem acI:V2.bytes=8:=ID rfl
theorem ayY:qv V2=True:=eq_true rfl
theorem ayZ:zc V2=[.v Value.nilFunc]:=ID rfl
theorem aV4{K:TI→Prop}:@tyW Tryz.prog 135 ⟨K⟩=K V1:=qj aYv
theorem ayX:V1.kd=Kd.oth:=ID rfl
theorem anD:V1.kd.agg=false:=ID rfl
theorem aic:V1.size=1:=ID rfl
theorem acH:V1.bytes=8:=ID rfl
theorem ayV:qv V1=True:=eq_true rfl
theorem ayW:zc V1=[.v Value.nilFunc]:=ID rfl
theorem aV3{K:TI→Prop}:@tyW Tryz.prog 136 ⟨K⟩=K V0:=qj aYu
theorem ayU:V0.kd=Kd.oth:=ID rfl
theorem anC:V0.kd.agg=false:=ID rfl
theorem aib:V0.size=1:=ID rfl
theorem acG:V0.bytes=8:=ID rfl
theorem ayS:qv V0=True:=eq_true rfl
theorem ayT:zc V0=[.v Value.nilFunc]:=ID rfl
theorem aV2{K:TI→Prop}:@tyW Tryz.prog 137 ⟨K⟩=K VZ:=qj aYt
theorem ayR:VZ.kd=Kd.oth:=ID rfl
theorem anB:VZ.kd.agg=false:=ID rfl
theorem aia:VZ.size=1:=ID rfl
theorem acF:VZ.bytes=8:=ID rfl
theorem ayP:qv VZ=True:=eq_true rfl
theorem ayQ:zc VZ=[.v Value.nilFunc]:=ID rfl
theorem aV1{K:TI→Prop}:@tyW Tryz.prog 138 ⟨K⟩=K VY:=qj aYs
theorem ayO:VY.kd=Kd.oth:=ID rfl
theorem anA:VY.kd.agg=false:=ID rfl
theorem ah9:VY.size=1:=ID rfl
theorem acE:VY.bytes=8:=ID rfl
theorem ayM:qv VY=True:=eq_true rfl
theorem ayN:zc VY=[.v Value.nilFunc]:=ID rfl
theorem aV0{K:TI→Prop}:@tyW Tryz.prog 139 ⟨K⟩=K VX:=qj aYr
theorem ayL:VX.kd=Kd.oth:=ID rfl
theorem anz:VX.kd.agg=false:=ID rfl
theorem ah8:VX.size=1:=ID rfl
theorem acD:VX.bytes=8:=ID rfl
theorem ayJ:qv VX=True:=eq_true rfl
theorem ayK:zc VX=[.v Value.nilFunc]:=ID rfl
theorem aVZ{K:TI→Prop}:@tyW Tryz.prog 140 ⟨K⟩=K VW:=qj aYq
theorem ayI:VW.kd=Kd.oth:=ID rfl
theorem anx:VW.kd.agg=false:=ID rfl
theorem ah7:VW.size=1:=ID rfl
theorem acC:VW.bytes=8:=ID rfl
theorem ayG:qv VW=True:=eq_true rfl
theorem ayH:zc VW=[.v Value.nilFunc]:=ID rfl
theorem aVY{K:TI→Prop}:@tyW Tryz.prog 142 ⟨K⟩=K VV:=qj aYp
theorem ayF:VV.kd=Kd.oth:=ID rfl
theorem anw:VV.kd.agg=false:=ID rfl
theorem ah6:VV.size=1:=ID rfl
theorem acB:VV.bytes=8:=ID rfl
theorem ayD:qv VV=True:=eq_true rfl
theorem ayE:zc VV=[.v Value.nilFunc]:=ID rfl
theorem aVX{K:TI→Prop}:@tyW Tryz.prog 143 ⟨K⟩=K VU:=qj aYo
theorem ayC:VU.kd=Kd.oth:=ID rfl
theorem anv:VU.kd.agg=false:=ID rfl
theorem ah5:VU.size=1:=ID rfl
theorem acA:VU.bytes=8:=ID rfl
theorem ayA:qv VU=True:=eq_true rfl
theorem ayB:zc VU=[.v Value.nilFunc]:=ID rfl
theorem aVW{K:TI→Prop}:@tyW Tryz.prog 144 ⟨K⟩=K VT:=qj aYn
theorem ayz:VT.kd=Kd.oth:=ID rfl
theorem anu:VT.kd.agg=false:=ID rfl
theorem ah4:VT.size=1:=ID rfl
theorem acz:VT.bytes=8:=ID rfl
theorem ayx:qv VT=True:=eq_true rfl
theorem ayy:zc VT=[.v Value.nilFunc]:=ID rfl
theorem aVV{K:TI→Prop}:@tyW Tryz.prog 145 ⟨K⟩=K VS:=qj aYm
theorem ayw:VS.kd=Kd.oth:=ID rfl
theorem ant:VS.kd.agg=false:=ID rfl
theorem ah3:VS.size=1:=ID rfl
theorem acy:VS.bytes=8:=ID rfl
theorem ayu:qv VS=True:=eq_true rfl
theorem ayv:zc VS=[.v Value.nilFunc]:=ID rfl
theorem aVU{K:TI→Prop}:@tyW Tryz.prog 146 ⟨K⟩=K VR:=qj aYl
theorem ayt:VR.kd=Kd.oth:=ID rfl
theorem ans:VR.kd.agg=false:=ID rfl
theorem ah2:VR.size=1:=ID rfl
theorem acx:VR.bytes=8:=ID rfl
theorem ayr:qv VR=True:=eq_true rfl
theorem ays:zc VR=[.v Value.nilFunc]:=ID rfl
theorem aVT{K:TI→Prop}:@tyW Tryz.prog 147 ⟨K⟩=K VQ:=qj aYk
theorem ayq:VQ.kd=Kd.oth:=ID rfl
theorem anr:VQ.kd.agg=false:=ID rfl
theorem ah1:VQ.size=1:=ID rfl
theorem acw:VQ.bytes=8:=ID rfl
theorem ayo:qv VQ=True:=eq_true rfl
theorem ayp:zc VQ=[.v Value.nilFunc]:=ID rfl
theorem aVS{K:TI→Prop}:@tyW Tryz.prog 148 ⟨K⟩=K VP:=qj aYj
theorem ayn:VP.kd=Kd.oth:=ID rfl
theorem anq:VP.kd.agg=false:=ID rfl
theorem ah0:VP.size=1:=ID rfl
theorem acv:VP.bytes=8:=ID rfl
theorem ayl:qv VP=True:=eq_true rfl
theorem aym:zc VP=[.v Value.nilFunc]:=ID rfl
theorem aVR{K:TI→Prop}:@tyW Tryz.prog 149 ⟨K⟩=K VO:=qj aYi
theorem ayk:VO.kd=Kd.oth:=ID rfl
theorem anp:VO.kd.agg=false:=ID rfl
theorem ahZ:VO.size=1:=ID rfl
theorem acu:VO.bytes=8:=ID rfl
theorem ayi:qv VO=True:=eq_true rfl
theorem ayj:zc VO=[.v Value.nilFunc]:=ID rfl
theorem aVQ{K:TI→Prop}:@tyW Tryz.prog 151 ⟨K⟩=K VN:=qj aYh
theorem ayh:VN.kd=Kd.oth:=ID rfl
theorem ano:VN.kd.agg=false:=ID rfl
theorem ahY:VN.size=1:=ID rfl
theorem act:VN.bytes=8:=ID rfl
theorem ayf:qv VN=True:=eq_true rfl
theorem ayg:zc VN=[.v Value.nilFunc]:=ID rfl
theorem aVP{K:TI→Prop}:@tyW Tryz.prog 152 ⟨K⟩=K VM:=qj aYg
theorem aye:VM.kd=Kd.oth:=ID rfl
theorem ann:VM.kd.agg=false:=ID rfl
theorem ahX:VM.size=1:=ID rfl
theorem acs:VM.bytes=8:=ID rfl
theorem ayc:qv VM=True:=eq_true rfl
theorem ayd:zc VM=[.v Value.nilFunc]:=ID rfl
theorem aVO{K:TI→Prop}:@tyW Tryz.prog 153 ⟨K⟩=K y5:=qj Kv
theorem ayb:y5.kd=Kd.sli 133:=ID rfl
theorem anm:y5.kd.agg=false:=ID rfl
theorem ahW:y5.size=1:=ID rfl
theorem acr:y5.bytes=24:=ID rfl
theorem ax9:qv y5=True:=eq_true rfl
theorem aya:zc y5=[.v (Value.slice none 0 0)]:=ID rfl
theorem aN1{K:TI→Prop}:@yG Tryz.prog 153 ⟨K⟩=K Q3:=Zv Kv rfl aoi
theorem aVN{K:TI→Prop}:@tyW Tryz.prog 154 ⟨K⟩=K Zo:=qj aAJ
theorem ax8:Zo.kd=Kd.stru [(0,3),(1,153)]:=ID rfl
theorem anl:Zo.kd.agg=true:=ID rfl
theorem ahV:Zo.size=2:=ID rfl
theorem acq:Zo.bytes=32:=ID rfl
theorem ax6:qv Zo=True:=eq_true rfl
theorem ax7:zc Zo=[.v (Value.int IntKind.i64 0),.v (Value.slice none 0 0)]:=ID rfl
theorem aCr{K:Nat→TI→Prop}:@qz Tryz.prog 154 0 ⟨K⟩=K 0 ti3:=qs (ti:=Zo) (tf:=ti3) (fo:=(0,3)) (fs:=[(0,3),(1,153)]) aAJ rfl rfl tf3
theorem aJx{K:Nat→Nat→Prop}:qt Tryz.prog [(0,3),(1,153)] 0 K=K 0 1:=qr (tf:=ti3) (fo:=(0,3)) (fs:=[(0,3),(1,153)]) rfl tf3
theorem aCq{K:Nat→TI→Prop}:@qz Tryz.prog 154 1 ⟨K⟩=K 1 y5:=qs (ti:=Zo) (tf:=y5) (fo:=(1,153)) (fs:=[(0,3),(1,153)]) aAJ rfl rfl Kv
theorem aJw{K:Nat→Nat→Prop}:qt Tryz.prog [(0,3),(1,153)] 1 K=K 1 1:=qr (tf:=y5) (fo:=(1,153)) (fs:=[(0,3),(1,153)]) rfl Kv
theorem aK5:∀f∈([(0,3),(1,153)]:List (Nat×Nat)),(qo Tryz.prog f.2).isSome=true:=by
 intro f hf
 simp only[List.mem_cons,List.not_mem_nil,or_false]at hf
 rcases hf with rfl|rfl
 ·rw[tf3];rfl
 ·rw[Kv];rfl
theorem aTn{ps:List (Nat×AV)}{K:AV→Prop}:@zi Tryz.prog 154 ps ⟨K⟩=@zg (qt Tryz.prog [(0,3),(1,153)]) (zc Zo) ps ⟨fun cs=>K (.ag cs)⟩:=qJ aAJ rfl aK5
theorem aVM{K:TI→Prop}:@tyW Tryz.prog 155 ⟨K⟩=K Zn:=qj aAI
theorem ax5:Zn.kd=Kd.stru [(0,3),(1,153)]:=ID rfl
theorem ank:Zn.kd.agg=true:=ID rfl
theorem ahU:Zn.size=2:=ID rfl
theorem acp:Zn.bytes=32:=ID rfl
theorem ax3:qv Zn=True:=eq_true rfl
theorem ax4:zc Zn=[.v (Value.int IntKind.i64 0),.v (Value.slice none 0 0)]:=ID rfl
theorem aCp{K:Nat→TI→Prop}:@qz Tryz.prog 155 0 ⟨K⟩=K 0 ti3:=qs (ti:=Zn) (tf:=ti3) (fo:=(0,3)) (fs:=[(0,3),(1,153)]) aAI rfl rfl tf3
theorem aJv{K:Nat→Nat→Prop}:qt Tryz.prog [(0,3),(1,153)] 0 K=K 0 1:=qr (tf:=ti3) (fo:=(0,3)) (fs:=[(0,3),(1,153)]) rfl tf3
theorem aCo{K:Nat→TI→Prop}:@qz Tryz.prog 155 1 ⟨K⟩=K 1 y5:=qs (ti:=Zn) (tf:=y5) (fo:=(1,153)) (fs:=[(0,3),(1,153)]) aAI rfl rfl Kv
theorem aJu{K:Nat→Nat→Prop}:qt Tryz.prog [(0,3),(1,153)] 1 K=K 1 1:=qr (tf:=y5) (fo:=(1,153)) (fs:=[(0,3),(1,153)]) rfl Kv
theorem aK4:∀f∈([(0,3),(1,153)]:List (Nat×Nat)),(qo Tryz.prog f.2).isSome=true:=by
 intro f hf
 simp only[List.mem_cons,List.not_mem_nil,or_false]at hf
 rcases hf with rfl|rfl
 ·rw[tf3];rfl
 ·rw[Kv];rfl
theorem aTm{ps:List (Nat×AV)}{K:AV→Prop}:@zi Tryz.prog 155 ps ⟨K⟩=@zg (qt Tryz.prog [(0,3),(1,153)]) (zc Zn) ps ⟨fun cs=>K (.ag cs)⟩:=qJ aAI rfl aK4
theorem aVL{K:TI→Prop}:@tyW Tryz.prog 156 ⟨K⟩=K VL:=qj aYf
theorem ax2:VL.kd=Kd.oth:=ID rfl
theorem anj:VL.kd.agg=false:=ID rfl
theorem ahT:VL.size=1:=ID rfl
theorem aco:VL.bytes=8:=ID rfl
theorem ax0:qv VL=True:=eq_true rfl
theorem ax1:zc VL=[.v Value.nilFunc]:=ID rfl
theorem aVK{K:TI→Prop}:@tyW Tryz.prog 157 ⟨K⟩=K VK:=qj aYe
theorem axZ:VK.kd=Kd.oth:=ID rfl
theorem ani:VK.kd.agg=false:=ID rfl
theorem ahS:VK.size=1:=ID rfl
theorem acn:VK.bytes=8:=ID rfl
theorem axX:qv VK=True:=eq_true rfl
theorem axY:zc VK=[.v Value.nilFunc]:=ID rfl
theorem aVJ{K:TI→Prop}:@tyW Tryz.prog 158 ⟨K⟩=K VJ:=qj aYd
theorem axW:VJ.kd=Kd.oth:=ID rfl
theorem anh:VJ.kd.agg=false:=ID rfl
theorem ahR:VJ.size=1:=ID rfl
theorem acm:VJ.bytes=8:=ID rfl
theorem axU:qv VJ=True:=eq_true rfl
theorem axV:zc VJ=[.v Value.nilFunc]:=ID rfl
theorem aVI{K:TI→Prop}:@tyW Tryz.prog 159 ⟨K⟩=K VI:=qj aYc
theorem axT:VI.kd=Kd.oth:=ID rfl
theorem ang:VI.kd.agg=false:=ID rfl
theorem ahQ:VI.size=1:=ID rfl
theorem acl:VI.bytes=8:=ID rfl
theorem axR:qv VI=True:=eq_true rfl
theorem axS:zc VI=[.v Value.nilFunc]:=ID rfl
theorem aVH{K:TI→Prop}:@tyW Tryz.prog 160 ⟨K⟩=K VH:=qj aYb
theorem axQ:VH.kd=Kd.oth:=ID rfl
theorem anf:VH.kd.agg=false:=ID rfl
theorem ahP:VH.size=1:=ID rfl
theorem ack:VH.bytes=8:=ID rfl
theorem axO:qv VH=True:=eq_true rfl
theorem axP:zc VH=[.v Value.nilFunc]:=ID rfl
theorem aVG{K:TI→Prop}:@tyW Tryz.prog 161 ⟨K⟩=K VG:=qj aYa
theorem axN:VG.kd=Kd.oth:=ID rfl
theorem ane:VG.kd.agg=false:=ID rfl
theorem ahO:VG.size=1:=ID rfl
theorem acj:VG.bytes=8:=ID rfl
theorem axL:qv VG=True:=eq_true rfl
theorem axM:zc VG=[.v Value.nilFunc]:=ID rfl
theorem aVF{K:TI→Prop}:@tyW Tryz.prog 163 ⟨K⟩=K VF:=qj aX9
theorem axK:VF.kd=Kd.oth:=ID rfl
theorem anc:VF.kd.agg=false:=ID rfl
theorem ahN:VF.size=1:=ID rfl
theorem aci:VF.bytes=8:=ID rfl
theorem axI:qv VF=True:=eq_true rfl
theorem axJ:zc VF=[.v Value.nilFunc]:=ID rfl
theorem aVE{K:TI→Prop}:@tyW Tryz.prog 164 ⟨K⟩=K VE:=qj aX8
theorem axH:VE.kd=Kd.oth:=ID rfl
theorem anb:VE.kd.agg=false:=ID rfl
theorem ahM:VE.size=1:=ID rfl
theorem ach:VE.bytes=8:=ID rfl
theorem axF:qv VE=True:=eq_true rfl
theorem axG:zc VE=[.v Value.nilFunc]:=ID rfl
theorem aVD{K:TI→Prop}:@tyW Tryz.prog 165 ⟨K⟩=K VD:=qj aX7
theorem axE:VD.kd=Kd.oth:=ID rfl
theorem ana:VD.kd.agg=false:=ID rfl
theorem ahL:VD.size=1:=ID rfl
theorem acg:VD.bytes=8:=ID rfl
theorem axC:qv VD=True:=eq_true rfl
theorem axD:zc VD=[.v Value.nilFunc]:=ID rfl
theorem aVC{K:TI→Prop}:@tyW Tryz.prog 166 ⟨K⟩=K VC:=qj aX6
theorem axB:VC.kd=Kd.oth:=ID rfl
theorem am9:VC.kd.agg=false:=ID rfl
theorem ahK:VC.size=1:=ID rfl
theorem acf:VC.bytes=8:=ID rfl
theorem axz:qv VC=True:=eq_true rfl
theorem axA:zc VC=[.v Value.nilFunc]:=ID rfl
theorem aVB{K:TI→Prop}:@tyW Tryz.prog 167 ⟨K⟩=K VB:=qj aX5
theorem axy:VB.kd=Kd.oth:=ID rfl
theorem am8:VB.kd.agg=false:=ID rfl
theorem ahJ:VB.size=1:=ID rfl
theorem ace:VB.bytes=8:=ID rfl
theorem axw:qv VB=True:=eq_true rfl
theorem axx:zc VB=[.v Value.nilFunc]:=ID rfl
theorem aVA{K:TI→Prop}:@tyW Tryz.prog 168 ⟨K⟩=K VA:=qj aX4
theorem axv:VA.kd=Kd.oth:=ID rfl
theorem am7:VA.kd.agg=false:=ID rfl
theorem ahI:VA.size=1:=ID rfl
theorem acd:VA.bytes=8:=ID rfl
theorem axt:qv VA=True:=eq_true rfl
theorem axu:zc VA=[.v Value.nilFunc]:=ID rfl
theorem aVz{K:TI→Prop}:@tyW Tryz.prog 169 ⟨K⟩=K Vz:=qj aX3
theorem axs:Vz.kd=Kd.oth:=ID rfl
theorem am6:Vz.kd.agg=false:=ID rfl
theorem ahH:Vz.size=1:=ID rfl
theorem acb:Vz.bytes=8:=ID rfl
theorem axq:qv Vz=True:=eq_true rfl
theorem axr:zc Vz=[.v Value.nilFunc]:=ID rfl
theorem aVy{K:TI→Prop}:@tyW Tryz.prog 170 ⟨K⟩=K Vy:=qj aX2
theorem axp:Vy.kd=Kd.oth:=ID rfl
theorem am5:Vy.kd.agg=false:=ID rfl
theorem ahG:Vy.size=1:=ID rfl
theorem aca:Vy.bytes=8:=ID rfl
theorem axn:qv Vy=True:=eq_true rfl
theorem axo:zc Vy=[.v Value.nilFunc]:=ID rfl
theorem aVx{K:TI→Prop}:@tyW Tryz.prog 171 ⟨K⟩=K Vx:=qj aX1
theorem axm:Vx.kd=Kd.oth:=ID rfl
theorem am4:Vx.kd.agg=false:=ID rfl
theorem ahF:Vx.size=1:=ID rfl
theorem ab9:Vx.bytes=8:=ID rfl
theorem axk:qv Vx=True:=eq_true rfl
theorem axl:zc Vx=[.v Value.nilFunc]:=ID rfl
theorem aVw{K:TI→Prop}:@tyW Tryz.prog 173 ⟨K⟩=K Vw:=qj aX0
theorem axj:Vw.kd=Kd.oth:=ID rfl
theorem am3:Vw.kd.agg=false:=ID rfl
theorem ahE:Vw.size=1:=ID rfl
theorem ab8:Vw.bytes=8:=ID rfl
theorem axh:qv Vw=True:=eq_true rfl
theorem axi:zc Vw=[.v Value.nilFunc]:=ID rfl
theorem aVv{K:TI→Prop}:@tyW Tryz.prog 174 ⟨K⟩=K Q2:=qj aoh
theorem axg:Q2.kd=Kd.stru [(0,22),(1,3),(2,3)]:=ID rfl
theorem am2:Q2.kd.agg=true:=ID rfl
theorem ahD:Q2.size=3:=ID rfl
theorem ab7:Q2.bytes=40:=ID rfl
theorem axe:qv Q2=True:=eq_true rfl
theorem axf:zc Q2=[.v (Value.slice none 0 0),.v (Value.int IntKind.i64 0),.v (Value.int IntKind.i64 0)]:=ID rfl
theorem aCn{K:Nat→TI→Prop}:@qz Tryz.prog 174 0 ⟨K⟩=K 0 aez:=qs (ti:=Q2) (tf:=aez) (fo:=(0,22)) (fs:=[(0,22),(1,3),(2,3)]) aoh rfl rfl aEC
theorem aJt{K:Nat→Nat→Prop}:qt Tryz.prog [(0,22),(1,3),(2,3)] 0 K=K 0 1:=qr (tf:=aez) (fo:=(0,22)) (fs:=[(0,22),(1,3),(2,3)]) rfl aEC
theorem aCm{K:Nat→TI→Prop}:@qz Tryz.prog 174 1 ⟨K⟩=K 1 ti3:=qs (ti:=Q2) (tf:=ti3) (fo:=(1,3)) (fs:=[(0,22),(1,3),(2,3)]) aoh rfl rfl tf3
theorem aJs{K:Nat→Nat→Prop}:qt Tryz.prog [(0,22),(1,3),(2,3)] 1 K=K 1 1:=qr (tf:=ti3) (fo:=(1,3)) (fs:=[(0,22),(1,3),(2,3)]) rfl tf3
theorem aCl{K:Nat→TI→Prop}:@qz Tryz.prog 174 2 ⟨K⟩=K 2 ti3:=qs (ti:=Q2) (tf:=ti3) (fo:=(2,3)) (fs:=[(0,22),(1,3),(2,3)]) aoh rfl rfl tf3
theorem aJr{K:Nat→Nat→Prop}:qt Tryz.prog [(0,22),(1,3),(2,3)] 2 K=K 2 1:=qr (tf:=ti3) (fo:=(2,3)) (fs:=[(0,22),(1,3),(2,3)]) rfl tf3
theorem aK3:∀f∈([(0,22),(1,3),(2,3)]:List (Nat×Nat)),(qo Tryz.prog f.2).isSome=true:=by
 intro f hf
 simp only[List.mem_cons,List.not_mem_nil,or_false]at hf
 rcases hf with rfl|rfl|rfl
 ·rw[aEC];rfl
 ·rw[tf3];rfl
 ·rw[tf3];rfl
theorem aTl{ps:List (Nat×AV)}{K:AV→Prop}:@zi Tryz.prog 174 ps ⟨K⟩=@zg (qt Tryz.prog [(0,22),(1,3),(2,3)]) (zc Q2) ps ⟨fun cs=>K (.ag cs)⟩:=qJ aoh rfl aK3
theorem aVu{K:TI→Prop}:@tyW Tryz.prog 175 ⟨K⟩=K Q1:=qj aog
theorem axd:Q1.kd=Kd.stru [(0,22),(1,3),(2,3)]:=ID rfl
theorem am1:Q1.kd.agg=true:=ID rfl
theorem ahC:Q1.size=3:=ID rfl
theorem ab6:Q1.bytes=40:=ID rfl
theorem axb:qv Q1=True:=eq_true rfl
theorem axc:zc Q1=[.v (Value.slice none 0 0),.v (Value.int IntKind.i64 0),.v (Value.int IntKind.i64 0)]:=ID rfl
theorem aCk{K:Nat→TI→Prop}:@qz Tryz.prog 175 0 ⟨K⟩=K 0 aez:=qs (ti:=Q1) (tf:=aez) (fo:=(0,22)) (fs:=[(0,22),(1,3),(2,3)]) aog rfl rfl aEC
theorem aJq{K:Nat→Nat→Prop}:qt Tryz.prog [(0,22),(1,3),(2,3)] 0 K=K 0 1:=qr (tf:=aez) (fo:=(0,22)) (fs:=[(0,22),(1,3),(2,3)]) rfl aEC
theorem aCj{K:Nat→TI→Prop}:@qz Tryz.prog 175 1 ⟨K⟩=K 1 ti3:=qs (ti:=Q1) (tf:=ti3) (fo:=(1,3)) (fs:=[(0,22),(1,3),(2,3)]) aog rfl rfl tf3
theorem aJp{K:Nat→Nat→Prop}:qt Tryz.prog [(0,22),(1,3),(2,3)] 1 K=K 1 1:=qr (tf:=ti3) (fo:=(1,3)) (fs:=[(0,22),(1,3),(2,3)]) rfl tf3
theorem aCi{K:Nat→TI→Prop}:@qz Tryz.prog 175 2 ⟨K⟩=K 2 ti3:=qs (ti:=Q1) (tf:=ti3) (fo:=(2,3)) (fs:=[(0,22),(1,3),(2,3)]) aog rfl rfl tf3
theorem aJo{K:Nat→Nat→Prop}:qt Tryz.prog [(0,22),(1,3),(2,3)] 2 K=K 2 1:=qr (tf:=ti3) (fo:=(2,3)) (fs:=[(0,22),(1,3),(2,3)]) rfl tf3
theorem aK2:∀f∈([(0,22),(1,3),(2,3)]:List (Nat×Nat)),(qo Tryz.prog f.2).isSome=true:=by
 intro f hf
 simp only[List.mem_cons,List.not_mem_nil,or_false]at hf
 rcases hf with rfl|rfl|rfl
 ·rw[aEC];rfl
 ·rw[tf3];rfl
 ·rw[tf3];rfl
theorem aTk{ps:List (Nat×AV)}{K:AV→Prop}:@zi Tryz.prog 175 ps ⟨K⟩=@zg (qt Tryz.prog [(0,22),(1,3),(2,3)]) (zc Q1) ps ⟨fun cs=>K (.ag cs)⟩:=qJ aog rfl aK2
theorem aVt{K:TI→Prop}:@tyW Tryz.prog 176 ⟨K⟩=K Vv:=qj aXZ
theorem axa:Vv.kd=Kd.oth:=ID rfl
theorem am0:Vv.kd.agg=false:=ID rfl
theorem ahB:Vv.size=1:=ID rfl
theorem ab5:Vv.bytes=8:=ID rfl
theorem aw8:qv Vv=True:=eq_true rfl
theorem aw9:zc Vv=[.v Value.nilFunc]:=ID rfl
theorem aVs{K:TI→Prop}:@tyW Tryz.prog 177 ⟨K⟩=K Vu:=qj aXY
theorem aw7:Vu.kd=Kd.oth:=ID rfl
theorem amZ:Vu.kd.agg=false:=ID rfl
theorem ahA:Vu.size=1:=ID rfl
theorem ab4:Vu.bytes=8:=ID rfl
theorem aw5:qv Vu=True:=eq_true rfl
theorem aw6:zc Vu=[.v Value.nilFunc]:=ID rfl
theorem aVr{K:TI→Prop}:@tyW Tryz.prog 178 ⟨K⟩=K Vt:=qj aXX
theorem aw4:Vt.kd=Kd.oth:=ID rfl
theorem amY:Vt.kd.agg=false:=ID rfl
theorem ahz:Vt.size=1:=ID rfl
theorem ab3:Vt.bytes=8:=ID rfl
theorem aw2:qv Vt=True:=eq_true rfl
theorem aw3:zc Vt=[.v Value.nilFunc]:=ID rfl
theorem aVq{K:TI→Prop}:@tyW Tryz.prog 179 ⟨K⟩=K Vs:=qj aXW
theorem aw1:Vs.kd=Kd.oth:=ID rfl
theorem amX:Vs.kd.agg=false:=ID rfl
theorem ahy:Vs.size=1:=ID rfl
theorem ab2:Vs.bytes=8:=ID rfl
theorem awZ:qv Vs=True:=eq_true rfl
theorem aw0:zc Vs=[.v Value.nilFunc]:=ID rfl
theorem aVp{K:TI→Prop}:@tyW Tryz.prog 180 ⟨K⟩=K Vr:=qj aXV
theorem awY:Vr.kd=Kd.oth:=ID rfl
theorem amW:Vr.kd.agg=false:=ID rfl
theorem ahx:Vr.size=1:=ID rfl
theorem ab1:Vr.bytes=8:=ID rfl
theorem awW:qv Vr=True:=eq_true rfl
theorem awX:zc Vr=[.v Value.nilFunc]:=ID rfl
theorem aVo{K:TI→Prop}:@tyW Tryz.prog 182 ⟨K⟩=K Vq:=qj aXU
theorem awU:Vq.kd=Kd.oth:=ID rfl
theorem amV:Vq.kd.agg=false:=ID rfl
theorem ahw:Vq.size=1:=ID rfl
theorem ab0:Vq.bytes=8:=ID rfl
theorem awS:qv Vq=True:=eq_true rfl
theorem awT:zc Vq=[.v Value.nilFunc]:=ID rfl
theorem aVn{K:TI→Prop}:@tyW Tryz.prog 183 ⟨K⟩=K Vp:=qj aXT
theorem awR:Vp.kd=Kd.oth:=ID rfl
theorem amU:Vp.kd.agg=false:=ID rfl
theorem ahv:Vp.size=1:=ID rfl
theorem abZ:Vp.bytes=8:=ID rfl
theorem awP:qv Vp=True:=eq_true rfl
theorem awQ:zc Vp=[.v Value.nilFunc]:=ID rfl
theorem aVm{K:TI→Prop}:@tyW Tryz.prog 184 ⟨K⟩=K Vo:=qj aXS
theorem awO:Vo.kd=Kd.oth:=ID rfl
theorem amT:Vo.kd.agg=false:=ID rfl
theorem ahu:Vo.size=1:=ID rfl
theorem abY:Vo.bytes=8:=ID rfl
theorem awM:qv Vo=True:=eq_true rfl
theorem awN:zc Vo=[.v Value.nilFunc]:=ID rfl
theorem aVl{K:TI→Prop}:@tyW Tryz.prog 185 ⟨K⟩=K Vn:=qj aXR
theorem awL:Vn.kd=Kd.oth:=ID rfl
theorem amS:Vn.kd.agg=false:=ID rfl
theorem aht:Vn.size=1:=ID rfl
theorem abX:Vn.bytes=8:=ID rfl
theorem awJ:qv Vn=True:=eq_true rfl
theorem awK:zc Vn=[.v Value.nilFunc]:=ID rfl
theorem aVk{K:TI→Prop}:@tyW Tryz.prog 186 ⟨K⟩=K Vm:=qj aXQ
theorem awI:Vm.kd=Kd.oth:=ID rfl
theorem amR:Vm.kd.agg=false:=ID rfl
theorem ahs:Vm.size=1:=ID rfl
theorem abW:Vm.bytes=8:=ID rfl
theorem awG:qv Vm=True:=eq_true rfl
theorem awH:zc Vm=[.v Value.nilFunc]:=ID rfl
theorem aVj{K:TI→Prop}:@tyW Tryz.prog 187 ⟨K⟩=K Vl:=qj aXP
theorem awF:Vl.kd=Kd.oth:=ID rfl
theorem amQ:Vl.kd.agg=false:=ID rfl
theorem ahr:Vl.size=1:=ID rfl
theorem abV:Vl.bytes=8:=ID rfl
theorem awD:qv Vl=True:=eq_true rfl
theorem awE:zc Vl=[.v Value.nilFunc]:=ID rfl
theorem aVi{K:TI→Prop}:@tyW Tryz.prog 188 ⟨K⟩=K Vk:=qj aXO
theorem awC:Vk.kd=Kd.oth:=ID rfl
theorem amP:Vk.kd.agg=false:=ID rfl
theorem ahq:Vk.size=1:=ID rfl
theorem abU:Vk.bytes=8:=ID rfl
theorem awA:qv Vk=True:=eq_true rfl
theorem awB:zc Vk=[.v Value.nilFunc]:=ID rfl
theorem aVh{K:TI→Prop}:@tyW Tryz.prog 189 ⟨K⟩=K Vj:=qj aXN
theorem awz:Vj.kd=Kd.oth:=ID rfl
theorem amO:Vj.kd.agg=false:=ID rfl
theorem ahp:Vj.size=1:=ID rfl
theorem abT:Vj.bytes=8:=ID rfl
theorem awx:qv Vj=True:=eq_true rfl
theorem awy:zc Vj=[.v Value.nilFunc]:=ID rfl
theorem aVg{K:TI→Prop}:@tyW Tryz.prog 190 ⟨K⟩=K Vi:=qj aXM
theorem aww:Vi.kd=Kd.oth:=ID rfl
theorem amN:Vi.kd.agg=false:=ID rfl
theorem aho:Vi.size=1:=ID rfl
theorem abS:Vi.bytes=8:=ID rfl
theorem awu:qv Vi=True:=eq_true rfl
theorem awv:zc Vi=[.v Value.nilFunc]:=ID rfl
theorem aVf{K:TI→Prop}:@tyW Tryz.prog 191 ⟨K⟩=K Vh:=qj aXL
theorem awt:Vh.kd=Kd.oth:=ID rfl
theorem amM:Vh.kd.agg=false:=ID rfl
theorem ahn:Vh.size=1:=ID rfl
theorem abR:Vh.bytes=8:=ID rfl
theorem awr:qv Vh=True:=eq_true rfl
theorem aws:zc Vh=[.v Value.nilFunc]:=ID rfl
theorem aVe{K:TI→Prop}:@tyW Tryz.prog 192 ⟨K⟩=K Vg:=qj aXK
theorem awq:Vg.kd=Kd.oth:=ID rfl
theorem amL:Vg.kd.agg=false:=ID rfl
theorem ahm:Vg.size=1:=ID rfl
theorem abQ:Vg.bytes=8:=ID rfl
theorem awn:qv Vg=True:=eq_true rfl
theorem awo:zc Vg=[.v Value.nilFunc]:=ID rfl
theorem aVd{K:TI→Prop}:@tyW Tryz.prog 194 ⟨K⟩=K Vf:=qj aXJ
theorem awm:Vf.kd=Kd.oth:=ID rfl
theorem amK:Vf.kd.agg=false:=ID rfl
theorem ahl:Vf.size=1:=ID rfl
theorem abP:Vf.bytes=8:=ID rfl
theorem awk:qv Vf=True:=eq_true rfl
theorem awl:zc Vf=[.v Value.nilFunc]:=ID rfl
theorem aVc{K:TI→Prop}:@tyW Tryz.prog 195 ⟨K⟩=K Ve:=qj aNK
theorem awj:Ve.kd=Kd.sli 111:=ID rfl
theorem amJ:Ve.kd.agg=false:=ID rfl
theorem ahk:Ve.size=1:=ID rfl
theorem abO:Ve.bytes=24:=ID rfl
theorem awh:qv Ve=True:=eq_true rfl
theorem awi:zc Ve=[.v (Value.slice none 0 0)]:=ID rfl
theorem aN0{K:TI→Prop}:@yG Tryz.prog 195 ⟨K⟩=K yP:=Zv aNK rfl J6
theorem aVb{K:TI→Prop}:@tyW Tryz.prog 196 ⟨K⟩=K Vd:=qj aXI
theorem awg:Vd.kd=Kd.oth:=ID rfl
theorem amI:Vd.kd.agg=false:=ID rfl
theorem ahj:Vd.size=1:=ID rfl
theorem abN:Vd.bytes=8:=ID rfl
theorem awe:qv Vd=True:=eq_true rfl
theorem awf:zc Vd=[.v Value.nilFunc]:=ID rfl
theorem aVa{K:TI→Prop}:@tyW Tryz.prog 197 ⟨K⟩=K Vc:=qj aXH
theorem awd:Vc.kd=Kd.oth:=ID rfl
theorem amH:Vc.kd.agg=false:=ID rfl
theorem ahi:Vc.size=1:=ID rfl
theorem abM:Vc.bytes=8:=ID rfl
theorem awb:qv Vc=True:=eq_true rfl
theorem awc:zc Vc=[.v Value.nilFunc]:=ID rfl
theorem aU9{K:TI→Prop}:@tyW Tryz.prog 198 ⟨K⟩=K Vb:=qj aXG
theorem awa:Vb.kd=Kd.oth:=ID rfl
theorem amG:Vb.kd.agg=false:=ID rfl
theorem ahh:Vb.size=1:=ID rfl
theorem abL:Vb.bytes=8:=ID rfl
theorem av8:qv Vb=True:=eq_true rfl
theorem av9:zc Vb=[.v Value.nilFunc]:=ID rfl
theorem aU8{K:TI→Prop}:@tyW Tryz.prog 199 ⟨K⟩=K Va:=qj aXF
theorem av7:Va.kd=Kd.oth:=ID rfl
theorem amF:Va.kd.agg=false:=ID rfl
theorem ahg:Va.size=1:=ID rfl
theorem abK:Va.bytes=8:=ID rfl
theorem av5:qv Va=True:=eq_true rfl
theorem av6:zc Va=[.v Value.nilFunc]:=ID rfl
theorem aU7{K:TI→Prop}:@tyW Tryz.prog 201 ⟨K⟩=K X9:=qj aXE
theorem av3:X9.kd=Kd.oth:=ID rfl
theorem amD:X9.kd.agg=false:=ID rfl
theorem ahf:X9.size=1:=ID rfl
theorem abJ:X9.bytes=8:=ID rfl
theorem av1:qv X9=True:=eq_true rfl
theorem av2:zc X9=[.v Value.nilFunc]:=ID rfl
theorem aU6{K:TI→Prop}:@tyW Tryz.prog 203 ⟨K⟩=K X8:=qj aXD
theorem av0:X8.kd=Kd.oth:=ID rfl
theorem amC:X8.kd.agg=false:=ID rfl
theorem ahe:X8.size=1:=ID rfl
theorem abI:X8.bytes=8:=ID rfl
theorem avY:qv X8=True:=eq_true rfl
theorem avZ:zc X8=[.v Value.nilFunc]:=ID rfl
theorem aU5{K:TI→Prop}:@tyW Tryz.prog 204 ⟨K⟩=K X7:=qj aXC
theorem avX:X7.kd=Kd.oth:=ID rfl
theorem amB:X7.kd.agg=false:=ID rfl
theorem ahd:X7.size=1:=ID rfl
theorem abH:X7.bytes=8:=ID rfl
theorem avV:qv X7=True:=eq_true rfl
theorem avW:zc X7=[.v Value.nilFunc]:=ID rfl
theorem aU4{K:TI→Prop}:@tyW Tryz.prog 205 ⟨K⟩=K X6:=qj aXB
theorem avU:X6.kd=Kd.oth:=ID rfl
theorem amA:X6.kd.agg=false:=ID rfl
theorem ahc:X6.size=1:=ID rfl
theorem abG:X6.bytes=8:=ID rfl
theorem avS:qv X6=True:=eq_true rfl
theorem avT:zc X6=[.v Value.nilFunc]:=ID rfl
theorem aU3{K:TI→Prop}:@tyW Tryz.prog 207 ⟨K⟩=K X5:=qj aXA
theorem avR:X5.kd=Kd.oth:=ID rfl
theorem amz:X5.kd.agg=false:=ID rfl
theorem ahb:X5.size=1:=ID rfl
theorem abF:X5.bytes=8:=ID rfl
theorem avP:qv X5=True:=eq_true rfl
theorem avQ:zc X5=[.v Value.nilFunc]:=ID rfl
theorem aU2{K:TI→Prop}:@tyW Tryz.prog 208 ⟨K⟩=K X4:=qj aXz
theorem avO:X4.kd=Kd.oth:=ID rfl
theorem amy:X4.kd.agg=false:=ID rfl
theorem aha:X4.size=1:=ID rfl
theorem abE:X4.bytes=8:=ID rfl
theorem avM:qv X4=True:=eq_true rfl
theorem avN:zc X4=[.v Value.nilFunc]:=ID rfl
theorem aU1{K:TI→Prop}:@tyW Tryz.prog 209 ⟨K⟩=K X3:=qj aXy
theorem avL:X3.kd=Kd.oth:=ID rfl
theorem amx:X3.kd.agg=false:=ID rfl
theorem ag9:X3.size=1:=ID rfl
theorem abD:X3.bytes=8:=ID rfl
theorem avJ:qv X3=True:=eq_true rfl
theorem avK:zc X3=[.v Value.nilFunc]:=ID rfl
theorem aU0{K:TI→Prop}:@tyW Tryz.prog 210 ⟨K⟩=K X2:=qj aXx
theorem avI:X2.kd=Kd.oth:=ID rfl
theorem amw:X2.kd.agg=false:=ID rfl
theorem ag8:X2.size=1:=ID rfl
theorem abC:X2.bytes=8:=ID rfl
theorem avG:qv X2=True:=eq_true rfl
theorem avH:zc X2=[.v Value.nilFunc]:=ID rfl
theorem aUZ{K:TI→Prop}:@tyW Tryz.prog 211 ⟨K⟩=K X1:=qj aXw
theorem avF:X1.kd=Kd.oth:=ID rfl
theorem amv:X1.kd.agg=false:=ID rfl
theorem ag7:X1.size=1:=ID rfl
theorem abB:X1.bytes=8:=ID rfl
theorem avD:qv X1=True:=eq_true rfl
theorem avE:zc X1=[.v Value.nilFunc]:=ID rfl
theorem aUY{K:TI→Prop}:@tyW Tryz.prog 212 ⟨K⟩=K X0:=qj aXv
theorem avC:X0.kd=Kd.oth:=ID rfl
theorem amu:X0.kd.agg=false:=ID rfl
theorem ag6:X0.size=1:=ID rfl
theorem abA:X0.bytes=8:=ID rfl
theorem avA:qv X0=True:=eq_true rfl
theorem avB:zc X0=[.v Value.nilFunc]:=ID rfl
theorem aUX{K:TI→Prop}:@tyW Tryz.prog 213 ⟨K⟩=K XZ:=qj aXu
theorem avz:XZ.kd=Kd.oth:=ID rfl
theorem amt:XZ.kd.agg=false:=ID rfl
theorem ag5:XZ.size=1:=ID rfl
theorem abz:XZ.bytes=8:=ID rfl
theorem avx:qv XZ=True:=eq_true rfl
theorem avy:zc XZ=[.v Value.nilFunc]:=ID rfl
theorem aUW{K:TI→Prop}:@tyW Tryz.prog 214 ⟨K⟩=K XY:=qj aXt
theorem avw:XY.kd=Kd.oth:=ID rfl
theorem ams:XY.kd.agg=false:=ID rfl
theorem ag4:XY.size=1:=ID rfl
theorem aby:XY.bytes=8:=ID rfl
theorem avu:qv XY=True:=eq_true rfl
theorem avv:zc XY=[.v Value.nilFunc]:=ID rfl
theorem aUV{K:TI→Prop}:@tyW Tryz.prog 215 ⟨K⟩=K XX:=qj aXs
theorem avt:XX.kd=Kd.oth:=ID rfl
theorem amr:XX.kd.agg=false:=ID rfl
theorem ag3:XX.size=1:=ID rfl
theorem abx:XX.bytes=8:=ID rfl
theorem avr:qv XX=True:=eq_true rfl
theorem avs:zc XX=[.v Value.nilFunc]:=ID rfl
theorem aUU{K:TI→Prop}:@tyW Tryz.prog 216 ⟨K⟩=K XW:=qj aXr
theorem avq:XW.kd=Kd.int IntKind.u64:=ID rfl
theorem amq:XW.kd.agg=false:=ID rfl
theorem ag2:XW.size=1:=ID rfl
theorem abw:XW.bytes=8:=ID rfl
theorem avo:qv XW=True:=eq_true rfl
theorem avp:zc XW=[.v (Value.int IntKind.u64 0)]:=ID rfl
theorem aUT{K:TI→Prop}:@tyW Tryz.prog 217 ⟨K⟩=K XV:=qj aXq
theorem avn:XV.kd=Kd.oth:=ID rfl
theorem amp:XV.kd.agg=false:=ID rfl
theorem ag1:XV.size=1:=ID rfl
theorem abv:XV.bytes=8:=ID rfl
theorem avl:qv XV=True:=eq_true rfl
theorem avm:zc XV=[.v Value.nilFunc]:=ID rfl
theorem aUS{K:TI→Prop}:@tyW Tryz.prog 218 ⟨K⟩=K XU:=qj aXp
theorem avk:XU.kd=Kd.oth:=ID rfl
theorem amo:XU.kd.agg=false:=ID rfl
theorem ag0:XU.size=1:=ID rfl
theorem abu:XU.bytes=8:=ID rfl
theorem avi:qv XU=True:=eq_true rfl
theorem avj:zc XU=[.v Value.nilFunc]:=ID rfl
theorem aUR{K:TI→Prop}:@tyW Tryz.prog 219 ⟨K⟩=K XT:=qj aXo
theorem avh:XT.kd=Kd.oth:=ID rfl
theorem amn:XT.kd.agg=false:=ID rfl
theorem agZ:XT.size=1:=ID rfl
theorem abt:XT.bytes=8:=ID rfl
theorem avf:qv XT=True:=eq_true rfl
theorem avg:zc XT=[.v Value.nilFunc]:=ID rfl
theorem aUQ{K:TI→Prop}:@tyW Tryz.prog 220 ⟨K⟩=K XS:=qj aXn
theorem avd:XS.kd=Kd.oth:=ID rfl
theorem aml:XS.kd.agg=false:=ID rfl
theorem agX:XS.size=1:=ID rfl
theorem abr:XS.bytes=8:=ID rfl
theorem avb:qv XS=True:=eq_true rfl
theorem avc:zc XS=[.v Value.nilFunc]:=ID rfl
theorem aUP{K:TI→Prop}:@tyW Tryz.prog 221 ⟨K⟩=K XR:=qj aXm
theorem ava:XR.kd=Kd.oth:=ID rfl
theorem amk:XR.kd.agg=false:=ID rfl
theorem agW:XR.size=1:=ID rfl
theorem abq:XR.bytes=8:=ID rfl
theorem au8:qv XR=True:=eq_true rfl
theorem au9:zc XR=[.v Value.nilFunc]:=ID rfl
theorem aUO{K:TI→Prop}:@tyW Tryz.prog 222 ⟨K⟩=K XQ:=qj aXl
theorem au7:XQ.kd=Kd.oth:=ID rfl
theorem amj:XQ.kd.agg=false:=ID rfl
theorem agV:XQ.size=1:=ID rfl
theorem abp:XQ.bytes=8:=ID rfl
theorem au5:qv XQ=True:=eq_true rfl
theorem au6:zc XQ=[.v Value.nilFunc]:=ID rfl
theorem aUN{K:TI→Prop}:@tyW Tryz.prog 224 ⟨K⟩=K XP:=qj aXk
theorem au4:XP.kd=Kd.oth:=ID rfl
theorem ami:XP.kd.agg=false:=ID rfl
theorem agU:XP.size=1:=ID rfl
theorem abo:XP.bytes=8:=ID rfl
theorem au2:qv XP=True:=eq_true rfl
theorem au3:zc XP=[.v Value.nilFunc]:=ID rfl
theorem aUM{K:TI→Prop}:@tyW Tryz.prog 225 ⟨K⟩=K XO:=qj aXj
theorem au1:XO.kd=Kd.oth:=ID rfl
theorem amh:XO.kd.agg=false:=ID rfl
theorem agT:XO.size=1:=ID rfl
theorem abn:XO.bytes=8:=ID rfl
theorem auZ:qv XO=True:=eq_true rfl
theorem au0:zc XO=[.v Value.nilFunc]:=ID rfl
theorem aUL{K:TI→Prop}:@tyW Tryz.prog 226 ⟨K⟩=K XN:=qj aXi
theorem auY:XN.kd=Kd.oth:=ID rfl
theorem amg:XN.kd.agg=false:=ID rfl
theorem agS:XN.size=1:=ID rfl
theorem abm:XN.bytes=8:=ID rfl
theorem auW:qv XN=True:=eq_true rfl
theorem auX:zc XN=[.v Value.nilFunc]:=ID rfl
theorem aUK{K:TI→Prop}:@tyW Tryz.prog 227 ⟨K⟩=K XM:=qj aXh
theorem auV:XM.kd=Kd.oth:=ID rfl
theorem amf:XM.kd.agg=false:=ID rfl
theorem agR:XM.size=1:=ID rfl
theorem abl:XM.bytes=8:=ID rfl
theorem auT:qv XM=True:=eq_true rfl
theorem auU:zc XM=[.v Value.nilFunc]:=ID rfl
theorem aUJ{K:TI→Prop}:@tyW Tryz.prog 228 ⟨K⟩=K XL:=qj aXg
theorem auS:XL.kd=Kd.oth:=ID rfl
theorem ame:XL.kd.agg=false:=ID rfl
theorem agQ:XL.size=1:=ID rfl
theorem abk:XL.bytes=8:=ID rfl
theorem auQ:qv XL=True:=eq_true rfl
theorem auR:zc XL=[.v Value.nilFunc]:=ID rfl
theorem aUI{K:TI→Prop}:@tyW Tryz.prog 229 ⟨K⟩=K XK:=qj aXf
theorem auP:XK.kd=Kd.oth:=ID rfl
theorem amd:XK.kd.agg=false:=ID rfl
theorem agP:XK.size=1:=ID rfl
theorem abj:XK.bytes=8:=ID rfl
theorem auN:qv XK=True:=eq_true rfl
theorem auO:zc XK=[.v Value.nilFunc]:=ID rfl
theorem aUH{K:TI→Prop}:@tyW Tryz.prog 230 ⟨K⟩=K XJ:=qj aXe
theorem auL:XJ.kd=Kd.oth:=ID rfl
theorem amb:XJ.kd.agg=false:=ID rfl
theorem agN:XJ.size=1:=ID rfl
theorem abi:XJ.bytes=8:=ID rfl
theorem auJ:qv XJ=True:=eq_true rfl
theorem auK:zc XJ=[.v Value.nilFunc]:=ID rfl
theorem aUG{K:TI→Prop}:@tyW Tryz.prog 231 ⟨K⟩=K XI:=qj aXd
theorem auI:XI.kd=Kd.oth:=ID rfl
theorem ama:XI.kd.agg=false:=ID rfl
theorem agM:XI.size=1:=ID rfl
theorem abh:XI.bytes=8:=ID rfl
theorem auG:qv XI=True:=eq_true rfl
theorem auH:zc XI=[.v Value.nilFunc]:=ID rfl
theorem aUF{K:TI→Prop}:@tyW Tryz.prog 232 ⟨K⟩=K XH:=qj aXc
theorem auF:XH.kd=Kd.oth:=ID rfl
theorem al9:XH.kd.agg=false:=ID rfl
theorem agL:XH.size=1:=ID rfl
theorem abg:XH.bytes=8:=ID rfl
theorem auD:qv XH=True:=eq_true rfl
theorem auE:zc XH=[.v Value.nilFunc]:=ID rfl
theorem aUE{K:TI→Prop}:@tyW Tryz.prog 233 ⟨K⟩=K XG:=qj aXb
theorem auC:XG.kd=Kd.oth:=ID rfl
theorem al8:XG.kd.agg=false:=ID rfl
theorem agK:XG.size=1:=ID rfl
theorem abf:XG.bytes=8:=ID rfl
theorem auA:qv XG=True:=eq_true rfl
theorem auB:zc XG=[.v Value.nilFunc]:=ID rfl
theorem aUD{K:TI→Prop}:@tyW Tryz.prog 234 ⟨K⟩=K XF:=qj aXa
theorem auz:XF.kd=Kd.oth:=ID rfl
theorem al7:XF.kd.agg=false:=ID rfl
theorem agJ:XF.size=1:=ID rfl
theorem abe:XF.bytes=8:=ID rfl
theorem aux:qv XF=True:=eq_true rfl
theorem auy:zc XF=[.v Value.nilFunc]:=ID rfl
theorem aUC{K:TI→Prop}:@tyW Tryz.prog 235 ⟨K⟩=K XE:=qj aW9
theorem auw:XE.kd=Kd.oth:=ID rfl
theorem al6:XE.kd.agg=false:=ID rfl
theorem agI:XE.size=1:=ID rfl
theorem abd:XE.bytes=8:=ID rfl
theorem auu:qv XE=True:=eq_true rfl
theorem auv:zc XE=[.v Value.nilFunc]:=ID rfl
theorem aUB{K:TI→Prop}:@tyW Tryz.prog 236 ⟨K⟩=K XD:=qj aW8
theorem aut:XD.kd=Kd.oth:=ID rfl
theorem al5:XD.kd.agg=false:=ID rfl
theorem agH:XD.size=1:=ID rfl
theorem abc:XD.bytes=8:=ID rfl
theorem aur:qv XD=True:=eq_true rfl
theorem aus:zc XD=[.v Value.nilFunc]:=ID rfl
theorem aUA{K:TI→Prop}:@tyW Tryz.prog 237 ⟨K⟩=K XC:=qj aW7
theorem auq:XC.kd=Kd.oth:=ID rfl
theorem al4:XC.kd.agg=false:=ID rfl
theorem agG:XC.size=1:=ID rfl
theorem abb:XC.bytes=8:=ID rfl
theorem auo:qv XC=True:=eq_true rfl
theorem aup:zc XC=[.v Value.nilFunc]:=ID rfl
theorem aUz{K:TI→Prop}:@tyW Tryz.prog 238 ⟨K⟩=K XB:=qj aW6
theorem aun:XB.kd=Kd.oth:=ID rfl
theorem al3:XB.kd.agg=false:=ID rfl
theorem agF:XB.size=1:=ID rfl
theorem aba:XB.bytes=8:=ID rfl
theorem aul:qv XB=True:=eq_true rfl
theorem aum:zc XB=[.v Value.nilFunc]:=ID rfl
theorem aUy{K:TI→Prop}:@tyW Tryz.prog 239 ⟨K⟩=K XA:=qj aW5
theorem auk:XA.kd=Kd.oth:=ID rfl
theorem al2:XA.kd.agg=false:=ID rfl
theorem agE:XA.size=1:=ID rfl
theorem aa9:XA.bytes=8:=ID rfl
theorem aui:qv XA=True:=eq_true rfl
theorem auj:zc XA=[.v Value.nilFunc]:=ID rfl
theorem aUx{K:TI→Prop}:@tyW Tryz.prog 240 ⟨K⟩=K Xz:=qj aW4
theorem aug:Xz.kd=Kd.oth:=ID rfl
theorem alZ:Xz.kd.agg=false:=ID rfl
theorem agC:Xz.size=1:=ID rfl
theorem aa8:Xz.bytes=8:=ID rfl
theorem aue:qv Xz=True:=eq_true rfl
theorem auf:zc Xz=[.v Value.nilFunc]:=ID rfl
theorem aUw{K:TI→Prop}:@tyW Tryz.prog 241 ⟨K⟩=K Xy:=qj aW3
theorem aud:Xy.kd=Kd.oth:=ID rfl
theorem alY:Xy.kd.agg=false:=ID rfl
theorem agB:Xy.size=1:=ID rfl
theorem aa7:Xy.bytes=8:=ID rfl
theorem aub:qv Xy=True:=eq_true rfl
theorem auc:zc Xy=[.v Value.nilFunc]:=ID rfl
theorem aUv{K:TI→Prop}:@tyW Tryz.prog 242 ⟨K⟩=K Xx:=qj aW2
theorem aua:Xx.kd=Kd.oth:=ID rfl
theorem alX:Xx.kd.agg=false:=ID rfl
theorem agA:Xx.size=1:=ID rfl
theorem aa6:Xx.bytes=8:=ID rfl
theorem at8:qv Xx=True:=eq_true rfl
theorem at9:zc Xx=[.v Value.nilFunc]:=ID rfl
theorem aUu{K:TI→Prop}:@tyW Tryz.prog 243 ⟨K⟩=K Xw:=qj aW1
theorem at7:Xw.kd=Kd.oth:=ID rfl
theorem alW:Xw.kd.agg=false:=ID rfl
theorem agz:Xw.size=1:=ID rfl
theorem aa5:Xw.bytes=8:=ID rfl
theorem at5:qv Xw=True:=eq_true rfl
theorem at6:zc Xw=[.v Value.nilFunc]:=ID rfl
theorem aUt{K:TI→Prop}:@tyW Tryz.prog 245 ⟨K⟩=K Xv:=qj aW0
theorem at4:Xv.kd=Kd.oth:=ID rfl
theorem alV:Xv.kd.agg=false:=ID rfl
theorem agy:Xv.size=1:=ID rfl
theorem aa4:Xv.bytes=8:=ID rfl
theorem at2:qv Xv=True:=eq_true rfl
theorem at3:zc Xv=[.v Value.nilFunc]:=ID rfl
theorem aUs{K:TI→Prop}:@tyW Tryz.prog 246 ⟨K⟩=K Xu:=qj aWZ
theorem at1:Xu.kd=Kd.oth:=ID rfl
theorem alU:Xu.kd.agg=false:=ID rfl
theorem agx:Xu.size=1:=ID rfl
theorem aa3:Xu.bytes=8:=ID rfl
theorem atZ:qv Xu=True:=eq_true rfl
theorem at0:zc Xu=[.v Value.nilFunc]:=ID rfl
theorem aUr{K:TI→Prop}:@tyW Tryz.prog 247 ⟨K⟩=K Xt:=qj aWY
theorem atY:Xt.kd=Kd.oth:=ID rfl
theorem alT:Xt.kd.agg=false:=ID rfl
theorem agw:Xt.size=1:=ID rfl
theorem aa2:Xt.bytes=8:=ID rfl
theorem atW:qv Xt=True:=eq_true rfl
theorem atX:zc Xt=[.v Value.nilFunc]:=ID rfl
theorem aUq{K:TI→Prop}:@tyW Tryz.prog 249 ⟨K⟩=K Xs:=qj aWX
theorem atV:Xs.kd=Kd.oth:=ID rfl
theorem alS:Xs.kd.agg=false:=ID rfl
theorem agv:Xs.size=1:=ID rfl
theorem aa1:Xs.bytes=8:=ID rfl
theorem atT:qv Xs=True:=eq_true rfl
theorem atU:zc Xs=[.v Value.nilFunc]:=ID rfl
theorem aUp{K:TI→Prop}:@tyW Tryz.prog 250 ⟨K⟩=K Xr:=qj aWW
theorem atR:Xr.kd=Kd.oth:=ID rfl
theorem alP:Xr.kd.agg=false:=ID rfl
theorem agt:Xr.size=1:=ID rfl
theorem aaZ:Xr.bytes=8:=ID rfl
theorem atP:qv Xr=True:=eq_true rfl
theorem atQ:zc Xr=[.v Value.nilFunc]:=ID rfl
theorem aUo{K:TI→Prop}:@tyW Tryz.prog 251 ⟨K⟩=K Xq:=qj aWV
theorem atO:Xq.kd=Kd.oth:=ID rfl
theorem alO:Xq.kd.agg=false:=ID rfl
theorem ags:Xq.size=1:=ID rfl
theorem aaY:Xq.bytes=8:=ID rfl
theorem atM:qv Xq=True:=eq_true rfl
theorem atN:zc Xq=[.v Value.nilFunc]:=ID rfl
theorem aUn{K:TI→Prop}:@tyW Tryz.prog 252 ⟨K⟩=K Xp:=qj aWU
theorem atL:Xp.kd=Kd.int IntKind.u32:=ID rfl
theorem alN:Xp.kd.agg=false:=ID rfl
theorem agr:Xp.size=1:=ID rfl
theorem aaX:Xp.bytes=4:=ID rfl
theorem atJ:qv Xp=True:=eq_true rfl
theorem atK:zc Xp=[.v (Value.int IntKind.u32 0)]:=ID rfl
theorem aUm{K:TI→Prop}:@tyW Tryz.prog 253 ⟨K⟩=K Xo:=qj aWT
theorem atI:Xo.kd=Kd.oth:=ID rfl
theorem alM:Xo.kd.agg=false:=ID rfl
theorem agq:Xo.size=1:=ID rfl
theorem aaW:Xo.bytes=8:=ID rfl
theorem atG:qv Xo=True:=eq_true rfl
theorem atH:zc Xo=[.v Value.nilFunc]:=ID rfl
theorem aUl{K:TI→Prop}:@tyW Tryz.prog 254 ⟨K⟩=K Xn:=qj aWS
theorem atF:Xn.kd=Kd.int IntKind.u64:=ID rfl
theorem alL:Xn.kd.agg=false:=ID rfl
theorem agp:Xn.size=1:=ID rfl
theorem aaV:Xn.bytes=8:=ID rfl
theorem atD:qv Xn=True:=eq_true rfl
theorem atE:zc Xn=[.v (Value.int IntKind.u64 0)]:=ID rfl
theorem aUk{K:TI→Prop}:@tyW Tryz.prog 256 ⟨K⟩=K Xm:=qj aWR
theorem atC:Xm.kd=Kd.oth:=ID rfl
theorem alK:Xm.kd.agg=false:=ID rfl
theorem ago:Xm.size=1:=ID rfl
theorem aaU:Xm.bytes=8:=ID rfl
theorem atA:qv Xm=True:=eq_true rfl
theorem atB:zc Xm=[.v Value.nilFunc]:=ID rfl
theorem aUj{K:TI→Prop}:@tyW Tryz.prog 257 ⟨K⟩=K Xl:=qj aWQ
theorem atz:Xl.kd=Kd.oth:=ID rfl
theorem alJ:Xl.kd.agg=false:=ID rfl
theorem agn:Xl.size=1:=ID rfl
theorem aaT:Xl.bytes=8:=ID rfl
theorem atx:qv Xl=True:=eq_true rfl
theorem aty:zc Xl=[.v Value.nilFunc]:=ID rfl
theorem aUi{K:TI→Prop}:@tyW Tryz.prog 258 ⟨K⟩=K Xk:=qj aWP
theorem atw:Xk.kd=Kd.oth:=ID rfl
theorem alI:Xk.kd.agg=false:=ID rfl
theorem agm:Xk.size=1:=ID rfl
theorem aaS:Xk.bytes=8:=ID rfl
theorem atu:qv Xk=True:=eq_true rfl
theorem atv:zc Xk=[.v Value.nilFunc]:=ID rfl
theorem aUh{K:TI→Prop}:@tyW Tryz.prog 259 ⟨K⟩=K Xj:=qj aWO
theorem att:Xj.kd=Kd.oth:=ID rfl
theorem alH:Xj.kd.agg=false:=ID rfl
theorem agl:Xj.size=1:=ID rfl
theorem aaR:Xj.bytes=8:=ID rfl
theorem atr:qv Xj=True:=eq_true rfl
theorem ats:zc Xj=[.v Value.nilFunc]:=ID rfl
theorem aUg{K:TI→Prop}:@tyW Tryz.prog 260 ⟨K⟩=K Xi:=qj aWN
theorem atp:Xi.kd=Kd.oth:=ID rfl
theorem alD:Xi.kd.agg=false:=ID rfl
theorem agj:Xi.size=1:=ID rfl
theorem aaQ:Xi.bytes=8:=ID rfl
theorem atn:qv Xi=True:=eq_true rfl
theorem ato:zc Xi=[.v Value.nilFunc]:=ID rfl
theorem aUf{K:TI→Prop}:@tyW Tryz.prog 263 ⟨K⟩=K Xh:=qj aWM
theorem atm:Xh.kd=Kd.oth:=ID rfl
theorem alC:Xh.kd.agg=false:=ID rfl
theorem agi:Xh.size=1:=ID rfl
theorem aaP:Xh.bytes=8:=ID rfl
theorem atk:qv Xh=True:=eq_true rfl
theorem atl:zc Xh=[.v Value.nilFunc]:=ID rfl
theorem aUe{K:TI→Prop}:@tyW Tryz.prog 267 ⟨K⟩=K Xg:=qj aWL
theorem atj:Xg.kd=Kd.stru [(0,266)]:=ID rfl
theorem alB:Xg.kd.agg=true:=ID rfl
theorem agh:Xg.size=0:=ID rfl
theorem aaO:Xg.bytes=0:=ID rfl
theorem ath:qv Xg=True:=eq_true rfl
theorem ati:zc Xg=[]:=ID rfl
theorem aUd{K:TI→Prop}:@tyW Tryz.prog 268 ⟨K⟩=K Xf:=qj aWK
theorem atg:Xf.kd=Kd.stru [(0,266)]:=ID rfl
theorem alz:Xf.kd.agg=true:=ID rfl
theorem agf:Xf.size=0:=ID rfl
theorem aaN:Xf.bytes=0:=ID rfl
theorem ate:qv Xf=True:=eq_true rfl
theorem atf:zc Xf=[]:=ID rfl
theorem aUc{K:TI→Prop}:@tyW Tryz.prog 269 ⟨K⟩=K Xe:=qj aWJ
theorem atd:Xe.kd=Kd.int IntKind.u8:=ID rfl
theorem aly:Xe.kd.agg=false:=ID rfl
theorem age:Xe.size=1:=ID rfl
theorem aaM:Xe.bytes=1:=ID rfl
theorem atb:qv Xe=True:=eq_true rfl
theorem atc:zc Xe=[.v (Value.int IntKind.u8 0)]:=ID rfl
theorem aUb{K:TI→Prop}:@tyW Tryz.prog 270 ⟨K⟩=K Xd:=qj aWI
theorem ata:Xd.kd=Kd.int IntKind.u8:=ID rfl
theorem alx:Xd.kd.agg=false:=ID rfl
theorem agd:Xd.size=1:=ID rfl
theorem aaL:Xd.bytes=1:=ID rfl
theorem as8:qv Xd=True:=eq_true rfl
theorem as9:zc Xd=[.v (Value.int IntKind.u8 0)]:=ID rfl
theorem aUa{K:TI→Prop}:@tyW Tryz.prog 271 ⟨K⟩=K Xc:=qj aWH
theorem as7:Xc.kd=Kd.oth:=ID rfl
theorem alw:Xc.kd.agg=false:=ID rfl
theorem agc:Xc.size=1:=ID rfl
theorem aaK:Xc.bytes=8:=ID rfl
theorem as5:qv Xc=True:=eq_true rfl
theorem as6:zc Xc=[.v Value.nilFunc]:=ID rfl
theorem aT9{K:TI→Prop}:@tyW Tryz.prog 273 ⟨K⟩=K Xb:=qj aWG
theorem as4:Xb.kd=Kd.int IntKind.i32:=ID rfl
theorem alv:Xb.kd.agg=false:=ID rfl
theorem agb:Xb.size=1:=ID rfl
theorem aaJ:Xb.bytes=4:=ID rfl
theorem as2:qv Xb=True:=eq_true rfl
theorem as3:zc Xb=[.v (Value.int IntKind.i32 0)]:=ID rfl
theorem aT8{K:TI→Prop}:@tyW Tryz.prog 274 ⟨K⟩=K Xa:=qj aWF
theorem as1:Xa.kd=Kd.int IntKind.i32:=ID rfl
theorem alu:Xa.kd.agg=false:=ID rfl
theorem aga:Xa.size=1:=ID rfl
theorem aaI:Xa.bytes=4:=ID rfl
theorem asZ:qv Xa=True:=eq_true rfl
theorem as0:zc Xa=[.v (Value.int IntKind.i32 0)]:=ID rfl
theorem aT7{K:TI→Prop}:@tyW Tryz.prog 277 ⟨K⟩=K Y9:=qj aWE
theorem asY:Y9.kd=Kd.oth:=ID rfl
theorem alt:Y9.kd.agg=false:=ID rfl
theorem af9:Y9.size=1:=ID rfl
theorem aaH:Y9.bytes=8:=ID rfl
theorem asW:qv Y9=True:=eq_true rfl
theorem asX:zc Y9=[.v Value.nilFunc]:=ID rfl
theorem bei:qp Tryz.prog 2=True:=eq_true ⟨_,Tryz.func2,of_decide_eq_false (by kernel_rfl),rfl⟩
theorem beh:qp Tryz.prog 3=True:=eq_true ⟨_,Tryz.func3,of_decide_eq_false (by kernel_rfl),rfl⟩
theorem beg:qp Tryz.prog 4=True:=eq_true ⟨_,Tryz.func4,of_decide_eq_false (by kernel_rfl),rfl⟩
theorem bef:qp Tryz.prog 5=True:=eq_true ⟨_,Tryz.func5,of_decide_eq_false (by kernel_rfl),rfl⟩
theorem bee:qp Tryz.prog 6=True:=eq_true ⟨_,Tryz.func6,of_decide_eq_false (by kernel_rfl),rfl⟩
theorem bed:qp Tryz.prog 7=True:=eq_true ⟨_,Tryz.func7,of_decide_eq_false (by kernel_rfl),rfl⟩
theorem bec:qp Tryz.prog 8=True:=eq_true ⟨_,Tryz.func8,of_decide_eq_false (by kernel_rfl),rfl⟩
theorem beb:qp Tryz.prog 9=True:=eq_true ⟨_,Tryz.func9,of_decide_eq_false (by kernel_rfl),rfl⟩
theorem ba7:qp Tryz.prog 10=True:=eq_true ⟨_,Tryz.func10,of_decide_eq_false (by kernel_rfl),rfl⟩
theorem ba6:qp Tryz.prog 11=True:=eq_true ⟨_,Tryz.func11,of_decide_eq_false (by kernel_rfl),rfl⟩
theorem ba5:qp Tryz.prog 12=True:=eq_true ⟨_,Tryz.func12,of_decide_eq_false (by kernel_rfl),rfl⟩
theorem ba4:qp Tryz.prog 13=True:=eq_true ⟨_,Tryz.func13,of_decide_eq_false (by kernel_rfl),rfl⟩
theorem ba3:qp Tryz.prog 14=True:=eq_true ⟨_,Tryz.func14,of_decide_eq_false (by kernel_rfl),rfl⟩
theorem ba2:qp Tryz.prog 15=True:=eq_true ⟨_,Tryz.func15,of_decide_eq_false (by kernel_rfl),rfl⟩
theorem ba1:qp Tryz.prog 16=True:=eq_true ⟨_,Tryz.func16,of_decide_eq_false (by kernel_rfl),rfl⟩
theorem ba0:qp Tryz.prog 17=True:=eq_true ⟨_,Tryz.func17,of_decide_eq_false (by kernel_rfl),rfl⟩
theorem baZ:qp Tryz.prog 18=True:=eq_true ⟨_,Tryz.func18,of_decide_eq_false (by kernel_rfl),rfl⟩
theorem baY:qp Tryz.prog 19=True:=eq_true ⟨_,Tryz.func19,of_decide_eq_false (by kernel_rfl),rfl⟩
theorem baX:qp Tryz.prog 20=True:=eq_true ⟨_,Tryz.func20,of_decide_eq_false (by kernel_rfl),rfl⟩
theorem baW:qp Tryz.prog 21=True:=eq_true ⟨_,Tryz.func21,of_decide_eq_false (by kernel_rfl),rfl⟩
theorem baV:qp Tryz.prog 22=True:=eq_true ⟨_,Tryz.func22,of_decide_eq_false (by kernel_rfl),rfl⟩
theorem baU:qp Tryz.prog 23=True:=eq_true ⟨_,Tryz.func23,of_decide_eq_false (by kernel_rfl),rfl⟩
theorem baT:qp Tryz.prog 24=True:=eq_true ⟨_,Tryz.func24,of_decide_eq_false (by kernel_rfl),rfl⟩
theorem baS:qp Tryz.prog 25=True:=eq_true ⟨_,Tryz.func25,of_decide_eq_false (by kernel_rfl),rfl⟩
theorem baR:qp Tryz.prog 26=True:=eq_true ⟨_,Tryz.func26,of_decide_eq_false (by kernel_rfl),rfl⟩
theorem baQ:qp Tryz.prog 27=True:=eq_true ⟨_,Tryz.func27,of_decide_eq_false (by kernel_rfl),rfl⟩
theorem baP:qp Tryz.prog 28=True:=eq_true ⟨_,Tryz.func28,of_decide_eq_false (by kernel_rfl),rfl⟩
theorem baO:qp Tryz.prog 29=True:=eq_true ⟨_,Tryz.func29,of_decide_eq_false (by kernel_rfl),rfl⟩
theorem baN:qp Tryz.prog 30=True:=eq_true ⟨_,Tryz.func30,of_decide_eq_false (by kernel_rfl),rfl⟩
theorem baM:qp Tryz.prog 31=True:=eq_true ⟨_,Tryz.func31,of_decide_eq_false (by kernel_rfl),rfl⟩
theorem baL:qp Tryz.prog 32=True:=eq_true ⟨_,Tryz.func32,of_decide_eq_false (by kernel_rfl),rfl⟩
theorem baK:qp Tryz.prog 33=True:=eq_true ⟨_,Tryz.func33,of_decide_eq_false (by kernel_rfl),rfl⟩
theorem baJ:qp Tryz.prog 34=True:=eq_true ⟨_,Tryz.func34,of_decide_eq_false (by kernel_rfl),rfl⟩
theorem baI:qp Tryz.prog 35=True:=eq_true ⟨_,Tryz.func35,of_decide_eq_false (by kernel_rfl),rfl⟩
theorem baH:qp Tryz.prog 36=True:=eq_true ⟨_,Tryz.func36,of_decide_eq_false (by kernel_rfl),rfl⟩
theorem baG:qp Tryz.prog 37=True:=eq_true ⟨_,Tryz.func37,of_decide_eq_false (by kernel_rfl),rfl⟩
theorem baF:qp Tryz.prog 38=True:=eq_true ⟨_,Tryz.func38,of_decide_eq_false (by kernel_rfl),rfl⟩
theorem baE:qp Tryz.prog 39=True:=eq_true ⟨_,Tryz.func39,of_decide_eq_false (by kernel_rfl),rfl⟩
theorem baD:qp Tryz.prog 40=True:=eq_true ⟨_,Tryz.func40,of_decide_eq_false (by kernel_rfl),rfl⟩
theorem baC:qp Tryz.prog 41=True:=eq_true ⟨_,Tryz.func41,of_decide_eq_false (by kernel_rfl),rfl⟩
theorem baB:qp Tryz.prog 42=True:=eq_true ⟨_,Tryz.func42,of_decide_eq_false (by kernel_rfl),rfl⟩
theorem baA:qp Tryz.prog 43=True:=eq_true ⟨_,Tryz.func43,of_decide_eq_false (by kernel_rfl),rfl⟩
theorem baz:qp Tryz.prog 44=True:=eq_true ⟨_,Tryz.func44,of_decide_eq_false (by kernel_rfl),rfl⟩
theorem bay:qp Tryz.prog 45=True:=eq_true ⟨_,Tryz.func45,of_decide_eq_false (by kernel_rfl),rfl⟩
theorem bax:qp Tryz.prog 46=True:=eq_true ⟨_,Tryz.func46,of_decide_eq_false (by kernel_rfl),rfl⟩
theorem baw:qp Tryz.prog 47=True:=eq_true ⟨_,Tryz.func47,of_decide_eq_false (by kernel_rfl),rfl⟩
theorem bav:qp Tryz.prog 48=True:=eq_true ⟨_,Tryz.func48,of_decide_eq_false (by kernel_rfl),rfl⟩
theorem bau:qp Tryz.prog 49=True:=eq_true ⟨_,Tryz.func49,of_decide_eq_false (by kernel_rfl),rfl⟩
theorem bat:qp Tryz.prog 50=True:=eq_true ⟨_,Tryz.func50,of_decide_eq_false (by kernel_rfl),rfl⟩
theorem bas:qp Tryz.prog 51=True:=eq_true ⟨_,Tryz.func51,of_decide_eq_false (by kernel_rfl),rfl⟩
theorem bar:qp Tryz.prog 52=True:=eq_true ⟨_,Tryz.func52,of_decide_eq_false (by kernel_rfl),rfl⟩
theorem baq:qp Tryz.prog 53=True:=eq_true ⟨_,Tryz.func53,of_decide_eq_false (by kernel_rfl),rfl⟩
theorem bap:qp Tryz.prog 54=True:=eq_true ⟨_,Tryz.func54,of_decide_eq_false (by kernel_rfl),rfl⟩
theorem bao:qp Tryz.prog 55=True:=eq_true ⟨_,Tryz.func55,of_decide_eq_false (by kernel_rfl),rfl⟩
theorem ban:qp Tryz.prog 56=True:=eq_true ⟨_,Tryz.func56,of_decide_eq_false (by kernel_rfl),rfl⟩
theorem bam:qp Tryz.prog 57=True:=eq_true ⟨_,Tryz.func57,of_decide_eq_false (by kernel_rfl),rfl⟩
theorem bal:qp Tryz.prog 58=True:=eq_true ⟨_,Tryz.func58,of_decide_eq_false (by kernel_rfl),rfl⟩
theorem bak:qp Tryz.prog 59=True:=eq_true ⟨_,Tryz.func59,of_decide_eq_false (by kernel_rfl),rfl⟩
theorem baj:qp Tryz.prog 60=True:=eq_true ⟨_,Tryz.func60,of_decide_eq_false (by kernel_rfl),rfl⟩
theorem bai:qp Tryz.prog 61=True:=eq_true ⟨_,Tryz.func61,of_decide_eq_false (by kernel_rfl),rfl⟩
theorem bah:qp Tryz.prog 62=True:=eq_true ⟨_,Tryz.func62,of_decide_eq_false (by kernel_rfl),rfl⟩
theorem bag:qp Tryz.prog 63=True:=eq_true ⟨_,Tryz.func63,of_decide_eq_false (by kernel_rfl),rfl⟩
theorem baf:qp Tryz.prog 64=True:=eq_true ⟨_,Tryz.func64,of_decide_eq_false (by kernel_rfl),rfl⟩
theorem bae:qp Tryz.prog 65=True:=eq_true ⟨_,Tryz.func65,of_decide_eq_false (by kernel_rfl),rfl⟩
theorem bac:qp Tryz.prog 66=True:=eq_true ⟨_,Tryz.func66,of_decide_eq_false (by kernel_rfl),rfl⟩
theorem bab:qp Tryz.prog 67=True:=eq_true ⟨_,Tryz.func67,of_decide_eq_false (by kernel_rfl),rfl⟩
theorem baa:qp Tryz.prog 68=True:=eq_true ⟨_,Tryz.func68,of_decide_eq_false (by kernel_rfl),rfl⟩
theorem aZ9:qp Tryz.prog 69=True:=eq_true ⟨_,Tryz.func69,of_decide_eq_false (by kernel_rfl),rfl⟩
theorem aZ8:qp Tryz.prog 70=True:=eq_true ⟨_,Tryz.func70,of_decide_eq_false (by kernel_rfl),rfl⟩
theorem aZ7:qp Tryz.prog 71=True:=eq_true ⟨_,Tryz.func71,of_decide_eq_false (by kernel_rfl),rfl⟩
theorem aZ6:qp Tryz.prog 72=True:=eq_true ⟨_,Tryz.func72,of_decide_eq_false (by kernel_rfl),rfl⟩
theorem aZ5:qp Tryz.prog 73=True:=eq_true ⟨_,Tryz.func73,of_decide_eq_false (by kernel_rfl),rfl⟩
theorem aZ4:qp Tryz.prog 74=True:=eq_true ⟨_,Tryz.func74,of_decide_eq_false (by kernel_rfl),rfl⟩
theorem aZ3:qp Tryz.prog 75=True:=eq_true ⟨_,Tryz.func75,of_decide_eq_false (by kernel_rfl),rfl⟩
theorem aZ2:qp Tryz.prog 76=True:=eq_true ⟨_,Tryz.func76,of_decide_eq_false (by kernel_rfl),rfl⟩
theorem aZ1:qp Tryz.prog 77=True:=eq_true ⟨_,Tryz.func77,of_decide_eq_false (by kernel_rfl),rfl⟩
theorem aZ0:qp Tryz.prog 78=True:=eq_true ⟨_,Tryz.func78,of_decide_eq_false (by kernel_rfl),rfl⟩
theorem aZZ:qp Tryz.prog 79=True:=eq_true ⟨_,Tryz.func79,of_decide_eq_false (by kernel_rfl),rfl⟩
theorem aZY:qp Tryz.prog 80=True:=eq_true ⟨_,Tryz.func80,of_decide_eq_false (by kernel_rfl),rfl⟩
theorem aZX:qp Tryz.prog 81=True:=eq_true ⟨_,Tryz.func81,of_decide_eq_false (by kernel_rfl),rfl⟩
theorem aZW:qp Tryz.prog 82=True:=eq_true ⟨_,Tryz.func82,of_decide_eq_false (by kernel_rfl),rfl⟩
theorem aZV:qp Tryz.prog 83=True:=eq_true ⟨_,Tryz.func83,of_decide_eq_false (by kernel_rfl),rfl⟩
theorem aZU:qp Tryz.prog 84=True:=eq_true ⟨_,Tryz.func84,of_decide_eq_false (by kernel_rfl),rfl⟩
theorem aZT:qp Tryz.prog 85=True:=eq_true ⟨_,Tryz.func85,of_decide_eq_false (by kernel_rfl),rfl⟩
theorem aZS:qp Tryz.prog 86=True:=eq_true ⟨_,Tryz.func86,of_decide_eq_false (by kernel_rfl),rfl⟩
theorem aZR:qp Tryz.prog 87=True:=eq_true ⟨_,Tryz.func87,of_decide_eq_false (by kernel_rfl),rfl⟩
theorem aZQ:qp Tryz.prog 88=True:=eq_true ⟨_,Tryz.func88,of_decide_eq_false (by kernel_rfl),rfl⟩
theorem aZP:qp Tryz.prog 89=True:=eq_true ⟨_,Tryz.func89,of_decide_eq_false (by kernel_rfl),rfl⟩
theorem aZO:qp Tryz.prog 90=True:=eq_true ⟨_,Tryz.func90,of_decide_eq_false (by kernel_rfl),rfl⟩
theorem aZN:qp Tryz.prog 91=True:=eq_true ⟨_,Tryz.func91,of_decide_eq_false (by kernel_rfl),rfl⟩
theorem aZM:qp Tryz.prog 92=True:=eq_true ⟨_,Tryz.func92,of_decide_eq_false (by kernel_rfl),rfl⟩
theorem aZL:qp Tryz.prog 93=True:=eq_true ⟨_,Tryz.func93,of_decide_eq_false (by kernel_rfl),rfl⟩
theorem aZK:qp Tryz.prog 94=True:=eq_true ⟨_,Tryz.func94,of_decide_eq_false (by kernel_rfl),rfl⟩
theorem aZJ:qp Tryz.prog 95=True:=eq_true ⟨_,Tryz.func95,of_decide_eq_false (by kernel_rfl),rfl⟩
theorem aZI:qp Tryz.prog 96=True:=eq_true ⟨_,Tryz.func96,of_decide_eq_false (by kernel_rfl),rfl⟩
theorem aZH:qp Tryz.prog 97=True:=eq_true ⟨_,Tryz.func97,of_decide_eq_false (by kernel_rfl),rfl⟩
theorem aZG:qp Tryz.prog 98=True:=eq_true ⟨_,Tryz.func98,of_decide_eq_false (by kernel_rfl),rfl⟩
theorem aZF:qp Tryz.prog 99=True:=eq_true ⟨_,Tryz.func99,of_decide_eq_false (by kernel_rfl),rfl⟩
theorem aSF:qp Tryz.prog 100=True:=eq_true ⟨_,Tryz.func100,of_decide_eq_false (by kernel_rfl),rfl⟩
theorem aSE:qp Tryz.prog 101=True:=eq_true ⟨_,Tryz.func101,of_decide_eq_false (by kernel_rfl),rfl⟩
theorem aSD:qp Tryz.prog 102=True:=eq_true ⟨_,Tryz.func102,of_decide_eq_false (by kernel_rfl),rfl⟩
theorem aSC:qp Tryz.prog 103=True:=eq_true ⟨_,Tryz.func103,of_decide_eq_false (by kernel_rfl),rfl⟩
theorem aSB:qp Tryz.prog 104=True:=eq_true ⟨_,Tryz.func104,of_decide_eq_false (by kernel_rfl),rfl⟩
theorem aSA:qp Tryz.prog 105=True:=eq_true ⟨_,Tryz.func105,of_decide_eq_false (by kernel_rfl),rfl⟩
theorem aSz:qp Tryz.prog 106=True:=eq_true ⟨_,Tryz.func106,of_decide_eq_false (by kernel_rfl),rfl⟩
theorem aSy:qp Tryz.prog 107=True:=eq_true ⟨_,Tryz.func107,of_decide_eq_false (by kernel_rfl),rfl⟩
theorem aSx:qp Tryz.prog 108=True:=eq_true ⟨_,Tryz.func108,of_decide_eq_false (by kernel_rfl),rfl⟩
theorem aSw:qp Tryz.prog 109=True:=eq_true ⟨_,Tryz.func109,of_decide_eq_false (by kernel_rfl),rfl⟩
theorem aSv:qp Tryz.prog 110=True:=eq_true ⟨_,Tryz.func110,of_decide_eq_false (by kernel_rfl),rfl⟩
theorem aSu:qp Tryz.prog 111=True:=eq_true ⟨_,Tryz.func111,of_decide_eq_false (by kernel_rfl),rfl⟩
theorem aSt:qp Tryz.prog 112=True:=eq_true ⟨_,Tryz.func112,of_decide_eq_false (by kernel_rfl),rfl⟩
theorem aSs:qp Tryz.prog 113=True:=eq_true ⟨_,Tryz.func113,of_decide_eq_false (by kernel_rfl),rfl⟩
theorem aSr:qp Tryz.prog 114=True:=eq_true ⟨_,Tryz.func114,of_decide_eq_false (by kernel_rfl),rfl⟩
theorem aSq:qp Tryz.prog 115=True:=eq_true ⟨_,Tryz.func115,of_decide_eq_false (by kernel_rfl),rfl⟩
theorem aSp:qp Tryz.prog 116=True:=eq_true ⟨_,Tryz.func116,of_decide_eq_false (by kernel_rfl),rfl⟩
theorem aSo:qp Tryz.prog 117=True:=eq_true ⟨_,Tryz.func117,of_decide_eq_false (by kernel_rfl),rfl⟩
theorem aSn:qp Tryz.prog 118=True:=eq_true ⟨_,Tryz.func118,of_decide_eq_false (by kernel_rfl),rfl⟩
theorem aSm:qp Tryz.prog 119=True:=eq_true ⟨_,Tryz.func119,of_decide_eq_false (by kernel_rfl),rfl⟩
theorem aSl:qp Tryz.prog 120=True:=eq_true ⟨_,Tryz.func120,of_decide_eq_false (by kernel_rfl),rfl⟩
theorem aSk:qp Tryz.prog 121=True:=eq_true ⟨_,Tryz.func121,of_decide_eq_false (by kernel_rfl),rfl⟩
theorem aSj:qp Tryz.prog 122=True:=eq_true ⟨_,Tryz.func122,of_decide_eq_false (by kernel_rfl),rfl⟩
theorem aSi:qp Tryz.prog 123=True:=eq_true ⟨_,Tryz.func123,of_decide_eq_false (by kernel_rfl),rfl⟩
theorem aSh:qp Tryz.prog 124=True:=eq_true ⟨_,Tryz.func124,of_decide_eq_false (by kernel_rfl),rfl⟩
theorem aSg:qp Tryz.prog 125=True:=eq_true ⟨_,Tryz.func125,of_decide_eq_false (by kernel_rfl),rfl⟩
theorem aSf:qp Tryz.prog 126=True:=eq_true ⟨_,Tryz.func126,of_decide_eq_false (by kernel_rfl),rfl⟩
theorem aSe:qp Tryz.prog 127=True:=eq_true ⟨_,Tryz.func127,of_decide_eq_false (by kernel_rfl),rfl⟩
theorem aSd:qp Tryz.prog 128=True:=eq_true ⟨_,Tryz.func128,of_decide_eq_false (by kernel_rfl),rfl⟩
theorem aSc:qp Tryz.prog 129=True:=eq_true ⟨_,Tryz.func129,of_decide_eq_false (by kernel_rfl),rfl⟩
theorem aSb:qp Tryz.prog 130=True:=eq_true ⟨_,Tryz.func130,of_decide_eq_false (by kernel_rfl),rfl⟩
theorem aSa:qp Tryz.prog 131=True:=eq_true ⟨_,Tryz.func131,of_decide_eq_false (by kernel_rfl),rfl⟩
theorem aR9:qp Tryz.prog 132=True:=eq_true ⟨_,Tryz.func132,of_decide_eq_false (by kernel_rfl),rfl⟩
theorem aR8:qp Tryz.prog 133=True:=eq_true ⟨_,Tryz.func133,of_decide_eq_false (by kernel_rfl),rfl⟩
theorem aR7:qp Tryz.prog 134=True:=eq_true ⟨_,Tryz.func134,of_decide_eq_false (by kernel_rfl),rfl⟩
theorem aR6:qp Tryz.prog 135=True:=eq_true ⟨_,Tryz.func135,of_decide_eq_false (by kernel_rfl),rfl⟩
theorem aR5:qp Tryz.prog 136=True:=eq_true ⟨_,Tryz.func136,of_decide_eq_false (by kernel_rfl),rfl⟩
theorem aR4:qp Tryz.prog 137=True:=eq_true ⟨_,Tryz.func137,of_decide_eq_false (by kernel_rfl),rfl⟩
theorem aR3:qp Tryz.prog 138=True:=eq_true ⟨_,Tryz.func138,of_decide_eq_false (by kernel_rfl),rfl⟩
theorem aR2:qp Tryz.prog 139=True:=eq_true ⟨_,Tryz.func139,of_decide_eq_false (by kernel_rfl),rfl⟩
theorem aR1:qp Tryz.prog 140=True:=eq_true ⟨_,Tryz.func140,of_decide_eq_false (by kernel_rfl),rfl⟩
theorem aR0:qp Tryz.prog 141=True:=eq_true ⟨_,Tryz.func141,of_decide_eq_false (by kernel_rfl),rfl⟩
theorem aRZ:qp Tryz.prog 142=True:=eq_true ⟨_,Tryz.func142,of_decide_eq_false (by kernel_rfl),rfl⟩
theorem aRY:qp Tryz.prog 143=True:=eq_true ⟨_,Tryz.func143,of_decide_eq_false (by kernel_rfl),rfl⟩
theorem aRX:qp Tryz.prog 144=True:=eq_true ⟨_,Tryz.func144,of_decide_eq_false (by kernel_rfl),rfl⟩
theorem aRW:qp Tryz.prog 145=True:=eq_true ⟨_,Tryz.func145,of_decide_eq_false (by kernel_rfl),rfl⟩
theorem aRV:qp Tryz.prog 146=True:=eq_true ⟨_,Tryz.func146,of_decide_eq_false (by kernel_rfl),rfl⟩
theorem aRU:qp Tryz.prog 147=True:=eq_true ⟨_,Tryz.func147,of_decide_eq_false (by kernel_rfl),rfl⟩
theorem aRT:qp Tryz.prog 148=True:=eq_true ⟨_,Tryz.func148,of_decide_eq_false (by kernel_rfl),rfl⟩
theorem aRS:qp Tryz.prog 149=True:=eq_true ⟨_,Tryz.func149,of_decide_eq_false (by kernel_rfl),rfl⟩
theorem aRR:qp Tryz.prog 150=True:=eq_true ⟨_,Tryz.func150,of_decide_eq_false (by kernel_rfl),rfl⟩
theorem aRQ:qp Tryz.prog 151=True:=eq_true ⟨_,Tryz.func151,of_decide_eq_false (by kernel_rfl),rfl⟩
theorem aRP:qp Tryz.prog 152=True:=eq_true ⟨_,Tryz.func152,of_decide_eq_false (by kernel_rfl),rfl⟩
theorem aRO:qp Tryz.prog 153=True:=eq_true ⟨_,Tryz.func153,of_decide_eq_false (by kernel_rfl),rfl⟩
theorem aRN:qp Tryz.prog 154=True:=eq_true ⟨_,Tryz.func154,of_decide_eq_false (by kernel_rfl),rfl⟩
theorem aRM:qp Tryz.prog 155=True:=eq_true ⟨_,Tryz.func155,of_decide_eq_false (by kernel_rfl),rfl⟩
theorem aRL:qp Tryz.prog 156=True:=eq_true ⟨_,Tryz.func156,of_decide_eq_false (by kernel_rfl),rfl⟩
theorem aRK:qp Tryz.prog 157=True:=eq_true ⟨_,Tryz.func157,of_decide_eq_false (by kernel_rfl),rfl⟩
theorem aRJ:qp Tryz.prog 158=True:=eq_true ⟨_,Tryz.func158,of_decide_eq_false (by kernel_rfl),rfl⟩
theorem aRI:qp Tryz.prog 159=True:=eq_true ⟨_,Tryz.func159,of_decide_eq_false (by kernel_rfl),rfl⟩
theorem aRH:qp Tryz.prog 160=True:=eq_true ⟨_,Tryz.func160,of_decide_eq_false (by kernel_rfl),rfl⟩
theorem aRG:qp Tryz.prog 161=True:=eq_true ⟨_,Tryz.func161,of_decide_eq_false (by kernel_rfl),rfl⟩
theorem aRF:qp Tryz.prog 162=True:=eq_true ⟨_,Tryz.func162,of_decide_eq_false (by kernel_rfl),rfl⟩
theorem aRE:qp Tryz.prog 163=True:=eq_true ⟨_,Tryz.func163,of_decide_eq_false (by kernel_rfl),rfl⟩
theorem aRD:qp Tryz.prog 164=True:=eq_true ⟨_,Tryz.func164,of_decide_eq_false (by kernel_rfl),rfl⟩
theorem aRC:qp Tryz.prog 165=True:=eq_true ⟨_,Tryz.func165,of_decide_eq_false (by kernel_rfl),rfl⟩
theorem aRB:qp Tryz.prog 166=True:=eq_true ⟨_,Tryz.func166,of_decide_eq_false (by kernel_rfl),rfl⟩
theorem aRA:qp Tryz.prog 167=True:=eq_true ⟨_,Tryz.func167,of_decide_eq_false (by kernel_rfl),rfl⟩
theorem aRz:qp Tryz.prog 168=True:=eq_true ⟨_,Tryz.func168,of_decide_eq_false (by kernel_rfl),rfl⟩
theorem aRy:qp Tryz.prog 169=True:=eq_true ⟨_,Tryz.func169,of_decide_eq_false (by kernel_rfl),rfl⟩
theorem aRx:qp Tryz.prog 170=True:=eq_true ⟨_,Tryz.func170,of_decide_eq_false (by kernel_rfl),rfl⟩
theorem aRw:qp Tryz.prog 171=True:=eq_true ⟨_,Tryz.func171,of_decide_eq_false (by kernel_rfl),rfl⟩
theorem aRv:qp Tryz.prog 172=True:=eq_true ⟨_,Tryz.func172,of_decide_eq_false (by kernel_rfl),rfl⟩
theorem aRu:qp Tryz.prog 173=True:=eq_true ⟨_,Tryz.func173,of_decide_eq_false (by kernel_rfl),rfl⟩
theorem aRt:qp Tryz.prog 174=True:=eq_true ⟨_,Tryz.func174,of_decide_eq_false (by kernel_rfl),rfl⟩
theorem aRs:qp Tryz.prog 175=True:=eq_true ⟨_,Tryz.func175,of_decide_eq_false (by kernel_rfl),rfl⟩
theorem aRr:qp Tryz.prog 176=True:=eq_true ⟨_,Tryz.func176,of_decide_eq_false (by kernel_rfl),rfl⟩
theorem aRq:qp Tryz.prog 177=True:=eq_true ⟨_,Tryz.func177,of_decide_eq_false (by kernel_rfl),rfl⟩
theorem aRp:qp Tryz.prog 178=True:=eq_true ⟨_,Tryz.func178,of_decide_eq_false (by kernel_rfl),rfl⟩
theorem aRo:qp Tryz.prog 179=True:=eq_true ⟨_,Tryz.func179,of_decide_eq_false (by kernel_rfl),rfl⟩
theorem aRn:qp Tryz.prog 180=True:=eq_true ⟨_,Tryz.func180,of_decide_eq_false (by kernel_rfl),rfl⟩
theorem aRm:qp Tryz.prog 181=True:=eq_true ⟨_,Tryz.func181,of_decide_eq_false (by kernel_rfl),rfl⟩
theorem aRl:qp Tryz.prog 182=True:=eq_true ⟨_,Tryz.func182,of_decide_eq_false (by kernel_rfl),rfl⟩
theorem aRk:qp Tryz.prog 183=True:=eq_true ⟨_,Tryz.func183,of_decide_eq_false (by kernel_rfl),rfl⟩
theorem aRj:qp Tryz.prog 184=True:=eq_true ⟨_,Tryz.func184,of_decide_eq_false (by kernel_rfl),rfl⟩
theorem aRi:qp Tryz.prog 185=True:=eq_true ⟨_,Tryz.func185,of_decide_eq_false (by kernel_rfl),rfl⟩
theorem aRh:qp Tryz.prog 186=True:=eq_true ⟨_,Tryz.func186,of_decide_eq_false (by kernel_rfl),rfl⟩
theorem aRg:qp Tryz.prog 187=True:=eq_true ⟨_,Tryz.func187,of_decide_eq_false (by kernel_rfl),rfl⟩
theorem aRf:qp Tryz.prog 188=True:=eq_true ⟨_,Tryz.func188,of_decide_eq_false (by kernel_rfl),rfl⟩
theorem aRe:qp Tryz.prog 189=True:=eq_true ⟨_,Tryz.func189,of_decide_eq_false (by kernel_rfl),rfl⟩
theorem aRd:qp Tryz.prog 190=True:=eq_true ⟨_,Tryz.func190,of_decide_eq_false (by kernel_rfl),rfl⟩
theorem aRc:qp Tryz.prog 191=True:=eq_true ⟨_,Tryz.func191,of_decide_eq_false (by kernel_rfl),rfl⟩
theorem aRb:qp Tryz.prog 192=True:=eq_true ⟨_,Tryz.func192,of_decide_eq_false (by kernel_rfl),rfl⟩
theorem aRa:qp Tryz.prog 193=True:=eq_true ⟨_,Tryz.func193,of_decide_eq_false (by kernel_rfl),rfl⟩
theorem aQ9:qp Tryz.prog 194=True:=eq_true ⟨_,Tryz.func194,of_decide_eq_false (by kernel_rfl),rfl⟩
theorem aQ8:qp Tryz.prog 195=True:=eq_true ⟨_,Tryz.func195,of_decide_eq_false (by kernel_rfl),rfl⟩
theorem aQ7:qp Tryz.prog 196=True:=eq_true ⟨_,Tryz.func196,of_decide_eq_false (by kernel_rfl),rfl⟩
theorem aQ6:qp Tryz.prog 197=True:=eq_true ⟨_,Tryz.func197,of_decide_eq_false (by kernel_rfl),rfl⟩
theorem aQ5:qp Tryz.prog 198=True:=eq_true ⟨_,Tryz.func198,of_decide_eq_false (by kernel_rfl),rfl⟩
theorem aQ4:qp Tryz.prog 199=True:=eq_true ⟨_,Tryz.func199,of_decide_eq_false (by kernel_rfl),rfl⟩
theorem aQ3:qp Tryz.prog 200=True:=eq_true ⟨_,Tryz.func200,of_decide_eq_false (by kernel_rfl),rfl⟩
theorem aQ2:qp Tryz.prog 201=True:=eq_true ⟨_,Tryz.func201,of_decide_eq_false (by kernel_rfl),rfl⟩
theorem aQ1:qp Tryz.prog 202=True:=eq_true ⟨_,Tryz.func202,of_decide_eq_false (by kernel_rfl),rfl⟩
theorem aQ0:qp Tryz.prog 203=True:=eq_true ⟨_,Tryz.func203,of_decide_eq_false (by kernel_rfl),rfl⟩
theorem aQZ:qp Tryz.prog 204=True:=eq_true ⟨_,Tryz.func204,of_decide_eq_false (by kernel_rfl),rfl⟩
theorem aQY:qp Tryz.prog 205=True:=eq_true ⟨_,Tryz.func205,of_decide_eq_false (by kernel_rfl),rfl⟩
theorem aQX:qp Tryz.prog 206=True:=eq_true ⟨_,Tryz.func206,of_decide_eq_false (by kernel_rfl),rfl⟩
theorem aQW:qp Tryz.prog 207=True:=eq_true ⟨_,Tryz.func207,of_decide_eq_false (by kernel_rfl),rfl⟩
theorem aQV:qp Tryz.prog 208=True:=eq_true ⟨_,Tryz.func208,of_decide_eq_false (by kernel_rfl),rfl⟩
theorem aQU:qp Tryz.prog 209=True:=eq_true ⟨_,Tryz.func209,of_decide_eq_false (by kernel_rfl),rfl⟩
theorem aQT:qp Tryz.prog 210=True:=eq_true ⟨_,Tryz.func210,of_decide_eq_false (by kernel_rfl),rfl⟩
theorem aQS:qp Tryz.prog 211=True:=eq_true ⟨_,Tryz.func211,of_decide_eq_false (by kernel_rfl),rfl⟩
theorem aQR:qp Tryz.prog 212=True:=eq_true ⟨_,Tryz.func212,of_decide_eq_false (by kernel_rfl),rfl⟩
theorem aQQ:qp Tryz.prog 213=True:=eq_true ⟨_,Tryz.func213,of_decide_eq_false (by kernel_rfl),rfl⟩
theorem aQP:qp Tryz.prog 214=True:=eq_true ⟨_,Tryz.func214,of_decide_eq_false (by kernel_rfl),rfl⟩
theorem aQO:qp Tryz.prog 215=True:=eq_true ⟨_,Tryz.func215,of_decide_eq_false (by kernel_rfl),rfl⟩
theorem aQN:qp Tryz.prog 216=True:=eq_true ⟨_,Tryz.func216,of_decide_eq_false (by kernel_rfl),rfl⟩
theorem aQM:qp Tryz.prog 217=True:=eq_true ⟨_,Tryz.func217,of_decide_eq_false (by kernel_rfl),rfl⟩
theorem aQL:qp Tryz.prog 218=True:=eq_true ⟨_,Tryz.func218,of_decide_eq_false (by kernel_rfl),rfl⟩
theorem aQK:qp Tryz.prog 219=True:=eq_true ⟨_,Tryz.func219,of_decide_eq_false (by kernel_rfl),rfl⟩
theorem aQJ:qp Tryz.prog 220=True:=eq_true ⟨_,Tryz.func220,of_decide_eq_false (by kernel_rfl),rfl⟩
theorem aQI:qp Tryz.prog 221=True:=eq_true ⟨_,Tryz.func221,of_decide_eq_false (by kernel_rfl),rfl⟩
theorem aQH:qp Tryz.prog 222=True:=eq_true ⟨_,Tryz.func222,of_decide_eq_false (by kernel_rfl),rfl⟩
theorem aQG:qp Tryz.prog 223=True:=eq_true ⟨_,Tryz.func223,of_decide_eq_false (by kernel_rfl),rfl⟩
theorem aQF:qp Tryz.prog 224=True:=eq_true ⟨_,Tryz.func224,of_decide_eq_false (by kernel_rfl),rfl⟩
theorem aQE:qp Tryz.prog 225=True:=eq_true ⟨_,Tryz.func225,of_decide_eq_false (by kernel_rfl),rfl⟩
theorem aQD:qp Tryz.prog 226=True:=eq_true ⟨_,Tryz.func226,of_decide_eq_false (by kernel_rfl),rfl⟩
theorem aQC:qp Tryz.prog 227=True:=eq_true ⟨_,Tryz.func227,of_decide_eq_false (by kernel_rfl),rfl⟩
theorem aQB:qp Tryz.prog 228=True:=eq_true ⟨_,Tryz.func228,of_decide_eq_false (by kernel_rfl),rfl⟩
theorem aQA:qp Tryz.prog 229=True:=eq_true ⟨_,Tryz.func229,of_decide_eq_false (by kernel_rfl),rfl⟩
theorem aQz:qp Tryz.prog 230=True:=eq_true ⟨_,Tryz.func230,of_decide_eq_false (by kernel_rfl),rfl⟩
theorem aQy:qp Tryz.prog 231=True:=eq_true ⟨_,Tryz.func231,of_decide_eq_false (by kernel_rfl),rfl⟩
theorem aQx:qp Tryz.prog 232=True:=eq_true ⟨_,Tryz.func232,of_decide_eq_false (by kernel_rfl),rfl⟩
theorem aQw:qp Tryz.prog 233=True:=eq_true ⟨_,Tryz.func233,of_decide_eq_false (by kernel_rfl),rfl⟩
theorem aQv:qp Tryz.prog 234=True:=eq_true ⟨_,Tryz.func234,of_decide_eq_false (by kernel_rfl),rfl⟩
theorem aQu:qp Tryz.prog 235=True:=eq_true ⟨_,Tryz.func235,of_decide_eq_false (by kernel_rfl),rfl⟩
theorem aQt:qp Tryz.prog 236=True:=eq_true ⟨_,Tryz.func236,of_decide_eq_false (by kernel_rfl),rfl⟩
theorem aQs:qp Tryz.prog 237=True:=eq_true ⟨_,Tryz.func237,of_decide_eq_false (by kernel_rfl),rfl⟩
theorem aQr:qp Tryz.prog 238=True:=eq_true ⟨_,Tryz.func238,of_decide_eq_false (by kernel_rfl),rfl⟩
theorem aQq:qp Tryz.prog 239=True:=eq_true ⟨_,Tryz.func239,of_decide_eq_false (by kernel_rfl),rfl⟩
theorem aQp:qp Tryz.prog 240=True:=eq_true ⟨_,Tryz.func240,of_decide_eq_false (by kernel_rfl),rfl⟩
theorem aQo:qp Tryz.prog 241=True:=eq_true ⟨_,Tryz.func241,of_decide_eq_false (by kernel_rfl),rfl⟩
theorem aQn:qp Tryz.prog 242=True:=eq_true ⟨_,Tryz.func242,of_decide_eq_false (by kernel_rfl),rfl⟩
theorem aQm:qp Tryz.prog 243=True:=eq_true ⟨_,Tryz.func243,of_decide_eq_false (by kernel_rfl),rfl⟩
theorem aQl:qp Tryz.prog 244=True:=eq_true ⟨_,Tryz.func244,of_decide_eq_false (by kernel_rfl),rfl⟩
theorem aQk:qp Tryz.prog 245=True:=eq_true ⟨_,Tryz.func245,of_decide_eq_false (by kernel_rfl),rfl⟩
theorem aQj:qp Tryz.prog 246=True:=eq_true ⟨_,Tryz.func246,of_decide_eq_false (by kernel_rfl),rfl⟩
theorem aQi:qp Tryz.prog 247=True:=eq_true ⟨_,Tryz.func247,of_decide_eq_false (by kernel_rfl),rfl⟩
theorem aQh:qp Tryz.prog 248=True:=eq_true ⟨_,Tryz.func248,of_decide_eq_false (by kernel_rfl),rfl⟩
theorem aQg:qp Tryz.prog 249=True:=eq_true ⟨_,Tryz.func249,of_decide_eq_false (by kernel_rfl),rfl⟩
theorem aQf:qp Tryz.prog 250=True:=eq_true ⟨_,Tryz.func250,of_decide_eq_false (by kernel_rfl),rfl⟩
theorem aQe:qp Tryz.prog 251=True:=eq_true ⟨_,Tryz.func251,of_decide_eq_false (by kernel_rfl),rfl⟩
theorem aQd:qp Tryz.prog 252=True:=eq_true ⟨_,Tryz.func252,of_decide_eq_false (by kernel_rfl),rfl⟩
theorem aQc:qp Tryz.prog 253=True:=eq_true ⟨_,Tryz.func253,of_decide_eq_false (by kernel_rfl),rfl⟩
theorem aQb:qp Tryz.prog 254=True:=eq_true ⟨_,Tryz.func254,of_decide_eq_false (by kernel_rfl),rfl⟩
theorem aQa:qp Tryz.prog 255=True:=eq_true ⟨_,Tryz.func255,of_decide_eq_false (by kernel_rfl),rfl⟩
theorem aP9:qp Tryz.prog 256=True:=eq_true ⟨_,Tryz.func256,of_decide_eq_false (by kernel_rfl),rfl⟩
theorem aP8:qp Tryz.prog 257=True:=eq_true ⟨_,Tryz.func257,of_decide_eq_false (by kernel_rfl),rfl⟩
theorem aP7:qp Tryz.prog 258=True:=eq_true ⟨_,Tryz.func258,of_decide_eq_false (by kernel_rfl),rfl⟩
theorem aP6:qp Tryz.prog 259=True:=eq_true ⟨_,Tryz.func259,of_decide_eq_false (by kernel_rfl),rfl⟩
theorem aP5:qp Tryz.prog 260=True:=eq_true ⟨_,Tryz.func260,of_decide_eq_false (by kernel_rfl),rfl⟩
theorem aP4:qp Tryz.prog 261=True:=eq_true ⟨_,Tryz.func261,of_decide_eq_false (by kernel_rfl),rfl⟩
theorem aP3:qp Tryz.prog 262=True:=eq_true ⟨_,Tryz.func262,of_decide_eq_false (by kernel_rfl),rfl⟩
theorem aP2:qp Tryz.prog 263=True:=eq_true ⟨_,Tryz.func263,of_decide_eq_false (by kernel_rfl),rfl⟩
theorem aP1:qp Tryz.prog 264=True:=eq_true ⟨_,Tryz.func264,of_decide_eq_false (by kernel_rfl),rfl⟩
theorem aP0:qp Tryz.prog 265=True:=eq_true ⟨_,Tryz.func265,of_decide_eq_false (by kernel_rfl),rfl⟩
theorem aPZ:qp Tryz.prog 266=True:=eq_true ⟨_,Tryz.func266,of_decide_eq_false (by kernel_rfl),rfl⟩
theorem aPY:qp Tryz.prog 267=True:=eq_true ⟨_,Tryz.func267,of_decide_eq_false (by kernel_rfl),rfl⟩
theorem aPX:qp Tryz.prog 268=True:=eq_true ⟨_,Tryz.func268,of_decide_eq_false (by kernel_rfl),rfl⟩
theorem aPW:qp Tryz.prog 269=True:=eq_true ⟨_,Tryz.func269,of_decide_eq_false (by kernel_rfl),rfl⟩
theorem aPV:qp Tryz.prog 270=True:=eq_true ⟨_,Tryz.func270,of_decide_eq_false (by kernel_rfl),rfl⟩
theorem aPU:qp Tryz.prog 271=True:=eq_true ⟨_,Tryz.func271,of_decide_eq_false (by kernel_rfl),rfl⟩
theorem aPT:qp Tryz.prog 272=True:=eq_true ⟨_,Tryz.func272,of_decide_eq_false (by kernel_rfl),rfl⟩
theorem aPS:qp Tryz.prog 273=True:=eq_true ⟨_,Tryz.func273,of_decide_eq_false (by kernel_rfl),rfl⟩
theorem aPR:qp Tryz.prog 274=True:=eq_true ⟨_,Tryz.func274,of_decide_eq_false (by kernel_rfl),rfl⟩
theorem aPQ:qp Tryz.prog 275=True:=eq_true ⟨_,Tryz.func275,of_decide_eq_false (by kernel_rfl),rfl⟩
theorem aPP:qp Tryz.prog 276=True:=eq_true ⟨_,Tryz.func276,of_decide_eq_false (by kernel_rfl),rfl⟩
theorem aPO:qp Tryz.prog 277=True:=eq_true ⟨_,Tryz.func277,of_decide_eq_false (by kernel_rfl),rfl⟩
theorem aPN:qp Tryz.prog 278=True:=eq_true ⟨_,Tryz.func278,of_decide_eq_false (by kernel_rfl),rfl⟩
theorem aPM:qp Tryz.prog 279=True:=eq_true ⟨_,Tryz.func279,of_decide_eq_false (by kernel_rfl),rfl⟩
theorem aPL:qp Tryz.prog 280=True:=eq_true ⟨_,Tryz.func280,of_decide_eq_false (by kernel_rfl),rfl⟩
theorem aPK:qp Tryz.prog 281=True:=eq_true ⟨_,Tryz.func281,of_decide_eq_false (by kernel_rfl),rfl⟩
theorem aPJ:qp Tryz.prog 282=True:=eq_true ⟨_,Tryz.func282,of_decide_eq_false (by kernel_rfl),rfl⟩
theorem aPI:qp Tryz.prog 283=True:=eq_true ⟨_,Tryz.func283,of_decide_eq_false (by kernel_rfl),rfl⟩
theorem aPH:qp Tryz.prog 284=True:=eq_true ⟨_,Tryz.func284,of_decide_eq_false (by kernel_rfl),rfl⟩
theorem aPG:qp Tryz.prog 285=True:=eq_true ⟨_,Tryz.func285,of_decide_eq_false (by kernel_rfl),rfl⟩
theorem aPF:qp Tryz.prog 286=True:=eq_true ⟨_,Tryz.func286,of_decide_eq_false (by kernel_rfl),rfl⟩
theorem aPE:qp Tryz.prog 287=True:=eq_true ⟨_,Tryz.func287,of_decide_eq_false (by kernel_rfl),rfl⟩
theorem aPD:qp Tryz.prog 288=True:=eq_true ⟨_,Tryz.func288,of_decide_eq_false (by kernel_rfl),rfl⟩
theorem aPC:qp Tryz.prog 289=True:=eq_true ⟨_,Tryz.func289,of_decide_eq_false (by kernel_rfl),rfl⟩
theorem aPB:qp Tryz.prog 290=True:=eq_true ⟨_,Tryz.func290,of_decide_eq_false (by kernel_rfl),rfl⟩
theorem aPA:qp Tryz.prog 291=True:=eq_true ⟨_,Tryz.func291,of_decide_eq_false (by kernel_rfl),rfl⟩
theorem aPz:qp Tryz.prog 292=True:=eq_true ⟨_,Tryz.func292,of_decide_eq_false (by kernel_rfl),rfl⟩
theorem aPy:qp Tryz.prog 293=True:=eq_true ⟨_,Tryz.func293,of_decide_eq_false (by kernel_rfl),rfl⟩
theorem aPx:qp Tryz.prog 294=True:=eq_true ⟨_,Tryz.func294,of_decide_eq_false (by kernel_rfl),rfl⟩
theorem aPw:qp Tryz.prog 295=True:=eq_true ⟨_,Tryz.func295,of_decide_eq_false (by kernel_rfl),rfl⟩
theorem aPv:qp Tryz.prog 296=True:=eq_true ⟨_,Tryz.func296,of_decide_eq_false (by kernel_rfl),rfl⟩
theorem aPu:qp Tryz.prog 318=True:=eq_true ⟨_,Tryz.func318,of_decide_eq_false (by kernel_rfl),rfl⟩
attribute [go_sem] ty1 aNI aIF av4 amE aNG aNH ty2 aNF aIj
attribute [go_sem] asT alq aND aNE ty3 aNC aHO asI alc aNA
attribute [go_sem] aNB ty4 aNz aHp asz ak3 aNx aNy ty5 aNw
attribute [go_sem] aG3 asr akU aNu aNv ty6 aNt aGB ash akK
attribute [go_sem] aNr aNs ty7 aNq aGi asa akD aNo aNp aSO
attribute [go_sem] aZk aSN aZj aSM aZi aSL aZh ben ty8 aNn
attribute [go_sem] aFT ar1 aks aNl aNm aSK aZg aSJ aZf aSI
attribute [go_sem] aZe aSH aZd bem ty9 aNk aFu arS akj aNi
attribute [go_sem] aNj bcT aIO aAd an5 aiE aIM aIN bcS aIL
attribute [go_sem] azI anU ait aIJ aIK bcR aII azd anJ aii
attribute [go_sem] aIG aIH bcQ aIE ave amm agY aIC aID bcP
attribute [go_sem] aIB auM amc agO aIz aIA aY4 bcO aIy auh
attribute [go_sem] al1 agD aIw aIx aY3 bcN aIv atS alR agu
attribute [go_sem] aIt aIu aLC aOD aLB aOC bbv bcM aIs atq
attribute [go_sem] alG agk aIq aIr aLA aOB aLz aOA bbu bcL
attribute [go_sem] aIp asV als af8 aIn aIo bcK aIm asU alr
attribute [go_sem] af7 aIk aIl bcJ aIi asS alp af6 aIg aIh
attribute [go_sem] bcI aIf asR alo af5 aId aIe bcH aIc asQ
attribute [go_sem] aln af4 aIa aIb bcG aH9 asP alm af3 aH7
attribute [go_sem] aH8 bcF aH6 asO alk af2 aH4 aH5 aY2 bcE
attribute [go_sem] aH3 asN alj af1 aH1 aH2 aLy aOz bbt bcD
attribute [go_sem] aH0 asM ali af0 aHY aHZ aLx aOy bbs bcC
attribute [go_sem] aHX asL alg afZ aHV aHW aLw aOx aLv aOw
attribute [go_sem] bbr bcB aHU asK alf afY aHS aHT aLu aOv
attribute [go_sem] aLt aOu bbq bcA aHR asJ ald afX aHP aHQ
attribute [go_sem] aLs aOt aLr aOs bbp bcz aHN asH alb afW
attribute [go_sem] aHL aHM aLq aOr aLp aOq bbo bcy aHK asG
attribute [go_sem] ala afV aHI aHJ bcx aHH asF ak9 afU aHF
attribute [go_sem] aHG bcw aHE asE ak8 afT aHC aHD bcv aHB
attribute [go_sem] asD ak7 afS aHz aHA bcu aHy asC ak6 afR
attribute [go_sem] aHw aHx bct aHv asB ak5 afQ aHt aHu bcs
attribute [go_sem] aHs asA ak4 afP aHq aHr bcr aHo asy ak1
attribute [go_sem] afO aHm aHn aLo aOp aLn aOo bbn bcq aHl
attribute [go_sem] asx ak0 afN aHj aHk aLm aOn aLl aOm bbm
attribute [go_sem] bcp aHi asw akZ afM aHg aHh bco aHf asv
attribute [go_sem] akY afL aHd aHe bcn aHc asu akX afK aHa
attribute [go_sem] aHb bcm aG9 ast akW afJ aG7 aG8 bcl aG6
attribute [go_sem] ass akV afI aG4 aG5 bck aG2 asq akT afH
attribute [go_sem] aG0 aG1 bcj aGZ asp akS afG aGX aGY bci
attribute [go_sem] aGW aso akR afF aGU aGV bch aGT asn akQ
attribute [go_sem] afE aGR aGS bcg aGQ asm akP afD aGO aGP
attribute [go_sem] bcf aGN asl akO afC aGL aGM bce aGK ask
attribute [go_sem] akN afB aGI aGJ bcd aGH asj akM afA aGF
attribute [go_sem] aGG bcc aGE asi akL afz aGC aGD aY1 bcb
attribute [go_sem] aGA asg akJ afy aGy aGz bca aGx asf akI
attribute [go_sem] afx aGv aGw bb9 aGu ase akH afw aGs aGt
attribute [go_sem] bb8 aGr asd akG afv aGp aGq bb7 aGo asc
attribute [go_sem] akF afu aGm aGn bb6 aGl asb akE aft aGj
attribute [go_sem] aGk bb5 aGh ar9 akC afs aGf aGg bb4 aGe
attribute [go_sem] ar8 akA afr aGc aGd aLk aOl aLj aOk bbl
attribute [go_sem] bb3 aGb ar7 aky afq aF9 aGa aLi aOj aLh
attribute [go_sem] aOi bbk bb2 aF8 ar6 akx afp aF6 aF7 bb1
attribute [go_sem] aF5 ar5 akw afo aF3 aF4 bb0 aF2 ar4 akv
attribute [go_sem] afn aF0 aF1 bbZ aFZ ar3 aku afm aFX aFY
attribute [go_sem] bbY aFW ar2 akt afl aFU aFV bbX aFS ar0
attribute [go_sem] akr afk aFQ aFR bbW aFP arZ akq afj aFN
attribute [go_sem] aFO bbV aFM arY akp afi aFK aFL bbU aFJ
attribute [go_sem] arX ako afh aFH aFI bbT aFG arW akn afg
attribute [go_sem] aFE aFF bbS aFD arV akm aff aFB aFC bbR
attribute [go_sem] aFA arU akl afe aFy aFz bbQ aFx arT akk
attribute [go_sem] afd aFv aFw aWC aAE aoe aiN adg aAC aAD
attribute [go_sem] aWB aAB aod aiM adf aAz aAA aWA aAy aoc
attribute [go_sem] aiL ade aAw aAx aWz aAv aob aiK adc aAt
attribute [go_sem] aAu aWy aAs aoa aiJ adb aAq aAr aWx aAp
attribute [go_sem] an9 aiI ada aAn aAo aWw aAm an8 aiH ac9
attribute [go_sem] aAk aAl aWv aAj an7 aiG ac8 aAh aAi aWu
attribute [go_sem] aAg an6 aiF ac7 aAe aAf aWt aAc an4 aiD
attribute [go_sem] ac6 aAa aAb aWs az9 an3 aiC ac5 az7 az8
attribute [go_sem] aN2 aWr az6 an2 aiB ac4 az4 az5 aCF aJL
attribute [go_sem] aCE aJK aTt aWq az3 an1 aiA ac3 az1 az2
attribute [go_sem] aCD aJJ aCC aJI aTs aWp az0 an0 aiz ac2
attribute [go_sem] azY azZ aWo azX anZ aiy ac1 azV azW aWn
attribute [go_sem] azU anY aix ac0 azS azT aWm azR anX aiw
attribute [go_sem] acZ azP azQ aCB aJH aCA aJG aCz aJF aTr
attribute [go_sem] aWl azO anW aiv acY azM azN aCy aJE aCx
attribute [go_sem] aJD aCw aJC aTq aWk azL anV aiu acX azJ
attribute [go_sem] azK aWj azH anT ais acW azF azG aWi azE
attribute [go_sem] anS air acV azC azD aWh azB anR aiq acU
attribute [go_sem] azz azA aWg azy anQ aip acT azw azx aWf
attribute [go_sem] azv anP aio acS azt azu aWe azs anO ain
attribute [go_sem] acR azq azr aWd azp anN aim acQ azn azo
attribute [go_sem] aWc azm anM ail acP azk azl aWb azj anL
attribute [go_sem] aik acO azh azi aWa azg anK aij acN aze
attribute [go_sem] azf aV9 azc anI aih acM aza azb aV8 ay9
attribute [go_sem] anH aig acL ay7 ay8 aV7 ay6 anG aif acK
attribute [go_sem] ay4 ay5 aCv aJB aCu aJA aTp aV6 ay3 anF
attribute [go_sem] aie acJ ay1 ay2 aCt aJz aCs aJy aTo aV5
attribute [go_sem] ay0 anE aid acI ayY ayZ aV4 ayX anD aic
attribute [go_sem] acH ayV ayW aV3 ayU anC aib acG ayS ayT
attribute [go_sem] aV2 ayR anB aia acF ayP ayQ aV1 ayO anA
attribute [go_sem] ah9 acE ayM ayN aV0 ayL anz ah8 acD ayJ
attribute [go_sem] ayK aVZ ayI anx ah7 acC ayG ayH aVY ayF
attribute [go_sem] anw ah6 acB ayD ayE aVX ayC anv ah5 acA
attribute [go_sem] ayA ayB aVW ayz anu ah4 acz ayx ayy aVV
attribute [go_sem] ayw ant ah3 acy ayu ayv aVU ayt ans ah2
attribute [go_sem] acx ayr ays aVT ayq anr ah1 acw ayo ayp
attribute [go_sem] aVS ayn anq ah0 acv ayl aym aVR ayk anp
attribute [go_sem] ahZ acu ayi ayj aVQ ayh ano ahY act ayf
attribute [go_sem] ayg aVP aye ann ahX acs ayc ayd aVO ayb
attribute [go_sem] anm ahW acr ax9 aya aN1 aVN ax8 anl ahV
attribute [go_sem] acq ax6 ax7 aCr aJx aCq aJw aTn aVM ax5
attribute [go_sem] ank ahU acp ax3 ax4 aCp aJv aCo aJu aTm
attribute [go_sem] aVL ax2 anj ahT aco ax0 ax1 aVK axZ ani
attribute [go_sem] ahS acn axX axY aVJ axW anh ahR acm axU
attribute [go_sem] axV aVI axT ang ahQ acl axR axS aVH axQ
attribute [go_sem] anf ahP ack axO axP aVG axN ane ahO acj
attribute [go_sem] axL axM aVF axK anc ahN aci axI axJ aVE
attribute [go_sem] axH anb ahM ach axF axG aVD axE ana ahL
attribute [go_sem] acg axC axD aVC axB am9 ahK acf axz axA
attribute [go_sem] aVB axy am8 ahJ ace axw axx aVA axv am7
attribute [go_sem] ahI acd axt axu aVz axs am6 ahH acb axq
attribute [go_sem] axr aVy axp am5 ahG aca axn axo aVx axm
attribute [go_sem] am4 ahF ab9 axk axl aVw axj am3 ahE ab8
attribute [go_sem] axh axi aVv axg am2 ahD ab7 axe axf aCn
attribute [go_sem] aJt aCm aJs aCl aJr aTl aVu axd am1 ahC
attribute [go_sem] ab6 axb axc aCk aJq aCj aJp aCi aJo aTk
attribute [go_sem] aVt axa am0 ahB ab5 aw8 aw9 aVs aw7 amZ
attribute [go_sem] ahA ab4 aw5 aw6 aVr aw4 amY ahz ab3 aw2
attribute [go_sem] aw3 aVq aw1 amX ahy ab2 awZ aw0 aVp awY
attribute [go_sem] amW ahx ab1 awW awX aVo awU amV ahw ab0
attribute [go_sem] awS awT aVn awR amU ahv abZ awP awQ aVm
attribute [go_sem] awO amT ahu abY awM awN aVl awL amS aht
attribute [go_sem] abX awJ awK aVk awI amR ahs abW awG awH
attribute [go_sem] aVj awF amQ ahr abV awD awE aVi awC amP
attribute [go_sem] ahq abU awA awB aVh awz amO ahp abT awx
attribute [go_sem] awy aVg aww amN aho abS awu awv aVf awt
attribute [go_sem] amM ahn abR awr aws aVe awq amL ahm abQ
attribute [go_sem] awn awo aVd awm amK ahl abP awk awl aVc
attribute [go_sem] awj amJ ahk abO awh awi aN0 aVb awg amI
attribute [go_sem] ahj abN awe awf aVa awd amH ahi abM awb
attribute [go_sem] awc aU9 awa amG ahh abL av8 av9 aU8 av7
attribute [go_sem] amF ahg abK av5 av6 aU7 av3 amD ahf abJ
attribute [go_sem] av1 av2 aU6 av0 amC ahe abI avY avZ aU5
attribute [go_sem] avX amB ahd abH avV avW aU4 avU amA ahc
attribute [go_sem] abG avS avT aU3 avR amz ahb abF avP avQ
attribute [go_sem] aU2 avO amy aha abE avM avN aU1 avL amx
attribute [go_sem] ag9 abD avJ avK aU0 avI amw ag8 abC avG
attribute [go_sem] avH aUZ avF amv ag7 abB avD avE aUY avC
attribute [go_sem] amu ag6 abA avA avB aUX avz amt ag5 abz
attribute [go_sem] avx avy aUW avw ams ag4 aby avu avv aUV
attribute [go_sem] avt amr ag3 abx avr avs aUU avq amq ag2
attribute [go_sem] abw avo avp aUT avn amp ag1 abv avl avm
attribute [go_sem] aUS avk amo ag0 abu avi avj aUR avh amn
attribute [go_sem] agZ abt avf avg aUQ avd aml agX abr avb
attribute [go_sem] avc aUP ava amk agW abq au8 au9 aUO au7
attribute [go_sem] amj agV abp au5 au6 aUN au4 ami agU abo
attribute [go_sem] au2 au3 aUM au1 amh agT abn auZ au0 aUL
attribute [go_sem] auY amg agS abm auW auX aUK auV amf agR
attribute [go_sem] abl auT auU aUJ auS ame agQ abk auQ auR
attribute [go_sem] aUI auP amd agP abj auN auO aUH auL amb
attribute [go_sem] agN abi auJ auK aUG auI ama agM abh auG
attribute [go_sem] auH aUF auF al9 agL abg auD auE aUE auC
attribute [go_sem] al8 agK abf auA auB aUD auz al7 agJ abe
attribute [go_sem] aux auy aUC auw al6 agI abd auu auv aUB
attribute [go_sem] aut al5 agH abc aur aus aUA auq al4 agG
attribute [go_sem] abb auo aup aUz aun al3 agF aba aul aum
attribute [go_sem] aUy auk al2 agE aa9 aui auj aUx aug alZ
attribute [go_sem] agC aa8 aue auf aUw aud alY agB aa7 aub
attribute [go_sem] auc aUv aua alX agA aa6 at8 at9 aUu at7
attribute [go_sem] alW agz aa5 at5 at6 aUt at4 alV agy aa4
attribute [go_sem] at2 at3 aUs at1 alU agx aa3 atZ at0 aUr
attribute [go_sem] atY alT agw aa2 atW atX aUq atV alS agv
attribute [go_sem] aa1 atT atU aUp atR alP agt aaZ atP atQ
attribute [go_sem] aUo atO alO ags aaY atM atN aUn atL alN
attribute [go_sem] agr aaX atJ atK aUm atI alM agq aaW atG
attribute [go_sem] atH aUl atF alL agp aaV atD atE aUk atC
attribute [go_sem] alK ago aaU atA atB aUj atz alJ agn aaT
attribute [go_sem] atx aty aUi atw alI agm aaS atu atv aUh
attribute [go_sem] att alH agl aaR atr ats aUg atp alD agj
attribute [go_sem] aaQ atn ato aUf atm alC agi aaP atk atl
attribute [go_sem] aUe atj alB agh aaO ath ati aUd atg alz
attribute [go_sem] agf aaN ate atf aUc atd aly age aaM atb
attribute [go_sem] atc aUb ata alx agd aaL as8 as9 aUa as7
attribute [go_sem] alw agc aaK as5 as6 aT9 as4 alv agb aaJ
attribute [go_sem] as2 as3 aT8 as1 alu aga aaI asZ as0 aT7
attribute [go_sem] asY alt af9 aaH asW asX bei beh beg bef
attribute [go_sem] bee bed bec beb ba7 ba6 ba5 ba4 ba3 ba2
attribute [go_sem] ba1 ba0 baZ baY baX baW baV baU baT baS
attribute [go_sem] baR baQ baP baO baN baM baL baK baJ baI
attribute [go_sem] baH baG baF baE baD baC baB baA baz bay
attribute [go_sem] bax baw bav bau bat bas bar baq bap bao
attribute [go_sem] ban bam bal bak baj bai bah bag baf bae
attribute [go_sem] bac bab baa aZ9 aZ8 aZ7 aZ6 aZ5 aZ4 aZ3
attribute [go_sem] aZ2 aZ1 aZ0 aZZ aZY aZX aZW aZV aZU aZT
attribute [go_sem] aZS aZR aZQ aZP aZO aZN aZM aZL aZK aZJ
attribute [go_sem] aZI aZH aZG aZF aSF aSE aSD aSC aSB aSA
attribute [go_sem] aSz aSy aSx aSw aSv aSu aSt aSs aSr aSq
attribute [go_sem] aSp aSo aSn aSm aSl aSk aSj aSi aSh aSg
attribute [go_sem] aSf aSe aSd aSc aSb aSa aR9 aR8 aR7 aR6
attribute [go_sem] aR5 aR4 aR3 aR2 aR1 aR0 aRZ aRY aRX aRW
attribute [go_sem] aRV aRU aRT aRS aRR aRQ aRP aRO aRN aRM
attribute [go_sem] aRL aRK aRJ aRI aRH aRG aRF aRE aRD aRC
attribute [go_sem] aRB aRA aRz aRy aRx aRw aRv aRu aRt aRs
attribute [go_sem] aRr aRq aRp aRo aRn aRm aRl aRk aRj aRi
attribute [go_sem] aRh aRg aRf aRe aRd aRc aRb aRa aQ9 aQ8
attribute [go_sem] aQ7 aQ6 aQ5 aQ4 aQ3 aQ2 aQ1 aQ0 aQZ aQY
attribute [go_sem] aQX aQW aQV aQU aQT aQS aQR aQQ aQP aQO
attribute [go_sem] aQN aQM aQL aQK aQJ aQI aQH aQG aQF aQE
attribute [go_sem] aQD aQC aQB aQA aQz aQy aQx aQw aQv aQu
attribute [go_sem] aQt aQs aQr aQq aQp aQo aQn aQm aQl aQk
attribute [go_sem] aQj aQi aQh aQg aQf aQe aQd aQc aQb aQa
attribute [go_sem] aP9 aP8 aP7 aP6 aP5 aP4 aP3 aP2 aP1 aP0
attribute [go_sem] aPZ aPY aPX aPW aPV aPU aPT aPS aPR aPQ
attribute [go_sem] aPP aPO aPN aPM aPL aPK aPJ aPI aPH aPG
attribute [go_sem] aPF aPE aPD aPC aPB aPA aPz aPy aPx aPw
attribute [go_sem] aPv aPu
end Go.Ab
namespace Go.Ab
open Go Go.Proofs
set_option maxRecDepth 100000 in
theorem ad9(U V:List Int)(j:Nat)(hU:gd U)(hV:gd V)(lU:U.length≤2000000)(h2:2≤V.length)(hj:j+V.length<U.length)(hv1:32768≤V.getD (V.length-1) 0)(hW:vl (U.drop j)<65536*vl V):
  Con Tryz.prog 289 true [.sl U.length (qc U),.sl V.length (qc V),.v (.int .i64 j)] [] (fun r hs bs=>∃q:Int,r=.v (.int .i64 q)∧hs=[]∧bs=[]∧(0≤q∧q<65536)∧vl (U.drop j)<(q+1)*vl V∧q*vl V<vl (U.drop j)+vl V):=by
 refine Con.of_aw Tryz.func289 rfl Tryz.ntmps289 (by simp) (by simp) (by simp) (W.sound ?_)
 show @W Tryz.prog 76 ⟨_⟩ ⟨fun x σ=>@q6 _ _ _ ⟨_⟩ _ ⟨_⟩ x σ⟩ _ _
 have hDl:V.length<(U.drop j).length:=by simp;omega
 have hz:=aeu (yj hU j) hV hDl hW
 have hw:=aNa hDl h2 hz
 have hvv:=aFl h2
 rw[zU,zU,zU]at hw
 have hx0:=qR (jY (yj hU j) (V.length-2))
 have hx1:=Qu (jY (yj hU j) (V.length-2))
 have hy0:=qR (jY hV (V.length-2))
 have hy1:=Qu (jY hV (V.length-2))
 rw[List.length_take,Nat.min_eq_left (by omega)]at hx1 hy1
 have gu0:=qH hU (j+V.length)
 have gu1:=qH hU (j+(V.length-1))
 have gu2:=qH hU (j+(V.length-2))
 have gv1:=qH hV (V.length-1)
 have gv2:=qH hV (V.length-2)
 have htop:=aO8 hw hvv ⟨hx0,hx1⟩ ⟨hy0,hy1⟩ gu2.1 gu1.1 gv2.2 hW
 have e0:((j:Int)+(V.length:Int)).toNat=j+V.length:=by omega
 have e1:((j:Int)+(V.length:Int)-1).toNat=j+(V.length-1):=by omega
 have e2:((j:Int)+(V.length:Int)-2).toNat=j+(V.length-2):=by omega
 have f1:((V.length:Int)-1).toNat=V.length-1:=by omega
 have f2:((V.length:Int)-2).toNat=V.length-2:=by omega
 simp(disch:=omega)only[go_sem]
 refine qq rfl [⟨0,[],[]⟩,⟨1,[],[]⟩,⟨2,[],[]⟩,⟨3,[],[]⟩,⟨4,[],[]⟩,⟨5,[],[]⟩,⟨6,[],[]⟩,⟨7,[5],[]⟩,⟨8,[5],[]⟩,⟨9,[5],[]⟩,⟨10,[5],[]⟩,⟨11,[5],[]⟩,⟨12,[5],[]⟩,⟨13,[5],[]⟩,⟨14,[],[]⟩,⟨15,[],[]⟩] (by kernel_rfl) ?_
 simp(disch:=omega)only[go_sem,e0,e1]
 generalize hu0:U.getD (j+V.length) 0=u0 at*
 generalize hu1:U.getD (j+(V.length-1)) 0=u1 at*
 generalize hu2:U.getD (j+(V.length-2)) 0=u2 at*
 refine⟨by omega,by omega,by omega,by omega,?_⟩
 refine qq rfl [⟨0,[],[]⟩,⟨1,[],[]⟩,⟨2,[],[]⟩,⟨3,[],[]⟩,⟨4,[],[]⟩,⟨5,[],[]⟩,⟨6,[],[]⟩,⟨7,[5],[]⟩,⟨8,[5],[]⟩,⟨9,[5],[]⟩,⟨10,[5],[]⟩,⟨11,[5],[]⟩,⟨12,[5],[]⟩,⟨13,[5],[]⟩,⟨14,[12],[]⟩,⟨15,[],[]⟩] (by kernel_rfl) ?_
 simp(disch:=omega)only[go_sem,f1]
 generalize hvv1:V.getD (V.length-1) 0=v1 at*
 generalize hvv2:V.getD (V.length-2) 0=v2 at*
 generalize htt:u0*65536+u1=top at*
 refine⟨by omega,by omega,by omega,by omega,by omega,by omega,?_⟩
 have hq0:0≤top/v1:=Int.ediv_nonneg (by omega) (by omega)
 have hq1:top/v1≤65537:=by
  have:top/v1<65538:=Int.ediv_lt_of_lt_mul (by omega) (by omega)
  omega
 have hr0:=Int.emod_nonneg top (show v1≠0 by omega)
 have hr1:=Int.emod_lt_of_pos top (show 0<v1 by omega)
 have hqr:=Int.emod_add_mul_ediv top v1
 have hini:=aKH hw hvv ⟨hx0,hx1⟩ ⟨hy0,hy1⟩ gu2 gv2.1 hq0 (show top<(top/v1+1)*v1 by rw[Int.add_mul,Int.mul_comm (top/v1)];omega)
 have hqr':top/v1*v1+top % v1=top:=by rw[Int.mul_comm];omega
 generalize top/v1=q0 at*
 generalize top % v1=r0 at*
 refine qh (fun x:Int×Int=>[(0,.sl U.length (qc U)),(1,.sl V.length (qc V)),(2,.v (.int .i64 j)),(7,.v (.int .i64 V.length)),(9,.v (.int .i64 x.1)),(10,.v (.int .i64 x.2))])
  (fun _=>[]) (fun x=>(0≤x.1∧x.1≤65537)∧(0≤x.2∧x.2<65536)∧x.1*v1+x.2=top∧vl (U.drop j)<(x.1+1)*vl V) (fun x=>x.1.toNat) (q0,r0) ⟨⟨hq0,hq1⟩,⟨hr0,by omega⟩,hqr',hini⟩
  (Le.lst [] _ _ rfl (by simp(disch:=omega)only[go_sem];try omega) (by simp(disch:=omega)only[go_sem])) ?_
 rintro⟨q,r⟩ ⟨hq,hr,hqr2,hlt⟩
 dsimp only at hq hr hqr2 hlt ⊢
 have hqv:0≤q*v2∧q*v2≤65537*65535:=⟨Int.mul_nonneg hq.1 gv2.1,Int.mul_le_mul hq.2 (by omega) gv2.1 (by omega)⟩
 simp(disch:=omega)only[go_sem]
 refine qq rfl [⟨0,[],[]⟩,⟨1,[],[]⟩,⟨2,[],[]⟩,⟨3,[],[]⟩,⟨4,[],[]⟩,⟨5,[],[]⟩,⟨6,[],[]⟩,⟨7,[],[]⟩,⟨8,[],[]⟩,⟨9,[],[]⟩,⟨10,[8],[]⟩,⟨11,[8],[]⟩,⟨12,[8],[]⟩,⟨13,[8],[]⟩,⟨14,[8],[]⟩,⟨15,[8],[]⟩,⟨16,[8],[]⟩,⟨17,[8],[]⟩,⟨18,[8],[]⟩,⟨19,[8],[]⟩,⟨20,[],[]⟩,⟨21,[],[]⟩] (by kernel_rfl) ?_
 simp(disch:=omega)only[go_sem]
 refine zz (fun h1=>?_) (fun h1=>?_)
 ·simp(disch:=omega)only[go_sem,h1,e2,f2,hu2,hvv2]
  refine⟨by omega,by omega,by omega,by omega,qe (fun h2=>?_) (fun h2=>?_)⟩
  ·simp(disch:=omega)only[go_sem,h2,f1,hvv1]
   have hst:=apg hw hvv ⟨hx0,hx1⟩ ⟨hy0,hy1⟩ hW gv2.1 (by omega) hq.1 hqr2 (.inr h2)
   have hqp:0<q:=by
    rcases(by omega:0<q∨q=0)with h|h
    ·exact h
    ·subst h;omega
   have hm:(q-1)*v1+(r+v1)=top:=by rw[Int.sub_mul];omega
   refine⟨by omega,by omega,qe (fun h3=>?_) (fun h3=>?_)⟩
   ·simp(disch:=omega)only[go_sem,h3]
    have h4:q-1<65536:=by
     rcases(by omega:q-1<65536∨65536≤q-1)with h|h
     ·exact h
     ·have:=Int.mul_le_mul_of_nonneg_right h (show 0≤v1 by omega)
      omega
    have h5:(q-1)*v2≤(r+v1)*65536+u2:=by
     have:(q-1)*v2≤65535*65535:=Int.mul_le_mul (by omega) (by omega) gv2.1 (by omega)
     omega
    have h6:=adC hw hvv ⟨hx0,hx1⟩ ⟨hy0,hy1⟩ gv2.1 (by omega) ⟨by omega,h4⟩ hm h5
    exact qy (by simp(disch:=omega)only[go_sem]) (by simp(disch:=omega)only[go_sem]) ⟨q-1,rfl,rfl,rfl,⟨by omega,h4⟩,by rw[show q-1+1=q by omega];exact hst,h6⟩
   ·simp(disch:=omega)only[go_sem,h3]
    refine qb (q-1,r+v1) [] ⟨by show 0≤q-1∧q-1≤65537;omega,by show 0≤r+v1∧r+v1<65536;omega,hm,by show _<(q-1+1)*vl V;rw[show q-1+1=q by omega];exact hst⟩ (by show(q-1).toNat<q.toNat;omega) rfl (by simp(disch:=omega)only[go_sem];try omega) (by simp(disch:=omega)only[go_sem])
  ·simp(disch:=omega)only[go_sem,h2]
   have h6:=adC hw hvv ⟨hx0,hx1⟩ ⟨hy0,hy1⟩ gv2.1 (by omega) ⟨hq.1,by omega⟩ hqr2 (by omega)
   exact qy (by simp(disch:=omega)only[go_sem]) (by simp(disch:=omega)only[go_sem]) ⟨q,rfl,rfl,rfl,⟨hq.1,by omega⟩,hlt,h6⟩
 ·simp(disch:=omega)only[go_sem,h1,f1,hvv1]
  have hst:=apg hw hvv ⟨hx0,hx1⟩ ⟨hy0,hy1⟩ hW gv2.1 (by omega) hq.1 hqr2 (.inl h1)
  have hqp:0<q:=by omega
  have hm:(q-1)*v1+(r+v1)=top:=by rw[Int.sub_mul];omega
  refine⟨by omega,by omega,qe (fun h3=>?_) (fun h3=>?_)⟩
  ·simp(disch:=omega)only[go_sem,h3]
   have h4:q-1<65536:=by
    rcases(by omega:q-1<65536∨65536≤q-1)with h|h
    ·exact h
    ·have:=Int.mul_le_mul_of_nonneg_right h (show 0≤v1 by omega)
     omega
   have h5:(q-1)*v2≤(r+v1)*65536+u2:=by
    have:(q-1)*v2≤65535*65535:=Int.mul_le_mul (by omega) (by omega) gv2.1 (by omega)
    omega
   have h6:=adC hw hvv ⟨hx0,hx1⟩ ⟨hy0,hy1⟩ gv2.1 (by omega) ⟨by omega,h4⟩ hm h5
   exact qy (by simp(disch:=omega)only[go_sem]) (by simp(disch:=omega)only[go_sem]) ⟨q-1,rfl,rfl,rfl,⟨by omega,h4⟩,by rw[show q-1+1=q by omega];exact hst,h6⟩
  ·simp(disch:=omega)only[go_sem,h3]
   refine qb (q-1,r+v1) [] ⟨by show 0≤q-1∧q-1≤65537;omega,by show 0≤r+v1∧r+v1<65536;omega,hm,by show _<(q-1+1)*vl V;rw[show q-1+1=q by omega];exact hst⟩ (by show(q-1).toNat<q.toNat;omega) rfl (by simp(disch:=omega)only[go_sem];try omega) (by simp(disch:=omega)only[go_sem])
end Go.Ab
namespace Go.Ab
open Go Go.Proofs
theorem K8(U V:List Int)(j:Nat)(q:Int)(hU:gd U)(hV:gd V)(lU:U.length≤2000000)(hj:j+V.length<U.length)(hq:0≤q∧q<65536):
  Con Tryz.prog 290 false [.rf 10000000 0 U.length,.sl V.length (qc V),.v (.int .i64 j),.v (.int .i64 q)] [.own 1 (qc U)]
   (fun r hs bs=>∃(U':List Int) (bo:Int),r=.v (.bool (decide (U.getD (j+V.length) 0-bo<0)))∧hs=[]∧bs=[.own 1 (qc (U'.set (j+V.length) (U.getD (j+V.length) 0-bo)))]∧
    U'.length=U.length∧gd U'∧(0≤bo∧bo<65536)∧(∀t,t<j∨j+V.length≤t→U'.getD t 0=U.getD t 0)∧vl U'-65536^(j+V.length)*bo=vl U-65536^j*(q*vl V)):=by
 refine Con.of_aw Tryz.func290 rfl Tryz.ntmps290 (by simp) (by simp) (by simp) (W.sound ?_)
 show @W Tryz.prog 68 ⟨_⟩ ⟨fun x σ=>@q6 _ _ _ ⟨_⟩ _ ⟨_⟩ x σ⟩ _ _
 simp(disch:=omega)only[go_sem]
 refine qh (fun x:Nat×List Int×Int=>[(0,.rf 10000000 0 U.length),(1,.sl V.length (qc V)),(2,.v (.int .i64 j)),(3,.v (.int .i64 q)),(9,.v (.int .i64 x.2.2)),(13,.sl V.length (qc V)),(14,.v (.int .i64 V.length)),(15,.v (.int .i64 x.1))])
  (fun x=>[(10000000,.own 1 (qc x.2.1))])
  (fun x=>x.1≤V.length∧x.2.1.length=U.length∧gd x.2.1∧(0≤x.2.2∧x.2.2<65536)∧(∀t,t<j∨j+x.1≤t→x.2.1.getD t 0=U.getD t 0)∧vl x.2.1-65536^(j+x.1)*x.2.2=vl U-65536^j*(q*vl (V.take x.1)))
  (fun x=>V.length-x.1) (0,U,0) ⟨by simp,rfl,hU,by simp,fun _ _=>rfl,by simp[vl]⟩
  (Le.lst [] _ _ rfl (by simp(disch:=omega)only[go_sem];try omega) (by simp(disch:=omega)only[go_sem])) ?_
 rintro⟨i,U1,bo⟩ ⟨hi,hl1,hg1,hbo,hsame,hval⟩
 dsimp only at hi hl1 hg1 hbo hsame hval ⊢
 simp(disch:=omega)only[go_sem]
 refine qe (fun h1=>?_) (fun h1=>?_)
 ·have hx:=qH hV i
  have hu:=qH hg1 (j+i)
  have hqx:0≤q*V.getD i 0∧q*V.getD i 0≤65535*65535:=⟨Int.mul_nonneg hq.1 hx.1,Int.mul_le_mul (by omega) (by omega) hx.1 (by omega)⟩
  have e1:((j:Int)+(i:Int)).toNat=j+i:=by omega
  have hstep:∀d b:Int,d-65536*b=U1.getD (j+i) 0-q*V.getD i 0-bo→vl (U1.set (j+i) d)-65536^(j+(i+1))*b=vl U-65536^j*(q*vl (V.take (i+1))):=by
   intro d b hd
   rw[QP (by omega),qO,←Nat.add_assoc,Int.pow_succ]
   have e3:(65536:Int)^(j+i)=65536^j*65536^i:=Int.pow_add _ _ _
   rw[e3]at hval ⊢
   generalize (65536:Int)^i=Pi at*
   generalize (65536:Int)^j=Pj at*
   grind
  have hsm:∀d:Int,∀t,t<j∨j+(i+1)≤t→(U1.set (j+i) d).getD t 0=U.getD t 0:=fun d t ht=>by
   rw[jk (by omega),if_neg (by omega)];exact hsame t (by omega)
  simp(disch:=omega)only[go_sem,h1,e1]
  refine⟨by omega,by omega,by omega,by omega,qe (fun h2=>?_) (fun h2=>?_)⟩
  ·simp(disch:=omega)only[go_sem,h2,e1]
   generalize hb:(0-(U1.getD (j+i) 0-q*V.getD i 0-bo)+65536-1)/65536=b
   refine⟨by omega,by omega,qb (i+1,U1.set (j+i) (U1.getD (j+i) 0-q*V.getD i 0-bo+b*65536),b) [] ⟨by show i+1≤_;omega,by simp[hl1],yL hg1 (by omega),by show 0≤b∧b<65536;omega,hsm _,hstep (U1.getD (j+i) 0-q*V.getD i 0-bo+b*65536) b (by omega)⟩
    (by show V.length-(i+1)<V.length-i;omega) rfl (by simp(disch:=omega)only[go_sem];try omega) (by simp(disch:=omega)only[go_sem])⟩
  ·simp(disch:=omega)only[go_sem,h2,e1]
   refine⟨by omega,by omega,qb (i+1,U1.set (j+i) (U1.getD (j+i) 0-q*V.getD i 0-bo),0) [] ⟨by show i+1≤_;omega,by simp[hl1],yL hg1 (by omega),by simp,hsm _,hstep (U1.getD (j+i) 0-q*V.getD i 0-bo) 0 (by omega)⟩
    (by show V.length-(i+1)<V.length-i;omega) rfl (by simp(disch:=omega)only[go_sem];try omega) (by simp(disch:=omega)only[go_sem])⟩
 ·have hiA:i=V.length:=by omega
  subst hiA
  rw[List.take_length]at hval
  have e1:((j:Int)+(V.length:Int)).toNat=j+V.length:=by omega
  have hu:=qH hg1 (j+V.length)
  have es:=hsame (j+V.length) (by omega)
  have eg:(U1.set (j+V.length) (U.getD (j+V.length) 0-bo)).getD (j+V.length) 0=U.getD (j+V.length) 0-bo:=by rw[jk (by omega),if_pos rfl]
  simp(disch:=omega)only[go_sem,h1,e1,es]
  refine⟨by omega,by omega,by omega,by omega,by omega,by simp;omega,?_⟩
  simp(disch:=omega)only[go_sem,eg]
  refine qg [] [] [.own 1 (qc (U1.set (j+V.length) (U.getD (j+V.length) 0-bo)))] [.v (.bool (decide (U.getD (j+V.length) 0-bo<0)))] rfl (by simp(disch:=omega)only[go_sem]) (by simp(disch:=omega)only[go_sem]) (by simp) (by simp) ⟨U1,bo,rfl,rfl,rfl,hl1,hg1,hbo,hsame,hval⟩
theorem aeb(U V:List Int)(j:Nat)(hU:∀t,t≠j+V.length→0≤U.getD t 0∧U.getD t 0<65536)(hUt: -65536≤U.getD (j+V.length) 0∧U.getD (j+V.length) 0<65536)(hV:gd V)(lU:U.length≤2000000)(hj:j+V.length<U.length):
  Con Tryz.prog 291 false [.rf 10000000 0 U.length,.sl V.length (qc V),.v (.int .i64 j)] [.own 1 (qc U)]
   (fun r hs bs=>∃(U':List Int),r=.tu []∧hs=[]∧bs=[.own 1 (qc U')]∧
    U'.length=U.length∧(∀t,t≠j+V.length→0≤U'.getD t 0∧U'.getD t 0<65536)∧(∀t,t<j∨j+V.length<t→U'.getD t 0=U.getD t 0)∧vl U'=vl U+65536^j*vl V):=by
 refine Con.of_aw Tryz.func291 rfl Tryz.ntmps291 (by simp) (by simp) (by simp) (W.sound ?_)
 show @W Tryz.prog 46 ⟨_⟩ ⟨fun x σ=>@q6 _ _ _ ⟨_⟩ _ ⟨_⟩ x σ⟩ _ _
 simp(disch:=omega)only[go_sem]
 refine qh (fun x:Nat×List Int×Int=>[(0,.rf 10000000 0 U.length),(1,.sl V.length (qc V)),(2,.v (.int .i64 j)),(6,.v (.int .i64 x.2.2)),(9,.sl V.length (qc V)),(10,.v (.int .i64 V.length)),(11,.v (.int .i64 x.1))])
  (fun x=>[(10000000,.own 1 (qc x.2.1))])
  (fun x=>x.1≤V.length∧x.2.1.length=U.length∧(∀t,t≠j+V.length→0≤x.2.1.getD t 0∧x.2.1.getD t 0<65536)∧(0≤x.2.2∧x.2.2≤1)∧(∀t,t<j∨j+x.1≤t→x.2.1.getD t 0=U.getD t 0)∧vl x.2.1+65536^(j+x.1)*x.2.2=vl U+65536^j*vl (V.take x.1))
  (fun x=>V.length-x.1) (0,U,0) ⟨by simp,rfl,hU,by simp,fun _ _=>rfl,by simp[vl]⟩
  (Le.lst [] _ _ rfl (by simp(disch:=omega)only[go_sem];try omega) (by simp(disch:=omega)only[go_sem])) ?_
 rintro⟨i,U1,cy⟩ ⟨hi,hl1,hg1,hcy,hsame,hval⟩
 dsimp only at hi hl1 hg1 hcy hsame hval ⊢
 simp(disch:=omega)only[go_sem]
 refine qe (fun h1=>?_) (fun h1=>?_)
 ·have hx:=qH hV i
  have hu:=hg1 (j+i) (by omega)
  have e1:((j:Int)+(i:Int)).toNat=j+i:=by omega
  simp(disch:=omega)only[go_sem,h1,e1]
  generalize hb:cy+(U1.getD (j+i) 0+V.getD i 0)=b
  have hg2:∀t,t≠j+V.length→0≤(U1.set (j+i) (b % 65536)).getD t 0∧(U1.set (j+i) (b % 65536)).getD t 0<65536:=fun t ht=>by
   rw[jk (by omega)]
   split
   ·omega
   ·exact hg1 t ht
  refine⟨by omega,by omega,by omega,by omega,by omega,by omega,qb (i+1,U1.set (j+i) (b % 65536),b/65536) [] ⟨by show i+1≤_;omega,by simp[hl1],hg2,by show 0≤b/65536∧b/65536≤1;omega,fun t ht=>?_,?_⟩
   (by show V.length-(i+1)<V.length-i;omega) rfl (by simp(disch:=omega)only[go_sem];try omega) (by simp(disch:=omega)only[go_sem])⟩
  ·show(U1.set (j+i) (b % 65536)).getD t 0=_
   have ht:t<j∨j+(i+1)≤t:=ht
   rw[jk (by omega),if_neg (by omega)];exact hsame t (by omega)
  ·show vl (U1.set (j+i) (b % 65536))+65536^(j+(i+1))*(b/65536)=vl U+65536^j*vl (V.take (i+1))
   rw[QP (by omega),qO,←Nat.add_assoc,Int.pow_succ]
   have e3:(65536:Int)^(j+i)=65536^j*65536^i:=Int.pow_add _ _ _
   have e4:b % 65536+65536*(b/65536)=b:=Int.emod_add_mul_ediv b 65536
   rw[e3]at hval ⊢
   generalize (65536:Int)^i=Pi at*
   generalize (65536:Int)^j=Pj at*
   grind
 ·have hiA:i=V.length:=by omega
  subst hiA
  rw[List.take_length]at hval
  have e1:((j:Int)+(V.length:Int)).toNat=j+V.length:=by omega
  have es:=hsame (j+V.length) (by omega)
  simp(disch:=omega)only[go_sem,h1,e1,es]
  refine⟨by omega,by omega,by omega,by omega,?_⟩
  refine qg [] [] [.own 1 (qc (U1.set (j+V.length) (U.getD (j+V.length) 0+cy)))] [] rfl (by simp(disch:=omega)only[go_sem]) (by simp(disch:=omega)only[go_sem]) (by simp) (by simp) ⟨_,rfl,rfl,rfl,by simp[hl1],fun t ht=>?_,fun t ht=>?_,?_⟩
  ·rw[jk (by omega),if_neg ht];exact hg1 t ht
  ·rw[jk (by omega),if_neg (by omega)];exact hsame t (by omega)
  ·rw[QP (by omega),es]
   generalize (65536:Int)^(j+V.length)=Pj at*
   grind
end Go.Ab
namespace Go.Ab
open Go Go.Proofs
theorem jl(xs:List Int)(hl:xs.length≤2^40):Con Tryz.prog 254 false [.rf 10000000 0 xs.length] [.own 1 (qc xs)] (fun r hs bs=>r=.rf 10000000 0 (ZY xs).length∧hs=[]∧bs=[.own 1 (qc xs)]):=by
 refine Con.of_aw Tryz.func254 rfl Tryz.ntmps254 (by simp) (by simp) (by simp) (W.sound ?_)
 show @W Tryz.prog 21 ⟨_⟩ ⟨fun x σ=>@q6 _ _ _ ⟨_⟩ _ ⟨_⟩ x σ⟩ _ _
 simp(disch:=omega)only[go_sem]
 refine qh (fun m:Nat=>[(0,.rf 10000000 0 m)]) (fun _=>[(10000000,.own 1 (qc xs))]) (fun m=>m≤xs.length∧ZY (xs.take m)=ZY xs) id xs.length ⟨Nat.le_refl _,by simp⟩
  (Le.lst [] _ _ rfl (by simp(disch:=omega)only[go_sem];try omega) (by simp(disch:=omega)only[go_sem])) ?_
 intro m ⟨hm,hx⟩
 have hmx:∀k,k+1=m→xs.take m=xs.take k++[xs.getD k 0]:=fun k hk=>by rw[←hk];exact jE (by omega)
 simp(disch:=omega)only[go_sem]
 refine qe (fun h1=>?_) (fun h1=>?_)
 ·obtain⟨k,rfl⟩:∃k,m=k+1:=⟨m-1,by omega⟩
  have e1:((k+1:Nat):Int)-1=(k:Nat):=by omega
  rw[hmx k rfl]at hx
  simp(disch:=omega)only[go_sem,h1,e1]
  refine⟨by omega,by omega,qe (fun h2=>?_) (fun h2=>?_)⟩
  ·simp(disch:=omega)only[go_sem,h2,e1]
   rw[h2,Qp]at hx
   refine⟨by omega,qb k [] ⟨by omega,hx⟩ (by show k<k+1;omega) rfl (by simp(disch:=omega)only[go_sem];try omega) (by simp(disch:=omega)only[go_sem])⟩
  ·simp(disch:=omega)only[go_sem,h2]
   refine qg [] [] [.own 1 (qc xs)] [.rf 10000000 0 (k+1)] rfl (by simp(disch:=omega)only[go_sem]) (by simp(disch:=omega)only[go_sem]) (by simp) (by simp) ⟨?_,rfl,rfl⟩
   rw[YF _ h2,←hmx k rfl]at hx
   rw[←hx,List.length_take,Nat.min_eq_left hm];rfl
 ·simp(disch:=omega)only[go_sem,h1]
  refine qg [] [] [.own 1 (qc xs)] [.rf 10000000 0 m] rfl (by simp(disch:=omega)only[go_sem]) (by simp(disch:=omega)only[go_sem]) (by simp) (by simp) ⟨?_,rfl,rfl⟩
  have:m=0:=by omega
  subst this
  rw[←hx];rfl
end Go.Ab
namespace Go.Ab
open Go Go.Proofs
theorem ao3{x y:Int}(hx:0≤x∧x<65536)(hy:0≤y∧y<65536):0≤x*y∧x*y≤4294836225:=by
 have h1:=Int.mul_nonneg hx.1 hy.1
 have h2:x*y≤65535*65535:=Int.mul_le_mul (by omega) (by omega) hy.1 (by omega)
 omega
theorem ap6(cl:Bool)(A B:List Int)(hA:gd A)(hB:gd B)(lA:A.length≤1000000)(lB:B.length≤1000000):
  Con Tryz.prog 201 cl [.sl A.length (qc A),.sl B.length (qc B)] [] (arA (lim (vl A*vl B).toNat)):=by
 refine Con.of_aw Tryz.func201 rfl Tryz.ntmps201 (by simp) (by simp) (by simp) (W.sound ?_)
 show @W Tryz.prog 63 ⟨_⟩ ⟨fun x σ=>@q6 _ _ _ ⟨_⟩ _ ⟨_⟩ x σ⟩ _ _
 simp(disch:=omega)only[go_sem]
 refine⟨⟨by omega,by omega,by omega⟩,?_⟩
 refine qh (fun x:Nat×List Int=>[(1,.sl B.length (qc B)),(5,.rf 180000000 0 (A.length+B.length)),(17,.sl A.length (qc A)),(18,.v (.int .i64 A.length)),(19,.v (.int .i64 x.1))])
  (fun x=>[(180000000,.own 1 (qc x.2))])
  (fun x=>x.1≤A.length∧x.2.length=A.length+B.length∧gd x.2∧vl x.2=vl (A.take x.1)*vl B∧∀j,x.1+B.length≤j→x.2.getD j 0=0)
  (fun x=>A.length-x.1) (0,List.replicate (A.length+B.length) 0) ⟨by simp,by simp,zj _,by simp[zH,vl],fun j _=>by
   rw[List.getD_eq_getElem?_getD,List.getElem?_replicate];split<;>rfl⟩
  (Le.lst [] _ _ rfl (by simp(disch:=omega)only[go_sem];try omega) (by simp(disch:=omega)only[go_sem,show((A.length:Int)+(B.length:Int)).toNat=A.length+B.length by omega])) ?_
 rintro⟨i,out⟩ ⟨hi,hol,hog,hov,hoz⟩
 dsimp only at hi hol hog hov hoz ⊢
 simp(disch:=omega)only[go_sem]
 refine qe (fun h1=>?_) (fun h1=>?_)
 ·have hx:=qH hA i
  simp(disch:=omega)only[go_sem,h1]
  refine⟨by omega,by omega,?_⟩
  refine qh (fun x:Nat×List Int×Int=>[(1,.sl B.length (qc B)),(5,.rf 180000000 0 (A.length+B.length)),(17,.sl A.length (qc A)),(18,.v (.int .i64 A.length)),(19,.v (.int .i64 i)),(6,.v (.int .i64 i)),
    (7,.v (.int .i64 (A.getD i 0))),(8,.v (.int .i64 x.2.2)),(24,.sl B.length (qc B)),(25,.v (.int .i64 B.length)),(26,.v (.int .i64 x.1))])
   (fun x=>[(180000000,.own 1 (qc x.2.1))])
   (fun x=>x.1≤B.length∧x.2.1.length=A.length+B.length∧gd x.2.1∧(0≤x.2.2∧x.2.2<65536)∧vl x.2.1+65536^(i+x.1)*x.2.2=vl out+65536^i*(A.getD i 0*vl (B.take x.1))∧∀j,i+B.length≤j→x.2.1.getD j 0=0)
   (fun x=>B.length-x.1) (0,out,0) ⟨by simp,hol,hog,by simp,by simp[vl],hoz⟩
   (Le.lst [] _ _ rfl (by simp(disch:=omega)only[go_sem];try omega) (by simp(disch:=omega)only[go_sem])) ?_
  rintro⟨j,o2,cy⟩ ⟨hj,hol2,hog2,hcy,hov2,hoz2⟩
  dsimp only at hj hol2 hog2 hcy hov2 hoz2 ⊢
  simp(disch:=omega)only[go_sem]
  refine qe (fun h2=>?_) (fun h2=>?_)
  ·have hy:=qH hB j
   have ho:=qH hog2 (i+j)
   have hxy:=ao3 hx hy
   have e1:((i:Int)+(j:Int)).toNat=i+j:=by omega
   simp(disch:=omega)only[go_sem,h2,e1]
   generalize hq:cy+(o2.getD (i+j) 0+A.getD i 0*B.getD j 0)=q
   refine⟨by omega,by omega,by omega,by omega,by omega,by omega,qb (j+1,o2.set (i+j) (q % 65536),q/65536) [] ⟨by show j+1≤_;omega,by simp[hol2],yL hog2 (by omega),by show 0≤q/65536∧q/65536<65536;omega,?_,fun k hk=>?_⟩
    (by show B.length-(j+1)<B.length-j;omega) rfl (by simp(disch:=omega)only[go_sem];try omega) (by simp(disch:=omega)only[go_sem])⟩
   ·show vl (o2.set (i+j) (q % 65536))+65536^(i+(j+1))*(q/65536)=vl out+65536^i*(A.getD i 0*vl (B.take (j+1)))
    rw[QP (by omega),ja (by omega),←Nat.add_assoc,Int.pow_succ]
    have e2:(65536:Int)^(i+j)=65536^i*65536^j:=Int.pow_add _ _ _
    have e3:q % 65536+65536*(q/65536)=q:=Int.emod_add_mul_ediv q 65536
    rw[e2]at hov2 ⊢
    generalize (65536:Int)^i=Pi at*
    generalize (65536:Int)^j=Pj at*
    grind
   ·show(o2.set (i+j) (q % 65536)).getD k 0=0
    rw[List.getD_eq_getElem?_getD,List.getElem?_set_ne (by omega),←List.getD_eq_getElem?_getD]
    exact hoz2 k hk
  ·simp(disch:=omega)only[go_sem,h2]
   have e1:((i:Int)+(B.length:Int)).toNat=i+B.length:=by omega
   have hjB:j=B.length:=by omega
   subst hjB
   rw[List.take_length]at hov2
   simp(disch:=omega)only[go_sem,e1]
   refine⟨by omega,by omega,qb (i+1,o2.set (i+B.length) cy) [] ⟨by show i+1≤_;omega,by simp[hol2],yL hog2 hcy,?_,fun k hk=>?_⟩ (by show A.length-(i+1)<A.length-i;omega) rfl (by simp(disch:=omega)only[go_sem];try omega) (by simp(disch:=omega)only[go_sem])⟩
   ·show vl (o2.set (i+B.length) cy)=vl (A.take (i+1))*vl B
    rw[QP (by omega),hoz2 _ (Nat.le_refl _),ja (by omega)]
    generalize (65536:Int)^i=Pi at*
    grind
   ·show(o2.set (i+B.length) cy).getD k 0=0
    rw[List.getD_eq_getElem?_getD,List.getElem?_set_ne (by show i+B.length≠k;omega),←List.getD_eq_getElem?_getD]
    exact hoz2 k (by omega)
 ·simp(disch:=omega)only[go_sem,h1]
  have hiA:i=A.length:=by omega
  subst hiA
  rw[List.take_length]at hov
  refine q9 false [180000000] (jl out (by omega)) (by rw[←hol];simp(disch:=omega)only[go_sem]) (by simp(disch:=omega)only[go_sem]) rfl (qN (z:=1) (cs:=qc out) (by simp(disch:=omega)only[go_sem]) (by simp(disch:=omega)only[go_sem])) (by intro n hn;exact⟨_,List.mem_singleton.2 rfl,by rw[List.mem_singleton.1 hn];rfl⟩) ?_
  rintro r hs bs ⟨rfl,rfl,rfl⟩ _
  refine⟨by simp[qM],?_⟩
  simp(disch:=omega)only[go_sem]
  obtain⟨z,hz⟩:=zF out
  have hc:=z7 hog
  rw[hov]at hc
  rw[hc]at hz ⊢
  refine qg [(0,180000000)] [.own 1 (qc out)] [] [.rf 0 0 (lim (vl A*vl B).toNat).length] rfl (by simp(disch:=omega)only[go_sem]) (by simp(disch:=omega)only[go_sem]) (by simp) (by intro _;simp[zf,AV.pu,AV.pu.puL,Ob.pu,qW]) (.inr ⟨List.replicate z 0,rfl,by rw[←hz]⟩)
end Go.Ab
namespace Go.Ab
open Go Go.Proofs
theorem aqa(cl:Bool)(n:Nat)(hn:n<2^63):Con Tryz.prog 216 cl [.v (.int .i64 n)] [] (arA (lim n)):=by
 refine Con.of_aw Tryz.func216 rfl Tryz.ntmps216 (by simp) (by simp) (by simp) (W.sound ?_)
 show @W Tryz.prog 14 ⟨_⟩ ⟨fun x σ=>@q6 _ _ _ ⟨_⟩ _ ⟨_⟩ x σ⟩ _ _
 simp(disch:=omega)only[go_sem]
 refine qh (fun x:Nat×List Int=>[(0,.v (.int .i64 x.1)),(3,.rf 1 0 x.2.length)]) (fun x=>[(1,.own 1 (qc x.2))]) (fun x=>x.1<2^63∧x.2++lim x.1=lim n) (fun x=>x.1) (n,[]) ⟨hn,rfl⟩
  ((Le.ghost 3 1 1 (by simp(disch:=omega)only[go_sem]) (by simp(disch:=omega)only[go_sem])).trans (Le.lst [] _ _ rfl (by simp(disch:=omega)only[go_sem]) (by simp(disch:=omega)only[go_sem]))) ?_
 rintro⟨k,l⟩ ⟨hk,hl⟩
 dsimp only at hk hl ⊢
 have hlen:l.length≤4:=by
  have h1:=congrArg List.length hl
  have h2:=jz (n:=n) (k:=4) |>.2 (by omega)
  rw[List.length_append]at h1;omega
 simp(disch:=omega)only[go_sem]
 refine qe (fun h1=>?_) (fun h1=>?_)
 ·simp(disch:=omega)only[go_sem,h1]
  have hk0:k≠0:=by omega
  refine⟨by omega,qb (k/65536,l++[(k:Int) % 65536]) [(1,140000000)] ⟨by show k/65536<2^63;omega,?_⟩ (by show k/65536<k;omega) rfl (by simp(disch:=omega)only[go_sem,List.length_append];omega) (by simp(disch:=omega)only[go_sem])⟩
  rw[jX hk0]at hl
  rw[←hl,List.append_assoc];rfl
 ·simp(disch:=omega)only[go_sem,h1]
  have hk0:k=0:=by omega
  subst hk0
  rw[qm,List.append_nil]at hl
  subst hl
  refine qg [(0,1)] [.own 1 (qc (lim n++[]))] [] [.rf 0 0 (lim n).length] rfl (by simp(disch:=omega)only[go_sem]) (by simp(disch:=omega)only[go_sem]) (by simp) (by intro _;simp[zf,AV.pu,AV.pu.puL,Ob.pu,qW]) (.inr ⟨[],rfl,rfl⟩)
end Go.Ab
namespace Go.Ab
open Go Go.Proofs
theorem yf(k:Nat)(h:k<16):(0:Int)<2^k∧(2:Int)^k≤32768:=by
 have:∀k,k<16→(0:Int)<2^k∧(2:Int)^k≤32768:=by decide
 exact this k h
theorem ao2{x:Int}(hx:0≤x∧x<65536){k:Nat}(hk:k<16):0≤x*2^k∧x*2^k≤2147450880:=by
 obtain⟨h1,h2⟩:=yf k hk
 have h3:=Int.mul_nonneg hx.1 (Int.le_of_lt h1)
 have h4:x*2^k≤65535*32768:=Int.mul_le_mul (by omega) h2 (by omega) (by omega)
 omega
theorem KD(k:Nat):(65536:Int)^(k/16)*2^(k % 16)=2^k:=by
 have e:(65536:Int)=2^16:=by decide
 rw[e,←Int.pow_mul,←Int.pow_add,Nat.div_add_mod]
theorem aTa(cl:Bool)(A:List Int)(k:Nat)(hA:gd A)(lA:A.length≤1000000)(hk:k≤100000000):
  Con Tryz.prog 244 cl [.sl A.length (qc A),.v (.int .i64 k)] [] (arA (lim (vl A*2^k).toNat)):=by
 refine Con.of_aw Tryz.func244 rfl Tryz.ntmps244 (by simp) (by simp) (by simp) (W.sound ?_)
 show @W Tryz.prog 46 ⟨_⟩ ⟨fun x σ=>@q6 _ _ _ ⟨_⟩ _ ⟨_⟩ x σ⟩ _ _
 simp(disch:=omega)only[go_sem]
 refine qe (fun h0=>?_) (fun h0=>?_)
 ·simp(disch:=omega)only[go_sem,h0]
  have:A=[]:=List.length_eq_zero_iff.1 (by omega)
  subst this
  refine qg [] [] [] [.v (.slice none 0 0)] rfl (by simp(disch:=omega)only[go_sem]) (by simp(disch:=omega)only[go_sem]) (by simp) (by intro _;simp[zf,AV.pu,AV.pu.puL,Ob.pu,qW]) (.inl ⟨by simp[vl,qm],rfl,rfl⟩)
 ·simp(disch:=omega)only[go_sem,h0]
  refine⟨by omega,?_⟩
  have e16:((k:Int)/16).toNat=k/16:=by omega
  refine qh (fun x:Nat×List Int×Int=>[(1,.v (.int .i64 k)),(5,.rf 1 0 x.2.1.length),(6,.v (.int .i64 x.2.2)),(21,.sl A.length (qc A)),(22,.v (.int .i64 A.length)),(23,.v (.int .i64 x.1))])
   (fun x=>[(1,.own 1 (qc x.2.1))])
   (fun x=>x.1≤A.length∧x.2.1.length=k/16+x.1∧gd x.2.1∧(0≤x.2.2∧x.2.2<65536)∧vl x.2.1+65536^(k/16+x.1)*x.2.2=65536^(k/16)*2^(k % 16)*vl (A.take x.1))
   (fun x=>A.length-x.1) (0,List.replicate (k/16) 0,0) ⟨by simp,by simp,zj _,by simp,by simp[vl,zH]⟩
   (Le.lst [(1,220000000)] _ _ rfl (by simp(disch:=omega)only[go_sem,List.length_replicate,e16]) (by simp(disch:=omega)only[go_sem,e16])) ?_
  rintro⟨i,out,cy⟩ ⟨hi,hol,hog,hcy,hov⟩
  dsimp only at hi hol hog hcy hov ⊢
  simp(disch:=omega)only[go_sem]
  refine qe (fun h1=>?_) (fun h1=>?_)
  ·have hx:=qH hA i
   have hxs:=ao2 hx (show k % 16<16 by omega)
   have em:min ((k:Int) % 16).toNat 64=k % 16:=by omega
   simp(disch:=omega)only[go_sem,h1,em]
   generalize hq:cy+A.getD i 0*2^(k % 16)=q
   refine⟨by omega,by omega,by omega,by omega,qb (i+1,out++[q % 65536],q/65536) [(1,390000000)] ⟨by show i+1≤_;omega,by simp[hol];omega,qD.2 ⟨hog,zN.2 (by omega)⟩,by show 0≤q/65536∧q/65536<65536;omega,?_⟩ (by show A.length-(i+1)<A.length-i;omega) rfl (by simp(disch:=omega)only[go_sem,List.length_append];try omega) (by simp(disch:=omega)only[go_sem])⟩
   show vl (out++[q % 65536])+65536^(k/16+(i+1))*(q/65536)=65536^(k/16)*2^(k % 16)*vl (A.take (i+1))
   rw[jo,qO,hol,←Nat.add_assoc,Int.pow_succ]
   have e3:q % 65536+65536*(q/65536)=q:=Int.emod_add_mul_ediv q 65536
   rw[Int.pow_add]at hov ⊢
   generalize (65536:Int)^i=Pi at*
   generalize (65536:Int)^(k/16)=Pk at*
   generalize (2:Int)^(k % 16)=Pm at*
   grind
  ·simp(disch:=omega)only[go_sem,h1]
   have hiA:i=A.length:=by omega
   subst hiA
   rw[List.take_length,KD]at hov
   have hov2:vl (out++[cy])=vl A*2^k:=by rw[jo,hol,hov];grind
   have hog2:gd (out++[cy]):=qD.2 ⟨hog,zN.2 hcy⟩
   refine⟨by omega,?_⟩
   have hl2:out.length+1=(out++[cy]).length:=by simp
   rw[hl2]
   refine q9 false [460000000] (jl (out++[cy]) (by simp;omega)) (by simp(disch:=omega)only[go_sem]) (by simp(disch:=omega)only[go_sem]) rfl (qN (z:=1) (cs:=qc (out++[cy])) (by simp(disch:=omega)only[go_sem]) (by simp(disch:=omega)only[go_sem])) (by intro n hn;exact⟨_,List.mem_singleton.2 rfl,by rw[List.mem_singleton.1 hn];rfl⟩) ?_
   rintro r hs bs ⟨rfl,rfl,rfl⟩ _
   refine⟨by simp[qM],?_⟩
   simp(disch:=omega)only[go_sem]
   obtain⟨z,hz⟩:=zF (out++[cy])
   have hc:=z7 hog2
   rw[hov2]at hc
   rw[hc]at hz ⊢
   refine qg [(0,460000000)] [.own 1 (qc (out++[cy]))] [] [.rf 0 0 (lim (vl A*2^k).toNat).length] rfl (by simp(disch:=omega)only[go_sem]) (by simp(disch:=omega)only[go_sem]) (by simp) (by intro _;simp[zf,AV.pu,AV.pu.puL,Ob.pu,qW]) (.inr ⟨List.replicate z 0,rfl,by rw[←hz]⟩)
end Go.Ab
namespace Go.Ab
open Go Go.Proofs
theorem aBM(V P:Int)(hP:0<P):V % (P*65536)=V % P+P*(V/P % 65536):=by
 rw[Int.emod_def,Int.emod_def,Int.emod_def,←Int.ediv_ediv_of_nonneg (Int.le_of_lt hP)]
 grind
theorem aBe{s:Nat}(hs:s<16):(65536:Int)=2^s*2^(16-s):=by
 rw[←Int.pow_add,show s+(16-s)=16 by omega];decide
theorem ajr{D:List Int}(hD:gd D){i s:Nat}(hi:i<D.length)(hs:s<16):
  (vl D/2^s)/65536^i % 65536=(D.getD i 0+D.getD (i+1) 0*65536)/2^s % 65536:=by
 have h2:=(yf s hs).1
 rw[Int.ediv_ediv_of_nonneg (Int.le_of_lt h2),Int.mul_comm,←Int.ediv_ediv_of_nonneg (Int.le_of_lt (Int.pow_pos (by omega))),aet hD (by omega),zy hi]
 have h3:vl (D.drop (i+1))=D.getD (i+1) 0+65536*vl (D.drop (i+2)):=by
  rcases Nat.lt_or_ge (i+1) D.length with h|h
  ·exact zy h
  ·rw[List.drop_of_length_le h,List.drop_of_length_le (by omega),List.getD_eq_getElem?_getD,List.getElem?_eq_none h];simp[vl]
 rw[h3]
 have e:D.getD i 0+65536*(D.getD (i+1) 0+65536*vl (D.drop (i+2)))=(D.getD i 0+D.getD (i+1) 0*65536)+2^s*(65536*(2^(16-s)*vl (D.drop (i+2)))):=by
  have:=aBe hs
  generalize (2:Int)^s=a at*
  generalize (2:Int)^(16-s)=b at*
  grind
 rw[e,Int.add_mul_ediv_left _ _ (by omega),Int.add_mul_emod_self_left]
theorem aoL{a b:Nat}(h:a≤b):(65536:Int)^a≤65536^b:=by
 obtain⟨d,rfl⟩:=Nat.exists_eq_add_of_le h
 have h1:(0:Int)<65536^a:=Int.pow_pos (by omega)
 have h2:(0:Int)<65536^d:=Int.pow_pos (by omega)
 have h3:=Int.mul_le_mul_of_nonneg_left (show(1:Int)≤65536^d by omega) (Int.le_of_lt h1)
 rw[Int.mul_one,←Int.pow_add]at h3
 exact h3
theorem aC8(cl:Bool)(A:List Int)(k:Nat)(hA:gd A)(lA:A.length≤1000000)(hk:k≤100000000):
  Con Tryz.prog 235 cl [.sl A.length (qc A),.v (.int .i64 k)] [] (arA (lim (vl A/2^k).toNat)):=by
 refine Con.of_aw Tryz.func235 rfl Tryz.ntmps235 (by simp) (by simp) (by simp) (W.sound ?_)
 show @W Tryz.prog 52 ⟨_⟩ ⟨fun x σ=>@q6 _ _ _ ⟨_⟩ _ ⟨_⟩ x σ⟩ _ _
 have hvk:vl A/2^k=vl A/65536^(k/16)/2^(k % 16):=by
  rw[Int.ediv_ediv_of_nonneg (Int.le_of_lt (Int.pow_pos (by omega))),KD]
 simp(disch:=omega)only[go_sem]
 refine qe (fun h0=>?_) (fun h0=>?_)
 ·simp(disch:=omega)only[go_sem,h0]
  have hz:vl A/2^k=0:=by
   rw[hvk,Int.ediv_eq_zero_of_lt (qR hA)]
   ·simp
   ·refine Int.lt_of_lt_of_le (Qu hA) ?_
    exact aoL (by omega)
  rw[hz]
  refine qg [] [] [] [.v (.slice none 0 0)] rfl (by simp(disch:=omega)only[go_sem]) (by simp(disch:=omega)only[go_sem]) (by simp) (by intro _;simp[zf,AV.pu,AV.pu.puL,Ob.pu,qW]) (.inl ⟨by simp[qm],rfl,rfl⟩)
 ·have e16:((k:Int)/16).toNat=k/16:=by omega
  have e17:((A.length:Int)-(k:Int)/16).toNat=(A.drop (k/16)).length:=by simp;omega
  have e18:(A.drop (k/16)).take (A.drop (k/16)).length=A.drop (k/16):=List.take_length
  have hvD:=aet hA (i:=k/16) (by omega)
  have hlD:(A.drop (k/16)).length≤1000000:=by simp;omega
  have hD:=yj hA (k/16)
  simp(disch:=omega)only[go_sem,h0,e16,e17,e18]
  generalize A.drop (k/16)=D at*
  refine⟨by omega,by omega,?_⟩
  refine qh (fun x:Nat×List Int=>[(1,.v (.int .i64 k)),(5,.sl D.length (qc D)),(6,.rf 1 0 x.2.length),(21,.sl D.length (qc D)),(22,.v (.int .i64 D.length)),(23,.v (.int .i64 x.1))])
   (fun x=>[(1,.own 1 (qc x.2))])
   (fun x=>x.1≤D.length∧x.2.length=x.1∧gd x.2∧vl x.2=vl D/2^(k % 16) % 65536^x.1)
   (fun x=>D.length-x.1) (0,[]) ⟨by simp,rfl,ZQ,by simp[vl]⟩
   (Le.lst [(1,220000000)] _ _ rfl (by simp(disch:=omega)only[go_sem]) (by simp(disch:=omega)only[go_sem])) ?_
  rintro⟨i,out⟩ ⟨hi,hol,hog,hov⟩
  dsimp only at hi hol hog hov ⊢
  simp(disch:=omega)only[go_sem]
  refine qe (fun h1=>?_) (fun h1=>?_)
  ·have hx:=qH hD i
   have hy:=qH hD (i+1)
   have em:min ((k:Int) % 16).toNat 64=k % 16:=by omega
   have hm:=yf (k % 16) (by omega)
   have efd:∀x:Int,x.fdiv (2^(k % 16))=x/2^(k % 16):=fun x=>Int.fdiv_eq_ediv_of_nonneg _ (Int.le_of_lt hm.1)
   have hdig:=ajr hD (i:=i) (s:=k % 16) (by omega) (by omega)
   have hnn:∀x:Int,0≤x→0≤x/2^(k % 16):=fun x hx=>Int.ediv_nonneg hx (Int.le_of_lt hm.1)
   have ei:((i:Int)+1).toNat=i+1:=by omega
   have hstep:∀z:Int,z=(D.getD i 0+D.getD (i+1) 0*65536)/2^(k % 16) % 65536→vl (out++[z])=vl D/2^(k % 16) % 65536^(i+1):=by
    intro z hz
    rw[jo,hov,hol,Int.pow_succ,aBM _ _ (Int.pow_pos (by omega)),hdig,hz]
   simp(disch:=omega)only[go_sem,h1]
   refine⟨by omega,by omega,qe (fun h2=>?_) (fun h2=>?_)⟩
   ·have hn1:=hnn (D.getD i 0+D.getD (i+1) 0*65536) (by omega)
    simp(disch:=omega)only[go_sem,h2,em,efd,ei]
    refine⟨by omega,by omega,by omega,by omega,qb (i+1,out++[(D.getD i 0+D.getD (i+1) 0*65536)/2^(k % 16) % 65536]) [(1,500000000)] ⟨by show i+1≤_;omega,by simp[hol],qD.2 ⟨hog,zN.2 (by omega)⟩,hstep _ rfl⟩ (by show D.length-(i+1)<D.length-i;omega) rfl (by simp(disch:=omega)only[go_sem,List.length_append];try omega) (by simp(disch:=omega)only[go_sem])⟩
   ·have hn1:=hnn (D.getD i 0) (by omega)
    simp(disch:=omega)only[go_sem,h2,em,efd]
    have hy0:D.getD (i+1) 0=0:=by rw[List.getD_eq_getElem?_getD,List.getElem?_eq_none (by omega)];rfl
    refine⟨by omega,by omega,qb (i+1,out++[D.getD i 0/2^(k % 16) % 65536]) [(1,500000000)] ⟨by show i+1≤_;omega,by simp[hol],qD.2 ⟨hog,zN.2 (by omega)⟩,hstep _ (by rw[hy0];simp)⟩ (by show D.length-(i+1)<D.length-i;omega) rfl (by simp(disch:=omega)only[go_sem,List.length_append];try omega) (by simp(disch:=omega)only[go_sem])⟩
  ·simp(disch:=omega)only[go_sem,h1]
   have hiD:i=D.length:=by omega
   subst hiD
   have hV:vl out=vl A/2^k:=by
    rw[hov,hvk,hvD]
    refine Int.emod_eq_of_lt (Int.ediv_nonneg (qR hD) (Int.le_of_lt (yf (k % 16) (by omega)).1)) ?_
    exact Int.lt_of_le_of_lt (Int.ediv_le_self _ (qR hD)) (Qu hD)
   refine q9 false [1] (jl out (by omega)) (by simp(disch:=omega)only[go_sem]) (by simp(disch:=omega)only[go_sem]) rfl (qN (z:=1) (cs:=qc out) (by simp(disch:=omega)only[go_sem]) (by simp(disch:=omega)only[go_sem])) (by intro n hn;exact⟨_,List.mem_singleton.2 rfl,by rw[List.mem_singleton.1 hn];rfl⟩) ?_
   rintro r hs bs ⟨rfl,rfl,rfl⟩ _
   refine⟨by simp[qM],?_⟩
   simp(disch:=omega)only[go_sem]
   obtain⟨z,hz⟩:=zF out
   have hc:=z7 hog
   rw[hV]at hc
   rw[hc]at hz ⊢
   refine qg [(0,1)] [.own 1 (qc out)] [] [.rf 0 0 (lim (vl A/2^k).toNat).length] rfl (by simp(disch:=omega)only[go_sem]) (by simp(disch:=omega)only[go_sem]) (by simp) (by intro _;simp[zf,AV.pu,AV.pu.puL,Ob.pu,qW]) (.inr ⟨List.replicate z 0,rfl,by rw[←hz]⟩)
end Go.Ab
namespace Go.Ab
open Go Go.Proofs
theorem drop_set{l:List Int}{i:Nat}(h:i<l.length)(z:Int):(l.set i z).drop i=z::l.drop (i+1):=by
 rw[List.drop_eq_getElem_cons (by simpa using h)]
 simp[List.drop_set]
theorem aC9(cl:Bool)(A:List Int)(d:Nat)(hA:gd A)(lA:A.length≤1000000)(hd:0<d)(hd2:d<65536):
  Con Tryz.prog 288 cl [.sl A.length (qc A),.v (.int .i64 d)] [] (fun r hs bs=>∃zs,r=.tu [.rf 0 0 (lim (vl A/d).toNat).length,.v (.int .i64 (vl A % d))]∧hs=[.own 1 (qc (lim (vl A/d).toNat++zs))]):=by
 refine Con.of_aw Tryz.func288 rfl Tryz.ntmps288 (by simp) (by simp) (by simp) (W.sound ?_)
 show @W Tryz.prog 38 ⟨_⟩ ⟨fun x σ=>@q6 _ _ _ ⟨_⟩ _ ⟨_⟩ x σ⟩ _ _
 simp(disch:=omega)only[go_sem]
 refine⟨by omega,?_⟩
 refine qh (fun x:Nat×List Int×Int=>[(0,.sl A.length (qc A)),(1,.v (.int .i64 d)),(6,.rf 130000000 0 A.length),(7,.v (.int .i64 x.2.2)),(8,.v (.int .i64 ((x.1:Int)-1)))])
  (fun x=>[(130000000,.own 1 (qc x.2.1))])
  (fun x=>x.1≤A.length∧x.2.1.length=A.length∧gd x.2.1∧x.2.2=vl (A.drop x.1) % d∧vl (x.2.1.drop x.1)=vl (A.drop x.1)/d)
  (fun x=>x.1) (A.length,List.replicate A.length 0,0) ⟨by simp,by simp,zj _,by simp[vl],by simp[vl]⟩
  (Le.lst [] _ _ rfl (by simp(disch:=omega)only[go_sem];try omega) (by simp(disch:=omega)only[go_sem])) ?_
 rintro⟨m,out,rest⟩ ⟨hm,hol,hog,hr,hov⟩
 dsimp only at hm hol hog hr hov ⊢
 simp(disch:=omega)only[go_sem]
 refine qe (fun h1=>?_) (fun h1=>?_)
 ·obtain⟨i,rfl⟩:∃i,m=i+1:=⟨m-1,by omega⟩
  have e1:((i+1:Nat):Int)-1=(i:Nat):=by omega
  have hx:=qH hA i
  have hr2:0≤rest∧rest<d:=by rw[hr];exact⟨Int.emod_nonneg _ (by omega),Int.emod_lt_of_pos _ (by omega)⟩
  generalize hq:rest*65536+A.getD i 0=q
  have hq0:0≤q:=by omega
  have hqd:0≤q/d∧q/d<65536:=⟨Int.ediv_nonneg hq0 (by omega),Int.ediv_lt_of_lt_mul (by omega) (by omega)⟩
  have hqm:0≤q % d∧q % d<d:=⟨Int.emod_nonneg _ (by omega),Int.emod_lt_of_pos _ (by omega)⟩
  simp(disch:=omega)only[go_sem,h1,e1,hq]
  refine⟨by omega,by omega,by omega,by omega,by omega,by omega,qb (i,out.set i (q/d),q % d) [] ⟨by show i≤_;omega,by simp[hol],yL hog hqd,?_,?_⟩ (by show i<i+1;omega) rfl (by simp(disch:=omega)only[go_sem]) (by simp(disch:=omega)only[go_sem])⟩
  ·show q % d=vl (A.drop i) % d
   rw[zy (l:=A) (i:=i) (by omega),←hq,hr]
   have h3:=Int.emod_add_mul_ediv (vl (A.drop (i+1))) d
   rw[show A.getD i 0+65536*vl (A.drop (i+1))=vl (A.drop (i+1)) % d*65536+A.getD i 0+d*(65536*(vl (A.drop (i+1))/d)) by grind,Int.add_mul_emod_self_left]
  ·show vl ((out.set i (q/d)).drop i)=vl (A.drop i)/d
   rw[drop_set (by omega),vl,hov,zy (l:=A) (i:=i) (by omega),←hq,hr]
   have h3:=Int.emod_add_mul_ediv (vl (A.drop (i+1))) d
   rw[show A.getD i 0+65536*vl (A.drop (i+1))=vl (A.drop (i+1)) % d*65536+A.getD i 0+d*(65536*(vl (A.drop (i+1))/d)) by grind,Int.add_mul_ediv_left _ _ (by omega)]
 ·simp(disch:=omega)only[go_sem,h1]
  have:m=0:=by omega
  subst this
  rw[List.drop_zero,List.drop_zero]at hov
  rw[List.drop_zero]at hr
  rw[←hol]
  refine q9 false [130000000] (jl out (by omega)) (by simp(disch:=omega)only[go_sem]) (by simp(disch:=omega)only[go_sem]) rfl (qN (z:=1) (cs:=qc out) (by simp(disch:=omega)only[go_sem]) (by simp(disch:=omega)only[go_sem])) (by intro n hn;exact⟨_,List.mem_singleton.2 rfl,by rw[List.mem_singleton.1 hn];rfl⟩) ?_
  rintro r hs bs ⟨rfl,rfl,rfl⟩ _
  refine⟨by simp[qM],?_⟩
  simp(disch:=omega)only[go_sem]
  obtain⟨z,hz⟩:=zF out
  have hc:=z7 hog
  rw[hov]at hc
  rw[hc]at hz ⊢
  rw[hr]
  refine qg [(0,130000000)] [.own 1 (qc out)] [] [.rf 0 0 (lim (vl A/d).toNat).length,.v (.int .i64 (vl A % d))] rfl (by simp(disch:=omega)only[go_sem]) (by simp(disch:=omega)only[go_sem]) (by simp) (by intro _;simp[zf,AV.pu,AV.pu.puL,Ob.pu,qW]) ⟨List.replicate z 0,rfl,by rw[←hz]⟩
end Go.Ab
namespace Go.Ab
open Go Go.Proofs
theorem aCX(cl:Bool)(A B:List Int)(hA:gd A)(hB:gd B)(lA:A.length≤2000000)(lB:B.length≤2000000):
  Con Tryz.prog 249 cl [.sl A.length (qc A),.sl B.length (qc B)] [] (arA (lim (vl A+vl B).toNat)):=by
 refine Con.of_aw Tryz.func249 rfl Tryz.ntmps249 (by simp) (by simp) (by simp) (W.sound ?_)
 show @W Tryz.prog 53 ⟨_⟩ ⟨fun x σ=>@q6 _ _ _ ⟨_⟩ _ ⟨_⟩ x σ⟩ _ _
 simp(disch:=omega)only[go_sem]
 refine qe (fun h0=>?_) (fun h0=>?_)
 all_goals simp(disch:=omega)only[go_sem,h0]
 ·revert A B
  intro Y X hY hX lY lX h0'
  have h00:Y.length≤X.length:=by omega
  have hcm:vl Y+vl X=vl X+vl Y:=Int.add_comm _ _
  refine⟨by omega,?_⟩
  refine qh (fun x:Nat×List Int×Int=>[(1,.sl Y.length (qc Y)),(5,.rf 1 0 x.2.1.length),(6,.v (.int .i64 x.2.2)),(20,.sl X.length (qc X)),(21,.v (.int .i64 X.length)),(22,.v (.int .i64 x.1))])
   (fun x=>[(1,.own 1 (qc x.2.1))])
   (fun x=>x.1≤X.length∧x.2.1.length=x.1∧gd x.2.1∧(0≤x.2.2∧x.2.2≤1)∧vl x.2.1+65536^x.1*x.2.2=vl (X.take x.1)+vl (Y.take x.1))
   (fun x=>X.length-x.1) (0,[],0) ⟨by simp,rfl,ZQ,by simp,by simp[vl]⟩
   (Le.lst [(1,210000000)] _ _ rfl (by simp(disch:=omega)only[go_sem]) (by simp(disch:=omega)only[go_sem])) ?_
  rintro⟨i,out,cy⟩ ⟨hi,hol,hog,hcy,hov⟩
  dsimp only at hi hol hog hcy hov ⊢
  simp(disch:=omega)only[go_sem]
  refine qe (fun h1=>?_) (fun h1=>?_)
  ·have hx:=qH hX i
   have hy:=qH hY i
   have hstep:∀q:Int,q=cy+X.getD i 0+Y.getD i 0→vl (out++[q % 65536])+65536^(i+1)*(q/65536)=vl (X.take (i+1))+vl (Y.take (i+1)):=by
    intro q hq
    rw[jo,qO,qO,hol,Int.pow_succ]
    have e3:q % 65536+65536*(q/65536)=q:=Int.emod_add_mul_ediv q 65536
    generalize (65536:Int)^i=Pi at*
    grind
   have hyz:¬i<Y.length→Y.getD i 0=0:=fun h=>by rw[List.getD_eq_getElem?_getD,List.getElem?_eq_none (by omega)];rfl
   simp(disch:=omega)only[go_sem,h1]
   refine⟨by omega,by omega,qe (fun h2=>?_) (fun h2=>?_)⟩
   ·simp(disch:=omega)only[go_sem,h2]
    generalize hq:cy+X.getD i 0+Y.getD i 0=q
    refine⟨by omega,by omega,by omega,qb (i+1,out++[q % 65536],q/65536) [(1,460000000)] ⟨by show i+1≤_;omega,by simp[hol],qD.2 ⟨hog,zN.2 (by omega)⟩,by show 0≤q/65536∧q/65536≤1;omega,hstep q hq.symm⟩ (by show X.length-(i+1)<X.length-i;omega) rfl (by simp(disch:=omega)only[go_sem,List.length_append];try omega) (by simp(disch:=omega)only[go_sem])⟩
   ·simp(disch:=omega)only[go_sem,h2]
    have hy0:=hyz (by omega)
    generalize hq:cy+X.getD i 0=q
    refine⟨by omega,qb (i+1,out++[q % 65536],q/65536) [(1,460000000)] ⟨by show i+1≤_;omega,by simp[hol],qD.2 ⟨hog,zN.2 (by omega)⟩,by show 0≤q/65536∧q/65536≤1;omega,hstep q (by omega)⟩ (by show X.length-(i+1)<X.length-i;omega) rfl (by simp(disch:=omega)only[go_sem,List.length_append];try omega) (by simp(disch:=omega)only[go_sem])⟩
  ·simp(disch:=omega)only[go_sem,h1]
   have hiA:i=X.length:=by omega
   subst hiA
   rw[List.take_length,List.take_of_length_le h00]at hov
   have hov2:vl (out++[cy])=vl X+vl Y:=by rw[jo,hol];exact hov
   have hog2:gd (out++[cy]):=qD.2 ⟨hog,zN.2 (by omega)⟩
   refine⟨by omega,?_⟩
   have hl2:out.length+1=(out++[cy]).length:=by simp
   rw[hl2]
   refine q9 false [530000000] (jl (out++[cy]) (by simp;omega)) (by simp(disch:=omega)only[go_sem]) (by simp(disch:=omega)only[go_sem]) rfl (qN (z:=1) (cs:=qc (out++[cy])) (by simp(disch:=omega)only[go_sem]) (by simp(disch:=omega)only[go_sem])) (by intro n hn;exact⟨_,List.mem_singleton.2 rfl,by rw[List.mem_singleton.1 hn];rfl⟩) ?_
   rintro r hs bs ⟨rfl,rfl,rfl⟩ _
   refine⟨by simp[qM],?_⟩
   simp(disch:=omega)only[go_sem]
   obtain⟨z,hz⟩:=zF (out++[cy])
   have hc:=z7 hog2
   rw[hov2]at hc
   rw[hc]at hz ⊢
   refine qg [(0,530000000)] [.own 1 (qc (out++[cy]))] [] [.rf 0 0 (lim (vl X+vl Y).toNat).length] rfl (by simp(disch:=omega)only[go_sem]) (by simp(disch:=omega)only[go_sem]) (by simp) (by intro _;simp[zf,AV.pu,AV.pu.puL,Ob.pu,qW]) (.inr ⟨List.replicate z 0,by rw[hcm];rfl,by rw[hcm,←hz]⟩)
 ·revert A B
  intro X Y hX hY lX lY h0'
  have h00:Y.length≤X.length:=by omega
  have hcm:vl X+vl Y=vl X+vl Y:=rfl
  refine⟨by omega,?_⟩
  refine qh (fun x:Nat×List Int×Int=>[(1,.sl Y.length (qc Y)),(5,.rf 1 0 x.2.1.length),(6,.v (.int .i64 x.2.2)),(20,.sl X.length (qc X)),(21,.v (.int .i64 X.length)),(22,.v (.int .i64 x.1))])
   (fun x=>[(1,.own 1 (qc x.2.1))])
   (fun x=>x.1≤X.length∧x.2.1.length=x.1∧gd x.2.1∧(0≤x.2.2∧x.2.2≤1)∧vl x.2.1+65536^x.1*x.2.2=vl (X.take x.1)+vl (Y.take x.1))
   (fun x=>X.length-x.1) (0,[],0) ⟨by simp,rfl,ZQ,by simp,by simp[vl]⟩
   (Le.lst [(1,210000000)] _ _ rfl (by simp(disch:=omega)only[go_sem]) (by simp(disch:=omega)only[go_sem])) ?_
  rintro⟨i,out,cy⟩ ⟨hi,hol,hog,hcy,hov⟩
  dsimp only at hi hol hog hcy hov ⊢
  simp(disch:=omega)only[go_sem]
  refine qe (fun h1=>?_) (fun h1=>?_)
  ·have hx:=qH hX i
   have hy:=qH hY i
   have hstep:∀q:Int,q=cy+X.getD i 0+Y.getD i 0→vl (out++[q % 65536])+65536^(i+1)*(q/65536)=vl (X.take (i+1))+vl (Y.take (i+1)):=by
    intro q hq
    rw[jo,qO,qO,hol,Int.pow_succ]
    have e3:q % 65536+65536*(q/65536)=q:=Int.emod_add_mul_ediv q 65536
    generalize (65536:Int)^i=Pi at*
    grind
   have hyz:¬i<Y.length→Y.getD i 0=0:=fun h=>by rw[List.getD_eq_getElem?_getD,List.getElem?_eq_none (by omega)];rfl
   simp(disch:=omega)only[go_sem,h1]
   refine⟨by omega,by omega,qe (fun h2=>?_) (fun h2=>?_)⟩
   ·simp(disch:=omega)only[go_sem,h2]
    generalize hq:cy+X.getD i 0+Y.getD i 0=q
    refine⟨by omega,by omega,by omega,qb (i+1,out++[q % 65536],q/65536) [(1,460000000)] ⟨by show i+1≤_;omega,by simp[hol],qD.2 ⟨hog,zN.2 (by omega)⟩,by show 0≤q/65536∧q/65536≤1;omega,hstep q hq.symm⟩ (by show X.length-(i+1)<X.length-i;omega) rfl (by simp(disch:=omega)only[go_sem,List.length_append];try omega) (by simp(disch:=omega)only[go_sem])⟩
   ·simp(disch:=omega)only[go_sem,h2]
    have hy0:=hyz (by omega)
    generalize hq:cy+X.getD i 0=q
    refine⟨by omega,qb (i+1,out++[q % 65536],q/65536) [(1,460000000)] ⟨by show i+1≤_;omega,by simp[hol],qD.2 ⟨hog,zN.2 (by omega)⟩,by show 0≤q/65536∧q/65536≤1;omega,hstep q (by omega)⟩ (by show X.length-(i+1)<X.length-i;omega) rfl (by simp(disch:=omega)only[go_sem,List.length_append];try omega) (by simp(disch:=omega)only[go_sem])⟩
  ·simp(disch:=omega)only[go_sem,h1]
   have hiA:i=X.length:=by omega
   subst hiA
   rw[List.take_length,List.take_of_length_le h00]at hov
   have hov2:vl (out++[cy])=vl X+vl Y:=by rw[jo,hol];exact hov
   have hog2:gd (out++[cy]):=qD.2 ⟨hog,zN.2 (by omega)⟩
   refine⟨by omega,?_⟩
   have hl2:out.length+1=(out++[cy]).length:=by simp
   rw[hl2]
   refine q9 false [530000000] (jl (out++[cy]) (by simp;omega)) (by simp(disch:=omega)only[go_sem]) (by simp(disch:=omega)only[go_sem]) rfl (qN (z:=1) (cs:=qc (out++[cy])) (by simp(disch:=omega)only[go_sem]) (by simp(disch:=omega)only[go_sem])) (by intro n hn;exact⟨_,List.mem_singleton.2 rfl,by rw[List.mem_singleton.1 hn];rfl⟩) ?_
   rintro r hs bs ⟨rfl,rfl,rfl⟩ _
   refine⟨by simp[qM],?_⟩
   simp(disch:=omega)only[go_sem]
   obtain⟨z,hz⟩:=zF (out++[cy])
   have hc:=z7 hog2
   rw[hov2]at hc
   rw[hc]at hz ⊢
   refine qg [(0,530000000)] [.own 1 (qc (out++[cy]))] [] [.rf 0 0 (lim (vl X+vl Y).toNat).length] rfl (by simp(disch:=omega)only[go_sem]) (by simp(disch:=omega)only[go_sem]) (by simp) (by intro _;simp[zf,AV.pu,AV.pu.puL,Ob.pu,qW]) (.inr ⟨List.replicate z 0,by rw[hcm];rfl,by rw[hcm,←hz]⟩)
end Go.Ab
namespace Go.Ab
open Go Go.Proofs
theorem aao(cl:Bool)(xs:List Int)(hl:xs.length≤2^39):Con Tryz.prog 272 cl [.sl xs.length (qc xs)] [] (arA xs):=by
 refine Con.of_aw Tryz.func272 rfl Tryz.ntmps272 (by simp) (by simp) (by simp) (W.sound ?_)
 show @W Tryz.prog 8 ⟨_⟩ ⟨fun x σ=>@q6 _ _ _ ⟨_⟩ _ ⟨_⟩ x σ⟩ _ _
 simp(disch:=omega)only[go_sem]
 refine⟨fun h0=>?_,?_⟩
 ·have:xs=[]:=by cases xs with|nil=>rfl|cons a r=>cases h0
  subst this
  refine qg [] [] [] [.v (.slice none 0 0)] rfl (by simp(disch:=omega)only[go_sem]) (by simp(disch:=omega)only[go_sem]) (by simp) (by intro _;simp[zf,AV.pu]) (.inl ⟨rfl,rfl,rfl⟩)
 ·refine⟨by omega,?_⟩
  refine qg [(0,90000000)] [.own 1 (qc xs)] [] [.rf 0 0 xs.length] rfl (by simp(disch:=omega)only[go_sem]) (by simp(disch:=omega)only[go_sem]) (by simp) (by intro _;simp[zf,AV.pu,Ob.pu,qW]) (.inr ⟨[],rfl,by rw[List.append_nil]⟩)
end Go.Ab
namespace Go.Ab
open Go Go.Proofs
theorem aag(x:Int):Con Tryz.prog 292 true [.v (.int .i64 x)] [] (isA (.v (.bool false))):=by
 refine Con.of_w (rs:=[.tmp 2]) Tryz.func292 rfl Tryz.ntmps292 rfl ?_
 simp(disch:=omega)only[go_sem]
 exact qx
theorem aqM(x y:Int):Con Tryz.prog 277 true [.v (.int .i64 x),.v (.int .i64 y)] [] (isA (.v (.int .i64 (zG x y)))):=by
 refine Con.of_w (rs:=[.tmp 4]) Tryz.func277 rfl Tryz.ntmps277 rfl ?_
 simp(disch:=omega)only[go_sem]
 refine qk (aag x) ?_
 simp(disch:=omega)only[go_sem]
 refine qk (aag y) ?_
 simp(disch:=omega)only[go_sem]
 refine qe (fun h1=>?_) (fun h1=>?_)
 ·simp(disch:=omega)only[go_sem,h1]
  rw[show zG x y= -1 by simp[zG,h1]]
  exact qx
 ·simp(disch:=omega)only[go_sem,h1]
  refine qe (fun h2=>?_) (fun h2=>?_)
  ·simp(disch:=omega)only[go_sem,h2]
   rw[show zG x y=1 by simp[zG,h1,h2]]
   exact qx
  ·simp(disch:=omega)only[go_sem,h2]
   rw[show zG x y=0 by simp[zG,h1,h2]]
   exact qx
theorem zW(a b:Nat)(la:(lim a).length≤2^40)(lb:(lim b).length≤2^40):
  Con Tryz.prog 248 true [.sl (lim (a)).length (qc (lim (a))),.sl (lim (b)).length (qc (lim (b)))] [] (isA (.v (.int .i64 (zG a b)))):=by
 refine Con.of_w (rs:=[.tmp 4]) Tryz.func248 rfl Tryz.ntmps248 rfl ?_
 simp(disch:=omega)only[go_sem]
 refine zz (fun h1=>?_) (fun h1=>?_)
 ·simp(disch:=omega)only[go_sem,h1]
  refine qk (aqM (lim a).length (lim b).length) ?_
  simp(disch:=omega)only[go_sem]
  have:zG ((lim a).length:Int) ((lim b).length:Int)=zG a b:=by
   unfold zG
   rcases(by omega:(lim a).length<(lim b).length∨(lim b).length<(lim a).length)with h|h
   ·have:=Qh h
    rw[if_pos (by omega),if_pos (by omega)]
   ·have:=Qh h
    rw[if_neg (by omega),if_pos (by omega),if_neg (by omega),if_pos (by omega)]
  rw[this]
  exact qx
 ·simp(disch:=omega)only[go_sem,h1]
  have hl:(lim a).length=(lim b).length:=by omega
  refine qh (fun k:Nat=>[(0,.sl (lim (a)).length (qc (lim (a)))),(1,.sl (lim (b)).length (qc (lim (b)))),(5,.v (.int .i64 ((k:Int)-1)))])
   (fun _=>[]) (fun k=>k≤(lim a).length∧(lim a).drop k=(lim b).drop k) (fun k=>k) (lim a).length ⟨Nat.le_refl _,by rw[List.drop_length,hl,List.drop_length]⟩ (Le.lst [] _ _ rfl (by simp(disch:=omega)only[go_sem];try omega) (by simp(disch:=omega)only[go_sem])) ?_
  rintro k ⟨hk,hd⟩
  simp(disch:=omega)only[go_sem]
  refine qe (fun h2=>?_) (fun h2=>?_)
  ·obtain⟨i,rfl⟩:∃i,k=i+1:=⟨k-1,by omega⟩
   have ei:((i+1:Nat):Int)-1=(i:Nat):=by omega
   simp(disch:=omega)only[go_sem,h2,ei]
   refine qq rfl [⟨0,[],[]⟩,⟨1,[],[]⟩,⟨2,[],[]⟩,⟨3,[],[]⟩,⟨4,[3],[]⟩,⟨5,[3],[]⟩,⟨6,[3],[]⟩,⟨7,[3],[]⟩,⟨8,[],[]⟩] (by kernel_rfl) ?_
   simp(disch:=omega)only[go_sem,ei]
   refine⟨by omega,by omega,by omega,by omega,?_⟩
   refine zz (fun h3=>?_) (fun h3=>?_)
   ·simp(disch:=omega)only[go_sem,h3]
    refine qq rfl [⟨0,[],[]⟩,⟨1,[],[]⟩,⟨2,[],[]⟩,⟨3,[],[]⟩,⟨4,[3],[]⟩,⟨5,[3],[]⟩,⟨6,[3],[]⟩,⟨7,[3],[]⟩,⟨8,[],[]⟩,⟨9,[],[]⟩] (by kernel_rfl) ?_
    simp(disch:=omega)only[go_sem,ei]
    refine⟨by omega,by omega,by omega,by omega,?_⟩
    refine qk (aqM ((lim a).getD i 0) ((lim b).getD i 0)) ?_
    simp(disch:=omega)only[go_sem]
    have hva:=qZ a
    have hvb:=qZ b
    have:zG ((lim a).getD i 0) ((lim b).getD i 0)=zG a b:=by
     unfold zG
     rcases(by omega:(lim a).getD i 0<(lim b).getD i 0∨(lim b).getD i 0<(lim a).getD i 0)with h|h
     ·have:=Q9 (q7 a) (q7 b) (by omega) hl hd h
      rw[if_pos (by omega),if_pos (by omega)]
     ·have:=Q9 (q7 b) (q7 a) (by omega) hl.symm hd.symm h
      rw[if_neg (by omega),if_pos (by omega),if_neg (by omega),if_pos (by omega)]
    rw[this]
    exact qx
   ·simp(disch:=omega)only[go_sem,h3]
    refine qb i [] ⟨by omega,?_⟩ (by show i<i+1;omega) rfl (by simp(disch:=omega)only[go_sem];try omega) (by simp(disch:=omega)only[go_sem])
    rw[ym (l:=lim a) (by omega),ym (l:=lim b) (by omega),h3,hd]
  ·simp(disch:=omega)only[go_sem,h2]
   have:k=0:=by omega
   subst this
   rw[List.drop_zero,List.drop_zero]at hd
   have:=jf hd
   subst this
   rw[show zG (a:Int) (a:Int)=0 by simp[zG]]
   exact qx
end Go.Ab
namespace Go.Proofs
open Go.Shelf
def Tryz.lays29_ren:Go.Shelf.Ren:=⟨fun|29=>287|n=>n,fun|0=>0|3=>3|4=>4|5=>5|22=>254|25=>216|54=>262|n=>n,fun|1=>1|n=>n⟩
theorem Tryz.lays29:Go.Proofs.Lays7.n29 Tryz.prog Tryz.lays29_ren:={
 mixed:=by kernel_rfl
 f29:=Tryz.func287.trans (congrArg some (by kernel_rfl))
 t0:=Tryz.underlying0
 a0:=Tryz.isAgg0
 z0:=Tryz.sizeOf0
 v0:=Tryz.zeroValue0
 i0:=by kernel_rfl
 t3:=Tryz.underlying3
 a3:=Tryz.isAgg3
 z3:=Tryz.sizeOf3
 v3:=Tryz.zeroValue3
 i3:=by kernel_rfl
 t4:=Tryz.underlying4
 a4:=Tryz.isAgg4
 z4:=Tryz.sizeOf4
 v4:=Tryz.zeroValue4
 i4:=by kernel_rfl
 t5:=Tryz.underlying5
 a5:=Tryz.isAgg5
 z5:=Tryz.sizeOf5
 v5:=Tryz.zeroValue5
 i5:=by kernel_rfl
 t22:=Tryz.underlying254
 a22:=Tryz.isAgg254
 z22:=Tryz.sizeOf254
 v22:=Tryz.zeroValue254
 i22:=by kernel_rfl
 t25:=Tryz.underlying216
 a25:=Tryz.isAgg216
 z25:=Tryz.sizeOf216
 v25:=Tryz.zeroValue216
 i25:=by kernel_rfl
 t54:=Tryz.underlying262
 a54:=Tryz.isAgg262
 z54:=Tryz.sizeOf262
 g1:=by kernel_rfl}
def Tryz.lays129_ren:Go.Shelf.Ren:=⟨fun|129=>295|n=>n,fun|53=>254|46=>216|3=>3|4=>4|5=>5|9=>9|n=>n,fun|n=>n⟩
theorem Tryz.lays129:Go.Proofs.Lays.n129 Tryz.prog Tryz.lays129_ren:={
 mixed:=by kernel_rfl
 f129:=Tryz.func295.trans (congrArg some (by kernel_rfl))
 t3:=Tryz.underlying3
 a3:=Tryz.isAgg3
 z3:=Tryz.sizeOf3
 v3:=Tryz.zeroValue3
 t4:=Tryz.underlying4
 a4:=Tryz.isAgg4
 z4:=Tryz.sizeOf4
 v4:=Tryz.zeroValue4
 t5:=Tryz.underlying5
 a5:=Tryz.isAgg5
 z5:=Tryz.sizeOf5
 v5:=Tryz.zeroValue5
 t9:=Tryz.underlying9
 a9:=Tryz.isAgg9
 z9:=Tryz.sizeOf9
 v9:=Tryz.zeroValue9
 t46:=Tryz.underlying216
 a46:=Tryz.isAgg216
 z46:=Tryz.sizeOf216
 v46:=Tryz.zeroValue216
 t53:=Tryz.underlying254
 a53:=Tryz.isAgg254
 z53:=Tryz.sizeOf254
 v53:=Tryz.zeroValue254}
end Go.Proofs
namespace Go.Ab
open Go Go.Proofs
theorem aS4(x:Nat)(h0:x≠0)(h:x<2^64):Lib.ctz 64 x=tz x:=by
 unfold Lib.ctz
 rw[if_neg h0]
 obtain⟨m,hm,_⟩:=Lib.ctzFrom_spec 64 x (by omega) h
 exact(Qw hm).symm
theorem aq8(x:Nat)(h:x<2^64):Lib.bitLen x=bl x:=by
 induction x using Nat.strongRecOn with
 |_ x ih=>
  by_cases h0:x=0
  ·subst h0;rfl
  ·rw[Lib.bitLen_half x h0 h,ih (x/2) (by omega) (by omega),aTv h0,Nat.add_comm]
theorem aCW(x:Nat)(h0:x≠0)(h:x<2^64):Con Tryz.prog 287 true [.v (.int .u64 x)] [] (isA (.v (.int .i64 (tz x)))):=
 Con.scalar (xs:=[.int .u64 x]) fun w hg=>by
  rw[←aS4 x h0 h]
  exact Any7.bits_TrailingZeros64 Tryz.lays29 x h w fun _ j hj=>(hg 1 Lib.deBruijn64tab rfl).2 j hj
theorem aql(x:Nat)(h:x<2^64):Con Tryz.prog 295 true [.v (.int .u64 x)] [] (isA (.v (.int .i64 (bl x)))):=
 Con.scalar (xs:=[.int .u64 x]) fun w hg=>by
  rw[←aq8 x h]
  exact Any.bits_Len64 Tryz.lays129 x w (by omega) (by omega)
theorem aTb(x:Nat)(h0:x≠0)(h:x<2^64):Con Tryz.prog 271 true [.v (.int .u64 x)] [] (isA (.v (.int .i64 (tz x)))):=by
 refine Con.of_w (rs:=[.tmp 2]) Tryz.func271 rfl Tryz.ntmps271 rfl ?_
 simp(disch:=omega)only[go_sem]
 refine qk (aCW x h0 h) ?_
 simp(disch:=omega)only[go_sem]
 exact qx
theorem aqm(x:Nat)(h:x<2^64):Con Tryz.prog 283 true [.v (.int .u64 x)] [] (isA (.v (.int .i64 (bl x)))):=by
 refine Con.of_w (rs:=[.tmp 2]) Tryz.func283 rfl Tryz.ntmps283 rfl ?_
 simp(disch:=omega)only[go_sem]
 refine qk (aql x h) ?_
 simp(disch:=omega)only[go_sem]
 exact qx
theorem akd{x:Int}(h1:0≤x)(h2:x<9223372036854775808):IntKind.u64.wrap x=x:=by
 simp only[IntKind.wrap,IntKind.signed,IntKind.bits]
 simp only[Bool.false_and,Bool.false_eq_true,if_false]
 omega
theorem ajO(m:Nat)(hl:(lim m).length≤2^40):Con Tryz.prog 267 true [.sl (lim (m)).length (qc (lim (m)))] [] (isA (.v (.int .i64 (bl m)))):=by
 refine Con.of_w (rs:=[.tmp 2]) Tryz.func267 rfl Tryz.ntmps267 rfl ?_
 simp(disch:=omega)only[go_sem]
 refine qe (fun h1=>?_) (fun h1=>?_)
 ·simp(disch:=omega)only[go_sem,h1]
  have:m=0:=qG.1 (List.length_eq_zero_iff.1 (by omega))
  subst this
  rw[Je]
  exact qx
 ·have hm:m≠0:=fun e=>by rw[e,qm]at h1;simp at h1
  have e1:((lim m).length:Int).toNat-1=(lim m).length-1:=by omega
  have e2:(((lim m).length:Int)-1).toNat=(lim m).length-1:=by omega
  have ht:=Yp hm
  have hb:=aFf hm
  simp(disch:=omega)only[go_sem,h1,e2,zT]
  generalize m/65536^((lim m).length-1)=q at*
  have e3:((q % 65536:Nat):Int)=(q:Int):=by omega
  simp(disch:=omega)only[go_sem,e3,akd]
  refine⟨by omega,by omega,?_⟩
  refine qk (aqm q (by omega)) ?_
  simp(disch:=omega)only[go_sem]
  have hq:bl q≤16:=zw.2 (by omega)
  have e4:(16:Int)*(((lim m).length:Int)-1)+(bl q:Int)=(bl m:Int):=by omega
  simp(disch:=omega)only[go_sem,e4]
  exact qx
theorem aFo{m i:Nat}(hz:∀j,j<i→(lim m).getD j 0=0)(hx:(lim m).getD i 0≠0):tz m=16*i+tz (m/65536^i % 65536):=by
 rw[zT]at hx
 have hx':m/65536^i % 65536≠0:=fun e=>hx (by rw[e];rfl)
 obtain⟨a,ha⟩:=J5 hx'
 have hlow:65536^i*(m/65536^i)=m:=by
  have key:∀k,k≤i→m % 65536^k=0:=by
   intro k
   induction k with
   |zero=>intro _;simp[Nat.mod_one]
   |succ k ih=>
    intro hk
    have h1:=ih (by omega)
    have h2:=hz k (by omega)
    rw[zT]at h2
    have h3:m/65536^k % 65536=0:=by omega
    rw[Nat.pow_succ,Nat.mod_mul,h1,h3];omega
  have:=Nat.div_add_mod m (65536^i)
  rw[key i (Nat.le_refl _)]at this
  omega
 generalize hq:m/65536^i=q at*
 have ht:tz (q % 65536)<16:=by
  have h1:=yq hx'
  have:bl (q % 65536)≤16:=zw.2 (by omega)
  omega
 generalize hk:tz (q % 65536)=k at*
 have e16:(65536:Nat)=2^k*(2*2^(15-k)):=by rw[Nat.mul_left_comm,←Nat.pow_add,show k+(15-k)=15 by omega]
 refine Qw (a:=a+2^(15-k)*(q/65536)) ?_
 have hd:=Nat.div_add_mod q 65536
 rw[←hlow,Nat.pow_add,←ZC]
 have h5:q=2^k*(2*(a+2^(15-k)*(q/65536))+1):=by
  have:q=2^k*(2*2^(15-k))*(q/65536)+2^k*(2*a+1):=by rw[←e16,←ha];omega
  generalize q/65536=y at*
  generalize 2^(15-k)=z at*
  grind
 generalize q/65536=y at*
 rw[Nat.mul_assoc,←h5]
theorem adR(m:Nat)(hl:(lim m).length≤2^40):Con Tryz.prog 234 true [.sl (lim (m)).length (qc (lim (m)))] [] (isA (.v (.int .i64 (tz m)))):=by
 refine Con.of_w (rs:=[.tmp 2]) Tryz.func234 rfl Tryz.ntmps234 rfl ?_
 simp(disch:=omega)only[go_sem]
 refine qh (fun i:Nat=>[(0,.sl (lim (m)).length (qc (lim (m)))),(5,.sl (lim (m)).length (qc (lim (m)))),(6,.v (.int .i64 (lim m).length)),(7,.v (.int .i64 i))])
  (fun _=>[]) (fun i=>i≤(lim m).length∧∀j,j<i→(lim m).getD j 0=0) (fun i=>(lim m).length-i) 0 ⟨by omega,fun j hj=>by omega⟩ (Le.lst [] _ _ rfl (by simp(disch:=omega)only[go_sem];try omega) (by simp(disch:=omega)only[go_sem])) ?_
 rintro i ⟨hi,hz⟩
 simp(disch:=omega)only[go_sem]
 refine qe (fun h1=>?_) (fun h1=>?_)
 ·simp(disch:=omega)only[go_sem,h1]
  refine⟨by omega,by omega,zz (fun h2=>?_) (fun h2=>?_)⟩
  ·have ht:=aFo hz h2
   have hx:m/65536^i % 65536≠0:=fun e=>h2 (by rw[zT,e];rfl)
   have ht16:tz (m/65536^i % 65536)<16:=by
    have h1:=yq hx
    have:bl (m/65536^i % 65536)≤16:=zw.2 (by omega)
    omega
   simp(disch:=omega)only[go_sem,h2,zT]
   generalize hq:m/65536^i % 65536=q at*
   have hq6:q<65536:=by omega
   simp(disch:=omega)only[go_sem,akd]
   refine qk (aTb q hx (by omega)) ?_
   simp(disch:=omega)only[go_sem]
   have e4:(16:Int)*(i:Int)+(tz q:Int)=(tz m:Int):=by omega
   simp(disch:=omega)only[go_sem,e4]
   exact qx
  ·simp(disch:=omega)only[go_sem,h2]
   refine qb (i+1) [] ⟨by omega,fun j hj=>?_⟩ (by show(lim m).length-(i+1)<(lim m).length-i;omega) rfl (by simp(disch:=omega)only[go_sem];try omega) (by simp(disch:=omega)only[go_sem])
   rcases(by omega:j<i∨j=i)with h|h
   ·exact hz j h
   ·subst h;exact h2
 ·simp(disch:=omega)only[go_sem,h1]
  have hm:m=0:=by
   have:=qZ m
   have h3:lim m=List.replicate (lim m).length 0:=by
    apply List.ext_getElem
    ·simp
    ·intro j h1 h2
     have:=hz j (by omega)
     rw[List.getD_eq_getElem?_getD,List.getElem?_eq_getElem h1]at this
     simpa using this
   rw[h3,zH]at this
   omega
  subst hm
  rw[akh]
  exact qx
theorem aap(m:Nat)(i:Int)(hl:(lim m).length≤2^40)(hi:0≤i)(hi2:i<2^62):Con Tryz.prog 175 true [.sl (lim (m)).length (qc (lim (m))),.v (.int .i64 i)] [] (isA (.v (.int .i64 ((m/2^i.toNat % 2:Nat):Int)))):=by
 refine Con.of_w (rs:=[.tmp 4]) Tryz.func175 rfl Tryz.ntmps175 rfl ?_
 obtain⟨k,rfl⟩:=Int.eq_ofNat_of_zero_le hi
 rw[Int.toNat_natCast]
 have h0:¬((k:Int)<0):=by omega
 have e16:((k:Int)/16).toNat=k/16:=by omega
 have em:min ((k:Int) % 16).toNat 64=k % 16:=by omega
 have hb:=aq7 m k
 simp(disch:=omega)only[go_sem,h0]
 refine qe (fun h1=>?_) (fun h1=>?_)
 ·simp(disch:=omega)only[go_sem,h1]
  have:m/2^k % 2=0:=by
   rw[←hb]
   have h2:=zT m (k/16)
   rw[List.getD_eq_getElem?_getD,List.getElem?_eq_none (by omega)]at h2
   have h3:m/65536^(k/16) % 65536=0:=by simp only[Option.getD_none]at h2;omega
   rw[h3];simp
  rw[this]
  exact qx
 ·have hx:=qH (q7 m) (k/16)
  have hp:(0:Int)<2^(k % 16):=Int.pow_pos (by omega)
  have efd:∀x:Int,x.fdiv (2^(k % 16))=x/2^(k % 16):=fun x=>Int.fdiv_eq_ediv_of_nonneg _ (Int.le_of_lt hp)
  have hq:0≤(lim m).getD (k/16) 0/2^(k % 16)∧(lim m).getD (k/16) 0/2^(k % 16)<65536:=by
   refine⟨Int.ediv_nonneg hx.1 (Int.le_of_lt hp),Int.lt_of_le_of_lt (Int.ediv_le_self _ hx.1) hx.2⟩
  have hr:(lim m).getD (k/16) 0/2^(k % 16) % 2=((m/2^k % 2:Nat):Int):=by
   rw[←hb,zT]
   generalize m/65536^(k/16) % 65536=x
   rw[Int.natCast_emod,Int.natCast_ediv,Int.natCast_pow];rfl
  simp(disch:=omega)only[go_sem,h1,e16,em,efd,hr]
  refine⟨by omega,by omega,by omega,?_⟩
  exact qx
end Go.Ab
namespace Go.Ab
open Go Go.Proofs
theorem aaF(a k:Nat):(vl (lim a)*2^k).toNat=a*2^k:=by
 rw[qZ]
 have:((a:Int)*2^k)=((a*2^k:Nat):Int):=by rw[Int.natCast_mul,Int.natCast_pow];rfl
 rw[this,Int.toNat_natCast]
theorem aaG(a k:Nat):(vl (lim a)/2^k).toNat=a/2^k:=by
 rw[qZ]
 have:((a:Int)/2^k)=((a/2^k:Nat):Int):=by rw[Int.natCast_ediv,Int.natCast_pow];rfl
 rw[this,Int.toNat_natCast]
theorem aFs(a b:Nat):(vl (lim a)*vl (lim b)).toNat=a*b:=by rw[qZ,qZ,←Int.natCast_mul,Int.toNat_natCast]
theorem aFt(a b:Nat):(vl (lim a)+vl (lim b)).toNat=a+b:=by rw[qZ,qZ];omega
theorem aFr(a b:Nat):(vl (lim a)-vl (lim b)).toNat=a-b:=by rw[qZ,qZ];omega
theorem zt(n:Nat)(hn:n<2^63):Con Tryz.prog 216 false [.v (.int .i64 n)] [] (aJ2 (lim n)):=(aqa false n hn).num
theorem ap5(cl:Bool)(a k:Nat)(la:(lim a).length≤1000000)(hk:k≤100000000):Con Tryz.prog 244 cl [.sl (lim (a)).length (qc (lim (a))),.v (.int .i64 k)] [] (arA (lim (a*2^k))):=by
 have:=aTa cl (lim a) k (q7 a) la hk
 rwa[aaF]at this
theorem zP(a k:Nat)(la:(lim a).length≤1000000)(hk:k≤100000000):Con Tryz.prog 244 false [.sl (lim (a)).length (qc (lim (a))),.v (.int .i64 k)] [] (aJ2 (lim (a*2^k))):=(ap5 false a k la hk).num
theorem aal(cl:Bool)(a k:Nat)(la:(lim a).length≤1000000)(hk:k≤100000000):Con Tryz.prog 235 cl [.sl (lim (a)).length (qc (lim (a))),.v (.int .i64 k)] [] (arA (lim (a/2^k))):=by
 have:=aC8 cl (lim a) k (q7 a) la hk
 rwa[aaG]at this
theorem aqJ(a k:Nat)(la:(lim a).length≤1000000)(hk:k≤100000000):Con Tryz.prog 235 false [.sl (lim (a)).length (qc (lim (a))),.v (.int .i64 k)] [] (aJ2 (lim (a/2^k))):=(aal false a k la hk).num
theorem JK(a b:Nat)(la:(lim a).length≤1000000)(lb:(lim b).length≤1000000):Con Tryz.prog 201 false [.sl (lim (a)).length (qc (lim (a))),.sl (lim (b)).length (qc (lim (b)))] [] (aJ2 (lim (a*b))):=by
 have:=(ap6 false (lim a) (lim b) (q7 a) (q7 b) la lb).num
 rwa[aFs]at this
theorem K9(a b:Nat)(la:(lim a).length≤2000000)(lb:(lim b).length≤2000000):Con Tryz.prog 249 false [.sl (lim (a)).length (qc (lim (a))),.sl (lim (b)).length (qc (lim (b)))] [] (aJ2 (lim (a+b))):=by
 have:=(aCX false (lim a) (lim b) (q7 a) (q7 b) la lb).num
 rwa[aFt]at this
theorem aqK(a d:Nat)(la:(lim a).length≤1000000)(hd:0<d)(hd2:d<65536):
  Con Tryz.prog 288 false [.sl (lim (a)).length (qc (lim (a))),.v (.int .i64 d)] [] (isA (.tu [.sl (lim (a/d)).length (qc (lim (a/d))),.v (.int .i64 ((a % d:Nat):Int))])):=
 Con.frzA <| (aC9 false (lim a) d (q7 a) la hd hd2).mono fun r hs bs ⟨zs,h1,h2⟩=>by
  rw[qZ]at h1 h2
  rw[h1,h2]
  have e:((a:Int)/(d:Int)).toNat=a/d:=by
   rw[←Int.natCast_ediv,Int.toNat_natCast]
  rw[e]
  show qE _ 6 _=_
  unfold qE
  simp only[List.map_cons,List.map_nil]
  rw[jR (k:=3) (l:=lim (a/d)) (zs:=zs) za rfl]
  rw[Int.natCast_emod];rfl
end Go.Ab
