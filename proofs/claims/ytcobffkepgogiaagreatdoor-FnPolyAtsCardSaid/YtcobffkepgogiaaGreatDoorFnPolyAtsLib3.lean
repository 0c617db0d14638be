/- What the proof of this claim stands on: the walks of the functions and the plain laws, part 3. -/
import Derived.Test.YtcobffkepgogiaaGreatDoorFnPolyAtsLib2
import Derived.Test.YtcobffkepgogiaaGreatDoorProg
import Derived.KernelRfl
import Derived.Shelf.Spec.TrailingZeros
import Derived.Shelf.Small.Bits
import Derived.Shelf.Strconv.Itoa0
set_option linter.unusedVariables false
set_option linter.unusedSimpArgs false
namespace Go.Ab
open Go Go.Proofs
def ti1:TI:=⟨Kd.oth,1,8,Value.nilFunc⟩
theorem tf1:qn Tryz.prog 1=some ti1:=by kernel_rfl
def ti2:TI:=⟨Kd.int IntKind.i64,1,8,Value.int IntKind.i64 0⟩
theorem tf2:qn Tryz.prog 2=some ti2:=by kernel_rfl
def ti3:TI:=⟨Kd.int IntKind.i64,1,8,Value.int IntKind.i64 0⟩
theorem tf3:qn Tryz.prog 3=some ti3:=by kernel_rfl
def ti4:TI:=⟨Kd.bool,1,1,Value.bool false⟩
theorem tf4:qn Tryz.prog 4=some ti4:=by kernel_rfl
def ti5:TI:=⟨Kd.int IntKind.u8,1,1,Value.int IntKind.u8 0⟩
theorem tf5:qn Tryz.prog 5=some ti5:=by kernel_rfl
def ti6:TI:=⟨Kd.int IntKind.u8,1,1,Value.int IntKind.u8 0⟩
theorem tf6:qn Tryz.prog 6=some ti6:=by kernel_rfl
def ti7:TI:=⟨Kd.stru [(0,2),(1,3),(2,4),(3,6)],4,24,Value.agg ⟨[Value.int IntKind.i64 0,Value.int IntKind.i64 0,Value.bool false,Value.int IntKind.u8 0]⟩⟩
theorem tf7:qn Tryz.prog 7=some ti7:=by kernel_rfl
def ti8:TI:=⟨Kd.stru [(0,2),(1,3),(2,4),(3,6)],4,24,Value.agg ⟨[Value.int IntKind.i64 0,Value.int IntKind.i64 0,Value.bool false,Value.int IntKind.u8 0]⟩⟩
theorem tf8:qn Tryz.prog 8=some ti8:=by kernel_rfl
def ti9:TI:=⟨Kd.str,1,16,Value.string {data:=⟨[]⟩}⟩
theorem tf9:qn Tryz.prog 9=some ti9:=by kernel_rfl
def aEy:TI:=⟨Kd.str,1,16,Value.string {data:=⟨[]⟩}⟩
theorem bdG:qn Tryz.prog 10=some aEy:=by kernel_rfl
def aEx:TI:=⟨Kd.str,1,16,Value.string {data:=⟨[]⟩}⟩
theorem bdF:qn Tryz.prog 11=some aEx:=by kernel_rfl
def aEw:TI:=⟨Kd.int IntKind.u64,1,8,Value.int IntKind.u64 0⟩
theorem bdE:qn Tryz.prog 12=some aEw:=by kernel_rfl
def aEv:TI:=⟨Kd.int IntKind.i32,1,4,Value.int IntKind.i32 0⟩
theorem bdD:qn Tryz.prog 21=some aEv:=by kernel_rfl
def aeM:TI:=⟨Kd.sli 5,1,24,Value.slice none 0 0⟩
theorem aEB:qn Tryz.prog 22=some aeM:=by kernel_rfl
def aeL:TI:=⟨Kd.sli 40,1,24,Value.slice none 0 0⟩
theorem aEA:qn Tryz.prog 23=some aeL:=by kernel_rfl
def al7:TI:=⟨Kd.stru [(0,3),(1,23)],2,32,Value.agg ⟨[Value.int IntKind.i64 0,Value.slice none 0 0]⟩⟩
theorem aT1:qn Tryz.prog 24=some al7:=by kernel_rfl
def alX:TI:=⟨Kd.stru [(0,3),(1,23)],2,32,Value.agg ⟨[Value.int IntKind.i64 0,Value.slice none 0 0]⟩⟩
theorem aT0:qn Tryz.prog 25=some alX:=by kernel_rfl
def aEu:TI:=⟨Kd.oth,1,8,Value.nilFunc⟩
theorem bdC:qn Tryz.prog 27=some aEu:=by kernel_rfl
def aEt:TI:=⟨Kd.oth,1,8,Value.nilFunc⟩
theorem bdB:qn Tryz.prog 29=some aEt:=by kernel_rfl
def aEs:TI:=⟨Kd.oth,1,8,Value.nilFunc⟩
theorem bdA:qn Tryz.prog 30=some aEs:=by kernel_rfl
def aEr:TI:=⟨Kd.oth,1,8,Value.nilFunc⟩
theorem bdz:qn Tryz.prog 31=some aEr:=by kernel_rfl
def aEq:TI:=⟨Kd.oth,1,8,Value.nilFunc⟩
theorem bdy:qn Tryz.prog 32=some aEq:=by kernel_rfl
def aEp:TI:=⟨Kd.oth,1,8,Value.nilFunc⟩
theorem bdx:qn Tryz.prog 33=some aEp:=by kernel_rfl
def Jv:TI:=⟨Kd.sli 3,1,24,Value.slice none 0 0⟩
theorem aeN:qn Tryz.prog 34=some Jv:=by kernel_rfl
def ars:TI:=⟨Kd.stru [(0,34)],1,24,Value.agg ⟨[Value.slice none 0 0]⟩⟩
theorem aWB:qn Tryz.prog 35=some ars:=by kernel_rfl
def aaN:TI:=⟨Kd.stru [(0,34)],1,24,Value.agg ⟨[Value.slice none 0 0]⟩⟩
theorem aAC:qn Tryz.prog 36=some aaN:=by kernel_rfl
def alp:TI:=⟨Kd.stru [(0,4),(1,36)],2,32,Value.agg ⟨[Value.bool false,Value.slice none 0 0]⟩⟩
theorem aTZ:qn Tryz.prog 37=some alp:=by kernel_rfl
def Xe:TI:=⟨Kd.stru [(0,4),(1,36)],2,32,Value.agg ⟨[Value.bool false,Value.slice none 0 0]⟩⟩
theorem art:qn Tryz.prog 38=some Xe:=by kernel_rfl
def alm:TI:=⟨Kd.stru [(0,38),(2,3)],3,40,Value.agg ⟨[Value.bool false,Value.slice none 0 0,Value.int IntKind.i64 0]⟩⟩
theorem aTY:qn Tryz.prog 39=some alm:=by kernel_rfl
def Za:TI:=⟨Kd.stru [(0,38),(2,3)],3,40,Value.agg ⟨[Value.bool false,Value.slice none 0 0,Value.int IntKind.i64 0]⟩⟩
theorem KC:qn Tryz.prog 40=some Za:=by kernel_rfl
def aEo:TI:=⟨Kd.oth,1,8,Value.nilFunc⟩
theorem bdw:qn Tryz.prog 41=some aEo:=by kernel_rfl
def aEn:TI:=⟨Kd.oth,1,8,Value.nilFunc⟩
theorem bdv:qn Tryz.prog 42=some aEn:=by kernel_rfl
def aEm:TI:=⟨Kd.oth,1,8,Value.nilFunc⟩
theorem bdu:qn Tryz.prog 44=some aEm:=by kernel_rfl
def aEl:TI:=⟨Kd.oth,1,8,Value.nilFunc⟩
theorem bdt:qn Tryz.prog 46=some aEl:=by kernel_rfl
def aEk:TI:=⟨Kd.oth,1,8,Value.nilFunc⟩
theorem bds:qn Tryz.prog 47=some aEk:=by kernel_rfl
def aEj:TI:=⟨Kd.oth,1,8,Value.nilFunc⟩
theorem bdr:qn Tryz.prog 48=some aEj:=by kernel_rfl
def aEi:TI:=⟨Kd.oth,1,8,Value.nilFunc⟩
theorem bdq:qn Tryz.prog 49=some aEi:=by kernel_rfl
def ak9:TI:=⟨Kd.stru [(0,40),(3,40)],6,80,Value.agg ⟨[Value.bool false,Value.slice none 0 0,Value.int IntKind.i64 0,Value.bool false,Value.slice none 0 0,Value.int IntKind.i64 0]⟩⟩
theorem aTX:qn Tryz.prog 50=some ak9:=by kernel_rfl
def akd:TI:=⟨Kd.stru [(0,40),(3,40)],6,80,Value.agg ⟨[Value.bool false,Value.slice none 0 0,Value.int IntKind.i64 0,Value.bool false,Value.slice none 0 0,Value.int IntKind.i64 0]⟩⟩
theorem aNF:qn Tryz.prog 51=some akd:=by kernel_rfl
def aEh:TI:=⟨Kd.oth,1,8,Value.nilFunc⟩
theorem bdp:qn Tryz.prog 53=some aEh:=by kernel_rfl
def aEg:TI:=⟨Kd.oth,1,8,Value.nilFunc⟩
theorem bdo:qn Tryz.prog 55=some aEg:=by kernel_rfl
def aEf:TI:=⟨Kd.oth,1,8,Value.nilFunc⟩
theorem bdn:qn Tryz.prog 56=some aEf:=by kernel_rfl
def aEe:TI:=⟨Kd.oth,1,8,Value.nilFunc⟩
theorem bdm:qn Tryz.prog 57=some aEe:=by kernel_rfl
def aEd:TI:=⟨Kd.oth,1,8,Value.nilFunc⟩
theorem bdl:qn Tryz.prog 58=some aEd:=by kernel_rfl
def aEc:TI:=⟨Kd.oth,1,8,Value.nilFunc⟩
theorem bdk:qn Tryz.prog 60=some aEc:=by kernel_rfl
def aEb:TI:=⟨Kd.oth,1,8,Value.nilFunc⟩
theorem bdj:qn Tryz.prog 61=some aEb:=by kernel_rfl
def aEa:TI:=⟨Kd.oth,1,8,Value.nilFunc⟩
theorem bdi:qn Tryz.prog 62=some aEa:=by kernel_rfl
def aD9:TI:=⟨Kd.oth,1,8,Value.nilFunc⟩
theorem bdh:qn Tryz.prog 63=some aD9:=by kernel_rfl
def aD8:TI:=⟨Kd.oth,1,8,Value.nilFunc⟩
theorem bdg:qn Tryz.prog 64=some aD8:=by kernel_rfl
def aD7:TI:=⟨Kd.oth,1,8,Value.nilFunc⟩
theorem bdf:qn Tryz.prog 65=some aD7:=by kernel_rfl
def aD6:TI:=⟨Kd.oth,1,8,Value.nilFunc⟩
theorem bde:qn Tryz.prog 66=some aD6:=by kernel_rfl
def aD5:TI:=⟨Kd.oth,1,8,Value.nilFunc⟩
theorem bdd:qn Tryz.prog 68=some aD5:=by kernel_rfl
def aeK:TI:=⟨Kd.sli 51,1,24,Value.slice none 0 0⟩
theorem aEz:qn Tryz.prog 69=some aeK:=by kernel_rfl
def aD4:TI:=⟨Kd.oth,1,8,Value.nilFunc⟩
theorem bdc:qn Tryz.prog 71=some aD4:=by kernel_rfl
def aD3:TI:=⟨Kd.oth,1,8,Value.nilFunc⟩
theorem bdb:qn Tryz.prog 73=some aD3:=by kernel_rfl
def aD2:TI:=⟨Kd.oth,1,8,Value.nilFunc⟩
theorem bda:qn Tryz.prog 74=some aD2:=by kernel_rfl
def aD1:TI:=⟨Kd.oth,1,8,Value.nilFunc⟩
theorem bc9:qn Tryz.prog 75=some aD1:=by kernel_rfl
def aD0:TI:=⟨Kd.oth,1,8,Value.nilFunc⟩
theorem bc8:qn Tryz.prog 77=some aD0:=by kernel_rfl
def aDZ:TI:=⟨Kd.oth,1,8,Value.nilFunc⟩
theorem bc7:qn Tryz.prog 79=some aDZ:=by kernel_rfl
def aDY:TI:=⟨Kd.oth,1,8,Value.nilFunc⟩
theorem bc6:qn Tryz.prog 80=some aDY:=by kernel_rfl
def akI:TI:=⟨Kd.stru [(0,3),(1,69)],2,32,Value.agg ⟨[Value.int IntKind.i64 0,Value.slice none 0 0]⟩⟩
theorem aTW:qn Tryz.prog 81=some akI:=by kernel_rfl
def akG:TI:=⟨Kd.stru [(0,3),(1,69)],2,32,Value.agg ⟨[Value.int IntKind.i64 0,Value.slice none 0 0]⟩⟩
theorem aTV:qn Tryz.prog 82=some akG:=by kernel_rfl
def aDX:TI:=⟨Kd.oth,1,8,Value.nilFunc⟩
theorem bc5:qn Tryz.prog 84=some aDX:=by kernel_rfl
def aDW:TI:=⟨Kd.oth,1,8,Value.nilFunc⟩
theorem bc4:qn Tryz.prog 86=some aDW:=by kernel_rfl
def aDV:TI:=⟨Kd.oth,1,8,Value.nilFunc⟩
theorem bc3:qn Tryz.prog 87=some aDV:=by kernel_rfl
def aDU:TI:=⟨Kd.oth,1,8,Value.nilFunc⟩
theorem bc2:qn Tryz.prog 88=some aDU:=by kernel_rfl
def aDT:TI:=⟨Kd.oth,1,8,Value.nilFunc⟩
theorem bc1:qn Tryz.prog 89=some aDT:=by kernel_rfl
def aDS:TI:=⟨Kd.oth,1,8,Value.nilFunc⟩
theorem bc0:qn Tryz.prog 91=some aDS:=by kernel_rfl
def aDR:TI:=⟨Kd.oth,1,8,Value.nilFunc⟩
theorem bcZ:qn Tryz.prog 92=some aDR:=by kernel_rfl
def aDQ:TI:=⟨Kd.oth,1,8,Value.nilFunc⟩
theorem bcY:qn Tryz.prog 93=some aDQ:=by kernel_rfl
def aDP:TI:=⟨Kd.oth,1,8,Value.nilFunc⟩
theorem bcX:qn Tryz.prog 94=some aDP:=by kernel_rfl
def aDO:TI:=⟨Kd.oth,1,8,Value.nilFunc⟩
theorem bcW:qn Tryz.prog 96=some aDO:=by kernel_rfl
def aDN:TI:=⟨Kd.oth,1,8,Value.nilFunc⟩
theorem bcV:qn Tryz.prog 97=some aDN:=by kernel_rfl
def aDM:TI:=⟨Kd.oth,1,8,Value.nilFunc⟩
theorem bcU:qn Tryz.prog 98=some aDM:=by kernel_rfl
def aDL:TI:=⟨Kd.oth,1,8,Value.nilFunc⟩
theorem bcT:qn Tryz.prog 99=some aDL:=by kernel_rfl
def Kz:TI:=⟨Kd.oth,1,8,Value.nilFunc⟩
theorem aYU:qn Tryz.prog 100=some Kz:=by kernel_rfl
def Ky:TI:=⟨Kd.oth,1,8,Value.nilFunc⟩
theorem aYT:qn Tryz.prog 101=some Ky:=by kernel_rfl
def Kx:TI:=⟨Kd.oth,1,8,Value.nilFunc⟩
theorem aYS:qn Tryz.prog 102=some Kx:=by kernel_rfl
def Kw:TI:=⟨Kd.oth,1,8,Value.nilFunc⟩
theorem aYR:qn Tryz.prog 103=some Kw:=by kernel_rfl
def Kv:TI:=⟨Kd.oth,1,8,Value.nilFunc⟩
theorem aYQ:qn Tryz.prog 105=some Kv:=by kernel_rfl
def Ku:TI:=⟨Kd.oth,1,8,Value.nilFunc⟩
theorem aYP:qn Tryz.prog 106=some Ku:=by kernel_rfl
def Kt:TI:=⟨Kd.oth,1,8,Value.nilFunc⟩
theorem aYO:qn Tryz.prog 107=some Kt:=by kernel_rfl
def Ks:TI:=⟨Kd.oth,1,8,Value.nilFunc⟩
theorem aYN:qn Tryz.prog 108=some Ks:=by kernel_rfl
def Kr:TI:=⟨Kd.oth,1,8,Value.nilFunc⟩
theorem aYM:qn Tryz.prog 109=some Kr:=by kernel_rfl
def Kq:TI:=⟨Kd.oth,1,8,Value.nilFunc⟩
theorem aYL:qn Tryz.prog 110=some Kq:=by kernel_rfl
def yM:TI:=⟨Kd.sli 118,1,24,Value.slice none 0 0⟩
theorem J8:qn Tryz.prog 111=some yM:=by kernel_rfl
def Zs:TI:=⟨Kd.stru [(0,3),(1,111)],2,32,Value.agg ⟨[Value.int IntKind.i64 0,Value.slice none 0 0]⟩⟩
theorem aAH:qn Tryz.prog 112=some Zs:=by kernel_rfl
def Zr:TI:=⟨Kd.stru [(0,3),(1,111)],2,32,Value.agg ⟨[Value.int IntKind.i64 0,Value.slice none 0 0]⟩⟩
theorem aAG:qn Tryz.prog 113=some Zr:=by kernel_rfl
def Kp:TI:=⟨Kd.oth,1,8,Value.nilFunc⟩
theorem aYK:qn Tryz.prog 114=some Kp:=by kernel_rfl
def Ko:TI:=⟨Kd.oth,1,8,Value.nilFunc⟩
theorem aYJ:qn Tryz.prog 115=some Ko:=by kernel_rfl
def Kn:TI:=⟨Kd.oth,1,8,Value.nilFunc⟩
theorem aYI:qn Tryz.prog 116=some Kn:=by kernel_rfl
def Q3:TI:=⟨Kd.stru [(0,4),(1,34),(2,3)],3,40,Value.agg ⟨[Value.bool false,Value.slice none 0 0,Value.int IntKind.i64 0]⟩⟩
theorem aor:qn Tryz.prog 117=some Q3:=by kernel_rfl
def jc:TI:=⟨Kd.stru [(0,4),(1,34),(2,3)],3,40,Value.agg ⟨[Value.bool false,Value.slice none 0 0,Value.int IntKind.i64 0]⟩⟩
theorem yb:qn Tryz.prog 118=some jc:=by kernel_rfl
def Km:TI:=⟨Kd.oth,1,8,Value.nilFunc⟩
theorem aYH:qn Tryz.prog 119=some Km:=by kernel_rfl
def Kl:TI:=⟨Kd.oth,1,8,Value.nilFunc⟩
theorem aYG:qn Tryz.prog 120=some Kl:=by kernel_rfl
def Kk:TI:=⟨Kd.oth,1,8,Value.nilFunc⟩
theorem aYF:qn Tryz.prog 121=some Kk:=by kernel_rfl
def Kj:TI:=⟨Kd.oth,1,8,Value.nilFunc⟩
theorem aYE:qn Tryz.prog 122=some Kj:=by kernel_rfl
def Ki:TI:=⟨Kd.oth,1,8,Value.nilFunc⟩
theorem aYD:qn Tryz.prog 123=some Ki:=by kernel_rfl
def Kh:TI:=⟨Kd.oth,1,8,Value.nilFunc⟩
theorem aYC:qn Tryz.prog 124=some Kh:=by kernel_rfl
def Kg:TI:=⟨Kd.oth,1,8,Value.nilFunc⟩
theorem aYB:qn Tryz.prog 125=some Kg:=by kernel_rfl
def Kf:TI:=⟨Kd.oth,1,8,Value.nilFunc⟩
theorem aYA:qn Tryz.prog 126=some Kf:=by kernel_rfl
def Ke:TI:=⟨Kd.oth,1,8,Value.nilFunc⟩
theorem aYz:qn Tryz.prog 127=some Ke:=by kernel_rfl
def Kc:TI:=⟨Kd.oth,1,8,Value.nilFunc⟩
theorem aYy:qn Tryz.prog 128=some Kc:=by kernel_rfl
def Kb:TI:=⟨Kd.oth,1,8,Value.nilFunc⟩
theorem aYx:qn Tryz.prog 129=some Kb:=by kernel_rfl
def Ka:TI:=⟨Kd.oth,1,8,Value.nilFunc⟩
theorem aYw:qn Tryz.prog 130=some Ka:=by kernel_rfl
def V9:TI:=⟨Kd.oth,1,8,Value.nilFunc⟩
theorem aYv:qn Tryz.prog 131=some V9:=by kernel_rfl
def Zq:TI:=⟨Kd.stru [(0,118),(3,118)],6,80,Value.agg ⟨[Value.bool false,Value.slice none 0 0,Value.int IntKind.i64 0,Value.bool false,Value.slice none 0 0,Value.int IntKind.i64 0]⟩⟩
theorem aAF:qn Tryz.prog 132=some Zq:=by kernel_rfl
def Q2:TI:=⟨Kd.stru [(0,118),(3,118)],6,80,Value.agg ⟨[Value.bool false,Value.slice none 0 0,Value.int IntKind.i64 0,Value.bool false,Value.slice none 0 0,Value.int IntKind.i64 0]⟩⟩
theorem aoq:qn Tryz.prog 133=some Q2:=by kernel_rfl
def V8:TI:=⟨Kd.oth,1,8,Value.nilFunc⟩
theorem aYu:qn Tryz.prog 134=some V8:=by kernel_rfl
def V7:TI:=⟨Kd.oth,1,8,Value.nilFunc⟩
theorem aYt:qn Tryz.prog 135=some V7:=by kernel_rfl
def V6:TI:=⟨Kd.oth,1,8,Value.nilFunc⟩
theorem aYs:qn Tryz.prog 136=some V6:=by kernel_rfl
def V5:TI:=⟨Kd.oth,1,8,Value.nilFunc⟩
theorem aYr:qn Tryz.prog 137=some V5:=by kernel_rfl
def V4:TI:=⟨Kd.oth,1,8,Value.nilFunc⟩
theorem aYq:qn Tryz.prog 138=some V4:=by kernel_rfl
def V3:TI:=⟨Kd.oth,1,8,Value.nilFunc⟩
theorem aYp:qn Tryz.prog 139=some V3:=by kernel_rfl
def V2:TI:=⟨Kd.oth,1,8,Value.nilFunc⟩
theorem aYo:qn Tryz.prog 140=some V2:=by kernel_rfl
def V1:TI:=⟨Kd.oth,1,8,Value.nilFunc⟩
theorem aYn:qn Tryz.prog 142=some V1:=by kernel_rfl
def V0:TI:=⟨Kd.oth,1,8,Value.nilFunc⟩
theorem aYm:qn Tryz.prog 143=some V0:=by kernel_rfl
def VZ:TI:=⟨Kd.oth,1,8,Value.nilFunc⟩
theorem aYl:qn Tryz.prog 144=some VZ:=by kernel_rfl
def VY:TI:=⟨Kd.oth,1,8,Value.nilFunc⟩
theorem aYk:qn Tryz.prog 145=some VY:=by kernel_rfl
def VX:TI:=⟨Kd.oth,1,8,Value.nilFunc⟩
theorem aYj:qn Tryz.prog 146=some VX:=by kernel_rfl
def VW:TI:=⟨Kd.oth,1,8,Value.nilFunc⟩
theorem aYi:qn Tryz.prog 147=some VW:=by kernel_rfl
def VV:TI:=⟨Kd.oth,1,8,Value.nilFunc⟩
theorem aYh:qn Tryz.prog 148=some VV:=by kernel_rfl
def VU:TI:=⟨Kd.oth,1,8,Value.nilFunc⟩
theorem aYg:qn Tryz.prog 149=some VU:=by kernel_rfl
def VT:TI:=⟨Kd.oth,1,8,Value.nilFunc⟩
theorem aYf:qn Tryz.prog 151=some VT:=by kernel_rfl
def VS:TI:=⟨Kd.oth,1,8,Value.nilFunc⟩
theorem aYe:qn Tryz.prog 152=some VS:=by kernel_rfl
def yX:TI:=⟨Kd.sli 133,1,24,Value.slice none 0 0⟩
theorem KD:qn Tryz.prog 153=some yX:=by kernel_rfl
def Zp:TI:=⟨Kd.stru [(0,3),(1,153)],2,32,Value.agg ⟨[Value.int IntKind.i64 0,Value.slice none 0 0]⟩⟩
theorem aAE:qn Tryz.prog 154=some Zp:=by kernel_rfl
def Zo:TI:=⟨Kd.stru [(0,3),(1,153)],2,32,Value.agg ⟨[Value.int IntKind.i64 0,Value.slice none 0 0]⟩⟩
theorem aAD:qn Tryz.prog 155=some Zo:=by kernel_rfl
def VR:TI:=⟨Kd.oth,1,8,Value.nilFunc⟩
theorem aYd:qn Tryz.prog 156=some VR:=by kernel_rfl
def VQ:TI:=⟨Kd.oth,1,8,Value.nilFunc⟩
theorem aYc:qn Tryz.prog 157=some VQ:=by kernel_rfl
def VP:TI:=⟨Kd.oth,1,8,Value.nilFunc⟩
theorem aYb:qn Tryz.prog 158=some VP:=by kernel_rfl
def VO:TI:=⟨Kd.oth,1,8,Value.nilFunc⟩
theorem aYa:qn Tryz.prog 159=some VO:=by kernel_rfl
def VN:TI:=⟨Kd.oth,1,8,Value.nilFunc⟩
theorem aX9:qn Tryz.prog 160=some VN:=by kernel_rfl
def VM:TI:=⟨Kd.oth,1,8,Value.nilFunc⟩
theorem aX8:qn Tryz.prog 161=some VM:=by kernel_rfl
def VL:TI:=⟨Kd.oth,1,8,Value.nilFunc⟩
theorem aX7:qn Tryz.prog 163=some VL:=by kernel_rfl
def VK:TI:=⟨Kd.oth,1,8,Value.nilFunc⟩
theorem aX6:qn Tryz.prog 164=some VK:=by kernel_rfl
def VJ:TI:=⟨Kd.oth,1,8,Value.nilFunc⟩
theorem aX5:qn Tryz.prog 165=some VJ:=by kernel_rfl
def VI:TI:=⟨Kd.oth,1,8,Value.nilFunc⟩
theorem aX4:qn Tryz.prog 166=some VI:=by kernel_rfl
def VH:TI:=⟨Kd.oth,1,8,Value.nilFunc⟩
theorem aX3:qn Tryz.prog 167=some VH:=by kernel_rfl
def VG:TI:=⟨Kd.oth,1,8,Value.nilFunc⟩
theorem aX2:qn Tryz.prog 168=some VG:=by kernel_rfl
def VF:TI:=⟨Kd.oth,1,8,Value.nilFunc⟩
theorem aX1:qn Tryz.prog 169=some VF:=by kernel_rfl
def VE:TI:=⟨Kd.oth,1,8,Value.nilFunc⟩
theorem aX0:qn Tryz.prog 170=some VE:=by kernel_rfl
def VD:TI:=⟨Kd.oth,1,8,Value.nilFunc⟩
theorem aXZ:qn Tryz.prog 171=some VD:=by kernel_rfl
def VC:TI:=⟨Kd.oth,1,8,Value.nilFunc⟩
theorem aXY:qn Tryz.prog 173=some VC:=by kernel_rfl
def Q1:TI:=⟨Kd.stru [(0,22),(1,3),(2,3)],3,40,Value.agg ⟨[Value.slice none 0 0,Value.int IntKind.i64 0,Value.int IntKind.i64 0]⟩⟩
theorem aop:qn Tryz.prog 174=some Q1:=by kernel_rfl
def Q0:TI:=⟨Kd.stru [(0,22),(1,3),(2,3)],3,40,Value.agg ⟨[Value.slice none 0 0,Value.int IntKind.i64 0,Value.int IntKind.i64 0]⟩⟩
theorem aoo:qn Tryz.prog 175=some Q0:=by kernel_rfl
def VB:TI:=⟨Kd.oth,1,8,Value.nilFunc⟩
theorem aXX:qn Tryz.prog 176=some VB:=by kernel_rfl
def VA:TI:=⟨Kd.oth,1,8,Value.nilFunc⟩
theorem aXW:qn Tryz.prog 177=some VA:=by kernel_rfl
def Vz:TI:=⟨Kd.oth,1,8,Value.nilFunc⟩
theorem aXV:qn Tryz.prog 178=some Vz:=by kernel_rfl
def Vy:TI:=⟨Kd.oth,1,8,Value.nilFunc⟩
theorem aXU:qn Tryz.prog 179=some Vy:=by kernel_rfl
def Vx:TI:=⟨Kd.oth,1,8,Value.nilFunc⟩
theorem aXT:qn Tryz.prog 180=some Vx:=by kernel_rfl
def Vw:TI:=⟨Kd.oth,1,8,Value.nilFunc⟩
theorem aXS:qn Tryz.prog 182=some Vw:=by kernel_rfl
def Vv:TI:=⟨Kd.oth,1,8,Value.nilFunc⟩
theorem aXR:qn Tryz.prog 183=some Vv:=by kernel_rfl
def Vu:TI:=⟨Kd.oth,1,8,Value.nilFunc⟩
theorem aXQ:qn Tryz.prog 184=some Vu:=by kernel_rfl
def Vt:TI:=⟨Kd.oth,1,8,Value.nilFunc⟩
theorem aXP:qn Tryz.prog 185=some Vt:=by kernel_rfl
def Vs:TI:=⟨Kd.oth,1,8,Value.nilFunc⟩
theorem aXO:qn Tryz.prog 186=some Vs:=by kernel_rfl
def Vr:TI:=⟨Kd.oth,1,8,Value.nilFunc⟩
theorem aXN:qn Tryz.prog 187=some Vr:=by kernel_rfl
def Vq:TI:=⟨Kd.oth,1,8,Value.nilFunc⟩
theorem aXM:qn Tryz.prog 188=some Vq:=by kernel_rfl
def Vp:TI:=⟨Kd.oth,1,8,Value.nilFunc⟩
theorem aXL:qn Tryz.prog 189=some Vp:=by kernel_rfl
def Vo:TI:=⟨Kd.oth,1,8,Value.nilFunc⟩
theorem aXK:qn Tryz.prog 190=some Vo:=by kernel_rfl
def Vn:TI:=⟨Kd.oth,1,8,Value.nilFunc⟩
theorem aXJ:qn Tryz.prog 191=some Vn:=by kernel_rfl
def Vm:TI:=⟨Kd.oth,1,8,Value.nilFunc⟩
theorem aXI:qn Tryz.prog 192=some Vm:=by kernel_rfl
def Vl:TI:=⟨Kd.oth,1,8,Value.nilFunc⟩
theorem aXH:qn Tryz.prog 194=some Vl:=by kernel_rfl
def Vk:TI:=⟨Kd.sli 111,1,24,Value.slice none 0 0⟩
theorem aNG:qn Tryz.prog 195=some Vk:=by kernel_rfl
def Vj:TI:=⟨Kd.oth,1,8,Value.nilFunc⟩
theorem aXG:qn Tryz.prog 196=some Vj:=by kernel_rfl
def Vi:TI:=⟨Kd.oth,1,8,Value.nilFunc⟩
theorem aXF:qn Tryz.prog 197=some Vi:=by kernel_rfl
def Vh:TI:=⟨Kd.oth,1,8,Value.nilFunc⟩
theorem aXE:qn Tryz.prog 198=some Vh:=by kernel_rfl
def Vg:TI:=⟨Kd.oth,1,8,Value.nilFunc⟩
theorem aXD:qn Tryz.prog 199=some Vg:=by kernel_rfl
def Vf:TI:=⟨Kd.oth,1,8,Value.nilFunc⟩
theorem aXC:qn Tryz.prog 201=some Vf:=by kernel_rfl
def Ve:TI:=⟨Kd.oth,1,8,Value.nilFunc⟩
theorem aXB:qn Tryz.prog 203=some Ve:=by kernel_rfl
def Vd:TI:=⟨Kd.oth,1,8,Value.nilFunc⟩
theorem aXA:qn Tryz.prog 204=some Vd:=by kernel_rfl
def Vc:TI:=⟨Kd.oth,1,8,Value.nilFunc⟩
theorem aXz:qn Tryz.prog 205=some Vc:=by kernel_rfl
def Vb:TI:=⟨Kd.oth,1,8,Value.nilFunc⟩
theorem aXy:qn Tryz.prog 207=some Vb:=by kernel_rfl
def Va:TI:=⟨Kd.oth,1,8,Value.nilFunc⟩
theorem aXx:qn Tryz.prog 208=some Va:=by kernel_rfl
def X9:TI:=⟨Kd.oth,1,8,Value.nilFunc⟩
theorem aXw:qn Tryz.prog 209=some X9:=by kernel_rfl
def X8:TI:=⟨Kd.oth,1,8,Value.nilFunc⟩
theorem aXv:qn Tryz.prog 210=some X8:=by kernel_rfl
def X7:TI:=⟨Kd.oth,1,8,Value.nilFunc⟩
theorem aXu:qn Tryz.prog 211=some X7:=by kernel_rfl
def X6:TI:=⟨Kd.oth,1,8,Value.nilFunc⟩
theorem aXt:qn Tryz.prog 212=some X6:=by kernel_rfl
def X5:TI:=⟨Kd.oth,1,8,Value.nilFunc⟩
theorem aXs:qn Tryz.prog 213=some X5:=by kernel_rfl
def X4:TI:=⟨Kd.oth,1,8,Value.nilFunc⟩
theorem aXr:qn Tryz.prog 214=some X4:=by kernel_rfl
def X3:TI:=⟨Kd.oth,1,8,Value.nilFunc⟩
theorem aXq:qn Tryz.prog 215=some X3:=by kernel_rfl
def X2:TI:=⟨Kd.int IntKind.u64,1,8,Value.int IntKind.u64 0⟩
theorem aXp:qn Tryz.prog 216=some X2:=by kernel_rfl
def X1:TI:=⟨Kd.oth,1,8,Value.nilFunc⟩
theorem aXo:qn Tryz.prog 217=some X1:=by kernel_rfl
def X0:TI:=⟨Kd.oth,1,8,Value.nilFunc⟩
theorem aXn:qn Tryz.prog 218=some X0:=by kernel_rfl
def XZ:TI:=⟨Kd.oth,1,8,Value.nilFunc⟩
theorem aXm:qn Tryz.prog 219=some XZ:=by kernel_rfl
def XY:TI:=⟨Kd.oth,1,8,Value.nilFunc⟩
theorem aXl:qn Tryz.prog 220=some XY:=by kernel_rfl
def XX:TI:=⟨Kd.oth,1,8,Value.nilFunc⟩
theorem aXk:qn Tryz.prog 221=some XX:=by kernel_rfl
def XW:TI:=⟨Kd.oth,1,8,Value.nilFunc⟩
theorem aXj:qn Tryz.prog 222=some XW:=by kernel_rfl
def XV:TI:=⟨Kd.oth,1,8,Value.nilFunc⟩
theorem aXi:qn Tryz.prog 224=some XV:=by kernel_rfl
def XU:TI:=⟨Kd.oth,1,8,Value.nilFunc⟩
theorem aXh:qn Tryz.prog 225=some XU:=by kernel_rfl
def XT:TI:=⟨Kd.oth,1,8,Value.nilFunc⟩
theorem aXg:qn Tryz.prog 226=some XT:=by kernel_rfl
def XS:TI:=⟨Kd.oth,1,8,Value.nilFunc⟩
theorem aXf:qn Tryz.prog 227=some XS:=by kernel_rfl
def XR:TI:=⟨Kd.oth,1,8,Value.nilFunc⟩
theorem aXe:qn Tryz.prog 228=some XR:=by kernel_rfl
def XQ:TI:=⟨Kd.oth,1,8,Value.nilFunc⟩
theorem aXd:qn Tryz.prog 229=some XQ:=by kernel_rfl
def XP:TI:=⟨Kd.oth,1,8,Value.nilFunc⟩
theorem aXc:qn Tryz.prog 230=some XP:=by kernel_rfl
def XO:TI:=⟨Kd.oth,1,8,Value.nilFunc⟩
theorem aXb:qn Tryz.prog 231=some XO:=by kernel_rfl
def XN:TI:=⟨Kd.oth,1,8,Value.nilFunc⟩
theorem aXa:qn Tryz.prog 232=some XN:=by kernel_rfl
def XM:TI:=⟨Kd.oth,1,8,Value.nilFunc⟩
theorem aW9:qn Tryz.prog 233=some XM:=by kernel_rfl
def XL:TI:=⟨Kd.oth,1,8,Value.nilFunc⟩
theorem aW8:qn Tryz.prog 234=some XL:=by kernel_rfl
def XK:TI:=⟨Kd.oth,1,8,Value.nilFunc⟩
theorem aW7:qn Tryz.prog 235=some XK:=by kernel_rfl
def XJ:TI:=⟨Kd.oth,1,8,Value.nilFunc⟩
theorem aW6:qn Tryz.prog 236=some XJ:=by kernel_rfl
def XI:TI:=⟨Kd.oth,1,8,Value.nilFunc⟩
theorem aW5:qn Tryz.prog 237=some XI:=by kernel_rfl
def XH:TI:=⟨Kd.oth,1,8,Value.nilFunc⟩
theorem aW4:qn Tryz.prog 238=some XH:=by kernel_rfl
def XG:TI:=⟨Kd.oth,1,8,Value.nilFunc⟩
theorem aW3:qn Tryz.prog 239=some XG:=by kernel_rfl
def XF:TI:=⟨Kd.oth,1,8,Value.nilFunc⟩
theorem aW2:qn Tryz.prog 240=some XF:=by kernel_rfl
def XE:TI:=⟨Kd.oth,1,8,Value.nilFunc⟩
theorem aW1:qn Tryz.prog 241=some XE:=by kernel_rfl
def XD:TI:=⟨Kd.oth,1,8,Value.nilFunc⟩
theorem aW0:qn Tryz.prog 242=some XD:=by kernel_rfl
def XC:TI:=⟨Kd.oth,1,8,Value.nilFunc⟩
theorem aWZ:qn Tryz.prog 243=some XC:=by kernel_rfl
def XB:TI:=⟨Kd.oth,1,8,Value.nilFunc⟩
theorem aWY:qn Tryz.prog 245=some XB:=by kernel_rfl
def XA:TI:=⟨Kd.oth,1,8,Value.nilFunc⟩
theorem aWX:qn Tryz.prog 246=some XA:=by kernel_rfl
def Xz:TI:=⟨Kd.oth,1,8,Value.nilFunc⟩
theorem aWW:qn Tryz.prog 247=some Xz:=by kernel_rfl
def Xy:TI:=⟨Kd.oth,1,8,Value.nilFunc⟩
theorem aWV:qn Tryz.prog 249=some Xy:=by kernel_rfl
def Xx:TI:=⟨Kd.oth,1,8,Value.nilFunc⟩
theorem aWU:qn Tryz.prog 250=some Xx:=by kernel_rfl
def Xw:TI:=⟨Kd.oth,1,8,Value.nilFunc⟩
theorem aWT:qn Tryz.prog 251=some Xw:=by kernel_rfl
def Xv:TI:=⟨Kd.int IntKind.u32,1,4,Value.int IntKind.u32 0⟩
theorem aWS:qn Tryz.prog 252=some Xv:=by kernel_rfl
def Xu:TI:=⟨Kd.oth,1,8,Value.nilFunc⟩
theorem aWR:qn Tryz.prog 253=some Xu:=by kernel_rfl
def Xt:TI:=⟨Kd.int IntKind.u64,1,8,Value.int IntKind.u64 0⟩
theorem aWQ:qn Tryz.prog 254=some Xt:=by kernel_rfl
def Xs:TI:=⟨Kd.oth,1,8,Value.nilFunc⟩
theorem aWP:qn Tryz.prog 256=some Xs:=by kernel_rfl
def Xr:TI:=⟨Kd.oth,1,8,Value.nilFunc⟩
theorem aWO:qn Tryz.prog 257=some Xr:=by kernel_rfl
def Xq:TI:=⟨Kd.oth,1,8,Value.nilFunc⟩
theorem aWN:qn Tryz.prog 258=some Xq:=by kernel_rfl
def Xp:TI:=⟨Kd.oth,1,8,Value.nilFunc⟩
theorem aWM:qn Tryz.prog 259=some Xp:=by kernel_rfl
def Xo:TI:=⟨Kd.oth,1,8,Value.nilFunc⟩
theorem aWL:qn Tryz.prog 260=some Xo:=by kernel_rfl
def Xn:TI:=⟨Kd.oth,1,8,Value.nilFunc⟩
theorem aWK:qn Tryz.prog 263=some Xn:=by kernel_rfl
def Xm:TI:=⟨Kd.stru [(0,266)],0,0,Value.agg ⟨[]⟩⟩
theorem aWJ:qn Tryz.prog 267=some Xm:=by kernel_rfl
def Xl:TI:=⟨Kd.stru [(0,266)],0,0,Value.agg ⟨[]⟩⟩
theorem aWI:qn Tryz.prog 268=some Xl:=by kernel_rfl
def Xk:TI:=⟨Kd.int IntKind.u8,1,1,Value.int IntKind.u8 0⟩
theorem aWH:qn Tryz.prog 269=some Xk:=by kernel_rfl
def Xj:TI:=⟨Kd.int IntKind.u8,1,1,Value.int IntKind.u8 0⟩
theorem aWG:qn Tryz.prog 270=some Xj:=by kernel_rfl
def Xi:TI:=⟨Kd.oth,1,8,Value.nilFunc⟩
theorem aWF:qn Tryz.prog 271=some Xi:=by kernel_rfl
def Xh:TI:=⟨Kd.int IntKind.i32,1,4,Value.int IntKind.i32 0⟩
theorem aWE:qn Tryz.prog 273=some Xh:=by kernel_rfl
def Xg:TI:=⟨Kd.int IntKind.i32,1,4,Value.int IntKind.i32 0⟩
theorem aWD:qn Tryz.prog 274=some Xg:=by kernel_rfl
def Xf:TI:=⟨Kd.oth,1,8,Value.nilFunc⟩
theorem aWC:qn Tryz.prog 277=some Xf:=by kernel_rfl
theorem ty1{K:TI→Prop}:@tyW Tryz.prog 1 ⟨K⟩=K ti1:=qh tf1
theorem aNE:ti1.kd=Kd.oth:=ID rfl
theorem aIB:ti1.kd.agg=false:=ID rfl
theorem avY:ti1.size=1:=ID rfl
theorem amL:ti1.bytes=8:=ID rfl
theorem aNC:qw ti1=True:=eq_true rfl
theorem aND:zc ti1=[.v Value.nilFunc]:=ID rfl
theorem ty2{K:TI→Prop}:@tyW Tryz.prog 2 ⟨K⟩=K ti2:=qh tf2
theorem aNB:ti2.kd=Kd.int IntKind.i64:=ID rfl
theorem aIf:ti2.kd.agg=false:=ID rfl
theorem asN:ti2.size=1:=ID rfl
theorem alx:ti2.bytes=8:=ID rfl
theorem aNz:qw ti2=True:=eq_true rfl
theorem aNA:zc ti2=[.v (Value.int IntKind.i64 0)]:=ID rfl
theorem ty3{K:TI→Prop}:@tyW Tryz.prog 3 ⟨K⟩=K ti3:=qh tf3
theorem aNy:ti3.kd=Kd.int IntKind.i64:=ID rfl
theorem aHK:ti3.kd.agg=false:=ID rfl
theorem asC:ti3.size=1:=ID rfl
theorem alj:ti3.bytes=8:=ID rfl
theorem aNw:qw ti3=True:=eq_true rfl
theorem aNx:zc ti3=[.v (Value.int IntKind.i64 0)]:=ID rfl
theorem ty4{K:TI→Prop}:@tyW Tryz.prog 4 ⟨K⟩=K ti4:=qh tf4
theorem aNv:ti4.kd=Kd.bool:=ID rfl
theorem aHl:ti4.kd.agg=false:=ID rfl
theorem ast:ti4.size=1:=ID rfl
theorem ala:ti4.bytes=1:=ID rfl
theorem aNt:qw ti4=True:=eq_true rfl
theorem aNu:zc ti4=[.v (Value.bool false)]:=ID rfl
theorem ty5{K:TI→Prop}:@tyW Tryz.prog 5 ⟨K⟩=K ti5:=qh tf5
theorem aNs:ti5.kd=Kd.int IntKind.u8:=ID rfl
theorem aGZ:ti5.kd.agg=false:=ID rfl
theorem asl:ti5.size=1:=ID rfl
theorem ak1:ti5.bytes=1:=ID rfl
theorem aNq:qw ti5=True:=eq_true rfl
theorem aNr:zc ti5=[.v (Value.int IntKind.u8 0)]:=ID rfl
theorem ty6{K:TI→Prop}:@tyW Tryz.prog 6 ⟨K⟩=K ti6:=qh tf6
theorem aNp:ti6.kd=Kd.int IntKind.u8:=ID rfl
theorem aGx:ti6.kd.agg=false:=ID rfl
theorem asb:ti6.size=1:=ID rfl
theorem akR:ti6.bytes=1:=ID rfl
theorem aNn:qw ti6=True:=eq_true rfl
theorem aNo:zc ti6=[.v (Value.int IntKind.u8 0)]:=ID rfl
theorem ty7{K:TI→Prop}:@tyW Tryz.prog 7 ⟨K⟩=K ti7:=qh tf7
theorem aNm:ti7.kd=Kd.stru [(0,2),(1,3),(2,4),(3,6)]:=ID rfl
theorem aGe:ti7.kd.agg=true:=ID rfl
theorem ar4:ti7.size=4:=ID rfl
theorem akK:ti7.bytes=24:=ID rfl
theorem aNk:qw ti7=True:=eq_true rfl
theorem aNl:zc ti7=[.v (Value.int IntKind.i64 0),.v (Value.int IntKind.i64 0),.v (Value.bool false),.v (Value.int IntKind.u8 0)]:=ID rfl
theorem aSM{K:Nat→TI→Prop}:@qz Tryz.prog 7 0 ⟨K⟩=K 0 ti2:=qr (ti:=ti7) (tf:=ti2) (fo:=(0,2)) (fs:=[(0,2),(1,3),(2,4),(3,6)]) tf7 rfl rfl tf2
theorem aZi{K:Nat→Nat→Prop}:qt Tryz.prog [(0,2),(1,3),(2,4),(3,6)] 0 K=K 0 1:=qq (tf:=ti2) (fo:=(0,2)) (fs:=[(0,2),(1,3),(2,4),(3,6)]) rfl tf2
theorem aSL{K:Nat→TI→Prop}:@qz Tryz.prog 7 1 ⟨K⟩=K 1 ti3:=qr (ti:=ti7) (tf:=ti3) (fo:=(1,3)) (fs:=[(0,2),(1,3),(2,4),(3,6)]) tf7 rfl rfl tf3
theorem aZh{K:Nat→Nat→Prop}:qt Tryz.prog [(0,2),(1,3),(2,4),(3,6)] 1 K=K 1 1:=qq (tf:=ti3) (fo:=(1,3)) (fs:=[(0,2),(1,3),(2,4),(3,6)]) rfl tf3
theorem aSK{K:Nat→TI→Prop}:@qz Tryz.prog 7 2 ⟨K⟩=K 2 ti4:=qr (ti:=ti7) (tf:=ti4) (fo:=(2,4)) (fs:=[(0,2),(1,3),(2,4),(3,6)]) tf7 rfl rfl tf4
theorem aZg{K:Nat→Nat→Prop}:qt Tryz.prog [(0,2),(1,3),(2,4),(3,6)] 2 K=K 2 1:=qq (tf:=ti4) (fo:=(2,4)) (fs:=[(0,2),(1,3),(2,4),(3,6)]) rfl tf4
theorem aSJ{K:Nat→TI→Prop}:@qz Tryz.prog 7 3 ⟨K⟩=K 3 ti6:=qr (ti:=ti7) (tf:=ti6) (fo:=(3,6)) (fs:=[(0,2),(1,3),(2,4),(3,6)]) tf7 rfl rfl tf6
theorem aZf{K:Nat→Nat→Prop}:qt Tryz.prog [(0,2),(1,3),(2,4),(3,6)] 3 K=K 3 1:=qq (tf:=ti6) (fo:=(3,6)) (fs:=[(0,2),(1,3),(2,4),(3,6)]) rfl tf6
theorem aZB:∀f∈([(0,2),(1,3),(2,4),(3,6)]:List (Nat×Nat)),(qn Tryz.prog f.2).isSome=true:=by
 intro f hf
 simp only[List.mem_cons,List.not_mem_nil,or_false]at hf
 rcases hf with rfl|rfl|rfl|rfl
 ·rw[tf2];rfl
 ·rw[tf3];rfl
 ·rw[tf4];rfl
 ·rw[tf6];rfl
theorem ben{ps:List (Nat×AV)}{K:AV→Prop}:@zi Tryz.prog 7 ps ⟨K⟩=@zh (qt Tryz.prog [(0,2),(1,3),(2,4),(3,6)]) (zc ti7) ps ⟨fun cs=>K (.ag cs)⟩:=qM tf7 rfl aZB
theorem ty8{K:TI→Prop}:@tyW Tryz.prog 8 ⟨K⟩=K ti8:=qh tf8
theorem aNj:ti8.kd=Kd.stru [(0,2),(1,3),(2,4),(3,6)]:=ID rfl
theorem aFP:ti8.kd.agg=true:=ID rfl
theorem arV:ti8.size=4:=ID rfl
theorem akz:ti8.bytes=24:=ID rfl
theorem aNh:qw ti8=True:=eq_true rfl
theorem aNi:zc ti8=[.v (Value.int IntKind.i64 0),.v (Value.int IntKind.i64 0),.v (Value.bool false),.v (Value.int IntKind.u8 0)]:=ID rfl
theorem aSI{K:Nat→TI→Prop}:@qz Tryz.prog 8 0 ⟨K⟩=K 0 ti2:=qr (ti:=ti8) (tf:=ti2) (fo:=(0,2)) (fs:=[(0,2),(1,3),(2,4),(3,6)]) tf8 rfl rfl tf2
theorem aZe{K:Nat→Nat→Prop}:qt Tryz.prog [(0,2),(1,3),(2,4),(3,6)] 0 K=K 0 1:=qq (tf:=ti2) (fo:=(0,2)) (fs:=[(0,2),(1,3),(2,4),(3,6)]) rfl tf2
theorem aSH{K:Nat→TI→Prop}:@qz Tryz.prog 8 1 ⟨K⟩=K 1 ti3:=qr (ti:=ti8) (tf:=ti3) (fo:=(1,3)) (fs:=[(0,2),(1,3),(2,4),(3,6)]) tf8 rfl rfl tf3
theorem aZd{K:Nat→Nat→Prop}:qt Tryz.prog [(0,2),(1,3),(2,4),(3,6)] 1 K=K 1 1:=qq (tf:=ti3) (fo:=(1,3)) (fs:=[(0,2),(1,3),(2,4),(3,6)]) rfl tf3
theorem aSG{K:Nat→TI→Prop}:@qz Tryz.prog 8 2 ⟨K⟩=K 2 ti4:=qr (ti:=ti8) (tf:=ti4) (fo:=(2,4)) (fs:=[(0,2),(1,3),(2,4),(3,6)]) tf8 rfl rfl tf4
theorem aZc{K:Nat→Nat→Prop}:qt Tryz.prog [(0,2),(1,3),(2,4),(3,6)] 2 K=K 2 1:=qq (tf:=ti4) (fo:=(2,4)) (fs:=[(0,2),(1,3),(2,4),(3,6)]) rfl tf4
theorem aSF{K:Nat→TI→Prop}:@qz Tryz.prog 8 3 ⟨K⟩=K 3 ti6:=qr (ti:=ti8) (tf:=ti6) (fo:=(3,6)) (fs:=[(0,2),(1,3),(2,4),(3,6)]) tf8 rfl rfl tf6
theorem aZb{K:Nat→Nat→Prop}:qt Tryz.prog [(0,2),(1,3),(2,4),(3,6)] 3 K=K 3 1:=qq (tf:=ti6) (fo:=(3,6)) (fs:=[(0,2),(1,3),(2,4),(3,6)]) rfl tf6
theorem aZA:∀f∈([(0,2),(1,3),(2,4),(3,6)]:List (Nat×Nat)),(qn Tryz.prog f.2).isSome=true:=by
 intro f hf
 simp only[List.mem_cons,List.not_mem_nil,or_false]at hf
 rcases hf with rfl|rfl|rfl|rfl
 ·rw[tf2];rfl
 ·rw[tf3];rfl
 ·rw[tf4];rfl
 ·rw[tf6];rfl
theorem bem{ps:List (Nat×AV)}{K:AV→Prop}:@zi Tryz.prog 8 ps ⟨K⟩=@zh (qt Tryz.prog [(0,2),(1,3),(2,4),(3,6)]) (zc ti8) ps ⟨fun cs=>K (.ag cs)⟩:=qM tf8 rfl aZA
theorem ty9{K:TI→Prop}:@tyW Tryz.prog 9 ⟨K⟩=K ti9:=qh tf9
theorem aNg:ti9.kd=Kd.str:=ID rfl
theorem aFq:ti9.kd.agg=false:=ID rfl
theorem arM:ti9.size=1:=ID rfl
theorem akq:ti9.bytes=16:=ID rfl
theorem aNe:qw ti9=True:=eq_true rfl
theorem aNf:zc ti9=[.v (Value.string {data:=⟨[]⟩})]:=ID rfl
theorem bcR{K:TI→Prop}:@tyW Tryz.prog 10 ⟨K⟩=K aEy:=qh bdG
theorem aIK:aEy.kd=Kd.str:=ID rfl
theorem az7:aEy.kd.agg=false:=ID rfl
theorem aoc:aEy.size=1:=ID rfl
theorem aiQ:aEy.bytes=16:=ID rfl
theorem aII:qw aEy=True:=eq_true rfl
theorem aIJ:zc aEy=[.v (Value.string {data:=⟨[]⟩})]:=ID rfl
theorem bcQ{K:TI→Prop}:@tyW Tryz.prog 11 ⟨K⟩=K aEx:=qh bdF
theorem aIH:aEx.kd=Kd.str:=ID rfl
theorem azC:aEx.kd.agg=false:=ID rfl
theorem an1:aEx.size=1:=ID rfl
theorem aiF:aEx.bytes=16:=ID rfl
theorem aIF:qw aEx=True:=eq_true rfl
theorem aIG:zc aEx=[.v (Value.string {data:=⟨[]⟩})]:=ID rfl
theorem bcP{K:TI→Prop}:@tyW Tryz.prog 12 ⟨K⟩=K aEw:=qh bdE
theorem aIE:aEw.kd=Kd.int IntKind.u64:=ID rfl
theorem ay7:aEw.kd.agg=false:=ID rfl
theorem anQ:aEw.size=1:=ID rfl
theorem aiu:aEw.bytes=8:=ID rfl
theorem aIC:qw aEw=True:=eq_true rfl
theorem aID:zc aEw=[.v (Value.int IntKind.u64 0)]:=ID rfl
theorem bcO{K:TI→Prop}:@tyW Tryz.prog 21 ⟨K⟩=K aEv:=qh bdD
theorem aIA:aEv.kd=Kd.int IntKind.i32:=ID rfl
theorem au8:aEv.kd.agg=false:=ID rfl
theorem amt:aEv.size=1:=ID rfl
theorem aha:aEv.bytes=4:=ID rfl
theorem aIy:qw aEv=True:=eq_true rfl
theorem aIz:zc aEv=[.v (Value.int IntKind.i32 0)]:=ID rfl
theorem bcN{K:TI→Prop}:@tyW Tryz.prog 22 ⟨K⟩=K aeM:=qh aEB
theorem aIx:aeM.kd=Kd.sli 5:=ID rfl
theorem auG:aeM.kd.agg=false:=ID rfl
theorem amj:aeM.size=1:=ID rfl
theorem ag0:aeM.bytes=24:=ID rfl
theorem aIv:qw aeM=True:=eq_true rfl
theorem aIw:zc aeM=[.v (Value.slice none 0 0)]:=ID rfl
theorem aY2{K:TI→Prop}:@yG Tryz.prog 22 ⟨K⟩=K ti5:=Zy aEB rfl tf5
theorem bcM{K:TI→Prop}:@tyW Tryz.prog 23 ⟨K⟩=K aeL:=qh aEA
theorem aIu:aeL.kd=Kd.sli 40:=ID rfl
theorem aub:aeL.kd.agg=false:=ID rfl
theorem al8:aeL.size=1:=ID rfl
theorem agP:aeL.bytes=24:=ID rfl
theorem aIs:qw aeL=True:=eq_true rfl
theorem aIt:zc aeL=[.v (Value.slice none 0 0)]:=ID rfl
theorem aY1{K:TI→Prop}:@yG Tryz.prog 23 ⟨K⟩=K Za:=Zy aEA rfl KC
theorem bcL{K:TI→Prop}:@tyW Tryz.prog 24 ⟨K⟩=K al7:=qh aT1
theorem aIr:al7.kd=Kd.stru [(0,3),(1,23)]:=ID rfl
theorem atM:al7.kd.agg=true:=ID rfl
theorem alY:al7.size=2:=ID rfl
theorem agG:al7.bytes=32:=ID rfl
theorem aIp:qw al7=True:=eq_true rfl
theorem aIq:zc al7=[.v (Value.int IntKind.i64 0),.v (Value.slice none 0 0)]:=ID rfl
theorem aLB{K:Nat→TI→Prop}:@qz Tryz.prog 24 0 ⟨K⟩=K 0 ti3:=qr (ti:=al7) (tf:=ti3) (fo:=(0,3)) (fs:=[(0,3),(1,23)]) aT1 rfl rfl tf3
theorem aOB{K:Nat→Nat→Prop}:qt Tryz.prog [(0,3),(1,23)] 0 K=K 0 1:=qq (tf:=ti3) (fo:=(0,3)) (fs:=[(0,3),(1,23)]) rfl tf3
theorem aLA{K:Nat→TI→Prop}:@qz Tryz.prog 24 1 ⟨K⟩=K 1 aeL:=qr (ti:=al7) (tf:=aeL) (fo:=(1,23)) (fs:=[(0,3),(1,23)]) aT1 rfl rfl aEA
theorem aOA{K:Nat→Nat→Prop}:qt Tryz.prog [(0,3),(1,23)] 1 K=K 1 1:=qq (tf:=aeL) (fo:=(1,23)) (fs:=[(0,3),(1,23)]) rfl aEA
theorem aPr:∀f∈([(0,3),(1,23)]:List (Nat×Nat)),(qn Tryz.prog f.2).isSome=true:=by
 intro f hf
 simp only[List.mem_cons,List.not_mem_nil,or_false]at hf
 rcases hf with rfl|rfl
 ·rw[tf3];rfl
 ·rw[aEA];rfl
theorem bbq{ps:List (Nat×AV)}{K:AV→Prop}:@zi Tryz.prog 24 ps ⟨K⟩=@zh (qt Tryz.prog [(0,3),(1,23)]) (zc al7) ps ⟨fun cs=>K (.ag cs)⟩:=qM aT1 rfl aPr
theorem bcK{K:TI→Prop}:@tyW Tryz.prog 25 ⟨K⟩=K alX:=qh aT0
theorem aIo:alX.kd=Kd.stru [(0,3),(1,23)]:=ID rfl
theorem atk:alX.kd.agg=true:=ID rfl
theorem alN:alX.size=2:=ID rfl
theorem agw:alX.bytes=32:=ID rfl
theorem aIm:qw alX=True:=eq_true rfl
theorem aIn:zc alX=[.v (Value.int IntKind.i64 0),.v (Value.slice none 0 0)]:=ID rfl
theorem aLz{K:Nat→TI→Prop}:@qz Tryz.prog 25 0 ⟨K⟩=K 0 ti3:=qr (ti:=alX) (tf:=ti3) (fo:=(0,3)) (fs:=[(0,3),(1,23)]) aT0 rfl rfl tf3
theorem aOz{K:Nat→Nat→Prop}:qt Tryz.prog [(0,3),(1,23)] 0 K=K 0 1:=qq (tf:=ti3) (fo:=(0,3)) (fs:=[(0,3),(1,23)]) rfl tf3
theorem aLy{K:Nat→TI→Prop}:@qz Tryz.prog 25 1 ⟨K⟩=K 1 aeL:=qr (ti:=alX) (tf:=aeL) (fo:=(1,23)) (fs:=[(0,3),(1,23)]) aT0 rfl rfl aEA
theorem aOy{K:Nat→Nat→Prop}:qt Tryz.prog [(0,3),(1,23)] 1 K=K 1 1:=qq (tf:=aeL) (fo:=(1,23)) (fs:=[(0,3),(1,23)]) rfl aEA
theorem aPq:∀f∈([(0,3),(1,23)]:List (Nat×Nat)),(qn Tryz.prog f.2).isSome=true:=by
 intro f hf
 simp only[List.mem_cons,List.not_mem_nil,or_false]at hf
 rcases hf with rfl|rfl
 ·rw[tf3];rfl
 ·rw[aEA];rfl
theorem bbp{ps:List (Nat×AV)}{K:AV→Prop}:@zi Tryz.prog 25 ps ⟨K⟩=@zh (qt Tryz.prog [(0,3),(1,23)]) (zc alX) ps ⟨fun cs=>K (.ag cs)⟩:=qM aT0 rfl aPq
theorem bcJ{K:TI→Prop}:@tyW Tryz.prog 27 ⟨K⟩=K aEu:=qh bdC
theorem aIl:aEu.kd=Kd.oth:=ID rfl
theorem asP:aEu.kd.agg=false:=ID rfl
theorem alz:aEu.size=1:=ID rfl
theorem agl:aEu.bytes=8:=ID rfl
theorem aIj:qw aEu=True:=eq_true rfl
theorem aIk:zc aEu=[.v Value.nilFunc]:=ID rfl
theorem bcI{K:TI→Prop}:@tyW Tryz.prog 29 ⟨K⟩=K aEt:=qh bdB
theorem aIi:aEt.kd=Kd.oth:=ID rfl
theorem asO:aEt.kd.agg=false:=ID rfl
theorem aly:aEt.size=1:=ID rfl
theorem agk:aEt.bytes=8:=ID rfl
theorem aIg:qw aEt=True:=eq_true rfl
theorem aIh:zc aEt=[.v Value.nilFunc]:=ID rfl
theorem bcH{K:TI→Prop}:@tyW Tryz.prog 30 ⟨K⟩=K aEs:=qh bdA
theorem aIe:aEs.kd=Kd.oth:=ID rfl
theorem asM:aEs.kd.agg=false:=ID rfl
theorem alw:aEs.size=1:=ID rfl
theorem agj:aEs.bytes=8:=ID rfl
theorem aIc:qw aEs=True:=eq_true rfl
theorem aId:zc aEs=[.v Value.nilFunc]:=ID rfl
theorem bcG{K:TI→Prop}:@tyW Tryz.prog 31 ⟨K⟩=K aEr:=qh bdz
theorem aIb:aEr.kd=Kd.oth:=ID rfl
theorem asL:aEr.kd.agg=false:=ID rfl
theorem alv:aEr.size=1:=ID rfl
theorem agi:aEr.bytes=8:=ID rfl
theorem aH9:qw aEr=True:=eq_true rfl
theorem aIa:zc aEr=[.v Value.nilFunc]:=ID rfl
theorem bcF{K:TI→Prop}:@tyW Tryz.prog 32 ⟨K⟩=K aEq:=qh bdy
theorem aH8:aEq.kd=Kd.oth:=ID rfl
theorem asK:aEq.kd.agg=false:=ID rfl
theorem alu:aEq.size=1:=ID rfl
theorem agh:aEq.bytes=8:=ID rfl
theorem aH6:qw aEq=True:=eq_true rfl
theorem aH7:zc aEq=[.v Value.nilFunc]:=ID rfl
theorem bcE{K:TI→Prop}:@tyW Tryz.prog 33 ⟨K⟩=K aEp:=qh bdx
theorem aH5:aEp.kd=Kd.oth:=ID rfl
theorem asJ:aEp.kd.agg=false:=ID rfl
theorem alt:aEp.size=1:=ID rfl
theorem agf:aEp.bytes=8:=ID rfl
theorem aH3:qw aEp=True:=eq_true rfl
theorem aH4:zc aEp=[.v Value.nilFunc]:=ID rfl
theorem bcD{K:TI→Prop}:@tyW Tryz.prog 34 ⟨K⟩=K Jv:=qh aeN
theorem aH2:Jv.kd=Kd.sli 3:=ID rfl
theorem asI:Jv.kd.agg=false:=ID rfl
theorem als:Jv.size=1:=ID rfl
theorem age:Jv.bytes=24:=ID rfl
theorem aH0:qw Jv=True:=eq_true rfl
theorem aH1:zc Jv=[.v (Value.slice none 0 0)]:=ID rfl
theorem aY0{K:TI→Prop}:@yG Tryz.prog 34 ⟨K⟩=K ti3:=Zy aeN rfl tf3
theorem bcC{K:TI→Prop}:@tyW Tryz.prog 35 ⟨K⟩=K ars:=qh aWB
theorem aHZ:ars.kd=Kd.stru [(0,34)]:=ID rfl
theorem asH:ars.kd.agg=true:=ID rfl
theorem alr:ars.size=1:=ID rfl
theorem agd:ars.bytes=24:=ID rfl
theorem aHX:qw ars=True:=eq_true rfl
theorem aHY:zc ars=[.v (Value.slice none 0 0)]:=ID rfl
theorem aLx{K:Nat→TI→Prop}:@qz Tryz.prog 35 0 ⟨K⟩=K 0 Jv:=qr (ti:=ars) (tf:=Jv) (fo:=(0,34)) (fs:=[(0,34)]) aWB rfl rfl aeN
theorem aOx{K:Nat→Nat→Prop}:qt Tryz.prog [(0,34)] 0 K=K 0 1:=qq (tf:=Jv) (fo:=(0,34)) (fs:=[(0,34)]) rfl aeN
theorem aPp:∀f∈([(0,34)]:List (Nat×Nat)),(qn Tryz.prog f.2).isSome=true:=by
 intro f hf
 simp only[List.mem_cons,List.not_mem_nil,or_false]at hf
 subst hf;rw[aeN];rfl
theorem bbo{ps:List (Nat×AV)}{K:AV→Prop}:@zi Tryz.prog 35 ps ⟨K⟩=@zh (qt Tryz.prog [(0,34)]) (zc ars) ps ⟨fun cs=>K (.ag cs)⟩:=qM aWB rfl aPp
theorem bcB{K:TI→Prop}:@tyW Tryz.prog 36 ⟨K⟩=K aaN:=qh aAC
theorem aHW:aaN.kd=Kd.stru [(0,34)]:=ID rfl
theorem asG:aaN.kd.agg=true:=ID rfl
theorem alq:aaN.size=1:=ID rfl
theorem agc:aaN.bytes=24:=ID rfl
theorem aHU:qw aaN=True:=eq_true rfl
theorem aHV:zc aaN=[.v (Value.slice none 0 0)]:=ID rfl
theorem aLw{K:Nat→TI→Prop}:@qz Tryz.prog 36 0 ⟨K⟩=K 0 Jv:=qr (ti:=aaN) (tf:=Jv) (fo:=(0,34)) (fs:=[(0,34)]) aAC rfl rfl aeN
theorem aOw{K:Nat→Nat→Prop}:qt Tryz.prog [(0,34)] 0 K=K 0 1:=qq (tf:=Jv) (fo:=(0,34)) (fs:=[(0,34)]) rfl aeN
theorem aPo:∀f∈([(0,34)]:List (Nat×Nat)),(qn Tryz.prog f.2).isSome=true:=by
 intro f hf
 simp only[List.mem_cons,List.not_mem_nil,or_false]at hf
 subst hf;rw[aeN];rfl
theorem bbn{ps:List (Nat×AV)}{K:AV→Prop}:@zi Tryz.prog 36 ps ⟨K⟩=@zh (qt Tryz.prog [(0,34)]) (zc aaN) ps ⟨fun cs=>K (.ag cs)⟩:=qM aAC rfl aPo
theorem bcA{K:TI→Prop}:@tyW Tryz.prog 37 ⟨K⟩=K alp:=qh aTZ
theorem aHT:alp.kd=Kd.stru [(0,4),(1,36)]:=ID rfl
theorem asF:alp.kd.agg=true:=ID rfl
theorem alo:alp.size=2:=ID rfl
theorem agb:alp.bytes=32:=ID rfl
theorem aHR:qw alp=True:=eq_true rfl
theorem aHS:zc alp=[.v (Value.bool false),.v (Value.slice none 0 0)]:=ID rfl
theorem aLv{K:Nat→TI→Prop}:@qz Tryz.prog 37 0 ⟨K⟩=K 0 ti4:=qr (ti:=alp) (tf:=ti4) (fo:=(0,4)) (fs:=[(0,4),(1,36)]) aTZ rfl rfl tf4
theorem aOv{K:Nat→Nat→Prop}:qt Tryz.prog [(0,4),(1,36)] 0 K=K 0 1:=qq (tf:=ti4) (fo:=(0,4)) (fs:=[(0,4),(1,36)]) rfl tf4
theorem aLu{K:Nat→TI→Prop}:@qz Tryz.prog 37 1 ⟨K⟩=K 1 aaN:=qr (ti:=alp) (tf:=aaN) (fo:=(1,36)) (fs:=[(0,4),(1,36)]) aTZ rfl rfl aAC
theorem aOu{K:Nat→Nat→Prop}:qt Tryz.prog [(0,4),(1,36)] 1 K=K 1 1:=qq (tf:=aaN) (fo:=(1,36)) (fs:=[(0,4),(1,36)]) rfl aAC
theorem aPn:∀f∈([(0,4),(1,36)]:List (Nat×Nat)),(qn Tryz.prog f.2).isSome=true:=by
 intro f hf
 simp only[List.mem_cons,List.not_mem_nil,or_false]at hf
 rcases hf with rfl|rfl
 ·rw[tf4];rfl
 ·rw[aAC];rfl
theorem bbm{ps:List (Nat×AV)}{K:AV→Prop}:@zi Tryz.prog 37 ps ⟨K⟩=@zh (qt Tryz.prog [(0,4),(1,36)]) (zc alp) ps ⟨fun cs=>K (.ag cs)⟩:=qM aTZ rfl aPn
theorem bcz{K:TI→Prop}:@tyW Tryz.prog 38 ⟨K⟩=K Xe:=qh art
theorem aHQ:Xe.kd=Kd.stru [(0,4),(1,36)]:=ID rfl
theorem asE:Xe.kd.agg=true:=ID rfl
theorem aln:Xe.size=2:=ID rfl
theorem aga:Xe.bytes=32:=ID rfl
theorem aHO:qw Xe=True:=eq_true rfl
theorem aHP:zc Xe=[.v (Value.bool false),.v (Value.slice none 0 0)]:=ID rfl
theorem aLt{K:Nat→TI→Prop}:@qz Tryz.prog 38 0 ⟨K⟩=K 0 ti4:=qr (ti:=Xe) (tf:=ti4) (fo:=(0,4)) (fs:=[(0,4),(1,36)]) art rfl rfl tf4
theorem aOt{K:Nat→Nat→Prop}:qt Tryz.prog [(0,4),(1,36)] 0 K=K 0 1:=qq (tf:=ti4) (fo:=(0,4)) (fs:=[(0,4),(1,36)]) rfl tf4
theorem aLs{K:Nat→TI→Prop}:@qz Tryz.prog 38 1 ⟨K⟩=K 1 aaN:=qr (ti:=Xe) (tf:=aaN) (fo:=(1,36)) (fs:=[(0,4),(1,36)]) art rfl rfl aAC
theorem aOs{K:Nat→Nat→Prop}:qt Tryz.prog [(0,4),(1,36)] 1 K=K 1 1:=qq (tf:=aaN) (fo:=(1,36)) (fs:=[(0,4),(1,36)]) rfl aAC
theorem aPm:∀f∈([(0,4),(1,36)]:List (Nat×Nat)),(qn Tryz.prog f.2).isSome=true:=by
 intro f hf
 simp only[List.mem_cons,List.not_mem_nil,or_false]at hf
 rcases hf with rfl|rfl
 ·rw[tf4];rfl
 ·rw[aAC];rfl
theorem bbl{ps:List (Nat×AV)}{K:AV→Prop}:@zi Tryz.prog 38 ps ⟨K⟩=@zh (qt Tryz.prog [(0,4),(1,36)]) (zc Xe) ps ⟨fun cs=>K (.ag cs)⟩:=qM art rfl aPm
theorem bcy{K:TI→Prop}:@tyW Tryz.prog 39 ⟨K⟩=K alm:=qh aTY
theorem aHN:alm.kd=Kd.stru [(0,38),(2,3)]:=ID rfl
theorem asD:alm.kd.agg=true:=ID rfl
theorem alk:alm.size=3:=ID rfl
theorem af9:alm.bytes=40:=ID rfl
theorem aHL:qw alm=True:=eq_true rfl
theorem aHM:zc alm=[.v (Value.bool false),.v (Value.slice none 0 0),.v (Value.int IntKind.i64 0)]:=ID rfl
theorem aLr{K:Nat→TI→Prop}:@qz Tryz.prog 39 0 ⟨K⟩=K 0 Xe:=qr (ti:=alm) (tf:=Xe) (fo:=(0,38)) (fs:=[(0,38),(2,3)]) aTY rfl rfl art
theorem aOr{K:Nat→Nat→Prop}:qt Tryz.prog [(0,38),(2,3)] 0 K=K 0 2:=qq (tf:=Xe) (fo:=(0,38)) (fs:=[(0,38),(2,3)]) rfl art
theorem aLq{K:Nat→TI→Prop}:@qz Tryz.prog 39 1 ⟨K⟩=K 2 ti3:=qr (ti:=alm) (tf:=ti3) (fo:=(2,3)) (fs:=[(0,38),(2,3)]) aTY rfl rfl tf3
theorem aOq{K:Nat→Nat→Prop}:qt Tryz.prog [(0,38),(2,3)] 1 K=K 2 1:=qq (tf:=ti3) (fo:=(2,3)) (fs:=[(0,38),(2,3)]) rfl tf3
theorem aPl:∀f∈([(0,38),(2,3)]:List (Nat×Nat)),(qn Tryz.prog f.2).isSome=true:=by
 intro f hf
 simp only[List.mem_cons,List.not_mem_nil,or_false]at hf
 rcases hf with rfl|rfl
 ·rw[art];rfl
 ·rw[tf3];rfl
theorem bbk{ps:List (Nat×AV)}{K:AV→Prop}:@zi Tryz.prog 39 ps ⟨K⟩=@zh (qt Tryz.prog [(0,38),(2,3)]) (zc alm) ps ⟨fun cs=>K (.ag cs)⟩:=qM aTY rfl aPl
theorem bcx{K:TI→Prop}:@tyW Tryz.prog 40 ⟨K⟩=K Za:=qh KC
theorem aHJ:Za.kd=Kd.stru [(0,38),(2,3)]:=ID rfl
theorem asB:Za.kd.agg=true:=ID rfl
theorem ali:Za.size=3:=ID rfl
theorem af8:Za.bytes=40:=ID rfl
theorem aHH:qw Za=True:=eq_true rfl
theorem aHI:zc Za=[.v (Value.bool false),.v (Value.slice none 0 0),.v (Value.int IntKind.i64 0)]:=ID rfl
theorem aLp{K:Nat→TI→Prop}:@qz Tryz.prog 40 0 ⟨K⟩=K 0 Xe:=qr (ti:=Za) (tf:=Xe) (fo:=(0,38)) (fs:=[(0,38),(2,3)]) KC rfl rfl art
theorem aOp{K:Nat→Nat→Prop}:qt Tryz.prog [(0,38),(2,3)] 0 K=K 0 2:=qq (tf:=Xe) (fo:=(0,38)) (fs:=[(0,38),(2,3)]) rfl art
theorem aLo{K:Nat→TI→Prop}:@qz Tryz.prog 40 1 ⟨K⟩=K 2 ti3:=qr (ti:=Za) (tf:=ti3) (fo:=(2,3)) (fs:=[(0,38),(2,3)]) KC rfl rfl tf3
theorem aOo{K:Nat→Nat→Prop}:qt Tryz.prog [(0,38),(2,3)] 1 K=K 2 1:=qq (tf:=ti3) (fo:=(2,3)) (fs:=[(0,38),(2,3)]) rfl tf3
theorem aPk:∀f∈([(0,38),(2,3)]:List (Nat×Nat)),(qn Tryz.prog f.2).isSome=true:=by
 intro f hf
 simp only[List.mem_cons,List.not_mem_nil,or_false]at hf
 rcases hf with rfl|rfl
 ·rw[art];rfl
 ·rw[tf3];rfl
theorem bbj{ps:List (Nat×AV)}{K:AV→Prop}:@zi Tryz.prog 40 ps ⟨K⟩=@zh (qt Tryz.prog [(0,38),(2,3)]) (zc Za) ps ⟨fun cs=>K (.ag cs)⟩:=qM KC rfl aPk
theorem bcw{K:TI→Prop}:@tyW Tryz.prog 41 ⟨K⟩=K aEo:=qh bdw
theorem aHG:aEo.kd=Kd.oth:=ID rfl
theorem asA:aEo.kd.agg=false:=ID rfl
theorem alh:aEo.size=1:=ID rfl
theorem af7:aEo.bytes=8:=ID rfl
theorem aHE:qw aEo=True:=eq_true rfl
theorem aHF:zc aEo=[.v Value.nilFunc]:=ID rfl
theorem bcv{K:TI→Prop}:@tyW Tryz.prog 42 ⟨K⟩=K aEn:=qh bdv
theorem aHD:aEn.kd=Kd.oth:=ID rfl
theorem asz:aEn.kd.agg=false:=ID rfl
theorem alg:aEn.size=1:=ID rfl
theorem af6:aEn.bytes=8:=ID rfl
theorem aHB:qw aEn=True:=eq_true rfl
theorem aHC:zc aEn=[.v Value.nilFunc]:=ID rfl
theorem bcu{K:TI→Prop}:@tyW Tryz.prog 44 ⟨K⟩=K aEm:=qh bdu
theorem aHA:aEm.kd=Kd.oth:=ID rfl
theorem asy:aEm.kd.agg=false:=ID rfl
theorem alf:aEm.size=1:=ID rfl
theorem af5:aEm.bytes=8:=ID rfl
theorem aHy:qw aEm=True:=eq_true rfl
theorem aHz:zc aEm=[.v Value.nilFunc]:=ID rfl
theorem bct{K:TI→Prop}:@tyW Tryz.prog 46 ⟨K⟩=K aEl:=qh bdt
theorem aHx:aEl.kd=Kd.oth:=ID rfl
theorem asx:aEl.kd.agg=false:=ID rfl
theorem ale:aEl.size=1:=ID rfl
theorem af4:aEl.bytes=8:=ID rfl
theorem aHv:qw aEl=True:=eq_true rfl
theorem aHw:zc aEl=[.v Value.nilFunc]:=ID rfl
theorem bcs{K:TI→Prop}:@tyW Tryz.prog 47 ⟨K⟩=K aEk:=qh bds
theorem aHu:aEk.kd=Kd.oth:=ID rfl
theorem asw:aEk.kd.agg=false:=ID rfl
theorem ald:aEk.size=1:=ID rfl
theorem af3:aEk.bytes=8:=ID rfl
theorem aHs:qw aEk=True:=eq_true rfl
theorem aHt:zc aEk=[.v Value.nilFunc]:=ID rfl
theorem bcr{K:TI→Prop}:@tyW Tryz.prog 48 ⟨K⟩=K aEj:=qh bdr
theorem aHr:aEj.kd=Kd.oth:=ID rfl
theorem asv:aEj.kd.agg=false:=ID rfl
theorem alc:aEj.size=1:=ID rfl
theorem af2:aEj.bytes=8:=ID rfl
theorem aHp:qw aEj=True:=eq_true rfl
theorem aHq:zc aEj=[.v Value.nilFunc]:=ID rfl
theorem bcq{K:TI→Prop}:@tyW Tryz.prog 49 ⟨K⟩=K aEi:=qh bdq
theorem aHo:aEi.kd=Kd.oth:=ID rfl
theorem asu:aEi.kd.agg=false:=ID rfl
theorem alb:aEi.size=1:=ID rfl
theorem af1:aEi.bytes=8:=ID rfl
theorem aHm:qw aEi=True:=eq_true rfl
theorem aHn:zc aEi=[.v Value.nilFunc]:=ID rfl
theorem bcp{K:TI→Prop}:@tyW Tryz.prog 50 ⟨K⟩=K ak9:=qh aTX
theorem aHk:ak9.kd=Kd.stru [(0,40),(3,40)]:=ID rfl
theorem ass:ak9.kd.agg=true:=ID rfl
theorem ak8:ak9.size=6:=ID rfl
theorem af0:ak9.bytes=80:=ID rfl
theorem aHi:qw ak9=True:=eq_true rfl
theorem aHj:zc ak9=[.v (Value.bool false),.v (Value.slice none 0 0),.v (Value.int IntKind.i64 0),.v (Value.bool false),.v (Value.slice none 0 0),.v (Value.int IntKind.i64 0)]:=ID rfl
theorem aLn{K:Nat→TI→Prop}:@qz Tryz.prog 50 0 ⟨K⟩=K 0 Za:=qr (ti:=ak9) (tf:=Za) (fo:=(0,40)) (fs:=[(0,40),(3,40)]) aTX rfl rfl KC
theorem aOn{K:Nat→Nat→Prop}:qt Tryz.prog [(0,40),(3,40)] 0 K=K 0 3:=qq (tf:=Za) (fo:=(0,40)) (fs:=[(0,40),(3,40)]) rfl KC
theorem aLm{K:Nat→TI→Prop}:@qz Tryz.prog 50 1 ⟨K⟩=K 3 Za:=qr (ti:=ak9) (tf:=Za) (fo:=(3,40)) (fs:=[(0,40),(3,40)]) aTX rfl rfl KC
theorem aOm{K:Nat→Nat→Prop}:qt Tryz.prog [(0,40),(3,40)] 1 K=K 3 3:=qq (tf:=Za) (fo:=(3,40)) (fs:=[(0,40),(3,40)]) rfl KC
theorem aPj:∀f∈([(0,40),(3,40)]:List (Nat×Nat)),(qn Tryz.prog f.2).isSome=true:=by
 intro f hf
 simp only[List.mem_cons,List.not_mem_nil,or_false]at hf
 rcases hf with rfl|rfl
 ·rw[KC];rfl
 ·rw[KC];rfl
theorem bbi{ps:List (Nat×AV)}{K:AV→Prop}:@zi Tryz.prog 50 ps ⟨K⟩=@zh (qt Tryz.prog [(0,40),(3,40)]) (zc ak9) ps ⟨fun cs=>K (.ag cs)⟩:=qM aTX rfl aPj
theorem bco{K:TI→Prop}:@tyW Tryz.prog 51 ⟨K⟩=K akd:=qh aNF
theorem aHh:akd.kd=Kd.stru [(0,40),(3,40)]:=ID rfl
theorem asr:akd.kd.agg=true:=ID rfl
theorem ak7:akd.size=6:=ID rfl
theorem afZ:akd.bytes=80:=ID rfl
theorem aHf:qw akd=True:=eq_true rfl
theorem aHg:zc akd=[.v (Value.bool false),.v (Value.slice none 0 0),.v (Value.int IntKind.i64 0),.v (Value.bool false),.v (Value.slice none 0 0),.v (Value.int IntKind.i64 0)]:=ID rfl
theorem aLl{K:Nat→TI→Prop}:@qz Tryz.prog 51 0 ⟨K⟩=K 0 Za:=qr (ti:=akd) (tf:=Za) (fo:=(0,40)) (fs:=[(0,40),(3,40)]) aNF rfl rfl KC
theorem aOl{K:Nat→Nat→Prop}:qt Tryz.prog [(0,40),(3,40)] 0 K=K 0 3:=qq (tf:=Za) (fo:=(0,40)) (fs:=[(0,40),(3,40)]) rfl KC
theorem aLk{K:Nat→TI→Prop}:@qz Tryz.prog 51 1 ⟨K⟩=K 3 Za:=qr (ti:=akd) (tf:=Za) (fo:=(3,40)) (fs:=[(0,40),(3,40)]) aNF rfl rfl KC
theorem aOk{K:Nat→Nat→Prop}:qt Tryz.prog [(0,40),(3,40)] 1 K=K 3 3:=qq (tf:=Za) (fo:=(3,40)) (fs:=[(0,40),(3,40)]) rfl KC
theorem aPi:∀f∈([(0,40),(3,40)]:List (Nat×Nat)),(qn Tryz.prog f.2).isSome=true:=by
 intro f hf
 simp only[List.mem_cons,List.not_mem_nil,or_false]at hf
 rcases hf with rfl|rfl
 ·rw[KC];rfl
 ·rw[KC];rfl
theorem bbh{ps:List (Nat×AV)}{K:AV→Prop}:@zi Tryz.prog 51 ps ⟨K⟩=@zh (qt Tryz.prog [(0,40),(3,40)]) (zc akd) ps ⟨fun cs=>K (.ag cs)⟩:=qM aNF rfl aPi
theorem bcn{K:TI→Prop}:@tyW Tryz.prog 53 ⟨K⟩=K aEh:=qh bdp
theorem aHe:aEh.kd=Kd.oth:=ID rfl
theorem asq:aEh.kd.agg=false:=ID rfl
theorem ak6:aEh.size=1:=ID rfl
theorem afY:aEh.bytes=8:=ID rfl
theorem aHc:qw aEh=True:=eq_true rfl
theorem aHd:zc aEh=[.v Value.nilFunc]:=ID rfl
theorem bcm{K:TI→Prop}:@tyW Tryz.prog 55 ⟨K⟩=K aEg:=qh bdo
theorem aHb:aEg.kd=Kd.oth:=ID rfl
theorem asp:aEg.kd.agg=false:=ID rfl
theorem ak5:aEg.size=1:=ID rfl
theorem afX:aEg.bytes=8:=ID rfl
theorem aG9:qw aEg=True:=eq_true rfl
theorem aHa:zc aEg=[.v Value.nilFunc]:=ID rfl
theorem bcl{K:TI→Prop}:@tyW Tryz.prog 56 ⟨K⟩=K aEf:=qh bdn
theorem aG8:aEf.kd=Kd.oth:=ID rfl
theorem aso:aEf.kd.agg=false:=ID rfl
theorem ak4:aEf.size=1:=ID rfl
theorem afW:aEf.bytes=8:=ID rfl
theorem aG6:qw aEf=True:=eq_true rfl
theorem aG7:zc aEf=[.v Value.nilFunc]:=ID rfl
theorem bck{K:TI→Prop}:@tyW Tryz.prog 57 ⟨K⟩=K aEe:=qh bdm
theorem aG5:aEe.kd=Kd.oth:=ID rfl
theorem asn:aEe.kd.agg=false:=ID rfl
theorem ak3:aEe.size=1:=ID rfl
theorem afV:aEe.bytes=8:=ID rfl
theorem aG3:qw aEe=True:=eq_true rfl
theorem aG4:zc aEe=[.v Value.nilFunc]:=ID rfl
theorem bcj{K:TI→Prop}:@tyW Tryz.prog 58 ⟨K⟩=K aEd:=qh bdl
theorem aG2:aEd.kd=Kd.oth:=ID rfl
theorem asm:aEd.kd.agg=false:=ID rfl
theorem ak2:aEd.size=1:=ID rfl
theorem afU:aEd.bytes=8:=ID rfl
theorem aG0:qw aEd=True:=eq_true rfl
theorem aG1:zc aEd=[.v Value.nilFunc]:=ID rfl
theorem bci{K:TI→Prop}:@tyW Tryz.prog 60 ⟨K⟩=K aEc:=qh bdk
theorem aGY:aEc.kd=Kd.oth:=ID rfl
theorem ask:aEc.kd.agg=false:=ID rfl
theorem ak0:aEc.size=1:=ID rfl
theorem afT:aEc.bytes=8:=ID rfl
theorem aGW:qw aEc=True:=eq_true rfl
theorem aGX:zc aEc=[.v Value.nilFunc]:=ID rfl
theorem bch{K:TI→Prop}:@tyW Tryz.prog 61 ⟨K⟩=K aEb:=qh bdj
theorem aGV:aEb.kd=Kd.oth:=ID rfl
theorem asj:aEb.kd.agg=false:=ID rfl
theorem akZ:aEb.size=1:=ID rfl
theorem afS:aEb.bytes=8:=ID rfl
theorem aGT:qw aEb=True:=eq_true rfl
theorem aGU:zc aEb=[.v Value.nilFunc]:=ID rfl
theorem bcg{K:TI→Prop}:@tyW Tryz.prog 62 ⟨K⟩=K aEa:=qh bdi
theorem aGS:aEa.kd=Kd.oth:=ID rfl
theorem asi:aEa.kd.agg=false:=ID rfl
theorem akY:aEa.size=1:=ID rfl
theorem afR:aEa.bytes=8:=ID rfl
theorem aGQ:qw aEa=True:=eq_true rfl
theorem aGR:zc aEa=[.v Value.nilFunc]:=ID rfl
theorem bcf{K:TI→Prop}:@tyW Tryz.prog 63 ⟨K⟩=K aD9:=qh bdh
theorem aGP:aD9.kd=Kd.oth:=ID rfl
theorem ash:aD9.kd.agg=false:=ID rfl
theorem akX:aD9.size=1:=ID rfl
theorem afQ:aD9.bytes=8:=ID rfl
theorem aGN:qw aD9=True:=eq_true rfl
theorem aGO:zc aD9=[.v Value.nilFunc]:=ID rfl
theorem bce{K:TI→Prop}:@tyW Tryz.prog 64 ⟨K⟩=K aD8:=qh bdg
theorem aGM:aD8.kd=Kd.oth:=ID rfl
theorem asg:aD8.kd.agg=false:=ID rfl
theorem akW:aD8.size=1:=ID rfl
theorem afP:aD8.bytes=8:=ID rfl
theorem aGK:qw aD8=True:=eq_true rfl
theorem aGL:zc aD8=[.v Value.nilFunc]:=ID rfl
theorem bcd{K:TI→Prop}:@tyW Tryz.prog 65 ⟨K⟩=K aD7:=qh bdf
theorem aGJ:aD7.kd=Kd.oth:=ID rfl
theorem asf:aD7.kd.agg=false:=ID rfl
theorem akV:aD7.size=1:=ID rfl
theorem afO:aD7.bytes=8:=ID rfl
theorem aGH:qw aD7=True:=eq_true rfl
theorem aGI:zc aD7=[.v Value.nilFunc]:=ID rfl
theorem bcc{K:TI→Prop}:@tyW Tryz.prog 66 ⟨K⟩=K aD6:=qh bde
theorem aGG:aD6.kd=Kd.oth:=ID rfl
theorem ase:aD6.kd.agg=false:=ID rfl
theorem akU:aD6.size=1:=ID rfl
theorem afN:aD6.bytes=8:=ID rfl
theorem aGE:qw aD6=True:=eq_true rfl
theorem aGF:zc aD6=[.v Value.nilFunc]:=ID rfl
theorem bcb{K:TI→Prop}:@tyW Tryz.prog 68 ⟨K⟩=K aD5:=qh bdd
theorem aGD:aD5.kd=Kd.oth:=ID rfl
theorem asd:aD5.kd.agg=false:=ID rfl
theorem akT:aD5.size=1:=ID rfl
theorem afM:aD5.bytes=8:=ID rfl
theorem aGB:qw aD5=True:=eq_true rfl
theorem aGC:zc aD5=[.v Value.nilFunc]:=ID rfl
theorem bca{K:TI→Prop}:@tyW Tryz.prog 69 ⟨K⟩=K aeK:=qh aEz
theorem aGA:aeK.kd=Kd.sli 51:=ID rfl
theorem asc:aeK.kd.agg=false:=ID rfl
theorem akS:aeK.size=1:=ID rfl
theorem afL:aeK.bytes=24:=ID rfl
theorem aGy:qw aeK=True:=eq_true rfl
theorem aGz:zc aeK=[.v (Value.slice none 0 0)]:=ID rfl
theorem aYZ{K:TI→Prop}:@yG Tryz.prog 69 ⟨K⟩=K akd:=Zy aEz rfl aNF
theorem bb9{K:TI→Prop}:@tyW Tryz.prog 71 ⟨K⟩=K aD4:=qh bdc
theorem aGw:aD4.kd=Kd.oth:=ID rfl
theorem asa:aD4.kd.agg=false:=ID rfl
theorem akQ:aD4.size=1:=ID rfl
theorem afK:aD4.bytes=8:=ID rfl
theorem aGu:qw aD4=True:=eq_true rfl
theorem aGv:zc aD4=[.v Value.nilFunc]:=ID rfl
theorem bb8{K:TI→Prop}:@tyW Tryz.prog 73 ⟨K⟩=K aD3:=qh bdb
theorem aGt:aD3.kd=Kd.oth:=ID rfl
theorem ar9:aD3.kd.agg=false:=ID rfl
theorem akP:aD3.size=1:=ID rfl
theorem afJ:aD3.bytes=8:=ID rfl
theorem aGr:qw aD3=True:=eq_true rfl
theorem aGs:zc aD3=[.v Value.nilFunc]:=ID rfl
theorem bb7{K:TI→Prop}:@tyW Tryz.prog 74 ⟨K⟩=K aD2:=qh bda
theorem aGq:aD2.kd=Kd.oth:=ID rfl
theorem ar8:aD2.kd.agg=false:=ID rfl
theorem akO:aD2.size=1:=ID rfl
theorem afI:aD2.bytes=8:=ID rfl
theorem aGo:qw aD2=True:=eq_true rfl
theorem aGp:zc aD2=[.v Value.nilFunc]:=ID rfl
theorem bb6{K:TI→Prop}:@tyW Tryz.prog 75 ⟨K⟩=K aD1:=qh bc9
theorem aGn:aD1.kd=Kd.oth:=ID rfl
theorem ar7:aD1.kd.agg=false:=ID rfl
theorem akN:aD1.size=1:=ID rfl
theorem afH:aD1.bytes=8:=ID rfl
theorem aGl:qw aD1=True:=eq_true rfl
theorem aGm:zc aD1=[.v Value.nilFunc]:=ID rfl
theorem bb5{K:TI→Prop}:@tyW Tryz.prog 77 ⟨K⟩=K aD0:=qh bc8
theorem aGk:aD0.kd=Kd.oth:=ID rfl
theorem ar6:aD0.kd.agg=false:=ID rfl
theorem akM:aD0.size=1:=ID rfl
theorem afG:aD0.bytes=8:=ID rfl
theorem aGi:qw aD0=True:=eq_true rfl
theorem aGj:zc aD0=[.v Value.nilFunc]:=ID rfl
theorem bb4{K:TI→Prop}:@tyW Tryz.prog 79 ⟨K⟩=K aDZ:=qh bc7
theorem aGh:aDZ.kd=Kd.oth:=ID rfl
theorem ar5:aDZ.kd.agg=false:=ID rfl
theorem akL:aDZ.size=1:=ID rfl
theorem afF:aDZ.bytes=8:=ID rfl
theorem aGf:qw aDZ=True:=eq_true rfl
theorem aGg:zc aDZ=[.v Value.nilFunc]:=ID rfl
theorem bb3{K:TI→Prop}:@tyW Tryz.prog 80 ⟨K⟩=K aDY:=qh bc6
theorem aGd:aDY.kd=Kd.oth:=ID rfl
theorem ar3:aDY.kd.agg=false:=ID rfl
theorem akJ:aDY.size=1:=ID rfl
theorem afE:aDY.bytes=8:=ID rfl
theorem aGb:qw aDY=True:=eq_true rfl
theorem aGc:zc aDY=[.v Value.nilFunc]:=ID rfl
theorem bb2{K:TI→Prop}:@tyW Tryz.prog 81 ⟨K⟩=K akI:=qh aTW
theorem aGa:akI.kd=Kd.stru [(0,3),(1,69)]:=ID rfl
theorem ar2:akI.kd.agg=true:=ID rfl
theorem akH:akI.size=2:=ID rfl
theorem afD:akI.bytes=32:=ID rfl
theorem aF8:qw akI=True:=eq_true rfl
theorem aF9:zc akI=[.v (Value.int IntKind.i64 0),.v (Value.slice none 0 0)]:=ID rfl
theorem aLj{K:Nat→TI→Prop}:@qz Tryz.prog 81 0 ⟨K⟩=K 0 ti3:=qr (ti:=akI) (tf:=ti3) (fo:=(0,3)) (fs:=[(0,3),(1,69)]) aTW rfl rfl tf3
theorem aOj{K:Nat→Nat→Prop}:qt Tryz.prog [(0,3),(1,69)] 0 K=K 0 1:=qq (tf:=ti3) (fo:=(0,3)) (fs:=[(0,3),(1,69)]) rfl tf3
theorem aLi{K:Nat→TI→Prop}:@qz Tryz.prog 81 1 ⟨K⟩=K 1 aeK:=qr (ti:=akI) (tf:=aeK) (fo:=(1,69)) (fs:=[(0,3),(1,69)]) aTW rfl rfl aEz
theorem aOi{K:Nat→Nat→Prop}:qt Tryz.prog [(0,3),(1,69)] 1 K=K 1 1:=qq (tf:=aeK) (fo:=(1,69)) (fs:=[(0,3),(1,69)]) rfl aEz
theorem aPh:∀f∈([(0,3),(1,69)]:List (Nat×Nat)),(qn Tryz.prog f.2).isSome=true:=by
 intro f hf
 simp only[List.mem_cons,List.not_mem_nil,or_false]at hf
 rcases hf with rfl|rfl
 ·rw[tf3];rfl
 ·rw[aEz];rfl
theorem bbg{ps:List (Nat×AV)}{K:AV→Prop}:@zi Tryz.prog 81 ps ⟨K⟩=@zh (qt Tryz.prog [(0,3),(1,69)]) (zc akI) ps ⟨fun cs=>K (.ag cs)⟩:=qM aTW rfl aPh
theorem bb1{K:TI→Prop}:@tyW Tryz.prog 82 ⟨K⟩=K akG:=qh aTV
theorem aF7:akG.kd=Kd.stru [(0,3),(1,69)]:=ID rfl
theorem ar1:akG.kd.agg=true:=ID rfl
theorem akF:akG.size=2:=ID rfl
theorem afC:akG.bytes=32:=ID rfl
theorem aF5:qw akG=True:=eq_true rfl
theorem aF6:zc akG=[.v (Value.int IntKind.i64 0),.v (Value.slice none 0 0)]:=ID rfl
theorem aLh{K:Nat→TI→Prop}:@qz Tryz.prog 82 0 ⟨K⟩=K 0 ti3:=qr (ti:=akG) (tf:=ti3) (fo:=(0,3)) (fs:=[(0,3),(1,69)]) aTV rfl rfl tf3
theorem aOh{K:Nat→Nat→Prop}:qt Tryz.prog [(0,3),(1,69)] 0 K=K 0 1:=qq (tf:=ti3) (fo:=(0,3)) (fs:=[(0,3),(1,69)]) rfl tf3
theorem aLg{K:Nat→TI→Prop}:@qz Tryz.prog 82 1 ⟨K⟩=K 1 aeK:=qr (ti:=akG) (tf:=aeK) (fo:=(1,69)) (fs:=[(0,3),(1,69)]) aTV rfl rfl aEz
theorem aOg{K:Nat→Nat→Prop}:qt Tryz.prog [(0,3),(1,69)] 1 K=K 1 1:=qq (tf:=aeK) (fo:=(1,69)) (fs:=[(0,3),(1,69)]) rfl aEz
theorem aPg:∀f∈([(0,3),(1,69)]:List (Nat×Nat)),(qn Tryz.prog f.2).isSome=true:=by
 intro f hf
 simp only[List.mem_cons,List.not_mem_nil,or_false]at hf
 rcases hf with rfl|rfl
 ·rw[tf3];rfl
 ·rw[aEz];rfl
theorem bbf{ps:List (Nat×AV)}{K:AV→Prop}:@zi Tryz.prog 82 ps ⟨K⟩=@zh (qt Tryz.prog [(0,3),(1,69)]) (zc akG) ps ⟨fun cs=>K (.ag cs)⟩:=qM aTV rfl aPg
theorem bb0{K:TI→Prop}:@tyW Tryz.prog 84 ⟨K⟩=K aDX:=qh bc5
theorem aF4:aDX.kd=Kd.oth:=ID rfl
theorem ar0:aDX.kd.agg=false:=ID rfl
theorem akE:aDX.size=1:=ID rfl
theorem afB:aDX.bytes=8:=ID rfl
theorem aF2:qw aDX=True:=eq_true rfl
theorem aF3:zc aDX=[.v Value.nilFunc]:=ID rfl
theorem bbZ{K:TI→Prop}:@tyW Tryz.prog 86 ⟨K⟩=K aDW:=qh bc4
theorem aF1:aDW.kd=Kd.oth:=ID rfl
theorem arZ:aDW.kd.agg=false:=ID rfl
theorem akD:aDW.size=1:=ID rfl
theorem afA:aDW.bytes=8:=ID rfl
theorem aFZ:qw aDW=True:=eq_true rfl
theorem aF0:zc aDW=[.v Value.nilFunc]:=ID rfl
theorem bbY{K:TI→Prop}:@tyW Tryz.prog 87 ⟨K⟩=K aDV:=qh bc3
theorem aFY:aDV.kd=Kd.oth:=ID rfl
theorem arY:aDV.kd.agg=false:=ID rfl
theorem akC:aDV.size=1:=ID rfl
theorem afz:aDV.bytes=8:=ID rfl
theorem aFW:qw aDV=True:=eq_true rfl
theorem aFX:zc aDV=[.v Value.nilFunc]:=ID rfl
theorem bbX{K:TI→Prop}:@tyW Tryz.prog 88 ⟨K⟩=K aDU:=qh bc2
theorem aFV:aDU.kd=Kd.oth:=ID rfl
theorem arX:aDU.kd.agg=false:=ID rfl
theorem akB:aDU.size=1:=ID rfl
theorem afy:aDU.bytes=8:=ID rfl
theorem aFT:qw aDU=True:=eq_true rfl
theorem aFU:zc aDU=[.v Value.nilFunc]:=ID rfl
theorem bbW{K:TI→Prop}:@tyW Tryz.prog 89 ⟨K⟩=K aDT:=qh bc1
theorem aFS:aDT.kd=Kd.oth:=ID rfl
theorem arW:aDT.kd.agg=false:=ID rfl
theorem akA:aDT.size=1:=ID rfl
theorem afx:aDT.bytes=8:=ID rfl
theorem aFQ:qw aDT=True:=eq_true rfl
theorem aFR:zc aDT=[.v Value.nilFunc]:=ID rfl
theorem bbV{K:TI→Prop}:@tyW Tryz.prog 91 ⟨K⟩=K aDS:=qh bc0
theorem aFO:aDS.kd=Kd.oth:=ID rfl
theorem arU:aDS.kd.agg=false:=ID rfl
theorem aky:aDS.size=1:=ID rfl
theorem afw:aDS.bytes=8:=ID rfl
theorem aFM:qw aDS=True:=eq_true rfl
theorem aFN:zc aDS=[.v Value.nilFunc]:=ID rfl
theorem bbU{K:TI→Prop}:@tyW Tryz.prog 92 ⟨K⟩=K aDR:=qh bcZ
theorem aFL:aDR.kd=Kd.oth:=ID rfl
theorem arT:aDR.kd.agg=false:=ID rfl
theorem akx:aDR.size=1:=ID rfl
theorem afv:aDR.bytes=8:=ID rfl
theorem aFJ:qw aDR=True:=eq_true rfl
theorem aFK:zc aDR=[.v Value.nilFunc]:=ID rfl
theorem bbT{K:TI→Prop}:@tyW Tryz.prog 93 ⟨K⟩=K aDQ:=qh bcY
theorem aFI:aDQ.kd=Kd.oth:=ID rfl
theorem arS:aDQ.kd.agg=false:=ID rfl
theorem akw:aDQ.size=1:=ID rfl
theorem afu:aDQ.bytes=8:=ID rfl
theorem aFG:qw aDQ=True:=eq_true rfl
theorem aFH:zc aDQ=[.v Value.nilFunc]:=ID rfl
theorem bbS{K:TI→Prop}:@tyW Tryz.prog 94 ⟨K⟩=K aDP:=qh bcX
theorem aFF:aDP.kd=Kd.oth:=ID rfl
theorem arR:aDP.kd.agg=false:=ID rfl
theorem akv:aDP.size=1:=ID rfl
theorem aft:aDP.bytes=8:=ID rfl
theorem aFD:qw aDP=True:=eq_true rfl
theorem aFE:zc aDP=[.v Value.nilFunc]:=ID rfl
theorem bbR{K:TI→Prop}:@tyW Tryz.prog 96 ⟨K⟩=K aDO:=qh bcW
theorem aFC:aDO.kd=Kd.oth:=ID rfl
theorem arQ:aDO.kd.agg=false:=ID rfl
theorem aku:aDO.size=1:=ID rfl
theorem afs:aDO.bytes=8:=ID rfl
theorem aFA:qw aDO=True:=eq_true rfl
theorem aFB:zc aDO=[.v Value.nilFunc]:=ID rfl
theorem bbQ{K:TI→Prop}:@tyW Tryz.prog 97 ⟨K⟩=K aDN:=qh bcV
theorem aFz:aDN.kd=Kd.oth:=ID rfl
theorem arP:aDN.kd.agg=false:=ID rfl
theorem akt:aDN.size=1:=ID rfl
theorem afr:aDN.bytes=8:=ID rfl
theorem aFx:qw aDN=True:=eq_true rfl
theorem aFy:zc aDN=[.v Value.nilFunc]:=ID rfl
theorem bbP{K:TI→Prop}:@tyW Tryz.prog 98 ⟨K⟩=K aDM:=qh bcU
theorem aFw:aDM.kd=Kd.oth:=ID rfl
theorem arO:aDM.kd.agg=false:=ID rfl
theorem aks:aDM.size=1:=ID rfl
theorem afq:aDM.bytes=8:=ID rfl
theorem aFu:qw aDM=True:=eq_true rfl
theorem aFv:zc aDM=[.v Value.nilFunc]:=ID rfl
theorem bbO{K:TI→Prop}:@tyW Tryz.prog 99 ⟨K⟩=K aDL:=qh bcT
theorem aFt:aDL.kd=Kd.oth:=ID rfl
theorem arN:aDL.kd.agg=false:=ID rfl
theorem akr:aDL.size=1:=ID rfl
theorem afp:aDL.bytes=8:=ID rfl
theorem aFr:qw aDL=True:=eq_true rfl
theorem aFs:zc aDL=[.v Value.nilFunc]:=ID rfl
theorem aWA{K:TI→Prop}:@tyW Tryz.prog 100 ⟨K⟩=K Kz:=qh aYU
theorem aAy:Kz.kd=Kd.oth:=ID rfl
theorem aol:Kz.kd.agg=false:=ID rfl
theorem aiZ:Kz.size=1:=ID rfl
theorem ads:Kz.bytes=8:=ID rfl
theorem aAw:qw Kz=True:=eq_true rfl
theorem aAx:zc Kz=[.v Value.nilFunc]:=ID rfl
theorem aWz{K:TI→Prop}:@tyW Tryz.prog 101 ⟨K⟩=K Ky:=qh aYT
theorem aAv:Ky.kd=Kd.oth:=ID rfl
theorem aok:Ky.kd.agg=false:=ID rfl
theorem aiY:Ky.size=1:=ID rfl
theorem adr:Ky.bytes=8:=ID rfl
theorem aAt:qw Ky=True:=eq_true rfl
theorem aAu:zc Ky=[.v Value.nilFunc]:=ID rfl
theorem aWy{K:TI→Prop}:@tyW Tryz.prog 102 ⟨K⟩=K Kx:=qh aYS
theorem aAs:Kx.kd=Kd.oth:=ID rfl
theorem aoj:Kx.kd.agg=false:=ID rfl
theorem aiX:Kx.size=1:=ID rfl
theorem adq:Kx.bytes=8:=ID rfl
theorem aAq:qw Kx=True:=eq_true rfl
theorem aAr:zc Kx=[.v Value.nilFunc]:=ID rfl
theorem aWx{K:TI→Prop}:@tyW Tryz.prog 103 ⟨K⟩=K Kw:=qh aYR
theorem aAp:Kw.kd=Kd.oth:=ID rfl
theorem aoi:Kw.kd.agg=false:=ID rfl
theorem aiW:Kw.size=1:=ID rfl
theorem adp:Kw.bytes=8:=ID rfl
theorem aAn:qw Kw=True:=eq_true rfl
theorem aAo:zc Kw=[.v Value.nilFunc]:=ID rfl
theorem aWw{K:TI→Prop}:@tyW Tryz.prog 105 ⟨K⟩=K Kv:=qh aYQ
theorem aAm:Kv.kd=Kd.oth:=ID rfl
theorem aoh:Kv.kd.agg=false:=ID rfl
theorem aiV:Kv.size=1:=ID rfl
theorem ado:Kv.bytes=8:=ID rfl
theorem aAk:qw Kv=True:=eq_true rfl
theorem aAl:zc Kv=[.v Value.nilFunc]:=ID rfl
theorem aWv{K:TI→Prop}:@tyW Tryz.prog 106 ⟨K⟩=K Ku:=qh aYP
theorem aAj:Ku.kd=Kd.oth:=ID rfl
theorem aog:Ku.kd.agg=false:=ID rfl
theorem aiU:Ku.size=1:=ID rfl
theorem adn:Ku.bytes=8:=ID rfl
theorem aAh:qw Ku=True:=eq_true rfl
theorem aAi:zc Ku=[.v Value.nilFunc]:=ID rfl
theorem aWu{K:TI→Prop}:@tyW Tryz.prog 107 ⟨K⟩=K Kt:=qh aYO
theorem aAg:Kt.kd=Kd.oth:=ID rfl
theorem aof:Kt.kd.agg=false:=ID rfl
theorem aiT:Kt.size=1:=ID rfl
theorem adm:Kt.bytes=8:=ID rfl
theorem aAe:qw Kt=True:=eq_true rfl
theorem aAf:zc Kt=[.v Value.nilFunc]:=ID rfl
theorem aWt{K:TI→Prop}:@tyW Tryz.prog 108 ⟨K⟩=K Ks:=qh aYN
theorem aAd:Ks.kd=Kd.oth:=ID rfl
theorem aoe:Ks.kd.agg=false:=ID rfl
theorem aiS:Ks.size=1:=ID rfl
theorem adl:Ks.bytes=8:=ID rfl
theorem aAb:qw Ks=True:=eq_true rfl
theorem aAc:zc Ks=[.v Value.nilFunc]:=ID rfl
theorem aWs{K:TI→Prop}:@tyW Tryz.prog 109 ⟨K⟩=K Kr:=qh aYM
theorem aAa:Kr.kd=Kd.oth:=ID rfl
theorem aod:Kr.kd.agg=false:=ID rfl
theorem aiR:Kr.size=1:=ID rfl
theorem adk:Kr.bytes=8:=ID rfl
theorem az8:qw Kr=True:=eq_true rfl
theorem az9:zc Kr=[.v Value.nilFunc]:=ID rfl
theorem aWr{K:TI→Prop}:@tyW Tryz.prog 110 ⟨K⟩=K Kq:=qh aYL
theorem az6:Kq.kd=Kd.oth:=ID rfl
theorem aob:Kq.kd.agg=false:=ID rfl
theorem aiP:Kq.size=1:=ID rfl
theorem adj:Kq.bytes=8:=ID rfl
theorem az4:qw Kq=True:=eq_true rfl
theorem az5:zc Kq=[.v Value.nilFunc]:=ID rfl
theorem aWq{K:TI→Prop}:@tyW Tryz.prog 111 ⟨K⟩=K yM:=qh J8
theorem az3:yM.kd=Kd.sli 118:=ID rfl
theorem aoa:yM.kd.agg=false:=ID rfl
theorem aiO:yM.size=1:=ID rfl
theorem adi:yM.bytes=24:=ID rfl
theorem az1:qw yM=True:=eq_true rfl
theorem az2:zc yM=[.v (Value.slice none 0 0)]:=ID rfl
theorem aNZ{K:TI→Prop}:@yG Tryz.prog 111 ⟨K⟩=K jc:=Zy J8 rfl yb
theorem aWp{K:TI→Prop}:@tyW Tryz.prog 112 ⟨K⟩=K Zs:=qh aAH
theorem az0:Zs.kd=Kd.stru [(0,3),(1,111)]:=ID rfl
theorem an9:Zs.kd.agg=true:=ID rfl
theorem aiN:Zs.size=2:=ID rfl
theorem adh:Zs.bytes=32:=ID rfl
theorem azY:qw Zs=True:=eq_true rfl
theorem azZ:zc Zs=[.v (Value.int IntKind.i64 0),.v (Value.slice none 0 0)]:=ID rfl
theorem aCE{K:Nat→TI→Prop}:@qz Tryz.prog 112 0 ⟨K⟩=K 0 ti3:=qr (ti:=Zs) (tf:=ti3) (fo:=(0,3)) (fs:=[(0,3),(1,111)]) aAH rfl rfl tf3
theorem aJJ{K:Nat→Nat→Prop}:qt Tryz.prog [(0,3),(1,111)] 0 K=K 0 1:=qq (tf:=ti3) (fo:=(0,3)) (fs:=[(0,3),(1,111)]) rfl tf3
theorem aCD{K:Nat→TI→Prop}:@qz Tryz.prog 112 1 ⟨K⟩=K 1 yM:=qr (ti:=Zs) (tf:=yM) (fo:=(1,111)) (fs:=[(0,3),(1,111)]) aAH rfl rfl J8
theorem aJI{K:Nat→Nat→Prop}:qt Tryz.prog [(0,3),(1,111)] 1 K=K 1 1:=qq (tf:=yM) (fo:=(1,111)) (fs:=[(0,3),(1,111)]) rfl J8
theorem aLa:∀f∈([(0,3),(1,111)]:List (Nat×Nat)),(qn Tryz.prog f.2).isSome=true:=by
 intro f hf
 simp only[List.mem_cons,List.not_mem_nil,or_false]at hf
 rcases hf with rfl|rfl
 ·rw[tf3];rfl
 ·rw[J8];rfl
theorem aTs{ps:List (Nat×AV)}{K:AV→Prop}:@zi Tryz.prog 112 ps ⟨K⟩=@zh (qt Tryz.prog [(0,3),(1,111)]) (zc Zs) ps ⟨fun cs=>K (.ag cs)⟩:=qM aAH rfl aLa
theorem aWo{K:TI→Prop}:@tyW Tryz.prog 113 ⟨K⟩=K Zr:=qh aAG
theorem azX:Zr.kd=Kd.stru [(0,3),(1,111)]:=ID rfl
theorem an8:Zr.kd.agg=true:=ID rfl
theorem aiM:Zr.size=2:=ID rfl
theorem adg:Zr.bytes=32:=ID rfl
theorem azV:qw Zr=True:=eq_true rfl
theorem azW:zc Zr=[.v (Value.int IntKind.i64 0),.v (Value.slice none 0 0)]:=ID rfl
theorem aCC{K:Nat→TI→Prop}:@qz Tryz.prog 113 0 ⟨K⟩=K 0 ti3:=qr (ti:=Zr) (tf:=ti3) (fo:=(0,3)) (fs:=[(0,3),(1,111)]) aAG rfl rfl tf3
theorem aJH{K:Nat→Nat→Prop}:qt Tryz.prog [(0,3),(1,111)] 0 K=K 0 1:=qq (tf:=ti3) (fo:=(0,3)) (fs:=[(0,3),(1,111)]) rfl tf3
theorem aCB{K:Nat→TI→Prop}:@qz Tryz.prog 113 1 ⟨K⟩=K 1 yM:=qr (ti:=Zr) (tf:=yM) (fo:=(1,111)) (fs:=[(0,3),(1,111)]) aAG rfl rfl J8
theorem aJG{K:Nat→Nat→Prop}:qt Tryz.prog [(0,3),(1,111)] 1 K=K 1 1:=qq (tf:=yM) (fo:=(1,111)) (fs:=[(0,3),(1,111)]) rfl J8
theorem aK9:∀f∈([(0,3),(1,111)]:List (Nat×Nat)),(qn Tryz.prog f.2).isSome=true:=by
 intro f hf
 simp only[List.mem_cons,List.not_mem_nil,or_false]at hf
 rcases hf with rfl|rfl
 ·rw[tf3];rfl
 ·rw[J8];rfl
theorem aTr{ps:List (Nat×AV)}{K:AV→Prop}:@zi Tryz.prog 113 ps ⟨K⟩=@zh (qt Tryz.prog [(0,3),(1,111)]) (zc Zr) ps ⟨fun cs=>K (.ag cs)⟩:=qM aAG rfl aK9
theorem aWn{K:TI→Prop}:@tyW Tryz.prog 114 ⟨K⟩=K Kp:=qh aYK
theorem azU:Kp.kd=Kd.oth:=ID rfl
theorem an7:Kp.kd.agg=false:=ID rfl
theorem aiL:Kp.size=1:=ID rfl
theorem adf:Kp.bytes=8:=ID rfl
theorem azS:qw Kp=True:=eq_true rfl
theorem azT:zc Kp=[.v Value.nilFunc]:=ID rfl
theorem aWm{K:TI→Prop}:@tyW Tryz.prog 115 ⟨K⟩=K Ko:=qh aYJ
theorem azR:Ko.kd=Kd.oth:=ID rfl
theorem an6:Ko.kd.agg=false:=ID rfl
theorem aiK:Ko.size=1:=ID rfl
theorem ade:Ko.bytes=8:=ID rfl
theorem azP:qw Ko=True:=eq_true rfl
theorem azQ:zc Ko=[.v Value.nilFunc]:=ID rfl
theorem aWl{K:TI→Prop}:@tyW Tryz.prog 116 ⟨K⟩=K Kn:=qh aYI
theorem azO:Kn.kd=Kd.oth:=ID rfl
theorem an5:Kn.kd.agg=false:=ID rfl
theorem aiJ:Kn.size=1:=ID rfl
theorem adc:Kn.bytes=8:=ID rfl
theorem azM:qw Kn=True:=eq_true rfl
theorem azN:zc Kn=[.v Value.nilFunc]:=ID rfl
theorem aWk{K:TI→Prop}:@tyW Tryz.prog 117 ⟨K⟩=K Q3:=qh aor
theorem azL:Q3.kd=Kd.stru [(0,4),(1,34),(2,3)]:=ID rfl
theorem an4:Q3.kd.agg=true:=ID rfl
theorem aiI:Q3.size=3:=ID rfl
theorem adb:Q3.bytes=40:=ID rfl
theorem azJ:qw Q3=True:=eq_true rfl
theorem azK:zc Q3=[.v (Value.bool false),.v (Value.slice none 0 0),.v (Value.int IntKind.i64 0)]:=ID rfl
theorem aCA{K:Nat→TI→Prop}:@qz Tryz.prog 117 0 ⟨K⟩=K 0 ti4:=qr (ti:=Q3) (tf:=ti4) (fo:=(0,4)) (fs:=[(0,4),(1,34),(2,3)]) aor rfl rfl tf4
theorem aJF{K:Nat→Nat→Prop}:qt Tryz.prog [(0,4),(1,34),(2,3)] 0 K=K 0 1:=qq (tf:=ti4) (fo:=(0,4)) (fs:=[(0,4),(1,34),(2,3)]) rfl tf4
theorem aCz{K:Nat→TI→Prop}:@qz Tryz.prog 117 1 ⟨K⟩=K 1 Jv:=qr (ti:=Q3) (tf:=Jv) (fo:=(1,34)) (fs:=[(0,4),(1,34),(2,3)]) aor rfl rfl aeN
theorem aJE{K:Nat→Nat→Prop}:qt Tryz.prog [(0,4),(1,34),(2,3)] 1 K=K 1 1:=qq (tf:=Jv) (fo:=(1,34)) (fs:=[(0,4),(1,34),(2,3)]) rfl aeN
theorem aCy{K:Nat→TI→Prop}:@qz Tryz.prog 117 2 ⟨K⟩=K 2 ti3:=qr (ti:=Q3) (tf:=ti3) (fo:=(2,3)) (fs:=[(0,4),(1,34),(2,3)]) aor rfl rfl tf3
theorem aJD{K:Nat→Nat→Prop}:qt Tryz.prog [(0,4),(1,34),(2,3)] 2 K=K 2 1:=qq (tf:=ti3) (fo:=(2,3)) (fs:=[(0,4),(1,34),(2,3)]) rfl tf3
theorem aK8:∀f∈([(0,4),(1,34),(2,3)]:List (Nat×Nat)),(qn Tryz.prog f.2).isSome=true:=by
 intro f hf
 simp only[List.mem_cons,List.not_mem_nil,or_false]at hf
 rcases hf with rfl|rfl|rfl
 ·rw[tf4];rfl
 ·rw[aeN];rfl
 ·rw[tf3];rfl
theorem aTq{ps:List (Nat×AV)}{K:AV→Prop}:@zi Tryz.prog 117 ps ⟨K⟩=@zh (qt Tryz.prog [(0,4),(1,34),(2,3)]) (zc Q3) ps ⟨fun cs=>K (.ag cs)⟩:=qM aor rfl aK8
theorem aWj{K:TI→Prop}:@tyW Tryz.prog 118 ⟨K⟩=K jc:=qh yb
theorem azI:jc.kd=Kd.stru [(0,4),(1,34),(2,3)]:=ID rfl
theorem an3:jc.kd.agg=true:=ID rfl
theorem aiH:jc.size=3:=ID rfl
theorem ada:jc.bytes=40:=ID rfl
theorem azG:qw jc=True:=eq_true rfl
theorem azH:zc jc=[.v (Value.bool false),.v (Value.slice none 0 0),.v (Value.int IntKind.i64 0)]:=ID rfl
theorem aCx{K:Nat→TI→Prop}:@qz Tryz.prog 118 0 ⟨K⟩=K 0 ti4:=qr (ti:=jc) (tf:=ti4) (fo:=(0,4)) (fs:=[(0,4),(1,34),(2,3)]) yb rfl rfl tf4
theorem aJC{K:Nat→Nat→Prop}:qt Tryz.prog [(0,4),(1,34),(2,3)] 0 K=K 0 1:=qq (tf:=ti4) (fo:=(0,4)) (fs:=[(0,4),(1,34),(2,3)]) rfl tf4
theorem aCw{K:Nat→TI→Prop}:@qz Tryz.prog 118 1 ⟨K⟩=K 1 Jv:=qr (ti:=jc) (tf:=Jv) (fo:=(1,34)) (fs:=[(0,4),(1,34),(2,3)]) yb rfl rfl aeN
theorem aJB{K:Nat→Nat→Prop}:qt Tryz.prog [(0,4),(1,34),(2,3)] 1 K=K 1 1:=qq (tf:=Jv) (fo:=(1,34)) (fs:=[(0,4),(1,34),(2,3)]) rfl aeN
theorem aCv{K:Nat→TI→Prop}:@qz Tryz.prog 118 2 ⟨K⟩=K 2 ti3:=qr (ti:=jc) (tf:=ti3) (fo:=(2,3)) (fs:=[(0,4),(1,34),(2,3)]) yb rfl rfl tf3
theorem aJA{K:Nat→Nat→Prop}:qt Tryz.prog [(0,4),(1,34),(2,3)] 2 K=K 2 1:=qq (tf:=ti3) (fo:=(2,3)) (fs:=[(0,4),(1,34),(2,3)]) rfl tf3
theorem aK7:∀f∈([(0,4),(1,34),(2,3)]:List (Nat×Nat)),(qn Tryz.prog f.2).isSome=true:=by
 intro f hf
 simp only[List.mem_cons,List.not_mem_nil,or_false]at hf
 rcases hf with rfl|rfl|rfl
 ·rw[tf4];rfl
 ·rw[aeN];rfl
 ·rw[tf3];rfl
theorem aTp{ps:List (Nat×AV)}{K:AV→Prop}:@zi Tryz.prog 118 ps ⟨K⟩=@zh (qt Tryz.prog [(0,4),(1,34),(2,3)]) (zc jc) ps ⟨fun cs=>K (.ag cs)⟩:=qM yb rfl aK7
theorem aWi{K:TI→Prop}:@tyW Tryz.prog 119 ⟨K⟩=K Km:=qh aYH
theorem azF:Km.kd=Kd.oth:=ID rfl
theorem an2:Km.kd.agg=false:=ID rfl
theorem aiG:Km.size=1:=ID rfl
theorem ac9:Km.bytes=8:=ID rfl
theorem azD:qw Km=True:=eq_true rfl
theorem azE:zc Km=[.v Value.nilFunc]:=ID rfl
theorem aWh{K:TI→Prop}:@tyW Tryz.prog 120 ⟨K⟩=K Kl:=qh aYG
theorem azB:Kl.kd=Kd.oth:=ID rfl
theorem an0:Kl.kd.agg=false:=ID rfl
theorem aiE:Kl.size=1:=ID rfl
theorem ac8:Kl.bytes=8:=ID rfl
theorem azz:qw Kl=True:=eq_true rfl
theorem azA:zc Kl=[.v Value.nilFunc]:=ID rfl
theorem aWg{K:TI→Prop}:@tyW Tryz.prog 121 ⟨K⟩=K Kk:=qh aYF
theorem azy:Kk.kd=Kd.oth:=ID rfl
theorem anZ:Kk.kd.agg=false:=ID rfl
theorem aiD:Kk.size=1:=ID rfl
theorem ac7:Kk.bytes=8:=ID rfl
theorem azw:qw Kk=True:=eq_true rfl
theorem azx:zc Kk=[.v Value.nilFunc]:=ID rfl
theorem aWf{K:TI→Prop}:@tyW Tryz.prog 122 ⟨K⟩=K Kj:=qh aYE
theorem azv:Kj.kd=Kd.oth:=ID rfl
theorem anY:Kj.kd.agg=false:=ID rfl
theorem aiC:Kj.size=1:=ID rfl
theorem ac6:Kj.bytes=8:=ID rfl
theorem azt:qw Kj=True:=eq_true rfl
theorem azu:zc Kj=[.v Value.nilFunc]:=ID rfl
theorem aWe{K:TI→Prop}:@tyW Tryz.prog 123 ⟨K⟩=K Ki:=qh aYD
theorem azs:Ki.kd=Kd.oth:=ID rfl
theorem anX:Ki.kd.agg=false:=ID rfl
theorem aiB:Ki.size=1:=ID rfl
theorem ac5:Ki.bytes=8:=ID rfl
theorem azq:qw Ki=True:=eq_true rfl
theorem azr:zc Ki=[.v Value.nilFunc]:=ID rfl
theorem aWd{K:TI→Prop}:@tyW Tryz.prog 124 ⟨K⟩=K Kh:=qh aYC
theorem azp:Kh.kd=Kd.oth:=ID rfl
theorem anW:Kh.kd.agg=false:=ID rfl
theorem aiA:Kh.size=1:=ID rfl
theorem ac4:Kh.bytes=8:=ID rfl
theorem azn:qw Kh=True:=eq_true rfl
theorem azo:zc Kh=[.v Value.nilFunc]:=ID rfl
theorem aWc{K:TI→Prop}:@tyW Tryz.prog 125 ⟨K⟩=K Kg:=qh aYB
theorem azm:Kg.kd=Kd.oth:=ID rfl
theorem anV:Kg.kd.agg=false:=ID rfl
theorem aiz:Kg.size=1:=ID rfl
theorem ac3:Kg.bytes=8:=ID rfl
theorem azk:qw Kg=True:=eq_true rfl
theorem azl:zc Kg=[.v Value.nilFunc]:=ID rfl
theorem aWb{K:TI→Prop}:@tyW Tryz.prog 126 ⟨K⟩=K Kf:=qh aYA
theorem azj:Kf.kd=Kd.oth:=ID rfl
theorem anU:Kf.kd.agg=false:=ID rfl
theorem aiy:Kf.size=1:=ID rfl
theorem ac2:Kf.bytes=8:=ID rfl
theorem azh:qw Kf=True:=eq_true rfl
theorem azi:zc Kf=[.v Value.nilFunc]:=ID rfl
theorem aWa{K:TI→Prop}:@tyW Tryz.prog 127 ⟨K⟩=K Ke:=qh aYz
theorem azg:Ke.kd=Kd.oth:=ID rfl
theorem anT:Ke.kd.agg=false:=ID rfl
theorem aix:Ke.size=1:=ID rfl
theorem ac1:Ke.bytes=8:=ID rfl
theorem aze:qw Ke=True:=eq_true rfl
theorem azf:zc Ke=[.v Value.nilFunc]:=ID rfl
theorem aV9{K:TI→Prop}:@tyW Tryz.prog 128 ⟨K⟩=K Kc:=qh aYy
theorem azd:Kc.kd=Kd.oth:=ID rfl
theorem anS:Kc.kd.agg=false:=ID rfl
theorem aiw:Kc.size=1:=ID rfl
theorem ac0:Kc.bytes=8:=ID rfl
theorem azb:qw Kc=True:=eq_true rfl
theorem azc:zc Kc=[.v Value.nilFunc]:=ID rfl
theorem aV8{K:TI→Prop}:@tyW Tryz.prog 129 ⟨K⟩=K Kb:=qh aYx
theorem aza:Kb.kd=Kd.oth:=ID rfl
theorem anR:Kb.kd.agg=false:=ID rfl
theorem aiv:Kb.size=1:=ID rfl
theorem acZ:Kb.bytes=8:=ID rfl
theorem ay8:qw Kb=True:=eq_true rfl
theorem ay9:zc Kb=[.v Value.nilFunc]:=ID rfl
theorem aV7{K:TI→Prop}:@tyW Tryz.prog 130 ⟨K⟩=K Ka:=qh aYw
theorem ay6:Ka.kd=Kd.oth:=ID rfl
theorem anP:Ka.kd.agg=false:=ID rfl
theorem ait:Ka.size=1:=ID rfl
theorem acY:Ka.bytes=8:=ID rfl
theorem ay4:qw Ka=True:=eq_true rfl
theorem ay5:zc Ka=[.v Value.nilFunc]:=ID rfl
theorem aV6{K:TI→Prop}:@tyW Tryz.prog 131 ⟨K⟩=K V9:=qh aYv
theorem ay3:V9.kd=Kd.oth:=ID rfl
theorem anO:V9.kd.agg=false:=ID rfl
theorem ais:V9.size=1:=ID rfl
theorem acX:V9.bytes=8:=ID rfl
theorem ay1:qw V9=True:=eq_true rfl
theorem ay2:zc V9=[.v Value.nilFunc]:=ID rfl
theorem aV5{K:TI→Prop}:@tyW Tryz.prog 132 ⟨K⟩=K Zq:=qh aAF
theorem ay0:Zq.kd=Kd.stru [(0,118),(3,118)]:=ID rfl
theorem anN:Zq.kd.agg=true:=ID rfl
theorem air:Zq.size=6:=ID rfl
theorem acW:Zq.bytes=80:=ID rfl
theorem ayY:qw Zq=True:=eq_true rfl
theorem ayZ:zc Zq=[.v (Value.bool false),.v (Value.slice none 0 0),.v (Value.int IntKind.i64 0),.v (Value.bool false),.v (Value.slice none 0 0),.v (Value.int IntKind.i64 0)]:=ID rfl
theorem aCu{K:Nat→TI→Prop}:@qz Tryz.prog 132 0 ⟨K⟩=K 0 jc:=qr (ti:=Zq) (tf:=jc) (fo:=(0,118)) (fs:=[(0,118),(3,118)]) aAF rfl rfl yb
theorem aJz{K:Nat→Nat→Prop}:qt Tryz.prog [(0,118),(3,118)] 0 K=K 0 3:=qq (tf:=jc) (fo:=(0,118)) (fs:=[(0,118),(3,118)]) rfl yb
theorem aCt{K:Nat→TI→Prop}:@qz Tryz.prog 132 1 ⟨K⟩=K 3 jc:=qr (ti:=Zq) (tf:=jc) (fo:=(3,118)) (fs:=[(0,118),(3,118)]) aAF rfl rfl yb
theorem aJy{K:Nat→Nat→Prop}:qt Tryz.prog [(0,118),(3,118)] 1 K=K 3 3:=qq (tf:=jc) (fo:=(3,118)) (fs:=[(0,118),(3,118)]) rfl yb
theorem aK6:∀f∈([(0,118),(3,118)]:List (Nat×Nat)),(qn Tryz.prog f.2).isSome=true:=by
 intro f hf
 simp only[List.mem_cons,List.not_mem_nil,or_false]at hf
 rcases hf with rfl|rfl
 ·rw[yb];rfl
 ·rw[yb];rfl
theorem aTo{ps:List (Nat×AV)}{K:AV→Prop}:@zi Tryz.prog 132 ps ⟨K⟩=@zh (qt Tryz.prog [(0,118),(3,118)]) (zc Zq) ps ⟨fun cs=>K (.ag cs)⟩:=qM aAF rfl aK6
theorem aV4{K:TI→Prop}:@tyW Tryz.prog 133 ⟨K⟩=K Q2:=qh aoq
theorem ayX:Q2.kd=Kd.stru [(0,118),(3,118)]:=ID rfl
theorem anM:Q2.kd.agg=true:=ID rfl
theorem aiq:Q2.size=6:=ID rfl
theorem acV:Q2.bytes=80:=ID rfl
theorem ayV:qw Q2=True:=eq_true rfl
theorem ayW:zc Q2=[.v (Value.bool false),.v (Value.slice none 0 0),.v (Value.int IntKind.i64 0),.v (Value.bool false),.v (Value.slice none 0 0),.v (Value.int IntKind.i64 0)]:=ID rfl
theorem aCs{K:Nat→TI→Prop}:@qz Tryz.prog 133 0 ⟨K⟩=K 0 jc:=qr (ti:=Q2) (tf:=jc) (fo:=(0,118)) (fs:=[(0,118),(3,118)]) aoq rfl rfl yb
theorem aJx{K:Nat→Nat→Prop}:qt Tryz.prog [(0,118),(3,118)] 0 K=K 0 3:=qq (tf:=jc) (fo:=(0,118)) (fs:=[(0,118),(3,118)]) rfl yb
theorem aCr{K:Nat→TI→Prop}:@qz Tryz.prog 133 1 ⟨K⟩=K 3 jc:=qr (ti:=Q2) (tf:=jc) (fo:=(3,118)) (fs:=[(0,118),(3,118)]) aoq rfl rfl yb
theorem aJw{K:Nat→Nat→Prop}:qt Tryz.prog [(0,118),(3,118)] 1 K=K 3 3:=qq (tf:=jc) (fo:=(3,118)) (fs:=[(0,118),(3,118)]) rfl yb
theorem aK5:∀f∈([(0,118),(3,118)]:List (Nat×Nat)),(qn Tryz.prog f.2).isSome=true:=by
 intro f hf
 simp only[List.mem_cons,List.not_mem_nil,or_false]at hf
 rcases hf with rfl|rfl
 ·rw[yb];rfl
 ·rw[yb];rfl
theorem aTn{ps:List (Nat×AV)}{K:AV→Prop}:@zi Tryz.prog 133 ps ⟨K⟩=@zh (qt Tryz.prog [(0,118),(3,118)]) (zc Q2) ps ⟨fun cs=>K (.ag cs)⟩:=qM aoq rfl aK5
theorem aV3{K:TI→Prop}:@tyW Tryz.prog 134 ⟨K⟩=K V8:=qh aYu
theorem ayU:V8.kd=Kd.oth:=ID rfl
theorem anL:V8.kd.agg=false:=ID rfl
theorem aip:V8.size=1:=ID rfl
theorem acU:V8.bytes=8:=ID rfl
theorem ayS:qw V8=True:=eq_true rfl
theorem ayT:zc V8=[.v Value.nilFunc]:=ID rfl
theorem aV2{K:TI→Prop}:@tyW Tryz.prog 135 ⟨K⟩=K V7:=qh aYt
theorem ayR:V7.kd=Kd.oth:=ID rfl
theorem anK:V7.kd.agg=false:=ID rfl
theorem aio:V7.size=1:=ID rfl
theorem acT:V7.bytes=8:=ID rfl
theorem ayP:qw V7=True:=eq_true rfl
theorem ayQ:zc V7=[.v Value.nilFunc]:=ID rfl
theorem aV1{K:TI→Prop}:@tyW Tryz.prog 136 ⟨K⟩=K V6:=qh aYs
theorem ayO:V6.kd=Kd.oth:=ID rfl
theorem anJ:V6.kd.agg=false:=ID rfl
theorem ain:V6.size=1:=ID rfl
theorem acS:V6.bytes=8:=ID rfl
theorem ayM:qw V6=True:=eq_true rfl
theorem ayN:zc V6=[.v Value.nilFunc]:=ID rfl
theorem aV0{K:TI→Prop}:@tyW Tryz.prog 137 ⟨K⟩=K V5:=qh aYr
theorem ayL:V5.kd=Kd.oth:=ID rfl
theorem anI:V5.kd.agg=false:=ID rfl
theorem aim:V5.size=1:=ID rfl
theorem acR:V5.bytes=8:=ID rfl
theorem ayJ:qw V5=True:=eq_true rfl
theorem ayK:zc V5=[.v Value.nilFunc]:=ID rfl
theorem aVZ{K:TI→Prop}:@tyW Tryz.prog 138 ⟨K⟩=K V4:=qh aYq
theorem ayI:V4.kd=Kd.oth:=ID rfl
theorem anH:V4.kd.agg=false:=ID rfl
theorem ail:V4.size=1:=ID rfl
theorem acQ:V4.bytes=8:=ID rfl
theorem ayG:qw V4=True:=eq_true rfl
theorem ayH:zc V4=[.v Value.nilFunc]:=ID rfl
theorem aVY{K:TI→Prop}:@tyW Tryz.prog 139 ⟨K⟩=K V3:=qh aYp
theorem ayF:V3.kd=Kd.oth:=ID rfl
theorem anG:V3.kd.agg=false:=ID rfl
theorem aik:V3.size=1:=ID rfl
theorem acP:V3.bytes=8:=ID rfl
theorem ayD:qw V3=True:=eq_true rfl
theorem ayE:zc V3=[.v Value.nilFunc]:=ID rfl
theorem aVX{K:TI→Prop}:@tyW Tryz.prog 140 ⟨K⟩=K V2:=qh aYo
theorem ayC:V2.kd=Kd.oth:=ID rfl
theorem anF:V2.kd.agg=false:=ID rfl
theorem aij:V2.size=1:=ID rfl
theorem acO:V2.bytes=8:=ID rfl
theorem ayA:qw V2=True:=eq_true rfl
theorem ayB:zc V2=[.v Value.nilFunc]:=ID rfl
theorem aVW{K:TI→Prop}:@tyW Tryz.prog 142 ⟨K⟩=K V1:=qh aYn
theorem ayz:V1.kd=Kd.oth:=ID rfl
theorem anE:V1.kd.agg=false:=ID rfl
theorem aii:V1.size=1:=ID rfl
theorem acN:V1.bytes=8:=ID rfl
theorem ayx:qw V1=True:=eq_true rfl
theorem ayy:zc V1=[.v Value.nilFunc]:=ID rfl
theorem aVV{K:TI→Prop}:@tyW Tryz.prog 143 ⟨K⟩=K V0:=qh aYm
theorem ayw:V0.kd=Kd.oth:=ID rfl
theorem anD:V0.kd.agg=false:=ID rfl
theorem aih:V0.size=1:=ID rfl
theorem acM:V0.bytes=8:=ID rfl
theorem ayu:qw V0=True:=eq_true rfl
theorem ayv:zc V0=[.v Value.nilFunc]:=ID rfl
theorem aVU{K:TI→Prop}:@tyW Tryz.prog 144 ⟨K⟩=K VZ:=qh aYl
theorem ayt:VZ.kd=Kd.oth:=ID rfl
theorem anC:VZ.kd.agg=false:=ID rfl
theorem aig:VZ.size=1:=ID rfl
theorem acL:VZ.bytes=8:=ID rfl
theorem ayr:qw VZ=True:=eq_true rfl
theorem ays:zc VZ=[.v Value.nilFunc]:=ID rfl
theorem aVT{K:TI→Prop}:@tyW Tryz.prog 145 ⟨K⟩=K VY:=qh aYk
theorem ayq:VY.kd=Kd.oth:=ID rfl
theorem anB:VY.kd.agg=false:=ID rfl
theorem aif:VY.size=1:=ID rfl
theorem acK:VY.bytes=8:=ID rfl
theorem ayo:qw VY=True:=eq_true rfl
theorem ayp:zc VY=[.v Value.nilFunc]:=ID rfl
theorem aVS{K:TI→Prop}:@tyW Tryz.prog 146 ⟨K⟩=K VX:=qh aYj
theorem ayn:VX.kd=Kd.oth:=ID rfl
theorem anA:VX.kd.agg=false:=ID rfl
theorem aie:VX.size=1:=ID rfl
theorem acJ:VX.bytes=8:=ID rfl
theorem ayl:qw VX=True:=eq_true rfl
theorem aym:zc VX=[.v Value.nilFunc]:=ID rfl
theorem aVR{K:TI→Prop}:@tyW Tryz.prog 147 ⟨K⟩=K VW:=qh aYi
theorem ayk:VW.kd=Kd.oth:=ID rfl
theorem anz:VW.kd.agg=false:=ID rfl
theorem aid:VW.size=1:=ID rfl
theorem acI:VW.bytes=8:=ID rfl
theorem ayi:qw VW=True:=eq_true rfl
theorem ayj:zc VW=[.v Value.nilFunc]:=ID rfl
theorem aVQ{K:TI→Prop}:@tyW Tryz.prog 148 ⟨K⟩=K VV:=qh aYh
theorem ayh:VV.kd=Kd.oth:=ID rfl
theorem anx:VV.kd.agg=false:=ID rfl
theorem aic:VV.size=1:=ID rfl
theorem acH:VV.bytes=8:=ID rfl
theorem ayf:qw VV=True:=eq_true rfl
theorem ayg:zc VV=[.v Value.nilFunc]:=ID rfl
theorem aVP{K:TI→Prop}:@tyW Tryz.prog 149 ⟨K⟩=K VU:=qh aYg
theorem aye:VU.kd=Kd.oth:=ID rfl
theorem anw:VU.kd.agg=false:=ID rfl
theorem aib:VU.size=1:=ID rfl
theorem acG:VU.bytes=8:=ID rfl
theorem ayc:qw VU=True:=eq_true rfl
theorem ayd:zc VU=[.v Value.nilFunc]:=ID rfl
theorem aVO{K:TI→Prop}:@tyW Tryz.prog 151 ⟨K⟩=K VT:=qh aYf
theorem ayb:VT.kd=Kd.oth:=ID rfl
theorem anv:VT.kd.agg=false:=ID rfl
theorem aia:VT.size=1:=ID rfl
theorem acF:VT.bytes=8:=ID rfl
theorem ax9:qw VT=True:=eq_true rfl
theorem aya:zc VT=[.v Value.nilFunc]:=ID rfl
theorem aVN{K:TI→Prop}:@tyW Tryz.prog 152 ⟨K⟩=K VS:=qh aYe
theorem ax8:VS.kd=Kd.oth:=ID rfl
theorem anu:VS.kd.agg=false:=ID rfl
theorem ah9:VS.size=1:=ID rfl
theorem acE:VS.bytes=8:=ID rfl
theorem ax6:qw VS=True:=eq_true rfl
theorem ax7:zc VS=[.v Value.nilFunc]:=ID rfl
theorem aVM{K:TI→Prop}:@tyW Tryz.prog 153 ⟨K⟩=K yX:=qh KD
theorem ax5:yX.kd=Kd.sli 133:=ID rfl
theorem ant:yX.kd.agg=false:=ID rfl
theorem ah8:yX.size=1:=ID rfl
theorem acD:yX.bytes=24:=ID rfl
theorem ax3:qw yX=True:=eq_true rfl
theorem ax4:zc yX=[.v (Value.slice none 0 0)]:=ID rfl
theorem aNY{K:TI→Prop}:@yG Tryz.prog 153 ⟨K⟩=K Q2:=Zy KD rfl aoq
theorem aVL{K:TI→Prop}:@tyW Tryz.prog 154 ⟨K⟩=K Zp:=qh aAE
theorem ax2:Zp.kd=Kd.stru [(0,3),(1,153)]:=ID rfl
theorem ans:Zp.kd.agg=true:=ID rfl
theorem ah7:Zp.size=2:=ID rfl
theorem acC:Zp.bytes=32:=ID rfl
theorem ax0:qw Zp=True:=eq_true rfl
theorem ax1:zc Zp=[.v (Value.int IntKind.i64 0),.v (Value.slice none 0 0)]:=ID rfl
theorem aCq{K:Nat→TI→Prop}:@qz Tryz.prog 154 0 ⟨K⟩=K 0 ti3:=qr (ti:=Zp) (tf:=ti3) (fo:=(0,3)) (fs:=[(0,3),(1,153)]) aAE rfl rfl tf3
theorem aJv{K:Nat→Nat→Prop}:qt Tryz.prog [(0,3),(1,153)] 0 K=K 0 1:=qq (tf:=ti3) (fo:=(0,3)) (fs:=[(0,3),(1,153)]) rfl tf3
theorem aCp{K:Nat→TI→Prop}:@qz Tryz.prog 154 1 ⟨K⟩=K 1 yX:=qr (ti:=Zp) (tf:=yX) (fo:=(1,153)) (fs:=[(0,3),(1,153)]) aAE rfl rfl KD
theorem aJu{K:Nat→Nat→Prop}:qt Tryz.prog [(0,3),(1,153)] 1 K=K 1 1:=qq (tf:=yX) (fo:=(1,153)) (fs:=[(0,3),(1,153)]) rfl KD
theorem aK4:∀f∈([(0,3),(1,153)]:List (Nat×Nat)),(qn Tryz.prog f.2).isSome=true:=by
 intro f hf
 simp only[List.mem_cons,List.not_mem_nil,or_false]at hf
 rcases hf with rfl|rfl
 ·rw[tf3];rfl
 ·rw[KD];rfl
theorem aTm{ps:List (Nat×AV)}{K:AV→Prop}:@zi Tryz.prog 154 ps ⟨K⟩=@zh (qt Tryz.prog [(0,3),(1,153)]) (zc Zp) ps ⟨fun cs=>K (.ag cs)⟩:=qM aAE rfl aK4
theorem aVK{K:TI→Prop}:@tyW Tryz.prog 155 ⟨K⟩=K Zo:=qh aAD
theorem axZ:Zo.kd=Kd.stru [(0,3),(1,153)]:=ID rfl
theorem anr:Zo.kd.agg=true:=ID rfl
theorem ah6:Zo.size=2:=ID rfl
theorem acB:Zo.bytes=32:=ID rfl
theorem axX:qw Zo=True:=eq_true rfl
theorem axY:zc Zo=[.v (Value.int IntKind.i64 0),.v (Value.slice none 0 0)]:=ID rfl
theorem aCo{K:Nat→TI→Prop}:@qz Tryz.prog 155 0 ⟨K⟩=K 0 ti3:=qr (ti:=Zo) (tf:=ti3) (fo:=(0,3)) (fs:=[(0,3),(1,153)]) aAD rfl rfl tf3
theorem aJt{K:Nat→Nat→Prop}:qt Tryz.prog [(0,3),(1,153)] 0 K=K 0 1:=qq (tf:=ti3) (fo:=(0,3)) (fs:=[(0,3),(1,153)]) rfl tf3
theorem aCn{K:Nat→TI→Prop}:@qz Tryz.prog 155 1 ⟨K⟩=K 1 yX:=qr (ti:=Zo) (tf:=yX) (fo:=(1,153)) (fs:=[(0,3),(1,153)]) aAD rfl rfl KD
theorem aJs{K:Nat→Nat→Prop}:qt Tryz.prog [(0,3),(1,153)] 1 K=K 1 1:=qq (tf:=yX) (fo:=(1,153)) (fs:=[(0,3),(1,153)]) rfl KD
theorem aK3:∀f∈([(0,3),(1,153)]:List (Nat×Nat)),(qn Tryz.prog f.2).isSome=true:=by
 intro f hf
 simp only[List.mem_cons,List.not_mem_nil,or_false]at hf
 rcases hf with rfl|rfl
 ·rw[tf3];rfl
 ·rw[KD];rfl
theorem aTl{ps:List (Nat×AV)}{K:AV→Prop}:@zi Tryz.prog 155 ps ⟨K⟩=@zh (qt Tryz.prog [(0,3),(1,153)]) (zc Zo) ps ⟨fun cs=>K (.ag cs)⟩:=qM aAD rfl aK3
theorem aVJ{K:TI→Prop}:@tyW Tryz.prog 156 ⟨K⟩=K VR:=qh aYd
theorem axW:VR.kd=Kd.oth:=ID rfl
theorem anq:VR.kd.agg=false:=ID rfl
theorem ah5:VR.size=1:=ID rfl
theorem acA:VR.bytes=8:=ID rfl
theorem axU:qw VR=True:=eq_true rfl
theorem axV:zc VR=[.v Value.nilFunc]:=ID rfl
theorem aVI{K:TI→Prop}:@tyW Tryz.prog 157 ⟨K⟩=K VQ:=qh aYc
theorem axT:VQ.kd=Kd.oth:=ID rfl
theorem anp:VQ.kd.agg=false:=ID rfl
theorem ah4:VQ.size=1:=ID rfl
theorem acz:VQ.bytes=8:=ID rfl
theorem axR:qw VQ=True:=eq_true rfl
theorem axS:zc VQ=[.v Value.nilFunc]:=ID rfl
theorem aVH{K:TI→Prop}:@tyW Tryz.prog 158 ⟨K⟩=K VP:=qh aYb
theorem axQ:VP.kd=Kd.oth:=ID rfl
theorem ano:VP.kd.agg=false:=ID rfl
theorem ah3:VP.size=1:=ID rfl
theorem acy:VP.bytes=8:=ID rfl
theorem axO:qw VP=True:=eq_true rfl
theorem axP:zc VP=[.v Value.nilFunc]:=ID rfl
theorem aVG{K:TI→Prop}:@tyW Tryz.prog 159 ⟨K⟩=K VO:=qh aYa
theorem axN:VO.kd=Kd.oth:=ID rfl
theorem ann:VO.kd.agg=false:=ID rfl
theorem ah2:VO.size=1:=ID rfl
theorem acx:VO.bytes=8:=ID rfl
theorem axL:qw VO=True:=eq_true rfl
theorem axM:zc VO=[.v Value.nilFunc]:=ID rfl
theorem aVF{K:TI→Prop}:@tyW Tryz.prog 160 ⟨K⟩=K VN:=qh aX9
theorem axK:VN.kd=Kd.oth:=ID rfl
theorem anm:VN.kd.agg=false:=ID rfl
theorem ah1:VN.size=1:=ID rfl
theorem acw:VN.bytes=8:=ID rfl
theorem axI:qw VN=True:=eq_true rfl
theorem axJ:zc VN=[.v Value.nilFunc]:=ID rfl
theorem aVE{K:TI→Prop}:@tyW Tryz.prog 161 ⟨K⟩=K VM:=qh aX8
theorem axH:VM.kd=Kd.oth:=ID rfl
theorem anl:VM.kd.agg=false:=ID rfl
theorem ah0:VM.size=1:=ID rfl
theorem acv:VM.bytes=8:=ID rfl
theorem axF:qw VM=True:=eq_true rfl
theorem axG:zc VM=[.v Value.nilFunc]:=ID rfl
theorem aVD{K:TI→Prop}:@tyW Tryz.prog 163 ⟨K⟩=K VL:=qh aX7
theorem axE:VL.kd=Kd.oth:=ID rfl
theorem ank:VL.kd.agg=false:=ID rfl
theorem ahZ:VL.size=1:=ID rfl
theorem acu:VL.bytes=8:=ID rfl
theorem axC:qw VL=True:=eq_true rfl
theorem axD:zc VL=[.v Value.nilFunc]:=ID rfl
theorem aVC{K:TI→Prop}:@tyW Tryz.prog 164 ⟨K⟩=K VK:=qh aX6
theorem axB:VK.kd=Kd.oth:=ID rfl
theorem anj:VK.kd.agg=false:=ID rfl
theorem ahY:VK.size=1:=ID rfl
theorem act:VK.bytes=8:=ID rfl
theorem axz:qw VK=True:=eq_true rfl
theorem axA:zc VK=[.v Value.nilFunc]:=ID rfl
theorem aVB{K:TI→Prop}:@tyW Tryz.prog 165 ⟨K⟩=K VJ:=qh aX5
theorem axy:VJ.kd=Kd.oth:=ID rfl
theorem ani:VJ.kd.agg=false:=ID rfl
theorem ahX:VJ.size=1:=ID rfl
theorem acs:VJ.bytes=8:=ID rfl
theorem axw:qw VJ=True:=eq_true rfl
theorem axx:zc VJ=[.v Value.nilFunc]:=ID rfl
theorem aVA{K:TI→Prop}:@tyW Tryz.prog 166 ⟨K⟩=K VI:=qh aX4
theorem axv:VI.kd=Kd.oth:=ID rfl
theorem anh:VI.kd.agg=false:=ID rfl
theorem ahW:VI.size=1:=ID rfl
theorem acr:VI.bytes=8:=ID rfl
theorem axt:qw VI=True:=eq_true rfl
theorem axu:zc VI=[.v Value.nilFunc]:=ID rfl
theorem aVz{K:TI→Prop}:@tyW Tryz.prog 167 ⟨K⟩=K VH:=qh aX3
theorem axs:VH.kd=Kd.oth:=ID rfl
theorem ang:VH.kd.agg=false:=ID rfl
theorem ahV:VH.size=1:=ID rfl
theorem acq:VH.bytes=8:=ID rfl
theorem axq:qw VH=True:=eq_true rfl
theorem axr:zc VH=[.v Value.nilFunc]:=ID rfl
theorem aVy{K:TI→Prop}:@tyW Tryz.prog 168 ⟨K⟩=K VG:=qh aX2
theorem axp:VG.kd=Kd.oth:=ID rfl
theorem anf:VG.kd.agg=false:=ID rfl
theorem ahU:VG.size=1:=ID rfl
theorem acp:VG.bytes=8:=ID rfl
theorem axn:qw VG=True:=eq_true rfl
theorem axo:zc VG=[.v Value.nilFunc]:=ID rfl
theorem aVx{K:TI→Prop}:@tyW Tryz.prog 169 ⟨K⟩=K VF:=qh aX1
theorem axm:VF.kd=Kd.oth:=ID rfl
theorem ane:VF.kd.agg=false:=ID rfl
theorem ahT:VF.size=1:=ID rfl
theorem aco:VF.bytes=8:=ID rfl
theorem axk:qw VF=True:=eq_true rfl
theorem axl:zc VF=[.v Value.nilFunc]:=ID rfl
theorem aVw{K:TI→Prop}:@tyW Tryz.prog 170 ⟨K⟩=K VE:=qh aX0
theorem axj:VE.kd=Kd.oth:=ID rfl
theorem anc:VE.kd.agg=false:=ID rfl
theorem ahS:VE.size=1:=ID rfl
theorem acn:VE.bytes=8:=ID rfl
theorem axh:qw VE=True:=eq_true rfl
theorem axi:zc VE=[.v Value.nilFunc]:=ID rfl
theorem aVv{K:TI→Prop}:@tyW Tryz.prog 171 ⟨K⟩=K VD:=qh aXZ
theorem axg:VD.kd=Kd.oth:=ID rfl
theorem anb:VD.kd.agg=false:=ID rfl
theorem ahR:VD.size=1:=ID rfl
theorem acm:VD.bytes=8:=ID rfl
theorem axe:qw VD=True:=eq_true rfl
theorem axf:zc VD=[.v Value.nilFunc]:=ID rfl
theorem aVu{K:TI→Prop}:@tyW Tryz.prog 173 ⟨K⟩=K VC:=qh aXY
theorem axd:VC.kd=Kd.oth:=ID rfl
theorem ana:VC.kd.agg=false:=ID rfl
theorem ahQ:VC.size=1:=ID rfl
theorem acl:VC.bytes=8:=ID rfl
theorem axb:qw VC=True:=eq_true rfl
theorem axc:zc VC=[.v Value.nilFunc]:=ID rfl
theorem aVt{K:TI→Prop}:@tyW Tryz.prog 174 ⟨K⟩=K Q1:=qh aop
theorem axa:Q1.kd=Kd.stru [(0,22),(1,3),(2,3)]:=ID rfl
theorem am9:Q1.kd.agg=true:=ID rfl
theorem ahP:Q1.size=3:=ID rfl
theorem ack:Q1.bytes=40:=ID rfl
theorem aw8:qw Q1=True:=eq_true rfl
theorem aw9:zc Q1=[.v (Value.slice none 0 0),.v (Value.int IntKind.i64 0),.v (Value.int IntKind.i64 0)]:=ID rfl
theorem aCm{K:Nat→TI→Prop}:@qz Tryz.prog 174 0 ⟨K⟩=K 0 aeM:=qr (ti:=Q1) (tf:=aeM) (fo:=(0,22)) (fs:=[(0,22),(1,3),(2,3)]) aop rfl rfl aEB
theorem aJr{K:Nat→Nat→Prop}:qt Tryz.prog [(0,22),(1,3),(2,3)] 0 K=K 0 1:=qq (tf:=aeM) (fo:=(0,22)) (fs:=[(0,22),(1,3),(2,3)]) rfl aEB
theorem aCl{K:Nat→TI→Prop}:@qz Tryz.prog 174 1 ⟨K⟩=K 1 ti3:=qr (ti:=Q1) (tf:=ti3) (fo:=(1,3)) (fs:=[(0,22),(1,3),(2,3)]) aop rfl rfl tf3
theorem aJq{K:Nat→Nat→Prop}:qt Tryz.prog [(0,22),(1,3),(2,3)] 1 K=K 1 1:=qq (tf:=ti3) (fo:=(1,3)) (fs:=[(0,22),(1,3),(2,3)]) rfl tf3
theorem aCk{K:Nat→TI→Prop}:@qz Tryz.prog 174 2 ⟨K⟩=K 2 ti3:=qr (ti:=Q1) (tf:=ti3) (fo:=(2,3)) (fs:=[(0,22),(1,3),(2,3)]) aop rfl rfl tf3
theorem aJp{K:Nat→Nat→Prop}:qt Tryz.prog [(0,22),(1,3),(2,3)] 2 K=K 2 1:=qq (tf:=ti3) (fo:=(2,3)) (fs:=[(0,22),(1,3),(2,3)]) rfl tf3
theorem aK2:∀f∈([(0,22),(1,3),(2,3)]:List (Nat×Nat)),(qn Tryz.prog f.2).isSome=true:=by
 intro f hf
 simp only[List.mem_cons,List.not_mem_nil,or_false]at hf
 rcases hf with rfl|rfl|rfl
 ·rw[aEB];rfl
 ·rw[tf3];rfl
 ·rw[tf3];rfl
theorem aTk{ps:List (Nat×AV)}{K:AV→Prop}:@zi Tryz.prog 174 ps ⟨K⟩=@zh (qt Tryz.prog [(0,22),(1,3),(2,3)]) (zc Q1) ps ⟨fun cs=>K (.ag cs)⟩:=qM aop rfl aK2
theorem aVs{K:TI→Prop}:@tyW Tryz.prog 175 ⟨K⟩=K Q0:=qh aoo
theorem aw7:Q0.kd=Kd.stru [(0,22),(1,3),(2,3)]:=ID rfl
theorem am8:Q0.kd.agg=true:=ID rfl
theorem ahO:Q0.size=3:=ID rfl
theorem acj:Q0.bytes=40:=ID rfl
theorem aw5:qw Q0=True:=eq_true rfl
theorem aw6:zc Q0=[.v (Value.slice none 0 0),.v (Value.int IntKind.i64 0),.v (Value.int IntKind.i64 0)]:=ID rfl
theorem aCj{K:Nat→TI→Prop}:@qz Tryz.prog 175 0 ⟨K⟩=K 0 aeM:=qr (ti:=Q0) (tf:=aeM) (fo:=(0,22)) (fs:=[(0,22),(1,3),(2,3)]) aoo rfl rfl aEB
theorem aJo{K:Nat→Nat→Prop}:qt Tryz.prog [(0,22),(1,3),(2,3)] 0 K=K 0 1:=qq (tf:=aeM) (fo:=(0,22)) (fs:=[(0,22),(1,3),(2,3)]) rfl aEB
theorem aCi{K:Nat→TI→Prop}:@qz Tryz.prog 175 1 ⟨K⟩=K 1 ti3:=qr (ti:=Q0) (tf:=ti3) (fo:=(1,3)) (fs:=[(0,22),(1,3),(2,3)]) aoo rfl rfl tf3
theorem aJn{K:Nat→Nat→Prop}:qt Tryz.prog [(0,22),(1,3),(2,3)] 1 K=K 1 1:=qq (tf:=ti3) (fo:=(1,3)) (fs:=[(0,22),(1,3),(2,3)]) rfl tf3
theorem aCh{K:Nat→TI→Prop}:@qz Tryz.prog 175 2 ⟨K⟩=K 2 ti3:=qr (ti:=Q0) (tf:=ti3) (fo:=(2,3)) (fs:=[(0,22),(1,3),(2,3)]) aoo rfl rfl tf3
theorem aJm{K:Nat→Nat→Prop}:qt Tryz.prog [(0,22),(1,3),(2,3)] 2 K=K 2 1:=qq (tf:=ti3) (fo:=(2,3)) (fs:=[(0,22),(1,3),(2,3)]) rfl tf3
theorem aK1:∀f∈([(0,22),(1,3),(2,3)]:List (Nat×Nat)),(qn Tryz.prog f.2).isSome=true:=by
 intro f hf
 simp only[List.mem_cons,List.not_mem_nil,or_false]at hf
 rcases hf with rfl|rfl|rfl
 ·rw[aEB];rfl
 ·rw[tf3];rfl
 ·rw[tf3];rfl
theorem aTj{ps:List (Nat×AV)}{K:AV→Prop}:@zi Tryz.prog 175 ps ⟨K⟩=@zh (qt Tryz.prog [(0,22),(1,3),(2,3)]) (zc Q0) ps ⟨fun cs=>K (.ag cs)⟩:=qM aoo rfl aK1
theorem aVr{K:TI→Prop}:@tyW Tryz.prog 176 ⟨K⟩=K VB:=qh aXX
theorem aw4:VB.kd=Kd.oth:=ID rfl
theorem am7:VB.kd.agg=false:=ID rfl
theorem ahN:VB.size=1:=ID rfl
theorem aci:VB.bytes=8:=ID rfl
theorem aw2:qw VB=True:=eq_true rfl
theorem aw3:zc VB=[.v Value.nilFunc]:=ID rfl
theorem aVq{K:TI→Prop}:@tyW Tryz.prog 177 ⟨K⟩=K VA:=qh aXW
theorem aw1:VA.kd=Kd.oth:=ID rfl
theorem am6:VA.kd.agg=false:=ID rfl
theorem ahM:VA.size=1:=ID rfl
theorem ach:VA.bytes=8:=ID rfl
theorem awZ:qw VA=True:=eq_true rfl
theorem aw0:zc VA=[.v Value.nilFunc]:=ID rfl
theorem aVp{K:TI→Prop}:@tyW Tryz.prog 178 ⟨K⟩=K Vz:=qh aXV
theorem awY:Vz.kd=Kd.oth:=ID rfl
theorem am5:Vz.kd.agg=false:=ID rfl
theorem ahL:Vz.size=1:=ID rfl
theorem acg:Vz.bytes=8:=ID rfl
theorem awW:qw Vz=True:=eq_true rfl
theorem awX:zc Vz=[.v Value.nilFunc]:=ID rfl
theorem aVo{K:TI→Prop}:@tyW Tryz.prog 179 ⟨K⟩=K Vy:=qh aXU
theorem awU:Vy.kd=Kd.oth:=ID rfl
theorem am4:Vy.kd.agg=false:=ID rfl
theorem ahK:Vy.size=1:=ID rfl
theorem acf:Vy.bytes=8:=ID rfl
theorem awS:qw Vy=True:=eq_true rfl
theorem awT:zc Vy=[.v Value.nilFunc]:=ID rfl
theorem aVn{K:TI→Prop}:@tyW Tryz.prog 180 ⟨K⟩=K Vx:=qh aXT
theorem awR:Vx.kd=Kd.oth:=ID rfl
theorem am3:Vx.kd.agg=false:=ID rfl
theorem ahJ:Vx.size=1:=ID rfl
theorem ace:Vx.bytes=8:=ID rfl
theorem awP:qw Vx=True:=eq_true rfl
theorem awQ:zc Vx=[.v Value.nilFunc]:=ID rfl
theorem aVm{K:TI→Prop}:@tyW Tryz.prog 182 ⟨K⟩=K Vw:=qh aXS
theorem awO:Vw.kd=Kd.oth:=ID rfl
theorem am2:Vw.kd.agg=false:=ID rfl
theorem ahI:Vw.size=1:=ID rfl
theorem acd:Vw.bytes=8:=ID rfl
theorem awM:qw Vw=True:=eq_true rfl
theorem awN:zc Vw=[.v Value.nilFunc]:=ID rfl
theorem aVl{K:TI→Prop}:@tyW Tryz.prog 183 ⟨K⟩=K Vv:=qh aXR
theorem awL:Vv.kd=Kd.oth:=ID rfl
theorem am1:Vv.kd.agg=false:=ID rfl
theorem ahH:Vv.size=1:=ID rfl
theorem acb:Vv.bytes=8:=ID rfl
theorem awJ:qw Vv=True:=eq_true rfl
theorem awK:zc Vv=[.v Value.nilFunc]:=ID rfl
theorem aVk{K:TI→Prop}:@tyW Tryz.prog 184 ⟨K⟩=K Vu:=qh aXQ
theorem awI:Vu.kd=Kd.oth:=ID rfl
theorem am0:Vu.kd.agg=false:=ID rfl
theorem ahG:Vu.size=1:=ID rfl
theorem aca:Vu.bytes=8:=ID rfl
theorem awG:qw Vu=True:=eq_true rfl
theorem awH:zc Vu=[.v Value.nilFunc]:=ID rfl
theorem aVj{K:TI→Prop}:@tyW Tryz.prog 185 ⟨K⟩=K Vt:=qh aXP
theorem awF:Vt.kd=Kd.oth:=ID rfl
theorem amZ:Vt.kd.agg=false:=ID rfl
theorem ahF:Vt.size=1:=ID rfl
theorem ab9:Vt.bytes=8:=ID rfl
theorem awD:qw Vt=True:=eq_true rfl
theorem awE:zc Vt=[.v Value.nilFunc]:=ID rfl
theorem aVi{K:TI→Prop}:@tyW Tryz.prog 186 ⟨K⟩=K Vs:=qh aXO
theorem awC:Vs.kd=Kd.oth:=ID rfl
theorem amY:Vs.kd.agg=false:=ID rfl
theorem ahE:Vs.size=1:=ID rfl
theorem ab8:Vs.bytes=8:=ID rfl
theorem awA:qw Vs=True:=eq_true rfl
theorem awB:zc Vs=[.v Value.nilFunc]:=ID rfl
theorem aVh{K:TI→Prop}:@tyW Tryz.prog 187 ⟨K⟩=K Vr:=qh aXN
theorem awz:Vr.kd=Kd.oth:=ID rfl
theorem amX:Vr.kd.agg=false:=ID rfl
theorem ahD:Vr.size=1:=ID rfl
theorem ab7:Vr.bytes=8:=ID rfl
theorem awx:qw Vr=True:=eq_true rfl
theorem awy:zc Vr=[.v Value.nilFunc]:=ID rfl
theorem aVg{K:TI→Prop}:@tyW Tryz.prog 188 ⟨K⟩=K Vq:=qh aXM
theorem aww:Vq.kd=Kd.oth:=ID rfl
theorem amW:Vq.kd.agg=false:=ID rfl
theorem ahC:Vq.size=1:=ID rfl
theorem ab6:Vq.bytes=8:=ID rfl
theorem awu:qw Vq=True:=eq_true rfl
theorem awv:zc Vq=[.v Value.nilFunc]:=ID rfl
theorem aVf{K:TI→Prop}:@tyW Tryz.prog 189 ⟨K⟩=K Vp:=qh aXL
theorem awt:Vp.kd=Kd.oth:=ID rfl
theorem amV:Vp.kd.agg=false:=ID rfl
theorem ahB:Vp.size=1:=ID rfl
theorem ab5:Vp.bytes=8:=ID rfl
theorem awr:qw Vp=True:=eq_true rfl
theorem aws:zc Vp=[.v Value.nilFunc]:=ID rfl
theorem aVe{K:TI→Prop}:@tyW Tryz.prog 190 ⟨K⟩=K Vo:=qh aXK
theorem awq:Vo.kd=Kd.oth:=ID rfl
theorem amU:Vo.kd.agg=false:=ID rfl
theorem ahA:Vo.size=1:=ID rfl
theorem ab4:Vo.bytes=8:=ID rfl
theorem awn:qw Vo=True:=eq_true rfl
theorem awo:zc Vo=[.v Value.nilFunc]:=ID rfl
theorem aVd{K:TI→Prop}:@tyW Tryz.prog 191 ⟨K⟩=K Vn:=qh aXJ
theorem awm:Vn.kd=Kd.oth:=ID rfl
theorem amT:Vn.kd.agg=false:=ID rfl
theorem ahz:Vn.size=1:=ID rfl
theorem ab3:Vn.bytes=8:=ID rfl
theorem awk:qw Vn=True:=eq_true rfl
theorem awl:zc Vn=[.v Value.nilFunc]:=ID rfl
theorem aVc{K:TI→Prop}:@tyW Tryz.prog 192 ⟨K⟩=K Vm:=qh aXI
theorem awj:Vm.kd=Kd.oth:=ID rfl
theorem amS:Vm.kd.agg=false:=ID rfl
theorem ahy:Vm.size=1:=ID rfl
theorem ab2:Vm.bytes=8:=ID rfl
theorem awh:qw Vm=True:=eq_true rfl
theorem awi:zc Vm=[.v Value.nilFunc]:=ID rfl
theorem aVb{K:TI→Prop}:@tyW Tryz.prog 194 ⟨K⟩=K Vl:=qh aXH
theorem awg:Vl.kd=Kd.oth:=ID rfl
theorem amR:Vl.kd.agg=false:=ID rfl
theorem ahx:Vl.size=1:=ID rfl
theorem ab1:Vl.bytes=8:=ID rfl
theorem awe:qw Vl=True:=eq_true rfl
theorem awf:zc Vl=[.v Value.nilFunc]:=ID rfl
theorem aVa{K:TI→Prop}:@tyW Tryz.prog 195 ⟨K⟩=K Vk:=qh aNG
theorem awd:Vk.kd=Kd.sli 111:=ID rfl
theorem amQ:Vk.kd.agg=false:=ID rfl
theorem ahw:Vk.size=1:=ID rfl
theorem ab0:Vk.bytes=24:=ID rfl
theorem awb:qw Vk=True:=eq_true rfl
theorem awc:zc Vk=[.v (Value.slice none 0 0)]:=ID rfl
theorem aNX{K:TI→Prop}:@yG Tryz.prog 195 ⟨K⟩=K yM:=Zy aNG rfl J8
theorem aU9{K:TI→Prop}:@tyW Tryz.prog 196 ⟨K⟩=K Vj:=qh aXG
theorem awa:Vj.kd=Kd.oth:=ID rfl
theorem amP:Vj.kd.agg=false:=ID rfl
theorem ahv:Vj.size=1:=ID rfl
theorem abZ:Vj.bytes=8:=ID rfl
theorem av8:qw Vj=True:=eq_true rfl
theorem av9:zc Vj=[.v Value.nilFunc]:=ID rfl
theorem aU8{K:TI→Prop}:@tyW Tryz.prog 197 ⟨K⟩=K Vi:=qh aXF
theorem av7:Vi.kd=Kd.oth:=ID rfl
theorem amO:Vi.kd.agg=false:=ID rfl
theorem ahu:Vi.size=1:=ID rfl
theorem abY:Vi.bytes=8:=ID rfl
theorem av5:qw Vi=True:=eq_true rfl
theorem av6:zc Vi=[.v Value.nilFunc]:=ID rfl
theorem aU7{K:TI→Prop}:@tyW Tryz.prog 198 ⟨K⟩=K Vh:=qh aXE
theorem av4:Vh.kd=Kd.oth:=ID rfl
theorem amN:Vh.kd.agg=false:=ID rfl
theorem aht:Vh.size=1:=ID rfl
theorem abX:Vh.bytes=8:=ID rfl
theorem av2:qw Vh=True:=eq_true rfl
theorem av3:zc Vh=[.v Value.nilFunc]:=ID rfl
theorem aU6{K:TI→Prop}:@tyW Tryz.prog 199 ⟨K⟩=K Vg:=qh aXD
theorem av1:Vg.kd=Kd.oth:=ID rfl
theorem amM:Vg.kd.agg=false:=ID rfl
theorem ahs:Vg.size=1:=ID rfl
theorem abW:Vg.bytes=8:=ID rfl
theorem avZ:qw Vg=True:=eq_true rfl
theorem av0:zc Vg=[.v Value.nilFunc]:=ID rfl
theorem aU5{K:TI→Prop}:@tyW Tryz.prog 201 ⟨K⟩=K Vf:=qh aXC
theorem avX:Vf.kd=Kd.oth:=ID rfl
theorem amK:Vf.kd.agg=false:=ID rfl
theorem ahr:Vf.size=1:=ID rfl
theorem abV:Vf.bytes=8:=ID rfl
theorem avV:qw Vf=True:=eq_true rfl
theorem avW:zc Vf=[.v Value.nilFunc]:=ID rfl
theorem aU4{K:TI→Prop}:@tyW Tryz.prog 203 ⟨K⟩=K Ve:=qh aXB
theorem avU:Ve.kd=Kd.oth:=ID rfl
theorem amJ:Ve.kd.agg=false:=ID rfl
theorem ahq:Ve.size=1:=ID rfl
theorem abU:Ve.bytes=8:=ID rfl
theorem avS:qw Ve=True:=eq_true rfl
theorem avT:zc Ve=[.v Value.nilFunc]:=ID rfl
theorem aU3{K:TI→Prop}:@tyW Tryz.prog 204 ⟨K⟩=K Vd:=qh aXA
theorem avR:Vd.kd=Kd.oth:=ID rfl
theorem amI:Vd.kd.agg=false:=ID rfl
theorem ahp:Vd.size=1:=ID rfl
theorem abT:Vd.bytes=8:=ID rfl
theorem avP:qw Vd=True:=eq_true rfl
theorem avQ:zc Vd=[.v Value.nilFunc]:=ID rfl
theorem aU2{K:TI→Prop}:@tyW Tryz.prog 205 ⟨K⟩=K Vc:=qh aXz
theorem avO:Vc.kd=Kd.oth:=ID rfl
theorem amH:Vc.kd.agg=false:=ID rfl
theorem aho:Vc.size=1:=ID rfl
theorem abS:Vc.bytes=8:=ID rfl
theorem avM:qw Vc=True:=eq_true rfl
theorem avN:zc Vc=[.v Value.nilFunc]:=ID rfl
theorem aU1{K:TI→Prop}:@tyW Tryz.prog 207 ⟨K⟩=K Vb:=qh aXy
theorem avL:Vb.kd=Kd.oth:=ID rfl
theorem amG:Vb.kd.agg=false:=ID rfl
theorem ahn:Vb.size=1:=ID rfl
theorem abR:Vb.bytes=8:=ID rfl
theorem avJ:qw Vb=True:=eq_true rfl
theorem avK:zc Vb=[.v Value.nilFunc]:=ID rfl
theorem aU0{K:TI→Prop}:@tyW Tryz.prog 208 ⟨K⟩=K Va:=qh aXx
theorem avI:Va.kd=Kd.oth:=ID rfl
theorem amF:Va.kd.agg=false:=ID rfl
theorem ahm:Va.size=1:=ID rfl
theorem abQ:Va.bytes=8:=ID rfl
theorem avG:qw Va=True:=eq_true rfl
theorem avH:zc Va=[.v Value.nilFunc]:=ID rfl
theorem aUZ{K:TI→Prop}:@tyW Tryz.prog 209 ⟨K⟩=K X9:=qh aXw
theorem avF:X9.kd=Kd.oth:=ID rfl
theorem amE:X9.kd.agg=false:=ID rfl
theorem ahl:X9.size=1:=ID rfl
theorem abP:X9.bytes=8:=ID rfl
theorem avD:qw X9=True:=eq_true rfl
theorem avE:zc X9=[.v Value.nilFunc]:=ID rfl
theorem aUY{K:TI→Prop}:@tyW Tryz.prog 210 ⟨K⟩=K X8:=qh aXv
theorem avC:X8.kd=Kd.oth:=ID rfl
theorem amD:X8.kd.agg=false:=ID rfl
theorem ahk:X8.size=1:=ID rfl
theorem abO:X8.bytes=8:=ID rfl
theorem avA:qw X8=True:=eq_true rfl
theorem avB:zc X8=[.v Value.nilFunc]:=ID rfl
theorem aUX{K:TI→Prop}:@tyW Tryz.prog 211 ⟨K⟩=K X7:=qh aXu
theorem avz:X7.kd=Kd.oth:=ID rfl
theorem amC:X7.kd.agg=false:=ID rfl
theorem ahj:X7.size=1:=ID rfl
theorem abN:X7.bytes=8:=ID rfl
theorem avx:qw X7=True:=eq_true rfl
theorem avy:zc X7=[.v Value.nilFunc]:=ID rfl
theorem aUW{K:TI→Prop}:@tyW Tryz.prog 212 ⟨K⟩=K X6:=qh aXt
theorem avw:X6.kd=Kd.oth:=ID rfl
theorem amB:X6.kd.agg=false:=ID rfl
theorem ahi:X6.size=1:=ID rfl
theorem abM:X6.bytes=8:=ID rfl
theorem avu:qw X6=True:=eq_true rfl
theorem avv:zc X6=[.v Value.nilFunc]:=ID rfl
theorem aUV{K:TI→Prop}:@tyW Tryz.prog 213 ⟨K⟩=K X5:=qh aXs
theorem avt:X5.kd=Kd.oth:=ID rfl
theorem amA:X5.kd.agg=false:=ID rfl
theorem ahh:X5.size=1:=ID rfl
theorem abL:X5.bytes=8:=ID rfl
theorem avr:qw X5=True:=eq_true rfl
theorem avs:zc X5=[.v Value.nilFunc]:=ID rfl
theorem aUU{K:TI→Prop}:@tyW Tryz.prog 214 ⟨K⟩=K X4:=qh aXr
theorem avq:X4.kd=Kd.oth:=ID rfl
theorem amz:X4.kd.agg=false:=ID rfl
theorem ahg:X4.size=1:=ID rfl
theorem abK:X4.bytes=8:=ID rfl
theorem avo:qw X4=True:=eq_true rfl
theorem avp:zc X4=[.v Value.nilFunc]:=ID rfl
theorem aUT{K:TI→Prop}:@tyW Tryz.prog 215 ⟨K⟩=K X3:=qh aXq
theorem avn:X3.kd=Kd.oth:=ID rfl
theorem amy:X3.kd.agg=false:=ID rfl
theorem ahf:X3.size=1:=ID rfl
theorem abJ:X3.bytes=8:=ID rfl
theorem avl:qw X3=True:=eq_true rfl
theorem avm:zc X3=[.v Value.nilFunc]:=ID rfl
theorem aUS{K:TI→Prop}:@tyW Tryz.prog 216 ⟨K⟩=K X2:=qh aXp
theorem avk:X2.kd=Kd.int IntKind.u64:=ID rfl
theorem amx:X2.kd.agg=false:=ID rfl
theorem ahe:X2.size=1:=ID rfl
theorem abI:X2.bytes=8:=ID rfl
theorem avi:qw X2=True:=eq_true rfl
theorem avj:zc X2=[.v (Value.int IntKind.u64 0)]:=ID rfl
theorem aUR{K:TI→Prop}:@tyW Tryz.prog 217 ⟨K⟩=K X1:=qh aXo
theorem avh:X1.kd=Kd.oth:=ID rfl
theorem amw:X1.kd.agg=false:=ID rfl
theorem ahd:X1.size=1:=ID rfl
theorem abH:X1.bytes=8:=ID rfl
theorem avf:qw X1=True:=eq_true rfl
theorem avg:zc X1=[.v Value.nilFunc]:=ID rfl
theorem aUQ{K:TI→Prop}:@tyW Tryz.prog 218 ⟨K⟩=K X0:=qh aXn
theorem ave:X0.kd=Kd.oth:=ID rfl
theorem amv:X0.kd.agg=false:=ID rfl
theorem ahc:X0.size=1:=ID rfl
theorem abG:X0.bytes=8:=ID rfl
theorem avc:qw X0=True:=eq_true rfl
theorem avd:zc X0=[.v Value.nilFunc]:=ID rfl
theorem aUP{K:TI→Prop}:@tyW Tryz.prog 219 ⟨K⟩=K XZ:=qh aXm
theorem avb:XZ.kd=Kd.oth:=ID rfl
theorem amu:XZ.kd.agg=false:=ID rfl
theorem ahb:XZ.size=1:=ID rfl
theorem abF:XZ.bytes=8:=ID rfl
theorem au9:qw XZ=True:=eq_true rfl
theorem ava:zc XZ=[.v Value.nilFunc]:=ID rfl
theorem aUO{K:TI→Prop}:@tyW Tryz.prog 220 ⟨K⟩=K XY:=qh aXl
theorem au7:XY.kd=Kd.oth:=ID rfl
theorem ams:XY.kd.agg=false:=ID rfl
theorem ag9:XY.size=1:=ID rfl
theorem abE:XY.bytes=8:=ID rfl
theorem au5:qw XY=True:=eq_true rfl
theorem au6:zc XY=[.v Value.nilFunc]:=ID rfl
theorem aUN{K:TI→Prop}:@tyW Tryz.prog 221 ⟨K⟩=K XX:=qh aXk
theorem au4:XX.kd=Kd.oth:=ID rfl
theorem amr:XX.kd.agg=false:=ID rfl
theorem ag8:XX.size=1:=ID rfl
theorem abD:XX.bytes=8:=ID rfl
theorem au2:qw XX=True:=eq_true rfl
theorem au3:zc XX=[.v Value.nilFunc]:=ID rfl
theorem aUM{K:TI→Prop}:@tyW Tryz.prog 222 ⟨K⟩=K XW:=qh aXj
theorem au1:XW.kd=Kd.oth:=ID rfl
theorem amq:XW.kd.agg=false:=ID rfl
theorem ag7:XW.size=1:=ID rfl
theorem abC:XW.bytes=8:=ID rfl
theorem auZ:qw XW=True:=eq_true rfl
theorem au0:zc XW=[.v Value.nilFunc]:=ID rfl
theorem aUL{K:TI→Prop}:@tyW Tryz.prog 224 ⟨K⟩=K XV:=qh aXi
theorem auY:XV.kd=Kd.oth:=ID rfl
theorem amp:XV.kd.agg=false:=ID rfl
theorem ag6:XV.size=1:=ID rfl
theorem abB:XV.bytes=8:=ID rfl
theorem auW:qw XV=True:=eq_true rfl
theorem auX:zc XV=[.v Value.nilFunc]:=ID rfl
theorem aUK{K:TI→Prop}:@tyW Tryz.prog 225 ⟨K⟩=K XU:=qh aXh
theorem auV:XU.kd=Kd.oth:=ID rfl
theorem amo:XU.kd.agg=false:=ID rfl
theorem ag5:XU.size=1:=ID rfl
theorem abA:XU.bytes=8:=ID rfl
theorem auT:qw XU=True:=eq_true rfl
theorem auU:zc XU=[.v Value.nilFunc]:=ID rfl
theorem aUJ{K:TI→Prop}:@tyW Tryz.prog 226 ⟨K⟩=K XT:=qh aXg
theorem auS:XT.kd=Kd.oth:=ID rfl
theorem amn:XT.kd.agg=false:=ID rfl
theorem ag4:XT.size=1:=ID rfl
theorem abz:XT.bytes=8:=ID rfl
theorem auQ:qw XT=True:=eq_true rfl
theorem auR:zc XT=[.v Value.nilFunc]:=ID rfl
theorem aUI{K:TI→Prop}:@tyW Tryz.prog 227 ⟨K⟩=K XS:=qh aXf
theorem auP:XS.kd=Kd.oth:=ID rfl
theorem amm:XS.kd.agg=false:=ID rfl
theorem ag3:XS.size=1:=ID rfl
theorem aby:XS.bytes=8:=ID rfl
theorem auN:qw XS=True:=eq_true rfl
theorem auO:zc XS=[.v Value.nilFunc]:=ID rfl
theorem aUH{K:TI→Prop}:@tyW Tryz.prog 228 ⟨K⟩=K XR:=qh aXe
theorem auM:XR.kd=Kd.oth:=ID rfl
theorem aml:XR.kd.agg=false:=ID rfl
theorem ag2:XR.size=1:=ID rfl
theorem abx:XR.bytes=8:=ID rfl
theorem auK:qw XR=True:=eq_true rfl
theorem auL:zc XR=[.v Value.nilFunc]:=ID rfl
theorem aUG{K:TI→Prop}:@tyW Tryz.prog 229 ⟨K⟩=K XQ:=qh aXd
theorem auJ:XQ.kd=Kd.oth:=ID rfl
theorem amk:XQ.kd.agg=false:=ID rfl
theorem ag1:XQ.size=1:=ID rfl
theorem abw:XQ.bytes=8:=ID rfl
theorem auH:qw XQ=True:=eq_true rfl
theorem auI:zc XQ=[.v Value.nilFunc]:=ID rfl
theorem aUF{K:TI→Prop}:@tyW Tryz.prog 230 ⟨K⟩=K XP:=qh aXc
theorem auF:XP.kd=Kd.oth:=ID rfl
theorem ami:XP.kd.agg=false:=ID rfl
theorem agZ:XP.size=1:=ID rfl
theorem abv:XP.bytes=8:=ID rfl
theorem auD:qw XP=True:=eq_true rfl
theorem auE:zc XP=[.v Value.nilFunc]:=ID rfl
theorem aUE{K:TI→Prop}:@tyW Tryz.prog 231 ⟨K⟩=K XO:=qh aXb
theorem auC:XO.kd=Kd.oth:=ID rfl
theorem amh:XO.kd.agg=false:=ID rfl
theorem agY:XO.size=1:=ID rfl
theorem abu:XO.bytes=8:=ID rfl
theorem auA:qw XO=True:=eq_true rfl
theorem auB:zc XO=[.v Value.nilFunc]:=ID rfl
theorem aUD{K:TI→Prop}:@tyW Tryz.prog 232 ⟨K⟩=K XN:=qh aXa
theorem auz:XN.kd=Kd.oth:=ID rfl
theorem amg:XN.kd.agg=false:=ID rfl
theorem agX:XN.size=1:=ID rfl
theorem abt:XN.bytes=8:=ID rfl
theorem aux:qw XN=True:=eq_true rfl
theorem auy:zc XN=[.v Value.nilFunc]:=ID rfl
theorem aUC{K:TI→Prop}:@tyW Tryz.prog 233 ⟨K⟩=K XM:=qh aW9
theorem auw:XM.kd=Kd.oth:=ID rfl
theorem amf:XM.kd.agg=false:=ID rfl
theorem agW:XM.size=1:=ID rfl
theorem abr:XM.bytes=8:=ID rfl
theorem auu:qw XM=True:=eq_true rfl
theorem auv:zc XM=[.v Value.nilFunc]:=ID rfl
theorem aUB{K:TI→Prop}:@tyW Tryz.prog 234 ⟨K⟩=K XL:=qh aW8
theorem aut:XL.kd=Kd.oth:=ID rfl
theorem ame:XL.kd.agg=false:=ID rfl
theorem agV:XL.size=1:=ID rfl
theorem abq:XL.bytes=8:=ID rfl
theorem aur:qw XL=True:=eq_true rfl
theorem aus:zc XL=[.v Value.nilFunc]:=ID rfl
theorem aUA{K:TI→Prop}:@tyW Tryz.prog 235 ⟨K⟩=K XK:=qh aW7
theorem auq:XK.kd=Kd.oth:=ID rfl
theorem amd:XK.kd.agg=false:=ID rfl
theorem agU:XK.size=1:=ID rfl
theorem abp:XK.bytes=8:=ID rfl
theorem auo:qw XK=True:=eq_true rfl
theorem aup:zc XK=[.v Value.nilFunc]:=ID rfl
theorem aUz{K:TI→Prop}:@tyW Tryz.prog 236 ⟨K⟩=K XJ:=qh aW6
theorem aun:XJ.kd=Kd.oth:=ID rfl
theorem amc:XJ.kd.agg=false:=ID rfl
theorem agT:XJ.size=1:=ID rfl
theorem abo:XJ.bytes=8:=ID rfl
theorem aul:qw XJ=True:=eq_true rfl
theorem aum:zc XJ=[.v Value.nilFunc]:=ID rfl
theorem aUy{K:TI→Prop}:@tyW Tryz.prog 237 ⟨K⟩=K XI:=qh aW5
theorem auk:XI.kd=Kd.oth:=ID rfl
theorem amb:XI.kd.agg=false:=ID rfl
theorem agS:XI.size=1:=ID rfl
theorem abn:XI.bytes=8:=ID rfl
theorem aui:qw XI=True:=eq_true rfl
theorem auj:zc XI=[.v Value.nilFunc]:=ID rfl
theorem aUx{K:TI→Prop}:@tyW Tryz.prog 238 ⟨K⟩=K XH:=qh aW4
theorem auh:XH.kd=Kd.oth:=ID rfl
theorem ama:XH.kd.agg=false:=ID rfl
theorem agR:XH.size=1:=ID rfl
theorem abm:XH.bytes=8:=ID rfl
theorem auf:qw XH=True:=eq_true rfl
theorem aug:zc XH=[.v Value.nilFunc]:=ID rfl
theorem aUw{K:TI→Prop}:@tyW Tryz.prog 239 ⟨K⟩=K XG:=qh aW3
theorem aue:XG.kd=Kd.oth:=ID rfl
theorem al9:XG.kd.agg=false:=ID rfl
theorem agQ:XG.size=1:=ID rfl
theorem abl:XG.bytes=8:=ID rfl
theorem auc:qw XG=True:=eq_true rfl
theorem aud:zc XG=[.v Value.nilFunc]:=ID rfl
theorem aUv{K:TI→Prop}:@tyW Tryz.prog 240 ⟨K⟩=K XF:=qh aW2
theorem aua:XF.kd=Kd.oth:=ID rfl
theorem al6:XF.kd.agg=false:=ID rfl
theorem agO:XF.size=1:=ID rfl
theorem abk:XF.bytes=8:=ID rfl
theorem at8:qw XF=True:=eq_true rfl
theorem at9:zc XF=[.v Value.nilFunc]:=ID rfl
theorem aUu{K:TI→Prop}:@tyW Tryz.prog 241 ⟨K⟩=K XE:=qh aW1
theorem at7:XE.kd=Kd.oth:=ID rfl
theorem al5:XE.kd.agg=false:=ID rfl
theorem agN:XE.size=1:=ID rfl
theorem abj:XE.bytes=8:=ID rfl
theorem at5:qw XE=True:=eq_true rfl
theorem at6:zc XE=[.v Value.nilFunc]:=ID rfl
theorem aUt{K:TI→Prop}:@tyW Tryz.prog 242 ⟨K⟩=K XD:=qh aW0
theorem at4:XD.kd=Kd.oth:=ID rfl
theorem al4:XD.kd.agg=false:=ID rfl
theorem agM:XD.size=1:=ID rfl
theorem abi:XD.bytes=8:=ID rfl
theorem at2:qw XD=True:=eq_true rfl
theorem at3:zc XD=[.v Value.nilFunc]:=ID rfl
theorem aUs{K:TI→Prop}:@tyW Tryz.prog 243 ⟨K⟩=K XC:=qh aWZ
theorem at1:XC.kd=Kd.oth:=ID rfl
theorem al3:XC.kd.agg=false:=ID rfl
theorem agL:XC.size=1:=ID rfl
theorem abh:XC.bytes=8:=ID rfl
theorem atZ:qw XC=True:=eq_true rfl
theorem at0:zc XC=[.v Value.nilFunc]:=ID rfl
theorem aUr{K:TI→Prop}:@tyW Tryz.prog 245 ⟨K⟩=K XB:=qh aWY
theorem atY:XB.kd=Kd.oth:=ID rfl
theorem al2:XB.kd.agg=false:=ID rfl
theorem agK:XB.size=1:=ID rfl
theorem abg:XB.bytes=8:=ID rfl
theorem atW:qw XB=True:=eq_true rfl
theorem atX:zc XB=[.v Value.nilFunc]:=ID rfl
theorem aUq{K:TI→Prop}:@tyW Tryz.prog 246 ⟨K⟩=K XA:=qh aWX
theorem atV:XA.kd=Kd.oth:=ID rfl
theorem al1:XA.kd.agg=false:=ID rfl
theorem agJ:XA.size=1:=ID rfl
theorem abf:XA.bytes=8:=ID rfl
theorem atT:qw XA=True:=eq_true rfl
theorem atU:zc XA=[.v Value.nilFunc]:=ID rfl
theorem aUp{K:TI→Prop}:@tyW Tryz.prog 247 ⟨K⟩=K Xz:=qh aWW
theorem atS:Xz.kd=Kd.oth:=ID rfl
theorem al0:Xz.kd.agg=false:=ID rfl
theorem agI:Xz.size=1:=ID rfl
theorem abe:Xz.bytes=8:=ID rfl
theorem atQ:qw Xz=True:=eq_true rfl
theorem atR:zc Xz=[.v Value.nilFunc]:=ID rfl
theorem aUo{K:TI→Prop}:@tyW Tryz.prog 249 ⟨K⟩=K Xy:=qh aWV
theorem atP:Xy.kd=Kd.oth:=ID rfl
theorem alZ:Xy.kd.agg=false:=ID rfl
theorem agH:Xy.size=1:=ID rfl
theorem abd:Xy.bytes=8:=ID rfl
theorem atN:qw Xy=True:=eq_true rfl
theorem atO:zc Xy=[.v Value.nilFunc]:=ID rfl
theorem aUn{K:TI→Prop}:@tyW Tryz.prog 250 ⟨K⟩=K Xx:=qh aWU
theorem atL:Xx.kd=Kd.oth:=ID rfl
theorem alW:Xx.kd.agg=false:=ID rfl
theorem agF:Xx.size=1:=ID rfl
theorem abc:Xx.bytes=8:=ID rfl
theorem atJ:qw Xx=True:=eq_true rfl
theorem atK:zc Xx=[.v Value.nilFunc]:=ID rfl
theorem aUm{K:TI→Prop}:@tyW Tryz.prog 251 ⟨K⟩=K Xw:=qh aWT
theorem atI:Xw.kd=Kd.oth:=ID rfl
theorem alV:Xw.kd.agg=false:=ID rfl
theorem agE:Xw.size=1:=ID rfl
theorem abb:Xw.bytes=8:=ID rfl
theorem atG:qw Xw=True:=eq_true rfl
theorem atH:zc Xw=[.v Value.nilFunc]:=ID rfl
theorem aUl{K:TI→Prop}:@tyW Tryz.prog 252 ⟨K⟩=K Xv:=qh aWS
theorem atF:Xv.kd=Kd.int IntKind.u32:=ID rfl
theorem alU:Xv.kd.agg=false:=ID rfl
theorem agD:Xv.size=1:=ID rfl
theorem aba:Xv.bytes=4:=ID rfl
theorem atD:qw Xv=True:=eq_true rfl
theorem atE:zc Xv=[.v (Value.int IntKind.u32 0)]:=ID rfl
theorem aUk{K:TI→Prop}:@tyW Tryz.prog 253 ⟨K⟩=K Xu:=qh aWR
theorem atC:Xu.kd=Kd.oth:=ID rfl
theorem alT:Xu.kd.agg=false:=ID rfl
theorem agC:Xu.size=1:=ID rfl
theorem aa9:Xu.bytes=8:=ID rfl
theorem atA:qw Xu=True:=eq_true rfl
theorem atB:zc Xu=[.v Value.nilFunc]:=ID rfl
theorem aUj{K:TI→Prop}:@tyW Tryz.prog 254 ⟨K⟩=K Xt:=qh aWQ
theorem atz:Xt.kd=Kd.int IntKind.u64:=ID rfl
theorem alS:Xt.kd.agg=false:=ID rfl
theorem agB:Xt.size=1:=ID rfl
theorem aa8:Xt.bytes=8:=ID rfl
theorem atx:qw Xt=True:=eq_true rfl
theorem aty:zc Xt=[.v (Value.int IntKind.u64 0)]:=ID rfl
theorem aUi{K:TI→Prop}:@tyW Tryz.prog 256 ⟨K⟩=K Xs:=qh aWP
theorem atw:Xs.kd=Kd.oth:=ID rfl
theorem alR:Xs.kd.agg=false:=ID rfl
theorem agA:Xs.size=1:=ID rfl
theorem aa7:Xs.bytes=8:=ID rfl
theorem atu:qw Xs=True:=eq_true rfl
theorem atv:zc Xs=[.v Value.nilFunc]:=ID rfl
theorem aUh{K:TI→Prop}:@tyW Tryz.prog 257 ⟨K⟩=K Xr:=qh aWO
theorem att:Xr.kd=Kd.oth:=ID rfl
theorem alQ:Xr.kd.agg=false:=ID rfl
theorem agz:Xr.size=1:=ID rfl
theorem aa6:Xr.bytes=8:=ID rfl
theorem atr:qw Xr=True:=eq_true rfl
theorem ats:zc Xr=[.v Value.nilFunc]:=ID rfl
theorem aUg{K:TI→Prop}:@tyW Tryz.prog 258 ⟨K⟩=K Xq:=qh aWN
theorem atq:Xq.kd=Kd.oth:=ID rfl
theorem alP:Xq.kd.agg=false:=ID rfl
theorem agy:Xq.size=1:=ID rfl
theorem aa5:Xq.bytes=8:=ID rfl
theorem ato:qw Xq=True:=eq_true rfl
theorem atp:zc Xq=[.v Value.nilFunc]:=ID rfl
theorem aUf{K:TI→Prop}:@tyW Tryz.prog 259 ⟨K⟩=K Xp:=qh aWM
theorem atn:Xp.kd=Kd.oth:=ID rfl
theorem alO:Xp.kd.agg=false:=ID rfl
theorem agx:Xp.size=1:=ID rfl
theorem aa4:Xp.bytes=8:=ID rfl
theorem atl:qw Xp=True:=eq_true rfl
theorem atm:zc Xp=[.v Value.nilFunc]:=ID rfl
theorem aUe{K:TI→Prop}:@tyW Tryz.prog 260 ⟨K⟩=K Xo:=qh aWL
theorem atj:Xo.kd=Kd.oth:=ID rfl
theorem alM:Xo.kd.agg=false:=ID rfl
theorem agv:Xo.size=1:=ID rfl
theorem aa3:Xo.bytes=8:=ID rfl
theorem ath:qw Xo=True:=eq_true rfl
theorem ati:zc Xo=[.v Value.nilFunc]:=ID rfl
theorem aUd{K:TI→Prop}:@tyW Tryz.prog 263 ⟨K⟩=K Xn:=qh aWK
theorem atg:Xn.kd=Kd.oth:=ID rfl
theorem alL:Xn.kd.agg=false:=ID rfl
theorem agu:Xn.size=1:=ID rfl
theorem aa2:Xn.bytes=8:=ID rfl
theorem ate:qw Xn=True:=eq_true rfl
theorem atf:zc Xn=[.v Value.nilFunc]:=ID rfl
theorem aUc{K:TI→Prop}:@tyW Tryz.prog 267 ⟨K⟩=K Xm:=qh aWJ
theorem atd:Xm.kd=Kd.stru [(0,266)]:=ID rfl
theorem alK:Xm.kd.agg=true:=ID rfl
theorem agt:Xm.size=0:=ID rfl
theorem aa1:Xm.bytes=0:=ID rfl
theorem atb:qw Xm=True:=eq_true rfl
theorem atc:zc Xm=[]:=ID rfl
theorem aUb{K:TI→Prop}:@tyW Tryz.prog 268 ⟨K⟩=K Xl:=qh aWI
theorem ata:Xl.kd=Kd.stru [(0,266)]:=ID rfl
theorem alJ:Xl.kd.agg=true:=ID rfl
theorem ags:Xl.size=0:=ID rfl
theorem aaZ:Xl.bytes=0:=ID rfl
theorem as8:qw Xl=True:=eq_true rfl
theorem as9:zc Xl=[]:=ID rfl
theorem aUa{K:TI→Prop}:@tyW Tryz.prog 269 ⟨K⟩=K Xk:=qh aWH
theorem as7:Xk.kd=Kd.int IntKind.u8:=ID rfl
theorem alI:Xk.kd.agg=false:=ID rfl
theorem agr:Xk.size=1:=ID rfl
theorem aaY:Xk.bytes=1:=ID rfl
theorem as5:qw Xk=True:=eq_true rfl
theorem as6:zc Xk=[.v (Value.int IntKind.u8 0)]:=ID rfl
theorem aT9{K:TI→Prop}:@tyW Tryz.prog 270 ⟨K⟩=K Xj:=qh aWG
theorem as4:Xj.kd=Kd.int IntKind.u8:=ID rfl
theorem alH:Xj.kd.agg=false:=ID rfl
theorem agq:Xj.size=1:=ID rfl
theorem aaX:Xj.bytes=1:=ID rfl
theorem as2:qw Xj=True:=eq_true rfl
theorem as3:zc Xj=[.v (Value.int IntKind.u8 0)]:=ID rfl
theorem aT8{K:TI→Prop}:@tyW Tryz.prog 271 ⟨K⟩=K Xi:=qh aWF
theorem as1:Xi.kd=Kd.oth:=ID rfl
theorem alG:Xi.kd.agg=false:=ID rfl
theorem agp:Xi.size=1:=ID rfl
theorem aaW:Xi.bytes=8:=ID rfl
theorem asZ:qw Xi=True:=eq_true rfl
theorem as0:zc Xi=[.v Value.nilFunc]:=ID rfl
theorem aT7{K:TI→Prop}:@tyW Tryz.prog 273 ⟨K⟩=K Xh:=qh aWE
theorem asY:Xh.kd=Kd.int IntKind.i32:=ID rfl
theorem alD:Xh.kd.agg=false:=ID rfl
theorem ago:Xh.size=1:=ID rfl
theorem aaV:Xh.bytes=4:=ID rfl
theorem asW:qw Xh=True:=eq_true rfl
theorem asX:zc Xh=[.v (Value.int IntKind.i32 0)]:=ID rfl
theorem aT6{K:TI→Prop}:@tyW Tryz.prog 274 ⟨K⟩=K Xg:=qh aWD
theorem asV:Xg.kd=Kd.int IntKind.i32:=ID rfl
theorem alC:Xg.kd.agg=false:=ID rfl
theorem agn:Xg.size=1:=ID rfl
theorem aaU:Xg.bytes=4:=ID rfl
theorem asT:qw Xg=True:=eq_true rfl
theorem asU:zc Xg=[.v (Value.int IntKind.i32 0)]:=ID rfl
theorem aT5{K:TI→Prop}:@tyW Tryz.prog 277 ⟨K⟩=K Xf:=qh aWC
theorem asS:Xf.kd=Kd.oth:=ID rfl
theorem alB:Xf.kd.agg=false:=ID rfl
theorem agm:Xf.size=1:=ID rfl
theorem aaT:Xf.bytes=8:=ID rfl
theorem asQ:qw Xf=True:=eq_true rfl
theorem asR:zc Xf=[.v Value.nilFunc]:=ID rfl
theorem bej:qp Tryz.prog 2=True:=eq_true ⟨_,Tryz.func2,of_decide_eq_false (by kernel_rfl),rfl⟩
theorem bei:qp Tryz.prog 3=True:=eq_true ⟨_,Tryz.func3,of_decide_eq_false (by kernel_rfl),rfl⟩
theorem beh:qp Tryz.prog 4=True:=eq_true ⟨_,Tryz.func4,of_decide_eq_false (by kernel_rfl),rfl⟩
theorem beg:qp Tryz.prog 5=True:=eq_true ⟨_,Tryz.func5,of_decide_eq_false (by kernel_rfl),rfl⟩
theorem bef:qp Tryz.prog 6=True:=eq_true ⟨_,Tryz.func6,of_decide_eq_false (by kernel_rfl),rfl⟩
theorem bee:qp Tryz.prog 7=True:=eq_true ⟨_,Tryz.func7,of_decide_eq_false (by kernel_rfl),rfl⟩
theorem bed:qp Tryz.prog 8=True:=eq_true ⟨_,Tryz.func8,of_decide_eq_false (by kernel_rfl),rfl⟩
theorem bec:qp Tryz.prog 9=True:=eq_true ⟨_,Tryz.func9,of_decide_eq_false (by kernel_rfl),rfl⟩
theorem ba5:qp Tryz.prog 10=True:=eq_true ⟨_,Tryz.func10,of_decide_eq_false (by kernel_rfl),rfl⟩
theorem ba4:qp Tryz.prog 11=True:=eq_true ⟨_,Tryz.func11,of_decide_eq_false (by kernel_rfl),rfl⟩
theorem ba3:qp Tryz.prog 12=True:=eq_true ⟨_,Tryz.func12,of_decide_eq_false (by kernel_rfl),rfl⟩
theorem ba2:qp Tryz.prog 13=True:=eq_true ⟨_,Tryz.func13,of_decide_eq_false (by kernel_rfl),rfl⟩
theorem ba1:qp Tryz.prog 14=True:=eq_true ⟨_,Tryz.func14,of_decide_eq_false (by kernel_rfl),rfl⟩
theorem ba0:qp Tryz.prog 15=True:=eq_true ⟨_,Tryz.func15,of_decide_eq_false (by kernel_rfl),rfl⟩
theorem baZ:qp Tryz.prog 16=True:=eq_true ⟨_,Tryz.func16,of_decide_eq_false (by kernel_rfl),rfl⟩
theorem baY:qp Tryz.prog 17=True:=eq_true ⟨_,Tryz.func17,of_decide_eq_false (by kernel_rfl),rfl⟩
theorem baX:qp Tryz.prog 18=True:=eq_true ⟨_,Tryz.func18,of_decide_eq_false (by kernel_rfl),rfl⟩
theorem baW:qp Tryz.prog 19=True:=eq_true ⟨_,Tryz.func19,of_decide_eq_false (by kernel_rfl),rfl⟩
theorem baV:qp Tryz.prog 20=True:=eq_true ⟨_,Tryz.func20,of_decide_eq_false (by kernel_rfl),rfl⟩
theorem baU:qp Tryz.prog 21=True:=eq_true ⟨_,Tryz.func21,of_decide_eq_false (by kernel_rfl),rfl⟩
theorem baT:qp Tryz.prog 22=True:=eq_true ⟨_,Tryz.func22,of_decide_eq_false (by kernel_rfl),rfl⟩
theorem baS:qp Tryz.prog 23=True:=eq_true ⟨_,Tryz.func23,of_decide_eq_false (by kernel_rfl),rfl⟩
theorem baR:qp Tryz.prog 24=True:=eq_true ⟨_,Tryz.func24,of_decide_eq_false (by kernel_rfl),rfl⟩
theorem baQ:qp Tryz.prog 25=True:=eq_true ⟨_,Tryz.func25,of_decide_eq_false (by kernel_rfl),rfl⟩
theorem baP:qp Tryz.prog 26=True:=eq_true ⟨_,Tryz.func26,of_decide_eq_false (by kernel_rfl),rfl⟩
theorem baO:qp Tryz.prog 27=True:=eq_true ⟨_,Tryz.func27,of_decide_eq_false (by kernel_rfl),rfl⟩
theorem baN:qp Tryz.prog 28=True:=eq_true ⟨_,Tryz.func28,of_decide_eq_false (by kernel_rfl),rfl⟩
theorem baM:qp Tryz.prog 29=True:=eq_true ⟨_,Tryz.func29,of_decide_eq_false (by kernel_rfl),rfl⟩
theorem baL:qp Tryz.prog 30=True:=eq_true ⟨_,Tryz.func30,of_decide_eq_false (by kernel_rfl),rfl⟩
theorem baK:qp Tryz.prog 31=True:=eq_true ⟨_,Tryz.func31,of_decide_eq_false (by kernel_rfl),rfl⟩
theorem baJ:qp Tryz.prog 32=True:=eq_true ⟨_,Tryz.func32,of_decide_eq_false (by kernel_rfl),rfl⟩
theorem baI:qp Tryz.prog 33=True:=eq_true ⟨_,Tryz.func33,of_decide_eq_false (by kernel_rfl),rfl⟩
theorem baH:qp Tryz.prog 34=True:=eq_true ⟨_,Tryz.func34,of_decide_eq_false (by kernel_rfl),rfl⟩
theorem baG:qp Tryz.prog 35=True:=eq_true ⟨_,Tryz.func35,of_decide_eq_false (by kernel_rfl),rfl⟩
theorem baF:qp Tryz.prog 36=True:=eq_true ⟨_,Tryz.func36,of_decide_eq_false (by kernel_rfl),rfl⟩
theorem baE:qp Tryz.prog 37=True:=eq_true ⟨_,Tryz.func37,of_decide_eq_false (by kernel_rfl),rfl⟩
theorem baD:qp Tryz.prog 38=True:=eq_true ⟨_,Tryz.func38,of_decide_eq_false (by kernel_rfl),rfl⟩
theorem baC:qp Tryz.prog 39=True:=eq_true ⟨_,Tryz.func39,of_decide_eq_false (by kernel_rfl),rfl⟩
theorem baB:qp Tryz.prog 40=True:=eq_true ⟨_,Tryz.func40,of_decide_eq_false (by kernel_rfl),rfl⟩
theorem baA:qp Tryz.prog 41=True:=eq_true ⟨_,Tryz.func41,of_decide_eq_false (by kernel_rfl),rfl⟩
theorem baz:qp Tryz.prog 42=True:=eq_true ⟨_,Tryz.func42,of_decide_eq_false (by kernel_rfl),rfl⟩
theorem bay:qp Tryz.prog 43=True:=eq_true ⟨_,Tryz.func43,of_decide_eq_false (by kernel_rfl),rfl⟩
theorem bax:qp Tryz.prog 44=True:=eq_true ⟨_,Tryz.func44,of_decide_eq_false (by kernel_rfl),rfl⟩
theorem baw:qp Tryz.prog 45=True:=eq_true ⟨_,Tryz.func45,of_decide_eq_false (by kernel_rfl),rfl⟩
theorem bav:qp Tryz.prog 46=True:=eq_true ⟨_,Tryz.func46,of_decide_eq_false (by kernel_rfl),rfl⟩
theorem bau:qp Tryz.prog 47=True:=eq_true ⟨_,Tryz.func47,of_decide_eq_false (by kernel_rfl),rfl⟩
theorem bat:qp Tryz.prog 48=True:=eq_true ⟨_,Tryz.func48,of_decide_eq_false (by kernel_rfl),rfl⟩
theorem bas:qp Tryz.prog 49=True:=eq_true ⟨_,Tryz.func49,of_decide_eq_false (by kernel_rfl),rfl⟩
theorem bar:qp Tryz.prog 50=True:=eq_true ⟨_,Tryz.func50,of_decide_eq_false (by kernel_rfl),rfl⟩
theorem baq:qp Tryz.prog 51=True:=eq_true ⟨_,Tryz.func51,of_decide_eq_false (by kernel_rfl),rfl⟩
theorem bap:qp Tryz.prog 52=True:=eq_true ⟨_,Tryz.func52,of_decide_eq_false (by kernel_rfl),rfl⟩
theorem bao:qp Tryz.prog 53=True:=eq_true ⟨_,Tryz.func53,of_decide_eq_false (by kernel_rfl),rfl⟩
theorem ban:qp Tryz.prog 54=True:=eq_true ⟨_,Tryz.func54,of_decide_eq_false (by kernel_rfl),rfl⟩
theorem bam:qp Tryz.prog 55=True:=eq_true ⟨_,Tryz.func55,of_decide_eq_false (by kernel_rfl),rfl⟩
theorem bal:qp Tryz.prog 56=True:=eq_true ⟨_,Tryz.func56,of_decide_eq_false (by kernel_rfl),rfl⟩
theorem bak:qp Tryz.prog 57=True:=eq_true ⟨_,Tryz.func57,of_decide_eq_false (by kernel_rfl),rfl⟩
theorem baj:qp Tryz.prog 58=True:=eq_true ⟨_,Tryz.func58,of_decide_eq_false (by kernel_rfl),rfl⟩
theorem bai:qp Tryz.prog 59=True:=eq_true ⟨_,Tryz.func59,of_decide_eq_false (by kernel_rfl),rfl⟩
theorem bah:qp Tryz.prog 60=True:=eq_true ⟨_,Tryz.func60,of_decide_eq_false (by kernel_rfl),rfl⟩
theorem bag:qp Tryz.prog 61=True:=eq_true ⟨_,Tryz.func61,of_decide_eq_false (by kernel_rfl),rfl⟩
theorem baf:qp Tryz.prog 62=True:=eq_true ⟨_,Tryz.func62,of_decide_eq_false (by kernel_rfl),rfl⟩
theorem bae:qp Tryz.prog 63=True:=eq_true ⟨_,Tryz.func63,of_decide_eq_false (by kernel_rfl),rfl⟩
theorem bac:qp Tryz.prog 64=True:=eq_true ⟨_,Tryz.func64,of_decide_eq_false (by kernel_rfl),rfl⟩
theorem bab:qp Tryz.prog 65=True:=eq_true ⟨_,Tryz.func65,of_decide_eq_false (by kernel_rfl),rfl⟩
theorem baa:qp Tryz.prog 66=True:=eq_true ⟨_,Tryz.func66,of_decide_eq_false (by kernel_rfl),rfl⟩
theorem aZ9:qp Tryz.prog 67=True:=eq_true ⟨_,Tryz.func67,of_decide_eq_false (by kernel_rfl),rfl⟩
theorem aZ8:qp Tryz.prog 68=True:=eq_true ⟨_,Tryz.func68,of_decide_eq_false (by kernel_rfl),rfl⟩
theorem aZ7:qp Tryz.prog 69=True:=eq_true ⟨_,Tryz.func69,of_decide_eq_false (by kernel_rfl),rfl⟩
theorem aZ6:qp Tryz.prog 70=True:=eq_true ⟨_,Tryz.func70,of_decide_eq_false (by kernel_rfl),rfl⟩
theorem aZ5:qp Tryz.prog 71=True:=eq_true ⟨_,Tryz.func71,of_decide_eq_false (by kernel_rfl),rfl⟩
theorem aZ4:qp Tryz.prog 72=True:=eq_true ⟨_,Tryz.func72,of_decide_eq_false (by kernel_rfl),rfl⟩
theorem aZ3:qp Tryz.prog 73=True:=eq_true ⟨_,Tryz.func73,of_decide_eq_false (by kernel_rfl),rfl⟩
theorem aZ2:qp Tryz.prog 74=True:=eq_true ⟨_,Tryz.func74,of_decide_eq_false (by kernel_rfl),rfl⟩
theorem aZ1:qp Tryz.prog 75=True:=eq_true ⟨_,Tryz.func75,of_decide_eq_false (by kernel_rfl),rfl⟩
theorem aZ0:qp Tryz.prog 76=True:=eq_true ⟨_,Tryz.func76,of_decide_eq_false (by kernel_rfl),rfl⟩
theorem aZZ:qp Tryz.prog 77=True:=eq_true ⟨_,Tryz.func77,of_decide_eq_false (by kernel_rfl),rfl⟩
theorem aZY:qp Tryz.prog 78=True:=eq_true ⟨_,Tryz.func78,of_decide_eq_false (by kernel_rfl),rfl⟩
theorem aZX:qp Tryz.prog 79=True:=eq_true ⟨_,Tryz.func79,of_decide_eq_false (by kernel_rfl),rfl⟩
theorem aZW:qp Tryz.prog 80=True:=eq_true ⟨_,Tryz.func80,of_decide_eq_false (by kernel_rfl),rfl⟩
theorem aZV:qp Tryz.prog 81=True:=eq_true ⟨_,Tryz.func81,of_decide_eq_false (by kernel_rfl),rfl⟩
theorem aZU:qp Tryz.prog 82=True:=eq_true ⟨_,Tryz.func82,of_decide_eq_false (by kernel_rfl),rfl⟩
theorem aZT:qp Tryz.prog 83=True:=eq_true ⟨_,Tryz.func83,of_decide_eq_false (by kernel_rfl),rfl⟩
theorem aZS:qp Tryz.prog 84=True:=eq_true ⟨_,Tryz.func84,of_decide_eq_false (by kernel_rfl),rfl⟩
theorem aZR:qp Tryz.prog 85=True:=eq_true ⟨_,Tryz.func85,of_decide_eq_false (by kernel_rfl),rfl⟩
theorem aZQ:qp Tryz.prog 86=True:=eq_true ⟨_,Tryz.func86,of_decide_eq_false (by kernel_rfl),rfl⟩
theorem aZP:qp Tryz.prog 87=True:=eq_true ⟨_,Tryz.func87,of_decide_eq_false (by kernel_rfl),rfl⟩
theorem aZO:qp Tryz.prog 88=True:=eq_true ⟨_,Tryz.func88,of_decide_eq_false (by kernel_rfl),rfl⟩
theorem aZN:qp Tryz.prog 89=True:=eq_true ⟨_,Tryz.func89,of_decide_eq_false (by kernel_rfl),rfl⟩
theorem aZM:qp Tryz.prog 90=True:=eq_true ⟨_,Tryz.func90,of_decide_eq_false (by kernel_rfl),rfl⟩
theorem aZL:qp Tryz.prog 91=True:=eq_true ⟨_,Tryz.func91,of_decide_eq_false (by kernel_rfl),rfl⟩
theorem aZK:qp Tryz.prog 92=True:=eq_true ⟨_,Tryz.func92,of_decide_eq_false (by kernel_rfl),rfl⟩
theorem aZJ:qp Tryz.prog 93=True:=eq_true ⟨_,Tryz.func93,of_decide_eq_false (by kernel_rfl),rfl⟩
theorem aZI:qp Tryz.prog 94=True:=eq_true ⟨_,Tryz.func94,of_decide_eq_false (by kernel_rfl),rfl⟩
theorem aZH:qp Tryz.prog 95=True:=eq_true ⟨_,Tryz.func95,of_decide_eq_false (by kernel_rfl),rfl⟩
theorem aZG:qp Tryz.prog 96=True:=eq_true ⟨_,Tryz.func96,of_decide_eq_false (by kernel_rfl),rfl⟩
theorem aZF:qp Tryz.prog 97=True:=eq_true ⟨_,Tryz.func97,of_decide_eq_false (by kernel_rfl),rfl⟩
theorem aZE:qp Tryz.prog 98=True:=eq_true ⟨_,Tryz.func98,of_decide_eq_false (by kernel_rfl),rfl⟩
theorem aZD:qp Tryz.prog 99=True:=eq_true ⟨_,Tryz.func99,of_decide_eq_false (by kernel_rfl),rfl⟩
theorem aSD:qp Tryz.prog 100=True:=eq_true ⟨_,Tryz.func100,of_decide_eq_false (by kernel_rfl),rfl⟩
theorem aSC:qp Tryz.prog 101=True:=eq_true ⟨_,Tryz.func101,of_decide_eq_false (by kernel_rfl),rfl⟩
theorem aSB:qp Tryz.prog 102=True:=eq_true ⟨_,Tryz.func102,of_decide_eq_false (by kernel_rfl),rfl⟩
theorem aSA:qp Tryz.prog 103=True:=eq_true ⟨_,Tryz.func103,of_decide_eq_false (by kernel_rfl),rfl⟩
theorem aSz:qp Tryz.prog 104=True:=eq_true ⟨_,Tryz.func104,of_decide_eq_false (by kernel_rfl),rfl⟩
theorem aSy:qp Tryz.prog 105=True:=eq_true ⟨_,Tryz.func105,of_decide_eq_false (by kernel_rfl),rfl⟩
theorem aSx:qp Tryz.prog 106=True:=eq_true ⟨_,Tryz.func106,of_decide_eq_false (by kernel_rfl),rfl⟩
theorem aSw:qp Tryz.prog 107=True:=eq_true ⟨_,Tryz.func107,of_decide_eq_false (by kernel_rfl),rfl⟩
theorem aSv:qp Tryz.prog 108=True:=eq_true ⟨_,Tryz.func108,of_decide_eq_false (by kernel_rfl),rfl⟩
theorem aSu:qp Tryz.prog 109=True:=eq_true ⟨_,Tryz.func109,of_decide_eq_false (by kernel_rfl),rfl⟩
theorem aSt:qp Tryz.prog 110=True:=eq_true ⟨_,Tryz.func110,of_decide_eq_false (by kernel_rfl),rfl⟩
theorem aSs:qp Tryz.prog 111=True:=eq_true ⟨_,Tryz.func111,of_decide_eq_false (by kernel_rfl),rfl⟩
theorem aSr:qp Tryz.prog 112=True:=eq_true ⟨_,Tryz.func112,of_decide_eq_false (by kernel_rfl),rfl⟩
theorem aSq:qp Tryz.prog 113=True:=eq_true ⟨_,Tryz.func113,of_decide_eq_false (by kernel_rfl),rfl⟩
theorem aSp:qp Tryz.prog 114=True:=eq_true ⟨_,Tryz.func114,of_decide_eq_false (by kernel_rfl),rfl⟩
theorem aSo:qp Tryz.prog 115=True:=eq_true ⟨_,Tryz.func115,of_decide_eq_false (by kernel_rfl),rfl⟩
theorem aSn:qp Tryz.prog 116=True:=eq_true ⟨_,Tryz.func116,of_decide_eq_false (by kernel_rfl),rfl⟩
theorem aSm:qp Tryz.prog 117=True:=eq_true ⟨_,Tryz.func117,of_decide_eq_false (by kernel_rfl),rfl⟩
theorem aSl:qp Tryz.prog 118=True:=eq_true ⟨_,Tryz.func118,of_decide_eq_false (by kernel_rfl),rfl⟩
theorem aSk:qp Tryz.prog 119=True:=eq_true ⟨_,Tryz.func119,of_decide_eq_false (by kernel_rfl),rfl⟩
theorem aSj:qp Tryz.prog 120=True:=eq_true ⟨_,Tryz.func120,of_decide_eq_false (by kernel_rfl),rfl⟩
theorem aSi:qp Tryz.prog 121=True:=eq_true ⟨_,Tryz.func121,of_decide_eq_false (by kernel_rfl),rfl⟩
theorem aSh:qp Tryz.prog 122=True:=eq_true ⟨_,Tryz.func122,of_decide_eq_false (by kernel_rfl),rfl⟩
theorem aSg:qp Tryz.prog 123=True:=eq_true ⟨_,Tryz.func123,of_decide_eq_false (by kernel_rfl),rfl⟩
theorem aSf:qp Tryz.prog 124=True:=eq_true ⟨_,Tryz.func124,of_decide_eq_false (by kernel_rfl),rfl⟩
theorem aSe:qp Tryz.prog 125=True:=eq_true ⟨_,Tryz.func125,of_decide_eq_false (by kernel_rfl),rfl⟩
theorem aSd:qp Tryz.prog 126=True:=eq_true ⟨_,Tryz.func126,of_decide_eq_false (by kernel_rfl),rfl⟩
theorem aSc:qp Tryz.prog 127=True:=eq_true ⟨_,Tryz.func127,of_decide_eq_false (by kernel_rfl),rfl⟩
theorem aSb:qp Tryz.prog 128=True:=eq_true ⟨_,Tryz.func128,of_decide_eq_false (by kernel_rfl),rfl⟩
theorem aSa:qp Tryz.prog 129=True:=eq_true ⟨_,Tryz.func129,of_decide_eq_false (by kernel_rfl),rfl⟩
theorem aR9:qp Tryz.prog 130=True:=eq_true ⟨_,Tryz.func130,of_decide_eq_false (by kernel_rfl),rfl⟩
theorem aR8:qp Tryz.prog 131=True:=eq_true ⟨_,Tryz.func131,of_decide_eq_false (by kernel_rfl),rfl⟩
theorem aR7:qp Tryz.prog 132=True:=eq_true ⟨_,Tryz.func132,of_decide_eq_false (by kernel_rfl),rfl⟩
theorem aR6:qp Tryz.prog 133=True:=eq_true ⟨_,Tryz.func133,of_decide_eq_false (by kernel_rfl),rfl⟩
theorem aR5:qp Tryz.prog 134=True:=eq_true ⟨_,Tryz.func134,of_decide_eq_false (by kernel_rfl),rfl⟩
theorem aR4:qp Tryz.prog 135=True:=eq_true ⟨_,Tryz.func135,of_decide_eq_false (by kernel_rfl),rfl⟩
theorem aR3:qp Tryz.prog 136=True:=eq_true ⟨_,Tryz.func136,of_decide_eq_false (by kernel_rfl),rfl⟩
theorem aR2:qp Tryz.prog 137=True:=eq_true ⟨_,Tryz.func137,of_decide_eq_false (by kernel_rfl),rfl⟩
theorem aR1:qp Tryz.prog 138=True:=eq_true ⟨_,Tryz.func138,of_decide_eq_false (by kernel_rfl),rfl⟩
theorem aR0:qp Tryz.prog 139=True:=eq_true ⟨_,Tryz.func139,of_decide_eq_false (by kernel_rfl),rfl⟩
theorem aRZ:qp Tryz.prog 140=True:=eq_true ⟨_,Tryz.func140,of_decide_eq_false (by kernel_rfl),rfl⟩
theorem aRY:qp Tryz.prog 141=True:=eq_true ⟨_,Tryz.func141,of_decide_eq_false (by kernel_rfl),rfl⟩
theorem aRX:qp Tryz.prog 142=True:=eq_true ⟨_,Tryz.func142,of_decide_eq_false (by kernel_rfl),rfl⟩
theorem aRW:qp Tryz.prog 143=True:=eq_true ⟨_,Tryz.func143,of_decide_eq_false (by kernel_rfl),rfl⟩
theorem aRV:qp Tryz.prog 144=True:=eq_true ⟨_,Tryz.func144,of_decide_eq_false (by kernel_rfl),rfl⟩
theorem aRU:qp Tryz.prog 145=True:=eq_true ⟨_,Tryz.func145,of_decide_eq_false (by kernel_rfl),rfl⟩
theorem aRT:qp Tryz.prog 146=True:=eq_true ⟨_,Tryz.func146,of_decide_eq_false (by kernel_rfl),rfl⟩
theorem aRS:qp Tryz.prog 147=True:=eq_true ⟨_,Tryz.func147,of_decide_eq_false (by kernel_rfl),rfl⟩
theorem aRR:qp Tryz.prog 148=True:=eq_true ⟨_,Tryz.func148,of_decide_eq_false (by kernel_rfl),rfl⟩
theorem aRQ:qp Tryz.prog 149=True:=eq_true ⟨_,Tryz.func149,of_decide_eq_false (by kernel_rfl),rfl⟩
theorem aRP:qp Tryz.prog 150=True:=eq_true ⟨_,Tryz.func150,of_decide_eq_false (by kernel_rfl),rfl⟩
theorem aRO:qp Tryz.prog 151=True:=eq_true ⟨_,Tryz.func151,of_decide_eq_false (by kernel_rfl),rfl⟩
theorem aRN:qp Tryz.prog 152=True:=eq_true ⟨_,Tryz.func152,of_decide_eq_false (by kernel_rfl),rfl⟩
theorem aRM:qp Tryz.prog 153=True:=eq_true ⟨_,Tryz.func153,of_decide_eq_false (by kernel_rfl),rfl⟩
theorem aRL:qp Tryz.prog 154=True:=eq_true ⟨_,Tryz.func154,of_decide_eq_false (by kernel_rfl),rfl⟩
theorem aRK:qp Tryz.prog 155=True:=eq_true ⟨_,Tryz.func155,of_decide_eq_false (by kernel_rfl),rfl⟩
theorem aRJ:qp Tryz.prog 156=True:=eq_true ⟨_,Tryz.func156,of_decide_eq_false (by kernel_rfl),rfl⟩
theorem aRI:qp Tryz.prog 157=True:=eq_true ⟨_,Tryz.func157,of_decide_eq_false (by kernel_rfl),rfl⟩
theorem aRH:qp Tryz.prog 158=True:=eq_true ⟨_,Tryz.func158,of_decide_eq_false (by kernel_rfl),rfl⟩
theorem aRG:qp Tryz.prog 159=True:=eq_true ⟨_,Tryz.func159,of_decide_eq_false (by kernel_rfl),rfl⟩
theorem aRF:qp Tryz.prog 160=True:=eq_true ⟨_,Tryz.func160,of_decide_eq_false (by kernel_rfl),rfl⟩
theorem aRE:qp Tryz.prog 161=True:=eq_true ⟨_,Tryz.func161,of_decide_eq_false (by kernel_rfl),rfl⟩
theorem aRD:qp Tryz.prog 162=True:=eq_true ⟨_,Tryz.func162,of_decide_eq_false (by kernel_rfl),rfl⟩
theorem aRC:qp Tryz.prog 163=True:=eq_true ⟨_,Tryz.func163,of_decide_eq_false (by kernel_rfl),rfl⟩
theorem aRB:qp Tryz.prog 164=True:=eq_true ⟨_,Tryz.func164,of_decide_eq_false (by kernel_rfl),rfl⟩
theorem aRA:qp Tryz.prog 165=True:=eq_true ⟨_,Tryz.func165,of_decide_eq_false (by kernel_rfl),rfl⟩
theorem aRz:qp Tryz.prog 166=True:=eq_true ⟨_,Tryz.func166,of_decide_eq_false (by kernel_rfl),rfl⟩
theorem aRy:qp Tryz.prog 167=True:=eq_true ⟨_,Tryz.func167,of_decide_eq_false (by kernel_rfl),rfl⟩
theorem aRx:qp Tryz.prog 168=True:=eq_true ⟨_,Tryz.func168,of_decide_eq_false (by kernel_rfl),rfl⟩
theorem aRw:qp Tryz.prog 169=True:=eq_true ⟨_,Tryz.func169,of_decide_eq_false (by kernel_rfl),rfl⟩
theorem aRv:qp Tryz.prog 170=True:=eq_true ⟨_,Tryz.func170,of_decide_eq_false (by kernel_rfl),rfl⟩
theorem aRu:qp Tryz.prog 171=True:=eq_true ⟨_,Tryz.func171,of_decide_eq_false (by kernel_rfl),rfl⟩
theorem aRt:qp Tryz.prog 172=True:=eq_true ⟨_,Tryz.func172,of_decide_eq_false (by kernel_rfl),rfl⟩
theorem aRs:qp Tryz.prog 173=True:=eq_true ⟨_,Tryz.func173,of_decide_eq_false (by kernel_rfl),rfl⟩
theorem aRr:qp Tryz.prog 174=True:=eq_true ⟨_,Tryz.func174,of_decide_eq_false (by kernel_rfl),rfl⟩
theorem aRq:qp Tryz.prog 175=True:=eq_true ⟨_,Tryz.func175,of_decide_eq_false (by kernel_rfl),rfl⟩
theorem aRp:qp Tryz.prog 176=True:=eq_true ⟨_,Tryz.func176,of_decide_eq_false (by kernel_rfl),rfl⟩
theorem aRo:qp Tryz.prog 177=True:=eq_true ⟨_,Tryz.func177,of_decide_eq_false (by kernel_rfl),rfl⟩
theorem aRn:qp Tryz.prog 178=True:=eq_true ⟨_,Tryz.func178,of_decide_eq_false (by kernel_rfl),rfl⟩
theorem aRm:qp Tryz.prog 179=True:=eq_true ⟨_,Tryz.func179,of_decide_eq_false (by kernel_rfl),rfl⟩
theorem aRl:qp Tryz.prog 180=True:=eq_true ⟨_,Tryz.func180,of_decide_eq_false (by kernel_rfl),rfl⟩
theorem aRk:qp Tryz.prog 181=True:=eq_true ⟨_,Tryz.func181,of_decide_eq_false (by kernel_rfl),rfl⟩
theorem aRj:qp Tryz.prog 182=True:=eq_true ⟨_,Tryz.func182,of_decide_eq_false (by kernel_rfl),rfl⟩
theorem aRi:qp Tryz.prog 183=True:=eq_true ⟨_,Tryz.func183,of_decide_eq_false (by kernel_rfl),rfl⟩
theorem aRh:qp Tryz.prog 184=True:=eq_true ⟨_,Tryz.func184,of_decide_eq_false (by kernel_rfl),rfl⟩
theorem aRg:qp Tryz.prog 185=True:=eq_true ⟨_,Tryz.func185,of_decide_eq_false (by kernel_rfl),rfl⟩
theorem aRf:qp Tryz.prog 186=True:=eq_true ⟨_,Tryz.func186,of_decide_eq_false (by kernel_rfl),rfl⟩
theorem aRe:qp Tryz.prog 187=True:=eq_true ⟨_,Tryz.func187,of_decide_eq_false (by kernel_rfl),rfl⟩
theorem aRd:qp Tryz.prog 188=True:=eq_true ⟨_,Tryz.func188,of_decide_eq_false (by kernel_rfl),rfl⟩
theorem aRc:qp Tryz.prog 189=True:=eq_true ⟨_,Tryz.func189,of_decide_eq_false (by kernel_rfl),rfl⟩
theorem aRb:qp Tryz.prog 190=True:=eq_true ⟨_,Tryz.func190,of_decide_eq_false (by kernel_rfl),rfl⟩
theorem aRa:qp Tryz.prog 191=True:=eq_true ⟨_,Tryz.func191,of_decide_eq_false (by kernel_rfl),rfl⟩
theorem aQ9:qp Tryz.prog 192=True:=eq_true ⟨_,Tryz.func192,of_decide_eq_false (by kernel_rfl),rfl⟩
theorem aQ8:qp Tryz.prog 193=True:=eq_true ⟨_,Tryz.func193,of_decide_eq_false (by kernel_rfl),rfl⟩
theorem aQ7:qp Tryz.prog 194=True:=eq_true ⟨_,Tryz.func194,of_decide_eq_false (by kernel_rfl),rfl⟩
theorem aQ6:qp Tryz.prog 195=True:=eq_true ⟨_,Tryz.func195,of_decide_eq_false (by kernel_rfl),rfl⟩
theorem aQ5:qp Tryz.prog 196=True:=eq_true ⟨_,Tryz.func196,of_decide_eq_false (by kernel_rfl),rfl⟩
theorem aQ4:qp Tryz.prog 197=True:=eq_true ⟨_,Tryz.func197,of_decide_eq_false (by kernel_rfl),rfl⟩
theorem aQ3:qp Tryz.prog 198=True:=eq_true ⟨_,Tryz.func198,of_decide_eq_false (by kernel_rfl),rfl⟩
theorem aQ2:qp Tryz.prog 199=True:=eq_true ⟨_,Tryz.func199,of_decide_eq_false (by kernel_rfl),rfl⟩
theorem aQ1:qp Tryz.prog 200=True:=eq_true ⟨_,Tryz.func200,of_decide_eq_false (by kernel_rfl),rfl⟩
theorem aQ0:qp Tryz.prog 201=True:=eq_true ⟨_,Tryz.func201,of_decide_eq_false (by kernel_rfl),rfl⟩
theorem aQZ:qp Tryz.prog 202=True:=eq_true ⟨_,Tryz.func202,of_decide_eq_false (by kernel_rfl),rfl⟩
theorem aQY:qp Tryz.prog 203=True:=eq_true ⟨_,Tryz.func203,of_decide_eq_false (by kernel_rfl),rfl⟩
theorem aQX:qp Tryz.prog 204=True:=eq_true ⟨_,Tryz.func204,of_decide_eq_false (by kernel_rfl),rfl⟩
theorem aQW:qp Tryz.prog 205=True:=eq_true ⟨_,Tryz.func205,of_decide_eq_false (by kernel_rfl),rfl⟩
theorem aQV:qp Tryz.prog 206=True:=eq_true ⟨_,Tryz.func206,of_decide_eq_false (by kernel_rfl),rfl⟩
theorem aQU:qp Tryz.prog 207=True:=eq_true ⟨_,Tryz.func207,of_decide_eq_false (by kernel_rfl),rfl⟩
theorem aQT:qp Tryz.prog 208=True:=eq_true ⟨_,Tryz.func208,of_decide_eq_false (by kernel_rfl),rfl⟩
theorem aQS:qp Tryz.prog 209=True:=eq_true ⟨_,Tryz.func209,of_decide_eq_false (by kernel_rfl),rfl⟩
theorem aQR:qp Tryz.prog 210=True:=eq_true ⟨_,Tryz.func210,of_decide_eq_false (by kernel_rfl),rfl⟩
theorem aQQ:qp Tryz.prog 211=True:=eq_true ⟨_,Tryz.func211,of_decide_eq_false (by kernel_rfl),rfl⟩
theorem aQP:qp Tryz.prog 212=True:=eq_true ⟨_,Tryz.func212,of_decide_eq_false (by kernel_rfl),rfl⟩
theorem aQO:qp Tryz.prog 213=True:=eq_true ⟨_,Tryz.func213,of_decide_eq_false (by kernel_rfl),rfl⟩
theorem aQN:qp Tryz.prog 214=True:=eq_true ⟨_,Tryz.func214,of_decide_eq_false (by kernel_rfl),rfl⟩
theorem aQM:qp Tryz.prog 215=True:=eq_true ⟨_,Tryz.func215,of_decide_eq_false (by kernel_rfl),rfl⟩
theorem aQL:qp Tryz.prog 216=True:=eq_true ⟨_,Tryz.func216,of_decide_eq_false (by kernel_rfl),rfl⟩
theorem aQK:qp Tryz.prog 217=True:=eq_true ⟨_,Tryz.func217,of_decide_eq_false (by kernel_rfl),rfl⟩
theorem aQJ:qp Tryz.prog 218=True:=eq_true ⟨_,Tryz.func218,of_decide_eq_false (by kernel_rfl),rfl⟩
theorem aQI:qp Tryz.prog 219=True:=eq_true ⟨_,Tryz.func219,of_decide_eq_false (by kernel_rfl),rfl⟩
theorem aQH:qp Tryz.prog 220=True:=eq_true ⟨_,Tryz.func220,of_decide_eq_false (by kernel_rfl),rfl⟩
theorem aQG:qp Tryz.prog 221=True:=eq_true ⟨_,Tryz.func221,of_decide_eq_false (by kernel_rfl),rfl⟩
theorem aQF:qp Tryz.prog 222=True:=eq_true ⟨_,Tryz.func222,of_decide_eq_false (by kernel_rfl),rfl⟩
theorem aQE:qp Tryz.prog 223=True:=eq_true ⟨_,Tryz.func223,of_decide_eq_false (by kernel_rfl),rfl⟩
theorem aQD:qp Tryz.prog 224=True:=eq_true ⟨_,Tryz.func224,of_decide_eq_false (by kernel_rfl),rfl⟩
theorem aQC:qp Tryz.prog 225=True:=eq_true ⟨_,Tryz.func225,of_decide_eq_false (by kernel_rfl),rfl⟩
theorem aQB:qp Tryz.prog 226=True:=eq_true ⟨_,Tryz.func226,of_decide_eq_false (by kernel_rfl),rfl⟩
theorem aQA:qp Tryz.prog 227=True:=eq_true ⟨_,Tryz.func227,of_decide_eq_false (by kernel_rfl),rfl⟩
theorem aQz:qp Tryz.prog 228=True:=eq_true ⟨_,Tryz.func228,of_decide_eq_false (by kernel_rfl),rfl⟩
theorem aQy:qp Tryz.prog 229=True:=eq_true ⟨_,Tryz.func229,of_decide_eq_false (by kernel_rfl),rfl⟩
theorem aQx:qp Tryz.prog 230=True:=eq_true ⟨_,Tryz.func230,of_decide_eq_false (by kernel_rfl),rfl⟩
theorem aQw:qp Tryz.prog 231=True:=eq_true ⟨_,Tryz.func231,of_decide_eq_false (by kernel_rfl),rfl⟩
theorem aQv:qp Tryz.prog 232=True:=eq_true ⟨_,Tryz.func232,of_decide_eq_false (by kernel_rfl),rfl⟩
theorem aQu:qp Tryz.prog 233=True:=eq_true ⟨_,Tryz.func233,of_decide_eq_false (by kernel_rfl),rfl⟩
theorem aQt:qp Tryz.prog 234=True:=eq_true ⟨_,Tryz.func234,of_decide_eq_false (by kernel_rfl),rfl⟩
theorem aQs:qp Tryz.prog 235=True:=eq_true ⟨_,Tryz.func235,of_decide_eq_false (by kernel_rfl),rfl⟩
theorem aQr:qp Tryz.prog 236=True:=eq_true ⟨_,Tryz.func236,of_decide_eq_false (by kernel_rfl),rfl⟩
theorem aQq:qp Tryz.prog 237=True:=eq_true ⟨_,Tryz.func237,of_decide_eq_false (by kernel_rfl),rfl⟩
theorem aQp:qp Tryz.prog 238=True:=eq_true ⟨_,Tryz.func238,of_decide_eq_false (by kernel_rfl),rfl⟩
theorem aQo:qp Tryz.prog 239=True:=eq_true ⟨_,Tryz.func239,of_decide_eq_false (by kernel_rfl),rfl⟩
theorem aQn:qp Tryz.prog 240=True:=eq_true ⟨_,Tryz.func240,of_decide_eq_false (by kernel_rfl),rfl⟩
theorem aQm:qp Tryz.prog 241=True:=eq_true ⟨_,Tryz.func241,of_decide_eq_false (by kernel_rfl),rfl⟩
theorem aQl:qp Tryz.prog 242=True:=eq_true ⟨_,Tryz.func242,of_decide_eq_false (by kernel_rfl),rfl⟩
theorem aQk:qp Tryz.prog 243=True:=eq_true ⟨_,Tryz.func243,of_decide_eq_false (by kernel_rfl),rfl⟩
theorem aQj:qp Tryz.prog 244=True:=eq_true ⟨_,Tryz.func244,of_decide_eq_false (by kernel_rfl),rfl⟩
theorem aQi:qp Tryz.prog 245=True:=eq_true ⟨_,Tryz.func245,of_decide_eq_false (by kernel_rfl),rfl⟩
theorem aQh:qp Tryz.prog 246=True:=eq_true ⟨_,Tryz.func246,of_decide_eq_false (by kernel_rfl),rfl⟩
theorem aQg:qp Tryz.prog 247=True:=eq_true ⟨_,Tryz.func247,of_decide_eq_false (by kernel_rfl),rfl⟩
theorem aQf:qp Tryz.prog 248=True:=eq_true ⟨_,Tryz.func248,of_decide_eq_false (by kernel_rfl),rfl⟩
theorem aQe:qp Tryz.prog 249=True:=eq_true ⟨_,Tryz.func249,of_decide_eq_false (by kernel_rfl),rfl⟩
theorem aQd:qp Tryz.prog 250=True:=eq_true ⟨_,Tryz.func250,of_decide_eq_false (by kernel_rfl),rfl⟩
theorem aQc:qp Tryz.prog 251=True:=eq_true ⟨_,Tryz.func251,of_decide_eq_false (by kernel_rfl),rfl⟩
theorem aQb:qp Tryz.prog 252=True:=eq_true ⟨_,Tryz.func252,of_decide_eq_false (by kernel_rfl),rfl⟩
theorem aQa:qp Tryz.prog 253=True:=eq_true ⟨_,Tryz.func253,of_decide_eq_false (by kernel_rfl),rfl⟩
theorem aP9:qp Tryz.prog 254=True:=eq_true ⟨_,Tryz.func254,of_decide_eq_false (by kernel_rfl),rfl⟩
theorem aP8:qp Tryz.prog 255=True:=eq_true ⟨_,Tryz.func255,of_decide_eq_false (by kernel_rfl),rfl⟩
theorem aP7:qp Tryz.prog 256=True:=eq_true ⟨_,Tryz.func256,of_decide_eq_false (by kernel_rfl),rfl⟩
theorem aP6:qp Tryz.prog 257=True:=eq_true ⟨_,Tryz.func257,of_decide_eq_false (by kernel_rfl),rfl⟩
theorem aP5:qp Tryz.prog 258=True:=eq_true ⟨_,Tryz.func258,of_decide_eq_false (by kernel_rfl),rfl⟩
theorem aP4:qp Tryz.prog 259=True:=eq_true ⟨_,Tryz.func259,of_decide_eq_false (by kernel_rfl),rfl⟩
theorem aP3:qp Tryz.prog 260=True:=eq_true ⟨_,Tryz.func260,of_decide_eq_false (by kernel_rfl),rfl⟩
theorem aP2:qp Tryz.prog 261=True:=eq_true ⟨_,Tryz.func261,of_decide_eq_false (by kernel_rfl),rfl⟩
theorem aP1:qp Tryz.prog 262=True:=eq_true ⟨_,Tryz.func262,of_decide_eq_false (by kernel_rfl),rfl⟩
theorem aP0:qp Tryz.prog 263=True:=eq_true ⟨_,Tryz.func263,of_decide_eq_false (by kernel_rfl),rfl⟩
theorem aPZ:qp Tryz.prog 264=True:=eq_true ⟨_,Tryz.func264,of_decide_eq_false (by kernel_rfl),rfl⟩
theorem aPY:qp Tryz.prog 265=True:=eq_true ⟨_,Tryz.func265,of_decide_eq_false (by kernel_rfl),rfl⟩
theorem aPX:qp Tryz.prog 266=True:=eq_true ⟨_,Tryz.func266,of_decide_eq_false (by kernel_rfl),rfl⟩
theorem aPW:qp Tryz.prog 267=True:=eq_true ⟨_,Tryz.func267,of_decide_eq_false (by kernel_rfl),rfl⟩
theorem aPV:qp Tryz.prog 268=True:=eq_true ⟨_,Tryz.func268,of_decide_eq_false (by kernel_rfl),rfl⟩
theorem aPU:qp Tryz.prog 269=True:=eq_true ⟨_,Tryz.func269,of_decide_eq_false (by kernel_rfl),rfl⟩
theorem aPT:qp Tryz.prog 270=True:=eq_true ⟨_,Tryz.func270,of_decide_eq_false (by kernel_rfl),rfl⟩
theorem aPS:qp Tryz.prog 271=True:=eq_true ⟨_,Tryz.func271,of_decide_eq_false (by kernel_rfl),rfl⟩
theorem aPR:qp Tryz.prog 272=True:=eq_true ⟨_,Tryz.func272,of_decide_eq_false (by kernel_rfl),rfl⟩
theorem aPQ:qp Tryz.prog 273=True:=eq_true ⟨_,Tryz.func273,of_decide_eq_false (by kernel_rfl),rfl⟩
theorem aPP:qp Tryz.prog 274=True:=eq_true ⟨_,Tryz.func274,of_decide_eq_false (by kernel_rfl),rfl⟩
theorem aPO:qp Tryz.prog 275=True:=eq_true ⟨_,Tryz.func275,of_decide_eq_false (by kernel_rfl),rfl⟩
theorem aPN:qp Tryz.prog 276=True:=eq_true ⟨_,Tryz.func276,of_decide_eq_false (by kernel_rfl),rfl⟩
theorem aPM:qp Tryz.prog 277=True:=eq_true ⟨_,Tryz.func277,of_decide_eq_false (by kernel_rfl),rfl⟩
theorem aPL:qp Tryz.prog 278=True:=eq_true ⟨_,Tryz.func278,of_decide_eq_false (by kernel_rfl),rfl⟩
theorem aPK:qp Tryz.prog 279=True:=eq_true ⟨_,Tryz.func279,of_decide_eq_false (by kernel_rfl),rfl⟩
theorem aPJ:qp Tryz.prog 280=True:=eq_true ⟨_,Tryz.func280,of_decide_eq_false (by kernel_rfl),rfl⟩
theorem aPI:qp Tryz.prog 281=True:=eq_true ⟨_,Tryz.func281,of_decide_eq_false (by kernel_rfl),rfl⟩
theorem aPH:qp Tryz.prog 282=True:=eq_true ⟨_,Tryz.func282,of_decide_eq_false (by kernel_rfl),rfl⟩
theorem aPG:qp Tryz.prog 283=True:=eq_true ⟨_,Tryz.func283,of_decide_eq_false (by kernel_rfl),rfl⟩
theorem aPF:qp Tryz.prog 284=True:=eq_true ⟨_,Tryz.func284,of_decide_eq_false (by kernel_rfl),rfl⟩
theorem aPE:qp Tryz.prog 285=True:=eq_true ⟨_,Tryz.func285,of_decide_eq_false (by kernel_rfl),rfl⟩
theorem aPD:qp Tryz.prog 286=True:=eq_true ⟨_,Tryz.func286,of_decide_eq_false (by kernel_rfl),rfl⟩
theorem aPC:qp Tryz.prog 287=True:=eq_true ⟨_,Tryz.func287,of_decide_eq_false (by kernel_rfl),rfl⟩
theorem aPB:qp Tryz.prog 288=True:=eq_true ⟨_,Tryz.func288,of_decide_eq_false (by kernel_rfl),rfl⟩
theorem aPA:qp Tryz.prog 289=True:=eq_true ⟨_,Tryz.func289,of_decide_eq_false (by kernel_rfl),rfl⟩
theorem aPz:qp Tryz.prog 290=True:=eq_true ⟨_,Tryz.func290,of_decide_eq_false (by kernel_rfl),rfl⟩
theorem aPy:qp Tryz.prog 291=True:=eq_true ⟨_,Tryz.func291,of_decide_eq_false (by kernel_rfl),rfl⟩
theorem aPx:qp Tryz.prog 292=True:=eq_true ⟨_,Tryz.func292,of_decide_eq_false (by kernel_rfl),rfl⟩
theorem aPw:qp Tryz.prog 293=True:=eq_true ⟨_,Tryz.func293,of_decide_eq_false (by kernel_rfl),rfl⟩
theorem aPv:qp Tryz.prog 294=True:=eq_true ⟨_,Tryz.func294,of_decide_eq_false (by kernel_rfl),rfl⟩
theorem aPu:qp Tryz.prog 295=True:=eq_true ⟨_,Tryz.func295,of_decide_eq_false (by kernel_rfl),rfl⟩
theorem aPt:qp Tryz.prog 296=True:=eq_true ⟨_,Tryz.func296,of_decide_eq_false (by kernel_rfl),rfl⟩
theorem aPs:qp Tryz.prog 318=True:=eq_true ⟨_,Tryz.func318,of_decide_eq_false (by kernel_rfl),rfl⟩
attribute [go_sem] ty1 aNE aIB avY amL aNC aND ty2 aNB aIf
attribute [go_sem] asN alx aNz aNA ty3 aNy aHK asC alj aNw
attribute [go_sem] aNx ty4 aNv aHl ast ala aNt aNu ty5 aNs
attribute [go_sem] aGZ asl ak1 aNq aNr ty6 aNp aGx asb akR
attribute [go_sem] aNn aNo ty7 aNm aGe ar4 akK aNk aNl aSM
attribute [go_sem] aZi aSL aZh aSK aZg aSJ aZf ben ty8 aNj
attribute [go_sem] aFP arV akz aNh aNi aSI aZe aSH aZd aSG
attribute [go_sem] aZc aSF aZb bem ty9 aNg aFq arM akq aNe
attribute [go_sem] aNf bcR aIK az7 aoc aiQ aII aIJ bcQ aIH
attribute [go_sem] azC an1 aiF aIF aIG bcP aIE ay7 anQ aiu
attribute [go_sem] aIC aID bcO aIA au8 amt aha aIy aIz bcN
attribute [go_sem] aIx auG amj ag0 aIv aIw aY2 bcM aIu aub
attribute [go_sem] al8 agP aIs aIt aY1 bcL aIr atM alY agG
attribute [go_sem] aIp aIq aLB aOB aLA aOA bbq bcK aIo atk
attribute [go_sem] alN agw aIm aIn aLz aOz aLy aOy bbp bcJ
attribute [go_sem] aIl asP alz agl aIj aIk bcI aIi asO aly
attribute [go_sem] agk aIg aIh bcH aIe asM alw agj aIc aId
attribute [go_sem] bcG aIb asL alv agi aH9 aIa bcF aH8 asK
attribute [go_sem] alu agh aH6 aH7 bcE aH5 asJ alt agf aH3
attribute [go_sem] aH4 bcD aH2 asI als age aH0 aH1 aY0 bcC
attribute [go_sem] aHZ asH alr agd aHX aHY aLx aOx bbo bcB
attribute [go_sem] aHW asG alq agc aHU aHV aLw aOw bbn bcA
attribute [go_sem] aHT asF alo agb aHR aHS aLv aOv aLu aOu
attribute [go_sem] bbm bcz aHQ asE aln aga aHO aHP aLt aOt
attribute [go_sem] aLs aOs bbl bcy aHN asD alk af9 aHL aHM
attribute [go_sem] aLr aOr aLq aOq bbk bcx aHJ asB ali af8
attribute [go_sem] aHH aHI aLp aOp aLo aOo bbj bcw aHG asA
attribute [go_sem] alh af7 aHE aHF bcv aHD asz alg af6 aHB
attribute [go_sem] aHC bcu aHA asy alf af5 aHy aHz bct aHx
attribute [go_sem] asx ale af4 aHv aHw bcs aHu asw ald af3
attribute [go_sem] aHs aHt bcr aHr asv alc af2 aHp aHq bcq
attribute [go_sem] aHo asu alb af1 aHm aHn bcp aHk ass ak8
attribute [go_sem] af0 aHi aHj aLn aOn aLm aOm bbi bco aHh
attribute [go_sem] asr ak7 afZ aHf aHg aLl aOl aLk aOk bbh
attribute [go_sem] bcn aHe asq ak6 afY aHc aHd bcm aHb asp
attribute [go_sem] ak5 afX aG9 aHa bcl aG8 aso ak4 afW aG6
attribute [go_sem] aG7 bck aG5 asn ak3 afV aG3 aG4 bcj aG2
attribute [go_sem] asm ak2 afU aG0 aG1 bci aGY ask ak0 afT
attribute [go_sem] aGW aGX bch aGV asj akZ afS aGT aGU bcg
attribute [go_sem] aGS asi akY afR aGQ aGR bcf aGP ash akX
attribute [go_sem] afQ aGN aGO bce aGM asg akW afP aGK aGL
attribute [go_sem] bcd aGJ asf akV afO aGH aGI bcc aGG ase
attribute [go_sem] akU afN aGE aGF bcb aGD asd akT afM aGB
attribute [go_sem] aGC bca aGA asc akS afL aGy aGz aYZ bb9
attribute [go_sem] aGw asa akQ afK aGu aGv bb8 aGt ar9 akP
attribute [go_sem] afJ aGr aGs bb7 aGq ar8 akO afI aGo aGp
attribute [go_sem] bb6 aGn ar7 akN afH aGl aGm bb5 aGk ar6
attribute [go_sem] akM afG aGi aGj bb4 aGh ar5 akL afF aGf
attribute [go_sem] aGg bb3 aGd ar3 akJ afE aGb aGc bb2 aGa
attribute [go_sem] ar2 akH afD aF8 aF9 aLj aOj aLi aOi bbg
attribute [go_sem] bb1 aF7 ar1 akF afC aF5 aF6 aLh aOh aLg
attribute [go_sem] aOg bbf bb0 aF4 ar0 akE afB aF2 aF3 bbZ
attribute [go_sem] aF1 arZ akD afA aFZ aF0 bbY aFY arY akC
attribute [go_sem] afz aFW aFX bbX aFV arX akB afy aFT aFU
attribute [go_sem] bbW aFS arW akA afx aFQ aFR bbV aFO arU
attribute [go_sem] aky afw aFM aFN bbU aFL arT akx afv aFJ
attribute [go_sem] aFK bbT aFI arS akw afu aFG aFH bbS aFF
attribute [go_sem] arR akv aft aFD aFE bbR aFC arQ aku afs
attribute [go_sem] aFA aFB bbQ aFz arP akt afr aFx aFy bbP
attribute [go_sem] aFw arO aks afq aFu aFv bbO aFt arN akr
attribute [go_sem] afp aFr aFs aWA aAy aol aiZ ads aAw aAx
attribute [go_sem] aWz aAv aok aiY adr aAt aAu aWy aAs aoj
attribute [go_sem] aiX adq aAq aAr aWx aAp aoi aiW adp aAn
attribute [go_sem] aAo aWw aAm aoh aiV ado aAk aAl aWv aAj
attribute [go_sem] aog aiU adn aAh aAi aWu aAg aof aiT adm
attribute [go_sem] aAe aAf aWt aAd aoe aiS adl aAb aAc aWs
attribute [go_sem] aAa aod aiR adk az8 az9 aWr az6 aob aiP
attribute [go_sem] adj az4 az5 aWq az3 aoa aiO adi az1 az2
attribute [go_sem] aNZ aWp az0 an9 aiN adh azY azZ aCE aJJ
attribute [go_sem] aCD aJI aTs aWo azX an8 aiM adg azV azW
attribute [go_sem] aCC aJH aCB aJG aTr aWn azU an7 aiL adf
attribute [go_sem] azS azT aWm azR an6 aiK ade azP azQ aWl
attribute [go_sem] azO an5 aiJ adc azM azN aWk azL an4 aiI
attribute [go_sem] adb azJ azK aCA aJF aCz aJE aCy aJD aTq
attribute [go_sem] aWj azI an3 aiH ada azG azH aCx aJC aCw
attribute [go_sem] aJB aCv aJA aTp aWi azF an2 aiG ac9 azD
attribute [go_sem] azE aWh azB an0 aiE ac8 azz azA aWg azy
attribute [go_sem] anZ aiD ac7 azw azx aWf azv anY aiC ac6
attribute [go_sem] azt azu aWe azs anX aiB ac5 azq azr aWd
attribute [go_sem] azp anW aiA ac4 azn azo aWc azm anV aiz
attribute [go_sem] ac3 azk azl aWb azj anU aiy ac2 azh azi
attribute [go_sem] aWa azg anT aix ac1 aze azf aV9 azd anS
attribute [go_sem] aiw ac0 azb azc aV8 aza anR aiv acZ ay8
attribute [go_sem] ay9 aV7 ay6 anP ait acY ay4 ay5 aV6 ay3
attribute [go_sem] anO ais acX ay1 ay2 aV5 ay0 anN air acW
attribute [go_sem] ayY ayZ aCu aJz aCt aJy aTo aV4 ayX anM
attribute [go_sem] aiq acV ayV ayW aCs aJx aCr aJw aTn aV3
attribute [go_sem] ayU anL aip acU ayS ayT aV2 ayR anK aio
attribute [go_sem] acT ayP ayQ aV1 ayO anJ ain acS ayM ayN
attribute [go_sem] aV0 ayL anI aim acR ayJ ayK aVZ ayI anH
attribute [go_sem] ail acQ ayG ayH aVY ayF anG aik acP ayD
attribute [go_sem] ayE aVX ayC anF aij acO ayA ayB aVW ayz
attribute [go_sem] anE aii acN ayx ayy aVV ayw anD aih acM
attribute [go_sem] ayu ayv aVU ayt anC aig acL ayr ays aVT
attribute [go_sem] ayq anB aif acK ayo ayp aVS ayn anA aie
attribute [go_sem] acJ ayl aym aVR ayk anz aid acI ayi ayj
attribute [go_sem] aVQ ayh anx aic acH ayf ayg aVP aye anw
attribute [go_sem] aib acG ayc ayd aVO ayb anv aia acF ax9
attribute [go_sem] aya aVN ax8 anu ah9 acE ax6 ax7 aVM ax5
attribute [go_sem] ant ah8 acD ax3 ax4 aNY aVL ax2 ans ah7
attribute [go_sem] acC ax0 ax1 aCq aJv aCp aJu aTm aVK axZ
attribute [go_sem] anr ah6 acB axX axY aCo aJt aCn aJs aTl
attribute [go_sem] aVJ axW anq ah5 acA axU axV aVI axT anp
attribute [go_sem] ah4 acz axR axS aVH axQ ano ah3 acy axO
attribute [go_sem] axP aVG axN ann ah2 acx axL axM aVF axK
attribute [go_sem] anm ah1 acw axI axJ aVE axH anl ah0 acv
attribute [go_sem] axF axG aVD axE ank ahZ acu axC axD aVC
attribute [go_sem] axB anj ahY act axz axA aVB axy ani ahX
attribute [go_sem] acs axw axx aVA axv anh ahW acr axt axu
attribute [go_sem] aVz axs ang ahV acq axq axr aVy axp anf
attribute [go_sem] ahU acp axn axo aVx axm ane ahT aco axk
attribute [go_sem] axl aVw axj anc ahS acn axh axi aVv axg
attribute [go_sem] anb ahR acm axe axf aVu axd ana ahQ acl
attribute [go_sem] axb axc aVt axa am9 ahP ack aw8 aw9 aCm
attribute [go_sem] aJr aCl aJq aCk aJp aTk aVs aw7 am8 ahO
attribute [go_sem] acj aw5 aw6 aCj aJo aCi aJn aCh aJm aTj
attribute [go_sem] aVr aw4 am7 ahN aci aw2 aw3 aVq aw1 am6
attribute [go_sem] ahM ach awZ aw0 aVp awY am5 ahL acg awW
attribute [go_sem] awX aVo awU am4 ahK acf awS awT aVn awR
attribute [go_sem] am3 ahJ ace awP awQ aVm awO am2 ahI acd
attribute [go_sem] awM awN aVl awL am1 ahH acb awJ awK aVk
attribute [go_sem] awI am0 ahG aca awG awH aVj awF amZ ahF
attribute [go_sem] ab9 awD awE aVi awC amY ahE ab8 awA awB
attribute [go_sem] aVh awz amX ahD ab7 awx awy aVg aww amW
attribute [go_sem] ahC ab6 awu awv aVf awt amV ahB ab5 awr
attribute [go_sem] aws aVe awq amU ahA ab4 awn awo aVd awm
attribute [go_sem] amT ahz ab3 awk awl aVc awj amS ahy ab2
attribute [go_sem] awh awi aVb awg amR ahx ab1 awe awf aVa
attribute [go_sem] awd amQ ahw ab0 awb awc aNX aU9 awa amP
attribute [go_sem] ahv abZ av8 av9 aU8 av7 amO ahu abY av5
attribute [go_sem] av6 aU7 av4 amN aht abX av2 av3 aU6 av1
attribute [go_sem] amM ahs abW avZ av0 aU5 avX amK ahr abV
attribute [go_sem] avV avW aU4 avU amJ ahq abU avS avT aU3
attribute [go_sem] avR amI ahp abT avP avQ aU2 avO amH aho
attribute [go_sem] abS avM avN aU1 avL amG ahn abR avJ avK
attribute [go_sem] aU0 avI amF ahm abQ avG avH aUZ avF amE
attribute [go_sem] ahl abP avD avE aUY avC amD ahk abO avA
attribute [go_sem] avB aUX avz amC ahj abN avx avy aUW avw
attribute [go_sem] amB ahi abM avu avv aUV avt amA ahh abL
attribute [go_sem] avr avs aUU avq amz ahg abK avo avp aUT
attribute [go_sem] avn amy ahf abJ avl avm aUS avk amx ahe
attribute [go_sem] abI avi avj aUR avh amw ahd abH avf avg
attribute [go_sem] aUQ ave amv ahc abG avc avd aUP avb amu
attribute [go_sem] ahb abF au9 ava aUO au7 ams ag9 abE au5
attribute [go_sem] au6 aUN au4 amr ag8 abD au2 au3 aUM au1
attribute [go_sem] amq ag7 abC auZ au0 aUL auY amp ag6 abB
attribute [go_sem] auW auX aUK auV amo ag5 abA auT auU aUJ
attribute [go_sem] auS amn ag4 abz auQ auR aUI auP amm ag3
attribute [go_sem] aby auN auO aUH auM aml ag2 abx auK auL
attribute [go_sem] aUG auJ amk ag1 abw auH auI aUF auF ami
attribute [go_sem] agZ abv auD auE aUE auC amh agY abu auA
attribute [go_sem] auB aUD auz amg agX abt aux auy aUC auw
attribute [go_sem] amf agW abr auu auv aUB aut ame agV abq
attribute [go_sem] aur aus aUA auq amd agU abp auo aup aUz
attribute [go_sem] aun amc agT abo aul aum aUy auk amb agS
attribute [go_sem] abn aui auj aUx auh ama agR abm auf aug
attribute [go_sem] aUw aue al9 agQ abl auc aud aUv aua al6
attribute [go_sem] agO abk at8 at9 aUu at7 al5 agN abj at5
attribute [go_sem] at6 aUt at4 al4 agM abi at2 at3 aUs at1
attribute [go_sem] al3 agL abh atZ at0 aUr atY al2 agK abg
attribute [go_sem] atW atX aUq atV al1 agJ abf atT atU aUp
attribute [go_sem] atS al0 agI abe atQ atR aUo atP alZ agH
attribute [go_sem] abd atN atO aUn atL alW agF abc atJ atK
attribute [go_sem] aUm atI alV agE abb atG atH aUl atF alU
attribute [go_sem] agD aba atD atE aUk atC alT agC aa9 atA
attribute [go_sem] atB aUj atz alS agB aa8 atx aty aUi atw
attribute [go_sem] alR agA aa7 atu atv aUh att alQ agz aa6
attribute [go_sem] atr ats aUg atq alP agy aa5 ato atp aUf
attribute [go_sem] atn alO agx aa4 atl atm aUe atj alM agv
attribute [go_sem] aa3 ath ati aUd atg alL agu aa2 ate atf
attribute [go_sem] aUc atd alK agt aa1 atb atc aUb ata alJ
attribute [go_sem] ags aaZ as8 as9 aUa as7 alI agr aaY as5
attribute [go_sem] as6 aT9 as4 alH agq aaX as2 as3 aT8 as1
attribute [go_sem] alG agp aaW asZ as0 aT7 asY alD ago aaV
attribute [go_sem] asW asX aT6 asV alC agn aaU asT asU aT5
attribute [go_sem] asS alB agm aaT asQ asR bej bei beh beg
attribute [go_sem] bef bee bed bec ba5 ba4 ba3 ba2 ba1 ba0
attribute [go_sem] baZ baY baX baW baV baU baT baS baR baQ
attribute [go_sem] baP baO baN baM baL baK baJ baI baH baG
attribute [go_sem] baF baE baD baC baB baA baz bay bax baw
attribute [go_sem] bav bau bat bas bar baq bap bao ban bam
attribute [go_sem] bal bak baj bai bah bag baf bae bac bab
attribute [go_sem] baa aZ9 aZ8 aZ7 aZ6 aZ5 aZ4 aZ3 aZ2 aZ1
attribute [go_sem] aZ0 aZZ aZY aZX aZW aZV aZU aZT aZS aZR
attribute [go_sem] aZQ aZP aZO aZN aZM aZL aZK aZJ aZI aZH
attribute [go_sem] aZG aZF aZE aZD aSD aSC aSB aSA aSz aSy
attribute [go_sem] aSx aSw aSv aSu aSt aSs aSr aSq aSp aSo
attribute [go_sem] aSn aSm aSl aSk aSj aSi aSh aSg aSf aSe
attribute [go_sem] aSd aSc aSb aSa aR9 aR8 aR7 aR6 aR5 aR4
attribute [go_sem] aR3 aR2 aR1 aR0 aRZ aRY aRX aRW aRV aRU
attribute [go_sem] aRT aRS aRR aRQ aRP aRO aRN aRM aRL aRK
attribute [go_sem] aRJ aRI aRH aRG aRF aRE aRD aRC aRB aRA
attribute [go_sem] aRz aRy aRx aRw aRv aRu aRt aRs aRr aRq
attribute [go_sem] aRp aRo aRn aRm aRl aRk aRj aRi aRh aRg
attribute [go_sem] aRf aRe aRd aRc aRb aRa aQ9 aQ8 aQ7 aQ6
attribute [go_sem] aQ5 aQ4 aQ3 aQ2 aQ1 aQ0 aQZ aQY aQX aQW
attribute [go_sem] aQV aQU aQT aQS aQR aQQ aQP aQO aQN aQM
attribute [go_sem] aQL aQK aQJ aQI aQH aQG aQF aQE aQD aQC
attribute [go_sem] aQB aQA aQz aQy aQx aQw aQv aQu aQt aQs
attribute [go_sem] aQr aQq aQp aQo aQn aQm aQl aQk aQj aQi
attribute [go_sem] aQh aQg aQf aQe aQd aQc aQb aQa aP9 aP8
attribute [go_sem] aP7 aP6 aP5 aP4 aP3 aP2 aP1 aP0 aPZ aPY
attribute [go_sem] aPX aPW aPV aPU aPT aPS aPR aPQ aPP aPO
attribute [go_sem] aPN aPM aPL aPK aPJ aPI aPH aPG aPF aPE
attribute [go_sem] aPD aPC aPB aPA aPz aPy aPx aPw aPv aPu
attribute [go_sem] aPt aPs
end Go.Ab
namespace Go.Ab
open Go Go.Proofs
set_option maxRecDepth 100000 in
theorem aem(U V:List Int)(j:Nat)(hU:gd U)(hV:gd V)(lU:U.length≤2000000)(h2:2≤V.length)(hj:j+V.length<U.length)(hv1:32768≤V.getD (V.length-1) 0)(hW:vl (U.drop j)<65536*vl V):
  Con Tryz.prog 289 true [.sl U.length (qc U),.sl V.length (qc V),.v (.int .i64 j)] [] (fun r hs bs=>∃q:Int,r=.v (.int .i64 q)∧hs=[]∧bs=[]∧(0≤q∧q<65536)∧vl (U.drop j)<(q+1)*vl V∧q*vl V<vl (U.drop j)+vl V):=by
 refine Con.of_aw Tryz.func289 rfl Tryz.ntmps289 (by simp) (by simp) (by simp) (W.sound ?_)
 show @W Tryz.prog 76 ⟨_⟩ ⟨fun x σ=>@za _ _ _ ⟨_⟩ _ ⟨_⟩ x σ⟩ _ _
 have hDl:V.length<(U.drop j).length:=by simp;omega
 have hz:=aeH (ym hU j) hV hDl hW
 have hw:=aM5 hDl h2 hz
 have hvv:=aFh h2
 rw[zS,zS,zS]at hw
 have hx0:=qR (jZ (ym hU j) (V.length-2))
 have hx1:=QZ (jZ (ym hU j) (V.length-2))
 have hy0:=qR (jZ hV (V.length-2))
 have hy1:=QZ (jZ hV (V.length-2))
 rw[List.length_take,Nat.min_eq_left (by omega)]at hx1 hy1
 have gu0:=qK hU (j+V.length)
 have gu1:=qK hU (j+(V.length-1))
 have gu2:=qK hU (j+(V.length-2))
 have gv1:=qK hV (V.length-1)
 have gv2:=qK hV (V.length-2)
 have htop:=aO8 hw hvv ⟨hx0,hx1⟩ ⟨hy0,hy1⟩ gu2.1 gu1.1 gv2.2 hW
 have e0:((j:Int)+(V.length:Int)).toNat=j+V.length:=by omega
 have e1:((j:Int)+(V.length:Int)-1).toNat=j+(V.length-1):=by omega
 have e2:((j:Int)+(V.length:Int)-2).toNat=j+(V.length-2):=by omega
 have f1:((V.length:Int)-1).toNat=V.length-1:=by omega
 have f2:((V.length:Int)-2).toNat=V.length-2:=by omega
 simp(disch:=omega)only[go_sem]
 refine qs rfl [⟨0,[],[]⟩,⟨1,[],[]⟩,⟨2,[],[]⟩,⟨3,[],[]⟩,⟨4,[],[]⟩,⟨5,[],[]⟩,⟨6,[],[]⟩,⟨7,[5],[]⟩,⟨8,[5],[]⟩,⟨9,[5],[]⟩,⟨10,[5],[]⟩,⟨11,[5],[]⟩,⟨12,[5],[]⟩,⟨13,[5],[]⟩,⟨14,[],[]⟩,⟨15,[],[]⟩] (by kernel_rfl) ?_
 simp(disch:=omega)only[go_sem,e0,e1]
 generalize hu0:U.getD (j+V.length) 0=u0 at*
 generalize hu1:U.getD (j+(V.length-1)) 0=u1 at*
 generalize hu2:U.getD (j+(V.length-2)) 0=u2 at*
 refine⟨by omega,by omega,by omega,by omega,?_⟩
 refine qs rfl [⟨0,[],[]⟩,⟨1,[],[]⟩,⟨2,[],[]⟩,⟨3,[],[]⟩,⟨4,[],[]⟩,⟨5,[],[]⟩,⟨6,[],[]⟩,⟨7,[5],[]⟩,⟨8,[5],[]⟩,⟨9,[5],[]⟩,⟨10,[5],[]⟩,⟨11,[5],[]⟩,⟨12,[5],[]⟩,⟨13,[5],[]⟩,⟨14,[12],[]⟩,⟨15,[],[]⟩] (by kernel_rfl) ?_
 simp(disch:=omega)only[go_sem,f1]
 generalize hvv1:V.getD (V.length-1) 0=v1 at*
 generalize hvv2:V.getD (V.length-2) 0=v2 at*
 generalize htt:u0*65536+u1=top at*
 refine⟨by omega,by omega,by omega,by omega,by omega,by omega,?_⟩
 have hq0:0≤top/v1:=Int.ediv_nonneg (by omega) (by omega)
 have hq1:top/v1≤65537:=by
  have:top/v1<65538:=Int.ediv_lt_of_lt_mul (by omega) (by omega)
  omega
 have hr0:=Int.emod_nonneg top (show v1≠0 by omega)
 have hr1:=Int.emod_lt_of_pos top (show 0<v1 by omega)
 have hqr:=Int.emod_add_mul_ediv top v1
 have hini:=aKI hw hvv ⟨hx0,hx1⟩ ⟨hy0,hy1⟩ gu2 gv2.1 hq0 (show top<(top/v1+1)*v1 by rw[Int.add_mul,Int.mul_comm (top/v1)];omega)
 have hqr':top/v1*v1+top % v1=top:=by rw[Int.mul_comm];omega
 generalize top/v1=q0 at*
 generalize top % v1=r0 at*
 refine qi (fun x:Int×Int=>[(0,.sl U.length (qc U)),(1,.sl V.length (qc V)),(2,.v (.int .i64 j)),(7,.v (.int .i64 V.length)),(9,.v (.int .i64 x.1)),(10,.v (.int .i64 x.2))])
  (fun _=>[]) (fun x=>(0≤x.1∧x.1≤65537)∧(0≤x.2∧x.2<65536)∧x.1*v1+x.2=top∧vl (U.drop j)<(x.1+1)*vl V) (fun x=>x.1.toNat) (q0,r0) ⟨⟨hq0,hq1⟩,⟨hr0,by omega⟩,hqr',hini⟩
  (Le.lst [] _ _ rfl (by simp(disch:=omega)only[go_sem];try omega) (by simp(disch:=omega)only[go_sem])) ?_
 rintro⟨q,r⟩ ⟨hq,hr,hqr2,hlt⟩
 dsimp only at hq hr hqr2 hlt ⊢
 have hqv:0≤q*v2∧q*v2≤65537*65535:=⟨Int.mul_nonneg hq.1 gv2.1,Int.mul_le_mul hq.2 (by omega) gv2.1 (by omega)⟩
 simp(disch:=omega)only[go_sem]
 refine qs rfl [⟨0,[],[]⟩,⟨1,[],[]⟩,⟨2,[],[]⟩,⟨3,[],[]⟩,⟨4,[],[]⟩,⟨5,[],[]⟩,⟨6,[],[]⟩,⟨7,[],[]⟩,⟨8,[],[]⟩,⟨9,[],[]⟩,⟨10,[8],[]⟩,⟨11,[8],[]⟩,⟨12,[8],[]⟩,⟨13,[8],[]⟩,⟨14,[8],[]⟩,⟨15,[8],[]⟩,⟨16,[8],[]⟩,⟨17,[8],[]⟩,⟨18,[8],[]⟩,⟨19,[8],[]⟩,⟨20,[],[]⟩,⟨21,[],[]⟩] (by kernel_rfl) ?_
 simp(disch:=omega)only[go_sem]
 refine zB (fun h1=>?_) (fun h1=>?_)
 ·simp(disch:=omega)only[go_sem,h1,e2,f2,hu2,hvv2]
  refine⟨by omega,by omega,by omega,by omega,qe (fun h2=>?_) (fun h2=>?_)⟩
  ·simp(disch:=omega)only[go_sem,h2,f1,hvv1]
   have hst:=apo hw hvv ⟨hx0,hx1⟩ ⟨hy0,hy1⟩ hW gv2.1 (by omega) hq.1 hqr2 (.inr h2)
   have hqp:0<q:=by
    rcases(by omega:0<q∨q=0)with h|h
    ·exact h
    ·subst h;omega
   have hm:(q-1)*v1+(r+v1)=top:=by rw[Int.sub_mul];omega
   refine⟨by omega,by omega,qe (fun h3=>?_) (fun h3=>?_)⟩
   ·simp(disch:=omega)only[go_sem,h3]
    have h4:q-1<65536:=by
     rcases(by omega:q-1<65536∨65536≤q-1)with h|h
     ·exact h
     ·have:=Int.mul_le_mul_of_nonneg_right h (show 0≤v1 by omega)
      omega
    have h5:(q-1)*v2≤(r+v1)*65536+u2:=by
     have:(q-1)*v2≤65535*65535:=Int.mul_le_mul (by omega) (by omega) gv2.1 (by omega)
     omega
    have h6:=adN hw hvv ⟨hx0,hx1⟩ ⟨hy0,hy1⟩ gv2.1 (by omega) ⟨by omega,h4⟩ hm h5
    exact qy (by simp(disch:=omega)only[go_sem]) (by simp(disch:=omega)only[go_sem]) ⟨q-1,rfl,rfl,rfl,⟨by omega,h4⟩,by rw[show q-1+1=q by omega];exact hst,h6⟩
   ·simp(disch:=omega)only[go_sem,h3]
    refine qb (q-1,r+v1) [] ⟨by show 0≤q-1∧q-1≤65537;omega,by show 0≤r+v1∧r+v1<65536;omega,hm,by show _<(q-1+1)*vl V;rw[show q-1+1=q by omega];exact hst⟩ (by show(q-1).toNat<q.toNat;omega) rfl (by simp(disch:=omega)only[go_sem];try omega) (by simp(disch:=omega)only[go_sem])
  ·simp(disch:=omega)only[go_sem,h2]
   have h6:=adN hw hvv ⟨hx0,hx1⟩ ⟨hy0,hy1⟩ gv2.1 (by omega) ⟨hq.1,by omega⟩ hqr2 (by omega)
   exact qy (by simp(disch:=omega)only[go_sem]) (by simp(disch:=omega)only[go_sem]) ⟨q,rfl,rfl,rfl,⟨hq.1,by omega⟩,hlt,h6⟩
 ·simp(disch:=omega)only[go_sem,h1,f1,hvv1]
  have hst:=apo hw hvv ⟨hx0,hx1⟩ ⟨hy0,hy1⟩ hW gv2.1 (by omega) hq.1 hqr2 (.inl h1)
  have hqp:0<q:=by omega
  have hm:(q-1)*v1+(r+v1)=top:=by rw[Int.sub_mul];omega
  refine⟨by omega,by omega,qe (fun h3=>?_) (fun h3=>?_)⟩
  ·simp(disch:=omega)only[go_sem,h3]
   have h4:q-1<65536:=by
    rcases(by omega:q-1<65536∨65536≤q-1)with h|h
    ·exact h
    ·have:=Int.mul_le_mul_of_nonneg_right h (show 0≤v1 by omega)
     omega
   have h5:(q-1)*v2≤(r+v1)*65536+u2:=by
    have:(q-1)*v2≤65535*65535:=Int.mul_le_mul (by omega) (by omega) gv2.1 (by omega)
    omega
   have h6:=adN hw hvv ⟨hx0,hx1⟩ ⟨hy0,hy1⟩ gv2.1 (by omega) ⟨by omega,h4⟩ hm h5
   exact qy (by simp(disch:=omega)only[go_sem]) (by simp(disch:=omega)only[go_sem]) ⟨q-1,rfl,rfl,rfl,⟨by omega,h4⟩,by rw[show q-1+1=q by omega];exact hst,h6⟩
  ·simp(disch:=omega)only[go_sem,h3]
   refine qb (q-1,r+v1) [] ⟨by show 0≤q-1∧q-1≤65537;omega,by show 0≤r+v1∧r+v1<65536;omega,hm,by show _<(q-1+1)*vl V;rw[show q-1+1=q by omega];exact hst⟩ (by show(q-1).toNat<q.toNat;omega) rfl (by simp(disch:=omega)only[go_sem];try omega) (by simp(disch:=omega)only[go_sem])
end Go.Ab
namespace Go.Ab
open Go Go.Proofs
theorem aak(U V:List Int)(j:Nat)(q:Int)(hU:gd U)(hV:gd V)(lU:U.length≤2000000)(hj:j+V.length<U.length)(hq:0≤q∧q<65536):
  Con Tryz.prog 290 false [.rf 10000000 0 U.length,.sl V.length (qc V),.v (.int .i64 j),.v (.int .i64 q)] [.own 1 (qc U)]
   (fun r hs bs=>∃(U':List Int) (bo:Int),r=.v (.bool (decide (U.getD (j+V.length) 0-bo<0)))∧hs=[]∧bs=[.own 1 (qc (U'.set (j+V.length) (U.getD (j+V.length) 0-bo)))]∧
    U'.length=U.length∧gd U'∧(0≤bo∧bo<65536)∧(∀t,t<j∨j+V.length≤t→U'.getD t 0=U.getD t 0)∧vl U'-65536^(j+V.length)*bo=vl U-65536^j*(q*vl V)):=by
 refine Con.of_aw Tryz.func290 rfl Tryz.ntmps290 (by simp) (by simp) (by simp) (W.sound ?_)
 show @W Tryz.prog 68 ⟨_⟩ ⟨fun x σ=>@za _ _ _ ⟨_⟩ _ ⟨_⟩ x σ⟩ _ _
 simp(disch:=omega)only[go_sem]
 refine qi (fun x:Nat×List Int×Int=>[(0,.rf 10000000 0 U.length),(1,.sl V.length (qc V)),(2,.v (.int .i64 j)),(3,.v (.int .i64 q)),(9,.v (.int .i64 x.2.2)),(13,.sl V.length (qc V)),(14,.v (.int .i64 V.length)),(15,.v (.int .i64 x.1))])
  (fun x=>[(10000000,.own 1 (qc x.2.1))])
  (fun x=>x.1≤V.length∧x.2.1.length=U.length∧gd x.2.1∧(0≤x.2.2∧x.2.2<65536)∧(∀t,t<j∨j+x.1≤t→x.2.1.getD t 0=U.getD t 0)∧vl x.2.1-65536^(j+x.1)*x.2.2=vl U-65536^j*(q*vl (V.take x.1)))
  (fun x=>V.length-x.1) (0,U,0) ⟨by simp,rfl,hU,by simp,fun _ _=>rfl,by simp[vl]⟩
  (Le.lst [] _ _ rfl (by simp(disch:=omega)only[go_sem];try omega) (by simp(disch:=omega)only[go_sem])) ?_
 rintro⟨i,U1,bo⟩ ⟨hi,hl1,hg1,hbo,hsame,hval⟩
 dsimp only at hi hl1 hg1 hbo hsame hval ⊢
 simp(disch:=omega)only[go_sem]
 refine qe (fun h1=>?_) (fun h1=>?_)
 ·have hx:=qK hV i
  have hu:=qK hg1 (j+i)
  have hqx:0≤q*V.getD i 0∧q*V.getD i 0≤65535*65535:=⟨Int.mul_nonneg hq.1 hx.1,Int.mul_le_mul (by omega) (by omega) hx.1 (by omega)⟩
  have e1:((j:Int)+(i:Int)).toNat=j+i:=by omega
  have hstep:∀d b:Int,d-65536*b=U1.getD (j+i) 0-q*V.getD i 0-bo→vl (U1.set (j+i) d)-65536^(j+(i+1))*b=vl U-65536^j*(q*vl (V.take (i+1))):=by
   intro d b hd
   rw[QO (by omega),q6,←Nat.add_assoc,Int.pow_succ]
   have e3:(65536:Int)^(j+i)=65536^j*65536^i:=Int.pow_add _ _ _
   rw[e3]at hval ⊢
   generalize (65536:Int)^i=Pi at*
   generalize (65536:Int)^j=Pj at*
   grind
  have hsm:∀d:Int,∀t,t<j∨j+(i+1)≤t→(U1.set (j+i) d).getD t 0=U.getD t 0:=fun d t ht=>by
   rw[jg (by omega),if_neg (by omega)];exact hsame t (by omega)
  simp(disch:=omega)only[go_sem,h1,e1]
  refine⟨by omega,by omega,by omega,by omega,qe (fun h2=>?_) (fun h2=>?_)⟩
  ·simp(disch:=omega)only[go_sem,h2,e1]
   generalize hb:(0-(U1.getD (j+i) 0-q*V.getD i 0-bo)+65536-1)/65536=b
   refine⟨by omega,by omega,qb (i+1,U1.set (j+i) (U1.getD (j+i) 0-q*V.getD i 0-bo+b*65536),b) [] ⟨by show i+1≤_;omega,by simp[hl1],yK hg1 (by omega),by show 0≤b∧b<65536;omega,hsm _,hstep (U1.getD (j+i) 0-q*V.getD i 0-bo+b*65536) b (by omega)⟩
    (by show V.length-(i+1)<V.length-i;omega) rfl (by simp(disch:=omega)only[go_sem];try omega) (by simp(disch:=omega)only[go_sem])⟩
  ·simp(disch:=omega)only[go_sem,h2,e1]
   refine⟨by omega,by omega,qb (i+1,U1.set (j+i) (U1.getD (j+i) 0-q*V.getD i 0-bo),0) [] ⟨by show i+1≤_;omega,by simp[hl1],yK hg1 (by omega),by simp,hsm _,hstep (U1.getD (j+i) 0-q*V.getD i 0-bo) 0 (by omega)⟩
    (by show V.length-(i+1)<V.length-i;omega) rfl (by simp(disch:=omega)only[go_sem];try omega) (by simp(disch:=omega)only[go_sem])⟩
 ·have hiA:i=V.length:=by omega
  subst hiA
  rw[List.take_length]at hval
  have e1:((j:Int)+(V.length:Int)).toNat=j+V.length:=by omega
  have hu:=qK hg1 (j+V.length)
  have es:=hsame (j+V.length) (by omega)
  have eg:(U1.set (j+V.length) (U.getD (j+V.length) 0-bo)).getD (j+V.length) 0=U.getD (j+V.length) 0-bo:=by rw[jg (by omega),if_pos rfl]
  simp(disch:=omega)only[go_sem,h1,e1,es]
  refine⟨by omega,by omega,by omega,by omega,by omega,by simp;omega,?_⟩
  simp(disch:=omega)only[go_sem,eg]
  refine qg [] [] [.own 1 (qc (U1.set (j+V.length) (U.getD (j+V.length) 0-bo)))] [.v (.bool (decide (U.getD (j+V.length) 0-bo<0)))] rfl (by simp(disch:=omega)only[go_sem]) (by simp(disch:=omega)only[go_sem]) (by simp) (by simp) ⟨U1,bo,rfl,rfl,rfl,hl1,hg1,hbo,hsame,hval⟩
theorem aeo(U V:List Int)(j:Nat)(hU:∀t,t≠j+V.length→0≤U.getD t 0∧U.getD t 0<65536)(hUt: -65536≤U.getD (j+V.length) 0∧U.getD (j+V.length) 0<65536)(hV:gd V)(lU:U.length≤2000000)(hj:j+V.length<U.length):
  Con Tryz.prog 291 false [.rf 10000000 0 U.length,.sl V.length (qc V),.v (.int .i64 j)] [.own 1 (qc U)]
   (fun r hs bs=>∃(U':List Int),r=.tu []∧hs=[]∧bs=[.own 1 (qc U')]∧
    U'.length=U.length∧(∀t,t≠j+V.length→0≤U'.getD t 0∧U'.getD t 0<65536)∧(∀t,t<j∨j+V.length<t→U'.getD t 0=U.getD t 0)∧vl U'=vl U+65536^j*vl V):=by
 refine Con.of_aw Tryz.func291 rfl Tryz.ntmps291 (by simp) (by simp) (by simp) (W.sound ?_)
 show @W Tryz.prog 46 ⟨_⟩ ⟨fun x σ=>@za _ _ _ ⟨_⟩ _ ⟨_⟩ x σ⟩ _ _
 simp(disch:=omega)only[go_sem]
 refine qi (fun x:Nat×List Int×Int=>[(0,.rf 10000000 0 U.length),(1,.sl V.length (qc V)),(2,.v (.int .i64 j)),(6,.v (.int .i64 x.2.2)),(9,.sl V.length (qc V)),(10,.v (.int .i64 V.length)),(11,.v (.int .i64 x.1))])
  (fun x=>[(10000000,.own 1 (qc x.2.1))])
  (fun x=>x.1≤V.length∧x.2.1.length=U.length∧(∀t,t≠j+V.length→0≤x.2.1.getD t 0∧x.2.1.getD t 0<65536)∧(0≤x.2.2∧x.2.2≤1)∧(∀t,t<j∨j+x.1≤t→x.2.1.getD t 0=U.getD t 0)∧vl x.2.1+65536^(j+x.1)*x.2.2=vl U+65536^j*vl (V.take x.1))
  (fun x=>V.length-x.1) (0,U,0) ⟨by simp,rfl,hU,by simp,fun _ _=>rfl,by simp[vl]⟩
  (Le.lst [] _ _ rfl (by simp(disch:=omega)only[go_sem];try omega) (by simp(disch:=omega)only[go_sem])) ?_
 rintro⟨i,U1,cy⟩ ⟨hi,hl1,hg1,hcy,hsame,hval⟩
 dsimp only at hi hl1 hg1 hcy hsame hval ⊢
 simp(disch:=omega)only[go_sem]
 refine qe (fun h1=>?_) (fun h1=>?_)
 ·have hx:=qK hV i
  have hu:=hg1 (j+i) (by omega)
  have e1:((j:Int)+(i:Int)).toNat=j+i:=by omega
  simp(disch:=omega)only[go_sem,h1,e1]
  generalize hb:cy+(U1.getD (j+i) 0+V.getD i 0)=b
  have hg2:∀t,t≠j+V.length→0≤(U1.set (j+i) (b % 65536)).getD t 0∧(U1.set (j+i) (b % 65536)).getD t 0<65536:=fun t ht=>by
   rw[jg (by omega)]
   split
   ·omega
   ·exact hg1 t ht
  refine⟨by omega,by omega,by omega,by omega,by omega,by omega,qb (i+1,U1.set (j+i) (b % 65536),b/65536) [] ⟨by show i+1≤_;omega,by simp[hl1],hg2,by show 0≤b/65536∧b/65536≤1;omega,fun t ht=>?_,?_⟩
   (by show V.length-(i+1)<V.length-i;omega) rfl (by simp(disch:=omega)only[go_sem];try omega) (by simp(disch:=omega)only[go_sem])⟩
  ·show(U1.set (j+i) (b % 65536)).getD t 0=_
   have ht:t<j∨j+(i+1)≤t:=ht
   rw[jg (by omega),if_neg (by omega)];exact hsame t (by omega)
  ·show vl (U1.set (j+i) (b % 65536))+65536^(j+(i+1))*(b/65536)=vl U+65536^j*vl (V.take (i+1))
   rw[QO (by omega),q6,←Nat.add_assoc,Int.pow_succ]
   have e3:(65536:Int)^(j+i)=65536^j*65536^i:=Int.pow_add _ _ _
   have e4:b % 65536+65536*(b/65536)=b:=Int.emod_add_mul_ediv b 65536
   rw[e3]at hval ⊢
   generalize (65536:Int)^i=Pi at*
   generalize (65536:Int)^j=Pj at*
   grind
 ·have hiA:i=V.length:=by omega
  subst hiA
  rw[List.take_length]at hval
  have e1:((j:Int)+(V.length:Int)).toNat=j+V.length:=by omega
  have es:=hsame (j+V.length) (by omega)
  simp(disch:=omega)only[go_sem,h1,e1,es]
  refine⟨by omega,by omega,by omega,by omega,?_⟩
  refine qg [] [] [.own 1 (qc (U1.set (j+V.length) (U.getD (j+V.length) 0+cy)))] [] rfl (by simp(disch:=omega)only[go_sem]) (by simp(disch:=omega)only[go_sem]) (by simp) (by simp) ⟨_,rfl,rfl,rfl,by simp[hl1],fun t ht=>?_,fun t ht=>?_,?_⟩
  ·rw[jg (by omega),if_neg ht];exact hg1 t ht
  ·rw[jg (by omega),if_neg (by omega)];exact hsame t (by omega)
  ·rw[QO (by omega),es]
   generalize (65536:Int)^(j+V.length)=Pj at*
   grind
end Go.Ab
namespace Go.Ab
open Go Go.Proofs
theorem jj(xs:List Int)(hl:xs.length≤2^40):Con Tryz.prog 254 false [.rf 10000000 0 xs.length] [.own 1 (qc xs)] (fun r hs bs=>r=.rf 10000000 0 (Z2 xs).length∧hs=[]∧bs=[.own 1 (qc xs)]):=by
 refine Con.of_aw Tryz.func254 rfl Tryz.ntmps254 (by simp) (by simp) (by simp) (W.sound ?_)
 show @W Tryz.prog 21 ⟨_⟩ ⟨fun x σ=>@za _ _ _ ⟨_⟩ _ ⟨_⟩ x σ⟩ _ _
 simp(disch:=omega)only[go_sem]
 refine qi (fun m:Nat=>[(0,.rf 10000000 0 m)]) (fun _=>[(10000000,.own 1 (qc xs))]) (fun m=>m≤xs.length∧Z2 (xs.take m)=Z2 xs) id xs.length ⟨Nat.le_refl _,by simp⟩
  (Le.lst [] _ _ rfl (by simp(disch:=omega)only[go_sem];try omega) (by simp(disch:=omega)only[go_sem])) ?_
 intro m ⟨hm,hx⟩
 have hmx:∀k,k+1=m→xs.take m=xs.take k++[xs.getD k 0]:=fun k hk=>by rw[←hk];exact jF (by omega)
 simp(disch:=omega)only[go_sem]
 refine qe (fun h1=>?_) (fun h1=>?_)
 ·obtain⟨k,rfl⟩:∃k,m=k+1:=⟨m-1,by omega⟩
  have e1:((k+1:Nat):Int)-1=(k:Nat):=by omega
  rw[hmx k rfl]at hx
  simp(disch:=omega)only[go_sem,h1,e1]
  refine⟨by omega,by omega,qe (fun h2=>?_) (fun h2=>?_)⟩
  ·simp(disch:=omega)only[go_sem,h2,e1]
   rw[h2,Qi]at hx
   refine⟨by omega,qb k [] ⟨by omega,hx⟩ (by show k<k+1;omega) rfl (by simp(disch:=omega)only[go_sem];try omega) (by simp(disch:=omega)only[go_sem])⟩
  ·simp(disch:=omega)only[go_sem,h2]
   refine qg [] [] [.own 1 (qc xs)] [.rf 10000000 0 (k+1)] rfl (by simp(disch:=omega)only[go_sem]) (by simp(disch:=omega)only[go_sem]) (by simp) (by simp) ⟨?_,rfl,rfl⟩
   rw[YL _ h2,←hmx k rfl]at hx
   rw[←hx,List.length_take,Nat.min_eq_left hm];rfl
 ·simp(disch:=omega)only[go_sem,h1]
  refine qg [] [] [.own 1 (qc xs)] [.rf 10000000 0 m] rfl (by simp(disch:=omega)only[go_sem]) (by simp(disch:=omega)only[go_sem]) (by simp) (by simp) ⟨?_,rfl,rfl⟩
  have:m=0:=by omega
  subst this
  rw[←hx];rfl
end Go.Ab
namespace Go.Ab
open Go Go.Proofs
theorem apc{x y:Int}(hx:0≤x∧x<65536)(hy:0≤y∧y<65536):0≤x*y∧x*y≤4294836225:=by
 have h1:=Int.mul_nonneg hx.1 hy.1
 have h2:x*y≤65535*65535:=Int.mul_le_mul (by omega) (by omega) hy.1 (by omega)
 omega
theorem aqd(cl:Bool)(A B:List Int)(hA:gd A)(hB:gd B)(lA:A.length≤1000000)(lB:B.length≤1000000):
  Con Tryz.prog 201 cl [.sl A.length (qc A),.sl B.length (qc B)] [] (arv (lim (vl A*vl B).toNat)):=by
 refine Con.of_aw Tryz.func201 rfl Tryz.ntmps201 (by simp) (by simp) (by simp) (W.sound ?_)
 show @W Tryz.prog 63 ⟨_⟩ ⟨fun x σ=>@za _ _ _ ⟨_⟩ _ ⟨_⟩ x σ⟩ _ _
 simp(disch:=omega)only[go_sem]
 refine⟨⟨by omega,by omega,by omega⟩,?_⟩
 refine qi (fun x:Nat×List Int=>[(1,.sl B.length (qc B)),(5,.rf 180000000 0 (A.length+B.length)),(17,.sl A.length (qc A)),(18,.v (.int .i64 A.length)),(19,.v (.int .i64 x.1))])
  (fun x=>[(180000000,.own 1 (qc x.2))])
  (fun x=>x.1≤A.length∧x.2.length=A.length+B.length∧gd x.2∧vl x.2=vl (A.take x.1)*vl B∧∀j,x.1+B.length≤j→x.2.getD j 0=0)
  (fun x=>A.length-x.1) (0,List.replicate (A.length+B.length) 0) ⟨by simp,by simp,zk _,by simp[zL,vl],fun j _=>by
   rw[List.getD_eq_getElem?_getD,List.getElem?_replicate];split<;>rfl⟩
  (Le.lst [] _ _ rfl (by simp(disch:=omega)only[go_sem];try omega) (by simp(disch:=omega)only[go_sem,show((A.length:Int)+(B.length:Int)).toNat=A.length+B.length by omega])) ?_
 rintro⟨i,out⟩ ⟨hi,hol,hog,hov,hoz⟩
 dsimp only at hi hol hog hov hoz ⊢
 simp(disch:=omega)only[go_sem]
 refine qe (fun h1=>?_) (fun h1=>?_)
 ·have hx:=qK hA i
  simp(disch:=omega)only[go_sem,h1]
  refine⟨by omega,by omega,?_⟩
  refine qi (fun x:Nat×List Int×Int=>[(1,.sl B.length (qc B)),(5,.rf 180000000 0 (A.length+B.length)),(17,.sl A.length (qc A)),(18,.v (.int .i64 A.length)),(19,.v (.int .i64 i)),(6,.v (.int .i64 i)),
    (7,.v (.int .i64 (A.getD i 0))),(8,.v (.int .i64 x.2.2)),(24,.sl B.length (qc B)),(25,.v (.int .i64 B.length)),(26,.v (.int .i64 x.1))])
   (fun x=>[(180000000,.own 1 (qc x.2.1))])
   (fun x=>x.1≤B.length∧x.2.1.length=A.length+B.length∧gd x.2.1∧(0≤x.2.2∧x.2.2<65536)∧vl x.2.1+65536^(i+x.1)*x.2.2=vl out+65536^i*(A.getD i 0*vl (B.take x.1))∧∀j,i+B.length≤j→x.2.1.getD j 0=0)
   (fun x=>B.length-x.1) (0,out,0) ⟨by simp,hol,hog,by simp,by simp[vl],hoz⟩
   (Le.lst [] _ _ rfl (by simp(disch:=omega)only[go_sem];try omega) (by simp(disch:=omega)only[go_sem])) ?_
  rintro⟨j,o2,cy⟩ ⟨hj,hol2,hog2,hcy,hov2,hoz2⟩
  dsimp only at hj hol2 hog2 hcy hov2 hoz2 ⊢
  simp(disch:=omega)only[go_sem]
  refine qe (fun h2=>?_) (fun h2=>?_)
  ·have hy:=qK hB j
   have ho:=qK hog2 (i+j)
   have hxy:=apc hx hy
   have e1:((i:Int)+(j:Int)).toNat=i+j:=by omega
   simp(disch:=omega)only[go_sem,h2,e1]
   generalize hq:cy+(o2.getD (i+j) 0+A.getD i 0*B.getD j 0)=q
   refine⟨by omega,by omega,by omega,by omega,by omega,by omega,qb (j+1,o2.set (i+j) (q % 65536),q/65536) [] ⟨by show j+1≤_;omega,by simp[hol2],yK hog2 (by omega),by show 0≤q/65536∧q/65536<65536;omega,?_,fun k hk=>?_⟩
    (by show B.length-(j+1)<B.length-j;omega) rfl (by simp(disch:=omega)only[go_sem];try omega) (by simp(disch:=omega)only[go_sem])⟩
   ·show vl (o2.set (i+j) (q % 65536))+65536^(i+(j+1))*(q/65536)=vl out+65536^i*(A.getD i 0*vl (B.take (j+1)))
    rw[QO (by omega),z7 (by omega),←Nat.add_assoc,Int.pow_succ]
    have e2:(65536:Int)^(i+j)=65536^i*65536^j:=Int.pow_add _ _ _
    have e3:q % 65536+65536*(q/65536)=q:=Int.emod_add_mul_ediv q 65536
    rw[e2]at hov2 ⊢
    generalize (65536:Int)^i=Pi at*
    generalize (65536:Int)^j=Pj at*
    grind
   ·show(o2.set (i+j) (q % 65536)).getD k 0=0
    rw[List.getD_eq_getElem?_getD,List.getElem?_set_ne (by omega),←List.getD_eq_getElem?_getD]
    exact hoz2 k hk
  ·simp(disch:=omega)only[go_sem,h2]
   have e1:((i:Int)+(B.length:Int)).toNat=i+B.length:=by omega
   have hjB:j=B.length:=by omega
   subst hjB
   rw[List.take_length]at hov2
   simp(disch:=omega)only[go_sem,e1]
   refine⟨by omega,by omega,qb (i+1,o2.set (i+B.length) cy) [] ⟨by show i+1≤_;omega,by simp[hol2],yK hog2 hcy,?_,fun k hk=>?_⟩ (by show A.length-(i+1)<A.length-i;omega) rfl (by simp(disch:=omega)only[go_sem];try omega) (by simp(disch:=omega)only[go_sem])⟩
   ·show vl (o2.set (i+B.length) cy)=vl (A.take (i+1))*vl B
    rw[QO (by omega),hoz2 _ (Nat.le_refl _),z7 (by omega)]
    generalize (65536:Int)^i=Pi at*
    grind
   ·show(o2.set (i+B.length) cy).getD k 0=0
    rw[List.getD_eq_getElem?_getD,List.getElem?_set_ne (by show i+B.length≠k;omega),←List.getD_eq_getElem?_getD]
    exact hoz2 k (by omega)
 ·simp(disch:=omega)only[go_sem,h1]
  have hiA:i=A.length:=by omega
  subst hiA
  rw[List.take_length]at hov
  refine q8 false [180000000] (jj out (by omega)) (by rw[←hol];simp(disch:=omega)only[go_sem]) (by simp(disch:=omega)only[go_sem]) rfl (qS (z:=1) (cs:=qc out) (by simp(disch:=omega)only[go_sem]) (by simp(disch:=omega)only[go_sem])) (by intro n hn;exact⟨_,List.mem_singleton.2 rfl,by rw[List.mem_singleton.1 hn];rfl⟩) ?_
  rintro r hs bs ⟨rfl,rfl,rfl⟩ _
  refine⟨by simp[qN],?_⟩
  simp(disch:=omega)only[go_sem]
  obtain⟨z,hz⟩:=zH out
  have hc:=zY hog
  rw[hov]at hc
  rw[hc]at hz ⊢
  refine qg [(0,180000000)] [.own 1 (qc out)] [] [.rf 0 0 (lim (vl A*vl B).toNat).length] rfl (by simp(disch:=omega)only[go_sem]) (by simp(disch:=omega)only[go_sem]) (by simp) (by intro _;simp[zj,AV.pu,AV.pu.puL,Ob.pu,q7]) (.inr ⟨List.replicate z 0,rfl,by rw[←hz]⟩)
end Go.Ab
namespace Go.Ab
open Go Go.Proofs
theorem aqh(cl:Bool)(n:Nat)(hn:n<2^63):Con Tryz.prog 216 cl [.v (.int .i64 n)] [] (arv (lim n)):=by
 refine Con.of_aw Tryz.func216 rfl Tryz.ntmps216 (by simp) (by simp) (by simp) (W.sound ?_)
 show @W Tryz.prog 14 ⟨_⟩ ⟨fun x σ=>@za _ _ _ ⟨_⟩ _ ⟨_⟩ x σ⟩ _ _
 simp(disch:=omega)only[go_sem]
 refine qi (fun x:Nat×List Int=>[(0,.v (.int .i64 x.1)),(3,.rf 1 0 x.2.length)]) (fun x=>[(1,.own 1 (qc x.2))]) (fun x=>x.1<2^63∧x.2++lim x.1=lim n) (fun x=>x.1) (n,[]) ⟨hn,rfl⟩
  ((Le.ghost 3 1 1 (by simp(disch:=omega)only[go_sem]) (by simp(disch:=omega)only[go_sem])).trans (Le.lst [] _ _ rfl (by simp(disch:=omega)only[go_sem]) (by simp(disch:=omega)only[go_sem]))) ?_
 rintro⟨k,l⟩ ⟨hk,hl⟩
 dsimp only at hk hl ⊢
 have hlen:l.length≤4:=by
  have h1:=congrArg List.length hl
  have h2:=jB (n:=n) (k:=4) |>.2 (by omega)
  rw[List.length_append]at h1;omega
 simp(disch:=omega)only[go_sem]
 refine qe (fun h1=>?_) (fun h1=>?_)
 ·simp(disch:=omega)only[go_sem,h1]
  have hk0:k≠0:=by omega
  refine⟨by omega,qb (k/65536,l++[(k:Int) % 65536]) [(1,140000000)] ⟨by show k/65536<2^63;omega,?_⟩ (by show k/65536<k;omega) rfl (by simp(disch:=omega)only[go_sem,List.length_append];omega) (by simp(disch:=omega)only[go_sem])⟩
  rw[jY hk0]at hl
  rw[←hl,List.append_assoc];rfl
 ·simp(disch:=omega)only[go_sem,h1]
  have hk0:k=0:=by omega
  subst hk0
  rw[qo,List.append_nil]at hl
  subst hl
  refine qg [(0,1)] [.own 1 (qc (lim n++[]))] [] [.rf 0 0 (lim n).length] rfl (by simp(disch:=omega)only[go_sem]) (by simp(disch:=omega)only[go_sem]) (by simp) (by intro _;simp[zj,AV.pu,AV.pu.puL,Ob.pu,q7]) (.inr ⟨[],rfl,rfl⟩)
end Go.Ab
namespace Go.Ab
open Go Go.Proofs
theorem yh(k:Nat)(h:k<16):(0:Int)<2^k∧(2:Int)^k≤32768:=by
 have:∀k,k<16→(0:Int)<2^k∧(2:Int)^k≤32768:=by decide
 exact this k h
theorem apb{x:Int}(hx:0≤x∧x<65536){k:Nat}(hk:k<16):0≤x*2^k∧x*2^k≤2147450880:=by
 obtain⟨h1,h2⟩:=yh k hk
 have h3:=Int.mul_nonneg hx.1 (Int.le_of_lt h1)
 have h4:x*2^k≤65535*32768:=Int.mul_le_mul (by omega) h2 (by omega) (by omega)
 omega
theorem KN(k:Nat):(65536:Int)^(k/16)*2^(k % 16)=2^k:=by
 have e:(65536:Int)=2^16:=by decide
 rw[e,←Int.pow_mul,←Int.pow_add,Nat.div_add_mod]
theorem aS9(cl:Bool)(A:List Int)(k:Nat)(hA:gd A)(lA:A.length≤1000000)(hk:k≤100000000):
  Con Tryz.prog 244 cl [.sl A.length (qc A),.v (.int .i64 k)] [] (arv (lim (vl A*2^k).toNat)):=by
 refine Con.of_aw Tryz.func244 rfl Tryz.ntmps244 (by simp) (by simp) (by simp) (W.sound ?_)
 show @W Tryz.prog 46 ⟨_⟩ ⟨fun x σ=>@za _ _ _ ⟨_⟩ _ ⟨_⟩ x σ⟩ _ _
 simp(disch:=omega)only[go_sem]
 refine qe (fun h0=>?_) (fun h0=>?_)
 ·simp(disch:=omega)only[go_sem,h0]
  have:A=[]:=List.length_eq_zero_iff.1 (by omega)
  subst this
  refine qg [] [] [] [.v (.slice none 0 0)] rfl (by simp(disch:=omega)only[go_sem]) (by simp(disch:=omega)only[go_sem]) (by simp) (by intro _;simp[zj,AV.pu,AV.pu.puL,Ob.pu,q7]) (.inl ⟨by simp[vl,qo],rfl,rfl⟩)
 ·simp(disch:=omega)only[go_sem,h0]
  refine⟨by omega,?_⟩
  have e16:((k:Int)/16).toNat=k/16:=by omega
  refine qi (fun x:Nat×List Int×Int=>[(1,.v (.int .i64 k)),(5,.rf 1 0 x.2.1.length),(6,.v (.int .i64 x.2.2)),(21,.sl A.length (qc A)),(22,.v (.int .i64 A.length)),(23,.v (.int .i64 x.1))])
   (fun x=>[(1,.own 1 (qc x.2.1))])
   (fun x=>x.1≤A.length∧x.2.1.length=k/16+x.1∧gd x.2.1∧(0≤x.2.2∧x.2.2<65536)∧vl x.2.1+65536^(k/16+x.1)*x.2.2=65536^(k/16)*2^(k % 16)*vl (A.take x.1))
   (fun x=>A.length-x.1) (0,List.replicate (k/16) 0,0) ⟨by simp,by simp,zk _,by simp,by simp[vl,zL]⟩
   (Le.lst [(1,220000000)] _ _ rfl (by simp(disch:=omega)only[go_sem,List.length_replicate,e16]) (by simp(disch:=omega)only[go_sem,e16])) ?_
  rintro⟨i,out,cy⟩ ⟨hi,hol,hog,hcy,hov⟩
  dsimp only at hi hol hog hcy hov ⊢
  simp(disch:=omega)only[go_sem]
  refine qe (fun h1=>?_) (fun h1=>?_)
  ·have hx:=qK hA i
   have hxs:=apb hx (show k % 16<16 by omega)
   have em:min ((k:Int) % 16).toNat 64=k % 16:=by omega
   simp(disch:=omega)only[go_sem,h1,em]
   generalize hq:cy+A.getD i 0*2^(k % 16)=q
   refine⟨by omega,by omega,by omega,by omega,qb (i+1,out++[q % 65536],q/65536) [(1,390000000)] ⟨by show i+1≤_;omega,by simp[hol];omega,qL.2 ⟨hog,jr.2 (by omega)⟩,by show 0≤q/65536∧q/65536<65536;omega,?_⟩ (by show A.length-(i+1)<A.length-i;omega) rfl (by simp(disch:=omega)only[go_sem,List.length_append];try omega) (by simp(disch:=omega)only[go_sem])⟩
   show vl (out++[q % 65536])+65536^(k/16+(i+1))*(q/65536)=65536^(k/16)*2^(k % 16)*vl (A.take (i+1))
   rw[jz,q6,hol,←Nat.add_assoc,Int.pow_succ]
   have e3:q % 65536+65536*(q/65536)=q:=Int.emod_add_mul_ediv q 65536
   rw[Int.pow_add]at hov ⊢
   generalize (65536:Int)^i=Pi at*
   generalize (65536:Int)^(k/16)=Pk at*
   generalize (2:Int)^(k % 16)=Pm at*
   grind
  ·simp(disch:=omega)only[go_sem,h1]
   have hiA:i=A.length:=by omega
   subst hiA
   rw[List.take_length,KN]at hov
   have hov2:vl (out++[cy])=vl A*2^k:=by rw[jz,hol,hov];grind
   have hog2:gd (out++[cy]):=qL.2 ⟨hog,jr.2 hcy⟩
   refine⟨by omega,?_⟩
   have hl2:out.length+1=(out++[cy]).length:=by simp
   rw[hl2]
   refine q8 false [460000000] (jj (out++[cy]) (by simp;omega)) (by simp(disch:=omega)only[go_sem]) (by simp(disch:=omega)only[go_sem]) rfl (qS (z:=1) (cs:=qc (out++[cy])) (by simp(disch:=omega)only[go_sem]) (by simp(disch:=omega)only[go_sem])) (by intro n hn;exact⟨_,List.mem_singleton.2 rfl,by rw[List.mem_singleton.1 hn];rfl⟩) ?_
   rintro r hs bs ⟨rfl,rfl,rfl⟩ _
   refine⟨by simp[qN],?_⟩
   simp(disch:=omega)only[go_sem]
   obtain⟨z,hz⟩:=zH (out++[cy])
   have hc:=zY hog2
   rw[hov2]at hc
   rw[hc]at hz ⊢
   refine qg [(0,460000000)] [.own 1 (qc (out++[cy]))] [] [.rf 0 0 (lim (vl A*2^k).toNat).length] rfl (by simp(disch:=omega)only[go_sem]) (by simp(disch:=omega)only[go_sem]) (by simp) (by intro _;simp[zj,AV.pu,AV.pu.puL,Ob.pu,q7]) (.inr ⟨List.replicate z 0,rfl,by rw[←hz]⟩)
end Go.Ab
namespace Go.Ab
open Go Go.Proofs
theorem aBM(V P:Int)(hP:0<P):V % (P*65536)=V % P+P*(V/P % 65536):=by
 rw[Int.emod_def,Int.emod_def,Int.emod_def,←Int.ediv_ediv_of_nonneg (Int.le_of_lt hP)]
 grind
theorem aBe{s:Nat}(hs:s<16):(65536:Int)=2^s*2^(16-s):=by
 rw[←Int.pow_add,show s+(16-s)=16 by omega];decide
theorem ajD{D:List Int}(hD:gd D){i s:Nat}(hi:i<D.length)(hs:s<16):
  (vl D/2^s)/65536^i % 65536=(D.getD i 0+D.getD (i+1) 0*65536)/2^s % 65536:=by
 have h2:=(yh s hs).1
 rw[Int.ediv_ediv_of_nonneg (Int.le_of_lt h2),Int.mul_comm,←Int.ediv_ediv_of_nonneg (Int.le_of_lt (Int.pow_pos (by omega))),aeG hD (by omega),zA hi]
 have h3:vl (D.drop (i+1))=D.getD (i+1) 0+65536*vl (D.drop (i+2)):=by
  rcases Nat.lt_or_ge (i+1) D.length with h|h
  ·exact zA h
  ·rw[List.drop_of_length_le h,List.drop_of_length_le (by omega),List.getD_eq_getElem?_getD,List.getElem?_eq_none h];simp[vl]
 rw[h3]
 have e:D.getD i 0+65536*(D.getD (i+1) 0+65536*vl (D.drop (i+2)))=(D.getD i 0+D.getD (i+1) 0*65536)+2^s*(65536*(2^(16-s)*vl (D.drop (i+2)))):=by
  have:=aBe hs
  generalize (2:Int)^s=a at*
  generalize (2:Int)^(16-s)=b at*
  grind
 rw[e,Int.add_mul_ediv_left _ _ (by omega),Int.add_mul_emod_self_left]
theorem aoR{a b:Nat}(h:a≤b):(65536:Int)^a≤65536^b:=by
 obtain⟨d,rfl⟩:=Nat.exists_eq_add_of_le h
 have h1:(0:Int)<65536^a:=Int.pow_pos (by omega)
 have h2:(0:Int)<65536^d:=Int.pow_pos (by omega)
 have h3:=Int.mul_le_mul_of_nonneg_left (show(1:Int)≤65536^d by omega) (Int.le_of_lt h1)
 rw[Int.mul_one,←Int.pow_add]at h3
 exact h3
theorem aC9(cl:Bool)(A:List Int)(k:Nat)(hA:gd A)(lA:A.length≤1000000)(hk:k≤100000000):
  Con Tryz.prog 235 cl [.sl A.length (qc A),.v (.int .i64 k)] [] (arv (lim (vl A/2^k).toNat)):=by
 refine Con.of_aw Tryz.func235 rfl Tryz.ntmps235 (by simp) (by simp) (by simp) (W.sound ?_)
 show @W Tryz.prog 52 ⟨_⟩ ⟨fun x σ=>@za _ _ _ ⟨_⟩ _ ⟨_⟩ x σ⟩ _ _
 have hvk:vl A/2^k=vl A/65536^(k/16)/2^(k % 16):=by
  rw[Int.ediv_ediv_of_nonneg (Int.le_of_lt (Int.pow_pos (by omega))),KN]
 simp(disch:=omega)only[go_sem]
 refine qe (fun h0=>?_) (fun h0=>?_)
 ·simp(disch:=omega)only[go_sem,h0]
  have hz:vl A/2^k=0:=by
   rw[hvk,Int.ediv_eq_zero_of_lt (qR hA)]
   ·simp
   ·refine Int.lt_of_lt_of_le (QZ hA) ?_
    exact aoR (by omega)
  rw[hz]
  refine qg [] [] [] [.v (.slice none 0 0)] rfl (by simp(disch:=omega)only[go_sem]) (by simp(disch:=omega)only[go_sem]) (by simp) (by intro _;simp[zj,AV.pu,AV.pu.puL,Ob.pu,q7]) (.inl ⟨by simp[qo],rfl,rfl⟩)
 ·have e16:((k:Int)/16).toNat=k/16:=by omega
  have e17:((A.length:Int)-(k:Int)/16).toNat=(A.drop (k/16)).length:=by simp;omega
  have e18:(A.drop (k/16)).take (A.drop (k/16)).length=A.drop (k/16):=List.take_length
  have hvD:=aeG hA (i:=k/16) (by omega)
  have hlD:(A.drop (k/16)).length≤1000000:=by simp;omega
  have hD:=ym hA (k/16)
  simp(disch:=omega)only[go_sem,h0,e16,e17,e18]
  generalize A.drop (k/16)=D at*
  refine⟨by omega,by omega,?_⟩
  refine qi (fun x:Nat×List Int=>[(1,.v (.int .i64 k)),(5,.sl D.length (qc D)),(6,.rf 1 0 x.2.length),(21,.sl D.length (qc D)),(22,.v (.int .i64 D.length)),(23,.v (.int .i64 x.1))])
   (fun x=>[(1,.own 1 (qc x.2))])
   (fun x=>x.1≤D.length∧x.2.length=x.1∧gd x.2∧vl x.2=vl D/2^(k % 16) % 65536^x.1)
   (fun x=>D.length-x.1) (0,[]) ⟨by simp,rfl,JK,by simp[vl]⟩
   (Le.lst [(1,220000000)] _ _ rfl (by simp(disch:=omega)only[go_sem]) (by simp(disch:=omega)only[go_sem])) ?_
  rintro⟨i,out⟩ ⟨hi,hol,hog,hov⟩
  dsimp only at hi hol hog hov ⊢
  simp(disch:=omega)only[go_sem]
  refine qe (fun h1=>?_) (fun h1=>?_)
  ·have hx:=qK hD i
   have hy:=qK hD (i+1)
   have em:min ((k:Int) % 16).toNat 64=k % 16:=by omega
   have hm:=yh (k % 16) (by omega)
   have efd:∀x:Int,x.fdiv (2^(k % 16))=x/2^(k % 16):=fun x=>Int.fdiv_eq_ediv_of_nonneg _ (Int.le_of_lt hm.1)
   have hdig:=ajD hD (i:=i) (s:=k % 16) (by omega) (by omega)
   have hnn:∀x:Int,0≤x→0≤x/2^(k % 16):=fun x hx=>Int.ediv_nonneg hx (Int.le_of_lt hm.1)
   have ei:((i:Int)+1).toNat=i+1:=by omega
   have hstep:∀z:Int,z=(D.getD i 0+D.getD (i+1) 0*65536)/2^(k % 16) % 65536→vl (out++[z])=vl D/2^(k % 16) % 65536^(i+1):=by
    intro z hz
    rw[jz,hov,hol,Int.pow_succ,aBM _ _ (Int.pow_pos (by omega)),hdig,hz]
   simp(disch:=omega)only[go_sem,h1]
   refine⟨by omega,by omega,qe (fun h2=>?_) (fun h2=>?_)⟩
   ·have hn1:=hnn (D.getD i 0+D.getD (i+1) 0*65536) (by omega)
    simp(disch:=omega)only[go_sem,h2,em,efd,ei]
    refine⟨by omega,by omega,by omega,by omega,qb (i+1,out++[(D.getD i 0+D.getD (i+1) 0*65536)/2^(k % 16) % 65536]) [(1,500000000)] ⟨by show i+1≤_;omega,by simp[hol],qL.2 ⟨hog,jr.2 (by omega)⟩,hstep _ rfl⟩ (by show D.length-(i+1)<D.length-i;omega) rfl (by simp(disch:=omega)only[go_sem,List.length_append];try omega) (by simp(disch:=omega)only[go_sem])⟩
   ·have hn1:=hnn (D.getD i 0) (by omega)
    simp(disch:=omega)only[go_sem,h2,em,efd]
    have hy0:D.getD (i+1) 0=0:=by rw[List.getD_eq_getElem?_getD,List.getElem?_eq_none (by omega)];rfl
    refine⟨by omega,by omega,qb (i+1,out++[D.getD i 0/2^(k % 16) % 65536]) [(1,500000000)] ⟨by show i+1≤_;omega,by simp[hol],qL.2 ⟨hog,jr.2 (by omega)⟩,hstep _ (by rw[hy0];simp)⟩ (by show D.length-(i+1)<D.length-i;omega) rfl (by simp(disch:=omega)only[go_sem,List.length_append];try omega) (by simp(disch:=omega)only[go_sem])⟩
  ·simp(disch:=omega)only[go_sem,h1]
   have hiD:i=D.length:=by omega
   subst hiD
   have hV:vl out=vl A/2^k:=by
    rw[hov,hvk,hvD]
    refine Int.emod_eq_of_lt (Int.ediv_nonneg (qR hD) (Int.le_of_lt (yh (k % 16) (by omega)).1)) ?_
    exact Int.lt_of_le_of_lt (Int.ediv_le_self _ (qR hD)) (QZ hD)
   refine q8 false [1] (jj out (by omega)) (by simp(disch:=omega)only[go_sem]) (by simp(disch:=omega)only[go_sem]) rfl (qS (z:=1) (cs:=qc out) (by simp(disch:=omega)only[go_sem]) (by simp(disch:=omega)only[go_sem])) (by intro n hn;exact⟨_,List.mem_singleton.2 rfl,by rw[List.mem_singleton.1 hn];rfl⟩) ?_
   rintro r hs bs ⟨rfl,rfl,rfl⟩ _
   refine⟨by simp[qN],?_⟩
   simp(disch:=omega)only[go_sem]
   obtain⟨z,hz⟩:=zH out
   have hc:=zY hog
   rw[hV]at hc
   rw[hc]at hz ⊢
   refine qg [(0,1)] [.own 1 (qc out)] [] [.rf 0 0 (lim (vl A/2^k).toNat).length] rfl (by simp(disch:=omega)only[go_sem]) (by simp(disch:=omega)only[go_sem]) (by simp) (by intro _;simp[zj,AV.pu,AV.pu.puL,Ob.pu,q7]) (.inr ⟨List.replicate z 0,rfl,by rw[←hz]⟩)
end Go.Ab
namespace Go.Ab
open Go Go.Proofs
theorem drop_set{l:List Int}{i:Nat}(h:i<l.length)(z:Int):(l.set i z).drop i=z::l.drop (i+1):=by
 rw[List.drop_eq_getElem_cons (by simpa using h)]
 simp[List.drop_set]
theorem aDa(cl:Bool)(A:List Int)(d:Nat)(hA:gd A)(lA:A.length≤1000000)(hd:0<d)(hd2:d<65536):
  Con Tryz.prog 288 cl [.sl A.length (qc A),.v (.int .i64 d)] [] (fun r hs bs=>∃zs,r=.tu [.rf 0 0 (lim (vl A/d).toNat).length,.v (.int .i64 (vl A % d))]∧hs=[.own 1 (qc (lim (vl A/d).toNat++zs))]):=by
 refine Con.of_aw Tryz.func288 rfl Tryz.ntmps288 (by simp) (by simp) (by simp) (W.sound ?_)
 show @W Tryz.prog 38 ⟨_⟩ ⟨fun x σ=>@za _ _ _ ⟨_⟩ _ ⟨_⟩ x σ⟩ _ _
 simp(disch:=omega)only[go_sem]
 refine⟨by omega,?_⟩
 refine qi (fun x:Nat×List Int×Int=>[(0,.sl A.length (qc A)),(1,.v (.int .i64 d)),(6,.rf 130000000 0 A.length),(7,.v (.int .i64 x.2.2)),(8,.v (.int .i64 ((x.1:Int)-1)))])
  (fun x=>[(130000000,.own 1 (qc x.2.1))])
  (fun x=>x.1≤A.length∧x.2.1.length=A.length∧gd x.2.1∧x.2.2=vl (A.drop x.1) % d∧vl (x.2.1.drop x.1)=vl (A.drop x.1)/d)
  (fun x=>x.1) (A.length,List.replicate A.length 0,0) ⟨by simp,by simp,zk _,by simp[vl],by simp[vl]⟩
  (Le.lst [] _ _ rfl (by simp(disch:=omega)only[go_sem];try omega) (by simp(disch:=omega)only[go_sem])) ?_
 rintro⟨m,out,rest⟩ ⟨hm,hol,hog,hr,hov⟩
 dsimp only at hm hol hog hr hov ⊢
 simp(disch:=omega)only[go_sem]
 refine qe (fun h1=>?_) (fun h1=>?_)
 ·obtain⟨i,rfl⟩:∃i,m=i+1:=⟨m-1,by omega⟩
  have e1:((i+1:Nat):Int)-1=(i:Nat):=by omega
  have hx:=qK hA i
  have hr2:0≤rest∧rest<d:=by rw[hr];exact⟨Int.emod_nonneg _ (by omega),Int.emod_lt_of_pos _ (by omega)⟩
  generalize hq:rest*65536+A.getD i 0=q
  have hq0:0≤q:=by omega
  have hqd:0≤q/d∧q/d<65536:=⟨Int.ediv_nonneg hq0 (by omega),Int.ediv_lt_of_lt_mul (by omega) (by omega)⟩
  have hqm:0≤q % d∧q % d<d:=⟨Int.emod_nonneg _ (by omega),Int.emod_lt_of_pos _ (by omega)⟩
  simp(disch:=omega)only[go_sem,h1,e1,hq]
  refine⟨by omega,by omega,by omega,by omega,by omega,by omega,qb (i,out.set i (q/d),q % d) [] ⟨by show i≤_;omega,by simp[hol],yK hog hqd,?_,?_⟩ (by show i<i+1;omega) rfl (by simp(disch:=omega)only[go_sem]) (by simp(disch:=omega)only[go_sem])⟩
  ·show q % d=vl (A.drop i) % d
   rw[zA (l:=A) (i:=i) (by omega),←hq,hr]
   have h3:=Int.emod_add_mul_ediv (vl (A.drop (i+1))) d
   rw[show A.getD i 0+65536*vl (A.drop (i+1))=vl (A.drop (i+1)) % d*65536+A.getD i 0+d*(65536*(vl (A.drop (i+1))/d)) by grind,Int.add_mul_emod_self_left]
  ·show vl ((out.set i (q/d)).drop i)=vl (A.drop i)/d
   rw[drop_set (by omega),vl,hov,zA (l:=A) (i:=i) (by omega),←hq,hr]
   have h3:=Int.emod_add_mul_ediv (vl (A.drop (i+1))) d
   rw[show A.getD i 0+65536*vl (A.drop (i+1))=vl (A.drop (i+1)) % d*65536+A.getD i 0+d*(65536*(vl (A.drop (i+1))/d)) by grind,Int.add_mul_ediv_left _ _ (by omega)]
 ·simp(disch:=omega)only[go_sem,h1]
  have:m=0:=by omega
  subst this
  rw[List.drop_zero,List.drop_zero]at hov
  rw[List.drop_zero]at hr
  rw[←hol]
  refine q8 false [130000000] (jj out (by omega)) (by simp(disch:=omega)only[go_sem]) (by simp(disch:=omega)only[go_sem]) rfl (qS (z:=1) (cs:=qc out) (by simp(disch:=omega)only[go_sem]) (by simp(disch:=omega)only[go_sem])) (by intro n hn;exact⟨_,List.mem_singleton.2 rfl,by rw[List.mem_singleton.1 hn];rfl⟩) ?_
  rintro r hs bs ⟨rfl,rfl,rfl⟩ _
  refine⟨by simp[qN],?_⟩
  simp(disch:=omega)only[go_sem]
  obtain⟨z,hz⟩:=zH out
  have hc:=zY hog
  rw[hov]at hc
  rw[hc]at hz ⊢
  rw[hr]
  refine qg [(0,130000000)] [.own 1 (qc out)] [] [.rf 0 0 (lim (vl A/d).toNat).length,.v (.int .i64 (vl A % d))] rfl (by simp(disch:=omega)only[go_sem]) (by simp(disch:=omega)only[go_sem]) (by simp) (by intro _;simp[zj,AV.pu,AV.pu.puL,Ob.pu,q7]) ⟨List.replicate z 0,rfl,by rw[←hz]⟩
end Go.Ab
namespace Go.Ab
open Go Go.Proofs
theorem aC0(cl:Bool)(A B:List Int)(hA:gd A)(hB:gd B)(lA:A.length≤2000000)(lB:B.length≤2000000):
  Con Tryz.prog 249 cl [.sl A.length (qc A),.sl B.length (qc B)] [] (arv (lim (vl A+vl B).toNat)):=by
 refine Con.of_aw Tryz.func249 rfl Tryz.ntmps249 (by simp) (by simp) (by simp) (W.sound ?_)
 show @W Tryz.prog 53 ⟨_⟩ ⟨fun x σ=>@za _ _ _ ⟨_⟩ _ ⟨_⟩ x σ⟩ _ _
 simp(disch:=omega)only[go_sem]
 refine qe (fun h0=>?_) (fun h0=>?_)
 all_goals simp(disch:=omega)only[go_sem,h0]
 ·revert A B
  intro Y X hY hX lY lX h0'
  have h00:Y.length≤X.length:=by omega
  have hcm:vl Y+vl X=vl X+vl Y:=Int.add_comm _ _
  refine⟨by omega,?_⟩
  refine qi (fun x:Nat×List Int×Int=>[(1,.sl Y.length (qc Y)),(5,.rf 1 0 x.2.1.length),(6,.v (.int .i64 x.2.2)),(20,.sl X.length (qc X)),(21,.v (.int .i64 X.length)),(22,.v (.int .i64 x.1))])
   (fun x=>[(1,.own 1 (qc x.2.1))])
   (fun x=>x.1≤X.length∧x.2.1.length=x.1∧gd x.2.1∧(0≤x.2.2∧x.2.2≤1)∧vl x.2.1+65536^x.1*x.2.2=vl (X.take x.1)+vl (Y.take x.1))
   (fun x=>X.length-x.1) (0,[],0) ⟨by simp,rfl,JK,by simp,by simp[vl]⟩
   (Le.lst [(1,210000000)] _ _ rfl (by simp(disch:=omega)only[go_sem]) (by simp(disch:=omega)only[go_sem])) ?_
  rintro⟨i,out,cy⟩ ⟨hi,hol,hog,hcy,hov⟩
  dsimp only at hi hol hog hcy hov ⊢
  simp(disch:=omega)only[go_sem]
  refine qe (fun h1=>?_) (fun h1=>?_)
  ·have hx:=qK hX i
   have hy:=qK hY i
   have hstep:∀q:Int,q=cy+X.getD i 0+Y.getD i 0→vl (out++[q % 65536])+65536^(i+1)*(q/65536)=vl (X.take (i+1))+vl (Y.take (i+1)):=by
    intro q hq
    rw[jz,q6,q6,hol,Int.pow_succ]
    have e3:q % 65536+65536*(q/65536)=q:=Int.emod_add_mul_ediv q 65536
    generalize (65536:Int)^i=Pi at*
    grind
   have hyz:¬i<Y.length→Y.getD i 0=0:=fun h=>by rw[List.getD_eq_getElem?_getD,List.getElem?_eq_none (by omega)];rfl
   simp(disch:=omega)only[go_sem,h1]
   refine⟨by omega,by omega,qe (fun h2=>?_) (fun h2=>?_)⟩
   ·simp(disch:=omega)only[go_sem,h2]
    generalize hq:cy+X.getD i 0+Y.getD i 0=q
    refine⟨by omega,by omega,by omega,qb (i+1,out++[q % 65536],q/65536) [(1,460000000)] ⟨by show i+1≤_;omega,by simp[hol],qL.2 ⟨hog,jr.2 (by omega)⟩,by show 0≤q/65536∧q/65536≤1;omega,hstep q hq.symm⟩ (by show X.length-(i+1)<X.length-i;omega) rfl (by simp(disch:=omega)only[go_sem,List.length_append];try omega) (by simp(disch:=omega)only[go_sem])⟩
   ·simp(disch:=omega)only[go_sem,h2]
    have hy0:=hyz (by omega)
    generalize hq:cy+X.getD i 0=q
    refine⟨by omega,qb (i+1,out++[q % 65536],q/65536) [(1,460000000)] ⟨by show i+1≤_;omega,by simp[hol],qL.2 ⟨hog,jr.2 (by omega)⟩,by show 0≤q/65536∧q/65536≤1;omega,hstep q (by omega)⟩ (by show X.length-(i+1)<X.length-i;omega) rfl (by simp(disch:=omega)only[go_sem,List.length_append];try omega) (by simp(disch:=omega)only[go_sem])⟩
  ·simp(disch:=omega)only[go_sem,h1]
   have hiA:i=X.length:=by omega
   subst hiA
   rw[List.take_length,List.take_of_length_le h00]at hov
   have hov2:vl (out++[cy])=vl X+vl Y:=by rw[jz,hol];exact hov
   have hog2:gd (out++[cy]):=qL.2 ⟨hog,jr.2 (by omega)⟩
   refine⟨by omega,?_⟩
   have hl2:out.length+1=(out++[cy]).length:=by simp
   rw[hl2]
   refine q8 false [530000000] (jj (out++[cy]) (by simp;omega)) (by simp(disch:=omega)only[go_sem]) (by simp(disch:=omega)only[go_sem]) rfl (qS (z:=1) (cs:=qc (out++[cy])) (by simp(disch:=omega)only[go_sem]) (by simp(disch:=omega)only[go_sem])) (by intro n hn;exact⟨_,List.mem_singleton.2 rfl,by rw[List.mem_singleton.1 hn];rfl⟩) ?_
   rintro r hs bs ⟨rfl,rfl,rfl⟩ _
   refine⟨by simp[qN],?_⟩
   simp(disch:=omega)only[go_sem]
   obtain⟨z,hz⟩:=zH (out++[cy])
   have hc:=zY hog2
   rw[hov2]at hc
   rw[hc]at hz ⊢
   refine qg [(0,530000000)] [.own 1 (qc (out++[cy]))] [] [.rf 0 0 (lim (vl X+vl Y).toNat).length] rfl (by simp(disch:=omega)only[go_sem]) (by simp(disch:=omega)only[go_sem]) (by simp) (by intro _;simp[zj,AV.pu,AV.pu.puL,Ob.pu,q7]) (.inr ⟨List.replicate z 0,by rw[hcm];rfl,by rw[hcm,←hz]⟩)
 ·revert A B
  intro X Y hX hY lX lY h0'
  have h00:Y.length≤X.length:=by omega
  have hcm:vl X+vl Y=vl X+vl Y:=rfl
  refine⟨by omega,?_⟩
  refine qi (fun x:Nat×List Int×Int=>[(1,.sl Y.length (qc Y)),(5,.rf 1 0 x.2.1.length),(6,.v (.int .i64 x.2.2)),(20,.sl X.length (qc X)),(21,.v (.int .i64 X.length)),(22,.v (.int .i64 x.1))])
   (fun x=>[(1,.own 1 (qc x.2.1))])
   (fun x=>x.1≤X.length∧x.2.1.length=x.1∧gd x.2.1∧(0≤x.2.2∧x.2.2≤1)∧vl x.2.1+65536^x.1*x.2.2=vl (X.take x.1)+vl (Y.take x.1))
   (fun x=>X.length-x.1) (0,[],0) ⟨by simp,rfl,JK,by simp,by simp[vl]⟩
   (Le.lst [(1,210000000)] _ _ rfl (by simp(disch:=omega)only[go_sem]) (by simp(disch:=omega)only[go_sem])) ?_
  rintro⟨i,out,cy⟩ ⟨hi,hol,hog,hcy,hov⟩
  dsimp only at hi hol hog hcy hov ⊢
  simp(disch:=omega)only[go_sem]
  refine qe (fun h1=>?_) (fun h1=>?_)
  ·have hx:=qK hX i
   have hy:=qK hY i
   have hstep:∀q:Int,q=cy+X.getD i 0+Y.getD i 0→vl (out++[q % 65536])+65536^(i+1)*(q/65536)=vl (X.take (i+1))+vl (Y.take (i+1)):=by
    intro q hq
    rw[jz,q6,q6,hol,Int.pow_succ]
    have e3:q % 65536+65536*(q/65536)=q:=Int.emod_add_mul_ediv q 65536
    generalize (65536:Int)^i=Pi at*
    grind
   have hyz:¬i<Y.length→Y.getD i 0=0:=fun h=>by rw[List.getD_eq_getElem?_getD,List.getElem?_eq_none (by omega)];rfl
   simp(disch:=omega)only[go_sem,h1]
   refine⟨by omega,by omega,qe (fun h2=>?_) (fun h2=>?_)⟩
   ·simp(disch:=omega)only[go_sem,h2]
    generalize hq:cy+X.getD i 0+Y.getD i 0=q
    refine⟨by omega,by omega,by omega,qb (i+1,out++[q % 65536],q/65536) [(1,460000000)] ⟨by show i+1≤_;omega,by simp[hol],qL.2 ⟨hog,jr.2 (by omega)⟩,by show 0≤q/65536∧q/65536≤1;omega,hstep q hq.symm⟩ (by show X.length-(i+1)<X.length-i;omega) rfl (by simp(disch:=omega)only[go_sem,List.length_append];try omega) (by simp(disch:=omega)only[go_sem])⟩
   ·simp(disch:=omega)only[go_sem,h2]
    have hy0:=hyz (by omega)
    generalize hq:cy+X.getD i 0=q
    refine⟨by omega,qb (i+1,out++[q % 65536],q/65536) [(1,460000000)] ⟨by show i+1≤_;omega,by simp[hol],qL.2 ⟨hog,jr.2 (by omega)⟩,by show 0≤q/65536∧q/65536≤1;omega,hstep q (by omega)⟩ (by show X.length-(i+1)<X.length-i;omega) rfl (by simp(disch:=omega)only[go_sem,List.length_append];try omega) (by simp(disch:=omega)only[go_sem])⟩
  ·simp(disch:=omega)only[go_sem,h1]
   have hiA:i=X.length:=by omega
   subst hiA
   rw[List.take_length,List.take_of_length_le h00]at hov
   have hov2:vl (out++[cy])=vl X+vl Y:=by rw[jz,hol];exact hov
   have hog2:gd (out++[cy]):=qL.2 ⟨hog,jr.2 (by omega)⟩
   refine⟨by omega,?_⟩
   have hl2:out.length+1=(out++[cy]).length:=by simp
   rw[hl2]
   refine q8 false [530000000] (jj (out++[cy]) (by simp;omega)) (by simp(disch:=omega)only[go_sem]) (by simp(disch:=omega)only[go_sem]) rfl (qS (z:=1) (cs:=qc (out++[cy])) (by simp(disch:=omega)only[go_sem]) (by simp(disch:=omega)only[go_sem])) (by intro n hn;exact⟨_,List.mem_singleton.2 rfl,by rw[List.mem_singleton.1 hn];rfl⟩) ?_
   rintro r hs bs ⟨rfl,rfl,rfl⟩ _
   refine⟨by simp[qN],?_⟩
   simp(disch:=omega)only[go_sem]
   obtain⟨z,hz⟩:=zH (out++[cy])
   have hc:=zY hog2
   rw[hov2]at hc
   rw[hc]at hz ⊢
   refine qg [(0,530000000)] [.own 1 (qc (out++[cy]))] [] [.rf 0 0 (lim (vl X+vl Y).toNat).length] rfl (by simp(disch:=omega)only[go_sem]) (by simp(disch:=omega)only[go_sem]) (by simp) (by intro _;simp[zj,AV.pu,AV.pu.puL,Ob.pu,q7]) (.inr ⟨List.replicate z 0,by rw[hcm];rfl,by rw[hcm,←hz]⟩)
end Go.Ab
namespace Go.Ab
open Go Go.Proofs
theorem aaA(cl:Bool)(xs:List Int)(hl:xs.length≤2^39):Con Tryz.prog 272 cl [.sl xs.length (qc xs)] [] (arv xs):=by
 refine Con.of_aw Tryz.func272 rfl Tryz.ntmps272 (by simp) (by simp) (by simp) (W.sound ?_)
 show @W Tryz.prog 8 ⟨_⟩ ⟨fun x σ=>@za _ _ _ ⟨_⟩ _ ⟨_⟩ x σ⟩ _ _
 simp(disch:=omega)only[go_sem]
 refine⟨fun h0=>?_,?_⟩
 ·have:xs=[]:=by cases xs with|nil=>rfl|cons a r=>cases h0
  subst this
  refine qg [] [] [] [.v (.slice none 0 0)] rfl (by simp(disch:=omega)only[go_sem]) (by simp(disch:=omega)only[go_sem]) (by simp) (by intro _;simp[zj,AV.pu]) (.inl ⟨rfl,rfl,rfl⟩)
 ·refine⟨by omega,?_⟩
  refine qg [(0,90000000)] [.own 1 (qc xs)] [] [.rf 0 0 xs.length] rfl (by simp(disch:=omega)only[go_sem]) (by simp(disch:=omega)only[go_sem]) (by simp) (by intro _;simp[zj,AV.pu,Ob.pu,q7]) (.inr ⟨[],rfl,by rw[List.append_nil]⟩)
end Go.Ab
namespace Go.Ab
open Go Go.Proofs
theorem aas(x:Int):Con Tryz.prog 292 true [.v (.int .i64 x)] [] (isA (.v (.bool false))):=by
 refine Con.of_w (rs:=[.tmp 2]) Tryz.func292 rfl Tryz.ntmps292 rfl ?_
 simp(disch:=omega)only[go_sem]
 exact qx
theorem aqJ(x y:Int):Con Tryz.prog 277 true [.v (.int .i64 x),.v (.int .i64 y)] [] (isA (.v (.int .i64 (zK x y)))):=by
 refine Con.of_w (rs:=[.tmp 4]) Tryz.func277 rfl Tryz.ntmps277 rfl ?_
 simp(disch:=omega)only[go_sem]
 refine qm (aas x) ?_
 simp(disch:=omega)only[go_sem]
 refine qm (aas y) ?_
 simp(disch:=omega)only[go_sem]
 refine qe (fun h1=>?_) (fun h1=>?_)
 ·simp(disch:=omega)only[go_sem,h1]
  rw[show zK x y= -1 by simp[zK,h1]]
  exact qx
 ·simp(disch:=omega)only[go_sem,h1]
  refine qe (fun h2=>?_) (fun h2=>?_)
  ·simp(disch:=omega)only[go_sem,h2]
   rw[show zK x y=1 by simp[zK,h1,h2]]
   exact qx
  ·simp(disch:=omega)only[go_sem,h2]
   rw[show zK x y=0 by simp[zK,h1,h2]]
   exact qx
theorem zU(a b:Nat)(la:(lim a).length≤2^40)(lb:(lim b).length≤2^40):
  Con Tryz.prog 248 true [.sl (lim (a)).length (qc (lim (a))),.sl (lim (b)).length (qc (lim (b)))] [] (isA (.v (.int .i64 (zK a b)))):=by
 refine Con.of_w (rs:=[.tmp 4]) Tryz.func248 rfl Tryz.ntmps248 rfl ?_
 simp(disch:=omega)only[go_sem]
 refine zB (fun h1=>?_) (fun h1=>?_)
 ·simp(disch:=omega)only[go_sem,h1]
  refine qm (aqJ (lim a).length (lim b).length) ?_
  simp(disch:=omega)only[go_sem]
  have:zK ((lim a).length:Int) ((lim b).length:Int)=zK a b:=by
   unfold zK
   rcases(by omega:(lim a).length<(lim b).length∨(lim b).length<(lim a).length)with h|h
   ·have:=Qb h
    rw[if_pos (by omega),if_pos (by omega)]
   ·have:=Qb h
    rw[if_neg (by omega),if_pos (by omega),if_neg (by omega),if_pos (by omega)]
  rw[this]
  exact qx
 ·simp(disch:=omega)only[go_sem,h1]
  have hl:(lim a).length=(lim b).length:=by omega
  refine qi (fun k:Nat=>[(0,.sl (lim (a)).length (qc (lim (a)))),(1,.sl (lim (b)).length (qc (lim (b)))),(5,.v (.int .i64 ((k:Int)-1)))])
   (fun _=>[]) (fun k=>k≤(lim a).length∧(lim a).drop k=(lim b).drop k) (fun k=>k) (lim a).length ⟨Nat.le_refl _,by rw[List.drop_length,hl,List.drop_length]⟩ (Le.lst [] _ _ rfl (by simp(disch:=omega)only[go_sem];try omega) (by simp(disch:=omega)only[go_sem])) ?_
  rintro k ⟨hk,hd⟩
  simp(disch:=omega)only[go_sem]
  refine qe (fun h2=>?_) (fun h2=>?_)
  ·obtain⟨i,rfl⟩:∃i,k=i+1:=⟨k-1,by omega⟩
   have ei:((i+1:Nat):Int)-1=(i:Nat):=by omega
   simp(disch:=omega)only[go_sem,h2,ei]
   refine qs rfl [⟨0,[],[]⟩,⟨1,[],[]⟩,⟨2,[],[]⟩,⟨3,[],[]⟩,⟨4,[3],[]⟩,⟨5,[3],[]⟩,⟨6,[3],[]⟩,⟨7,[3],[]⟩,⟨8,[],[]⟩] (by kernel_rfl) ?_
   simp(disch:=omega)only[go_sem,ei]
   refine⟨by omega,by omega,by omega,by omega,?_⟩
   refine zB (fun h3=>?_) (fun h3=>?_)
   ·simp(disch:=omega)only[go_sem,h3]
    refine qs rfl [⟨0,[],[]⟩,⟨1,[],[]⟩,⟨2,[],[]⟩,⟨3,[],[]⟩,⟨4,[3],[]⟩,⟨5,[3],[]⟩,⟨6,[3],[]⟩,⟨7,[3],[]⟩,⟨8,[],[]⟩,⟨9,[],[]⟩] (by kernel_rfl) ?_
    simp(disch:=omega)only[go_sem,ei]
    refine⟨by omega,by omega,by omega,by omega,?_⟩
    refine qm (aqJ ((lim a).getD i 0) ((lim b).getD i 0)) ?_
    simp(disch:=omega)only[go_sem]
    have hva:=ze a
    have hvb:=ze b
    have:zK ((lim a).getD i 0) ((lim b).getD i 0)=zK a b:=by
     unfold zK
     rcases(by omega:(lim a).getD i 0<(lim b).getD i 0∨(lim b).getD i 0<(lim a).getD i 0)with h|h
     ·have:=Q8 (zf a) (zf b) (by omega) hl hd h
      rw[if_pos (by omega),if_pos (by omega)]
     ·have:=Q8 (zf b) (zf a) (by omega) hl.symm hd.symm h
      rw[if_neg (by omega),if_pos (by omega),if_neg (by omega),if_pos (by omega)]
    rw[this]
    exact qx
   ·simp(disch:=omega)only[go_sem,h3]
    refine qb i [] ⟨by omega,?_⟩ (by show i<i+1;omega) rfl (by simp(disch:=omega)only[go_sem];try omega) (by simp(disch:=omega)only[go_sem])
    rw[yr (l:=lim a) (by omega),yr (l:=lim b) (by omega),h3,hd]
  ·simp(disch:=omega)only[go_sem,h2]
   have:k=0:=by omega
   subst this
   rw[List.drop_zero,List.drop_zero]at hd
   have:=yk hd
   subst this
   rw[show zK (a:Int) (a:Int)=0 by simp[zK]]
   exact qx
end Go.Ab
namespace Go.Proofs
open Go.Shelf
def Tryz.lays29_ren:Go.Shelf.Ren:=⟨fun|29=>287|n=>n,fun|0=>0|3=>3|4=>4|5=>5|22=>254|25=>216|54=>262|n=>n,fun|1=>1|n=>n⟩
theorem Tryz.lays29:Go.Proofs.Lays7.n29 Tryz.prog Tryz.lays29_ren:={
 mixed:=by kernel_rfl
 f29:=Tryz.func287.trans (congrArg some (by kernel_rfl))
 t0:=Tryz.underlying0
 a0:=Tryz.isAgg0
 z0:=Tryz.sizeOf0
 v0:=Tryz.zeroValue0
 i0:=by kernel_rfl
 t3:=Tryz.underlying3
 a3:=Tryz.isAgg3
 z3:=Tryz.sizeOf3
 v3:=Tryz.zeroValue3
 i3:=by kernel_rfl
 t4:=Tryz.underlying4
 a4:=Tryz.isAgg4
 z4:=Tryz.sizeOf4
 v4:=Tryz.zeroValue4
 i4:=by kernel_rfl
 t5:=Tryz.underlying5
 a5:=Tryz.isAgg5
 z5:=Tryz.sizeOf5
 v5:=Tryz.zeroValue5
 i5:=by kernel_rfl
 t22:=Tryz.underlying254
 a22:=Tryz.isAgg254
 z22:=Tryz.sizeOf254
 v22:=Tryz.zeroValue254
 i22:=by kernel_rfl
 t25:=Tryz.underlying216
 a25:=Tryz.isAgg216
 z25:=Tryz.sizeOf216
 v25:=Tryz.zeroValue216
 i25:=by kernel_rfl
 t54:=Tryz.underlying262
 a54:=Tryz.isAgg262
 z54:=Tryz.sizeOf262
 g1:=by kernel_rfl}
def Tryz.lays129_ren:Go.Shelf.Ren:=⟨fun|129=>295|n=>n,fun|53=>254|46=>216|3=>3|4=>4|5=>5|9=>9|n=>n,fun|n=>n⟩
theorem Tryz.lays129:Go.Proofs.Lays.n129 Tryz.prog Tryz.lays129_ren:={
 mixed:=by kernel_rfl
 f129:=Tryz.func295.trans (congrArg some (by kernel_rfl))
 t3:=Tryz.underlying3
 a3:=Tryz.isAgg3
 z3:=Tryz.sizeOf3
 v3:=Tryz.zeroValue3
 t4:=Tryz.underlying4
 a4:=Tryz.isAgg4
 z4:=Tryz.sizeOf4
 v4:=Tryz.zeroValue4
 t5:=Tryz.underlying5
 a5:=Tryz.isAgg5
 z5:=Tryz.sizeOf5
 v5:=Tryz.zeroValue5
 t9:=Tryz.underlying9
 a9:=Tryz.isAgg9
 z9:=Tryz.sizeOf9
 v9:=Tryz.zeroValue9
 t46:=Tryz.underlying216
 a46:=Tryz.isAgg216
 z46:=Tryz.sizeOf216
 v46:=Tryz.zeroValue216
 t53:=Tryz.underlying254
 a53:=Tryz.isAgg254
 z53:=Tryz.sizeOf254
 v53:=Tryz.zeroValue254}
end Go.Proofs
namespace Go.Ab
open Go Go.Proofs
theorem aS3(x:Nat)(h0:x≠0)(h:x<2^64):Lib.ctz 64 x=tz x:=by
 unfold Lib.ctz
 rw[if_neg h0]
 obtain⟨m,hm,_⟩:=Lib.ctzFrom_spec 64 x (by omega) h
 exact(Qq hm).symm
theorem aq4(x:Nat)(h:x<2^64):Lib.bitLen x=bl x:=by
 induction x using Nat.strongRecOn with
 |_ x ih=>
  by_cases h0:x=0
  ·subst h0;rfl
  ·rw[Lib.bitLen_half x h0 h,ih (x/2) (by omega) (by omega),aTu h0,Nat.add_comm]
theorem aCZ(x:Nat)(h0:x≠0)(h:x<2^64):Con Tryz.prog 287 true [.v (.int .u64 x)] [] (isA (.v (.int .i64 (tz x)))):=
 Con.scalar (xs:=[.int .u64 x]) fun w hg=>by
  rw[←aS3 x h0 h]
  exact Any7.bits_TrailingZeros64 Tryz.lays29 x h w fun _ j hj=>(hg 1 Lib.deBruijn64tab rfl).2 j hj
theorem aqr(x:Nat)(h:x<2^64):Con Tryz.prog 295 true [.v (.int .u64 x)] [] (isA (.v (.int .i64 (bl x)))):=
 Con.scalar (xs:=[.int .u64 x]) fun w hg=>by
  rw[←aq4 x h]
  exact Any.bits_Len64 Tryz.lays129 x w (by omega) (by omega)
theorem aTa(x:Nat)(h0:x≠0)(h:x<2^64):Con Tryz.prog 271 true [.v (.int .u64 x)] [] (isA (.v (.int .i64 (tz x)))):=by
 refine Con.of_w (rs:=[.tmp 2]) Tryz.func271 rfl Tryz.ntmps271 rfl ?_
 simp(disch:=omega)only[go_sem]
 refine qm (aCZ x h0 h) ?_
 simp(disch:=omega)only[go_sem]
 exact qx
theorem aqs(x:Nat)(h:x<2^64):Con Tryz.prog 283 true [.v (.int .u64 x)] [] (isA (.v (.int .i64 (bl x)))):=by
 refine Con.of_w (rs:=[.tmp 2]) Tryz.func283 rfl Tryz.ntmps283 rfl ?_
 simp(disch:=omega)only[go_sem]
 refine qm (aqr x h) ?_
 simp(disch:=omega)only[go_sem]
 exact qx
theorem akk{x:Int}(h1:0≤x)(h2:x<9223372036854775808):IntKind.u64.wrap x=x:=by
 simp only[IntKind.wrap,IntKind.signed,IntKind.bits]
 simp only[Bool.false_and,Bool.false_eq_true,if_false]
 omega
theorem ajW(m:Nat)(hl:(lim m).length≤2^40):Con Tryz.prog 267 true [.sl (lim (m)).length (qc (lim (m)))] [] (isA (.v (.int .i64 (bl m)))):=by
 refine Con.of_w (rs:=[.tmp 2]) Tryz.func267 rfl Tryz.ntmps267 rfl ?_
 simp(disch:=omega)only[go_sem]
 refine qe (fun h1=>?_) (fun h1=>?_)
 ·simp(disch:=omega)only[go_sem,h1]
  have:m=0:=qI.1 (List.length_eq_zero_iff.1 (by omega))
  subst this
  rw[Je]
  exact qx
 ·have hm:m≠0:=fun e=>by rw[e,qo]at h1;simp at h1
  have e1:((lim m).length:Int).toNat-1=(lim m).length-1:=by omega
  have e2:(((lim m).length:Int)-1).toNat=(lim m).length-1:=by omega
  have ht:=Yu hm
  have hb:=aFb hm
  simp(disch:=omega)only[go_sem,h1,e2,zR]
  generalize m/65536^((lim m).length-1)=q at*
  have e3:((q % 65536:Nat):Int)=(q:Int):=by omega
  simp(disch:=omega)only[go_sem,e3,akk]
  refine⟨by omega,by omega,?_⟩
  refine qm (aqs q (by omega)) ?_
  simp(disch:=omega)only[go_sem]
  have hq:bl q≤16:=zE.2 (by omega)
  have e4:(16:Int)*(((lim m).length:Int)-1)+(bl q:Int)=(bl m:Int):=by omega
  simp(disch:=omega)only[go_sem,e4]
  exact qx
theorem aFk{m i:Nat}(hz:∀j,j<i→(lim m).getD j 0=0)(hx:(lim m).getD i 0≠0):tz m=16*i+tz (m/65536^i % 65536):=by
 rw[zR]at hx
 have hx':m/65536^i % 65536≠0:=fun e=>hx (by rw[e];rfl)
 obtain⟨a,ha⟩:=J7 hx'
 have hlow:65536^i*(m/65536^i)=m:=by
  have key:∀k,k≤i→m % 65536^k=0:=by
   intro k
   induction k with
   |zero=>intro _;simp[Nat.mod_one]
   |succ k ih=>
    intro hk
    have h1:=ih (by omega)
    have h2:=hz k (by omega)
    rw[zR]at h2
    have h3:m/65536^k % 65536=0:=by omega
    rw[Nat.pow_succ,Nat.mod_mul,h1,h3];omega
  have:=Nat.div_add_mod m (65536^i)
  rw[key i (Nat.le_refl _)]at this
  omega
 generalize hq:m/65536^i=q at*
 have ht:tz (q % 65536)<16:=by
  have h1:=yv hx'
  have:bl (q % 65536)≤16:=zE.2 (by omega)
  omega
 generalize hk:tz (q % 65536)=k at*
 have e16:(65536:Nat)=2^k*(2*2^(15-k)):=by rw[Nat.mul_left_comm,←Nat.pow_add,show k+(15-k)=15 by omega]
 refine Qq (a:=a+2^(15-k)*(q/65536)) ?_
 have hd:=Nat.div_add_mod q 65536
 rw[←hlow,Nat.pow_add,←ZF]
 have h5:q=2^k*(2*(a+2^(15-k)*(q/65536))+1):=by
  have:q=2^k*(2*2^(15-k))*(q/65536)+2^k*(2*a+1):=by rw[←e16,←ha];omega
  generalize q/65536=y at*
  generalize 2^(15-k)=z at*
  grind
 generalize q/65536=y at*
 rw[Nat.mul_assoc,←h5]
theorem ad5(m:Nat)(hl:(lim m).length≤2^40):Con Tryz.prog 234 true [.sl (lim (m)).length (qc (lim (m)))] [] (isA (.v (.int .i64 (tz m)))):=by
 refine Con.of_w (rs:=[.tmp 2]) Tryz.func234 rfl Tryz.ntmps234 rfl ?_
 simp(disch:=omega)only[go_sem]
 refine qi (fun i:Nat=>[(0,.sl (lim (m)).length (qc (lim (m)))),(5,.sl (lim (m)).length (qc (lim (m)))),(6,.v (.int .i64 (lim m).length)),(7,.v (.int .i64 i))])
  (fun _=>[]) (fun i=>i≤(lim m).length∧∀j,j<i→(lim m).getD j 0=0) (fun i=>(lim m).length-i) 0 ⟨by omega,fun j hj=>by omega⟩ (Le.lst [] _ _ rfl (by simp(disch:=omega)only[go_sem];try omega) (by simp(disch:=omega)only[go_sem])) ?_
 rintro i ⟨hi,hz⟩
 simp(disch:=omega)only[go_sem]
 refine qe (fun h1=>?_) (fun h1=>?_)
 ·simp(disch:=omega)only[go_sem,h1]
  refine⟨by omega,by omega,zB (fun h2=>?_) (fun h2=>?_)⟩
  ·have ht:=aFk hz h2
   have hx:m/65536^i % 65536≠0:=fun e=>h2 (by rw[zR,e];rfl)
   have ht16:tz (m/65536^i % 65536)<16:=by
    have h1:=yv hx
    have:bl (m/65536^i % 65536)≤16:=zE.2 (by omega)
    omega
   simp(disch:=omega)only[go_sem,h2,zR]
   generalize hq:m/65536^i % 65536=q at*
   have hq6:q<65536:=by omega
   simp(disch:=omega)only[go_sem,akk]
   refine qm (aTa q hx (by omega)) ?_
   simp(disch:=omega)only[go_sem]
   have e4:(16:Int)*(i:Int)+(tz q:Int)=(tz m:Int):=by omega
   simp(disch:=omega)only[go_sem,e4]
   exact qx
  ·simp(disch:=omega)only[go_sem,h2]
   refine qb (i+1) [] ⟨by omega,fun j hj=>?_⟩ (by show(lim m).length-(i+1)<(lim m).length-i;omega) rfl (by simp(disch:=omega)only[go_sem];try omega) (by simp(disch:=omega)only[go_sem])
   rcases(by omega:j<i∨j=i)with h|h
   ·exact hz j h
   ·subst h;exact h2
 ·simp(disch:=omega)only[go_sem,h1]
  have hm:m=0:=by
   have:=ze m
   have h3:lim m=List.replicate (lim m).length 0:=by
    apply List.ext_getElem
    ·simp
    ·intro j h1 h2
     have:=hz j (by omega)
     rw[List.getD_eq_getElem?_getD,List.getElem?_eq_getElem h1]at this
     simpa using this
   rw[h3,zL]at this
   omega
  subst hm
  rw[ako]
  exact qx
theorem aaB(m:Nat)(i:Int)(hl:(lim m).length≤2^40)(hi:0≤i)(hi2:i<2^62):Con Tryz.prog 175 true [.sl (lim (m)).length (qc (lim (m))),.v (.int .i64 i)] [] (isA (.v (.int .i64 ((m/2^i.toNat % 2:Nat):Int)))):=by
 refine Con.of_w (rs:=[.tmp 4]) Tryz.func175 rfl Tryz.ntmps175 rfl ?_
 obtain⟨k,rfl⟩:=Int.eq_ofNat_of_zero_le hi
 rw[Int.toNat_natCast]
 have h0:¬((k:Int)<0):=by omega
 have e16:((k:Int)/16).toNat=k/16:=by omega
 have em:min ((k:Int) % 16).toNat 64=k % 16:=by omega
 have hb:=aq3 m k
 simp(disch:=omega)only[go_sem,h0]
 refine qe (fun h1=>?_) (fun h1=>?_)
 ·simp(disch:=omega)only[go_sem,h1]
  have:m/2^k % 2=0:=by
   rw[←hb]
   have h2:=zR m (k/16)
   rw[List.getD_eq_getElem?_getD,List.getElem?_eq_none (by omega)]at h2
   have h3:m/65536^(k/16) % 65536=0:=by simp only[Option.getD_none]at h2;omega
   rw[h3];simp
  rw[this]
  exact qx
 ·have hx:=qK (zf m) (k/16)
  have hp:(0:Int)<2^(k % 16):=Int.pow_pos (by omega)
  have efd:∀x:Int,x.fdiv (2^(k % 16))=x/2^(k % 16):=fun x=>Int.fdiv_eq_ediv_of_nonneg _ (Int.le_of_lt hp)
  have hq:0≤(lim m).getD (k/16) 0/2^(k % 16)∧(lim m).getD (k/16) 0/2^(k % 16)<65536:=by
   refine⟨Int.ediv_nonneg hx.1 (Int.le_of_lt hp),Int.lt_of_le_of_lt (Int.ediv_le_self _ hx.1) hx.2⟩
  have hr:(lim m).getD (k/16) 0/2^(k % 16) % 2=((m/2^k % 2:Nat):Int):=by
   rw[←hb,zR]
   generalize m/65536^(k/16) % 65536=x
   rw[Int.natCast_emod,Int.natCast_ediv,Int.natCast_pow];rfl
  simp(disch:=omega)only[go_sem,h1,e16,em,efd,hr]
  refine⟨by omega,by omega,by omega,?_⟩
  exact qx
end Go.Ab
namespace Go.Ab
open Go Go.Proofs
theorem aaR(a k:Nat):(vl (lim a)*2^k).toNat=a*2^k:=by
 rw[ze]
 have:((a:Int)*2^k)=((a*2^k:Nat):Int):=by rw[Int.natCast_mul,Int.natCast_pow];rfl
 rw[this,Int.toNat_natCast]
theorem aaS(a k:Nat):(vl (lim a)/2^k).toNat=a/2^k:=by
 rw[ze]
 have:((a:Int)/2^k)=((a/2^k:Nat):Int):=by rw[Int.natCast_ediv,Int.natCast_pow];rfl
 rw[this,Int.toNat_natCast]
theorem aFo(a b:Nat):(vl (lim a)*vl (lim b)).toNat=a*b:=by rw[ze,ze,←Int.natCast_mul,Int.toNat_natCast]
theorem aFp(a b:Nat):(vl (lim a)+vl (lim b)).toNat=a+b:=by rw[ze,ze];omega
theorem aFn(a b:Nat):(vl (lim a)-vl (lim b)).toNat=a-b:=by rw[ze,ze];omega
theorem zy(n:Nat)(hn:n<2^63):Con Tryz.prog 216 false [.v (.int .i64 n)] [] (aJ0 (lim n)):=(aqh false n hn).num
theorem aqc(cl:Bool)(a k:Nat)(la:(lim a).length≤1000000)(hk:k≤100000000):Con Tryz.prog 244 cl [.sl (lim (a)).length (qc (lim (a))),.v (.int .i64 k)] [] (arv (lim (a*2^k))):=by
 have:=aS9 cl (lim a) k (zf a) la hk
 rwa[aaR]at this
theorem zP(a k:Nat)(la:(lim a).length≤1000000)(hk:k≤100000000):Con Tryz.prog 244 false [.sl (lim (a)).length (qc (lim (a))),.v (.int .i64 k)] [] (aJ0 (lim (a*2^k))):=(aqc false a k la hk).num
theorem aax(cl:Bool)(a k:Nat)(la:(lim a).length≤1000000)(hk:k≤100000000):Con Tryz.prog 235 cl [.sl (lim (a)).length (qc (lim (a))),.v (.int .i64 k)] [] (arv (lim (a/2^k))):=by
 have:=aC9 cl (lim a) k (zf a) la hk
 rwa[aaS]at this
theorem aqH(a k:Nat)(la:(lim a).length≤1000000)(hk:k≤100000000):Con Tryz.prog 235 false [.sl (lim (a)).length (qc (lim (a))),.v (.int .i64 k)] [] (aJ0 (lim (a/2^k))):=(aax false a k la hk).num
theorem JN(a b:Nat)(la:(lim a).length≤1000000)(lb:(lim b).length≤1000000):Con Tryz.prog 201 false [.sl (lim (a)).length (qc (lim (a))),.sl (lim (b)).length (qc (lim (b)))] [] (aJ0 (lim (a*b))):=by
 have:=(aqd false (lim a) (lim b) (zf a) (zf b) la lb).num
 rwa[aFo]at this
theorem aal(a b:Nat)(la:(lim a).length≤2000000)(lb:(lim b).length≤2000000):Con Tryz.prog 249 false [.sl (lim (a)).length (qc (lim (a))),.sl (lim (b)).length (qc (lim (b)))] [] (aJ0 (lim (a+b))):=by
 have:=(aC0 false (lim a) (lim b) (zf a) (zf b) la lb).num
 rwa[aFp]at this
theorem aqI(a d:Nat)(la:(lim a).length≤1000000)(hd:0<d)(hd2:d<65536):
  Con Tryz.prog 288 false [.sl (lim (a)).length (qc (lim (a))),.v (.int .i64 d)] [] (isA (.tu [.sl (lim (a/d)).length (qc (lim (a/d))),.v (.int .i64 ((a % d:Nat):Int))])):=
 Con.frzA <| (aDa false (lim a) d (zf a) la hd hd2).mono fun r hs bs ⟨zs,h1,h2⟩=>by
  rw[ze]at h1 h2
  rw[h1,h2]
  have e:((a:Int)/(d:Int)).toNat=a/d:=by
   rw[←Int.natCast_ediv,Int.toNat_natCast]
  rw[e]
  show qF _ 6 _=_
  unfold qF
  simp only[List.map_cons,List.map_nil]
  rw[jR (k:=3) (l:=lim (a/d)) (zs:=zs) q9 rfl]
  rw[Int.natCast_emod];rfl
end Go.Ab
