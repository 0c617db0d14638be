/- What the proof of this claim stands on: the walks of the functions and the plain laws, part 3. -/
import Derived.Test.YtcobffkepgogiaaGreatDoorFnIvDivsLib2
import Derived.Test.YtcobffkepgogiaaGreatDoorProg
import Derived.KernelRfl
import Derived.Shelf.Spec.TrailingZeros
import Derived.Shelf.Small.Bits
import Derived.Shelf.Strconv.Itoa0
set_option linter.unusedVariables false
set_option linter.unusedSimpArgs false
namespace Go.Ab
open Go Go.Proofs
def ti1:TI:=⟨Kd.oth,1,8,Value.nilFunc⟩
theorem tf1:qn Tryz.prog 1=some ti1:=by kernel_rfl
def ti2:TI:=⟨Kd.int IntKind.i64,1,8,Value.int IntKind.i64 0⟩
theorem tf2:qn Tryz.prog 2=some ti2:=by kernel_rfl
def ti3:TI:=⟨Kd.int IntKind.i64,1,8,Value.int IntKind.i64 0⟩
theorem tf3:qn Tryz.prog 3=some ti3:=by kernel_rfl
def ti4:TI:=⟨Kd.bool,1,1,Value.bool false⟩
theorem tf4:qn Tryz.prog 4=some ti4:=by kernel_rfl
def ti5:TI:=⟨Kd.int IntKind.u8,1,1,Value.int IntKind.u8 0⟩
theorem tf5:qn Tryz.prog 5=some ti5:=by kernel_rfl
def ti6:TI:=⟨Kd.int IntKind.u8,1,1,Value.int IntKind.u8 0⟩
theorem tf6:qn Tryz.prog 6=some ti6:=by kernel_rfl
def ti7:TI:=⟨Kd.stru [(0,2),(1,3),(2,4),(3,6)],4,24,Value.agg ⟨[Value.int IntKind.i64 0,Value.int IntKind.i64 0,Value.bool false,Value.int IntKind.u8 0]⟩⟩
theorem tf7:qn Tryz.prog 7=some ti7:=by kernel_rfl
def ti8:TI:=⟨Kd.stru [(0,2),(1,3),(2,4),(3,6)],4,24,Value.agg ⟨[Value.int IntKind.i64 0,Value.int IntKind.i64 0,Value.bool false,Value.int IntKind.u8 0]⟩⟩
theorem tf8:qn Tryz.prog 8=some ti8:=by kernel_rfl
def ti9:TI:=⟨Kd.str,1,16,Value.string {data:=⟨[]⟩}⟩
theorem tf9:qn Tryz.prog 9=some ti9:=by kernel_rfl
def aEx:TI:=⟨Kd.str,1,16,Value.string {data:=⟨[]⟩}⟩
theorem bdL:qn Tryz.prog 10=some aEx:=by kernel_rfl
def aEw:TI:=⟨Kd.str,1,16,Value.string {data:=⟨[]⟩}⟩
theorem bdK:qn Tryz.prog 11=some aEw:=by kernel_rfl
def aEv:TI:=⟨Kd.int IntKind.u64,1,8,Value.int IntKind.u64 0⟩
theorem bdJ:qn Tryz.prog 12=some aEv:=by kernel_rfl
def aEu:TI:=⟨Kd.int IntKind.i32,1,4,Value.int IntKind.i32 0⟩
theorem bdI:qn Tryz.prog 21=some aEu:=by kernel_rfl
def aeL:TI:=⟨Kd.sli 5,1,24,Value.slice none 0 0⟩
theorem aEA:qn Tryz.prog 22=some aeL:=by kernel_rfl
def aeK:TI:=⟨Kd.sli 40,1,24,Value.slice none 0 0⟩
theorem aEz:qn Tryz.prog 23=some aeK:=by kernel_rfl
def amf:TI:=⟨Kd.stru [(0,3),(1,23)],2,32,Value.agg ⟨[Value.int IntKind.i64 0,Value.slice none 0 0]⟩⟩
theorem aT1:qn Tryz.prog 24=some amf:=by kernel_rfl
def al5:TI:=⟨Kd.stru [(0,3),(1,23)],2,32,Value.agg ⟨[Value.int IntKind.i64 0,Value.slice none 0 0]⟩⟩
theorem aT0:qn Tryz.prog 25=some al5:=by kernel_rfl
def aEt:TI:=⟨Kd.oth,1,8,Value.nilFunc⟩
theorem bdH:qn Tryz.prog 27=some aEt:=by kernel_rfl
def aEs:TI:=⟨Kd.oth,1,8,Value.nilFunc⟩
theorem bdG:qn Tryz.prog 29=some aEs:=by kernel_rfl
def aEr:TI:=⟨Kd.oth,1,8,Value.nilFunc⟩
theorem bdF:qn Tryz.prog 30=some aEr:=by kernel_rfl
def aEq:TI:=⟨Kd.oth,1,8,Value.nilFunc⟩
theorem bdE:qn Tryz.prog 31=some aEq:=by kernel_rfl
def aEp:TI:=⟨Kd.oth,1,8,Value.nilFunc⟩
theorem bdD:qn Tryz.prog 32=some aEp:=by kernel_rfl
def aEo:TI:=⟨Kd.oth,1,8,Value.nilFunc⟩
theorem bdC:qn Tryz.prog 33=some aEo:=by kernel_rfl
def JJ:TI:=⟨Kd.sli 3,1,24,Value.slice none 0 0⟩
theorem aeM:qn Tryz.prog 34=some JJ:=by kernel_rfl
def arw:TI:=⟨Kd.stru [(0,34)],1,24,Value.agg ⟨[Value.slice none 0 0]⟩⟩
theorem aWB:qn Tryz.prog 35=some arw:=by kernel_rfl
def aaY:TI:=⟨Kd.stru [(0,34)],1,24,Value.agg ⟨[Value.slice none 0 0]⟩⟩
theorem aAG:qn Tryz.prog 36=some aaY:=by kernel_rfl
def alx:TI:=⟨Kd.stru [(0,4),(1,36)],2,32,Value.agg ⟨[Value.bool false,Value.slice none 0 0]⟩⟩
theorem aTZ:qn Tryz.prog 37=some alx:=by kernel_rfl
def Xq:TI:=⟨Kd.stru [(0,4),(1,36)],2,32,Value.agg ⟨[Value.bool false,Value.slice none 0 0]⟩⟩
theorem arx:qn Tryz.prog 38=some Xq:=by kernel_rfl
def alu:TI:=⟨Kd.stru [(0,38),(2,3)],3,40,Value.agg ⟨[Value.bool false,Value.slice none 0 0,Value.int IntKind.i64 0]⟩⟩
theorem aTY:qn Tryz.prog 39=some alu:=by kernel_rfl
def Zh:TI:=⟨Kd.stru [(0,38),(2,3)],3,40,Value.agg ⟨[Value.bool false,Value.slice none 0 0,Value.int IntKind.i64 0]⟩⟩
theorem KR:qn Tryz.prog 40=some Zh:=by kernel_rfl
def aEn:TI:=⟨Kd.oth,1,8,Value.nilFunc⟩
theorem bdB:qn Tryz.prog 41=some aEn:=by kernel_rfl
def aEm:TI:=⟨Kd.oth,1,8,Value.nilFunc⟩
theorem bdA:qn Tryz.prog 42=some aEm:=by kernel_rfl
def aEl:TI:=⟨Kd.oth,1,8,Value.nilFunc⟩
theorem bdz:qn Tryz.prog 44=some aEl:=by kernel_rfl
def aEk:TI:=⟨Kd.oth,1,8,Value.nilFunc⟩
theorem bdy:qn Tryz.prog 46=some aEk:=by kernel_rfl
def aEj:TI:=⟨Kd.oth,1,8,Value.nilFunc⟩
theorem bdx:qn Tryz.prog 47=some aEj:=by kernel_rfl
def aEi:TI:=⟨Kd.oth,1,8,Value.nilFunc⟩
theorem bdw:qn Tryz.prog 48=some aEi:=by kernel_rfl
def aEh:TI:=⟨Kd.oth,1,8,Value.nilFunc⟩
theorem bdv:qn Tryz.prog 49=some aEh:=by kernel_rfl
def alh:TI:=⟨Kd.stru [(0,40),(3,40)],6,80,Value.agg ⟨[Value.bool false,Value.slice none 0 0,Value.int IntKind.i64 0,Value.bool false,Value.slice none 0 0,Value.int IntKind.i64 0]⟩⟩
theorem aTX:qn Tryz.prog 50=some alh:=by kernel_rfl
def akj:TI:=⟨Kd.stru [(0,40),(3,40)],6,80,Value.agg ⟨[Value.bool false,Value.slice none 0 0,Value.int IntKind.i64 0,Value.bool false,Value.slice none 0 0,Value.int IntKind.i64 0]⟩⟩
theorem aNG:qn Tryz.prog 51=some akj:=by kernel_rfl
def aEg:TI:=⟨Kd.oth,1,8,Value.nilFunc⟩
theorem bdu:qn Tryz.prog 53=some aEg:=by kernel_rfl
def aEf:TI:=⟨Kd.oth,1,8,Value.nilFunc⟩
theorem bdt:qn Tryz.prog 55=some aEf:=by kernel_rfl
def aEe:TI:=⟨Kd.oth,1,8,Value.nilFunc⟩
theorem bds:qn Tryz.prog 56=some aEe:=by kernel_rfl
def aEd:TI:=⟨Kd.oth,1,8,Value.nilFunc⟩
theorem bdr:qn Tryz.prog 57=some aEd:=by kernel_rfl
def aEc:TI:=⟨Kd.oth,1,8,Value.nilFunc⟩
theorem bdq:qn Tryz.prog 58=some aEc:=by kernel_rfl
def aEb:TI:=⟨Kd.oth,1,8,Value.nilFunc⟩
theorem bdp:qn Tryz.prog 60=some aEb:=by kernel_rfl
def aEa:TI:=⟨Kd.oth,1,8,Value.nilFunc⟩
theorem bdo:qn Tryz.prog 61=some aEa:=by kernel_rfl
def aD9:TI:=⟨Kd.oth,1,8,Value.nilFunc⟩
theorem bdn:qn Tryz.prog 62=some aD9:=by kernel_rfl
def aD8:TI:=⟨Kd.oth,1,8,Value.nilFunc⟩
theorem bdm:qn Tryz.prog 63=some aD8:=by kernel_rfl
def aD7:TI:=⟨Kd.oth,1,8,Value.nilFunc⟩
theorem bdl:qn Tryz.prog 64=some aD7:=by kernel_rfl
def aD6:TI:=⟨Kd.oth,1,8,Value.nilFunc⟩
theorem bdk:qn Tryz.prog 65=some aD6:=by kernel_rfl
def aD5:TI:=⟨Kd.oth,1,8,Value.nilFunc⟩
theorem bdj:qn Tryz.prog 66=some aD5:=by kernel_rfl
def aD4:TI:=⟨Kd.oth,1,8,Value.nilFunc⟩
theorem bdi:qn Tryz.prog 68=some aD4:=by kernel_rfl
def aeJ:TI:=⟨Kd.sli 51,1,24,Value.slice none 0 0⟩
theorem aEy:qn Tryz.prog 69=some aeJ:=by kernel_rfl
def aD3:TI:=⟨Kd.oth,1,8,Value.nilFunc⟩
theorem bdh:qn Tryz.prog 71=some aD3:=by kernel_rfl
def aD2:TI:=⟨Kd.oth,1,8,Value.nilFunc⟩
theorem bdg:qn Tryz.prog 73=some aD2:=by kernel_rfl
def aD1:TI:=⟨Kd.oth,1,8,Value.nilFunc⟩
theorem bdf:qn Tryz.prog 74=some aD1:=by kernel_rfl
def aD0:TI:=⟨Kd.oth,1,8,Value.nilFunc⟩
theorem bde:qn Tryz.prog 75=some aD0:=by kernel_rfl
def aDZ:TI:=⟨Kd.oth,1,8,Value.nilFunc⟩
theorem bdd:qn Tryz.prog 77=some aDZ:=by kernel_rfl
def aDY:TI:=⟨Kd.oth,1,8,Value.nilFunc⟩
theorem bdc:qn Tryz.prog 79=some aDY:=by kernel_rfl
def aDX:TI:=⟨Kd.oth,1,8,Value.nilFunc⟩
theorem bdb:qn Tryz.prog 80=some aDX:=by kernel_rfl
def akQ:TI:=⟨Kd.stru [(0,3),(1,69)],2,32,Value.agg ⟨[Value.int IntKind.i64 0,Value.slice none 0 0]⟩⟩
theorem aTW:qn Tryz.prog 81=some akQ:=by kernel_rfl
def akO:TI:=⟨Kd.stru [(0,3),(1,69)],2,32,Value.agg ⟨[Value.int IntKind.i64 0,Value.slice none 0 0]⟩⟩
theorem aTV:qn Tryz.prog 82=some akO:=by kernel_rfl
def aDW:TI:=⟨Kd.oth,1,8,Value.nilFunc⟩
theorem bda:qn Tryz.prog 84=some aDW:=by kernel_rfl
def aDV:TI:=⟨Kd.oth,1,8,Value.nilFunc⟩
theorem bc9:qn Tryz.prog 86=some aDV:=by kernel_rfl
def aDU:TI:=⟨Kd.oth,1,8,Value.nilFunc⟩
theorem bc8:qn Tryz.prog 87=some aDU:=by kernel_rfl
def aDT:TI:=⟨Kd.oth,1,8,Value.nilFunc⟩
theorem bc7:qn Tryz.prog 88=some aDT:=by kernel_rfl
def aDS:TI:=⟨Kd.oth,1,8,Value.nilFunc⟩
theorem bc6:qn Tryz.prog 89=some aDS:=by kernel_rfl
def aDR:TI:=⟨Kd.oth,1,8,Value.nilFunc⟩
theorem bc5:qn Tryz.prog 91=some aDR:=by kernel_rfl
def aDQ:TI:=⟨Kd.oth,1,8,Value.nilFunc⟩
theorem bc4:qn Tryz.prog 92=some aDQ:=by kernel_rfl
def aDP:TI:=⟨Kd.oth,1,8,Value.nilFunc⟩
theorem bc3:qn Tryz.prog 93=some aDP:=by kernel_rfl
def aDO:TI:=⟨Kd.oth,1,8,Value.nilFunc⟩
theorem bc2:qn Tryz.prog 94=some aDO:=by kernel_rfl
def aDN:TI:=⟨Kd.oth,1,8,Value.nilFunc⟩
theorem bc1:qn Tryz.prog 96=some aDN:=by kernel_rfl
def aDM:TI:=⟨Kd.oth,1,8,Value.nilFunc⟩
theorem bc0:qn Tryz.prog 97=some aDM:=by kernel_rfl
def aDL:TI:=⟨Kd.oth,1,8,Value.nilFunc⟩
theorem bcZ:qn Tryz.prog 98=some aDL:=by kernel_rfl
def aDK:TI:=⟨Kd.oth,1,8,Value.nilFunc⟩
theorem bcY:qn Tryz.prog 99=some aDK:=by kernel_rfl
def KO:TI:=⟨Kd.oth,1,8,Value.nilFunc⟩
theorem aYU:qn Tryz.prog 100=some KO:=by kernel_rfl
def KN:TI:=⟨Kd.oth,1,8,Value.nilFunc⟩
theorem aYT:qn Tryz.prog 101=some KN:=by kernel_rfl
def KM:TI:=⟨Kd.oth,1,8,Value.nilFunc⟩
theorem aYS:qn Tryz.prog 102=some KM:=by kernel_rfl
def KL:TI:=⟨Kd.oth,1,8,Value.nilFunc⟩
theorem aYR:qn Tryz.prog 103=some KL:=by kernel_rfl
def KK:TI:=⟨Kd.oth,1,8,Value.nilFunc⟩
theorem aYQ:qn Tryz.prog 105=some KK:=by kernel_rfl
def KJ:TI:=⟨Kd.oth,1,8,Value.nilFunc⟩
theorem aYP:qn Tryz.prog 106=some KJ:=by kernel_rfl
def KI:TI:=⟨Kd.oth,1,8,Value.nilFunc⟩
theorem aYO:qn Tryz.prog 107=some KI:=by kernel_rfl
def KH:TI:=⟨Kd.oth,1,8,Value.nilFunc⟩
theorem aYN:qn Tryz.prog 108=some KH:=by kernel_rfl
def KG:TI:=⟨Kd.oth,1,8,Value.nilFunc⟩
theorem aYM:qn Tryz.prog 109=some KG:=by kernel_rfl
def KF:TI:=⟨Kd.oth,1,8,Value.nilFunc⟩
theorem aYL:qn Tryz.prog 110=some KF:=by kernel_rfl
def yR:TI:=⟨Kd.sli 118,1,24,Value.slice none 0 0⟩
theorem Yp:qn Tryz.prog 111=some yR:=by kernel_rfl
def Zw:TI:=⟨Kd.stru [(0,3),(1,111)],2,32,Value.agg ⟨[Value.int IntKind.i64 0,Value.slice none 0 0]⟩⟩
theorem aAL:qn Tryz.prog 112=some Zw:=by kernel_rfl
def Zv:TI:=⟨Kd.stru [(0,3),(1,111)],2,32,Value.agg ⟨[Value.int IntKind.i64 0,Value.slice none 0 0]⟩⟩
theorem aAK:qn Tryz.prog 113=some Zv:=by kernel_rfl
def KE:TI:=⟨Kd.oth,1,8,Value.nilFunc⟩
theorem aYK:qn Tryz.prog 114=some KE:=by kernel_rfl
def KD:TI:=⟨Kd.oth,1,8,Value.nilFunc⟩
theorem aYJ:qn Tryz.prog 115=some KD:=by kernel_rfl
def KC:TI:=⟨Kd.oth,1,8,Value.nilFunc⟩
theorem aYI:qn Tryz.prog 116=some KC:=by kernel_rfl
def Q6:TI:=⟨Kd.stru [(0,4),(1,34),(2,3)],3,40,Value.agg ⟨[Value.bool false,Value.slice none 0 0,Value.int IntKind.i64 0]⟩⟩
theorem aoz:qn Tryz.prog 117=some Q6:=by kernel_rfl
def je:TI:=⟨Kd.stru [(0,4),(1,34),(2,3)],3,40,Value.agg ⟨[Value.bool false,Value.slice none 0 0,Value.int IntKind.i64 0]⟩⟩
theorem yb:qn Tryz.prog 118=some je:=by kernel_rfl
def KB:TI:=⟨Kd.oth,1,8,Value.nilFunc⟩
theorem aYH:qn Tryz.prog 119=some KB:=by kernel_rfl
def KA:TI:=⟨Kd.oth,1,8,Value.nilFunc⟩
theorem aYG:qn Tryz.prog 120=some KA:=by kernel_rfl
def Kw:TI:=⟨Kd.oth,1,8,Value.nilFunc⟩
theorem aYF:qn Tryz.prog 121=some Kw:=by kernel_rfl
def Kv:TI:=⟨Kd.oth,1,8,Value.nilFunc⟩
theorem aYE:qn Tryz.prog 122=some Kv:=by kernel_rfl
def Ku:TI:=⟨Kd.oth,1,8,Value.nilFunc⟩
theorem aYD:qn Tryz.prog 123=some Ku:=by kernel_rfl
def Kt:TI:=⟨Kd.oth,1,8,Value.nilFunc⟩
theorem aYC:qn Tryz.prog 124=some Kt:=by kernel_rfl
def Ks:TI:=⟨Kd.oth,1,8,Value.nilFunc⟩
theorem aYB:qn Tryz.prog 125=some Ks:=by kernel_rfl
def Kr:TI:=⟨Kd.oth,1,8,Value.nilFunc⟩
theorem aYA:qn Tryz.prog 126=some Kr:=by kernel_rfl
def Kq:TI:=⟨Kd.oth,1,8,Value.nilFunc⟩
theorem aYz:qn Tryz.prog 127=some Kq:=by kernel_rfl
def Kp:TI:=⟨Kd.oth,1,8,Value.nilFunc⟩
theorem aYy:qn Tryz.prog 128=some Kp:=by kernel_rfl
def Ko:TI:=⟨Kd.oth,1,8,Value.nilFunc⟩
theorem aYx:qn Tryz.prog 129=some Ko:=by kernel_rfl
def Kn:TI:=⟨Kd.oth,1,8,Value.nilFunc⟩
theorem aYw:qn Tryz.prog 130=some Kn:=by kernel_rfl
def Km:TI:=⟨Kd.oth,1,8,Value.nilFunc⟩
theorem aYv:qn Tryz.prog 131=some Km:=by kernel_rfl
def Zu:TI:=⟨Kd.stru [(0,118),(3,118)],6,80,Value.agg ⟨[Value.bool false,Value.slice none 0 0,Value.int IntKind.i64 0,Value.bool false,Value.slice none 0 0,Value.int IntKind.i64 0]⟩⟩
theorem aAJ:qn Tryz.prog 132=some Zu:=by kernel_rfl
def Q5:TI:=⟨Kd.stru [(0,118),(3,118)],6,80,Value.agg ⟨[Value.bool false,Value.slice none 0 0,Value.int IntKind.i64 0,Value.bool false,Value.slice none 0 0,Value.int IntKind.i64 0]⟩⟩
theorem aoy:qn Tryz.prog 133=some Q5:=by kernel_rfl
def Kl:TI:=⟨Kd.oth,1,8,Value.nilFunc⟩
theorem aYu:qn Tryz.prog 134=some Kl:=by kernel_rfl
def Kk:TI:=⟨Kd.oth,1,8,Value.nilFunc⟩
theorem aYt:qn Tryz.prog 135=some Kk:=by kernel_rfl
def Kj:TI:=⟨Kd.oth,1,8,Value.nilFunc⟩
theorem aYs:qn Tryz.prog 136=some Kj:=by kernel_rfl
def Ki:TI:=⟨Kd.oth,1,8,Value.nilFunc⟩
theorem aYr:qn Tryz.prog 137=some Ki:=by kernel_rfl
def Kh:TI:=⟨Kd.oth,1,8,Value.nilFunc⟩
theorem aYq:qn Tryz.prog 138=some Kh:=by kernel_rfl
def Kg:TI:=⟨Kd.oth,1,8,Value.nilFunc⟩
theorem aYp:qn Tryz.prog 139=some Kg:=by kernel_rfl
def Kf:TI:=⟨Kd.oth,1,8,Value.nilFunc⟩
theorem aYo:qn Tryz.prog 140=some Kf:=by kernel_rfl
def Ke:TI:=⟨Kd.oth,1,8,Value.nilFunc⟩
theorem aYn:qn Tryz.prog 142=some Ke:=by kernel_rfl
def Kc:TI:=⟨Kd.oth,1,8,Value.nilFunc⟩
theorem aYm:qn Tryz.prog 143=some Kc:=by kernel_rfl
def Kb:TI:=⟨Kd.oth,1,8,Value.nilFunc⟩
theorem aYl:qn Tryz.prog 144=some Kb:=by kernel_rfl
def Ka:TI:=⟨Kd.oth,1,8,Value.nilFunc⟩
theorem aYk:qn Tryz.prog 145=some Ka:=by kernel_rfl
def V9:TI:=⟨Kd.oth,1,8,Value.nilFunc⟩
theorem aYj:qn Tryz.prog 146=some V9:=by kernel_rfl
def V8:TI:=⟨Kd.oth,1,8,Value.nilFunc⟩
theorem aYi:qn Tryz.prog 147=some V8:=by kernel_rfl
def V7:TI:=⟨Kd.oth,1,8,Value.nilFunc⟩
theorem aYh:qn Tryz.prog 148=some V7:=by kernel_rfl
def V6:TI:=⟨Kd.oth,1,8,Value.nilFunc⟩
theorem aYg:qn Tryz.prog 149=some V6:=by kernel_rfl
def V5:TI:=⟨Kd.oth,1,8,Value.nilFunc⟩
theorem aYf:qn Tryz.prog 151=some V5:=by kernel_rfl
def V4:TI:=⟨Kd.oth,1,8,Value.nilFunc⟩
theorem aYe:qn Tryz.prog 152=some V4:=by kernel_rfl
def y5:TI:=⟨Kd.sli 133,1,24,Value.slice none 0 0⟩
theorem KS:qn Tryz.prog 153=some y5:=by kernel_rfl
def Zt:TI:=⟨Kd.stru [(0,3),(1,153)],2,32,Value.agg ⟨[Value.int IntKind.i64 0,Value.slice none 0 0]⟩⟩
theorem aAI:qn Tryz.prog 154=some Zt:=by kernel_rfl
def Zs:TI:=⟨Kd.stru [(0,3),(1,153)],2,32,Value.agg ⟨[Value.int IntKind.i64 0,Value.slice none 0 0]⟩⟩
theorem aAH:qn Tryz.prog 155=some Zs:=by kernel_rfl
def V3:TI:=⟨Kd.oth,1,8,Value.nilFunc⟩
theorem aYd:qn Tryz.prog 156=some V3:=by kernel_rfl
def V2:TI:=⟨Kd.oth,1,8,Value.nilFunc⟩
theorem aYc:qn Tryz.prog 157=some V2:=by kernel_rfl
def V1:TI:=⟨Kd.oth,1,8,Value.nilFunc⟩
theorem aYb:qn Tryz.prog 158=some V1:=by kernel_rfl
def V0:TI:=⟨Kd.oth,1,8,Value.nilFunc⟩
theorem aYa:qn Tryz.prog 159=some V0:=by kernel_rfl
def VZ:TI:=⟨Kd.oth,1,8,Value.nilFunc⟩
theorem aX9:qn Tryz.prog 160=some VZ:=by kernel_rfl
def VY:TI:=⟨Kd.oth,1,8,Value.nilFunc⟩
theorem aX8:qn Tryz.prog 161=some VY:=by kernel_rfl
def VX:TI:=⟨Kd.oth,1,8,Value.nilFunc⟩
theorem aX7:qn Tryz.prog 163=some VX:=by kernel_rfl
def VW:TI:=⟨Kd.oth,1,8,Value.nilFunc⟩
theorem aX6:qn Tryz.prog 164=some VW:=by kernel_rfl
def VV:TI:=⟨Kd.oth,1,8,Value.nilFunc⟩
theorem aX5:qn Tryz.prog 165=some VV:=by kernel_rfl
def VU:TI:=⟨Kd.oth,1,8,Value.nilFunc⟩
theorem aX4:qn Tryz.prog 166=some VU:=by kernel_rfl
def VT:TI:=⟨Kd.oth,1,8,Value.nilFunc⟩
theorem aX3:qn Tryz.prog 167=some VT:=by kernel_rfl
def VS:TI:=⟨Kd.oth,1,8,Value.nilFunc⟩
theorem aX2:qn Tryz.prog 168=some VS:=by kernel_rfl
def VR:TI:=⟨Kd.oth,1,8,Value.nilFunc⟩
theorem aX1:qn Tryz.prog 169=some VR:=by kernel_rfl
def VQ:TI:=⟨Kd.oth,1,8,Value.nilFunc⟩
theorem aX0:qn Tryz.prog 170=some VQ:=by kernel_rfl
def VP:TI:=⟨Kd.oth,1,8,Value.nilFunc⟩
theorem aXZ:qn Tryz.prog 171=some VP:=by kernel_rfl
def VO:TI:=⟨Kd.oth,1,8,Value.nilFunc⟩
theorem aXY:qn Tryz.prog 173=some VO:=by kernel_rfl
def Q4:TI:=⟨Kd.stru [(0,22),(1,3),(2,3)],3,40,Value.agg ⟨[Value.slice none 0 0,Value.int IntKind.i64 0,Value.int IntKind.i64 0]⟩⟩
theorem aox:qn Tryz.prog 174=some Q4:=by kernel_rfl
def Q3:TI:=⟨Kd.stru [(0,22),(1,3),(2,3)],3,40,Value.agg ⟨[Value.slice none 0 0,Value.int IntKind.i64 0,Value.int IntKind.i64 0]⟩⟩
theorem aow:qn Tryz.prog 175=some Q3:=by kernel_rfl
def VN:TI:=⟨Kd.oth,1,8,Value.nilFunc⟩
theorem aXX:qn Tryz.prog 176=some VN:=by kernel_rfl
def VM:TI:=⟨Kd.oth,1,8,Value.nilFunc⟩
theorem aXW:qn Tryz.prog 177=some VM:=by kernel_rfl
def VL:TI:=⟨Kd.oth,1,8,Value.nilFunc⟩
theorem aXV:qn Tryz.prog 178=some VL:=by kernel_rfl
def VK:TI:=⟨Kd.oth,1,8,Value.nilFunc⟩
theorem aXU:qn Tryz.prog 179=some VK:=by kernel_rfl
def VJ:TI:=⟨Kd.oth,1,8,Value.nilFunc⟩
theorem aXT:qn Tryz.prog 180=some VJ:=by kernel_rfl
def VI:TI:=⟨Kd.oth,1,8,Value.nilFunc⟩
theorem aXS:qn Tryz.prog 182=some VI:=by kernel_rfl
def VH:TI:=⟨Kd.oth,1,8,Value.nilFunc⟩
theorem aXR:qn Tryz.prog 183=some VH:=by kernel_rfl
def VG:TI:=⟨Kd.oth,1,8,Value.nilFunc⟩
theorem aXQ:qn Tryz.prog 184=some VG:=by kernel_rfl
def VF:TI:=⟨Kd.oth,1,8,Value.nilFunc⟩
theorem aXP:qn Tryz.prog 185=some VF:=by kernel_rfl
def VE:TI:=⟨Kd.oth,1,8,Value.nilFunc⟩
theorem aXO:qn Tryz.prog 186=some VE:=by kernel_rfl
def VD:TI:=⟨Kd.oth,1,8,Value.nilFunc⟩
theorem aXN:qn Tryz.prog 187=some VD:=by kernel_rfl
def VC:TI:=⟨Kd.oth,1,8,Value.nilFunc⟩
theorem aXM:qn Tryz.prog 188=some VC:=by kernel_rfl
def VB:TI:=⟨Kd.oth,1,8,Value.nilFunc⟩
theorem aXL:qn Tryz.prog 189=some VB:=by kernel_rfl
def VA:TI:=⟨Kd.oth,1,8,Value.nilFunc⟩
theorem aXK:qn Tryz.prog 190=some VA:=by kernel_rfl
def Vz:TI:=⟨Kd.oth,1,8,Value.nilFunc⟩
theorem aXJ:qn Tryz.prog 191=some Vz:=by kernel_rfl
def Vy:TI:=⟨Kd.oth,1,8,Value.nilFunc⟩
theorem aXI:qn Tryz.prog 192=some Vy:=by kernel_rfl
def Vx:TI:=⟨Kd.oth,1,8,Value.nilFunc⟩
theorem aXH:qn Tryz.prog 194=some Vx:=by kernel_rfl
def Vw:TI:=⟨Kd.sli 111,1,24,Value.slice none 0 0⟩
theorem aNH:qn Tryz.prog 195=some Vw:=by kernel_rfl
def Vv:TI:=⟨Kd.oth,1,8,Value.nilFunc⟩
theorem aXG:qn Tryz.prog 196=some Vv:=by kernel_rfl
def Vu:TI:=⟨Kd.oth,1,8,Value.nilFunc⟩
theorem aXF:qn Tryz.prog 197=some Vu:=by kernel_rfl
def Vt:TI:=⟨Kd.oth,1,8,Value.nilFunc⟩
theorem aXE:qn Tryz.prog 198=some Vt:=by kernel_rfl
def Vs:TI:=⟨Kd.oth,1,8,Value.nilFunc⟩
theorem aXD:qn Tryz.prog 199=some Vs:=by kernel_rfl
def Vr:TI:=⟨Kd.oth,1,8,Value.nilFunc⟩
theorem aXC:qn Tryz.prog 201=some Vr:=by kernel_rfl
def Vq:TI:=⟨Kd.oth,1,8,Value.nilFunc⟩
theorem aXB:qn Tryz.prog 203=some Vq:=by kernel_rfl
def Vp:TI:=⟨Kd.oth,1,8,Value.nilFunc⟩
theorem aXA:qn Tryz.prog 204=some Vp:=by kernel_rfl
def Vo:TI:=⟨Kd.oth,1,8,Value.nilFunc⟩
theorem aXz:qn Tryz.prog 205=some Vo:=by kernel_rfl
def Vn:TI:=⟨Kd.oth,1,8,Value.nilFunc⟩
theorem aXy:qn Tryz.prog 207=some Vn:=by kernel_rfl
def Vm:TI:=⟨Kd.oth,1,8,Value.nilFunc⟩
theorem aXx:qn Tryz.prog 208=some Vm:=by kernel_rfl
def Vl:TI:=⟨Kd.oth,1,8,Value.nilFunc⟩
theorem aXw:qn Tryz.prog 209=some Vl:=by kernel_rfl
def Vk:TI:=⟨Kd.oth,1,8,Value.nilFunc⟩
theorem aXv:qn Tryz.prog 210=some Vk:=by kernel_rfl
def Vj:TI:=⟨Kd.oth,1,8,Value.nilFunc⟩
theorem aXu:qn Tryz.prog 211=some Vj:=by kernel_rfl
def Vi:TI:=⟨Kd.oth,1,8,Value.nilFunc⟩
theorem aXt:qn Tryz.prog 212=some Vi:=by kernel_rfl
def Vh:TI:=⟨Kd.oth,1,8,Value.nilFunc⟩
theorem aXs:qn Tryz.prog 213=some Vh:=by kernel_rfl
def Vg:TI:=⟨Kd.oth,1,8,Value.nilFunc⟩
theorem aXr:qn Tryz.prog 214=some Vg:=by kernel_rfl
def Vf:TI:=⟨Kd.oth,1,8,Value.nilFunc⟩
theorem aXq:qn Tryz.prog 215=some Vf:=by kernel_rfl
def Ve:TI:=⟨Kd.int IntKind.u64,1,8,Value.int IntKind.u64 0⟩
theorem aXp:qn Tryz.prog 216=some Ve:=by kernel_rfl
def Vd:TI:=⟨Kd.oth,1,8,Value.nilFunc⟩
theorem aXo:qn Tryz.prog 217=some Vd:=by kernel_rfl
def Vc:TI:=⟨Kd.oth,1,8,Value.nilFunc⟩
theorem aXn:qn Tryz.prog 218=some Vc:=by kernel_rfl
def Vb:TI:=⟨Kd.oth,1,8,Value.nilFunc⟩
theorem aXm:qn Tryz.prog 219=some Vb:=by kernel_rfl
def Va:TI:=⟨Kd.oth,1,8,Value.nilFunc⟩
theorem aXl:qn Tryz.prog 220=some Va:=by kernel_rfl
def X9:TI:=⟨Kd.oth,1,8,Value.nilFunc⟩
theorem aXk:qn Tryz.prog 221=some X9:=by kernel_rfl
def X8:TI:=⟨Kd.oth,1,8,Value.nilFunc⟩
theorem aXj:qn Tryz.prog 222=some X8:=by kernel_rfl
def X7:TI:=⟨Kd.oth,1,8,Value.nilFunc⟩
theorem aXi:qn Tryz.prog 224=some X7:=by kernel_rfl
def X6:TI:=⟨Kd.oth,1,8,Value.nilFunc⟩
theorem aXh:qn Tryz.prog 225=some X6:=by kernel_rfl
def X5:TI:=⟨Kd.oth,1,8,Value.nilFunc⟩
theorem aXg:qn Tryz.prog 226=some X5:=by kernel_rfl
def X4:TI:=⟨Kd.oth,1,8,Value.nilFunc⟩
theorem aXf:qn Tryz.prog 227=some X4:=by kernel_rfl
def X3:TI:=⟨Kd.oth,1,8,Value.nilFunc⟩
theorem aXe:qn Tryz.prog 228=some X3:=by kernel_rfl
def X2:TI:=⟨Kd.oth,1,8,Value.nilFunc⟩
theorem aXd:qn Tryz.prog 229=some X2:=by kernel_rfl
def X1:TI:=⟨Kd.oth,1,8,Value.nilFunc⟩
theorem aXc:qn Tryz.prog 230=some X1:=by kernel_rfl
def X0:TI:=⟨Kd.oth,1,8,Value.nilFunc⟩
theorem aXb:qn Tryz.prog 231=some X0:=by kernel_rfl
def XZ:TI:=⟨Kd.oth,1,8,Value.nilFunc⟩
theorem aXa:qn Tryz.prog 232=some XZ:=by kernel_rfl
def XY:TI:=⟨Kd.oth,1,8,Value.nilFunc⟩
theorem aW9:qn Tryz.prog 233=some XY:=by kernel_rfl
def XX:TI:=⟨Kd.oth,1,8,Value.nilFunc⟩
theorem aW8:qn Tryz.prog 234=some XX:=by kernel_rfl
def XW:TI:=⟨Kd.oth,1,8,Value.nilFunc⟩
theorem aW7:qn Tryz.prog 235=some XW:=by kernel_rfl
def XV:TI:=⟨Kd.oth,1,8,Value.nilFunc⟩
theorem aW6:qn Tryz.prog 236=some XV:=by kernel_rfl
def XU:TI:=⟨Kd.oth,1,8,Value.nilFunc⟩
theorem aW5:qn Tryz.prog 237=some XU:=by kernel_rfl
def XT:TI:=⟨Kd.oth,1,8,Value.nilFunc⟩
theorem aW4:qn Tryz.prog 238=some XT:=by kernel_rfl
def XS:TI:=⟨Kd.oth,1,8,Value.nilFunc⟩
theorem aW3:qn Tryz.prog 239=some XS:=by kernel_rfl
def XR:TI:=⟨Kd.oth,1,8,Value.nilFunc⟩
theorem aW2:qn Tryz.prog 240=some XR:=by kernel_rfl
def XQ:TI:=⟨Kd.oth,1,8,Value.nilFunc⟩
theorem aW1:qn Tryz.prog 241=some XQ:=by kernel_rfl
def XP:TI:=⟨Kd.oth,1,8,Value.nilFunc⟩
theorem aW0:qn Tryz.prog 242=some XP:=by kernel_rfl
def XO:TI:=⟨Kd.oth,1,8,Value.nilFunc⟩
theorem aWZ:qn Tryz.prog 243=some XO:=by kernel_rfl
def XN:TI:=⟨Kd.oth,1,8,Value.nilFunc⟩
theorem aWY:qn Tryz.prog 245=some XN:=by kernel_rfl
def XM:TI:=⟨Kd.oth,1,8,Value.nilFunc⟩
theorem aWX:qn Tryz.prog 246=some XM:=by kernel_rfl
def XL:TI:=⟨Kd.oth,1,8,Value.nilFunc⟩
theorem aWW:qn Tryz.prog 247=some XL:=by kernel_rfl
def XK:TI:=⟨Kd.oth,1,8,Value.nilFunc⟩
theorem aWV:qn Tryz.prog 249=some XK:=by kernel_rfl
def XJ:TI:=⟨Kd.oth,1,8,Value.nilFunc⟩
theorem aWU:qn Tryz.prog 250=some XJ:=by kernel_rfl
def XI:TI:=⟨Kd.oth,1,8,Value.nilFunc⟩
theorem aWT:qn Tryz.prog 251=some XI:=by kernel_rfl
def XH:TI:=⟨Kd.int IntKind.u32,1,4,Value.int IntKind.u32 0⟩
theorem aWS:qn Tryz.prog 252=some XH:=by kernel_rfl
def XG:TI:=⟨Kd.oth,1,8,Value.nilFunc⟩
theorem aWR:qn Tryz.prog 253=some XG:=by kernel_rfl
def XF:TI:=⟨Kd.int IntKind.u64,1,8,Value.int IntKind.u64 0⟩
theorem aWQ:qn Tryz.prog 254=some XF:=by kernel_rfl
def XE:TI:=⟨Kd.oth,1,8,Value.nilFunc⟩
theorem aWP:qn Tryz.prog 256=some XE:=by kernel_rfl
def XD:TI:=⟨Kd.oth,1,8,Value.nilFunc⟩
theorem aWO:qn Tryz.prog 257=some XD:=by kernel_rfl
def XC:TI:=⟨Kd.oth,1,8,Value.nilFunc⟩
theorem aWN:qn Tryz.prog 258=some XC:=by kernel_rfl
def XB:TI:=⟨Kd.oth,1,8,Value.nilFunc⟩
theorem aWM:qn Tryz.prog 259=some XB:=by kernel_rfl
def XA:TI:=⟨Kd.oth,1,8,Value.nilFunc⟩
theorem aWL:qn Tryz.prog 260=some XA:=by kernel_rfl
def Xz:TI:=⟨Kd.oth,1,8,Value.nilFunc⟩
theorem aWK:qn Tryz.prog 263=some Xz:=by kernel_rfl
def Xy:TI:=⟨Kd.stru [(0,266)],0,0,Value.agg ⟨[]⟩⟩
theorem aWJ:qn Tryz.prog 267=some Xy:=by kernel_rfl
def Xx:TI:=⟨Kd.stru [(0,266)],0,0,Value.agg ⟨[]⟩⟩
theorem aWI:qn Tryz.prog 268=some Xx:=by kernel_rfl
def Xw:TI:=⟨Kd.int IntKind.u8,1,1,Value.int IntKind.u8 0⟩
theorem aWH:qn Tryz.prog 269=some Xw:=by kernel_rfl
def Xv:TI:=⟨Kd.int IntKind.u8,1,1,Value.int IntKind.u8 0⟩
theorem aWG:qn Tryz.prog 270=some Xv:=by kernel_rfl
def Xu:TI:=⟨Kd.oth,1,8,Value.nilFunc⟩
theorem aWF:qn Tryz.prog 271=some Xu:=by kernel_rfl
def Xt:TI:=⟨Kd.int IntKind.i32,1,4,Value.int IntKind.i32 0⟩
theorem aWE:qn Tryz.prog 273=some Xt:=by kernel_rfl
def Xs:TI:=⟨Kd.int IntKind.i32,1,4,Value.int IntKind.i32 0⟩
theorem aWD:qn Tryz.prog 274=some Xs:=by kernel_rfl
def Xr:TI:=⟨Kd.oth,1,8,Value.nilFunc⟩
theorem aWC:qn Tryz.prog 277=some Xr:=by kernel_rfl
theorem ty1{K:TI→Prop}:@tyW Tryz.prog 1 ⟨K⟩=K ti1:=qg tf1
theorem aNF:ti1.kd=Kd.oth:=ID rfl
theorem aIF:ti1.kd.agg=false:=ID rfl
theorem av2:ti1.size=1:=ID rfl
theorem amT:ti1.bytes=8:=ID rfl
theorem aND:qw ti1=True:=eq_true rfl
theorem aNE:zc ti1=[.v Value.nilFunc]:=ID rfl
theorem ty2{K:TI→Prop}:@tyW Tryz.prog 2 ⟨K⟩=K ti2:=qg tf2
theorem aNC:ti2.kd=Kd.int IntKind.i64:=ID rfl
theorem aIj:ti2.kd.agg=false:=ID rfl
theorem asR:ti2.size=1:=ID rfl
theorem alI:ti2.bytes=8:=ID rfl
theorem aNA:qw ti2=True:=eq_true rfl
theorem aNB:zc ti2=[.v (Value.int IntKind.i64 0)]:=ID rfl
theorem ty3{K:TI→Prop}:@tyW Tryz.prog 3 ⟨K⟩=K ti3:=qg tf3
theorem aNz:ti3.kd=Kd.int IntKind.i64:=ID rfl
theorem aHO:ti3.kd.agg=false:=ID rfl
theorem asG:ti3.size=1:=ID rfl
theorem als:ti3.bytes=8:=ID rfl
theorem aNx:qw ti3=True:=eq_true rfl
theorem aNy:zc ti3=[.v (Value.int IntKind.i64 0)]:=ID rfl
theorem ty4{K:TI→Prop}:@tyW Tryz.prog 4 ⟨K⟩=K ti4:=qg tf4
theorem aNw:ti4.kd=Kd.bool:=ID rfl
theorem aHp:ti4.kd.agg=false:=ID rfl
theorem asx:ti4.size=1:=ID rfl
theorem ali:ti4.bytes=1:=ID rfl
theorem aNu:qw ti4=True:=eq_true rfl
theorem aNv:zc ti4=[.v (Value.bool false)]:=ID rfl
theorem ty5{K:TI→Prop}:@tyW Tryz.prog 5 ⟨K⟩=K ti5:=qg tf5
theorem aNt:ti5.kd=Kd.int IntKind.u8:=ID rfl
theorem aG3:ti5.kd.agg=false:=ID rfl
theorem asp:ti5.size=1:=ID rfl
theorem ak9:ti5.bytes=1:=ID rfl
theorem aNr:qw ti5=True:=eq_true rfl
theorem aNs:zc ti5=[.v (Value.int IntKind.u8 0)]:=ID rfl
theorem ty6{K:TI→Prop}:@tyW Tryz.prog 6 ⟨K⟩=K ti6:=qg tf6
theorem aNq:ti6.kd=Kd.int IntKind.u8:=ID rfl
theorem aGB:ti6.kd.agg=false:=ID rfl
theorem asf:ti6.size=1:=ID rfl
theorem akZ:ti6.bytes=1:=ID rfl
theorem aNo:qw ti6=True:=eq_true rfl
theorem aNp:zc ti6=[.v (Value.int IntKind.u8 0)]:=ID rfl
theorem ty7{K:TI→Prop}:@tyW Tryz.prog 7 ⟨K⟩=K ti7:=qg tf7
theorem aNn:ti7.kd=Kd.stru [(0,2),(1,3),(2,4),(3,6)]:=ID rfl
theorem aGi:ti7.kd.agg=true:=ID rfl
theorem ar8:ti7.size=4:=ID rfl
theorem akS:ti7.bytes=24:=ID rfl
theorem aNl:qw ti7=True:=eq_true rfl
theorem aNm:zc ti7=[.v (Value.int IntKind.i64 0),.v (Value.int IntKind.i64 0),.v (Value.bool false),.v (Value.int IntKind.u8 0)]:=ID rfl
theorem aSL{K:Nat→TI→Prop}:@qB Tryz.prog 7 0 ⟨K⟩=K 0 ti2:=qr (ti:=ti7) (tf:=ti2) (fo:=(0,2)) (fs:=[(0,2),(1,3),(2,4),(3,6)]) tf7 rfl rfl tf2
theorem aZk{K:Nat→Nat→Prop}:qs Tryz.prog [(0,2),(1,3),(2,4),(3,6)] 0 K=K 0 1:=qq (tf:=ti2) (fo:=(0,2)) (fs:=[(0,2),(1,3),(2,4),(3,6)]) rfl tf2
theorem aSK{K:Nat→TI→Prop}:@qB Tryz.prog 7 1 ⟨K⟩=K 1 ti3:=qr (ti:=ti7) (tf:=ti3) (fo:=(1,3)) (fs:=[(0,2),(1,3),(2,4),(3,6)]) tf7 rfl rfl tf3
theorem aZj{K:Nat→Nat→Prop}:qs Tryz.prog [(0,2),(1,3),(2,4),(3,6)] 1 K=K 1 1:=qq (tf:=ti3) (fo:=(1,3)) (fs:=[(0,2),(1,3),(2,4),(3,6)]) rfl tf3
theorem aSJ{K:Nat→TI→Prop}:@qB Tryz.prog 7 2 ⟨K⟩=K 2 ti4:=qr (ti:=ti7) (tf:=ti4) (fo:=(2,4)) (fs:=[(0,2),(1,3),(2,4),(3,6)]) tf7 rfl rfl tf4
theorem aZi{K:Nat→Nat→Prop}:qs Tryz.prog [(0,2),(1,3),(2,4),(3,6)] 2 K=K 2 1:=qq (tf:=ti4) (fo:=(2,4)) (fs:=[(0,2),(1,3),(2,4),(3,6)]) rfl tf4
theorem aSI{K:Nat→TI→Prop}:@qB Tryz.prog 7 3 ⟨K⟩=K 3 ti6:=qr (ti:=ti7) (tf:=ti6) (fo:=(3,6)) (fs:=[(0,2),(1,3),(2,4),(3,6)]) tf7 rfl rfl tf6
theorem aZh{K:Nat→Nat→Prop}:qs Tryz.prog [(0,2),(1,3),(2,4),(3,6)] 3 K=K 3 1:=qq (tf:=ti6) (fo:=(3,6)) (fs:=[(0,2),(1,3),(2,4),(3,6)]) rfl tf6
theorem aZI:∀f∈([(0,2),(1,3),(2,4),(3,6)]:List (Nat×Nat)),(qn Tryz.prog f.2).isSome=true:=by
 intro f hf
 simp only[List.mem_cons,List.not_mem_nil,or_false]at hf
 rcases hf with rfl|rfl|rfl|rfl
 ·rw[tf2];rfl
 ·rw[tf3];rfl
 ·rw[tf4];rfl
 ·rw[tf6];rfl
theorem beo{ps:List (Nat×AV)}{K:AV→Prop}:@zp Tryz.prog 7 ps ⟨K⟩=@zn (qs Tryz.prog [(0,2),(1,3),(2,4),(3,6)]) (zc ti7) ps ⟨fun cs=>K (.ag cs)⟩:=qN tf7 rfl aZI
theorem ty8{K:TI→Prop}:@tyW Tryz.prog 8 ⟨K⟩=K ti8:=qg tf8
theorem aNk:ti8.kd=Kd.stru [(0,2),(1,3),(2,4),(3,6)]:=ID rfl
theorem aFT:ti8.kd.agg=true:=ID rfl
theorem arZ:ti8.size=4:=ID rfl
theorem akH:ti8.bytes=24:=ID rfl
theorem aNi:qw ti8=True:=eq_true rfl
theorem aNj:zc ti8=[.v (Value.int IntKind.i64 0),.v (Value.int IntKind.i64 0),.v (Value.bool false),.v (Value.int IntKind.u8 0)]:=ID rfl
theorem aSH{K:Nat→TI→Prop}:@qB Tryz.prog 8 0 ⟨K⟩=K 0 ti2:=qr (ti:=ti8) (tf:=ti2) (fo:=(0,2)) (fs:=[(0,2),(1,3),(2,4),(3,6)]) tf8 rfl rfl tf2
theorem aZg{K:Nat→Nat→Prop}:qs Tryz.prog [(0,2),(1,3),(2,4),(3,6)] 0 K=K 0 1:=qq (tf:=ti2) (fo:=(0,2)) (fs:=[(0,2),(1,3),(2,4),(3,6)]) rfl tf2
theorem aSG{K:Nat→TI→Prop}:@qB Tryz.prog 8 1 ⟨K⟩=K 1 ti3:=qr (ti:=ti8) (tf:=ti3) (fo:=(1,3)) (fs:=[(0,2),(1,3),(2,4),(3,6)]) tf8 rfl rfl tf3
theorem aZf{K:Nat→Nat→Prop}:qs Tryz.prog [(0,2),(1,3),(2,4),(3,6)] 1 K=K 1 1:=qq (tf:=ti3) (fo:=(1,3)) (fs:=[(0,2),(1,3),(2,4),(3,6)]) rfl tf3
theorem aSF{K:Nat→TI→Prop}:@qB Tryz.prog 8 2 ⟨K⟩=K 2 ti4:=qr (ti:=ti8) (tf:=ti4) (fo:=(2,4)) (fs:=[(0,2),(1,3),(2,4),(3,6)]) tf8 rfl rfl tf4
theorem aZe{K:Nat→Nat→Prop}:qs Tryz.prog [(0,2),(1,3),(2,4),(3,6)] 2 K=K 2 1:=qq (tf:=ti4) (fo:=(2,4)) (fs:=[(0,2),(1,3),(2,4),(3,6)]) rfl tf4
theorem aSE{K:Nat→TI→Prop}:@qB Tryz.prog 8 3 ⟨K⟩=K 3 ti6:=qr (ti:=ti8) (tf:=ti6) (fo:=(3,6)) (fs:=[(0,2),(1,3),(2,4),(3,6)]) tf8 rfl rfl tf6
theorem aZd{K:Nat→Nat→Prop}:qs Tryz.prog [(0,2),(1,3),(2,4),(3,6)] 3 K=K 3 1:=qq (tf:=ti6) (fo:=(3,6)) (fs:=[(0,2),(1,3),(2,4),(3,6)]) rfl tf6
theorem aZH:∀f∈([(0,2),(1,3),(2,4),(3,6)]:List (Nat×Nat)),(qn Tryz.prog f.2).isSome=true:=by
 intro f hf
 simp only[List.mem_cons,List.not_mem_nil,or_false]at hf
 rcases hf with rfl|rfl|rfl|rfl
 ·rw[tf2];rfl
 ·rw[tf3];rfl
 ·rw[tf4];rfl
 ·rw[tf6];rfl
theorem ben{ps:List (Nat×AV)}{K:AV→Prop}:@zp Tryz.prog 8 ps ⟨K⟩=@zn (qs Tryz.prog [(0,2),(1,3),(2,4),(3,6)]) (zc ti8) ps ⟨fun cs=>K (.ag cs)⟩:=qN tf8 rfl aZH
theorem ty9{K:TI→Prop}:@tyW Tryz.prog 9 ⟨K⟩=K ti9:=qg tf9
theorem aNh:ti9.kd=Kd.str:=ID rfl
theorem aFu:ti9.kd.agg=false:=ID rfl
theorem arQ:ti9.size=1:=ID rfl
theorem aky:ti9.bytes=16:=ID rfl
theorem aNf:qw ti9=True:=eq_true rfl
theorem aNg:zc ti9=[.v (Value.string {data:=⟨[]⟩})]:=ID rfl
theorem bcW{K:TI→Prop}:@tyW Tryz.prog 10 ⟨K⟩=K aEx:=qg bdL
theorem aIO:aEx.kd=Kd.str:=ID rfl
theorem aAb:aEx.kd.agg=false:=ID rfl
theorem aok:aEx.size=1:=ID rfl
theorem aiS:aEx.bytes=16:=ID rfl
theorem aIM:qw aEx=True:=eq_true rfl
theorem aIN:zc aEx=[.v (Value.string {data:=⟨[]⟩})]:=ID rfl
theorem bcV{K:TI→Prop}:@tyW Tryz.prog 11 ⟨K⟩=K aEw:=qg bdK
theorem aIL:aEw.kd=Kd.str:=ID rfl
theorem azG:aEw.kd.agg=false:=ID rfl
theorem an9:aEw.size=1:=ID rfl
theorem aiH:aEw.bytes=16:=ID rfl
theorem aIJ:qw aEw=True:=eq_true rfl
theorem aIK:zc aEw=[.v (Value.string {data:=⟨[]⟩})]:=ID rfl
theorem bcU{K:TI→Prop}:@tyW Tryz.prog 12 ⟨K⟩=K aEv:=qg bdJ
theorem aII:aEv.kd=Kd.int IntKind.u64:=ID rfl
theorem azb:aEv.kd.agg=false:=ID rfl
theorem anY:aEv.size=1:=ID rfl
theorem aiw:aEv.bytes=8:=ID rfl
theorem aIG:qw aEv=True:=eq_true rfl
theorem aIH:zc aEv=[.v (Value.int IntKind.u64 0)]:=ID rfl
theorem bcT{K:TI→Prop}:@tyW Tryz.prog 21 ⟨K⟩=K aEu:=qg bdI
theorem aIE:aEu.kd=Kd.int IntKind.i32:=ID rfl
theorem avc:aEu.kd.agg=false:=ID rfl
theorem amB:aEu.size=1:=ID rfl
theorem ahc:aEu.bytes=4:=ID rfl
theorem aIC:qw aEu=True:=eq_true rfl
theorem aID:zc aEu=[.v (Value.int IntKind.i32 0)]:=ID rfl
theorem bcS{K:TI→Prop}:@tyW Tryz.prog 22 ⟨K⟩=K aeL:=qg aEA
theorem aIB:aeL.kd=Kd.sli 5:=ID rfl
theorem auK:aeL.kd.agg=false:=ID rfl
theorem amr:aeL.size=1:=ID rfl
theorem ag2:aeL.bytes=24:=ID rfl
theorem aIz:qw aeL=True:=eq_true rfl
theorem aIA:zc aeL=[.v (Value.slice none 0 0)]:=ID rfl
theorem aY2{K:TI→Prop}:@yJ Tryz.prog 22 ⟨K⟩=K ti5:=ZD aEA rfl tf5
theorem bcR{K:TI→Prop}:@tyW Tryz.prog 23 ⟨K⟩=K aeK:=qg aEz
theorem aIy:aeK.kd=Kd.sli 40:=ID rfl
theorem auf:aeK.kd.agg=false:=ID rfl
theorem amg:aeK.size=1:=ID rfl
theorem agR:aeK.bytes=24:=ID rfl
theorem aIw:qw aeK=True:=eq_true rfl
theorem aIx:zc aeK=[.v (Value.slice none 0 0)]:=ID rfl
theorem aY1{K:TI→Prop}:@yJ Tryz.prog 23 ⟨K⟩=K Zh:=ZD aEz rfl KR
theorem bcQ{K:TI→Prop}:@tyW Tryz.prog 24 ⟨K⟩=K amf:=qg aT1
theorem aIv:amf.kd=Kd.stru [(0,3),(1,23)]:=ID rfl
theorem atQ:amf.kd.agg=true:=ID rfl
theorem al6:amf.size=2:=ID rfl
theorem agI:amf.bytes=32:=ID rfl
theorem aIt:qw amf=True:=eq_true rfl
theorem aIu:zc amf=[.v (Value.int IntKind.i64 0),.v (Value.slice none 0 0)]:=ID rfl
theorem aLx{K:Nat→TI→Prop}:@qB Tryz.prog 24 0 ⟨K⟩=K 0 ti3:=qr (ti:=amf) (tf:=ti3) (fo:=(0,3)) (fs:=[(0,3),(1,23)]) aT1 rfl rfl tf3
theorem aOB{K:Nat→Nat→Prop}:qs Tryz.prog [(0,3),(1,23)] 0 K=K 0 1:=qq (tf:=ti3) (fo:=(0,3)) (fs:=[(0,3),(1,23)]) rfl tf3
theorem aLw{K:Nat→TI→Prop}:@qB Tryz.prog 24 1 ⟨K⟩=K 1 aeK:=qr (ti:=amf) (tf:=aeK) (fo:=(1,23)) (fs:=[(0,3),(1,23)]) aT1 rfl rfl aEz
theorem aOA{K:Nat→Nat→Prop}:qs Tryz.prog [(0,3),(1,23)] 1 K=K 1 1:=qq (tf:=aeK) (fo:=(1,23)) (fs:=[(0,3),(1,23)]) rfl aEz
theorem aPq:∀f∈([(0,3),(1,23)]:List (Nat×Nat)),(qn Tryz.prog f.2).isSome=true:=by
 intro f hf
 simp only[List.mem_cons,List.not_mem_nil,or_false]at hf
 rcases hf with rfl|rfl
 ·rw[tf3];rfl
 ·rw[aEz];rfl
theorem bbw{ps:List (Nat×AV)}{K:AV→Prop}:@zp Tryz.prog 24 ps ⟨K⟩=@zn (qs Tryz.prog [(0,3),(1,23)]) (zc amf) ps ⟨fun cs=>K (.ag cs)⟩:=qN aT1 rfl aPq
theorem bcP{K:TI→Prop}:@tyW Tryz.prog 25 ⟨K⟩=K al5:=qg aT0
theorem aIs:al5.kd=Kd.stru [(0,3),(1,23)]:=ID rfl
theorem ato:al5.kd.agg=true:=ID rfl
theorem alV:al5.size=2:=ID rfl
theorem agy:al5.bytes=32:=ID rfl
theorem aIq:qw al5=True:=eq_true rfl
theorem aIr:zc al5=[.v (Value.int IntKind.i64 0),.v (Value.slice none 0 0)]:=ID rfl
theorem aLv{K:Nat→TI→Prop}:@qB Tryz.prog 25 0 ⟨K⟩=K 0 ti3:=qr (ti:=al5) (tf:=ti3) (fo:=(0,3)) (fs:=[(0,3),(1,23)]) aT0 rfl rfl tf3
theorem aOz{K:Nat→Nat→Prop}:qs Tryz.prog [(0,3),(1,23)] 0 K=K 0 1:=qq (tf:=ti3) (fo:=(0,3)) (fs:=[(0,3),(1,23)]) rfl tf3
theorem aLu{K:Nat→TI→Prop}:@qB Tryz.prog 25 1 ⟨K⟩=K 1 aeK:=qr (ti:=al5) (tf:=aeK) (fo:=(1,23)) (fs:=[(0,3),(1,23)]) aT0 rfl rfl aEz
theorem aOy{K:Nat→Nat→Prop}:qs Tryz.prog [(0,3),(1,23)] 1 K=K 1 1:=qq (tf:=aeK) (fo:=(1,23)) (fs:=[(0,3),(1,23)]) rfl aEz
theorem aPp:∀f∈([(0,3),(1,23)]:List (Nat×Nat)),(qn Tryz.prog f.2).isSome=true:=by
 intro f hf
 simp only[List.mem_cons,List.not_mem_nil,or_false]at hf
 rcases hf with rfl|rfl
 ·rw[tf3];rfl
 ·rw[aEz];rfl
theorem bbv{ps:List (Nat×AV)}{K:AV→Prop}:@zp Tryz.prog 25 ps ⟨K⟩=@zn (qs Tryz.prog [(0,3),(1,23)]) (zc al5) ps ⟨fun cs=>K (.ag cs)⟩:=qN aT0 rfl aPp
theorem bcO{K:TI→Prop}:@tyW Tryz.prog 27 ⟨K⟩=K aEt:=qg bdH
theorem aIp:aEt.kd=Kd.oth:=ID rfl
theorem asT:aEt.kd.agg=false:=ID rfl
theorem alK:aEt.size=1:=ID rfl
theorem agn:aEt.bytes=8:=ID rfl
theorem aIn:qw aEt=True:=eq_true rfl
theorem aIo:zc aEt=[.v Value.nilFunc]:=ID rfl
theorem bcN{K:TI→Prop}:@tyW Tryz.prog 29 ⟨K⟩=K aEs:=qg bdG
theorem aIm:aEs.kd=Kd.oth:=ID rfl
theorem asS:aEs.kd.agg=false:=ID rfl
theorem alJ:aEs.size=1:=ID rfl
theorem agm:aEs.bytes=8:=ID rfl
theorem aIk:qw aEs=True:=eq_true rfl
theorem aIl:zc aEs=[.v Value.nilFunc]:=ID rfl
theorem bcM{K:TI→Prop}:@tyW Tryz.prog 30 ⟨K⟩=K aEr:=qg bdF
theorem aIi:aEr.kd=Kd.oth:=ID rfl
theorem asQ:aEr.kd.agg=false:=ID rfl
theorem alH:aEr.size=1:=ID rfl
theorem agl:aEr.bytes=8:=ID rfl
theorem aIg:qw aEr=True:=eq_true rfl
theorem aIh:zc aEr=[.v Value.nilFunc]:=ID rfl
theorem bcL{K:TI→Prop}:@tyW Tryz.prog 31 ⟨K⟩=K aEq:=qg bdE
theorem aIf:aEq.kd=Kd.oth:=ID rfl
theorem asP:aEq.kd.agg=false:=ID rfl
theorem alG:aEq.size=1:=ID rfl
theorem agk:aEq.bytes=8:=ID rfl
theorem aId:qw aEq=True:=eq_true rfl
theorem aIe:zc aEq=[.v Value.nilFunc]:=ID rfl
theorem bcK{K:TI→Prop}:@tyW Tryz.prog 32 ⟨K⟩=K aEp:=qg bdD
theorem aIc:aEp.kd=Kd.oth:=ID rfl
theorem asO:aEp.kd.agg=false:=ID rfl
theorem alD:aEp.size=1:=ID rfl
theorem agj:aEp.bytes=8:=ID rfl
theorem aIa:qw aEp=True:=eq_true rfl
theorem aIb:zc aEp=[.v Value.nilFunc]:=ID rfl
theorem bcJ{K:TI→Prop}:@tyW Tryz.prog 33 ⟨K⟩=K aEo:=qg bdC
theorem aH9:aEo.kd=Kd.oth:=ID rfl
theorem asN:aEo.kd.agg=false:=ID rfl
theorem alC:aEo.size=1:=ID rfl
theorem agi:aEo.bytes=8:=ID rfl
theorem aH7:qw aEo=True:=eq_true rfl
theorem aH8:zc aEo=[.v Value.nilFunc]:=ID rfl
theorem bcI{K:TI→Prop}:@tyW Tryz.prog 34 ⟨K⟩=K JJ:=qg aeM
theorem aH6:JJ.kd=Kd.sli 3:=ID rfl
theorem asM:JJ.kd.agg=false:=ID rfl
theorem alB:JJ.size=1:=ID rfl
theorem agh:JJ.bytes=24:=ID rfl
theorem aH4:qw JJ=True:=eq_true rfl
theorem aH5:zc JJ=[.v (Value.slice none 0 0)]:=ID rfl
theorem aY0{K:TI→Prop}:@yJ Tryz.prog 34 ⟨K⟩=K ti3:=ZD aeM rfl tf3
theorem bcH{K:TI→Prop}:@tyW Tryz.prog 35 ⟨K⟩=K arw:=qg aWB
theorem aH3:arw.kd=Kd.stru [(0,34)]:=ID rfl
theorem asL:arw.kd.agg=true:=ID rfl
theorem alz:arw.size=1:=ID rfl
theorem agf:arw.bytes=24:=ID rfl
theorem aH1:qw arw=True:=eq_true rfl
theorem aH2:zc arw=[.v (Value.slice none 0 0)]:=ID rfl
theorem aLt{K:Nat→TI→Prop}:@qB Tryz.prog 35 0 ⟨K⟩=K 0 JJ:=qr (ti:=arw) (tf:=JJ) (fo:=(0,34)) (fs:=[(0,34)]) aWB rfl rfl aeM
theorem aOx{K:Nat→Nat→Prop}:qs Tryz.prog [(0,34)] 0 K=K 0 1:=qq (tf:=JJ) (fo:=(0,34)) (fs:=[(0,34)]) rfl aeM
theorem aPo:∀f∈([(0,34)]:List (Nat×Nat)),(qn Tryz.prog f.2).isSome=true:=by
 intro f hf
 simp only[List.mem_cons,List.not_mem_nil,or_false]at hf
 subst hf;rw[aeM];rfl
theorem bbu{ps:List (Nat×AV)}{K:AV→Prop}:@zp Tryz.prog 35 ps ⟨K⟩=@zn (qs Tryz.prog [(0,34)]) (zc arw) ps ⟨fun cs=>K (.ag cs)⟩:=qN aWB rfl aPo
theorem bcG{K:TI→Prop}:@tyW Tryz.prog 36 ⟨K⟩=K aaY:=qg aAG
theorem aH0:aaY.kd=Kd.stru [(0,34)]:=ID rfl
theorem asK:aaY.kd.agg=true:=ID rfl
theorem aly:aaY.size=1:=ID rfl
theorem age:aaY.bytes=24:=ID rfl
theorem aHY:qw aaY=True:=eq_true rfl
theorem aHZ:zc aaY=[.v (Value.slice none 0 0)]:=ID rfl
theorem aLs{K:Nat→TI→Prop}:@qB Tryz.prog 36 0 ⟨K⟩=K 0 JJ:=qr (ti:=aaY) (tf:=JJ) (fo:=(0,34)) (fs:=[(0,34)]) aAG rfl rfl aeM
theorem aOw{K:Nat→Nat→Prop}:qs Tryz.prog [(0,34)] 0 K=K 0 1:=qq (tf:=JJ) (fo:=(0,34)) (fs:=[(0,34)]) rfl aeM
theorem aPn:∀f∈([(0,34)]:List (Nat×Nat)),(qn Tryz.prog f.2).isSome=true:=by
 intro f hf
 simp only[List.mem_cons,List.not_mem_nil,or_false]at hf
 subst hf;rw[aeM];rfl
theorem bbt{ps:List (Nat×AV)}{K:AV→Prop}:@zp Tryz.prog 36 ps ⟨K⟩=@zn (qs Tryz.prog [(0,34)]) (zc aaY) ps ⟨fun cs=>K (.ag cs)⟩:=qN aAG rfl aPn
theorem bcF{K:TI→Prop}:@tyW Tryz.prog 37 ⟨K⟩=K alx:=qg aTZ
theorem aHX:alx.kd=Kd.stru [(0,4),(1,36)]:=ID rfl
theorem asJ:alx.kd.agg=true:=ID rfl
theorem alw:alx.size=2:=ID rfl
theorem agd:alx.bytes=32:=ID rfl
theorem aHV:qw alx=True:=eq_true rfl
theorem aHW:zc alx=[.v (Value.bool false),.v (Value.slice none 0 0)]:=ID rfl
theorem aLr{K:Nat→TI→Prop}:@qB Tryz.prog 37 0 ⟨K⟩=K 0 ti4:=qr (ti:=alx) (tf:=ti4) (fo:=(0,4)) (fs:=[(0,4),(1,36)]) aTZ rfl rfl tf4
theorem aOv{K:Nat→Nat→Prop}:qs Tryz.prog [(0,4),(1,36)] 0 K=K 0 1:=qq (tf:=ti4) (fo:=(0,4)) (fs:=[(0,4),(1,36)]) rfl tf4
theorem aLq{K:Nat→TI→Prop}:@qB Tryz.prog 37 1 ⟨K⟩=K 1 aaY:=qr (ti:=alx) (tf:=aaY) (fo:=(1,36)) (fs:=[(0,4),(1,36)]) aTZ rfl rfl aAG
theorem aOu{K:Nat→Nat→Prop}:qs Tryz.prog [(0,4),(1,36)] 1 K=K 1 1:=qq (tf:=aaY) (fo:=(1,36)) (fs:=[(0,4),(1,36)]) rfl aAG
theorem aPm:∀f∈([(0,4),(1,36)]:List (Nat×Nat)),(qn Tryz.prog f.2).isSome=true:=by
 intro f hf
 simp only[List.mem_cons,List.not_mem_nil,or_false]at hf
 rcases hf with rfl|rfl
 ·rw[tf4];rfl
 ·rw[aAG];rfl
theorem bbs{ps:List (Nat×AV)}{K:AV→Prop}:@zp Tryz.prog 37 ps ⟨K⟩=@zn (qs Tryz.prog [(0,4),(1,36)]) (zc alx) ps ⟨fun cs=>K (.ag cs)⟩:=qN aTZ rfl aPm
theorem bcE{K:TI→Prop}:@tyW Tryz.prog 38 ⟨K⟩=K Xq:=qg arx
theorem aHU:Xq.kd=Kd.stru [(0,4),(1,36)]:=ID rfl
theorem asI:Xq.kd.agg=true:=ID rfl
theorem alv:Xq.size=2:=ID rfl
theorem agc:Xq.bytes=32:=ID rfl
theorem aHS:qw Xq=True:=eq_true rfl
theorem aHT:zc Xq=[.v (Value.bool false),.v (Value.slice none 0 0)]:=ID rfl
theorem aLp{K:Nat→TI→Prop}:@qB Tryz.prog 38 0 ⟨K⟩=K 0 ti4:=qr (ti:=Xq) (tf:=ti4) (fo:=(0,4)) (fs:=[(0,4),(1,36)]) arx rfl rfl tf4
theorem aOt{K:Nat→Nat→Prop}:qs Tryz.prog [(0,4),(1,36)] 0 K=K 0 1:=qq (tf:=ti4) (fo:=(0,4)) (fs:=[(0,4),(1,36)]) rfl tf4
theorem aLo{K:Nat→TI→Prop}:@qB Tryz.prog 38 1 ⟨K⟩=K 1 aaY:=qr (ti:=Xq) (tf:=aaY) (fo:=(1,36)) (fs:=[(0,4),(1,36)]) arx rfl rfl aAG
theorem aOs{K:Nat→Nat→Prop}:qs Tryz.prog [(0,4),(1,36)] 1 K=K 1 1:=qq (tf:=aaY) (fo:=(1,36)) (fs:=[(0,4),(1,36)]) rfl aAG
theorem aPl:∀f∈([(0,4),(1,36)]:List (Nat×Nat)),(qn Tryz.prog f.2).isSome=true:=by
 intro f hf
 simp only[List.mem_cons,List.not_mem_nil,or_false]at hf
 rcases hf with rfl|rfl
 ·rw[tf4];rfl
 ·rw[aAG];rfl
theorem bbr{ps:List (Nat×AV)}{K:AV→Prop}:@zp Tryz.prog 38 ps ⟨K⟩=@zn (qs Tryz.prog [(0,4),(1,36)]) (zc Xq) ps ⟨fun cs=>K (.ag cs)⟩:=qN arx rfl aPl
theorem bcD{K:TI→Prop}:@tyW Tryz.prog 39 ⟨K⟩=K alu:=qg aTY
theorem aHR:alu.kd=Kd.stru [(0,38),(2,3)]:=ID rfl
theorem asH:alu.kd.agg=true:=ID rfl
theorem alt:alu.size=3:=ID rfl
theorem agb:alu.bytes=40:=ID rfl
theorem aHP:qw alu=True:=eq_true rfl
theorem aHQ:zc alu=[.v (Value.bool false),.v (Value.slice none 0 0),.v (Value.int IntKind.i64 0)]:=ID rfl
theorem aLn{K:Nat→TI→Prop}:@qB Tryz.prog 39 0 ⟨K⟩=K 0 Xq:=qr (ti:=alu) (tf:=Xq) (fo:=(0,38)) (fs:=[(0,38),(2,3)]) aTY rfl rfl arx
theorem aOr{K:Nat→Nat→Prop}:qs Tryz.prog [(0,38),(2,3)] 0 K=K 0 2:=qq (tf:=Xq) (fo:=(0,38)) (fs:=[(0,38),(2,3)]) rfl arx
theorem aLm{K:Nat→TI→Prop}:@qB Tryz.prog 39 1 ⟨K⟩=K 2 ti3:=qr (ti:=alu) (tf:=ti3) (fo:=(2,3)) (fs:=[(0,38),(2,3)]) aTY rfl rfl tf3
theorem aOq{K:Nat→Nat→Prop}:qs Tryz.prog [(0,38),(2,3)] 1 K=K 2 1:=qq (tf:=ti3) (fo:=(2,3)) (fs:=[(0,38),(2,3)]) rfl tf3
theorem aPk:∀f∈([(0,38),(2,3)]:List (Nat×Nat)),(qn Tryz.prog f.2).isSome=true:=by
 intro f hf
 simp only[List.mem_cons,List.not_mem_nil,or_false]at hf
 rcases hf with rfl|rfl
 ·rw[arx];rfl
 ·rw[tf3];rfl
theorem bbq{ps:List (Nat×AV)}{K:AV→Prop}:@zp Tryz.prog 39 ps ⟨K⟩=@zn (qs Tryz.prog [(0,38),(2,3)]) (zc alu) ps ⟨fun cs=>K (.ag cs)⟩:=qN aTY rfl aPk
theorem bcC{K:TI→Prop}:@tyW Tryz.prog 40 ⟨K⟩=K Zh:=qg KR
theorem aHN:Zh.kd=Kd.stru [(0,38),(2,3)]:=ID rfl
theorem asF:Zh.kd.agg=true:=ID rfl
theorem alr:Zh.size=3:=ID rfl
theorem aga:Zh.bytes=40:=ID rfl
theorem aHL:qw Zh=True:=eq_true rfl
theorem aHM:zc Zh=[.v (Value.bool false),.v (Value.slice none 0 0),.v (Value.int IntKind.i64 0)]:=ID rfl
theorem aLl{K:Nat→TI→Prop}:@qB Tryz.prog 40 0 ⟨K⟩=K 0 Xq:=qr (ti:=Zh) (tf:=Xq) (fo:=(0,38)) (fs:=[(0,38),(2,3)]) KR rfl rfl arx
theorem aOp{K:Nat→Nat→Prop}:qs Tryz.prog [(0,38),(2,3)] 0 K=K 0 2:=qq (tf:=Xq) (fo:=(0,38)) (fs:=[(0,38),(2,3)]) rfl arx
theorem aLk{K:Nat→TI→Prop}:@qB Tryz.prog 40 1 ⟨K⟩=K 2 ti3:=qr (ti:=Zh) (tf:=ti3) (fo:=(2,3)) (fs:=[(0,38),(2,3)]) KR rfl rfl tf3
theorem aOo{K:Nat→Nat→Prop}:qs Tryz.prog [(0,38),(2,3)] 1 K=K 2 1:=qq (tf:=ti3) (fo:=(2,3)) (fs:=[(0,38),(2,3)]) rfl tf3
theorem aPj:∀f∈([(0,38),(2,3)]:List (Nat×Nat)),(qn Tryz.prog f.2).isSome=true:=by
 intro f hf
 simp only[List.mem_cons,List.not_mem_nil,or_false]at hf
 rcases hf with rfl|rfl
 ·rw[arx];rfl
 ·rw[tf3];rfl
theorem bbp{ps:List (Nat×AV)}{K:AV→Prop}:@zp Tryz.prog 40 ps ⟨K⟩=@zn (qs Tryz.prog [(0,38),(2,3)]) (zc Zh) ps ⟨fun cs=>K (.ag cs)⟩:=qN KR rfl aPj
theorem bcB{K:TI→Prop}:@tyW Tryz.prog 41 ⟨K⟩=K aEn:=qg bdB
theorem aHK:aEn.kd=Kd.oth:=ID rfl
theorem asE:aEn.kd.agg=false:=ID rfl
theorem alq:aEn.size=1:=ID rfl
theorem af9:aEn.bytes=8:=ID rfl
theorem aHI:qw aEn=True:=eq_true rfl
theorem aHJ:zc aEn=[.v Value.nilFunc]:=ID rfl
theorem bcA{K:TI→Prop}:@tyW Tryz.prog 42 ⟨K⟩=K aEm:=qg bdA
theorem aHH:aEm.kd=Kd.oth:=ID rfl
theorem asD:aEm.kd.agg=false:=ID rfl
theorem alp:aEm.size=1:=ID rfl
theorem af8:aEm.bytes=8:=ID rfl
theorem aHF:qw aEm=True:=eq_true rfl
theorem aHG:zc aEm=[.v Value.nilFunc]:=ID rfl
theorem bcz{K:TI→Prop}:@tyW Tryz.prog 44 ⟨K⟩=K aEl:=qg bdz
theorem aHE:aEl.kd=Kd.oth:=ID rfl
theorem asC:aEl.kd.agg=false:=ID rfl
theorem alo:aEl.size=1:=ID rfl
theorem af7:aEl.bytes=8:=ID rfl
theorem aHC:qw aEl=True:=eq_true rfl
theorem aHD:zc aEl=[.v Value.nilFunc]:=ID rfl
theorem bcy{K:TI→Prop}:@tyW Tryz.prog 46 ⟨K⟩=K aEk:=qg bdy
theorem aHB:aEk.kd=Kd.oth:=ID rfl
theorem asB:aEk.kd.agg=false:=ID rfl
theorem aln:aEk.size=1:=ID rfl
theorem af6:aEk.bytes=8:=ID rfl
theorem aHz:qw aEk=True:=eq_true rfl
theorem aHA:zc aEk=[.v Value.nilFunc]:=ID rfl
theorem bcx{K:TI→Prop}:@tyW Tryz.prog 47 ⟨K⟩=K aEj:=qg bdx
theorem aHy:aEj.kd=Kd.oth:=ID rfl
theorem asA:aEj.kd.agg=false:=ID rfl
theorem alm:aEj.size=1:=ID rfl
theorem af5:aEj.bytes=8:=ID rfl
theorem aHw:qw aEj=True:=eq_true rfl
theorem aHx:zc aEj=[.v Value.nilFunc]:=ID rfl
theorem bcw{K:TI→Prop}:@tyW Tryz.prog 48 ⟨K⟩=K aEi:=qg bdw
theorem aHv:aEi.kd=Kd.oth:=ID rfl
theorem asz:aEi.kd.agg=false:=ID rfl
theorem alk:aEi.size=1:=ID rfl
theorem af4:aEi.bytes=8:=ID rfl
theorem aHt:qw aEi=True:=eq_true rfl
theorem aHu:zc aEi=[.v Value.nilFunc]:=ID rfl
theorem bcv{K:TI→Prop}:@tyW Tryz.prog 49 ⟨K⟩=K aEh:=qg bdv
theorem aHs:aEh.kd=Kd.oth:=ID rfl
theorem asy:aEh.kd.agg=false:=ID rfl
theorem alj:aEh.size=1:=ID rfl
theorem af3:aEh.bytes=8:=ID rfl
theorem aHq:qw aEh=True:=eq_true rfl
theorem aHr:zc aEh=[.v Value.nilFunc]:=ID rfl
theorem bcu{K:TI→Prop}:@tyW Tryz.prog 50 ⟨K⟩=K alh:=qg aTX
theorem aHo:alh.kd=Kd.stru [(0,40),(3,40)]:=ID rfl
theorem asw:alh.kd.agg=true:=ID rfl
theorem alg:alh.size=6:=ID rfl
theorem af2:alh.bytes=80:=ID rfl
theorem aHm:qw alh=True:=eq_true rfl
theorem aHn:zc alh=[.v (Value.bool false),.v (Value.slice none 0 0),.v (Value.int IntKind.i64 0),.v (Value.bool false),.v (Value.slice none 0 0),.v (Value.int IntKind.i64 0)]:=ID rfl
theorem aLj{K:Nat→TI→Prop}:@qB Tryz.prog 50 0 ⟨K⟩=K 0 Zh:=qr (ti:=alh) (tf:=Zh) (fo:=(0,40)) (fs:=[(0,40),(3,40)]) aTX rfl rfl KR
theorem aOn{K:Nat→Nat→Prop}:qs Tryz.prog [(0,40),(3,40)] 0 K=K 0 3:=qq (tf:=Zh) (fo:=(0,40)) (fs:=[(0,40),(3,40)]) rfl KR
theorem aLi{K:Nat→TI→Prop}:@qB Tryz.prog 50 1 ⟨K⟩=K 3 Zh:=qr (ti:=alh) (tf:=Zh) (fo:=(3,40)) (fs:=[(0,40),(3,40)]) aTX rfl rfl KR
theorem aOm{K:Nat→Nat→Prop}:qs Tryz.prog [(0,40),(3,40)] 1 K=K 3 3:=qq (tf:=Zh) (fo:=(3,40)) (fs:=[(0,40),(3,40)]) rfl KR
theorem aPi:∀f∈([(0,40),(3,40)]:List (Nat×Nat)),(qn Tryz.prog f.2).isSome=true:=by
 intro f hf
 simp only[List.mem_cons,List.not_mem_nil,or_false]at hf
 rcases hf with rfl|rfl
 ·rw[KR];rfl
 ·rw[KR];rfl
theorem bbo{ps:List (Nat×AV)}{K:AV→Prop}:@zp Tryz.prog 50 ps ⟨K⟩=@zn (qs Tryz.prog [(0,40),(3,40)]) (zc alh) ps ⟨fun cs=>K (.ag cs)⟩:=qN aTX rfl aPi
theorem bct{K:TI→Prop}:@tyW Tryz.prog 51 ⟨K⟩=K akj:=qg aNG
theorem aHl:akj.kd=Kd.stru [(0,40),(3,40)]:=ID rfl
theorem asv:akj.kd.agg=true:=ID rfl
theorem alf:akj.size=6:=ID rfl
theorem af1:akj.bytes=80:=ID rfl
theorem aHj:qw akj=True:=eq_true rfl
theorem aHk:zc akj=[.v (Value.bool false),.v (Value.slice none 0 0),.v (Value.int IntKind.i64 0),.v (Value.bool false),.v (Value.slice none 0 0),.v (Value.int IntKind.i64 0)]:=ID rfl
theorem aLh{K:Nat→TI→Prop}:@qB Tryz.prog 51 0 ⟨K⟩=K 0 Zh:=qr (ti:=akj) (tf:=Zh) (fo:=(0,40)) (fs:=[(0,40),(3,40)]) aNG rfl rfl KR
theorem aOl{K:Nat→Nat→Prop}:qs Tryz.prog [(0,40),(3,40)] 0 K=K 0 3:=qq (tf:=Zh) (fo:=(0,40)) (fs:=[(0,40),(3,40)]) rfl KR
theorem aLg{K:Nat→TI→Prop}:@qB Tryz.prog 51 1 ⟨K⟩=K 3 Zh:=qr (ti:=akj) (tf:=Zh) (fo:=(3,40)) (fs:=[(0,40),(3,40)]) aNG rfl rfl KR
theorem aOk{K:Nat→Nat→Prop}:qs Tryz.prog [(0,40),(3,40)] 1 K=K 3 3:=qq (tf:=Zh) (fo:=(3,40)) (fs:=[(0,40),(3,40)]) rfl KR
theorem aPh:∀f∈([(0,40),(3,40)]:List (Nat×Nat)),(qn Tryz.prog f.2).isSome=true:=by
 intro f hf
 simp only[List.mem_cons,List.not_mem_nil,or_false]at hf
 rcases hf with rfl|rfl
 ·rw[KR];rfl
 ·rw[KR];rfl
theorem bbn{ps:List (Nat×AV)}{K:AV→Prop}:@zp Tryz.prog 51 ps ⟨K⟩=@zn (qs Tryz.prog [(0,40),(3,40)]) (zc akj) ps ⟨fun cs=>K (.ag cs)⟩:=qN aNG rfl aPh
theorem bcs{K:TI→Prop}:@tyW Tryz.prog 53 ⟨K⟩=K aEg:=qg bdu
theorem aHi:aEg.kd=Kd.oth:=ID rfl
theorem asu:aEg.kd.agg=false:=ID rfl
theorem ale:aEg.size=1:=ID rfl
theorem af0:aEg.bytes=8:=ID rfl
theorem aHg:qw aEg=True:=eq_true rfl
theorem aHh:zc aEg=[.v Value.nilFunc]:=ID rfl
theorem bcr{K:TI→Prop}:@tyW Tryz.prog 55 ⟨K⟩=K aEf:=qg bdt
theorem aHf:aEf.kd=Kd.oth:=ID rfl
theorem ast:aEf.kd.agg=false:=ID rfl
theorem ald:aEf.size=1:=ID rfl
theorem afZ:aEf.bytes=8:=ID rfl
theorem aHd:qw aEf=True:=eq_true rfl
theorem aHe:zc aEf=[.v Value.nilFunc]:=ID rfl
theorem bcq{K:TI→Prop}:@tyW Tryz.prog 56 ⟨K⟩=K aEe:=qg bds
theorem aHc:aEe.kd=Kd.oth:=ID rfl
theorem ass:aEe.kd.agg=false:=ID rfl
theorem alc:aEe.size=1:=ID rfl
theorem afY:aEe.bytes=8:=ID rfl
theorem aHa:qw aEe=True:=eq_true rfl
theorem aHb:zc aEe=[.v Value.nilFunc]:=ID rfl
theorem bcp{K:TI→Prop}:@tyW Tryz.prog 57 ⟨K⟩=K aEd:=qg bdr
theorem aG9:aEd.kd=Kd.oth:=ID rfl
theorem asr:aEd.kd.agg=false:=ID rfl
theorem alb:aEd.size=1:=ID rfl
theorem afX:aEd.bytes=8:=ID rfl
theorem aG7:qw aEd=True:=eq_true rfl
theorem aG8:zc aEd=[.v Value.nilFunc]:=ID rfl
theorem bco{K:TI→Prop}:@tyW Tryz.prog 58 ⟨K⟩=K aEc:=qg bdq
theorem aG6:aEc.kd=Kd.oth:=ID rfl
theorem asq:aEc.kd.agg=false:=ID rfl
theorem ala:aEc.size=1:=ID rfl
theorem afW:aEc.bytes=8:=ID rfl
theorem aG4:qw aEc=True:=eq_true rfl
theorem aG5:zc aEc=[.v Value.nilFunc]:=ID rfl
theorem bcn{K:TI→Prop}:@tyW Tryz.prog 60 ⟨K⟩=K aEb:=qg bdp
theorem aG2:aEb.kd=Kd.oth:=ID rfl
theorem aso:aEb.kd.agg=false:=ID rfl
theorem ak8:aEb.size=1:=ID rfl
theorem afV:aEb.bytes=8:=ID rfl
theorem aG0:qw aEb=True:=eq_true rfl
theorem aG1:zc aEb=[.v Value.nilFunc]:=ID rfl
theorem bcm{K:TI→Prop}:@tyW Tryz.prog 61 ⟨K⟩=K aEa:=qg bdo
theorem aGZ:aEa.kd=Kd.oth:=ID rfl
theorem asn:aEa.kd.agg=false:=ID rfl
theorem ak7:aEa.size=1:=ID rfl
theorem afU:aEa.bytes=8:=ID rfl
theorem aGX:qw aEa=True:=eq_true rfl
theorem aGY:zc aEa=[.v Value.nilFunc]:=ID rfl
theorem bcl{K:TI→Prop}:@tyW Tryz.prog 62 ⟨K⟩=K aD9:=qg bdn
theorem aGW:aD9.kd=Kd.oth:=ID rfl
theorem asm:aD9.kd.agg=false:=ID rfl
theorem ak6:aD9.size=1:=ID rfl
theorem afT:aD9.bytes=8:=ID rfl
theorem aGU:qw aD9=True:=eq_true rfl
theorem aGV:zc aD9=[.v Value.nilFunc]:=ID rfl
theorem bck{K:TI→Prop}:@tyW Tryz.prog 63 ⟨K⟩=K aD8:=qg bdm
theorem aGT:aD8.kd=Kd.oth:=ID rfl
theorem asl:aD8.kd.agg=false:=ID rfl
theorem ak5:aD8.size=1:=ID rfl
theorem afS:aD8.bytes=8:=ID rfl
theorem aGR:qw aD8=True:=eq_true rfl
theorem aGS:zc aD8=[.v Value.nilFunc]:=ID rfl
theorem bcj{K:TI→Prop}:@tyW Tryz.prog 64 ⟨K⟩=K aD7:=qg bdl
theorem aGQ:aD7.kd=Kd.oth:=ID rfl
theorem ask:aD7.kd.agg=false:=ID rfl
theorem ak4:aD7.size=1:=ID rfl
theorem afR:aD7.bytes=8:=ID rfl
theorem aGO:qw aD7=True:=eq_true rfl
theorem aGP:zc aD7=[.v Value.nilFunc]:=ID rfl
theorem bci{K:TI→Prop}:@tyW Tryz.prog 65 ⟨K⟩=K aD6:=qg bdk
theorem aGN:aD6.kd=Kd.oth:=ID rfl
theorem asj:aD6.kd.agg=false:=ID rfl
theorem ak3:aD6.size=1:=ID rfl
theorem afQ:aD6.bytes=8:=ID rfl
theorem aGL:qw aD6=True:=eq_true rfl
theorem aGM:zc aD6=[.v Value.nilFunc]:=ID rfl
theorem bch{K:TI→Prop}:@tyW Tryz.prog 66 ⟨K⟩=K aD5:=qg bdj
theorem aGK:aD5.kd=Kd.oth:=ID rfl
theorem asi:aD5.kd.agg=false:=ID rfl
theorem ak2:aD5.size=1:=ID rfl
theorem afP:aD5.bytes=8:=ID rfl
theorem aGI:qw aD5=True:=eq_true rfl
theorem aGJ:zc aD5=[.v Value.nilFunc]:=ID rfl
theorem bcg{K:TI→Prop}:@tyW Tryz.prog 68 ⟨K⟩=K aD4:=qg bdi
theorem aGH:aD4.kd=Kd.oth:=ID rfl
theorem ash:aD4.kd.agg=false:=ID rfl
theorem ak1:aD4.size=1:=ID rfl
theorem afO:aD4.bytes=8:=ID rfl
theorem aGF:qw aD4=True:=eq_true rfl
theorem aGG:zc aD4=[.v Value.nilFunc]:=ID rfl
theorem bcf{K:TI→Prop}:@tyW Tryz.prog 69 ⟨K⟩=K aeJ:=qg aEy
theorem aGE:aeJ.kd=Kd.sli 51:=ID rfl
theorem asg:aeJ.kd.agg=false:=ID rfl
theorem ak0:aeJ.size=1:=ID rfl
theorem afN:aeJ.bytes=24:=ID rfl
theorem aGC:qw aeJ=True:=eq_true rfl
theorem aGD:zc aeJ=[.v (Value.slice none 0 0)]:=ID rfl
theorem aYZ{K:TI→Prop}:@yJ Tryz.prog 69 ⟨K⟩=K akj:=ZD aEy rfl aNG
theorem bce{K:TI→Prop}:@tyW Tryz.prog 71 ⟨K⟩=K aD3:=qg bdh
theorem aGA:aD3.kd=Kd.oth:=ID rfl
theorem ase:aD3.kd.agg=false:=ID rfl
theorem akY:aD3.size=1:=ID rfl
theorem afM:aD3.bytes=8:=ID rfl
theorem aGy:qw aD3=True:=eq_true rfl
theorem aGz:zc aD3=[.v Value.nilFunc]:=ID rfl
theorem bcd{K:TI→Prop}:@tyW Tryz.prog 73 ⟨K⟩=K aD2:=qg bdg
theorem aGx:aD2.kd=Kd.oth:=ID rfl
theorem asd:aD2.kd.agg=false:=ID rfl
theorem akX:aD2.size=1:=ID rfl
theorem afL:aD2.bytes=8:=ID rfl
theorem aGv:qw aD2=True:=eq_true rfl
theorem aGw:zc aD2=[.v Value.nilFunc]:=ID rfl
theorem bcc{K:TI→Prop}:@tyW Tryz.prog 74 ⟨K⟩=K aD1:=qg bdf
theorem aGu:aD1.kd=Kd.oth:=ID rfl
theorem asc:aD1.kd.agg=false:=ID rfl
theorem akW:aD1.size=1:=ID rfl
theorem afK:aD1.bytes=8:=ID rfl
theorem aGs:qw aD1=True:=eq_true rfl
theorem aGt:zc aD1=[.v Value.nilFunc]:=ID rfl
theorem bcb{K:TI→Prop}:@tyW Tryz.prog 75 ⟨K⟩=K aD0:=qg bde
theorem aGr:aD0.kd=Kd.oth:=ID rfl
theorem asb:aD0.kd.agg=false:=ID rfl
theorem akV:aD0.size=1:=ID rfl
theorem afJ:aD0.bytes=8:=ID rfl
theorem aGp:qw aD0=True:=eq_true rfl
theorem aGq:zc aD0=[.v Value.nilFunc]:=ID rfl
theorem bca{K:TI→Prop}:@tyW Tryz.prog 77 ⟨K⟩=K aDZ:=qg bdd
theorem aGo:aDZ.kd=Kd.oth:=ID rfl
theorem asa:aDZ.kd.agg=false:=ID rfl
theorem akU:aDZ.size=1:=ID rfl
theorem afI:aDZ.bytes=8:=ID rfl
theorem aGm:qw aDZ=True:=eq_true rfl
theorem aGn:zc aDZ=[.v Value.nilFunc]:=ID rfl
theorem bb9{K:TI→Prop}:@tyW Tryz.prog 79 ⟨K⟩=K aDY:=qg bdc
theorem aGl:aDY.kd=Kd.oth:=ID rfl
theorem ar9:aDY.kd.agg=false:=ID rfl
theorem akT:aDY.size=1:=ID rfl
theorem afH:aDY.bytes=8:=ID rfl
theorem aGj:qw aDY=True:=eq_true rfl
theorem aGk:zc aDY=[.v Value.nilFunc]:=ID rfl
theorem bb8{K:TI→Prop}:@tyW Tryz.prog 80 ⟨K⟩=K aDX:=qg bdb
theorem aGh:aDX.kd=Kd.oth:=ID rfl
theorem ar7:aDX.kd.agg=false:=ID rfl
theorem akR:aDX.size=1:=ID rfl
theorem afG:aDX.bytes=8:=ID rfl
theorem aGf:qw aDX=True:=eq_true rfl
theorem aGg:zc aDX=[.v Value.nilFunc]:=ID rfl
theorem bb7{K:TI→Prop}:@tyW Tryz.prog 81 ⟨K⟩=K akQ:=qg aTW
theorem aGe:akQ.kd=Kd.stru [(0,3),(1,69)]:=ID rfl
theorem ar6:akQ.kd.agg=true:=ID rfl
theorem akP:akQ.size=2:=ID rfl
theorem afF:akQ.bytes=32:=ID rfl
theorem aGc:qw akQ=True:=eq_true rfl
theorem aGd:zc akQ=[.v (Value.int IntKind.i64 0),.v (Value.slice none 0 0)]:=ID rfl
theorem aLf{K:Nat→TI→Prop}:@qB Tryz.prog 81 0 ⟨K⟩=K 0 ti3:=qr (ti:=akQ) (tf:=ti3) (fo:=(0,3)) (fs:=[(0,3),(1,69)]) aTW rfl rfl tf3
theorem aOj{K:Nat→Nat→Prop}:qs Tryz.prog [(0,3),(1,69)] 0 K=K 0 1:=qq (tf:=ti3) (fo:=(0,3)) (fs:=[(0,3),(1,69)]) rfl tf3
theorem aLe{K:Nat→TI→Prop}:@qB Tryz.prog 81 1 ⟨K⟩=K 1 aeJ:=qr (ti:=akQ) (tf:=aeJ) (fo:=(1,69)) (fs:=[(0,3),(1,69)]) aTW rfl rfl aEy
theorem aOi{K:Nat→Nat→Prop}:qs Tryz.prog [(0,3),(1,69)] 1 K=K 1 1:=qq (tf:=aeJ) (fo:=(1,69)) (fs:=[(0,3),(1,69)]) rfl aEy
theorem aPg:∀f∈([(0,3),(1,69)]:List (Nat×Nat)),(qn Tryz.prog f.2).isSome=true:=by
 intro f hf
 simp only[List.mem_cons,List.not_mem_nil,or_false]at hf
 rcases hf with rfl|rfl
 ·rw[tf3];rfl
 ·rw[aEy];rfl
theorem bbm{ps:List (Nat×AV)}{K:AV→Prop}:@zp Tryz.prog 81 ps ⟨K⟩=@zn (qs Tryz.prog [(0,3),(1,69)]) (zc akQ) ps ⟨fun cs=>K (.ag cs)⟩:=qN aTW rfl aPg
theorem bb6{K:TI→Prop}:@tyW Tryz.prog 82 ⟨K⟩=K akO:=qg aTV
theorem aGb:akO.kd=Kd.stru [(0,3),(1,69)]:=ID rfl
theorem ar5:akO.kd.agg=true:=ID rfl
theorem akN:akO.size=2:=ID rfl
theorem afE:akO.bytes=32:=ID rfl
theorem aF9:qw akO=True:=eq_true rfl
theorem aGa:zc akO=[.v (Value.int IntKind.i64 0),.v (Value.slice none 0 0)]:=ID rfl
theorem aLd{K:Nat→TI→Prop}:@qB Tryz.prog 82 0 ⟨K⟩=K 0 ti3:=qr (ti:=akO) (tf:=ti3) (fo:=(0,3)) (fs:=[(0,3),(1,69)]) aTV rfl rfl tf3
theorem aOh{K:Nat→Nat→Prop}:qs Tryz.prog [(0,3),(1,69)] 0 K=K 0 1:=qq (tf:=ti3) (fo:=(0,3)) (fs:=[(0,3),(1,69)]) rfl tf3
theorem aLc{K:Nat→TI→Prop}:@qB Tryz.prog 82 1 ⟨K⟩=K 1 aeJ:=qr (ti:=akO) (tf:=aeJ) (fo:=(1,69)) (fs:=[(0,3),(1,69)]) aTV rfl rfl aEy
theorem aOg{K:Nat→Nat→Prop}:qs Tryz.prog [(0,3),(1,69)] 1 K=K 1 1:=qq (tf:=aeJ) (fo:=(1,69)) (fs:=[(0,3),(1,69)]) rfl aEy
theorem aPf:∀f∈([(0,3),(1,69)]:List (Nat×Nat)),(qn Tryz.prog f.2).isSome=true:=by
 intro f hf
 simp only[List.mem_cons,List.not_mem_nil,or_false]at hf
 rcases hf with rfl|rfl
 ·rw[tf3];rfl
 ·rw[aEy];rfl
theorem bbl{ps:List (Nat×AV)}{K:AV→Prop}:@zp Tryz.prog 82 ps ⟨K⟩=@zn (qs Tryz.prog [(0,3),(1,69)]) (zc akO) ps ⟨fun cs=>K (.ag cs)⟩:=qN aTV rfl aPf
theorem bb5{K:TI→Prop}:@tyW Tryz.prog 84 ⟨K⟩=K aDW:=qg bda
theorem aF8:aDW.kd=Kd.oth:=ID rfl
theorem ar4:aDW.kd.agg=false:=ID rfl
theorem akM:aDW.size=1:=ID rfl
theorem afD:aDW.bytes=8:=ID rfl
theorem aF6:qw aDW=True:=eq_true rfl
theorem aF7:zc aDW=[.v Value.nilFunc]:=ID rfl
theorem bb4{K:TI→Prop}:@tyW Tryz.prog 86 ⟨K⟩=K aDV:=qg bc9
theorem aF5:aDV.kd=Kd.oth:=ID rfl
theorem ar3:aDV.kd.agg=false:=ID rfl
theorem akL:aDV.size=1:=ID rfl
theorem afC:aDV.bytes=8:=ID rfl
theorem aF3:qw aDV=True:=eq_true rfl
theorem aF4:zc aDV=[.v Value.nilFunc]:=ID rfl
theorem bb3{K:TI→Prop}:@tyW Tryz.prog 87 ⟨K⟩=K aDU:=qg bc8
theorem aF2:aDU.kd=Kd.oth:=ID rfl
theorem ar2:aDU.kd.agg=false:=ID rfl
theorem akK:aDU.size=1:=ID rfl
theorem afB:aDU.bytes=8:=ID rfl
theorem aF0:qw aDU=True:=eq_true rfl
theorem aF1:zc aDU=[.v Value.nilFunc]:=ID rfl
theorem bb2{K:TI→Prop}:@tyW Tryz.prog 88 ⟨K⟩=K aDT:=qg bc7
theorem aFZ:aDT.kd=Kd.oth:=ID rfl
theorem ar1:aDT.kd.agg=false:=ID rfl
theorem akJ:aDT.size=1:=ID rfl
theorem afA:aDT.bytes=8:=ID rfl
theorem aFX:qw aDT=True:=eq_true rfl
theorem aFY:zc aDT=[.v Value.nilFunc]:=ID rfl
theorem bb1{K:TI→Prop}:@tyW Tryz.prog 89 ⟨K⟩=K aDS:=qg bc6
theorem aFW:aDS.kd=Kd.oth:=ID rfl
theorem ar0:aDS.kd.agg=false:=ID rfl
theorem akI:aDS.size=1:=ID rfl
theorem afz:aDS.bytes=8:=ID rfl
theorem aFU:qw aDS=True:=eq_true rfl
theorem aFV:zc aDS=[.v Value.nilFunc]:=ID rfl
theorem bb0{K:TI→Prop}:@tyW Tryz.prog 91 ⟨K⟩=K aDR:=qg bc5
theorem aFS:aDR.kd=Kd.oth:=ID rfl
theorem arY:aDR.kd.agg=false:=ID rfl
theorem akG:aDR.size=1:=ID rfl
theorem afy:aDR.bytes=8:=ID rfl
theorem aFQ:qw aDR=True:=eq_true rfl
theorem aFR:zc aDR=[.v Value.nilFunc]:=ID rfl
theorem bbZ{K:TI→Prop}:@tyW Tryz.prog 92 ⟨K⟩=K aDQ:=qg bc4
theorem aFP:aDQ.kd=Kd.oth:=ID rfl
theorem arX:aDQ.kd.agg=false:=ID rfl
theorem akF:aDQ.size=1:=ID rfl
theorem afx:aDQ.bytes=8:=ID rfl
theorem aFN:qw aDQ=True:=eq_true rfl
theorem aFO:zc aDQ=[.v Value.nilFunc]:=ID rfl
theorem bbY{K:TI→Prop}:@tyW Tryz.prog 93 ⟨K⟩=K aDP:=qg bc3
theorem aFM:aDP.kd=Kd.oth:=ID rfl
theorem arW:aDP.kd.agg=false:=ID rfl
theorem akE:aDP.size=1:=ID rfl
theorem afw:aDP.bytes=8:=ID rfl
theorem aFK:qw aDP=True:=eq_true rfl
theorem aFL:zc aDP=[.v Value.nilFunc]:=ID rfl
theorem bbX{K:TI→Prop}:@tyW Tryz.prog 94 ⟨K⟩=K aDO:=qg bc2
theorem aFJ:aDO.kd=Kd.oth:=ID rfl
theorem arV:aDO.kd.agg=false:=ID rfl
theorem akD:aDO.size=1:=ID rfl
theorem afv:aDO.bytes=8:=ID rfl
theorem aFH:qw aDO=True:=eq_true rfl
theorem aFI:zc aDO=[.v Value.nilFunc]:=ID rfl
theorem bbW{K:TI→Prop}:@tyW Tryz.prog 96 ⟨K⟩=K aDN:=qg bc1
theorem aFG:aDN.kd=Kd.oth:=ID rfl
theorem arU:aDN.kd.agg=false:=ID rfl
theorem akC:aDN.size=1:=ID rfl
theorem afu:aDN.bytes=8:=ID rfl
theorem aFE:qw aDN=True:=eq_true rfl
theorem aFF:zc aDN=[.v Value.nilFunc]:=ID rfl
theorem bbV{K:TI→Prop}:@tyW Tryz.prog 97 ⟨K⟩=K aDM:=qg bc0
theorem aFD:aDM.kd=Kd.oth:=ID rfl
theorem arT:aDM.kd.agg=false:=ID rfl
theorem akB:aDM.size=1:=ID rfl
theorem aft:aDM.bytes=8:=ID rfl
theorem aFB:qw aDM=True:=eq_true rfl
theorem aFC:zc aDM=[.v Value.nilFunc]:=ID rfl
theorem bbU{K:TI→Prop}:@tyW Tryz.prog 98 ⟨K⟩=K aDL:=qg bcZ
theorem aFA:aDL.kd=Kd.oth:=ID rfl
theorem arS:aDL.kd.agg=false:=ID rfl
theorem akA:aDL.size=1:=ID rfl
theorem afs:aDL.bytes=8:=ID rfl
theorem aFy:qw aDL=True:=eq_true rfl
theorem aFz:zc aDL=[.v Value.nilFunc]:=ID rfl
theorem bbT{K:TI→Prop}:@tyW Tryz.prog 99 ⟨K⟩=K aDK:=qg bcY
theorem aFx:aDK.kd=Kd.oth:=ID rfl
theorem arR:aDK.kd.agg=false:=ID rfl
theorem akz:aDK.size=1:=ID rfl
theorem afr:aDK.bytes=8:=ID rfl
theorem aFv:qw aDK=True:=eq_true rfl
theorem aFw:zc aDK=[.v Value.nilFunc]:=ID rfl
theorem aWA{K:TI→Prop}:@tyW Tryz.prog 100 ⟨K⟩=K KO:=qg aYU
theorem aAC:KO.kd=Kd.oth:=ID rfl
theorem aot:KO.kd.agg=false:=ID rfl
theorem ai1:KO.size=1:=ID rfl
theorem adD:KO.bytes=8:=ID rfl
theorem aAA:qw KO=True:=eq_true rfl
theorem aAB:zc KO=[.v Value.nilFunc]:=ID rfl
theorem aWz{K:TI→Prop}:@tyW Tryz.prog 101 ⟨K⟩=K KN:=qg aYT
theorem aAz:KN.kd=Kd.oth:=ID rfl
theorem aos:KN.kd.agg=false:=ID rfl
theorem ai0:KN.size=1:=ID rfl
theorem adC:KN.bytes=8:=ID rfl
theorem aAx:qw KN=True:=eq_true rfl
theorem aAy:zc KN=[.v Value.nilFunc]:=ID rfl
theorem aWy{K:TI→Prop}:@tyW Tryz.prog 102 ⟨K⟩=K KM:=qg aYS
theorem aAw:KM.kd=Kd.oth:=ID rfl
theorem aor:KM.kd.agg=false:=ID rfl
theorem aiZ:KM.size=1:=ID rfl
theorem adB:KM.bytes=8:=ID rfl
theorem aAu:qw KM=True:=eq_true rfl
theorem aAv:zc KM=[.v Value.nilFunc]:=ID rfl
theorem aWx{K:TI→Prop}:@tyW Tryz.prog 103 ⟨K⟩=K KL:=qg aYR
theorem aAt:KL.kd=Kd.oth:=ID rfl
theorem aoq:KL.kd.agg=false:=ID rfl
theorem aiY:KL.size=1:=ID rfl
theorem adA:KL.bytes=8:=ID rfl
theorem aAr:qw KL=True:=eq_true rfl
theorem aAs:zc KL=[.v Value.nilFunc]:=ID rfl
theorem aWw{K:TI→Prop}:@tyW Tryz.prog 105 ⟨K⟩=K KK:=qg aYQ
theorem aAq:KK.kd=Kd.oth:=ID rfl
theorem aop:KK.kd.agg=false:=ID rfl
theorem aiX:KK.size=1:=ID rfl
theorem adz:KK.bytes=8:=ID rfl
theorem aAo:qw KK=True:=eq_true rfl
theorem aAp:zc KK=[.v Value.nilFunc]:=ID rfl
theorem aWv{K:TI→Prop}:@tyW Tryz.prog 106 ⟨K⟩=K KJ:=qg aYP
theorem aAn:KJ.kd=Kd.oth:=ID rfl
theorem aoo:KJ.kd.agg=false:=ID rfl
theorem aiW:KJ.size=1:=ID rfl
theorem ady:KJ.bytes=8:=ID rfl
theorem aAl:qw KJ=True:=eq_true rfl
theorem aAm:zc KJ=[.v Value.nilFunc]:=ID rfl
theorem aWu{K:TI→Prop}:@tyW Tryz.prog 107 ⟨K⟩=K KI:=qg aYO
theorem aAk:KI.kd=Kd.oth:=ID rfl
theorem aon:KI.kd.agg=false:=ID rfl
theorem aiV:KI.size=1:=ID rfl
theorem adx:KI.bytes=8:=ID rfl
theorem aAi:qw KI=True:=eq_true rfl
theorem aAj:zc KI=[.v Value.nilFunc]:=ID rfl
theorem aWt{K:TI→Prop}:@tyW Tryz.prog 108 ⟨K⟩=K KH:=qg aYN
theorem aAh:KH.kd=Kd.oth:=ID rfl
theorem aom:KH.kd.agg=false:=ID rfl
theorem aiU:KH.size=1:=ID rfl
theorem adw:KH.bytes=8:=ID rfl
theorem aAf:qw KH=True:=eq_true rfl
theorem aAg:zc KH=[.v Value.nilFunc]:=ID rfl
theorem aWs{K:TI→Prop}:@tyW Tryz.prog 109 ⟨K⟩=K KG:=qg aYM
theorem aAe:KG.kd=Kd.oth:=ID rfl
theorem aol:KG.kd.agg=false:=ID rfl
theorem aiT:KG.size=1:=ID rfl
theorem adv:KG.bytes=8:=ID rfl
theorem aAc:qw KG=True:=eq_true rfl
theorem aAd:zc KG=[.v Value.nilFunc]:=ID rfl
theorem aWr{K:TI→Prop}:@tyW Tryz.prog 110 ⟨K⟩=K KF:=qg aYL
theorem aAa:KF.kd=Kd.oth:=ID rfl
theorem aoj:KF.kd.agg=false:=ID rfl
theorem aiR:KF.size=1:=ID rfl
theorem adu:KF.bytes=8:=ID rfl
theorem az8:qw KF=True:=eq_true rfl
theorem az9:zc KF=[.v Value.nilFunc]:=ID rfl
theorem aWq{K:TI→Prop}:@tyW Tryz.prog 111 ⟨K⟩=K yR:=qg Yp
theorem az7:yR.kd=Kd.sli 118:=ID rfl
theorem aoi:yR.kd.agg=false:=ID rfl
theorem aiQ:yR.size=1:=ID rfl
theorem adt:yR.bytes=24:=ID rfl
theorem az5:qw yR=True:=eq_true rfl
theorem az6:zc yR=[.v (Value.slice none 0 0)]:=ID rfl
theorem aN0{K:TI→Prop}:@yJ Tryz.prog 111 ⟨K⟩=K je:=ZD Yp rfl yb
theorem aWp{K:TI→Prop}:@tyW Tryz.prog 112 ⟨K⟩=K Zw:=qg aAL
theorem az4:Zw.kd=Kd.stru [(0,3),(1,111)]:=ID rfl
theorem aoh:Zw.kd.agg=true:=ID rfl
theorem aiP:Zw.size=2:=ID rfl
theorem ads:Zw.bytes=32:=ID rfl
theorem az2:qw Zw=True:=eq_true rfl
theorem az3:zc Zw=[.v (Value.int IntKind.i64 0),.v (Value.slice none 0 0)]:=ID rfl
theorem aCG{K:Nat→TI→Prop}:@qB Tryz.prog 112 0 ⟨K⟩=K 0 ti3:=qr (ti:=Zw) (tf:=ti3) (fo:=(0,3)) (fs:=[(0,3),(1,111)]) aAL rfl rfl tf3
theorem aJL{K:Nat→Nat→Prop}:qs Tryz.prog [(0,3),(1,111)] 0 K=K 0 1:=qq (tf:=ti3) (fo:=(0,3)) (fs:=[(0,3),(1,111)]) rfl tf3
theorem aCF{K:Nat→TI→Prop}:@qB Tryz.prog 112 1 ⟨K⟩=K 1 yR:=qr (ti:=Zw) (tf:=yR) (fo:=(1,111)) (fs:=[(0,3),(1,111)]) aAL rfl rfl Yp
theorem aJK{K:Nat→Nat→Prop}:qs Tryz.prog [(0,3),(1,111)] 1 K=K 1 1:=qq (tf:=yR) (fo:=(1,111)) (fs:=[(0,3),(1,111)]) rfl Yp
theorem aK6:∀f∈([(0,3),(1,111)]:List (Nat×Nat)),(qn Tryz.prog f.2).isSome=true:=by
 intro f hf
 simp only[List.mem_cons,List.not_mem_nil,or_false]at hf
 rcases hf with rfl|rfl
 ·rw[tf3];rfl
 ·rw[Yp];rfl
theorem aTr{ps:List (Nat×AV)}{K:AV→Prop}:@zp Tryz.prog 112 ps ⟨K⟩=@zn (qs Tryz.prog [(0,3),(1,111)]) (zc Zw) ps ⟨fun cs=>K (.ag cs)⟩:=qN aAL rfl aK6
theorem aWo{K:TI→Prop}:@tyW Tryz.prog 113 ⟨K⟩=K Zv:=qg aAK
theorem az1:Zv.kd=Kd.stru [(0,3),(1,111)]:=ID rfl
theorem aog:Zv.kd.agg=true:=ID rfl
theorem aiO:Zv.size=2:=ID rfl
theorem adr:Zv.bytes=32:=ID rfl
theorem azZ:qw Zv=True:=eq_true rfl
theorem az0:zc Zv=[.v (Value.int IntKind.i64 0),.v (Value.slice none 0 0)]:=ID rfl
theorem aCE{K:Nat→TI→Prop}:@qB Tryz.prog 113 0 ⟨K⟩=K 0 ti3:=qr (ti:=Zv) (tf:=ti3) (fo:=(0,3)) (fs:=[(0,3),(1,111)]) aAK rfl rfl tf3
theorem aJJ{K:Nat→Nat→Prop}:qs Tryz.prog [(0,3),(1,111)] 0 K=K 0 1:=qq (tf:=ti3) (fo:=(0,3)) (fs:=[(0,3),(1,111)]) rfl tf3
theorem aCD{K:Nat→TI→Prop}:@qB Tryz.prog 113 1 ⟨K⟩=K 1 yR:=qr (ti:=Zv) (tf:=yR) (fo:=(1,111)) (fs:=[(0,3),(1,111)]) aAK rfl rfl Yp
theorem aJI{K:Nat→Nat→Prop}:qs Tryz.prog [(0,3),(1,111)] 1 K=K 1 1:=qq (tf:=yR) (fo:=(1,111)) (fs:=[(0,3),(1,111)]) rfl Yp
theorem aK5:∀f∈([(0,3),(1,111)]:List (Nat×Nat)),(qn Tryz.prog f.2).isSome=true:=by
 intro f hf
 simp only[List.mem_cons,List.not_mem_nil,or_false]at hf
 rcases hf with rfl|rfl
 ·rw[tf3];rfl
 ·rw[Yp];rfl
theorem aTq{ps:List (Nat×AV)}{K:AV→Prop}:@zp Tryz.prog 113 ps ⟨K⟩=@zn (qs Tryz.prog [(0,3),(1,111)]) (zc Zv) ps ⟨fun cs=>K (.ag cs)⟩:=qN aAK rfl aK5
theorem aWn{K:TI→Prop}:@tyW Tryz.prog 114 ⟨K⟩=K KE:=qg aYK
theorem azY:KE.kd=Kd.oth:=ID rfl
theorem aof:KE.kd.agg=false:=ID rfl
theorem aiN:KE.size=1:=ID rfl
theorem adq:KE.bytes=8:=ID rfl
theorem azW:qw KE=True:=eq_true rfl
theorem azX:zc KE=[.v Value.nilFunc]:=ID rfl
theorem aWm{K:TI→Prop}:@tyW Tryz.prog 115 ⟨K⟩=K KD:=qg aYJ
theorem azV:KD.kd=Kd.oth:=ID rfl
theorem aoe:KD.kd.agg=false:=ID rfl
theorem aiM:KD.size=1:=ID rfl
theorem adp:KD.bytes=8:=ID rfl
theorem azT:qw KD=True:=eq_true rfl
theorem azU:zc KD=[.v Value.nilFunc]:=ID rfl
theorem aWl{K:TI→Prop}:@tyW Tryz.prog 116 ⟨K⟩=K KC:=qg aYI
theorem azS:KC.kd=Kd.oth:=ID rfl
theorem aod:KC.kd.agg=false:=ID rfl
theorem aiL:KC.size=1:=ID rfl
theorem ado:KC.bytes=8:=ID rfl
theorem azQ:qw KC=True:=eq_true rfl
theorem azR:zc KC=[.v Value.nilFunc]:=ID rfl
theorem aWk{K:TI→Prop}:@tyW Tryz.prog 117 ⟨K⟩=K Q6:=qg aoz
theorem azP:Q6.kd=Kd.stru [(0,4),(1,34),(2,3)]:=ID rfl
theorem aoc:Q6.kd.agg=true:=ID rfl
theorem aiK:Q6.size=3:=ID rfl
theorem adn:Q6.bytes=40:=ID rfl
theorem azN:qw Q6=True:=eq_true rfl
theorem azO:zc Q6=[.v (Value.bool false),.v (Value.slice none 0 0),.v (Value.int IntKind.i64 0)]:=ID rfl
theorem aCC{K:Nat→TI→Prop}:@qB Tryz.prog 117 0 ⟨K⟩=K 0 ti4:=qr (ti:=Q6) (tf:=ti4) (fo:=(0,4)) (fs:=[(0,4),(1,34),(2,3)]) aoz rfl rfl tf4
theorem aJH{K:Nat→Nat→Prop}:qs Tryz.prog [(0,4),(1,34),(2,3)] 0 K=K 0 1:=qq (tf:=ti4) (fo:=(0,4)) (fs:=[(0,4),(1,34),(2,3)]) rfl tf4
theorem aCB{K:Nat→TI→Prop}:@qB Tryz.prog 117 1 ⟨K⟩=K 1 JJ:=qr (ti:=Q6) (tf:=JJ) (fo:=(1,34)) (fs:=[(0,4),(1,34),(2,3)]) aoz rfl rfl aeM
theorem aJG{K:Nat→Nat→Prop}:qs Tryz.prog [(0,4),(1,34),(2,3)] 1 K=K 1 1:=qq (tf:=JJ) (fo:=(1,34)) (fs:=[(0,4),(1,34),(2,3)]) rfl aeM
theorem aCA{K:Nat→TI→Prop}:@qB Tryz.prog 117 2 ⟨K⟩=K 2 ti3:=qr (ti:=Q6) (tf:=ti3) (fo:=(2,3)) (fs:=[(0,4),(1,34),(2,3)]) aoz rfl rfl tf3
theorem aJF{K:Nat→Nat→Prop}:qs Tryz.prog [(0,4),(1,34),(2,3)] 2 K=K 2 1:=qq (tf:=ti3) (fo:=(2,3)) (fs:=[(0,4),(1,34),(2,3)]) rfl tf3
theorem aK4:∀f∈([(0,4),(1,34),(2,3)]:List (Nat×Nat)),(qn Tryz.prog f.2).isSome=true:=by
 intro f hf
 simp only[List.mem_cons,List.not_mem_nil,or_false]at hf
 rcases hf with rfl|rfl|rfl
 ·rw[tf4];rfl
 ·rw[aeM];rfl
 ·rw[tf3];rfl
theorem aTp{ps:List (Nat×AV)}{K:AV→Prop}:@zp Tryz.prog 117 ps ⟨K⟩=@zn (qs Tryz.prog [(0,4),(1,34),(2,3)]) (zc Q6) ps ⟨fun cs=>K (.ag cs)⟩:=qN aoz rfl aK4
theorem aWj{K:TI→Prop}:@tyW Tryz.prog 118 ⟨K⟩=K je:=qg yb
theorem azM:je.kd=Kd.stru [(0,4),(1,34),(2,3)]:=ID rfl
theorem aob:je.kd.agg=true:=ID rfl
theorem aiJ:je.size=3:=ID rfl
theorem adm:je.bytes=40:=ID rfl
theorem azK:qw je=True:=eq_true rfl
theorem azL:zc je=[.v (Value.bool false),.v (Value.slice none 0 0),.v (Value.int IntKind.i64 0)]:=ID rfl
theorem aCz{K:Nat→TI→Prop}:@qB Tryz.prog 118 0 ⟨K⟩=K 0 ti4:=qr (ti:=je) (tf:=ti4) (fo:=(0,4)) (fs:=[(0,4),(1,34),(2,3)]) yb rfl rfl tf4
theorem aJE{K:Nat→Nat→Prop}:qs Tryz.prog [(0,4),(1,34),(2,3)] 0 K=K 0 1:=qq (tf:=ti4) (fo:=(0,4)) (fs:=[(0,4),(1,34),(2,3)]) rfl tf4
theorem aCy{K:Nat→TI→Prop}:@qB Tryz.prog 118 1 ⟨K⟩=K 1 JJ:=qr (ti:=je) (tf:=JJ) (fo:=(1,34)) (fs:=[(0,4),(1,34),(2,3)]) yb rfl rfl aeM
theorem aJD{K:Nat→Nat→Prop}:qs Tryz.prog [(0,4),(1,34),(2,3)] 1 K=K 1 1:=qq (tf:=JJ) (fo:=(1,34)) (fs:=[(0,4),(1,34),(2,3)]) rfl aeM
theorem aCx{K:Nat→TI→Prop}:@qB Tryz.prog 118 2 ⟨K⟩=K 2 ti3:=qr (ti:=je) (tf:=ti3) (fo:=(2,3)) (fs:=[(0,4),(1,34),(2,3)]) yb rfl rfl tf3
theorem aJC{K:Nat→Nat→Prop}:qs Tryz.prog [(0,4),(1,34),(2,3)] 2 K=K 2 1:=qq (tf:=ti3) (fo:=(2,3)) (fs:=[(0,4),(1,34),(2,3)]) rfl tf3
theorem aK3:∀f∈([(0,4),(1,34),(2,3)]:List (Nat×Nat)),(qn Tryz.prog f.2).isSome=true:=by
 intro f hf
 simp only[List.mem_cons,List.not_mem_nil,or_false]at hf
 rcases hf with rfl|rfl|rfl
 ·rw[tf4];rfl
 ·rw[aeM];rfl
 ·rw[tf3];rfl
theorem aTo{ps:List (Nat×AV)}{K:AV→Prop}:@zp Tryz.prog 118 ps ⟨K⟩=@zn (qs Tryz.prog [(0,4),(1,34),(2,3)]) (zc je) ps ⟨fun cs=>K (.ag cs)⟩:=qN yb rfl aK3
theorem aWi{K:TI→Prop}:@tyW Tryz.prog 119 ⟨K⟩=K KB:=qg aYH
theorem azJ:KB.kd=Kd.oth:=ID rfl
theorem aoa:KB.kd.agg=false:=ID rfl
theorem aiI:KB.size=1:=ID rfl
theorem adl:KB.bytes=8:=ID rfl
theorem azH:qw KB=True:=eq_true rfl
theorem azI:zc KB=[.v Value.nilFunc]:=ID rfl
theorem aWh{K:TI→Prop}:@tyW Tryz.prog 120 ⟨K⟩=K KA:=qg aYG
theorem azF:KA.kd=Kd.oth:=ID rfl
theorem an8:KA.kd.agg=false:=ID rfl
theorem aiG:KA.size=1:=ID rfl
theorem adk:KA.bytes=8:=ID rfl
theorem azD:qw KA=True:=eq_true rfl
theorem azE:zc KA=[.v Value.nilFunc]:=ID rfl
theorem aWg{K:TI→Prop}:@tyW Tryz.prog 121 ⟨K⟩=K Kw:=qg aYF
theorem azC:Kw.kd=Kd.oth:=ID rfl
theorem an7:Kw.kd.agg=false:=ID rfl
theorem aiF:Kw.size=1:=ID rfl
theorem adj:Kw.bytes=8:=ID rfl
theorem azA:qw Kw=True:=eq_true rfl
theorem azB:zc Kw=[.v Value.nilFunc]:=ID rfl
theorem aWf{K:TI→Prop}:@tyW Tryz.prog 122 ⟨K⟩=K Kv:=qg aYE
theorem azz:Kv.kd=Kd.oth:=ID rfl
theorem an6:Kv.kd.agg=false:=ID rfl
theorem aiE:Kv.size=1:=ID rfl
theorem adi:Kv.bytes=8:=ID rfl
theorem azx:qw Kv=True:=eq_true rfl
theorem azy:zc Kv=[.v Value.nilFunc]:=ID rfl
theorem aWe{K:TI→Prop}:@tyW Tryz.prog 123 ⟨K⟩=K Ku:=qg aYD
theorem azw:Ku.kd=Kd.oth:=ID rfl
theorem an5:Ku.kd.agg=false:=ID rfl
theorem aiD:Ku.size=1:=ID rfl
theorem adh:Ku.bytes=8:=ID rfl
theorem azu:qw Ku=True:=eq_true rfl
theorem azv:zc Ku=[.v Value.nilFunc]:=ID rfl
theorem aWd{K:TI→Prop}:@tyW Tryz.prog 124 ⟨K⟩=K Kt:=qg aYC
theorem azt:Kt.kd=Kd.oth:=ID rfl
theorem an4:Kt.kd.agg=false:=ID rfl
theorem aiC:Kt.size=1:=ID rfl
theorem adg:Kt.bytes=8:=ID rfl
theorem azr:qw Kt=True:=eq_true rfl
theorem azs:zc Kt=[.v Value.nilFunc]:=ID rfl
theorem aWc{K:TI→Prop}:@tyW Tryz.prog 125 ⟨K⟩=K Ks:=qg aYB
theorem azq:Ks.kd=Kd.oth:=ID rfl
theorem an3:Ks.kd.agg=false:=ID rfl
theorem aiB:Ks.size=1:=ID rfl
theorem adf:Ks.bytes=8:=ID rfl
theorem azo:qw Ks=True:=eq_true rfl
theorem azp:zc Ks=[.v Value.nilFunc]:=ID rfl
theorem aWb{K:TI→Prop}:@tyW Tryz.prog 126 ⟨K⟩=K Kr:=qg aYA
theorem azn:Kr.kd=Kd.oth:=ID rfl
theorem an2:Kr.kd.agg=false:=ID rfl
theorem aiA:Kr.size=1:=ID rfl
theorem ade:Kr.bytes=8:=ID rfl
theorem azl:qw Kr=True:=eq_true rfl
theorem azm:zc Kr=[.v Value.nilFunc]:=ID rfl
theorem aWa{K:TI→Prop}:@tyW Tryz.prog 127 ⟨K⟩=K Kq:=qg aYz
theorem azk:Kq.kd=Kd.oth:=ID rfl
theorem an1:Kq.kd.agg=false:=ID rfl
theorem aiz:Kq.size=1:=ID rfl
theorem adc:Kq.bytes=8:=ID rfl
theorem azi:qw Kq=True:=eq_true rfl
theorem azj:zc Kq=[.v Value.nilFunc]:=ID rfl
theorem aV9{K:TI→Prop}:@tyW Tryz.prog 128 ⟨K⟩=K Kp:=qg aYy
theorem azh:Kp.kd=Kd.oth:=ID rfl
theorem an0:Kp.kd.agg=false:=ID rfl
theorem aiy:Kp.size=1:=ID rfl
theorem adb:Kp.bytes=8:=ID rfl
theorem azf:qw Kp=True:=eq_true rfl
theorem azg:zc Kp=[.v Value.nilFunc]:=ID rfl
theorem aV8{K:TI→Prop}:@tyW Tryz.prog 129 ⟨K⟩=K Ko:=qg aYx
theorem aze:Ko.kd=Kd.oth:=ID rfl
theorem anZ:Ko.kd.agg=false:=ID rfl
theorem aix:Ko.size=1:=ID rfl
theorem ada:Ko.bytes=8:=ID rfl
theorem azc:qw Ko=True:=eq_true rfl
theorem azd:zc Ko=[.v Value.nilFunc]:=ID rfl
theorem aV7{K:TI→Prop}:@tyW Tryz.prog 130 ⟨K⟩=K Kn:=qg aYw
theorem aza:Kn.kd=Kd.oth:=ID rfl
theorem anX:Kn.kd.agg=false:=ID rfl
theorem aiv:Kn.size=1:=ID rfl
theorem ac9:Kn.bytes=8:=ID rfl
theorem ay8:qw Kn=True:=eq_true rfl
theorem ay9:zc Kn=[.v Value.nilFunc]:=ID rfl
theorem aV6{K:TI→Prop}:@tyW Tryz.prog 131 ⟨K⟩=K Km:=qg aYv
theorem ay7:Km.kd=Kd.oth:=ID rfl
theorem anW:Km.kd.agg=false:=ID rfl
theorem aiu:Km.size=1:=ID rfl
theorem ac8:Km.bytes=8:=ID rfl
theorem ay5:qw Km=True:=eq_true rfl
theorem ay6:zc Km=[.v Value.nilFunc]:=ID rfl
theorem aV5{K:TI→Prop}:@tyW Tryz.prog 132 ⟨K⟩=K Zu:=qg aAJ
theorem ay4:Zu.kd=Kd.stru [(0,118),(3,118)]:=ID rfl
theorem anV:Zu.kd.agg=true:=ID rfl
theorem ait:Zu.size=6:=ID rfl
theorem ac7:Zu.bytes=80:=ID rfl
theorem ay2:qw Zu=True:=eq_true rfl
theorem ay3:zc Zu=[.v (Value.bool false),.v (Value.slice none 0 0),.v (Value.int IntKind.i64 0),.v (Value.bool false),.v (Value.slice none 0 0),.v (Value.int IntKind.i64 0)]:=ID rfl
theorem aCw{K:Nat→TI→Prop}:@qB Tryz.prog 132 0 ⟨K⟩=K 0 je:=qr (ti:=Zu) (tf:=je) (fo:=(0,118)) (fs:=[(0,118),(3,118)]) aAJ rfl rfl yb
theorem aJB{K:Nat→Nat→Prop}:qs Tryz.prog [(0,118),(3,118)] 0 K=K 0 3:=qq (tf:=je) (fo:=(0,118)) (fs:=[(0,118),(3,118)]) rfl yb
theorem aCv{K:Nat→TI→Prop}:@qB Tryz.prog 132 1 ⟨K⟩=K 3 je:=qr (ti:=Zu) (tf:=je) (fo:=(3,118)) (fs:=[(0,118),(3,118)]) aAJ rfl rfl yb
theorem aJA{K:Nat→Nat→Prop}:qs Tryz.prog [(0,118),(3,118)] 1 K=K 3 3:=qq (tf:=je) (fo:=(3,118)) (fs:=[(0,118),(3,118)]) rfl yb
theorem aK2:∀f∈([(0,118),(3,118)]:List (Nat×Nat)),(qn Tryz.prog f.2).isSome=true:=by
 intro f hf
 simp only[List.mem_cons,List.not_mem_nil,or_false]at hf
 rcases hf with rfl|rfl
 ·rw[yb];rfl
 ·rw[yb];rfl
theorem aTn{ps:List (Nat×AV)}{K:AV→Prop}:@zp Tryz.prog 132 ps ⟨K⟩=@zn (qs Tryz.prog [(0,118),(3,118)]) (zc Zu) ps ⟨fun cs=>K (.ag cs)⟩:=qN aAJ rfl aK2
theorem aV4{K:TI→Prop}:@tyW Tryz.prog 133 ⟨K⟩=K Q5:=qg aoy
theorem ay1:Q5.kd=Kd.stru [(0,118),(3,118)]:=ID rfl
theorem anU:Q5.kd.agg=true:=ID rfl
theorem ais:Q5.size=6:=ID rfl
theorem ac6:Q5.bytes=80:=ID rfl
theorem ayZ:qw Q5=True:=eq_true rfl
theorem ay0:zc Q5=[.v (Value.bool false),.v (Value.slice none 0 0),.v (Value.int IntKind.i64 0),.v (Value.bool false),.v (Value.slice none 0 0),.v (Value.int IntKind.i64 0)]:=ID rfl
theorem aCu{K:Nat→TI→Prop}:@qB Tryz.prog 133 0 ⟨K⟩=K 0 je:=qr (ti:=Q5) (tf:=je) (fo:=(0,118)) (fs:=[(0,118),(3,118)]) aoy rfl rfl yb
theorem aJz{K:Nat→Nat→Prop}:qs Tryz.prog [(0,118),(3,118)] 0 K=K 0 3:=qq (tf:=je) (fo:=(0,118)) (fs:=[(0,118),(3,118)]) rfl yb
theorem aCt{K:Nat→TI→Prop}:@qB Tryz.prog 133 1 ⟨K⟩=K 3 je:=qr (ti:=Q5) (tf:=je) (fo:=(3,118)) (fs:=[(0,118),(3,118)]) aoy rfl rfl yb
theorem aJy{K:Nat→Nat→Prop}:qs Tryz.prog [(0,118),(3,118)] 1 K=K 3 3:=qq (tf:=je) (fo:=(3,118)) (fs:=[(0,118),(3,118)]) rfl yb
theorem aK1:∀f∈([(0,118),(3,118)]:List (Nat×Nat)),(qn Tryz.prog f.2).isSome=true:=by
 intro f hf
 simp only[List.mem_cons,List.not_mem_nil,or_false]at hf
 rcases hf with rfl|rfl
 ·rw[yb];rfl
 ·rw[yb];rfl
theorem aTm{ps:List (Nat×AV)}{K:AV→Prop}:@zp Tryz.prog 133 ps ⟨K⟩=@zn (qs Tryz.prog [(0,118),(3,118)]) (zc Q5) ps ⟨fun cs=>K (.ag cs)⟩:=qN aoy rfl aK1
theorem aV3{K:TI→Prop}:@tyW Tryz.prog 134 ⟨K⟩=K Kl:=qg aYu
theorem ayY:Kl.kd=Kd.oth:=ID rfl
theorem anT:Kl.kd.agg=false:=ID rfl
theorem air:Kl.size=1:=ID rfl
theorem ac5:Kl.bytes=8:=ID rfl
theorem ayW:qw Kl=True:=eq_true rfl
theorem ayX:zc Kl=[.v Value.nilFunc]:=ID rfl
theorem aV2{K:TI→Prop}:@tyW Tryz.prog 135 ⟨K⟩=K Kk:=qg aYt
theorem ayV:Kk.kd=Kd.oth:=ID rfl
theorem anS:Kk.kd.agg=false:=ID rfl
theorem aiq:Kk.size=1:=ID rfl
theorem ac4:Kk.bytes=8:=ID rfl
theorem ayT:qw Kk=True:=eq_true rfl
theorem ayU:zc Kk=[.v Value.nilFunc]:=ID rfl
theorem aV1{K:TI→Prop}:@tyW Tryz.prog 136 ⟨K⟩=K Kj:=qg aYs
theorem ayS:Kj.kd=Kd.oth:=ID rfl
theorem anR:Kj.kd.agg=false:=ID rfl
theorem aip:Kj.size=1:=ID rfl
theorem ac3:Kj.bytes=8:=ID rfl
theorem ayQ:qw Kj=True:=eq_true rfl
theorem ayR:zc Kj=[.v Value.nilFunc]:=ID rfl
theorem aV0{K:TI→Prop}:@tyW Tryz.prog 137 ⟨K⟩=K Ki:=qg aYr
theorem ayP:Ki.kd=Kd.oth:=ID rfl
theorem anQ:Ki.kd.agg=false:=ID rfl
theorem aio:Ki.size=1:=ID rfl
theorem ac2:Ki.bytes=8:=ID rfl
theorem ayN:qw Ki=True:=eq_true rfl
theorem ayO:zc Ki=[.v Value.nilFunc]:=ID rfl
theorem aVZ{K:TI→Prop}:@tyW Tryz.prog 138 ⟨K⟩=K Kh:=qg aYq
theorem ayM:Kh.kd=Kd.oth:=ID rfl
theorem anP:Kh.kd.agg=false:=ID rfl
theorem ain:Kh.size=1:=ID rfl
theorem ac1:Kh.bytes=8:=ID rfl
theorem ayK:qw Kh=True:=eq_true rfl
theorem ayL:zc Kh=[.v Value.nilFunc]:=ID rfl
theorem aVY{K:TI→Prop}:@tyW Tryz.prog 139 ⟨K⟩=K Kg:=qg aYp
theorem ayJ:Kg.kd=Kd.oth:=ID rfl
theorem anO:Kg.kd.agg=false:=ID rfl
theorem aim:Kg.size=1:=ID rfl
theorem ac0:Kg.bytes=8:=ID rfl
theorem ayH:qw Kg=True:=eq_true rfl
theorem ayI:zc Kg=[.v Value.nilFunc]:=ID rfl
theorem aVX{K:TI→Prop}:@tyW Tryz.prog 140 ⟨K⟩=K Kf:=qg aYo
theorem ayG:Kf.kd=Kd.oth:=ID rfl
theorem anN:Kf.kd.agg=false:=ID rfl
theorem ail:Kf.size=1:=ID rfl
theorem acZ:Kf.bytes=8:=ID rfl
theorem ayE:qw Kf=True:=eq_true rfl
theorem ayF:zc Kf=[.v Value.nilFunc]:=ID rfl
theorem aVW{K:TI→Prop}:@tyW Tryz.prog 142 ⟨K⟩=K Ke:=qg aYn
theorem ayD:Ke.kd=Kd.oth:=ID rfl
theorem anM:Ke.kd.agg=false:=ID rfl
theorem aik:Ke.size=1:=ID rfl
theorem acY:Ke.bytes=8:=ID rfl
theorem ayB:qw Ke=True:=eq_true rfl
theorem ayC:zc Ke=[.v Value.nilFunc]:=ID rfl
theorem aVV{K:TI→Prop}:@tyW Tryz.prog 143 ⟨K⟩=K Kc:=qg aYm
theorem ayA:Kc.kd=Kd.oth:=ID rfl
theorem anL:Kc.kd.agg=false:=ID rfl
theorem aij:Kc.size=1:=ID rfl
theorem acX:Kc.bytes=8:=ID rfl
theorem ayy:qw Kc=True:=eq_true rfl
theorem ayz:zc Kc=[.v Value.nilFunc]:=ID rfl
theorem aVU{K:TI→Prop}:@tyW Tryz.prog 144 ⟨K⟩=K Kb:=qg aYl
theorem ayx:Kb.kd=Kd.oth:=ID rfl
theorem anK:Kb.kd.agg=false:=ID rfl
theorem aii:Kb.size=1:=ID rfl
theorem acW:Kb.bytes=8:=ID rfl
theorem ayv:qw Kb=True:=eq_true rfl
theorem ayw:zc Kb=[.v Value.nilFunc]:=ID rfl
theorem aVT{K:TI→Prop}:@tyW Tryz.prog 145 ⟨K⟩=K Ka:=qg aYk
theorem ayu:Ka.kd=Kd.oth:=ID rfl
theorem anJ:Ka.kd.agg=false:=ID rfl
theorem aih:Ka.size=1:=ID rfl
theorem acV:Ka.bytes=8:=ID rfl
theorem ays:qw Ka=True:=eq_true rfl
theorem ayt:zc Ka=[.v Value.nilFunc]:=ID rfl
theorem aVS{K:TI→Prop}:@tyW Tryz.prog 146 ⟨K⟩=K V9:=qg aYj
theorem ayr:V9.kd=Kd.oth:=ID rfl
theorem anI:V9.kd.agg=false:=ID rfl
theorem aig:V9.size=1:=ID rfl
theorem acU:V9.bytes=8:=ID rfl
theorem ayp:qw V9=True:=eq_true rfl
theorem ayq:zc V9=[.v Value.nilFunc]:=ID rfl
theorem aVR{K:TI→Prop}:@tyW Tryz.prog 147 ⟨K⟩=K V8:=qg aYi
theorem ayo:V8.kd=Kd.oth:=ID rfl
theorem anH:V8.kd.agg=false:=ID rfl
theorem aif:V8.size=1:=ID rfl
theorem acT:V8.bytes=8:=ID rfl
theorem aym:qw V8=True:=eq_true rfl
theorem ayn:zc V8=[.v Value.nilFunc]:=ID rfl
theorem aVQ{K:TI→Prop}:@tyW Tryz.prog 148 ⟨K⟩=K V7:=qg aYh
theorem ayl:V7.kd=Kd.oth:=ID rfl
theorem anG:V7.kd.agg=false:=ID rfl
theorem aie:V7.size=1:=ID rfl
theorem acS:V7.bytes=8:=ID rfl
theorem ayj:qw V7=True:=eq_true rfl
theorem ayk:zc V7=[.v Value.nilFunc]:=ID rfl
theorem aVP{K:TI→Prop}:@tyW Tryz.prog 149 ⟨K⟩=K V6:=qg aYg
theorem ayi:V6.kd=Kd.oth:=ID rfl
theorem anF:V6.kd.agg=false:=ID rfl
theorem aid:V6.size=1:=ID rfl
theorem acR:V6.bytes=8:=ID rfl
theorem ayg:qw V6=True:=eq_true rfl
theorem ayh:zc V6=[.v Value.nilFunc]:=ID rfl
theorem aVO{K:TI→Prop}:@tyW Tryz.prog 151 ⟨K⟩=K V5:=qg aYf
theorem ayf:V5.kd=Kd.oth:=ID rfl
theorem anE:V5.kd.agg=false:=ID rfl
theorem aic:V5.size=1:=ID rfl
theorem acQ:V5.bytes=8:=ID rfl
theorem ayd:qw V5=True:=eq_true rfl
theorem aye:zc V5=[.v Value.nilFunc]:=ID rfl
theorem aVN{K:TI→Prop}:@tyW Tryz.prog 152 ⟨K⟩=K V4:=qg aYe
theorem ayc:V4.kd=Kd.oth:=ID rfl
theorem anD:V4.kd.agg=false:=ID rfl
theorem aib:V4.size=1:=ID rfl
theorem acP:V4.bytes=8:=ID rfl
theorem aya:qw V4=True:=eq_true rfl
theorem ayb:zc V4=[.v Value.nilFunc]:=ID rfl
theorem aVM{K:TI→Prop}:@tyW Tryz.prog 153 ⟨K⟩=K y5:=qg KS
theorem ax9:y5.kd=Kd.sli 133:=ID rfl
theorem anC:y5.kd.agg=false:=ID rfl
theorem aia:y5.size=1:=ID rfl
theorem acO:y5.bytes=24:=ID rfl
theorem ax7:qw y5=True:=eq_true rfl
theorem ax8:zc y5=[.v (Value.slice none 0 0)]:=ID rfl
theorem aNZ{K:TI→Prop}:@yJ Tryz.prog 153 ⟨K⟩=K Q5:=ZD KS rfl aoy
theorem aVL{K:TI→Prop}:@tyW Tryz.prog 154 ⟨K⟩=K Zt:=qg aAI
theorem ax6:Zt.kd=Kd.stru [(0,3),(1,153)]:=ID rfl
theorem anB:Zt.kd.agg=true:=ID rfl
theorem ah9:Zt.size=2:=ID rfl
theorem acN:Zt.bytes=32:=ID rfl
theorem ax4:qw Zt=True:=eq_true rfl
theorem ax5:zc Zt=[.v (Value.int IntKind.i64 0),.v (Value.slice none 0 0)]:=ID rfl
theorem aCs{K:Nat→TI→Prop}:@qB Tryz.prog 154 0 ⟨K⟩=K 0 ti3:=qr (ti:=Zt) (tf:=ti3) (fo:=(0,3)) (fs:=[(0,3),(1,153)]) aAI rfl rfl tf3
theorem aJx{K:Nat→Nat→Prop}:qs Tryz.prog [(0,3),(1,153)] 0 K=K 0 1:=qq (tf:=ti3) (fo:=(0,3)) (fs:=[(0,3),(1,153)]) rfl tf3
theorem aCr{K:Nat→TI→Prop}:@qB Tryz.prog 154 1 ⟨K⟩=K 1 y5:=qr (ti:=Zt) (tf:=y5) (fo:=(1,153)) (fs:=[(0,3),(1,153)]) aAI rfl rfl KS
theorem aJw{K:Nat→Nat→Prop}:qs Tryz.prog [(0,3),(1,153)] 1 K=K 1 1:=qq (tf:=y5) (fo:=(1,153)) (fs:=[(0,3),(1,153)]) rfl KS
theorem aK0:∀f∈([(0,3),(1,153)]:List (Nat×Nat)),(qn Tryz.prog f.2).isSome=true:=by
 intro f hf
 simp only[List.mem_cons,List.not_mem_nil,or_false]at hf
 rcases hf with rfl|rfl
 ·rw[tf3];rfl
 ·rw[KS];rfl
theorem aTl{ps:List (Nat×AV)}{K:AV→Prop}:@zp Tryz.prog 154 ps ⟨K⟩=@zn (qs Tryz.prog [(0,3),(1,153)]) (zc Zt) ps ⟨fun cs=>K (.ag cs)⟩:=qN aAI rfl aK0
theorem aVK{K:TI→Prop}:@tyW Tryz.prog 155 ⟨K⟩=K Zs:=qg aAH
theorem ax3:Zs.kd=Kd.stru [(0,3),(1,153)]:=ID rfl
theorem anA:Zs.kd.agg=true:=ID rfl
theorem ah8:Zs.size=2:=ID rfl
theorem acM:Zs.bytes=32:=ID rfl
theorem ax1:qw Zs=True:=eq_true rfl
theorem ax2:zc Zs=[.v (Value.int IntKind.i64 0),.v (Value.slice none 0 0)]:=ID rfl
theorem aCq{K:Nat→TI→Prop}:@qB Tryz.prog 155 0 ⟨K⟩=K 0 ti3:=qr (ti:=Zs) (tf:=ti3) (fo:=(0,3)) (fs:=[(0,3),(1,153)]) aAH rfl rfl tf3
theorem aJv{K:Nat→Nat→Prop}:qs Tryz.prog [(0,3),(1,153)] 0 K=K 0 1:=qq (tf:=ti3) (fo:=(0,3)) (fs:=[(0,3),(1,153)]) rfl tf3
theorem aCp{K:Nat→TI→Prop}:@qB Tryz.prog 155 1 ⟨K⟩=K 1 y5:=qr (ti:=Zs) (tf:=y5) (fo:=(1,153)) (fs:=[(0,3),(1,153)]) aAH rfl rfl KS
theorem aJu{K:Nat→Nat→Prop}:qs Tryz.prog [(0,3),(1,153)] 1 K=K 1 1:=qq (tf:=y5) (fo:=(1,153)) (fs:=[(0,3),(1,153)]) rfl KS
theorem aKZ:∀f∈([(0,3),(1,153)]:List (Nat×Nat)),(qn Tryz.prog f.2).isSome=true:=by
 intro f hf
 simp only[List.mem_cons,List.not_mem_nil,or_false]at hf
 rcases hf with rfl|rfl
 ·rw[tf3];rfl
 ·rw[KS];rfl
theorem aTk{ps:List (Nat×AV)}{K:AV→Prop}:@zp Tryz.prog 155 ps ⟨K⟩=@zn (qs Tryz.prog [(0,3),(1,153)]) (zc Zs) ps ⟨fun cs=>K (.ag cs)⟩:=qN aAH rfl aKZ
theorem aVJ{K:TI→Prop}:@tyW Tryz.prog 156 ⟨K⟩=K V3:=qg aYd
theorem ax0:V3.kd=Kd.oth:=ID rfl
theorem anz:V3.kd.agg=false:=ID rfl
theorem ah7:V3.size=1:=ID rfl
theorem acL:V3.bytes=8:=ID rfl
theorem axY:qw V3=True:=eq_true rfl
theorem axZ:zc V3=[.v Value.nilFunc]:=ID rfl
theorem aVI{K:TI→Prop}:@tyW Tryz.prog 157 ⟨K⟩=K V2:=qg aYc
theorem axX:V2.kd=Kd.oth:=ID rfl
theorem anx:V2.kd.agg=false:=ID rfl
theorem ah6:V2.size=1:=ID rfl
theorem acK:V2.bytes=8:=ID rfl
theorem axV:qw V2=True:=eq_true rfl
theorem axW:zc V2=[.v Value.nilFunc]:=ID rfl
theorem aVH{K:TI→Prop}:@tyW Tryz.prog 158 ⟨K⟩=K V1:=qg aYb
theorem axU:V1.kd=Kd.oth:=ID rfl
theorem anw:V1.kd.agg=false:=ID rfl
theorem ah5:V1.size=1:=ID rfl
theorem acJ:V1.bytes=8:=ID rfl
theorem axS:qw V1=True:=eq_true rfl
theorem axT:zc V1=[.v Value.nilFunc]:=ID rfl
theorem aVG{K:TI→Prop}:@tyW Tryz.prog 159 ⟨K⟩=K V0:=qg aYa
theorem axR:V0.kd=Kd.oth:=ID rfl
theorem anv:V0.kd.agg=false:=ID rfl
theorem ah4:V0.size=1:=ID rfl
theorem acI:V0.bytes=8:=ID rfl
theorem axP:qw V0=True:=eq_true rfl
theorem axQ:zc V0=[.v Value.nilFunc]:=ID rfl
theorem aVF{K:TI→Prop}:@tyW Tryz.prog 160 ⟨K⟩=K VZ:=qg aX9
theorem axO:VZ.kd=Kd.oth:=ID rfl
theorem anu:VZ.kd.agg=false:=ID rfl
theorem ah3:VZ.size=1:=ID rfl
theorem acH:VZ.bytes=8:=ID rfl
theorem axM:qw VZ=True:=eq_true rfl
theorem axN:zc VZ=[.v Value.nilFunc]:=ID rfl
theorem aVE{K:TI→Prop}:@tyW Tryz.prog 161 ⟨K⟩=K VY:=qg aX8
theorem axL:VY.kd=Kd.oth:=ID rfl
theorem ant:VY.kd.agg=false:=ID rfl
theorem ah2:VY.size=1:=ID rfl
theorem acG:VY.bytes=8:=ID rfl
theorem axJ:qw VY=True:=eq_true rfl
theorem axK:zc VY=[.v Value.nilFunc]:=ID rfl
theorem aVD{K:TI→Prop}:@tyW Tryz.prog 163 ⟨K⟩=K VX:=qg aX7
theorem axI:VX.kd=Kd.oth:=ID rfl
theorem ans:VX.kd.agg=false:=ID rfl
theorem ah1:VX.size=1:=ID rfl
theorem acF:VX.bytes=8:=ID rfl
theorem axG:qw VX=True:=eq_true rfl
theorem axH:zc VX=[.v Value.nilFunc]:=ID rfl
theorem aVC{K:TI→Prop}:@tyW Tryz.prog 164 ⟨K⟩=K VW:=qg aX6
theorem axF:VW.kd=Kd.oth:=ID rfl
theorem anr:VW.kd.agg=false:=ID rfl
theorem ah0:VW.size=1:=ID rfl
theorem acE:VW.bytes=8:=ID rfl
theorem axD:qw VW=True:=eq_true rfl
theorem axE:zc VW=[.v Value.nilFunc]:=ID rfl
theorem aVB{K:TI→Prop}:@tyW Tryz.prog 165 ⟨K⟩=K VV:=qg aX5
theorem axC:VV.kd=Kd.oth:=ID rfl
theorem anq:VV.kd.agg=false:=ID rfl
theorem ahZ:VV.size=1:=ID rfl
theorem acD:VV.bytes=8:=ID rfl
theorem axA:qw VV=True:=eq_true rfl
theorem axB:zc VV=[.v Value.nilFunc]:=ID rfl
theorem aVA{K:TI→Prop}:@tyW Tryz.prog 166 ⟨K⟩=K VU:=qg aX4
theorem axz:VU.kd=Kd.oth:=ID rfl
theorem anp:VU.kd.agg=false:=ID rfl
theorem ahY:VU.size=1:=ID rfl
theorem acC:VU.bytes=8:=ID rfl
theorem axx:qw VU=True:=eq_true rfl
theorem axy:zc VU=[.v Value.nilFunc]:=ID rfl
theorem aVz{K:TI→Prop}:@tyW Tryz.prog 167 ⟨K⟩=K VT:=qg aX3
theorem axw:VT.kd=Kd.oth:=ID rfl
theorem ano:VT.kd.agg=false:=ID rfl
theorem ahX:VT.size=1:=ID rfl
theorem acB:VT.bytes=8:=ID rfl
theorem axu:qw VT=True:=eq_true rfl
theorem axv:zc VT=[.v Value.nilFunc]:=ID rfl
theorem aVy{K:TI→Prop}:@tyW Tryz.prog 168 ⟨K⟩=K VS:=qg aX2
theorem axt:VS.kd=Kd.oth:=ID rfl
theorem ann:VS.kd.agg=false:=ID rfl
theorem ahW:VS.size=1:=ID rfl
theorem acA:VS.bytes=8:=ID rfl
theorem axr:qw VS=True:=eq_true rfl
theorem axs:zc VS=[.v Value.nilFunc]:=ID rfl
theorem aVx{K:TI→Prop}:@tyW Tryz.prog 169 ⟨K⟩=K VR:=qg aX1
theorem axq:VR.kd=Kd.oth:=ID rfl
theorem anm:VR.kd.agg=false:=ID rfl
theorem ahV:VR.size=1:=ID rfl
theorem acz:VR.bytes=8:=ID rfl
theorem axo:qw VR=True:=eq_true rfl
theorem axp:zc VR=[.v Value.nilFunc]:=ID rfl
theorem aVw{K:TI→Prop}:@tyW Tryz.prog 170 ⟨K⟩=K VQ:=qg aX0
theorem axn:VQ.kd=Kd.oth:=ID rfl
theorem anl:VQ.kd.agg=false:=ID rfl
theorem ahU:VQ.size=1:=ID rfl
theorem acy:VQ.bytes=8:=ID rfl
theorem axl:qw VQ=True:=eq_true rfl
theorem axm:zc VQ=[.v Value.nilFunc]:=ID rfl
theorem aVv{K:TI→Prop}:@tyW Tryz.prog 171 ⟨K⟩=K VP:=qg aXZ
theorem axk:VP.kd=Kd.oth:=ID rfl
theorem ank:VP.kd.agg=false:=ID rfl
theorem ahT:VP.size=1:=ID rfl
theorem acx:VP.bytes=8:=ID rfl
theorem axi:qw VP=True:=eq_true rfl
theorem axj:zc VP=[.v Value.nilFunc]:=ID rfl
theorem aVu{K:TI→Prop}:@tyW Tryz.prog 173 ⟨K⟩=K VO:=qg aXY
theorem axh:VO.kd=Kd.oth:=ID rfl
theorem anj:VO.kd.agg=false:=ID rfl
theorem ahS:VO.size=1:=ID rfl
theorem acw:VO.bytes=8:=ID rfl
theorem axf:qw VO=True:=eq_true rfl
theorem axg:zc VO=[.v Value.nilFunc]:=ID rfl
theorem aVt{K:TI→Prop}:@tyW Tryz.prog 174 ⟨K⟩=K Q4:=qg aox
theorem axe:Q4.kd=Kd.stru [(0,22),(1,3),(2,3)]:=ID rfl
theorem ani:Q4.kd.agg=true:=ID rfl
theorem ahR:Q4.size=3:=ID rfl
theorem acv:Q4.bytes=40:=ID rfl
theorem axc:qw Q4=True:=eq_true rfl
theorem axd:zc Q4=[.v (Value.slice none 0 0),.v (Value.int IntKind.i64 0),.v (Value.int IntKind.i64 0)]:=ID rfl
theorem aCo{K:Nat→TI→Prop}:@qB Tryz.prog 174 0 ⟨K⟩=K 0 aeL:=qr (ti:=Q4) (tf:=aeL) (fo:=(0,22)) (fs:=[(0,22),(1,3),(2,3)]) aox rfl rfl aEA
theorem aJt{K:Nat→Nat→Prop}:qs Tryz.prog [(0,22),(1,3),(2,3)] 0 K=K 0 1:=qq (tf:=aeL) (fo:=(0,22)) (fs:=[(0,22),(1,3),(2,3)]) rfl aEA
theorem aCn{K:Nat→TI→Prop}:@qB Tryz.prog 174 1 ⟨K⟩=K 1 ti3:=qr (ti:=Q4) (tf:=ti3) (fo:=(1,3)) (fs:=[(0,22),(1,3),(2,3)]) aox rfl rfl tf3
theorem aJs{K:Nat→Nat→Prop}:qs Tryz.prog [(0,22),(1,3),(2,3)] 1 K=K 1 1:=qq (tf:=ti3) (fo:=(1,3)) (fs:=[(0,22),(1,3),(2,3)]) rfl tf3
theorem aCm{K:Nat→TI→Prop}:@qB Tryz.prog 174 2 ⟨K⟩=K 2 ti3:=qr (ti:=Q4) (tf:=ti3) (fo:=(2,3)) (fs:=[(0,22),(1,3),(2,3)]) aox rfl rfl tf3
theorem aJr{K:Nat→Nat→Prop}:qs Tryz.prog [(0,22),(1,3),(2,3)] 2 K=K 2 1:=qq (tf:=ti3) (fo:=(2,3)) (fs:=[(0,22),(1,3),(2,3)]) rfl tf3
theorem aKY:∀f∈([(0,22),(1,3),(2,3)]:List (Nat×Nat)),(qn Tryz.prog f.2).isSome=true:=by
 intro f hf
 simp only[List.mem_cons,List.not_mem_nil,or_false]at hf
 rcases hf with rfl|rfl|rfl
 ·rw[aEA];rfl
 ·rw[tf3];rfl
 ·rw[tf3];rfl
theorem aTj{ps:List (Nat×AV)}{K:AV→Prop}:@zp Tryz.prog 174 ps ⟨K⟩=@zn (qs Tryz.prog [(0,22),(1,3),(2,3)]) (zc Q4) ps ⟨fun cs=>K (.ag cs)⟩:=qN aox rfl aKY
theorem aVs{K:TI→Prop}:@tyW Tryz.prog 175 ⟨K⟩=K Q3:=qg aow
theorem axb:Q3.kd=Kd.stru [(0,22),(1,3),(2,3)]:=ID rfl
theorem anh:Q3.kd.agg=true:=ID rfl
theorem ahQ:Q3.size=3:=ID rfl
theorem acu:Q3.bytes=40:=ID rfl
theorem aw9:qw Q3=True:=eq_true rfl
theorem axa:zc Q3=[.v (Value.slice none 0 0),.v (Value.int IntKind.i64 0),.v (Value.int IntKind.i64 0)]:=ID rfl
theorem aCl{K:Nat→TI→Prop}:@qB Tryz.prog 175 0 ⟨K⟩=K 0 aeL:=qr (ti:=Q3) (tf:=aeL) (fo:=(0,22)) (fs:=[(0,22),(1,3),(2,3)]) aow rfl rfl aEA
theorem aJq{K:Nat→Nat→Prop}:qs Tryz.prog [(0,22),(1,3),(2,3)] 0 K=K 0 1:=qq (tf:=aeL) (fo:=(0,22)) (fs:=[(0,22),(1,3),(2,3)]) rfl aEA
theorem aCk{K:Nat→TI→Prop}:@qB Tryz.prog 175 1 ⟨K⟩=K 1 ti3:=qr (ti:=Q3) (tf:=ti3) (fo:=(1,3)) (fs:=[(0,22),(1,3),(2,3)]) aow rfl rfl tf3
theorem aJp{K:Nat→Nat→Prop}:qs Tryz.prog [(0,22),(1,3),(2,3)] 1 K=K 1 1:=qq (tf:=ti3) (fo:=(1,3)) (fs:=[(0,22),(1,3),(2,3)]) rfl tf3
theorem aCj{K:Nat→TI→Prop}:@qB Tryz.prog 175 2 ⟨K⟩=K 2 ti3:=qr (ti:=Q3) (tf:=ti3) (fo:=(2,3)) (fs:=[(0,22),(1,3),(2,3)]) aow rfl rfl tf3
theorem aJo{K:Nat→Nat→Prop}:qs Tryz.prog [(0,22),(1,3),(2,3)] 2 K=K 2 1:=qq (tf:=ti3) (fo:=(2,3)) (fs:=[(0,22),(1,3),(2,3)]) rfl tf3
theorem aKX:∀f∈([(0,22),(1,3),(2,3)]:List (Nat×Nat)),(qn Tryz.prog f.2).isSome=true:=by
 intro f hf
 simp only[List.mem_cons,List.not_mem_nil,or_false]at hf
 rcases hf with rfl|rfl|rfl
 ·rw[aEA];rfl
 ·rw[tf3];rfl
 ·rw[tf3];rfl
theorem aTi{ps:List (Nat×AV)}{K:AV→Prop}:@zp Tryz.prog 175 ps ⟨K⟩=@zn (qs Tryz.prog [(0,22),(1,3),(2,3)]) (zc Q3) ps ⟨fun cs=>K (.ag cs)⟩:=qN aow rfl aKX
theorem aVr{K:TI→Prop}:@tyW Tryz.prog 176 ⟨K⟩=K VN:=qg aXX
theorem aw8:VN.kd=Kd.oth:=ID rfl
theorem ang:VN.kd.agg=false:=ID rfl
theorem ahP:VN.size=1:=ID rfl
theorem act:VN.bytes=8:=ID rfl
theorem aw6:qw VN=True:=eq_true rfl
theorem aw7:zc VN=[.v Value.nilFunc]:=ID rfl
theorem aVq{K:TI→Prop}:@tyW Tryz.prog 177 ⟨K⟩=K VM:=qg aXW
theorem aw5:VM.kd=Kd.oth:=ID rfl
theorem anf:VM.kd.agg=false:=ID rfl
theorem ahO:VM.size=1:=ID rfl
theorem acs:VM.bytes=8:=ID rfl
theorem aw3:qw VM=True:=eq_true rfl
theorem aw4:zc VM=[.v Value.nilFunc]:=ID rfl
theorem aVp{K:TI→Prop}:@tyW Tryz.prog 178 ⟨K⟩=K VL:=qg aXV
theorem aw2:VL.kd=Kd.oth:=ID rfl
theorem ane:VL.kd.agg=false:=ID rfl
theorem ahN:VL.size=1:=ID rfl
theorem acr:VL.bytes=8:=ID rfl
theorem aw0:qw VL=True:=eq_true rfl
theorem aw1:zc VL=[.v Value.nilFunc]:=ID rfl
theorem aVo{K:TI→Prop}:@tyW Tryz.prog 179 ⟨K⟩=K VK:=qg aXU
theorem awZ:VK.kd=Kd.oth:=ID rfl
theorem anc:VK.kd.agg=false:=ID rfl
theorem ahM:VK.size=1:=ID rfl
theorem acq:VK.bytes=8:=ID rfl
theorem awX:qw VK=True:=eq_true rfl
theorem awY:zc VK=[.v Value.nilFunc]:=ID rfl
theorem aVn{K:TI→Prop}:@tyW Tryz.prog 180 ⟨K⟩=K VJ:=qg aXT
theorem awW:VJ.kd=Kd.oth:=ID rfl
theorem anb:VJ.kd.agg=false:=ID rfl
theorem ahL:VJ.size=1:=ID rfl
theorem acp:VJ.bytes=8:=ID rfl
theorem awT:qw VJ=True:=eq_true rfl
theorem awU:zc VJ=[.v Value.nilFunc]:=ID rfl
theorem aVm{K:TI→Prop}:@tyW Tryz.prog 182 ⟨K⟩=K VI:=qg aXS
theorem awS:VI.kd=Kd.oth:=ID rfl
theorem ana:VI.kd.agg=false:=ID rfl
theorem ahK:VI.size=1:=ID rfl
theorem aco:VI.bytes=8:=ID rfl
theorem awQ:qw VI=True:=eq_true rfl
theorem awR:zc VI=[.v Value.nilFunc]:=ID rfl
theorem aVl{K:TI→Prop}:@tyW Tryz.prog 183 ⟨K⟩=K VH:=qg aXR
theorem awP:VH.kd=Kd.oth:=ID rfl
theorem am9:VH.kd.agg=false:=ID rfl
theorem ahJ:VH.size=1:=ID rfl
theorem acn:VH.bytes=8:=ID rfl
theorem awN:qw VH=True:=eq_true rfl
theorem awO:zc VH=[.v Value.nilFunc]:=ID rfl
theorem aVk{K:TI→Prop}:@tyW Tryz.prog 184 ⟨K⟩=K VG:=qg aXQ
theorem awM:VG.kd=Kd.oth:=ID rfl
theorem am8:VG.kd.agg=false:=ID rfl
theorem ahI:VG.size=1:=ID rfl
theorem acm:VG.bytes=8:=ID rfl
theorem awK:qw VG=True:=eq_true rfl
theorem awL:zc VG=[.v Value.nilFunc]:=ID rfl
theorem aVj{K:TI→Prop}:@tyW Tryz.prog 185 ⟨K⟩=K VF:=qg aXP
theorem awJ:VF.kd=Kd.oth:=ID rfl
theorem am7:VF.kd.agg=false:=ID rfl
theorem ahH:VF.size=1:=ID rfl
theorem acl:VF.bytes=8:=ID rfl
theorem awH:qw VF=True:=eq_true rfl
theorem awI:zc VF=[.v Value.nilFunc]:=ID rfl
theorem aVi{K:TI→Prop}:@tyW Tryz.prog 186 ⟨K⟩=K VE:=qg aXO
theorem awG:VE.kd=Kd.oth:=ID rfl
theorem am6:VE.kd.agg=false:=ID rfl
theorem ahG:VE.size=1:=ID rfl
theorem ack:VE.bytes=8:=ID rfl
theorem awE:qw VE=True:=eq_true rfl
theorem awF:zc VE=[.v Value.nilFunc]:=ID rfl
theorem aVh{K:TI→Prop}:@tyW Tryz.prog 187 ⟨K⟩=K VD:=qg aXN
theorem awD:VD.kd=Kd.oth:=ID rfl
theorem am5:VD.kd.agg=false:=ID rfl
theorem ahF:VD.size=1:=ID rfl
theorem acj:VD.bytes=8:=ID rfl
theorem awB:qw VD=True:=eq_true rfl
theorem awC:zc VD=[.v Value.nilFunc]:=ID rfl
theorem aVg{K:TI→Prop}:@tyW Tryz.prog 188 ⟨K⟩=K VC:=qg aXM
theorem awA:VC.kd=Kd.oth:=ID rfl
theorem am4:VC.kd.agg=false:=ID rfl
theorem ahE:VC.size=1:=ID rfl
theorem aci:VC.bytes=8:=ID rfl
theorem awy:qw VC=True:=eq_true rfl
theorem awz:zc VC=[.v Value.nilFunc]:=ID rfl
theorem aVf{K:TI→Prop}:@tyW Tryz.prog 189 ⟨K⟩=K VB:=qg aXL
theorem awx:VB.kd=Kd.oth:=ID rfl
theorem am3:VB.kd.agg=false:=ID rfl
theorem ahD:VB.size=1:=ID rfl
theorem ach:VB.bytes=8:=ID rfl
theorem awv:qw VB=True:=eq_true rfl
theorem aww:zc VB=[.v Value.nilFunc]:=ID rfl
theorem aVe{K:TI→Prop}:@tyW Tryz.prog 190 ⟨K⟩=K VA:=qg aXK
theorem awu:VA.kd=Kd.oth:=ID rfl
theorem am2:VA.kd.agg=false:=ID rfl
theorem ahC:VA.size=1:=ID rfl
theorem acg:VA.bytes=8:=ID rfl
theorem aws:qw VA=True:=eq_true rfl
theorem awt:zc VA=[.v Value.nilFunc]:=ID rfl
theorem aVd{K:TI→Prop}:@tyW Tryz.prog 191 ⟨K⟩=K Vz:=qg aXJ
theorem awr:Vz.kd=Kd.oth:=ID rfl
theorem am1:Vz.kd.agg=false:=ID rfl
theorem ahB:Vz.size=1:=ID rfl
theorem acf:Vz.bytes=8:=ID rfl
theorem awo:qw Vz=True:=eq_true rfl
theorem awq:zc Vz=[.v Value.nilFunc]:=ID rfl
theorem aVc{K:TI→Prop}:@tyW Tryz.prog 192 ⟨K⟩=K Vy:=qg aXI
theorem awn:Vy.kd=Kd.oth:=ID rfl
theorem am0:Vy.kd.agg=false:=ID rfl
theorem ahA:Vy.size=1:=ID rfl
theorem ace:Vy.bytes=8:=ID rfl
theorem awl:qw Vy=True:=eq_true rfl
theorem awm:zc Vy=[.v Value.nilFunc]:=ID rfl
theorem aVb{K:TI→Prop}:@tyW Tryz.prog 194 ⟨K⟩=K Vx:=qg aXH
theorem awk:Vx.kd=Kd.oth:=ID rfl
theorem amZ:Vx.kd.agg=false:=ID rfl
theorem ahz:Vx.size=1:=ID rfl
theorem acd:Vx.bytes=8:=ID rfl
theorem awi:qw Vx=True:=eq_true rfl
theorem awj:zc Vx=[.v Value.nilFunc]:=ID rfl
theorem aVa{K:TI→Prop}:@tyW Tryz.prog 195 ⟨K⟩=K Vw:=qg aNH
theorem awh:Vw.kd=Kd.sli 111:=ID rfl
theorem amY:Vw.kd.agg=false:=ID rfl
theorem ahy:Vw.size=1:=ID rfl
theorem acb:Vw.bytes=24:=ID rfl
theorem awf:qw Vw=True:=eq_true rfl
theorem awg:zc Vw=[.v (Value.slice none 0 0)]:=ID rfl
theorem aNY{K:TI→Prop}:@yJ Tryz.prog 195 ⟨K⟩=K yR:=ZD aNH rfl Yp
theorem aU9{K:TI→Prop}:@tyW Tryz.prog 196 ⟨K⟩=K Vv:=qg aXG
theorem awe:Vv.kd=Kd.oth:=ID rfl
theorem amX:Vv.kd.agg=false:=ID rfl
theorem ahx:Vv.size=1:=ID rfl
theorem aca:Vv.bytes=8:=ID rfl
theorem awc:qw Vv=True:=eq_true rfl
theorem awd:zc Vv=[.v Value.nilFunc]:=ID rfl
theorem aU8{K:TI→Prop}:@tyW Tryz.prog 197 ⟨K⟩=K Vu:=qg aXF
theorem awb:Vu.kd=Kd.oth:=ID rfl
theorem amW:Vu.kd.agg=false:=ID rfl
theorem ahw:Vu.size=1:=ID rfl
theorem ab9:Vu.bytes=8:=ID rfl
theorem av9:qw Vu=True:=eq_true rfl
theorem awa:zc Vu=[.v Value.nilFunc]:=ID rfl
theorem aU7{K:TI→Prop}:@tyW Tryz.prog 198 ⟨K⟩=K Vt:=qg aXE
theorem av8:Vt.kd=Kd.oth:=ID rfl
theorem amV:Vt.kd.agg=false:=ID rfl
theorem ahv:Vt.size=1:=ID rfl
theorem ab8:Vt.bytes=8:=ID rfl
theorem av6:qw Vt=True:=eq_true rfl
theorem av7:zc Vt=[.v Value.nilFunc]:=ID rfl
theorem aU6{K:TI→Prop}:@tyW Tryz.prog 199 ⟨K⟩=K Vs:=qg aXD
theorem av5:Vs.kd=Kd.oth:=ID rfl
theorem amU:Vs.kd.agg=false:=ID rfl
theorem ahu:Vs.size=1:=ID rfl
theorem ab7:Vs.bytes=8:=ID rfl
theorem av3:qw Vs=True:=eq_true rfl
theorem av4:zc Vs=[.v Value.nilFunc]:=ID rfl
theorem aU5{K:TI→Prop}:@tyW Tryz.prog 201 ⟨K⟩=K Vr:=qg aXC
theorem av1:Vr.kd=Kd.oth:=ID rfl
theorem amS:Vr.kd.agg=false:=ID rfl
theorem aht:Vr.size=1:=ID rfl
theorem ab6:Vr.bytes=8:=ID rfl
theorem avZ:qw Vr=True:=eq_true rfl
theorem av0:zc Vr=[.v Value.nilFunc]:=ID rfl
theorem aU4{K:TI→Prop}:@tyW Tryz.prog 203 ⟨K⟩=K Vq:=qg aXB
theorem avY:Vq.kd=Kd.oth:=ID rfl
theorem amR:Vq.kd.agg=false:=ID rfl
theorem ahs:Vq.size=1:=ID rfl
theorem ab5:Vq.bytes=8:=ID rfl
theorem avW:qw Vq=True:=eq_true rfl
theorem avX:zc Vq=[.v Value.nilFunc]:=ID rfl
theorem aU3{K:TI→Prop}:@tyW Tryz.prog 204 ⟨K⟩=K Vp:=qg aXA
theorem avV:Vp.kd=Kd.oth:=ID rfl
theorem amQ:Vp.kd.agg=false:=ID rfl
theorem ahr:Vp.size=1:=ID rfl
theorem ab4:Vp.bytes=8:=ID rfl
theorem avT:qw Vp=True:=eq_true rfl
theorem avU:zc Vp=[.v Value.nilFunc]:=ID rfl
theorem aU2{K:TI→Prop}:@tyW Tryz.prog 205 ⟨K⟩=K Vo:=qg aXz
theorem avS:Vo.kd=Kd.oth:=ID rfl
theorem amP:Vo.kd.agg=false:=ID rfl
theorem ahq:Vo.size=1:=ID rfl
theorem ab3:Vo.bytes=8:=ID rfl
theorem avQ:qw Vo=True:=eq_true rfl
theorem avR:zc Vo=[.v Value.nilFunc]:=ID rfl
theorem aU1{K:TI→Prop}:@tyW Tryz.prog 207 ⟨K⟩=K Vn:=qg aXy
theorem avP:Vn.kd=Kd.oth:=ID rfl
theorem amO:Vn.kd.agg=false:=ID rfl
theorem ahp:Vn.size=1:=ID rfl
theorem ab2:Vn.bytes=8:=ID rfl
theorem avN:qw Vn=True:=eq_true rfl
theorem avO:zc Vn=[.v Value.nilFunc]:=ID rfl
theorem aU0{K:TI→Prop}:@tyW Tryz.prog 208 ⟨K⟩=K Vm:=qg aXx
theorem avM:Vm.kd=Kd.oth:=ID rfl
theorem amN:Vm.kd.agg=false:=ID rfl
theorem aho:Vm.size=1:=ID rfl
theorem ab1:Vm.bytes=8:=ID rfl
theorem avK:qw Vm=True:=eq_true rfl
theorem avL:zc Vm=[.v Value.nilFunc]:=ID rfl
theorem aUZ{K:TI→Prop}:@tyW Tryz.prog 209 ⟨K⟩=K Vl:=qg aXw
theorem avJ:Vl.kd=Kd.oth:=ID rfl
theorem amM:Vl.kd.agg=false:=ID rfl
theorem ahn:Vl.size=1:=ID rfl
theorem ab0:Vl.bytes=8:=ID rfl
theorem avH:qw Vl=True:=eq_true rfl
theorem avI:zc Vl=[.v Value.nilFunc]:=ID rfl
theorem aUY{K:TI→Prop}:@tyW Tryz.prog 210 ⟨K⟩=K Vk:=qg aXv
theorem avG:Vk.kd=Kd.oth:=ID rfl
theorem amL:Vk.kd.agg=false:=ID rfl
theorem ahm:Vk.size=1:=ID rfl
theorem abZ:Vk.bytes=8:=ID rfl
theorem avE:qw Vk=True:=eq_true rfl
theorem avF:zc Vk=[.v Value.nilFunc]:=ID rfl
theorem aUX{K:TI→Prop}:@tyW Tryz.prog 211 ⟨K⟩=K Vj:=qg aXu
theorem avD:Vj.kd=Kd.oth:=ID rfl
theorem amK:Vj.kd.agg=false:=ID rfl
theorem ahl:Vj.size=1:=ID rfl
theorem abY:Vj.bytes=8:=ID rfl
theorem avB:qw Vj=True:=eq_true rfl
theorem avC:zc Vj=[.v Value.nilFunc]:=ID rfl
theorem aUW{K:TI→Prop}:@tyW Tryz.prog 212 ⟨K⟩=K Vi:=qg aXt
theorem avA:Vi.kd=Kd.oth:=ID rfl
theorem amJ:Vi.kd.agg=false:=ID rfl
theorem ahk:Vi.size=1:=ID rfl
theorem abX:Vi.bytes=8:=ID rfl
theorem avy:qw Vi=True:=eq_true rfl
theorem avz:zc Vi=[.v Value.nilFunc]:=ID rfl
theorem aUV{K:TI→Prop}:@tyW Tryz.prog 213 ⟨K⟩=K Vh:=qg aXs
theorem avx:Vh.kd=Kd.oth:=ID rfl
theorem amI:Vh.kd.agg=false:=ID rfl
theorem ahj:Vh.size=1:=ID rfl
theorem abW:Vh.bytes=8:=ID rfl
theorem avv:qw Vh=True:=eq_true rfl
theorem avw:zc Vh=[.v Value.nilFunc]:=ID rfl
theorem aUU{K:TI→Prop}:@tyW Tryz.prog 214 ⟨K⟩=K Vg:=qg aXr
theorem avu:Vg.kd=Kd.oth:=ID rfl
theorem amH:Vg.kd.agg=false:=ID rfl
theorem ahi:Vg.size=1:=ID rfl
theorem abV:Vg.bytes=8:=ID rfl
theorem avs:qw Vg=True:=eq_true rfl
theorem avt:zc Vg=[.v Value.nilFunc]:=ID rfl
theorem aUT{K:TI→Prop}:@tyW Tryz.prog 215 ⟨K⟩=K Vf:=qg aXq
theorem avr:Vf.kd=Kd.oth:=ID rfl
theorem amG:Vf.kd.agg=false:=ID rfl
theorem ahh:Vf.size=1:=ID rfl
theorem abU:Vf.bytes=8:=ID rfl
theorem avp:qw Vf=True:=eq_true rfl
theorem avq:zc Vf=[.v Value.nilFunc]:=ID rfl
theorem aUS{K:TI→Prop}:@tyW Tryz.prog 216 ⟨K⟩=K Ve:=qg aXp
theorem avo:Ve.kd=Kd.int IntKind.u64:=ID rfl
theorem amF:Ve.kd.agg=false:=ID rfl
theorem ahg:Ve.size=1:=ID rfl
theorem abT:Ve.bytes=8:=ID rfl
theorem avm:qw Ve=True:=eq_true rfl
theorem avn:zc Ve=[.v (Value.int IntKind.u64 0)]:=ID rfl
theorem aUR{K:TI→Prop}:@tyW Tryz.prog 217 ⟨K⟩=K Vd:=qg aXo
theorem avl:Vd.kd=Kd.oth:=ID rfl
theorem amE:Vd.kd.agg=false:=ID rfl
theorem ahf:Vd.size=1:=ID rfl
theorem abS:Vd.bytes=8:=ID rfl
theorem avj:qw Vd=True:=eq_true rfl
theorem avk:zc Vd=[.v Value.nilFunc]:=ID rfl
theorem aUQ{K:TI→Prop}:@tyW Tryz.prog 218 ⟨K⟩=K Vc:=qg aXn
theorem avi:Vc.kd=Kd.oth:=ID rfl
theorem amD:Vc.kd.agg=false:=ID rfl
theorem ahe:Vc.size=1:=ID rfl
theorem abR:Vc.bytes=8:=ID rfl
theorem avg:qw Vc=True:=eq_true rfl
theorem avh:zc Vc=[.v Value.nilFunc]:=ID rfl
theorem aUP{K:TI→Prop}:@tyW Tryz.prog 219 ⟨K⟩=K Vb:=qg aXm
theorem avf:Vb.kd=Kd.oth:=ID rfl
theorem amC:Vb.kd.agg=false:=ID rfl
theorem ahd:Vb.size=1:=ID rfl
theorem abQ:Vb.bytes=8:=ID rfl
theorem avd:qw Vb=True:=eq_true rfl
theorem ave:zc Vb=[.v Value.nilFunc]:=ID rfl
theorem aUO{K:TI→Prop}:@tyW Tryz.prog 220 ⟨K⟩=K Va:=qg aXl
theorem avb:Va.kd=Kd.oth:=ID rfl
theorem amA:Va.kd.agg=false:=ID rfl
theorem ahb:Va.size=1:=ID rfl
theorem abP:Va.bytes=8:=ID rfl
theorem au9:qw Va=True:=eq_true rfl
theorem ava:zc Va=[.v Value.nilFunc]:=ID rfl
theorem aUN{K:TI→Prop}:@tyW Tryz.prog 221 ⟨K⟩=K X9:=qg aXk
theorem au8:X9.kd=Kd.oth:=ID rfl
theorem amz:X9.kd.agg=false:=ID rfl
theorem aha:X9.size=1:=ID rfl
theorem abO:X9.bytes=8:=ID rfl
theorem au6:qw X9=True:=eq_true rfl
theorem au7:zc X9=[.v Value.nilFunc]:=ID rfl
theorem aUM{K:TI→Prop}:@tyW Tryz.prog 222 ⟨K⟩=K X8:=qg aXj
theorem au5:X8.kd=Kd.oth:=ID rfl
theorem amy:X8.kd.agg=false:=ID rfl
theorem ag9:X8.size=1:=ID rfl
theorem abN:X8.bytes=8:=ID rfl
theorem au3:qw X8=True:=eq_true rfl
theorem au4:zc X8=[.v Value.nilFunc]:=ID rfl
theorem aUL{K:TI→Prop}:@tyW Tryz.prog 224 ⟨K⟩=K X7:=qg aXi
theorem au2:X7.kd=Kd.oth:=ID rfl
theorem amx:X7.kd.agg=false:=ID rfl
theorem ag8:X7.size=1:=ID rfl
theorem abM:X7.bytes=8:=ID rfl
theorem au0:qw X7=True:=eq_true rfl
theorem au1:zc X7=[.v Value.nilFunc]:=ID rfl
theorem aUK{K:TI→Prop}:@tyW Tryz.prog 225 ⟨K⟩=K X6:=qg aXh
theorem auZ:X6.kd=Kd.oth:=ID rfl
theorem amw:X6.kd.agg=false:=ID rfl
theorem ag7:X6.size=1:=ID rfl
theorem abL:X6.bytes=8:=ID rfl
theorem auX:qw X6=True:=eq_true rfl
theorem auY:zc X6=[.v Value.nilFunc]:=ID rfl
theorem aUJ{K:TI→Prop}:@tyW Tryz.prog 226 ⟨K⟩=K X5:=qg aXg
theorem auW:X5.kd=Kd.oth:=ID rfl
theorem amv:X5.kd.agg=false:=ID rfl
theorem ag6:X5.size=1:=ID rfl
theorem abK:X5.bytes=8:=ID rfl
theorem auU:qw X5=True:=eq_true rfl
theorem auV:zc X5=[.v Value.nilFunc]:=ID rfl
theorem aUI{K:TI→Prop}:@tyW Tryz.prog 227 ⟨K⟩=K X4:=qg aXf
theorem auT:X4.kd=Kd.oth:=ID rfl
theorem amu:X4.kd.agg=false:=ID rfl
theorem ag5:X4.size=1:=ID rfl
theorem abJ:X4.bytes=8:=ID rfl
theorem auR:qw X4=True:=eq_true rfl
theorem auS:zc X4=[.v Value.nilFunc]:=ID rfl
theorem aUH{K:TI→Prop}:@tyW Tryz.prog 228 ⟨K⟩=K X3:=qg aXe
theorem auQ:X3.kd=Kd.oth:=ID rfl
theorem amt:X3.kd.agg=false:=ID rfl
theorem ag4:X3.size=1:=ID rfl
theorem abI:X3.bytes=8:=ID rfl
theorem auO:qw X3=True:=eq_true rfl
theorem auP:zc X3=[.v Value.nilFunc]:=ID rfl
theorem aUG{K:TI→Prop}:@tyW Tryz.prog 229 ⟨K⟩=K X2:=qg aXd
theorem auN:X2.kd=Kd.oth:=ID rfl
theorem ams:X2.kd.agg=false:=ID rfl
theorem ag3:X2.size=1:=ID rfl
theorem abH:X2.bytes=8:=ID rfl
theorem auL:qw X2=True:=eq_true rfl
theorem auM:zc X2=[.v Value.nilFunc]:=ID rfl
theorem aUF{K:TI→Prop}:@tyW Tryz.prog 230 ⟨K⟩=K X1:=qg aXc
theorem auJ:X1.kd=Kd.oth:=ID rfl
theorem amq:X1.kd.agg=false:=ID rfl
theorem ag1:X1.size=1:=ID rfl
theorem abG:X1.bytes=8:=ID rfl
theorem auH:qw X1=True:=eq_true rfl
theorem auI:zc X1=[.v Value.nilFunc]:=ID rfl
theorem aUE{K:TI→Prop}:@tyW Tryz.prog 231 ⟨K⟩=K X0:=qg aXb
theorem auG:X0.kd=Kd.oth:=ID rfl
theorem amp:X0.kd.agg=false:=ID rfl
theorem ag0:X0.size=1:=ID rfl
theorem abF:X0.bytes=8:=ID rfl
theorem auE:qw X0=True:=eq_true rfl
theorem auF:zc X0=[.v Value.nilFunc]:=ID rfl
theorem aUD{K:TI→Prop}:@tyW Tryz.prog 232 ⟨K⟩=K XZ:=qg aXa
theorem auD:XZ.kd=Kd.oth:=ID rfl
theorem amo:XZ.kd.agg=false:=ID rfl
theorem agZ:XZ.size=1:=ID rfl
theorem abE:XZ.bytes=8:=ID rfl
theorem auB:qw XZ=True:=eq_true rfl
theorem auC:zc XZ=[.v Value.nilFunc]:=ID rfl
theorem aUC{K:TI→Prop}:@tyW Tryz.prog 233 ⟨K⟩=K XY:=qg aW9
theorem auA:XY.kd=Kd.oth:=ID rfl
theorem amn:XY.kd.agg=false:=ID rfl
theorem agY:XY.size=1:=ID rfl
theorem abD:XY.bytes=8:=ID rfl
theorem auy:qw XY=True:=eq_true rfl
theorem auz:zc XY=[.v Value.nilFunc]:=ID rfl
theorem aUB{K:TI→Prop}:@tyW Tryz.prog 234 ⟨K⟩=K XX:=qg aW8
theorem aux:XX.kd=Kd.oth:=ID rfl
theorem amm:XX.kd.agg=false:=ID rfl
theorem agX:XX.size=1:=ID rfl
theorem abC:XX.bytes=8:=ID rfl
theorem auv:qw XX=True:=eq_true rfl
theorem auw:zc XX=[.v Value.nilFunc]:=ID rfl
theorem aUA{K:TI→Prop}:@tyW Tryz.prog 235 ⟨K⟩=K XW:=qg aW7
theorem auu:XW.kd=Kd.oth:=ID rfl
theorem aml:XW.kd.agg=false:=ID rfl
theorem agW:XW.size=1:=ID rfl
theorem abB:XW.bytes=8:=ID rfl
theorem aus:qw XW=True:=eq_true rfl
theorem aut:zc XW=[.v Value.nilFunc]:=ID rfl
theorem aUz{K:TI→Prop}:@tyW Tryz.prog 236 ⟨K⟩=K XV:=qg aW6
theorem aur:XV.kd=Kd.oth:=ID rfl
theorem amk:XV.kd.agg=false:=ID rfl
theorem agV:XV.size=1:=ID rfl
theorem abA:XV.bytes=8:=ID rfl
theorem aup:qw XV=True:=eq_true rfl
theorem auq:zc XV=[.v Value.nilFunc]:=ID rfl
theorem aUy{K:TI→Prop}:@tyW Tryz.prog 237 ⟨K⟩=K XU:=qg aW5
theorem auo:XU.kd=Kd.oth:=ID rfl
theorem amj:XU.kd.agg=false:=ID rfl
theorem agU:XU.size=1:=ID rfl
theorem abz:XU.bytes=8:=ID rfl
theorem aum:qw XU=True:=eq_true rfl
theorem aun:zc XU=[.v Value.nilFunc]:=ID rfl
theorem aUx{K:TI→Prop}:@tyW Tryz.prog 238 ⟨K⟩=K XT:=qg aW4
theorem aul:XT.kd=Kd.oth:=ID rfl
theorem ami:XT.kd.agg=false:=ID rfl
theorem agT:XT.size=1:=ID rfl
theorem aby:XT.bytes=8:=ID rfl
theorem auj:qw XT=True:=eq_true rfl
theorem auk:zc XT=[.v Value.nilFunc]:=ID rfl
theorem aUw{K:TI→Prop}:@tyW Tryz.prog 239 ⟨K⟩=K XS:=qg aW3
theorem aui:XS.kd=Kd.oth:=ID rfl
theorem amh:XS.kd.agg=false:=ID rfl
theorem agS:XS.size=1:=ID rfl
theorem abx:XS.bytes=8:=ID rfl
theorem aug:qw XS=True:=eq_true rfl
theorem auh:zc XS=[.v Value.nilFunc]:=ID rfl
theorem aUv{K:TI→Prop}:@tyW Tryz.prog 240 ⟨K⟩=K XR:=qg aW2
theorem aue:XR.kd=Kd.oth:=ID rfl
theorem ame:XR.kd.agg=false:=ID rfl
theorem agQ:XR.size=1:=ID rfl
theorem abw:XR.bytes=8:=ID rfl
theorem auc:qw XR=True:=eq_true rfl
theorem aud:zc XR=[.v Value.nilFunc]:=ID rfl
theorem aUu{K:TI→Prop}:@tyW Tryz.prog 241 ⟨K⟩=K XQ:=qg aW1
theorem aub:XQ.kd=Kd.oth:=ID rfl
theorem amd:XQ.kd.agg=false:=ID rfl
theorem agP:XQ.size=1:=ID rfl
theorem abv:XQ.bytes=8:=ID rfl
theorem at9:qw XQ=True:=eq_true rfl
theorem aua:zc XQ=[.v Value.nilFunc]:=ID rfl
theorem aUt{K:TI→Prop}:@tyW Tryz.prog 242 ⟨K⟩=K XP:=qg aW0
theorem at8:XP.kd=Kd.oth:=ID rfl
theorem amc:XP.kd.agg=false:=ID rfl
theorem agO:XP.size=1:=ID rfl
theorem abu:XP.bytes=8:=ID rfl
theorem at6:qw XP=True:=eq_true rfl
theorem at7:zc XP=[.v Value.nilFunc]:=ID rfl
theorem aUs{K:TI→Prop}:@tyW Tryz.prog 243 ⟨K⟩=K XO:=qg aWZ
theorem at5:XO.kd=Kd.oth:=ID rfl
theorem amb:XO.kd.agg=false:=ID rfl
theorem agN:XO.size=1:=ID rfl
theorem abt:XO.bytes=8:=ID rfl
theorem at3:qw XO=True:=eq_true rfl
theorem at4:zc XO=[.v Value.nilFunc]:=ID rfl
theorem aUr{K:TI→Prop}:@tyW Tryz.prog 245 ⟨K⟩=K XN:=qg aWY
theorem at2:XN.kd=Kd.oth:=ID rfl
theorem ama:XN.kd.agg=false:=ID rfl
theorem agM:XN.size=1:=ID rfl
theorem abr:XN.bytes=8:=ID rfl
theorem at0:qw XN=True:=eq_true rfl
theorem at1:zc XN=[.v Value.nilFunc]:=ID rfl
theorem aUq{K:TI→Prop}:@tyW Tryz.prog 246 ⟨K⟩=K XM:=qg aWX
theorem atZ:XM.kd=Kd.oth:=ID rfl
theorem al9:XM.kd.agg=false:=ID rfl
theorem agL:XM.size=1:=ID rfl
theorem abq:XM.bytes=8:=ID rfl
theorem atX:qw XM=True:=eq_true rfl
theorem atY:zc XM=[.v Value.nilFunc]:=ID rfl
theorem aUp{K:TI→Prop}:@tyW Tryz.prog 247 ⟨K⟩=K XL:=qg aWW
theorem atW:XL.kd=Kd.oth:=ID rfl
theorem al8:XL.kd.agg=false:=ID rfl
theorem agK:XL.size=1:=ID rfl
theorem abp:XL.bytes=8:=ID rfl
theorem atU:qw XL=True:=eq_true rfl
theorem atV:zc XL=[.v Value.nilFunc]:=ID rfl
theorem aUo{K:TI→Prop}:@tyW Tryz.prog 249 ⟨K⟩=K XK:=qg aWV
theorem atT:XK.kd=Kd.oth:=ID rfl
theorem al7:XK.kd.agg=false:=ID rfl
theorem agJ:XK.size=1:=ID rfl
theorem abo:XK.bytes=8:=ID rfl
theorem atR:qw XK=True:=eq_true rfl
theorem atS:zc XK=[.v Value.nilFunc]:=ID rfl
theorem aUn{K:TI→Prop}:@tyW Tryz.prog 250 ⟨K⟩=K XJ:=qg aWU
theorem atP:XJ.kd=Kd.oth:=ID rfl
theorem al4:XJ.kd.agg=false:=ID rfl
theorem agH:XJ.size=1:=ID rfl
theorem abn:XJ.bytes=8:=ID rfl
theorem atN:qw XJ=True:=eq_true rfl
theorem atO:zc XJ=[.v Value.nilFunc]:=ID rfl
theorem aUm{K:TI→Prop}:@tyW Tryz.prog 251 ⟨K⟩=K XI:=qg aWT
theorem atM:XI.kd=Kd.oth:=ID rfl
theorem al3:XI.kd.agg=false:=ID rfl
theorem agG:XI.size=1:=ID rfl
theorem abm:XI.bytes=8:=ID rfl
theorem atK:qw XI=True:=eq_true rfl
theorem atL:zc XI=[.v Value.nilFunc]:=ID rfl
theorem aUl{K:TI→Prop}:@tyW Tryz.prog 252 ⟨K⟩=K XH:=qg aWS
theorem atJ:XH.kd=Kd.int IntKind.u32:=ID rfl
theorem al2:XH.kd.agg=false:=ID rfl
theorem agF:XH.size=1:=ID rfl
theorem abl:XH.bytes=4:=ID rfl
theorem atH:qw XH=True:=eq_true rfl
theorem atI:zc XH=[.v (Value.int IntKind.u32 0)]:=ID rfl
theorem aUk{K:TI→Prop}:@tyW Tryz.prog 253 ⟨K⟩=K XG:=qg aWR
theorem atG:XG.kd=Kd.oth:=ID rfl
theorem al1:XG.kd.agg=false:=ID rfl
theorem agE:XG.size=1:=ID rfl
theorem abk:XG.bytes=8:=ID rfl
theorem atE:qw XG=True:=eq_true rfl
theorem atF:zc XG=[.v Value.nilFunc]:=ID rfl
theorem aUj{K:TI→Prop}:@tyW Tryz.prog 254 ⟨K⟩=K XF:=qg aWQ
theorem atD:XF.kd=Kd.int IntKind.u64:=ID rfl
theorem al0:XF.kd.agg=false:=ID rfl
theorem agD:XF.size=1:=ID rfl
theorem abj:XF.bytes=8:=ID rfl
theorem atB:qw XF=True:=eq_true rfl
theorem atC:zc XF=[.v (Value.int IntKind.u64 0)]:=ID rfl
theorem aUi{K:TI→Prop}:@tyW Tryz.prog 256 ⟨K⟩=K XE:=qg aWP
theorem atA:XE.kd=Kd.oth:=ID rfl
theorem alZ:XE.kd.agg=false:=ID rfl
theorem agC:XE.size=1:=ID rfl
theorem abi:XE.bytes=8:=ID rfl
theorem aty:qw XE=True:=eq_true rfl
theorem atz:zc XE=[.v Value.nilFunc]:=ID rfl
theorem aUh{K:TI→Prop}:@tyW Tryz.prog 257 ⟨K⟩=K XD:=qg aWO
theorem atx:XD.kd=Kd.oth:=ID rfl
theorem alY:XD.kd.agg=false:=ID rfl
theorem agB:XD.size=1:=ID rfl
theorem abh:XD.bytes=8:=ID rfl
theorem atv:qw XD=True:=eq_true rfl
theorem atw:zc XD=[.v Value.nilFunc]:=ID rfl
theorem aUg{K:TI→Prop}:@tyW Tryz.prog 258 ⟨K⟩=K XC:=qg aWN
theorem atu:XC.kd=Kd.oth:=ID rfl
theorem alX:XC.kd.agg=false:=ID rfl
theorem agA:XC.size=1:=ID rfl
theorem abg:XC.bytes=8:=ID rfl
theorem ats:qw XC=True:=eq_true rfl
theorem att:zc XC=[.v Value.nilFunc]:=ID rfl
theorem aUf{K:TI→Prop}:@tyW Tryz.prog 259 ⟨K⟩=K XB:=qg aWM
theorem atr:XB.kd=Kd.oth:=ID rfl
theorem alW:XB.kd.agg=false:=ID rfl
theorem agz:XB.size=1:=ID rfl
theorem abf:XB.bytes=8:=ID rfl
theorem atp:qw XB=True:=eq_true rfl
theorem atq:zc XB=[.v Value.nilFunc]:=ID rfl
theorem aUe{K:TI→Prop}:@tyW Tryz.prog 260 ⟨K⟩=K XA:=qg aWL
theorem atn:XA.kd=Kd.oth:=ID rfl
theorem alU:XA.kd.agg=false:=ID rfl
theorem agx:XA.size=1:=ID rfl
theorem abe:XA.bytes=8:=ID rfl
theorem atl:qw XA=True:=eq_true rfl
theorem atm:zc XA=[.v Value.nilFunc]:=ID rfl
theorem aUd{K:TI→Prop}:@tyW Tryz.prog 263 ⟨K⟩=K Xz:=qg aWK
theorem atk:Xz.kd=Kd.oth:=ID rfl
theorem alT:Xz.kd.agg=false:=ID rfl
theorem agw:Xz.size=1:=ID rfl
theorem abd:Xz.bytes=8:=ID rfl
theorem ati:qw Xz=True:=eq_true rfl
theorem atj:zc Xz=[.v Value.nilFunc]:=ID rfl
theorem aUc{K:TI→Prop}:@tyW Tryz.prog 267 ⟨K⟩=K Xy:=qg aWJ
theorem ath:Xy.kd=Kd.stru [(0,266)]:=ID rfl
theorem alS:Xy.kd.agg=true:=ID rfl
theorem agv:Xy.size=0:=ID rfl
theorem abc:Xy.bytes=0:=ID rfl
theorem atf:qw Xy=True:=eq_true rfl
theorem atg:zc Xy=[]:=ID rfl
theorem aUb{K:TI→Prop}:@tyW Tryz.prog 268 ⟨K⟩=K Xx:=qg aWI
theorem ate:Xx.kd=Kd.stru [(0,266)]:=ID rfl
theorem alR:Xx.kd.agg=true:=ID rfl
theorem agu:Xx.size=0:=ID rfl
theorem abb:Xx.bytes=0:=ID rfl
theorem atc:qw Xx=True:=eq_true rfl
theorem atd:zc Xx=[]:=ID rfl
theorem aUa{K:TI→Prop}:@tyW Tryz.prog 269 ⟨K⟩=K Xw:=qg aWH
theorem atb:Xw.kd=Kd.int IntKind.u8:=ID rfl
theorem alQ:Xw.kd.agg=false:=ID rfl
theorem agt:Xw.size=1:=ID rfl
theorem aba:Xw.bytes=1:=ID rfl
theorem as9:qw Xw=True:=eq_true rfl
theorem ata:zc Xw=[.v (Value.int IntKind.u8 0)]:=ID rfl
theorem aT9{K:TI→Prop}:@tyW Tryz.prog 270 ⟨K⟩=K Xv:=qg aWG
theorem as8:Xv.kd=Kd.int IntKind.u8:=ID rfl
theorem alP:Xv.kd.agg=false:=ID rfl
theorem ags:Xv.size=1:=ID rfl
theorem aa9:Xv.bytes=1:=ID rfl
theorem as6:qw Xv=True:=eq_true rfl
theorem as7:zc Xv=[.v (Value.int IntKind.u8 0)]:=ID rfl
theorem aT8{K:TI→Prop}:@tyW Tryz.prog 271 ⟨K⟩=K Xu:=qg aWF
theorem as5:Xu.kd=Kd.oth:=ID rfl
theorem alO:Xu.kd.agg=false:=ID rfl
theorem agr:Xu.size=1:=ID rfl
theorem aa8:Xu.bytes=8:=ID rfl
theorem as3:qw Xu=True:=eq_true rfl
theorem as4:zc Xu=[.v Value.nilFunc]:=ID rfl
theorem aT7{K:TI→Prop}:@tyW Tryz.prog 273 ⟨K⟩=K Xt:=qg aWE
theorem as2:Xt.kd=Kd.int IntKind.i32:=ID rfl
theorem alN:Xt.kd.agg=false:=ID rfl
theorem agq:Xt.size=1:=ID rfl
theorem aa7:Xt.bytes=4:=ID rfl
theorem as0:qw Xt=True:=eq_true rfl
theorem as1:zc Xt=[.v (Value.int IntKind.i32 0)]:=ID rfl
theorem aT6{K:TI→Prop}:@tyW Tryz.prog 274 ⟨K⟩=K Xs:=qg aWD
theorem asZ:Xs.kd=Kd.int IntKind.i32:=ID rfl
theorem alM:Xs.kd.agg=false:=ID rfl
theorem agp:Xs.size=1:=ID rfl
theorem aa6:Xs.bytes=4:=ID rfl
theorem asX:qw Xs=True:=eq_true rfl
theorem asY:zc Xs=[.v (Value.int IntKind.i32 0)]:=ID rfl
theorem aT5{K:TI→Prop}:@tyW Tryz.prog 277 ⟨K⟩=K Xr:=qg aWC
theorem asW:Xr.kd=Kd.oth:=ID rfl
theorem alL:Xr.kd.agg=false:=ID rfl
theorem ago:Xr.size=1:=ID rfl
theorem aa5:Xr.bytes=8:=ID rfl
theorem asU:qw Xr=True:=eq_true rfl
theorem asV:zc Xr=[.v Value.nilFunc]:=ID rfl
theorem bek:qo Tryz.prog 2=True:=eq_true ⟨_,Tryz.func2,of_decide_eq_false (by kernel_rfl),rfl⟩
theorem bej:qo Tryz.prog 3=True:=eq_true ⟨_,Tryz.func3,of_decide_eq_false (by kernel_rfl),rfl⟩
theorem bei:qo Tryz.prog 4=True:=eq_true ⟨_,Tryz.func4,of_decide_eq_false (by kernel_rfl),rfl⟩
theorem beh:qo Tryz.prog 5=True:=eq_true ⟨_,Tryz.func5,of_decide_eq_false (by kernel_rfl),rfl⟩
theorem beg:qo Tryz.prog 6=True:=eq_true ⟨_,Tryz.func6,of_decide_eq_false (by kernel_rfl),rfl⟩
theorem bef:qo Tryz.prog 7=True:=eq_true ⟨_,Tryz.func7,of_decide_eq_false (by kernel_rfl),rfl⟩
theorem bee:qo Tryz.prog 8=True:=eq_true ⟨_,Tryz.func8,of_decide_eq_false (by kernel_rfl),rfl⟩
theorem bed:qo Tryz.prog 9=True:=eq_true ⟨_,Tryz.func9,of_decide_eq_false (by kernel_rfl),rfl⟩
theorem bbc:qo Tryz.prog 10=True:=eq_true ⟨_,Tryz.func10,of_decide_eq_false (by kernel_rfl),rfl⟩
theorem bbb:qo Tryz.prog 11=True:=eq_true ⟨_,Tryz.func11,of_decide_eq_false (by kernel_rfl),rfl⟩
theorem bba:qo Tryz.prog 12=True:=eq_true ⟨_,Tryz.func12,of_decide_eq_false (by kernel_rfl),rfl⟩
theorem ba9:qo Tryz.prog 13=True:=eq_true ⟨_,Tryz.func13,of_decide_eq_false (by kernel_rfl),rfl⟩
theorem ba8:qo Tryz.prog 14=True:=eq_true ⟨_,Tryz.func14,of_decide_eq_false (by kernel_rfl),rfl⟩
theorem ba7:qo Tryz.prog 15=True:=eq_true ⟨_,Tryz.func15,of_decide_eq_false (by kernel_rfl),rfl⟩
theorem ba6:qo Tryz.prog 16=True:=eq_true ⟨_,Tryz.func16,of_decide_eq_false (by kernel_rfl),rfl⟩
theorem ba5:qo Tryz.prog 17=True:=eq_true ⟨_,Tryz.func17,of_decide_eq_false (by kernel_rfl),rfl⟩
theorem ba4:qo Tryz.prog 18=True:=eq_true ⟨_,Tryz.func18,of_decide_eq_false (by kernel_rfl),rfl⟩
theorem ba3:qo Tryz.prog 19=True:=eq_true ⟨_,Tryz.func19,of_decide_eq_false (by kernel_rfl),rfl⟩
theorem ba2:qo Tryz.prog 20=True:=eq_true ⟨_,Tryz.func20,of_decide_eq_false (by kernel_rfl),rfl⟩
theorem ba1:qo Tryz.prog 21=True:=eq_true ⟨_,Tryz.func21,of_decide_eq_false (by kernel_rfl),rfl⟩
theorem ba0:qo Tryz.prog 22=True:=eq_true ⟨_,Tryz.func22,of_decide_eq_false (by kernel_rfl),rfl⟩
theorem baZ:qo Tryz.prog 23=True:=eq_true ⟨_,Tryz.func23,of_decide_eq_false (by kernel_rfl),rfl⟩
theorem baY:qo Tryz.prog 24=True:=eq_true ⟨_,Tryz.func24,of_decide_eq_false (by kernel_rfl),rfl⟩
theorem baX:qo Tryz.prog 25=True:=eq_true ⟨_,Tryz.func25,of_decide_eq_false (by kernel_rfl),rfl⟩
theorem baW:qo Tryz.prog 26=True:=eq_true ⟨_,Tryz.func26,of_decide_eq_false (by kernel_rfl),rfl⟩
theorem baV:qo Tryz.prog 27=True:=eq_true ⟨_,Tryz.func27,of_decide_eq_false (by kernel_rfl),rfl⟩
theorem baU:qo Tryz.prog 28=True:=eq_true ⟨_,Tryz.func28,of_decide_eq_false (by kernel_rfl),rfl⟩
theorem baT:qo Tryz.prog 29=True:=eq_true ⟨_,Tryz.func29,of_decide_eq_false (by kernel_rfl),rfl⟩
theorem baS:qo Tryz.prog 30=True:=eq_true ⟨_,Tryz.func30,of_decide_eq_false (by kernel_rfl),rfl⟩
theorem baR:qo Tryz.prog 31=True:=eq_true ⟨_,Tryz.func31,of_decide_eq_false (by kernel_rfl),rfl⟩
theorem baQ:qo Tryz.prog 32=True:=eq_true ⟨_,Tryz.func32,of_decide_eq_false (by kernel_rfl),rfl⟩
theorem baP:qo Tryz.prog 33=True:=eq_true ⟨_,Tryz.func33,of_decide_eq_false (by kernel_rfl),rfl⟩
theorem baO:qo Tryz.prog 34=True:=eq_true ⟨_,Tryz.func34,of_decide_eq_false (by kernel_rfl),rfl⟩
theorem baN:qo Tryz.prog 35=True:=eq_true ⟨_,Tryz.func35,of_decide_eq_false (by kernel_rfl),rfl⟩
theorem baM:qo Tryz.prog 36=True:=eq_true ⟨_,Tryz.func36,of_decide_eq_false (by kernel_rfl),rfl⟩
theorem baL:qo Tryz.prog 37=True:=eq_true ⟨_,Tryz.func37,of_decide_eq_false (by kernel_rfl),rfl⟩
theorem baK:qo Tryz.prog 38=True:=eq_true ⟨_,Tryz.func38,of_decide_eq_false (by kernel_rfl),rfl⟩
theorem baJ:qo Tryz.prog 39=True:=eq_true ⟨_,Tryz.func39,of_decide_eq_false (by kernel_rfl),rfl⟩
theorem baI:qo Tryz.prog 40=True:=eq_true ⟨_,Tryz.func40,of_decide_eq_false (by kernel_rfl),rfl⟩
theorem baH:qo Tryz.prog 41=True:=eq_true ⟨_,Tryz.func41,of_decide_eq_false (by kernel_rfl),rfl⟩
theorem baG:qo Tryz.prog 42=True:=eq_true ⟨_,Tryz.func42,of_decide_eq_false (by kernel_rfl),rfl⟩
theorem baF:qo Tryz.prog 43=True:=eq_true ⟨_,Tryz.func43,of_decide_eq_false (by kernel_rfl),rfl⟩
theorem baE:qo Tryz.prog 44=True:=eq_true ⟨_,Tryz.func44,of_decide_eq_false (by kernel_rfl),rfl⟩
theorem baD:qo Tryz.prog 45=True:=eq_true ⟨_,Tryz.func45,of_decide_eq_false (by kernel_rfl),rfl⟩
theorem baC:qo Tryz.prog 46=True:=eq_true ⟨_,Tryz.func46,of_decide_eq_false (by kernel_rfl),rfl⟩
theorem baB:qo Tryz.prog 47=True:=eq_true ⟨_,Tryz.func47,of_decide_eq_false (by kernel_rfl),rfl⟩
theorem baA:qo Tryz.prog 48=True:=eq_true ⟨_,Tryz.func48,of_decide_eq_false (by kernel_rfl),rfl⟩
theorem baz:qo Tryz.prog 49=True:=eq_true ⟨_,Tryz.func49,of_decide_eq_false (by kernel_rfl),rfl⟩
theorem bay:qo Tryz.prog 50=True:=eq_true ⟨_,Tryz.func50,of_decide_eq_false (by kernel_rfl),rfl⟩
theorem bax:qo Tryz.prog 51=True:=eq_true ⟨_,Tryz.func51,of_decide_eq_false (by kernel_rfl),rfl⟩
theorem baw:qo Tryz.prog 52=True:=eq_true ⟨_,Tryz.func52,of_decide_eq_false (by kernel_rfl),rfl⟩
theorem bav:qo Tryz.prog 53=True:=eq_true ⟨_,Tryz.func53,of_decide_eq_false (by kernel_rfl),rfl⟩
theorem bau:qo Tryz.prog 54=True:=eq_true ⟨_,Tryz.func54,of_decide_eq_false (by kernel_rfl),rfl⟩
theorem bat:qo Tryz.prog 55=True:=eq_true ⟨_,Tryz.func55,of_decide_eq_false (by kernel_rfl),rfl⟩
theorem bas:qo Tryz.prog 56=True:=eq_true ⟨_,Tryz.func56,of_decide_eq_false (by kernel_rfl),rfl⟩
theorem bar:qo Tryz.prog 57=True:=eq_true ⟨_,Tryz.func57,of_decide_eq_false (by kernel_rfl),rfl⟩
theorem baq:qo Tryz.prog 58=True:=eq_true ⟨_,Tryz.func58,of_decide_eq_false (by kernel_rfl),rfl⟩
theorem bap:qo Tryz.prog 59=True:=eq_true ⟨_,Tryz.func59,of_decide_eq_false (by kernel_rfl),rfl⟩
theorem bao:qo Tryz.prog 60=True:=eq_true ⟨_,Tryz.func60,of_decide_eq_false (by kernel_rfl),rfl⟩
theorem ban:qo Tryz.prog 61=True:=eq_true ⟨_,Tryz.func61,of_decide_eq_false (by kernel_rfl),rfl⟩
theorem bam:qo Tryz.prog 62=True:=eq_true ⟨_,Tryz.func62,of_decide_eq_false (by kernel_rfl),rfl⟩
theorem bal:qo Tryz.prog 63=True:=eq_true ⟨_,Tryz.func63,of_decide_eq_false (by kernel_rfl),rfl⟩
theorem bak:qo Tryz.prog 64=True:=eq_true ⟨_,Tryz.func64,of_decide_eq_false (by kernel_rfl),rfl⟩
theorem baj:qo Tryz.prog 65=True:=eq_true ⟨_,Tryz.func65,of_decide_eq_false (by kernel_rfl),rfl⟩
theorem bai:qo Tryz.prog 66=True:=eq_true ⟨_,Tryz.func66,of_decide_eq_false (by kernel_rfl),rfl⟩
theorem bah:qo Tryz.prog 67=True:=eq_true ⟨_,Tryz.func67,of_decide_eq_false (by kernel_rfl),rfl⟩
theorem bag:qo Tryz.prog 68=True:=eq_true ⟨_,Tryz.func68,of_decide_eq_false (by kernel_rfl),rfl⟩
theorem baf:qo Tryz.prog 69=True:=eq_true ⟨_,Tryz.func69,of_decide_eq_false (by kernel_rfl),rfl⟩
theorem bae:qo Tryz.prog 70=True:=eq_true ⟨_,Tryz.func70,of_decide_eq_false (by kernel_rfl),rfl⟩
theorem bac:qo Tryz.prog 71=True:=eq_true ⟨_,Tryz.func71,of_decide_eq_false (by kernel_rfl),rfl⟩
theorem bab:qo Tryz.prog 72=True:=eq_true ⟨_,Tryz.func72,of_decide_eq_false (by kernel_rfl),rfl⟩
theorem baa:qo Tryz.prog 73=True:=eq_true ⟨_,Tryz.func73,of_decide_eq_false (by kernel_rfl),rfl⟩
theorem aZ9:qo Tryz.prog 74=True:=eq_true ⟨_,Tryz.func74,of_decide_eq_false (by kernel_rfl),rfl⟩
theorem aZ8:qo Tryz.prog 75=True:=eq_true ⟨_,Tryz.func75,of_decide_eq_false (by kernel_rfl),rfl⟩
theorem aZ7:qo Tryz.prog 76=True:=eq_true ⟨_,Tryz.func76,of_decide_eq_false (by kernel_rfl),rfl⟩
theorem aZ6:qo Tryz.prog 77=True:=eq_true ⟨_,Tryz.func77,of_decide_eq_false (by kernel_rfl),rfl⟩
theorem aZ5:qo Tryz.prog 78=True:=eq_true ⟨_,Tryz.func78,of_decide_eq_false (by kernel_rfl),rfl⟩
theorem aZ4:qo Tryz.prog 79=True:=eq_true ⟨_,Tryz.func79,of_decide_eq_false (by kernel_rfl),rfl⟩
theorem aZ3:qo Tryz.prog 80=True:=eq_true ⟨_,Tryz.func80,of_decide_eq_false (by kernel_rfl),rfl⟩
theorem aZ2:qo Tryz.prog 81=True:=eq_true ⟨_,Tryz.func81,of_decide_eq_false (by kernel_rfl),rfl⟩
theorem aZ1:qo Tryz.prog 82=True:=eq_true ⟨_,Tryz.func82,of_decide_eq_false (by kernel_rfl),rfl⟩
theorem aZ0:qo Tryz.prog 83=True:=eq_true ⟨_,Tryz.func83,of_decide_eq_false (by kernel_rfl),rfl⟩
theorem aZZ:qo Tryz.prog 84=True:=eq_true ⟨_,Tryz.func84,of_decide_eq_false (by kernel_rfl),rfl⟩
theorem aZY:qo Tryz.prog 85=True:=eq_true ⟨_,Tryz.func85,of_decide_eq_false (by kernel_rfl),rfl⟩
theorem aZX:qo Tryz.prog 86=True:=eq_true ⟨_,Tryz.func86,of_decide_eq_false (by kernel_rfl),rfl⟩
theorem aZW:qo Tryz.prog 87=True:=eq_true ⟨_,Tryz.func87,of_decide_eq_false (by kernel_rfl),rfl⟩
theorem aZV:qo Tryz.prog 88=True:=eq_true ⟨_,Tryz.func88,of_decide_eq_false (by kernel_rfl),rfl⟩
theorem aZU:qo Tryz.prog 89=True:=eq_true ⟨_,Tryz.func89,of_decide_eq_false (by kernel_rfl),rfl⟩
theorem aZT:qo Tryz.prog 90=True:=eq_true ⟨_,Tryz.func90,of_decide_eq_false (by kernel_rfl),rfl⟩
theorem aZS:qo Tryz.prog 91=True:=eq_true ⟨_,Tryz.func91,of_decide_eq_false (by kernel_rfl),rfl⟩
theorem aZR:qo Tryz.prog 92=True:=eq_true ⟨_,Tryz.func92,of_decide_eq_false (by kernel_rfl),rfl⟩
theorem aZQ:qo Tryz.prog 93=True:=eq_true ⟨_,Tryz.func93,of_decide_eq_false (by kernel_rfl),rfl⟩
theorem aZP:qo Tryz.prog 94=True:=eq_true ⟨_,Tryz.func94,of_decide_eq_false (by kernel_rfl),rfl⟩
theorem aZO:qo Tryz.prog 95=True:=eq_true ⟨_,Tryz.func95,of_decide_eq_false (by kernel_rfl),rfl⟩
theorem aZN:qo Tryz.prog 96=True:=eq_true ⟨_,Tryz.func96,of_decide_eq_false (by kernel_rfl),rfl⟩
theorem aZM:qo Tryz.prog 97=True:=eq_true ⟨_,Tryz.func97,of_decide_eq_false (by kernel_rfl),rfl⟩
theorem aZL:qo Tryz.prog 98=True:=eq_true ⟨_,Tryz.func98,of_decide_eq_false (by kernel_rfl),rfl⟩
theorem aZK:qo Tryz.prog 99=True:=eq_true ⟨_,Tryz.func99,of_decide_eq_false (by kernel_rfl),rfl⟩
theorem aSC:qo Tryz.prog 100=True:=eq_true ⟨_,Tryz.func100,of_decide_eq_false (by kernel_rfl),rfl⟩
theorem aSB:qo Tryz.prog 101=True:=eq_true ⟨_,Tryz.func101,of_decide_eq_false (by kernel_rfl),rfl⟩
theorem aSA:qo Tryz.prog 102=True:=eq_true ⟨_,Tryz.func102,of_decide_eq_false (by kernel_rfl),rfl⟩
theorem aSz:qo Tryz.prog 103=True:=eq_true ⟨_,Tryz.func103,of_decide_eq_false (by kernel_rfl),rfl⟩
theorem aSy:qo Tryz.prog 104=True:=eq_true ⟨_,Tryz.func104,of_decide_eq_false (by kernel_rfl),rfl⟩
theorem aSx:qo Tryz.prog 105=True:=eq_true ⟨_,Tryz.func105,of_decide_eq_false (by kernel_rfl),rfl⟩
theorem aSw:qo Tryz.prog 106=True:=eq_true ⟨_,Tryz.func106,of_decide_eq_false (by kernel_rfl),rfl⟩
theorem aSv:qo Tryz.prog 107=True:=eq_true ⟨_,Tryz.func107,of_decide_eq_false (by kernel_rfl),rfl⟩
theorem aSu:qo Tryz.prog 108=True:=eq_true ⟨_,Tryz.func108,of_decide_eq_false (by kernel_rfl),rfl⟩
theorem aSt:qo Tryz.prog 109=True:=eq_true ⟨_,Tryz.func109,of_decide_eq_false (by kernel_rfl),rfl⟩
theorem aSs:qo Tryz.prog 110=True:=eq_true ⟨_,Tryz.func110,of_decide_eq_false (by kernel_rfl),rfl⟩
theorem aSr:qo Tryz.prog 111=True:=eq_true ⟨_,Tryz.func111,of_decide_eq_false (by kernel_rfl),rfl⟩
theorem aSq:qo Tryz.prog 112=True:=eq_true ⟨_,Tryz.func112,of_decide_eq_false (by kernel_rfl),rfl⟩
theorem aSp:qo Tryz.prog 113=True:=eq_true ⟨_,Tryz.func113,of_decide_eq_false (by kernel_rfl),rfl⟩
theorem aSo:qo Tryz.prog 114=True:=eq_true ⟨_,Tryz.func114,of_decide_eq_false (by kernel_rfl),rfl⟩
theorem aSn:qo Tryz.prog 115=True:=eq_true ⟨_,Tryz.func115,of_decide_eq_false (by kernel_rfl),rfl⟩
theorem aSm:qo Tryz.prog 116=True:=eq_true ⟨_,Tryz.func116,of_decide_eq_false (by kernel_rfl),rfl⟩
theorem aSl:qo Tryz.prog 117=True:=eq_true ⟨_,Tryz.func117,of_decide_eq_false (by kernel_rfl),rfl⟩
theorem aSk:qo Tryz.prog 118=True:=eq_true ⟨_,Tryz.func118,of_decide_eq_false (by kernel_rfl),rfl⟩
theorem aSj:qo Tryz.prog 119=True:=eq_true ⟨_,Tryz.func119,of_decide_eq_false (by kernel_rfl),rfl⟩
theorem aSi:qo Tryz.prog 120=True:=eq_true ⟨_,Tryz.func120,of_decide_eq_false (by kernel_rfl),rfl⟩
theorem aSh:qo Tryz.prog 121=True:=eq_true ⟨_,Tryz.func121,of_decide_eq_false (by kernel_rfl),rfl⟩
theorem aSg:qo Tryz.prog 122=True:=eq_true ⟨_,Tryz.func122,of_decide_eq_false (by kernel_rfl),rfl⟩
theorem aSf:qo Tryz.prog 123=True:=eq_true ⟨_,Tryz.func123,of_decide_eq_false (by kernel_rfl),rfl⟩
theorem aSe:qo Tryz.prog 124=True:=eq_true ⟨_,Tryz.func124,of_decide_eq_false (by kernel_rfl),rfl⟩
theorem aSd:qo Tryz.prog 125=True:=eq_true ⟨_,Tryz.func125,of_decide_eq_false (by kernel_rfl),rfl⟩
theorem aSc:qo Tryz.prog 126=True:=eq_true ⟨_,Tryz.func126,of_decide_eq_false (by kernel_rfl),rfl⟩
theorem aSb:qo Tryz.prog 127=True:=eq_true ⟨_,Tryz.func127,of_decide_eq_false (by kernel_rfl),rfl⟩
theorem aSa:qo Tryz.prog 128=True:=eq_true ⟨_,Tryz.func128,of_decide_eq_false (by kernel_rfl),rfl⟩
theorem aR9:qo Tryz.prog 129=True:=eq_true ⟨_,Tryz.func129,of_decide_eq_false (by kernel_rfl),rfl⟩
theorem aR8:qo Tryz.prog 130=True:=eq_true ⟨_,Tryz.func130,of_decide_eq_false (by kernel_rfl),rfl⟩
theorem aR7:qo Tryz.prog 131=True:=eq_true ⟨_,Tryz.func131,of_decide_eq_false (by kernel_rfl),rfl⟩
theorem aR6:qo Tryz.prog 132=True:=eq_true ⟨_,Tryz.func132,of_decide_eq_false (by kernel_rfl),rfl⟩
theorem aR5:qo Tryz.prog 133=True:=eq_true ⟨_,Tryz.func133,of_decide_eq_false (by kernel_rfl),rfl⟩
theorem aR4:qo Tryz.prog 134=True:=eq_true ⟨_,Tryz.func134,of_decide_eq_false (by kernel_rfl),rfl⟩
theorem aR3:qo Tryz.prog 135=True:=eq_true ⟨_,Tryz.func135,of_decide_eq_false (by kernel_rfl),rfl⟩
theorem aR2:qo Tryz.prog 136=True:=eq_true ⟨_,Tryz.func136,of_decide_eq_false (by kernel_rfl),rfl⟩
theorem aR1:qo Tryz.prog 137=True:=eq_true ⟨_,Tryz.func137,of_decide_eq_false (by kernel_rfl),rfl⟩
theorem aR0:qo Tryz.prog 138=True:=eq_true ⟨_,Tryz.func138,of_decide_eq_false (by kernel_rfl),rfl⟩
theorem aRZ:qo Tryz.prog 139=True:=eq_true ⟨_,Tryz.func139,of_decide_eq_false (by kernel_rfl),rfl⟩
theorem aRY:qo Tryz.prog 140=True:=eq_true ⟨_,Tryz.func140,of_decide_eq_false (by kernel_rfl),rfl⟩
theorem aRX:qo Tryz.prog 141=True:=eq_true ⟨_,Tryz.func141,of_decide_eq_false (by kernel_rfl),rfl⟩
theorem aRW:qo Tryz.prog 142=True:=eq_true ⟨_,Tryz.func142,of_decide_eq_false (by kernel_rfl),rfl⟩
theorem aRV:qo Tryz.prog 143=True:=eq_true ⟨_,Tryz.func143,of_decide_eq_false (by kernel_rfl),rfl⟩
theorem aRU:qo Tryz.prog 144=True:=eq_true ⟨_,Tryz.func144,of_decide_eq_false (by kernel_rfl),rfl⟩
theorem aRT:qo Tryz.prog 145=True:=eq_true ⟨_,Tryz.func145,of_decide_eq_false (by kernel_rfl),rfl⟩
theorem aRS:qo Tryz.prog 146=True:=eq_true ⟨_,Tryz.func146,of_decide_eq_false (by kernel_rfl),rfl⟩
theorem aRR:qo Tryz.prog 147=True:=eq_true ⟨_,Tryz.func147,of_decide_eq_false (by kernel_rfl),rfl⟩
theorem aRQ:qo Tryz.prog 148=True:=eq_true ⟨_,Tryz.func148,of_decide_eq_false (by kernel_rfl),rfl⟩
theorem aRP:qo Tryz.prog 149=True:=eq_true ⟨_,Tryz.func149,of_decide_eq_false (by kernel_rfl),rfl⟩
theorem aRO:qo Tryz.prog 150=True:=eq_true ⟨_,Tryz.func150,of_decide_eq_false (by kernel_rfl),rfl⟩
theorem aRN:qo Tryz.prog 151=True:=eq_true ⟨_,Tryz.func151,of_decide_eq_false (by kernel_rfl),rfl⟩
theorem aRM:qo Tryz.prog 152=True:=eq_true ⟨_,Tryz.func152,of_decide_eq_false (by kernel_rfl),rfl⟩
theorem aRL:qo Tryz.prog 153=True:=eq_true ⟨_,Tryz.func153,of_decide_eq_false (by kernel_rfl),rfl⟩
theorem aRK:qo Tryz.prog 154=True:=eq_true ⟨_,Tryz.func154,of_decide_eq_false (by kernel_rfl),rfl⟩
theorem aRJ:qo Tryz.prog 155=True:=eq_true ⟨_,Tryz.func155,of_decide_eq_false (by kernel_rfl),rfl⟩
theorem aRI:qo Tryz.prog 156=True:=eq_true ⟨_,Tryz.func156,of_decide_eq_false (by kernel_rfl),rfl⟩
theorem aRH:qo Tryz.prog 157=True:=eq_true ⟨_,Tryz.func157,of_decide_eq_false (by kernel_rfl),rfl⟩
theorem aRG:qo Tryz.prog 158=True:=eq_true ⟨_,Tryz.func158,of_decide_eq_false (by kernel_rfl),rfl⟩
theorem aRF:qo Tryz.prog 159=True:=eq_true ⟨_,Tryz.func159,of_decide_eq_false (by kernel_rfl),rfl⟩
theorem aRE:qo Tryz.prog 160=True:=eq_true ⟨_,Tryz.func160,of_decide_eq_false (by kernel_rfl),rfl⟩
theorem aRD:qo Tryz.prog 161=True:=eq_true ⟨_,Tryz.func161,of_decide_eq_false (by kernel_rfl),rfl⟩
theorem aRC:qo Tryz.prog 162=True:=eq_true ⟨_,Tryz.func162,of_decide_eq_false (by kernel_rfl),rfl⟩
theorem aRB:qo Tryz.prog 163=True:=eq_true ⟨_,Tryz.func163,of_decide_eq_false (by kernel_rfl),rfl⟩
theorem aRA:qo Tryz.prog 164=True:=eq_true ⟨_,Tryz.func164,of_decide_eq_false (by kernel_rfl),rfl⟩
theorem aRz:qo Tryz.prog 165=True:=eq_true ⟨_,Tryz.func165,of_decide_eq_false (by kernel_rfl),rfl⟩
theorem aRy:qo Tryz.prog 166=True:=eq_true ⟨_,Tryz.func166,of_decide_eq_false (by kernel_rfl),rfl⟩
theorem aRx:qo Tryz.prog 167=True:=eq_true ⟨_,Tryz.func167,of_decide_eq_false (by kernel_rfl),rfl⟩
theorem aRw:qo Tryz.prog 168=True:=eq_true ⟨_,Tryz.func168,of_decide_eq_false (by kernel_rfl),rfl⟩
theorem aRv:qo Tryz.prog 169=True:=eq_true ⟨_,Tryz.func169,of_decide_eq_false (by kernel_rfl),rfl⟩
theorem aRu:qo Tryz.prog 170=True:=eq_true ⟨_,Tryz.func170,of_decide_eq_false (by kernel_rfl),rfl⟩
theorem aRt:qo Tryz.prog 171=True:=eq_true ⟨_,Tryz.func171,of_decide_eq_false (by kernel_rfl),rfl⟩
theorem aRs:qo Tryz.prog 172=True:=eq_true ⟨_,Tryz.func172,of_decide_eq_false (by kernel_rfl),rfl⟩
theorem aRr:qo Tryz.prog 173=True:=eq_true ⟨_,Tryz.func173,of_decide_eq_false (by kernel_rfl),rfl⟩
theorem aRq:qo Tryz.prog 174=True:=eq_true ⟨_,Tryz.func174,of_decide_eq_false (by kernel_rfl),rfl⟩
theorem aRp:qo Tryz.prog 175=True:=eq_true ⟨_,Tryz.func175,of_decide_eq_false (by kernel_rfl),rfl⟩
theorem aRo:qo Tryz.prog 176=True:=eq_true ⟨_,Tryz.func176,of_decide_eq_false (by kernel_rfl),rfl⟩
theorem aRn:qo Tryz.prog 177=True:=eq_true ⟨_,Tryz.func177,of_decide_eq_false (by kernel_rfl),rfl⟩
theorem aRm:qo Tryz.prog 178=True:=eq_true ⟨_,Tryz.func178,of_decide_eq_false (by kernel_rfl),rfl⟩
theorem aRl:qo Tryz.prog 179=True:=eq_true ⟨_,Tryz.func179,of_decide_eq_false (by kernel_rfl),rfl⟩
theorem aRk:qo Tryz.prog 180=True:=eq_true ⟨_,Tryz.func180,of_decide_eq_false (by kernel_rfl),rfl⟩
theorem aRj:qo Tryz.prog 181=True:=eq_true ⟨_,Tryz.func181,of_decide_eq_false (by kernel_rfl),rfl⟩
theorem aRi:qo Tryz.prog 182=True:=eq_true ⟨_,Tryz.func182,of_decide_eq_false (by kernel_rfl),rfl⟩
theorem aRh:qo Tryz.prog 183=True:=eq_true ⟨_,Tryz.func183,of_decide_eq_false (by kernel_rfl),rfl⟩
theorem aRg:qo Tryz.prog 184=True:=eq_true ⟨_,Tryz.func184,of_decide_eq_false (by kernel_rfl),rfl⟩
theorem aRf:qo Tryz.prog 185=True:=eq_true ⟨_,Tryz.func185,of_decide_eq_false (by kernel_rfl),rfl⟩
theorem aRe:qo Tryz.prog 186=True:=eq_true ⟨_,Tryz.func186,of_decide_eq_false (by kernel_rfl),rfl⟩
theorem aRd:qo Tryz.prog 187=True:=eq_true ⟨_,Tryz.func187,of_decide_eq_false (by kernel_rfl),rfl⟩
theorem aRc:qo Tryz.prog 188=True:=eq_true ⟨_,Tryz.func188,of_decide_eq_false (by kernel_rfl),rfl⟩
theorem aRb:qo Tryz.prog 189=True:=eq_true ⟨_,Tryz.func189,of_decide_eq_false (by kernel_rfl),rfl⟩
theorem aRa:qo Tryz.prog 190=True:=eq_true ⟨_,Tryz.func190,of_decide_eq_false (by kernel_rfl),rfl⟩
theorem aQ9:qo Tryz.prog 191=True:=eq_true ⟨_,Tryz.func191,of_decide_eq_false (by kernel_rfl),rfl⟩
theorem aQ8:qo Tryz.prog 192=True:=eq_true ⟨_,Tryz.func192,of_decide_eq_false (by kernel_rfl),rfl⟩
theorem aQ7:qo Tryz.prog 193=True:=eq_true ⟨_,Tryz.func193,of_decide_eq_false (by kernel_rfl),rfl⟩
theorem aQ6:qo Tryz.prog 194=True:=eq_true ⟨_,Tryz.func194,of_decide_eq_false (by kernel_rfl),rfl⟩
theorem aQ5:qo Tryz.prog 195=True:=eq_true ⟨_,Tryz.func195,of_decide_eq_false (by kernel_rfl),rfl⟩
theorem aQ4:qo Tryz.prog 196=True:=eq_true ⟨_,Tryz.func196,of_decide_eq_false (by kernel_rfl),rfl⟩
theorem aQ3:qo Tryz.prog 197=True:=eq_true ⟨_,Tryz.func197,of_decide_eq_false (by kernel_rfl),rfl⟩
theorem aQ2:qo Tryz.prog 198=True:=eq_true ⟨_,Tryz.func198,of_decide_eq_false (by kernel_rfl),rfl⟩
theorem aQ1:qo Tryz.prog 199=True:=eq_true ⟨_,Tryz.func199,of_decide_eq_false (by kernel_rfl),rfl⟩
theorem aQ0:qo Tryz.prog 200=True:=eq_true ⟨_,Tryz.func200,of_decide_eq_false (by kernel_rfl),rfl⟩
theorem aQZ:qo Tryz.prog 201=True:=eq_true ⟨_,Tryz.func201,of_decide_eq_false (by kernel_rfl),rfl⟩
theorem aQY:qo Tryz.prog 202=True:=eq_true ⟨_,Tryz.func202,of_decide_eq_false (by kernel_rfl),rfl⟩
theorem aQX:qo Tryz.prog 203=True:=eq_true ⟨_,Tryz.func203,of_decide_eq_false (by kernel_rfl),rfl⟩
theorem aQW:qo Tryz.prog 204=True:=eq_true ⟨_,Tryz.func204,of_decide_eq_false (by kernel_rfl),rfl⟩
theorem aQV:qo Tryz.prog 205=True:=eq_true ⟨_,Tryz.func205,of_decide_eq_false (by kernel_rfl),rfl⟩
theorem aQU:qo Tryz.prog 206=True:=eq_true ⟨_,Tryz.func206,of_decide_eq_false (by kernel_rfl),rfl⟩
theorem aQT:qo Tryz.prog 207=True:=eq_true ⟨_,Tryz.func207,of_decide_eq_false (by kernel_rfl),rfl⟩
theorem aQS:qo Tryz.prog 208=True:=eq_true ⟨_,Tryz.func208,of_decide_eq_false (by kernel_rfl),rfl⟩
theorem aQR:qo Tryz.prog 209=True:=eq_true ⟨_,Tryz.func209,of_decide_eq_false (by kernel_rfl),rfl⟩
theorem aQQ:qo Tryz.prog 210=True:=eq_true ⟨_,Tryz.func210,of_decide_eq_false (by kernel_rfl),rfl⟩
theorem aQP:qo Tryz.prog 211=True:=eq_true ⟨_,Tryz.func211,of_decide_eq_false (by kernel_rfl),rfl⟩
theorem aQO:qo Tryz.prog 212=True:=eq_true ⟨_,Tryz.func212,of_decide_eq_false (by kernel_rfl),rfl⟩
theorem aQN:qo Tryz.prog 213=True:=eq_true ⟨_,Tryz.func213,of_decide_eq_false (by kernel_rfl),rfl⟩
theorem aQM:qo Tryz.prog 214=True:=eq_true ⟨_,Tryz.func214,of_decide_eq_false (by kernel_rfl),rfl⟩
theorem aQL:qo Tryz.prog 215=True:=eq_true ⟨_,Tryz.func215,of_decide_eq_false (by kernel_rfl),rfl⟩
theorem aQK:qo Tryz.prog 216=True:=eq_true ⟨_,Tryz.func216,of_decide_eq_false (by kernel_rfl),rfl⟩
theorem aQJ:qo Tryz.prog 217=True:=eq_true ⟨_,Tryz.func217,of_decide_eq_false (by kernel_rfl),rfl⟩
theorem aQI:qo Tryz.prog 218=True:=eq_true ⟨_,Tryz.func218,of_decide_eq_false (by kernel_rfl),rfl⟩
theorem aQH:qo Tryz.prog 219=True:=eq_true ⟨_,Tryz.func219,of_decide_eq_false (by kernel_rfl),rfl⟩
theorem aQG:qo Tryz.prog 220=True:=eq_true ⟨_,Tryz.func220,of_decide_eq_false (by kernel_rfl),rfl⟩
theorem aQF:qo Tryz.prog 221=True:=eq_true ⟨_,Tryz.func221,of_decide_eq_false (by kernel_rfl),rfl⟩
theorem aQE:qo Tryz.prog 222=True:=eq_true ⟨_,Tryz.func222,of_decide_eq_false (by kernel_rfl),rfl⟩
theorem aQD:qo Tryz.prog 223=True:=eq_true ⟨_,Tryz.func223,of_decide_eq_false (by kernel_rfl),rfl⟩
theorem aQC:qo Tryz.prog 224=True:=eq_true ⟨_,Tryz.func224,of_decide_eq_false (by kernel_rfl),rfl⟩
theorem aQB:qo Tryz.prog 225=True:=eq_true ⟨_,Tryz.func225,of_decide_eq_false (by kernel_rfl),rfl⟩
theorem aQA:qo Tryz.prog 226=True:=eq_true ⟨_,Tryz.func226,of_decide_eq_false (by kernel_rfl),rfl⟩
theorem aQz:qo Tryz.prog 227=True:=eq_true ⟨_,Tryz.func227,of_decide_eq_false (by kernel_rfl),rfl⟩
theorem aQy:qo Tryz.prog 228=True:=eq_true ⟨_,Tryz.func228,of_decide_eq_false (by kernel_rfl),rfl⟩
theorem aQx:qo Tryz.prog 229=True:=eq_true ⟨_,Tryz.func229,of_decide_eq_false (by kernel_rfl),rfl⟩
theorem aQw:qo Tryz.prog 230=True:=eq_true ⟨_,Tryz.func230,of_decide_eq_false (by kernel_rfl),rfl⟩
theorem aQv:qo Tryz.prog 231=True:=eq_true ⟨_,Tryz.func231,of_decide_eq_false (by kernel_rfl),rfl⟩
theorem aQu:qo Tryz.prog 232=True:=eq_true ⟨_,Tryz.func232,of_decide_eq_false (by kernel_rfl),rfl⟩
theorem aQt:qo Tryz.prog 233=True:=eq_true ⟨_,Tryz.func233,of_decide_eq_false (by kernel_rfl),rfl⟩
theorem aQs:qo Tryz.prog 234=True:=eq_true ⟨_,Tryz.func234,of_decide_eq_false (by kernel_rfl),rfl⟩
theorem aQr:qo Tryz.prog 235=True:=eq_true ⟨_,Tryz.func235,of_decide_eq_false (by kernel_rfl),rfl⟩
theorem aQq:qo Tryz.prog 236=True:=eq_true ⟨_,Tryz.func236,of_decide_eq_false (by kernel_rfl),rfl⟩
theorem aQp:qo Tryz.prog 237=True:=eq_true ⟨_,Tryz.func237,of_decide_eq_false (by kernel_rfl),rfl⟩
theorem aQo:qo Tryz.prog 238=True:=eq_true ⟨_,Tryz.func238,of_decide_eq_false (by kernel_rfl),rfl⟩
theorem aQn:qo Tryz.prog 239=True:=eq_true ⟨_,Tryz.func239,of_decide_eq_false (by kernel_rfl),rfl⟩
theorem aQm:qo Tryz.prog 240=True:=eq_true ⟨_,Tryz.func240,of_decide_eq_false (by kernel_rfl),rfl⟩
theorem aQl:qo Tryz.prog 241=True:=eq_true ⟨_,Tryz.func241,of_decide_eq_false (by kernel_rfl),rfl⟩
theorem aQk:qo Tryz.prog 242=True:=eq_true ⟨_,Tryz.func242,of_decide_eq_false (by kernel_rfl),rfl⟩
theorem aQj:qo Tryz.prog 243=True:=eq_true ⟨_,Tryz.func243,of_decide_eq_false (by kernel_rfl),rfl⟩
theorem aQi:qo Tryz.prog 244=True:=eq_true ⟨_,Tryz.func244,of_decide_eq_false (by kernel_rfl),rfl⟩
theorem aQh:qo Tryz.prog 245=True:=eq_true ⟨_,Tryz.func245,of_decide_eq_false (by kernel_rfl),rfl⟩
theorem aQg:qo Tryz.prog 246=True:=eq_true ⟨_,Tryz.func246,of_decide_eq_false (by kernel_rfl),rfl⟩
theorem aQf:qo Tryz.prog 247=True:=eq_true ⟨_,Tryz.func247,of_decide_eq_false (by kernel_rfl),rfl⟩
theorem aQe:qo Tryz.prog 248=True:=eq_true ⟨_,Tryz.func248,of_decide_eq_false (by kernel_rfl),rfl⟩
theorem aQd:qo Tryz.prog 249=True:=eq_true ⟨_,Tryz.func249,of_decide_eq_false (by kernel_rfl),rfl⟩
theorem aQc:qo Tryz.prog 250=True:=eq_true ⟨_,Tryz.func250,of_decide_eq_false (by kernel_rfl),rfl⟩
theorem aQb:qo Tryz.prog 251=True:=eq_true ⟨_,Tryz.func251,of_decide_eq_false (by kernel_rfl),rfl⟩
theorem aQa:qo Tryz.prog 252=True:=eq_true ⟨_,Tryz.func252,of_decide_eq_false (by kernel_rfl),rfl⟩
theorem aP9:qo Tryz.prog 253=True:=eq_true ⟨_,Tryz.func253,of_decide_eq_false (by kernel_rfl),rfl⟩
theorem aP8:qo Tryz.prog 254=True:=eq_true ⟨_,Tryz.func254,of_decide_eq_false (by kernel_rfl),rfl⟩
theorem aP7:qo Tryz.prog 255=True:=eq_true ⟨_,Tryz.func255,of_decide_eq_false (by kernel_rfl),rfl⟩
theorem aP6:qo Tryz.prog 256=True:=eq_true ⟨_,Tryz.func256,of_decide_eq_false (by kernel_rfl),rfl⟩
theorem aP5:qo Tryz.prog 257=True:=eq_true ⟨_,Tryz.func257,of_decide_eq_false (by kernel_rfl),rfl⟩
theorem aP4:qo Tryz.prog 258=True:=eq_true ⟨_,Tryz.func258,of_decide_eq_false (by kernel_rfl),rfl⟩
theorem aP3:qo Tryz.prog 259=True:=eq_true ⟨_,Tryz.func259,of_decide_eq_false (by kernel_rfl),rfl⟩
theorem aP2:qo Tryz.prog 260=True:=eq_true ⟨_,Tryz.func260,of_decide_eq_false (by kernel_rfl),rfl⟩
theorem aP1:qo Tryz.prog 261=True:=eq_true ⟨_,Tryz.func261,of_decide_eq_false (by kernel_rfl),rfl⟩
theorem aP0:qo Tryz.prog 262=True:=eq_true ⟨_,Tryz.func262,of_decide_eq_false (by kernel_rfl),rfl⟩
theorem aPZ:qo Tryz.prog 263=True:=eq_true ⟨_,Tryz.func263,of_decide_eq_false (by kernel_rfl),rfl⟩
theorem aPY:qo Tryz.prog 264=True:=eq_true ⟨_,Tryz.func264,of_decide_eq_false (by kernel_rfl),rfl⟩
theorem aPX:qo Tryz.prog 265=True:=eq_true ⟨_,Tryz.func265,of_decide_eq_false (by kernel_rfl),rfl⟩
theorem aPW:qo Tryz.prog 266=True:=eq_true ⟨_,Tryz.func266,of_decide_eq_false (by kernel_rfl),rfl⟩
theorem aPV:qo Tryz.prog 267=True:=eq_true ⟨_,Tryz.func267,of_decide_eq_false (by kernel_rfl),rfl⟩
theorem aPU:qo Tryz.prog 268=True:=eq_true ⟨_,Tryz.func268,of_decide_eq_false (by kernel_rfl),rfl⟩
theorem aPT:qo Tryz.prog 269=True:=eq_true ⟨_,Tryz.func269,of_decide_eq_false (by kernel_rfl),rfl⟩
theorem aPS:qo Tryz.prog 270=True:=eq_true ⟨_,Tryz.func270,of_decide_eq_false (by kernel_rfl),rfl⟩
theorem aPR:qo Tryz.prog 271=True:=eq_true ⟨_,Tryz.func271,of_decide_eq_false (by kernel_rfl),rfl⟩
theorem aPQ:qo Tryz.prog 272=True:=eq_true ⟨_,Tryz.func272,of_decide_eq_false (by kernel_rfl),rfl⟩
theorem aPP:qo Tryz.prog 273=True:=eq_true ⟨_,Tryz.func273,of_decide_eq_false (by kernel_rfl),rfl⟩
theorem aPO:qo Tryz.prog 274=True:=eq_true ⟨_,Tryz.func274,of_decide_eq_false (by kernel_rfl),rfl⟩
theorem aPN:qo Tryz.prog 275=True:=eq_true ⟨_,Tryz.func275,of_decide_eq_false (by kernel_rfl),rfl⟩
theorem aPM:qo Tryz.prog 276=True:=eq_true ⟨_,Tryz.func276,of_decide_eq_false (by kernel_rfl),rfl⟩
theorem aPL:qo Tryz.prog 277=True:=eq_true ⟨_,Tryz.func277,of_decide_eq_false (by kernel_rfl),rfl⟩
theorem aPK:qo Tryz.prog 278=True:=eq_true ⟨_,Tryz.func278,of_decide_eq_false (by kernel_rfl),rfl⟩
theorem aPJ:qo Tryz.prog 279=True:=eq_true ⟨_,Tryz.func279,of_decide_eq_false (by kernel_rfl),rfl⟩
theorem aPI:qo Tryz.prog 280=True:=eq_true ⟨_,Tryz.func280,of_decide_eq_false (by kernel_rfl),rfl⟩
theorem aPH:qo Tryz.prog 281=True:=eq_true ⟨_,Tryz.func281,of_decide_eq_false (by kernel_rfl),rfl⟩
theorem aPG:qo Tryz.prog 282=True:=eq_true ⟨_,Tryz.func282,of_decide_eq_false (by kernel_rfl),rfl⟩
theorem aPF:qo Tryz.prog 283=True:=eq_true ⟨_,Tryz.func283,of_decide_eq_false (by kernel_rfl),rfl⟩
theorem aPE:qo Tryz.prog 284=True:=eq_true ⟨_,Tryz.func284,of_decide_eq_false (by kernel_rfl),rfl⟩
theorem aPD:qo Tryz.prog 285=True:=eq_true ⟨_,Tryz.func285,of_decide_eq_false (by kernel_rfl),rfl⟩
theorem aPC:qo Tryz.prog 286=True:=eq_true ⟨_,Tryz.func286,of_decide_eq_false (by kernel_rfl),rfl⟩
theorem aPB:qo Tryz.prog 287=True:=eq_true ⟨_,Tryz.func287,of_decide_eq_false (by kernel_rfl),rfl⟩
theorem aPA:qo Tryz.prog 288=True:=eq_true ⟨_,Tryz.func288,of_decide_eq_false (by kernel_rfl),rfl⟩
theorem aPz:qo Tryz.prog 289=True:=eq_true ⟨_,Tryz.func289,of_decide_eq_false (by kernel_rfl),rfl⟩
theorem aPy:qo Tryz.prog 290=True:=eq_true ⟨_,Tryz.func290,of_decide_eq_false (by kernel_rfl),rfl⟩
theorem aPx:qo Tryz.prog 291=True:=eq_true ⟨_,Tryz.func291,of_decide_eq_false (by kernel_rfl),rfl⟩
theorem aPw:qo Tryz.prog 292=True:=eq_true ⟨_,Tryz.func292,of_decide_eq_false (by kernel_rfl),rfl⟩
theorem aPv:qo Tryz.prog 293=True:=eq_true ⟨_,Tryz.func293,of_decide_eq_false (by kernel_rfl),rfl⟩
theorem aPu:qo Tryz.prog 294=True:=eq_true ⟨_,Tryz.func294,of_decide_eq_false (by kernel_rfl),rfl⟩
theorem aPt:qo Tryz.prog 295=True:=eq_true ⟨_,Tryz.func295,of_decide_eq_false (by kernel_rfl),rfl⟩
theorem aPs:qo Tryz.prog 296=True:=eq_true ⟨_,Tryz.func296,of_decide_eq_false (by kernel_rfl),rfl⟩
theorem aPr:qo Tryz.prog 318=True:=eq_true ⟨_,Tryz.func318,of_decide_eq_false (by kernel_rfl),rfl⟩
attribute [go_sem] ty1 aNF aIF av2 amT aND aNE ty2 aNC aIj
attribute [go_sem] asR alI aNA aNB ty3 aNz aHO asG als aNx
attribute [go_sem] aNy ty4 aNw aHp asx ali aNu aNv ty5 aNt
attribute [go_sem] aG3 asp ak9 aNr aNs ty6 aNq aGB asf akZ
attribute [go_sem] aNo aNp ty7 aNn aGi ar8 akS aNl aNm aSL
attribute [go_sem] aZk aSK aZj aSJ aZi aSI aZh beo ty8 aNk
attribute [go_sem] aFT arZ akH aNi aNj aSH aZg aSG aZf aSF
attribute [go_sem] aZe aSE aZd ben ty9 aNh aFu arQ aky aNf
attribute [go_sem] aNg bcW aIO aAb aok aiS aIM aIN bcV aIL
attribute [go_sem] azG an9 aiH aIJ aIK bcU aII azb anY aiw
attribute [go_sem] aIG aIH bcT aIE avc amB ahc aIC aID bcS
attribute [go_sem] aIB auK amr ag2 aIz aIA aY2 bcR aIy auf
attribute [go_sem] amg agR aIw aIx aY1 bcQ aIv atQ al6 agI
attribute [go_sem] aIt aIu aLx aOB aLw aOA bbw bcP aIs ato
attribute [go_sem] alV agy aIq aIr aLv aOz aLu aOy bbv bcO
attribute [go_sem] aIp asT alK agn aIn aIo bcN aIm asS alJ
attribute [go_sem] agm aIk aIl bcM aIi asQ alH agl aIg aIh
attribute [go_sem] bcL aIf asP alG agk aId aIe bcK aIc asO
attribute [go_sem] alD agj aIa aIb bcJ aH9 asN alC agi aH7
attribute [go_sem] aH8 bcI aH6 asM alB agh aH4 aH5 aY0 bcH
attribute [go_sem] aH3 asL alz agf aH1 aH2 aLt aOx bbu bcG
attribute [go_sem] aH0 asK aly age aHY aHZ aLs aOw bbt bcF
attribute [go_sem] aHX asJ alw agd aHV aHW aLr aOv aLq aOu
attribute [go_sem] bbs bcE aHU asI alv agc aHS aHT aLp aOt
attribute [go_sem] aLo aOs bbr bcD aHR asH alt agb aHP aHQ
attribute [go_sem] aLn aOr aLm aOq bbq bcC aHN asF alr aga
attribute [go_sem] aHL aHM aLl aOp aLk aOo bbp bcB aHK asE
attribute [go_sem] alq af9 aHI aHJ bcA aHH asD alp af8 aHF
attribute [go_sem] aHG bcz aHE asC alo af7 aHC aHD bcy aHB
attribute [go_sem] asB aln af6 aHz aHA bcx aHy asA alm af5
attribute [go_sem] aHw aHx bcw aHv asz alk af4 aHt aHu bcv
attribute [go_sem] aHs asy alj af3 aHq aHr bcu aHo asw alg
attribute [go_sem] af2 aHm aHn aLj aOn aLi aOm bbo bct aHl
attribute [go_sem] asv alf af1 aHj aHk aLh aOl aLg aOk bbn
attribute [go_sem] bcs aHi asu ale af0 aHg aHh bcr aHf ast
attribute [go_sem] ald afZ aHd aHe bcq aHc ass alc afY aHa
attribute [go_sem] aHb bcp aG9 asr alb afX aG7 aG8 bco aG6
attribute [go_sem] asq ala afW aG4 aG5 bcn aG2 aso ak8 afV
attribute [go_sem] aG0 aG1 bcm aGZ asn ak7 afU aGX aGY bcl
attribute [go_sem] aGW asm ak6 afT aGU aGV bck aGT asl ak5
attribute [go_sem] afS aGR aGS bcj aGQ ask ak4 afR aGO aGP
attribute [go_sem] bci aGN asj ak3 afQ aGL aGM bch aGK asi
attribute [go_sem] ak2 afP aGI aGJ bcg aGH ash ak1 afO aGF
attribute [go_sem] aGG bcf aGE asg ak0 afN aGC aGD aYZ bce
attribute [go_sem] aGA ase akY afM aGy aGz bcd aGx asd akX
attribute [go_sem] afL aGv aGw bcc aGu asc akW afK aGs aGt
attribute [go_sem] bcb aGr asb akV afJ aGp aGq bca aGo asa
attribute [go_sem] akU afI aGm aGn bb9 aGl ar9 akT afH aGj
attribute [go_sem] aGk bb8 aGh ar7 akR afG aGf aGg bb7 aGe
attribute [go_sem] ar6 akP afF aGc aGd aLf aOj aLe aOi bbm
attribute [go_sem] bb6 aGb ar5 akN afE aF9 aGa aLd aOh aLc
attribute [go_sem] aOg bbl bb5 aF8 ar4 akM afD aF6 aF7 bb4
attribute [go_sem] aF5 ar3 akL afC aF3 aF4 bb3 aF2 ar2 akK
attribute [go_sem] afB aF0 aF1 bb2 aFZ ar1 akJ afA aFX aFY
attribute [go_sem] bb1 aFW ar0 akI afz aFU aFV bb0 aFS arY
attribute [go_sem] akG afy aFQ aFR bbZ aFP arX akF afx aFN
attribute [go_sem] aFO bbY aFM arW akE afw aFK aFL bbX aFJ
attribute [go_sem] arV akD afv aFH aFI bbW aFG arU akC afu
attribute [go_sem] aFE aFF bbV aFD arT akB aft aFB aFC bbU
attribute [go_sem] aFA arS akA afs aFy aFz bbT aFx arR akz
attribute [go_sem] afr aFv aFw aWA aAC aot ai1 adD aAA aAB
attribute [go_sem] aWz aAz aos ai0 adC aAx aAy aWy aAw aor
attribute [go_sem] aiZ adB aAu aAv aWx aAt aoq aiY adA aAr
attribute [go_sem] aAs aWw aAq aop aiX adz aAo aAp aWv aAn
attribute [go_sem] aoo aiW ady aAl aAm aWu aAk aon aiV adx
attribute [go_sem] aAi aAj aWt aAh aom aiU adw aAf aAg aWs
attribute [go_sem] aAe aol aiT adv aAc aAd aWr aAa aoj aiR
attribute [go_sem] adu az8 az9 aWq az7 aoi aiQ adt az5 az6
attribute [go_sem] aN0 aWp az4 aoh aiP ads az2 az3 aCG aJL
attribute [go_sem] aCF aJK aTr aWo az1 aog aiO adr azZ az0
attribute [go_sem] aCE aJJ aCD aJI aTq aWn azY aof aiN adq
attribute [go_sem] azW azX aWm azV aoe aiM adp azT azU aWl
attribute [go_sem] azS aod aiL ado azQ azR aWk azP aoc aiK
attribute [go_sem] adn azN azO aCC aJH aCB aJG aCA aJF aTp
attribute [go_sem] aWj azM aob aiJ adm azK azL aCz aJE aCy
attribute [go_sem] aJD aCx aJC aTo aWi azJ aoa aiI adl azH
attribute [go_sem] azI aWh azF an8 aiG adk azD azE aWg azC
attribute [go_sem] an7 aiF adj azA azB aWf azz an6 aiE adi
attribute [go_sem] azx azy aWe azw an5 aiD adh azu azv aWd
attribute [go_sem] azt an4 aiC adg azr azs aWc azq an3 aiB
attribute [go_sem] adf azo azp aWb azn an2 aiA ade azl azm
attribute [go_sem] aWa azk an1 aiz adc azi azj aV9 azh an0
attribute [go_sem] aiy adb azf azg aV8 aze anZ aix ada azc
attribute [go_sem] azd aV7 aza anX aiv ac9 ay8 ay9 aV6 ay7
attribute [go_sem] anW aiu ac8 ay5 ay6 aV5 ay4 anV ait ac7
attribute [go_sem] ay2 ay3 aCw aJB aCv aJA aTn aV4 ay1 anU
attribute [go_sem] ais ac6 ayZ ay0 aCu aJz aCt aJy aTm aV3
attribute [go_sem] ayY anT air ac5 ayW ayX aV2 ayV anS aiq
attribute [go_sem] ac4 ayT ayU aV1 ayS anR aip ac3 ayQ ayR
attribute [go_sem] aV0 ayP anQ aio ac2 ayN ayO aVZ ayM anP
attribute [go_sem] ain ac1 ayK ayL aVY ayJ anO aim ac0 ayH
attribute [go_sem] ayI aVX ayG anN ail acZ ayE ayF aVW ayD
attribute [go_sem] anM aik acY ayB ayC aVV ayA anL aij acX
attribute [go_sem] ayy ayz aVU ayx anK aii acW ayv ayw aVT
attribute [go_sem] ayu anJ aih acV ays ayt aVS ayr anI aig
attribute [go_sem] acU ayp ayq aVR ayo anH aif acT aym ayn
attribute [go_sem] aVQ ayl anG aie acS ayj ayk aVP ayi anF
attribute [go_sem] aid acR ayg ayh aVO ayf anE aic acQ ayd
attribute [go_sem] aye aVN ayc anD aib acP aya ayb aVM ax9
attribute [go_sem] anC aia acO ax7 ax8 aNZ aVL ax6 anB ah9
attribute [go_sem] acN ax4 ax5 aCs aJx aCr aJw aTl aVK ax3
attribute [go_sem] anA ah8 acM ax1 ax2 aCq aJv aCp aJu aTk
attribute [go_sem] aVJ ax0 anz ah7 acL axY axZ aVI axX anx
attribute [go_sem] ah6 acK axV axW aVH axU anw ah5 acJ axS
attribute [go_sem] axT aVG axR anv ah4 acI axP axQ aVF axO
attribute [go_sem] anu ah3 acH axM axN aVE axL ant ah2 acG
attribute [go_sem] axJ axK aVD axI ans ah1 acF axG axH aVC
attribute [go_sem] axF anr ah0 acE axD axE aVB axC anq ahZ
attribute [go_sem] acD axA axB aVA axz anp ahY acC axx axy
attribute [go_sem] aVz axw ano ahX acB axu axv aVy axt ann
attribute [go_sem] ahW acA axr axs aVx axq anm ahV acz axo
attribute [go_sem] axp aVw axn anl ahU acy axl axm aVv axk
attribute [go_sem] ank ahT acx axi axj aVu axh anj ahS acw
attribute [go_sem] axf axg aVt axe ani ahR acv axc axd aCo
attribute [go_sem] aJt aCn aJs aCm aJr aTj aVs axb anh ahQ
attribute [go_sem] acu aw9 axa aCl aJq aCk aJp aCj aJo aTi
attribute [go_sem] aVr aw8 ang ahP act aw6 aw7 aVq aw5 anf
attribute [go_sem] ahO acs aw3 aw4 aVp aw2 ane ahN acr aw0
attribute [go_sem] aw1 aVo awZ anc ahM acq awX awY aVn awW
attribute [go_sem] anb ahL acp awT awU aVm awS ana ahK aco
attribute [go_sem] awQ awR aVl awP am9 ahJ acn awN awO aVk
attribute [go_sem] awM am8 ahI acm awK awL aVj awJ am7 ahH
attribute [go_sem] acl awH awI aVi awG am6 ahG ack awE awF
attribute [go_sem] aVh awD am5 ahF acj awB awC aVg awA am4
attribute [go_sem] ahE aci awy awz aVf awx am3 ahD ach awv
attribute [go_sem] aww aVe awu am2 ahC acg aws awt aVd awr
attribute [go_sem] am1 ahB acf awo awq aVc awn am0 ahA ace
attribute [go_sem] awl awm aVb awk amZ ahz acd awi awj aVa
attribute [go_sem] awh amY ahy acb awf awg aNY aU9 awe amX
attribute [go_sem] ahx aca awc awd aU8 awb amW ahw ab9 av9
attribute [go_sem] awa aU7 av8 amV ahv ab8 av6 av7 aU6 av5
attribute [go_sem] amU ahu ab7 av3 av4 aU5 av1 amS aht ab6
attribute [go_sem] avZ av0 aU4 avY amR ahs ab5 avW avX aU3
attribute [go_sem] avV amQ ahr ab4 avT avU aU2 avS amP ahq
attribute [go_sem] ab3 avQ avR aU1 avP amO ahp ab2 avN avO
attribute [go_sem] aU0 avM amN aho ab1 avK avL aUZ avJ amM
attribute [go_sem] ahn ab0 avH avI aUY avG amL ahm abZ avE
attribute [go_sem] avF aUX avD amK ahl abY avB avC aUW avA
attribute [go_sem] amJ ahk abX avy avz aUV avx amI ahj abW
attribute [go_sem] avv avw aUU avu amH ahi abV avs avt aUT
attribute [go_sem] avr amG ahh abU avp avq aUS avo amF ahg
attribute [go_sem] abT avm avn aUR avl amE ahf abS avj avk
attribute [go_sem] aUQ avi amD ahe abR avg avh aUP avf amC
attribute [go_sem] ahd abQ avd ave aUO avb amA ahb abP au9
attribute [go_sem] ava aUN au8 amz aha abO au6 au7 aUM au5
attribute [go_sem] amy ag9 abN au3 au4 aUL au2 amx ag8 abM
attribute [go_sem] au0 au1 aUK auZ amw ag7 abL auX auY aUJ
attribute [go_sem] auW amv ag6 abK auU auV aUI auT amu ag5
attribute [go_sem] abJ auR auS aUH auQ amt ag4 abI auO auP
attribute [go_sem] aUG auN ams ag3 abH auL auM aUF auJ amq
attribute [go_sem] ag1 abG auH auI aUE auG amp ag0 abF auE
attribute [go_sem] auF aUD auD amo agZ abE auB auC aUC auA
attribute [go_sem] amn agY abD auy auz aUB aux amm agX abC
attribute [go_sem] auv auw aUA auu aml agW abB aus aut aUz
attribute [go_sem] aur amk agV abA aup auq aUy auo amj agU
attribute [go_sem] abz aum aun aUx aul ami agT aby auj auk
attribute [go_sem] aUw aui amh agS abx aug auh aUv aue ame
attribute [go_sem] agQ abw auc aud aUu aub amd agP abv at9
attribute [go_sem] aua aUt at8 amc agO abu at6 at7 aUs at5
attribute [go_sem] amb agN abt at3 at4 aUr at2 ama agM abr
attribute [go_sem] at0 at1 aUq atZ al9 agL abq atX atY aUp
attribute [go_sem] atW al8 agK abp atU atV aUo atT al7 agJ
attribute [go_sem] abo atR atS aUn atP al4 agH abn atN atO
attribute [go_sem] aUm atM al3 agG abm atK atL aUl atJ al2
attribute [go_sem] agF abl atH atI aUk atG al1 agE abk atE
attribute [go_sem] atF aUj atD al0 agD abj atB atC aUi atA
attribute [go_sem] alZ agC abi aty atz aUh atx alY agB abh
attribute [go_sem] atv atw aUg atu alX agA abg ats att aUf
attribute [go_sem] atr alW agz abf atp atq aUe atn alU agx
attribute [go_sem] abe atl atm aUd atk alT agw abd ati atj
attribute [go_sem] aUc ath alS agv abc atf atg aUb ate alR
attribute [go_sem] agu abb atc atd aUa atb alQ agt aba as9
attribute [go_sem] ata aT9 as8 alP ags aa9 as6 as7 aT8 as5
attribute [go_sem] alO agr aa8 as3 as4 aT7 as2 alN agq aa7
attribute [go_sem] as0 as1 aT6 asZ alM agp aa6 asX asY aT5
attribute [go_sem] asW alL ago aa5 asU asV bek bej bei beh
attribute [go_sem] beg bef bee bed bbc bbb bba ba9 ba8 ba7
attribute [go_sem] ba6 ba5 ba4 ba3 ba2 ba1 ba0 baZ baY baX
attribute [go_sem] baW baV baU baT baS baR baQ baP baO baN
attribute [go_sem] baM baL baK baJ baI baH baG baF baE baD
attribute [go_sem] baC baB baA baz bay bax baw bav bau bat
attribute [go_sem] bas bar baq bap bao ban bam bal bak baj
attribute [go_sem] bai bah bag baf bae bac bab baa aZ9 aZ8
attribute [go_sem] aZ7 aZ6 aZ5 aZ4 aZ3 aZ2 aZ1 aZ0 aZZ aZY
attribute [go_sem] aZX aZW aZV aZU aZT aZS aZR aZQ aZP aZO
attribute [go_sem] aZN aZM aZL aZK aSC aSB aSA aSz aSy aSx
attribute [go_sem] aSw aSv aSu aSt aSs aSr aSq aSp aSo aSn
attribute [go_sem] aSm aSl aSk aSj aSi aSh aSg aSf aSe aSd
attribute [go_sem] aSc aSb aSa aR9 aR8 aR7 aR6 aR5 aR4 aR3
attribute [go_sem] aR2 aR1 aR0 aRZ aRY aRX aRW aRV aRU aRT
attribute [go_sem] aRS aRR aRQ aRP aRO aRN aRM aRL aRK aRJ
attribute [go_sem] aRI aRH aRG aRF aRE aRD aRC aRB aRA aRz
attribute [go_sem] aRy aRx aRw aRv aRu aRt aRs aRr aRq aRp
attribute [go_sem] aRo aRn aRm aRl aRk aRj aRi aRh aRg aRf
attribute [go_sem] aRe aRd aRc aRb aRa aQ9 aQ8 aQ7 aQ6 aQ5
attribute [go_sem] aQ4 aQ3 aQ2 aQ1 aQ0 aQZ aQY aQX aQW aQV
attribute [go_sem] aQU aQT aQS aQR aQQ aQP aQO aQN aQM aQL
attribute [go_sem] aQK aQJ aQI aQH aQG aQF aQE aQD aQC aQB
attribute [go_sem] aQA aQz aQy aQx aQw aQv aQu aQt aQs aQr
attribute [go_sem] aQq aQp aQo aQn aQm aQl aQk aQj aQi aQh
attribute [go_sem] aQg aQf aQe aQd aQc aQb aQa aP9 aP8 aP7
attribute [go_sem] aP6 aP5 aP4 aP3 aP2 aP1 aP0 aPZ aPY aPX
attribute [go_sem] aPW aPV aPU aPT aPS aPR aPQ aPP aPO aPN
attribute [go_sem] aPM aPL aPK aPJ aPI aPH aPG aPF aPE aPD
attribute [go_sem] aPC aPB aPA aPz aPy aPx aPw aPv aPu aPt
attribute [go_sem] aPs aPr
end Go.Ab
namespace Go.Ab
open Go Go.Proofs
set_option maxRecDepth 100000 in
theorem ael(U V:List Int)(j:Nat)(hU:gd U)(hV:gd V)(lU:U.length≤2000000)(h2:2≤V.length)(hj:j+V.length<U.length)(hv1:32768≤V.getD (V.length-1) 0)(hW:vl (U.drop j)<65536*vl V):
  Con Tryz.prog 289 true [.sl U.length (qb U),.sl V.length (qb V),.v (.int .i64 j)] [] (fun r hs bs=>∃q:Int,r=.v (.int .i64 q)∧hs=[]∧bs=[]∧(0≤q∧q<65536)∧vl (U.drop j)<(q+1)*vl V∧q*vl V<vl (U.drop j)+vl V):=by
 refine Con.of_aw Tryz.func289 rfl Tryz.ntmps289 (by simp) (by simp) (by simp) (W.sound ?_)
 show @W Tryz.prog 76 ⟨_⟩ ⟨fun x σ=>@qX _ _ _ ⟨_⟩ _ ⟨_⟩ x σ⟩ _ _
 have hDl:V.length<(U.drop j).length:=by simp;omega
 have hz:=aeG (ym hU j) hV hDl hW
 have hw:=aM7 hDl h2 hz
 have hvv:=aFl h2
 rw[zV,zV,zV]at hw
 have hx0:=qT (jZ (ym hU j) (V.length-2))
 have hx1:=Qv (jZ (ym hU j) (V.length-2))
 have hy0:=qT (jZ hV (V.length-2))
 have hy1:=Qv (jZ hV (V.length-2))
 rw[List.length_take,Nat.min_eq_left (by omega)]at hx1 hy1
 have gu0:=qJ hU (j+V.length)
 have gu1:=qJ hU (j+(V.length-1))
 have gu2:=qJ hU (j+(V.length-2))
 have gv1:=qJ hV (V.length-1)
 have gv2:=qJ hV (V.length-2)
 have htop:=aO8 hw hvv ⟨hx0,hx1⟩ ⟨hy0,hy1⟩ gu2.1 gu1.1 gv2.2 hW
 have e0:((j:Int)+(V.length:Int)).toNat=j+V.length:=by omega
 have e1:((j:Int)+(V.length:Int)-1).toNat=j+(V.length-1):=by omega
 have e2:((j:Int)+(V.length:Int)-2).toNat=j+(V.length-2):=by omega
 have f1:((V.length:Int)-1).toNat=V.length-1:=by omega
 have f2:((V.length:Int)-2).toNat=V.length-2:=by omega
 simp(disch:=omega)only[go_sem]
 refine qp rfl [⟨0,[],[]⟩,⟨1,[],[]⟩,⟨2,[],[]⟩,⟨3,[],[]⟩,⟨4,[],[]⟩,⟨5,[],[]⟩,⟨6,[],[]⟩,⟨7,[5],[]⟩,⟨8,[5],[]⟩,⟨9,[5],[]⟩,⟨10,[5],[]⟩,⟨11,[5],[]⟩,⟨12,[5],[]⟩,⟨13,[5],[]⟩,⟨14,[],[]⟩,⟨15,[],[]⟩] (by kernel_rfl) ?_
 simp(disch:=omega)only[go_sem,e0,e1]
 generalize hu0:U.getD (j+V.length) 0=u0 at*
 generalize hu1:U.getD (j+(V.length-1)) 0=u1 at*
 generalize hu2:U.getD (j+(V.length-2)) 0=u2 at*
 refine⟨by omega,by omega,by omega,by omega,?_⟩
 refine qp rfl [⟨0,[],[]⟩,⟨1,[],[]⟩,⟨2,[],[]⟩,⟨3,[],[]⟩,⟨4,[],[]⟩,⟨5,[],[]⟩,⟨6,[],[]⟩,⟨7,[5],[]⟩,⟨8,[5],[]⟩,⟨9,[5],[]⟩,⟨10,[5],[]⟩,⟨11,[5],[]⟩,⟨12,[5],[]⟩,⟨13,[5],[]⟩,⟨14,[12],[]⟩,⟨15,[],[]⟩] (by kernel_rfl) ?_
 simp(disch:=omega)only[go_sem,f1]
 generalize hvv1:V.getD (V.length-1) 0=v1 at*
 generalize hvv2:V.getD (V.length-2) 0=v2 at*
 generalize htt:u0*65536+u1=top at*
 refine⟨by omega,by omega,by omega,by omega,by omega,by omega,?_⟩
 have hq0:0≤top/v1:=Int.ediv_nonneg (by omega) (by omega)
 have hq1:top/v1≤65537:=by
  have:top/v1<65538:=Int.ediv_lt_of_lt_mul (by omega) (by omega)
  omega
 have hr0:=Int.emod_nonneg top (show v1≠0 by omega)
 have hr1:=Int.emod_lt_of_pos top (show 0<v1 by omega)
 have hqr:=Int.emod_add_mul_ediv top v1
 have hini:=aKE hw hvv ⟨hx0,hx1⟩ ⟨hy0,hy1⟩ gu2 gv2.1 hq0 (show top<(top/v1+1)*v1 by rw[Int.add_mul,Int.mul_comm (top/v1)];omega)
 have hqr':top/v1*v1+top % v1=top:=by rw[Int.mul_comm];omega
 generalize top/v1=q0 at*
 generalize top % v1=r0 at*
 refine qj (fun x:Int×Int=>[(0,.sl U.length (qb U)),(1,.sl V.length (qb V)),(2,.v (.int .i64 j)),(7,.v (.int .i64 V.length)),(9,.v (.int .i64 x.1)),(10,.v (.int .i64 x.2))])
  (fun _=>[]) (fun x=>(0≤x.1∧x.1≤65537)∧(0≤x.2∧x.2<65536)∧x.1*v1+x.2=top∧vl (U.drop j)<(x.1+1)*vl V) (fun x=>x.1.toNat) (q0,r0) ⟨⟨hq0,hq1⟩,⟨hr0,by omega⟩,hqr',hini⟩
  (Le.lst [] _ _ rfl (by simp(disch:=omega)only[go_sem];try omega) (by simp(disch:=omega)only[go_sem])) ?_
 rintro⟨q,r⟩ ⟨hq,hr,hqr2,hlt⟩
 dsimp only at hq hr hqr2 hlt ⊢
 have hqv:0≤q*v2∧q*v2≤65537*65535:=⟨Int.mul_nonneg hq.1 gv2.1,Int.mul_le_mul hq.2 (by omega) gv2.1 (by omega)⟩
 simp(disch:=omega)only[go_sem]
 refine qp rfl [⟨0,[],[]⟩,⟨1,[],[]⟩,⟨2,[],[]⟩,⟨3,[],[]⟩,⟨4,[],[]⟩,⟨5,[],[]⟩,⟨6,[],[]⟩,⟨7,[],[]⟩,⟨8,[],[]⟩,⟨9,[],[]⟩,⟨10,[8],[]⟩,⟨11,[8],[]⟩,⟨12,[8],[]⟩,⟨13,[8],[]⟩,⟨14,[8],[]⟩,⟨15,[8],[]⟩,⟨16,[8],[]⟩,⟨17,[8],[]⟩,⟨18,[8],[]⟩,⟨19,[8],[]⟩,⟨20,[],[]⟩,⟨21,[],[]⟩] (by kernel_rfl) ?_
 simp(disch:=omega)only[go_sem]
 refine zG (fun h1=>?_) (fun h1=>?_)
 ·simp(disch:=omega)only[go_sem,h1,e2,f2,hu2,hvv2]
  refine⟨by omega,by omega,by omega,by omega,qe (fun h2=>?_) (fun h2=>?_)⟩
  ·simp(disch:=omega)only[go_sem,h2,f1,hvv1]
   have hst:=apA hw hvv ⟨hx0,hx1⟩ ⟨hy0,hy1⟩ hW gv2.1 (by omega) hq.1 hqr2 (.inr h2)
   have hqp:0<q:=by
    rcases(by omega:0<q∨q=0)with h|h
    ·exact h
    ·subst h;omega
   have hm:(q-1)*v1+(r+v1)=top:=by rw[Int.sub_mul];omega
   refine⟨by omega,by omega,qe (fun h3=>?_) (fun h3=>?_)⟩
   ·simp(disch:=omega)only[go_sem,h3]
    have h4:q-1<65536:=by
     rcases(by omega:q-1<65536∨65536≤q-1)with h|h
     ·exact h
     ·have:=Int.mul_le_mul_of_nonneg_right h (show 0≤v1 by omega)
      omega
    have h5:(q-1)*v2≤(r+v1)*65536+u2:=by
     have:(q-1)*v2≤65535*65535:=Int.mul_le_mul (by omega) (by omega) gv2.1 (by omega)
     omega
    have h6:=adV hw hvv ⟨hx0,hx1⟩ ⟨hy0,hy1⟩ gv2.1 (by omega) ⟨by omega,h4⟩ hm h5
    exact qx (by simp(disch:=omega)only[go_sem]) (by simp(disch:=omega)only[go_sem]) ⟨q-1,rfl,rfl,rfl,⟨by omega,h4⟩,by rw[show q-1+1=q by omega];exact hst,h6⟩
   ·simp(disch:=omega)only[go_sem,h3]
    refine qc (q-1,r+v1) [] ⟨by show 0≤q-1∧q-1≤65537;omega,by show 0≤r+v1∧r+v1<65536;omega,hm,by show _<(q-1+1)*vl V;rw[show q-1+1=q by omega];exact hst⟩ (by show(q-1).toNat<q.toNat;omega) rfl (by simp(disch:=omega)only[go_sem];try omega) (by simp(disch:=omega)only[go_sem])
  ·simp(disch:=omega)only[go_sem,h2]
   have h6:=adV hw hvv ⟨hx0,hx1⟩ ⟨hy0,hy1⟩ gv2.1 (by omega) ⟨hq.1,by omega⟩ hqr2 (by omega)
   exact qx (by simp(disch:=omega)only[go_sem]) (by simp(disch:=omega)only[go_sem]) ⟨q,rfl,rfl,rfl,⟨hq.1,by omega⟩,hlt,h6⟩
 ·simp(disch:=omega)only[go_sem,h1,f1,hvv1]
  have hst:=apA hw hvv ⟨hx0,hx1⟩ ⟨hy0,hy1⟩ hW gv2.1 (by omega) hq.1 hqr2 (.inl h1)
  have hqp:0<q:=by omega
  have hm:(q-1)*v1+(r+v1)=top:=by rw[Int.sub_mul];omega
  refine⟨by omega,by omega,qe (fun h3=>?_) (fun h3=>?_)⟩
  ·simp(disch:=omega)only[go_sem,h3]
   have h4:q-1<65536:=by
    rcases(by omega:q-1<65536∨65536≤q-1)with h|h
    ·exact h
    ·have:=Int.mul_le_mul_of_nonneg_right h (show 0≤v1 by omega)
     omega
   have h5:(q-1)*v2≤(r+v1)*65536+u2:=by
    have:(q-1)*v2≤65535*65535:=Int.mul_le_mul (by omega) (by omega) gv2.1 (by omega)
    omega
   have h6:=adV hw hvv ⟨hx0,hx1⟩ ⟨hy0,hy1⟩ gv2.1 (by omega) ⟨by omega,h4⟩ hm h5
   exact qx (by simp(disch:=omega)only[go_sem]) (by simp(disch:=omega)only[go_sem]) ⟨q-1,rfl,rfl,rfl,⟨by omega,h4⟩,by rw[show q-1+1=q by omega];exact hst,h6⟩
  ·simp(disch:=omega)only[go_sem,h3]
   refine qc (q-1,r+v1) [] ⟨by show 0≤q-1∧q-1≤65537;omega,by show 0≤r+v1∧r+v1<65536;omega,hm,by show _<(q-1+1)*vl V;rw[show q-1+1=q by omega];exact hst⟩ (by show(q-1).toNat<q.toNat;omega) rfl (by simp(disch:=omega)only[go_sem];try omega) (by simp(disch:=omega)only[go_sem])
end Go.Ab
namespace Go.Ab
open Go Go.Proofs
theorem aau(U V:List Int)(j:Nat)(q:Int)(hU:gd U)(hV:gd V)(lU:U.length≤2000000)(hj:j+V.length<U.length)(hq:0≤q∧q<65536):
  Con Tryz.prog 290 false [.rf 10000000 0 U.length,.sl V.length (qb V),.v (.int .i64 j),.v (.int .i64 q)] [.own 1 (qb U)]
   (fun r hs bs=>∃(U':List Int) (bo:Int),r=.v (.bool (decide (U.getD (j+V.length) 0-bo<0)))∧hs=[]∧bs=[.own 1 (qb (U'.set (j+V.length) (U.getD (j+V.length) 0-bo)))]∧
    U'.length=U.length∧gd U'∧(0≤bo∧bo<65536)∧(∀t,t<j∨j+V.length≤t→U'.getD t 0=U.getD t 0)∧vl U'-65536^(j+V.length)*bo=vl U-65536^j*(q*vl V)):=by
 refine Con.of_aw Tryz.func290 rfl Tryz.ntmps290 (by simp) (by simp) (by simp) (W.sound ?_)
 show @W Tryz.prog 68 ⟨_⟩ ⟨fun x σ=>@qX _ _ _ ⟨_⟩ _ ⟨_⟩ x σ⟩ _ _
 simp(disch:=omega)only[go_sem]
 refine qj (fun x:Nat×List Int×Int=>[(0,.rf 10000000 0 U.length),(1,.sl V.length (qb V)),(2,.v (.int .i64 j)),(3,.v (.int .i64 q)),(9,.v (.int .i64 x.2.2)),(13,.sl V.length (qb V)),(14,.v (.int .i64 V.length)),(15,.v (.int .i64 x.1))])
  (fun x=>[(10000000,.own 1 (qb x.2.1))])
  (fun x=>x.1≤V.length∧x.2.1.length=U.length∧gd x.2.1∧(0≤x.2.2∧x.2.2<65536)∧(∀t,t<j∨j+x.1≤t→x.2.1.getD t 0=U.getD t 0)∧vl x.2.1-65536^(j+x.1)*x.2.2=vl U-65536^j*(q*vl (V.take x.1)))
  (fun x=>V.length-x.1) (0,U,0) ⟨by simp,rfl,hU,by simp,fun _ _=>rfl,by simp[vl]⟩
  (Le.lst [] _ _ rfl (by simp(disch:=omega)only[go_sem];try omega) (by simp(disch:=omega)only[go_sem])) ?_
 rintro⟨i,U1,bo⟩ ⟨hi,hl1,hg1,hbo,hsame,hval⟩
 dsimp only at hi hl1 hg1 hbo hsame hval ⊢
 simp(disch:=omega)only[go_sem]
 refine qe (fun h1=>?_) (fun h1=>?_)
 ·have hx:=qJ hV i
  have hu:=qJ hg1 (j+i)
  have hqx:0≤q*V.getD i 0∧q*V.getD i 0≤65535*65535:=⟨Int.mul_nonneg hq.1 hx.1,Int.mul_le_mul (by omega) (by omega) hx.1 (by omega)⟩
  have e1:((j:Int)+(i:Int)).toNat=j+i:=by omega
  have hstep:∀d b:Int,d-65536*b=U1.getD (j+i) 0-q*V.getD i 0-bo→vl (U1.set (j+i) d)-65536^(j+(i+1))*b=vl U-65536^j*(q*vl (V.take (i+1))):=by
   intro d b hd
   rw[QT (by omega),qQ,←Nat.add_assoc,Int.pow_succ]
   have e3:(65536:Int)^(j+i)=65536^j*65536^i:=Int.pow_add _ _ _
   rw[e3]at hval ⊢
   generalize (65536:Int)^i=Pi at*
   generalize (65536:Int)^j=Pj at*
   grind
  have hsm:∀d:Int,∀t,t<j∨j+(i+1)≤t→(U1.set (j+i) d).getD t 0=U.getD t 0:=fun d t ht=>by
   rw[ji (by omega),if_neg (by omega)];exact hsame t (by omega)
  simp(disch:=omega)only[go_sem,h1,e1]
  refine⟨by omega,by omega,by omega,by omega,qe (fun h2=>?_) (fun h2=>?_)⟩
  ·simp(disch:=omega)only[go_sem,h2,e1]
   generalize hb:(0-(U1.getD (j+i) 0-q*V.getD i 0-bo)+65536-1)/65536=b
   refine⟨by omega,by omega,qc (i+1,U1.set (j+i) (U1.getD (j+i) 0-q*V.getD i 0-bo+b*65536),b) [] ⟨by show i+1≤_;omega,by simp[hl1],yP hg1 (by omega),by show 0≤b∧b<65536;omega,hsm _,hstep (U1.getD (j+i) 0-q*V.getD i 0-bo+b*65536) b (by omega)⟩
    (by show V.length-(i+1)<V.length-i;omega) rfl (by simp(disch:=omega)only[go_sem];try omega) (by simp(disch:=omega)only[go_sem])⟩
  ·simp(disch:=omega)only[go_sem,h2,e1]
   refine⟨by omega,by omega,qc (i+1,U1.set (j+i) (U1.getD (j+i) 0-q*V.getD i 0-bo),0) [] ⟨by show i+1≤_;omega,by simp[hl1],yP hg1 (by omega),by simp,hsm _,hstep (U1.getD (j+i) 0-q*V.getD i 0-bo) 0 (by omega)⟩
    (by show V.length-(i+1)<V.length-i;omega) rfl (by simp(disch:=omega)only[go_sem];try omega) (by simp(disch:=omega)only[go_sem])⟩
 ·have hiA:i=V.length:=by omega
  subst hiA
  rw[List.take_length]at hval
  have e1:((j:Int)+(V.length:Int)).toNat=j+V.length:=by omega
  have hu:=qJ hg1 (j+V.length)
  have es:=hsame (j+V.length) (by omega)
  have eg:(U1.set (j+V.length) (U.getD (j+V.length) 0-bo)).getD (j+V.length) 0=U.getD (j+V.length) 0-bo:=by rw[ji (by omega),if_pos rfl]
  simp(disch:=omega)only[go_sem,h1,e1,es]
  refine⟨by omega,by omega,by omega,by omega,by omega,by simp;omega,?_⟩
  simp(disch:=omega)only[go_sem,eg]
  refine qh [] [] [.own 1 (qb (U1.set (j+V.length) (U.getD (j+V.length) 0-bo)))] [.v (.bool (decide (U.getD (j+V.length) 0-bo<0)))] rfl (by simp(disch:=omega)only[go_sem]) (by simp(disch:=omega)only[go_sem]) (by simp) (by simp) ⟨U1,bo,rfl,rfl,rfl,hl1,hg1,hbo,hsame,hval⟩
theorem aeo(U V:List Int)(j:Nat)(hU:∀t,t≠j+V.length→0≤U.getD t 0∧U.getD t 0<65536)(hUt: -65536≤U.getD (j+V.length) 0∧U.getD (j+V.length) 0<65536)(hV:gd V)(lU:U.length≤2000000)(hj:j+V.length<U.length):
  Con Tryz.prog 291 false [.rf 10000000 0 U.length,.sl V.length (qb V),.v (.int .i64 j)] [.own 1 (qb U)]
   (fun r hs bs=>∃(U':List Int),r=.tu []∧hs=[]∧bs=[.own 1 (qb U')]∧
    U'.length=U.length∧(∀t,t≠j+V.length→0≤U'.getD t 0∧U'.getD t 0<65536)∧(∀t,t<j∨j+V.length<t→U'.getD t 0=U.getD t 0)∧vl U'=vl U+65536^j*vl V):=by
 refine Con.of_aw Tryz.func291 rfl Tryz.ntmps291 (by simp) (by simp) (by simp) (W.sound ?_)
 show @W Tryz.prog 46 ⟨_⟩ ⟨fun x σ=>@qX _ _ _ ⟨_⟩ _ ⟨_⟩ x σ⟩ _ _
 simp(disch:=omega)only[go_sem]
 refine qj (fun x:Nat×List Int×Int=>[(0,.rf 10000000 0 U.length),(1,.sl V.length (qb V)),(2,.v (.int .i64 j)),(6,.v (.int .i64 x.2.2)),(9,.sl V.length (qb V)),(10,.v (.int .i64 V.length)),(11,.v (.int .i64 x.1))])
  (fun x=>[(10000000,.own 1 (qb x.2.1))])
  (fun x=>x.1≤V.length∧x.2.1.length=U.length∧(∀t,t≠j+V.length→0≤x.2.1.getD t 0∧x.2.1.getD t 0<65536)∧(0≤x.2.2∧x.2.2≤1)∧(∀t,t<j∨j+x.1≤t→x.2.1.getD t 0=U.getD t 0)∧vl x.2.1+65536^(j+x.1)*x.2.2=vl U+65536^j*vl (V.take x.1))
  (fun x=>V.length-x.1) (0,U,0) ⟨by simp,rfl,hU,by simp,fun _ _=>rfl,by simp[vl]⟩
  (Le.lst [] _ _ rfl (by simp(disch:=omega)only[go_sem];try omega) (by simp(disch:=omega)only[go_sem])) ?_
 rintro⟨i,U1,cy⟩ ⟨hi,hl1,hg1,hcy,hsame,hval⟩
 dsimp only at hi hl1 hg1 hcy hsame hval ⊢
 simp(disch:=omega)only[go_sem]
 refine qe (fun h1=>?_) (fun h1=>?_)
 ·have hx:=qJ hV i
  have hu:=hg1 (j+i) (by omega)
  have e1:((j:Int)+(i:Int)).toNat=j+i:=by omega
  simp(disch:=omega)only[go_sem,h1,e1]
  generalize hb:cy+(U1.getD (j+i) 0+V.getD i 0)=b
  have hg2:∀t,t≠j+V.length→0≤(U1.set (j+i) (b % 65536)).getD t 0∧(U1.set (j+i) (b % 65536)).getD t 0<65536:=fun t ht=>by
   rw[ji (by omega)]
   split
   ·omega
   ·exact hg1 t ht
  refine⟨by omega,by omega,by omega,by omega,by omega,by omega,qc (i+1,U1.set (j+i) (b % 65536),b/65536) [] ⟨by show i+1≤_;omega,by simp[hl1],hg2,by show 0≤b/65536∧b/65536≤1;omega,fun t ht=>?_,?_⟩
   (by show V.length-(i+1)<V.length-i;omega) rfl (by simp(disch:=omega)only[go_sem];try omega) (by simp(disch:=omega)only[go_sem])⟩
  ·show(U1.set (j+i) (b % 65536)).getD t 0=_
   have ht:t<j∨j+(i+1)≤t:=ht
   rw[ji (by omega),if_neg (by omega)];exact hsame t (by omega)
  ·show vl (U1.set (j+i) (b % 65536))+65536^(j+(i+1))*(b/65536)=vl U+65536^j*vl (V.take (i+1))
   rw[QT (by omega),qQ,←Nat.add_assoc,Int.pow_succ]
   have e3:(65536:Int)^(j+i)=65536^j*65536^i:=Int.pow_add _ _ _
   have e4:b % 65536+65536*(b/65536)=b:=Int.emod_add_mul_ediv b 65536
   rw[e3]at hval ⊢
   generalize (65536:Int)^i=Pi at*
   generalize (65536:Int)^j=Pj at*
   grind
 ·have hiA:i=V.length:=by omega
  subst hiA
  rw[List.take_length]at hval
  have e1:((j:Int)+(V.length:Int)).toNat=j+V.length:=by omega
  have es:=hsame (j+V.length) (by omega)
  simp(disch:=omega)only[go_sem,h1,e1,es]
  refine⟨by omega,by omega,by omega,by omega,?_⟩
  refine qh [] [] [.own 1 (qb (U1.set (j+V.length) (U.getD (j+V.length) 0+cy)))] [] rfl (by simp(disch:=omega)only[go_sem]) (by simp(disch:=omega)only[go_sem]) (by simp) (by simp) ⟨_,rfl,rfl,rfl,by simp[hl1],fun t ht=>?_,fun t ht=>?_,?_⟩
  ·rw[ji (by omega),if_neg ht];exact hg1 t ht
  ·rw[ji (by omega),if_neg (by omega)];exact hsame t (by omega)
  ·rw[QT (by omega),es]
   generalize (65536:Int)^(j+V.length)=Pj at*
   grind
end Go.Ab
namespace Go.Ab
open Go Go.Proofs
theorem jk(xs:List Int)(hl:xs.length≤2^40):Con Tryz.prog 254 false [.rf 10000000 0 xs.length] [.own 1 (qb xs)] (fun r hs bs=>r=.rf 10000000 0 (Z7 xs).length∧hs=[]∧bs=[.own 1 (qb xs)]):=by
 refine Con.of_aw Tryz.func254 rfl Tryz.ntmps254 (by simp) (by simp) (by simp) (W.sound ?_)
 show @W Tryz.prog 21 ⟨_⟩ ⟨fun x σ=>@qX _ _ _ ⟨_⟩ _ ⟨_⟩ x σ⟩ _ _
 simp(disch:=omega)only[go_sem]
 refine qj (fun m:Nat=>[(0,.rf 10000000 0 m)]) (fun _=>[(10000000,.own 1 (qb xs))]) (fun m=>m≤xs.length∧Z7 (xs.take m)=Z7 xs) id xs.length ⟨Nat.le_refl _,by simp⟩
  (Le.lst [] _ _ rfl (by simp(disch:=omega)only[go_sem];try omega) (by simp(disch:=omega)only[go_sem])) ?_
 intro m ⟨hm,hx⟩
 have hmx:∀k,k+1=m→xs.take m=xs.take k++[xs.getD k 0]:=fun k hk=>by rw[←hk];exact jG (by omega)
 simp(disch:=omega)only[go_sem]
 refine qe (fun h1=>?_) (fun h1=>?_)
 ·obtain⟨k,rfl⟩:∃k,m=k+1:=⟨m-1,by omega⟩
  have e1:((k+1:Nat):Int)-1=(k:Nat):=by omega
  rw[hmx k rfl]at hx
  simp(disch:=omega)only[go_sem,h1,e1]
  refine⟨by omega,by omega,qe (fun h2=>?_) (fun h2=>?_)⟩
  ·simp(disch:=omega)only[go_sem,h2,e1]
   rw[h2,Qo]at hx
   refine⟨by omega,qc k [] ⟨by omega,hx⟩ (by show k<k+1;omega) rfl (by simp(disch:=omega)only[go_sem];try omega) (by simp(disch:=omega)only[go_sem])⟩
  ·simp(disch:=omega)only[go_sem,h2]
   refine qh [] [] [.own 1 (qb xs)] [.rf 10000000 0 (k+1)] rfl (by simp(disch:=omega)only[go_sem]) (by simp(disch:=omega)only[go_sem]) (by simp) (by simp) ⟨?_,rfl,rfl⟩
   rw[YY _ h2,←hmx k rfl]at hx
   rw[←hx,List.length_take,Nat.min_eq_left hm];rfl
 ·simp(disch:=omega)only[go_sem,h1]
  refine qh [] [] [.own 1 (qb xs)] [.rf 10000000 0 m] rfl (by simp(disch:=omega)only[go_sem]) (by simp(disch:=omega)only[go_sem]) (by simp) (by simp) ⟨?_,rfl,rfl⟩
  have:m=0:=by omega
  subst this
  rw[←hx];rfl
end Go.Ab
namespace Go.Ab
open Go Go.Proofs
theorem apo{x y:Int}(hx:0≤x∧x<65536)(hy:0≤y∧y<65536):0≤x*y∧x*y≤4294836225:=by
 have h1:=Int.mul_nonneg hx.1 hy.1
 have h2:x*y≤65535*65535:=Int.mul_le_mul (by omega) (by omega) hy.1 (by omega)
 omega
theorem aqk(cl:Bool)(A B:List Int)(hA:gd A)(hB:gd B)(lA:A.length≤1000000)(lB:B.length≤1000000):
  Con Tryz.prog 201 cl [.sl A.length (qb A),.sl B.length (qb B)] [] (arz (lim (vl A*vl B).toNat)):=by
 refine Con.of_aw Tryz.func201 rfl Tryz.ntmps201 (by simp) (by simp) (by simp) (W.sound ?_)
 show @W Tryz.prog 63 ⟨_⟩ ⟨fun x σ=>@qX _ _ _ ⟨_⟩ _ ⟨_⟩ x σ⟩ _ _
 simp(disch:=omega)only[go_sem]
 refine⟨⟨by omega,by omega,by omega⟩,?_⟩
 refine qj (fun x:Nat×List Int=>[(1,.sl B.length (qb B)),(5,.rf 180000000 0 (A.length+B.length)),(17,.sl A.length (qb A)),(18,.v (.int .i64 A.length)),(19,.v (.int .i64 x.1))])
  (fun x=>[(180000000,.own 1 (qb x.2))])
  (fun x=>x.1≤A.length∧x.2.length=A.length+B.length∧gd x.2∧vl x.2=vl (A.take x.1)*vl B∧∀j,x.1+B.length≤j→x.2.getD j 0=0)
  (fun x=>A.length-x.1) (0,List.replicate (A.length+B.length) 0) ⟨by simp,by simp,zq _,by simp[zP,vl],fun j _=>by
   rw[List.getD_eq_getElem?_getD,List.getElem?_replicate];split<;>rfl⟩
  (Le.lst [] _ _ rfl (by simp(disch:=omega)only[go_sem];try omega) (by simp(disch:=omega)only[go_sem,show((A.length:Int)+(B.length:Int)).toNat=A.length+B.length by omega])) ?_
 rintro⟨i,out⟩ ⟨hi,hol,hog,hov,hoz⟩
 dsimp only at hi hol hog hov hoz ⊢
 simp(disch:=omega)only[go_sem]
 refine qe (fun h1=>?_) (fun h1=>?_)
 ·have hx:=qJ hA i
  simp(disch:=omega)only[go_sem,h1]
  refine⟨by omega,by omega,?_⟩
  refine qj (fun x:Nat×List Int×Int=>[(1,.sl B.length (qb B)),(5,.rf 180000000 0 (A.length+B.length)),(17,.sl A.length (qb A)),(18,.v (.int .i64 A.length)),(19,.v (.int .i64 i)),(6,.v (.int .i64 i)),
    (7,.v (.int .i64 (A.getD i 0))),(8,.v (.int .i64 x.2.2)),(24,.sl B.length (qb B)),(25,.v (.int .i64 B.length)),(26,.v (.int .i64 x.1))])
   (fun x=>[(180000000,.own 1 (qb x.2.1))])
   (fun x=>x.1≤B.length∧x.2.1.length=A.length+B.length∧gd x.2.1∧(0≤x.2.2∧x.2.2<65536)∧vl x.2.1+65536^(i+x.1)*x.2.2=vl out+65536^i*(A.getD i 0*vl (B.take x.1))∧∀j,i+B.length≤j→x.2.1.getD j 0=0)
   (fun x=>B.length-x.1) (0,out,0) ⟨by simp,hol,hog,by simp,by simp[vl],hoz⟩
   (Le.lst [] _ _ rfl (by simp(disch:=omega)only[go_sem];try omega) (by simp(disch:=omega)only[go_sem])) ?_
  rintro⟨j,o2,cy⟩ ⟨hj,hol2,hog2,hcy,hov2,hoz2⟩
  dsimp only at hj hol2 hog2 hcy hov2 hoz2 ⊢
  simp(disch:=omega)only[go_sem]
  refine qe (fun h2=>?_) (fun h2=>?_)
  ·have hy:=qJ hB j
   have ho:=qJ hog2 (i+j)
   have hxy:=apo hx hy
   have e1:((i:Int)+(j:Int)).toNat=i+j:=by omega
   simp(disch:=omega)only[go_sem,h2,e1]
   generalize hq:cy+(o2.getD (i+j) 0+A.getD i 0*B.getD j 0)=q
   refine⟨by omega,by omega,by omega,by omega,by omega,by omega,qc (j+1,o2.set (i+j) (q % 65536),q/65536) [] ⟨by show j+1≤_;omega,by simp[hol2],yP hog2 (by omega),by show 0≤q/65536∧q/65536<65536;omega,?_,fun k hk=>?_⟩
    (by show B.length-(j+1)<B.length-j;omega) rfl (by simp(disch:=omega)only[go_sem];try omega) (by simp(disch:=omega)only[go_sem])⟩
   ·show vl (o2.set (i+j) (q % 65536))+65536^(i+(j+1))*(q/65536)=vl out+65536^i*(A.getD i 0*vl (B.take (j+1)))
    rw[QT (by omega),jb (by omega),←Nat.add_assoc,Int.pow_succ]
    have e2:(65536:Int)^(i+j)=65536^i*65536^j:=Int.pow_add _ _ _
    have e3:q % 65536+65536*(q/65536)=q:=Int.emod_add_mul_ediv q 65536
    rw[e2]at hov2 ⊢
    generalize (65536:Int)^i=Pi at*
    generalize (65536:Int)^j=Pj at*
    grind
   ·show(o2.set (i+j) (q % 65536)).getD k 0=0
    rw[List.getD_eq_getElem?_getD,List.getElem?_set_ne (by omega),←List.getD_eq_getElem?_getD]
    exact hoz2 k hk
  ·simp(disch:=omega)only[go_sem,h2]
   have e1:((i:Int)+(B.length:Int)).toNat=i+B.length:=by omega
   have hjB:j=B.length:=by omega
   subst hjB
   rw[List.take_length]at hov2
   simp(disch:=omega)only[go_sem,e1]
   refine⟨by omega,by omega,qc (i+1,o2.set (i+B.length) cy) [] ⟨by show i+1≤_;omega,by simp[hol2],yP hog2 hcy,?_,fun k hk=>?_⟩ (by show A.length-(i+1)<A.length-i;omega) rfl (by simp(disch:=omega)only[go_sem];try omega) (by simp(disch:=omega)only[go_sem])⟩
   ·show vl (o2.set (i+B.length) cy)=vl (A.take (i+1))*vl B
    rw[QT (by omega),hoz2 _ (Nat.le_refl _),jb (by omega)]
    generalize (65536:Int)^i=Pi at*
    grind
   ·show(o2.set (i+B.length) cy).getD k 0=0
    rw[List.getD_eq_getElem?_getD,List.getElem?_set_ne (by show i+B.length≠k;omega),←List.getD_eq_getElem?_getD]
    exact hoz2 k (by omega)
 ·simp(disch:=omega)only[go_sem,h1]
  have hiA:i=A.length:=by omega
  subst hiA
  rw[List.take_length]at hov
  refine qZ false [180000000] (jk out (by omega)) (by rw[←hol];simp(disch:=omega)only[go_sem]) (by simp(disch:=omega)only[go_sem]) rfl (qO (z:=1) (cs:=qb out) (by simp(disch:=omega)only[go_sem]) (by simp(disch:=omega)only[go_sem])) (by intro n hn;exact⟨_,List.mem_singleton.2 rfl,by rw[List.mem_singleton.1 hn];rfl⟩) ?_
  rintro r hs bs ⟨rfl,rfl,rfl⟩ _
  refine⟨by simp[qP],?_⟩
  simp(disch:=omega)only[go_sem]
  obtain⟨z,hz⟩:=zM out
  have hc:=z8 hog
  rw[hov]at hc
  rw[hc]at hz ⊢
  refine qh [(0,180000000)] [.own 1 (qb out)] [] [.rf 0 0 (lim (vl A*vl B).toNat).length] rfl (by simp(disch:=omega)only[go_sem]) (by simp(disch:=omega)only[go_sem]) (by simp) (by intro _;simp[zk,AV.pu,AV.pu.puL,Ob.pu,qV]) (.inr ⟨List.replicate z 0,rfl,by rw[←hz]⟩)
end Go.Ab
namespace Go.Ab
open Go Go.Proofs
theorem aqn(cl:Bool)(n:Nat)(hn:n<2^63):Con Tryz.prog 216 cl [.v (.int .i64 n)] [] (arz (lim n)):=by
 refine Con.of_aw Tryz.func216 rfl Tryz.ntmps216 (by simp) (by simp) (by simp) (W.sound ?_)
 show @W Tryz.prog 14 ⟨_⟩ ⟨fun x σ=>@qX _ _ _ ⟨_⟩ _ ⟨_⟩ x σ⟩ _ _
 simp(disch:=omega)only[go_sem]
 refine qj (fun x:Nat×List Int=>[(0,.v (.int .i64 x.1)),(3,.rf 1 0 x.2.length)]) (fun x=>[(1,.own 1 (qb x.2))]) (fun x=>x.1<2^63∧x.2++lim x.1=lim n) (fun x=>x.1) (n,[]) ⟨hn,rfl⟩
  ((Le.ghost 3 1 1 (by simp(disch:=omega)only[go_sem]) (by simp(disch:=omega)only[go_sem])).trans (Le.lst [] _ _ rfl (by simp(disch:=omega)only[go_sem]) (by simp(disch:=omega)only[go_sem]))) ?_
 rintro⟨k,l⟩ ⟨hk,hl⟩
 dsimp only at hk hl ⊢
 have hlen:l.length≤4:=by
  have h1:=congrArg List.length hl
  have h2:=jB (n:=n) (k:=4) |>.2 (by omega)
  rw[List.length_append]at h1;omega
 simp(disch:=omega)only[go_sem]
 refine qe (fun h1=>?_) (fun h1=>?_)
 ·simp(disch:=omega)only[go_sem,h1]
  have hk0:k≠0:=by omega
  refine⟨by omega,qc (k/65536,l++[(k:Int) % 65536]) [(1,140000000)] ⟨by show k/65536<2^63;omega,?_⟩ (by show k/65536<k;omega) rfl (by simp(disch:=omega)only[go_sem,List.length_append];omega) (by simp(disch:=omega)only[go_sem])⟩
  rw[jY hk0]at hl
  rw[←hl,List.append_assoc];rfl
 ·simp(disch:=omega)only[go_sem,h1]
  have hk0:k=0:=by omega
  subst hk0
  rw[qm,List.append_nil]at hl
  subst hl
  refine qh [(0,1)] [.own 1 (qb (lim n++[]))] [] [.rf 0 0 (lim n).length] rfl (by simp(disch:=omega)only[go_sem]) (by simp(disch:=omega)only[go_sem]) (by simp) (by intro _;simp[zk,AV.pu,AV.pu.puL,Ob.pu,qV]) (.inr ⟨[],rfl,rfl⟩)
end Go.Ab
namespace Go.Ab
open Go Go.Proofs
theorem yg(k:Nat)(h:k<16):(0:Int)<2^k∧(2:Int)^k≤32768:=by
 have:∀k,k<16→(0:Int)<2^k∧(2:Int)^k≤32768:=by decide
 exact this k h
theorem apn{x:Int}(hx:0≤x∧x<65536){k:Nat}(hk:k<16):0≤x*2^k∧x*2^k≤2147450880:=by
 obtain⟨h1,h2⟩:=yg k hk
 have h3:=Int.mul_nonneg hx.1 (Int.le_of_lt h1)
 have h4:x*2^k≤65535*32768:=Int.mul_le_mul (by omega) h2 (by omega) (by omega)
 omega
theorem K2(k:Nat):(65536:Int)^(k/16)*2^(k % 16)=2^k:=by
 have e:(65536:Int)=2^16:=by decide
 rw[e,←Int.pow_mul,←Int.pow_add,Nat.div_add_mod]
theorem aS7(cl:Bool)(A:List Int)(k:Nat)(hA:gd A)(lA:A.length≤1000000)(hk:k≤100000000):
  Con Tryz.prog 244 cl [.sl A.length (qb A),.v (.int .i64 k)] [] (arz (lim (vl A*2^k).toNat)):=by
 refine Con.of_aw Tryz.func244 rfl Tryz.ntmps244 (by simp) (by simp) (by simp) (W.sound ?_)
 show @W Tryz.prog 46 ⟨_⟩ ⟨fun x σ=>@qX _ _ _ ⟨_⟩ _ ⟨_⟩ x σ⟩ _ _
 simp(disch:=omega)only[go_sem]
 refine qe (fun h0=>?_) (fun h0=>?_)
 ·simp(disch:=omega)only[go_sem,h0]
  have:A=[]:=List.length_eq_zero_iff.1 (by omega)
  subst this
  refine qh [] [] [] [.v (.slice none 0 0)] rfl (by simp(disch:=omega)only[go_sem]) (by simp(disch:=omega)only[go_sem]) (by simp) (by intro _;simp[zk,AV.pu,AV.pu.puL,Ob.pu,qV]) (.inl ⟨by simp[vl,qm],rfl,rfl⟩)
 ·simp(disch:=omega)only[go_sem,h0]
  refine⟨by omega,?_⟩
  have e16:((k:Int)/16).toNat=k/16:=by omega
  refine qj (fun x:Nat×List Int×Int=>[(1,.v (.int .i64 k)),(5,.rf 1 0 x.2.1.length),(6,.v (.int .i64 x.2.2)),(21,.sl A.length (qb A)),(22,.v (.int .i64 A.length)),(23,.v (.int .i64 x.1))])
   (fun x=>[(1,.own 1 (qb x.2.1))])
   (fun x=>x.1≤A.length∧x.2.1.length=k/16+x.1∧gd x.2.1∧(0≤x.2.2∧x.2.2<65536)∧vl x.2.1+65536^(k/16+x.1)*x.2.2=65536^(k/16)*2^(k % 16)*vl (A.take x.1))
   (fun x=>A.length-x.1) (0,List.replicate (k/16) 0,0) ⟨by simp,by simp,zq _,by simp,by simp[vl,zP]⟩
   (Le.lst [(1,220000000)] _ _ rfl (by simp(disch:=omega)only[go_sem,List.length_replicate,e16]) (by simp(disch:=omega)only[go_sem,e16])) ?_
  rintro⟨i,out,cy⟩ ⟨hi,hol,hog,hcy,hov⟩
  dsimp only at hi hol hog hcy hov ⊢
  simp(disch:=omega)only[go_sem]
  refine qe (fun h1=>?_) (fun h1=>?_)
  ·have hx:=qJ hA i
   have hxs:=apn hx (show k % 16<16 by omega)
   have em:min ((k:Int) % 16).toNat 64=k % 16:=by omega
   simp(disch:=omega)only[go_sem,h1,em]
   generalize hq:cy+A.getD i 0*2^(k % 16)=q
   refine⟨by omega,by omega,by omega,by omega,qc (i+1,out++[q % 65536],q/65536) [(1,390000000)] ⟨by show i+1≤_;omega,by simp[hol];omega,qE.2 ⟨hog,zR.2 (by omega)⟩,by show 0≤q/65536∧q/65536<65536;omega,?_⟩ (by show A.length-(i+1)<A.length-i;omega) rfl (by simp(disch:=omega)only[go_sem,List.length_append];try omega) (by simp(disch:=omega)only[go_sem])⟩
   show vl (out++[q % 65536])+65536^(k/16+(i+1))*(q/65536)=65536^(k/16)*2^(k % 16)*vl (A.take (i+1))
   rw[jp,qQ,hol,←Nat.add_assoc,Int.pow_succ]
   have e3:q % 65536+65536*(q/65536)=q:=Int.emod_add_mul_ediv q 65536
   rw[Int.pow_add]at hov ⊢
   generalize (65536:Int)^i=Pi at*
   generalize (65536:Int)^(k/16)=Pk at*
   generalize (2:Int)^(k % 16)=Pm at*
   grind
  ·simp(disch:=omega)only[go_sem,h1]
   have hiA:i=A.length:=by omega
   subst hiA
   rw[List.take_length,K2]at hov
   have hov2:vl (out++[cy])=vl A*2^k:=by rw[jp,hol,hov];grind
   have hog2:gd (out++[cy]):=qE.2 ⟨hog,zR.2 hcy⟩
   refine⟨by omega,?_⟩
   have hl2:out.length+1=(out++[cy]).length:=by simp
   rw[hl2]
   refine qZ false [460000000] (jk (out++[cy]) (by simp;omega)) (by simp(disch:=omega)only[go_sem]) (by simp(disch:=omega)only[go_sem]) rfl (qO (z:=1) (cs:=qb (out++[cy])) (by simp(disch:=omega)only[go_sem]) (by simp(disch:=omega)only[go_sem])) (by intro n hn;exact⟨_,List.mem_singleton.2 rfl,by rw[List.mem_singleton.1 hn];rfl⟩) ?_
   rintro r hs bs ⟨rfl,rfl,rfl⟩ _
   refine⟨by simp[qP],?_⟩
   simp(disch:=omega)only[go_sem]
   obtain⟨z,hz⟩:=zM (out++[cy])
   have hc:=z8 hog2
   rw[hov2]at hc
   rw[hc]at hz ⊢
   refine qh [(0,460000000)] [.own 1 (qb (out++[cy]))] [] [.rf 0 0 (lim (vl A*2^k).toNat).length] rfl (by simp(disch:=omega)only[go_sem]) (by simp(disch:=omega)only[go_sem]) (by simp) (by intro _;simp[zk,AV.pu,AV.pu.puL,Ob.pu,qV]) (.inr ⟨List.replicate z 0,rfl,by rw[←hz]⟩)
end Go.Ab
namespace Go.Ab
open Go Go.Proofs
theorem aBP(V P:Int)(hP:0<P):V % (P*65536)=V % P+P*(V/P % 65536):=by
 rw[Int.emod_def,Int.emod_def,Int.emod_def,←Int.ediv_ediv_of_nonneg (Int.le_of_lt hP)]
 grind
theorem aBf{s:Nat}(hs:s<16):(65536:Int)=2^s*2^(16-s):=by
 rw[←Int.pow_add,show s+(16-s)=16 by omega];decide
theorem ajE{D:List Int}(hD:gd D){i s:Nat}(hi:i<D.length)(hs:s<16):
  (vl D/2^s)/65536^i % 65536=(D.getD i 0+D.getD (i+1) 0*65536)/2^s % 65536:=by
 have h2:=(yg s hs).1
 rw[Int.ediv_ediv_of_nonneg (Int.le_of_lt h2),Int.mul_comm,←Int.ediv_ediv_of_nonneg (Int.le_of_lt (Int.pow_pos (by omega))),aeF hD (by omega),zE hi]
 have h3:vl (D.drop (i+1))=D.getD (i+1) 0+65536*vl (D.drop (i+2)):=by
  rcases Nat.lt_or_ge (i+1) D.length with h|h
  ·exact zE h
  ·rw[List.drop_of_length_le h,List.drop_of_length_le (by omega),List.getD_eq_getElem?_getD,List.getElem?_eq_none h];simp[vl]
 rw[h3]
 have e:D.getD i 0+65536*(D.getD (i+1) 0+65536*vl (D.drop (i+2)))=(D.getD i 0+D.getD (i+1) 0*65536)+2^s*(65536*(2^(16-s)*vl (D.drop (i+2)))):=by
  have:=aBf hs
  generalize (2:Int)^s=a at*
  generalize (2:Int)^(16-s)=b at*
  grind
 rw[e,Int.add_mul_ediv_left _ _ (by omega),Int.add_mul_emod_self_left]
theorem ao6{a b:Nat}(h:a≤b):(65536:Int)^a≤65536^b:=by
 obtain⟨d,rfl⟩:=Nat.exists_eq_add_of_le h
 have h1:(0:Int)<65536^a:=Int.pow_pos (by omega)
 have h2:(0:Int)<65536^d:=Int.pow_pos (by omega)
 have h3:=Int.mul_le_mul_of_nonneg_left (show(1:Int)≤65536^d by omega) (Int.le_of_lt h1)
 rw[Int.mul_one,←Int.pow_add]at h3
 exact h3
theorem aDb(cl:Bool)(A:List Int)(k:Nat)(hA:gd A)(lA:A.length≤1000000)(hk:k≤100000000):
  Con Tryz.prog 235 cl [.sl A.length (qb A),.v (.int .i64 k)] [] (arz (lim (vl A/2^k).toNat)):=by
 refine Con.of_aw Tryz.func235 rfl Tryz.ntmps235 (by simp) (by simp) (by simp) (W.sound ?_)
 show @W Tryz.prog 52 ⟨_⟩ ⟨fun x σ=>@qX _ _ _ ⟨_⟩ _ ⟨_⟩ x σ⟩ _ _
 have hvk:vl A/2^k=vl A/65536^(k/16)/2^(k % 16):=by
  rw[Int.ediv_ediv_of_nonneg (Int.le_of_lt (Int.pow_pos (by omega))),K2]
 simp(disch:=omega)only[go_sem]
 refine qe (fun h0=>?_) (fun h0=>?_)
 ·simp(disch:=omega)only[go_sem,h0]
  have hz:vl A/2^k=0:=by
   rw[hvk,Int.ediv_eq_zero_of_lt (qT hA)]
   ·simp
   ·refine Int.lt_of_lt_of_le (Qv hA) ?_
    exact ao6 (by omega)
  rw[hz]
  refine qh [] [] [] [.v (.slice none 0 0)] rfl (by simp(disch:=omega)only[go_sem]) (by simp(disch:=omega)only[go_sem]) (by simp) (by intro _;simp[zk,AV.pu,AV.pu.puL,Ob.pu,qV]) (.inl ⟨by simp[qm],rfl,rfl⟩)
 ·have e16:((k:Int)/16).toNat=k/16:=by omega
  have e17:((A.length:Int)-(k:Int)/16).toNat=(A.drop (k/16)).length:=by simp;omega
  have e18:(A.drop (k/16)).take (A.drop (k/16)).length=A.drop (k/16):=List.take_length
  have hvD:=aeF hA (i:=k/16) (by omega)
  have hlD:(A.drop (k/16)).length≤1000000:=by simp;omega
  have hD:=ym hA (k/16)
  simp(disch:=omega)only[go_sem,h0,e16,e17,e18]
  generalize A.drop (k/16)=D at*
  refine⟨by omega,by omega,?_⟩
  refine qj (fun x:Nat×List Int=>[(1,.v (.int .i64 k)),(5,.sl D.length (qb D)),(6,.rf 1 0 x.2.length),(21,.sl D.length (qb D)),(22,.v (.int .i64 D.length)),(23,.v (.int .i64 x.1))])
   (fun x=>[(1,.own 1 (qb x.2))])
   (fun x=>x.1≤D.length∧x.2.length=x.1∧gd x.2∧vl x.2=vl D/2^(k % 16) % 65536^x.1)
   (fun x=>D.length-x.1) (0,[]) ⟨by simp,rfl,ZZ,by simp[vl]⟩
   (Le.lst [(1,220000000)] _ _ rfl (by simp(disch:=omega)only[go_sem]) (by simp(disch:=omega)only[go_sem])) ?_
  rintro⟨i,out⟩ ⟨hi,hol,hog,hov⟩
  dsimp only at hi hol hog hov ⊢
  simp(disch:=omega)only[go_sem]
  refine qe (fun h1=>?_) (fun h1=>?_)
  ·have hx:=qJ hD i
   have hy:=qJ hD (i+1)
   have em:min ((k:Int) % 16).toNat 64=k % 16:=by omega
   have hm:=yg (k % 16) (by omega)
   have efd:∀x:Int,x.fdiv (2^(k % 16))=x/2^(k % 16):=fun x=>Int.fdiv_eq_ediv_of_nonneg _ (Int.le_of_lt hm.1)
   have hdig:=ajE hD (i:=i) (s:=k % 16) (by omega) (by omega)
   have hnn:∀x:Int,0≤x→0≤x/2^(k % 16):=fun x hx=>Int.ediv_nonneg hx (Int.le_of_lt hm.1)
   have ei:((i:Int)+1).toNat=i+1:=by omega
   have hstep:∀z:Int,z=(D.getD i 0+D.getD (i+1) 0*65536)/2^(k % 16) % 65536→vl (out++[z])=vl D/2^(k % 16) % 65536^(i+1):=by
    intro z hz
    rw[jp,hov,hol,Int.pow_succ,aBP _ _ (Int.pow_pos (by omega)),hdig,hz]
   simp(disch:=omega)only[go_sem,h1]
   refine⟨by omega,by omega,qe (fun h2=>?_) (fun h2=>?_)⟩
   ·have hn1:=hnn (D.getD i 0+D.getD (i+1) 0*65536) (by omega)
    simp(disch:=omega)only[go_sem,h2,em,efd,ei]
    refine⟨by omega,by omega,by omega,by omega,qc (i+1,out++[(D.getD i 0+D.getD (i+1) 0*65536)/2^(k % 16) % 65536]) [(1,500000000)] ⟨by show i+1≤_;omega,by simp[hol],qE.2 ⟨hog,zR.2 (by omega)⟩,hstep _ rfl⟩ (by show D.length-(i+1)<D.length-i;omega) rfl (by simp(disch:=omega)only[go_sem,List.length_append];try omega) (by simp(disch:=omega)only[go_sem])⟩
   ·have hn1:=hnn (D.getD i 0) (by omega)
    simp(disch:=omega)only[go_sem,h2,em,efd]
    have hy0:D.getD (i+1) 0=0:=by rw[List.getD_eq_getElem?_getD,List.getElem?_eq_none (by omega)];rfl
    refine⟨by omega,by omega,qc (i+1,out++[D.getD i 0/2^(k % 16) % 65536]) [(1,500000000)] ⟨by show i+1≤_;omega,by simp[hol],qE.2 ⟨hog,zR.2 (by omega)⟩,hstep _ (by rw[hy0];simp)⟩ (by show D.length-(i+1)<D.length-i;omega) rfl (by simp(disch:=omega)only[go_sem,List.length_append];try omega) (by simp(disch:=omega)only[go_sem])⟩
  ·simp(disch:=omega)only[go_sem,h1]
   have hiD:i=D.length:=by omega
   subst hiD
   have hV:vl out=vl A/2^k:=by
    rw[hov,hvk,hvD]
    refine Int.emod_eq_of_lt (Int.ediv_nonneg (qT hD) (Int.le_of_lt (yg (k % 16) (by omega)).1)) ?_
    exact Int.lt_of_le_of_lt (Int.ediv_le_self _ (qT hD)) (Qv hD)
   refine qZ false [1] (jk out (by omega)) (by simp(disch:=omega)only[go_sem]) (by simp(disch:=omega)only[go_sem]) rfl (qO (z:=1) (cs:=qb out) (by simp(disch:=omega)only[go_sem]) (by simp(disch:=omega)only[go_sem])) (by intro n hn;exact⟨_,List.mem_singleton.2 rfl,by rw[List.mem_singleton.1 hn];rfl⟩) ?_
   rintro r hs bs ⟨rfl,rfl,rfl⟩ _
   refine⟨by simp[qP],?_⟩
   simp(disch:=omega)only[go_sem]
   obtain⟨z,hz⟩:=zM out
   have hc:=z8 hog
   rw[hV]at hc
   rw[hc]at hz ⊢
   refine qh [(0,1)] [.own 1 (qb out)] [] [.rf 0 0 (lim (vl A/2^k).toNat).length] rfl (by simp(disch:=omega)only[go_sem]) (by simp(disch:=omega)only[go_sem]) (by simp) (by intro _;simp[zk,AV.pu,AV.pu.puL,Ob.pu,qV]) (.inr ⟨List.replicate z 0,rfl,by rw[←hz]⟩)
end Go.Ab
namespace Go.Ab
open Go Go.Proofs
theorem drop_set{l:List Int}{i:Nat}(h:i<l.length)(z:Int):(l.set i z).drop i=z::l.drop (i+1):=by
 rw[List.drop_eq_getElem_cons (by simpa using h)]
 simp[List.drop_set]
theorem aDc(cl:Bool)(A:List Int)(d:Nat)(hA:gd A)(lA:A.length≤1000000)(hd:0<d)(hd2:d<65536):
  Con Tryz.prog 288 cl [.sl A.length (qb A),.v (.int .i64 d)] [] (fun r hs bs=>∃zs,r=.tu [.rf 0 0 (lim (vl A/d).toNat).length,.v (.int .i64 (vl A % d))]∧hs=[.own 1 (qb (lim (vl A/d).toNat++zs))]):=by
 refine Con.of_aw Tryz.func288 rfl Tryz.ntmps288 (by simp) (by simp) (by simp) (W.sound ?_)
 show @W Tryz.prog 38 ⟨_⟩ ⟨fun x σ=>@qX _ _ _ ⟨_⟩ _ ⟨_⟩ x σ⟩ _ _
 simp(disch:=omega)only[go_sem]
 refine⟨by omega,?_⟩
 refine qj (fun x:Nat×List Int×Int=>[(0,.sl A.length (qb A)),(1,.v (.int .i64 d)),(6,.rf 130000000 0 A.length),(7,.v (.int .i64 x.2.2)),(8,.v (.int .i64 ((x.1:Int)-1)))])
  (fun x=>[(130000000,.own 1 (qb x.2.1))])
  (fun x=>x.1≤A.length∧x.2.1.length=A.length∧gd x.2.1∧x.2.2=vl (A.drop x.1) % d∧vl (x.2.1.drop x.1)=vl (A.drop x.1)/d)
  (fun x=>x.1) (A.length,List.replicate A.length 0,0) ⟨by simp,by simp,zq _,by simp[vl],by simp[vl]⟩
  (Le.lst [] _ _ rfl (by simp(disch:=omega)only[go_sem];try omega) (by simp(disch:=omega)only[go_sem])) ?_
 rintro⟨m,out,rest⟩ ⟨hm,hol,hog,hr,hov⟩
 dsimp only at hm hol hog hr hov ⊢
 simp(disch:=omega)only[go_sem]
 refine qe (fun h1=>?_) (fun h1=>?_)
 ·obtain⟨i,rfl⟩:∃i,m=i+1:=⟨m-1,by omega⟩
  have e1:((i+1:Nat):Int)-1=(i:Nat):=by omega
  have hx:=qJ hA i
  have hr2:0≤rest∧rest<d:=by rw[hr];exact⟨Int.emod_nonneg _ (by omega),Int.emod_lt_of_pos _ (by omega)⟩
  generalize hq:rest*65536+A.getD i 0=q
  have hq0:0≤q:=by omega
  have hqd:0≤q/d∧q/d<65536:=⟨Int.ediv_nonneg hq0 (by omega),Int.ediv_lt_of_lt_mul (by omega) (by omega)⟩
  have hqm:0≤q % d∧q % d<d:=⟨Int.emod_nonneg _ (by omega),Int.emod_lt_of_pos _ (by omega)⟩
  simp(disch:=omega)only[go_sem,h1,e1,hq]
  refine⟨by omega,by omega,by omega,by omega,by omega,by omega,qc (i,out.set i (q/d),q % d) [] ⟨by show i≤_;omega,by simp[hol],yP hog hqd,?_,?_⟩ (by show i<i+1;omega) rfl (by simp(disch:=omega)only[go_sem]) (by simp(disch:=omega)only[go_sem])⟩
  ·show q % d=vl (A.drop i) % d
   rw[zE (l:=A) (i:=i) (by omega),←hq,hr]
   have h3:=Int.emod_add_mul_ediv (vl (A.drop (i+1))) d
   rw[show A.getD i 0+65536*vl (A.drop (i+1))=vl (A.drop (i+1)) % d*65536+A.getD i 0+d*(65536*(vl (A.drop (i+1))/d)) by grind,Int.add_mul_emod_self_left]
  ·show vl ((out.set i (q/d)).drop i)=vl (A.drop i)/d
   rw[drop_set (by omega),vl,hov,zE (l:=A) (i:=i) (by omega),←hq,hr]
   have h3:=Int.emod_add_mul_ediv (vl (A.drop (i+1))) d
   rw[show A.getD i 0+65536*vl (A.drop (i+1))=vl (A.drop (i+1)) % d*65536+A.getD i 0+d*(65536*(vl (A.drop (i+1))/d)) by grind,Int.add_mul_ediv_left _ _ (by omega)]
 ·simp(disch:=omega)only[go_sem,h1]
  have:m=0:=by omega
  subst this
  rw[List.drop_zero,List.drop_zero]at hov
  rw[List.drop_zero]at hr
  rw[←hol]
  refine qZ false [130000000] (jk out (by omega)) (by simp(disch:=omega)only[go_sem]) (by simp(disch:=omega)only[go_sem]) rfl (qO (z:=1) (cs:=qb out) (by simp(disch:=omega)only[go_sem]) (by simp(disch:=omega)only[go_sem])) (by intro n hn;exact⟨_,List.mem_singleton.2 rfl,by rw[List.mem_singleton.1 hn];rfl⟩) ?_
  rintro r hs bs ⟨rfl,rfl,rfl⟩ _
  refine⟨by simp[qP],?_⟩
  simp(disch:=omega)only[go_sem]
  obtain⟨z,hz⟩:=zM out
  have hc:=z8 hog
  rw[hov]at hc
  rw[hc]at hz ⊢
  rw[hr]
  refine qh [(0,130000000)] [.own 1 (qb out)] [] [.rf 0 0 (lim (vl A/d).toNat).length,.v (.int .i64 (vl A % d))] rfl (by simp(disch:=omega)only[go_sem]) (by simp(disch:=omega)only[go_sem]) (by simp) (by intro _;simp[zk,AV.pu,AV.pu.puL,Ob.pu,qV]) ⟨List.replicate z 0,rfl,by rw[←hz]⟩
end Go.Ab
namespace Go.Ab
open Go Go.Proofs
theorem aC2(cl:Bool)(A B:List Int)(hA:gd A)(hB:gd B)(lA:A.length≤2000000)(lB:B.length≤2000000):
  Con Tryz.prog 249 cl [.sl A.length (qb A),.sl B.length (qb B)] [] (arz (lim (vl A+vl B).toNat)):=by
 refine Con.of_aw Tryz.func249 rfl Tryz.ntmps249 (by simp) (by simp) (by simp) (W.sound ?_)
 show @W Tryz.prog 53 ⟨_⟩ ⟨fun x σ=>@qX _ _ _ ⟨_⟩ _ ⟨_⟩ x σ⟩ _ _
 simp(disch:=omega)only[go_sem]
 refine qe (fun h0=>?_) (fun h0=>?_)
 all_goals simp(disch:=omega)only[go_sem,h0]
 ·revert A B
  intro Y X hY hX lY lX h0'
  have h00:Y.length≤X.length:=by omega
  have hcm:vl Y+vl X=vl X+vl Y:=Int.add_comm _ _
  refine⟨by omega,?_⟩
  refine qj (fun x:Nat×List Int×Int=>[(1,.sl Y.length (qb Y)),(5,.rf 1 0 x.2.1.length),(6,.v (.int .i64 x.2.2)),(20,.sl X.length (qb X)),(21,.v (.int .i64 X.length)),(22,.v (.int .i64 x.1))])
   (fun x=>[(1,.own 1 (qb x.2.1))])
   (fun x=>x.1≤X.length∧x.2.1.length=x.1∧gd x.2.1∧(0≤x.2.2∧x.2.2≤1)∧vl x.2.1+65536^x.1*x.2.2=vl (X.take x.1)+vl (Y.take x.1))
   (fun x=>X.length-x.1) (0,[],0) ⟨by simp,rfl,ZZ,by simp,by simp[vl]⟩
   (Le.lst [(1,210000000)] _ _ rfl (by simp(disch:=omega)only[go_sem]) (by simp(disch:=omega)only[go_sem])) ?_
  rintro⟨i,out,cy⟩ ⟨hi,hol,hog,hcy,hov⟩
  dsimp only at hi hol hog hcy hov ⊢
  simp(disch:=omega)only[go_sem]
  refine qe (fun h1=>?_) (fun h1=>?_)
  ·have hx:=qJ hX i
   have hy:=qJ hY i
   have hstep:∀q:Int,q=cy+X.getD i 0+Y.getD i 0→vl (out++[q % 65536])+65536^(i+1)*(q/65536)=vl (X.take (i+1))+vl (Y.take (i+1)):=by
    intro q hq
    rw[jp,qQ,qQ,hol,Int.pow_succ]
    have e3:q % 65536+65536*(q/65536)=q:=Int.emod_add_mul_ediv q 65536
    generalize (65536:Int)^i=Pi at*
    grind
   have hyz:¬i<Y.length→Y.getD i 0=0:=fun h=>by rw[List.getD_eq_getElem?_getD,List.getElem?_eq_none (by omega)];rfl
   simp(disch:=omega)only[go_sem,h1]
   refine⟨by omega,by omega,qe (fun h2=>?_) (fun h2=>?_)⟩
   ·simp(disch:=omega)only[go_sem,h2]
    generalize hq:cy+X.getD i 0+Y.getD i 0=q
    refine⟨by omega,by omega,by omega,qc (i+1,out++[q % 65536],q/65536) [(1,460000000)] ⟨by show i+1≤_;omega,by simp[hol],qE.2 ⟨hog,zR.2 (by omega)⟩,by show 0≤q/65536∧q/65536≤1;omega,hstep q hq.symm⟩ (by show X.length-(i+1)<X.length-i;omega) rfl (by simp(disch:=omega)only[go_sem,List.length_append];try omega) (by simp(disch:=omega)only[go_sem])⟩
   ·simp(disch:=omega)only[go_sem,h2]
    have hy0:=hyz (by omega)
    generalize hq:cy+X.getD i 0=q
    refine⟨by omega,qc (i+1,out++[q % 65536],q/65536) [(1,460000000)] ⟨by show i+1≤_;omega,by simp[hol],qE.2 ⟨hog,zR.2 (by omega)⟩,by show 0≤q/65536∧q/65536≤1;omega,hstep q (by omega)⟩ (by show X.length-(i+1)<X.length-i;omega) rfl (by simp(disch:=omega)only[go_sem,List.length_append];try omega) (by simp(disch:=omega)only[go_sem])⟩
  ·simp(disch:=omega)only[go_sem,h1]
   have hiA:i=X.length:=by omega
   subst hiA
   rw[List.take_length,List.take_of_length_le h00]at hov
   have hov2:vl (out++[cy])=vl X+vl Y:=by rw[jp,hol];exact hov
   have hog2:gd (out++[cy]):=qE.2 ⟨hog,zR.2 (by omega)⟩
   refine⟨by omega,?_⟩
   have hl2:out.length+1=(out++[cy]).length:=by simp
   rw[hl2]
   refine qZ false [530000000] (jk (out++[cy]) (by simp;omega)) (by simp(disch:=omega)only[go_sem]) (by simp(disch:=omega)only[go_sem]) rfl (qO (z:=1) (cs:=qb (out++[cy])) (by simp(disch:=omega)only[go_sem]) (by simp(disch:=omega)only[go_sem])) (by intro n hn;exact⟨_,List.mem_singleton.2 rfl,by rw[List.mem_singleton.1 hn];rfl⟩) ?_
   rintro r hs bs ⟨rfl,rfl,rfl⟩ _
   refine⟨by simp[qP],?_⟩
   simp(disch:=omega)only[go_sem]
   obtain⟨z,hz⟩:=zM (out++[cy])
   have hc:=z8 hog2
   rw[hov2]at hc
   rw[hc]at hz ⊢
   refine qh [(0,530000000)] [.own 1 (qb (out++[cy]))] [] [.rf 0 0 (lim (vl X+vl Y).toNat).length] rfl (by simp(disch:=omega)only[go_sem]) (by simp(disch:=omega)only[go_sem]) (by simp) (by intro _;simp[zk,AV.pu,AV.pu.puL,Ob.pu,qV]) (.inr ⟨List.replicate z 0,by rw[hcm];rfl,by rw[hcm,←hz]⟩)
 ·revert A B
  intro X Y hX hY lX lY h0'
  have h00:Y.length≤X.length:=by omega
  have hcm:vl X+vl Y=vl X+vl Y:=rfl
  refine⟨by omega,?_⟩
  refine qj (fun x:Nat×List Int×Int=>[(1,.sl Y.length (qb Y)),(5,.rf 1 0 x.2.1.length),(6,.v (.int .i64 x.2.2)),(20,.sl X.length (qb X)),(21,.v (.int .i64 X.length)),(22,.v (.int .i64 x.1))])
   (fun x=>[(1,.own 1 (qb x.2.1))])
   (fun x=>x.1≤X.length∧x.2.1.length=x.1∧gd x.2.1∧(0≤x.2.2∧x.2.2≤1)∧vl x.2.1+65536^x.1*x.2.2=vl (X.take x.1)+vl (Y.take x.1))
   (fun x=>X.length-x.1) (0,[],0) ⟨by simp,rfl,ZZ,by simp,by simp[vl]⟩
   (Le.lst [(1,210000000)] _ _ rfl (by simp(disch:=omega)only[go_sem]) (by simp(disch:=omega)only[go_sem])) ?_
  rintro⟨i,out,cy⟩ ⟨hi,hol,hog,hcy,hov⟩
  dsimp only at hi hol hog hcy hov ⊢
  simp(disch:=omega)only[go_sem]
  refine qe (fun h1=>?_) (fun h1=>?_)
  ·have hx:=qJ hX i
   have hy:=qJ hY i
   have hstep:∀q:Int,q=cy+X.getD i 0+Y.getD i 0→vl (out++[q % 65536])+65536^(i+1)*(q/65536)=vl (X.take (i+1))+vl (Y.take (i+1)):=by
    intro q hq
    rw[jp,qQ,qQ,hol,Int.pow_succ]
    have e3:q % 65536+65536*(q/65536)=q:=Int.emod_add_mul_ediv q 65536
    generalize (65536:Int)^i=Pi at*
    grind
   have hyz:¬i<Y.length→Y.getD i 0=0:=fun h=>by rw[List.getD_eq_getElem?_getD,List.getElem?_eq_none (by omega)];rfl
   simp(disch:=omega)only[go_sem,h1]
   refine⟨by omega,by omega,qe (fun h2=>?_) (fun h2=>?_)⟩
   ·simp(disch:=omega)only[go_sem,h2]
    generalize hq:cy+X.getD i 0+Y.getD i 0=q
    refine⟨by omega,by omega,by omega,qc (i+1,out++[q % 65536],q/65536) [(1,460000000)] ⟨by show i+1≤_;omega,by simp[hol],qE.2 ⟨hog,zR.2 (by omega)⟩,by show 0≤q/65536∧q/65536≤1;omega,hstep q hq.symm⟩ (by show X.length-(i+1)<X.length-i;omega) rfl (by simp(disch:=omega)only[go_sem,List.length_append];try omega) (by simp(disch:=omega)only[go_sem])⟩
   ·simp(disch:=omega)only[go_sem,h2]
    have hy0:=hyz (by omega)
    generalize hq:cy+X.getD i 0=q
    refine⟨by omega,qc (i+1,out++[q % 65536],q/65536) [(1,460000000)] ⟨by show i+1≤_;omega,by simp[hol],qE.2 ⟨hog,zR.2 (by omega)⟩,by show 0≤q/65536∧q/65536≤1;omega,hstep q (by omega)⟩ (by show X.length-(i+1)<X.length-i;omega) rfl (by simp(disch:=omega)only[go_sem,List.length_append];try omega) (by simp(disch:=omega)only[go_sem])⟩
  ·simp(disch:=omega)only[go_sem,h1]
   have hiA:i=X.length:=by omega
   subst hiA
   rw[List.take_length,List.take_of_length_le h00]at hov
   have hov2:vl (out++[cy])=vl X+vl Y:=by rw[jp,hol];exact hov
   have hog2:gd (out++[cy]):=qE.2 ⟨hog,zR.2 (by omega)⟩
   refine⟨by omega,?_⟩
   have hl2:out.length+1=(out++[cy]).length:=by simp
   rw[hl2]
   refine qZ false [530000000] (jk (out++[cy]) (by simp;omega)) (by simp(disch:=omega)only[go_sem]) (by simp(disch:=omega)only[go_sem]) rfl (qO (z:=1) (cs:=qb (out++[cy])) (by simp(disch:=omega)only[go_sem]) (by simp(disch:=omega)only[go_sem])) (by intro n hn;exact⟨_,List.mem_singleton.2 rfl,by rw[List.mem_singleton.1 hn];rfl⟩) ?_
   rintro r hs bs ⟨rfl,rfl,rfl⟩ _
   refine⟨by simp[qP],?_⟩
   simp(disch:=omega)only[go_sem]
   obtain⟨z,hz⟩:=zM (out++[cy])
   have hc:=z8 hog2
   rw[hov2]at hc
   rw[hc]at hz ⊢
   refine qh [(0,530000000)] [.own 1 (qb (out++[cy]))] [] [.rf 0 0 (lim (vl X+vl Y).toNat).length] rfl (by simp(disch:=omega)only[go_sem]) (by simp(disch:=omega)only[go_sem]) (by simp) (by intro _;simp[zk,AV.pu,AV.pu.puL,Ob.pu,qV]) (.inr ⟨List.replicate z 0,by rw[hcm];rfl,by rw[hcm,←hz]⟩)
end Go.Ab
namespace Go.Ab
open Go Go.Proofs
theorem aaM(cl:Bool)(xs:List Int)(hl:xs.length≤2^39):Con Tryz.prog 272 cl [.sl xs.length (qb xs)] [] (arz xs):=by
 refine Con.of_aw Tryz.func272 rfl Tryz.ntmps272 (by simp) (by simp) (by simp) (W.sound ?_)
 show @W Tryz.prog 8 ⟨_⟩ ⟨fun x σ=>@qX _ _ _ ⟨_⟩ _ ⟨_⟩ x σ⟩ _ _
 simp(disch:=omega)only[go_sem]
 refine⟨fun h0=>?_,?_⟩
 ·have:xs=[]:=by cases xs with|nil=>rfl|cons a r=>cases h0
  subst this
  refine qh [] [] [] [.v (.slice none 0 0)] rfl (by simp(disch:=omega)only[go_sem]) (by simp(disch:=omega)only[go_sem]) (by simp) (by intro _;simp[zk,AV.pu]) (.inl ⟨rfl,rfl,rfl⟩)
 ·refine⟨by omega,?_⟩
  refine qh [(0,90000000)] [.own 1 (qb xs)] [] [.rf 0 0 xs.length] rfl (by simp(disch:=omega)only[go_sem]) (by simp(disch:=omega)only[go_sem]) (by simp) (by intro _;simp[zk,AV.pu,Ob.pu,qV]) (.inr ⟨[],rfl,by rw[List.append_nil]⟩)
end Go.Ab
namespace Go.Ab
open Go Go.Proofs
theorem aaF(x:Int):Con Tryz.prog 292 true [.v (.int .i64 x)] [] (isA (.v (.bool false))):=by
 refine Con.of_w (rs:=[.tmp 2]) Tryz.func292 rfl Tryz.ntmps292 rfl ?_
 simp(disch:=omega)only[go_sem]
 exact qA
theorem aqL(x y:Int):Con Tryz.prog 277 true [.v (.int .i64 x),.v (.int .i64 y)] [] (isA (.v (.int .i64 (zf x y)))):=by
 refine Con.of_w (rs:=[.tmp 4]) Tryz.func277 rfl Tryz.ntmps277 rfl ?_
 simp(disch:=omega)only[go_sem]
 refine qi (aaF x) ?_
 simp(disch:=omega)only[go_sem]
 refine qi (aaF y) ?_
 simp(disch:=omega)only[go_sem]
 refine qe (fun h1=>?_) (fun h1=>?_)
 ·simp(disch:=omega)only[go_sem,h1]
  rw[show zf x y= -1 by simp[zf,h1]]
  exact qA
 ·simp(disch:=omega)only[go_sem,h1]
  refine qe (fun h2=>?_) (fun h2=>?_)
  ·simp(disch:=omega)only[go_sem,h2]
   rw[show zf x y=1 by simp[zf,h1,h2]]
   exact qA
  ·simp(disch:=omega)only[go_sem,h2]
   rw[show zf x y=0 by simp[zf,h1,h2]]
   exact qA
theorem zt(a b:Nat)(la:(lim a).length≤2^40)(lb:(lim b).length≤2^40):
  Con Tryz.prog 248 true [.sl (lim (a)).length (qb (lim (a))),.sl (lim (b)).length (qb (lim (b)))] [] (isA (.v (.int .i64 (zf a b)))):=by
 refine Con.of_w (rs:=[.tmp 4]) Tryz.func248 rfl Tryz.ntmps248 rfl ?_
 simp(disch:=omega)only[go_sem]
 refine zG (fun h1=>?_) (fun h1=>?_)
 ·simp(disch:=omega)only[go_sem,h1]
  refine qi (aqL (lim a).length (lim b).length) ?_
  simp(disch:=omega)only[go_sem]
  have:zf ((lim a).length:Int) ((lim b).length:Int)=zf a b:=by
   unfold zf
   rcases(by omega:(lim a).length<(lim b).length∨(lim b).length<(lim a).length)with h|h
   ·have:=Qh h
    rw[if_pos (by omega),if_pos (by omega)]
   ·have:=Qh h
    rw[if_neg (by omega),if_pos (by omega),if_neg (by omega),if_pos (by omega)]
  rw[this]
  exact qA
 ·simp(disch:=omega)only[go_sem,h1]
  have hl:(lim a).length=(lim b).length:=by omega
  refine qj (fun k:Nat=>[(0,.sl (lim (a)).length (qb (lim (a)))),(1,.sl (lim (b)).length (qb (lim (b)))),(5,.v (.int .i64 ((k:Int)-1)))])
   (fun _=>[]) (fun k=>k≤(lim a).length∧(lim a).drop k=(lim b).drop k) (fun k=>k) (lim a).length ⟨Nat.le_refl _,by rw[List.drop_length,hl,List.drop_length]⟩ (Le.lst [] _ _ rfl (by simp(disch:=omega)only[go_sem];try omega) (by simp(disch:=omega)only[go_sem])) ?_
  rintro k ⟨hk,hd⟩
  simp(disch:=omega)only[go_sem]
  refine qe (fun h2=>?_) (fun h2=>?_)
  ·obtain⟨i,rfl⟩:∃i,k=i+1:=⟨k-1,by omega⟩
   have ei:((i+1:Nat):Int)-1=(i:Nat):=by omega
   simp(disch:=omega)only[go_sem,h2,ei]
   refine qp rfl [⟨0,[],[]⟩,⟨1,[],[]⟩,⟨2,[],[]⟩,⟨3,[],[]⟩,⟨4,[3],[]⟩,⟨5,[3],[]⟩,⟨6,[3],[]⟩,⟨7,[3],[]⟩,⟨8,[],[]⟩] (by kernel_rfl) ?_
   simp(disch:=omega)only[go_sem,ei]
   refine⟨by omega,by omega,by omega,by omega,?_⟩
   refine zG (fun h3=>?_) (fun h3=>?_)
   ·simp(disch:=omega)only[go_sem,h3]
    refine qp rfl [⟨0,[],[]⟩,⟨1,[],[]⟩,⟨2,[],[]⟩,⟨3,[],[]⟩,⟨4,[3],[]⟩,⟨5,[3],[]⟩,⟨6,[3],[]⟩,⟨7,[3],[]⟩,⟨8,[],[]⟩,⟨9,[],[]⟩] (by kernel_rfl) ?_
    simp(disch:=omega)only[go_sem,ei]
    refine⟨by omega,by omega,by omega,by omega,?_⟩
    refine qi (aqL ((lim a).getD i 0) ((lim b).getD i 0)) ?_
    simp(disch:=omega)only[go_sem]
    have hva:=q6 a
    have hvb:=q6 b
    have:zf ((lim a).getD i 0) ((lim b).getD i 0)=zf a b:=by
     unfold zf
     rcases(by omega:(lim a).getD i 0<(lim b).getD i 0∨(lim b).getD i 0<(lim a).getD i 0)with h|h
     ·have:=Zf (q8 a) (q8 b) (by omega) hl hd h
      rw[if_pos (by omega),if_pos (by omega)]
     ·have:=Zf (q8 b) (q8 a) (by omega) hl.symm hd.symm h
      rw[if_neg (by omega),if_pos (by omega),if_neg (by omega),if_pos (by omega)]
    rw[this]
    exact qA
   ·simp(disch:=omega)only[go_sem,h3]
    refine qc i [] ⟨by omega,?_⟩ (by show i<i+1;omega) rfl (by simp(disch:=omega)only[go_sem];try omega) (by simp(disch:=omega)only[go_sem])
    rw[yp (l:=lim a) (by omega),yp (l:=lim b) (by omega),h3,hd]
  ·simp(disch:=omega)only[go_sem,h2]
   have:k=0:=by omega
   subst this
   rw[List.drop_zero,List.drop_zero]at hd
   have:=yj hd
   subst this
   rw[show zf (a:Int) (a:Int)=0 by simp[zf]]
   exact qA
end Go.Ab
namespace Go.Proofs
open Go.Shelf
def Tryz.lays29_ren:Go.Shelf.Ren:=⟨fun|29=>287|n=>n,fun|0=>0|3=>3|4=>4|5=>5|22=>254|25=>216|54=>262|n=>n,fun|1=>1|n=>n⟩
theorem Tryz.lays29:Go.Proofs.Lays7.n29 Tryz.prog Tryz.lays29_ren:={
 mixed:=by kernel_rfl
 f29:=Tryz.func287.trans (congrArg some (by kernel_rfl))
 t0:=Tryz.underlying0
 a0:=Tryz.isAgg0
 z0:=Tryz.sizeOf0
 v0:=Tryz.zeroValue0
 i0:=by kernel_rfl
 t3:=Tryz.underlying3
 a3:=Tryz.isAgg3
 z3:=Tryz.sizeOf3
 v3:=Tryz.zeroValue3
 i3:=by kernel_rfl
 t4:=Tryz.underlying4
 a4:=Tryz.isAgg4
 z4:=Tryz.sizeOf4
 v4:=Tryz.zeroValue4
 i4:=by kernel_rfl
 t5:=Tryz.underlying5
 a5:=Tryz.isAgg5
 z5:=Tryz.sizeOf5
 v5:=Tryz.zeroValue5
 i5:=by kernel_rfl
 t22:=Tryz.underlying254
 a22:=Tryz.isAgg254
 z22:=Tryz.sizeOf254
 v22:=Tryz.zeroValue254
 i22:=by kernel_rfl
 t25:=Tryz.underlying216
 a25:=Tryz.isAgg216
 z25:=Tryz.sizeOf216
 v25:=Tryz.zeroValue216
 i25:=by kernel_rfl
 t54:=Tryz.underlying262
 a54:=Tryz.isAgg262
 z54:=Tryz.sizeOf262
 g1:=by kernel_rfl}
def Tryz.lays129_ren:Go.Shelf.Ren:=⟨fun|129=>295|n=>n,fun|53=>254|46=>216|3=>3|4=>4|5=>5|9=>9|n=>n,fun|n=>n⟩
theorem Tryz.lays129:Go.Proofs.Lays.n129 Tryz.prog Tryz.lays129_ren:={
 mixed:=by kernel_rfl
 f129:=Tryz.func295.trans (congrArg some (by kernel_rfl))
 t3:=Tryz.underlying3
 a3:=Tryz.isAgg3
 z3:=Tryz.sizeOf3
 v3:=Tryz.zeroValue3
 t4:=Tryz.underlying4
 a4:=Tryz.isAgg4
 z4:=Tryz.sizeOf4
 v4:=Tryz.zeroValue4
 t5:=Tryz.underlying5
 a5:=Tryz.isAgg5
 z5:=Tryz.sizeOf5
 v5:=Tryz.zeroValue5
 t9:=Tryz.underlying9
 a9:=Tryz.isAgg9
 z9:=Tryz.sizeOf9
 v9:=Tryz.zeroValue9
 t46:=Tryz.underlying216
 a46:=Tryz.isAgg216
 z46:=Tryz.sizeOf216
 v46:=Tryz.zeroValue216
 t53:=Tryz.underlying254
 a53:=Tryz.isAgg254
 z53:=Tryz.sizeOf254
 v53:=Tryz.zeroValue254}
end Go.Proofs
namespace Go.Ab
open Go Go.Proofs
theorem aS1(x:Nat)(h0:x≠0)(h:x<2^64):Lib.ctz 64 x=tz x:=by
 unfold Lib.ctz
 rw[if_neg h0]
 obtain⟨m,hm,_⟩:=Lib.ctzFrom_spec 64 x (by omega) h
 exact(Zq hm).symm
theorem aq8(x:Nat)(h:x<2^64):Lib.bitLen x=bl x:=by
 induction x using Nat.strongRecOn with
 |_ x ih=>
  by_cases h0:x=0
  ·subst h0;rfl
  ·rw[Lib.bitLen_half x h0 h,ih (x/2) (by omega) (by omega),aTt h0,Nat.add_comm]
theorem aC1(x:Nat)(h0:x≠0)(h:x<2^64):Con Tryz.prog 287 true [.v (.int .u64 x)] [] (isA (.v (.int .i64 (tz x)))):=
 Con.scalar (xs:=[.int .u64 x]) fun w hg=>by
  rw[←aS1 x h0 h]
  exact Any7.bits_TrailingZeros64 Tryz.lays29 x h w fun _ j hj=>(hg 1 Lib.deBruijn64tab rfl).2 j hj
theorem aqv(x:Nat)(h:x<2^64):Con Tryz.prog 295 true [.v (.int .u64 x)] [] (isA (.v (.int .i64 (bl x)))):=
 Con.scalar (xs:=[.int .u64 x]) fun w hg=>by
  rw[←aq8 x h]
  exact Any.bits_Len64 Tryz.lays129 x w (by omega) (by omega)
theorem aS8(x:Nat)(h0:x≠0)(h:x<2^64):Con Tryz.prog 271 true [.v (.int .u64 x)] [] (isA (.v (.int .i64 (tz x)))):=by
 refine Con.of_w (rs:=[.tmp 2]) Tryz.func271 rfl Tryz.ntmps271 rfl ?_
 simp(disch:=omega)only[go_sem]
 refine qi (aC1 x h0 h) ?_
 simp(disch:=omega)only[go_sem]
 exact qA
theorem aqw(x:Nat)(h:x<2^64):Con Tryz.prog 283 true [.v (.int .u64 x)] [] (isA (.v (.int .i64 (bl x)))):=by
 refine Con.of_w (rs:=[.tmp 2]) Tryz.func283 rfl Tryz.ntmps283 rfl ?_
 simp(disch:=omega)only[go_sem]
 refine qi (aqv x h) ?_
 simp(disch:=omega)only[go_sem]
 exact qA
theorem akq{x:Int}(h1:0≤x)(h2:x<9223372036854775808):IntKind.u64.wrap x=x:=by
 simp only[IntKind.wrap,IntKind.signed,IntKind.bits]
 simp only[Bool.false_and,Bool.false_eq_true,if_false]
 omega
theorem Yf(m:Nat)(hl:(lim m).length≤2^40):Con Tryz.prog 267 true [.sl (lim (m)).length (qb (lim (m)))] [] (isA (.v (.int .i64 (bl m)))):=by
 refine Con.of_w (rs:=[.tmp 2]) Tryz.func267 rfl Tryz.ntmps267 rfl ?_
 simp(disch:=omega)only[go_sem]
 refine qe (fun h1=>?_) (fun h1=>?_)
 ·simp(disch:=omega)only[go_sem,h1]
  have:m=0:=qH.1 (List.length_eq_zero_iff.1 (by omega))
  subst this
  rw[Jr]
  exact qA
 ·have hm:m≠0:=fun e=>by rw[e,qm]at h1;simp at h1
  have e1:((lim m).length:Int).toNat-1=(lim m).length-1:=by omega
  have e2:(((lim m).length:Int)-1).toNat=(lim m).length-1:=by omega
  have ht:=YI hm
  have hb:=aFe hm
  simp(disch:=omega)only[go_sem,h1,e2,zT]
  generalize m/65536^((lim m).length-1)=q at*
  have e3:((q % 65536:Nat):Int)=(q:Int):=by omega
  simp(disch:=omega)only[go_sem,e3,akq]
  refine⟨by omega,by omega,?_⟩
  refine qi (aqw q (by omega)) ?_
  simp(disch:=omega)only[go_sem]
  have hq:bl q≤16:=zy.2 (by omega)
  have e4:(16:Int)*(((lim m).length:Int)-1)+(bl q:Int)=(bl m:Int):=by omega
  simp(disch:=omega)only[go_sem,e4]
  exact qA
theorem aFo{m i:Nat}(hz:∀j,j<i→(lim m).getD j 0=0)(hx:(lim m).getD i 0≠0):tz m=16*i+tz (m/65536^i % 65536):=by
 rw[zT]at hx
 have hx':m/65536^i % 65536≠0:=fun e=>hx (by rw[e];rfl)
 obtain⟨a,ha⟩:=aa1 hx'
 have hlow:65536^i*(m/65536^i)=m:=by
  have key:∀k,k≤i→m % 65536^k=0:=by
   intro k
   induction k with
   |zero=>intro _;simp[Nat.mod_one]
   |succ k ih=>
    intro hk
    have h1:=ih (by omega)
    have h2:=hz k (by omega)
    rw[zT]at h2
    have h3:m/65536^k % 65536=0:=by omega
    rw[Nat.pow_succ,Nat.mod_mul,h1,h3];omega
  have:=Nat.div_add_mod m (65536^i)
  rw[key i (Nat.le_refl _)]at this
  omega
 generalize hq:m/65536^i=q at*
 have ht:tz (q % 65536)<16:=by
  have h1:=y4 hx'
  have:bl (q % 65536)≤16:=zy.2 (by omega)
  omega
 generalize hk:tz (q % 65536)=k at*
 have e16:(65536:Nat)=2^k*(2*2^(15-k)):=by rw[Nat.mul_left_comm,←Nat.pow_add,show k+(15-k)=15 by omega]
 refine Zq (a:=a+2^(15-k)*(q/65536)) ?_
 have hd:=Nat.div_add_mod q 65536
 rw[←hlow,Nat.pow_add,←ZK]
 have h5:q=2^k*(2*(a+2^(15-k)*(q/65536))+1):=by
  have:q=2^k*(2*2^(15-k))*(q/65536)+2^k*(2*a+1):=by rw[←e16,←ha];omega
  generalize q/65536=y at*
  generalize 2^(15-k)=z at*
  grind
 generalize q/65536=y at*
 rw[Nat.mul_assoc,←h5]
theorem aea(m:Nat)(hl:(lim m).length≤2^40):Con Tryz.prog 234 true [.sl (lim (m)).length (qb (lim (m)))] [] (isA (.v (.int .i64 (tz m)))):=by
 refine Con.of_w (rs:=[.tmp 2]) Tryz.func234 rfl Tryz.ntmps234 rfl ?_
 simp(disch:=omega)only[go_sem]
 refine qj (fun i:Nat=>[(0,.sl (lim (m)).length (qb (lim (m)))),(5,.sl (lim (m)).length (qb (lim (m)))),(6,.v (.int .i64 (lim m).length)),(7,.v (.int .i64 i))])
  (fun _=>[]) (fun i=>i≤(lim m).length∧∀j,j<i→(lim m).getD j 0=0) (fun i=>(lim m).length-i) 0 ⟨by omega,fun j hj=>by omega⟩ (Le.lst [] _ _ rfl (by simp(disch:=omega)only[go_sem];try omega) (by simp(disch:=omega)only[go_sem])) ?_
 rintro i ⟨hi,hz⟩
 simp(disch:=omega)only[go_sem]
 refine qe (fun h1=>?_) (fun h1=>?_)
 ·simp(disch:=omega)only[go_sem,h1]
  refine⟨by omega,by omega,zG (fun h2=>?_) (fun h2=>?_)⟩
  ·have ht:=aFo hz h2
   have hx:m/65536^i % 65536≠0:=fun e=>h2 (by rw[zT,e];rfl)
   have ht16:tz (m/65536^i % 65536)<16:=by
    have h1:=y4 hx
    have:bl (m/65536^i % 65536)≤16:=zy.2 (by omega)
    omega
   simp(disch:=omega)only[go_sem,h2,zT]
   generalize hq:m/65536^i % 65536=q at*
   have hq6:q<65536:=by omega
   simp(disch:=omega)only[go_sem,akq]
   refine qi (aS8 q hx (by omega)) ?_
   simp(disch:=omega)only[go_sem]
   have e4:(16:Int)*(i:Int)+(tz q:Int)=(tz m:Int):=by omega
   simp(disch:=omega)only[go_sem,e4]
   exact qA
  ·simp(disch:=omega)only[go_sem,h2]
   refine qc (i+1) [] ⟨by omega,fun j hj=>?_⟩ (by show(lim m).length-(i+1)<(lim m).length-i;omega) rfl (by simp(disch:=omega)only[go_sem];try omega) (by simp(disch:=omega)only[go_sem])
   rcases(by omega:j<i∨j=i)with h|h
   ·exact hz j h
   ·subst h;exact h2
 ·simp(disch:=omega)only[go_sem,h1]
  have hm:m=0:=by
   have:=q6 m
   have h3:lim m=List.replicate (lim m).length 0:=by
    apply List.ext_getElem
    ·simp
    ·intro j h1 h2
     have:=hz j (by omega)
     rw[List.getD_eq_getElem?_getD,List.getElem?_eq_getElem h1]at this
     simpa using this
   rw[h3,zP]at this
   omega
  subst hm
  rw[akw]
  exact qA
theorem Jj(m:Nat)(i:Int)(hl:(lim m).length≤2^40)(hi:0≤i)(hi2:i<2^62):Con Tryz.prog 175 true [.sl (lim (m)).length (qb (lim (m))),.v (.int .i64 i)] [] (isA (.v (.int .i64 ((m/2^i.toNat % 2:Nat):Int)))):=by
 refine Con.of_w (rs:=[.tmp 4]) Tryz.func175 rfl Tryz.ntmps175 rfl ?_
 obtain⟨k,rfl⟩:=Int.eq_ofNat_of_zero_le hi
 rw[Int.toNat_natCast]
 have h0:¬((k:Int)<0):=by omega
 have e16:((k:Int)/16).toNat=k/16:=by omega
 have em:min ((k:Int) % 16).toNat 64=k % 16:=by omega
 have hb:=aq7 m k
 simp(disch:=omega)only[go_sem,h0]
 refine qe (fun h1=>?_) (fun h1=>?_)
 ·simp(disch:=omega)only[go_sem,h1]
  have:m/2^k % 2=0:=by
   rw[←hb]
   have h2:=zT m (k/16)
   rw[List.getD_eq_getElem?_getD,List.getElem?_eq_none (by omega)]at h2
   have h3:m/65536^(k/16) % 65536=0:=by simp only[Option.getD_none]at h2;omega
   rw[h3];simp
  rw[this]
  exact qA
 ·have hx:=qJ (q8 m) (k/16)
  have hp:(0:Int)<2^(k % 16):=Int.pow_pos (by omega)
  have efd:∀x:Int,x.fdiv (2^(k % 16))=x/2^(k % 16):=fun x=>Int.fdiv_eq_ediv_of_nonneg _ (Int.le_of_lt hp)
  have hq:0≤(lim m).getD (k/16) 0/2^(k % 16)∧(lim m).getD (k/16) 0/2^(k % 16)<65536:=by
   refine⟨Int.ediv_nonneg hx.1 (Int.le_of_lt hp),Int.lt_of_le_of_lt (Int.ediv_le_self _ hx.1) hx.2⟩
  have hr:(lim m).getD (k/16) 0/2^(k % 16) % 2=((m/2^k % 2:Nat):Int):=by
   rw[←hb,zT]
   generalize m/65536^(k/16) % 65536=x
   rw[Int.natCast_emod,Int.natCast_ediv,Int.natCast_pow];rfl
  simp(disch:=omega)only[go_sem,h1,e16,em,efd,hr]
  refine⟨by omega,by omega,by omega,?_⟩
  exact qA
end Go.Ab
namespace Go.Ab
open Go Go.Proofs
theorem aa3(a k:Nat):(vl (lim a)*2^k).toNat=a*2^k:=by
 rw[q6]
 have:((a:Int)*2^k)=((a*2^k:Nat):Int):=by rw[Int.natCast_mul,Int.natCast_pow];rfl
 rw[this,Int.toNat_natCast]
theorem aa4(a k:Nat):(vl (lim a)/2^k).toNat=a/2^k:=by
 rw[q6]
 have:((a:Int)/2^k)=((a/2^k:Nat):Int):=by rw[Int.natCast_ediv,Int.natCast_pow];rfl
 rw[this,Int.toNat_natCast]
theorem aFs(a b:Nat):(vl (lim a)*vl (lim b)).toNat=a*b:=by rw[q6,q6,←Int.natCast_mul,Int.toNat_natCast]
theorem aFt(a b:Nat):(vl (lim a)+vl (lim b)).toNat=a+b:=by rw[q6,q6];omega
theorem aFr(a b:Nat):(vl (lim a)-vl (lim b)).toNat=a-b:=by rw[q6,q6];omega
theorem zb(n:Nat)(hn:n<2^63):Con Tryz.prog 216 false [.v (.int .i64 n)] [] (aER (lim n)):=(aqn false n hn).num
theorem aqj(cl:Bool)(a k:Nat)(la:(lim a).length≤1000000)(hk:k≤100000000):Con Tryz.prog 244 cl [.sl (lim (a)).length (qb (lim (a))),.v (.int .i64 k)] [] (arz (lim (a*2^k))):=by
 have:=aS7 cl (lim a) k (q8 a) la hk
 rwa[aa3]at this
theorem zg(a k:Nat)(la:(lim a).length≤1000000)(hk:k≤100000000):Con Tryz.prog 244 false [.sl (lim (a)).length (qb (lim (a))),.v (.int .i64 k)] [] (aER (lim (a*2^k))):=(aqj false a k la hk).num
theorem aaJ(cl:Bool)(a k:Nat)(la:(lim a).length≤1000000)(hk:k≤100000000):Con Tryz.prog 235 cl [.sl (lim (a)).length (qb (lim (a))),.v (.int .i64 k)] [] (arz (lim (a/2^k))):=by
 have:=aDb cl (lim a) k (q8 a) la hk
 rwa[aa4]at this
theorem Jh(a k:Nat)(la:(lim a).length≤1000000)(hk:k≤100000000):Con Tryz.prog 235 false [.sl (lim (a)).length (qb (lim (a))),.v (.int .i64 k)] [] (aER (lim (a/2^k))):=(aaJ false a k la hk).num
theorem yG(a b:Nat)(la:(lim a).length≤1000000)(lb:(lim b).length≤1000000):Con Tryz.prog 201 false [.sl (lim (a)).length (qb (lim (a))),.sl (lim (b)).length (qb (lim (b)))] [] (aER (lim (a*b))):=by
 have:=(aqk false (lim a) (lim b) (q8 a) (q8 b) la lb).num
 rwa[aFs]at this
theorem yr(a b:Nat)(la:(lim a).length≤2000000)(lb:(lim b).length≤2000000):Con Tryz.prog 249 false [.sl (lim (a)).length (qb (lim (a))),.sl (lim (b)).length (qb (lim (b)))] [] (aER (lim (a+b))):=by
 have:=(aC2 false (lim a) (lim b) (q8 a) (q8 b) la lb).num
 rwa[aFt]at this
theorem aqK(a d:Nat)(la:(lim a).length≤1000000)(hd:0<d)(hd2:d<65536):
  Con Tryz.prog 288 false [.sl (lim (a)).length (qb (lim (a))),.v (.int .i64 d)] [] (isA (.tu [.sl (lim (a/d)).length (qb (lim (a/d))),.v (.int .i64 ((a % d:Nat):Int))])):=
 Con.frzA <| (aDc false (lim a) d (q8 a) la hd hd2).mono fun r hs bs ⟨zs,h1,h2⟩=>by
  rw[q6]at h1 h2
  rw[h1,h2]
  have e:((a:Int)/(d:Int)).toNat=a/d:=by
   rw[←Int.natCast_ediv,Int.toNat_natCast]
  rw[e]
  show qF _ 6 _=_
  unfold qF
  simp only[List.map_cons,List.map_nil]
  rw[jT (k:=3) (l:=lim (a/d)) (zs:=zs) zl rfl]
  rw[Int.natCast_emod];rfl
end Go.Ab
