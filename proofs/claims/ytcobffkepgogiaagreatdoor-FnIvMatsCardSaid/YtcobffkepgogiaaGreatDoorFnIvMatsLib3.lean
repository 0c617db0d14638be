/- What the proof of this claim stands on: the walks of the functions and the plain laws, part 3. -/
import Derived.Test.YtcobffkepgogiaaGreatDoorFnIvMatsLib2
import Derived.Test.YtcobffkepgogiaaGreatDoorProg
import Derived.KernelRfl
import Derived.Shelf.Spec.TrailingZeros
import Derived.Shelf.Small.Bits
import Derived.Shelf.Strconv.Itoa0
set_option linter.unusedVariables false
set_option linter.unusedSimpArgs false
namespace Go.Ab
open Go Go.Proofs
def ti1:TI:=⟨Kd.oth,1,8,Value.nilFunc⟩
theorem tf1:qn Tryz.prog 1=some ti1:=by kernel_rfl
def ti2:TI:=⟨Kd.int IntKind.i64,1,8,Value.int IntKind.i64 0⟩
theorem tf2:qn Tryz.prog 2=some ti2:=by kernel_rfl
def ti3:TI:=⟨Kd.int IntKind.i64,1,8,Value.int IntKind.i64 0⟩
theorem tf3:qn Tryz.prog 3=some ti3:=by kernel_rfl
def ti4:TI:=⟨Kd.bool,1,1,Value.bool false⟩
theorem tf4:qn Tryz.prog 4=some ti4:=by kernel_rfl
def ti5:TI:=⟨Kd.int IntKind.u8,1,1,Value.int IntKind.u8 0⟩
theorem tf5:qn Tryz.prog 5=some ti5:=by kernel_rfl
def ti6:TI:=⟨Kd.int IntKind.u8,1,1,Value.int IntKind.u8 0⟩
theorem tf6:qn Tryz.prog 6=some ti6:=by kernel_rfl
def ti7:TI:=⟨Kd.stru [(0,2),(1,3),(2,4),(3,6)],4,24,Value.agg ⟨[Value.int IntKind.i64 0,Value.int IntKind.i64 0,Value.bool false,Value.int IntKind.u8 0]⟩⟩
theorem tf7:qn Tryz.prog 7=some ti7:=by kernel_rfl
def ti8:TI:=⟨Kd.stru [(0,2),(1,3),(2,4),(3,6)],4,24,Value.agg ⟨[Value.int IntKind.i64 0,Value.int IntKind.i64 0,Value.bool false,Value.int IntKind.u8 0]⟩⟩
theorem tf8:qn Tryz.prog 8=some ti8:=by kernel_rfl
def ti9:TI:=⟨Kd.str,1,16,Value.string {data:=⟨[]⟩}⟩
theorem tf9:qn Tryz.prog 9=some ti9:=by kernel_rfl
def aE7:TI:=⟨Kd.str,1,16,Value.string {data:=⟨[]⟩}⟩
theorem bec:qn Tryz.prog 10=some aE7:=by kernel_rfl
def aE6:TI:=⟨Kd.str,1,16,Value.string {data:=⟨[]⟩}⟩
theorem beb:qn Tryz.prog 11=some aE6:=by kernel_rfl
def aE5:TI:=⟨Kd.int IntKind.u64,1,8,Value.int IntKind.u64 0⟩
theorem bea:qn Tryz.prog 12=some aE5:=by kernel_rfl
def aE4:TI:=⟨Kd.int IntKind.i32,1,4,Value.int IntKind.i32 0⟩
theorem bd9:qn Tryz.prog 21=some aE4:=by kernel_rfl
def aeW:TI:=⟨Kd.sli 5,1,24,Value.slice none 0 0⟩
theorem aFa:qn Tryz.prog 22=some aeW:=by kernel_rfl
def aeV:TI:=⟨Kd.sli 40,1,24,Value.slice none 0 0⟩
theorem aE9:qn Tryz.prog 23=some aeV:=by kernel_rfl
def amr:TI:=⟨Kd.stru [(0,3),(1,23)],2,32,Value.agg ⟨[Value.int IntKind.i64 0,Value.slice none 0 0]⟩⟩
theorem aUs:qn Tryz.prog 24=some amr:=by kernel_rfl
def amh:TI:=⟨Kd.stru [(0,3),(1,23)],2,32,Value.agg ⟨[Value.int IntKind.i64 0,Value.slice none 0 0]⟩⟩
theorem aUr:qn Tryz.prog 25=some amh:=by kernel_rfl
def aE3:TI:=⟨Kd.oth,1,8,Value.nilFunc⟩
theorem bd8:qn Tryz.prog 27=some aE3:=by kernel_rfl
def aE2:TI:=⟨Kd.oth,1,8,Value.nilFunc⟩
theorem bd7:qn Tryz.prog 29=some aE2:=by kernel_rfl
def aE1:TI:=⟨Kd.oth,1,8,Value.nilFunc⟩
theorem bd6:qn Tryz.prog 30=some aE1:=by kernel_rfl
def aE0:TI:=⟨Kd.oth,1,8,Value.nilFunc⟩
theorem bd5:qn Tryz.prog 31=some aE0:=by kernel_rfl
def aEZ:TI:=⟨Kd.oth,1,8,Value.nilFunc⟩
theorem bd2:qn Tryz.prog 32=some aEZ:=by kernel_rfl
def aEY:TI:=⟨Kd.oth,1,8,Value.nilFunc⟩
theorem bd1:qn Tryz.prog 33=some aEY:=by kernel_rfl
def JK:TI:=⟨Kd.sli 3,1,24,Value.slice none 0 0⟩
theorem aeX:qn Tryz.prog 34=some JK:=by kernel_rfl
def ar2:TI:=⟨Kd.stru [(0,34)],1,24,Value.agg ⟨[Value.slice none 0 0]⟩⟩
theorem aW3:qn Tryz.prog 35=some ar2:=by kernel_rfl
def aaZ:TI:=⟨Kd.stru [(0,34)],1,24,Value.agg ⟨[Value.slice none 0 0]⟩⟩
theorem aBc:qn Tryz.prog 36=some aaZ:=by kernel_rfl
def alM:TI:=⟨Kd.stru [(0,4),(1,36)],2,32,Value.agg ⟨[Value.bool false,Value.slice none 0 0]⟩⟩
theorem aUq:qn Tryz.prog 37=some alM:=by kernel_rfl
def Xq:TI:=⟨Kd.stru [(0,4),(1,36)],2,32,Value.agg ⟨[Value.bool false,Value.slice none 0 0]⟩⟩
theorem ar3:qn Tryz.prog 38=some Xq:=by kernel_rfl
def alJ:TI:=⟨Kd.stru [(0,38),(2,3)],3,40,Value.agg ⟨[Value.bool false,Value.slice none 0 0,Value.int IntKind.i64 0]⟩⟩
theorem aUp:qn Tryz.prog 39=some alJ:=by kernel_rfl
def Zv:TI:=⟨Kd.stru [(0,38),(2,3)],3,40,Value.agg ⟨[Value.bool false,Value.slice none 0 0,Value.int IntKind.i64 0]⟩⟩
theorem KO:qn Tryz.prog 40=some Zv:=by kernel_rfl
def aEX:TI:=⟨Kd.oth,1,8,Value.nilFunc⟩
theorem bd0:qn Tryz.prog 41=some aEX:=by kernel_rfl
def aEW:TI:=⟨Kd.oth,1,8,Value.nilFunc⟩
theorem bdZ:qn Tryz.prog 42=some aEW:=by kernel_rfl
def aEV:TI:=⟨Kd.oth,1,8,Value.nilFunc⟩
theorem bdY:qn Tryz.prog 44=some aEV:=by kernel_rfl
def aEU:TI:=⟨Kd.oth,1,8,Value.nilFunc⟩
theorem bdX:qn Tryz.prog 46=some aEU:=by kernel_rfl
def aET:TI:=⟨Kd.oth,1,8,Value.nilFunc⟩
theorem bdW:qn Tryz.prog 47=some aET:=by kernel_rfl
def aES:TI:=⟨Kd.oth,1,8,Value.nilFunc⟩
theorem bdV:qn Tryz.prog 48=some aES:=by kernel_rfl
def aER:TI:=⟨Kd.oth,1,8,Value.nilFunc⟩
theorem bdU:qn Tryz.prog 49=some aER:=by kernel_rfl
def alu:TI:=⟨Kd.stru [(0,40),(3,40)],6,80,Value.agg ⟨[Value.bool false,Value.slice none 0 0,Value.int IntKind.i64 0,Value.bool false,Value.slice none 0 0,Value.int IntKind.i64 0]⟩⟩
theorem aUo:qn Tryz.prog 50=some alu:=by kernel_rfl
def akw:TI:=⟨Kd.stru [(0,40),(3,40)],6,80,Value.agg ⟨[Value.bool false,Value.slice none 0 0,Value.int IntKind.i64 0,Value.bool false,Value.slice none 0 0,Value.int IntKind.i64 0]⟩⟩
theorem aN6:qn Tryz.prog 51=some akw:=by kernel_rfl
def aEQ:TI:=⟨Kd.oth,1,8,Value.nilFunc⟩
theorem bdT:qn Tryz.prog 53=some aEQ:=by kernel_rfl
def aEP:TI:=⟨Kd.oth,1,8,Value.nilFunc⟩
theorem bdS:qn Tryz.prog 55=some aEP:=by kernel_rfl
def aEO:TI:=⟨Kd.oth,1,8,Value.nilFunc⟩
theorem bdR:qn Tryz.prog 56=some aEO:=by kernel_rfl
def aEN:TI:=⟨Kd.oth,1,8,Value.nilFunc⟩
theorem bdQ:qn Tryz.prog 57=some aEN:=by kernel_rfl
def aEM:TI:=⟨Kd.oth,1,8,Value.nilFunc⟩
theorem bdP:qn Tryz.prog 58=some aEM:=by kernel_rfl
def aEL:TI:=⟨Kd.oth,1,8,Value.nilFunc⟩
theorem bdO:qn Tryz.prog 60=some aEL:=by kernel_rfl
def aEK:TI:=⟨Kd.oth,1,8,Value.nilFunc⟩
theorem bdN:qn Tryz.prog 61=some aEK:=by kernel_rfl
def aEJ:TI:=⟨Kd.oth,1,8,Value.nilFunc⟩
theorem bdM:qn Tryz.prog 62=some aEJ:=by kernel_rfl
def aEI:TI:=⟨Kd.oth,1,8,Value.nilFunc⟩
theorem bdL:qn Tryz.prog 63=some aEI:=by kernel_rfl
def aEH:TI:=⟨Kd.oth,1,8,Value.nilFunc⟩
theorem bdK:qn Tryz.prog 64=some aEH:=by kernel_rfl
def aEG:TI:=⟨Kd.oth,1,8,Value.nilFunc⟩
theorem bdJ:qn Tryz.prog 65=some aEG:=by kernel_rfl
def aEF:TI:=⟨Kd.oth,1,8,Value.nilFunc⟩
theorem bdI:qn Tryz.prog 66=some aEF:=by kernel_rfl
def aEE:TI:=⟨Kd.oth,1,8,Value.nilFunc⟩
theorem bdH:qn Tryz.prog 68=some aEE:=by kernel_rfl
def aeU:TI:=⟨Kd.sli 51,1,24,Value.slice none 0 0⟩
theorem aE8:qn Tryz.prog 69=some aeU:=by kernel_rfl
def aED:TI:=⟨Kd.oth,1,8,Value.nilFunc⟩
theorem bdG:qn Tryz.prog 71=some aED:=by kernel_rfl
def aEC:TI:=⟨Kd.oth,1,8,Value.nilFunc⟩
theorem bdF:qn Tryz.prog 73=some aEC:=by kernel_rfl
def aEB:TI:=⟨Kd.oth,1,8,Value.nilFunc⟩
theorem bdE:qn Tryz.prog 74=some aEB:=by kernel_rfl
def aEA:TI:=⟨Kd.oth,1,8,Value.nilFunc⟩
theorem bdD:qn Tryz.prog 75=some aEA:=by kernel_rfl
def aEz:TI:=⟨Kd.oth,1,8,Value.nilFunc⟩
theorem bdC:qn Tryz.prog 77=some aEz:=by kernel_rfl
def aEy:TI:=⟨Kd.oth,1,8,Value.nilFunc⟩
theorem bdB:qn Tryz.prog 79=some aEy:=by kernel_rfl
def aEx:TI:=⟨Kd.oth,1,8,Value.nilFunc⟩
theorem bdA:qn Tryz.prog 80=some aEx:=by kernel_rfl
def ak2:TI:=⟨Kd.stru [(0,3),(1,69)],2,32,Value.agg ⟨[Value.int IntKind.i64 0,Value.slice none 0 0]⟩⟩
theorem aUn:qn Tryz.prog 81=some ak2:=by kernel_rfl
def ak0:TI:=⟨Kd.stru [(0,3),(1,69)],2,32,Value.agg ⟨[Value.int IntKind.i64 0,Value.slice none 0 0]⟩⟩
theorem aUm:qn Tryz.prog 82=some ak0:=by kernel_rfl
def aEw:TI:=⟨Kd.oth,1,8,Value.nilFunc⟩
theorem bdz:qn Tryz.prog 84=some aEw:=by kernel_rfl
def aEv:TI:=⟨Kd.oth,1,8,Value.nilFunc⟩
theorem bdy:qn Tryz.prog 86=some aEv:=by kernel_rfl
def aEu:TI:=⟨Kd.oth,1,8,Value.nilFunc⟩
theorem bdx:qn Tryz.prog 87=some aEu:=by kernel_rfl
def aEt:TI:=⟨Kd.oth,1,8,Value.nilFunc⟩
theorem bdw:qn Tryz.prog 88=some aEt:=by kernel_rfl
def aEs:TI:=⟨Kd.oth,1,8,Value.nilFunc⟩
theorem bdv:qn Tryz.prog 89=some aEs:=by kernel_rfl
def aEr:TI:=⟨Kd.oth,1,8,Value.nilFunc⟩
theorem bdu:qn Tryz.prog 91=some aEr:=by kernel_rfl
def aEq:TI:=⟨Kd.oth,1,8,Value.nilFunc⟩
theorem bdt:qn Tryz.prog 92=some aEq:=by kernel_rfl
def aEp:TI:=⟨Kd.oth,1,8,Value.nilFunc⟩
theorem bds:qn Tryz.prog 93=some aEp:=by kernel_rfl
def aEo:TI:=⟨Kd.oth,1,8,Value.nilFunc⟩
theorem bdr:qn Tryz.prog 94=some aEo:=by kernel_rfl
def aEn:TI:=⟨Kd.oth,1,8,Value.nilFunc⟩
theorem bdq:qn Tryz.prog 96=some aEn:=by kernel_rfl
def aEm:TI:=⟨Kd.oth,1,8,Value.nilFunc⟩
theorem bdp:qn Tryz.prog 97=some aEm:=by kernel_rfl
def aEl:TI:=⟨Kd.oth,1,8,Value.nilFunc⟩
theorem bdo:qn Tryz.prog 98=some aEl:=by kernel_rfl
def aEk:TI:=⟨Kd.oth,1,8,Value.nilFunc⟩
theorem bdn:qn Tryz.prog 99=some aEk:=by kernel_rfl
def KL:TI:=⟨Kd.oth,1,8,Value.nilFunc⟩
theorem aZm:qn Tryz.prog 100=some KL:=by kernel_rfl
def KK:TI:=⟨Kd.oth,1,8,Value.nilFunc⟩
theorem aZl:qn Tryz.prog 101=some KK:=by kernel_rfl
def KJ:TI:=⟨Kd.oth,1,8,Value.nilFunc⟩
theorem aZk:qn Tryz.prog 102=some KJ:=by kernel_rfl
def KI:TI:=⟨Kd.oth,1,8,Value.nilFunc⟩
theorem aZj:qn Tryz.prog 103=some KI:=by kernel_rfl
def KH:TI:=⟨Kd.oth,1,8,Value.nilFunc⟩
theorem aZi:qn Tryz.prog 105=some KH:=by kernel_rfl
def KG:TI:=⟨Kd.oth,1,8,Value.nilFunc⟩
theorem aZh:qn Tryz.prog 106=some KG:=by kernel_rfl
def KF:TI:=⟨Kd.oth,1,8,Value.nilFunc⟩
theorem aZg:qn Tryz.prog 107=some KF:=by kernel_rfl
def KE:TI:=⟨Kd.oth,1,8,Value.nilFunc⟩
theorem aZf:qn Tryz.prog 108=some KE:=by kernel_rfl
def KD:TI:=⟨Kd.oth,1,8,Value.nilFunc⟩
theorem aZe:qn Tryz.prog 109=some KD:=by kernel_rfl
def KC:TI:=⟨Kd.oth,1,8,Value.nilFunc⟩
theorem aZd:qn Tryz.prog 110=some KC:=by kernel_rfl
def y5:TI:=⟨Kd.sli 118,1,24,Value.slice none 0 0⟩
theorem Yr:qn Tryz.prog 111=some y5:=by kernel_rfl
def ZI:TI:=⟨Kd.stru [(0,3),(1,111)],2,32,Value.agg ⟨[Value.int IntKind.i64 0,Value.slice none 0 0]⟩⟩
theorem aBh:qn Tryz.prog 112=some ZI:=by kernel_rfl
def ZH:TI:=⟨Kd.stru [(0,3),(1,111)],2,32,Value.agg ⟨[Value.int IntKind.i64 0,Value.slice none 0 0]⟩⟩
theorem aBg:qn Tryz.prog 113=some ZH:=by kernel_rfl
def KB:TI:=⟨Kd.oth,1,8,Value.nilFunc⟩
theorem aZc:qn Tryz.prog 114=some KB:=by kernel_rfl
def KA:TI:=⟨Kd.oth,1,8,Value.nilFunc⟩
theorem aZb:qn Tryz.prog 115=some KA:=by kernel_rfl
def Kz:TI:=⟨Kd.oth,1,8,Value.nilFunc⟩
theorem aZa:qn Tryz.prog 116=some Kz:=by kernel_rfl
def Zl:TI:=⟨Kd.stru [(0,4),(1,34),(2,3)],3,40,Value.agg ⟨[Value.bool false,Value.slice none 0 0,Value.int IntKind.i64 0]⟩⟩
theorem aoL:qn Tryz.prog 117=some Zl:=by kernel_rfl
def ji:TI:=⟨Kd.stru [(0,4),(1,34),(2,3)],3,40,Value.agg ⟨[Value.bool false,Value.slice none 0 0,Value.int IntKind.i64 0]⟩⟩
theorem yl:qn Tryz.prog 118=some ji:=by kernel_rfl
def Ky:TI:=⟨Kd.oth,1,8,Value.nilFunc⟩
theorem aY9:qn Tryz.prog 119=some Ky:=by kernel_rfl
def Kx:TI:=⟨Kd.oth,1,8,Value.nilFunc⟩
theorem aY8:qn Tryz.prog 120=some Kx:=by kernel_rfl
def Kw:TI:=⟨Kd.oth,1,8,Value.nilFunc⟩
theorem aY7:qn Tryz.prog 121=some Kw:=by kernel_rfl
def Kv:TI:=⟨Kd.oth,1,8,Value.nilFunc⟩
theorem aY6:qn Tryz.prog 122=some Kv:=by kernel_rfl
def Ku:TI:=⟨Kd.oth,1,8,Value.nilFunc⟩
theorem aY5:qn Tryz.prog 123=some Ku:=by kernel_rfl
def Kt:TI:=⟨Kd.oth,1,8,Value.nilFunc⟩
theorem aY4:qn Tryz.prog 124=some Kt:=by kernel_rfl
def Ks:TI:=⟨Kd.oth,1,8,Value.nilFunc⟩
theorem aY3:qn Tryz.prog 125=some Ks:=by kernel_rfl
def Kr:TI:=⟨Kd.oth,1,8,Value.nilFunc⟩
theorem aY2:qn Tryz.prog 126=some Kr:=by kernel_rfl
def Kq:TI:=⟨Kd.oth,1,8,Value.nilFunc⟩
theorem aY1:qn Tryz.prog 127=some Kq:=by kernel_rfl
def Kp:TI:=⟨Kd.oth,1,8,Value.nilFunc⟩
theorem aY0:qn Tryz.prog 128=some Kp:=by kernel_rfl
def Ko:TI:=⟨Kd.oth,1,8,Value.nilFunc⟩
theorem aYZ:qn Tryz.prog 129=some Ko:=by kernel_rfl
def Kn:TI:=⟨Kd.oth,1,8,Value.nilFunc⟩
theorem aYY:qn Tryz.prog 130=some Kn:=by kernel_rfl
def Km:TI:=⟨Kd.oth,1,8,Value.nilFunc⟩
theorem aYX:qn Tryz.prog 131=some Km:=by kernel_rfl
def ZG:TI:=⟨Kd.stru [(0,118),(3,118)],6,80,Value.agg ⟨[Value.bool false,Value.slice none 0 0,Value.int IntKind.i64 0,Value.bool false,Value.slice none 0 0,Value.int IntKind.i64 0]⟩⟩
theorem aBf:qn Tryz.prog 132=some ZG:=by kernel_rfl
def Zk:TI:=⟨Kd.stru [(0,118),(3,118)],6,80,Value.agg ⟨[Value.bool false,Value.slice none 0 0,Value.int IntKind.i64 0,Value.bool false,Value.slice none 0 0,Value.int IntKind.i64 0]⟩⟩
theorem aoK:qn Tryz.prog 133=some Zk:=by kernel_rfl
def Kl:TI:=⟨Kd.oth,1,8,Value.nilFunc⟩
theorem aYW:qn Tryz.prog 134=some Kl:=by kernel_rfl
def Kk:TI:=⟨Kd.oth,1,8,Value.nilFunc⟩
theorem aYV:qn Tryz.prog 135=some Kk:=by kernel_rfl
def Kj:TI:=⟨Kd.oth,1,8,Value.nilFunc⟩
theorem aYU:qn Tryz.prog 136=some Kj:=by kernel_rfl
def Ki:TI:=⟨Kd.oth,1,8,Value.nilFunc⟩
theorem aYT:qn Tryz.prog 137=some Ki:=by kernel_rfl
def Kh:TI:=⟨Kd.oth,1,8,Value.nilFunc⟩
theorem aYS:qn Tryz.prog 138=some Kh:=by kernel_rfl
def Kg:TI:=⟨Kd.oth,1,8,Value.nilFunc⟩
theorem aYR:qn Tryz.prog 139=some Kg:=by kernel_rfl
def Kf:TI:=⟨Kd.oth,1,8,Value.nilFunc⟩
theorem aYQ:qn Tryz.prog 140=some Kf:=by kernel_rfl
def Ke:TI:=⟨Kd.oth,1,8,Value.nilFunc⟩
theorem aYP:qn Tryz.prog 142=some Ke:=by kernel_rfl
def Kc:TI:=⟨Kd.oth,1,8,Value.nilFunc⟩
theorem aYO:qn Tryz.prog 143=some Kc:=by kernel_rfl
def Kb:TI:=⟨Kd.oth,1,8,Value.nilFunc⟩
theorem aYN:qn Tryz.prog 144=some Kb:=by kernel_rfl
def Ka:TI:=⟨Kd.oth,1,8,Value.nilFunc⟩
theorem aYM:qn Tryz.prog 145=some Ka:=by kernel_rfl
def V9:TI:=⟨Kd.oth,1,8,Value.nilFunc⟩
theorem aYL:qn Tryz.prog 146=some V9:=by kernel_rfl
def V8:TI:=⟨Kd.oth,1,8,Value.nilFunc⟩
theorem aYK:qn Tryz.prog 147=some V8:=by kernel_rfl
def V7:TI:=⟨Kd.oth,1,8,Value.nilFunc⟩
theorem aYJ:qn Tryz.prog 148=some V7:=by kernel_rfl
def V6:TI:=⟨Kd.oth,1,8,Value.nilFunc⟩
theorem aYI:qn Tryz.prog 149=some V6:=by kernel_rfl
def V5:TI:=⟨Kd.oth,1,8,Value.nilFunc⟩
theorem aYH:qn Tryz.prog 151=some V5:=by kernel_rfl
def V4:TI:=⟨Kd.oth,1,8,Value.nilFunc⟩
theorem aYG:qn Tryz.prog 152=some V4:=by kernel_rfl
def Qk:TI:=⟨Kd.sli 133,1,24,Value.slice none 0 0⟩
theorem KP:qn Tryz.prog 153=some Qk:=by kernel_rfl
def ZF:TI:=⟨Kd.stru [(0,3),(1,153)],2,32,Value.agg ⟨[Value.int IntKind.i64 0,Value.slice none 0 0]⟩⟩
theorem aBe:qn Tryz.prog 154=some ZF:=by kernel_rfl
def ZE:TI:=⟨Kd.stru [(0,3),(1,153)],2,32,Value.agg ⟨[Value.int IntKind.i64 0,Value.slice none 0 0]⟩⟩
theorem aBd:qn Tryz.prog 155=some ZE:=by kernel_rfl
def V3:TI:=⟨Kd.oth,1,8,Value.nilFunc⟩
theorem aYF:qn Tryz.prog 156=some V3:=by kernel_rfl
def V2:TI:=⟨Kd.oth,1,8,Value.nilFunc⟩
theorem aYE:qn Tryz.prog 157=some V2:=by kernel_rfl
def V1:TI:=⟨Kd.oth,1,8,Value.nilFunc⟩
theorem aYD:qn Tryz.prog 158=some V1:=by kernel_rfl
def V0:TI:=⟨Kd.oth,1,8,Value.nilFunc⟩
theorem aYC:qn Tryz.prog 159=some V0:=by kernel_rfl
def VZ:TI:=⟨Kd.oth,1,8,Value.nilFunc⟩
theorem aYB:qn Tryz.prog 160=some VZ:=by kernel_rfl
def VY:TI:=⟨Kd.oth,1,8,Value.nilFunc⟩
theorem aYA:qn Tryz.prog 161=some VY:=by kernel_rfl
def VX:TI:=⟨Kd.oth,1,8,Value.nilFunc⟩
theorem aYz:qn Tryz.prog 163=some VX:=by kernel_rfl
def VW:TI:=⟨Kd.oth,1,8,Value.nilFunc⟩
theorem aYy:qn Tryz.prog 164=some VW:=by kernel_rfl
def VV:TI:=⟨Kd.oth,1,8,Value.nilFunc⟩
theorem aYx:qn Tryz.prog 165=some VV:=by kernel_rfl
def VU:TI:=⟨Kd.oth,1,8,Value.nilFunc⟩
theorem aYw:qn Tryz.prog 166=some VU:=by kernel_rfl
def VT:TI:=⟨Kd.oth,1,8,Value.nilFunc⟩
theorem aYv:qn Tryz.prog 167=some VT:=by kernel_rfl
def VS:TI:=⟨Kd.oth,1,8,Value.nilFunc⟩
theorem aYu:qn Tryz.prog 168=some VS:=by kernel_rfl
def VR:TI:=⟨Kd.oth,1,8,Value.nilFunc⟩
theorem aYt:qn Tryz.prog 169=some VR:=by kernel_rfl
def VQ:TI:=⟨Kd.oth,1,8,Value.nilFunc⟩
theorem aYs:qn Tryz.prog 170=some VQ:=by kernel_rfl
def VP:TI:=⟨Kd.oth,1,8,Value.nilFunc⟩
theorem aYr:qn Tryz.prog 171=some VP:=by kernel_rfl
def VO:TI:=⟨Kd.oth,1,8,Value.nilFunc⟩
theorem aYq:qn Tryz.prog 173=some VO:=by kernel_rfl
def Zj:TI:=⟨Kd.stru [(0,22),(1,3),(2,3)],3,40,Value.agg ⟨[Value.slice none 0 0,Value.int IntKind.i64 0,Value.int IntKind.i64 0]⟩⟩
theorem aoJ:qn Tryz.prog 174=some Zj:=by kernel_rfl
def Zi:TI:=⟨Kd.stru [(0,22),(1,3),(2,3)],3,40,Value.agg ⟨[Value.slice none 0 0,Value.int IntKind.i64 0,Value.int IntKind.i64 0]⟩⟩
theorem aoI:qn Tryz.prog 175=some Zi:=by kernel_rfl
def VN:TI:=⟨Kd.oth,1,8,Value.nilFunc⟩
theorem aYp:qn Tryz.prog 176=some VN:=by kernel_rfl
def VM:TI:=⟨Kd.oth,1,8,Value.nilFunc⟩
theorem aYo:qn Tryz.prog 177=some VM:=by kernel_rfl
def VL:TI:=⟨Kd.oth,1,8,Value.nilFunc⟩
theorem aYn:qn Tryz.prog 178=some VL:=by kernel_rfl
def VK:TI:=⟨Kd.oth,1,8,Value.nilFunc⟩
theorem aYm:qn Tryz.prog 179=some VK:=by kernel_rfl
def VJ:TI:=⟨Kd.oth,1,8,Value.nilFunc⟩
theorem aYl:qn Tryz.prog 180=some VJ:=by kernel_rfl
def VI:TI:=⟨Kd.oth,1,8,Value.nilFunc⟩
theorem aYk:qn Tryz.prog 182=some VI:=by kernel_rfl
def VH:TI:=⟨Kd.oth,1,8,Value.nilFunc⟩
theorem aYj:qn Tryz.prog 183=some VH:=by kernel_rfl
def VG:TI:=⟨Kd.oth,1,8,Value.nilFunc⟩
theorem aYi:qn Tryz.prog 184=some VG:=by kernel_rfl
def VF:TI:=⟨Kd.oth,1,8,Value.nilFunc⟩
theorem aYh:qn Tryz.prog 185=some VF:=by kernel_rfl
def VE:TI:=⟨Kd.oth,1,8,Value.nilFunc⟩
theorem aYg:qn Tryz.prog 186=some VE:=by kernel_rfl
def VD:TI:=⟨Kd.oth,1,8,Value.nilFunc⟩
theorem aYf:qn Tryz.prog 187=some VD:=by kernel_rfl
def VC:TI:=⟨Kd.oth,1,8,Value.nilFunc⟩
theorem aYe:qn Tryz.prog 188=some VC:=by kernel_rfl
def VB:TI:=⟨Kd.oth,1,8,Value.nilFunc⟩
theorem aYd:qn Tryz.prog 189=some VB:=by kernel_rfl
def VA:TI:=⟨Kd.oth,1,8,Value.nilFunc⟩
theorem aYc:qn Tryz.prog 190=some VA:=by kernel_rfl
def Vz:TI:=⟨Kd.oth,1,8,Value.nilFunc⟩
theorem aYb:qn Tryz.prog 191=some Vz:=by kernel_rfl
def Vy:TI:=⟨Kd.oth,1,8,Value.nilFunc⟩
theorem aYa:qn Tryz.prog 192=some Vy:=by kernel_rfl
def Vx:TI:=⟨Kd.oth,1,8,Value.nilFunc⟩
theorem aX9:qn Tryz.prog 194=some Vx:=by kernel_rfl
def Vw:TI:=⟨Kd.sli 111,1,24,Value.slice none 0 0⟩
theorem aN7:qn Tryz.prog 195=some Vw:=by kernel_rfl
def Vv:TI:=⟨Kd.oth,1,8,Value.nilFunc⟩
theorem aX8:qn Tryz.prog 196=some Vv:=by kernel_rfl
def Vu:TI:=⟨Kd.oth,1,8,Value.nilFunc⟩
theorem aX7:qn Tryz.prog 197=some Vu:=by kernel_rfl
def Vt:TI:=⟨Kd.oth,1,8,Value.nilFunc⟩
theorem aX6:qn Tryz.prog 198=some Vt:=by kernel_rfl
def Vs:TI:=⟨Kd.oth,1,8,Value.nilFunc⟩
theorem aX5:qn Tryz.prog 199=some Vs:=by kernel_rfl
def Vr:TI:=⟨Kd.oth,1,8,Value.nilFunc⟩
theorem aX4:qn Tryz.prog 201=some Vr:=by kernel_rfl
def Vq:TI:=⟨Kd.oth,1,8,Value.nilFunc⟩
theorem aX3:qn Tryz.prog 203=some Vq:=by kernel_rfl
def Vp:TI:=⟨Kd.oth,1,8,Value.nilFunc⟩
theorem aX2:qn Tryz.prog 204=some Vp:=by kernel_rfl
def Vo:TI:=⟨Kd.oth,1,8,Value.nilFunc⟩
theorem aX1:qn Tryz.prog 205=some Vo:=by kernel_rfl
def Vn:TI:=⟨Kd.oth,1,8,Value.nilFunc⟩
theorem aX0:qn Tryz.prog 207=some Vn:=by kernel_rfl
def Vm:TI:=⟨Kd.oth,1,8,Value.nilFunc⟩
theorem aXZ:qn Tryz.prog 208=some Vm:=by kernel_rfl
def Vl:TI:=⟨Kd.oth,1,8,Value.nilFunc⟩
theorem aXY:qn Tryz.prog 209=some Vl:=by kernel_rfl
def Vk:TI:=⟨Kd.oth,1,8,Value.nilFunc⟩
theorem aXX:qn Tryz.prog 210=some Vk:=by kernel_rfl
def Vj:TI:=⟨Kd.oth,1,8,Value.nilFunc⟩
theorem aXW:qn Tryz.prog 211=some Vj:=by kernel_rfl
def Vi:TI:=⟨Kd.oth,1,8,Value.nilFunc⟩
theorem aXV:qn Tryz.prog 212=some Vi:=by kernel_rfl
def Vh:TI:=⟨Kd.oth,1,8,Value.nilFunc⟩
theorem aXU:qn Tryz.prog 213=some Vh:=by kernel_rfl
def Vg:TI:=⟨Kd.oth,1,8,Value.nilFunc⟩
theorem aXT:qn Tryz.prog 214=some Vg:=by kernel_rfl
def Vf:TI:=⟨Kd.oth,1,8,Value.nilFunc⟩
theorem aXS:qn Tryz.prog 215=some Vf:=by kernel_rfl
def Ve:TI:=⟨Kd.int IntKind.u64,1,8,Value.int IntKind.u64 0⟩
theorem aXR:qn Tryz.prog 216=some Ve:=by kernel_rfl
def Vd:TI:=⟨Kd.oth,1,8,Value.nilFunc⟩
theorem aXQ:qn Tryz.prog 217=some Vd:=by kernel_rfl
def Vc:TI:=⟨Kd.oth,1,8,Value.nilFunc⟩
theorem aXP:qn Tryz.prog 218=some Vc:=by kernel_rfl
def Vb:TI:=⟨Kd.oth,1,8,Value.nilFunc⟩
theorem aXO:qn Tryz.prog 219=some Vb:=by kernel_rfl
def Va:TI:=⟨Kd.oth,1,8,Value.nilFunc⟩
theorem aXN:qn Tryz.prog 220=some Va:=by kernel_rfl
def X9:TI:=⟨Kd.oth,1,8,Value.nilFunc⟩
theorem aXM:qn Tryz.prog 221=some X9:=by kernel_rfl
def X8:TI:=⟨Kd.oth,1,8,Value.nilFunc⟩
theorem aXL:qn Tryz.prog 222=some X8:=by kernel_rfl
def X7:TI:=⟨Kd.oth,1,8,Value.nilFunc⟩
theorem aXK:qn Tryz.prog 224=some X7:=by kernel_rfl
def X6:TI:=⟨Kd.oth,1,8,Value.nilFunc⟩
theorem aXJ:qn Tryz.prog 225=some X6:=by kernel_rfl
def X5:TI:=⟨Kd.oth,1,8,Value.nilFunc⟩
theorem aXI:qn Tryz.prog 226=some X5:=by kernel_rfl
def X4:TI:=⟨Kd.oth,1,8,Value.nilFunc⟩
theorem aXH:qn Tryz.prog 227=some X4:=by kernel_rfl
def X3:TI:=⟨Kd.oth,1,8,Value.nilFunc⟩
theorem aXG:qn Tryz.prog 228=some X3:=by kernel_rfl
def X2:TI:=⟨Kd.oth,1,8,Value.nilFunc⟩
theorem aXF:qn Tryz.prog 229=some X2:=by kernel_rfl
def X1:TI:=⟨Kd.oth,1,8,Value.nilFunc⟩
theorem aXE:qn Tryz.prog 230=some X1:=by kernel_rfl
def X0:TI:=⟨Kd.oth,1,8,Value.nilFunc⟩
theorem aXD:qn Tryz.prog 231=some X0:=by kernel_rfl
def XZ:TI:=⟨Kd.oth,1,8,Value.nilFunc⟩
theorem aXC:qn Tryz.prog 232=some XZ:=by kernel_rfl
def XY:TI:=⟨Kd.oth,1,8,Value.nilFunc⟩
theorem aXB:qn Tryz.prog 233=some XY:=by kernel_rfl
def XX:TI:=⟨Kd.oth,1,8,Value.nilFunc⟩
theorem aXA:qn Tryz.prog 234=some XX:=by kernel_rfl
def XW:TI:=⟨Kd.oth,1,8,Value.nilFunc⟩
theorem aXz:qn Tryz.prog 235=some XW:=by kernel_rfl
def XV:TI:=⟨Kd.oth,1,8,Value.nilFunc⟩
theorem aXy:qn Tryz.prog 236=some XV:=by kernel_rfl
def XU:TI:=⟨Kd.oth,1,8,Value.nilFunc⟩
theorem aXx:qn Tryz.prog 237=some XU:=by kernel_rfl
def XT:TI:=⟨Kd.oth,1,8,Value.nilFunc⟩
theorem aXw:qn Tryz.prog 238=some XT:=by kernel_rfl
def XS:TI:=⟨Kd.oth,1,8,Value.nilFunc⟩
theorem aXv:qn Tryz.prog 239=some XS:=by kernel_rfl
def XR:TI:=⟨Kd.oth,1,8,Value.nilFunc⟩
theorem aXu:qn Tryz.prog 240=some XR:=by kernel_rfl
def XQ:TI:=⟨Kd.oth,1,8,Value.nilFunc⟩
theorem aXt:qn Tryz.prog 241=some XQ:=by kernel_rfl
def XP:TI:=⟨Kd.oth,1,8,Value.nilFunc⟩
theorem aXs:qn Tryz.prog 242=some XP:=by kernel_rfl
def XO:TI:=⟨Kd.oth,1,8,Value.nilFunc⟩
theorem aXr:qn Tryz.prog 243=some XO:=by kernel_rfl
def XN:TI:=⟨Kd.oth,1,8,Value.nilFunc⟩
theorem aXq:qn Tryz.prog 245=some XN:=by kernel_rfl
def XM:TI:=⟨Kd.oth,1,8,Value.nilFunc⟩
theorem aXp:qn Tryz.prog 246=some XM:=by kernel_rfl
def XL:TI:=⟨Kd.oth,1,8,Value.nilFunc⟩
theorem aXo:qn Tryz.prog 247=some XL:=by kernel_rfl
def XK:TI:=⟨Kd.oth,1,8,Value.nilFunc⟩
theorem aXn:qn Tryz.prog 249=some XK:=by kernel_rfl
def XJ:TI:=⟨Kd.oth,1,8,Value.nilFunc⟩
theorem aXm:qn Tryz.prog 250=some XJ:=by kernel_rfl
def XI:TI:=⟨Kd.oth,1,8,Value.nilFunc⟩
theorem aXl:qn Tryz.prog 251=some XI:=by kernel_rfl
def XH:TI:=⟨Kd.int IntKind.u32,1,4,Value.int IntKind.u32 0⟩
theorem aXk:qn Tryz.prog 252=some XH:=by kernel_rfl
def XG:TI:=⟨Kd.oth,1,8,Value.nilFunc⟩
theorem aXj:qn Tryz.prog 253=some XG:=by kernel_rfl
def XF:TI:=⟨Kd.int IntKind.u64,1,8,Value.int IntKind.u64 0⟩
theorem aXi:qn Tryz.prog 254=some XF:=by kernel_rfl
def XE:TI:=⟨Kd.oth,1,8,Value.nilFunc⟩
theorem aXh:qn Tryz.prog 256=some XE:=by kernel_rfl
def XD:TI:=⟨Kd.oth,1,8,Value.nilFunc⟩
theorem aXg:qn Tryz.prog 257=some XD:=by kernel_rfl
def XC:TI:=⟨Kd.oth,1,8,Value.nilFunc⟩
theorem aXf:qn Tryz.prog 258=some XC:=by kernel_rfl
def XB:TI:=⟨Kd.oth,1,8,Value.nilFunc⟩
theorem aXe:qn Tryz.prog 259=some XB:=by kernel_rfl
def XA:TI:=⟨Kd.oth,1,8,Value.nilFunc⟩
theorem aXd:qn Tryz.prog 260=some XA:=by kernel_rfl
def Xz:TI:=⟨Kd.oth,1,8,Value.nilFunc⟩
theorem aXc:qn Tryz.prog 263=some Xz:=by kernel_rfl
def Xy:TI:=⟨Kd.stru [(0,266)],0,0,Value.agg ⟨[]⟩⟩
theorem aXb:qn Tryz.prog 267=some Xy:=by kernel_rfl
def Xx:TI:=⟨Kd.stru [(0,266)],0,0,Value.agg ⟨[]⟩⟩
theorem aXa:qn Tryz.prog 268=some Xx:=by kernel_rfl
def Xw:TI:=⟨Kd.int IntKind.u8,1,1,Value.int IntKind.u8 0⟩
theorem aW9:qn Tryz.prog 269=some Xw:=by kernel_rfl
def Xv:TI:=⟨Kd.int IntKind.u8,1,1,Value.int IntKind.u8 0⟩
theorem aW8:qn Tryz.prog 270=some Xv:=by kernel_rfl
def Xu:TI:=⟨Kd.oth,1,8,Value.nilFunc⟩
theorem aW7:qn Tryz.prog 271=some Xu:=by kernel_rfl
def Xt:TI:=⟨Kd.int IntKind.i32,1,4,Value.int IntKind.i32 0⟩
theorem aW6:qn Tryz.prog 273=some Xt:=by kernel_rfl
def Xs:TI:=⟨Kd.int IntKind.i32,1,4,Value.int IntKind.i32 0⟩
theorem aW5:qn Tryz.prog 274=some Xs:=by kernel_rfl
def Xr:TI:=⟨Kd.oth,1,8,Value.nilFunc⟩
theorem aW4:qn Tryz.prog 277=some Xr:=by kernel_rfl
theorem ty1{K:TI→Prop}:@tyW Tryz.prog 1 ⟨K⟩=K ti1:=qi tf1
theorem aN5:ti1.kd=Kd.oth:=ID rfl
theorem aJd:ti1.kd.agg=false:=ID rfl
theorem awz:ti1.size=1:=ID rfl
theorem am5:ti1.bytes=8:=ID rfl
theorem aN3:qy ti1=True:=eq_true rfl
theorem aN4:zc ti1=[.v Value.nilFunc]:=ID rfl
theorem ty2{K:TI→Prop}:@tyW Tryz.prog 2 ⟨K⟩=K ti2:=qi tf2
theorem aN2:ti2.kd=Kd.int IntKind.i64:=ID rfl
theorem aIR:ti2.kd.agg=false:=ID rfl
theorem atn:ti2.size=1:=ID rfl
theorem alU:ti2.bytes=8:=ID rfl
theorem aN0:qy ti2=True:=eq_true rfl
theorem aN1:zc ti2=[.v (Value.int IntKind.i64 0)]:=ID rfl
theorem ty3{K:TI→Prop}:@tyW Tryz.prog 3 ⟨K⟩=K ti3:=qi tf3
theorem aNZ:ti3.kd=Kd.int IntKind.i64:=ID rfl
theorem aIm:ti3.kd.agg=false:=ID rfl
theorem atc:ti3.size=1:=ID rfl
theorem alH:ti3.bytes=8:=ID rfl
theorem aNX:qy ti3=True:=eq_true rfl
theorem aNY:zc ti3=[.v (Value.int IntKind.i64 0)]:=ID rfl
theorem ty4{K:TI→Prop}:@tyW Tryz.prog 4 ⟨K⟩=K ti4:=qi tf4
theorem aNW:ti4.kd=Kd.bool:=ID rfl
theorem aHX:ti4.kd.agg=false:=ID rfl
theorem as3:ti4.size=1:=ID rfl
theorem alv:ti4.bytes=1:=ID rfl
theorem aNU:qy ti4=True:=eq_true rfl
theorem aNV:zc ti4=[.v (Value.bool false)]:=ID rfl
theorem ty5{K:TI→Prop}:@tyW Tryz.prog 5 ⟨K⟩=K ti5:=qi tf5
theorem aNT:ti5.kd=Kd.int IntKind.u8:=ID rfl
theorem aHB:ti5.kd.agg=false:=ID rfl
theorem asV:ti5.size=1:=ID rfl
theorem alm:ti5.bytes=1:=ID rfl
theorem aNR:qy ti5=True:=eq_true rfl
theorem aNS:zc ti5=[.v (Value.int IntKind.u8 0)]:=ID rfl
theorem ty6{K:TI→Prop}:@tyW Tryz.prog 6 ⟨K⟩=K ti6:=qi tf6
theorem aNQ:ti6.kd=Kd.int IntKind.u8:=ID rfl
theorem aG9:ti6.kd.agg=false:=ID rfl
theorem asL:ti6.size=1:=ID rfl
theorem alb:ti6.bytes=1:=ID rfl
theorem aNO:qy ti6=True:=eq_true rfl
theorem aNP:zc ti6=[.v (Value.int IntKind.u8 0)]:=ID rfl
theorem ty7{K:TI→Prop}:@tyW Tryz.prog 7 ⟨K⟩=K ti7:=qi tf7
theorem aNN:ti7.kd=Kd.stru [(0,2),(1,3),(2,4),(3,6)]:=ID rfl
theorem aGQ:ti7.kd.agg=true:=ID rfl
theorem asE:ti7.size=4:=ID rfl
theorem ak4:ti7.bytes=24:=ID rfl
theorem aNL:qy ti7=True:=eq_true rfl
theorem aNM:zc ti7=[.v (Value.int IntKind.i64 0),.v (Value.int IntKind.i64 0),.v (Value.bool false),.v (Value.int IntKind.u8 0)]:=ID rfl
theorem aTd{K:Nat→TI→Prop}:@qA Tryz.prog 7 0 ⟨K⟩=K 0 ti2:=qt (ti:=ti7) (tf:=ti2) (fo:=(0,2)) (fs:=[(0,2),(1,3),(2,4),(3,6)]) tf7 rfl rfl tf2
theorem aZK{K:Nat→Nat→Prop}:qv Tryz.prog [(0,2),(1,3),(2,4),(3,6)] 0 K=K 0 1:=qs (tf:=ti2) (fo:=(0,2)) (fs:=[(0,2),(1,3),(2,4),(3,6)]) rfl tf2
theorem aTc{K:Nat→TI→Prop}:@qA Tryz.prog 7 1 ⟨K⟩=K 1 ti3:=qt (ti:=ti7) (tf:=ti3) (fo:=(1,3)) (fs:=[(0,2),(1,3),(2,4),(3,6)]) tf7 rfl rfl tf3
theorem aZJ{K:Nat→Nat→Prop}:qv Tryz.prog [(0,2),(1,3),(2,4),(3,6)] 1 K=K 1 1:=qs (tf:=ti3) (fo:=(1,3)) (fs:=[(0,2),(1,3),(2,4),(3,6)]) rfl tf3
theorem aTb{K:Nat→TI→Prop}:@qA Tryz.prog 7 2 ⟨K⟩=K 2 ti4:=qt (ti:=ti7) (tf:=ti4) (fo:=(2,4)) (fs:=[(0,2),(1,3),(2,4),(3,6)]) tf7 rfl rfl tf4
theorem aZI{K:Nat→Nat→Prop}:qv Tryz.prog [(0,2),(1,3),(2,4),(3,6)] 2 K=K 2 1:=qs (tf:=ti4) (fo:=(2,4)) (fs:=[(0,2),(1,3),(2,4),(3,6)]) rfl tf4
theorem aTa{K:Nat→TI→Prop}:@qA Tryz.prog 7 3 ⟨K⟩=K 3 ti6:=qt (ti:=ti7) (tf:=ti6) (fo:=(3,6)) (fs:=[(0,2),(1,3),(2,4),(3,6)]) tf7 rfl rfl tf6
theorem aZH{K:Nat→Nat→Prop}:qv Tryz.prog [(0,2),(1,3),(2,4),(3,6)] 3 K=K 3 1:=qs (tf:=ti6) (fo:=(3,6)) (fs:=[(0,2),(1,3),(2,4),(3,6)]) rfl tf6
theorem aZ4:∀f∈([(0,2),(1,3),(2,4),(3,6)]:List (Nat×Nat)),(qn Tryz.prog f.2).isSome=true:=by
 intro f hf
 simp only[List.mem_cons,List.not_mem_nil,or_false]at hf
 rcases hf with rfl|rfl|rfl|rfl
 ·rw[tf2];rfl
 ·rw[tf3];rfl
 ·rw[tf4];rfl
 ·rw[tf6];rfl
theorem beR{ps:List (Nat×AV)}{K:AV→Prop}:@zi Tryz.prog 7 ps ⟨K⟩=@zh (qv Tryz.prog [(0,2),(1,3),(2,4),(3,6)]) (zc ti7) ps ⟨fun cs=>K (.ag cs)⟩:=qN tf7 rfl aZ4
theorem ty8{K:TI→Prop}:@tyW Tryz.prog 8 ⟨K⟩=K ti8:=qi tf8
theorem aNK:ti8.kd=Kd.stru [(0,2),(1,3),(2,4),(3,6)]:=ID rfl
theorem aGr:ti8.kd.agg=true:=ID rfl
theorem asv:ti8.size=4:=ID rfl
theorem akT:ti8.bytes=24:=ID rfl
theorem aNI:qy ti8=True:=eq_true rfl
theorem aNJ:zc ti8=[.v (Value.int IntKind.i64 0),.v (Value.int IntKind.i64 0),.v (Value.bool false),.v (Value.int IntKind.u8 0)]:=ID rfl
theorem aS9{K:Nat→TI→Prop}:@qA Tryz.prog 8 0 ⟨K⟩=K 0 ti2:=qt (ti:=ti8) (tf:=ti2) (fo:=(0,2)) (fs:=[(0,2),(1,3),(2,4),(3,6)]) tf8 rfl rfl tf2
theorem aZG{K:Nat→Nat→Prop}:qv Tryz.prog [(0,2),(1,3),(2,4),(3,6)] 0 K=K 0 1:=qs (tf:=ti2) (fo:=(0,2)) (fs:=[(0,2),(1,3),(2,4),(3,6)]) rfl tf2
theorem aS8{K:Nat→TI→Prop}:@qA Tryz.prog 8 1 ⟨K⟩=K 1 ti3:=qt (ti:=ti8) (tf:=ti3) (fo:=(1,3)) (fs:=[(0,2),(1,3),(2,4),(3,6)]) tf8 rfl rfl tf3
theorem aZF{K:Nat→Nat→Prop}:qv Tryz.prog [(0,2),(1,3),(2,4),(3,6)] 1 K=K 1 1:=qs (tf:=ti3) (fo:=(1,3)) (fs:=[(0,2),(1,3),(2,4),(3,6)]) rfl tf3
theorem aS7{K:Nat→TI→Prop}:@qA Tryz.prog 8 2 ⟨K⟩=K 2 ti4:=qt (ti:=ti8) (tf:=ti4) (fo:=(2,4)) (fs:=[(0,2),(1,3),(2,4),(3,6)]) tf8 rfl rfl tf4
theorem aZE{K:Nat→Nat→Prop}:qv Tryz.prog [(0,2),(1,3),(2,4),(3,6)] 2 K=K 2 1:=qs (tf:=ti4) (fo:=(2,4)) (fs:=[(0,2),(1,3),(2,4),(3,6)]) rfl tf4
theorem aS6{K:Nat→TI→Prop}:@qA Tryz.prog 8 3 ⟨K⟩=K 3 ti6:=qt (ti:=ti8) (tf:=ti6) (fo:=(3,6)) (fs:=[(0,2),(1,3),(2,4),(3,6)]) tf8 rfl rfl tf6
theorem aZD{K:Nat→Nat→Prop}:qv Tryz.prog [(0,2),(1,3),(2,4),(3,6)] 3 K=K 3 1:=qs (tf:=ti6) (fo:=(3,6)) (fs:=[(0,2),(1,3),(2,4),(3,6)]) rfl tf6
theorem aZ3:∀f∈([(0,2),(1,3),(2,4),(3,6)]:List (Nat×Nat)),(qn Tryz.prog f.2).isSome=true:=by
 intro f hf
 simp only[List.mem_cons,List.not_mem_nil,or_false]at hf
 rcases hf with rfl|rfl|rfl|rfl
 ·rw[tf2];rfl
 ·rw[tf3];rfl
 ·rw[tf4];rfl
 ·rw[tf6];rfl
theorem beQ{ps:List (Nat×AV)}{K:AV→Prop}:@zi Tryz.prog 8 ps ⟨K⟩=@zh (qv Tryz.prog [(0,2),(1,3),(2,4),(3,6)]) (zc ti8) ps ⟨fun cs=>K (.ag cs)⟩:=qN tf8 rfl aZ3
theorem ty9{K:TI→Prop}:@tyW Tryz.prog 9 ⟨K⟩=K ti9:=qi tf9
theorem aNH:ti9.kd=Kd.str:=ID rfl
theorem aF2:ti9.kd.agg=false:=ID rfl
theorem asm:ti9.size=1:=ID rfl
theorem akK:ti9.bytes=16:=ID rfl
theorem aNF:qy ti9=True:=eq_true rfl
theorem aNG:zc ti9=[.v (Value.string {data:=⟨[]⟩})]:=ID rfl
theorem bdl{K:TI→Prop}:@tyW Tryz.prog 10 ⟨K⟩=K aE7:=qi bec
theorem aJm:aE7.kd=Kd.str:=ID rfl
theorem aAH:aE7.kd.agg=false:=ID rfl
theorem aow:aE7.size=1:=ID rfl
theorem ai5:aE7.bytes=16:=ID rfl
theorem aJk:qy aE7=True:=eq_true rfl
theorem aJl:zc aE7=[.v (Value.string {data:=⟨[]⟩})]:=ID rfl
theorem bdk{K:TI→Prop}:@tyW Tryz.prog 11 ⟨K⟩=K aE6:=qi beb
theorem aJj:aE6.kd=Kd.str:=ID rfl
theorem aAc:aE6.kd.agg=false:=ID rfl
theorem aol:aE6.size=1:=ID rfl
theorem aiU:aE6.bytes=16:=ID rfl
theorem aJh:qy aE6=True:=eq_true rfl
theorem aJi:zc aE6=[.v (Value.string {data:=⟨[]⟩})]:=ID rfl
theorem bdj{K:TI→Prop}:@tyW Tryz.prog 12 ⟨K⟩=K aE5:=qi bea
theorem aJg:aE5.kd=Kd.int IntKind.u64:=ID rfl
theorem azH:aE5.kd.agg=false:=ID rfl
theorem aoa:aE5.size=1:=ID rfl
theorem aiJ:aE5.bytes=8:=ID rfl
theorem aJe:qy aE5=True:=eq_true rfl
theorem aJf:zc aE5=[.v (Value.int IntKind.u64 0)]:=ID rfl
theorem bdi{K:TI→Prop}:@tyW Tryz.prog 21 ⟨K⟩=K aE4:=qi bd9
theorem aJc:aE4.kd=Kd.int IntKind.i32:=ID rfl
theorem avI:aE4.kd.agg=false:=ID rfl
theorem amN:aE4.size=1:=ID rfl
theorem ahp:aE4.bytes=4:=ID rfl
theorem aJa:qy aE4=True:=eq_true rfl
theorem aJb:zc aE4=[.v (Value.int IntKind.i32 0)]:=ID rfl
theorem bdh{K:TI→Prop}:@tyW Tryz.prog 22 ⟨K⟩=K aeW:=qi aFa
theorem aI9:aeW.kd=Kd.sli 5:=ID rfl
theorem avg:aeW.kd.agg=false:=ID rfl
theorem amD:aeW.size=1:=ID rfl
theorem ahf:aeW.bytes=24:=ID rfl
theorem aI7:qy aeW=True:=eq_true rfl
theorem aI8:zc aeW=[.v (Value.slice none 0 0)]:=ID rfl
theorem aZu{K:TI→Prop}:@yV Tryz.prog 22 ⟨K⟩=K ti5:=ZO aFa rfl tf5
theorem bdg{K:TI→Prop}:@tyW Tryz.prog 23 ⟨K⟩=K aeV:=qi aE9
theorem aI6:aeV.kd=Kd.sli 40:=ID rfl
theorem auL:aeV.kd.agg=false:=ID rfl
theorem ams:aeV.size=1:=ID rfl
theorem ag4:aeV.bytes=24:=ID rfl
theorem aI4:qy aeV=True:=eq_true rfl
theorem aI5:zc aeV=[.v (Value.slice none 0 0)]:=ID rfl
theorem aZt{K:TI→Prop}:@yV Tryz.prog 23 ⟨K⟩=K Zv:=ZO aE9 rfl KO
theorem bdf{K:TI→Prop}:@tyW Tryz.prog 24 ⟨K⟩=K amr:=qi aUs
theorem aI3:amr.kd=Kd.stru [(0,3),(1,23)]:=ID rfl
theorem aum:amr.kd.agg=true:=ID rfl
theorem ami:amr.size=2:=ID rfl
theorem agV:amr.bytes=32:=ID rfl
theorem aI1:qy amr=True:=eq_true rfl
theorem aI2:zc amr=[.v (Value.int IntKind.i64 0),.v (Value.slice none 0 0)]:=ID rfl
theorem aL9{K:Nat→TI→Prop}:@qA Tryz.prog 24 0 ⟨K⟩=K 0 ti3:=qt (ti:=amr) (tf:=ti3) (fo:=(0,3)) (fs:=[(0,3),(1,23)]) aUs rfl rfl tf3
theorem aOZ{K:Nat→Nat→Prop}:qv Tryz.prog [(0,3),(1,23)] 0 K=K 0 1:=qs (tf:=ti3) (fo:=(0,3)) (fs:=[(0,3),(1,23)]) rfl tf3
theorem aL8{K:Nat→TI→Prop}:@qA Tryz.prog 24 1 ⟨K⟩=K 1 aeV:=qt (ti:=amr) (tf:=aeV) (fo:=(1,23)) (fs:=[(0,3),(1,23)]) aUs rfl rfl aE9
theorem aOY{K:Nat→Nat→Prop}:qv Tryz.prog [(0,3),(1,23)] 1 K=K 1 1:=qs (tf:=aeV) (fo:=(1,23)) (fs:=[(0,3),(1,23)]) rfl aE9
theorem aPS:∀f∈([(0,3),(1,23)]:List (Nat×Nat)),(qn Tryz.prog f.2).isSome=true:=by
 intro f hf
 simp only[List.mem_cons,List.not_mem_nil,or_false]at hf
 rcases hf with rfl|rfl
 ·rw[tf3];rfl
 ·rw[aE9];rfl
theorem bbT{ps:List (Nat×AV)}{K:AV→Prop}:@zi Tryz.prog 24 ps ⟨K⟩=@zh (qv Tryz.prog [(0,3),(1,23)]) (zc amr) ps ⟨fun cs=>K (.ag cs)⟩:=qN aUs rfl aPS
theorem bde{K:TI→Prop}:@tyW Tryz.prog 25 ⟨K⟩=K amh:=qi aUr
theorem aI0:amh.kd=Kd.stru [(0,3),(1,23)]:=ID rfl
theorem atU:amh.kd.agg=true:=ID rfl
theorem al7:amh.size=2:=ID rfl
theorem agL:amh.bytes=32:=ID rfl
theorem aIY:qy amh=True:=eq_true rfl
theorem aIZ:zc amh=[.v (Value.int IntKind.i64 0),.v (Value.slice none 0 0)]:=ID rfl
theorem aL7{K:Nat→TI→Prop}:@qA Tryz.prog 25 0 ⟨K⟩=K 0 ti3:=qt (ti:=amh) (tf:=ti3) (fo:=(0,3)) (fs:=[(0,3),(1,23)]) aUr rfl rfl tf3
theorem aOX{K:Nat→Nat→Prop}:qv Tryz.prog [(0,3),(1,23)] 0 K=K 0 1:=qs (tf:=ti3) (fo:=(0,3)) (fs:=[(0,3),(1,23)]) rfl tf3
theorem aL6{K:Nat→TI→Prop}:@qA Tryz.prog 25 1 ⟨K⟩=K 1 aeV:=qt (ti:=amh) (tf:=aeV) (fo:=(1,23)) (fs:=[(0,3),(1,23)]) aUr rfl rfl aE9
theorem aOW{K:Nat→Nat→Prop}:qv Tryz.prog [(0,3),(1,23)] 1 K=K 1 1:=qs (tf:=aeV) (fo:=(1,23)) (fs:=[(0,3),(1,23)]) rfl aE9
theorem aPR:∀f∈([(0,3),(1,23)]:List (Nat×Nat)),(qn Tryz.prog f.2).isSome=true:=by
 intro f hf
 simp only[List.mem_cons,List.not_mem_nil,or_false]at hf
 rcases hf with rfl|rfl
 ·rw[tf3];rfl
 ·rw[aE9];rfl
theorem bbS{ps:List (Nat×AV)}{K:AV→Prop}:@zi Tryz.prog 25 ps ⟨K⟩=@zh (qv Tryz.prog [(0,3),(1,23)]) (zc amh) ps ⟨fun cs=>K (.ag cs)⟩:=qN aUr rfl aPR
theorem bdd{K:TI→Prop}:@tyW Tryz.prog 27 ⟨K⟩=K aE3:=qi bd8
theorem aIX:aE3.kd=Kd.oth:=ID rfl
theorem atp:aE3.kd.agg=false:=ID rfl
theorem alW:aE3.size=1:=ID rfl
theorem agA:aE3.bytes=8:=ID rfl
theorem aIV:qy aE3=True:=eq_true rfl
theorem aIW:zc aE3=[.v Value.nilFunc]:=ID rfl
theorem bdc{K:TI→Prop}:@tyW Tryz.prog 29 ⟨K⟩=K aE2:=qi bd7
theorem aIU:aE2.kd=Kd.oth:=ID rfl
theorem ato:aE2.kd.agg=false:=ID rfl
theorem alV:aE2.size=1:=ID rfl
theorem agz:aE2.bytes=8:=ID rfl
theorem aIS:qy aE2=True:=eq_true rfl
theorem aIT:zc aE2=[.v Value.nilFunc]:=ID rfl
theorem bdb{K:TI→Prop}:@tyW Tryz.prog 30 ⟨K⟩=K aE1:=qi bd6
theorem aIQ:aE1.kd=Kd.oth:=ID rfl
theorem atm:aE1.kd.agg=false:=ID rfl
theorem alT:aE1.size=1:=ID rfl
theorem agy:aE1.bytes=8:=ID rfl
theorem aIO:qy aE1=True:=eq_true rfl
theorem aIP:zc aE1=[.v Value.nilFunc]:=ID rfl
theorem bda{K:TI→Prop}:@tyW Tryz.prog 31 ⟨K⟩=K aE0:=qi bd5
theorem aIN:aE0.kd=Kd.oth:=ID rfl
theorem atl:aE0.kd.agg=false:=ID rfl
theorem alS:aE0.size=1:=ID rfl
theorem agx:aE0.bytes=8:=ID rfl
theorem aIL:qy aE0=True:=eq_true rfl
theorem aIM:zc aE0=[.v Value.nilFunc]:=ID rfl
theorem bc9{K:TI→Prop}:@tyW Tryz.prog 32 ⟨K⟩=K aEZ:=qi bd2
theorem aIK:aEZ.kd=Kd.oth:=ID rfl
theorem atk:aEZ.kd.agg=false:=ID rfl
theorem alR:aEZ.size=1:=ID rfl
theorem agw:aEZ.bytes=8:=ID rfl
theorem aII:qy aEZ=True:=eq_true rfl
theorem aIJ:zc aEZ=[.v Value.nilFunc]:=ID rfl
theorem bc8{K:TI→Prop}:@tyW Tryz.prog 33 ⟨K⟩=K aEY:=qi bd1
theorem aIH:aEY.kd=Kd.oth:=ID rfl
theorem atj:aEY.kd.agg=false:=ID rfl
theorem alQ:aEY.size=1:=ID rfl
theorem agv:aEY.bytes=8:=ID rfl
theorem aIF:qy aEY=True:=eq_true rfl
theorem aIG:zc aEY=[.v Value.nilFunc]:=ID rfl
theorem bc7{K:TI→Prop}:@tyW Tryz.prog 34 ⟨K⟩=K JK:=qi aeX
theorem aIE:JK.kd=Kd.sli 3:=ID rfl
theorem ati:JK.kd.agg=false:=ID rfl
theorem alP:JK.size=1:=ID rfl
theorem agu:JK.bytes=24:=ID rfl
theorem aIC:qy JK=True:=eq_true rfl
theorem aID:zc JK=[.v (Value.slice none 0 0)]:=ID rfl
theorem aZs{K:TI→Prop}:@yV Tryz.prog 34 ⟨K⟩=K ti3:=ZO aeX rfl tf3
theorem bc6{K:TI→Prop}:@tyW Tryz.prog 35 ⟨K⟩=K ar2:=qi aW3
theorem aIB:ar2.kd=Kd.stru [(0,34)]:=ID rfl
theorem ath:ar2.kd.agg=true:=ID rfl
theorem alO:ar2.size=1:=ID rfl
theorem agt:ar2.bytes=24:=ID rfl
theorem aIz:qy ar2=True:=eq_true rfl
theorem aIA:zc ar2=[.v (Value.slice none 0 0)]:=ID rfl
theorem aL5{K:Nat→TI→Prop}:@qA Tryz.prog 35 0 ⟨K⟩=K 0 JK:=qt (ti:=ar2) (tf:=JK) (fo:=(0,34)) (fs:=[(0,34)]) aW3 rfl rfl aeX
theorem aOV{K:Nat→Nat→Prop}:qv Tryz.prog [(0,34)] 0 K=K 0 1:=qs (tf:=JK) (fo:=(0,34)) (fs:=[(0,34)]) rfl aeX
theorem aPQ:∀f∈([(0,34)]:List (Nat×Nat)),(qn Tryz.prog f.2).isSome=true:=by
 intro f hf
 simp only[List.mem_cons,List.not_mem_nil,or_false]at hf
 subst hf;rw[aeX];rfl
theorem bbR{ps:List (Nat×AV)}{K:AV→Prop}:@zi Tryz.prog 35 ps ⟨K⟩=@zh (qv Tryz.prog [(0,34)]) (zc ar2) ps ⟨fun cs=>K (.ag cs)⟩:=qN aW3 rfl aPQ
theorem bc5{K:TI→Prop}:@tyW Tryz.prog 36 ⟨K⟩=K aaZ:=qi aBc
theorem aIy:aaZ.kd=Kd.stru [(0,34)]:=ID rfl
theorem atg:aaZ.kd.agg=true:=ID rfl
theorem alN:aaZ.size=1:=ID rfl
theorem ags:aaZ.bytes=24:=ID rfl
theorem aIw:qy aaZ=True:=eq_true rfl
theorem aIx:zc aaZ=[.v (Value.slice none 0 0)]:=ID rfl
theorem aL4{K:Nat→TI→Prop}:@qA Tryz.prog 36 0 ⟨K⟩=K 0 JK:=qt (ti:=aaZ) (tf:=JK) (fo:=(0,34)) (fs:=[(0,34)]) aBc rfl rfl aeX
theorem aOU{K:Nat→Nat→Prop}:qv Tryz.prog [(0,34)] 0 K=K 0 1:=qs (tf:=JK) (fo:=(0,34)) (fs:=[(0,34)]) rfl aeX
theorem aPP:∀f∈([(0,34)]:List (Nat×Nat)),(qn Tryz.prog f.2).isSome=true:=by
 intro f hf
 simp only[List.mem_cons,List.not_mem_nil,or_false]at hf
 subst hf;rw[aeX];rfl
theorem bbQ{ps:List (Nat×AV)}{K:AV→Prop}:@zi Tryz.prog 36 ps ⟨K⟩=@zh (qv Tryz.prog [(0,34)]) (zc aaZ) ps ⟨fun cs=>K (.ag cs)⟩:=qN aBc rfl aPP
theorem bc4{K:TI→Prop}:@tyW Tryz.prog 37 ⟨K⟩=K alM:=qi aUq
theorem aIv:alM.kd=Kd.stru [(0,4),(1,36)]:=ID rfl
theorem atf:alM.kd.agg=true:=ID rfl
theorem alL:alM.size=2:=ID rfl
theorem agr:alM.bytes=32:=ID rfl
theorem aIt:qy alM=True:=eq_true rfl
theorem aIu:zc alM=[.v (Value.bool false),.v (Value.slice none 0 0)]:=ID rfl
theorem aL3{K:Nat→TI→Prop}:@qA Tryz.prog 37 0 ⟨K⟩=K 0 ti4:=qt (ti:=alM) (tf:=ti4) (fo:=(0,4)) (fs:=[(0,4),(1,36)]) aUq rfl rfl tf4
theorem aOT{K:Nat→Nat→Prop}:qv Tryz.prog [(0,4),(1,36)] 0 K=K 0 1:=qs (tf:=ti4) (fo:=(0,4)) (fs:=[(0,4),(1,36)]) rfl tf4
theorem aL2{K:Nat→TI→Prop}:@qA Tryz.prog 37 1 ⟨K⟩=K 1 aaZ:=qt (ti:=alM) (tf:=aaZ) (fo:=(1,36)) (fs:=[(0,4),(1,36)]) aUq rfl rfl aBc
theorem aOS{K:Nat→Nat→Prop}:qv Tryz.prog [(0,4),(1,36)] 1 K=K 1 1:=qs (tf:=aaZ) (fo:=(1,36)) (fs:=[(0,4),(1,36)]) rfl aBc
theorem aPO:∀f∈([(0,4),(1,36)]:List (Nat×Nat)),(qn Tryz.prog f.2).isSome=true:=by
 intro f hf
 simp only[List.mem_cons,List.not_mem_nil,or_false]at hf
 rcases hf with rfl|rfl
 ·rw[tf4];rfl
 ·rw[aBc];rfl
theorem bbP{ps:List (Nat×AV)}{K:AV→Prop}:@zi Tryz.prog 37 ps ⟨K⟩=@zh (qv Tryz.prog [(0,4),(1,36)]) (zc alM) ps ⟨fun cs=>K (.ag cs)⟩:=qN aUq rfl aPO
theorem bc3{K:TI→Prop}:@tyW Tryz.prog 38 ⟨K⟩=K Xq:=qi ar3
theorem aIs:Xq.kd=Kd.stru [(0,4),(1,36)]:=ID rfl
theorem ate:Xq.kd.agg=true:=ID rfl
theorem alK:Xq.size=2:=ID rfl
theorem agq:Xq.bytes=32:=ID rfl
theorem aIq:qy Xq=True:=eq_true rfl
theorem aIr:zc Xq=[.v (Value.bool false),.v (Value.slice none 0 0)]:=ID rfl
theorem aL1{K:Nat→TI→Prop}:@qA Tryz.prog 38 0 ⟨K⟩=K 0 ti4:=qt (ti:=Xq) (tf:=ti4) (fo:=(0,4)) (fs:=[(0,4),(1,36)]) ar3 rfl rfl tf4
theorem aOR{K:Nat→Nat→Prop}:qv Tryz.prog [(0,4),(1,36)] 0 K=K 0 1:=qs (tf:=ti4) (fo:=(0,4)) (fs:=[(0,4),(1,36)]) rfl tf4
theorem aL0{K:Nat→TI→Prop}:@qA Tryz.prog 38 1 ⟨K⟩=K 1 aaZ:=qt (ti:=Xq) (tf:=aaZ) (fo:=(1,36)) (fs:=[(0,4),(1,36)]) ar3 rfl rfl aBc
theorem aOQ{K:Nat→Nat→Prop}:qv Tryz.prog [(0,4),(1,36)] 1 K=K 1 1:=qs (tf:=aaZ) (fo:=(1,36)) (fs:=[(0,4),(1,36)]) rfl aBc
theorem aPN:∀f∈([(0,4),(1,36)]:List (Nat×Nat)),(qn Tryz.prog f.2).isSome=true:=by
 intro f hf
 simp only[List.mem_cons,List.not_mem_nil,or_false]at hf
 rcases hf with rfl|rfl
 ·rw[tf4];rfl
 ·rw[aBc];rfl
theorem bbO{ps:List (Nat×AV)}{K:AV→Prop}:@zi Tryz.prog 38 ps ⟨K⟩=@zh (qv Tryz.prog [(0,4),(1,36)]) (zc Xq) ps ⟨fun cs=>K (.ag cs)⟩:=qN ar3 rfl aPN
theorem bc2{K:TI→Prop}:@tyW Tryz.prog 39 ⟨K⟩=K alJ:=qi aUp
theorem aIp:alJ.kd=Kd.stru [(0,38),(2,3)]:=ID rfl
theorem atd:alJ.kd.agg=true:=ID rfl
theorem alI:alJ.size=3:=ID rfl
theorem agp:alJ.bytes=40:=ID rfl
theorem aIn:qy alJ=True:=eq_true rfl
theorem aIo:zc alJ=[.v (Value.bool false),.v (Value.slice none 0 0),.v (Value.int IntKind.i64 0)]:=ID rfl
theorem aLZ{K:Nat→TI→Prop}:@qA Tryz.prog 39 0 ⟨K⟩=K 0 Xq:=qt (ti:=alJ) (tf:=Xq) (fo:=(0,38)) (fs:=[(0,38),(2,3)]) aUp rfl rfl ar3
theorem aOP{K:Nat→Nat→Prop}:qv Tryz.prog [(0,38),(2,3)] 0 K=K 0 2:=qs (tf:=Xq) (fo:=(0,38)) (fs:=[(0,38),(2,3)]) rfl ar3
theorem aLY{K:Nat→TI→Prop}:@qA Tryz.prog 39 1 ⟨K⟩=K 2 ti3:=qt (ti:=alJ) (tf:=ti3) (fo:=(2,3)) (fs:=[(0,38),(2,3)]) aUp rfl rfl tf3
theorem aOO{K:Nat→Nat→Prop}:qv Tryz.prog [(0,38),(2,3)] 1 K=K 2 1:=qs (tf:=ti3) (fo:=(2,3)) (fs:=[(0,38),(2,3)]) rfl tf3
theorem aPM:∀f∈([(0,38),(2,3)]:List (Nat×Nat)),(qn Tryz.prog f.2).isSome=true:=by
 intro f hf
 simp only[List.mem_cons,List.not_mem_nil,or_false]at hf
 rcases hf with rfl|rfl
 ·rw[ar3];rfl
 ·rw[tf3];rfl
theorem bbN{ps:List (Nat×AV)}{K:AV→Prop}:@zi Tryz.prog 39 ps ⟨K⟩=@zh (qv Tryz.prog [(0,38),(2,3)]) (zc alJ) ps ⟨fun cs=>K (.ag cs)⟩:=qN aUp rfl aPM
theorem bc1{K:TI→Prop}:@tyW Tryz.prog 40 ⟨K⟩=K Zv:=qi KO
theorem aIl:Zv.kd=Kd.stru [(0,38),(2,3)]:=ID rfl
theorem atb:Zv.kd.agg=true:=ID rfl
theorem alG:Zv.size=3:=ID rfl
theorem ago:Zv.bytes=40:=ID rfl
theorem aIj:qy Zv=True:=eq_true rfl
theorem aIk:zc Zv=[.v (Value.bool false),.v (Value.slice none 0 0),.v (Value.int IntKind.i64 0)]:=ID rfl
theorem aLX{K:Nat→TI→Prop}:@qA Tryz.prog 40 0 ⟨K⟩=K 0 Xq:=qt (ti:=Zv) (tf:=Xq) (fo:=(0,38)) (fs:=[(0,38),(2,3)]) KO rfl rfl ar3
theorem aON{K:Nat→Nat→Prop}:qv Tryz.prog [(0,38),(2,3)] 0 K=K 0 2:=qs (tf:=Xq) (fo:=(0,38)) (fs:=[(0,38),(2,3)]) rfl ar3
theorem aLW{K:Nat→TI→Prop}:@qA Tryz.prog 40 1 ⟨K⟩=K 2 ti3:=qt (ti:=Zv) (tf:=ti3) (fo:=(2,3)) (fs:=[(0,38),(2,3)]) KO rfl rfl tf3
theorem aOM{K:Nat→Nat→Prop}:qv Tryz.prog [(0,38),(2,3)] 1 K=K 2 1:=qs (tf:=ti3) (fo:=(2,3)) (fs:=[(0,38),(2,3)]) rfl tf3
theorem aPL:∀f∈([(0,38),(2,3)]:List (Nat×Nat)),(qn Tryz.prog f.2).isSome=true:=by
 intro f hf
 simp only[List.mem_cons,List.not_mem_nil,or_false]at hf
 rcases hf with rfl|rfl
 ·rw[ar3];rfl
 ·rw[tf3];rfl
theorem bbM{ps:List (Nat×AV)}{K:AV→Prop}:@zi Tryz.prog 40 ps ⟨K⟩=@zh (qv Tryz.prog [(0,38),(2,3)]) (zc Zv) ps ⟨fun cs=>K (.ag cs)⟩:=qN KO rfl aPL
theorem bc0{K:TI→Prop}:@tyW Tryz.prog 41 ⟨K⟩=K aEX:=qi bd0
theorem aIi:aEX.kd=Kd.oth:=ID rfl
theorem ata:aEX.kd.agg=false:=ID rfl
theorem alD:aEX.size=1:=ID rfl
theorem agn:aEX.bytes=8:=ID rfl
theorem aIg:qy aEX=True:=eq_true rfl
theorem aIh:zc aEX=[.v Value.nilFunc]:=ID rfl
theorem bcZ{K:TI→Prop}:@tyW Tryz.prog 42 ⟨K⟩=K aEW:=qi bdZ
theorem aIf:aEW.kd=Kd.oth:=ID rfl
theorem as9:aEW.kd.agg=false:=ID rfl
theorem alC:aEW.size=1:=ID rfl
theorem agm:aEW.bytes=8:=ID rfl
theorem aId:qy aEW=True:=eq_true rfl
theorem aIe:zc aEW=[.v Value.nilFunc]:=ID rfl
theorem bcY{K:TI→Prop}:@tyW Tryz.prog 44 ⟨K⟩=K aEV:=qi bdY
theorem aIc:aEV.kd=Kd.oth:=ID rfl
theorem as8:aEV.kd.agg=false:=ID rfl
theorem alB:aEV.size=1:=ID rfl
theorem agl:aEV.bytes=8:=ID rfl
theorem aIa:qy aEV=True:=eq_true rfl
theorem aIb:zc aEV=[.v Value.nilFunc]:=ID rfl
theorem bcX{K:TI→Prop}:@tyW Tryz.prog 46 ⟨K⟩=K aEU:=qi bdX
theorem aH9:aEU.kd=Kd.oth:=ID rfl
theorem as7:aEU.kd.agg=false:=ID rfl
theorem alz:aEU.size=1:=ID rfl
theorem agk:aEU.bytes=8:=ID rfl
theorem aH7:qy aEU=True:=eq_true rfl
theorem aH8:zc aEU=[.v Value.nilFunc]:=ID rfl
theorem bcW{K:TI→Prop}:@tyW Tryz.prog 47 ⟨K⟩=K aET:=qi bdW
theorem aH6:aET.kd=Kd.oth:=ID rfl
theorem as6:aET.kd.agg=false:=ID rfl
theorem aly:aET.size=1:=ID rfl
theorem agj:aET.bytes=8:=ID rfl
theorem aH4:qy aET=True:=eq_true rfl
theorem aH5:zc aET=[.v Value.nilFunc]:=ID rfl
theorem bcV{K:TI→Prop}:@tyW Tryz.prog 48 ⟨K⟩=K aES:=qi bdV
theorem aH3:aES.kd=Kd.oth:=ID rfl
theorem as5:aES.kd.agg=false:=ID rfl
theorem alx:aES.size=1:=ID rfl
theorem agi:aES.bytes=8:=ID rfl
theorem aH1:qy aES=True:=eq_true rfl
theorem aH2:zc aES=[.v Value.nilFunc]:=ID rfl
theorem bcU{K:TI→Prop}:@tyW Tryz.prog 49 ⟨K⟩=K aER:=qi bdU
theorem aH0:aER.kd=Kd.oth:=ID rfl
theorem as4:aER.kd.agg=false:=ID rfl
theorem alw:aER.size=1:=ID rfl
theorem agh:aER.bytes=8:=ID rfl
theorem aHY:qy aER=True:=eq_true rfl
theorem aHZ:zc aER=[.v Value.nilFunc]:=ID rfl
theorem bcT{K:TI→Prop}:@tyW Tryz.prog 50 ⟨K⟩=K alu:=qi aUo
theorem aHW:alu.kd=Kd.stru [(0,40),(3,40)]:=ID rfl
theorem as2:alu.kd.agg=true:=ID rfl
theorem alt:alu.size=6:=ID rfl
theorem agf:alu.bytes=80:=ID rfl
theorem aHU:qy alu=True:=eq_true rfl
theorem aHV:zc alu=[.v (Value.bool false),.v (Value.slice none 0 0),.v (Value.int IntKind.i64 0),.v (Value.bool false),.v (Value.slice none 0 0),.v (Value.int IntKind.i64 0)]:=ID rfl
theorem aLV{K:Nat→TI→Prop}:@qA Tryz.prog 50 0 ⟨K⟩=K 0 Zv:=qt (ti:=alu) (tf:=Zv) (fo:=(0,40)) (fs:=[(0,40),(3,40)]) aUo rfl rfl KO
theorem aOL{K:Nat→Nat→Prop}:qv Tryz.prog [(0,40),(3,40)] 0 K=K 0 3:=qs (tf:=Zv) (fo:=(0,40)) (fs:=[(0,40),(3,40)]) rfl KO
theorem aLU{K:Nat→TI→Prop}:@qA Tryz.prog 50 1 ⟨K⟩=K 3 Zv:=qt (ti:=alu) (tf:=Zv) (fo:=(3,40)) (fs:=[(0,40),(3,40)]) aUo rfl rfl KO
theorem aOK{K:Nat→Nat→Prop}:qv Tryz.prog [(0,40),(3,40)] 1 K=K 3 3:=qs (tf:=Zv) (fo:=(3,40)) (fs:=[(0,40),(3,40)]) rfl KO
theorem aPK:∀f∈([(0,40),(3,40)]:List (Nat×Nat)),(qn Tryz.prog f.2).isSome=true:=by
 intro f hf
 simp only[List.mem_cons,List.not_mem_nil,or_false]at hf
 rcases hf with rfl|rfl
 ·rw[KO];rfl
 ·rw[KO];rfl
theorem bbL{ps:List (Nat×AV)}{K:AV→Prop}:@zi Tryz.prog 50 ps ⟨K⟩=@zh (qv Tryz.prog [(0,40),(3,40)]) (zc alu) ps ⟨fun cs=>K (.ag cs)⟩:=qN aUo rfl aPK
theorem bcS{K:TI→Prop}:@tyW Tryz.prog 51 ⟨K⟩=K akw:=qi aN6
theorem aHT:akw.kd=Kd.stru [(0,40),(3,40)]:=ID rfl
theorem as1:akw.kd.agg=true:=ID rfl
theorem als:akw.size=6:=ID rfl
theorem age:akw.bytes=80:=ID rfl
theorem aHR:qy akw=True:=eq_true rfl
theorem aHS:zc akw=[.v (Value.bool false),.v (Value.slice none 0 0),.v (Value.int IntKind.i64 0),.v (Value.bool false),.v (Value.slice none 0 0),.v (Value.int IntKind.i64 0)]:=ID rfl
theorem aLT{K:Nat→TI→Prop}:@qA Tryz.prog 51 0 ⟨K⟩=K 0 Zv:=qt (ti:=akw) (tf:=Zv) (fo:=(0,40)) (fs:=[(0,40),(3,40)]) aN6 rfl rfl KO
theorem aOJ{K:Nat→Nat→Prop}:qv Tryz.prog [(0,40),(3,40)] 0 K=K 0 3:=qs (tf:=Zv) (fo:=(0,40)) (fs:=[(0,40),(3,40)]) rfl KO
theorem aLS{K:Nat→TI→Prop}:@qA Tryz.prog 51 1 ⟨K⟩=K 3 Zv:=qt (ti:=akw) (tf:=Zv) (fo:=(3,40)) (fs:=[(0,40),(3,40)]) aN6 rfl rfl KO
theorem aOI{K:Nat→Nat→Prop}:qv Tryz.prog [(0,40),(3,40)] 1 K=K 3 3:=qs (tf:=Zv) (fo:=(3,40)) (fs:=[(0,40),(3,40)]) rfl KO
theorem aPJ:∀f∈([(0,40),(3,40)]:List (Nat×Nat)),(qn Tryz.prog f.2).isSome=true:=by
 intro f hf
 simp only[List.mem_cons,List.not_mem_nil,or_false]at hf
 rcases hf with rfl|rfl
 ·rw[KO];rfl
 ·rw[KO];rfl
theorem bbK{ps:List (Nat×AV)}{K:AV→Prop}:@zi Tryz.prog 51 ps ⟨K⟩=@zh (qv Tryz.prog [(0,40),(3,40)]) (zc akw) ps ⟨fun cs=>K (.ag cs)⟩:=qN aN6 rfl aPJ
theorem bcR{K:TI→Prop}:@tyW Tryz.prog 53 ⟨K⟩=K aEQ:=qi bdT
theorem aHQ:aEQ.kd=Kd.oth:=ID rfl
theorem as0:aEQ.kd.agg=false:=ID rfl
theorem alr:aEQ.size=1:=ID rfl
theorem agd:aEQ.bytes=8:=ID rfl
theorem aHO:qy aEQ=True:=eq_true rfl
theorem aHP:zc aEQ=[.v Value.nilFunc]:=ID rfl
theorem bcQ{K:TI→Prop}:@tyW Tryz.prog 55 ⟨K⟩=K aEP:=qi bdS
theorem aHN:aEP.kd=Kd.oth:=ID rfl
theorem asZ:aEP.kd.agg=false:=ID rfl
theorem alq:aEP.size=1:=ID rfl
theorem agc:aEP.bytes=8:=ID rfl
theorem aHL:qy aEP=True:=eq_true rfl
theorem aHM:zc aEP=[.v Value.nilFunc]:=ID rfl
theorem bcP{K:TI→Prop}:@tyW Tryz.prog 56 ⟨K⟩=K aEO:=qi bdR
theorem aHK:aEO.kd=Kd.oth:=ID rfl
theorem asY:aEO.kd.agg=false:=ID rfl
theorem alp:aEO.size=1:=ID rfl
theorem agb:aEO.bytes=8:=ID rfl
theorem aHI:qy aEO=True:=eq_true rfl
theorem aHJ:zc aEO=[.v Value.nilFunc]:=ID rfl
theorem bcO{K:TI→Prop}:@tyW Tryz.prog 57 ⟨K⟩=K aEN:=qi bdQ
theorem aHH:aEN.kd=Kd.oth:=ID rfl
theorem asX:aEN.kd.agg=false:=ID rfl
theorem alo:aEN.size=1:=ID rfl
theorem aga:aEN.bytes=8:=ID rfl
theorem aHF:qy aEN=True:=eq_true rfl
theorem aHG:zc aEN=[.v Value.nilFunc]:=ID rfl
theorem bcN{K:TI→Prop}:@tyW Tryz.prog 58 ⟨K⟩=K aEM:=qi bdP
theorem aHE:aEM.kd=Kd.oth:=ID rfl
theorem asW:aEM.kd.agg=false:=ID rfl
theorem aln:aEM.size=1:=ID rfl
theorem af9:aEM.bytes=8:=ID rfl
theorem aHC:qy aEM=True:=eq_true rfl
theorem aHD:zc aEM=[.v Value.nilFunc]:=ID rfl
theorem bcM{K:TI→Prop}:@tyW Tryz.prog 60 ⟨K⟩=K aEL:=qi bdO
theorem aHA:aEL.kd=Kd.oth:=ID rfl
theorem asU:aEL.kd.agg=false:=ID rfl
theorem alk:aEL.size=1:=ID rfl
theorem af8:aEL.bytes=8:=ID rfl
theorem aHy:qy aEL=True:=eq_true rfl
theorem aHz:zc aEL=[.v Value.nilFunc]:=ID rfl
theorem bcL{K:TI→Prop}:@tyW Tryz.prog 61 ⟨K⟩=K aEK:=qi bdN
theorem aHx:aEK.kd=Kd.oth:=ID rfl
theorem asT:aEK.kd.agg=false:=ID rfl
theorem alj:aEK.size=1:=ID rfl
theorem af7:aEK.bytes=8:=ID rfl
theorem aHv:qy aEK=True:=eq_true rfl
theorem aHw:zc aEK=[.v Value.nilFunc]:=ID rfl
theorem bcK{K:TI→Prop}:@tyW Tryz.prog 62 ⟨K⟩=K aEJ:=qi bdM
theorem aHu:aEJ.kd=Kd.oth:=ID rfl
theorem asS:aEJ.kd.agg=false:=ID rfl
theorem ali:aEJ.size=1:=ID rfl
theorem af6:aEJ.bytes=8:=ID rfl
theorem aHs:qy aEJ=True:=eq_true rfl
theorem aHt:zc aEJ=[.v Value.nilFunc]:=ID rfl
theorem bcJ{K:TI→Prop}:@tyW Tryz.prog 63 ⟨K⟩=K aEI:=qi bdL
theorem aHr:aEI.kd=Kd.oth:=ID rfl
theorem asR:aEI.kd.agg=false:=ID rfl
theorem alh:aEI.size=1:=ID rfl
theorem af5:aEI.bytes=8:=ID rfl
theorem aHp:qy aEI=True:=eq_true rfl
theorem aHq:zc aEI=[.v Value.nilFunc]:=ID rfl
theorem bcI{K:TI→Prop}:@tyW Tryz.prog 64 ⟨K⟩=K aEH:=qi bdK
theorem aHo:aEH.kd=Kd.oth:=ID rfl
theorem asQ:aEH.kd.agg=false:=ID rfl
theorem alg:aEH.size=1:=ID rfl
theorem af4:aEH.bytes=8:=ID rfl
theorem aHm:qy aEH=True:=eq_true rfl
theorem aHn:zc aEH=[.v Value.nilFunc]:=ID rfl
theorem bcH{K:TI→Prop}:@tyW Tryz.prog 65 ⟨K⟩=K aEG:=qi bdJ
theorem aHl:aEG.kd=Kd.oth:=ID rfl
theorem asP:aEG.kd.agg=false:=ID rfl
theorem alf:aEG.size=1:=ID rfl
theorem af3:aEG.bytes=8:=ID rfl
theorem aHj:qy aEG=True:=eq_true rfl
theorem aHk:zc aEG=[.v Value.nilFunc]:=ID rfl
theorem bcG{K:TI→Prop}:@tyW Tryz.prog 66 ⟨K⟩=K aEF:=qi bdI
theorem aHi:aEF.kd=Kd.oth:=ID rfl
theorem asO:aEF.kd.agg=false:=ID rfl
theorem ale:aEF.size=1:=ID rfl
theorem af2:aEF.bytes=8:=ID rfl
theorem aHg:qy aEF=True:=eq_true rfl
theorem aHh:zc aEF=[.v Value.nilFunc]:=ID rfl
theorem bcF{K:TI→Prop}:@tyW Tryz.prog 68 ⟨K⟩=K aEE:=qi bdH
theorem aHf:aEE.kd=Kd.oth:=ID rfl
theorem asN:aEE.kd.agg=false:=ID rfl
theorem ald:aEE.size=1:=ID rfl
theorem af1:aEE.bytes=8:=ID rfl
theorem aHd:qy aEE=True:=eq_true rfl
theorem aHe:zc aEE=[.v Value.nilFunc]:=ID rfl
theorem bcE{K:TI→Prop}:@tyW Tryz.prog 69 ⟨K⟩=K aeU:=qi aE8
theorem aHc:aeU.kd=Kd.sli 51:=ID rfl
theorem asM:aeU.kd.agg=false:=ID rfl
theorem alc:aeU.size=1:=ID rfl
theorem af0:aeU.bytes=24:=ID rfl
theorem aHa:qy aeU=True:=eq_true rfl
theorem aHb:zc aeU=[.v (Value.slice none 0 0)]:=ID rfl
theorem aZr{K:TI→Prop}:@yV Tryz.prog 69 ⟨K⟩=K akw:=ZO aE8 rfl aN6
theorem bcD{K:TI→Prop}:@tyW Tryz.prog 71 ⟨K⟩=K aED:=qi bdG
theorem aG8:aED.kd=Kd.oth:=ID rfl
theorem asK:aED.kd.agg=false:=ID rfl
theorem ala:aED.size=1:=ID rfl
theorem afZ:aED.bytes=8:=ID rfl
theorem aG6:qy aED=True:=eq_true rfl
theorem aG7:zc aED=[.v Value.nilFunc]:=ID rfl
theorem bcC{K:TI→Prop}:@tyW Tryz.prog 73 ⟨K⟩=K aEC:=qi bdF
theorem aG5:aEC.kd=Kd.oth:=ID rfl
theorem asJ:aEC.kd.agg=false:=ID rfl
theorem ak9:aEC.size=1:=ID rfl
theorem afY:aEC.bytes=8:=ID rfl
theorem aG3:qy aEC=True:=eq_true rfl
theorem aG4:zc aEC=[.v Value.nilFunc]:=ID rfl
theorem bcB{K:TI→Prop}:@tyW Tryz.prog 74 ⟨K⟩=K aEB:=qi bdE
theorem aG2:aEB.kd=Kd.oth:=ID rfl
theorem asI:aEB.kd.agg=false:=ID rfl
theorem ak8:aEB.size=1:=ID rfl
theorem afX:aEB.bytes=8:=ID rfl
theorem aG0:qy aEB=True:=eq_true rfl
theorem aG1:zc aEB=[.v Value.nilFunc]:=ID rfl
theorem bcA{K:TI→Prop}:@tyW Tryz.prog 75 ⟨K⟩=K aEA:=qi bdD
theorem aGZ:aEA.kd=Kd.oth:=ID rfl
theorem asH:aEA.kd.agg=false:=ID rfl
theorem ak7:aEA.size=1:=ID rfl
theorem afW:aEA.bytes=8:=ID rfl
theorem aGX:qy aEA=True:=eq_true rfl
theorem aGY:zc aEA=[.v Value.nilFunc]:=ID rfl
theorem bcz{K:TI→Prop}:@tyW Tryz.prog 77 ⟨K⟩=K aEz:=qi bdC
theorem aGW:aEz.kd=Kd.oth:=ID rfl
theorem asG:aEz.kd.agg=false:=ID rfl
theorem ak6:aEz.size=1:=ID rfl
theorem afV:aEz.bytes=8:=ID rfl
theorem aGU:qy aEz=True:=eq_true rfl
theorem aGV:zc aEz=[.v Value.nilFunc]:=ID rfl
theorem bcy{K:TI→Prop}:@tyW Tryz.prog 79 ⟨K⟩=K aEy:=qi bdB
theorem aGT:aEy.kd=Kd.oth:=ID rfl
theorem asF:aEy.kd.agg=false:=ID rfl
theorem ak5:aEy.size=1:=ID rfl
theorem afU:aEy.bytes=8:=ID rfl
theorem aGR:qy aEy=True:=eq_true rfl
theorem aGS:zc aEy=[.v Value.nilFunc]:=ID rfl
theorem bcx{K:TI→Prop}:@tyW Tryz.prog 80 ⟨K⟩=K aEx:=qi bdA
theorem aGP:aEx.kd=Kd.oth:=ID rfl
theorem asD:aEx.kd.agg=false:=ID rfl
theorem ak3:aEx.size=1:=ID rfl
theorem afT:aEx.bytes=8:=ID rfl
theorem aGN:qy aEx=True:=eq_true rfl
theorem aGO:zc aEx=[.v Value.nilFunc]:=ID rfl
theorem bcw{K:TI→Prop}:@tyW Tryz.prog 81 ⟨K⟩=K ak2:=qi aUn
theorem aGM:ak2.kd=Kd.stru [(0,3),(1,69)]:=ID rfl
theorem asC:ak2.kd.agg=true:=ID rfl
theorem ak1:ak2.size=2:=ID rfl
theorem afS:ak2.bytes=32:=ID rfl
theorem aGK:qy ak2=True:=eq_true rfl
theorem aGL:zc ak2=[.v (Value.int IntKind.i64 0),.v (Value.slice none 0 0)]:=ID rfl
theorem aLR{K:Nat→TI→Prop}:@qA Tryz.prog 81 0 ⟨K⟩=K 0 ti3:=qt (ti:=ak2) (tf:=ti3) (fo:=(0,3)) (fs:=[(0,3),(1,69)]) aUn rfl rfl tf3
theorem aOH{K:Nat→Nat→Prop}:qv Tryz.prog [(0,3),(1,69)] 0 K=K 0 1:=qs (tf:=ti3) (fo:=(0,3)) (fs:=[(0,3),(1,69)]) rfl tf3
theorem aLQ{K:Nat→TI→Prop}:@qA Tryz.prog 81 1 ⟨K⟩=K 1 aeU:=qt (ti:=ak2) (tf:=aeU) (fo:=(1,69)) (fs:=[(0,3),(1,69)]) aUn rfl rfl aE8
theorem aOG{K:Nat→Nat→Prop}:qv Tryz.prog [(0,3),(1,69)] 1 K=K 1 1:=qs (tf:=aeU) (fo:=(1,69)) (fs:=[(0,3),(1,69)]) rfl aE8
theorem aPI:∀f∈([(0,3),(1,69)]:List (Nat×Nat)),(qn Tryz.prog f.2).isSome=true:=by
 intro f hf
 simp only[List.mem_cons,List.not_mem_nil,or_false]at hf
 rcases hf with rfl|rfl
 ·rw[tf3];rfl
 ·rw[aE8];rfl
theorem bbJ{ps:List (Nat×AV)}{K:AV→Prop}:@zi Tryz.prog 81 ps ⟨K⟩=@zh (qv Tryz.prog [(0,3),(1,69)]) (zc ak2) ps ⟨fun cs=>K (.ag cs)⟩:=qN aUn rfl aPI
theorem bcv{K:TI→Prop}:@tyW Tryz.prog 82 ⟨K⟩=K ak0:=qi aUm
theorem aGJ:ak0.kd=Kd.stru [(0,3),(1,69)]:=ID rfl
theorem asB:ak0.kd.agg=true:=ID rfl
theorem akZ:ak0.size=2:=ID rfl
theorem afR:ak0.bytes=32:=ID rfl
theorem aGH:qy ak0=True:=eq_true rfl
theorem aGI:zc ak0=[.v (Value.int IntKind.i64 0),.v (Value.slice none 0 0)]:=ID rfl
theorem aLP{K:Nat→TI→Prop}:@qA Tryz.prog 82 0 ⟨K⟩=K 0 ti3:=qt (ti:=ak0) (tf:=ti3) (fo:=(0,3)) (fs:=[(0,3),(1,69)]) aUm rfl rfl tf3
theorem aOF{K:Nat→Nat→Prop}:qv Tryz.prog [(0,3),(1,69)] 0 K=K 0 1:=qs (tf:=ti3) (fo:=(0,3)) (fs:=[(0,3),(1,69)]) rfl tf3
theorem aLO{K:Nat→TI→Prop}:@qA Tryz.prog 82 1 ⟨K⟩=K 1 aeU:=qt (ti:=ak0) (tf:=aeU) (fo:=(1,69)) (fs:=[(0,3),(1,69)]) aUm rfl rfl aE8
theorem aOE{K:Nat→Nat→Prop}:qv Tryz.prog [(0,3),(1,69)] 1 K=K 1 1:=qs (tf:=aeU) (fo:=(1,69)) (fs:=[(0,3),(1,69)]) rfl aE8
theorem aPH:∀f∈([(0,3),(1,69)]:List (Nat×Nat)),(qn Tryz.prog f.2).isSome=true:=by
 intro f hf
 simp only[List.mem_cons,List.not_mem_nil,or_false]at hf
 rcases hf with rfl|rfl
 ·rw[tf3];rfl
 ·rw[aE8];rfl
theorem bbI{ps:List (Nat×AV)}{K:AV→Prop}:@zi Tryz.prog 82 ps ⟨K⟩=@zh (qv Tryz.prog [(0,3),(1,69)]) (zc ak0) ps ⟨fun cs=>K (.ag cs)⟩:=qN aUm rfl aPH
theorem bcu{K:TI→Prop}:@tyW Tryz.prog 84 ⟨K⟩=K aEw:=qi bdz
theorem aGG:aEw.kd=Kd.oth:=ID rfl
theorem asA:aEw.kd.agg=false:=ID rfl
theorem akY:aEw.size=1:=ID rfl
theorem afQ:aEw.bytes=8:=ID rfl
theorem aGE:qy aEw=True:=eq_true rfl
theorem aGF:zc aEw=[.v Value.nilFunc]:=ID rfl
theorem bct{K:TI→Prop}:@tyW Tryz.prog 86 ⟨K⟩=K aEv:=qi bdy
theorem aGD:aEv.kd=Kd.oth:=ID rfl
theorem asz:aEv.kd.agg=false:=ID rfl
theorem akX:aEv.size=1:=ID rfl
theorem afP:aEv.bytes=8:=ID rfl
theorem aGB:qy aEv=True:=eq_true rfl
theorem aGC:zc aEv=[.v Value.nilFunc]:=ID rfl
theorem bcs{K:TI→Prop}:@tyW Tryz.prog 87 ⟨K⟩=K aEu:=qi bdx
theorem aGA:aEu.kd=Kd.oth:=ID rfl
theorem asy:aEu.kd.agg=false:=ID rfl
theorem akW:aEu.size=1:=ID rfl
theorem afO:aEu.bytes=8:=ID rfl
theorem aGy:qy aEu=True:=eq_true rfl
theorem aGz:zc aEu=[.v Value.nilFunc]:=ID rfl
theorem bcr{K:TI→Prop}:@tyW Tryz.prog 88 ⟨K⟩=K aEt:=qi bdw
theorem aGx:aEt.kd=Kd.oth:=ID rfl
theorem asx:aEt.kd.agg=false:=ID rfl
theorem akV:aEt.size=1:=ID rfl
theorem afN:aEt.bytes=8:=ID rfl
theorem aGv:qy aEt=True:=eq_true rfl
theorem aGw:zc aEt=[.v Value.nilFunc]:=ID rfl
theorem bcq{K:TI→Prop}:@tyW Tryz.prog 89 ⟨K⟩=K aEs:=qi bdv
theorem aGu:aEs.kd=Kd.oth:=ID rfl
theorem asw:aEs.kd.agg=false:=ID rfl
theorem akU:aEs.size=1:=ID rfl
theorem afM:aEs.bytes=8:=ID rfl
theorem aGs:qy aEs=True:=eq_true rfl
theorem aGt:zc aEs=[.v Value.nilFunc]:=ID rfl
theorem bcp{K:TI→Prop}:@tyW Tryz.prog 91 ⟨K⟩=K aEr:=qi bdu
theorem aGq:aEr.kd=Kd.oth:=ID rfl
theorem asu:aEr.kd.agg=false:=ID rfl
theorem akS:aEr.size=1:=ID rfl
theorem afL:aEr.bytes=8:=ID rfl
theorem aGo:qy aEr=True:=eq_true rfl
theorem aGp:zc aEr=[.v Value.nilFunc]:=ID rfl
theorem bco{K:TI→Prop}:@tyW Tryz.prog 92 ⟨K⟩=K aEq:=qi bdt
theorem aGn:aEq.kd=Kd.oth:=ID rfl
theorem ast:aEq.kd.agg=false:=ID rfl
theorem akR:aEq.size=1:=ID rfl
theorem afK:aEq.bytes=8:=ID rfl
theorem aGl:qy aEq=True:=eq_true rfl
theorem aGm:zc aEq=[.v Value.nilFunc]:=ID rfl
theorem bcn{K:TI→Prop}:@tyW Tryz.prog 93 ⟨K⟩=K aEp:=qi bds
theorem aGk:aEp.kd=Kd.oth:=ID rfl
theorem ass:aEp.kd.agg=false:=ID rfl
theorem akQ:aEp.size=1:=ID rfl
theorem afJ:aEp.bytes=8:=ID rfl
theorem aGi:qy aEp=True:=eq_true rfl
theorem aGj:zc aEp=[.v Value.nilFunc]:=ID rfl
theorem bcm{K:TI→Prop}:@tyW Tryz.prog 94 ⟨K⟩=K aEo:=qi bdr
theorem aGh:aEo.kd=Kd.oth:=ID rfl
theorem asr:aEo.kd.agg=false:=ID rfl
theorem akP:aEo.size=1:=ID rfl
theorem afI:aEo.bytes=8:=ID rfl
theorem aGf:qy aEo=True:=eq_true rfl
theorem aGg:zc aEo=[.v Value.nilFunc]:=ID rfl
theorem bcl{K:TI→Prop}:@tyW Tryz.prog 96 ⟨K⟩=K aEn:=qi bdq
theorem aGe:aEn.kd=Kd.oth:=ID rfl
theorem asq:aEn.kd.agg=false:=ID rfl
theorem akO:aEn.size=1:=ID rfl
theorem afH:aEn.bytes=8:=ID rfl
theorem aGc:qy aEn=True:=eq_true rfl
theorem aGd:zc aEn=[.v Value.nilFunc]:=ID rfl
theorem bck{K:TI→Prop}:@tyW Tryz.prog 97 ⟨K⟩=K aEm:=qi bdp
theorem aGb:aEm.kd=Kd.oth:=ID rfl
theorem asp:aEm.kd.agg=false:=ID rfl
theorem akN:aEm.size=1:=ID rfl
theorem afG:aEm.bytes=8:=ID rfl
theorem aF9:qy aEm=True:=eq_true rfl
theorem aGa:zc aEm=[.v Value.nilFunc]:=ID rfl
theorem bcj{K:TI→Prop}:@tyW Tryz.prog 98 ⟨K⟩=K aEl:=qi bdo
theorem aF8:aEl.kd=Kd.oth:=ID rfl
theorem aso:aEl.kd.agg=false:=ID rfl
theorem akM:aEl.size=1:=ID rfl
theorem afF:aEl.bytes=8:=ID rfl
theorem aF6:qy aEl=True:=eq_true rfl
theorem aF7:zc aEl=[.v Value.nilFunc]:=ID rfl
theorem bci{K:TI→Prop}:@tyW Tryz.prog 99 ⟨K⟩=K aEk:=qi bdn
theorem aF5:aEk.kd=Kd.oth:=ID rfl
theorem asn:aEk.kd.agg=false:=ID rfl
theorem akL:aEk.size=1:=ID rfl
theorem afE:aEk.bytes=8:=ID rfl
theorem aF3:qy aEk=True:=eq_true rfl
theorem aF4:zc aEk=[.v Value.nilFunc]:=ID rfl
theorem aW2{K:TI→Prop}:@tyW Tryz.prog 100 ⟨K⟩=K KL:=qi aZm
theorem aA8:KL.kd=Kd.oth:=ID rfl
theorem aoF:KL.kd.agg=false:=ID rfl
theorem aje:KL.size=1:=ID rfl
theorem adG:KL.bytes=8:=ID rfl
theorem aA6:qy KL=True:=eq_true rfl
theorem aA7:zc KL=[.v Value.nilFunc]:=ID rfl
theorem aW1{K:TI→Prop}:@tyW Tryz.prog 101 ⟨K⟩=K KK:=qi aZl
theorem aA5:KK.kd=Kd.oth:=ID rfl
theorem aoE:KK.kd.agg=false:=ID rfl
theorem ajd:KK.size=1:=ID rfl
theorem adF:KK.bytes=8:=ID rfl
theorem aA3:qy KK=True:=eq_true rfl
theorem aA4:zc KK=[.v Value.nilFunc]:=ID rfl
theorem aW0{K:TI→Prop}:@tyW Tryz.prog 102 ⟨K⟩=K KJ:=qi aZk
theorem aA2:KJ.kd=Kd.oth:=ID rfl
theorem aoD:KJ.kd.agg=false:=ID rfl
theorem ajc:KJ.size=1:=ID rfl
theorem adE:KJ.bytes=8:=ID rfl
theorem aA0:qy KJ=True:=eq_true rfl
theorem aA1:zc KJ=[.v Value.nilFunc]:=ID rfl
theorem aWZ{K:TI→Prop}:@tyW Tryz.prog 103 ⟨K⟩=K KI:=qi aZj
theorem aAZ:KI.kd=Kd.oth:=ID rfl
theorem aoC:KI.kd.agg=false:=ID rfl
theorem ajb:KI.size=1:=ID rfl
theorem adD:KI.bytes=8:=ID rfl
theorem aAX:qy KI=True:=eq_true rfl
theorem aAY:zc KI=[.v Value.nilFunc]:=ID rfl
theorem aWY{K:TI→Prop}:@tyW Tryz.prog 105 ⟨K⟩=K KH:=qi aZi
theorem aAW:KH.kd=Kd.oth:=ID rfl
theorem aoB:KH.kd.agg=false:=ID rfl
theorem aja:KH.size=1:=ID rfl
theorem adC:KH.bytes=8:=ID rfl
theorem aAU:qy KH=True:=eq_true rfl
theorem aAV:zc KH=[.v Value.nilFunc]:=ID rfl
theorem aWX{K:TI→Prop}:@tyW Tryz.prog 106 ⟨K⟩=K KG:=qi aZh
theorem aAT:KG.kd=Kd.oth:=ID rfl
theorem aoA:KG.kd.agg=false:=ID rfl
theorem ai9:KG.size=1:=ID rfl
theorem adB:KG.bytes=8:=ID rfl
theorem aAR:qy KG=True:=eq_true rfl
theorem aAS:zc KG=[.v Value.nilFunc]:=ID rfl
theorem aWW{K:TI→Prop}:@tyW Tryz.prog 107 ⟨K⟩=K KF:=qi aZg
theorem aAQ:KF.kd=Kd.oth:=ID rfl
theorem aoz:KF.kd.agg=false:=ID rfl
theorem ai8:KF.size=1:=ID rfl
theorem adA:KF.bytes=8:=ID rfl
theorem aAO:qy KF=True:=eq_true rfl
theorem aAP:zc KF=[.v Value.nilFunc]:=ID rfl
theorem aWV{K:TI→Prop}:@tyW Tryz.prog 108 ⟨K⟩=K KE:=qi aZf
theorem aAN:KE.kd=Kd.oth:=ID rfl
theorem aoy:KE.kd.agg=false:=ID rfl
theorem ai7:KE.size=1:=ID rfl
theorem adz:KE.bytes=8:=ID rfl
theorem aAL:qy KE=True:=eq_true rfl
theorem aAM:zc KE=[.v Value.nilFunc]:=ID rfl
theorem aWU{K:TI→Prop}:@tyW Tryz.prog 109 ⟨K⟩=K KD:=qi aZe
theorem aAK:KD.kd=Kd.oth:=ID rfl
theorem aox:KD.kd.agg=false:=ID rfl
theorem ai6:KD.size=1:=ID rfl
theorem ady:KD.bytes=8:=ID rfl
theorem aAI:qy KD=True:=eq_true rfl
theorem aAJ:zc KD=[.v Value.nilFunc]:=ID rfl
theorem aWT{K:TI→Prop}:@tyW Tryz.prog 110 ⟨K⟩=K KC:=qi aZd
theorem aAG:KC.kd=Kd.oth:=ID rfl
theorem aov:KC.kd.agg=false:=ID rfl
theorem ai4:KC.size=1:=ID rfl
theorem adx:KC.bytes=8:=ID rfl
theorem aAE:qy KC=True:=eq_true rfl
theorem aAF:zc KC=[.v Value.nilFunc]:=ID rfl
theorem aWS{K:TI→Prop}:@tyW Tryz.prog 111 ⟨K⟩=K y5:=qi Yr
theorem aAD:y5.kd=Kd.sli 118:=ID rfl
theorem aou:y5.kd.agg=false:=ID rfl
theorem ai3:y5.size=1:=ID rfl
theorem adw:y5.bytes=24:=ID rfl
theorem aAB:qy y5=True:=eq_true rfl
theorem aAC:zc y5=[.v (Value.slice none 0 0)]:=ID rfl
theorem aOo{K:TI→Prop}:@yV Tryz.prog 111 ⟨K⟩=K ji:=ZO Yr rfl yl
theorem aWR{K:TI→Prop}:@tyW Tryz.prog 112 ⟨K⟩=K ZI:=qi aBh
theorem aAA:ZI.kd=Kd.stru [(0,3),(1,111)]:=ID rfl
theorem aot:ZI.kd.agg=true:=ID rfl
theorem ai2:ZI.size=2:=ID rfl
theorem adv:ZI.bytes=32:=ID rfl
theorem aAy:qy ZI=True:=eq_true rfl
theorem aAz:zc ZI=[.v (Value.int IntKind.i64 0),.v (Value.slice none 0 0)]:=ID rfl
theorem aC9{K:Nat→TI→Prop}:@qA Tryz.prog 112 0 ⟨K⟩=K 0 ti3:=qt (ti:=ZI) (tf:=ti3) (fo:=(0,3)) (fs:=[(0,3),(1,111)]) aBh rfl rfl tf3
theorem aKk{K:Nat→Nat→Prop}:qv Tryz.prog [(0,3),(1,111)] 0 K=K 0 1:=qs (tf:=ti3) (fo:=(0,3)) (fs:=[(0,3),(1,111)]) rfl tf3
theorem aC8{K:Nat→TI→Prop}:@qA Tryz.prog 112 1 ⟨K⟩=K 1 y5:=qt (ti:=ZI) (tf:=y5) (fo:=(1,111)) (fs:=[(0,3),(1,111)]) aBh rfl rfl Yr
theorem aKj{K:Nat→Nat→Prop}:qv Tryz.prog [(0,3),(1,111)] 1 K=K 1 1:=qs (tf:=y5) (fo:=(1,111)) (fs:=[(0,3),(1,111)]) rfl Yr
theorem aLI:∀f∈([(0,3),(1,111)]:List (Nat×Nat)),(qn Tryz.prog f.2).isSome=true:=by
 intro f hf
 simp only[List.mem_cons,List.not_mem_nil,or_false]at hf
 rcases hf with rfl|rfl
 ·rw[tf3];rfl
 ·rw[Yr];rfl
theorem aTS{ps:List (Nat×AV)}{K:AV→Prop}:@zi Tryz.prog 112 ps ⟨K⟩=@zh (qv Tryz.prog [(0,3),(1,111)]) (zc ZI) ps ⟨fun cs=>K (.ag cs)⟩:=qN aBh rfl aLI
theorem aWQ{K:TI→Prop}:@tyW Tryz.prog 113 ⟨K⟩=K ZH:=qi aBg
theorem aAx:ZH.kd=Kd.stru [(0,3),(1,111)]:=ID rfl
theorem aos:ZH.kd.agg=true:=ID rfl
theorem ai1:ZH.size=2:=ID rfl
theorem adu:ZH.bytes=32:=ID rfl
theorem aAv:qy ZH=True:=eq_true rfl
theorem aAw:zc ZH=[.v (Value.int IntKind.i64 0),.v (Value.slice none 0 0)]:=ID rfl
theorem aC7{K:Nat→TI→Prop}:@qA Tryz.prog 113 0 ⟨K⟩=K 0 ti3:=qt (ti:=ZH) (tf:=ti3) (fo:=(0,3)) (fs:=[(0,3),(1,111)]) aBg rfl rfl tf3
theorem aKi{K:Nat→Nat→Prop}:qv Tryz.prog [(0,3),(1,111)] 0 K=K 0 1:=qs (tf:=ti3) (fo:=(0,3)) (fs:=[(0,3),(1,111)]) rfl tf3
theorem aC6{K:Nat→TI→Prop}:@qA Tryz.prog 113 1 ⟨K⟩=K 1 y5:=qt (ti:=ZH) (tf:=y5) (fo:=(1,111)) (fs:=[(0,3),(1,111)]) aBg rfl rfl Yr
theorem aKh{K:Nat→Nat→Prop}:qv Tryz.prog [(0,3),(1,111)] 1 K=K 1 1:=qs (tf:=y5) (fo:=(1,111)) (fs:=[(0,3),(1,111)]) rfl Yr
theorem aLH:∀f∈([(0,3),(1,111)]:List (Nat×Nat)),(qn Tryz.prog f.2).isSome=true:=by
 intro f hf
 simp only[List.mem_cons,List.not_mem_nil,or_false]at hf
 rcases hf with rfl|rfl
 ·rw[tf3];rfl
 ·rw[Yr];rfl
theorem aTR{ps:List (Nat×AV)}{K:AV→Prop}:@zi Tryz.prog 113 ps ⟨K⟩=@zh (qv Tryz.prog [(0,3),(1,111)]) (zc ZH) ps ⟨fun cs=>K (.ag cs)⟩:=qN aBg rfl aLH
theorem aWP{K:TI→Prop}:@tyW Tryz.prog 114 ⟨K⟩=K KB:=qi aZc
theorem aAu:KB.kd=Kd.oth:=ID rfl
theorem aor:KB.kd.agg=false:=ID rfl
theorem ai0:KB.size=1:=ID rfl
theorem adt:KB.bytes=8:=ID rfl
theorem aAs:qy KB=True:=eq_true rfl
theorem aAt:zc KB=[.v Value.nilFunc]:=ID rfl
theorem aWO{K:TI→Prop}:@tyW Tryz.prog 115 ⟨K⟩=K KA:=qi aZb
theorem aAr:KA.kd=Kd.oth:=ID rfl
theorem aoq:KA.kd.agg=false:=ID rfl
theorem aiZ:KA.size=1:=ID rfl
theorem ads:KA.bytes=8:=ID rfl
theorem aAp:qy KA=True:=eq_true rfl
theorem aAq:zc KA=[.v Value.nilFunc]:=ID rfl
theorem aWN{K:TI→Prop}:@tyW Tryz.prog 116 ⟨K⟩=K Kz:=qi aZa
theorem aAo:Kz.kd=Kd.oth:=ID rfl
theorem aop:Kz.kd.agg=false:=ID rfl
theorem aiY:Kz.size=1:=ID rfl
theorem adr:Kz.bytes=8:=ID rfl
theorem aAm:qy Kz=True:=eq_true rfl
theorem aAn:zc Kz=[.v Value.nilFunc]:=ID rfl
theorem aWM{K:TI→Prop}:@tyW Tryz.prog 117 ⟨K⟩=K Zl:=qi aoL
theorem aAl:Zl.kd=Kd.stru [(0,4),(1,34),(2,3)]:=ID rfl
theorem aoo:Zl.kd.agg=true:=ID rfl
theorem aiX:Zl.size=3:=ID rfl
theorem adq:Zl.bytes=40:=ID rfl
theorem aAj:qy Zl=True:=eq_true rfl
theorem aAk:zc Zl=[.v (Value.bool false),.v (Value.slice none 0 0),.v (Value.int IntKind.i64 0)]:=ID rfl
theorem aC5{K:Nat→TI→Prop}:@qA Tryz.prog 117 0 ⟨K⟩=K 0 ti4:=qt (ti:=Zl) (tf:=ti4) (fo:=(0,4)) (fs:=[(0,4),(1,34),(2,3)]) aoL rfl rfl tf4
theorem aKg{K:Nat→Nat→Prop}:qv Tryz.prog [(0,4),(1,34),(2,3)] 0 K=K 0 1:=qs (tf:=ti4) (fo:=(0,4)) (fs:=[(0,4),(1,34),(2,3)]) rfl tf4
theorem aC4{K:Nat→TI→Prop}:@qA Tryz.prog 117 1 ⟨K⟩=K 1 JK:=qt (ti:=Zl) (tf:=JK) (fo:=(1,34)) (fs:=[(0,4),(1,34),(2,3)]) aoL rfl rfl aeX
theorem aKf{K:Nat→Nat→Prop}:qv Tryz.prog [(0,4),(1,34),(2,3)] 1 K=K 1 1:=qs (tf:=JK) (fo:=(1,34)) (fs:=[(0,4),(1,34),(2,3)]) rfl aeX
theorem aC3{K:Nat→TI→Prop}:@qA Tryz.prog 117 2 ⟨K⟩=K 2 ti3:=qt (ti:=Zl) (tf:=ti3) (fo:=(2,3)) (fs:=[(0,4),(1,34),(2,3)]) aoL rfl rfl tf3
theorem aKe{K:Nat→Nat→Prop}:qv Tryz.prog [(0,4),(1,34),(2,3)] 2 K=K 2 1:=qs (tf:=ti3) (fo:=(2,3)) (fs:=[(0,4),(1,34),(2,3)]) rfl tf3
theorem aLG:∀f∈([(0,4),(1,34),(2,3)]:List (Nat×Nat)),(qn Tryz.prog f.2).isSome=true:=by
 intro f hf
 simp only[List.mem_cons,List.not_mem_nil,or_false]at hf
 rcases hf with rfl|rfl|rfl
 ·rw[tf4];rfl
 ·rw[aeX];rfl
 ·rw[tf3];rfl
theorem aTQ{ps:List (Nat×AV)}{K:AV→Prop}:@zi Tryz.prog 117 ps ⟨K⟩=@zh (qv Tryz.prog [(0,4),(1,34),(2,3)]) (zc Zl) ps ⟨fun cs=>K (.ag cs)⟩:=qN aoL rfl aLG
theorem aWL{K:TI→Prop}:@tyW Tryz.prog 118 ⟨K⟩=K ji:=qi yl
theorem aAi:ji.kd=Kd.stru [(0,4),(1,34),(2,3)]:=ID rfl
theorem aon:ji.kd.agg=true:=ID rfl
theorem aiW:ji.size=3:=ID rfl
theorem adp:ji.bytes=40:=ID rfl
theorem aAg:qy ji=True:=eq_true rfl
theorem aAh:zc ji=[.v (Value.bool false),.v (Value.slice none 0 0),.v (Value.int IntKind.i64 0)]:=ID rfl
theorem aC2{K:Nat→TI→Prop}:@qA Tryz.prog 118 0 ⟨K⟩=K 0 ti4:=qt (ti:=ji) (tf:=ti4) (fo:=(0,4)) (fs:=[(0,4),(1,34),(2,3)]) yl rfl rfl tf4
theorem aKd{K:Nat→Nat→Prop}:qv Tryz.prog [(0,4),(1,34),(2,3)] 0 K=K 0 1:=qs (tf:=ti4) (fo:=(0,4)) (fs:=[(0,4),(1,34),(2,3)]) rfl tf4
theorem aC1{K:Nat→TI→Prop}:@qA Tryz.prog 118 1 ⟨K⟩=K 1 JK:=qt (ti:=ji) (tf:=JK) (fo:=(1,34)) (fs:=[(0,4),(1,34),(2,3)]) yl rfl rfl aeX
theorem aKc{K:Nat→Nat→Prop}:qv Tryz.prog [(0,4),(1,34),(2,3)] 1 K=K 1 1:=qs (tf:=JK) (fo:=(1,34)) (fs:=[(0,4),(1,34),(2,3)]) rfl aeX
theorem aC0{K:Nat→TI→Prop}:@qA Tryz.prog 118 2 ⟨K⟩=K 2 ti3:=qt (ti:=ji) (tf:=ti3) (fo:=(2,3)) (fs:=[(0,4),(1,34),(2,3)]) yl rfl rfl tf3
theorem aKb{K:Nat→Nat→Prop}:qv Tryz.prog [(0,4),(1,34),(2,3)] 2 K=K 2 1:=qs (tf:=ti3) (fo:=(2,3)) (fs:=[(0,4),(1,34),(2,3)]) rfl tf3
theorem aLF:∀f∈([(0,4),(1,34),(2,3)]:List (Nat×Nat)),(qn Tryz.prog f.2).isSome=true:=by
 intro f hf
 simp only[List.mem_cons,List.not_mem_nil,or_false]at hf
 rcases hf with rfl|rfl|rfl
 ·rw[tf4];rfl
 ·rw[aeX];rfl
 ·rw[tf3];rfl
theorem aTP{ps:List (Nat×AV)}{K:AV→Prop}:@zi Tryz.prog 118 ps ⟨K⟩=@zh (qv Tryz.prog [(0,4),(1,34),(2,3)]) (zc ji) ps ⟨fun cs=>K (.ag cs)⟩:=qN yl rfl aLF
theorem aWK{K:TI→Prop}:@tyW Tryz.prog 119 ⟨K⟩=K Ky:=qi aY9
theorem aAf:Ky.kd=Kd.oth:=ID rfl
theorem aom:Ky.kd.agg=false:=ID rfl
theorem aiV:Ky.size=1:=ID rfl
theorem ado:Ky.bytes=8:=ID rfl
theorem aAd:qy Ky=True:=eq_true rfl
theorem aAe:zc Ky=[.v Value.nilFunc]:=ID rfl
theorem aWJ{K:TI→Prop}:@tyW Tryz.prog 120 ⟨K⟩=K Kx:=qi aY8
theorem aAb:Kx.kd=Kd.oth:=ID rfl
theorem aok:Kx.kd.agg=false:=ID rfl
theorem aiT:Kx.size=1:=ID rfl
theorem adn:Kx.bytes=8:=ID rfl
theorem az9:qy Kx=True:=eq_true rfl
theorem aAa:zc Kx=[.v Value.nilFunc]:=ID rfl
theorem aWI{K:TI→Prop}:@tyW Tryz.prog 121 ⟨K⟩=K Kw:=qi aY7
theorem az8:Kw.kd=Kd.oth:=ID rfl
theorem aoj:Kw.kd.agg=false:=ID rfl
theorem aiS:Kw.size=1:=ID rfl
theorem adm:Kw.bytes=8:=ID rfl
theorem az6:qy Kw=True:=eq_true rfl
theorem az7:zc Kw=[.v Value.nilFunc]:=ID rfl
theorem aWH{K:TI→Prop}:@tyW Tryz.prog 122 ⟨K⟩=K Kv:=qi aY6
theorem az5:Kv.kd=Kd.oth:=ID rfl
theorem aoi:Kv.kd.agg=false:=ID rfl
theorem aiR:Kv.size=1:=ID rfl
theorem adl:Kv.bytes=8:=ID rfl
theorem az3:qy Kv=True:=eq_true rfl
theorem az4:zc Kv=[.v Value.nilFunc]:=ID rfl
theorem aWG{K:TI→Prop}:@tyW Tryz.prog 123 ⟨K⟩=K Ku:=qi aY5
theorem az2:Ku.kd=Kd.oth:=ID rfl
theorem aoh:Ku.kd.agg=false:=ID rfl
theorem aiQ:Ku.size=1:=ID rfl
theorem adk:Ku.bytes=8:=ID rfl
theorem az0:qy Ku=True:=eq_true rfl
theorem az1:zc Ku=[.v Value.nilFunc]:=ID rfl
theorem aWF{K:TI→Prop}:@tyW Tryz.prog 124 ⟨K⟩=K Kt:=qi aY4
theorem azZ:Kt.kd=Kd.oth:=ID rfl
theorem aog:Kt.kd.agg=false:=ID rfl
theorem aiP:Kt.size=1:=ID rfl
theorem adj:Kt.bytes=8:=ID rfl
theorem azX:qy Kt=True:=eq_true rfl
theorem azY:zc Kt=[.v Value.nilFunc]:=ID rfl
theorem aWE{K:TI→Prop}:@tyW Tryz.prog 125 ⟨K⟩=K Ks:=qi aY3
theorem azW:Ks.kd=Kd.oth:=ID rfl
theorem aof:Ks.kd.agg=false:=ID rfl
theorem aiO:Ks.size=1:=ID rfl
theorem adi:Ks.bytes=8:=ID rfl
theorem azU:qy Ks=True:=eq_true rfl
theorem azV:zc Ks=[.v Value.nilFunc]:=ID rfl
theorem aWD{K:TI→Prop}:@tyW Tryz.prog 126 ⟨K⟩=K Kr:=qi aY2
theorem azT:Kr.kd=Kd.oth:=ID rfl
theorem aoe:Kr.kd.agg=false:=ID rfl
theorem aiN:Kr.size=1:=ID rfl
theorem adh:Kr.bytes=8:=ID rfl
theorem azR:qy Kr=True:=eq_true rfl
theorem azS:zc Kr=[.v Value.nilFunc]:=ID rfl
theorem aWC{K:TI→Prop}:@tyW Tryz.prog 127 ⟨K⟩=K Kq:=qi aY1
theorem azQ:Kq.kd=Kd.oth:=ID rfl
theorem aod:Kq.kd.agg=false:=ID rfl
theorem aiM:Kq.size=1:=ID rfl
theorem adg:Kq.bytes=8:=ID rfl
theorem azO:qy Kq=True:=eq_true rfl
theorem azP:zc Kq=[.v Value.nilFunc]:=ID rfl
theorem aWB{K:TI→Prop}:@tyW Tryz.prog 128 ⟨K⟩=K Kp:=qi aY0
theorem azN:Kp.kd=Kd.oth:=ID rfl
theorem aoc:Kp.kd.agg=false:=ID rfl
theorem aiL:Kp.size=1:=ID rfl
theorem adf:Kp.bytes=8:=ID rfl
theorem azL:qy Kp=True:=eq_true rfl
theorem azM:zc Kp=[.v Value.nilFunc]:=ID rfl
theorem aWA{K:TI→Prop}:@tyW Tryz.prog 129 ⟨K⟩=K Ko:=qi aYZ
theorem azK:Ko.kd=Kd.oth:=ID rfl
theorem aob:Ko.kd.agg=false:=ID rfl
theorem aiK:Ko.size=1:=ID rfl
theorem ade:Ko.bytes=8:=ID rfl
theorem azI:qy Ko=True:=eq_true rfl
theorem azJ:zc Ko=[.v Value.nilFunc]:=ID rfl
theorem aWz{K:TI→Prop}:@tyW Tryz.prog 130 ⟨K⟩=K Kn:=qi aYY
theorem azG:Kn.kd=Kd.oth:=ID rfl
theorem an9:Kn.kd.agg=false:=ID rfl
theorem aiI:Kn.size=1:=ID rfl
theorem adc:Kn.bytes=8:=ID rfl
theorem azE:qy Kn=True:=eq_true rfl
theorem azF:zc Kn=[.v Value.nilFunc]:=ID rfl
theorem aWy{K:TI→Prop}:@tyW Tryz.prog 131 ⟨K⟩=K Km:=qi aYX
theorem azD:Km.kd=Kd.oth:=ID rfl
theorem an8:Km.kd.agg=false:=ID rfl
theorem aiH:Km.size=1:=ID rfl
theorem adb:Km.bytes=8:=ID rfl
theorem azB:qy Km=True:=eq_true rfl
theorem azC:zc Km=[.v Value.nilFunc]:=ID rfl
theorem aWx{K:TI→Prop}:@tyW Tryz.prog 132 ⟨K⟩=K ZG:=qi aBf
theorem azA:ZG.kd=Kd.stru [(0,118),(3,118)]:=ID rfl
theorem an7:ZG.kd.agg=true:=ID rfl
theorem aiG:ZG.size=6:=ID rfl
theorem ada:ZG.bytes=80:=ID rfl
theorem azy:qy ZG=True:=eq_true rfl
theorem azz:zc ZG=[.v (Value.bool false),.v (Value.slice none 0 0),.v (Value.int IntKind.i64 0),.v (Value.bool false),.v (Value.slice none 0 0),.v (Value.int IntKind.i64 0)]:=ID rfl
theorem aCZ{K:Nat→TI→Prop}:@qA Tryz.prog 132 0 ⟨K⟩=K 0 ji:=qt (ti:=ZG) (tf:=ji) (fo:=(0,118)) (fs:=[(0,118),(3,118)]) aBf rfl rfl yl
theorem aKa{K:Nat→Nat→Prop}:qv Tryz.prog [(0,118),(3,118)] 0 K=K 0 3:=qs (tf:=ji) (fo:=(0,118)) (fs:=[(0,118),(3,118)]) rfl yl
theorem aCY{K:Nat→TI→Prop}:@qA Tryz.prog 132 1 ⟨K⟩=K 3 ji:=qt (ti:=ZG) (tf:=ji) (fo:=(3,118)) (fs:=[(0,118),(3,118)]) aBf rfl rfl yl
theorem aJ9{K:Nat→Nat→Prop}:qv Tryz.prog [(0,118),(3,118)] 1 K=K 3 3:=qs (tf:=ji) (fo:=(3,118)) (fs:=[(0,118),(3,118)]) rfl yl
theorem aLE:∀f∈([(0,118),(3,118)]:List (Nat×Nat)),(qn Tryz.prog f.2).isSome=true:=by
 intro f hf
 simp only[List.mem_cons,List.not_mem_nil,or_false]at hf
 rcases hf with rfl|rfl
 ·rw[yl];rfl
 ·rw[yl];rfl
theorem aTO{ps:List (Nat×AV)}{K:AV→Prop}:@zi Tryz.prog 132 ps ⟨K⟩=@zh (qv Tryz.prog [(0,118),(3,118)]) (zc ZG) ps ⟨fun cs=>K (.ag cs)⟩:=qN aBf rfl aLE
theorem aWw{K:TI→Prop}:@tyW Tryz.prog 133 ⟨K⟩=K Zk:=qi aoK
theorem azx:Zk.kd=Kd.stru [(0,118),(3,118)]:=ID rfl
theorem an6:Zk.kd.agg=true:=ID rfl
theorem aiF:Zk.size=6:=ID rfl
theorem ac9:Zk.bytes=80:=ID rfl
theorem azv:qy Zk=True:=eq_true rfl
theorem azw:zc Zk=[.v (Value.bool false),.v (Value.slice none 0 0),.v (Value.int IntKind.i64 0),.v (Value.bool false),.v (Value.slice none 0 0),.v (Value.int IntKind.i64 0)]:=ID rfl
theorem aCX{K:Nat→TI→Prop}:@qA Tryz.prog 133 0 ⟨K⟩=K 0 ji:=qt (ti:=Zk) (tf:=ji) (fo:=(0,118)) (fs:=[(0,118),(3,118)]) aoK rfl rfl yl
theorem aJ8{K:Nat→Nat→Prop}:qv Tryz.prog [(0,118),(3,118)] 0 K=K 0 3:=qs (tf:=ji) (fo:=(0,118)) (fs:=[(0,118),(3,118)]) rfl yl
theorem aCW{K:Nat→TI→Prop}:@qA Tryz.prog 133 1 ⟨K⟩=K 3 ji:=qt (ti:=Zk) (tf:=ji) (fo:=(3,118)) (fs:=[(0,118),(3,118)]) aoK rfl rfl yl
theorem aJ7{K:Nat→Nat→Prop}:qv Tryz.prog [(0,118),(3,118)] 1 K=K 3 3:=qs (tf:=ji) (fo:=(3,118)) (fs:=[(0,118),(3,118)]) rfl yl
theorem aLD:∀f∈([(0,118),(3,118)]:List (Nat×Nat)),(qn Tryz.prog f.2).isSome=true:=by
 intro f hf
 simp only[List.mem_cons,List.not_mem_nil,or_false]at hf
 rcases hf with rfl|rfl
 ·rw[yl];rfl
 ·rw[yl];rfl
theorem aTN{ps:List (Nat×AV)}{K:AV→Prop}:@zi Tryz.prog 133 ps ⟨K⟩=@zh (qv Tryz.prog [(0,118),(3,118)]) (zc Zk) ps ⟨fun cs=>K (.ag cs)⟩:=qN aoK rfl aLD
theorem aWv{K:TI→Prop}:@tyW Tryz.prog 134 ⟨K⟩=K Kl:=qi aYW
theorem azu:Kl.kd=Kd.oth:=ID rfl
theorem an5:Kl.kd.agg=false:=ID rfl
theorem aiE:Kl.size=1:=ID rfl
theorem ac8:Kl.bytes=8:=ID rfl
theorem azs:qy Kl=True:=eq_true rfl
theorem azt:zc Kl=[.v Value.nilFunc]:=ID rfl
theorem aWu{K:TI→Prop}:@tyW Tryz.prog 135 ⟨K⟩=K Kk:=qi aYV
theorem azr:Kk.kd=Kd.oth:=ID rfl
theorem an4:Kk.kd.agg=false:=ID rfl
theorem aiD:Kk.size=1:=ID rfl
theorem ac7:Kk.bytes=8:=ID rfl
theorem azp:qy Kk=True:=eq_true rfl
theorem azq:zc Kk=[.v Value.nilFunc]:=ID rfl
theorem aWt{K:TI→Prop}:@tyW Tryz.prog 136 ⟨K⟩=K Kj:=qi aYU
theorem azo:Kj.kd=Kd.oth:=ID rfl
theorem an3:Kj.kd.agg=false:=ID rfl
theorem aiC:Kj.size=1:=ID rfl
theorem ac6:Kj.bytes=8:=ID rfl
theorem azm:qy Kj=True:=eq_true rfl
theorem azn:zc Kj=[.v Value.nilFunc]:=ID rfl
theorem aWs{K:TI→Prop}:@tyW Tryz.prog 137 ⟨K⟩=K Ki:=qi aYT
theorem azl:Ki.kd=Kd.oth:=ID rfl
theorem an2:Ki.kd.agg=false:=ID rfl
theorem aiB:Ki.size=1:=ID rfl
theorem ac5:Ki.bytes=8:=ID rfl
theorem azj:qy Ki=True:=eq_true rfl
theorem azk:zc Ki=[.v Value.nilFunc]:=ID rfl
theorem aWr{K:TI→Prop}:@tyW Tryz.prog 138 ⟨K⟩=K Kh:=qi aYS
theorem azi:Kh.kd=Kd.oth:=ID rfl
theorem an1:Kh.kd.agg=false:=ID rfl
theorem aiA:Kh.size=1:=ID rfl
theorem ac4:Kh.bytes=8:=ID rfl
theorem azg:qy Kh=True:=eq_true rfl
theorem azh:zc Kh=[.v Value.nilFunc]:=ID rfl
theorem aWq{K:TI→Prop}:@tyW Tryz.prog 139 ⟨K⟩=K Kg:=qi aYR
theorem azf:Kg.kd=Kd.oth:=ID rfl
theorem an0:Kg.kd.agg=false:=ID rfl
theorem aiz:Kg.size=1:=ID rfl
theorem ac3:Kg.bytes=8:=ID rfl
theorem azd:qy Kg=True:=eq_true rfl
theorem aze:zc Kg=[.v Value.nilFunc]:=ID rfl
theorem aWp{K:TI→Prop}:@tyW Tryz.prog 140 ⟨K⟩=K Kf:=qi aYQ
theorem azc:Kf.kd=Kd.oth:=ID rfl
theorem anZ:Kf.kd.agg=false:=ID rfl
theorem aiy:Kf.size=1:=ID rfl
theorem ac2:Kf.bytes=8:=ID rfl
theorem aza:qy Kf=True:=eq_true rfl
theorem azb:zc Kf=[.v Value.nilFunc]:=ID rfl
theorem aWo{K:TI→Prop}:@tyW Tryz.prog 142 ⟨K⟩=K Ke:=qi aYP
theorem ay9:Ke.kd=Kd.oth:=ID rfl
theorem anY:Ke.kd.agg=false:=ID rfl
theorem aix:Ke.size=1:=ID rfl
theorem ac1:Ke.bytes=8:=ID rfl
theorem ay7:qy Ke=True:=eq_true rfl
theorem ay8:zc Ke=[.v Value.nilFunc]:=ID rfl
theorem aWn{K:TI→Prop}:@tyW Tryz.prog 143 ⟨K⟩=K Kc:=qi aYO
theorem ay6:Kc.kd=Kd.oth:=ID rfl
theorem anX:Kc.kd.agg=false:=ID rfl
theorem aiw:Kc.size=1:=ID rfl
theorem ac0:Kc.bytes=8:=ID rfl
theorem ay4:qy Kc=True:=eq_true rfl
theorem ay5:zc Kc=[.v Value.nilFunc]:=ID rfl
theorem aWm{K:TI→Prop}:@tyW Tryz.prog 144 ⟨K⟩=K Kb:=qi aYN
theorem ay3:Kb.kd=Kd.oth:=ID rfl
theorem anW:Kb.kd.agg=false:=ID rfl
theorem aiv:Kb.size=1:=ID rfl
theorem acZ:Kb.bytes=8:=ID rfl
theorem ay1:qy Kb=True:=eq_true rfl
theorem ay2:zc Kb=[.v Value.nilFunc]:=ID rfl
theorem aWl{K:TI→Prop}:@tyW Tryz.prog 145 ⟨K⟩=K Ka:=qi aYM
theorem ay0:Ka.kd=Kd.oth:=ID rfl
theorem anV:Ka.kd.agg=false:=ID rfl
theorem aiu:Ka.size=1:=ID rfl
theorem acY:Ka.bytes=8:=ID rfl
theorem ayY:qy Ka=True:=eq_true rfl
theorem ayZ:zc Ka=[.v Value.nilFunc]:=ID rfl
theorem aWk{K:TI→Prop}:@tyW Tryz.prog 146 ⟨K⟩=K V9:=qi aYL
theorem ayX:V9.kd=Kd.oth:=ID rfl
theorem anU:V9.kd.agg=false:=ID rfl
theorem ait:V9.size=1:=ID rfl
theorem acX:V9.bytes=8:=ID rfl
theorem ayV:qy V9=True:=eq_true rfl
theorem ayW:zc V9=[.v Value.nilFunc]:=ID rfl
theorem aWj{K:TI→Prop}:@tyW Tryz.prog 147 ⟨K⟩=K V8:=qi aYK
theorem ayU:V8.kd=Kd.oth:=ID rfl
theorem anT:V8.kd.agg=false:=ID rfl
theorem ais:V8.size=1:=ID rfl
theorem acW:V8.bytes=8:=ID rfl
theorem ayS:qy V8=True:=eq_true rfl
theorem ayT:zc V8=[.v Value.nilFunc]:=ID rfl
theorem aWi{K:TI→Prop}:@tyW Tryz.prog 148 ⟨K⟩=K V7:=qi aYJ
theorem ayR:V7.kd=Kd.oth:=ID rfl
theorem anS:V7.kd.agg=false:=ID rfl
theorem air:V7.size=1:=ID rfl
theorem acV:V7.bytes=8:=ID rfl
theorem ayP:qy V7=True:=eq_true rfl
theorem ayQ:zc V7=[.v Value.nilFunc]:=ID rfl
theorem aWh{K:TI→Prop}:@tyW Tryz.prog 149 ⟨K⟩=K V6:=qi aYI
theorem ayO:V6.kd=Kd.oth:=ID rfl
theorem anR:V6.kd.agg=false:=ID rfl
theorem aiq:V6.size=1:=ID rfl
theorem acU:V6.bytes=8:=ID rfl
theorem ayM:qy V6=True:=eq_true rfl
theorem ayN:zc V6=[.v Value.nilFunc]:=ID rfl
theorem aWg{K:TI→Prop}:@tyW Tryz.prog 151 ⟨K⟩=K V5:=qi aYH
theorem ayL:V5.kd=Kd.oth:=ID rfl
theorem anQ:V5.kd.agg=false:=ID rfl
theorem aip:V5.size=1:=ID rfl
theorem acT:V5.bytes=8:=ID rfl
theorem ayJ:qy V5=True:=eq_true rfl
theorem ayK:zc V5=[.v Value.nilFunc]:=ID rfl
theorem aWf{K:TI→Prop}:@tyW Tryz.prog 152 ⟨K⟩=K V4:=qi aYG
theorem ayI:V4.kd=Kd.oth:=ID rfl
theorem anP:V4.kd.agg=false:=ID rfl
theorem aio:V4.size=1:=ID rfl
theorem acS:V4.bytes=8:=ID rfl
theorem ayG:qy V4=True:=eq_true rfl
theorem ayH:zc V4=[.v Value.nilFunc]:=ID rfl
theorem aWe{K:TI→Prop}:@tyW Tryz.prog 153 ⟨K⟩=K Qk:=qi KP
theorem ayF:Qk.kd=Kd.sli 133:=ID rfl
theorem anO:Qk.kd.agg=false:=ID rfl
theorem ain:Qk.size=1:=ID rfl
theorem acR:Qk.bytes=24:=ID rfl
theorem ayD:qy Qk=True:=eq_true rfl
theorem ayE:zc Qk=[.v (Value.slice none 0 0)]:=ID rfl
theorem aOn{K:TI→Prop}:@yV Tryz.prog 153 ⟨K⟩=K Zk:=ZO KP rfl aoK
theorem aWd{K:TI→Prop}:@tyW Tryz.prog 154 ⟨K⟩=K ZF:=qi aBe
theorem ayC:ZF.kd=Kd.stru [(0,3),(1,153)]:=ID rfl
theorem anN:ZF.kd.agg=true:=ID rfl
theorem aim:ZF.size=2:=ID rfl
theorem acQ:ZF.bytes=32:=ID rfl
theorem ayA:qy ZF=True:=eq_true rfl
theorem ayB:zc ZF=[.v (Value.int IntKind.i64 0),.v (Value.slice none 0 0)]:=ID rfl
theorem aCV{K:Nat→TI→Prop}:@qA Tryz.prog 154 0 ⟨K⟩=K 0 ti3:=qt (ti:=ZF) (tf:=ti3) (fo:=(0,3)) (fs:=[(0,3),(1,153)]) aBe rfl rfl tf3
theorem aJ6{K:Nat→Nat→Prop}:qv Tryz.prog [(0,3),(1,153)] 0 K=K 0 1:=qs (tf:=ti3) (fo:=(0,3)) (fs:=[(0,3),(1,153)]) rfl tf3
theorem aCU{K:Nat→TI→Prop}:@qA Tryz.prog 154 1 ⟨K⟩=K 1 Qk:=qt (ti:=ZF) (tf:=Qk) (fo:=(1,153)) (fs:=[(0,3),(1,153)]) aBe rfl rfl KP
theorem aJ5{K:Nat→Nat→Prop}:qv Tryz.prog [(0,3),(1,153)] 1 K=K 1 1:=qs (tf:=Qk) (fo:=(1,153)) (fs:=[(0,3),(1,153)]) rfl KP
theorem aLC:∀f∈([(0,3),(1,153)]:List (Nat×Nat)),(qn Tryz.prog f.2).isSome=true:=by
 intro f hf
 simp only[List.mem_cons,List.not_mem_nil,or_false]at hf
 rcases hf with rfl|rfl
 ·rw[tf3];rfl
 ·rw[KP];rfl
theorem aTM{ps:List (Nat×AV)}{K:AV→Prop}:@zi Tryz.prog 154 ps ⟨K⟩=@zh (qv Tryz.prog [(0,3),(1,153)]) (zc ZF) ps ⟨fun cs=>K (.ag cs)⟩:=qN aBe rfl aLC
theorem aWc{K:TI→Prop}:@tyW Tryz.prog 155 ⟨K⟩=K ZE:=qi aBd
theorem ayz:ZE.kd=Kd.stru [(0,3),(1,153)]:=ID rfl
theorem anM:ZE.kd.agg=true:=ID rfl
theorem ail:ZE.size=2:=ID rfl
theorem acP:ZE.bytes=32:=ID rfl
theorem ayx:qy ZE=True:=eq_true rfl
theorem ayy:zc ZE=[.v (Value.int IntKind.i64 0),.v (Value.slice none 0 0)]:=ID rfl
theorem aCT{K:Nat→TI→Prop}:@qA Tryz.prog 155 0 ⟨K⟩=K 0 ti3:=qt (ti:=ZE) (tf:=ti3) (fo:=(0,3)) (fs:=[(0,3),(1,153)]) aBd rfl rfl tf3
theorem aJ4{K:Nat→Nat→Prop}:qv Tryz.prog [(0,3),(1,153)] 0 K=K 0 1:=qs (tf:=ti3) (fo:=(0,3)) (fs:=[(0,3),(1,153)]) rfl tf3
theorem aCS{K:Nat→TI→Prop}:@qA Tryz.prog 155 1 ⟨K⟩=K 1 Qk:=qt (ti:=ZE) (tf:=Qk) (fo:=(1,153)) (fs:=[(0,3),(1,153)]) aBd rfl rfl KP
theorem aJ3{K:Nat→Nat→Prop}:qv Tryz.prog [(0,3),(1,153)] 1 K=K 1 1:=qs (tf:=Qk) (fo:=(1,153)) (fs:=[(0,3),(1,153)]) rfl KP
theorem aLB:∀f∈([(0,3),(1,153)]:List (Nat×Nat)),(qn Tryz.prog f.2).isSome=true:=by
 intro f hf
 simp only[List.mem_cons,List.not_mem_nil,or_false]at hf
 rcases hf with rfl|rfl
 ·rw[tf3];rfl
 ·rw[KP];rfl
theorem aTL{ps:List (Nat×AV)}{K:AV→Prop}:@zi Tryz.prog 155 ps ⟨K⟩=@zh (qv Tryz.prog [(0,3),(1,153)]) (zc ZE) ps ⟨fun cs=>K (.ag cs)⟩:=qN aBd rfl aLB
theorem aWb{K:TI→Prop}:@tyW Tryz.prog 156 ⟨K⟩=K V3:=qi aYF
theorem ayw:V3.kd=Kd.oth:=ID rfl
theorem anL:V3.kd.agg=false:=ID rfl
theorem aik:V3.size=1:=ID rfl
theorem acO:V3.bytes=8:=ID rfl
theorem ayu:qy V3=True:=eq_true rfl
theorem ayv:zc V3=[.v Value.nilFunc]:=ID rfl
theorem aWa{K:TI→Prop}:@tyW Tryz.prog 157 ⟨K⟩=K V2:=qi aYE
theorem ayt:V2.kd=Kd.oth:=ID rfl
theorem anK:V2.kd.agg=false:=ID rfl
theorem aij:V2.size=1:=ID rfl
theorem acN:V2.bytes=8:=ID rfl
theorem ayr:qy V2=True:=eq_true rfl
theorem ays:zc V2=[.v Value.nilFunc]:=ID rfl
theorem aV9{K:TI→Prop}:@tyW Tryz.prog 158 ⟨K⟩=K V1:=qi aYD
theorem ayq:V1.kd=Kd.oth:=ID rfl
theorem anJ:V1.kd.agg=false:=ID rfl
theorem aii:V1.size=1:=ID rfl
theorem acM:V1.bytes=8:=ID rfl
theorem ayo:qy V1=True:=eq_true rfl
theorem ayp:zc V1=[.v Value.nilFunc]:=ID rfl
theorem aV8{K:TI→Prop}:@tyW Tryz.prog 159 ⟨K⟩=K V0:=qi aYC
theorem ayn:V0.kd=Kd.oth:=ID rfl
theorem anI:V0.kd.agg=false:=ID rfl
theorem aih:V0.size=1:=ID rfl
theorem acL:V0.bytes=8:=ID rfl
theorem ayl:qy V0=True:=eq_true rfl
theorem aym:zc V0=[.v Value.nilFunc]:=ID rfl
theorem aV7{K:TI→Prop}:@tyW Tryz.prog 160 ⟨K⟩=K VZ:=qi aYB
theorem ayk:VZ.kd=Kd.oth:=ID rfl
theorem anH:VZ.kd.agg=false:=ID rfl
theorem aig:VZ.size=1:=ID rfl
theorem acK:VZ.bytes=8:=ID rfl
theorem ayi:qy VZ=True:=eq_true rfl
theorem ayj:zc VZ=[.v Value.nilFunc]:=ID rfl
theorem aV6{K:TI→Prop}:@tyW Tryz.prog 161 ⟨K⟩=K VY:=qi aYA
theorem ayh:VY.kd=Kd.oth:=ID rfl
theorem anG:VY.kd.agg=false:=ID rfl
theorem aif:VY.size=1:=ID rfl
theorem acJ:VY.bytes=8:=ID rfl
theorem ayf:qy VY=True:=eq_true rfl
theorem ayg:zc VY=[.v Value.nilFunc]:=ID rfl
theorem aV5{K:TI→Prop}:@tyW Tryz.prog 163 ⟨K⟩=K VX:=qi aYz
theorem aye:VX.kd=Kd.oth:=ID rfl
theorem anF:VX.kd.agg=false:=ID rfl
theorem aie:VX.size=1:=ID rfl
theorem acI:VX.bytes=8:=ID rfl
theorem ayc:qy VX=True:=eq_true rfl
theorem ayd:zc VX=[.v Value.nilFunc]:=ID rfl
theorem aV4{K:TI→Prop}:@tyW Tryz.prog 164 ⟨K⟩=K VW:=qi aYy
theorem ayb:VW.kd=Kd.oth:=ID rfl
theorem anE:VW.kd.agg=false:=ID rfl
theorem aid:VW.size=1:=ID rfl
theorem acH:VW.bytes=8:=ID rfl
theorem ax9:qy VW=True:=eq_true rfl
theorem aya:zc VW=[.v Value.nilFunc]:=ID rfl
theorem aV3{K:TI→Prop}:@tyW Tryz.prog 165 ⟨K⟩=K VV:=qi aYx
theorem ax8:VV.kd=Kd.oth:=ID rfl
theorem anD:VV.kd.agg=false:=ID rfl
theorem aic:VV.size=1:=ID rfl
theorem acG:VV.bytes=8:=ID rfl
theorem ax6:qy VV=True:=eq_true rfl
theorem ax7:zc VV=[.v Value.nilFunc]:=ID rfl
theorem aV2{K:TI→Prop}:@tyW Tryz.prog 166 ⟨K⟩=K VU:=qi aYw
theorem ax5:VU.kd=Kd.oth:=ID rfl
theorem anC:VU.kd.agg=false:=ID rfl
theorem aib:VU.size=1:=ID rfl
theorem acF:VU.bytes=8:=ID rfl
theorem ax3:qy VU=True:=eq_true rfl
theorem ax4:zc VU=[.v Value.nilFunc]:=ID rfl
theorem aV1{K:TI→Prop}:@tyW Tryz.prog 167 ⟨K⟩=K VT:=qi aYv
theorem ax2:VT.kd=Kd.oth:=ID rfl
theorem anB:VT.kd.agg=false:=ID rfl
theorem aia:VT.size=1:=ID rfl
theorem acE:VT.bytes=8:=ID rfl
theorem ax0:qy VT=True:=eq_true rfl
theorem ax1:zc VT=[.v Value.nilFunc]:=ID rfl
theorem aV0{K:TI→Prop}:@tyW Tryz.prog 168 ⟨K⟩=K VS:=qi aYu
theorem axZ:VS.kd=Kd.oth:=ID rfl
theorem anA:VS.kd.agg=false:=ID rfl
theorem ah9:VS.size=1:=ID rfl
theorem acD:VS.bytes=8:=ID rfl
theorem axX:qy VS=True:=eq_true rfl
theorem axY:zc VS=[.v Value.nilFunc]:=ID rfl
theorem aVZ{K:TI→Prop}:@tyW Tryz.prog 169 ⟨K⟩=K VR:=qi aYt
theorem axW:VR.kd=Kd.oth:=ID rfl
theorem anz:VR.kd.agg=false:=ID rfl
theorem ah8:VR.size=1:=ID rfl
theorem acC:VR.bytes=8:=ID rfl
theorem axU:qy VR=True:=eq_true rfl
theorem axV:zc VR=[.v Value.nilFunc]:=ID rfl
theorem aVY{K:TI→Prop}:@tyW Tryz.prog 170 ⟨K⟩=K VQ:=qi aYs
theorem axT:VQ.kd=Kd.oth:=ID rfl
theorem anx:VQ.kd.agg=false:=ID rfl
theorem ah7:VQ.size=1:=ID rfl
theorem acB:VQ.bytes=8:=ID rfl
theorem axR:qy VQ=True:=eq_true rfl
theorem axS:zc VQ=[.v Value.nilFunc]:=ID rfl
theorem aVX{K:TI→Prop}:@tyW Tryz.prog 171 ⟨K⟩=K VP:=qi aYr
theorem axQ:VP.kd=Kd.oth:=ID rfl
theorem anw:VP.kd.agg=false:=ID rfl
theorem ah6:VP.size=1:=ID rfl
theorem acA:VP.bytes=8:=ID rfl
theorem axO:qy VP=True:=eq_true rfl
theorem axP:zc VP=[.v Value.nilFunc]:=ID rfl
theorem aVW{K:TI→Prop}:@tyW Tryz.prog 173 ⟨K⟩=K VO:=qi aYq
theorem axN:VO.kd=Kd.oth:=ID rfl
theorem anv:VO.kd.agg=false:=ID rfl
theorem ah5:VO.size=1:=ID rfl
theorem acz:VO.bytes=8:=ID rfl
theorem axL:qy VO=True:=eq_true rfl
theorem axM:zc VO=[.v Value.nilFunc]:=ID rfl
theorem aVV{K:TI→Prop}:@tyW Tryz.prog 174 ⟨K⟩=K Zj:=qi aoJ
theorem axK:Zj.kd=Kd.stru [(0,22),(1,3),(2,3)]:=ID rfl
theorem anu:Zj.kd.agg=true:=ID rfl
theorem ah4:Zj.size=3:=ID rfl
theorem acy:Zj.bytes=40:=ID rfl
theorem axI:qy Zj=True:=eq_true rfl
theorem axJ:zc Zj=[.v (Value.slice none 0 0),.v (Value.int IntKind.i64 0),.v (Value.int IntKind.i64 0)]:=ID rfl
theorem aCR{K:Nat→TI→Prop}:@qA Tryz.prog 174 0 ⟨K⟩=K 0 aeW:=qt (ti:=Zj) (tf:=aeW) (fo:=(0,22)) (fs:=[(0,22),(1,3),(2,3)]) aoJ rfl rfl aFa
theorem aJ2{K:Nat→Nat→Prop}:qv Tryz.prog [(0,22),(1,3),(2,3)] 0 K=K 0 1:=qs (tf:=aeW) (fo:=(0,22)) (fs:=[(0,22),(1,3),(2,3)]) rfl aFa
theorem aCQ{K:Nat→TI→Prop}:@qA Tryz.prog 174 1 ⟨K⟩=K 1 ti3:=qt (ti:=Zj) (tf:=ti3) (fo:=(1,3)) (fs:=[(0,22),(1,3),(2,3)]) aoJ rfl rfl tf3
theorem aJ1{K:Nat→Nat→Prop}:qv Tryz.prog [(0,22),(1,3),(2,3)] 1 K=K 1 1:=qs (tf:=ti3) (fo:=(1,3)) (fs:=[(0,22),(1,3),(2,3)]) rfl tf3
theorem aCP{K:Nat→TI→Prop}:@qA Tryz.prog 174 2 ⟨K⟩=K 2 ti3:=qt (ti:=Zj) (tf:=ti3) (fo:=(2,3)) (fs:=[(0,22),(1,3),(2,3)]) aoJ rfl rfl tf3
theorem aJ0{K:Nat→Nat→Prop}:qv Tryz.prog [(0,22),(1,3),(2,3)] 2 K=K 2 1:=qs (tf:=ti3) (fo:=(2,3)) (fs:=[(0,22),(1,3),(2,3)]) rfl tf3
theorem aLA:∀f∈([(0,22),(1,3),(2,3)]:List (Nat×Nat)),(qn Tryz.prog f.2).isSome=true:=by
 intro f hf
 simp only[List.mem_cons,List.not_mem_nil,or_false]at hf
 rcases hf with rfl|rfl|rfl
 ·rw[aFa];rfl
 ·rw[tf3];rfl
 ·rw[tf3];rfl
theorem aTK{ps:List (Nat×AV)}{K:AV→Prop}:@zi Tryz.prog 174 ps ⟨K⟩=@zh (qv Tryz.prog [(0,22),(1,3),(2,3)]) (zc Zj) ps ⟨fun cs=>K (.ag cs)⟩:=qN aoJ rfl aLA
theorem aVU{K:TI→Prop}:@tyW Tryz.prog 175 ⟨K⟩=K Zi:=qi aoI
theorem axH:Zi.kd=Kd.stru [(0,22),(1,3),(2,3)]:=ID rfl
theorem ant:Zi.kd.agg=true:=ID rfl
theorem ah3:Zi.size=3:=ID rfl
theorem acx:Zi.bytes=40:=ID rfl
theorem axF:qy Zi=True:=eq_true rfl
theorem axG:zc Zi=[.v (Value.slice none 0 0),.v (Value.int IntKind.i64 0),.v (Value.int IntKind.i64 0)]:=ID rfl
theorem aCO{K:Nat→TI→Prop}:@qA Tryz.prog 175 0 ⟨K⟩=K 0 aeW:=qt (ti:=Zi) (tf:=aeW) (fo:=(0,22)) (fs:=[(0,22),(1,3),(2,3)]) aoI rfl rfl aFa
theorem aJZ{K:Nat→Nat→Prop}:qv Tryz.prog [(0,22),(1,3),(2,3)] 0 K=K 0 1:=qs (tf:=aeW) (fo:=(0,22)) (fs:=[(0,22),(1,3),(2,3)]) rfl aFa
theorem aCN{K:Nat→TI→Prop}:@qA Tryz.prog 175 1 ⟨K⟩=K 1 ti3:=qt (ti:=Zi) (tf:=ti3) (fo:=(1,3)) (fs:=[(0,22),(1,3),(2,3)]) aoI rfl rfl tf3
theorem aJY{K:Nat→Nat→Prop}:qv Tryz.prog [(0,22),(1,3),(2,3)] 1 K=K 1 1:=qs (tf:=ti3) (fo:=(1,3)) (fs:=[(0,22),(1,3),(2,3)]) rfl tf3
theorem aCM{K:Nat→TI→Prop}:@qA Tryz.prog 175 2 ⟨K⟩=K 2 ti3:=qt (ti:=Zi) (tf:=ti3) (fo:=(2,3)) (fs:=[(0,22),(1,3),(2,3)]) aoI rfl rfl tf3
theorem aJX{K:Nat→Nat→Prop}:qv Tryz.prog [(0,22),(1,3),(2,3)] 2 K=K 2 1:=qs (tf:=ti3) (fo:=(2,3)) (fs:=[(0,22),(1,3),(2,3)]) rfl tf3
theorem aLz:∀f∈([(0,22),(1,3),(2,3)]:List (Nat×Nat)),(qn Tryz.prog f.2).isSome=true:=by
 intro f hf
 simp only[List.mem_cons,List.not_mem_nil,or_false]at hf
 rcases hf with rfl|rfl|rfl
 ·rw[aFa];rfl
 ·rw[tf3];rfl
 ·rw[tf3];rfl
theorem aTJ{ps:List (Nat×AV)}{K:AV→Prop}:@zi Tryz.prog 175 ps ⟨K⟩=@zh (qv Tryz.prog [(0,22),(1,3),(2,3)]) (zc Zi) ps ⟨fun cs=>K (.ag cs)⟩:=qN aoI rfl aLz
theorem aVT{K:TI→Prop}:@tyW Tryz.prog 176 ⟨K⟩=K VN:=qi aYp
theorem axE:VN.kd=Kd.oth:=ID rfl
theorem ans:VN.kd.agg=false:=ID rfl
theorem ah2:VN.size=1:=ID rfl
theorem acw:VN.bytes=8:=ID rfl
theorem axC:qy VN=True:=eq_true rfl
theorem axD:zc VN=[.v Value.nilFunc]:=ID rfl
theorem aVS{K:TI→Prop}:@tyW Tryz.prog 177 ⟨K⟩=K VM:=qi aYo
theorem axB:VM.kd=Kd.oth:=ID rfl
theorem anr:VM.kd.agg=false:=ID rfl
theorem ah1:VM.size=1:=ID rfl
theorem acv:VM.bytes=8:=ID rfl
theorem axz:qy VM=True:=eq_true rfl
theorem axA:zc VM=[.v Value.nilFunc]:=ID rfl
theorem aVR{K:TI→Prop}:@tyW Tryz.prog 178 ⟨K⟩=K VL:=qi aYn
theorem axy:VL.kd=Kd.oth:=ID rfl
theorem anq:VL.kd.agg=false:=ID rfl
theorem ah0:VL.size=1:=ID rfl
theorem acu:VL.bytes=8:=ID rfl
theorem axw:qy VL=True:=eq_true rfl
theorem axx:zc VL=[.v Value.nilFunc]:=ID rfl
theorem aVQ{K:TI→Prop}:@tyW Tryz.prog 179 ⟨K⟩=K VK:=qi aYm
theorem axv:VK.kd=Kd.oth:=ID rfl
theorem anp:VK.kd.agg=false:=ID rfl
theorem ahZ:VK.size=1:=ID rfl
theorem act:VK.bytes=8:=ID rfl
theorem axt:qy VK=True:=eq_true rfl
theorem axu:zc VK=[.v Value.nilFunc]:=ID rfl
theorem aVP{K:TI→Prop}:@tyW Tryz.prog 180 ⟨K⟩=K VJ:=qi aYl
theorem axs:VJ.kd=Kd.oth:=ID rfl
theorem ano:VJ.kd.agg=false:=ID rfl
theorem ahY:VJ.size=1:=ID rfl
theorem acs:VJ.bytes=8:=ID rfl
theorem axq:qy VJ=True:=eq_true rfl
theorem axr:zc VJ=[.v Value.nilFunc]:=ID rfl
theorem aVO{K:TI→Prop}:@tyW Tryz.prog 182 ⟨K⟩=K VI:=qi aYk
theorem axp:VI.kd=Kd.oth:=ID rfl
theorem ann:VI.kd.agg=false:=ID rfl
theorem ahX:VI.size=1:=ID rfl
theorem acr:VI.bytes=8:=ID rfl
theorem axn:qy VI=True:=eq_true rfl
theorem axo:zc VI=[.v Value.nilFunc]:=ID rfl
theorem aVN{K:TI→Prop}:@tyW Tryz.prog 183 ⟨K⟩=K VH:=qi aYj
theorem axm:VH.kd=Kd.oth:=ID rfl
theorem anm:VH.kd.agg=false:=ID rfl
theorem ahW:VH.size=1:=ID rfl
theorem acq:VH.bytes=8:=ID rfl
theorem axk:qy VH=True:=eq_true rfl
theorem axl:zc VH=[.v Value.nilFunc]:=ID rfl
theorem aVM{K:TI→Prop}:@tyW Tryz.prog 184 ⟨K⟩=K VG:=qi aYi
theorem axj:VG.kd=Kd.oth:=ID rfl
theorem anl:VG.kd.agg=false:=ID rfl
theorem ahV:VG.size=1:=ID rfl
theorem acp:VG.bytes=8:=ID rfl
theorem axh:qy VG=True:=eq_true rfl
theorem axi:zc VG=[.v Value.nilFunc]:=ID rfl
theorem aVL{K:TI→Prop}:@tyW Tryz.prog 185 ⟨K⟩=K VF:=qi aYh
theorem axg:VF.kd=Kd.oth:=ID rfl
theorem ank:VF.kd.agg=false:=ID rfl
theorem ahU:VF.size=1:=ID rfl
theorem aco:VF.bytes=8:=ID rfl
theorem axe:qy VF=True:=eq_true rfl
theorem axf:zc VF=[.v Value.nilFunc]:=ID rfl
theorem aVK{K:TI→Prop}:@tyW Tryz.prog 186 ⟨K⟩=K VE:=qi aYg
theorem axd:VE.kd=Kd.oth:=ID rfl
theorem anj:VE.kd.agg=false:=ID rfl
theorem ahT:VE.size=1:=ID rfl
theorem acn:VE.bytes=8:=ID rfl
theorem axb:qy VE=True:=eq_true rfl
theorem axc:zc VE=[.v Value.nilFunc]:=ID rfl
theorem aVJ{K:TI→Prop}:@tyW Tryz.prog 187 ⟨K⟩=K VD:=qi aYf
theorem axa:VD.kd=Kd.oth:=ID rfl
theorem ani:VD.kd.agg=false:=ID rfl
theorem ahS:VD.size=1:=ID rfl
theorem acm:VD.bytes=8:=ID rfl
theorem aw8:qy VD=True:=eq_true rfl
theorem aw9:zc VD=[.v Value.nilFunc]:=ID rfl
theorem aVI{K:TI→Prop}:@tyW Tryz.prog 188 ⟨K⟩=K VC:=qi aYe
theorem aw7:VC.kd=Kd.oth:=ID rfl
theorem anh:VC.kd.agg=false:=ID rfl
theorem ahR:VC.size=1:=ID rfl
theorem acl:VC.bytes=8:=ID rfl
theorem aw5:qy VC=True:=eq_true rfl
theorem aw6:zc VC=[.v Value.nilFunc]:=ID rfl
theorem aVH{K:TI→Prop}:@tyW Tryz.prog 189 ⟨K⟩=K VB:=qi aYd
theorem aw4:VB.kd=Kd.oth:=ID rfl
theorem ang:VB.kd.agg=false:=ID rfl
theorem ahQ:VB.size=1:=ID rfl
theorem ack:VB.bytes=8:=ID rfl
theorem aw2:qy VB=True:=eq_true rfl
theorem aw3:zc VB=[.v Value.nilFunc]:=ID rfl
theorem aVG{K:TI→Prop}:@tyW Tryz.prog 190 ⟨K⟩=K VA:=qi aYc
theorem aw1:VA.kd=Kd.oth:=ID rfl
theorem anf:VA.kd.agg=false:=ID rfl
theorem ahP:VA.size=1:=ID rfl
theorem acj:VA.bytes=8:=ID rfl
theorem awZ:qy VA=True:=eq_true rfl
theorem aw0:zc VA=[.v Value.nilFunc]:=ID rfl
theorem aVF{K:TI→Prop}:@tyW Tryz.prog 191 ⟨K⟩=K Vz:=qi aYb
theorem awY:Vz.kd=Kd.oth:=ID rfl
theorem ane:Vz.kd.agg=false:=ID rfl
theorem ahO:Vz.size=1:=ID rfl
theorem aci:Vz.bytes=8:=ID rfl
theorem awW:qy Vz=True:=eq_true rfl
theorem awX:zc Vz=[.v Value.nilFunc]:=ID rfl
theorem aVE{K:TI→Prop}:@tyW Tryz.prog 192 ⟨K⟩=K Vy:=qi aYa
theorem awU:Vy.kd=Kd.oth:=ID rfl
theorem anc:Vy.kd.agg=false:=ID rfl
theorem ahN:Vy.size=1:=ID rfl
theorem ach:Vy.bytes=8:=ID rfl
theorem awS:qy Vy=True:=eq_true rfl
theorem awT:zc Vy=[.v Value.nilFunc]:=ID rfl
theorem aVD{K:TI→Prop}:@tyW Tryz.prog 194 ⟨K⟩=K Vx:=qi aX9
theorem awR:Vx.kd=Kd.oth:=ID rfl
theorem anb:Vx.kd.agg=false:=ID rfl
theorem ahM:Vx.size=1:=ID rfl
theorem acg:Vx.bytes=8:=ID rfl
theorem awP:qy Vx=True:=eq_true rfl
theorem awQ:zc Vx=[.v Value.nilFunc]:=ID rfl
theorem aVC{K:TI→Prop}:@tyW Tryz.prog 195 ⟨K⟩=K Vw:=qi aN7
theorem awO:Vw.kd=Kd.sli 111:=ID rfl
theorem ana:Vw.kd.agg=false:=ID rfl
theorem ahL:Vw.size=1:=ID rfl
theorem acf:Vw.bytes=24:=ID rfl
theorem awM:qy Vw=True:=eq_true rfl
theorem awN:zc Vw=[.v (Value.slice none 0 0)]:=ID rfl
theorem aOm{K:TI→Prop}:@yV Tryz.prog 195 ⟨K⟩=K y5:=ZO aN7 rfl Yr
theorem aVB{K:TI→Prop}:@tyW Tryz.prog 196 ⟨K⟩=K Vv:=qi aX8
theorem awL:Vv.kd=Kd.oth:=ID rfl
theorem am9:Vv.kd.agg=false:=ID rfl
theorem ahK:Vv.size=1:=ID rfl
theorem ace:Vv.bytes=8:=ID rfl
theorem awJ:qy Vv=True:=eq_true rfl
theorem awK:zc Vv=[.v Value.nilFunc]:=ID rfl
theorem aVA{K:TI→Prop}:@tyW Tryz.prog 197 ⟨K⟩=K Vu:=qi aX7
theorem awI:Vu.kd=Kd.oth:=ID rfl
theorem am8:Vu.kd.agg=false:=ID rfl
theorem ahJ:Vu.size=1:=ID rfl
theorem acd:Vu.bytes=8:=ID rfl
theorem awG:qy Vu=True:=eq_true rfl
theorem awH:zc Vu=[.v Value.nilFunc]:=ID rfl
theorem aVz{K:TI→Prop}:@tyW Tryz.prog 198 ⟨K⟩=K Vt:=qi aX6
theorem awF:Vt.kd=Kd.oth:=ID rfl
theorem am7:Vt.kd.agg=false:=ID rfl
theorem ahI:Vt.size=1:=ID rfl
theorem acb:Vt.bytes=8:=ID rfl
theorem awD:qy Vt=True:=eq_true rfl
theorem awE:zc Vt=[.v Value.nilFunc]:=ID rfl
theorem aVy{K:TI→Prop}:@tyW Tryz.prog 199 ⟨K⟩=K Vs:=qi aX5
theorem awC:Vs.kd=Kd.oth:=ID rfl
theorem am6:Vs.kd.agg=false:=ID rfl
theorem ahH:Vs.size=1:=ID rfl
theorem aca:Vs.bytes=8:=ID rfl
theorem awA:qy Vs=True:=eq_true rfl
theorem awB:zc Vs=[.v Value.nilFunc]:=ID rfl
theorem aVx{K:TI→Prop}:@tyW Tryz.prog 201 ⟨K⟩=K Vr:=qi aX4
theorem awy:Vr.kd=Kd.oth:=ID rfl
theorem am4:Vr.kd.agg=false:=ID rfl
theorem ahG:Vr.size=1:=ID rfl
theorem ab9:Vr.bytes=8:=ID rfl
theorem aww:qy Vr=True:=eq_true rfl
theorem awx:zc Vr=[.v Value.nilFunc]:=ID rfl
theorem aVw{K:TI→Prop}:@tyW Tryz.prog 203 ⟨K⟩=K Vq:=qi aX3
theorem awv:Vq.kd=Kd.oth:=ID rfl
theorem am3:Vq.kd.agg=false:=ID rfl
theorem ahF:Vq.size=1:=ID rfl
theorem ab8:Vq.bytes=8:=ID rfl
theorem awt:qy Vq=True:=eq_true rfl
theorem awu:zc Vq=[.v Value.nilFunc]:=ID rfl
theorem aVv{K:TI→Prop}:@tyW Tryz.prog 204 ⟨K⟩=K Vp:=qi aX2
theorem aws:Vp.kd=Kd.oth:=ID rfl
theorem am2:Vp.kd.agg=false:=ID rfl
theorem ahE:Vp.size=1:=ID rfl
theorem ab7:Vp.bytes=8:=ID rfl
theorem awq:qy Vp=True:=eq_true rfl
theorem awr:zc Vp=[.v Value.nilFunc]:=ID rfl
theorem aVu{K:TI→Prop}:@tyW Tryz.prog 205 ⟨K⟩=K Vo:=qi aX1
theorem awo:Vo.kd=Kd.oth:=ID rfl
theorem am1:Vo.kd.agg=false:=ID rfl
theorem ahD:Vo.size=1:=ID rfl
theorem ab6:Vo.bytes=8:=ID rfl
theorem awm:qy Vo=True:=eq_true rfl
theorem awn:zc Vo=[.v Value.nilFunc]:=ID rfl
theorem aVt{K:TI→Prop}:@tyW Tryz.prog 207 ⟨K⟩=K Vn:=qi aX0
theorem awl:Vn.kd=Kd.oth:=ID rfl
theorem am0:Vn.kd.agg=false:=ID rfl
theorem ahC:Vn.size=1:=ID rfl
theorem ab5:Vn.bytes=8:=ID rfl
theorem awj:qy Vn=True:=eq_true rfl
theorem awk:zc Vn=[.v Value.nilFunc]:=ID rfl
theorem aVs{K:TI→Prop}:@tyW Tryz.prog 208 ⟨K⟩=K Vm:=qi aXZ
theorem awi:Vm.kd=Kd.oth:=ID rfl
theorem amZ:Vm.kd.agg=false:=ID rfl
theorem ahB:Vm.size=1:=ID rfl
theorem ab4:Vm.bytes=8:=ID rfl
theorem awg:qy Vm=True:=eq_true rfl
theorem awh:zc Vm=[.v Value.nilFunc]:=ID rfl
theorem aVr{K:TI→Prop}:@tyW Tryz.prog 209 ⟨K⟩=K Vl:=qi aXY
theorem awf:Vl.kd=Kd.oth:=ID rfl
theorem amY:Vl.kd.agg=false:=ID rfl
theorem ahA:Vl.size=1:=ID rfl
theorem ab3:Vl.bytes=8:=ID rfl
theorem awd:qy Vl=True:=eq_true rfl
theorem awe:zc Vl=[.v Value.nilFunc]:=ID rfl
theorem aVq{K:TI→Prop}:@tyW Tryz.prog 210 ⟨K⟩=K Vk:=qi aXX
theorem awc:Vk.kd=Kd.oth:=ID rfl
theorem amX:Vk.kd.agg=false:=ID rfl
theorem ahz:Vk.size=1:=ID rfl
theorem ab2:Vk.bytes=8:=ID rfl
theorem awa:qy Vk=True:=eq_true rfl
theorem awb:zc Vk=[.v Value.nilFunc]:=ID rfl
theorem aVp{K:TI→Prop}:@tyW Tryz.prog 211 ⟨K⟩=K Vj:=qi aXW
theorem av9:Vj.kd=Kd.oth:=ID rfl
theorem amW:Vj.kd.agg=false:=ID rfl
theorem ahy:Vj.size=1:=ID rfl
theorem ab1:Vj.bytes=8:=ID rfl
theorem av7:qy Vj=True:=eq_true rfl
theorem av8:zc Vj=[.v Value.nilFunc]:=ID rfl
theorem aVo{K:TI→Prop}:@tyW Tryz.prog 212 ⟨K⟩=K Vi:=qi aXV
theorem av6:Vi.kd=Kd.oth:=ID rfl
theorem amV:Vi.kd.agg=false:=ID rfl
theorem ahx:Vi.size=1:=ID rfl
theorem ab0:Vi.bytes=8:=ID rfl
theorem av4:qy Vi=True:=eq_true rfl
theorem av5:zc Vi=[.v Value.nilFunc]:=ID rfl
theorem aVn{K:TI→Prop}:@tyW Tryz.prog 213 ⟨K⟩=K Vh:=qi aXU
theorem av3:Vh.kd=Kd.oth:=ID rfl
theorem amU:Vh.kd.agg=false:=ID rfl
theorem ahw:Vh.size=1:=ID rfl
theorem abZ:Vh.bytes=8:=ID rfl
theorem av1:qy Vh=True:=eq_true rfl
theorem av2:zc Vh=[.v Value.nilFunc]:=ID rfl
theorem aVm{K:TI→Prop}:@tyW Tryz.prog 214 ⟨K⟩=K Vg:=qi aXT
theorem av0:Vg.kd=Kd.oth:=ID rfl
theorem amT:Vg.kd.agg=false:=ID rfl
theorem ahv:Vg.size=1:=ID rfl
theorem abY:Vg.bytes=8:=ID rfl
theorem avY:qy Vg=True:=eq_true rfl
theorem avZ:zc Vg=[.v Value.nilFunc]:=ID rfl
theorem aVl{K:TI→Prop}:@tyW Tryz.prog 215 ⟨K⟩=K Vf:=qi aXS
theorem avX:Vf.kd=Kd.oth:=ID rfl
theorem amS:Vf.kd.agg=false:=ID rfl
theorem ahu:Vf.size=1:=ID rfl
theorem abX:Vf.bytes=8:=ID rfl
theorem avV:qy Vf=True:=eq_true rfl
theorem avW:zc Vf=[.v Value.nilFunc]:=ID rfl
theorem aVk{K:TI→Prop}:@tyW Tryz.prog 216 ⟨K⟩=K Ve:=qi aXR
theorem avU:Ve.kd=Kd.int IntKind.u64:=ID rfl
theorem amR:Ve.kd.agg=false:=ID rfl
theorem aht:Ve.size=1:=ID rfl
theorem abW:Ve.bytes=8:=ID rfl
theorem avS:qy Ve=True:=eq_true rfl
theorem avT:zc Ve=[.v (Value.int IntKind.u64 0)]:=ID rfl
theorem aVj{K:TI→Prop}:@tyW Tryz.prog 217 ⟨K⟩=K Vd:=qi aXQ
theorem avR:Vd.kd=Kd.oth:=ID rfl
theorem amQ:Vd.kd.agg=false:=ID rfl
theorem ahs:Vd.size=1:=ID rfl
theorem abV:Vd.bytes=8:=ID rfl
theorem avP:qy Vd=True:=eq_true rfl
theorem avQ:zc Vd=[.v Value.nilFunc]:=ID rfl
theorem aVi{K:TI→Prop}:@tyW Tryz.prog 218 ⟨K⟩=K Vc:=qi aXP
theorem avO:Vc.kd=Kd.oth:=ID rfl
theorem amP:Vc.kd.agg=false:=ID rfl
theorem ahr:Vc.size=1:=ID rfl
theorem abU:Vc.bytes=8:=ID rfl
theorem avM:qy Vc=True:=eq_true rfl
theorem avN:zc Vc=[.v Value.nilFunc]:=ID rfl
theorem aVh{K:TI→Prop}:@tyW Tryz.prog 219 ⟨K⟩=K Vb:=qi aXO
theorem avL:Vb.kd=Kd.oth:=ID rfl
theorem amO:Vb.kd.agg=false:=ID rfl
theorem ahq:Vb.size=1:=ID rfl
theorem abT:Vb.bytes=8:=ID rfl
theorem avJ:qy Vb=True:=eq_true rfl
theorem avK:zc Vb=[.v Value.nilFunc]:=ID rfl
theorem aVg{K:TI→Prop}:@tyW Tryz.prog 220 ⟨K⟩=K Va:=qi aXN
theorem avH:Va.kd=Kd.oth:=ID rfl
theorem amM:Va.kd.agg=false:=ID rfl
theorem aho:Va.size=1:=ID rfl
theorem abS:Va.bytes=8:=ID rfl
theorem avF:qy Va=True:=eq_true rfl
theorem avG:zc Va=[.v Value.nilFunc]:=ID rfl
theorem aVf{K:TI→Prop}:@tyW Tryz.prog 221 ⟨K⟩=K X9:=qi aXM
theorem avE:X9.kd=Kd.oth:=ID rfl
theorem amL:X9.kd.agg=false:=ID rfl
theorem ahn:X9.size=1:=ID rfl
theorem abR:X9.bytes=8:=ID rfl
theorem avC:qy X9=True:=eq_true rfl
theorem avD:zc X9=[.v Value.nilFunc]:=ID rfl
theorem aVe{K:TI→Prop}:@tyW Tryz.prog 222 ⟨K⟩=K X8:=qi aXL
theorem avB:X8.kd=Kd.oth:=ID rfl
theorem amK:X8.kd.agg=false:=ID rfl
theorem ahm:X8.size=1:=ID rfl
theorem abQ:X8.bytes=8:=ID rfl
theorem avz:qy X8=True:=eq_true rfl
theorem avA:zc X8=[.v Value.nilFunc]:=ID rfl
theorem aVd{K:TI→Prop}:@tyW Tryz.prog 224 ⟨K⟩=K X7:=qi aXK
theorem avy:X7.kd=Kd.oth:=ID rfl
theorem amJ:X7.kd.agg=false:=ID rfl
theorem ahl:X7.size=1:=ID rfl
theorem abP:X7.bytes=8:=ID rfl
theorem avw:qy X7=True:=eq_true rfl
theorem avx:zc X7=[.v Value.nilFunc]:=ID rfl
theorem aVc{K:TI→Prop}:@tyW Tryz.prog 225 ⟨K⟩=K X6:=qi aXJ
theorem avv:X6.kd=Kd.oth:=ID rfl
theorem amI:X6.kd.agg=false:=ID rfl
theorem ahk:X6.size=1:=ID rfl
theorem abO:X6.bytes=8:=ID rfl
theorem avt:qy X6=True:=eq_true rfl
theorem avu:zc X6=[.v Value.nilFunc]:=ID rfl
theorem aVb{K:TI→Prop}:@tyW Tryz.prog 226 ⟨K⟩=K X5:=qi aXI
theorem avs:X5.kd=Kd.oth:=ID rfl
theorem amH:X5.kd.agg=false:=ID rfl
theorem ahj:X5.size=1:=ID rfl
theorem abN:X5.bytes=8:=ID rfl
theorem avq:qy X5=True:=eq_true rfl
theorem avr:zc X5=[.v Value.nilFunc]:=ID rfl
theorem aVa{K:TI→Prop}:@tyW Tryz.prog 227 ⟨K⟩=K X4:=qi aXH
theorem avp:X4.kd=Kd.oth:=ID rfl
theorem amG:X4.kd.agg=false:=ID rfl
theorem ahi:X4.size=1:=ID rfl
theorem abM:X4.bytes=8:=ID rfl
theorem avn:qy X4=True:=eq_true rfl
theorem avo:zc X4=[.v Value.nilFunc]:=ID rfl
theorem aU9{K:TI→Prop}:@tyW Tryz.prog 228 ⟨K⟩=K X3:=qi aXG
theorem avm:X3.kd=Kd.oth:=ID rfl
theorem amF:X3.kd.agg=false:=ID rfl
theorem ahh:X3.size=1:=ID rfl
theorem abL:X3.bytes=8:=ID rfl
theorem avk:qy X3=True:=eq_true rfl
theorem avl:zc X3=[.v Value.nilFunc]:=ID rfl
theorem aU8{K:TI→Prop}:@tyW Tryz.prog 229 ⟨K⟩=K X2:=qi aXF
theorem avj:X2.kd=Kd.oth:=ID rfl
theorem amE:X2.kd.agg=false:=ID rfl
theorem ahg:X2.size=1:=ID rfl
theorem abK:X2.bytes=8:=ID rfl
theorem avh:qy X2=True:=eq_true rfl
theorem avi:zc X2=[.v Value.nilFunc]:=ID rfl
theorem aU7{K:TI→Prop}:@tyW Tryz.prog 230 ⟨K⟩=K X1:=qi aXE
theorem avf:X1.kd=Kd.oth:=ID rfl
theorem amC:X1.kd.agg=false:=ID rfl
theorem ahe:X1.size=1:=ID rfl
theorem abJ:X1.bytes=8:=ID rfl
theorem avd:qy X1=True:=eq_true rfl
theorem ave:zc X1=[.v Value.nilFunc]:=ID rfl
theorem aU6{K:TI→Prop}:@tyW Tryz.prog 231 ⟨K⟩=K X0:=qi aXD
theorem avc:X0.kd=Kd.oth:=ID rfl
theorem amB:X0.kd.agg=false:=ID rfl
theorem ahd:X0.size=1:=ID rfl
theorem abI:X0.bytes=8:=ID rfl
theorem ava:qy X0=True:=eq_true rfl
theorem avb:zc X0=[.v Value.nilFunc]:=ID rfl
theorem aU5{K:TI→Prop}:@tyW Tryz.prog 232 ⟨K⟩=K XZ:=qi aXC
theorem au9:XZ.kd=Kd.oth:=ID rfl
theorem amA:XZ.kd.agg=false:=ID rfl
theorem ahc:XZ.size=1:=ID rfl
theorem abH:XZ.bytes=8:=ID rfl
theorem au7:qy XZ=True:=eq_true rfl
theorem au8:zc XZ=[.v Value.nilFunc]:=ID rfl
theorem aU4{K:TI→Prop}:@tyW Tryz.prog 233 ⟨K⟩=K XY:=qi aXB
theorem au6:XY.kd=Kd.oth:=ID rfl
theorem amz:XY.kd.agg=false:=ID rfl
theorem ahb:XY.size=1:=ID rfl
theorem abG:XY.bytes=8:=ID rfl
theorem au4:qy XY=True:=eq_true rfl
theorem au5:zc XY=[.v Value.nilFunc]:=ID rfl
theorem aU3{K:TI→Prop}:@tyW Tryz.prog 234 ⟨K⟩=K XX:=qi aXA
theorem au3:XX.kd=Kd.oth:=ID rfl
theorem amy:XX.kd.agg=false:=ID rfl
theorem aha:XX.size=1:=ID rfl
theorem abF:XX.bytes=8:=ID rfl
theorem au1:qy XX=True:=eq_true rfl
theorem au2:zc XX=[.v Value.nilFunc]:=ID rfl
theorem aU2{K:TI→Prop}:@tyW Tryz.prog 235 ⟨K⟩=K XW:=qi aXz
theorem au0:XW.kd=Kd.oth:=ID rfl
theorem amx:XW.kd.agg=false:=ID rfl
theorem ag9:XW.size=1:=ID rfl
theorem abE:XW.bytes=8:=ID rfl
theorem auY:qy XW=True:=eq_true rfl
theorem auZ:zc XW=[.v Value.nilFunc]:=ID rfl
theorem aU1{K:TI→Prop}:@tyW Tryz.prog 236 ⟨K⟩=K XV:=qi aXy
theorem auX:XV.kd=Kd.oth:=ID rfl
theorem amw:XV.kd.agg=false:=ID rfl
theorem ag8:XV.size=1:=ID rfl
theorem abD:XV.bytes=8:=ID rfl
theorem auV:qy XV=True:=eq_true rfl
theorem auW:zc XV=[.v Value.nilFunc]:=ID rfl
theorem aU0{K:TI→Prop}:@tyW Tryz.prog 237 ⟨K⟩=K XU:=qi aXx
theorem auU:XU.kd=Kd.oth:=ID rfl
theorem amv:XU.kd.agg=false:=ID rfl
theorem ag7:XU.size=1:=ID rfl
theorem abC:XU.bytes=8:=ID rfl
theorem auS:qy XU=True:=eq_true rfl
theorem auT:zc XU=[.v Value.nilFunc]:=ID rfl
theorem aUZ{K:TI→Prop}:@tyW Tryz.prog 238 ⟨K⟩=K XT:=qi aXw
theorem auR:XT.kd=Kd.oth:=ID rfl
theorem amu:XT.kd.agg=false:=ID rfl
theorem ag6:XT.size=1:=ID rfl
theorem abB:XT.bytes=8:=ID rfl
theorem auP:qy XT=True:=eq_true rfl
theorem auQ:zc XT=[.v Value.nilFunc]:=ID rfl
theorem aUY{K:TI→Prop}:@tyW Tryz.prog 239 ⟨K⟩=K XS:=qi aXv
theorem auO:XS.kd=Kd.oth:=ID rfl
theorem amt:XS.kd.agg=false:=ID rfl
theorem ag5:XS.size=1:=ID rfl
theorem abA:XS.bytes=8:=ID rfl
theorem auM:qy XS=True:=eq_true rfl
theorem auN:zc XS=[.v Value.nilFunc]:=ID rfl
theorem aUX{K:TI→Prop}:@tyW Tryz.prog 240 ⟨K⟩=K XR:=qi aXu
theorem auK:XR.kd=Kd.oth:=ID rfl
theorem amq:XR.kd.agg=false:=ID rfl
theorem ag3:XR.size=1:=ID rfl
theorem abz:XR.bytes=8:=ID rfl
theorem auI:qy XR=True:=eq_true rfl
theorem auJ:zc XR=[.v Value.nilFunc]:=ID rfl
theorem aUW{K:TI→Prop}:@tyW Tryz.prog 241 ⟨K⟩=K XQ:=qi aXt
theorem auH:XQ.kd=Kd.oth:=ID rfl
theorem amp:XQ.kd.agg=false:=ID rfl
theorem ag2:XQ.size=1:=ID rfl
theorem aby:XQ.bytes=8:=ID rfl
theorem auF:qy XQ=True:=eq_true rfl
theorem auG:zc XQ=[.v Value.nilFunc]:=ID rfl
theorem aUV{K:TI→Prop}:@tyW Tryz.prog 242 ⟨K⟩=K XP:=qi aXs
theorem auE:XP.kd=Kd.oth:=ID rfl
theorem amo:XP.kd.agg=false:=ID rfl
theorem ag1:XP.size=1:=ID rfl
theorem abx:XP.bytes=8:=ID rfl
theorem auC:qy XP=True:=eq_true rfl
theorem auD:zc XP=[.v Value.nilFunc]:=ID rfl
theorem aUU{K:TI→Prop}:@tyW Tryz.prog 243 ⟨K⟩=K XO:=qi aXr
theorem auB:XO.kd=Kd.oth:=ID rfl
theorem amn:XO.kd.agg=false:=ID rfl
theorem ag0:XO.size=1:=ID rfl
theorem abw:XO.bytes=8:=ID rfl
theorem auz:qy XO=True:=eq_true rfl
theorem auA:zc XO=[.v Value.nilFunc]:=ID rfl
theorem aUT{K:TI→Prop}:@tyW Tryz.prog 245 ⟨K⟩=K XN:=qi aXq
theorem auy:XN.kd=Kd.oth:=ID rfl
theorem amm:XN.kd.agg=false:=ID rfl
theorem agZ:XN.size=1:=ID rfl
theorem abv:XN.bytes=8:=ID rfl
theorem auw:qy XN=True:=eq_true rfl
theorem aux:zc XN=[.v Value.nilFunc]:=ID rfl
theorem aUS{K:TI→Prop}:@tyW Tryz.prog 246 ⟨K⟩=K XM:=qi aXp
theorem auv:XM.kd=Kd.oth:=ID rfl
theorem aml:XM.kd.agg=false:=ID rfl
theorem agY:XM.size=1:=ID rfl
theorem abu:XM.bytes=8:=ID rfl
theorem aut:qy XM=True:=eq_true rfl
theorem auu:zc XM=[.v Value.nilFunc]:=ID rfl
theorem aUR{K:TI→Prop}:@tyW Tryz.prog 247 ⟨K⟩=K XL:=qi aXo
theorem aus:XL.kd=Kd.oth:=ID rfl
theorem amk:XL.kd.agg=false:=ID rfl
theorem agX:XL.size=1:=ID rfl
theorem abt:XL.bytes=8:=ID rfl
theorem auq:qy XL=True:=eq_true rfl
theorem aur:zc XL=[.v Value.nilFunc]:=ID rfl
theorem aUQ{K:TI→Prop}:@tyW Tryz.prog 249 ⟨K⟩=K XK:=qi aXn
theorem aup:XK.kd=Kd.oth:=ID rfl
theorem amj:XK.kd.agg=false:=ID rfl
theorem agW:XK.size=1:=ID rfl
theorem abr:XK.bytes=8:=ID rfl
theorem aun:qy XK=True:=eq_true rfl
theorem auo:zc XK=[.v Value.nilFunc]:=ID rfl
theorem aUP{K:TI→Prop}:@tyW Tryz.prog 250 ⟨K⟩=K XJ:=qi aXm
theorem aul:XJ.kd=Kd.oth:=ID rfl
theorem amg:XJ.kd.agg=false:=ID rfl
theorem agU:XJ.size=1:=ID rfl
theorem abq:XJ.bytes=8:=ID rfl
theorem auj:qy XJ=True:=eq_true rfl
theorem auk:zc XJ=[.v Value.nilFunc]:=ID rfl
theorem aUO{K:TI→Prop}:@tyW Tryz.prog 251 ⟨K⟩=K XI:=qi aXl
theorem aui:XI.kd=Kd.oth:=ID rfl
theorem amf:XI.kd.agg=false:=ID rfl
theorem agT:XI.size=1:=ID rfl
theorem abp:XI.bytes=8:=ID rfl
theorem aug:qy XI=True:=eq_true rfl
theorem auh:zc XI=[.v Value.nilFunc]:=ID rfl
theorem aUN{K:TI→Prop}:@tyW Tryz.prog 252 ⟨K⟩=K XH:=qi aXk
theorem auf:XH.kd=Kd.int IntKind.u32:=ID rfl
theorem ame:XH.kd.agg=false:=ID rfl
theorem agS:XH.size=1:=ID rfl
theorem abo:XH.bytes=4:=ID rfl
theorem aud:qy XH=True:=eq_true rfl
theorem aue:zc XH=[.v (Value.int IntKind.u32 0)]:=ID rfl
theorem aUM{K:TI→Prop}:@tyW Tryz.prog 253 ⟨K⟩=K XG:=qi aXj
theorem auc:XG.kd=Kd.oth:=ID rfl
theorem amd:XG.kd.agg=false:=ID rfl
theorem agR:XG.size=1:=ID rfl
theorem abn:XG.bytes=8:=ID rfl
theorem aua:qy XG=True:=eq_true rfl
theorem aub:zc XG=[.v Value.nilFunc]:=ID rfl
theorem aUL{K:TI→Prop}:@tyW Tryz.prog 254 ⟨K⟩=K XF:=qi aXi
theorem at9:XF.kd=Kd.int IntKind.u64:=ID rfl
theorem amc:XF.kd.agg=false:=ID rfl
theorem agQ:XF.size=1:=ID rfl
theorem abm:XF.bytes=8:=ID rfl
theorem at7:qy XF=True:=eq_true rfl
theorem at8:zc XF=[.v (Value.int IntKind.u64 0)]:=ID rfl
theorem aUK{K:TI→Prop}:@tyW Tryz.prog 256 ⟨K⟩=K XE:=qi aXh
theorem at6:XE.kd=Kd.oth:=ID rfl
theorem amb:XE.kd.agg=false:=ID rfl
theorem agP:XE.size=1:=ID rfl
theorem abl:XE.bytes=8:=ID rfl
theorem at4:qy XE=True:=eq_true rfl
theorem at5:zc XE=[.v Value.nilFunc]:=ID rfl
theorem aUJ{K:TI→Prop}:@tyW Tryz.prog 257 ⟨K⟩=K XD:=qi aXg
theorem at3:XD.kd=Kd.oth:=ID rfl
theorem ama:XD.kd.agg=false:=ID rfl
theorem agO:XD.size=1:=ID rfl
theorem abk:XD.bytes=8:=ID rfl
theorem at1:qy XD=True:=eq_true rfl
theorem at2:zc XD=[.v Value.nilFunc]:=ID rfl
theorem aUI{K:TI→Prop}:@tyW Tryz.prog 258 ⟨K⟩=K XC:=qi aXf
theorem at0:XC.kd=Kd.oth:=ID rfl
theorem al9:XC.kd.agg=false:=ID rfl
theorem agN:XC.size=1:=ID rfl
theorem abj:XC.bytes=8:=ID rfl
theorem atY:qy XC=True:=eq_true rfl
theorem atZ:zc XC=[.v Value.nilFunc]:=ID rfl
theorem aUH{K:TI→Prop}:@tyW Tryz.prog 259 ⟨K⟩=K XB:=qi aXe
theorem atX:XB.kd=Kd.oth:=ID rfl
theorem al8:XB.kd.agg=false:=ID rfl
theorem agM:XB.size=1:=ID rfl
theorem abi:XB.bytes=8:=ID rfl
theorem atV:qy XB=True:=eq_true rfl
theorem atW:zc XB=[.v Value.nilFunc]:=ID rfl
theorem aUG{K:TI→Prop}:@tyW Tryz.prog 260 ⟨K⟩=K XA:=qi aXd
theorem atT:XA.kd=Kd.oth:=ID rfl
theorem al6:XA.kd.agg=false:=ID rfl
theorem agK:XA.size=1:=ID rfl
theorem abh:XA.bytes=8:=ID rfl
theorem atR:qy XA=True:=eq_true rfl
theorem atS:zc XA=[.v Value.nilFunc]:=ID rfl
theorem aUF{K:TI→Prop}:@tyW Tryz.prog 263 ⟨K⟩=K Xz:=qi aXc
theorem atQ:Xz.kd=Kd.oth:=ID rfl
theorem al5:Xz.kd.agg=false:=ID rfl
theorem agJ:Xz.size=1:=ID rfl
theorem abg:Xz.bytes=8:=ID rfl
theorem atO:qy Xz=True:=eq_true rfl
theorem atP:zc Xz=[.v Value.nilFunc]:=ID rfl
theorem aUE{K:TI→Prop}:@tyW Tryz.prog 267 ⟨K⟩=K Xy:=qi aXb
theorem atN:Xy.kd=Kd.stru [(0,266)]:=ID rfl
theorem al4:Xy.kd.agg=true:=ID rfl
theorem agI:Xy.size=0:=ID rfl
theorem abf:Xy.bytes=0:=ID rfl
theorem atL:qy Xy=True:=eq_true rfl
theorem atM:zc Xy=[]:=ID rfl
theorem aUD{K:TI→Prop}:@tyW Tryz.prog 268 ⟨K⟩=K Xx:=qi aXa
theorem atK:Xx.kd=Kd.stru [(0,266)]:=ID rfl
theorem al3:Xx.kd.agg=true:=ID rfl
theorem agH:Xx.size=0:=ID rfl
theorem abe:Xx.bytes=0:=ID rfl
theorem atI:qy Xx=True:=eq_true rfl
theorem atJ:zc Xx=[]:=ID rfl
theorem aUC{K:TI→Prop}:@tyW Tryz.prog 269 ⟨K⟩=K Xw:=qi aW9
theorem atH:Xw.kd=Kd.int IntKind.u8:=ID rfl
theorem al2:Xw.kd.agg=false:=ID rfl
theorem agG:Xw.size=1:=ID rfl
theorem abd:Xw.bytes=1:=ID rfl
theorem atF:qy Xw=True:=eq_true rfl
theorem atG:zc Xw=[.v (Value.int IntKind.u8 0)]:=ID rfl
theorem aUB{K:TI→Prop}:@tyW Tryz.prog 270 ⟨K⟩=K Xv:=qi aW8
theorem atE:Xv.kd=Kd.int IntKind.u8:=ID rfl
theorem al1:Xv.kd.agg=false:=ID rfl
theorem agF:Xv.size=1:=ID rfl
theorem abc:Xv.bytes=1:=ID rfl
theorem atC:qy Xv=True:=eq_true rfl
theorem atD:zc Xv=[.v (Value.int IntKind.u8 0)]:=ID rfl
theorem aUA{K:TI→Prop}:@tyW Tryz.prog 271 ⟨K⟩=K Xu:=qi aW7
theorem atB:Xu.kd=Kd.oth:=ID rfl
theorem al0:Xu.kd.agg=false:=ID rfl
theorem agE:Xu.size=1:=ID rfl
theorem abb:Xu.bytes=8:=ID rfl
theorem atz:qy Xu=True:=eq_true rfl
theorem atA:zc Xu=[.v Value.nilFunc]:=ID rfl
theorem aUz{K:TI→Prop}:@tyW Tryz.prog 273 ⟨K⟩=K Xt:=qi aW6
theorem aty:Xt.kd=Kd.int IntKind.i32:=ID rfl
theorem alZ:Xt.kd.agg=false:=ID rfl
theorem agD:Xt.size=1:=ID rfl
theorem aba:Xt.bytes=4:=ID rfl
theorem atw:qy Xt=True:=eq_true rfl
theorem atx:zc Xt=[.v (Value.int IntKind.i32 0)]:=ID rfl
theorem aUy{K:TI→Prop}:@tyW Tryz.prog 274 ⟨K⟩=K Xs:=qi aW5
theorem atv:Xs.kd=Kd.int IntKind.i32:=ID rfl
theorem alY:Xs.kd.agg=false:=ID rfl
theorem agC:Xs.size=1:=ID rfl
theorem aa9:Xs.bytes=4:=ID rfl
theorem att:qy Xs=True:=eq_true rfl
theorem atu:zc Xs=[.v (Value.int IntKind.i32 0)]:=ID rfl
theorem aUx{K:TI→Prop}:@tyW Tryz.prog 277 ⟨K⟩=K Xr:=qi aW4
theorem ats:Xr.kd=Kd.oth:=ID rfl
theorem alX:Xr.kd.agg=false:=ID rfl
theorem agB:Xr.size=1:=ID rfl
theorem aa8:Xr.bytes=8:=ID rfl
theorem atq:qy Xr=True:=eq_true rfl
theorem atr:zc Xr=[.v Value.nilFunc]:=ID rfl
theorem beN:qq Tryz.prog 2=True:=eq_true ⟨_,Tryz.func2,of_decide_eq_false (by kernel_rfl),rfl⟩
theorem beM:qq Tryz.prog 3=True:=eq_true ⟨_,Tryz.func3,of_decide_eq_false (by kernel_rfl),rfl⟩
theorem beL:qq Tryz.prog 4=True:=eq_true ⟨_,Tryz.func4,of_decide_eq_false (by kernel_rfl),rfl⟩
theorem beK:qq Tryz.prog 5=True:=eq_true ⟨_,Tryz.func5,of_decide_eq_false (by kernel_rfl),rfl⟩
theorem beJ:qq Tryz.prog 6=True:=eq_true ⟨_,Tryz.func6,of_decide_eq_false (by kernel_rfl),rfl⟩
theorem beI:qq Tryz.prog 7=True:=eq_true ⟨_,Tryz.func7,of_decide_eq_false (by kernel_rfl),rfl⟩
theorem beH:qq Tryz.prog 8=True:=eq_true ⟨_,Tryz.func8,of_decide_eq_false (by kernel_rfl),rfl⟩
theorem beG:qq Tryz.prog 9=True:=eq_true ⟨_,Tryz.func9,of_decide_eq_false (by kernel_rfl),rfl⟩
theorem bby:qq Tryz.prog 10=True:=eq_true ⟨_,Tryz.func10,of_decide_eq_false (by kernel_rfl),rfl⟩
theorem bbx:qq Tryz.prog 11=True:=eq_true ⟨_,Tryz.func11,of_decide_eq_false (by kernel_rfl),rfl⟩
theorem bbw:qq Tryz.prog 12=True:=eq_true ⟨_,Tryz.func12,of_decide_eq_false (by kernel_rfl),rfl⟩
theorem bbv:qq Tryz.prog 13=True:=eq_true ⟨_,Tryz.func13,of_decide_eq_false (by kernel_rfl),rfl⟩
theorem bbu:qq Tryz.prog 14=True:=eq_true ⟨_,Tryz.func14,of_decide_eq_false (by kernel_rfl),rfl⟩
theorem bbt:qq Tryz.prog 15=True:=eq_true ⟨_,Tryz.func15,of_decide_eq_false (by kernel_rfl),rfl⟩
theorem bbs:qq Tryz.prog 16=True:=eq_true ⟨_,Tryz.func16,of_decide_eq_false (by kernel_rfl),rfl⟩
theorem bbr:qq Tryz.prog 17=True:=eq_true ⟨_,Tryz.func17,of_decide_eq_false (by kernel_rfl),rfl⟩
theorem bbq:qq Tryz.prog 18=True:=eq_true ⟨_,Tryz.func18,of_decide_eq_false (by kernel_rfl),rfl⟩
theorem bbp:qq Tryz.prog 19=True:=eq_true ⟨_,Tryz.func19,of_decide_eq_false (by kernel_rfl),rfl⟩
theorem bbo:qq Tryz.prog 20=True:=eq_true ⟨_,Tryz.func20,of_decide_eq_false (by kernel_rfl),rfl⟩
theorem bbn:qq Tryz.prog 21=True:=eq_true ⟨_,Tryz.func21,of_decide_eq_false (by kernel_rfl),rfl⟩
theorem bbm:qq Tryz.prog 22=True:=eq_true ⟨_,Tryz.func22,of_decide_eq_false (by kernel_rfl),rfl⟩
theorem bbl:qq Tryz.prog 23=True:=eq_true ⟨_,Tryz.func23,of_decide_eq_false (by kernel_rfl),rfl⟩
theorem bbk:qq Tryz.prog 24=True:=eq_true ⟨_,Tryz.func24,of_decide_eq_false (by kernel_rfl),rfl⟩
theorem bbj:qq Tryz.prog 25=True:=eq_true ⟨_,Tryz.func25,of_decide_eq_false (by kernel_rfl),rfl⟩
theorem bbi:qq Tryz.prog 26=True:=eq_true ⟨_,Tryz.func26,of_decide_eq_false (by kernel_rfl),rfl⟩
theorem bbh:qq Tryz.prog 27=True:=eq_true ⟨_,Tryz.func27,of_decide_eq_false (by kernel_rfl),rfl⟩
theorem bbg:qq Tryz.prog 28=True:=eq_true ⟨_,Tryz.func28,of_decide_eq_false (by kernel_rfl),rfl⟩
theorem bbf:qq Tryz.prog 29=True:=eq_true ⟨_,Tryz.func29,of_decide_eq_false (by kernel_rfl),rfl⟩
theorem bbe:qq Tryz.prog 30=True:=eq_true ⟨_,Tryz.func30,of_decide_eq_false (by kernel_rfl),rfl⟩
theorem bbd:qq Tryz.prog 31=True:=eq_true ⟨_,Tryz.func31,of_decide_eq_false (by kernel_rfl),rfl⟩
theorem bbc:qq Tryz.prog 32=True:=eq_true ⟨_,Tryz.func32,of_decide_eq_false (by kernel_rfl),rfl⟩
theorem bbb:qq Tryz.prog 33=True:=eq_true ⟨_,Tryz.func33,of_decide_eq_false (by kernel_rfl),rfl⟩
theorem bba:qq Tryz.prog 34=True:=eq_true ⟨_,Tryz.func34,of_decide_eq_false (by kernel_rfl),rfl⟩
theorem ba9:qq Tryz.prog 35=True:=eq_true ⟨_,Tryz.func35,of_decide_eq_false (by kernel_rfl),rfl⟩
theorem ba8:qq Tryz.prog 36=True:=eq_true ⟨_,Tryz.func36,of_decide_eq_false (by kernel_rfl),rfl⟩
theorem ba7:qq Tryz.prog 37=True:=eq_true ⟨_,Tryz.func37,of_decide_eq_false (by kernel_rfl),rfl⟩
theorem ba6:qq Tryz.prog 38=True:=eq_true ⟨_,Tryz.func38,of_decide_eq_false (by kernel_rfl),rfl⟩
theorem ba5:qq Tryz.prog 39=True:=eq_true ⟨_,Tryz.func39,of_decide_eq_false (by kernel_rfl),rfl⟩
theorem ba4:qq Tryz.prog 40=True:=eq_true ⟨_,Tryz.func40,of_decide_eq_false (by kernel_rfl),rfl⟩
theorem ba3:qq Tryz.prog 41=True:=eq_true ⟨_,Tryz.func41,of_decide_eq_false (by kernel_rfl),rfl⟩
theorem ba2:qq Tryz.prog 42=True:=eq_true ⟨_,Tryz.func42,of_decide_eq_false (by kernel_rfl),rfl⟩
theorem ba1:qq Tryz.prog 43=True:=eq_true ⟨_,Tryz.func43,of_decide_eq_false (by kernel_rfl),rfl⟩
theorem ba0:qq Tryz.prog 44=True:=eq_true ⟨_,Tryz.func44,of_decide_eq_false (by kernel_rfl),rfl⟩
theorem baZ:qq Tryz.prog 45=True:=eq_true ⟨_,Tryz.func45,of_decide_eq_false (by kernel_rfl),rfl⟩
theorem baY:qq Tryz.prog 46=True:=eq_true ⟨_,Tryz.func46,of_decide_eq_false (by kernel_rfl),rfl⟩
theorem baX:qq Tryz.prog 47=True:=eq_true ⟨_,Tryz.func47,of_decide_eq_false (by kernel_rfl),rfl⟩
theorem baW:qq Tryz.prog 48=True:=eq_true ⟨_,Tryz.func48,of_decide_eq_false (by kernel_rfl),rfl⟩
theorem baV:qq Tryz.prog 49=True:=eq_true ⟨_,Tryz.func49,of_decide_eq_false (by kernel_rfl),rfl⟩
theorem baU:qq Tryz.prog 50=True:=eq_true ⟨_,Tryz.func50,of_decide_eq_false (by kernel_rfl),rfl⟩
theorem baT:qq Tryz.prog 51=True:=eq_true ⟨_,Tryz.func51,of_decide_eq_false (by kernel_rfl),rfl⟩
theorem baS:qq Tryz.prog 52=True:=eq_true ⟨_,Tryz.func52,of_decide_eq_false (by kernel_rfl),rfl⟩
theorem baR:qq Tryz.prog 53=True:=eq_true ⟨_,Tryz.func53,of_decide_eq_false (by kernel_rfl),rfl⟩
theorem baQ:qq Tryz.prog 54=True:=eq_true ⟨_,Tryz.func54,of_decide_eq_false (by kernel_rfl),rfl⟩
theorem baP:qq Tryz.prog 55=True:=eq_true ⟨_,Tryz.func55,of_decide_eq_false (by kernel_rfl),rfl⟩
theorem baO:qq Tryz.prog 56=True:=eq_true ⟨_,Tryz.func56,of_decide_eq_false (by kernel_rfl),rfl⟩
theorem baN:qq Tryz.prog 57=True:=eq_true ⟨_,Tryz.func57,of_decide_eq_false (by kernel_rfl),rfl⟩
theorem baM:qq Tryz.prog 58=True:=eq_true ⟨_,Tryz.func58,of_decide_eq_false (by kernel_rfl),rfl⟩
theorem baL:qq Tryz.prog 59=True:=eq_true ⟨_,Tryz.func59,of_decide_eq_false (by kernel_rfl),rfl⟩
theorem baK:qq Tryz.prog 60=True:=eq_true ⟨_,Tryz.func60,of_decide_eq_false (by kernel_rfl),rfl⟩
theorem baJ:qq Tryz.prog 61=True:=eq_true ⟨_,Tryz.func61,of_decide_eq_false (by kernel_rfl),rfl⟩
theorem baI:qq Tryz.prog 62=True:=eq_true ⟨_,Tryz.func62,of_decide_eq_false (by kernel_rfl),rfl⟩
theorem baH:qq Tryz.prog 63=True:=eq_true ⟨_,Tryz.func63,of_decide_eq_false (by kernel_rfl),rfl⟩
theorem baG:qq Tryz.prog 64=True:=eq_true ⟨_,Tryz.func64,of_decide_eq_false (by kernel_rfl),rfl⟩
theorem baF:qq Tryz.prog 65=True:=eq_true ⟨_,Tryz.func65,of_decide_eq_false (by kernel_rfl),rfl⟩
theorem baE:qq Tryz.prog 66=True:=eq_true ⟨_,Tryz.func66,of_decide_eq_false (by kernel_rfl),rfl⟩
theorem baD:qq Tryz.prog 67=True:=eq_true ⟨_,Tryz.func67,of_decide_eq_false (by kernel_rfl),rfl⟩
theorem baC:qq Tryz.prog 68=True:=eq_true ⟨_,Tryz.func68,of_decide_eq_false (by kernel_rfl),rfl⟩
theorem baB:qq Tryz.prog 69=True:=eq_true ⟨_,Tryz.func69,of_decide_eq_false (by kernel_rfl),rfl⟩
theorem baA:qq Tryz.prog 70=True:=eq_true ⟨_,Tryz.func70,of_decide_eq_false (by kernel_rfl),rfl⟩
theorem baz:qq Tryz.prog 71=True:=eq_true ⟨_,Tryz.func71,of_decide_eq_false (by kernel_rfl),rfl⟩
theorem bay:qq Tryz.prog 72=True:=eq_true ⟨_,Tryz.func72,of_decide_eq_false (by kernel_rfl),rfl⟩
theorem bax:qq Tryz.prog 73=True:=eq_true ⟨_,Tryz.func73,of_decide_eq_false (by kernel_rfl),rfl⟩
theorem baw:qq Tryz.prog 74=True:=eq_true ⟨_,Tryz.func74,of_decide_eq_false (by kernel_rfl),rfl⟩
theorem bav:qq Tryz.prog 75=True:=eq_true ⟨_,Tryz.func75,of_decide_eq_false (by kernel_rfl),rfl⟩
theorem bau:qq Tryz.prog 76=True:=eq_true ⟨_,Tryz.func76,of_decide_eq_false (by kernel_rfl),rfl⟩
theorem bat:qq Tryz.prog 77=True:=eq_true ⟨_,Tryz.func77,of_decide_eq_false (by kernel_rfl),rfl⟩
theorem bas:qq Tryz.prog 78=True:=eq_true ⟨_,Tryz.func78,of_decide_eq_false (by kernel_rfl),rfl⟩
theorem bar:qq Tryz.prog 79=True:=eq_true ⟨_,Tryz.func79,of_decide_eq_false (by kernel_rfl),rfl⟩
theorem baq:qq Tryz.prog 80=True:=eq_true ⟨_,Tryz.func80,of_decide_eq_false (by kernel_rfl),rfl⟩
theorem bap:qq Tryz.prog 81=True:=eq_true ⟨_,Tryz.func81,of_decide_eq_false (by kernel_rfl),rfl⟩
theorem bao:qq Tryz.prog 82=True:=eq_true ⟨_,Tryz.func82,of_decide_eq_false (by kernel_rfl),rfl⟩
theorem ban:qq Tryz.prog 83=True:=eq_true ⟨_,Tryz.func83,of_decide_eq_false (by kernel_rfl),rfl⟩
theorem bam:qq Tryz.prog 84=True:=eq_true ⟨_,Tryz.func84,of_decide_eq_false (by kernel_rfl),rfl⟩
theorem bal:qq Tryz.prog 85=True:=eq_true ⟨_,Tryz.func85,of_decide_eq_false (by kernel_rfl),rfl⟩
theorem bak:qq Tryz.prog 86=True:=eq_true ⟨_,Tryz.func86,of_decide_eq_false (by kernel_rfl),rfl⟩
theorem baj:qq Tryz.prog 87=True:=eq_true ⟨_,Tryz.func87,of_decide_eq_false (by kernel_rfl),rfl⟩
theorem bai:qq Tryz.prog 88=True:=eq_true ⟨_,Tryz.func88,of_decide_eq_false (by kernel_rfl),rfl⟩
theorem bah:qq Tryz.prog 89=True:=eq_true ⟨_,Tryz.func89,of_decide_eq_false (by kernel_rfl),rfl⟩
theorem bag:qq Tryz.prog 90=True:=eq_true ⟨_,Tryz.func90,of_decide_eq_false (by kernel_rfl),rfl⟩
theorem baf:qq Tryz.prog 91=True:=eq_true ⟨_,Tryz.func91,of_decide_eq_false (by kernel_rfl),rfl⟩
theorem bae:qq Tryz.prog 92=True:=eq_true ⟨_,Tryz.func92,of_decide_eq_false (by kernel_rfl),rfl⟩
theorem bac:qq Tryz.prog 93=True:=eq_true ⟨_,Tryz.func93,of_decide_eq_false (by kernel_rfl),rfl⟩
theorem bab:qq Tryz.prog 94=True:=eq_true ⟨_,Tryz.func94,of_decide_eq_false (by kernel_rfl),rfl⟩
theorem baa:qq Tryz.prog 95=True:=eq_true ⟨_,Tryz.func95,of_decide_eq_false (by kernel_rfl),rfl⟩
theorem aZ9:qq Tryz.prog 96=True:=eq_true ⟨_,Tryz.func96,of_decide_eq_false (by kernel_rfl),rfl⟩
theorem aZ8:qq Tryz.prog 97=True:=eq_true ⟨_,Tryz.func97,of_decide_eq_false (by kernel_rfl),rfl⟩
theorem aZ7:qq Tryz.prog 98=True:=eq_true ⟨_,Tryz.func98,of_decide_eq_false (by kernel_rfl),rfl⟩
theorem aZ6:qq Tryz.prog 99=True:=eq_true ⟨_,Tryz.func99,of_decide_eq_false (by kernel_rfl),rfl⟩
theorem aS4:qq Tryz.prog 100=True:=eq_true ⟨_,Tryz.func100,of_decide_eq_false (by kernel_rfl),rfl⟩
theorem aS3:qq Tryz.prog 101=True:=eq_true ⟨_,Tryz.func101,of_decide_eq_false (by kernel_rfl),rfl⟩
theorem aS2:qq Tryz.prog 102=True:=eq_true ⟨_,Tryz.func102,of_decide_eq_false (by kernel_rfl),rfl⟩
theorem aS1:qq Tryz.prog 103=True:=eq_true ⟨_,Tryz.func103,of_decide_eq_false (by kernel_rfl),rfl⟩
theorem aS0:qq Tryz.prog 104=True:=eq_true ⟨_,Tryz.func104,of_decide_eq_false (by kernel_rfl),rfl⟩
theorem aSZ:qq Tryz.prog 105=True:=eq_true ⟨_,Tryz.func105,of_decide_eq_false (by kernel_rfl),rfl⟩
theorem aSY:qq Tryz.prog 106=True:=eq_true ⟨_,Tryz.func106,of_decide_eq_false (by kernel_rfl),rfl⟩
theorem aSX:qq Tryz.prog 107=True:=eq_true ⟨_,Tryz.func107,of_decide_eq_false (by kernel_rfl),rfl⟩
theorem aSW:qq Tryz.prog 108=True:=eq_true ⟨_,Tryz.func108,of_decide_eq_false (by kernel_rfl),rfl⟩
theorem aSV:qq Tryz.prog 109=True:=eq_true ⟨_,Tryz.func109,of_decide_eq_false (by kernel_rfl),rfl⟩
theorem aSU:qq Tryz.prog 110=True:=eq_true ⟨_,Tryz.func110,of_decide_eq_false (by kernel_rfl),rfl⟩
theorem aST:qq Tryz.prog 111=True:=eq_true ⟨_,Tryz.func111,of_decide_eq_false (by kernel_rfl),rfl⟩
theorem aSS:qq Tryz.prog 112=True:=eq_true ⟨_,Tryz.func112,of_decide_eq_false (by kernel_rfl),rfl⟩
theorem aSR:qq Tryz.prog 113=True:=eq_true ⟨_,Tryz.func113,of_decide_eq_false (by kernel_rfl),rfl⟩
theorem aSQ:qq Tryz.prog 114=True:=eq_true ⟨_,Tryz.func114,of_decide_eq_false (by kernel_rfl),rfl⟩
theorem aSP:qq Tryz.prog 115=True:=eq_true ⟨_,Tryz.func115,of_decide_eq_false (by kernel_rfl),rfl⟩
theorem aSO:qq Tryz.prog 116=True:=eq_true ⟨_,Tryz.func116,of_decide_eq_false (by kernel_rfl),rfl⟩
theorem aSN:qq Tryz.prog 117=True:=eq_true ⟨_,Tryz.func117,of_decide_eq_false (by kernel_rfl),rfl⟩
theorem aSM:qq Tryz.prog 118=True:=eq_true ⟨_,Tryz.func118,of_decide_eq_false (by kernel_rfl),rfl⟩
theorem aSL:qq Tryz.prog 119=True:=eq_true ⟨_,Tryz.func119,of_decide_eq_false (by kernel_rfl),rfl⟩
theorem aSK:qq Tryz.prog 120=True:=eq_true ⟨_,Tryz.func120,of_decide_eq_false (by kernel_rfl),rfl⟩
theorem aSJ:qq Tryz.prog 121=True:=eq_true ⟨_,Tryz.func121,of_decide_eq_false (by kernel_rfl),rfl⟩
theorem aSI:qq Tryz.prog 122=True:=eq_true ⟨_,Tryz.func122,of_decide_eq_false (by kernel_rfl),rfl⟩
theorem aSH:qq Tryz.prog 123=True:=eq_true ⟨_,Tryz.func123,of_decide_eq_false (by kernel_rfl),rfl⟩
theorem aSG:qq Tryz.prog 124=True:=eq_true ⟨_,Tryz.func124,of_decide_eq_false (by kernel_rfl),rfl⟩
theorem aSF:qq Tryz.prog 125=True:=eq_true ⟨_,Tryz.func125,of_decide_eq_false (by kernel_rfl),rfl⟩
theorem aSE:qq Tryz.prog 126=True:=eq_true ⟨_,Tryz.func126,of_decide_eq_false (by kernel_rfl),rfl⟩
theorem aSD:qq Tryz.prog 127=True:=eq_true ⟨_,Tryz.func127,of_decide_eq_false (by kernel_rfl),rfl⟩
theorem aSC:qq Tryz.prog 128=True:=eq_true ⟨_,Tryz.func128,of_decide_eq_false (by kernel_rfl),rfl⟩
theorem aSB:qq Tryz.prog 129=True:=eq_true ⟨_,Tryz.func129,of_decide_eq_false (by kernel_rfl),rfl⟩
theorem aSA:qq Tryz.prog 130=True:=eq_true ⟨_,Tryz.func130,of_decide_eq_false (by kernel_rfl),rfl⟩
theorem aSz:qq Tryz.prog 131=True:=eq_true ⟨_,Tryz.func131,of_decide_eq_false (by kernel_rfl),rfl⟩
theorem aSy:qq Tryz.prog 132=True:=eq_true ⟨_,Tryz.func132,of_decide_eq_false (by kernel_rfl),rfl⟩
theorem aSx:qq Tryz.prog 133=True:=eq_true ⟨_,Tryz.func133,of_decide_eq_false (by kernel_rfl),rfl⟩
theorem aSw:qq Tryz.prog 134=True:=eq_true ⟨_,Tryz.func134,of_decide_eq_false (by kernel_rfl),rfl⟩
theorem aSv:qq Tryz.prog 135=True:=eq_true ⟨_,Tryz.func135,of_decide_eq_false (by kernel_rfl),rfl⟩
theorem aSu:qq Tryz.prog 136=True:=eq_true ⟨_,Tryz.func136,of_decide_eq_false (by kernel_rfl),rfl⟩
theorem aSt:qq Tryz.prog 137=True:=eq_true ⟨_,Tryz.func137,of_decide_eq_false (by kernel_rfl),rfl⟩
theorem aSs:qq Tryz.prog 138=True:=eq_true ⟨_,Tryz.func138,of_decide_eq_false (by kernel_rfl),rfl⟩
theorem aSr:qq Tryz.prog 139=True:=eq_true ⟨_,Tryz.func139,of_decide_eq_false (by kernel_rfl),rfl⟩
theorem aSq:qq Tryz.prog 140=True:=eq_true ⟨_,Tryz.func140,of_decide_eq_false (by kernel_rfl),rfl⟩
theorem aSp:qq Tryz.prog 141=True:=eq_true ⟨_,Tryz.func141,of_decide_eq_false (by kernel_rfl),rfl⟩
theorem aSo:qq Tryz.prog 142=True:=eq_true ⟨_,Tryz.func142,of_decide_eq_false (by kernel_rfl),rfl⟩
theorem aSn:qq Tryz.prog 143=True:=eq_true ⟨_,Tryz.func143,of_decide_eq_false (by kernel_rfl),rfl⟩
theorem aSm:qq Tryz.prog 144=True:=eq_true ⟨_,Tryz.func144,of_decide_eq_false (by kernel_rfl),rfl⟩
theorem aSl:qq Tryz.prog 145=True:=eq_true ⟨_,Tryz.func145,of_decide_eq_false (by kernel_rfl),rfl⟩
theorem aSk:qq Tryz.prog 146=True:=eq_true ⟨_,Tryz.func146,of_decide_eq_false (by kernel_rfl),rfl⟩
theorem aSj:qq Tryz.prog 147=True:=eq_true ⟨_,Tryz.func147,of_decide_eq_false (by kernel_rfl),rfl⟩
theorem aSi:qq Tryz.prog 148=True:=eq_true ⟨_,Tryz.func148,of_decide_eq_false (by kernel_rfl),rfl⟩
theorem aSh:qq Tryz.prog 149=True:=eq_true ⟨_,Tryz.func149,of_decide_eq_false (by kernel_rfl),rfl⟩
theorem aSg:qq Tryz.prog 150=True:=eq_true ⟨_,Tryz.func150,of_decide_eq_false (by kernel_rfl),rfl⟩
theorem aSf:qq Tryz.prog 151=True:=eq_true ⟨_,Tryz.func151,of_decide_eq_false (by kernel_rfl),rfl⟩
theorem aSe:qq Tryz.prog 152=True:=eq_true ⟨_,Tryz.func152,of_decide_eq_false (by kernel_rfl),rfl⟩
theorem aSd:qq Tryz.prog 153=True:=eq_true ⟨_,Tryz.func153,of_decide_eq_false (by kernel_rfl),rfl⟩
theorem aSc:qq Tryz.prog 154=True:=eq_true ⟨_,Tryz.func154,of_decide_eq_false (by kernel_rfl),rfl⟩
theorem aSb:qq Tryz.prog 155=True:=eq_true ⟨_,Tryz.func155,of_decide_eq_false (by kernel_rfl),rfl⟩
theorem aSa:qq Tryz.prog 156=True:=eq_true ⟨_,Tryz.func156,of_decide_eq_false (by kernel_rfl),rfl⟩
theorem aR9:qq Tryz.prog 157=True:=eq_true ⟨_,Tryz.func157,of_decide_eq_false (by kernel_rfl),rfl⟩
theorem aR8:qq Tryz.prog 158=True:=eq_true ⟨_,Tryz.func158,of_decide_eq_false (by kernel_rfl),rfl⟩
theorem aR7:qq Tryz.prog 159=True:=eq_true ⟨_,Tryz.func159,of_decide_eq_false (by kernel_rfl),rfl⟩
theorem aR6:qq Tryz.prog 160=True:=eq_true ⟨_,Tryz.func160,of_decide_eq_false (by kernel_rfl),rfl⟩
theorem aR5:qq Tryz.prog 161=True:=eq_true ⟨_,Tryz.func161,of_decide_eq_false (by kernel_rfl),rfl⟩
theorem aR4:qq Tryz.prog 162=True:=eq_true ⟨_,Tryz.func162,of_decide_eq_false (by kernel_rfl),rfl⟩
theorem aR3:qq Tryz.prog 163=True:=eq_true ⟨_,Tryz.func163,of_decide_eq_false (by kernel_rfl),rfl⟩
theorem aR2:qq Tryz.prog 164=True:=eq_true ⟨_,Tryz.func164,of_decide_eq_false (by kernel_rfl),rfl⟩
theorem aR1:qq Tryz.prog 165=True:=eq_true ⟨_,Tryz.func165,of_decide_eq_false (by kernel_rfl),rfl⟩
theorem aR0:qq Tryz.prog 166=True:=eq_true ⟨_,Tryz.func166,of_decide_eq_false (by kernel_rfl),rfl⟩
theorem aRZ:qq Tryz.prog 167=True:=eq_true ⟨_,Tryz.func167,of_decide_eq_false (by kernel_rfl),rfl⟩
theorem aRY:qq Tryz.prog 168=True:=eq_true ⟨_,Tryz.func168,of_decide_eq_false (by kernel_rfl),rfl⟩
theorem aRX:qq Tryz.prog 169=True:=eq_true ⟨_,Tryz.func169,of_decide_eq_false (by kernel_rfl),rfl⟩
theorem aRW:qq Tryz.prog 170=True:=eq_true ⟨_,Tryz.func170,of_decide_eq_false (by kernel_rfl),rfl⟩
theorem aRV:qq Tryz.prog 171=True:=eq_true ⟨_,Tryz.func171,of_decide_eq_false (by kernel_rfl),rfl⟩
theorem aRU:qq Tryz.prog 172=True:=eq_true ⟨_,Tryz.func172,of_decide_eq_false (by kernel_rfl),rfl⟩
theorem aRT:qq Tryz.prog 173=True:=eq_true ⟨_,Tryz.func173,of_decide_eq_false (by kernel_rfl),rfl⟩
theorem aRS:qq Tryz.prog 174=True:=eq_true ⟨_,Tryz.func174,of_decide_eq_false (by kernel_rfl),rfl⟩
theorem aRR:qq Tryz.prog 175=True:=eq_true ⟨_,Tryz.func175,of_decide_eq_false (by kernel_rfl),rfl⟩
theorem aRQ:qq Tryz.prog 176=True:=eq_true ⟨_,Tryz.func176,of_decide_eq_false (by kernel_rfl),rfl⟩
theorem aRP:qq Tryz.prog 177=True:=eq_true ⟨_,Tryz.func177,of_decide_eq_false (by kernel_rfl),rfl⟩
theorem aRO:qq Tryz.prog 178=True:=eq_true ⟨_,Tryz.func178,of_decide_eq_false (by kernel_rfl),rfl⟩
theorem aRN:qq Tryz.prog 179=True:=eq_true ⟨_,Tryz.func179,of_decide_eq_false (by kernel_rfl),rfl⟩
theorem aRM:qq Tryz.prog 180=True:=eq_true ⟨_,Tryz.func180,of_decide_eq_false (by kernel_rfl),rfl⟩
theorem aRL:qq Tryz.prog 181=True:=eq_true ⟨_,Tryz.func181,of_decide_eq_false (by kernel_rfl),rfl⟩
theorem aRK:qq Tryz.prog 182=True:=eq_true ⟨_,Tryz.func182,of_decide_eq_false (by kernel_rfl),rfl⟩
theorem aRJ:qq Tryz.prog 183=True:=eq_true ⟨_,Tryz.func183,of_decide_eq_false (by kernel_rfl),rfl⟩
theorem aRI:qq Tryz.prog 184=True:=eq_true ⟨_,Tryz.func184,of_decide_eq_false (by kernel_rfl),rfl⟩
theorem aRH:qq Tryz.prog 185=True:=eq_true ⟨_,Tryz.func185,of_decide_eq_false (by kernel_rfl),rfl⟩
theorem aRG:qq Tryz.prog 186=True:=eq_true ⟨_,Tryz.func186,of_decide_eq_false (by kernel_rfl),rfl⟩
theorem aRF:qq Tryz.prog 187=True:=eq_true ⟨_,Tryz.func187,of_decide_eq_false (by kernel_rfl),rfl⟩
theorem aRE:qq Tryz.prog 188=True:=eq_true ⟨_,Tryz.func188,of_decide_eq_false (by kernel_rfl),rfl⟩
theorem aRD:qq Tryz.prog 189=True:=eq_true ⟨_,Tryz.func189,of_decide_eq_false (by kernel_rfl),rfl⟩
theorem aRC:qq Tryz.prog 190=True:=eq_true ⟨_,Tryz.func190,of_decide_eq_false (by kernel_rfl),rfl⟩
theorem aRB:qq Tryz.prog 191=True:=eq_true ⟨_,Tryz.func191,of_decide_eq_false (by kernel_rfl),rfl⟩
theorem aRA:qq Tryz.prog 192=True:=eq_true ⟨_,Tryz.func192,of_decide_eq_false (by kernel_rfl),rfl⟩
theorem aRz:qq Tryz.prog 193=True:=eq_true ⟨_,Tryz.func193,of_decide_eq_false (by kernel_rfl),rfl⟩
theorem aRy:qq Tryz.prog 194=True:=eq_true ⟨_,Tryz.func194,of_decide_eq_false (by kernel_rfl),rfl⟩
theorem aRx:qq Tryz.prog 195=True:=eq_true ⟨_,Tryz.func195,of_decide_eq_false (by kernel_rfl),rfl⟩
theorem aRw:qq Tryz.prog 196=True:=eq_true ⟨_,Tryz.func196,of_decide_eq_false (by kernel_rfl),rfl⟩
theorem aRv:qq Tryz.prog 197=True:=eq_true ⟨_,Tryz.func197,of_decide_eq_false (by kernel_rfl),rfl⟩
theorem aRu:qq Tryz.prog 198=True:=eq_true ⟨_,Tryz.func198,of_decide_eq_false (by kernel_rfl),rfl⟩
theorem aRt:qq Tryz.prog 199=True:=eq_true ⟨_,Tryz.func199,of_decide_eq_false (by kernel_rfl),rfl⟩
theorem aRs:qq Tryz.prog 200=True:=eq_true ⟨_,Tryz.func200,of_decide_eq_false (by kernel_rfl),rfl⟩
theorem aRr:qq Tryz.prog 201=True:=eq_true ⟨_,Tryz.func201,of_decide_eq_false (by kernel_rfl),rfl⟩
theorem aRq:qq Tryz.prog 202=True:=eq_true ⟨_,Tryz.func202,of_decide_eq_false (by kernel_rfl),rfl⟩
theorem aRp:qq Tryz.prog 203=True:=eq_true ⟨_,Tryz.func203,of_decide_eq_false (by kernel_rfl),rfl⟩
theorem aRo:qq Tryz.prog 204=True:=eq_true ⟨_,Tryz.func204,of_decide_eq_false (by kernel_rfl),rfl⟩
theorem aRn:qq Tryz.prog 205=True:=eq_true ⟨_,Tryz.func205,of_decide_eq_false (by kernel_rfl),rfl⟩
theorem aRm:qq Tryz.prog 206=True:=eq_true ⟨_,Tryz.func206,of_decide_eq_false (by kernel_rfl),rfl⟩
theorem aRl:qq Tryz.prog 207=True:=eq_true ⟨_,Tryz.func207,of_decide_eq_false (by kernel_rfl),rfl⟩
theorem aRk:qq Tryz.prog 208=True:=eq_true ⟨_,Tryz.func208,of_decide_eq_false (by kernel_rfl),rfl⟩
theorem aRj:qq Tryz.prog 209=True:=eq_true ⟨_,Tryz.func209,of_decide_eq_false (by kernel_rfl),rfl⟩
theorem aRi:qq Tryz.prog 210=True:=eq_true ⟨_,Tryz.func210,of_decide_eq_false (by kernel_rfl),rfl⟩
theorem aRh:qq Tryz.prog 211=True:=eq_true ⟨_,Tryz.func211,of_decide_eq_false (by kernel_rfl),rfl⟩
theorem aRg:qq Tryz.prog 212=True:=eq_true ⟨_,Tryz.func212,of_decide_eq_false (by kernel_rfl),rfl⟩
theorem aRf:qq Tryz.prog 213=True:=eq_true ⟨_,Tryz.func213,of_decide_eq_false (by kernel_rfl),rfl⟩
theorem aRe:qq Tryz.prog 214=True:=eq_true ⟨_,Tryz.func214,of_decide_eq_false (by kernel_rfl),rfl⟩
theorem aRd:qq Tryz.prog 215=True:=eq_true ⟨_,Tryz.func215,of_decide_eq_false (by kernel_rfl),rfl⟩
theorem aRc:qq Tryz.prog 216=True:=eq_true ⟨_,Tryz.func216,of_decide_eq_false (by kernel_rfl),rfl⟩
theorem aRb:qq Tryz.prog 217=True:=eq_true ⟨_,Tryz.func217,of_decide_eq_false (by kernel_rfl),rfl⟩
theorem aRa:qq Tryz.prog 218=True:=eq_true ⟨_,Tryz.func218,of_decide_eq_false (by kernel_rfl),rfl⟩
theorem aQ9:qq Tryz.prog 219=True:=eq_true ⟨_,Tryz.func219,of_decide_eq_false (by kernel_rfl),rfl⟩
theorem aQ8:qq Tryz.prog 220=True:=eq_true ⟨_,Tryz.func220,of_decide_eq_false (by kernel_rfl),rfl⟩
theorem aQ7:qq Tryz.prog 221=True:=eq_true ⟨_,Tryz.func221,of_decide_eq_false (by kernel_rfl),rfl⟩
theorem aQ6:qq Tryz.prog 222=True:=eq_true ⟨_,Tryz.func222,of_decide_eq_false (by kernel_rfl),rfl⟩
theorem aQ5:qq Tryz.prog 223=True:=eq_true ⟨_,Tryz.func223,of_decide_eq_false (by kernel_rfl),rfl⟩
theorem aQ4:qq Tryz.prog 224=True:=eq_true ⟨_,Tryz.func224,of_decide_eq_false (by kernel_rfl),rfl⟩
theorem aQ3:qq Tryz.prog 225=True:=eq_true ⟨_,Tryz.func225,of_decide_eq_false (by kernel_rfl),rfl⟩
theorem aQ2:qq Tryz.prog 226=True:=eq_true ⟨_,Tryz.func226,of_decide_eq_false (by kernel_rfl),rfl⟩
theorem aQ1:qq Tryz.prog 227=True:=eq_true ⟨_,Tryz.func227,of_decide_eq_false (by kernel_rfl),rfl⟩
theorem aQ0:qq Tryz.prog 228=True:=eq_true ⟨_,Tryz.func228,of_decide_eq_false (by kernel_rfl),rfl⟩
theorem aQZ:qq Tryz.prog 229=True:=eq_true ⟨_,Tryz.func229,of_decide_eq_false (by kernel_rfl),rfl⟩
theorem aQY:qq Tryz.prog 230=True:=eq_true ⟨_,Tryz.func230,of_decide_eq_false (by kernel_rfl),rfl⟩
theorem aQX:qq Tryz.prog 231=True:=eq_true ⟨_,Tryz.func231,of_decide_eq_false (by kernel_rfl),rfl⟩
theorem aQW:qq Tryz.prog 232=True:=eq_true ⟨_,Tryz.func232,of_decide_eq_false (by kernel_rfl),rfl⟩
theorem aQV:qq Tryz.prog 233=True:=eq_true ⟨_,Tryz.func233,of_decide_eq_false (by kernel_rfl),rfl⟩
theorem aQU:qq Tryz.prog 234=True:=eq_true ⟨_,Tryz.func234,of_decide_eq_false (by kernel_rfl),rfl⟩
theorem aQT:qq Tryz.prog 235=True:=eq_true ⟨_,Tryz.func235,of_decide_eq_false (by kernel_rfl),rfl⟩
theorem aQS:qq Tryz.prog 236=True:=eq_true ⟨_,Tryz.func236,of_decide_eq_false (by kernel_rfl),rfl⟩
theorem aQR:qq Tryz.prog 237=True:=eq_true ⟨_,Tryz.func237,of_decide_eq_false (by kernel_rfl),rfl⟩
theorem aQQ:qq Tryz.prog 238=True:=eq_true ⟨_,Tryz.func238,of_decide_eq_false (by kernel_rfl),rfl⟩
theorem aQP:qq Tryz.prog 239=True:=eq_true ⟨_,Tryz.func239,of_decide_eq_false (by kernel_rfl),rfl⟩
theorem aQO:qq Tryz.prog 240=True:=eq_true ⟨_,Tryz.func240,of_decide_eq_false (by kernel_rfl),rfl⟩
theorem aQN:qq Tryz.prog 241=True:=eq_true ⟨_,Tryz.func241,of_decide_eq_false (by kernel_rfl),rfl⟩
theorem aQM:qq Tryz.prog 242=True:=eq_true ⟨_,Tryz.func242,of_decide_eq_false (by kernel_rfl),rfl⟩
theorem aQL:qq Tryz.prog 243=True:=eq_true ⟨_,Tryz.func243,of_decide_eq_false (by kernel_rfl),rfl⟩
theorem aQK:qq Tryz.prog 244=True:=eq_true ⟨_,Tryz.func244,of_decide_eq_false (by kernel_rfl),rfl⟩
theorem aQJ:qq Tryz.prog 245=True:=eq_true ⟨_,Tryz.func245,of_decide_eq_false (by kernel_rfl),rfl⟩
theorem aQI:qq Tryz.prog 246=True:=eq_true ⟨_,Tryz.func246,of_decide_eq_false (by kernel_rfl),rfl⟩
theorem aQH:qq Tryz.prog 247=True:=eq_true ⟨_,Tryz.func247,of_decide_eq_false (by kernel_rfl),rfl⟩
theorem aQG:qq Tryz.prog 248=True:=eq_true ⟨_,Tryz.func248,of_decide_eq_false (by kernel_rfl),rfl⟩
theorem aQF:qq Tryz.prog 249=True:=eq_true ⟨_,Tryz.func249,of_decide_eq_false (by kernel_rfl),rfl⟩
theorem aQE:qq Tryz.prog 250=True:=eq_true ⟨_,Tryz.func250,of_decide_eq_false (by kernel_rfl),rfl⟩
theorem aQD:qq Tryz.prog 251=True:=eq_true ⟨_,Tryz.func251,of_decide_eq_false (by kernel_rfl),rfl⟩
theorem aQC:qq Tryz.prog 252=True:=eq_true ⟨_,Tryz.func252,of_decide_eq_false (by kernel_rfl),rfl⟩
theorem aQB:qq Tryz.prog 253=True:=eq_true ⟨_,Tryz.func253,of_decide_eq_false (by kernel_rfl),rfl⟩
theorem aQA:qq Tryz.prog 254=True:=eq_true ⟨_,Tryz.func254,of_decide_eq_false (by kernel_rfl),rfl⟩
theorem aQz:qq Tryz.prog 255=True:=eq_true ⟨_,Tryz.func255,of_decide_eq_false (by kernel_rfl),rfl⟩
theorem aQy:qq Tryz.prog 256=True:=eq_true ⟨_,Tryz.func256,of_decide_eq_false (by kernel_rfl),rfl⟩
theorem aQx:qq Tryz.prog 257=True:=eq_true ⟨_,Tryz.func257,of_decide_eq_false (by kernel_rfl),rfl⟩
theorem aQw:qq Tryz.prog 258=True:=eq_true ⟨_,Tryz.func258,of_decide_eq_false (by kernel_rfl),rfl⟩
theorem aQv:qq Tryz.prog 259=True:=eq_true ⟨_,Tryz.func259,of_decide_eq_false (by kernel_rfl),rfl⟩
theorem aQu:qq Tryz.prog 260=True:=eq_true ⟨_,Tryz.func260,of_decide_eq_false (by kernel_rfl),rfl⟩
theorem aQt:qq Tryz.prog 261=True:=eq_true ⟨_,Tryz.func261,of_decide_eq_false (by kernel_rfl),rfl⟩
theorem aQs:qq Tryz.prog 262=True:=eq_true ⟨_,Tryz.func262,of_decide_eq_false (by kernel_rfl),rfl⟩
theorem aQr:qq Tryz.prog 263=True:=eq_true ⟨_,Tryz.func263,of_decide_eq_false (by kernel_rfl),rfl⟩
theorem aQq:qq Tryz.prog 264=True:=eq_true ⟨_,Tryz.func264,of_decide_eq_false (by kernel_rfl),rfl⟩
theorem aQp:qq Tryz.prog 265=True:=eq_true ⟨_,Tryz.func265,of_decide_eq_false (by kernel_rfl),rfl⟩
theorem aQo:qq Tryz.prog 266=True:=eq_true ⟨_,Tryz.func266,of_decide_eq_false (by kernel_rfl),rfl⟩
theorem aQn:qq Tryz.prog 267=True:=eq_true ⟨_,Tryz.func267,of_decide_eq_false (by kernel_rfl),rfl⟩
theorem aQm:qq Tryz.prog 268=True:=eq_true ⟨_,Tryz.func268,of_decide_eq_false (by kernel_rfl),rfl⟩
theorem aQl:qq Tryz.prog 269=True:=eq_true ⟨_,Tryz.func269,of_decide_eq_false (by kernel_rfl),rfl⟩
theorem aQk:qq Tryz.prog 270=True:=eq_true ⟨_,Tryz.func270,of_decide_eq_false (by kernel_rfl),rfl⟩
theorem aQj:qq Tryz.prog 271=True:=eq_true ⟨_,Tryz.func271,of_decide_eq_false (by kernel_rfl),rfl⟩
theorem aQi:qq Tryz.prog 272=True:=eq_true ⟨_,Tryz.func272,of_decide_eq_false (by kernel_rfl),rfl⟩
theorem aQh:qq Tryz.prog 273=True:=eq_true ⟨_,Tryz.func273,of_decide_eq_false (by kernel_rfl),rfl⟩
theorem aQg:qq Tryz.prog 274=True:=eq_true ⟨_,Tryz.func274,of_decide_eq_false (by kernel_rfl),rfl⟩
theorem aQf:qq Tryz.prog 275=True:=eq_true ⟨_,Tryz.func275,of_decide_eq_false (by kernel_rfl),rfl⟩
theorem aQe:qq Tryz.prog 276=True:=eq_true ⟨_,Tryz.func276,of_decide_eq_false (by kernel_rfl),rfl⟩
theorem aQd:qq Tryz.prog 277=True:=eq_true ⟨_,Tryz.func277,of_decide_eq_false (by kernel_rfl),rfl⟩
theorem aQc:qq Tryz.prog 278=True:=eq_true ⟨_,Tryz.func278,of_decide_eq_false (by kernel_rfl),rfl⟩
theorem aQb:qq Tryz.prog 279=True:=eq_true ⟨_,Tryz.func279,of_decide_eq_false (by kernel_rfl),rfl⟩
theorem aQa:qq Tryz.prog 280=True:=eq_true ⟨_,Tryz.func280,of_decide_eq_false (by kernel_rfl),rfl⟩
theorem aP9:qq Tryz.prog 281=True:=eq_true ⟨_,Tryz.func281,of_decide_eq_false (by kernel_rfl),rfl⟩
theorem aP8:qq Tryz.prog 282=True:=eq_true ⟨_,Tryz.func282,of_decide_eq_false (by kernel_rfl),rfl⟩
theorem aP7:qq Tryz.prog 283=True:=eq_true ⟨_,Tryz.func283,of_decide_eq_false (by kernel_rfl),rfl⟩
theorem aP6:qq Tryz.prog 284=True:=eq_true ⟨_,Tryz.func284,of_decide_eq_false (by kernel_rfl),rfl⟩
theorem aP5:qq Tryz.prog 285=True:=eq_true ⟨_,Tryz.func285,of_decide_eq_false (by kernel_rfl),rfl⟩
theorem aP4:qq Tryz.prog 286=True:=eq_true ⟨_,Tryz.func286,of_decide_eq_false (by kernel_rfl),rfl⟩
theorem aP3:qq Tryz.prog 287=True:=eq_true ⟨_,Tryz.func287,of_decide_eq_false (by kernel_rfl),rfl⟩
theorem aP2:qq Tryz.prog 288=True:=eq_true ⟨_,Tryz.func288,of_decide_eq_false (by kernel_rfl),rfl⟩
theorem aP1:qq Tryz.prog 289=True:=eq_true ⟨_,Tryz.func289,of_decide_eq_false (by kernel_rfl),rfl⟩
theorem aP0:qq Tryz.prog 290=True:=eq_true ⟨_,Tryz.func290,of_decide_eq_false (by kernel_rfl),rfl⟩
theorem aPZ:qq Tryz.prog 291=True:=eq_true ⟨_,Tryz.func291,of_decide_eq_false (by kernel_rfl),rfl⟩
theorem aPY:qq Tryz.prog 292=True:=eq_true ⟨_,Tryz.func292,of_decide_eq_false (by kernel_rfl),rfl⟩
theorem aPX:qq Tryz.prog 293=True:=eq_true ⟨_,Tryz.func293,of_decide_eq_false (by kernel_rfl),rfl⟩
theorem aPW:qq Tryz.prog 294=True:=eq_true ⟨_,Tryz.func294,of_decide_eq_false (by kernel_rfl),rfl⟩
theorem aPV:qq Tryz.prog 295=True:=eq_true ⟨_,Tryz.func295,of_decide_eq_false (by kernel_rfl),rfl⟩
theorem aPU:qq Tryz.prog 296=True:=eq_true ⟨_,Tryz.func296,of_decide_eq_false (by kernel_rfl),rfl⟩
theorem aPT:qq Tryz.prog 318=True:=eq_true ⟨_,Tryz.func318,of_decide_eq_false (by kernel_rfl),rfl⟩
attribute [go_sem] ty1 aN5 aJd awz am5 aN3 aN4 ty2 aN2 aIR
attribute [go_sem] atn alU aN0 aN1 ty3 aNZ aIm atc alH aNX
attribute [go_sem] aNY ty4 aNW aHX as3 alv aNU aNV ty5 aNT
attribute [go_sem] aHB asV alm aNR aNS ty6 aNQ aG9 asL alb
attribute [go_sem] aNO aNP ty7 aNN aGQ asE ak4 aNL aNM aTd
attribute [go_sem] aZK aTc aZJ aTb aZI aTa aZH beR ty8 aNK
attribute [go_sem] aGr asv akT aNI aNJ aS9 aZG aS8 aZF aS7
attribute [go_sem] aZE aS6 aZD beQ ty9 aNH aF2 asm akK aNF
attribute [go_sem] aNG bdl aJm aAH aow ai5 aJk aJl bdk aJj
attribute [go_sem] aAc aol aiU aJh aJi bdj aJg azH aoa aiJ
attribute [go_sem] aJe aJf bdi aJc avI amN ahp aJa aJb bdh
attribute [go_sem] aI9 avg amD ahf aI7 aI8 aZu bdg aI6 auL
attribute [go_sem] ams ag4 aI4 aI5 aZt bdf aI3 aum ami agV
attribute [go_sem] aI1 aI2 aL9 aOZ aL8 aOY bbT bde aI0 atU
attribute [go_sem] al7 agL aIY aIZ aL7 aOX aL6 aOW bbS bdd
attribute [go_sem] aIX atp alW agA aIV aIW bdc aIU ato alV
attribute [go_sem] agz aIS aIT bdb aIQ atm alT agy aIO aIP
attribute [go_sem] bda aIN atl alS agx aIL aIM bc9 aIK atk
attribute [go_sem] alR agw aII aIJ bc8 aIH atj alQ agv aIF
attribute [go_sem] aIG bc7 aIE ati alP agu aIC aID aZs bc6
attribute [go_sem] aIB ath alO agt aIz aIA aL5 aOV bbR bc5
attribute [go_sem] aIy atg alN ags aIw aIx aL4 aOU bbQ bc4
attribute [go_sem] aIv atf alL agr aIt aIu aL3 aOT aL2 aOS
attribute [go_sem] bbP bc3 aIs ate alK agq aIq aIr aL1 aOR
attribute [go_sem] aL0 aOQ bbO bc2 aIp atd alI agp aIn aIo
attribute [go_sem] aLZ aOP aLY aOO bbN bc1 aIl atb alG ago
attribute [go_sem] aIj aIk aLX aON aLW aOM bbM bc0 aIi ata
attribute [go_sem] alD agn aIg aIh bcZ aIf as9 alC agm aId
attribute [go_sem] aIe bcY aIc as8 alB agl aIa aIb bcX aH9
attribute [go_sem] as7 alz agk aH7 aH8 bcW aH6 as6 aly agj
attribute [go_sem] aH4 aH5 bcV aH3 as5 alx agi aH1 aH2 bcU
attribute [go_sem] aH0 as4 alw agh aHY aHZ bcT aHW as2 alt
attribute [go_sem] agf aHU aHV aLV aOL aLU aOK bbL bcS aHT
attribute [go_sem] as1 als age aHR aHS aLT aOJ aLS aOI bbK
attribute [go_sem] bcR aHQ as0 alr agd aHO aHP bcQ aHN asZ
attribute [go_sem] alq agc aHL aHM bcP aHK asY alp agb aHI
attribute [go_sem] aHJ bcO aHH asX alo aga aHF aHG bcN aHE
attribute [go_sem] asW aln af9 aHC aHD bcM aHA asU alk af8
attribute [go_sem] aHy aHz bcL aHx asT alj af7 aHv aHw bcK
attribute [go_sem] aHu asS ali af6 aHs aHt bcJ aHr asR alh
attribute [go_sem] af5 aHp aHq bcI aHo asQ alg af4 aHm aHn
attribute [go_sem] bcH aHl asP alf af3 aHj aHk bcG aHi asO
attribute [go_sem] ale af2 aHg aHh bcF aHf asN ald af1 aHd
attribute [go_sem] aHe bcE aHc asM alc af0 aHa aHb aZr bcD
attribute [go_sem] aG8 asK ala afZ aG6 aG7 bcC aG5 asJ ak9
attribute [go_sem] afY aG3 aG4 bcB aG2 asI ak8 afX aG0 aG1
attribute [go_sem] bcA aGZ asH ak7 afW aGX aGY bcz aGW asG
attribute [go_sem] ak6 afV aGU aGV bcy aGT asF ak5 afU aGR
attribute [go_sem] aGS bcx aGP asD ak3 afT aGN aGO bcw aGM
attribute [go_sem] asC ak1 afS aGK aGL aLR aOH aLQ aOG bbJ
attribute [go_sem] bcv aGJ asB akZ afR aGH aGI aLP aOF aLO
attribute [go_sem] aOE bbI bcu aGG asA akY afQ aGE aGF bct
attribute [go_sem] aGD asz akX afP aGB aGC bcs aGA asy akW
attribute [go_sem] afO aGy aGz bcr aGx asx akV afN aGv aGw
attribute [go_sem] bcq aGu asw akU afM aGs aGt bcp aGq asu
attribute [go_sem] akS afL aGo aGp bco aGn ast akR afK aGl
attribute [go_sem] aGm bcn aGk ass akQ afJ aGi aGj bcm aGh
attribute [go_sem] asr akP afI aGf aGg bcl aGe asq akO afH
attribute [go_sem] aGc aGd bck aGb asp akN afG aF9 aGa bcj
attribute [go_sem] aF8 aso akM afF aF6 aF7 bci aF5 asn akL
attribute [go_sem] afE aF3 aF4 aW2 aA8 aoF aje adG aA6 aA7
attribute [go_sem] aW1 aA5 aoE ajd adF aA3 aA4 aW0 aA2 aoD
attribute [go_sem] ajc adE aA0 aA1 aWZ aAZ aoC ajb adD aAX
attribute [go_sem] aAY aWY aAW aoB aja adC aAU aAV aWX aAT
attribute [go_sem] aoA ai9 adB aAR aAS aWW aAQ aoz ai8 adA
attribute [go_sem] aAO aAP aWV aAN aoy ai7 adz aAL aAM aWU
attribute [go_sem] aAK aox ai6 ady aAI aAJ aWT aAG aov ai4
attribute [go_sem] adx aAE aAF aWS aAD aou ai3 adw aAB aAC
attribute [go_sem] aOo aWR aAA aot ai2 adv aAy aAz aC9 aKk
attribute [go_sem] aC8 aKj aTS aWQ aAx aos ai1 adu aAv aAw
attribute [go_sem] aC7 aKi aC6 aKh aTR aWP aAu aor ai0 adt
attribute [go_sem] aAs aAt aWO aAr aoq aiZ ads aAp aAq aWN
attribute [go_sem] aAo aop aiY adr aAm aAn aWM aAl aoo aiX
attribute [go_sem] adq aAj aAk aC5 aKg aC4 aKf aC3 aKe aTQ
attribute [go_sem] aWL aAi aon aiW adp aAg aAh aC2 aKd aC1
attribute [go_sem] aKc aC0 aKb aTP aWK aAf aom aiV ado aAd
attribute [go_sem] aAe aWJ aAb aok aiT adn az9 aAa aWI az8
attribute [go_sem] aoj aiS adm az6 az7 aWH az5 aoi aiR adl
attribute [go_sem] az3 az4 aWG az2 aoh aiQ adk az0 az1 aWF
attribute [go_sem] azZ aog aiP adj azX azY aWE azW aof aiO
attribute [go_sem] adi azU azV aWD azT aoe aiN adh azR azS
attribute [go_sem] aWC azQ aod aiM adg azO azP aWB azN aoc
attribute [go_sem] aiL adf azL azM aWA azK aob aiK ade azI
attribute [go_sem] azJ aWz azG an9 aiI adc azE azF aWy azD
attribute [go_sem] an8 aiH adb azB azC aWx azA an7 aiG ada
attribute [go_sem] azy azz aCZ aKa aCY aJ9 aTO aWw azx an6
attribute [go_sem] aiF ac9 azv azw aCX aJ8 aCW aJ7 aTN aWv
attribute [go_sem] azu an5 aiE ac8 azs azt aWu azr an4 aiD
attribute [go_sem] ac7 azp azq aWt azo an3 aiC ac6 azm azn
attribute [go_sem] aWs azl an2 aiB ac5 azj azk aWr azi an1
attribute [go_sem] aiA ac4 azg azh aWq azf an0 aiz ac3 azd
attribute [go_sem] aze aWp azc anZ aiy ac2 aza azb aWo ay9
attribute [go_sem] anY aix ac1 ay7 ay8 aWn ay6 anX aiw ac0
attribute [go_sem] ay4 ay5 aWm ay3 anW aiv acZ ay1 ay2 aWl
attribute [go_sem] ay0 anV aiu acY ayY ayZ aWk ayX anU ait
attribute [go_sem] acX ayV ayW aWj ayU anT ais acW ayS ayT
attribute [go_sem] aWi ayR anS air acV ayP ayQ aWh ayO anR
attribute [go_sem] aiq acU ayM ayN aWg ayL anQ aip acT ayJ
attribute [go_sem] ayK aWf ayI anP aio acS ayG ayH aWe ayF
attribute [go_sem] anO ain acR ayD ayE aOn aWd ayC anN aim
attribute [go_sem] acQ ayA ayB aCV aJ6 aCU aJ5 aTM aWc ayz
attribute [go_sem] anM ail acP ayx ayy aCT aJ4 aCS aJ3 aTL
attribute [go_sem] aWb ayw anL aik acO ayu ayv aWa ayt anK
attribute [go_sem] aij acN ayr ays aV9 ayq anJ aii acM ayo
attribute [go_sem] ayp aV8 ayn anI aih acL ayl aym aV7 ayk
attribute [go_sem] anH aig acK ayi ayj aV6 ayh anG aif acJ
attribute [go_sem] ayf ayg aV5 aye anF aie acI ayc ayd aV4
attribute [go_sem] ayb anE aid acH ax9 aya aV3 ax8 anD aic
attribute [go_sem] acG ax6 ax7 aV2 ax5 anC aib acF ax3 ax4
attribute [go_sem] aV1 ax2 anB aia acE ax0 ax1 aV0 axZ anA
attribute [go_sem] ah9 acD axX axY aVZ axW anz ah8 acC axU
attribute [go_sem] axV aVY axT anx ah7 acB axR axS aVX axQ
attribute [go_sem] anw ah6 acA axO axP aVW axN anv ah5 acz
attribute [go_sem] axL axM aVV axK anu ah4 acy axI axJ aCR
attribute [go_sem] aJ2 aCQ aJ1 aCP aJ0 aTK aVU axH ant ah3
attribute [go_sem] acx axF axG aCO aJZ aCN aJY aCM aJX aTJ
attribute [go_sem] aVT axE ans ah2 acw axC axD aVS axB anr
attribute [go_sem] ah1 acv axz axA aVR axy anq ah0 acu axw
attribute [go_sem] axx aVQ axv anp ahZ act axt axu aVP axs
attribute [go_sem] ano ahY acs axq axr aVO axp ann ahX acr
attribute [go_sem] axn axo aVN axm anm ahW acq axk axl aVM
attribute [go_sem] axj anl ahV acp axh axi aVL axg ank ahU
attribute [go_sem] aco axe axf aVK axd anj ahT acn axb axc
attribute [go_sem] aVJ axa ani ahS acm aw8 aw9 aVI aw7 anh
attribute [go_sem] ahR acl aw5 aw6 aVH aw4 ang ahQ ack aw2
attribute [go_sem] aw3 aVG aw1 anf ahP acj awZ aw0 aVF awY
attribute [go_sem] ane ahO aci awW awX aVE awU anc ahN ach
attribute [go_sem] awS awT aVD awR anb ahM acg awP awQ aVC
attribute [go_sem] awO ana ahL acf awM awN aOm aVB awL am9
attribute [go_sem] ahK ace awJ awK aVA awI am8 ahJ acd awG
attribute [go_sem] awH aVz awF am7 ahI acb awD awE aVy awC
attribute [go_sem] am6 ahH aca awA awB aVx awy am4 ahG ab9
attribute [go_sem] aww awx aVw awv am3 ahF ab8 awt awu aVv
attribute [go_sem] aws am2 ahE ab7 awq awr aVu awo am1 ahD
attribute [go_sem] ab6 awm awn aVt awl am0 ahC ab5 awj awk
attribute [go_sem] aVs awi amZ ahB ab4 awg awh aVr awf amY
attribute [go_sem] ahA ab3 awd awe aVq awc amX ahz ab2 awa
attribute [go_sem] awb aVp av9 amW ahy ab1 av7 av8 aVo av6
attribute [go_sem] amV ahx ab0 av4 av5 aVn av3 amU ahw abZ
attribute [go_sem] av1 av2 aVm av0 amT ahv abY avY avZ aVl
attribute [go_sem] avX amS ahu abX avV avW aVk avU amR aht
attribute [go_sem] abW avS avT aVj avR amQ ahs abV avP avQ
attribute [go_sem] aVi avO amP ahr abU avM avN aVh avL amO
attribute [go_sem] ahq abT avJ avK aVg avH amM aho abS avF
attribute [go_sem] avG aVf avE amL ahn abR avC avD aVe avB
attribute [go_sem] amK ahm abQ avz avA aVd avy amJ ahl abP
attribute [go_sem] avw avx aVc avv amI ahk abO avt avu aVb
attribute [go_sem] avs amH ahj abN avq avr aVa avp amG ahi
attribute [go_sem] abM avn avo aU9 avm amF ahh abL avk avl
attribute [go_sem] aU8 avj amE ahg abK avh avi aU7 avf amC
attribute [go_sem] ahe abJ avd ave aU6 avc amB ahd abI ava
attribute [go_sem] avb aU5 au9 amA ahc abH au7 au8 aU4 au6
attribute [go_sem] amz ahb abG au4 au5 aU3 au3 amy aha abF
attribute [go_sem] au1 au2 aU2 au0 amx ag9 abE auY auZ aU1
attribute [go_sem] auX amw ag8 abD auV auW aU0 auU amv ag7
attribute [go_sem] abC auS auT aUZ auR amu ag6 abB auP auQ
attribute [go_sem] aUY auO amt ag5 abA auM auN aUX auK amq
attribute [go_sem] ag3 abz auI auJ aUW auH amp ag2 aby auF
attribute [go_sem] auG aUV auE amo ag1 abx auC auD aUU auB
attribute [go_sem] amn ag0 abw auz auA aUT auy amm agZ abv
attribute [go_sem] auw aux aUS auv aml agY abu aut auu aUR
attribute [go_sem] aus amk agX abt auq aur aUQ aup amj agW
attribute [go_sem] abr aun auo aUP aul amg agU abq auj auk
attribute [go_sem] aUO aui amf agT abp aug auh aUN auf ame
attribute [go_sem] agS abo aud aue aUM auc amd agR abn aua
attribute [go_sem] aub aUL at9 amc agQ abm at7 at8 aUK at6
attribute [go_sem] amb agP abl at4 at5 aUJ at3 ama agO abk
attribute [go_sem] at1 at2 aUI at0 al9 agN abj atY atZ aUH
attribute [go_sem] atX al8 agM abi atV atW aUG atT al6 agK
attribute [go_sem] abh atR atS aUF atQ al5 agJ abg atO atP
attribute [go_sem] aUE atN al4 agI abf atL atM aUD atK al3
attribute [go_sem] agH abe atI atJ aUC atH al2 agG abd atF
attribute [go_sem] atG aUB atE al1 agF abc atC atD aUA atB
attribute [go_sem] al0 agE abb atz atA aUz aty alZ agD aba
attribute [go_sem] atw atx aUy atv alY agC aa9 att atu aUx
attribute [go_sem] ats alX agB aa8 atq atr beN beM beL beK
attribute [go_sem] beJ beI beH beG bby bbx bbw bbv bbu bbt
attribute [go_sem] bbs bbr bbq bbp bbo bbn bbm bbl bbk bbj
attribute [go_sem] bbi bbh bbg bbf bbe bbd bbc bbb bba ba9
attribute [go_sem] ba8 ba7 ba6 ba5 ba4 ba3 ba2 ba1 ba0 baZ
attribute [go_sem] baY baX baW baV baU baT baS baR baQ baP
attribute [go_sem] baO baN baM baL baK baJ baI baH baG baF
attribute [go_sem] baE baD baC baB baA baz bay bax baw bav
attribute [go_sem] bau bat bas bar baq bap bao ban bam bal
attribute [go_sem] bak baj bai bah bag baf bae bac bab baa
attribute [go_sem] aZ9 aZ8 aZ7 aZ6 aS4 aS3 aS2 aS1 aS0 aSZ
attribute [go_sem] aSY aSX aSW aSV aSU aST aSS aSR aSQ aSP
attribute [go_sem] aSO aSN aSM aSL aSK aSJ aSI aSH aSG aSF
attribute [go_sem] aSE aSD aSC aSB aSA aSz aSy aSx aSw aSv
attribute [go_sem] aSu aSt aSs aSr aSq aSp aSo aSn aSm aSl
attribute [go_sem] aSk aSj aSi aSh aSg aSf aSe aSd aSc aSb
attribute [go_sem] aSa aR9 aR8 aR7 aR6 aR5 aR4 aR3 aR2 aR1
attribute [go_sem] aR0 aRZ aRY aRX aRW aRV aRU aRT aRS aRR
attribute [go_sem] aRQ aRP aRO aRN aRM aRL aRK aRJ aRI aRH
attribute [go_sem] aRG aRF aRE aRD aRC aRB aRA aRz aRy aRx
attribute [go_sem] aRw aRv aRu aRt aRs aRr aRq aRp aRo aRn
attribute [go_sem] aRm aRl aRk aRj aRi aRh aRg aRf aRe aRd
attribute [go_sem] aRc aRb aRa aQ9 aQ8 aQ7 aQ6 aQ5 aQ4 aQ3
attribute [go_sem] aQ2 aQ1 aQ0 aQZ aQY aQX aQW aQV aQU aQT
attribute [go_sem] aQS aQR aQQ aQP aQO aQN aQM aQL aQK aQJ
attribute [go_sem] aQI aQH aQG aQF aQE aQD aQC aQB aQA aQz
attribute [go_sem] aQy aQx aQw aQv aQu aQt aQs aQr aQq aQp
attribute [go_sem] aQo aQn aQm aQl aQk aQj aQi aQh aQg aQf
attribute [go_sem] aQe aQd aQc aQb aQa aP9 aP8 aP7 aP6 aP5
attribute [go_sem] aP4 aP3 aP2 aP1 aP0 aPZ aPY aPX aPW aPV
attribute [go_sem] aPU aPT
end Go.Ab
namespace Go.Ab
open Go Go.Proofs
set_option maxRecDepth 100000 in
theorem aeu(U V:List Int)(j:Nat)(hU:gd U)(hV:gd V)(lU:U.length≤2000000)(h2:2≤V.length)(hj:j+V.length<U.length)(hv1:32768≤V.getD (V.length-1) 0)(hW:vl (U.drop j)<65536*vl V):
  Con Tryz.prog 289 true [.sl U.length (qc U),.sl V.length (qc V),.v (.int .i64 j)] [] (fun r hs bs=>∃q:Int,r=.v (.int .i64 q)∧hs=[]∧bs=[]∧(0≤q∧q<65536)∧vl (U.drop j)<(q+1)*vl V∧q*vl V<vl (U.drop j)+vl V):=by
 refine Con.of_aw Tryz.func289 rfl Tryz.ntmps289 (by simp) (by simp) (by simp) (W.sound ?_)
 show @W Tryz.prog 76 ⟨_⟩ ⟨fun x σ=>@qR _ _ _ ⟨_⟩ _ ⟨_⟩ x σ⟩ _ _
 have hDl:V.length<(U.drop j).length:=by simp;omega
 have hz:=aeP (yB hU j) hV hDl hW
 have hw:=aNx hDl h2 hz
 have hvv:=aFT h2
 rw[zZ,zZ,zZ]at hw
 have hx0:=qU (yf (yB hU j) (V.length-2))
 have hx1:=QL (yf (yB hU j) (V.length-2))
 have hy0:=qU (yf hV (V.length-2))
 have hy1:=QL (yf hV (V.length-2))
 rw[List.length_take,Nat.min_eq_left (by omega)]at hx1 hy1
 have gu0:=qJ hU (j+V.length)
 have gu1:=qJ hU (j+(V.length-1))
 have gu2:=qJ hU (j+(V.length-2))
 have gv1:=qJ hV (V.length-1)
 have gv2:=qJ hV (V.length-2)
 have htop:=aPw hw hvv ⟨hx0,hx1⟩ ⟨hy0,hy1⟩ gu2.1 gu1.1 gv2.2 hW
 have e0:((j:Int)+(V.length:Int)).toNat=j+V.length:=by omega
 have e1:((j:Int)+(V.length:Int)-1).toNat=j+(V.length-1):=by omega
 have e2:((j:Int)+(V.length:Int)-2).toNat=j+(V.length-2):=by omega
 have f1:((V.length:Int)-1).toNat=V.length-1:=by omega
 have f2:((V.length:Int)-2).toNat=V.length-2:=by omega
 simp(disch:=omega)only[go_sem]
 refine qp rfl [⟨0,[],[]⟩,⟨1,[],[]⟩,⟨2,[],[]⟩,⟨3,[],[]⟩,⟨4,[],[]⟩,⟨5,[],[]⟩,⟨6,[],[]⟩,⟨7,[5],[]⟩,⟨8,[5],[]⟩,⟨9,[5],[]⟩,⟨10,[5],[]⟩,⟨11,[5],[]⟩,⟨12,[5],[]⟩,⟨13,[5],[]⟩,⟨14,[],[]⟩,⟨15,[],[]⟩] (by kernel_rfl) ?_
 simp(disch:=omega)only[go_sem,e0,e1]
 generalize hu0:U.getD (j+V.length) 0=u0 at*
 generalize hu1:U.getD (j+(V.length-1)) 0=u1 at*
 generalize hu2:U.getD (j+(V.length-2)) 0=u2 at*
 refine⟨by omega,by omega,by omega,by omega,?_⟩
 refine qp rfl [⟨0,[],[]⟩,⟨1,[],[]⟩,⟨2,[],[]⟩,⟨3,[],[]⟩,⟨4,[],[]⟩,⟨5,[],[]⟩,⟨6,[],[]⟩,⟨7,[5],[]⟩,⟨8,[5],[]⟩,⟨9,[5],[]⟩,⟨10,[5],[]⟩,⟨11,[5],[]⟩,⟨12,[5],[]⟩,⟨13,[5],[]⟩,⟨14,[12],[]⟩,⟨15,[],[]⟩] (by kernel_rfl) ?_
 simp(disch:=omega)only[go_sem,f1]
 generalize hvv1:V.getD (V.length-1) 0=v1 at*
 generalize hvv2:V.getD (V.length-2) 0=v2 at*
 generalize htt:u0*65536+u1=top at*
 refine⟨by omega,by omega,by omega,by omega,by omega,by omega,?_⟩
 have hq0:0≤top/v1:=Int.ediv_nonneg (by omega) (by omega)
 have hq1:top/v1≤65537:=by
  have:top/v1<65538:=Int.ediv_lt_of_lt_mul (by omega) (by omega)
  omega
 have hr0:=Int.emod_nonneg top (show v1≠0 by omega)
 have hr1:=Int.emod_lt_of_pos top (show 0<v1 by omega)
 have hqr:=Int.emod_add_mul_ediv top v1
 have hini:=aLd hw hvv ⟨hx0,hx1⟩ ⟨hy0,hy1⟩ gu2 gv2.1 hq0 (show top<(top/v1+1)*v1 by rw[Int.add_mul,Int.mul_comm (top/v1)];omega)
 have hqr':top/v1*v1+top % v1=top:=by rw[Int.mul_comm];omega
 generalize top/v1=q0 at*
 generalize top % v1=r0 at*
 refine qj (fun x:Int×Int=>[(0,.sl U.length (qc U)),(1,.sl V.length (qc V)),(2,.v (.int .i64 j)),(7,.v (.int .i64 V.length)),(9,.v (.int .i64 x.1)),(10,.v (.int .i64 x.2))])
  (fun _=>[]) (fun x=>(0≤x.1∧x.1≤65537)∧(0≤x.2∧x.2<65536)∧x.1*v1+x.2=top∧vl (U.drop j)<(x.1+1)*vl V) (fun x=>x.1.toNat) (q0,r0) ⟨⟨hq0,hq1⟩,⟨hr0,by omega⟩,hqr',hini⟩
  (Le.lst [] _ _ rfl (by simp(disch:=omega)only[go_sem];try omega) (by simp(disch:=omega)only[go_sem])) ?_
 rintro⟨q,r⟩ ⟨hq,hr,hqr2,hlt⟩
 dsimp only at hq hr hqr2 hlt ⊢
 have hqv:0≤q*v2∧q*v2≤65537*65535:=⟨Int.mul_nonneg hq.1 gv2.1,Int.mul_le_mul hq.2 (by omega) gv2.1 (by omega)⟩
 simp(disch:=omega)only[go_sem]
 refine qp rfl [⟨0,[],[]⟩,⟨1,[],[]⟩,⟨2,[],[]⟩,⟨3,[],[]⟩,⟨4,[],[]⟩,⟨5,[],[]⟩,⟨6,[],[]⟩,⟨7,[],[]⟩,⟨8,[],[]⟩,⟨9,[],[]⟩,⟨10,[8],[]⟩,⟨11,[8],[]⟩,⟨12,[8],[]⟩,⟨13,[8],[]⟩,⟨14,[8],[]⟩,⟨15,[8],[]⟩,⟨16,[8],[]⟩,⟨17,[8],[]⟩,⟨18,[8],[]⟩,⟨19,[8],[]⟩,⟨20,[],[]⟩,⟨21,[],[]⟩] (by kernel_rfl) ?_
 simp(disch:=omega)only[go_sem]
 refine zG (fun h1=>?_) (fun h1=>?_)
 ·simp(disch:=omega)only[go_sem,h1,e2,f2,hu2,hvv2]
  refine⟨by omega,by omega,by omega,by omega,qe (fun h2=>?_) (fun h2=>?_)⟩
  ·simp(disch:=omega)only[go_sem,h2,f1,hvv1]
   have hst:=apN hw hvv ⟨hx0,hx1⟩ ⟨hy0,hy1⟩ hW gv2.1 (by omega) hq.1 hqr2 (.inr h2)
   have hqp:0<q:=by
    rcases(by omega:0<q∨q=0)with h|h
    ·exact h
    ·subst h;omega
   have hm:(q-1)*v1+(r+v1)=top:=by rw[Int.sub_mul];omega
   refine⟨by omega,by omega,qe (fun h3=>?_) (fun h3=>?_)⟩
   ·simp(disch:=omega)only[go_sem,h3]
    have h4:q-1<65536:=by
     rcases(by omega:q-1<65536∨65536≤q-1)with h|h
     ·exact h
     ·have:=Int.mul_le_mul_of_nonneg_right h (show 0≤v1 by omega)
      omega
    have h5:(q-1)*v2≤(r+v1)*65536+u2:=by
     have:(q-1)*v2≤65535*65535:=Int.mul_le_mul (by omega) (by omega) gv2.1 (by omega)
     omega
    have h6:=adX hw hvv ⟨hx0,hx1⟩ ⟨hy0,hy1⟩ gv2.1 (by omega) ⟨by omega,h4⟩ hm h5
    exact qx (by simp(disch:=omega)only[go_sem]) (by simp(disch:=omega)only[go_sem]) ⟨q-1,rfl,rfl,rfl,⟨by omega,h4⟩,by rw[show q-1+1=q by omega];exact hst,h6⟩
   ·simp(disch:=omega)only[go_sem,h3]
    refine qb (q-1,r+v1) [] ⟨by show 0≤q-1∧q-1≤65537;omega,by show 0≤r+v1∧r+v1<65536;omega,hm,by show _<(q-1+1)*vl V;rw[show q-1+1=q by omega];exact hst⟩ (by show(q-1).toNat<q.toNat;omega) rfl (by simp(disch:=omega)only[go_sem];try omega) (by simp(disch:=omega)only[go_sem])
  ·simp(disch:=omega)only[go_sem,h2]
   have h6:=adX hw hvv ⟨hx0,hx1⟩ ⟨hy0,hy1⟩ gv2.1 (by omega) ⟨hq.1,by omega⟩ hqr2 (by omega)
   exact qx (by simp(disch:=omega)only[go_sem]) (by simp(disch:=omega)only[go_sem]) ⟨q,rfl,rfl,rfl,⟨hq.1,by omega⟩,hlt,h6⟩
 ·simp(disch:=omega)only[go_sem,h1,f1,hvv1]
  have hst:=apN hw hvv ⟨hx0,hx1⟩ ⟨hy0,hy1⟩ hW gv2.1 (by omega) hq.1 hqr2 (.inl h1)
  have hqp:0<q:=by omega
  have hm:(q-1)*v1+(r+v1)=top:=by rw[Int.sub_mul];omega
  refine⟨by omega,by omega,qe (fun h3=>?_) (fun h3=>?_)⟩
  ·simp(disch:=omega)only[go_sem,h3]
   have h4:q-1<65536:=by
    rcases(by omega:q-1<65536∨65536≤q-1)with h|h
    ·exact h
    ·have:=Int.mul_le_mul_of_nonneg_right h (show 0≤v1 by omega)
     omega
   have h5:(q-1)*v2≤(r+v1)*65536+u2:=by
    have:(q-1)*v2≤65535*65535:=Int.mul_le_mul (by omega) (by omega) gv2.1 (by omega)
    omega
   have h6:=adX hw hvv ⟨hx0,hx1⟩ ⟨hy0,hy1⟩ gv2.1 (by omega) ⟨by omega,h4⟩ hm h5
   exact qx (by simp(disch:=omega)only[go_sem]) (by simp(disch:=omega)only[go_sem]) ⟨q-1,rfl,rfl,rfl,⟨by omega,h4⟩,by rw[show q-1+1=q by omega];exact hst,h6⟩
  ·simp(disch:=omega)only[go_sem,h3]
   refine qb (q-1,r+v1) [] ⟨by show 0≤q-1∧q-1≤65537;omega,by show 0≤r+v1∧r+v1<65536;omega,hm,by show _<(q-1+1)*vl V;rw[show q-1+1=q by omega];exact hst⟩ (by show(q-1).toNat<q.toNat;omega) rfl (by simp(disch:=omega)only[go_sem];try omega) (by simp(disch:=omega)only[go_sem])
end Go.Ab
namespace Go.Ab
open Go Go.Proofs
theorem aax(U V:List Int)(j:Nat)(q:Int)(hU:gd U)(hV:gd V)(lU:U.length≤2000000)(hj:j+V.length<U.length)(hq:0≤q∧q<65536):
  Con Tryz.prog 290 false [.rf 10000000 0 U.length,.sl V.length (qc V),.v (.int .i64 j),.v (.int .i64 q)] [.own 1 (qc U)]
   (fun r hs bs=>∃(U':List Int) (bo:Int),r=.v (.bool (decide (U.getD (j+V.length) 0-bo<0)))∧hs=[]∧bs=[.own 1 (qc (U'.set (j+V.length) (U.getD (j+V.length) 0-bo)))]∧
    U'.length=U.length∧gd U'∧(0≤bo∧bo<65536)∧(∀t,t<j∨j+V.length≤t→U'.getD t 0=U.getD t 0)∧vl U'-65536^(j+V.length)*bo=vl U-65536^j*(q*vl V)):=by
 refine Con.of_aw Tryz.func290 rfl Tryz.ntmps290 (by simp) (by simp) (by simp) (W.sound ?_)
 show @W Tryz.prog 68 ⟨_⟩ ⟨fun x σ=>@qR _ _ _ ⟨_⟩ _ ⟨_⟩ x σ⟩ _ _
 simp(disch:=omega)only[go_sem]
 refine qj (fun x:Nat×List Int×Int=>[(0,.rf 10000000 0 U.length),(1,.sl V.length (qc V)),(2,.v (.int .i64 j)),(3,.v (.int .i64 q)),(9,.v (.int .i64 x.2.2)),(13,.sl V.length (qc V)),(14,.v (.int .i64 V.length)),(15,.v (.int .i64 x.1))])
  (fun x=>[(10000000,.own 1 (qc x.2.1))])
  (fun x=>x.1≤V.length∧x.2.1.length=U.length∧gd x.2.1∧(0≤x.2.2∧x.2.2<65536)∧(∀t,t<j∨j+x.1≤t→x.2.1.getD t 0=U.getD t 0)∧vl x.2.1-65536^(j+x.1)*x.2.2=vl U-65536^j*(q*vl (V.take x.1)))
  (fun x=>V.length-x.1) (0,U,0) ⟨by simp,rfl,hU,by simp,fun _ _=>rfl,by simp[vl]⟩
  (Le.lst [] _ _ rfl (by simp(disch:=omega)only[go_sem];try omega) (by simp(disch:=omega)only[go_sem])) ?_
 rintro⟨i,U1,bo⟩ ⟨hi,hl1,hg1,hbo,hsame,hval⟩
 dsimp only at hi hl1 hg1 hbo hsame hval ⊢
 simp(disch:=omega)only[go_sem]
 refine qe (fun h1=>?_) (fun h1=>?_)
 ·have hx:=qJ hV i
  have hu:=qJ hg1 (j+i)
  have hqx:0≤q*V.getD i 0∧q*V.getD i 0≤65535*65535:=⟨Int.mul_nonneg hq.1 hx.1,Int.mul_le_mul (by omega) (by omega) hx.1 (by omega)⟩
  have e1:((j:Int)+(i:Int)).toNat=j+i:=by omega
  have hstep:∀d b:Int,d-65536*b=U1.getD (j+i) 0-q*V.getD i 0-bo→vl (U1.set (j+i) d)-65536^(j+(i+1))*b=vl U-65536^j*(q*vl (V.take (i+1))):=by
   intro d b hd
   rw[Q7 (by omega),qS,←Nat.add_assoc,Int.pow_succ]
   have e3:(65536:Int)^(j+i)=65536^j*65536^i:=Int.pow_add _ _ _
   rw[e3]at hval ⊢
   generalize (65536:Int)^i=Pi at*
   generalize (65536:Int)^j=Pj at*
   grind
  have hsm:∀d:Int,∀t,t<j∨j+(i+1)≤t→(U1.set (j+i) d).getD t 0=U.getD t 0:=fun d t ht=>by
   rw[jq (by omega),if_neg (by omega)];exact hsame t (by omega)
  simp(disch:=omega)only[go_sem,h1,e1]
  refine⟨by omega,by omega,by omega,by omega,qe (fun h2=>?_) (fun h2=>?_)⟩
  ·simp(disch:=omega)only[go_sem,h2,e1]
   generalize hb:(0-(U1.getD (j+i) 0-q*V.getD i 0-bo)+65536-1)/65536=b
   refine⟨by omega,by omega,qb (i+1,U1.set (j+i) (U1.getD (j+i) 0-q*V.getD i 0-bo+b*65536),b) [] ⟨by show i+1≤_;omega,by simp[hl1],yZ hg1 (by omega),by show 0≤b∧b<65536;omega,hsm _,hstep (U1.getD (j+i) 0-q*V.getD i 0-bo+b*65536) b (by omega)⟩
    (by show V.length-(i+1)<V.length-i;omega) rfl (by simp(disch:=omega)only[go_sem];try omega) (by simp(disch:=omega)only[go_sem])⟩
  ·simp(disch:=omega)only[go_sem,h2,e1]
   refine⟨by omega,by omega,qb (i+1,U1.set (j+i) (U1.getD (j+i) 0-q*V.getD i 0-bo),0) [] ⟨by show i+1≤_;omega,by simp[hl1],yZ hg1 (by omega),by simp,hsm _,hstep (U1.getD (j+i) 0-q*V.getD i 0-bo) 0 (by omega)⟩
    (by show V.length-(i+1)<V.length-i;omega) rfl (by simp(disch:=omega)only[go_sem];try omega) (by simp(disch:=omega)only[go_sem])⟩
 ·have hiA:i=V.length:=by omega
  subst hiA
  rw[List.take_length]at hval
  have e1:((j:Int)+(V.length:Int)).toNat=j+V.length:=by omega
  have hu:=qJ hg1 (j+V.length)
  have es:=hsame (j+V.length) (by omega)
  have eg:(U1.set (j+V.length) (U.getD (j+V.length) 0-bo)).getD (j+V.length) 0=U.getD (j+V.length) 0-bo:=by rw[jq (by omega),if_pos rfl]
  simp(disch:=omega)only[go_sem,h1,e1,es]
  refine⟨by omega,by omega,by omega,by omega,by omega,by simp;omega,?_⟩
  simp(disch:=omega)only[go_sem,eg]
  refine qg [] [] [.own 1 (qc (U1.set (j+V.length) (U.getD (j+V.length) 0-bo)))] [.v (.bool (decide (U.getD (j+V.length) 0-bo<0)))] rfl (by simp(disch:=omega)only[go_sem]) (by simp(disch:=omega)only[go_sem]) (by simp) (by simp) ⟨U1,bo,rfl,rfl,rfl,hl1,hg1,hbo,hsame,hval⟩
theorem aex(U V:List Int)(j:Nat)(hU:∀t,t≠j+V.length→0≤U.getD t 0∧U.getD t 0<65536)(hUt: -65536≤U.getD (j+V.length) 0∧U.getD (j+V.length) 0<65536)(hV:gd V)(lU:U.length≤2000000)(hj:j+V.length<U.length):
  Con Tryz.prog 291 false [.rf 10000000 0 U.length,.sl V.length (qc V),.v (.int .i64 j)] [.own 1 (qc U)]
   (fun r hs bs=>∃(U':List Int),r=.tu []∧hs=[]∧bs=[.own 1 (qc U')]∧
    U'.length=U.length∧(∀t,t≠j+V.length→0≤U'.getD t 0∧U'.getD t 0<65536)∧(∀t,t<j∨j+V.length<t→U'.getD t 0=U.getD t 0)∧vl U'=vl U+65536^j*vl V):=by
 refine Con.of_aw Tryz.func291 rfl Tryz.ntmps291 (by simp) (by simp) (by simp) (W.sound ?_)
 show @W Tryz.prog 46 ⟨_⟩ ⟨fun x σ=>@qR _ _ _ ⟨_⟩ _ ⟨_⟩ x σ⟩ _ _
 simp(disch:=omega)only[go_sem]
 refine qj (fun x:Nat×List Int×Int=>[(0,.rf 10000000 0 U.length),(1,.sl V.length (qc V)),(2,.v (.int .i64 j)),(6,.v (.int .i64 x.2.2)),(9,.sl V.length (qc V)),(10,.v (.int .i64 V.length)),(11,.v (.int .i64 x.1))])
  (fun x=>[(10000000,.own 1 (qc x.2.1))])
  (fun x=>x.1≤V.length∧x.2.1.length=U.length∧(∀t,t≠j+V.length→0≤x.2.1.getD t 0∧x.2.1.getD t 0<65536)∧(0≤x.2.2∧x.2.2≤1)∧(∀t,t<j∨j+x.1≤t→x.2.1.getD t 0=U.getD t 0)∧vl x.2.1+65536^(j+x.1)*x.2.2=vl U+65536^j*vl (V.take x.1))
  (fun x=>V.length-x.1) (0,U,0) ⟨by simp,rfl,hU,by simp,fun _ _=>rfl,by simp[vl]⟩
  (Le.lst [] _ _ rfl (by simp(disch:=omega)only[go_sem];try omega) (by simp(disch:=omega)only[go_sem])) ?_
 rintro⟨i,U1,cy⟩ ⟨hi,hl1,hg1,hcy,hsame,hval⟩
 dsimp only at hi hl1 hg1 hcy hsame hval ⊢
 simp(disch:=omega)only[go_sem]
 refine qe (fun h1=>?_) (fun h1=>?_)
 ·have hx:=qJ hV i
  have hu:=hg1 (j+i) (by omega)
  have e1:((j:Int)+(i:Int)).toNat=j+i:=by omega
  simp(disch:=omega)only[go_sem,h1,e1]
  generalize hb:cy+(U1.getD (j+i) 0+V.getD i 0)=b
  have hg2:∀t,t≠j+V.length→0≤(U1.set (j+i) (b % 65536)).getD t 0∧(U1.set (j+i) (b % 65536)).getD t 0<65536:=fun t ht=>by
   rw[jq (by omega)]
   split
   ·omega
   ·exact hg1 t ht
  refine⟨by omega,by omega,by omega,by omega,by omega,by omega,qb (i+1,U1.set (j+i) (b % 65536),b/65536) [] ⟨by show i+1≤_;omega,by simp[hl1],hg2,by show 0≤b/65536∧b/65536≤1;omega,fun t ht=>?_,?_⟩
   (by show V.length-(i+1)<V.length-i;omega) rfl (by simp(disch:=omega)only[go_sem];try omega) (by simp(disch:=omega)only[go_sem])⟩
  ·show(U1.set (j+i) (b % 65536)).getD t 0=_
   have ht:t<j∨j+(i+1)≤t:=ht
   rw[jq (by omega),if_neg (by omega)];exact hsame t (by omega)
  ·show vl (U1.set (j+i) (b % 65536))+65536^(j+(i+1))*(b/65536)=vl U+65536^j*vl (V.take (i+1))
   rw[Q7 (by omega),qS,←Nat.add_assoc,Int.pow_succ]
   have e3:(65536:Int)^(j+i)=65536^j*65536^i:=Int.pow_add _ _ _
   have e4:b % 65536+65536*(b/65536)=b:=Int.emod_add_mul_ediv b 65536
   rw[e3]at hval ⊢
   generalize (65536:Int)^i=Pi at*
   generalize (65536:Int)^j=Pj at*
   grind
 ·have hiA:i=V.length:=by omega
  subst hiA
  rw[List.take_length]at hval
  have e1:((j:Int)+(V.length:Int)).toNat=j+V.length:=by omega
  have es:=hsame (j+V.length) (by omega)
  simp(disch:=omega)only[go_sem,h1,e1,es]
  refine⟨by omega,by omega,by omega,by omega,?_⟩
  refine qg [] [] [.own 1 (qc (U1.set (j+V.length) (U.getD (j+V.length) 0+cy)))] [] rfl (by simp(disch:=omega)only[go_sem]) (by simp(disch:=omega)only[go_sem]) (by simp) (by simp) ⟨_,rfl,rfl,rfl,by simp[hl1],fun t ht=>?_,fun t ht=>?_,?_⟩
  ·rw[jq (by omega),if_neg ht];exact hg1 t ht
  ·rw[jq (by omega),if_neg (by omega)];exact hsame t (by omega)
  ·rw[Q7 (by omega),es]
   generalize (65536:Int)^(j+V.length)=Pj at*
   grind
end Go.Ab
namespace Go.Ab
open Go Go.Proofs
theorem jt(xs:List Int)(hl:xs.length≤2^40):Con Tryz.prog 254 false [.rf 10000000 0 xs.length] [.own 1 (qc xs)] (fun r hs bs=>r=.rf 10000000 0 (Jj xs).length∧hs=[]∧bs=[.own 1 (qc xs)]):=by
 refine Con.of_aw Tryz.func254 rfl Tryz.ntmps254 (by simp) (by simp) (by simp) (W.sound ?_)
 show @W Tryz.prog 21 ⟨_⟩ ⟨fun x σ=>@qR _ _ _ ⟨_⟩ _ ⟨_⟩ x σ⟩ _ _
 simp(disch:=omega)only[go_sem]
 refine qj (fun m:Nat=>[(0,.rf 10000000 0 m)]) (fun _=>[(10000000,.own 1 (qc xs))]) (fun m=>m≤xs.length∧Jj (xs.take m)=Jj xs) id xs.length ⟨Nat.le_refl _,by simp⟩
  (Le.lst [] _ _ rfl (by simp(disch:=omega)only[go_sem];try omega) (by simp(disch:=omega)only[go_sem])) ?_
 intro m ⟨hm,hx⟩
 have hmx:∀k,k+1=m→xs.take m=xs.take k++[xs.getD k 0]:=fun k hk=>by rw[←hk];exact jR (by omega)
 simp(disch:=omega)only[go_sem]
 refine qe (fun h1=>?_) (fun h1=>?_)
 ·obtain⟨k,rfl⟩:∃k,m=k+1:=⟨m-1,by omega⟩
  have e1:((k+1:Nat):Int)-1=(k:Nat):=by omega
  rw[hmx k rfl]at hx
  simp(disch:=omega)only[go_sem,h1,e1]
  refine⟨by omega,by omega,qe (fun h2=>?_) (fun h2=>?_)⟩
  ·simp(disch:=omega)only[go_sem,h2,e1]
   rw[h2,QC]at hx
   refine⟨by omega,qb k [] ⟨by omega,hx⟩ (by show k<k+1;omega) rfl (by simp(disch:=omega)only[go_sem];try omega) (by simp(disch:=omega)only[go_sem])⟩
  ·simp(disch:=omega)only[go_sem,h2]
   refine qg [] [] [.own 1 (qc xs)] [.rf 10000000 0 (k+1)] rfl (by simp(disch:=omega)only[go_sem]) (by simp(disch:=omega)only[go_sem]) (by simp) (by simp) ⟨?_,rfl,rfl⟩
   rw[Y1 _ h2,←hmx k rfl]at hx
   rw[←hx,List.length_take,Nat.min_eq_left hm];rfl
 ·simp(disch:=omega)only[go_sem,h1]
  refine qg [] [] [.own 1 (qc xs)] [.rf 10000000 0 m] rfl (by simp(disch:=omega)only[go_sem]) (by simp(disch:=omega)only[go_sem]) (by simp) (by simp) ⟨?_,rfl,rfl⟩
  have:m=0:=by omega
  subst this
  rw[←hx];rfl
end Go.Ab
namespace Go.Ab
open Go Go.Proofs
theorem apz{x y:Int}(hx:0≤x∧x<65536)(hy:0≤y∧y<65536):0≤x*y∧x*y≤4294836225:=by
 have h1:=Int.mul_nonneg hx.1 hy.1
 have h2:x*y≤65535*65535:=Int.mul_le_mul (by omega) (by omega) hy.1 (by omega)
 omega
theorem aqF(cl:Bool)(A B:List Int)(hA:gd A)(hB:gd B)(lA:A.length≤1000000)(lB:B.length≤1000000):
  Con Tryz.prog 201 cl [.sl A.length (qc A),.sl B.length (qc B)] [] (ar5 (lim (vl A*vl B).toNat)):=by
 refine Con.of_aw Tryz.func201 rfl Tryz.ntmps201 (by simp) (by simp) (by simp) (W.sound ?_)
 show @W Tryz.prog 63 ⟨_⟩ ⟨fun x σ=>@qR _ _ _ ⟨_⟩ _ ⟨_⟩ x σ⟩ _ _
 simp(disch:=omega)only[go_sem]
 refine⟨⟨by omega,by omega,by omega⟩,?_⟩
 refine qj (fun x:Nat×List Int=>[(1,.sl B.length (qc B)),(5,.rf 180000000 0 (A.length+B.length)),(17,.sl A.length (qc A)),(18,.v (.int .i64 A.length)),(19,.v (.int .i64 x.1))])
  (fun x=>[(180000000,.own 1 (qc x.2))])
  (fun x=>x.1≤A.length∧x.2.length=A.length+B.length∧gd x.2∧vl x.2=vl (A.take x.1)*vl B∧∀j,x.1+B.length≤j→x.2.getD j 0=0)
  (fun x=>A.length-x.1) (0,List.replicate (A.length+B.length) 0) ⟨by simp,by simp,zj _,by simp[zP,vl],fun j _=>by
   rw[List.getD_eq_getElem?_getD,List.getElem?_replicate];split<;>rfl⟩
  (Le.lst [] _ _ rfl (by simp(disch:=omega)only[go_sem];try omega) (by simp(disch:=omega)only[go_sem,show((A.length:Int)+(B.length:Int)).toNat=A.length+B.length by omega])) ?_
 rintro⟨i,out⟩ ⟨hi,hol,hog,hov,hoz⟩
 dsimp only at hi hol hog hov hoz ⊢
 simp(disch:=omega)only[go_sem]
 refine qe (fun h1=>?_) (fun h1=>?_)
 ·have hx:=qJ hA i
  simp(disch:=omega)only[go_sem,h1]
  refine⟨by omega,by omega,?_⟩
  refine qj (fun x:Nat×List Int×Int=>[(1,.sl B.length (qc B)),(5,.rf 180000000 0 (A.length+B.length)),(17,.sl A.length (qc A)),(18,.v (.int .i64 A.length)),(19,.v (.int .i64 i)),(6,.v (.int .i64 i)),
    (7,.v (.int .i64 (A.getD i 0))),(8,.v (.int .i64 x.2.2)),(24,.sl B.length (qc B)),(25,.v (.int .i64 B.length)),(26,.v (.int .i64 x.1))])
   (fun x=>[(180000000,.own 1 (qc x.2.1))])
   (fun x=>x.1≤B.length∧x.2.1.length=A.length+B.length∧gd x.2.1∧(0≤x.2.2∧x.2.2<65536)∧vl x.2.1+65536^(i+x.1)*x.2.2=vl out+65536^i*(A.getD i 0*vl (B.take x.1))∧∀j,i+B.length≤j→x.2.1.getD j 0=0)
   (fun x=>B.length-x.1) (0,out,0) ⟨by simp,hol,hog,by simp,by simp[vl],hoz⟩
   (Le.lst [] _ _ rfl (by simp(disch:=omega)only[go_sem];try omega) (by simp(disch:=omega)only[go_sem])) ?_
  rintro⟨j,o2,cy⟩ ⟨hj,hol2,hog2,hcy,hov2,hoz2⟩
  dsimp only at hj hol2 hog2 hcy hov2 hoz2 ⊢
  simp(disch:=omega)only[go_sem]
  refine qe (fun h2=>?_) (fun h2=>?_)
  ·have hy:=qJ hB j
   have ho:=qJ hog2 (i+j)
   have hxy:=apz hx hy
   have e1:((i:Int)+(j:Int)).toNat=i+j:=by omega
   simp(disch:=omega)only[go_sem,h2,e1]
   generalize hq:cy+(o2.getD (i+j) 0+A.getD i 0*B.getD j 0)=q
   refine⟨by omega,by omega,by omega,by omega,by omega,by omega,qb (j+1,o2.set (i+j) (q % 65536),q/65536) [] ⟨by show j+1≤_;omega,by simp[hol2],yZ hog2 (by omega),by show 0≤q/65536∧q/65536<65536;omega,?_,fun k hk=>?_⟩
    (by show B.length-(j+1)<B.length-j;omega) rfl (by simp(disch:=omega)only[go_sem];try omega) (by simp(disch:=omega)only[go_sem])⟩
   ·show vl (o2.set (i+j) (q % 65536))+65536^(i+(j+1))*(q/65536)=vl out+65536^i*(A.getD i 0*vl (B.take (j+1)))
    rw[Q7 (by omega),jd (by omega),←Nat.add_assoc,Int.pow_succ]
    have e2:(65536:Int)^(i+j)=65536^i*65536^j:=Int.pow_add _ _ _
    have e3:q % 65536+65536*(q/65536)=q:=Int.emod_add_mul_ediv q 65536
    rw[e2]at hov2 ⊢
    generalize (65536:Int)^i=Pi at*
    generalize (65536:Int)^j=Pj at*
    grind
   ·show(o2.set (i+j) (q % 65536)).getD k 0=0
    rw[List.getD_eq_getElem?_getD,List.getElem?_set_ne (by omega),←List.getD_eq_getElem?_getD]
    exact hoz2 k hk
  ·simp(disch:=omega)only[go_sem,h2]
   have e1:((i:Int)+(B.length:Int)).toNat=i+B.length:=by omega
   have hjB:j=B.length:=by omega
   subst hjB
   rw[List.take_length]at hov2
   simp(disch:=omega)only[go_sem,e1]
   refine⟨by omega,by omega,qb (i+1,o2.set (i+B.length) cy) [] ⟨by show i+1≤_;omega,by simp[hol2],yZ hog2 hcy,?_,fun k hk=>?_⟩ (by show A.length-(i+1)<A.length-i;omega) rfl (by simp(disch:=omega)only[go_sem];try omega) (by simp(disch:=omega)only[go_sem])⟩
   ·show vl (o2.set (i+B.length) cy)=vl (A.take (i+1))*vl B
    rw[Q7 (by omega),hoz2 _ (Nat.le_refl _),jd (by omega)]
    generalize (65536:Int)^i=Pi at*
    grind
   ·show(o2.set (i+B.length) cy).getD k 0=0
    rw[List.getD_eq_getElem?_getD,List.getElem?_set_ne (by show i+B.length≠k;omega),←List.getD_eq_getElem?_getD]
    exact hoz2 k (by omega)
 ·simp(disch:=omega)only[go_sem,h1]
  have hiA:i=A.length:=by omega
  subst hiA
  rw[List.take_length]at hov
  refine za false [180000000] (jt out (by omega)) (by rw[←hol];simp(disch:=omega)only[go_sem]) (by simp(disch:=omega)only[go_sem]) rfl (qQ (z:=1) (cs:=qc out) (by simp(disch:=omega)only[go_sem]) (by simp(disch:=omega)only[go_sem])) (by intro n hn;exact⟨_,List.mem_singleton.2 rfl,by rw[List.mem_singleton.1 hn];rfl⟩) ?_
  rintro r hs bs ⟨rfl,rfl,rfl⟩ _
  refine⟨by simp[qO],?_⟩
  simp(disch:=omega)only[go_sem]
  obtain⟨z,hz⟩:=zL out
  have hc:=jb hog
  rw[hov]at hc
  rw[hc]at hz ⊢
  refine qg [(0,180000000)] [.own 1 (qc out)] [] [.rf 0 0 (lim (vl A*vl B).toNat).length] rfl (by simp(disch:=omega)only[go_sem]) (by simp(disch:=omega)only[go_sem]) (by simp) (by intro _;simp[zg,AV.pu,AV.pu.puL,Ob.pu,qX]) (.inr ⟨List.replicate z 0,rfl,by rw[←hz]⟩)
end Go.Ab
namespace Go.Ab
open Go Go.Proofs
theorem aqK(cl:Bool)(n:Nat)(hn:n<2^63):Con Tryz.prog 216 cl [.v (.int .i64 n)] [] (ar5 (lim n)):=by
 refine Con.of_aw Tryz.func216 rfl Tryz.ntmps216 (by simp) (by simp) (by simp) (W.sound ?_)
 show @W Tryz.prog 14 ⟨_⟩ ⟨fun x σ=>@qR _ _ _ ⟨_⟩ _ ⟨_⟩ x σ⟩ _ _
 simp(disch:=omega)only[go_sem]
 refine qj (fun x:Nat×List Int=>[(0,.v (.int .i64 x.1)),(3,.rf 1 0 x.2.length)]) (fun x=>[(1,.own 1 (qc x.2))]) (fun x=>x.1<2^63∧x.2++lim x.1=lim n) (fun x=>x.1) (n,[]) ⟨hn,rfl⟩
  ((Le.ghost 3 1 1 (by simp(disch:=omega)only[go_sem]) (by simp(disch:=omega)only[go_sem])).trans (Le.lst [] _ _ rfl (by simp(disch:=omega)only[go_sem]) (by simp(disch:=omega)only[go_sem]))) ?_
 rintro⟨k,l⟩ ⟨hk,hl⟩
 dsimp only at hk hl ⊢
 have hlen:l.length≤4:=by
  have h1:=congrArg List.length hl
  have h2:=jL (n:=n) (k:=4) |>.2 (by omega)
  rw[List.length_append]at h1;omega
 simp(disch:=omega)only[go_sem]
 refine qe (fun h1=>?_) (fun h1=>?_)
 ·simp(disch:=omega)only[go_sem,h1]
  have hk0:k≠0:=by omega
  refine⟨by omega,qb (k/65536,l++[(k:Int) % 65536]) [(1,140000000)] ⟨by show k/65536<2^63;omega,?_⟩ (by show k/65536<k;omega) rfl (by simp(disch:=omega)only[go_sem,List.length_append];omega) (by simp(disch:=omega)only[go_sem])⟩
  rw[yd hk0]at hl
  rw[←hl,List.append_assoc];rfl
 ·simp(disch:=omega)only[go_sem,h1]
  have hk0:k=0:=by omega
  subst hk0
  rw[qo,List.append_nil]at hl
  subst hl
  refine qg [(0,1)] [.own 1 (qc (lim n++[]))] [] [.rf 0 0 (lim n).length] rfl (by simp(disch:=omega)only[go_sem]) (by simp(disch:=omega)only[go_sem]) (by simp) (by intro _;simp[zg,AV.pu,AV.pu.puL,Ob.pu,qX]) (.inr ⟨[],rfl,rfl⟩)
end Go.Ab
namespace Go.Ab
open Go Go.Proofs
theorem yu(k:Nat)(h:k<16):(0:Int)<2^k∧(2:Int)^k≤32768:=by
 have:∀k,k<16→(0:Int)<2^k∧(2:Int)^k≤32768:=by decide
 exact this k h
theorem apy{x:Int}(hx:0≤x∧x<65536){k:Nat}(hk:k<16):0≤x*2^k∧x*2^k≤2147450880:=by
 obtain⟨h1,h2⟩:=yu k hk
 have h3:=Int.mul_nonneg hx.1 (Int.le_of_lt h1)
 have h4:x*2^k≤65535*32768:=Int.mul_le_mul (by omega) h2 (by omega) (by omega)
 omega
theorem K0(k:Nat):(65536:Int)^(k/16)*2^(k % 16)=2^k:=by
 have e:(65536:Int)=2^16:=by decide
 rw[e,←Int.pow_mul,←Int.pow_add,Nat.div_add_mod]
theorem aTz(cl:Bool)(A:List Int)(k:Nat)(hA:gd A)(lA:A.length≤1000000)(hk:k≤100000000):
  Con Tryz.prog 244 cl [.sl A.length (qc A),.v (.int .i64 k)] [] (ar5 (lim (vl A*2^k).toNat)):=by
 refine Con.of_aw Tryz.func244 rfl Tryz.ntmps244 (by simp) (by simp) (by simp) (W.sound ?_)
 show @W Tryz.prog 46 ⟨_⟩ ⟨fun x σ=>@qR _ _ _ ⟨_⟩ _ ⟨_⟩ x σ⟩ _ _
 simp(disch:=omega)only[go_sem]
 refine qe (fun h0=>?_) (fun h0=>?_)
 ·simp(disch:=omega)only[go_sem,h0]
  have:A=[]:=List.length_eq_zero_iff.1 (by omega)
  subst this
  refine qg [] [] [] [.v (.slice none 0 0)] rfl (by simp(disch:=omega)only[go_sem]) (by simp(disch:=omega)only[go_sem]) (by simp) (by intro _;simp[zg,AV.pu,AV.pu.puL,Ob.pu,qX]) (.inl ⟨by simp[vl,qo],rfl,rfl⟩)
 ·simp(disch:=omega)only[go_sem,h0]
  refine⟨by omega,?_⟩
  have e16:((k:Int)/16).toNat=k/16:=by omega
  refine qj (fun x:Nat×List Int×Int=>[(1,.v (.int .i64 k)),(5,.rf 1 0 x.2.1.length),(6,.v (.int .i64 x.2.2)),(21,.sl A.length (qc A)),(22,.v (.int .i64 A.length)),(23,.v (.int .i64 x.1))])
   (fun x=>[(1,.own 1 (qc x.2.1))])
   (fun x=>x.1≤A.length∧x.2.1.length=k/16+x.1∧gd x.2.1∧(0≤x.2.2∧x.2.2<65536)∧vl x.2.1+65536^(k/16+x.1)*x.2.2=65536^(k/16)*2^(k % 16)*vl (A.take x.1))
   (fun x=>A.length-x.1) (0,List.replicate (k/16) 0,0) ⟨by simp,by simp,zj _,by simp,by simp[vl,zP]⟩
   (Le.lst [(1,220000000)] _ _ rfl (by simp(disch:=omega)only[go_sem,List.length_replicate,e16]) (by simp(disch:=omega)only[go_sem,e16])) ?_
  rintro⟨i,out,cy⟩ ⟨hi,hol,hog,hcy,hov⟩
  dsimp only at hi hol hog hcy hov ⊢
  simp(disch:=omega)only[go_sem]
  refine qe (fun h1=>?_) (fun h1=>?_)
  ·have hx:=qJ hA i
   have hxs:=apy hx (show k % 16<16 by omega)
   have em:min ((k:Int) % 16).toNat 64=k % 16:=by omega
   simp(disch:=omega)only[go_sem,h1,em]
   generalize hq:cy+A.getD i 0*2^(k % 16)=q
   refine⟨by omega,by omega,by omega,by omega,qb (i+1,out++[q % 65536],q/65536) [(1,390000000)] ⟨by show i+1≤_;omega,by simp[hol];omega,qF.2 ⟨hog,zU.2 (by omega)⟩,by show 0≤q/65536∧q/65536<65536;omega,?_⟩ (by show A.length-(i+1)<A.length-i;omega) rfl (by simp(disch:=omega)only[go_sem,List.length_append];try omega) (by simp(disch:=omega)only[go_sem])⟩
   show vl (out++[q % 65536])+65536^(k/16+(i+1))*(q/65536)=65536^(k/16)*2^(k % 16)*vl (A.take (i+1))
   rw[jx,qS,hol,←Nat.add_assoc,Int.pow_succ]
   have e3:q % 65536+65536*(q/65536)=q:=Int.emod_add_mul_ediv q 65536
   rw[Int.pow_add]at hov ⊢
   generalize (65536:Int)^i=Pi at*
   generalize (65536:Int)^(k/16)=Pk at*
   generalize (2:Int)^(k % 16)=Pm at*
   grind
  ·simp(disch:=omega)only[go_sem,h1]
   have hiA:i=A.length:=by omega
   subst hiA
   rw[List.take_length,K0]at hov
   have hov2:vl (out++[cy])=vl A*2^k:=by rw[jx,hol,hov];grind
   have hog2:gd (out++[cy]):=qF.2 ⟨hog,zU.2 hcy⟩
   refine⟨by omega,?_⟩
   have hl2:out.length+1=(out++[cy]).length:=by simp
   rw[hl2]
   refine za false [460000000] (jt (out++[cy]) (by simp;omega)) (by simp(disch:=omega)only[go_sem]) (by simp(disch:=omega)only[go_sem]) rfl (qQ (z:=1) (cs:=qc (out++[cy])) (by simp(disch:=omega)only[go_sem]) (by simp(disch:=omega)only[go_sem])) (by intro n hn;exact⟨_,List.mem_singleton.2 rfl,by rw[List.mem_singleton.1 hn];rfl⟩) ?_
   rintro r hs bs ⟨rfl,rfl,rfl⟩ _
   refine⟨by simp[qO],?_⟩
   simp(disch:=omega)only[go_sem]
   obtain⟨z,hz⟩:=zL (out++[cy])
   have hc:=jb hog2
   rw[hov2]at hc
   rw[hc]at hz ⊢
   refine qg [(0,460000000)] [.own 1 (qc (out++[cy]))] [] [.rf 0 0 (lim (vl A*2^k).toNat).length] rfl (by simp(disch:=omega)only[go_sem]) (by simp(disch:=omega)only[go_sem]) (by simp) (by intro _;simp[zg,AV.pu,AV.pu.puL,Ob.pu,qX]) (.inr ⟨List.replicate z 0,rfl,by rw[←hz]⟩)
end Go.Ab
namespace Go.Ab
open Go Go.Proofs
theorem aCh(V P:Int)(hP:0<P):V % (P*65536)=V % P+P*(V/P % 65536):=by
 rw[Int.emod_def,Int.emod_def,Int.emod_def,←Int.ediv_ediv_of_nonneg (Int.le_of_lt hP)]
 grind
theorem aBL{s:Nat}(hs:s<16):(65536:Int)=2^s*2^(16-s):=by
 rw[←Int.pow_add,show s+(16-s)=16 by omega];decide
theorem ajR{D:List Int}(hD:gd D){i s:Nat}(hi:i<D.length)(hs:s<16):
  (vl D/2^s)/65536^i % 65536=(D.getD i 0+D.getD (i+1) 0*65536)/2^s % 65536:=by
 have h2:=(yu s hs).1
 rw[Int.ediv_ediv_of_nonneg (Int.le_of_lt h2),Int.mul_comm,←Int.ediv_ediv_of_nonneg (Int.le_of_lt (Int.pow_pos (by omega))),aeO hD (by omega),zF hi]
 have h3:vl (D.drop (i+1))=D.getD (i+1) 0+65536*vl (D.drop (i+2)):=by
  rcases Nat.lt_or_ge (i+1) D.length with h|h
  ·exact zF h
  ·rw[List.drop_of_length_le h,List.drop_of_length_le (by omega),List.getD_eq_getElem?_getD,List.getElem?_eq_none h];simp[vl]
 rw[h3]
 have e:D.getD i 0+65536*(D.getD (i+1) 0+65536*vl (D.drop (i+2)))=(D.getD i 0+D.getD (i+1) 0*65536)+2^s*(65536*(2^(16-s)*vl (D.drop (i+2)))):=by
  have:=aBL hs
  generalize (2:Int)^s=a at*
  generalize (2:Int)^(16-s)=b at*
  grind
 rw[e,Int.add_mul_ediv_left _ _ (by omega),Int.add_mul_emod_self_left]
theorem aph{a b:Nat}(h:a≤b):(65536:Int)^a≤65536^b:=by
 obtain⟨d,rfl⟩:=Nat.exists_eq_add_of_le h
 have h1:(0:Int)<65536^a:=Int.pow_pos (by omega)
 have h2:(0:Int)<65536^d:=Int.pow_pos (by omega)
 have h3:=Int.mul_le_mul_of_nonneg_left (show(1:Int)≤65536^d by omega) (Int.le_of_lt h1)
 rw[Int.mul_one,←Int.pow_add]at h3
 exact h3
theorem aDE(cl:Bool)(A:List Int)(k:Nat)(hA:gd A)(lA:A.length≤1000000)(hk:k≤100000000):
  Con Tryz.prog 235 cl [.sl A.length (qc A),.v (.int .i64 k)] [] (ar5 (lim (vl A/2^k).toNat)):=by
 refine Con.of_aw Tryz.func235 rfl Tryz.ntmps235 (by simp) (by simp) (by simp) (W.sound ?_)
 show @W Tryz.prog 52 ⟨_⟩ ⟨fun x σ=>@qR _ _ _ ⟨_⟩ _ ⟨_⟩ x σ⟩ _ _
 have hvk:vl A/2^k=vl A/65536^(k/16)/2^(k % 16):=by
  rw[Int.ediv_ediv_of_nonneg (Int.le_of_lt (Int.pow_pos (by omega))),K0]
 simp(disch:=omega)only[go_sem]
 refine qe (fun h0=>?_) (fun h0=>?_)
 ·simp(disch:=omega)only[go_sem,h0]
  have hz:vl A/2^k=0:=by
   rw[hvk,Int.ediv_eq_zero_of_lt (qU hA)]
   ·simp
   ·refine Int.lt_of_lt_of_le (QL hA) ?_
    exact aph (by omega)
  rw[hz]
  refine qg [] [] [] [.v (.slice none 0 0)] rfl (by simp(disch:=omega)only[go_sem]) (by simp(disch:=omega)only[go_sem]) (by simp) (by intro _;simp[zg,AV.pu,AV.pu.puL,Ob.pu,qX]) (.inl ⟨by simp[qo],rfl,rfl⟩)
 ·have e16:((k:Int)/16).toNat=k/16:=by omega
  have e17:((A.length:Int)-(k:Int)/16).toNat=(A.drop (k/16)).length:=by simp;omega
  have e18:(A.drop (k/16)).take (A.drop (k/16)).length=A.drop (k/16):=List.take_length
  have hvD:=aeO hA (i:=k/16) (by omega)
  have hlD:(A.drop (k/16)).length≤1000000:=by simp;omega
  have hD:=yB hA (k/16)
  simp(disch:=omega)only[go_sem,h0,e16,e17,e18]
  generalize A.drop (k/16)=D at*
  refine⟨by omega,by omega,?_⟩
  refine qj (fun x:Nat×List Int=>[(1,.v (.int .i64 k)),(5,.sl D.length (qc D)),(6,.rf 1 0 x.2.length),(21,.sl D.length (qc D)),(22,.v (.int .i64 D.length)),(23,.v (.int .i64 x.1))])
   (fun x=>[(1,.own 1 (qc x.2))])
   (fun x=>x.1≤D.length∧x.2.length=x.1∧gd x.2∧vl x.2=vl D/2^(k % 16) % 65536^x.1)
   (fun x=>D.length-x.1) (0,[]) ⟨by simp,rfl,Z9,by simp[vl]⟩
   (Le.lst [(1,220000000)] _ _ rfl (by simp(disch:=omega)only[go_sem]) (by simp(disch:=omega)only[go_sem])) ?_
  rintro⟨i,out⟩ ⟨hi,hol,hog,hov⟩
  dsimp only at hi hol hog hov ⊢
  simp(disch:=omega)only[go_sem]
  refine qe (fun h1=>?_) (fun h1=>?_)
  ·have hx:=qJ hD i
   have hy:=qJ hD (i+1)
   have em:min ((k:Int) % 16).toNat 64=k % 16:=by omega
   have hm:=yu (k % 16) (by omega)
   have efd:∀x:Int,x.fdiv (2^(k % 16))=x/2^(k % 16):=fun x=>Int.fdiv_eq_ediv_of_nonneg _ (Int.le_of_lt hm.1)
   have hdig:=ajR hD (i:=i) (s:=k % 16) (by omega) (by omega)
   have hnn:∀x:Int,0≤x→0≤x/2^(k % 16):=fun x hx=>Int.ediv_nonneg hx (Int.le_of_lt hm.1)
   have ei:((i:Int)+1).toNat=i+1:=by omega
   have hstep:∀z:Int,z=(D.getD i 0+D.getD (i+1) 0*65536)/2^(k % 16) % 65536→vl (out++[z])=vl D/2^(k % 16) % 65536^(i+1):=by
    intro z hz
    rw[jx,hov,hol,Int.pow_succ,aCh _ _ (Int.pow_pos (by omega)),hdig,hz]
   simp(disch:=omega)only[go_sem,h1]
   refine⟨by omega,by omega,qe (fun h2=>?_) (fun h2=>?_)⟩
   ·have hn1:=hnn (D.getD i 0+D.getD (i+1) 0*65536) (by omega)
    simp(disch:=omega)only[go_sem,h2,em,efd,ei]
    refine⟨by omega,by omega,by omega,by omega,qb (i+1,out++[(D.getD i 0+D.getD (i+1) 0*65536)/2^(k % 16) % 65536]) [(1,500000000)] ⟨by show i+1≤_;omega,by simp[hol],qF.2 ⟨hog,zU.2 (by omega)⟩,hstep _ rfl⟩ (by show D.length-(i+1)<D.length-i;omega) rfl (by simp(disch:=omega)only[go_sem,List.length_append];try omega) (by simp(disch:=omega)only[go_sem])⟩
   ·have hn1:=hnn (D.getD i 0) (by omega)
    simp(disch:=omega)only[go_sem,h2,em,efd]
    have hy0:D.getD (i+1) 0=0:=by rw[List.getD_eq_getElem?_getD,List.getElem?_eq_none (by omega)];rfl
    refine⟨by omega,by omega,qb (i+1,out++[D.getD i 0/2^(k % 16) % 65536]) [(1,500000000)] ⟨by show i+1≤_;omega,by simp[hol],qF.2 ⟨hog,zU.2 (by omega)⟩,hstep _ (by rw[hy0];simp)⟩ (by show D.length-(i+1)<D.length-i;omega) rfl (by simp(disch:=omega)only[go_sem,List.length_append];try omega) (by simp(disch:=omega)only[go_sem])⟩
  ·simp(disch:=omega)only[go_sem,h1]
   have hiD:i=D.length:=by omega
   subst hiD
   have hV:vl out=vl A/2^k:=by
    rw[hov,hvk,hvD]
    refine Int.emod_eq_of_lt (Int.ediv_nonneg (qU hD) (Int.le_of_lt (yu (k % 16) (by omega)).1)) ?_
    exact Int.lt_of_le_of_lt (Int.ediv_le_self _ (qU hD)) (QL hD)
   refine za false [1] (jt out (by omega)) (by simp(disch:=omega)only[go_sem]) (by simp(disch:=omega)only[go_sem]) rfl (qQ (z:=1) (cs:=qc out) (by simp(disch:=omega)only[go_sem]) (by simp(disch:=omega)only[go_sem])) (by intro n hn;exact⟨_,List.mem_singleton.2 rfl,by rw[List.mem_singleton.1 hn];rfl⟩) ?_
   rintro r hs bs ⟨rfl,rfl,rfl⟩ _
   refine⟨by simp[qO],?_⟩
   simp(disch:=omega)only[go_sem]
   obtain⟨z,hz⟩:=zL out
   have hc:=jb hog
   rw[hV]at hc
   rw[hc]at hz ⊢
   refine qg [(0,1)] [.own 1 (qc out)] [] [.rf 0 0 (lim (vl A/2^k).toNat).length] rfl (by simp(disch:=omega)only[go_sem]) (by simp(disch:=omega)only[go_sem]) (by simp) (by intro _;simp[zg,AV.pu,AV.pu.puL,Ob.pu,qX]) (.inr ⟨List.replicate z 0,rfl,by rw[←hz]⟩)
end Go.Ab
namespace Go.Ab
open Go Go.Proofs
theorem drop_set{l:List Int}{i:Nat}(h:i<l.length)(z:Int):(l.set i z).drop i=z::l.drop (i+1):=by
 rw[List.drop_eq_getElem_cons (by simpa using h)]
 simp[List.drop_set]
theorem aDF(cl:Bool)(A:List Int)(d:Nat)(hA:gd A)(lA:A.length≤1000000)(hd:0<d)(hd2:d<65536):
  Con Tryz.prog 288 cl [.sl A.length (qc A),.v (.int .i64 d)] [] (fun r hs bs=>∃zs,r=.tu [.rf 0 0 (lim (vl A/d).toNat).length,.v (.int .i64 (vl A % d))]∧hs=[.own 1 (qc (lim (vl A/d).toNat++zs))]):=by
 refine Con.of_aw Tryz.func288 rfl Tryz.ntmps288 (by simp) (by simp) (by simp) (W.sound ?_)
 show @W Tryz.prog 38 ⟨_⟩ ⟨fun x σ=>@qR _ _ _ ⟨_⟩ _ ⟨_⟩ x σ⟩ _ _
 simp(disch:=omega)only[go_sem]
 refine⟨by omega,?_⟩
 refine qj (fun x:Nat×List Int×Int=>[(0,.sl A.length (qc A)),(1,.v (.int .i64 d)),(6,.rf 130000000 0 A.length),(7,.v (.int .i64 x.2.2)),(8,.v (.int .i64 ((x.1:Int)-1)))])
  (fun x=>[(130000000,.own 1 (qc x.2.1))])
  (fun x=>x.1≤A.length∧x.2.1.length=A.length∧gd x.2.1∧x.2.2=vl (A.drop x.1) % d∧vl (x.2.1.drop x.1)=vl (A.drop x.1)/d)
  (fun x=>x.1) (A.length,List.replicate A.length 0,0) ⟨by simp,by simp,zj _,by simp[vl],by simp[vl]⟩
  (Le.lst [] _ _ rfl (by simp(disch:=omega)only[go_sem];try omega) (by simp(disch:=omega)only[go_sem])) ?_
 rintro⟨m,out,rest⟩ ⟨hm,hol,hog,hr,hov⟩
 dsimp only at hm hol hog hr hov ⊢
 simp(disch:=omega)only[go_sem]
 refine qe (fun h1=>?_) (fun h1=>?_)
 ·obtain⟨i,rfl⟩:∃i,m=i+1:=⟨m-1,by omega⟩
  have e1:((i+1:Nat):Int)-1=(i:Nat):=by omega
  have hx:=qJ hA i
  have hr2:0≤rest∧rest<d:=by rw[hr];exact⟨Int.emod_nonneg _ (by omega),Int.emod_lt_of_pos _ (by omega)⟩
  generalize hq:rest*65536+A.getD i 0=q
  have hq0:0≤q:=by omega
  have hqd:0≤q/d∧q/d<65536:=⟨Int.ediv_nonneg hq0 (by omega),Int.ediv_lt_of_lt_mul (by omega) (by omega)⟩
  have hqm:0≤q % d∧q % d<d:=⟨Int.emod_nonneg _ (by omega),Int.emod_lt_of_pos _ (by omega)⟩
  simp(disch:=omega)only[go_sem,h1,e1,hq]
  refine⟨by omega,by omega,by omega,by omega,by omega,by omega,qb (i,out.set i (q/d),q % d) [] ⟨by show i≤_;omega,by simp[hol],yZ hog hqd,?_,?_⟩ (by show i<i+1;omega) rfl (by simp(disch:=omega)only[go_sem]) (by simp(disch:=omega)only[go_sem])⟩
  ·show q % d=vl (A.drop i) % d
   rw[zF (l:=A) (i:=i) (by omega),←hq,hr]
   have h3:=Int.emod_add_mul_ediv (vl (A.drop (i+1))) d
   rw[show A.getD i 0+65536*vl (A.drop (i+1))=vl (A.drop (i+1)) % d*65536+A.getD i 0+d*(65536*(vl (A.drop (i+1))/d)) by grind,Int.add_mul_emod_self_left]
  ·show vl ((out.set i (q/d)).drop i)=vl (A.drop i)/d
   rw[drop_set (by omega),vl,hov,zF (l:=A) (i:=i) (by omega),←hq,hr]
   have h3:=Int.emod_add_mul_ediv (vl (A.drop (i+1))) d
   rw[show A.getD i 0+65536*vl (A.drop (i+1))=vl (A.drop (i+1)) % d*65536+A.getD i 0+d*(65536*(vl (A.drop (i+1))/d)) by grind,Int.add_mul_ediv_left _ _ (by omega)]
 ·simp(disch:=omega)only[go_sem,h1]
  have:m=0:=by omega
  subst this
  rw[List.drop_zero,List.drop_zero]at hov
  rw[List.drop_zero]at hr
  rw[←hol]
  refine za false [130000000] (jt out (by omega)) (by simp(disch:=omega)only[go_sem]) (by simp(disch:=omega)only[go_sem]) rfl (qQ (z:=1) (cs:=qc out) (by simp(disch:=omega)only[go_sem]) (by simp(disch:=omega)only[go_sem])) (by intro n hn;exact⟨_,List.mem_singleton.2 rfl,by rw[List.mem_singleton.1 hn];rfl⟩) ?_
  rintro r hs bs ⟨rfl,rfl,rfl⟩ _
  refine⟨by simp[qO],?_⟩
  simp(disch:=omega)only[go_sem]
  obtain⟨z,hz⟩:=zL out
  have hc:=jb hog
  rw[hov]at hc
  rw[hc]at hz ⊢
  rw[hr]
  refine qg [(0,130000000)] [.own 1 (qc out)] [] [.rf 0 0 (lim (vl A/d).toNat).length,.v (.int .i64 (vl A % d))] rfl (by simp(disch:=omega)only[go_sem]) (by simp(disch:=omega)only[go_sem]) (by simp) (by intro _;simp[zg,AV.pu,AV.pu.puL,Ob.pu,qX]) ⟨List.replicate z 0,rfl,by rw[←hz]⟩
end Go.Ab
namespace Go.Ab
open Go Go.Proofs
theorem aDu(cl:Bool)(A B:List Int)(hA:gd A)(hB:gd B)(lA:A.length≤2000000)(lB:B.length≤2000000):
  Con Tryz.prog 249 cl [.sl A.length (qc A),.sl B.length (qc B)] [] (ar5 (lim (vl A+vl B).toNat)):=by
 refine Con.of_aw Tryz.func249 rfl Tryz.ntmps249 (by simp) (by simp) (by simp) (W.sound ?_)
 show @W Tryz.prog 53 ⟨_⟩ ⟨fun x σ=>@qR _ _ _ ⟨_⟩ _ ⟨_⟩ x σ⟩ _ _
 simp(disch:=omega)only[go_sem]
 refine qe (fun h0=>?_) (fun h0=>?_)
 all_goals simp(disch:=omega)only[go_sem,h0]
 ·revert A B
  intro Y X hY hX lY lX h0'
  have h00:Y.length≤X.length:=by omega
  have hcm:vl Y+vl X=vl X+vl Y:=Int.add_comm _ _
  refine⟨by omega,?_⟩
  refine qj (fun x:Nat×List Int×Int=>[(1,.sl Y.length (qc Y)),(5,.rf 1 0 x.2.1.length),(6,.v (.int .i64 x.2.2)),(20,.sl X.length (qc X)),(21,.v (.int .i64 X.length)),(22,.v (.int .i64 x.1))])
   (fun x=>[(1,.own 1 (qc x.2.1))])
   (fun x=>x.1≤X.length∧x.2.1.length=x.1∧gd x.2.1∧(0≤x.2.2∧x.2.2≤1)∧vl x.2.1+65536^x.1*x.2.2=vl (X.take x.1)+vl (Y.take x.1))
   (fun x=>X.length-x.1) (0,[],0) ⟨by simp,rfl,Z9,by simp,by simp[vl]⟩
   (Le.lst [(1,210000000)] _ _ rfl (by simp(disch:=omega)only[go_sem]) (by simp(disch:=omega)only[go_sem])) ?_
  rintro⟨i,out,cy⟩ ⟨hi,hol,hog,hcy,hov⟩
  dsimp only at hi hol hog hcy hov ⊢
  simp(disch:=omega)only[go_sem]
  refine qe (fun h1=>?_) (fun h1=>?_)
  ·have hx:=qJ hX i
   have hy:=qJ hY i
   have hstep:∀q:Int,q=cy+X.getD i 0+Y.getD i 0→vl (out++[q % 65536])+65536^(i+1)*(q/65536)=vl (X.take (i+1))+vl (Y.take (i+1)):=by
    intro q hq
    rw[jx,qS,qS,hol,Int.pow_succ]
    have e3:q % 65536+65536*(q/65536)=q:=Int.emod_add_mul_ediv q 65536
    generalize (65536:Int)^i=Pi at*
    grind
   have hyz:¬i<Y.length→Y.getD i 0=0:=fun h=>by rw[List.getD_eq_getElem?_getD,List.getElem?_eq_none (by omega)];rfl
   simp(disch:=omega)only[go_sem,h1]
   refine⟨by omega,by omega,qe (fun h2=>?_) (fun h2=>?_)⟩
   ·simp(disch:=omega)only[go_sem,h2]
    generalize hq:cy+X.getD i 0+Y.getD i 0=q
    refine⟨by omega,by omega,by omega,qb (i+1,out++[q % 65536],q/65536) [(1,460000000)] ⟨by show i+1≤_;omega,by simp[hol],qF.2 ⟨hog,zU.2 (by omega)⟩,by show 0≤q/65536∧q/65536≤1;omega,hstep q hq.symm⟩ (by show X.length-(i+1)<X.length-i;omega) rfl (by simp(disch:=omega)only[go_sem,List.length_append];try omega) (by simp(disch:=omega)only[go_sem])⟩
   ·simp(disch:=omega)only[go_sem,h2]
    have hy0:=hyz (by omega)
    generalize hq:cy+X.getD i 0=q
    refine⟨by omega,qb (i+1,out++[q % 65536],q/65536) [(1,460000000)] ⟨by show i+1≤_;omega,by simp[hol],qF.2 ⟨hog,zU.2 (by omega)⟩,by show 0≤q/65536∧q/65536≤1;omega,hstep q (by omega)⟩ (by show X.length-(i+1)<X.length-i;omega) rfl (by simp(disch:=omega)only[go_sem,List.length_append];try omega) (by simp(disch:=omega)only[go_sem])⟩
  ·simp(disch:=omega)only[go_sem,h1]
   have hiA:i=X.length:=by omega
   subst hiA
   rw[List.take_length,List.take_of_length_le h00]at hov
   have hov2:vl (out++[cy])=vl X+vl Y:=by rw[jx,hol];exact hov
   have hog2:gd (out++[cy]):=qF.2 ⟨hog,zU.2 (by omega)⟩
   refine⟨by omega,?_⟩
   have hl2:out.length+1=(out++[cy]).length:=by simp
   rw[hl2]
   refine za false [530000000] (jt (out++[cy]) (by simp;omega)) (by simp(disch:=omega)only[go_sem]) (by simp(disch:=omega)only[go_sem]) rfl (qQ (z:=1) (cs:=qc (out++[cy])) (by simp(disch:=omega)only[go_sem]) (by simp(disch:=omega)only[go_sem])) (by intro n hn;exact⟨_,List.mem_singleton.2 rfl,by rw[List.mem_singleton.1 hn];rfl⟩) ?_
   rintro r hs bs ⟨rfl,rfl,rfl⟩ _
   refine⟨by simp[qO],?_⟩
   simp(disch:=omega)only[go_sem]
   obtain⟨z,hz⟩:=zL (out++[cy])
   have hc:=jb hog2
   rw[hov2]at hc
   rw[hc]at hz ⊢
   refine qg [(0,530000000)] [.own 1 (qc (out++[cy]))] [] [.rf 0 0 (lim (vl X+vl Y).toNat).length] rfl (by simp(disch:=omega)only[go_sem]) (by simp(disch:=omega)only[go_sem]) (by simp) (by intro _;simp[zg,AV.pu,AV.pu.puL,Ob.pu,qX]) (.inr ⟨List.replicate z 0,by rw[hcm];rfl,by rw[hcm,←hz]⟩)
 ·revert A B
  intro X Y hX hY lX lY h0'
  have h00:Y.length≤X.length:=by omega
  have hcm:vl X+vl Y=vl X+vl Y:=rfl
  refine⟨by omega,?_⟩
  refine qj (fun x:Nat×List Int×Int=>[(1,.sl Y.length (qc Y)),(5,.rf 1 0 x.2.1.length),(6,.v (.int .i64 x.2.2)),(20,.sl X.length (qc X)),(21,.v (.int .i64 X.length)),(22,.v (.int .i64 x.1))])
   (fun x=>[(1,.own 1 (qc x.2.1))])
   (fun x=>x.1≤X.length∧x.2.1.length=x.1∧gd x.2.1∧(0≤x.2.2∧x.2.2≤1)∧vl x.2.1+65536^x.1*x.2.2=vl (X.take x.1)+vl (Y.take x.1))
   (fun x=>X.length-x.1) (0,[],0) ⟨by simp,rfl,Z9,by simp,by simp[vl]⟩
   (Le.lst [(1,210000000)] _ _ rfl (by simp(disch:=omega)only[go_sem]) (by simp(disch:=omega)only[go_sem])) ?_
  rintro⟨i,out,cy⟩ ⟨hi,hol,hog,hcy,hov⟩
  dsimp only at hi hol hog hcy hov ⊢
  simp(disch:=omega)only[go_sem]
  refine qe (fun h1=>?_) (fun h1=>?_)
  ·have hx:=qJ hX i
   have hy:=qJ hY i
   have hstep:∀q:Int,q=cy+X.getD i 0+Y.getD i 0→vl (out++[q % 65536])+65536^(i+1)*(q/65536)=vl (X.take (i+1))+vl (Y.take (i+1)):=by
    intro q hq
    rw[jx,qS,qS,hol,Int.pow_succ]
    have e3:q % 65536+65536*(q/65536)=q:=Int.emod_add_mul_ediv q 65536
    generalize (65536:Int)^i=Pi at*
    grind
   have hyz:¬i<Y.length→Y.getD i 0=0:=fun h=>by rw[List.getD_eq_getElem?_getD,List.getElem?_eq_none (by omega)];rfl
   simp(disch:=omega)only[go_sem,h1]
   refine⟨by omega,by omega,qe (fun h2=>?_) (fun h2=>?_)⟩
   ·simp(disch:=omega)only[go_sem,h2]
    generalize hq:cy+X.getD i 0+Y.getD i 0=q
    refine⟨by omega,by omega,by omega,qb (i+1,out++[q % 65536],q/65536) [(1,460000000)] ⟨by show i+1≤_;omega,by simp[hol],qF.2 ⟨hog,zU.2 (by omega)⟩,by show 0≤q/65536∧q/65536≤1;omega,hstep q hq.symm⟩ (by show X.length-(i+1)<X.length-i;omega) rfl (by simp(disch:=omega)only[go_sem,List.length_append];try omega) (by simp(disch:=omega)only[go_sem])⟩
   ·simp(disch:=omega)only[go_sem,h2]
    have hy0:=hyz (by omega)
    generalize hq:cy+X.getD i 0=q
    refine⟨by omega,qb (i+1,out++[q % 65536],q/65536) [(1,460000000)] ⟨by show i+1≤_;omega,by simp[hol],qF.2 ⟨hog,zU.2 (by omega)⟩,by show 0≤q/65536∧q/65536≤1;omega,hstep q (by omega)⟩ (by show X.length-(i+1)<X.length-i;omega) rfl (by simp(disch:=omega)only[go_sem,List.length_append];try omega) (by simp(disch:=omega)only[go_sem])⟩
  ·simp(disch:=omega)only[go_sem,h1]
   have hiA:i=X.length:=by omega
   subst hiA
   rw[List.take_length,List.take_of_length_le h00]at hov
   have hov2:vl (out++[cy])=vl X+vl Y:=by rw[jx,hol];exact hov
   have hog2:gd (out++[cy]):=qF.2 ⟨hog,zU.2 (by omega)⟩
   refine⟨by omega,?_⟩
   have hl2:out.length+1=(out++[cy]).length:=by simp
   rw[hl2]
   refine za false [530000000] (jt (out++[cy]) (by simp;omega)) (by simp(disch:=omega)only[go_sem]) (by simp(disch:=omega)only[go_sem]) rfl (qQ (z:=1) (cs:=qc (out++[cy])) (by simp(disch:=omega)only[go_sem]) (by simp(disch:=omega)only[go_sem])) (by intro n hn;exact⟨_,List.mem_singleton.2 rfl,by rw[List.mem_singleton.1 hn];rfl⟩) ?_
   rintro r hs bs ⟨rfl,rfl,rfl⟩ _
   refine⟨by simp[qO],?_⟩
   simp(disch:=omega)only[go_sem]
   obtain⟨z,hz⟩:=zL (out++[cy])
   have hc:=jb hog2
   rw[hov2]at hc
   rw[hc]at hz ⊢
   refine qg [(0,530000000)] [.own 1 (qc (out++[cy]))] [] [.rf 0 0 (lim (vl X+vl Y).toNat).length] rfl (by simp(disch:=omega)only[go_sem]) (by simp(disch:=omega)only[go_sem]) (by simp) (by intro _;simp[zg,AV.pu,AV.pu.puL,Ob.pu,qX]) (.inr ⟨List.replicate z 0,by rw[hcm];rfl,by rw[hcm,←hz]⟩)
end Go.Ab
namespace Go.Ab
open Go Go.Proofs
theorem aaO(cl:Bool)(xs:List Int)(hl:xs.length≤2^39):Con Tryz.prog 272 cl [.sl xs.length (qc xs)] [] (ar5 xs):=by
 refine Con.of_aw Tryz.func272 rfl Tryz.ntmps272 (by simp) (by simp) (by simp) (W.sound ?_)
 show @W Tryz.prog 8 ⟨_⟩ ⟨fun x σ=>@qR _ _ _ ⟨_⟩ _ ⟨_⟩ x σ⟩ _ _
 simp(disch:=omega)only[go_sem]
 refine⟨fun h0=>?_,?_⟩
 ·have:xs=[]:=by cases xs with|nil=>rfl|cons a r=>cases h0
  subst this
  refine qg [] [] [] [.v (.slice none 0 0)] rfl (by simp(disch:=omega)only[go_sem]) (by simp(disch:=omega)only[go_sem]) (by simp) (by intro _;simp[zg,AV.pu]) (.inl ⟨rfl,rfl,rfl⟩)
 ·refine⟨by omega,?_⟩
  refine qg [(0,90000000)] [.own 1 (qc xs)] [] [.rf 0 0 xs.length] rfl (by simp(disch:=omega)only[go_sem]) (by simp(disch:=omega)only[go_sem]) (by simp) (by intro _;simp[zg,AV.pu,Ob.pu,qX]) (.inr ⟨[],rfl,by rw[List.append_nil]⟩)
end Go.Ab
namespace Go.Ab
open Go Go.Proofs
theorem aaG(x:Int):Con Tryz.prog 292 true [.v (.int .i64 x)] [] (isA (.v (.bool false))):=by
 refine Con.of_w (rs:=[.tmp 2]) Tryz.func292 rfl Tryz.ntmps292 rfl ?_
 simp(disch:=omega)only[go_sem]
 exact qu
theorem arh(x y:Int):Con Tryz.prog 277 true [.v (.int .i64 x),.v (.int .i64 y)] [] (isA (.v (.int .i64 (zr x y)))):=by
 refine Con.of_w (rs:=[.tmp 4]) Tryz.func277 rfl Tryz.ntmps277 rfl ?_
 simp(disch:=omega)only[go_sem]
 refine qh (aaG x) ?_
 simp(disch:=omega)only[go_sem]
 refine qh (aaG y) ?_
 simp(disch:=omega)only[go_sem]
 refine qe (fun h1=>?_) (fun h1=>?_)
 ·simp(disch:=omega)only[go_sem,h1]
  rw[show zr x y= -1 by simp[zr,h1]]
  exact qu
 ·simp(disch:=omega)only[go_sem,h1]
  refine qe (fun h2=>?_) (fun h2=>?_)
  ·simp(disch:=omega)only[go_sem,h2]
   rw[show zr x y=1 by simp[zr,h1,h2]]
   exact qu
  ·simp(disch:=omega)only[go_sem,h2]
   rw[show zr x y=0 by simp[zr,h1,h2]]
   exact qu
theorem ja(a b:Nat)(la:(lim a).length≤2^40)(lb:(lim b).length≤2^40):
  Con Tryz.prog 248 true [.sl (lim (a)).length (qc (lim (a))),.sl (lim (b)).length (qc (lim (b)))] [] (isA (.v (.int .i64 (zr a b)))):=by
 refine Con.of_w (rs:=[.tmp 4]) Tryz.func248 rfl Tryz.ntmps248 rfl ?_
 simp(disch:=omega)only[go_sem]
 refine zG (fun h1=>?_) (fun h1=>?_)
 ·simp(disch:=omega)only[go_sem,h1]
  refine qh (arh (lim a).length (lim b).length) ?_
  simp(disch:=omega)only[go_sem]
  have:zr ((lim a).length:Int) ((lim b).length:Int)=zr a b:=by
   unfold zr
   rcases(by omega:(lim a).length<(lim b).length∨(lim b).length<(lim a).length)with h|h
   ·have:=Qv h
    rw[if_pos (by omega),if_pos (by omega)]
   ·have:=Qv h
    rw[if_neg (by omega),if_pos (by omega),if_neg (by omega),if_pos (by omega)]
  rw[this]
  exact qu
 ·simp(disch:=omega)only[go_sem,h1]
  have hl:(lim a).length=(lim b).length:=by omega
  refine qj (fun k:Nat=>[(0,.sl (lim (a)).length (qc (lim (a)))),(1,.sl (lim (b)).length (qc (lim (b)))),(5,.v (.int .i64 ((k:Int)-1)))])
   (fun _=>[]) (fun k=>k≤(lim a).length∧(lim a).drop k=(lim b).drop k) (fun k=>k) (lim a).length ⟨Nat.le_refl _,by rw[List.drop_length,hl,List.drop_length]⟩ (Le.lst [] _ _ rfl (by simp(disch:=omega)only[go_sem];try omega) (by simp(disch:=omega)only[go_sem])) ?_
  rintro k ⟨hk,hd⟩
  simp(disch:=omega)only[go_sem]
  refine qe (fun h2=>?_) (fun h2=>?_)
  ·obtain⟨i,rfl⟩:∃i,k=i+1:=⟨k-1,by omega⟩
   have ei:((i+1:Nat):Int)-1=(i:Nat):=by omega
   simp(disch:=omega)only[go_sem,h2,ei]
   refine qp rfl [⟨0,[],[]⟩,⟨1,[],[]⟩,⟨2,[],[]⟩,⟨3,[],[]⟩,⟨4,[3],[]⟩,⟨5,[3],[]⟩,⟨6,[3],[]⟩,⟨7,[3],[]⟩,⟨8,[],[]⟩] (by kernel_rfl) ?_
   simp(disch:=omega)only[go_sem,ei]
   refine⟨by omega,by omega,by omega,by omega,?_⟩
   refine zG (fun h3=>?_) (fun h3=>?_)
   ·simp(disch:=omega)only[go_sem,h3]
    refine qp rfl [⟨0,[],[]⟩,⟨1,[],[]⟩,⟨2,[],[]⟩,⟨3,[],[]⟩,⟨4,[3],[]⟩,⟨5,[3],[]⟩,⟨6,[3],[]⟩,⟨7,[3],[]⟩,⟨8,[],[]⟩,⟨9,[],[]⟩] (by kernel_rfl) ?_
    simp(disch:=omega)only[go_sem,ei]
    refine⟨by omega,by omega,by omega,by omega,?_⟩
    refine qh (arh ((lim a).getD i 0) ((lim b).getD i 0)) ?_
    simp(disch:=omega)only[go_sem]
    have hva:=q8 a
    have hvb:=q8 b
    have:zr ((lim a).getD i 0) ((lim b).getD i 0)=zr a b:=by
     unfold zr
     rcases(by omega:(lim a).getD i 0<(lim b).getD i 0∨(lim b).getD i 0<(lim a).getD i 0)with h|h
     ·have:=Zt (q9 a) (q9 b) (by omega) hl hd h
      rw[if_pos (by omega),if_pos (by omega)]
     ·have:=Zt (q9 b) (q9 a) (by omega) hl.symm hd.symm h
      rw[if_neg (by omega),if_pos (by omega),if_neg (by omega),if_pos (by omega)]
    rw[this]
    exact qu
   ·simp(disch:=omega)only[go_sem,h3]
    refine qb i [] ⟨by omega,?_⟩ (by show i<i+1;omega) rfl (by simp(disch:=omega)only[go_sem];try omega) (by simp(disch:=omega)only[go_sem])
    rw[yD (l:=lim a) (by omega),yD (l:=lim b) (by omega),h3,hd]
  ·simp(disch:=omega)only[go_sem,h2]
   have:k=0:=by omega
   subst this
   rw[List.drop_zero,List.drop_zero]at hd
   have:=yy hd
   subst this
   rw[show zr (a:Int) (a:Int)=0 by simp[zr]]
   exact qu
end Go.Ab
namespace Go.Proofs
open Go.Shelf
def Tryz.lays29_ren:Go.Shelf.Ren:=⟨fun|29=>287|n=>n,fun|0=>0|3=>3|4=>4|5=>5|22=>254|25=>216|54=>262|n=>n,fun|1=>1|n=>n⟩
theorem Tryz.lays29:Go.Proofs.Lays7.n29 Tryz.prog Tryz.lays29_ren:={
 mixed:=by kernel_rfl
 f29:=Tryz.func287.trans (congrArg some (by kernel_rfl))
 t0:=Tryz.underlying0
 a0:=Tryz.isAgg0
 z0:=Tryz.sizeOf0
 v0:=Tryz.zeroValue0
 i0:=by kernel_rfl
 t3:=Tryz.underlying3
 a3:=Tryz.isAgg3
 z3:=Tryz.sizeOf3
 v3:=Tryz.zeroValue3
 i3:=by kernel_rfl
 t4:=Tryz.underlying4
 a4:=Tryz.isAgg4
 z4:=Tryz.sizeOf4
 v4:=Tryz.zeroValue4
 i4:=by kernel_rfl
 t5:=Tryz.underlying5
 a5:=Tryz.isAgg5
 z5:=Tryz.sizeOf5
 v5:=Tryz.zeroValue5
 i5:=by kernel_rfl
 t22:=Tryz.underlying254
 a22:=Tryz.isAgg254
 z22:=Tryz.sizeOf254
 v22:=Tryz.zeroValue254
 i22:=by kernel_rfl
 t25:=Tryz.underlying216
 a25:=Tryz.isAgg216
 z25:=Tryz.sizeOf216
 v25:=Tryz.zeroValue216
 i25:=by kernel_rfl
 t54:=Tryz.underlying262
 a54:=Tryz.isAgg262
 z54:=Tryz.sizeOf262
 g1:=by kernel_rfl}
def Tryz.lays129_ren:Go.Shelf.Ren:=⟨fun|129=>295|n=>n,fun|53=>254|46=>216|3=>3|4=>4|5=>5|9=>9|n=>n,fun|n=>n⟩
theorem Tryz.lays129:Go.Proofs.Lays.n129 Tryz.prog Tryz.lays129_ren:={
 mixed:=by kernel_rfl
 f129:=Tryz.func295.trans (congrArg some (by kernel_rfl))
 t3:=Tryz.underlying3
 a3:=Tryz.isAgg3
 z3:=Tryz.sizeOf3
 v3:=Tryz.zeroValue3
 t4:=Tryz.underlying4
 a4:=Tryz.isAgg4
 z4:=Tryz.sizeOf4
 v4:=Tryz.zeroValue4
 t5:=Tryz.underlying5
 a5:=Tryz.isAgg5
 z5:=Tryz.sizeOf5
 v5:=Tryz.zeroValue5
 t9:=Tryz.underlying9
 a9:=Tryz.isAgg9
 z9:=Tryz.sizeOf9
 v9:=Tryz.zeroValue9
 t46:=Tryz.underlying216
 a46:=Tryz.isAgg216
 z46:=Tryz.sizeOf216
 v46:=Tryz.zeroValue216
 t53:=Tryz.underlying254
 a53:=Tryz.isAgg254
 z53:=Tryz.sizeOf254
 v53:=Tryz.zeroValue254}
end Go.Proofs
namespace Go.Ab
open Go Go.Proofs
theorem aTt(x:Nat)(h0:x≠0)(h:x<2^64):Lib.ctz 64 x=tz x:=by
 unfold Lib.ctz
 rw[if_neg h0]
 obtain⟨m,hm,_⟩:=Lib.ctzFrom_spec 64 x (by omega) h
 exact(ZD hm).symm
theorem arG(x:Nat)(h:x<2^64):Lib.bitLen x=bl x:=by
 induction x using Nat.strongRecOn with
 |_ x ih=>
  by_cases h0:x=0
  ·subst h0;rfl
  ·rw[Lib.bitLen_half x h0 h,ih (x/2) (by omega) (by omega),aTU h0,Nat.add_comm]
theorem aDt(x:Nat)(h0:x≠0)(h:x<2^64):Con Tryz.prog 287 true [.v (.int .u64 x)] [] (isA (.v (.int .i64 (tz x)))):=
 Con.scalar (xs:=[.int .u64 x]) fun w hg=>by
  rw[←aTt x h0 h]
  exact Any7.bits_TrailingZeros64 Tryz.lays29 x h w fun _ j hj=>(hg 1 Lib.deBruijn64tab rfl).2 j hj
theorem aqU(x:Nat)(h:x<2^64):Con Tryz.prog 295 true [.v (.int .u64 x)] [] (isA (.v (.int .i64 (bl x)))):=
 Con.scalar (xs:=[.int .u64 x]) fun w hg=>by
  rw[←arG x h]
  exact Any.bits_Len64 Tryz.lays129 x w (by omega) (by omega)
theorem aTA(x:Nat)(h0:x≠0)(h:x<2^64):Con Tryz.prog 271 true [.v (.int .u64 x)] [] (isA (.v (.int .i64 (tz x)))):=by
 refine Con.of_w (rs:=[.tmp 2]) Tryz.func271 rfl Tryz.ntmps271 rfl ?_
 simp(disch:=omega)only[go_sem]
 refine qh (aDt x h0 h) ?_
 simp(disch:=omega)only[go_sem]
 exact qu
theorem aqV(x:Nat)(h:x<2^64):Con Tryz.prog 283 true [.v (.int .u64 x)] [] (isA (.v (.int .i64 (bl x)))):=by
 refine Con.of_w (rs:=[.tmp 2]) Tryz.func283 rfl Tryz.ntmps283 rfl ?_
 simp(disch:=omega)only[go_sem]
 refine qh (aqU x h) ?_
 simp(disch:=omega)only[go_sem]
 exact qu
theorem akE{x:Int}(h1:0≤x)(h2:x<9223372036854775808):IntKind.u64.wrap x=x:=by
 simp only[IntKind.wrap,IntKind.signed,IntKind.bits]
 simp only[Bool.false_and,Bool.false_eq_true,if_false]
 omega
theorem ake(m:Nat)(hl:(lim m).length≤2^40):Con Tryz.prog 267 true [.sl (lim (m)).length (qc (lim (m)))] [] (isA (.v (.int .i64 (bl m)))):=by
 refine Con.of_w (rs:=[.tmp 2]) Tryz.func267 rfl Tryz.ntmps267 rfl ?_
 simp(disch:=omega)only[go_sem]
 refine qe (fun h1=>?_) (fun h1=>?_)
 ·simp(disch:=omega)only[go_sem,h1]
  have:m=0:=qI.1 (List.length_eq_zero_iff.1 (by omega))
  subst this
  rw[Jv]
  exact qu
 ·have hm:m≠0:=fun e=>by rw[e,qo]at h1;simp at h1
  have e1:((lim m).length:Int).toNat-1=(lim m).length-1:=by omega
  have e2:(((lim m).length:Int)-1).toNat=(lim m).length-1:=by omega
  have ht:=YL hm
  have hb:=aFN hm
  simp(disch:=omega)only[go_sem,h1,e2,zY]
  generalize m/65536^((lim m).length-1)=q at*
  have e3:((q % 65536:Nat):Int)=(q:Int):=by omega
  simp(disch:=omega)only[go_sem,e3,akE]
  refine⟨by omega,by omega,?_⟩
  refine qh (aqV q (by omega)) ?_
  simp(disch:=omega)only[go_sem]
  have hq:bl q≤16:=zy.2 (by omega)
  have e4:(16:Int)*(((lim m).length:Int)-1)+(bl q:Int)=(bl m:Int):=by omega
  simp(disch:=omega)only[go_sem,e4]
  exact qu
theorem aFW{m i:Nat}(hz:∀j,j<i→(lim m).getD j 0=0)(hx:(lim m).getD i 0≠0):tz m=16*i+tz (m/65536^i % 65536):=by
 rw[zY]at hx
 have hx':m/65536^i % 65536≠0:=fun e=>hx (by rw[e];rfl)
 obtain⟨a,ha⟩:=aa4 hx'
 have hlow:65536^i*(m/65536^i)=m:=by
  have key:∀k,k≤i→m % 65536^k=0:=by
   intro k
   induction k with
   |zero=>intro _;simp[Nat.mod_one]
   |succ k ih=>
    intro hk
    have h1:=ih (by omega)
    have h2:=hz k (by omega)
    rw[zY]at h2
    have h3:m/65536^k % 65536=0:=by omega
    rw[Nat.pow_succ,Nat.mod_mul,h1,h3];omega
  have:=Nat.div_add_mod m (65536^i)
  rw[key i (Nat.le_refl _)]at this
  omega
 generalize hq:m/65536^i=q at*
 have ht:tz (q % 65536)<16:=by
  have h1:=yI hx'
  have:bl (q % 65536)≤16:=zy.2 (by omega)
  omega
 generalize hk:tz (q % 65536)=k at*
 have e16:(65536:Nat)=2^k*(2*2^(15-k)):=by rw[Nat.mul_left_comm,←Nat.pow_add,show k+(15-k)=15 by omega]
 refine ZD (a:=a+2^(15-k)*(q/65536)) ?_
 have hd:=Nat.div_add_mod q 65536
 rw[←hlow,Nat.pow_add,←ZW]
 have h5:q=2^k*(2*(a+2^(15-k)*(q/65536))+1):=by
  have:q=2^k*(2*2^(15-k))*(q/65536)+2^k*(2*a+1):=by rw[←e16,←ha];omega
  generalize q/65536=y at*
  generalize 2^(15-k)=z at*
  grind
 generalize q/65536=y at*
 rw[Nat.mul_assoc,←h5]
theorem aec(m:Nat)(hl:(lim m).length≤2^40):Con Tryz.prog 234 true [.sl (lim (m)).length (qc (lim (m)))] [] (isA (.v (.int .i64 (tz m)))):=by
 refine Con.of_w (rs:=[.tmp 2]) Tryz.func234 rfl Tryz.ntmps234 rfl ?_
 simp(disch:=omega)only[go_sem]
 refine qj (fun i:Nat=>[(0,.sl (lim (m)).length (qc (lim (m)))),(5,.sl (lim (m)).length (qc (lim (m)))),(6,.v (.int .i64 (lim m).length)),(7,.v (.int .i64 i))])
  (fun _=>[]) (fun i=>i≤(lim m).length∧∀j,j<i→(lim m).getD j 0=0) (fun i=>(lim m).length-i) 0 ⟨by omega,fun j hj=>by omega⟩ (Le.lst [] _ _ rfl (by simp(disch:=omega)only[go_sem];try omega) (by simp(disch:=omega)only[go_sem])) ?_
 rintro i ⟨hi,hz⟩
 simp(disch:=omega)only[go_sem]
 refine qe (fun h1=>?_) (fun h1=>?_)
 ·simp(disch:=omega)only[go_sem,h1]
  refine⟨by omega,by omega,zG (fun h2=>?_) (fun h2=>?_)⟩
  ·have ht:=aFW hz h2
   have hx:m/65536^i % 65536≠0:=fun e=>h2 (by rw[zY,e];rfl)
   have ht16:tz (m/65536^i % 65536)<16:=by
    have h1:=yI hx
    have:bl (m/65536^i % 65536)≤16:=zy.2 (by omega)
    omega
   simp(disch:=omega)only[go_sem,h2,zY]
   generalize hq:m/65536^i % 65536=q at*
   have hq6:q<65536:=by omega
   simp(disch:=omega)only[go_sem,akE]
   refine qh (aTA q hx (by omega)) ?_
   simp(disch:=omega)only[go_sem]
   have e4:(16:Int)*(i:Int)+(tz q:Int)=(tz m:Int):=by omega
   simp(disch:=omega)only[go_sem,e4]
   exact qu
  ·simp(disch:=omega)only[go_sem,h2]
   refine qb (i+1) [] ⟨by omega,fun j hj=>?_⟩ (by show(lim m).length-(i+1)<(lim m).length-i;omega) rfl (by simp(disch:=omega)only[go_sem];try omega) (by simp(disch:=omega)only[go_sem])
   rcases(by omega:j<i∨j=i)with h|h
   ·exact hz j h
   ·subst h;exact h2
 ·simp(disch:=omega)only[go_sem,h1]
  have hm:m=0:=by
   have:=q8 m
   have h3:lim m=List.replicate (lim m).length 0:=by
    apply List.ext_getElem
    ·simp
    ·intro j h1 h2
     have:=hz j (by omega)
     rw[List.getD_eq_getElem?_getD,List.getElem?_eq_getElem h1]at this
     simpa using this
   rw[h3,zP]at this
   omega
  subst hm
  rw[akI]
  exact qu
theorem aaP(m:Nat)(i:Int)(hl:(lim m).length≤2^40)(hi:0≤i)(hi2:i<2^62):Con Tryz.prog 175 true [.sl (lim (m)).length (qc (lim (m))),.v (.int .i64 i)] [] (isA (.v (.int .i64 ((m/2^i.toNat % 2:Nat):Int)))):=by
 refine Con.of_w (rs:=[.tmp 4]) Tryz.func175 rfl Tryz.ntmps175 rfl ?_
 obtain⟨k,rfl⟩:=Int.eq_ofNat_of_zero_le hi
 rw[Int.toNat_natCast]
 have h0:¬((k:Int)<0):=by omega
 have e16:((k:Int)/16).toNat=k/16:=by omega
 have em:min ((k:Int) % 16).toNat 64=k % 16:=by omega
 have hb:=arF m k
 simp(disch:=omega)only[go_sem,h0]
 refine qe (fun h1=>?_) (fun h1=>?_)
 ·simp(disch:=omega)only[go_sem,h1]
  have:m/2^k % 2=0:=by
   rw[←hb]
   have h2:=zY m (k/16)
   rw[List.getD_eq_getElem?_getD,List.getElem?_eq_none (by omega)]at h2
   have h3:m/65536^(k/16) % 65536=0:=by simp only[Option.getD_none]at h2;omega
   rw[h3];simp
  rw[this]
  exact qu
 ·have hx:=qJ (q9 m) (k/16)
  have hp:(0:Int)<2^(k % 16):=Int.pow_pos (by omega)
  have efd:∀x:Int,x.fdiv (2^(k % 16))=x/2^(k % 16):=fun x=>Int.fdiv_eq_ediv_of_nonneg _ (Int.le_of_lt hp)
  have hq:0≤(lim m).getD (k/16) 0/2^(k % 16)∧(lim m).getD (k/16) 0/2^(k % 16)<65536:=by
   refine⟨Int.ediv_nonneg hx.1 (Int.le_of_lt hp),Int.lt_of_le_of_lt (Int.ediv_le_self _ hx.1) hx.2⟩
  have hr:(lim m).getD (k/16) 0/2^(k % 16) % 2=((m/2^k % 2:Nat):Int):=by
   rw[←hb,zY]
   generalize m/65536^(k/16) % 65536=x
   rw[Int.natCast_emod,Int.natCast_ediv,Int.natCast_pow];rfl
  simp(disch:=omega)only[go_sem,h1,e16,em,efd,hr]
  refine⟨by omega,by omega,by omega,?_⟩
  exact qu
end Go.Ab
namespace Go.Ab
open Go Go.Proofs
theorem aa6(a k:Nat):(vl (lim a)*2^k).toNat=a*2^k:=by
 rw[q8]
 have:((a:Int)*2^k)=((a*2^k:Nat):Int):=by rw[Int.natCast_mul,Int.natCast_pow];rfl
 rw[this,Int.toNat_natCast]
theorem aa7(a k:Nat):(vl (lim a)/2^k).toNat=a/2^k:=by
 rw[q8]
 have:((a:Int)/2^k)=((a/2^k:Nat):Int):=by rw[Int.natCast_ediv,Int.natCast_pow];rfl
 rw[this,Int.toNat_natCast]
theorem aF0(a b:Nat):(vl (lim a)*vl (lim b)).toNat=a*b:=by rw[q8,q8,←Int.natCast_mul,Int.toNat_natCast]
theorem aF1(a b:Nat):(vl (lim a)+vl (lim b)).toNat=a+b:=by rw[q8,q8];omega
theorem aFZ(a b:Nat):(vl (lim a)-vl (lim b)).toNat=a-b:=by rw[q8,q8];omega
theorem zD(n:Nat)(hn:n<2^63):Con Tryz.prog 216 false [.v (.int .i64 n)] [] (aKA (lim n)):=(aqK false n hn).num
theorem aqE(cl:Bool)(a k:Nat)(la:(lim a).length≤1000000)(hk:k≤100000000):Con Tryz.prog 244 cl [.sl (lim (a)).length (qc (lim (a))),.v (.int .i64 k)] [] (ar5 (lim (a*2^k))):=by
 have:=aTz cl (lim a) k (q9 a) la hk
 rwa[aa6]at this
theorem zV(a k:Nat)(la:(lim a).length≤1000000)(hk:k≤100000000):Con Tryz.prog 244 false [.sl (lim (a)).length (qc (lim (a))),.v (.int .i64 k)] [] (aKA (lim (a*2^k))):=(aqE false a k la hk).num
theorem aaL(cl:Bool)(a k:Nat)(la:(lim a).length≤1000000)(hk:k≤100000000):Con Tryz.prog 235 cl [.sl (lim (a)).length (qc (lim (a))),.v (.int .i64 k)] [] (ar5 (lim (a/2^k))):=by
 have:=aDE cl (lim a) k (q9 a) la hk
 rwa[aa7]at this
theorem arf(a k:Nat)(la:(lim a).length≤1000000)(hk:k≤100000000):Con Tryz.prog 235 false [.sl (lim (a)).length (qc (lim (a))),.v (.int .i64 k)] [] (aKA (lim (a/2^k))):=(aaL false a k la hk).num
theorem J5(a b:Nat)(la:(lim a).length≤1000000)(lb:(lim b).length≤1000000):Con Tryz.prog 201 false [.sl (lim (a)).length (qc (lim (a))),.sl (lim (b)).length (qc (lim (b)))] [] (aKA (lim (a*b))):=by
 have:=(aqF false (lim a) (lim b) (q9 a) (q9 b) la lb).num
 rwa[aF0]at this
theorem aay(a b:Nat)(la:(lim a).length≤2000000)(lb:(lim b).length≤2000000):Con Tryz.prog 249 false [.sl (lim (a)).length (qc (lim (a))),.sl (lim (b)).length (qc (lim (b)))] [] (aKA (lim (a+b))):=by
 have:=(aDu false (lim a) (lim b) (q9 a) (q9 b) la lb).num
 rwa[aF1]at this
theorem arg(a d:Nat)(la:(lim a).length≤1000000)(hd:0<d)(hd2:d<65536):
  Con Tryz.prog 288 false [.sl (lim (a)).length (qc (lim (a))),.v (.int .i64 d)] [] (isA (.tu [.sl (lim (a/d)).length (qc (lim (a/d))),.v (.int .i64 ((a % d:Nat):Int))])):=
 Con.frzA <| (aDF false (lim a) d (q9 a) la hd hd2).mono fun r hs bs ⟨zs,h1,h2⟩=>by
  rw[q8]at h1 h2
  rw[h1,h2]
  have e:((a:Int)/(d:Int)).toNat=a/d:=by
   rw[←Int.natCast_ediv,Int.toNat_natCast]
  rw[e]
  show qE _ 6 _=_
  unfold qE
  simp only[List.map_cons,List.map_nil]
  rw[j8 (k:=3) (l:=lim (a/d)) (zs:=zs) zb rfl]
  rw[Int.natCast_emod];rfl
end Go.Ab
