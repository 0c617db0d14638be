/- What the proof of this claim stands on: the walks of the functions and the plain laws, part 3. -/
import Derived.Test.YtcobffkepgogiaaGreatDoorFnSolvesLib2
import Derived.Test.YtcobffkepgogiaaGreatDoorProg
import Derived.KernelRfl
import Derived.Shelf.Spec.TrailingZeros
import Derived.Shelf.Small.Bits
import Derived.Shelf.Strconv.Itoa0
set_option linter.unusedVariables false
set_option linter.unusedSimpArgs false
namespace Go.Ab
open Go Go.Proofs
def ti1:TI:=⟨Kd.oth,1,8,Value.nilFunc⟩
theorem tf1:qo Tryz.prog 1=some ti1:=by kernel_rfl
def ti2:TI:=⟨Kd.int IntKind.i64,1,8,Value.int IntKind.i64 0⟩
theorem tf2:qo Tryz.prog 2=some ti2:=by kernel_rfl
def ti3:TI:=⟨Kd.int IntKind.i64,1,8,Value.int IntKind.i64 0⟩
theorem tf3:qo Tryz.prog 3=some ti3:=by kernel_rfl
def ti4:TI:=⟨Kd.bool,1,1,Value.bool false⟩
theorem tf4:qo Tryz.prog 4=some ti4:=by kernel_rfl
def ti5:TI:=⟨Kd.int IntKind.u8,1,1,Value.int IntKind.u8 0⟩
theorem tf5:qo Tryz.prog 5=some ti5:=by kernel_rfl
def ti6:TI:=⟨Kd.int IntKind.u8,1,1,Value.int IntKind.u8 0⟩
theorem tf6:qo Tryz.prog 6=some ti6:=by kernel_rfl
def ti7:TI:=⟨Kd.stru [(0,2),(1,3),(2,4),(3,6)],4,24,Value.agg ⟨[Value.int IntKind.i64 0,Value.int IntKind.i64 0,Value.bool false,Value.int IntKind.u8 0]⟩⟩
theorem tf7:qo Tryz.prog 7=some ti7:=by kernel_rfl
def ti8:TI:=⟨Kd.stru [(0,2),(1,3),(2,4),(3,6)],4,24,Value.agg ⟨[Value.int IntKind.i64 0,Value.int IntKind.i64 0,Value.bool false,Value.int IntKind.u8 0]⟩⟩
theorem tf8:qo Tryz.prog 8=some ti8:=by kernel_rfl
def ti9:TI:=⟨Kd.str,1,16,Value.string {data:=⟨[]⟩}⟩
theorem tf9:qo Tryz.prog 9=some ti9:=by kernel_rfl
def aE8:TI:=⟨Kd.str,1,16,Value.string {data:=⟨[]⟩}⟩
theorem bep:qo Tryz.prog 10=some aE8:=by kernel_rfl
def aE7:TI:=⟨Kd.str,1,16,Value.string {data:=⟨[]⟩}⟩
theorem beo:qo Tryz.prog 11=some aE7:=by kernel_rfl
def aE6:TI:=⟨Kd.int IntKind.u64,1,8,Value.int IntKind.u64 0⟩
theorem ben:qo Tryz.prog 12=some aE6:=by kernel_rfl
def aE5:TI:=⟨Kd.int IntKind.i32,1,4,Value.int IntKind.i32 0⟩
theorem bem:qo Tryz.prog 21=some aE5:=by kernel_rfl
def ae6:TI:=⟨Kd.sli 5,1,24,Value.slice none 0 0⟩
theorem aFb:qo Tryz.prog 22=some ae6:=by kernel_rfl
def ae5:TI:=⟨Kd.sli 40,1,24,Value.slice none 0 0⟩
theorem aFa:qo Tryz.prog 23=some ae5:=by kernel_rfl
def amI:TI:=⟨Kd.stru [(0,3),(1,23)],2,32,Value.agg ⟨[Value.int IntKind.i64 0,Value.slice none 0 0]⟩⟩
theorem aUG:qo Tryz.prog 24=some amI:=by kernel_rfl
def amy:TI:=⟨Kd.stru [(0,3),(1,23)],2,32,Value.agg ⟨[Value.int IntKind.i64 0,Value.slice none 0 0]⟩⟩
theorem aUF:qo Tryz.prog 25=some amy:=by kernel_rfl
def aE4:TI:=⟨Kd.oth,1,8,Value.nilFunc⟩
theorem bel:qo Tryz.prog 27=some aE4:=by kernel_rfl
def aE3:TI:=⟨Kd.oth,1,8,Value.nilFunc⟩
theorem bek:qo Tryz.prog 29=some aE3:=by kernel_rfl
def aE2:TI:=⟨Kd.oth,1,8,Value.nilFunc⟩
theorem bej:qo Tryz.prog 30=some aE2:=by kernel_rfl
def aE1:TI:=⟨Kd.oth,1,8,Value.nilFunc⟩
theorem bei:qo Tryz.prog 31=some aE1:=by kernel_rfl
def aE0:TI:=⟨Kd.oth,1,8,Value.nilFunc⟩
theorem beh:qo Tryz.prog 32=some aE0:=by kernel_rfl
def aEZ:TI:=⟨Kd.oth,1,8,Value.nilFunc⟩
theorem beg:qo Tryz.prog 33=some aEZ:=by kernel_rfl
def JS:TI:=⟨Kd.sli 3,1,24,Value.slice none 0 0⟩
theorem ae7:qo Tryz.prog 34=some JS:=by kernel_rfl
def ar7:TI:=⟨Kd.stru [(0,34)],1,24,Value.agg ⟨[Value.slice none 0 0]⟩⟩
theorem aXg:qo Tryz.prog 35=some ar7:=by kernel_rfl
def aa6:TI:=⟨Kd.stru [(0,34)],1,24,Value.agg ⟨[Value.slice none 0 0]⟩⟩
theorem aBg:qo Tryz.prog 36=some aa6:=by kernel_rfl
def al3:TI:=⟨Kd.stru [(0,4),(1,36)],2,32,Value.agg ⟨[Value.bool false,Value.slice none 0 0]⟩⟩
theorem aUE:qo Tryz.prog 37=some al3:=by kernel_rfl
def Xu:TI:=⟨Kd.stru [(0,4),(1,36)],2,32,Value.agg ⟨[Value.bool false,Value.slice none 0 0]⟩⟩
theorem ar8:qo Tryz.prog 38=some Xu:=by kernel_rfl
def al0:TI:=⟨Kd.stru [(0,38),(2,3)],3,40,Value.agg ⟨[Value.bool false,Value.slice none 0 0,Value.int IntKind.i64 0]⟩⟩
theorem aUD:qo Tryz.prog 39=some al0:=by kernel_rfl
def Zp:TI:=⟨Kd.stru [(0,38),(2,3)],3,40,Value.agg ⟨[Value.bool false,Value.slice none 0 0,Value.int IntKind.i64 0]⟩⟩
theorem KW:qo Tryz.prog 40=some Zp:=by kernel_rfl
def aEY:TI:=⟨Kd.oth,1,8,Value.nilFunc⟩
theorem bef:qo Tryz.prog 41=some aEY:=by kernel_rfl
def aEX:TI:=⟨Kd.oth,1,8,Value.nilFunc⟩
theorem bee:qo Tryz.prog 42=some aEX:=by kernel_rfl
def aEW:TI:=⟨Kd.oth,1,8,Value.nilFunc⟩
theorem bed:qo Tryz.prog 44=some aEW:=by kernel_rfl
def aEV:TI:=⟨Kd.oth,1,8,Value.nilFunc⟩
theorem bec:qo Tryz.prog 46=some aEV:=by kernel_rfl
def aEU:TI:=⟨Kd.oth,1,8,Value.nilFunc⟩
theorem beb:qo Tryz.prog 47=some aEU:=by kernel_rfl
def aET:TI:=⟨Kd.oth,1,8,Value.nilFunc⟩
theorem bea:qo Tryz.prog 48=some aET:=by kernel_rfl
def aES:TI:=⟨Kd.oth,1,8,Value.nilFunc⟩
theorem bd9:qo Tryz.prog 49=some aES:=by kernel_rfl
def alO:TI:=⟨Kd.stru [(0,40),(3,40)],6,80,Value.agg ⟨[Value.bool false,Value.slice none 0 0,Value.int IntKind.i64 0,Value.bool false,Value.slice none 0 0,Value.int IntKind.i64 0]⟩⟩
theorem aUC:qo Tryz.prog 50=some alO:=by kernel_rfl
def akM:TI:=⟨Kd.stru [(0,40),(3,40)],6,80,Value.agg ⟨[Value.bool false,Value.slice none 0 0,Value.int IntKind.i64 0,Value.bool false,Value.slice none 0 0,Value.int IntKind.i64 0]⟩⟩
theorem aOe:qo Tryz.prog 51=some akM:=by kernel_rfl
def aER:TI:=⟨Kd.oth,1,8,Value.nilFunc⟩
theorem bd8:qo Tryz.prog 53=some aER:=by kernel_rfl
def aEQ:TI:=⟨Kd.oth,1,8,Value.nilFunc⟩
theorem bd7:qo Tryz.prog 55=some aEQ:=by kernel_rfl
def aEP:TI:=⟨Kd.oth,1,8,Value.nilFunc⟩
theorem bd6:qo Tryz.prog 56=some aEP:=by kernel_rfl
def aEO:TI:=⟨Kd.oth,1,8,Value.nilFunc⟩
theorem bd5:qo Tryz.prog 57=some aEO:=by kernel_rfl
def aEN:TI:=⟨Kd.oth,1,8,Value.nilFunc⟩
theorem bd4:qo Tryz.prog 58=some aEN:=by kernel_rfl
def aEM:TI:=⟨Kd.oth,1,8,Value.nilFunc⟩
theorem bd3:qo Tryz.prog 60=some aEM:=by kernel_rfl
def aEL:TI:=⟨Kd.oth,1,8,Value.nilFunc⟩
theorem bd2:qo Tryz.prog 61=some aEL:=by kernel_rfl
def aEK:TI:=⟨Kd.oth,1,8,Value.nilFunc⟩
theorem bd1:qo Tryz.prog 62=some aEK:=by kernel_rfl
def aEJ:TI:=⟨Kd.oth,1,8,Value.nilFunc⟩
theorem bd0:qo Tryz.prog 63=some aEJ:=by kernel_rfl
def aEI:TI:=⟨Kd.oth,1,8,Value.nilFunc⟩
theorem bdZ:qo Tryz.prog 64=some aEI:=by kernel_rfl
def aEH:TI:=⟨Kd.oth,1,8,Value.nilFunc⟩
theorem bdY:qo Tryz.prog 65=some aEH:=by kernel_rfl
def aEG:TI:=⟨Kd.oth,1,8,Value.nilFunc⟩
theorem bdX:qo Tryz.prog 66=some aEG:=by kernel_rfl
def aEF:TI:=⟨Kd.oth,1,8,Value.nilFunc⟩
theorem bdW:qo Tryz.prog 68=some aEF:=by kernel_rfl
def ae4:TI:=⟨Kd.sli 51,1,24,Value.slice none 0 0⟩
theorem aE9:qo Tryz.prog 69=some ae4:=by kernel_rfl
def aEE:TI:=⟨Kd.oth,1,8,Value.nilFunc⟩
theorem bdV:qo Tryz.prog 71=some aEE:=by kernel_rfl
def aED:TI:=⟨Kd.oth,1,8,Value.nilFunc⟩
theorem bdU:qo Tryz.prog 73=some aED:=by kernel_rfl
def aEC:TI:=⟨Kd.oth,1,8,Value.nilFunc⟩
theorem bdT:qo Tryz.prog 74=some aEC:=by kernel_rfl
def aEB:TI:=⟨Kd.oth,1,8,Value.nilFunc⟩
theorem bdS:qo Tryz.prog 75=some aEB:=by kernel_rfl
def aEA:TI:=⟨Kd.oth,1,8,Value.nilFunc⟩
theorem bdR:qo Tryz.prog 77=some aEA:=by kernel_rfl
def aEz:TI:=⟨Kd.oth,1,8,Value.nilFunc⟩
theorem bdQ:qo Tryz.prog 79=some aEz:=by kernel_rfl
def aEy:TI:=⟨Kd.oth,1,8,Value.nilFunc⟩
theorem bdP:qo Tryz.prog 80=some aEy:=by kernel_rfl
def alj:TI:=⟨Kd.stru [(0,3),(1,69)],2,32,Value.agg ⟨[Value.int IntKind.i64 0,Value.slice none 0 0]⟩⟩
theorem aUB:qo Tryz.prog 81=some alj:=by kernel_rfl
def alh:TI:=⟨Kd.stru [(0,3),(1,69)],2,32,Value.agg ⟨[Value.int IntKind.i64 0,Value.slice none 0 0]⟩⟩
theorem aUA:qo Tryz.prog 82=some alh:=by kernel_rfl
def aEx:TI:=⟨Kd.oth,1,8,Value.nilFunc⟩
theorem bdO:qo Tryz.prog 84=some aEx:=by kernel_rfl
def aEw:TI:=⟨Kd.oth,1,8,Value.nilFunc⟩
theorem bdN:qo Tryz.prog 86=some aEw:=by kernel_rfl
def aEv:TI:=⟨Kd.oth,1,8,Value.nilFunc⟩
theorem bdM:qo Tryz.prog 87=some aEv:=by kernel_rfl
def aEu:TI:=⟨Kd.oth,1,8,Value.nilFunc⟩
theorem bdL:qo Tryz.prog 88=some aEu:=by kernel_rfl
def aEt:TI:=⟨Kd.oth,1,8,Value.nilFunc⟩
theorem bdK:qo Tryz.prog 89=some aEt:=by kernel_rfl
def aEs:TI:=⟨Kd.oth,1,8,Value.nilFunc⟩
theorem bdJ:qo Tryz.prog 91=some aEs:=by kernel_rfl
def aEr:TI:=⟨Kd.oth,1,8,Value.nilFunc⟩
theorem bdI:qo Tryz.prog 92=some aEr:=by kernel_rfl
def aEq:TI:=⟨Kd.oth,1,8,Value.nilFunc⟩
theorem bdH:qo Tryz.prog 93=some aEq:=by kernel_rfl
def aEp:TI:=⟨Kd.oth,1,8,Value.nilFunc⟩
theorem bdG:qo Tryz.prog 94=some aEp:=by kernel_rfl
def aEo:TI:=⟨Kd.oth,1,8,Value.nilFunc⟩
theorem bdF:qo Tryz.prog 96=some aEo:=by kernel_rfl
def aEn:TI:=⟨Kd.oth,1,8,Value.nilFunc⟩
theorem bdE:qo Tryz.prog 97=some aEn:=by kernel_rfl
def aEm:TI:=⟨Kd.oth,1,8,Value.nilFunc⟩
theorem bdD:qo Tryz.prog 98=some aEm:=by kernel_rfl
def aEl:TI:=⟨Kd.oth,1,8,Value.nilFunc⟩
theorem bdC:qo Tryz.prog 99=some aEl:=by kernel_rfl
def KS:TI:=⟨Kd.oth,1,8,Value.nilFunc⟩
theorem aZz:qo Tryz.prog 100=some KS:=by kernel_rfl
def KR:TI:=⟨Kd.oth,1,8,Value.nilFunc⟩
theorem aZy:qo Tryz.prog 101=some KR:=by kernel_rfl
def KQ:TI:=⟨Kd.oth,1,8,Value.nilFunc⟩
theorem aZx:qo Tryz.prog 102=some KQ:=by kernel_rfl
def KP:TI:=⟨Kd.oth,1,8,Value.nilFunc⟩
theorem aZw:qo Tryz.prog 103=some KP:=by kernel_rfl
def KO:TI:=⟨Kd.oth,1,8,Value.nilFunc⟩
theorem aZv:qo Tryz.prog 105=some KO:=by kernel_rfl
def KN:TI:=⟨Kd.oth,1,8,Value.nilFunc⟩
theorem aZu:qo Tryz.prog 106=some KN:=by kernel_rfl
def KM:TI:=⟨Kd.oth,1,8,Value.nilFunc⟩
theorem aZt:qo Tryz.prog 107=some KM:=by kernel_rfl
def KL:TI:=⟨Kd.oth,1,8,Value.nilFunc⟩
theorem aZs:qo Tryz.prog 108=some KL:=by kernel_rfl
def KK:TI:=⟨Kd.oth,1,8,Value.nilFunc⟩
theorem aZr:qo Tryz.prog 109=some KK:=by kernel_rfl
def KJ:TI:=⟨Kd.oth,1,8,Value.nilFunc⟩
theorem aZq:qo Tryz.prog 110=some KJ:=by kernel_rfl
def y3:TI:=⟨Kd.sli 118,1,24,Value.slice none 0 0⟩
theorem Yz:qo Tryz.prog 111=some y3:=by kernel_rfl
def ZI:TI:=⟨Kd.stru [(0,3),(1,111)],2,32,Value.agg ⟨[Value.int IntKind.i64 0,Value.slice none 0 0]⟩⟩
theorem aBl:qo Tryz.prog 112=some ZI:=by kernel_rfl
def ZH:TI:=⟨Kd.stru [(0,3),(1,111)],2,32,Value.agg ⟨[Value.int IntKind.i64 0,Value.slice none 0 0]⟩⟩
theorem aBk:qo Tryz.prog 113=some ZH:=by kernel_rfl
def KI:TI:=⟨Kd.oth,1,8,Value.nilFunc⟩
theorem aZp:qo Tryz.prog 114=some KI:=by kernel_rfl
def KH:TI:=⟨Kd.oth,1,8,Value.nilFunc⟩
theorem aZo:qo Tryz.prog 115=some KH:=by kernel_rfl
def KG:TI:=⟨Kd.oth,1,8,Value.nilFunc⟩
theorem aZn:qo Tryz.prog 116=some KG:=by kernel_rfl
def Zf:TI:=⟨Kd.stru [(0,4),(1,34),(2,3)],3,40,Value.agg ⟨[Value.bool false,Value.slice none 0 0,Value.int IntKind.i64 0]⟩⟩
theorem ao2:qo Tryz.prog 117=some Zf:=by kernel_rfl
def jh:TI:=⟨Kd.stru [(0,4),(1,34),(2,3)],3,40,Value.agg ⟨[Value.bool false,Value.slice none 0 0,Value.int IntKind.i64 0]⟩⟩
theorem yg:qo Tryz.prog 118=some jh:=by kernel_rfl
def KF:TI:=⟨Kd.oth,1,8,Value.nilFunc⟩
theorem aZm:qo Tryz.prog 119=some KF:=by kernel_rfl
def KE:TI:=⟨Kd.oth,1,8,Value.nilFunc⟩
theorem aZl:qo Tryz.prog 120=some KE:=by kernel_rfl
def KD:TI:=⟨Kd.oth,1,8,Value.nilFunc⟩
theorem aZk:qo Tryz.prog 121=some KD:=by kernel_rfl
def KC:TI:=⟨Kd.oth,1,8,Value.nilFunc⟩
theorem aZj:qo Tryz.prog 122=some KC:=by kernel_rfl
def KB:TI:=⟨Kd.oth,1,8,Value.nilFunc⟩
theorem aZi:qo Tryz.prog 123=some KB:=by kernel_rfl
def KA:TI:=⟨Kd.oth,1,8,Value.nilFunc⟩
theorem aZh:qo Tryz.prog 124=some KA:=by kernel_rfl
def Kw:TI:=⟨Kd.oth,1,8,Value.nilFunc⟩
theorem aZg:qo Tryz.prog 125=some Kw:=by kernel_rfl
def Kv:TI:=⟨Kd.oth,1,8,Value.nilFunc⟩
theorem aZf:qo Tryz.prog 126=some Kv:=by kernel_rfl
def Ku:TI:=⟨Kd.oth,1,8,Value.nilFunc⟩
theorem aZe:qo Tryz.prog 127=some Ku:=by kernel_rfl
def Kt:TI:=⟨Kd.oth,1,8,Value.nilFunc⟩
theorem aZd:qo Tryz.prog 128=some Kt:=by kernel_rfl
def Ks:TI:=⟨Kd.oth,1,8,Value.nilFunc⟩
theorem aZc:qo Tryz.prog 129=some Ks:=by kernel_rfl
def Kr:TI:=⟨Kd.oth,1,8,Value.nilFunc⟩
theorem aZb:qo Tryz.prog 130=some Kr:=by kernel_rfl
def Kq:TI:=⟨Kd.oth,1,8,Value.nilFunc⟩
theorem aZa:qo Tryz.prog 131=some Kq:=by kernel_rfl
def ZG:TI:=⟨Kd.stru [(0,118),(3,118)],6,80,Value.agg ⟨[Value.bool false,Value.slice none 0 0,Value.int IntKind.i64 0,Value.bool false,Value.slice none 0 0,Value.int IntKind.i64 0]⟩⟩
theorem aBj:qo Tryz.prog 132=some ZG:=by kernel_rfl
def Ze:TI:=⟨Kd.stru [(0,118),(3,118)],6,80,Value.agg ⟨[Value.bool false,Value.slice none 0 0,Value.int IntKind.i64 0,Value.bool false,Value.slice none 0 0,Value.int IntKind.i64 0]⟩⟩
theorem ao1:qo Tryz.prog 133=some Ze:=by kernel_rfl
def Kp:TI:=⟨Kd.oth,1,8,Value.nilFunc⟩
theorem aY9:qo Tryz.prog 134=some Kp:=by kernel_rfl
def Ko:TI:=⟨Kd.oth,1,8,Value.nilFunc⟩
theorem aY8:qo Tryz.prog 135=some Ko:=by kernel_rfl
def Kn:TI:=⟨Kd.oth,1,8,Value.nilFunc⟩
theorem aY7:qo Tryz.prog 136=some Kn:=by kernel_rfl
def Km:TI:=⟨Kd.oth,1,8,Value.nilFunc⟩
theorem aY6:qo Tryz.prog 137=some Km:=by kernel_rfl
def Kl:TI:=⟨Kd.oth,1,8,Value.nilFunc⟩
theorem aY5:qo Tryz.prog 138=some Kl:=by kernel_rfl
def Kk:TI:=⟨Kd.oth,1,8,Value.nilFunc⟩
theorem aY4:qo Tryz.prog 139=some Kk:=by kernel_rfl
def Kj:TI:=⟨Kd.oth,1,8,Value.nilFunc⟩
theorem aY3:qo Tryz.prog 140=some Kj:=by kernel_rfl
def Ki:TI:=⟨Kd.oth,1,8,Value.nilFunc⟩
theorem aY2:qo Tryz.prog 142=some Ki:=by kernel_rfl
def Kh:TI:=⟨Kd.oth,1,8,Value.nilFunc⟩
theorem aY1:qo Tryz.prog 143=some Kh:=by kernel_rfl
def Kg:TI:=⟨Kd.oth,1,8,Value.nilFunc⟩
theorem aY0:qo Tryz.prog 144=some Kg:=by kernel_rfl
def Kf:TI:=⟨Kd.oth,1,8,Value.nilFunc⟩
theorem aYZ:qo Tryz.prog 145=some Kf:=by kernel_rfl
def Ke:TI:=⟨Kd.oth,1,8,Value.nilFunc⟩
theorem aYY:qo Tryz.prog 146=some Ke:=by kernel_rfl
def Kc:TI:=⟨Kd.oth,1,8,Value.nilFunc⟩
theorem aYX:qo Tryz.prog 147=some Kc:=by kernel_rfl
def Kb:TI:=⟨Kd.oth,1,8,Value.nilFunc⟩
theorem aYW:qo Tryz.prog 148=some Kb:=by kernel_rfl
def Ka:TI:=⟨Kd.oth,1,8,Value.nilFunc⟩
theorem aYV:qo Tryz.prog 149=some Ka:=by kernel_rfl
def V9:TI:=⟨Kd.oth,1,8,Value.nilFunc⟩
theorem aYU:qo Tryz.prog 151=some V9:=by kernel_rfl
def V8:TI:=⟨Kd.oth,1,8,Value.nilFunc⟩
theorem aYT:qo Tryz.prog 152=some V8:=by kernel_rfl
def Qd:TI:=⟨Kd.sli 133,1,24,Value.slice none 0 0⟩
theorem KX:qo Tryz.prog 153=some Qd:=by kernel_rfl
def ZF:TI:=⟨Kd.stru [(0,3),(1,153)],2,32,Value.agg ⟨[Value.int IntKind.i64 0,Value.slice none 0 0]⟩⟩
theorem aBi:qo Tryz.prog 154=some ZF:=by kernel_rfl
def ZE:TI:=⟨Kd.stru [(0,3),(1,153)],2,32,Value.agg ⟨[Value.int IntKind.i64 0,Value.slice none 0 0]⟩⟩
theorem aBh:qo Tryz.prog 155=some ZE:=by kernel_rfl
def V7:TI:=⟨Kd.oth,1,8,Value.nilFunc⟩
theorem aYS:qo Tryz.prog 156=some V7:=by kernel_rfl
def V6:TI:=⟨Kd.oth,1,8,Value.nilFunc⟩
theorem aYR:qo Tryz.prog 157=some V6:=by kernel_rfl
def V5:TI:=⟨Kd.oth,1,8,Value.nilFunc⟩
theorem aYQ:qo Tryz.prog 158=some V5:=by kernel_rfl
def V4:TI:=⟨Kd.oth,1,8,Value.nilFunc⟩
theorem aYP:qo Tryz.prog 159=some V4:=by kernel_rfl
def V3:TI:=⟨Kd.oth,1,8,Value.nilFunc⟩
theorem aYO:qo Tryz.prog 160=some V3:=by kernel_rfl
def V2:TI:=⟨Kd.oth,1,8,Value.nilFunc⟩
theorem aYN:qo Tryz.prog 161=some V2:=by kernel_rfl
def V1:TI:=⟨Kd.oth,1,8,Value.nilFunc⟩
theorem aYM:qo Tryz.prog 163=some V1:=by kernel_rfl
def V0:TI:=⟨Kd.oth,1,8,Value.nilFunc⟩
theorem aYL:qo Tryz.prog 164=some V0:=by kernel_rfl
def VZ:TI:=⟨Kd.oth,1,8,Value.nilFunc⟩
theorem aYK:qo Tryz.prog 165=some VZ:=by kernel_rfl
def VY:TI:=⟨Kd.oth,1,8,Value.nilFunc⟩
theorem aYJ:qo Tryz.prog 166=some VY:=by kernel_rfl
def VX:TI:=⟨Kd.oth,1,8,Value.nilFunc⟩
theorem aYI:qo Tryz.prog 167=some VX:=by kernel_rfl
def VW:TI:=⟨Kd.oth,1,8,Value.nilFunc⟩
theorem aYH:qo Tryz.prog 168=some VW:=by kernel_rfl
def VV:TI:=⟨Kd.oth,1,8,Value.nilFunc⟩
theorem aYG:qo Tryz.prog 169=some VV:=by kernel_rfl
def VU:TI:=⟨Kd.oth,1,8,Value.nilFunc⟩
theorem aYF:qo Tryz.prog 170=some VU:=by kernel_rfl
def VT:TI:=⟨Kd.oth,1,8,Value.nilFunc⟩
theorem aYE:qo Tryz.prog 171=some VT:=by kernel_rfl
def VS:TI:=⟨Kd.oth,1,8,Value.nilFunc⟩
theorem aYD:qo Tryz.prog 173=some VS:=by kernel_rfl
def Zd:TI:=⟨Kd.stru [(0,22),(1,3),(2,3)],3,40,Value.agg ⟨[Value.slice none 0 0,Value.int IntKind.i64 0,Value.int IntKind.i64 0]⟩⟩
theorem ao0:qo Tryz.prog 174=some Zd:=by kernel_rfl
def Zc:TI:=⟨Kd.stru [(0,22),(1,3),(2,3)],3,40,Value.agg ⟨[Value.slice none 0 0,Value.int IntKind.i64 0,Value.int IntKind.i64 0]⟩⟩
theorem aoZ:qo Tryz.prog 175=some Zc:=by kernel_rfl
def VR:TI:=⟨Kd.oth,1,8,Value.nilFunc⟩
theorem aYC:qo Tryz.prog 176=some VR:=by kernel_rfl
def VQ:TI:=⟨Kd.oth,1,8,Value.nilFunc⟩
theorem aYB:qo Tryz.prog 177=some VQ:=by kernel_rfl
def VP:TI:=⟨Kd.oth,1,8,Value.nilFunc⟩
theorem aYA:qo Tryz.prog 178=some VP:=by kernel_rfl
def VO:TI:=⟨Kd.oth,1,8,Value.nilFunc⟩
theorem aYz:qo Tryz.prog 179=some VO:=by kernel_rfl
def VN:TI:=⟨Kd.oth,1,8,Value.nilFunc⟩
theorem aYy:qo Tryz.prog 180=some VN:=by kernel_rfl
def VM:TI:=⟨Kd.oth,1,8,Value.nilFunc⟩
theorem aYx:qo Tryz.prog 182=some VM:=by kernel_rfl
def VL:TI:=⟨Kd.oth,1,8,Value.nilFunc⟩
theorem aYw:qo Tryz.prog 183=some VL:=by kernel_rfl
def VK:TI:=⟨Kd.oth,1,8,Value.nilFunc⟩
theorem aYv:qo Tryz.prog 184=some VK:=by kernel_rfl
def VJ:TI:=⟨Kd.oth,1,8,Value.nilFunc⟩
theorem aYu:qo Tryz.prog 185=some VJ:=by kernel_rfl
def VI:TI:=⟨Kd.oth,1,8,Value.nilFunc⟩
theorem aYt:qo Tryz.prog 186=some VI:=by kernel_rfl
def VH:TI:=⟨Kd.oth,1,8,Value.nilFunc⟩
theorem aYs:qo Tryz.prog 187=some VH:=by kernel_rfl
def VG:TI:=⟨Kd.oth,1,8,Value.nilFunc⟩
theorem aYr:qo Tryz.prog 188=some VG:=by kernel_rfl
def VF:TI:=⟨Kd.oth,1,8,Value.nilFunc⟩
theorem aYq:qo Tryz.prog 189=some VF:=by kernel_rfl
def VE:TI:=⟨Kd.oth,1,8,Value.nilFunc⟩
theorem aYp:qo Tryz.prog 190=some VE:=by kernel_rfl
def VD:TI:=⟨Kd.oth,1,8,Value.nilFunc⟩
theorem aYo:qo Tryz.prog 191=some VD:=by kernel_rfl
def VC:TI:=⟨Kd.oth,1,8,Value.nilFunc⟩
theorem aYn:qo Tryz.prog 192=some VC:=by kernel_rfl
def VB:TI:=⟨Kd.oth,1,8,Value.nilFunc⟩
theorem aYm:qo Tryz.prog 194=some VB:=by kernel_rfl
def VA:TI:=⟨Kd.sli 111,1,24,Value.slice none 0 0⟩
theorem aOf:qo Tryz.prog 195=some VA:=by kernel_rfl
def Vz:TI:=⟨Kd.oth,1,8,Value.nilFunc⟩
theorem aYl:qo Tryz.prog 196=some Vz:=by kernel_rfl
def Vy:TI:=⟨Kd.oth,1,8,Value.nilFunc⟩
theorem aYk:qo Tryz.prog 197=some Vy:=by kernel_rfl
def Vx:TI:=⟨Kd.oth,1,8,Value.nilFunc⟩
theorem aYj:qo Tryz.prog 198=some Vx:=by kernel_rfl
def Vw:TI:=⟨Kd.oth,1,8,Value.nilFunc⟩
theorem aYi:qo Tryz.prog 199=some Vw:=by kernel_rfl
def Vv:TI:=⟨Kd.oth,1,8,Value.nilFunc⟩
theorem aYh:qo Tryz.prog 201=some Vv:=by kernel_rfl
def Vu:TI:=⟨Kd.oth,1,8,Value.nilFunc⟩
theorem aYg:qo Tryz.prog 203=some Vu:=by kernel_rfl
def Vt:TI:=⟨Kd.oth,1,8,Value.nilFunc⟩
theorem aYf:qo Tryz.prog 204=some Vt:=by kernel_rfl
def Vs:TI:=⟨Kd.oth,1,8,Value.nilFunc⟩
theorem aYe:qo Tryz.prog 205=some Vs:=by kernel_rfl
def Vr:TI:=⟨Kd.oth,1,8,Value.nilFunc⟩
theorem aYd:qo Tryz.prog 207=some Vr:=by kernel_rfl
def Vq:TI:=⟨Kd.oth,1,8,Value.nilFunc⟩
theorem aYc:qo Tryz.prog 208=some Vq:=by kernel_rfl
def Vp:TI:=⟨Kd.oth,1,8,Value.nilFunc⟩
theorem aYb:qo Tryz.prog 209=some Vp:=by kernel_rfl
def Vo:TI:=⟨Kd.oth,1,8,Value.nilFunc⟩
theorem aYa:qo Tryz.prog 210=some Vo:=by kernel_rfl
def Vn:TI:=⟨Kd.oth,1,8,Value.nilFunc⟩
theorem aX9:qo Tryz.prog 211=some Vn:=by kernel_rfl
def Vm:TI:=⟨Kd.oth,1,8,Value.nilFunc⟩
theorem aX8:qo Tryz.prog 212=some Vm:=by kernel_rfl
def Vl:TI:=⟨Kd.oth,1,8,Value.nilFunc⟩
theorem aX7:qo Tryz.prog 213=some Vl:=by kernel_rfl
def Vk:TI:=⟨Kd.oth,1,8,Value.nilFunc⟩
theorem aX6:qo Tryz.prog 214=some Vk:=by kernel_rfl
def Vj:TI:=⟨Kd.oth,1,8,Value.nilFunc⟩
theorem aX5:qo Tryz.prog 215=some Vj:=by kernel_rfl
def Vi:TI:=⟨Kd.int IntKind.u64,1,8,Value.int IntKind.u64 0⟩
theorem aX4:qo Tryz.prog 216=some Vi:=by kernel_rfl
def Vh:TI:=⟨Kd.oth,1,8,Value.nilFunc⟩
theorem aX3:qo Tryz.prog 217=some Vh:=by kernel_rfl
def Vg:TI:=⟨Kd.oth,1,8,Value.nilFunc⟩
theorem aX2:qo Tryz.prog 218=some Vg:=by kernel_rfl
def Vf:TI:=⟨Kd.oth,1,8,Value.nilFunc⟩
theorem aX1:qo Tryz.prog 219=some Vf:=by kernel_rfl
def Ve:TI:=⟨Kd.oth,1,8,Value.nilFunc⟩
theorem aX0:qo Tryz.prog 220=some Ve:=by kernel_rfl
def Vd:TI:=⟨Kd.oth,1,8,Value.nilFunc⟩
theorem aXZ:qo Tryz.prog 221=some Vd:=by kernel_rfl
def Vc:TI:=⟨Kd.oth,1,8,Value.nilFunc⟩
theorem aXY:qo Tryz.prog 222=some Vc:=by kernel_rfl
def Vb:TI:=⟨Kd.oth,1,8,Value.nilFunc⟩
theorem aXX:qo Tryz.prog 224=some Vb:=by kernel_rfl
def Va:TI:=⟨Kd.oth,1,8,Value.nilFunc⟩
theorem aXW:qo Tryz.prog 225=some Va:=by kernel_rfl
def X9:TI:=⟨Kd.oth,1,8,Value.nilFunc⟩
theorem aXV:qo Tryz.prog 226=some X9:=by kernel_rfl
def X8:TI:=⟨Kd.oth,1,8,Value.nilFunc⟩
theorem aXU:qo Tryz.prog 227=some X8:=by kernel_rfl
def X7:TI:=⟨Kd.oth,1,8,Value.nilFunc⟩
theorem aXT:qo Tryz.prog 228=some X7:=by kernel_rfl
def X6:TI:=⟨Kd.oth,1,8,Value.nilFunc⟩
theorem aXS:qo Tryz.prog 229=some X6:=by kernel_rfl
def X5:TI:=⟨Kd.oth,1,8,Value.nilFunc⟩
theorem aXR:qo Tryz.prog 230=some X5:=by kernel_rfl
def X4:TI:=⟨Kd.oth,1,8,Value.nilFunc⟩
theorem aXQ:qo Tryz.prog 231=some X4:=by kernel_rfl
def X3:TI:=⟨Kd.oth,1,8,Value.nilFunc⟩
theorem aXP:qo Tryz.prog 232=some X3:=by kernel_rfl
def X2:TI:=⟨Kd.oth,1,8,Value.nilFunc⟩
theorem aXO:qo Tryz.prog 233=some X2:=by kernel_rfl
def X1:TI:=⟨Kd.oth,1,8,Value.nilFunc⟩
theorem aXN:qo Tryz.prog 234=some X1:=by kernel_rfl
def X0:TI:=⟨Kd.oth,1,8,Value.nilFunc⟩
theorem aXM:qo Tryz.prog 235=some X0:=by kernel_rfl
def XZ:TI:=⟨Kd.oth,1,8,Value.nilFunc⟩
theorem aXL:qo Tryz.prog 236=some XZ:=by kernel_rfl
def XY:TI:=⟨Kd.oth,1,8,Value.nilFunc⟩
theorem aXK:qo Tryz.prog 237=some XY:=by kernel_rfl
def XX:TI:=⟨Kd.oth,1,8,Value.nilFunc⟩
theorem aXJ:qo Tryz.prog 238=some XX:=by kernel_rfl
def XW:TI:=⟨Kd.oth,1,8,Value.nilFunc⟩
theorem aXI:qo Tryz.prog 239=some XW:=by kernel_rfl
def XV:TI:=⟨Kd.oth,1,8,Value.nilFunc⟩
theorem aXH:qo Tryz.prog 240=some XV:=by kernel_rfl
def XU:TI:=⟨Kd.oth,1,8,Value.nilFunc⟩
theorem aXG:qo Tryz.prog 241=some XU:=by kernel_rfl
def XT:TI:=⟨Kd.oth,1,8,Value.nilFunc⟩
theorem aXF:qo Tryz.prog 242=some XT:=by kernel_rfl
def XS:TI:=⟨Kd.oth,1,8,Value.nilFunc⟩
theorem aXE:qo Tryz.prog 243=some XS:=by kernel_rfl
def XR:TI:=⟨Kd.oth,1,8,Value.nilFunc⟩
theorem aXD:qo Tryz.prog 245=some XR:=by kernel_rfl
def XQ:TI:=⟨Kd.oth,1,8,Value.nilFunc⟩
theorem aXC:qo Tryz.prog 246=some XQ:=by kernel_rfl
def XP:TI:=⟨Kd.oth,1,8,Value.nilFunc⟩
theorem aXB:qo Tryz.prog 247=some XP:=by kernel_rfl
def XO:TI:=⟨Kd.oth,1,8,Value.nilFunc⟩
theorem aXA:qo Tryz.prog 249=some XO:=by kernel_rfl
def XN:TI:=⟨Kd.oth,1,8,Value.nilFunc⟩
theorem aXz:qo Tryz.prog 250=some XN:=by kernel_rfl
def XM:TI:=⟨Kd.oth,1,8,Value.nilFunc⟩
theorem aXy:qo Tryz.prog 251=some XM:=by kernel_rfl
def XL:TI:=⟨Kd.int IntKind.u32,1,4,Value.int IntKind.u32 0⟩
theorem aXx:qo Tryz.prog 252=some XL:=by kernel_rfl
def XK:TI:=⟨Kd.oth,1,8,Value.nilFunc⟩
theorem aXw:qo Tryz.prog 253=some XK:=by kernel_rfl
def XJ:TI:=⟨Kd.int IntKind.u64,1,8,Value.int IntKind.u64 0⟩
theorem aXv:qo Tryz.prog 254=some XJ:=by kernel_rfl
def XI:TI:=⟨Kd.oth,1,8,Value.nilFunc⟩
theorem aXu:qo Tryz.prog 256=some XI:=by kernel_rfl
def XH:TI:=⟨Kd.oth,1,8,Value.nilFunc⟩
theorem aXt:qo Tryz.prog 257=some XH:=by kernel_rfl
def XG:TI:=⟨Kd.oth,1,8,Value.nilFunc⟩
theorem aXs:qo Tryz.prog 258=some XG:=by kernel_rfl
def XF:TI:=⟨Kd.oth,1,8,Value.nilFunc⟩
theorem aXr:qo Tryz.prog 259=some XF:=by kernel_rfl
def XE:TI:=⟨Kd.oth,1,8,Value.nilFunc⟩
theorem aXq:qo Tryz.prog 260=some XE:=by kernel_rfl
def XD:TI:=⟨Kd.oth,1,8,Value.nilFunc⟩
theorem aXp:qo Tryz.prog 263=some XD:=by kernel_rfl
def XC:TI:=⟨Kd.stru [(0,266)],0,0,Value.agg ⟨[]⟩⟩
theorem aXo:qo Tryz.prog 267=some XC:=by kernel_rfl
def XB:TI:=⟨Kd.stru [(0,266)],0,0,Value.agg ⟨[]⟩⟩
theorem aXn:qo Tryz.prog 268=some XB:=by kernel_rfl
def XA:TI:=⟨Kd.int IntKind.u8,1,1,Value.int IntKind.u8 0⟩
theorem aXm:qo Tryz.prog 269=some XA:=by kernel_rfl
def Xz:TI:=⟨Kd.int IntKind.u8,1,1,Value.int IntKind.u8 0⟩
theorem aXl:qo Tryz.prog 270=some Xz:=by kernel_rfl
def Xy:TI:=⟨Kd.oth,1,8,Value.nilFunc⟩
theorem aXk:qo Tryz.prog 271=some Xy:=by kernel_rfl
def Xx:TI:=⟨Kd.int IntKind.i32,1,4,Value.int IntKind.i32 0⟩
theorem aXj:qo Tryz.prog 273=some Xx:=by kernel_rfl
def Xw:TI:=⟨Kd.int IntKind.i32,1,4,Value.int IntKind.i32 0⟩
theorem aXi:qo Tryz.prog 274=some Xw:=by kernel_rfl
def Xv:TI:=⟨Kd.oth,1,8,Value.nilFunc⟩
theorem aXh:qo Tryz.prog 277=some Xv:=by kernel_rfl
theorem ty1{K:TI→Prop}:@tyW Tryz.prog 1 ⟨K⟩=K ti1:=qi tf1
theorem aOd:ti1.kd=Kd.oth:=ID rfl
theorem aJe:ti1.kd.agg=false:=ID rfl
theorem awD:ti1.size=1:=ID rfl
theorem ann:ti1.bytes=8:=ID rfl
theorem aOb:qw ti1=True:=eq_true rfl
theorem aOc:zc ti1=[.v Value.nilFunc]:=ID rfl
theorem ty2{K:TI→Prop}:@tyW Tryz.prog 2 ⟨K⟩=K ti2:=qi tf2
theorem aOa:ti2.kd=Kd.int IntKind.i64:=ID rfl
theorem aIS:ti2.kd.agg=false:=ID rfl
theorem atr:ti2.size=1:=ID rfl
theorem amb:ti2.bytes=8:=ID rfl
theorem aN8:qw ti2=True:=eq_true rfl
theorem aN9:zc ti2=[.v (Value.int IntKind.i64 0)]:=ID rfl
theorem ty3{K:TI→Prop}:@tyW Tryz.prog 3 ⟨K⟩=K ti3:=qi tf3
theorem aN7:ti3.kd=Kd.int IntKind.i64:=ID rfl
theorem aIn:ti3.kd.agg=false:=ID rfl
theorem atg:ti3.size=1:=ID rfl
theorem alY:ti3.bytes=8:=ID rfl
theorem aN5:qw ti3=True:=eq_true rfl
theorem aN6:zc ti3=[.v (Value.int IntKind.i64 0)]:=ID rfl
theorem ty4{K:TI→Prop}:@tyW Tryz.prog 4 ⟨K⟩=K ti4:=qi tf4
theorem aN4:ti4.kd=Kd.bool:=ID rfl
theorem aHY:ti4.kd.agg=false:=ID rfl
theorem as7:ti4.size=1:=ID rfl
theorem alP:ti4.bytes=1:=ID rfl
theorem aN2:qw ti4=True:=eq_true rfl
theorem aN3:zc ti4=[.v (Value.bool false)]:=ID rfl
theorem ty5{K:TI→Prop}:@tyW Tryz.prog 5 ⟨K⟩=K ti5:=qi tf5
theorem aN1:ti5.kd=Kd.int IntKind.u8:=ID rfl
theorem aHC:ti5.kd.agg=false:=ID rfl
theorem asZ:ti5.size=1:=ID rfl
theorem alG:ti5.bytes=1:=ID rfl
theorem aNZ:qw ti5=True:=eq_true rfl
theorem aN0:zc ti5=[.v (Value.int IntKind.u8 0)]:=ID rfl
theorem ty6{K:TI→Prop}:@tyW Tryz.prog 6 ⟨K⟩=K ti6:=qi tf6
theorem aNY:ti6.kd=Kd.int IntKind.u8:=ID rfl
theorem aHa:ti6.kd.agg=false:=ID rfl
theorem asP:ti6.size=1:=ID rfl
theorem alt:ti6.bytes=1:=ID rfl
theorem aNW:qw ti6=True:=eq_true rfl
theorem aNX:zc ti6=[.v (Value.int IntKind.u8 0)]:=ID rfl
theorem ty7{K:TI→Prop}:@tyW Tryz.prog 7 ⟨K⟩=K ti7:=qi tf7
theorem aNV:ti7.kd=Kd.stru [(0,2),(1,3),(2,4),(3,6)]:=ID rfl
theorem aGR:ti7.kd.agg=true:=ID rfl
theorem asI:ti7.size=4:=ID rfl
theorem alm:ti7.bytes=24:=ID rfl
theorem aNT:qw ti7=True:=eq_true rfl
theorem aNU:zc ti7=[.v (Value.int IntKind.i64 0),.v (Value.int IntKind.i64 0),.v (Value.bool false),.v (Value.int IntKind.u8 0)]:=ID rfl
theorem aTn{K:Nat→TI→Prop}:@qB Tryz.prog 7 0 ⟨K⟩=K 0 ti2:=qs (ti:=ti7) (tf:=ti2) (fo:=(0,2)) (fs:=[(0,2),(1,3),(2,4),(3,6)]) tf7 rfl rfl tf2
theorem aZY{K:Nat→Nat→Prop}:qt Tryz.prog [(0,2),(1,3),(2,4),(3,6)] 0 K=K 0 1:=qr (tf:=ti2) (fo:=(0,2)) (fs:=[(0,2),(1,3),(2,4),(3,6)]) rfl tf2
theorem aTm{K:Nat→TI→Prop}:@qB Tryz.prog 7 1 ⟨K⟩=K 1 ti3:=qs (ti:=ti7) (tf:=ti3) (fo:=(1,3)) (fs:=[(0,2),(1,3),(2,4),(3,6)]) tf7 rfl rfl tf3
theorem aZX{K:Nat→Nat→Prop}:qt Tryz.prog [(0,2),(1,3),(2,4),(3,6)] 1 K=K 1 1:=qr (tf:=ti3) (fo:=(1,3)) (fs:=[(0,2),(1,3),(2,4),(3,6)]) rfl tf3
theorem aTl{K:Nat→TI→Prop}:@qB Tryz.prog 7 2 ⟨K⟩=K 2 ti4:=qs (ti:=ti7) (tf:=ti4) (fo:=(2,4)) (fs:=[(0,2),(1,3),(2,4),(3,6)]) tf7 rfl rfl tf4
theorem aZW{K:Nat→Nat→Prop}:qt Tryz.prog [(0,2),(1,3),(2,4),(3,6)] 2 K=K 2 1:=qr (tf:=ti4) (fo:=(2,4)) (fs:=[(0,2),(1,3),(2,4),(3,6)]) rfl tf4
theorem aTk{K:Nat→TI→Prop}:@qB Tryz.prog 7 3 ⟨K⟩=K 3 ti6:=qs (ti:=ti7) (tf:=ti6) (fo:=(3,6)) (fs:=[(0,2),(1,3),(2,4),(3,6)]) tf7 rfl rfl tf6
theorem aZV{K:Nat→Nat→Prop}:qt Tryz.prog [(0,2),(1,3),(2,4),(3,6)] 3 K=K 3 1:=qr (tf:=ti6) (fo:=(3,6)) (fs:=[(0,2),(1,3),(2,4),(3,6)]) rfl tf6
theorem bam:∀f∈([(0,2),(1,3),(2,4),(3,6)]:List (Nat×Nat)),(qo Tryz.prog f.2).isSome=true:=by
 intro f hf
 simp only[List.mem_cons,List.not_mem_nil,or_false]at hf
 rcases hf with rfl|rfl|rfl|rfl
 ·rw[tf2];rfl
 ·rw[tf3];rfl
 ·rw[tf4];rfl
 ·rw[tf6];rfl
theorem be6{ps:List (Nat×AV)}{K:AV→Prop}:@zl Tryz.prog 7 ps ⟨K⟩=@zk (qt Tryz.prog [(0,2),(1,3),(2,4),(3,6)]) (zc ti7) ps ⟨fun cs=>K (.ag cs)⟩:=qN tf7 rfl bam
theorem ty8{K:TI→Prop}:@tyW Tryz.prog 8 ⟨K⟩=K ti8:=qi tf8
theorem aNS:ti8.kd=Kd.stru [(0,2),(1,3),(2,4),(3,6)]:=ID rfl
theorem aGs:ti8.kd.agg=true:=ID rfl
theorem asz:ti8.size=4:=ID rfl
theorem ala:ti8.bytes=24:=ID rfl
theorem aNQ:qw ti8=True:=eq_true rfl
theorem aNR:zc ti8=[.v (Value.int IntKind.i64 0),.v (Value.int IntKind.i64 0),.v (Value.bool false),.v (Value.int IntKind.u8 0)]:=ID rfl
theorem aTj{K:Nat→TI→Prop}:@qB Tryz.prog 8 0 ⟨K⟩=K 0 ti2:=qs (ti:=ti8) (tf:=ti2) (fo:=(0,2)) (fs:=[(0,2),(1,3),(2,4),(3,6)]) tf8 rfl rfl tf2
theorem aZU{K:Nat→Nat→Prop}:qt Tryz.prog [(0,2),(1,3),(2,4),(3,6)] 0 K=K 0 1:=qr (tf:=ti2) (fo:=(0,2)) (fs:=[(0,2),(1,3),(2,4),(3,6)]) rfl tf2
theorem aTi{K:Nat→TI→Prop}:@qB Tryz.prog 8 1 ⟨K⟩=K 1 ti3:=qs (ti:=ti8) (tf:=ti3) (fo:=(1,3)) (fs:=[(0,2),(1,3),(2,4),(3,6)]) tf8 rfl rfl tf3
theorem aZT{K:Nat→Nat→Prop}:qt Tryz.prog [(0,2),(1,3),(2,4),(3,6)] 1 K=K 1 1:=qr (tf:=ti3) (fo:=(1,3)) (fs:=[(0,2),(1,3),(2,4),(3,6)]) rfl tf3
theorem aTh{K:Nat→TI→Prop}:@qB Tryz.prog 8 2 ⟨K⟩=K 2 ti4:=qs (ti:=ti8) (tf:=ti4) (fo:=(2,4)) (fs:=[(0,2),(1,3),(2,4),(3,6)]) tf8 rfl rfl tf4
theorem aZS{K:Nat→Nat→Prop}:qt Tryz.prog [(0,2),(1,3),(2,4),(3,6)] 2 K=K 2 1:=qr (tf:=ti4) (fo:=(2,4)) (fs:=[(0,2),(1,3),(2,4),(3,6)]) rfl tf4
theorem aTg{K:Nat→TI→Prop}:@qB Tryz.prog 8 3 ⟨K⟩=K 3 ti6:=qs (ti:=ti8) (tf:=ti6) (fo:=(3,6)) (fs:=[(0,2),(1,3),(2,4),(3,6)]) tf8 rfl rfl tf6
theorem aZR{K:Nat→Nat→Prop}:qt Tryz.prog [(0,2),(1,3),(2,4),(3,6)] 3 K=K 3 1:=qr (tf:=ti6) (fo:=(3,6)) (fs:=[(0,2),(1,3),(2,4),(3,6)]) rfl tf6
theorem bal:∀f∈([(0,2),(1,3),(2,4),(3,6)]:List (Nat×Nat)),(qo Tryz.prog f.2).isSome=true:=by
 intro f hf
 simp only[List.mem_cons,List.not_mem_nil,or_false]at hf
 rcases hf with rfl|rfl|rfl|rfl
 ·rw[tf2];rfl
 ·rw[tf3];rfl
 ·rw[tf4];rfl
 ·rw[tf6];rfl
theorem be5{ps:List (Nat×AV)}{K:AV→Prop}:@zl Tryz.prog 8 ps ⟨K⟩=@zk (qt Tryz.prog [(0,2),(1,3),(2,4),(3,6)]) (zc ti8) ps ⟨fun cs=>K (.ag cs)⟩:=qN tf8 rfl bal
theorem ty9{K:TI→Prop}:@tyW Tryz.prog 9 ⟨K⟩=K ti9:=qi tf9
theorem aNP:ti9.kd=Kd.str:=ID rfl
theorem aF3:ti9.kd.agg=false:=ID rfl
theorem asq:ti9.size=1:=ID rfl
theorem ak1:ti9.bytes=16:=ID rfl
theorem aNN:qw ti9=True:=eq_true rfl
theorem aNO:zc ti9=[.v (Value.string {data:=⟨[]⟩})]:=ID rfl
theorem bdA{K:TI→Prop}:@tyW Tryz.prog 10 ⟨K⟩=K aE8:=qi bep
theorem aJn:aE8.kd=Kd.str:=ID rfl
theorem aAL:aE8.kd.agg=false:=ID rfl
theorem aoN:aE8.size=1:=ID rfl
theorem ajh:aE8.bytes=16:=ID rfl
theorem aJl:qw aE8=True:=eq_true rfl
theorem aJm:zc aE8=[.v (Value.string {data:=⟨[]⟩})]:=ID rfl
theorem bdz{K:TI→Prop}:@tyW Tryz.prog 11 ⟨K⟩=K aE7:=qi beo
theorem aJk:aE7.kd=Kd.str:=ID rfl
theorem aAg:aE7.kd.agg=false:=ID rfl
theorem aoC:aE7.size=1:=ID rfl
theorem ai6:aE7.bytes=16:=ID rfl
theorem aJi:qw aE7=True:=eq_true rfl
theorem aJj:zc aE7=[.v (Value.string {data:=⟨[]⟩})]:=ID rfl
theorem bdy{K:TI→Prop}:@tyW Tryz.prog 12 ⟨K⟩=K aE6:=qi ben
theorem aJh:aE6.kd=Kd.int IntKind.u64:=ID rfl
theorem azL:aE6.kd.agg=false:=ID rfl
theorem aor:aE6.size=1:=ID rfl
theorem aiV:aE6.bytes=8:=ID rfl
theorem aJf:qw aE6=True:=eq_true rfl
theorem aJg:zc aE6=[.v (Value.int IntKind.u64 0)]:=ID rfl
theorem bdx{K:TI→Prop}:@tyW Tryz.prog 21 ⟨K⟩=K aE5:=qi bem
theorem aJd:aE5.kd=Kd.int IntKind.i32:=ID rfl
theorem avM:aE5.kd.agg=false:=ID rfl
theorem am4:aE5.size=1:=ID rfl
theorem ahB:aE5.bytes=4:=ID rfl
theorem aJb:qw aE5=True:=eq_true rfl
theorem aJc:zc aE5=[.v (Value.int IntKind.i32 0)]:=ID rfl
theorem bdw{K:TI→Prop}:@tyW Tryz.prog 22 ⟨K⟩=K ae6:=qi aFb
theorem aJa:ae6.kd=Kd.sli 5:=ID rfl
theorem avk:ae6.kd.agg=false:=ID rfl
theorem amU:ae6.size=1:=ID rfl
theorem ahr:ae6.bytes=24:=ID rfl
theorem aI8:qw ae6=True:=eq_true rfl
theorem aI9:zc ae6=[.v (Value.slice none 0 0)]:=ID rfl
theorem aZI{K:TI→Prop}:@yU Tryz.prog 22 ⟨K⟩=K ti5:=ZQ aFb rfl tf5
theorem bdv{K:TI→Prop}:@tyW Tryz.prog 23 ⟨K⟩=K ae5:=qi aFa
theorem aI7:ae5.kd=Kd.sli 40:=ID rfl
theorem auP:ae5.kd.agg=false:=ID rfl
theorem amJ:ae5.size=1:=ID rfl
theorem ahg:ae5.bytes=24:=ID rfl
theorem aI5:qw ae5=True:=eq_true rfl
theorem aI6:zc ae5=[.v (Value.slice none 0 0)]:=ID rfl
theorem aZH{K:TI→Prop}:@yU Tryz.prog 23 ⟨K⟩=K Zp:=ZQ aFa rfl KW
theorem bdu{K:TI→Prop}:@tyW Tryz.prog 24 ⟨K⟩=K amI:=qi aUG
theorem aI4:amI.kd=Kd.stru [(0,3),(1,23)]:=ID rfl
theorem auq:amI.kd.agg=true:=ID rfl
theorem amz:amI.size=2:=ID rfl
theorem ag7:amI.bytes=32:=ID rfl
theorem aI2:qw amI=True:=eq_true rfl
theorem aI3:zc amI=[.v (Value.int IntKind.i64 0),.v (Value.slice none 0 0)]:=ID rfl
theorem aL9{K:Nat→TI→Prop}:@qB Tryz.prog 24 0 ⟨K⟩=K 0 ti3:=qs (ti:=amI) (tf:=ti3) (fo:=(0,3)) (fs:=[(0,3),(1,23)]) aUG rfl rfl tf3
theorem aO8{K:Nat→Nat→Prop}:qt Tryz.prog [(0,3),(1,23)] 0 K=K 0 1:=qr (tf:=ti3) (fo:=(0,3)) (fs:=[(0,3),(1,23)]) rfl tf3
theorem aL8{K:Nat→TI→Prop}:@qB Tryz.prog 24 1 ⟨K⟩=K 1 ae5:=qs (ti:=amI) (tf:=ae5) (fo:=(1,23)) (fs:=[(0,3),(1,23)]) aUG rfl rfl aFa
theorem aO7{K:Nat→Nat→Prop}:qt Tryz.prog [(0,3),(1,23)] 1 K=K 1 1:=qr (tf:=ae5) (fo:=(1,23)) (fs:=[(0,3),(1,23)]) rfl aFa
theorem aP2:∀f∈([(0,3),(1,23)]:List (Nat×Nat)),(qo Tryz.prog f.2).isSome=true:=by
 intro f hf
 simp only[List.mem_cons,List.not_mem_nil,or_false]at hf
 rcases hf with rfl|rfl
 ·rw[tf3];rfl
 ·rw[aFa];rfl
theorem bb9{ps:List (Nat×AV)}{K:AV→Prop}:@zl Tryz.prog 24 ps ⟨K⟩=@zk (qt Tryz.prog [(0,3),(1,23)]) (zc amI) ps ⟨fun cs=>K (.ag cs)⟩:=qN aUG rfl aP2
theorem bdt{K:TI→Prop}:@tyW Tryz.prog 25 ⟨K⟩=K amy:=qi aUF
theorem aI1:amy.kd=Kd.stru [(0,3),(1,23)]:=ID rfl
theorem atY:amy.kd.agg=true:=ID rfl
theorem amo:amy.size=2:=ID rfl
theorem agX:amy.bytes=32:=ID rfl
theorem aIZ:qw amy=True:=eq_true rfl
theorem aI0:zc amy=[.v (Value.int IntKind.i64 0),.v (Value.slice none 0 0)]:=ID rfl
theorem aL7{K:Nat→TI→Prop}:@qB Tryz.prog 25 0 ⟨K⟩=K 0 ti3:=qs (ti:=amy) (tf:=ti3) (fo:=(0,3)) (fs:=[(0,3),(1,23)]) aUF rfl rfl tf3
theorem aO6{K:Nat→Nat→Prop}:qt Tryz.prog [(0,3),(1,23)] 0 K=K 0 1:=qr (tf:=ti3) (fo:=(0,3)) (fs:=[(0,3),(1,23)]) rfl tf3
theorem aL6{K:Nat→TI→Prop}:@qB Tryz.prog 25 1 ⟨K⟩=K 1 ae5:=qs (ti:=amy) (tf:=ae5) (fo:=(1,23)) (fs:=[(0,3),(1,23)]) aUF rfl rfl aFa
theorem aO5{K:Nat→Nat→Prop}:qt Tryz.prog [(0,3),(1,23)] 1 K=K 1 1:=qr (tf:=ae5) (fo:=(1,23)) (fs:=[(0,3),(1,23)]) rfl aFa
theorem aP1:∀f∈([(0,3),(1,23)]:List (Nat×Nat)),(qo Tryz.prog f.2).isSome=true:=by
 intro f hf
 simp only[List.mem_cons,List.not_mem_nil,or_false]at hf
 rcases hf with rfl|rfl
 ·rw[tf3];rfl
 ·rw[aFa];rfl
theorem bb8{ps:List (Nat×AV)}{K:AV→Prop}:@zl Tryz.prog 25 ps ⟨K⟩=@zk (qt Tryz.prog [(0,3),(1,23)]) (zc amy) ps ⟨fun cs=>K (.ag cs)⟩:=qN aUF rfl aP1
theorem bds{K:TI→Prop}:@tyW Tryz.prog 27 ⟨K⟩=K aE4:=qi bel
theorem aIY:aE4.kd=Kd.oth:=ID rfl
theorem att:aE4.kd.agg=false:=ID rfl
theorem amd:aE4.size=1:=ID rfl
theorem agM:aE4.bytes=8:=ID rfl
theorem aIW:qw aE4=True:=eq_true rfl
theorem aIX:zc aE4=[.v Value.nilFunc]:=ID rfl
theorem bdr{K:TI→Prop}:@tyW Tryz.prog 29 ⟨K⟩=K aE3:=qi bek
theorem aIV:aE3.kd=Kd.oth:=ID rfl
theorem ats:aE3.kd.agg=false:=ID rfl
theorem amc:aE3.size=1:=ID rfl
theorem agL:aE3.bytes=8:=ID rfl
theorem aIT:qw aE3=True:=eq_true rfl
theorem aIU:zc aE3=[.v Value.nilFunc]:=ID rfl
theorem bdq{K:TI→Prop}:@tyW Tryz.prog 30 ⟨K⟩=K aE2:=qi bej
theorem aIR:aE2.kd=Kd.oth:=ID rfl
theorem atq:aE2.kd.agg=false:=ID rfl
theorem ama:aE2.size=1:=ID rfl
theorem agK:aE2.bytes=8:=ID rfl
theorem aIP:qw aE2=True:=eq_true rfl
theorem aIQ:zc aE2=[.v Value.nilFunc]:=ID rfl
theorem bdp{K:TI→Prop}:@tyW Tryz.prog 31 ⟨K⟩=K aE1:=qi bei
theorem aIO:aE1.kd=Kd.oth:=ID rfl
theorem atp:aE1.kd.agg=false:=ID rfl
theorem al9:aE1.size=1:=ID rfl
theorem agJ:aE1.bytes=8:=ID rfl
theorem aIM:qw aE1=True:=eq_true rfl
theorem aIN:zc aE1=[.v Value.nilFunc]:=ID rfl
theorem bdo{K:TI→Prop}:@tyW Tryz.prog 32 ⟨K⟩=K aE0:=qi beh
theorem aIL:aE0.kd=Kd.oth:=ID rfl
theorem ato:aE0.kd.agg=false:=ID rfl
theorem al8:aE0.size=1:=ID rfl
theorem agI:aE0.bytes=8:=ID rfl
theorem aIJ:qw aE0=True:=eq_true rfl
theorem aIK:zc aE0=[.v Value.nilFunc]:=ID rfl
theorem bdn{K:TI→Prop}:@tyW Tryz.prog 33 ⟨K⟩=K aEZ:=qi beg
theorem aII:aEZ.kd=Kd.oth:=ID rfl
theorem atn:aEZ.kd.agg=false:=ID rfl
theorem al7:aEZ.size=1:=ID rfl
theorem agH:aEZ.bytes=8:=ID rfl
theorem aIG:qw aEZ=True:=eq_true rfl
theorem aIH:zc aEZ=[.v Value.nilFunc]:=ID rfl
theorem bdm{K:TI→Prop}:@tyW Tryz.prog 34 ⟨K⟩=K JS:=qi ae7
theorem aIF:JS.kd=Kd.sli 3:=ID rfl
theorem atm:JS.kd.agg=false:=ID rfl
theorem al6:JS.size=1:=ID rfl
theorem agG:JS.bytes=24:=ID rfl
theorem aID:qw JS=True:=eq_true rfl
theorem aIE:zc JS=[.v (Value.slice none 0 0)]:=ID rfl
theorem aZG{K:TI→Prop}:@yU Tryz.prog 34 ⟨K⟩=K ti3:=ZQ ae7 rfl tf3
theorem bdl{K:TI→Prop}:@tyW Tryz.prog 35 ⟨K⟩=K ar7:=qi aXg
theorem aIC:ar7.kd=Kd.stru [(0,34)]:=ID rfl
theorem atl:ar7.kd.agg=true:=ID rfl
theorem al5:ar7.size=1:=ID rfl
theorem agF:ar7.bytes=24:=ID rfl
theorem aIA:qw ar7=True:=eq_true rfl
theorem aIB:zc ar7=[.v (Value.slice none 0 0)]:=ID rfl
theorem aL5{K:Nat→TI→Prop}:@qB Tryz.prog 35 0 ⟨K⟩=K 0 JS:=qs (ti:=ar7) (tf:=JS) (fo:=(0,34)) (fs:=[(0,34)]) aXg rfl rfl ae7
theorem aO4{K:Nat→Nat→Prop}:qt Tryz.prog [(0,34)] 0 K=K 0 1:=qr (tf:=JS) (fo:=(0,34)) (fs:=[(0,34)]) rfl ae7
theorem aP0:∀f∈([(0,34)]:List (Nat×Nat)),(qo Tryz.prog f.2).isSome=true:=by
 intro f hf
 simp only[List.mem_cons,List.not_mem_nil,or_false]at hf
 subst hf;rw[ae7];rfl
theorem bb7{ps:List (Nat×AV)}{K:AV→Prop}:@zl Tryz.prog 35 ps ⟨K⟩=@zk (qt Tryz.prog [(0,34)]) (zc ar7) ps ⟨fun cs=>K (.ag cs)⟩:=qN aXg rfl aP0
theorem bdk{K:TI→Prop}:@tyW Tryz.prog 36 ⟨K⟩=K aa6:=qi aBg
theorem aIz:aa6.kd=Kd.stru [(0,34)]:=ID rfl
theorem atk:aa6.kd.agg=true:=ID rfl
theorem al4:aa6.size=1:=ID rfl
theorem agE:aa6.bytes=24:=ID rfl
theorem aIx:qw aa6=True:=eq_true rfl
theorem aIy:zc aa6=[.v (Value.slice none 0 0)]:=ID rfl
theorem aL4{K:Nat→TI→Prop}:@qB Tryz.prog 36 0 ⟨K⟩=K 0 JS:=qs (ti:=aa6) (tf:=JS) (fo:=(0,34)) (fs:=[(0,34)]) aBg rfl rfl ae7
theorem aO3{K:Nat→Nat→Prop}:qt Tryz.prog [(0,34)] 0 K=K 0 1:=qr (tf:=JS) (fo:=(0,34)) (fs:=[(0,34)]) rfl ae7
theorem aPZ:∀f∈([(0,34)]:List (Nat×Nat)),(qo Tryz.prog f.2).isSome=true:=by
 intro f hf
 simp only[List.mem_cons,List.not_mem_nil,or_false]at hf
 subst hf;rw[ae7];rfl
theorem bb6{ps:List (Nat×AV)}{K:AV→Prop}:@zl Tryz.prog 36 ps ⟨K⟩=@zk (qt Tryz.prog [(0,34)]) (zc aa6) ps ⟨fun cs=>K (.ag cs)⟩:=qN aBg rfl aPZ
theorem bdj{K:TI→Prop}:@tyW Tryz.prog 37 ⟨K⟩=K al3:=qi aUE
theorem aIw:al3.kd=Kd.stru [(0,4),(1,36)]:=ID rfl
theorem atj:al3.kd.agg=true:=ID rfl
theorem al2:al3.size=2:=ID rfl
theorem agD:al3.bytes=32:=ID rfl
theorem aIu:qw al3=True:=eq_true rfl
theorem aIv:zc al3=[.v (Value.bool false),.v (Value.slice none 0 0)]:=ID rfl
theorem aL3{K:Nat→TI→Prop}:@qB Tryz.prog 37 0 ⟨K⟩=K 0 ti4:=qs (ti:=al3) (tf:=ti4) (fo:=(0,4)) (fs:=[(0,4),(1,36)]) aUE rfl rfl tf4
theorem aO2{K:Nat→Nat→Prop}:qt Tryz.prog [(0,4),(1,36)] 0 K=K 0 1:=qr (tf:=ti4) (fo:=(0,4)) (fs:=[(0,4),(1,36)]) rfl tf4
theorem aL2{K:Nat→TI→Prop}:@qB Tryz.prog 37 1 ⟨K⟩=K 1 aa6:=qs (ti:=al3) (tf:=aa6) (fo:=(1,36)) (fs:=[(0,4),(1,36)]) aUE rfl rfl aBg
theorem aO1{K:Nat→Nat→Prop}:qt Tryz.prog [(0,4),(1,36)] 1 K=K 1 1:=qr (tf:=aa6) (fo:=(1,36)) (fs:=[(0,4),(1,36)]) rfl aBg
theorem aPY:∀f∈([(0,4),(1,36)]:List (Nat×Nat)),(qo Tryz.prog f.2).isSome=true:=by
 intro f hf
 simp only[List.mem_cons,List.not_mem_nil,or_false]at hf
 rcases hf with rfl|rfl
 ·rw[tf4];rfl
 ·rw[aBg];rfl
theorem bb5{ps:List (Nat×AV)}{K:AV→Prop}:@zl Tryz.prog 37 ps ⟨K⟩=@zk (qt Tryz.prog [(0,4),(1,36)]) (zc al3) ps ⟨fun cs=>K (.ag cs)⟩:=qN aUE rfl aPY
theorem bdi{K:TI→Prop}:@tyW Tryz.prog 38 ⟨K⟩=K Xu:=qi ar8
theorem aIt:Xu.kd=Kd.stru [(0,4),(1,36)]:=ID rfl
theorem ati:Xu.kd.agg=true:=ID rfl
theorem al1:Xu.size=2:=ID rfl
theorem agC:Xu.bytes=32:=ID rfl
theorem aIr:qw Xu=True:=eq_true rfl
theorem aIs:zc Xu=[.v (Value.bool false),.v (Value.slice none 0 0)]:=ID rfl
theorem aL1{K:Nat→TI→Prop}:@qB Tryz.prog 38 0 ⟨K⟩=K 0 ti4:=qs (ti:=Xu) (tf:=ti4) (fo:=(0,4)) (fs:=[(0,4),(1,36)]) ar8 rfl rfl tf4
theorem aO0{K:Nat→Nat→Prop}:qt Tryz.prog [(0,4),(1,36)] 0 K=K 0 1:=qr (tf:=ti4) (fo:=(0,4)) (fs:=[(0,4),(1,36)]) rfl tf4
theorem aL0{K:Nat→TI→Prop}:@qB Tryz.prog 38 1 ⟨K⟩=K 1 aa6:=qs (ti:=Xu) (tf:=aa6) (fo:=(1,36)) (fs:=[(0,4),(1,36)]) ar8 rfl rfl aBg
theorem aOZ{K:Nat→Nat→Prop}:qt Tryz.prog [(0,4),(1,36)] 1 K=K 1 1:=qr (tf:=aa6) (fo:=(1,36)) (fs:=[(0,4),(1,36)]) rfl aBg
theorem aPX:∀f∈([(0,4),(1,36)]:List (Nat×Nat)),(qo Tryz.prog f.2).isSome=true:=by
 intro f hf
 simp only[List.mem_cons,List.not_mem_nil,or_false]at hf
 rcases hf with rfl|rfl
 ·rw[tf4];rfl
 ·rw[aBg];rfl
theorem bb4{ps:List (Nat×AV)}{K:AV→Prop}:@zl Tryz.prog 38 ps ⟨K⟩=@zk (qt Tryz.prog [(0,4),(1,36)]) (zc Xu) ps ⟨fun cs=>K (.ag cs)⟩:=qN ar8 rfl aPX
theorem bdh{K:TI→Prop}:@tyW Tryz.prog 39 ⟨K⟩=K al0:=qi aUD
theorem aIq:al0.kd=Kd.stru [(0,38),(2,3)]:=ID rfl
theorem ath:al0.kd.agg=true:=ID rfl
theorem alZ:al0.size=3:=ID rfl
theorem agB:al0.bytes=40:=ID rfl
theorem aIo:qw al0=True:=eq_true rfl
theorem aIp:zc al0=[.v (Value.bool false),.v (Value.slice none 0 0),.v (Value.int IntKind.i64 0)]:=ID rfl
theorem aLZ{K:Nat→TI→Prop}:@qB Tryz.prog 39 0 ⟨K⟩=K 0 Xu:=qs (ti:=al0) (tf:=Xu) (fo:=(0,38)) (fs:=[(0,38),(2,3)]) aUD rfl rfl ar8
theorem aOY{K:Nat→Nat→Prop}:qt Tryz.prog [(0,38),(2,3)] 0 K=K 0 2:=qr (tf:=Xu) (fo:=(0,38)) (fs:=[(0,38),(2,3)]) rfl ar8
theorem aLY{K:Nat→TI→Prop}:@qB Tryz.prog 39 1 ⟨K⟩=K 2 ti3:=qs (ti:=al0) (tf:=ti3) (fo:=(2,3)) (fs:=[(0,38),(2,3)]) aUD rfl rfl tf3
theorem aOX{K:Nat→Nat→Prop}:qt Tryz.prog [(0,38),(2,3)] 1 K=K 2 1:=qr (tf:=ti3) (fo:=(2,3)) (fs:=[(0,38),(2,3)]) rfl tf3
theorem aPW:∀f∈([(0,38),(2,3)]:List (Nat×Nat)),(qo Tryz.prog f.2).isSome=true:=by
 intro f hf
 simp only[List.mem_cons,List.not_mem_nil,or_false]at hf
 rcases hf with rfl|rfl
 ·rw[ar8];rfl
 ·rw[tf3];rfl
theorem bb3{ps:List (Nat×AV)}{K:AV→Prop}:@zl Tryz.prog 39 ps ⟨K⟩=@zk (qt Tryz.prog [(0,38),(2,3)]) (zc al0) ps ⟨fun cs=>K (.ag cs)⟩:=qN aUD rfl aPW
theorem bdg{K:TI→Prop}:@tyW Tryz.prog 40 ⟨K⟩=K Zp:=qi KW
theorem aIm:Zp.kd=Kd.stru [(0,38),(2,3)]:=ID rfl
theorem atf:Zp.kd.agg=true:=ID rfl
theorem alX:Zp.size=3:=ID rfl
theorem agA:Zp.bytes=40:=ID rfl
theorem aIk:qw Zp=True:=eq_true rfl
theorem aIl:zc Zp=[.v (Value.bool false),.v (Value.slice none 0 0),.v (Value.int IntKind.i64 0)]:=ID rfl
theorem aLX{K:Nat→TI→Prop}:@qB Tryz.prog 40 0 ⟨K⟩=K 0 Xu:=qs (ti:=Zp) (tf:=Xu) (fo:=(0,38)) (fs:=[(0,38),(2,3)]) KW rfl rfl ar8
theorem aOW{K:Nat→Nat→Prop}:qt Tryz.prog [(0,38),(2,3)] 0 K=K 0 2:=qr (tf:=Xu) (fo:=(0,38)) (fs:=[(0,38),(2,3)]) rfl ar8
theorem aLW{K:Nat→TI→Prop}:@qB Tryz.prog 40 1 ⟨K⟩=K 2 ti3:=qs (ti:=Zp) (tf:=ti3) (fo:=(2,3)) (fs:=[(0,38),(2,3)]) KW rfl rfl tf3
theorem aOV{K:Nat→Nat→Prop}:qt Tryz.prog [(0,38),(2,3)] 1 K=K 2 1:=qr (tf:=ti3) (fo:=(2,3)) (fs:=[(0,38),(2,3)]) rfl tf3
theorem aPV:∀f∈([(0,38),(2,3)]:List (Nat×Nat)),(qo Tryz.prog f.2).isSome=true:=by
 intro f hf
 simp only[List.mem_cons,List.not_mem_nil,or_false]at hf
 rcases hf with rfl|rfl
 ·rw[ar8];rfl
 ·rw[tf3];rfl
theorem bb2{ps:List (Nat×AV)}{K:AV→Prop}:@zl Tryz.prog 40 ps ⟨K⟩=@zk (qt Tryz.prog [(0,38),(2,3)]) (zc Zp) ps ⟨fun cs=>K (.ag cs)⟩:=qN KW rfl aPV
theorem bdf{K:TI→Prop}:@tyW Tryz.prog 41 ⟨K⟩=K aEY:=qi bef
theorem aIj:aEY.kd=Kd.oth:=ID rfl
theorem ate:aEY.kd.agg=false:=ID rfl
theorem alW:aEY.size=1:=ID rfl
theorem agz:aEY.bytes=8:=ID rfl
theorem aIh:qw aEY=True:=eq_true rfl
theorem aIi:zc aEY=[.v Value.nilFunc]:=ID rfl
theorem bde{K:TI→Prop}:@tyW Tryz.prog 42 ⟨K⟩=K aEX:=qi bee
theorem aIg:aEX.kd=Kd.oth:=ID rfl
theorem atd:aEX.kd.agg=false:=ID rfl
theorem alV:aEX.size=1:=ID rfl
theorem agy:aEX.bytes=8:=ID rfl
theorem aIe:qw aEX=True:=eq_true rfl
theorem aIf:zc aEX=[.v Value.nilFunc]:=ID rfl
theorem bdd{K:TI→Prop}:@tyW Tryz.prog 44 ⟨K⟩=K aEW:=qi bed
theorem aId:aEW.kd=Kd.oth:=ID rfl
theorem atc:aEW.kd.agg=false:=ID rfl
theorem alU:aEW.size=1:=ID rfl
theorem agx:aEW.bytes=8:=ID rfl
theorem aIb:qw aEW=True:=eq_true rfl
theorem aIc:zc aEW=[.v Value.nilFunc]:=ID rfl
theorem bdc{K:TI→Prop}:@tyW Tryz.prog 46 ⟨K⟩=K aEV:=qi bec
theorem aIa:aEV.kd=Kd.oth:=ID rfl
theorem atb:aEV.kd.agg=false:=ID rfl
theorem alT:aEV.size=1:=ID rfl
theorem agw:aEV.bytes=8:=ID rfl
theorem aH8:qw aEV=True:=eq_true rfl
theorem aH9:zc aEV=[.v Value.nilFunc]:=ID rfl
theorem bdb{K:TI→Prop}:@tyW Tryz.prog 47 ⟨K⟩=K aEU:=qi beb
theorem aH7:aEU.kd=Kd.oth:=ID rfl
theorem ata:aEU.kd.agg=false:=ID rfl
theorem alS:aEU.size=1:=ID rfl
theorem agv:aEU.bytes=8:=ID rfl
theorem aH5:qw aEU=True:=eq_true rfl
theorem aH6:zc aEU=[.v Value.nilFunc]:=ID rfl
theorem bda{K:TI→Prop}:@tyW Tryz.prog 48 ⟨K⟩=K aET:=qi bea
theorem aH4:aET.kd=Kd.oth:=ID rfl
theorem as9:aET.kd.agg=false:=ID rfl
theorem alR:aET.size=1:=ID rfl
theorem agu:aET.bytes=8:=ID rfl
theorem aH2:qw aET=True:=eq_true rfl
theorem aH3:zc aET=[.v Value.nilFunc]:=ID rfl
theorem bc9{K:TI→Prop}:@tyW Tryz.prog 49 ⟨K⟩=K aES:=qi bd9
theorem aH1:aES.kd=Kd.oth:=ID rfl
theorem as8:aES.kd.agg=false:=ID rfl
theorem alQ:aES.size=1:=ID rfl
theorem agt:aES.bytes=8:=ID rfl
theorem aHZ:qw aES=True:=eq_true rfl
theorem aH0:zc aES=[.v Value.nilFunc]:=ID rfl
theorem bc8{K:TI→Prop}:@tyW Tryz.prog 50 ⟨K⟩=K alO:=qi aUC
theorem aHX:alO.kd=Kd.stru [(0,40),(3,40)]:=ID rfl
theorem as6:alO.kd.agg=true:=ID rfl
theorem alN:alO.size=6:=ID rfl
theorem ags:alO.bytes=80:=ID rfl
theorem aHV:qw alO=True:=eq_true rfl
theorem aHW:zc alO=[.v (Value.bool false),.v (Value.slice none 0 0),.v (Value.int IntKind.i64 0),.v (Value.bool false),.v (Value.slice none 0 0),.v (Value.int IntKind.i64 0)]:=ID rfl
theorem aLV{K:Nat→TI→Prop}:@qB Tryz.prog 50 0 ⟨K⟩=K 0 Zp:=qs (ti:=alO) (tf:=Zp) (fo:=(0,40)) (fs:=[(0,40),(3,40)]) aUC rfl rfl KW
theorem aOU{K:Nat→Nat→Prop}:qt Tryz.prog [(0,40),(3,40)] 0 K=K 0 3:=qr (tf:=Zp) (fo:=(0,40)) (fs:=[(0,40),(3,40)]) rfl KW
theorem aLU{K:Nat→TI→Prop}:@qB Tryz.prog 50 1 ⟨K⟩=K 3 Zp:=qs (ti:=alO) (tf:=Zp) (fo:=(3,40)) (fs:=[(0,40),(3,40)]) aUC rfl rfl KW
theorem aOT{K:Nat→Nat→Prop}:qt Tryz.prog [(0,40),(3,40)] 1 K=K 3 3:=qr (tf:=Zp) (fo:=(3,40)) (fs:=[(0,40),(3,40)]) rfl KW
theorem aPU:∀f∈([(0,40),(3,40)]:List (Nat×Nat)),(qo Tryz.prog f.2).isSome=true:=by
 intro f hf
 simp only[List.mem_cons,List.not_mem_nil,or_false]at hf
 rcases hf with rfl|rfl
 ·rw[KW];rfl
 ·rw[KW];rfl
theorem bb1{ps:List (Nat×AV)}{K:AV→Prop}:@zl Tryz.prog 50 ps ⟨K⟩=@zk (qt Tryz.prog [(0,40),(3,40)]) (zc alO) ps ⟨fun cs=>K (.ag cs)⟩:=qN aUC rfl aPU
theorem bc7{K:TI→Prop}:@tyW Tryz.prog 51 ⟨K⟩=K akM:=qi aOe
theorem aHU:akM.kd=Kd.stru [(0,40),(3,40)]:=ID rfl
theorem as5:akM.kd.agg=true:=ID rfl
theorem alM:akM.size=6:=ID rfl
theorem agr:akM.bytes=80:=ID rfl
theorem aHS:qw akM=True:=eq_true rfl
theorem aHT:zc akM=[.v (Value.bool false),.v (Value.slice none 0 0),.v (Value.int IntKind.i64 0),.v (Value.bool false),.v (Value.slice none 0 0),.v (Value.int IntKind.i64 0)]:=ID rfl
theorem aLT{K:Nat→TI→Prop}:@qB Tryz.prog 51 0 ⟨K⟩=K 0 Zp:=qs (ti:=akM) (tf:=Zp) (fo:=(0,40)) (fs:=[(0,40),(3,40)]) aOe rfl rfl KW
theorem aOS{K:Nat→Nat→Prop}:qt Tryz.prog [(0,40),(3,40)] 0 K=K 0 3:=qr (tf:=Zp) (fo:=(0,40)) (fs:=[(0,40),(3,40)]) rfl KW
theorem aLS{K:Nat→TI→Prop}:@qB Tryz.prog 51 1 ⟨K⟩=K 3 Zp:=qs (ti:=akM) (tf:=Zp) (fo:=(3,40)) (fs:=[(0,40),(3,40)]) aOe rfl rfl KW
theorem aOR{K:Nat→Nat→Prop}:qt Tryz.prog [(0,40),(3,40)] 1 K=K 3 3:=qr (tf:=Zp) (fo:=(3,40)) (fs:=[(0,40),(3,40)]) rfl KW
theorem aPT:∀f∈([(0,40),(3,40)]:List (Nat×Nat)),(qo Tryz.prog f.2).isSome=true:=by
 intro f hf
 simp only[List.mem_cons,List.not_mem_nil,or_false]at hf
 rcases hf with rfl|rfl
 ·rw[KW];rfl
 ·rw[KW];rfl
theorem bb0{ps:List (Nat×AV)}{K:AV→Prop}:@zl Tryz.prog 51 ps ⟨K⟩=@zk (qt Tryz.prog [(0,40),(3,40)]) (zc akM) ps ⟨fun cs=>K (.ag cs)⟩:=qN aOe rfl aPT
theorem bc6{K:TI→Prop}:@tyW Tryz.prog 53 ⟨K⟩=K aER:=qi bd8
theorem aHR:aER.kd=Kd.oth:=ID rfl
theorem as4:aER.kd.agg=false:=ID rfl
theorem alL:aER.size=1:=ID rfl
theorem agq:aER.bytes=8:=ID rfl
theorem aHP:qw aER=True:=eq_true rfl
theorem aHQ:zc aER=[.v Value.nilFunc]:=ID rfl
theorem bc5{K:TI→Prop}:@tyW Tryz.prog 55 ⟨K⟩=K aEQ:=qi bd7
theorem aHO:aEQ.kd=Kd.oth:=ID rfl
theorem as3:aEQ.kd.agg=false:=ID rfl
theorem alK:aEQ.size=1:=ID rfl
theorem agp:aEQ.bytes=8:=ID rfl
theorem aHM:qw aEQ=True:=eq_true rfl
theorem aHN:zc aEQ=[.v Value.nilFunc]:=ID rfl
theorem bc4{K:TI→Prop}:@tyW Tryz.prog 56 ⟨K⟩=K aEP:=qi bd6
theorem aHL:aEP.kd=Kd.oth:=ID rfl
theorem as2:aEP.kd.agg=false:=ID rfl
theorem alJ:aEP.size=1:=ID rfl
theorem ago:aEP.bytes=8:=ID rfl
theorem aHJ:qw aEP=True:=eq_true rfl
theorem aHK:zc aEP=[.v Value.nilFunc]:=ID rfl
theorem bc3{K:TI→Prop}:@tyW Tryz.prog 57 ⟨K⟩=K aEO:=qi bd5
theorem aHI:aEO.kd=Kd.oth:=ID rfl
theorem as1:aEO.kd.agg=false:=ID rfl
theorem alI:aEO.size=1:=ID rfl
theorem agn:aEO.bytes=8:=ID rfl
theorem aHG:qw aEO=True:=eq_true rfl
theorem aHH:zc aEO=[.v Value.nilFunc]:=ID rfl
theorem bc2{K:TI→Prop}:@tyW Tryz.prog 58 ⟨K⟩=K aEN:=qi bd4
theorem aHF:aEN.kd=Kd.oth:=ID rfl
theorem as0:aEN.kd.agg=false:=ID rfl
theorem alH:aEN.size=1:=ID rfl
theorem agm:aEN.bytes=8:=ID rfl
theorem aHD:qw aEN=True:=eq_true rfl
theorem aHE:zc aEN=[.v Value.nilFunc]:=ID rfl
theorem bc1{K:TI→Prop}:@tyW Tryz.prog 60 ⟨K⟩=K aEM:=qi bd3
theorem aHB:aEM.kd=Kd.oth:=ID rfl
theorem asY:aEM.kd.agg=false:=ID rfl
theorem alD:aEM.size=1:=ID rfl
theorem agl:aEM.bytes=8:=ID rfl
theorem aHz:qw aEM=True:=eq_true rfl
theorem aHA:zc aEM=[.v Value.nilFunc]:=ID rfl
theorem bc0{K:TI→Prop}:@tyW Tryz.prog 61 ⟨K⟩=K aEL:=qi bd2
theorem aHy:aEL.kd=Kd.oth:=ID rfl
theorem asX:aEL.kd.agg=false:=ID rfl
theorem alC:aEL.size=1:=ID rfl
theorem agk:aEL.bytes=8:=ID rfl
theorem aHw:qw aEL=True:=eq_true rfl
theorem aHx:zc aEL=[.v Value.nilFunc]:=ID rfl
theorem bcZ{K:TI→Prop}:@tyW Tryz.prog 62 ⟨K⟩=K aEK:=qi bd1
theorem aHv:aEK.kd=Kd.oth:=ID rfl
theorem asW:aEK.kd.agg=false:=ID rfl
theorem alB:aEK.size=1:=ID rfl
theorem agj:aEK.bytes=8:=ID rfl
theorem aHt:qw aEK=True:=eq_true rfl
theorem aHu:zc aEK=[.v Value.nilFunc]:=ID rfl
theorem bcY{K:TI→Prop}:@tyW Tryz.prog 63 ⟨K⟩=K aEJ:=qi bd0
theorem aHs:aEJ.kd=Kd.oth:=ID rfl
theorem asV:aEJ.kd.agg=false:=ID rfl
theorem alz:aEJ.size=1:=ID rfl
theorem agi:aEJ.bytes=8:=ID rfl
theorem aHq:qw aEJ=True:=eq_true rfl
theorem aHr:zc aEJ=[.v Value.nilFunc]:=ID rfl
theorem bcX{K:TI→Prop}:@tyW Tryz.prog 64 ⟨K⟩=K aEI:=qi bdZ
theorem aHp:aEI.kd=Kd.oth:=ID rfl
theorem asU:aEI.kd.agg=false:=ID rfl
theorem aly:aEI.size=1:=ID rfl
theorem agh:aEI.bytes=8:=ID rfl
theorem aHn:qw aEI=True:=eq_true rfl
theorem aHo:zc aEI=[.v Value.nilFunc]:=ID rfl
theorem bcW{K:TI→Prop}:@tyW Tryz.prog 65 ⟨K⟩=K aEH:=qi bdY
theorem aHm:aEH.kd=Kd.oth:=ID rfl
theorem asT:aEH.kd.agg=false:=ID rfl
theorem alx:aEH.size=1:=ID rfl
theorem agf:aEH.bytes=8:=ID rfl
theorem aHk:qw aEH=True:=eq_true rfl
theorem aHl:zc aEH=[.v Value.nilFunc]:=ID rfl
theorem bcV{K:TI→Prop}:@tyW Tryz.prog 66 ⟨K⟩=K aEG:=qi bdX
theorem aHj:aEG.kd=Kd.oth:=ID rfl
theorem asS:aEG.kd.agg=false:=ID rfl
theorem alw:aEG.size=1:=ID rfl
theorem age:aEG.bytes=8:=ID rfl
theorem aHh:qw aEG=True:=eq_true rfl
theorem aHi:zc aEG=[.v Value.nilFunc]:=ID rfl
theorem bcU{K:TI→Prop}:@tyW Tryz.prog 68 ⟨K⟩=K aEF:=qi bdW
theorem aHg:aEF.kd=Kd.oth:=ID rfl
theorem asR:aEF.kd.agg=false:=ID rfl
theorem alv:aEF.size=1:=ID rfl
theorem agd:aEF.bytes=8:=ID rfl
theorem aHe:qw aEF=True:=eq_true rfl
theorem aHf:zc aEF=[.v Value.nilFunc]:=ID rfl
theorem bcT{K:TI→Prop}:@tyW Tryz.prog 69 ⟨K⟩=K ae4:=qi aE9
theorem aHd:ae4.kd=Kd.sli 51:=ID rfl
theorem asQ:ae4.kd.agg=false:=ID rfl
theorem alu:ae4.size=1:=ID rfl
theorem agc:ae4.bytes=24:=ID rfl
theorem aHb:qw ae4=True:=eq_true rfl
theorem aHc:zc ae4=[.v (Value.slice none 0 0)]:=ID rfl
theorem aZF{K:TI→Prop}:@yU Tryz.prog 69 ⟨K⟩=K akM:=ZQ aE9 rfl aOe
theorem bcS{K:TI→Prop}:@tyW Tryz.prog 71 ⟨K⟩=K aEE:=qi bdV
theorem aG9:aEE.kd=Kd.oth:=ID rfl
theorem asO:aEE.kd.agg=false:=ID rfl
theorem als:aEE.size=1:=ID rfl
theorem agb:aEE.bytes=8:=ID rfl
theorem aG7:qw aEE=True:=eq_true rfl
theorem aG8:zc aEE=[.v Value.nilFunc]:=ID rfl
theorem bcR{K:TI→Prop}:@tyW Tryz.prog 73 ⟨K⟩=K aED:=qi bdU
theorem aG6:aED.kd=Kd.oth:=ID rfl
theorem asN:aED.kd.agg=false:=ID rfl
theorem alr:aED.size=1:=ID rfl
theorem aga:aED.bytes=8:=ID rfl
theorem aG4:qw aED=True:=eq_true rfl
theorem aG5:zc aED=[.v Value.nilFunc]:=ID rfl
theorem bcQ{K:TI→Prop}:@tyW Tryz.prog 74 ⟨K⟩=K aEC:=qi bdT
theorem aG3:aEC.kd=Kd.oth:=ID rfl
theorem asM:aEC.kd.agg=false:=ID rfl
theorem alq:aEC.size=1:=ID rfl
theorem af9:aEC.bytes=8:=ID rfl
theorem aG1:qw aEC=True:=eq_true rfl
theorem aG2:zc aEC=[.v Value.nilFunc]:=ID rfl
theorem bcP{K:TI→Prop}:@tyW Tryz.prog 75 ⟨K⟩=K aEB:=qi bdS
theorem aG0:aEB.kd=Kd.oth:=ID rfl
theorem asL:aEB.kd.agg=false:=ID rfl
theorem alp:aEB.size=1:=ID rfl
theorem af8:aEB.bytes=8:=ID rfl
theorem aGY:qw aEB=True:=eq_true rfl
theorem aGZ:zc aEB=[.v Value.nilFunc]:=ID rfl
theorem bcO{K:TI→Prop}:@tyW Tryz.prog 77 ⟨K⟩=K aEA:=qi bdR
theorem aGX:aEA.kd=Kd.oth:=ID rfl
theorem asK:aEA.kd.agg=false:=ID rfl
theorem alo:aEA.size=1:=ID rfl
theorem af7:aEA.bytes=8:=ID rfl
theorem aGV:qw aEA=True:=eq_true rfl
theorem aGW:zc aEA=[.v Value.nilFunc]:=ID rfl
theorem bcN{K:TI→Prop}:@tyW Tryz.prog 79 ⟨K⟩=K aEz:=qi bdQ
theorem aGU:aEz.kd=Kd.oth:=ID rfl
theorem asJ:aEz.kd.agg=false:=ID rfl
theorem aln:aEz.size=1:=ID rfl
theorem af6:aEz.bytes=8:=ID rfl
theorem aGS:qw aEz=True:=eq_true rfl
theorem aGT:zc aEz=[.v Value.nilFunc]:=ID rfl
theorem bcM{K:TI→Prop}:@tyW Tryz.prog 80 ⟨K⟩=K aEy:=qi bdP
theorem aGQ:aEy.kd=Kd.oth:=ID rfl
theorem asH:aEy.kd.agg=false:=ID rfl
theorem alk:aEy.size=1:=ID rfl
theorem af5:aEy.bytes=8:=ID rfl
theorem aGO:qw aEy=True:=eq_true rfl
theorem aGP:zc aEy=[.v Value.nilFunc]:=ID rfl
theorem bcL{K:TI→Prop}:@tyW Tryz.prog 81 ⟨K⟩=K alj:=qi aUB
theorem aGN:alj.kd=Kd.stru [(0,3),(1,69)]:=ID rfl
theorem asG:alj.kd.agg=true:=ID rfl
theorem ali:alj.size=2:=ID rfl
theorem af4:alj.bytes=32:=ID rfl
theorem aGL:qw alj=True:=eq_true rfl
theorem aGM:zc alj=[.v (Value.int IntKind.i64 0),.v (Value.slice none 0 0)]:=ID rfl
theorem aLR{K:Nat→TI→Prop}:@qB Tryz.prog 81 0 ⟨K⟩=K 0 ti3:=qs (ti:=alj) (tf:=ti3) (fo:=(0,3)) (fs:=[(0,3),(1,69)]) aUB rfl rfl tf3
theorem aOQ{K:Nat→Nat→Prop}:qt Tryz.prog [(0,3),(1,69)] 0 K=K 0 1:=qr (tf:=ti3) (fo:=(0,3)) (fs:=[(0,3),(1,69)]) rfl tf3
theorem aLQ{K:Nat→TI→Prop}:@qB Tryz.prog 81 1 ⟨K⟩=K 1 ae4:=qs (ti:=alj) (tf:=ae4) (fo:=(1,69)) (fs:=[(0,3),(1,69)]) aUB rfl rfl aE9
theorem aOP{K:Nat→Nat→Prop}:qt Tryz.prog [(0,3),(1,69)] 1 K=K 1 1:=qr (tf:=ae4) (fo:=(1,69)) (fs:=[(0,3),(1,69)]) rfl aE9
theorem aPS:∀f∈([(0,3),(1,69)]:List (Nat×Nat)),(qo Tryz.prog f.2).isSome=true:=by
 intro f hf
 simp only[List.mem_cons,List.not_mem_nil,or_false]at hf
 rcases hf with rfl|rfl
 ·rw[tf3];rfl
 ·rw[aE9];rfl
theorem bbZ{ps:List (Nat×AV)}{K:AV→Prop}:@zl Tryz.prog 81 ps ⟨K⟩=@zk (qt Tryz.prog [(0,3),(1,69)]) (zc alj) ps ⟨fun cs=>K (.ag cs)⟩:=qN aUB rfl aPS
theorem bcK{K:TI→Prop}:@tyW Tryz.prog 82 ⟨K⟩=K alh:=qi aUA
theorem aGK:alh.kd=Kd.stru [(0,3),(1,69)]:=ID rfl
theorem asF:alh.kd.agg=true:=ID rfl
theorem alg:alh.size=2:=ID rfl
theorem af3:alh.bytes=32:=ID rfl
theorem aGI:qw alh=True:=eq_true rfl
theorem aGJ:zc alh=[.v (Value.int IntKind.i64 0),.v (Value.slice none 0 0)]:=ID rfl
theorem aLP{K:Nat→TI→Prop}:@qB Tryz.prog 82 0 ⟨K⟩=K 0 ti3:=qs (ti:=alh) (tf:=ti3) (fo:=(0,3)) (fs:=[(0,3),(1,69)]) aUA rfl rfl tf3
theorem aOO{K:Nat→Nat→Prop}:qt Tryz.prog [(0,3),(1,69)] 0 K=K 0 1:=qr (tf:=ti3) (fo:=(0,3)) (fs:=[(0,3),(1,69)]) rfl tf3
theorem aLO{K:Nat→TI→Prop}:@qB Tryz.prog 82 1 ⟨K⟩=K 1 ae4:=qs (ti:=alh) (tf:=ae4) (fo:=(1,69)) (fs:=[(0,3),(1,69)]) aUA rfl rfl aE9
theorem aON{K:Nat→Nat→Prop}:qt Tryz.prog [(0,3),(1,69)] 1 K=K 1 1:=qr (tf:=ae4) (fo:=(1,69)) (fs:=[(0,3),(1,69)]) rfl aE9
theorem aPR:∀f∈([(0,3),(1,69)]:List (Nat×Nat)),(qo Tryz.prog f.2).isSome=true:=by
 intro f hf
 simp only[List.mem_cons,List.not_mem_nil,or_false]at hf
 rcases hf with rfl|rfl
 ·rw[tf3];rfl
 ·rw[aE9];rfl
theorem bbY{ps:List (Nat×AV)}{K:AV→Prop}:@zl Tryz.prog 82 ps ⟨K⟩=@zk (qt Tryz.prog [(0,3),(1,69)]) (zc alh) ps ⟨fun cs=>K (.ag cs)⟩:=qN aUA rfl aPR
theorem bcJ{K:TI→Prop}:@tyW Tryz.prog 84 ⟨K⟩=K aEx:=qi bdO
theorem aGH:aEx.kd=Kd.oth:=ID rfl
theorem asE:aEx.kd.agg=false:=ID rfl
theorem alf:aEx.size=1:=ID rfl
theorem af2:aEx.bytes=8:=ID rfl
theorem aGF:qw aEx=True:=eq_true rfl
theorem aGG:zc aEx=[.v Value.nilFunc]:=ID rfl
theorem bcI{K:TI→Prop}:@tyW Tryz.prog 86 ⟨K⟩=K aEw:=qi bdN
theorem aGE:aEw.kd=Kd.oth:=ID rfl
theorem asD:aEw.kd.agg=false:=ID rfl
theorem ale:aEw.size=1:=ID rfl
theorem af1:aEw.bytes=8:=ID rfl
theorem aGC:qw aEw=True:=eq_true rfl
theorem aGD:zc aEw=[.v Value.nilFunc]:=ID rfl
theorem bcH{K:TI→Prop}:@tyW Tryz.prog 87 ⟨K⟩=K aEv:=qi bdM
theorem aGB:aEv.kd=Kd.oth:=ID rfl
theorem asC:aEv.kd.agg=false:=ID rfl
theorem ald:aEv.size=1:=ID rfl
theorem af0:aEv.bytes=8:=ID rfl
theorem aGz:qw aEv=True:=eq_true rfl
theorem aGA:zc aEv=[.v Value.nilFunc]:=ID rfl
theorem bcG{K:TI→Prop}:@tyW Tryz.prog 88 ⟨K⟩=K aEu:=qi bdL
theorem aGy:aEu.kd=Kd.oth:=ID rfl
theorem asB:aEu.kd.agg=false:=ID rfl
theorem alc:aEu.size=1:=ID rfl
theorem afZ:aEu.bytes=8:=ID rfl
theorem aGw:qw aEu=True:=eq_true rfl
theorem aGx:zc aEu=[.v Value.nilFunc]:=ID rfl
theorem bcF{K:TI→Prop}:@tyW Tryz.prog 89 ⟨K⟩=K aEt:=qi bdK
theorem aGv:aEt.kd=Kd.oth:=ID rfl
theorem asA:aEt.kd.agg=false:=ID rfl
theorem alb:aEt.size=1:=ID rfl
theorem afY:aEt.bytes=8:=ID rfl
theorem aGt:qw aEt=True:=eq_true rfl
theorem aGu:zc aEt=[.v Value.nilFunc]:=ID rfl
theorem bcE{K:TI→Prop}:@tyW Tryz.prog 91 ⟨K⟩=K aEs:=qi bdJ
theorem aGr:aEs.kd=Kd.oth:=ID rfl
theorem asy:aEs.kd.agg=false:=ID rfl
theorem ak9:aEs.size=1:=ID rfl
theorem afX:aEs.bytes=8:=ID rfl
theorem aGp:qw aEs=True:=eq_true rfl
theorem aGq:zc aEs=[.v Value.nilFunc]:=ID rfl
theorem bcD{K:TI→Prop}:@tyW Tryz.prog 92 ⟨K⟩=K aEr:=qi bdI
theorem aGo:aEr.kd=Kd.oth:=ID rfl
theorem asx:aEr.kd.agg=false:=ID rfl
theorem ak8:aEr.size=1:=ID rfl
theorem afW:aEr.bytes=8:=ID rfl
theorem aGm:qw aEr=True:=eq_true rfl
theorem aGn:zc aEr=[.v Value.nilFunc]:=ID rfl
theorem bcC{K:TI→Prop}:@tyW Tryz.prog 93 ⟨K⟩=K aEq:=qi bdH
theorem aGl:aEq.kd=Kd.oth:=ID rfl
theorem asw:aEq.kd.agg=false:=ID rfl
theorem ak7:aEq.size=1:=ID rfl
theorem afV:aEq.bytes=8:=ID rfl
theorem aGj:qw aEq=True:=eq_true rfl
theorem aGk:zc aEq=[.v Value.nilFunc]:=ID rfl
theorem bcB{K:TI→Prop}:@tyW Tryz.prog 94 ⟨K⟩=K aEp:=qi bdG
theorem aGi:aEp.kd=Kd.oth:=ID rfl
theorem asv:aEp.kd.agg=false:=ID rfl
theorem ak6:aEp.size=1:=ID rfl
theorem afU:aEp.bytes=8:=ID rfl
theorem aGg:qw aEp=True:=eq_true rfl
theorem aGh:zc aEp=[.v Value.nilFunc]:=ID rfl
theorem bcA{K:TI→Prop}:@tyW Tryz.prog 96 ⟨K⟩=K aEo:=qi bdF
theorem aGf:aEo.kd=Kd.oth:=ID rfl
theorem asu:aEo.kd.agg=false:=ID rfl
theorem ak5:aEo.size=1:=ID rfl
theorem afT:aEo.bytes=8:=ID rfl
theorem aGd:qw aEo=True:=eq_true rfl
theorem aGe:zc aEo=[.v Value.nilFunc]:=ID rfl
theorem bcz{K:TI→Prop}:@tyW Tryz.prog 97 ⟨K⟩=K aEn:=qi bdE
theorem aGc:aEn.kd=Kd.oth:=ID rfl
theorem ast:aEn.kd.agg=false:=ID rfl
theorem ak4:aEn.size=1:=ID rfl
theorem afS:aEn.bytes=8:=ID rfl
theorem aGa:qw aEn=True:=eq_true rfl
theorem aGb:zc aEn=[.v Value.nilFunc]:=ID rfl
theorem bcy{K:TI→Prop}:@tyW Tryz.prog 98 ⟨K⟩=K aEm:=qi bdD
theorem aF9:aEm.kd=Kd.oth:=ID rfl
theorem ass:aEm.kd.agg=false:=ID rfl
theorem ak3:aEm.size=1:=ID rfl
theorem afR:aEm.bytes=8:=ID rfl
theorem aF7:qw aEm=True:=eq_true rfl
theorem aF8:zc aEm=[.v Value.nilFunc]:=ID rfl
theorem bcx{K:TI→Prop}:@tyW Tryz.prog 99 ⟨K⟩=K aEl:=qi bdC
theorem aF6:aEl.kd=Kd.oth:=ID rfl
theorem asr:aEl.kd.agg=false:=ID rfl
theorem ak2:aEl.size=1:=ID rfl
theorem afQ:aEl.bytes=8:=ID rfl
theorem aF4:qw aEl=True:=eq_true rfl
theorem aF5:zc aEl=[.v Value.nilFunc]:=ID rfl
theorem aXf{K:TI→Prop}:@tyW Tryz.prog 100 ⟨K⟩=K KS:=qi aZz
theorem aBc:KS.kd=Kd.oth:=ID rfl
theorem aoW:KS.kd.agg=false:=ID rfl
theorem ajq:KS.size=1:=ID rfl
theorem adJ:KS.bytes=8:=ID rfl
theorem aBa:qw KS=True:=eq_true rfl
theorem aBb:zc KS=[.v Value.nilFunc]:=ID rfl
theorem aXe{K:TI→Prop}:@tyW Tryz.prog 101 ⟨K⟩=K KR:=qi aZy
theorem aA9:KR.kd=Kd.oth:=ID rfl
theorem aoV:KR.kd.agg=false:=ID rfl
theorem ajp:KR.size=1:=ID rfl
theorem adI:KR.bytes=8:=ID rfl
theorem aA7:qw KR=True:=eq_true rfl
theorem aA8:zc KR=[.v Value.nilFunc]:=ID rfl
theorem aXd{K:TI→Prop}:@tyW Tryz.prog 102 ⟨K⟩=K KQ:=qi aZx
theorem aA6:KQ.kd=Kd.oth:=ID rfl
theorem aoU:KQ.kd.agg=false:=ID rfl
theorem ajo:KQ.size=1:=ID rfl
theorem adH:KQ.bytes=8:=ID rfl
theorem aA4:qw KQ=True:=eq_true rfl
theorem aA5:zc KQ=[.v Value.nilFunc]:=ID rfl
theorem aXc{K:TI→Prop}:@tyW Tryz.prog 103 ⟨K⟩=K KP:=qi aZw
theorem aA3:KP.kd=Kd.oth:=ID rfl
theorem aoT:KP.kd.agg=false:=ID rfl
theorem ajn:KP.size=1:=ID rfl
theorem adG:KP.bytes=8:=ID rfl
theorem aA1:qw KP=True:=eq_true rfl
theorem aA2:zc KP=[.v Value.nilFunc]:=ID rfl
theorem aXb{K:TI→Prop}:@tyW Tryz.prog 105 ⟨K⟩=K KO:=qi aZv
theorem aA0:KO.kd=Kd.oth:=ID rfl
theorem aoS:KO.kd.agg=false:=ID rfl
theorem ajm:KO.size=1:=ID rfl
theorem adF:KO.bytes=8:=ID rfl
theorem aAY:qw KO=True:=eq_true rfl
theorem aAZ:zc KO=[.v Value.nilFunc]:=ID rfl
theorem aXa{K:TI→Prop}:@tyW Tryz.prog 106 ⟨K⟩=K KN:=qi aZu
theorem aAX:KN.kd=Kd.oth:=ID rfl
theorem aoR:KN.kd.agg=false:=ID rfl
theorem ajl:KN.size=1:=ID rfl
theorem adE:KN.bytes=8:=ID rfl
theorem aAV:qw KN=True:=eq_true rfl
theorem aAW:zc KN=[.v Value.nilFunc]:=ID rfl
theorem aW9{K:TI→Prop}:@tyW Tryz.prog 107 ⟨K⟩=K KM:=qi aZt
theorem aAU:KM.kd=Kd.oth:=ID rfl
theorem aoQ:KM.kd.agg=false:=ID rfl
theorem ajk:KM.size=1:=ID rfl
theorem adD:KM.bytes=8:=ID rfl
theorem aAS:qw KM=True:=eq_true rfl
theorem aAT:zc KM=[.v Value.nilFunc]:=ID rfl
theorem aW8{K:TI→Prop}:@tyW Tryz.prog 108 ⟨K⟩=K KL:=qi aZs
theorem aAR:KL.kd=Kd.oth:=ID rfl
theorem aoP:KL.kd.agg=false:=ID rfl
theorem ajj:KL.size=1:=ID rfl
theorem adC:KL.bytes=8:=ID rfl
theorem aAP:qw KL=True:=eq_true rfl
theorem aAQ:zc KL=[.v Value.nilFunc]:=ID rfl
theorem aW7{K:TI→Prop}:@tyW Tryz.prog 109 ⟨K⟩=K KK:=qi aZr
theorem aAO:KK.kd=Kd.oth:=ID rfl
theorem aoO:KK.kd.agg=false:=ID rfl
theorem aji:KK.size=1:=ID rfl
theorem adB:KK.bytes=8:=ID rfl
theorem aAM:qw KK=True:=eq_true rfl
theorem aAN:zc KK=[.v Value.nilFunc]:=ID rfl
theorem aW6{K:TI→Prop}:@tyW Tryz.prog 110 ⟨K⟩=K KJ:=qi aZq
theorem aAK:KJ.kd=Kd.oth:=ID rfl
theorem aoM:KJ.kd.agg=false:=ID rfl
theorem ajg:KJ.size=1:=ID rfl
theorem adA:KJ.bytes=8:=ID rfl
theorem aAI:qw KJ=True:=eq_true rfl
theorem aAJ:zc KJ=[.v Value.nilFunc]:=ID rfl
theorem aW5{K:TI→Prop}:@tyW Tryz.prog 111 ⟨K⟩=K y3:=qi Yz
theorem aAH:y3.kd=Kd.sli 118:=ID rfl
theorem aoL:y3.kd.agg=false:=ID rfl
theorem ajf:y3.size=1:=ID rfl
theorem adz:y3.bytes=24:=ID rfl
theorem aAF:qw y3=True:=eq_true rfl
theorem aAG:zc y3=[.v (Value.slice none 0 0)]:=ID rfl
theorem aOx{K:TI→Prop}:@yU Tryz.prog 111 ⟨K⟩=K jh:=ZQ Yz rfl yg
theorem aW4{K:TI→Prop}:@tyW Tryz.prog 112 ⟨K⟩=K ZI:=qi aBl
theorem aAE:ZI.kd=Kd.stru [(0,3),(1,111)]:=ID rfl
theorem aoK:ZI.kd.agg=true:=ID rfl
theorem aje:ZI.size=2:=ID rfl
theorem ady:ZI.bytes=32:=ID rfl
theorem aAC:qw ZI=True:=eq_true rfl
theorem aAD:zc ZI=[.v (Value.int IntKind.i64 0),.v (Value.slice none 0 0)]:=ID rfl
theorem aDe{K:Nat→TI→Prop}:@qB Tryz.prog 112 0 ⟨K⟩=K 0 ti3:=qs (ti:=ZI) (tf:=ti3) (fo:=(0,3)) (fs:=[(0,3),(1,111)]) aBl rfl rfl tf3
theorem aKl{K:Nat→Nat→Prop}:qt Tryz.prog [(0,3),(1,111)] 0 K=K 0 1:=qr (tf:=ti3) (fo:=(0,3)) (fs:=[(0,3),(1,111)]) rfl tf3
theorem aDd{K:Nat→TI→Prop}:@qB Tryz.prog 112 1 ⟨K⟩=K 1 y3:=qs (ti:=ZI) (tf:=y3) (fo:=(1,111)) (fs:=[(0,3),(1,111)]) aBl rfl rfl Yz
theorem aKk{K:Nat→Nat→Prop}:qt Tryz.prog [(0,3),(1,111)] 1 K=K 1 1:=qr (tf:=y3) (fo:=(1,111)) (fs:=[(0,3),(1,111)]) rfl Yz
theorem aLI:∀f∈([(0,3),(1,111)]:List (Nat×Nat)),(qo Tryz.prog f.2).isSome=true:=by
 intro f hf
 simp only[List.mem_cons,List.not_mem_nil,or_false]at hf
 rcases hf with rfl|rfl
 ·rw[tf3];rfl
 ·rw[Yz];rfl
theorem aT5{ps:List (Nat×AV)}{K:AV→Prop}:@zl Tryz.prog 112 ps ⟨K⟩=@zk (qt Tryz.prog [(0,3),(1,111)]) (zc ZI) ps ⟨fun cs=>K (.ag cs)⟩:=qN aBl rfl aLI
theorem aW3{K:TI→Prop}:@tyW Tryz.prog 113 ⟨K⟩=K ZH:=qi aBk
theorem aAB:ZH.kd=Kd.stru [(0,3),(1,111)]:=ID rfl
theorem aoJ:ZH.kd.agg=true:=ID rfl
theorem ajd:ZH.size=2:=ID rfl
theorem adx:ZH.bytes=32:=ID rfl
theorem aAz:qw ZH=True:=eq_true rfl
theorem aAA:zc ZH=[.v (Value.int IntKind.i64 0),.v (Value.slice none 0 0)]:=ID rfl
theorem aDc{K:Nat→TI→Prop}:@qB Tryz.prog 113 0 ⟨K⟩=K 0 ti3:=qs (ti:=ZH) (tf:=ti3) (fo:=(0,3)) (fs:=[(0,3),(1,111)]) aBk rfl rfl tf3
theorem aKj{K:Nat→Nat→Prop}:qt Tryz.prog [(0,3),(1,111)] 0 K=K 0 1:=qr (tf:=ti3) (fo:=(0,3)) (fs:=[(0,3),(1,111)]) rfl tf3
theorem aDb{K:Nat→TI→Prop}:@qB Tryz.prog 113 1 ⟨K⟩=K 1 y3:=qs (ti:=ZH) (tf:=y3) (fo:=(1,111)) (fs:=[(0,3),(1,111)]) aBk rfl rfl Yz
theorem aKi{K:Nat→Nat→Prop}:qt Tryz.prog [(0,3),(1,111)] 1 K=K 1 1:=qr (tf:=y3) (fo:=(1,111)) (fs:=[(0,3),(1,111)]) rfl Yz
theorem aLH:∀f∈([(0,3),(1,111)]:List (Nat×Nat)),(qo Tryz.prog f.2).isSome=true:=by
 intro f hf
 simp only[List.mem_cons,List.not_mem_nil,or_false]at hf
 rcases hf with rfl|rfl
 ·rw[tf3];rfl
 ·rw[Yz];rfl
theorem aT4{ps:List (Nat×AV)}{K:AV→Prop}:@zl Tryz.prog 113 ps ⟨K⟩=@zk (qt Tryz.prog [(0,3),(1,111)]) (zc ZH) ps ⟨fun cs=>K (.ag cs)⟩:=qN aBk rfl aLH
theorem aW2{K:TI→Prop}:@tyW Tryz.prog 114 ⟨K⟩=K KI:=qi aZp
theorem aAy:KI.kd=Kd.oth:=ID rfl
theorem aoI:KI.kd.agg=false:=ID rfl
theorem ajc:KI.size=1:=ID rfl
theorem adw:KI.bytes=8:=ID rfl
theorem aAw:qw KI=True:=eq_true rfl
theorem aAx:zc KI=[.v Value.nilFunc]:=ID rfl
theorem aW1{K:TI→Prop}:@tyW Tryz.prog 115 ⟨K⟩=K KH:=qi aZo
theorem aAv:KH.kd=Kd.oth:=ID rfl
theorem aoH:KH.kd.agg=false:=ID rfl
theorem ajb:KH.size=1:=ID rfl
theorem adv:KH.bytes=8:=ID rfl
theorem aAt:qw KH=True:=eq_true rfl
theorem aAu:zc KH=[.v Value.nilFunc]:=ID rfl
theorem aW0{K:TI→Prop}:@tyW Tryz.prog 116 ⟨K⟩=K KG:=qi aZn
theorem aAs:KG.kd=Kd.oth:=ID rfl
theorem aoG:KG.kd.agg=false:=ID rfl
theorem aja:KG.size=1:=ID rfl
theorem adu:KG.bytes=8:=ID rfl
theorem aAq:qw KG=True:=eq_true rfl
theorem aAr:zc KG=[.v Value.nilFunc]:=ID rfl
theorem aWZ{K:TI→Prop}:@tyW Tryz.prog 117 ⟨K⟩=K Zf:=qi ao2
theorem aAp:Zf.kd=Kd.stru [(0,4),(1,34),(2,3)]:=ID rfl
theorem aoF:Zf.kd.agg=true:=ID rfl
theorem ai9:Zf.size=3:=ID rfl
theorem adt:Zf.bytes=40:=ID rfl
theorem aAn:qw Zf=True:=eq_true rfl
theorem aAo:zc Zf=[.v (Value.bool false),.v (Value.slice none 0 0),.v (Value.int IntKind.i64 0)]:=ID rfl
theorem aDa{K:Nat→TI→Prop}:@qB Tryz.prog 117 0 ⟨K⟩=K 0 ti4:=qs (ti:=Zf) (tf:=ti4) (fo:=(0,4)) (fs:=[(0,4),(1,34),(2,3)]) ao2 rfl rfl tf4
theorem aKh{K:Nat→Nat→Prop}:qt Tryz.prog [(0,4),(1,34),(2,3)] 0 K=K 0 1:=qr (tf:=ti4) (fo:=(0,4)) (fs:=[(0,4),(1,34),(2,3)]) rfl tf4
theorem aC9{K:Nat→TI→Prop}:@qB Tryz.prog 117 1 ⟨K⟩=K 1 JS:=qs (ti:=Zf) (tf:=JS) (fo:=(1,34)) (fs:=[(0,4),(1,34),(2,3)]) ao2 rfl rfl ae7
theorem aKg{K:Nat→Nat→Prop}:qt Tryz.prog [(0,4),(1,34),(2,3)] 1 K=K 1 1:=qr (tf:=JS) (fo:=(1,34)) (fs:=[(0,4),(1,34),(2,3)]) rfl ae7
theorem aC8{K:Nat→TI→Prop}:@qB Tryz.prog 117 2 ⟨K⟩=K 2 ti3:=qs (ti:=Zf) (tf:=ti3) (fo:=(2,3)) (fs:=[(0,4),(1,34),(2,3)]) ao2 rfl rfl tf3
theorem aKf{K:Nat→Nat→Prop}:qt Tryz.prog [(0,4),(1,34),(2,3)] 2 K=K 2 1:=qr (tf:=ti3) (fo:=(2,3)) (fs:=[(0,4),(1,34),(2,3)]) rfl tf3
theorem aLG:∀f∈([(0,4),(1,34),(2,3)]:List (Nat×Nat)),(qo Tryz.prog f.2).isSome=true:=by
 intro f hf
 simp only[List.mem_cons,List.not_mem_nil,or_false]at hf
 rcases hf with rfl|rfl|rfl
 ·rw[tf4];rfl
 ·rw[ae7];rfl
 ·rw[tf3];rfl
theorem aT3{ps:List (Nat×AV)}{K:AV→Prop}:@zl Tryz.prog 117 ps ⟨K⟩=@zk (qt Tryz.prog [(0,4),(1,34),(2,3)]) (zc Zf) ps ⟨fun cs=>K (.ag cs)⟩:=qN ao2 rfl aLG
theorem aWY{K:TI→Prop}:@tyW Tryz.prog 118 ⟨K⟩=K jh:=qi yg
theorem aAm:jh.kd=Kd.stru [(0,4),(1,34),(2,3)]:=ID rfl
theorem aoE:jh.kd.agg=true:=ID rfl
theorem ai8:jh.size=3:=ID rfl
theorem ads:jh.bytes=40:=ID rfl
theorem aAk:qw jh=True:=eq_true rfl
theorem aAl:zc jh=[.v (Value.bool false),.v (Value.slice none 0 0),.v (Value.int IntKind.i64 0)]:=ID rfl
theorem aC7{K:Nat→TI→Prop}:@qB Tryz.prog 118 0 ⟨K⟩=K 0 ti4:=qs (ti:=jh) (tf:=ti4) (fo:=(0,4)) (fs:=[(0,4),(1,34),(2,3)]) yg rfl rfl tf4
theorem aKe{K:Nat→Nat→Prop}:qt Tryz.prog [(0,4),(1,34),(2,3)] 0 K=K 0 1:=qr (tf:=ti4) (fo:=(0,4)) (fs:=[(0,4),(1,34),(2,3)]) rfl tf4
theorem aC6{K:Nat→TI→Prop}:@qB Tryz.prog 118 1 ⟨K⟩=K 1 JS:=qs (ti:=jh) (tf:=JS) (fo:=(1,34)) (fs:=[(0,4),(1,34),(2,3)]) yg rfl rfl ae7
theorem aKd{K:Nat→Nat→Prop}:qt Tryz.prog [(0,4),(1,34),(2,3)] 1 K=K 1 1:=qr (tf:=JS) (fo:=(1,34)) (fs:=[(0,4),(1,34),(2,3)]) rfl ae7
theorem aC5{K:Nat→TI→Prop}:@qB Tryz.prog 118 2 ⟨K⟩=K 2 ti3:=qs (ti:=jh) (tf:=ti3) (fo:=(2,3)) (fs:=[(0,4),(1,34),(2,3)]) yg rfl rfl tf3
theorem aKc{K:Nat→Nat→Prop}:qt Tryz.prog [(0,4),(1,34),(2,3)] 2 K=K 2 1:=qr (tf:=ti3) (fo:=(2,3)) (fs:=[(0,4),(1,34),(2,3)]) rfl tf3
theorem aLF:∀f∈([(0,4),(1,34),(2,3)]:List (Nat×Nat)),(qo Tryz.prog f.2).isSome=true:=by
 intro f hf
 simp only[List.mem_cons,List.not_mem_nil,or_false]at hf
 rcases hf with rfl|rfl|rfl
 ·rw[tf4];rfl
 ·rw[ae7];rfl
 ·rw[tf3];rfl
theorem aT2{ps:List (Nat×AV)}{K:AV→Prop}:@zl Tryz.prog 118 ps ⟨K⟩=@zk (qt Tryz.prog [(0,4),(1,34),(2,3)]) (zc jh) ps ⟨fun cs=>K (.ag cs)⟩:=qN yg rfl aLF
theorem aWX{K:TI→Prop}:@tyW Tryz.prog 119 ⟨K⟩=K KF:=qi aZm
theorem aAj:KF.kd=Kd.oth:=ID rfl
theorem aoD:KF.kd.agg=false:=ID rfl
theorem ai7:KF.size=1:=ID rfl
theorem adr:KF.bytes=8:=ID rfl
theorem aAh:qw KF=True:=eq_true rfl
theorem aAi:zc KF=[.v Value.nilFunc]:=ID rfl
theorem aWW{K:TI→Prop}:@tyW Tryz.prog 120 ⟨K⟩=K KE:=qi aZl
theorem aAf:KE.kd=Kd.oth:=ID rfl
theorem aoB:KE.kd.agg=false:=ID rfl
theorem ai5:KE.size=1:=ID rfl
theorem adq:KE.bytes=8:=ID rfl
theorem aAd:qw KE=True:=eq_true rfl
theorem aAe:zc KE=[.v Value.nilFunc]:=ID rfl
theorem aWV{K:TI→Prop}:@tyW Tryz.prog 121 ⟨K⟩=K KD:=qi aZk
theorem aAc:KD.kd=Kd.oth:=ID rfl
theorem aoA:KD.kd.agg=false:=ID rfl
theorem ai4:KD.size=1:=ID rfl
theorem adp:KD.bytes=8:=ID rfl
theorem aAa:qw KD=True:=eq_true rfl
theorem aAb:zc KD=[.v Value.nilFunc]:=ID rfl
theorem aWU{K:TI→Prop}:@tyW Tryz.prog 122 ⟨K⟩=K KC:=qi aZj
theorem az9:KC.kd=Kd.oth:=ID rfl
theorem aoz:KC.kd.agg=false:=ID rfl
theorem ai3:KC.size=1:=ID rfl
theorem ado:KC.bytes=8:=ID rfl
theorem az7:qw KC=True:=eq_true rfl
theorem az8:zc KC=[.v Value.nilFunc]:=ID rfl
theorem aWT{K:TI→Prop}:@tyW Tryz.prog 123 ⟨K⟩=K KB:=qi aZi
theorem az6:KB.kd=Kd.oth:=ID rfl
theorem aoy:KB.kd.agg=false:=ID rfl
theorem ai2:KB.size=1:=ID rfl
theorem adn:KB.bytes=8:=ID rfl
theorem az4:qw KB=True:=eq_true rfl
theorem az5:zc KB=[.v Value.nilFunc]:=ID rfl
theorem aWS{K:TI→Prop}:@tyW Tryz.prog 124 ⟨K⟩=K KA:=qi aZh
theorem az3:KA.kd=Kd.oth:=ID rfl
theorem aox:KA.kd.agg=false:=ID rfl
theorem ai1:KA.size=1:=ID rfl
theorem adm:KA.bytes=8:=ID rfl
theorem az1:qw KA=True:=eq_true rfl
theorem az2:zc KA=[.v Value.nilFunc]:=ID rfl
theorem aWR{K:TI→Prop}:@tyW Tryz.prog 125 ⟨K⟩=K Kw:=qi aZg
theorem az0:Kw.kd=Kd.oth:=ID rfl
theorem aow:Kw.kd.agg=false:=ID rfl
theorem ai0:Kw.size=1:=ID rfl
theorem adl:Kw.bytes=8:=ID rfl
theorem azY:qw Kw=True:=eq_true rfl
theorem azZ:zc Kw=[.v Value.nilFunc]:=ID rfl
theorem aWQ{K:TI→Prop}:@tyW Tryz.prog 126 ⟨K⟩=K Kv:=qi aZf
theorem azX:Kv.kd=Kd.oth:=ID rfl
theorem aov:Kv.kd.agg=false:=ID rfl
theorem aiZ:Kv.size=1:=ID rfl
theorem adk:Kv.bytes=8:=ID rfl
theorem azV:qw Kv=True:=eq_true rfl
theorem azW:zc Kv=[.v Value.nilFunc]:=ID rfl
theorem aWP{K:TI→Prop}:@tyW Tryz.prog 127 ⟨K⟩=K Ku:=qi aZe
theorem azU:Ku.kd=Kd.oth:=ID rfl
theorem aou:Ku.kd.agg=false:=ID rfl
theorem aiY:Ku.size=1:=ID rfl
theorem adj:Ku.bytes=8:=ID rfl
theorem azS:qw Ku=True:=eq_true rfl
theorem azT:zc Ku=[.v Value.nilFunc]:=ID rfl
theorem aWO{K:TI→Prop}:@tyW Tryz.prog 128 ⟨K⟩=K Kt:=qi aZd
theorem azR:Kt.kd=Kd.oth:=ID rfl
theorem aot:Kt.kd.agg=false:=ID rfl
theorem aiX:Kt.size=1:=ID rfl
theorem adi:Kt.bytes=8:=ID rfl
theorem azP:qw Kt=True:=eq_true rfl
theorem azQ:zc Kt=[.v Value.nilFunc]:=ID rfl
theorem aWN{K:TI→Prop}:@tyW Tryz.prog 129 ⟨K⟩=K Ks:=qi aZc
theorem azO:Ks.kd=Kd.oth:=ID rfl
theorem aos:Ks.kd.agg=false:=ID rfl
theorem aiW:Ks.size=1:=ID rfl
theorem adh:Ks.bytes=8:=ID rfl
theorem azM:qw Ks=True:=eq_true rfl
theorem azN:zc Ks=[.v Value.nilFunc]:=ID rfl
theorem aWM{K:TI→Prop}:@tyW Tryz.prog 130 ⟨K⟩=K Kr:=qi aZb
theorem azK:Kr.kd=Kd.oth:=ID rfl
theorem aoq:Kr.kd.agg=false:=ID rfl
theorem aiU:Kr.size=1:=ID rfl
theorem adg:Kr.bytes=8:=ID rfl
theorem azI:qw Kr=True:=eq_true rfl
theorem azJ:zc Kr=[.v Value.nilFunc]:=ID rfl
theorem aWL{K:TI→Prop}:@tyW Tryz.prog 131 ⟨K⟩=K Kq:=qi aZa
theorem azH:Kq.kd=Kd.oth:=ID rfl
theorem aop:Kq.kd.agg=false:=ID rfl
theorem aiT:Kq.size=1:=ID rfl
theorem adf:Kq.bytes=8:=ID rfl
theorem azF:qw Kq=True:=eq_true rfl
theorem azG:zc Kq=[.v Value.nilFunc]:=ID rfl
theorem aWK{K:TI→Prop}:@tyW Tryz.prog 132 ⟨K⟩=K ZG:=qi aBj
theorem azE:ZG.kd=Kd.stru [(0,118),(3,118)]:=ID rfl
theorem aoo:ZG.kd.agg=true:=ID rfl
theorem aiS:ZG.size=6:=ID rfl
theorem ade:ZG.bytes=80:=ID rfl
theorem azC:qw ZG=True:=eq_true rfl
theorem azD:zc ZG=[.v (Value.bool false),.v (Value.slice none 0 0),.v (Value.int IntKind.i64 0),.v (Value.bool false),.v (Value.slice none 0 0),.v (Value.int IntKind.i64 0)]:=ID rfl
theorem aC4{K:Nat→TI→Prop}:@qB Tryz.prog 132 0 ⟨K⟩=K 0 jh:=qs (ti:=ZG) (tf:=jh) (fo:=(0,118)) (fs:=[(0,118),(3,118)]) aBj rfl rfl yg
theorem aKb{K:Nat→Nat→Prop}:qt Tryz.prog [(0,118),(3,118)] 0 K=K 0 3:=qr (tf:=jh) (fo:=(0,118)) (fs:=[(0,118),(3,118)]) rfl yg
theorem aC3{K:Nat→TI→Prop}:@qB Tryz.prog 132 1 ⟨K⟩=K 3 jh:=qs (ti:=ZG) (tf:=jh) (fo:=(3,118)) (fs:=[(0,118),(3,118)]) aBj rfl rfl yg
theorem aKa{K:Nat→Nat→Prop}:qt Tryz.prog [(0,118),(3,118)] 1 K=K 3 3:=qr (tf:=jh) (fo:=(3,118)) (fs:=[(0,118),(3,118)]) rfl yg
theorem aLE:∀f∈([(0,118),(3,118)]:List (Nat×Nat)),(qo Tryz.prog f.2).isSome=true:=by
 intro f hf
 simp only[List.mem_cons,List.not_mem_nil,or_false]at hf
 rcases hf with rfl|rfl
 ·rw[yg];rfl
 ·rw[yg];rfl
theorem aT1{ps:List (Nat×AV)}{K:AV→Prop}:@zl Tryz.prog 132 ps ⟨K⟩=@zk (qt Tryz.prog [(0,118),(3,118)]) (zc ZG) ps ⟨fun cs=>K (.ag cs)⟩:=qN aBj rfl aLE
theorem aWJ{K:TI→Prop}:@tyW Tryz.prog 133 ⟨K⟩=K Ze:=qi ao1
theorem azB:Ze.kd=Kd.stru [(0,118),(3,118)]:=ID rfl
theorem aon:Ze.kd.agg=true:=ID rfl
theorem aiR:Ze.size=6:=ID rfl
theorem adc:Ze.bytes=80:=ID rfl
theorem azz:qw Ze=True:=eq_true rfl
theorem azA:zc Ze=[.v (Value.bool false),.v (Value.slice none 0 0),.v (Value.int IntKind.i64 0),.v (Value.bool false),.v (Value.slice none 0 0),.v (Value.int IntKind.i64 0)]:=ID rfl
theorem aC2{K:Nat→TI→Prop}:@qB Tryz.prog 133 0 ⟨K⟩=K 0 jh:=qs (ti:=Ze) (tf:=jh) (fo:=(0,118)) (fs:=[(0,118),(3,118)]) ao1 rfl rfl yg
theorem aJ9{K:Nat→Nat→Prop}:qt Tryz.prog [(0,118),(3,118)] 0 K=K 0 3:=qr (tf:=jh) (fo:=(0,118)) (fs:=[(0,118),(3,118)]) rfl yg
theorem aC1{K:Nat→TI→Prop}:@qB Tryz.prog 133 1 ⟨K⟩=K 3 jh:=qs (ti:=Ze) (tf:=jh) (fo:=(3,118)) (fs:=[(0,118),(3,118)]) ao1 rfl rfl yg
theorem aJ8{K:Nat→Nat→Prop}:qt Tryz.prog [(0,118),(3,118)] 1 K=K 3 3:=qr (tf:=jh) (fo:=(3,118)) (fs:=[(0,118),(3,118)]) rfl yg
theorem aLD:∀f∈([(0,118),(3,118)]:List (Nat×Nat)),(qo Tryz.prog f.2).isSome=true:=by
 intro f hf
 simp only[List.mem_cons,List.not_mem_nil,or_false]at hf
 rcases hf with rfl|rfl
 ·rw[yg];rfl
 ·rw[yg];rfl
theorem aT0{ps:List (Nat×AV)}{K:AV→Prop}:@zl Tryz.prog 133 ps ⟨K⟩=@zk (qt Tryz.prog [(0,118),(3,118)]) (zc Ze) ps ⟨fun cs=>K (.ag cs)⟩:=qN ao1 rfl aLD
theorem aWI{K:TI→Prop}:@tyW Tryz.prog 134 ⟨K⟩=K Kp:=qi aY9
theorem azy:Kp.kd=Kd.oth:=ID rfl
theorem aom:Kp.kd.agg=false:=ID rfl
theorem aiQ:Kp.size=1:=ID rfl
theorem adb:Kp.bytes=8:=ID rfl
theorem azw:qw Kp=True:=eq_true rfl
theorem azx:zc Kp=[.v Value.nilFunc]:=ID rfl
theorem aWH{K:TI→Prop}:@tyW Tryz.prog 135 ⟨K⟩=K Ko:=qi aY8
theorem azv:Ko.kd=Kd.oth:=ID rfl
theorem aol:Ko.kd.agg=false:=ID rfl
theorem aiP:Ko.size=1:=ID rfl
theorem ada:Ko.bytes=8:=ID rfl
theorem azt:qw Ko=True:=eq_true rfl
theorem azu:zc Ko=[.v Value.nilFunc]:=ID rfl
theorem aWG{K:TI→Prop}:@tyW Tryz.prog 136 ⟨K⟩=K Kn:=qi aY7
theorem azs:Kn.kd=Kd.oth:=ID rfl
theorem aok:Kn.kd.agg=false:=ID rfl
theorem aiO:Kn.size=1:=ID rfl
theorem ac9:Kn.bytes=8:=ID rfl
theorem azq:qw Kn=True:=eq_true rfl
theorem azr:zc Kn=[.v Value.nilFunc]:=ID rfl
theorem aWF{K:TI→Prop}:@tyW Tryz.prog 137 ⟨K⟩=K Km:=qi aY6
theorem azp:Km.kd=Kd.oth:=ID rfl
theorem aoj:Km.kd.agg=false:=ID rfl
theorem aiN:Km.size=1:=ID rfl
theorem ac8:Km.bytes=8:=ID rfl
theorem azn:qw Km=True:=eq_true rfl
theorem azo:zc Km=[.v Value.nilFunc]:=ID rfl
theorem aWE{K:TI→Prop}:@tyW Tryz.prog 138 ⟨K⟩=K Kl:=qi aY5
theorem azm:Kl.kd=Kd.oth:=ID rfl
theorem aoi:Kl.kd.agg=false:=ID rfl
theorem aiM:Kl.size=1:=ID rfl
theorem ac7:Kl.bytes=8:=ID rfl
theorem azk:qw Kl=True:=eq_true rfl
theorem azl:zc Kl=[.v Value.nilFunc]:=ID rfl
theorem aWD{K:TI→Prop}:@tyW Tryz.prog 139 ⟨K⟩=K Kk:=qi aY4
theorem azj:Kk.kd=Kd.oth:=ID rfl
theorem aoh:Kk.kd.agg=false:=ID rfl
theorem aiL:Kk.size=1:=ID rfl
theorem ac6:Kk.bytes=8:=ID rfl
theorem azh:qw Kk=True:=eq_true rfl
theorem azi:zc Kk=[.v Value.nilFunc]:=ID rfl
theorem aWC{K:TI→Prop}:@tyW Tryz.prog 140 ⟨K⟩=K Kj:=qi aY3
theorem azg:Kj.kd=Kd.oth:=ID rfl
theorem aog:Kj.kd.agg=false:=ID rfl
theorem aiK:Kj.size=1:=ID rfl
theorem ac5:Kj.bytes=8:=ID rfl
theorem aze:qw Kj=True:=eq_true rfl
theorem azf:zc Kj=[.v Value.nilFunc]:=ID rfl
theorem aWB{K:TI→Prop}:@tyW Tryz.prog 142 ⟨K⟩=K Ki:=qi aY2
theorem azd:Ki.kd=Kd.oth:=ID rfl
theorem aof:Ki.kd.agg=false:=ID rfl
theorem aiJ:Ki.size=1:=ID rfl
theorem ac4:Ki.bytes=8:=ID rfl
theorem azb:qw Ki=True:=eq_true rfl
theorem azc:zc Ki=[.v Value.nilFunc]:=ID rfl
theorem aWA{K:TI→Prop}:@tyW Tryz.prog 143 ⟨K⟩=K Kh:=qi aY1
theorem aza:Kh.kd=Kd.oth:=ID rfl
theorem aoe:Kh.kd.agg=false:=ID rfl
theorem aiI:Kh.size=1:=ID rfl
theorem ac3:Kh.bytes=8:=ID rfl
theorem ay8:qw Kh=True:=eq_true rfl
theorem ay9:zc Kh=[.v Value.nilFunc]:=ID rfl
theorem aWz{K:TI→Prop}:@tyW Tryz.prog 144 ⟨K⟩=K Kg:=qi aY0
theorem ay7:Kg.kd=Kd.oth:=ID rfl
theorem aod:Kg.kd.agg=false:=ID rfl
theorem aiH:Kg.size=1:=ID rfl
theorem ac2:Kg.bytes=8:=ID rfl
theorem ay5:qw Kg=True:=eq_true rfl
theorem ay6:zc Kg=[.v Value.nilFunc]:=ID rfl
theorem aWy{K:TI→Prop}:@tyW Tryz.prog 145 ⟨K⟩=K Kf:=qi aYZ
theorem ay4:Kf.kd=Kd.oth:=ID rfl
theorem aoc:Kf.kd.agg=false:=ID rfl
theorem aiG:Kf.size=1:=ID rfl
theorem ac1:Kf.bytes=8:=ID rfl
theorem ay2:qw Kf=True:=eq_true rfl
theorem ay3:zc Kf=[.v Value.nilFunc]:=ID rfl
theorem aWx{K:TI→Prop}:@tyW Tryz.prog 146 ⟨K⟩=K Ke:=qi aYY
theorem ay1:Ke.kd=Kd.oth:=ID rfl
theorem aob:Ke.kd.agg=false:=ID rfl
theorem aiF:Ke.size=1:=ID rfl
theorem ac0:Ke.bytes=8:=ID rfl
theorem ayZ:qw Ke=True:=eq_true rfl
theorem ay0:zc Ke=[.v Value.nilFunc]:=ID rfl
theorem aWw{K:TI→Prop}:@tyW Tryz.prog 147 ⟨K⟩=K Kc:=qi aYX
theorem ayY:Kc.kd=Kd.oth:=ID rfl
theorem aoa:Kc.kd.agg=false:=ID rfl
theorem aiE:Kc.size=1:=ID rfl
theorem acZ:Kc.bytes=8:=ID rfl
theorem ayW:qw Kc=True:=eq_true rfl
theorem ayX:zc Kc=[.v Value.nilFunc]:=ID rfl
theorem aWv{K:TI→Prop}:@tyW Tryz.prog 148 ⟨K⟩=K Kb:=qi aYW
theorem ayV:Kb.kd=Kd.oth:=ID rfl
theorem an9:Kb.kd.agg=false:=ID rfl
theorem aiD:Kb.size=1:=ID rfl
theorem acY:Kb.bytes=8:=ID rfl
theorem ayT:qw Kb=True:=eq_true rfl
theorem ayU:zc Kb=[.v Value.nilFunc]:=ID rfl
theorem aWu{K:TI→Prop}:@tyW Tryz.prog 149 ⟨K⟩=K Ka:=qi aYV
theorem ayS:Ka.kd=Kd.oth:=ID rfl
theorem an8:Ka.kd.agg=false:=ID rfl
theorem aiC:Ka.size=1:=ID rfl
theorem acX:Ka.bytes=8:=ID rfl
theorem ayQ:qw Ka=True:=eq_true rfl
theorem ayR:zc Ka=[.v Value.nilFunc]:=ID rfl
theorem aWt{K:TI→Prop}:@tyW Tryz.prog 151 ⟨K⟩=K V9:=qi aYU
theorem ayP:V9.kd=Kd.oth:=ID rfl
theorem an7:V9.kd.agg=false:=ID rfl
theorem aiB:V9.size=1:=ID rfl
theorem acW:V9.bytes=8:=ID rfl
theorem ayN:qw V9=True:=eq_true rfl
theorem ayO:zc V9=[.v Value.nilFunc]:=ID rfl
theorem aWs{K:TI→Prop}:@tyW Tryz.prog 152 ⟨K⟩=K V8:=qi aYT
theorem ayM:V8.kd=Kd.oth:=ID rfl
theorem an6:V8.kd.agg=false:=ID rfl
theorem aiA:V8.size=1:=ID rfl
theorem acV:V8.bytes=8:=ID rfl
theorem ayK:qw V8=True:=eq_true rfl
theorem ayL:zc V8=[.v Value.nilFunc]:=ID rfl
theorem aWr{K:TI→Prop}:@tyW Tryz.prog 153 ⟨K⟩=K Qd:=qi KX
theorem ayJ:Qd.kd=Kd.sli 133:=ID rfl
theorem an5:Qd.kd.agg=false:=ID rfl
theorem aiz:Qd.size=1:=ID rfl
theorem acU:Qd.bytes=24:=ID rfl
theorem ayH:qw Qd=True:=eq_true rfl
theorem ayI:zc Qd=[.v (Value.slice none 0 0)]:=ID rfl
theorem aOw{K:TI→Prop}:@yU Tryz.prog 153 ⟨K⟩=K Ze:=ZQ KX rfl ao1
theorem aWq{K:TI→Prop}:@tyW Tryz.prog 154 ⟨K⟩=K ZF:=qi aBi
theorem ayG:ZF.kd=Kd.stru [(0,3),(1,153)]:=ID rfl
theorem an4:ZF.kd.agg=true:=ID rfl
theorem aiy:ZF.size=2:=ID rfl
theorem acT:ZF.bytes=32:=ID rfl
theorem ayE:qw ZF=True:=eq_true rfl
theorem ayF:zc ZF=[.v (Value.int IntKind.i64 0),.v (Value.slice none 0 0)]:=ID rfl
theorem aC0{K:Nat→TI→Prop}:@qB Tryz.prog 154 0 ⟨K⟩=K 0 ti3:=qs (ti:=ZF) (tf:=ti3) (fo:=(0,3)) (fs:=[(0,3),(1,153)]) aBi rfl rfl tf3
theorem aJ7{K:Nat→Nat→Prop}:qt Tryz.prog [(0,3),(1,153)] 0 K=K 0 1:=qr (tf:=ti3) (fo:=(0,3)) (fs:=[(0,3),(1,153)]) rfl tf3
theorem aCZ{K:Nat→TI→Prop}:@qB Tryz.prog 154 1 ⟨K⟩=K 1 Qd:=qs (ti:=ZF) (tf:=Qd) (fo:=(1,153)) (fs:=[(0,3),(1,153)]) aBi rfl rfl KX
theorem aJ6{K:Nat→Nat→Prop}:qt Tryz.prog [(0,3),(1,153)] 1 K=K 1 1:=qr (tf:=Qd) (fo:=(1,153)) (fs:=[(0,3),(1,153)]) rfl KX
theorem aLC:∀f∈([(0,3),(1,153)]:List (Nat×Nat)),(qo Tryz.prog f.2).isSome=true:=by
 intro f hf
 simp only[List.mem_cons,List.not_mem_nil,or_false]at hf
 rcases hf with rfl|rfl
 ·rw[tf3];rfl
 ·rw[KX];rfl
theorem aTZ{ps:List (Nat×AV)}{K:AV→Prop}:@zl Tryz.prog 154 ps ⟨K⟩=@zk (qt Tryz.prog [(0,3),(1,153)]) (zc ZF) ps ⟨fun cs=>K (.ag cs)⟩:=qN aBi rfl aLC
theorem aWp{K:TI→Prop}:@tyW Tryz.prog 155 ⟨K⟩=K ZE:=qi aBh
theorem ayD:ZE.kd=Kd.stru [(0,3),(1,153)]:=ID rfl
theorem an3:ZE.kd.agg=true:=ID rfl
theorem aix:ZE.size=2:=ID rfl
theorem acS:ZE.bytes=32:=ID rfl
theorem ayB:qw ZE=True:=eq_true rfl
theorem ayC:zc ZE=[.v (Value.int IntKind.i64 0),.v (Value.slice none 0 0)]:=ID rfl
theorem aCY{K:Nat→TI→Prop}:@qB Tryz.prog 155 0 ⟨K⟩=K 0 ti3:=qs (ti:=ZE) (tf:=ti3) (fo:=(0,3)) (fs:=[(0,3),(1,153)]) aBh rfl rfl tf3
theorem aJ5{K:Nat→Nat→Prop}:qt Tryz.prog [(0,3),(1,153)] 0 K=K 0 1:=qr (tf:=ti3) (fo:=(0,3)) (fs:=[(0,3),(1,153)]) rfl tf3
theorem aCX{K:Nat→TI→Prop}:@qB Tryz.prog 155 1 ⟨K⟩=K 1 Qd:=qs (ti:=ZE) (tf:=Qd) (fo:=(1,153)) (fs:=[(0,3),(1,153)]) aBh rfl rfl KX
theorem aJ4{K:Nat→Nat→Prop}:qt Tryz.prog [(0,3),(1,153)] 1 K=K 1 1:=qr (tf:=Qd) (fo:=(1,153)) (fs:=[(0,3),(1,153)]) rfl KX
theorem aLB:∀f∈([(0,3),(1,153)]:List (Nat×Nat)),(qo Tryz.prog f.2).isSome=true:=by
 intro f hf
 simp only[List.mem_cons,List.not_mem_nil,or_false]at hf
 rcases hf with rfl|rfl
 ·rw[tf3];rfl
 ·rw[KX];rfl
theorem aTY{ps:List (Nat×AV)}{K:AV→Prop}:@zl Tryz.prog 155 ps ⟨K⟩=@zk (qt Tryz.prog [(0,3),(1,153)]) (zc ZE) ps ⟨fun cs=>K (.ag cs)⟩:=qN aBh rfl aLB
theorem aWo{K:TI→Prop}:@tyW Tryz.prog 156 ⟨K⟩=K V7:=qi aYS
theorem ayA:V7.kd=Kd.oth:=ID rfl
theorem an2:V7.kd.agg=false:=ID rfl
theorem aiw:V7.size=1:=ID rfl
theorem acR:V7.bytes=8:=ID rfl
theorem ayy:qw V7=True:=eq_true rfl
theorem ayz:zc V7=[.v Value.nilFunc]:=ID rfl
theorem aWn{K:TI→Prop}:@tyW Tryz.prog 157 ⟨K⟩=K V6:=qi aYR
theorem ayx:V6.kd=Kd.oth:=ID rfl
theorem an1:V6.kd.agg=false:=ID rfl
theorem aiv:V6.size=1:=ID rfl
theorem acQ:V6.bytes=8:=ID rfl
theorem ayv:qw V6=True:=eq_true rfl
theorem ayw:zc V6=[.v Value.nilFunc]:=ID rfl
theorem aWm{K:TI→Prop}:@tyW Tryz.prog 158 ⟨K⟩=K V5:=qi aYQ
theorem ayu:V5.kd=Kd.oth:=ID rfl
theorem an0:V5.kd.agg=false:=ID rfl
theorem aiu:V5.size=1:=ID rfl
theorem acP:V5.bytes=8:=ID rfl
theorem ays:qw V5=True:=eq_true rfl
theorem ayt:zc V5=[.v Value.nilFunc]:=ID rfl
theorem aWl{K:TI→Prop}:@tyW Tryz.prog 159 ⟨K⟩=K V4:=qi aYP
theorem ayr:V4.kd=Kd.oth:=ID rfl
theorem anZ:V4.kd.agg=false:=ID rfl
theorem ait:V4.size=1:=ID rfl
theorem acO:V4.bytes=8:=ID rfl
theorem ayp:qw V4=True:=eq_true rfl
theorem ayq:zc V4=[.v Value.nilFunc]:=ID rfl
theorem aWk{K:TI→Prop}:@tyW Tryz.prog 160 ⟨K⟩=K V3:=qi aYO
theorem ayo:V3.kd=Kd.oth:=ID rfl
theorem anY:V3.kd.agg=false:=ID rfl
theorem ais:V3.size=1:=ID rfl
theorem acN:V3.bytes=8:=ID rfl
theorem aym:qw V3=True:=eq_true rfl
theorem ayn:zc V3=[.v Value.nilFunc]:=ID rfl
theorem aWj{K:TI→Prop}:@tyW Tryz.prog 161 ⟨K⟩=K V2:=qi aYN
theorem ayl:V2.kd=Kd.oth:=ID rfl
theorem anX:V2.kd.agg=false:=ID rfl
theorem air:V2.size=1:=ID rfl
theorem acM:V2.bytes=8:=ID rfl
theorem ayj:qw V2=True:=eq_true rfl
theorem ayk:zc V2=[.v Value.nilFunc]:=ID rfl
theorem aWi{K:TI→Prop}:@tyW Tryz.prog 163 ⟨K⟩=K V1:=qi aYM
theorem ayi:V1.kd=Kd.oth:=ID rfl
theorem anW:V1.kd.agg=false:=ID rfl
theorem aiq:V1.size=1:=ID rfl
theorem acL:V1.bytes=8:=ID rfl
theorem ayg:qw V1=True:=eq_true rfl
theorem ayh:zc V1=[.v Value.nilFunc]:=ID rfl
theorem aWh{K:TI→Prop}:@tyW Tryz.prog 164 ⟨K⟩=K V0:=qi aYL
theorem ayf:V0.kd=Kd.oth:=ID rfl
theorem anV:V0.kd.agg=false:=ID rfl
theorem aip:V0.size=1:=ID rfl
theorem acK:V0.bytes=8:=ID rfl
theorem ayd:qw V0=True:=eq_true rfl
theorem aye:zc V0=[.v Value.nilFunc]:=ID rfl
theorem aWg{K:TI→Prop}:@tyW Tryz.prog 165 ⟨K⟩=K VZ:=qi aYK
theorem ayc:VZ.kd=Kd.oth:=ID rfl
theorem anU:VZ.kd.agg=false:=ID rfl
theorem aio:VZ.size=1:=ID rfl
theorem acJ:VZ.bytes=8:=ID rfl
theorem aya:qw VZ=True:=eq_true rfl
theorem ayb:zc VZ=[.v Value.nilFunc]:=ID rfl
theorem aWf{K:TI→Prop}:@tyW Tryz.prog 166 ⟨K⟩=K VY:=qi aYJ
theorem ax9:VY.kd=Kd.oth:=ID rfl
theorem anT:VY.kd.agg=false:=ID rfl
theorem ain:VY.size=1:=ID rfl
theorem acI:VY.bytes=8:=ID rfl
theorem ax7:qw VY=True:=eq_true rfl
theorem ax8:zc VY=[.v Value.nilFunc]:=ID rfl
theorem aWe{K:TI→Prop}:@tyW Tryz.prog 167 ⟨K⟩=K VX:=qi aYI
theorem ax6:VX.kd=Kd.oth:=ID rfl
theorem anS:VX.kd.agg=false:=ID rfl
theorem aim:VX.size=1:=ID rfl
theorem acH:VX.bytes=8:=ID rfl
theorem ax4:qw VX=True:=eq_true rfl
theorem ax5:zc VX=[.v Value.nilFunc]:=ID rfl
theorem aWd{K:TI→Prop}:@tyW Tryz.prog 168 ⟨K⟩=K VW:=qi aYH
theorem ax3:VW.kd=Kd.oth:=ID rfl
theorem anR:VW.kd.agg=false:=ID rfl
theorem ail:VW.size=1:=ID rfl
theorem acG:VW.bytes=8:=ID rfl
theorem ax1:qw VW=True:=eq_true rfl
theorem ax2:zc VW=[.v Value.nilFunc]:=ID rfl
theorem aWc{K:TI→Prop}:@tyW Tryz.prog 169 ⟨K⟩=K VV:=qi aYG
theorem ax0:VV.kd=Kd.oth:=ID rfl
theorem anQ:VV.kd.agg=false:=ID rfl
theorem aik:VV.size=1:=ID rfl
theorem acF:VV.bytes=8:=ID rfl
theorem axY:qw VV=True:=eq_true rfl
theorem axZ:zc VV=[.v Value.nilFunc]:=ID rfl
theorem aWb{K:TI→Prop}:@tyW Tryz.prog 170 ⟨K⟩=K VU:=qi aYF
theorem axX:VU.kd=Kd.oth:=ID rfl
theorem anP:VU.kd.agg=false:=ID rfl
theorem aij:VU.size=1:=ID rfl
theorem acE:VU.bytes=8:=ID rfl
theorem axV:qw VU=True:=eq_true rfl
theorem axW:zc VU=[.v Value.nilFunc]:=ID rfl
theorem aWa{K:TI→Prop}:@tyW Tryz.prog 171 ⟨K⟩=K VT:=qi aYE
theorem axU:VT.kd=Kd.oth:=ID rfl
theorem anO:VT.kd.agg=false:=ID rfl
theorem aii:VT.size=1:=ID rfl
theorem acD:VT.bytes=8:=ID rfl
theorem axS:qw VT=True:=eq_true rfl
theorem axT:zc VT=[.v Value.nilFunc]:=ID rfl
theorem aV9{K:TI→Prop}:@tyW Tryz.prog 173 ⟨K⟩=K VS:=qi aYD
theorem axR:VS.kd=Kd.oth:=ID rfl
theorem anN:VS.kd.agg=false:=ID rfl
theorem aih:VS.size=1:=ID rfl
theorem acC:VS.bytes=8:=ID rfl
theorem axP:qw VS=True:=eq_true rfl
theorem axQ:zc VS=[.v Value.nilFunc]:=ID rfl
theorem aV8{K:TI→Prop}:@tyW Tryz.prog 174 ⟨K⟩=K Zd:=qi ao0
theorem axO:Zd.kd=Kd.stru [(0,22),(1,3),(2,3)]:=ID rfl
theorem anM:Zd.kd.agg=true:=ID rfl
theorem aig:Zd.size=3:=ID rfl
theorem acB:Zd.bytes=40:=ID rfl
theorem axM:qw Zd=True:=eq_true rfl
theorem axN:zc Zd=[.v (Value.slice none 0 0),.v (Value.int IntKind.i64 0),.v (Value.int IntKind.i64 0)]:=ID rfl
theorem aCW{K:Nat→TI→Prop}:@qB Tryz.prog 174 0 ⟨K⟩=K 0 ae6:=qs (ti:=Zd) (tf:=ae6) (fo:=(0,22)) (fs:=[(0,22),(1,3),(2,3)]) ao0 rfl rfl aFb
theorem aJ3{K:Nat→Nat→Prop}:qt Tryz.prog [(0,22),(1,3),(2,3)] 0 K=K 0 1:=qr (tf:=ae6) (fo:=(0,22)) (fs:=[(0,22),(1,3),(2,3)]) rfl aFb
theorem aCV{K:Nat→TI→Prop}:@qB Tryz.prog 174 1 ⟨K⟩=K 1 ti3:=qs (ti:=Zd) (tf:=ti3) (fo:=(1,3)) (fs:=[(0,22),(1,3),(2,3)]) ao0 rfl rfl tf3
theorem aJ2{K:Nat→Nat→Prop}:qt Tryz.prog [(0,22),(1,3),(2,3)] 1 K=K 1 1:=qr (tf:=ti3) (fo:=(1,3)) (fs:=[(0,22),(1,3),(2,3)]) rfl tf3
theorem aCU{K:Nat→TI→Prop}:@qB Tryz.prog 174 2 ⟨K⟩=K 2 ti3:=qs (ti:=Zd) (tf:=ti3) (fo:=(2,3)) (fs:=[(0,22),(1,3),(2,3)]) ao0 rfl rfl tf3
theorem aJ1{K:Nat→Nat→Prop}:qt Tryz.prog [(0,22),(1,3),(2,3)] 2 K=K 2 1:=qr (tf:=ti3) (fo:=(2,3)) (fs:=[(0,22),(1,3),(2,3)]) rfl tf3
theorem aLA:∀f∈([(0,22),(1,3),(2,3)]:List (Nat×Nat)),(qo Tryz.prog f.2).isSome=true:=by
 intro f hf
 simp only[List.mem_cons,List.not_mem_nil,or_false]at hf
 rcases hf with rfl|rfl|rfl
 ·rw[aFb];rfl
 ·rw[tf3];rfl
 ·rw[tf3];rfl
theorem aTX{ps:List (Nat×AV)}{K:AV→Prop}:@zl Tryz.prog 174 ps ⟨K⟩=@zk (qt Tryz.prog [(0,22),(1,3),(2,3)]) (zc Zd) ps ⟨fun cs=>K (.ag cs)⟩:=qN ao0 rfl aLA
theorem aV7{K:TI→Prop}:@tyW Tryz.prog 175 ⟨K⟩=K Zc:=qi aoZ
theorem axL:Zc.kd=Kd.stru [(0,22),(1,3),(2,3)]:=ID rfl
theorem anL:Zc.kd.agg=true:=ID rfl
theorem aif:Zc.size=3:=ID rfl
theorem acA:Zc.bytes=40:=ID rfl
theorem axJ:qw Zc=True:=eq_true rfl
theorem axK:zc Zc=[.v (Value.slice none 0 0),.v (Value.int IntKind.i64 0),.v (Value.int IntKind.i64 0)]:=ID rfl
theorem aCT{K:Nat→TI→Prop}:@qB Tryz.prog 175 0 ⟨K⟩=K 0 ae6:=qs (ti:=Zc) (tf:=ae6) (fo:=(0,22)) (fs:=[(0,22),(1,3),(2,3)]) aoZ rfl rfl aFb
theorem aJ0{K:Nat→Nat→Prop}:qt Tryz.prog [(0,22),(1,3),(2,3)] 0 K=K 0 1:=qr (tf:=ae6) (fo:=(0,22)) (fs:=[(0,22),(1,3),(2,3)]) rfl aFb
theorem aCS{K:Nat→TI→Prop}:@qB Tryz.prog 175 1 ⟨K⟩=K 1 ti3:=qs (ti:=Zc) (tf:=ti3) (fo:=(1,3)) (fs:=[(0,22),(1,3),(2,3)]) aoZ rfl rfl tf3
theorem aJZ{K:Nat→Nat→Prop}:qt Tryz.prog [(0,22),(1,3),(2,3)] 1 K=K 1 1:=qr (tf:=ti3) (fo:=(1,3)) (fs:=[(0,22),(1,3),(2,3)]) rfl tf3
theorem aCR{K:Nat→TI→Prop}:@qB Tryz.prog 175 2 ⟨K⟩=K 2 ti3:=qs (ti:=Zc) (tf:=ti3) (fo:=(2,3)) (fs:=[(0,22),(1,3),(2,3)]) aoZ rfl rfl tf3
theorem aJY{K:Nat→Nat→Prop}:qt Tryz.prog [(0,22),(1,3),(2,3)] 2 K=K 2 1:=qr (tf:=ti3) (fo:=(2,3)) (fs:=[(0,22),(1,3),(2,3)]) rfl tf3
theorem aLz:∀f∈([(0,22),(1,3),(2,3)]:List (Nat×Nat)),(qo Tryz.prog f.2).isSome=true:=by
 intro f hf
 simp only[List.mem_cons,List.not_mem_nil,or_false]at hf
 rcases hf with rfl|rfl|rfl
 ·rw[aFb];rfl
 ·rw[tf3];rfl
 ·rw[tf3];rfl
theorem aTW{ps:List (Nat×AV)}{K:AV→Prop}:@zl Tryz.prog 175 ps ⟨K⟩=@zk (qt Tryz.prog [(0,22),(1,3),(2,3)]) (zc Zc) ps ⟨fun cs=>K (.ag cs)⟩:=qN aoZ rfl aLz
theorem aV6{K:TI→Prop}:@tyW Tryz.prog 176 ⟨K⟩=K VR:=qi aYC
theorem axI:VR.kd=Kd.oth:=ID rfl
theorem anK:VR.kd.agg=false:=ID rfl
theorem aie:VR.size=1:=ID rfl
theorem acz:VR.bytes=8:=ID rfl
theorem axG:qw VR=True:=eq_true rfl
theorem axH:zc VR=[.v Value.nilFunc]:=ID rfl
theorem aV5{K:TI→Prop}:@tyW Tryz.prog 177 ⟨K⟩=K VQ:=qi aYB
theorem axF:VQ.kd=Kd.oth:=ID rfl
theorem anJ:VQ.kd.agg=false:=ID rfl
theorem aid:VQ.size=1:=ID rfl
theorem acy:VQ.bytes=8:=ID rfl
theorem axD:qw VQ=True:=eq_true rfl
theorem axE:zc VQ=[.v Value.nilFunc]:=ID rfl
theorem aV4{K:TI→Prop}:@tyW Tryz.prog 178 ⟨K⟩=K VP:=qi aYA
theorem axC:VP.kd=Kd.oth:=ID rfl
theorem anI:VP.kd.agg=false:=ID rfl
theorem aic:VP.size=1:=ID rfl
theorem acx:VP.bytes=8:=ID rfl
theorem axA:qw VP=True:=eq_true rfl
theorem axB:zc VP=[.v Value.nilFunc]:=ID rfl
theorem aV3{K:TI→Prop}:@tyW Tryz.prog 179 ⟨K⟩=K VO:=qi aYz
theorem axz:VO.kd=Kd.oth:=ID rfl
theorem anH:VO.kd.agg=false:=ID rfl
theorem aib:VO.size=1:=ID rfl
theorem acw:VO.bytes=8:=ID rfl
theorem axx:qw VO=True:=eq_true rfl
theorem axy:zc VO=[.v Value.nilFunc]:=ID rfl
theorem aV2{K:TI→Prop}:@tyW Tryz.prog 180 ⟨K⟩=K VN:=qi aYy
theorem axw:VN.kd=Kd.oth:=ID rfl
theorem anG:VN.kd.agg=false:=ID rfl
theorem aia:VN.size=1:=ID rfl
theorem acv:VN.bytes=8:=ID rfl
theorem axu:qw VN=True:=eq_true rfl
theorem axv:zc VN=[.v Value.nilFunc]:=ID rfl
theorem aV1{K:TI→Prop}:@tyW Tryz.prog 182 ⟨K⟩=K VM:=qi aYx
theorem axt:VM.kd=Kd.oth:=ID rfl
theorem anF:VM.kd.agg=false:=ID rfl
theorem ah9:VM.size=1:=ID rfl
theorem acu:VM.bytes=8:=ID rfl
theorem axr:qw VM=True:=eq_true rfl
theorem axs:zc VM=[.v Value.nilFunc]:=ID rfl
theorem aV0{K:TI→Prop}:@tyW Tryz.prog 183 ⟨K⟩=K VL:=qi aYw
theorem axq:VL.kd=Kd.oth:=ID rfl
theorem anE:VL.kd.agg=false:=ID rfl
theorem ah8:VL.size=1:=ID rfl
theorem act:VL.bytes=8:=ID rfl
theorem axo:qw VL=True:=eq_true rfl
theorem axp:zc VL=[.v Value.nilFunc]:=ID rfl
theorem aVZ{K:TI→Prop}:@tyW Tryz.prog 184 ⟨K⟩=K VK:=qi aYv
theorem axn:VK.kd=Kd.oth:=ID rfl
theorem anD:VK.kd.agg=false:=ID rfl
theorem ah7:VK.size=1:=ID rfl
theorem acs:VK.bytes=8:=ID rfl
theorem axl:qw VK=True:=eq_true rfl
theorem axm:zc VK=[.v Value.nilFunc]:=ID rfl
theorem aVY{K:TI→Prop}:@tyW Tryz.prog 185 ⟨K⟩=K VJ:=qi aYu
theorem axk:VJ.kd=Kd.oth:=ID rfl
theorem anC:VJ.kd.agg=false:=ID rfl
theorem ah6:VJ.size=1:=ID rfl
theorem acr:VJ.bytes=8:=ID rfl
theorem axi:qw VJ=True:=eq_true rfl
theorem axj:zc VJ=[.v Value.nilFunc]:=ID rfl
theorem aVX{K:TI→Prop}:@tyW Tryz.prog 186 ⟨K⟩=K VI:=qi aYt
theorem axh:VI.kd=Kd.oth:=ID rfl
theorem anB:VI.kd.agg=false:=ID rfl
theorem ah5:VI.size=1:=ID rfl
theorem acq:VI.bytes=8:=ID rfl
theorem axf:qw VI=True:=eq_true rfl
theorem axg:zc VI=[.v Value.nilFunc]:=ID rfl
theorem aVW{K:TI→Prop}:@tyW Tryz.prog 187 ⟨K⟩=K VH:=qi aYs
theorem axe:VH.kd=Kd.oth:=ID rfl
theorem anA:VH.kd.agg=false:=ID rfl
theorem ah4:VH.size=1:=ID rfl
theorem acp:VH.bytes=8:=ID rfl
theorem axc:qw VH=True:=eq_true rfl
theorem axd:zc VH=[.v Value.nilFunc]:=ID rfl
theorem aVV{K:TI→Prop}:@tyW Tryz.prog 188 ⟨K⟩=K VG:=qi aYr
theorem axb:VG.kd=Kd.oth:=ID rfl
theorem anz:VG.kd.agg=false:=ID rfl
theorem ah3:VG.size=1:=ID rfl
theorem aco:VG.bytes=8:=ID rfl
theorem aw9:qw VG=True:=eq_true rfl
theorem axa:zc VG=[.v Value.nilFunc]:=ID rfl
theorem aVU{K:TI→Prop}:@tyW Tryz.prog 189 ⟨K⟩=K VF:=qi aYq
theorem aw8:VF.kd=Kd.oth:=ID rfl
theorem anx:VF.kd.agg=false:=ID rfl
theorem ah2:VF.size=1:=ID rfl
theorem acn:VF.bytes=8:=ID rfl
theorem aw6:qw VF=True:=eq_true rfl
theorem aw7:zc VF=[.v Value.nilFunc]:=ID rfl
theorem aVT{K:TI→Prop}:@tyW Tryz.prog 190 ⟨K⟩=K VE:=qi aYp
theorem aw5:VE.kd=Kd.oth:=ID rfl
theorem anw:VE.kd.agg=false:=ID rfl
theorem ah1:VE.size=1:=ID rfl
theorem acm:VE.bytes=8:=ID rfl
theorem aw3:qw VE=True:=eq_true rfl
theorem aw4:zc VE=[.v Value.nilFunc]:=ID rfl
theorem aVS{K:TI→Prop}:@tyW Tryz.prog 191 ⟨K⟩=K VD:=qi aYo
theorem aw2:VD.kd=Kd.oth:=ID rfl
theorem anv:VD.kd.agg=false:=ID rfl
theorem ah0:VD.size=1:=ID rfl
theorem acl:VD.bytes=8:=ID rfl
theorem aw0:qw VD=True:=eq_true rfl
theorem aw1:zc VD=[.v Value.nilFunc]:=ID rfl
theorem aVR{K:TI→Prop}:@tyW Tryz.prog 192 ⟨K⟩=K VC:=qi aYn
theorem awZ:VC.kd=Kd.oth:=ID rfl
theorem anu:VC.kd.agg=false:=ID rfl
theorem ahZ:VC.size=1:=ID rfl
theorem ack:VC.bytes=8:=ID rfl
theorem awX:qw VC=True:=eq_true rfl
theorem awY:zc VC=[.v Value.nilFunc]:=ID rfl
theorem aVQ{K:TI→Prop}:@tyW Tryz.prog 194 ⟨K⟩=K VB:=qi aYm
theorem awW:VB.kd=Kd.oth:=ID rfl
theorem ant:VB.kd.agg=false:=ID rfl
theorem ahY:VB.size=1:=ID rfl
theorem acj:VB.bytes=8:=ID rfl
theorem awT:qw VB=True:=eq_true rfl
theorem awU:zc VB=[.v Value.nilFunc]:=ID rfl
theorem aVP{K:TI→Prop}:@tyW Tryz.prog 195 ⟨K⟩=K VA:=qi aOf
theorem awS:VA.kd=Kd.sli 111:=ID rfl
theorem ans:VA.kd.agg=false:=ID rfl
theorem ahX:VA.size=1:=ID rfl
theorem aci:VA.bytes=24:=ID rfl
theorem awQ:qw VA=True:=eq_true rfl
theorem awR:zc VA=[.v (Value.slice none 0 0)]:=ID rfl
theorem aOv{K:TI→Prop}:@yU Tryz.prog 195 ⟨K⟩=K y3:=ZQ aOf rfl Yz
theorem aVO{K:TI→Prop}:@tyW Tryz.prog 196 ⟨K⟩=K Vz:=qi aYl
theorem awP:Vz.kd=Kd.oth:=ID rfl
theorem anr:Vz.kd.agg=false:=ID rfl
theorem ahW:Vz.size=1:=ID rfl
theorem ach:Vz.bytes=8:=ID rfl
theorem awN:qw Vz=True:=eq_true rfl
theorem awO:zc Vz=[.v Value.nilFunc]:=ID rfl
theorem aVN{K:TI→Prop}:@tyW Tryz.prog 197 ⟨K⟩=K Vy:=qi aYk
theorem awM:Vy.kd=Kd.oth:=ID rfl
theorem anq:Vy.kd.agg=false:=ID rfl
theorem ahV:Vy.size=1:=ID rfl
theorem acg:Vy.bytes=8:=ID rfl
theorem awK:qw Vy=True:=eq_true rfl
theorem awL:zc Vy=[.v Value.nilFunc]:=ID rfl
theorem aVM{K:TI→Prop}:@tyW Tryz.prog 198 ⟨K⟩=K Vx:=qi aYj
theorem awJ:Vx.kd=Kd.oth:=ID rfl
theorem anp:Vx.kd.agg=false:=ID rfl
theorem ahU:Vx.size=1:=ID rfl
theorem acf:Vx.bytes=8:=ID rfl
theorem awH:qw Vx=True:=eq_true rfl
theorem awI:zc Vx=[.v Value.nilFunc]:=ID rfl
theorem aVL{K:TI→Prop}:@tyW Tryz.prog 199 ⟨K⟩=K Vw:=qi aYi
theorem awG:Vw.kd=Kd.oth:=ID rfl
theorem ano:Vw.kd.agg=false:=ID rfl
theorem ahT:Vw.size=1:=ID rfl
theorem ace:Vw.bytes=8:=ID rfl
theorem awE:qw Vw=True:=eq_true rfl
theorem awF:zc Vw=[.v Value.nilFunc]:=ID rfl
theorem aVK{K:TI→Prop}:@tyW Tryz.prog 201 ⟨K⟩=K Vv:=qi aYh
theorem awC:Vv.kd=Kd.oth:=ID rfl
theorem anm:Vv.kd.agg=false:=ID rfl
theorem ahS:Vv.size=1:=ID rfl
theorem acd:Vv.bytes=8:=ID rfl
theorem awA:qw Vv=True:=eq_true rfl
theorem awB:zc Vv=[.v Value.nilFunc]:=ID rfl
theorem aVJ{K:TI→Prop}:@tyW Tryz.prog 203 ⟨K⟩=K Vu:=qi aYg
theorem awz:Vu.kd=Kd.oth:=ID rfl
theorem anl:Vu.kd.agg=false:=ID rfl
theorem ahR:Vu.size=1:=ID rfl
theorem acb:Vu.bytes=8:=ID rfl
theorem awx:qw Vu=True:=eq_true rfl
theorem awy:zc Vu=[.v Value.nilFunc]:=ID rfl
theorem aVI{K:TI→Prop}:@tyW Tryz.prog 204 ⟨K⟩=K Vt:=qi aYf
theorem aww:Vt.kd=Kd.oth:=ID rfl
theorem ank:Vt.kd.agg=false:=ID rfl
theorem ahQ:Vt.size=1:=ID rfl
theorem aca:Vt.bytes=8:=ID rfl
theorem awu:qw Vt=True:=eq_true rfl
theorem awv:zc Vt=[.v Value.nilFunc]:=ID rfl
theorem aVH{K:TI→Prop}:@tyW Tryz.prog 205 ⟨K⟩=K Vs:=qi aYe
theorem awt:Vs.kd=Kd.oth:=ID rfl
theorem anj:Vs.kd.agg=false:=ID rfl
theorem ahP:Vs.size=1:=ID rfl
theorem ab9:Vs.bytes=8:=ID rfl
theorem awr:qw Vs=True:=eq_true rfl
theorem aws:zc Vs=[.v Value.nilFunc]:=ID rfl
theorem aVG{K:TI→Prop}:@tyW Tryz.prog 207 ⟨K⟩=K Vr:=qi aYd
theorem awq:Vr.kd=Kd.oth:=ID rfl
theorem ani:Vr.kd.agg=false:=ID rfl
theorem ahO:Vr.size=1:=ID rfl
theorem ab8:Vr.bytes=8:=ID rfl
theorem awn:qw Vr=True:=eq_true rfl
theorem awo:zc Vr=[.v Value.nilFunc]:=ID rfl
theorem aVF{K:TI→Prop}:@tyW Tryz.prog 208 ⟨K⟩=K Vq:=qi aYc
theorem awm:Vq.kd=Kd.oth:=ID rfl
theorem anh:Vq.kd.agg=false:=ID rfl
theorem ahN:Vq.size=1:=ID rfl
theorem ab7:Vq.bytes=8:=ID rfl
theorem awk:qw Vq=True:=eq_true rfl
theorem awl:zc Vq=[.v Value.nilFunc]:=ID rfl
theorem aVE{K:TI→Prop}:@tyW Tryz.prog 209 ⟨K⟩=K Vp:=qi aYb
theorem awj:Vp.kd=Kd.oth:=ID rfl
theorem ang:Vp.kd.agg=false:=ID rfl
theorem ahM:Vp.size=1:=ID rfl
theorem ab6:Vp.bytes=8:=ID rfl
theorem awh:qw Vp=True:=eq_true rfl
theorem awi:zc Vp=[.v Value.nilFunc]:=ID rfl
theorem aVD{K:TI→Prop}:@tyW Tryz.prog 210 ⟨K⟩=K Vo:=qi aYa
theorem awg:Vo.kd=Kd.oth:=ID rfl
theorem anf:Vo.kd.agg=false:=ID rfl
theorem ahL:Vo.size=1:=ID rfl
theorem ab5:Vo.bytes=8:=ID rfl
theorem awe:qw Vo=True:=eq_true rfl
theorem awf:zc Vo=[.v Value.nilFunc]:=ID rfl
theorem aVC{K:TI→Prop}:@tyW Tryz.prog 211 ⟨K⟩=K Vn:=qi aX9
theorem awd:Vn.kd=Kd.oth:=ID rfl
theorem ane:Vn.kd.agg=false:=ID rfl
theorem ahK:Vn.size=1:=ID rfl
theorem ab4:Vn.bytes=8:=ID rfl
theorem awb:qw Vn=True:=eq_true rfl
theorem awc:zc Vn=[.v Value.nilFunc]:=ID rfl
theorem aVB{K:TI→Prop}:@tyW Tryz.prog 212 ⟨K⟩=K Vm:=qi aX8
theorem awa:Vm.kd=Kd.oth:=ID rfl
theorem anc:Vm.kd.agg=false:=ID rfl
theorem ahJ:Vm.size=1:=ID rfl
theorem ab3:Vm.bytes=8:=ID rfl
theorem av8:qw Vm=True:=eq_true rfl
theorem av9:zc Vm=[.v Value.nilFunc]:=ID rfl
theorem aVA{K:TI→Prop}:@tyW Tryz.prog 213 ⟨K⟩=K Vl:=qi aX7
theorem av7:Vl.kd=Kd.oth:=ID rfl
theorem anb:Vl.kd.agg=false:=ID rfl
theorem ahI:Vl.size=1:=ID rfl
theorem ab2:Vl.bytes=8:=ID rfl
theorem av5:qw Vl=True:=eq_true rfl
theorem av6:zc Vl=[.v Value.nilFunc]:=ID rfl
theorem aVz{K:TI→Prop}:@tyW Tryz.prog 214 ⟨K⟩=K Vk:=qi aX6
theorem av4:Vk.kd=Kd.oth:=ID rfl
theorem ana:Vk.kd.agg=false:=ID rfl
theorem ahH:Vk.size=1:=ID rfl
theorem ab1:Vk.bytes=8:=ID rfl
theorem av2:qw Vk=True:=eq_true rfl
theorem av3:zc Vk=[.v Value.nilFunc]:=ID rfl
theorem aVy{K:TI→Prop}:@tyW Tryz.prog 215 ⟨K⟩=K Vj:=qi aX5
theorem av1:Vj.kd=Kd.oth:=ID rfl
theorem am9:Vj.kd.agg=false:=ID rfl
theorem ahG:Vj.size=1:=ID rfl
theorem ab0:Vj.bytes=8:=ID rfl
theorem avZ:qw Vj=True:=eq_true rfl
theorem av0:zc Vj=[.v Value.nilFunc]:=ID rfl
theorem aVx{K:TI→Prop}:@tyW Tryz.prog 216 ⟨K⟩=K Vi:=qi aX4
theorem avY:Vi.kd=Kd.int IntKind.u64:=ID rfl
theorem am8:Vi.kd.agg=false:=ID rfl
theorem ahF:Vi.size=1:=ID rfl
theorem abZ:Vi.bytes=8:=ID rfl
theorem avW:qw Vi=True:=eq_true rfl
theorem avX:zc Vi=[.v (Value.int IntKind.u64 0)]:=ID rfl
theorem aVw{K:TI→Prop}:@tyW Tryz.prog 217 ⟨K⟩=K Vh:=qi aX3
theorem avV:Vh.kd=Kd.oth:=ID rfl
theorem am7:Vh.kd.agg=false:=ID rfl
theorem ahE:Vh.size=1:=ID rfl
theorem abY:Vh.bytes=8:=ID rfl
theorem avT:qw Vh=True:=eq_true rfl
theorem avU:zc Vh=[.v Value.nilFunc]:=ID rfl
theorem aVv{K:TI→Prop}:@tyW Tryz.prog 218 ⟨K⟩=K Vg:=qi aX2
theorem avS:Vg.kd=Kd.oth:=ID rfl
theorem am6:Vg.kd.agg=false:=ID rfl
theorem ahD:Vg.size=1:=ID rfl
theorem abX:Vg.bytes=8:=ID rfl
theorem avQ:qw Vg=True:=eq_true rfl
theorem avR:zc Vg=[.v Value.nilFunc]:=ID rfl
theorem aVu{K:TI→Prop}:@tyW Tryz.prog 219 ⟨K⟩=K Vf:=qi aX1
theorem avP:Vf.kd=Kd.oth:=ID rfl
theorem am5:Vf.kd.agg=false:=ID rfl
theorem ahC:Vf.size=1:=ID rfl
theorem abW:Vf.bytes=8:=ID rfl
theorem avN:qw Vf=True:=eq_true rfl
theorem avO:zc Vf=[.v Value.nilFunc]:=ID rfl
theorem aVt{K:TI→Prop}:@tyW Tryz.prog 220 ⟨K⟩=K Ve:=qi aX0
theorem avL:Ve.kd=Kd.oth:=ID rfl
theorem am3:Ve.kd.agg=false:=ID rfl
theorem ahA:Ve.size=1:=ID rfl
theorem abV:Ve.bytes=8:=ID rfl
theorem avJ:qw Ve=True:=eq_true rfl
theorem avK:zc Ve=[.v Value.nilFunc]:=ID rfl
theorem aVs{K:TI→Prop}:@tyW Tryz.prog 221 ⟨K⟩=K Vd:=qi aXZ
theorem avI:Vd.kd=Kd.oth:=ID rfl
theorem am2:Vd.kd.agg=false:=ID rfl
theorem ahz:Vd.size=1:=ID rfl
theorem abU:Vd.bytes=8:=ID rfl
theorem avG:qw Vd=True:=eq_true rfl
theorem avH:zc Vd=[.v Value.nilFunc]:=ID rfl
theorem aVr{K:TI→Prop}:@tyW Tryz.prog 222 ⟨K⟩=K Vc:=qi aXY
theorem avF:Vc.kd=Kd.oth:=ID rfl
theorem am1:Vc.kd.agg=false:=ID rfl
theorem ahy:Vc.size=1:=ID rfl
theorem abT:Vc.bytes=8:=ID rfl
theorem avD:qw Vc=True:=eq_true rfl
theorem avE:zc Vc=[.v Value.nilFunc]:=ID rfl
theorem aVq{K:TI→Prop}:@tyW Tryz.prog 224 ⟨K⟩=K Vb:=qi aXX
theorem avC:Vb.kd=Kd.oth:=ID rfl
theorem am0:Vb.kd.agg=false:=ID rfl
theorem ahx:Vb.size=1:=ID rfl
theorem abS:Vb.bytes=8:=ID rfl
theorem avA:qw Vb=True:=eq_true rfl
theorem avB:zc Vb=[.v Value.nilFunc]:=ID rfl
theorem aVp{K:TI→Prop}:@tyW Tryz.prog 225 ⟨K⟩=K Va:=qi aXW
theorem avz:Va.kd=Kd.oth:=ID rfl
theorem amZ:Va.kd.agg=false:=ID rfl
theorem ahw:Va.size=1:=ID rfl
theorem abR:Va.bytes=8:=ID rfl
theorem avx:qw Va=True:=eq_true rfl
theorem avy:zc Va=[.v Value.nilFunc]:=ID rfl
theorem aVo{K:TI→Prop}:@tyW Tryz.prog 226 ⟨K⟩=K X9:=qi aXV
theorem avw:X9.kd=Kd.oth:=ID rfl
theorem amY:X9.kd.agg=false:=ID rfl
theorem ahv:X9.size=1:=ID rfl
theorem abQ:X9.bytes=8:=ID rfl
theorem avu:qw X9=True:=eq_true rfl
theorem avv:zc X9=[.v Value.nilFunc]:=ID rfl
theorem aVn{K:TI→Prop}:@tyW Tryz.prog 227 ⟨K⟩=K X8:=qi aXU
theorem avt:X8.kd=Kd.oth:=ID rfl
theorem amX:X8.kd.agg=false:=ID rfl
theorem ahu:X8.size=1:=ID rfl
theorem abP:X8.bytes=8:=ID rfl
theorem avr:qw X8=True:=eq_true rfl
theorem avs:zc X8=[.v Value.nilFunc]:=ID rfl
theorem aVm{K:TI→Prop}:@tyW Tryz.prog 228 ⟨K⟩=K X7:=qi aXT
theorem avq:X7.kd=Kd.oth:=ID rfl
theorem amW:X7.kd.agg=false:=ID rfl
theorem aht:X7.size=1:=ID rfl
theorem abO:X7.bytes=8:=ID rfl
theorem avo:qw X7=True:=eq_true rfl
theorem avp:zc X7=[.v Value.nilFunc]:=ID rfl
theorem aVl{K:TI→Prop}:@tyW Tryz.prog 229 ⟨K⟩=K X6:=qi aXS
theorem avn:X6.kd=Kd.oth:=ID rfl
theorem amV:X6.kd.agg=false:=ID rfl
theorem ahs:X6.size=1:=ID rfl
theorem abN:X6.bytes=8:=ID rfl
theorem avl:qw X6=True:=eq_true rfl
theorem avm:zc X6=[.v Value.nilFunc]:=ID rfl
theorem aVk{K:TI→Prop}:@tyW Tryz.prog 230 ⟨K⟩=K X5:=qi aXR
theorem avj:X5.kd=Kd.oth:=ID rfl
theorem amT:X5.kd.agg=false:=ID rfl
theorem ahq:X5.size=1:=ID rfl
theorem abM:X5.bytes=8:=ID rfl
theorem avh:qw X5=True:=eq_true rfl
theorem avi:zc X5=[.v Value.nilFunc]:=ID rfl
theorem aVj{K:TI→Prop}:@tyW Tryz.prog 231 ⟨K⟩=K X4:=qi aXQ
theorem avg:X4.kd=Kd.oth:=ID rfl
theorem amS:X4.kd.agg=false:=ID rfl
theorem ahp:X4.size=1:=ID rfl
theorem abL:X4.bytes=8:=ID rfl
theorem ave:qw X4=True:=eq_true rfl
theorem avf:zc X4=[.v Value.nilFunc]:=ID rfl
theorem aVi{K:TI→Prop}:@tyW Tryz.prog 232 ⟨K⟩=K X3:=qi aXP
theorem avd:X3.kd=Kd.oth:=ID rfl
theorem amR:X3.kd.agg=false:=ID rfl
theorem aho:X3.size=1:=ID rfl
theorem abK:X3.bytes=8:=ID rfl
theorem avb:qw X3=True:=eq_true rfl
theorem avc:zc X3=[.v Value.nilFunc]:=ID rfl
theorem aVh{K:TI→Prop}:@tyW Tryz.prog 233 ⟨K⟩=K X2:=qi aXO
theorem ava:X2.kd=Kd.oth:=ID rfl
theorem amQ:X2.kd.agg=false:=ID rfl
theorem ahn:X2.size=1:=ID rfl
theorem abJ:X2.bytes=8:=ID rfl
theorem au8:qw X2=True:=eq_true rfl
theorem au9:zc X2=[.v Value.nilFunc]:=ID rfl
theorem aVg{K:TI→Prop}:@tyW Tryz.prog 234 ⟨K⟩=K X1:=qi aXN
theorem au7:X1.kd=Kd.oth:=ID rfl
theorem amP:X1.kd.agg=false:=ID rfl
theorem ahm:X1.size=1:=ID rfl
theorem abI:X1.bytes=8:=ID rfl
theorem au5:qw X1=True:=eq_true rfl
theorem au6:zc X1=[.v Value.nilFunc]:=ID rfl
theorem aVf{K:TI→Prop}:@tyW Tryz.prog 235 ⟨K⟩=K X0:=qi aXM
theorem au4:X0.kd=Kd.oth:=ID rfl
theorem amO:X0.kd.agg=false:=ID rfl
theorem ahl:X0.size=1:=ID rfl
theorem abH:X0.bytes=8:=ID rfl
theorem au2:qw X0=True:=eq_true rfl
theorem au3:zc X0=[.v Value.nilFunc]:=ID rfl
theorem aVe{K:TI→Prop}:@tyW Tryz.prog 236 ⟨K⟩=K XZ:=qi aXL
theorem au1:XZ.kd=Kd.oth:=ID rfl
theorem amN:XZ.kd.agg=false:=ID rfl
theorem ahk:XZ.size=1:=ID rfl
theorem abG:XZ.bytes=8:=ID rfl
theorem auZ:qw XZ=True:=eq_true rfl
theorem au0:zc XZ=[.v Value.nilFunc]:=ID rfl
theorem aVd{K:TI→Prop}:@tyW Tryz.prog 237 ⟨K⟩=K XY:=qi aXK
theorem auY:XY.kd=Kd.oth:=ID rfl
theorem amM:XY.kd.agg=false:=ID rfl
theorem ahj:XY.size=1:=ID rfl
theorem abF:XY.bytes=8:=ID rfl
theorem auW:qw XY=True:=eq_true rfl
theorem auX:zc XY=[.v Value.nilFunc]:=ID rfl
theorem aVc{K:TI→Prop}:@tyW Tryz.prog 238 ⟨K⟩=K XX:=qi aXJ
theorem auV:XX.kd=Kd.oth:=ID rfl
theorem amL:XX.kd.agg=false:=ID rfl
theorem ahi:XX.size=1:=ID rfl
theorem abE:XX.bytes=8:=ID rfl
theorem auT:qw XX=True:=eq_true rfl
theorem auU:zc XX=[.v Value.nilFunc]:=ID rfl
theorem aVb{K:TI→Prop}:@tyW Tryz.prog 239 ⟨K⟩=K XW:=qi aXI
theorem auS:XW.kd=Kd.oth:=ID rfl
theorem amK:XW.kd.agg=false:=ID rfl
theorem ahh:XW.size=1:=ID rfl
theorem abD:XW.bytes=8:=ID rfl
theorem auQ:qw XW=True:=eq_true rfl
theorem auR:zc XW=[.v Value.nilFunc]:=ID rfl
theorem aVa{K:TI→Prop}:@tyW Tryz.prog 240 ⟨K⟩=K XV:=qi aXH
theorem auO:XV.kd=Kd.oth:=ID rfl
theorem amH:XV.kd.agg=false:=ID rfl
theorem ahf:XV.size=1:=ID rfl
theorem abC:XV.bytes=8:=ID rfl
theorem auM:qw XV=True:=eq_true rfl
theorem auN:zc XV=[.v Value.nilFunc]:=ID rfl
theorem aU9{K:TI→Prop}:@tyW Tryz.prog 241 ⟨K⟩=K XU:=qi aXG
theorem auL:XU.kd=Kd.oth:=ID rfl
theorem amG:XU.kd.agg=false:=ID rfl
theorem ahe:XU.size=1:=ID rfl
theorem abB:XU.bytes=8:=ID rfl
theorem auJ:qw XU=True:=eq_true rfl
theorem auK:zc XU=[.v Value.nilFunc]:=ID rfl
theorem aU8{K:TI→Prop}:@tyW Tryz.prog 242 ⟨K⟩=K XT:=qi aXF
theorem auI:XT.kd=Kd.oth:=ID rfl
theorem amF:XT.kd.agg=false:=ID rfl
theorem ahd:XT.size=1:=ID rfl
theorem abA:XT.bytes=8:=ID rfl
theorem auG:qw XT=True:=eq_true rfl
theorem auH:zc XT=[.v Value.nilFunc]:=ID rfl
theorem aU7{K:TI→Prop}:@tyW Tryz.prog 243 ⟨K⟩=K XS:=qi aXE
theorem auF:XS.kd=Kd.oth:=ID rfl
theorem amE:XS.kd.agg=false:=ID rfl
theorem ahc:XS.size=1:=ID rfl
theorem abz:XS.bytes=8:=ID rfl
theorem auD:qw XS=True:=eq_true rfl
theorem auE:zc XS=[.v Value.nilFunc]:=ID rfl
theorem aU6{K:TI→Prop}:@tyW Tryz.prog 245 ⟨K⟩=K XR:=qi aXD
theorem auC:XR.kd=Kd.oth:=ID rfl
theorem amD:XR.kd.agg=false:=ID rfl
theorem ahb:XR.size=1:=ID rfl
theorem aby:XR.bytes=8:=ID rfl
theorem auA:qw XR=True:=eq_true rfl
theorem auB:zc XR=[.v Value.nilFunc]:=ID rfl
theorem aU5{K:TI→Prop}:@tyW Tryz.prog 246 ⟨K⟩=K XQ:=qi aXC
theorem auz:XQ.kd=Kd.oth:=ID rfl
theorem amC:XQ.kd.agg=false:=ID rfl
theorem aha:XQ.size=1:=ID rfl
theorem abx:XQ.bytes=8:=ID rfl
theorem aux:qw XQ=True:=eq_true rfl
theorem auy:zc XQ=[.v Value.nilFunc]:=ID rfl
theorem aU4{K:TI→Prop}:@tyW Tryz.prog 247 ⟨K⟩=K XP:=qi aXB
theorem auw:XP.kd=Kd.oth:=ID rfl
theorem amB:XP.kd.agg=false:=ID rfl
theorem ag9:XP.size=1:=ID rfl
theorem abw:XP.bytes=8:=ID rfl
theorem auu:qw XP=True:=eq_true rfl
theorem auv:zc XP=[.v Value.nilFunc]:=ID rfl
theorem aU3{K:TI→Prop}:@tyW Tryz.prog 249 ⟨K⟩=K XO:=qi aXA
theorem aut:XO.kd=Kd.oth:=ID rfl
theorem amA:XO.kd.agg=false:=ID rfl
theorem ag8:XO.size=1:=ID rfl
theorem abv:XO.bytes=8:=ID rfl
theorem aur:qw XO=True:=eq_true rfl
theorem aus:zc XO=[.v Value.nilFunc]:=ID rfl
theorem aU2{K:TI→Prop}:@tyW Tryz.prog 250 ⟨K⟩=K XN:=qi aXz
theorem aup:XN.kd=Kd.oth:=ID rfl
theorem amx:XN.kd.agg=false:=ID rfl
theorem ag6:XN.size=1:=ID rfl
theorem abu:XN.bytes=8:=ID rfl
theorem aun:qw XN=True:=eq_true rfl
theorem auo:zc XN=[.v Value.nilFunc]:=ID rfl
theorem aU1{K:TI→Prop}:@tyW Tryz.prog 251 ⟨K⟩=K XM:=qi aXy
theorem aum:XM.kd=Kd.oth:=ID rfl
theorem amw:XM.kd.agg=false:=ID rfl
theorem ag5:XM.size=1:=ID rfl
theorem abt:XM.bytes=8:=ID rfl
theorem auk:qw XM=True:=eq_true rfl
theorem aul:zc XM=[.v Value.nilFunc]:=ID rfl
theorem aU0{K:TI→Prop}:@tyW Tryz.prog 252 ⟨K⟩=K XL:=qi aXx
theorem auj:XL.kd=Kd.int IntKind.u32:=ID rfl
theorem amv:XL.kd.agg=false:=ID rfl
theorem ag4:XL.size=1:=ID rfl
theorem abr:XL.bytes=4:=ID rfl
theorem auh:qw XL=True:=eq_true rfl
theorem aui:zc XL=[.v (Value.int IntKind.u32 0)]:=ID rfl
theorem aUZ{K:TI→Prop}:@tyW Tryz.prog 253 ⟨K⟩=K XK:=qi aXw
theorem aug:XK.kd=Kd.oth:=ID rfl
theorem amu:XK.kd.agg=false:=ID rfl
theorem ag3:XK.size=1:=ID rfl
theorem abq:XK.bytes=8:=ID rfl
theorem aue:qw XK=True:=eq_true rfl
theorem auf:zc XK=[.v Value.nilFunc]:=ID rfl
theorem aUY{K:TI→Prop}:@tyW Tryz.prog 254 ⟨K⟩=K XJ:=qi aXv
theorem aud:XJ.kd=Kd.int IntKind.u64:=ID rfl
theorem amt:XJ.kd.agg=false:=ID rfl
theorem ag2:XJ.size=1:=ID rfl
theorem abp:XJ.bytes=8:=ID rfl
theorem aub:qw XJ=True:=eq_true rfl
theorem auc:zc XJ=[.v (Value.int IntKind.u64 0)]:=ID rfl
theorem aUX{K:TI→Prop}:@tyW Tryz.prog 256 ⟨K⟩=K XI:=qi aXu
theorem aua:XI.kd=Kd.oth:=ID rfl
theorem ams:XI.kd.agg=false:=ID rfl
theorem ag1:XI.size=1:=ID rfl
theorem abo:XI.bytes=8:=ID rfl
theorem at8:qw XI=True:=eq_true rfl
theorem at9:zc XI=[.v Value.nilFunc]:=ID rfl
theorem aUW{K:TI→Prop}:@tyW Tryz.prog 257 ⟨K⟩=K XH:=qi aXt
theorem at7:XH.kd=Kd.oth:=ID rfl
theorem amr:XH.kd.agg=false:=ID rfl
theorem ag0:XH.size=1:=ID rfl
theorem abn:XH.bytes=8:=ID rfl
theorem at5:qw XH=True:=eq_true rfl
theorem at6:zc XH=[.v Value.nilFunc]:=ID rfl
theorem aUV{K:TI→Prop}:@tyW Tryz.prog 258 ⟨K⟩=K XG:=qi aXs
theorem at4:XG.kd=Kd.oth:=ID rfl
theorem amq:XG.kd.agg=false:=ID rfl
theorem agZ:XG.size=1:=ID rfl
theorem abm:XG.bytes=8:=ID rfl
theorem at2:qw XG=True:=eq_true rfl
theorem at3:zc XG=[.v Value.nilFunc]:=ID rfl
theorem aUU{K:TI→Prop}:@tyW Tryz.prog 259 ⟨K⟩=K XF:=qi aXr
theorem at1:XF.kd=Kd.oth:=ID rfl
theorem amp:XF.kd.agg=false:=ID rfl
theorem agY:XF.size=1:=ID rfl
theorem abl:XF.bytes=8:=ID rfl
theorem atZ:qw XF=True:=eq_true rfl
theorem at0:zc XF=[.v Value.nilFunc]:=ID rfl
theorem aUT{K:TI→Prop}:@tyW Tryz.prog 260 ⟨K⟩=K XE:=qi aXq
theorem atX:XE.kd=Kd.oth:=ID rfl
theorem amn:XE.kd.agg=false:=ID rfl
theorem agW:XE.size=1:=ID rfl
theorem abk:XE.bytes=8:=ID rfl
theorem atV:qw XE=True:=eq_true rfl
theorem atW:zc XE=[.v Value.nilFunc]:=ID rfl
theorem aUS{K:TI→Prop}:@tyW Tryz.prog 263 ⟨K⟩=K XD:=qi aXp
theorem atU:XD.kd=Kd.oth:=ID rfl
theorem amm:XD.kd.agg=false:=ID rfl
theorem agV:XD.size=1:=ID rfl
theorem abj:XD.bytes=8:=ID rfl
theorem atS:qw XD=True:=eq_true rfl
theorem atT:zc XD=[.v Value.nilFunc]:=ID rfl
theorem aUR{K:TI→Prop}:@tyW Tryz.prog 267 ⟨K⟩=K XC:=qi aXo
theorem atR:XC.kd=Kd.stru [(0,266)]:=ID rfl
theorem aml:XC.kd.agg=true:=ID rfl
theorem agU:XC.size=0:=ID rfl
theorem abi:XC.bytes=0:=ID rfl
theorem atP:qw XC=True:=eq_true rfl
theorem atQ:zc XC=[]:=ID rfl
theorem aUQ{K:TI→Prop}:@tyW Tryz.prog 268 ⟨K⟩=K XB:=qi aXn
theorem atO:XB.kd=Kd.stru [(0,266)]:=ID rfl
theorem amk:XB.kd.agg=true:=ID rfl
theorem agT:XB.size=0:=ID rfl
theorem abh:XB.bytes=0:=ID rfl
theorem atM:qw XB=True:=eq_true rfl
theorem atN:zc XB=[]:=ID rfl
theorem aUP{K:TI→Prop}:@tyW Tryz.prog 269 ⟨K⟩=K XA:=qi aXm
theorem atL:XA.kd=Kd.int IntKind.u8:=ID rfl
theorem amj:XA.kd.agg=false:=ID rfl
theorem agS:XA.size=1:=ID rfl
theorem abg:XA.bytes=1:=ID rfl
theorem atJ:qw XA=True:=eq_true rfl
theorem atK:zc XA=[.v (Value.int IntKind.u8 0)]:=ID rfl
theorem aUO{K:TI→Prop}:@tyW Tryz.prog 270 ⟨K⟩=K Xz:=qi aXl
theorem atI:Xz.kd=Kd.int IntKind.u8:=ID rfl
theorem ami:Xz.kd.agg=false:=ID rfl
theorem agR:Xz.size=1:=ID rfl
theorem abf:Xz.bytes=1:=ID rfl
theorem atG:qw Xz=True:=eq_true rfl
theorem atH:zc Xz=[.v (Value.int IntKind.u8 0)]:=ID rfl
theorem aUN{K:TI→Prop}:@tyW Tryz.prog 271 ⟨K⟩=K Xy:=qi aXk
theorem atF:Xy.kd=Kd.oth:=ID rfl
theorem amh:Xy.kd.agg=false:=ID rfl
theorem agQ:Xy.size=1:=ID rfl
theorem abe:Xy.bytes=8:=ID rfl
theorem atD:qw Xy=True:=eq_true rfl
theorem atE:zc Xy=[.v Value.nilFunc]:=ID rfl
theorem aUM{K:TI→Prop}:@tyW Tryz.prog 273 ⟨K⟩=K Xx:=qi aXj
theorem atC:Xx.kd=Kd.int IntKind.i32:=ID rfl
theorem amg:Xx.kd.agg=false:=ID rfl
theorem agP:Xx.size=1:=ID rfl
theorem abd:Xx.bytes=4:=ID rfl
theorem atA:qw Xx=True:=eq_true rfl
theorem atB:zc Xx=[.v (Value.int IntKind.i32 0)]:=ID rfl
theorem aUL{K:TI→Prop}:@tyW Tryz.prog 274 ⟨K⟩=K Xw:=qi aXi
theorem atz:Xw.kd=Kd.int IntKind.i32:=ID rfl
theorem amf:Xw.kd.agg=false:=ID rfl
theorem agO:Xw.size=1:=ID rfl
theorem abc:Xw.bytes=4:=ID rfl
theorem atx:qw Xw=True:=eq_true rfl
theorem aty:zc Xw=[.v (Value.int IntKind.i32 0)]:=ID rfl
theorem aUK{K:TI→Prop}:@tyW Tryz.prog 277 ⟨K⟩=K Xv:=qi aXh
theorem atw:Xv.kd=Kd.oth:=ID rfl
theorem ame:Xv.kd.agg=false:=ID rfl
theorem agN:Xv.size=1:=ID rfl
theorem abb:Xv.bytes=8:=ID rfl
theorem atu:qw Xv=True:=eq_true rfl
theorem atv:zc Xv=[.v Value.nilFunc]:=ID rfl
theorem be2:qq Tryz.prog 2=True:=eq_true ⟨_,Tryz.func2,of_decide_eq_false (by kernel_rfl),rfl⟩
theorem be1:qq Tryz.prog 3=True:=eq_true ⟨_,Tryz.func3,of_decide_eq_false (by kernel_rfl),rfl⟩
theorem be0:qq Tryz.prog 4=True:=eq_true ⟨_,Tryz.func4,of_decide_eq_false (by kernel_rfl),rfl⟩
theorem beZ:qq Tryz.prog 5=True:=eq_true ⟨_,Tryz.func5,of_decide_eq_false (by kernel_rfl),rfl⟩
theorem beY:qq Tryz.prog 6=True:=eq_true ⟨_,Tryz.func6,of_decide_eq_false (by kernel_rfl),rfl⟩
theorem beX:qq Tryz.prog 7=True:=eq_true ⟨_,Tryz.func7,of_decide_eq_false (by kernel_rfl),rfl⟩
theorem beW:qq Tryz.prog 8=True:=eq_true ⟨_,Tryz.func8,of_decide_eq_false (by kernel_rfl),rfl⟩
theorem beV:qq Tryz.prog 9=True:=eq_true ⟨_,Tryz.func9,of_decide_eq_false (by kernel_rfl),rfl⟩
theorem bbP:qq Tryz.prog 10=True:=eq_true ⟨_,Tryz.func10,of_decide_eq_false (by kernel_rfl),rfl⟩
theorem bbO:qq Tryz.prog 11=True:=eq_true ⟨_,Tryz.func11,of_decide_eq_false (by kernel_rfl),rfl⟩
theorem bbN:qq Tryz.prog 12=True:=eq_true ⟨_,Tryz.func12,of_decide_eq_false (by kernel_rfl),rfl⟩
theorem bbM:qq Tryz.prog 13=True:=eq_true ⟨_,Tryz.func13,of_decide_eq_false (by kernel_rfl),rfl⟩
theorem bbL:qq Tryz.prog 14=True:=eq_true ⟨_,Tryz.func14,of_decide_eq_false (by kernel_rfl),rfl⟩
theorem bbK:qq Tryz.prog 15=True:=eq_true ⟨_,Tryz.func15,of_decide_eq_false (by kernel_rfl),rfl⟩
theorem bbJ:qq Tryz.prog 16=True:=eq_true ⟨_,Tryz.func16,of_decide_eq_false (by kernel_rfl),rfl⟩
theorem bbI:qq Tryz.prog 17=True:=eq_true ⟨_,Tryz.func17,of_decide_eq_false (by kernel_rfl),rfl⟩
theorem bbH:qq Tryz.prog 18=True:=eq_true ⟨_,Tryz.func18,of_decide_eq_false (by kernel_rfl),rfl⟩
theorem bbG:qq Tryz.prog 19=True:=eq_true ⟨_,Tryz.func19,of_decide_eq_false (by kernel_rfl),rfl⟩
theorem bbF:qq Tryz.prog 20=True:=eq_true ⟨_,Tryz.func20,of_decide_eq_false (by kernel_rfl),rfl⟩
theorem bbE:qq Tryz.prog 21=True:=eq_true ⟨_,Tryz.func21,of_decide_eq_false (by kernel_rfl),rfl⟩
theorem bbD:qq Tryz.prog 22=True:=eq_true ⟨_,Tryz.func22,of_decide_eq_false (by kernel_rfl),rfl⟩
theorem bbC:qq Tryz.prog 23=True:=eq_true ⟨_,Tryz.func23,of_decide_eq_false (by kernel_rfl),rfl⟩
theorem bbB:qq Tryz.prog 24=True:=eq_true ⟨_,Tryz.func24,of_decide_eq_false (by kernel_rfl),rfl⟩
theorem bbA:qq Tryz.prog 25=True:=eq_true ⟨_,Tryz.func25,of_decide_eq_false (by kernel_rfl),rfl⟩
theorem bbz:qq Tryz.prog 26=True:=eq_true ⟨_,Tryz.func26,of_decide_eq_false (by kernel_rfl),rfl⟩
theorem bby:qq Tryz.prog 27=True:=eq_true ⟨_,Tryz.func27,of_decide_eq_false (by kernel_rfl),rfl⟩
theorem bbx:qq Tryz.prog 28=True:=eq_true ⟨_,Tryz.func28,of_decide_eq_false (by kernel_rfl),rfl⟩
theorem bbw:qq Tryz.prog 29=True:=eq_true ⟨_,Tryz.func29,of_decide_eq_false (by kernel_rfl),rfl⟩
theorem bbv:qq Tryz.prog 30=True:=eq_true ⟨_,Tryz.func30,of_decide_eq_false (by kernel_rfl),rfl⟩
theorem bbu:qq Tryz.prog 31=True:=eq_true ⟨_,Tryz.func31,of_decide_eq_false (by kernel_rfl),rfl⟩
theorem bbt:qq Tryz.prog 32=True:=eq_true ⟨_,Tryz.func32,of_decide_eq_false (by kernel_rfl),rfl⟩
theorem bbs:qq Tryz.prog 33=True:=eq_true ⟨_,Tryz.func33,of_decide_eq_false (by kernel_rfl),rfl⟩
theorem bbr:qq Tryz.prog 34=True:=eq_true ⟨_,Tryz.func34,of_decide_eq_false (by kernel_rfl),rfl⟩
theorem bbq:qq Tryz.prog 35=True:=eq_true ⟨_,Tryz.func35,of_decide_eq_false (by kernel_rfl),rfl⟩
theorem bbp:qq Tryz.prog 36=True:=eq_true ⟨_,Tryz.func36,of_decide_eq_false (by kernel_rfl),rfl⟩
theorem bbo:qq Tryz.prog 37=True:=eq_true ⟨_,Tryz.func37,of_decide_eq_false (by kernel_rfl),rfl⟩
theorem bbn:qq Tryz.prog 38=True:=eq_true ⟨_,Tryz.func38,of_decide_eq_false (by kernel_rfl),rfl⟩
theorem bbm:qq Tryz.prog 39=True:=eq_true ⟨_,Tryz.func39,of_decide_eq_false (by kernel_rfl),rfl⟩
theorem bbl:qq Tryz.prog 40=True:=eq_true ⟨_,Tryz.func40,of_decide_eq_false (by kernel_rfl),rfl⟩
theorem bbk:qq Tryz.prog 41=True:=eq_true ⟨_,Tryz.func41,of_decide_eq_false (by kernel_rfl),rfl⟩
theorem bbj:qq Tryz.prog 42=True:=eq_true ⟨_,Tryz.func42,of_decide_eq_false (by kernel_rfl),rfl⟩
theorem bbi:qq Tryz.prog 43=True:=eq_true ⟨_,Tryz.func43,of_decide_eq_false (by kernel_rfl),rfl⟩
theorem bbh:qq Tryz.prog 44=True:=eq_true ⟨_,Tryz.func44,of_decide_eq_false (by kernel_rfl),rfl⟩
theorem bbg:qq Tryz.prog 45=True:=eq_true ⟨_,Tryz.func45,of_decide_eq_false (by kernel_rfl),rfl⟩
theorem bbf:qq Tryz.prog 46=True:=eq_true ⟨_,Tryz.func46,of_decide_eq_false (by kernel_rfl),rfl⟩
theorem bbe:qq Tryz.prog 47=True:=eq_true ⟨_,Tryz.func47,of_decide_eq_false (by kernel_rfl),rfl⟩
theorem bbd:qq Tryz.prog 48=True:=eq_true ⟨_,Tryz.func48,of_decide_eq_false (by kernel_rfl),rfl⟩
theorem bbc:qq Tryz.prog 49=True:=eq_true ⟨_,Tryz.func49,of_decide_eq_false (by kernel_rfl),rfl⟩
theorem bbb:qq Tryz.prog 50=True:=eq_true ⟨_,Tryz.func50,of_decide_eq_false (by kernel_rfl),rfl⟩
theorem bba:qq Tryz.prog 51=True:=eq_true ⟨_,Tryz.func51,of_decide_eq_false (by kernel_rfl),rfl⟩
theorem ba9:qq Tryz.prog 52=True:=eq_true ⟨_,Tryz.func52,of_decide_eq_false (by kernel_rfl),rfl⟩
theorem ba8:qq Tryz.prog 53=True:=eq_true ⟨_,Tryz.func53,of_decide_eq_false (by kernel_rfl),rfl⟩
theorem ba7:qq Tryz.prog 54=True:=eq_true ⟨_,Tryz.func54,of_decide_eq_false (by kernel_rfl),rfl⟩
theorem ba6:qq Tryz.prog 55=True:=eq_true ⟨_,Tryz.func55,of_decide_eq_false (by kernel_rfl),rfl⟩
theorem ba5:qq Tryz.prog 56=True:=eq_true ⟨_,Tryz.func56,of_decide_eq_false (by kernel_rfl),rfl⟩
theorem ba4:qq Tryz.prog 57=True:=eq_true ⟨_,Tryz.func57,of_decide_eq_false (by kernel_rfl),rfl⟩
theorem ba3:qq Tryz.prog 58=True:=eq_true ⟨_,Tryz.func58,of_decide_eq_false (by kernel_rfl),rfl⟩
theorem ba2:qq Tryz.prog 59=True:=eq_true ⟨_,Tryz.func59,of_decide_eq_false (by kernel_rfl),rfl⟩
theorem ba1:qq Tryz.prog 60=True:=eq_true ⟨_,Tryz.func60,of_decide_eq_false (by kernel_rfl),rfl⟩
theorem ba0:qq Tryz.prog 61=True:=eq_true ⟨_,Tryz.func61,of_decide_eq_false (by kernel_rfl),rfl⟩
theorem baZ:qq Tryz.prog 62=True:=eq_true ⟨_,Tryz.func62,of_decide_eq_false (by kernel_rfl),rfl⟩
theorem baY:qq Tryz.prog 63=True:=eq_true ⟨_,Tryz.func63,of_decide_eq_false (by kernel_rfl),rfl⟩
theorem baX:qq Tryz.prog 64=True:=eq_true ⟨_,Tryz.func64,of_decide_eq_false (by kernel_rfl),rfl⟩
theorem baW:qq Tryz.prog 65=True:=eq_true ⟨_,Tryz.func65,of_decide_eq_false (by kernel_rfl),rfl⟩
theorem baV:qq Tryz.prog 66=True:=eq_true ⟨_,Tryz.func66,of_decide_eq_false (by kernel_rfl),rfl⟩
theorem baU:qq Tryz.prog 67=True:=eq_true ⟨_,Tryz.func67,of_decide_eq_false (by kernel_rfl),rfl⟩
theorem baT:qq Tryz.prog 68=True:=eq_true ⟨_,Tryz.func68,of_decide_eq_false (by kernel_rfl),rfl⟩
theorem baS:qq Tryz.prog 69=True:=eq_true ⟨_,Tryz.func69,of_decide_eq_false (by kernel_rfl),rfl⟩
theorem baR:qq Tryz.prog 70=True:=eq_true ⟨_,Tryz.func70,of_decide_eq_false (by kernel_rfl),rfl⟩
theorem baQ:qq Tryz.prog 71=True:=eq_true ⟨_,Tryz.func71,of_decide_eq_false (by kernel_rfl),rfl⟩
theorem baP:qq Tryz.prog 72=True:=eq_true ⟨_,Tryz.func72,of_decide_eq_false (by kernel_rfl),rfl⟩
theorem baO:qq Tryz.prog 73=True:=eq_true ⟨_,Tryz.func73,of_decide_eq_false (by kernel_rfl),rfl⟩
theorem baN:qq Tryz.prog 74=True:=eq_true ⟨_,Tryz.func74,of_decide_eq_false (by kernel_rfl),rfl⟩
theorem baM:qq Tryz.prog 75=True:=eq_true ⟨_,Tryz.func75,of_decide_eq_false (by kernel_rfl),rfl⟩
theorem baL:qq Tryz.prog 76=True:=eq_true ⟨_,Tryz.func76,of_decide_eq_false (by kernel_rfl),rfl⟩
theorem baK:qq Tryz.prog 77=True:=eq_true ⟨_,Tryz.func77,of_decide_eq_false (by kernel_rfl),rfl⟩
theorem baJ:qq Tryz.prog 78=True:=eq_true ⟨_,Tryz.func78,of_decide_eq_false (by kernel_rfl),rfl⟩
theorem baI:qq Tryz.prog 79=True:=eq_true ⟨_,Tryz.func79,of_decide_eq_false (by kernel_rfl),rfl⟩
theorem baH:qq Tryz.prog 80=True:=eq_true ⟨_,Tryz.func80,of_decide_eq_false (by kernel_rfl),rfl⟩
theorem baG:qq Tryz.prog 81=True:=eq_true ⟨_,Tryz.func81,of_decide_eq_false (by kernel_rfl),rfl⟩
theorem baF:qq Tryz.prog 82=True:=eq_true ⟨_,Tryz.func82,of_decide_eq_false (by kernel_rfl),rfl⟩
theorem baE:qq Tryz.prog 83=True:=eq_true ⟨_,Tryz.func83,of_decide_eq_false (by kernel_rfl),rfl⟩
theorem baD:qq Tryz.prog 84=True:=eq_true ⟨_,Tryz.func84,of_decide_eq_false (by kernel_rfl),rfl⟩
theorem baC:qq Tryz.prog 85=True:=eq_true ⟨_,Tryz.func85,of_decide_eq_false (by kernel_rfl),rfl⟩
theorem baB:qq Tryz.prog 86=True:=eq_true ⟨_,Tryz.func86,of_decide_eq_false (by kernel_rfl),rfl⟩
theorem baA:qq Tryz.prog 87=True:=eq_true ⟨_,Tryz.func87,of_decide_eq_false (by kernel_rfl),rfl⟩
theorem baz:qq Tryz.prog 88=True:=eq_true ⟨_,Tryz.func88,of_decide_eq_false (by kernel_rfl),rfl⟩
theorem bay:qq Tryz.prog 89=True:=eq_true ⟨_,Tryz.func89,of_decide_eq_false (by kernel_rfl),rfl⟩
theorem bax:qq Tryz.prog 90=True:=eq_true ⟨_,Tryz.func90,of_decide_eq_false (by kernel_rfl),rfl⟩
theorem baw:qq Tryz.prog 91=True:=eq_true ⟨_,Tryz.func91,of_decide_eq_false (by kernel_rfl),rfl⟩
theorem bav:qq Tryz.prog 92=True:=eq_true ⟨_,Tryz.func92,of_decide_eq_false (by kernel_rfl),rfl⟩
theorem bau:qq Tryz.prog 93=True:=eq_true ⟨_,Tryz.func93,of_decide_eq_false (by kernel_rfl),rfl⟩
theorem bat:qq Tryz.prog 94=True:=eq_true ⟨_,Tryz.func94,of_decide_eq_false (by kernel_rfl),rfl⟩
theorem bas:qq Tryz.prog 95=True:=eq_true ⟨_,Tryz.func95,of_decide_eq_false (by kernel_rfl),rfl⟩
theorem bar:qq Tryz.prog 96=True:=eq_true ⟨_,Tryz.func96,of_decide_eq_false (by kernel_rfl),rfl⟩
theorem baq:qq Tryz.prog 97=True:=eq_true ⟨_,Tryz.func97,of_decide_eq_false (by kernel_rfl),rfl⟩
theorem bap:qq Tryz.prog 98=True:=eq_true ⟨_,Tryz.func98,of_decide_eq_false (by kernel_rfl),rfl⟩
theorem bao:qq Tryz.prog 99=True:=eq_true ⟨_,Tryz.func99,of_decide_eq_false (by kernel_rfl),rfl⟩
theorem aTe:qq Tryz.prog 100=True:=eq_true ⟨_,Tryz.func100,of_decide_eq_false (by kernel_rfl),rfl⟩
theorem aTd:qq Tryz.prog 101=True:=eq_true ⟨_,Tryz.func101,of_decide_eq_false (by kernel_rfl),rfl⟩
theorem aTc:qq Tryz.prog 102=True:=eq_true ⟨_,Tryz.func102,of_decide_eq_false (by kernel_rfl),rfl⟩
theorem aTb:qq Tryz.prog 103=True:=eq_true ⟨_,Tryz.func103,of_decide_eq_false (by kernel_rfl),rfl⟩
theorem aTa:qq Tryz.prog 104=True:=eq_true ⟨_,Tryz.func104,of_decide_eq_false (by kernel_rfl),rfl⟩
theorem aS9:qq Tryz.prog 105=True:=eq_true ⟨_,Tryz.func105,of_decide_eq_false (by kernel_rfl),rfl⟩
theorem aS8:qq Tryz.prog 106=True:=eq_true ⟨_,Tryz.func106,of_decide_eq_false (by kernel_rfl),rfl⟩
theorem aS7:qq Tryz.prog 107=True:=eq_true ⟨_,Tryz.func107,of_decide_eq_false (by kernel_rfl),rfl⟩
theorem aS6:qq Tryz.prog 108=True:=eq_true ⟨_,Tryz.func108,of_decide_eq_false (by kernel_rfl),rfl⟩
theorem aS5:qq Tryz.prog 109=True:=eq_true ⟨_,Tryz.func109,of_decide_eq_false (by kernel_rfl),rfl⟩
theorem aS4:qq Tryz.prog 110=True:=eq_true ⟨_,Tryz.func110,of_decide_eq_false (by kernel_rfl),rfl⟩
theorem aS3:qq Tryz.prog 111=True:=eq_true ⟨_,Tryz.func111,of_decide_eq_false (by kernel_rfl),rfl⟩
theorem aS2:qq Tryz.prog 112=True:=eq_true ⟨_,Tryz.func112,of_decide_eq_false (by kernel_rfl),rfl⟩
theorem aS1:qq Tryz.prog 113=True:=eq_true ⟨_,Tryz.func113,of_decide_eq_false (by kernel_rfl),rfl⟩
theorem aS0:qq Tryz.prog 114=True:=eq_true ⟨_,Tryz.func114,of_decide_eq_false (by kernel_rfl),rfl⟩
theorem aSZ:qq Tryz.prog 115=True:=eq_true ⟨_,Tryz.func115,of_decide_eq_false (by kernel_rfl),rfl⟩
theorem aSY:qq Tryz.prog 116=True:=eq_true ⟨_,Tryz.func116,of_decide_eq_false (by kernel_rfl),rfl⟩
theorem aSX:qq Tryz.prog 117=True:=eq_true ⟨_,Tryz.func117,of_decide_eq_false (by kernel_rfl),rfl⟩
theorem aSW:qq Tryz.prog 118=True:=eq_true ⟨_,Tryz.func118,of_decide_eq_false (by kernel_rfl),rfl⟩
theorem aSV:qq Tryz.prog 119=True:=eq_true ⟨_,Tryz.func119,of_decide_eq_false (by kernel_rfl),rfl⟩
theorem aSU:qq Tryz.prog 120=True:=eq_true ⟨_,Tryz.func120,of_decide_eq_false (by kernel_rfl),rfl⟩
theorem aST:qq Tryz.prog 121=True:=eq_true ⟨_,Tryz.func121,of_decide_eq_false (by kernel_rfl),rfl⟩
theorem aSS:qq Tryz.prog 122=True:=eq_true ⟨_,Tryz.func122,of_decide_eq_false (by kernel_rfl),rfl⟩
theorem aSR:qq Tryz.prog 123=True:=eq_true ⟨_,Tryz.func123,of_decide_eq_false (by kernel_rfl),rfl⟩
theorem aSQ:qq Tryz.prog 124=True:=eq_true ⟨_,Tryz.func124,of_decide_eq_false (by kernel_rfl),rfl⟩
theorem aSP:qq Tryz.prog 125=True:=eq_true ⟨_,Tryz.func125,of_decide_eq_false (by kernel_rfl),rfl⟩
theorem aSO:qq Tryz.prog 126=True:=eq_true ⟨_,Tryz.func126,of_decide_eq_false (by kernel_rfl),rfl⟩
theorem aSN:qq Tryz.prog 127=True:=eq_true ⟨_,Tryz.func127,of_decide_eq_false (by kernel_rfl),rfl⟩
theorem aSM:qq Tryz.prog 128=True:=eq_true ⟨_,Tryz.func128,of_decide_eq_false (by kernel_rfl),rfl⟩
theorem aSL:qq Tryz.prog 129=True:=eq_true ⟨_,Tryz.func129,of_decide_eq_false (by kernel_rfl),rfl⟩
theorem aSK:qq Tryz.prog 130=True:=eq_true ⟨_,Tryz.func130,of_decide_eq_false (by kernel_rfl),rfl⟩
theorem aSJ:qq Tryz.prog 131=True:=eq_true ⟨_,Tryz.func131,of_decide_eq_false (by kernel_rfl),rfl⟩
theorem aSI:qq Tryz.prog 132=True:=eq_true ⟨_,Tryz.func132,of_decide_eq_false (by kernel_rfl),rfl⟩
theorem aSH:qq Tryz.prog 133=True:=eq_true ⟨_,Tryz.func133,of_decide_eq_false (by kernel_rfl),rfl⟩
theorem aSG:qq Tryz.prog 134=True:=eq_true ⟨_,Tryz.func134,of_decide_eq_false (by kernel_rfl),rfl⟩
theorem aSF:qq Tryz.prog 135=True:=eq_true ⟨_,Tryz.func135,of_decide_eq_false (by kernel_rfl),rfl⟩
theorem aSE:qq Tryz.prog 136=True:=eq_true ⟨_,Tryz.func136,of_decide_eq_false (by kernel_rfl),rfl⟩
theorem aSD:qq Tryz.prog 137=True:=eq_true ⟨_,Tryz.func137,of_decide_eq_false (by kernel_rfl),rfl⟩
theorem aSC:qq Tryz.prog 138=True:=eq_true ⟨_,Tryz.func138,of_decide_eq_false (by kernel_rfl),rfl⟩
theorem aSB:qq Tryz.prog 139=True:=eq_true ⟨_,Tryz.func139,of_decide_eq_false (by kernel_rfl),rfl⟩
theorem aSA:qq Tryz.prog 140=True:=eq_true ⟨_,Tryz.func140,of_decide_eq_false (by kernel_rfl),rfl⟩
theorem aSz:qq Tryz.prog 141=True:=eq_true ⟨_,Tryz.func141,of_decide_eq_false (by kernel_rfl),rfl⟩
theorem aSy:qq Tryz.prog 142=True:=eq_true ⟨_,Tryz.func142,of_decide_eq_false (by kernel_rfl),rfl⟩
theorem aSx:qq Tryz.prog 143=True:=eq_true ⟨_,Tryz.func143,of_decide_eq_false (by kernel_rfl),rfl⟩
theorem aSw:qq Tryz.prog 144=True:=eq_true ⟨_,Tryz.func144,of_decide_eq_false (by kernel_rfl),rfl⟩
theorem aSv:qq Tryz.prog 145=True:=eq_true ⟨_,Tryz.func145,of_decide_eq_false (by kernel_rfl),rfl⟩
theorem aSu:qq Tryz.prog 146=True:=eq_true ⟨_,Tryz.func146,of_decide_eq_false (by kernel_rfl),rfl⟩
theorem aSt:qq Tryz.prog 147=True:=eq_true ⟨_,Tryz.func147,of_decide_eq_false (by kernel_rfl),rfl⟩
theorem aSs:qq Tryz.prog 148=True:=eq_true ⟨_,Tryz.func148,of_decide_eq_false (by kernel_rfl),rfl⟩
theorem aSr:qq Tryz.prog 149=True:=eq_true ⟨_,Tryz.func149,of_decide_eq_false (by kernel_rfl),rfl⟩
theorem aSq:qq Tryz.prog 150=True:=eq_true ⟨_,Tryz.func150,of_decide_eq_false (by kernel_rfl),rfl⟩
theorem aSp:qq Tryz.prog 151=True:=eq_true ⟨_,Tryz.func151,of_decide_eq_false (by kernel_rfl),rfl⟩
theorem aSo:qq Tryz.prog 152=True:=eq_true ⟨_,Tryz.func152,of_decide_eq_false (by kernel_rfl),rfl⟩
theorem aSn:qq Tryz.prog 153=True:=eq_true ⟨_,Tryz.func153,of_decide_eq_false (by kernel_rfl),rfl⟩
theorem aSm:qq Tryz.prog 154=True:=eq_true ⟨_,Tryz.func154,of_decide_eq_false (by kernel_rfl),rfl⟩
theorem aSl:qq Tryz.prog 155=True:=eq_true ⟨_,Tryz.func155,of_decide_eq_false (by kernel_rfl),rfl⟩
theorem aSk:qq Tryz.prog 156=True:=eq_true ⟨_,Tryz.func156,of_decide_eq_false (by kernel_rfl),rfl⟩
theorem aSj:qq Tryz.prog 157=True:=eq_true ⟨_,Tryz.func157,of_decide_eq_false (by kernel_rfl),rfl⟩
theorem aSi:qq Tryz.prog 158=True:=eq_true ⟨_,Tryz.func158,of_decide_eq_false (by kernel_rfl),rfl⟩
theorem aSh:qq Tryz.prog 159=True:=eq_true ⟨_,Tryz.func159,of_decide_eq_false (by kernel_rfl),rfl⟩
theorem aSg:qq Tryz.prog 160=True:=eq_true ⟨_,Tryz.func160,of_decide_eq_false (by kernel_rfl),rfl⟩
theorem aSf:qq Tryz.prog 161=True:=eq_true ⟨_,Tryz.func161,of_decide_eq_false (by kernel_rfl),rfl⟩
theorem aSe:qq Tryz.prog 162=True:=eq_true ⟨_,Tryz.func162,of_decide_eq_false (by kernel_rfl),rfl⟩
theorem aSd:qq Tryz.prog 163=True:=eq_true ⟨_,Tryz.func163,of_decide_eq_false (by kernel_rfl),rfl⟩
theorem aSc:qq Tryz.prog 164=True:=eq_true ⟨_,Tryz.func164,of_decide_eq_false (by kernel_rfl),rfl⟩
theorem aSb:qq Tryz.prog 165=True:=eq_true ⟨_,Tryz.func165,of_decide_eq_false (by kernel_rfl),rfl⟩
theorem aSa:qq Tryz.prog 166=True:=eq_true ⟨_,Tryz.func166,of_decide_eq_false (by kernel_rfl),rfl⟩
theorem aR9:qq Tryz.prog 167=True:=eq_true ⟨_,Tryz.func167,of_decide_eq_false (by kernel_rfl),rfl⟩
theorem aR8:qq Tryz.prog 168=True:=eq_true ⟨_,Tryz.func168,of_decide_eq_false (by kernel_rfl),rfl⟩
theorem aR7:qq Tryz.prog 169=True:=eq_true ⟨_,Tryz.func169,of_decide_eq_false (by kernel_rfl),rfl⟩
theorem aR6:qq Tryz.prog 170=True:=eq_true ⟨_,Tryz.func170,of_decide_eq_false (by kernel_rfl),rfl⟩
theorem aR5:qq Tryz.prog 171=True:=eq_true ⟨_,Tryz.func171,of_decide_eq_false (by kernel_rfl),rfl⟩
theorem aR4:qq Tryz.prog 172=True:=eq_true ⟨_,Tryz.func172,of_decide_eq_false (by kernel_rfl),rfl⟩
theorem aR3:qq Tryz.prog 173=True:=eq_true ⟨_,Tryz.func173,of_decide_eq_false (by kernel_rfl),rfl⟩
theorem aR2:qq Tryz.prog 174=True:=eq_true ⟨_,Tryz.func174,of_decide_eq_false (by kernel_rfl),rfl⟩
theorem aR1:qq Tryz.prog 175=True:=eq_true ⟨_,Tryz.func175,of_decide_eq_false (by kernel_rfl),rfl⟩
theorem aR0:qq Tryz.prog 176=True:=eq_true ⟨_,Tryz.func176,of_decide_eq_false (by kernel_rfl),rfl⟩
theorem aRZ:qq Tryz.prog 177=True:=eq_true ⟨_,Tryz.func177,of_decide_eq_false (by kernel_rfl),rfl⟩
theorem aRY:qq Tryz.prog 178=True:=eq_true ⟨_,Tryz.func178,of_decide_eq_false (by kernel_rfl),rfl⟩
theorem aRX:qq Tryz.prog 179=True:=eq_true ⟨_,Tryz.func179,of_decide_eq_false (by kernel_rfl),rfl⟩
theorem aRW:qq Tryz.prog 180=True:=eq_true ⟨_,Tryz.func180,of_decide_eq_false (by kernel_rfl),rfl⟩
theorem aRV:qq Tryz.prog 181=True:=eq_true ⟨_,Tryz.func181,of_decide_eq_false (by kernel_rfl),rfl⟩
theorem aRU:qq Tryz.prog 182=True:=eq_true ⟨_,Tryz.func182,of_decide_eq_false (by kernel_rfl),rfl⟩
theorem aRT:qq Tryz.prog 183=True:=eq_true ⟨_,Tryz.func183,of_decide_eq_false (by kernel_rfl),rfl⟩
theorem aRS:qq Tryz.prog 184=True:=eq_true ⟨_,Tryz.func184,of_decide_eq_false (by kernel_rfl),rfl⟩
theorem aRR:qq Tryz.prog 185=True:=eq_true ⟨_,Tryz.func185,of_decide_eq_false (by kernel_rfl),rfl⟩
theorem aRQ:qq Tryz.prog 186=True:=eq_true ⟨_,Tryz.func186,of_decide_eq_false (by kernel_rfl),rfl⟩
theorem aRP:qq Tryz.prog 187=True:=eq_true ⟨_,Tryz.func187,of_decide_eq_false (by kernel_rfl),rfl⟩
theorem aRO:qq Tryz.prog 188=True:=eq_true ⟨_,Tryz.func188,of_decide_eq_false (by kernel_rfl),rfl⟩
theorem aRN:qq Tryz.prog 189=True:=eq_true ⟨_,Tryz.func189,of_decide_eq_false (by kernel_rfl),rfl⟩
theorem aRM:qq Tryz.prog 190=True:=eq_true ⟨_,Tryz.func190,of_decide_eq_false (by kernel_rfl),rfl⟩
theorem aRL:qq Tryz.prog 191=True:=eq_true ⟨_,Tryz.func191,of_decide_eq_false (by kernel_rfl),rfl⟩
theorem aRK:qq Tryz.prog 192=True:=eq_true ⟨_,Tryz.func192,of_decide_eq_false (by kernel_rfl),rfl⟩
theorem aRJ:qq Tryz.prog 193=True:=eq_true ⟨_,Tryz.func193,of_decide_eq_false (by kernel_rfl),rfl⟩
theorem aRI:qq Tryz.prog 194=True:=eq_true ⟨_,Tryz.func194,of_decide_eq_false (by kernel_rfl),rfl⟩
theorem aRH:qq Tryz.prog 195=True:=eq_true ⟨_,Tryz.func195,of_decide_eq_false (by kernel_rfl),rfl⟩
theorem aRG:qq Tryz.prog 196=True:=eq_true ⟨_,Tryz.func196,of_decide_eq_false (by kernel_rfl),rfl⟩
theorem aRF:qq Tryz.prog 197=True:=eq_true ⟨_,Tryz.func197,of_decide_eq_false (by kernel_rfl),rfl⟩
theorem aRE:qq Tryz.prog 198=True:=eq_true ⟨_,Tryz.func198,of_decide_eq_false (by kernel_rfl),rfl⟩
theorem aRD:qq Tryz.prog 199=True:=eq_true ⟨_,Tryz.func199,of_decide_eq_false (by kernel_rfl),rfl⟩
theorem aRC:qq Tryz.prog 200=True:=eq_true ⟨_,Tryz.func200,of_decide_eq_false (by kernel_rfl),rfl⟩
theorem aRB:qq Tryz.prog 201=True:=eq_true ⟨_,Tryz.func201,of_decide_eq_false (by kernel_rfl),rfl⟩
theorem aRA:qq Tryz.prog 202=True:=eq_true ⟨_,Tryz.func202,of_decide_eq_false (by kernel_rfl),rfl⟩
theorem aRz:qq Tryz.prog 203=True:=eq_true ⟨_,Tryz.func203,of_decide_eq_false (by kernel_rfl),rfl⟩
theorem aRy:qq Tryz.prog 204=True:=eq_true ⟨_,Tryz.func204,of_decide_eq_false (by kernel_rfl),rfl⟩
theorem aRx:qq Tryz.prog 205=True:=eq_true ⟨_,Tryz.func205,of_decide_eq_false (by kernel_rfl),rfl⟩
theorem aRw:qq Tryz.prog 206=True:=eq_true ⟨_,Tryz.func206,of_decide_eq_false (by kernel_rfl),rfl⟩
theorem aRv:qq Tryz.prog 207=True:=eq_true ⟨_,Tryz.func207,of_decide_eq_false (by kernel_rfl),rfl⟩
theorem aRu:qq Tryz.prog 208=True:=eq_true ⟨_,Tryz.func208,of_decide_eq_false (by kernel_rfl),rfl⟩
theorem aRt:qq Tryz.prog 209=True:=eq_true ⟨_,Tryz.func209,of_decide_eq_false (by kernel_rfl),rfl⟩
theorem aRs:qq Tryz.prog 210=True:=eq_true ⟨_,Tryz.func210,of_decide_eq_false (by kernel_rfl),rfl⟩
theorem aRr:qq Tryz.prog 211=True:=eq_true ⟨_,Tryz.func211,of_decide_eq_false (by kernel_rfl),rfl⟩
theorem aRq:qq Tryz.prog 212=True:=eq_true ⟨_,Tryz.func212,of_decide_eq_false (by kernel_rfl),rfl⟩
theorem aRp:qq Tryz.prog 213=True:=eq_true ⟨_,Tryz.func213,of_decide_eq_false (by kernel_rfl),rfl⟩
theorem aRo:qq Tryz.prog 214=True:=eq_true ⟨_,Tryz.func214,of_decide_eq_false (by kernel_rfl),rfl⟩
theorem aRn:qq Tryz.prog 215=True:=eq_true ⟨_,Tryz.func215,of_decide_eq_false (by kernel_rfl),rfl⟩
theorem aRm:qq Tryz.prog 216=True:=eq_true ⟨_,Tryz.func216,of_decide_eq_false (by kernel_rfl),rfl⟩
theorem aRl:qq Tryz.prog 217=True:=eq_true ⟨_,Tryz.func217,of_decide_eq_false (by kernel_rfl),rfl⟩
theorem aRk:qq Tryz.prog 218=True:=eq_true ⟨_,Tryz.func218,of_decide_eq_false (by kernel_rfl),rfl⟩
theorem aRj:qq Tryz.prog 219=True:=eq_true ⟨_,Tryz.func219,of_decide_eq_false (by kernel_rfl),rfl⟩
theorem aRi:qq Tryz.prog 220=True:=eq_true ⟨_,Tryz.func220,of_decide_eq_false (by kernel_rfl),rfl⟩
theorem aRh:qq Tryz.prog 221=True:=eq_true ⟨_,Tryz.func221,of_decide_eq_false (by kernel_rfl),rfl⟩
theorem aRg:qq Tryz.prog 222=True:=eq_true ⟨_,Tryz.func222,of_decide_eq_false (by kernel_rfl),rfl⟩
theorem aRf:qq Tryz.prog 223=True:=eq_true ⟨_,Tryz.func223,of_decide_eq_false (by kernel_rfl),rfl⟩
theorem aRe:qq Tryz.prog 224=True:=eq_true ⟨_,Tryz.func224,of_decide_eq_false (by kernel_rfl),rfl⟩
theorem aRd:qq Tryz.prog 225=True:=eq_true ⟨_,Tryz.func225,of_decide_eq_false (by kernel_rfl),rfl⟩
theorem aRc:qq Tryz.prog 226=True:=eq_true ⟨_,Tryz.func226,of_decide_eq_false (by kernel_rfl),rfl⟩
theorem aRb:qq Tryz.prog 227=True:=eq_true ⟨_,Tryz.func227,of_decide_eq_false (by kernel_rfl),rfl⟩
theorem aRa:qq Tryz.prog 228=True:=eq_true ⟨_,Tryz.func228,of_decide_eq_false (by kernel_rfl),rfl⟩
theorem aQ9:qq Tryz.prog 229=True:=eq_true ⟨_,Tryz.func229,of_decide_eq_false (by kernel_rfl),rfl⟩
theorem aQ8:qq Tryz.prog 230=True:=eq_true ⟨_,Tryz.func230,of_decide_eq_false (by kernel_rfl),rfl⟩
theorem aQ7:qq Tryz.prog 231=True:=eq_true ⟨_,Tryz.func231,of_decide_eq_false (by kernel_rfl),rfl⟩
theorem aQ6:qq Tryz.prog 232=True:=eq_true ⟨_,Tryz.func232,of_decide_eq_false (by kernel_rfl),rfl⟩
theorem aQ5:qq Tryz.prog 233=True:=eq_true ⟨_,Tryz.func233,of_decide_eq_false (by kernel_rfl),rfl⟩
theorem aQ4:qq Tryz.prog 234=True:=eq_true ⟨_,Tryz.func234,of_decide_eq_false (by kernel_rfl),rfl⟩
theorem aQ3:qq Tryz.prog 235=True:=eq_true ⟨_,Tryz.func235,of_decide_eq_false (by kernel_rfl),rfl⟩
theorem aQ2:qq Tryz.prog 236=True:=eq_true ⟨_,Tryz.func236,of_decide_eq_false (by kernel_rfl),rfl⟩
theorem aQ1:qq Tryz.prog 237=True:=eq_true ⟨_,Tryz.func237,of_decide_eq_false (by kernel_rfl),rfl⟩
theorem aQ0:qq Tryz.prog 238=True:=eq_true ⟨_,Tryz.func238,of_decide_eq_false (by kernel_rfl),rfl⟩
theorem aQZ:qq Tryz.prog 239=True:=eq_true ⟨_,Tryz.func239,of_decide_eq_false (by kernel_rfl),rfl⟩
theorem aQY:qq Tryz.prog 240=True:=eq_true ⟨_,Tryz.func240,of_decide_eq_false (by kernel_rfl),rfl⟩
theorem aQX:qq Tryz.prog 241=True:=eq_true ⟨_,Tryz.func241,of_decide_eq_false (by kernel_rfl),rfl⟩
theorem aQW:qq Tryz.prog 242=True:=eq_true ⟨_,Tryz.func242,of_decide_eq_false (by kernel_rfl),rfl⟩
theorem aQV:qq Tryz.prog 243=True:=eq_true ⟨_,Tryz.func243,of_decide_eq_false (by kernel_rfl),rfl⟩
theorem aQU:qq Tryz.prog 244=True:=eq_true ⟨_,Tryz.func244,of_decide_eq_false (by kernel_rfl),rfl⟩
theorem aQT:qq Tryz.prog 245=True:=eq_true ⟨_,Tryz.func245,of_decide_eq_false (by kernel_rfl),rfl⟩
theorem aQS:qq Tryz.prog 246=True:=eq_true ⟨_,Tryz.func246,of_decide_eq_false (by kernel_rfl),rfl⟩
theorem aQR:qq Tryz.prog 247=True:=eq_true ⟨_,Tryz.func247,of_decide_eq_false (by kernel_rfl),rfl⟩
theorem aQQ:qq Tryz.prog 248=True:=eq_true ⟨_,Tryz.func248,of_decide_eq_false (by kernel_rfl),rfl⟩
theorem aQP:qq Tryz.prog 249=True:=eq_true ⟨_,Tryz.func249,of_decide_eq_false (by kernel_rfl),rfl⟩
theorem aQO:qq Tryz.prog 250=True:=eq_true ⟨_,Tryz.func250,of_decide_eq_false (by kernel_rfl),rfl⟩
theorem aQN:qq Tryz.prog 251=True:=eq_true ⟨_,Tryz.func251,of_decide_eq_false (by kernel_rfl),rfl⟩
theorem aQM:qq Tryz.prog 252=True:=eq_true ⟨_,Tryz.func252,of_decide_eq_false (by kernel_rfl),rfl⟩
theorem aQL:qq Tryz.prog 253=True:=eq_true ⟨_,Tryz.func253,of_decide_eq_false (by kernel_rfl),rfl⟩
theorem aQK:qq Tryz.prog 254=True:=eq_true ⟨_,Tryz.func254,of_decide_eq_false (by kernel_rfl),rfl⟩
theorem aQJ:qq Tryz.prog 255=True:=eq_true ⟨_,Tryz.func255,of_decide_eq_false (by kernel_rfl),rfl⟩
theorem aQI:qq Tryz.prog 256=True:=eq_true ⟨_,Tryz.func256,of_decide_eq_false (by kernel_rfl),rfl⟩
theorem aQH:qq Tryz.prog 257=True:=eq_true ⟨_,Tryz.func257,of_decide_eq_false (by kernel_rfl),rfl⟩
theorem aQG:qq Tryz.prog 258=True:=eq_true ⟨_,Tryz.func258,of_decide_eq_false (by kernel_rfl),rfl⟩
theorem aQF:qq Tryz.prog 259=True:=eq_true ⟨_,Tryz.func259,of_decide_eq_false (by kernel_rfl),rfl⟩
theorem aQE:qq Tryz.prog 260=True:=eq_true ⟨_,Tryz.func260,of_decide_eq_false (by kernel_rfl),rfl⟩
theorem aQD:qq Tryz.prog 261=True:=eq_true ⟨_,Tryz.func261,of_decide_eq_false (by kernel_rfl),rfl⟩
theorem aQC:qq Tryz.prog 262=True:=eq_true ⟨_,Tryz.func262,of_decide_eq_false (by kernel_rfl),rfl⟩
theorem aQB:qq Tryz.prog 263=True:=eq_true ⟨_,Tryz.func263,of_decide_eq_false (by kernel_rfl),rfl⟩
theorem aQA:qq Tryz.prog 264=True:=eq_true ⟨_,Tryz.func264,of_decide_eq_false (by kernel_rfl),rfl⟩
theorem aQz:qq Tryz.prog 265=True:=eq_true ⟨_,Tryz.func265,of_decide_eq_false (by kernel_rfl),rfl⟩
theorem aQy:qq Tryz.prog 266=True:=eq_true ⟨_,Tryz.func266,of_decide_eq_false (by kernel_rfl),rfl⟩
theorem aQx:qq Tryz.prog 267=True:=eq_true ⟨_,Tryz.func267,of_decide_eq_false (by kernel_rfl),rfl⟩
theorem aQw:qq Tryz.prog 268=True:=eq_true ⟨_,Tryz.func268,of_decide_eq_false (by kernel_rfl),rfl⟩
theorem aQv:qq Tryz.prog 269=True:=eq_true ⟨_,Tryz.func269,of_decide_eq_false (by kernel_rfl),rfl⟩
theorem aQu:qq Tryz.prog 270=True:=eq_true ⟨_,Tryz.func270,of_decide_eq_false (by kernel_rfl),rfl⟩
theorem aQt:qq Tryz.prog 271=True:=eq_true ⟨_,Tryz.func271,of_decide_eq_false (by kernel_rfl),rfl⟩
theorem aQs:qq Tryz.prog 272=True:=eq_true ⟨_,Tryz.func272,of_decide_eq_false (by kernel_rfl),rfl⟩
theorem aQr:qq Tryz.prog 273=True:=eq_true ⟨_,Tryz.func273,of_decide_eq_false (by kernel_rfl),rfl⟩
theorem aQq:qq Tryz.prog 274=True:=eq_true ⟨_,Tryz.func274,of_decide_eq_false (by kernel_rfl),rfl⟩
theorem aQp:qq Tryz.prog 275=True:=eq_true ⟨_,Tryz.func275,of_decide_eq_false (by kernel_rfl),rfl⟩
theorem aQo:qq Tryz.prog 276=True:=eq_true ⟨_,Tryz.func276,of_decide_eq_false (by kernel_rfl),rfl⟩
theorem aQn:qq Tryz.prog 277=True:=eq_true ⟨_,Tryz.func277,of_decide_eq_false (by kernel_rfl),rfl⟩
theorem aQm:qq Tryz.prog 278=True:=eq_true ⟨_,Tryz.func278,of_decide_eq_false (by kernel_rfl),rfl⟩
theorem aQl:qq Tryz.prog 279=True:=eq_true ⟨_,Tryz.func279,of_decide_eq_false (by kernel_rfl),rfl⟩
theorem aQk:qq Tryz.prog 280=True:=eq_true ⟨_,Tryz.func280,of_decide_eq_false (by kernel_rfl),rfl⟩
theorem aQj:qq Tryz.prog 281=True:=eq_true ⟨_,Tryz.func281,of_decide_eq_false (by kernel_rfl),rfl⟩
theorem aQi:qq Tryz.prog 282=True:=eq_true ⟨_,Tryz.func282,of_decide_eq_false (by kernel_rfl),rfl⟩
theorem aQh:qq Tryz.prog 283=True:=eq_true ⟨_,Tryz.func283,of_decide_eq_false (by kernel_rfl),rfl⟩
theorem aQg:qq Tryz.prog 284=True:=eq_true ⟨_,Tryz.func284,of_decide_eq_false (by kernel_rfl),rfl⟩
theorem aQf:qq Tryz.prog 285=True:=eq_true ⟨_,Tryz.func285,of_decide_eq_false (by kernel_rfl),rfl⟩
theorem aQe:qq Tryz.prog 286=True:=eq_true ⟨_,Tryz.func286,of_decide_eq_false (by kernel_rfl),rfl⟩
theorem aQd:qq Tryz.prog 287=True:=eq_true ⟨_,Tryz.func287,of_decide_eq_false (by kernel_rfl),rfl⟩
theorem aQc:qq Tryz.prog 288=True:=eq_true ⟨_,Tryz.func288,of_decide_eq_false (by kernel_rfl),rfl⟩
theorem aQb:qq Tryz.prog 289=True:=eq_true ⟨_,Tryz.func289,of_decide_eq_false (by kernel_rfl),rfl⟩
theorem aQa:qq Tryz.prog 290=True:=eq_true ⟨_,Tryz.func290,of_decide_eq_false (by kernel_rfl),rfl⟩
theorem aP9:qq Tryz.prog 291=True:=eq_true ⟨_,Tryz.func291,of_decide_eq_false (by kernel_rfl),rfl⟩
theorem aP8:qq Tryz.prog 292=True:=eq_true ⟨_,Tryz.func292,of_decide_eq_false (by kernel_rfl),rfl⟩
theorem aP7:qq Tryz.prog 293=True:=eq_true ⟨_,Tryz.func293,of_decide_eq_false (by kernel_rfl),rfl⟩
theorem aP6:qq Tryz.prog 294=True:=eq_true ⟨_,Tryz.func294,of_decide_eq_false (by kernel_rfl),rfl⟩
theorem aP5:qq Tryz.prog 295=True:=eq_true ⟨_,Tryz.func295,of_decide_eq_false (by kernel_rfl),rfl⟩
theorem aP4:qq Tryz.prog 296=True:=eq_true ⟨_,Tryz.func296,of_decide_eq_false (by kernel_rfl),rfl⟩
theorem aP3:qq Tryz.prog 318=True:=eq_true ⟨_,Tryz.func318,of_decide_eq_false (by kernel_rfl),rfl⟩
attribute [go_sem] ty1 aOd aJe awD ann aOb aOc ty2 aOa aIS
attribute [go_sem] atr amb aN8 aN9 ty3 aN7 aIn atg alY aN5
attribute [go_sem] aN6 ty4 aN4 aHY as7 alP aN2 aN3 ty5 aN1
attribute [go_sem] aHC asZ alG aNZ aN0 ty6 aNY aHa asP alt
attribute [go_sem] aNW aNX ty7 aNV aGR asI alm aNT aNU aTn
attribute [go_sem] aZY aTm aZX aTl aZW aTk aZV be6 ty8 aNS
attribute [go_sem] aGs asz ala aNQ aNR aTj aZU aTi aZT aTh
attribute [go_sem] aZS aTg aZR be5 ty9 aNP aF3 asq ak1 aNN
attribute [go_sem] aNO bdA aJn aAL aoN ajh aJl aJm bdz aJk
attribute [go_sem] aAg aoC ai6 aJi aJj bdy aJh azL aor aiV
attribute [go_sem] aJf aJg bdx aJd avM am4 ahB aJb aJc bdw
attribute [go_sem] aJa avk amU ahr aI8 aI9 aZI bdv aI7 auP
attribute [go_sem] amJ ahg aI5 aI6 aZH bdu aI4 auq amz ag7
attribute [go_sem] aI2 aI3 aL9 aO8 aL8 aO7 bb9 bdt aI1 atY
attribute [go_sem] amo agX aIZ aI0 aL7 aO6 aL6 aO5 bb8 bds
attribute [go_sem] aIY att amd agM aIW aIX bdr aIV ats amc
attribute [go_sem] agL aIT aIU bdq aIR atq ama agK aIP aIQ
attribute [go_sem] bdp aIO atp al9 agJ aIM aIN bdo aIL ato
attribute [go_sem] al8 agI aIJ aIK bdn aII atn al7 agH aIG
attribute [go_sem] aIH bdm aIF atm al6 agG aID aIE aZG bdl
attribute [go_sem] aIC atl al5 agF aIA aIB aL5 aO4 bb7 bdk
attribute [go_sem] aIz atk al4 agE aIx aIy aL4 aO3 bb6 bdj
attribute [go_sem] aIw atj al2 agD aIu aIv aL3 aO2 aL2 aO1
attribute [go_sem] bb5 bdi aIt ati al1 agC aIr aIs aL1 aO0
attribute [go_sem] aL0 aOZ bb4 bdh aIq ath alZ agB aIo aIp
attribute [go_sem] aLZ aOY aLY aOX bb3 bdg aIm atf alX agA
attribute [go_sem] aIk aIl aLX aOW aLW aOV bb2 bdf aIj ate
attribute [go_sem] alW agz aIh aIi bde aIg atd alV agy aIe
attribute [go_sem] aIf bdd aId atc alU agx aIb aIc bdc aIa
attribute [go_sem] atb alT agw aH8 aH9 bdb aH7 ata alS agv
attribute [go_sem] aH5 aH6 bda aH4 as9 alR agu aH2 aH3 bc9
attribute [go_sem] aH1 as8 alQ agt aHZ aH0 bc8 aHX as6 alN
attribute [go_sem] ags aHV aHW aLV aOU aLU aOT bb1 bc7 aHU
attribute [go_sem] as5 alM agr aHS aHT aLT aOS aLS aOR bb0
attribute [go_sem] bc6 aHR as4 alL agq aHP aHQ bc5 aHO as3
attribute [go_sem] alK agp aHM aHN bc4 aHL as2 alJ ago aHJ
attribute [go_sem] aHK bc3 aHI as1 alI agn aHG aHH bc2 aHF
attribute [go_sem] as0 alH agm aHD aHE bc1 aHB asY alD agl
attribute [go_sem] aHz aHA bc0 aHy asX alC agk aHw aHx bcZ
attribute [go_sem] aHv asW alB agj aHt aHu bcY aHs asV alz
attribute [go_sem] agi aHq aHr bcX aHp asU aly agh aHn aHo
attribute [go_sem] bcW aHm asT alx agf aHk aHl bcV aHj asS
attribute [go_sem] alw age aHh aHi bcU aHg asR alv agd aHe
attribute [go_sem] aHf bcT aHd asQ alu agc aHb aHc aZF bcS
attribute [go_sem] aG9 asO als agb aG7 aG8 bcR aG6 asN alr
attribute [go_sem] aga aG4 aG5 bcQ aG3 asM alq af9 aG1 aG2
attribute [go_sem] bcP aG0 asL alp af8 aGY aGZ bcO aGX asK
attribute [go_sem] alo af7 aGV aGW bcN aGU asJ aln af6 aGS
attribute [go_sem] aGT bcM aGQ asH alk af5 aGO aGP bcL aGN
attribute [go_sem] asG ali af4 aGL aGM aLR aOQ aLQ aOP bbZ
attribute [go_sem] bcK aGK asF alg af3 aGI aGJ aLP aOO aLO
attribute [go_sem] aON bbY bcJ aGH asE alf af2 aGF aGG bcI
attribute [go_sem] aGE asD ale af1 aGC aGD bcH aGB asC ald
attribute [go_sem] af0 aGz aGA bcG aGy asB alc afZ aGw aGx
attribute [go_sem] bcF aGv asA alb afY aGt aGu bcE aGr asy
attribute [go_sem] ak9 afX aGp aGq bcD aGo asx ak8 afW aGm
attribute [go_sem] aGn bcC aGl asw ak7 afV aGj aGk bcB aGi
attribute [go_sem] asv ak6 afU aGg aGh bcA aGf asu ak5 afT
attribute [go_sem] aGd aGe bcz aGc ast ak4 afS aGa aGb bcy
attribute [go_sem] aF9 ass ak3 afR aF7 aF8 bcx aF6 asr ak2
attribute [go_sem] afQ aF4 aF5 aXf aBc aoW ajq adJ aBa aBb
attribute [go_sem] aXe aA9 aoV ajp adI aA7 aA8 aXd aA6 aoU
attribute [go_sem] ajo adH aA4 aA5 aXc aA3 aoT ajn adG aA1
attribute [go_sem] aA2 aXb aA0 aoS ajm adF aAY aAZ aXa aAX
attribute [go_sem] aoR ajl adE aAV aAW aW9 aAU aoQ ajk adD
attribute [go_sem] aAS aAT aW8 aAR aoP ajj adC aAP aAQ aW7
attribute [go_sem] aAO aoO aji adB aAM aAN aW6 aAK aoM ajg
attribute [go_sem] adA aAI aAJ aW5 aAH aoL ajf adz aAF aAG
attribute [go_sem] aOx aW4 aAE aoK aje ady aAC aAD aDe aKl
attribute [go_sem] aDd aKk aT5 aW3 aAB aoJ ajd adx aAz aAA
attribute [go_sem] aDc aKj aDb aKi aT4 aW2 aAy aoI ajc adw
attribute [go_sem] aAw aAx aW1 aAv aoH ajb adv aAt aAu aW0
attribute [go_sem] aAs aoG aja adu aAq aAr aWZ aAp aoF ai9
attribute [go_sem] adt aAn aAo aDa aKh aC9 aKg aC8 aKf aT3
attribute [go_sem] aWY aAm aoE ai8 ads aAk aAl aC7 aKe aC6
attribute [go_sem] aKd aC5 aKc aT2 aWX aAj aoD ai7 adr aAh
attribute [go_sem] aAi aWW aAf aoB ai5 adq aAd aAe aWV aAc
attribute [go_sem] aoA ai4 adp aAa aAb aWU az9 aoz ai3 ado
attribute [go_sem] az7 az8 aWT az6 aoy ai2 adn az4 az5 aWS
attribute [go_sem] az3 aox ai1 adm az1 az2 aWR az0 aow ai0
attribute [go_sem] adl azY azZ aWQ azX aov aiZ adk azV azW
attribute [go_sem] aWP azU aou aiY adj azS azT aWO azR aot
attribute [go_sem] aiX adi azP azQ aWN azO aos aiW adh azM
attribute [go_sem] azN aWM azK aoq aiU adg azI azJ aWL azH
attribute [go_sem] aop aiT adf azF azG aWK azE aoo aiS ade
attribute [go_sem] azC azD aC4 aKb aC3 aKa aT1 aWJ azB aon
attribute [go_sem] aiR adc azz azA aC2 aJ9 aC1 aJ8 aT0 aWI
attribute [go_sem] azy aom aiQ adb azw azx aWH azv aol aiP
attribute [go_sem] ada azt azu aWG azs aok aiO ac9 azq azr
attribute [go_sem] aWF azp aoj aiN ac8 azn azo aWE azm aoi
attribute [go_sem] aiM ac7 azk azl aWD azj aoh aiL ac6 azh
attribute [go_sem] azi aWC azg aog aiK ac5 aze azf aWB azd
attribute [go_sem] aof aiJ ac4 azb azc aWA aza aoe aiI ac3
attribute [go_sem] ay8 ay9 aWz ay7 aod aiH ac2 ay5 ay6 aWy
attribute [go_sem] ay4 aoc aiG ac1 ay2 ay3 aWx ay1 aob aiF
attribute [go_sem] ac0 ayZ ay0 aWw ayY aoa aiE acZ ayW ayX
attribute [go_sem] aWv ayV an9 aiD acY ayT ayU aWu ayS an8
attribute [go_sem] aiC acX ayQ ayR aWt ayP an7 aiB acW ayN
attribute [go_sem] ayO aWs ayM an6 aiA acV ayK ayL aWr ayJ
attribute [go_sem] an5 aiz acU ayH ayI aOw aWq ayG an4 aiy
attribute [go_sem] acT ayE ayF aC0 aJ7 aCZ aJ6 aTZ aWp ayD
attribute [go_sem] an3 aix acS ayB ayC aCY aJ5 aCX aJ4 aTY
attribute [go_sem] aWo ayA an2 aiw acR ayy ayz aWn ayx an1
attribute [go_sem] aiv acQ ayv ayw aWm ayu an0 aiu acP ays
attribute [go_sem] ayt aWl ayr anZ ait acO ayp ayq aWk ayo
attribute [go_sem] anY ais acN aym ayn aWj ayl anX air acM
attribute [go_sem] ayj ayk aWi ayi anW aiq acL ayg ayh aWh
attribute [go_sem] ayf anV aip acK ayd aye aWg ayc anU aio
attribute [go_sem] acJ aya ayb aWf ax9 anT ain acI ax7 ax8
attribute [go_sem] aWe ax6 anS aim acH ax4 ax5 aWd ax3 anR
attribute [go_sem] ail acG ax1 ax2 aWc ax0 anQ aik acF axY
attribute [go_sem] axZ aWb axX anP aij acE axV axW aWa axU
attribute [go_sem] anO aii acD axS axT aV9 axR anN aih acC
attribute [go_sem] axP axQ aV8 axO anM aig acB axM axN aCW
attribute [go_sem] aJ3 aCV aJ2 aCU aJ1 aTX aV7 axL anL aif
attribute [go_sem] acA axJ axK aCT aJ0 aCS aJZ aCR aJY aTW
attribute [go_sem] aV6 axI anK aie acz axG axH aV5 axF anJ
attribute [go_sem] aid acy axD axE aV4 axC anI aic acx axA
attribute [go_sem] axB aV3 axz anH aib acw axx axy aV2 axw
attribute [go_sem] anG aia acv axu axv aV1 axt anF ah9 acu
attribute [go_sem] axr axs aV0 axq anE ah8 act axo axp aVZ
attribute [go_sem] axn anD ah7 acs axl axm aVY axk anC ah6
attribute [go_sem] acr axi axj aVX axh anB ah5 acq axf axg
attribute [go_sem] aVW axe anA ah4 acp axc axd aVV axb anz
attribute [go_sem] ah3 aco aw9 axa aVU aw8 anx ah2 acn aw6
attribute [go_sem] aw7 aVT aw5 anw ah1 acm aw3 aw4 aVS aw2
attribute [go_sem] anv ah0 acl aw0 aw1 aVR awZ anu ahZ ack
attribute [go_sem] awX awY aVQ awW ant ahY acj awT awU aVP
attribute [go_sem] awS ans ahX aci awQ awR aOv aVO awP anr
attribute [go_sem] ahW ach awN awO aVN awM anq ahV acg awK
attribute [go_sem] awL aVM awJ anp ahU acf awH awI aVL awG
attribute [go_sem] ano ahT ace awE awF aVK awC anm ahS acd
attribute [go_sem] awA awB aVJ awz anl ahR acb awx awy aVI
attribute [go_sem] aww ank ahQ aca awu awv aVH awt anj ahP
attribute [go_sem] ab9 awr aws aVG awq ani ahO ab8 awn awo
attribute [go_sem] aVF awm anh ahN ab7 awk awl aVE awj ang
attribute [go_sem] ahM ab6 awh awi aVD awg anf ahL ab5 awe
attribute [go_sem] awf aVC awd ane ahK ab4 awb awc aVB awa
attribute [go_sem] anc ahJ ab3 av8 av9 aVA av7 anb ahI ab2
attribute [go_sem] av5 av6 aVz av4 ana ahH ab1 av2 av3 aVy
attribute [go_sem] av1 am9 ahG ab0 avZ av0 aVx avY am8 ahF
attribute [go_sem] abZ avW avX aVw avV am7 ahE abY avT avU
attribute [go_sem] aVv avS am6 ahD abX avQ avR aVu avP am5
attribute [go_sem] ahC abW avN avO aVt avL am3 ahA abV avJ
attribute [go_sem] avK aVs avI am2 ahz abU avG avH aVr avF
attribute [go_sem] am1 ahy abT avD avE aVq avC am0 ahx abS
attribute [go_sem] avA avB aVp avz amZ ahw abR avx avy aVo
attribute [go_sem] avw amY ahv abQ avu avv aVn avt amX ahu
attribute [go_sem] abP avr avs aVm avq amW aht abO avo avp
attribute [go_sem] aVl avn amV ahs abN avl avm aVk avj amT
attribute [go_sem] ahq abM avh avi aVj avg amS ahp abL ave
attribute [go_sem] avf aVi avd amR aho abK avb avc aVh ava
attribute [go_sem] amQ ahn abJ au8 au9 aVg au7 amP ahm abI
attribute [go_sem] au5 au6 aVf au4 amO ahl abH au2 au3 aVe
attribute [go_sem] au1 amN ahk abG auZ au0 aVd auY amM ahj
attribute [go_sem] abF auW auX aVc auV amL ahi abE auT auU
attribute [go_sem] aVb auS amK ahh abD auQ auR aVa auO amH
attribute [go_sem] ahf abC auM auN aU9 auL amG ahe abB auJ
attribute [go_sem] auK aU8 auI amF ahd abA auG auH aU7 auF
attribute [go_sem] amE ahc abz auD auE aU6 auC amD ahb aby
attribute [go_sem] auA auB aU5 auz amC aha abx aux auy aU4
attribute [go_sem] auw amB ag9 abw auu auv aU3 aut amA ag8
attribute [go_sem] abv aur aus aU2 aup amx ag6 abu aun auo
attribute [go_sem] aU1 aum amw ag5 abt auk aul aU0 auj amv
attribute [go_sem] ag4 abr auh aui aUZ aug amu ag3 abq aue
attribute [go_sem] auf aUY aud amt ag2 abp aub auc aUX aua
attribute [go_sem] ams ag1 abo at8 at9 aUW at7 amr ag0 abn
attribute [go_sem] at5 at6 aUV at4 amq agZ abm at2 at3 aUU
attribute [go_sem] at1 amp agY abl atZ at0 aUT atX amn agW
attribute [go_sem] abk atV atW aUS atU amm agV abj atS atT
attribute [go_sem] aUR atR aml agU abi atP atQ aUQ atO amk
attribute [go_sem] agT abh atM atN aUP atL amj agS abg atJ
attribute [go_sem] atK aUO atI ami agR abf atG atH aUN atF
attribute [go_sem] amh agQ abe atD atE aUM atC amg agP abd
attribute [go_sem] atA atB aUL atz amf agO abc atx aty aUK
attribute [go_sem] atw ame agN abb atu atv be2 be1 be0 beZ
attribute [go_sem] beY beX beW beV bbP bbO bbN bbM bbL bbK
attribute [go_sem] bbJ bbI bbH bbG bbF bbE bbD bbC bbB bbA
attribute [go_sem] bbz bby bbx bbw bbv bbu bbt bbs bbr bbq
attribute [go_sem] bbp bbo bbn bbm bbl bbk bbj bbi bbh bbg
attribute [go_sem] bbf bbe bbd bbc bbb bba ba9 ba8 ba7 ba6
attribute [go_sem] ba5 ba4 ba3 ba2 ba1 ba0 baZ baY baX baW
attribute [go_sem] baV baU baT baS baR baQ baP baO baN baM
attribute [go_sem] baL baK baJ baI baH baG baF baE baD baC
attribute [go_sem] baB baA baz bay bax baw bav bau bat bas
attribute [go_sem] bar baq bap bao aTe aTd aTc aTb aTa aS9
attribute [go_sem] aS8 aS7 aS6 aS5 aS4 aS3 aS2 aS1 aS0 aSZ
attribute [go_sem] aSY aSX aSW aSV aSU aST aSS aSR aSQ aSP
attribute [go_sem] aSO aSN aSM aSL aSK aSJ aSI aSH aSG aSF
attribute [go_sem] aSE aSD aSC aSB aSA aSz aSy aSx aSw aSv
attribute [go_sem] aSu aSt aSs aSr aSq aSp aSo aSn aSm aSl
attribute [go_sem] aSk aSj aSi aSh aSg aSf aSe aSd aSc aSb
attribute [go_sem] aSa aR9 aR8 aR7 aR6 aR5 aR4 aR3 aR2 aR1
attribute [go_sem] aR0 aRZ aRY aRX aRW aRV aRU aRT aRS aRR
attribute [go_sem] aRQ aRP aRO aRN aRM aRL aRK aRJ aRI aRH
attribute [go_sem] aRG aRF aRE aRD aRC aRB aRA aRz aRy aRx
attribute [go_sem] aRw aRv aRu aRt aRs aRr aRq aRp aRo aRn
attribute [go_sem] aRm aRl aRk aRj aRi aRh aRg aRf aRe aRd
attribute [go_sem] aRc aRb aRa aQ9 aQ8 aQ7 aQ6 aQ5 aQ4 aQ3
attribute [go_sem] aQ2 aQ1 aQ0 aQZ aQY aQX aQW aQV aQU aQT
attribute [go_sem] aQS aQR aQQ aQP aQO aQN aQM aQL aQK aQJ
attribute [go_sem] aQI aQH aQG aQF aQE aQD aQC aQB aQA aQz
attribute [go_sem] aQy aQx aQw aQv aQu aQt aQs aQr aQq aQp
attribute [go_sem] aQo aQn aQm aQl aQk aQj aQi aQh aQg aQf
attribute [go_sem] aQe aQd aQc aQb aQa aP9 aP8 aP7 aP6 aP5
attribute [go_sem] aP4 aP3
end Go.Ab
namespace Go.Ab
open Go Go.Proofs
set_option maxRecDepth 100000 in
theorem aeF(U V:List Int)(j:Nat)(hU:gd U)(hV:gd V)(lU:U.length≤2000000)(h2:2≤V.length)(hj:j+V.length<U.length)(hv1:32768≤V.getD (V.length-1) 0)(hW:vl (U.drop j)<65536*vl V):
  Con Tryz.prog 289 true [.sl U.length (qc U),.sl V.length (qc V),.v (.int .i64 j)] [] (fun r hs bs=>∃q:Int,r=.v (.int .i64 q)∧hs=[]∧bs=[]∧(0≤q∧q<65536)∧vl (U.drop j)<(q+1)*vl V∧q*vl V<vl (U.drop j)+vl V):=by
 refine Con.of_aw Tryz.func289 rfl Tryz.ntmps289 (by simp) (by simp) (by simp) (W.sound ?_)
 show @W Tryz.prog 76 ⟨_⟩ ⟨fun x σ=>@qW _ _ _ ⟨_⟩ _ ⟨_⟩ x σ⟩ _ _
 have hDl:V.length<(U.drop j).length:=by simp;omega
 have hz:=ae1 (yw hU j) hV hDl hW
 have hw:=aNF hDl h2 hz
 have hvv:=aFU h2
 rw[zY,zY,zY]at hw
 have hx0:=qU (j7 (yw hU j) (V.length-2))
 have hx1:=QB (j7 (yw hU j) (V.length-2))
 have hy0:=qU (j7 hV (V.length-2))
 have hy1:=QB (j7 hV (V.length-2))
 rw[List.length_take,Nat.min_eq_left (by omega)]at hx1 hy1
 have gu0:=qJ hU (j+V.length)
 have gu1:=qJ hU (j+(V.length-1))
 have gu2:=qJ hU (j+(V.length-2))
 have gv1:=qJ hV (V.length-1)
 have gv2:=qJ hV (V.length-2)
 have htop:=aPG hw hvv ⟨hx0,hx1⟩ ⟨hy0,hy1⟩ gu2.1 gu1.1 gv2.2 hW
 have e0:((j:Int)+(V.length:Int)).toNat=j+V.length:=by omega
 have e1:((j:Int)+(V.length:Int)-1).toNat=j+(V.length-1):=by omega
 have e2:((j:Int)+(V.length:Int)-2).toNat=j+(V.length-2):=by omega
 have f1:((V.length:Int)-1).toNat=V.length-1:=by omega
 have f2:((V.length:Int)-2).toNat=V.length-2:=by omega
 simp(disch:=omega)only[go_sem]
 refine qp rfl [⟨0,[],[]⟩,⟨1,[],[]⟩,⟨2,[],[]⟩,⟨3,[],[]⟩,⟨4,[],[]⟩,⟨5,[],[]⟩,⟨6,[],[]⟩,⟨7,[5],[]⟩,⟨8,[5],[]⟩,⟨9,[5],[]⟩,⟨10,[5],[]⟩,⟨11,[5],[]⟩,⟨12,[5],[]⟩,⟨13,[5],[]⟩,⟨14,[],[]⟩,⟨15,[],[]⟩] (by kernel_rfl) ?_
 simp(disch:=omega)only[go_sem,e0,e1]
 generalize hu0:U.getD (j+V.length) 0=u0 at*
 generalize hu1:U.getD (j+(V.length-1)) 0=u1 at*
 generalize hu2:U.getD (j+(V.length-2)) 0=u2 at*
 refine⟨by omega,by omega,by omega,by omega,?_⟩
 refine qp rfl [⟨0,[],[]⟩,⟨1,[],[]⟩,⟨2,[],[]⟩,⟨3,[],[]⟩,⟨4,[],[]⟩,⟨5,[],[]⟩,⟨6,[],[]⟩,⟨7,[5],[]⟩,⟨8,[5],[]⟩,⟨9,[5],[]⟩,⟨10,[5],[]⟩,⟨11,[5],[]⟩,⟨12,[5],[]⟩,⟨13,[5],[]⟩,⟨14,[12],[]⟩,⟨15,[],[]⟩] (by kernel_rfl) ?_
 simp(disch:=omega)only[go_sem,f1]
 generalize hvv1:V.getD (V.length-1) 0=v1 at*
 generalize hvv2:V.getD (V.length-2) 0=v2 at*
 generalize htt:u0*65536+u1=top at*
 refine⟨by omega,by omega,by omega,by omega,by omega,by omega,?_⟩
 have hq0:0≤top/v1:=Int.ediv_nonneg (by omega) (by omega)
 have hq1:top/v1≤65537:=by
  have:top/v1<65538:=Int.ediv_lt_of_lt_mul (by omega) (by omega)
  omega
 have hr0:=Int.emod_nonneg top (show v1≠0 by omega)
 have hr1:=Int.emod_lt_of_pos top (show 0<v1 by omega)
 have hqr:=Int.emod_add_mul_ediv top v1
 have hini:=aLg hw hvv ⟨hx0,hx1⟩ ⟨hy0,hy1⟩ gu2 gv2.1 hq0 (show top<(top/v1+1)*v1 by rw[Int.add_mul,Int.mul_comm (top/v1)];omega)
 have hqr':top/v1*v1+top % v1=top:=by rw[Int.mul_comm];omega
 generalize top/v1=q0 at*
 generalize top % v1=r0 at*
 refine qh (fun x:Int×Int=>[(0,.sl U.length (qc U)),(1,.sl V.length (qc V)),(2,.v (.int .i64 j)),(7,.v (.int .i64 V.length)),(9,.v (.int .i64 x.1)),(10,.v (.int .i64 x.2))])
  (fun _=>[]) (fun x=>(0≤x.1∧x.1≤65537)∧(0≤x.2∧x.2<65536)∧x.1*v1+x.2=top∧vl (U.drop j)<(x.1+1)*vl V) (fun x=>x.1.toNat) (q0,r0) ⟨⟨hq0,hq1⟩,⟨hr0,by omega⟩,hqr',hini⟩
  (Le.lst [] _ _ rfl (by simp(disch:=omega)only[go_sem];try omega) (by simp(disch:=omega)only[go_sem])) ?_
 rintro⟨q,r⟩ ⟨hq,hr,hqr2,hlt⟩
 dsimp only at hq hr hqr2 hlt ⊢
 have hqv:0≤q*v2∧q*v2≤65537*65535:=⟨Int.mul_nonneg hq.1 gv2.1,Int.mul_le_mul hq.2 (by omega) gv2.1 (by omega)⟩
 simp(disch:=omega)only[go_sem]
 refine qp rfl [⟨0,[],[]⟩,⟨1,[],[]⟩,⟨2,[],[]⟩,⟨3,[],[]⟩,⟨4,[],[]⟩,⟨5,[],[]⟩,⟨6,[],[]⟩,⟨7,[],[]⟩,⟨8,[],[]⟩,⟨9,[],[]⟩,⟨10,[8],[]⟩,⟨11,[8],[]⟩,⟨12,[8],[]⟩,⟨13,[8],[]⟩,⟨14,[8],[]⟩,⟨15,[8],[]⟩,⟨16,[8],[]⟩,⟨17,[8],[]⟩,⟨18,[8],[]⟩,⟨19,[8],[]⟩,⟨20,[],[]⟩,⟨21,[],[]⟩] (by kernel_rfl) ?_
 simp(disch:=omega)only[go_sem]
 refine zB (fun h1=>?_) (fun h1=>?_)
 ·simp(disch:=omega)only[go_sem,h1,e2,f2,hu2,hvv2]
  refine⟨by omega,by omega,by omega,by omega,qe (fun h2=>?_) (fun h2=>?_)⟩
  ·simp(disch:=omega)only[go_sem,h2,f1,hvv1]
   have hst:=ap0 hw hvv ⟨hx0,hx1⟩ ⟨hy0,hy1⟩ hW gv2.1 (by omega) hq.1 hqr2 (.inr h2)
   have hqp:0<q:=by
    rcases(by omega:0<q∨q=0)with h|h
    ·exact h
    ·subst h;omega
   have hm:(q-1)*v1+(r+v1)=top:=by rw[Int.sub_mul];omega
   refine⟨by omega,by omega,qe (fun h3=>?_) (fun h3=>?_)⟩
   ·simp(disch:=omega)only[go_sem,h3]
    have h4:q-1<65536:=by
     rcases(by omega:q-1<65536∨65536≤q-1)with h|h
     ·exact h
     ·have:=Int.mul_le_mul_of_nonneg_right h (show 0≤v1 by omega)
      omega
    have h5:(q-1)*v2≤(r+v1)*65536+u2:=by
     have:(q-1)*v2≤65535*65535:=Int.mul_le_mul (by omega) (by omega) gv2.1 (by omega)
     omega
    have h6:=aea hw hvv ⟨hx0,hx1⟩ ⟨hy0,hy1⟩ gv2.1 (by omega) ⟨by omega,h4⟩ hm h5
    exact qx (by simp(disch:=omega)only[go_sem]) (by simp(disch:=omega)only[go_sem]) ⟨q-1,rfl,rfl,rfl,⟨by omega,h4⟩,by rw[show q-1+1=q by omega];exact hst,h6⟩
   ·simp(disch:=omega)only[go_sem,h3]
    refine qb (q-1,r+v1) [] ⟨by show 0≤q-1∧q-1≤65537;omega,by show 0≤r+v1∧r+v1<65536;omega,hm,by show _<(q-1+1)*vl V;rw[show q-1+1=q by omega];exact hst⟩ (by show(q-1).toNat<q.toNat;omega) rfl (by simp(disch:=omega)only[go_sem];try omega) (by simp(disch:=omega)only[go_sem])
  ·simp(disch:=omega)only[go_sem,h2]
   have h6:=aea hw hvv ⟨hx0,hx1⟩ ⟨hy0,hy1⟩ gv2.1 (by omega) ⟨hq.1,by omega⟩ hqr2 (by omega)
   exact qx (by simp(disch:=omega)only[go_sem]) (by simp(disch:=omega)only[go_sem]) ⟨q,rfl,rfl,rfl,⟨hq.1,by omega⟩,hlt,h6⟩
 ·simp(disch:=omega)only[go_sem,h1,f1,hvv1]
  have hst:=ap0 hw hvv ⟨hx0,hx1⟩ ⟨hy0,hy1⟩ hW gv2.1 (by omega) hq.1 hqr2 (.inl h1)
  have hqp:0<q:=by omega
  have hm:(q-1)*v1+(r+v1)=top:=by rw[Int.sub_mul];omega
  refine⟨by omega,by omega,qe (fun h3=>?_) (fun h3=>?_)⟩
  ·simp(disch:=omega)only[go_sem,h3]
   have h4:q-1<65536:=by
    rcases(by omega:q-1<65536∨65536≤q-1)with h|h
    ·exact h
    ·have:=Int.mul_le_mul_of_nonneg_right h (show 0≤v1 by omega)
     omega
   have h5:(q-1)*v2≤(r+v1)*65536+u2:=by
    have:(q-1)*v2≤65535*65535:=Int.mul_le_mul (by omega) (by omega) gv2.1 (by omega)
    omega
   have h6:=aea hw hvv ⟨hx0,hx1⟩ ⟨hy0,hy1⟩ gv2.1 (by omega) ⟨by omega,h4⟩ hm h5
   exact qx (by simp(disch:=omega)only[go_sem]) (by simp(disch:=omega)only[go_sem]) ⟨q-1,rfl,rfl,rfl,⟨by omega,h4⟩,by rw[show q-1+1=q by omega];exact hst,h6⟩
  ·simp(disch:=omega)only[go_sem,h3]
   refine qb (q-1,r+v1) [] ⟨by show 0≤q-1∧q-1≤65537;omega,by show 0≤r+v1∧r+v1<65536;omega,hm,by show _<(q-1+1)*vl V;rw[show q-1+1=q by omega];exact hst⟩ (by show(q-1).toNat<q.toNat;omega) rfl (by simp(disch:=omega)only[go_sem];try omega) (by simp(disch:=omega)only[go_sem])
end Go.Ab
namespace Go.Ab
open Go Go.Proofs
theorem aaB(U V:List Int)(j:Nat)(q:Int)(hU:gd U)(hV:gd V)(lU:U.length≤2000000)(hj:j+V.length<U.length)(hq:0≤q∧q<65536):
  Con Tryz.prog 290 false [.rf 10000000 0 U.length,.sl V.length (qc V),.v (.int .i64 j),.v (.int .i64 q)] [.own 1 (qc U)]
   (fun r hs bs=>∃(U':List Int) (bo:Int),r=.v (.bool (decide (U.getD (j+V.length) 0-bo<0)))∧hs=[]∧bs=[.own 1 (qc (U'.set (j+V.length) (U.getD (j+V.length) 0-bo)))]∧
    U'.length=U.length∧gd U'∧(0≤bo∧bo<65536)∧(∀t,t<j∨j+V.length≤t→U'.getD t 0=U.getD t 0)∧vl U'-65536^(j+V.length)*bo=vl U-65536^j*(q*vl V)):=by
 refine Con.of_aw Tryz.func290 rfl Tryz.ntmps290 (by simp) (by simp) (by simp) (W.sound ?_)
 show @W Tryz.prog 68 ⟨_⟩ ⟨fun x σ=>@qW _ _ _ ⟨_⟩ _ ⟨_⟩ x σ⟩ _ _
 simp(disch:=omega)only[go_sem]
 refine qh (fun x:Nat×List Int×Int=>[(0,.rf 10000000 0 U.length),(1,.sl V.length (qc V)),(2,.v (.int .i64 j)),(3,.v (.int .i64 q)),(9,.v (.int .i64 x.2.2)),(13,.sl V.length (qc V)),(14,.v (.int .i64 V.length)),(15,.v (.int .i64 x.1))])
  (fun x=>[(10000000,.own 1 (qc x.2.1))])
  (fun x=>x.1≤V.length∧x.2.1.length=U.length∧gd x.2.1∧(0≤x.2.2∧x.2.2<65536)∧(∀t,t<j∨j+x.1≤t→x.2.1.getD t 0=U.getD t 0)∧vl x.2.1-65536^(j+x.1)*x.2.2=vl U-65536^j*(q*vl (V.take x.1)))
  (fun x=>V.length-x.1) (0,U,0) ⟨by simp,rfl,hU,by simp,fun _ _=>rfl,by simp[vl]⟩
  (Le.lst [] _ _ rfl (by simp(disch:=omega)only[go_sem];try omega) (by simp(disch:=omega)only[go_sem])) ?_
 rintro⟨i,U1,bo⟩ ⟨hi,hl1,hg1,hbo,hsame,hval⟩
 dsimp only at hi hl1 hg1 hbo hsame hval ⊢
 simp(disch:=omega)only[go_sem]
 refine qe (fun h1=>?_) (fun h1=>?_)
 ·have hx:=qJ hV i
  have hu:=qJ hg1 (j+i)
  have hqx:0≤q*V.getD i 0∧q*V.getD i 0≤65535*65535:=⟨Int.mul_nonneg hq.1 hx.1,Int.mul_le_mul (by omega) (by omega) hx.1 (by omega)⟩
  have e1:((j:Int)+(i:Int)).toNat=j+i:=by omega
  have hstep:∀d b:Int,d-65536*b=U1.getD (j+i) 0-q*V.getD i 0-bo→vl (U1.set (j+i) d)-65536^(j+(i+1))*b=vl U-65536^j*(q*vl (V.take (i+1))):=by
   intro d b hd
   rw[Q1 (by omega),qP,←Nat.add_assoc,Int.pow_succ]
   have e3:(65536:Int)^(j+i)=65536^j*65536^i:=Int.pow_add _ _ _
   rw[e3]at hval ⊢
   generalize (65536:Int)^i=Pi at*
   generalize (65536:Int)^j=Pj at*
   grind
  have hsm:∀d:Int,∀t,t<j∨j+(i+1)≤t→(U1.set (j+i) d).getD t 0=U.getD t 0:=fun d t ht=>by
   rw[jm (by omega),if_neg (by omega)];exact hsame t (by omega)
  simp(disch:=omega)only[go_sem,h1,e1]
  refine⟨by omega,by omega,by omega,by omega,qe (fun h2=>?_) (fun h2=>?_)⟩
  ·simp(disch:=omega)only[go_sem,h2,e1]
   generalize hb:(0-(U1.getD (j+i) 0-q*V.getD i 0-bo)+65536-1)/65536=b
   refine⟨by omega,by omega,qb (i+1,U1.set (j+i) (U1.getD (j+i) 0-q*V.getD i 0-bo+b*65536),b) [] ⟨by show i+1≤_;omega,by simp[hl1],yZ hg1 (by omega),by show 0≤b∧b<65536;omega,hsm _,hstep (U1.getD (j+i) 0-q*V.getD i 0-bo+b*65536) b (by omega)⟩
    (by show V.length-(i+1)<V.length-i;omega) rfl (by simp(disch:=omega)only[go_sem];try omega) (by simp(disch:=omega)only[go_sem])⟩
  ·simp(disch:=omega)only[go_sem,h2,e1]
   refine⟨by omega,by omega,qb (i+1,U1.set (j+i) (U1.getD (j+i) 0-q*V.getD i 0-bo),0) [] ⟨by show i+1≤_;omega,by simp[hl1],yZ hg1 (by omega),by simp,hsm _,hstep (U1.getD (j+i) 0-q*V.getD i 0-bo) 0 (by omega)⟩
    (by show V.length-(i+1)<V.length-i;omega) rfl (by simp(disch:=omega)only[go_sem];try omega) (by simp(disch:=omega)only[go_sem])⟩
 ·have hiA:i=V.length:=by omega
  subst hiA
  rw[List.take_length]at hval
  have e1:((j:Int)+(V.length:Int)).toNat=j+V.length:=by omega
  have hu:=qJ hg1 (j+V.length)
  have es:=hsame (j+V.length) (by omega)
  have eg:(U1.set (j+V.length) (U.getD (j+V.length) 0-bo)).getD (j+V.length) 0=U.getD (j+V.length) 0-bo:=by rw[jm (by omega),if_pos rfl]
  simp(disch:=omega)only[go_sem,h1,e1,es]
  refine⟨by omega,by omega,by omega,by omega,by omega,by simp;omega,?_⟩
  simp(disch:=omega)only[go_sem,eg]
  refine qg [] [] [.own 1 (qc (U1.set (j+V.length) (U.getD (j+V.length) 0-bo)))] [.v (.bool (decide (U.getD (j+V.length) 0-bo<0)))] rfl (by simp(disch:=omega)only[go_sem]) (by simp(disch:=omega)only[go_sem]) (by simp) (by simp) ⟨U1,bo,rfl,rfl,rfl,hl1,hg1,hbo,hsame,hval⟩
theorem aeK(U V:List Int)(j:Nat)(hU:∀t,t≠j+V.length→0≤U.getD t 0∧U.getD t 0<65536)(hUt: -65536≤U.getD (j+V.length) 0∧U.getD (j+V.length) 0<65536)(hV:gd V)(lU:U.length≤2000000)(hj:j+V.length<U.length):
  Con Tryz.prog 291 false [.rf 10000000 0 U.length,.sl V.length (qc V),.v (.int .i64 j)] [.own 1 (qc U)]
   (fun r hs bs=>∃(U':List Int),r=.tu []∧hs=[]∧bs=[.own 1 (qc U')]∧
    U'.length=U.length∧(∀t,t≠j+V.length→0≤U'.getD t 0∧U'.getD t 0<65536)∧(∀t,t<j∨j+V.length<t→U'.getD t 0=U.getD t 0)∧vl U'=vl U+65536^j*vl V):=by
 refine Con.of_aw Tryz.func291 rfl Tryz.ntmps291 (by simp) (by simp) (by simp) (W.sound ?_)
 show @W Tryz.prog 46 ⟨_⟩ ⟨fun x σ=>@qW _ _ _ ⟨_⟩ _ ⟨_⟩ x σ⟩ _ _
 simp(disch:=omega)only[go_sem]
 refine qh (fun x:Nat×List Int×Int=>[(0,.rf 10000000 0 U.length),(1,.sl V.length (qc V)),(2,.v (.int .i64 j)),(6,.v (.int .i64 x.2.2)),(9,.sl V.length (qc V)),(10,.v (.int .i64 V.length)),(11,.v (.int .i64 x.1))])
  (fun x=>[(10000000,.own 1 (qc x.2.1))])
  (fun x=>x.1≤V.length∧x.2.1.length=U.length∧(∀t,t≠j+V.length→0≤x.2.1.getD t 0∧x.2.1.getD t 0<65536)∧(0≤x.2.2∧x.2.2≤1)∧(∀t,t<j∨j+x.1≤t→x.2.1.getD t 0=U.getD t 0)∧vl x.2.1+65536^(j+x.1)*x.2.2=vl U+65536^j*vl (V.take x.1))
  (fun x=>V.length-x.1) (0,U,0) ⟨by simp,rfl,hU,by simp,fun _ _=>rfl,by simp[vl]⟩
  (Le.lst [] _ _ rfl (by simp(disch:=omega)only[go_sem];try omega) (by simp(disch:=omega)only[go_sem])) ?_
 rintro⟨i,U1,cy⟩ ⟨hi,hl1,hg1,hcy,hsame,hval⟩
 dsimp only at hi hl1 hg1 hcy hsame hval ⊢
 simp(disch:=omega)only[go_sem]
 refine qe (fun h1=>?_) (fun h1=>?_)
 ·have hx:=qJ hV i
  have hu:=hg1 (j+i) (by omega)
  have e1:((j:Int)+(i:Int)).toNat=j+i:=by omega
  simp(disch:=omega)only[go_sem,h1,e1]
  generalize hb:cy+(U1.getD (j+i) 0+V.getD i 0)=b
  have hg2:∀t,t≠j+V.length→0≤(U1.set (j+i) (b % 65536)).getD t 0∧(U1.set (j+i) (b % 65536)).getD t 0<65536:=fun t ht=>by
   rw[jm (by omega)]
   split
   ·omega
   ·exact hg1 t ht
  refine⟨by omega,by omega,by omega,by omega,by omega,by omega,qb (i+1,U1.set (j+i) (b % 65536),b/65536) [] ⟨by show i+1≤_;omega,by simp[hl1],hg2,by show 0≤b/65536∧b/65536≤1;omega,fun t ht=>?_,?_⟩
   (by show V.length-(i+1)<V.length-i;omega) rfl (by simp(disch:=omega)only[go_sem];try omega) (by simp(disch:=omega)only[go_sem])⟩
  ·show(U1.set (j+i) (b % 65536)).getD t 0=_
   have ht:t<j∨j+(i+1)≤t:=ht
   rw[jm (by omega),if_neg (by omega)];exact hsame t (by omega)
  ·show vl (U1.set (j+i) (b % 65536))+65536^(j+(i+1))*(b/65536)=vl U+65536^j*vl (V.take (i+1))
   rw[Q1 (by omega),qP,←Nat.add_assoc,Int.pow_succ]
   have e3:(65536:Int)^(j+i)=65536^j*65536^i:=Int.pow_add _ _ _
   have e4:b % 65536+65536*(b/65536)=b:=Int.emod_add_mul_ediv b 65536
   rw[e3]at hval ⊢
   generalize (65536:Int)^i=Pi at*
   generalize (65536:Int)^j=Pj at*
   grind
 ·have hiA:i=V.length:=by omega
  subst hiA
  rw[List.take_length]at hval
  have e1:((j:Int)+(V.length:Int)).toNat=j+V.length:=by omega
  have es:=hsame (j+V.length) (by omega)
  simp(disch:=omega)only[go_sem,h1,e1,es]
  refine⟨by omega,by omega,by omega,by omega,?_⟩
  refine qg [] [] [.own 1 (qc (U1.set (j+V.length) (U.getD (j+V.length) 0+cy)))] [] rfl (by simp(disch:=omega)only[go_sem]) (by simp(disch:=omega)only[go_sem]) (by simp) (by simp) ⟨_,rfl,rfl,rfl,by simp[hl1],fun t ht=>?_,fun t ht=>?_,?_⟩
  ·rw[jm (by omega),if_neg ht];exact hg1 t ht
  ·rw[jm (by omega),if_neg (by omega)];exact hsame t (by omega)
  ·rw[Q1 (by omega),es]
   generalize (65536:Int)^(j+V.length)=Pj at*
   grind
end Go.Ab
namespace Go.Ab
open Go Go.Proofs
theorem jo(xs:List Int)(hl:xs.length≤2^40):Con Tryz.prog 254 false [.rf 10000000 0 xs.length] [.own 1 (qc xs)] (fun r hs bs=>r=.rf 10000000 0 (Ji xs).length∧hs=[]∧bs=[.own 1 (qc xs)]):=by
 refine Con.of_aw Tryz.func254 rfl Tryz.ntmps254 (by simp) (by simp) (by simp) (W.sound ?_)
 show @W Tryz.prog 21 ⟨_⟩ ⟨fun x σ=>@qW _ _ _ ⟨_⟩ _ ⟨_⟩ x σ⟩ _ _
 simp(disch:=omega)only[go_sem]
 refine qh (fun m:Nat=>[(0,.rf 10000000 0 m)]) (fun _=>[(10000000,.own 1 (qc xs))]) (fun m=>m≤xs.length∧Ji (xs.take m)=Ji xs) id xs.length ⟨Nat.le_refl _,by simp⟩
  (Le.lst [] _ _ rfl (by simp(disch:=omega)only[go_sem];try omega) (by simp(disch:=omega)only[go_sem])) ?_
 intro m ⟨hm,hx⟩
 have hmx:∀k,k+1=m→xs.take m=xs.take k++[xs.getD k 0]:=fun k hk=>by rw[←hk];exact jG (by omega)
 simp(disch:=omega)only[go_sem]
 refine qe (fun h1=>?_) (fun h1=>?_)
 ·obtain⟨k,rfl⟩:∃k,m=k+1:=⟨m-1,by omega⟩
  have e1:((k+1:Nat):Int)-1=(k:Nat):=by omega
  rw[hmx k rfl]at hx
  simp(disch:=omega)only[go_sem,h1,e1]
  refine⟨by omega,by omega,qe (fun h2=>?_) (fun h2=>?_)⟩
  ·simp(disch:=omega)only[go_sem,h2,e1]
   rw[h2,Qw]at hx
   refine⟨by omega,qb k [] ⟨by omega,hx⟩ (by show k<k+1;omega) rfl (by simp(disch:=omega)only[go_sem];try omega) (by simp(disch:=omega)only[go_sem])⟩
  ·simp(disch:=omega)only[go_sem,h2]
   refine qg [] [] [.own 1 (qc xs)] [.rf 10000000 0 (k+1)] rfl (by simp(disch:=omega)only[go_sem]) (by simp(disch:=omega)only[go_sem]) (by simp) (by simp) ⟨?_,rfl,rfl⟩
   rw[Y6 _ h2,←hmx k rfl]at hx
   rw[←hx,List.length_take,Nat.min_eq_left hm];rfl
 ·simp(disch:=omega)only[go_sem,h1]
  refine qg [] [] [.own 1 (qc xs)] [.rf 10000000 0 m] rfl (by simp(disch:=omega)only[go_sem]) (by simp(disch:=omega)only[go_sem]) (by simp) (by simp) ⟨?_,rfl,rfl⟩
  have:m=0:=by omega
  subst this
  rw[←hx];rfl
end Go.Ab
namespace Go.Ab
open Go Go.Proofs
theorem apO{x y:Int}(hx:0≤x∧x<65536)(hy:0≤y∧y<65536):0≤x*y∧x*y≤4294836225:=by
 have h1:=Int.mul_nonneg hx.1 hy.1
 have h2:x*y≤65535*65535:=Int.mul_le_mul (by omega) (by omega) hy.1 (by omega)
 omega
theorem aqN(cl:Bool)(A B:List Int)(hA:gd A)(hB:gd B)(lA:A.length≤1000000)(lB:B.length≤1000000):
  Con Tryz.prog 201 cl [.sl A.length (qc A),.sl B.length (qc B)] [] (asa (lim (vl A*vl B).toNat)):=by
 refine Con.of_aw Tryz.func201 rfl Tryz.ntmps201 (by simp) (by simp) (by simp) (W.sound ?_)
 show @W Tryz.prog 63 ⟨_⟩ ⟨fun x σ=>@qW _ _ _ ⟨_⟩ _ ⟨_⟩ x σ⟩ _ _
 simp(disch:=omega)only[go_sem]
 refine⟨⟨by omega,by omega,by omega⟩,?_⟩
 refine qh (fun x:Nat×List Int=>[(1,.sl B.length (qc B)),(5,.rf 180000000 0 (A.length+B.length)),(17,.sl A.length (qc A)),(18,.v (.int .i64 A.length)),(19,.v (.int .i64 x.1))])
  (fun x=>[(180000000,.own 1 (qc x.2))])
  (fun x=>x.1≤A.length∧x.2.length=A.length+B.length∧gd x.2∧vl x.2=vl (A.take x.1)*vl B∧∀j,x.1+B.length≤j→x.2.getD j 0=0)
  (fun x=>A.length-x.1) (0,List.replicate (A.length+B.length) 0) ⟨by simp,by simp,zn _,by simp[zO,vl],fun j _=>by
   rw[List.getD_eq_getElem?_getD,List.getElem?_replicate];split<;>rfl⟩
  (Le.lst [] _ _ rfl (by simp(disch:=omega)only[go_sem];try omega) (by simp(disch:=omega)only[go_sem,show((A.length:Int)+(B.length:Int)).toNat=A.length+B.length by omega])) ?_
 rintro⟨i,out⟩ ⟨hi,hol,hog,hov,hoz⟩
 dsimp only at hi hol hog hov hoz ⊢
 simp(disch:=omega)only[go_sem]
 refine qe (fun h1=>?_) (fun h1=>?_)
 ·have hx:=qJ hA i
  simp(disch:=omega)only[go_sem,h1]
  refine⟨by omega,by omega,?_⟩
  refine qh (fun x:Nat×List Int×Int=>[(1,.sl B.length (qc B)),(5,.rf 180000000 0 (A.length+B.length)),(17,.sl A.length (qc A)),(18,.v (.int .i64 A.length)),(19,.v (.int .i64 i)),(6,.v (.int .i64 i)),
    (7,.v (.int .i64 (A.getD i 0))),(8,.v (.int .i64 x.2.2)),(24,.sl B.length (qc B)),(25,.v (.int .i64 B.length)),(26,.v (.int .i64 x.1))])
   (fun x=>[(180000000,.own 1 (qc x.2.1))])
   (fun x=>x.1≤B.length∧x.2.1.length=A.length+B.length∧gd x.2.1∧(0≤x.2.2∧x.2.2<65536)∧vl x.2.1+65536^(i+x.1)*x.2.2=vl out+65536^i*(A.getD i 0*vl (B.take x.1))∧∀j,i+B.length≤j→x.2.1.getD j 0=0)
   (fun x=>B.length-x.1) (0,out,0) ⟨by simp,hol,hog,by simp,by simp[vl],hoz⟩
   (Le.lst [] _ _ rfl (by simp(disch:=omega)only[go_sem];try omega) (by simp(disch:=omega)only[go_sem])) ?_
  rintro⟨j,o2,cy⟩ ⟨hj,hol2,hog2,hcy,hov2,hoz2⟩
  dsimp only at hj hol2 hog2 hcy hov2 hoz2 ⊢
  simp(disch:=omega)only[go_sem]
  refine qe (fun h2=>?_) (fun h2=>?_)
  ·have hy:=qJ hB j
   have ho:=qJ hog2 (i+j)
   have hxy:=apO hx hy
   have e1:((i:Int)+(j:Int)).toNat=i+j:=by omega
   simp(disch:=omega)only[go_sem,h2,e1]
   generalize hq:cy+(o2.getD (i+j) 0+A.getD i 0*B.getD j 0)=q
   refine⟨by omega,by omega,by omega,by omega,by omega,by omega,qb (j+1,o2.set (i+j) (q % 65536),q/65536) [] ⟨by show j+1≤_;omega,by simp[hol2],yZ hog2 (by omega),by show 0≤q/65536∧q/65536<65536;omega,?_,fun k hk=>?_⟩
    (by show B.length-(j+1)<B.length-j;omega) rfl (by simp(disch:=omega)only[go_sem];try omega) (by simp(disch:=omega)only[go_sem])⟩
   ·show vl (o2.set (i+j) (q % 65536))+65536^(i+(j+1))*(q/65536)=vl out+65536^i*(A.getD i 0*vl (B.take (j+1)))
    rw[Q1 (by omega),jc (by omega),←Nat.add_assoc,Int.pow_succ]
    have e2:(65536:Int)^(i+j)=65536^i*65536^j:=Int.pow_add _ _ _
    have e3:q % 65536+65536*(q/65536)=q:=Int.emod_add_mul_ediv q 65536
    rw[e2]at hov2 ⊢
    generalize (65536:Int)^i=Pi at*
    generalize (65536:Int)^j=Pj at*
    grind
   ·show(o2.set (i+j) (q % 65536)).getD k 0=0
    rw[List.getD_eq_getElem?_getD,List.getElem?_set_ne (by omega),←List.getD_eq_getElem?_getD]
    exact hoz2 k hk
  ·simp(disch:=omega)only[go_sem,h2]
   have e1:((i:Int)+(B.length:Int)).toNat=i+B.length:=by omega
   have hjB:j=B.length:=by omega
   subst hjB
   rw[List.take_length]at hov2
   simp(disch:=omega)only[go_sem,e1]
   refine⟨by omega,by omega,qb (i+1,o2.set (i+B.length) cy) [] ⟨by show i+1≤_;omega,by simp[hol2],yZ hog2 hcy,?_,fun k hk=>?_⟩ (by show A.length-(i+1)<A.length-i;omega) rfl (by simp(disch:=omega)only[go_sem];try omega) (by simp(disch:=omega)only[go_sem])⟩
   ·show vl (o2.set (i+B.length) cy)=vl (A.take (i+1))*vl B
    rw[Q1 (by omega),hoz2 _ (Nat.le_refl _),jc (by omega)]
    generalize (65536:Int)^i=Pi at*
    grind
   ·show(o2.set (i+B.length) cy).getD k 0=0
    rw[List.getD_eq_getElem?_getD,List.getElem?_set_ne (by show i+B.length≠k;omega),←List.getD_eq_getElem?_getD]
    exact hoz2 k (by omega)
 ·simp(disch:=omega)only[go_sem,h1]
  have hiA:i=A.length:=by omega
  subst hiA
  rw[List.take_length]at hov
  refine q6 false [180000000] (jo out (by omega)) (by rw[←hol];simp(disch:=omega)only[go_sem]) (by simp(disch:=omega)only[go_sem]) rfl (qK (z:=1) (cs:=qc out) (by simp(disch:=omega)only[go_sem]) (by simp(disch:=omega)only[go_sem])) (by intro n hn;exact⟨_,List.mem_singleton.2 rfl,by rw[List.mem_singleton.1 hn];rfl⟩) ?_
  rintro r hs bs ⟨rfl,rfl,rfl⟩ _
  refine⟨by simp[qO],?_⟩
  simp(disch:=omega)only[go_sem]
  obtain⟨z,hz⟩:=zM out
  have hc:=ja hog
  rw[hov]at hc
  rw[hc]at hz ⊢
  refine qg [(0,180000000)] [.own 1 (qc out)] [] [.rf 0 0 (lim (vl A*vl B).toNat).length] rfl (by simp(disch:=omega)only[go_sem]) (by simp(disch:=omega)only[go_sem]) (by simp) (by intro _;simp[zi,AV.pu,AV.pu.puL,Ob.pu,qY]) (.inr ⟨List.replicate z 0,rfl,by rw[←hz]⟩)
end Go.Ab
namespace Go.Ab
open Go Go.Proofs
theorem aqQ(cl:Bool)(n:Nat)(hn:n<2^63):Con Tryz.prog 216 cl [.v (.int .i64 n)] [] (asa (lim n)):=by
 refine Con.of_aw Tryz.func216 rfl Tryz.ntmps216 (by simp) (by simp) (by simp) (W.sound ?_)
 show @W Tryz.prog 14 ⟨_⟩ ⟨fun x σ=>@qW _ _ _ ⟨_⟩ _ ⟨_⟩ x σ⟩ _ _
 simp(disch:=omega)only[go_sem]
 refine qh (fun x:Nat×List Int=>[(0,.v (.int .i64 x.1)),(3,.rf 1 0 x.2.length)]) (fun x=>[(1,.own 1 (qc x.2))]) (fun x=>x.1<2^63∧x.2++lim x.1=lim n) (fun x=>x.1) (n,[]) ⟨hn,rfl⟩
  ((Le.ghost 3 1 1 (by simp(disch:=omega)only[go_sem]) (by simp(disch:=omega)only[go_sem])).trans (Le.lst [] _ _ rfl (by simp(disch:=omega)only[go_sem]) (by simp(disch:=omega)only[go_sem]))) ?_
 rintro⟨k,l⟩ ⟨hk,hl⟩
 dsimp only at hk hl ⊢
 have hlen:l.length≤4:=by
  have h1:=congrArg List.length hl
  have h2:=jC (n:=n) (k:=4) |>.2 (by omega)
  rw[List.length_append]at h1;omega
 simp(disch:=omega)only[go_sem]
 refine qe (fun h1=>?_) (fun h1=>?_)
 ·simp(disch:=omega)only[go_sem,h1]
  have hk0:k≠0:=by omega
  refine⟨by omega,qb (k/65536,l++[(k:Int) % 65536]) [(1,140000000)] ⟨by show k/65536<2^63;omega,?_⟩ (by show k/65536<k;omega) rfl (by simp(disch:=omega)only[go_sem,List.length_append];omega) (by simp(disch:=omega)only[go_sem])⟩
  rw[j6 hk0]at hl
  rw[←hl,List.append_assoc];rfl
 ·simp(disch:=omega)only[go_sem,h1]
  have hk0:k=0:=by omega
  subst hk0
  rw[qn,List.append_nil]at hl
  subst hl
  refine qg [(0,1)] [.own 1 (qc (lim n++[]))] [] [.rf 0 0 (lim n).length] rfl (by simp(disch:=omega)only[go_sem]) (by simp(disch:=omega)only[go_sem]) (by simp) (by intro _;simp[zi,AV.pu,AV.pu.puL,Ob.pu,qY]) (.inr ⟨[],rfl,rfl⟩)
end Go.Ab
namespace Go.Ab
open Go Go.Proofs
theorem yp(k:Nat)(h:k<16):(0:Int)<2^k∧(2:Int)^k≤32768:=by
 have:∀k,k<16→(0:Int)<2^k∧(2:Int)^k≤32768:=by decide
 exact this k h
theorem apN{x:Int}(hx:0≤x∧x<65536){k:Nat}(hk:k<16):0≤x*2^k∧x*2^k≤2147450880:=by
 obtain⟨h1,h2⟩:=yp k hk
 have h3:=Int.mul_nonneg hx.1 (Int.le_of_lt h1)
 have h4:x*2^k≤65535*32768:=Int.mul_le_mul (by omega) h2 (by omega) (by omega)
 omega
theorem K7(k:Nat):(65536:Int)^(k/16)*2^(k % 16)=2^k:=by
 have e:(65536:Int)=2^16:=by decide
 rw[e,←Int.pow_mul,←Int.pow_add,Nat.div_add_mod]
theorem aTL(cl:Bool)(A:List Int)(k:Nat)(hA:gd A)(lA:A.length≤1000000)(hk:k≤100000000):
  Con Tryz.prog 244 cl [.sl A.length (qc A),.v (.int .i64 k)] [] (asa (lim (vl A*2^k).toNat)):=by
 refine Con.of_aw Tryz.func244 rfl Tryz.ntmps244 (by simp) (by simp) (by simp) (W.sound ?_)
 show @W Tryz.prog 46 ⟨_⟩ ⟨fun x σ=>@qW _ _ _ ⟨_⟩ _ ⟨_⟩ x σ⟩ _ _
 simp(disch:=omega)only[go_sem]
 refine qe (fun h0=>?_) (fun h0=>?_)
 ·simp(disch:=omega)only[go_sem,h0]
  have:A=[]:=List.length_eq_zero_iff.1 (by omega)
  subst this
  refine qg [] [] [] [.v (.slice none 0 0)] rfl (by simp(disch:=omega)only[go_sem]) (by simp(disch:=omega)only[go_sem]) (by simp) (by intro _;simp[zi,AV.pu,AV.pu.puL,Ob.pu,qY]) (.inl ⟨by simp[vl,qn],rfl,rfl⟩)
 ·simp(disch:=omega)only[go_sem,h0]
  refine⟨by omega,?_⟩
  have e16:((k:Int)/16).toNat=k/16:=by omega
  refine qh (fun x:Nat×List Int×Int=>[(1,.v (.int .i64 k)),(5,.rf 1 0 x.2.1.length),(6,.v (.int .i64 x.2.2)),(21,.sl A.length (qc A)),(22,.v (.int .i64 A.length)),(23,.v (.int .i64 x.1))])
   (fun x=>[(1,.own 1 (qc x.2.1))])
   (fun x=>x.1≤A.length∧x.2.1.length=k/16+x.1∧gd x.2.1∧(0≤x.2.2∧x.2.2<65536)∧vl x.2.1+65536^(k/16+x.1)*x.2.2=65536^(k/16)*2^(k % 16)*vl (A.take x.1))
   (fun x=>A.length-x.1) (0,List.replicate (k/16) 0,0) ⟨by simp,by simp,zn _,by simp,by simp[vl,zO]⟩
   (Le.lst [(1,220000000)] _ _ rfl (by simp(disch:=omega)only[go_sem,List.length_replicate,e16]) (by simp(disch:=omega)only[go_sem,e16])) ?_
  rintro⟨i,out,cy⟩ ⟨hi,hol,hog,hcy,hov⟩
  dsimp only at hi hol hog hcy hov ⊢
  simp(disch:=omega)only[go_sem]
  refine qe (fun h1=>?_) (fun h1=>?_)
  ·have hx:=qJ hA i
   have hxs:=apN hx (show k % 16<16 by omega)
   have em:min ((k:Int) % 16).toNat 64=k % 16:=by omega
   simp(disch:=omega)only[go_sem,h1,em]
   generalize hq:cy+A.getD i 0*2^(k % 16)=q
   refine⟨by omega,by omega,by omega,by omega,qb (i+1,out++[q % 65536],q/65536) [(1,390000000)] ⟨by show i+1≤_;omega,by simp[hol];omega,qF.2 ⟨hog,zS.2 (by omega)⟩,by show 0≤q/65536∧q/65536<65536;omega,?_⟩ (by show A.length-(i+1)<A.length-i;omega) rfl (by simp(disch:=omega)only[go_sem,List.length_append];try omega) (by simp(disch:=omega)only[go_sem])⟩
   show vl (out++[q % 65536])+65536^(k/16+(i+1))*(q/65536)=65536^(k/16)*2^(k % 16)*vl (A.take (i+1))
   rw[js,qP,hol,←Nat.add_assoc,Int.pow_succ]
   have e3:q % 65536+65536*(q/65536)=q:=Int.emod_add_mul_ediv q 65536
   rw[Int.pow_add]at hov ⊢
   generalize (65536:Int)^i=Pi at*
   generalize (65536:Int)^(k/16)=Pk at*
   generalize (2:Int)^(k % 16)=Pm at*
   grind
  ·simp(disch:=omega)only[go_sem,h1]
   have hiA:i=A.length:=by omega
   subst hiA
   rw[List.take_length,K7]at hov
   have hov2:vl (out++[cy])=vl A*2^k:=by rw[js,hol,hov];grind
   have hog2:gd (out++[cy]):=qF.2 ⟨hog,zS.2 hcy⟩
   refine⟨by omega,?_⟩
   have hl2:out.length+1=(out++[cy]).length:=by simp
   rw[hl2]
   refine q6 false [460000000] (jo (out++[cy]) (by simp;omega)) (by simp(disch:=omega)only[go_sem]) (by simp(disch:=omega)only[go_sem]) rfl (qK (z:=1) (cs:=qc (out++[cy])) (by simp(disch:=omega)only[go_sem]) (by simp(disch:=omega)only[go_sem])) (by intro n hn;exact⟨_,List.mem_singleton.2 rfl,by rw[List.mem_singleton.1 hn];rfl⟩) ?_
   rintro r hs bs ⟨rfl,rfl,rfl⟩ _
   refine⟨by simp[qO],?_⟩
   simp(disch:=omega)only[go_sem]
   obtain⟨z,hz⟩:=zM (out++[cy])
   have hc:=ja hog2
   rw[hov2]at hc
   rw[hc]at hz ⊢
   refine qg [(0,460000000)] [.own 1 (qc (out++[cy]))] [] [.rf 0 0 (lim (vl A*2^k).toNat).length] rfl (by simp(disch:=omega)only[go_sem]) (by simp(disch:=omega)only[go_sem]) (by simp) (by intro _;simp[zi,AV.pu,AV.pu.puL,Ob.pu,qY]) (.inr ⟨List.replicate z 0,rfl,by rw[←hz]⟩)
end Go.Ab
namespace Go.Ab
open Go Go.Proofs
theorem aCm(V P:Int)(hP:0<P):V % (P*65536)=V % P+P*(V/P % 65536):=by
 rw[Int.emod_def,Int.emod_def,Int.emod_def,←Int.ediv_ediv_of_nonneg (Int.le_of_lt hP)]
 grind
theorem aBP{s:Nat}(hs:s<16):(65536:Int)=2^s*2^(16-s):=by
 rw[←Int.pow_add,show s+(16-s)=16 by omega];decide
theorem aj4{D:List Int}(hD:gd D){i s:Nat}(hi:i<D.length)(hs:s<16):
  (vl D/2^s)/65536^i % 65536=(D.getD i 0+D.getD (i+1) 0*65536)/2^s % 65536:=by
 have h2:=(yp s hs).1
 rw[Int.ediv_ediv_of_nonneg (Int.le_of_lt h2),Int.mul_comm,←Int.ediv_ediv_of_nonneg (Int.le_of_lt (Int.pow_pos (by omega))),ae0 hD (by omega),zA hi]
 have h3:vl (D.drop (i+1))=D.getD (i+1) 0+65536*vl (D.drop (i+2)):=by
  rcases Nat.lt_or_ge (i+1) D.length with h|h
  ·exact zA h
  ·rw[List.drop_of_length_le h,List.drop_of_length_le (by omega),List.getD_eq_getElem?_getD,List.getElem?_eq_none h];simp[vl]
 rw[h3]
 have e:D.getD i 0+65536*(D.getD (i+1) 0+65536*vl (D.drop (i+2)))=(D.getD i 0+D.getD (i+1) 0*65536)+2^s*(65536*(2^(16-s)*vl (D.drop (i+2)))):=by
  have:=aBP hs
  generalize (2:Int)^s=a at*
  generalize (2:Int)^(16-s)=b at*
  grind
 rw[e,Int.add_mul_ediv_left _ _ (by omega),Int.add_mul_emod_self_left]
theorem apx{a b:Nat}(h:a≤b):(65536:Int)^a≤65536^b:=by
 obtain⟨d,rfl⟩:=Nat.exists_eq_add_of_le h
 have h1:(0:Int)<65536^a:=Int.pow_pos (by omega)
 have h2:(0:Int)<65536^d:=Int.pow_pos (by omega)
 have h3:=Int.mul_le_mul_of_nonneg_left (show(1:Int)≤65536^d by omega) (Int.le_of_lt h1)
 rw[Int.mul_one,←Int.pow_add]at h3
 exact h3
theorem aDI(cl:Bool)(A:List Int)(k:Nat)(hA:gd A)(lA:A.length≤1000000)(hk:k≤100000000):
  Con Tryz.prog 235 cl [.sl A.length (qc A),.v (.int .i64 k)] [] (asa (lim (vl A/2^k).toNat)):=by
 refine Con.of_aw Tryz.func235 rfl Tryz.ntmps235 (by simp) (by simp) (by simp) (W.sound ?_)
 show @W Tryz.prog 52 ⟨_⟩ ⟨fun x σ=>@qW _ _ _ ⟨_⟩ _ ⟨_⟩ x σ⟩ _ _
 have hvk:vl A/2^k=vl A/65536^(k/16)/2^(k % 16):=by
  rw[Int.ediv_ediv_of_nonneg (Int.le_of_lt (Int.pow_pos (by omega))),K7]
 simp(disch:=omega)only[go_sem]
 refine qe (fun h0=>?_) (fun h0=>?_)
 ·simp(disch:=omega)only[go_sem,h0]
  have hz:vl A/2^k=0:=by
   rw[hvk,Int.ediv_eq_zero_of_lt (qU hA)]
   ·simp
   ·refine Int.lt_of_lt_of_le (QB hA) ?_
    exact apx (by omega)
  rw[hz]
  refine qg [] [] [] [.v (.slice none 0 0)] rfl (by simp(disch:=omega)only[go_sem]) (by simp(disch:=omega)only[go_sem]) (by simp) (by intro _;simp[zi,AV.pu,AV.pu.puL,Ob.pu,qY]) (.inl ⟨by simp[qn],rfl,rfl⟩)
 ·have e16:((k:Int)/16).toNat=k/16:=by omega
  have e17:((A.length:Int)-(k:Int)/16).toNat=(A.drop (k/16)).length:=by simp;omega
  have e18:(A.drop (k/16)).take (A.drop (k/16)).length=A.drop (k/16):=List.take_length
  have hvD:=ae0 hA (i:=k/16) (by omega)
  have hlD:(A.drop (k/16)).length≤1000000:=by simp;omega
  have hD:=yw hA (k/16)
  simp(disch:=omega)only[go_sem,h0,e16,e17,e18]
  generalize A.drop (k/16)=D at*
  refine⟨by omega,by omega,?_⟩
  refine qh (fun x:Nat×List Int=>[(1,.v (.int .i64 k)),(5,.sl D.length (qc D)),(6,.rf 1 0 x.2.length),(21,.sl D.length (qc D)),(22,.v (.int .i64 D.length)),(23,.v (.int .i64 x.1))])
   (fun x=>[(1,.own 1 (qc x.2))])
   (fun x=>x.1≤D.length∧x.2.length=x.1∧gd x.2∧vl x.2=vl D/2^(k % 16) % 65536^x.1)
   (fun x=>D.length-x.1) (0,[]) ⟨by simp,rfl,Ja,by simp[vl]⟩
   (Le.lst [(1,220000000)] _ _ rfl (by simp(disch:=omega)only[go_sem]) (by simp(disch:=omega)only[go_sem])) ?_
  rintro⟨i,out⟩ ⟨hi,hol,hog,hov⟩
  dsimp only at hi hol hog hov ⊢
  simp(disch:=omega)only[go_sem]
  refine qe (fun h1=>?_) (fun h1=>?_)
  ·have hx:=qJ hD i
   have hy:=qJ hD (i+1)
   have em:min ((k:Int) % 16).toNat 64=k % 16:=by omega
   have hm:=yp (k % 16) (by omega)
   have efd:∀x:Int,x.fdiv (2^(k % 16))=x/2^(k % 16):=fun x=>Int.fdiv_eq_ediv_of_nonneg _ (Int.le_of_lt hm.1)
   have hdig:=aj4 hD (i:=i) (s:=k % 16) (by omega) (by omega)
   have hnn:∀x:Int,0≤x→0≤x/2^(k % 16):=fun x hx=>Int.ediv_nonneg hx (Int.le_of_lt hm.1)
   have ei:((i:Int)+1).toNat=i+1:=by omega
   have hstep:∀z:Int,z=(D.getD i 0+D.getD (i+1) 0*65536)/2^(k % 16) % 65536→vl (out++[z])=vl D/2^(k % 16) % 65536^(i+1):=by
    intro z hz
    rw[js,hov,hol,Int.pow_succ,aCm _ _ (Int.pow_pos (by omega)),hdig,hz]
   simp(disch:=omega)only[go_sem,h1]
   refine⟨by omega,by omega,qe (fun h2=>?_) (fun h2=>?_)⟩
   ·have hn1:=hnn (D.getD i 0+D.getD (i+1) 0*65536) (by omega)
    simp(disch:=omega)only[go_sem,h2,em,efd,ei]
    refine⟨by omega,by omega,by omega,by omega,qb (i+1,out++[(D.getD i 0+D.getD (i+1) 0*65536)/2^(k % 16) % 65536]) [(1,500000000)] ⟨by show i+1≤_;omega,by simp[hol],qF.2 ⟨hog,zS.2 (by omega)⟩,hstep _ rfl⟩ (by show D.length-(i+1)<D.length-i;omega) rfl (by simp(disch:=omega)only[go_sem,List.length_append];try omega) (by simp(disch:=omega)only[go_sem])⟩
   ·have hn1:=hnn (D.getD i 0) (by omega)
    simp(disch:=omega)only[go_sem,h2,em,efd]
    have hy0:D.getD (i+1) 0=0:=by rw[List.getD_eq_getElem?_getD,List.getElem?_eq_none (by omega)];rfl
    refine⟨by omega,by omega,qb (i+1,out++[D.getD i 0/2^(k % 16) % 65536]) [(1,500000000)] ⟨by show i+1≤_;omega,by simp[hol],qF.2 ⟨hog,zS.2 (by omega)⟩,hstep _ (by rw[hy0];simp)⟩ (by show D.length-(i+1)<D.length-i;omega) rfl (by simp(disch:=omega)only[go_sem,List.length_append];try omega) (by simp(disch:=omega)only[go_sem])⟩
  ·simp(disch:=omega)only[go_sem,h1]
   have hiD:i=D.length:=by omega
   subst hiD
   have hV:vl out=vl A/2^k:=by
    rw[hov,hvk,hvD]
    refine Int.emod_eq_of_lt (Int.ediv_nonneg (qU hD) (Int.le_of_lt (yp (k % 16) (by omega)).1)) ?_
    exact Int.lt_of_le_of_lt (Int.ediv_le_self _ (qU hD)) (QB hD)
   refine q6 false [1] (jo out (by omega)) (by simp(disch:=omega)only[go_sem]) (by simp(disch:=omega)only[go_sem]) rfl (qK (z:=1) (cs:=qc out) (by simp(disch:=omega)only[go_sem]) (by simp(disch:=omega)only[go_sem])) (by intro n hn;exact⟨_,List.mem_singleton.2 rfl,by rw[List.mem_singleton.1 hn];rfl⟩) ?_
   rintro r hs bs ⟨rfl,rfl,rfl⟩ _
   refine⟨by simp[qO],?_⟩
   simp(disch:=omega)only[go_sem]
   obtain⟨z,hz⟩:=zM out
   have hc:=ja hog
   rw[hV]at hc
   rw[hc]at hz ⊢
   refine qg [(0,1)] [.own 1 (qc out)] [] [.rf 0 0 (lim (vl A/2^k).toNat).length] rfl (by simp(disch:=omega)only[go_sem]) (by simp(disch:=omega)only[go_sem]) (by simp) (by intro _;simp[zi,AV.pu,AV.pu.puL,Ob.pu,qY]) (.inr ⟨List.replicate z 0,rfl,by rw[←hz]⟩)
end Go.Ab
namespace Go.Ab
open Go Go.Proofs
theorem drop_set{l:List Int}{i:Nat}(h:i<l.length)(z:Int):(l.set i z).drop i=z::l.drop (i+1):=by
 rw[List.drop_eq_getElem_cons (by simpa using h)]
 simp[List.drop_set]
theorem aDJ(cl:Bool)(A:List Int)(d:Nat)(hA:gd A)(lA:A.length≤1000000)(hd:0<d)(hd2:d<65536):
  Con Tryz.prog 288 cl [.sl A.length (qc A),.v (.int .i64 d)] [] (fun r hs bs=>∃zs,r=.tu [.rf 0 0 (lim (vl A/d).toNat).length,.v (.int .i64 (vl A % d))]∧hs=[.own 1 (qc (lim (vl A/d).toNat++zs))]):=by
 refine Con.of_aw Tryz.func288 rfl Tryz.ntmps288 (by simp) (by simp) (by simp) (W.sound ?_)
 show @W Tryz.prog 38 ⟨_⟩ ⟨fun x σ=>@qW _ _ _ ⟨_⟩ _ ⟨_⟩ x σ⟩ _ _
 simp(disch:=omega)only[go_sem]
 refine⟨by omega,?_⟩
 refine qh (fun x:Nat×List Int×Int=>[(0,.sl A.length (qc A)),(1,.v (.int .i64 d)),(6,.rf 130000000 0 A.length),(7,.v (.int .i64 x.2.2)),(8,.v (.int .i64 ((x.1:Int)-1)))])
  (fun x=>[(130000000,.own 1 (qc x.2.1))])
  (fun x=>x.1≤A.length∧x.2.1.length=A.length∧gd x.2.1∧x.2.2=vl (A.drop x.1) % d∧vl (x.2.1.drop x.1)=vl (A.drop x.1)/d)
  (fun x=>x.1) (A.length,List.replicate A.length 0,0) ⟨by simp,by simp,zn _,by simp[vl],by simp[vl]⟩
  (Le.lst [] _ _ rfl (by simp(disch:=omega)only[go_sem];try omega) (by simp(disch:=omega)only[go_sem])) ?_
 rintro⟨m,out,rest⟩ ⟨hm,hol,hog,hr,hov⟩
 dsimp only at hm hol hog hr hov ⊢
 simp(disch:=omega)only[go_sem]
 refine qe (fun h1=>?_) (fun h1=>?_)
 ·obtain⟨i,rfl⟩:∃i,m=i+1:=⟨m-1,by omega⟩
  have e1:((i+1:Nat):Int)-1=(i:Nat):=by omega
  have hx:=qJ hA i
  have hr2:0≤rest∧rest<d:=by rw[hr];exact⟨Int.emod_nonneg _ (by omega),Int.emod_lt_of_pos _ (by omega)⟩
  generalize hq:rest*65536+A.getD i 0=q
  have hq0:0≤q:=by omega
  have hqd:0≤q/d∧q/d<65536:=⟨Int.ediv_nonneg hq0 (by omega),Int.ediv_lt_of_lt_mul (by omega) (by omega)⟩
  have hqm:0≤q % d∧q % d<d:=⟨Int.emod_nonneg _ (by omega),Int.emod_lt_of_pos _ (by omega)⟩
  simp(disch:=omega)only[go_sem,h1,e1,hq]
  refine⟨by omega,by omega,by omega,by omega,by omega,by omega,qb (i,out.set i (q/d),q % d) [] ⟨by show i≤_;omega,by simp[hol],yZ hog hqd,?_,?_⟩ (by show i<i+1;omega) rfl (by simp(disch:=omega)only[go_sem]) (by simp(disch:=omega)only[go_sem])⟩
  ·show q % d=vl (A.drop i) % d
   rw[zA (l:=A) (i:=i) (by omega),←hq,hr]
   have h3:=Int.emod_add_mul_ediv (vl (A.drop (i+1))) d
   rw[show A.getD i 0+65536*vl (A.drop (i+1))=vl (A.drop (i+1)) % d*65536+A.getD i 0+d*(65536*(vl (A.drop (i+1))/d)) by grind,Int.add_mul_emod_self_left]
  ·show vl ((out.set i (q/d)).drop i)=vl (A.drop i)/d
   rw[drop_set (by omega),vl,hov,zA (l:=A) (i:=i) (by omega),←hq,hr]
   have h3:=Int.emod_add_mul_ediv (vl (A.drop (i+1))) d
   rw[show A.getD i 0+65536*vl (A.drop (i+1))=vl (A.drop (i+1)) % d*65536+A.getD i 0+d*(65536*(vl (A.drop (i+1))/d)) by grind,Int.add_mul_ediv_left _ _ (by omega)]
 ·simp(disch:=omega)only[go_sem,h1]
  have:m=0:=by omega
  subst this
  rw[List.drop_zero,List.drop_zero]at hov
  rw[List.drop_zero]at hr
  rw[←hol]
  refine q6 false [130000000] (jo out (by omega)) (by simp(disch:=omega)only[go_sem]) (by simp(disch:=omega)only[go_sem]) rfl (qK (z:=1) (cs:=qc out) (by simp(disch:=omega)only[go_sem]) (by simp(disch:=omega)only[go_sem])) (by intro n hn;exact⟨_,List.mem_singleton.2 rfl,by rw[List.mem_singleton.1 hn];rfl⟩) ?_
  rintro r hs bs ⟨rfl,rfl,rfl⟩ _
  refine⟨by simp[qO],?_⟩
  simp(disch:=omega)only[go_sem]
  obtain⟨z,hz⟩:=zM out
  have hc:=ja hog
  rw[hov]at hc
  rw[hc]at hz ⊢
  rw[hr]
  refine qg [(0,130000000)] [.own 1 (qc out)] [] [.rf 0 0 (lim (vl A/d).toNat).length,.v (.int .i64 (vl A % d))] rfl (by simp(disch:=omega)only[go_sem]) (by simp(disch:=omega)only[go_sem]) (by simp) (by intro _;simp[zi,AV.pu,AV.pu.puL,Ob.pu,qY]) ⟨List.replicate z 0,rfl,by rw[←hz]⟩
end Go.Ab
namespace Go.Ab
open Go Go.Proofs
theorem aDz(cl:Bool)(A B:List Int)(hA:gd A)(hB:gd B)(lA:A.length≤2000000)(lB:B.length≤2000000):
  Con Tryz.prog 249 cl [.sl A.length (qc A),.sl B.length (qc B)] [] (asa (lim (vl A+vl B).toNat)):=by
 refine Con.of_aw Tryz.func249 rfl Tryz.ntmps249 (by simp) (by simp) (by simp) (W.sound ?_)
 show @W Tryz.prog 53 ⟨_⟩ ⟨fun x σ=>@qW _ _ _ ⟨_⟩ _ ⟨_⟩ x σ⟩ _ _
 simp(disch:=omega)only[go_sem]
 refine qe (fun h0=>?_) (fun h0=>?_)
 all_goals simp(disch:=omega)only[go_sem,h0]
 ·revert A B
  intro Y X hY hX lY lX h0'
  have h00:Y.length≤X.length:=by omega
  have hcm:vl Y+vl X=vl X+vl Y:=Int.add_comm _ _
  refine⟨by omega,?_⟩
  refine qh (fun x:Nat×List Int×Int=>[(1,.sl Y.length (qc Y)),(5,.rf 1 0 x.2.1.length),(6,.v (.int .i64 x.2.2)),(20,.sl X.length (qc X)),(21,.v (.int .i64 X.length)),(22,.v (.int .i64 x.1))])
   (fun x=>[(1,.own 1 (qc x.2.1))])
   (fun x=>x.1≤X.length∧x.2.1.length=x.1∧gd x.2.1∧(0≤x.2.2∧x.2.2≤1)∧vl x.2.1+65536^x.1*x.2.2=vl (X.take x.1)+vl (Y.take x.1))
   (fun x=>X.length-x.1) (0,[],0) ⟨by simp,rfl,Ja,by simp,by simp[vl]⟩
   (Le.lst [(1,210000000)] _ _ rfl (by simp(disch:=omega)only[go_sem]) (by simp(disch:=omega)only[go_sem])) ?_
  rintro⟨i,out,cy⟩ ⟨hi,hol,hog,hcy,hov⟩
  dsimp only at hi hol hog hcy hov ⊢
  simp(disch:=omega)only[go_sem]
  refine qe (fun h1=>?_) (fun h1=>?_)
  ·have hx:=qJ hX i
   have hy:=qJ hY i
   have hstep:∀q:Int,q=cy+X.getD i 0+Y.getD i 0→vl (out++[q % 65536])+65536^(i+1)*(q/65536)=vl (X.take (i+1))+vl (Y.take (i+1)):=by
    intro q hq
    rw[js,qP,qP,hol,Int.pow_succ]
    have e3:q % 65536+65536*(q/65536)=q:=Int.emod_add_mul_ediv q 65536
    generalize (65536:Int)^i=Pi at*
    grind
   have hyz:¬i<Y.length→Y.getD i 0=0:=fun h=>by rw[List.getD_eq_getElem?_getD,List.getElem?_eq_none (by omega)];rfl
   simp(disch:=omega)only[go_sem,h1]
   refine⟨by omega,by omega,qe (fun h2=>?_) (fun h2=>?_)⟩
   ·simp(disch:=omega)only[go_sem,h2]
    generalize hq:cy+X.getD i 0+Y.getD i 0=q
    refine⟨by omega,by omega,by omega,qb (i+1,out++[q % 65536],q/65536) [(1,460000000)] ⟨by show i+1≤_;omega,by simp[hol],qF.2 ⟨hog,zS.2 (by omega)⟩,by show 0≤q/65536∧q/65536≤1;omega,hstep q hq.symm⟩ (by show X.length-(i+1)<X.length-i;omega) rfl (by simp(disch:=omega)only[go_sem,List.length_append];try omega) (by simp(disch:=omega)only[go_sem])⟩
   ·simp(disch:=omega)only[go_sem,h2]
    have hy0:=hyz (by omega)
    generalize hq:cy+X.getD i 0=q
    refine⟨by omega,qb (i+1,out++[q % 65536],q/65536) [(1,460000000)] ⟨by show i+1≤_;omega,by simp[hol],qF.2 ⟨hog,zS.2 (by omega)⟩,by show 0≤q/65536∧q/65536≤1;omega,hstep q (by omega)⟩ (by show X.length-(i+1)<X.length-i;omega) rfl (by simp(disch:=omega)only[go_sem,List.length_append];try omega) (by simp(disch:=omega)only[go_sem])⟩
  ·simp(disch:=omega)only[go_sem,h1]
   have hiA:i=X.length:=by omega
   subst hiA
   rw[List.take_length,List.take_of_length_le h00]at hov
   have hov2:vl (out++[cy])=vl X+vl Y:=by rw[js,hol];exact hov
   have hog2:gd (out++[cy]):=qF.2 ⟨hog,zS.2 (by omega)⟩
   refine⟨by omega,?_⟩
   have hl2:out.length+1=(out++[cy]).length:=by simp
   rw[hl2]
   refine q6 false [530000000] (jo (out++[cy]) (by simp;omega)) (by simp(disch:=omega)only[go_sem]) (by simp(disch:=omega)only[go_sem]) rfl (qK (z:=1) (cs:=qc (out++[cy])) (by simp(disch:=omega)only[go_sem]) (by simp(disch:=omega)only[go_sem])) (by intro n hn;exact⟨_,List.mem_singleton.2 rfl,by rw[List.mem_singleton.1 hn];rfl⟩) ?_
   rintro r hs bs ⟨rfl,rfl,rfl⟩ _
   refine⟨by simp[qO],?_⟩
   simp(disch:=omega)only[go_sem]
   obtain⟨z,hz⟩:=zM (out++[cy])
   have hc:=ja hog2
   rw[hov2]at hc
   rw[hc]at hz ⊢
   refine qg [(0,530000000)] [.own 1 (qc (out++[cy]))] [] [.rf 0 0 (lim (vl X+vl Y).toNat).length] rfl (by simp(disch:=omega)only[go_sem]) (by simp(disch:=omega)only[go_sem]) (by simp) (by intro _;simp[zi,AV.pu,AV.pu.puL,Ob.pu,qY]) (.inr ⟨List.replicate z 0,by rw[hcm];rfl,by rw[hcm,←hz]⟩)
 ·revert A B
  intro X Y hX hY lX lY h0'
  have h00:Y.length≤X.length:=by omega
  have hcm:vl X+vl Y=vl X+vl Y:=rfl
  refine⟨by omega,?_⟩
  refine qh (fun x:Nat×List Int×Int=>[(1,.sl Y.length (qc Y)),(5,.rf 1 0 x.2.1.length),(6,.v (.int .i64 x.2.2)),(20,.sl X.length (qc X)),(21,.v (.int .i64 X.length)),(22,.v (.int .i64 x.1))])
   (fun x=>[(1,.own 1 (qc x.2.1))])
   (fun x=>x.1≤X.length∧x.2.1.length=x.1∧gd x.2.1∧(0≤x.2.2∧x.2.2≤1)∧vl x.2.1+65536^x.1*x.2.2=vl (X.take x.1)+vl (Y.take x.1))
   (fun x=>X.length-x.1) (0,[],0) ⟨by simp,rfl,Ja,by simp,by simp[vl]⟩
   (Le.lst [(1,210000000)] _ _ rfl (by simp(disch:=omega)only[go_sem]) (by simp(disch:=omega)only[go_sem])) ?_
  rintro⟨i,out,cy⟩ ⟨hi,hol,hog,hcy,hov⟩
  dsimp only at hi hol hog hcy hov ⊢
  simp(disch:=omega)only[go_sem]
  refine qe (fun h1=>?_) (fun h1=>?_)
  ·have hx:=qJ hX i
   have hy:=qJ hY i
   have hstep:∀q:Int,q=cy+X.getD i 0+Y.getD i 0→vl (out++[q % 65536])+65536^(i+1)*(q/65536)=vl (X.take (i+1))+vl (Y.take (i+1)):=by
    intro q hq
    rw[js,qP,qP,hol,Int.pow_succ]
    have e3:q % 65536+65536*(q/65536)=q:=Int.emod_add_mul_ediv q 65536
    generalize (65536:Int)^i=Pi at*
    grind
   have hyz:¬i<Y.length→Y.getD i 0=0:=fun h=>by rw[List.getD_eq_getElem?_getD,List.getElem?_eq_none (by omega)];rfl
   simp(disch:=omega)only[go_sem,h1]
   refine⟨by omega,by omega,qe (fun h2=>?_) (fun h2=>?_)⟩
   ·simp(disch:=omega)only[go_sem,h2]
    generalize hq:cy+X.getD i 0+Y.getD i 0=q
    refine⟨by omega,by omega,by omega,qb (i+1,out++[q % 65536],q/65536) [(1,460000000)] ⟨by show i+1≤_;omega,by simp[hol],qF.2 ⟨hog,zS.2 (by omega)⟩,by show 0≤q/65536∧q/65536≤1;omega,hstep q hq.symm⟩ (by show X.length-(i+1)<X.length-i;omega) rfl (by simp(disch:=omega)only[go_sem,List.length_append];try omega) (by simp(disch:=omega)only[go_sem])⟩
   ·simp(disch:=omega)only[go_sem,h2]
    have hy0:=hyz (by omega)
    generalize hq:cy+X.getD i 0=q
    refine⟨by omega,qb (i+1,out++[q % 65536],q/65536) [(1,460000000)] ⟨by show i+1≤_;omega,by simp[hol],qF.2 ⟨hog,zS.2 (by omega)⟩,by show 0≤q/65536∧q/65536≤1;omega,hstep q (by omega)⟩ (by show X.length-(i+1)<X.length-i;omega) rfl (by simp(disch:=omega)only[go_sem,List.length_append];try omega) (by simp(disch:=omega)only[go_sem])⟩
  ·simp(disch:=omega)only[go_sem,h1]
   have hiA:i=X.length:=by omega
   subst hiA
   rw[List.take_length,List.take_of_length_le h00]at hov
   have hov2:vl (out++[cy])=vl X+vl Y:=by rw[js,hol];exact hov
   have hog2:gd (out++[cy]):=qF.2 ⟨hog,zS.2 (by omega)⟩
   refine⟨by omega,?_⟩
   have hl2:out.length+1=(out++[cy]).length:=by simp
   rw[hl2]
   refine q6 false [530000000] (jo (out++[cy]) (by simp;omega)) (by simp(disch:=omega)only[go_sem]) (by simp(disch:=omega)only[go_sem]) rfl (qK (z:=1) (cs:=qc (out++[cy])) (by simp(disch:=omega)only[go_sem]) (by simp(disch:=omega)only[go_sem])) (by intro n hn;exact⟨_,List.mem_singleton.2 rfl,by rw[List.mem_singleton.1 hn];rfl⟩) ?_
   rintro r hs bs ⟨rfl,rfl,rfl⟩ _
   refine⟨by simp[qO],?_⟩
   simp(disch:=omega)only[go_sem]
   obtain⟨z,hz⟩:=zM (out++[cy])
   have hc:=ja hog2
   rw[hov2]at hc
   rw[hc]at hz ⊢
   refine qg [(0,530000000)] [.own 1 (qc (out++[cy]))] [] [.rf 0 0 (lim (vl X+vl Y).toNat).length] rfl (by simp(disch:=omega)only[go_sem]) (by simp(disch:=omega)only[go_sem]) (by simp) (by intro _;simp[zi,AV.pu,AV.pu.puL,Ob.pu,qY]) (.inr ⟨List.replicate z 0,by rw[hcm];rfl,by rw[hcm,←hz]⟩)
end Go.Ab
namespace Go.Ab
open Go Go.Proofs
theorem aaR(cl:Bool)(xs:List Int)(hl:xs.length≤2^39):Con Tryz.prog 272 cl [.sl xs.length (qc xs)] [] (asa xs):=by
 refine Con.of_aw Tryz.func272 rfl Tryz.ntmps272 (by simp) (by simp) (by simp) (W.sound ?_)
 show @W Tryz.prog 8 ⟨_⟩ ⟨fun x σ=>@qW _ _ _ ⟨_⟩ _ ⟨_⟩ x σ⟩ _ _
 simp(disch:=omega)only[go_sem]
 refine⟨fun h0=>?_,?_⟩
 ·have:xs=[]:=by cases xs with|nil=>rfl|cons a r=>cases h0
  subst this
  refine qg [] [] [] [.v (.slice none 0 0)] rfl (by simp(disch:=omega)only[go_sem]) (by simp(disch:=omega)only[go_sem]) (by simp) (by intro _;simp[zi,AV.pu]) (.inl ⟨rfl,rfl,rfl⟩)
 ·refine⟨by omega,?_⟩
  refine qg [(0,90000000)] [.own 1 (qc xs)] [] [.rf 0 0 xs.length] rfl (by simp(disch:=omega)only[go_sem]) (by simp(disch:=omega)only[go_sem]) (by simp) (by intro _;simp[zi,AV.pu,Ob.pu,qY]) (.inr ⟨[],rfl,by rw[List.append_nil]⟩)
end Go.Ab
namespace Go.Ab
open Go Go.Proofs
theorem aaK(x:Int):Con Tryz.prog 292 true [.v (.int .i64 x)] [] (isA (.v (.bool false))):=by
 refine Con.of_w (rs:=[.tmp 2]) Tryz.func292 rfl Tryz.ntmps292 rfl ?_
 simp(disch:=omega)only[go_sem]
 exact qy
theorem arl(x y:Int):Con Tryz.prog 277 true [.v (.int .i64 x),.v (.int .i64 y)] [] (isA (.v (.int .i64 (zt x y)))):=by
 refine Con.of_w (rs:=[.tmp 4]) Tryz.func277 rfl Tryz.ntmps277 rfl ?_
 simp(disch:=omega)only[go_sem]
 refine qk (aaK x) ?_
 simp(disch:=omega)only[go_sem]
 refine qk (aaK y) ?_
 simp(disch:=omega)only[go_sem]
 refine qe (fun h1=>?_) (fun h1=>?_)
 ·simp(disch:=omega)only[go_sem,h1]
  rw[show zt x y= -1 by simp[zt,h1]]
  exact qy
 ·simp(disch:=omega)only[go_sem,h1]
  refine qe (fun h2=>?_) (fun h2=>?_)
  ·simp(disch:=omega)only[go_sem,h2]
   rw[show zt x y=1 by simp[zt,h1,h2]]
   exact qy
  ·simp(disch:=omega)only[go_sem,h2]
   rw[show zt x y=0 by simp[zt,h1,h2]]
   exact qy
theorem zZ(a b:Nat)(la:(lim a).length≤2^40)(lb:(lim b).length≤2^40):
  Con Tryz.prog 248 true [.sl (lim (a)).length (qc (lim (a))),.sl (lim (b)).length (qc (lim (b)))] [] (isA (.v (.int .i64 (zt a b)))):=by
 refine Con.of_w (rs:=[.tmp 4]) Tryz.func248 rfl Tryz.ntmps248 rfl ?_
 simp(disch:=omega)only[go_sem]
 refine zB (fun h1=>?_) (fun h1=>?_)
 ·simp(disch:=omega)only[go_sem,h1]
  refine qk (arl (lim a).length (lim b).length) ?_
  simp(disch:=omega)only[go_sem]
  have:zt ((lim a).length:Int) ((lim b).length:Int)=zt a b:=by
   unfold zt
   rcases(by omega:(lim a).length<(lim b).length∨(lim b).length<(lim a).length)with h|h
   ·have:=Qq h
    rw[if_pos (by omega),if_pos (by omega)]
   ·have:=Qq h
    rw[if_neg (by omega),if_pos (by omega),if_neg (by omega),if_pos (by omega)]
  rw[this]
  exact qy
 ·simp(disch:=omega)only[go_sem,h1]
  have hl:(lim a).length=(lim b).length:=by omega
  refine qh (fun k:Nat=>[(0,.sl (lim (a)).length (qc (lim (a)))),(1,.sl (lim (b)).length (qc (lim (b)))),(5,.v (.int .i64 ((k:Int)-1)))])
   (fun _=>[]) (fun k=>k≤(lim a).length∧(lim a).drop k=(lim b).drop k) (fun k=>k) (lim a).length ⟨Nat.le_refl _,by rw[List.drop_length,hl,List.drop_length]⟩ (Le.lst [] _ _ rfl (by simp(disch:=omega)only[go_sem];try omega) (by simp(disch:=omega)only[go_sem])) ?_
  rintro k ⟨hk,hd⟩
  simp(disch:=omega)only[go_sem]
  refine qe (fun h2=>?_) (fun h2=>?_)
  ·obtain⟨i,rfl⟩:∃i,k=i+1:=⟨k-1,by omega⟩
   have ei:((i+1:Nat):Int)-1=(i:Nat):=by omega
   simp(disch:=omega)only[go_sem,h2,ei]
   refine qp rfl [⟨0,[],[]⟩,⟨1,[],[]⟩,⟨2,[],[]⟩,⟨3,[],[]⟩,⟨4,[3],[]⟩,⟨5,[3],[]⟩,⟨6,[3],[]⟩,⟨7,[3],[]⟩,⟨8,[],[]⟩] (by kernel_rfl) ?_
   simp(disch:=omega)only[go_sem,ei]
   refine⟨by omega,by omega,by omega,by omega,?_⟩
   refine zB (fun h3=>?_) (fun h3=>?_)
   ·simp(disch:=omega)only[go_sem,h3]
    refine qp rfl [⟨0,[],[]⟩,⟨1,[],[]⟩,⟨2,[],[]⟩,⟨3,[],[]⟩,⟨4,[3],[]⟩,⟨5,[3],[]⟩,⟨6,[3],[]⟩,⟨7,[3],[]⟩,⟨8,[],[]⟩,⟨9,[],[]⟩] (by kernel_rfl) ?_
    simp(disch:=omega)only[go_sem,ei]
    refine⟨by omega,by omega,by omega,by omega,?_⟩
    refine qk (arl ((lim a).getD i 0) ((lim b).getD i 0)) ?_
    simp(disch:=omega)only[go_sem]
    have hva:=q7 a
    have hvb:=q7 b
    have:zt ((lim a).getD i 0) ((lim b).getD i 0)=zt a b:=by
     unfold zt
     rcases(by omega:(lim a).getD i 0<(lim b).getD i 0∨(lim b).getD i 0<(lim a).getD i 0)with h|h
     ·have:=Zn (q9 a) (q9 b) (by omega) hl hd h
      rw[if_pos (by omega),if_pos (by omega)]
     ·have:=Zn (q9 b) (q9 a) (by omega) hl.symm hd.symm h
      rw[if_neg (by omega),if_pos (by omega),if_neg (by omega),if_pos (by omega)]
    rw[this]
    exact qy
   ·simp(disch:=omega)only[go_sem,h3]
    refine qb i [] ⟨by omega,?_⟩ (by show i<i+1;omega) rfl (by simp(disch:=omega)only[go_sem];try omega) (by simp(disch:=omega)only[go_sem])
    rw[yy (l:=lim a) (by omega),yy (l:=lim b) (by omega),h3,hd]
  ·simp(disch:=omega)only[go_sem,h2]
   have:k=0:=by omega
   subst this
   rw[List.drop_zero,List.drop_zero]at hd
   have:=yu hd
   subst this
   rw[show zt (a:Int) (a:Int)=0 by simp[zt]]
   exact qy
end Go.Ab
namespace Go.Proofs
open Go.Shelf
def Tryz.lays29_ren:Go.Shelf.Ren:=⟨fun|29=>287|n=>n,fun|0=>0|3=>3|4=>4|5=>5|22=>254|25=>216|54=>262|n=>n,fun|1=>1|n=>n⟩
theorem Tryz.lays29:Go.Proofs.Lays7.n29 Tryz.prog Tryz.lays29_ren:={
 mixed:=by kernel_rfl
 f29:=Tryz.func287.trans (congrArg some (by kernel_rfl))
 t0:=Tryz.underlying0
 a0:=Tryz.isAgg0
 z0:=Tryz.sizeOf0
 v0:=Tryz.zeroValue0
 i0:=by kernel_rfl
 t3:=Tryz.underlying3
 a3:=Tryz.isAgg3
 z3:=Tryz.sizeOf3
 v3:=Tryz.zeroValue3
 i3:=by kernel_rfl
 t4:=Tryz.underlying4
 a4:=Tryz.isAgg4
 z4:=Tryz.sizeOf4
 v4:=Tryz.zeroValue4
 i4:=by kernel_rfl
 t5:=Tryz.underlying5
 a5:=Tryz.isAgg5
 z5:=Tryz.sizeOf5
 v5:=Tryz.zeroValue5
 i5:=by kernel_rfl
 t22:=Tryz.underlying254
 a22:=Tryz.isAgg254
 z22:=Tryz.sizeOf254
 v22:=Tryz.zeroValue254
 i22:=by kernel_rfl
 t25:=Tryz.underlying216
 a25:=Tryz.isAgg216
 z25:=Tryz.sizeOf216
 v25:=Tryz.zeroValue216
 i25:=by kernel_rfl
 t54:=Tryz.underlying262
 a54:=Tryz.isAgg262
 z54:=Tryz.sizeOf262
 g1:=by kernel_rfl}
def Tryz.lays129_ren:Go.Shelf.Ren:=⟨fun|129=>295|n=>n,fun|53=>254|46=>216|3=>3|4=>4|5=>5|9=>9|n=>n,fun|n=>n⟩
theorem Tryz.lays129:Go.Proofs.Lays.n129 Tryz.prog Tryz.lays129_ren:={
 mixed:=by kernel_rfl
 f129:=Tryz.func295.trans (congrArg some (by kernel_rfl))
 t3:=Tryz.underlying3
 a3:=Tryz.isAgg3
 z3:=Tryz.sizeOf3
 v3:=Tryz.zeroValue3
 t4:=Tryz.underlying4
 a4:=Tryz.isAgg4
 z4:=Tryz.sizeOf4
 v4:=Tryz.zeroValue4
 t5:=Tryz.underlying5
 a5:=Tryz.isAgg5
 z5:=Tryz.sizeOf5
 v5:=Tryz.zeroValue5
 t9:=Tryz.underlying9
 a9:=Tryz.isAgg9
 z9:=Tryz.sizeOf9
 v9:=Tryz.zeroValue9
 t46:=Tryz.underlying216
 a46:=Tryz.isAgg216
 z46:=Tryz.sizeOf216
 v46:=Tryz.zeroValue216
 t53:=Tryz.underlying254
 a53:=Tryz.isAgg254
 z53:=Tryz.sizeOf254
 v53:=Tryz.zeroValue254}
end Go.Proofs
namespace Go.Ab
open Go Go.Proofs
theorem aTF(x:Nat)(h0:x≠0)(h:x<2^64):Lib.ctz 64 x=tz x:=by
 unfold Lib.ctz
 rw[if_neg h0]
 obtain⟨m,hm,_⟩:=Lib.ctzFrom_spec 64 x (by omega) h
 exact(QD hm).symm
theorem arJ(x:Nat)(h:x<2^64):Lib.bitLen x=bl x:=by
 induction x using Nat.strongRecOn with
 |_ x ih=>
  by_cases h0:x=0
  ·subst h0;rfl
  ·rw[Lib.bitLen_half x h0 h,ih (x/2) (by omega) (by omega),aT7 h0,Nat.add_comm]
theorem aDy(x:Nat)(h0:x≠0)(h:x<2^64):Con Tryz.prog 287 true [.v (.int .u64 x)] [] (isA (.v (.int .i64 (tz x)))):=
 Con.scalar (xs:=[.int .u64 x]) fun w hg=>by
  rw[←aTF x h0 h]
  exact Any7.bits_TrailingZeros64 Tryz.lays29 x h w fun _ j hj=>(hg 1 Lib.deBruijn64tab rfl).2 j hj
theorem aqY(x:Nat)(h:x<2^64):Con Tryz.prog 295 true [.v (.int .u64 x)] [] (isA (.v (.int .i64 (bl x)))):=
 Con.scalar (xs:=[.int .u64 x]) fun w hg=>by
  rw[←arJ x h]
  exact Any.bits_Len64 Tryz.lays129 x w (by omega) (by omega)
theorem aTM(x:Nat)(h0:x≠0)(h:x<2^64):Con Tryz.prog 271 true [.v (.int .u64 x)] [] (isA (.v (.int .i64 (tz x)))):=by
 refine Con.of_w (rs:=[.tmp 2]) Tryz.func271 rfl Tryz.ntmps271 rfl ?_
 simp(disch:=omega)only[go_sem]
 refine qk (aDy x h0 h) ?_
 simp(disch:=omega)only[go_sem]
 exact qy
theorem aqZ(x:Nat)(h:x<2^64):Con Tryz.prog 283 true [.v (.int .u64 x)] [] (isA (.v (.int .i64 (bl x)))):=by
 refine Con.of_w (rs:=[.tmp 2]) Tryz.func283 rfl Tryz.ntmps283 rfl ?_
 simp(disch:=omega)only[go_sem]
 refine qk (aqY x h) ?_
 simp(disch:=omega)only[go_sem]
 exact qy
theorem akT{x:Int}(h1:0≤x)(h2:x<9223372036854775808):IntKind.u64.wrap x=x:=by
 simp only[IntKind.wrap,IntKind.signed,IntKind.bits]
 simp only[Bool.false_and,Bool.false_eq_true,if_false]
 omega
theorem akn(m:Nat)(hl:(lim m).length≤2^40):Con Tryz.prog 267 true [.sl (lim (m)).length (qc (lim (m)))] [] (isA (.v (.int .i64 (bl m)))):=by
 refine Con.of_w (rs:=[.tmp 2]) Tryz.func267 rfl Tryz.ntmps267 rfl ?_
 simp(disch:=omega)only[go_sem]
 refine qe (fun h1=>?_) (fun h1=>?_)
 ·simp(disch:=omega)only[go_sem,h1]
  have:m=0:=qI.1 (List.length_eq_zero_iff.1 (by omega))
  subst this
  rw[JB]
  exact qy
 ·have hm:m≠0:=fun e=>by rw[e,qn]at h1;simp at h1
  have e1:((lim m).length:Int).toNat-1=(lim m).length-1:=by omega
  have e2:(((lim m).length:Int)-1).toNat=(lim m).length-1:=by omega
  have ht:=YP hm
  have hb:=aFO hm
  simp(disch:=omega)only[go_sem,h1,e2,zX]
  generalize m/65536^((lim m).length-1)=q at*
  have e3:((q % 65536:Nat):Int)=(q:Int):=by omega
  simp(disch:=omega)only[go_sem,e3,akT]
  refine⟨by omega,by omega,?_⟩
  refine qk (aqZ q (by omega)) ?_
  simp(disch:=omega)only[go_sem]
  have hq:bl q≤16:=zE.2 (by omega)
  have e4:(16:Int)*(((lim m).length:Int)-1)+(bl q:Int)=(bl m:Int):=by omega
  simp(disch:=omega)only[go_sem,e4]
  exact qy
theorem aFX{m i:Nat}(hz:∀j,j<i→(lim m).getD j 0=0)(hx:(lim m).getD i 0≠0):tz m=16*i+tz (m/65536^i % 65536):=by
 rw[zX]at hx
 have hx':m/65536^i % 65536≠0:=fun e=>hx (by rw[e];rfl)
 obtain⟨a,ha⟩:=Yy hx'
 have hlow:65536^i*(m/65536^i)=m:=by
  have key:∀k,k≤i→m % 65536^k=0:=by
   intro k
   induction k with
   |zero=>intro _;simp[Nat.mod_one]
   |succ k ih=>
    intro hk
    have h1:=ih (by omega)
    have h2:=hz k (by omega)
    rw[zX]at h2
    have h3:m/65536^k % 65536=0:=by omega
    rw[Nat.pow_succ,Nat.mod_mul,h1,h3];omega
  have:=Nat.div_add_mod m (65536^i)
  rw[key i (Nat.le_refl _)]at this
  omega
 generalize hq:m/65536^i=q at*
 have ht:tz (q % 65536)<16:=by
  have h1:=yD hx'
  have:bl (q % 65536)≤16:=zE.2 (by omega)
  omega
 generalize hk:tz (q % 65536)=k at*
 have e16:(65536:Nat)=2^k*(2*2^(15-k)):=by rw[Nat.mul_left_comm,←Nat.pow_add,show k+(15-k)=15 by omega]
 refine QD (a:=a+2^(15-k)*(q/65536)) ?_
 have hd:=Nat.div_add_mod q 65536
 rw[←hlow,Nat.pow_add,←ZW]
 have h5:q=2^k*(2*(a+2^(15-k)*(q/65536))+1):=by
  have:q=2^k*(2*2^(15-k))*(q/65536)+2^k*(2*a+1):=by rw[←e16,←ha];omega
  generalize q/65536=y at*
  generalize 2^(15-k)=z at*
  grind
 generalize q/65536=y at*
 rw[Nat.mul_assoc,←h5]
theorem aes(m:Nat)(hl:(lim m).length≤2^40):Con Tryz.prog 234 true [.sl (lim (m)).length (qc (lim (m)))] [] (isA (.v (.int .i64 (tz m)))):=by
 refine Con.of_w (rs:=[.tmp 2]) Tryz.func234 rfl Tryz.ntmps234 rfl ?_
 simp(disch:=omega)only[go_sem]
 refine qh (fun i:Nat=>[(0,.sl (lim (m)).length (qc (lim (m)))),(5,.sl (lim (m)).length (qc (lim (m)))),(6,.v (.int .i64 (lim m).length)),(7,.v (.int .i64 i))])
  (fun _=>[]) (fun i=>i≤(lim m).length∧∀j,j<i→(lim m).getD j 0=0) (fun i=>(lim m).length-i) 0 ⟨by omega,fun j hj=>by omega⟩ (Le.lst [] _ _ rfl (by simp(disch:=omega)only[go_sem];try omega) (by simp(disch:=omega)only[go_sem])) ?_
 rintro i ⟨hi,hz⟩
 simp(disch:=omega)only[go_sem]
 refine qe (fun h1=>?_) (fun h1=>?_)
 ·simp(disch:=omega)only[go_sem,h1]
  refine⟨by omega,by omega,zB (fun h2=>?_) (fun h2=>?_)⟩
  ·have ht:=aFX hz h2
   have hx:m/65536^i % 65536≠0:=fun e=>h2 (by rw[zX,e];rfl)
   have ht16:tz (m/65536^i % 65536)<16:=by
    have h1:=yD hx
    have:bl (m/65536^i % 65536)≤16:=zE.2 (by omega)
    omega
   simp(disch:=omega)only[go_sem,h2,zX]
   generalize hq:m/65536^i % 65536=q at*
   have hq6:q<65536:=by omega
   simp(disch:=omega)only[go_sem,akT]
   refine qk (aTM q hx (by omega)) ?_
   simp(disch:=omega)only[go_sem]
   have e4:(16:Int)*(i:Int)+(tz q:Int)=(tz m:Int):=by omega
   simp(disch:=omega)only[go_sem,e4]
   exact qy
  ·simp(disch:=omega)only[go_sem,h2]
   refine qb (i+1) [] ⟨by omega,fun j hj=>?_⟩ (by show(lim m).length-(i+1)<(lim m).length-i;omega) rfl (by simp(disch:=omega)only[go_sem];try omega) (by simp(disch:=omega)only[go_sem])
   rcases(by omega:j<i∨j=i)with h|h
   ·exact hz j h
   ·subst h;exact h2
 ·simp(disch:=omega)only[go_sem,h1]
  have hm:m=0:=by
   have:=q7 m
   have h3:lim m=List.replicate (lim m).length 0:=by
    apply List.ext_getElem
    ·simp
    ·intro j h1 h2
     have:=hz j (by omega)
     rw[List.getD_eq_getElem?_getD,List.getElem?_eq_getElem h1]at this
     simpa using this
   rw[h3,zO]at this
   omega
  subst hm
  rw[akY]
  exact qy
theorem aaS(m:Nat)(i:Int)(hl:(lim m).length≤2^40)(hi:0≤i)(hi2:i<2^62):Con Tryz.prog 175 true [.sl (lim (m)).length (qc (lim (m))),.v (.int .i64 i)] [] (isA (.v (.int .i64 ((m/2^i.toNat % 2:Nat):Int)))):=by
 refine Con.of_w (rs:=[.tmp 4]) Tryz.func175 rfl Tryz.ntmps175 rfl ?_
 obtain⟨k,rfl⟩:=Int.eq_ofNat_of_zero_le hi
 rw[Int.toNat_natCast]
 have h0:¬((k:Int)<0):=by omega
 have e16:((k:Int)/16).toNat=k/16:=by omega
 have em:min ((k:Int) % 16).toNat 64=k % 16:=by omega
 have hb:=arI m k
 simp(disch:=omega)only[go_sem,h0]
 refine qe (fun h1=>?_) (fun h1=>?_)
 ·simp(disch:=omega)only[go_sem,h1]
  have:m/2^k % 2=0:=by
   rw[←hb]
   have h2:=zX m (k/16)
   rw[List.getD_eq_getElem?_getD,List.getElem?_eq_none (by omega)]at h2
   have h3:m/65536^(k/16) % 65536=0:=by simp only[Option.getD_none]at h2;omega
   rw[h3];simp
  rw[this]
  exact qy
 ·have hx:=qJ (q9 m) (k/16)
  have hp:(0:Int)<2^(k % 16):=Int.pow_pos (by omega)
  have efd:∀x:Int,x.fdiv (2^(k % 16))=x/2^(k % 16):=fun x=>Int.fdiv_eq_ediv_of_nonneg _ (Int.le_of_lt hp)
  have hq:0≤(lim m).getD (k/16) 0/2^(k % 16)∧(lim m).getD (k/16) 0/2^(k % 16)<65536:=by
   refine⟨Int.ediv_nonneg hx.1 (Int.le_of_lt hp),Int.lt_of_le_of_lt (Int.ediv_le_self _ hx.1) hx.2⟩
  have hr:(lim m).getD (k/16) 0/2^(k % 16) % 2=((m/2^k % 2:Nat):Int):=by
   rw[←hb,zX]
   generalize m/65536^(k/16) % 65536=x
   rw[Int.natCast_emod,Int.natCast_ediv,Int.natCast_pow];rfl
  simp(disch:=omega)only[go_sem,h1,e16,em,efd,hr]
  refine⟨by omega,by omega,by omega,?_⟩
  exact qy
end Go.Ab
namespace Go.Ab
open Go Go.Proofs
theorem aa9(a k:Nat):(vl (lim a)*2^k).toNat=a*2^k:=by
 rw[q7]
 have:((a:Int)*2^k)=((a*2^k:Nat):Int):=by rw[Int.natCast_mul,Int.natCast_pow];rfl
 rw[this,Int.toNat_natCast]
theorem aba(a k:Nat):(vl (lim a)/2^k).toNat=a/2^k:=by
 rw[q7]
 have:((a:Int)/2^k)=((a/2^k:Nat):Int):=by rw[Int.natCast_ediv,Int.natCast_pow];rfl
 rw[this,Int.toNat_natCast]
theorem aF1(a b:Nat):(vl (lim a)*vl (lim b)).toNat=a*b:=by rw[q7,q7,←Int.natCast_mul,Int.toNat_natCast]
theorem aF2(a b:Nat):(vl (lim a)+vl (lim b)).toNat=a+b:=by rw[q7,q7];omega
theorem aF0(a b:Nat):(vl (lim a)-vl (lim b)).toNat=a-b:=by rw[q7,q7];omega
theorem zz(n:Nat)(hn:n<2^63):Con Tryz.prog 216 false [.v (.int .i64 n)] [] (aKB (lim n)):=(aqQ false n hn).num
theorem aqM(cl:Bool)(a k:Nat)(la:(lim a).length≤1000000)(hk:k≤100000000):Con Tryz.prog 244 cl [.sl (lim (a)).length (qc (lim (a))),.v (.int .i64 k)] [] (asa (lim (a*2^k))):=by
 have:=aTL cl (lim a) k (q9 a) la hk
 rwa[aa9]at this
theorem zU(a k:Nat)(la:(lim a).length≤1000000)(hk:k≤100000000):Con Tryz.prog 244 false [.sl (lim (a)).length (qc (lim (a))),.v (.int .i64 k)] [] (aKB (lim (a*2^k))):=(aqM false a k la hk).num
theorem aaO(cl:Bool)(a k:Nat)(la:(lim a).length≤1000000)(hk:k≤100000000):Con Tryz.prog 235 cl [.sl (lim (a)).length (qc (lim (a))),.v (.int .i64 k)] [] (asa (lim (a/2^k))):=by
 have:=aDI cl (lim a) k (q9 a) la hk
 rwa[aba]at this
theorem arj(a k:Nat)(la:(lim a).length≤1000000)(hk:k≤100000000):Con Tryz.prog 235 false [.sl (lim (a)).length (qc (lim (a))),.v (.int .i64 k)] [] (aKB (lim (a/2^k))):=(aaO false a k la hk).num
theorem Ya(a b:Nat)(la:(lim a).length≤1000000)(lb:(lim b).length≤1000000):Con Tryz.prog 201 false [.sl (lim (a)).length (qc (lim (a))),.sl (lim (b)).length (qc (lim (b)))] [] (aKB (lim (a*b))):=by
 have:=(aqN false (lim a) (lim b) (q9 a) (q9 b) la lb).num
 rwa[aF1]at this
theorem aaC(a b:Nat)(la:(lim a).length≤2000000)(lb:(lim b).length≤2000000):Con Tryz.prog 249 false [.sl (lim (a)).length (qc (lim (a))),.sl (lim (b)).length (qc (lim (b)))] [] (aKB (lim (a+b))):=by
 have:=(aDz false (lim a) (lim b) (q9 a) (q9 b) la lb).num
 rwa[aF2]at this
theorem ark(a d:Nat)(la:(lim a).length≤1000000)(hd:0<d)(hd2:d<65536):
  Con Tryz.prog 288 false [.sl (lim (a)).length (qc (lim (a))),.v (.int .i64 d)] [] (isA (.tu [.sl (lim (a/d)).length (qc (lim (a/d))),.v (.int .i64 ((a % d:Nat):Int))])):=
 Con.frzA <| (aDJ false (lim a) d (q9 a) la hd hd2).mono fun r hs bs ⟨zs,h1,h2⟩=>by
  rw[q7]at h1 h2
  rw[h1,h2]
  have e:((a:Int)/(d:Int)).toNat=a/d:=by
   rw[←Int.natCast_ediv,Int.toNat_natCast]
  rw[e]
  show qE _ 6 _=_
  unfold qE
  simp only[List.map_cons,List.map_nil]
  rw[jT (k:=3) (l:=lim (a/d)) (zs:=zs) qX rfl]
  rw[Int.natCast_emod];rfl
end Go.Ab
