/- What the proof of this claim stands on: the walks of the functions and the plain laws, part 3. -/
import Derived.Test.YtcobffkepgogiaaGreatDoorFnPolysLib2
import Derived.Test.YtcobffkepgogiaaGreatDoorProg
import Derived.KernelRfl
import Derived.Shelf.Spec.TrailingZeros
import Derived.Shelf.Small.Bits
import Derived.Shelf.Strconv.Itoa0
set_option linter.unusedVariables false
set_option linter.unusedSimpArgs false
namespace Go.Ab
open Go Go.Proofs
def ti1:TI:=⟨Kd.oth,1,8,Value.nilFunc⟩
theorem tf1:qo Tryz.prog 1=some ti1:=by kernel_rfl
def ti2:TI:=⟨Kd.int IntKind.i64,1,8,Value.int IntKind.i64 0⟩
theorem tf2:qo Tryz.prog 2=some ti2:=by kernel_rfl
def ti3:TI:=⟨Kd.int IntKind.i64,1,8,Value.int IntKind.i64 0⟩
theorem tf3:qo Tryz.prog 3=some ti3:=by kernel_rfl
def ti4:TI:=⟨Kd.bool,1,1,Value.bool false⟩
theorem tf4:qo Tryz.prog 4=some ti4:=by kernel_rfl
def ti5:TI:=⟨Kd.int IntKind.u8,1,1,Value.int IntKind.u8 0⟩
theorem tf5:qo Tryz.prog 5=some ti5:=by kernel_rfl
def ti6:TI:=⟨Kd.int IntKind.u8,1,1,Value.int IntKind.u8 0⟩
theorem tf6:qo Tryz.prog 6=some ti6:=by kernel_rfl
def ti7:TI:=⟨Kd.stru [(0,2),(1,3),(2,4),(3,6)],4,24,Value.agg ⟨[Value.int IntKind.i64 0,Value.int IntKind.i64 0,Value.bool false,Value.int IntKind.u8 0]⟩⟩
theorem tf7:qo Tryz.prog 7=some ti7:=by kernel_rfl
def ti8:TI:=⟨Kd.stru [(0,2),(1,3),(2,4),(3,6)],4,24,Value.agg ⟨[Value.int IntKind.i64 0,Value.int IntKind.i64 0,Value.bool false,Value.int IntKind.u8 0]⟩⟩
theorem tf8:qo Tryz.prog 8=some ti8:=by kernel_rfl
def ti9:TI:=⟨Kd.str,1,16,Value.string {data:=⟨[]⟩}⟩
theorem tf9:qo Tryz.prog 9=some ti9:=by kernel_rfl
def aFm:TI:=⟨Kd.str,1,16,Value.string {data:=⟨[]⟩}⟩
theorem bez:qo Tryz.prog 10=some aFm:=by kernel_rfl
def aFl:TI:=⟨Kd.str,1,16,Value.string {data:=⟨[]⟩}⟩
theorem bey:qo Tryz.prog 11=some aFl:=by kernel_rfl
def aFk:TI:=⟨Kd.int IntKind.u64,1,8,Value.int IntKind.u64 0⟩
theorem bex:qo Tryz.prog 12=some aFk:=by kernel_rfl
def aFj:TI:=⟨Kd.int IntKind.i32,1,4,Value.int IntKind.i32 0⟩
theorem bew:qo Tryz.prog 21=some aFj:=by kernel_rfl
def afa:TI:=⟨Kd.sli 5,1,24,Value.slice none 0 0⟩
theorem aFp:qo Tryz.prog 22=some afa:=by kernel_rfl
def ae9:TI:=⟨Kd.sli 40,1,24,Value.slice none 0 0⟩
theorem aFo:qo Tryz.prog 23=some ae9:=by kernel_rfl
def amB:TI:=⟨Kd.stru [(0,3),(1,23)],2,32,Value.agg ⟨[Value.int IntKind.i64 0,Value.slice none 0 0]⟩⟩
theorem aUN:qo Tryz.prog 24=some amB:=by kernel_rfl
def amr:TI:=⟨Kd.stru [(0,3),(1,23)],2,32,Value.agg ⟨[Value.int IntKind.i64 0,Value.slice none 0 0]⟩⟩
theorem aUM:qo Tryz.prog 25=some amr:=by kernel_rfl
def aFi:TI:=⟨Kd.oth,1,8,Value.nilFunc⟩
theorem bev:qo Tryz.prog 27=some aFi:=by kernel_rfl
def aFh:TI:=⟨Kd.oth,1,8,Value.nilFunc⟩
theorem beu:qo Tryz.prog 29=some aFh:=by kernel_rfl
def aFg:TI:=⟨Kd.oth,1,8,Value.nilFunc⟩
theorem bet:qo Tryz.prog 30=some aFg:=by kernel_rfl
def aFf:TI:=⟨Kd.oth,1,8,Value.nilFunc⟩
theorem bes:qo Tryz.prog 31=some aFf:=by kernel_rfl
def aFe:TI:=⟨Kd.oth,1,8,Value.nilFunc⟩
theorem ber:qo Tryz.prog 32=some aFe:=by kernel_rfl
def aFd:TI:=⟨Kd.oth,1,8,Value.nilFunc⟩
theorem bep:qo Tryz.prog 33=some aFd:=by kernel_rfl
def JM:TI:=⟨Kd.sli 3,1,24,Value.slice none 0 0⟩
theorem afb:qo Tryz.prog 34=some JM:=by kernel_rfl
def asb:TI:=⟨Kd.stru [(0,34)],1,24,Value.agg ⟨[Value.slice none 0 0]⟩⟩
theorem aXo:qo Tryz.prog 35=some asb:=by kernel_rfl
def aa7:TI:=⟨Kd.stru [(0,34)],1,24,Value.agg ⟨[Value.slice none 0 0]⟩⟩
theorem aBk:qo Tryz.prog 36=some aa7:=by kernel_rfl
def alW:TI:=⟨Kd.stru [(0,4),(1,36)],2,32,Value.agg ⟨[Value.bool false,Value.slice none 0 0]⟩⟩
theorem aUL:qo Tryz.prog 37=some alW:=by kernel_rfl
def Xv:TI:=⟨Kd.stru [(0,4),(1,36)],2,32,Value.agg ⟨[Value.bool false,Value.slice none 0 0]⟩⟩
theorem asc:qo Tryz.prog 38=some Xv:=by kernel_rfl
def alT:TI:=⟨Kd.stru [(0,38),(2,3)],3,40,Value.agg ⟨[Value.bool false,Value.slice none 0 0,Value.int IntKind.i64 0]⟩⟩
theorem aUK:qo Tryz.prog 39=some alT:=by kernel_rfl
def Zo:TI:=⟨Kd.stru [(0,38),(2,3)],3,40,Value.agg ⟨[Value.bool false,Value.slice none 0 0,Value.int IntKind.i64 0]⟩⟩
theorem KT:qo Tryz.prog 40=some Zo:=by kernel_rfl
def aFc:TI:=⟨Kd.oth,1,8,Value.nilFunc⟩
theorem beo:qo Tryz.prog 41=some aFc:=by kernel_rfl
def aFb:TI:=⟨Kd.oth,1,8,Value.nilFunc⟩
theorem ben:qo Tryz.prog 42=some aFb:=by kernel_rfl
def aFa:TI:=⟨Kd.oth,1,8,Value.nilFunc⟩
theorem bem:qo Tryz.prog 44=some aFa:=by kernel_rfl
def aE9:TI:=⟨Kd.oth,1,8,Value.nilFunc⟩
theorem bel:qo Tryz.prog 46=some aE9:=by kernel_rfl
def aE8:TI:=⟨Kd.oth,1,8,Value.nilFunc⟩
theorem bek:qo Tryz.prog 47=some aE8:=by kernel_rfl
def aE7:TI:=⟨Kd.oth,1,8,Value.nilFunc⟩
theorem bej:qo Tryz.prog 48=some aE7:=by kernel_rfl
def aE6:TI:=⟨Kd.oth,1,8,Value.nilFunc⟩
theorem bei:qo Tryz.prog 49=some aE6:=by kernel_rfl
def alH:TI:=⟨Kd.stru [(0,40),(3,40)],6,80,Value.agg ⟨[Value.bool false,Value.slice none 0 0,Value.int IntKind.i64 0,Value.bool false,Value.slice none 0 0,Value.int IntKind.i64 0]⟩⟩
theorem aUJ:qo Tryz.prog 50=some alH:=by kernel_rfl
def akJ:TI:=⟨Kd.stru [(0,40),(3,40)],6,80,Value.agg ⟨[Value.bool false,Value.slice none 0 0,Value.int IntKind.i64 0,Value.bool false,Value.slice none 0 0,Value.int IntKind.i64 0]⟩⟩
theorem aOo:qo Tryz.prog 51=some akJ:=by kernel_rfl
def aE5:TI:=⟨Kd.oth,1,8,Value.nilFunc⟩
theorem beh:qo Tryz.prog 53=some aE5:=by kernel_rfl
def aE4:TI:=⟨Kd.oth,1,8,Value.nilFunc⟩
theorem beg:qo Tryz.prog 55=some aE4:=by kernel_rfl
def aE3:TI:=⟨Kd.oth,1,8,Value.nilFunc⟩
theorem bef:qo Tryz.prog 56=some aE3:=by kernel_rfl
def aE2:TI:=⟨Kd.oth,1,8,Value.nilFunc⟩
theorem bee:qo Tryz.prog 57=some aE2:=by kernel_rfl
def aE1:TI:=⟨Kd.oth,1,8,Value.nilFunc⟩
theorem bed:qo Tryz.prog 58=some aE1:=by kernel_rfl
def aE0:TI:=⟨Kd.oth,1,8,Value.nilFunc⟩
theorem bec:qo Tryz.prog 60=some aE0:=by kernel_rfl
def aEZ:TI:=⟨Kd.oth,1,8,Value.nilFunc⟩
theorem beb:qo Tryz.prog 61=some aEZ:=by kernel_rfl
def aEY:TI:=⟨Kd.oth,1,8,Value.nilFunc⟩
theorem bea:qo Tryz.prog 62=some aEY:=by kernel_rfl
def aEX:TI:=⟨Kd.oth,1,8,Value.nilFunc⟩
theorem bd9:qo Tryz.prog 63=some aEX:=by kernel_rfl
def aEW:TI:=⟨Kd.oth,1,8,Value.nilFunc⟩
theorem bd8:qo Tryz.prog 64=some aEW:=by kernel_rfl
def aEV:TI:=⟨Kd.oth,1,8,Value.nilFunc⟩
theorem bd7:qo Tryz.prog 65=some aEV:=by kernel_rfl
def aEU:TI:=⟨Kd.oth,1,8,Value.nilFunc⟩
theorem bd6:qo Tryz.prog 66=some aEU:=by kernel_rfl
def aET:TI:=⟨Kd.oth,1,8,Value.nilFunc⟩
theorem bd5:qo Tryz.prog 68=some aET:=by kernel_rfl
def ae8:TI:=⟨Kd.sli 51,1,24,Value.slice none 0 0⟩
theorem aFn:qo Tryz.prog 69=some ae8:=by kernel_rfl
def aES:TI:=⟨Kd.oth,1,8,Value.nilFunc⟩
theorem bd4:qo Tryz.prog 71=some aES:=by kernel_rfl
def aER:TI:=⟨Kd.oth,1,8,Value.nilFunc⟩
theorem bd0:qo Tryz.prog 73=some aER:=by kernel_rfl
def aEQ:TI:=⟨Kd.oth,1,8,Value.nilFunc⟩
theorem bdZ:qo Tryz.prog 74=some aEQ:=by kernel_rfl
def aEP:TI:=⟨Kd.oth,1,8,Value.nilFunc⟩
theorem bdY:qo Tryz.prog 75=some aEP:=by kernel_rfl
def aEO:TI:=⟨Kd.oth,1,8,Value.nilFunc⟩
theorem bdX:qo Tryz.prog 77=some aEO:=by kernel_rfl
def aEN:TI:=⟨Kd.oth,1,8,Value.nilFunc⟩
theorem bdW:qo Tryz.prog 79=some aEN:=by kernel_rfl
def aEM:TI:=⟨Kd.oth,1,8,Value.nilFunc⟩
theorem bdV:qo Tryz.prog 80=some aEM:=by kernel_rfl
def alc:TI:=⟨Kd.stru [(0,3),(1,69)],2,32,Value.agg ⟨[Value.int IntKind.i64 0,Value.slice none 0 0]⟩⟩
theorem aUI:qo Tryz.prog 81=some alc:=by kernel_rfl
def ala:TI:=⟨Kd.stru [(0,3),(1,69)],2,32,Value.agg ⟨[Value.int IntKind.i64 0,Value.slice none 0 0]⟩⟩
theorem aUH:qo Tryz.prog 82=some ala:=by kernel_rfl
def aEL:TI:=⟨Kd.oth,1,8,Value.nilFunc⟩
theorem bdU:qo Tryz.prog 84=some aEL:=by kernel_rfl
def aEK:TI:=⟨Kd.oth,1,8,Value.nilFunc⟩
theorem bdT:qo Tryz.prog 86=some aEK:=by kernel_rfl
def aEJ:TI:=⟨Kd.oth,1,8,Value.nilFunc⟩
theorem bdS:qo Tryz.prog 87=some aEJ:=by kernel_rfl
def aEI:TI:=⟨Kd.oth,1,8,Value.nilFunc⟩
theorem bdR:qo Tryz.prog 88=some aEI:=by kernel_rfl
def aEH:TI:=⟨Kd.oth,1,8,Value.nilFunc⟩
theorem bdQ:qo Tryz.prog 89=some aEH:=by kernel_rfl
def aEG:TI:=⟨Kd.oth,1,8,Value.nilFunc⟩
theorem bdP:qo Tryz.prog 91=some aEG:=by kernel_rfl
def aEF:TI:=⟨Kd.oth,1,8,Value.nilFunc⟩
theorem bdO:qo Tryz.prog 92=some aEF:=by kernel_rfl
def aEE:TI:=⟨Kd.oth,1,8,Value.nilFunc⟩
theorem bdN:qo Tryz.prog 93=some aEE:=by kernel_rfl
def aED:TI:=⟨Kd.oth,1,8,Value.nilFunc⟩
theorem bdM:qo Tryz.prog 94=some aED:=by kernel_rfl
def aEC:TI:=⟨Kd.oth,1,8,Value.nilFunc⟩
theorem bdL:qo Tryz.prog 96=some aEC:=by kernel_rfl
def aEB:TI:=⟨Kd.oth,1,8,Value.nilFunc⟩
theorem bdK:qo Tryz.prog 97=some aEB:=by kernel_rfl
def aEA:TI:=⟨Kd.oth,1,8,Value.nilFunc⟩
theorem bdJ:qo Tryz.prog 98=some aEA:=by kernel_rfl
def aEz:TI:=⟨Kd.oth,1,8,Value.nilFunc⟩
theorem bdI:qo Tryz.prog 99=some aEz:=by kernel_rfl
def KQ:TI:=⟨Kd.oth,1,8,Value.nilFunc⟩
theorem aZH:qo Tryz.prog 100=some KQ:=by kernel_rfl
def KP:TI:=⟨Kd.oth,1,8,Value.nilFunc⟩
theorem aZG:qo Tryz.prog 101=some KP:=by kernel_rfl
def KO:TI:=⟨Kd.oth,1,8,Value.nilFunc⟩
theorem aZF:qo Tryz.prog 102=some KO:=by kernel_rfl
def KN:TI:=⟨Kd.oth,1,8,Value.nilFunc⟩
theorem aZE:qo Tryz.prog 103=some KN:=by kernel_rfl
def KM:TI:=⟨Kd.oth,1,8,Value.nilFunc⟩
theorem aZD:qo Tryz.prog 105=some KM:=by kernel_rfl
def KL:TI:=⟨Kd.oth,1,8,Value.nilFunc⟩
theorem aZC:qo Tryz.prog 106=some KL:=by kernel_rfl
def KK:TI:=⟨Kd.oth,1,8,Value.nilFunc⟩
theorem aZB:qo Tryz.prog 107=some KK:=by kernel_rfl
def KJ:TI:=⟨Kd.oth,1,8,Value.nilFunc⟩
theorem aZA:qo Tryz.prog 108=some KJ:=by kernel_rfl
def KI:TI:=⟨Kd.oth,1,8,Value.nilFunc⟩
theorem aZz:qo Tryz.prog 109=some KI:=by kernel_rfl
def KH:TI:=⟨Kd.oth,1,8,Value.nilFunc⟩
theorem aZy:qo Tryz.prog 110=some KH:=by kernel_rfl
def y5:TI:=⟨Kd.sli 118,1,24,Value.slice none 0 0⟩
theorem Yr:qo Tryz.prog 111=some y5:=by kernel_rfl
def ZG:TI:=⟨Kd.stru [(0,3),(1,111)],2,32,Value.agg ⟨[Value.int IntKind.i64 0,Value.slice none 0 0]⟩⟩
theorem aBp:qo Tryz.prog 112=some ZG:=by kernel_rfl
def ZF:TI:=⟨Kd.stru [(0,3),(1,111)],2,32,Value.agg ⟨[Value.int IntKind.i64 0,Value.slice none 0 0]⟩⟩
theorem aBo:qo Tryz.prog 113=some ZF:=by kernel_rfl
def KG:TI:=⟨Kd.oth,1,8,Value.nilFunc⟩
theorem aZx:qo Tryz.prog 114=some KG:=by kernel_rfl
def KF:TI:=⟨Kd.oth,1,8,Value.nilFunc⟩
theorem aZw:qo Tryz.prog 115=some KF:=by kernel_rfl
def KE:TI:=⟨Kd.oth,1,8,Value.nilFunc⟩
theorem aZv:qo Tryz.prog 116=some KE:=by kernel_rfl
def Zg:TI:=⟨Kd.stru [(0,4),(1,34),(2,3)],3,40,Value.agg ⟨[Value.bool false,Value.slice none 0 0,Value.int IntKind.i64 0]⟩⟩
theorem aoV:qo Tryz.prog 117=some Zg:=by kernel_rfl
def jf:TI:=⟨Kd.stru [(0,4),(1,34),(2,3)],3,40,Value.agg ⟨[Value.bool false,Value.slice none 0 0,Value.int IntKind.i64 0]⟩⟩
theorem yg:qo Tryz.prog 118=some jf:=by kernel_rfl
def KD:TI:=⟨Kd.oth,1,8,Value.nilFunc⟩
theorem aZu:qo Tryz.prog 119=some KD:=by kernel_rfl
def KC:TI:=⟨Kd.oth,1,8,Value.nilFunc⟩
theorem aZt:qo Tryz.prog 120=some KC:=by kernel_rfl
def KB:TI:=⟨Kd.oth,1,8,Value.nilFunc⟩
theorem aZs:qo Tryz.prog 121=some KB:=by kernel_rfl
def KA:TI:=⟨Kd.oth,1,8,Value.nilFunc⟩
theorem aZr:qo Tryz.prog 122=some KA:=by kernel_rfl
def Kz:TI:=⟨Kd.oth,1,8,Value.nilFunc⟩
theorem aZq:qo Tryz.prog 123=some Kz:=by kernel_rfl
def Ky:TI:=⟨Kd.oth,1,8,Value.nilFunc⟩
theorem aZp:qo Tryz.prog 124=some Ky:=by kernel_rfl
def Kx:TI:=⟨Kd.oth,1,8,Value.nilFunc⟩
theorem aZo:qo Tryz.prog 125=some Kx:=by kernel_rfl
def Kw:TI:=⟨Kd.oth,1,8,Value.nilFunc⟩
theorem aZn:qo Tryz.prog 126=some Kw:=by kernel_rfl
def Kv:TI:=⟨Kd.oth,1,8,Value.nilFunc⟩
theorem aZm:qo Tryz.prog 127=some Kv:=by kernel_rfl
def Ku:TI:=⟨Kd.oth,1,8,Value.nilFunc⟩
theorem aZl:qo Tryz.prog 128=some Ku:=by kernel_rfl
def Kt:TI:=⟨Kd.oth,1,8,Value.nilFunc⟩
theorem aZk:qo Tryz.prog 129=some Kt:=by kernel_rfl
def Ks:TI:=⟨Kd.oth,1,8,Value.nilFunc⟩
theorem aZj:qo Tryz.prog 130=some Ks:=by kernel_rfl
def Kr:TI:=⟨Kd.oth,1,8,Value.nilFunc⟩
theorem aZi:qo Tryz.prog 131=some Kr:=by kernel_rfl
def ZE:TI:=⟨Kd.stru [(0,118),(3,118)],6,80,Value.agg ⟨[Value.bool false,Value.slice none 0 0,Value.int IntKind.i64 0,Value.bool false,Value.slice none 0 0,Value.int IntKind.i64 0]⟩⟩
theorem aBn:qo Tryz.prog 132=some ZE:=by kernel_rfl
def Zf:TI:=⟨Kd.stru [(0,118),(3,118)],6,80,Value.agg ⟨[Value.bool false,Value.slice none 0 0,Value.int IntKind.i64 0,Value.bool false,Value.slice none 0 0,Value.int IntKind.i64 0]⟩⟩
theorem aoU:qo Tryz.prog 133=some Zf:=by kernel_rfl
def Kq:TI:=⟨Kd.oth,1,8,Value.nilFunc⟩
theorem aZh:qo Tryz.prog 134=some Kq:=by kernel_rfl
def Kp:TI:=⟨Kd.oth,1,8,Value.nilFunc⟩
theorem aZg:qo Tryz.prog 135=some Kp:=by kernel_rfl
def Ko:TI:=⟨Kd.oth,1,8,Value.nilFunc⟩
theorem aZf:qo Tryz.prog 136=some Ko:=by kernel_rfl
def Kn:TI:=⟨Kd.oth,1,8,Value.nilFunc⟩
theorem aZe:qo Tryz.prog 137=some Kn:=by kernel_rfl
def Km:TI:=⟨Kd.oth,1,8,Value.nilFunc⟩
theorem aZd:qo Tryz.prog 138=some Km:=by kernel_rfl
def Kl:TI:=⟨Kd.oth,1,8,Value.nilFunc⟩
theorem aZc:qo Tryz.prog 139=some Kl:=by kernel_rfl
def Kk:TI:=⟨Kd.oth,1,8,Value.nilFunc⟩
theorem aZb:qo Tryz.prog 140=some Kk:=by kernel_rfl
def Kj:TI:=⟨Kd.oth,1,8,Value.nilFunc⟩
theorem aZa:qo Tryz.prog 142=some Kj:=by kernel_rfl
def Ki:TI:=⟨Kd.oth,1,8,Value.nilFunc⟩
theorem aY9:qo Tryz.prog 143=some Ki:=by kernel_rfl
def Kh:TI:=⟨Kd.oth,1,8,Value.nilFunc⟩
theorem aY8:qo Tryz.prog 144=some Kh:=by kernel_rfl
def Kg:TI:=⟨Kd.oth,1,8,Value.nilFunc⟩
theorem aY7:qo Tryz.prog 145=some Kg:=by kernel_rfl
def Kf:TI:=⟨Kd.oth,1,8,Value.nilFunc⟩
theorem aY6:qo Tryz.prog 146=some Kf:=by kernel_rfl
def Ke:TI:=⟨Kd.oth,1,8,Value.nilFunc⟩
theorem aY5:qo Tryz.prog 147=some Ke:=by kernel_rfl
def Kc:TI:=⟨Kd.oth,1,8,Value.nilFunc⟩
theorem aY4:qo Tryz.prog 148=some Kc:=by kernel_rfl
def Kb:TI:=⟨Kd.oth,1,8,Value.nilFunc⟩
theorem aY3:qo Tryz.prog 149=some Kb:=by kernel_rfl
def Ka:TI:=⟨Kd.oth,1,8,Value.nilFunc⟩
theorem aY2:qo Tryz.prog 151=some Ka:=by kernel_rfl
def V9:TI:=⟨Kd.oth,1,8,Value.nilFunc⟩
theorem aY1:qo Tryz.prog 152=some V9:=by kernel_rfl
def Qj:TI:=⟨Kd.sli 133,1,24,Value.slice none 0 0⟩
theorem KU:qo Tryz.prog 153=some Qj:=by kernel_rfl
def ZD:TI:=⟨Kd.stru [(0,3),(1,153)],2,32,Value.agg ⟨[Value.int IntKind.i64 0,Value.slice none 0 0]⟩⟩
theorem aBm:qo Tryz.prog 154=some ZD:=by kernel_rfl
def ZC:TI:=⟨Kd.stru [(0,3),(1,153)],2,32,Value.agg ⟨[Value.int IntKind.i64 0,Value.slice none 0 0]⟩⟩
theorem aBl:qo Tryz.prog 155=some ZC:=by kernel_rfl
def V8:TI:=⟨Kd.oth,1,8,Value.nilFunc⟩
theorem aY0:qo Tryz.prog 156=some V8:=by kernel_rfl
def V7:TI:=⟨Kd.oth,1,8,Value.nilFunc⟩
theorem aYZ:qo Tryz.prog 157=some V7:=by kernel_rfl
def V6:TI:=⟨Kd.oth,1,8,Value.nilFunc⟩
theorem aYY:qo Tryz.prog 158=some V6:=by kernel_rfl
def V5:TI:=⟨Kd.oth,1,8,Value.nilFunc⟩
theorem aYX:qo Tryz.prog 159=some V5:=by kernel_rfl
def V4:TI:=⟨Kd.oth,1,8,Value.nilFunc⟩
theorem aYW:qo Tryz.prog 160=some V4:=by kernel_rfl
def V3:TI:=⟨Kd.oth,1,8,Value.nilFunc⟩
theorem aYV:qo Tryz.prog 161=some V3:=by kernel_rfl
def V2:TI:=⟨Kd.oth,1,8,Value.nilFunc⟩
theorem aYU:qo Tryz.prog 163=some V2:=by kernel_rfl
def V1:TI:=⟨Kd.oth,1,8,Value.nilFunc⟩
theorem aYT:qo Tryz.prog 164=some V1:=by kernel_rfl
def V0:TI:=⟨Kd.oth,1,8,Value.nilFunc⟩
theorem aYS:qo Tryz.prog 165=some V0:=by kernel_rfl
def VZ:TI:=⟨Kd.oth,1,8,Value.nilFunc⟩
theorem aYR:qo Tryz.prog 166=some VZ:=by kernel_rfl
def VY:TI:=⟨Kd.oth,1,8,Value.nilFunc⟩
theorem aYQ:qo Tryz.prog 167=some VY:=by kernel_rfl
def VX:TI:=⟨Kd.oth,1,8,Value.nilFunc⟩
theorem aYP:qo Tryz.prog 168=some VX:=by kernel_rfl
def VW:TI:=⟨Kd.oth,1,8,Value.nilFunc⟩
theorem aYO:qo Tryz.prog 169=some VW:=by kernel_rfl
def VV:TI:=⟨Kd.oth,1,8,Value.nilFunc⟩
theorem aYN:qo Tryz.prog 170=some VV:=by kernel_rfl
def VU:TI:=⟨Kd.oth,1,8,Value.nilFunc⟩
theorem aYM:qo Tryz.prog 171=some VU:=by kernel_rfl
def VT:TI:=⟨Kd.oth,1,8,Value.nilFunc⟩
theorem aYL:qo Tryz.prog 173=some VT:=by kernel_rfl
def Ze:TI:=⟨Kd.stru [(0,22),(1,3),(2,3)],3,40,Value.agg ⟨[Value.slice none 0 0,Value.int IntKind.i64 0,Value.int IntKind.i64 0]⟩⟩
theorem aoT:qo Tryz.prog 174=some Ze:=by kernel_rfl
def Zd:TI:=⟨Kd.stru [(0,22),(1,3),(2,3)],3,40,Value.agg ⟨[Value.slice none 0 0,Value.int IntKind.i64 0,Value.int IntKind.i64 0]⟩⟩
theorem aoS:qo Tryz.prog 175=some Zd:=by kernel_rfl
def VS:TI:=⟨Kd.oth,1,8,Value.nilFunc⟩
theorem aYK:qo Tryz.prog 176=some VS:=by kernel_rfl
def VR:TI:=⟨Kd.oth,1,8,Value.nilFunc⟩
theorem aYJ:qo Tryz.prog 177=some VR:=by kernel_rfl
def VQ:TI:=⟨Kd.oth,1,8,Value.nilFunc⟩
theorem aYI:qo Tryz.prog 178=some VQ:=by kernel_rfl
def VP:TI:=⟨Kd.oth,1,8,Value.nilFunc⟩
theorem aYH:qo Tryz.prog 179=some VP:=by kernel_rfl
def VO:TI:=⟨Kd.oth,1,8,Value.nilFunc⟩
theorem aYG:qo Tryz.prog 180=some VO:=by kernel_rfl
def VN:TI:=⟨Kd.oth,1,8,Value.nilFunc⟩
theorem aYF:qo Tryz.prog 182=some VN:=by kernel_rfl
def VM:TI:=⟨Kd.oth,1,8,Value.nilFunc⟩
theorem aYE:qo Tryz.prog 183=some VM:=by kernel_rfl
def VL:TI:=⟨Kd.oth,1,8,Value.nilFunc⟩
theorem aYD:qo Tryz.prog 184=some VL:=by kernel_rfl
def VK:TI:=⟨Kd.oth,1,8,Value.nilFunc⟩
theorem aYC:qo Tryz.prog 185=some VK:=by kernel_rfl
def VJ:TI:=⟨Kd.oth,1,8,Value.nilFunc⟩
theorem aYB:qo Tryz.prog 186=some VJ:=by kernel_rfl
def VI:TI:=⟨Kd.oth,1,8,Value.nilFunc⟩
theorem aYA:qo Tryz.prog 187=some VI:=by kernel_rfl
def VH:TI:=⟨Kd.oth,1,8,Value.nilFunc⟩
theorem aYz:qo Tryz.prog 188=some VH:=by kernel_rfl
def VG:TI:=⟨Kd.oth,1,8,Value.nilFunc⟩
theorem aYy:qo Tryz.prog 189=some VG:=by kernel_rfl
def VF:TI:=⟨Kd.oth,1,8,Value.nilFunc⟩
theorem aYx:qo Tryz.prog 190=some VF:=by kernel_rfl
def VE:TI:=⟨Kd.oth,1,8,Value.nilFunc⟩
theorem aYw:qo Tryz.prog 191=some VE:=by kernel_rfl
def VD:TI:=⟨Kd.oth,1,8,Value.nilFunc⟩
theorem aYv:qo Tryz.prog 192=some VD:=by kernel_rfl
def VC:TI:=⟨Kd.oth,1,8,Value.nilFunc⟩
theorem aYu:qo Tryz.prog 194=some VC:=by kernel_rfl
def VB:TI:=⟨Kd.sli 111,1,24,Value.slice none 0 0⟩
theorem aOp:qo Tryz.prog 195=some VB:=by kernel_rfl
def VA:TI:=⟨Kd.oth,1,8,Value.nilFunc⟩
theorem aYt:qo Tryz.prog 196=some VA:=by kernel_rfl
def Vz:TI:=⟨Kd.oth,1,8,Value.nilFunc⟩
theorem aYs:qo Tryz.prog 197=some Vz:=by kernel_rfl
def Vy:TI:=⟨Kd.oth,1,8,Value.nilFunc⟩
theorem aYr:qo Tryz.prog 198=some Vy:=by kernel_rfl
def Vx:TI:=⟨Kd.oth,1,8,Value.nilFunc⟩
theorem aYq:qo Tryz.prog 199=some Vx:=by kernel_rfl
def Vw:TI:=⟨Kd.oth,1,8,Value.nilFunc⟩
theorem aYp:qo Tryz.prog 201=some Vw:=by kernel_rfl
def Vv:TI:=⟨Kd.oth,1,8,Value.nilFunc⟩
theorem aYo:qo Tryz.prog 203=some Vv:=by kernel_rfl
def Vu:TI:=⟨Kd.oth,1,8,Value.nilFunc⟩
theorem aYn:qo Tryz.prog 204=some Vu:=by kernel_rfl
def Vt:TI:=⟨Kd.oth,1,8,Value.nilFunc⟩
theorem aYm:qo Tryz.prog 205=some Vt:=by kernel_rfl
def Vs:TI:=⟨Kd.oth,1,8,Value.nilFunc⟩
theorem aYl:qo Tryz.prog 207=some Vs:=by kernel_rfl
def Vr:TI:=⟨Kd.oth,1,8,Value.nilFunc⟩
theorem aYk:qo Tryz.prog 208=some Vr:=by kernel_rfl
def Vq:TI:=⟨Kd.oth,1,8,Value.nilFunc⟩
theorem aYj:qo Tryz.prog 209=some Vq:=by kernel_rfl
def Vp:TI:=⟨Kd.oth,1,8,Value.nilFunc⟩
theorem aYi:qo Tryz.prog 210=some Vp:=by kernel_rfl
def Vo:TI:=⟨Kd.oth,1,8,Value.nilFunc⟩
theorem aYh:qo Tryz.prog 211=some Vo:=by kernel_rfl
def Vn:TI:=⟨Kd.oth,1,8,Value.nilFunc⟩
theorem aYg:qo Tryz.prog 212=some Vn:=by kernel_rfl
def Vm:TI:=⟨Kd.oth,1,8,Value.nilFunc⟩
theorem aYf:qo Tryz.prog 213=some Vm:=by kernel_rfl
def Vl:TI:=⟨Kd.oth,1,8,Value.nilFunc⟩
theorem aYe:qo Tryz.prog 214=some Vl:=by kernel_rfl
def Vk:TI:=⟨Kd.oth,1,8,Value.nilFunc⟩
theorem aYd:qo Tryz.prog 215=some Vk:=by kernel_rfl
def Vj:TI:=⟨Kd.int IntKind.u64,1,8,Value.int IntKind.u64 0⟩
theorem aYc:qo Tryz.prog 216=some Vj:=by kernel_rfl
def Vi:TI:=⟨Kd.oth,1,8,Value.nilFunc⟩
theorem aYb:qo Tryz.prog 217=some Vi:=by kernel_rfl
def Vh:TI:=⟨Kd.oth,1,8,Value.nilFunc⟩
theorem aYa:qo Tryz.prog 218=some Vh:=by kernel_rfl
def Vg:TI:=⟨Kd.oth,1,8,Value.nilFunc⟩
theorem aX9:qo Tryz.prog 219=some Vg:=by kernel_rfl
def Vf:TI:=⟨Kd.oth,1,8,Value.nilFunc⟩
theorem aX8:qo Tryz.prog 220=some Vf:=by kernel_rfl
def Ve:TI:=⟨Kd.oth,1,8,Value.nilFunc⟩
theorem aX7:qo Tryz.prog 221=some Ve:=by kernel_rfl
def Vd:TI:=⟨Kd.oth,1,8,Value.nilFunc⟩
theorem aX6:qo Tryz.prog 222=some Vd:=by kernel_rfl
def Vc:TI:=⟨Kd.oth,1,8,Value.nilFunc⟩
theorem aX5:qo Tryz.prog 224=some Vc:=by kernel_rfl
def Vb:TI:=⟨Kd.oth,1,8,Value.nilFunc⟩
theorem aX4:qo Tryz.prog 225=some Vb:=by kernel_rfl
def Va:TI:=⟨Kd.oth,1,8,Value.nilFunc⟩
theorem aX3:qo Tryz.prog 226=some Va:=by kernel_rfl
def X9:TI:=⟨Kd.oth,1,8,Value.nilFunc⟩
theorem aX2:qo Tryz.prog 227=some X9:=by kernel_rfl
def X8:TI:=⟨Kd.oth,1,8,Value.nilFunc⟩
theorem aX1:qo Tryz.prog 228=some X8:=by kernel_rfl
def X7:TI:=⟨Kd.oth,1,8,Value.nilFunc⟩
theorem aX0:qo Tryz.prog 229=some X7:=by kernel_rfl
def X6:TI:=⟨Kd.oth,1,8,Value.nilFunc⟩
theorem aXZ:qo Tryz.prog 230=some X6:=by kernel_rfl
def X5:TI:=⟨Kd.oth,1,8,Value.nilFunc⟩
theorem aXY:qo Tryz.prog 231=some X5:=by kernel_rfl
def X4:TI:=⟨Kd.oth,1,8,Value.nilFunc⟩
theorem aXX:qo Tryz.prog 232=some X4:=by kernel_rfl
def X3:TI:=⟨Kd.oth,1,8,Value.nilFunc⟩
theorem aXW:qo Tryz.prog 233=some X3:=by kernel_rfl
def X2:TI:=⟨Kd.oth,1,8,Value.nilFunc⟩
theorem aXV:qo Tryz.prog 234=some X2:=by kernel_rfl
def X1:TI:=⟨Kd.oth,1,8,Value.nilFunc⟩
theorem aXU:qo Tryz.prog 235=some X1:=by kernel_rfl
def X0:TI:=⟨Kd.oth,1,8,Value.nilFunc⟩
theorem aXT:qo Tryz.prog 236=some X0:=by kernel_rfl
def XZ:TI:=⟨Kd.oth,1,8,Value.nilFunc⟩
theorem aXS:qo Tryz.prog 237=some XZ:=by kernel_rfl
def XY:TI:=⟨Kd.oth,1,8,Value.nilFunc⟩
theorem aXR:qo Tryz.prog 238=some XY:=by kernel_rfl
def XX:TI:=⟨Kd.oth,1,8,Value.nilFunc⟩
theorem aXQ:qo Tryz.prog 239=some XX:=by kernel_rfl
def XW:TI:=⟨Kd.oth,1,8,Value.nilFunc⟩
theorem aXP:qo Tryz.prog 240=some XW:=by kernel_rfl
def XV:TI:=⟨Kd.oth,1,8,Value.nilFunc⟩
theorem aXO:qo Tryz.prog 241=some XV:=by kernel_rfl
def XU:TI:=⟨Kd.oth,1,8,Value.nilFunc⟩
theorem aXN:qo Tryz.prog 242=some XU:=by kernel_rfl
def XT:TI:=⟨Kd.oth,1,8,Value.nilFunc⟩
theorem aXM:qo Tryz.prog 243=some XT:=by kernel_rfl
def XS:TI:=⟨Kd.oth,1,8,Value.nilFunc⟩
theorem aXL:qo Tryz.prog 245=some XS:=by kernel_rfl
def XR:TI:=⟨Kd.oth,1,8,Value.nilFunc⟩
theorem aXK:qo Tryz.prog 246=some XR:=by kernel_rfl
def XQ:TI:=⟨Kd.oth,1,8,Value.nilFunc⟩
theorem aXJ:qo Tryz.prog 247=some XQ:=by kernel_rfl
def XP:TI:=⟨Kd.oth,1,8,Value.nilFunc⟩
theorem aXI:qo Tryz.prog 249=some XP:=by kernel_rfl
def XO:TI:=⟨Kd.oth,1,8,Value.nilFunc⟩
theorem aXH:qo Tryz.prog 250=some XO:=by kernel_rfl
def XN:TI:=⟨Kd.oth,1,8,Value.nilFunc⟩
theorem aXG:qo Tryz.prog 251=some XN:=by kernel_rfl
def XM:TI:=⟨Kd.int IntKind.u32,1,4,Value.int IntKind.u32 0⟩
theorem aXF:qo Tryz.prog 252=some XM:=by kernel_rfl
def XL:TI:=⟨Kd.oth,1,8,Value.nilFunc⟩
theorem aXE:qo Tryz.prog 253=some XL:=by kernel_rfl
def XK:TI:=⟨Kd.int IntKind.u64,1,8,Value.int IntKind.u64 0⟩
theorem aXD:qo Tryz.prog 254=some XK:=by kernel_rfl
def XJ:TI:=⟨Kd.oth,1,8,Value.nilFunc⟩
theorem aXC:qo Tryz.prog 256=some XJ:=by kernel_rfl
def XI:TI:=⟨Kd.oth,1,8,Value.nilFunc⟩
theorem aXB:qo Tryz.prog 257=some XI:=by kernel_rfl
def XH:TI:=⟨Kd.oth,1,8,Value.nilFunc⟩
theorem aXA:qo Tryz.prog 258=some XH:=by kernel_rfl
def XG:TI:=⟨Kd.oth,1,8,Value.nilFunc⟩
theorem aXz:qo Tryz.prog 259=some XG:=by kernel_rfl
def XF:TI:=⟨Kd.oth,1,8,Value.nilFunc⟩
theorem aXy:qo Tryz.prog 260=some XF:=by kernel_rfl
def XE:TI:=⟨Kd.oth,1,8,Value.nilFunc⟩
theorem aXx:qo Tryz.prog 263=some XE:=by kernel_rfl
def XD:TI:=⟨Kd.stru [(0,266)],0,0,Value.agg ⟨[]⟩⟩
theorem aXw:qo Tryz.prog 267=some XD:=by kernel_rfl
def XC:TI:=⟨Kd.stru [(0,266)],0,0,Value.agg ⟨[]⟩⟩
theorem aXv:qo Tryz.prog 268=some XC:=by kernel_rfl
def XB:TI:=⟨Kd.int IntKind.u8,1,1,Value.int IntKind.u8 0⟩
theorem aXu:qo Tryz.prog 269=some XB:=by kernel_rfl
def XA:TI:=⟨Kd.int IntKind.u8,1,1,Value.int IntKind.u8 0⟩
theorem aXt:qo Tryz.prog 270=some XA:=by kernel_rfl
def Xz:TI:=⟨Kd.oth,1,8,Value.nilFunc⟩
theorem aXs:qo Tryz.prog 271=some Xz:=by kernel_rfl
def Xy:TI:=⟨Kd.int IntKind.i32,1,4,Value.int IntKind.i32 0⟩
theorem aXr:qo Tryz.prog 273=some Xy:=by kernel_rfl
def Xx:TI:=⟨Kd.int IntKind.i32,1,4,Value.int IntKind.i32 0⟩
theorem aXq:qo Tryz.prog 274=some Xx:=by kernel_rfl
def Xw:TI:=⟨Kd.oth,1,8,Value.nilFunc⟩
theorem aXp:qo Tryz.prog 277=some Xw:=by kernel_rfl
theorem ty1{K:TI→Prop}:@tyW Tryz.prog 1 ⟨K⟩=K ti1:=qi tf1
theorem aOn:ti1.kd=Kd.oth:=ID rfl
theorem aJq:ti1.kd.agg=false:=ID rfl
theorem awH:ti1.size=1:=ID rfl
theorem ang:ti1.bytes=8:=ID rfl
theorem aOl:qv ti1=True:=eq_true rfl
theorem aOm:zc ti1=[.v Value.nilFunc]:=ID rfl
theorem ty2{K:TI→Prop}:@tyW Tryz.prog 2 ⟨K⟩=K ti2:=qi tf2
theorem aOk:ti2.kd=Kd.int IntKind.i64:=ID rfl
theorem aI4:ti2.kd.agg=false:=ID rfl
theorem atv:ti2.size=1:=ID rfl
theorem al4:ti2.bytes=8:=ID rfl
theorem aOi:qv ti2=True:=eq_true rfl
theorem aOj:zc ti2=[.v (Value.int IntKind.i64 0)]:=ID rfl
theorem ty3{K:TI→Prop}:@tyW Tryz.prog 3 ⟨K⟩=K ti3:=qi tf3
theorem aOh:ti3.kd=Kd.int IntKind.i64:=ID rfl
theorem aIz:ti3.kd.agg=false:=ID rfl
theorem atk:ti3.size=1:=ID rfl
theorem alR:ti3.bytes=8:=ID rfl
theorem aOf:qv ti3=True:=eq_true rfl
theorem aOg:zc ti3=[.v (Value.int IntKind.i64 0)]:=ID rfl
theorem ty4{K:TI→Prop}:@tyW Tryz.prog 4 ⟨K⟩=K ti4:=qi tf4
theorem aOe:ti4.kd=Kd.bool:=ID rfl
theorem aIa:ti4.kd.agg=false:=ID rfl
theorem atb:ti4.size=1:=ID rfl
theorem alI:ti4.bytes=1:=ID rfl
theorem aOc:qv ti4=True:=eq_true rfl
theorem aOd:zc ti4=[.v (Value.bool false)]:=ID rfl
theorem ty5{K:TI→Prop}:@tyW Tryz.prog 5 ⟨K⟩=K ti5:=qi tf5
theorem aOb:ti5.kd=Kd.int IntKind.u8:=ID rfl
theorem aHO:ti5.kd.agg=false:=ID rfl
theorem as3:ti5.size=1:=ID rfl
theorem alw:ti5.bytes=1:=ID rfl
theorem aN9:qv ti5=True:=eq_true rfl
theorem aOa:zc ti5=[.v (Value.int IntKind.u8 0)]:=ID rfl
theorem ty6{K:TI→Prop}:@tyW Tryz.prog 6 ⟨K⟩=K ti6:=qi tf6
theorem aN8:ti6.kd=Kd.int IntKind.u8:=ID rfl
theorem aHm:ti6.kd.agg=false:=ID rfl
theorem asT:ti6.size=1:=ID rfl
theorem alm:ti6.bytes=1:=ID rfl
theorem aN6:qv ti6=True:=eq_true rfl
theorem aN7:zc ti6=[.v (Value.int IntKind.u8 0)]:=ID rfl
theorem ty7{K:TI→Prop}:@tyW Tryz.prog 7 ⟨K⟩=K ti7:=qi tf7
theorem aN5:ti7.kd=Kd.stru [(0,2),(1,3),(2,4),(3,6)]:=ID rfl
theorem aG3:ti7.kd.agg=true:=ID rfl
theorem asM:ti7.size=4:=ID rfl
theorem ale:ti7.bytes=24:=ID rfl
theorem aN3:qv ti7=True:=eq_true rfl
theorem aN4:zc ti7=[.v (Value.int IntKind.i64 0),.v (Value.int IntKind.i64 0),.v (Value.bool false),.v (Value.int IntKind.u8 0)]:=ID rfl
theorem aTv{K:Nat→TI→Prop}:@qz Tryz.prog 7 0 ⟨K⟩=K 0 ti2:=qs (ti:=ti7) (tf:=ti2) (fo:=(0,2)) (fs:=[(0,2),(1,3),(2,4),(3,6)]) tf7 rfl rfl tf2
theorem aZ5{K:Nat→Nat→Prop}:qu Tryz.prog [(0,2),(1,3),(2,4),(3,6)] 0 K=K 0 1:=qr (tf:=ti2) (fo:=(0,2)) (fs:=[(0,2),(1,3),(2,4),(3,6)]) rfl tf2
theorem aTu{K:Nat→TI→Prop}:@qz Tryz.prog 7 1 ⟨K⟩=K 1 ti3:=qs (ti:=ti7) (tf:=ti3) (fo:=(1,3)) (fs:=[(0,2),(1,3),(2,4),(3,6)]) tf7 rfl rfl tf3
theorem aZ4{K:Nat→Nat→Prop}:qu Tryz.prog [(0,2),(1,3),(2,4),(3,6)] 1 K=K 1 1:=qr (tf:=ti3) (fo:=(1,3)) (fs:=[(0,2),(1,3),(2,4),(3,6)]) rfl tf3
theorem aTt{K:Nat→TI→Prop}:@qz Tryz.prog 7 2 ⟨K⟩=K 2 ti4:=qs (ti:=ti7) (tf:=ti4) (fo:=(2,4)) (fs:=[(0,2),(1,3),(2,4),(3,6)]) tf7 rfl rfl tf4
theorem aZ3{K:Nat→Nat→Prop}:qu Tryz.prog [(0,2),(1,3),(2,4),(3,6)] 2 K=K 2 1:=qr (tf:=ti4) (fo:=(2,4)) (fs:=[(0,2),(1,3),(2,4),(3,6)]) rfl tf4
theorem aTs{K:Nat→TI→Prop}:@qz Tryz.prog 7 3 ⟨K⟩=K 3 ti6:=qs (ti:=ti7) (tf:=ti6) (fo:=(3,6)) (fs:=[(0,2),(1,3),(2,4),(3,6)]) tf7 rfl rfl tf6
theorem aZ2{K:Nat→Nat→Prop}:qu Tryz.prog [(0,2),(1,3),(2,4),(3,6)] 3 K=K 3 1:=qr (tf:=ti6) (fo:=(3,6)) (fs:=[(0,2),(1,3),(2,4),(3,6)]) rfl tf6
theorem bax:∀f∈([(0,2),(1,3),(2,4),(3,6)]:List (Nat×Nat)),(qo Tryz.prog f.2).isSome=true:=by
 intro f hf
 simp only[List.mem_cons,List.not_mem_nil,or_false]at hf
 rcases hf with rfl|rfl|rfl|rfl
 ·rw[tf2];rfl
 ·rw[tf3];rfl
 ·rw[tf4];rfl
 ·rw[tf6];rfl
theorem bfe{ps:List (Nat×AV)}{K:AV→Prop}:@zk Tryz.prog 7 ps ⟨K⟩=@zj (qu Tryz.prog [(0,2),(1,3),(2,4),(3,6)]) (zc ti7) ps ⟨fun cs=>K (.ag cs)⟩:=qM tf7 rfl bax
theorem ty8{K:TI→Prop}:@tyW Tryz.prog 8 ⟨K⟩=K ti8:=qi tf8
theorem aN2:ti8.kd=Kd.stru [(0,2),(1,3),(2,4),(3,6)]:=ID rfl
theorem aGE:ti8.kd.agg=true:=ID rfl
theorem asD:ti8.size=4:=ID rfl
theorem ak3:ti8.bytes=24:=ID rfl
theorem aN0:qv ti8=True:=eq_true rfl
theorem aN1:zc ti8=[.v (Value.int IntKind.i64 0),.v (Value.int IntKind.i64 0),.v (Value.bool false),.v (Value.int IntKind.u8 0)]:=ID rfl
theorem aTr{K:Nat→TI→Prop}:@qz Tryz.prog 8 0 ⟨K⟩=K 0 ti2:=qs (ti:=ti8) (tf:=ti2) (fo:=(0,2)) (fs:=[(0,2),(1,3),(2,4),(3,6)]) tf8 rfl rfl tf2
theorem aZ1{K:Nat→Nat→Prop}:qu Tryz.prog [(0,2),(1,3),(2,4),(3,6)] 0 K=K 0 1:=qr (tf:=ti2) (fo:=(0,2)) (fs:=[(0,2),(1,3),(2,4),(3,6)]) rfl tf2
theorem aTq{K:Nat→TI→Prop}:@qz Tryz.prog 8 1 ⟨K⟩=K 1 ti3:=qs (ti:=ti8) (tf:=ti3) (fo:=(1,3)) (fs:=[(0,2),(1,3),(2,4),(3,6)]) tf8 rfl rfl tf3
theorem aZ0{K:Nat→Nat→Prop}:qu Tryz.prog [(0,2),(1,3),(2,4),(3,6)] 1 K=K 1 1:=qr (tf:=ti3) (fo:=(1,3)) (fs:=[(0,2),(1,3),(2,4),(3,6)]) rfl tf3
theorem aTp{K:Nat→TI→Prop}:@qz Tryz.prog 8 2 ⟨K⟩=K 2 ti4:=qs (ti:=ti8) (tf:=ti4) (fo:=(2,4)) (fs:=[(0,2),(1,3),(2,4),(3,6)]) tf8 rfl rfl tf4
theorem aZZ{K:Nat→Nat→Prop}:qu Tryz.prog [(0,2),(1,3),(2,4),(3,6)] 2 K=K 2 1:=qr (tf:=ti4) (fo:=(2,4)) (fs:=[(0,2),(1,3),(2,4),(3,6)]) rfl tf4
theorem aTo{K:Nat→TI→Prop}:@qz Tryz.prog 8 3 ⟨K⟩=K 3 ti6:=qs (ti:=ti8) (tf:=ti6) (fo:=(3,6)) (fs:=[(0,2),(1,3),(2,4),(3,6)]) tf8 rfl rfl tf6
theorem aZY{K:Nat→Nat→Prop}:qu Tryz.prog [(0,2),(1,3),(2,4),(3,6)] 3 K=K 3 1:=qr (tf:=ti6) (fo:=(3,6)) (fs:=[(0,2),(1,3),(2,4),(3,6)]) rfl tf6
theorem baw:∀f∈([(0,2),(1,3),(2,4),(3,6)]:List (Nat×Nat)),(qo Tryz.prog f.2).isSome=true:=by
 intro f hf
 simp only[List.mem_cons,List.not_mem_nil,or_false]at hf
 rcases hf with rfl|rfl|rfl|rfl
 ·rw[tf2];rfl
 ·rw[tf3];rfl
 ·rw[tf4];rfl
 ·rw[tf6];rfl
theorem bfd{ps:List (Nat×AV)}{K:AV→Prop}:@zk Tryz.prog 8 ps ⟨K⟩=@zj (qu Tryz.prog [(0,2),(1,3),(2,4),(3,6)]) (zc ti8) ps ⟨fun cs=>K (.ag cs)⟩:=qM tf8 rfl baw
theorem ty9{K:TI→Prop}:@tyW Tryz.prog 9 ⟨K⟩=K ti9:=qi tf9
theorem aNZ:ti9.kd=Kd.str:=ID rfl
theorem aGf:ti9.kd.agg=false:=ID rfl
theorem asu:ti9.size=1:=ID rfl
theorem akU:ti9.bytes=16:=ID rfl
theorem aNX:qv ti9=True:=eq_true rfl
theorem aNY:zc ti9=[.v (Value.string {data:=⟨[]⟩})]:=ID rfl
theorem bdG{K:TI→Prop}:@tyW Tryz.prog 10 ⟨K⟩=K aFm:=qi bez
theorem aJz:aFm.kd=Kd.str:=ID rfl
theorem aAP:aFm.kd.agg=false:=ID rfl
theorem aoG:aFm.size=1:=ID rfl
theorem ajl:aFm.bytes=16:=ID rfl
theorem aJx:qv aFm=True:=eq_true rfl
theorem aJy:zc aFm=[.v (Value.string {data:=⟨[]⟩})]:=ID rfl
theorem bdF{K:TI→Prop}:@tyW Tryz.prog 11 ⟨K⟩=K aFl:=qi bey
theorem aJw:aFl.kd=Kd.str:=ID rfl
theorem aAk:aFl.kd.agg=false:=ID rfl
theorem aov:aFl.size=1:=ID rfl
theorem aja:aFl.bytes=16:=ID rfl
theorem aJu:qv aFl=True:=eq_true rfl
theorem aJv:zc aFl=[.v (Value.string {data:=⟨[]⟩})]:=ID rfl
theorem bdE{K:TI→Prop}:@tyW Tryz.prog 12 ⟨K⟩=K aFk:=qi bex
theorem aJt:aFk.kd=Kd.int IntKind.u64:=ID rfl
theorem azP:aFk.kd.agg=false:=ID rfl
theorem aok:aFk.size=1:=ID rfl
theorem aiZ:aFk.bytes=8:=ID rfl
theorem aJr:qv aFk=True:=eq_true rfl
theorem aJs:zc aFk=[.v (Value.int IntKind.u64 0)]:=ID rfl
theorem bdD{K:TI→Prop}:@tyW Tryz.prog 21 ⟨K⟩=K aFj:=qi bew
theorem aJp:aFj.kd=Kd.int IntKind.i32:=ID rfl
theorem avQ:aFj.kd.agg=false:=ID rfl
theorem amX:aFj.size=1:=ID rfl
theorem ahF:aFj.bytes=4:=ID rfl
theorem aJn:qv aFj=True:=eq_true rfl
theorem aJo:zc aFj=[.v (Value.int IntKind.i32 0)]:=ID rfl
theorem bdC{K:TI→Prop}:@tyW Tryz.prog 22 ⟨K⟩=K afa:=qi aFp
theorem aJm:afa.kd=Kd.sli 5:=ID rfl
theorem avo:afa.kd.agg=false:=ID rfl
theorem amN:afa.size=1:=ID rfl
theorem ahv:afa.bytes=24:=ID rfl
theorem aJk:qv afa=True:=eq_true rfl
theorem aJl:zc afa=[.v (Value.slice none 0 0)]:=ID rfl
theorem aZP{K:TI→Prop}:@yV Tryz.prog 22 ⟨K⟩=K ti5:=ZM aFp rfl tf5
theorem bdB{K:TI→Prop}:@tyW Tryz.prog 23 ⟨K⟩=K ae9:=qi aFo
theorem aJj:ae9.kd=Kd.sli 40:=ID rfl
theorem auT:ae9.kd.agg=false:=ID rfl
theorem amC:ae9.size=1:=ID rfl
theorem ahk:ae9.bytes=24:=ID rfl
theorem aJh:qv ae9=True:=eq_true rfl
theorem aJi:zc ae9=[.v (Value.slice none 0 0)]:=ID rfl
theorem aZO{K:TI→Prop}:@yV Tryz.prog 23 ⟨K⟩=K Zo:=ZM aFo rfl KT
theorem bdA{K:TI→Prop}:@tyW Tryz.prog 24 ⟨K⟩=K amB:=qi aUN
theorem aJg:amB.kd=Kd.stru [(0,3),(1,23)]:=ID rfl
theorem auu:amB.kd.agg=true:=ID rfl
theorem ams:amB.size=2:=ID rfl
theorem ahb:amB.bytes=32:=ID rfl
theorem aJe:qv amB=True:=eq_true rfl
theorem aJf:zc amB=[.v (Value.int IntKind.i64 0),.v (Value.slice none 0 0)]:=ID rfl
theorem aMj{K:Nat→TI→Prop}:@qz Tryz.prog 24 0 ⟨K⟩=K 0 ti3:=qs (ti:=amB) (tf:=ti3) (fo:=(0,3)) (fs:=[(0,3),(1,23)]) aUN rfl rfl tf3
theorem aPk{K:Nat→Nat→Prop}:qu Tryz.prog [(0,3),(1,23)] 0 K=K 0 1:=qr (tf:=ti3) (fo:=(0,3)) (fs:=[(0,3),(1,23)]) rfl tf3
theorem aMi{K:Nat→TI→Prop}:@qz Tryz.prog 24 1 ⟨K⟩=K 1 ae9:=qs (ti:=amB) (tf:=ae9) (fo:=(1,23)) (fs:=[(0,3),(1,23)]) aUN rfl rfl aFo
theorem aPj{K:Nat→Nat→Prop}:qu Tryz.prog [(0,3),(1,23)] 1 K=K 1 1:=qr (tf:=ae9) (fo:=(1,23)) (fs:=[(0,3),(1,23)]) rfl aFo
theorem aQa:∀f∈([(0,3),(1,23)]:List (Nat×Nat)),(qo Tryz.prog f.2).isSome=true:=by
 intro f hf
 simp only[List.mem_cons,List.not_mem_nil,or_false]at hf
 rcases hf with rfl|rfl
 ·rw[tf3];rfl
 ·rw[aFo];rfl
theorem bcl{ps:List (Nat×AV)}{K:AV→Prop}:@zk Tryz.prog 24 ps ⟨K⟩=@zj (qu Tryz.prog [(0,3),(1,23)]) (zc amB) ps ⟨fun cs=>K (.ag cs)⟩:=qM aUN rfl aQa
theorem bdz{K:TI→Prop}:@tyW Tryz.prog 25 ⟨K⟩=K amr:=qi aUM
theorem aJd:amr.kd=Kd.stru [(0,3),(1,23)]:=ID rfl
theorem at2:amr.kd.agg=true:=ID rfl
theorem amh:amr.size=2:=ID rfl
theorem ag1:amr.bytes=32:=ID rfl
theorem aJb:qv amr=True:=eq_true rfl
theorem aJc:zc amr=[.v (Value.int IntKind.i64 0),.v (Value.slice none 0 0)]:=ID rfl
theorem aMh{K:Nat→TI→Prop}:@qz Tryz.prog 25 0 ⟨K⟩=K 0 ti3:=qs (ti:=amr) (tf:=ti3) (fo:=(0,3)) (fs:=[(0,3),(1,23)]) aUM rfl rfl tf3
theorem aPi{K:Nat→Nat→Prop}:qu Tryz.prog [(0,3),(1,23)] 0 K=K 0 1:=qr (tf:=ti3) (fo:=(0,3)) (fs:=[(0,3),(1,23)]) rfl tf3
theorem aMg{K:Nat→TI→Prop}:@qz Tryz.prog 25 1 ⟨K⟩=K 1 ae9:=qs (ti:=amr) (tf:=ae9) (fo:=(1,23)) (fs:=[(0,3),(1,23)]) aUM rfl rfl aFo
theorem aPh{K:Nat→Nat→Prop}:qu Tryz.prog [(0,3),(1,23)] 1 K=K 1 1:=qr (tf:=ae9) (fo:=(1,23)) (fs:=[(0,3),(1,23)]) rfl aFo
theorem aP9:∀f∈([(0,3),(1,23)]:List (Nat×Nat)),(qo Tryz.prog f.2).isSome=true:=by
 intro f hf
 simp only[List.mem_cons,List.not_mem_nil,or_false]at hf
 rcases hf with rfl|rfl
 ·rw[tf3];rfl
 ·rw[aFo];rfl
theorem bck{ps:List (Nat×AV)}{K:AV→Prop}:@zk Tryz.prog 25 ps ⟨K⟩=@zj (qu Tryz.prog [(0,3),(1,23)]) (zc amr) ps ⟨fun cs=>K (.ag cs)⟩:=qM aUM rfl aP9
theorem bdy{K:TI→Prop}:@tyW Tryz.prog 27 ⟨K⟩=K aFi:=qi bev
theorem aJa:aFi.kd=Kd.oth:=ID rfl
theorem atx:aFi.kd.agg=false:=ID rfl
theorem al6:aFi.size=1:=ID rfl
theorem agQ:aFi.bytes=8:=ID rfl
theorem aI8:qv aFi=True:=eq_true rfl
theorem aI9:zc aFi=[.v Value.nilFunc]:=ID rfl
theorem bdx{K:TI→Prop}:@tyW Tryz.prog 29 ⟨K⟩=K aFh:=qi beu
theorem aI7:aFh.kd=Kd.oth:=ID rfl
theorem atw:aFh.kd.agg=false:=ID rfl
theorem al5:aFh.size=1:=ID rfl
theorem agP:aFh.bytes=8:=ID rfl
theorem aI5:qv aFh=True:=eq_true rfl
theorem aI6:zc aFh=[.v Value.nilFunc]:=ID rfl
theorem bdw{K:TI→Prop}:@tyW Tryz.prog 30 ⟨K⟩=K aFg:=qi bet
theorem aI3:aFg.kd=Kd.oth:=ID rfl
theorem atu:aFg.kd.agg=false:=ID rfl
theorem al3:aFg.size=1:=ID rfl
theorem agO:aFg.bytes=8:=ID rfl
theorem aI1:qv aFg=True:=eq_true rfl
theorem aI2:zc aFg=[.v Value.nilFunc]:=ID rfl
theorem bdv{K:TI→Prop}:@tyW Tryz.prog 31 ⟨K⟩=K aFf:=qi bes
theorem aI0:aFf.kd=Kd.oth:=ID rfl
theorem att:aFf.kd.agg=false:=ID rfl
theorem al2:aFf.size=1:=ID rfl
theorem agN:aFf.bytes=8:=ID rfl
theorem aIY:qv aFf=True:=eq_true rfl
theorem aIZ:zc aFf=[.v Value.nilFunc]:=ID rfl
theorem bdu{K:TI→Prop}:@tyW Tryz.prog 32 ⟨K⟩=K aFe:=qi ber
theorem aIX:aFe.kd=Kd.oth:=ID rfl
theorem ats:aFe.kd.agg=false:=ID rfl
theorem al1:aFe.size=1:=ID rfl
theorem agM:aFe.bytes=8:=ID rfl
theorem aIV:qv aFe=True:=eq_true rfl
theorem aIW:zc aFe=[.v Value.nilFunc]:=ID rfl
theorem bdt{K:TI→Prop}:@tyW Tryz.prog 33 ⟨K⟩=K aFd:=qi bep
theorem aIU:aFd.kd=Kd.oth:=ID rfl
theorem atr:aFd.kd.agg=false:=ID rfl
theorem al0:aFd.size=1:=ID rfl
theorem agL:aFd.bytes=8:=ID rfl
theorem aIS:qv aFd=True:=eq_true rfl
theorem aIT:zc aFd=[.v Value.nilFunc]:=ID rfl
theorem bds{K:TI→Prop}:@tyW Tryz.prog 34 ⟨K⟩=K JM:=qi afb
theorem aIR:JM.kd=Kd.sli 3:=ID rfl
theorem atq:JM.kd.agg=false:=ID rfl
theorem alZ:JM.size=1:=ID rfl
theorem agK:JM.bytes=24:=ID rfl
theorem aIP:qv JM=True:=eq_true rfl
theorem aIQ:zc JM=[.v (Value.slice none 0 0)]:=ID rfl
theorem aZN{K:TI→Prop}:@yV Tryz.prog 34 ⟨K⟩=K ti3:=ZM afb rfl tf3
theorem bdr{K:TI→Prop}:@tyW Tryz.prog 35 ⟨K⟩=K asb:=qi aXo
theorem aIO:asb.kd=Kd.stru [(0,34)]:=ID rfl
theorem atp:asb.kd.agg=true:=ID rfl
theorem alY:asb.size=1:=ID rfl
theorem agJ:asb.bytes=24:=ID rfl
theorem aIM:qv asb=True:=eq_true rfl
theorem aIN:zc asb=[.v (Value.slice none 0 0)]:=ID rfl
theorem aMf{K:Nat→TI→Prop}:@qz Tryz.prog 35 0 ⟨K⟩=K 0 JM:=qs (ti:=asb) (tf:=JM) (fo:=(0,34)) (fs:=[(0,34)]) aXo rfl rfl afb
theorem aPg{K:Nat→Nat→Prop}:qu Tryz.prog [(0,34)] 0 K=K 0 1:=qr (tf:=JM) (fo:=(0,34)) (fs:=[(0,34)]) rfl afb
theorem aP8:∀f∈([(0,34)]:List (Nat×Nat)),(qo Tryz.prog f.2).isSome=true:=by
 intro f hf
 simp only[List.mem_cons,List.not_mem_nil,or_false]at hf
 subst hf;rw[afb];rfl
theorem bcj{ps:List (Nat×AV)}{K:AV→Prop}:@zk Tryz.prog 35 ps ⟨K⟩=@zj (qu Tryz.prog [(0,34)]) (zc asb) ps ⟨fun cs=>K (.ag cs)⟩:=qM aXo rfl aP8
theorem bdq{K:TI→Prop}:@tyW Tryz.prog 36 ⟨K⟩=K aa7:=qi aBk
theorem aIL:aa7.kd=Kd.stru [(0,34)]:=ID rfl
theorem ato:aa7.kd.agg=true:=ID rfl
theorem alX:aa7.size=1:=ID rfl
theorem agI:aa7.bytes=24:=ID rfl
theorem aIJ:qv aa7=True:=eq_true rfl
theorem aIK:zc aa7=[.v (Value.slice none 0 0)]:=ID rfl
theorem aMe{K:Nat→TI→Prop}:@qz Tryz.prog 36 0 ⟨K⟩=K 0 JM:=qs (ti:=aa7) (tf:=JM) (fo:=(0,34)) (fs:=[(0,34)]) aBk rfl rfl afb
theorem aPf{K:Nat→Nat→Prop}:qu Tryz.prog [(0,34)] 0 K=K 0 1:=qr (tf:=JM) (fo:=(0,34)) (fs:=[(0,34)]) rfl afb
theorem aP7:∀f∈([(0,34)]:List (Nat×Nat)),(qo Tryz.prog f.2).isSome=true:=by
 intro f hf
 simp only[List.mem_cons,List.not_mem_nil,or_false]at hf
 subst hf;rw[afb];rfl
theorem bci{ps:List (Nat×AV)}{K:AV→Prop}:@zk Tryz.prog 36 ps ⟨K⟩=@zj (qu Tryz.prog [(0,34)]) (zc aa7) ps ⟨fun cs=>K (.ag cs)⟩:=qM aBk rfl aP7
theorem bdp{K:TI→Prop}:@tyW Tryz.prog 37 ⟨K⟩=K alW:=qi aUL
theorem aII:alW.kd=Kd.stru [(0,4),(1,36)]:=ID rfl
theorem atn:alW.kd.agg=true:=ID rfl
theorem alV:alW.size=2:=ID rfl
theorem agH:alW.bytes=32:=ID rfl
theorem aIG:qv alW=True:=eq_true rfl
theorem aIH:zc alW=[.v (Value.bool false),.v (Value.slice none 0 0)]:=ID rfl
theorem aMd{K:Nat→TI→Prop}:@qz Tryz.prog 37 0 ⟨K⟩=K 0 ti4:=qs (ti:=alW) (tf:=ti4) (fo:=(0,4)) (fs:=[(0,4),(1,36)]) aUL rfl rfl tf4
theorem aPe{K:Nat→Nat→Prop}:qu Tryz.prog [(0,4),(1,36)] 0 K=K 0 1:=qr (tf:=ti4) (fo:=(0,4)) (fs:=[(0,4),(1,36)]) rfl tf4
theorem aMc{K:Nat→TI→Prop}:@qz Tryz.prog 37 1 ⟨K⟩=K 1 aa7:=qs (ti:=alW) (tf:=aa7) (fo:=(1,36)) (fs:=[(0,4),(1,36)]) aUL rfl rfl aBk
theorem aPd{K:Nat→Nat→Prop}:qu Tryz.prog [(0,4),(1,36)] 1 K=K 1 1:=qr (tf:=aa7) (fo:=(1,36)) (fs:=[(0,4),(1,36)]) rfl aBk
theorem aP6:∀f∈([(0,4),(1,36)]:List (Nat×Nat)),(qo Tryz.prog f.2).isSome=true:=by
 intro f hf
 simp only[List.mem_cons,List.not_mem_nil,or_false]at hf
 rcases hf with rfl|rfl
 ·rw[tf4];rfl
 ·rw[aBk];rfl
theorem bch{ps:List (Nat×AV)}{K:AV→Prop}:@zk Tryz.prog 37 ps ⟨K⟩=@zj (qu Tryz.prog [(0,4),(1,36)]) (zc alW) ps ⟨fun cs=>K (.ag cs)⟩:=qM aUL rfl aP6
theorem bdo{K:TI→Prop}:@tyW Tryz.prog 38 ⟨K⟩=K Xv:=qi asc
theorem aIF:Xv.kd=Kd.stru [(0,4),(1,36)]:=ID rfl
theorem atm:Xv.kd.agg=true:=ID rfl
theorem alU:Xv.size=2:=ID rfl
theorem agG:Xv.bytes=32:=ID rfl
theorem aID:qv Xv=True:=eq_true rfl
theorem aIE:zc Xv=[.v (Value.bool false),.v (Value.slice none 0 0)]:=ID rfl
theorem aMb{K:Nat→TI→Prop}:@qz Tryz.prog 38 0 ⟨K⟩=K 0 ti4:=qs (ti:=Xv) (tf:=ti4) (fo:=(0,4)) (fs:=[(0,4),(1,36)]) asc rfl rfl tf4
theorem aPc{K:Nat→Nat→Prop}:qu Tryz.prog [(0,4),(1,36)] 0 K=K 0 1:=qr (tf:=ti4) (fo:=(0,4)) (fs:=[(0,4),(1,36)]) rfl tf4
theorem aMa{K:Nat→TI→Prop}:@qz Tryz.prog 38 1 ⟨K⟩=K 1 aa7:=qs (ti:=Xv) (tf:=aa7) (fo:=(1,36)) (fs:=[(0,4),(1,36)]) asc rfl rfl aBk
theorem aPb{K:Nat→Nat→Prop}:qu Tryz.prog [(0,4),(1,36)] 1 K=K 1 1:=qr (tf:=aa7) (fo:=(1,36)) (fs:=[(0,4),(1,36)]) rfl aBk
theorem aP5:∀f∈([(0,4),(1,36)]:List (Nat×Nat)),(qo Tryz.prog f.2).isSome=true:=by
 intro f hf
 simp only[List.mem_cons,List.not_mem_nil,or_false]at hf
 rcases hf with rfl|rfl
 ·rw[tf4];rfl
 ·rw[aBk];rfl
theorem bcg{ps:List (Nat×AV)}{K:AV→Prop}:@zk Tryz.prog 38 ps ⟨K⟩=@zj (qu Tryz.prog [(0,4),(1,36)]) (zc Xv) ps ⟨fun cs=>K (.ag cs)⟩:=qM asc rfl aP5
theorem bdn{K:TI→Prop}:@tyW Tryz.prog 39 ⟨K⟩=K alT:=qi aUK
theorem aIC:alT.kd=Kd.stru [(0,38),(2,3)]:=ID rfl
theorem atl:alT.kd.agg=true:=ID rfl
theorem alS:alT.size=3:=ID rfl
theorem agF:alT.bytes=40:=ID rfl
theorem aIA:qv alT=True:=eq_true rfl
theorem aIB:zc alT=[.v (Value.bool false),.v (Value.slice none 0 0),.v (Value.int IntKind.i64 0)]:=ID rfl
theorem aL9{K:Nat→TI→Prop}:@qz Tryz.prog 39 0 ⟨K⟩=K 0 Xv:=qs (ti:=alT) (tf:=Xv) (fo:=(0,38)) (fs:=[(0,38),(2,3)]) aUK rfl rfl asc
theorem aPa{K:Nat→Nat→Prop}:qu Tryz.prog [(0,38),(2,3)] 0 K=K 0 2:=qr (tf:=Xv) (fo:=(0,38)) (fs:=[(0,38),(2,3)]) rfl asc
theorem aL8{K:Nat→TI→Prop}:@qz Tryz.prog 39 1 ⟨K⟩=K 2 ti3:=qs (ti:=alT) (tf:=ti3) (fo:=(2,3)) (fs:=[(0,38),(2,3)]) aUK rfl rfl tf3
theorem aO9{K:Nat→Nat→Prop}:qu Tryz.prog [(0,38),(2,3)] 1 K=K 2 1:=qr (tf:=ti3) (fo:=(2,3)) (fs:=[(0,38),(2,3)]) rfl tf3
theorem aP4:∀f∈([(0,38),(2,3)]:List (Nat×Nat)),(qo Tryz.prog f.2).isSome=true:=by
 intro f hf
 simp only[List.mem_cons,List.not_mem_nil,or_false]at hf
 rcases hf with rfl|rfl
 ·rw[asc];rfl
 ·rw[tf3];rfl
theorem bcf{ps:List (Nat×AV)}{K:AV→Prop}:@zk Tryz.prog 39 ps ⟨K⟩=@zj (qu Tryz.prog [(0,38),(2,3)]) (zc alT) ps ⟨fun cs=>K (.ag cs)⟩:=qM aUK rfl aP4
theorem bdm{K:TI→Prop}:@tyW Tryz.prog 40 ⟨K⟩=K Zo:=qi KT
theorem aIy:Zo.kd=Kd.stru [(0,38),(2,3)]:=ID rfl
theorem atj:Zo.kd.agg=true:=ID rfl
theorem alQ:Zo.size=3:=ID rfl
theorem agE:Zo.bytes=40:=ID rfl
theorem aIw:qv Zo=True:=eq_true rfl
theorem aIx:zc Zo=[.v (Value.bool false),.v (Value.slice none 0 0),.v (Value.int IntKind.i64 0)]:=ID rfl
theorem aL7{K:Nat→TI→Prop}:@qz Tryz.prog 40 0 ⟨K⟩=K 0 Xv:=qs (ti:=Zo) (tf:=Xv) (fo:=(0,38)) (fs:=[(0,38),(2,3)]) KT rfl rfl asc
theorem aO8{K:Nat→Nat→Prop}:qu Tryz.prog [(0,38),(2,3)] 0 K=K 0 2:=qr (tf:=Xv) (fo:=(0,38)) (fs:=[(0,38),(2,3)]) rfl asc
theorem aL6{K:Nat→TI→Prop}:@qz Tryz.prog 40 1 ⟨K⟩=K 2 ti3:=qs (ti:=Zo) (tf:=ti3) (fo:=(2,3)) (fs:=[(0,38),(2,3)]) KT rfl rfl tf3
theorem aO7{K:Nat→Nat→Prop}:qu Tryz.prog [(0,38),(2,3)] 1 K=K 2 1:=qr (tf:=ti3) (fo:=(2,3)) (fs:=[(0,38),(2,3)]) rfl tf3
theorem aP3:∀f∈([(0,38),(2,3)]:List (Nat×Nat)),(qo Tryz.prog f.2).isSome=true:=by
 intro f hf
 simp only[List.mem_cons,List.not_mem_nil,or_false]at hf
 rcases hf with rfl|rfl
 ·rw[asc];rfl
 ·rw[tf3];rfl
theorem bce{ps:List (Nat×AV)}{K:AV→Prop}:@zk Tryz.prog 40 ps ⟨K⟩=@zj (qu Tryz.prog [(0,38),(2,3)]) (zc Zo) ps ⟨fun cs=>K (.ag cs)⟩:=qM KT rfl aP3
theorem bdl{K:TI→Prop}:@tyW Tryz.prog 41 ⟨K⟩=K aFc:=qi beo
theorem aIv:aFc.kd=Kd.oth:=ID rfl
theorem ati:aFc.kd.agg=false:=ID rfl
theorem alP:aFc.size=1:=ID rfl
theorem agD:aFc.bytes=8:=ID rfl
theorem aIt:qv aFc=True:=eq_true rfl
theorem aIu:zc aFc=[.v Value.nilFunc]:=ID rfl
theorem bdk{K:TI→Prop}:@tyW Tryz.prog 42 ⟨K⟩=K aFb:=qi ben
theorem aIs:aFb.kd=Kd.oth:=ID rfl
theorem ath:aFb.kd.agg=false:=ID rfl
theorem alO:aFb.size=1:=ID rfl
theorem agC:aFb.bytes=8:=ID rfl
theorem aIq:qv aFb=True:=eq_true rfl
theorem aIr:zc aFb=[.v Value.nilFunc]:=ID rfl
theorem bdj{K:TI→Prop}:@tyW Tryz.prog 44 ⟨K⟩=K aFa:=qi bem
theorem aIp:aFa.kd=Kd.oth:=ID rfl
theorem atg:aFa.kd.agg=false:=ID rfl
theorem alN:aFa.size=1:=ID rfl
theorem agB:aFa.bytes=8:=ID rfl
theorem aIn:qv aFa=True:=eq_true rfl
theorem aIo:zc aFa=[.v Value.nilFunc]:=ID rfl
theorem bdi{K:TI→Prop}:@tyW Tryz.prog 46 ⟨K⟩=K aE9:=qi bel
theorem aIm:aE9.kd=Kd.oth:=ID rfl
theorem atf:aE9.kd.agg=false:=ID rfl
theorem alM:aE9.size=1:=ID rfl
theorem agA:aE9.bytes=8:=ID rfl
theorem aIk:qv aE9=True:=eq_true rfl
theorem aIl:zc aE9=[.v Value.nilFunc]:=ID rfl
theorem bdh{K:TI→Prop}:@tyW Tryz.prog 47 ⟨K⟩=K aE8:=qi bek
theorem aIj:aE8.kd=Kd.oth:=ID rfl
theorem ate:aE8.kd.agg=false:=ID rfl
theorem alL:aE8.size=1:=ID rfl
theorem agz:aE8.bytes=8:=ID rfl
theorem aIh:qv aE8=True:=eq_true rfl
theorem aIi:zc aE8=[.v Value.nilFunc]:=ID rfl
theorem bdg{K:TI→Prop}:@tyW Tryz.prog 48 ⟨K⟩=K aE7:=qi bej
theorem aIg:aE7.kd=Kd.oth:=ID rfl
theorem atd:aE7.kd.agg=false:=ID rfl
theorem alK:aE7.size=1:=ID rfl
theorem agy:aE7.bytes=8:=ID rfl
theorem aIe:qv aE7=True:=eq_true rfl
theorem aIf:zc aE7=[.v Value.nilFunc]:=ID rfl
theorem bdf{K:TI→Prop}:@tyW Tryz.prog 49 ⟨K⟩=K aE6:=qi bei
theorem aId:aE6.kd=Kd.oth:=ID rfl
theorem atc:aE6.kd.agg=false:=ID rfl
theorem alJ:aE6.size=1:=ID rfl
theorem agx:aE6.bytes=8:=ID rfl
theorem aIb:qv aE6=True:=eq_true rfl
theorem aIc:zc aE6=[.v Value.nilFunc]:=ID rfl
theorem bde{K:TI→Prop}:@tyW Tryz.prog 50 ⟨K⟩=K alH:=qi aUJ
theorem aH9:alH.kd=Kd.stru [(0,40),(3,40)]:=ID rfl
theorem ata:alH.kd.agg=true:=ID rfl
theorem alG:alH.size=6:=ID rfl
theorem agw:alH.bytes=80:=ID rfl
theorem aH7:qv alH=True:=eq_true rfl
theorem aH8:zc alH=[.v (Value.bool false),.v (Value.slice none 0 0),.v (Value.int IntKind.i64 0),.v (Value.bool false),.v (Value.slice none 0 0),.v (Value.int IntKind.i64 0)]:=ID rfl
theorem aL5{K:Nat→TI→Prop}:@qz Tryz.prog 50 0 ⟨K⟩=K 0 Zo:=qs (ti:=alH) (tf:=Zo) (fo:=(0,40)) (fs:=[(0,40),(3,40)]) aUJ rfl rfl KT
theorem aO6{K:Nat→Nat→Prop}:qu Tryz.prog [(0,40),(3,40)] 0 K=K 0 3:=qr (tf:=Zo) (fo:=(0,40)) (fs:=[(0,40),(3,40)]) rfl KT
theorem aL4{K:Nat→TI→Prop}:@qz Tryz.prog 50 1 ⟨K⟩=K 3 Zo:=qs (ti:=alH) (tf:=Zo) (fo:=(3,40)) (fs:=[(0,40),(3,40)]) aUJ rfl rfl KT
theorem aO5{K:Nat→Nat→Prop}:qu Tryz.prog [(0,40),(3,40)] 1 K=K 3 3:=qr (tf:=Zo) (fo:=(3,40)) (fs:=[(0,40),(3,40)]) rfl KT
theorem aP2:∀f∈([(0,40),(3,40)]:List (Nat×Nat)),(qo Tryz.prog f.2).isSome=true:=by
 intro f hf
 simp only[List.mem_cons,List.not_mem_nil,or_false]at hf
 rcases hf with rfl|rfl
 ·rw[KT];rfl
 ·rw[KT];rfl
theorem bcd{ps:List (Nat×AV)}{K:AV→Prop}:@zk Tryz.prog 50 ps ⟨K⟩=@zj (qu Tryz.prog [(0,40),(3,40)]) (zc alH) ps ⟨fun cs=>K (.ag cs)⟩:=qM aUJ rfl aP2
theorem bdd{K:TI→Prop}:@tyW Tryz.prog 51 ⟨K⟩=K akJ:=qi aOo
theorem aH6:akJ.kd=Kd.stru [(0,40),(3,40)]:=ID rfl
theorem as9:akJ.kd.agg=true:=ID rfl
theorem alD:akJ.size=6:=ID rfl
theorem agv:akJ.bytes=80:=ID rfl
theorem aH4:qv akJ=True:=eq_true rfl
theorem aH5:zc akJ=[.v (Value.bool false),.v (Value.slice none 0 0),.v (Value.int IntKind.i64 0),.v (Value.bool false),.v (Value.slice none 0 0),.v (Value.int IntKind.i64 0)]:=ID rfl
theorem aL3{K:Nat→TI→Prop}:@qz Tryz.prog 51 0 ⟨K⟩=K 0 Zo:=qs (ti:=akJ) (tf:=Zo) (fo:=(0,40)) (fs:=[(0,40),(3,40)]) aOo rfl rfl KT
theorem aO4{K:Nat→Nat→Prop}:qu Tryz.prog [(0,40),(3,40)] 0 K=K 0 3:=qr (tf:=Zo) (fo:=(0,40)) (fs:=[(0,40),(3,40)]) rfl KT
theorem aL2{K:Nat→TI→Prop}:@qz Tryz.prog 51 1 ⟨K⟩=K 3 Zo:=qs (ti:=akJ) (tf:=Zo) (fo:=(3,40)) (fs:=[(0,40),(3,40)]) aOo rfl rfl KT
theorem aO3{K:Nat→Nat→Prop}:qu Tryz.prog [(0,40),(3,40)] 1 K=K 3 3:=qr (tf:=Zo) (fo:=(3,40)) (fs:=[(0,40),(3,40)]) rfl KT
theorem aP1:∀f∈([(0,40),(3,40)]:List (Nat×Nat)),(qo Tryz.prog f.2).isSome=true:=by
 intro f hf
 simp only[List.mem_cons,List.not_mem_nil,or_false]at hf
 rcases hf with rfl|rfl
 ·rw[KT];rfl
 ·rw[KT];rfl
theorem bcc{ps:List (Nat×AV)}{K:AV→Prop}:@zk Tryz.prog 51 ps ⟨K⟩=@zj (qu Tryz.prog [(0,40),(3,40)]) (zc akJ) ps ⟨fun cs=>K (.ag cs)⟩:=qM aOo rfl aP1
theorem bdc{K:TI→Prop}:@tyW Tryz.prog 53 ⟨K⟩=K aE5:=qi beh
theorem aH3:aE5.kd=Kd.oth:=ID rfl
theorem as8:aE5.kd.agg=false:=ID rfl
theorem alC:aE5.size=1:=ID rfl
theorem agu:aE5.bytes=8:=ID rfl
theorem aH1:qv aE5=True:=eq_true rfl
theorem aH2:zc aE5=[.v Value.nilFunc]:=ID rfl
theorem bdb{K:TI→Prop}:@tyW Tryz.prog 55 ⟨K⟩=K aE4:=qi beg
theorem aH0:aE4.kd=Kd.oth:=ID rfl
theorem as7:aE4.kd.agg=false:=ID rfl
theorem alB:aE4.size=1:=ID rfl
theorem agt:aE4.bytes=8:=ID rfl
theorem aHY:qv aE4=True:=eq_true rfl
theorem aHZ:zc aE4=[.v Value.nilFunc]:=ID rfl
theorem bda{K:TI→Prop}:@tyW Tryz.prog 56 ⟨K⟩=K aE3:=qi bef
theorem aHX:aE3.kd=Kd.oth:=ID rfl
theorem as6:aE3.kd.agg=false:=ID rfl
theorem alz:aE3.size=1:=ID rfl
theorem ags:aE3.bytes=8:=ID rfl
theorem aHV:qv aE3=True:=eq_true rfl
theorem aHW:zc aE3=[.v Value.nilFunc]:=ID rfl
theorem bc9{K:TI→Prop}:@tyW Tryz.prog 57 ⟨K⟩=K aE2:=qi bee
theorem aHU:aE2.kd=Kd.oth:=ID rfl
theorem as5:aE2.kd.agg=false:=ID rfl
theorem aly:aE2.size=1:=ID rfl
theorem agr:aE2.bytes=8:=ID rfl
theorem aHS:qv aE2=True:=eq_true rfl
theorem aHT:zc aE2=[.v Value.nilFunc]:=ID rfl
theorem bc8{K:TI→Prop}:@tyW Tryz.prog 58 ⟨K⟩=K aE1:=qi bed
theorem aHR:aE1.kd=Kd.oth:=ID rfl
theorem as4:aE1.kd.agg=false:=ID rfl
theorem alx:aE1.size=1:=ID rfl
theorem agq:aE1.bytes=8:=ID rfl
theorem aHP:qv aE1=True:=eq_true rfl
theorem aHQ:zc aE1=[.v Value.nilFunc]:=ID rfl
theorem bc7{K:TI→Prop}:@tyW Tryz.prog 60 ⟨K⟩=K aE0:=qi bec
theorem aHN:aE0.kd=Kd.oth:=ID rfl
theorem as2:aE0.kd.agg=false:=ID rfl
theorem alv:aE0.size=1:=ID rfl
theorem agp:aE0.bytes=8:=ID rfl
theorem aHL:qv aE0=True:=eq_true rfl
theorem aHM:zc aE0=[.v Value.nilFunc]:=ID rfl
theorem bc6{K:TI→Prop}:@tyW Tryz.prog 61 ⟨K⟩=K aEZ:=qi beb
theorem aHK:aEZ.kd=Kd.oth:=ID rfl
theorem as1:aEZ.kd.agg=false:=ID rfl
theorem alu:aEZ.size=1:=ID rfl
theorem ago:aEZ.bytes=8:=ID rfl
theorem aHI:qv aEZ=True:=eq_true rfl
theorem aHJ:zc aEZ=[.v Value.nilFunc]:=ID rfl
theorem bc5{K:TI→Prop}:@tyW Tryz.prog 62 ⟨K⟩=K aEY:=qi bea
theorem aHH:aEY.kd=Kd.oth:=ID rfl
theorem as0:aEY.kd.agg=false:=ID rfl
theorem alt:aEY.size=1:=ID rfl
theorem agn:aEY.bytes=8:=ID rfl
theorem aHF:qv aEY=True:=eq_true rfl
theorem aHG:zc aEY=[.v Value.nilFunc]:=ID rfl
theorem bc4{K:TI→Prop}:@tyW Tryz.prog 63 ⟨K⟩=K aEX:=qi bd9
theorem aHE:aEX.kd=Kd.oth:=ID rfl
theorem asZ:aEX.kd.agg=false:=ID rfl
theorem als:aEX.size=1:=ID rfl
theorem agm:aEX.bytes=8:=ID rfl
theorem aHC:qv aEX=True:=eq_true rfl
theorem aHD:zc aEX=[.v Value.nilFunc]:=ID rfl
theorem bc3{K:TI→Prop}:@tyW Tryz.prog 64 ⟨K⟩=K aEW:=qi bd8
theorem aHB:aEW.kd=Kd.oth:=ID rfl
theorem asY:aEW.kd.agg=false:=ID rfl
theorem alr:aEW.size=1:=ID rfl
theorem agl:aEW.bytes=8:=ID rfl
theorem aHz:qv aEW=True:=eq_true rfl
theorem aHA:zc aEW=[.v Value.nilFunc]:=ID rfl
theorem bc2{K:TI→Prop}:@tyW Tryz.prog 65 ⟨K⟩=K aEV:=qi bd7
theorem aHy:aEV.kd=Kd.oth:=ID rfl
theorem asX:aEV.kd.agg=false:=ID rfl
theorem alq:aEV.size=1:=ID rfl
theorem agk:aEV.bytes=8:=ID rfl
theorem aHw:qv aEV=True:=eq_true rfl
theorem aHx:zc aEV=[.v Value.nilFunc]:=ID rfl
theorem bc1{K:TI→Prop}:@tyW Tryz.prog 66 ⟨K⟩=K aEU:=qi bd6
theorem aHv:aEU.kd=Kd.oth:=ID rfl
theorem asW:aEU.kd.agg=false:=ID rfl
theorem alp:aEU.size=1:=ID rfl
theorem agj:aEU.bytes=8:=ID rfl
theorem aHt:qv aEU=True:=eq_true rfl
theorem aHu:zc aEU=[.v Value.nilFunc]:=ID rfl
theorem bc0{K:TI→Prop}:@tyW Tryz.prog 68 ⟨K⟩=K aET:=qi bd5
theorem aHs:aET.kd=Kd.oth:=ID rfl
theorem asV:aET.kd.agg=false:=ID rfl
theorem alo:aET.size=1:=ID rfl
theorem agi:aET.bytes=8:=ID rfl
theorem aHq:qv aET=True:=eq_true rfl
theorem aHr:zc aET=[.v Value.nilFunc]:=ID rfl
theorem bcZ{K:TI→Prop}:@tyW Tryz.prog 69 ⟨K⟩=K ae8:=qi aFn
theorem aHp:ae8.kd=Kd.sli 51:=ID rfl
theorem asU:ae8.kd.agg=false:=ID rfl
theorem aln:ae8.size=1:=ID rfl
theorem agh:ae8.bytes=24:=ID rfl
theorem aHn:qv ae8=True:=eq_true rfl
theorem aHo:zc ae8=[.v (Value.slice none 0 0)]:=ID rfl
theorem aZM{K:TI→Prop}:@yV Tryz.prog 69 ⟨K⟩=K akJ:=ZM aFn rfl aOo
theorem bcY{K:TI→Prop}:@tyW Tryz.prog 71 ⟨K⟩=K aES:=qi bd4
theorem aHl:aES.kd=Kd.oth:=ID rfl
theorem asS:aES.kd.agg=false:=ID rfl
theorem alk:aES.size=1:=ID rfl
theorem agf:aES.bytes=8:=ID rfl
theorem aHj:qv aES=True:=eq_true rfl
theorem aHk:zc aES=[.v Value.nilFunc]:=ID rfl
theorem bcX{K:TI→Prop}:@tyW Tryz.prog 73 ⟨K⟩=K aER:=qi bd0
theorem aHi:aER.kd=Kd.oth:=ID rfl
theorem asR:aER.kd.agg=false:=ID rfl
theorem alj:aER.size=1:=ID rfl
theorem age:aER.bytes=8:=ID rfl
theorem aHg:qv aER=True:=eq_true rfl
theorem aHh:zc aER=[.v Value.nilFunc]:=ID rfl
theorem bcW{K:TI→Prop}:@tyW Tryz.prog 74 ⟨K⟩=K aEQ:=qi bdZ
theorem aHf:aEQ.kd=Kd.oth:=ID rfl
theorem asQ:aEQ.kd.agg=false:=ID rfl
theorem ali:aEQ.size=1:=ID rfl
theorem agd:aEQ.bytes=8:=ID rfl
theorem aHd:qv aEQ=True:=eq_true rfl
theorem aHe:zc aEQ=[.v Value.nilFunc]:=ID rfl
theorem bcV{K:TI→Prop}:@tyW Tryz.prog 75 ⟨K⟩=K aEP:=qi bdY
theorem aHc:aEP.kd=Kd.oth:=ID rfl
theorem asP:aEP.kd.agg=false:=ID rfl
theorem alh:aEP.size=1:=ID rfl
theorem agc:aEP.bytes=8:=ID rfl
theorem aHa:qv aEP=True:=eq_true rfl
theorem aHb:zc aEP=[.v Value.nilFunc]:=ID rfl
theorem bcU{K:TI→Prop}:@tyW Tryz.prog 77 ⟨K⟩=K aEO:=qi bdX
theorem aG9:aEO.kd=Kd.oth:=ID rfl
theorem asO:aEO.kd.agg=false:=ID rfl
theorem alg:aEO.size=1:=ID rfl
theorem agb:aEO.bytes=8:=ID rfl
theorem aG7:qv aEO=True:=eq_true rfl
theorem aG8:zc aEO=[.v Value.nilFunc]:=ID rfl
theorem bcT{K:TI→Prop}:@tyW Tryz.prog 79 ⟨K⟩=K aEN:=qi bdW
theorem aG6:aEN.kd=Kd.oth:=ID rfl
theorem asN:aEN.kd.agg=false:=ID rfl
theorem alf:aEN.size=1:=ID rfl
theorem aga:aEN.bytes=8:=ID rfl
theorem aG4:qv aEN=True:=eq_true rfl
theorem aG5:zc aEN=[.v Value.nilFunc]:=ID rfl
theorem bcS{K:TI→Prop}:@tyW Tryz.prog 80 ⟨K⟩=K aEM:=qi bdV
theorem aG2:aEM.kd=Kd.oth:=ID rfl
theorem asL:aEM.kd.agg=false:=ID rfl
theorem ald:aEM.size=1:=ID rfl
theorem af9:aEM.bytes=8:=ID rfl
theorem aG0:qv aEM=True:=eq_true rfl
theorem aG1:zc aEM=[.v Value.nilFunc]:=ID rfl
theorem bcR{K:TI→Prop}:@tyW Tryz.prog 81 ⟨K⟩=K alc:=qi aUI
theorem aGZ:alc.kd=Kd.stru [(0,3),(1,69)]:=ID rfl
theorem asK:alc.kd.agg=true:=ID rfl
theorem alb:alc.size=2:=ID rfl
theorem af8:alc.bytes=32:=ID rfl
theorem aGX:qv alc=True:=eq_true rfl
theorem aGY:zc alc=[.v (Value.int IntKind.i64 0),.v (Value.slice none 0 0)]:=ID rfl
theorem aL1{K:Nat→TI→Prop}:@qz Tryz.prog 81 0 ⟨K⟩=K 0 ti3:=qs (ti:=alc) (tf:=ti3) (fo:=(0,3)) (fs:=[(0,3),(1,69)]) aUI rfl rfl tf3
theorem aO2{K:Nat→Nat→Prop}:qu Tryz.prog [(0,3),(1,69)] 0 K=K 0 1:=qr (tf:=ti3) (fo:=(0,3)) (fs:=[(0,3),(1,69)]) rfl tf3
theorem aL0{K:Nat→TI→Prop}:@qz Tryz.prog 81 1 ⟨K⟩=K 1 ae8:=qs (ti:=alc) (tf:=ae8) (fo:=(1,69)) (fs:=[(0,3),(1,69)]) aUI rfl rfl aFn
theorem aO1{K:Nat→Nat→Prop}:qu Tryz.prog [(0,3),(1,69)] 1 K=K 1 1:=qr (tf:=ae8) (fo:=(1,69)) (fs:=[(0,3),(1,69)]) rfl aFn
theorem aP0:∀f∈([(0,3),(1,69)]:List (Nat×Nat)),(qo Tryz.prog f.2).isSome=true:=by
 intro f hf
 simp only[List.mem_cons,List.not_mem_nil,or_false]at hf
 rcases hf with rfl|rfl
 ·rw[tf3];rfl
 ·rw[aFn];rfl
theorem bcb{ps:List (Nat×AV)}{K:AV→Prop}:@zk Tryz.prog 81 ps ⟨K⟩=@zj (qu Tryz.prog [(0,3),(1,69)]) (zc alc) ps ⟨fun cs=>K (.ag cs)⟩:=qM aUI rfl aP0
theorem bcQ{K:TI→Prop}:@tyW Tryz.prog 82 ⟨K⟩=K ala:=qi aUH
theorem aGW:ala.kd=Kd.stru [(0,3),(1,69)]:=ID rfl
theorem asJ:ala.kd.agg=true:=ID rfl
theorem ak9:ala.size=2:=ID rfl
theorem af7:ala.bytes=32:=ID rfl
theorem aGU:qv ala=True:=eq_true rfl
theorem aGV:zc ala=[.v (Value.int IntKind.i64 0),.v (Value.slice none 0 0)]:=ID rfl
theorem aLZ{K:Nat→TI→Prop}:@qz Tryz.prog 82 0 ⟨K⟩=K 0 ti3:=qs (ti:=ala) (tf:=ti3) (fo:=(0,3)) (fs:=[(0,3),(1,69)]) aUH rfl rfl tf3
theorem aO0{K:Nat→Nat→Prop}:qu Tryz.prog [(0,3),(1,69)] 0 K=K 0 1:=qr (tf:=ti3) (fo:=(0,3)) (fs:=[(0,3),(1,69)]) rfl tf3
theorem aLY{K:Nat→TI→Prop}:@qz Tryz.prog 82 1 ⟨K⟩=K 1 ae8:=qs (ti:=ala) (tf:=ae8) (fo:=(1,69)) (fs:=[(0,3),(1,69)]) aUH rfl rfl aFn
theorem aOZ{K:Nat→Nat→Prop}:qu Tryz.prog [(0,3),(1,69)] 1 K=K 1 1:=qr (tf:=ae8) (fo:=(1,69)) (fs:=[(0,3),(1,69)]) rfl aFn
theorem aPZ:∀f∈([(0,3),(1,69)]:List (Nat×Nat)),(qo Tryz.prog f.2).isSome=true:=by
 intro f hf
 simp only[List.mem_cons,List.not_mem_nil,or_false]at hf
 rcases hf with rfl|rfl
 ·rw[tf3];rfl
 ·rw[aFn];rfl
theorem bca{ps:List (Nat×AV)}{K:AV→Prop}:@zk Tryz.prog 82 ps ⟨K⟩=@zj (qu Tryz.prog [(0,3),(1,69)]) (zc ala) ps ⟨fun cs=>K (.ag cs)⟩:=qM aUH rfl aPZ
theorem bcP{K:TI→Prop}:@tyW Tryz.prog 84 ⟨K⟩=K aEL:=qi bdU
theorem aGT:aEL.kd=Kd.oth:=ID rfl
theorem asI:aEL.kd.agg=false:=ID rfl
theorem ak8:aEL.size=1:=ID rfl
theorem af6:aEL.bytes=8:=ID rfl
theorem aGR:qv aEL=True:=eq_true rfl
theorem aGS:zc aEL=[.v Value.nilFunc]:=ID rfl
theorem bcO{K:TI→Prop}:@tyW Tryz.prog 86 ⟨K⟩=K aEK:=qi bdT
theorem aGQ:aEK.kd=Kd.oth:=ID rfl
theorem asH:aEK.kd.agg=false:=ID rfl
theorem ak7:aEK.size=1:=ID rfl
theorem af5:aEK.bytes=8:=ID rfl
theorem aGO:qv aEK=True:=eq_true rfl
theorem aGP:zc aEK=[.v Value.nilFunc]:=ID rfl
theorem bcN{K:TI→Prop}:@tyW Tryz.prog 87 ⟨K⟩=K aEJ:=qi bdS
theorem aGN:aEJ.kd=Kd.oth:=ID rfl
theorem asG:aEJ.kd.agg=false:=ID rfl
theorem ak6:aEJ.size=1:=ID rfl
theorem af4:aEJ.bytes=8:=ID rfl
theorem aGL:qv aEJ=True:=eq_true rfl
theorem aGM:zc aEJ=[.v Value.nilFunc]:=ID rfl
theorem bcM{K:TI→Prop}:@tyW Tryz.prog 88 ⟨K⟩=K aEI:=qi bdR
theorem aGK:aEI.kd=Kd.oth:=ID rfl
theorem asF:aEI.kd.agg=false:=ID rfl
theorem ak5:aEI.size=1:=ID rfl
theorem af3:aEI.bytes=8:=ID rfl
theorem aGI:qv aEI=True:=eq_true rfl
theorem aGJ:zc aEI=[.v Value.nilFunc]:=ID rfl
theorem bcL{K:TI→Prop}:@tyW Tryz.prog 89 ⟨K⟩=K aEH:=qi bdQ
theorem aGH:aEH.kd=Kd.oth:=ID rfl
theorem asE:aEH.kd.agg=false:=ID rfl
theorem ak4:aEH.size=1:=ID rfl
theorem af2:aEH.bytes=8:=ID rfl
theorem aGF:qv aEH=True:=eq_true rfl
theorem aGG:zc aEH=[.v Value.nilFunc]:=ID rfl
theorem bcK{K:TI→Prop}:@tyW Tryz.prog 91 ⟨K⟩=K aEG:=qi bdP
theorem aGD:aEG.kd=Kd.oth:=ID rfl
theorem asC:aEG.kd.agg=false:=ID rfl
theorem ak2:aEG.size=1:=ID rfl
theorem af1:aEG.bytes=8:=ID rfl
theorem aGB:qv aEG=True:=eq_true rfl
theorem aGC:zc aEG=[.v Value.nilFunc]:=ID rfl
theorem bcJ{K:TI→Prop}:@tyW Tryz.prog 92 ⟨K⟩=K aEF:=qi bdO
theorem aGA:aEF.kd=Kd.oth:=ID rfl
theorem asB:aEF.kd.agg=false:=ID rfl
theorem ak1:aEF.size=1:=ID rfl
theorem af0:aEF.bytes=8:=ID rfl
theorem aGy:qv aEF=True:=eq_true rfl
theorem aGz:zc aEF=[.v Value.nilFunc]:=ID rfl
theorem bcI{K:TI→Prop}:@tyW Tryz.prog 93 ⟨K⟩=K aEE:=qi bdN
theorem aGx:aEE.kd=Kd.oth:=ID rfl
theorem asA:aEE.kd.agg=false:=ID rfl
theorem ak0:aEE.size=1:=ID rfl
theorem afZ:aEE.bytes=8:=ID rfl
theorem aGv:qv aEE=True:=eq_true rfl
theorem aGw:zc aEE=[.v Value.nilFunc]:=ID rfl
theorem bcH{K:TI→Prop}:@tyW Tryz.prog 94 ⟨K⟩=K aED:=qi bdM
theorem aGu:aED.kd=Kd.oth:=ID rfl
theorem asz:aED.kd.agg=false:=ID rfl
theorem akZ:aED.size=1:=ID rfl
theorem afY:aED.bytes=8:=ID rfl
theorem aGs:qv aED=True:=eq_true rfl
theorem aGt:zc aED=[.v Value.nilFunc]:=ID rfl
theorem bcG{K:TI→Prop}:@tyW Tryz.prog 96 ⟨K⟩=K aEC:=qi bdL
theorem aGr:aEC.kd=Kd.oth:=ID rfl
theorem asy:aEC.kd.agg=false:=ID rfl
theorem akY:aEC.size=1:=ID rfl
theorem afX:aEC.bytes=8:=ID rfl
theorem aGp:qv aEC=True:=eq_true rfl
theorem aGq:zc aEC=[.v Value.nilFunc]:=ID rfl
theorem bcF{K:TI→Prop}:@tyW Tryz.prog 97 ⟨K⟩=K aEB:=qi bdK
theorem aGo:aEB.kd=Kd.oth:=ID rfl
theorem asx:aEB.kd.agg=false:=ID rfl
theorem akX:aEB.size=1:=ID rfl
theorem afW:aEB.bytes=8:=ID rfl
theorem aGm:qv aEB=True:=eq_true rfl
theorem aGn:zc aEB=[.v Value.nilFunc]:=ID rfl
theorem bcE{K:TI→Prop}:@tyW Tryz.prog 98 ⟨K⟩=K aEA:=qi bdJ
theorem aGl:aEA.kd=Kd.oth:=ID rfl
theorem asw:aEA.kd.agg=false:=ID rfl
theorem akW:aEA.size=1:=ID rfl
theorem afV:aEA.bytes=8:=ID rfl
theorem aGj:qv aEA=True:=eq_true rfl
theorem aGk:zc aEA=[.v Value.nilFunc]:=ID rfl
theorem bcD{K:TI→Prop}:@tyW Tryz.prog 99 ⟨K⟩=K aEz:=qi bdI
theorem aGi:aEz.kd=Kd.oth:=ID rfl
theorem asv:aEz.kd.agg=false:=ID rfl
theorem akV:aEz.size=1:=ID rfl
theorem afU:aEz.bytes=8:=ID rfl
theorem aGg:qv aEz=True:=eq_true rfl
theorem aGh:zc aEz=[.v Value.nilFunc]:=ID rfl
theorem aXn{K:TI→Prop}:@tyW Tryz.prog 100 ⟨K⟩=K KQ:=qi aZH
theorem aBg:KQ.kd=Kd.oth:=ID rfl
theorem aoP:KQ.kd.agg=false:=ID rfl
theorem aju:KQ.size=1:=ID rfl
theorem adO:KQ.bytes=8:=ID rfl
theorem aBe:qv KQ=True:=eq_true rfl
theorem aBf:zc KQ=[.v Value.nilFunc]:=ID rfl
theorem aXm{K:TI→Prop}:@tyW Tryz.prog 101 ⟨K⟩=K KP:=qi aZG
theorem aBd:KP.kd=Kd.oth:=ID rfl
theorem aoO:KP.kd.agg=false:=ID rfl
theorem ajt:KP.size=1:=ID rfl
theorem adN:KP.bytes=8:=ID rfl
theorem aBb:qv KP=True:=eq_true rfl
theorem aBc:zc KP=[.v Value.nilFunc]:=ID rfl
theorem aXl{K:TI→Prop}:@tyW Tryz.prog 102 ⟨K⟩=K KO:=qi aZF
theorem aBa:KO.kd=Kd.oth:=ID rfl
theorem aoN:KO.kd.agg=false:=ID rfl
theorem ajs:KO.size=1:=ID rfl
theorem adL:KO.bytes=8:=ID rfl
theorem aA8:qv KO=True:=eq_true rfl
theorem aA9:zc KO=[.v Value.nilFunc]:=ID rfl
theorem aXk{K:TI→Prop}:@tyW Tryz.prog 103 ⟨K⟩=K KN:=qi aZE
theorem aA7:KN.kd=Kd.oth:=ID rfl
theorem aoM:KN.kd.agg=false:=ID rfl
theorem ajr:KN.size=1:=ID rfl
theorem adK:KN.bytes=8:=ID rfl
theorem aA5:qv KN=True:=eq_true rfl
theorem aA6:zc KN=[.v Value.nilFunc]:=ID rfl
theorem aXj{K:TI→Prop}:@tyW Tryz.prog 105 ⟨K⟩=K KM:=qi aZD
theorem aA4:KM.kd=Kd.oth:=ID rfl
theorem aoL:KM.kd.agg=false:=ID rfl
theorem ajq:KM.size=1:=ID rfl
theorem adJ:KM.bytes=8:=ID rfl
theorem aA2:qv KM=True:=eq_true rfl
theorem aA3:zc KM=[.v Value.nilFunc]:=ID rfl
theorem aXi{K:TI→Prop}:@tyW Tryz.prog 106 ⟨K⟩=K KL:=qi aZC
theorem aA1:KL.kd=Kd.oth:=ID rfl
theorem aoK:KL.kd.agg=false:=ID rfl
theorem ajp:KL.size=1:=ID rfl
theorem adI:KL.bytes=8:=ID rfl
theorem aAZ:qv KL=True:=eq_true rfl
theorem aA0:zc KL=[.v Value.nilFunc]:=ID rfl
theorem aXh{K:TI→Prop}:@tyW Tryz.prog 107 ⟨K⟩=K KK:=qi aZB
theorem aAY:KK.kd=Kd.oth:=ID rfl
theorem aoJ:KK.kd.agg=false:=ID rfl
theorem ajo:KK.size=1:=ID rfl
theorem adH:KK.bytes=8:=ID rfl
theorem aAW:qv KK=True:=eq_true rfl
theorem aAX:zc KK=[.v Value.nilFunc]:=ID rfl
theorem aXg{K:TI→Prop}:@tyW Tryz.prog 108 ⟨K⟩=K KJ:=qi aZA
theorem aAV:KJ.kd=Kd.oth:=ID rfl
theorem aoI:KJ.kd.agg=false:=ID rfl
theorem ajn:KJ.size=1:=ID rfl
theorem adG:KJ.bytes=8:=ID rfl
theorem aAT:qv KJ=True:=eq_true rfl
theorem aAU:zc KJ=[.v Value.nilFunc]:=ID rfl
theorem aXf{K:TI→Prop}:@tyW Tryz.prog 109 ⟨K⟩=K KI:=qi aZz
theorem aAS:KI.kd=Kd.oth:=ID rfl
theorem aoH:KI.kd.agg=false:=ID rfl
theorem ajm:KI.size=1:=ID rfl
theorem adF:KI.bytes=8:=ID rfl
theorem aAQ:qv KI=True:=eq_true rfl
theorem aAR:zc KI=[.v Value.nilFunc]:=ID rfl
theorem aXe{K:TI→Prop}:@tyW Tryz.prog 110 ⟨K⟩=K KH:=qi aZy
theorem aAO:KH.kd=Kd.oth:=ID rfl
theorem aoF:KH.kd.agg=false:=ID rfl
theorem ajk:KH.size=1:=ID rfl
theorem adE:KH.bytes=8:=ID rfl
theorem aAM:qv KH=True:=eq_true rfl
theorem aAN:zc KH=[.v Value.nilFunc]:=ID rfl
theorem aXd{K:TI→Prop}:@tyW Tryz.prog 111 ⟨K⟩=K y5:=qi Yr
theorem aAL:y5.kd=Kd.sli 118:=ID rfl
theorem aoE:y5.kd.agg=false:=ID rfl
theorem ajj:y5.size=1:=ID rfl
theorem adD:y5.bytes=24:=ID rfl
theorem aAJ:qv y5=True:=eq_true rfl
theorem aAK:zc y5=[.v (Value.slice none 0 0)]:=ID rfl
theorem aOI{K:TI→Prop}:@yV Tryz.prog 111 ⟨K⟩=K jf:=ZM Yr rfl yg
theorem aXc{K:TI→Prop}:@tyW Tryz.prog 112 ⟨K⟩=K ZG:=qi aBp
theorem aAI:ZG.kd=Kd.stru [(0,3),(1,111)]:=ID rfl
theorem aoD:ZG.kd.agg=true:=ID rfl
theorem aji:ZG.size=2:=ID rfl
theorem adC:ZG.bytes=32:=ID rfl
theorem aAG:qv ZG=True:=eq_true rfl
theorem aAH:zc ZG=[.v (Value.int IntKind.i64 0),.v (Value.slice none 0 0)]:=ID rfl
theorem aDk{K:Nat→TI→Prop}:@qz Tryz.prog 112 0 ⟨K⟩=K 0 ti3:=qs (ti:=ZG) (tf:=ti3) (fo:=(0,3)) (fs:=[(0,3),(1,111)]) aBp rfl rfl tf3
theorem aKw{K:Nat→Nat→Prop}:qu Tryz.prog [(0,3),(1,111)] 0 K=K 0 1:=qr (tf:=ti3) (fo:=(0,3)) (fs:=[(0,3),(1,111)]) rfl tf3
theorem aDj{K:Nat→TI→Prop}:@qz Tryz.prog 112 1 ⟨K⟩=K 1 y5:=qs (ti:=ZG) (tf:=y5) (fo:=(1,111)) (fs:=[(0,3),(1,111)]) aBp rfl rfl Yr
theorem aKv{K:Nat→Nat→Prop}:qu Tryz.prog [(0,3),(1,111)] 1 K=K 1 1:=qr (tf:=y5) (fo:=(1,111)) (fs:=[(0,3),(1,111)]) rfl Yr
theorem aLS:∀f∈([(0,3),(1,111)]:List (Nat×Nat)),(qo Tryz.prog f.2).isSome=true:=by
 intro f hf
 simp only[List.mem_cons,List.not_mem_nil,or_false]at hf
 rcases hf with rfl|rfl
 ·rw[tf3];rfl
 ·rw[Yr];rfl
theorem aUd{ps:List (Nat×AV)}{K:AV→Prop}:@zk Tryz.prog 112 ps ⟨K⟩=@zj (qu Tryz.prog [(0,3),(1,111)]) (zc ZG) ps ⟨fun cs=>K (.ag cs)⟩:=qM aBp rfl aLS
theorem aXb{K:TI→Prop}:@tyW Tryz.prog 113 ⟨K⟩=K ZF:=qi aBo
theorem aAF:ZF.kd=Kd.stru [(0,3),(1,111)]:=ID rfl
theorem aoC:ZF.kd.agg=true:=ID rfl
theorem ajh:ZF.size=2:=ID rfl
theorem adB:ZF.bytes=32:=ID rfl
theorem aAD:qv ZF=True:=eq_true rfl
theorem aAE:zc ZF=[.v (Value.int IntKind.i64 0),.v (Value.slice none 0 0)]:=ID rfl
theorem aDi{K:Nat→TI→Prop}:@qz Tryz.prog 113 0 ⟨K⟩=K 0 ti3:=qs (ti:=ZF) (tf:=ti3) (fo:=(0,3)) (fs:=[(0,3),(1,111)]) aBo rfl rfl tf3
theorem aKu{K:Nat→Nat→Prop}:qu Tryz.prog [(0,3),(1,111)] 0 K=K 0 1:=qr (tf:=ti3) (fo:=(0,3)) (fs:=[(0,3),(1,111)]) rfl tf3
theorem aDh{K:Nat→TI→Prop}:@qz Tryz.prog 113 1 ⟨K⟩=K 1 y5:=qs (ti:=ZF) (tf:=y5) (fo:=(1,111)) (fs:=[(0,3),(1,111)]) aBo rfl rfl Yr
theorem aKt{K:Nat→Nat→Prop}:qu Tryz.prog [(0,3),(1,111)] 1 K=K 1 1:=qr (tf:=y5) (fo:=(1,111)) (fs:=[(0,3),(1,111)]) rfl Yr
theorem aLR:∀f∈([(0,3),(1,111)]:List (Nat×Nat)),(qo Tryz.prog f.2).isSome=true:=by
 intro f hf
 simp only[List.mem_cons,List.not_mem_nil,or_false]at hf
 rcases hf with rfl|rfl
 ·rw[tf3];rfl
 ·rw[Yr];rfl
theorem aUc{ps:List (Nat×AV)}{K:AV→Prop}:@zk Tryz.prog 113 ps ⟨K⟩=@zj (qu Tryz.prog [(0,3),(1,111)]) (zc ZF) ps ⟨fun cs=>K (.ag cs)⟩:=qM aBo rfl aLR
theorem aXa{K:TI→Prop}:@tyW Tryz.prog 114 ⟨K⟩=K KG:=qi aZx
theorem aAC:KG.kd=Kd.oth:=ID rfl
theorem aoB:KG.kd.agg=false:=ID rfl
theorem ajg:KG.size=1:=ID rfl
theorem adA:KG.bytes=8:=ID rfl
theorem aAA:qv KG=True:=eq_true rfl
theorem aAB:zc KG=[.v Value.nilFunc]:=ID rfl
theorem aW9{K:TI→Prop}:@tyW Tryz.prog 115 ⟨K⟩=K KF:=qi aZw
theorem aAz:KF.kd=Kd.oth:=ID rfl
theorem aoA:KF.kd.agg=false:=ID rfl
theorem ajf:KF.size=1:=ID rfl
theorem adz:KF.bytes=8:=ID rfl
theorem aAx:qv KF=True:=eq_true rfl
theorem aAy:zc KF=[.v Value.nilFunc]:=ID rfl
theorem aW8{K:TI→Prop}:@tyW Tryz.prog 116 ⟨K⟩=K KE:=qi aZv
theorem aAw:KE.kd=Kd.oth:=ID rfl
theorem aoz:KE.kd.agg=false:=ID rfl
theorem aje:KE.size=1:=ID rfl
theorem ady:KE.bytes=8:=ID rfl
theorem aAu:qv KE=True:=eq_true rfl
theorem aAv:zc KE=[.v Value.nilFunc]:=ID rfl
theorem aW7{K:TI→Prop}:@tyW Tryz.prog 117 ⟨K⟩=K Zg:=qi aoV
theorem aAt:Zg.kd=Kd.stru [(0,4),(1,34),(2,3)]:=ID rfl
theorem aoy:Zg.kd.agg=true:=ID rfl
theorem ajd:Zg.size=3:=ID rfl
theorem adx:Zg.bytes=40:=ID rfl
theorem aAr:qv Zg=True:=eq_true rfl
theorem aAs:zc Zg=[.v (Value.bool false),.v (Value.slice none 0 0),.v (Value.int IntKind.i64 0)]:=ID rfl
theorem aDg{K:Nat→TI→Prop}:@qz Tryz.prog 117 0 ⟨K⟩=K 0 ti4:=qs (ti:=Zg) (tf:=ti4) (fo:=(0,4)) (fs:=[(0,4),(1,34),(2,3)]) aoV rfl rfl tf4
theorem aKs{K:Nat→Nat→Prop}:qu Tryz.prog [(0,4),(1,34),(2,3)] 0 K=K 0 1:=qr (tf:=ti4) (fo:=(0,4)) (fs:=[(0,4),(1,34),(2,3)]) rfl tf4
theorem aDf{K:Nat→TI→Prop}:@qz Tryz.prog 117 1 ⟨K⟩=K 1 JM:=qs (ti:=Zg) (tf:=JM) (fo:=(1,34)) (fs:=[(0,4),(1,34),(2,3)]) aoV rfl rfl afb
theorem aKr{K:Nat→Nat→Prop}:qu Tryz.prog [(0,4),(1,34),(2,3)] 1 K=K 1 1:=qr (tf:=JM) (fo:=(1,34)) (fs:=[(0,4),(1,34),(2,3)]) rfl afb
theorem aDe{K:Nat→TI→Prop}:@qz Tryz.prog 117 2 ⟨K⟩=K 2 ti3:=qs (ti:=Zg) (tf:=ti3) (fo:=(2,3)) (fs:=[(0,4),(1,34),(2,3)]) aoV rfl rfl tf3
theorem aKq{K:Nat→Nat→Prop}:qu Tryz.prog [(0,4),(1,34),(2,3)] 2 K=K 2 1:=qr (tf:=ti3) (fo:=(2,3)) (fs:=[(0,4),(1,34),(2,3)]) rfl tf3
theorem aLQ:∀f∈([(0,4),(1,34),(2,3)]:List (Nat×Nat)),(qo Tryz.prog f.2).isSome=true:=by
 intro f hf
 simp only[List.mem_cons,List.not_mem_nil,or_false]at hf
 rcases hf with rfl|rfl|rfl
 ·rw[tf4];rfl
 ·rw[afb];rfl
 ·rw[tf3];rfl
theorem aUb{ps:List (Nat×AV)}{K:AV→Prop}:@zk Tryz.prog 117 ps ⟨K⟩=@zj (qu Tryz.prog [(0,4),(1,34),(2,3)]) (zc Zg) ps ⟨fun cs=>K (.ag cs)⟩:=qM aoV rfl aLQ
theorem aW6{K:TI→Prop}:@tyW Tryz.prog 118 ⟨K⟩=K jf:=qi yg
theorem aAq:jf.kd=Kd.stru [(0,4),(1,34),(2,3)]:=ID rfl
theorem aox:jf.kd.agg=true:=ID rfl
theorem ajc:jf.size=3:=ID rfl
theorem adw:jf.bytes=40:=ID rfl
theorem aAo:qv jf=True:=eq_true rfl
theorem aAp:zc jf=[.v (Value.bool false),.v (Value.slice none 0 0),.v (Value.int IntKind.i64 0)]:=ID rfl
theorem aDd{K:Nat→TI→Prop}:@qz Tryz.prog 118 0 ⟨K⟩=K 0 ti4:=qs (ti:=jf) (tf:=ti4) (fo:=(0,4)) (fs:=[(0,4),(1,34),(2,3)]) yg rfl rfl tf4
theorem aKp{K:Nat→Nat→Prop}:qu Tryz.prog [(0,4),(1,34),(2,3)] 0 K=K 0 1:=qr (tf:=ti4) (fo:=(0,4)) (fs:=[(0,4),(1,34),(2,3)]) rfl tf4
theorem aDc{K:Nat→TI→Prop}:@qz Tryz.prog 118 1 ⟨K⟩=K 1 JM:=qs (ti:=jf) (tf:=JM) (fo:=(1,34)) (fs:=[(0,4),(1,34),(2,3)]) yg rfl rfl afb
theorem aKo{K:Nat→Nat→Prop}:qu Tryz.prog [(0,4),(1,34),(2,3)] 1 K=K 1 1:=qr (tf:=JM) (fo:=(1,34)) (fs:=[(0,4),(1,34),(2,3)]) rfl afb
theorem aDb{K:Nat→TI→Prop}:@qz Tryz.prog 118 2 ⟨K⟩=K 2 ti3:=qs (ti:=jf) (tf:=ti3) (fo:=(2,3)) (fs:=[(0,4),(1,34),(2,3)]) yg rfl rfl tf3
theorem aKn{K:Nat→Nat→Prop}:qu Tryz.prog [(0,4),(1,34),(2,3)] 2 K=K 2 1:=qr (tf:=ti3) (fo:=(2,3)) (fs:=[(0,4),(1,34),(2,3)]) rfl tf3
theorem aLP:∀f∈([(0,4),(1,34),(2,3)]:List (Nat×Nat)),(qo Tryz.prog f.2).isSome=true:=by
 intro f hf
 simp only[List.mem_cons,List.not_mem_nil,or_false]at hf
 rcases hf with rfl|rfl|rfl
 ·rw[tf4];rfl
 ·rw[afb];rfl
 ·rw[tf3];rfl
theorem aUa{ps:List (Nat×AV)}{K:AV→Prop}:@zk Tryz.prog 118 ps ⟨K⟩=@zj (qu Tryz.prog [(0,4),(1,34),(2,3)]) (zc jf) ps ⟨fun cs=>K (.ag cs)⟩:=qM yg rfl aLP
theorem aW5{K:TI→Prop}:@tyW Tryz.prog 119 ⟨K⟩=K KD:=qi aZu
theorem aAn:KD.kd=Kd.oth:=ID rfl
theorem aow:KD.kd.agg=false:=ID rfl
theorem ajb:KD.size=1:=ID rfl
theorem adv:KD.bytes=8:=ID rfl
theorem aAl:qv KD=True:=eq_true rfl
theorem aAm:zc KD=[.v Value.nilFunc]:=ID rfl
theorem aW4{K:TI→Prop}:@tyW Tryz.prog 120 ⟨K⟩=K KC:=qi aZt
theorem aAj:KC.kd=Kd.oth:=ID rfl
theorem aou:KC.kd.agg=false:=ID rfl
theorem ai9:KC.size=1:=ID rfl
theorem adu:KC.bytes=8:=ID rfl
theorem aAh:qv KC=True:=eq_true rfl
theorem aAi:zc KC=[.v Value.nilFunc]:=ID rfl
theorem aW3{K:TI→Prop}:@tyW Tryz.prog 121 ⟨K⟩=K KB:=qi aZs
theorem aAg:KB.kd=Kd.oth:=ID rfl
theorem aot:KB.kd.agg=false:=ID rfl
theorem ai8:KB.size=1:=ID rfl
theorem adt:KB.bytes=8:=ID rfl
theorem aAe:qv KB=True:=eq_true rfl
theorem aAf:zc KB=[.v Value.nilFunc]:=ID rfl
theorem aW2{K:TI→Prop}:@tyW Tryz.prog 122 ⟨K⟩=K KA:=qi aZr
theorem aAd:KA.kd=Kd.oth:=ID rfl
theorem aos:KA.kd.agg=false:=ID rfl
theorem ai7:KA.size=1:=ID rfl
theorem ads:KA.bytes=8:=ID rfl
theorem aAb:qv KA=True:=eq_true rfl
theorem aAc:zc KA=[.v Value.nilFunc]:=ID rfl
theorem aW1{K:TI→Prop}:@tyW Tryz.prog 123 ⟨K⟩=K Kz:=qi aZq
theorem aAa:Kz.kd=Kd.oth:=ID rfl
theorem aor:Kz.kd.agg=false:=ID rfl
theorem ai6:Kz.size=1:=ID rfl
theorem adr:Kz.bytes=8:=ID rfl
theorem az8:qv Kz=True:=eq_true rfl
theorem az9:zc Kz=[.v Value.nilFunc]:=ID rfl
theorem aW0{K:TI→Prop}:@tyW Tryz.prog 124 ⟨K⟩=K Ky:=qi aZp
theorem az7:Ky.kd=Kd.oth:=ID rfl
theorem aoq:Ky.kd.agg=false:=ID rfl
theorem ai5:Ky.size=1:=ID rfl
theorem adq:Ky.bytes=8:=ID rfl
theorem az5:qv Ky=True:=eq_true rfl
theorem az6:zc Ky=[.v Value.nilFunc]:=ID rfl
theorem aWZ{K:TI→Prop}:@tyW Tryz.prog 125 ⟨K⟩=K Kx:=qi aZo
theorem az4:Kx.kd=Kd.oth:=ID rfl
theorem aop:Kx.kd.agg=false:=ID rfl
theorem ai4:Kx.size=1:=ID rfl
theorem adp:Kx.bytes=8:=ID rfl
theorem az2:qv Kx=True:=eq_true rfl
theorem az3:zc Kx=[.v Value.nilFunc]:=ID rfl
theorem aWY{K:TI→Prop}:@tyW Tryz.prog 126 ⟨K⟩=K Kw:=qi aZn
theorem az1:Kw.kd=Kd.oth:=ID rfl
theorem aoo:Kw.kd.agg=false:=ID rfl
theorem ai3:Kw.size=1:=ID rfl
theorem ado:Kw.bytes=8:=ID rfl
theorem azZ:qv Kw=True:=eq_true rfl
theorem az0:zc Kw=[.v Value.nilFunc]:=ID rfl
theorem aWX{K:TI→Prop}:@tyW Tryz.prog 127 ⟨K⟩=K Kv:=qi aZm
theorem azY:Kv.kd=Kd.oth:=ID rfl
theorem aon:Kv.kd.agg=false:=ID rfl
theorem ai2:Kv.size=1:=ID rfl
theorem adn:Kv.bytes=8:=ID rfl
theorem azW:qv Kv=True:=eq_true rfl
theorem azX:zc Kv=[.v Value.nilFunc]:=ID rfl
theorem aWW{K:TI→Prop}:@tyW Tryz.prog 128 ⟨K⟩=K Ku:=qi aZl
theorem azV:Ku.kd=Kd.oth:=ID rfl
theorem aom:Ku.kd.agg=false:=ID rfl
theorem ai1:Ku.size=1:=ID rfl
theorem adm:Ku.bytes=8:=ID rfl
theorem azT:qv Ku=True:=eq_true rfl
theorem azU:zc Ku=[.v Value.nilFunc]:=ID rfl
theorem aWV{K:TI→Prop}:@tyW Tryz.prog 129 ⟨K⟩=K Kt:=qi aZk
theorem azS:Kt.kd=Kd.oth:=ID rfl
theorem aol:Kt.kd.agg=false:=ID rfl
theorem ai0:Kt.size=1:=ID rfl
theorem adl:Kt.bytes=8:=ID rfl
theorem azQ:qv Kt=True:=eq_true rfl
theorem azR:zc Kt=[.v Value.nilFunc]:=ID rfl
theorem aWU{K:TI→Prop}:@tyW Tryz.prog 130 ⟨K⟩=K Ks:=qi aZj
theorem azO:Ks.kd=Kd.oth:=ID rfl
theorem aoj:Ks.kd.agg=false:=ID rfl
theorem aiY:Ks.size=1:=ID rfl
theorem adk:Ks.bytes=8:=ID rfl
theorem azM:qv Ks=True:=eq_true rfl
theorem azN:zc Ks=[.v Value.nilFunc]:=ID rfl
theorem aWT{K:TI→Prop}:@tyW Tryz.prog 131 ⟨K⟩=K Kr:=qi aZi
theorem azL:Kr.kd=Kd.oth:=ID rfl
theorem aoi:Kr.kd.agg=false:=ID rfl
theorem aiX:Kr.size=1:=ID rfl
theorem adj:Kr.bytes=8:=ID rfl
theorem azJ:qv Kr=True:=eq_true rfl
theorem azK:zc Kr=[.v Value.nilFunc]:=ID rfl
theorem aWS{K:TI→Prop}:@tyW Tryz.prog 132 ⟨K⟩=K ZE:=qi aBn
theorem azI:ZE.kd=Kd.stru [(0,118),(3,118)]:=ID rfl
theorem aoh:ZE.kd.agg=true:=ID rfl
theorem aiW:ZE.size=6:=ID rfl
theorem adi:ZE.bytes=80:=ID rfl
theorem azG:qv ZE=True:=eq_true rfl
theorem azH:zc ZE=[.v (Value.bool false),.v (Value.slice none 0 0),.v (Value.int IntKind.i64 0),.v (Value.bool false),.v (Value.slice none 0 0),.v (Value.int IntKind.i64 0)]:=ID rfl
theorem aDa{K:Nat→TI→Prop}:@qz Tryz.prog 132 0 ⟨K⟩=K 0 jf:=qs (ti:=ZE) (tf:=jf) (fo:=(0,118)) (fs:=[(0,118),(3,118)]) aBn rfl rfl yg
theorem aKm{K:Nat→Nat→Prop}:qu Tryz.prog [(0,118),(3,118)] 0 K=K 0 3:=qr (tf:=jf) (fo:=(0,118)) (fs:=[(0,118),(3,118)]) rfl yg
theorem aC9{K:Nat→TI→Prop}:@qz Tryz.prog 132 1 ⟨K⟩=K 3 jf:=qs (ti:=ZE) (tf:=jf) (fo:=(3,118)) (fs:=[(0,118),(3,118)]) aBn rfl rfl yg
theorem aKl{K:Nat→Nat→Prop}:qu Tryz.prog [(0,118),(3,118)] 1 K=K 3 3:=qr (tf:=jf) (fo:=(3,118)) (fs:=[(0,118),(3,118)]) rfl yg
theorem aLO:∀f∈([(0,118),(3,118)]:List (Nat×Nat)),(qo Tryz.prog f.2).isSome=true:=by
 intro f hf
 simp only[List.mem_cons,List.not_mem_nil,or_false]at hf
 rcases hf with rfl|rfl
 ·rw[yg];rfl
 ·rw[yg];rfl
theorem aT9{ps:List (Nat×AV)}{K:AV→Prop}:@zk Tryz.prog 132 ps ⟨K⟩=@zj (qu Tryz.prog [(0,118),(3,118)]) (zc ZE) ps ⟨fun cs=>K (.ag cs)⟩:=qM aBn rfl aLO
theorem aWR{K:TI→Prop}:@tyW Tryz.prog 133 ⟨K⟩=K Zf:=qi aoU
theorem azF:Zf.kd=Kd.stru [(0,118),(3,118)]:=ID rfl
theorem aog:Zf.kd.agg=true:=ID rfl
theorem aiV:Zf.size=6:=ID rfl
theorem adh:Zf.bytes=80:=ID rfl
theorem azD:qv Zf=True:=eq_true rfl
theorem azE:zc Zf=[.v (Value.bool false),.v (Value.slice none 0 0),.v (Value.int IntKind.i64 0),.v (Value.bool false),.v (Value.slice none 0 0),.v (Value.int IntKind.i64 0)]:=ID rfl
theorem aC8{K:Nat→TI→Prop}:@qz Tryz.prog 133 0 ⟨K⟩=K 0 jf:=qs (ti:=Zf) (tf:=jf) (fo:=(0,118)) (fs:=[(0,118),(3,118)]) aoU rfl rfl yg
theorem aKk{K:Nat→Nat→Prop}:qu Tryz.prog [(0,118),(3,118)] 0 K=K 0 3:=qr (tf:=jf) (fo:=(0,118)) (fs:=[(0,118),(3,118)]) rfl yg
theorem aC7{K:Nat→TI→Prop}:@qz Tryz.prog 133 1 ⟨K⟩=K 3 jf:=qs (ti:=Zf) (tf:=jf) (fo:=(3,118)) (fs:=[(0,118),(3,118)]) aoU rfl rfl yg
theorem aKj{K:Nat→Nat→Prop}:qu Tryz.prog [(0,118),(3,118)] 1 K=K 3 3:=qr (tf:=jf) (fo:=(3,118)) (fs:=[(0,118),(3,118)]) rfl yg
theorem aLN:∀f∈([(0,118),(3,118)]:List (Nat×Nat)),(qo Tryz.prog f.2).isSome=true:=by
 intro f hf
 simp only[List.mem_cons,List.not_mem_nil,or_false]at hf
 rcases hf with rfl|rfl
 ·rw[yg];rfl
 ·rw[yg];rfl
theorem aT8{ps:List (Nat×AV)}{K:AV→Prop}:@zk Tryz.prog 133 ps ⟨K⟩=@zj (qu Tryz.prog [(0,118),(3,118)]) (zc Zf) ps ⟨fun cs=>K (.ag cs)⟩:=qM aoU rfl aLN
theorem aWQ{K:TI→Prop}:@tyW Tryz.prog 134 ⟨K⟩=K Kq:=qi aZh
theorem azC:Kq.kd=Kd.oth:=ID rfl
theorem aof:Kq.kd.agg=false:=ID rfl
theorem aiU:Kq.size=1:=ID rfl
theorem adg:Kq.bytes=8:=ID rfl
theorem azA:qv Kq=True:=eq_true rfl
theorem azB:zc Kq=[.v Value.nilFunc]:=ID rfl
theorem aWP{K:TI→Prop}:@tyW Tryz.prog 135 ⟨K⟩=K Kp:=qi aZg
theorem azz:Kp.kd=Kd.oth:=ID rfl
theorem aoe:Kp.kd.agg=false:=ID rfl
theorem aiT:Kp.size=1:=ID rfl
theorem adf:Kp.bytes=8:=ID rfl
theorem azx:qv Kp=True:=eq_true rfl
theorem azy:zc Kp=[.v Value.nilFunc]:=ID rfl
theorem aWO{K:TI→Prop}:@tyW Tryz.prog 136 ⟨K⟩=K Ko:=qi aZf
theorem azw:Ko.kd=Kd.oth:=ID rfl
theorem aod:Ko.kd.agg=false:=ID rfl
theorem aiS:Ko.size=1:=ID rfl
theorem ade:Ko.bytes=8:=ID rfl
theorem azu:qv Ko=True:=eq_true rfl
theorem azv:zc Ko=[.v Value.nilFunc]:=ID rfl
theorem aWN{K:TI→Prop}:@tyW Tryz.prog 137 ⟨K⟩=K Kn:=qi aZe
theorem azt:Kn.kd=Kd.oth:=ID rfl
theorem aoc:Kn.kd.agg=false:=ID rfl
theorem aiR:Kn.size=1:=ID rfl
theorem adc:Kn.bytes=8:=ID rfl
theorem azr:qv Kn=True:=eq_true rfl
theorem azs:zc Kn=[.v Value.nilFunc]:=ID rfl
theorem aWM{K:TI→Prop}:@tyW Tryz.prog 138 ⟨K⟩=K Km:=qi aZd
theorem azq:Km.kd=Kd.oth:=ID rfl
theorem aob:Km.kd.agg=false:=ID rfl
theorem aiQ:Km.size=1:=ID rfl
theorem adb:Km.bytes=8:=ID rfl
theorem azo:qv Km=True:=eq_true rfl
theorem azp:zc Km=[.v Value.nilFunc]:=ID rfl
theorem aWL{K:TI→Prop}:@tyW Tryz.prog 139 ⟨K⟩=K Kl:=qi aZc
theorem azn:Kl.kd=Kd.oth:=ID rfl
theorem aoa:Kl.kd.agg=false:=ID rfl
theorem aiP:Kl.size=1:=ID rfl
theorem ada:Kl.bytes=8:=ID rfl
theorem azl:qv Kl=True:=eq_true rfl
theorem azm:zc Kl=[.v Value.nilFunc]:=ID rfl
theorem aWK{K:TI→Prop}:@tyW Tryz.prog 140 ⟨K⟩=K Kk:=qi aZb
theorem azk:Kk.kd=Kd.oth:=ID rfl
theorem an9:Kk.kd.agg=false:=ID rfl
theorem aiO:Kk.size=1:=ID rfl
theorem ac9:Kk.bytes=8:=ID rfl
theorem azi:qv Kk=True:=eq_true rfl
theorem azj:zc Kk=[.v Value.nilFunc]:=ID rfl
theorem aWJ{K:TI→Prop}:@tyW Tryz.prog 142 ⟨K⟩=K Kj:=qi aZa
theorem azh:Kj.kd=Kd.oth:=ID rfl
theorem an8:Kj.kd.agg=false:=ID rfl
theorem aiN:Kj.size=1:=ID rfl
theorem ac8:Kj.bytes=8:=ID rfl
theorem azf:qv Kj=True:=eq_true rfl
theorem azg:zc Kj=[.v Value.nilFunc]:=ID rfl
theorem aWI{K:TI→Prop}:@tyW Tryz.prog 143 ⟨K⟩=K Ki:=qi aY9
theorem aze:Ki.kd=Kd.oth:=ID rfl
theorem an7:Ki.kd.agg=false:=ID rfl
theorem aiM:Ki.size=1:=ID rfl
theorem ac7:Ki.bytes=8:=ID rfl
theorem azc:qv Ki=True:=eq_true rfl
theorem azd:zc Ki=[.v Value.nilFunc]:=ID rfl
theorem aWH{K:TI→Prop}:@tyW Tryz.prog 144 ⟨K⟩=K Kh:=qi aY8
theorem azb:Kh.kd=Kd.oth:=ID rfl
theorem an6:Kh.kd.agg=false:=ID rfl
theorem aiL:Kh.size=1:=ID rfl
theorem ac6:Kh.bytes=8:=ID rfl
theorem ay9:qv Kh=True:=eq_true rfl
theorem aza:zc Kh=[.v Value.nilFunc]:=ID rfl
theorem aWG{K:TI→Prop}:@tyW Tryz.prog 145 ⟨K⟩=K Kg:=qi aY7
theorem ay8:Kg.kd=Kd.oth:=ID rfl
theorem an5:Kg.kd.agg=false:=ID rfl
theorem aiK:Kg.size=1:=ID rfl
theorem ac5:Kg.bytes=8:=ID rfl
theorem ay6:qv Kg=True:=eq_true rfl
theorem ay7:zc Kg=[.v Value.nilFunc]:=ID rfl
theorem aWF{K:TI→Prop}:@tyW Tryz.prog 146 ⟨K⟩=K Kf:=qi aY6
theorem ay5:Kf.kd=Kd.oth:=ID rfl
theorem an4:Kf.kd.agg=false:=ID rfl
theorem aiJ:Kf.size=1:=ID rfl
theorem ac4:Kf.bytes=8:=ID rfl
theorem ay3:qv Kf=True:=eq_true rfl
theorem ay4:zc Kf=[.v Value.nilFunc]:=ID rfl
theorem aWE{K:TI→Prop}:@tyW Tryz.prog 147 ⟨K⟩=K Ke:=qi aY5
theorem ay2:Ke.kd=Kd.oth:=ID rfl
theorem an3:Ke.kd.agg=false:=ID rfl
theorem aiI:Ke.size=1:=ID rfl
theorem ac3:Ke.bytes=8:=ID rfl
theorem ay0:qv Ke=True:=eq_true rfl
theorem ay1:zc Ke=[.v Value.nilFunc]:=ID rfl
theorem aWD{K:TI→Prop}:@tyW Tryz.prog 148 ⟨K⟩=K Kc:=qi aY4
theorem ayZ:Kc.kd=Kd.oth:=ID rfl
theorem an2:Kc.kd.agg=false:=ID rfl
theorem aiH:Kc.size=1:=ID rfl
theorem ac2:Kc.bytes=8:=ID rfl
theorem ayX:qv Kc=True:=eq_true rfl
theorem ayY:zc Kc=[.v Value.nilFunc]:=ID rfl
theorem aWC{K:TI→Prop}:@tyW Tryz.prog 149 ⟨K⟩=K Kb:=qi aY3
theorem ayW:Kb.kd=Kd.oth:=ID rfl
theorem an1:Kb.kd.agg=false:=ID rfl
theorem aiG:Kb.size=1:=ID rfl
theorem ac1:Kb.bytes=8:=ID rfl
theorem ayU:qv Kb=True:=eq_true rfl
theorem ayV:zc Kb=[.v Value.nilFunc]:=ID rfl
theorem aWB{K:TI→Prop}:@tyW Tryz.prog 151 ⟨K⟩=K Ka:=qi aY2
theorem ayT:Ka.kd=Kd.oth:=ID rfl
theorem an0:Ka.kd.agg=false:=ID rfl
theorem aiF:Ka.size=1:=ID rfl
theorem ac0:Ka.bytes=8:=ID rfl
theorem ayR:qv Ka=True:=eq_true rfl
theorem ayS:zc Ka=[.v Value.nilFunc]:=ID rfl
theorem aWA{K:TI→Prop}:@tyW Tryz.prog 152 ⟨K⟩=K V9:=qi aY1
theorem ayQ:V9.kd=Kd.oth:=ID rfl
theorem anZ:V9.kd.agg=false:=ID rfl
theorem aiE:V9.size=1:=ID rfl
theorem acZ:V9.bytes=8:=ID rfl
theorem ayO:qv V9=True:=eq_true rfl
theorem ayP:zc V9=[.v Value.nilFunc]:=ID rfl
theorem aWz{K:TI→Prop}:@tyW Tryz.prog 153 ⟨K⟩=K Qj:=qi KU
theorem ayN:Qj.kd=Kd.sli 133:=ID rfl
theorem anY:Qj.kd.agg=false:=ID rfl
theorem aiD:Qj.size=1:=ID rfl
theorem acY:Qj.bytes=24:=ID rfl
theorem ayL:qv Qj=True:=eq_true rfl
theorem ayM:zc Qj=[.v (Value.slice none 0 0)]:=ID rfl
theorem aOH{K:TI→Prop}:@yV Tryz.prog 153 ⟨K⟩=K Zf:=ZM KU rfl aoU
theorem aWy{K:TI→Prop}:@tyW Tryz.prog 154 ⟨K⟩=K ZD:=qi aBm
theorem ayK:ZD.kd=Kd.stru [(0,3),(1,153)]:=ID rfl
theorem anX:ZD.kd.agg=true:=ID rfl
theorem aiC:ZD.size=2:=ID rfl
theorem acX:ZD.bytes=32:=ID rfl
theorem ayI:qv ZD=True:=eq_true rfl
theorem ayJ:zc ZD=[.v (Value.int IntKind.i64 0),.v (Value.slice none 0 0)]:=ID rfl
theorem aC6{K:Nat→TI→Prop}:@qz Tryz.prog 154 0 ⟨K⟩=K 0 ti3:=qs (ti:=ZD) (tf:=ti3) (fo:=(0,3)) (fs:=[(0,3),(1,153)]) aBm rfl rfl tf3
theorem aKi{K:Nat→Nat→Prop}:qu Tryz.prog [(0,3),(1,153)] 0 K=K 0 1:=qr (tf:=ti3) (fo:=(0,3)) (fs:=[(0,3),(1,153)]) rfl tf3
theorem aC5{K:Nat→TI→Prop}:@qz Tryz.prog 154 1 ⟨K⟩=K 1 Qj:=qs (ti:=ZD) (tf:=Qj) (fo:=(1,153)) (fs:=[(0,3),(1,153)]) aBm rfl rfl KU
theorem aKh{K:Nat→Nat→Prop}:qu Tryz.prog [(0,3),(1,153)] 1 K=K 1 1:=qr (tf:=Qj) (fo:=(1,153)) (fs:=[(0,3),(1,153)]) rfl KU
theorem aLM:∀f∈([(0,3),(1,153)]:List (Nat×Nat)),(qo Tryz.prog f.2).isSome=true:=by
 intro f hf
 simp only[List.mem_cons,List.not_mem_nil,or_false]at hf
 rcases hf with rfl|rfl
 ·rw[tf3];rfl
 ·rw[KU];rfl
theorem aT7{ps:List (Nat×AV)}{K:AV→Prop}:@zk Tryz.prog 154 ps ⟨K⟩=@zj (qu Tryz.prog [(0,3),(1,153)]) (zc ZD) ps ⟨fun cs=>K (.ag cs)⟩:=qM aBm rfl aLM
theorem aWx{K:TI→Prop}:@tyW Tryz.prog 155 ⟨K⟩=K ZC:=qi aBl
theorem ayH:ZC.kd=Kd.stru [(0,3),(1,153)]:=ID rfl
theorem anW:ZC.kd.agg=true:=ID rfl
theorem aiB:ZC.size=2:=ID rfl
theorem acW:ZC.bytes=32:=ID rfl
theorem ayF:qv ZC=True:=eq_true rfl
theorem ayG:zc ZC=[.v (Value.int IntKind.i64 0),.v (Value.slice none 0 0)]:=ID rfl
theorem aC4{K:Nat→TI→Prop}:@qz Tryz.prog 155 0 ⟨K⟩=K 0 ti3:=qs (ti:=ZC) (tf:=ti3) (fo:=(0,3)) (fs:=[(0,3),(1,153)]) aBl rfl rfl tf3
theorem aKg{K:Nat→Nat→Prop}:qu Tryz.prog [(0,3),(1,153)] 0 K=K 0 1:=qr (tf:=ti3) (fo:=(0,3)) (fs:=[(0,3),(1,153)]) rfl tf3
theorem aC3{K:Nat→TI→Prop}:@qz Tryz.prog 155 1 ⟨K⟩=K 1 Qj:=qs (ti:=ZC) (tf:=Qj) (fo:=(1,153)) (fs:=[(0,3),(1,153)]) aBl rfl rfl KU
theorem aKf{K:Nat→Nat→Prop}:qu Tryz.prog [(0,3),(1,153)] 1 K=K 1 1:=qr (tf:=Qj) (fo:=(1,153)) (fs:=[(0,3),(1,153)]) rfl KU
theorem aLL:∀f∈([(0,3),(1,153)]:List (Nat×Nat)),(qo Tryz.prog f.2).isSome=true:=by
 intro f hf
 simp only[List.mem_cons,List.not_mem_nil,or_false]at hf
 rcases hf with rfl|rfl
 ·rw[tf3];rfl
 ·rw[KU];rfl
theorem aT6{ps:List (Nat×AV)}{K:AV→Prop}:@zk Tryz.prog 155 ps ⟨K⟩=@zj (qu Tryz.prog [(0,3),(1,153)]) (zc ZC) ps ⟨fun cs=>K (.ag cs)⟩:=qM aBl rfl aLL
theorem aWw{K:TI→Prop}:@tyW Tryz.prog 156 ⟨K⟩=K V8:=qi aY0
theorem ayE:V8.kd=Kd.oth:=ID rfl
theorem anV:V8.kd.agg=false:=ID rfl
theorem aiA:V8.size=1:=ID rfl
theorem acV:V8.bytes=8:=ID rfl
theorem ayC:qv V8=True:=eq_true rfl
theorem ayD:zc V8=[.v Value.nilFunc]:=ID rfl
theorem aWv{K:TI→Prop}:@tyW Tryz.prog 157 ⟨K⟩=K V7:=qi aYZ
theorem ayB:V7.kd=Kd.oth:=ID rfl
theorem anU:V7.kd.agg=false:=ID rfl
theorem aiz:V7.size=1:=ID rfl
theorem acU:V7.bytes=8:=ID rfl
theorem ayz:qv V7=True:=eq_true rfl
theorem ayA:zc V7=[.v Value.nilFunc]:=ID rfl
theorem aWu{K:TI→Prop}:@tyW Tryz.prog 158 ⟨K⟩=K V6:=qi aYY
theorem ayy:V6.kd=Kd.oth:=ID rfl
theorem anT:V6.kd.agg=false:=ID rfl
theorem aiy:V6.size=1:=ID rfl
theorem acT:V6.bytes=8:=ID rfl
theorem ayw:qv V6=True:=eq_true rfl
theorem ayx:zc V6=[.v Value.nilFunc]:=ID rfl
theorem aWt{K:TI→Prop}:@tyW Tryz.prog 159 ⟨K⟩=K V5:=qi aYX
theorem ayv:V5.kd=Kd.oth:=ID rfl
theorem anS:V5.kd.agg=false:=ID rfl
theorem aix:V5.size=1:=ID rfl
theorem acS:V5.bytes=8:=ID rfl
theorem ayt:qv V5=True:=eq_true rfl
theorem ayu:zc V5=[.v Value.nilFunc]:=ID rfl
theorem aWs{K:TI→Prop}:@tyW Tryz.prog 160 ⟨K⟩=K V4:=qi aYW
theorem ays:V4.kd=Kd.oth:=ID rfl
theorem anR:V4.kd.agg=false:=ID rfl
theorem aiw:V4.size=1:=ID rfl
theorem acR:V4.bytes=8:=ID rfl
theorem ayq:qv V4=True:=eq_true rfl
theorem ayr:zc V4=[.v Value.nilFunc]:=ID rfl
theorem aWr{K:TI→Prop}:@tyW Tryz.prog 161 ⟨K⟩=K V3:=qi aYV
theorem ayp:V3.kd=Kd.oth:=ID rfl
theorem anQ:V3.kd.agg=false:=ID rfl
theorem aiv:V3.size=1:=ID rfl
theorem acQ:V3.bytes=8:=ID rfl
theorem ayn:qv V3=True:=eq_true rfl
theorem ayo:zc V3=[.v Value.nilFunc]:=ID rfl
theorem aWq{K:TI→Prop}:@tyW Tryz.prog 163 ⟨K⟩=K V2:=qi aYU
theorem aym:V2.kd=Kd.oth:=ID rfl
theorem anP:V2.kd.agg=false:=ID rfl
theorem aiu:V2.size=1:=ID rfl
theorem acP:V2.bytes=8:=ID rfl
theorem ayk:qv V2=True:=eq_true rfl
theorem ayl:zc V2=[.v Value.nilFunc]:=ID rfl
theorem aWp{K:TI→Prop}:@tyW Tryz.prog 164 ⟨K⟩=K V1:=qi aYT
theorem ayj:V1.kd=Kd.oth:=ID rfl
theorem anO:V1.kd.agg=false:=ID rfl
theorem ait:V1.size=1:=ID rfl
theorem acO:V1.bytes=8:=ID rfl
theorem ayh:qv V1=True:=eq_true rfl
theorem ayi:zc V1=[.v Value.nilFunc]:=ID rfl
theorem aWo{K:TI→Prop}:@tyW Tryz.prog 165 ⟨K⟩=K V0:=qi aYS
theorem ayg:V0.kd=Kd.oth:=ID rfl
theorem anN:V0.kd.agg=false:=ID rfl
theorem ais:V0.size=1:=ID rfl
theorem acN:V0.bytes=8:=ID rfl
theorem aye:qv V0=True:=eq_true rfl
theorem ayf:zc V0=[.v Value.nilFunc]:=ID rfl
theorem aWn{K:TI→Prop}:@tyW Tryz.prog 166 ⟨K⟩=K VZ:=qi aYR
theorem ayd:VZ.kd=Kd.oth:=ID rfl
theorem anM:VZ.kd.agg=false:=ID rfl
theorem air:VZ.size=1:=ID rfl
theorem acM:VZ.bytes=8:=ID rfl
theorem ayb:qv VZ=True:=eq_true rfl
theorem ayc:zc VZ=[.v Value.nilFunc]:=ID rfl
theorem aWm{K:TI→Prop}:@tyW Tryz.prog 167 ⟨K⟩=K VY:=qi aYQ
theorem aya:VY.kd=Kd.oth:=ID rfl
theorem anL:VY.kd.agg=false:=ID rfl
theorem aiq:VY.size=1:=ID rfl
theorem acL:VY.bytes=8:=ID rfl
theorem ax8:qv VY=True:=eq_true rfl
theorem ax9:zc VY=[.v Value.nilFunc]:=ID rfl
theorem aWl{K:TI→Prop}:@tyW Tryz.prog 168 ⟨K⟩=K VX:=qi aYP
theorem ax7:VX.kd=Kd.oth:=ID rfl
theorem anK:VX.kd.agg=false:=ID rfl
theorem aip:VX.size=1:=ID rfl
theorem acK:VX.bytes=8:=ID rfl
theorem ax5:qv VX=True:=eq_true rfl
theorem ax6:zc VX=[.v Value.nilFunc]:=ID rfl
theorem aWk{K:TI→Prop}:@tyW Tryz.prog 169 ⟨K⟩=K VW:=qi aYO
theorem ax4:VW.kd=Kd.oth:=ID rfl
theorem anJ:VW.kd.agg=false:=ID rfl
theorem aio:VW.size=1:=ID rfl
theorem acJ:VW.bytes=8:=ID rfl
theorem ax2:qv VW=True:=eq_true rfl
theorem ax3:zc VW=[.v Value.nilFunc]:=ID rfl
theorem aWj{K:TI→Prop}:@tyW Tryz.prog 170 ⟨K⟩=K VV:=qi aYN
theorem ax1:VV.kd=Kd.oth:=ID rfl
theorem anI:VV.kd.agg=false:=ID rfl
theorem ain:VV.size=1:=ID rfl
theorem acI:VV.bytes=8:=ID rfl
theorem axZ:qv VV=True:=eq_true rfl
theorem ax0:zc VV=[.v Value.nilFunc]:=ID rfl
theorem aWi{K:TI→Prop}:@tyW Tryz.prog 171 ⟨K⟩=K VU:=qi aYM
theorem axY:VU.kd=Kd.oth:=ID rfl
theorem anH:VU.kd.agg=false:=ID rfl
theorem aim:VU.size=1:=ID rfl
theorem acH:VU.bytes=8:=ID rfl
theorem axW:qv VU=True:=eq_true rfl
theorem axX:zc VU=[.v Value.nilFunc]:=ID rfl
theorem aWh{K:TI→Prop}:@tyW Tryz.prog 173 ⟨K⟩=K VT:=qi aYL
theorem axV:VT.kd=Kd.oth:=ID rfl
theorem anG:VT.kd.agg=false:=ID rfl
theorem ail:VT.size=1:=ID rfl
theorem acG:VT.bytes=8:=ID rfl
theorem axT:qv VT=True:=eq_true rfl
theorem axU:zc VT=[.v Value.nilFunc]:=ID rfl
theorem aWg{K:TI→Prop}:@tyW Tryz.prog 174 ⟨K⟩=K Ze:=qi aoT
theorem axS:Ze.kd=Kd.stru [(0,22),(1,3),(2,3)]:=ID rfl
theorem anF:Ze.kd.agg=true:=ID rfl
theorem aik:Ze.size=3:=ID rfl
theorem acF:Ze.bytes=40:=ID rfl
theorem axQ:qv Ze=True:=eq_true rfl
theorem axR:zc Ze=[.v (Value.slice none 0 0),.v (Value.int IntKind.i64 0),.v (Value.int IntKind.i64 0)]:=ID rfl
theorem aC2{K:Nat→TI→Prop}:@qz Tryz.prog 174 0 ⟨K⟩=K 0 afa:=qs (ti:=Ze) (tf:=afa) (fo:=(0,22)) (fs:=[(0,22),(1,3),(2,3)]) aoT rfl rfl aFp
theorem aKe{K:Nat→Nat→Prop}:qu Tryz.prog [(0,22),(1,3),(2,3)] 0 K=K 0 1:=qr (tf:=afa) (fo:=(0,22)) (fs:=[(0,22),(1,3),(2,3)]) rfl aFp
theorem aC1{K:Nat→TI→Prop}:@qz Tryz.prog 174 1 ⟨K⟩=K 1 ti3:=qs (ti:=Ze) (tf:=ti3) (fo:=(1,3)) (fs:=[(0,22),(1,3),(2,3)]) aoT rfl rfl tf3
theorem aKd{K:Nat→Nat→Prop}:qu Tryz.prog [(0,22),(1,3),(2,3)] 1 K=K 1 1:=qr (tf:=ti3) (fo:=(1,3)) (fs:=[(0,22),(1,3),(2,3)]) rfl tf3
theorem aC0{K:Nat→TI→Prop}:@qz Tryz.prog 174 2 ⟨K⟩=K 2 ti3:=qs (ti:=Ze) (tf:=ti3) (fo:=(2,3)) (fs:=[(0,22),(1,3),(2,3)]) aoT rfl rfl tf3
theorem aKc{K:Nat→Nat→Prop}:qu Tryz.prog [(0,22),(1,3),(2,3)] 2 K=K 2 1:=qr (tf:=ti3) (fo:=(2,3)) (fs:=[(0,22),(1,3),(2,3)]) rfl tf3
theorem aLK:∀f∈([(0,22),(1,3),(2,3)]:List (Nat×Nat)),(qo Tryz.prog f.2).isSome=true:=by
 intro f hf
 simp only[List.mem_cons,List.not_mem_nil,or_false]at hf
 rcases hf with rfl|rfl|rfl
 ·rw[aFp];rfl
 ·rw[tf3];rfl
 ·rw[tf3];rfl
theorem aT5{ps:List (Nat×AV)}{K:AV→Prop}:@zk Tryz.prog 174 ps ⟨K⟩=@zj (qu Tryz.prog [(0,22),(1,3),(2,3)]) (zc Ze) ps ⟨fun cs=>K (.ag cs)⟩:=qM aoT rfl aLK
theorem aWf{K:TI→Prop}:@tyW Tryz.prog 175 ⟨K⟩=K Zd:=qi aoS
theorem axP:Zd.kd=Kd.stru [(0,22),(1,3),(2,3)]:=ID rfl
theorem anE:Zd.kd.agg=true:=ID rfl
theorem aij:Zd.size=3:=ID rfl
theorem acE:Zd.bytes=40:=ID rfl
theorem axN:qv Zd=True:=eq_true rfl
theorem axO:zc Zd=[.v (Value.slice none 0 0),.v (Value.int IntKind.i64 0),.v (Value.int IntKind.i64 0)]:=ID rfl
theorem aCZ{K:Nat→TI→Prop}:@qz Tryz.prog 175 0 ⟨K⟩=K 0 afa:=qs (ti:=Zd) (tf:=afa) (fo:=(0,22)) (fs:=[(0,22),(1,3),(2,3)]) aoS rfl rfl aFp
theorem aKb{K:Nat→Nat→Prop}:qu Tryz.prog [(0,22),(1,3),(2,3)] 0 K=K 0 1:=qr (tf:=afa) (fo:=(0,22)) (fs:=[(0,22),(1,3),(2,3)]) rfl aFp
theorem aCY{K:Nat→TI→Prop}:@qz Tryz.prog 175 1 ⟨K⟩=K 1 ti3:=qs (ti:=Zd) (tf:=ti3) (fo:=(1,3)) (fs:=[(0,22),(1,3),(2,3)]) aoS rfl rfl tf3
theorem aKa{K:Nat→Nat→Prop}:qu Tryz.prog [(0,22),(1,3),(2,3)] 1 K=K 1 1:=qr (tf:=ti3) (fo:=(1,3)) (fs:=[(0,22),(1,3),(2,3)]) rfl tf3
theorem aCX{K:Nat→TI→Prop}:@qz Tryz.prog 175 2 ⟨K⟩=K 2 ti3:=qs (ti:=Zd) (tf:=ti3) (fo:=(2,3)) (fs:=[(0,22),(1,3),(2,3)]) aoS rfl rfl tf3
theorem aJ9{K:Nat→Nat→Prop}:qu Tryz.prog [(0,22),(1,3),(2,3)] 2 K=K 2 1:=qr (tf:=ti3) (fo:=(2,3)) (fs:=[(0,22),(1,3),(2,3)]) rfl tf3
theorem aLJ:∀f∈([(0,22),(1,3),(2,3)]:List (Nat×Nat)),(qo Tryz.prog f.2).isSome=true:=by
 intro f hf
 simp only[List.mem_cons,List.not_mem_nil,or_false]at hf
 rcases hf with rfl|rfl|rfl
 ·rw[aFp];rfl
 ·rw[tf3];rfl
 ·rw[tf3];rfl
theorem aT4{ps:List (Nat×AV)}{K:AV→Prop}:@zk Tryz.prog 175 ps ⟨K⟩=@zj (qu Tryz.prog [(0,22),(1,3),(2,3)]) (zc Zd) ps ⟨fun cs=>K (.ag cs)⟩:=qM aoS rfl aLJ
theorem aWe{K:TI→Prop}:@tyW Tryz.prog 176 ⟨K⟩=K VS:=qi aYK
theorem axM:VS.kd=Kd.oth:=ID rfl
theorem anD:VS.kd.agg=false:=ID rfl
theorem aii:VS.size=1:=ID rfl
theorem acD:VS.bytes=8:=ID rfl
theorem axK:qv VS=True:=eq_true rfl
theorem axL:zc VS=[.v Value.nilFunc]:=ID rfl
theorem aWd{K:TI→Prop}:@tyW Tryz.prog 177 ⟨K⟩=K VR:=qi aYJ
theorem axJ:VR.kd=Kd.oth:=ID rfl
theorem anC:VR.kd.agg=false:=ID rfl
theorem aih:VR.size=1:=ID rfl
theorem acC:VR.bytes=8:=ID rfl
theorem axH:qv VR=True:=eq_true rfl
theorem axI:zc VR=[.v Value.nilFunc]:=ID rfl
theorem aWc{K:TI→Prop}:@tyW Tryz.prog 178 ⟨K⟩=K VQ:=qi aYI
theorem axG:VQ.kd=Kd.oth:=ID rfl
theorem anB:VQ.kd.agg=false:=ID rfl
theorem aig:VQ.size=1:=ID rfl
theorem acB:VQ.bytes=8:=ID rfl
theorem axE:qv VQ=True:=eq_true rfl
theorem axF:zc VQ=[.v Value.nilFunc]:=ID rfl
theorem aWb{K:TI→Prop}:@tyW Tryz.prog 179 ⟨K⟩=K VP:=qi aYH
theorem axD:VP.kd=Kd.oth:=ID rfl
theorem anA:VP.kd.agg=false:=ID rfl
theorem aif:VP.size=1:=ID rfl
theorem acA:VP.bytes=8:=ID rfl
theorem axB:qv VP=True:=eq_true rfl
theorem axC:zc VP=[.v Value.nilFunc]:=ID rfl
theorem aWa{K:TI→Prop}:@tyW Tryz.prog 180 ⟨K⟩=K VO:=qi aYG
theorem axA:VO.kd=Kd.oth:=ID rfl
theorem anz:VO.kd.agg=false:=ID rfl
theorem aie:VO.size=1:=ID rfl
theorem acz:VO.bytes=8:=ID rfl
theorem axy:qv VO=True:=eq_true rfl
theorem axz:zc VO=[.v Value.nilFunc]:=ID rfl
theorem aV9{K:TI→Prop}:@tyW Tryz.prog 182 ⟨K⟩=K VN:=qi aYF
theorem axx:VN.kd=Kd.oth:=ID rfl
theorem anx:VN.kd.agg=false:=ID rfl
theorem aid:VN.size=1:=ID rfl
theorem acy:VN.bytes=8:=ID rfl
theorem axv:qv VN=True:=eq_true rfl
theorem axw:zc VN=[.v Value.nilFunc]:=ID rfl
theorem aV8{K:TI→Prop}:@tyW Tryz.prog 183 ⟨K⟩=K VM:=qi aYE
theorem axu:VM.kd=Kd.oth:=ID rfl
theorem anw:VM.kd.agg=false:=ID rfl
theorem aic:VM.size=1:=ID rfl
theorem acx:VM.bytes=8:=ID rfl
theorem axs:qv VM=True:=eq_true rfl
theorem axt:zc VM=[.v Value.nilFunc]:=ID rfl
theorem aV7{K:TI→Prop}:@tyW Tryz.prog 184 ⟨K⟩=K VL:=qi aYD
theorem axr:VL.kd=Kd.oth:=ID rfl
theorem anv:VL.kd.agg=false:=ID rfl
theorem aib:VL.size=1:=ID rfl
theorem acw:VL.bytes=8:=ID rfl
theorem axp:qv VL=True:=eq_true rfl
theorem axq:zc VL=[.v Value.nilFunc]:=ID rfl
theorem aV6{K:TI→Prop}:@tyW Tryz.prog 185 ⟨K⟩=K VK:=qi aYC
theorem axo:VK.kd=Kd.oth:=ID rfl
theorem anu:VK.kd.agg=false:=ID rfl
theorem aia:VK.size=1:=ID rfl
theorem acv:VK.bytes=8:=ID rfl
theorem axm:qv VK=True:=eq_true rfl
theorem axn:zc VK=[.v Value.nilFunc]:=ID rfl
theorem aV5{K:TI→Prop}:@tyW Tryz.prog 186 ⟨K⟩=K VJ:=qi aYB
theorem axl:VJ.kd=Kd.oth:=ID rfl
theorem ant:VJ.kd.agg=false:=ID rfl
theorem ah9:VJ.size=1:=ID rfl
theorem acu:VJ.bytes=8:=ID rfl
theorem axj:qv VJ=True:=eq_true rfl
theorem axk:zc VJ=[.v Value.nilFunc]:=ID rfl
theorem aV4{K:TI→Prop}:@tyW Tryz.prog 187 ⟨K⟩=K VI:=qi aYA
theorem axi:VI.kd=Kd.oth:=ID rfl
theorem ans:VI.kd.agg=false:=ID rfl
theorem ah8:VI.size=1:=ID rfl
theorem act:VI.bytes=8:=ID rfl
theorem axg:qv VI=True:=eq_true rfl
theorem axh:zc VI=[.v Value.nilFunc]:=ID rfl
theorem aV3{K:TI→Prop}:@tyW Tryz.prog 188 ⟨K⟩=K VH:=qi aYz
theorem axf:VH.kd=Kd.oth:=ID rfl
theorem anr:VH.kd.agg=false:=ID rfl
theorem ah7:VH.size=1:=ID rfl
theorem acs:VH.bytes=8:=ID rfl
theorem axd:qv VH=True:=eq_true rfl
theorem axe:zc VH=[.v Value.nilFunc]:=ID rfl
theorem aV2{K:TI→Prop}:@tyW Tryz.prog 189 ⟨K⟩=K VG:=qi aYy
theorem axc:VG.kd=Kd.oth:=ID rfl
theorem anq:VG.kd.agg=false:=ID rfl
theorem ah6:VG.size=1:=ID rfl
theorem acr:VG.bytes=8:=ID rfl
theorem axa:qv VG=True:=eq_true rfl
theorem axb:zc VG=[.v Value.nilFunc]:=ID rfl
theorem aV1{K:TI→Prop}:@tyW Tryz.prog 190 ⟨K⟩=K VF:=qi aYx
theorem aw9:VF.kd=Kd.oth:=ID rfl
theorem anp:VF.kd.agg=false:=ID rfl
theorem ah5:VF.size=1:=ID rfl
theorem acq:VF.bytes=8:=ID rfl
theorem aw7:qv VF=True:=eq_true rfl
theorem aw8:zc VF=[.v Value.nilFunc]:=ID rfl
theorem aV0{K:TI→Prop}:@tyW Tryz.prog 191 ⟨K⟩=K VE:=qi aYw
theorem aw6:VE.kd=Kd.oth:=ID rfl
theorem ano:VE.kd.agg=false:=ID rfl
theorem ah4:VE.size=1:=ID rfl
theorem acp:VE.bytes=8:=ID rfl
theorem aw4:qv VE=True:=eq_true rfl
theorem aw5:zc VE=[.v Value.nilFunc]:=ID rfl
theorem aVZ{K:TI→Prop}:@tyW Tryz.prog 192 ⟨K⟩=K VD:=qi aYv
theorem aw3:VD.kd=Kd.oth:=ID rfl
theorem ann:VD.kd.agg=false:=ID rfl
theorem ah3:VD.size=1:=ID rfl
theorem aco:VD.bytes=8:=ID rfl
theorem aw1:qv VD=True:=eq_true rfl
theorem aw2:zc VD=[.v Value.nilFunc]:=ID rfl
theorem aVY{K:TI→Prop}:@tyW Tryz.prog 194 ⟨K⟩=K VC:=qi aYu
theorem aw0:VC.kd=Kd.oth:=ID rfl
theorem anm:VC.kd.agg=false:=ID rfl
theorem ah2:VC.size=1:=ID rfl
theorem acn:VC.bytes=8:=ID rfl
theorem awY:qv VC=True:=eq_true rfl
theorem awZ:zc VC=[.v Value.nilFunc]:=ID rfl
theorem aVX{K:TI→Prop}:@tyW Tryz.prog 195 ⟨K⟩=K VB:=qi aOp
theorem awX:VB.kd=Kd.sli 111:=ID rfl
theorem anl:VB.kd.agg=false:=ID rfl
theorem ah1:VB.size=1:=ID rfl
theorem acm:VB.bytes=24:=ID rfl
theorem awU:qv VB=True:=eq_true rfl
theorem awW:zc VB=[.v (Value.slice none 0 0)]:=ID rfl
theorem aOG{K:TI→Prop}:@yV Tryz.prog 195 ⟨K⟩=K y5:=ZM aOp rfl Yr
theorem aVW{K:TI→Prop}:@tyW Tryz.prog 196 ⟨K⟩=K VA:=qi aYt
theorem awT:VA.kd=Kd.oth:=ID rfl
theorem ank:VA.kd.agg=false:=ID rfl
theorem ah0:VA.size=1:=ID rfl
theorem acl:VA.bytes=8:=ID rfl
theorem awR:qv VA=True:=eq_true rfl
theorem awS:zc VA=[.v Value.nilFunc]:=ID rfl
theorem aVV{K:TI→Prop}:@tyW Tryz.prog 197 ⟨K⟩=K Vz:=qi aYs
theorem awQ:Vz.kd=Kd.oth:=ID rfl
theorem anj:Vz.kd.agg=false:=ID rfl
theorem ahZ:Vz.size=1:=ID rfl
theorem ack:Vz.bytes=8:=ID rfl
theorem awO:qv Vz=True:=eq_true rfl
theorem awP:zc Vz=[.v Value.nilFunc]:=ID rfl
theorem aVU{K:TI→Prop}:@tyW Tryz.prog 198 ⟨K⟩=K Vy:=qi aYr
theorem awN:Vy.kd=Kd.oth:=ID rfl
theorem ani:Vy.kd.agg=false:=ID rfl
theorem ahY:Vy.size=1:=ID rfl
theorem acj:Vy.bytes=8:=ID rfl
theorem awL:qv Vy=True:=eq_true rfl
theorem awM:zc Vy=[.v Value.nilFunc]:=ID rfl
theorem aVT{K:TI→Prop}:@tyW Tryz.prog 199 ⟨K⟩=K Vx:=qi aYq
theorem awK:Vx.kd=Kd.oth:=ID rfl
theorem anh:Vx.kd.agg=false:=ID rfl
theorem ahX:Vx.size=1:=ID rfl
theorem aci:Vx.bytes=8:=ID rfl
theorem awI:qv Vx=True:=eq_true rfl
theorem awJ:zc Vx=[.v Value.nilFunc]:=ID rfl
theorem aVS{K:TI→Prop}:@tyW Tryz.prog 201 ⟨K⟩=K Vw:=qi aYp
theorem awG:Vw.kd=Kd.oth:=ID rfl
theorem anf:Vw.kd.agg=false:=ID rfl
theorem ahW:Vw.size=1:=ID rfl
theorem ach:Vw.bytes=8:=ID rfl
theorem awE:qv Vw=True:=eq_true rfl
theorem awF:zc Vw=[.v Value.nilFunc]:=ID rfl
theorem aVR{K:TI→Prop}:@tyW Tryz.prog 203 ⟨K⟩=K Vv:=qi aYo
theorem awD:Vv.kd=Kd.oth:=ID rfl
theorem ane:Vv.kd.agg=false:=ID rfl
theorem ahV:Vv.size=1:=ID rfl
theorem acg:Vv.bytes=8:=ID rfl
theorem awB:qv Vv=True:=eq_true rfl
theorem awC:zc Vv=[.v Value.nilFunc]:=ID rfl
theorem aVQ{K:TI→Prop}:@tyW Tryz.prog 204 ⟨K⟩=K Vu:=qi aYn
theorem awA:Vu.kd=Kd.oth:=ID rfl
theorem anc:Vu.kd.agg=false:=ID rfl
theorem ahU:Vu.size=1:=ID rfl
theorem acf:Vu.bytes=8:=ID rfl
theorem awy:qv Vu=True:=eq_true rfl
theorem awz:zc Vu=[.v Value.nilFunc]:=ID rfl
theorem aVP{K:TI→Prop}:@tyW Tryz.prog 205 ⟨K⟩=K Vt:=qi aYm
theorem awx:Vt.kd=Kd.oth:=ID rfl
theorem anb:Vt.kd.agg=false:=ID rfl
theorem ahT:Vt.size=1:=ID rfl
theorem ace:Vt.bytes=8:=ID rfl
theorem awv:qv Vt=True:=eq_true rfl
theorem aww:zc Vt=[.v Value.nilFunc]:=ID rfl
theorem aVO{K:TI→Prop}:@tyW Tryz.prog 207 ⟨K⟩=K Vs:=qi aYl
theorem awu:Vs.kd=Kd.oth:=ID rfl
theorem ana:Vs.kd.agg=false:=ID rfl
theorem ahS:Vs.size=1:=ID rfl
theorem acd:Vs.bytes=8:=ID rfl
theorem aws:qv Vs=True:=eq_true rfl
theorem awt:zc Vs=[.v Value.nilFunc]:=ID rfl
theorem aVN{K:TI→Prop}:@tyW Tryz.prog 208 ⟨K⟩=K Vr:=qi aYk
theorem awr:Vr.kd=Kd.oth:=ID rfl
theorem am9:Vr.kd.agg=false:=ID rfl
theorem ahR:Vr.size=1:=ID rfl
theorem acb:Vr.bytes=8:=ID rfl
theorem awo:qv Vr=True:=eq_true rfl
theorem awq:zc Vr=[.v Value.nilFunc]:=ID rfl
theorem aVM{K:TI→Prop}:@tyW Tryz.prog 209 ⟨K⟩=K Vq:=qi aYj
theorem awn:Vq.kd=Kd.oth:=ID rfl
theorem am8:Vq.kd.agg=false:=ID rfl
theorem ahQ:Vq.size=1:=ID rfl
theorem aca:Vq.bytes=8:=ID rfl
theorem awl:qv Vq=True:=eq_true rfl
theorem awm:zc Vq=[.v Value.nilFunc]:=ID rfl
theorem aVL{K:TI→Prop}:@tyW Tryz.prog 210 ⟨K⟩=K Vp:=qi aYi
theorem awk:Vp.kd=Kd.oth:=ID rfl
theorem am7:Vp.kd.agg=false:=ID rfl
theorem ahP:Vp.size=1:=ID rfl
theorem ab9:Vp.bytes=8:=ID rfl
theorem awi:qv Vp=True:=eq_true rfl
theorem awj:zc Vp=[.v Value.nilFunc]:=ID rfl
theorem aVK{K:TI→Prop}:@tyW Tryz.prog 211 ⟨K⟩=K Vo:=qi aYh
theorem awh:Vo.kd=Kd.oth:=ID rfl
theorem am6:Vo.kd.agg=false:=ID rfl
theorem ahO:Vo.size=1:=ID rfl
theorem ab8:Vo.bytes=8:=ID rfl
theorem awf:qv Vo=True:=eq_true rfl
theorem awg:zc Vo=[.v Value.nilFunc]:=ID rfl
theorem aVJ{K:TI→Prop}:@tyW Tryz.prog 212 ⟨K⟩=K Vn:=qi aYg
theorem awe:Vn.kd=Kd.oth:=ID rfl
theorem am5:Vn.kd.agg=false:=ID rfl
theorem ahN:Vn.size=1:=ID rfl
theorem ab7:Vn.bytes=8:=ID rfl
theorem awc:qv Vn=True:=eq_true rfl
theorem awd:zc Vn=[.v Value.nilFunc]:=ID rfl
theorem aVI{K:TI→Prop}:@tyW Tryz.prog 213 ⟨K⟩=K Vm:=qi aYf
theorem awb:Vm.kd=Kd.oth:=ID rfl
theorem am4:Vm.kd.agg=false:=ID rfl
theorem ahM:Vm.size=1:=ID rfl
theorem ab6:Vm.bytes=8:=ID rfl
theorem av9:qv Vm=True:=eq_true rfl
theorem awa:zc Vm=[.v Value.nilFunc]:=ID rfl
theorem aVH{K:TI→Prop}:@tyW Tryz.prog 214 ⟨K⟩=K Vl:=qi aYe
theorem av8:Vl.kd=Kd.oth:=ID rfl
theorem am3:Vl.kd.agg=false:=ID rfl
theorem ahL:Vl.size=1:=ID rfl
theorem ab5:Vl.bytes=8:=ID rfl
theorem av6:qv Vl=True:=eq_true rfl
theorem av7:zc Vl=[.v Value.nilFunc]:=ID rfl
theorem aVG{K:TI→Prop}:@tyW Tryz.prog 215 ⟨K⟩=K Vk:=qi aYd
theorem av5:Vk.kd=Kd.oth:=ID rfl
theorem am2:Vk.kd.agg=false:=ID rfl
theorem ahK:Vk.size=1:=ID rfl
theorem ab4:Vk.bytes=8:=ID rfl
theorem av3:qv Vk=True:=eq_true rfl
theorem av4:zc Vk=[.v Value.nilFunc]:=ID rfl
theorem aVF{K:TI→Prop}:@tyW Tryz.prog 216 ⟨K⟩=K Vj:=qi aYc
theorem av2:Vj.kd=Kd.int IntKind.u64:=ID rfl
theorem am1:Vj.kd.agg=false:=ID rfl
theorem ahJ:Vj.size=1:=ID rfl
theorem ab3:Vj.bytes=8:=ID rfl
theorem av0:qv Vj=True:=eq_true rfl
theorem av1:zc Vj=[.v (Value.int IntKind.u64 0)]:=ID rfl
theorem aVE{K:TI→Prop}:@tyW Tryz.prog 217 ⟨K⟩=K Vi:=qi aYb
theorem avZ:Vi.kd=Kd.oth:=ID rfl
theorem am0:Vi.kd.agg=false:=ID rfl
theorem ahI:Vi.size=1:=ID rfl
theorem ab2:Vi.bytes=8:=ID rfl
theorem avX:qv Vi=True:=eq_true rfl
theorem avY:zc Vi=[.v Value.nilFunc]:=ID rfl
theorem aVD{K:TI→Prop}:@tyW Tryz.prog 218 ⟨K⟩=K Vh:=qi aYa
theorem avW:Vh.kd=Kd.oth:=ID rfl
theorem amZ:Vh.kd.agg=false:=ID rfl
theorem ahH:Vh.size=1:=ID rfl
theorem ab1:Vh.bytes=8:=ID rfl
theorem avU:qv Vh=True:=eq_true rfl
theorem avV:zc Vh=[.v Value.nilFunc]:=ID rfl
theorem aVC{K:TI→Prop}:@tyW Tryz.prog 219 ⟨K⟩=K Vg:=qi aX9
theorem avT:Vg.kd=Kd.oth:=ID rfl
theorem amY:Vg.kd.agg=false:=ID rfl
theorem ahG:Vg.size=1:=ID rfl
theorem ab0:Vg.bytes=8:=ID rfl
theorem avR:qv Vg=True:=eq_true rfl
theorem avS:zc Vg=[.v Value.nilFunc]:=ID rfl
theorem aVB{K:TI→Prop}:@tyW Tryz.prog 220 ⟨K⟩=K Vf:=qi aX8
theorem avP:Vf.kd=Kd.oth:=ID rfl
theorem amW:Vf.kd.agg=false:=ID rfl
theorem ahE:Vf.size=1:=ID rfl
theorem abZ:Vf.bytes=8:=ID rfl
theorem avN:qv Vf=True:=eq_true rfl
theorem avO:zc Vf=[.v Value.nilFunc]:=ID rfl
theorem aVA{K:TI→Prop}:@tyW Tryz.prog 221 ⟨K⟩=K Ve:=qi aX7
theorem avM:Ve.kd=Kd.oth:=ID rfl
theorem amV:Ve.kd.agg=false:=ID rfl
theorem ahD:Ve.size=1:=ID rfl
theorem abY:Ve.bytes=8:=ID rfl
theorem avK:qv Ve=True:=eq_true rfl
theorem avL:zc Ve=[.v Value.nilFunc]:=ID rfl
theorem aVz{K:TI→Prop}:@tyW Tryz.prog 222 ⟨K⟩=K Vd:=qi aX6
theorem avJ:Vd.kd=Kd.oth:=ID rfl
theorem amU:Vd.kd.agg=false:=ID rfl
theorem ahC:Vd.size=1:=ID rfl
theorem abX:Vd.bytes=8:=ID rfl
theorem avH:qv Vd=True:=eq_true rfl
theorem avI:zc Vd=[.v Value.nilFunc]:=ID rfl
theorem aVy{K:TI→Prop}:@tyW Tryz.prog 224 ⟨K⟩=K Vc:=qi aX5
theorem avG:Vc.kd=Kd.oth:=ID rfl
theorem amT:Vc.kd.agg=false:=ID rfl
theorem ahB:Vc.size=1:=ID rfl
theorem abW:Vc.bytes=8:=ID rfl
theorem avE:qv Vc=True:=eq_true rfl
theorem avF:zc Vc=[.v Value.nilFunc]:=ID rfl
theorem aVx{K:TI→Prop}:@tyW Tryz.prog 225 ⟨K⟩=K Vb:=qi aX4
theorem avD:Vb.kd=Kd.oth:=ID rfl
theorem amS:Vb.kd.agg=false:=ID rfl
theorem ahA:Vb.size=1:=ID rfl
theorem abV:Vb.bytes=8:=ID rfl
theorem avB:qv Vb=True:=eq_true rfl
theorem avC:zc Vb=[.v Value.nilFunc]:=ID rfl
theorem aVw{K:TI→Prop}:@tyW Tryz.prog 226 ⟨K⟩=K Va:=qi aX3
theorem avA:Va.kd=Kd.oth:=ID rfl
theorem amR:Va.kd.agg=false:=ID rfl
theorem ahz:Va.size=1:=ID rfl
theorem abU:Va.bytes=8:=ID rfl
theorem avy:qv Va=True:=eq_true rfl
theorem avz:zc Va=[.v Value.nilFunc]:=ID rfl
theorem aVv{K:TI→Prop}:@tyW Tryz.prog 227 ⟨K⟩=K X9:=qi aX2
theorem avx:X9.kd=Kd.oth:=ID rfl
theorem amQ:X9.kd.agg=false:=ID rfl
theorem ahy:X9.size=1:=ID rfl
theorem abT:X9.bytes=8:=ID rfl
theorem avv:qv X9=True:=eq_true rfl
theorem avw:zc X9=[.v Value.nilFunc]:=ID rfl
theorem aVu{K:TI→Prop}:@tyW Tryz.prog 228 ⟨K⟩=K X8:=qi aX1
theorem avu:X8.kd=Kd.oth:=ID rfl
theorem amP:X8.kd.agg=false:=ID rfl
theorem ahx:X8.size=1:=ID rfl
theorem abS:X8.bytes=8:=ID rfl
theorem avs:qv X8=True:=eq_true rfl
theorem avt:zc X8=[.v Value.nilFunc]:=ID rfl
theorem aVt{K:TI→Prop}:@tyW Tryz.prog 229 ⟨K⟩=K X7:=qi aX0
theorem avr:X7.kd=Kd.oth:=ID rfl
theorem amO:X7.kd.agg=false:=ID rfl
theorem ahw:X7.size=1:=ID rfl
theorem abR:X7.bytes=8:=ID rfl
theorem avp:qv X7=True:=eq_true rfl
theorem avq:zc X7=[.v Value.nilFunc]:=ID rfl
theorem aVs{K:TI→Prop}:@tyW Tryz.prog 230 ⟨K⟩=K X6:=qi aXZ
theorem avn:X6.kd=Kd.oth:=ID rfl
theorem amM:X6.kd.agg=false:=ID rfl
theorem ahu:X6.size=1:=ID rfl
theorem abQ:X6.bytes=8:=ID rfl
theorem avl:qv X6=True:=eq_true rfl
theorem avm:zc X6=[.v Value.nilFunc]:=ID rfl
theorem aVr{K:TI→Prop}:@tyW Tryz.prog 231 ⟨K⟩=K X5:=qi aXY
theorem avk:X5.kd=Kd.oth:=ID rfl
theorem amL:X5.kd.agg=false:=ID rfl
theorem aht:X5.size=1:=ID rfl
theorem abP:X5.bytes=8:=ID rfl
theorem avi:qv X5=True:=eq_true rfl
theorem avj:zc X5=[.v Value.nilFunc]:=ID rfl
theorem aVq{K:TI→Prop}:@tyW Tryz.prog 232 ⟨K⟩=K X4:=qi aXX
theorem avh:X4.kd=Kd.oth:=ID rfl
theorem amK:X4.kd.agg=false:=ID rfl
theorem ahs:X4.size=1:=ID rfl
theorem abO:X4.bytes=8:=ID rfl
theorem avf:qv X4=True:=eq_true rfl
theorem avg:zc X4=[.v Value.nilFunc]:=ID rfl
theorem aVp{K:TI→Prop}:@tyW Tryz.prog 233 ⟨K⟩=K X3:=qi aXW
theorem ave:X3.kd=Kd.oth:=ID rfl
theorem amJ:X3.kd.agg=false:=ID rfl
theorem ahr:X3.size=1:=ID rfl
theorem abN:X3.bytes=8:=ID rfl
theorem avc:qv X3=True:=eq_true rfl
theorem avd:zc X3=[.v Value.nilFunc]:=ID rfl
theorem aVo{K:TI→Prop}:@tyW Tryz.prog 234 ⟨K⟩=K X2:=qi aXV
theorem avb:X2.kd=Kd.oth:=ID rfl
theorem amI:X2.kd.agg=false:=ID rfl
theorem ahq:X2.size=1:=ID rfl
theorem abM:X2.bytes=8:=ID rfl
theorem au9:qv X2=True:=eq_true rfl
theorem ava:zc X2=[.v Value.nilFunc]:=ID rfl
theorem aVn{K:TI→Prop}:@tyW Tryz.prog 235 ⟨K⟩=K X1:=qi aXU
theorem au8:X1.kd=Kd.oth:=ID rfl
theorem amH:X1.kd.agg=false:=ID rfl
theorem ahp:X1.size=1:=ID rfl
theorem abL:X1.bytes=8:=ID rfl
theorem au6:qv X1=True:=eq_true rfl
theorem au7:zc X1=[.v Value.nilFunc]:=ID rfl
theorem aVm{K:TI→Prop}:@tyW Tryz.prog 236 ⟨K⟩=K X0:=qi aXT
theorem au5:X0.kd=Kd.oth:=ID rfl
theorem amG:X0.kd.agg=false:=ID rfl
theorem aho:X0.size=1:=ID rfl
theorem abK:X0.bytes=8:=ID rfl
theorem au3:qv X0=True:=eq_true rfl
theorem au4:zc X0=[.v Value.nilFunc]:=ID rfl
theorem aVl{K:TI→Prop}:@tyW Tryz.prog 237 ⟨K⟩=K XZ:=qi aXS
theorem au2:XZ.kd=Kd.oth:=ID rfl
theorem amF:XZ.kd.agg=false:=ID rfl
theorem ahn:XZ.size=1:=ID rfl
theorem abJ:XZ.bytes=8:=ID rfl
theorem au0:qv XZ=True:=eq_true rfl
theorem au1:zc XZ=[.v Value.nilFunc]:=ID rfl
theorem aVk{K:TI→Prop}:@tyW Tryz.prog 238 ⟨K⟩=K XY:=qi aXR
theorem auZ:XY.kd=Kd.oth:=ID rfl
theorem amE:XY.kd.agg=false:=ID rfl
theorem ahm:XY.size=1:=ID rfl
theorem abI:XY.bytes=8:=ID rfl
theorem auX:qv XY=True:=eq_true rfl
theorem auY:zc XY=[.v Value.nilFunc]:=ID rfl
theorem aVj{K:TI→Prop}:@tyW Tryz.prog 239 ⟨K⟩=K XX:=qi aXQ
theorem auW:XX.kd=Kd.oth:=ID rfl
theorem amD:XX.kd.agg=false:=ID rfl
theorem ahl:XX.size=1:=ID rfl
theorem abH:XX.bytes=8:=ID rfl
theorem auU:qv XX=True:=eq_true rfl
theorem auV:zc XX=[.v Value.nilFunc]:=ID rfl
theorem aVi{K:TI→Prop}:@tyW Tryz.prog 240 ⟨K⟩=K XW:=qi aXP
theorem auS:XW.kd=Kd.oth:=ID rfl
theorem amA:XW.kd.agg=false:=ID rfl
theorem ahj:XW.size=1:=ID rfl
theorem abG:XW.bytes=8:=ID rfl
theorem auQ:qv XW=True:=eq_true rfl
theorem auR:zc XW=[.v Value.nilFunc]:=ID rfl
theorem aVh{K:TI→Prop}:@tyW Tryz.prog 241 ⟨K⟩=K XV:=qi aXO
theorem auP:XV.kd=Kd.oth:=ID rfl
theorem amz:XV.kd.agg=false:=ID rfl
theorem ahi:XV.size=1:=ID rfl
theorem abF:XV.bytes=8:=ID rfl
theorem auN:qv XV=True:=eq_true rfl
theorem auO:zc XV=[.v Value.nilFunc]:=ID rfl
theorem aVg{K:TI→Prop}:@tyW Tryz.prog 242 ⟨K⟩=K XU:=qi aXN
theorem auM:XU.kd=Kd.oth:=ID rfl
theorem amy:XU.kd.agg=false:=ID rfl
theorem ahh:XU.size=1:=ID rfl
theorem abE:XU.bytes=8:=ID rfl
theorem auK:qv XU=True:=eq_true rfl
theorem auL:zc XU=[.v Value.nilFunc]:=ID rfl
theorem aVf{K:TI→Prop}:@tyW Tryz.prog 243 ⟨K⟩=K XT:=qi aXM
theorem auJ:XT.kd=Kd.oth:=ID rfl
theorem amx:XT.kd.agg=false:=ID rfl
theorem ahg:XT.size=1:=ID rfl
theorem abD:XT.bytes=8:=ID rfl
theorem auH:qv XT=True:=eq_true rfl
theorem auI:zc XT=[.v Value.nilFunc]:=ID rfl
theorem aVe{K:TI→Prop}:@tyW Tryz.prog 245 ⟨K⟩=K XS:=qi aXL
theorem auG:XS.kd=Kd.oth:=ID rfl
theorem amw:XS.kd.agg=false:=ID rfl
theorem ahf:XS.size=1:=ID rfl
theorem abC:XS.bytes=8:=ID rfl
theorem auE:qv XS=True:=eq_true rfl
theorem auF:zc XS=[.v Value.nilFunc]:=ID rfl
theorem aVd{K:TI→Prop}:@tyW Tryz.prog 246 ⟨K⟩=K XR:=qi aXK
theorem auD:XR.kd=Kd.oth:=ID rfl
theorem amv:XR.kd.agg=false:=ID rfl
theorem ahe:XR.size=1:=ID rfl
theorem abB:XR.bytes=8:=ID rfl
theorem auB:qv XR=True:=eq_true rfl
theorem auC:zc XR=[.v Value.nilFunc]:=ID rfl
theorem aVc{K:TI→Prop}:@tyW Tryz.prog 247 ⟨K⟩=K XQ:=qi aXJ
theorem auA:XQ.kd=Kd.oth:=ID rfl
theorem amu:XQ.kd.agg=false:=ID rfl
theorem ahd:XQ.size=1:=ID rfl
theorem abA:XQ.bytes=8:=ID rfl
theorem auy:qv XQ=True:=eq_true rfl
theorem auz:zc XQ=[.v Value.nilFunc]:=ID rfl
theorem aVb{K:TI→Prop}:@tyW Tryz.prog 249 ⟨K⟩=K XP:=qi aXI
theorem aux:XP.kd=Kd.oth:=ID rfl
theorem amt:XP.kd.agg=false:=ID rfl
theorem ahc:XP.size=1:=ID rfl
theorem abz:XP.bytes=8:=ID rfl
theorem auv:qv XP=True:=eq_true rfl
theorem auw:zc XP=[.v Value.nilFunc]:=ID rfl
theorem aVa{K:TI→Prop}:@tyW Tryz.prog 250 ⟨K⟩=K XO:=qi aXH
theorem aut:XO.kd=Kd.oth:=ID rfl
theorem amq:XO.kd.agg=false:=ID rfl
theorem aha:XO.size=1:=ID rfl
theorem aby:XO.bytes=8:=ID rfl
theorem aur:qv XO=True:=eq_true rfl
theorem aus:zc XO=[.v Value.nilFunc]:=ID rfl
theorem aU9{K:TI→Prop}:@tyW Tryz.prog 251 ⟨K⟩=K XN:=qi aXG
theorem auq:XN.kd=Kd.oth:=ID rfl
theorem amp:XN.kd.agg=false:=ID rfl
theorem ag9:XN.size=1:=ID rfl
theorem abx:XN.bytes=8:=ID rfl
theorem auo:qv XN=True:=eq_true rfl
theorem aup:zc XN=[.v Value.nilFunc]:=ID rfl
theorem aU8{K:TI→Prop}:@tyW Tryz.prog 252 ⟨K⟩=K XM:=qi aXF
theorem aun:XM.kd=Kd.int IntKind.u32:=ID rfl
theorem amo:XM.kd.agg=false:=ID rfl
theorem ag8:XM.size=1:=ID rfl
theorem abw:XM.bytes=4:=ID rfl
theorem aul:qv XM=True:=eq_true rfl
theorem aum:zc XM=[.v (Value.int IntKind.u32 0)]:=ID rfl
theorem aU7{K:TI→Prop}:@tyW Tryz.prog 253 ⟨K⟩=K XL:=qi aXE
theorem auk:XL.kd=Kd.oth:=ID rfl
theorem amn:XL.kd.agg=false:=ID rfl
theorem ag7:XL.size=1:=ID rfl
theorem abv:XL.bytes=8:=ID rfl
theorem aui:qv XL=True:=eq_true rfl
theorem auj:zc XL=[.v Value.nilFunc]:=ID rfl
theorem aU6{K:TI→Prop}:@tyW Tryz.prog 254 ⟨K⟩=K XK:=qi aXD
theorem auh:XK.kd=Kd.int IntKind.u64:=ID rfl
theorem amm:XK.kd.agg=false:=ID rfl
theorem ag6:XK.size=1:=ID rfl
theorem abu:XK.bytes=8:=ID rfl
theorem auf:qv XK=True:=eq_true rfl
theorem aug:zc XK=[.v (Value.int IntKind.u64 0)]:=ID rfl
theorem aU5{K:TI→Prop}:@tyW Tryz.prog 256 ⟨K⟩=K XJ:=qi aXC
theorem aue:XJ.kd=Kd.oth:=ID rfl
theorem aml:XJ.kd.agg=false:=ID rfl
theorem ag5:XJ.size=1:=ID rfl
theorem abt:XJ.bytes=8:=ID rfl
theorem auc:qv XJ=True:=eq_true rfl
theorem aud:zc XJ=[.v Value.nilFunc]:=ID rfl
theorem aU4{K:TI→Prop}:@tyW Tryz.prog 257 ⟨K⟩=K XI:=qi aXB
theorem aub:XI.kd=Kd.oth:=ID rfl
theorem amk:XI.kd.agg=false:=ID rfl
theorem ag4:XI.size=1:=ID rfl
theorem abr:XI.bytes=8:=ID rfl
theorem at9:qv XI=True:=eq_true rfl
theorem aua:zc XI=[.v Value.nilFunc]:=ID rfl
theorem aU3{K:TI→Prop}:@tyW Tryz.prog 258 ⟨K⟩=K XH:=qi aXA
theorem at8:XH.kd=Kd.oth:=ID rfl
theorem amj:XH.kd.agg=false:=ID rfl
theorem ag3:XH.size=1:=ID rfl
theorem abq:XH.bytes=8:=ID rfl
theorem at6:qv XH=True:=eq_true rfl
theorem at7:zc XH=[.v Value.nilFunc]:=ID rfl
theorem aU2{K:TI→Prop}:@tyW Tryz.prog 259 ⟨K⟩=K XG:=qi aXz
theorem at5:XG.kd=Kd.oth:=ID rfl
theorem ami:XG.kd.agg=false:=ID rfl
theorem ag2:XG.size=1:=ID rfl
theorem abp:XG.bytes=8:=ID rfl
theorem at3:qv XG=True:=eq_true rfl
theorem at4:zc XG=[.v Value.nilFunc]:=ID rfl
theorem aU1{K:TI→Prop}:@tyW Tryz.prog 260 ⟨K⟩=K XF:=qi aXy
theorem at1:XF.kd=Kd.oth:=ID rfl
theorem amg:XF.kd.agg=false:=ID rfl
theorem ag0:XF.size=1:=ID rfl
theorem abo:XF.bytes=8:=ID rfl
theorem atZ:qv XF=True:=eq_true rfl
theorem at0:zc XF=[.v Value.nilFunc]:=ID rfl
theorem aU0{K:TI→Prop}:@tyW Tryz.prog 263 ⟨K⟩=K XE:=qi aXx
theorem atY:XE.kd=Kd.oth:=ID rfl
theorem amf:XE.kd.agg=false:=ID rfl
theorem agZ:XE.size=1:=ID rfl
theorem abn:XE.bytes=8:=ID rfl
theorem atW:qv XE=True:=eq_true rfl
theorem atX:zc XE=[.v Value.nilFunc]:=ID rfl
theorem aUZ{K:TI→Prop}:@tyW Tryz.prog 267 ⟨K⟩=K XD:=qi aXw
theorem atV:XD.kd=Kd.stru [(0,266)]:=ID rfl
theorem ame:XD.kd.agg=true:=ID rfl
theorem agY:XD.size=0:=ID rfl
theorem abm:XD.bytes=0:=ID rfl
theorem atT:qv XD=True:=eq_true rfl
theorem atU:zc XD=[]:=ID rfl
theorem aUY{K:TI→Prop}:@tyW Tryz.prog 268 ⟨K⟩=K XC:=qi aXv
theorem atS:XC.kd=Kd.stru [(0,266)]:=ID rfl
theorem amd:XC.kd.agg=true:=ID rfl
theorem agX:XC.size=0:=ID rfl
theorem abl:XC.bytes=0:=ID rfl
theorem atQ:qv XC=True:=eq_true rfl
theorem atR:zc XC=[]:=ID rfl
theorem aUX{K:TI→Prop}:@tyW Tryz.prog 269 ⟨K⟩=K XB:=qi aXu
theorem atP:XB.kd=Kd.int IntKind.u8:=ID rfl
theorem amc:XB.kd.agg=false:=ID rfl
theorem agW:XB.size=1:=ID rfl
theorem abk:XB.bytes=1:=ID rfl
theorem atN:qv XB=True:=eq_true rfl
theorem atO:zc XB=[.v (Value.int IntKind.u8 0)]:=ID rfl
theorem aUW{K:TI→Prop}:@tyW Tryz.prog 270 ⟨K⟩=K XA:=qi aXt
theorem atM:XA.kd=Kd.int IntKind.u8:=ID rfl
theorem amb:XA.kd.agg=false:=ID rfl
theorem agV:XA.size=1:=ID rfl
theorem abj:XA.bytes=1:=ID rfl
theorem atK:qv XA=True:=eq_true rfl
theorem atL:zc XA=[.v (Value.int IntKind.u8 0)]:=ID rfl
theorem aUV{K:TI→Prop}:@tyW Tryz.prog 271 ⟨K⟩=K Xz:=qi aXs
theorem atJ:Xz.kd=Kd.oth:=ID rfl
theorem ama:Xz.kd.agg=false:=ID rfl
theorem agU:Xz.size=1:=ID rfl
theorem abi:Xz.bytes=8:=ID rfl
theorem atH:qv Xz=True:=eq_true rfl
theorem atI:zc Xz=[.v Value.nilFunc]:=ID rfl
theorem aUU{K:TI→Prop}:@tyW Tryz.prog 273 ⟨K⟩=K Xy:=qi aXr
theorem atG:Xy.kd=Kd.int IntKind.i32:=ID rfl
theorem al9:Xy.kd.agg=false:=ID rfl
theorem agT:Xy.size=1:=ID rfl
theorem abh:Xy.bytes=4:=ID rfl
theorem atE:qv Xy=True:=eq_true rfl
theorem atF:zc Xy=[.v (Value.int IntKind.i32 0)]:=ID rfl
theorem aUT{K:TI→Prop}:@tyW Tryz.prog 274 ⟨K⟩=K Xx:=qi aXq
theorem atD:Xx.kd=Kd.int IntKind.i32:=ID rfl
theorem al8:Xx.kd.agg=false:=ID rfl
theorem agS:Xx.size=1:=ID rfl
theorem abg:Xx.bytes=4:=ID rfl
theorem atB:qv Xx=True:=eq_true rfl
theorem atC:zc Xx=[.v (Value.int IntKind.i32 0)]:=ID rfl
theorem aUS{K:TI→Prop}:@tyW Tryz.prog 277 ⟨K⟩=K Xw:=qi aXp
theorem atA:Xw.kd=Kd.oth:=ID rfl
theorem al7:Xw.kd.agg=false:=ID rfl
theorem agR:Xw.size=1:=ID rfl
theorem abf:Xw.bytes=8:=ID rfl
theorem aty:qv Xw=True:=eq_true rfl
theorem atz:zc Xw=[.v Value.nilFunc]:=ID rfl
theorem bfa:qp Tryz.prog 2=True:=eq_true ⟨_,Tryz.func2,of_decide_eq_false (by kernel_rfl),rfl⟩
theorem be9:qp Tryz.prog 3=True:=eq_true ⟨_,Tryz.func3,of_decide_eq_false (by kernel_rfl),rfl⟩
theorem be8:qp Tryz.prog 4=True:=eq_true ⟨_,Tryz.func4,of_decide_eq_false (by kernel_rfl),rfl⟩
theorem be7:qp Tryz.prog 5=True:=eq_true ⟨_,Tryz.func5,of_decide_eq_false (by kernel_rfl),rfl⟩
theorem be6:qp Tryz.prog 6=True:=eq_true ⟨_,Tryz.func6,of_decide_eq_false (by kernel_rfl),rfl⟩
theorem be5:qp Tryz.prog 7=True:=eq_true ⟨_,Tryz.func7,of_decide_eq_false (by kernel_rfl),rfl⟩
theorem be4:qp Tryz.prog 8=True:=eq_true ⟨_,Tryz.func8,of_decide_eq_false (by kernel_rfl),rfl⟩
theorem be3:qp Tryz.prog 9=True:=eq_true ⟨_,Tryz.func9,of_decide_eq_false (by kernel_rfl),rfl⟩
theorem bb0:qp Tryz.prog 10=True:=eq_true ⟨_,Tryz.func10,of_decide_eq_false (by kernel_rfl),rfl⟩
theorem bbZ:qp Tryz.prog 11=True:=eq_true ⟨_,Tryz.func11,of_decide_eq_false (by kernel_rfl),rfl⟩
theorem bbY:qp Tryz.prog 12=True:=eq_true ⟨_,Tryz.func12,of_decide_eq_false (by kernel_rfl),rfl⟩
theorem bbX:qp Tryz.prog 13=True:=eq_true ⟨_,Tryz.func13,of_decide_eq_false (by kernel_rfl),rfl⟩
theorem bbW:qp Tryz.prog 14=True:=eq_true ⟨_,Tryz.func14,of_decide_eq_false (by kernel_rfl),rfl⟩
theorem bbV:qp Tryz.prog 15=True:=eq_true ⟨_,Tryz.func15,of_decide_eq_false (by kernel_rfl),rfl⟩
theorem bbU:qp Tryz.prog 16=True:=eq_true ⟨_,Tryz.func16,of_decide_eq_false (by kernel_rfl),rfl⟩
theorem bbT:qp Tryz.prog 17=True:=eq_true ⟨_,Tryz.func17,of_decide_eq_false (by kernel_rfl),rfl⟩
theorem bbS:qp Tryz.prog 18=True:=eq_true ⟨_,Tryz.func18,of_decide_eq_false (by kernel_rfl),rfl⟩
theorem bbR:qp Tryz.prog 19=True:=eq_true ⟨_,Tryz.func19,of_decide_eq_false (by kernel_rfl),rfl⟩
theorem bbQ:qp Tryz.prog 20=True:=eq_true ⟨_,Tryz.func20,of_decide_eq_false (by kernel_rfl),rfl⟩
theorem bbP:qp Tryz.prog 21=True:=eq_true ⟨_,Tryz.func21,of_decide_eq_false (by kernel_rfl),rfl⟩
theorem bbO:qp Tryz.prog 22=True:=eq_true ⟨_,Tryz.func22,of_decide_eq_false (by kernel_rfl),rfl⟩
theorem bbN:qp Tryz.prog 23=True:=eq_true ⟨_,Tryz.func23,of_decide_eq_false (by kernel_rfl),rfl⟩
theorem bbM:qp Tryz.prog 24=True:=eq_true ⟨_,Tryz.func24,of_decide_eq_false (by kernel_rfl),rfl⟩
theorem bbL:qp Tryz.prog 25=True:=eq_true ⟨_,Tryz.func25,of_decide_eq_false (by kernel_rfl),rfl⟩
theorem bbK:qp Tryz.prog 26=True:=eq_true ⟨_,Tryz.func26,of_decide_eq_false (by kernel_rfl),rfl⟩
theorem bbJ:qp Tryz.prog 27=True:=eq_true ⟨_,Tryz.func27,of_decide_eq_false (by kernel_rfl),rfl⟩
theorem bbI:qp Tryz.prog 28=True:=eq_true ⟨_,Tryz.func28,of_decide_eq_false (by kernel_rfl),rfl⟩
theorem bbH:qp Tryz.prog 29=True:=eq_true ⟨_,Tryz.func29,of_decide_eq_false (by kernel_rfl),rfl⟩
theorem bbG:qp Tryz.prog 30=True:=eq_true ⟨_,Tryz.func30,of_decide_eq_false (by kernel_rfl),rfl⟩
theorem bbF:qp Tryz.prog 31=True:=eq_true ⟨_,Tryz.func31,of_decide_eq_false (by kernel_rfl),rfl⟩
theorem bbE:qp Tryz.prog 32=True:=eq_true ⟨_,Tryz.func32,of_decide_eq_false (by kernel_rfl),rfl⟩
theorem bbD:qp Tryz.prog 33=True:=eq_true ⟨_,Tryz.func33,of_decide_eq_false (by kernel_rfl),rfl⟩
theorem bbC:qp Tryz.prog 34=True:=eq_true ⟨_,Tryz.func34,of_decide_eq_false (by kernel_rfl),rfl⟩
theorem bbB:qp Tryz.prog 35=True:=eq_true ⟨_,Tryz.func35,of_decide_eq_false (by kernel_rfl),rfl⟩
theorem bbA:qp Tryz.prog 36=True:=eq_true ⟨_,Tryz.func36,of_decide_eq_false (by kernel_rfl),rfl⟩
theorem bbz:qp Tryz.prog 37=True:=eq_true ⟨_,Tryz.func37,of_decide_eq_false (by kernel_rfl),rfl⟩
theorem bby:qp Tryz.prog 38=True:=eq_true ⟨_,Tryz.func38,of_decide_eq_false (by kernel_rfl),rfl⟩
theorem bbx:qp Tryz.prog 39=True:=eq_true ⟨_,Tryz.func39,of_decide_eq_false (by kernel_rfl),rfl⟩
theorem bbw:qp Tryz.prog 40=True:=eq_true ⟨_,Tryz.func40,of_decide_eq_false (by kernel_rfl),rfl⟩
theorem bbv:qp Tryz.prog 41=True:=eq_true ⟨_,Tryz.func41,of_decide_eq_false (by kernel_rfl),rfl⟩
theorem bbu:qp Tryz.prog 42=True:=eq_true ⟨_,Tryz.func42,of_decide_eq_false (by kernel_rfl),rfl⟩
theorem bbt:qp Tryz.prog 43=True:=eq_true ⟨_,Tryz.func43,of_decide_eq_false (by kernel_rfl),rfl⟩
theorem bbs:qp Tryz.prog 44=True:=eq_true ⟨_,Tryz.func44,of_decide_eq_false (by kernel_rfl),rfl⟩
theorem bbr:qp Tryz.prog 45=True:=eq_true ⟨_,Tryz.func45,of_decide_eq_false (by kernel_rfl),rfl⟩
theorem bbq:qp Tryz.prog 46=True:=eq_true ⟨_,Tryz.func46,of_decide_eq_false (by kernel_rfl),rfl⟩
theorem bbp:qp Tryz.prog 47=True:=eq_true ⟨_,Tryz.func47,of_decide_eq_false (by kernel_rfl),rfl⟩
theorem bbo:qp Tryz.prog 48=True:=eq_true ⟨_,Tryz.func48,of_decide_eq_false (by kernel_rfl),rfl⟩
theorem bbn:qp Tryz.prog 49=True:=eq_true ⟨_,Tryz.func49,of_decide_eq_false (by kernel_rfl),rfl⟩
theorem bbm:qp Tryz.prog 50=True:=eq_true ⟨_,Tryz.func50,of_decide_eq_false (by kernel_rfl),rfl⟩
theorem bbl:qp Tryz.prog 51=True:=eq_true ⟨_,Tryz.func51,of_decide_eq_false (by kernel_rfl),rfl⟩
theorem bbk:qp Tryz.prog 52=True:=eq_true ⟨_,Tryz.func52,of_decide_eq_false (by kernel_rfl),rfl⟩
theorem bbj:qp Tryz.prog 53=True:=eq_true ⟨_,Tryz.func53,of_decide_eq_false (by kernel_rfl),rfl⟩
theorem bbi:qp Tryz.prog 54=True:=eq_true ⟨_,Tryz.func54,of_decide_eq_false (by kernel_rfl),rfl⟩
theorem bbh:qp Tryz.prog 55=True:=eq_true ⟨_,Tryz.func55,of_decide_eq_false (by kernel_rfl),rfl⟩
theorem bbg:qp Tryz.prog 56=True:=eq_true ⟨_,Tryz.func56,of_decide_eq_false (by kernel_rfl),rfl⟩
theorem bbf:qp Tryz.prog 57=True:=eq_true ⟨_,Tryz.func57,of_decide_eq_false (by kernel_rfl),rfl⟩
theorem bbe:qp Tryz.prog 58=True:=eq_true ⟨_,Tryz.func58,of_decide_eq_false (by kernel_rfl),rfl⟩
theorem bbd:qp Tryz.prog 59=True:=eq_true ⟨_,Tryz.func59,of_decide_eq_false (by kernel_rfl),rfl⟩
theorem bbc:qp Tryz.prog 60=True:=eq_true ⟨_,Tryz.func60,of_decide_eq_false (by kernel_rfl),rfl⟩
theorem bbb:qp Tryz.prog 61=True:=eq_true ⟨_,Tryz.func61,of_decide_eq_false (by kernel_rfl),rfl⟩
theorem bba:qp Tryz.prog 62=True:=eq_true ⟨_,Tryz.func62,of_decide_eq_false (by kernel_rfl),rfl⟩
theorem ba9:qp Tryz.prog 63=True:=eq_true ⟨_,Tryz.func63,of_decide_eq_false (by kernel_rfl),rfl⟩
theorem ba8:qp Tryz.prog 64=True:=eq_true ⟨_,Tryz.func64,of_decide_eq_false (by kernel_rfl),rfl⟩
theorem ba7:qp Tryz.prog 65=True:=eq_true ⟨_,Tryz.func65,of_decide_eq_false (by kernel_rfl),rfl⟩
theorem ba6:qp Tryz.prog 66=True:=eq_true ⟨_,Tryz.func66,of_decide_eq_false (by kernel_rfl),rfl⟩
theorem ba5:qp Tryz.prog 67=True:=eq_true ⟨_,Tryz.func67,of_decide_eq_false (by kernel_rfl),rfl⟩
theorem ba4:qp Tryz.prog 68=True:=eq_true ⟨_,Tryz.func68,of_decide_eq_false (by kernel_rfl),rfl⟩
theorem ba3:qp Tryz.prog 69=True:=eq_true ⟨_,Tryz.func69,of_decide_eq_false (by kernel_rfl),rfl⟩
theorem ba2:qp Tryz.prog 70=True:=eq_true ⟨_,Tryz.func70,of_decide_eq_false (by kernel_rfl),rfl⟩
theorem ba1:qp Tryz.prog 71=True:=eq_true ⟨_,Tryz.func71,of_decide_eq_false (by kernel_rfl),rfl⟩
theorem ba0:qp Tryz.prog 72=True:=eq_true ⟨_,Tryz.func72,of_decide_eq_false (by kernel_rfl),rfl⟩
theorem baZ:qp Tryz.prog 73=True:=eq_true ⟨_,Tryz.func73,of_decide_eq_false (by kernel_rfl),rfl⟩
theorem baY:qp Tryz.prog 74=True:=eq_true ⟨_,Tryz.func74,of_decide_eq_false (by kernel_rfl),rfl⟩
theorem baX:qp Tryz.prog 75=True:=eq_true ⟨_,Tryz.func75,of_decide_eq_false (by kernel_rfl),rfl⟩
theorem baW:qp Tryz.prog 76=True:=eq_true ⟨_,Tryz.func76,of_decide_eq_false (by kernel_rfl),rfl⟩
theorem baV:qp Tryz.prog 77=True:=eq_true ⟨_,Tryz.func77,of_decide_eq_false (by kernel_rfl),rfl⟩
theorem baU:qp Tryz.prog 78=True:=eq_true ⟨_,Tryz.func78,of_decide_eq_false (by kernel_rfl),rfl⟩
theorem baT:qp Tryz.prog 79=True:=eq_true ⟨_,Tryz.func79,of_decide_eq_false (by kernel_rfl),rfl⟩
theorem baS:qp Tryz.prog 80=True:=eq_true ⟨_,Tryz.func80,of_decide_eq_false (by kernel_rfl),rfl⟩
theorem baR:qp Tryz.prog 81=True:=eq_true ⟨_,Tryz.func81,of_decide_eq_false (by kernel_rfl),rfl⟩
theorem baQ:qp Tryz.prog 82=True:=eq_true ⟨_,Tryz.func82,of_decide_eq_false (by kernel_rfl),rfl⟩
theorem baP:qp Tryz.prog 83=True:=eq_true ⟨_,Tryz.func83,of_decide_eq_false (by kernel_rfl),rfl⟩
theorem baO:qp Tryz.prog 84=True:=eq_true ⟨_,Tryz.func84,of_decide_eq_false (by kernel_rfl),rfl⟩
theorem baN:qp Tryz.prog 85=True:=eq_true ⟨_,Tryz.func85,of_decide_eq_false (by kernel_rfl),rfl⟩
theorem baM:qp Tryz.prog 86=True:=eq_true ⟨_,Tryz.func86,of_decide_eq_false (by kernel_rfl),rfl⟩
theorem baL:qp Tryz.prog 87=True:=eq_true ⟨_,Tryz.func87,of_decide_eq_false (by kernel_rfl),rfl⟩
theorem baK:qp Tryz.prog 88=True:=eq_true ⟨_,Tryz.func88,of_decide_eq_false (by kernel_rfl),rfl⟩
theorem baJ:qp Tryz.prog 89=True:=eq_true ⟨_,Tryz.func89,of_decide_eq_false (by kernel_rfl),rfl⟩
theorem baI:qp Tryz.prog 90=True:=eq_true ⟨_,Tryz.func90,of_decide_eq_false (by kernel_rfl),rfl⟩
theorem baH:qp Tryz.prog 91=True:=eq_true ⟨_,Tryz.func91,of_decide_eq_false (by kernel_rfl),rfl⟩
theorem baG:qp Tryz.prog 92=True:=eq_true ⟨_,Tryz.func92,of_decide_eq_false (by kernel_rfl),rfl⟩
theorem baF:qp Tryz.prog 93=True:=eq_true ⟨_,Tryz.func93,of_decide_eq_false (by kernel_rfl),rfl⟩
theorem baE:qp Tryz.prog 94=True:=eq_true ⟨_,Tryz.func94,of_decide_eq_false (by kernel_rfl),rfl⟩
theorem baD:qp Tryz.prog 95=True:=eq_true ⟨_,Tryz.func95,of_decide_eq_false (by kernel_rfl),rfl⟩
theorem baC:qp Tryz.prog 96=True:=eq_true ⟨_,Tryz.func96,of_decide_eq_false (by kernel_rfl),rfl⟩
theorem baB:qp Tryz.prog 97=True:=eq_true ⟨_,Tryz.func97,of_decide_eq_false (by kernel_rfl),rfl⟩
theorem baA:qp Tryz.prog 98=True:=eq_true ⟨_,Tryz.func98,of_decide_eq_false (by kernel_rfl),rfl⟩
theorem baz:qp Tryz.prog 99=True:=eq_true ⟨_,Tryz.func99,of_decide_eq_false (by kernel_rfl),rfl⟩
theorem aTm:qp Tryz.prog 100=True:=eq_true ⟨_,Tryz.func100,of_decide_eq_false (by kernel_rfl),rfl⟩
theorem aTl:qp Tryz.prog 101=True:=eq_true ⟨_,Tryz.func101,of_decide_eq_false (by kernel_rfl),rfl⟩
theorem aTk:qp Tryz.prog 102=True:=eq_true ⟨_,Tryz.func102,of_decide_eq_false (by kernel_rfl),rfl⟩
theorem aTj:qp Tryz.prog 103=True:=eq_true ⟨_,Tryz.func103,of_decide_eq_false (by kernel_rfl),rfl⟩
theorem aTi:qp Tryz.prog 104=True:=eq_true ⟨_,Tryz.func104,of_decide_eq_false (by kernel_rfl),rfl⟩
theorem aTh:qp Tryz.prog 105=True:=eq_true ⟨_,Tryz.func105,of_decide_eq_false (by kernel_rfl),rfl⟩
theorem aTg:qp Tryz.prog 106=True:=eq_true ⟨_,Tryz.func106,of_decide_eq_false (by kernel_rfl),rfl⟩
theorem aTf:qp Tryz.prog 107=True:=eq_true ⟨_,Tryz.func107,of_decide_eq_false (by kernel_rfl),rfl⟩
theorem aTe:qp Tryz.prog 108=True:=eq_true ⟨_,Tryz.func108,of_decide_eq_false (by kernel_rfl),rfl⟩
theorem aTd:qp Tryz.prog 109=True:=eq_true ⟨_,Tryz.func109,of_decide_eq_false (by kernel_rfl),rfl⟩
theorem aTc:qp Tryz.prog 110=True:=eq_true ⟨_,Tryz.func110,of_decide_eq_false (by kernel_rfl),rfl⟩
theorem aTb:qp Tryz.prog 111=True:=eq_true ⟨_,Tryz.func111,of_decide_eq_false (by kernel_rfl),rfl⟩
theorem aTa:qp Tryz.prog 112=True:=eq_true ⟨_,Tryz.func112,of_decide_eq_false (by kernel_rfl),rfl⟩
theorem aS9:qp Tryz.prog 113=True:=eq_true ⟨_,Tryz.func113,of_decide_eq_false (by kernel_rfl),rfl⟩
theorem aS8:qp Tryz.prog 114=True:=eq_true ⟨_,Tryz.func114,of_decide_eq_false (by kernel_rfl),rfl⟩
theorem aS7:qp Tryz.prog 115=True:=eq_true ⟨_,Tryz.func115,of_decide_eq_false (by kernel_rfl),rfl⟩
theorem aS6:qp Tryz.prog 116=True:=eq_true ⟨_,Tryz.func116,of_decide_eq_false (by kernel_rfl),rfl⟩
theorem aS5:qp Tryz.prog 117=True:=eq_true ⟨_,Tryz.func117,of_decide_eq_false (by kernel_rfl),rfl⟩
theorem aS4:qp Tryz.prog 118=True:=eq_true ⟨_,Tryz.func118,of_decide_eq_false (by kernel_rfl),rfl⟩
theorem aS3:qp Tryz.prog 119=True:=eq_true ⟨_,Tryz.func119,of_decide_eq_false (by kernel_rfl),rfl⟩
theorem aS2:qp Tryz.prog 120=True:=eq_true ⟨_,Tryz.func120,of_decide_eq_false (by kernel_rfl),rfl⟩
theorem aS1:qp Tryz.prog 121=True:=eq_true ⟨_,Tryz.func121,of_decide_eq_false (by kernel_rfl),rfl⟩
theorem aS0:qp Tryz.prog 122=True:=eq_true ⟨_,Tryz.func122,of_decide_eq_false (by kernel_rfl),rfl⟩
theorem aSZ:qp Tryz.prog 123=True:=eq_true ⟨_,Tryz.func123,of_decide_eq_false (by kernel_rfl),rfl⟩
theorem aSY:qp Tryz.prog 124=True:=eq_true ⟨_,Tryz.func124,of_decide_eq_false (by kernel_rfl),rfl⟩
theorem aSX:qp Tryz.prog 125=True:=eq_true ⟨_,Tryz.func125,of_decide_eq_false (by kernel_rfl),rfl⟩
theorem aSW:qp Tryz.prog 126=True:=eq_true ⟨_,Tryz.func126,of_decide_eq_false (by kernel_rfl),rfl⟩
theorem aSV:qp Tryz.prog 127=True:=eq_true ⟨_,Tryz.func127,of_decide_eq_false (by kernel_rfl),rfl⟩
theorem aSU:qp Tryz.prog 128=True:=eq_true ⟨_,Tryz.func128,of_decide_eq_false (by kernel_rfl),rfl⟩
theorem aST:qp Tryz.prog 129=True:=eq_true ⟨_,Tryz.func129,of_decide_eq_false (by kernel_rfl),rfl⟩
theorem aSS:qp Tryz.prog 130=True:=eq_true ⟨_,Tryz.func130,of_decide_eq_false (by kernel_rfl),rfl⟩
theorem aSR:qp Tryz.prog 131=True:=eq_true ⟨_,Tryz.func131,of_decide_eq_false (by kernel_rfl),rfl⟩
theorem aSQ:qp Tryz.prog 132=True:=eq_true ⟨_,Tryz.func132,of_decide_eq_false (by kernel_rfl),rfl⟩
theorem aSP:qp Tryz.prog 133=True:=eq_true ⟨_,Tryz.func133,of_decide_eq_false (by kernel_rfl),rfl⟩
theorem aSO:qp Tryz.prog 134=True:=eq_true ⟨_,Tryz.func134,of_decide_eq_false (by kernel_rfl),rfl⟩
theorem aSN:qp Tryz.prog 135=True:=eq_true ⟨_,Tryz.func135,of_decide_eq_false (by kernel_rfl),rfl⟩
theorem aSM:qp Tryz.prog 136=True:=eq_true ⟨_,Tryz.func136,of_decide_eq_false (by kernel_rfl),rfl⟩
theorem aSL:qp Tryz.prog 137=True:=eq_true ⟨_,Tryz.func137,of_decide_eq_false (by kernel_rfl),rfl⟩
theorem aSK:qp Tryz.prog 138=True:=eq_true ⟨_,Tryz.func138,of_decide_eq_false (by kernel_rfl),rfl⟩
theorem aSJ:qp Tryz.prog 139=True:=eq_true ⟨_,Tryz.func139,of_decide_eq_false (by kernel_rfl),rfl⟩
theorem aSI:qp Tryz.prog 140=True:=eq_true ⟨_,Tryz.func140,of_decide_eq_false (by kernel_rfl),rfl⟩
theorem aSH:qp Tryz.prog 141=True:=eq_true ⟨_,Tryz.func141,of_decide_eq_false (by kernel_rfl),rfl⟩
theorem aSG:qp Tryz.prog 142=True:=eq_true ⟨_,Tryz.func142,of_decide_eq_false (by kernel_rfl),rfl⟩
theorem aSF:qp Tryz.prog 143=True:=eq_true ⟨_,Tryz.func143,of_decide_eq_false (by kernel_rfl),rfl⟩
theorem aSE:qp Tryz.prog 144=True:=eq_true ⟨_,Tryz.func144,of_decide_eq_false (by kernel_rfl),rfl⟩
theorem aSD:qp Tryz.prog 145=True:=eq_true ⟨_,Tryz.func145,of_decide_eq_false (by kernel_rfl),rfl⟩
theorem aSC:qp Tryz.prog 146=True:=eq_true ⟨_,Tryz.func146,of_decide_eq_false (by kernel_rfl),rfl⟩
theorem aSB:qp Tryz.prog 147=True:=eq_true ⟨_,Tryz.func147,of_decide_eq_false (by kernel_rfl),rfl⟩
theorem aSA:qp Tryz.prog 148=True:=eq_true ⟨_,Tryz.func148,of_decide_eq_false (by kernel_rfl),rfl⟩
theorem aSz:qp Tryz.prog 149=True:=eq_true ⟨_,Tryz.func149,of_decide_eq_false (by kernel_rfl),rfl⟩
theorem aSy:qp Tryz.prog 150=True:=eq_true ⟨_,Tryz.func150,of_decide_eq_false (by kernel_rfl),rfl⟩
theorem aSx:qp Tryz.prog 151=True:=eq_true ⟨_,Tryz.func151,of_decide_eq_false (by kernel_rfl),rfl⟩
theorem aSw:qp Tryz.prog 152=True:=eq_true ⟨_,Tryz.func152,of_decide_eq_false (by kernel_rfl),rfl⟩
theorem aSv:qp Tryz.prog 153=True:=eq_true ⟨_,Tryz.func153,of_decide_eq_false (by kernel_rfl),rfl⟩
theorem aSu:qp Tryz.prog 154=True:=eq_true ⟨_,Tryz.func154,of_decide_eq_false (by kernel_rfl),rfl⟩
theorem aSt:qp Tryz.prog 155=True:=eq_true ⟨_,Tryz.func155,of_decide_eq_false (by kernel_rfl),rfl⟩
theorem aSs:qp Tryz.prog 156=True:=eq_true ⟨_,Tryz.func156,of_decide_eq_false (by kernel_rfl),rfl⟩
theorem aSr:qp Tryz.prog 157=True:=eq_true ⟨_,Tryz.func157,of_decide_eq_false (by kernel_rfl),rfl⟩
theorem aSq:qp Tryz.prog 158=True:=eq_true ⟨_,Tryz.func158,of_decide_eq_false (by kernel_rfl),rfl⟩
theorem aSp:qp Tryz.prog 159=True:=eq_true ⟨_,Tryz.func159,of_decide_eq_false (by kernel_rfl),rfl⟩
theorem aSo:qp Tryz.prog 160=True:=eq_true ⟨_,Tryz.func160,of_decide_eq_false (by kernel_rfl),rfl⟩
theorem aSn:qp Tryz.prog 161=True:=eq_true ⟨_,Tryz.func161,of_decide_eq_false (by kernel_rfl),rfl⟩
theorem aSm:qp Tryz.prog 162=True:=eq_true ⟨_,Tryz.func162,of_decide_eq_false (by kernel_rfl),rfl⟩
theorem aSl:qp Tryz.prog 163=True:=eq_true ⟨_,Tryz.func163,of_decide_eq_false (by kernel_rfl),rfl⟩
theorem aSk:qp Tryz.prog 164=True:=eq_true ⟨_,Tryz.func164,of_decide_eq_false (by kernel_rfl),rfl⟩
theorem aSj:qp Tryz.prog 165=True:=eq_true ⟨_,Tryz.func165,of_decide_eq_false (by kernel_rfl),rfl⟩
theorem aSi:qp Tryz.prog 166=True:=eq_true ⟨_,Tryz.func166,of_decide_eq_false (by kernel_rfl),rfl⟩
theorem aSh:qp Tryz.prog 167=True:=eq_true ⟨_,Tryz.func167,of_decide_eq_false (by kernel_rfl),rfl⟩
theorem aSg:qp Tryz.prog 168=True:=eq_true ⟨_,Tryz.func168,of_decide_eq_false (by kernel_rfl),rfl⟩
theorem aSf:qp Tryz.prog 169=True:=eq_true ⟨_,Tryz.func169,of_decide_eq_false (by kernel_rfl),rfl⟩
theorem aSe:qp Tryz.prog 170=True:=eq_true ⟨_,Tryz.func170,of_decide_eq_false (by kernel_rfl),rfl⟩
theorem aSd:qp Tryz.prog 171=True:=eq_true ⟨_,Tryz.func171,of_decide_eq_false (by kernel_rfl),rfl⟩
theorem aSc:qp Tryz.prog 172=True:=eq_true ⟨_,Tryz.func172,of_decide_eq_false (by kernel_rfl),rfl⟩
theorem aSb:qp Tryz.prog 173=True:=eq_true ⟨_,Tryz.func173,of_decide_eq_false (by kernel_rfl),rfl⟩
theorem aSa:qp Tryz.prog 174=True:=eq_true ⟨_,Tryz.func174,of_decide_eq_false (by kernel_rfl),rfl⟩
theorem aR9:qp Tryz.prog 175=True:=eq_true ⟨_,Tryz.func175,of_decide_eq_false (by kernel_rfl),rfl⟩
theorem aR8:qp Tryz.prog 176=True:=eq_true ⟨_,Tryz.func176,of_decide_eq_false (by kernel_rfl),rfl⟩
theorem aR7:qp Tryz.prog 177=True:=eq_true ⟨_,Tryz.func177,of_decide_eq_false (by kernel_rfl),rfl⟩
theorem aR6:qp Tryz.prog 178=True:=eq_true ⟨_,Tryz.func178,of_decide_eq_false (by kernel_rfl),rfl⟩
theorem aR5:qp Tryz.prog 179=True:=eq_true ⟨_,Tryz.func179,of_decide_eq_false (by kernel_rfl),rfl⟩
theorem aR4:qp Tryz.prog 180=True:=eq_true ⟨_,Tryz.func180,of_decide_eq_false (by kernel_rfl),rfl⟩
theorem aR3:qp Tryz.prog 181=True:=eq_true ⟨_,Tryz.func181,of_decide_eq_false (by kernel_rfl),rfl⟩
theorem aR2:qp Tryz.prog 182=True:=eq_true ⟨_,Tryz.func182,of_decide_eq_false (by kernel_rfl),rfl⟩
theorem aR1:qp Tryz.prog 183=True:=eq_true ⟨_,Tryz.func183,of_decide_eq_false (by kernel_rfl),rfl⟩
theorem aR0:qp Tryz.prog 184=True:=eq_true ⟨_,Tryz.func184,of_decide_eq_false (by kernel_rfl),rfl⟩
theorem aRZ:qp Tryz.prog 185=True:=eq_true ⟨_,Tryz.func185,of_decide_eq_false (by kernel_rfl),rfl⟩
theorem aRY:qp Tryz.prog 186=True:=eq_true ⟨_,Tryz.func186,of_decide_eq_false (by kernel_rfl),rfl⟩
theorem aRX:qp Tryz.prog 187=True:=eq_true ⟨_,Tryz.func187,of_decide_eq_false (by kernel_rfl),rfl⟩
theorem aRW:qp Tryz.prog 188=True:=eq_true ⟨_,Tryz.func188,of_decide_eq_false (by kernel_rfl),rfl⟩
theorem aRV:qp Tryz.prog 189=True:=eq_true ⟨_,Tryz.func189,of_decide_eq_false (by kernel_rfl),rfl⟩
theorem aRU:qp Tryz.prog 190=True:=eq_true ⟨_,Tryz.func190,of_decide_eq_false (by kernel_rfl),rfl⟩
theorem aRT:qp Tryz.prog 191=True:=eq_true ⟨_,Tryz.func191,of_decide_eq_false (by kernel_rfl),rfl⟩
theorem aRS:qp Tryz.prog 192=True:=eq_true ⟨_,Tryz.func192,of_decide_eq_false (by kernel_rfl),rfl⟩
theorem aRR:qp Tryz.prog 193=True:=eq_true ⟨_,Tryz.func193,of_decide_eq_false (by kernel_rfl),rfl⟩
theorem aRQ:qp Tryz.prog 194=True:=eq_true ⟨_,Tryz.func194,of_decide_eq_false (by kernel_rfl),rfl⟩
theorem aRP:qp Tryz.prog 195=True:=eq_true ⟨_,Tryz.func195,of_decide_eq_false (by kernel_rfl),rfl⟩
theorem aRO:qp Tryz.prog 196=True:=eq_true ⟨_,Tryz.func196,of_decide_eq_false (by kernel_rfl),rfl⟩
theorem aRN:qp Tryz.prog 197=True:=eq_true ⟨_,Tryz.func197,of_decide_eq_false (by kernel_rfl),rfl⟩
theorem aRM:qp Tryz.prog 198=True:=eq_true ⟨_,Tryz.func198,of_decide_eq_false (by kernel_rfl),rfl⟩
theorem aRL:qp Tryz.prog 199=True:=eq_true ⟨_,Tryz.func199,of_decide_eq_false (by kernel_rfl),rfl⟩
theorem aRK:qp Tryz.prog 200=True:=eq_true ⟨_,Tryz.func200,of_decide_eq_false (by kernel_rfl),rfl⟩
theorem aRJ:qp Tryz.prog 201=True:=eq_true ⟨_,Tryz.func201,of_decide_eq_false (by kernel_rfl),rfl⟩
theorem aRI:qp Tryz.prog 202=True:=eq_true ⟨_,Tryz.func202,of_decide_eq_false (by kernel_rfl),rfl⟩
theorem aRH:qp Tryz.prog 203=True:=eq_true ⟨_,Tryz.func203,of_decide_eq_false (by kernel_rfl),rfl⟩
theorem aRG:qp Tryz.prog 204=True:=eq_true ⟨_,Tryz.func204,of_decide_eq_false (by kernel_rfl),rfl⟩
theorem aRF:qp Tryz.prog 205=True:=eq_true ⟨_,Tryz.func205,of_decide_eq_false (by kernel_rfl),rfl⟩
theorem aRE:qp Tryz.prog 206=True:=eq_true ⟨_,Tryz.func206,of_decide_eq_false (by kernel_rfl),rfl⟩
theorem aRD:qp Tryz.prog 207=True:=eq_true ⟨_,Tryz.func207,of_decide_eq_false (by kernel_rfl),rfl⟩
theorem aRC:qp Tryz.prog 208=True:=eq_true ⟨_,Tryz.func208,of_decide_eq_false (by kernel_rfl),rfl⟩
theorem aRB:qp Tryz.prog 209=True:=eq_true ⟨_,Tryz.func209,of_decide_eq_false (by kernel_rfl),rfl⟩
theorem aRA:qp Tryz.prog 210=True:=eq_true ⟨_,Tryz.func210,of_decide_eq_false (by kernel_rfl),rfl⟩
theorem aRz:qp Tryz.prog 211=True:=eq_true ⟨_,Tryz.func211,of_decide_eq_false (by kernel_rfl),rfl⟩
theorem aRy:qp Tryz.prog 212=True:=eq_true ⟨_,Tryz.func212,of_decide_eq_false (by kernel_rfl),rfl⟩
theorem aRx:qp Tryz.prog 213=True:=eq_true ⟨_,Tryz.func213,of_decide_eq_false (by kernel_rfl),rfl⟩
theorem aRw:qp Tryz.prog 214=True:=eq_true ⟨_,Tryz.func214,of_decide_eq_false (by kernel_rfl),rfl⟩
theorem aRv:qp Tryz.prog 215=True:=eq_true ⟨_,Tryz.func215,of_decide_eq_false (by kernel_rfl),rfl⟩
theorem aRu:qp Tryz.prog 216=True:=eq_true ⟨_,Tryz.func216,of_decide_eq_false (by kernel_rfl),rfl⟩
theorem aRt:qp Tryz.prog 217=True:=eq_true ⟨_,Tryz.func217,of_decide_eq_false (by kernel_rfl),rfl⟩
theorem aRs:qp Tryz.prog 218=True:=eq_true ⟨_,Tryz.func218,of_decide_eq_false (by kernel_rfl),rfl⟩
theorem aRr:qp Tryz.prog 219=True:=eq_true ⟨_,Tryz.func219,of_decide_eq_false (by kernel_rfl),rfl⟩
theorem aRq:qp Tryz.prog 220=True:=eq_true ⟨_,Tryz.func220,of_decide_eq_false (by kernel_rfl),rfl⟩
theorem aRp:qp Tryz.prog 221=True:=eq_true ⟨_,Tryz.func221,of_decide_eq_false (by kernel_rfl),rfl⟩
theorem aRo:qp Tryz.prog 222=True:=eq_true ⟨_,Tryz.func222,of_decide_eq_false (by kernel_rfl),rfl⟩
theorem aRn:qp Tryz.prog 223=True:=eq_true ⟨_,Tryz.func223,of_decide_eq_false (by kernel_rfl),rfl⟩
theorem aRm:qp Tryz.prog 224=True:=eq_true ⟨_,Tryz.func224,of_decide_eq_false (by kernel_rfl),rfl⟩
theorem aRl:qp Tryz.prog 225=True:=eq_true ⟨_,Tryz.func225,of_decide_eq_false (by kernel_rfl),rfl⟩
theorem aRk:qp Tryz.prog 226=True:=eq_true ⟨_,Tryz.func226,of_decide_eq_false (by kernel_rfl),rfl⟩
theorem aRj:qp Tryz.prog 227=True:=eq_true ⟨_,Tryz.func227,of_decide_eq_false (by kernel_rfl),rfl⟩
theorem aRi:qp Tryz.prog 228=True:=eq_true ⟨_,Tryz.func228,of_decide_eq_false (by kernel_rfl),rfl⟩
theorem aRh:qp Tryz.prog 229=True:=eq_true ⟨_,Tryz.func229,of_decide_eq_false (by kernel_rfl),rfl⟩
theorem aRg:qp Tryz.prog 230=True:=eq_true ⟨_,Tryz.func230,of_decide_eq_false (by kernel_rfl),rfl⟩
theorem aRf:qp Tryz.prog 231=True:=eq_true ⟨_,Tryz.func231,of_decide_eq_false (by kernel_rfl),rfl⟩
theorem aRe:qp Tryz.prog 232=True:=eq_true ⟨_,Tryz.func232,of_decide_eq_false (by kernel_rfl),rfl⟩
theorem aRd:qp Tryz.prog 233=True:=eq_true ⟨_,Tryz.func233,of_decide_eq_false (by kernel_rfl),rfl⟩
theorem aRc:qp Tryz.prog 234=True:=eq_true ⟨_,Tryz.func234,of_decide_eq_false (by kernel_rfl),rfl⟩
theorem aRb:qp Tryz.prog 235=True:=eq_true ⟨_,Tryz.func235,of_decide_eq_false (by kernel_rfl),rfl⟩
theorem aRa:qp Tryz.prog 236=True:=eq_true ⟨_,Tryz.func236,of_decide_eq_false (by kernel_rfl),rfl⟩
theorem aQ9:qp Tryz.prog 237=True:=eq_true ⟨_,Tryz.func237,of_decide_eq_false (by kernel_rfl),rfl⟩
theorem aQ8:qp Tryz.prog 238=True:=eq_true ⟨_,Tryz.func238,of_decide_eq_false (by kernel_rfl),rfl⟩
theorem aQ7:qp Tryz.prog 239=True:=eq_true ⟨_,Tryz.func239,of_decide_eq_false (by kernel_rfl),rfl⟩
theorem aQ6:qp Tryz.prog 240=True:=eq_true ⟨_,Tryz.func240,of_decide_eq_false (by kernel_rfl),rfl⟩
theorem aQ5:qp Tryz.prog 241=True:=eq_true ⟨_,Tryz.func241,of_decide_eq_false (by kernel_rfl),rfl⟩
theorem aQ4:qp Tryz.prog 242=True:=eq_true ⟨_,Tryz.func242,of_decide_eq_false (by kernel_rfl),rfl⟩
theorem aQ3:qp Tryz.prog 243=True:=eq_true ⟨_,Tryz.func243,of_decide_eq_false (by kernel_rfl),rfl⟩
theorem aQ2:qp Tryz.prog 244=True:=eq_true ⟨_,Tryz.func244,of_decide_eq_false (by kernel_rfl),rfl⟩
theorem aQ1:qp Tryz.prog 245=True:=eq_true ⟨_,Tryz.func245,of_decide_eq_false (by kernel_rfl),rfl⟩
theorem aQ0:qp Tryz.prog 246=True:=eq_true ⟨_,Tryz.func246,of_decide_eq_false (by kernel_rfl),rfl⟩
theorem aQZ:qp Tryz.prog 247=True:=eq_true ⟨_,Tryz.func247,of_decide_eq_false (by kernel_rfl),rfl⟩
theorem aQY:qp Tryz.prog 248=True:=eq_true ⟨_,Tryz.func248,of_decide_eq_false (by kernel_rfl),rfl⟩
theorem aQX:qp Tryz.prog 249=True:=eq_true ⟨_,Tryz.func249,of_decide_eq_false (by kernel_rfl),rfl⟩
theorem aQW:qp Tryz.prog 250=True:=eq_true ⟨_,Tryz.func250,of_decide_eq_false (by kernel_rfl),rfl⟩
theorem aQV:qp Tryz.prog 251=True:=eq_true ⟨_,Tryz.func251,of_decide_eq_false (by kernel_rfl),rfl⟩
theorem aQU:qp Tryz.prog 252=True:=eq_true ⟨_,Tryz.func252,of_decide_eq_false (by kernel_rfl),rfl⟩
theorem aQT:qp Tryz.prog 253=True:=eq_true ⟨_,Tryz.func253,of_decide_eq_false (by kernel_rfl),rfl⟩
theorem aQS:qp Tryz.prog 254=True:=eq_true ⟨_,Tryz.func254,of_decide_eq_false (by kernel_rfl),rfl⟩
theorem aQR:qp Tryz.prog 255=True:=eq_true ⟨_,Tryz.func255,of_decide_eq_false (by kernel_rfl),rfl⟩
theorem aQQ:qp Tryz.prog 256=True:=eq_true ⟨_,Tryz.func256,of_decide_eq_false (by kernel_rfl),rfl⟩
theorem aQP:qp Tryz.prog 257=True:=eq_true ⟨_,Tryz.func257,of_decide_eq_false (by kernel_rfl),rfl⟩
theorem aQO:qp Tryz.prog 258=True:=eq_true ⟨_,Tryz.func258,of_decide_eq_false (by kernel_rfl),rfl⟩
theorem aQN:qp Tryz.prog 259=True:=eq_true ⟨_,Tryz.func259,of_decide_eq_false (by kernel_rfl),rfl⟩
theorem aQM:qp Tryz.prog 260=True:=eq_true ⟨_,Tryz.func260,of_decide_eq_false (by kernel_rfl),rfl⟩
theorem aQL:qp Tryz.prog 261=True:=eq_true ⟨_,Tryz.func261,of_decide_eq_false (by kernel_rfl),rfl⟩
theorem aQK:qp Tryz.prog 262=True:=eq_true ⟨_,Tryz.func262,of_decide_eq_false (by kernel_rfl),rfl⟩
theorem aQJ:qp Tryz.prog 263=True:=eq_true ⟨_,Tryz.func263,of_decide_eq_false (by kernel_rfl),rfl⟩
theorem aQI:qp Tryz.prog 264=True:=eq_true ⟨_,Tryz.func264,of_decide_eq_false (by kernel_rfl),rfl⟩
theorem aQH:qp Tryz.prog 265=True:=eq_true ⟨_,Tryz.func265,of_decide_eq_false (by kernel_rfl),rfl⟩
theorem aQG:qp Tryz.prog 266=True:=eq_true ⟨_,Tryz.func266,of_decide_eq_false (by kernel_rfl),rfl⟩
theorem aQF:qp Tryz.prog 267=True:=eq_true ⟨_,Tryz.func267,of_decide_eq_false (by kernel_rfl),rfl⟩
theorem aQE:qp Tryz.prog 268=True:=eq_true ⟨_,Tryz.func268,of_decide_eq_false (by kernel_rfl),rfl⟩
theorem aQD:qp Tryz.prog 269=True:=eq_true ⟨_,Tryz.func269,of_decide_eq_false (by kernel_rfl),rfl⟩
theorem aQC:qp Tryz.prog 270=True:=eq_true ⟨_,Tryz.func270,of_decide_eq_false (by kernel_rfl),rfl⟩
theorem aQB:qp Tryz.prog 271=True:=eq_true ⟨_,Tryz.func271,of_decide_eq_false (by kernel_rfl),rfl⟩
theorem aQA:qp Tryz.prog 272=True:=eq_true ⟨_,Tryz.func272,of_decide_eq_false (by kernel_rfl),rfl⟩
theorem aQz:qp Tryz.prog 273=True:=eq_true ⟨_,Tryz.func273,of_decide_eq_false (by kernel_rfl),rfl⟩
theorem aQy:qp Tryz.prog 274=True:=eq_true ⟨_,Tryz.func274,of_decide_eq_false (by kernel_rfl),rfl⟩
theorem aQx:qp Tryz.prog 275=True:=eq_true ⟨_,Tryz.func275,of_decide_eq_false (by kernel_rfl),rfl⟩
theorem aQw:qp Tryz.prog 276=True:=eq_true ⟨_,Tryz.func276,of_decide_eq_false (by kernel_rfl),rfl⟩
theorem aQv:qp Tryz.prog 277=True:=eq_true ⟨_,Tryz.func277,of_decide_eq_false (by kernel_rfl),rfl⟩
theorem aQu:qp Tryz.prog 278=True:=eq_true ⟨_,Tryz.func278,of_decide_eq_false (by kernel_rfl),rfl⟩
theorem aQt:qp Tryz.prog 279=True:=eq_true ⟨_,Tryz.func279,of_decide_eq_false (by kernel_rfl),rfl⟩
theorem aQs:qp Tryz.prog 280=True:=eq_true ⟨_,Tryz.func280,of_decide_eq_false (by kernel_rfl),rfl⟩
theorem aQr:qp Tryz.prog 281=True:=eq_true ⟨_,Tryz.func281,of_decide_eq_false (by kernel_rfl),rfl⟩
theorem aQq:qp Tryz.prog 282=True:=eq_true ⟨_,Tryz.func282,of_decide_eq_false (by kernel_rfl),rfl⟩
theorem aQp:qp Tryz.prog 283=True:=eq_true ⟨_,Tryz.func283,of_decide_eq_false (by kernel_rfl),rfl⟩
theorem aQo:qp Tryz.prog 284=True:=eq_true ⟨_,Tryz.func284,of_decide_eq_false (by kernel_rfl),rfl⟩
theorem aQn:qp Tryz.prog 285=True:=eq_true ⟨_,Tryz.func285,of_decide_eq_false (by kernel_rfl),rfl⟩
theorem aQm:qp Tryz.prog 286=True:=eq_true ⟨_,Tryz.func286,of_decide_eq_false (by kernel_rfl),rfl⟩
theorem aQl:qp Tryz.prog 287=True:=eq_true ⟨_,Tryz.func287,of_decide_eq_false (by kernel_rfl),rfl⟩
theorem aQk:qp Tryz.prog 288=True:=eq_true ⟨_,Tryz.func288,of_decide_eq_false (by kernel_rfl),rfl⟩
theorem aQj:qp Tryz.prog 289=True:=eq_true ⟨_,Tryz.func289,of_decide_eq_false (by kernel_rfl),rfl⟩
theorem aQi:qp Tryz.prog 290=True:=eq_true ⟨_,Tryz.func290,of_decide_eq_false (by kernel_rfl),rfl⟩
theorem aQh:qp Tryz.prog 291=True:=eq_true ⟨_,Tryz.func291,of_decide_eq_false (by kernel_rfl),rfl⟩
theorem aQg:qp Tryz.prog 292=True:=eq_true ⟨_,Tryz.func292,of_decide_eq_false (by kernel_rfl),rfl⟩
theorem aQf:qp Tryz.prog 293=True:=eq_true ⟨_,Tryz.func293,of_decide_eq_false (by kernel_rfl),rfl⟩
theorem aQe:qp Tryz.prog 294=True:=eq_true ⟨_,Tryz.func294,of_decide_eq_false (by kernel_rfl),rfl⟩
theorem aQd:qp Tryz.prog 295=True:=eq_true ⟨_,Tryz.func295,of_decide_eq_false (by kernel_rfl),rfl⟩
theorem aQc:qp Tryz.prog 296=True:=eq_true ⟨_,Tryz.func296,of_decide_eq_false (by kernel_rfl),rfl⟩
theorem aQb:qp Tryz.prog 318=True:=eq_true ⟨_,Tryz.func318,of_decide_eq_false (by kernel_rfl),rfl⟩
attribute [go_sem] ty1 aOn aJq awH ang aOl aOm ty2 aOk aI4
attribute [go_sem] atv al4 aOi aOj ty3 aOh aIz atk alR aOf
attribute [go_sem] aOg ty4 aOe aIa atb alI aOc aOd ty5 aOb
attribute [go_sem] aHO as3 alw aN9 aOa ty6 aN8 aHm asT alm
attribute [go_sem] aN6 aN7 ty7 aN5 aG3 asM ale aN3 aN4 aTv
attribute [go_sem] aZ5 aTu aZ4 aTt aZ3 aTs aZ2 bfe ty8 aN2
attribute [go_sem] aGE asD ak3 aN0 aN1 aTr aZ1 aTq aZ0 aTp
attribute [go_sem] aZZ aTo aZY bfd ty9 aNZ aGf asu akU aNX
attribute [go_sem] aNY bdG aJz aAP aoG ajl aJx aJy bdF aJw
attribute [go_sem] aAk aov aja aJu aJv bdE aJt azP aok aiZ
attribute [go_sem] aJr aJs bdD aJp avQ amX ahF aJn aJo bdC
attribute [go_sem] aJm avo amN ahv aJk aJl aZP bdB aJj auT
attribute [go_sem] amC ahk aJh aJi aZO bdA aJg auu ams ahb
attribute [go_sem] aJe aJf aMj aPk aMi aPj bcl bdz aJd at2
attribute [go_sem] amh ag1 aJb aJc aMh aPi aMg aPh bck bdy
attribute [go_sem] aJa atx al6 agQ aI8 aI9 bdx aI7 atw al5
attribute [go_sem] agP aI5 aI6 bdw aI3 atu al3 agO aI1 aI2
attribute [go_sem] bdv aI0 att al2 agN aIY aIZ bdu aIX ats
attribute [go_sem] al1 agM aIV aIW bdt aIU atr al0 agL aIS
attribute [go_sem] aIT bds aIR atq alZ agK aIP aIQ aZN bdr
attribute [go_sem] aIO atp alY agJ aIM aIN aMf aPg bcj bdq
attribute [go_sem] aIL ato alX agI aIJ aIK aMe aPf bci bdp
attribute [go_sem] aII atn alV agH aIG aIH aMd aPe aMc aPd
attribute [go_sem] bch bdo aIF atm alU agG aID aIE aMb aPc
attribute [go_sem] aMa aPb bcg bdn aIC atl alS agF aIA aIB
attribute [go_sem] aL9 aPa aL8 aO9 bcf bdm aIy atj alQ agE
attribute [go_sem] aIw aIx aL7 aO8 aL6 aO7 bce bdl aIv ati
attribute [go_sem] alP agD aIt aIu bdk aIs ath alO agC aIq
attribute [go_sem] aIr bdj aIp atg alN agB aIn aIo bdi aIm
attribute [go_sem] atf alM agA aIk aIl bdh aIj ate alL agz
attribute [go_sem] aIh aIi bdg aIg atd alK agy aIe aIf bdf
attribute [go_sem] aId atc alJ agx aIb aIc bde aH9 ata alG
attribute [go_sem] agw aH7 aH8 aL5 aO6 aL4 aO5 bcd bdd aH6
attribute [go_sem] as9 alD agv aH4 aH5 aL3 aO4 aL2 aO3 bcc
attribute [go_sem] bdc aH3 as8 alC agu aH1 aH2 bdb aH0 as7
attribute [go_sem] alB agt aHY aHZ bda aHX as6 alz ags aHV
attribute [go_sem] aHW bc9 aHU as5 aly agr aHS aHT bc8 aHR
attribute [go_sem] as4 alx agq aHP aHQ bc7 aHN as2 alv agp
attribute [go_sem] aHL aHM bc6 aHK as1 alu ago aHI aHJ bc5
attribute [go_sem] aHH as0 alt agn aHF aHG bc4 aHE asZ als
attribute [go_sem] agm aHC aHD bc3 aHB asY alr agl aHz aHA
attribute [go_sem] bc2 aHy asX alq agk aHw aHx bc1 aHv asW
attribute [go_sem] alp agj aHt aHu bc0 aHs asV alo agi aHq
attribute [go_sem] aHr bcZ aHp asU aln agh aHn aHo aZM bcY
attribute [go_sem] aHl asS alk agf aHj aHk bcX aHi asR alj
attribute [go_sem] age aHg aHh bcW aHf asQ ali agd aHd aHe
attribute [go_sem] bcV aHc asP alh agc aHa aHb bcU aG9 asO
attribute [go_sem] alg agb aG7 aG8 bcT aG6 asN alf aga aG4
attribute [go_sem] aG5 bcS aG2 asL ald af9 aG0 aG1 bcR aGZ
attribute [go_sem] asK alb af8 aGX aGY aL1 aO2 aL0 aO1 bcb
attribute [go_sem] bcQ aGW asJ ak9 af7 aGU aGV aLZ aO0 aLY
attribute [go_sem] aOZ bca bcP aGT asI ak8 af6 aGR aGS bcO
attribute [go_sem] aGQ asH ak7 af5 aGO aGP bcN aGN asG ak6
attribute [go_sem] af4 aGL aGM bcM aGK asF ak5 af3 aGI aGJ
attribute [go_sem] bcL aGH asE ak4 af2 aGF aGG bcK aGD asC
attribute [go_sem] ak2 af1 aGB aGC bcJ aGA asB ak1 af0 aGy
attribute [go_sem] aGz bcI aGx asA ak0 afZ aGv aGw bcH aGu
attribute [go_sem] asz akZ afY aGs aGt bcG aGr asy akY afX
attribute [go_sem] aGp aGq bcF aGo asx akX afW aGm aGn bcE
attribute [go_sem] aGl asw akW afV aGj aGk bcD aGi asv akV
attribute [go_sem] afU aGg aGh aXn aBg aoP aju adO aBe aBf
attribute [go_sem] aXm aBd aoO ajt adN aBb aBc aXl aBa aoN
attribute [go_sem] ajs adL aA8 aA9 aXk aA7 aoM ajr adK aA5
attribute [go_sem] aA6 aXj aA4 aoL ajq adJ aA2 aA3 aXi aA1
attribute [go_sem] aoK ajp adI aAZ aA0 aXh aAY aoJ ajo adH
attribute [go_sem] aAW aAX aXg aAV aoI ajn adG aAT aAU aXf
attribute [go_sem] aAS aoH ajm adF aAQ aAR aXe aAO aoF ajk
attribute [go_sem] adE aAM aAN aXd aAL aoE ajj adD aAJ aAK
attribute [go_sem] aOI aXc aAI aoD aji adC aAG aAH aDk aKw
attribute [go_sem] aDj aKv aUd aXb aAF aoC ajh adB aAD aAE
attribute [go_sem] aDi aKu aDh aKt aUc aXa aAC aoB ajg adA
attribute [go_sem] aAA aAB aW9 aAz aoA ajf adz aAx aAy aW8
attribute [go_sem] aAw aoz aje ady aAu aAv aW7 aAt aoy ajd
attribute [go_sem] adx aAr aAs aDg aKs aDf aKr aDe aKq aUb
attribute [go_sem] aW6 aAq aox ajc adw aAo aAp aDd aKp aDc
attribute [go_sem] aKo aDb aKn aUa aW5 aAn aow ajb adv aAl
attribute [go_sem] aAm aW4 aAj aou ai9 adu aAh aAi aW3 aAg
attribute [go_sem] aot ai8 adt aAe aAf aW2 aAd aos ai7 ads
attribute [go_sem] aAb aAc aW1 aAa aor ai6 adr az8 az9 aW0
attribute [go_sem] az7 aoq ai5 adq az5 az6 aWZ az4 aop ai4
attribute [go_sem] adp az2 az3 aWY az1 aoo ai3 ado azZ az0
attribute [go_sem] aWX azY aon ai2 adn azW azX aWW azV aom
attribute [go_sem] ai1 adm azT azU aWV azS aol ai0 adl azQ
attribute [go_sem] azR aWU azO aoj aiY adk azM azN aWT azL
attribute [go_sem] aoi aiX adj azJ azK aWS azI aoh aiW adi
attribute [go_sem] azG azH aDa aKm aC9 aKl aT9 aWR azF aog
attribute [go_sem] aiV adh azD azE aC8 aKk aC7 aKj aT8 aWQ
attribute [go_sem] azC aof aiU adg azA azB aWP azz aoe aiT
attribute [go_sem] adf azx azy aWO azw aod aiS ade azu azv
attribute [go_sem] aWN azt aoc aiR adc azr azs aWM azq aob
attribute [go_sem] aiQ adb azo azp aWL azn aoa aiP ada azl
attribute [go_sem] azm aWK azk an9 aiO ac9 azi azj aWJ azh
attribute [go_sem] an8 aiN ac8 azf azg aWI aze an7 aiM ac7
attribute [go_sem] azc azd aWH azb an6 aiL ac6 ay9 aza aWG
attribute [go_sem] ay8 an5 aiK ac5 ay6 ay7 aWF ay5 an4 aiJ
attribute [go_sem] ac4 ay3 ay4 aWE ay2 an3 aiI ac3 ay0 ay1
attribute [go_sem] aWD ayZ an2 aiH ac2 ayX ayY aWC ayW an1
attribute [go_sem] aiG ac1 ayU ayV aWB ayT an0 aiF ac0 ayR
attribute [go_sem] ayS aWA ayQ anZ aiE acZ ayO ayP aWz ayN
attribute [go_sem] anY aiD acY ayL ayM aOH aWy ayK anX aiC
attribute [go_sem] acX ayI ayJ aC6 aKi aC5 aKh aT7 aWx ayH
attribute [go_sem] anW aiB acW ayF ayG aC4 aKg aC3 aKf aT6
attribute [go_sem] aWw ayE anV aiA acV ayC ayD aWv ayB anU
attribute [go_sem] aiz acU ayz ayA aWu ayy anT aiy acT ayw
attribute [go_sem] ayx aWt ayv anS aix acS ayt ayu aWs ays
attribute [go_sem] anR aiw acR ayq ayr aWr ayp anQ aiv acQ
attribute [go_sem] ayn ayo aWq aym anP aiu acP ayk ayl aWp
attribute [go_sem] ayj anO ait acO ayh ayi aWo ayg anN ais
attribute [go_sem] acN aye ayf aWn ayd anM air acM ayb ayc
attribute [go_sem] aWm aya anL aiq acL ax8 ax9 aWl ax7 anK
attribute [go_sem] aip acK ax5 ax6 aWk ax4 anJ aio acJ ax2
attribute [go_sem] ax3 aWj ax1 anI ain acI axZ ax0 aWi axY
attribute [go_sem] anH aim acH axW axX aWh axV anG ail acG
attribute [go_sem] axT axU aWg axS anF aik acF axQ axR aC2
attribute [go_sem] aKe aC1 aKd aC0 aKc aT5 aWf axP anE aij
attribute [go_sem] acE axN axO aCZ aKb aCY aKa aCX aJ9 aT4
attribute [go_sem] aWe axM anD aii acD axK axL aWd axJ anC
attribute [go_sem] aih acC axH axI aWc axG anB aig acB axE
attribute [go_sem] axF aWb axD anA aif acA axB axC aWa axA
attribute [go_sem] anz aie acz axy axz aV9 axx anx aid acy
attribute [go_sem] axv axw aV8 axu anw aic acx axs axt aV7
attribute [go_sem] axr anv aib acw axp axq aV6 axo anu aia
attribute [go_sem] acv axm axn aV5 axl ant ah9 acu axj axk
attribute [go_sem] aV4 axi ans ah8 act axg axh aV3 axf anr
attribute [go_sem] ah7 acs axd axe aV2 axc anq ah6 acr axa
attribute [go_sem] axb aV1 aw9 anp ah5 acq aw7 aw8 aV0 aw6
attribute [go_sem] ano ah4 acp aw4 aw5 aVZ aw3 ann ah3 aco
attribute [go_sem] aw1 aw2 aVY aw0 anm ah2 acn awY awZ aVX
attribute [go_sem] awX anl ah1 acm awU awW aOG aVW awT ank
attribute [go_sem] ah0 acl awR awS aVV awQ anj ahZ ack awO
attribute [go_sem] awP aVU awN ani ahY acj awL awM aVT awK
attribute [go_sem] anh ahX aci awI awJ aVS awG anf ahW ach
attribute [go_sem] awE awF aVR awD ane ahV acg awB awC aVQ
attribute [go_sem] awA anc ahU acf awy awz aVP awx anb ahT
attribute [go_sem] ace awv aww aVO awu ana ahS acd aws awt
attribute [go_sem] aVN awr am9 ahR acb awo awq aVM awn am8
attribute [go_sem] ahQ aca awl awm aVL awk am7 ahP ab9 awi
attribute [go_sem] awj aVK awh am6 ahO ab8 awf awg aVJ awe
attribute [go_sem] am5 ahN ab7 awc awd aVI awb am4 ahM ab6
attribute [go_sem] av9 awa aVH av8 am3 ahL ab5 av6 av7 aVG
attribute [go_sem] av5 am2 ahK ab4 av3 av4 aVF av2 am1 ahJ
attribute [go_sem] ab3 av0 av1 aVE avZ am0 ahI ab2 avX avY
attribute [go_sem] aVD avW amZ ahH ab1 avU avV aVC avT amY
attribute [go_sem] ahG ab0 avR avS aVB avP amW ahE abZ avN
attribute [go_sem] avO aVA avM amV ahD abY avK avL aVz avJ
attribute [go_sem] amU ahC abX avH avI aVy avG amT ahB abW
attribute [go_sem] avE avF aVx avD amS ahA abV avB avC aVw
attribute [go_sem] avA amR ahz abU avy avz aVv avx amQ ahy
attribute [go_sem] abT avv avw aVu avu amP ahx abS avs avt
attribute [go_sem] aVt avr amO ahw abR avp avq aVs avn amM
attribute [go_sem] ahu abQ avl avm aVr avk amL aht abP avi
attribute [go_sem] avj aVq avh amK ahs abO avf avg aVp ave
attribute [go_sem] amJ ahr abN avc avd aVo avb amI ahq abM
attribute [go_sem] au9 ava aVn au8 amH ahp abL au6 au7 aVm
attribute [go_sem] au5 amG aho abK au3 au4 aVl au2 amF ahn
attribute [go_sem] abJ au0 au1 aVk auZ amE ahm abI auX auY
attribute [go_sem] aVj auW amD ahl abH auU auV aVi auS amA
attribute [go_sem] ahj abG auQ auR aVh auP amz ahi abF auN
attribute [go_sem] auO aVg auM amy ahh abE auK auL aVf auJ
attribute [go_sem] amx ahg abD auH auI aVe auG amw ahf abC
attribute [go_sem] auE auF aVd auD amv ahe abB auB auC aVc
attribute [go_sem] auA amu ahd abA auy auz aVb aux amt ahc
attribute [go_sem] abz auv auw aVa aut amq aha aby aur aus
attribute [go_sem] aU9 auq amp ag9 abx auo aup aU8 aun amo
attribute [go_sem] ag8 abw aul aum aU7 auk amn ag7 abv aui
attribute [go_sem] auj aU6 auh amm ag6 abu auf aug aU5 aue
attribute [go_sem] aml ag5 abt auc aud aU4 aub amk ag4 abr
attribute [go_sem] at9 aua aU3 at8 amj ag3 abq at6 at7 aU2
attribute [go_sem] at5 ami ag2 abp at3 at4 aU1 at1 amg ag0
attribute [go_sem] abo atZ at0 aU0 atY amf agZ abn atW atX
attribute [go_sem] aUZ atV ame agY abm atT atU aUY atS amd
attribute [go_sem] agX abl atQ atR aUX atP amc agW abk atN
attribute [go_sem] atO aUW atM amb agV abj atK atL aUV atJ
attribute [go_sem] ama agU abi atH atI aUU atG al9 agT abh
attribute [go_sem] atE atF aUT atD al8 agS abg atB atC aUS
attribute [go_sem] atA al7 agR abf aty atz bfa be9 be8 be7
attribute [go_sem] be6 be5 be4 be3 bb0 bbZ bbY bbX bbW bbV
attribute [go_sem] bbU bbT bbS bbR bbQ bbP bbO bbN bbM bbL
attribute [go_sem] bbK bbJ bbI bbH bbG bbF bbE bbD bbC bbB
attribute [go_sem] bbA bbz bby bbx bbw bbv bbu bbt bbs bbr
attribute [go_sem] bbq bbp bbo bbn bbm bbl bbk bbj bbi bbh
attribute [go_sem] bbg bbf bbe bbd bbc bbb bba ba9 ba8 ba7
attribute [go_sem] ba6 ba5 ba4 ba3 ba2 ba1 ba0 baZ baY baX
attribute [go_sem] baW baV baU baT baS baR baQ baP baO baN
attribute [go_sem] baM baL baK baJ baI baH baG baF baE baD
attribute [go_sem] baC baB baA baz aTm aTl aTk aTj aTi aTh
attribute [go_sem] aTg aTf aTe aTd aTc aTb aTa aS9 aS8 aS7
attribute [go_sem] aS6 aS5 aS4 aS3 aS2 aS1 aS0 aSZ aSY aSX
attribute [go_sem] aSW aSV aSU aST aSS aSR aSQ aSP aSO aSN
attribute [go_sem] aSM aSL aSK aSJ aSI aSH aSG aSF aSE aSD
attribute [go_sem] aSC aSB aSA aSz aSy aSx aSw aSv aSu aSt
attribute [go_sem] aSs aSr aSq aSp aSo aSn aSm aSl aSk aSj
attribute [go_sem] aSi aSh aSg aSf aSe aSd aSc aSb aSa aR9
attribute [go_sem] aR8 aR7 aR6 aR5 aR4 aR3 aR2 aR1 aR0 aRZ
attribute [go_sem] aRY aRX aRW aRV aRU aRT aRS aRR aRQ aRP
attribute [go_sem] aRO aRN aRM aRL aRK aRJ aRI aRH aRG aRF
attribute [go_sem] aRE aRD aRC aRB aRA aRz aRy aRx aRw aRv
attribute [go_sem] aRu aRt aRs aRr aRq aRp aRo aRn aRm aRl
attribute [go_sem] aRk aRj aRi aRh aRg aRf aRe aRd aRc aRb
attribute [go_sem] aRa aQ9 aQ8 aQ7 aQ6 aQ5 aQ4 aQ3 aQ2 aQ1
attribute [go_sem] aQ0 aQZ aQY aQX aQW aQV aQU aQT aQS aQR
attribute [go_sem] aQQ aQP aQO aQN aQM aQL aQK aQJ aQI aQH
attribute [go_sem] aQG aQF aQE aQD aQC aQB aQA aQz aQy aQx
attribute [go_sem] aQw aQv aQu aQt aQs aQr aQq aQp aQo aQn
attribute [go_sem] aQm aQl aQk aQj aQi aQh aQg aQf aQe aQd
attribute [go_sem] aQc aQb
end Go.Ab
namespace Go.Ab
open Go Go.Proofs
set_option maxRecDepth 100000 in
theorem aeK(U V:List Int)(j:Nat)(hU:gd U)(hV:gd V)(lU:U.length≤2000000)(h2:2≤V.length)(hj:j+V.length<U.length)(hv1:32768≤V.getD (V.length-1) 0)(hW:vl (U.drop j)<65536*vl V):
  Con Tryz.prog 289 true [.sl U.length (qc U),.sl V.length (qc V),.v (.int .i64 j)] [] (fun r hs bs=>∃q:Int,r=.v (.int .i64 q)∧hs=[]∧bs=[]∧(0≤q∧q<65536)∧vl (U.drop j)<(q+1)*vl V∧q*vl V<vl (U.drop j)+vl V):=by
 refine Con.of_aw Tryz.func289 rfl Tryz.ntmps289 (by simp) (by simp) (by simp) (W.sound ?_)
 show @W Tryz.prog 76 ⟨_⟩ ⟨fun x σ=>@q7 _ _ _ ⟨_⟩ _ ⟨_⟩ x σ⟩ _ _
 have hDl:V.length<(U.drop j).length:=by simp;omega
 have hz:=ae4 (yu hU j) hV hDl hW
 have hw:=aNP hDl h2 hz
 have hvv:=aF6 h2
 rw[zW,zW,zW]at hw
 have hx0:=qU (j9 (yu hU j) (V.length-2))
 have hx1:=QF (j9 (yu hU j) (V.length-2))
 have hy0:=qU (j9 hV (V.length-2))
 have hy1:=QF (j9 hV (V.length-2))
 rw[List.length_take,Nat.min_eq_left (by omega)]at hx1 hy1
 have gu0:=qJ hU (j+V.length)
 have gu1:=qJ hU (j+(V.length-1))
 have gu2:=qJ hU (j+(V.length-2))
 have gv1:=qJ hV (V.length-1)
 have gv2:=qJ hV (V.length-2)
 have htop:=aPQ hw hvv ⟨hx0,hx1⟩ ⟨hy0,hy1⟩ gu2.1 gu1.1 gv2.2 hW
 have e0:((j:Int)+(V.length:Int)).toNat=j+V.length:=by omega
 have e1:((j:Int)+(V.length:Int)-1).toNat=j+(V.length-1):=by omega
 have e2:((j:Int)+(V.length:Int)-2).toNat=j+(V.length-2):=by omega
 have f1:((V.length:Int)-1).toNat=V.length-1:=by omega
 have f2:((V.length:Int)-2).toNat=V.length-2:=by omega
 simp(disch:=omega)only[go_sem]
 refine qq rfl [⟨0,[],[]⟩,⟨1,[],[]⟩,⟨2,[],[]⟩,⟨3,[],[]⟩,⟨4,[],[]⟩,⟨5,[],[]⟩,⟨6,[],[]⟩,⟨7,[5],[]⟩,⟨8,[5],[]⟩,⟨9,[5],[]⟩,⟨10,[5],[]⟩,⟨11,[5],[]⟩,⟨12,[5],[]⟩,⟨13,[5],[]⟩,⟨14,[],[]⟩,⟨15,[],[]⟩] (by kernel_rfl) ?_
 simp(disch:=omega)only[go_sem,e0,e1]
 generalize hu0:U.getD (j+V.length) 0=u0 at*
 generalize hu1:U.getD (j+(V.length-1)) 0=u1 at*
 generalize hu2:U.getD (j+(V.length-2)) 0=u2 at*
 refine⟨by omega,by omega,by omega,by omega,?_⟩
 refine qq rfl [⟨0,[],[]⟩,⟨1,[],[]⟩,⟨2,[],[]⟩,⟨3,[],[]⟩,⟨4,[],[]⟩,⟨5,[],[]⟩,⟨6,[],[]⟩,⟨7,[5],[]⟩,⟨8,[5],[]⟩,⟨9,[5],[]⟩,⟨10,[5],[]⟩,⟨11,[5],[]⟩,⟨12,[5],[]⟩,⟨13,[5],[]⟩,⟨14,[12],[]⟩,⟨15,[],[]⟩] (by kernel_rfl) ?_
 simp(disch:=omega)only[go_sem,f1]
 generalize hvv1:V.getD (V.length-1) 0=v1 at*
 generalize hvv2:V.getD (V.length-2) 0=v2 at*
 generalize htt:u0*65536+u1=top at*
 refine⟨by omega,by omega,by omega,by omega,by omega,by omega,?_⟩
 have hq0:0≤top/v1:=Int.ediv_nonneg (by omega) (by omega)
 have hq1:top/v1≤65537:=by
  have:top/v1<65538:=Int.ediv_lt_of_lt_mul (by omega) (by omega)
  omega
 have hr0:=Int.emod_nonneg top (show v1≠0 by omega)
 have hr1:=Int.emod_lt_of_pos top (show 0<v1 by omega)
 have hqr:=Int.emod_add_mul_ediv top v1
 have hini:=aLq hw hvv ⟨hx0,hx1⟩ ⟨hy0,hy1⟩ gu2 gv2.1 hq0 (show top<(top/v1+1)*v1 by rw[Int.add_mul,Int.mul_comm (top/v1)];omega)
 have hqr':top/v1*v1+top % v1=top:=by rw[Int.mul_comm];omega
 generalize top/v1=q0 at*
 generalize top % v1=r0 at*
 refine qh (fun x:Int×Int=>[(0,.sl U.length (qc U)),(1,.sl V.length (qc V)),(2,.v (.int .i64 j)),(7,.v (.int .i64 V.length)),(9,.v (.int .i64 x.1)),(10,.v (.int .i64 x.2))])
  (fun _=>[]) (fun x=>(0≤x.1∧x.1≤65537)∧(0≤x.2∧x.2<65536)∧x.1*v1+x.2=top∧vl (U.drop j)<(x.1+1)*vl V) (fun x=>x.1.toNat) (q0,r0) ⟨⟨hq0,hq1⟩,⟨hr0,by omega⟩,hqr',hini⟩
  (Le.lst [] _ _ rfl (by simp(disch:=omega)only[go_sem];try omega) (by simp(disch:=omega)only[go_sem])) ?_
 rintro⟨q,r⟩ ⟨hq,hr,hqr2,hlt⟩
 dsimp only at hq hr hqr2 hlt ⊢
 have hqv:0≤q*v2∧q*v2≤65537*65535:=⟨Int.mul_nonneg hq.1 gv2.1,Int.mul_le_mul hq.2 (by omega) gv2.1 (by omega)⟩
 simp(disch:=omega)only[go_sem]
 refine qq rfl [⟨0,[],[]⟩,⟨1,[],[]⟩,⟨2,[],[]⟩,⟨3,[],[]⟩,⟨4,[],[]⟩,⟨5,[],[]⟩,⟨6,[],[]⟩,⟨7,[],[]⟩,⟨8,[],[]⟩,⟨9,[],[]⟩,⟨10,[8],[]⟩,⟨11,[8],[]⟩,⟨12,[8],[]⟩,⟨13,[8],[]⟩,⟨14,[8],[]⟩,⟨15,[8],[]⟩,⟨16,[8],[]⟩,⟨17,[8],[]⟩,⟨18,[8],[]⟩,⟨19,[8],[]⟩,⟨20,[],[]⟩,⟨21,[],[]⟩] (by kernel_rfl) ?_
 simp(disch:=omega)only[go_sem]
 refine zE (fun h1=>?_) (fun h1=>?_)
 ·simp(disch:=omega)only[go_sem,h1,e2,f2,hu2,hvv2]
  refine⟨by omega,by omega,by omega,by omega,qe (fun h2=>?_) (fun h2=>?_)⟩
  ·simp(disch:=omega)only[go_sem,h2,f1,hvv1]
   have hst:=apY hw hvv ⟨hx0,hx1⟩ ⟨hy0,hy1⟩ hW gv2.1 (by omega) hq.1 hqr2 (.inr h2)
   have hqp:0<q:=by
    rcases(by omega:0<q∨q=0)with h|h
    ·exact h
    ·subst h;omega
   have hm:(q-1)*v1+(r+v1)=top:=by rw[Int.sub_mul];omega
   refine⟨by omega,by omega,qe (fun h3=>?_) (fun h3=>?_)⟩
   ·simp(disch:=omega)only[go_sem,h3]
    have h4:q-1<65536:=by
     rcases(by omega:q-1<65536∨65536≤q-1)with h|h
     ·exact h
     ·have:=Int.mul_le_mul_of_nonneg_right h (show 0≤v1 by omega)
      omega
    have h5:(q-1)*v2≤(r+v1)*65536+u2:=by
     have:(q-1)*v2≤65535*65535:=Int.mul_le_mul (by omega) (by omega) gv2.1 (by omega)
     omega
    have h6:=aeh hw hvv ⟨hx0,hx1⟩ ⟨hy0,hy1⟩ gv2.1 (by omega) ⟨by omega,h4⟩ hm h5
    exact qy (by simp(disch:=omega)only[go_sem]) (by simp(disch:=omega)only[go_sem]) ⟨q-1,rfl,rfl,rfl,⟨by omega,h4⟩,by rw[show q-1+1=q by omega];exact hst,h6⟩
   ·simp(disch:=omega)only[go_sem,h3]
    refine qb (q-1,r+v1) [] ⟨by show 0≤q-1∧q-1≤65537;omega,by show 0≤r+v1∧r+v1<65536;omega,hm,by show _<(q-1+1)*vl V;rw[show q-1+1=q by omega];exact hst⟩ (by show(q-1).toNat<q.toNat;omega) rfl (by simp(disch:=omega)only[go_sem];try omega) (by simp(disch:=omega)only[go_sem])
  ·simp(disch:=omega)only[go_sem,h2]
   have h6:=aeh hw hvv ⟨hx0,hx1⟩ ⟨hy0,hy1⟩ gv2.1 (by omega) ⟨hq.1,by omega⟩ hqr2 (by omega)
   exact qy (by simp(disch:=omega)only[go_sem]) (by simp(disch:=omega)only[go_sem]) ⟨q,rfl,rfl,rfl,⟨hq.1,by omega⟩,hlt,h6⟩
 ·simp(disch:=omega)only[go_sem,h1,f1,hvv1]
  have hst:=apY hw hvv ⟨hx0,hx1⟩ ⟨hy0,hy1⟩ hW gv2.1 (by omega) hq.1 hqr2 (.inl h1)
  have hqp:0<q:=by omega
  have hm:(q-1)*v1+(r+v1)=top:=by rw[Int.sub_mul];omega
  refine⟨by omega,by omega,qe (fun h3=>?_) (fun h3=>?_)⟩
  ·simp(disch:=omega)only[go_sem,h3]
   have h4:q-1<65536:=by
    rcases(by omega:q-1<65536∨65536≤q-1)with h|h
    ·exact h
    ·have:=Int.mul_le_mul_of_nonneg_right h (show 0≤v1 by omega)
     omega
   have h5:(q-1)*v2≤(r+v1)*65536+u2:=by
    have:(q-1)*v2≤65535*65535:=Int.mul_le_mul (by omega) (by omega) gv2.1 (by omega)
    omega
   have h6:=aeh hw hvv ⟨hx0,hx1⟩ ⟨hy0,hy1⟩ gv2.1 (by omega) ⟨by omega,h4⟩ hm h5
   exact qy (by simp(disch:=omega)only[go_sem]) (by simp(disch:=omega)only[go_sem]) ⟨q-1,rfl,rfl,rfl,⟨by omega,h4⟩,by rw[show q-1+1=q by omega];exact hst,h6⟩
  ·simp(disch:=omega)only[go_sem,h3]
   refine qb (q-1,r+v1) [] ⟨by show 0≤q-1∧q-1≤65537;omega,by show 0≤r+v1∧r+v1<65536;omega,hm,by show _<(q-1+1)*vl V;rw[show q-1+1=q by omega];exact hst⟩ (by show(q-1).toNat<q.toNat;omega) rfl (by simp(disch:=omega)only[go_sem];try omega) (by simp(disch:=omega)only[go_sem])
end Go.Ab
namespace Go.Ab
open Go Go.Proofs
theorem aaC(U V:List Int)(j:Nat)(q:Int)(hU:gd U)(hV:gd V)(lU:U.length≤2000000)(hj:j+V.length<U.length)(hq:0≤q∧q<65536):
  Con Tryz.prog 290 false [.rf 10000000 0 U.length,.sl V.length (qc V),.v (.int .i64 j),.v (.int .i64 q)] [.own 1 (qc U)]
   (fun r hs bs=>∃(U':List Int) (bo:Int),r=.v (.bool (decide (U.getD (j+V.length) 0-bo<0)))∧hs=[]∧bs=[.own 1 (qc (U'.set (j+V.length) (U.getD (j+V.length) 0-bo)))]∧
    U'.length=U.length∧gd U'∧(0≤bo∧bo<65536)∧(∀t,t<j∨j+V.length≤t→U'.getD t 0=U.getD t 0)∧vl U'-65536^(j+V.length)*bo=vl U-65536^j*(q*vl V)):=by
 refine Con.of_aw Tryz.func290 rfl Tryz.ntmps290 (by simp) (by simp) (by simp) (W.sound ?_)
 show @W Tryz.prog 68 ⟨_⟩ ⟨fun x σ=>@q7 _ _ _ ⟨_⟩ _ ⟨_⟩ x σ⟩ _ _
 simp(disch:=omega)only[go_sem]
 refine qh (fun x:Nat×List Int×Int=>[(0,.rf 10000000 0 U.length),(1,.sl V.length (qc V)),(2,.v (.int .i64 j)),(3,.v (.int .i64 q)),(9,.v (.int .i64 x.2.2)),(13,.sl V.length (qc V)),(14,.v (.int .i64 V.length)),(15,.v (.int .i64 x.1))])
  (fun x=>[(10000000,.own 1 (qc x.2.1))])
  (fun x=>x.1≤V.length∧x.2.1.length=U.length∧gd x.2.1∧(0≤x.2.2∧x.2.2<65536)∧(∀t,t<j∨j+x.1≤t→x.2.1.getD t 0=U.getD t 0)∧vl x.2.1-65536^(j+x.1)*x.2.2=vl U-65536^j*(q*vl (V.take x.1)))
  (fun x=>V.length-x.1) (0,U,0) ⟨by simp,rfl,hU,by simp,fun _ _=>rfl,by simp[vl]⟩
  (Le.lst [] _ _ rfl (by simp(disch:=omega)only[go_sem];try omega) (by simp(disch:=omega)only[go_sem])) ?_
 rintro⟨i,U1,bo⟩ ⟨hi,hl1,hg1,hbo,hsame,hval⟩
 dsimp only at hi hl1 hg1 hbo hsame hval ⊢
 simp(disch:=omega)only[go_sem]
 refine qe (fun h1=>?_) (fun h1=>?_)
 ·have hx:=qJ hV i
  have hu:=qJ hg1 (j+i)
  have hqx:0≤q*V.getD i 0∧q*V.getD i 0≤65535*65535:=⟨Int.mul_nonneg hq.1 hx.1,Int.mul_le_mul (by omega) (by omega) hx.1 (by omega)⟩
  have e1:((j:Int)+(i:Int)).toNat=j+i:=by omega
  have hstep:∀d b:Int,d-65536*b=U1.getD (j+i) 0-q*V.getD i 0-bo→vl (U1.set (j+i) d)-65536^(j+(i+1))*b=vl U-65536^j*(q*vl (V.take (i+1))):=by
   intro d b hd
   rw[Q2 (by omega),qP,←Nat.add_assoc,Int.pow_succ]
   have e3:(65536:Int)^(j+i)=65536^j*65536^i:=Int.pow_add _ _ _
   rw[e3]at hval ⊢
   generalize (65536:Int)^i=Pi at*
   generalize (65536:Int)^j=Pj at*
   grind
  have hsm:∀d:Int,∀t,t<j∨j+(i+1)≤t→(U1.set (j+i) d).getD t 0=U.getD t 0:=fun d t ht=>by
   rw[jk (by omega),if_neg (by omega)];exact hsame t (by omega)
  simp(disch:=omega)only[go_sem,h1,e1]
  refine⟨by omega,by omega,by omega,by omega,qe (fun h2=>?_) (fun h2=>?_)⟩
  ·simp(disch:=omega)only[go_sem,h2,e1]
   generalize hb:(0-(U1.getD (j+i) 0-q*V.getD i 0-bo)+65536-1)/65536=b
   refine⟨by omega,by omega,qb (i+1,U1.set (j+i) (U1.getD (j+i) 0-q*V.getD i 0-bo+b*65536),b) [] ⟨by show i+1≤_;omega,by simp[hl1],y0 hg1 (by omega),by show 0≤b∧b<65536;omega,hsm _,hstep (U1.getD (j+i) 0-q*V.getD i 0-bo+b*65536) b (by omega)⟩
    (by show V.length-(i+1)<V.length-i;omega) rfl (by simp(disch:=omega)only[go_sem];try omega) (by simp(disch:=omega)only[go_sem])⟩
  ·simp(disch:=omega)only[go_sem,h2,e1]
   refine⟨by omega,by omega,qb (i+1,U1.set (j+i) (U1.getD (j+i) 0-q*V.getD i 0-bo),0) [] ⟨by show i+1≤_;omega,by simp[hl1],y0 hg1 (by omega),by simp,hsm _,hstep (U1.getD (j+i) 0-q*V.getD i 0-bo) 0 (by omega)⟩
    (by show V.length-(i+1)<V.length-i;omega) rfl (by simp(disch:=omega)only[go_sem];try omega) (by simp(disch:=omega)only[go_sem])⟩
 ·have hiA:i=V.length:=by omega
  subst hiA
  rw[List.take_length]at hval
  have e1:((j:Int)+(V.length:Int)).toNat=j+V.length:=by omega
  have hu:=qJ hg1 (j+V.length)
  have es:=hsame (j+V.length) (by omega)
  have eg:(U1.set (j+V.length) (U.getD (j+V.length) 0-bo)).getD (j+V.length) 0=U.getD (j+V.length) 0-bo:=by rw[jk (by omega),if_pos rfl]
  simp(disch:=omega)only[go_sem,h1,e1,es]
  refine⟨by omega,by omega,by omega,by omega,by omega,by simp;omega,?_⟩
  simp(disch:=omega)only[go_sem,eg]
  refine qg [] [] [.own 1 (qc (U1.set (j+V.length) (U.getD (j+V.length) 0-bo)))] [.v (.bool (decide (U.getD (j+V.length) 0-bo<0)))] rfl (by simp(disch:=omega)only[go_sem]) (by simp(disch:=omega)only[go_sem]) (by simp) (by simp) ⟨U1,bo,rfl,rfl,rfl,hl1,hg1,hbo,hsame,hval⟩
theorem aeM(U V:List Int)(j:Nat)(hU:∀t,t≠j+V.length→0≤U.getD t 0∧U.getD t 0<65536)(hUt: -65536≤U.getD (j+V.length) 0∧U.getD (j+V.length) 0<65536)(hV:gd V)(lU:U.length≤2000000)(hj:j+V.length<U.length):
  Con Tryz.prog 291 false [.rf 10000000 0 U.length,.sl V.length (qc V),.v (.int .i64 j)] [.own 1 (qc U)]
   (fun r hs bs=>∃(U':List Int),r=.tu []∧hs=[]∧bs=[.own 1 (qc U')]∧
    U'.length=U.length∧(∀t,t≠j+V.length→0≤U'.getD t 0∧U'.getD t 0<65536)∧(∀t,t<j∨j+V.length<t→U'.getD t 0=U.getD t 0)∧vl U'=vl U+65536^j*vl V):=by
 refine Con.of_aw Tryz.func291 rfl Tryz.ntmps291 (by simp) (by simp) (by simp) (W.sound ?_)
 show @W Tryz.prog 46 ⟨_⟩ ⟨fun x σ=>@q7 _ _ _ ⟨_⟩ _ ⟨_⟩ x σ⟩ _ _
 simp(disch:=omega)only[go_sem]
 refine qh (fun x:Nat×List Int×Int=>[(0,.rf 10000000 0 U.length),(1,.sl V.length (qc V)),(2,.v (.int .i64 j)),(6,.v (.int .i64 x.2.2)),(9,.sl V.length (qc V)),(10,.v (.int .i64 V.length)),(11,.v (.int .i64 x.1))])
  (fun x=>[(10000000,.own 1 (qc x.2.1))])
  (fun x=>x.1≤V.length∧x.2.1.length=U.length∧(∀t,t≠j+V.length→0≤x.2.1.getD t 0∧x.2.1.getD t 0<65536)∧(0≤x.2.2∧x.2.2≤1)∧(∀t,t<j∨j+x.1≤t→x.2.1.getD t 0=U.getD t 0)∧vl x.2.1+65536^(j+x.1)*x.2.2=vl U+65536^j*vl (V.take x.1))
  (fun x=>V.length-x.1) (0,U,0) ⟨by simp,rfl,hU,by simp,fun _ _=>rfl,by simp[vl]⟩
  (Le.lst [] _ _ rfl (by simp(disch:=omega)only[go_sem];try omega) (by simp(disch:=omega)only[go_sem])) ?_
 rintro⟨i,U1,cy⟩ ⟨hi,hl1,hg1,hcy,hsame,hval⟩
 dsimp only at hi hl1 hg1 hcy hsame hval ⊢
 simp(disch:=omega)only[go_sem]
 refine qe (fun h1=>?_) (fun h1=>?_)
 ·have hx:=qJ hV i
  have hu:=hg1 (j+i) (by omega)
  have e1:((j:Int)+(i:Int)).toNat=j+i:=by omega
  simp(disch:=omega)only[go_sem,h1,e1]
  generalize hb:cy+(U1.getD (j+i) 0+V.getD i 0)=b
  have hg2:∀t,t≠j+V.length→0≤(U1.set (j+i) (b % 65536)).getD t 0∧(U1.set (j+i) (b % 65536)).getD t 0<65536:=fun t ht=>by
   rw[jk (by omega)]
   split
   ·omega
   ·exact hg1 t ht
  refine⟨by omega,by omega,by omega,by omega,by omega,by omega,qb (i+1,U1.set (j+i) (b % 65536),b/65536) [] ⟨by show i+1≤_;omega,by simp[hl1],hg2,by show 0≤b/65536∧b/65536≤1;omega,fun t ht=>?_,?_⟩
   (by show V.length-(i+1)<V.length-i;omega) rfl (by simp(disch:=omega)only[go_sem];try omega) (by simp(disch:=omega)only[go_sem])⟩
  ·show(U1.set (j+i) (b % 65536)).getD t 0=_
   have ht:t<j∨j+(i+1)≤t:=ht
   rw[jk (by omega),if_neg (by omega)];exact hsame t (by omega)
  ·show vl (U1.set (j+i) (b % 65536))+65536^(j+(i+1))*(b/65536)=vl U+65536^j*vl (V.take (i+1))
   rw[Q2 (by omega),qP,←Nat.add_assoc,Int.pow_succ]
   have e3:(65536:Int)^(j+i)=65536^j*65536^i:=Int.pow_add _ _ _
   have e4:b % 65536+65536*(b/65536)=b:=Int.emod_add_mul_ediv b 65536
   rw[e3]at hval ⊢
   generalize (65536:Int)^i=Pi at*
   generalize (65536:Int)^j=Pj at*
   grind
 ·have hiA:i=V.length:=by omega
  subst hiA
  rw[List.take_length]at hval
  have e1:((j:Int)+(V.length:Int)).toNat=j+V.length:=by omega
  have es:=hsame (j+V.length) (by omega)
  simp(disch:=omega)only[go_sem,h1,e1,es]
  refine⟨by omega,by omega,by omega,by omega,?_⟩
  refine qg [] [] [.own 1 (qc (U1.set (j+V.length) (U.getD (j+V.length) 0+cy)))] [] rfl (by simp(disch:=omega)only[go_sem]) (by simp(disch:=omega)only[go_sem]) (by simp) (by simp) ⟨_,rfl,rfl,rfl,by simp[hl1],fun t ht=>?_,fun t ht=>?_,?_⟩
  ·rw[jk (by omega),if_neg ht];exact hg1 t ht
  ·rw[jk (by omega),if_neg (by omega)];exact hsame t (by omega)
  ·rw[Q2 (by omega),es]
   generalize (65536:Int)^(j+V.length)=Pj at*
   grind
end Go.Ab
namespace Go.Ab
open Go Go.Proofs
theorem jl(xs:List Int)(hl:xs.length≤2^40):Con Tryz.prog 254 false [.rf 10000000 0 xs.length] [.own 1 (qc xs)] (fun r hs bs=>r=.rf 10000000 0 (Jg xs).length∧hs=[]∧bs=[.own 1 (qc xs)]):=by
 refine Con.of_aw Tryz.func254 rfl Tryz.ntmps254 (by simp) (by simp) (by simp) (W.sound ?_)
 show @W Tryz.prog 21 ⟨_⟩ ⟨fun x σ=>@q7 _ _ _ ⟨_⟩ _ ⟨_⟩ x σ⟩ _ _
 simp(disch:=omega)only[go_sem]
 refine qh (fun m:Nat=>[(0,.rf 10000000 0 m)]) (fun _=>[(10000000,.own 1 (qc xs))]) (fun m=>m≤xs.length∧Jg (xs.take m)=Jg xs) id xs.length ⟨Nat.le_refl _,by simp⟩
  (Le.lst [] _ _ rfl (by simp(disch:=omega)only[go_sem];try omega) (by simp(disch:=omega)only[go_sem])) ?_
 intro m ⟨hm,hx⟩
 have hmx:∀k,k+1=m→xs.take m=xs.take k++[xs.getD k 0]:=fun k hk=>by rw[←hk];exact jI (by omega)
 simp(disch:=omega)only[go_sem]
 refine qe (fun h1=>?_) (fun h1=>?_)
 ·obtain⟨k,rfl⟩:∃k,m=k+1:=⟨m-1,by omega⟩
  have e1:((k+1:Nat):Int)-1=(k:Nat):=by omega
  rw[hmx k rfl]at hx
  simp(disch:=omega)only[go_sem,h1,e1]
  refine⟨by omega,by omega,qe (fun h2=>?_) (fun h2=>?_)⟩
  ·simp(disch:=omega)only[go_sem,h2,e1]
   rw[h2,QA]at hx
   refine⟨by omega,qb k [] ⟨by omega,hx⟩ (by show k<k+1;omega) rfl (by simp(disch:=omega)only[go_sem];try omega) (by simp(disch:=omega)only[go_sem])⟩
  ·simp(disch:=omega)only[go_sem,h2]
   refine qg [] [] [.own 1 (qc xs)] [.rf 10000000 0 (k+1)] rfl (by simp(disch:=omega)only[go_sem]) (by simp(disch:=omega)only[go_sem]) (by simp) (by simp) ⟨?_,rfl,rfl⟩
   rw[Y3 _ h2,←hmx k rfl]at hx
   rw[←hx,List.length_take,Nat.min_eq_left hm];rfl
 ·simp(disch:=omega)only[go_sem,h1]
  refine qg [] [] [.own 1 (qc xs)] [.rf 10000000 0 m] rfl (by simp(disch:=omega)only[go_sem]) (by simp(disch:=omega)only[go_sem]) (by simp) (by simp) ⟨?_,rfl,rfl⟩
  have:m=0:=by omega
  subst this
  rw[←hx];rfl
end Go.Ab
namespace Go.Ab
open Go Go.Proofs
theorem apM{x y:Int}(hx:0≤x∧x<65536)(hy:0≤y∧y<65536):0≤x*y∧x*y≤4294836225:=by
 have h1:=Int.mul_nonneg hx.1 hy.1
 have h2:x*y≤65535*65535:=Int.mul_le_mul (by omega) (by omega) hy.1 (by omega)
 omega
theorem aqP(cl:Bool)(A B:List Int)(hA:gd A)(hB:gd B)(lA:A.length≤1000000)(lB:B.length≤1000000):
  Con Tryz.prog 201 cl [.sl A.length (qc A),.sl B.length (qc B)] [] (ase (lim (vl A*vl B).toNat)):=by
 refine Con.of_aw Tryz.func201 rfl Tryz.ntmps201 (by simp) (by simp) (by simp) (W.sound ?_)
 show @W Tryz.prog 63 ⟨_⟩ ⟨fun x σ=>@q7 _ _ _ ⟨_⟩ _ ⟨_⟩ x σ⟩ _ _
 simp(disch:=omega)only[go_sem]
 refine⟨⟨by omega,by omega,by omega⟩,?_⟩
 refine qh (fun x:Nat×List Int=>[(1,.sl B.length (qc B)),(5,.rf 180000000 0 (A.length+B.length)),(17,.sl A.length (qc A)),(18,.v (.int .i64 A.length)),(19,.v (.int .i64 x.1))])
  (fun x=>[(180000000,.own 1 (qc x.2))])
  (fun x=>x.1≤A.length∧x.2.length=A.length+B.length∧gd x.2∧vl x.2=vl (A.take x.1)*vl B∧∀j,x.1+B.length≤j→x.2.getD j 0=0)
  (fun x=>A.length-x.1) (0,List.replicate (A.length+B.length) 0) ⟨by simp,by simp,zl _,by simp[zP,vl],fun j _=>by
   rw[List.getD_eq_getElem?_getD,List.getElem?_replicate];split<;>rfl⟩
  (Le.lst [] _ _ rfl (by simp(disch:=omega)only[go_sem];try omega) (by simp(disch:=omega)only[go_sem,show((A.length:Int)+(B.length:Int)).toNat=A.length+B.length by omega])) ?_
 rintro⟨i,out⟩ ⟨hi,hol,hog,hov,hoz⟩
 dsimp only at hi hol hog hov hoz ⊢
 simp(disch:=omega)only[go_sem]
 refine qe (fun h1=>?_) (fun h1=>?_)
 ·have hx:=qJ hA i
  simp(disch:=omega)only[go_sem,h1]
  refine⟨by omega,by omega,?_⟩
  refine qh (fun x:Nat×List Int×Int=>[(1,.sl B.length (qc B)),(5,.rf 180000000 0 (A.length+B.length)),(17,.sl A.length (qc A)),(18,.v (.int .i64 A.length)),(19,.v (.int .i64 i)),(6,.v (.int .i64 i)),
    (7,.v (.int .i64 (A.getD i 0))),(8,.v (.int .i64 x.2.2)),(24,.sl B.length (qc B)),(25,.v (.int .i64 B.length)),(26,.v (.int .i64 x.1))])
   (fun x=>[(180000000,.own 1 (qc x.2.1))])
   (fun x=>x.1≤B.length∧x.2.1.length=A.length+B.length∧gd x.2.1∧(0≤x.2.2∧x.2.2<65536)∧vl x.2.1+65536^(i+x.1)*x.2.2=vl out+65536^i*(A.getD i 0*vl (B.take x.1))∧∀j,i+B.length≤j→x.2.1.getD j 0=0)
   (fun x=>B.length-x.1) (0,out,0) ⟨by simp,hol,hog,by simp,by simp[vl],hoz⟩
   (Le.lst [] _ _ rfl (by simp(disch:=omega)only[go_sem];try omega) (by simp(disch:=omega)only[go_sem])) ?_
  rintro⟨j,o2,cy⟩ ⟨hj,hol2,hog2,hcy,hov2,hoz2⟩
  dsimp only at hj hol2 hog2 hcy hov2 hoz2 ⊢
  simp(disch:=omega)only[go_sem]
  refine qe (fun h2=>?_) (fun h2=>?_)
  ·have hy:=qJ hB j
   have ho:=qJ hog2 (i+j)
   have hxy:=apM hx hy
   have e1:((i:Int)+(j:Int)).toNat=i+j:=by omega
   simp(disch:=omega)only[go_sem,h2,e1]
   generalize hq:cy+(o2.getD (i+j) 0+A.getD i 0*B.getD j 0)=q
   refine⟨by omega,by omega,by omega,by omega,by omega,by omega,qb (j+1,o2.set (i+j) (q % 65536),q/65536) [] ⟨by show j+1≤_;omega,by simp[hol2],y0 hog2 (by omega),by show 0≤q/65536∧q/65536<65536;omega,?_,fun k hk=>?_⟩
    (by show B.length-(j+1)<B.length-j;omega) rfl (by simp(disch:=omega)only[go_sem];try omega) (by simp(disch:=omega)only[go_sem])⟩
   ·show vl (o2.set (i+j) (q % 65536))+65536^(i+(j+1))*(q/65536)=vl out+65536^i*(A.getD i 0*vl (B.take (j+1)))
    rw[Q2 (by omega),jc (by omega),←Nat.add_assoc,Int.pow_succ]
    have e2:(65536:Int)^(i+j)=65536^i*65536^j:=Int.pow_add _ _ _
    have e3:q % 65536+65536*(q/65536)=q:=Int.emod_add_mul_ediv q 65536
    rw[e2]at hov2 ⊢
    generalize (65536:Int)^i=Pi at*
    generalize (65536:Int)^j=Pj at*
    grind
   ·show(o2.set (i+j) (q % 65536)).getD k 0=0
    rw[List.getD_eq_getElem?_getD,List.getElem?_set_ne (by omega),←List.getD_eq_getElem?_getD]
    exact hoz2 k hk
  ·simp(disch:=omega)only[go_sem,h2]
   have e1:((i:Int)+(B.length:Int)).toNat=i+B.length:=by omega
   have hjB:j=B.length:=by omega
   subst hjB
   rw[List.take_length]at hov2
   simp(disch:=omega)only[go_sem,e1]
   refine⟨by omega,by omega,qb (i+1,o2.set (i+B.length) cy) [] ⟨by show i+1≤_;omega,by simp[hol2],y0 hog2 hcy,?_,fun k hk=>?_⟩ (by show A.length-(i+1)<A.length-i;omega) rfl (by simp(disch:=omega)only[go_sem];try omega) (by simp(disch:=omega)only[go_sem])⟩
   ·show vl (o2.set (i+B.length) cy)=vl (A.take (i+1))*vl B
    rw[Q2 (by omega),hoz2 _ (Nat.le_refl _),jc (by omega)]
    generalize (65536:Int)^i=Pi at*
    grind
   ·show(o2.set (i+B.length) cy).getD k 0=0
    rw[List.getD_eq_getElem?_getD,List.getElem?_set_ne (by show i+B.length≠k;omega),←List.getD_eq_getElem?_getD]
    exact hoz2 k (by omega)
 ·simp(disch:=omega)only[go_sem,h1]
  have hiA:i=A.length:=by omega
  subst hiA
  rw[List.take_length]at hov
  refine zb false [180000000] (jl out (by omega)) (by rw[←hol];simp(disch:=omega)only[go_sem]) (by simp(disch:=omega)only[go_sem]) rfl (qO (z:=1) (cs:=qc out) (by simp(disch:=omega)only[go_sem]) (by simp(disch:=omega)only[go_sem])) (by intro n hn;exact⟨_,List.mem_singleton.2 rfl,by rw[List.mem_singleton.1 hn];rfl⟩) ?_
  rintro r hs bs ⟨rfl,rfl,rfl⟩ _
  refine⟨by simp[qQ],?_⟩
  simp(disch:=omega)only[go_sem]
  obtain⟨z,hz⟩:=zL out
  have hc:=ja hog
  rw[hov]at hc
  rw[hc]at hz ⊢
  refine qg [(0,180000000)] [.own 1 (qc out)] [] [.rf 0 0 (lim (vl A*vl B).toNat).length] rfl (by simp(disch:=omega)only[go_sem]) (by simp(disch:=omega)only[go_sem]) (by simp) (by intro _;simp[zh,AV.pu,AV.pu.puL,Ob.pu,qY]) (.inr ⟨List.replicate z 0,rfl,by rw[←hz]⟩)
end Go.Ab
namespace Go.Ab
open Go Go.Proofs
theorem aqT(cl:Bool)(n:Nat)(hn:n<2^63):Con Tryz.prog 216 cl [.v (.int .i64 n)] [] (ase (lim n)):=by
 refine Con.of_aw Tryz.func216 rfl Tryz.ntmps216 (by simp) (by simp) (by simp) (W.sound ?_)
 show @W Tryz.prog 14 ⟨_⟩ ⟨fun x σ=>@q7 _ _ _ ⟨_⟩ _ ⟨_⟩ x σ⟩ _ _
 simp(disch:=omega)only[go_sem]
 refine qh (fun x:Nat×List Int=>[(0,.v (.int .i64 x.1)),(3,.rf 1 0 x.2.length)]) (fun x=>[(1,.own 1 (qc x.2))]) (fun x=>x.1<2^63∧x.2++lim x.1=lim n) (fun x=>x.1) (n,[]) ⟨hn,rfl⟩
  ((Le.ghost 3 1 1 (by simp(disch:=omega)only[go_sem]) (by simp(disch:=omega)only[go_sem])).trans (Le.lst [] _ _ rfl (by simp(disch:=omega)only[go_sem]) (by simp(disch:=omega)only[go_sem]))) ?_
 rintro⟨k,l⟩ ⟨hk,hl⟩
 dsimp only at hk hl ⊢
 have hlen:l.length≤4:=by
  have h1:=congrArg List.length hl
  have h2:=jD (n:=n) (k:=4) |>.2 (by omega)
  rw[List.length_append]at h1;omega
 simp(disch:=omega)only[go_sem]
 refine qe (fun h1=>?_) (fun h1=>?_)
 ·simp(disch:=omega)only[go_sem,h1]
  have hk0:k≠0:=by omega
  refine⟨by omega,qb (k/65536,l++[(k:Int) % 65536]) [(1,140000000)] ⟨by show k/65536<2^63;omega,?_⟩ (by show k/65536<k;omega) rfl (by simp(disch:=omega)only[go_sem,List.length_append];omega) (by simp(disch:=omega)only[go_sem])⟩
  rw[j8 hk0]at hl
  rw[←hl,List.append_assoc];rfl
 ·simp(disch:=omega)only[go_sem,h1]
  have hk0:k=0:=by omega
  subst hk0
  rw[qm,List.append_nil]at hl
  subst hl
  refine qg [(0,1)] [.own 1 (qc (lim n++[]))] [] [.rf 0 0 (lim n).length] rfl (by simp(disch:=omega)only[go_sem]) (by simp(disch:=omega)only[go_sem]) (by simp) (by intro _;simp[zh,AV.pu,AV.pu.puL,Ob.pu,qY]) (.inr ⟨[],rfl,rfl⟩)
end Go.Ab
namespace Go.Ab
open Go Go.Proofs
theorem yn(k:Nat)(h:k<16):(0:Int)<2^k∧(2:Int)^k≤32768:=by
 have:∀k,k<16→(0:Int)<2^k∧(2:Int)^k≤32768:=by decide
 exact this k h
theorem apL{x:Int}(hx:0≤x∧x<65536){k:Nat}(hk:k<16):0≤x*2^k∧x*2^k≤2147450880:=by
 obtain⟨h1,h2⟩:=yn k hk
 have h3:=Int.mul_nonneg hx.1 (Int.le_of_lt h1)
 have h4:x*2^k≤65535*32768:=Int.mul_le_mul (by omega) h2 (by omega) (by omega)
 omega
theorem K5(k:Nat):(65536:Int)^(k/16)*2^(k % 16)=2^k:=by
 have e:(65536:Int)=2^16:=by decide
 rw[e,←Int.pow_mul,←Int.pow_add,Nat.div_add_mod]
theorem aTS(cl:Bool)(A:List Int)(k:Nat)(hA:gd A)(lA:A.length≤1000000)(hk:k≤100000000):
  Con Tryz.prog 244 cl [.sl A.length (qc A),.v (.int .i64 k)] [] (ase (lim (vl A*2^k).toNat)):=by
 refine Con.of_aw Tryz.func244 rfl Tryz.ntmps244 (by simp) (by simp) (by simp) (W.sound ?_)
 show @W Tryz.prog 46 ⟨_⟩ ⟨fun x σ=>@q7 _ _ _ ⟨_⟩ _ ⟨_⟩ x σ⟩ _ _
 simp(disch:=omega)only[go_sem]
 refine qe (fun h0=>?_) (fun h0=>?_)
 ·simp(disch:=omega)only[go_sem,h0]
  have:A=[]:=List.length_eq_zero_iff.1 (by omega)
  subst this
  refine qg [] [] [] [.v (.slice none 0 0)] rfl (by simp(disch:=omega)only[go_sem]) (by simp(disch:=omega)only[go_sem]) (by simp) (by intro _;simp[zh,AV.pu,AV.pu.puL,Ob.pu,qY]) (.inl ⟨by simp[vl,qm],rfl,rfl⟩)
 ·simp(disch:=omega)only[go_sem,h0]
  refine⟨by omega,?_⟩
  have e16:((k:Int)/16).toNat=k/16:=by omega
  refine qh (fun x:Nat×List Int×Int=>[(1,.v (.int .i64 k)),(5,.rf 1 0 x.2.1.length),(6,.v (.int .i64 x.2.2)),(21,.sl A.length (qc A)),(22,.v (.int .i64 A.length)),(23,.v (.int .i64 x.1))])
   (fun x=>[(1,.own 1 (qc x.2.1))])
   (fun x=>x.1≤A.length∧x.2.1.length=k/16+x.1∧gd x.2.1∧(0≤x.2.2∧x.2.2<65536)∧vl x.2.1+65536^(k/16+x.1)*x.2.2=65536^(k/16)*2^(k % 16)*vl (A.take x.1))
   (fun x=>A.length-x.1) (0,List.replicate (k/16) 0,0) ⟨by simp,by simp,zl _,by simp,by simp[vl,zP]⟩
   (Le.lst [(1,220000000)] _ _ rfl (by simp(disch:=omega)only[go_sem,List.length_replicate,e16]) (by simp(disch:=omega)only[go_sem,e16])) ?_
  rintro⟨i,out,cy⟩ ⟨hi,hol,hog,hcy,hov⟩
  dsimp only at hi hol hog hcy hov ⊢
  simp(disch:=omega)only[go_sem]
  refine qe (fun h1=>?_) (fun h1=>?_)
  ·have hx:=qJ hA i
   have hxs:=apL hx (show k % 16<16 by omega)
   have em:min ((k:Int) % 16).toNat 64=k % 16:=by omega
   simp(disch:=omega)only[go_sem,h1,em]
   generalize hq:cy+A.getD i 0*2^(k % 16)=q
   refine⟨by omega,by omega,by omega,by omega,qb (i+1,out++[q % 65536],q/65536) [(1,390000000)] ⟨by show i+1≤_;omega,by simp[hol];omega,qE.2 ⟨hog,zT.2 (by omega)⟩,by show 0≤q/65536∧q/65536<65536;omega,?_⟩ (by show A.length-(i+1)<A.length-i;omega) rfl (by simp(disch:=omega)only[go_sem,List.length_append];try omega) (by simp(disch:=omega)only[go_sem])⟩
   show vl (out++[q % 65536])+65536^(k/16+(i+1))*(q/65536)=65536^(k/16)*2^(k % 16)*vl (A.take (i+1))
   rw[jp,qP,hol,←Nat.add_assoc,Int.pow_succ]
   have e3:q % 65536+65536*(q/65536)=q:=Int.emod_add_mul_ediv q 65536
   rw[Int.pow_add]at hov ⊢
   generalize (65536:Int)^i=Pi at*
   generalize (65536:Int)^(k/16)=Pk at*
   generalize (2:Int)^(k % 16)=Pm at*
   grind
  ·simp(disch:=omega)only[go_sem,h1]
   have hiA:i=A.length:=by omega
   subst hiA
   rw[List.take_length,K5]at hov
   have hov2:vl (out++[cy])=vl A*2^k:=by rw[jp,hol,hov];grind
   have hog2:gd (out++[cy]):=qE.2 ⟨hog,zT.2 hcy⟩
   refine⟨by omega,?_⟩
   have hl2:out.length+1=(out++[cy]).length:=by simp
   rw[hl2]
   refine zb false [460000000] (jl (out++[cy]) (by simp;omega)) (by simp(disch:=omega)only[go_sem]) (by simp(disch:=omega)only[go_sem]) rfl (qO (z:=1) (cs:=qc (out++[cy])) (by simp(disch:=omega)only[go_sem]) (by simp(disch:=omega)only[go_sem])) (by intro n hn;exact⟨_,List.mem_singleton.2 rfl,by rw[List.mem_singleton.1 hn];rfl⟩) ?_
   rintro r hs bs ⟨rfl,rfl,rfl⟩ _
   refine⟨by simp[qQ],?_⟩
   simp(disch:=omega)only[go_sem]
   obtain⟨z,hz⟩:=zL (out++[cy])
   have hc:=ja hog2
   rw[hov2]at hc
   rw[hc]at hz ⊢
   refine qg [(0,460000000)] [.own 1 (qc (out++[cy]))] [] [.rf 0 0 (lim (vl A*2^k).toNat).length] rfl (by simp(disch:=omega)only[go_sem]) (by simp(disch:=omega)only[go_sem]) (by simp) (by intro _;simp[zh,AV.pu,AV.pu.puL,Ob.pu,qY]) (.inr ⟨List.replicate z 0,rfl,by rw[←hz]⟩)
end Go.Ab
namespace Go.Ab
open Go Go.Proofs
theorem aCt(V P:Int)(hP:0<P):V % (P*65536)=V % P+P*(V/P % 65536):=by
 rw[Int.emod_def,Int.emod_def,Int.emod_def,←Int.ediv_ediv_of_nonneg (Int.le_of_lt hP)]
 grind
theorem aBU{s:Nat}(hs:s<16):(65536:Int)=2^s*2^(16-s):=by
 rw[←Int.pow_add,show s+(16-s)=16 by omega];decide
theorem aj6{D:List Int}(hD:gd D){i s:Nat}(hi:i<D.length)(hs:s<16):
  (vl D/2^s)/65536^i % 65536=(D.getD i 0+D.getD (i+1) 0*65536)/2^s % 65536:=by
 have h2:=(yn s hs).1
 rw[Int.ediv_ediv_of_nonneg (Int.le_of_lt h2),Int.mul_comm,←Int.ediv_ediv_of_nonneg (Int.le_of_lt (Int.pow_pos (by omega))),ae3 hD (by omega),zD hi]
 have h3:vl (D.drop (i+1))=D.getD (i+1) 0+65536*vl (D.drop (i+2)):=by
  rcases Nat.lt_or_ge (i+1) D.length with h|h
  ·exact zD h
  ·rw[List.drop_of_length_le h,List.drop_of_length_le (by omega),List.getD_eq_getElem?_getD,List.getElem?_eq_none h];simp[vl]
 rw[h3]
 have e:D.getD i 0+65536*(D.getD (i+1) 0+65536*vl (D.drop (i+2)))=(D.getD i 0+D.getD (i+1) 0*65536)+2^s*(65536*(2^(16-s)*vl (D.drop (i+2)))):=by
  have:=aBU hs
  generalize (2:Int)^s=a at*
  generalize (2:Int)^(16-s)=b at*
  grind
 rw[e,Int.add_mul_ediv_left _ _ (by omega),Int.add_mul_emod_self_left]
theorem app{a b:Nat}(h:a≤b):(65536:Int)^a≤65536^b:=by
 obtain⟨d,rfl⟩:=Nat.exists_eq_add_of_le h
 have h1:(0:Int)<65536^a:=Int.pow_pos (by omega)
 have h2:(0:Int)<65536^d:=Int.pow_pos (by omega)
 have h3:=Int.mul_le_mul_of_nonneg_left (show(1:Int)≤65536^d by omega) (Int.le_of_lt h1)
 rw[Int.mul_one,←Int.pow_add]at h3
 exact h3
theorem aDT(cl:Bool)(A:List Int)(k:Nat)(hA:gd A)(lA:A.length≤1000000)(hk:k≤100000000):
  Con Tryz.prog 235 cl [.sl A.length (qc A),.v (.int .i64 k)] [] (ase (lim (vl A/2^k).toNat)):=by
 refine Con.of_aw Tryz.func235 rfl Tryz.ntmps235 (by simp) (by simp) (by simp) (W.sound ?_)
 show @W Tryz.prog 52 ⟨_⟩ ⟨fun x σ=>@q7 _ _ _ ⟨_⟩ _ ⟨_⟩ x σ⟩ _ _
 have hvk:vl A/2^k=vl A/65536^(k/16)/2^(k % 16):=by
  rw[Int.ediv_ediv_of_nonneg (Int.le_of_lt (Int.pow_pos (by omega))),K5]
 simp(disch:=omega)only[go_sem]
 refine qe (fun h0=>?_) (fun h0=>?_)
 ·simp(disch:=omega)only[go_sem,h0]
  have hz:vl A/2^k=0:=by
   rw[hvk,Int.ediv_eq_zero_of_lt (qU hA)]
   ·simp
   ·refine Int.lt_of_lt_of_le (QF hA) ?_
    exact app (by omega)
  rw[hz]
  refine qg [] [] [] [.v (.slice none 0 0)] rfl (by simp(disch:=omega)only[go_sem]) (by simp(disch:=omega)only[go_sem]) (by simp) (by intro _;simp[zh,AV.pu,AV.pu.puL,Ob.pu,qY]) (.inl ⟨by simp[qm],rfl,rfl⟩)
 ·have e16:((k:Int)/16).toNat=k/16:=by omega
  have e17:((A.length:Int)-(k:Int)/16).toNat=(A.drop (k/16)).length:=by simp;omega
  have e18:(A.drop (k/16)).take (A.drop (k/16)).length=A.drop (k/16):=List.take_length
  have hvD:=ae3 hA (i:=k/16) (by omega)
  have hlD:(A.drop (k/16)).length≤1000000:=by simp;omega
  have hD:=yu hA (k/16)
  simp(disch:=omega)only[go_sem,h0,e16,e17,e18]
  generalize A.drop (k/16)=D at*
  refine⟨by omega,by omega,?_⟩
  refine qh (fun x:Nat×List Int=>[(1,.v (.int .i64 k)),(5,.sl D.length (qc D)),(6,.rf 1 0 x.2.length),(21,.sl D.length (qc D)),(22,.v (.int .i64 D.length)),(23,.v (.int .i64 x.1))])
   (fun x=>[(1,.own 1 (qc x.2))])
   (fun x=>x.1≤D.length∧x.2.length=x.1∧gd x.2∧vl x.2=vl D/2^(k % 16) % 65536^x.1)
   (fun x=>D.length-x.1) (0,[]) ⟨by simp,rfl,Z9,by simp[vl]⟩
   (Le.lst [(1,220000000)] _ _ rfl (by simp(disch:=omega)only[go_sem]) (by simp(disch:=omega)only[go_sem])) ?_
  rintro⟨i,out⟩ ⟨hi,hol,hog,hov⟩
  dsimp only at hi hol hog hov ⊢
  simp(disch:=omega)only[go_sem]
  refine qe (fun h1=>?_) (fun h1=>?_)
  ·have hx:=qJ hD i
   have hy:=qJ hD (i+1)
   have em:min ((k:Int) % 16).toNat 64=k % 16:=by omega
   have hm:=yn (k % 16) (by omega)
   have efd:∀x:Int,x.fdiv (2^(k % 16))=x/2^(k % 16):=fun x=>Int.fdiv_eq_ediv_of_nonneg _ (Int.le_of_lt hm.1)
   have hdig:=aj6 hD (i:=i) (s:=k % 16) (by omega) (by omega)
   have hnn:∀x:Int,0≤x→0≤x/2^(k % 16):=fun x hx=>Int.ediv_nonneg hx (Int.le_of_lt hm.1)
   have ei:((i:Int)+1).toNat=i+1:=by omega
   have hstep:∀z:Int,z=(D.getD i 0+D.getD (i+1) 0*65536)/2^(k % 16) % 65536→vl (out++[z])=vl D/2^(k % 16) % 65536^(i+1):=by
    intro z hz
    rw[jp,hov,hol,Int.pow_succ,aCt _ _ (Int.pow_pos (by omega)),hdig,hz]
   simp(disch:=omega)only[go_sem,h1]
   refine⟨by omega,by omega,qe (fun h2=>?_) (fun h2=>?_)⟩
   ·have hn1:=hnn (D.getD i 0+D.getD (i+1) 0*65536) (by omega)
    simp(disch:=omega)only[go_sem,h2,em,efd,ei]
    refine⟨by omega,by omega,by omega,by omega,qb (i+1,out++[(D.getD i 0+D.getD (i+1) 0*65536)/2^(k % 16) % 65536]) [(1,500000000)] ⟨by show i+1≤_;omega,by simp[hol],qE.2 ⟨hog,zT.2 (by omega)⟩,hstep _ rfl⟩ (by show D.length-(i+1)<D.length-i;omega) rfl (by simp(disch:=omega)only[go_sem,List.length_append];try omega) (by simp(disch:=omega)only[go_sem])⟩
   ·have hn1:=hnn (D.getD i 0) (by omega)
    simp(disch:=omega)only[go_sem,h2,em,efd]
    have hy0:D.getD (i+1) 0=0:=by rw[List.getD_eq_getElem?_getD,List.getElem?_eq_none (by omega)];rfl
    refine⟨by omega,by omega,qb (i+1,out++[D.getD i 0/2^(k % 16) % 65536]) [(1,500000000)] ⟨by show i+1≤_;omega,by simp[hol],qE.2 ⟨hog,zT.2 (by omega)⟩,hstep _ (by rw[hy0];simp)⟩ (by show D.length-(i+1)<D.length-i;omega) rfl (by simp(disch:=omega)only[go_sem,List.length_append];try omega) (by simp(disch:=omega)only[go_sem])⟩
  ·simp(disch:=omega)only[go_sem,h1]
   have hiD:i=D.length:=by omega
   subst hiD
   have hV:vl out=vl A/2^k:=by
    rw[hov,hvk,hvD]
    refine Int.emod_eq_of_lt (Int.ediv_nonneg (qU hD) (Int.le_of_lt (yn (k % 16) (by omega)).1)) ?_
    exact Int.lt_of_le_of_lt (Int.ediv_le_self _ (qU hD)) (QF hD)
   refine zb false [1] (jl out (by omega)) (by simp(disch:=omega)only[go_sem]) (by simp(disch:=omega)only[go_sem]) rfl (qO (z:=1) (cs:=qc out) (by simp(disch:=omega)only[go_sem]) (by simp(disch:=omega)only[go_sem])) (by intro n hn;exact⟨_,List.mem_singleton.2 rfl,by rw[List.mem_singleton.1 hn];rfl⟩) ?_
   rintro r hs bs ⟨rfl,rfl,rfl⟩ _
   refine⟨by simp[qQ],?_⟩
   simp(disch:=omega)only[go_sem]
   obtain⟨z,hz⟩:=zL out
   have hc:=ja hog
   rw[hV]at hc
   rw[hc]at hz ⊢
   refine qg [(0,1)] [.own 1 (qc out)] [] [.rf 0 0 (lim (vl A/2^k).toNat).length] rfl (by simp(disch:=omega)only[go_sem]) (by simp(disch:=omega)only[go_sem]) (by simp) (by intro _;simp[zh,AV.pu,AV.pu.puL,Ob.pu,qY]) (.inr ⟨List.replicate z 0,rfl,by rw[←hz]⟩)
end Go.Ab
namespace Go.Ab
open Go Go.Proofs
theorem drop_set{l:List Int}{i:Nat}(h:i<l.length)(z:Int):(l.set i z).drop i=z::l.drop (i+1):=by
 rw[List.drop_eq_getElem_cons (by simpa using h)]
 simp[List.drop_set]
theorem aDU(cl:Bool)(A:List Int)(d:Nat)(hA:gd A)(lA:A.length≤1000000)(hd:0<d)(hd2:d<65536):
  Con Tryz.prog 288 cl [.sl A.length (qc A),.v (.int .i64 d)] [] (fun r hs bs=>∃zs,r=.tu [.rf 0 0 (lim (vl A/d).toNat).length,.v (.int .i64 (vl A % d))]∧hs=[.own 1 (qc (lim (vl A/d).toNat++zs))]):=by
 refine Con.of_aw Tryz.func288 rfl Tryz.ntmps288 (by simp) (by simp) (by simp) (W.sound ?_)
 show @W Tryz.prog 38 ⟨_⟩ ⟨fun x σ=>@q7 _ _ _ ⟨_⟩ _ ⟨_⟩ x σ⟩ _ _
 simp(disch:=omega)only[go_sem]
 refine⟨by omega,?_⟩
 refine qh (fun x:Nat×List Int×Int=>[(0,.sl A.length (qc A)),(1,.v (.int .i64 d)),(6,.rf 130000000 0 A.length),(7,.v (.int .i64 x.2.2)),(8,.v (.int .i64 ((x.1:Int)-1)))])
  (fun x=>[(130000000,.own 1 (qc x.2.1))])
  (fun x=>x.1≤A.length∧x.2.1.length=A.length∧gd x.2.1∧x.2.2=vl (A.drop x.1) % d∧vl (x.2.1.drop x.1)=vl (A.drop x.1)/d)
  (fun x=>x.1) (A.length,List.replicate A.length 0,0) ⟨by simp,by simp,zl _,by simp[vl],by simp[vl]⟩
  (Le.lst [] _ _ rfl (by simp(disch:=omega)only[go_sem];try omega) (by simp(disch:=omega)only[go_sem])) ?_
 rintro⟨m,out,rest⟩ ⟨hm,hol,hog,hr,hov⟩
 dsimp only at hm hol hog hr hov ⊢
 simp(disch:=omega)only[go_sem]
 refine qe (fun h1=>?_) (fun h1=>?_)
 ·obtain⟨i,rfl⟩:∃i,m=i+1:=⟨m-1,by omega⟩
  have e1:((i+1:Nat):Int)-1=(i:Nat):=by omega
  have hx:=qJ hA i
  have hr2:0≤rest∧rest<d:=by rw[hr];exact⟨Int.emod_nonneg _ (by omega),Int.emod_lt_of_pos _ (by omega)⟩
  generalize hq:rest*65536+A.getD i 0=q
  have hq0:0≤q:=by omega
  have hqd:0≤q/d∧q/d<65536:=⟨Int.ediv_nonneg hq0 (by omega),Int.ediv_lt_of_lt_mul (by omega) (by omega)⟩
  have hqm:0≤q % d∧q % d<d:=⟨Int.emod_nonneg _ (by omega),Int.emod_lt_of_pos _ (by omega)⟩
  simp(disch:=omega)only[go_sem,h1,e1,hq]
  refine⟨by omega,by omega,by omega,by omega,by omega,by omega,qb (i,out.set i (q/d),q % d) [] ⟨by show i≤_;omega,by simp[hol],y0 hog hqd,?_,?_⟩ (by show i<i+1;omega) rfl (by simp(disch:=omega)only[go_sem]) (by simp(disch:=omega)only[go_sem])⟩
  ·show q % d=vl (A.drop i) % d
   rw[zD (l:=A) (i:=i) (by omega),←hq,hr]
   have h3:=Int.emod_add_mul_ediv (vl (A.drop (i+1))) d
   rw[show A.getD i 0+65536*vl (A.drop (i+1))=vl (A.drop (i+1)) % d*65536+A.getD i 0+d*(65536*(vl (A.drop (i+1))/d)) by grind,Int.add_mul_emod_self_left]
  ·show vl ((out.set i (q/d)).drop i)=vl (A.drop i)/d
   rw[drop_set (by omega),vl,hov,zD (l:=A) (i:=i) (by omega),←hq,hr]
   have h3:=Int.emod_add_mul_ediv (vl (A.drop (i+1))) d
   rw[show A.getD i 0+65536*vl (A.drop (i+1))=vl (A.drop (i+1)) % d*65536+A.getD i 0+d*(65536*(vl (A.drop (i+1))/d)) by grind,Int.add_mul_ediv_left _ _ (by omega)]
 ·simp(disch:=omega)only[go_sem,h1]
  have:m=0:=by omega
  subst this
  rw[List.drop_zero,List.drop_zero]at hov
  rw[List.drop_zero]at hr
  rw[←hol]
  refine zb false [130000000] (jl out (by omega)) (by simp(disch:=omega)only[go_sem]) (by simp(disch:=omega)only[go_sem]) rfl (qO (z:=1) (cs:=qc out) (by simp(disch:=omega)only[go_sem]) (by simp(disch:=omega)only[go_sem])) (by intro n hn;exact⟨_,List.mem_singleton.2 rfl,by rw[List.mem_singleton.1 hn];rfl⟩) ?_
  rintro r hs bs ⟨rfl,rfl,rfl⟩ _
  refine⟨by simp[qQ],?_⟩
  simp(disch:=omega)only[go_sem]
  obtain⟨z,hz⟩:=zL out
  have hc:=ja hog
  rw[hov]at hc
  rw[hc]at hz ⊢
  rw[hr]
  refine qg [(0,130000000)] [.own 1 (qc out)] [] [.rf 0 0 (lim (vl A/d).toNat).length,.v (.int .i64 (vl A % d))] rfl (by simp(disch:=omega)only[go_sem]) (by simp(disch:=omega)only[go_sem]) (by simp) (by intro _;simp[zh,AV.pu,AV.pu.puL,Ob.pu,qY]) ⟨List.replicate z 0,rfl,by rw[←hz]⟩
end Go.Ab
namespace Go.Ab
open Go Go.Proofs
theorem aDJ(cl:Bool)(A B:List Int)(hA:gd A)(hB:gd B)(lA:A.length≤2000000)(lB:B.length≤2000000):
  Con Tryz.prog 249 cl [.sl A.length (qc A),.sl B.length (qc B)] [] (ase (lim (vl A+vl B).toNat)):=by
 refine Con.of_aw Tryz.func249 rfl Tryz.ntmps249 (by simp) (by simp) (by simp) (W.sound ?_)
 show @W Tryz.prog 53 ⟨_⟩ ⟨fun x σ=>@q7 _ _ _ ⟨_⟩ _ ⟨_⟩ x σ⟩ _ _
 simp(disch:=omega)only[go_sem]
 refine qe (fun h0=>?_) (fun h0=>?_)
 all_goals simp(disch:=omega)only[go_sem,h0]
 ·revert A B
  intro Y X hY hX lY lX h0'
  have h00:Y.length≤X.length:=by omega
  have hcm:vl Y+vl X=vl X+vl Y:=Int.add_comm _ _
  refine⟨by omega,?_⟩
  refine qh (fun x:Nat×List Int×Int=>[(1,.sl Y.length (qc Y)),(5,.rf 1 0 x.2.1.length),(6,.v (.int .i64 x.2.2)),(20,.sl X.length (qc X)),(21,.v (.int .i64 X.length)),(22,.v (.int .i64 x.1))])
   (fun x=>[(1,.own 1 (qc x.2.1))])
   (fun x=>x.1≤X.length∧x.2.1.length=x.1∧gd x.2.1∧(0≤x.2.2∧x.2.2≤1)∧vl x.2.1+65536^x.1*x.2.2=vl (X.take x.1)+vl (Y.take x.1))
   (fun x=>X.length-x.1) (0,[],0) ⟨by simp,rfl,Z9,by simp,by simp[vl]⟩
   (Le.lst [(1,210000000)] _ _ rfl (by simp(disch:=omega)only[go_sem]) (by simp(disch:=omega)only[go_sem])) ?_
  rintro⟨i,out,cy⟩ ⟨hi,hol,hog,hcy,hov⟩
  dsimp only at hi hol hog hcy hov ⊢
  simp(disch:=omega)only[go_sem]
  refine qe (fun h1=>?_) (fun h1=>?_)
  ·have hx:=qJ hX i
   have hy:=qJ hY i
   have hstep:∀q:Int,q=cy+X.getD i 0+Y.getD i 0→vl (out++[q % 65536])+65536^(i+1)*(q/65536)=vl (X.take (i+1))+vl (Y.take (i+1)):=by
    intro q hq
    rw[jp,qP,qP,hol,Int.pow_succ]
    have e3:q % 65536+65536*(q/65536)=q:=Int.emod_add_mul_ediv q 65536
    generalize (65536:Int)^i=Pi at*
    grind
   have hyz:¬i<Y.length→Y.getD i 0=0:=fun h=>by rw[List.getD_eq_getElem?_getD,List.getElem?_eq_none (by omega)];rfl
   simp(disch:=omega)only[go_sem,h1]
   refine⟨by omega,by omega,qe (fun h2=>?_) (fun h2=>?_)⟩
   ·simp(disch:=omega)only[go_sem,h2]
    generalize hq:cy+X.getD i 0+Y.getD i 0=q
    refine⟨by omega,by omega,by omega,qb (i+1,out++[q % 65536],q/65536) [(1,460000000)] ⟨by show i+1≤_;omega,by simp[hol],qE.2 ⟨hog,zT.2 (by omega)⟩,by show 0≤q/65536∧q/65536≤1;omega,hstep q hq.symm⟩ (by show X.length-(i+1)<X.length-i;omega) rfl (by simp(disch:=omega)only[go_sem,List.length_append];try omega) (by simp(disch:=omega)only[go_sem])⟩
   ·simp(disch:=omega)only[go_sem,h2]
    have hy0:=hyz (by omega)
    generalize hq:cy+X.getD i 0=q
    refine⟨by omega,qb (i+1,out++[q % 65536],q/65536) [(1,460000000)] ⟨by show i+1≤_;omega,by simp[hol],qE.2 ⟨hog,zT.2 (by omega)⟩,by show 0≤q/65536∧q/65536≤1;omega,hstep q (by omega)⟩ (by show X.length-(i+1)<X.length-i;omega) rfl (by simp(disch:=omega)only[go_sem,List.length_append];try omega) (by simp(disch:=omega)only[go_sem])⟩
  ·simp(disch:=omega)only[go_sem,h1]
   have hiA:i=X.length:=by omega
   subst hiA
   rw[List.take_length,List.take_of_length_le h00]at hov
   have hov2:vl (out++[cy])=vl X+vl Y:=by rw[jp,hol];exact hov
   have hog2:gd (out++[cy]):=qE.2 ⟨hog,zT.2 (by omega)⟩
   refine⟨by omega,?_⟩
   have hl2:out.length+1=(out++[cy]).length:=by simp
   rw[hl2]
   refine zb false [530000000] (jl (out++[cy]) (by simp;omega)) (by simp(disch:=omega)only[go_sem]) (by simp(disch:=omega)only[go_sem]) rfl (qO (z:=1) (cs:=qc (out++[cy])) (by simp(disch:=omega)only[go_sem]) (by simp(disch:=omega)only[go_sem])) (by intro n hn;exact⟨_,List.mem_singleton.2 rfl,by rw[List.mem_singleton.1 hn];rfl⟩) ?_
   rintro r hs bs ⟨rfl,rfl,rfl⟩ _
   refine⟨by simp[qQ],?_⟩
   simp(disch:=omega)only[go_sem]
   obtain⟨z,hz⟩:=zL (out++[cy])
   have hc:=ja hog2
   rw[hov2]at hc
   rw[hc]at hz ⊢
   refine qg [(0,530000000)] [.own 1 (qc (out++[cy]))] [] [.rf 0 0 (lim (vl X+vl Y).toNat).length] rfl (by simp(disch:=omega)only[go_sem]) (by simp(disch:=omega)only[go_sem]) (by simp) (by intro _;simp[zh,AV.pu,AV.pu.puL,Ob.pu,qY]) (.inr ⟨List.replicate z 0,by rw[hcm];rfl,by rw[hcm,←hz]⟩)
 ·revert A B
  intro X Y hX hY lX lY h0'
  have h00:Y.length≤X.length:=by omega
  have hcm:vl X+vl Y=vl X+vl Y:=rfl
  refine⟨by omega,?_⟩
  refine qh (fun x:Nat×List Int×Int=>[(1,.sl Y.length (qc Y)),(5,.rf 1 0 x.2.1.length),(6,.v (.int .i64 x.2.2)),(20,.sl X.length (qc X)),(21,.v (.int .i64 X.length)),(22,.v (.int .i64 x.1))])
   (fun x=>[(1,.own 1 (qc x.2.1))])
   (fun x=>x.1≤X.length∧x.2.1.length=x.1∧gd x.2.1∧(0≤x.2.2∧x.2.2≤1)∧vl x.2.1+65536^x.1*x.2.2=vl (X.take x.1)+vl (Y.take x.1))
   (fun x=>X.length-x.1) (0,[],0) ⟨by simp,rfl,Z9,by simp,by simp[vl]⟩
   (Le.lst [(1,210000000)] _ _ rfl (by simp(disch:=omega)only[go_sem]) (by simp(disch:=omega)only[go_sem])) ?_
  rintro⟨i,out,cy⟩ ⟨hi,hol,hog,hcy,hov⟩
  dsimp only at hi hol hog hcy hov ⊢
  simp(disch:=omega)only[go_sem]
  refine qe (fun h1=>?_) (fun h1=>?_)
  ·have hx:=qJ hX i
   have hy:=qJ hY i
   have hstep:∀q:Int,q=cy+X.getD i 0+Y.getD i 0→vl (out++[q % 65536])+65536^(i+1)*(q/65536)=vl (X.take (i+1))+vl (Y.take (i+1)):=by
    intro q hq
    rw[jp,qP,qP,hol,Int.pow_succ]
    have e3:q % 65536+65536*(q/65536)=q:=Int.emod_add_mul_ediv q 65536
    generalize (65536:Int)^i=Pi at*
    grind
   have hyz:¬i<Y.length→Y.getD i 0=0:=fun h=>by rw[List.getD_eq_getElem?_getD,List.getElem?_eq_none (by omega)];rfl
   simp(disch:=omega)only[go_sem,h1]
   refine⟨by omega,by omega,qe (fun h2=>?_) (fun h2=>?_)⟩
   ·simp(disch:=omega)only[go_sem,h2]
    generalize hq:cy+X.getD i 0+Y.getD i 0=q
    refine⟨by omega,by omega,by omega,qb (i+1,out++[q % 65536],q/65536) [(1,460000000)] ⟨by show i+1≤_;omega,by simp[hol],qE.2 ⟨hog,zT.2 (by omega)⟩,by show 0≤q/65536∧q/65536≤1;omega,hstep q hq.symm⟩ (by show X.length-(i+1)<X.length-i;omega) rfl (by simp(disch:=omega)only[go_sem,List.length_append];try omega) (by simp(disch:=omega)only[go_sem])⟩
   ·simp(disch:=omega)only[go_sem,h2]
    have hy0:=hyz (by omega)
    generalize hq:cy+X.getD i 0=q
    refine⟨by omega,qb (i+1,out++[q % 65536],q/65536) [(1,460000000)] ⟨by show i+1≤_;omega,by simp[hol],qE.2 ⟨hog,zT.2 (by omega)⟩,by show 0≤q/65536∧q/65536≤1;omega,hstep q (by omega)⟩ (by show X.length-(i+1)<X.length-i;omega) rfl (by simp(disch:=omega)only[go_sem,List.length_append];try omega) (by simp(disch:=omega)only[go_sem])⟩
  ·simp(disch:=omega)only[go_sem,h1]
   have hiA:i=X.length:=by omega
   subst hiA
   rw[List.take_length,List.take_of_length_le h00]at hov
   have hov2:vl (out++[cy])=vl X+vl Y:=by rw[jp,hol];exact hov
   have hog2:gd (out++[cy]):=qE.2 ⟨hog,zT.2 (by omega)⟩
   refine⟨by omega,?_⟩
   have hl2:out.length+1=(out++[cy]).length:=by simp
   rw[hl2]
   refine zb false [530000000] (jl (out++[cy]) (by simp;omega)) (by simp(disch:=omega)only[go_sem]) (by simp(disch:=omega)only[go_sem]) rfl (qO (z:=1) (cs:=qc (out++[cy])) (by simp(disch:=omega)only[go_sem]) (by simp(disch:=omega)only[go_sem])) (by intro n hn;exact⟨_,List.mem_singleton.2 rfl,by rw[List.mem_singleton.1 hn];rfl⟩) ?_
   rintro r hs bs ⟨rfl,rfl,rfl⟩ _
   refine⟨by simp[qQ],?_⟩
   simp(disch:=omega)only[go_sem]
   obtain⟨z,hz⟩:=zL (out++[cy])
   have hc:=ja hog2
   rw[hov2]at hc
   rw[hc]at hz ⊢
   refine qg [(0,530000000)] [.own 1 (qc (out++[cy]))] [] [.rf 0 0 (lim (vl X+vl Y).toNat).length] rfl (by simp(disch:=omega)only[go_sem]) (by simp(disch:=omega)only[go_sem]) (by simp) (by intro _;simp[zh,AV.pu,AV.pu.puL,Ob.pu,qY]) (.inr ⟨List.replicate z 0,by rw[hcm];rfl,by rw[hcm,←hz]⟩)
end Go.Ab
namespace Go.Ab
open Go Go.Proofs
theorem aaR(cl:Bool)(xs:List Int)(hl:xs.length≤2^39):Con Tryz.prog 272 cl [.sl xs.length (qc xs)] [] (ase xs):=by
 refine Con.of_aw Tryz.func272 rfl Tryz.ntmps272 (by simp) (by simp) (by simp) (W.sound ?_)
 show @W Tryz.prog 8 ⟨_⟩ ⟨fun x σ=>@q7 _ _ _ ⟨_⟩ _ ⟨_⟩ x σ⟩ _ _
 simp(disch:=omega)only[go_sem]
 refine⟨fun h0=>?_,?_⟩
 ·have:xs=[]:=by cases xs with|nil=>rfl|cons a r=>cases h0
  subst this
  refine qg [] [] [] [.v (.slice none 0 0)] rfl (by simp(disch:=omega)only[go_sem]) (by simp(disch:=omega)only[go_sem]) (by simp) (by intro _;simp[zh,AV.pu]) (.inl ⟨rfl,rfl,rfl⟩)
 ·refine⟨by omega,?_⟩
  refine qg [(0,90000000)] [.own 1 (qc xs)] [] [.rf 0 0 xs.length] rfl (by simp(disch:=omega)only[go_sem]) (by simp(disch:=omega)only[go_sem]) (by simp) (by intro _;simp[zh,AV.pu,Ob.pu,qY]) (.inr ⟨[],rfl,by rw[List.append_nil]⟩)
end Go.Ab
namespace Go.Ab
open Go Go.Proofs
theorem aaK(x:Int):Con Tryz.prog 292 true [.v (.int .i64 x)] [] (isA (.v (.bool false))):=by
 refine Con.of_w (rs:=[.tmp 2]) Tryz.func292 rfl Tryz.ntmps292 rfl ?_
 simp(disch:=omega)only[go_sem]
 exact qx
theorem art(x y:Int):Con Tryz.prog 277 true [.v (.int .i64 x),.v (.int .i64 y)] [] (isA (.v (.int .i64 (zM x y)))):=by
 refine Con.of_w (rs:=[.tmp 4]) Tryz.func277 rfl Tryz.ntmps277 rfl ?_
 simp(disch:=omega)only[go_sem]
 refine qn (aaK x) ?_
 simp(disch:=omega)only[go_sem]
 refine qn (aaK y) ?_
 simp(disch:=omega)only[go_sem]
 refine qe (fun h1=>?_) (fun h1=>?_)
 ·simp(disch:=omega)only[go_sem,h1]
  rw[show zM x y= -1 by simp[zM,h1]]
  exact qx
 ·simp(disch:=omega)only[go_sem,h1]
  refine qe (fun h2=>?_) (fun h2=>?_)
  ·simp(disch:=omega)only[go_sem,h2]
   rw[show zM x y=1 by simp[zM,h1,h2]]
   exact qx
  ·simp(disch:=omega)only[go_sem,h2]
   rw[show zM x y=0 by simp[zM,h1,h2]]
   exact qx
theorem zZ(a b:Nat)(la:(lim a).length≤2^40)(lb:(lim b).length≤2^40):
  Con Tryz.prog 248 true [.sl (lim (a)).length (qc (lim (a))),.sl (lim (b)).length (qc (lim (b)))] [] (isA (.v (.int .i64 (zM a b)))):=by
 refine Con.of_w (rs:=[.tmp 4]) Tryz.func248 rfl Tryz.ntmps248 rfl ?_
 simp(disch:=omega)only[go_sem]
 refine zE (fun h1=>?_) (fun h1=>?_)
 ·simp(disch:=omega)only[go_sem,h1]
  refine qn (art (lim a).length (lim b).length) ?_
  simp(disch:=omega)only[go_sem]
  have:zM ((lim a).length:Int) ((lim b).length:Int)=zM a b:=by
   unfold zM
   rcases(by omega:(lim a).length<(lim b).length∨(lim b).length<(lim a).length)with h|h
   ·have:=Qt h
    rw[if_pos (by omega),if_pos (by omega)]
   ·have:=Qt h
    rw[if_neg (by omega),if_pos (by omega),if_neg (by omega),if_pos (by omega)]
  rw[this]
  exact qx
 ·simp(disch:=omega)only[go_sem,h1]
  have hl:(lim a).length=(lim b).length:=by omega
  refine qh (fun k:Nat=>[(0,.sl (lim (a)).length (qc (lim (a)))),(1,.sl (lim (b)).length (qc (lim (b)))),(5,.v (.int .i64 ((k:Int)-1)))])
   (fun _=>[]) (fun k=>k≤(lim a).length∧(lim a).drop k=(lim b).drop k) (fun k=>k) (lim a).length ⟨Nat.le_refl _,by rw[List.drop_length,hl,List.drop_length]⟩ (Le.lst [] _ _ rfl (by simp(disch:=omega)only[go_sem];try omega) (by simp(disch:=omega)only[go_sem])) ?_
  rintro k ⟨hk,hd⟩
  simp(disch:=omega)only[go_sem]
  refine qe (fun h2=>?_) (fun h2=>?_)
  ·obtain⟨i,rfl⟩:∃i,k=i+1:=⟨k-1,by omega⟩
   have ei:((i+1:Nat):Int)-1=(i:Nat):=by omega
   simp(disch:=omega)only[go_sem,h2,ei]
   refine qq rfl [⟨0,[],[]⟩,⟨1,[],[]⟩,⟨2,[],[]⟩,⟨3,[],[]⟩,⟨4,[3],[]⟩,⟨5,[3],[]⟩,⟨6,[3],[]⟩,⟨7,[3],[]⟩,⟨8,[],[]⟩] (by kernel_rfl) ?_
   simp(disch:=omega)only[go_sem,ei]
   refine⟨by omega,by omega,by omega,by omega,?_⟩
   refine zE (fun h3=>?_) (fun h3=>?_)
   ·simp(disch:=omega)only[go_sem,h3]
    refine qq rfl [⟨0,[],[]⟩,⟨1,[],[]⟩,⟨2,[],[]⟩,⟨3,[],[]⟩,⟨4,[3],[]⟩,⟨5,[3],[]⟩,⟨6,[3],[]⟩,⟨7,[3],[]⟩,⟨8,[],[]⟩,⟨9,[],[]⟩] (by kernel_rfl) ?_
    simp(disch:=omega)only[go_sem,ei]
    refine⟨by omega,by omega,by omega,by omega,?_⟩
    refine qn (art ((lim a).getD i 0) ((lim b).getD i 0)) ?_
    simp(disch:=omega)only[go_sem]
    have hva:=q8 a
    have hvb:=q8 b
    have:zM ((lim a).getD i 0) ((lim b).getD i 0)=zM a b:=by
     unfold zM
     rcases(by omega:(lim a).getD i 0<(lim b).getD i 0∨(lim b).getD i 0<(lim a).getD i 0)with h|h
     ·have:=Zm (q9 a) (q9 b) (by omega) hl hd h
      rw[if_pos (by omega),if_pos (by omega)]
     ·have:=Zm (q9 b) (q9 a) (by omega) hl.symm hd.symm h
      rw[if_neg (by omega),if_pos (by omega),if_neg (by omega),if_pos (by omega)]
    rw[this]
    exact qx
   ·simp(disch:=omega)only[go_sem,h3]
    refine qb i [] ⟨by omega,?_⟩ (by show i<i+1;omega) rfl (by simp(disch:=omega)only[go_sem];try omega) (by simp(disch:=omega)only[go_sem])
    rw[yx (l:=lim a) (by omega),yx (l:=lim b) (by omega),h3,hd]
  ·simp(disch:=omega)only[go_sem,h2]
   have:k=0:=by omega
   subst this
   rw[List.drop_zero,List.drop_zero]at hd
   have:=yr hd
   subst this
   rw[show zM (a:Int) (a:Int)=0 by simp[zM]]
   exact qx
end Go.Ab
namespace Go.Proofs
open Go.Shelf
def Tryz.lays29_ren:Go.Shelf.Ren:=⟨fun|29=>287|n=>n,fun|0=>0|3=>3|4=>4|5=>5|22=>254|25=>216|54=>262|n=>n,fun|1=>1|n=>n⟩
theorem Tryz.lays29:Go.Proofs.Lays7.n29 Tryz.prog Tryz.lays29_ren:={
 mixed:=by kernel_rfl
 f29:=Tryz.func287.trans (congrArg some (by kernel_rfl))
 t0:=Tryz.underlying0
 a0:=Tryz.isAgg0
 z0:=Tryz.sizeOf0
 v0:=Tryz.zeroValue0
 i0:=by kernel_rfl
 t3:=Tryz.underlying3
 a3:=Tryz.isAgg3
 z3:=Tryz.sizeOf3
 v3:=Tryz.zeroValue3
 i3:=by kernel_rfl
 t4:=Tryz.underlying4
 a4:=Tryz.isAgg4
 z4:=Tryz.sizeOf4
 v4:=Tryz.zeroValue4
 i4:=by kernel_rfl
 t5:=Tryz.underlying5
 a5:=Tryz.isAgg5
 z5:=Tryz.sizeOf5
 v5:=Tryz.zeroValue5
 i5:=by kernel_rfl
 t22:=Tryz.underlying254
 a22:=Tryz.isAgg254
 z22:=Tryz.sizeOf254
 v22:=Tryz.zeroValue254
 i22:=by kernel_rfl
 t25:=Tryz.underlying216
 a25:=Tryz.isAgg216
 z25:=Tryz.sizeOf216
 v25:=Tryz.zeroValue216
 i25:=by kernel_rfl
 t54:=Tryz.underlying262
 a54:=Tryz.isAgg262
 z54:=Tryz.sizeOf262
 g1:=by kernel_rfl}
def Tryz.lays129_ren:Go.Shelf.Ren:=⟨fun|129=>295|n=>n,fun|53=>254|46=>216|3=>3|4=>4|5=>5|9=>9|n=>n,fun|n=>n⟩
theorem Tryz.lays129:Go.Proofs.Lays.n129 Tryz.prog Tryz.lays129_ren:={
 mixed:=by kernel_rfl
 f129:=Tryz.func295.trans (congrArg some (by kernel_rfl))
 t3:=Tryz.underlying3
 a3:=Tryz.isAgg3
 z3:=Tryz.sizeOf3
 v3:=Tryz.zeroValue3
 t4:=Tryz.underlying4
 a4:=Tryz.isAgg4
 z4:=Tryz.sizeOf4
 v4:=Tryz.zeroValue4
 t5:=Tryz.underlying5
 a5:=Tryz.isAgg5
 z5:=Tryz.sizeOf5
 v5:=Tryz.zeroValue5
 t9:=Tryz.underlying9
 a9:=Tryz.isAgg9
 z9:=Tryz.sizeOf9
 v9:=Tryz.zeroValue9
 t46:=Tryz.underlying216
 a46:=Tryz.isAgg216
 z46:=Tryz.sizeOf216
 v46:=Tryz.zeroValue216
 t53:=Tryz.underlying254
 a53:=Tryz.isAgg254
 z53:=Tryz.sizeOf254
 v53:=Tryz.zeroValue254}
end Go.Proofs
namespace Go.Ab
open Go Go.Proofs
theorem aTM(x:Nat)(h0:x≠0)(h:x<2^64):Lib.ctz 64 x=tz x:=by
 unfold Lib.ctz
 rw[if_neg h0]
 obtain⟨m,hm,_⟩:=Lib.ctzFrom_spec 64 x (by omega) h
 exact(QH hm).symm
theorem arO(x:Nat)(h:x<2^64):Lib.bitLen x=bl x:=by
 induction x using Nat.strongRecOn with
 |_ x ih=>
  by_cases h0:x=0
  ·subst h0;rfl
  ·rw[Lib.bitLen_half x h0 h,ih (x/2) (by omega) (by omega),aUf h0,Nat.add_comm]
theorem aDG(x:Nat)(h0:x≠0)(h:x<2^64):Con Tryz.prog 287 true [.v (.int .u64 x)] [] (isA (.v (.int .i64 (tz x)))):=
 Con.scalar (xs:=[.int .u64 x]) fun w hg=>by
  rw[←aTM x h0 h]
  exact Any7.bits_TrailingZeros64 Tryz.lays29 x h w fun _ j hj=>(hg 1 Lib.deBruijn64tab rfl).2 j hj
theorem aq3(x:Nat)(h:x<2^64):Con Tryz.prog 295 true [.v (.int .u64 x)] [] (isA (.v (.int .i64 (bl x)))):=
 Con.scalar (xs:=[.int .u64 x]) fun w hg=>by
  rw[←arO x h]
  exact Any.bits_Len64 Tryz.lays129 x w (by omega) (by omega)
theorem aTT(x:Nat)(h0:x≠0)(h:x<2^64):Con Tryz.prog 271 true [.v (.int .u64 x)] [] (isA (.v (.int .i64 (tz x)))):=by
 refine Con.of_w (rs:=[.tmp 2]) Tryz.func271 rfl Tryz.ntmps271 rfl ?_
 simp(disch:=omega)only[go_sem]
 refine qn (aDG x h0 h) ?_
 simp(disch:=omega)only[go_sem]
 exact qx
theorem aq4(x:Nat)(h:x<2^64):Con Tryz.prog 283 true [.v (.int .u64 x)] [] (isA (.v (.int .i64 (bl x)))):=by
 refine Con.of_w (rs:=[.tmp 2]) Tryz.func283 rfl Tryz.ntmps283 rfl ?_
 simp(disch:=omega)only[go_sem]
 refine qn (aq3 x h) ?_
 simp(disch:=omega)only[go_sem]
 exact qx
theorem akN{x:Int}(h1:0≤x)(h2:x<9223372036854775808):IntKind.u64.wrap x=x:=by
 simp only[IntKind.wrap,IntKind.signed,IntKind.bits]
 simp only[Bool.false_and,Bool.false_eq_true,if_false]
 omega
theorem akr(m:Nat)(hl:(lim m).length≤2^40):Con Tryz.prog 267 true [.sl (lim (m)).length (qc (lim (m)))] [] (isA (.v (.int .i64 (bl m)))):=by
 refine Con.of_w (rs:=[.tmp 2]) Tryz.func267 rfl Tryz.ntmps267 rfl ?_
 simp(disch:=omega)only[go_sem]
 refine qe (fun h1=>?_) (fun h1=>?_)
 ·simp(disch:=omega)only[go_sem,h1]
  have:m=0:=qI.1 (List.length_eq_zero_iff.1 (by omega))
  subst this
  rw[Jv]
  exact qx
 ·have hm:m≠0:=fun e=>by rw[e,qm]at h1;simp at h1
  have e1:((lim m).length:Int).toNat-1=(lim m).length-1:=by omega
  have e2:(((lim m).length:Int)-1).toNat=(lim m).length-1:=by omega
  have ht:=YM hm
  have hb:=aF0 hm
  simp(disch:=omega)only[go_sem,h1,e2,zV]
  generalize m/65536^((lim m).length-1)=q at*
  have e3:((q % 65536:Nat):Int)=(q:Int):=by omega
  simp(disch:=omega)only[go_sem,e3,akN]
  refine⟨by omega,by omega,?_⟩
  refine qn (aq4 q (by omega)) ?_
  simp(disch:=omega)only[go_sem]
  have hq:bl q≤16:=zG.2 (by omega)
  have e4:(16:Int)*(((lim m).length:Int)-1)+(bl q:Int)=(bl m:Int):=by omega
  simp(disch:=omega)only[go_sem,e4]
  exact qx
theorem aF9{m i:Nat}(hz:∀j,j<i→(lim m).getD j 0=0)(hx:(lim m).getD i 0≠0):tz m=16*i+tz (m/65536^i % 65536):=by
 rw[zV]at hx
 have hx':m/65536^i % 65536≠0:=fun e=>hx (by rw[e];rfl)
 obtain⟨a,ha⟩:=Yq hx'
 have hlow:65536^i*(m/65536^i)=m:=by
  have key:∀k,k≤i→m % 65536^k=0:=by
   intro k
   induction k with
   |zero=>intro _;simp[Nat.mod_one]
   |succ k ih=>
    intro hk
    have h1:=ih (by omega)
    have h2:=hz k (by omega)
    rw[zV]at h2
    have h3:m/65536^k % 65536=0:=by omega
    rw[Nat.pow_succ,Nat.mod_mul,h1,h3];omega
  have:=Nat.div_add_mod m (65536^i)
  rw[key i (Nat.le_refl _)]at this
  omega
 generalize hq:m/65536^i=q at*
 have ht:tz (q % 65536)<16:=by
  have h1:=yC hx'
  have:bl (q % 65536)≤16:=zG.2 (by omega)
  omega
 generalize hk:tz (q % 65536)=k at*
 have e16:(65536:Nat)=2^k*(2*2^(15-k)):=by rw[Nat.mul_left_comm,←Nat.pow_add,show k+(15-k)=15 by omega]
 refine QH (a:=a+2^(15-k)*(q/65536)) ?_
 have hd:=Nat.div_add_mod q 65536
 rw[←hlow,Nat.pow_add,←ZU]
 have h5:q=2^k*(2*(a+2^(15-k)*(q/65536))+1):=by
  have:q=2^k*(2*2^(15-k))*(q/65536)+2^k*(2*a+1):=by rw[←e16,←ha];omega
  generalize q/65536=y at*
  generalize 2^(15-k)=z at*
  grind
 generalize q/65536=y at*
 rw[Nat.mul_assoc,←h5]
theorem aev(m:Nat)(hl:(lim m).length≤2^40):Con Tryz.prog 234 true [.sl (lim (m)).length (qc (lim (m)))] [] (isA (.v (.int .i64 (tz m)))):=by
 refine Con.of_w (rs:=[.tmp 2]) Tryz.func234 rfl Tryz.ntmps234 rfl ?_
 simp(disch:=omega)only[go_sem]
 refine qh (fun i:Nat=>[(0,.sl (lim (m)).length (qc (lim (m)))),(5,.sl (lim (m)).length (qc (lim (m)))),(6,.v (.int .i64 (lim m).length)),(7,.v (.int .i64 i))])
  (fun _=>[]) (fun i=>i≤(lim m).length∧∀j,j<i→(lim m).getD j 0=0) (fun i=>(lim m).length-i) 0 ⟨by omega,fun j hj=>by omega⟩ (Le.lst [] _ _ rfl (by simp(disch:=omega)only[go_sem];try omega) (by simp(disch:=omega)only[go_sem])) ?_
 rintro i ⟨hi,hz⟩
 simp(disch:=omega)only[go_sem]
 refine qe (fun h1=>?_) (fun h1=>?_)
 ·simp(disch:=omega)only[go_sem,h1]
  refine⟨by omega,by omega,zE (fun h2=>?_) (fun h2=>?_)⟩
  ·have ht:=aF9 hz h2
   have hx:m/65536^i % 65536≠0:=fun e=>h2 (by rw[zV,e];rfl)
   have ht16:tz (m/65536^i % 65536)<16:=by
    have h1:=yC hx
    have:bl (m/65536^i % 65536)≤16:=zG.2 (by omega)
    omega
   simp(disch:=omega)only[go_sem,h2,zV]
   generalize hq:m/65536^i % 65536=q at*
   have hq6:q<65536:=by omega
   simp(disch:=omega)only[go_sem,akN]
   refine qn (aTT q hx (by omega)) ?_
   simp(disch:=omega)only[go_sem]
   have e4:(16:Int)*(i:Int)+(tz q:Int)=(tz m:Int):=by omega
   simp(disch:=omega)only[go_sem,e4]
   exact qx
  ·simp(disch:=omega)only[go_sem,h2]
   refine qb (i+1) [] ⟨by omega,fun j hj=>?_⟩ (by show(lim m).length-(i+1)<(lim m).length-i;omega) rfl (by simp(disch:=omega)only[go_sem];try omega) (by simp(disch:=omega)only[go_sem])
   rcases(by omega:j<i∨j=i)with h|h
   ·exact hz j h
   ·subst h;exact h2
 ·simp(disch:=omega)only[go_sem,h1]
  have hm:m=0:=by
   have:=q8 m
   have h3:lim m=List.replicate (lim m).length 0:=by
    apply List.ext_getElem
    ·simp
    ·intro j h1 h2
     have:=hz j (by omega)
     rw[List.getD_eq_getElem?_getD,List.getElem?_eq_getElem h1]at this
     simpa using this
   rw[h3,zP]at this
   omega
  subst hm
  rw[akS]
  exact qx
theorem aaS(m:Nat)(i:Int)(hl:(lim m).length≤2^40)(hi:0≤i)(hi2:i<2^62):Con Tryz.prog 175 true [.sl (lim (m)).length (qc (lim (m))),.v (.int .i64 i)] [] (isA (.v (.int .i64 ((m/2^i.toNat % 2:Nat):Int)))):=by
 refine Con.of_w (rs:=[.tmp 4]) Tryz.func175 rfl Tryz.ntmps175 rfl ?_
 obtain⟨k,rfl⟩:=Int.eq_ofNat_of_zero_le hi
 rw[Int.toNat_natCast]
 have h0:¬((k:Int)<0):=by omega
 have e16:((k:Int)/16).toNat=k/16:=by omega
 have em:min ((k:Int) % 16).toNat 64=k % 16:=by omega
 have hb:=arN m k
 simp(disch:=omega)only[go_sem,h0]
 refine qe (fun h1=>?_) (fun h1=>?_)
 ·simp(disch:=omega)only[go_sem,h1]
  have:m/2^k % 2=0:=by
   rw[←hb]
   have h2:=zV m (k/16)
   rw[List.getD_eq_getElem?_getD,List.getElem?_eq_none (by omega)]at h2
   have h3:m/65536^(k/16) % 65536=0:=by simp only[Option.getD_none]at h2;omega
   rw[h3];simp
  rw[this]
  exact qx
 ·have hx:=qJ (q9 m) (k/16)
  have hp:(0:Int)<2^(k % 16):=Int.pow_pos (by omega)
  have efd:∀x:Int,x.fdiv (2^(k % 16))=x/2^(k % 16):=fun x=>Int.fdiv_eq_ediv_of_nonneg _ (Int.le_of_lt hp)
  have hq:0≤(lim m).getD (k/16) 0/2^(k % 16)∧(lim m).getD (k/16) 0/2^(k % 16)<65536:=by
   refine⟨Int.ediv_nonneg hx.1 (Int.le_of_lt hp),Int.lt_of_le_of_lt (Int.ediv_le_self _ hx.1) hx.2⟩
  have hr:(lim m).getD (k/16) 0/2^(k % 16) % 2=((m/2^k % 2:Nat):Int):=by
   rw[←hb,zV]
   generalize m/65536^(k/16) % 65536=x
   rw[Int.natCast_emod,Int.natCast_ediv,Int.natCast_pow];rfl
  simp(disch:=omega)only[go_sem,h1,e16,em,efd,hr]
  refine⟨by omega,by omega,by omega,?_⟩
  exact qx
end Go.Ab
namespace Go.Ab
open Go Go.Proofs
theorem abd(a k:Nat):(vl (lim a)*2^k).toNat=a*2^k:=by
 rw[q8]
 have:((a:Int)*2^k)=((a*2^k:Nat):Int):=by rw[Int.natCast_mul,Int.natCast_pow];rfl
 rw[this,Int.toNat_natCast]
theorem abe(a k:Nat):(vl (lim a)/2^k).toNat=a/2^k:=by
 rw[q8]
 have:((a:Int)/2^k)=((a/2^k:Nat):Int):=by rw[Int.natCast_ediv,Int.natCast_pow];rfl
 rw[this,Int.toNat_natCast]
theorem aGd(a b:Nat):(vl (lim a)*vl (lim b)).toNat=a*b:=by rw[q8,q8,←Int.natCast_mul,Int.toNat_natCast]
theorem aGe(a b:Nat):(vl (lim a)+vl (lim b)).toNat=a+b:=by rw[q8,q8];omega
theorem aGc(a b:Nat):(vl (lim a)-vl (lim b)).toNat=a-b:=by rw[q8,q8];omega
theorem zA(n:Nat)(hn:n<2^63):Con Tryz.prog 216 false [.v (.int .i64 n)] [] (aKM (lim n)):=(aqT false n hn).num
theorem aqN(cl:Bool)(a k:Nat)(la:(lim a).length≤1000000)(hk:k≤100000000):Con Tryz.prog 244 cl [.sl (lim (a)).length (qc (lim (a))),.v (.int .i64 k)] [] (ase (lim (a*2^k))):=by
 have:=aTS cl (lim a) k (q9 a) la hk
 rwa[abd]at this
theorem zU(a k:Nat)(la:(lim a).length≤1000000)(hk:k≤100000000):Con Tryz.prog 244 false [.sl (lim (a)).length (qc (lim (a))),.v (.int .i64 k)] [] (aKM (lim (a*2^k))):=(aqN false a k la hk).num
theorem aaO(cl:Bool)(a k:Nat)(la:(lim a).length≤1000000)(hk:k≤100000000):Con Tryz.prog 235 cl [.sl (lim (a)).length (qc (lim (a))),.v (.int .i64 k)] [] (ase (lim (a/2^k))):=by
 have:=aDT cl (lim a) k (q9 a) la hk
 rwa[abe]at this
theorem arp(a k:Nat)(la:(lim a).length≤1000000)(hk:k≤100000000):Con Tryz.prog 235 false [.sl (lim (a)).length (qc (lim (a))),.v (.int .i64 k)] [] (aKM (lim (a/2^k))):=(aaO false a k la hk).num
theorem J4(a b:Nat)(la:(lim a).length≤1000000)(lb:(lim b).length≤1000000):Con Tryz.prog 201 false [.sl (lim (a)).length (qc (lim (a))),.sl (lim (b)).length (qc (lim (b)))] [] (aKM (lim (a*b))):=by
 have:=(aqP false (lim a) (lim b) (q9 a) (q9 b) la lb).num
 rwa[aGd]at this
theorem aaD(a b:Nat)(la:(lim a).length≤2000000)(lb:(lim b).length≤2000000):Con Tryz.prog 249 false [.sl (lim (a)).length (qc (lim (a))),.sl (lim (b)).length (qc (lim (b)))] [] (aKM (lim (a+b))):=by
 have:=(aDJ false (lim a) (lim b) (q9 a) (q9 b) la lb).num
 rwa[aGe]at this
theorem arq(a d:Nat)(la:(lim a).length≤1000000)(hd:0<d)(hd2:d<65536):
  Con Tryz.prog 288 false [.sl (lim (a)).length (qc (lim (a))),.v (.int .i64 d)] [] (isA (.tu [.sl (lim (a/d)).length (qc (lim (a/d))),.v (.int .i64 ((a % d:Nat):Int))])):=
 Con.frzA <| (aDU false (lim a) d (q9 a) la hd hd2).mono fun r hs bs ⟨zs,h1,h2⟩=>by
  rw[q8]at h1 h2
  rw[h1,h2]
  have e:((a:Int)/(d:Int)).toNat=a/d:=by
   rw[←Int.natCast_ediv,Int.toNat_natCast]
  rw[e]
  show qF _ 6 _=_
  unfold qF
  simp only[List.map_cons,List.map_nil]
  rw[jV (k:=3) (l:=lim (a/d)) (zs:=zs) q6 rfl]
  rw[Int.natCast_emod];rfl
end Go.Ab
