/- What the proof of this claim stands on: the walks of the functions and the plain laws, part 3. -/
import Derived.Test.YtcobffkepgogiaaGreatDoorFnInversesLib2
import Derived.Test.YtcobffkepgogiaaGreatDoorProg
import Derived.KernelRfl
import Derived.Shelf.Spec.TrailingZeros
import Derived.Shelf.Small.Bits
import Derived.Shelf.Strconv.Itoa0
set_option linter.unusedVariables false
set_option linter.unusedSimpArgs false
namespace Go.Ab
open Go Go.Proofs
def ti1:TI:=⟨Kd.oth,1,8,Value.nilFunc⟩
theorem tf1:qo Tryz.prog 1=some ti1:=by kernel_rfl
def ti2:TI:=⟨Kd.int IntKind.i64,1,8,Value.int IntKind.i64 0⟩
theorem tf2:qo Tryz.prog 2=some ti2:=by kernel_rfl
def ti3:TI:=⟨Kd.int IntKind.i64,1,8,Value.int IntKind.i64 0⟩
theorem tf3:qo Tryz.prog 3=some ti3:=by kernel_rfl
def ti4:TI:=⟨Kd.bool,1,1,Value.bool false⟩
theorem tf4:qo Tryz.prog 4=some ti4:=by kernel_rfl
def ti5:TI:=⟨Kd.int IntKind.u8,1,1,Value.int IntKind.u8 0⟩
theorem tf5:qo Tryz.prog 5=some ti5:=by kernel_rfl
def ti6:TI:=⟨Kd.int IntKind.u8,1,1,Value.int IntKind.u8 0⟩
theorem tf6:qo Tryz.prog 6=some ti6:=by kernel_rfl
def ti7:TI:=⟨Kd.stru [(0,2),(1,3),(2,4),(3,6)],4,24,Value.agg ⟨[Value.int IntKind.i64 0,Value.int IntKind.i64 0,Value.bool false,Value.int IntKind.u8 0]⟩⟩
theorem tf7:qo Tryz.prog 7=some ti7:=by kernel_rfl
def ti8:TI:=⟨Kd.stru [(0,2),(1,3),(2,4),(3,6)],4,24,Value.agg ⟨[Value.int IntKind.i64 0,Value.int IntKind.i64 0,Value.bool false,Value.int IntKind.u8 0]⟩⟩
theorem tf8:qo Tryz.prog 8=some ti8:=by kernel_rfl
def ti9:TI:=⟨Kd.str,1,16,Value.string {data:=⟨[]⟩}⟩
theorem tf9:qo Tryz.prog 9=some ti9:=by kernel_rfl
def aFE:TI:=⟨Kd.str,1,16,Value.string {data:=⟨[]⟩}⟩
theorem beU:qo Tryz.prog 10=some aFE:=by kernel_rfl
def aFD:TI:=⟨Kd.str,1,16,Value.string {data:=⟨[]⟩}⟩
theorem beT:qo Tryz.prog 11=some aFD:=by kernel_rfl
def aFC:TI:=⟨Kd.int IntKind.u64,1,8,Value.int IntKind.u64 0⟩
theorem beS:qo Tryz.prog 12=some aFC:=by kernel_rfl
def aFB:TI:=⟨Kd.int IntKind.i32,1,4,Value.int IntKind.i32 0⟩
theorem beR:qo Tryz.prog 21=some aFB:=by kernel_rfl
def afu:TI:=⟨Kd.sli 5,1,24,Value.slice none 0 0⟩
theorem aFH:qo Tryz.prog 22=some afu:=by kernel_rfl
def aft:TI:=⟨Kd.sli 40,1,24,Value.slice none 0 0⟩
theorem aFG:qo Tryz.prog 23=some aft:=by kernel_rfl
def amY:TI:=⟨Kd.stru [(0,3),(1,23)],2,32,Value.agg ⟨[Value.int IntKind.i64 0,Value.slice none 0 0]⟩⟩
theorem aVb:qo Tryz.prog 24=some amY:=by kernel_rfl
def amO:TI:=⟨Kd.stru [(0,3),(1,23)],2,32,Value.agg ⟨[Value.int IntKind.i64 0,Value.slice none 0 0]⟩⟩
theorem aVa:qo Tryz.prog 25=some amO:=by kernel_rfl
def aFA:TI:=⟨Kd.oth,1,8,Value.nilFunc⟩
theorem beQ:qo Tryz.prog 27=some aFA:=by kernel_rfl
def aFz:TI:=⟨Kd.oth,1,8,Value.nilFunc⟩
theorem beP:qo Tryz.prog 29=some aFz:=by kernel_rfl
def aFy:TI:=⟨Kd.oth,1,8,Value.nilFunc⟩
theorem beO:qo Tryz.prog 30=some aFy:=by kernel_rfl
def aFx:TI:=⟨Kd.oth,1,8,Value.nilFunc⟩
theorem beN:qo Tryz.prog 31=some aFx:=by kernel_rfl
def aFw:TI:=⟨Kd.oth,1,8,Value.nilFunc⟩
theorem beM:qo Tryz.prog 32=some aFw:=by kernel_rfl
def aFv:TI:=⟨Kd.oth,1,8,Value.nilFunc⟩
theorem beL:qo Tryz.prog 33=some aFv:=by kernel_rfl
def JU:TI:=⟨Kd.sli 3,1,24,Value.slice none 0 0⟩
theorem afv:qo Tryz.prog 34=some JU:=by kernel_rfl
def asw:TI:=⟨Kd.stru [(0,34)],1,24,Value.agg ⟨[Value.slice none 0 0]⟩⟩
theorem aXL:qo Tryz.prog 35=some asw:=by kernel_rfl
def abk:TI:=⟨Kd.stru [(0,34)],1,24,Value.agg ⟨[Value.slice none 0 0]⟩⟩
theorem aBF:qo Tryz.prog 36=some abk:=by kernel_rfl
def amj:TI:=⟨Kd.stru [(0,4),(1,36)],2,32,Value.agg ⟨[Value.bool false,Value.slice none 0 0]⟩⟩
theorem aU9:qo Tryz.prog 37=some amj:=by kernel_rfl
def Xx:TI:=⟨Kd.stru [(0,4),(1,36)],2,32,Value.agg ⟨[Value.bool false,Value.slice none 0 0]⟩⟩
theorem asx:qo Tryz.prog 38=some Xx:=by kernel_rfl
def amg:TI:=⟨Kd.stru [(0,38),(2,3)],3,40,Value.agg ⟨[Value.bool false,Value.slice none 0 0,Value.int IntKind.i64 0]⟩⟩
theorem aU8:qo Tryz.prog 39=some amg:=by kernel_rfl
def Zz:TI:=⟨Kd.stru [(0,38),(2,3)],3,40,Value.agg ⟨[Value.bool false,Value.slice none 0 0,Value.int IntKind.i64 0]⟩⟩
theorem K0:qo Tryz.prog 40=some Zz:=by kernel_rfl
def aFu:TI:=⟨Kd.oth,1,8,Value.nilFunc⟩
theorem beK:qo Tryz.prog 41=some aFu:=by kernel_rfl
def aFt:TI:=⟨Kd.oth,1,8,Value.nilFunc⟩
theorem beJ:qo Tryz.prog 42=some aFt:=by kernel_rfl
def aFs:TI:=⟨Kd.oth,1,8,Value.nilFunc⟩
theorem beI:qo Tryz.prog 44=some aFs:=by kernel_rfl
def aFr:TI:=⟨Kd.oth,1,8,Value.nilFunc⟩
theorem beH:qo Tryz.prog 46=some aFr:=by kernel_rfl
def aFq:TI:=⟨Kd.oth,1,8,Value.nilFunc⟩
theorem beG:qo Tryz.prog 47=some aFq:=by kernel_rfl
def aFp:TI:=⟨Kd.oth,1,8,Value.nilFunc⟩
theorem beF:qo Tryz.prog 48=some aFp:=by kernel_rfl
def aFo:TI:=⟨Kd.oth,1,8,Value.nilFunc⟩
theorem beE:qo Tryz.prog 49=some aFo:=by kernel_rfl
def al4:TI:=⟨Kd.stru [(0,40),(3,40)],6,80,Value.agg ⟨[Value.bool false,Value.slice none 0 0,Value.int IntKind.i64 0,Value.bool false,Value.slice none 0 0,Value.int IntKind.i64 0]⟩⟩
theorem aU7:qo Tryz.prog 50=some al4:=by kernel_rfl
def ak5:TI:=⟨Kd.stru [(0,40),(3,40)],6,80,Value.agg ⟨[Value.bool false,Value.slice none 0 0,Value.int IntKind.i64 0,Value.bool false,Value.slice none 0 0,Value.int IntKind.i64 0]⟩⟩
theorem aON:qo Tryz.prog 51=some ak5:=by kernel_rfl
def aFn:TI:=⟨Kd.oth,1,8,Value.nilFunc⟩
theorem beD:qo Tryz.prog 53=some aFn:=by kernel_rfl
def aFm:TI:=⟨Kd.oth,1,8,Value.nilFunc⟩
theorem beC:qo Tryz.prog 55=some aFm:=by kernel_rfl
def aFl:TI:=⟨Kd.oth,1,8,Value.nilFunc⟩
theorem beB:qo Tryz.prog 56=some aFl:=by kernel_rfl
def aFk:TI:=⟨Kd.oth,1,8,Value.nilFunc⟩
theorem beA:qo Tryz.prog 57=some aFk:=by kernel_rfl
def aFj:TI:=⟨Kd.oth,1,8,Value.nilFunc⟩
theorem bez:qo Tryz.prog 58=some aFj:=by kernel_rfl
def aFi:TI:=⟨Kd.oth,1,8,Value.nilFunc⟩
theorem bey:qo Tryz.prog 60=some aFi:=by kernel_rfl
def aFh:TI:=⟨Kd.oth,1,8,Value.nilFunc⟩
theorem bex:qo Tryz.prog 61=some aFh:=by kernel_rfl
def aFg:TI:=⟨Kd.oth,1,8,Value.nilFunc⟩
theorem bew:qo Tryz.prog 62=some aFg:=by kernel_rfl
def aFf:TI:=⟨Kd.oth,1,8,Value.nilFunc⟩
theorem bev:qo Tryz.prog 63=some aFf:=by kernel_rfl
def aFe:TI:=⟨Kd.oth,1,8,Value.nilFunc⟩
theorem beu:qo Tryz.prog 64=some aFe:=by kernel_rfl
def aFd:TI:=⟨Kd.oth,1,8,Value.nilFunc⟩
theorem bet:qo Tryz.prog 65=some aFd:=by kernel_rfl
def aFc:TI:=⟨Kd.oth,1,8,Value.nilFunc⟩
theorem bes:qo Tryz.prog 66=some aFc:=by kernel_rfl
def aFb:TI:=⟨Kd.oth,1,8,Value.nilFunc⟩
theorem ber:qo Tryz.prog 68=some aFb:=by kernel_rfl
def afs:TI:=⟨Kd.sli 51,1,24,Value.slice none 0 0⟩
theorem aFF:qo Tryz.prog 69=some afs:=by kernel_rfl
def aFa:TI:=⟨Kd.oth,1,8,Value.nilFunc⟩
theorem bep:qo Tryz.prog 71=some aFa:=by kernel_rfl
def aE9:TI:=⟨Kd.oth,1,8,Value.nilFunc⟩
theorem beo:qo Tryz.prog 73=some aE9:=by kernel_rfl
def aE8:TI:=⟨Kd.oth,1,8,Value.nilFunc⟩
theorem ben:qo Tryz.prog 74=some aE8:=by kernel_rfl
def aE7:TI:=⟨Kd.oth,1,8,Value.nilFunc⟩
theorem bem:qo Tryz.prog 75=some aE7:=by kernel_rfl
def aE6:TI:=⟨Kd.oth,1,8,Value.nilFunc⟩
theorem bel:qo Tryz.prog 77=some aE6:=by kernel_rfl
def aE5:TI:=⟨Kd.oth,1,8,Value.nilFunc⟩
theorem bek:qo Tryz.prog 79=some aE5:=by kernel_rfl
def aE4:TI:=⟨Kd.oth,1,8,Value.nilFunc⟩
theorem bej:qo Tryz.prog 80=some aE4:=by kernel_rfl
def alB:TI:=⟨Kd.stru [(0,3),(1,69)],2,32,Value.agg ⟨[Value.int IntKind.i64 0,Value.slice none 0 0]⟩⟩
theorem aU6:qo Tryz.prog 81=some alB:=by kernel_rfl
def aly:TI:=⟨Kd.stru [(0,3),(1,69)],2,32,Value.agg ⟨[Value.int IntKind.i64 0,Value.slice none 0 0]⟩⟩
theorem aU5:qo Tryz.prog 82=some aly:=by kernel_rfl
def aE3:TI:=⟨Kd.oth,1,8,Value.nilFunc⟩
theorem bei:qo Tryz.prog 84=some aE3:=by kernel_rfl
def aE2:TI:=⟨Kd.oth,1,8,Value.nilFunc⟩
theorem beh:qo Tryz.prog 86=some aE2:=by kernel_rfl
def aE1:TI:=⟨Kd.oth,1,8,Value.nilFunc⟩
theorem beg:qo Tryz.prog 87=some aE1:=by kernel_rfl
def aE0:TI:=⟨Kd.oth,1,8,Value.nilFunc⟩
theorem bef:qo Tryz.prog 88=some aE0:=by kernel_rfl
def aEZ:TI:=⟨Kd.oth,1,8,Value.nilFunc⟩
theorem bee:qo Tryz.prog 89=some aEZ:=by kernel_rfl
def aEY:TI:=⟨Kd.oth,1,8,Value.nilFunc⟩
theorem bed:qo Tryz.prog 91=some aEY:=by kernel_rfl
def aEX:TI:=⟨Kd.oth,1,8,Value.nilFunc⟩
theorem bec:qo Tryz.prog 92=some aEX:=by kernel_rfl
def aEW:TI:=⟨Kd.oth,1,8,Value.nilFunc⟩
theorem beb:qo Tryz.prog 93=some aEW:=by kernel_rfl
def aEV:TI:=⟨Kd.oth,1,8,Value.nilFunc⟩
theorem bea:qo Tryz.prog 94=some aEV:=by kernel_rfl
def aEU:TI:=⟨Kd.oth,1,8,Value.nilFunc⟩
theorem bd9:qo Tryz.prog 96=some aEU:=by kernel_rfl
def aET:TI:=⟨Kd.oth,1,8,Value.nilFunc⟩
theorem bd8:qo Tryz.prog 97=some aET:=by kernel_rfl
def aES:TI:=⟨Kd.oth,1,8,Value.nilFunc⟩
theorem bd7:qo Tryz.prog 98=some aES:=by kernel_rfl
def aER:TI:=⟨Kd.oth,1,8,Value.nilFunc⟩
theorem bd6:qo Tryz.prog 99=some aER:=by kernel_rfl
def KX:TI:=⟨Kd.oth,1,8,Value.nilFunc⟩
theorem aZ4:qo Tryz.prog 100=some KX:=by kernel_rfl
def KW:TI:=⟨Kd.oth,1,8,Value.nilFunc⟩
theorem aZ3:qo Tryz.prog 101=some KW:=by kernel_rfl
def KU:TI:=⟨Kd.oth,1,8,Value.nilFunc⟩
theorem aZ2:qo Tryz.prog 102=some KU:=by kernel_rfl
def KT:TI:=⟨Kd.oth,1,8,Value.nilFunc⟩
theorem aZ1:qo Tryz.prog 103=some KT:=by kernel_rfl
def KS:TI:=⟨Kd.oth,1,8,Value.nilFunc⟩
theorem aZ0:qo Tryz.prog 105=some KS:=by kernel_rfl
def KR:TI:=⟨Kd.oth,1,8,Value.nilFunc⟩
theorem aZZ:qo Tryz.prog 106=some KR:=by kernel_rfl
def KQ:TI:=⟨Kd.oth,1,8,Value.nilFunc⟩
theorem aZY:qo Tryz.prog 107=some KQ:=by kernel_rfl
def KP:TI:=⟨Kd.oth,1,8,Value.nilFunc⟩
theorem aZX:qo Tryz.prog 108=some KP:=by kernel_rfl
def KO:TI:=⟨Kd.oth,1,8,Value.nilFunc⟩
theorem aZW:qo Tryz.prog 109=some KO:=by kernel_rfl
def KN:TI:=⟨Kd.oth,1,8,Value.nilFunc⟩
theorem aZV:qo Tryz.prog 110=some KN:=by kernel_rfl
def Qb:TI:=⟨Kd.sli 118,1,24,Value.slice none 0 0⟩
theorem YB:qo Tryz.prog 111=some Qb:=by kernel_rfl
def ZR:TI:=⟨Kd.stru [(0,3),(1,111)],2,32,Value.agg ⟨[Value.int IntKind.i64 0,Value.slice none 0 0]⟩⟩
theorem aBK:qo Tryz.prog 112=some ZR:=by kernel_rfl
def ZQ:TI:=⟨Kd.stru [(0,3),(1,111)],2,32,Value.agg ⟨[Value.int IntKind.i64 0,Value.slice none 0 0]⟩⟩
theorem aBJ:qo Tryz.prog 113=some ZQ:=by kernel_rfl
def KM:TI:=⟨Kd.oth,1,8,Value.nilFunc⟩
theorem aZU:qo Tryz.prog 114=some KM:=by kernel_rfl
def KL:TI:=⟨Kd.oth,1,8,Value.nilFunc⟩
theorem aZT:qo Tryz.prog 115=some KL:=by kernel_rfl
def KK:TI:=⟨Kd.oth,1,8,Value.nilFunc⟩
theorem aZS:qo Tryz.prog 116=some KK:=by kernel_rfl
def Zs:TI:=⟨Kd.stru [(0,4),(1,34),(2,3)],3,40,Value.agg ⟨[Value.bool false,Value.slice none 0 0,Value.int IntKind.i64 0]⟩⟩
theorem api:qo Tryz.prog 117=some Zs:=by kernel_rfl
def jh:TI:=⟨Kd.stru [(0,4),(1,34),(2,3)],3,40,Value.agg ⟨[Value.bool false,Value.slice none 0 0,Value.int IntKind.i64 0]⟩⟩
theorem yo:qo Tryz.prog 118=some jh:=by kernel_rfl
def KJ:TI:=⟨Kd.oth,1,8,Value.nilFunc⟩
theorem aZR:qo Tryz.prog 119=some KJ:=by kernel_rfl
def KI:TI:=⟨Kd.oth,1,8,Value.nilFunc⟩
theorem aZQ:qo Tryz.prog 120=some KI:=by kernel_rfl
def KH:TI:=⟨Kd.oth,1,8,Value.nilFunc⟩
theorem aZP:qo Tryz.prog 121=some KH:=by kernel_rfl
def KG:TI:=⟨Kd.oth,1,8,Value.nilFunc⟩
theorem aZO:qo Tryz.prog 122=some KG:=by kernel_rfl
def KF:TI:=⟨Kd.oth,1,8,Value.nilFunc⟩
theorem aZN:qo Tryz.prog 123=some KF:=by kernel_rfl
def KE:TI:=⟨Kd.oth,1,8,Value.nilFunc⟩
theorem aZM:qo Tryz.prog 124=some KE:=by kernel_rfl
def KD:TI:=⟨Kd.oth,1,8,Value.nilFunc⟩
theorem aZL:qo Tryz.prog 125=some KD:=by kernel_rfl
def KC:TI:=⟨Kd.oth,1,8,Value.nilFunc⟩
theorem aZK:qo Tryz.prog 126=some KC:=by kernel_rfl
def KB:TI:=⟨Kd.oth,1,8,Value.nilFunc⟩
theorem aZJ:qo Tryz.prog 127=some KB:=by kernel_rfl
def KA:TI:=⟨Kd.oth,1,8,Value.nilFunc⟩
theorem aZI:qo Tryz.prog 128=some KA:=by kernel_rfl
def Kw:TI:=⟨Kd.oth,1,8,Value.nilFunc⟩
theorem aZH:qo Tryz.prog 129=some Kw:=by kernel_rfl
def Kv:TI:=⟨Kd.oth,1,8,Value.nilFunc⟩
theorem aZG:qo Tryz.prog 130=some Kv:=by kernel_rfl
def Ku:TI:=⟨Kd.oth,1,8,Value.nilFunc⟩
theorem aZF:qo Tryz.prog 131=some Ku:=by kernel_rfl
def ZP:TI:=⟨Kd.stru [(0,118),(3,118)],6,80,Value.agg ⟨[Value.bool false,Value.slice none 0 0,Value.int IntKind.i64 0,Value.bool false,Value.slice none 0 0,Value.int IntKind.i64 0]⟩⟩
theorem aBI:qo Tryz.prog 132=some ZP:=by kernel_rfl
def Zr:TI:=⟨Kd.stru [(0,118),(3,118)],6,80,Value.agg ⟨[Value.bool false,Value.slice none 0 0,Value.int IntKind.i64 0,Value.bool false,Value.slice none 0 0,Value.int IntKind.i64 0]⟩⟩
theorem aph:qo Tryz.prog 133=some Zr:=by kernel_rfl
def Kt:TI:=⟨Kd.oth,1,8,Value.nilFunc⟩
theorem aZE:qo Tryz.prog 134=some Kt:=by kernel_rfl
def Ks:TI:=⟨Kd.oth,1,8,Value.nilFunc⟩
theorem aZD:qo Tryz.prog 135=some Ks:=by kernel_rfl
def Kr:TI:=⟨Kd.oth,1,8,Value.nilFunc⟩
theorem aZC:qo Tryz.prog 136=some Kr:=by kernel_rfl
def Kq:TI:=⟨Kd.oth,1,8,Value.nilFunc⟩
theorem aZB:qo Tryz.prog 137=some Kq:=by kernel_rfl
def Kp:TI:=⟨Kd.oth,1,8,Value.nilFunc⟩
theorem aZA:qo Tryz.prog 138=some Kp:=by kernel_rfl
def Ko:TI:=⟨Kd.oth,1,8,Value.nilFunc⟩
theorem aZz:qo Tryz.prog 139=some Ko:=by kernel_rfl
def Kn:TI:=⟨Kd.oth,1,8,Value.nilFunc⟩
theorem aZy:qo Tryz.prog 140=some Kn:=by kernel_rfl
def Km:TI:=⟨Kd.oth,1,8,Value.nilFunc⟩
theorem aZx:qo Tryz.prog 142=some Km:=by kernel_rfl
def Kl:TI:=⟨Kd.oth,1,8,Value.nilFunc⟩
theorem aZw:qo Tryz.prog 143=some Kl:=by kernel_rfl
def Kk:TI:=⟨Kd.oth,1,8,Value.nilFunc⟩
theorem aZv:qo Tryz.prog 144=some Kk:=by kernel_rfl
def Kj:TI:=⟨Kd.oth,1,8,Value.nilFunc⟩
theorem aZu:qo Tryz.prog 145=some Kj:=by kernel_rfl
def Ki:TI:=⟨Kd.oth,1,8,Value.nilFunc⟩
theorem aZt:qo Tryz.prog 146=some Ki:=by kernel_rfl
def Kh:TI:=⟨Kd.oth,1,8,Value.nilFunc⟩
theorem aZs:qo Tryz.prog 147=some Kh:=by kernel_rfl
def Kg:TI:=⟨Kd.oth,1,8,Value.nilFunc⟩
theorem aZr:qo Tryz.prog 148=some Kg:=by kernel_rfl
def Kf:TI:=⟨Kd.oth,1,8,Value.nilFunc⟩
theorem aZq:qo Tryz.prog 149=some Kf:=by kernel_rfl
def Ke:TI:=⟨Kd.oth,1,8,Value.nilFunc⟩
theorem aZp:qo Tryz.prog 151=some Ke:=by kernel_rfl
def Kc:TI:=⟨Kd.oth,1,8,Value.nilFunc⟩
theorem aZo:qo Tryz.prog 152=some Kc:=by kernel_rfl
def Qm:TI:=⟨Kd.sli 133,1,24,Value.slice none 0 0⟩
theorem K1:qo Tryz.prog 153=some Qm:=by kernel_rfl
def ZO:TI:=⟨Kd.stru [(0,3),(1,153)],2,32,Value.agg ⟨[Value.int IntKind.i64 0,Value.slice none 0 0]⟩⟩
theorem aBH:qo Tryz.prog 154=some ZO:=by kernel_rfl
def ZN:TI:=⟨Kd.stru [(0,3),(1,153)],2,32,Value.agg ⟨[Value.int IntKind.i64 0,Value.slice none 0 0]⟩⟩
theorem aBG:qo Tryz.prog 155=some ZN:=by kernel_rfl
def Kb:TI:=⟨Kd.oth,1,8,Value.nilFunc⟩
theorem aZn:qo Tryz.prog 156=some Kb:=by kernel_rfl
def Ka:TI:=⟨Kd.oth,1,8,Value.nilFunc⟩
theorem aZm:qo Tryz.prog 157=some Ka:=by kernel_rfl
def V9:TI:=⟨Kd.oth,1,8,Value.nilFunc⟩
theorem aZl:qo Tryz.prog 158=some V9:=by kernel_rfl
def V8:TI:=⟨Kd.oth,1,8,Value.nilFunc⟩
theorem aZk:qo Tryz.prog 159=some V8:=by kernel_rfl
def V7:TI:=⟨Kd.oth,1,8,Value.nilFunc⟩
theorem aZj:qo Tryz.prog 160=some V7:=by kernel_rfl
def V6:TI:=⟨Kd.oth,1,8,Value.nilFunc⟩
theorem aZi:qo Tryz.prog 161=some V6:=by kernel_rfl
def V5:TI:=⟨Kd.oth,1,8,Value.nilFunc⟩
theorem aZh:qo Tryz.prog 163=some V5:=by kernel_rfl
def V4:TI:=⟨Kd.oth,1,8,Value.nilFunc⟩
theorem aZg:qo Tryz.prog 164=some V4:=by kernel_rfl
def V3:TI:=⟨Kd.oth,1,8,Value.nilFunc⟩
theorem aZf:qo Tryz.prog 165=some V3:=by kernel_rfl
def V2:TI:=⟨Kd.oth,1,8,Value.nilFunc⟩
theorem aZe:qo Tryz.prog 166=some V2:=by kernel_rfl
def V1:TI:=⟨Kd.oth,1,8,Value.nilFunc⟩
theorem aZd:qo Tryz.prog 167=some V1:=by kernel_rfl
def V0:TI:=⟨Kd.oth,1,8,Value.nilFunc⟩
theorem aZc:qo Tryz.prog 168=some V0:=by kernel_rfl
def VZ:TI:=⟨Kd.oth,1,8,Value.nilFunc⟩
theorem aZb:qo Tryz.prog 169=some VZ:=by kernel_rfl
def VY:TI:=⟨Kd.oth,1,8,Value.nilFunc⟩
theorem aZa:qo Tryz.prog 170=some VY:=by kernel_rfl
def VX:TI:=⟨Kd.oth,1,8,Value.nilFunc⟩
theorem aY9:qo Tryz.prog 171=some VX:=by kernel_rfl
def VW:TI:=⟨Kd.oth,1,8,Value.nilFunc⟩
theorem aY8:qo Tryz.prog 173=some VW:=by kernel_rfl
def Zq:TI:=⟨Kd.stru [(0,22),(1,3),(2,3)],3,40,Value.agg ⟨[Value.slice none 0 0,Value.int IntKind.i64 0,Value.int IntKind.i64 0]⟩⟩
theorem apg:qo Tryz.prog 174=some Zq:=by kernel_rfl
def Zp:TI:=⟨Kd.stru [(0,22),(1,3),(2,3)],3,40,Value.agg ⟨[Value.slice none 0 0,Value.int IntKind.i64 0,Value.int IntKind.i64 0]⟩⟩
theorem apf:qo Tryz.prog 175=some Zp:=by kernel_rfl
def VV:TI:=⟨Kd.oth,1,8,Value.nilFunc⟩
theorem aY7:qo Tryz.prog 176=some VV:=by kernel_rfl
def VU:TI:=⟨Kd.oth,1,8,Value.nilFunc⟩
theorem aY6:qo Tryz.prog 177=some VU:=by kernel_rfl
def VT:TI:=⟨Kd.oth,1,8,Value.nilFunc⟩
theorem aY5:qo Tryz.prog 178=some VT:=by kernel_rfl
def VS:TI:=⟨Kd.oth,1,8,Value.nilFunc⟩
theorem aY4:qo Tryz.prog 179=some VS:=by kernel_rfl
def VR:TI:=⟨Kd.oth,1,8,Value.nilFunc⟩
theorem aY3:qo Tryz.prog 180=some VR:=by kernel_rfl
def VQ:TI:=⟨Kd.oth,1,8,Value.nilFunc⟩
theorem aY2:qo Tryz.prog 182=some VQ:=by kernel_rfl
def VP:TI:=⟨Kd.oth,1,8,Value.nilFunc⟩
theorem aY1:qo Tryz.prog 183=some VP:=by kernel_rfl
def VO:TI:=⟨Kd.oth,1,8,Value.nilFunc⟩
theorem aY0:qo Tryz.prog 184=some VO:=by kernel_rfl
def VN:TI:=⟨Kd.oth,1,8,Value.nilFunc⟩
theorem aYZ:qo Tryz.prog 185=some VN:=by kernel_rfl
def VM:TI:=⟨Kd.oth,1,8,Value.nilFunc⟩
theorem aYY:qo Tryz.prog 186=some VM:=by kernel_rfl
def VL:TI:=⟨Kd.oth,1,8,Value.nilFunc⟩
theorem aYX:qo Tryz.prog 187=some VL:=by kernel_rfl
def VK:TI:=⟨Kd.oth,1,8,Value.nilFunc⟩
theorem aYW:qo Tryz.prog 188=some VK:=by kernel_rfl
def VJ:TI:=⟨Kd.oth,1,8,Value.nilFunc⟩
theorem aYV:qo Tryz.prog 189=some VJ:=by kernel_rfl
def VI:TI:=⟨Kd.oth,1,8,Value.nilFunc⟩
theorem aYU:qo Tryz.prog 190=some VI:=by kernel_rfl
def VH:TI:=⟨Kd.oth,1,8,Value.nilFunc⟩
theorem aYT:qo Tryz.prog 191=some VH:=by kernel_rfl
def VG:TI:=⟨Kd.oth,1,8,Value.nilFunc⟩
theorem aYS:qo Tryz.prog 192=some VG:=by kernel_rfl
def VF:TI:=⟨Kd.oth,1,8,Value.nilFunc⟩
theorem aYR:qo Tryz.prog 194=some VF:=by kernel_rfl
def VE:TI:=⟨Kd.sli 111,1,24,Value.slice none 0 0⟩
theorem aOO:qo Tryz.prog 195=some VE:=by kernel_rfl
def VD:TI:=⟨Kd.oth,1,8,Value.nilFunc⟩
theorem aYQ:qo Tryz.prog 196=some VD:=by kernel_rfl
def VC:TI:=⟨Kd.oth,1,8,Value.nilFunc⟩
theorem aYP:qo Tryz.prog 197=some VC:=by kernel_rfl
def VB:TI:=⟨Kd.oth,1,8,Value.nilFunc⟩
theorem aYO:qo Tryz.prog 198=some VB:=by kernel_rfl
def VA:TI:=⟨Kd.oth,1,8,Value.nilFunc⟩
theorem aYN:qo Tryz.prog 199=some VA:=by kernel_rfl
def Vz:TI:=⟨Kd.oth,1,8,Value.nilFunc⟩
theorem aYM:qo Tryz.prog 201=some Vz:=by kernel_rfl
def Vy:TI:=⟨Kd.oth,1,8,Value.nilFunc⟩
theorem aYL:qo Tryz.prog 203=some Vy:=by kernel_rfl
def Vx:TI:=⟨Kd.oth,1,8,Value.nilFunc⟩
theorem aYK:qo Tryz.prog 204=some Vx:=by kernel_rfl
def Vw:TI:=⟨Kd.oth,1,8,Value.nilFunc⟩
theorem aYJ:qo Tryz.prog 205=some Vw:=by kernel_rfl
def Vv:TI:=⟨Kd.oth,1,8,Value.nilFunc⟩
theorem aYI:qo Tryz.prog 207=some Vv:=by kernel_rfl
def Vu:TI:=⟨Kd.oth,1,8,Value.nilFunc⟩
theorem aYH:qo Tryz.prog 208=some Vu:=by kernel_rfl
def Vt:TI:=⟨Kd.oth,1,8,Value.nilFunc⟩
theorem aYG:qo Tryz.prog 209=some Vt:=by kernel_rfl
def Vs:TI:=⟨Kd.oth,1,8,Value.nilFunc⟩
theorem aYF:qo Tryz.prog 210=some Vs:=by kernel_rfl
def Vr:TI:=⟨Kd.oth,1,8,Value.nilFunc⟩
theorem aYE:qo Tryz.prog 211=some Vr:=by kernel_rfl
def Vq:TI:=⟨Kd.oth,1,8,Value.nilFunc⟩
theorem aYD:qo Tryz.prog 212=some Vq:=by kernel_rfl
def Vp:TI:=⟨Kd.oth,1,8,Value.nilFunc⟩
theorem aYC:qo Tryz.prog 213=some Vp:=by kernel_rfl
def Vo:TI:=⟨Kd.oth,1,8,Value.nilFunc⟩
theorem aYB:qo Tryz.prog 214=some Vo:=by kernel_rfl
def Vn:TI:=⟨Kd.oth,1,8,Value.nilFunc⟩
theorem aYA:qo Tryz.prog 215=some Vn:=by kernel_rfl
def Vm:TI:=⟨Kd.int IntKind.u64,1,8,Value.int IntKind.u64 0⟩
theorem aYz:qo Tryz.prog 216=some Vm:=by kernel_rfl
def Vl:TI:=⟨Kd.oth,1,8,Value.nilFunc⟩
theorem aYy:qo Tryz.prog 217=some Vl:=by kernel_rfl
def Vk:TI:=⟨Kd.oth,1,8,Value.nilFunc⟩
theorem aYx:qo Tryz.prog 218=some Vk:=by kernel_rfl
def Vj:TI:=⟨Kd.oth,1,8,Value.nilFunc⟩
theorem aYw:qo Tryz.prog 219=some Vj:=by kernel_rfl
def Vi:TI:=⟨Kd.oth,1,8,Value.nilFunc⟩
theorem aYv:qo Tryz.prog 220=some Vi:=by kernel_rfl
def Vh:TI:=⟨Kd.oth,1,8,Value.nilFunc⟩
theorem aYu:qo Tryz.prog 221=some Vh:=by kernel_rfl
def Vg:TI:=⟨Kd.oth,1,8,Value.nilFunc⟩
theorem aYt:qo Tryz.prog 222=some Vg:=by kernel_rfl
def Vf:TI:=⟨Kd.oth,1,8,Value.nilFunc⟩
theorem aYs:qo Tryz.prog 224=some Vf:=by kernel_rfl
def Ve:TI:=⟨Kd.oth,1,8,Value.nilFunc⟩
theorem aYr:qo Tryz.prog 225=some Ve:=by kernel_rfl
def Vd:TI:=⟨Kd.oth,1,8,Value.nilFunc⟩
theorem aYq:qo Tryz.prog 226=some Vd:=by kernel_rfl
def Vc:TI:=⟨Kd.oth,1,8,Value.nilFunc⟩
theorem aYp:qo Tryz.prog 227=some Vc:=by kernel_rfl
def Vb:TI:=⟨Kd.oth,1,8,Value.nilFunc⟩
theorem aYo:qo Tryz.prog 228=some Vb:=by kernel_rfl
def Va:TI:=⟨Kd.oth,1,8,Value.nilFunc⟩
theorem aYn:qo Tryz.prog 229=some Va:=by kernel_rfl
def X9:TI:=⟨Kd.oth,1,8,Value.nilFunc⟩
theorem aYm:qo Tryz.prog 230=some X9:=by kernel_rfl
def X8:TI:=⟨Kd.oth,1,8,Value.nilFunc⟩
theorem aYl:qo Tryz.prog 231=some X8:=by kernel_rfl
def X7:TI:=⟨Kd.oth,1,8,Value.nilFunc⟩
theorem aYk:qo Tryz.prog 232=some X7:=by kernel_rfl
def X6:TI:=⟨Kd.oth,1,8,Value.nilFunc⟩
theorem aYj:qo Tryz.prog 233=some X6:=by kernel_rfl
def X5:TI:=⟨Kd.oth,1,8,Value.nilFunc⟩
theorem aYi:qo Tryz.prog 234=some X5:=by kernel_rfl
def X4:TI:=⟨Kd.oth,1,8,Value.nilFunc⟩
theorem aYh:qo Tryz.prog 235=some X4:=by kernel_rfl
def X3:TI:=⟨Kd.oth,1,8,Value.nilFunc⟩
theorem aYg:qo Tryz.prog 236=some X3:=by kernel_rfl
def X2:TI:=⟨Kd.oth,1,8,Value.nilFunc⟩
theorem aYf:qo Tryz.prog 237=some X2:=by kernel_rfl
def X1:TI:=⟨Kd.oth,1,8,Value.nilFunc⟩
theorem aYe:qo Tryz.prog 238=some X1:=by kernel_rfl
def X0:TI:=⟨Kd.oth,1,8,Value.nilFunc⟩
theorem aYd:qo Tryz.prog 239=some X0:=by kernel_rfl
def XZ:TI:=⟨Kd.oth,1,8,Value.nilFunc⟩
theorem aYc:qo Tryz.prog 240=some XZ:=by kernel_rfl
def XY:TI:=⟨Kd.oth,1,8,Value.nilFunc⟩
theorem aYb:qo Tryz.prog 241=some XY:=by kernel_rfl
def XX:TI:=⟨Kd.oth,1,8,Value.nilFunc⟩
theorem aYa:qo Tryz.prog 242=some XX:=by kernel_rfl
def XW:TI:=⟨Kd.oth,1,8,Value.nilFunc⟩
theorem aX9:qo Tryz.prog 243=some XW:=by kernel_rfl
def XV:TI:=⟨Kd.oth,1,8,Value.nilFunc⟩
theorem aX8:qo Tryz.prog 245=some XV:=by kernel_rfl
def XU:TI:=⟨Kd.oth,1,8,Value.nilFunc⟩
theorem aX7:qo Tryz.prog 246=some XU:=by kernel_rfl
def XT:TI:=⟨Kd.oth,1,8,Value.nilFunc⟩
theorem aX6:qo Tryz.prog 247=some XT:=by kernel_rfl
def XS:TI:=⟨Kd.oth,1,8,Value.nilFunc⟩
theorem aX5:qo Tryz.prog 249=some XS:=by kernel_rfl
def XR:TI:=⟨Kd.oth,1,8,Value.nilFunc⟩
theorem aX4:qo Tryz.prog 250=some XR:=by kernel_rfl
def XQ:TI:=⟨Kd.oth,1,8,Value.nilFunc⟩
theorem aX3:qo Tryz.prog 251=some XQ:=by kernel_rfl
def XP:TI:=⟨Kd.int IntKind.u32,1,4,Value.int IntKind.u32 0⟩
theorem aX2:qo Tryz.prog 252=some XP:=by kernel_rfl
def XO:TI:=⟨Kd.oth,1,8,Value.nilFunc⟩
theorem aX1:qo Tryz.prog 253=some XO:=by kernel_rfl
def XN:TI:=⟨Kd.int IntKind.u64,1,8,Value.int IntKind.u64 0⟩
theorem aX0:qo Tryz.prog 254=some XN:=by kernel_rfl
def XM:TI:=⟨Kd.oth,1,8,Value.nilFunc⟩
theorem aXZ:qo Tryz.prog 256=some XM:=by kernel_rfl
def XL:TI:=⟨Kd.oth,1,8,Value.nilFunc⟩
theorem aXY:qo Tryz.prog 257=some XL:=by kernel_rfl
def XK:TI:=⟨Kd.oth,1,8,Value.nilFunc⟩
theorem aXX:qo Tryz.prog 258=some XK:=by kernel_rfl
def XJ:TI:=⟨Kd.oth,1,8,Value.nilFunc⟩
theorem aXW:qo Tryz.prog 259=some XJ:=by kernel_rfl
def XI:TI:=⟨Kd.oth,1,8,Value.nilFunc⟩
theorem aXV:qo Tryz.prog 260=some XI:=by kernel_rfl
def XH:TI:=⟨Kd.oth,1,8,Value.nilFunc⟩
theorem aXU:qo Tryz.prog 263=some XH:=by kernel_rfl
def XG:TI:=⟨Kd.stru [(0,266)],0,0,Value.agg ⟨[]⟩⟩
theorem aXT:qo Tryz.prog 267=some XG:=by kernel_rfl
def XF:TI:=⟨Kd.stru [(0,266)],0,0,Value.agg ⟨[]⟩⟩
theorem aXS:qo Tryz.prog 268=some XF:=by kernel_rfl
def XE:TI:=⟨Kd.int IntKind.u8,1,1,Value.int IntKind.u8 0⟩
theorem aXR:qo Tryz.prog 269=some XE:=by kernel_rfl
def XD:TI:=⟨Kd.int IntKind.u8,1,1,Value.int IntKind.u8 0⟩
theorem aXQ:qo Tryz.prog 270=some XD:=by kernel_rfl
def XB:TI:=⟨Kd.oth,1,8,Value.nilFunc⟩
theorem aXP:qo Tryz.prog 271=some XB:=by kernel_rfl
def XA:TI:=⟨Kd.int IntKind.i32,1,4,Value.int IntKind.i32 0⟩
theorem aXO:qo Tryz.prog 273=some XA:=by kernel_rfl
def Xz:TI:=⟨Kd.int IntKind.i32,1,4,Value.int IntKind.i32 0⟩
theorem aXN:qo Tryz.prog 274=some Xz:=by kernel_rfl
def Xy:TI:=⟨Kd.oth,1,8,Value.nilFunc⟩
theorem aXM:qo Tryz.prog 277=some Xy:=by kernel_rfl
theorem ty1{K:TI→Prop}:@tyW Tryz.prog 1 ⟨K⟩=K ti1:=qi tf1
theorem aOM:ti1.kd=Kd.oth:=ID rfl
theorem aJL:ti1.kd.agg=false:=ID rfl
theorem aw3:ti1.size=1:=ID rfl
theorem anE:ti1.bytes=8:=ID rfl
theorem aOK:qw ti1=True:=eq_true rfl
theorem aOL:zc ti1=[.v Value.nilFunc]:=ID rfl
theorem ty2{K:TI→Prop}:@tyW Tryz.prog 2 ⟨K⟩=K ti2:=qi tf2
theorem aOJ:ti2.kd=Kd.int IntKind.i64:=ID rfl
theorem aJp:ti2.kd.agg=false:=ID rfl
theorem atQ:ti2.size=1:=ID rfl
theorem amr:ti2.bytes=8:=ID rfl
theorem aOH:qw ti2=True:=eq_true rfl
theorem aOI:zc ti2=[.v (Value.int IntKind.i64 0)]:=ID rfl
theorem ty3{K:TI→Prop}:@tyW Tryz.prog 3 ⟨K⟩=K ti3:=qi tf3
theorem aOG:ti3.kd=Kd.int IntKind.i64:=ID rfl
theorem aIU:ti3.kd.agg=false:=ID rfl
theorem atF:ti3.size=1:=ID rfl
theorem ame:ti3.bytes=8:=ID rfl
theorem aOE:qw ti3=True:=eq_true rfl
theorem aOF:zc ti3=[.v (Value.int IntKind.i64 0)]:=ID rfl
theorem ty4{K:TI→Prop}:@tyW Tryz.prog 4 ⟨K⟩=K ti4:=qi tf4
theorem aOD:ti4.kd=Kd.bool:=ID rfl
theorem aIv:ti4.kd.agg=false:=ID rfl
theorem atw:ti4.size=1:=ID rfl
theorem al5:ti4.bytes=1:=ID rfl
theorem aOB:qw ti4=True:=eq_true rfl
theorem aOC:zc ti4=[.v (Value.bool false)]:=ID rfl
theorem ty5{K:TI→Prop}:@tyW Tryz.prog 5 ⟨K⟩=K ti5:=qi tf5
theorem aOA:ti5.kd=Kd.int IntKind.u8:=ID rfl
theorem aH9:ti5.kd.agg=false:=ID rfl
theorem ato:ti5.size=1:=ID rfl
theorem alW:ti5.bytes=1:=ID rfl
theorem aOy:qw ti5=True:=eq_true rfl
theorem aOz:zc ti5=[.v (Value.int IntKind.u8 0)]:=ID rfl
theorem ty6{K:TI→Prop}:@tyW Tryz.prog 6 ⟨K⟩=K ti6:=qi tf6
theorem aOx:ti6.kd=Kd.int IntKind.u8:=ID rfl
theorem aHH:ti6.kd.agg=false:=ID rfl
theorem ate:ti6.size=1:=ID rfl
theorem alM:ti6.bytes=1:=ID rfl
theorem aOv:qw ti6=True:=eq_true rfl
theorem aOw:zc ti6=[.v (Value.int IntKind.u8 0)]:=ID rfl
theorem ty7{K:TI→Prop}:@tyW Tryz.prog 7 ⟨K⟩=K ti7:=qi tf7
theorem aOu:ti7.kd=Kd.stru [(0,2),(1,3),(2,4),(3,6)]:=ID rfl
theorem aHo:ti7.kd.agg=true:=ID rfl
theorem as7:ti7.size=4:=ID rfl
theorem alD:ti7.bytes=24:=ID rfl
theorem aOs:qw ti7=True:=eq_true rfl
theorem aOt:zc ti7=[.v (Value.int IntKind.i64 0),.v (Value.int IntKind.i64 0),.v (Value.bool false),.v (Value.int IntKind.u8 0)]:=ID rfl
theorem aTU{K:Nat→TI→Prop}:@qA Tryz.prog 7 0 ⟨K⟩=K 0 ti2:=qs (ti:=ti7) (tf:=ti2) (fo:=(0,2)) (fs:=[(0,2),(1,3),(2,4),(3,6)]) tf7 rfl rfl tf2
theorem bau{K:Nat→Nat→Prop}:qt Tryz.prog [(0,2),(1,3),(2,4),(3,6)] 0 K=K 0 1:=qr (tf:=ti2) (fo:=(0,2)) (fs:=[(0,2),(1,3),(2,4),(3,6)]) rfl tf2
theorem aTT{K:Nat→TI→Prop}:@qA Tryz.prog 7 1 ⟨K⟩=K 1 ti3:=qs (ti:=ti7) (tf:=ti3) (fo:=(1,3)) (fs:=[(0,2),(1,3),(2,4),(3,6)]) tf7 rfl rfl tf3
theorem bat{K:Nat→Nat→Prop}:qt Tryz.prog [(0,2),(1,3),(2,4),(3,6)] 1 K=K 1 1:=qr (tf:=ti3) (fo:=(1,3)) (fs:=[(0,2),(1,3),(2,4),(3,6)]) rfl tf3
theorem aTS{K:Nat→TI→Prop}:@qA Tryz.prog 7 2 ⟨K⟩=K 2 ti4:=qs (ti:=ti7) (tf:=ti4) (fo:=(2,4)) (fs:=[(0,2),(1,3),(2,4),(3,6)]) tf7 rfl rfl tf4
theorem bas{K:Nat→Nat→Prop}:qt Tryz.prog [(0,2),(1,3),(2,4),(3,6)] 2 K=K 2 1:=qr (tf:=ti4) (fo:=(2,4)) (fs:=[(0,2),(1,3),(2,4),(3,6)]) rfl tf4
theorem aTR{K:Nat→TI→Prop}:@qA Tryz.prog 7 3 ⟨K⟩=K 3 ti6:=qs (ti:=ti7) (tf:=ti6) (fo:=(3,6)) (fs:=[(0,2),(1,3),(2,4),(3,6)]) tf7 rfl rfl tf6
theorem bar{K:Nat→Nat→Prop}:qt Tryz.prog [(0,2),(1,3),(2,4),(3,6)] 3 K=K 3 1:=qr (tf:=ti6) (fo:=(3,6)) (fs:=[(0,2),(1,3),(2,4),(3,6)]) rfl tf6
theorem baN:∀f∈([(0,2),(1,3),(2,4),(3,6)]:List (Nat×Nat)),(qo Tryz.prog f.2).isSome=true:=by
 intro f hf
 simp only[List.mem_cons,List.not_mem_nil,or_false]at hf
 rcases hf with rfl|rfl|rfl|rfl
 ·rw[tf2];rfl
 ·rw[tf3];rfl
 ·rw[tf4];rfl
 ·rw[tf6];rfl
theorem bfB{ps:List (Nat×AV)}{K:AV→Prop}:@zn Tryz.prog 7 ps ⟨K⟩=@zk (qt Tryz.prog [(0,2),(1,3),(2,4),(3,6)]) (zc ti7) ps ⟨fun cs=>K (.ag cs)⟩:=qN tf7 rfl baN
theorem ty8{K:TI→Prop}:@tyW Tryz.prog 8 ⟨K⟩=K ti8:=qi tf8
theorem aOr:ti8.kd=Kd.stru [(0,2),(1,3),(2,4),(3,6)]:=ID rfl
theorem aGZ:ti8.kd.agg=true:=ID rfl
theorem asY:ti8.size=4:=ID rfl
theorem alr:ti8.bytes=24:=ID rfl
theorem aOp:qw ti8=True:=eq_true rfl
theorem aOq:zc ti8=[.v (Value.int IntKind.i64 0),.v (Value.int IntKind.i64 0),.v (Value.bool false),.v (Value.int IntKind.u8 0)]:=ID rfl
theorem aTQ{K:Nat→TI→Prop}:@qA Tryz.prog 8 0 ⟨K⟩=K 0 ti2:=qs (ti:=ti8) (tf:=ti2) (fo:=(0,2)) (fs:=[(0,2),(1,3),(2,4),(3,6)]) tf8 rfl rfl tf2
theorem baq{K:Nat→Nat→Prop}:qt Tryz.prog [(0,2),(1,3),(2,4),(3,6)] 0 K=K 0 1:=qr (tf:=ti2) (fo:=(0,2)) (fs:=[(0,2),(1,3),(2,4),(3,6)]) rfl tf2
theorem aTP{K:Nat→TI→Prop}:@qA Tryz.prog 8 1 ⟨K⟩=K 1 ti3:=qs (ti:=ti8) (tf:=ti3) (fo:=(1,3)) (fs:=[(0,2),(1,3),(2,4),(3,6)]) tf8 rfl rfl tf3
theorem bap{K:Nat→Nat→Prop}:qt Tryz.prog [(0,2),(1,3),(2,4),(3,6)] 1 K=K 1 1:=qr (tf:=ti3) (fo:=(1,3)) (fs:=[(0,2),(1,3),(2,4),(3,6)]) rfl tf3
theorem aTO{K:Nat→TI→Prop}:@qA Tryz.prog 8 2 ⟨K⟩=K 2 ti4:=qs (ti:=ti8) (tf:=ti4) (fo:=(2,4)) (fs:=[(0,2),(1,3),(2,4),(3,6)]) tf8 rfl rfl tf4
theorem bao{K:Nat→Nat→Prop}:qt Tryz.prog [(0,2),(1,3),(2,4),(3,6)] 2 K=K 2 1:=qr (tf:=ti4) (fo:=(2,4)) (fs:=[(0,2),(1,3),(2,4),(3,6)]) rfl tf4
theorem aTN{K:Nat→TI→Prop}:@qA Tryz.prog 8 3 ⟨K⟩=K 3 ti6:=qs (ti:=ti8) (tf:=ti6) (fo:=(3,6)) (fs:=[(0,2),(1,3),(2,4),(3,6)]) tf8 rfl rfl tf6
theorem ban{K:Nat→Nat→Prop}:qt Tryz.prog [(0,2),(1,3),(2,4),(3,6)] 3 K=K 3 1:=qr (tf:=ti6) (fo:=(3,6)) (fs:=[(0,2),(1,3),(2,4),(3,6)]) rfl tf6
theorem baM:∀f∈([(0,2),(1,3),(2,4),(3,6)]:List (Nat×Nat)),(qo Tryz.prog f.2).isSome=true:=by
 intro f hf
 simp only[List.mem_cons,List.not_mem_nil,or_false]at hf
 rcases hf with rfl|rfl|rfl|rfl
 ·rw[tf2];rfl
 ·rw[tf3];rfl
 ·rw[tf4];rfl
 ·rw[tf6];rfl
theorem bfA{ps:List (Nat×AV)}{K:AV→Prop}:@zn Tryz.prog 8 ps ⟨K⟩=@zk (qt Tryz.prog [(0,2),(1,3),(2,4),(3,6)]) (zc ti8) ps ⟨fun cs=>K (.ag cs)⟩:=qN tf8 rfl baM
theorem ty9{K:TI→Prop}:@tyW Tryz.prog 9 ⟨K⟩=K ti9:=qi tf9
theorem aOo:ti9.kd=Kd.str:=ID rfl
theorem aGA:ti9.kd.agg=false:=ID rfl
theorem asP:ti9.size=1:=ID rfl
theorem alh:ti9.bytes=16:=ID rfl
theorem aOm:qw ti9=True:=eq_true rfl
theorem aOn:zc ti9=[.v (Value.string {data:=⟨[]⟩})]:=ID rfl
theorem bd2{K:TI→Prop}:@tyW Tryz.prog 10 ⟨K⟩=K aFE:=qi beU
theorem aJU:aFE.kd=Kd.str:=ID rfl
theorem aBa:aFE.kd.agg=false:=ID rfl
theorem ao3:aFE.size=1:=ID rfl
theorem ajF:aFE.bytes=16:=ID rfl
theorem aJS:qw aFE=True:=eq_true rfl
theorem aJT:zc aFE=[.v (Value.string {data:=⟨[]⟩})]:=ID rfl
theorem bd1{K:TI→Prop}:@tyW Tryz.prog 11 ⟨K⟩=K aFD:=qi beT
theorem aJR:aFD.kd=Kd.str:=ID rfl
theorem aAF:aFD.kd.agg=false:=ID rfl
theorem aoS:aFD.size=1:=ID rfl
theorem aju:aFD.bytes=16:=ID rfl
theorem aJP:qw aFD=True:=eq_true rfl
theorem aJQ:zc aFD=[.v (Value.string {data:=⟨[]⟩})]:=ID rfl
theorem bd0{K:TI→Prop}:@tyW Tryz.prog 12 ⟨K⟩=K aFC:=qi beS
theorem aJO:aFC.kd=Kd.int IntKind.u64:=ID rfl
theorem aAa:aFC.kd.agg=false:=ID rfl
theorem aoH:aFC.size=1:=ID rfl
theorem ajj:aFC.bytes=8:=ID rfl
theorem aJM:qw aFC=True:=eq_true rfl
theorem aJN:zc aFC=[.v (Value.int IntKind.u64 0)]:=ID rfl
theorem bdZ{K:TI→Prop}:@tyW Tryz.prog 21 ⟨K⟩=K aFB:=qi beR
theorem aJK:aFB.kd=Kd.int IntKind.i32:=ID rfl
theorem awb:aFB.kd.agg=false:=ID rfl
theorem anl:aFB.size=1:=ID rfl
theorem ahZ:aFB.bytes=4:=ID rfl
theorem aJI:qw aFB=True:=eq_true rfl
theorem aJJ:zc aFB=[.v (Value.int IntKind.i32 0)]:=ID rfl
theorem bdY{K:TI→Prop}:@tyW Tryz.prog 22 ⟨K⟩=K afu:=qi aFH
theorem aJH:afu.kd=Kd.sli 5:=ID rfl
theorem avJ:afu.kd.agg=false:=ID rfl
theorem ana:afu.size=1:=ID rfl
theorem ahP:afu.bytes=24:=ID rfl
theorem aJF:qw afu=True:=eq_true rfl
theorem aJG:zc afu=[.v (Value.slice none 0 0)]:=ID rfl
theorem bae{K:TI→Prop}:@y0 Tryz.prog 22 ⟨K⟩=K ti5:=ZW aFH rfl tf5
theorem bdX{K:TI→Prop}:@tyW Tryz.prog 23 ⟨K⟩=K aft:=qi aFG
theorem aJE:aft.kd=Kd.sli 40:=ID rfl
theorem ave:aft.kd.agg=false:=ID rfl
theorem amZ:aft.size=1:=ID rfl
theorem ahE:aft.bytes=24:=ID rfl
theorem aJC:qw aft=True:=eq_true rfl
theorem aJD:zc aft=[.v (Value.slice none 0 0)]:=ID rfl
theorem bac{K:TI→Prop}:@y0 Tryz.prog 23 ⟨K⟩=K Zz:=ZW aFG rfl K0
theorem bdW{K:TI→Prop}:@tyW Tryz.prog 24 ⟨K⟩=K amY:=qi aVb
theorem aJB:amY.kd=Kd.stru [(0,3),(1,23)]:=ID rfl
theorem auP:amY.kd.agg=true:=ID rfl
theorem amP:amY.size=2:=ID rfl
theorem ahv:amY.bytes=32:=ID rfl
theorem aJz:qw amY=True:=eq_true rfl
theorem aJA:zc amY=[.v (Value.int IntKind.i64 0),.v (Value.slice none 0 0)]:=ID rfl
theorem aMG{K:Nat→TI→Prop}:@qA Tryz.prog 24 0 ⟨K⟩=K 0 ti3:=qs (ti:=amY) (tf:=ti3) (fo:=(0,3)) (fs:=[(0,3),(1,23)]) aVb rfl rfl tf3
theorem aPH{K:Nat→Nat→Prop}:qt Tryz.prog [(0,3),(1,23)] 0 K=K 0 1:=qr (tf:=ti3) (fo:=(0,3)) (fs:=[(0,3),(1,23)]) rfl tf3
theorem aMF{K:Nat→TI→Prop}:@qA Tryz.prog 24 1 ⟨K⟩=K 1 aft:=qs (ti:=amY) (tf:=aft) (fo:=(1,23)) (fs:=[(0,3),(1,23)]) aVb rfl rfl aFG
theorem aPG{K:Nat→Nat→Prop}:qt Tryz.prog [(0,3),(1,23)] 1 K=K 1 1:=qr (tf:=aft) (fo:=(1,23)) (fs:=[(0,3),(1,23)]) rfl aFG
theorem aQz:∀f∈([(0,3),(1,23)]:List (Nat×Nat)),(qo Tryz.prog f.2).isSome=true:=by
 intro f hf
 simp only[List.mem_cons,List.not_mem_nil,or_false]at hf
 rcases hf with rfl|rfl
 ·rw[tf3];rfl
 ·rw[aFG];rfl
theorem bcB{ps:List (Nat×AV)}{K:AV→Prop}:@zn Tryz.prog 24 ps ⟨K⟩=@zk (qt Tryz.prog [(0,3),(1,23)]) (zc amY) ps ⟨fun cs=>K (.ag cs)⟩:=qN aVb rfl aQz
theorem bdV{K:TI→Prop}:@tyW Tryz.prog 25 ⟨K⟩=K amO:=qi aVa
theorem aJy:amO.kd=Kd.stru [(0,3),(1,23)]:=ID rfl
theorem aun:amO.kd.agg=true:=ID rfl
theorem amE:amO.size=2:=ID rfl
theorem ahl:amO.bytes=32:=ID rfl
theorem aJw:qw amO=True:=eq_true rfl
theorem aJx:zc amO=[.v (Value.int IntKind.i64 0),.v (Value.slice none 0 0)]:=ID rfl
theorem aME{K:Nat→TI→Prop}:@qA Tryz.prog 25 0 ⟨K⟩=K 0 ti3:=qs (ti:=amO) (tf:=ti3) (fo:=(0,3)) (fs:=[(0,3),(1,23)]) aVa rfl rfl tf3
theorem aPF{K:Nat→Nat→Prop}:qt Tryz.prog [(0,3),(1,23)] 0 K=K 0 1:=qr (tf:=ti3) (fo:=(0,3)) (fs:=[(0,3),(1,23)]) rfl tf3
theorem aMD{K:Nat→TI→Prop}:@qA Tryz.prog 25 1 ⟨K⟩=K 1 aft:=qs (ti:=amO) (tf:=aft) (fo:=(1,23)) (fs:=[(0,3),(1,23)]) aVa rfl rfl aFG
theorem aPE{K:Nat→Nat→Prop}:qt Tryz.prog [(0,3),(1,23)] 1 K=K 1 1:=qr (tf:=aft) (fo:=(1,23)) (fs:=[(0,3),(1,23)]) rfl aFG
theorem aQy:∀f∈([(0,3),(1,23)]:List (Nat×Nat)),(qo Tryz.prog f.2).isSome=true:=by
 intro f hf
 simp only[List.mem_cons,List.not_mem_nil,or_false]at hf
 rcases hf with rfl|rfl
 ·rw[tf3];rfl
 ·rw[aFG];rfl
theorem bcA{ps:List (Nat×AV)}{K:AV→Prop}:@zn Tryz.prog 25 ps ⟨K⟩=@zk (qt Tryz.prog [(0,3),(1,23)]) (zc amO) ps ⟨fun cs=>K (.ag cs)⟩:=qN aVa rfl aQy
theorem bdU{K:TI→Prop}:@tyW Tryz.prog 27 ⟨K⟩=K aFA:=qi beQ
theorem aJv:aFA.kd=Kd.oth:=ID rfl
theorem atS:aFA.kd.agg=false:=ID rfl
theorem amt:aFA.size=1:=ID rfl
theorem aha:aFA.bytes=8:=ID rfl
theorem aJt:qw aFA=True:=eq_true rfl
theorem aJu:zc aFA=[.v Value.nilFunc]:=ID rfl
theorem bdT{K:TI→Prop}:@tyW Tryz.prog 29 ⟨K⟩=K aFz:=qi beP
theorem aJs:aFz.kd=Kd.oth:=ID rfl
theorem atR:aFz.kd.agg=false:=ID rfl
theorem ams:aFz.size=1:=ID rfl
theorem ag9:aFz.bytes=8:=ID rfl
theorem aJq:qw aFz=True:=eq_true rfl
theorem aJr:zc aFz=[.v Value.nilFunc]:=ID rfl
theorem bdS{K:TI→Prop}:@tyW Tryz.prog 30 ⟨K⟩=K aFy:=qi beO
theorem aJo:aFy.kd=Kd.oth:=ID rfl
theorem atP:aFy.kd.agg=false:=ID rfl
theorem amq:aFy.size=1:=ID rfl
theorem ag8:aFy.bytes=8:=ID rfl
theorem aJm:qw aFy=True:=eq_true rfl
theorem aJn:zc aFy=[.v Value.nilFunc]:=ID rfl
theorem bdR{K:TI→Prop}:@tyW Tryz.prog 31 ⟨K⟩=K aFx:=qi beN
theorem aJl:aFx.kd=Kd.oth:=ID rfl
theorem atO:aFx.kd.agg=false:=ID rfl
theorem amp:aFx.size=1:=ID rfl
theorem ag7:aFx.bytes=8:=ID rfl
theorem aJj:qw aFx=True:=eq_true rfl
theorem aJk:zc aFx=[.v Value.nilFunc]:=ID rfl
theorem bdQ{K:TI→Prop}:@tyW Tryz.prog 32 ⟨K⟩=K aFw:=qi beM
theorem aJi:aFw.kd=Kd.oth:=ID rfl
theorem atN:aFw.kd.agg=false:=ID rfl
theorem amo:aFw.size=1:=ID rfl
theorem ag6:aFw.bytes=8:=ID rfl
theorem aJg:qw aFw=True:=eq_true rfl
theorem aJh:zc aFw=[.v Value.nilFunc]:=ID rfl
theorem bdP{K:TI→Prop}:@tyW Tryz.prog 33 ⟨K⟩=K aFv:=qi beL
theorem aJf:aFv.kd=Kd.oth:=ID rfl
theorem atM:aFv.kd.agg=false:=ID rfl
theorem amn:aFv.size=1:=ID rfl
theorem ag5:aFv.bytes=8:=ID rfl
theorem aJd:qw aFv=True:=eq_true rfl
theorem aJe:zc aFv=[.v Value.nilFunc]:=ID rfl
theorem bdO{K:TI→Prop}:@tyW Tryz.prog 34 ⟨K⟩=K JU:=qi afv
theorem aJc:JU.kd=Kd.sli 3:=ID rfl
theorem atL:JU.kd.agg=false:=ID rfl
theorem amm:JU.size=1:=ID rfl
theorem ag4:JU.bytes=24:=ID rfl
theorem aJa:qw JU=True:=eq_true rfl
theorem aJb:zc JU=[.v (Value.slice none 0 0)]:=ID rfl
theorem bab{K:TI→Prop}:@y0 Tryz.prog 34 ⟨K⟩=K ti3:=ZW afv rfl tf3
theorem bdN{K:TI→Prop}:@tyW Tryz.prog 35 ⟨K⟩=K asw:=qi aXL
theorem aI9:asw.kd=Kd.stru [(0,34)]:=ID rfl
theorem atK:asw.kd.agg=true:=ID rfl
theorem aml:asw.size=1:=ID rfl
theorem ag3:asw.bytes=24:=ID rfl
theorem aI7:qw asw=True:=eq_true rfl
theorem aI8:zc asw=[.v (Value.slice none 0 0)]:=ID rfl
theorem aMC{K:Nat→TI→Prop}:@qA Tryz.prog 35 0 ⟨K⟩=K 0 JU:=qs (ti:=asw) (tf:=JU) (fo:=(0,34)) (fs:=[(0,34)]) aXL rfl rfl afv
theorem aPD{K:Nat→Nat→Prop}:qt Tryz.prog [(0,34)] 0 K=K 0 1:=qr (tf:=JU) (fo:=(0,34)) (fs:=[(0,34)]) rfl afv
theorem aQx:∀f∈([(0,34)]:List (Nat×Nat)),(qo Tryz.prog f.2).isSome=true:=by
 intro f hf
 simp only[List.mem_cons,List.not_mem_nil,or_false]at hf
 subst hf;rw[afv];rfl
theorem bcz{ps:List (Nat×AV)}{K:AV→Prop}:@zn Tryz.prog 35 ps ⟨K⟩=@zk (qt Tryz.prog [(0,34)]) (zc asw) ps ⟨fun cs=>K (.ag cs)⟩:=qN aXL rfl aQx
theorem bdM{K:TI→Prop}:@tyW Tryz.prog 36 ⟨K⟩=K abk:=qi aBF
theorem aI6:abk.kd=Kd.stru [(0,34)]:=ID rfl
theorem atJ:abk.kd.agg=true:=ID rfl
theorem amk:abk.size=1:=ID rfl
theorem ag2:abk.bytes=24:=ID rfl
theorem aI4:qw abk=True:=eq_true rfl
theorem aI5:zc abk=[.v (Value.slice none 0 0)]:=ID rfl
theorem aMB{K:Nat→TI→Prop}:@qA Tryz.prog 36 0 ⟨K⟩=K 0 JU:=qs (ti:=abk) (tf:=JU) (fo:=(0,34)) (fs:=[(0,34)]) aBF rfl rfl afv
theorem aPC{K:Nat→Nat→Prop}:qt Tryz.prog [(0,34)] 0 K=K 0 1:=qr (tf:=JU) (fo:=(0,34)) (fs:=[(0,34)]) rfl afv
theorem aQw:∀f∈([(0,34)]:List (Nat×Nat)),(qo Tryz.prog f.2).isSome=true:=by
 intro f hf
 simp only[List.mem_cons,List.not_mem_nil,or_false]at hf
 subst hf;rw[afv];rfl
theorem bcy{ps:List (Nat×AV)}{K:AV→Prop}:@zn Tryz.prog 36 ps ⟨K⟩=@zk (qt Tryz.prog [(0,34)]) (zc abk) ps ⟨fun cs=>K (.ag cs)⟩:=qN aBF rfl aQw
theorem bdL{K:TI→Prop}:@tyW Tryz.prog 37 ⟨K⟩=K amj:=qi aU9
theorem aI3:amj.kd=Kd.stru [(0,4),(1,36)]:=ID rfl
theorem atI:amj.kd.agg=true:=ID rfl
theorem ami:amj.size=2:=ID rfl
theorem ag1:amj.bytes=32:=ID rfl
theorem aI1:qw amj=True:=eq_true rfl
theorem aI2:zc amj=[.v (Value.bool false),.v (Value.slice none 0 0)]:=ID rfl
theorem aMA{K:Nat→TI→Prop}:@qA Tryz.prog 37 0 ⟨K⟩=K 0 ti4:=qs (ti:=amj) (tf:=ti4) (fo:=(0,4)) (fs:=[(0,4),(1,36)]) aU9 rfl rfl tf4
theorem aPB{K:Nat→Nat→Prop}:qt Tryz.prog [(0,4),(1,36)] 0 K=K 0 1:=qr (tf:=ti4) (fo:=(0,4)) (fs:=[(0,4),(1,36)]) rfl tf4
theorem aMz{K:Nat→TI→Prop}:@qA Tryz.prog 37 1 ⟨K⟩=K 1 abk:=qs (ti:=amj) (tf:=abk) (fo:=(1,36)) (fs:=[(0,4),(1,36)]) aU9 rfl rfl aBF
theorem aPA{K:Nat→Nat→Prop}:qt Tryz.prog [(0,4),(1,36)] 1 K=K 1 1:=qr (tf:=abk) (fo:=(1,36)) (fs:=[(0,4),(1,36)]) rfl aBF
theorem aQv:∀f∈([(0,4),(1,36)]:List (Nat×Nat)),(qo Tryz.prog f.2).isSome=true:=by
 intro f hf
 simp only[List.mem_cons,List.not_mem_nil,or_false]at hf
 rcases hf with rfl|rfl
 ·rw[tf4];rfl
 ·rw[aBF];rfl
theorem bcx{ps:List (Nat×AV)}{K:AV→Prop}:@zn Tryz.prog 37 ps ⟨K⟩=@zk (qt Tryz.prog [(0,4),(1,36)]) (zc amj) ps ⟨fun cs=>K (.ag cs)⟩:=qN aU9 rfl aQv
theorem bdK{K:TI→Prop}:@tyW Tryz.prog 38 ⟨K⟩=K Xx:=qi asx
theorem aI0:Xx.kd=Kd.stru [(0,4),(1,36)]:=ID rfl
theorem atH:Xx.kd.agg=true:=ID rfl
theorem amh:Xx.size=2:=ID rfl
theorem ag0:Xx.bytes=32:=ID rfl
theorem aIY:qw Xx=True:=eq_true rfl
theorem aIZ:zc Xx=[.v (Value.bool false),.v (Value.slice none 0 0)]:=ID rfl
theorem aMy{K:Nat→TI→Prop}:@qA Tryz.prog 38 0 ⟨K⟩=K 0 ti4:=qs (ti:=Xx) (tf:=ti4) (fo:=(0,4)) (fs:=[(0,4),(1,36)]) asx rfl rfl tf4
theorem aPz{K:Nat→Nat→Prop}:qt Tryz.prog [(0,4),(1,36)] 0 K=K 0 1:=qr (tf:=ti4) (fo:=(0,4)) (fs:=[(0,4),(1,36)]) rfl tf4
theorem aMx{K:Nat→TI→Prop}:@qA Tryz.prog 38 1 ⟨K⟩=K 1 abk:=qs (ti:=Xx) (tf:=abk) (fo:=(1,36)) (fs:=[(0,4),(1,36)]) asx rfl rfl aBF
theorem aPy{K:Nat→Nat→Prop}:qt Tryz.prog [(0,4),(1,36)] 1 K=K 1 1:=qr (tf:=abk) (fo:=(1,36)) (fs:=[(0,4),(1,36)]) rfl aBF
theorem aQu:∀f∈([(0,4),(1,36)]:List (Nat×Nat)),(qo Tryz.prog f.2).isSome=true:=by
 intro f hf
 simp only[List.mem_cons,List.not_mem_nil,or_false]at hf
 rcases hf with rfl|rfl
 ·rw[tf4];rfl
 ·rw[aBF];rfl
theorem bcw{ps:List (Nat×AV)}{K:AV→Prop}:@zn Tryz.prog 38 ps ⟨K⟩=@zk (qt Tryz.prog [(0,4),(1,36)]) (zc Xx) ps ⟨fun cs=>K (.ag cs)⟩:=qN asx rfl aQu
theorem bdJ{K:TI→Prop}:@tyW Tryz.prog 39 ⟨K⟩=K amg:=qi aU8
theorem aIX:amg.kd=Kd.stru [(0,38),(2,3)]:=ID rfl
theorem atG:amg.kd.agg=true:=ID rfl
theorem amf:amg.size=3:=ID rfl
theorem agZ:amg.bytes=40:=ID rfl
theorem aIV:qw amg=True:=eq_true rfl
theorem aIW:zc amg=[.v (Value.bool false),.v (Value.slice none 0 0),.v (Value.int IntKind.i64 0)]:=ID rfl
theorem aMw{K:Nat→TI→Prop}:@qA Tryz.prog 39 0 ⟨K⟩=K 0 Xx:=qs (ti:=amg) (tf:=Xx) (fo:=(0,38)) (fs:=[(0,38),(2,3)]) aU8 rfl rfl asx
theorem aPx{K:Nat→Nat→Prop}:qt Tryz.prog [(0,38),(2,3)] 0 K=K 0 2:=qr (tf:=Xx) (fo:=(0,38)) (fs:=[(0,38),(2,3)]) rfl asx
theorem aMv{K:Nat→TI→Prop}:@qA Tryz.prog 39 1 ⟨K⟩=K 2 ti3:=qs (ti:=amg) (tf:=ti3) (fo:=(2,3)) (fs:=[(0,38),(2,3)]) aU8 rfl rfl tf3
theorem aPw{K:Nat→Nat→Prop}:qt Tryz.prog [(0,38),(2,3)] 1 K=K 2 1:=qr (tf:=ti3) (fo:=(2,3)) (fs:=[(0,38),(2,3)]) rfl tf3
theorem aQt:∀f∈([(0,38),(2,3)]:List (Nat×Nat)),(qo Tryz.prog f.2).isSome=true:=by
 intro f hf
 simp only[List.mem_cons,List.not_mem_nil,or_false]at hf
 rcases hf with rfl|rfl
 ·rw[asx];rfl
 ·rw[tf3];rfl
theorem bcv{ps:List (Nat×AV)}{K:AV→Prop}:@zn Tryz.prog 39 ps ⟨K⟩=@zk (qt Tryz.prog [(0,38),(2,3)]) (zc amg) ps ⟨fun cs=>K (.ag cs)⟩:=qN aU8 rfl aQt
theorem bdI{K:TI→Prop}:@tyW Tryz.prog 40 ⟨K⟩=K Zz:=qi K0
theorem aIT:Zz.kd=Kd.stru [(0,38),(2,3)]:=ID rfl
theorem atE:Zz.kd.agg=true:=ID rfl
theorem amd:Zz.size=3:=ID rfl
theorem agY:Zz.bytes=40:=ID rfl
theorem aIR:qw Zz=True:=eq_true rfl
theorem aIS:zc Zz=[.v (Value.bool false),.v (Value.slice none 0 0),.v (Value.int IntKind.i64 0)]:=ID rfl
theorem aMu{K:Nat→TI→Prop}:@qA Tryz.prog 40 0 ⟨K⟩=K 0 Xx:=qs (ti:=Zz) (tf:=Xx) (fo:=(0,38)) (fs:=[(0,38),(2,3)]) K0 rfl rfl asx
theorem aPv{K:Nat→Nat→Prop}:qt Tryz.prog [(0,38),(2,3)] 0 K=K 0 2:=qr (tf:=Xx) (fo:=(0,38)) (fs:=[(0,38),(2,3)]) rfl asx
theorem aMt{K:Nat→TI→Prop}:@qA Tryz.prog 40 1 ⟨K⟩=K 2 ti3:=qs (ti:=Zz) (tf:=ti3) (fo:=(2,3)) (fs:=[(0,38),(2,3)]) K0 rfl rfl tf3
theorem aPu{K:Nat→Nat→Prop}:qt Tryz.prog [(0,38),(2,3)] 1 K=K 2 1:=qr (tf:=ti3) (fo:=(2,3)) (fs:=[(0,38),(2,3)]) rfl tf3
theorem aQs:∀f∈([(0,38),(2,3)]:List (Nat×Nat)),(qo Tryz.prog f.2).isSome=true:=by
 intro f hf
 simp only[List.mem_cons,List.not_mem_nil,or_false]at hf
 rcases hf with rfl|rfl
 ·rw[asx];rfl
 ·rw[tf3];rfl
theorem bcu{ps:List (Nat×AV)}{K:AV→Prop}:@zn Tryz.prog 40 ps ⟨K⟩=@zk (qt Tryz.prog [(0,38),(2,3)]) (zc Zz) ps ⟨fun cs=>K (.ag cs)⟩:=qN K0 rfl aQs
theorem bdH{K:TI→Prop}:@tyW Tryz.prog 41 ⟨K⟩=K aFu:=qi beK
theorem aIQ:aFu.kd=Kd.oth:=ID rfl
theorem atD:aFu.kd.agg=false:=ID rfl
theorem amc:aFu.size=1:=ID rfl
theorem agX:aFu.bytes=8:=ID rfl
theorem aIO:qw aFu=True:=eq_true rfl
theorem aIP:zc aFu=[.v Value.nilFunc]:=ID rfl
theorem bdG{K:TI→Prop}:@tyW Tryz.prog 42 ⟨K⟩=K aFt:=qi beJ
theorem aIN:aFt.kd=Kd.oth:=ID rfl
theorem atC:aFt.kd.agg=false:=ID rfl
theorem amb:aFt.size=1:=ID rfl
theorem agW:aFt.bytes=8:=ID rfl
theorem aIL:qw aFt=True:=eq_true rfl
theorem aIM:zc aFt=[.v Value.nilFunc]:=ID rfl
theorem bdF{K:TI→Prop}:@tyW Tryz.prog 44 ⟨K⟩=K aFs:=qi beI
theorem aIK:aFs.kd=Kd.oth:=ID rfl
theorem atB:aFs.kd.agg=false:=ID rfl
theorem ama:aFs.size=1:=ID rfl
theorem agV:aFs.bytes=8:=ID rfl
theorem aII:qw aFs=True:=eq_true rfl
theorem aIJ:zc aFs=[.v Value.nilFunc]:=ID rfl
theorem bdE{K:TI→Prop}:@tyW Tryz.prog 46 ⟨K⟩=K aFr:=qi beH
theorem aIH:aFr.kd=Kd.oth:=ID rfl
theorem atA:aFr.kd.agg=false:=ID rfl
theorem al9:aFr.size=1:=ID rfl
theorem agU:aFr.bytes=8:=ID rfl
theorem aIF:qw aFr=True:=eq_true rfl
theorem aIG:zc aFr=[.v Value.nilFunc]:=ID rfl
theorem bdD{K:TI→Prop}:@tyW Tryz.prog 47 ⟨K⟩=K aFq:=qi beG
theorem aIE:aFq.kd=Kd.oth:=ID rfl
theorem atz:aFq.kd.agg=false:=ID rfl
theorem al8:aFq.size=1:=ID rfl
theorem agT:aFq.bytes=8:=ID rfl
theorem aIC:qw aFq=True:=eq_true rfl
theorem aID:zc aFq=[.v Value.nilFunc]:=ID rfl
theorem bdC{K:TI→Prop}:@tyW Tryz.prog 48 ⟨K⟩=K aFp:=qi beF
theorem aIB:aFp.kd=Kd.oth:=ID rfl
theorem aty:aFp.kd.agg=false:=ID rfl
theorem al7:aFp.size=1:=ID rfl
theorem agS:aFp.bytes=8:=ID rfl
theorem aIz:qw aFp=True:=eq_true rfl
theorem aIA:zc aFp=[.v Value.nilFunc]:=ID rfl
theorem bdB{K:TI→Prop}:@tyW Tryz.prog 49 ⟨K⟩=K aFo:=qi beE
theorem aIy:aFo.kd=Kd.oth:=ID rfl
theorem atx:aFo.kd.agg=false:=ID rfl
theorem al6:aFo.size=1:=ID rfl
theorem agR:aFo.bytes=8:=ID rfl
theorem aIw:qw aFo=True:=eq_true rfl
theorem aIx:zc aFo=[.v Value.nilFunc]:=ID rfl
theorem bdA{K:TI→Prop}:@tyW Tryz.prog 50 ⟨K⟩=K al4:=qi aU7
theorem aIu:al4.kd=Kd.stru [(0,40),(3,40)]:=ID rfl
theorem atv:al4.kd.agg=true:=ID rfl
theorem al3:al4.size=6:=ID rfl
theorem agQ:al4.bytes=80:=ID rfl
theorem aIs:qw al4=True:=eq_true rfl
theorem aIt:zc al4=[.v (Value.bool false),.v (Value.slice none 0 0),.v (Value.int IntKind.i64 0),.v (Value.bool false),.v (Value.slice none 0 0),.v (Value.int IntKind.i64 0)]:=ID rfl
theorem aMs{K:Nat→TI→Prop}:@qA Tryz.prog 50 0 ⟨K⟩=K 0 Zz:=qs (ti:=al4) (tf:=Zz) (fo:=(0,40)) (fs:=[(0,40),(3,40)]) aU7 rfl rfl K0
theorem aPt{K:Nat→Nat→Prop}:qt Tryz.prog [(0,40),(3,40)] 0 K=K 0 3:=qr (tf:=Zz) (fo:=(0,40)) (fs:=[(0,40),(3,40)]) rfl K0
theorem aMr{K:Nat→TI→Prop}:@qA Tryz.prog 50 1 ⟨K⟩=K 3 Zz:=qs (ti:=al4) (tf:=Zz) (fo:=(3,40)) (fs:=[(0,40),(3,40)]) aU7 rfl rfl K0
theorem aPs{K:Nat→Nat→Prop}:qt Tryz.prog [(0,40),(3,40)] 1 K=K 3 3:=qr (tf:=Zz) (fo:=(3,40)) (fs:=[(0,40),(3,40)]) rfl K0
theorem aQr:∀f∈([(0,40),(3,40)]:List (Nat×Nat)),(qo Tryz.prog f.2).isSome=true:=by
 intro f hf
 simp only[List.mem_cons,List.not_mem_nil,or_false]at hf
 rcases hf with rfl|rfl
 ·rw[K0];rfl
 ·rw[K0];rfl
theorem bct{ps:List (Nat×AV)}{K:AV→Prop}:@zn Tryz.prog 50 ps ⟨K⟩=@zk (qt Tryz.prog [(0,40),(3,40)]) (zc al4) ps ⟨fun cs=>K (.ag cs)⟩:=qN aU7 rfl aQr
theorem bdz{K:TI→Prop}:@tyW Tryz.prog 51 ⟨K⟩=K ak5:=qi aON
theorem aIr:ak5.kd=Kd.stru [(0,40),(3,40)]:=ID rfl
theorem atu:ak5.kd.agg=true:=ID rfl
theorem al2:ak5.size=6:=ID rfl
theorem agP:ak5.bytes=80:=ID rfl
theorem aIp:qw ak5=True:=eq_true rfl
theorem aIq:zc ak5=[.v (Value.bool false),.v (Value.slice none 0 0),.v (Value.int IntKind.i64 0),.v (Value.bool false),.v (Value.slice none 0 0),.v (Value.int IntKind.i64 0)]:=ID rfl
theorem aMq{K:Nat→TI→Prop}:@qA Tryz.prog 51 0 ⟨K⟩=K 0 Zz:=qs (ti:=ak5) (tf:=Zz) (fo:=(0,40)) (fs:=[(0,40),(3,40)]) aON rfl rfl K0
theorem aPr{K:Nat→Nat→Prop}:qt Tryz.prog [(0,40),(3,40)] 0 K=K 0 3:=qr (tf:=Zz) (fo:=(0,40)) (fs:=[(0,40),(3,40)]) rfl K0
theorem aMp{K:Nat→TI→Prop}:@qA Tryz.prog 51 1 ⟨K⟩=K 3 Zz:=qs (ti:=ak5) (tf:=Zz) (fo:=(3,40)) (fs:=[(0,40),(3,40)]) aON rfl rfl K0
theorem aPq{K:Nat→Nat→Prop}:qt Tryz.prog [(0,40),(3,40)] 1 K=K 3 3:=qr (tf:=Zz) (fo:=(3,40)) (fs:=[(0,40),(3,40)]) rfl K0
theorem aQq:∀f∈([(0,40),(3,40)]:List (Nat×Nat)),(qo Tryz.prog f.2).isSome=true:=by
 intro f hf
 simp only[List.mem_cons,List.not_mem_nil,or_false]at hf
 rcases hf with rfl|rfl
 ·rw[K0];rfl
 ·rw[K0];rfl
theorem bcs{ps:List (Nat×AV)}{K:AV→Prop}:@zn Tryz.prog 51 ps ⟨K⟩=@zk (qt Tryz.prog [(0,40),(3,40)]) (zc ak5) ps ⟨fun cs=>K (.ag cs)⟩:=qN aON rfl aQq
theorem bdy{K:TI→Prop}:@tyW Tryz.prog 53 ⟨K⟩=K aFn:=qi beD
theorem aIo:aFn.kd=Kd.oth:=ID rfl
theorem att:aFn.kd.agg=false:=ID rfl
theorem al1:aFn.size=1:=ID rfl
theorem agO:aFn.bytes=8:=ID rfl
theorem aIm:qw aFn=True:=eq_true rfl
theorem aIn:zc aFn=[.v Value.nilFunc]:=ID rfl
theorem bdx{K:TI→Prop}:@tyW Tryz.prog 55 ⟨K⟩=K aFm:=qi beC
theorem aIl:aFm.kd=Kd.oth:=ID rfl
theorem ats:aFm.kd.agg=false:=ID rfl
theorem al0:aFm.size=1:=ID rfl
theorem agN:aFm.bytes=8:=ID rfl
theorem aIj:qw aFm=True:=eq_true rfl
theorem aIk:zc aFm=[.v Value.nilFunc]:=ID rfl
theorem bdw{K:TI→Prop}:@tyW Tryz.prog 56 ⟨K⟩=K aFl:=qi beB
theorem aIi:aFl.kd=Kd.oth:=ID rfl
theorem atr:aFl.kd.agg=false:=ID rfl
theorem alZ:aFl.size=1:=ID rfl
theorem agM:aFl.bytes=8:=ID rfl
theorem aIg:qw aFl=True:=eq_true rfl
theorem aIh:zc aFl=[.v Value.nilFunc]:=ID rfl
theorem bdv{K:TI→Prop}:@tyW Tryz.prog 57 ⟨K⟩=K aFk:=qi beA
theorem aIf:aFk.kd=Kd.oth:=ID rfl
theorem atq:aFk.kd.agg=false:=ID rfl
theorem alY:aFk.size=1:=ID rfl
theorem agL:aFk.bytes=8:=ID rfl
theorem aId:qw aFk=True:=eq_true rfl
theorem aIe:zc aFk=[.v Value.nilFunc]:=ID rfl
theorem bdu{K:TI→Prop}:@tyW Tryz.prog 58 ⟨K⟩=K aFj:=qi bez
theorem aIc:aFj.kd=Kd.oth:=ID rfl
theorem atp:aFj.kd.agg=false:=ID rfl
theorem alX:aFj.size=1:=ID rfl
theorem agK:aFj.bytes=8:=ID rfl
theorem aIa:qw aFj=True:=eq_true rfl
theorem aIb:zc aFj=[.v Value.nilFunc]:=ID rfl
theorem bdt{K:TI→Prop}:@tyW Tryz.prog 60 ⟨K⟩=K aFi:=qi bey
theorem aH8:aFi.kd=Kd.oth:=ID rfl
theorem atn:aFi.kd.agg=false:=ID rfl
theorem alV:aFi.size=1:=ID rfl
theorem agJ:aFi.bytes=8:=ID rfl
theorem aH6:qw aFi=True:=eq_true rfl
theorem aH7:zc aFi=[.v Value.nilFunc]:=ID rfl
theorem bds{K:TI→Prop}:@tyW Tryz.prog 61 ⟨K⟩=K aFh:=qi bex
theorem aH5:aFh.kd=Kd.oth:=ID rfl
theorem atm:aFh.kd.agg=false:=ID rfl
theorem alU:aFh.size=1:=ID rfl
theorem agI:aFh.bytes=8:=ID rfl
theorem aH3:qw aFh=True:=eq_true rfl
theorem aH4:zc aFh=[.v Value.nilFunc]:=ID rfl
theorem bdr{K:TI→Prop}:@tyW Tryz.prog 62 ⟨K⟩=K aFg:=qi bew
theorem aH2:aFg.kd=Kd.oth:=ID rfl
theorem atl:aFg.kd.agg=false:=ID rfl
theorem alT:aFg.size=1:=ID rfl
theorem agH:aFg.bytes=8:=ID rfl
theorem aH0:qw aFg=True:=eq_true rfl
theorem aH1:zc aFg=[.v Value.nilFunc]:=ID rfl
theorem bdq{K:TI→Prop}:@tyW Tryz.prog 63 ⟨K⟩=K aFf:=qi bev
theorem aHZ:aFf.kd=Kd.oth:=ID rfl
theorem atk:aFf.kd.agg=false:=ID rfl
theorem alS:aFf.size=1:=ID rfl
theorem agG:aFf.bytes=8:=ID rfl
theorem aHX:qw aFf=True:=eq_true rfl
theorem aHY:zc aFf=[.v Value.nilFunc]:=ID rfl
theorem bdp{K:TI→Prop}:@tyW Tryz.prog 64 ⟨K⟩=K aFe:=qi beu
theorem aHW:aFe.kd=Kd.oth:=ID rfl
theorem atj:aFe.kd.agg=false:=ID rfl
theorem alR:aFe.size=1:=ID rfl
theorem agF:aFe.bytes=8:=ID rfl
theorem aHU:qw aFe=True:=eq_true rfl
theorem aHV:zc aFe=[.v Value.nilFunc]:=ID rfl
theorem bdo{K:TI→Prop}:@tyW Tryz.prog 65 ⟨K⟩=K aFd:=qi bet
theorem aHT:aFd.kd=Kd.oth:=ID rfl
theorem ati:aFd.kd.agg=false:=ID rfl
theorem alQ:aFd.size=1:=ID rfl
theorem agE:aFd.bytes=8:=ID rfl
theorem aHR:qw aFd=True:=eq_true rfl
theorem aHS:zc aFd=[.v Value.nilFunc]:=ID rfl
theorem bdn{K:TI→Prop}:@tyW Tryz.prog 66 ⟨K⟩=K aFc:=qi bes
theorem aHQ:aFc.kd=Kd.oth:=ID rfl
theorem ath:aFc.kd.agg=false:=ID rfl
theorem alP:aFc.size=1:=ID rfl
theorem agD:aFc.bytes=8:=ID rfl
theorem aHO:qw aFc=True:=eq_true rfl
theorem aHP:zc aFc=[.v Value.nilFunc]:=ID rfl
theorem bdm{K:TI→Prop}:@tyW Tryz.prog 68 ⟨K⟩=K aFb:=qi ber
theorem aHN:aFb.kd=Kd.oth:=ID rfl
theorem atg:aFb.kd.agg=false:=ID rfl
theorem alO:aFb.size=1:=ID rfl
theorem agC:aFb.bytes=8:=ID rfl
theorem aHL:qw aFb=True:=eq_true rfl
theorem aHM:zc aFb=[.v Value.nilFunc]:=ID rfl
theorem bdl{K:TI→Prop}:@tyW Tryz.prog 69 ⟨K⟩=K afs:=qi aFF
theorem aHK:afs.kd=Kd.sli 51:=ID rfl
theorem atf:afs.kd.agg=false:=ID rfl
theorem alN:afs.size=1:=ID rfl
theorem agB:afs.bytes=24:=ID rfl
theorem aHI:qw afs=True:=eq_true rfl
theorem aHJ:zc afs=[.v (Value.slice none 0 0)]:=ID rfl
theorem baa{K:TI→Prop}:@y0 Tryz.prog 69 ⟨K⟩=K ak5:=ZW aFF rfl aON
theorem bdk{K:TI→Prop}:@tyW Tryz.prog 71 ⟨K⟩=K aFa:=qi bep
theorem aHG:aFa.kd=Kd.oth:=ID rfl
theorem atd:aFa.kd.agg=false:=ID rfl
theorem alL:aFa.size=1:=ID rfl
theorem agA:aFa.bytes=8:=ID rfl
theorem aHE:qw aFa=True:=eq_true rfl
theorem aHF:zc aFa=[.v Value.nilFunc]:=ID rfl
theorem bdj{K:TI→Prop}:@tyW Tryz.prog 73 ⟨K⟩=K aE9:=qi beo
theorem aHD:aE9.kd=Kd.oth:=ID rfl
theorem atc:aE9.kd.agg=false:=ID rfl
theorem alK:aE9.size=1:=ID rfl
theorem agz:aE9.bytes=8:=ID rfl
theorem aHB:qw aE9=True:=eq_true rfl
theorem aHC:zc aE9=[.v Value.nilFunc]:=ID rfl
theorem bdi{K:TI→Prop}:@tyW Tryz.prog 74 ⟨K⟩=K aE8:=qi ben
theorem aHA:aE8.kd=Kd.oth:=ID rfl
theorem atb:aE8.kd.agg=false:=ID rfl
theorem alJ:aE8.size=1:=ID rfl
theorem agy:aE8.bytes=8:=ID rfl
theorem aHy:qw aE8=True:=eq_true rfl
theorem aHz:zc aE8=[.v Value.nilFunc]:=ID rfl
theorem bdh{K:TI→Prop}:@tyW Tryz.prog 75 ⟨K⟩=K aE7:=qi bem
theorem aHx:aE7.kd=Kd.oth:=ID rfl
theorem ata:aE7.kd.agg=false:=ID rfl
theorem alI:aE7.size=1:=ID rfl
theorem agx:aE7.bytes=8:=ID rfl
theorem aHv:qw aE7=True:=eq_true rfl
theorem aHw:zc aE7=[.v Value.nilFunc]:=ID rfl
theorem bdg{K:TI→Prop}:@tyW Tryz.prog 77 ⟨K⟩=K aE6:=qi bel
theorem aHu:aE6.kd=Kd.oth:=ID rfl
theorem as9:aE6.kd.agg=false:=ID rfl
theorem alH:aE6.size=1:=ID rfl
theorem agw:aE6.bytes=8:=ID rfl
theorem aHs:qw aE6=True:=eq_true rfl
theorem aHt:zc aE6=[.v Value.nilFunc]:=ID rfl
theorem bdf{K:TI→Prop}:@tyW Tryz.prog 79 ⟨K⟩=K aE5:=qi bek
theorem aHr:aE5.kd=Kd.oth:=ID rfl
theorem as8:aE5.kd.agg=false:=ID rfl
theorem alG:aE5.size=1:=ID rfl
theorem agv:aE5.bytes=8:=ID rfl
theorem aHp:qw aE5=True:=eq_true rfl
theorem aHq:zc aE5=[.v Value.nilFunc]:=ID rfl
theorem bde{K:TI→Prop}:@tyW Tryz.prog 80 ⟨K⟩=K aE4:=qi bej
theorem aHn:aE4.kd=Kd.oth:=ID rfl
theorem as6:aE4.kd.agg=false:=ID rfl
theorem alC:aE4.size=1:=ID rfl
theorem agu:aE4.bytes=8:=ID rfl
theorem aHl:qw aE4=True:=eq_true rfl
theorem aHm:zc aE4=[.v Value.nilFunc]:=ID rfl
theorem bdd{K:TI→Prop}:@tyW Tryz.prog 81 ⟨K⟩=K alB:=qi aU6
theorem aHk:alB.kd=Kd.stru [(0,3),(1,69)]:=ID rfl
theorem as5:alB.kd.agg=true:=ID rfl
theorem alz:alB.size=2:=ID rfl
theorem agt:alB.bytes=32:=ID rfl
theorem aHi:qw alB=True:=eq_true rfl
theorem aHj:zc alB=[.v (Value.int IntKind.i64 0),.v (Value.slice none 0 0)]:=ID rfl
theorem aMo{K:Nat→TI→Prop}:@qA Tryz.prog 81 0 ⟨K⟩=K 0 ti3:=qs (ti:=alB) (tf:=ti3) (fo:=(0,3)) (fs:=[(0,3),(1,69)]) aU6 rfl rfl tf3
theorem aPp{K:Nat→Nat→Prop}:qt Tryz.prog [(0,3),(1,69)] 0 K=K 0 1:=qr (tf:=ti3) (fo:=(0,3)) (fs:=[(0,3),(1,69)]) rfl tf3
theorem aMn{K:Nat→TI→Prop}:@qA Tryz.prog 81 1 ⟨K⟩=K 1 afs:=qs (ti:=alB) (tf:=afs) (fo:=(1,69)) (fs:=[(0,3),(1,69)]) aU6 rfl rfl aFF
theorem aPo{K:Nat→Nat→Prop}:qt Tryz.prog [(0,3),(1,69)] 1 K=K 1 1:=qr (tf:=afs) (fo:=(1,69)) (fs:=[(0,3),(1,69)]) rfl aFF
theorem aQp:∀f∈([(0,3),(1,69)]:List (Nat×Nat)),(qo Tryz.prog f.2).isSome=true:=by
 intro f hf
 simp only[List.mem_cons,List.not_mem_nil,or_false]at hf
 rcases hf with rfl|rfl
 ·rw[tf3];rfl
 ·rw[aFF];rfl
theorem bcr{ps:List (Nat×AV)}{K:AV→Prop}:@zn Tryz.prog 81 ps ⟨K⟩=@zk (qt Tryz.prog [(0,3),(1,69)]) (zc alB) ps ⟨fun cs=>K (.ag cs)⟩:=qN aU6 rfl aQp
theorem bdc{K:TI→Prop}:@tyW Tryz.prog 82 ⟨K⟩=K aly:=qi aU5
theorem aHh:aly.kd=Kd.stru [(0,3),(1,69)]:=ID rfl
theorem as4:aly.kd.agg=true:=ID rfl
theorem alx:aly.size=2:=ID rfl
theorem ags:aly.bytes=32:=ID rfl
theorem aHf:qw aly=True:=eq_true rfl
theorem aHg:zc aly=[.v (Value.int IntKind.i64 0),.v (Value.slice none 0 0)]:=ID rfl
theorem aMm{K:Nat→TI→Prop}:@qA Tryz.prog 82 0 ⟨K⟩=K 0 ti3:=qs (ti:=aly) (tf:=ti3) (fo:=(0,3)) (fs:=[(0,3),(1,69)]) aU5 rfl rfl tf3
theorem aPn{K:Nat→Nat→Prop}:qt Tryz.prog [(0,3),(1,69)] 0 K=K 0 1:=qr (tf:=ti3) (fo:=(0,3)) (fs:=[(0,3),(1,69)]) rfl tf3
theorem aMl{K:Nat→TI→Prop}:@qA Tryz.prog 82 1 ⟨K⟩=K 1 afs:=qs (ti:=aly) (tf:=afs) (fo:=(1,69)) (fs:=[(0,3),(1,69)]) aU5 rfl rfl aFF
theorem aPm{K:Nat→Nat→Prop}:qt Tryz.prog [(0,3),(1,69)] 1 K=K 1 1:=qr (tf:=afs) (fo:=(1,69)) (fs:=[(0,3),(1,69)]) rfl aFF
theorem aQo:∀f∈([(0,3),(1,69)]:List (Nat×Nat)),(qo Tryz.prog f.2).isSome=true:=by
 intro f hf
 simp only[List.mem_cons,List.not_mem_nil,or_false]at hf
 rcases hf with rfl|rfl
 ·rw[tf3];rfl
 ·rw[aFF];rfl
theorem bcq{ps:List (Nat×AV)}{K:AV→Prop}:@zn Tryz.prog 82 ps ⟨K⟩=@zk (qt Tryz.prog [(0,3),(1,69)]) (zc aly) ps ⟨fun cs=>K (.ag cs)⟩:=qN aU5 rfl aQo
theorem bdb{K:TI→Prop}:@tyW Tryz.prog 84 ⟨K⟩=K aE3:=qi bei
theorem aHe:aE3.kd=Kd.oth:=ID rfl
theorem as3:aE3.kd.agg=false:=ID rfl
theorem alw:aE3.size=1:=ID rfl
theorem agr:aE3.bytes=8:=ID rfl
theorem aHc:qw aE3=True:=eq_true rfl
theorem aHd:zc aE3=[.v Value.nilFunc]:=ID rfl
theorem bda{K:TI→Prop}:@tyW Tryz.prog 86 ⟨K⟩=K aE2:=qi beh
theorem aHb:aE2.kd=Kd.oth:=ID rfl
theorem as2:aE2.kd.agg=false:=ID rfl
theorem alv:aE2.size=1:=ID rfl
theorem agq:aE2.bytes=8:=ID rfl
theorem aG9:qw aE2=True:=eq_true rfl
theorem aHa:zc aE2=[.v Value.nilFunc]:=ID rfl
theorem bc9{K:TI→Prop}:@tyW Tryz.prog 87 ⟨K⟩=K aE1:=qi beg
theorem aG8:aE1.kd=Kd.oth:=ID rfl
theorem as1:aE1.kd.agg=false:=ID rfl
theorem alu:aE1.size=1:=ID rfl
theorem agp:aE1.bytes=8:=ID rfl
theorem aG6:qw aE1=True:=eq_true rfl
theorem aG7:zc aE1=[.v Value.nilFunc]:=ID rfl
theorem bc8{K:TI→Prop}:@tyW Tryz.prog 88 ⟨K⟩=K aE0:=qi bef
theorem aG5:aE0.kd=Kd.oth:=ID rfl
theorem as0:aE0.kd.agg=false:=ID rfl
theorem alt:aE0.size=1:=ID rfl
theorem ago:aE0.bytes=8:=ID rfl
theorem aG3:qw aE0=True:=eq_true rfl
theorem aG4:zc aE0=[.v Value.nilFunc]:=ID rfl
theorem bc7{K:TI→Prop}:@tyW Tryz.prog 89 ⟨K⟩=K aEZ:=qi bee
theorem aG2:aEZ.kd=Kd.oth:=ID rfl
theorem asZ:aEZ.kd.agg=false:=ID rfl
theorem als:aEZ.size=1:=ID rfl
theorem agn:aEZ.bytes=8:=ID rfl
theorem aG0:qw aEZ=True:=eq_true rfl
theorem aG1:zc aEZ=[.v Value.nilFunc]:=ID rfl
theorem bc6{K:TI→Prop}:@tyW Tryz.prog 91 ⟨K⟩=K aEY:=qi bed
theorem aGY:aEY.kd=Kd.oth:=ID rfl
theorem asX:aEY.kd.agg=false:=ID rfl
theorem alq:aEY.size=1:=ID rfl
theorem agm:aEY.bytes=8:=ID rfl
theorem aGW:qw aEY=True:=eq_true rfl
theorem aGX:zc aEY=[.v Value.nilFunc]:=ID rfl
theorem bc5{K:TI→Prop}:@tyW Tryz.prog 92 ⟨K⟩=K aEX:=qi bec
theorem aGV:aEX.kd=Kd.oth:=ID rfl
theorem asW:aEX.kd.agg=false:=ID rfl
theorem alp:aEX.size=1:=ID rfl
theorem agl:aEX.bytes=8:=ID rfl
theorem aGT:qw aEX=True:=eq_true rfl
theorem aGU:zc aEX=[.v Value.nilFunc]:=ID rfl
theorem bc4{K:TI→Prop}:@tyW Tryz.prog 93 ⟨K⟩=K aEW:=qi beb
theorem aGS:aEW.kd=Kd.oth:=ID rfl
theorem asV:aEW.kd.agg=false:=ID rfl
theorem alo:aEW.size=1:=ID rfl
theorem agk:aEW.bytes=8:=ID rfl
theorem aGQ:qw aEW=True:=eq_true rfl
theorem aGR:zc aEW=[.v Value.nilFunc]:=ID rfl
theorem bc3{K:TI→Prop}:@tyW Tryz.prog 94 ⟨K⟩=K aEV:=qi bea
theorem aGP:aEV.kd=Kd.oth:=ID rfl
theorem asU:aEV.kd.agg=false:=ID rfl
theorem aln:aEV.size=1:=ID rfl
theorem agj:aEV.bytes=8:=ID rfl
theorem aGN:qw aEV=True:=eq_true rfl
theorem aGO:zc aEV=[.v Value.nilFunc]:=ID rfl
theorem bc2{K:TI→Prop}:@tyW Tryz.prog 96 ⟨K⟩=K aEU:=qi bd9
theorem aGM:aEU.kd=Kd.oth:=ID rfl
theorem asT:aEU.kd.agg=false:=ID rfl
theorem alm:aEU.size=1:=ID rfl
theorem agi:aEU.bytes=8:=ID rfl
theorem aGK:qw aEU=True:=eq_true rfl
theorem aGL:zc aEU=[.v Value.nilFunc]:=ID rfl
theorem bc1{K:TI→Prop}:@tyW Tryz.prog 97 ⟨K⟩=K aET:=qi bd8
theorem aGJ:aET.kd=Kd.oth:=ID rfl
theorem asS:aET.kd.agg=false:=ID rfl
theorem alk:aET.size=1:=ID rfl
theorem agh:aET.bytes=8:=ID rfl
theorem aGH:qw aET=True:=eq_true rfl
theorem aGI:zc aET=[.v Value.nilFunc]:=ID rfl
theorem bc0{K:TI→Prop}:@tyW Tryz.prog 98 ⟨K⟩=K aES:=qi bd7
theorem aGG:aES.kd=Kd.oth:=ID rfl
theorem asR:aES.kd.agg=false:=ID rfl
theorem alj:aES.size=1:=ID rfl
theorem agf:aES.bytes=8:=ID rfl
theorem aGE:qw aES=True:=eq_true rfl
theorem aGF:zc aES=[.v Value.nilFunc]:=ID rfl
theorem bcZ{K:TI→Prop}:@tyW Tryz.prog 99 ⟨K⟩=K aER:=qi bd6
theorem aGD:aER.kd=Kd.oth:=ID rfl
theorem asQ:aER.kd.agg=false:=ID rfl
theorem ali:aER.size=1:=ID rfl
theorem age:aER.bytes=8:=ID rfl
theorem aGB:qw aER=True:=eq_true rfl
theorem aGC:zc aER=[.v Value.nilFunc]:=ID rfl
theorem aXK{K:TI→Prop}:@tyW Tryz.prog 100 ⟨K⟩=K KX:=qi aZ4
theorem aBB:KX.kd=Kd.oth:=ID rfl
theorem apc:KX.kd.agg=false:=ID rfl
theorem ajO:KX.size=1:=ID rfl
theorem ad1:KX.bytes=8:=ID rfl
theorem aBz:qw KX=True:=eq_true rfl
theorem aBA:zc KX=[.v Value.nilFunc]:=ID rfl
theorem aXJ{K:TI→Prop}:@tyW Tryz.prog 101 ⟨K⟩=K KW:=qi aZ3
theorem aBy:KW.kd=Kd.oth:=ID rfl
theorem apb:KW.kd.agg=false:=ID rfl
theorem ajN:KW.size=1:=ID rfl
theorem ad0:KW.bytes=8:=ID rfl
theorem aBw:qw KW=True:=eq_true rfl
theorem aBx:zc KW=[.v Value.nilFunc]:=ID rfl
theorem aXI{K:TI→Prop}:@tyW Tryz.prog 102 ⟨K⟩=K KU:=qi aZ2
theorem aBv:KU.kd=Kd.oth:=ID rfl
theorem apa:KU.kd.agg=false:=ID rfl
theorem ajM:KU.size=1:=ID rfl
theorem adY:KU.bytes=8:=ID rfl
theorem aBt:qw KU=True:=eq_true rfl
theorem aBu:zc KU=[.v Value.nilFunc]:=ID rfl
theorem aXH{K:TI→Prop}:@tyW Tryz.prog 103 ⟨K⟩=K KT:=qi aZ1
theorem aBs:KT.kd=Kd.oth:=ID rfl
theorem ao9:KT.kd.agg=false:=ID rfl
theorem ajL:KT.size=1:=ID rfl
theorem adX:KT.bytes=8:=ID rfl
theorem aBq:qw KT=True:=eq_true rfl
theorem aBr:zc KT=[.v Value.nilFunc]:=ID rfl
theorem aXG{K:TI→Prop}:@tyW Tryz.prog 105 ⟨K⟩=K KS:=qi aZ0
theorem aBp:KS.kd=Kd.oth:=ID rfl
theorem ao8:KS.kd.agg=false:=ID rfl
theorem ajK:KS.size=1:=ID rfl
theorem adW:KS.bytes=8:=ID rfl
theorem aBn:qw KS=True:=eq_true rfl
theorem aBo:zc KS=[.v Value.nilFunc]:=ID rfl
theorem aXF{K:TI→Prop}:@tyW Tryz.prog 106 ⟨K⟩=K KR:=qi aZZ
theorem aBm:KR.kd=Kd.oth:=ID rfl
theorem ao7:KR.kd.agg=false:=ID rfl
theorem ajJ:KR.size=1:=ID rfl
theorem adV:KR.bytes=8:=ID rfl
theorem aBk:qw KR=True:=eq_true rfl
theorem aBl:zc KR=[.v Value.nilFunc]:=ID rfl
theorem aXE{K:TI→Prop}:@tyW Tryz.prog 107 ⟨K⟩=K KQ:=qi aZY
theorem aBj:KQ.kd=Kd.oth:=ID rfl
theorem ao6:KQ.kd.agg=false:=ID rfl
theorem ajI:KQ.size=1:=ID rfl
theorem adU:KQ.bytes=8:=ID rfl
theorem aBh:qw KQ=True:=eq_true rfl
theorem aBi:zc KQ=[.v Value.nilFunc]:=ID rfl
theorem aXD{K:TI→Prop}:@tyW Tryz.prog 108 ⟨K⟩=K KP:=qi aZX
theorem aBg:KP.kd=Kd.oth:=ID rfl
theorem ao5:KP.kd.agg=false:=ID rfl
theorem ajH:KP.size=1:=ID rfl
theorem adT:KP.bytes=8:=ID rfl
theorem aBe:qw KP=True:=eq_true rfl
theorem aBf:zc KP=[.v Value.nilFunc]:=ID rfl
theorem aXC{K:TI→Prop}:@tyW Tryz.prog 109 ⟨K⟩=K KO:=qi aZW
theorem aBd:KO.kd=Kd.oth:=ID rfl
theorem ao4:KO.kd.agg=false:=ID rfl
theorem ajG:KO.size=1:=ID rfl
theorem adR:KO.bytes=8:=ID rfl
theorem aBb:qw KO=True:=eq_true rfl
theorem aBc:zc KO=[.v Value.nilFunc]:=ID rfl
theorem aXB{K:TI→Prop}:@tyW Tryz.prog 110 ⟨K⟩=K KN:=qi aZV
theorem aA9:KN.kd=Kd.oth:=ID rfl
theorem ao2:KN.kd.agg=false:=ID rfl
theorem ajE:KN.size=1:=ID rfl
theorem adQ:KN.bytes=8:=ID rfl
theorem aA7:qw KN=True:=eq_true rfl
theorem aA8:zc KN=[.v Value.nilFunc]:=ID rfl
theorem aXA{K:TI→Prop}:@tyW Tryz.prog 111 ⟨K⟩=K Qb:=qi YB
theorem aA6:Qb.kd=Kd.sli 118:=ID rfl
theorem ao1:Qb.kd.agg=false:=ID rfl
theorem ajD:Qb.size=1:=ID rfl
theorem adP:Qb.bytes=24:=ID rfl
theorem aA4:qw Qb=True:=eq_true rfl
theorem aA5:zc Qb=[.v (Value.slice none 0 0)]:=ID rfl
theorem aO6{K:TI→Prop}:@y0 Tryz.prog 111 ⟨K⟩=K jh:=ZW YB rfl yo
theorem aXz{K:TI→Prop}:@tyW Tryz.prog 112 ⟨K⟩=K ZR:=qi aBK
theorem aA3:ZR.kd=Kd.stru [(0,3),(1,111)]:=ID rfl
theorem ao0:ZR.kd.agg=true:=ID rfl
theorem ajC:ZR.size=2:=ID rfl
theorem adO:ZR.bytes=32:=ID rfl
theorem aA1:qw ZR=True:=eq_true rfl
theorem aA2:zc ZR=[.v (Value.int IntKind.i64 0),.v (Value.slice none 0 0)]:=ID rfl
theorem aDH{K:Nat→TI→Prop}:@qA Tryz.prog 112 0 ⟨K⟩=K 0 ti3:=qs (ti:=ZR) (tf:=ti3) (fo:=(0,3)) (fs:=[(0,3),(1,111)]) aBK rfl rfl tf3
theorem aKS{K:Nat→Nat→Prop}:qt Tryz.prog [(0,3),(1,111)] 0 K=K 0 1:=qr (tf:=ti3) (fo:=(0,3)) (fs:=[(0,3),(1,111)]) rfl tf3
theorem aDG{K:Nat→TI→Prop}:@qA Tryz.prog 112 1 ⟨K⟩=K 1 Qb:=qs (ti:=ZR) (tf:=Qb) (fo:=(1,111)) (fs:=[(0,3),(1,111)]) aBK rfl rfl YB
theorem aKR{K:Nat→Nat→Prop}:qt Tryz.prog [(0,3),(1,111)] 1 K=K 1 1:=qr (tf:=Qb) (fo:=(1,111)) (fs:=[(0,3),(1,111)]) rfl YB
theorem aMf:∀f∈([(0,3),(1,111)]:List (Nat×Nat)),(qo Tryz.prog f.2).isSome=true:=by
 intro f hf
 simp only[List.mem_cons,List.not_mem_nil,or_false]at hf
 rcases hf with rfl|rfl
 ·rw[tf3];rfl
 ·rw[YB];rfl
theorem aUB{ps:List (Nat×AV)}{K:AV→Prop}:@zn Tryz.prog 112 ps ⟨K⟩=@zk (qt Tryz.prog [(0,3),(1,111)]) (zc ZR) ps ⟨fun cs=>K (.ag cs)⟩:=qN aBK rfl aMf
theorem aXy{K:TI→Prop}:@tyW Tryz.prog 113 ⟨K⟩=K ZQ:=qi aBJ
theorem aA0:ZQ.kd=Kd.stru [(0,3),(1,111)]:=ID rfl
theorem aoZ:ZQ.kd.agg=true:=ID rfl
theorem ajB:ZQ.size=2:=ID rfl
theorem adN:ZQ.bytes=32:=ID rfl
theorem aAY:qw ZQ=True:=eq_true rfl
theorem aAZ:zc ZQ=[.v (Value.int IntKind.i64 0),.v (Value.slice none 0 0)]:=ID rfl
theorem aDF{K:Nat→TI→Prop}:@qA Tryz.prog 113 0 ⟨K⟩=K 0 ti3:=qs (ti:=ZQ) (tf:=ti3) (fo:=(0,3)) (fs:=[(0,3),(1,111)]) aBJ rfl rfl tf3
theorem aKQ{K:Nat→Nat→Prop}:qt Tryz.prog [(0,3),(1,111)] 0 K=K 0 1:=qr (tf:=ti3) (fo:=(0,3)) (fs:=[(0,3),(1,111)]) rfl tf3
theorem aDE{K:Nat→TI→Prop}:@qA Tryz.prog 113 1 ⟨K⟩=K 1 Qb:=qs (ti:=ZQ) (tf:=Qb) (fo:=(1,111)) (fs:=[(0,3),(1,111)]) aBJ rfl rfl YB
theorem aKP{K:Nat→Nat→Prop}:qt Tryz.prog [(0,3),(1,111)] 1 K=K 1 1:=qr (tf:=Qb) (fo:=(1,111)) (fs:=[(0,3),(1,111)]) rfl YB
theorem aMe:∀f∈([(0,3),(1,111)]:List (Nat×Nat)),(qo Tryz.prog f.2).isSome=true:=by
 intro f hf
 simp only[List.mem_cons,List.not_mem_nil,or_false]at hf
 rcases hf with rfl|rfl
 ·rw[tf3];rfl
 ·rw[YB];rfl
theorem aUA{ps:List (Nat×AV)}{K:AV→Prop}:@zn Tryz.prog 113 ps ⟨K⟩=@zk (qt Tryz.prog [(0,3),(1,111)]) (zc ZQ) ps ⟨fun cs=>K (.ag cs)⟩:=qN aBJ rfl aMe
theorem aXx{K:TI→Prop}:@tyW Tryz.prog 114 ⟨K⟩=K KM:=qi aZU
theorem aAX:KM.kd=Kd.oth:=ID rfl
theorem aoY:KM.kd.agg=false:=ID rfl
theorem ajA:KM.size=1:=ID rfl
theorem adL:KM.bytes=8:=ID rfl
theorem aAV:qw KM=True:=eq_true rfl
theorem aAW:zc KM=[.v Value.nilFunc]:=ID rfl
theorem aXw{K:TI→Prop}:@tyW Tryz.prog 115 ⟨K⟩=K KL:=qi aZT
theorem aAU:KL.kd=Kd.oth:=ID rfl
theorem aoX:KL.kd.agg=false:=ID rfl
theorem ajz:KL.size=1:=ID rfl
theorem adK:KL.bytes=8:=ID rfl
theorem aAS:qw KL=True:=eq_true rfl
theorem aAT:zc KL=[.v Value.nilFunc]:=ID rfl
theorem aXv{K:TI→Prop}:@tyW Tryz.prog 116 ⟨K⟩=K KK:=qi aZS
theorem aAR:KK.kd=Kd.oth:=ID rfl
theorem aoW:KK.kd.agg=false:=ID rfl
theorem ajy:KK.size=1:=ID rfl
theorem adJ:KK.bytes=8:=ID rfl
theorem aAP:qw KK=True:=eq_true rfl
theorem aAQ:zc KK=[.v Value.nilFunc]:=ID rfl
theorem aXu{K:TI→Prop}:@tyW Tryz.prog 117 ⟨K⟩=K Zs:=qi api
theorem aAO:Zs.kd=Kd.stru [(0,4),(1,34),(2,3)]:=ID rfl
theorem aoV:Zs.kd.agg=true:=ID rfl
theorem ajx:Zs.size=3:=ID rfl
theorem adI:Zs.bytes=40:=ID rfl
theorem aAM:qw Zs=True:=eq_true rfl
theorem aAN:zc Zs=[.v (Value.bool false),.v (Value.slice none 0 0),.v (Value.int IntKind.i64 0)]:=ID rfl
theorem aDD{K:Nat→TI→Prop}:@qA Tryz.prog 117 0 ⟨K⟩=K 0 ti4:=qs (ti:=Zs) (tf:=ti4) (fo:=(0,4)) (fs:=[(0,4),(1,34),(2,3)]) api rfl rfl tf4
theorem aKO{K:Nat→Nat→Prop}:qt Tryz.prog [(0,4),(1,34),(2,3)] 0 K=K 0 1:=qr (tf:=ti4) (fo:=(0,4)) (fs:=[(0,4),(1,34),(2,3)]) rfl tf4
theorem aDC{K:Nat→TI→Prop}:@qA Tryz.prog 117 1 ⟨K⟩=K 1 JU:=qs (ti:=Zs) (tf:=JU) (fo:=(1,34)) (fs:=[(0,4),(1,34),(2,3)]) api rfl rfl afv
theorem aKN{K:Nat→Nat→Prop}:qt Tryz.prog [(0,4),(1,34),(2,3)] 1 K=K 1 1:=qr (tf:=JU) (fo:=(1,34)) (fs:=[(0,4),(1,34),(2,3)]) rfl afv
theorem aDB{K:Nat→TI→Prop}:@qA Tryz.prog 117 2 ⟨K⟩=K 2 ti3:=qs (ti:=Zs) (tf:=ti3) (fo:=(2,3)) (fs:=[(0,4),(1,34),(2,3)]) api rfl rfl tf3
theorem aKM{K:Nat→Nat→Prop}:qt Tryz.prog [(0,4),(1,34),(2,3)] 2 K=K 2 1:=qr (tf:=ti3) (fo:=(2,3)) (fs:=[(0,4),(1,34),(2,3)]) rfl tf3
theorem aMd:∀f∈([(0,4),(1,34),(2,3)]:List (Nat×Nat)),(qo Tryz.prog f.2).isSome=true:=by
 intro f hf
 simp only[List.mem_cons,List.not_mem_nil,or_false]at hf
 rcases hf with rfl|rfl|rfl
 ·rw[tf4];rfl
 ·rw[afv];rfl
 ·rw[tf3];rfl
theorem aUz{ps:List (Nat×AV)}{K:AV→Prop}:@zn Tryz.prog 117 ps ⟨K⟩=@zk (qt Tryz.prog [(0,4),(1,34),(2,3)]) (zc Zs) ps ⟨fun cs=>K (.ag cs)⟩:=qN api rfl aMd
theorem aXt{K:TI→Prop}:@tyW Tryz.prog 118 ⟨K⟩=K jh:=qi yo
theorem aAL:jh.kd=Kd.stru [(0,4),(1,34),(2,3)]:=ID rfl
theorem aoU:jh.kd.agg=true:=ID rfl
theorem ajw:jh.size=3:=ID rfl
theorem adH:jh.bytes=40:=ID rfl
theorem aAJ:qw jh=True:=eq_true rfl
theorem aAK:zc jh=[.v (Value.bool false),.v (Value.slice none 0 0),.v (Value.int IntKind.i64 0)]:=ID rfl
theorem aDA{K:Nat→TI→Prop}:@qA Tryz.prog 118 0 ⟨K⟩=K 0 ti4:=qs (ti:=jh) (tf:=ti4) (fo:=(0,4)) (fs:=[(0,4),(1,34),(2,3)]) yo rfl rfl tf4
theorem aKL{K:Nat→Nat→Prop}:qt Tryz.prog [(0,4),(1,34),(2,3)] 0 K=K 0 1:=qr (tf:=ti4) (fo:=(0,4)) (fs:=[(0,4),(1,34),(2,3)]) rfl tf4
theorem aDz{K:Nat→TI→Prop}:@qA Tryz.prog 118 1 ⟨K⟩=K 1 JU:=qs (ti:=jh) (tf:=JU) (fo:=(1,34)) (fs:=[(0,4),(1,34),(2,3)]) yo rfl rfl afv
theorem aKK{K:Nat→Nat→Prop}:qt Tryz.prog [(0,4),(1,34),(2,3)] 1 K=K 1 1:=qr (tf:=JU) (fo:=(1,34)) (fs:=[(0,4),(1,34),(2,3)]) rfl afv
theorem aDy{K:Nat→TI→Prop}:@qA Tryz.prog 118 2 ⟨K⟩=K 2 ti3:=qs (ti:=jh) (tf:=ti3) (fo:=(2,3)) (fs:=[(0,4),(1,34),(2,3)]) yo rfl rfl tf3
theorem aKJ{K:Nat→Nat→Prop}:qt Tryz.prog [(0,4),(1,34),(2,3)] 2 K=K 2 1:=qr (tf:=ti3) (fo:=(2,3)) (fs:=[(0,4),(1,34),(2,3)]) rfl tf3
theorem aMc:∀f∈([(0,4),(1,34),(2,3)]:List (Nat×Nat)),(qo Tryz.prog f.2).isSome=true:=by
 intro f hf
 simp only[List.mem_cons,List.not_mem_nil,or_false]at hf
 rcases hf with rfl|rfl|rfl
 ·rw[tf4];rfl
 ·rw[afv];rfl
 ·rw[tf3];rfl
theorem aUy{ps:List (Nat×AV)}{K:AV→Prop}:@zn Tryz.prog 118 ps ⟨K⟩=@zk (qt Tryz.prog [(0,4),(1,34),(2,3)]) (zc jh) ps ⟨fun cs=>K (.ag cs)⟩:=qN yo rfl aMc
theorem aXs{K:TI→Prop}:@tyW Tryz.prog 119 ⟨K⟩=K KJ:=qi aZR
theorem aAI:KJ.kd=Kd.oth:=ID rfl
theorem aoT:KJ.kd.agg=false:=ID rfl
theorem ajv:KJ.size=1:=ID rfl
theorem adG:KJ.bytes=8:=ID rfl
theorem aAG:qw KJ=True:=eq_true rfl
theorem aAH:zc KJ=[.v Value.nilFunc]:=ID rfl
theorem aXr{K:TI→Prop}:@tyW Tryz.prog 120 ⟨K⟩=K KI:=qi aZQ
theorem aAE:KI.kd=Kd.oth:=ID rfl
theorem aoR:KI.kd.agg=false:=ID rfl
theorem ajt:KI.size=1:=ID rfl
theorem adF:KI.bytes=8:=ID rfl
theorem aAC:qw KI=True:=eq_true rfl
theorem aAD:zc KI=[.v Value.nilFunc]:=ID rfl
theorem aXq{K:TI→Prop}:@tyW Tryz.prog 121 ⟨K⟩=K KH:=qi aZP
theorem aAB:KH.kd=Kd.oth:=ID rfl
theorem aoQ:KH.kd.agg=false:=ID rfl
theorem ajs:KH.size=1:=ID rfl
theorem adE:KH.bytes=8:=ID rfl
theorem aAz:qw KH=True:=eq_true rfl
theorem aAA:zc KH=[.v Value.nilFunc]:=ID rfl
theorem aXp{K:TI→Prop}:@tyW Tryz.prog 122 ⟨K⟩=K KG:=qi aZO
theorem aAy:KG.kd=Kd.oth:=ID rfl
theorem aoP:KG.kd.agg=false:=ID rfl
theorem ajr:KG.size=1:=ID rfl
theorem adD:KG.bytes=8:=ID rfl
theorem aAw:qw KG=True:=eq_true rfl
theorem aAx:zc KG=[.v Value.nilFunc]:=ID rfl
theorem aXo{K:TI→Prop}:@tyW Tryz.prog 123 ⟨K⟩=K KF:=qi aZN
theorem aAv:KF.kd=Kd.oth:=ID rfl
theorem aoO:KF.kd.agg=false:=ID rfl
theorem ajq:KF.size=1:=ID rfl
theorem adC:KF.bytes=8:=ID rfl
theorem aAt:qw KF=True:=eq_true rfl
theorem aAu:zc KF=[.v Value.nilFunc]:=ID rfl
theorem aXn{K:TI→Prop}:@tyW Tryz.prog 124 ⟨K⟩=K KE:=qi aZM
theorem aAs:KE.kd=Kd.oth:=ID rfl
theorem aoN:KE.kd.agg=false:=ID rfl
theorem ajp:KE.size=1:=ID rfl
theorem adB:KE.bytes=8:=ID rfl
theorem aAq:qw KE=True:=eq_true rfl
theorem aAr:zc KE=[.v Value.nilFunc]:=ID rfl
theorem aXm{K:TI→Prop}:@tyW Tryz.prog 125 ⟨K⟩=K KD:=qi aZL
theorem aAp:KD.kd=Kd.oth:=ID rfl
theorem aoM:KD.kd.agg=false:=ID rfl
theorem ajo:KD.size=1:=ID rfl
theorem adA:KD.bytes=8:=ID rfl
theorem aAn:qw KD=True:=eq_true rfl
theorem aAo:zc KD=[.v Value.nilFunc]:=ID rfl
theorem aXl{K:TI→Prop}:@tyW Tryz.prog 126 ⟨K⟩=K KC:=qi aZK
theorem aAm:KC.kd=Kd.oth:=ID rfl
theorem aoL:KC.kd.agg=false:=ID rfl
theorem ajn:KC.size=1:=ID rfl
theorem adz:KC.bytes=8:=ID rfl
theorem aAk:qw KC=True:=eq_true rfl
theorem aAl:zc KC=[.v Value.nilFunc]:=ID rfl
theorem aXk{K:TI→Prop}:@tyW Tryz.prog 127 ⟨K⟩=K KB:=qi aZJ
theorem aAj:KB.kd=Kd.oth:=ID rfl
theorem aoK:KB.kd.agg=false:=ID rfl
theorem ajm:KB.size=1:=ID rfl
theorem ady:KB.bytes=8:=ID rfl
theorem aAh:qw KB=True:=eq_true rfl
theorem aAi:zc KB=[.v Value.nilFunc]:=ID rfl
theorem aXj{K:TI→Prop}:@tyW Tryz.prog 128 ⟨K⟩=K KA:=qi aZI
theorem aAg:KA.kd=Kd.oth:=ID rfl
theorem aoJ:KA.kd.agg=false:=ID rfl
theorem ajl:KA.size=1:=ID rfl
theorem adx:KA.bytes=8:=ID rfl
theorem aAe:qw KA=True:=eq_true rfl
theorem aAf:zc KA=[.v Value.nilFunc]:=ID rfl
theorem aXi{K:TI→Prop}:@tyW Tryz.prog 129 ⟨K⟩=K Kw:=qi aZH
theorem aAd:Kw.kd=Kd.oth:=ID rfl
theorem aoI:Kw.kd.agg=false:=ID rfl
theorem ajk:Kw.size=1:=ID rfl
theorem adw:Kw.bytes=8:=ID rfl
theorem aAb:qw Kw=True:=eq_true rfl
theorem aAc:zc Kw=[.v Value.nilFunc]:=ID rfl
theorem aXh{K:TI→Prop}:@tyW Tryz.prog 130 ⟨K⟩=K Kv:=qi aZG
theorem az9:Kv.kd=Kd.oth:=ID rfl
theorem aoG:Kv.kd.agg=false:=ID rfl
theorem aji:Kv.size=1:=ID rfl
theorem adv:Kv.bytes=8:=ID rfl
theorem az7:qw Kv=True:=eq_true rfl
theorem az8:zc Kv=[.v Value.nilFunc]:=ID rfl
theorem aXg{K:TI→Prop}:@tyW Tryz.prog 131 ⟨K⟩=K Ku:=qi aZF
theorem az6:Ku.kd=Kd.oth:=ID rfl
theorem aoF:Ku.kd.agg=false:=ID rfl
theorem ajh:Ku.size=1:=ID rfl
theorem adu:Ku.bytes=8:=ID rfl
theorem az4:qw Ku=True:=eq_true rfl
theorem az5:zc Ku=[.v Value.nilFunc]:=ID rfl
theorem aXf{K:TI→Prop}:@tyW Tryz.prog 132 ⟨K⟩=K ZP:=qi aBI
theorem az3:ZP.kd=Kd.stru [(0,118),(3,118)]:=ID rfl
theorem aoE:ZP.kd.agg=true:=ID rfl
theorem ajg:ZP.size=6:=ID rfl
theorem adt:ZP.bytes=80:=ID rfl
theorem az1:qw ZP=True:=eq_true rfl
theorem az2:zc ZP=[.v (Value.bool false),.v (Value.slice none 0 0),.v (Value.int IntKind.i64 0),.v (Value.bool false),.v (Value.slice none 0 0),.v (Value.int IntKind.i64 0)]:=ID rfl
theorem aDx{K:Nat→TI→Prop}:@qA Tryz.prog 132 0 ⟨K⟩=K 0 jh:=qs (ti:=ZP) (tf:=jh) (fo:=(0,118)) (fs:=[(0,118),(3,118)]) aBI rfl rfl yo
theorem aKI{K:Nat→Nat→Prop}:qt Tryz.prog [(0,118),(3,118)] 0 K=K 0 3:=qr (tf:=jh) (fo:=(0,118)) (fs:=[(0,118),(3,118)]) rfl yo
theorem aDw{K:Nat→TI→Prop}:@qA Tryz.prog 132 1 ⟨K⟩=K 3 jh:=qs (ti:=ZP) (tf:=jh) (fo:=(3,118)) (fs:=[(0,118),(3,118)]) aBI rfl rfl yo
theorem aKH{K:Nat→Nat→Prop}:qt Tryz.prog [(0,118),(3,118)] 1 K=K 3 3:=qr (tf:=jh) (fo:=(3,118)) (fs:=[(0,118),(3,118)]) rfl yo
theorem aMb:∀f∈([(0,118),(3,118)]:List (Nat×Nat)),(qo Tryz.prog f.2).isSome=true:=by
 intro f hf
 simp only[List.mem_cons,List.not_mem_nil,or_false]at hf
 rcases hf with rfl|rfl
 ·rw[yo];rfl
 ·rw[yo];rfl
theorem aUx{ps:List (Nat×AV)}{K:AV→Prop}:@zn Tryz.prog 132 ps ⟨K⟩=@zk (qt Tryz.prog [(0,118),(3,118)]) (zc ZP) ps ⟨fun cs=>K (.ag cs)⟩:=qN aBI rfl aMb
theorem aXe{K:TI→Prop}:@tyW Tryz.prog 133 ⟨K⟩=K Zr:=qi aph
theorem az0:Zr.kd=Kd.stru [(0,118),(3,118)]:=ID rfl
theorem aoD:Zr.kd.agg=true:=ID rfl
theorem ajf:Zr.size=6:=ID rfl
theorem ads:Zr.bytes=80:=ID rfl
theorem azY:qw Zr=True:=eq_true rfl
theorem azZ:zc Zr=[.v (Value.bool false),.v (Value.slice none 0 0),.v (Value.int IntKind.i64 0),.v (Value.bool false),.v (Value.slice none 0 0),.v (Value.int IntKind.i64 0)]:=ID rfl
theorem aDv{K:Nat→TI→Prop}:@qA Tryz.prog 133 0 ⟨K⟩=K 0 jh:=qs (ti:=Zr) (tf:=jh) (fo:=(0,118)) (fs:=[(0,118),(3,118)]) aph rfl rfl yo
theorem aKG{K:Nat→Nat→Prop}:qt Tryz.prog [(0,118),(3,118)] 0 K=K 0 3:=qr (tf:=jh) (fo:=(0,118)) (fs:=[(0,118),(3,118)]) rfl yo
theorem aDu{K:Nat→TI→Prop}:@qA Tryz.prog 133 1 ⟨K⟩=K 3 jh:=qs (ti:=Zr) (tf:=jh) (fo:=(3,118)) (fs:=[(0,118),(3,118)]) aph rfl rfl yo
theorem aKF{K:Nat→Nat→Prop}:qt Tryz.prog [(0,118),(3,118)] 1 K=K 3 3:=qr (tf:=jh) (fo:=(3,118)) (fs:=[(0,118),(3,118)]) rfl yo
theorem aMa:∀f∈([(0,118),(3,118)]:List (Nat×Nat)),(qo Tryz.prog f.2).isSome=true:=by
 intro f hf
 simp only[List.mem_cons,List.not_mem_nil,or_false]at hf
 rcases hf with rfl|rfl
 ·rw[yo];rfl
 ·rw[yo];rfl
theorem aUw{ps:List (Nat×AV)}{K:AV→Prop}:@zn Tryz.prog 133 ps ⟨K⟩=@zk (qt Tryz.prog [(0,118),(3,118)]) (zc Zr) ps ⟨fun cs=>K (.ag cs)⟩:=qN aph rfl aMa
theorem aXd{K:TI→Prop}:@tyW Tryz.prog 134 ⟨K⟩=K Kt:=qi aZE
theorem azX:Kt.kd=Kd.oth:=ID rfl
theorem aoC:Kt.kd.agg=false:=ID rfl
theorem aje:Kt.size=1:=ID rfl
theorem adr:Kt.bytes=8:=ID rfl
theorem azV:qw Kt=True:=eq_true rfl
theorem azW:zc Kt=[.v Value.nilFunc]:=ID rfl
theorem aXc{K:TI→Prop}:@tyW Tryz.prog 135 ⟨K⟩=K Ks:=qi aZD
theorem azU:Ks.kd=Kd.oth:=ID rfl
theorem aoB:Ks.kd.agg=false:=ID rfl
theorem ajd:Ks.size=1:=ID rfl
theorem adq:Ks.bytes=8:=ID rfl
theorem azS:qw Ks=True:=eq_true rfl
theorem azT:zc Ks=[.v Value.nilFunc]:=ID rfl
theorem aXb{K:TI→Prop}:@tyW Tryz.prog 136 ⟨K⟩=K Kr:=qi aZC
theorem azR:Kr.kd=Kd.oth:=ID rfl
theorem aoA:Kr.kd.agg=false:=ID rfl
theorem ajc:Kr.size=1:=ID rfl
theorem adp:Kr.bytes=8:=ID rfl
theorem azP:qw Kr=True:=eq_true rfl
theorem azQ:zc Kr=[.v Value.nilFunc]:=ID rfl
theorem aXa{K:TI→Prop}:@tyW Tryz.prog 137 ⟨K⟩=K Kq:=qi aZB
theorem azO:Kq.kd=Kd.oth:=ID rfl
theorem aoz:Kq.kd.agg=false:=ID rfl
theorem ajb:Kq.size=1:=ID rfl
theorem ado:Kq.bytes=8:=ID rfl
theorem azM:qw Kq=True:=eq_true rfl
theorem azN:zc Kq=[.v Value.nilFunc]:=ID rfl
theorem aW9{K:TI→Prop}:@tyW Tryz.prog 138 ⟨K⟩=K Kp:=qi aZA
theorem azL:Kp.kd=Kd.oth:=ID rfl
theorem aoy:Kp.kd.agg=false:=ID rfl
theorem aja:Kp.size=1:=ID rfl
theorem adn:Kp.bytes=8:=ID rfl
theorem azJ:qw Kp=True:=eq_true rfl
theorem azK:zc Kp=[.v Value.nilFunc]:=ID rfl
theorem aW8{K:TI→Prop}:@tyW Tryz.prog 139 ⟨K⟩=K Ko:=qi aZz
theorem azI:Ko.kd=Kd.oth:=ID rfl
theorem aox:Ko.kd.agg=false:=ID rfl
theorem ai9:Ko.size=1:=ID rfl
theorem adm:Ko.bytes=8:=ID rfl
theorem azG:qw Ko=True:=eq_true rfl
theorem azH:zc Ko=[.v Value.nilFunc]:=ID rfl
theorem aW7{K:TI→Prop}:@tyW Tryz.prog 140 ⟨K⟩=K Kn:=qi aZy
theorem azF:Kn.kd=Kd.oth:=ID rfl
theorem aow:Kn.kd.agg=false:=ID rfl
theorem ai8:Kn.size=1:=ID rfl
theorem adl:Kn.bytes=8:=ID rfl
theorem azD:qw Kn=True:=eq_true rfl
theorem azE:zc Kn=[.v Value.nilFunc]:=ID rfl
theorem aW6{K:TI→Prop}:@tyW Tryz.prog 142 ⟨K⟩=K Km:=qi aZx
theorem azC:Km.kd=Kd.oth:=ID rfl
theorem aov:Km.kd.agg=false:=ID rfl
theorem ai7:Km.size=1:=ID rfl
theorem adk:Km.bytes=8:=ID rfl
theorem azA:qw Km=True:=eq_true rfl
theorem azB:zc Km=[.v Value.nilFunc]:=ID rfl
theorem aW5{K:TI→Prop}:@tyW Tryz.prog 143 ⟨K⟩=K Kl:=qi aZw
theorem azz:Kl.kd=Kd.oth:=ID rfl
theorem aou:Kl.kd.agg=false:=ID rfl
theorem ai6:Kl.size=1:=ID rfl
theorem adj:Kl.bytes=8:=ID rfl
theorem azx:qw Kl=True:=eq_true rfl
theorem azy:zc Kl=[.v Value.nilFunc]:=ID rfl
theorem aW4{K:TI→Prop}:@tyW Tryz.prog 144 ⟨K⟩=K Kk:=qi aZv
theorem azw:Kk.kd=Kd.oth:=ID rfl
theorem aot:Kk.kd.agg=false:=ID rfl
theorem ai5:Kk.size=1:=ID rfl
theorem adi:Kk.bytes=8:=ID rfl
theorem azu:qw Kk=True:=eq_true rfl
theorem azv:zc Kk=[.v Value.nilFunc]:=ID rfl
theorem aW3{K:TI→Prop}:@tyW Tryz.prog 145 ⟨K⟩=K Kj:=qi aZu
theorem azt:Kj.kd=Kd.oth:=ID rfl
theorem aos:Kj.kd.agg=false:=ID rfl
theorem ai4:Kj.size=1:=ID rfl
theorem adh:Kj.bytes=8:=ID rfl
theorem azr:qw Kj=True:=eq_true rfl
theorem azs:zc Kj=[.v Value.nilFunc]:=ID rfl
theorem aW2{K:TI→Prop}:@tyW Tryz.prog 146 ⟨K⟩=K Ki:=qi aZt
theorem azq:Ki.kd=Kd.oth:=ID rfl
theorem aor:Ki.kd.agg=false:=ID rfl
theorem ai3:Ki.size=1:=ID rfl
theorem adg:Ki.bytes=8:=ID rfl
theorem azo:qw Ki=True:=eq_true rfl
theorem azp:zc Ki=[.v Value.nilFunc]:=ID rfl
theorem aW1{K:TI→Prop}:@tyW Tryz.prog 147 ⟨K⟩=K Kh:=qi aZs
theorem azn:Kh.kd=Kd.oth:=ID rfl
theorem aoq:Kh.kd.agg=false:=ID rfl
theorem ai2:Kh.size=1:=ID rfl
theorem adf:Kh.bytes=8:=ID rfl
theorem azl:qw Kh=True:=eq_true rfl
theorem azm:zc Kh=[.v Value.nilFunc]:=ID rfl
theorem aW0{K:TI→Prop}:@tyW Tryz.prog 148 ⟨K⟩=K Kg:=qi aZr
theorem azk:Kg.kd=Kd.oth:=ID rfl
theorem aop:Kg.kd.agg=false:=ID rfl
theorem ai1:Kg.size=1:=ID rfl
theorem ade:Kg.bytes=8:=ID rfl
theorem azi:qw Kg=True:=eq_true rfl
theorem azj:zc Kg=[.v Value.nilFunc]:=ID rfl
theorem aWZ{K:TI→Prop}:@tyW Tryz.prog 149 ⟨K⟩=K Kf:=qi aZq
theorem azh:Kf.kd=Kd.oth:=ID rfl
theorem aoo:Kf.kd.agg=false:=ID rfl
theorem ai0:Kf.size=1:=ID rfl
theorem adc:Kf.bytes=8:=ID rfl
theorem azf:qw Kf=True:=eq_true rfl
theorem azg:zc Kf=[.v Value.nilFunc]:=ID rfl
theorem aWY{K:TI→Prop}:@tyW Tryz.prog 151 ⟨K⟩=K Ke:=qi aZp
theorem aze:Ke.kd=Kd.oth:=ID rfl
theorem aon:Ke.kd.agg=false:=ID rfl
theorem aiZ:Ke.size=1:=ID rfl
theorem adb:Ke.bytes=8:=ID rfl
theorem azc:qw Ke=True:=eq_true rfl
theorem azd:zc Ke=[.v Value.nilFunc]:=ID rfl
theorem aWX{K:TI→Prop}:@tyW Tryz.prog 152 ⟨K⟩=K Kc:=qi aZo
theorem azb:Kc.kd=Kd.oth:=ID rfl
theorem aom:Kc.kd.agg=false:=ID rfl
theorem aiY:Kc.size=1:=ID rfl
theorem ada:Kc.bytes=8:=ID rfl
theorem ay9:qw Kc=True:=eq_true rfl
theorem aza:zc Kc=[.v Value.nilFunc]:=ID rfl
theorem aWW{K:TI→Prop}:@tyW Tryz.prog 153 ⟨K⟩=K Qm:=qi K1
theorem ay8:Qm.kd=Kd.sli 133:=ID rfl
theorem aol:Qm.kd.agg=false:=ID rfl
theorem aiX:Qm.size=1:=ID rfl
theorem ac9:Qm.bytes=24:=ID rfl
theorem ay6:qw Qm=True:=eq_true rfl
theorem ay7:zc Qm=[.v (Value.slice none 0 0)]:=ID rfl
theorem aO5{K:TI→Prop}:@y0 Tryz.prog 153 ⟨K⟩=K Zr:=ZW K1 rfl aph
theorem aWV{K:TI→Prop}:@tyW Tryz.prog 154 ⟨K⟩=K ZO:=qi aBH
theorem ay5:ZO.kd=Kd.stru [(0,3),(1,153)]:=ID rfl
theorem aok:ZO.kd.agg=true:=ID rfl
theorem aiW:ZO.size=2:=ID rfl
theorem ac8:ZO.bytes=32:=ID rfl
theorem ay3:qw ZO=True:=eq_true rfl
theorem ay4:zc ZO=[.v (Value.int IntKind.i64 0),.v (Value.slice none 0 0)]:=ID rfl
theorem aDt{K:Nat→TI→Prop}:@qA Tryz.prog 154 0 ⟨K⟩=K 0 ti3:=qs (ti:=ZO) (tf:=ti3) (fo:=(0,3)) (fs:=[(0,3),(1,153)]) aBH rfl rfl tf3
theorem aKE{K:Nat→Nat→Prop}:qt Tryz.prog [(0,3),(1,153)] 0 K=K 0 1:=qr (tf:=ti3) (fo:=(0,3)) (fs:=[(0,3),(1,153)]) rfl tf3
theorem aDs{K:Nat→TI→Prop}:@qA Tryz.prog 154 1 ⟨K⟩=K 1 Qm:=qs (ti:=ZO) (tf:=Qm) (fo:=(1,153)) (fs:=[(0,3),(1,153)]) aBH rfl rfl K1
theorem aKD{K:Nat→Nat→Prop}:qt Tryz.prog [(0,3),(1,153)] 1 K=K 1 1:=qr (tf:=Qm) (fo:=(1,153)) (fs:=[(0,3),(1,153)]) rfl K1
theorem aL9:∀f∈([(0,3),(1,153)]:List (Nat×Nat)),(qo Tryz.prog f.2).isSome=true:=by
 intro f hf
 simp only[List.mem_cons,List.not_mem_nil,or_false]at hf
 rcases hf with rfl|rfl
 ·rw[tf3];rfl
 ·rw[K1];rfl
theorem aUv{ps:List (Nat×AV)}{K:AV→Prop}:@zn Tryz.prog 154 ps ⟨K⟩=@zk (qt Tryz.prog [(0,3),(1,153)]) (zc ZO) ps ⟨fun cs=>K (.ag cs)⟩:=qN aBH rfl aL9
theorem aWU{K:TI→Prop}:@tyW Tryz.prog 155 ⟨K⟩=K ZN:=qi aBG
theorem ay2:ZN.kd=Kd.stru [(0,3),(1,153)]:=ID rfl
theorem aoj:ZN.kd.agg=true:=ID rfl
theorem aiV:ZN.size=2:=ID rfl
theorem ac7:ZN.bytes=32:=ID rfl
theorem ay0:qw ZN=True:=eq_true rfl
theorem ay1:zc ZN=[.v (Value.int IntKind.i64 0),.v (Value.slice none 0 0)]:=ID rfl
theorem aDr{K:Nat→TI→Prop}:@qA Tryz.prog 155 0 ⟨K⟩=K 0 ti3:=qs (ti:=ZN) (tf:=ti3) (fo:=(0,3)) (fs:=[(0,3),(1,153)]) aBG rfl rfl tf3
theorem aKC{K:Nat→Nat→Prop}:qt Tryz.prog [(0,3),(1,153)] 0 K=K 0 1:=qr (tf:=ti3) (fo:=(0,3)) (fs:=[(0,3),(1,153)]) rfl tf3
theorem aDq{K:Nat→TI→Prop}:@qA Tryz.prog 155 1 ⟨K⟩=K 1 Qm:=qs (ti:=ZN) (tf:=Qm) (fo:=(1,153)) (fs:=[(0,3),(1,153)]) aBG rfl rfl K1
theorem aKB{K:Nat→Nat→Prop}:qt Tryz.prog [(0,3),(1,153)] 1 K=K 1 1:=qr (tf:=Qm) (fo:=(1,153)) (fs:=[(0,3),(1,153)]) rfl K1
theorem aL8:∀f∈([(0,3),(1,153)]:List (Nat×Nat)),(qo Tryz.prog f.2).isSome=true:=by
 intro f hf
 simp only[List.mem_cons,List.not_mem_nil,or_false]at hf
 rcases hf with rfl|rfl
 ·rw[tf3];rfl
 ·rw[K1];rfl
theorem aUu{ps:List (Nat×AV)}{K:AV→Prop}:@zn Tryz.prog 155 ps ⟨K⟩=@zk (qt Tryz.prog [(0,3),(1,153)]) (zc ZN) ps ⟨fun cs=>K (.ag cs)⟩:=qN aBG rfl aL8
theorem aWT{K:TI→Prop}:@tyW Tryz.prog 156 ⟨K⟩=K Kb:=qi aZn
theorem ayZ:Kb.kd=Kd.oth:=ID rfl
theorem aoi:Kb.kd.agg=false:=ID rfl
theorem aiU:Kb.size=1:=ID rfl
theorem ac6:Kb.bytes=8:=ID rfl
theorem ayX:qw Kb=True:=eq_true rfl
theorem ayY:zc Kb=[.v Value.nilFunc]:=ID rfl
theorem aWS{K:TI→Prop}:@tyW Tryz.prog 157 ⟨K⟩=K Ka:=qi aZm
theorem ayW:Ka.kd=Kd.oth:=ID rfl
theorem aoh:Ka.kd.agg=false:=ID rfl
theorem aiT:Ka.size=1:=ID rfl
theorem ac5:Ka.bytes=8:=ID rfl
theorem ayU:qw Ka=True:=eq_true rfl
theorem ayV:zc Ka=[.v Value.nilFunc]:=ID rfl
theorem aWR{K:TI→Prop}:@tyW Tryz.prog 158 ⟨K⟩=K V9:=qi aZl
theorem ayT:V9.kd=Kd.oth:=ID rfl
theorem aog:V9.kd.agg=false:=ID rfl
theorem aiS:V9.size=1:=ID rfl
theorem ac4:V9.bytes=8:=ID rfl
theorem ayR:qw V9=True:=eq_true rfl
theorem ayS:zc V9=[.v Value.nilFunc]:=ID rfl
theorem aWQ{K:TI→Prop}:@tyW Tryz.prog 159 ⟨K⟩=K V8:=qi aZk
theorem ayQ:V8.kd=Kd.oth:=ID rfl
theorem aof:V8.kd.agg=false:=ID rfl
theorem aiR:V8.size=1:=ID rfl
theorem ac3:V8.bytes=8:=ID rfl
theorem ayO:qw V8=True:=eq_true rfl
theorem ayP:zc V8=[.v Value.nilFunc]:=ID rfl
theorem aWP{K:TI→Prop}:@tyW Tryz.prog 160 ⟨K⟩=K V7:=qi aZj
theorem ayN:V7.kd=Kd.oth:=ID rfl
theorem aoe:V7.kd.agg=false:=ID rfl
theorem aiQ:V7.size=1:=ID rfl
theorem ac2:V7.bytes=8:=ID rfl
theorem ayL:qw V7=True:=eq_true rfl
theorem ayM:zc V7=[.v Value.nilFunc]:=ID rfl
theorem aWO{K:TI→Prop}:@tyW Tryz.prog 161 ⟨K⟩=K V6:=qi aZi
theorem ayK:V6.kd=Kd.oth:=ID rfl
theorem aod:V6.kd.agg=false:=ID rfl
theorem aiP:V6.size=1:=ID rfl
theorem ac1:V6.bytes=8:=ID rfl
theorem ayI:qw V6=True:=eq_true rfl
theorem ayJ:zc V6=[.v Value.nilFunc]:=ID rfl
theorem aWN{K:TI→Prop}:@tyW Tryz.prog 163 ⟨K⟩=K V5:=qi aZh
theorem ayH:V5.kd=Kd.oth:=ID rfl
theorem aoc:V5.kd.agg=false:=ID rfl
theorem aiO:V5.size=1:=ID rfl
theorem ac0:V5.bytes=8:=ID rfl
theorem ayF:qw V5=True:=eq_true rfl
theorem ayG:zc V5=[.v Value.nilFunc]:=ID rfl
theorem aWM{K:TI→Prop}:@tyW Tryz.prog 164 ⟨K⟩=K V4:=qi aZg
theorem ayE:V4.kd=Kd.oth:=ID rfl
theorem aob:V4.kd.agg=false:=ID rfl
theorem aiN:V4.size=1:=ID rfl
theorem acZ:V4.bytes=8:=ID rfl
theorem ayC:qw V4=True:=eq_true rfl
theorem ayD:zc V4=[.v Value.nilFunc]:=ID rfl
theorem aWL{K:TI→Prop}:@tyW Tryz.prog 165 ⟨K⟩=K V3:=qi aZf
theorem ayB:V3.kd=Kd.oth:=ID rfl
theorem aoa:V3.kd.agg=false:=ID rfl
theorem aiM:V3.size=1:=ID rfl
theorem acY:V3.bytes=8:=ID rfl
theorem ayz:qw V3=True:=eq_true rfl
theorem ayA:zc V3=[.v Value.nilFunc]:=ID rfl
theorem aWK{K:TI→Prop}:@tyW Tryz.prog 166 ⟨K⟩=K V2:=qi aZe
theorem ayy:V2.kd=Kd.oth:=ID rfl
theorem an9:V2.kd.agg=false:=ID rfl
theorem aiL:V2.size=1:=ID rfl
theorem acX:V2.bytes=8:=ID rfl
theorem ayw:qw V2=True:=eq_true rfl
theorem ayx:zc V2=[.v Value.nilFunc]:=ID rfl
theorem aWJ{K:TI→Prop}:@tyW Tryz.prog 167 ⟨K⟩=K V1:=qi aZd
theorem ayv:V1.kd=Kd.oth:=ID rfl
theorem an8:V1.kd.agg=false:=ID rfl
theorem aiK:V1.size=1:=ID rfl
theorem acW:V1.bytes=8:=ID rfl
theorem ayt:qw V1=True:=eq_true rfl
theorem ayu:zc V1=[.v Value.nilFunc]:=ID rfl
theorem aWI{K:TI→Prop}:@tyW Tryz.prog 168 ⟨K⟩=K V0:=qi aZc
theorem ays:V0.kd=Kd.oth:=ID rfl
theorem an7:V0.kd.agg=false:=ID rfl
theorem aiJ:V0.size=1:=ID rfl
theorem acV:V0.bytes=8:=ID rfl
theorem ayq:qw V0=True:=eq_true rfl
theorem ayr:zc V0=[.v Value.nilFunc]:=ID rfl
theorem aWH{K:TI→Prop}:@tyW Tryz.prog 169 ⟨K⟩=K VZ:=qi aZb
theorem ayp:VZ.kd=Kd.oth:=ID rfl
theorem an6:VZ.kd.agg=false:=ID rfl
theorem aiI:VZ.size=1:=ID rfl
theorem acU:VZ.bytes=8:=ID rfl
theorem ayn:qw VZ=True:=eq_true rfl
theorem ayo:zc VZ=[.v Value.nilFunc]:=ID rfl
theorem aWG{K:TI→Prop}:@tyW Tryz.prog 170 ⟨K⟩=K VY:=qi aZa
theorem aym:VY.kd=Kd.oth:=ID rfl
theorem an5:VY.kd.agg=false:=ID rfl
theorem aiH:VY.size=1:=ID rfl
theorem acT:VY.bytes=8:=ID rfl
theorem ayk:qw VY=True:=eq_true rfl
theorem ayl:zc VY=[.v Value.nilFunc]:=ID rfl
theorem aWF{K:TI→Prop}:@tyW Tryz.prog 171 ⟨K⟩=K VX:=qi aY9
theorem ayj:VX.kd=Kd.oth:=ID rfl
theorem an4:VX.kd.agg=false:=ID rfl
theorem aiG:VX.size=1:=ID rfl
theorem acS:VX.bytes=8:=ID rfl
theorem ayh:qw VX=True:=eq_true rfl
theorem ayi:zc VX=[.v Value.nilFunc]:=ID rfl
theorem aWE{K:TI→Prop}:@tyW Tryz.prog 173 ⟨K⟩=K VW:=qi aY8
theorem ayg:VW.kd=Kd.oth:=ID rfl
theorem an3:VW.kd.agg=false:=ID rfl
theorem aiF:VW.size=1:=ID rfl
theorem acR:VW.bytes=8:=ID rfl
theorem aye:qw VW=True:=eq_true rfl
theorem ayf:zc VW=[.v Value.nilFunc]:=ID rfl
theorem aWD{K:TI→Prop}:@tyW Tryz.prog 174 ⟨K⟩=K Zq:=qi apg
theorem ayd:Zq.kd=Kd.stru [(0,22),(1,3),(2,3)]:=ID rfl
theorem an2:Zq.kd.agg=true:=ID rfl
theorem aiE:Zq.size=3:=ID rfl
theorem acQ:Zq.bytes=40:=ID rfl
theorem ayb:qw Zq=True:=eq_true rfl
theorem ayc:zc Zq=[.v (Value.slice none 0 0),.v (Value.int IntKind.i64 0),.v (Value.int IntKind.i64 0)]:=ID rfl
theorem aDp{K:Nat→TI→Prop}:@qA Tryz.prog 174 0 ⟨K⟩=K 0 afu:=qs (ti:=Zq) (tf:=afu) (fo:=(0,22)) (fs:=[(0,22),(1,3),(2,3)]) apg rfl rfl aFH
theorem aKA{K:Nat→Nat→Prop}:qt Tryz.prog [(0,22),(1,3),(2,3)] 0 K=K 0 1:=qr (tf:=afu) (fo:=(0,22)) (fs:=[(0,22),(1,3),(2,3)]) rfl aFH
theorem aDo{K:Nat→TI→Prop}:@qA Tryz.prog 174 1 ⟨K⟩=K 1 ti3:=qs (ti:=Zq) (tf:=ti3) (fo:=(1,3)) (fs:=[(0,22),(1,3),(2,3)]) apg rfl rfl tf3
theorem aKz{K:Nat→Nat→Prop}:qt Tryz.prog [(0,22),(1,3),(2,3)] 1 K=K 1 1:=qr (tf:=ti3) (fo:=(1,3)) (fs:=[(0,22),(1,3),(2,3)]) rfl tf3
theorem aDn{K:Nat→TI→Prop}:@qA Tryz.prog 174 2 ⟨K⟩=K 2 ti3:=qs (ti:=Zq) (tf:=ti3) (fo:=(2,3)) (fs:=[(0,22),(1,3),(2,3)]) apg rfl rfl tf3
theorem aKy{K:Nat→Nat→Prop}:qt Tryz.prog [(0,22),(1,3),(2,3)] 2 K=K 2 1:=qr (tf:=ti3) (fo:=(2,3)) (fs:=[(0,22),(1,3),(2,3)]) rfl tf3
theorem aL7:∀f∈([(0,22),(1,3),(2,3)]:List (Nat×Nat)),(qo Tryz.prog f.2).isSome=true:=by
 intro f hf
 simp only[List.mem_cons,List.not_mem_nil,or_false]at hf
 rcases hf with rfl|rfl|rfl
 ·rw[aFH];rfl
 ·rw[tf3];rfl
 ·rw[tf3];rfl
theorem aUt{ps:List (Nat×AV)}{K:AV→Prop}:@zn Tryz.prog 174 ps ⟨K⟩=@zk (qt Tryz.prog [(0,22),(1,3),(2,3)]) (zc Zq) ps ⟨fun cs=>K (.ag cs)⟩:=qN apg rfl aL7
theorem aWC{K:TI→Prop}:@tyW Tryz.prog 175 ⟨K⟩=K Zp:=qi apf
theorem aya:Zp.kd=Kd.stru [(0,22),(1,3),(2,3)]:=ID rfl
theorem an1:Zp.kd.agg=true:=ID rfl
theorem aiD:Zp.size=3:=ID rfl
theorem acP:Zp.bytes=40:=ID rfl
theorem ax8:qw Zp=True:=eq_true rfl
theorem ax9:zc Zp=[.v (Value.slice none 0 0),.v (Value.int IntKind.i64 0),.v (Value.int IntKind.i64 0)]:=ID rfl
theorem aDm{K:Nat→TI→Prop}:@qA Tryz.prog 175 0 ⟨K⟩=K 0 afu:=qs (ti:=Zp) (tf:=afu) (fo:=(0,22)) (fs:=[(0,22),(1,3),(2,3)]) apf rfl rfl aFH
theorem aKx{K:Nat→Nat→Prop}:qt Tryz.prog [(0,22),(1,3),(2,3)] 0 K=K 0 1:=qr (tf:=afu) (fo:=(0,22)) (fs:=[(0,22),(1,3),(2,3)]) rfl aFH
theorem aDl{K:Nat→TI→Prop}:@qA Tryz.prog 175 1 ⟨K⟩=K 1 ti3:=qs (ti:=Zp) (tf:=ti3) (fo:=(1,3)) (fs:=[(0,22),(1,3),(2,3)]) apf rfl rfl tf3
theorem aKw{K:Nat→Nat→Prop}:qt Tryz.prog [(0,22),(1,3),(2,3)] 1 K=K 1 1:=qr (tf:=ti3) (fo:=(1,3)) (fs:=[(0,22),(1,3),(2,3)]) rfl tf3
theorem aDk{K:Nat→TI→Prop}:@qA Tryz.prog 175 2 ⟨K⟩=K 2 ti3:=qs (ti:=Zp) (tf:=ti3) (fo:=(2,3)) (fs:=[(0,22),(1,3),(2,3)]) apf rfl rfl tf3
theorem aKv{K:Nat→Nat→Prop}:qt Tryz.prog [(0,22),(1,3),(2,3)] 2 K=K 2 1:=qr (tf:=ti3) (fo:=(2,3)) (fs:=[(0,22),(1,3),(2,3)]) rfl tf3
theorem aL6:∀f∈([(0,22),(1,3),(2,3)]:List (Nat×Nat)),(qo Tryz.prog f.2).isSome=true:=by
 intro f hf
 simp only[List.mem_cons,List.not_mem_nil,or_false]at hf
 rcases hf with rfl|rfl|rfl
 ·rw[aFH];rfl
 ·rw[tf3];rfl
 ·rw[tf3];rfl
theorem aUs{ps:List (Nat×AV)}{K:AV→Prop}:@zn Tryz.prog 175 ps ⟨K⟩=@zk (qt Tryz.prog [(0,22),(1,3),(2,3)]) (zc Zp) ps ⟨fun cs=>K (.ag cs)⟩:=qN apf rfl aL6
theorem aWB{K:TI→Prop}:@tyW Tryz.prog 176 ⟨K⟩=K VV:=qi aY7
theorem ax7:VV.kd=Kd.oth:=ID rfl
theorem an0:VV.kd.agg=false:=ID rfl
theorem aiC:VV.size=1:=ID rfl
theorem acO:VV.bytes=8:=ID rfl
theorem ax5:qw VV=True:=eq_true rfl
theorem ax6:zc VV=[.v Value.nilFunc]:=ID rfl
theorem aWA{K:TI→Prop}:@tyW Tryz.prog 177 ⟨K⟩=K VU:=qi aY6
theorem ax4:VU.kd=Kd.oth:=ID rfl
theorem anZ:VU.kd.agg=false:=ID rfl
theorem aiB:VU.size=1:=ID rfl
theorem acN:VU.bytes=8:=ID rfl
theorem ax2:qw VU=True:=eq_true rfl
theorem ax3:zc VU=[.v Value.nilFunc]:=ID rfl
theorem aWz{K:TI→Prop}:@tyW Tryz.prog 178 ⟨K⟩=K VT:=qi aY5
theorem ax1:VT.kd=Kd.oth:=ID rfl
theorem anY:VT.kd.agg=false:=ID rfl
theorem aiA:VT.size=1:=ID rfl
theorem acM:VT.bytes=8:=ID rfl
theorem axZ:qw VT=True:=eq_true rfl
theorem ax0:zc VT=[.v Value.nilFunc]:=ID rfl
theorem aWy{K:TI→Prop}:@tyW Tryz.prog 179 ⟨K⟩=K VS:=qi aY4
theorem axY:VS.kd=Kd.oth:=ID rfl
theorem anX:VS.kd.agg=false:=ID rfl
theorem aiz:VS.size=1:=ID rfl
theorem acL:VS.bytes=8:=ID rfl
theorem axW:qw VS=True:=eq_true rfl
theorem axX:zc VS=[.v Value.nilFunc]:=ID rfl
theorem aWx{K:TI→Prop}:@tyW Tryz.prog 180 ⟨K⟩=K VR:=qi aY3
theorem axV:VR.kd=Kd.oth:=ID rfl
theorem anW:VR.kd.agg=false:=ID rfl
theorem aiy:VR.size=1:=ID rfl
theorem acK:VR.bytes=8:=ID rfl
theorem axT:qw VR=True:=eq_true rfl
theorem axU:zc VR=[.v Value.nilFunc]:=ID rfl
theorem aWw{K:TI→Prop}:@tyW Tryz.prog 182 ⟨K⟩=K VQ:=qi aY2
theorem axS:VQ.kd=Kd.oth:=ID rfl
theorem anV:VQ.kd.agg=false:=ID rfl
theorem aix:VQ.size=1:=ID rfl
theorem acJ:VQ.bytes=8:=ID rfl
theorem axQ:qw VQ=True:=eq_true rfl
theorem axR:zc VQ=[.v Value.nilFunc]:=ID rfl
theorem aWv{K:TI→Prop}:@tyW Tryz.prog 183 ⟨K⟩=K VP:=qi aY1
theorem axP:VP.kd=Kd.oth:=ID rfl
theorem anU:VP.kd.agg=false:=ID rfl
theorem aiw:VP.size=1:=ID rfl
theorem acI:VP.bytes=8:=ID rfl
theorem axN:qw VP=True:=eq_true rfl
theorem axO:zc VP=[.v Value.nilFunc]:=ID rfl
theorem aWu{K:TI→Prop}:@tyW Tryz.prog 184 ⟨K⟩=K VO:=qi aY0
theorem axM:VO.kd=Kd.oth:=ID rfl
theorem anT:VO.kd.agg=false:=ID rfl
theorem aiv:VO.size=1:=ID rfl
theorem acH:VO.bytes=8:=ID rfl
theorem axK:qw VO=True:=eq_true rfl
theorem axL:zc VO=[.v Value.nilFunc]:=ID rfl
theorem aWt{K:TI→Prop}:@tyW Tryz.prog 185 ⟨K⟩=K VN:=qi aYZ
theorem axJ:VN.kd=Kd.oth:=ID rfl
theorem anS:VN.kd.agg=false:=ID rfl
theorem aiu:VN.size=1:=ID rfl
theorem acG:VN.bytes=8:=ID rfl
theorem axH:qw VN=True:=eq_true rfl
theorem axI:zc VN=[.v Value.nilFunc]:=ID rfl
theorem aWs{K:TI→Prop}:@tyW Tryz.prog 186 ⟨K⟩=K VM:=qi aYY
theorem axG:VM.kd=Kd.oth:=ID rfl
theorem anR:VM.kd.agg=false:=ID rfl
theorem ait:VM.size=1:=ID rfl
theorem acF:VM.bytes=8:=ID rfl
theorem axE:qw VM=True:=eq_true rfl
theorem axF:zc VM=[.v Value.nilFunc]:=ID rfl
theorem aWr{K:TI→Prop}:@tyW Tryz.prog 187 ⟨K⟩=K VL:=qi aYX
theorem axD:VL.kd=Kd.oth:=ID rfl
theorem anQ:VL.kd.agg=false:=ID rfl
theorem ais:VL.size=1:=ID rfl
theorem acE:VL.bytes=8:=ID rfl
theorem axB:qw VL=True:=eq_true rfl
theorem axC:zc VL=[.v Value.nilFunc]:=ID rfl
theorem aWq{K:TI→Prop}:@tyW Tryz.prog 188 ⟨K⟩=K VK:=qi aYW
theorem axA:VK.kd=Kd.oth:=ID rfl
theorem anP:VK.kd.agg=false:=ID rfl
theorem air:VK.size=1:=ID rfl
theorem acD:VK.bytes=8:=ID rfl
theorem axy:qw VK=True:=eq_true rfl
theorem axz:zc VK=[.v Value.nilFunc]:=ID rfl
theorem aWp{K:TI→Prop}:@tyW Tryz.prog 189 ⟨K⟩=K VJ:=qi aYV
theorem axx:VJ.kd=Kd.oth:=ID rfl
theorem anO:VJ.kd.agg=false:=ID rfl
theorem aiq:VJ.size=1:=ID rfl
theorem acC:VJ.bytes=8:=ID rfl
theorem axv:qw VJ=True:=eq_true rfl
theorem axw:zc VJ=[.v Value.nilFunc]:=ID rfl
theorem aWo{K:TI→Prop}:@tyW Tryz.prog 190 ⟨K⟩=K VI:=qi aYU
theorem axu:VI.kd=Kd.oth:=ID rfl
theorem anN:VI.kd.agg=false:=ID rfl
theorem aip:VI.size=1:=ID rfl
theorem acB:VI.bytes=8:=ID rfl
theorem axs:qw VI=True:=eq_true rfl
theorem axt:zc VI=[.v Value.nilFunc]:=ID rfl
theorem aWn{K:TI→Prop}:@tyW Tryz.prog 191 ⟨K⟩=K VH:=qi aYT
theorem axr:VH.kd=Kd.oth:=ID rfl
theorem anM:VH.kd.agg=false:=ID rfl
theorem aio:VH.size=1:=ID rfl
theorem acA:VH.bytes=8:=ID rfl
theorem axp:qw VH=True:=eq_true rfl
theorem axq:zc VH=[.v Value.nilFunc]:=ID rfl
theorem aWm{K:TI→Prop}:@tyW Tryz.prog 192 ⟨K⟩=K VG:=qi aYS
theorem axo:VG.kd=Kd.oth:=ID rfl
theorem anL:VG.kd.agg=false:=ID rfl
theorem ain:VG.size=1:=ID rfl
theorem acz:VG.bytes=8:=ID rfl
theorem axm:qw VG=True:=eq_true rfl
theorem axn:zc VG=[.v Value.nilFunc]:=ID rfl
theorem aWl{K:TI→Prop}:@tyW Tryz.prog 194 ⟨K⟩=K VF:=qi aYR
theorem axl:VF.kd=Kd.oth:=ID rfl
theorem anK:VF.kd.agg=false:=ID rfl
theorem aim:VF.size=1:=ID rfl
theorem acy:VF.bytes=8:=ID rfl
theorem axj:qw VF=True:=eq_true rfl
theorem axk:zc VF=[.v Value.nilFunc]:=ID rfl
theorem aWk{K:TI→Prop}:@tyW Tryz.prog 195 ⟨K⟩=K VE:=qi aOO
theorem axi:VE.kd=Kd.sli 111:=ID rfl
theorem anJ:VE.kd.agg=false:=ID rfl
theorem ail:VE.size=1:=ID rfl
theorem acx:VE.bytes=24:=ID rfl
theorem axg:qw VE=True:=eq_true rfl
theorem axh:zc VE=[.v (Value.slice none 0 0)]:=ID rfl
theorem aO4{K:TI→Prop}:@y0 Tryz.prog 195 ⟨K⟩=K Qb:=ZW aOO rfl YB
theorem aWj{K:TI→Prop}:@tyW Tryz.prog 196 ⟨K⟩=K VD:=qi aYQ
theorem axf:VD.kd=Kd.oth:=ID rfl
theorem anI:VD.kd.agg=false:=ID rfl
theorem aik:VD.size=1:=ID rfl
theorem acw:VD.bytes=8:=ID rfl
theorem axd:qw VD=True:=eq_true rfl
theorem axe:zc VD=[.v Value.nilFunc]:=ID rfl
theorem aWi{K:TI→Prop}:@tyW Tryz.prog 197 ⟨K⟩=K VC:=qi aYP
theorem axc:VC.kd=Kd.oth:=ID rfl
theorem anH:VC.kd.agg=false:=ID rfl
theorem aij:VC.size=1:=ID rfl
theorem acv:VC.bytes=8:=ID rfl
theorem axa:qw VC=True:=eq_true rfl
theorem axb:zc VC=[.v Value.nilFunc]:=ID rfl
theorem aWh{K:TI→Prop}:@tyW Tryz.prog 198 ⟨K⟩=K VB:=qi aYO
theorem aw9:VB.kd=Kd.oth:=ID rfl
theorem anG:VB.kd.agg=false:=ID rfl
theorem aii:VB.size=1:=ID rfl
theorem acu:VB.bytes=8:=ID rfl
theorem aw7:qw VB=True:=eq_true rfl
theorem aw8:zc VB=[.v Value.nilFunc]:=ID rfl
theorem aWg{K:TI→Prop}:@tyW Tryz.prog 199 ⟨K⟩=K VA:=qi aYN
theorem aw6:VA.kd=Kd.oth:=ID rfl
theorem anF:VA.kd.agg=false:=ID rfl
theorem aih:VA.size=1:=ID rfl
theorem act:VA.bytes=8:=ID rfl
theorem aw4:qw VA=True:=eq_true rfl
theorem aw5:zc VA=[.v Value.nilFunc]:=ID rfl
theorem aWf{K:TI→Prop}:@tyW Tryz.prog 201 ⟨K⟩=K Vz:=qi aYM
theorem aw2:Vz.kd=Kd.oth:=ID rfl
theorem anD:Vz.kd.agg=false:=ID rfl
theorem aig:Vz.size=1:=ID rfl
theorem acs:Vz.bytes=8:=ID rfl
theorem aw0:qw Vz=True:=eq_true rfl
theorem aw1:zc Vz=[.v Value.nilFunc]:=ID rfl
theorem aWe{K:TI→Prop}:@tyW Tryz.prog 203 ⟨K⟩=K Vy:=qi aYL
theorem awZ:Vy.kd=Kd.oth:=ID rfl
theorem anC:Vy.kd.agg=false:=ID rfl
theorem aif:Vy.size=1:=ID rfl
theorem acr:Vy.bytes=8:=ID rfl
theorem awX:qw Vy=True:=eq_true rfl
theorem awY:zc Vy=[.v Value.nilFunc]:=ID rfl
theorem aWd{K:TI→Prop}:@tyW Tryz.prog 204 ⟨K⟩=K Vx:=qi aYK
theorem awW:Vx.kd=Kd.oth:=ID rfl
theorem anB:Vx.kd.agg=false:=ID rfl
theorem aie:Vx.size=1:=ID rfl
theorem acq:Vx.bytes=8:=ID rfl
theorem awT:qw Vx=True:=eq_true rfl
theorem awU:zc Vx=[.v Value.nilFunc]:=ID rfl
theorem aWc{K:TI→Prop}:@tyW Tryz.prog 205 ⟨K⟩=K Vw:=qi aYJ
theorem awS:Vw.kd=Kd.oth:=ID rfl
theorem anA:Vw.kd.agg=false:=ID rfl
theorem aid:Vw.size=1:=ID rfl
theorem acp:Vw.bytes=8:=ID rfl
theorem awQ:qw Vw=True:=eq_true rfl
theorem awR:zc Vw=[.v Value.nilFunc]:=ID rfl
theorem aWb{K:TI→Prop}:@tyW Tryz.prog 207 ⟨K⟩=K Vv:=qi aYI
theorem awP:Vv.kd=Kd.oth:=ID rfl
theorem anz:Vv.kd.agg=false:=ID rfl
theorem aic:Vv.size=1:=ID rfl
theorem aco:Vv.bytes=8:=ID rfl
theorem awN:qw Vv=True:=eq_true rfl
theorem awO:zc Vv=[.v Value.nilFunc]:=ID rfl
theorem aWa{K:TI→Prop}:@tyW Tryz.prog 208 ⟨K⟩=K Vu:=qi aYH
theorem awM:Vu.kd=Kd.oth:=ID rfl
theorem anx:Vu.kd.agg=false:=ID rfl
theorem aib:Vu.size=1:=ID rfl
theorem acn:Vu.bytes=8:=ID rfl
theorem awK:qw Vu=True:=eq_true rfl
theorem awL:zc Vu=[.v Value.nilFunc]:=ID rfl
theorem aV9{K:TI→Prop}:@tyW Tryz.prog 209 ⟨K⟩=K Vt:=qi aYG
theorem awJ:Vt.kd=Kd.oth:=ID rfl
theorem anw:Vt.kd.agg=false:=ID rfl
theorem aia:Vt.size=1:=ID rfl
theorem acm:Vt.bytes=8:=ID rfl
theorem awH:qw Vt=True:=eq_true rfl
theorem awI:zc Vt=[.v Value.nilFunc]:=ID rfl
theorem aV8{K:TI→Prop}:@tyW Tryz.prog 210 ⟨K⟩=K Vs:=qi aYF
theorem awG:Vs.kd=Kd.oth:=ID rfl
theorem anv:Vs.kd.agg=false:=ID rfl
theorem ah9:Vs.size=1:=ID rfl
theorem acl:Vs.bytes=8:=ID rfl
theorem awE:qw Vs=True:=eq_true rfl
theorem awF:zc Vs=[.v Value.nilFunc]:=ID rfl
theorem aV7{K:TI→Prop}:@tyW Tryz.prog 211 ⟨K⟩=K Vr:=qi aYE
theorem awD:Vr.kd=Kd.oth:=ID rfl
theorem anu:Vr.kd.agg=false:=ID rfl
theorem ah8:Vr.size=1:=ID rfl
theorem ack:Vr.bytes=8:=ID rfl
theorem awB:qw Vr=True:=eq_true rfl
theorem awC:zc Vr=[.v Value.nilFunc]:=ID rfl
theorem aV6{K:TI→Prop}:@tyW Tryz.prog 212 ⟨K⟩=K Vq:=qi aYD
theorem awA:Vq.kd=Kd.oth:=ID rfl
theorem ant:Vq.kd.agg=false:=ID rfl
theorem ah7:Vq.size=1:=ID rfl
theorem acj:Vq.bytes=8:=ID rfl
theorem awy:qw Vq=True:=eq_true rfl
theorem awz:zc Vq=[.v Value.nilFunc]:=ID rfl
theorem aV5{K:TI→Prop}:@tyW Tryz.prog 213 ⟨K⟩=K Vp:=qi aYC
theorem awx:Vp.kd=Kd.oth:=ID rfl
theorem ans:Vp.kd.agg=false:=ID rfl
theorem ah6:Vp.size=1:=ID rfl
theorem aci:Vp.bytes=8:=ID rfl
theorem awv:qw Vp=True:=eq_true rfl
theorem aww:zc Vp=[.v Value.nilFunc]:=ID rfl
theorem aV4{K:TI→Prop}:@tyW Tryz.prog 214 ⟨K⟩=K Vo:=qi aYB
theorem awu:Vo.kd=Kd.oth:=ID rfl
theorem anr:Vo.kd.agg=false:=ID rfl
theorem ah5:Vo.size=1:=ID rfl
theorem ach:Vo.bytes=8:=ID rfl
theorem aws:qw Vo=True:=eq_true rfl
theorem awt:zc Vo=[.v Value.nilFunc]:=ID rfl
theorem aV3{K:TI→Prop}:@tyW Tryz.prog 215 ⟨K⟩=K Vn:=qi aYA
theorem awr:Vn.kd=Kd.oth:=ID rfl
theorem anq:Vn.kd.agg=false:=ID rfl
theorem ah4:Vn.size=1:=ID rfl
theorem acg:Vn.bytes=8:=ID rfl
theorem awo:qw Vn=True:=eq_true rfl
theorem awq:zc Vn=[.v Value.nilFunc]:=ID rfl
theorem aV2{K:TI→Prop}:@tyW Tryz.prog 216 ⟨K⟩=K Vm:=qi aYz
theorem awn:Vm.kd=Kd.int IntKind.u64:=ID rfl
theorem anp:Vm.kd.agg=false:=ID rfl
theorem ah3:Vm.size=1:=ID rfl
theorem acf:Vm.bytes=8:=ID rfl
theorem awl:qw Vm=True:=eq_true rfl
theorem awm:zc Vm=[.v (Value.int IntKind.u64 0)]:=ID rfl
theorem aV1{K:TI→Prop}:@tyW Tryz.prog 217 ⟨K⟩=K Vl:=qi aYy
theorem awk:Vl.kd=Kd.oth:=ID rfl
theorem ano:Vl.kd.agg=false:=ID rfl
theorem ah2:Vl.size=1:=ID rfl
theorem ace:Vl.bytes=8:=ID rfl
theorem awi:qw Vl=True:=eq_true rfl
theorem awj:zc Vl=[.v Value.nilFunc]:=ID rfl
theorem aV0{K:TI→Prop}:@tyW Tryz.prog 218 ⟨K⟩=K Vk:=qi aYx
theorem awh:Vk.kd=Kd.oth:=ID rfl
theorem ann:Vk.kd.agg=false:=ID rfl
theorem ah1:Vk.size=1:=ID rfl
theorem acd:Vk.bytes=8:=ID rfl
theorem awf:qw Vk=True:=eq_true rfl
theorem awg:zc Vk=[.v Value.nilFunc]:=ID rfl
theorem aVZ{K:TI→Prop}:@tyW Tryz.prog 219 ⟨K⟩=K Vj:=qi aYw
theorem awe:Vj.kd=Kd.oth:=ID rfl
theorem anm:Vj.kd.agg=false:=ID rfl
theorem ah0:Vj.size=1:=ID rfl
theorem acb:Vj.bytes=8:=ID rfl
theorem awc:qw Vj=True:=eq_true rfl
theorem awd:zc Vj=[.v Value.nilFunc]:=ID rfl
theorem aVY{K:TI→Prop}:@tyW Tryz.prog 220 ⟨K⟩=K Vi:=qi aYv
theorem awa:Vi.kd=Kd.oth:=ID rfl
theorem ank:Vi.kd.agg=false:=ID rfl
theorem ahY:Vi.size=1:=ID rfl
theorem aca:Vi.bytes=8:=ID rfl
theorem av8:qw Vi=True:=eq_true rfl
theorem av9:zc Vi=[.v Value.nilFunc]:=ID rfl
theorem aVX{K:TI→Prop}:@tyW Tryz.prog 221 ⟨K⟩=K Vh:=qi aYu
theorem av7:Vh.kd=Kd.oth:=ID rfl
theorem anj:Vh.kd.agg=false:=ID rfl
theorem ahX:Vh.size=1:=ID rfl
theorem ab9:Vh.bytes=8:=ID rfl
theorem av5:qw Vh=True:=eq_true rfl
theorem av6:zc Vh=[.v Value.nilFunc]:=ID rfl
theorem aVW{K:TI→Prop}:@tyW Tryz.prog 222 ⟨K⟩=K Vg:=qi aYt
theorem av4:Vg.kd=Kd.oth:=ID rfl
theorem ani:Vg.kd.agg=false:=ID rfl
theorem ahW:Vg.size=1:=ID rfl
theorem ab8:Vg.bytes=8:=ID rfl
theorem av2:qw Vg=True:=eq_true rfl
theorem av3:zc Vg=[.v Value.nilFunc]:=ID rfl
theorem aVV{K:TI→Prop}:@tyW Tryz.prog 224 ⟨K⟩=K Vf:=qi aYs
theorem av1:Vf.kd=Kd.oth:=ID rfl
theorem anh:Vf.kd.agg=false:=ID rfl
theorem ahV:Vf.size=1:=ID rfl
theorem ab7:Vf.bytes=8:=ID rfl
theorem avZ:qw Vf=True:=eq_true rfl
theorem av0:zc Vf=[.v Value.nilFunc]:=ID rfl
theorem aVU{K:TI→Prop}:@tyW Tryz.prog 225 ⟨K⟩=K Ve:=qi aYr
theorem avY:Ve.kd=Kd.oth:=ID rfl
theorem ang:Ve.kd.agg=false:=ID rfl
theorem ahU:Ve.size=1:=ID rfl
theorem ab6:Ve.bytes=8:=ID rfl
theorem avW:qw Ve=True:=eq_true rfl
theorem avX:zc Ve=[.v Value.nilFunc]:=ID rfl
theorem aVT{K:TI→Prop}:@tyW Tryz.prog 226 ⟨K⟩=K Vd:=qi aYq
theorem avV:Vd.kd=Kd.oth:=ID rfl
theorem anf:Vd.kd.agg=false:=ID rfl
theorem ahT:Vd.size=1:=ID rfl
theorem ab5:Vd.bytes=8:=ID rfl
theorem avT:qw Vd=True:=eq_true rfl
theorem avU:zc Vd=[.v Value.nilFunc]:=ID rfl
theorem aVS{K:TI→Prop}:@tyW Tryz.prog 227 ⟨K⟩=K Vc:=qi aYp
theorem avS:Vc.kd=Kd.oth:=ID rfl
theorem ane:Vc.kd.agg=false:=ID rfl
theorem ahS:Vc.size=1:=ID rfl
theorem ab4:Vc.bytes=8:=ID rfl
theorem avQ:qw Vc=True:=eq_true rfl
theorem avR:zc Vc=[.v Value.nilFunc]:=ID rfl
theorem aVR{K:TI→Prop}:@tyW Tryz.prog 228 ⟨K⟩=K Vb:=qi aYo
theorem avP:Vb.kd=Kd.oth:=ID rfl
theorem anc:Vb.kd.agg=false:=ID rfl
theorem ahR:Vb.size=1:=ID rfl
theorem ab3:Vb.bytes=8:=ID rfl
theorem avN:qw Vb=True:=eq_true rfl
theorem avO:zc Vb=[.v Value.nilFunc]:=ID rfl
theorem aVQ{K:TI→Prop}:@tyW Tryz.prog 229 ⟨K⟩=K Va:=qi aYn
theorem avM:Va.kd=Kd.oth:=ID rfl
theorem anb:Va.kd.agg=false:=ID rfl
theorem ahQ:Va.size=1:=ID rfl
theorem ab2:Va.bytes=8:=ID rfl
theorem avK:qw Va=True:=eq_true rfl
theorem avL:zc Va=[.v Value.nilFunc]:=ID rfl
theorem aVP{K:TI→Prop}:@tyW Tryz.prog 230 ⟨K⟩=K X9:=qi aYm
theorem avI:X9.kd=Kd.oth:=ID rfl
theorem am9:X9.kd.agg=false:=ID rfl
theorem ahO:X9.size=1:=ID rfl
theorem ab1:X9.bytes=8:=ID rfl
theorem avG:qw X9=True:=eq_true rfl
theorem avH:zc X9=[.v Value.nilFunc]:=ID rfl
theorem aVO{K:TI→Prop}:@tyW Tryz.prog 231 ⟨K⟩=K X8:=qi aYl
theorem avF:X8.kd=Kd.oth:=ID rfl
theorem am8:X8.kd.agg=false:=ID rfl
theorem ahN:X8.size=1:=ID rfl
theorem ab0:X8.bytes=8:=ID rfl
theorem avD:qw X8=True:=eq_true rfl
theorem avE:zc X8=[.v Value.nilFunc]:=ID rfl
theorem aVN{K:TI→Prop}:@tyW Tryz.prog 232 ⟨K⟩=K X7:=qi aYk
theorem avC:X7.kd=Kd.oth:=ID rfl
theorem am7:X7.kd.agg=false:=ID rfl
theorem ahM:X7.size=1:=ID rfl
theorem abZ:X7.bytes=8:=ID rfl
theorem avA:qw X7=True:=eq_true rfl
theorem avB:zc X7=[.v Value.nilFunc]:=ID rfl
theorem aVM{K:TI→Prop}:@tyW Tryz.prog 233 ⟨K⟩=K X6:=qi aYj
theorem avz:X6.kd=Kd.oth:=ID rfl
theorem am6:X6.kd.agg=false:=ID rfl
theorem ahL:X6.size=1:=ID rfl
theorem abY:X6.bytes=8:=ID rfl
theorem avx:qw X6=True:=eq_true rfl
theorem avy:zc X6=[.v Value.nilFunc]:=ID rfl
theorem aVL{K:TI→Prop}:@tyW Tryz.prog 234 ⟨K⟩=K X5:=qi aYi
theorem avw:X5.kd=Kd.oth:=ID rfl
theorem am5:X5.kd.agg=false:=ID rfl
theorem ahK:X5.size=1:=ID rfl
theorem abX:X5.bytes=8:=ID rfl
theorem avu:qw X5=True:=eq_true rfl
theorem avv:zc X5=[.v Value.nilFunc]:=ID rfl
theorem aVK{K:TI→Prop}:@tyW Tryz.prog 235 ⟨K⟩=K X4:=qi aYh
theorem avt:X4.kd=Kd.oth:=ID rfl
theorem am4:X4.kd.agg=false:=ID rfl
theorem ahJ:X4.size=1:=ID rfl
theorem abW:X4.bytes=8:=ID rfl
theorem avr:qw X4=True:=eq_true rfl
theorem avs:zc X4=[.v Value.nilFunc]:=ID rfl
theorem aVJ{K:TI→Prop}:@tyW Tryz.prog 236 ⟨K⟩=K X3:=qi aYg
theorem avq:X3.kd=Kd.oth:=ID rfl
theorem am3:X3.kd.agg=false:=ID rfl
theorem ahI:X3.size=1:=ID rfl
theorem abV:X3.bytes=8:=ID rfl
theorem avo:qw X3=True:=eq_true rfl
theorem avp:zc X3=[.v Value.nilFunc]:=ID rfl
theorem aVI{K:TI→Prop}:@tyW Tryz.prog 237 ⟨K⟩=K X2:=qi aYf
theorem avn:X2.kd=Kd.oth:=ID rfl
theorem am2:X2.kd.agg=false:=ID rfl
theorem ahH:X2.size=1:=ID rfl
theorem abU:X2.bytes=8:=ID rfl
theorem avl:qw X2=True:=eq_true rfl
theorem avm:zc X2=[.v Value.nilFunc]:=ID rfl
theorem aVH{K:TI→Prop}:@tyW Tryz.prog 238 ⟨K⟩=K X1:=qi aYe
theorem avk:X1.kd=Kd.oth:=ID rfl
theorem am1:X1.kd.agg=false:=ID rfl
theorem ahG:X1.size=1:=ID rfl
theorem abT:X1.bytes=8:=ID rfl
theorem avi:qw X1=True:=eq_true rfl
theorem avj:zc X1=[.v Value.nilFunc]:=ID rfl
theorem aVG{K:TI→Prop}:@tyW Tryz.prog 239 ⟨K⟩=K X0:=qi aYd
theorem avh:X0.kd=Kd.oth:=ID rfl
theorem am0:X0.kd.agg=false:=ID rfl
theorem ahF:X0.size=1:=ID rfl
theorem abS:X0.bytes=8:=ID rfl
theorem avf:qw X0=True:=eq_true rfl
theorem avg:zc X0=[.v Value.nilFunc]:=ID rfl
theorem aVF{K:TI→Prop}:@tyW Tryz.prog 240 ⟨K⟩=K XZ:=qi aYc
theorem avd:XZ.kd=Kd.oth:=ID rfl
theorem amX:XZ.kd.agg=false:=ID rfl
theorem ahD:XZ.size=1:=ID rfl
theorem abR:XZ.bytes=8:=ID rfl
theorem avb:qw XZ=True:=eq_true rfl
theorem avc:zc XZ=[.v Value.nilFunc]:=ID rfl
theorem aVE{K:TI→Prop}:@tyW Tryz.prog 241 ⟨K⟩=K XY:=qi aYb
theorem ava:XY.kd=Kd.oth:=ID rfl
theorem amW:XY.kd.agg=false:=ID rfl
theorem ahC:XY.size=1:=ID rfl
theorem abQ:XY.bytes=8:=ID rfl
theorem au8:qw XY=True:=eq_true rfl
theorem au9:zc XY=[.v Value.nilFunc]:=ID rfl
theorem aVD{K:TI→Prop}:@tyW Tryz.prog 242 ⟨K⟩=K XX:=qi aYa
theorem au7:XX.kd=Kd.oth:=ID rfl
theorem amV:XX.kd.agg=false:=ID rfl
theorem ahB:XX.size=1:=ID rfl
theorem abP:XX.bytes=8:=ID rfl
theorem au5:qw XX=True:=eq_true rfl
theorem au6:zc XX=[.v Value.nilFunc]:=ID rfl
theorem aVC{K:TI→Prop}:@tyW Tryz.prog 243 ⟨K⟩=K XW:=qi aX9
theorem au4:XW.kd=Kd.oth:=ID rfl
theorem amU:XW.kd.agg=false:=ID rfl
theorem ahA:XW.size=1:=ID rfl
theorem abO:XW.bytes=8:=ID rfl
theorem au2:qw XW=True:=eq_true rfl
theorem au3:zc XW=[.v Value.nilFunc]:=ID rfl
theorem aVB{K:TI→Prop}:@tyW Tryz.prog 245 ⟨K⟩=K XV:=qi aX8
theorem au1:XV.kd=Kd.oth:=ID rfl
theorem amT:XV.kd.agg=false:=ID rfl
theorem ahz:XV.size=1:=ID rfl
theorem abN:XV.bytes=8:=ID rfl
theorem auZ:qw XV=True:=eq_true rfl
theorem au0:zc XV=[.v Value.nilFunc]:=ID rfl
theorem aVA{K:TI→Prop}:@tyW Tryz.prog 246 ⟨K⟩=K XU:=qi aX7
theorem auY:XU.kd=Kd.oth:=ID rfl
theorem amS:XU.kd.agg=false:=ID rfl
theorem ahy:XU.size=1:=ID rfl
theorem abM:XU.bytes=8:=ID rfl
theorem auW:qw XU=True:=eq_true rfl
theorem auX:zc XU=[.v Value.nilFunc]:=ID rfl
theorem aVz{K:TI→Prop}:@tyW Tryz.prog 247 ⟨K⟩=K XT:=qi aX6
theorem auV:XT.kd=Kd.oth:=ID rfl
theorem amR:XT.kd.agg=false:=ID rfl
theorem ahx:XT.size=1:=ID rfl
theorem abL:XT.bytes=8:=ID rfl
theorem auT:qw XT=True:=eq_true rfl
theorem auU:zc XT=[.v Value.nilFunc]:=ID rfl
theorem aVy{K:TI→Prop}:@tyW Tryz.prog 249 ⟨K⟩=K XS:=qi aX5
theorem auS:XS.kd=Kd.oth:=ID rfl
theorem amQ:XS.kd.agg=false:=ID rfl
theorem ahw:XS.size=1:=ID rfl
theorem abK:XS.bytes=8:=ID rfl
theorem auQ:qw XS=True:=eq_true rfl
theorem auR:zc XS=[.v Value.nilFunc]:=ID rfl
theorem aVx{K:TI→Prop}:@tyW Tryz.prog 250 ⟨K⟩=K XR:=qi aX4
theorem auO:XR.kd=Kd.oth:=ID rfl
theorem amN:XR.kd.agg=false:=ID rfl
theorem ahu:XR.size=1:=ID rfl
theorem abJ:XR.bytes=8:=ID rfl
theorem auM:qw XR=True:=eq_true rfl
theorem auN:zc XR=[.v Value.nilFunc]:=ID rfl
theorem aVw{K:TI→Prop}:@tyW Tryz.prog 251 ⟨K⟩=K XQ:=qi aX3
theorem auL:XQ.kd=Kd.oth:=ID rfl
theorem amM:XQ.kd.agg=false:=ID rfl
theorem aht:XQ.size=1:=ID rfl
theorem abI:XQ.bytes=8:=ID rfl
theorem auJ:qw XQ=True:=eq_true rfl
theorem auK:zc XQ=[.v Value.nilFunc]:=ID rfl
theorem aVv{K:TI→Prop}:@tyW Tryz.prog 252 ⟨K⟩=K XP:=qi aX2
theorem auI:XP.kd=Kd.int IntKind.u32:=ID rfl
theorem amL:XP.kd.agg=false:=ID rfl
theorem ahs:XP.size=1:=ID rfl
theorem abH:XP.bytes=4:=ID rfl
theorem auG:qw XP=True:=eq_true rfl
theorem auH:zc XP=[.v (Value.int IntKind.u32 0)]:=ID rfl
theorem aVu{K:TI→Prop}:@tyW Tryz.prog 253 ⟨K⟩=K XO:=qi aX1
theorem auF:XO.kd=Kd.oth:=ID rfl
theorem amK:XO.kd.agg=false:=ID rfl
theorem ahr:XO.size=1:=ID rfl
theorem abG:XO.bytes=8:=ID rfl
theorem auD:qw XO=True:=eq_true rfl
theorem auE:zc XO=[.v Value.nilFunc]:=ID rfl
theorem aVt{K:TI→Prop}:@tyW Tryz.prog 254 ⟨K⟩=K XN:=qi aX0
theorem auC:XN.kd=Kd.int IntKind.u64:=ID rfl
theorem amJ:XN.kd.agg=false:=ID rfl
theorem ahq:XN.size=1:=ID rfl
theorem abF:XN.bytes=8:=ID rfl
theorem auA:qw XN=True:=eq_true rfl
theorem auB:zc XN=[.v (Value.int IntKind.u64 0)]:=ID rfl
theorem aVs{K:TI→Prop}:@tyW Tryz.prog 256 ⟨K⟩=K XM:=qi aXZ
theorem auz:XM.kd=Kd.oth:=ID rfl
theorem amI:XM.kd.agg=false:=ID rfl
theorem ahp:XM.size=1:=ID rfl
theorem abE:XM.bytes=8:=ID rfl
theorem aux:qw XM=True:=eq_true rfl
theorem auy:zc XM=[.v Value.nilFunc]:=ID rfl
theorem aVr{K:TI→Prop}:@tyW Tryz.prog 257 ⟨K⟩=K XL:=qi aXY
theorem auw:XL.kd=Kd.oth:=ID rfl
theorem amH:XL.kd.agg=false:=ID rfl
theorem aho:XL.size=1:=ID rfl
theorem abD:XL.bytes=8:=ID rfl
theorem auu:qw XL=True:=eq_true rfl
theorem auv:zc XL=[.v Value.nilFunc]:=ID rfl
theorem aVq{K:TI→Prop}:@tyW Tryz.prog 258 ⟨K⟩=K XK:=qi aXX
theorem aut:XK.kd=Kd.oth:=ID rfl
theorem amG:XK.kd.agg=false:=ID rfl
theorem ahn:XK.size=1:=ID rfl
theorem abC:XK.bytes=8:=ID rfl
theorem aur:qw XK=True:=eq_true rfl
theorem aus:zc XK=[.v Value.nilFunc]:=ID rfl
theorem aVp{K:TI→Prop}:@tyW Tryz.prog 259 ⟨K⟩=K XJ:=qi aXW
theorem auq:XJ.kd=Kd.oth:=ID rfl
theorem amF:XJ.kd.agg=false:=ID rfl
theorem ahm:XJ.size=1:=ID rfl
theorem abB:XJ.bytes=8:=ID rfl
theorem auo:qw XJ=True:=eq_true rfl
theorem aup:zc XJ=[.v Value.nilFunc]:=ID rfl
theorem aVo{K:TI→Prop}:@tyW Tryz.prog 260 ⟨K⟩=K XI:=qi aXV
theorem aum:XI.kd=Kd.oth:=ID rfl
theorem amD:XI.kd.agg=false:=ID rfl
theorem ahk:XI.size=1:=ID rfl
theorem abA:XI.bytes=8:=ID rfl
theorem auk:qw XI=True:=eq_true rfl
theorem aul:zc XI=[.v Value.nilFunc]:=ID rfl
theorem aVn{K:TI→Prop}:@tyW Tryz.prog 263 ⟨K⟩=K XH:=qi aXU
theorem auj:XH.kd=Kd.oth:=ID rfl
theorem amC:XH.kd.agg=false:=ID rfl
theorem ahj:XH.size=1:=ID rfl
theorem abz:XH.bytes=8:=ID rfl
theorem auh:qw XH=True:=eq_true rfl
theorem aui:zc XH=[.v Value.nilFunc]:=ID rfl
theorem aVm{K:TI→Prop}:@tyW Tryz.prog 267 ⟨K⟩=K XG:=qi aXT
theorem aug:XG.kd=Kd.stru [(0,266)]:=ID rfl
theorem amB:XG.kd.agg=true:=ID rfl
theorem ahi:XG.size=0:=ID rfl
theorem aby:XG.bytes=0:=ID rfl
theorem aue:qw XG=True:=eq_true rfl
theorem auf:zc XG=[]:=ID rfl
theorem aVl{K:TI→Prop}:@tyW Tryz.prog 268 ⟨K⟩=K XF:=qi aXS
theorem aud:XF.kd=Kd.stru [(0,266)]:=ID rfl
theorem amA:XF.kd.agg=true:=ID rfl
theorem ahh:XF.size=0:=ID rfl
theorem abx:XF.bytes=0:=ID rfl
theorem aub:qw XF=True:=eq_true rfl
theorem auc:zc XF=[]:=ID rfl
theorem aVk{K:TI→Prop}:@tyW Tryz.prog 269 ⟨K⟩=K XE:=qi aXR
theorem aua:XE.kd=Kd.int IntKind.u8:=ID rfl
theorem amz:XE.kd.agg=false:=ID rfl
theorem ahg:XE.size=1:=ID rfl
theorem abw:XE.bytes=1:=ID rfl
theorem at8:qw XE=True:=eq_true rfl
theorem at9:zc XE=[.v (Value.int IntKind.u8 0)]:=ID rfl
theorem aVj{K:TI→Prop}:@tyW Tryz.prog 270 ⟨K⟩=K XD:=qi aXQ
theorem at7:XD.kd=Kd.int IntKind.u8:=ID rfl
theorem amy:XD.kd.agg=false:=ID rfl
theorem ahf:XD.size=1:=ID rfl
theorem abv:XD.bytes=1:=ID rfl
theorem at5:qw XD=True:=eq_true rfl
theorem at6:zc XD=[.v (Value.int IntKind.u8 0)]:=ID rfl
theorem aVi{K:TI→Prop}:@tyW Tryz.prog 271 ⟨K⟩=K XB:=qi aXP
theorem at4:XB.kd=Kd.oth:=ID rfl
theorem amx:XB.kd.agg=false:=ID rfl
theorem ahe:XB.size=1:=ID rfl
theorem abu:XB.bytes=8:=ID rfl
theorem at2:qw XB=True:=eq_true rfl
theorem at3:zc XB=[.v Value.nilFunc]:=ID rfl
theorem aVh{K:TI→Prop}:@tyW Tryz.prog 273 ⟨K⟩=K XA:=qi aXO
theorem at1:XA.kd=Kd.int IntKind.i32:=ID rfl
theorem amw:XA.kd.agg=false:=ID rfl
theorem ahd:XA.size=1:=ID rfl
theorem abt:XA.bytes=4:=ID rfl
theorem atZ:qw XA=True:=eq_true rfl
theorem at0:zc XA=[.v (Value.int IntKind.i32 0)]:=ID rfl
theorem aVg{K:TI→Prop}:@tyW Tryz.prog 274 ⟨K⟩=K Xz:=qi aXN
theorem atY:Xz.kd=Kd.int IntKind.i32:=ID rfl
theorem amv:Xz.kd.agg=false:=ID rfl
theorem ahc:Xz.size=1:=ID rfl
theorem abr:Xz.bytes=4:=ID rfl
theorem atW:qw Xz=True:=eq_true rfl
theorem atX:zc Xz=[.v (Value.int IntKind.i32 0)]:=ID rfl
theorem aVf{K:TI→Prop}:@tyW Tryz.prog 277 ⟨K⟩=K Xy:=qi aXM
theorem atV:Xy.kd=Kd.oth:=ID rfl
theorem amu:Xy.kd.agg=false:=ID rfl
theorem ahb:Xy.size=1:=ID rfl
theorem abq:Xy.bytes=8:=ID rfl
theorem atT:qw Xy=True:=eq_true rfl
theorem atU:zc Xy=[.v Value.nilFunc]:=ID rfl
theorem bfx:qp Tryz.prog 2=True:=eq_true ⟨_,Tryz.func2,of_decide_eq_false (by kernel_rfl),rfl⟩
theorem bfw:qp Tryz.prog 3=True:=eq_true ⟨_,Tryz.func3,of_decide_eq_false (by kernel_rfl),rfl⟩
theorem bfv:qp Tryz.prog 4=True:=eq_true ⟨_,Tryz.func4,of_decide_eq_false (by kernel_rfl),rfl⟩
theorem bfu:qp Tryz.prog 5=True:=eq_true ⟨_,Tryz.func5,of_decide_eq_false (by kernel_rfl),rfl⟩
theorem bft:qp Tryz.prog 6=True:=eq_true ⟨_,Tryz.func6,of_decide_eq_false (by kernel_rfl),rfl⟩
theorem bfs:qp Tryz.prog 7=True:=eq_true ⟨_,Tryz.func7,of_decide_eq_false (by kernel_rfl),rfl⟩
theorem bfr:qp Tryz.prog 8=True:=eq_true ⟨_,Tryz.func8,of_decide_eq_false (by kernel_rfl),rfl⟩
theorem bfq:qp Tryz.prog 9=True:=eq_true ⟨_,Tryz.func9,of_decide_eq_false (by kernel_rfl),rfl⟩
theorem bcg:qp Tryz.prog 10=True:=eq_true ⟨_,Tryz.func10,of_decide_eq_false (by kernel_rfl),rfl⟩
theorem bcf:qp Tryz.prog 11=True:=eq_true ⟨_,Tryz.func11,of_decide_eq_false (by kernel_rfl),rfl⟩
theorem bce:qp Tryz.prog 12=True:=eq_true ⟨_,Tryz.func12,of_decide_eq_false (by kernel_rfl),rfl⟩
theorem bcd:qp Tryz.prog 13=True:=eq_true ⟨_,Tryz.func13,of_decide_eq_false (by kernel_rfl),rfl⟩
theorem bcc:qp Tryz.prog 14=True:=eq_true ⟨_,Tryz.func14,of_decide_eq_false (by kernel_rfl),rfl⟩
theorem bcb:qp Tryz.prog 15=True:=eq_true ⟨_,Tryz.func15,of_decide_eq_false (by kernel_rfl),rfl⟩
theorem bca:qp Tryz.prog 16=True:=eq_true ⟨_,Tryz.func16,of_decide_eq_false (by kernel_rfl),rfl⟩
theorem bb9:qp Tryz.prog 17=True:=eq_true ⟨_,Tryz.func17,of_decide_eq_false (by kernel_rfl),rfl⟩
theorem bb8:qp Tryz.prog 18=True:=eq_true ⟨_,Tryz.func18,of_decide_eq_false (by kernel_rfl),rfl⟩
theorem bb7:qp Tryz.prog 19=True:=eq_true ⟨_,Tryz.func19,of_decide_eq_false (by kernel_rfl),rfl⟩
theorem bb6:qp Tryz.prog 20=True:=eq_true ⟨_,Tryz.func20,of_decide_eq_false (by kernel_rfl),rfl⟩
theorem bb5:qp Tryz.prog 21=True:=eq_true ⟨_,Tryz.func21,of_decide_eq_false (by kernel_rfl),rfl⟩
theorem bb4:qp Tryz.prog 22=True:=eq_true ⟨_,Tryz.func22,of_decide_eq_false (by kernel_rfl),rfl⟩
theorem bb3:qp Tryz.prog 23=True:=eq_true ⟨_,Tryz.func23,of_decide_eq_false (by kernel_rfl),rfl⟩
theorem bb2:qp Tryz.prog 24=True:=eq_true ⟨_,Tryz.func24,of_decide_eq_false (by kernel_rfl),rfl⟩
theorem bb1:qp Tryz.prog 25=True:=eq_true ⟨_,Tryz.func25,of_decide_eq_false (by kernel_rfl),rfl⟩
theorem bb0:qp Tryz.prog 26=True:=eq_true ⟨_,Tryz.func26,of_decide_eq_false (by kernel_rfl),rfl⟩
theorem bbZ:qp Tryz.prog 27=True:=eq_true ⟨_,Tryz.func27,of_decide_eq_false (by kernel_rfl),rfl⟩
theorem bbY:qp Tryz.prog 28=True:=eq_true ⟨_,Tryz.func28,of_decide_eq_false (by kernel_rfl),rfl⟩
theorem bbX:qp Tryz.prog 29=True:=eq_true ⟨_,Tryz.func29,of_decide_eq_false (by kernel_rfl),rfl⟩
theorem bbW:qp Tryz.prog 30=True:=eq_true ⟨_,Tryz.func30,of_decide_eq_false (by kernel_rfl),rfl⟩
theorem bbV:qp Tryz.prog 31=True:=eq_true ⟨_,Tryz.func31,of_decide_eq_false (by kernel_rfl),rfl⟩
theorem bbU:qp Tryz.prog 32=True:=eq_true ⟨_,Tryz.func32,of_decide_eq_false (by kernel_rfl),rfl⟩
theorem bbT:qp Tryz.prog 33=True:=eq_true ⟨_,Tryz.func33,of_decide_eq_false (by kernel_rfl),rfl⟩
theorem bbS:qp Tryz.prog 34=True:=eq_true ⟨_,Tryz.func34,of_decide_eq_false (by kernel_rfl),rfl⟩
theorem bbR:qp Tryz.prog 35=True:=eq_true ⟨_,Tryz.func35,of_decide_eq_false (by kernel_rfl),rfl⟩
theorem bbQ:qp Tryz.prog 36=True:=eq_true ⟨_,Tryz.func36,of_decide_eq_false (by kernel_rfl),rfl⟩
theorem bbP:qp Tryz.prog 37=True:=eq_true ⟨_,Tryz.func37,of_decide_eq_false (by kernel_rfl),rfl⟩
theorem bbO:qp Tryz.prog 38=True:=eq_true ⟨_,Tryz.func38,of_decide_eq_false (by kernel_rfl),rfl⟩
theorem bbN:qp Tryz.prog 39=True:=eq_true ⟨_,Tryz.func39,of_decide_eq_false (by kernel_rfl),rfl⟩
theorem bbM:qp Tryz.prog 40=True:=eq_true ⟨_,Tryz.func40,of_decide_eq_false (by kernel_rfl),rfl⟩
theorem bbL:qp Tryz.prog 41=True:=eq_true ⟨_,Tryz.func41,of_decide_eq_false (by kernel_rfl),rfl⟩
theorem bbK:qp Tryz.prog 42=True:=eq_true ⟨_,Tryz.func42,of_decide_eq_false (by kernel_rfl),rfl⟩
theorem bbJ:qp Tryz.prog 43=True:=eq_true ⟨_,Tryz.func43,of_decide_eq_false (by kernel_rfl),rfl⟩
theorem bbI:qp Tryz.prog 44=True:=eq_true ⟨_,Tryz.func44,of_decide_eq_false (by kernel_rfl),rfl⟩
theorem bbH:qp Tryz.prog 45=True:=eq_true ⟨_,Tryz.func45,of_decide_eq_false (by kernel_rfl),rfl⟩
theorem bbG:qp Tryz.prog 46=True:=eq_true ⟨_,Tryz.func46,of_decide_eq_false (by kernel_rfl),rfl⟩
theorem bbF:qp Tryz.prog 47=True:=eq_true ⟨_,Tryz.func47,of_decide_eq_false (by kernel_rfl),rfl⟩
theorem bbE:qp Tryz.prog 48=True:=eq_true ⟨_,Tryz.func48,of_decide_eq_false (by kernel_rfl),rfl⟩
theorem bbD:qp Tryz.prog 49=True:=eq_true ⟨_,Tryz.func49,of_decide_eq_false (by kernel_rfl),rfl⟩
theorem bbC:qp Tryz.prog 50=True:=eq_true ⟨_,Tryz.func50,of_decide_eq_false (by kernel_rfl),rfl⟩
theorem bbB:qp Tryz.prog 51=True:=eq_true ⟨_,Tryz.func51,of_decide_eq_false (by kernel_rfl),rfl⟩
theorem bbA:qp Tryz.prog 52=True:=eq_true ⟨_,Tryz.func52,of_decide_eq_false (by kernel_rfl),rfl⟩
theorem bbz:qp Tryz.prog 53=True:=eq_true ⟨_,Tryz.func53,of_decide_eq_false (by kernel_rfl),rfl⟩
theorem bby:qp Tryz.prog 54=True:=eq_true ⟨_,Tryz.func54,of_decide_eq_false (by kernel_rfl),rfl⟩
theorem bbx:qp Tryz.prog 55=True:=eq_true ⟨_,Tryz.func55,of_decide_eq_false (by kernel_rfl),rfl⟩
theorem bbw:qp Tryz.prog 56=True:=eq_true ⟨_,Tryz.func56,of_decide_eq_false (by kernel_rfl),rfl⟩
theorem bbv:qp Tryz.prog 57=True:=eq_true ⟨_,Tryz.func57,of_decide_eq_false (by kernel_rfl),rfl⟩
theorem bbu:qp Tryz.prog 58=True:=eq_true ⟨_,Tryz.func58,of_decide_eq_false (by kernel_rfl),rfl⟩
theorem bbt:qp Tryz.prog 59=True:=eq_true ⟨_,Tryz.func59,of_decide_eq_false (by kernel_rfl),rfl⟩
theorem bbs:qp Tryz.prog 60=True:=eq_true ⟨_,Tryz.func60,of_decide_eq_false (by kernel_rfl),rfl⟩
theorem bbr:qp Tryz.prog 61=True:=eq_true ⟨_,Tryz.func61,of_decide_eq_false (by kernel_rfl),rfl⟩
theorem bbq:qp Tryz.prog 62=True:=eq_true ⟨_,Tryz.func62,of_decide_eq_false (by kernel_rfl),rfl⟩
theorem bbp:qp Tryz.prog 63=True:=eq_true ⟨_,Tryz.func63,of_decide_eq_false (by kernel_rfl),rfl⟩
theorem bbo:qp Tryz.prog 64=True:=eq_true ⟨_,Tryz.func64,of_decide_eq_false (by kernel_rfl),rfl⟩
theorem bbn:qp Tryz.prog 65=True:=eq_true ⟨_,Tryz.func65,of_decide_eq_false (by kernel_rfl),rfl⟩
theorem bbm:qp Tryz.prog 66=True:=eq_true ⟨_,Tryz.func66,of_decide_eq_false (by kernel_rfl),rfl⟩
theorem bbl:qp Tryz.prog 67=True:=eq_true ⟨_,Tryz.func67,of_decide_eq_false (by kernel_rfl),rfl⟩
theorem bbk:qp Tryz.prog 68=True:=eq_true ⟨_,Tryz.func68,of_decide_eq_false (by kernel_rfl),rfl⟩
theorem bbj:qp Tryz.prog 69=True:=eq_true ⟨_,Tryz.func69,of_decide_eq_false (by kernel_rfl),rfl⟩
theorem bbi:qp Tryz.prog 70=True:=eq_true ⟨_,Tryz.func70,of_decide_eq_false (by kernel_rfl),rfl⟩
theorem bbh:qp Tryz.prog 71=True:=eq_true ⟨_,Tryz.func71,of_decide_eq_false (by kernel_rfl),rfl⟩
theorem bbg:qp Tryz.prog 72=True:=eq_true ⟨_,Tryz.func72,of_decide_eq_false (by kernel_rfl),rfl⟩
theorem bbf:qp Tryz.prog 73=True:=eq_true ⟨_,Tryz.func73,of_decide_eq_false (by kernel_rfl),rfl⟩
theorem bbe:qp Tryz.prog 74=True:=eq_true ⟨_,Tryz.func74,of_decide_eq_false (by kernel_rfl),rfl⟩
theorem bbd:qp Tryz.prog 75=True:=eq_true ⟨_,Tryz.func75,of_decide_eq_false (by kernel_rfl),rfl⟩
theorem bbc:qp Tryz.prog 76=True:=eq_true ⟨_,Tryz.func76,of_decide_eq_false (by kernel_rfl),rfl⟩
theorem bbb:qp Tryz.prog 77=True:=eq_true ⟨_,Tryz.func77,of_decide_eq_false (by kernel_rfl),rfl⟩
theorem bba:qp Tryz.prog 78=True:=eq_true ⟨_,Tryz.func78,of_decide_eq_false (by kernel_rfl),rfl⟩
theorem ba9:qp Tryz.prog 79=True:=eq_true ⟨_,Tryz.func79,of_decide_eq_false (by kernel_rfl),rfl⟩
theorem ba8:qp Tryz.prog 80=True:=eq_true ⟨_,Tryz.func80,of_decide_eq_false (by kernel_rfl),rfl⟩
theorem ba7:qp Tryz.prog 81=True:=eq_true ⟨_,Tryz.func81,of_decide_eq_false (by kernel_rfl),rfl⟩
theorem ba6:qp Tryz.prog 82=True:=eq_true ⟨_,Tryz.func82,of_decide_eq_false (by kernel_rfl),rfl⟩
theorem ba5:qp Tryz.prog 83=True:=eq_true ⟨_,Tryz.func83,of_decide_eq_false (by kernel_rfl),rfl⟩
theorem ba4:qp Tryz.prog 84=True:=eq_true ⟨_,Tryz.func84,of_decide_eq_false (by kernel_rfl),rfl⟩
theorem ba3:qp Tryz.prog 85=True:=eq_true ⟨_,Tryz.func85,of_decide_eq_false (by kernel_rfl),rfl⟩
theorem ba2:qp Tryz.prog 86=True:=eq_true ⟨_,Tryz.func86,of_decide_eq_false (by kernel_rfl),rfl⟩
theorem ba1:qp Tryz.prog 87=True:=eq_true ⟨_,Tryz.func87,of_decide_eq_false (by kernel_rfl),rfl⟩
theorem ba0:qp Tryz.prog 88=True:=eq_true ⟨_,Tryz.func88,of_decide_eq_false (by kernel_rfl),rfl⟩
theorem baZ:qp Tryz.prog 89=True:=eq_true ⟨_,Tryz.func89,of_decide_eq_false (by kernel_rfl),rfl⟩
theorem baY:qp Tryz.prog 90=True:=eq_true ⟨_,Tryz.func90,of_decide_eq_false (by kernel_rfl),rfl⟩
theorem baX:qp Tryz.prog 91=True:=eq_true ⟨_,Tryz.func91,of_decide_eq_false (by kernel_rfl),rfl⟩
theorem baW:qp Tryz.prog 92=True:=eq_true ⟨_,Tryz.func92,of_decide_eq_false (by kernel_rfl),rfl⟩
theorem baV:qp Tryz.prog 93=True:=eq_true ⟨_,Tryz.func93,of_decide_eq_false (by kernel_rfl),rfl⟩
theorem baU:qp Tryz.prog 94=True:=eq_true ⟨_,Tryz.func94,of_decide_eq_false (by kernel_rfl),rfl⟩
theorem baT:qp Tryz.prog 95=True:=eq_true ⟨_,Tryz.func95,of_decide_eq_false (by kernel_rfl),rfl⟩
theorem baS:qp Tryz.prog 96=True:=eq_true ⟨_,Tryz.func96,of_decide_eq_false (by kernel_rfl),rfl⟩
theorem baR:qp Tryz.prog 97=True:=eq_true ⟨_,Tryz.func97,of_decide_eq_false (by kernel_rfl),rfl⟩
theorem baQ:qp Tryz.prog 98=True:=eq_true ⟨_,Tryz.func98,of_decide_eq_false (by kernel_rfl),rfl⟩
theorem baP:qp Tryz.prog 99=True:=eq_true ⟨_,Tryz.func99,of_decide_eq_false (by kernel_rfl),rfl⟩
theorem aTL:qp Tryz.prog 100=True:=eq_true ⟨_,Tryz.func100,of_decide_eq_false (by kernel_rfl),rfl⟩
theorem aTK:qp Tryz.prog 101=True:=eq_true ⟨_,Tryz.func101,of_decide_eq_false (by kernel_rfl),rfl⟩
theorem aTJ:qp Tryz.prog 102=True:=eq_true ⟨_,Tryz.func102,of_decide_eq_false (by kernel_rfl),rfl⟩
theorem aTI:qp Tryz.prog 103=True:=eq_true ⟨_,Tryz.func103,of_decide_eq_false (by kernel_rfl),rfl⟩
theorem aTH:qp Tryz.prog 104=True:=eq_true ⟨_,Tryz.func104,of_decide_eq_false (by kernel_rfl),rfl⟩
theorem aTG:qp Tryz.prog 105=True:=eq_true ⟨_,Tryz.func105,of_decide_eq_false (by kernel_rfl),rfl⟩
theorem aTF:qp Tryz.prog 106=True:=eq_true ⟨_,Tryz.func106,of_decide_eq_false (by kernel_rfl),rfl⟩
theorem aTE:qp Tryz.prog 107=True:=eq_true ⟨_,Tryz.func107,of_decide_eq_false (by kernel_rfl),rfl⟩
theorem aTD:qp Tryz.prog 108=True:=eq_true ⟨_,Tryz.func108,of_decide_eq_false (by kernel_rfl),rfl⟩
theorem aTC:qp Tryz.prog 109=True:=eq_true ⟨_,Tryz.func109,of_decide_eq_false (by kernel_rfl),rfl⟩
theorem aTB:qp Tryz.prog 110=True:=eq_true ⟨_,Tryz.func110,of_decide_eq_false (by kernel_rfl),rfl⟩
theorem aTA:qp Tryz.prog 111=True:=eq_true ⟨_,Tryz.func111,of_decide_eq_false (by kernel_rfl),rfl⟩
theorem aTz:qp Tryz.prog 112=True:=eq_true ⟨_,Tryz.func112,of_decide_eq_false (by kernel_rfl),rfl⟩
theorem aTy:qp Tryz.prog 113=True:=eq_true ⟨_,Tryz.func113,of_decide_eq_false (by kernel_rfl),rfl⟩
theorem aTx:qp Tryz.prog 114=True:=eq_true ⟨_,Tryz.func114,of_decide_eq_false (by kernel_rfl),rfl⟩
theorem aTw:qp Tryz.prog 115=True:=eq_true ⟨_,Tryz.func115,of_decide_eq_false (by kernel_rfl),rfl⟩
theorem aTv:qp Tryz.prog 116=True:=eq_true ⟨_,Tryz.func116,of_decide_eq_false (by kernel_rfl),rfl⟩
theorem aTu:qp Tryz.prog 117=True:=eq_true ⟨_,Tryz.func117,of_decide_eq_false (by kernel_rfl),rfl⟩
theorem aTt:qp Tryz.prog 118=True:=eq_true ⟨_,Tryz.func118,of_decide_eq_false (by kernel_rfl),rfl⟩
theorem aTs:qp Tryz.prog 119=True:=eq_true ⟨_,Tryz.func119,of_decide_eq_false (by kernel_rfl),rfl⟩
theorem aTr:qp Tryz.prog 120=True:=eq_true ⟨_,Tryz.func120,of_decide_eq_false (by kernel_rfl),rfl⟩
theorem aTq:qp Tryz.prog 121=True:=eq_true ⟨_,Tryz.func121,of_decide_eq_false (by kernel_rfl),rfl⟩
theorem aTp:qp Tryz.prog 122=True:=eq_true ⟨_,Tryz.func122,of_decide_eq_false (by kernel_rfl),rfl⟩
theorem aTo:qp Tryz.prog 123=True:=eq_true ⟨_,Tryz.func123,of_decide_eq_false (by kernel_rfl),rfl⟩
theorem aTn:qp Tryz.prog 124=True:=eq_true ⟨_,Tryz.func124,of_decide_eq_false (by kernel_rfl),rfl⟩
theorem aTm:qp Tryz.prog 125=True:=eq_true ⟨_,Tryz.func125,of_decide_eq_false (by kernel_rfl),rfl⟩
theorem aTl:qp Tryz.prog 126=True:=eq_true ⟨_,Tryz.func126,of_decide_eq_false (by kernel_rfl),rfl⟩
theorem aTk:qp Tryz.prog 127=True:=eq_true ⟨_,Tryz.func127,of_decide_eq_false (by kernel_rfl),rfl⟩
theorem aTj:qp Tryz.prog 128=True:=eq_true ⟨_,Tryz.func128,of_decide_eq_false (by kernel_rfl),rfl⟩
theorem aTi:qp Tryz.prog 129=True:=eq_true ⟨_,Tryz.func129,of_decide_eq_false (by kernel_rfl),rfl⟩
theorem aTh:qp Tryz.prog 130=True:=eq_true ⟨_,Tryz.func130,of_decide_eq_false (by kernel_rfl),rfl⟩
theorem aTg:qp Tryz.prog 131=True:=eq_true ⟨_,Tryz.func131,of_decide_eq_false (by kernel_rfl),rfl⟩
theorem aTf:qp Tryz.prog 132=True:=eq_true ⟨_,Tryz.func132,of_decide_eq_false (by kernel_rfl),rfl⟩
theorem aTe:qp Tryz.prog 133=True:=eq_true ⟨_,Tryz.func133,of_decide_eq_false (by kernel_rfl),rfl⟩
theorem aTd:qp Tryz.prog 134=True:=eq_true ⟨_,Tryz.func134,of_decide_eq_false (by kernel_rfl),rfl⟩
theorem aTc:qp Tryz.prog 135=True:=eq_true ⟨_,Tryz.func135,of_decide_eq_false (by kernel_rfl),rfl⟩
theorem aTb:qp Tryz.prog 136=True:=eq_true ⟨_,Tryz.func136,of_decide_eq_false (by kernel_rfl),rfl⟩
theorem aTa:qp Tryz.prog 137=True:=eq_true ⟨_,Tryz.func137,of_decide_eq_false (by kernel_rfl),rfl⟩
theorem aS9:qp Tryz.prog 138=True:=eq_true ⟨_,Tryz.func138,of_decide_eq_false (by kernel_rfl),rfl⟩
theorem aS8:qp Tryz.prog 139=True:=eq_true ⟨_,Tryz.func139,of_decide_eq_false (by kernel_rfl),rfl⟩
theorem aS7:qp Tryz.prog 140=True:=eq_true ⟨_,Tryz.func140,of_decide_eq_false (by kernel_rfl),rfl⟩
theorem aS6:qp Tryz.prog 141=True:=eq_true ⟨_,Tryz.func141,of_decide_eq_false (by kernel_rfl),rfl⟩
theorem aS5:qp Tryz.prog 142=True:=eq_true ⟨_,Tryz.func142,of_decide_eq_false (by kernel_rfl),rfl⟩
theorem aS4:qp Tryz.prog 143=True:=eq_true ⟨_,Tryz.func143,of_decide_eq_false (by kernel_rfl),rfl⟩
theorem aS3:qp Tryz.prog 144=True:=eq_true ⟨_,Tryz.func144,of_decide_eq_false (by kernel_rfl),rfl⟩
theorem aS2:qp Tryz.prog 145=True:=eq_true ⟨_,Tryz.func145,of_decide_eq_false (by kernel_rfl),rfl⟩
theorem aS1:qp Tryz.prog 146=True:=eq_true ⟨_,Tryz.func146,of_decide_eq_false (by kernel_rfl),rfl⟩
theorem aS0:qp Tryz.prog 147=True:=eq_true ⟨_,Tryz.func147,of_decide_eq_false (by kernel_rfl),rfl⟩
theorem aSZ:qp Tryz.prog 148=True:=eq_true ⟨_,Tryz.func148,of_decide_eq_false (by kernel_rfl),rfl⟩
theorem aSY:qp Tryz.prog 149=True:=eq_true ⟨_,Tryz.func149,of_decide_eq_false (by kernel_rfl),rfl⟩
theorem aSX:qp Tryz.prog 150=True:=eq_true ⟨_,Tryz.func150,of_decide_eq_false (by kernel_rfl),rfl⟩
theorem aSW:qp Tryz.prog 151=True:=eq_true ⟨_,Tryz.func151,of_decide_eq_false (by kernel_rfl),rfl⟩
theorem aSV:qp Tryz.prog 152=True:=eq_true ⟨_,Tryz.func152,of_decide_eq_false (by kernel_rfl),rfl⟩
theorem aSU:qp Tryz.prog 153=True:=eq_true ⟨_,Tryz.func153,of_decide_eq_false (by kernel_rfl),rfl⟩
theorem aST:qp Tryz.prog 154=True:=eq_true ⟨_,Tryz.func154,of_decide_eq_false (by kernel_rfl),rfl⟩
theorem aSS:qp Tryz.prog 155=True:=eq_true ⟨_,Tryz.func155,of_decide_eq_false (by kernel_rfl),rfl⟩
theorem aSR:qp Tryz.prog 156=True:=eq_true ⟨_,Tryz.func156,of_decide_eq_false (by kernel_rfl),rfl⟩
theorem aSQ:qp Tryz.prog 157=True:=eq_true ⟨_,Tryz.func157,of_decide_eq_false (by kernel_rfl),rfl⟩
theorem aSP:qp Tryz.prog 158=True:=eq_true ⟨_,Tryz.func158,of_decide_eq_false (by kernel_rfl),rfl⟩
theorem aSO:qp Tryz.prog 159=True:=eq_true ⟨_,Tryz.func159,of_decide_eq_false (by kernel_rfl),rfl⟩
theorem aSN:qp Tryz.prog 160=True:=eq_true ⟨_,Tryz.func160,of_decide_eq_false (by kernel_rfl),rfl⟩
theorem aSM:qp Tryz.prog 161=True:=eq_true ⟨_,Tryz.func161,of_decide_eq_false (by kernel_rfl),rfl⟩
theorem aSL:qp Tryz.prog 162=True:=eq_true ⟨_,Tryz.func162,of_decide_eq_false (by kernel_rfl),rfl⟩
theorem aSK:qp Tryz.prog 163=True:=eq_true ⟨_,Tryz.func163,of_decide_eq_false (by kernel_rfl),rfl⟩
theorem aSJ:qp Tryz.prog 164=True:=eq_true ⟨_,Tryz.func164,of_decide_eq_false (by kernel_rfl),rfl⟩
theorem aSI:qp Tryz.prog 165=True:=eq_true ⟨_,Tryz.func165,of_decide_eq_false (by kernel_rfl),rfl⟩
theorem aSH:qp Tryz.prog 166=True:=eq_true ⟨_,Tryz.func166,of_decide_eq_false (by kernel_rfl),rfl⟩
theorem aSG:qp Tryz.prog 167=True:=eq_true ⟨_,Tryz.func167,of_decide_eq_false (by kernel_rfl),rfl⟩
theorem aSF:qp Tryz.prog 168=True:=eq_true ⟨_,Tryz.func168,of_decide_eq_false (by kernel_rfl),rfl⟩
theorem aSE:qp Tryz.prog 169=True:=eq_true ⟨_,Tryz.func169,of_decide_eq_false (by kernel_rfl),rfl⟩
theorem aSD:qp Tryz.prog 170=True:=eq_true ⟨_,Tryz.func170,of_decide_eq_false (by kernel_rfl),rfl⟩
theorem aSC:qp Tryz.prog 171=True:=eq_true ⟨_,Tryz.func171,of_decide_eq_false (by kernel_rfl),rfl⟩
theorem aSB:qp Tryz.prog 172=True:=eq_true ⟨_,Tryz.func172,of_decide_eq_false (by kernel_rfl),rfl⟩
theorem aSA:qp Tryz.prog 173=True:=eq_true ⟨_,Tryz.func173,of_decide_eq_false (by kernel_rfl),rfl⟩
theorem aSz:qp Tryz.prog 174=True:=eq_true ⟨_,Tryz.func174,of_decide_eq_false (by kernel_rfl),rfl⟩
theorem aSy:qp Tryz.prog 175=True:=eq_true ⟨_,Tryz.func175,of_decide_eq_false (by kernel_rfl),rfl⟩
theorem aSx:qp Tryz.prog 176=True:=eq_true ⟨_,Tryz.func176,of_decide_eq_false (by kernel_rfl),rfl⟩
theorem aSw:qp Tryz.prog 177=True:=eq_true ⟨_,Tryz.func177,of_decide_eq_false (by kernel_rfl),rfl⟩
theorem aSv:qp Tryz.prog 178=True:=eq_true ⟨_,Tryz.func178,of_decide_eq_false (by kernel_rfl),rfl⟩
theorem aSu:qp Tryz.prog 179=True:=eq_true ⟨_,Tryz.func179,of_decide_eq_false (by kernel_rfl),rfl⟩
theorem aSt:qp Tryz.prog 180=True:=eq_true ⟨_,Tryz.func180,of_decide_eq_false (by kernel_rfl),rfl⟩
theorem aSs:qp Tryz.prog 181=True:=eq_true ⟨_,Tryz.func181,of_decide_eq_false (by kernel_rfl),rfl⟩
theorem aSr:qp Tryz.prog 182=True:=eq_true ⟨_,Tryz.func182,of_decide_eq_false (by kernel_rfl),rfl⟩
theorem aSq:qp Tryz.prog 183=True:=eq_true ⟨_,Tryz.func183,of_decide_eq_false (by kernel_rfl),rfl⟩
theorem aSp:qp Tryz.prog 184=True:=eq_true ⟨_,Tryz.func184,of_decide_eq_false (by kernel_rfl),rfl⟩
theorem aSo:qp Tryz.prog 185=True:=eq_true ⟨_,Tryz.func185,of_decide_eq_false (by kernel_rfl),rfl⟩
theorem aSn:qp Tryz.prog 186=True:=eq_true ⟨_,Tryz.func186,of_decide_eq_false (by kernel_rfl),rfl⟩
theorem aSm:qp Tryz.prog 187=True:=eq_true ⟨_,Tryz.func187,of_decide_eq_false (by kernel_rfl),rfl⟩
theorem aSl:qp Tryz.prog 188=True:=eq_true ⟨_,Tryz.func188,of_decide_eq_false (by kernel_rfl),rfl⟩
theorem aSk:qp Tryz.prog 189=True:=eq_true ⟨_,Tryz.func189,of_decide_eq_false (by kernel_rfl),rfl⟩
theorem aSj:qp Tryz.prog 190=True:=eq_true ⟨_,Tryz.func190,of_decide_eq_false (by kernel_rfl),rfl⟩
theorem aSi:qp Tryz.prog 191=True:=eq_true ⟨_,Tryz.func191,of_decide_eq_false (by kernel_rfl),rfl⟩
theorem aSh:qp Tryz.prog 192=True:=eq_true ⟨_,Tryz.func192,of_decide_eq_false (by kernel_rfl),rfl⟩
theorem aSg:qp Tryz.prog 193=True:=eq_true ⟨_,Tryz.func193,of_decide_eq_false (by kernel_rfl),rfl⟩
theorem aSf:qp Tryz.prog 194=True:=eq_true ⟨_,Tryz.func194,of_decide_eq_false (by kernel_rfl),rfl⟩
theorem aSe:qp Tryz.prog 195=True:=eq_true ⟨_,Tryz.func195,of_decide_eq_false (by kernel_rfl),rfl⟩
theorem aSd:qp Tryz.prog 196=True:=eq_true ⟨_,Tryz.func196,of_decide_eq_false (by kernel_rfl),rfl⟩
theorem aSc:qp Tryz.prog 197=True:=eq_true ⟨_,Tryz.func197,of_decide_eq_false (by kernel_rfl),rfl⟩
theorem aSb:qp Tryz.prog 198=True:=eq_true ⟨_,Tryz.func198,of_decide_eq_false (by kernel_rfl),rfl⟩
theorem aSa:qp Tryz.prog 199=True:=eq_true ⟨_,Tryz.func199,of_decide_eq_false (by kernel_rfl),rfl⟩
theorem aR9:qp Tryz.prog 200=True:=eq_true ⟨_,Tryz.func200,of_decide_eq_false (by kernel_rfl),rfl⟩
theorem aR8:qp Tryz.prog 201=True:=eq_true ⟨_,Tryz.func201,of_decide_eq_false (by kernel_rfl),rfl⟩
theorem aR7:qp Tryz.prog 202=True:=eq_true ⟨_,Tryz.func202,of_decide_eq_false (by kernel_rfl),rfl⟩
theorem aR6:qp Tryz.prog 203=True:=eq_true ⟨_,Tryz.func203,of_decide_eq_false (by kernel_rfl),rfl⟩
theorem aR5:qp Tryz.prog 204=True:=eq_true ⟨_,Tryz.func204,of_decide_eq_false (by kernel_rfl),rfl⟩
theorem aR4:qp Tryz.prog 205=True:=eq_true ⟨_,Tryz.func205,of_decide_eq_false (by kernel_rfl),rfl⟩
theorem aR3:qp Tryz.prog 206=True:=eq_true ⟨_,Tryz.func206,of_decide_eq_false (by kernel_rfl),rfl⟩
theorem aR2:qp Tryz.prog 207=True:=eq_true ⟨_,Tryz.func207,of_decide_eq_false (by kernel_rfl),rfl⟩
theorem aR1:qp Tryz.prog 208=True:=eq_true ⟨_,Tryz.func208,of_decide_eq_false (by kernel_rfl),rfl⟩
theorem aR0:qp Tryz.prog 209=True:=eq_true ⟨_,Tryz.func209,of_decide_eq_false (by kernel_rfl),rfl⟩
theorem aRZ:qp Tryz.prog 210=True:=eq_true ⟨_,Tryz.func210,of_decide_eq_false (by kernel_rfl),rfl⟩
theorem aRY:qp Tryz.prog 211=True:=eq_true ⟨_,Tryz.func211,of_decide_eq_false (by kernel_rfl),rfl⟩
theorem aRX:qp Tryz.prog 212=True:=eq_true ⟨_,Tryz.func212,of_decide_eq_false (by kernel_rfl),rfl⟩
theorem aRW:qp Tryz.prog 213=True:=eq_true ⟨_,Tryz.func213,of_decide_eq_false (by kernel_rfl),rfl⟩
theorem aRV:qp Tryz.prog 214=True:=eq_true ⟨_,Tryz.func214,of_decide_eq_false (by kernel_rfl),rfl⟩
theorem aRU:qp Tryz.prog 215=True:=eq_true ⟨_,Tryz.func215,of_decide_eq_false (by kernel_rfl),rfl⟩
theorem aRT:qp Tryz.prog 216=True:=eq_true ⟨_,Tryz.func216,of_decide_eq_false (by kernel_rfl),rfl⟩
theorem aRS:qp Tryz.prog 217=True:=eq_true ⟨_,Tryz.func217,of_decide_eq_false (by kernel_rfl),rfl⟩
theorem aRR:qp Tryz.prog 218=True:=eq_true ⟨_,Tryz.func218,of_decide_eq_false (by kernel_rfl),rfl⟩
theorem aRQ:qp Tryz.prog 219=True:=eq_true ⟨_,Tryz.func219,of_decide_eq_false (by kernel_rfl),rfl⟩
theorem aRP:qp Tryz.prog 220=True:=eq_true ⟨_,Tryz.func220,of_decide_eq_false (by kernel_rfl),rfl⟩
theorem aRO:qp Tryz.prog 221=True:=eq_true ⟨_,Tryz.func221,of_decide_eq_false (by kernel_rfl),rfl⟩
theorem aRN:qp Tryz.prog 222=True:=eq_true ⟨_,Tryz.func222,of_decide_eq_false (by kernel_rfl),rfl⟩
theorem aRM:qp Tryz.prog 223=True:=eq_true ⟨_,Tryz.func223,of_decide_eq_false (by kernel_rfl),rfl⟩
theorem aRL:qp Tryz.prog 224=True:=eq_true ⟨_,Tryz.func224,of_decide_eq_false (by kernel_rfl),rfl⟩
theorem aRK:qp Tryz.prog 225=True:=eq_true ⟨_,Tryz.func225,of_decide_eq_false (by kernel_rfl),rfl⟩
theorem aRJ:qp Tryz.prog 226=True:=eq_true ⟨_,Tryz.func226,of_decide_eq_false (by kernel_rfl),rfl⟩
theorem aRI:qp Tryz.prog 227=True:=eq_true ⟨_,Tryz.func227,of_decide_eq_false (by kernel_rfl),rfl⟩
theorem aRH:qp Tryz.prog 228=True:=eq_true ⟨_,Tryz.func228,of_decide_eq_false (by kernel_rfl),rfl⟩
theorem aRG:qp Tryz.prog 229=True:=eq_true ⟨_,Tryz.func229,of_decide_eq_false (by kernel_rfl),rfl⟩
theorem aRF:qp Tryz.prog 230=True:=eq_true ⟨_,Tryz.func230,of_decide_eq_false (by kernel_rfl),rfl⟩
theorem aRE:qp Tryz.prog 231=True:=eq_true ⟨_,Tryz.func231,of_decide_eq_false (by kernel_rfl),rfl⟩
theorem aRD:qp Tryz.prog 232=True:=eq_true ⟨_,Tryz.func232,of_decide_eq_false (by kernel_rfl),rfl⟩
theorem aRC:qp Tryz.prog 233=True:=eq_true ⟨_,Tryz.func233,of_decide_eq_false (by kernel_rfl),rfl⟩
theorem aRB:qp Tryz.prog 234=True:=eq_true ⟨_,Tryz.func234,of_decide_eq_false (by kernel_rfl),rfl⟩
theorem aRA:qp Tryz.prog 235=True:=eq_true ⟨_,Tryz.func235,of_decide_eq_false (by kernel_rfl),rfl⟩
theorem aRz:qp Tryz.prog 236=True:=eq_true ⟨_,Tryz.func236,of_decide_eq_false (by kernel_rfl),rfl⟩
theorem aRy:qp Tryz.prog 237=True:=eq_true ⟨_,Tryz.func237,of_decide_eq_false (by kernel_rfl),rfl⟩
theorem aRx:qp Tryz.prog 238=True:=eq_true ⟨_,Tryz.func238,of_decide_eq_false (by kernel_rfl),rfl⟩
theorem aRw:qp Tryz.prog 239=True:=eq_true ⟨_,Tryz.func239,of_decide_eq_false (by kernel_rfl),rfl⟩
theorem aRv:qp Tryz.prog 240=True:=eq_true ⟨_,Tryz.func240,of_decide_eq_false (by kernel_rfl),rfl⟩
theorem aRu:qp Tryz.prog 241=True:=eq_true ⟨_,Tryz.func241,of_decide_eq_false (by kernel_rfl),rfl⟩
theorem aRt:qp Tryz.prog 242=True:=eq_true ⟨_,Tryz.func242,of_decide_eq_false (by kernel_rfl),rfl⟩
theorem aRs:qp Tryz.prog 243=True:=eq_true ⟨_,Tryz.func243,of_decide_eq_false (by kernel_rfl),rfl⟩
theorem aRr:qp Tryz.prog 244=True:=eq_true ⟨_,Tryz.func244,of_decide_eq_false (by kernel_rfl),rfl⟩
theorem aRq:qp Tryz.prog 245=True:=eq_true ⟨_,Tryz.func245,of_decide_eq_false (by kernel_rfl),rfl⟩
theorem aRp:qp Tryz.prog 246=True:=eq_true ⟨_,Tryz.func246,of_decide_eq_false (by kernel_rfl),rfl⟩
theorem aRo:qp Tryz.prog 247=True:=eq_true ⟨_,Tryz.func247,of_decide_eq_false (by kernel_rfl),rfl⟩
theorem aRn:qp Tryz.prog 248=True:=eq_true ⟨_,Tryz.func248,of_decide_eq_false (by kernel_rfl),rfl⟩
theorem aRm:qp Tryz.prog 249=True:=eq_true ⟨_,Tryz.func249,of_decide_eq_false (by kernel_rfl),rfl⟩
theorem aRl:qp Tryz.prog 250=True:=eq_true ⟨_,Tryz.func250,of_decide_eq_false (by kernel_rfl),rfl⟩
theorem aRk:qp Tryz.prog 251=True:=eq_true ⟨_,Tryz.func251,of_decide_eq_false (by kernel_rfl),rfl⟩
theorem aRj:qp Tryz.prog 252=True:=eq_true ⟨_,Tryz.func252,of_decide_eq_false (by kernel_rfl),rfl⟩
theorem aRi:qp Tryz.prog 253=True:=eq_true ⟨_,Tryz.func253,of_decide_eq_false (by kernel_rfl),rfl⟩
theorem aRh:qp Tryz.prog 254=True:=eq_true ⟨_,Tryz.func254,of_decide_eq_false (by kernel_rfl),rfl⟩
theorem aRg:qp Tryz.prog 255=True:=eq_true ⟨_,Tryz.func255,of_decide_eq_false (by kernel_rfl),rfl⟩
theorem aRf:qp Tryz.prog 256=True:=eq_true ⟨_,Tryz.func256,of_decide_eq_false (by kernel_rfl),rfl⟩
theorem aRe:qp Tryz.prog 257=True:=eq_true ⟨_,Tryz.func257,of_decide_eq_false (by kernel_rfl),rfl⟩
theorem aRd:qp Tryz.prog 258=True:=eq_true ⟨_,Tryz.func258,of_decide_eq_false (by kernel_rfl),rfl⟩
theorem aRc:qp Tryz.prog 259=True:=eq_true ⟨_,Tryz.func259,of_decide_eq_false (by kernel_rfl),rfl⟩
theorem aRb:qp Tryz.prog 260=True:=eq_true ⟨_,Tryz.func260,of_decide_eq_false (by kernel_rfl),rfl⟩
theorem aRa:qp Tryz.prog 261=True:=eq_true ⟨_,Tryz.func261,of_decide_eq_false (by kernel_rfl),rfl⟩
theorem aQ9:qp Tryz.prog 262=True:=eq_true ⟨_,Tryz.func262,of_decide_eq_false (by kernel_rfl),rfl⟩
theorem aQ8:qp Tryz.prog 263=True:=eq_true ⟨_,Tryz.func263,of_decide_eq_false (by kernel_rfl),rfl⟩
theorem aQ7:qp Tryz.prog 264=True:=eq_true ⟨_,Tryz.func264,of_decide_eq_false (by kernel_rfl),rfl⟩
theorem aQ6:qp Tryz.prog 265=True:=eq_true ⟨_,Tryz.func265,of_decide_eq_false (by kernel_rfl),rfl⟩
theorem aQ5:qp Tryz.prog 266=True:=eq_true ⟨_,Tryz.func266,of_decide_eq_false (by kernel_rfl),rfl⟩
theorem aQ4:qp Tryz.prog 267=True:=eq_true ⟨_,Tryz.func267,of_decide_eq_false (by kernel_rfl),rfl⟩
theorem aQ3:qp Tryz.prog 268=True:=eq_true ⟨_,Tryz.func268,of_decide_eq_false (by kernel_rfl),rfl⟩
theorem aQ2:qp Tryz.prog 269=True:=eq_true ⟨_,Tryz.func269,of_decide_eq_false (by kernel_rfl),rfl⟩
theorem aQ1:qp Tryz.prog 270=True:=eq_true ⟨_,Tryz.func270,of_decide_eq_false (by kernel_rfl),rfl⟩
theorem aQ0:qp Tryz.prog 271=True:=eq_true ⟨_,Tryz.func271,of_decide_eq_false (by kernel_rfl),rfl⟩
theorem aQZ:qp Tryz.prog 272=True:=eq_true ⟨_,Tryz.func272,of_decide_eq_false (by kernel_rfl),rfl⟩
theorem aQY:qp Tryz.prog 273=True:=eq_true ⟨_,Tryz.func273,of_decide_eq_false (by kernel_rfl),rfl⟩
theorem aQX:qp Tryz.prog 274=True:=eq_true ⟨_,Tryz.func274,of_decide_eq_false (by kernel_rfl),rfl⟩
theorem aQW:qp Tryz.prog 275=True:=eq_true ⟨_,Tryz.func275,of_decide_eq_false (by kernel_rfl),rfl⟩
theorem aQV:qp Tryz.prog 276=True:=eq_true ⟨_,Tryz.func276,of_decide_eq_false (by kernel_rfl),rfl⟩
theorem aQU:qp Tryz.prog 277=True:=eq_true ⟨_,Tryz.func277,of_decide_eq_false (by kernel_rfl),rfl⟩
theorem aQT:qp Tryz.prog 278=True:=eq_true ⟨_,Tryz.func278,of_decide_eq_false (by kernel_rfl),rfl⟩
theorem aQS:qp Tryz.prog 279=True:=eq_true ⟨_,Tryz.func279,of_decide_eq_false (by kernel_rfl),rfl⟩
theorem aQR:qp Tryz.prog 280=True:=eq_true ⟨_,Tryz.func280,of_decide_eq_false (by kernel_rfl),rfl⟩
theorem aQQ:qp Tryz.prog 281=True:=eq_true ⟨_,Tryz.func281,of_decide_eq_false (by kernel_rfl),rfl⟩
theorem aQP:qp Tryz.prog 282=True:=eq_true ⟨_,Tryz.func282,of_decide_eq_false (by kernel_rfl),rfl⟩
theorem aQO:qp Tryz.prog 283=True:=eq_true ⟨_,Tryz.func283,of_decide_eq_false (by kernel_rfl),rfl⟩
theorem aQN:qp Tryz.prog 284=True:=eq_true ⟨_,Tryz.func284,of_decide_eq_false (by kernel_rfl),rfl⟩
theorem aQM:qp Tryz.prog 285=True:=eq_true ⟨_,Tryz.func285,of_decide_eq_false (by kernel_rfl),rfl⟩
theorem aQL:qp Tryz.prog 286=True:=eq_true ⟨_,Tryz.func286,of_decide_eq_false (by kernel_rfl),rfl⟩
theorem aQK:qp Tryz.prog 287=True:=eq_true ⟨_,Tryz.func287,of_decide_eq_false (by kernel_rfl),rfl⟩
theorem aQJ:qp Tryz.prog 288=True:=eq_true ⟨_,Tryz.func288,of_decide_eq_false (by kernel_rfl),rfl⟩
theorem aQI:qp Tryz.prog 289=True:=eq_true ⟨_,Tryz.func289,of_decide_eq_false (by kernel_rfl),rfl⟩
theorem aQH:qp Tryz.prog 290=True:=eq_true ⟨_,Tryz.func290,of_decide_eq_false (by kernel_rfl),rfl⟩
theorem aQG:qp Tryz.prog 291=True:=eq_true ⟨_,Tryz.func291,of_decide_eq_false (by kernel_rfl),rfl⟩
theorem aQF:qp Tryz.prog 292=True:=eq_true ⟨_,Tryz.func292,of_decide_eq_false (by kernel_rfl),rfl⟩
theorem aQE:qp Tryz.prog 293=True:=eq_true ⟨_,Tryz.func293,of_decide_eq_false (by kernel_rfl),rfl⟩
theorem aQD:qp Tryz.prog 294=True:=eq_true ⟨_,Tryz.func294,of_decide_eq_false (by kernel_rfl),rfl⟩
theorem aQC:qp Tryz.prog 295=True:=eq_true ⟨_,Tryz.func295,of_decide_eq_false (by kernel_rfl),rfl⟩
theorem aQB:qp Tryz.prog 296=True:=eq_true ⟨_,Tryz.func296,of_decide_eq_false (by kernel_rfl),rfl⟩
theorem aQA:qp Tryz.prog 318=True:=eq_true ⟨_,Tryz.func318,of_decide_eq_false (by kernel_rfl),rfl⟩
attribute [go_sem] ty1 aOM aJL aw3 anE aOK aOL ty2 aOJ aJp
attribute [go_sem] atQ amr aOH aOI ty3 aOG aIU atF ame aOE
attribute [go_sem] aOF ty4 aOD aIv atw al5 aOB aOC ty5 aOA
attribute [go_sem] aH9 ato alW aOy aOz ty6 aOx aHH ate alM
attribute [go_sem] aOv aOw ty7 aOu aHo as7 alD aOs aOt aTU
attribute [go_sem] bau aTT bat aTS bas aTR bar bfB ty8 aOr
attribute [go_sem] aGZ asY alr aOp aOq aTQ baq aTP bap aTO
attribute [go_sem] bao aTN ban bfA ty9 aOo aGA asP alh aOm
attribute [go_sem] aOn bd2 aJU aBa ao3 ajF aJS aJT bd1 aJR
attribute [go_sem] aAF aoS aju aJP aJQ bd0 aJO aAa aoH ajj
attribute [go_sem] aJM aJN bdZ aJK awb anl ahZ aJI aJJ bdY
attribute [go_sem] aJH avJ ana ahP aJF aJG bae bdX aJE ave
attribute [go_sem] amZ ahE aJC aJD bac bdW aJB auP amP ahv
attribute [go_sem] aJz aJA aMG aPH aMF aPG bcB bdV aJy aun
attribute [go_sem] amE ahl aJw aJx aME aPF aMD aPE bcA bdU
attribute [go_sem] aJv atS amt aha aJt aJu bdT aJs atR ams
attribute [go_sem] ag9 aJq aJr bdS aJo atP amq ag8 aJm aJn
attribute [go_sem] bdR aJl atO amp ag7 aJj aJk bdQ aJi atN
attribute [go_sem] amo ag6 aJg aJh bdP aJf atM amn ag5 aJd
attribute [go_sem] aJe bdO aJc atL amm ag4 aJa aJb bab bdN
attribute [go_sem] aI9 atK aml ag3 aI7 aI8 aMC aPD bcz bdM
attribute [go_sem] aI6 atJ amk ag2 aI4 aI5 aMB aPC bcy bdL
attribute [go_sem] aI3 atI ami ag1 aI1 aI2 aMA aPB aMz aPA
attribute [go_sem] bcx bdK aI0 atH amh ag0 aIY aIZ aMy aPz
attribute [go_sem] aMx aPy bcw bdJ aIX atG amf agZ aIV aIW
attribute [go_sem] aMw aPx aMv aPw bcv bdI aIT atE amd agY
attribute [go_sem] aIR aIS aMu aPv aMt aPu bcu bdH aIQ atD
attribute [go_sem] amc agX aIO aIP bdG aIN atC amb agW aIL
attribute [go_sem] aIM bdF aIK atB ama agV aII aIJ bdE aIH
attribute [go_sem] atA al9 agU aIF aIG bdD aIE atz al8 agT
attribute [go_sem] aIC aID bdC aIB aty al7 agS aIz aIA bdB
attribute [go_sem] aIy atx al6 agR aIw aIx bdA aIu atv al3
attribute [go_sem] agQ aIs aIt aMs aPt aMr aPs bct bdz aIr
attribute [go_sem] atu al2 agP aIp aIq aMq aPr aMp aPq bcs
attribute [go_sem] bdy aIo att al1 agO aIm aIn bdx aIl ats
attribute [go_sem] al0 agN aIj aIk bdw aIi atr alZ agM aIg
attribute [go_sem] aIh bdv aIf atq alY agL aId aIe bdu aIc
attribute [go_sem] atp alX agK aIa aIb bdt aH8 atn alV agJ
attribute [go_sem] aH6 aH7 bds aH5 atm alU agI aH3 aH4 bdr
attribute [go_sem] aH2 atl alT agH aH0 aH1 bdq aHZ atk alS
attribute [go_sem] agG aHX aHY bdp aHW atj alR agF aHU aHV
attribute [go_sem] bdo aHT ati alQ agE aHR aHS bdn aHQ ath
attribute [go_sem] alP agD aHO aHP bdm aHN atg alO agC aHL
attribute [go_sem] aHM bdl aHK atf alN agB aHI aHJ baa bdk
attribute [go_sem] aHG atd alL agA aHE aHF bdj aHD atc alK
attribute [go_sem] agz aHB aHC bdi aHA atb alJ agy aHy aHz
attribute [go_sem] bdh aHx ata alI agx aHv aHw bdg aHu as9
attribute [go_sem] alH agw aHs aHt bdf aHr as8 alG agv aHp
attribute [go_sem] aHq bde aHn as6 alC agu aHl aHm bdd aHk
attribute [go_sem] as5 alz agt aHi aHj aMo aPp aMn aPo bcr
attribute [go_sem] bdc aHh as4 alx ags aHf aHg aMm aPn aMl
attribute [go_sem] aPm bcq bdb aHe as3 alw agr aHc aHd bda
attribute [go_sem] aHb as2 alv agq aG9 aHa bc9 aG8 as1 alu
attribute [go_sem] agp aG6 aG7 bc8 aG5 as0 alt ago aG3 aG4
attribute [go_sem] bc7 aG2 asZ als agn aG0 aG1 bc6 aGY asX
attribute [go_sem] alq agm aGW aGX bc5 aGV asW alp agl aGT
attribute [go_sem] aGU bc4 aGS asV alo agk aGQ aGR bc3 aGP
attribute [go_sem] asU aln agj aGN aGO bc2 aGM asT alm agi
attribute [go_sem] aGK aGL bc1 aGJ asS alk agh aGH aGI bc0
attribute [go_sem] aGG asR alj agf aGE aGF bcZ aGD asQ ali
attribute [go_sem] age aGB aGC aXK aBB apc ajO ad1 aBz aBA
attribute [go_sem] aXJ aBy apb ajN ad0 aBw aBx aXI aBv apa
attribute [go_sem] ajM adY aBt aBu aXH aBs ao9 ajL adX aBq
attribute [go_sem] aBr aXG aBp ao8 ajK adW aBn aBo aXF aBm
attribute [go_sem] ao7 ajJ adV aBk aBl aXE aBj ao6 ajI adU
attribute [go_sem] aBh aBi aXD aBg ao5 ajH adT aBe aBf aXC
attribute [go_sem] aBd ao4 ajG adR aBb aBc aXB aA9 ao2 ajE
attribute [go_sem] adQ aA7 aA8 aXA aA6 ao1 ajD adP aA4 aA5
attribute [go_sem] aO6 aXz aA3 ao0 ajC adO aA1 aA2 aDH aKS
attribute [go_sem] aDG aKR aUB aXy aA0 aoZ ajB adN aAY aAZ
attribute [go_sem] aDF aKQ aDE aKP aUA aXx aAX aoY ajA adL
attribute [go_sem] aAV aAW aXw aAU aoX ajz adK aAS aAT aXv
attribute [go_sem] aAR aoW ajy adJ aAP aAQ aXu aAO aoV ajx
attribute [go_sem] adI aAM aAN aDD aKO aDC aKN aDB aKM aUz
attribute [go_sem] aXt aAL aoU ajw adH aAJ aAK aDA aKL aDz
attribute [go_sem] aKK aDy aKJ aUy aXs aAI aoT ajv adG aAG
attribute [go_sem] aAH aXr aAE aoR ajt adF aAC aAD aXq aAB
attribute [go_sem] aoQ ajs adE aAz aAA aXp aAy aoP ajr adD
attribute [go_sem] aAw aAx aXo aAv aoO ajq adC aAt aAu aXn
attribute [go_sem] aAs aoN ajp adB aAq aAr aXm aAp aoM ajo
attribute [go_sem] adA aAn aAo aXl aAm aoL ajn adz aAk aAl
attribute [go_sem] aXk aAj aoK ajm ady aAh aAi aXj aAg aoJ
attribute [go_sem] ajl adx aAe aAf aXi aAd aoI ajk adw aAb
attribute [go_sem] aAc aXh az9 aoG aji adv az7 az8 aXg az6
attribute [go_sem] aoF ajh adu az4 az5 aXf az3 aoE ajg adt
attribute [go_sem] az1 az2 aDx aKI aDw aKH aUx aXe az0 aoD
attribute [go_sem] ajf ads azY azZ aDv aKG aDu aKF aUw aXd
attribute [go_sem] azX aoC aje adr azV azW aXc azU aoB ajd
attribute [go_sem] adq azS azT aXb azR aoA ajc adp azP azQ
attribute [go_sem] aXa azO aoz ajb ado azM azN aW9 azL aoy
attribute [go_sem] aja adn azJ azK aW8 azI aox ai9 adm azG
attribute [go_sem] azH aW7 azF aow ai8 adl azD azE aW6 azC
attribute [go_sem] aov ai7 adk azA azB aW5 azz aou ai6 adj
attribute [go_sem] azx azy aW4 azw aot ai5 adi azu azv aW3
attribute [go_sem] azt aos ai4 adh azr azs aW2 azq aor ai3
attribute [go_sem] adg azo azp aW1 azn aoq ai2 adf azl azm
attribute [go_sem] aW0 azk aop ai1 ade azi azj aWZ azh aoo
attribute [go_sem] ai0 adc azf azg aWY aze aon aiZ adb azc
attribute [go_sem] azd aWX azb aom aiY ada ay9 aza aWW ay8
attribute [go_sem] aol aiX ac9 ay6 ay7 aO5 aWV ay5 aok aiW
attribute [go_sem] ac8 ay3 ay4 aDt aKE aDs aKD aUv aWU ay2
attribute [go_sem] aoj aiV ac7 ay0 ay1 aDr aKC aDq aKB aUu
attribute [go_sem] aWT ayZ aoi aiU ac6 ayX ayY aWS ayW aoh
attribute [go_sem] aiT ac5 ayU ayV aWR ayT aog aiS ac4 ayR
attribute [go_sem] ayS aWQ ayQ aof aiR ac3 ayO ayP aWP ayN
attribute [go_sem] aoe aiQ ac2 ayL ayM aWO ayK aod aiP ac1
attribute [go_sem] ayI ayJ aWN ayH aoc aiO ac0 ayF ayG aWM
attribute [go_sem] ayE aob aiN acZ ayC ayD aWL ayB aoa aiM
attribute [go_sem] acY ayz ayA aWK ayy an9 aiL acX ayw ayx
attribute [go_sem] aWJ ayv an8 aiK acW ayt ayu aWI ays an7
attribute [go_sem] aiJ acV ayq ayr aWH ayp an6 aiI acU ayn
attribute [go_sem] ayo aWG aym an5 aiH acT ayk ayl aWF ayj
attribute [go_sem] an4 aiG acS ayh ayi aWE ayg an3 aiF acR
attribute [go_sem] aye ayf aWD ayd an2 aiE acQ ayb ayc aDp
attribute [go_sem] aKA aDo aKz aDn aKy aUt aWC aya an1 aiD
attribute [go_sem] acP ax8 ax9 aDm aKx aDl aKw aDk aKv aUs
attribute [go_sem] aWB ax7 an0 aiC acO ax5 ax6 aWA ax4 anZ
attribute [go_sem] aiB acN ax2 ax3 aWz ax1 anY aiA acM axZ
attribute [go_sem] ax0 aWy axY anX aiz acL axW axX aWx axV
attribute [go_sem] anW aiy acK axT axU aWw axS anV aix acJ
attribute [go_sem] axQ axR aWv axP anU aiw acI axN axO aWu
attribute [go_sem] axM anT aiv acH axK axL aWt axJ anS aiu
attribute [go_sem] acG axH axI aWs axG anR ait acF axE axF
attribute [go_sem] aWr axD anQ ais acE axB axC aWq axA anP
attribute [go_sem] air acD axy axz aWp axx anO aiq acC axv
attribute [go_sem] axw aWo axu anN aip acB axs axt aWn axr
attribute [go_sem] anM aio acA axp axq aWm axo anL ain acz
attribute [go_sem] axm axn aWl axl anK aim acy axj axk aWk
attribute [go_sem] axi anJ ail acx axg axh aO4 aWj axf anI
attribute [go_sem] aik acw axd axe aWi axc anH aij acv axa
attribute [go_sem] axb aWh aw9 anG aii acu aw7 aw8 aWg aw6
attribute [go_sem] anF aih act aw4 aw5 aWf aw2 anD aig acs
attribute [go_sem] aw0 aw1 aWe awZ anC aif acr awX awY aWd
attribute [go_sem] awW anB aie acq awT awU aWc awS anA aid
attribute [go_sem] acp awQ awR aWb awP anz aic aco awN awO
attribute [go_sem] aWa awM anx aib acn awK awL aV9 awJ anw
attribute [go_sem] aia acm awH awI aV8 awG anv ah9 acl awE
attribute [go_sem] awF aV7 awD anu ah8 ack awB awC aV6 awA
attribute [go_sem] ant ah7 acj awy awz aV5 awx ans ah6 aci
attribute [go_sem] awv aww aV4 awu anr ah5 ach aws awt aV3
attribute [go_sem] awr anq ah4 acg awo awq aV2 awn anp ah3
attribute [go_sem] acf awl awm aV1 awk ano ah2 ace awi awj
attribute [go_sem] aV0 awh ann ah1 acd awf awg aVZ awe anm
attribute [go_sem] ah0 acb awc awd aVY awa ank ahY aca av8
attribute [go_sem] av9 aVX av7 anj ahX ab9 av5 av6 aVW av4
attribute [go_sem] ani ahW ab8 av2 av3 aVV av1 anh ahV ab7
attribute [go_sem] avZ av0 aVU avY ang ahU ab6 avW avX aVT
attribute [go_sem] avV anf ahT ab5 avT avU aVS avS ane ahS
attribute [go_sem] ab4 avQ avR aVR avP anc ahR ab3 avN avO
attribute [go_sem] aVQ avM anb ahQ ab2 avK avL aVP avI am9
attribute [go_sem] ahO ab1 avG avH aVO avF am8 ahN ab0 avD
attribute [go_sem] avE aVN avC am7 ahM abZ avA avB aVM avz
attribute [go_sem] am6 ahL abY avx avy aVL avw am5 ahK abX
attribute [go_sem] avu avv aVK avt am4 ahJ abW avr avs aVJ
attribute [go_sem] avq am3 ahI abV avo avp aVI avn am2 ahH
attribute [go_sem] abU avl avm aVH avk am1 ahG abT avi avj
attribute [go_sem] aVG avh am0 ahF abS avf avg aVF avd amX
attribute [go_sem] ahD abR avb avc aVE ava amW ahC abQ au8
attribute [go_sem] au9 aVD au7 amV ahB abP au5 au6 aVC au4
attribute [go_sem] amU ahA abO au2 au3 aVB au1 amT ahz abN
attribute [go_sem] auZ au0 aVA auY amS ahy abM auW auX aVz
attribute [go_sem] auV amR ahx abL auT auU aVy auS amQ ahw
attribute [go_sem] abK auQ auR aVx auO amN ahu abJ auM auN
attribute [go_sem] aVw auL amM aht abI auJ auK aVv auI amL
attribute [go_sem] ahs abH auG auH aVu auF amK ahr abG auD
attribute [go_sem] auE aVt auC amJ ahq abF auA auB aVs auz
attribute [go_sem] amI ahp abE aux auy aVr auw amH aho abD
attribute [go_sem] auu auv aVq aut amG ahn abC aur aus aVp
attribute [go_sem] auq amF ahm abB auo aup aVo aum amD ahk
attribute [go_sem] abA auk aul aVn auj amC ahj abz auh aui
attribute [go_sem] aVm aug amB ahi aby aue auf aVl aud amA
attribute [go_sem] ahh abx aub auc aVk aua amz ahg abw at8
attribute [go_sem] at9 aVj at7 amy ahf abv at5 at6 aVi at4
attribute [go_sem] amx ahe abu at2 at3 aVh at1 amw ahd abt
attribute [go_sem] atZ at0 aVg atY amv ahc abr atW atX aVf
attribute [go_sem] atV amu ahb abq atT atU bfx bfw bfv bfu
attribute [go_sem] bft bfs bfr bfq bcg bcf bce bcd bcc bcb
attribute [go_sem] bca bb9 bb8 bb7 bb6 bb5 bb4 bb3 bb2 bb1
attribute [go_sem] bb0 bbZ bbY bbX bbW bbV bbU bbT bbS bbR
attribute [go_sem] bbQ bbP bbO bbN bbM bbL bbK bbJ bbI bbH
attribute [go_sem] bbG bbF bbE bbD bbC bbB bbA bbz bby bbx
attribute [go_sem] bbw bbv bbu bbt bbs bbr bbq bbp bbo bbn
attribute [go_sem] bbm bbl bbk bbj bbi bbh bbg bbf bbe bbd
attribute [go_sem] bbc bbb bba ba9 ba8 ba7 ba6 ba5 ba4 ba3
attribute [go_sem] ba2 ba1 ba0 baZ baY baX baW baV baU baT
attribute [go_sem] baS baR baQ baP aTL aTK aTJ aTI aTH aTG
attribute [go_sem] aTF aTE aTD aTC aTB aTA aTz aTy aTx aTw
attribute [go_sem] aTv aTu aTt aTs aTr aTq aTp aTo aTn aTm
attribute [go_sem] aTl aTk aTj aTi aTh aTg aTf aTe aTd aTc
attribute [go_sem] aTb aTa aS9 aS8 aS7 aS6 aS5 aS4 aS3 aS2
attribute [go_sem] aS1 aS0 aSZ aSY aSX aSW aSV aSU aST aSS
attribute [go_sem] aSR aSQ aSP aSO aSN aSM aSL aSK aSJ aSI
attribute [go_sem] aSH aSG aSF aSE aSD aSC aSB aSA aSz aSy
attribute [go_sem] aSx aSw aSv aSu aSt aSs aSr aSq aSp aSo
attribute [go_sem] aSn aSm aSl aSk aSj aSi aSh aSg aSf aSe
attribute [go_sem] aSd aSc aSb aSa aR9 aR8 aR7 aR6 aR5 aR4
attribute [go_sem] aR3 aR2 aR1 aR0 aRZ aRY aRX aRW aRV aRU
attribute [go_sem] aRT aRS aRR aRQ aRP aRO aRN aRM aRL aRK
attribute [go_sem] aRJ aRI aRH aRG aRF aRE aRD aRC aRB aRA
attribute [go_sem] aRz aRy aRx aRw aRv aRu aRt aRs aRr aRq
attribute [go_sem] aRp aRo aRn aRm aRl aRk aRj aRi aRh aRg
attribute [go_sem] aRf aRe aRd aRc aRb aRa aQ9 aQ8 aQ7 aQ6
attribute [go_sem] aQ5 aQ4 aQ3 aQ2 aQ1 aQ0 aQZ aQY aQX aQW
attribute [go_sem] aQV aQU aQT aQS aQR aQQ aQP aQO aQN aQM
attribute [go_sem] aQL aQK aQJ aQI aQH aQG aQF aQE aQD aQC
attribute [go_sem] aQB aQA
end Go.Ab
namespace Go.Ab
open Go Go.Proofs
set_option maxRecDepth 100000 in
theorem ae0(U V:List Int)(j:Nat)(hU:gd U)(hV:gd V)(lU:U.length≤2000000)(h2:2≤V.length)(hj:j+V.length<U.length)(hv1:32768≤V.getD (V.length-1) 0)(hW:vl (U.drop j)<65536*vl V):
  Con Tryz.prog 289 true [.sl U.length (qc U),.sl V.length (qc V),.v (.int .i64 j)] [] (fun r hs bs=>∃q:Int,r=.v (.int .i64 q)∧hs=[]∧bs=[]∧(0≤q∧q<65536)∧vl (U.drop j)<(q+1)*vl V∧q*vl V<vl (U.drop j)+vl V):=by
 refine Con.of_aw Tryz.func289 rfl Tryz.ntmps289 (by simp) (by simp) (by simp) (W.sound ?_)
 show @W Tryz.prog 76 ⟨_⟩ ⟨fun x σ=>@q9 _ _ _ ⟨_⟩ _ ⟨_⟩ x σ⟩ _ _
 have hDl:V.length<(U.drop j).length:=by simp;omega
 have hz:=afp (yB hU j) hV hDl hW
 have hw:=aOd hDl h2 hz
 have hvv:=aGr h2
 rw[zZ,zZ,zZ]at hw
 have hx0:=qW (yi (yB hU j) (V.length-2))
 have hx1:=QL (yi (yB hU j) (V.length-2))
 have hy0:=qW (yi hV (V.length-2))
 have hy1:=QL (yi hV (V.length-2))
 rw[List.length_take,Nat.min_eq_left (by omega)]at hx1 hy1
 have gu0:=qJ hU (j+V.length)
 have gu1:=qJ hU (j+(V.length-1))
 have gu2:=qJ hU (j+(V.length-2))
 have gv1:=qJ hV (V.length-1)
 have gv2:=qJ hV (V.length-2)
 have htop:=aQg hw hvv ⟨hx0,hx1⟩ ⟨hy0,hy1⟩ gu2.1 gu1.1 gv2.2 hW
 have e0:((j:Int)+(V.length:Int)).toNat=j+V.length:=by omega
 have e1:((j:Int)+(V.length:Int)-1).toNat=j+(V.length-1):=by omega
 have e2:((j:Int)+(V.length:Int)-2).toNat=j+(V.length-2):=by omega
 have f1:((V.length:Int)-1).toNat=V.length-1:=by omega
 have f2:((V.length:Int)-2).toNat=V.length-2:=by omega
 simp(disch:=omega)only[go_sem]
 refine qq rfl [⟨0,[],[]⟩,⟨1,[],[]⟩,⟨2,[],[]⟩,⟨3,[],[]⟩,⟨4,[],[]⟩,⟨5,[],[]⟩,⟨6,[],[]⟩,⟨7,[5],[]⟩,⟨8,[5],[]⟩,⟨9,[5],[]⟩,⟨10,[5],[]⟩,⟨11,[5],[]⟩,⟨12,[5],[]⟩,⟨13,[5],[]⟩,⟨14,[],[]⟩,⟨15,[],[]⟩] (by kernel_rfl) ?_
 simp(disch:=omega)only[go_sem,e0,e1]
 generalize hu0:U.getD (j+V.length) 0=u0 at*
 generalize hu1:U.getD (j+(V.length-1)) 0=u1 at*
 generalize hu2:U.getD (j+(V.length-2)) 0=u2 at*
 refine⟨by omega,by omega,by omega,by omega,?_⟩
 refine qq rfl [⟨0,[],[]⟩,⟨1,[],[]⟩,⟨2,[],[]⟩,⟨3,[],[]⟩,⟨4,[],[]⟩,⟨5,[],[]⟩,⟨6,[],[]⟩,⟨7,[5],[]⟩,⟨8,[5],[]⟩,⟨9,[5],[]⟩,⟨10,[5],[]⟩,⟨11,[5],[]⟩,⟨12,[5],[]⟩,⟨13,[5],[]⟩,⟨14,[12],[]⟩,⟨15,[],[]⟩] (by kernel_rfl) ?_
 simp(disch:=omega)only[go_sem,f1]
 generalize hvv1:V.getD (V.length-1) 0=v1 at*
 generalize hvv2:V.getD (V.length-2) 0=v2 at*
 generalize htt:u0*65536+u1=top at*
 refine⟨by omega,by omega,by omega,by omega,by omega,by omega,?_⟩
 have hq0:0≤top/v1:=Int.ediv_nonneg (by omega) (by omega)
 have hq1:top/v1≤65537:=by
  have:top/v1<65538:=Int.ediv_lt_of_lt_mul (by omega) (by omega)
  omega
 have hr0:=Int.emod_nonneg top (show v1≠0 by omega)
 have hr1:=Int.emod_lt_of_pos top (show 0<v1 by omega)
 have hqr:=Int.emod_add_mul_ediv top v1
 have hini:=aLL hw hvv ⟨hx0,hx1⟩ ⟨hy0,hy1⟩ gu2 gv2.1 hq0 (show top<(top/v1+1)*v1 by rw[Int.add_mul,Int.mul_comm (top/v1)];omega)
 have hqr':top/v1*v1+top % v1=top:=by rw[Int.mul_comm];omega
 generalize top/v1=q0 at*
 generalize top % v1=r0 at*
 refine qj (fun x:Int×Int=>[(0,.sl U.length (qc U)),(1,.sl V.length (qc V)),(2,.v (.int .i64 j)),(7,.v (.int .i64 V.length)),(9,.v (.int .i64 x.1)),(10,.v (.int .i64 x.2))])
  (fun _=>[]) (fun x=>(0≤x.1∧x.1≤65537)∧(0≤x.2∧x.2<65536)∧x.1*v1+x.2=top∧vl (U.drop j)<(x.1+1)*vl V) (fun x=>x.1.toNat) (q0,r0) ⟨⟨hq0,hq1⟩,⟨hr0,by omega⟩,hqr',hini⟩
  (Le.lst [] _ _ rfl (by simp(disch:=omega)only[go_sem];try omega) (by simp(disch:=omega)only[go_sem])) ?_
 rintro⟨q,r⟩ ⟨hq,hr,hqr2,hlt⟩
 dsimp only at hq hr hqr2 hlt ⊢
 have hqv:0≤q*v2∧q*v2≤65537*65535:=⟨Int.mul_nonneg hq.1 gv2.1,Int.mul_le_mul hq.2 (by omega) gv2.1 (by omega)⟩
 simp(disch:=omega)only[go_sem]
 refine qq rfl [⟨0,[],[]⟩,⟨1,[],[]⟩,⟨2,[],[]⟩,⟨3,[],[]⟩,⟨4,[],[]⟩,⟨5,[],[]⟩,⟨6,[],[]⟩,⟨7,[],[]⟩,⟨8,[],[]⟩,⟨9,[],[]⟩,⟨10,[8],[]⟩,⟨11,[8],[]⟩,⟨12,[8],[]⟩,⟨13,[8],[]⟩,⟨14,[8],[]⟩,⟨15,[8],[]⟩,⟨16,[8],[]⟩,⟨17,[8],[]⟩,⟨18,[8],[]⟩,⟨19,[8],[]⟩,⟨20,[],[]⟩,⟨21,[],[]⟩] (by kernel_rfl) ?_
 simp(disch:=omega)only[go_sem]
 refine zH (fun h1=>?_) (fun h1=>?_)
 ·simp(disch:=omega)only[go_sem,h1,e2,f2,hu2,hvv2]
  refine⟨by omega,by omega,by omega,by omega,qe (fun h2=>?_) (fun h2=>?_)⟩
  ·simp(disch:=omega)only[go_sem,h2,f1,hvv1]
   have hst:=aqh hw hvv ⟨hx0,hx1⟩ ⟨hy0,hy1⟩ hW gv2.1 (by omega) hq.1 hqr2 (.inr h2)
   have hqp:0<q:=by
    rcases(by omega:0<q∨q=0)with h|h
    ·exact h
    ·subst h;omega
   have hm:(q-1)*v1+(r+v1)=top:=by rw[Int.sub_mul];omega
   refine⟨by omega,by omega,qe (fun h3=>?_) (fun h3=>?_)⟩
   ·simp(disch:=omega)only[go_sem,h3]
    have h4:q-1<65536:=by
     rcases(by omega:q-1<65536∨65536≤q-1)with h|h
     ·exact h
     ·have:=Int.mul_le_mul_of_nonneg_right h (show 0≤v1 by omega)
      omega
    have h5:(q-1)*v2≤(r+v1)*65536+u2:=by
     have:(q-1)*v2≤65535*65535:=Int.mul_le_mul (by omega) (by omega) gv2.1 (by omega)
     omega
    have h6:=aeq hw hvv ⟨hx0,hx1⟩ ⟨hy0,hy1⟩ gv2.1 (by omega) ⟨by omega,h4⟩ hm h5
    exact qz (by simp(disch:=omega)only[go_sem]) (by simp(disch:=omega)only[go_sem]) ⟨q-1,rfl,rfl,rfl,⟨by omega,h4⟩,by rw[show q-1+1=q by omega];exact hst,h6⟩
   ·simp(disch:=omega)only[go_sem,h3]
    refine qb (q-1,r+v1) [] ⟨by show 0≤q-1∧q-1≤65537;omega,by show 0≤r+v1∧r+v1<65536;omega,hm,by show _<(q-1+1)*vl V;rw[show q-1+1=q by omega];exact hst⟩ (by show(q-1).toNat<q.toNat;omega) rfl (by simp(disch:=omega)only[go_sem];try omega) (by simp(disch:=omega)only[go_sem])
  ·simp(disch:=omega)only[go_sem,h2]
   have h6:=aeq hw hvv ⟨hx0,hx1⟩ ⟨hy0,hy1⟩ gv2.1 (by omega) ⟨hq.1,by omega⟩ hqr2 (by omega)
   exact qz (by simp(disch:=omega)only[go_sem]) (by simp(disch:=omega)only[go_sem]) ⟨q,rfl,rfl,rfl,⟨hq.1,by omega⟩,hlt,h6⟩
 ·simp(disch:=omega)only[go_sem,h1,f1,hvv1]
  have hst:=aqh hw hvv ⟨hx0,hx1⟩ ⟨hy0,hy1⟩ hW gv2.1 (by omega) hq.1 hqr2 (.inl h1)
  have hqp:0<q:=by omega
  have hm:(q-1)*v1+(r+v1)=top:=by rw[Int.sub_mul];omega
  refine⟨by omega,by omega,qe (fun h3=>?_) (fun h3=>?_)⟩
  ·simp(disch:=omega)only[go_sem,h3]
   have h4:q-1<65536:=by
    rcases(by omega:q-1<65536∨65536≤q-1)with h|h
    ·exact h
    ·have:=Int.mul_le_mul_of_nonneg_right h (show 0≤v1 by omega)
     omega
   have h5:(q-1)*v2≤(r+v1)*65536+u2:=by
    have:(q-1)*v2≤65535*65535:=Int.mul_le_mul (by omega) (by omega) gv2.1 (by omega)
    omega
   have h6:=aeq hw hvv ⟨hx0,hx1⟩ ⟨hy0,hy1⟩ gv2.1 (by omega) ⟨by omega,h4⟩ hm h5
   exact qz (by simp(disch:=omega)only[go_sem]) (by simp(disch:=omega)only[go_sem]) ⟨q-1,rfl,rfl,rfl,⟨by omega,h4⟩,by rw[show q-1+1=q by omega];exact hst,h6⟩
  ·simp(disch:=omega)only[go_sem,h3]
   refine qb (q-1,r+v1) [] ⟨by show 0≤q-1∧q-1≤65537;omega,by show 0≤r+v1∧r+v1<65536;omega,hm,by show _<(q-1+1)*vl V;rw[show q-1+1=q by omega];exact hst⟩ (by show(q-1).toNat<q.toNat;omega) rfl (by simp(disch:=omega)only[go_sem];try omega) (by simp(disch:=omega)only[go_sem])
end Go.Ab
namespace Go.Ab
open Go Go.Proofs
theorem aaL(U V:List Int)(j:Nat)(q:Int)(hU:gd U)(hV:gd V)(lU:U.length≤2000000)(hj:j+V.length<U.length)(hq:0≤q∧q<65536):
  Con Tryz.prog 290 false [.rf 10000000 0 U.length,.sl V.length (qc V),.v (.int .i64 j),.v (.int .i64 q)] [.own 1 (qc U)]
   (fun r hs bs=>∃(U':List Int) (bo:Int),r=.v (.bool (decide (U.getD (j+V.length) 0-bo<0)))∧hs=[]∧bs=[.own 1 (qc (U'.set (j+V.length) (U.getD (j+V.length) 0-bo)))]∧
    U'.length=U.length∧gd U'∧(0≤bo∧bo<65536)∧(∀t,t<j∨j+V.length≤t→U'.getD t 0=U.getD t 0)∧vl U'-65536^(j+V.length)*bo=vl U-65536^j*(q*vl V)):=by
 refine Con.of_aw Tryz.func290 rfl Tryz.ntmps290 (by simp) (by simp) (by simp) (W.sound ?_)
 show @W Tryz.prog 68 ⟨_⟩ ⟨fun x σ=>@q9 _ _ _ ⟨_⟩ _ ⟨_⟩ x σ⟩ _ _
 simp(disch:=omega)only[go_sem]
 refine qj (fun x:Nat×List Int×Int=>[(0,.rf 10000000 0 U.length),(1,.sl V.length (qc V)),(2,.v (.int .i64 j)),(3,.v (.int .i64 q)),(9,.v (.int .i64 x.2.2)),(13,.sl V.length (qc V)),(14,.v (.int .i64 V.length)),(15,.v (.int .i64 x.1))])
  (fun x=>[(10000000,.own 1 (qc x.2.1))])
  (fun x=>x.1≤V.length∧x.2.1.length=U.length∧gd x.2.1∧(0≤x.2.2∧x.2.2<65536)∧(∀t,t<j∨j+x.1≤t→x.2.1.getD t 0=U.getD t 0)∧vl x.2.1-65536^(j+x.1)*x.2.2=vl U-65536^j*(q*vl (V.take x.1)))
  (fun x=>V.length-x.1) (0,U,0) ⟨by simp,rfl,hU,by simp,fun _ _=>rfl,by simp[vl]⟩
  (Le.lst [] _ _ rfl (by simp(disch:=omega)only[go_sem];try omega) (by simp(disch:=omega)only[go_sem])) ?_
 rintro⟨i,U1,bo⟩ ⟨hi,hl1,hg1,hbo,hsame,hval⟩
 dsimp only at hi hl1 hg1 hbo hsame hval ⊢
 simp(disch:=omega)only[go_sem]
 refine qe (fun h1=>?_) (fun h1=>?_)
 ·have hx:=qJ hV i
  have hu:=qJ hg1 (j+i)
  have hqx:0≤q*V.getD i 0∧q*V.getD i 0≤65535*65535:=⟨Int.mul_nonneg hq.1 hx.1,Int.mul_le_mul (by omega) (by omega) hx.1 (by omega)⟩
  have e1:((j:Int)+(i:Int)).toNat=j+i:=by omega
  have hstep:∀d b:Int,d-65536*b=U1.getD (j+i) 0-q*V.getD i 0-bo→vl (U1.set (j+i) d)-65536^(j+(i+1))*b=vl U-65536^j*(q*vl (V.take (i+1))):=by
   intro d b hd
   rw[Zc (by omega),qS,←Nat.add_assoc,Int.pow_succ]
   have e3:(65536:Int)^(j+i)=65536^j*65536^i:=Int.pow_add _ _ _
   rw[e3]at hval ⊢
   generalize (65536:Int)^i=Pi at*
   generalize (65536:Int)^j=Pj at*
   grind
  have hsm:∀d:Int,∀t,t<j∨j+(i+1)≤t→(U1.set (j+i) d).getD t 0=U.getD t 0:=fun d t ht=>by
   rw[jo (by omega),if_neg (by omega)];exact hsame t (by omega)
  simp(disch:=omega)only[go_sem,h1,e1]
  refine⟨by omega,by omega,by omega,by omega,qe (fun h2=>?_) (fun h2=>?_)⟩
  ·simp(disch:=omega)only[go_sem,h2,e1]
   generalize hb:(0-(U1.getD (j+i) 0-q*V.getD i 0-bo)+65536-1)/65536=b
   refine⟨by omega,by omega,qb (i+1,U1.set (j+i) (U1.getD (j+i) 0-q*V.getD i 0-bo+b*65536),b) [] ⟨by show i+1≤_;omega,by simp[hl1],y6 hg1 (by omega),by show 0≤b∧b<65536;omega,hsm _,hstep (U1.getD (j+i) 0-q*V.getD i 0-bo+b*65536) b (by omega)⟩
    (by show V.length-(i+1)<V.length-i;omega) rfl (by simp(disch:=omega)only[go_sem];try omega) (by simp(disch:=omega)only[go_sem])⟩
  ·simp(disch:=omega)only[go_sem,h2,e1]
   refine⟨by omega,by omega,qb (i+1,U1.set (j+i) (U1.getD (j+i) 0-q*V.getD i 0-bo),0) [] ⟨by show i+1≤_;omega,by simp[hl1],y6 hg1 (by omega),by simp,hsm _,hstep (U1.getD (j+i) 0-q*V.getD i 0-bo) 0 (by omega)⟩
    (by show V.length-(i+1)<V.length-i;omega) rfl (by simp(disch:=omega)only[go_sem];try omega) (by simp(disch:=omega)only[go_sem])⟩
 ·have hiA:i=V.length:=by omega
  subst hiA
  rw[List.take_length]at hval
  have e1:((j:Int)+(V.length:Int)).toNat=j+V.length:=by omega
  have hu:=qJ hg1 (j+V.length)
  have es:=hsame (j+V.length) (by omega)
  have eg:(U1.set (j+V.length) (U.getD (j+V.length) 0-bo)).getD (j+V.length) 0=U.getD (j+V.length) 0-bo:=by rw[jo (by omega),if_pos rfl]
  simp(disch:=omega)only[go_sem,h1,e1,es]
  refine⟨by omega,by omega,by omega,by omega,by omega,by simp;omega,?_⟩
  simp(disch:=omega)only[go_sem,eg]
  refine qg [] [] [.own 1 (qc (U1.set (j+V.length) (U.getD (j+V.length) 0-bo)))] [.v (.bool (decide (U.getD (j+V.length) 0-bo<0)))] rfl (by simp(disch:=omega)only[go_sem]) (by simp(disch:=omega)only[go_sem]) (by simp) (by simp) ⟨U1,bo,rfl,rfl,rfl,hl1,hg1,hbo,hsame,hval⟩
theorem ae3(U V:List Int)(j:Nat)(hU:∀t,t≠j+V.length→0≤U.getD t 0∧U.getD t 0<65536)(hUt: -65536≤U.getD (j+V.length) 0∧U.getD (j+V.length) 0<65536)(hV:gd V)(lU:U.length≤2000000)(hj:j+V.length<U.length):
  Con Tryz.prog 291 false [.rf 10000000 0 U.length,.sl V.length (qc V),.v (.int .i64 j)] [.own 1 (qc U)]
   (fun r hs bs=>∃(U':List Int),r=.tu []∧hs=[]∧bs=[.own 1 (qc U')]∧
    U'.length=U.length∧(∀t,t≠j+V.length→0≤U'.getD t 0∧U'.getD t 0<65536)∧(∀t,t<j∨j+V.length<t→U'.getD t 0=U.getD t 0)∧vl U'=vl U+65536^j*vl V):=by
 refine Con.of_aw Tryz.func291 rfl Tryz.ntmps291 (by simp) (by simp) (by simp) (W.sound ?_)
 show @W Tryz.prog 46 ⟨_⟩ ⟨fun x σ=>@q9 _ _ _ ⟨_⟩ _ ⟨_⟩ x σ⟩ _ _
 simp(disch:=omega)only[go_sem]
 refine qj (fun x:Nat×List Int×Int=>[(0,.rf 10000000 0 U.length),(1,.sl V.length (qc V)),(2,.v (.int .i64 j)),(6,.v (.int .i64 x.2.2)),(9,.sl V.length (qc V)),(10,.v (.int .i64 V.length)),(11,.v (.int .i64 x.1))])
  (fun x=>[(10000000,.own 1 (qc x.2.1))])
  (fun x=>x.1≤V.length∧x.2.1.length=U.length∧(∀t,t≠j+V.length→0≤x.2.1.getD t 0∧x.2.1.getD t 0<65536)∧(0≤x.2.2∧x.2.2≤1)∧(∀t,t<j∨j+x.1≤t→x.2.1.getD t 0=U.getD t 0)∧vl x.2.1+65536^(j+x.1)*x.2.2=vl U+65536^j*vl (V.take x.1))
  (fun x=>V.length-x.1) (0,U,0) ⟨by simp,rfl,hU,by simp,fun _ _=>rfl,by simp[vl]⟩
  (Le.lst [] _ _ rfl (by simp(disch:=omega)only[go_sem];try omega) (by simp(disch:=omega)only[go_sem])) ?_
 rintro⟨i,U1,cy⟩ ⟨hi,hl1,hg1,hcy,hsame,hval⟩
 dsimp only at hi hl1 hg1 hcy hsame hval ⊢
 simp(disch:=omega)only[go_sem]
 refine qe (fun h1=>?_) (fun h1=>?_)
 ·have hx:=qJ hV i
  have hu:=hg1 (j+i) (by omega)
  have e1:((j:Int)+(i:Int)).toNat=j+i:=by omega
  simp(disch:=omega)only[go_sem,h1,e1]
  generalize hb:cy+(U1.getD (j+i) 0+V.getD i 0)=b
  have hg2:∀t,t≠j+V.length→0≤(U1.set (j+i) (b % 65536)).getD t 0∧(U1.set (j+i) (b % 65536)).getD t 0<65536:=fun t ht=>by
   rw[jo (by omega)]
   split
   ·omega
   ·exact hg1 t ht
  refine⟨by omega,by omega,by omega,by omega,by omega,by omega,qb (i+1,U1.set (j+i) (b % 65536),b/65536) [] ⟨by show i+1≤_;omega,by simp[hl1],hg2,by show 0≤b/65536∧b/65536≤1;omega,fun t ht=>?_,?_⟩
   (by show V.length-(i+1)<V.length-i;omega) rfl (by simp(disch:=omega)only[go_sem];try omega) (by simp(disch:=omega)only[go_sem])⟩
  ·show(U1.set (j+i) (b % 65536)).getD t 0=_
   have ht:t<j∨j+(i+1)≤t:=ht
   rw[jo (by omega),if_neg (by omega)];exact hsame t (by omega)
  ·show vl (U1.set (j+i) (b % 65536))+65536^(j+(i+1))*(b/65536)=vl U+65536^j*vl (V.take (i+1))
   rw[Zc (by omega),qS,←Nat.add_assoc,Int.pow_succ]
   have e3:(65536:Int)^(j+i)=65536^j*65536^i:=Int.pow_add _ _ _
   have e4:b % 65536+65536*(b/65536)=b:=Int.emod_add_mul_ediv b 65536
   rw[e3]at hval ⊢
   generalize (65536:Int)^i=Pi at*
   generalize (65536:Int)^j=Pj at*
   grind
 ·have hiA:i=V.length:=by omega
  subst hiA
  rw[List.take_length]at hval
  have e1:((j:Int)+(V.length:Int)).toNat=j+V.length:=by omega
  have es:=hsame (j+V.length) (by omega)
  simp(disch:=omega)only[go_sem,h1,e1,es]
  refine⟨by omega,by omega,by omega,by omega,?_⟩
  refine qg [] [] [.own 1 (qc (U1.set (j+V.length) (U.getD (j+V.length) 0+cy)))] [] rfl (by simp(disch:=omega)only[go_sem]) (by simp(disch:=omega)only[go_sem]) (by simp) (by simp) ⟨_,rfl,rfl,rfl,by simp[hl1],fun t ht=>?_,fun t ht=>?_,?_⟩
  ·rw[jo (by omega),if_neg ht];exact hg1 t ht
  ·rw[jo (by omega),if_neg (by omega)];exact hsame t (by omega)
  ·rw[Zc (by omega),es]
   generalize (65536:Int)^(j+V.length)=Pj at*
   grind
end Go.Ab
namespace Go.Ab
open Go Go.Proofs
theorem jp(xs:List Int)(hl:xs.length≤2^40):Con Tryz.prog 254 false [.rf 10000000 0 xs.length] [.own 1 (qc xs)] (fun r hs bs=>r=.rf 10000000 0 (Jr xs).length∧hs=[]∧bs=[.own 1 (qc xs)]):=by
 refine Con.of_aw Tryz.func254 rfl Tryz.ntmps254 (by simp) (by simp) (by simp) (W.sound ?_)
 show @W Tryz.prog 21 ⟨_⟩ ⟨fun x σ=>@q9 _ _ _ ⟨_⟩ _ ⟨_⟩ x σ⟩ _ _
 simp(disch:=omega)only[go_sem]
 refine qj (fun m:Nat=>[(0,.rf 10000000 0 m)]) (fun _=>[(10000000,.own 1 (qc xs))]) (fun m=>m≤xs.length∧Jr (xs.take m)=Jr xs) id xs.length ⟨Nat.le_refl _,by simp⟩
  (Le.lst [] _ _ rfl (by simp(disch:=omega)only[go_sem];try omega) (by simp(disch:=omega)only[go_sem])) ?_
 intro m ⟨hm,hx⟩
 have hmx:∀k,k+1=m→xs.take m=xs.take k++[xs.getD k 0]:=fun k hk=>by rw[←hk];exact jS (by omega)
 simp(disch:=omega)only[go_sem]
 refine qe (fun h1=>?_) (fun h1=>?_)
 ·obtain⟨k,rfl⟩:∃k,m=k+1:=⟨m-1,by omega⟩
  have e1:((k+1:Nat):Int)-1=(k:Nat):=by omega
  rw[hmx k rfl]at hx
  simp(disch:=omega)only[go_sem,h1,e1]
  refine⟨by omega,by omega,qe (fun h2=>?_) (fun h2=>?_)⟩
  ·simp(disch:=omega)only[go_sem,h2,e1]
   rw[h2,QG]at hx
   refine⟨by omega,qb k [] ⟨by omega,hx⟩ (by show k<k+1;omega) rfl (by simp(disch:=omega)only[go_sem];try omega) (by simp(disch:=omega)only[go_sem])⟩
  ·simp(disch:=omega)only[go_sem,h2]
   refine qg [] [] [.own 1 (qc xs)] [.rf 10000000 0 (k+1)] rfl (by simp(disch:=omega)only[go_sem]) (by simp(disch:=omega)only[go_sem]) (by simp) (by simp) ⟨?_,rfl,rfl⟩
   rw[Y8 _ h2,←hmx k rfl]at hx
   rw[←hx,List.length_take,Nat.min_eq_left hm];rfl
 ·simp(disch:=omega)only[go_sem,h1]
  refine qg [] [] [.own 1 (qc xs)] [.rf 10000000 0 m] rfl (by simp(disch:=omega)only[go_sem]) (by simp(disch:=omega)only[go_sem]) (by simp) (by simp) ⟨?_,rfl,rfl⟩
  have:m=0:=by omega
  subst this
  rw[←hx];rfl
end Go.Ab
namespace Go.Ab
open Go Go.Proofs
theorem ap4{x y:Int}(hx:0≤x∧x<65536)(hy:0≤y∧y<65536):0≤x*y∧x*y≤4294836225:=by
 have h1:=Int.mul_nonneg hx.1 hy.1
 have h2:x*y≤65535*65535:=Int.mul_le_mul (by omega) (by omega) hy.1 (by omega)
 omega
theorem aq7(cl:Bool)(A B:List Int)(hA:gd A)(hB:gd B)(lA:A.length≤1000000)(lB:B.length≤1000000):
  Con Tryz.prog 201 cl [.sl A.length (qc A),.sl B.length (qc B)] [] (asz (lim (vl A*vl B).toNat)):=by
 refine Con.of_aw Tryz.func201 rfl Tryz.ntmps201 (by simp) (by simp) (by simp) (W.sound ?_)
 show @W Tryz.prog 63 ⟨_⟩ ⟨fun x σ=>@q9 _ _ _ ⟨_⟩ _ ⟨_⟩ x σ⟩ _ _
 simp(disch:=omega)only[go_sem]
 refine⟨⟨by omega,by omega,by omega⟩,?_⟩
 refine qj (fun x:Nat×List Int=>[(1,.sl B.length (qc B)),(5,.rf 180000000 0 (A.length+B.length)),(17,.sl A.length (qc A)),(18,.v (.int .i64 A.length)),(19,.v (.int .i64 x.1))])
  (fun x=>[(180000000,.own 1 (qc x.2))])
  (fun x=>x.1≤A.length∧x.2.length=A.length+B.length∧gd x.2∧vl x.2=vl (A.take x.1)*vl B∧∀j,x.1+B.length≤j→x.2.getD j 0=0)
  (fun x=>A.length-x.1) (0,List.replicate (A.length+B.length) 0) ⟨by simp,by simp,zq _,by simp[zO,vl],fun j _=>by
   rw[List.getD_eq_getElem?_getD,List.getElem?_replicate];split<;>rfl⟩
  (Le.lst [] _ _ rfl (by simp(disch:=omega)only[go_sem];try omega) (by simp(disch:=omega)only[go_sem,show((A.length:Int)+(B.length:Int)).toNat=A.length+B.length by omega])) ?_
 rintro⟨i,out⟩ ⟨hi,hol,hog,hov,hoz⟩
 dsimp only at hi hol hog hov hoz ⊢
 simp(disch:=omega)only[go_sem]
 refine qe (fun h1=>?_) (fun h1=>?_)
 ·have hx:=qJ hA i
  simp(disch:=omega)only[go_sem,h1]
  refine⟨by omega,by omega,?_⟩
  refine qj (fun x:Nat×List Int×Int=>[(1,.sl B.length (qc B)),(5,.rf 180000000 0 (A.length+B.length)),(17,.sl A.length (qc A)),(18,.v (.int .i64 A.length)),(19,.v (.int .i64 i)),(6,.v (.int .i64 i)),
    (7,.v (.int .i64 (A.getD i 0))),(8,.v (.int .i64 x.2.2)),(24,.sl B.length (qc B)),(25,.v (.int .i64 B.length)),(26,.v (.int .i64 x.1))])
   (fun x=>[(180000000,.own 1 (qc x.2.1))])
   (fun x=>x.1≤B.length∧x.2.1.length=A.length+B.length∧gd x.2.1∧(0≤x.2.2∧x.2.2<65536)∧vl x.2.1+65536^(i+x.1)*x.2.2=vl out+65536^i*(A.getD i 0*vl (B.take x.1))∧∀j,i+B.length≤j→x.2.1.getD j 0=0)
   (fun x=>B.length-x.1) (0,out,0) ⟨by simp,hol,hog,by simp,by simp[vl],hoz⟩
   (Le.lst [] _ _ rfl (by simp(disch:=omega)only[go_sem];try omega) (by simp(disch:=omega)only[go_sem])) ?_
  rintro⟨j,o2,cy⟩ ⟨hj,hol2,hog2,hcy,hov2,hoz2⟩
  dsimp only at hj hol2 hog2 hcy hov2 hoz2 ⊢
  simp(disch:=omega)only[go_sem]
  refine qe (fun h2=>?_) (fun h2=>?_)
  ·have hy:=qJ hB j
   have ho:=qJ hog2 (i+j)
   have hxy:=ap4 hx hy
   have e1:((i:Int)+(j:Int)).toNat=i+j:=by omega
   simp(disch:=omega)only[go_sem,h2,e1]
   generalize hq:cy+(o2.getD (i+j) 0+A.getD i 0*B.getD j 0)=q
   refine⟨by omega,by omega,by omega,by omega,by omega,by omega,qb (j+1,o2.set (i+j) (q % 65536),q/65536) [] ⟨by show j+1≤_;omega,by simp[hol2],y6 hog2 (by omega),by show 0≤q/65536∧q/65536<65536;omega,?_,fun k hk=>?_⟩
    (by show B.length-(j+1)<B.length-j;omega) rfl (by simp(disch:=omega)only[go_sem];try omega) (by simp(disch:=omega)only[go_sem])⟩
   ·show vl (o2.set (i+j) (q % 65536))+65536^(i+(j+1))*(q/65536)=vl out+65536^i*(A.getD i 0*vl (B.take (j+1)))
    rw[Zc (by omega),jd (by omega),←Nat.add_assoc,Int.pow_succ]
    have e2:(65536:Int)^(i+j)=65536^i*65536^j:=Int.pow_add _ _ _
    have e3:q % 65536+65536*(q/65536)=q:=Int.emod_add_mul_ediv q 65536
    rw[e2]at hov2 ⊢
    generalize (65536:Int)^i=Pi at*
    generalize (65536:Int)^j=Pj at*
    grind
   ·show(o2.set (i+j) (q % 65536)).getD k 0=0
    rw[List.getD_eq_getElem?_getD,List.getElem?_set_ne (by omega),←List.getD_eq_getElem?_getD]
    exact hoz2 k hk
  ·simp(disch:=omega)only[go_sem,h2]
   have e1:((i:Int)+(B.length:Int)).toNat=i+B.length:=by omega
   have hjB:j=B.length:=by omega
   subst hjB
   rw[List.take_length]at hov2
   simp(disch:=omega)only[go_sem,e1]
   refine⟨by omega,by omega,qb (i+1,o2.set (i+B.length) cy) [] ⟨by show i+1≤_;omega,by simp[hol2],y6 hog2 hcy,?_,fun k hk=>?_⟩ (by show A.length-(i+1)<A.length-i;omega) rfl (by simp(disch:=omega)only[go_sem];try omega) (by simp(disch:=omega)only[go_sem])⟩
   ·show vl (o2.set (i+B.length) cy)=vl (A.take (i+1))*vl B
    rw[Zc (by omega),hoz2 _ (Nat.le_refl _),jd (by omega)]
    generalize (65536:Int)^i=Pi at*
    grind
   ·show(o2.set (i+B.length) cy).getD k 0=0
    rw[List.getD_eq_getElem?_getD,List.getElem?_set_ne (by show i+B.length≠k;omega),←List.getD_eq_getElem?_getD]
    exact hoz2 k (by omega)
 ·simp(disch:=omega)only[go_sem,h1]
  have hiA:i=A.length:=by omega
  subst hiA
  rw[List.take_length]at hov
  refine ze false [180000000] (jp out (by omega)) (by rw[←hol];simp(disch:=omega)only[go_sem]) (by simp(disch:=omega)only[go_sem]) rfl (qR (z:=1) (cs:=qc out) (by simp(disch:=omega)only[go_sem]) (by simp(disch:=omega)only[go_sem])) (by intro n hn;exact⟨_,List.mem_singleton.2 rfl,by rw[List.mem_singleton.1 hn];rfl⟩) ?_
  rintro r hs bs ⟨rfl,rfl,rfl⟩ _
  refine⟨by simp[qP],?_⟩
  simp(disch:=omega)only[go_sem]
  obtain⟨z,hz⟩:=zM out
  have hc:=jb hog
  rw[hov]at hc
  rw[hc]at hz ⊢
  refine qg [(0,180000000)] [.own 1 (qc out)] [] [.rf 0 0 (lim (vl A*vl B).toNat).length] rfl (by simp(disch:=omega)only[go_sem]) (by simp(disch:=omega)only[go_sem]) (by simp) (by intro _;simp[zj,AV.pu,AV.pu.puL,Ob.pu,q7]) (.inr ⟨List.replicate z 0,rfl,by rw[←hz]⟩)
end Go.Ab
namespace Go.Ab
open Go Go.Proofs
theorem arb(cl:Bool)(n:Nat)(hn:n<2^63):Con Tryz.prog 216 cl [.v (.int .i64 n)] [] (asz (lim n)):=by
 refine Con.of_aw Tryz.func216 rfl Tryz.ntmps216 (by simp) (by simp) (by simp) (W.sound ?_)
 show @W Tryz.prog 14 ⟨_⟩ ⟨fun x σ=>@q9 _ _ _ ⟨_⟩ _ ⟨_⟩ x σ⟩ _ _
 simp(disch:=omega)only[go_sem]
 refine qj (fun x:Nat×List Int=>[(0,.v (.int .i64 x.1)),(3,.rf 1 0 x.2.length)]) (fun x=>[(1,.own 1 (qc x.2))]) (fun x=>x.1<2^63∧x.2++lim x.1=lim n) (fun x=>x.1) (n,[]) ⟨hn,rfl⟩
  ((Le.ghost 3 1 1 (by simp(disch:=omega)only[go_sem]) (by simp(disch:=omega)only[go_sem])).trans (Le.lst [] _ _ rfl (by simp(disch:=omega)only[go_sem]) (by simp(disch:=omega)only[go_sem]))) ?_
 rintro⟨k,l⟩ ⟨hk,hl⟩
 dsimp only at hk hl ⊢
 have hlen:l.length≤4:=by
  have h1:=congrArg List.length hl
  have h2:=jM (n:=n) (k:=4) |>.2 (by omega)
  rw[List.length_append]at h1;omega
 simp(disch:=omega)only[go_sem]
 refine qe (fun h1=>?_) (fun h1=>?_)
 ·simp(disch:=omega)only[go_sem,h1]
  have hk0:k≠0:=by omega
  refine⟨by omega,qb (k/65536,l++[(k:Int) % 65536]) [(1,140000000)] ⟨by show k/65536<2^63;omega,?_⟩ (by show k/65536<k;omega) rfl (by simp(disch:=omega)only[go_sem,List.length_append];omega) (by simp(disch:=omega)only[go_sem])⟩
  rw[yh hk0]at hl
  rw[←hl,List.append_assoc];rfl
 ·simp(disch:=omega)only[go_sem,h1]
  have hk0:k=0:=by omega
  subst hk0
  rw[qn,List.append_nil]at hl
  subst hl
  refine qg [(0,1)] [.own 1 (qc (lim n++[]))] [] [.rf 0 0 (lim n).length] rfl (by simp(disch:=omega)only[go_sem]) (by simp(disch:=omega)only[go_sem]) (by simp) (by intro _;simp[zj,AV.pu,AV.pu.puL,Ob.pu,q7]) (.inr ⟨[],rfl,rfl⟩)
end Go.Ab
namespace Go.Ab
open Go Go.Proofs
theorem yw(k:Nat)(h:k<16):(0:Int)<2^k∧(2:Int)^k≤32768:=by
 have:∀k,k<16→(0:Int)<2^k∧(2:Int)^k≤32768:=by decide
 exact this k h
theorem ap3{x:Int}(hx:0≤x∧x<65536){k:Nat}(hk:k<16):0≤x*2^k∧x*2^k≤2147450880:=by
 obtain⟨h1,h2⟩:=yw k hk
 have h3:=Int.mul_nonneg hx.1 (Int.le_of_lt h1)
 have h4:x*2^k≤65535*32768:=Int.mul_le_mul (by omega) h2 (by omega) (by omega)
 omega
theorem aad(k:Nat):(65536:Int)^(k/16)*2^(k % 16)=2^k:=by
 have e:(65536:Int)=2^16:=by decide
 rw[e,←Int.pow_mul,←Int.pow_add,Nat.div_add_mod]
theorem aUh(cl:Bool)(A:List Int)(k:Nat)(hA:gd A)(lA:A.length≤1000000)(hk:k≤100000000):
  Con Tryz.prog 244 cl [.sl A.length (qc A),.v (.int .i64 k)] [] (asz (lim (vl A*2^k).toNat)):=by
 refine Con.of_aw Tryz.func244 rfl Tryz.ntmps244 (by simp) (by simp) (by simp) (W.sound ?_)
 show @W Tryz.prog 46 ⟨_⟩ ⟨fun x σ=>@q9 _ _ _ ⟨_⟩ _ ⟨_⟩ x σ⟩ _ _
 simp(disch:=omega)only[go_sem]
 refine qe (fun h0=>?_) (fun h0=>?_)
 ·simp(disch:=omega)only[go_sem,h0]
  have:A=[]:=List.length_eq_zero_iff.1 (by omega)
  subst this
  refine qg [] [] [] [.v (.slice none 0 0)] rfl (by simp(disch:=omega)only[go_sem]) (by simp(disch:=omega)only[go_sem]) (by simp) (by intro _;simp[zj,AV.pu,AV.pu.puL,Ob.pu,q7]) (.inl ⟨by simp[vl,qn],rfl,rfl⟩)
 ·simp(disch:=omega)only[go_sem,h0]
  refine⟨by omega,?_⟩
  have e16:((k:Int)/16).toNat=k/16:=by omega
  refine qj (fun x:Nat×List Int×Int=>[(1,.v (.int .i64 k)),(5,.rf 1 0 x.2.1.length),(6,.v (.int .i64 x.2.2)),(21,.sl A.length (qc A)),(22,.v (.int .i64 A.length)),(23,.v (.int .i64 x.1))])
   (fun x=>[(1,.own 1 (qc x.2.1))])
   (fun x=>x.1≤A.length∧x.2.1.length=k/16+x.1∧gd x.2.1∧(0≤x.2.2∧x.2.2<65536)∧vl x.2.1+65536^(k/16+x.1)*x.2.2=65536^(k/16)*2^(k % 16)*vl (A.take x.1))
   (fun x=>A.length-x.1) (0,List.replicate (k/16) 0,0) ⟨by simp,by simp,zq _,by simp,by simp[vl,zO]⟩
   (Le.lst [(1,220000000)] _ _ rfl (by simp(disch:=omega)only[go_sem,List.length_replicate,e16]) (by simp(disch:=omega)only[go_sem,e16])) ?_
  rintro⟨i,out,cy⟩ ⟨hi,hol,hog,hcy,hov⟩
  dsimp only at hi hol hog hcy hov ⊢
  simp(disch:=omega)only[go_sem]
  refine qe (fun h1=>?_) (fun h1=>?_)
  ·have hx:=qJ hA i
   have hxs:=ap3 hx (show k % 16<16 by omega)
   have em:min ((k:Int) % 16).toNat 64=k % 16:=by omega
   simp(disch:=omega)only[go_sem,h1,em]
   generalize hq:cy+A.getD i 0*2^(k % 16)=q
   refine⟨by omega,by omega,by omega,by omega,qb (i+1,out++[q % 65536],q/65536) [(1,390000000)] ⟨by show i+1≤_;omega,by simp[hol];omega,qF.2 ⟨hog,zR.2 (by omega)⟩,by show 0≤q/65536∧q/65536<65536;omega,?_⟩ (by show A.length-(i+1)<A.length-i;omega) rfl (by simp(disch:=omega)only[go_sem,List.length_append];try omega) (by simp(disch:=omega)only[go_sem])⟩
   show vl (out++[q % 65536])+65536^(k/16+(i+1))*(q/65536)=65536^(k/16)*2^(k % 16)*vl (A.take (i+1))
   rw[jv,qS,hol,←Nat.add_assoc,Int.pow_succ]
   have e3:q % 65536+65536*(q/65536)=q:=Int.emod_add_mul_ediv q 65536
   rw[Int.pow_add]at hov ⊢
   generalize (65536:Int)^i=Pi at*
   generalize (65536:Int)^(k/16)=Pk at*
   generalize (2:Int)^(k % 16)=Pm at*
   grind
  ·simp(disch:=omega)only[go_sem,h1]
   have hiA:i=A.length:=by omega
   subst hiA
   rw[List.take_length,aad]at hov
   have hov2:vl (out++[cy])=vl A*2^k:=by rw[jv,hol,hov];grind
   have hog2:gd (out++[cy]):=qF.2 ⟨hog,zR.2 hcy⟩
   refine⟨by omega,?_⟩
   have hl2:out.length+1=(out++[cy]).length:=by simp
   rw[hl2]
   refine ze false [460000000] (jp (out++[cy]) (by simp;omega)) (by simp(disch:=omega)only[go_sem]) (by simp(disch:=omega)only[go_sem]) rfl (qR (z:=1) (cs:=qc (out++[cy])) (by simp(disch:=omega)only[go_sem]) (by simp(disch:=omega)only[go_sem])) (by intro n hn;exact⟨_,List.mem_singleton.2 rfl,by rw[List.mem_singleton.1 hn];rfl⟩) ?_
   rintro r hs bs ⟨rfl,rfl,rfl⟩ _
   refine⟨by simp[qP],?_⟩
   simp(disch:=omega)only[go_sem]
   obtain⟨z,hz⟩:=zM (out++[cy])
   have hc:=jb hog2
   rw[hov2]at hc
   rw[hc]at hz ⊢
   refine qg [(0,460000000)] [.own 1 (qc (out++[cy]))] [] [.rf 0 0 (lim (vl A*2^k).toNat).length] rfl (by simp(disch:=omega)only[go_sem]) (by simp(disch:=omega)only[go_sem]) (by simp) (by intro _;simp[zj,AV.pu,AV.pu.puL,Ob.pu,q7]) (.inr ⟨List.replicate z 0,rfl,by rw[←hz]⟩)
end Go.Ab
namespace Go.Ab
open Go Go.Proofs
theorem aCQ(V P:Int)(hP:0<P):V % (P*65536)=V % P+P*(V/P % 65536):=by
 rw[Int.emod_def,Int.emod_def,Int.emod_def,←Int.ediv_ediv_of_nonneg (Int.le_of_lt hP)]
 grind
theorem aCf{s:Nat}(hs:s<16):(65536:Int)=2^s*2^(16-s):=by
 rw[←Int.pow_add,show s+(16-s)=16 by omega];decide
theorem aks{D:List Int}(hD:gd D){i s:Nat}(hi:i<D.length)(hs:s<16):
  (vl D/2^s)/65536^i % 65536=(D.getD i 0+D.getD (i+1) 0*65536)/2^s % 65536:=by
 have h2:=(yw s hs).1
 rw[Int.ediv_ediv_of_nonneg (Int.le_of_lt h2),Int.mul_comm,←Int.ediv_ediv_of_nonneg (Int.le_of_lt (Int.pow_pos (by omega))),afo hD (by omega),zG hi]
 have h3:vl (D.drop (i+1))=D.getD (i+1) 0+65536*vl (D.drop (i+2)):=by
  rcases Nat.lt_or_ge (i+1) D.length with h|h
  ·exact zG h
  ·rw[List.drop_of_length_le h,List.drop_of_length_le (by omega),List.getD_eq_getElem?_getD,List.getElem?_eq_none h];simp[vl]
 rw[h3]
 have e:D.getD i 0+65536*(D.getD (i+1) 0+65536*vl (D.drop (i+2)))=(D.getD i 0+D.getD (i+1) 0*65536)+2^s*(65536*(2^(16-s)*vl (D.drop (i+2)))):=by
  have:=aCf hs
  generalize (2:Int)^s=a at*
  generalize (2:Int)^(16-s)=b at*
  grind
 rw[e,Int.add_mul_ediv_left _ _ (by omega),Int.add_mul_emod_self_left]
theorem apL{a b:Nat}(h:a≤b):(65536:Int)^a≤65536^b:=by
 obtain⟨d,rfl⟩:=Nat.exists_eq_add_of_le h
 have h1:(0:Int)<65536^a:=Int.pow_pos (by omega)
 have h2:(0:Int)<65536^d:=Int.pow_pos (by omega)
 have h3:=Int.mul_le_mul_of_nonneg_left (show(1:Int)≤65536^d by omega) (Int.le_of_lt h1)
 rw[Int.mul_one,←Int.pow_add]at h3
 exact h3
theorem aEd(cl:Bool)(A:List Int)(k:Nat)(hA:gd A)(lA:A.length≤1000000)(hk:k≤100000000):
  Con Tryz.prog 235 cl [.sl A.length (qc A),.v (.int .i64 k)] [] (asz (lim (vl A/2^k).toNat)):=by
 refine Con.of_aw Tryz.func235 rfl Tryz.ntmps235 (by simp) (by simp) (by simp) (W.sound ?_)
 show @W Tryz.prog 52 ⟨_⟩ ⟨fun x σ=>@q9 _ _ _ ⟨_⟩ _ ⟨_⟩ x σ⟩ _ _
 have hvk:vl A/2^k=vl A/65536^(k/16)/2^(k % 16):=by
  rw[Int.ediv_ediv_of_nonneg (Int.le_of_lt (Int.pow_pos (by omega))),aad]
 simp(disch:=omega)only[go_sem]
 refine qe (fun h0=>?_) (fun h0=>?_)
 ·simp(disch:=omega)only[go_sem,h0]
  have hz:vl A/2^k=0:=by
   rw[hvk,Int.ediv_eq_zero_of_lt (qW hA)]
   ·simp
   ·refine Int.lt_of_lt_of_le (QL hA) ?_
    exact apL (by omega)
  rw[hz]
  refine qg [] [] [] [.v (.slice none 0 0)] rfl (by simp(disch:=omega)only[go_sem]) (by simp(disch:=omega)only[go_sem]) (by simp) (by intro _;simp[zj,AV.pu,AV.pu.puL,Ob.pu,q7]) (.inl ⟨by simp[qn],rfl,rfl⟩)
 ·have e16:((k:Int)/16).toNat=k/16:=by omega
  have e17:((A.length:Int)-(k:Int)/16).toNat=(A.drop (k/16)).length:=by simp;omega
  have e18:(A.drop (k/16)).take (A.drop (k/16)).length=A.drop (k/16):=List.take_length
  have hvD:=afo hA (i:=k/16) (by omega)
  have hlD:(A.drop (k/16)).length≤1000000:=by simp;omega
  have hD:=yB hA (k/16)
  simp(disch:=omega)only[go_sem,h0,e16,e17,e18]
  generalize A.drop (k/16)=D at*
  refine⟨by omega,by omega,?_⟩
  refine qj (fun x:Nat×List Int=>[(1,.v (.int .i64 k)),(5,.sl D.length (qc D)),(6,.rf 1 0 x.2.length),(21,.sl D.length (qc D)),(22,.v (.int .i64 D.length)),(23,.v (.int .i64 x.1))])
   (fun x=>[(1,.own 1 (qc x.2))])
   (fun x=>x.1≤D.length∧x.2.length=x.1∧gd x.2∧vl x.2=vl D/2^(k % 16) % 65536^x.1)
   (fun x=>D.length-x.1) (0,[]) ⟨by simp,rfl,Ji,by simp[vl]⟩
   (Le.lst [(1,220000000)] _ _ rfl (by simp(disch:=omega)only[go_sem]) (by simp(disch:=omega)only[go_sem])) ?_
  rintro⟨i,out⟩ ⟨hi,hol,hog,hov⟩
  dsimp only at hi hol hog hov ⊢
  simp(disch:=omega)only[go_sem]
  refine qe (fun h1=>?_) (fun h1=>?_)
  ·have hx:=qJ hD i
   have hy:=qJ hD (i+1)
   have em:min ((k:Int) % 16).toNat 64=k % 16:=by omega
   have hm:=yw (k % 16) (by omega)
   have efd:∀x:Int,x.fdiv (2^(k % 16))=x/2^(k % 16):=fun x=>Int.fdiv_eq_ediv_of_nonneg _ (Int.le_of_lt hm.1)
   have hdig:=aks hD (i:=i) (s:=k % 16) (by omega) (by omega)
   have hnn:∀x:Int,0≤x→0≤x/2^(k % 16):=fun x hx=>Int.ediv_nonneg hx (Int.le_of_lt hm.1)
   have ei:((i:Int)+1).toNat=i+1:=by omega
   have hstep:∀z:Int,z=(D.getD i 0+D.getD (i+1) 0*65536)/2^(k % 16) % 65536→vl (out++[z])=vl D/2^(k % 16) % 65536^(i+1):=by
    intro z hz
    rw[jv,hov,hol,Int.pow_succ,aCQ _ _ (Int.pow_pos (by omega)),hdig,hz]
   simp(disch:=omega)only[go_sem,h1]
   refine⟨by omega,by omega,qe (fun h2=>?_) (fun h2=>?_)⟩
   ·have hn1:=hnn (D.getD i 0+D.getD (i+1) 0*65536) (by omega)
    simp(disch:=omega)only[go_sem,h2,em,efd,ei]
    refine⟨by omega,by omega,by omega,by omega,qb (i+1,out++[(D.getD i 0+D.getD (i+1) 0*65536)/2^(k % 16) % 65536]) [(1,500000000)] ⟨by show i+1≤_;omega,by simp[hol],qF.2 ⟨hog,zR.2 (by omega)⟩,hstep _ rfl⟩ (by show D.length-(i+1)<D.length-i;omega) rfl (by simp(disch:=omega)only[go_sem,List.length_append];try omega) (by simp(disch:=omega)only[go_sem])⟩
   ·have hn1:=hnn (D.getD i 0) (by omega)
    simp(disch:=omega)only[go_sem,h2,em,efd]
    have hy0:D.getD (i+1) 0=0:=by rw[List.getD_eq_getElem?_getD,List.getElem?_eq_none (by omega)];rfl
    refine⟨by omega,by omega,qb (i+1,out++[D.getD i 0/2^(k % 16) % 65536]) [(1,500000000)] ⟨by show i+1≤_;omega,by simp[hol],qF.2 ⟨hog,zR.2 (by omega)⟩,hstep _ (by rw[hy0];simp)⟩ (by show D.length-(i+1)<D.length-i;omega) rfl (by simp(disch:=omega)only[go_sem,List.length_append];try omega) (by simp(disch:=omega)only[go_sem])⟩
  ·simp(disch:=omega)only[go_sem,h1]
   have hiD:i=D.length:=by omega
   subst hiD
   have hV:vl out=vl A/2^k:=by
    rw[hov,hvk,hvD]
    refine Int.emod_eq_of_lt (Int.ediv_nonneg (qW hD) (Int.le_of_lt (yw (k % 16) (by omega)).1)) ?_
    exact Int.lt_of_le_of_lt (Int.ediv_le_self _ (qW hD)) (QL hD)
   refine ze false [1] (jp out (by omega)) (by simp(disch:=omega)only[go_sem]) (by simp(disch:=omega)only[go_sem]) rfl (qR (z:=1) (cs:=qc out) (by simp(disch:=omega)only[go_sem]) (by simp(disch:=omega)only[go_sem])) (by intro n hn;exact⟨_,List.mem_singleton.2 rfl,by rw[List.mem_singleton.1 hn];rfl⟩) ?_
   rintro r hs bs ⟨rfl,rfl,rfl⟩ _
   refine⟨by simp[qP],?_⟩
   simp(disch:=omega)only[go_sem]
   obtain⟨z,hz⟩:=zM out
   have hc:=jb hog
   rw[hV]at hc
   rw[hc]at hz ⊢
   refine qg [(0,1)] [.own 1 (qc out)] [] [.rf 0 0 (lim (vl A/2^k).toNat).length] rfl (by simp(disch:=omega)only[go_sem]) (by simp(disch:=omega)only[go_sem]) (by simp) (by intro _;simp[zj,AV.pu,AV.pu.puL,Ob.pu,q7]) (.inr ⟨List.replicate z 0,rfl,by rw[←hz]⟩)
end Go.Ab
namespace Go.Ab
open Go Go.Proofs
theorem drop_set{l:List Int}{i:Nat}(h:i<l.length)(z:Int):(l.set i z).drop i=z::l.drop (i+1):=by
 rw[List.drop_eq_getElem_cons (by simpa using h)]
 simp[List.drop_set]
theorem aEe(cl:Bool)(A:List Int)(d:Nat)(hA:gd A)(lA:A.length≤1000000)(hd:0<d)(hd2:d<65536):
  Con Tryz.prog 288 cl [.sl A.length (qc A),.v (.int .i64 d)] [] (fun r hs bs=>∃zs,r=.tu [.rf 0 0 (lim (vl A/d).toNat).length,.v (.int .i64 (vl A % d))]∧hs=[.own 1 (qc (lim (vl A/d).toNat++zs))]):=by
 refine Con.of_aw Tryz.func288 rfl Tryz.ntmps288 (by simp) (by simp) (by simp) (W.sound ?_)
 show @W Tryz.prog 38 ⟨_⟩ ⟨fun x σ=>@q9 _ _ _ ⟨_⟩ _ ⟨_⟩ x σ⟩ _ _
 simp(disch:=omega)only[go_sem]
 refine⟨by omega,?_⟩
 refine qj (fun x:Nat×List Int×Int=>[(0,.sl A.length (qc A)),(1,.v (.int .i64 d)),(6,.rf 130000000 0 A.length),(7,.v (.int .i64 x.2.2)),(8,.v (.int .i64 ((x.1:Int)-1)))])
  (fun x=>[(130000000,.own 1 (qc x.2.1))])
  (fun x=>x.1≤A.length∧x.2.1.length=A.length∧gd x.2.1∧x.2.2=vl (A.drop x.1) % d∧vl (x.2.1.drop x.1)=vl (A.drop x.1)/d)
  (fun x=>x.1) (A.length,List.replicate A.length 0,0) ⟨by simp,by simp,zq _,by simp[vl],by simp[vl]⟩
  (Le.lst [] _ _ rfl (by simp(disch:=omega)only[go_sem];try omega) (by simp(disch:=omega)only[go_sem])) ?_
 rintro⟨m,out,rest⟩ ⟨hm,hol,hog,hr,hov⟩
 dsimp only at hm hol hog hr hov ⊢
 simp(disch:=omega)only[go_sem]
 refine qe (fun h1=>?_) (fun h1=>?_)
 ·obtain⟨i,rfl⟩:∃i,m=i+1:=⟨m-1,by omega⟩
  have e1:((i+1:Nat):Int)-1=(i:Nat):=by omega
  have hx:=qJ hA i
  have hr2:0≤rest∧rest<d:=by rw[hr];exact⟨Int.emod_nonneg _ (by omega),Int.emod_lt_of_pos _ (by omega)⟩
  generalize hq:rest*65536+A.getD i 0=q
  have hq0:0≤q:=by omega
  have hqd:0≤q/d∧q/d<65536:=⟨Int.ediv_nonneg hq0 (by omega),Int.ediv_lt_of_lt_mul (by omega) (by omega)⟩
  have hqm:0≤q % d∧q % d<d:=⟨Int.emod_nonneg _ (by omega),Int.emod_lt_of_pos _ (by omega)⟩
  simp(disch:=omega)only[go_sem,h1,e1,hq]
  refine⟨by omega,by omega,by omega,by omega,by omega,by omega,qb (i,out.set i (q/d),q % d) [] ⟨by show i≤_;omega,by simp[hol],y6 hog hqd,?_,?_⟩ (by show i<i+1;omega) rfl (by simp(disch:=omega)only[go_sem]) (by simp(disch:=omega)only[go_sem])⟩
  ·show q % d=vl (A.drop i) % d
   rw[zG (l:=A) (i:=i) (by omega),←hq,hr]
   have h3:=Int.emod_add_mul_ediv (vl (A.drop (i+1))) d
   rw[show A.getD i 0+65536*vl (A.drop (i+1))=vl (A.drop (i+1)) % d*65536+A.getD i 0+d*(65536*(vl (A.drop (i+1))/d)) by grind,Int.add_mul_emod_self_left]
  ·show vl ((out.set i (q/d)).drop i)=vl (A.drop i)/d
   rw[drop_set (by omega),vl,hov,zG (l:=A) (i:=i) (by omega),←hq,hr]
   have h3:=Int.emod_add_mul_ediv (vl (A.drop (i+1))) d
   rw[show A.getD i 0+65536*vl (A.drop (i+1))=vl (A.drop (i+1)) % d*65536+A.getD i 0+d*(65536*(vl (A.drop (i+1))/d)) by grind,Int.add_mul_ediv_left _ _ (by omega)]
 ·simp(disch:=omega)only[go_sem,h1]
  have:m=0:=by omega
  subst this
  rw[List.drop_zero,List.drop_zero]at hov
  rw[List.drop_zero]at hr
  rw[←hol]
  refine ze false [130000000] (jp out (by omega)) (by simp(disch:=omega)only[go_sem]) (by simp(disch:=omega)only[go_sem]) rfl (qR (z:=1) (cs:=qc out) (by simp(disch:=omega)only[go_sem]) (by simp(disch:=omega)only[go_sem])) (by intro n hn;exact⟨_,List.mem_singleton.2 rfl,by rw[List.mem_singleton.1 hn];rfl⟩) ?_
  rintro r hs bs ⟨rfl,rfl,rfl⟩ _
  refine⟨by simp[qP],?_⟩
  simp(disch:=omega)only[go_sem]
  obtain⟨z,hz⟩:=zM out
  have hc:=jb hog
  rw[hov]at hc
  rw[hc]at hz ⊢
  rw[hr]
  refine qg [(0,130000000)] [.own 1 (qc out)] [] [.rf 0 0 (lim (vl A/d).toNat).length,.v (.int .i64 (vl A % d))] rfl (by simp(disch:=omega)only[go_sem]) (by simp(disch:=omega)only[go_sem]) (by simp) (by intro _;simp[zj,AV.pu,AV.pu.puL,Ob.pu,q7]) ⟨List.replicate z 0,rfl,by rw[←hz]⟩
end Go.Ab
namespace Go.Ab
open Go Go.Proofs
theorem aD2(cl:Bool)(A B:List Int)(hA:gd A)(hB:gd B)(lA:A.length≤2000000)(lB:B.length≤2000000):
  Con Tryz.prog 249 cl [.sl A.length (qc A),.sl B.length (qc B)] [] (asz (lim (vl A+vl B).toNat)):=by
 refine Con.of_aw Tryz.func249 rfl Tryz.ntmps249 (by simp) (by simp) (by simp) (W.sound ?_)
 show @W Tryz.prog 53 ⟨_⟩ ⟨fun x σ=>@q9 _ _ _ ⟨_⟩ _ ⟨_⟩ x σ⟩ _ _
 simp(disch:=omega)only[go_sem]
 refine qe (fun h0=>?_) (fun h0=>?_)
 all_goals simp(disch:=omega)only[go_sem,h0]
 ·revert A B
  intro Y X hY hX lY lX h0'
  have h00:Y.length≤X.length:=by omega
  have hcm:vl Y+vl X=vl X+vl Y:=Int.add_comm _ _
  refine⟨by omega,?_⟩
  refine qj (fun x:Nat×List Int×Int=>[(1,.sl Y.length (qc Y)),(5,.rf 1 0 x.2.1.length),(6,.v (.int .i64 x.2.2)),(20,.sl X.length (qc X)),(21,.v (.int .i64 X.length)),(22,.v (.int .i64 x.1))])
   (fun x=>[(1,.own 1 (qc x.2.1))])
   (fun x=>x.1≤X.length∧x.2.1.length=x.1∧gd x.2.1∧(0≤x.2.2∧x.2.2≤1)∧vl x.2.1+65536^x.1*x.2.2=vl (X.take x.1)+vl (Y.take x.1))
   (fun x=>X.length-x.1) (0,[],0) ⟨by simp,rfl,Ji,by simp,by simp[vl]⟩
   (Le.lst [(1,210000000)] _ _ rfl (by simp(disch:=omega)only[go_sem]) (by simp(disch:=omega)only[go_sem])) ?_
  rintro⟨i,out,cy⟩ ⟨hi,hol,hog,hcy,hov⟩
  dsimp only at hi hol hog hcy hov ⊢
  simp(disch:=omega)only[go_sem]
  refine qe (fun h1=>?_) (fun h1=>?_)
  ·have hx:=qJ hX i
   have hy:=qJ hY i
   have hstep:∀q:Int,q=cy+X.getD i 0+Y.getD i 0→vl (out++[q % 65536])+65536^(i+1)*(q/65536)=vl (X.take (i+1))+vl (Y.take (i+1)):=by
    intro q hq
    rw[jv,qS,qS,hol,Int.pow_succ]
    have e3:q % 65536+65536*(q/65536)=q:=Int.emod_add_mul_ediv q 65536
    generalize (65536:Int)^i=Pi at*
    grind
   have hyz:¬i<Y.length→Y.getD i 0=0:=fun h=>by rw[List.getD_eq_getElem?_getD,List.getElem?_eq_none (by omega)];rfl
   simp(disch:=omega)only[go_sem,h1]
   refine⟨by omega,by omega,qe (fun h2=>?_) (fun h2=>?_)⟩
   ·simp(disch:=omega)only[go_sem,h2]
    generalize hq:cy+X.getD i 0+Y.getD i 0=q
    refine⟨by omega,by omega,by omega,qb (i+1,out++[q % 65536],q/65536) [(1,460000000)] ⟨by show i+1≤_;omega,by simp[hol],qF.2 ⟨hog,zR.2 (by omega)⟩,by show 0≤q/65536∧q/65536≤1;omega,hstep q hq.symm⟩ (by show X.length-(i+1)<X.length-i;omega) rfl (by simp(disch:=omega)only[go_sem,List.length_append];try omega) (by simp(disch:=omega)only[go_sem])⟩
   ·simp(disch:=omega)only[go_sem,h2]
    have hy0:=hyz (by omega)
    generalize hq:cy+X.getD i 0=q
    refine⟨by omega,qb (i+1,out++[q % 65536],q/65536) [(1,460000000)] ⟨by show i+1≤_;omega,by simp[hol],qF.2 ⟨hog,zR.2 (by omega)⟩,by show 0≤q/65536∧q/65536≤1;omega,hstep q (by omega)⟩ (by show X.length-(i+1)<X.length-i;omega) rfl (by simp(disch:=omega)only[go_sem,List.length_append];try omega) (by simp(disch:=omega)only[go_sem])⟩
  ·simp(disch:=omega)only[go_sem,h1]
   have hiA:i=X.length:=by omega
   subst hiA
   rw[List.take_length,List.take_of_length_le h00]at hov
   have hov2:vl (out++[cy])=vl X+vl Y:=by rw[jv,hol];exact hov
   have hog2:gd (out++[cy]):=qF.2 ⟨hog,zR.2 (by omega)⟩
   refine⟨by omega,?_⟩
   have hl2:out.length+1=(out++[cy]).length:=by simp
   rw[hl2]
   refine ze false [530000000] (jp (out++[cy]) (by simp;omega)) (by simp(disch:=omega)only[go_sem]) (by simp(disch:=omega)only[go_sem]) rfl (qR (z:=1) (cs:=qc (out++[cy])) (by simp(disch:=omega)only[go_sem]) (by simp(disch:=omega)only[go_sem])) (by intro n hn;exact⟨_,List.mem_singleton.2 rfl,by rw[List.mem_singleton.1 hn];rfl⟩) ?_
   rintro r hs bs ⟨rfl,rfl,rfl⟩ _
   refine⟨by simp[qP],?_⟩
   simp(disch:=omega)only[go_sem]
   obtain⟨z,hz⟩:=zM (out++[cy])
   have hc:=jb hog2
   rw[hov2]at hc
   rw[hc]at hz ⊢
   refine qg [(0,530000000)] [.own 1 (qc (out++[cy]))] [] [.rf 0 0 (lim (vl X+vl Y).toNat).length] rfl (by simp(disch:=omega)only[go_sem]) (by simp(disch:=omega)only[go_sem]) (by simp) (by intro _;simp[zj,AV.pu,AV.pu.puL,Ob.pu,q7]) (.inr ⟨List.replicate z 0,by rw[hcm];rfl,by rw[hcm,←hz]⟩)
 ·revert A B
  intro X Y hX hY lX lY h0'
  have h00:Y.length≤X.length:=by omega
  have hcm:vl X+vl Y=vl X+vl Y:=rfl
  refine⟨by omega,?_⟩
  refine qj (fun x:Nat×List Int×Int=>[(1,.sl Y.length (qc Y)),(5,.rf 1 0 x.2.1.length),(6,.v (.int .i64 x.2.2)),(20,.sl X.length (qc X)),(21,.v (.int .i64 X.length)),(22,.v (.int .i64 x.1))])
   (fun x=>[(1,.own 1 (qc x.2.1))])
   (fun x=>x.1≤X.length∧x.2.1.length=x.1∧gd x.2.1∧(0≤x.2.2∧x.2.2≤1)∧vl x.2.1+65536^x.1*x.2.2=vl (X.take x.1)+vl (Y.take x.1))
   (fun x=>X.length-x.1) (0,[],0) ⟨by simp,rfl,Ji,by simp,by simp[vl]⟩
   (Le.lst [(1,210000000)] _ _ rfl (by simp(disch:=omega)only[go_sem]) (by simp(disch:=omega)only[go_sem])) ?_
  rintro⟨i,out,cy⟩ ⟨hi,hol,hog,hcy,hov⟩
  dsimp only at hi hol hog hcy hov ⊢
  simp(disch:=omega)only[go_sem]
  refine qe (fun h1=>?_) (fun h1=>?_)
  ·have hx:=qJ hX i
   have hy:=qJ hY i
   have hstep:∀q:Int,q=cy+X.getD i 0+Y.getD i 0→vl (out++[q % 65536])+65536^(i+1)*(q/65536)=vl (X.take (i+1))+vl (Y.take (i+1)):=by
    intro q hq
    rw[jv,qS,qS,hol,Int.pow_succ]
    have e3:q % 65536+65536*(q/65536)=q:=Int.emod_add_mul_ediv q 65536
    generalize (65536:Int)^i=Pi at*
    grind
   have hyz:¬i<Y.length→Y.getD i 0=0:=fun h=>by rw[List.getD_eq_getElem?_getD,List.getElem?_eq_none (by omega)];rfl
   simp(disch:=omega)only[go_sem,h1]
   refine⟨by omega,by omega,qe (fun h2=>?_) (fun h2=>?_)⟩
   ·simp(disch:=omega)only[go_sem,h2]
    generalize hq:cy+X.getD i 0+Y.getD i 0=q
    refine⟨by omega,by omega,by omega,qb (i+1,out++[q % 65536],q/65536) [(1,460000000)] ⟨by show i+1≤_;omega,by simp[hol],qF.2 ⟨hog,zR.2 (by omega)⟩,by show 0≤q/65536∧q/65536≤1;omega,hstep q hq.symm⟩ (by show X.length-(i+1)<X.length-i;omega) rfl (by simp(disch:=omega)only[go_sem,List.length_append];try omega) (by simp(disch:=omega)only[go_sem])⟩
   ·simp(disch:=omega)only[go_sem,h2]
    have hy0:=hyz (by omega)
    generalize hq:cy+X.getD i 0=q
    refine⟨by omega,qb (i+1,out++[q % 65536],q/65536) [(1,460000000)] ⟨by show i+1≤_;omega,by simp[hol],qF.2 ⟨hog,zR.2 (by omega)⟩,by show 0≤q/65536∧q/65536≤1;omega,hstep q (by omega)⟩ (by show X.length-(i+1)<X.length-i;omega) rfl (by simp(disch:=omega)only[go_sem,List.length_append];try omega) (by simp(disch:=omega)only[go_sem])⟩
  ·simp(disch:=omega)only[go_sem,h1]
   have hiA:i=X.length:=by omega
   subst hiA
   rw[List.take_length,List.take_of_length_le h00]at hov
   have hov2:vl (out++[cy])=vl X+vl Y:=by rw[jv,hol];exact hov
   have hog2:gd (out++[cy]):=qF.2 ⟨hog,zR.2 (by omega)⟩
   refine⟨by omega,?_⟩
   have hl2:out.length+1=(out++[cy]).length:=by simp
   rw[hl2]
   refine ze false [530000000] (jp (out++[cy]) (by simp;omega)) (by simp(disch:=omega)only[go_sem]) (by simp(disch:=omega)only[go_sem]) rfl (qR (z:=1) (cs:=qc (out++[cy])) (by simp(disch:=omega)only[go_sem]) (by simp(disch:=omega)only[go_sem])) (by intro n hn;exact⟨_,List.mem_singleton.2 rfl,by rw[List.mem_singleton.1 hn];rfl⟩) ?_
   rintro r hs bs ⟨rfl,rfl,rfl⟩ _
   refine⟨by simp[qP],?_⟩
   simp(disch:=omega)only[go_sem]
   obtain⟨z,hz⟩:=zM (out++[cy])
   have hc:=jb hog2
   rw[hov2]at hc
   rw[hc]at hz ⊢
   refine qg [(0,530000000)] [.own 1 (qc (out++[cy]))] [] [.rf 0 0 (lim (vl X+vl Y).toNat).length] rfl (by simp(disch:=omega)only[go_sem]) (by simp(disch:=omega)only[go_sem]) (by simp) (by intro _;simp[zj,AV.pu,AV.pu.puL,Ob.pu,q7]) (.inr ⟨List.replicate z 0,by rw[hcm];rfl,by rw[hcm,←hz]⟩)
end Go.Ab
namespace Go.Ab
open Go Go.Proofs
theorem aa4(cl:Bool)(xs:List Int)(hl:xs.length≤2^39):Con Tryz.prog 272 cl [.sl xs.length (qc xs)] [] (asz xs):=by
 refine Con.of_aw Tryz.func272 rfl Tryz.ntmps272 (by simp) (by simp) (by simp) (W.sound ?_)
 show @W Tryz.prog 8 ⟨_⟩ ⟨fun x σ=>@q9 _ _ _ ⟨_⟩ _ ⟨_⟩ x σ⟩ _ _
 simp(disch:=omega)only[go_sem]
 refine⟨fun h0=>?_,?_⟩
 ·have:xs=[]:=by cases xs with|nil=>rfl|cons a r=>cases h0
  subst this
  refine qg [] [] [] [.v (.slice none 0 0)] rfl (by simp(disch:=omega)only[go_sem]) (by simp(disch:=omega)only[go_sem]) (by simp) (by intro _;simp[zj,AV.pu]) (.inl ⟨rfl,rfl,rfl⟩)
 ·refine⟨by omega,?_⟩
  refine qg [(0,90000000)] [.own 1 (qc xs)] [] [.rf 0 0 xs.length] rfl (by simp(disch:=omega)only[go_sem]) (by simp(disch:=omega)only[go_sem]) (by simp) (by intro _;simp[zj,AV.pu,Ob.pu,q7]) (.inr ⟨[],rfl,by rw[List.append_nil]⟩)
end Go.Ab
namespace Go.Ab
open Go Go.Proofs
theorem aaV(x:Int):Con Tryz.prog 292 true [.v (.int .i64 x)] [] (isA (.v (.bool false))):=by
 refine Con.of_w (rs:=[.tmp 2]) Tryz.func292 rfl Tryz.ntmps292 rfl ?_
 simp(disch:=omega)only[go_sem]
 exact qy
theorem arN(x y:Int):Con Tryz.prog 277 true [.v (.int .i64 x),.v (.int .i64 y)] [] (isA (.v (.int .i64 (zy x y)))):=by
 refine Con.of_w (rs:=[.tmp 4]) Tryz.func277 rfl Tryz.ntmps277 rfl ?_
 simp(disch:=omega)only[go_sem]
 refine qk (aaV x) ?_
 simp(disch:=omega)only[go_sem]
 refine qk (aaV y) ?_
 simp(disch:=omega)only[go_sem]
 refine qe (fun h1=>?_) (fun h1=>?_)
 ·simp(disch:=omega)only[go_sem,h1]
  rw[show zy x y= -1 by simp[zy,h1]]
  exact qy
 ·simp(disch:=omega)only[go_sem,h1]
  refine qe (fun h2=>?_) (fun h2=>?_)
  ·simp(disch:=omega)only[go_sem,h2]
   rw[show zy x y=1 by simp[zy,h1,h2]]
   exact qy
  ·simp(disch:=omega)only[go_sem,h2]
   rw[show zy x y=0 by simp[zy,h1,h2]]
   exact qy
theorem z7(a b:Nat)(la:(lim a).length≤2^40)(lb:(lim b).length≤2^40):
  Con Tryz.prog 248 true [.sl (lim (a)).length (qc (lim (a))),.sl (lim (b)).length (qc (lim (b)))] [] (isA (.v (.int .i64 (zy a b)))):=by
 refine Con.of_w (rs:=[.tmp 4]) Tryz.func248 rfl Tryz.ntmps248 rfl ?_
 simp(disch:=omega)only[go_sem]
 refine zH (fun h1=>?_) (fun h1=>?_)
 ·simp(disch:=omega)only[go_sem,h1]
  refine qk (arN (lim a).length (lim b).length) ?_
  simp(disch:=omega)only[go_sem]
  have:zy ((lim a).length:Int) ((lim b).length:Int)=zy a b:=by
   unfold zy
   rcases(by omega:(lim a).length<(lim b).length∨(lim b).length<(lim a).length)with h|h
   ·have:=Qz h
    rw[if_pos (by omega),if_pos (by omega)]
   ·have:=Qz h
    rw[if_neg (by omega),if_pos (by omega),if_neg (by omega),if_pos (by omega)]
  rw[this]
  exact qy
 ·simp(disch:=omega)only[go_sem,h1]
  have hl:(lim a).length=(lim b).length:=by omega
  refine qj (fun k:Nat=>[(0,.sl (lim (a)).length (qc (lim (a)))),(1,.sl (lim (b)).length (qc (lim (b)))),(5,.v (.int .i64 ((k:Int)-1)))])
   (fun _=>[]) (fun k=>k≤(lim a).length∧(lim a).drop k=(lim b).drop k) (fun k=>k) (lim a).length ⟨Nat.le_refl _,by rw[List.drop_length,hl,List.drop_length]⟩ (Le.lst [] _ _ rfl (by simp(disch:=omega)only[go_sem];try omega) (by simp(disch:=omega)only[go_sem])) ?_
  rintro k ⟨hk,hd⟩
  simp(disch:=omega)only[go_sem]
  refine qe (fun h2=>?_) (fun h2=>?_)
  ·obtain⟨i,rfl⟩:∃i,k=i+1:=⟨k-1,by omega⟩
   have ei:((i+1:Nat):Int)-1=(i:Nat):=by omega
   simp(disch:=omega)only[go_sem,h2,ei]
   refine qq rfl [⟨0,[],[]⟩,⟨1,[],[]⟩,⟨2,[],[]⟩,⟨3,[],[]⟩,⟨4,[3],[]⟩,⟨5,[3],[]⟩,⟨6,[3],[]⟩,⟨7,[3],[]⟩,⟨8,[],[]⟩] (by kernel_rfl) ?_
   simp(disch:=omega)only[go_sem,ei]
   refine⟨by omega,by omega,by omega,by omega,?_⟩
   refine zH (fun h3=>?_) (fun h3=>?_)
   ·simp(disch:=omega)only[go_sem,h3]
    refine qq rfl [⟨0,[],[]⟩,⟨1,[],[]⟩,⟨2,[],[]⟩,⟨3,[],[]⟩,⟨4,[3],[]⟩,⟨5,[3],[]⟩,⟨6,[3],[]⟩,⟨7,[3],[]⟩,⟨8,[],[]⟩,⟨9,[],[]⟩] (by kernel_rfl) ?_
    simp(disch:=omega)only[go_sem,ei]
    refine⟨by omega,by omega,by omega,by omega,?_⟩
    refine qk (arN ((lim a).getD i 0) ((lim b).getD i 0)) ?_
    simp(disch:=omega)only[go_sem]
    have hva:=zb a
    have hvb:=zb b
    have:zy ((lim a).getD i 0) ((lim b).getD i 0)=zy a b:=by
     unfold zy
     rcases(by omega:(lim a).getD i 0<(lim b).getD i 0∨(lim b).getD i 0<(lim a).getD i 0)with h|h
     ·have:=Zx (zd a) (zd b) (by omega) hl hd h
      rw[if_pos (by omega),if_pos (by omega)]
     ·have:=Zx (zd b) (zd a) (by omega) hl.symm hd.symm h
      rw[if_neg (by omega),if_pos (by omega),if_neg (by omega),if_pos (by omega)]
    rw[this]
    exact qy
   ·simp(disch:=omega)only[go_sem,h3]
    refine qb i [] ⟨by omega,?_⟩ (by show i<i+1;omega) rfl (by simp(disch:=omega)only[go_sem];try omega) (by simp(disch:=omega)only[go_sem])
    rw[yE (l:=lim a) (by omega),yE (l:=lim b) (by omega),h3,hd]
  ·simp(disch:=omega)only[go_sem,h2]
   have:k=0:=by omega
   subst this
   rw[List.drop_zero,List.drop_zero]at hd
   have:=jk hd
   subst this
   rw[show zy (a:Int) (a:Int)=0 by simp[zy]]
   exact qy
end Go.Ab
namespace Go.Proofs
open Go.Shelf
def Tryz.lays29_ren:Go.Shelf.Ren:=⟨fun|29=>287|n=>n,fun|0=>0|3=>3|4=>4|5=>5|22=>254|25=>216|54=>262|n=>n,fun|1=>1|n=>n⟩
theorem Tryz.lays29:Go.Proofs.Lays7.n29 Tryz.prog Tryz.lays29_ren:={
 mixed:=by kernel_rfl
 f29:=Tryz.func287.trans (congrArg some (by kernel_rfl))
 t0:=Tryz.underlying0
 a0:=Tryz.isAgg0
 z0:=Tryz.sizeOf0
 v0:=Tryz.zeroValue0
 i0:=by kernel_rfl
 t3:=Tryz.underlying3
 a3:=Tryz.isAgg3
 z3:=Tryz.sizeOf3
 v3:=Tryz.zeroValue3
 i3:=by kernel_rfl
 t4:=Tryz.underlying4
 a4:=Tryz.isAgg4
 z4:=Tryz.sizeOf4
 v4:=Tryz.zeroValue4
 i4:=by kernel_rfl
 t5:=Tryz.underlying5
 a5:=Tryz.isAgg5
 z5:=Tryz.sizeOf5
 v5:=Tryz.zeroValue5
 i5:=by kernel_rfl
 t22:=Tryz.underlying254
 a22:=Tryz.isAgg254
 z22:=Tryz.sizeOf254
 v22:=Tryz.zeroValue254
 i22:=by kernel_rfl
 t25:=Tryz.underlying216
 a25:=Tryz.isAgg216
 z25:=Tryz.sizeOf216
 v25:=Tryz.zeroValue216
 i25:=by kernel_rfl
 t54:=Tryz.underlying262
 a54:=Tryz.isAgg262
 z54:=Tryz.sizeOf262
 g1:=by kernel_rfl}
def Tryz.lays129_ren:Go.Shelf.Ren:=⟨fun|129=>295|n=>n,fun|53=>254|46=>216|3=>3|4=>4|5=>5|9=>9|n=>n,fun|n=>n⟩
theorem Tryz.lays129:Go.Proofs.Lays.n129 Tryz.prog Tryz.lays129_ren:={
 mixed:=by kernel_rfl
 f129:=Tryz.func295.trans (congrArg some (by kernel_rfl))
 t3:=Tryz.underlying3
 a3:=Tryz.isAgg3
 z3:=Tryz.sizeOf3
 v3:=Tryz.zeroValue3
 t4:=Tryz.underlying4
 a4:=Tryz.isAgg4
 z4:=Tryz.sizeOf4
 v4:=Tryz.zeroValue4
 t5:=Tryz.underlying5
 a5:=Tryz.isAgg5
 z5:=Tryz.sizeOf5
 v5:=Tryz.zeroValue5
 t9:=Tryz.underlying9
 a9:=Tryz.isAgg9
 z9:=Tryz.sizeOf9
 v9:=Tryz.zeroValue9
 t46:=Tryz.underlying216
 a46:=Tryz.isAgg216
 z46:=Tryz.sizeOf216
 v46:=Tryz.zeroValue216
 t53:=Tryz.underlying254
 a53:=Tryz.isAgg254
 z53:=Tryz.sizeOf254
 v53:=Tryz.zeroValue254}
end Go.Proofs
namespace Go.Ab
open Go Go.Proofs
theorem aUb(x:Nat)(h0:x≠0)(h:x<2^64):Lib.ctz 64 x=tz x:=by
 unfold Lib.ctz
 rw[if_neg h0]
 obtain⟨m,hm,_⟩:=Lib.ctzFrom_spec 64 x (by omega) h
 exact(QN hm).symm
theorem ar7(x:Nat)(h:x<2^64):Lib.bitLen x=bl x:=by
 induction x using Nat.strongRecOn with
 |_ x ih=>
  by_cases h0:x=0
  ·subst h0;rfl
  ·rw[Lib.bitLen_half x h0 h,ih (x/2) (by omega) (by omega),aUD h0,Nat.add_comm]
theorem aD1(x:Nat)(h0:x≠0)(h:x<2^64):Con Tryz.prog 287 true [.v (.int .u64 x)] [] (isA (.v (.int .i64 (tz x)))):=
 Con.scalar (xs:=[.int .u64 x]) fun w hg=>by
  rw[←aUb x h0 h]
  exact Any7.bits_TrailingZeros64 Tryz.lays29 x h w fun _ j hj=>(hg 1 Lib.deBruijn64tab rfl).2 j hj
theorem arl(x:Nat)(h:x<2^64):Con Tryz.prog 295 true [.v (.int .u64 x)] [] (isA (.v (.int .i64 (bl x)))):=
 Con.scalar (xs:=[.int .u64 x]) fun w hg=>by
  rw[←ar7 x h]
  exact Any.bits_Len64 Tryz.lays129 x w (by omega) (by omega)
theorem aUi(x:Nat)(h0:x≠0)(h:x<2^64):Con Tryz.prog 271 true [.v (.int .u64 x)] [] (isA (.v (.int .i64 (tz x)))):=by
 refine Con.of_w (rs:=[.tmp 2]) Tryz.func271 rfl Tryz.ntmps271 rfl ?_
 simp(disch:=omega)only[go_sem]
 refine qk (aD1 x h0 h) ?_
 simp(disch:=omega)only[go_sem]
 exact qy
theorem arm(x:Nat)(h:x<2^64):Con Tryz.prog 283 true [.v (.int .u64 x)] [] (isA (.v (.int .i64 (bl x)))):=by
 refine Con.of_w (rs:=[.tmp 2]) Tryz.func283 rfl Tryz.ntmps283 rfl ?_
 simp(disch:=omega)only[go_sem]
 refine qk (arl x h) ?_
 simp(disch:=omega)only[go_sem]
 exact qy
theorem alb{x:Int}(h1:0≤x)(h2:x<9223372036854775808):IntKind.u64.wrap x=x:=by
 simp only[IntKind.wrap,IntKind.signed,IntKind.bits]
 simp only[Bool.false_and,Bool.false_eq_true,if_false]
 omega
theorem akM(m:Nat)(hl:(lim m).length≤2^40):Con Tryz.prog 267 true [.sl (lim (m)).length (qc (lim (m)))] [] (isA (.v (.int .i64 (bl m)))):=by
 refine Con.of_w (rs:=[.tmp 2]) Tryz.func267 rfl Tryz.ntmps267 rfl ?_
 simp(disch:=omega)only[go_sem]
 refine qe (fun h1=>?_) (fun h1=>?_)
 ·simp(disch:=omega)only[go_sem,h1]
  have:m=0:=qI.1 (List.length_eq_zero_iff.1 (by omega))
  subst this
  rw[JE]
  exact qy
 ·have hm:m≠0:=fun e=>by rw[e,qn]at h1;simp at h1
  have e1:((lim m).length:Int).toNat-1=(lim m).length-1:=by omega
  have e2:(((lim m).length:Int)-1).toNat=(lim m).length-1:=by omega
  have ht:=YT hm
  have hb:=aGl hm
  simp(disch:=omega)only[go_sem,h1,e2,zY]
  generalize m/65536^((lim m).length-1)=q at*
  have e3:((q % 65536:Nat):Int)=(q:Int):=by omega
  simp(disch:=omega)only[go_sem,e3,alb]
  refine⟨by omega,by omega,?_⟩
  refine qk (arm q (by omega)) ?_
  simp(disch:=omega)only[go_sem]
  have hq:bl q≤16:=zC.2 (by omega)
  have e4:(16:Int)*(((lim m).length:Int)-1)+(bl q:Int)=(bl m:Int):=by omega
  simp(disch:=omega)only[go_sem,e4]
  exact qy
theorem aGu{m i:Nat}(hz:∀j,j<i→(lim m).getD j 0=0)(hx:(lim m).getD i 0≠0):tz m=16*i+tz (m/65536^i % 65536):=by
 rw[zY]at hx
 have hx':m/65536^i % 65536≠0:=fun e=>hx (by rw[e];rfl)
 obtain⟨a,ha⟩:=YA hx'
 have hlow:65536^i*(m/65536^i)=m:=by
  have key:∀k,k≤i→m % 65536^k=0:=by
   intro k
   induction k with
   |zero=>intro _;simp[Nat.mod_one]
   |succ k ih=>
    intro hk
    have h1:=ih (by omega)
    have h2:=hz k (by omega)
    rw[zY]at h2
    have h3:m/65536^k % 65536=0:=by omega
    rw[Nat.pow_succ,Nat.mod_mul,h1,h3];omega
  have:=Nat.div_add_mod m (65536^i)
  rw[key i (Nat.le_refl _)]at this
  omega
 generalize hq:m/65536^i=q at*
 have ht:tz (q % 65536)<16:=by
  have h1:=yK hx'
  have:bl (q % 65536)≤16:=zC.2 (by omega)
  omega
 generalize hk:tz (q % 65536)=k at*
 have e16:(65536:Nat)=2^k*(2*2^(15-k)):=by rw[Nat.mul_left_comm,←Nat.pow_add,show k+(15-k)=15 by omega]
 refine QN (a:=a+2^(15-k)*(q/65536)) ?_
 have hd:=Nat.div_add_mod q 65536
 rw[←hlow,Nat.pow_add,←Z3]
 have h5:q=2^k*(2*(a+2^(15-k)*(q/65536))+1):=by
  have:q=2^k*(2*2^(15-k))*(q/65536)+2^k*(2*a+1):=by rw[←e16,←ha];omega
  generalize q/65536=y at*
  generalize 2^(15-k)=z at*
  grind
 generalize q/65536=y at*
 rw[Nat.mul_assoc,←h5]
theorem aeG(m:Nat)(hl:(lim m).length≤2^40):Con Tryz.prog 234 true [.sl (lim (m)).length (qc (lim (m)))] [] (isA (.v (.int .i64 (tz m)))):=by
 refine Con.of_w (rs:=[.tmp 2]) Tryz.func234 rfl Tryz.ntmps234 rfl ?_
 simp(disch:=omega)only[go_sem]
 refine qj (fun i:Nat=>[(0,.sl (lim (m)).length (qc (lim (m)))),(5,.sl (lim (m)).length (qc (lim (m)))),(6,.v (.int .i64 (lim m).length)),(7,.v (.int .i64 i))])
  (fun _=>[]) (fun i=>i≤(lim m).length∧∀j,j<i→(lim m).getD j 0=0) (fun i=>(lim m).length-i) 0 ⟨by omega,fun j hj=>by omega⟩ (Le.lst [] _ _ rfl (by simp(disch:=omega)only[go_sem];try omega) (by simp(disch:=omega)only[go_sem])) ?_
 rintro i ⟨hi,hz⟩
 simp(disch:=omega)only[go_sem]
 refine qe (fun h1=>?_) (fun h1=>?_)
 ·simp(disch:=omega)only[go_sem,h1]
  refine⟨by omega,by omega,zH (fun h2=>?_) (fun h2=>?_)⟩
  ·have ht:=aGu hz h2
   have hx:m/65536^i % 65536≠0:=fun e=>h2 (by rw[zY,e];rfl)
   have ht16:tz (m/65536^i % 65536)<16:=by
    have h1:=yK hx
    have:bl (m/65536^i % 65536)≤16:=zC.2 (by omega)
    omega
   simp(disch:=omega)only[go_sem,h2,zY]
   generalize hq:m/65536^i % 65536=q at*
   have hq6:q<65536:=by omega
   simp(disch:=omega)only[go_sem,alb]
   refine qk (aUi q hx (by omega)) ?_
   simp(disch:=omega)only[go_sem]
   have e4:(16:Int)*(i:Int)+(tz q:Int)=(tz m:Int):=by omega
   simp(disch:=omega)only[go_sem,e4]
   exact qy
  ·simp(disch:=omega)only[go_sem,h2]
   refine qb (i+1) [] ⟨by omega,fun j hj=>?_⟩ (by show(lim m).length-(i+1)<(lim m).length-i;omega) rfl (by simp(disch:=omega)only[go_sem];try omega) (by simp(disch:=omega)only[go_sem])
   rcases(by omega:j<i∨j=i)with h|h
   ·exact hz j h
   ·subst h;exact h2
 ·simp(disch:=omega)only[go_sem,h1]
  have hm:m=0:=by
   have:=zb m
   have h3:lim m=List.replicate (lim m).length 0:=by
    apply List.ext_getElem
    ·simp
    ·intro j h1 h2
     have:=hz j (by omega)
     rw[List.getD_eq_getElem?_getD,List.getElem?_eq_getElem h1]at this
     simpa using this
   rw[h3,zO]at this
   omega
  subst hm
  rw[alf]
  exact qy
theorem aa5(m:Nat)(i:Int)(hl:(lim m).length≤2^40)(hi:0≤i)(hi2:i<2^62):Con Tryz.prog 175 true [.sl (lim (m)).length (qc (lim (m))),.v (.int .i64 i)] [] (isA (.v (.int .i64 ((m/2^i.toNat % 2:Nat):Int)))):=by
 refine Con.of_w (rs:=[.tmp 4]) Tryz.func175 rfl Tryz.ntmps175 rfl ?_
 obtain⟨k,rfl⟩:=Int.eq_ofNat_of_zero_le hi
 rw[Int.toNat_natCast]
 have h0:¬((k:Int)<0):=by omega
 have e16:((k:Int)/16).toNat=k/16:=by omega
 have em:min ((k:Int) % 16).toNat 64=k % 16:=by omega
 have hb:=ar6 m k
 simp(disch:=omega)only[go_sem,h0]
 refine qe (fun h1=>?_) (fun h1=>?_)
 ·simp(disch:=omega)only[go_sem,h1]
  have:m/2^k % 2=0:=by
   rw[←hb]
   have h2:=zY m (k/16)
   rw[List.getD_eq_getElem?_getD,List.getElem?_eq_none (by omega)]at h2
   have h3:m/65536^(k/16) % 65536=0:=by simp only[Option.getD_none]at h2;omega
   rw[h3];simp
  rw[this]
  exact qy
 ·have hx:=qJ (zd m) (k/16)
  have hp:(0:Int)<2^(k % 16):=Int.pow_pos (by omega)
  have efd:∀x:Int,x.fdiv (2^(k % 16))=x/2^(k % 16):=fun x=>Int.fdiv_eq_ediv_of_nonneg _ (Int.le_of_lt hp)
  have hq:0≤(lim m).getD (k/16) 0/2^(k % 16)∧(lim m).getD (k/16) 0/2^(k % 16)<65536:=by
   refine⟨Int.ediv_nonneg hx.1 (Int.le_of_lt hp),Int.lt_of_le_of_lt (Int.ediv_le_self _ hx.1) hx.2⟩
  have hr:(lim m).getD (k/16) 0/2^(k % 16) % 2=((m/2^k % 2:Nat):Int):=by
   rw[←hb,zY]
   generalize m/65536^(k/16) % 65536=x
   rw[Int.natCast_emod,Int.natCast_ediv,Int.natCast_pow];rfl
  simp(disch:=omega)only[go_sem,h1,e16,em,efd,hr]
  refine⟨by omega,by omega,by omega,?_⟩
  exact qy
end Go.Ab
namespace Go.Ab
open Go Go.Proofs
theorem abo(a k:Nat):(vl (lim a)*2^k).toNat=a*2^k:=by
 rw[zb]
 have:((a:Int)*2^k)=((a*2^k:Nat):Int):=by rw[Int.natCast_mul,Int.natCast_pow];rfl
 rw[this,Int.toNat_natCast]
theorem abp(a k:Nat):(vl (lim a)/2^k).toNat=a/2^k:=by
 rw[zb]
 have:((a:Int)/2^k)=((a/2^k:Nat):Int):=by rw[Int.natCast_ediv,Int.natCast_pow];rfl
 rw[this,Int.toNat_natCast]
theorem aGy(a b:Nat):(vl (lim a)*vl (lim b)).toNat=a*b:=by rw[zb,zb,←Int.natCast_mul,Int.toNat_natCast]
theorem aGz(a b:Nat):(vl (lim a)+vl (lim b)).toNat=a+b:=by rw[zb,zb];omega
theorem aGx(a b:Nat):(vl (lim a)-vl (lim b)).toNat=a-b:=by rw[zb,zb];omega
theorem zF(n:Nat)(hn:n<2^63):Con Tryz.prog 216 false [.v (.int .i64 n)] [] (aK8 (lim n)):=(arb false n hn).num
theorem aq6(cl:Bool)(a k:Nat)(la:(lim a).length≤1000000)(hk:k≤100000000):Con Tryz.prog 244 cl [.sl (lim (a)).length (qc (lim (a))),.v (.int .i64 k)] [] (asz (lim (a*2^k))):=by
 have:=aUh cl (lim a) k (zd a) la hk
 rwa[abo]at this
theorem zT(a k:Nat)(la:(lim a).length≤1000000)(hk:k≤100000000):Con Tryz.prog 244 false [.sl (lim (a)).length (qc (lim (a))),.v (.int .i64 k)] [] (aK8 (lim (a*2^k))):=(aq6 false a k la hk).num
theorem aa1(cl:Bool)(a k:Nat)(la:(lim a).length≤1000000)(hk:k≤100000000):Con Tryz.prog 235 cl [.sl (lim (a)).length (qc (lim (a))),.v (.int .i64 k)] [] (asz (lim (a/2^k))):=by
 have:=aEd cl (lim a) k (zd a) la hk
 rwa[abp]at this
theorem arK(a k:Nat)(la:(lim a).length≤1000000)(hk:k≤100000000):Con Tryz.prog 235 false [.sl (lim (a)).length (qc (lim (a))),.v (.int .i64 k)] [] (aK8 (lim (a/2^k))):=(aa1 false a k la hk).num
theorem Yc(a b:Nat)(la:(lim a).length≤1000000)(lb:(lim b).length≤1000000):Con Tryz.prog 201 false [.sl (lim (a)).length (qc (lim (a))),.sl (lim (b)).length (qc (lim (b)))] [] (aK8 (lim (a*b))):=by
 have:=(aq7 false (lim a) (lim b) (zd a) (zd b) la lb).num
 rwa[aGy]at this
theorem aaM(a b:Nat)(la:(lim a).length≤2000000)(lb:(lim b).length≤2000000):Con Tryz.prog 249 false [.sl (lim (a)).length (qc (lim (a))),.sl (lim (b)).length (qc (lim (b)))] [] (aK8 (lim (a+b))):=by
 have:=(aD2 false (lim a) (lim b) (zd a) (zd b) la lb).num
 rwa[aGz]at this
theorem arL(a d:Nat)(la:(lim a).length≤1000000)(hd:0<d)(hd2:d<65536):
  Con Tryz.prog 288 false [.sl (lim (a)).length (qc (lim (a))),.v (.int .i64 d)] [] (isA (.tu [.sl (lim (a/d)).length (qc (lim (a/d))),.v (.int .i64 ((a % d:Nat):Int))])):=
 Con.frzA <| (aEe false (lim a) d (zd a) la hd hd2).mono fun r hs bs ⟨zs,h1,h2⟩=>by
  rw[zb]at h1 h2
  rw[h1,h2]
  have e:((a:Int)/(d:Int)).toNat=a/d:=by
   rw[←Int.natCast_ediv,Int.toNat_natCast]
  rw[e]
  show qG _ 6 _=_
  unfold qG
  simp only[List.map_cons,List.map_nil]
  rw[j9 (k:=3) (l:=lim (a/d)) (zs:=zs) zf rfl]
  rw[Int.natCast_emod];rfl
end Go.Ab
