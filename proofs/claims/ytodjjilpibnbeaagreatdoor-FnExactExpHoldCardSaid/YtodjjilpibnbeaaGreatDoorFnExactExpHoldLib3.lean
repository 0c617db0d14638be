/- What the proof of this claim stands on: the walks of the functions and the plain laws, part 3. -/
import Derived.Test.YtodjjilpibnbeaaGreatDoorFnExactExpHoldLib2
import Derived.Test.YtodjjilpibnbeaaGreatDoorProg
import Derived.KernelRfl
set_option linter.unusedVariables false
set_option linter.unusedSimpArgs false
namespace Go.Ab
open Go Go.Proofs
def ti1:TI:=⟨Kd.oth,1,8,Value.nilFunc⟩
theorem tf1:qs Tryz.prog 1=some ti1:=by kernel_rfl
def ti2:TI:=⟨Kd.int IntKind.i64,1,8,Value.int IntKind.i64 0⟩
theorem tf2:qs Tryz.prog 2=some ti2:=by kernel_rfl
def ti3:TI:=⟨Kd.int IntKind.i64,1,8,Value.int IntKind.i64 0⟩
theorem tf3:qs Tryz.prog 3=some ti3:=by kernel_rfl
def ti4:TI:=⟨Kd.bool,1,1,Value.bool false⟩
theorem tf4:qs Tryz.prog 4=some ti4:=by kernel_rfl
def ti5:TI:=⟨Kd.int IntKind.u8,1,1,Value.int IntKind.u8 0⟩
theorem tf5:qs Tryz.prog 5=some ti5:=by kernel_rfl
def ti6:TI:=⟨Kd.int IntKind.u8,1,1,Value.int IntKind.u8 0⟩
theorem tf6:qs Tryz.prog 6=some ti6:=by kernel_rfl
def ti7:TI:=⟨Kd.stru [(0,2),(1,3),(2,4),(3,6)],4,24,Value.agg ⟨[Value.int IntKind.i64 0,Value.int IntKind.i64 0,Value.bool false,Value.int IntKind.u8 0]⟩⟩
theorem tf7:qs Tryz.prog 7=some ti7:=by kernel_rfl
def ti8:TI:=⟨Kd.stru [(0,2),(1,3),(2,4),(3,6)],4,24,Value.agg ⟨[Value.int IntKind.i64 0,Value.int IntKind.i64 0,Value.bool false,Value.int IntKind.u8 0]⟩⟩
theorem tf8:qs Tryz.prog 8=some ti8:=by kernel_rfl
def ti9:TI:=⟨Kd.str,1,16,Value.string {data:=⟨[]⟩}⟩
theorem tf9:qs Tryz.prog 9=some ti9:=by kernel_rfl
def aMT:TI:=⟨Kd.str,1,16,Value.string {data:=⟨[]⟩}⟩
theorem bqK:qs Tryz.prog 10=some aMT:=by kernel_rfl
def aMS:TI:=⟨Kd.str,1,16,Value.string {data:=⟨[]⟩}⟩
theorem bqJ:qs Tryz.prog 11=some aMS:=by kernel_rfl
def aMR:TI:=⟨Kd.int IntKind.u64,1,8,Value.int IntKind.u64 0⟩
theorem bqI:qs Tryz.prog 12=some aMR:=by kernel_rfl
def aMQ:TI:=⟨Kd.int IntKind.i32,1,4,Value.int IntKind.i32 0⟩
theorem bqH:qs Tryz.prog 21=some aMQ:=by kernel_rfl
def Y7:TI:=⟨Kd.sli 5,1,24,Value.slice none 0 0⟩
theorem agQ:qs Tryz.prog 22=some Y7:=by kernel_rfl
def aeU:TI:=⟨Kd.sli 44,1,24,Value.slice none 0 0⟩
theorem aIr:qs Tryz.prog 23=some aeU:=by kernel_rfl
def arV:TI:=⟨Kd.stru [(0,3),(1,23)],2,32,Value.agg ⟨[Value.int IntKind.i64 0,Value.slice none 0 0]⟩⟩
theorem bfI:qs Tryz.prog 24=some arV:=by kernel_rfl
def arL:TI:=⟨Kd.stru [(0,3),(1,23)],2,32,Value.agg ⟨[Value.int IntKind.i64 0,Value.slice none 0 0]⟩⟩
theorem bfH:qs Tryz.prog 25=some arL:=by kernel_rfl
def aMP:TI:=⟨Kd.oth,1,8,Value.nilFunc⟩
theorem bqG:qs Tryz.prog 27=some aMP:=by kernel_rfl
def aMO:TI:=⟨Kd.oth,1,8,Value.nilFunc⟩
theorem bqF:qs Tryz.prog 28=some aMO:=by kernel_rfl
def aMN:TI:=⟨Kd.oth,1,8,Value.nilFunc⟩
theorem bqE:qs Tryz.prog 29=some aMN:=by kernel_rfl
def aMM:TI:=⟨Kd.oth,1,8,Value.nilFunc⟩
theorem bqD:qs Tryz.prog 30=some aMM:=by kernel_rfl
def aML:TI:=⟨Kd.oth,1,8,Value.nilFunc⟩
theorem bqC:qs Tryz.prog 31=some aML:=by kernel_rfl
def aMK:TI:=⟨Kd.oth,1,8,Value.nilFunc⟩
theorem bqB:qs Tryz.prog 32=some aMK:=by kernel_rfl
def aMJ:TI:=⟨Kd.oth,1,8,Value.nilFunc⟩
theorem bqA:qs Tryz.prog 33=some aMJ:=by kernel_rfl
def ais:TI:=⟨Kd.sli 137,1,24,Value.slice none 0 0⟩
theorem aMW:qs Tryz.prog 34=some ais:=by kernel_rfl
def aqL:TI:=⟨Kd.stru [(0,3),(1,34)],2,32,Value.agg ⟨[Value.int IntKind.i64 0,Value.slice none 0 0]⟩⟩
theorem bfG:qs Tryz.prog 35=some aqL:=by kernel_rfl
def aqJ:TI:=⟨Kd.stru [(0,3),(1,34)],2,32,Value.agg ⟨[Value.int IntKind.i64 0,Value.slice none 0 0]⟩⟩
theorem bfF:qs Tryz.prog 36=some aqJ:=by kernel_rfl
def aMI:TI:=⟨Kd.oth,1,8,Value.nilFunc⟩
theorem bqz:qs Tryz.prog 37=some aMI:=by kernel_rfl
def JU:TI:=⟨Kd.sli 3,1,24,Value.slice none 0 0⟩
theorem ab7:qs Tryz.prog 38=some JU:=by kernel_rfl
def axU:TI:=⟨Kd.stru [(0,38)],1,24,Value.agg ⟨[Value.slice none 0 0]⟩⟩
theorem biL:qs Tryz.prog 39=some axU:=by kernel_rfl
def Y4:TI:=⟨Kd.stru [(0,38)],1,24,Value.agg ⟨[Value.slice none 0 0]⟩⟩
theorem agP:qs Tryz.prog 40=some Y4:=by kernel_rfl
def aqC:TI:=⟨Kd.stru [(0,4),(1,40)],2,32,Value.agg ⟨[Value.bool false,Value.slice none 0 0]⟩⟩
theorem bfE:qs Tryz.prog 41=some aqC:=by kernel_rfl
def Ke:TI:=⟨Kd.stru [(0,4),(1,40)],2,32,Value.agg ⟨[Value.bool false,Value.slice none 0 0]⟩⟩
theorem axV:qs Tryz.prog 42=some Ke:=by kernel_rfl
def aqz:TI:=⟨Kd.stru [(0,42),(2,3)],3,40,Value.agg ⟨[Value.bool false,Value.slice none 0 0,Value.int IntKind.i64 0]⟩⟩
theorem bfD:qs Tryz.prog 43=some aqz:=by kernel_rfl
def JH:TI:=⟨Kd.stru [(0,42),(2,3)],3,40,Value.agg ⟨[Value.bool false,Value.slice none 0 0,Value.int IntKind.i64 0]⟩⟩
theorem ab6:qs Tryz.prog 44=some JH:=by kernel_rfl
def aMH:TI:=⟨Kd.oth,1,8,Value.nilFunc⟩
theorem bqy:qs Tryz.prog 46=some aMH:=by kernel_rfl
def aMG:TI:=⟨Kd.oth,1,8,Value.nilFunc⟩
theorem bqx:qs Tryz.prog 47=some aMG:=by kernel_rfl
def aMF:TI:=⟨Kd.oth,1,8,Value.nilFunc⟩
theorem bqw:qs Tryz.prog 48=some aMF:=by kernel_rfl
def aME:TI:=⟨Kd.oth,1,8,Value.nilFunc⟩
theorem bqv:qs Tryz.prog 49=some aME:=by kernel_rfl
def aMD:TI:=⟨Kd.oth,1,8,Value.nilFunc⟩
theorem bqu:qs Tryz.prog 50=some aMD:=by kernel_rfl
def air:TI:=⟨Kd.sli 167,1,24,Value.slice none 0 0⟩
theorem aMV:qs Tryz.prog 51=some air:=by kernel_rfl
def aqp:TI:=⟨Kd.stru [(0,3),(1,51)],2,32,Value.agg ⟨[Value.int IntKind.i64 0,Value.slice none 0 0]⟩⟩
theorem bfC:qs Tryz.prog 52=some aqp:=by kernel_rfl
def aqn:TI:=⟨Kd.stru [(0,3),(1,51)],2,32,Value.agg ⟨[Value.int IntKind.i64 0,Value.slice none 0 0]⟩⟩
theorem bfB:qs Tryz.prog 53=some aqn:=by kernel_rfl
def aMC:TI:=⟨Kd.oth,1,8,Value.nilFunc⟩
theorem bqt:qs Tryz.prog 55=some aMC:=by kernel_rfl
def aMB:TI:=⟨Kd.oth,1,8,Value.nilFunc⟩
theorem bqs:qs Tryz.prog 56=some aMB:=by kernel_rfl
def aMA:TI:=⟨Kd.oth,1,8,Value.nilFunc⟩
theorem bqr:qs Tryz.prog 57=some aMA:=by kernel_rfl
def aMz:TI:=⟨Kd.oth,1,8,Value.nilFunc⟩
theorem bqq:qs Tryz.prog 58=some aMz:=by kernel_rfl
def aMy:TI:=⟨Kd.oth,1,8,Value.nilFunc⟩
theorem bqp:qs Tryz.prog 59=some aMy:=by kernel_rfl
def aMx:TI:=⟨Kd.sli 65,1,24,Value.slice none 0 0⟩
theorem boq:qs Tryz.prog 60=some aMx:=by kernel_rfl
def aMw:TI:=⟨Kd.oth,1,8,Value.nilFunc⟩
theorem bqo:qs Tryz.prog 61=some aMw:=by kernel_rfl
def aMv:TI:=⟨Kd.oth,1,8,Value.nilFunc⟩
theorem bqn:qs Tryz.prog 63=some aMv:=by kernel_rfl
def apd:TI:=⟨Kd.stru [(0,3),(1,3),(2,22)],3,40,Value.agg ⟨[Value.int IntKind.i64 0,Value.int IntKind.i64 0,Value.slice none 0 0]⟩⟩
theorem aXA:qs Tryz.prog 64=some apd:=by kernel_rfl
def aj7:TI:=⟨Kd.stru [(0,3),(1,3),(2,22)],3,40,Value.agg ⟨[Value.int IntKind.i64 0,Value.int IntKind.i64 0,Value.slice none 0 0]⟩⟩
theorem aWI:qs Tryz.prog 65=some aj7:=by kernel_rfl
def aMu:TI:=⟨Kd.oth,1,8,Value.nilFunc⟩
theorem bqm:qs Tryz.prog 66=some aMu:=by kernel_rfl
def ap9:TI:=⟨Kd.stru [(0,22),(1,3)],2,32,Value.agg ⟨[Value.slice none 0 0,Value.int IntKind.i64 0]⟩⟩
theorem bfA:qs Tryz.prog 68=some ap9:=by kernel_rfl
def ap7:TI:=⟨Kd.stru [(0,22),(1,3)],2,32,Value.agg ⟨[Value.slice none 0 0,Value.int IntKind.i64 0]⟩⟩
theorem bfz:qs Tryz.prog 69=some ap7:=by kernel_rfl
def aMt:TI:=⟨Kd.oth,1,8,Value.nilFunc⟩
theorem bql:qs Tryz.prog 70=some aMt:=by kernel_rfl
def aMs:TI:=⟨Kd.oth,1,8,Value.nilFunc⟩
theorem bqk:qs Tryz.prog 72=some aMs:=by kernel_rfl
def aMr:TI:=⟨Kd.oth,1,8,Value.nilFunc⟩
theorem bqj:qs Tryz.prog 73=some aMr:=by kernel_rfl
def aMq:TI:=⟨Kd.oth,1,8,Value.nilFunc⟩
theorem bqi:qs Tryz.prog 74=some aMq:=by kernel_rfl
def aMp:TI:=⟨Kd.oth,1,8,Value.nilFunc⟩
theorem bqh:qs Tryz.prog 75=some aMp:=by kernel_rfl
def aMo:TI:=⟨Kd.oth,1,8,Value.nilFunc⟩
theorem bqg:qs Tryz.prog 76=some aMo:=by kernel_rfl
def aMn:TI:=⟨Kd.oth,1,8,Value.nilFunc⟩
theorem bqf:qs Tryz.prog 77=some aMn:=by kernel_rfl
def aMm:TI:=⟨Kd.oth,1,8,Value.nilFunc⟩
theorem bqe:qs Tryz.prog 78=some aMm:=by kernel_rfl
def aMl:TI:=⟨Kd.oth,1,8,Value.nilFunc⟩
theorem bqd:qs Tryz.prog 79=some aMl:=by kernel_rfl
def aMk:TI:=⟨Kd.oth,1,8,Value.nilFunc⟩
theorem bqc:qs Tryz.prog 80=some aMk:=by kernel_rfl
def aMj:TI:=⟨Kd.oth,1,8,Value.nilFunc⟩
theorem bqb:qs Tryz.prog 81=some aMj:=by kernel_rfl
def aMi:TI:=⟨Kd.oth,1,8,Value.nilFunc⟩
theorem bqa:qs Tryz.prog 82=some aMi:=by kernel_rfl
def aMh:TI:=⟨Kd.oth,1,8,Value.nilFunc⟩
theorem bp9:qs Tryz.prog 83=some aMh:=by kernel_rfl
def aMg:TI:=⟨Kd.oth,1,8,Value.nilFunc⟩
theorem bp8:qs Tryz.prog 84=some aMg:=by kernel_rfl
def aMf:TI:=⟨Kd.oth,1,8,Value.nilFunc⟩
theorem bp7:qs Tryz.prog 85=some aMf:=by kernel_rfl
def aMe:TI:=⟨Kd.oth,1,8,Value.nilFunc⟩
theorem bp6:qs Tryz.prog 86=some aMe:=by kernel_rfl
def aiq:TI:=⟨Kd.sli 97,1,24,Value.slice none 0 0⟩
theorem aMU:qs Tryz.prog 87=some aiq:=by kernel_rfl
def apM:TI:=⟨Kd.stru [(0,3),(1,87)],2,32,Value.agg ⟨[Value.int IntKind.i64 0,Value.slice none 0 0]⟩⟩
theorem bfy:qs Tryz.prog 88=some apM:=by kernel_rfl
def apK:TI:=⟨Kd.stru [(0,3),(1,87)],2,32,Value.agg ⟨[Value.int IntKind.i64 0,Value.slice none 0 0]⟩⟩
theorem bfx:qs Tryz.prog 89=some apK:=by kernel_rfl
def aMd:TI:=⟨Kd.oth,1,8,Value.nilFunc⟩
theorem bp5:qs Tryz.prog 90=some aMd:=by kernel_rfl
def aMc:TI:=⟨Kd.oth,1,8,Value.nilFunc⟩
theorem bp4:qs Tryz.prog 91=some aMc:=by kernel_rfl
def aMb:TI:=⟨Kd.oth,1,8,Value.nilFunc⟩
theorem bp3:qs Tryz.prog 92=some aMb:=by kernel_rfl
def aMa:TI:=⟨Kd.oth,1,8,Value.nilFunc⟩
theorem bp2:qs Tryz.prog 94=some aMa:=by kernel_rfl
def aL9:TI:=⟨Kd.oth,1,8,Value.nilFunc⟩
theorem bp1:qs Tryz.prog 95=some aL9:=by kernel_rfl
def apc:TI:=⟨Kd.stru [(0,4),(1,38),(2,3)],3,40,Value.agg ⟨[Value.bool false,Value.slice none 0 0,Value.int IntKind.i64 0]⟩⟩
theorem aXz:qs Tryz.prog 96=some apc:=by kernel_rfl
def Ju:TI:=⟨Kd.stru [(0,4),(1,38),(2,3)],3,40,Value.agg ⟨[Value.bool false,Value.slice none 0 0,Value.int IntKind.i64 0]⟩⟩
theorem V9:qs Tryz.prog 97=some Ju:=by kernel_rfl
def aL8:TI:=⟨Kd.oth,1,8,Value.nilFunc⟩
theorem bp0:qs Tryz.prog 98=some aL8:=by kernel_rfl
def aL7:TI:=⟨Kd.oth,1,8,Value.nilFunc⟩
theorem bpZ:qs Tryz.prog 99=some aL7:=by kernel_rfl
def ab2:TI:=⟨Kd.oth,1,8,Value.nilFunc⟩
theorem blq:qs Tryz.prog 100=some ab2:=by kernel_rfl
def ab1:TI:=⟨Kd.oth,1,8,Value.nilFunc⟩
theorem blp:qs Tryz.prog 101=some ab1:=by kernel_rfl
def ab0:TI:=⟨Kd.oth,1,8,Value.nilFunc⟩
theorem blo:qs Tryz.prog 102=some ab0:=by kernel_rfl
def abZ:TI:=⟨Kd.oth,1,8,Value.nilFunc⟩
theorem bln:qs Tryz.prog 103=some abZ:=by kernel_rfl
def Zb:TI:=⟨Kd.sli 114,1,24,Value.slice none 0 0⟩
theorem ab8:qs Tryz.prog 104=some Zb:=by kernel_rfl
def J0:TI:=⟨Kd.stru [(0,3),(1,104)],2,32,Value.agg ⟨[Value.int IntKind.i64 0,Value.slice none 0 0]⟩⟩
theorem aIx:qs Tryz.prog 105=some J0:=by kernel_rfl
def JZ:TI:=⟨Kd.stru [(0,3),(1,104)],2,32,Value.agg ⟨[Value.int IntKind.i64 0,Value.slice none 0 0]⟩⟩
theorem aIw:qs Tryz.prog 106=some JZ:=by kernel_rfl
def abY:TI:=⟨Kd.oth,1,8,Value.nilFunc⟩
theorem blm:qs Tryz.prog 107=some abY:=by kernel_rfl
def abX:TI:=⟨Kd.oth,1,8,Value.nilFunc⟩
theorem bll:qs Tryz.prog 108=some abX:=by kernel_rfl
def abW:TI:=⟨Kd.oth,1,8,Value.nilFunc⟩
theorem blk:qs Tryz.prog 109=some abW:=by kernel_rfl
def abV:TI:=⟨Kd.oth,1,8,Value.nilFunc⟩
theorem blj:qs Tryz.prog 110=some abV:=by kernel_rfl
def abU:TI:=⟨Kd.oth,1,8,Value.nilFunc⟩
theorem bli:qs Tryz.prog 111=some abU:=by kernel_rfl
def abT:TI:=⟨Kd.oth,1,8,Value.nilFunc⟩
theorem blh:qs Tryz.prog 112=some abT:=by kernel_rfl
def JY:TI:=⟨Kd.stru [(0,97),(3,97)],6,80,Value.agg ⟨[Value.bool false,Value.slice none 0 0,Value.int IntKind.i64 0,Value.bool false,Value.slice none 0 0,Value.int IntKind.i64 0]⟩⟩
theorem aIv:qs Tryz.prog 113=some JY:=by kernel_rfl
def Jz:TI:=⟨Kd.stru [(0,97),(3,97)],6,80,Value.agg ⟨[Value.bool false,Value.slice none 0 0,Value.int IntKind.i64 0,Value.bool false,Value.slice none 0 0,Value.int IntKind.i64 0]⟩⟩
theorem aua:qs Tryz.prog 114=some Jz:=by kernel_rfl
def abS:TI:=⟨Kd.oth,1,8,Value.nilFunc⟩
theorem blg:qs Tryz.prog 115=some abS:=by kernel_rfl
def abR:TI:=⟨Kd.oth,1,8,Value.nilFunc⟩
theorem blf:qs Tryz.prog 116=some abR:=by kernel_rfl
def abQ:TI:=⟨Kd.oth,1,8,Value.nilFunc⟩
theorem bld:qs Tryz.prog 117=some abQ:=by kernel_rfl
def abP:TI:=⟨Kd.oth,1,8,Value.nilFunc⟩
theorem blc:qs Tryz.prog 118=some abP:=by kernel_rfl
def abO:TI:=⟨Kd.oth,1,8,Value.nilFunc⟩
theorem blb:qs Tryz.prog 119=some abO:=by kernel_rfl
def abN:TI:=⟨Kd.oth,1,8,Value.nilFunc⟩
theorem bla:qs Tryz.prog 120=some abN:=by kernel_rfl
def abM:TI:=⟨Kd.oth,1,8,Value.nilFunc⟩
theorem bk9:qs Tryz.prog 121=some abM:=by kernel_rfl
def abL:TI:=⟨Kd.sli 23,1,24,Value.slice none 0 0⟩
theorem aXC:qs Tryz.prog 122=some abL:=by kernel_rfl
def abK:TI:=⟨Kd.oth,1,8,Value.nilFunc⟩
theorem bk8:qs Tryz.prog 124=some abK:=by kernel_rfl
def abJ:TI:=⟨Kd.oth,1,8,Value.nilFunc⟩
theorem bk7:qs Tryz.prog 126=some abJ:=by kernel_rfl
def abI:TI:=⟨Kd.oth,1,8,Value.nilFunc⟩
theorem bk6:qs Tryz.prog 128=some abI:=by kernel_rfl
def abH:TI:=⟨Kd.oth,1,8,Value.nilFunc⟩
theorem bk5:qs Tryz.prog 130=some abH:=by kernel_rfl
def abG:TI:=⟨Kd.oth,1,8,Value.nilFunc⟩
theorem bk4:qs Tryz.prog 131=some abG:=by kernel_rfl
def abF:TI:=⟨Kd.oth,1,8,Value.nilFunc⟩
theorem bk3:qs Tryz.prog 132=some abF:=by kernel_rfl
def QQ:TI:=⟨Kd.stru [(0,38)],1,24,Value.agg ⟨[Value.slice none 0 0]⟩⟩
theorem XZ:qs Tryz.prog 133=some QQ:=by kernel_rfl
def JX:TI:=⟨Kd.stru [(0,4),(1,133)],2,32,Value.agg ⟨[Value.bool false,Value.slice none 0 0]⟩⟩
theorem aIu:qs Tryz.prog 134=some JX:=by kernel_rfl
def Qh:TI:=⟨Kd.stru [(0,4),(1,133)],2,32,Value.agg ⟨[Value.bool false,Value.slice none 0 0]⟩⟩
theorem Y8:qs Tryz.prog 135=some Qh:=by kernel_rfl
def JW:TI:=⟨Kd.stru [(0,135),(2,3)],3,40,Value.agg ⟨[Value.bool false,Value.slice none 0 0,Value.int IntKind.i64 0]⟩⟩
theorem aIt:qs Tryz.prog 136=some JW:=by kernel_rfl
def Jy:TI:=⟨Kd.stru [(0,135),(2,3)],3,40,Value.agg ⟨[Value.bool false,Value.slice none 0 0,Value.int IntKind.i64 0]⟩⟩
theorem at9:qs Tryz.prog 137=some Jy:=by kernel_rfl
def abE:TI:=⟨Kd.oth,1,8,Value.nilFunc⟩
theorem bk2:qs Tryz.prog 138=some abE:=by kernel_rfl
def abD:TI:=⟨Kd.oth,1,8,Value.nilFunc⟩
theorem bk1:qs Tryz.prog 139=some abD:=by kernel_rfl
def abC:TI:=⟨Kd.oth,1,8,Value.nilFunc⟩
theorem bk0:qs Tryz.prog 140=some abC:=by kernel_rfl
def abB:TI:=⟨Kd.oth,1,8,Value.nilFunc⟩
theorem bkZ:qs Tryz.prog 141=some abB:=by kernel_rfl
def abA:TI:=⟨Kd.oth,1,8,Value.nilFunc⟩
theorem bkY:qs Tryz.prog 142=some abA:=by kernel_rfl
def abz:TI:=⟨Kd.oth,1,8,Value.nilFunc⟩
theorem bkX:qs Tryz.prog 143=some abz:=by kernel_rfl
def aby:TI:=⟨Kd.oth,1,8,Value.nilFunc⟩
theorem bkW:qs Tryz.prog 144=some aby:=by kernel_rfl
def abx:TI:=⟨Kd.oth,1,8,Value.nilFunc⟩
theorem bkV:qs Tryz.prog 145=some abx:=by kernel_rfl
def abw:TI:=⟨Kd.oth,1,8,Value.nilFunc⟩
theorem bkU:qs Tryz.prog 146=some abw:=by kernel_rfl
def abv:TI:=⟨Kd.oth,1,8,Value.nilFunc⟩
theorem bkT:qs Tryz.prog 147=some abv:=by kernel_rfl
def abu:TI:=⟨Kd.oth,1,8,Value.nilFunc⟩
theorem bkS:qs Tryz.prog 148=some abu:=by kernel_rfl
def abt:TI:=⟨Kd.oth,1,8,Value.nilFunc⟩
theorem bkR:qs Tryz.prog 149=some abt:=by kernel_rfl
def abr:TI:=⟨Kd.oth,1,8,Value.nilFunc⟩
theorem bkQ:qs Tryz.prog 150=some abr:=by kernel_rfl
def abq:TI:=⟨Kd.oth,1,8,Value.nilFunc⟩
theorem bkP:qs Tryz.prog 151=some abq:=by kernel_rfl
def abp:TI:=⟨Kd.oth,1,8,Value.nilFunc⟩
theorem bkO:qs Tryz.prog 152=some abp:=by kernel_rfl
def abo:TI:=⟨Kd.oth,1,8,Value.nilFunc⟩
theorem bkN:qs Tryz.prog 153=some abo:=by kernel_rfl
def abn:TI:=⟨Kd.oth,1,8,Value.nilFunc⟩
theorem bkM:qs Tryz.prog 155=some abn:=by kernel_rfl
def abm:TI:=⟨Kd.oth,1,8,Value.nilFunc⟩
theorem bkL:qs Tryz.prog 156=some abm:=by kernel_rfl
def abl:TI:=⟨Kd.oth,1,8,Value.nilFunc⟩
theorem bkK:qs Tryz.prog 158=some abl:=by kernel_rfl
def abk:TI:=⟨Kd.oth,1,8,Value.nilFunc⟩
theorem bkJ:qs Tryz.prog 159=some abk:=by kernel_rfl
def abj:TI:=⟨Kd.oth,1,8,Value.nilFunc⟩
theorem bkI:qs Tryz.prog 160=some abj:=by kernel_rfl
def abi:TI:=⟨Kd.oth,1,8,Value.nilFunc⟩
theorem bkH:qs Tryz.prog 161=some abi:=by kernel_rfl
def abh:TI:=⟨Kd.oth,1,8,Value.nilFunc⟩
theorem bkG:qs Tryz.prog 162=some abh:=by kernel_rfl
def abg:TI:=⟨Kd.oth,1,8,Value.nilFunc⟩
theorem bkF:qs Tryz.prog 163=some abg:=by kernel_rfl
def abf:TI:=⟨Kd.oth,1,8,Value.nilFunc⟩
theorem bkE:qs Tryz.prog 164=some abf:=by kernel_rfl
def abe:TI:=⟨Kd.oth,1,8,Value.nilFunc⟩
theorem bkD:qs Tryz.prog 165=some abe:=by kernel_rfl
def JV:TI:=⟨Kd.stru [(0,44),(3,44)],6,80,Value.agg ⟨[Value.bool false,Value.slice none 0 0,Value.int IntKind.i64 0,Value.bool false,Value.slice none 0 0,Value.int IntKind.i64 0]⟩⟩
theorem aIs:qs Tryz.prog 166=some JV:=by kernel_rfl
def Jx:TI:=⟨Kd.stru [(0,44),(3,44)],6,80,Value.agg ⟨[Value.bool false,Value.slice none 0 0,Value.int IntKind.i64 0,Value.bool false,Value.slice none 0 0,Value.int IntKind.i64 0]⟩⟩
theorem at8:qs Tryz.prog 167=some Jx:=by kernel_rfl
def abd:TI:=⟨Kd.oth,1,8,Value.nilFunc⟩
theorem bkC:qs Tryz.prog 168=some abd:=by kernel_rfl
def abc:TI:=⟨Kd.oth,1,8,Value.nilFunc⟩
theorem bkB:qs Tryz.prog 169=some abc:=by kernel_rfl
def abb:TI:=⟨Kd.oth,1,8,Value.nilFunc⟩
theorem bkA:qs Tryz.prog 170=some abb:=by kernel_rfl
def aba:TI:=⟨Kd.oth,1,8,Value.nilFunc⟩
theorem bkz:qs Tryz.prog 171=some aba:=by kernel_rfl
def aa9:TI:=⟨Kd.oth,1,8,Value.nilFunc⟩
theorem bky:qs Tryz.prog 172=some aa9:=by kernel_rfl
def aa8:TI:=⟨Kd.oth,1,8,Value.nilFunc⟩
theorem bkx:qs Tryz.prog 173=some aa8:=by kernel_rfl
def aa7:TI:=⟨Kd.oth,1,8,Value.nilFunc⟩
theorem bkw:qs Tryz.prog 174=some aa7:=by kernel_rfl
def aa6:TI:=⟨Kd.oth,1,8,Value.nilFunc⟩
theorem bkv:qs Tryz.prog 175=some aa6:=by kernel_rfl
def aa5:TI:=⟨Kd.oth,1,8,Value.nilFunc⟩
theorem bku:qs Tryz.prog 176=some aa5:=by kernel_rfl
def aa4:TI:=⟨Kd.oth,1,8,Value.nilFunc⟩
theorem bkt:qs Tryz.prog 177=some aa4:=by kernel_rfl
def aa3:TI:=⟨Kd.oth,1,8,Value.nilFunc⟩
theorem bks:qs Tryz.prog 178=some aa3:=by kernel_rfl
def aa2:TI:=⟨Kd.oth,1,8,Value.nilFunc⟩
theorem bkr:qs Tryz.prog 179=some aa2:=by kernel_rfl
def aa1:TI:=⟨Kd.oth,1,8,Value.nilFunc⟩
theorem bkq:qs Tryz.prog 180=some aa1:=by kernel_rfl
def aaZ:TI:=⟨Kd.oth,1,8,Value.nilFunc⟩
theorem bkp:qs Tryz.prog 182=some aaZ:=by kernel_rfl
def aaY:TI:=⟨Kd.oth,1,8,Value.nilFunc⟩
theorem bko:qs Tryz.prog 183=some aaY:=by kernel_rfl
def aaX:TI:=⟨Kd.oth,1,8,Value.nilFunc⟩
theorem bkn:qs Tryz.prog 184=some aaX:=by kernel_rfl
def aaW:TI:=⟨Kd.oth,1,8,Value.nilFunc⟩
theorem bkm:qs Tryz.prog 185=some aaW:=by kernel_rfl
def aaV:TI:=⟨Kd.oth,1,8,Value.nilFunc⟩
theorem bkl:qs Tryz.prog 186=some aaV:=by kernel_rfl
def aaU:TI:=⟨Kd.oth,1,8,Value.nilFunc⟩
theorem bkk:qs Tryz.prog 187=some aaU:=by kernel_rfl
def aaT:TI:=⟨Kd.oth,1,8,Value.nilFunc⟩
theorem bkj:qs Tryz.prog 189=some aaT:=by kernel_rfl
def aaS:TI:=⟨Kd.oth,1,8,Value.nilFunc⟩
theorem bki:qs Tryz.prog 190=some aaS:=by kernel_rfl
def aaR:TI:=⟨Kd.oth,1,8,Value.nilFunc⟩
theorem bkh:qs Tryz.prog 191=some aaR:=by kernel_rfl
def aaQ:TI:=⟨Kd.oth,1,8,Value.nilFunc⟩
theorem bkg:qs Tryz.prog 192=some aaQ:=by kernel_rfl
def aaP:TI:=⟨Kd.oth,1,8,Value.nilFunc⟩
theorem bkf:qs Tryz.prog 193=some aaP:=by kernel_rfl
def Jw:TI:=⟨Kd.stru [(0,4),(1,40),(2,3)],3,40,Value.agg ⟨[Value.bool false,Value.slice none 0 0,Value.int IntKind.i64 0]⟩⟩
theorem at7:qs Tryz.prog 194=some Jw:=by kernel_rfl
def Jv:TI:=⟨Kd.stru [(0,4),(1,40),(2,3)],3,40,Value.agg ⟨[Value.bool false,Value.slice none 0 0,Value.int IntKind.i64 0]⟩⟩
theorem at6:qs Tryz.prog 195=some Jv:=by kernel_rfl
def aaO:TI:=⟨Kd.oth,1,8,Value.nilFunc⟩
theorem bke:qs Tryz.prog 197=some aaO:=by kernel_rfl
def ZJ:TI:=⟨Kd.stru [(0,3),(1,4),(2,3),(3,3)],4,32,Value.agg ⟨[Value.int IntKind.i64 0,Value.bool false,Value.int IntKind.i64 0,Value.int IntKind.i64 0]⟩⟩
theorem anT:qs Tryz.prog 198=some ZJ:=by kernel_rfl
def ZI:TI:=⟨Kd.stru [(0,3),(1,4),(2,3),(3,3)],4,32,Value.agg ⟨[Value.int IntKind.i64 0,Value.bool false,Value.int IntKind.i64 0,Value.int IntKind.i64 0]⟩⟩
theorem anS:qs Tryz.prog 199=some ZI:=by kernel_rfl
def aaN:TI:=⟨Kd.oth,1,8,Value.nilFunc⟩
theorem bkd:qs Tryz.prog 201=some aaN:=by kernel_rfl
def aaM:TI:=⟨Kd.oth,1,8,Value.nilFunc⟩
theorem bkc:qs Tryz.prog 202=some aaM:=by kernel_rfl
def aaL:TI:=⟨Kd.oth,1,8,Value.nilFunc⟩
theorem bkb:qs Tryz.prog 204=some aaL:=by kernel_rfl
def aaK:TI:=⟨Kd.oth,1,8,Value.nilFunc⟩
theorem bka:qs Tryz.prog 205=some aaK:=by kernel_rfl
def aaJ:TI:=⟨Kd.oth,1,8,Value.nilFunc⟩
theorem bj9:qs Tryz.prog 206=some aaJ:=by kernel_rfl
def aaI:TI:=⟨Kd.oth,1,8,Value.nilFunc⟩
theorem bj8:qs Tryz.prog 207=some aaI:=by kernel_rfl
def aaH:TI:=⟨Kd.oth,1,8,Value.nilFunc⟩
theorem bj7:qs Tryz.prog 208=some aaH:=by kernel_rfl
def aaG:TI:=⟨Kd.oth,1,8,Value.nilFunc⟩
theorem bj6:qs Tryz.prog 209=some aaG:=by kernel_rfl
def aaF:TI:=⟨Kd.oth,1,8,Value.nilFunc⟩
theorem bj5:qs Tryz.prog 210=some aaF:=by kernel_rfl
def aaE:TI:=⟨Kd.oth,1,8,Value.nilFunc⟩
theorem bj4:qs Tryz.prog 211=some aaE:=by kernel_rfl
def aaD:TI:=⟨Kd.oth,1,8,Value.nilFunc⟩
theorem bj3:qs Tryz.prog 212=some aaD:=by kernel_rfl
def aaC:TI:=⟨Kd.oth,1,8,Value.nilFunc⟩
theorem bj2:qs Tryz.prog 213=some aaC:=by kernel_rfl
def aaB:TI:=⟨Kd.oth,1,8,Value.nilFunc⟩
theorem bj1:qs Tryz.prog 214=some aaB:=by kernel_rfl
def aaA:TI:=⟨Kd.oth,1,8,Value.nilFunc⟩
theorem bj0:qs Tryz.prog 215=some aaA:=by kernel_rfl
def aaz:TI:=⟨Kd.oth,1,8,Value.nilFunc⟩
theorem bjZ:qs Tryz.prog 216=some aaz:=by kernel_rfl
def aay:TI:=⟨Kd.oth,1,8,Value.nilFunc⟩
theorem bjY:qs Tryz.prog 217=some aay:=by kernel_rfl
def aax:TI:=⟨Kd.oth,1,8,Value.nilFunc⟩
theorem bjX:qs Tryz.prog 219=some aax:=by kernel_rfl
def aaw:TI:=⟨Kd.oth,1,8,Value.nilFunc⟩
theorem bjW:qs Tryz.prog 220=some aaw:=by kernel_rfl
def aav:TI:=⟨Kd.oth,1,8,Value.nilFunc⟩
theorem bjV:qs Tryz.prog 221=some aav:=by kernel_rfl
def aau:TI:=⟨Kd.oth,1,8,Value.nilFunc⟩
theorem bjU:qs Tryz.prog 223=some aau:=by kernel_rfl
def aat:TI:=⟨Kd.oth,1,8,Value.nilFunc⟩
theorem bjT:qs Tryz.prog 225=some aat:=by kernel_rfl
def aas:TI:=⟨Kd.oth,1,8,Value.nilFunc⟩
theorem bjS:qs Tryz.prog 226=some aas:=by kernel_rfl
def aar:TI:=⟨Kd.oth,1,8,Value.nilFunc⟩
theorem bjR:qs Tryz.prog 227=some aar:=by kernel_rfl
def aaq:TI:=⟨Kd.oth,1,8,Value.nilFunc⟩
theorem bjQ:qs Tryz.prog 228=some aaq:=by kernel_rfl
def aap:TI:=⟨Kd.oth,1,8,Value.nilFunc⟩
theorem bjP:qs Tryz.prog 229=some aap:=by kernel_rfl
def aao:TI:=⟨Kd.oth,1,8,Value.nilFunc⟩
theorem bjO:qs Tryz.prog 230=some aao:=by kernel_rfl
def aan:TI:=⟨Kd.oth,1,8,Value.nilFunc⟩
theorem bjN:qs Tryz.prog 231=some aan:=by kernel_rfl
def aam:TI:=⟨Kd.oth,1,8,Value.nilFunc⟩
theorem bjM:qs Tryz.prog 232=some aam:=by kernel_rfl
def aal:TI:=⟨Kd.oth,1,8,Value.nilFunc⟩
theorem bjL:qs Tryz.prog 233=some aal:=by kernel_rfl
def aak:TI:=⟨Kd.oth,1,8,Value.nilFunc⟩
theorem bjK:qs Tryz.prog 234=some aak:=by kernel_rfl
def aaj:TI:=⟨Kd.oth,1,8,Value.nilFunc⟩
theorem bjJ:qs Tryz.prog 235=some aaj:=by kernel_rfl
def aai:TI:=⟨Kd.oth,1,8,Value.nilFunc⟩
theorem bjI:qs Tryz.prog 236=some aai:=by kernel_rfl
def aah:TI:=⟨Kd.oth,1,8,Value.nilFunc⟩
theorem bjH:qs Tryz.prog 238=some aah:=by kernel_rfl
def aag:TI:=⟨Kd.oth,1,8,Value.nilFunc⟩
theorem bjG:qs Tryz.prog 239=some aag:=by kernel_rfl
def aaf:TI:=⟨Kd.oth,1,8,Value.nilFunc⟩
theorem bjF:qs Tryz.prog 240=some aaf:=by kernel_rfl
def aae:TI:=⟨Kd.oth,1,8,Value.nilFunc⟩
theorem bjE:qs Tryz.prog 241=some aae:=by kernel_rfl
def aad:TI:=⟨Kd.oth,1,8,Value.nilFunc⟩
theorem bjD:qs Tryz.prog 242=some aad:=by kernel_rfl
def aac:TI:=⟨Kd.int IntKind.u64,1,8,Value.int IntKind.u64 0⟩
theorem bjC:qs Tryz.prog 243=some aac:=by kernel_rfl
def aab:TI:=⟨Kd.oth,1,8,Value.nilFunc⟩
theorem bjB:qs Tryz.prog 244=some aab:=by kernel_rfl
def aaa:TI:=⟨Kd.oth,1,8,Value.nilFunc⟩
theorem bjA:qs Tryz.prog 246=some aaa:=by kernel_rfl
def K9:TI:=⟨Kd.oth,1,8,Value.nilFunc⟩
theorem bjz:qs Tryz.prog 248=some K9:=by kernel_rfl
def K8:TI:=⟨Kd.oth,1,8,Value.nilFunc⟩
theorem bjy:qs Tryz.prog 249=some K8:=by kernel_rfl
def K7:TI:=⟨Kd.oth,1,8,Value.nilFunc⟩
theorem bjx:qs Tryz.prog 251=some K7:=by kernel_rfl
def K6:TI:=⟨Kd.oth,1,8,Value.nilFunc⟩
theorem bjw:qs Tryz.prog 252=some K6:=by kernel_rfl
def K5:TI:=⟨Kd.oth,1,8,Value.nilFunc⟩
theorem bjv:qs Tryz.prog 253=some K5:=by kernel_rfl
def K4:TI:=⟨Kd.oth,1,8,Value.nilFunc⟩
theorem bju:qs Tryz.prog 254=some K4:=by kernel_rfl
def K3:TI:=⟨Kd.oth,1,8,Value.nilFunc⟩
theorem bjt:qs Tryz.prog 256=some K3:=by kernel_rfl
def K2:TI:=⟨Kd.oth,1,8,Value.nilFunc⟩
theorem bjs:qs Tryz.prog 257=some K2:=by kernel_rfl
def KZ:TI:=⟨Kd.oth,1,8,Value.nilFunc⟩
theorem bjr:qs Tryz.prog 258=some KZ:=by kernel_rfl
def KY:TI:=⟨Kd.oth,1,8,Value.nilFunc⟩
theorem bjq:qs Tryz.prog 259=some KY:=by kernel_rfl
def KX:TI:=⟨Kd.oth,1,8,Value.nilFunc⟩
theorem bjp:qs Tryz.prog 261=some KX:=by kernel_rfl
def KW:TI:=⟨Kd.oth,1,8,Value.nilFunc⟩
theorem bjo:qs Tryz.prog 263=some KW:=by kernel_rfl
def KU:TI:=⟨Kd.oth,1,8,Value.nilFunc⟩
theorem bjn:qs Tryz.prog 264=some KU:=by kernel_rfl
def KT:TI:=⟨Kd.oth,1,8,Value.nilFunc⟩
theorem bjm:qs Tryz.prog 265=some KT:=by kernel_rfl
def KS:TI:=⟨Kd.oth,1,8,Value.nilFunc⟩
theorem bjl:qs Tryz.prog 266=some KS:=by kernel_rfl
def KR:TI:=⟨Kd.oth,1,8,Value.nilFunc⟩
theorem bjk:qs Tryz.prog 267=some KR:=by kernel_rfl
def KQ:TI:=⟨Kd.oth,1,8,Value.nilFunc⟩
theorem bjj:qs Tryz.prog 269=some KQ:=by kernel_rfl
def KP:TI:=⟨Kd.oth,1,8,Value.nilFunc⟩
theorem bji:qs Tryz.prog 270=some KP:=by kernel_rfl
def KO:TI:=⟨Kd.oth,1,8,Value.nilFunc⟩
theorem bjh:qs Tryz.prog 271=some KO:=by kernel_rfl
def KN:TI:=⟨Kd.oth,1,8,Value.nilFunc⟩
theorem bjg:qs Tryz.prog 272=some KN:=by kernel_rfl
def KM:TI:=⟨Kd.oth,1,8,Value.nilFunc⟩
theorem bjf:qs Tryz.prog 273=some KM:=by kernel_rfl
def KL:TI:=⟨Kd.oth,1,8,Value.nilFunc⟩
theorem bje:qs Tryz.prog 274=some KL:=by kernel_rfl
def KK:TI:=⟨Kd.oth,1,8,Value.nilFunc⟩
theorem bjd:qs Tryz.prog 275=some KK:=by kernel_rfl
def KJ:TI:=⟨Kd.oth,1,8,Value.nilFunc⟩
theorem bjc:qs Tryz.prog 276=some KJ:=by kernel_rfl
def KI:TI:=⟨Kd.oth,1,8,Value.nilFunc⟩
theorem bjb:qs Tryz.prog 277=some KI:=by kernel_rfl
def KH:TI:=⟨Kd.oth,1,8,Value.nilFunc⟩
theorem bja:qs Tryz.prog 278=some KH:=by kernel_rfl
def KG:TI:=⟨Kd.oth,1,8,Value.nilFunc⟩
theorem bi9:qs Tryz.prog 280=some KG:=by kernel_rfl
def KF:TI:=⟨Kd.oth,1,8,Value.nilFunc⟩
theorem bi8:qs Tryz.prog 281=some KF:=by kernel_rfl
def KE:TI:=⟨Kd.oth,1,8,Value.nilFunc⟩
theorem bi7:qs Tryz.prog 282=some KE:=by kernel_rfl
def KD:TI:=⟨Kd.oth,1,8,Value.nilFunc⟩
theorem bi6:qs Tryz.prog 283=some KD:=by kernel_rfl
def KC:TI:=⟨Kd.oth,1,8,Value.nilFunc⟩
theorem bi5:qs Tryz.prog 284=some KC:=by kernel_rfl
def KB:TI:=⟨Kd.sli 22,1,24,Value.slice none 0 0⟩
theorem aXB:qs Tryz.prog 285=some KB:=by kernel_rfl
def KA:TI:=⟨Kd.oth,1,8,Value.nilFunc⟩
theorem bi4:qs Tryz.prog 286=some KA:=by kernel_rfl
def Kw:TI:=⟨Kd.oth,1,8,Value.nilFunc⟩
theorem bi3:qs Tryz.prog 287=some Kw:=by kernel_rfl
def Kv:TI:=⟨Kd.oth,1,8,Value.nilFunc⟩
theorem bi2:qs Tryz.prog 288=some Kv:=by kernel_rfl
def Ku:TI:=⟨Kd.oth,1,8,Value.nilFunc⟩
theorem bi1:qs Tryz.prog 290=some Ku:=by kernel_rfl
def Kt:TI:=⟨Kd.oth,1,8,Value.nilFunc⟩
theorem bi0:qs Tryz.prog 291=some Kt:=by kernel_rfl
def Ks:TI:=⟨Kd.oth,1,8,Value.nilFunc⟩
theorem biZ:qs Tryz.prog 292=some Ks:=by kernel_rfl
def Kr:TI:=⟨Kd.int IntKind.u32,1,4,Value.int IntKind.u32 0⟩
theorem biY:qs Tryz.prog 293=some Kr:=by kernel_rfl
def Kq:TI:=⟨Kd.oth,1,8,Value.nilFunc⟩
theorem biX:qs Tryz.prog 294=some Kq:=by kernel_rfl
def Kp:TI:=⟨Kd.int IntKind.u64,1,8,Value.int IntKind.u64 0⟩
theorem biW:qs Tryz.prog 295=some Kp:=by kernel_rfl
def Ko:TI:=⟨Kd.oth,1,8,Value.nilFunc⟩
theorem biV:qs Tryz.prog 296=some Ko:=by kernel_rfl
def Kn:TI:=⟨Kd.oth,1,8,Value.nilFunc⟩
theorem biU:qs Tryz.prog 297=some Kn:=by kernel_rfl
def Km:TI:=⟨Kd.oth,1,8,Value.nilFunc⟩
theorem biT:qs Tryz.prog 301=some Km:=by kernel_rfl
def Kl:TI:=⟨Kd.oth,1,8,Value.nilFunc⟩
theorem biS:qs Tryz.prog 302=some Kl:=by kernel_rfl
def Kk:TI:=⟨Kd.oth,1,8,Value.nilFunc⟩
theorem biR:qs Tryz.prog 304=some Kk:=by kernel_rfl
def Kj:TI:=⟨Kd.oth,1,8,Value.nilFunc⟩
theorem biQ:qs Tryz.prog 305=some Kj:=by kernel_rfl
def Ki:TI:=⟨Kd.oth,1,8,Value.nilFunc⟩
theorem biP:qs Tryz.prog 307=some Ki:=by kernel_rfl
def Kh:TI:=⟨Kd.oth,1,8,Value.nilFunc⟩
theorem biO:qs Tryz.prog 308=some Kh:=by kernel_rfl
def Kg:TI:=⟨Kd.oth,1,8,Value.nilFunc⟩
theorem biN:qs Tryz.prog 309=some Kg:=by kernel_rfl
def Kf:TI:=⟨Kd.oth,1,8,Value.nilFunc⟩
theorem biM:qs Tryz.prog 310=some Kf:=by kernel_rfl
theorem ty1{K:TI→Prop}:@tyW Tryz.prog 1 ⟨K⟩=K ti1:=qk tf1
theorem aXy:ti1.kd=Kd.oth:=ID rfl
theorem aRI:ti1.kd.agg=false:=ID rfl
theorem aDW:ti1.size=1:=ID rfl
theorem asx:ti1.bytes=8:=ID rfl
theorem aXw:qB ti1=True:=eq_true rfl
theorem aXx:zc ti1=[.v Value.nilFunc]:=ID rfl
theorem ty2{K:TI→Prop}:@tyW Tryz.prog 2 ⟨K⟩=K ti2:=qk tf2
theorem aXv:ti2.kd=Kd.int IntKind.i64:=ID rfl
theorem aRj:ti2.kd.agg=false:=ID rfl
theorem azM:ti2.size=1:=ID rfl
theorem aqZ:ti2.bytes=8:=ID rfl
theorem aXt:qB ti2=True:=eq_true rfl
theorem aXu:zc ti2=[.v (Value.int IntKind.i64 0)]:=ID rfl
theorem ty3{K:TI→Prop}:@tyW Tryz.prog 3 ⟨K⟩=K ti3:=qk tf3
theorem aXs:ti3.kd=Kd.int IntKind.i64:=ID rfl
theorem aQO:ti3.kd.agg=false:=ID rfl
theorem azd:ti3.size=1:=ID rfl
theorem aqE:ti3.bytes=8:=ID rfl
theorem aXq:qB ti3=True:=eq_true rfl
theorem aXr:zc ti3=[.v (Value.int IntKind.i64 0)]:=ID rfl
theorem ty4{K:TI→Prop}:@tyW Tryz.prog 4 ⟨K⟩=K ti4:=qk tf4
theorem aXp:ti4.kd=Kd.bool:=ID rfl
theorem aQm:ti4.kd.agg=false:=ID rfl
theorem ay3:ti4.size=1:=ID rfl
theorem aqs:ti4.bytes=1:=ID rfl
theorem aXn:qB ti4=True:=eq_true rfl
theorem aXo:zc ti4=[.v (Value.bool false)]:=ID rfl
theorem ty5{K:TI→Prop}:@tyW Tryz.prog 5 ⟨K⟩=K ti5:=qk tf5
theorem aXm:ti5.kd=Kd.int IntKind.u8:=ID rfl
theorem aPU:ti5.kd.agg=false:=ID rfl
theorem ayT:ti5.size=1:=ID rfl
theorem aqg:ti5.bytes=1:=ID rfl
theorem aXk:qB ti5=True:=eq_true rfl
theorem aXl:zc ti5=[.v (Value.int IntKind.u8 0)]:=ID rfl
theorem ty6{K:TI→Prop}:@tyW Tryz.prog 6 ⟨K⟩=K ti6:=qk tf6
theorem aXj:ti6.kd=Kd.int IntKind.u8:=ID rfl
theorem aPv:ti6.kd.agg=false:=ID rfl
theorem ayK:ti6.size=1:=ID rfl
theorem ap5:ti6.bytes=1:=ID rfl
theorem aXh:qB ti6=True:=eq_true rfl
theorem aXi:zc ti6=[.v (Value.int IntKind.u8 0)]:=ID rfl
theorem ty7{K:TI→Prop}:@tyW Tryz.prog 7 ⟨K⟩=K ti7:=qk tf7
theorem aXg:ti7.kd=Kd.stru [(0,2),(1,3),(2,4),(3,6)]:=ID rfl
theorem aO3:ti7.kd.agg=true:=ID rfl
theorem ayA:ti7.size=4:=ID rfl
theorem apV:ti7.bytes=24:=ID rfl
theorem aXe:qB ti7=True:=eq_true rfl
theorem aXf:zc ti7=[.v (Value.int IntKind.i64 0),.v (Value.int IntKind.i64 0),.v (Value.bool false),.v (Value.int IntKind.u8 0)]:=ID rfl
theorem bem{K:Nat→TI→Prop}:@qA Tryz.prog 7 0 ⟨K⟩=K 0 ti2:=qp (ti:=ti7) (tf:=ti2) (fo:=(0,2)) (fs:=[(0,2),(1,3),(2,4),(3,6)]) tf7 rfl rfl tf2
theorem blV{K:Nat→Nat→Prop}:qr Tryz.prog [(0,2),(1,3),(2,4),(3,6)] 0 K=K 0 1:=qo (tf:=ti2) (fo:=(0,2)) (fs:=[(0,2),(1,3),(2,4),(3,6)]) rfl tf2
theorem bel{K:Nat→TI→Prop}:@qA Tryz.prog 7 1 ⟨K⟩=K 1 ti3:=qp (ti:=ti7) (tf:=ti3) (fo:=(1,3)) (fs:=[(0,2),(1,3),(2,4),(3,6)]) tf7 rfl rfl tf3
theorem blU{K:Nat→Nat→Prop}:qr Tryz.prog [(0,2),(1,3),(2,4),(3,6)] 1 K=K 1 1:=qo (tf:=ti3) (fo:=(1,3)) (fs:=[(0,2),(1,3),(2,4),(3,6)]) rfl tf3
theorem bek{K:Nat→TI→Prop}:@qA Tryz.prog 7 2 ⟨K⟩=K 2 ti4:=qp (ti:=ti7) (tf:=ti4) (fo:=(2,4)) (fs:=[(0,2),(1,3),(2,4),(3,6)]) tf7 rfl rfl tf4
theorem blT{K:Nat→Nat→Prop}:qr Tryz.prog [(0,2),(1,3),(2,4),(3,6)] 2 K=K 2 1:=qo (tf:=ti4) (fo:=(2,4)) (fs:=[(0,2),(1,3),(2,4),(3,6)]) rfl tf4
theorem bej{K:Nat→TI→Prop}:@qA Tryz.prog 7 3 ⟨K⟩=K 3 ti6:=qp (ti:=ti7) (tf:=ti6) (fo:=(3,6)) (fs:=[(0,2),(1,3),(2,4),(3,6)]) tf7 rfl rfl tf6
theorem blS{K:Nat→Nat→Prop}:qr Tryz.prog [(0,2),(1,3),(2,4),(3,6)] 3 K=K 3 1:=qo (tf:=ti6) (fo:=(3,6)) (fs:=[(0,2),(1,3),(2,4),(3,6)]) rfl tf6
theorem bmj:∀f∈([(0,2),(1,3),(2,4),(3,6)]:List (Nat×Nat)),(qs Tryz.prog f.2).isSome=true:=by
 intro f hf
 simp only[List.mem_cons,List.not_mem_nil,or_false]at hf
 rcases hf with rfl|rfl|rfl|rfl
 ·rw[tf2];rfl
 ·rw[tf3];rfl
 ·rw[tf4];rfl
 ·rw[tf6];rfl
theorem brz{ps:List (Nat×AV)}{K:AV→Prop}:@qX Tryz.prog 7 ps ⟨K⟩=@zg (qr Tryz.prog [(0,2),(1,3),(2,4),(3,6)]) (zc ti7) ps ⟨fun cs=>K (.ag cs)⟩:=qJ tf7 rfl bmj
theorem ty8{K:TI→Prop}:@tyW Tryz.prog 8 ⟨K⟩=K ti8:=qk tf8
theorem aXd:ti8.kd=Kd.stru [(0,2),(1,3),(2,4),(3,6)]:=ID rfl
theorem aOy:ti8.kd.agg=true:=ID rfl
theorem ayp:ti8.size=4:=ID rfl
theorem apI:ti8.bytes=24:=ID rfl
theorem aXb:qB ti8=True:=eq_true rfl
theorem aXc:zc ti8=[.v (Value.int IntKind.i64 0),.v (Value.int IntKind.i64 0),.v (Value.bool false),.v (Value.int IntKind.u8 0)]:=ID rfl
theorem bei{K:Nat→TI→Prop}:@qA Tryz.prog 8 0 ⟨K⟩=K 0 ti2:=qp (ti:=ti8) (tf:=ti2) (fo:=(0,2)) (fs:=[(0,2),(1,3),(2,4),(3,6)]) tf8 rfl rfl tf2
theorem blR{K:Nat→Nat→Prop}:qr Tryz.prog [(0,2),(1,3),(2,4),(3,6)] 0 K=K 0 1:=qo (tf:=ti2) (fo:=(0,2)) (fs:=[(0,2),(1,3),(2,4),(3,6)]) rfl tf2
theorem beh{K:Nat→TI→Prop}:@qA Tryz.prog 8 1 ⟨K⟩=K 1 ti3:=qp (ti:=ti8) (tf:=ti3) (fo:=(1,3)) (fs:=[(0,2),(1,3),(2,4),(3,6)]) tf8 rfl rfl tf3
theorem blQ{K:Nat→Nat→Prop}:qr Tryz.prog [(0,2),(1,3),(2,4),(3,6)] 1 K=K 1 1:=qo (tf:=ti3) (fo:=(1,3)) (fs:=[(0,2),(1,3),(2,4),(3,6)]) rfl tf3
theorem beg{K:Nat→TI→Prop}:@qA Tryz.prog 8 2 ⟨K⟩=K 2 ti4:=qp (ti:=ti8) (tf:=ti4) (fo:=(2,4)) (fs:=[(0,2),(1,3),(2,4),(3,6)]) tf8 rfl rfl tf4
theorem blP{K:Nat→Nat→Prop}:qr Tryz.prog [(0,2),(1,3),(2,4),(3,6)] 2 K=K 2 1:=qo (tf:=ti4) (fo:=(2,4)) (fs:=[(0,2),(1,3),(2,4),(3,6)]) rfl tf4
theorem bef{K:Nat→TI→Prop}:@qA Tryz.prog 8 3 ⟨K⟩=K 3 ti6:=qp (ti:=ti8) (tf:=ti6) (fo:=(3,6)) (fs:=[(0,2),(1,3),(2,4),(3,6)]) tf8 rfl rfl tf6
theorem blO{K:Nat→Nat→Prop}:qr Tryz.prog [(0,2),(1,3),(2,4),(3,6)] 3 K=K 3 1:=qo (tf:=ti6) (fo:=(3,6)) (fs:=[(0,2),(1,3),(2,4),(3,6)]) rfl tf6
theorem bmi:∀f∈([(0,2),(1,3),(2,4),(3,6)]:List (Nat×Nat)),(qs Tryz.prog f.2).isSome=true:=by
 intro f hf
 simp only[List.mem_cons,List.not_mem_nil,or_false]at hf
 rcases hf with rfl|rfl|rfl|rfl
 ·rw[tf2];rfl
 ·rw[tf3];rfl
 ·rw[tf4];rfl
 ·rw[tf6];rfl
theorem bry{ps:List (Nat×AV)}{K:AV→Prop}:@qX Tryz.prog 8 ps ⟨K⟩=@zg (qr Tryz.prog [(0,2),(1,3),(2,4),(3,6)]) (zc ti8) ps ⟨fun cs=>K (.ag cs)⟩:=qJ tf8 rfl bmi
theorem ty9{K:TI→Prop}:@tyW Tryz.prog 9 ⟨K⟩=K ti9:=qk tf9
theorem aXa:ti9.kd=Kd.str:=ID rfl
theorem aN6:ti9.kd.agg=false:=ID rfl
theorem ayf:ti9.size=1:=ID rfl
theorem apx:ti9.bytes=16:=ID rfl
theorem aW8:qB ti9=True:=eq_true rfl
theorem aW9:zc ti9=[.v (Value.string {data:=⟨[]⟩})]:=ID rfl
theorem bpY{K:TI→Prop}:@tyW Tryz.prog 10 ⟨K⟩=K aMT:=qk bqK
theorem aRR:aMT.kd=Kd.str:=ID rfl
theorem aHU:aMT.kd.agg=false:=ID rfl
theorem atT:aMT.size=1:=ID rfl
theorem anG:aMT.bytes=16:=ID rfl
theorem aRP:qB aMT=True:=eq_true rfl
theorem aRQ:zc aMT=[.v (Value.string {data:=⟨[]⟩})]:=ID rfl
theorem bpX{K:TI→Prop}:@tyW Tryz.prog 11 ⟨K⟩=K aMS:=qk bqJ
theorem aRO:aMS.kd=Kd.str:=ID rfl
theorem aHp:aMS.kd.agg=false:=ID rfl
theorem atI:aMS.size=1:=ID rfl
theorem anu:aMS.bytes=16:=ID rfl
theorem aRM:qB aMS=True:=eq_true rfl
theorem aRN:zc aMS=[.v (Value.string {data:=⟨[]⟩})]:=ID rfl
theorem bpW{K:TI→Prop}:@tyW Tryz.prog 12 ⟨K⟩=K aMR:=qk bqI
theorem aRL:aMR.kd=Kd.int IntKind.u64:=ID rfl
theorem aG6:aMR.kd.agg=false:=ID rfl
theorem atB:aMR.size=1:=ID rfl
theorem ann:aMR.bytes=8:=ID rfl
theorem aRJ:qB aMR=True:=eq_true rfl
theorem aRK:zc aMR=[.v (Value.int IntKind.u64 0)]:=ID rfl
theorem bpV{K:TI→Prop}:@tyW Tryz.prog 21 ⟨K⟩=K aMQ:=qk bqH
theorem aRH:aMQ.kd=Kd.int IntKind.i32:=ID rfl
theorem aC6:aMQ.kd.agg=false:=ID rfl
theorem asf:aMQ.size=1:=ID rfl
theorem al1:aMQ.bytes=4:=ID rfl
theorem aRF:qB aMQ=True:=eq_true rfl
theorem aRG:zc aMQ=[.v (Value.int IntKind.i32 0)]:=ID rfl
theorem bpU{K:TI→Prop}:@tyW Tryz.prog 22 ⟨K⟩=K Y7:=qk agQ
theorem aRE:Y7.kd=Kd.sli 5:=ID rfl
theorem aCH:Y7.kd.agg=false:=ID rfl
theorem ar6:Y7.size=1:=ID rfl
theorem alS:Y7.bytes=24:=ID rfl
theorem aRC:qB Y7=True:=eq_true rfl
theorem aRD:zc Y7=[.v (Value.slice none 0 0)]:=ID rfl
theorem blE{K:TI→Prop}:@Ql Tryz.prog 22 ⟨K⟩=K ti5:=QU agQ rfl tf5
theorem bpT{K:TI→Prop}:@tyW Tryz.prog 23 ⟨K⟩=K aeU:=qk aIr
theorem aRB:aeU.kd=Kd.sli 44:=ID rfl
theorem aCf:aeU.kd.agg=false:=ID rfl
theorem arW:aeU.size=1:=ID rfl
theorem alI:aeU.bytes=24:=ID rfl
theorem aRz:qB aeU=True:=eq_true rfl
theorem aRA:zc aeU=[.v (Value.slice none 0 0)]:=ID rfl
theorem blD{K:TI→Prop}:@Ql Tryz.prog 23 ⟨K⟩=K JH:=QU aIr rfl ab6
theorem bpS{K:TI→Prop}:@tyW Tryz.prog 24 ⟨K⟩=K arV:=qk bfI
theorem aRy:arV.kd=Kd.stru [(0,3),(1,23)]:=ID rfl
theorem aBQ:arV.kd.agg=true:=ID rfl
theorem arM:arV.size=2:=ID rfl
theorem alw:arV.bytes=32:=ID rfl
theorem aRw:qB arV=True:=eq_true rfl
theorem aRx:zc arV=[.v (Value.int IntKind.i64 0),.v (Value.slice none 0 0)]:=ID rfl
theorem aVp{K:Nat→TI→Prop}:@qA Tryz.prog 24 0 ⟨K⟩=K 0 ti3:=qp (ti:=arV) (tf:=ti3) (fo:=(0,3)) (fs:=[(0,3),(1,23)]) bfI rfl rfl tf3
theorem aYX{K:Nat→Nat→Prop}:qr Tryz.prog [(0,3),(1,23)] 0 K=K 0 1:=qo (tf:=ti3) (fo:=(0,3)) (fs:=[(0,3),(1,23)]) rfl tf3
theorem aVo{K:Nat→TI→Prop}:@qA Tryz.prog 24 1 ⟨K⟩=K 1 aeU:=qp (ti:=arV) (tf:=aeU) (fo:=(1,23)) (fs:=[(0,3),(1,23)]) bfI rfl rfl aIr
theorem aYW{K:Nat→Nat→Prop}:qr Tryz.prog [(0,3),(1,23)] 1 K=K 1 1:=qo (tf:=aeU) (fo:=(1,23)) (fs:=[(0,3),(1,23)]) rfl aIr
theorem baa:∀f∈([(0,3),(1,23)]:List (Nat×Nat)),(qs Tryz.prog f.2).isSome=true:=by
 intro f hf
 simp only[List.mem_cons,List.not_mem_nil,or_false]at hf
 rcases hf with rfl|rfl
 ·rw[tf3];rfl
 ·rw[aIr];rfl
theorem boi{ps:List (Nat×AV)}{K:AV→Prop}:@qX Tryz.prog 24 ps ⟨K⟩=@zg (qr Tryz.prog [(0,3),(1,23)]) (zc arV) ps ⟨fun cs=>K (.ag cs)⟩:=qJ bfI rfl baa
theorem bpR{K:TI→Prop}:@tyW Tryz.prog 25 ⟨K⟩=K arL:=qk bfH
theorem aRv:arL.kd=Kd.stru [(0,3),(1,23)]:=ID rfl
theorem aBr:arL.kd.agg=true:=ID rfl
theorem arC:arL.size=2:=ID rfl
theorem aln:arL.bytes=32:=ID rfl
theorem aRt:qB arL=True:=eq_true rfl
theorem aRu:zc arL=[.v (Value.int IntKind.i64 0),.v (Value.slice none 0 0)]:=ID rfl
theorem aVn{K:Nat→TI→Prop}:@qA Tryz.prog 25 0 ⟨K⟩=K 0 ti3:=qp (ti:=arL) (tf:=ti3) (fo:=(0,3)) (fs:=[(0,3),(1,23)]) bfH rfl rfl tf3
theorem aYV{K:Nat→Nat→Prop}:qr Tryz.prog [(0,3),(1,23)] 0 K=K 0 1:=qo (tf:=ti3) (fo:=(0,3)) (fs:=[(0,3),(1,23)]) rfl tf3
theorem aVm{K:Nat→TI→Prop}:@qA Tryz.prog 25 1 ⟨K⟩=K 1 aeU:=qp (ti:=arL) (tf:=aeU) (fo:=(1,23)) (fs:=[(0,3),(1,23)]) bfH rfl rfl aIr
theorem aYU{K:Nat→Nat→Prop}:qr Tryz.prog [(0,3),(1,23)] 1 K=K 1 1:=qo (tf:=aeU) (fo:=(1,23)) (fs:=[(0,3),(1,23)]) rfl aIr
theorem aZ9:∀f∈([(0,3),(1,23)]:List (Nat×Nat)),(qs Tryz.prog f.2).isSome=true:=by
 intro f hf
 simp only[List.mem_cons,List.not_mem_nil,or_false]at hf
 rcases hf with rfl|rfl
 ·rw[tf3];rfl
 ·rw[aIr];rfl
theorem boh{ps:List (Nat×AV)}{K:AV→Prop}:@qX Tryz.prog 25 ps ⟨K⟩=@zg (qr Tryz.prog [(0,3),(1,23)]) (zc arL) ps ⟨fun cs=>K (.ag cs)⟩:=qJ bfH rfl aZ9
theorem bpQ{K:TI→Prop}:@tyW Tryz.prog 27 ⟨K⟩=K aMP:=qk bqG
theorem aRs:aMP.kd=Kd.oth:=ID rfl
theorem aAE:aMP.kd.agg=false:=ID rfl
theorem ark:aMP.size=1:=ID rfl
theorem ak5:aMP.bytes=8:=ID rfl
theorem aRq:qB aMP=True:=eq_true rfl
theorem aRr:zc aMP=[.v Value.nilFunc]:=ID rfl
theorem bpP{K:TI→Prop}:@tyW Tryz.prog 28 ⟨K⟩=K aMO:=qk bqF
theorem aRp:aMO.kd=Kd.oth:=ID rfl
theorem aAc:aMO.kd.agg=false:=ID rfl
theorem aq9:aMO.size=1:=ID rfl
theorem akV:aMO.bytes=8:=ID rfl
theorem aRn:qB aMO=True:=eq_true rfl
theorem aRo:zc aMO=[.v Value.nilFunc]:=ID rfl
theorem bpO{K:TI→Prop}:@tyW Tryz.prog 29 ⟨K⟩=K aMN:=qk bqE
theorem aRm:aMN.kd=Kd.oth:=ID rfl
theorem azN:aMN.kd.agg=false:=ID rfl
theorem aq0:aMN.size=1:=ID rfl
theorem akM:aMN.bytes=8:=ID rfl
theorem aRk:qB aMN=True:=eq_true rfl
theorem aRl:zc aMN=[.v Value.nilFunc]:=ID rfl
theorem bpN{K:TI→Prop}:@tyW Tryz.prog 30 ⟨K⟩=K aMM:=qk bqD
theorem aRi:aMM.kd=Kd.oth:=ID rfl
theorem azq:aMM.kd.agg=false:=ID rfl
theorem aqR:aMM.size=1:=ID rfl
theorem akE:aMM.bytes=8:=ID rfl
theorem aRg:qB aMM=True:=eq_true rfl
theorem aRh:zc aMM=[.v Value.nilFunc]:=ID rfl
theorem bpM{K:TI→Prop}:@tyW Tryz.prog 31 ⟨K⟩=K aML:=qk bqC
theorem aRf:aML.kd=Kd.oth:=ID rfl
theorem azm:aML.kd.agg=false:=ID rfl
theorem aqP:aML.size=1:=ID rfl
theorem akC:aML.bytes=8:=ID rfl
theorem aRd:qB aML=True:=eq_true rfl
theorem aRe:zc aML=[.v Value.nilFunc]:=ID rfl
theorem bpL{K:TI→Prop}:@tyW Tryz.prog 32 ⟨K⟩=K aMK:=qk bqB
theorem aRc:aMK.kd=Kd.oth:=ID rfl
theorem azl:aMK.kd.agg=false:=ID rfl
theorem aqO:aMK.size=1:=ID rfl
theorem akB:aMK.bytes=8:=ID rfl
theorem aRa:qB aMK=True:=eq_true rfl
theorem aRb:zc aMK=[.v Value.nilFunc]:=ID rfl
theorem bpK{K:TI→Prop}:@tyW Tryz.prog 33 ⟨K⟩=K aMJ:=qk bqA
theorem aQ9:aMJ.kd=Kd.oth:=ID rfl
theorem azk:aMJ.kd.agg=false:=ID rfl
theorem aqN:aMJ.size=1:=ID rfl
theorem akA:aMJ.bytes=8:=ID rfl
theorem aQ7:qB aMJ=True:=eq_true rfl
theorem aQ8:zc aMJ=[.v Value.nilFunc]:=ID rfl
theorem bpJ{K:TI→Prop}:@tyW Tryz.prog 34 ⟨K⟩=K ais:=qk aMW
theorem aQ6:ais.kd=Kd.sli 137:=ID rfl
theorem azj:ais.kd.agg=false:=ID rfl
theorem aqM:ais.size=1:=ID rfl
theorem akz:ais.bytes=24:=ID rfl
theorem aQ4:qB ais=True:=eq_true rfl
theorem aQ5:zc ais=[.v (Value.slice none 0 0)]:=ID rfl
theorem blC{K:TI→Prop}:@Ql Tryz.prog 34 ⟨K⟩=K Jy:=QU aMW rfl at9
theorem bpI{K:TI→Prop}:@tyW Tryz.prog 35 ⟨K⟩=K aqL:=qk bfG
theorem aQ3:aqL.kd=Kd.stru [(0,3),(1,34)]:=ID rfl
theorem azi:aqL.kd.agg=true:=ID rfl
theorem aqK:aqL.size=2:=ID rfl
theorem aky:aqL.bytes=32:=ID rfl
theorem aQ1:qB aqL=True:=eq_true rfl
theorem aQ2:zc aqL=[.v (Value.int IntKind.i64 0),.v (Value.slice none 0 0)]:=ID rfl
theorem aVl{K:Nat→TI→Prop}:@qA Tryz.prog 35 0 ⟨K⟩=K 0 ti3:=qp (ti:=aqL) (tf:=ti3) (fo:=(0,3)) (fs:=[(0,3),(1,34)]) bfG rfl rfl tf3
theorem aYT{K:Nat→Nat→Prop}:qr Tryz.prog [(0,3),(1,34)] 0 K=K 0 1:=qo (tf:=ti3) (fo:=(0,3)) (fs:=[(0,3),(1,34)]) rfl tf3
theorem aVk{K:Nat→TI→Prop}:@qA Tryz.prog 35 1 ⟨K⟩=K 1 ais:=qp (ti:=aqL) (tf:=ais) (fo:=(1,34)) (fs:=[(0,3),(1,34)]) bfG rfl rfl aMW
theorem aYS{K:Nat→Nat→Prop}:qr Tryz.prog [(0,3),(1,34)] 1 K=K 1 1:=qo (tf:=ais) (fo:=(1,34)) (fs:=[(0,3),(1,34)]) rfl aMW
theorem aZ8:∀f∈([(0,3),(1,34)]:List (Nat×Nat)),(qs Tryz.prog f.2).isSome=true:=by
 intro f hf
 simp only[List.mem_cons,List.not_mem_nil,or_false]at hf
 rcases hf with rfl|rfl
 ·rw[tf3];rfl
 ·rw[aMW];rfl
theorem bog{ps:List (Nat×AV)}{K:AV→Prop}:@qX Tryz.prog 35 ps ⟨K⟩=@zg (qr Tryz.prog [(0,3),(1,34)]) (zc aqL) ps ⟨fun cs=>K (.ag cs)⟩:=qJ bfG rfl aZ8
theorem bpH{K:TI→Prop}:@tyW Tryz.prog 36 ⟨K⟩=K aqJ:=qk bfF
theorem aQ0:aqJ.kd=Kd.stru [(0,3),(1,34)]:=ID rfl
theorem azh:aqJ.kd.agg=true:=ID rfl
theorem aqI:aqJ.size=2:=ID rfl
theorem akx:aqJ.bytes=32:=ID rfl
theorem aQY:qB aqJ=True:=eq_true rfl
theorem aQZ:zc aqJ=[.v (Value.int IntKind.i64 0),.v (Value.slice none 0 0)]:=ID rfl
theorem aVj{K:Nat→TI→Prop}:@qA Tryz.prog 36 0 ⟨K⟩=K 0 ti3:=qp (ti:=aqJ) (tf:=ti3) (fo:=(0,3)) (fs:=[(0,3),(1,34)]) bfF rfl rfl tf3
theorem aYR{K:Nat→Nat→Prop}:qr Tryz.prog [(0,3),(1,34)] 0 K=K 0 1:=qo (tf:=ti3) (fo:=(0,3)) (fs:=[(0,3),(1,34)]) rfl tf3
theorem aVi{K:Nat→TI→Prop}:@qA Tryz.prog 36 1 ⟨K⟩=K 1 ais:=qp (ti:=aqJ) (tf:=ais) (fo:=(1,34)) (fs:=[(0,3),(1,34)]) bfF rfl rfl aMW
theorem aYQ{K:Nat→Nat→Prop}:qr Tryz.prog [(0,3),(1,34)] 1 K=K 1 1:=qo (tf:=ais) (fo:=(1,34)) (fs:=[(0,3),(1,34)]) rfl aMW
theorem aZ7:∀f∈([(0,3),(1,34)]:List (Nat×Nat)),(qs Tryz.prog f.2).isSome=true:=by
 intro f hf
 simp only[List.mem_cons,List.not_mem_nil,or_false]at hf
 rcases hf with rfl|rfl
 ·rw[tf3];rfl
 ·rw[aMW];rfl
theorem bof{ps:List (Nat×AV)}{K:AV→Prop}:@qX Tryz.prog 36 ps ⟨K⟩=@zg (qr Tryz.prog [(0,3),(1,34)]) (zc aqJ) ps ⟨fun cs=>K (.ag cs)⟩:=qJ bfF rfl aZ7
theorem bpG{K:TI→Prop}:@tyW Tryz.prog 37 ⟨K⟩=K aMI:=qk bqz
theorem aQX:aMI.kd=Kd.oth:=ID rfl
theorem azg:aMI.kd.agg=false:=ID rfl
theorem aqH:aMI.size=1:=ID rfl
theorem akw:aMI.bytes=8:=ID rfl
theorem aQV:qB aMI=True:=eq_true rfl
theorem aQW:zc aMI=[.v Value.nilFunc]:=ID rfl
theorem bpF{K:TI→Prop}:@tyW Tryz.prog 38 ⟨K⟩=K JU:=qk ab7
theorem aQU:JU.kd=Kd.sli 3:=ID rfl
theorem azf:JU.kd.agg=false:=ID rfl
theorem aqG:JU.size=1:=ID rfl
theorem akv:JU.bytes=24:=ID rfl
theorem aQS:qB JU=True:=eq_true rfl
theorem aQT:zc JU=[.v (Value.slice none 0 0)]:=ID rfl
theorem blB{K:TI→Prop}:@Ql Tryz.prog 38 ⟨K⟩=K ti3:=QU ab7 rfl tf3
theorem bpE{K:TI→Prop}:@tyW Tryz.prog 39 ⟨K⟩=K axU:=qk biL
theorem aQR:axU.kd=Kd.stru [(0,38)]:=ID rfl
theorem aze:axU.kd.agg=true:=ID rfl
theorem aqF:axU.size=1:=ID rfl
theorem aku:axU.bytes=24:=ID rfl
theorem aQP:qB axU=True:=eq_true rfl
theorem aQQ:zc axU=[.v (Value.slice none 0 0)]:=ID rfl
theorem aVh{K:Nat→TI→Prop}:@qA Tryz.prog 39 0 ⟨K⟩=K 0 JU:=qp (ti:=axU) (tf:=JU) (fo:=(0,38)) (fs:=[(0,38)]) biL rfl rfl ab7
theorem aYP{K:Nat→Nat→Prop}:qr Tryz.prog [(0,38)] 0 K=K 0 1:=qo (tf:=JU) (fo:=(0,38)) (fs:=[(0,38)]) rfl ab7
theorem aZ6:∀f∈([(0,38)]:List (Nat×Nat)),(qs Tryz.prog f.2).isSome=true:=by
 intro f hf
 simp only[List.mem_cons,List.not_mem_nil,or_false]at hf
 subst hf;rw[ab7];rfl
theorem boe{ps:List (Nat×AV)}{K:AV→Prop}:@qX Tryz.prog 39 ps ⟨K⟩=@zg (qr Tryz.prog [(0,38)]) (zc axU) ps ⟨fun cs=>K (.ag cs)⟩:=qJ biL rfl aZ6
theorem bpD{K:TI→Prop}:@tyW Tryz.prog 40 ⟨K⟩=K Y4:=qk agP
theorem aQN:Y4.kd=Kd.stru [(0,38)]:=ID rfl
theorem azc:Y4.kd.agg=true:=ID rfl
theorem aqD:Y4.size=1:=ID rfl
theorem akt:Y4.bytes=24:=ID rfl
theorem aQL:qB Y4=True:=eq_true rfl
theorem aQM:zc Y4=[.v (Value.slice none 0 0)]:=ID rfl
theorem aVg{K:Nat→TI→Prop}:@qA Tryz.prog 40 0 ⟨K⟩=K 0 JU:=qp (ti:=Y4) (tf:=JU) (fo:=(0,38)) (fs:=[(0,38)]) agP rfl rfl ab7
theorem aYO{K:Nat→Nat→Prop}:qr Tryz.prog [(0,38)] 0 K=K 0 1:=qo (tf:=JU) (fo:=(0,38)) (fs:=[(0,38)]) rfl ab7
theorem aZ5:∀f∈([(0,38)]:List (Nat×Nat)),(qs Tryz.prog f.2).isSome=true:=by
 intro f hf
 simp only[List.mem_cons,List.not_mem_nil,or_false]at hf
 subst hf;rw[ab7];rfl
theorem bod{ps:List (Nat×AV)}{K:AV→Prop}:@qX Tryz.prog 40 ps ⟨K⟩=@zg (qr Tryz.prog [(0,38)]) (zc Y4) ps ⟨fun cs=>K (.ag cs)⟩:=qJ agP rfl aZ5
theorem bpC{K:TI→Prop}:@tyW Tryz.prog 41 ⟨K⟩=K aqC:=qk bfE
theorem aQK:aqC.kd=Kd.stru [(0,4),(1,40)]:=ID rfl
theorem azb:aqC.kd.agg=true:=ID rfl
theorem aqB:aqC.size=2:=ID rfl
theorem aks:aqC.bytes=32:=ID rfl
theorem aQI:qB aqC=True:=eq_true rfl
theorem aQJ:zc aqC=[.v (Value.bool false),.v (Value.slice none 0 0)]:=ID rfl
theorem aVf{K:Nat→TI→Prop}:@qA Tryz.prog 41 0 ⟨K⟩=K 0 ti4:=qp (ti:=aqC) (tf:=ti4) (fo:=(0,4)) (fs:=[(0,4),(1,40)]) bfE rfl rfl tf4
theorem aYN{K:Nat→Nat→Prop}:qr Tryz.prog [(0,4),(1,40)] 0 K=K 0 1:=qo (tf:=ti4) (fo:=(0,4)) (fs:=[(0,4),(1,40)]) rfl tf4
theorem aVe{K:Nat→TI→Prop}:@qA Tryz.prog 41 1 ⟨K⟩=K 1 Y4:=qp (ti:=aqC) (tf:=Y4) (fo:=(1,40)) (fs:=[(0,4),(1,40)]) bfE rfl rfl agP
theorem aYM{K:Nat→Nat→Prop}:qr Tryz.prog [(0,4),(1,40)] 1 K=K 1 1:=qo (tf:=Y4) (fo:=(1,40)) (fs:=[(0,4),(1,40)]) rfl agP
theorem aZ4:∀f∈([(0,4),(1,40)]:List (Nat×Nat)),(qs Tryz.prog f.2).isSome=true:=by
 intro f hf
 simp only[List.mem_cons,List.not_mem_nil,or_false]at hf
 rcases hf with rfl|rfl
 ·rw[tf4];rfl
 ·rw[agP];rfl
theorem boc{ps:List (Nat×AV)}{K:AV→Prop}:@qX Tryz.prog 41 ps ⟨K⟩=@zg (qr Tryz.prog [(0,4),(1,40)]) (zc aqC) ps ⟨fun cs=>K (.ag cs)⟩:=qJ bfE rfl aZ4
theorem bpB{K:TI→Prop}:@tyW Tryz.prog 42 ⟨K⟩=K Ke:=qk axV
theorem aQH:Ke.kd=Kd.stru [(0,4),(1,40)]:=ID rfl
theorem aza:Ke.kd.agg=true:=ID rfl
theorem aqA:Ke.size=2:=ID rfl
theorem akr:Ke.bytes=32:=ID rfl
theorem aQF:qB Ke=True:=eq_true rfl
theorem aQG:zc Ke=[.v (Value.bool false),.v (Value.slice none 0 0)]:=ID rfl
theorem aVd{K:Nat→TI→Prop}:@qA Tryz.prog 42 0 ⟨K⟩=K 0 ti4:=qp (ti:=Ke) (tf:=ti4) (fo:=(0,4)) (fs:=[(0,4),(1,40)]) axV rfl rfl tf4
theorem aYL{K:Nat→Nat→Prop}:qr Tryz.prog [(0,4),(1,40)] 0 K=K 0 1:=qo (tf:=ti4) (fo:=(0,4)) (fs:=[(0,4),(1,40)]) rfl tf4
theorem aVc{K:Nat→TI→Prop}:@qA Tryz.prog 42 1 ⟨K⟩=K 1 Y4:=qp (ti:=Ke) (tf:=Y4) (fo:=(1,40)) (fs:=[(0,4),(1,40)]) axV rfl rfl agP
theorem aYK{K:Nat→Nat→Prop}:qr Tryz.prog [(0,4),(1,40)] 1 K=K 1 1:=qo (tf:=Y4) (fo:=(1,40)) (fs:=[(0,4),(1,40)]) rfl agP
theorem aZ3:∀f∈([(0,4),(1,40)]:List (Nat×Nat)),(qs Tryz.prog f.2).isSome=true:=by
 intro f hf
 simp only[List.mem_cons,List.not_mem_nil,or_false]at hf
 rcases hf with rfl|rfl
 ·rw[tf4];rfl
 ·rw[agP];rfl
theorem bob{ps:List (Nat×AV)}{K:AV→Prop}:@qX Tryz.prog 42 ps ⟨K⟩=@zg (qr Tryz.prog [(0,4),(1,40)]) (zc Ke) ps ⟨fun cs=>K (.ag cs)⟩:=qJ axV rfl aZ3
theorem bpA{K:TI→Prop}:@tyW Tryz.prog 43 ⟨K⟩=K aqz:=qk bfD
theorem aQE:aqz.kd=Kd.stru [(0,42),(2,3)]:=ID rfl
theorem ay9:aqz.kd.agg=true:=ID rfl
theorem aqy:aqz.size=3:=ID rfl
theorem akq:aqz.bytes=40:=ID rfl
theorem aQC:qB aqz=True:=eq_true rfl
theorem aQD:zc aqz=[.v (Value.bool false),.v (Value.slice none 0 0),.v (Value.int IntKind.i64 0)]:=ID rfl
theorem aVb{K:Nat→TI→Prop}:@qA Tryz.prog 43 0 ⟨K⟩=K 0 Ke:=qp (ti:=aqz) (tf:=Ke) (fo:=(0,42)) (fs:=[(0,42),(2,3)]) bfD rfl rfl axV
theorem aYJ{K:Nat→Nat→Prop}:qr Tryz.prog [(0,42),(2,3)] 0 K=K 0 2:=qo (tf:=Ke) (fo:=(0,42)) (fs:=[(0,42),(2,3)]) rfl axV
theorem aVa{K:Nat→TI→Prop}:@qA Tryz.prog 43 1 ⟨K⟩=K 2 ti3:=qp (ti:=aqz) (tf:=ti3) (fo:=(2,3)) (fs:=[(0,42),(2,3)]) bfD rfl rfl tf3
theorem aYI{K:Nat→Nat→Prop}:qr Tryz.prog [(0,42),(2,3)] 1 K=K 2 1:=qo (tf:=ti3) (fo:=(2,3)) (fs:=[(0,42),(2,3)]) rfl tf3
theorem aZ2:∀f∈([(0,42),(2,3)]:List (Nat×Nat)),(qs Tryz.prog f.2).isSome=true:=by
 intro f hf
 simp only[List.mem_cons,List.not_mem_nil,or_false]at hf
 rcases hf with rfl|rfl
 ·rw[axV];rfl
 ·rw[tf3];rfl
theorem boa{ps:List (Nat×AV)}{K:AV→Prop}:@qX Tryz.prog 43 ps ⟨K⟩=@zg (qr Tryz.prog [(0,42),(2,3)]) (zc aqz) ps ⟨fun cs=>K (.ag cs)⟩:=qJ bfD rfl aZ2
theorem bpz{K:TI→Prop}:@tyW Tryz.prog 44 ⟨K⟩=K JH:=qk ab6
theorem aQB:JH.kd=Kd.stru [(0,42),(2,3)]:=ID rfl
theorem ay8:JH.kd.agg=true:=ID rfl
theorem aqx:JH.size=3:=ID rfl
theorem akp:JH.bytes=40:=ID rfl
theorem aQz:qB JH=True:=eq_true rfl
theorem aQA:zc JH=[.v (Value.bool false),.v (Value.slice none 0 0),.v (Value.int IntKind.i64 0)]:=ID rfl
theorem aU9{K:Nat→TI→Prop}:@qA Tryz.prog 44 0 ⟨K⟩=K 0 Ke:=qp (ti:=JH) (tf:=Ke) (fo:=(0,42)) (fs:=[(0,42),(2,3)]) ab6 rfl rfl axV
theorem aYH{K:Nat→Nat→Prop}:qr Tryz.prog [(0,42),(2,3)] 0 K=K 0 2:=qo (tf:=Ke) (fo:=(0,42)) (fs:=[(0,42),(2,3)]) rfl axV
theorem aU8{K:Nat→TI→Prop}:@qA Tryz.prog 44 1 ⟨K⟩=K 2 ti3:=qp (ti:=JH) (tf:=ti3) (fo:=(2,3)) (fs:=[(0,42),(2,3)]) ab6 rfl rfl tf3
theorem aYG{K:Nat→Nat→Prop}:qr Tryz.prog [(0,42),(2,3)] 1 K=K 2 1:=qo (tf:=ti3) (fo:=(2,3)) (fs:=[(0,42),(2,3)]) rfl tf3
theorem aZ1:∀f∈([(0,42),(2,3)]:List (Nat×Nat)),(qs Tryz.prog f.2).isSome=true:=by
 intro f hf
 simp only[List.mem_cons,List.not_mem_nil,or_false]at hf
 rcases hf with rfl|rfl
 ·rw[axV];rfl
 ·rw[tf3];rfl
theorem bn9{ps:List (Nat×AV)}{K:AV→Prop}:@qX Tryz.prog 44 ps ⟨K⟩=@zg (qr Tryz.prog [(0,42),(2,3)]) (zc JH) ps ⟨fun cs=>K (.ag cs)⟩:=qJ ab6 rfl aZ1
theorem bpy{K:TI→Prop}:@tyW Tryz.prog 46 ⟨K⟩=K aMH:=qk bqy
theorem aQy:aMH.kd=Kd.oth:=ID rfl
theorem ay7:aMH.kd.agg=false:=ID rfl
theorem aqw:aMH.size=1:=ID rfl
theorem ako:aMH.bytes=8:=ID rfl
theorem aQw:qB aMH=True:=eq_true rfl
theorem aQx:zc aMH=[.v Value.nilFunc]:=ID rfl
theorem bpx{K:TI→Prop}:@tyW Tryz.prog 47 ⟨K⟩=K aMG:=qk bqx
theorem aQv:aMG.kd=Kd.oth:=ID rfl
theorem ay6:aMG.kd.agg=false:=ID rfl
theorem aqv:aMG.size=1:=ID rfl
theorem akn:aMG.bytes=8:=ID rfl
theorem aQt:qB aMG=True:=eq_true rfl
theorem aQu:zc aMG=[.v Value.nilFunc]:=ID rfl
theorem bpw{K:TI→Prop}:@tyW Tryz.prog 48 ⟨K⟩=K aMF:=qk bqw
theorem aQs:aMF.kd=Kd.oth:=ID rfl
theorem ay5:aMF.kd.agg=false:=ID rfl
theorem aqu:aMF.size=1:=ID rfl
theorem akm:aMF.bytes=8:=ID rfl
theorem aQq:qB aMF=True:=eq_true rfl
theorem aQr:zc aMF=[.v Value.nilFunc]:=ID rfl
theorem bpv{K:TI→Prop}:@tyW Tryz.prog 49 ⟨K⟩=K aME:=qk bqv
theorem aQp:aME.kd=Kd.oth:=ID rfl
theorem ay4:aME.kd.agg=false:=ID rfl
theorem aqt:aME.size=1:=ID rfl
theorem akl:aME.bytes=8:=ID rfl
theorem aQn:qB aME=True:=eq_true rfl
theorem aQo:zc aME=[.v Value.nilFunc]:=ID rfl
theorem bpu{K:TI→Prop}:@tyW Tryz.prog 50 ⟨K⟩=K aMD:=qk bqu
theorem aQl:aMD.kd=Kd.oth:=ID rfl
theorem ay2:aMD.kd.agg=false:=ID rfl
theorem aqr:aMD.size=1:=ID rfl
theorem akk:aMD.bytes=8:=ID rfl
theorem aQj:qB aMD=True:=eq_true rfl
theorem aQk:zc aMD=[.v Value.nilFunc]:=ID rfl
theorem bpt{K:TI→Prop}:@tyW Tryz.prog 51 ⟨K⟩=K air:=qk aMV
theorem aQi:air.kd=Kd.sli 167:=ID rfl
theorem ay1:air.kd.agg=false:=ID rfl
theorem aqq:air.size=1:=ID rfl
theorem akj:air.bytes=24:=ID rfl
theorem aQg:qB air=True:=eq_true rfl
theorem aQh:zc air=[.v (Value.slice none 0 0)]:=ID rfl
theorem blA{K:TI→Prop}:@Ql Tryz.prog 51 ⟨K⟩=K Jx:=QU aMV rfl at8
theorem bps{K:TI→Prop}:@tyW Tryz.prog 52 ⟨K⟩=K aqp:=qk bfC
theorem aQf:aqp.kd=Kd.stru [(0,3),(1,51)]:=ID rfl
theorem ay0:aqp.kd.agg=true:=ID rfl
theorem aqo:aqp.size=2:=ID rfl
theorem aki:aqp.bytes=32:=ID rfl
theorem aQd:qB aqp=True:=eq_true rfl
theorem aQe:zc aqp=[.v (Value.int IntKind.i64 0),.v (Value.slice none 0 0)]:=ID rfl
theorem aU7{K:Nat→TI→Prop}:@qA Tryz.prog 52 0 ⟨K⟩=K 0 ti3:=qp (ti:=aqp) (tf:=ti3) (fo:=(0,3)) (fs:=[(0,3),(1,51)]) bfC rfl rfl tf3
theorem aYF{K:Nat→Nat→Prop}:qr Tryz.prog [(0,3),(1,51)] 0 K=K 0 1:=qo (tf:=ti3) (fo:=(0,3)) (fs:=[(0,3),(1,51)]) rfl tf3
theorem aU6{K:Nat→TI→Prop}:@qA Tryz.prog 52 1 ⟨K⟩=K 1 air:=qp (ti:=aqp) (tf:=air) (fo:=(1,51)) (fs:=[(0,3),(1,51)]) bfC rfl rfl aMV
theorem aYE{K:Nat→Nat→Prop}:qr Tryz.prog [(0,3),(1,51)] 1 K=K 1 1:=qo (tf:=air) (fo:=(1,51)) (fs:=[(0,3),(1,51)]) rfl aMV
theorem aZ0:∀f∈([(0,3),(1,51)]:List (Nat×Nat)),(qs Tryz.prog f.2).isSome=true:=by
 intro f hf
 simp only[List.mem_cons,List.not_mem_nil,or_false]at hf
 rcases hf with rfl|rfl
 ·rw[tf3];rfl
 ·rw[aMV];rfl
theorem bn8{ps:List (Nat×AV)}{K:AV→Prop}:@qX Tryz.prog 52 ps ⟨K⟩=@zg (qr Tryz.prog [(0,3),(1,51)]) (zc aqp) ps ⟨fun cs=>K (.ag cs)⟩:=qJ bfC rfl aZ0
theorem bpr{K:TI→Prop}:@tyW Tryz.prog 53 ⟨K⟩=K aqn:=qk bfB
theorem aQc:aqn.kd=Kd.stru [(0,3),(1,51)]:=ID rfl
theorem ayZ:aqn.kd.agg=true:=ID rfl
theorem aqm:aqn.size=2:=ID rfl
theorem akh:aqn.bytes=32:=ID rfl
theorem aQa:qB aqn=True:=eq_true rfl
theorem aQb:zc aqn=[.v (Value.int IntKind.i64 0),.v (Value.slice none 0 0)]:=ID rfl
theorem aU5{K:Nat→TI→Prop}:@qA Tryz.prog 53 0 ⟨K⟩=K 0 ti3:=qp (ti:=aqn) (tf:=ti3) (fo:=(0,3)) (fs:=[(0,3),(1,51)]) bfB rfl rfl tf3
theorem aYD{K:Nat→Nat→Prop}:qr Tryz.prog [(0,3),(1,51)] 0 K=K 0 1:=qo (tf:=ti3) (fo:=(0,3)) (fs:=[(0,3),(1,51)]) rfl tf3
theorem aU4{K:Nat→TI→Prop}:@qA Tryz.prog 53 1 ⟨K⟩=K 1 air:=qp (ti:=aqn) (tf:=air) (fo:=(1,51)) (fs:=[(0,3),(1,51)]) bfB rfl rfl aMV
theorem aYC{K:Nat→Nat→Prop}:qr Tryz.prog [(0,3),(1,51)] 1 K=K 1 1:=qo (tf:=air) (fo:=(1,51)) (fs:=[(0,3),(1,51)]) rfl aMV
theorem aZZ:∀f∈([(0,3),(1,51)]:List (Nat×Nat)),(qs Tryz.prog f.2).isSome=true:=by
 intro f hf
 simp only[List.mem_cons,List.not_mem_nil,or_false]at hf
 rcases hf with rfl|rfl
 ·rw[tf3];rfl
 ·rw[aMV];rfl
theorem bn7{ps:List (Nat×AV)}{K:AV→Prop}:@qX Tryz.prog 53 ps ⟨K⟩=@zg (qr Tryz.prog [(0,3),(1,51)]) (zc aqn) ps ⟨fun cs=>K (.ag cs)⟩:=qJ bfB rfl aZZ
theorem bpq{K:TI→Prop}:@tyW Tryz.prog 55 ⟨K⟩=K aMC:=qk bqt
theorem aP9:aMC.kd=Kd.oth:=ID rfl
theorem ayY:aMC.kd.agg=false:=ID rfl
theorem aql:aMC.size=1:=ID rfl
theorem akg:aMC.bytes=8:=ID rfl
theorem aP7:qB aMC=True:=eq_true rfl
theorem aP8:zc aMC=[.v Value.nilFunc]:=ID rfl
theorem bpp{K:TI→Prop}:@tyW Tryz.prog 56 ⟨K⟩=K aMB:=qk bqs
theorem aP6:aMB.kd=Kd.oth:=ID rfl
theorem ayX:aMB.kd.agg=false:=ID rfl
theorem aqk:aMB.size=1:=ID rfl
theorem akf:aMB.bytes=8:=ID rfl
theorem aP4:qB aMB=True:=eq_true rfl
theorem aP5:zc aMB=[.v Value.nilFunc]:=ID rfl
theorem bpo{K:TI→Prop}:@tyW Tryz.prog 57 ⟨K⟩=K aMA:=qk bqr
theorem aP3:aMA.kd=Kd.oth:=ID rfl
theorem ayW:aMA.kd.agg=false:=ID rfl
theorem aqj:aMA.size=1:=ID rfl
theorem ake:aMA.bytes=8:=ID rfl
theorem aP1:qB aMA=True:=eq_true rfl
theorem aP2:zc aMA=[.v Value.nilFunc]:=ID rfl
theorem bpn{K:TI→Prop}:@tyW Tryz.prog 58 ⟨K⟩=K aMz:=qk bqq
theorem aP0:aMz.kd=Kd.oth:=ID rfl
theorem ayV:aMz.kd.agg=false:=ID rfl
theorem aqi:aMz.size=1:=ID rfl
theorem akd:aMz.bytes=8:=ID rfl
theorem aPY:qB aMz=True:=eq_true rfl
theorem aPZ:zc aMz=[.v Value.nilFunc]:=ID rfl
theorem bpm{K:TI→Prop}:@tyW Tryz.prog 59 ⟨K⟩=K aMy:=qk bqp
theorem aPX:aMy.kd=Kd.oth:=ID rfl
theorem ayU:aMy.kd.agg=false:=ID rfl
theorem aqh:aMy.size=1:=ID rfl
theorem akc:aMy.bytes=8:=ID rfl
theorem aPV:qB aMy=True:=eq_true rfl
theorem aPW:zc aMy=[.v Value.nilFunc]:=ID rfl
theorem bpl{K:TI→Prop}:@tyW Tryz.prog 60 ⟨K⟩=K aMx:=qk boq
theorem aPT:aMx.kd=Kd.sli 65:=ID rfl
theorem ayS:aMx.kd.agg=false:=ID rfl
theorem aqf:aMx.size=1:=ID rfl
theorem akb:aMx.bytes=24:=ID rfl
theorem aPR:qB aMx=True:=eq_true rfl
theorem aPS:zc aMx=[.v (Value.slice none 0 0)]:=ID rfl
theorem blz{K:TI→Prop}:@Ql Tryz.prog 60 ⟨K⟩=K aj7:=QU boq rfl aWI
theorem bpk{K:TI→Prop}:@tyW Tryz.prog 61 ⟨K⟩=K aMw:=qk bqo
theorem aPQ:aMw.kd=Kd.oth:=ID rfl
theorem ayR:aMw.kd.agg=false:=ID rfl
theorem aqe:aMw.size=1:=ID rfl
theorem aka:aMw.bytes=8:=ID rfl
theorem aPO:qB aMw=True:=eq_true rfl
theorem aPP:zc aMw=[.v Value.nilFunc]:=ID rfl
theorem bpj{K:TI→Prop}:@tyW Tryz.prog 63 ⟨K⟩=K aMv:=qk bqn
theorem aPN:aMv.kd=Kd.oth:=ID rfl
theorem ayQ:aMv.kd.agg=false:=ID rfl
theorem aqd:aMv.size=1:=ID rfl
theorem aj9:aMv.bytes=8:=ID rfl
theorem aPL:qB aMv=True:=eq_true rfl
theorem aPM:zc aMv=[.v Value.nilFunc]:=ID rfl
theorem bpi{K:TI→Prop}:@tyW Tryz.prog 64 ⟨K⟩=K apd:=qk aXA
theorem aPK:apd.kd=Kd.stru [(0,3),(1,3),(2,22)]:=ID rfl
theorem ayP:apd.kd.agg=true:=ID rfl
theorem aqc:apd.size=3:=ID rfl
theorem aj8:apd.bytes=40:=ID rfl
theorem aPI:qB apd=True:=eq_true rfl
theorem aPJ:zc apd=[.v (Value.int IntKind.i64 0),.v (Value.int IntKind.i64 0),.v (Value.slice none 0 0)]:=ID rfl
theorem aU3{K:Nat→TI→Prop}:@qA Tryz.prog 64 0 ⟨K⟩=K 0 ti3:=qp (ti:=apd) (tf:=ti3) (fo:=(0,3)) (fs:=[(0,3),(1,3),(2,22)]) aXA rfl rfl tf3
theorem aYB{K:Nat→Nat→Prop}:qr Tryz.prog [(0,3),(1,3),(2,22)] 0 K=K 0 1:=qo (tf:=ti3) (fo:=(0,3)) (fs:=[(0,3),(1,3),(2,22)]) rfl tf3
theorem aU2{K:Nat→TI→Prop}:@qA Tryz.prog 64 1 ⟨K⟩=K 1 ti3:=qp (ti:=apd) (tf:=ti3) (fo:=(1,3)) (fs:=[(0,3),(1,3),(2,22)]) aXA rfl rfl tf3
theorem aYA{K:Nat→Nat→Prop}:qr Tryz.prog [(0,3),(1,3),(2,22)] 1 K=K 1 1:=qo (tf:=ti3) (fo:=(1,3)) (fs:=[(0,3),(1,3),(2,22)]) rfl tf3
theorem aU1{K:Nat→TI→Prop}:@qA Tryz.prog 64 2 ⟨K⟩=K 2 Y7:=qp (ti:=apd) (tf:=Y7) (fo:=(2,22)) (fs:=[(0,3),(1,3),(2,22)]) aXA rfl rfl agQ
theorem aYz{K:Nat→Nat→Prop}:qr Tryz.prog [(0,3),(1,3),(2,22)] 2 K=K 2 1:=qo (tf:=Y7) (fo:=(2,22)) (fs:=[(0,3),(1,3),(2,22)]) rfl agQ
theorem aZY:∀f∈([(0,3),(1,3),(2,22)]:List (Nat×Nat)),(qs Tryz.prog f.2).isSome=true:=by
 intro f hf
 simp only[List.mem_cons,List.not_mem_nil,or_false]at hf
 rcases hf with rfl|rfl|rfl
 ·rw[tf3];rfl
 ·rw[tf3];rfl
 ·rw[agQ];rfl
theorem bn6{ps:List (Nat×AV)}{K:AV→Prop}:@qX Tryz.prog 64 ps ⟨K⟩=@zg (qr Tryz.prog [(0,3),(1,3),(2,22)]) (zc apd) ps ⟨fun cs=>K (.ag cs)⟩:=qJ aXA rfl aZY
theorem bph{K:TI→Prop}:@tyW Tryz.prog 65 ⟨K⟩=K aj7:=qk aWI
theorem aPH:aj7.kd=Kd.stru [(0,3),(1,3),(2,22)]:=ID rfl
theorem ayO:aj7.kd.agg=true:=ID rfl
theorem aqb:aj7.size=3:=ID rfl
theorem aj6:aj7.bytes=40:=ID rfl
theorem aPF:qB aj7=True:=eq_true rfl
theorem aPG:zc aj7=[.v (Value.int IntKind.i64 0),.v (Value.int IntKind.i64 0),.v (Value.slice none 0 0)]:=ID rfl
theorem aU0{K:Nat→TI→Prop}:@qA Tryz.prog 65 0 ⟨K⟩=K 0 ti3:=qp (ti:=aj7) (tf:=ti3) (fo:=(0,3)) (fs:=[(0,3),(1,3),(2,22)]) aWI rfl rfl tf3
theorem aYy{K:Nat→Nat→Prop}:qr Tryz.prog [(0,3),(1,3),(2,22)] 0 K=K 0 1:=qo (tf:=ti3) (fo:=(0,3)) (fs:=[(0,3),(1,3),(2,22)]) rfl tf3
theorem aUZ{K:Nat→TI→Prop}:@qA Tryz.prog 65 1 ⟨K⟩=K 1 ti3:=qp (ti:=aj7) (tf:=ti3) (fo:=(1,3)) (fs:=[(0,3),(1,3),(2,22)]) aWI rfl rfl tf3
theorem aYx{K:Nat→Nat→Prop}:qr Tryz.prog [(0,3),(1,3),(2,22)] 1 K=K 1 1:=qo (tf:=ti3) (fo:=(1,3)) (fs:=[(0,3),(1,3),(2,22)]) rfl tf3
theorem aUY{K:Nat→TI→Prop}:@qA Tryz.prog 65 2 ⟨K⟩=K 2 Y7:=qp (ti:=aj7) (tf:=Y7) (fo:=(2,22)) (fs:=[(0,3),(1,3),(2,22)]) aWI rfl rfl agQ
theorem aYw{K:Nat→Nat→Prop}:qr Tryz.prog [(0,3),(1,3),(2,22)] 2 K=K 2 1:=qo (tf:=Y7) (fo:=(2,22)) (fs:=[(0,3),(1,3),(2,22)]) rfl agQ
theorem aZX:∀f∈([(0,3),(1,3),(2,22)]:List (Nat×Nat)),(qs Tryz.prog f.2).isSome=true:=by
 intro f hf
 simp only[List.mem_cons,List.not_mem_nil,or_false]at hf
 rcases hf with rfl|rfl|rfl
 ·rw[tf3];rfl
 ·rw[tf3];rfl
 ·rw[agQ];rfl
theorem bn5{ps:List (Nat×AV)}{K:AV→Prop}:@qX Tryz.prog 65 ps ⟨K⟩=@zg (qr Tryz.prog [(0,3),(1,3),(2,22)]) (zc aj7) ps ⟨fun cs=>K (.ag cs)⟩:=qJ aWI rfl aZX
theorem bpg{K:TI→Prop}:@tyW Tryz.prog 66 ⟨K⟩=K aMu:=qk bqm
theorem aPE:aMu.kd=Kd.oth:=ID rfl
theorem ayN:aMu.kd.agg=false:=ID rfl
theorem aqa:aMu.size=1:=ID rfl
theorem aj5:aMu.bytes=8:=ID rfl
theorem aPC:qB aMu=True:=eq_true rfl
theorem aPD:zc aMu=[.v Value.nilFunc]:=ID rfl
theorem bpf{K:TI→Prop}:@tyW Tryz.prog 68 ⟨K⟩=K ap9:=qk bfA
theorem aPB:ap9.kd=Kd.stru [(0,22),(1,3)]:=ID rfl
theorem ayM:ap9.kd.agg=true:=ID rfl
theorem ap8:ap9.size=2:=ID rfl
theorem aj4:ap9.bytes=32:=ID rfl
theorem aPz:qB ap9=True:=eq_true rfl
theorem aPA:zc ap9=[.v (Value.slice none 0 0),.v (Value.int IntKind.i64 0)]:=ID rfl
theorem aUX{K:Nat→TI→Prop}:@qA Tryz.prog 68 0 ⟨K⟩=K 0 Y7:=qp (ti:=ap9) (tf:=Y7) (fo:=(0,22)) (fs:=[(0,22),(1,3)]) bfA rfl rfl agQ
theorem aYv{K:Nat→Nat→Prop}:qr Tryz.prog [(0,22),(1,3)] 0 K=K 0 1:=qo (tf:=Y7) (fo:=(0,22)) (fs:=[(0,22),(1,3)]) rfl agQ
theorem aUW{K:Nat→TI→Prop}:@qA Tryz.prog 68 1 ⟨K⟩=K 1 ti3:=qp (ti:=ap9) (tf:=ti3) (fo:=(1,3)) (fs:=[(0,22),(1,3)]) bfA rfl rfl tf3
theorem aYu{K:Nat→Nat→Prop}:qr Tryz.prog [(0,22),(1,3)] 1 K=K 1 1:=qo (tf:=ti3) (fo:=(1,3)) (fs:=[(0,22),(1,3)]) rfl tf3
theorem aZW:∀f∈([(0,22),(1,3)]:List (Nat×Nat)),(qs Tryz.prog f.2).isSome=true:=by
 intro f hf
 simp only[List.mem_cons,List.not_mem_nil,or_false]at hf
 rcases hf with rfl|rfl
 ·rw[agQ];rfl
 ·rw[tf3];rfl
theorem bn4{ps:List (Nat×AV)}{K:AV→Prop}:@qX Tryz.prog 68 ps ⟨K⟩=@zg (qr Tryz.prog [(0,22),(1,3)]) (zc ap9) ps ⟨fun cs=>K (.ag cs)⟩:=qJ bfA rfl aZW
theorem bpe{K:TI→Prop}:@tyW Tryz.prog 69 ⟨K⟩=K ap7:=qk bfz
theorem aPy:ap7.kd=Kd.stru [(0,22),(1,3)]:=ID rfl
theorem ayL:ap7.kd.agg=true:=ID rfl
theorem ap6:ap7.size=2:=ID rfl
theorem aj3:ap7.bytes=32:=ID rfl
theorem aPw:qB ap7=True:=eq_true rfl
theorem aPx:zc ap7=[.v (Value.slice none 0 0),.v (Value.int IntKind.i64 0)]:=ID rfl
theorem aUV{K:Nat→TI→Prop}:@qA Tryz.prog 69 0 ⟨K⟩=K 0 Y7:=qp (ti:=ap7) (tf:=Y7) (fo:=(0,22)) (fs:=[(0,22),(1,3)]) bfz rfl rfl agQ
theorem aYt{K:Nat→Nat→Prop}:qr Tryz.prog [(0,22),(1,3)] 0 K=K 0 1:=qo (tf:=Y7) (fo:=(0,22)) (fs:=[(0,22),(1,3)]) rfl agQ
theorem aUU{K:Nat→TI→Prop}:@qA Tryz.prog 69 1 ⟨K⟩=K 1 ti3:=qp (ti:=ap7) (tf:=ti3) (fo:=(1,3)) (fs:=[(0,22),(1,3)]) bfz rfl rfl tf3
theorem aYs{K:Nat→Nat→Prop}:qr Tryz.prog [(0,22),(1,3)] 1 K=K 1 1:=qo (tf:=ti3) (fo:=(1,3)) (fs:=[(0,22),(1,3)]) rfl tf3
theorem aZV:∀f∈([(0,22),(1,3)]:List (Nat×Nat)),(qs Tryz.prog f.2).isSome=true:=by
 intro f hf
 simp only[List.mem_cons,List.not_mem_nil,or_false]at hf
 rcases hf with rfl|rfl
 ·rw[agQ];rfl
 ·rw[tf3];rfl
theorem bn3{ps:List (Nat×AV)}{K:AV→Prop}:@qX Tryz.prog 69 ps ⟨K⟩=@zg (qr Tryz.prog [(0,22),(1,3)]) (zc ap7) ps ⟨fun cs=>K (.ag cs)⟩:=qJ bfz rfl aZV
theorem bpd{K:TI→Prop}:@tyW Tryz.prog 70 ⟨K⟩=K aMt:=qk bql
theorem aPu:aMt.kd=Kd.oth:=ID rfl
theorem ayJ:aMt.kd.agg=false:=ID rfl
theorem ap4:aMt.size=1:=ID rfl
theorem aj2:aMt.bytes=8:=ID rfl
theorem aPs:qB aMt=True:=eq_true rfl
theorem aPt:zc aMt=[.v Value.nilFunc]:=ID rfl
theorem bpc{K:TI→Prop}:@tyW Tryz.prog 72 ⟨K⟩=K aMs:=qk bqk
theorem aPr:aMs.kd=Kd.oth:=ID rfl
theorem ayI:aMs.kd.agg=false:=ID rfl
theorem ap3:aMs.size=1:=ID rfl
theorem aj1:aMs.bytes=8:=ID rfl
theorem aPp:qB aMs=True:=eq_true rfl
theorem aPq:zc aMs=[.v Value.nilFunc]:=ID rfl
theorem bpb{K:TI→Prop}:@tyW Tryz.prog 73 ⟨K⟩=K aMr:=qk bqj
theorem aPo:aMr.kd=Kd.oth:=ID rfl
theorem ayH:aMr.kd.agg=false:=ID rfl
theorem ap2:aMr.size=1:=ID rfl
theorem aj0:aMr.bytes=8:=ID rfl
theorem aPm:qB aMr=True:=eq_true rfl
theorem aPn:zc aMr=[.v Value.nilFunc]:=ID rfl
theorem bpa{K:TI→Prop}:@tyW Tryz.prog 74 ⟨K⟩=K aMq:=qk bqi
theorem aPl:aMq.kd=Kd.oth:=ID rfl
theorem ayG:aMq.kd.agg=false:=ID rfl
theorem ap1:aMq.size=1:=ID rfl
theorem ajZ:aMq.bytes=8:=ID rfl
theorem aPj:qB aMq=True:=eq_true rfl
theorem aPk:zc aMq=[.v Value.nilFunc]:=ID rfl
theorem bo9{K:TI→Prop}:@tyW Tryz.prog 75 ⟨K⟩=K aMp:=qk bqh
theorem aPi:aMp.kd=Kd.oth:=ID rfl
theorem ayF:aMp.kd.agg=false:=ID rfl
theorem ap0:aMp.size=1:=ID rfl
theorem ajY:aMp.bytes=8:=ID rfl
theorem aPg:qB aMp=True:=eq_true rfl
theorem aPh:zc aMp=[.v Value.nilFunc]:=ID rfl
theorem bo8{K:TI→Prop}:@tyW Tryz.prog 76 ⟨K⟩=K aMo:=qk bqg
theorem aPf:aMo.kd=Kd.oth:=ID rfl
theorem ayE:aMo.kd.agg=false:=ID rfl
theorem apZ:aMo.size=1:=ID rfl
theorem ajX:aMo.bytes=8:=ID rfl
theorem aPd:qB aMo=True:=eq_true rfl
theorem aPe:zc aMo=[.v Value.nilFunc]:=ID rfl
theorem bo7{K:TI→Prop}:@tyW Tryz.prog 77 ⟨K⟩=K aMn:=qk bqf
theorem aPc:aMn.kd=Kd.oth:=ID rfl
theorem ayD:aMn.kd.agg=false:=ID rfl
theorem apY:aMn.size=1:=ID rfl
theorem ajW:aMn.bytes=8:=ID rfl
theorem aPa:qB aMn=True:=eq_true rfl
theorem aPb:zc aMn=[.v Value.nilFunc]:=ID rfl
theorem bo6{K:TI→Prop}:@tyW Tryz.prog 78 ⟨K⟩=K aMm:=qk bqe
theorem aO9:aMm.kd=Kd.oth:=ID rfl
theorem ayC:aMm.kd.agg=false:=ID rfl
theorem apX:aMm.size=1:=ID rfl
theorem ajV:aMm.bytes=8:=ID rfl
theorem aO7:qB aMm=True:=eq_true rfl
theorem aO8:zc aMm=[.v Value.nilFunc]:=ID rfl
theorem bo5{K:TI→Prop}:@tyW Tryz.prog 79 ⟨K⟩=K aMl:=qk bqd
theorem aO6:aMl.kd=Kd.oth:=ID rfl
theorem ayB:aMl.kd.agg=false:=ID rfl
theorem apW:aMl.size=1:=ID rfl
theorem ajU:aMl.bytes=8:=ID rfl
theorem aO4:qB aMl=True:=eq_true rfl
theorem aO5:zc aMl=[.v Value.nilFunc]:=ID rfl
theorem bo4{K:TI→Prop}:@tyW Tryz.prog 80 ⟨K⟩=K aMk:=qk bqc
theorem aO2:aMk.kd=Kd.oth:=ID rfl
theorem ayz:aMk.kd.agg=false:=ID rfl
theorem apU:aMk.size=1:=ID rfl
theorem ajT:aMk.bytes=8:=ID rfl
theorem aO0:qB aMk=True:=eq_true rfl
theorem aO1:zc aMk=[.v Value.nilFunc]:=ID rfl
theorem bo3{K:TI→Prop}:@tyW Tryz.prog 81 ⟨K⟩=K aMj:=qk bqb
theorem aOZ:aMj.kd=Kd.oth:=ID rfl
theorem ayy:aMj.kd.agg=false:=ID rfl
theorem apT:aMj.size=1:=ID rfl
theorem ajS:aMj.bytes=8:=ID rfl
theorem aOX:qB aMj=True:=eq_true rfl
theorem aOY:zc aMj=[.v Value.nilFunc]:=ID rfl
theorem bo2{K:TI→Prop}:@tyW Tryz.prog 82 ⟨K⟩=K aMi:=qk bqa
theorem aOW:aMi.kd=Kd.oth:=ID rfl
theorem ayx:aMi.kd.agg=false:=ID rfl
theorem apS:aMi.size=1:=ID rfl
theorem ajR:aMi.bytes=8:=ID rfl
theorem aOU:qB aMi=True:=eq_true rfl
theorem aOV:zc aMi=[.v Value.nilFunc]:=ID rfl
theorem bo1{K:TI→Prop}:@tyW Tryz.prog 83 ⟨K⟩=K aMh:=qk bp9
theorem aOT:aMh.kd=Kd.oth:=ID rfl
theorem ayw:aMh.kd.agg=false:=ID rfl
theorem apR:aMh.size=1:=ID rfl
theorem ajQ:aMh.bytes=8:=ID rfl
theorem aOR:qB aMh=True:=eq_true rfl
theorem aOS:zc aMh=[.v Value.nilFunc]:=ID rfl
theorem bo0{K:TI→Prop}:@tyW Tryz.prog 84 ⟨K⟩=K aMg:=qk bp8
theorem aOQ:aMg.kd=Kd.oth:=ID rfl
theorem ayv:aMg.kd.agg=false:=ID rfl
theorem apQ:aMg.size=1:=ID rfl
theorem ajP:aMg.bytes=8:=ID rfl
theorem aOO:qB aMg=True:=eq_true rfl
theorem aOP:zc aMg=[.v Value.nilFunc]:=ID rfl
theorem boZ{K:TI→Prop}:@tyW Tryz.prog 85 ⟨K⟩=K aMf:=qk bp7
theorem aON:aMf.kd=Kd.oth:=ID rfl
theorem ayu:aMf.kd.agg=false:=ID rfl
theorem apP:aMf.size=1:=ID rfl
theorem ajO:aMf.bytes=8:=ID rfl
theorem aOL:qB aMf=True:=eq_true rfl
theorem aOM:zc aMf=[.v Value.nilFunc]:=ID rfl
theorem boY{K:TI→Prop}:@tyW Tryz.prog 86 ⟨K⟩=K aMe:=qk bp6
theorem aOK:aMe.kd=Kd.oth:=ID rfl
theorem ayt:aMe.kd.agg=false:=ID rfl
theorem apO:aMe.size=1:=ID rfl
theorem ajN:aMe.bytes=8:=ID rfl
theorem aOI:qB aMe=True:=eq_true rfl
theorem aOJ:zc aMe=[.v Value.nilFunc]:=ID rfl
theorem boX{K:TI→Prop}:@tyW Tryz.prog 87 ⟨K⟩=K aiq:=qk aMU
theorem aOH:aiq.kd=Kd.sli 97:=ID rfl
theorem ays:aiq.kd.agg=false:=ID rfl
theorem apN:aiq.size=1:=ID rfl
theorem ajM:aiq.bytes=24:=ID rfl
theorem aOF:qB aiq=True:=eq_true rfl
theorem aOG:zc aiq=[.v (Value.slice none 0 0)]:=ID rfl
theorem bly{K:TI→Prop}:@Ql Tryz.prog 87 ⟨K⟩=K Ju:=QU aMU rfl V9
theorem boW{K:TI→Prop}:@tyW Tryz.prog 88 ⟨K⟩=K apM:=qk bfy
theorem aOE:apM.kd=Kd.stru [(0,3),(1,87)]:=ID rfl
theorem ayr:apM.kd.agg=true:=ID rfl
theorem apL:apM.size=2:=ID rfl
theorem ajL:apM.bytes=32:=ID rfl
theorem aOC:qB apM=True:=eq_true rfl
theorem aOD:zc apM=[.v (Value.int IntKind.i64 0),.v (Value.slice none 0 0)]:=ID rfl
theorem aUT{K:Nat→TI→Prop}:@qA Tryz.prog 88 0 ⟨K⟩=K 0 ti3:=qp (ti:=apM) (tf:=ti3) (fo:=(0,3)) (fs:=[(0,3),(1,87)]) bfy rfl rfl tf3
theorem aYr{K:Nat→Nat→Prop}:qr Tryz.prog [(0,3),(1,87)] 0 K=K 0 1:=qo (tf:=ti3) (fo:=(0,3)) (fs:=[(0,3),(1,87)]) rfl tf3
theorem aUS{K:Nat→TI→Prop}:@qA Tryz.prog 88 1 ⟨K⟩=K 1 aiq:=qp (ti:=apM) (tf:=aiq) (fo:=(1,87)) (fs:=[(0,3),(1,87)]) bfy rfl rfl aMU
theorem aYq{K:Nat→Nat→Prop}:qr Tryz.prog [(0,3),(1,87)] 1 K=K 1 1:=qo (tf:=aiq) (fo:=(1,87)) (fs:=[(0,3),(1,87)]) rfl aMU
theorem aZU:∀f∈([(0,3),(1,87)]:List (Nat×Nat)),(qs Tryz.prog f.2).isSome=true:=by
 intro f hf
 simp only[List.mem_cons,List.not_mem_nil,or_false]at hf
 rcases hf with rfl|rfl
 ·rw[tf3];rfl
 ·rw[aMU];rfl
theorem bn2{ps:List (Nat×AV)}{K:AV→Prop}:@qX Tryz.prog 88 ps ⟨K⟩=@zg (qr Tryz.prog [(0,3),(1,87)]) (zc apM) ps ⟨fun cs=>K (.ag cs)⟩:=qJ bfy rfl aZU
theorem boV{K:TI→Prop}:@tyW Tryz.prog 89 ⟨K⟩=K apK:=qk bfx
theorem aOB:apK.kd=Kd.stru [(0,3),(1,87)]:=ID rfl
theorem ayq:apK.kd.agg=true:=ID rfl
theorem apJ:apK.size=2:=ID rfl
theorem ajK:apK.bytes=32:=ID rfl
theorem aOz:qB apK=True:=eq_true rfl
theorem aOA:zc apK=[.v (Value.int IntKind.i64 0),.v (Value.slice none 0 0)]:=ID rfl
theorem aUR{K:Nat→TI→Prop}:@qA Tryz.prog 89 0 ⟨K⟩=K 0 ti3:=qp (ti:=apK) (tf:=ti3) (fo:=(0,3)) (fs:=[(0,3),(1,87)]) bfx rfl rfl tf3
theorem aYp{K:Nat→Nat→Prop}:qr Tryz.prog [(0,3),(1,87)] 0 K=K 0 1:=qo (tf:=ti3) (fo:=(0,3)) (fs:=[(0,3),(1,87)]) rfl tf3
theorem aUQ{K:Nat→TI→Prop}:@qA Tryz.prog 89 1 ⟨K⟩=K 1 aiq:=qp (ti:=apK) (tf:=aiq) (fo:=(1,87)) (fs:=[(0,3),(1,87)]) bfx rfl rfl aMU
theorem aYo{K:Nat→Nat→Prop}:qr Tryz.prog [(0,3),(1,87)] 1 K=K 1 1:=qo (tf:=aiq) (fo:=(1,87)) (fs:=[(0,3),(1,87)]) rfl aMU
theorem aZT:∀f∈([(0,3),(1,87)]:List (Nat×Nat)),(qs Tryz.prog f.2).isSome=true:=by
 intro f hf
 simp only[List.mem_cons,List.not_mem_nil,or_false]at hf
 rcases hf with rfl|rfl
 ·rw[tf3];rfl
 ·rw[aMU];rfl
theorem bn1{ps:List (Nat×AV)}{K:AV→Prop}:@qX Tryz.prog 89 ps ⟨K⟩=@zg (qr Tryz.prog [(0,3),(1,87)]) (zc apK) ps ⟨fun cs=>K (.ag cs)⟩:=qJ bfx rfl aZT
theorem boU{K:TI→Prop}:@tyW Tryz.prog 90 ⟨K⟩=K aMd:=qk bp5
theorem aOx:aMd.kd=Kd.oth:=ID rfl
theorem ayo:aMd.kd.agg=false:=ID rfl
theorem apH:aMd.size=1:=ID rfl
theorem ajJ:aMd.bytes=8:=ID rfl
theorem aOv:qB aMd=True:=eq_true rfl
theorem aOw:zc aMd=[.v Value.nilFunc]:=ID rfl
theorem boT{K:TI→Prop}:@tyW Tryz.prog 91 ⟨K⟩=K aMc:=qk bp4
theorem aOu:aMc.kd=Kd.oth:=ID rfl
theorem ayn:aMc.kd.agg=false:=ID rfl
theorem apG:aMc.size=1:=ID rfl
theorem ajI:aMc.bytes=8:=ID rfl
theorem aOs:qB aMc=True:=eq_true rfl
theorem aOt:zc aMc=[.v Value.nilFunc]:=ID rfl
theorem boS{K:TI→Prop}:@tyW Tryz.prog 92 ⟨K⟩=K aMb:=qk bp3
theorem aOr:aMb.kd=Kd.oth:=ID rfl
theorem aym:aMb.kd.agg=false:=ID rfl
theorem apF:aMb.size=1:=ID rfl
theorem ajH:aMb.bytes=8:=ID rfl
theorem aOp:qB aMb=True:=eq_true rfl
theorem aOq:zc aMb=[.v Value.nilFunc]:=ID rfl
theorem boR{K:TI→Prop}:@tyW Tryz.prog 94 ⟨K⟩=K aMa:=qk bp2
theorem aOo:aMa.kd=Kd.oth:=ID rfl
theorem ayl:aMa.kd.agg=false:=ID rfl
theorem apD:aMa.size=1:=ID rfl
theorem ajG:aMa.bytes=8:=ID rfl
theorem aOm:qB aMa=True:=eq_true rfl
theorem aOn:zc aMa=[.v Value.nilFunc]:=ID rfl
theorem boQ{K:TI→Prop}:@tyW Tryz.prog 95 ⟨K⟩=K aL9:=qk bp1
theorem aOl:aL9.kd=Kd.oth:=ID rfl
theorem ayk:aL9.kd.agg=false:=ID rfl
theorem apC:aL9.size=1:=ID rfl
theorem ajF:aL9.bytes=8:=ID rfl
theorem aOj:qB aL9=True:=eq_true rfl
theorem aOk:zc aL9=[.v Value.nilFunc]:=ID rfl
theorem boP{K:TI→Prop}:@tyW Tryz.prog 96 ⟨K⟩=K apc:=qk aXz
theorem aOi:apc.kd=Kd.stru [(0,4),(1,38),(2,3)]:=ID rfl
theorem ayj:apc.kd.agg=true:=ID rfl
theorem apB:apc.size=3:=ID rfl
theorem ajE:apc.bytes=40:=ID rfl
theorem aOg:qB apc=True:=eq_true rfl
theorem aOh:zc apc=[.v (Value.bool false),.v (Value.slice none 0 0),.v (Value.int IntKind.i64 0)]:=ID rfl
theorem aUP{K:Nat→TI→Prop}:@qA Tryz.prog 96 0 ⟨K⟩=K 0 ti4:=qp (ti:=apc) (tf:=ti4) (fo:=(0,4)) (fs:=[(0,4),(1,38),(2,3)]) aXz rfl rfl tf4
theorem aYn{K:Nat→Nat→Prop}:qr Tryz.prog [(0,4),(1,38),(2,3)] 0 K=K 0 1:=qo (tf:=ti4) (fo:=(0,4)) (fs:=[(0,4),(1,38),(2,3)]) rfl tf4
theorem aUO{K:Nat→TI→Prop}:@qA Tryz.prog 96 1 ⟨K⟩=K 1 JU:=qp (ti:=apc) (tf:=JU) (fo:=(1,38)) (fs:=[(0,4),(1,38),(2,3)]) aXz rfl rfl ab7
theorem aYm{K:Nat→Nat→Prop}:qr Tryz.prog [(0,4),(1,38),(2,3)] 1 K=K 1 1:=qo (tf:=JU) (fo:=(1,38)) (fs:=[(0,4),(1,38),(2,3)]) rfl ab7
theorem aUN{K:Nat→TI→Prop}:@qA Tryz.prog 96 2 ⟨K⟩=K 2 ti3:=qp (ti:=apc) (tf:=ti3) (fo:=(2,3)) (fs:=[(0,4),(1,38),(2,3)]) aXz rfl rfl tf3
theorem aYl{K:Nat→Nat→Prop}:qr Tryz.prog [(0,4),(1,38),(2,3)] 2 K=K 2 1:=qo (tf:=ti3) (fo:=(2,3)) (fs:=[(0,4),(1,38),(2,3)]) rfl tf3
theorem aZS:∀f∈([(0,4),(1,38),(2,3)]:List (Nat×Nat)),(qs Tryz.prog f.2).isSome=true:=by
 intro f hf
 simp only[List.mem_cons,List.not_mem_nil,or_false]at hf
 rcases hf with rfl|rfl|rfl
 ·rw[tf4];rfl
 ·rw[ab7];rfl
 ·rw[tf3];rfl
theorem bn0{ps:List (Nat×AV)}{K:AV→Prop}:@qX Tryz.prog 96 ps ⟨K⟩=@zg (qr Tryz.prog [(0,4),(1,38),(2,3)]) (zc apc) ps ⟨fun cs=>K (.ag cs)⟩:=qJ aXz rfl aZS
theorem boO{K:TI→Prop}:@tyW Tryz.prog 97 ⟨K⟩=K Ju:=qk V9
theorem aOf:Ju.kd=Kd.stru [(0,4),(1,38),(2,3)]:=ID rfl
theorem ayi:Ju.kd.agg=true:=ID rfl
theorem apA:Ju.size=3:=ID rfl
theorem ajD:Ju.bytes=40:=ID rfl
theorem aOd:qB Ju=True:=eq_true rfl
theorem aOe:zc Ju=[.v (Value.bool false),.v (Value.slice none 0 0),.v (Value.int IntKind.i64 0)]:=ID rfl
theorem aUM{K:Nat→TI→Prop}:@qA Tryz.prog 97 0 ⟨K⟩=K 0 ti4:=qp (ti:=Ju) (tf:=ti4) (fo:=(0,4)) (fs:=[(0,4),(1,38),(2,3)]) V9 rfl rfl tf4
theorem aYk{K:Nat→Nat→Prop}:qr Tryz.prog [(0,4),(1,38),(2,3)] 0 K=K 0 1:=qo (tf:=ti4) (fo:=(0,4)) (fs:=[(0,4),(1,38),(2,3)]) rfl tf4
theorem aUL{K:Nat→TI→Prop}:@qA Tryz.prog 97 1 ⟨K⟩=K 1 JU:=qp (ti:=Ju) (tf:=JU) (fo:=(1,38)) (fs:=[(0,4),(1,38),(2,3)]) V9 rfl rfl ab7
theorem aYj{K:Nat→Nat→Prop}:qr Tryz.prog [(0,4),(1,38),(2,3)] 1 K=K 1 1:=qo (tf:=JU) (fo:=(1,38)) (fs:=[(0,4),(1,38),(2,3)]) rfl ab7
theorem aUK{K:Nat→TI→Prop}:@qA Tryz.prog 97 2 ⟨K⟩=K 2 ti3:=qp (ti:=Ju) (tf:=ti3) (fo:=(2,3)) (fs:=[(0,4),(1,38),(2,3)]) V9 rfl rfl tf3
theorem aYi{K:Nat→Nat→Prop}:qr Tryz.prog [(0,4),(1,38),(2,3)] 2 K=K 2 1:=qo (tf:=ti3) (fo:=(2,3)) (fs:=[(0,4),(1,38),(2,3)]) rfl tf3
theorem aZR:∀f∈([(0,4),(1,38),(2,3)]:List (Nat×Nat)),(qs Tryz.prog f.2).isSome=true:=by
 intro f hf
 simp only[List.mem_cons,List.not_mem_nil,or_false]at hf
 rcases hf with rfl|rfl|rfl
 ·rw[tf4];rfl
 ·rw[ab7];rfl
 ·rw[tf3];rfl
theorem bnZ{ps:List (Nat×AV)}{K:AV→Prop}:@qX Tryz.prog 97 ps ⟨K⟩=@zg (qr Tryz.prog [(0,4),(1,38),(2,3)]) (zc Ju) ps ⟨fun cs=>K (.ag cs)⟩:=qJ V9 rfl aZR
theorem boN{K:TI→Prop}:@tyW Tryz.prog 98 ⟨K⟩=K aL8:=qk bp0
theorem aOc:aL8.kd=Kd.oth:=ID rfl
theorem ayh:aL8.kd.agg=false:=ID rfl
theorem apz:aL8.size=1:=ID rfl
theorem ajC:aL8.bytes=8:=ID rfl
theorem aOa:qB aL8=True:=eq_true rfl
theorem aOb:zc aL8=[.v Value.nilFunc]:=ID rfl
theorem boM{K:TI→Prop}:@tyW Tryz.prog 99 ⟨K⟩=K aL7:=qk bpZ
theorem aN9:aL7.kd=Kd.oth:=ID rfl
theorem ayg:aL7.kd.agg=false:=ID rfl
theorem apy:aL7.size=1:=ID rfl
theorem ajB:aL7.bytes=8:=ID rfl
theorem aN7:qB aL7=True:=eq_true rfl
theorem aN8:zc aL7=[.v Value.nilFunc]:=ID rfl
theorem biJ{K:TI→Prop}:@tyW Tryz.prog 100 ⟨K⟩=K ab2:=qk blq
theorem aIo:ab2.kd=Kd.oth:=ID rfl
theorem at3:ab2.kd.agg=false:=ID rfl
theorem anQ:ab2.size=1:=ID rfl
theorem agN:ab2.bytes=8:=ID rfl
theorem aIm:qB ab2=True:=eq_true rfl
theorem aIn:zc ab2=[.v Value.nilFunc]:=ID rfl
theorem biI{K:TI→Prop}:@tyW Tryz.prog 101 ⟨K⟩=K ab1:=qk blp
theorem aIl:ab1.kd=Kd.oth:=ID rfl
theorem at2:ab1.kd.agg=false:=ID rfl
theorem anP:ab1.size=1:=ID rfl
theorem agM:ab1.bytes=8:=ID rfl
theorem aIj:qB ab1=True:=eq_true rfl
theorem aIk:zc ab1=[.v Value.nilFunc]:=ID rfl
theorem biH{K:TI→Prop}:@tyW Tryz.prog 102 ⟨K⟩=K ab0:=qk blo
theorem aIi:ab0.kd=Kd.oth:=ID rfl
theorem at1:ab0.kd.agg=false:=ID rfl
theorem anO:ab0.size=1:=ID rfl
theorem agL:ab0.bytes=8:=ID rfl
theorem aIg:qB ab0=True:=eq_true rfl
theorem aIh:zc ab0=[.v Value.nilFunc]:=ID rfl
theorem biG{K:TI→Prop}:@tyW Tryz.prog 103 ⟨K⟩=K abZ:=qk bln
theorem aIf:abZ.kd=Kd.oth:=ID rfl
theorem at0:abZ.kd.agg=false:=ID rfl
theorem anN:abZ.size=1:=ID rfl
theorem agK:abZ.bytes=8:=ID rfl
theorem aId:qB abZ=True:=eq_true rfl
theorem aIe:zc abZ=[.v Value.nilFunc]:=ID rfl
theorem biF{K:TI→Prop}:@tyW Tryz.prog 104 ⟨K⟩=K Zb:=qk ab8
theorem aIc:Zb.kd=Kd.sli 114:=ID rfl
theorem atZ:Zb.kd.agg=false:=ID rfl
theorem anM:Zb.size=1:=ID rfl
theorem agJ:Zb.bytes=24:=ID rfl
theorem aIa:qB Zb=True:=eq_true rfl
theorem aIb:zc Zb=[.v (Value.slice none 0 0)]:=ID rfl
theorem aXU{K:TI→Prop}:@Ql Tryz.prog 104 ⟨K⟩=K Jz:=QU ab8 rfl aua
theorem biE{K:TI→Prop}:@tyW Tryz.prog 105 ⟨K⟩=K J0:=qk aIx
theorem aH9:J0.kd=Kd.stru [(0,3),(1,104)]:=ID rfl
theorem atY:J0.kd.agg=true:=ID rfl
theorem anL:J0.size=2:=ID rfl
theorem agI:J0.bytes=32:=ID rfl
theorem aH7:qB J0=True:=eq_true rfl
theorem aH8:zc J0=[.v (Value.int IntKind.i64 0),.v (Value.slice none 0 0)]:=ID rfl
theorem aKS{K:Nat→TI→Prop}:@qA Tryz.prog 105 0 ⟨K⟩=K 0 ti3:=qp (ti:=J0) (tf:=ti3) (fo:=(0,3)) (fs:=[(0,3),(1,104)]) aIx rfl rfl tf3
theorem aS6{K:Nat→Nat→Prop}:qr Tryz.prog [(0,3),(1,104)] 0 K=K 0 1:=qo (tf:=ti3) (fo:=(0,3)) (fs:=[(0,3),(1,104)]) rfl tf3
theorem aKR{K:Nat→TI→Prop}:@qA Tryz.prog 105 1 ⟨K⟩=K 1 Zb:=qp (ti:=J0) (tf:=Zb) (fo:=(1,104)) (fs:=[(0,3),(1,104)]) aIx rfl rfl ab8
theorem aS5{K:Nat→Nat→Prop}:qr Tryz.prog [(0,3),(1,104)] 1 K=K 1 1:=qo (tf:=Zb) (fo:=(1,104)) (fs:=[(0,3),(1,104)]) rfl ab8
theorem aUE:∀f∈([(0,3),(1,104)]:List (Nat×Nat)),(qs Tryz.prog f.2).isSome=true:=by
 intro f hf
 simp only[List.mem_cons,List.not_mem_nil,or_false]at hf
 rcases hf with rfl|rfl
 ·rw[tf3];rfl
 ·rw[ab8];rfl
theorem be6{ps:List (Nat×AV)}{K:AV→Prop}:@qX Tryz.prog 105 ps ⟨K⟩=@zg (qr Tryz.prog [(0,3),(1,104)]) (zc J0) ps ⟨fun cs=>K (.ag cs)⟩:=qJ aIx rfl aUE
theorem biD{K:TI→Prop}:@tyW Tryz.prog 106 ⟨K⟩=K JZ:=qk aIw
theorem aH6:JZ.kd=Kd.stru [(0,3),(1,104)]:=ID rfl
theorem atX:JZ.kd.agg=true:=ID rfl
theorem anK:JZ.size=2:=ID rfl
theorem agH:JZ.bytes=32:=ID rfl
theorem aH4:qB JZ=True:=eq_true rfl
theorem aH5:zc JZ=[.v (Value.int IntKind.i64 0),.v (Value.slice none 0 0)]:=ID rfl
theorem aKQ{K:Nat→TI→Prop}:@qA Tryz.prog 106 0 ⟨K⟩=K 0 ti3:=qp (ti:=JZ) (tf:=ti3) (fo:=(0,3)) (fs:=[(0,3),(1,104)]) aIw rfl rfl tf3
theorem aS4{K:Nat→Nat→Prop}:qr Tryz.prog [(0,3),(1,104)] 0 K=K 0 1:=qo (tf:=ti3) (fo:=(0,3)) (fs:=[(0,3),(1,104)]) rfl tf3
theorem aKP{K:Nat→TI→Prop}:@qA Tryz.prog 106 1 ⟨K⟩=K 1 Zb:=qp (ti:=JZ) (tf:=Zb) (fo:=(1,104)) (fs:=[(0,3),(1,104)]) aIw rfl rfl ab8
theorem aS3{K:Nat→Nat→Prop}:qr Tryz.prog [(0,3),(1,104)] 1 K=K 1 1:=qo (tf:=Zb) (fo:=(1,104)) (fs:=[(0,3),(1,104)]) rfl ab8
theorem aUD:∀f∈([(0,3),(1,104)]:List (Nat×Nat)),(qs Tryz.prog f.2).isSome=true:=by
 intro f hf
 simp only[List.mem_cons,List.not_mem_nil,or_false]at hf
 rcases hf with rfl|rfl
 ·rw[tf3];rfl
 ·rw[ab8];rfl
theorem be5{ps:List (Nat×AV)}{K:AV→Prop}:@qX Tryz.prog 106 ps ⟨K⟩=@zg (qr Tryz.prog [(0,3),(1,104)]) (zc JZ) ps ⟨fun cs=>K (.ag cs)⟩:=qJ aIw rfl aUD
theorem biC{K:TI→Prop}:@tyW Tryz.prog 107 ⟨K⟩=K abY:=qk blm
theorem aH3:abY.kd=Kd.oth:=ID rfl
theorem atW:abY.kd.agg=false:=ID rfl
theorem anJ:abY.size=1:=ID rfl
theorem agG:abY.bytes=8:=ID rfl
theorem aH1:qB abY=True:=eq_true rfl
theorem aH2:zc abY=[.v Value.nilFunc]:=ID rfl
theorem biB{K:TI→Prop}:@tyW Tryz.prog 108 ⟨K⟩=K abX:=qk bll
theorem aH0:abX.kd=Kd.oth:=ID rfl
theorem atV:abX.kd.agg=false:=ID rfl
theorem anI:abX.size=1:=ID rfl
theorem agF:abX.bytes=8:=ID rfl
theorem aHY:qB abX=True:=eq_true rfl
theorem aHZ:zc abX=[.v Value.nilFunc]:=ID rfl
theorem biA{K:TI→Prop}:@tyW Tryz.prog 109 ⟨K⟩=K abW:=qk blk
theorem aHX:abW.kd=Kd.oth:=ID rfl
theorem atU:abW.kd.agg=false:=ID rfl
theorem anH:abW.size=1:=ID rfl
theorem agE:abW.bytes=8:=ID rfl
theorem aHV:qB abW=True:=eq_true rfl
theorem aHW:zc abW=[.v Value.nilFunc]:=ID rfl
theorem biz{K:TI→Prop}:@tyW Tryz.prog 110 ⟨K⟩=K abV:=qk blj
theorem aHT:abV.kd=Kd.oth:=ID rfl
theorem atS:abV.kd.agg=false:=ID rfl
theorem anF:abV.size=1:=ID rfl
theorem agD:abV.bytes=8:=ID rfl
theorem aHR:qB abV=True:=eq_true rfl
theorem aHS:zc abV=[.v Value.nilFunc]:=ID rfl
theorem biy{K:TI→Prop}:@tyW Tryz.prog 111 ⟨K⟩=K abU:=qk bli
theorem aHQ:abU.kd=Kd.oth:=ID rfl
theorem atR:abU.kd.agg=false:=ID rfl
theorem anE:abU.size=1:=ID rfl
theorem agC:abU.bytes=8:=ID rfl
theorem aHO:qB abU=True:=eq_true rfl
theorem aHP:zc abU=[.v Value.nilFunc]:=ID rfl
theorem bix{K:TI→Prop}:@tyW Tryz.prog 112 ⟨K⟩=K abT:=qk blh
theorem aHN:abT.kd=Kd.oth:=ID rfl
theorem atQ:abT.kd.agg=false:=ID rfl
theorem anD:abT.size=1:=ID rfl
theorem agB:abT.bytes=8:=ID rfl
theorem aHL:qB abT=True:=eq_true rfl
theorem aHM:zc abT=[.v Value.nilFunc]:=ID rfl
theorem biw{K:TI→Prop}:@tyW Tryz.prog 113 ⟨K⟩=K JY:=qk aIv
theorem aHK:JY.kd=Kd.stru [(0,97),(3,97)]:=ID rfl
theorem atP:JY.kd.agg=true:=ID rfl
theorem anC:JY.size=6:=ID rfl
theorem agA:JY.bytes=80:=ID rfl
theorem aHI:qB JY=True:=eq_true rfl
theorem aHJ:zc JY=[.v (Value.bool false),.v (Value.slice none 0 0),.v (Value.int IntKind.i64 0),.v (Value.bool false),.v (Value.slice none 0 0),.v (Value.int IntKind.i64 0)]:=ID rfl
theorem aKO{K:Nat→TI→Prop}:@qA Tryz.prog 113 0 ⟨K⟩=K 0 Ju:=qp (ti:=JY) (tf:=Ju) (fo:=(0,97)) (fs:=[(0,97),(3,97)]) aIv rfl rfl V9
theorem aS2{K:Nat→Nat→Prop}:qr Tryz.prog [(0,97),(3,97)] 0 K=K 0 3:=qo (tf:=Ju) (fo:=(0,97)) (fs:=[(0,97),(3,97)]) rfl V9
theorem aKN{K:Nat→TI→Prop}:@qA Tryz.prog 113 1 ⟨K⟩=K 3 Ju:=qp (ti:=JY) (tf:=Ju) (fo:=(3,97)) (fs:=[(0,97),(3,97)]) aIv rfl rfl V9
theorem aS1{K:Nat→Nat→Prop}:qr Tryz.prog [(0,97),(3,97)] 1 K=K 3 3:=qo (tf:=Ju) (fo:=(3,97)) (fs:=[(0,97),(3,97)]) rfl V9
theorem aUC:∀f∈([(0,97),(3,97)]:List (Nat×Nat)),(qs Tryz.prog f.2).isSome=true:=by
 intro f hf
 simp only[List.mem_cons,List.not_mem_nil,or_false]at hf
 rcases hf with rfl|rfl
 ·rw[V9];rfl
 ·rw[V9];rfl
theorem be4{ps:List (Nat×AV)}{K:AV→Prop}:@qX Tryz.prog 113 ps ⟨K⟩=@zg (qr Tryz.prog [(0,97),(3,97)]) (zc JY) ps ⟨fun cs=>K (.ag cs)⟩:=qJ aIv rfl aUC
theorem biv{K:TI→Prop}:@tyW Tryz.prog 114 ⟨K⟩=K Jz:=qk aua
theorem aHH:Jz.kd=Kd.stru [(0,97),(3,97)]:=ID rfl
theorem atO:Jz.kd.agg=true:=ID rfl
theorem anB:Jz.size=6:=ID rfl
theorem agz:Jz.bytes=80:=ID rfl
theorem aHF:qB Jz=True:=eq_true rfl
theorem aHG:zc Jz=[.v (Value.bool false),.v (Value.slice none 0 0),.v (Value.int IntKind.i64 0),.v (Value.bool false),.v (Value.slice none 0 0),.v (Value.int IntKind.i64 0)]:=ID rfl
theorem aKM{K:Nat→TI→Prop}:@qA Tryz.prog 114 0 ⟨K⟩=K 0 Ju:=qp (ti:=Jz) (tf:=Ju) (fo:=(0,97)) (fs:=[(0,97),(3,97)]) aua rfl rfl V9
theorem aS0{K:Nat→Nat→Prop}:qr Tryz.prog [(0,97),(3,97)] 0 K=K 0 3:=qo (tf:=Ju) (fo:=(0,97)) (fs:=[(0,97),(3,97)]) rfl V9
theorem aKL{K:Nat→TI→Prop}:@qA Tryz.prog 114 1 ⟨K⟩=K 3 Ju:=qp (ti:=Jz) (tf:=Ju) (fo:=(3,97)) (fs:=[(0,97),(3,97)]) aua rfl rfl V9
theorem aSZ{K:Nat→Nat→Prop}:qr Tryz.prog [(0,97),(3,97)] 1 K=K 3 3:=qo (tf:=Ju) (fo:=(3,97)) (fs:=[(0,97),(3,97)]) rfl V9
theorem aUB:∀f∈([(0,97),(3,97)]:List (Nat×Nat)),(qs Tryz.prog f.2).isSome=true:=by
 intro f hf
 simp only[List.mem_cons,List.not_mem_nil,or_false]at hf
 rcases hf with rfl|rfl
 ·rw[V9];rfl
 ·rw[V9];rfl
theorem be3{ps:List (Nat×AV)}{K:AV→Prop}:@qX Tryz.prog 114 ps ⟨K⟩=@zg (qr Tryz.prog [(0,97),(3,97)]) (zc Jz) ps ⟨fun cs=>K (.ag cs)⟩:=qJ aua rfl aUB
theorem biu{K:TI→Prop}:@tyW Tryz.prog 115 ⟨K⟩=K abS:=qk blg
theorem aHE:abS.kd=Kd.oth:=ID rfl
theorem atN:abS.kd.agg=false:=ID rfl
theorem anA:abS.size=1:=ID rfl
theorem agy:abS.bytes=8:=ID rfl
theorem aHC:qB abS=True:=eq_true rfl
theorem aHD:zc abS=[.v Value.nilFunc]:=ID rfl
theorem bit{K:TI→Prop}:@tyW Tryz.prog 116 ⟨K⟩=K abR:=qk blf
theorem aHB:abR.kd=Kd.oth:=ID rfl
theorem atM:abR.kd.agg=false:=ID rfl
theorem anz:abR.size=1:=ID rfl
theorem agx:abR.bytes=8:=ID rfl
theorem aHz:qB abR=True:=eq_true rfl
theorem aHA:zc abR=[.v Value.nilFunc]:=ID rfl
theorem bis{K:TI→Prop}:@tyW Tryz.prog 117 ⟨K⟩=K abQ:=qk bld
theorem aHy:abQ.kd=Kd.oth:=ID rfl
theorem atL:abQ.kd.agg=false:=ID rfl
theorem anx:abQ.size=1:=ID rfl
theorem agw:abQ.bytes=8:=ID rfl
theorem aHw:qB abQ=True:=eq_true rfl
theorem aHx:zc abQ=[.v Value.nilFunc]:=ID rfl
theorem bir{K:TI→Prop}:@tyW Tryz.prog 118 ⟨K⟩=K abP:=qk blc
theorem aHv:abP.kd=Kd.oth:=ID rfl
theorem atK:abP.kd.agg=false:=ID rfl
theorem anw:abP.size=1:=ID rfl
theorem agv:abP.bytes=8:=ID rfl
theorem aHt:qB abP=True:=eq_true rfl
theorem aHu:zc abP=[.v Value.nilFunc]:=ID rfl
theorem biq{K:TI→Prop}:@tyW Tryz.prog 119 ⟨K⟩=K abO:=qk blb
theorem aHs:abO.kd=Kd.oth:=ID rfl
theorem atJ:abO.kd.agg=false:=ID rfl
theorem anv:abO.size=1:=ID rfl
theorem agu:abO.bytes=8:=ID rfl
theorem aHq:qB abO=True:=eq_true rfl
theorem aHr:zc abO=[.v Value.nilFunc]:=ID rfl
theorem bip{K:TI→Prop}:@tyW Tryz.prog 120 ⟨K⟩=K abN:=qk bla
theorem aHo:abN.kd=Kd.oth:=ID rfl
theorem atH:abN.kd.agg=false:=ID rfl
theorem ant:abN.size=1:=ID rfl
theorem agt:abN.bytes=8:=ID rfl
theorem aHm:qB abN=True:=eq_true rfl
theorem aHn:zc abN=[.v Value.nilFunc]:=ID rfl
theorem bio{K:TI→Prop}:@tyW Tryz.prog 121 ⟨K⟩=K abM:=qk bk9
theorem aHl:abM.kd=Kd.oth:=ID rfl
theorem atG:abM.kd.agg=false:=ID rfl
theorem ans:abM.size=1:=ID rfl
theorem ags:abM.bytes=8:=ID rfl
theorem aHj:qB abM=True:=eq_true rfl
theorem aHk:zc abM=[.v Value.nilFunc]:=ID rfl
theorem bin{K:TI→Prop}:@tyW Tryz.prog 122 ⟨K⟩=K abL:=qk aXC
theorem aHi:abL.kd=Kd.sli 23:=ID rfl
theorem atF:abL.kd.agg=false:=ID rfl
theorem anr:abL.size=1:=ID rfl
theorem agr:abL.bytes=24:=ID rfl
theorem aHg:qB abL=True:=eq_true rfl
theorem aHh:zc abL=[.v (Value.slice none 0 0)]:=ID rfl
theorem aXT{K:TI→Prop}:@Ql Tryz.prog 122 ⟨K⟩=K aeU:=QU aXC rfl aIr
theorem bim{K:TI→Prop}:@tyW Tryz.prog 124 ⟨K⟩=K abK:=qk bk8
theorem aHf:abK.kd=Kd.oth:=ID rfl
theorem atE:abK.kd.agg=false:=ID rfl
theorem anq:abK.size=1:=ID rfl
theorem agq:abK.bytes=8:=ID rfl
theorem aHd:qB abK=True:=eq_true rfl
theorem aHe:zc abK=[.v Value.nilFunc]:=ID rfl
theorem bil{K:TI→Prop}:@tyW Tryz.prog 126 ⟨K⟩=K abJ:=qk bk7
theorem aHc:abJ.kd=Kd.oth:=ID rfl
theorem atD:abJ.kd.agg=false:=ID rfl
theorem anp:abJ.size=1:=ID rfl
theorem agp:abJ.bytes=8:=ID rfl
theorem aHa:qB abJ=True:=eq_true rfl
theorem aHb:zc abJ=[.v Value.nilFunc]:=ID rfl
theorem bik{K:TI→Prop}:@tyW Tryz.prog 128 ⟨K⟩=K abI:=qk bk6
theorem aG9:abI.kd=Kd.oth:=ID rfl
theorem atC:abI.kd.agg=false:=ID rfl
theorem ano:abI.size=1:=ID rfl
theorem ago:abI.bytes=8:=ID rfl
theorem aG7:qB abI=True:=eq_true rfl
theorem aG8:zc abI=[.v Value.nilFunc]:=ID rfl
theorem bij{K:TI→Prop}:@tyW Tryz.prog 130 ⟨K⟩=K abH:=qk bk5
theorem aG5:abH.kd=Kd.oth:=ID rfl
theorem atA:abH.kd.agg=false:=ID rfl
theorem anm:abH.size=1:=ID rfl
theorem agn:abH.bytes=8:=ID rfl
theorem aG3:qB abH=True:=eq_true rfl
theorem aG4:zc abH=[.v Value.nilFunc]:=ID rfl
theorem bii{K:TI→Prop}:@tyW Tryz.prog 131 ⟨K⟩=K abG:=qk bk4
theorem aG2:abG.kd=Kd.oth:=ID rfl
theorem atz:abG.kd.agg=false:=ID rfl
theorem anl:abG.size=1:=ID rfl
theorem agm:abG.bytes=8:=ID rfl
theorem aG0:qB abG=True:=eq_true rfl
theorem aG1:zc abG=[.v Value.nilFunc]:=ID rfl
theorem bih{K:TI→Prop}:@tyW Tryz.prog 132 ⟨K⟩=K abF:=qk bk3
theorem aGZ:abF.kd=Kd.oth:=ID rfl
theorem aty:abF.kd.agg=false:=ID rfl
theorem ank:abF.size=1:=ID rfl
theorem agl:abF.bytes=8:=ID rfl
theorem aGX:qB abF=True:=eq_true rfl
theorem aGY:zc abF=[.v Value.nilFunc]:=ID rfl
theorem big{K:TI→Prop}:@tyW Tryz.prog 133 ⟨K⟩=K QQ:=qk XZ
theorem aGW:QQ.kd=Kd.stru [(0,38)]:=ID rfl
theorem atx:QQ.kd.agg=true:=ID rfl
theorem anj:QQ.size=1:=ID rfl
theorem agk:QQ.bytes=24:=ID rfl
theorem aGU:qB QQ=True:=eq_true rfl
theorem aGV:zc QQ=[.v (Value.slice none 0 0)]:=ID rfl
theorem aKK{K:Nat→TI→Prop}:@qA Tryz.prog 133 0 ⟨K⟩=K 0 JU:=qp (ti:=QQ) (tf:=JU) (fo:=(0,38)) (fs:=[(0,38)]) XZ rfl rfl ab7
theorem aSY{K:Nat→Nat→Prop}:qr Tryz.prog [(0,38)] 0 K=K 0 1:=qo (tf:=JU) (fo:=(0,38)) (fs:=[(0,38)]) rfl ab7
theorem aUA:∀f∈([(0,38)]:List (Nat×Nat)),(qs Tryz.prog f.2).isSome=true:=by
 intro f hf
 simp only[List.mem_cons,List.not_mem_nil,or_false]at hf
 subst hf;rw[ab7];rfl
theorem be2{ps:List (Nat×AV)}{K:AV→Prop}:@qX Tryz.prog 133 ps ⟨K⟩=@zg (qr Tryz.prog [(0,38)]) (zc QQ) ps ⟨fun cs=>K (.ag cs)⟩:=qJ XZ rfl aUA
theorem bie{K:TI→Prop}:@tyW Tryz.prog 134 ⟨K⟩=K JX:=qk aIu
theorem aGT:JX.kd=Kd.stru [(0,4),(1,133)]:=ID rfl
theorem atw:JX.kd.agg=true:=ID rfl
theorem ani:JX.size=2:=ID rfl
theorem agj:JX.bytes=32:=ID rfl
theorem aGR:qB JX=True:=eq_true rfl
theorem aGS:zc JX=[.v (Value.bool false),.v (Value.slice none 0 0)]:=ID rfl
theorem aKJ{K:Nat→TI→Prop}:@qA Tryz.prog 134 0 ⟨K⟩=K 0 ti4:=qp (ti:=JX) (tf:=ti4) (fo:=(0,4)) (fs:=[(0,4),(1,133)]) aIu rfl rfl tf4
theorem aSX{K:Nat→Nat→Prop}:qr Tryz.prog [(0,4),(1,133)] 0 K=K 0 1:=qo (tf:=ti4) (fo:=(0,4)) (fs:=[(0,4),(1,133)]) rfl tf4
theorem aKI{K:Nat→TI→Prop}:@qA Tryz.prog 134 1 ⟨K⟩=K 1 QQ:=qp (ti:=JX) (tf:=QQ) (fo:=(1,133)) (fs:=[(0,4),(1,133)]) aIu rfl rfl XZ
theorem aSW{K:Nat→Nat→Prop}:qr Tryz.prog [(0,4),(1,133)] 1 K=K 1 1:=qo (tf:=QQ) (fo:=(1,133)) (fs:=[(0,4),(1,133)]) rfl XZ
theorem aUz:∀f∈([(0,4),(1,133)]:List (Nat×Nat)),(qs Tryz.prog f.2).isSome=true:=by
 intro f hf
 simp only[List.mem_cons,List.not_mem_nil,or_false]at hf
 rcases hf with rfl|rfl
 ·rw[tf4];rfl
 ·rw[XZ];rfl
theorem be1{ps:List (Nat×AV)}{K:AV→Prop}:@qX Tryz.prog 134 ps ⟨K⟩=@zg (qr Tryz.prog [(0,4),(1,133)]) (zc JX) ps ⟨fun cs=>K (.ag cs)⟩:=qJ aIu rfl aUz
theorem bid{K:TI→Prop}:@tyW Tryz.prog 135 ⟨K⟩=K Qh:=qk Y8
theorem aGQ:Qh.kd=Kd.stru [(0,4),(1,133)]:=ID rfl
theorem atv:Qh.kd.agg=true:=ID rfl
theorem anh:Qh.size=2:=ID rfl
theorem agi:Qh.bytes=32:=ID rfl
theorem aGO:qB Qh=True:=eq_true rfl
theorem aGP:zc Qh=[.v (Value.bool false),.v (Value.slice none 0 0)]:=ID rfl
theorem aKH{K:Nat→TI→Prop}:@qA Tryz.prog 135 0 ⟨K⟩=K 0 ti4:=qp (ti:=Qh) (tf:=ti4) (fo:=(0,4)) (fs:=[(0,4),(1,133)]) Y8 rfl rfl tf4
theorem aSV{K:Nat→Nat→Prop}:qr Tryz.prog [(0,4),(1,133)] 0 K=K 0 1:=qo (tf:=ti4) (fo:=(0,4)) (fs:=[(0,4),(1,133)]) rfl tf4
theorem aKG{K:Nat→TI→Prop}:@qA Tryz.prog 135 1 ⟨K⟩=K 1 QQ:=qp (ti:=Qh) (tf:=QQ) (fo:=(1,133)) (fs:=[(0,4),(1,133)]) Y8 rfl rfl XZ
theorem aSU{K:Nat→Nat→Prop}:qr Tryz.prog [(0,4),(1,133)] 1 K=K 1 1:=qo (tf:=QQ) (fo:=(1,133)) (fs:=[(0,4),(1,133)]) rfl XZ
theorem aUy:∀f∈([(0,4),(1,133)]:List (Nat×Nat)),(qs Tryz.prog f.2).isSome=true:=by
 intro f hf
 simp only[List.mem_cons,List.not_mem_nil,or_false]at hf
 rcases hf with rfl|rfl
 ·rw[tf4];rfl
 ·rw[XZ];rfl
theorem be0{ps:List (Nat×AV)}{K:AV→Prop}:@qX Tryz.prog 135 ps ⟨K⟩=@zg (qr Tryz.prog [(0,4),(1,133)]) (zc Qh) ps ⟨fun cs=>K (.ag cs)⟩:=qJ Y8 rfl aUy
theorem bic{K:TI→Prop}:@tyW Tryz.prog 136 ⟨K⟩=K JW:=qk aIt
theorem aGN:JW.kd=Kd.stru [(0,135),(2,3)]:=ID rfl
theorem atu:JW.kd.agg=true:=ID rfl
theorem ang:JW.size=3:=ID rfl
theorem agh:JW.bytes=40:=ID rfl
theorem aGL:qB JW=True:=eq_true rfl
theorem aGM:zc JW=[.v (Value.bool false),.v (Value.slice none 0 0),.v (Value.int IntKind.i64 0)]:=ID rfl
theorem aKF{K:Nat→TI→Prop}:@qA Tryz.prog 136 0 ⟨K⟩=K 0 Qh:=qp (ti:=JW) (tf:=Qh) (fo:=(0,135)) (fs:=[(0,135),(2,3)]) aIt rfl rfl Y8
theorem aST{K:Nat→Nat→Prop}:qr Tryz.prog [(0,135),(2,3)] 0 K=K 0 2:=qo (tf:=Qh) (fo:=(0,135)) (fs:=[(0,135),(2,3)]) rfl Y8
theorem aKE{K:Nat→TI→Prop}:@qA Tryz.prog 136 1 ⟨K⟩=K 2 ti3:=qp (ti:=JW) (tf:=ti3) (fo:=(2,3)) (fs:=[(0,135),(2,3)]) aIt rfl rfl tf3
theorem aSS{K:Nat→Nat→Prop}:qr Tryz.prog [(0,135),(2,3)] 1 K=K 2 1:=qo (tf:=ti3) (fo:=(2,3)) (fs:=[(0,135),(2,3)]) rfl tf3
theorem aUx:∀f∈([(0,135),(2,3)]:List (Nat×Nat)),(qs Tryz.prog f.2).isSome=true:=by
 intro f hf
 simp only[List.mem_cons,List.not_mem_nil,or_false]at hf
 rcases hf with rfl|rfl
 ·rw[Y8];rfl
 ·rw[tf3];rfl
theorem beZ{ps:List (Nat×AV)}{K:AV→Prop}:@qX Tryz.prog 136 ps ⟨K⟩=@zg (qr Tryz.prog [(0,135),(2,3)]) (zc JW) ps ⟨fun cs=>K (.ag cs)⟩:=qJ aIt rfl aUx
theorem bib{K:TI→Prop}:@tyW Tryz.prog 137 ⟨K⟩=K Jy:=qk at9
theorem aGK:Jy.kd=Kd.stru [(0,135),(2,3)]:=ID rfl
theorem att:Jy.kd.agg=true:=ID rfl
theorem anf:Jy.size=3:=ID rfl
theorem agf:Jy.bytes=40:=ID rfl
theorem aGI:qB Jy=True:=eq_true rfl
theorem aGJ:zc Jy=[.v (Value.bool false),.v (Value.slice none 0 0),.v (Value.int IntKind.i64 0)]:=ID rfl
theorem aKD{K:Nat→TI→Prop}:@qA Tryz.prog 137 0 ⟨K⟩=K 0 Qh:=qp (ti:=Jy) (tf:=Qh) (fo:=(0,135)) (fs:=[(0,135),(2,3)]) at9 rfl rfl Y8
theorem aSR{K:Nat→Nat→Prop}:qr Tryz.prog [(0,135),(2,3)] 0 K=K 0 2:=qo (tf:=Qh) (fo:=(0,135)) (fs:=[(0,135),(2,3)]) rfl Y8
theorem aKC{K:Nat→TI→Prop}:@qA Tryz.prog 137 1 ⟨K⟩=K 2 ti3:=qp (ti:=Jy) (tf:=ti3) (fo:=(2,3)) (fs:=[(0,135),(2,3)]) at9 rfl rfl tf3
theorem aSQ{K:Nat→Nat→Prop}:qr Tryz.prog [(0,135),(2,3)] 1 K=K 2 1:=qo (tf:=ti3) (fo:=(2,3)) (fs:=[(0,135),(2,3)]) rfl tf3
theorem aUw:∀f∈([(0,135),(2,3)]:List (Nat×Nat)),(qs Tryz.prog f.2).isSome=true:=by
 intro f hf
 simp only[List.mem_cons,List.not_mem_nil,or_false]at hf
 rcases hf with rfl|rfl
 ·rw[Y8];rfl
 ·rw[tf3];rfl
theorem beY{ps:List (Nat×AV)}{K:AV→Prop}:@qX Tryz.prog 137 ps ⟨K⟩=@zg (qr Tryz.prog [(0,135),(2,3)]) (zc Jy) ps ⟨fun cs=>K (.ag cs)⟩:=qJ at9 rfl aUw
theorem bia{K:TI→Prop}:@tyW Tryz.prog 138 ⟨K⟩=K abE:=qk bk2
theorem aGH:abE.kd=Kd.oth:=ID rfl
theorem ats:abE.kd.agg=false:=ID rfl
theorem ane:abE.size=1:=ID rfl
theorem age:abE.bytes=8:=ID rfl
theorem aGF:qB abE=True:=eq_true rfl
theorem aGG:zc abE=[.v Value.nilFunc]:=ID rfl
theorem bh9{K:TI→Prop}:@tyW Tryz.prog 139 ⟨K⟩=K abD:=qk bk1
theorem aGE:abD.kd=Kd.oth:=ID rfl
theorem atr:abD.kd.agg=false:=ID rfl
theorem anc:abD.size=1:=ID rfl
theorem agd:abD.bytes=8:=ID rfl
theorem aGC:qB abD=True:=eq_true rfl
theorem aGD:zc abD=[.v Value.nilFunc]:=ID rfl
theorem bh8{K:TI→Prop}:@tyW Tryz.prog 140 ⟨K⟩=K abC:=qk bk0
theorem aGB:abC.kd=Kd.oth:=ID rfl
theorem atq:abC.kd.agg=false:=ID rfl
theorem anb:abC.size=1:=ID rfl
theorem agc:abC.bytes=8:=ID rfl
theorem aGz:qB abC=True:=eq_true rfl
theorem aGA:zc abC=[.v Value.nilFunc]:=ID rfl
theorem bh7{K:TI→Prop}:@tyW Tryz.prog 141 ⟨K⟩=K abB:=qk bkZ
theorem aGy:abB.kd=Kd.oth:=ID rfl
theorem atp:abB.kd.agg=false:=ID rfl
theorem ana:abB.size=1:=ID rfl
theorem agb:abB.bytes=8:=ID rfl
theorem aGw:qB abB=True:=eq_true rfl
theorem aGx:zc abB=[.v Value.nilFunc]:=ID rfl
theorem bh6{K:TI→Prop}:@tyW Tryz.prog 142 ⟨K⟩=K abA:=qk bkY
theorem aGv:abA.kd=Kd.oth:=ID rfl
theorem ato:abA.kd.agg=false:=ID rfl
theorem am9:abA.size=1:=ID rfl
theorem aga:abA.bytes=8:=ID rfl
theorem aGt:qB abA=True:=eq_true rfl
theorem aGu:zc abA=[.v Value.nilFunc]:=ID rfl
theorem bh5{K:TI→Prop}:@tyW Tryz.prog 143 ⟨K⟩=K abz:=qk bkX
theorem aGs:abz.kd=Kd.oth:=ID rfl
theorem atn:abz.kd.agg=false:=ID rfl
theorem am8:abz.size=1:=ID rfl
theorem af9:abz.bytes=8:=ID rfl
theorem aGq:qB abz=True:=eq_true rfl
theorem aGr:zc abz=[.v Value.nilFunc]:=ID rfl
theorem bh4{K:TI→Prop}:@tyW Tryz.prog 144 ⟨K⟩=K aby:=qk bkW
theorem aGp:aby.kd=Kd.oth:=ID rfl
theorem atm:aby.kd.agg=false:=ID rfl
theorem am7:aby.size=1:=ID rfl
theorem af8:aby.bytes=8:=ID rfl
theorem aGn:qB aby=True:=eq_true rfl
theorem aGo:zc aby=[.v Value.nilFunc]:=ID rfl
theorem bh3{K:TI→Prop}:@tyW Tryz.prog 145 ⟨K⟩=K abx:=qk bkV
theorem aGm:abx.kd=Kd.oth:=ID rfl
theorem atl:abx.kd.agg=false:=ID rfl
theorem am6:abx.size=1:=ID rfl
theorem af7:abx.bytes=8:=ID rfl
theorem aGk:qB abx=True:=eq_true rfl
theorem aGl:zc abx=[.v Value.nilFunc]:=ID rfl
theorem bh2{K:TI→Prop}:@tyW Tryz.prog 146 ⟨K⟩=K abw:=qk bkU
theorem aGj:abw.kd=Kd.oth:=ID rfl
theorem atk:abw.kd.agg=false:=ID rfl
theorem am5:abw.size=1:=ID rfl
theorem af6:abw.bytes=8:=ID rfl
theorem aGh:qB abw=True:=eq_true rfl
theorem aGi:zc abw=[.v Value.nilFunc]:=ID rfl
theorem bh1{K:TI→Prop}:@tyW Tryz.prog 147 ⟨K⟩=K abv:=qk bkT
theorem aGg:abv.kd=Kd.oth:=ID rfl
theorem atj:abv.kd.agg=false:=ID rfl
theorem am4:abv.size=1:=ID rfl
theorem af5:abv.bytes=8:=ID rfl
theorem aGe:qB abv=True:=eq_true rfl
theorem aGf:zc abv=[.v Value.nilFunc]:=ID rfl
theorem bh0{K:TI→Prop}:@tyW Tryz.prog 148 ⟨K⟩=K abu:=qk bkS
theorem aGd:abu.kd=Kd.oth:=ID rfl
theorem ati:abu.kd.agg=false:=ID rfl
theorem am3:abu.size=1:=ID rfl
theorem af4:abu.bytes=8:=ID rfl
theorem aGb:qB abu=True:=eq_true rfl
theorem aGc:zc abu=[.v Value.nilFunc]:=ID rfl
theorem bhZ{K:TI→Prop}:@tyW Tryz.prog 149 ⟨K⟩=K abt:=qk bkR
theorem aGa:abt.kd=Kd.oth:=ID rfl
theorem ath:abt.kd.agg=false:=ID rfl
theorem am2:abt.size=1:=ID rfl
theorem af3:abt.bytes=8:=ID rfl
theorem aF8:qB abt=True:=eq_true rfl
theorem aF9:zc abt=[.v Value.nilFunc]:=ID rfl
theorem bhY{K:TI→Prop}:@tyW Tryz.prog 150 ⟨K⟩=K abr:=qk bkQ
theorem aF7:abr.kd=Kd.oth:=ID rfl
theorem atg:abr.kd.agg=false:=ID rfl
theorem am1:abr.size=1:=ID rfl
theorem af2:abr.bytes=8:=ID rfl
theorem aF5:qB abr=True:=eq_true rfl
theorem aF6:zc abr=[.v Value.nilFunc]:=ID rfl
theorem bhX{K:TI→Prop}:@tyW Tryz.prog 151 ⟨K⟩=K abq:=qk bkP
theorem aF4:abq.kd=Kd.oth:=ID rfl
theorem atf:abq.kd.agg=false:=ID rfl
theorem am0:abq.size=1:=ID rfl
theorem af1:abq.bytes=8:=ID rfl
theorem aF2:qB abq=True:=eq_true rfl
theorem aF3:zc abq=[.v Value.nilFunc]:=ID rfl
theorem bhW{K:TI→Prop}:@tyW Tryz.prog 152 ⟨K⟩=K abp:=qk bkO
theorem aF1:abp.kd=Kd.oth:=ID rfl
theorem ate:abp.kd.agg=false:=ID rfl
theorem amZ:abp.size=1:=ID rfl
theorem af0:abp.bytes=8:=ID rfl
theorem aFZ:qB abp=True:=eq_true rfl
theorem aF0:zc abp=[.v Value.nilFunc]:=ID rfl
theorem bhV{K:TI→Prop}:@tyW Tryz.prog 153 ⟨K⟩=K abo:=qk bkN
theorem aFY:abo.kd=Kd.oth:=ID rfl
theorem atd:abo.kd.agg=false:=ID rfl
theorem amY:abo.size=1:=ID rfl
theorem afZ:abo.bytes=8:=ID rfl
theorem aFW:qB abo=True:=eq_true rfl
theorem aFX:zc abo=[.v Value.nilFunc]:=ID rfl
theorem bhU{K:TI→Prop}:@tyW Tryz.prog 155 ⟨K⟩=K abn:=qk bkM
theorem aFV:abn.kd=Kd.oth:=ID rfl
theorem atc:abn.kd.agg=false:=ID rfl
theorem amX:abn.size=1:=ID rfl
theorem afY:abn.bytes=8:=ID rfl
theorem aFT:qB abn=True:=eq_true rfl
theorem aFU:zc abn=[.v Value.nilFunc]:=ID rfl
theorem bhT{K:TI→Prop}:@tyW Tryz.prog 156 ⟨K⟩=K abm:=qk bkL
theorem aFS:abm.kd=Kd.oth:=ID rfl
theorem atb:abm.kd.agg=false:=ID rfl
theorem amW:abm.size=1:=ID rfl
theorem afX:abm.bytes=8:=ID rfl
theorem aFQ:qB abm=True:=eq_true rfl
theorem aFR:zc abm=[.v Value.nilFunc]:=ID rfl
theorem bhS{K:TI→Prop}:@tyW Tryz.prog 158 ⟨K⟩=K abl:=qk bkK
theorem aFP:abl.kd=Kd.oth:=ID rfl
theorem ata:abl.kd.agg=false:=ID rfl
theorem amV:abl.size=1:=ID rfl
theorem afW:abl.bytes=8:=ID rfl
theorem aFN:qB abl=True:=eq_true rfl
theorem aFO:zc abl=[.v Value.nilFunc]:=ID rfl
theorem bhR{K:TI→Prop}:@tyW Tryz.prog 159 ⟨K⟩=K abk:=qk bkJ
theorem aFM:abk.kd=Kd.oth:=ID rfl
theorem as9:abk.kd.agg=false:=ID rfl
theorem amU:abk.size=1:=ID rfl
theorem afV:abk.bytes=8:=ID rfl
theorem aFK:qB abk=True:=eq_true rfl
theorem aFL:zc abk=[.v Value.nilFunc]:=ID rfl
theorem bhQ{K:TI→Prop}:@tyW Tryz.prog 160 ⟨K⟩=K abj:=qk bkI
theorem aFJ:abj.kd=Kd.oth:=ID rfl
theorem as8:abj.kd.agg=false:=ID rfl
theorem amT:abj.size=1:=ID rfl
theorem afU:abj.bytes=8:=ID rfl
theorem aFH:qB abj=True:=eq_true rfl
theorem aFI:zc abj=[.v Value.nilFunc]:=ID rfl
theorem bhP{K:TI→Prop}:@tyW Tryz.prog 161 ⟨K⟩=K abi:=qk bkH
theorem aFG:abi.kd=Kd.oth:=ID rfl
theorem as7:abi.kd.agg=false:=ID rfl
theorem amS:abi.size=1:=ID rfl
theorem afT:abi.bytes=8:=ID rfl
theorem aFE:qB abi=True:=eq_true rfl
theorem aFF:zc abi=[.v Value.nilFunc]:=ID rfl
theorem bhO{K:TI→Prop}:@tyW Tryz.prog 162 ⟨K⟩=K abh:=qk bkG
theorem aFD:abh.kd=Kd.oth:=ID rfl
theorem as6:abh.kd.agg=false:=ID rfl
theorem amR:abh.size=1:=ID rfl
theorem afS:abh.bytes=8:=ID rfl
theorem aFB:qB abh=True:=eq_true rfl
theorem aFC:zc abh=[.v Value.nilFunc]:=ID rfl
theorem bhN{K:TI→Prop}:@tyW Tryz.prog 163 ⟨K⟩=K abg:=qk bkF
theorem aFA:abg.kd=Kd.oth:=ID rfl
theorem as5:abg.kd.agg=false:=ID rfl
theorem amQ:abg.size=1:=ID rfl
theorem afR:abg.bytes=8:=ID rfl
theorem aFy:qB abg=True:=eq_true rfl
theorem aFz:zc abg=[.v Value.nilFunc]:=ID rfl
theorem bhM{K:TI→Prop}:@tyW Tryz.prog 164 ⟨K⟩=K abf:=qk bkE
theorem aFx:abf.kd=Kd.oth:=ID rfl
theorem as4:abf.kd.agg=false:=ID rfl
theorem amP:abf.size=1:=ID rfl
theorem afQ:abf.bytes=8:=ID rfl
theorem aFv:qB abf=True:=eq_true rfl
theorem aFw:zc abf=[.v Value.nilFunc]:=ID rfl
theorem bhL{K:TI→Prop}:@tyW Tryz.prog 165 ⟨K⟩=K abe:=qk bkD
theorem aFu:abe.kd=Kd.oth:=ID rfl
theorem as3:abe.kd.agg=false:=ID rfl
theorem amO:abe.size=1:=ID rfl
theorem afP:abe.bytes=8:=ID rfl
theorem aFs:qB abe=True:=eq_true rfl
theorem aFt:zc abe=[.v Value.nilFunc]:=ID rfl
theorem bhK{K:TI→Prop}:@tyW Tryz.prog 166 ⟨K⟩=K JV:=qk aIs
theorem aFr:JV.kd=Kd.stru [(0,44),(3,44)]:=ID rfl
theorem as2:JV.kd.agg=true:=ID rfl
theorem amN:JV.size=6:=ID rfl
theorem afO:JV.bytes=80:=ID rfl
theorem aFp:qB JV=True:=eq_true rfl
theorem aFq:zc JV=[.v (Value.bool false),.v (Value.slice none 0 0),.v (Value.int IntKind.i64 0),.v (Value.bool false),.v (Value.slice none 0 0),.v (Value.int IntKind.i64 0)]:=ID rfl
theorem aKB{K:Nat→TI→Prop}:@qA Tryz.prog 166 0 ⟨K⟩=K 0 JH:=qp (ti:=JV) (tf:=JH) (fo:=(0,44)) (fs:=[(0,44),(3,44)]) aIs rfl rfl ab6
theorem aSP{K:Nat→Nat→Prop}:qr Tryz.prog [(0,44),(3,44)] 0 K=K 0 3:=qo (tf:=JH) (fo:=(0,44)) (fs:=[(0,44),(3,44)]) rfl ab6
theorem aKA{K:Nat→TI→Prop}:@qA Tryz.prog 166 1 ⟨K⟩=K 3 JH:=qp (ti:=JV) (tf:=JH) (fo:=(3,44)) (fs:=[(0,44),(3,44)]) aIs rfl rfl ab6
theorem aSO{K:Nat→Nat→Prop}:qr Tryz.prog [(0,44),(3,44)] 1 K=K 3 3:=qo (tf:=JH) (fo:=(3,44)) (fs:=[(0,44),(3,44)]) rfl ab6
theorem aUv:∀f∈([(0,44),(3,44)]:List (Nat×Nat)),(qs Tryz.prog f.2).isSome=true:=by
 intro f hf
 simp only[List.mem_cons,List.not_mem_nil,or_false]at hf
 rcases hf with rfl|rfl
 ·rw[ab6];rfl
 ·rw[ab6];rfl
theorem beX{ps:List (Nat×AV)}{K:AV→Prop}:@qX Tryz.prog 166 ps ⟨K⟩=@zg (qr Tryz.prog [(0,44),(3,44)]) (zc JV) ps ⟨fun cs=>K (.ag cs)⟩:=qJ aIs rfl aUv
theorem bhJ{K:TI→Prop}:@tyW Tryz.prog 167 ⟨K⟩=K Jx:=qk at8
theorem aFo:Jx.kd=Kd.stru [(0,44),(3,44)]:=ID rfl
theorem as1:Jx.kd.agg=true:=ID rfl
theorem amM:Jx.size=6:=ID rfl
theorem afN:Jx.bytes=80:=ID rfl
theorem aFm:qB Jx=True:=eq_true rfl
theorem aFn:zc Jx=[.v (Value.bool false),.v (Value.slice none 0 0),.v (Value.int IntKind.i64 0),.v (Value.bool false),.v (Value.slice none 0 0),.v (Value.int IntKind.i64 0)]:=ID rfl
theorem aKz{K:Nat→TI→Prop}:@qA Tryz.prog 167 0 ⟨K⟩=K 0 JH:=qp (ti:=Jx) (tf:=JH) (fo:=(0,44)) (fs:=[(0,44),(3,44)]) at8 rfl rfl ab6
theorem aSN{K:Nat→Nat→Prop}:qr Tryz.prog [(0,44),(3,44)] 0 K=K 0 3:=qo (tf:=JH) (fo:=(0,44)) (fs:=[(0,44),(3,44)]) rfl ab6
theorem aKy{K:Nat→TI→Prop}:@qA Tryz.prog 167 1 ⟨K⟩=K 3 JH:=qp (ti:=Jx) (tf:=JH) (fo:=(3,44)) (fs:=[(0,44),(3,44)]) at8 rfl rfl ab6
theorem aSM{K:Nat→Nat→Prop}:qr Tryz.prog [(0,44),(3,44)] 1 K=K 3 3:=qo (tf:=JH) (fo:=(3,44)) (fs:=[(0,44),(3,44)]) rfl ab6
theorem aUu:∀f∈([(0,44),(3,44)]:List (Nat×Nat)),(qs Tryz.prog f.2).isSome=true:=by
 intro f hf
 simp only[List.mem_cons,List.not_mem_nil,or_false]at hf
 rcases hf with rfl|rfl
 ·rw[ab6];rfl
 ·rw[ab6];rfl
theorem beW{ps:List (Nat×AV)}{K:AV→Prop}:@qX Tryz.prog 167 ps ⟨K⟩=@zg (qr Tryz.prog [(0,44),(3,44)]) (zc Jx) ps ⟨fun cs=>K (.ag cs)⟩:=qJ at8 rfl aUu
theorem bhI{K:TI→Prop}:@tyW Tryz.prog 168 ⟨K⟩=K abd:=qk bkC
theorem aFl:abd.kd=Kd.oth:=ID rfl
theorem as0:abd.kd.agg=false:=ID rfl
theorem amL:abd.size=1:=ID rfl
theorem afM:abd.bytes=8:=ID rfl
theorem aFj:qB abd=True:=eq_true rfl
theorem aFk:zc abd=[.v Value.nilFunc]:=ID rfl
theorem bhH{K:TI→Prop}:@tyW Tryz.prog 169 ⟨K⟩=K abc:=qk bkB
theorem aFi:abc.kd=Kd.oth:=ID rfl
theorem asZ:abc.kd.agg=false:=ID rfl
theorem amK:abc.size=1:=ID rfl
theorem afL:abc.bytes=8:=ID rfl
theorem aFg:qB abc=True:=eq_true rfl
theorem aFh:zc abc=[.v Value.nilFunc]:=ID rfl
theorem bhG{K:TI→Prop}:@tyW Tryz.prog 170 ⟨K⟩=K abb:=qk bkA
theorem aFf:abb.kd=Kd.oth:=ID rfl
theorem asY:abb.kd.agg=false:=ID rfl
theorem amJ:abb.size=1:=ID rfl
theorem afK:abb.bytes=8:=ID rfl
theorem aFd:qB abb=True:=eq_true rfl
theorem aFe:zc abb=[.v Value.nilFunc]:=ID rfl
theorem bhF{K:TI→Prop}:@tyW Tryz.prog 171 ⟨K⟩=K aba:=qk bkz
theorem aFc:aba.kd=Kd.oth:=ID rfl
theorem asX:aba.kd.agg=false:=ID rfl
theorem amI:aba.size=1:=ID rfl
theorem afJ:aba.bytes=8:=ID rfl
theorem aFa:qB aba=True:=eq_true rfl
theorem aFb:zc aba=[.v Value.nilFunc]:=ID rfl
theorem bhE{K:TI→Prop}:@tyW Tryz.prog 172 ⟨K⟩=K aa9:=qk bky
theorem aE9:aa9.kd=Kd.oth:=ID rfl
theorem asW:aa9.kd.agg=false:=ID rfl
theorem amH:aa9.size=1:=ID rfl
theorem afI:aa9.bytes=8:=ID rfl
theorem aE7:qB aa9=True:=eq_true rfl
theorem aE8:zc aa9=[.v Value.nilFunc]:=ID rfl
theorem bhD{K:TI→Prop}:@tyW Tryz.prog 173 ⟨K⟩=K aa8:=qk bkx
theorem aE6:aa8.kd=Kd.oth:=ID rfl
theorem asV:aa8.kd.agg=false:=ID rfl
theorem amG:aa8.size=1:=ID rfl
theorem afH:aa8.bytes=8:=ID rfl
theorem aE4:qB aa8=True:=eq_true rfl
theorem aE5:zc aa8=[.v Value.nilFunc]:=ID rfl
theorem bhC{K:TI→Prop}:@tyW Tryz.prog 174 ⟨K⟩=K aa7:=qk bkw
theorem aE3:aa7.kd=Kd.oth:=ID rfl
theorem asU:aa7.kd.agg=false:=ID rfl
theorem amF:aa7.size=1:=ID rfl
theorem afG:aa7.bytes=8:=ID rfl
theorem aE1:qB aa7=True:=eq_true rfl
theorem aE2:zc aa7=[.v Value.nilFunc]:=ID rfl
theorem bhB{K:TI→Prop}:@tyW Tryz.prog 175 ⟨K⟩=K aa6:=qk bkv
theorem aE0:aa6.kd=Kd.oth:=ID rfl
theorem asT:aa6.kd.agg=false:=ID rfl
theorem amE:aa6.size=1:=ID rfl
theorem afF:aa6.bytes=8:=ID rfl
theorem aEY:qB aa6=True:=eq_true rfl
theorem aEZ:zc aa6=[.v Value.nilFunc]:=ID rfl
theorem bhA{K:TI→Prop}:@tyW Tryz.prog 176 ⟨K⟩=K aa5:=qk bku
theorem aEX:aa5.kd=Kd.oth:=ID rfl
theorem asS:aa5.kd.agg=false:=ID rfl
theorem amD:aa5.size=1:=ID rfl
theorem afE:aa5.bytes=8:=ID rfl
theorem aEV:qB aa5=True:=eq_true rfl
theorem aEW:zc aa5=[.v Value.nilFunc]:=ID rfl
theorem bhz{K:TI→Prop}:@tyW Tryz.prog 177 ⟨K⟩=K aa4:=qk bkt
theorem aEU:aa4.kd=Kd.oth:=ID rfl
theorem asR:aa4.kd.agg=false:=ID rfl
theorem amC:aa4.size=1:=ID rfl
theorem afD:aa4.bytes=8:=ID rfl
theorem aES:qB aa4=True:=eq_true rfl
theorem aET:zc aa4=[.v Value.nilFunc]:=ID rfl
theorem bhy{K:TI→Prop}:@tyW Tryz.prog 178 ⟨K⟩=K aa3:=qk bks
theorem aER:aa3.kd=Kd.oth:=ID rfl
theorem asQ:aa3.kd.agg=false:=ID rfl
theorem amB:aa3.size=1:=ID rfl
theorem afC:aa3.bytes=8:=ID rfl
theorem aEP:qB aa3=True:=eq_true rfl
theorem aEQ:zc aa3=[.v Value.nilFunc]:=ID rfl
theorem bhx{K:TI→Prop}:@tyW Tryz.prog 179 ⟨K⟩=K aa2:=qk bkr
theorem aEO:aa2.kd=Kd.oth:=ID rfl
theorem asP:aa2.kd.agg=false:=ID rfl
theorem amA:aa2.size=1:=ID rfl
theorem afB:aa2.bytes=8:=ID rfl
theorem aEM:qB aa2=True:=eq_true rfl
theorem aEN:zc aa2=[.v Value.nilFunc]:=ID rfl
theorem bhw{K:TI→Prop}:@tyW Tryz.prog 180 ⟨K⟩=K aa1:=qk bkq
theorem aEL:aa1.kd=Kd.oth:=ID rfl
theorem asO:aa1.kd.agg=false:=ID rfl
theorem amz:aa1.size=1:=ID rfl
theorem afA:aa1.bytes=8:=ID rfl
theorem aEJ:qB aa1=True:=eq_true rfl
theorem aEK:zc aa1=[.v Value.nilFunc]:=ID rfl
theorem bhv{K:TI→Prop}:@tyW Tryz.prog 182 ⟨K⟩=K aaZ:=qk bkp
theorem aEI:aaZ.kd=Kd.oth:=ID rfl
theorem asN:aaZ.kd.agg=false:=ID rfl
theorem amy:aaZ.size=1:=ID rfl
theorem afz:aaZ.bytes=8:=ID rfl
theorem aEG:qB aaZ=True:=eq_true rfl
theorem aEH:zc aaZ=[.v Value.nilFunc]:=ID rfl
theorem bhu{K:TI→Prop}:@tyW Tryz.prog 183 ⟨K⟩=K aaY:=qk bko
theorem aEF:aaY.kd=Kd.oth:=ID rfl
theorem asM:aaY.kd.agg=false:=ID rfl
theorem amx:aaY.size=1:=ID rfl
theorem afy:aaY.bytes=8:=ID rfl
theorem aED:qB aaY=True:=eq_true rfl
theorem aEE:zc aaY=[.v Value.nilFunc]:=ID rfl
theorem bht{K:TI→Prop}:@tyW Tryz.prog 184 ⟨K⟩=K aaX:=qk bkn
theorem aEC:aaX.kd=Kd.oth:=ID rfl
theorem asL:aaX.kd.agg=false:=ID rfl
theorem amw:aaX.size=1:=ID rfl
theorem afx:aaX.bytes=8:=ID rfl
theorem aEA:qB aaX=True:=eq_true rfl
theorem aEB:zc aaX=[.v Value.nilFunc]:=ID rfl
theorem bhs{K:TI→Prop}:@tyW Tryz.prog 185 ⟨K⟩=K aaW:=qk bkm
theorem aEz:aaW.kd=Kd.oth:=ID rfl
theorem asK:aaW.kd.agg=false:=ID rfl
theorem amv:aaW.size=1:=ID rfl
theorem afw:aaW.bytes=8:=ID rfl
theorem aEx:qB aaW=True:=eq_true rfl
theorem aEy:zc aaW=[.v Value.nilFunc]:=ID rfl
theorem bhr{K:TI→Prop}:@tyW Tryz.prog 186 ⟨K⟩=K aaV:=qk bkl
theorem aEw:aaV.kd=Kd.oth:=ID rfl
theorem asJ:aaV.kd.agg=false:=ID rfl
theorem amu:aaV.size=1:=ID rfl
theorem afv:aaV.bytes=8:=ID rfl
theorem aEu:qB aaV=True:=eq_true rfl
theorem aEv:zc aaV=[.v Value.nilFunc]:=ID rfl
theorem bhq{K:TI→Prop}:@tyW Tryz.prog 187 ⟨K⟩=K aaU:=qk bkk
theorem aEt:aaU.kd=Kd.oth:=ID rfl
theorem asI:aaU.kd.agg=false:=ID rfl
theorem amt:aaU.size=1:=ID rfl
theorem afu:aaU.bytes=8:=ID rfl
theorem aEr:qB aaU=True:=eq_true rfl
theorem aEs:zc aaU=[.v Value.nilFunc]:=ID rfl
theorem bho{K:TI→Prop}:@tyW Tryz.prog 189 ⟨K⟩=K aaT:=qk bkj
theorem aEq:aaT.kd=Kd.oth:=ID rfl
theorem asH:aaT.kd.agg=false:=ID rfl
theorem ams:aaT.size=1:=ID rfl
theorem aft:aaT.bytes=8:=ID rfl
theorem aEo:qB aaT=True:=eq_true rfl
theorem aEp:zc aaT=[.v Value.nilFunc]:=ID rfl
theorem bhn{K:TI→Prop}:@tyW Tryz.prog 190 ⟨K⟩=K aaS:=qk bki
theorem aEn:aaS.kd=Kd.oth:=ID rfl
theorem asG:aaS.kd.agg=false:=ID rfl
theorem amr:aaS.size=1:=ID rfl
theorem afs:aaS.bytes=8:=ID rfl
theorem aEl:qB aaS=True:=eq_true rfl
theorem aEm:zc aaS=[.v Value.nilFunc]:=ID rfl
theorem bhm{K:TI→Prop}:@tyW Tryz.prog 191 ⟨K⟩=K aaR:=qk bkh
theorem aEk:aaR.kd=Kd.oth:=ID rfl
theorem asF:aaR.kd.agg=false:=ID rfl
theorem amq:aaR.size=1:=ID rfl
theorem afr:aaR.bytes=8:=ID rfl
theorem aEi:qB aaR=True:=eq_true rfl
theorem aEj:zc aaR=[.v Value.nilFunc]:=ID rfl
theorem bhl{K:TI→Prop}:@tyW Tryz.prog 192 ⟨K⟩=K aaQ:=qk bkg
theorem aEh:aaQ.kd=Kd.oth:=ID rfl
theorem asE:aaQ.kd.agg=false:=ID rfl
theorem amp:aaQ.size=1:=ID rfl
theorem afq:aaQ.bytes=8:=ID rfl
theorem aEf:qB aaQ=True:=eq_true rfl
theorem aEg:zc aaQ=[.v Value.nilFunc]:=ID rfl
theorem bhk{K:TI→Prop}:@tyW Tryz.prog 193 ⟨K⟩=K aaP:=qk bkf
theorem aEe:aaP.kd=Kd.oth:=ID rfl
theorem asD:aaP.kd.agg=false:=ID rfl
theorem amo:aaP.size=1:=ID rfl
theorem afp:aaP.bytes=8:=ID rfl
theorem aEc:qB aaP=True:=eq_true rfl
theorem aEd:zc aaP=[.v Value.nilFunc]:=ID rfl
theorem bhj{K:TI→Prop}:@tyW Tryz.prog 194 ⟨K⟩=K Jw:=qk at7
theorem aEb:Jw.kd=Kd.stru [(0,4),(1,40),(2,3)]:=ID rfl
theorem asC:Jw.kd.agg=true:=ID rfl
theorem amn:Jw.size=3:=ID rfl
theorem afo:Jw.bytes=40:=ID rfl
theorem aD9:qB Jw=True:=eq_true rfl
theorem aEa:zc Jw=[.v (Value.bool false),.v (Value.slice none 0 0),.v (Value.int IntKind.i64 0)]:=ID rfl
theorem aKx{K:Nat→TI→Prop}:@qA Tryz.prog 194 0 ⟨K⟩=K 0 ti4:=qp (ti:=Jw) (tf:=ti4) (fo:=(0,4)) (fs:=[(0,4),(1,40),(2,3)]) at7 rfl rfl tf4
theorem aSL{K:Nat→Nat→Prop}:qr Tryz.prog [(0,4),(1,40),(2,3)] 0 K=K 0 1:=qo (tf:=ti4) (fo:=(0,4)) (fs:=[(0,4),(1,40),(2,3)]) rfl tf4
theorem aKw{K:Nat→TI→Prop}:@qA Tryz.prog 194 1 ⟨K⟩=K 1 Y4:=qp (ti:=Jw) (tf:=Y4) (fo:=(1,40)) (fs:=[(0,4),(1,40),(2,3)]) at7 rfl rfl agP
theorem aSK{K:Nat→Nat→Prop}:qr Tryz.prog [(0,4),(1,40),(2,3)] 1 K=K 1 1:=qo (tf:=Y4) (fo:=(1,40)) (fs:=[(0,4),(1,40),(2,3)]) rfl agP
theorem aKv{K:Nat→TI→Prop}:@qA Tryz.prog 194 2 ⟨K⟩=K 2 ti3:=qp (ti:=Jw) (tf:=ti3) (fo:=(2,3)) (fs:=[(0,4),(1,40),(2,3)]) at7 rfl rfl tf3
theorem aSJ{K:Nat→Nat→Prop}:qr Tryz.prog [(0,4),(1,40),(2,3)] 2 K=K 2 1:=qo (tf:=ti3) (fo:=(2,3)) (fs:=[(0,4),(1,40),(2,3)]) rfl tf3
theorem aUt:∀f∈([(0,4),(1,40),(2,3)]:List (Nat×Nat)),(qs Tryz.prog f.2).isSome=true:=by
 intro f hf
 simp only[List.mem_cons,List.not_mem_nil,or_false]at hf
 rcases hf with rfl|rfl|rfl
 ·rw[tf4];rfl
 ·rw[agP];rfl
 ·rw[tf3];rfl
theorem beV{ps:List (Nat×AV)}{K:AV→Prop}:@qX Tryz.prog 194 ps ⟨K⟩=@zg (qr Tryz.prog [(0,4),(1,40),(2,3)]) (zc Jw) ps ⟨fun cs=>K (.ag cs)⟩:=qJ at7 rfl aUt
theorem bhi{K:TI→Prop}:@tyW Tryz.prog 195 ⟨K⟩=K Jv:=qk at6
theorem aD8:Jv.kd=Kd.stru [(0,4),(1,40),(2,3)]:=ID rfl
theorem asB:Jv.kd.agg=true:=ID rfl
theorem amm:Jv.size=3:=ID rfl
theorem afn:Jv.bytes=40:=ID rfl
theorem aD6:qB Jv=True:=eq_true rfl
theorem aD7:zc Jv=[.v (Value.bool false),.v (Value.slice none 0 0),.v (Value.int IntKind.i64 0)]:=ID rfl
theorem aKu{K:Nat→TI→Prop}:@qA Tryz.prog 195 0 ⟨K⟩=K 0 ti4:=qp (ti:=Jv) (tf:=ti4) (fo:=(0,4)) (fs:=[(0,4),(1,40),(2,3)]) at6 rfl rfl tf4
theorem aSI{K:Nat→Nat→Prop}:qr Tryz.prog [(0,4),(1,40),(2,3)] 0 K=K 0 1:=qo (tf:=ti4) (fo:=(0,4)) (fs:=[(0,4),(1,40),(2,3)]) rfl tf4
theorem aKt{K:Nat→TI→Prop}:@qA Tryz.prog 195 1 ⟨K⟩=K 1 Y4:=qp (ti:=Jv) (tf:=Y4) (fo:=(1,40)) (fs:=[(0,4),(1,40),(2,3)]) at6 rfl rfl agP
theorem aSH{K:Nat→Nat→Prop}:qr Tryz.prog [(0,4),(1,40),(2,3)] 1 K=K 1 1:=qo (tf:=Y4) (fo:=(1,40)) (fs:=[(0,4),(1,40),(2,3)]) rfl agP
theorem aKs{K:Nat→TI→Prop}:@qA Tryz.prog 195 2 ⟨K⟩=K 2 ti3:=qp (ti:=Jv) (tf:=ti3) (fo:=(2,3)) (fs:=[(0,4),(1,40),(2,3)]) at6 rfl rfl tf3
theorem aSG{K:Nat→Nat→Prop}:qr Tryz.prog [(0,4),(1,40),(2,3)] 2 K=K 2 1:=qo (tf:=ti3) (fo:=(2,3)) (fs:=[(0,4),(1,40),(2,3)]) rfl tf3
theorem aUs:∀f∈([(0,4),(1,40),(2,3)]:List (Nat×Nat)),(qs Tryz.prog f.2).isSome=true:=by
 intro f hf
 simp only[List.mem_cons,List.not_mem_nil,or_false]at hf
 rcases hf with rfl|rfl|rfl
 ·rw[tf4];rfl
 ·rw[agP];rfl
 ·rw[tf3];rfl
theorem beU{ps:List (Nat×AV)}{K:AV→Prop}:@qX Tryz.prog 195 ps ⟨K⟩=@zg (qr Tryz.prog [(0,4),(1,40),(2,3)]) (zc Jv) ps ⟨fun cs=>K (.ag cs)⟩:=qJ at6 rfl aUs
theorem bhh{K:TI→Prop}:@tyW Tryz.prog 197 ⟨K⟩=K aaO:=qk bke
theorem aD5:aaO.kd=Kd.oth:=ID rfl
theorem asA:aaO.kd.agg=false:=ID rfl
theorem aml:aaO.size=1:=ID rfl
theorem afm:aaO.bytes=8:=ID rfl
theorem aD3:qB aaO=True:=eq_true rfl
theorem aD4:zc aaO=[.v Value.nilFunc]:=ID rfl
theorem bhg{K:TI→Prop}:@tyW Tryz.prog 198 ⟨K⟩=K ZJ:=qk anT
theorem aD2:ZJ.kd=Kd.stru [(0,3),(1,4),(2,3),(3,3)]:=ID rfl
theorem asz:ZJ.kd.agg=true:=ID rfl
theorem amk:ZJ.size=4:=ID rfl
theorem afl:ZJ.bytes=32:=ID rfl
theorem aD0:qB ZJ=True:=eq_true rfl
theorem aD1:zc ZJ=[.v (Value.int IntKind.i64 0),.v (Value.bool false),.v (Value.int IntKind.i64 0),.v (Value.int IntKind.i64 0)]:=ID rfl
theorem aKr{K:Nat→TI→Prop}:@qA Tryz.prog 198 0 ⟨K⟩=K 0 ti3:=qp (ti:=ZJ) (tf:=ti3) (fo:=(0,3)) (fs:=[(0,3),(1,4),(2,3),(3,3)]) anT rfl rfl tf3
theorem aSF{K:Nat→Nat→Prop}:qr Tryz.prog [(0,3),(1,4),(2,3),(3,3)] 0 K=K 0 1:=qo (tf:=ti3) (fo:=(0,3)) (fs:=[(0,3),(1,4),(2,3),(3,3)]) rfl tf3
theorem aKq{K:Nat→TI→Prop}:@qA Tryz.prog 198 1 ⟨K⟩=K 1 ti4:=qp (ti:=ZJ) (tf:=ti4) (fo:=(1,4)) (fs:=[(0,3),(1,4),(2,3),(3,3)]) anT rfl rfl tf4
theorem aSE{K:Nat→Nat→Prop}:qr Tryz.prog [(0,3),(1,4),(2,3),(3,3)] 1 K=K 1 1:=qo (tf:=ti4) (fo:=(1,4)) (fs:=[(0,3),(1,4),(2,3),(3,3)]) rfl tf4
theorem aKp{K:Nat→TI→Prop}:@qA Tryz.prog 198 2 ⟨K⟩=K 2 ti3:=qp (ti:=ZJ) (tf:=ti3) (fo:=(2,3)) (fs:=[(0,3),(1,4),(2,3),(3,3)]) anT rfl rfl tf3
theorem aSD{K:Nat→Nat→Prop}:qr Tryz.prog [(0,3),(1,4),(2,3),(3,3)] 2 K=K 2 1:=qo (tf:=ti3) (fo:=(2,3)) (fs:=[(0,3),(1,4),(2,3),(3,3)]) rfl tf3
theorem aKo{K:Nat→TI→Prop}:@qA Tryz.prog 198 3 ⟨K⟩=K 3 ti3:=qp (ti:=ZJ) (tf:=ti3) (fo:=(3,3)) (fs:=[(0,3),(1,4),(2,3),(3,3)]) anT rfl rfl tf3
theorem aSC{K:Nat→Nat→Prop}:qr Tryz.prog [(0,3),(1,4),(2,3),(3,3)] 3 K=K 3 1:=qo (tf:=ti3) (fo:=(3,3)) (fs:=[(0,3),(1,4),(2,3),(3,3)]) rfl tf3
theorem aUr:∀f∈([(0,3),(1,4),(2,3),(3,3)]:List (Nat×Nat)),(qs Tryz.prog f.2).isSome=true:=by
 intro f hf
 simp only[List.mem_cons,List.not_mem_nil,or_false]at hf
 rcases hf with rfl|rfl|rfl|rfl
 ·rw[tf3];rfl
 ·rw[tf4];rfl
 ·rw[tf3];rfl
 ·rw[tf3];rfl
theorem beT{ps:List (Nat×AV)}{K:AV→Prop}:@qX Tryz.prog 198 ps ⟨K⟩=@zg (qr Tryz.prog [(0,3),(1,4),(2,3),(3,3)]) (zc ZJ) ps ⟨fun cs=>K (.ag cs)⟩:=qJ anT rfl aUr
theorem bhf{K:TI→Prop}:@tyW Tryz.prog 199 ⟨K⟩=K ZI:=qk anS
theorem aDZ:ZI.kd=Kd.stru [(0,3),(1,4),(2,3),(3,3)]:=ID rfl
theorem asy:ZI.kd.agg=true:=ID rfl
theorem amj:ZI.size=4:=ID rfl
theorem afk:ZI.bytes=32:=ID rfl
theorem aDX:qB ZI=True:=eq_true rfl
theorem aDY:zc ZI=[.v (Value.int IntKind.i64 0),.v (Value.bool false),.v (Value.int IntKind.i64 0),.v (Value.int IntKind.i64 0)]:=ID rfl
theorem aKn{K:Nat→TI→Prop}:@qA Tryz.prog 199 0 ⟨K⟩=K 0 ti3:=qp (ti:=ZI) (tf:=ti3) (fo:=(0,3)) (fs:=[(0,3),(1,4),(2,3),(3,3)]) anS rfl rfl tf3
theorem aSB{K:Nat→Nat→Prop}:qr Tryz.prog [(0,3),(1,4),(2,3),(3,3)] 0 K=K 0 1:=qo (tf:=ti3) (fo:=(0,3)) (fs:=[(0,3),(1,4),(2,3),(3,3)]) rfl tf3
theorem aKm{K:Nat→TI→Prop}:@qA Tryz.prog 199 1 ⟨K⟩=K 1 ti4:=qp (ti:=ZI) (tf:=ti4) (fo:=(1,4)) (fs:=[(0,3),(1,4),(2,3),(3,3)]) anS rfl rfl tf4
theorem aSA{K:Nat→Nat→Prop}:qr Tryz.prog [(0,3),(1,4),(2,3),(3,3)] 1 K=K 1 1:=qo (tf:=ti4) (fo:=(1,4)) (fs:=[(0,3),(1,4),(2,3),(3,3)]) rfl tf4
theorem aKl{K:Nat→TI→Prop}:@qA Tryz.prog 199 2 ⟨K⟩=K 2 ti3:=qp (ti:=ZI) (tf:=ti3) (fo:=(2,3)) (fs:=[(0,3),(1,4),(2,3),(3,3)]) anS rfl rfl tf3
theorem aSz{K:Nat→Nat→Prop}:qr Tryz.prog [(0,3),(1,4),(2,3),(3,3)] 2 K=K 2 1:=qo (tf:=ti3) (fo:=(2,3)) (fs:=[(0,3),(1,4),(2,3),(3,3)]) rfl tf3
theorem aKk{K:Nat→TI→Prop}:@qA Tryz.prog 199 3 ⟨K⟩=K 3 ti3:=qp (ti:=ZI) (tf:=ti3) (fo:=(3,3)) (fs:=[(0,3),(1,4),(2,3),(3,3)]) anS rfl rfl tf3
theorem aSy{K:Nat→Nat→Prop}:qr Tryz.prog [(0,3),(1,4),(2,3),(3,3)] 3 K=K 3 1:=qo (tf:=ti3) (fo:=(3,3)) (fs:=[(0,3),(1,4),(2,3),(3,3)]) rfl tf3
theorem aUq:∀f∈([(0,3),(1,4),(2,3),(3,3)]:List (Nat×Nat)),(qs Tryz.prog f.2).isSome=true:=by
 intro f hf
 simp only[List.mem_cons,List.not_mem_nil,or_false]at hf
 rcases hf with rfl|rfl|rfl|rfl
 ·rw[tf3];rfl
 ·rw[tf4];rfl
 ·rw[tf3];rfl
 ·rw[tf3];rfl
theorem beS{ps:List (Nat×AV)}{K:AV→Prop}:@qX Tryz.prog 199 ps ⟨K⟩=@zg (qr Tryz.prog [(0,3),(1,4),(2,3),(3,3)]) (zc ZI) ps ⟨fun cs=>K (.ag cs)⟩:=qJ anS rfl aUq
theorem bhe{K:TI→Prop}:@tyW Tryz.prog 201 ⟨K⟩=K aaN:=qk bkd
theorem aDV:aaN.kd=Kd.oth:=ID rfl
theorem asw:aaN.kd.agg=false:=ID rfl
theorem ami:aaN.size=1:=ID rfl
theorem afj:aaN.bytes=8:=ID rfl
theorem aDT:qB aaN=True:=eq_true rfl
theorem aDU:zc aaN=[.v Value.nilFunc]:=ID rfl
theorem bhd{K:TI→Prop}:@tyW Tryz.prog 202 ⟨K⟩=K aaM:=qk bkc
theorem aDS:aaM.kd=Kd.oth:=ID rfl
theorem asv:aaM.kd.agg=false:=ID rfl
theorem amh:aaM.size=1:=ID rfl
theorem afi:aaM.bytes=8:=ID rfl
theorem aDQ:qB aaM=True:=eq_true rfl
theorem aDR:zc aaM=[.v Value.nilFunc]:=ID rfl
theorem bhc{K:TI→Prop}:@tyW Tryz.prog 204 ⟨K⟩=K aaL:=qk bkb
theorem aDP:aaL.kd=Kd.oth:=ID rfl
theorem asu:aaL.kd.agg=false:=ID rfl
theorem amg:aaL.size=1:=ID rfl
theorem afh:aaL.bytes=8:=ID rfl
theorem aDN:qB aaL=True:=eq_true rfl
theorem aDO:zc aaL=[.v Value.nilFunc]:=ID rfl
theorem bhb{K:TI→Prop}:@tyW Tryz.prog 205 ⟨K⟩=K aaK:=qk bka
theorem aDM:aaK.kd=Kd.oth:=ID rfl
theorem ast:aaK.kd.agg=false:=ID rfl
theorem amf:aaK.size=1:=ID rfl
theorem afg:aaK.bytes=8:=ID rfl
theorem aDK:qB aaK=True:=eq_true rfl
theorem aDL:zc aaK=[.v Value.nilFunc]:=ID rfl
theorem bha{K:TI→Prop}:@tyW Tryz.prog 206 ⟨K⟩=K aaJ:=qk bj9
theorem aDJ:aaJ.kd=Kd.oth:=ID rfl
theorem ass:aaJ.kd.agg=false:=ID rfl
theorem ame:aaJ.size=1:=ID rfl
theorem aff:aaJ.bytes=8:=ID rfl
theorem aDH:qB aaJ=True:=eq_true rfl
theorem aDI:zc aaJ=[.v Value.nilFunc]:=ID rfl
theorem bg9{K:TI→Prop}:@tyW Tryz.prog 207 ⟨K⟩=K aaI:=qk bj8
theorem aDG:aaI.kd=Kd.oth:=ID rfl
theorem asr:aaI.kd.agg=false:=ID rfl
theorem amd:aaI.size=1:=ID rfl
theorem afe:aaI.bytes=8:=ID rfl
theorem aDE:qB aaI=True:=eq_true rfl
theorem aDF:zc aaI=[.v Value.nilFunc]:=ID rfl
theorem bg8{K:TI→Prop}:@tyW Tryz.prog 208 ⟨K⟩=K aaH:=qk bj7
theorem aDD:aaH.kd=Kd.oth:=ID rfl
theorem asq:aaH.kd.agg=false:=ID rfl
theorem amc:aaH.size=1:=ID rfl
theorem afd:aaH.bytes=8:=ID rfl
theorem aDB:qB aaH=True:=eq_true rfl
theorem aDC:zc aaH=[.v Value.nilFunc]:=ID rfl
theorem bg7{K:TI→Prop}:@tyW Tryz.prog 209 ⟨K⟩=K aaG:=qk bj6
theorem aDA:aaG.kd=Kd.oth:=ID rfl
theorem asp:aaG.kd.agg=false:=ID rfl
theorem amb:aaG.size=1:=ID rfl
theorem afc:aaG.bytes=8:=ID rfl
theorem aDy:qB aaG=True:=eq_true rfl
theorem aDz:zc aaG=[.v Value.nilFunc]:=ID rfl
theorem bg6{K:TI→Prop}:@tyW Tryz.prog 210 ⟨K⟩=K aaF:=qk bj5
theorem aDx:aaF.kd=Kd.oth:=ID rfl
theorem aso:aaF.kd.agg=false:=ID rfl
theorem ama:aaF.size=1:=ID rfl
theorem afb:aaF.bytes=8:=ID rfl
theorem aDv:qB aaF=True:=eq_true rfl
theorem aDw:zc aaF=[.v Value.nilFunc]:=ID rfl
theorem bg5{K:TI→Prop}:@tyW Tryz.prog 211 ⟨K⟩=K aaE:=qk bj4
theorem aDu:aaE.kd=Kd.oth:=ID rfl
theorem asn:aaE.kd.agg=false:=ID rfl
theorem al9:aaE.size=1:=ID rfl
theorem afa:aaE.bytes=8:=ID rfl
theorem aDs:qB aaE=True:=eq_true rfl
theorem aDt:zc aaE=[.v Value.nilFunc]:=ID rfl
theorem bg4{K:TI→Prop}:@tyW Tryz.prog 212 ⟨K⟩=K aaD:=qk bj3
theorem aDr:aaD.kd=Kd.oth:=ID rfl
theorem asm:aaD.kd.agg=false:=ID rfl
theorem al8:aaD.size=1:=ID rfl
theorem ae9:aaD.bytes=8:=ID rfl
theorem aDp:qB aaD=True:=eq_true rfl
theorem aDq:zc aaD=[.v Value.nilFunc]:=ID rfl
theorem bg3{K:TI→Prop}:@tyW Tryz.prog 213 ⟨K⟩=K aaC:=qk bj2
theorem aDo:aaC.kd=Kd.oth:=ID rfl
theorem asl:aaC.kd.agg=false:=ID rfl
theorem al7:aaC.size=1:=ID rfl
theorem ae8:aaC.bytes=8:=ID rfl
theorem aDm:qB aaC=True:=eq_true rfl
theorem aDn:zc aaC=[.v Value.nilFunc]:=ID rfl
theorem bg2{K:TI→Prop}:@tyW Tryz.prog 214 ⟨K⟩=K aaB:=qk bj1
theorem aDl:aaB.kd=Kd.oth:=ID rfl
theorem ask:aaB.kd.agg=false:=ID rfl
theorem al6:aaB.size=1:=ID rfl
theorem ae7:aaB.bytes=8:=ID rfl
theorem aDj:qB aaB=True:=eq_true rfl
theorem aDk:zc aaB=[.v Value.nilFunc]:=ID rfl
theorem bg1{K:TI→Prop}:@tyW Tryz.prog 215 ⟨K⟩=K aaA:=qk bj0
theorem aDi:aaA.kd=Kd.oth:=ID rfl
theorem asj:aaA.kd.agg=false:=ID rfl
theorem al5:aaA.size=1:=ID rfl
theorem ae6:aaA.bytes=8:=ID rfl
theorem aDg:qB aaA=True:=eq_true rfl
theorem aDh:zc aaA=[.v Value.nilFunc]:=ID rfl
theorem bg0{K:TI→Prop}:@tyW Tryz.prog 216 ⟨K⟩=K aaz:=qk bjZ
theorem aDf:aaz.kd=Kd.oth:=ID rfl
theorem asi:aaz.kd.agg=false:=ID rfl
theorem al4:aaz.size=1:=ID rfl
theorem ae5:aaz.bytes=8:=ID rfl
theorem aDd:qB aaz=True:=eq_true rfl
theorem aDe:zc aaz=[.v Value.nilFunc]:=ID rfl
theorem bgZ{K:TI→Prop}:@tyW Tryz.prog 217 ⟨K⟩=K aay:=qk bjY
theorem aDc:aay.kd=Kd.oth:=ID rfl
theorem ash:aay.kd.agg=false:=ID rfl
theorem al3:aay.size=1:=ID rfl
theorem ae4:aay.bytes=8:=ID rfl
theorem aDa:qB aay=True:=eq_true rfl
theorem aDb:zc aay=[.v Value.nilFunc]:=ID rfl
theorem bgY{K:TI→Prop}:@tyW Tryz.prog 219 ⟨K⟩=K aax:=qk bjX
theorem aC9:aax.kd=Kd.oth:=ID rfl
theorem asg:aax.kd.agg=false:=ID rfl
theorem al2:aax.size=1:=ID rfl
theorem ae3:aax.bytes=8:=ID rfl
theorem aC7:qB aax=True:=eq_true rfl
theorem aC8:zc aax=[.v Value.nilFunc]:=ID rfl
theorem bgX{K:TI→Prop}:@tyW Tryz.prog 220 ⟨K⟩=K aaw:=qk bjW
theorem aC5:aaw.kd=Kd.oth:=ID rfl
theorem ase:aaw.kd.agg=false:=ID rfl
theorem al0:aaw.size=1:=ID rfl
theorem ae2:aaw.bytes=8:=ID rfl
theorem aC3:qB aaw=True:=eq_true rfl
theorem aC4:zc aaw=[.v Value.nilFunc]:=ID rfl
theorem bgW{K:TI→Prop}:@tyW Tryz.prog 221 ⟨K⟩=K aav:=qk bjV
theorem aC2:aav.kd=Kd.oth:=ID rfl
theorem asd:aav.kd.agg=false:=ID rfl
theorem alZ:aav.size=1:=ID rfl
theorem ae1:aav.bytes=8:=ID rfl
theorem aC0:qB aav=True:=eq_true rfl
theorem aC1:zc aav=[.v Value.nilFunc]:=ID rfl
theorem bgV{K:TI→Prop}:@tyW Tryz.prog 223 ⟨K⟩=K aau:=qk bjU
theorem aCZ:aau.kd=Kd.oth:=ID rfl
theorem asc:aau.kd.agg=false:=ID rfl
theorem alY:aau.size=1:=ID rfl
theorem ae0:aau.bytes=8:=ID rfl
theorem aCX:qB aau=True:=eq_true rfl
theorem aCY:zc aau=[.v Value.nilFunc]:=ID rfl
theorem bgU{K:TI→Prop}:@tyW Tryz.prog 225 ⟨K⟩=K aat:=qk bjT
theorem aCW:aat.kd=Kd.oth:=ID rfl
theorem asb:aat.kd.agg=false:=ID rfl
theorem alX:aat.size=1:=ID rfl
theorem aeZ:aat.bytes=8:=ID rfl
theorem aCU:qB aat=True:=eq_true rfl
theorem aCV:zc aat=[.v Value.nilFunc]:=ID rfl
theorem bgT{K:TI→Prop}:@tyW Tryz.prog 226 ⟨K⟩=K aas:=qk bjS
theorem aCT:aas.kd=Kd.oth:=ID rfl
theorem asa:aas.kd.agg=false:=ID rfl
theorem alW:aas.size=1:=ID rfl
theorem aeY:aas.bytes=8:=ID rfl
theorem aCR:qB aas=True:=eq_true rfl
theorem aCS:zc aas=[.v Value.nilFunc]:=ID rfl
theorem bgS{K:TI→Prop}:@tyW Tryz.prog 227 ⟨K⟩=K aar:=qk bjR
theorem aCQ:aar.kd=Kd.oth:=ID rfl
theorem ar9:aar.kd.agg=false:=ID rfl
theorem alV:aar.size=1:=ID rfl
theorem aeX:aar.bytes=8:=ID rfl
theorem aCO:qB aar=True:=eq_true rfl
theorem aCP:zc aar=[.v Value.nilFunc]:=ID rfl
theorem bgR{K:TI→Prop}:@tyW Tryz.prog 228 ⟨K⟩=K aaq:=qk bjQ
theorem aCN:aaq.kd=Kd.oth:=ID rfl
theorem ar8:aaq.kd.agg=false:=ID rfl
theorem alU:aaq.size=1:=ID rfl
theorem aeW:aaq.bytes=8:=ID rfl
theorem aCL:qB aaq=True:=eq_true rfl
theorem aCM:zc aaq=[.v Value.nilFunc]:=ID rfl
theorem bgQ{K:TI→Prop}:@tyW Tryz.prog 229 ⟨K⟩=K aap:=qk bjP
theorem aCK:aap.kd=Kd.oth:=ID rfl
theorem ar7:aap.kd.agg=false:=ID rfl
theorem alT:aap.size=1:=ID rfl
theorem aeV:aap.bytes=8:=ID rfl
theorem aCI:qB aap=True:=eq_true rfl
theorem aCJ:zc aap=[.v Value.nilFunc]:=ID rfl
theorem bgP{K:TI→Prop}:@tyW Tryz.prog 230 ⟨K⟩=K aao:=qk bjO
theorem aCG:aao.kd=Kd.oth:=ID rfl
theorem ar5:aao.kd.agg=false:=ID rfl
theorem alR:aao.size=1:=ID rfl
theorem aeT:aao.bytes=8:=ID rfl
theorem aCE:qB aao=True:=eq_true rfl
theorem aCF:zc aao=[.v Value.nilFunc]:=ID rfl
theorem bgO{K:TI→Prop}:@tyW Tryz.prog 231 ⟨K⟩=K aan:=qk bjN
theorem aCD:aan.kd=Kd.oth:=ID rfl
theorem ar4:aan.kd.agg=false:=ID rfl
theorem alQ:aan.size=1:=ID rfl
theorem aeS:aan.bytes=8:=ID rfl
theorem aCB:qB aan=True:=eq_true rfl
theorem aCC:zc aan=[.v Value.nilFunc]:=ID rfl
theorem bgN{K:TI→Prop}:@tyW Tryz.prog 232 ⟨K⟩=K aam:=qk bjM
theorem aCA:aam.kd=Kd.oth:=ID rfl
theorem ar3:aam.kd.agg=false:=ID rfl
theorem alP:aam.size=1:=ID rfl
theorem aeR:aam.bytes=8:=ID rfl
theorem aCy:qB aam=True:=eq_true rfl
theorem aCz:zc aam=[.v Value.nilFunc]:=ID rfl
theorem bgM{K:TI→Prop}:@tyW Tryz.prog 233 ⟨K⟩=K aal:=qk bjL
theorem aCx:aal.kd=Kd.oth:=ID rfl
theorem ar2:aal.kd.agg=false:=ID rfl
theorem alO:aal.size=1:=ID rfl
theorem aeQ:aal.bytes=8:=ID rfl
theorem aCv:qB aal=True:=eq_true rfl
theorem aCw:zc aal=[.v Value.nilFunc]:=ID rfl
theorem bgL{K:TI→Prop}:@tyW Tryz.prog 234 ⟨K⟩=K aak:=qk bjK
theorem aCu:aak.kd=Kd.oth:=ID rfl
theorem ar1:aak.kd.agg=false:=ID rfl
theorem alN:aak.size=1:=ID rfl
theorem aeP:aak.bytes=8:=ID rfl
theorem aCs:qB aak=True:=eq_true rfl
theorem aCt:zc aak=[.v Value.nilFunc]:=ID rfl
theorem bgK{K:TI→Prop}:@tyW Tryz.prog 235 ⟨K⟩=K aaj:=qk bjJ
theorem aCr:aaj.kd=Kd.oth:=ID rfl
theorem ar0:aaj.kd.agg=false:=ID rfl
theorem alM:aaj.size=1:=ID rfl
theorem aeO:aaj.bytes=8:=ID rfl
theorem aCp:qB aaj=True:=eq_true rfl
theorem aCq:zc aaj=[.v Value.nilFunc]:=ID rfl
theorem bgJ{K:TI→Prop}:@tyW Tryz.prog 236 ⟨K⟩=K aai:=qk bjI
theorem aCo:aai.kd=Kd.oth:=ID rfl
theorem arZ:aai.kd.agg=false:=ID rfl
theorem alL:aai.size=1:=ID rfl
theorem aeN:aai.bytes=8:=ID rfl
theorem aCm:qB aai=True:=eq_true rfl
theorem aCn:zc aai=[.v Value.nilFunc]:=ID rfl
theorem bgI{K:TI→Prop}:@tyW Tryz.prog 238 ⟨K⟩=K aah:=qk bjH
theorem aCl:aah.kd=Kd.oth:=ID rfl
theorem arY:aah.kd.agg=false:=ID rfl
theorem alK:aah.size=1:=ID rfl
theorem aeM:aah.bytes=8:=ID rfl
theorem aCj:qB aah=True:=eq_true rfl
theorem aCk:zc aah=[.v Value.nilFunc]:=ID rfl
theorem bgH{K:TI→Prop}:@tyW Tryz.prog 239 ⟨K⟩=K aag:=qk bjG
theorem aCi:aag.kd=Kd.oth:=ID rfl
theorem arX:aag.kd.agg=false:=ID rfl
theorem alJ:aag.size=1:=ID rfl
theorem aeL:aag.bytes=8:=ID rfl
theorem aCg:qB aag=True:=eq_true rfl
theorem aCh:zc aag=[.v Value.nilFunc]:=ID rfl
theorem bgG{K:TI→Prop}:@tyW Tryz.prog 240 ⟨K⟩=K aaf:=qk bjF
theorem aCe:aaf.kd=Kd.oth:=ID rfl
theorem arU:aaf.kd.agg=false:=ID rfl
theorem alH:aaf.size=1:=ID rfl
theorem aeK:aaf.bytes=8:=ID rfl
theorem aCc:qB aaf=True:=eq_true rfl
theorem aCd:zc aaf=[.v Value.nilFunc]:=ID rfl
theorem bgF{K:TI→Prop}:@tyW Tryz.prog 241 ⟨K⟩=K aae:=qk bjE
theorem aCb:aae.kd=Kd.oth:=ID rfl
theorem arT:aae.kd.agg=false:=ID rfl
theorem alG:aae.size=1:=ID rfl
theorem aeJ:aae.bytes=8:=ID rfl
theorem aB9:qB aae=True:=eq_true rfl
theorem aCa:zc aae=[.v Value.nilFunc]:=ID rfl
theorem bgE{K:TI→Prop}:@tyW Tryz.prog 242 ⟨K⟩=K aad:=qk bjD
theorem aB8:aad.kd=Kd.oth:=ID rfl
theorem arS:aad.kd.agg=false:=ID rfl
theorem alD:aad.size=1:=ID rfl
theorem aeI:aad.bytes=8:=ID rfl
theorem aB6:qB aad=True:=eq_true rfl
theorem aB7:zc aad=[.v Value.nilFunc]:=ID rfl
theorem bgD{K:TI→Prop}:@tyW Tryz.prog 243 ⟨K⟩=K aac:=qk bjC
theorem aB5:aac.kd=Kd.int IntKind.u64:=ID rfl
theorem arR:aac.kd.agg=false:=ID rfl
theorem alC:aac.size=1:=ID rfl
theorem aeH:aac.bytes=8:=ID rfl
theorem aB3:qB aac=True:=eq_true rfl
theorem aB4:zc aac=[.v (Value.int IntKind.u64 0)]:=ID rfl
theorem bgC{K:TI→Prop}:@tyW Tryz.prog 244 ⟨K⟩=K aab:=qk bjB
theorem aB2:aab.kd=Kd.oth:=ID rfl
theorem arQ:aab.kd.agg=false:=ID rfl
theorem alB:aab.size=1:=ID rfl
theorem aeG:aab.bytes=8:=ID rfl
theorem aB0:qB aab=True:=eq_true rfl
theorem aB1:zc aab=[.v Value.nilFunc]:=ID rfl
theorem bgB{K:TI→Prop}:@tyW Tryz.prog 246 ⟨K⟩=K aaa:=qk bjA
theorem aBZ:aaa.kd=Kd.oth:=ID rfl
theorem arP:aaa.kd.agg=false:=ID rfl
theorem alz:aaa.size=1:=ID rfl
theorem aeF:aaa.bytes=8:=ID rfl
theorem aBX:qB aaa=True:=eq_true rfl
theorem aBY:zc aaa=[.v Value.nilFunc]:=ID rfl
theorem bgA{K:TI→Prop}:@tyW Tryz.prog 248 ⟨K⟩=K K9:=qk bjz
theorem aBW:K9.kd=Kd.oth:=ID rfl
theorem arO:K9.kd.agg=false:=ID rfl
theorem aly:K9.size=1:=ID rfl
theorem aeE:K9.bytes=8:=ID rfl
theorem aBU:qB K9=True:=eq_true rfl
theorem aBV:zc K9=[.v Value.nilFunc]:=ID rfl
theorem bgz{K:TI→Prop}:@tyW Tryz.prog 249 ⟨K⟩=K K8:=qk bjy
theorem aBT:K8.kd=Kd.oth:=ID rfl
theorem arN:K8.kd.agg=false:=ID rfl
theorem alx:K8.size=1:=ID rfl
theorem aeD:K8.bytes=8:=ID rfl
theorem aBR:qB K8=True:=eq_true rfl
theorem aBS:zc K8=[.v Value.nilFunc]:=ID rfl
theorem bgy{K:TI→Prop}:@tyW Tryz.prog 251 ⟨K⟩=K K7:=qk bjx
theorem aBP:K7.kd=Kd.oth:=ID rfl
theorem arK:K7.kd.agg=false:=ID rfl
theorem alv:K7.size=1:=ID rfl
theorem aeC:K7.bytes=8:=ID rfl
theorem aBN:qB K7=True:=eq_true rfl
theorem aBO:zc K7=[.v Value.nilFunc]:=ID rfl
theorem bgx{K:TI→Prop}:@tyW Tryz.prog 252 ⟨K⟩=K K6:=qk bjw
theorem aBM:K6.kd=Kd.oth:=ID rfl
theorem arJ:K6.kd.agg=false:=ID rfl
theorem alu:K6.size=1:=ID rfl
theorem aeB:K6.bytes=8:=ID rfl
theorem aBK:qB K6=True:=eq_true rfl
theorem aBL:zc K6=[.v Value.nilFunc]:=ID rfl
theorem bgw{K:TI→Prop}:@tyW Tryz.prog 253 ⟨K⟩=K K5:=qk bjv
theorem aBJ:K5.kd=Kd.oth:=ID rfl
theorem arI:K5.kd.agg=false:=ID rfl
theorem alt:K5.size=1:=ID rfl
theorem aeA:K5.bytes=8:=ID rfl
theorem aBH:qB K5=True:=eq_true rfl
theorem aBI:zc K5=[.v Value.nilFunc]:=ID rfl
theorem bgv{K:TI→Prop}:@tyW Tryz.prog 254 ⟨K⟩=K K4:=qk bju
theorem aBG:K4.kd=Kd.oth:=ID rfl
theorem arH:K4.kd.agg=false:=ID rfl
theorem als:K4.size=1:=ID rfl
theorem aez:K4.bytes=8:=ID rfl
theorem aBE:qB K4=True:=eq_true rfl
theorem aBF:zc K4=[.v Value.nilFunc]:=ID rfl
theorem bgu{K:TI→Prop}:@tyW Tryz.prog 256 ⟨K⟩=K K3:=qk bjt
theorem aBD:K3.kd=Kd.oth:=ID rfl
theorem arG:K3.kd.agg=false:=ID rfl
theorem alr:K3.size=1:=ID rfl
theorem aey:K3.bytes=8:=ID rfl
theorem aBB:qB K3=True:=eq_true rfl
theorem aBC:zc K3=[.v Value.nilFunc]:=ID rfl
theorem bgt{K:TI→Prop}:@tyW Tryz.prog 257 ⟨K⟩=K K2:=qk bjs
theorem aBA:K2.kd=Kd.oth:=ID rfl
theorem arF:K2.kd.agg=false:=ID rfl
theorem alq:K2.size=1:=ID rfl
theorem aex:K2.bytes=8:=ID rfl
theorem aBy:qB K2=True:=eq_true rfl
theorem aBz:zc K2=[.v Value.nilFunc]:=ID rfl
theorem bgs{K:TI→Prop}:@tyW Tryz.prog 258 ⟨K⟩=K KZ:=qk bjr
theorem aBx:KZ.kd=Kd.oth:=ID rfl
theorem arE:KZ.kd.agg=false:=ID rfl
theorem alp:KZ.size=1:=ID rfl
theorem aew:KZ.bytes=8:=ID rfl
theorem aBv:qB KZ=True:=eq_true rfl
theorem aBw:zc KZ=[.v Value.nilFunc]:=ID rfl
theorem bgr{K:TI→Prop}:@tyW Tryz.prog 259 ⟨K⟩=K KY:=qk bjq
theorem aBu:KY.kd=Kd.oth:=ID rfl
theorem arD:KY.kd.agg=false:=ID rfl
theorem alo:KY.size=1:=ID rfl
theorem aev:KY.bytes=8:=ID rfl
theorem aBs:qB KY=True:=eq_true rfl
theorem aBt:zc KY=[.v Value.nilFunc]:=ID rfl
theorem bgq{K:TI→Prop}:@tyW Tryz.prog 261 ⟨K⟩=K KX:=qk bjp
theorem aBq:KX.kd=Kd.oth:=ID rfl
theorem arB:KX.kd.agg=false:=ID rfl
theorem alm:KX.size=1:=ID rfl
theorem aeu:KX.bytes=8:=ID rfl
theorem aBo:qB KX=True:=eq_true rfl
theorem aBp:zc KX=[.v Value.nilFunc]:=ID rfl
theorem bgp{K:TI→Prop}:@tyW Tryz.prog 263 ⟨K⟩=K KW:=qk bjo
theorem aBn:KW.kd=Kd.oth:=ID rfl
theorem arA:KW.kd.agg=false:=ID rfl
theorem alk:KW.size=1:=ID rfl
theorem aet:KW.bytes=8:=ID rfl
theorem aBl:qB KW=True:=eq_true rfl
theorem aBm:zc KW=[.v Value.nilFunc]:=ID rfl
theorem bgo{K:TI→Prop}:@tyW Tryz.prog 264 ⟨K⟩=K KU:=qk bjn
theorem aBk:KU.kd=Kd.oth:=ID rfl
theorem arz:KU.kd.agg=false:=ID rfl
theorem alj:KU.size=1:=ID rfl
theorem aes:KU.bytes=8:=ID rfl
theorem aBi:qB KU=True:=eq_true rfl
theorem aBj:zc KU=[.v Value.nilFunc]:=ID rfl
theorem bgn{K:TI→Prop}:@tyW Tryz.prog 265 ⟨K⟩=K KT:=qk bjm
theorem aBh:KT.kd=Kd.oth:=ID rfl
theorem ary:KT.kd.agg=false:=ID rfl
theorem ali:KT.size=1:=ID rfl
theorem aer:KT.bytes=8:=ID rfl
theorem aBf:qB KT=True:=eq_true rfl
theorem aBg:zc KT=[.v Value.nilFunc]:=ID rfl
theorem bgm{K:TI→Prop}:@tyW Tryz.prog 266 ⟨K⟩=K KS:=qk bjl
theorem aBe:KS.kd=Kd.oth:=ID rfl
theorem arx:KS.kd.agg=false:=ID rfl
theorem alh:KS.size=1:=ID rfl
theorem aeq:KS.bytes=8:=ID rfl
theorem aBc:qB KS=True:=eq_true rfl
theorem aBd:zc KS=[.v Value.nilFunc]:=ID rfl
theorem bgl{K:TI→Prop}:@tyW Tryz.prog 267 ⟨K⟩=K KR:=qk bjk
theorem aBb:KR.kd=Kd.oth:=ID rfl
theorem arw:KR.kd.agg=false:=ID rfl
theorem alg:KR.size=1:=ID rfl
theorem aep:KR.bytes=8:=ID rfl
theorem aA9:qB KR=True:=eq_true rfl
theorem aBa:zc KR=[.v Value.nilFunc]:=ID rfl
theorem bgk{K:TI→Prop}:@tyW Tryz.prog 269 ⟨K⟩=K KQ:=qk bjj
theorem aA8:KQ.kd=Kd.oth:=ID rfl
theorem arv:KQ.kd.agg=false:=ID rfl
theorem alf:KQ.size=1:=ID rfl
theorem aeo:KQ.bytes=8:=ID rfl
theorem aA6:qB KQ=True:=eq_true rfl
theorem aA7:zc KQ=[.v Value.nilFunc]:=ID rfl
theorem bgj{K:TI→Prop}:@tyW Tryz.prog 270 ⟨K⟩=K KP:=qk bji
theorem aA5:KP.kd=Kd.oth:=ID rfl
theorem aru:KP.kd.agg=false:=ID rfl
theorem ale:KP.size=1:=ID rfl
theorem aen:KP.bytes=8:=ID rfl
theorem aA3:qB KP=True:=eq_true rfl
theorem aA4:zc KP=[.v Value.nilFunc]:=ID rfl
theorem bgi{K:TI→Prop}:@tyW Tryz.prog 271 ⟨K⟩=K KO:=qk bjh
theorem aA2:KO.kd=Kd.oth:=ID rfl
theorem art:KO.kd.agg=false:=ID rfl
theorem ald:KO.size=1:=ID rfl
theorem aem:KO.bytes=8:=ID rfl
theorem aA0:qB KO=True:=eq_true rfl
theorem aA1:zc KO=[.v Value.nilFunc]:=ID rfl
theorem bgh{K:TI→Prop}:@tyW Tryz.prog 272 ⟨K⟩=K KN:=qk bjg
theorem aAZ:KN.kd=Kd.oth:=ID rfl
theorem ars:KN.kd.agg=false:=ID rfl
theorem alc:KN.size=1:=ID rfl
theorem ael:KN.bytes=8:=ID rfl
theorem aAX:qB KN=True:=eq_true rfl
theorem aAY:zc KN=[.v Value.nilFunc]:=ID rfl
theorem bgg{K:TI→Prop}:@tyW Tryz.prog 273 ⟨K⟩=K KM:=qk bjf
theorem aAW:KM.kd=Kd.oth:=ID rfl
theorem arq:KM.kd.agg=false:=ID rfl
theorem alb:KM.size=1:=ID rfl
theorem aek:KM.bytes=8:=ID rfl
theorem aAU:qB KM=True:=eq_true rfl
theorem aAV:zc KM=[.v Value.nilFunc]:=ID rfl
theorem bgf{K:TI→Prop}:@tyW Tryz.prog 274 ⟨K⟩=K KL:=qk bje
theorem aAT:KL.kd=Kd.oth:=ID rfl
theorem arp:KL.kd.agg=false:=ID rfl
theorem ala:KL.size=1:=ID rfl
theorem aej:KL.bytes=8:=ID rfl
theorem aAR:qB KL=True:=eq_true rfl
theorem aAS:zc KL=[.v Value.nilFunc]:=ID rfl
theorem bge{K:TI→Prop}:@tyW Tryz.prog 275 ⟨K⟩=K KK:=qk bjd
theorem aAQ:KK.kd=Kd.oth:=ID rfl
theorem aro:KK.kd.agg=false:=ID rfl
theorem ak9:KK.size=1:=ID rfl
theorem aei:KK.bytes=8:=ID rfl
theorem aAO:qB KK=True:=eq_true rfl
theorem aAP:zc KK=[.v Value.nilFunc]:=ID rfl
theorem bgd{K:TI→Prop}:@tyW Tryz.prog 276 ⟨K⟩=K KJ:=qk bjc
theorem aAN:KJ.kd=Kd.oth:=ID rfl
theorem arn:KJ.kd.agg=false:=ID rfl
theorem ak8:KJ.size=1:=ID rfl
theorem aeh:KJ.bytes=8:=ID rfl
theorem aAL:qB KJ=True:=eq_true rfl
theorem aAM:zc KJ=[.v Value.nilFunc]:=ID rfl
theorem bgc{K:TI→Prop}:@tyW Tryz.prog 277 ⟨K⟩=K KI:=qk bjb
theorem aAK:KI.kd=Kd.oth:=ID rfl
theorem arm:KI.kd.agg=false:=ID rfl
theorem ak7:KI.size=1:=ID rfl
theorem aeg:KI.bytes=8:=ID rfl
theorem aAI:qB KI=True:=eq_true rfl
theorem aAJ:zc KI=[.v Value.nilFunc]:=ID rfl
theorem bgb{K:TI→Prop}:@tyW Tryz.prog 278 ⟨K⟩=K KH:=qk bja
theorem aAH:KH.kd=Kd.oth:=ID rfl
theorem arl:KH.kd.agg=false:=ID rfl
theorem ak6:KH.size=1:=ID rfl
theorem aef:KH.bytes=8:=ID rfl
theorem aAF:qB KH=True:=eq_true rfl
theorem aAG:zc KH=[.v Value.nilFunc]:=ID rfl
theorem bga{K:TI→Prop}:@tyW Tryz.prog 280 ⟨K⟩=K KG:=qk bi9
theorem aAD:KG.kd=Kd.oth:=ID rfl
theorem arj:KG.kd.agg=false:=ID rfl
theorem ak4:KG.size=1:=ID rfl
theorem aee:KG.bytes=8:=ID rfl
theorem aAB:qB KG=True:=eq_true rfl
theorem aAC:zc KG=[.v Value.nilFunc]:=ID rfl
theorem bf9{K:TI→Prop}:@tyW Tryz.prog 281 ⟨K⟩=K KF:=qk bi8
theorem aAA:KF.kd=Kd.oth:=ID rfl
theorem ari:KF.kd.agg=false:=ID rfl
theorem ak3:KF.size=1:=ID rfl
theorem aed:KF.bytes=8:=ID rfl
theorem aAy:qB KF=True:=eq_true rfl
theorem aAz:zc KF=[.v Value.nilFunc]:=ID rfl
theorem bf8{K:TI→Prop}:@tyW Tryz.prog 282 ⟨K⟩=K KE:=qk bi7
theorem aAx:KE.kd=Kd.oth:=ID rfl
theorem arh:KE.kd.agg=false:=ID rfl
theorem ak2:KE.size=1:=ID rfl
theorem aec:KE.bytes=8:=ID rfl
theorem aAv:qB KE=True:=eq_true rfl
theorem aAw:zc KE=[.v Value.nilFunc]:=ID rfl
theorem bf7{K:TI→Prop}:@tyW Tryz.prog 283 ⟨K⟩=K KD:=qk bi6
theorem aAu:KD.kd=Kd.oth:=ID rfl
theorem arg:KD.kd.agg=false:=ID rfl
theorem ak1:KD.size=1:=ID rfl
theorem aeb:KD.bytes=8:=ID rfl
theorem aAs:qB KD=True:=eq_true rfl
theorem aAt:zc KD=[.v Value.nilFunc]:=ID rfl
theorem bf6{K:TI→Prop}:@tyW Tryz.prog 284 ⟨K⟩=K KC:=qk bi5
theorem aAr:KC.kd=Kd.oth:=ID rfl
theorem arf:KC.kd.agg=false:=ID rfl
theorem ak0:KC.size=1:=ID rfl
theorem aea:KC.bytes=8:=ID rfl
theorem aAp:qB KC=True:=eq_true rfl
theorem aAq:zc KC=[.v Value.nilFunc]:=ID rfl
theorem bf5{K:TI→Prop}:@tyW Tryz.prog 285 ⟨K⟩=K KB:=qk aXB
theorem aAo:KB.kd=Kd.sli 22:=ID rfl
theorem ard:KB.kd.agg=false:=ID rfl
theorem akZ:KB.size=1:=ID rfl
theorem ad9:KB.bytes=24:=ID rfl
theorem aAm:qB KB=True:=eq_true rfl
theorem aAn:zc KB=[.v (Value.slice none 0 0)]:=ID rfl
theorem aXS{K:TI→Prop}:@Ql Tryz.prog 285 ⟨K⟩=K Y7:=QU aXB rfl agQ
theorem bf4{K:TI→Prop}:@tyW Tryz.prog 286 ⟨K⟩=K KA:=qk bi4
theorem aAl:KA.kd=Kd.oth:=ID rfl
theorem arc:KA.kd.agg=false:=ID rfl
theorem akY:KA.size=1:=ID rfl
theorem ad8:KA.bytes=8:=ID rfl
theorem aAj:qB KA=True:=eq_true rfl
theorem aAk:zc KA=[.v Value.nilFunc]:=ID rfl
theorem bf3{K:TI→Prop}:@tyW Tryz.prog 287 ⟨K⟩=K Kw:=qk bi3
theorem aAi:Kw.kd=Kd.oth:=ID rfl
theorem arb:Kw.kd.agg=false:=ID rfl
theorem akX:Kw.size=1:=ID rfl
theorem ad7:Kw.bytes=8:=ID rfl
theorem aAg:qB Kw=True:=eq_true rfl
theorem aAh:zc Kw=[.v Value.nilFunc]:=ID rfl
theorem bf2{K:TI→Prop}:@tyW Tryz.prog 288 ⟨K⟩=K Kv:=qk bi2
theorem aAf:Kv.kd=Kd.oth:=ID rfl
theorem ara:Kv.kd.agg=false:=ID rfl
theorem akW:Kv.size=1:=ID rfl
theorem ad6:Kv.bytes=8:=ID rfl
theorem aAd:qB Kv=True:=eq_true rfl
theorem aAe:zc Kv=[.v Value.nilFunc]:=ID rfl
theorem bf1{K:TI→Prop}:@tyW Tryz.prog 290 ⟨K⟩=K Ku:=qk bi1
theorem aAb:Ku.kd=Kd.oth:=ID rfl
theorem aq8:Ku.kd.agg=false:=ID rfl
theorem akU:Ku.size=1:=ID rfl
theorem ad5:Ku.bytes=8:=ID rfl
theorem az9:qB Ku=True:=eq_true rfl
theorem aAa:zc Ku=[.v Value.nilFunc]:=ID rfl
theorem bf0{K:TI→Prop}:@tyW Tryz.prog 291 ⟨K⟩=K Kt:=qk bi0
theorem az8:Kt.kd=Kd.oth:=ID rfl
theorem aq7:Kt.kd.agg=false:=ID rfl
theorem akT:Kt.size=1:=ID rfl
theorem ad4:Kt.bytes=8:=ID rfl
theorem az6:qB Kt=True:=eq_true rfl
theorem az7:zc Kt=[.v Value.nilFunc]:=ID rfl
theorem bfZ{K:TI→Prop}:@tyW Tryz.prog 292 ⟨K⟩=K Ks:=qk biZ
theorem az5:Ks.kd=Kd.oth:=ID rfl
theorem aq6:Ks.kd.agg=false:=ID rfl
theorem akS:Ks.size=1:=ID rfl
theorem ad3:Ks.bytes=8:=ID rfl
theorem az3:qB Ks=True:=eq_true rfl
theorem az4:zc Ks=[.v Value.nilFunc]:=ID rfl
theorem bfY{K:TI→Prop}:@tyW Tryz.prog 293 ⟨K⟩=K Kr:=qk biY
theorem az2:Kr.kd=Kd.int IntKind.u32:=ID rfl
theorem aq5:Kr.kd.agg=false:=ID rfl
theorem akR:Kr.size=1:=ID rfl
theorem ad2:Kr.bytes=4:=ID rfl
theorem az0:qB Kr=True:=eq_true rfl
theorem az1:zc Kr=[.v (Value.int IntKind.u32 0)]:=ID rfl
theorem bfX{K:TI→Prop}:@tyW Tryz.prog 294 ⟨K⟩=K Kq:=qk biX
theorem azZ:Kq.kd=Kd.oth:=ID rfl
theorem aq4:Kq.kd.agg=false:=ID rfl
theorem akQ:Kq.size=1:=ID rfl
theorem ad1:Kq.bytes=8:=ID rfl
theorem azX:qB Kq=True:=eq_true rfl
theorem azY:zc Kq=[.v Value.nilFunc]:=ID rfl
theorem bfW{K:TI→Prop}:@tyW Tryz.prog 295 ⟨K⟩=K Kp:=qk biW
theorem azW:Kp.kd=Kd.int IntKind.u64:=ID rfl
theorem aq3:Kp.kd.agg=false:=ID rfl
theorem akP:Kp.size=1:=ID rfl
theorem ad0:Kp.bytes=8:=ID rfl
theorem azU:qB Kp=True:=eq_true rfl
theorem azV:zc Kp=[.v (Value.int IntKind.u64 0)]:=ID rfl
theorem bfV{K:TI→Prop}:@tyW Tryz.prog 296 ⟨K⟩=K Ko:=qk biV
theorem azT:Ko.kd=Kd.oth:=ID rfl
theorem aq2:Ko.kd.agg=false:=ID rfl
theorem akO:Ko.size=1:=ID rfl
theorem adY:Ko.bytes=8:=ID rfl
theorem azR:qB Ko=True:=eq_true rfl
theorem azS:zc Ko=[.v Value.nilFunc]:=ID rfl
theorem bfU{K:TI→Prop}:@tyW Tryz.prog 297 ⟨K⟩=K Kn:=qk biU
theorem azQ:Kn.kd=Kd.oth:=ID rfl
theorem aq1:Kn.kd.agg=false:=ID rfl
theorem akN:Kn.size=1:=ID rfl
theorem adX:Kn.bytes=8:=ID rfl
theorem azO:qB Kn=True:=eq_true rfl
theorem azP:zc Kn=[.v Value.nilFunc]:=ID rfl
theorem bfT{K:TI→Prop}:@tyW Tryz.prog 301 ⟨K⟩=K Km:=qk biT
theorem azL:Km.kd=Kd.oth:=ID rfl
theorem aqY:Km.kd.agg=false:=ID rfl
theorem akL:Km.size=1:=ID rfl
theorem adW:Km.bytes=8:=ID rfl
theorem azJ:qB Km=True:=eq_true rfl
theorem azK:zc Km=[.v Value.nilFunc]:=ID rfl
theorem bfS{K:TI→Prop}:@tyW Tryz.prog 302 ⟨K⟩=K Kl:=qk biS
theorem azI:Kl.kd=Kd.oth:=ID rfl
theorem aqX:Kl.kd.agg=false:=ID rfl
theorem akK:Kl.size=1:=ID rfl
theorem adV:Kl.bytes=8:=ID rfl
theorem azG:qB Kl=True:=eq_true rfl
theorem azH:zc Kl=[.v Value.nilFunc]:=ID rfl
theorem bfR{K:TI→Prop}:@tyW Tryz.prog 304 ⟨K⟩=K Kk:=qk biR
theorem azF:Kk.kd=Kd.oth:=ID rfl
theorem aqW:Kk.kd.agg=false:=ID rfl
theorem akJ:Kk.size=1:=ID rfl
theorem adU:Kk.bytes=8:=ID rfl
theorem azD:qB Kk=True:=eq_true rfl
theorem azE:zc Kk=[.v Value.nilFunc]:=ID rfl
theorem bfQ{K:TI→Prop}:@tyW Tryz.prog 305 ⟨K⟩=K Kj:=qk biQ
theorem azC:Kj.kd=Kd.oth:=ID rfl
theorem aqV:Kj.kd.agg=false:=ID rfl
theorem akI:Kj.size=1:=ID rfl
theorem adT:Kj.bytes=8:=ID rfl
theorem azA:qB Kj=True:=eq_true rfl
theorem azB:zc Kj=[.v Value.nilFunc]:=ID rfl
theorem bfP{K:TI→Prop}:@tyW Tryz.prog 307 ⟨K⟩=K Ki:=qk biP
theorem azz:Ki.kd=Kd.oth:=ID rfl
theorem aqU:Ki.kd.agg=false:=ID rfl
theorem akH:Ki.size=1:=ID rfl
theorem adR:Ki.bytes=8:=ID rfl
theorem azx:qB Ki=True:=eq_true rfl
theorem azy:zc Ki=[.v Value.nilFunc]:=ID rfl
theorem bfO{K:TI→Prop}:@tyW Tryz.prog 308 ⟨K⟩=K Kh:=qk biO
theorem azw:Kh.kd=Kd.oth:=ID rfl
theorem aqT:Kh.kd.agg=false:=ID rfl
theorem akG:Kh.size=1:=ID rfl
theorem adQ:Kh.bytes=8:=ID rfl
theorem azu:qB Kh=True:=eq_true rfl
theorem azv:zc Kh=[.v Value.nilFunc]:=ID rfl
theorem bfN{K:TI→Prop}:@tyW Tryz.prog 309 ⟨K⟩=K Kg:=qk biN
theorem azt:Kg.kd=Kd.oth:=ID rfl
theorem aqS:Kg.kd.agg=false:=ID rfl
theorem akF:Kg.size=1:=ID rfl
theorem adP:Kg.bytes=8:=ID rfl
theorem azr:qB Kg=True:=eq_true rfl
theorem azs:zc Kg=[.v Value.nilFunc]:=ID rfl
theorem bfM{K:TI→Prop}:@tyW Tryz.prog 310 ⟨K⟩=K Kf:=qk biM
theorem azp:Kf.kd=Kd.oth:=ID rfl
theorem aqQ:Kf.kd.agg=false:=ID rfl
theorem akD:Kf.size=1:=ID rfl
theorem adO:Kf.bytes=8:=ID rfl
theorem azn:qB Kf=True:=eq_true rfl
theorem azo:zc Kf=[.v Value.nilFunc]:=ID rfl
theorem bru:qt Tryz.prog 2=True:=eq_true ⟨_,Tryz.func2,of_decide_eq_false (by kernel_rfl),rfl⟩
theorem brt:qt Tryz.prog 3=True:=eq_true ⟨_,Tryz.func3,of_decide_eq_false (by kernel_rfl),rfl⟩
theorem brs:qt Tryz.prog 4=True:=eq_true ⟨_,Tryz.func4,of_decide_eq_false (by kernel_rfl),rfl⟩
theorem brr:qt Tryz.prog 5=True:=eq_true ⟨_,Tryz.func5,of_decide_eq_false (by kernel_rfl),rfl⟩
theorem brq:qt Tryz.prog 6=True:=eq_true ⟨_,Tryz.func6,of_decide_eq_false (by kernel_rfl),rfl⟩
theorem brp:qt Tryz.prog 7=True:=eq_true ⟨_,Tryz.func7,of_decide_eq_false (by kernel_rfl),rfl⟩
theorem bro:qt Tryz.prog 8=True:=eq_true ⟨_,Tryz.func8,of_decide_eq_false (by kernel_rfl),rfl⟩
theorem brn:qt Tryz.prog 9=True:=eq_true ⟨_,Tryz.func9,of_decide_eq_false (by kernel_rfl),rfl⟩
theorem bnM:qt Tryz.prog 10=True:=eq_true ⟨_,Tryz.func10,of_decide_eq_false (by kernel_rfl),rfl⟩
theorem bnL:qt Tryz.prog 11=True:=eq_true ⟨_,Tryz.func11,of_decide_eq_false (by kernel_rfl),rfl⟩
theorem bnK:qt Tryz.prog 12=True:=eq_true ⟨_,Tryz.func12,of_decide_eq_false (by kernel_rfl),rfl⟩
theorem bnJ:qt Tryz.prog 13=True:=eq_true ⟨_,Tryz.func13,of_decide_eq_false (by kernel_rfl),rfl⟩
theorem bnI:qt Tryz.prog 14=True:=eq_true ⟨_,Tryz.func14,of_decide_eq_false (by kernel_rfl),rfl⟩
theorem bnH:qt Tryz.prog 15=True:=eq_true ⟨_,Tryz.func15,of_decide_eq_false (by kernel_rfl),rfl⟩
theorem bnG:qt Tryz.prog 16=True:=eq_true ⟨_,Tryz.func16,of_decide_eq_false (by kernel_rfl),rfl⟩
theorem bnF:qt Tryz.prog 17=True:=eq_true ⟨_,Tryz.func17,of_decide_eq_false (by kernel_rfl),rfl⟩
theorem bnE:qt Tryz.prog 18=True:=eq_true ⟨_,Tryz.func18,of_decide_eq_false (by kernel_rfl),rfl⟩
theorem bnD:qt Tryz.prog 19=True:=eq_true ⟨_,Tryz.func19,of_decide_eq_false (by kernel_rfl),rfl⟩
theorem bnC:qt Tryz.prog 20=True:=eq_true ⟨_,Tryz.func20,of_decide_eq_false (by kernel_rfl),rfl⟩
theorem bnB:qt Tryz.prog 21=True:=eq_true ⟨_,Tryz.func21,of_decide_eq_false (by kernel_rfl),rfl⟩
theorem bnA:qt Tryz.prog 22=True:=eq_true ⟨_,Tryz.func22,of_decide_eq_false (by kernel_rfl),rfl⟩
theorem bnz:qt Tryz.prog 23=True:=eq_true ⟨_,Tryz.func23,of_decide_eq_false (by kernel_rfl),rfl⟩
theorem bny:qt Tryz.prog 24=True:=eq_true ⟨_,Tryz.func24,of_decide_eq_false (by kernel_rfl),rfl⟩
theorem bnx:qt Tryz.prog 25=True:=eq_true ⟨_,Tryz.func25,of_decide_eq_false (by kernel_rfl),rfl⟩
theorem bnw:qt Tryz.prog 26=True:=eq_true ⟨_,Tryz.func26,of_decide_eq_false (by kernel_rfl),rfl⟩
theorem bnv:qt Tryz.prog 27=True:=eq_true ⟨_,Tryz.func27,of_decide_eq_false (by kernel_rfl),rfl⟩
theorem bnu:qt Tryz.prog 28=True:=eq_true ⟨_,Tryz.func28,of_decide_eq_false (by kernel_rfl),rfl⟩
theorem bnt:qt Tryz.prog 29=True:=eq_true ⟨_,Tryz.func29,of_decide_eq_false (by kernel_rfl),rfl⟩
theorem bns:qt Tryz.prog 30=True:=eq_true ⟨_,Tryz.func30,of_decide_eq_false (by kernel_rfl),rfl⟩
theorem bnr:qt Tryz.prog 31=True:=eq_true ⟨_,Tryz.func31,of_decide_eq_false (by kernel_rfl),rfl⟩
theorem bnq:qt Tryz.prog 32=True:=eq_true ⟨_,Tryz.func32,of_decide_eq_false (by kernel_rfl),rfl⟩
theorem bnp:qt Tryz.prog 33=True:=eq_true ⟨_,Tryz.func33,of_decide_eq_false (by kernel_rfl),rfl⟩
theorem bno:qt Tryz.prog 34=True:=eq_true ⟨_,Tryz.func34,of_decide_eq_false (by kernel_rfl),rfl⟩
theorem bnn:qt Tryz.prog 35=True:=eq_true ⟨_,Tryz.func35,of_decide_eq_false (by kernel_rfl),rfl⟩
theorem bnm:qt Tryz.prog 36=True:=eq_true ⟨_,Tryz.func36,of_decide_eq_false (by kernel_rfl),rfl⟩
theorem bnl:qt Tryz.prog 37=True:=eq_true ⟨_,Tryz.func37,of_decide_eq_false (by kernel_rfl),rfl⟩
theorem bnk:qt Tryz.prog 38=True:=eq_true ⟨_,Tryz.func38,of_decide_eq_false (by kernel_rfl),rfl⟩
theorem bnj:qt Tryz.prog 39=True:=eq_true ⟨_,Tryz.func39,of_decide_eq_false (by kernel_rfl),rfl⟩
theorem bni:qt Tryz.prog 40=True:=eq_true ⟨_,Tryz.func40,of_decide_eq_false (by kernel_rfl),rfl⟩
theorem bnh:qt Tryz.prog 41=True:=eq_true ⟨_,Tryz.func41,of_decide_eq_false (by kernel_rfl),rfl⟩
theorem bng:qt Tryz.prog 42=True:=eq_true ⟨_,Tryz.func42,of_decide_eq_false (by kernel_rfl),rfl⟩
theorem bne:qt Tryz.prog 43=True:=eq_true ⟨_,Tryz.func43,of_decide_eq_false (by kernel_rfl),rfl⟩
theorem bnd:qt Tryz.prog 44=True:=eq_true ⟨_,Tryz.func44,of_decide_eq_false (by kernel_rfl),rfl⟩
theorem bnc:qt Tryz.prog 45=True:=eq_true ⟨_,Tryz.func45,of_decide_eq_false (by kernel_rfl),rfl⟩
theorem bnb:qt Tryz.prog 46=True:=eq_true ⟨_,Tryz.func46,of_decide_eq_false (by kernel_rfl),rfl⟩
theorem bna:qt Tryz.prog 47=True:=eq_true ⟨_,Tryz.func47,of_decide_eq_false (by kernel_rfl),rfl⟩
theorem bm9:qt Tryz.prog 48=True:=eq_true ⟨_,Tryz.func48,of_decide_eq_false (by kernel_rfl),rfl⟩
theorem bm8:qt Tryz.prog 49=True:=eq_true ⟨_,Tryz.func49,of_decide_eq_false (by kernel_rfl),rfl⟩
theorem bm7:qt Tryz.prog 50=True:=eq_true ⟨_,Tryz.func50,of_decide_eq_false (by kernel_rfl),rfl⟩
theorem bm6:qt Tryz.prog 51=True:=eq_true ⟨_,Tryz.func51,of_decide_eq_false (by kernel_rfl),rfl⟩
theorem bm5:qt Tryz.prog 52=True:=eq_true ⟨_,Tryz.func52,of_decide_eq_false (by kernel_rfl),rfl⟩
theorem bm4:qt Tryz.prog 53=True:=eq_true ⟨_,Tryz.func53,of_decide_eq_false (by kernel_rfl),rfl⟩
theorem bm3:qt Tryz.prog 54=True:=eq_true ⟨_,Tryz.func54,of_decide_eq_false (by kernel_rfl),rfl⟩
theorem bm2:qt Tryz.prog 55=True:=eq_true ⟨_,Tryz.func55,of_decide_eq_false (by kernel_rfl),rfl⟩
theorem bm1:qt Tryz.prog 56=True:=eq_true ⟨_,Tryz.func56,of_decide_eq_false (by kernel_rfl),rfl⟩
theorem bm0:qt Tryz.prog 57=True:=eq_true ⟨_,Tryz.func57,of_decide_eq_false (by kernel_rfl),rfl⟩
theorem bmZ:qt Tryz.prog 58=True:=eq_true ⟨_,Tryz.func58,of_decide_eq_false (by kernel_rfl),rfl⟩
theorem bmY:qt Tryz.prog 59=True:=eq_true ⟨_,Tryz.func59,of_decide_eq_false (by kernel_rfl),rfl⟩
theorem bmX:qt Tryz.prog 60=True:=eq_true ⟨_,Tryz.func60,of_decide_eq_false (by kernel_rfl),rfl⟩
theorem bmW:qt Tryz.prog 61=True:=eq_true ⟨_,Tryz.func61,of_decide_eq_false (by kernel_rfl),rfl⟩
theorem bmV:qt Tryz.prog 62=True:=eq_true ⟨_,Tryz.func62,of_decide_eq_false (by kernel_rfl),rfl⟩
theorem bmU:qt Tryz.prog 63=True:=eq_true ⟨_,Tryz.func63,of_decide_eq_false (by kernel_rfl),rfl⟩
theorem bmT:qt Tryz.prog 64=True:=eq_true ⟨_,Tryz.func64,of_decide_eq_false (by kernel_rfl),rfl⟩
theorem bmS:qt Tryz.prog 65=True:=eq_true ⟨_,Tryz.func65,of_decide_eq_false (by kernel_rfl),rfl⟩
theorem bmR:qt Tryz.prog 66=True:=eq_true ⟨_,Tryz.func66,of_decide_eq_false (by kernel_rfl),rfl⟩
theorem bmQ:qt Tryz.prog 67=True:=eq_true ⟨_,Tryz.func67,of_decide_eq_false (by kernel_rfl),rfl⟩
theorem bmP:qt Tryz.prog 68=True:=eq_true ⟨_,Tryz.func68,of_decide_eq_false (by kernel_rfl),rfl⟩
theorem bmO:qt Tryz.prog 69=True:=eq_true ⟨_,Tryz.func69,of_decide_eq_false (by kernel_rfl),rfl⟩
theorem bmN:qt Tryz.prog 70=True:=eq_true ⟨_,Tryz.func70,of_decide_eq_false (by kernel_rfl),rfl⟩
theorem bmM:qt Tryz.prog 71=True:=eq_true ⟨_,Tryz.func71,of_decide_eq_false (by kernel_rfl),rfl⟩
theorem bmL:qt Tryz.prog 72=True:=eq_true ⟨_,Tryz.func72,of_decide_eq_false (by kernel_rfl),rfl⟩
theorem bmK:qt Tryz.prog 73=True:=eq_true ⟨_,Tryz.func73,of_decide_eq_false (by kernel_rfl),rfl⟩
theorem bmJ:qt Tryz.prog 74=True:=eq_true ⟨_,Tryz.func74,of_decide_eq_false (by kernel_rfl),rfl⟩
theorem bmI:qt Tryz.prog 75=True:=eq_true ⟨_,Tryz.func75,of_decide_eq_false (by kernel_rfl),rfl⟩
theorem bmH:qt Tryz.prog 76=True:=eq_true ⟨_,Tryz.func76,of_decide_eq_false (by kernel_rfl),rfl⟩
theorem bmG:qt Tryz.prog 77=True:=eq_true ⟨_,Tryz.func77,of_decide_eq_false (by kernel_rfl),rfl⟩
theorem bmF:qt Tryz.prog 78=True:=eq_true ⟨_,Tryz.func78,of_decide_eq_false (by kernel_rfl),rfl⟩
theorem bmE:qt Tryz.prog 79=True:=eq_true ⟨_,Tryz.func79,of_decide_eq_false (by kernel_rfl),rfl⟩
theorem bmD:qt Tryz.prog 80=True:=eq_true ⟨_,Tryz.func80,of_decide_eq_false (by kernel_rfl),rfl⟩
theorem bmC:qt Tryz.prog 81=True:=eq_true ⟨_,Tryz.func81,of_decide_eq_false (by kernel_rfl),rfl⟩
theorem bmB:qt Tryz.prog 82=True:=eq_true ⟨_,Tryz.func82,of_decide_eq_false (by kernel_rfl),rfl⟩
theorem bmA:qt Tryz.prog 83=True:=eq_true ⟨_,Tryz.func83,of_decide_eq_false (by kernel_rfl),rfl⟩
theorem bmz:qt Tryz.prog 84=True:=eq_true ⟨_,Tryz.func84,of_decide_eq_false (by kernel_rfl),rfl⟩
theorem bmy:qt Tryz.prog 85=True:=eq_true ⟨_,Tryz.func85,of_decide_eq_false (by kernel_rfl),rfl⟩
theorem bmx:qt Tryz.prog 86=True:=eq_true ⟨_,Tryz.func86,of_decide_eq_false (by kernel_rfl),rfl⟩
theorem bmw:qt Tryz.prog 87=True:=eq_true ⟨_,Tryz.func87,of_decide_eq_false (by kernel_rfl),rfl⟩
theorem bmv:qt Tryz.prog 88=True:=eq_true ⟨_,Tryz.func88,of_decide_eq_false (by kernel_rfl),rfl⟩
theorem bmu:qt Tryz.prog 89=True:=eq_true ⟨_,Tryz.func89,of_decide_eq_false (by kernel_rfl),rfl⟩
theorem bmt:qt Tryz.prog 90=True:=eq_true ⟨_,Tryz.func90,of_decide_eq_false (by kernel_rfl),rfl⟩
theorem bms:qt Tryz.prog 91=True:=eq_true ⟨_,Tryz.func91,of_decide_eq_false (by kernel_rfl),rfl⟩
theorem bmr:qt Tryz.prog 92=True:=eq_true ⟨_,Tryz.func92,of_decide_eq_false (by kernel_rfl),rfl⟩
theorem bmq:qt Tryz.prog 93=True:=eq_true ⟨_,Tryz.func93,of_decide_eq_false (by kernel_rfl),rfl⟩
theorem bmp:qt Tryz.prog 94=True:=eq_true ⟨_,Tryz.func94,of_decide_eq_false (by kernel_rfl),rfl⟩
theorem bmo:qt Tryz.prog 95=True:=eq_true ⟨_,Tryz.func95,of_decide_eq_false (by kernel_rfl),rfl⟩
theorem bmn:qt Tryz.prog 96=True:=eq_true ⟨_,Tryz.func96,of_decide_eq_false (by kernel_rfl),rfl⟩
theorem bmm:qt Tryz.prog 97=True:=eq_true ⟨_,Tryz.func97,of_decide_eq_false (by kernel_rfl),rfl⟩
theorem bml:qt Tryz.prog 98=True:=eq_true ⟨_,Tryz.func98,of_decide_eq_false (by kernel_rfl),rfl⟩
theorem bmk:qt Tryz.prog 99=True:=eq_true ⟨_,Tryz.func99,of_decide_eq_false (by kernel_rfl),rfl⟩
theorem bed:qt Tryz.prog 100=True:=eq_true ⟨_,Tryz.func100,of_decide_eq_false (by kernel_rfl),rfl⟩
theorem bec:qt Tryz.prog 101=True:=eq_true ⟨_,Tryz.func101,of_decide_eq_false (by kernel_rfl),rfl⟩
theorem beb:qt Tryz.prog 102=True:=eq_true ⟨_,Tryz.func102,of_decide_eq_false (by kernel_rfl),rfl⟩
theorem bea:qt Tryz.prog 103=True:=eq_true ⟨_,Tryz.func103,of_decide_eq_false (by kernel_rfl),rfl⟩
theorem bd9:qt Tryz.prog 104=True:=eq_true ⟨_,Tryz.func104,of_decide_eq_false (by kernel_rfl),rfl⟩
theorem bd8:qt Tryz.prog 105=True:=eq_true ⟨_,Tryz.func105,of_decide_eq_false (by kernel_rfl),rfl⟩
theorem bd7:qt Tryz.prog 106=True:=eq_true ⟨_,Tryz.func106,of_decide_eq_false (by kernel_rfl),rfl⟩
theorem bd6:qt Tryz.prog 107=True:=eq_true ⟨_,Tryz.func107,of_decide_eq_false (by kernel_rfl),rfl⟩
theorem bd5:qt Tryz.prog 108=True:=eq_true ⟨_,Tryz.func108,of_decide_eq_false (by kernel_rfl),rfl⟩
theorem bd4:qt Tryz.prog 109=True:=eq_true ⟨_,Tryz.func109,of_decide_eq_false (by kernel_rfl),rfl⟩
theorem bd3:qt Tryz.prog 110=True:=eq_true ⟨_,Tryz.func110,of_decide_eq_false (by kernel_rfl),rfl⟩
theorem bd2:qt Tryz.prog 111=True:=eq_true ⟨_,Tryz.func111,of_decide_eq_false (by kernel_rfl),rfl⟩
theorem bd1:qt Tryz.prog 112=True:=eq_true ⟨_,Tryz.func112,of_decide_eq_false (by kernel_rfl),rfl⟩
theorem bd0:qt Tryz.prog 113=True:=eq_true ⟨_,Tryz.func113,of_decide_eq_false (by kernel_rfl),rfl⟩
theorem bdZ:qt Tryz.prog 114=True:=eq_true ⟨_,Tryz.func114,of_decide_eq_false (by kernel_rfl),rfl⟩
theorem bdY:qt Tryz.prog 115=True:=eq_true ⟨_,Tryz.func115,of_decide_eq_false (by kernel_rfl),rfl⟩
theorem bdX:qt Tryz.prog 116=True:=eq_true ⟨_,Tryz.func116,of_decide_eq_false (by kernel_rfl),rfl⟩
theorem bdW:qt Tryz.prog 117=True:=eq_true ⟨_,Tryz.func117,of_decide_eq_false (by kernel_rfl),rfl⟩
theorem bdV:qt Tryz.prog 118=True:=eq_true ⟨_,Tryz.func118,of_decide_eq_false (by kernel_rfl),rfl⟩
theorem bdU:qt Tryz.prog 119=True:=eq_true ⟨_,Tryz.func119,of_decide_eq_false (by kernel_rfl),rfl⟩
theorem bdT:qt Tryz.prog 120=True:=eq_true ⟨_,Tryz.func120,of_decide_eq_false (by kernel_rfl),rfl⟩
theorem bdS:qt Tryz.prog 121=True:=eq_true ⟨_,Tryz.func121,of_decide_eq_false (by kernel_rfl),rfl⟩
theorem bdR:qt Tryz.prog 122=True:=eq_true ⟨_,Tryz.func122,of_decide_eq_false (by kernel_rfl),rfl⟩
theorem bdQ:qt Tryz.prog 123=True:=eq_true ⟨_,Tryz.func123,of_decide_eq_false (by kernel_rfl),rfl⟩
theorem bdP:qt Tryz.prog 124=True:=eq_true ⟨_,Tryz.func124,of_decide_eq_false (by kernel_rfl),rfl⟩
theorem bdO:qt Tryz.prog 125=True:=eq_true ⟨_,Tryz.func125,of_decide_eq_false (by kernel_rfl),rfl⟩
theorem bdN:qt Tryz.prog 126=True:=eq_true ⟨_,Tryz.func126,of_decide_eq_false (by kernel_rfl),rfl⟩
theorem bdM:qt Tryz.prog 127=True:=eq_true ⟨_,Tryz.func127,of_decide_eq_false (by kernel_rfl),rfl⟩
theorem bdL:qt Tryz.prog 128=True:=eq_true ⟨_,Tryz.func128,of_decide_eq_false (by kernel_rfl),rfl⟩
theorem bdK:qt Tryz.prog 129=True:=eq_true ⟨_,Tryz.func129,of_decide_eq_false (by kernel_rfl),rfl⟩
theorem bdJ:qt Tryz.prog 130=True:=eq_true ⟨_,Tryz.func130,of_decide_eq_false (by kernel_rfl),rfl⟩
theorem bdI:qt Tryz.prog 131=True:=eq_true ⟨_,Tryz.func131,of_decide_eq_false (by kernel_rfl),rfl⟩
theorem bdH:qt Tryz.prog 132=True:=eq_true ⟨_,Tryz.func132,of_decide_eq_false (by kernel_rfl),rfl⟩
theorem bdG:qt Tryz.prog 133=True:=eq_true ⟨_,Tryz.func133,of_decide_eq_false (by kernel_rfl),rfl⟩
theorem bdF:qt Tryz.prog 134=True:=eq_true ⟨_,Tryz.func134,of_decide_eq_false (by kernel_rfl),rfl⟩
theorem bdE:qt Tryz.prog 135=True:=eq_true ⟨_,Tryz.func135,of_decide_eq_false (by kernel_rfl),rfl⟩
theorem bdD:qt Tryz.prog 136=True:=eq_true ⟨_,Tryz.func136,of_decide_eq_false (by kernel_rfl),rfl⟩
theorem bdC:qt Tryz.prog 137=True:=eq_true ⟨_,Tryz.func137,of_decide_eq_false (by kernel_rfl),rfl⟩
theorem bdB:qt Tryz.prog 138=True:=eq_true ⟨_,Tryz.func138,of_decide_eq_false (by kernel_rfl),rfl⟩
theorem bdA:qt Tryz.prog 139=True:=eq_true ⟨_,Tryz.func139,of_decide_eq_false (by kernel_rfl),rfl⟩
theorem bdz:qt Tryz.prog 140=True:=eq_true ⟨_,Tryz.func140,of_decide_eq_false (by kernel_rfl),rfl⟩
theorem bdy:qt Tryz.prog 141=True:=eq_true ⟨_,Tryz.func141,of_decide_eq_false (by kernel_rfl),rfl⟩
theorem bdx:qt Tryz.prog 142=True:=eq_true ⟨_,Tryz.func142,of_decide_eq_false (by kernel_rfl),rfl⟩
theorem bdw:qt Tryz.prog 143=True:=eq_true ⟨_,Tryz.func143,of_decide_eq_false (by kernel_rfl),rfl⟩
theorem bdv:qt Tryz.prog 144=True:=eq_true ⟨_,Tryz.func144,of_decide_eq_false (by kernel_rfl),rfl⟩
theorem bdu:qt Tryz.prog 145=True:=eq_true ⟨_,Tryz.func145,of_decide_eq_false (by kernel_rfl),rfl⟩
theorem bdt:qt Tryz.prog 146=True:=eq_true ⟨_,Tryz.func146,of_decide_eq_false (by kernel_rfl),rfl⟩
theorem bds:qt Tryz.prog 147=True:=eq_true ⟨_,Tryz.func147,of_decide_eq_false (by kernel_rfl),rfl⟩
theorem bdr:qt Tryz.prog 148=True:=eq_true ⟨_,Tryz.func148,of_decide_eq_false (by kernel_rfl),rfl⟩
theorem bdq:qt Tryz.prog 149=True:=eq_true ⟨_,Tryz.func149,of_decide_eq_false (by kernel_rfl),rfl⟩
theorem bdp:qt Tryz.prog 150=True:=eq_true ⟨_,Tryz.func150,of_decide_eq_false (by kernel_rfl),rfl⟩
theorem bdo:qt Tryz.prog 151=True:=eq_true ⟨_,Tryz.func151,of_decide_eq_false (by kernel_rfl),rfl⟩
theorem bdn:qt Tryz.prog 152=True:=eq_true ⟨_,Tryz.func152,of_decide_eq_false (by kernel_rfl),rfl⟩
theorem bdm:qt Tryz.prog 153=True:=eq_true ⟨_,Tryz.func153,of_decide_eq_false (by kernel_rfl),rfl⟩
theorem bdl:qt Tryz.prog 154=True:=eq_true ⟨_,Tryz.func154,of_decide_eq_false (by kernel_rfl),rfl⟩
theorem bdk:qt Tryz.prog 155=True:=eq_true ⟨_,Tryz.func155,of_decide_eq_false (by kernel_rfl),rfl⟩
theorem bdj:qt Tryz.prog 156=True:=eq_true ⟨_,Tryz.func156,of_decide_eq_false (by kernel_rfl),rfl⟩
theorem bdi:qt Tryz.prog 157=True:=eq_true ⟨_,Tryz.func157,of_decide_eq_false (by kernel_rfl),rfl⟩
theorem bdh:qt Tryz.prog 158=True:=eq_true ⟨_,Tryz.func158,of_decide_eq_false (by kernel_rfl),rfl⟩
theorem bdg:qt Tryz.prog 159=True:=eq_true ⟨_,Tryz.func159,of_decide_eq_false (by kernel_rfl),rfl⟩
theorem bdf:qt Tryz.prog 160=True:=eq_true ⟨_,Tryz.func160,of_decide_eq_false (by kernel_rfl),rfl⟩
theorem bde:qt Tryz.prog 161=True:=eq_true ⟨_,Tryz.func161,of_decide_eq_false (by kernel_rfl),rfl⟩
theorem bdd:qt Tryz.prog 162=True:=eq_true ⟨_,Tryz.func162,of_decide_eq_false (by kernel_rfl),rfl⟩
theorem bdc:qt Tryz.prog 163=True:=eq_true ⟨_,Tryz.func163,of_decide_eq_false (by kernel_rfl),rfl⟩
theorem bdb:qt Tryz.prog 164=True:=eq_true ⟨_,Tryz.func164,of_decide_eq_false (by kernel_rfl),rfl⟩
theorem bda:qt Tryz.prog 165=True:=eq_true ⟨_,Tryz.func165,of_decide_eq_false (by kernel_rfl),rfl⟩
theorem bc9:qt Tryz.prog 166=True:=eq_true ⟨_,Tryz.func166,of_decide_eq_false (by kernel_rfl),rfl⟩
theorem bc8:qt Tryz.prog 167=True:=eq_true ⟨_,Tryz.func167,of_decide_eq_false (by kernel_rfl),rfl⟩
theorem bc7:qt Tryz.prog 168=True:=eq_true ⟨_,Tryz.func168,of_decide_eq_false (by kernel_rfl),rfl⟩
theorem bc6:qt Tryz.prog 169=True:=eq_true ⟨_,Tryz.func169,of_decide_eq_false (by kernel_rfl),rfl⟩
theorem bc5:qt Tryz.prog 170=True:=eq_true ⟨_,Tryz.func170,of_decide_eq_false (by kernel_rfl),rfl⟩
theorem bc4:qt Tryz.prog 171=True:=eq_true ⟨_,Tryz.func171,of_decide_eq_false (by kernel_rfl),rfl⟩
theorem bc3:qt Tryz.prog 172=True:=eq_true ⟨_,Tryz.func172,of_decide_eq_false (by kernel_rfl),rfl⟩
theorem bc2:qt Tryz.prog 173=True:=eq_true ⟨_,Tryz.func173,of_decide_eq_false (by kernel_rfl),rfl⟩
theorem bc1:qt Tryz.prog 174=True:=eq_true ⟨_,Tryz.func174,of_decide_eq_false (by kernel_rfl),rfl⟩
theorem bc0:qt Tryz.prog 175=True:=eq_true ⟨_,Tryz.func175,of_decide_eq_false (by kernel_rfl),rfl⟩
theorem bcZ:qt Tryz.prog 176=True:=eq_true ⟨_,Tryz.func176,of_decide_eq_false (by kernel_rfl),rfl⟩
theorem bcY:qt Tryz.prog 177=True:=eq_true ⟨_,Tryz.func177,of_decide_eq_false (by kernel_rfl),rfl⟩
theorem bcX:qt Tryz.prog 178=True:=eq_true ⟨_,Tryz.func178,of_decide_eq_false (by kernel_rfl),rfl⟩
theorem bcW:qt Tryz.prog 179=True:=eq_true ⟨_,Tryz.func179,of_decide_eq_false (by kernel_rfl),rfl⟩
theorem bcV:qt Tryz.prog 180=True:=eq_true ⟨_,Tryz.func180,of_decide_eq_false (by kernel_rfl),rfl⟩
theorem bcU:qt Tryz.prog 181=True:=eq_true ⟨_,Tryz.func181,of_decide_eq_false (by kernel_rfl),rfl⟩
theorem bcT:qt Tryz.prog 182=True:=eq_true ⟨_,Tryz.func182,of_decide_eq_false (by kernel_rfl),rfl⟩
theorem bcS:qt Tryz.prog 183=True:=eq_true ⟨_,Tryz.func183,of_decide_eq_false (by kernel_rfl),rfl⟩
theorem bcR:qt Tryz.prog 184=True:=eq_true ⟨_,Tryz.func184,of_decide_eq_false (by kernel_rfl),rfl⟩
theorem bcQ:qt Tryz.prog 185=True:=eq_true ⟨_,Tryz.func185,of_decide_eq_false (by kernel_rfl),rfl⟩
theorem bcP:qt Tryz.prog 186=True:=eq_true ⟨_,Tryz.func186,of_decide_eq_false (by kernel_rfl),rfl⟩
theorem bcO:qt Tryz.prog 187=True:=eq_true ⟨_,Tryz.func187,of_decide_eq_false (by kernel_rfl),rfl⟩
theorem bcN:qt Tryz.prog 188=True:=eq_true ⟨_,Tryz.func188,of_decide_eq_false (by kernel_rfl),rfl⟩
theorem bcM:qt Tryz.prog 189=True:=eq_true ⟨_,Tryz.func189,of_decide_eq_false (by kernel_rfl),rfl⟩
theorem bcL:qt Tryz.prog 190=True:=eq_true ⟨_,Tryz.func190,of_decide_eq_false (by kernel_rfl),rfl⟩
theorem bcK:qt Tryz.prog 191=True:=eq_true ⟨_,Tryz.func191,of_decide_eq_false (by kernel_rfl),rfl⟩
theorem bcJ:qt Tryz.prog 192=True:=eq_true ⟨_,Tryz.func192,of_decide_eq_false (by kernel_rfl),rfl⟩
theorem bcI:qt Tryz.prog 193=True:=eq_true ⟨_,Tryz.func193,of_decide_eq_false (by kernel_rfl),rfl⟩
theorem bcH:qt Tryz.prog 194=True:=eq_true ⟨_,Tryz.func194,of_decide_eq_false (by kernel_rfl),rfl⟩
theorem bcG:qt Tryz.prog 195=True:=eq_true ⟨_,Tryz.func195,of_decide_eq_false (by kernel_rfl),rfl⟩
theorem bcF:qt Tryz.prog 196=True:=eq_true ⟨_,Tryz.func196,of_decide_eq_false (by kernel_rfl),rfl⟩
theorem bcE:qt Tryz.prog 197=True:=eq_true ⟨_,Tryz.func197,of_decide_eq_false (by kernel_rfl),rfl⟩
theorem bcD:qt Tryz.prog 198=True:=eq_true ⟨_,Tryz.func198,of_decide_eq_false (by kernel_rfl),rfl⟩
theorem bcC:qt Tryz.prog 199=True:=eq_true ⟨_,Tryz.func199,of_decide_eq_false (by kernel_rfl),rfl⟩
theorem bcB:qt Tryz.prog 200=True:=eq_true ⟨_,Tryz.func200,of_decide_eq_false (by kernel_rfl),rfl⟩
theorem bcA:qt Tryz.prog 201=True:=eq_true ⟨_,Tryz.func201,of_decide_eq_false (by kernel_rfl),rfl⟩
theorem bcz:qt Tryz.prog 202=True:=eq_true ⟨_,Tryz.func202,of_decide_eq_false (by kernel_rfl),rfl⟩
theorem bcy:qt Tryz.prog 203=True:=eq_true ⟨_,Tryz.func203,of_decide_eq_false (by kernel_rfl),rfl⟩
theorem bcx:qt Tryz.prog 204=True:=eq_true ⟨_,Tryz.func204,of_decide_eq_false (by kernel_rfl),rfl⟩
theorem bcw:qt Tryz.prog 205=True:=eq_true ⟨_,Tryz.func205,of_decide_eq_false (by kernel_rfl),rfl⟩
theorem bcv:qt Tryz.prog 206=True:=eq_true ⟨_,Tryz.func206,of_decide_eq_false (by kernel_rfl),rfl⟩
theorem bcu:qt Tryz.prog 207=True:=eq_true ⟨_,Tryz.func207,of_decide_eq_false (by kernel_rfl),rfl⟩
theorem bct:qt Tryz.prog 208=True:=eq_true ⟨_,Tryz.func208,of_decide_eq_false (by kernel_rfl),rfl⟩
theorem bcs:qt Tryz.prog 209=True:=eq_true ⟨_,Tryz.func209,of_decide_eq_false (by kernel_rfl),rfl⟩
theorem bcr:qt Tryz.prog 210=True:=eq_true ⟨_,Tryz.func210,of_decide_eq_false (by kernel_rfl),rfl⟩
theorem bcq:qt Tryz.prog 211=True:=eq_true ⟨_,Tryz.func211,of_decide_eq_false (by kernel_rfl),rfl⟩
theorem bcp:qt Tryz.prog 212=True:=eq_true ⟨_,Tryz.func212,of_decide_eq_false (by kernel_rfl),rfl⟩
theorem bco:qt Tryz.prog 213=True:=eq_true ⟨_,Tryz.func213,of_decide_eq_false (by kernel_rfl),rfl⟩
theorem bcn:qt Tryz.prog 214=True:=eq_true ⟨_,Tryz.func214,of_decide_eq_false (by kernel_rfl),rfl⟩
theorem bcm:qt Tryz.prog 215=True:=eq_true ⟨_,Tryz.func215,of_decide_eq_false (by kernel_rfl),rfl⟩
theorem bcl:qt Tryz.prog 216=True:=eq_true ⟨_,Tryz.func216,of_decide_eq_false (by kernel_rfl),rfl⟩
theorem bck:qt Tryz.prog 217=True:=eq_true ⟨_,Tryz.func217,of_decide_eq_false (by kernel_rfl),rfl⟩
theorem bcj:qt Tryz.prog 218=True:=eq_true ⟨_,Tryz.func218,of_decide_eq_false (by kernel_rfl),rfl⟩
theorem bci:qt Tryz.prog 219=True:=eq_true ⟨_,Tryz.func219,of_decide_eq_false (by kernel_rfl),rfl⟩
theorem bch:qt Tryz.prog 220=True:=eq_true ⟨_,Tryz.func220,of_decide_eq_false (by kernel_rfl),rfl⟩
theorem bcg:qt Tryz.prog 221=True:=eq_true ⟨_,Tryz.func221,of_decide_eq_false (by kernel_rfl),rfl⟩
theorem bcf:qt Tryz.prog 222=True:=eq_true ⟨_,Tryz.func222,of_decide_eq_false (by kernel_rfl),rfl⟩
theorem bce:qt Tryz.prog 223=True:=eq_true ⟨_,Tryz.func223,of_decide_eq_false (by kernel_rfl),rfl⟩
theorem bcd:qt Tryz.prog 224=True:=eq_true ⟨_,Tryz.func224,of_decide_eq_false (by kernel_rfl),rfl⟩
theorem bcc:qt Tryz.prog 225=True:=eq_true ⟨_,Tryz.func225,of_decide_eq_false (by kernel_rfl),rfl⟩
theorem bcb:qt Tryz.prog 226=True:=eq_true ⟨_,Tryz.func226,of_decide_eq_false (by kernel_rfl),rfl⟩
theorem bca:qt Tryz.prog 227=True:=eq_true ⟨_,Tryz.func227,of_decide_eq_false (by kernel_rfl),rfl⟩
theorem bb9:qt Tryz.prog 228=True:=eq_true ⟨_,Tryz.func228,of_decide_eq_false (by kernel_rfl),rfl⟩
theorem bb8:qt Tryz.prog 229=True:=eq_true ⟨_,Tryz.func229,of_decide_eq_false (by kernel_rfl),rfl⟩
theorem bb7:qt Tryz.prog 230=True:=eq_true ⟨_,Tryz.func230,of_decide_eq_false (by kernel_rfl),rfl⟩
theorem bb6:qt Tryz.prog 231=True:=eq_true ⟨_,Tryz.func231,of_decide_eq_false (by kernel_rfl),rfl⟩
theorem bb5:qt Tryz.prog 232=True:=eq_true ⟨_,Tryz.func232,of_decide_eq_false (by kernel_rfl),rfl⟩
theorem bb4:qt Tryz.prog 233=True:=eq_true ⟨_,Tryz.func233,of_decide_eq_false (by kernel_rfl),rfl⟩
theorem bb3:qt Tryz.prog 234=True:=eq_true ⟨_,Tryz.func234,of_decide_eq_false (by kernel_rfl),rfl⟩
theorem bb2:qt Tryz.prog 235=True:=eq_true ⟨_,Tryz.func235,of_decide_eq_false (by kernel_rfl),rfl⟩
theorem bb1:qt Tryz.prog 236=True:=eq_true ⟨_,Tryz.func236,of_decide_eq_false (by kernel_rfl),rfl⟩
theorem bb0:qt Tryz.prog 237=True:=eq_true ⟨_,Tryz.func237,of_decide_eq_false (by kernel_rfl),rfl⟩
theorem bbZ:qt Tryz.prog 238=True:=eq_true ⟨_,Tryz.func238,of_decide_eq_false (by kernel_rfl),rfl⟩
theorem bbY:qt Tryz.prog 239=True:=eq_true ⟨_,Tryz.func239,of_decide_eq_false (by kernel_rfl),rfl⟩
theorem bbX:qt Tryz.prog 240=True:=eq_true ⟨_,Tryz.func240,of_decide_eq_false (by kernel_rfl),rfl⟩
theorem bbW:qt Tryz.prog 241=True:=eq_true ⟨_,Tryz.func241,of_decide_eq_false (by kernel_rfl),rfl⟩
theorem bbV:qt Tryz.prog 242=True:=eq_true ⟨_,Tryz.func242,of_decide_eq_false (by kernel_rfl),rfl⟩
theorem bbU:qt Tryz.prog 243=True:=eq_true ⟨_,Tryz.func243,of_decide_eq_false (by kernel_rfl),rfl⟩
theorem bbT:qt Tryz.prog 244=True:=eq_true ⟨_,Tryz.func244,of_decide_eq_false (by kernel_rfl),rfl⟩
theorem bbS:qt Tryz.prog 245=True:=eq_true ⟨_,Tryz.func245,of_decide_eq_false (by kernel_rfl),rfl⟩
theorem bbR:qt Tryz.prog 246=True:=eq_true ⟨_,Tryz.func246,of_decide_eq_false (by kernel_rfl),rfl⟩
theorem bbQ:qt Tryz.prog 247=True:=eq_true ⟨_,Tryz.func247,of_decide_eq_false (by kernel_rfl),rfl⟩
theorem bbP:qt Tryz.prog 248=True:=eq_true ⟨_,Tryz.func248,of_decide_eq_false (by kernel_rfl),rfl⟩
theorem bbO:qt Tryz.prog 249=True:=eq_true ⟨_,Tryz.func249,of_decide_eq_false (by kernel_rfl),rfl⟩
theorem bbN:qt Tryz.prog 250=True:=eq_true ⟨_,Tryz.func250,of_decide_eq_false (by kernel_rfl),rfl⟩
theorem bbM:qt Tryz.prog 251=True:=eq_true ⟨_,Tryz.func251,of_decide_eq_false (by kernel_rfl),rfl⟩
theorem bbL:qt Tryz.prog 252=True:=eq_true ⟨_,Tryz.func252,of_decide_eq_false (by kernel_rfl),rfl⟩
theorem bbK:qt Tryz.prog 253=True:=eq_true ⟨_,Tryz.func253,of_decide_eq_false (by kernel_rfl),rfl⟩
theorem bbJ:qt Tryz.prog 254=True:=eq_true ⟨_,Tryz.func254,of_decide_eq_false (by kernel_rfl),rfl⟩
theorem bbI:qt Tryz.prog 255=True:=eq_true ⟨_,Tryz.func255,of_decide_eq_false (by kernel_rfl),rfl⟩
theorem bbH:qt Tryz.prog 256=True:=eq_true ⟨_,Tryz.func256,of_decide_eq_false (by kernel_rfl),rfl⟩
theorem bbG:qt Tryz.prog 257=True:=eq_true ⟨_,Tryz.func257,of_decide_eq_false (by kernel_rfl),rfl⟩
theorem bbF:qt Tryz.prog 258=True:=eq_true ⟨_,Tryz.func258,of_decide_eq_false (by kernel_rfl),rfl⟩
theorem bbE:qt Tryz.prog 259=True:=eq_true ⟨_,Tryz.func259,of_decide_eq_false (by kernel_rfl),rfl⟩
theorem bbD:qt Tryz.prog 260=True:=eq_true ⟨_,Tryz.func260,of_decide_eq_false (by kernel_rfl),rfl⟩
theorem bbC:qt Tryz.prog 261=True:=eq_true ⟨_,Tryz.func261,of_decide_eq_false (by kernel_rfl),rfl⟩
theorem bbB:qt Tryz.prog 262=True:=eq_true ⟨_,Tryz.func262,of_decide_eq_false (by kernel_rfl),rfl⟩
theorem bbA:qt Tryz.prog 263=True:=eq_true ⟨_,Tryz.func263,of_decide_eq_false (by kernel_rfl),rfl⟩
theorem bbz:qt Tryz.prog 264=True:=eq_true ⟨_,Tryz.func264,of_decide_eq_false (by kernel_rfl),rfl⟩
theorem bby:qt Tryz.prog 265=True:=eq_true ⟨_,Tryz.func265,of_decide_eq_false (by kernel_rfl),rfl⟩
theorem bbx:qt Tryz.prog 266=True:=eq_true ⟨_,Tryz.func266,of_decide_eq_false (by kernel_rfl),rfl⟩
theorem bbw:qt Tryz.prog 267=True:=eq_true ⟨_,Tryz.func267,of_decide_eq_false (by kernel_rfl),rfl⟩
theorem bbv:qt Tryz.prog 268=True:=eq_true ⟨_,Tryz.func268,of_decide_eq_false (by kernel_rfl),rfl⟩
theorem bbu:qt Tryz.prog 269=True:=eq_true ⟨_,Tryz.func269,of_decide_eq_false (by kernel_rfl),rfl⟩
theorem bbt:qt Tryz.prog 270=True:=eq_true ⟨_,Tryz.func270,of_decide_eq_false (by kernel_rfl),rfl⟩
theorem bbs:qt Tryz.prog 271=True:=eq_true ⟨_,Tryz.func271,of_decide_eq_false (by kernel_rfl),rfl⟩
theorem bbr:qt Tryz.prog 272=True:=eq_true ⟨_,Tryz.func272,of_decide_eq_false (by kernel_rfl),rfl⟩
theorem bbq:qt Tryz.prog 273=True:=eq_true ⟨_,Tryz.func273,of_decide_eq_false (by kernel_rfl),rfl⟩
theorem bbp:qt Tryz.prog 274=True:=eq_true ⟨_,Tryz.func274,of_decide_eq_false (by kernel_rfl),rfl⟩
theorem bbo:qt Tryz.prog 275=True:=eq_true ⟨_,Tryz.func275,of_decide_eq_false (by kernel_rfl),rfl⟩
theorem bbn:qt Tryz.prog 276=True:=eq_true ⟨_,Tryz.func276,of_decide_eq_false (by kernel_rfl),rfl⟩
theorem bbm:qt Tryz.prog 277=True:=eq_true ⟨_,Tryz.func277,of_decide_eq_false (by kernel_rfl),rfl⟩
theorem bbl:qt Tryz.prog 278=True:=eq_true ⟨_,Tryz.func278,of_decide_eq_false (by kernel_rfl),rfl⟩
theorem bbk:qt Tryz.prog 279=True:=eq_true ⟨_,Tryz.func279,of_decide_eq_false (by kernel_rfl),rfl⟩
theorem bbj:qt Tryz.prog 280=True:=eq_true ⟨_,Tryz.func280,of_decide_eq_false (by kernel_rfl),rfl⟩
theorem bbi:qt Tryz.prog 281=True:=eq_true ⟨_,Tryz.func281,of_decide_eq_false (by kernel_rfl),rfl⟩
theorem bbh:qt Tryz.prog 282=True:=eq_true ⟨_,Tryz.func282,of_decide_eq_false (by kernel_rfl),rfl⟩
theorem bbg:qt Tryz.prog 283=True:=eq_true ⟨_,Tryz.func283,of_decide_eq_false (by kernel_rfl),rfl⟩
theorem bbf:qt Tryz.prog 284=True:=eq_true ⟨_,Tryz.func284,of_decide_eq_false (by kernel_rfl),rfl⟩
theorem bbe:qt Tryz.prog 285=True:=eq_true ⟨_,Tryz.func285,of_decide_eq_false (by kernel_rfl),rfl⟩
theorem bbd:qt Tryz.prog 286=True:=eq_true ⟨_,Tryz.func286,of_decide_eq_false (by kernel_rfl),rfl⟩
theorem bbc:qt Tryz.prog 287=True:=eq_true ⟨_,Tryz.func287,of_decide_eq_false (by kernel_rfl),rfl⟩
theorem bbb:qt Tryz.prog 288=True:=eq_true ⟨_,Tryz.func288,of_decide_eq_false (by kernel_rfl),rfl⟩
theorem bba:qt Tryz.prog 289=True:=eq_true ⟨_,Tryz.func289,of_decide_eq_false (by kernel_rfl),rfl⟩
theorem ba9:qt Tryz.prog 290=True:=eq_true ⟨_,Tryz.func290,of_decide_eq_false (by kernel_rfl),rfl⟩
theorem ba8:qt Tryz.prog 291=True:=eq_true ⟨_,Tryz.func291,of_decide_eq_false (by kernel_rfl),rfl⟩
theorem ba7:qt Tryz.prog 292=True:=eq_true ⟨_,Tryz.func292,of_decide_eq_false (by kernel_rfl),rfl⟩
theorem ba6:qt Tryz.prog 293=True:=eq_true ⟨_,Tryz.func293,of_decide_eq_false (by kernel_rfl),rfl⟩
theorem ba5:qt Tryz.prog 294=True:=eq_true ⟨_,Tryz.func294,of_decide_eq_false (by kernel_rfl),rfl⟩
theorem ba4:qt Tryz.prog 295=True:=eq_true ⟨_,Tryz.func295,of_decide_eq_false (by kernel_rfl),rfl⟩
theorem ba3:qt Tryz.prog 296=True:=eq_true ⟨_,Tryz.func296,of_decide_eq_false (by kernel_rfl),rfl⟩
theorem ba2:qt Tryz.prog 297=True:=eq_true ⟨_,Tryz.func297,of_decide_eq_false (by kernel_rfl),rfl⟩
theorem ba1:qt Tryz.prog 298=True:=eq_true ⟨_,Tryz.func298,of_decide_eq_false (by kernel_rfl),rfl⟩
theorem ba0:qt Tryz.prog 299=True:=eq_true ⟨_,Tryz.func299,of_decide_eq_false (by kernel_rfl),rfl⟩
theorem baZ:qt Tryz.prog 300=True:=eq_true ⟨_,Tryz.func300,of_decide_eq_false (by kernel_rfl),rfl⟩
theorem baY:qt Tryz.prog 301=True:=eq_true ⟨_,Tryz.func301,of_decide_eq_false (by kernel_rfl),rfl⟩
theorem baX:qt Tryz.prog 302=True:=eq_true ⟨_,Tryz.func302,of_decide_eq_false (by kernel_rfl),rfl⟩
theorem baW:qt Tryz.prog 303=True:=eq_true ⟨_,Tryz.func303,of_decide_eq_false (by kernel_rfl),rfl⟩
theorem baV:qt Tryz.prog 304=True:=eq_true ⟨_,Tryz.func304,of_decide_eq_false (by kernel_rfl),rfl⟩
theorem baU:qt Tryz.prog 305=True:=eq_true ⟨_,Tryz.func305,of_decide_eq_false (by kernel_rfl),rfl⟩
theorem baT:qt Tryz.prog 306=True:=eq_true ⟨_,Tryz.func306,of_decide_eq_false (by kernel_rfl),rfl⟩
theorem baS:qt Tryz.prog 307=True:=eq_true ⟨_,Tryz.func307,of_decide_eq_false (by kernel_rfl),rfl⟩
theorem baR:qt Tryz.prog 308=True:=eq_true ⟨_,Tryz.func308,of_decide_eq_false (by kernel_rfl),rfl⟩
theorem baQ:qt Tryz.prog 309=True:=eq_true ⟨_,Tryz.func309,of_decide_eq_false (by kernel_rfl),rfl⟩
theorem baP:qt Tryz.prog 310=True:=eq_true ⟨_,Tryz.func310,of_decide_eq_false (by kernel_rfl),rfl⟩
theorem baO:qt Tryz.prog 311=True:=eq_true ⟨_,Tryz.func311,of_decide_eq_false (by kernel_rfl),rfl⟩
theorem baN:qt Tryz.prog 312=True:=eq_true ⟨_,Tryz.func312,of_decide_eq_false (by kernel_rfl),rfl⟩
theorem baM:qt Tryz.prog 313=True:=eq_true ⟨_,Tryz.func313,of_decide_eq_false (by kernel_rfl),rfl⟩
theorem baL:qt Tryz.prog 314=True:=eq_true ⟨_,Tryz.func314,of_decide_eq_false (by kernel_rfl),rfl⟩
theorem baK:qt Tryz.prog 315=True:=eq_true ⟨_,Tryz.func315,of_decide_eq_false (by kernel_rfl),rfl⟩
theorem baJ:qt Tryz.prog 316=True:=eq_true ⟨_,Tryz.func316,of_decide_eq_false (by kernel_rfl),rfl⟩
theorem baI:qt Tryz.prog 317=True:=eq_true ⟨_,Tryz.func317,of_decide_eq_false (by kernel_rfl),rfl⟩
theorem baH:qt Tryz.prog 318=True:=eq_true ⟨_,Tryz.func318,of_decide_eq_false (by kernel_rfl),rfl⟩
theorem baG:qt Tryz.prog 319=True:=eq_true ⟨_,Tryz.func319,of_decide_eq_false (by kernel_rfl),rfl⟩
theorem baF:qt Tryz.prog 320=True:=eq_true ⟨_,Tryz.func320,of_decide_eq_false (by kernel_rfl),rfl⟩
theorem baE:qt Tryz.prog 321=True:=eq_true ⟨_,Tryz.func321,of_decide_eq_false (by kernel_rfl),rfl⟩
theorem baD:qt Tryz.prog 322=True:=eq_true ⟨_,Tryz.func322,of_decide_eq_false (by kernel_rfl),rfl⟩
theorem baC:qt Tryz.prog 323=True:=eq_true ⟨_,Tryz.func323,of_decide_eq_false (by kernel_rfl),rfl⟩
theorem baB:qt Tryz.prog 324=True:=eq_true ⟨_,Tryz.func324,of_decide_eq_false (by kernel_rfl),rfl⟩
theorem baA:qt Tryz.prog 325=True:=eq_true ⟨_,Tryz.func325,of_decide_eq_false (by kernel_rfl),rfl⟩
theorem baz:qt Tryz.prog 326=True:=eq_true ⟨_,Tryz.func326,of_decide_eq_false (by kernel_rfl),rfl⟩
theorem bay:qt Tryz.prog 327=True:=eq_true ⟨_,Tryz.func327,of_decide_eq_false (by kernel_rfl),rfl⟩
theorem bax:qt Tryz.prog 328=True:=eq_true ⟨_,Tryz.func328,of_decide_eq_false (by kernel_rfl),rfl⟩
theorem baw:qt Tryz.prog 329=True:=eq_true ⟨_,Tryz.func329,of_decide_eq_false (by kernel_rfl),rfl⟩
theorem bav:qt Tryz.prog 330=True:=eq_true ⟨_,Tryz.func330,of_decide_eq_false (by kernel_rfl),rfl⟩
theorem bau:qt Tryz.prog 331=True:=eq_true ⟨_,Tryz.func331,of_decide_eq_false (by kernel_rfl),rfl⟩
theorem bat:qt Tryz.prog 332=True:=eq_true ⟨_,Tryz.func332,of_decide_eq_false (by kernel_rfl),rfl⟩
theorem bas:qt Tryz.prog 333=True:=eq_true ⟨_,Tryz.func333,of_decide_eq_false (by kernel_rfl),rfl⟩
theorem bar:qt Tryz.prog 334=True:=eq_true ⟨_,Tryz.func334,of_decide_eq_false (by kernel_rfl),rfl⟩
theorem baq:qt Tryz.prog 335=True:=eq_true ⟨_,Tryz.func335,of_decide_eq_false (by kernel_rfl),rfl⟩
theorem bap:qt Tryz.prog 336=True:=eq_true ⟨_,Tryz.func336,of_decide_eq_false (by kernel_rfl),rfl⟩
theorem bao:qt Tryz.prog 337=True:=eq_true ⟨_,Tryz.func337,of_decide_eq_false (by kernel_rfl),rfl⟩
theorem ban:qt Tryz.prog 338=True:=eq_true ⟨_,Tryz.func338,of_decide_eq_false (by kernel_rfl),rfl⟩
theorem bam:qt Tryz.prog 339=True:=eq_true ⟨_,Tryz.func339,of_decide_eq_false (by kernel_rfl),rfl⟩
theorem bal:qt Tryz.prog 340=True:=eq_true ⟨_,Tryz.func340,of_decide_eq_false (by kernel_rfl),rfl⟩
theorem bak:qt Tryz.prog 341=True:=eq_true ⟨_,Tryz.func341,of_decide_eq_false (by kernel_rfl),rfl⟩
theorem baj:qt Tryz.prog 342=True:=eq_true ⟨_,Tryz.func342,of_decide_eq_false (by kernel_rfl),rfl⟩
theorem bai:qt Tryz.prog 343=True:=eq_true ⟨_,Tryz.func343,of_decide_eq_false (by kernel_rfl),rfl⟩
theorem bah:qt Tryz.prog 344=True:=eq_true ⟨_,Tryz.func344,of_decide_eq_false (by kernel_rfl),rfl⟩
theorem bag:qt Tryz.prog 345=True:=eq_true ⟨_,Tryz.func345,of_decide_eq_false (by kernel_rfl),rfl⟩
theorem baf:qt Tryz.prog 346=True:=eq_true ⟨_,Tryz.func346,of_decide_eq_false (by kernel_rfl),rfl⟩
theorem bae:qt Tryz.prog 347=True:=eq_true ⟨_,Tryz.func347,of_decide_eq_false (by kernel_rfl),rfl⟩
theorem bac:qt Tryz.prog 376=True:=eq_true ⟨_,Tryz.func376,of_decide_eq_false (by kernel_rfl),rfl⟩
attribute [go_sem] ty1 aXy aRI aDW asx aXw aXx ty2 aXv aRj
attribute [go_sem] azM aqZ aXt aXu ty3 aXs aQO azd aqE aXq
attribute [go_sem] aXr ty4 aXp aQm ay3 aqs aXn aXo ty5 aXm
attribute [go_sem] aPU ayT aqg aXk aXl ty6 aXj aPv ayK ap5
attribute [go_sem] aXh aXi ty7 aXg aO3 ayA apV aXe aXf bem
attribute [go_sem] blV bel blU bek blT bej blS brz ty8 aXd
attribute [go_sem] aOy ayp apI aXb aXc bei blR beh blQ beg
attribute [go_sem] blP bef blO bry ty9 aXa aN6 ayf apx aW8
attribute [go_sem] aW9 bpY aRR aHU atT anG aRP aRQ bpX aRO
attribute [go_sem] aHp atI anu aRM aRN bpW aRL aG6 atB ann
attribute [go_sem] aRJ aRK bpV aRH aC6 asf al1 aRF aRG bpU
attribute [go_sem] aRE aCH ar6 alS aRC aRD blE bpT aRB aCf
attribute [go_sem] arW alI aRz aRA blD bpS aRy aBQ arM alw
attribute [go_sem] aRw aRx aVp aYX aVo aYW boi bpR aRv aBr
attribute [go_sem] arC aln aRt aRu aVn aYV aVm aYU boh bpQ
attribute [go_sem] aRs aAE ark ak5 aRq aRr bpP aRp aAc aq9
attribute [go_sem] akV aRn aRo bpO aRm azN aq0 akM aRk aRl
attribute [go_sem] bpN aRi azq aqR akE aRg aRh bpM aRf azm
attribute [go_sem] aqP akC aRd aRe bpL aRc azl aqO akB aRa
attribute [go_sem] aRb bpK aQ9 azk aqN akA aQ7 aQ8 bpJ aQ6
attribute [go_sem] azj aqM akz aQ4 aQ5 blC bpI aQ3 azi aqK
attribute [go_sem] aky aQ1 aQ2 aVl aYT aVk aYS bog bpH aQ0
attribute [go_sem] azh aqI akx aQY aQZ aVj aYR aVi aYQ bof
attribute [go_sem] bpG aQX azg aqH akw aQV aQW bpF aQU azf
attribute [go_sem] aqG akv aQS aQT blB bpE aQR aze aqF aku
attribute [go_sem] aQP aQQ aVh aYP boe bpD aQN azc aqD akt
attribute [go_sem] aQL aQM aVg aYO bod bpC aQK azb aqB aks
attribute [go_sem] aQI aQJ aVf aYN aVe aYM boc bpB aQH aza
attribute [go_sem] aqA akr aQF aQG aVd aYL aVc aYK bob bpA
attribute [go_sem] aQE ay9 aqy akq aQC aQD aVb aYJ aVa aYI
attribute [go_sem] boa bpz aQB ay8 aqx akp aQz aQA aU9 aYH
attribute [go_sem] aU8 aYG bn9 bpy aQy ay7 aqw ako aQw aQx
attribute [go_sem] bpx aQv ay6 aqv akn aQt aQu bpw aQs ay5
attribute [go_sem] aqu akm aQq aQr bpv aQp ay4 aqt akl aQn
attribute [go_sem] aQo bpu aQl ay2 aqr akk aQj aQk bpt aQi
attribute [go_sem] ay1 aqq akj aQg aQh blA bps aQf ay0 aqo
attribute [go_sem] aki aQd aQe aU7 aYF aU6 aYE bn8 bpr aQc
attribute [go_sem] ayZ aqm akh aQa aQb aU5 aYD aU4 aYC bn7
attribute [go_sem] bpq aP9 ayY aql akg aP7 aP8 bpp aP6 ayX
attribute [go_sem] aqk akf aP4 aP5 bpo aP3 ayW aqj ake aP1
attribute [go_sem] aP2 bpn aP0 ayV aqi akd aPY aPZ bpm aPX
attribute [go_sem] ayU aqh akc aPV aPW bpl aPT ayS aqf akb
attribute [go_sem] aPR aPS blz bpk aPQ ayR aqe aka aPO aPP
attribute [go_sem] bpj aPN ayQ aqd aj9 aPL aPM bpi aPK ayP
attribute [go_sem] aqc aj8 aPI aPJ aU3 aYB aU2 aYA aU1 aYz
attribute [go_sem] bn6 bph aPH ayO aqb aj6 aPF aPG aU0 aYy
attribute [go_sem] aUZ aYx aUY aYw bn5 bpg aPE ayN aqa aj5
attribute [go_sem] aPC aPD bpf aPB ayM ap8 aj4 aPz aPA aUX
attribute [go_sem] aYv aUW aYu bn4 bpe aPy ayL ap6 aj3 aPw
attribute [go_sem] aPx aUV aYt aUU aYs bn3 bpd aPu ayJ ap4
attribute [go_sem] aj2 aPs aPt bpc aPr ayI ap3 aj1 aPp aPq
attribute [go_sem] bpb aPo ayH ap2 aj0 aPm aPn bpa aPl ayG
attribute [go_sem] ap1 ajZ aPj aPk bo9 aPi ayF ap0 ajY aPg
attribute [go_sem] aPh bo8 aPf ayE apZ ajX aPd aPe bo7 aPc
attribute [go_sem] ayD apY ajW aPa aPb bo6 aO9 ayC apX ajV
attribute [go_sem] aO7 aO8 bo5 aO6 ayB apW ajU aO4 aO5 bo4
attribute [go_sem] aO2 ayz apU ajT aO0 aO1 bo3 aOZ ayy apT
attribute [go_sem] ajS aOX aOY bo2 aOW ayx apS ajR aOU aOV
attribute [go_sem] bo1 aOT ayw apR ajQ aOR aOS bo0 aOQ ayv
attribute [go_sem] apQ ajP aOO aOP boZ aON ayu apP ajO aOL
attribute [go_sem] aOM boY aOK ayt apO ajN aOI aOJ boX aOH
attribute [go_sem] ays apN ajM aOF aOG bly boW aOE ayr apL
attribute [go_sem] ajL aOC aOD aUT aYr aUS aYq bn2 boV aOB
attribute [go_sem] ayq apJ ajK aOz aOA aUR aYp aUQ aYo bn1
attribute [go_sem] boU aOx ayo apH ajJ aOv aOw boT aOu ayn
attribute [go_sem] apG ajI aOs aOt boS aOr aym apF ajH aOp
attribute [go_sem] aOq boR aOo ayl apD ajG aOm aOn boQ aOl
attribute [go_sem] ayk apC ajF aOj aOk boP aOi ayj apB ajE
attribute [go_sem] aOg aOh aUP aYn aUO aYm aUN aYl bn0 boO
attribute [go_sem] aOf ayi apA ajD aOd aOe aUM aYk aUL aYj
attribute [go_sem] aUK aYi bnZ boN aOc ayh apz ajC aOa aOb
attribute [go_sem] boM aN9 ayg apy ajB aN7 aN8 biJ aIo at3
attribute [go_sem] anQ agN aIm aIn biI aIl at2 anP agM aIj
attribute [go_sem] aIk biH aIi at1 anO agL aIg aIh biG aIf
attribute [go_sem] at0 anN agK aId aIe biF aIc atZ anM agJ
attribute [go_sem] aIa aIb aXU biE aH9 atY anL agI aH7 aH8
attribute [go_sem] aKS aS6 aKR aS5 be6 biD aH6 atX anK agH
attribute [go_sem] aH4 aH5 aKQ aS4 aKP aS3 be5 biC aH3 atW
attribute [go_sem] anJ agG aH1 aH2 biB aH0 atV anI agF aHY
attribute [go_sem] aHZ biA aHX atU anH agE aHV aHW biz aHT
attribute [go_sem] atS anF agD aHR aHS biy aHQ atR anE agC
attribute [go_sem] aHO aHP bix aHN atQ anD agB aHL aHM biw
attribute [go_sem] aHK atP anC agA aHI aHJ aKO aS2 aKN aS1
attribute [go_sem] be4 biv aHH atO anB agz aHF aHG aKM aS0
attribute [go_sem] aKL aSZ be3 biu aHE atN anA agy aHC aHD
attribute [go_sem] bit aHB atM anz agx aHz aHA bis aHy atL
attribute [go_sem] anx agw aHw aHx bir aHv atK anw agv aHt
attribute [go_sem] aHu biq aHs atJ anv agu aHq aHr bip aHo
attribute [go_sem] atH ant agt aHm aHn bio aHl atG ans ags
attribute [go_sem] aHj aHk bin aHi atF anr agr aHg aHh aXT
attribute [go_sem] bim aHf atE anq agq aHd aHe bil aHc atD
attribute [go_sem] anp agp aHa aHb bik aG9 atC ano ago aG7
attribute [go_sem] aG8 bij aG5 atA anm agn aG3 aG4 bii aG2
attribute [go_sem] atz anl agm aG0 aG1 bih aGZ aty ank agl
attribute [go_sem] aGX aGY big aGW atx anj agk aGU aGV aKK
attribute [go_sem] aSY be2 bie aGT atw ani agj aGR aGS aKJ
attribute [go_sem] aSX aKI aSW be1 bid aGQ atv anh agi aGO
attribute [go_sem] aGP aKH aSV aKG aSU be0 bic aGN atu ang
attribute [go_sem] agh aGL aGM aKF aST aKE aSS beZ bib aGK
attribute [go_sem] att anf agf aGI aGJ aKD aSR aKC aSQ beY
attribute [go_sem] bia aGH ats ane age aGF aGG bh9 aGE atr
attribute [go_sem] anc agd aGC aGD bh8 aGB atq anb agc aGz
attribute [go_sem] aGA bh7 aGy atp ana agb aGw aGx bh6 aGv
attribute [go_sem] ato am9 aga aGt aGu bh5 aGs atn am8 af9
attribute [go_sem] aGq aGr bh4 aGp atm am7 af8 aGn aGo bh3
attribute [go_sem] aGm atl am6 af7 aGk aGl bh2 aGj atk am5
attribute [go_sem] af6 aGh aGi bh1 aGg atj am4 af5 aGe aGf
attribute [go_sem] bh0 aGd ati am3 af4 aGb aGc bhZ aGa ath
attribute [go_sem] am2 af3 aF8 aF9 bhY aF7 atg am1 af2 aF5
attribute [go_sem] aF6 bhX aF4 atf am0 af1 aF2 aF3 bhW aF1
attribute [go_sem] ate amZ af0 aFZ aF0 bhV aFY atd amY afZ
attribute [go_sem] aFW aFX bhU aFV atc amX afY aFT aFU bhT
attribute [go_sem] aFS atb amW afX aFQ aFR bhS aFP ata amV
attribute [go_sem] afW aFN aFO bhR aFM as9 amU afV aFK aFL
attribute [go_sem] bhQ aFJ as8 amT afU aFH aFI bhP aFG as7
attribute [go_sem] amS afT aFE aFF bhO aFD as6 amR afS aFB
attribute [go_sem] aFC bhN aFA as5 amQ afR aFy aFz bhM aFx
attribute [go_sem] as4 amP afQ aFv aFw bhL aFu as3 amO afP
attribute [go_sem] aFs aFt bhK aFr as2 amN afO aFp aFq aKB
attribute [go_sem] aSP aKA aSO beX bhJ aFo as1 amM afN aFm
attribute [go_sem] aFn aKz aSN aKy aSM beW bhI aFl as0 amL
attribute [go_sem] afM aFj aFk bhH aFi asZ amK afL aFg aFh
attribute [go_sem] bhG aFf asY amJ afK aFd aFe bhF aFc asX
attribute [go_sem] amI afJ aFa aFb bhE aE9 asW amH afI aE7
attribute [go_sem] aE8 bhD aE6 asV amG afH aE4 aE5 bhC aE3
attribute [go_sem] asU amF afG aE1 aE2 bhB aE0 asT amE afF
attribute [go_sem] aEY aEZ bhA aEX asS amD afE aEV aEW bhz
attribute [go_sem] aEU asR amC afD aES aET bhy aER asQ amB
attribute [go_sem] afC aEP aEQ bhx aEO asP amA afB aEM aEN
attribute [go_sem] bhw aEL asO amz afA aEJ aEK bhv aEI asN
attribute [go_sem] amy afz aEG aEH bhu aEF asM amx afy aED
attribute [go_sem] aEE bht aEC asL amw afx aEA aEB bhs aEz
attribute [go_sem] asK amv afw aEx aEy bhr aEw asJ amu afv
attribute [go_sem] aEu aEv bhq aEt asI amt afu aEr aEs bho
attribute [go_sem] aEq asH ams aft aEo aEp bhn aEn asG amr
attribute [go_sem] afs aEl aEm bhm aEk asF amq afr aEi aEj
attribute [go_sem] bhl aEh asE amp afq aEf aEg bhk aEe asD
attribute [go_sem] amo afp aEc aEd bhj aEb asC amn afo aD9
attribute [go_sem] aEa aKx aSL aKw aSK aKv aSJ beV bhi aD8
attribute [go_sem] asB amm afn aD6 aD7 aKu aSI aKt aSH aKs
attribute [go_sem] aSG beU bhh aD5 asA aml afm aD3 aD4 bhg
attribute [go_sem] aD2 asz amk afl aD0 aD1 aKr aSF aKq aSE
attribute [go_sem] aKp aSD aKo aSC beT bhf aDZ asy amj afk
attribute [go_sem] aDX aDY aKn aSB aKm aSA aKl aSz aKk aSy
attribute [go_sem] beS bhe aDV asw ami afj aDT aDU bhd aDS
attribute [go_sem] asv amh afi aDQ aDR bhc aDP asu amg afh
attribute [go_sem] aDN aDO bhb aDM ast amf afg aDK aDL bha
attribute [go_sem] aDJ ass ame aff aDH aDI bg9 aDG asr amd
attribute [go_sem] afe aDE aDF bg8 aDD asq amc afd aDB aDC
attribute [go_sem] bg7 aDA asp amb afc aDy aDz bg6 aDx aso
attribute [go_sem] ama afb aDv aDw bg5 aDu asn al9 afa aDs
attribute [go_sem] aDt bg4 aDr asm al8 ae9 aDp aDq bg3 aDo
attribute [go_sem] asl al7 ae8 aDm aDn bg2 aDl ask al6 ae7
attribute [go_sem] aDj aDk bg1 aDi asj al5 ae6 aDg aDh bg0
attribute [go_sem] aDf asi al4 ae5 aDd aDe bgZ aDc ash al3
attribute [go_sem] ae4 aDa aDb bgY aC9 asg al2 ae3 aC7 aC8
attribute [go_sem] bgX aC5 ase al0 ae2 aC3 aC4 bgW aC2 asd
attribute [go_sem] alZ ae1 aC0 aC1 bgV aCZ asc alY ae0 aCX
attribute [go_sem] aCY bgU aCW asb alX aeZ aCU aCV bgT aCT
attribute [go_sem] asa alW aeY aCR aCS bgS aCQ ar9 alV aeX
attribute [go_sem] aCO aCP bgR aCN ar8 alU aeW aCL aCM bgQ
attribute [go_sem] aCK ar7 alT aeV aCI aCJ bgP aCG ar5 alR
attribute [go_sem] aeT aCE aCF bgO aCD ar4 alQ aeS aCB aCC
attribute [go_sem] bgN aCA ar3 alP aeR aCy aCz bgM aCx ar2
attribute [go_sem] alO aeQ aCv aCw bgL aCu ar1 alN aeP aCs
attribute [go_sem] aCt bgK aCr ar0 alM aeO aCp aCq bgJ aCo
attribute [go_sem] arZ alL aeN aCm aCn bgI aCl arY alK aeM
attribute [go_sem] aCj aCk bgH aCi arX alJ aeL aCg aCh bgG
attribute [go_sem] aCe arU alH aeK aCc aCd bgF aCb arT alG
attribute [go_sem] aeJ aB9 aCa bgE aB8 arS alD aeI aB6 aB7
attribute [go_sem] bgD aB5 arR alC aeH aB3 aB4 bgC aB2 arQ
attribute [go_sem] alB aeG aB0 aB1 bgB aBZ arP alz aeF aBX
attribute [go_sem] aBY bgA aBW arO aly aeE aBU aBV bgz aBT
attribute [go_sem] arN alx aeD aBR aBS bgy aBP arK alv aeC
attribute [go_sem] aBN aBO bgx aBM arJ alu aeB aBK aBL bgw
attribute [go_sem] aBJ arI alt aeA aBH aBI bgv aBG arH als
attribute [go_sem] aez aBE aBF bgu aBD arG alr aey aBB aBC
attribute [go_sem] bgt aBA arF alq aex aBy aBz bgs aBx arE
attribute [go_sem] alp aew aBv aBw bgr aBu arD alo aev aBs
attribute [go_sem] aBt bgq aBq arB alm aeu aBo aBp bgp aBn
attribute [go_sem] arA alk aet aBl aBm bgo aBk arz alj aes
attribute [go_sem] aBi aBj bgn aBh ary ali aer aBf aBg bgm
attribute [go_sem] aBe arx alh aeq aBc aBd bgl aBb arw alg
attribute [go_sem] aep aA9 aBa bgk aA8 arv alf aeo aA6 aA7
attribute [go_sem] bgj aA5 aru ale aen aA3 aA4 bgi aA2 art
attribute [go_sem] ald aem aA0 aA1 bgh aAZ ars alc ael aAX
attribute [go_sem] aAY bgg aAW arq alb aek aAU aAV bgf aAT
attribute [go_sem] arp ala aej aAR aAS bge aAQ aro ak9 aei
attribute [go_sem] aAO aAP bgd aAN arn ak8 aeh aAL aAM bgc
attribute [go_sem] aAK arm ak7 aeg aAI aAJ bgb aAH arl ak6
attribute [go_sem] aef aAF aAG bga aAD arj ak4 aee aAB aAC
attribute [go_sem] bf9 aAA ari ak3 aed aAy aAz bf8 aAx arh
attribute [go_sem] ak2 aec aAv aAw bf7 aAu arg ak1 aeb aAs
attribute [go_sem] aAt bf6 aAr arf ak0 aea aAp aAq bf5 aAo
attribute [go_sem] ard akZ ad9 aAm aAn aXS bf4 aAl arc akY
attribute [go_sem] ad8 aAj aAk bf3 aAi arb akX ad7 aAg aAh
attribute [go_sem] bf2 aAf ara akW ad6 aAd aAe bf1 aAb aq8
attribute [go_sem] akU ad5 az9 aAa bf0 az8 aq7 akT ad4 az6
attribute [go_sem] az7 bfZ az5 aq6 akS ad3 az3 az4 bfY az2
attribute [go_sem] aq5 akR ad2 az0 az1 bfX azZ aq4 akQ ad1
attribute [go_sem] azX azY bfW azW aq3 akP ad0 azU azV bfV
attribute [go_sem] azT aq2 akO adY azR azS bfU azQ aq1 akN
attribute [go_sem] adX azO azP bfT azL aqY akL adW azJ azK
attribute [go_sem] bfS azI aqX akK adV azG azH bfR azF aqW
attribute [go_sem] akJ adU azD azE bfQ azC aqV akI adT azA
attribute [go_sem] azB bfP azz aqU akH adR azx azy bfO azw
attribute [go_sem] aqT akG adQ azu azv bfN azt aqS akF adP
attribute [go_sem] azr azs bfM azp aqQ akD adO azn azo bru
attribute [go_sem] brt brs brr brq brp bro brn bnM bnL bnK
attribute [go_sem] bnJ bnI bnH bnG bnF bnE bnD bnC bnB bnA
attribute [go_sem] bnz bny bnx bnw bnv bnu bnt bns bnr bnq
attribute [go_sem] bnp bno bnn bnm bnl bnk bnj bni bnh bng
attribute [go_sem] bne bnd bnc bnb bna bm9 bm8 bm7 bm6 bm5
attribute [go_sem] bm4 bm3 bm2 bm1 bm0 bmZ bmY bmX bmW bmV
attribute [go_sem] bmU bmT bmS bmR bmQ bmP bmO bmN bmM bmL
attribute [go_sem] bmK bmJ bmI bmH bmG bmF bmE bmD bmC bmB
attribute [go_sem] bmA bmz bmy bmx bmw bmv bmu bmt bms bmr
attribute [go_sem] bmq bmp bmo bmn bmm bml bmk bed bec beb
attribute [go_sem] bea bd9 bd8 bd7 bd6 bd5 bd4 bd3 bd2 bd1
attribute [go_sem] bd0 bdZ bdY bdX bdW bdV bdU bdT bdS bdR
attribute [go_sem] bdQ bdP bdO bdN bdM bdL bdK bdJ bdI bdH
attribute [go_sem] bdG bdF bdE bdD bdC bdB bdA bdz bdy bdx
attribute [go_sem] bdw bdv bdu bdt bds bdr bdq bdp bdo bdn
attribute [go_sem] bdm bdl bdk bdj bdi bdh bdg bdf bde bdd
attribute [go_sem] bdc bdb bda bc9 bc8 bc7 bc6 bc5 bc4 bc3
attribute [go_sem] bc2 bc1 bc0 bcZ bcY bcX bcW bcV bcU bcT
attribute [go_sem] bcS bcR bcQ bcP bcO bcN bcM bcL bcK bcJ
attribute [go_sem] bcI bcH bcG bcF bcE bcD bcC bcB bcA bcz
attribute [go_sem] bcy bcx bcw bcv bcu bct bcs bcr bcq bcp
attribute [go_sem] bco bcn bcm bcl bck bcj bci bch bcg bcf
attribute [go_sem] bce bcd bcc bcb bca bb9 bb8 bb7 bb6 bb5
attribute [go_sem] bb4 bb3 bb2 bb1 bb0 bbZ bbY bbX bbW bbV
attribute [go_sem] bbU bbT bbS bbR bbQ bbP bbO bbN bbM bbL
attribute [go_sem] bbK bbJ bbI bbH bbG bbF bbE bbD bbC bbB
attribute [go_sem] bbA bbz bby bbx bbw bbv bbu bbt bbs bbr
attribute [go_sem] bbq bbp bbo bbn bbm bbl bbk bbj bbi bbh
attribute [go_sem] bbg bbf bbe bbd bbc bbb bba ba9 ba8 ba7
attribute [go_sem] ba6 ba5 ba4 ba3 ba2 ba1 ba0 baZ baY baX
attribute [go_sem] baW baV baU baT baS baR baQ baP baO baN
attribute [go_sem] baM baL baK baJ baI baH baG baF baE baD
attribute [go_sem] baC baB baA baz bay bax baw bav bau bat
attribute [go_sem] bas bar baq bap bao ban bam bal bak baj
attribute [go_sem] bai bah bag baf bae bac
end Go.Ab
namespace Go.Ab
open Go Go.Proofs
theorem j7(cl:Bool)(xs:List Int)(m:Nat)(hl:xs.length≤2^39)(hx:gd xs)(hv:vl xs=(m:Int)):Con Tryz.prog 188 cl [.sl xs.length (qg xs)] [] (aJJ m):=by
 refine Con.of_aw Tryz.func188 rfl Tryz.ntmps188 (by simp) (by simp) (by simp) (W.sound ?_)
 show @W Tryz.prog 24 ⟨_⟩ ⟨fun x σ=>@zl _ _ _ ⟨_⟩ _ ⟨_⟩ x σ⟩ _ _
 simp(disch:=omega)only[go_sem]
 have hcz:YD xs=lim m:=by rw[jG hx,hv,Int.toNat_natCast]
 refine qj (fun k:Nat=>[(0,.sl xs.length (qg xs)),(2,.pt 40000000 0),(3,.v (.int .i64 k))]) (fun _=>[(40000000,.own 0 [.v (.slice none 0 0)])]) (fun k=>k≤xs.length∧YD (xs.take k)=YD xs) id xs.length ⟨Nat.le_refl _,by simp⟩
  (Le.lst [] _ _ rfl (by simp(disch:=omega)only[go_sem]) (by simp(disch:=omega)only[go_sem])) ?_
 intro k ⟨hk,hc⟩
 have hkx:∀j,j+1=k→xs.take k=xs.take j++[xs.getD j 0]:=fun j hj=>by rw[←hj];exact ZL (by omega)
 simp(disch:=omega)only[go_sem]
 refine qi (fun h1=>?_) (fun h1=>?_)
 ·obtain⟨j,rfl⟩:∃j,k=j+1:=⟨k-1,by omega⟩
  have e1:((j+1:Nat):Int)-1=(j:Nat):=by omega
  rw[hkx j rfl]at hc
  simp(disch:=omega)only[go_sem,h1,e1]
  refine⟨by omega,by omega,qi (fun h2=>?_) (fun h2=>?_)⟩
  ·simp(disch:=omega)only[go_sem,h2,e1]
   rw[h2,Zy]at hc
   exact qe j [] ⟨by omega,hc⟩ (by show j<j+1;omega) rfl (by simp(disch:=omega)only[go_sem];try omega) (by simp(disch:=omega)only[go_sem])
  ·rw[VN _ h2,←hkx j rfl,hcz]at hc
   have hlm:j+1=(lim m).length:=by rw[←hc,List.length_take];omega
   have e0:(((j+1:Nat):Int)-0).toNat=(lim m).length:=by omega
   rw[hlm]at hc
   simp(disch:=omega)only[go_sem,h2,e0,hc]
   refine⟨by omega,by omega,?_⟩
   refine qm [(0,240000000)] [.own 1 (qg (lim m))] [] [.ag [.rf 0 0 (lim m).length]] rfl (by simp(disch:=omega)only[go_sem]) (by simp(disch:=omega)only[go_sem]) (by simp) (by intro _;simp[zw,AV.pu,AV.pu.puL,Ob.pu,q8]) (.inr ⟨[],rfl,by rw[List.append_nil]⟩)
 ·have hlm:k=(lim m).length:=by
   have:k=0:=by omega
   rw[←hcz,←hc,this];rfl
  subst hlm
  have hc:xs.take (lim m).length=lim m:=by
   have:lim m=[]:=List.length_eq_zero_iff.1 (by omega)
   rw[this];simp
  have e0:(((lim m).length:Int)-0).toNat=(lim m).length:=by omega
  simp(disch:=omega)only[go_sem,h1,e0,hc]
  refine⟨by omega,by omega,?_⟩
  refine qm [(0,240000000)] [.own 1 (qg (lim m))] [] [.ag [.rf 0 0 (lim m).length]] rfl (by simp(disch:=omega)only[go_sem]) (by simp(disch:=omega)only[go_sem]) (by simp) (by intro _;simp[zw,AV.pu,AV.pu.puL,Ob.pu,q8]) (.inr ⟨[],rfl,by rw[List.append_nil]⟩)
theorem ajk(cl:Bool)(n:Nat)(hn:n<2^63):Con Tryz.prog 180 cl [.v (.int .i64 n)] [] (aJJ n):=by
 refine Con.of_aw Tryz.func180 rfl Tryz.ntmps180 (by simp) (by simp) (by simp) (W.sound ?_)
 show @W Tryz.prog 15 ⟨_⟩ ⟨fun x σ=>@zl _ _ _ ⟨_⟩ _ ⟨_⟩ x σ⟩ _ _
 simp(disch:=omega)only[go_sem]
 refine qj (fun x:Nat×List Int=>[(0,.v (.int .i64 x.1)),(2,.pt 2 0),(3,.rf 1 0 x.2.length)]) (fun x=>[(1,.own 1 (qg x.2)),(2,.own 0 [.v (.slice none 0 0)])]) (fun x=>x.1<2^63∧x.2++lim x.1=lim n) (fun x=>x.1) (n,[]) ⟨hn,rfl⟩
  ((Le.ghost 3 1 1 (by simp(disch:=omega)only[go_sem]) (by simp(disch:=omega)only[go_sem])).trans (Le.lst [(2,40000000)] _ _ rfl (by simp(disch:=omega)only[go_sem]) (by simp(disch:=omega)only[go_sem]))) ?_
 rintro⟨k,l⟩ ⟨hk,hl⟩
 dsimp only at hk hl ⊢
 have hlen:l.length≤4:=by
  have h1:=congrArg List.length hl
  have h2:=yY (n:=n) (k:=4) |>.2 (by omega)
  rw[List.length_append]at h1;omega
 simp(disch:=omega)only[go_sem]
 refine qi (fun h1=>?_) (fun h1=>?_)
 ·simp(disch:=omega)only[go_sem,h1]
  have hk0:k≠0:=by omega
  refine⟨by omega,qe (k/65536,l++[(k:Int) % 65536]) [(1,120000000)] ⟨by show k/65536<2^63;omega,?_⟩ (by show k/65536<k;omega) rfl (by simp(disch:=omega)only[go_sem,List.length_append];try omega) (by simp(disch:=omega)only[go_sem])⟩
  rw[yW hk0]at hl
  rw[←hl,List.append_assoc];rfl
 ·simp(disch:=omega)only[go_sem,h1]
  have hk0:k=0:=by omega
  subst hk0
  rw[qz,List.append_nil]at hl
  subst hl
  refine qm [(0,1)] [.own 1 (qg (lim n++[]))] [] [.ag [.rf 0 0 (lim n).length]] rfl (by simp(disch:=omega)only[go_sem]) (by simp(disch:=omega)only[go_sem]) (by simp) (by intro _;simp[zw,AV.pu,AV.pu.puL,Ob.pu,q8]) (.inr ⟨[],rfl,rfl⟩)
end Go.Ab
namespace Go.Ab
open Go Go.Proofs
theorem jZ(xs:List Int)(hl:xs.length≤2^40):Con Tryz.prog 268 false [.rf 10000000 0 xs.length] [.own 1 (qg xs)] (fun r hs bs=>r=.rf 10000000 0 (YD xs).length∧hs=[]∧bs=[.own 1 (qg xs)]):=by
 refine Con.of_aw Tryz.func268 rfl Tryz.ntmps268 (by simp) (by simp) (by simp) (W.sound ?_)
 show @W Tryz.prog 21 ⟨_⟩ ⟨fun x σ=>@zl _ _ _ ⟨_⟩ _ ⟨_⟩ x σ⟩ _ _
 simp(disch:=omega)only[go_sem]
 refine qj (fun m:Nat=>[(0,.rf 10000000 0 m)]) (fun _=>[(10000000,.own 1 (qg xs))]) (fun m=>m≤xs.length∧YD (xs.take m)=YD xs) id xs.length ⟨Nat.le_refl _,by simp⟩
  (Le.lst [] _ _ rfl (by simp(disch:=omega)only[go_sem];try omega) (by simp(disch:=omega)only[go_sem])) ?_
 intro m ⟨hm,hx⟩
 have hmx:∀k,k+1=m→xs.take m=xs.take k++[xs.getD k 0]:=fun k hk=>by rw[←hk];exact ZL (by omega)
 simp(disch:=omega)only[go_sem]
 refine qi (fun h1=>?_) (fun h1=>?_)
 ·obtain⟨k,rfl⟩:∃k,m=k+1:=⟨m-1,by omega⟩
  have e1:((k+1:Nat):Int)-1=(k:Nat):=by omega
  rw[hmx k rfl]at hx
  simp(disch:=omega)only[go_sem,h1,e1]
  refine⟨by omega,by omega,qi (fun h2=>?_) (fun h2=>?_)⟩
  ·simp(disch:=omega)only[go_sem,h2,e1]
   rw[h2,Zy]at hx
   refine⟨by omega,qe k [] ⟨by omega,hx⟩ (by show k<k+1;omega) rfl (by simp(disch:=omega)only[go_sem];try omega) (by simp(disch:=omega)only[go_sem])⟩
  ·simp(disch:=omega)only[go_sem,h2]
   refine qm [] [] [.own 1 (qg xs)] [.rf 10000000 0 (k+1)] rfl (by simp(disch:=omega)only[go_sem]) (by simp(disch:=omega)only[go_sem]) (by simp) (by simp) ⟨?_,rfl,rfl⟩
   rw[VN _ h2,←hmx k rfl]at hx
   rw[←hx,List.length_take,Nat.min_eq_left hm];rfl
 ·simp(disch:=omega)only[go_sem,h1]
  refine qm [] [] [.own 1 (qg xs)] [.rf 10000000 0 m] rfl (by simp(disch:=omega)only[go_sem]) (by simp(disch:=omega)only[go_sem]) (by simp) (by simp) ⟨?_,rfl,rfl⟩
  have:m=0:=by omega
  subst this
  rw[←hx];rfl
end Go.Ab
namespace Go.Ab
open Go Go.Proofs
theorem au9{x y:Int}(hx:0≤x∧x<65536)(hy:0≤y∧y<65536):0≤x*y∧x*y≤4294836225:=by
 have h1:=Int.mul_nonneg hx.1 hy.1
 have h2:x*y≤65535*65535:=Int.mul_le_mul (by omega) (by omega) hy.1 (by omega)
 omega
theorem Ka(n:Nat):zG n [.v (.int .i64 0)]=qg (List.replicate n 0):=acK
theorem awx(cl:Bool)(A B:List Int)(hA:gd A)(hB:gd B)(lA:A.length≤1000000)(lB:B.length≤1000000):
  Con Tryz.prog 260 cl [.sl A.length (qg A),.sl B.length (qg B)] [] (auW (lim (vl A*vl B).toNat)):=by
 refine Con.of_aw Tryz.func260 rfl Tryz.ntmps260 (by simp) (by simp) (by simp) (W.sound ?_)
 show @W Tryz.prog 63 ⟨_⟩ ⟨fun x σ=>@zl _ _ _ ⟨_⟩ _ ⟨_⟩ x σ⟩ _ _
 simp(disch:=omega)only[go_sem]
 refine⟨⟨by omega,by omega,by omega⟩,?_⟩
 refine qj (fun x:Nat×List Int=>[(1,.sl B.length (qg B)),(5,.rf 180000000 0 (A.length+B.length)),(17,.sl A.length (qg A)),(18,.v (.int .i64 A.length)),(19,.v (.int .i64 x.1))])
  (fun x=>[(180000000,.own 1 (qg x.2))])
  (fun x=>x.1≤A.length∧x.2.length=A.length+B.length∧gd x.2∧vl x.2=vl (A.take x.1)*vl B∧∀j,x.1+B.length≤j→x.2.getD j 0=0)
  (fun x=>A.length-x.1) (0,List.replicate (A.length+B.length) 0) ⟨by simp,by simp,zC _,by simp[jh,vl],fun j _=>by
   rw[List.getD_eq_getElem?_getD,List.getElem?_replicate];split<;>rfl⟩
  (Le.lst [] _ _ rfl (by simp(disch:=omega)only[go_sem];try omega) (by simp(disch:=omega)only[go_sem,show((A.length:Int)+(B.length:Int)).toNat=A.length+B.length by omega])) ?_
 rintro⟨i,out⟩ ⟨hi,hol,hog,hov,hoz⟩
 dsimp only at hi hol hog hov hoz ⊢
 simp(disch:=omega)only[go_sem]
 refine qi (fun h1=>?_) (fun h1=>?_)
 ·have hx:=qS hA i
  simp(disch:=omega)only[go_sem,h1]
  refine⟨by omega,by omega,?_⟩
  refine qj (fun x:Nat×List Int×Int=>[(1,.sl B.length (qg B)),(5,.rf 180000000 0 (A.length+B.length)),(17,.sl A.length (qg A)),(18,.v (.int .i64 A.length)),(19,.v (.int .i64 i)),(6,.v (.int .i64 i)),
    (7,.v (.int .i64 (A.getD i 0))),(8,.v (.int .i64 x.2.2)),(24,.sl B.length (qg B)),(25,.v (.int .i64 B.length)),(26,.v (.int .i64 x.1))])
   (fun x=>[(180000000,.own 1 (qg x.2.1))])
   (fun x=>x.1≤B.length∧x.2.1.length=A.length+B.length∧gd x.2.1∧(0≤x.2.2∧x.2.2<65536)∧vl x.2.1+65536^(i+x.1)*x.2.2=vl out+65536^i*(A.getD i 0*vl (B.take x.1))∧∀j,i+B.length≤j→x.2.1.getD j 0=0)
   (fun x=>B.length-x.1) (0,out,0) ⟨by simp,hol,hog,by simp,by simp[vl],hoz⟩
   (Le.lst [] _ _ rfl (by simp(disch:=omega)only[go_sem];try omega) (by simp(disch:=omega)only[go_sem])) ?_
  rintro⟨j,o2,cy⟩ ⟨hj,hol2,hog2,hcy,hov2,hoz2⟩
  dsimp only at hj hol2 hog2 hcy hov2 hoz2 ⊢
  simp(disch:=omega)only[go_sem]
  refine qi (fun h2=>?_) (fun h2=>?_)
  ·have hy:=qS hB j
   have ho:=qS hog2 (i+j)
   have hxy:=au9 hx hy
   have e1:((i:Int)+(j:Int)).toNat=i+j:=by omega
   simp(disch:=omega)only[go_sem,h2,e1]
   generalize hq:cy+(o2.getD (i+j) 0+A.getD i 0*B.getD j 0)=q
   refine⟨by omega,by omega,by omega,by omega,by omega,by omega,qe (j+1,o2.set (i+j) (q % 65536),q/65536) [] ⟨by show j+1≤_;omega,by simp[hol2],Qc hog2 (by omega),by show 0≤q/65536∧q/65536<65536;omega,?_,fun k hk=>?_⟩
    (by show B.length-(j+1)<B.length-j;omega) rfl (by simp(disch:=omega)only[go_sem];try omega) (by simp(disch:=omega)only[go_sem])⟩
   ·show vl (o2.set (i+j) (q % 65536))+65536^(i+(j+1))*(q/65536)=vl out+65536^i*(A.getD i 0*vl (B.take (j+1)))
    rw[Jd (by omega),jJ (by omega),←Nat.add_assoc,Int.pow_succ]
    have e2:(65536:Int)^(i+j)=65536^i*65536^j:=Int.pow_add _ _ _
    have e3:q % 65536+65536*(q/65536)=q:=Int.emod_add_mul_ediv q 65536
    rw[e2]at hov2 ⊢
    generalize (65536:Int)^i=Pi at*
    generalize (65536:Int)^j=Pj at*
    grind
   ·show(o2.set (i+j) (q % 65536)).getD k 0=0
    rw[List.getD_eq_getElem?_getD,List.getElem?_set_ne (by omega),←List.getD_eq_getElem?_getD]
    exact hoz2 k hk
  ·simp(disch:=omega)only[go_sem,h2]
   have e1:((i:Int)+(B.length:Int)).toNat=i+B.length:=by omega
   have hjB:j=B.length:=by omega
   subst hjB
   rw[List.take_length]at hov2
   simp(disch:=omega)only[go_sem,e1]
   refine⟨by omega,by omega,qe (i+1,o2.set (i+B.length) cy) [] ⟨by show i+1≤_;omega,by simp[hol2],Qc hog2 hcy,?_,fun k hk=>?_⟩ (by show A.length-(i+1)<A.length-i;omega) rfl (by simp(disch:=omega)only[go_sem];try omega) (by simp(disch:=omega)only[go_sem])⟩
   ·show vl (o2.set (i+B.length) cy)=vl (A.take (i+1))*vl B
    rw[Jd (by omega),hoz2 _ (Nat.le_refl _),jJ (by omega)]
    generalize (65536:Int)^i=Pi at*
    grind
   ·show(o2.set (i+B.length) cy).getD k 0=0
    rw[List.getD_eq_getElem?_getD,List.getElem?_set_ne (by show i+B.length≠k;omega),←List.getD_eq_getElem?_getD]
    exact hoz2 k (by omega)
 ·simp(disch:=omega)only[go_sem,h1]
  have hiA:i=A.length:=by omega
  subst hiA
  rw[List.take_length]at hov
  refine zt false [180000000] (jZ out (by omega)) (by rw[←hol];simp(disch:=omega)only[go_sem]) (by simp(disch:=omega)only[go_sem]) rfl (zp (z:=1) (cs:=qg out) (by simp(disch:=omega)only[go_sem]) (by simp(disch:=omega)only[go_sem])) (by intro n hn;exact⟨_,List.mem_singleton.2 rfl,by rw[List.mem_singleton.1 hn];rfl⟩) ?_
  rintro r hs bs ⟨rfl,rfl,rfl⟩ _
  refine⟨by simp[qL],?_⟩
  simp(disch:=omega)only[go_sem]
  obtain⟨z,hz⟩:=je out
  have hc:=jG hog
  rw[hov]at hc
  rw[hc]at hz ⊢
  refine qm [(0,180000000)] [.own 1 (qg out)] [] [.rf 0 0 (lim (vl A*vl B).toNat).length] rfl (by simp(disch:=omega)only[go_sem]) (by simp(disch:=omega)only[go_sem]) (by simp) (by intro _;simp[zw,AV.pu,AV.pu.puL,Ob.pu,q8]) (.inr ⟨List.replicate z 0,rfl,by rw[←hz]⟩)
end Go.Ab
namespace Go.Ab
open Go Go.Proofs
set_option maxRecDepth 100000 in
theorem awZ(cl:Bool)(a b:Nat)(la:(lim a).length≤2000000)(lb:(lim b).length≤2000000):Con Tryz.prog 179 cl [.ag [.sl (lim (a)).length (qg (lim (a)))],.ag [.sl (lim (b)).length (qg (lim (b)))]] [] (aJJ (a+b)):=by
 refine Con.of_aw Tryz.func179 rfl Tryz.ntmps179 (by simp) (by simp) (by simp) (W.sound ?_)
 show @W Tryz.prog 61 ⟨_⟩ ⟨fun x σ=>@zl _ _ _ ⟨_⟩ _ ⟨_⟩ x σ⟩ _ _
 simp(disch:=omega)only[go_sem]
 have hA:=zj a
 have hB:=zj b
 refine qj (fun x:Nat×List Int×Int=>[(2,.pt 3 0),(3,.pt 4 0),(4,.pt 2 0),(5,.rf 1 0 x.2.1.length),(6,.v (.int .i64 x.2.2)),(7,.v (.int .i64 x.1))])
  (fun x=>[(1,.own 1 (qg x.2.1)),(2,.own 0 [.v (.slice none 0 0)]),(3,.own 0 [.sl (lim (a)).length (qg (lim (a)))]),(4,.own 0 [.sl (lim (b)).length (qg (lim (b)))])])
  (fun x=>x.1≤max (lim a).length (lim b).length+1∧x.2.1.length=x.1∧gd x.2.1∧(0≤x.2.2∧x.2.2≤1)∧vl x.2.1+65536^x.1*x.2.2=vl ((lim a).take x.1)+vl ((lim b).take x.1)∧(max (lim a).length (lim b).length<x.1→x.2.2=0))
  (fun x=>2*(max (lim a).length (lim b).length-x.1)+x.2.2.toNat) (0,[],0) ⟨by simp,rfl,Ys,by simp,by simp[vl],fun h=>rfl⟩
  ((Le.ghost 5 1 1 (by simp(disch:=omega)only[go_sem]) (by simp(disch:=omega)only[go_sem])).trans (Le.lst [(2,60000000),(3,40000000),(4,50000000)] _ _ rfl (by simp(disch:=omega)only[go_sem]) (by simp(disch:=omega)only[go_sem]))) ?_
 rintro⟨i,out,cy⟩ ⟨hi,hol,hog,hcy,hov,hcz⟩
 dsimp only at hi hol hog hcy hov hcz ⊢
 have hx:=qS hA i
 have hy:=qS hB i
 have hxz:¬(i:Int)<(lim a).length→(lim a).getD i 0=0:=fun h=>by rw[List.getD_eq_getElem?_getD,List.getElem?_eq_none (by omega)];rfl
 have hyz:¬(i:Int)<(lim b).length→(lim b).getD i 0=0:=fun h=>by rw[List.getD_eq_getElem?_getD,List.getElem?_eq_none (by omega)];rfl
 have hstep:∀q:Int,q=cy+(lim a).getD i 0+(lim b).getD i 0→vl (out++[q % 65536])+65536^(i+1)*(q/65536)=vl ((lim a).take (i+1))+vl ((lim b).take (i+1)):=by
  intro q hq
  rw[j9,za,za,hol,Int.pow_succ]
  have e3:q % 65536+65536*(q/65536)=q:=Int.emod_add_mul_ediv q 65536
  generalize (65536:Int)^i=Pi at*
  grind
 have key:∀q:Int,q=cy+(lim a).getD i 0+(lim b).getD i 0→(i:Int)<(lim a).length∨(i:Int)<(lim b).length∨0<cy→
   ((i+1≤max (lim a).length (lim b).length+1∧(out++[q % 65536]).length=i+1∧gd (out++[q % 65536])∧(0≤q/65536∧q/65536≤1)∧vl (out++[q % 65536])+65536^(i+1)*(q/65536)=vl ((lim a).take (i+1))+vl ((lim b).take (i+1))∧(max (lim a).length (lim b).length<i+1→q/65536=0))∧
   2*(max (lim a).length (lim b).length-(i+1))+(q/65536).toNat<2*(max (lim a).length (lim b).length-i)+cy.toNat):=by
  intro q hq hc
  have hle:i≤max (lim a).length (lim b).length:=by
   rcases Nat.lt_or_ge (max (lim a).length (lim b).length) i with h|h
   ·have:=hcz h;omega
   ·exact h
  have hbig:max (lim a).length (lim b).length<i+1→q/65536=0:=fun h=>by
   have:=hxz (by omega)
   have:=hyz (by omega)
   omega
  refine⟨⟨by omega,by simp[hol],qT.2 ⟨hog,jo.2 (by omega)⟩,by omega,hstep q hq,hbig⟩,?_⟩
  by_cases hm:max (lim a).length (lim b).length<i+1
  ·have:=hbig hm;omega
  ·omega
 by_cases h1:(i:Int)<(lim a).length<;>by_cases h2:(i:Int)<(lim b).length
 ·simp(disch:=omega)only[go_sem,h1,h2]
  obtain⟨k1,k2⟩:=key _ rfl (.inl h1)
  refine⟨by omega,by omega,by omega,by omega,by omega,qe (i+1,out++[(cy+(lim a).getD i 0+(lim b).getD i 0) % 65536],(cy+(lim a).getD i 0+(lim b).getD i 0)/65536) [(1,580000000)] k1 k2 rfl (by simp(disch:=omega)only[go_sem,List.length_append];try omega) (by simp(disch:=omega)only[go_sem])⟩
 ·simp(disch:=omega)only[go_sem,h1,h2]
  have e0:cy+(lim a).getD i 0=cy+(lim a).getD i 0+(lim b).getD i 0:=by rw[hyz h2];omega
  obtain⟨k1,k2⟩:=key (cy+(lim a).getD i 0) e0 (.inl h1)
  refine⟨by omega,by omega,by omega,qe (i+1,out++[(cy+(lim a).getD i 0) % 65536],(cy+(lim a).getD i 0)/65536) [(1,580000000)] k1 k2 rfl (by simp(disch:=omega)only[go_sem,List.length_append];try omega) (by simp(disch:=omega)only[go_sem])⟩
 ·simp(disch:=omega)only[go_sem,h1,h2]
  have e0:cy+(lim b).getD i 0=cy+(lim a).getD i 0+(lim b).getD i 0:=by rw[hxz h1];omega
  obtain⟨k1,k2⟩:=key (cy+(lim b).getD i 0) e0 (.inr (.inl h2))
  refine⟨by omega,by omega,by omega,qe (i+1,out++[(cy+(lim b).getD i 0) % 65536],(cy+(lim b).getD i 0)/65536) [(1,580000000)] k1 k2 rfl (by simp(disch:=omega)only[go_sem,List.length_append];try omega) (by simp(disch:=omega)only[go_sem])⟩
 ·by_cases h3:0<cy
  ·simp(disch:=omega)only[go_sem,h1,h2,h3]
   have e0:cy=cy+(lim a).getD i 0+(lim b).getD i 0:=by rw[hxz h1,hyz h2];omega
   obtain⟨k1,k2⟩:=key cy e0 (.inr (.inr h3))
   refine⟨by omega,qe (i+1,out++[cy % 65536],cy/65536) [(1,580000000)] k1 k2 rfl (by simp(disch:=omega)only[go_sem,List.length_append];try omega) (by simp(disch:=omega)only[go_sem])⟩
  ·have hcy0:cy=0:=by omega
   have hov2:vl out=((a+b:Nat):Int):=by
    rw[List.take_of_length_le (by omega),List.take_of_length_le (by omega),zd,zd,hcy0]at hov
    simp at hov;omega
   simp(disch:=omega)only[go_sem,h1,h2,h3]
   refine qx (j7 true out (a+b) (by omega) hog hov2) (by simp(disch:=omega)only[go_sem]) ?_
   rintro r hs (⟨h0,rfl,rfl⟩|⟨zs,rfl,rfl⟩)
   ·refine⟨⟨by simp,by simp(disch:=omega)only[go_sem]⟩,?_⟩
    simp(disch:=omega)only[go_sem]
    refine qm [] [] [] [.ag [.v (.slice none 0 0)]] rfl (by simp(disch:=omega)only[go_sem]) (by simp(disch:=omega)only[go_sem]) (by simp) (by intro _;simp[zw,AV.pu,AV.pu.puL,Ob.pu,q8]) (.inl ⟨h0,rfl,rfl⟩)
   ·refine⟨⟨by simp,by simp(disch:=omega)only[go_sem]⟩,?_⟩
    simp(disch:=omega)only[go_sem]
    refine qm [(0,620000000)] [.own 1 (qg (lim (a+b)++zs))] [] [.ag [.rf 0 0 (lim (a+b)).length]] rfl (by simp(disch:=omega)only[go_sem]) (by simp(disch:=omega)only[go_sem]) (by simp) (by intro _;simp[zw,AV.pu,AV.pu.puL,Ob.pu,q8]) (.inr ⟨zs,rfl,rfl⟩)
end Go.Ab
namespace Go.Ab
open Go Go.Proofs
set_option maxRecDepth 100000 in
theorem XL(cl:Bool)(A:List Int)(hA:gd A)(b:Nat)(lA:A.length≤1000000)(lB:(lim b).length≤1000000)(m:Nat)(hm:vl A*(b:Int)=(m:Int)):
  Con Tryz.prog 264 cl [.ag [.sl A.length (qg A)],.ag [.sl (lim (b)).length (qg (lim (b)))]] [] (aJJ m):=by
 refine Con.of_aw Tryz.func264 rfl Tryz.ntmps264 (by simp) (by simp) (by simp) (W.sound ?_)
 show @W Tryz.prog 80 ⟨_⟩ ⟨fun x σ=>@zl _ _ _ ⟨_⟩ _ ⟨_⟩ x σ⟩ _ _
 have hvb:=zd b
 have hB:=zj b
 generalize lim b=B at*
 simp(disch:=omega)only[go_sem]
 refine⟨by omega,?_⟩
 refine qj (fun x:Nat×List Int=>[(2,.pt 0 0),(3,.pt 1 0),(4,.pt 2 0),(5,.rf 3 0 (A.length+B.length)),(6,.v (.int .i64 x.1))])
  (fun x=>[(0,.own 0 [.sl A.length (qg A)]),(1,.own 0 [.sl B.length (qg B)]),(2,.own 0 [.v (.slice none 0 0)]),(3,.own 1 (qg x.2))])
  (fun x=>x.1≤A.length∧x.2.length=A.length+B.length∧gd x.2∧vl x.2=vl (A.take x.1)*vl B∧∀j,x.1+B.length≤j→x.2.getD j 0=0)
  (fun x=>A.length-x.1) (0,List.replicate (A.length+B.length) 0) ⟨by simp,by simp,zC _,by simp[jh,vl],fun j _=>by
   rw[List.getD_eq_getElem?_getD,List.getElem?_replicate];split<;>rfl⟩
  (Le.lst [(0,40000000),(1,50000000),(2,60000000),(3,190000000)] _ _ rfl (by simp(disch:=omega)only[go_sem];try omega) (by simp(disch:=omega)only[go_sem,show((A.length:Int)+(B.length:Int)).toNat=A.length+B.length by omega])) ?_
 rintro⟨i,out⟩ ⟨hi,hol,hog,hov,hoz⟩
 dsimp only at hi hol hog hov hoz ⊢
 simp(disch:=omega)only[go_sem]
 refine qi (fun h1=>?_) (fun h1=>?_)
 ·have hx:=qS hA i
  simp(disch:=omega)only[go_sem,h1]
  refine qj (fun x:Nat×List Int×Int=>[(2,.pt 0 0),(3,.pt 1 0),(4,.pt 2 0),(5,.rf 3 0 (A.length+B.length)),(6,.v (.int .i64 i)),(7,.v (.int .i64 x.2.2)),(8,.v (.int .i64 x.1))])
   (fun x=>[(0,.own 0 [.sl A.length (qg A)]),(1,.own 0 [.sl B.length (qg B)]),(2,.own 0 [.v (.slice none 0 0)]),(3,.own 1 (qg x.2.1))])
   (fun x=>x.1≤B.length∧x.2.1.length=A.length+B.length∧gd x.2.1∧(0≤x.2.2∧x.2.2<65536)∧vl x.2.1+65536^(i+x.1)*x.2.2=vl out+65536^i*(A.getD i 0*vl (B.take x.1))∧∀j,i+B.length≤j→x.2.1.getD j 0=0)
   (fun x=>B.length-x.1) (0,out,0) ⟨by simp,hol,hog,by simp,by simp[vl],hoz⟩
   (Le.lst [] _ _ rfl (by simp(disch:=omega)only[go_sem];try omega) (by simp(disch:=omega)only[go_sem])) ?_
  rintro⟨j,o2,cy⟩ ⟨hj,hol2,hog2,hcy,hov2,hoz2⟩
  dsimp only at hj hol2 hog2 hcy hov2 hoz2 ⊢
  simp(disch:=omega)only[go_sem]
  refine qi (fun h2=>?_) (fun h2=>?_)
  ·have hy:=qS hB j
   have ho:=qS hog2 (i+j)
   have hxy:=au9 hx hy
   have e1:((i:Int)+(j:Int)).toNat=i+j:=by omega
   simp(disch:=omega)only[go_sem,h2]
   refine qv rfl [⟨0,[],[]⟩,⟨1,[],[]⟩,⟨2,[],[]⟩,⟨3,[],[]⟩,⟨4,[],[]⟩,⟨5,[],[]⟩,⟨6,[5],[]⟩,⟨7,[5],[]⟩,⟨8,[5,7],[]⟩,⟨9,[5],[]⟩,⟨10,[5],[]⟩,⟨11,[5,7,10],[]⟩,⟨12,[5,7,10],[]⟩,⟨13,[5,7,10,12],[]⟩,⟨14,[5,7,10],[]⟩,⟨15,[5,7,10],[]⟩,⟨16,[5],[]⟩,⟨17,[],[]⟩,⟨18,[5,7,10,12,15],[]⟩,⟨19,[],[]⟩,⟨20,[],[]⟩] (by kernel_rfl) ?_
   simp(disch:=omega)only[go_sem,e1]
   generalize hq:o2.getD (i+j) 0+A.getD i 0*B.getD j 0+cy=q
   refine⟨by omega,by omega,by omega,by omega,by omega,by omega,by omega,by omega,qe (j+1,o2.set (i+j) (q % 65536),q/65536) [] ⟨by show j+1≤_;omega,by simp[hol2],Qc hog2 (by omega),by show 0≤q/65536∧q/65536<65536;omega,?_,fun k hk=>?_⟩
    (by show B.length-(j+1)<B.length-j;omega) rfl (by simp(disch:=omega)only[go_sem];try omega) (by simp(disch:=omega)only[go_sem])⟩
   ·show vl (o2.set (i+j) (q % 65536))+65536^(i+(j+1))*(q/65536)=vl out+65536^i*(A.getD i 0*vl (B.take (j+1)))
    rw[Jd (by omega),jJ (by omega),←Nat.add_assoc,Int.pow_succ]
    have e2:(65536:Int)^(i+j)=65536^i*65536^j:=Int.pow_add _ _ _
    have e3:q % 65536+65536*(q/65536)=q:=Int.emod_add_mul_ediv q 65536
    rw[e2]at hov2 ⊢
    generalize (65536:Int)^i=Pi at*
    generalize (65536:Int)^j=Pj at*
    grind
   ·show(o2.set (i+j) (q % 65536)).getD k 0=0
    rw[List.getD_eq_getElem?_getD,List.getElem?_set_ne (by omega),←List.getD_eq_getElem?_getD]
    exact hoz2 k hk
  ·simp(disch:=omega)only[go_sem,h2]
   have e1:((i:Int)+(B.length:Int)).toNat=i+B.length:=by omega
   have hjB:j=B.length:=by omega
   subst hjB
   rw[List.take_length]at hov2
   have hz:=hoz2 (i+B.length) (Nat.le_refl _)
   refine qv rfl [⟨0,[],[]⟩,⟨1,[],[]⟩,⟨2,[],[]⟩,⟨3,[],[]⟩,⟨4,[],[]⟩,⟨5,[],[]⟩,⟨6,[3],[]⟩,⟨7,[3],[]⟩,⟨8,[3],[]⟩,⟨9,[3],[]⟩,⟨10,[3],[]⟩,⟨11,[3],[]⟩,⟨12,[3],[]⟩,⟨13,[3],[]⟩,⟨14,[3,9,13],[]⟩,⟨15,[3],[]⟩,⟨16,[],[]⟩,⟨17,[],[]⟩] (by kernel_rfl) ?_
   simp(disch:=omega)only[go_sem,e1,hz]
   have e0:(0:Int)+cy=cy:=by omega
   refine⟨by omega,by omega,by omega,by omega,qe (i+1,o2.set (i+B.length) cy) [] ⟨by show i+1≤_;omega,by simp[hol2],Qc hog2 hcy,?_,fun k hk=>?_⟩ (by show A.length-(i+1)<A.length-i;omega) rfl (by simp(disch:=omega)only[go_sem];try omega) (by simp(disch:=omega)only[go_sem,e0])⟩
   ·show vl (o2.set (i+B.length) cy)=vl (A.take (i+1))*vl B
    rw[Jd (by omega),hz,jJ (by omega)]
    generalize (65536:Int)^i=Pi at*
    grind
   ·show(o2.set (i+B.length) cy).getD k 0=0
    rw[List.getD_eq_getElem?_getD,List.getElem?_set_ne (by show i+B.length≠k;omega),←List.getD_eq_getElem?_getD]
    exact hoz2 k (by omega)
 ·simp(disch:=omega)only[go_sem,h1]
  have hiA:i=A.length:=by omega
  subst hiA
  rw[List.take_length,hvb,hm]at hov
  rw[←hol]
  refine qx (j7 true (out) (m) (by omega) (hog) (hov)) (by simp(disch:=omega)only[go_sem]) ?_
  rintro r hs (⟨h0,rfl,rfl⟩|⟨zs,rfl,rfl⟩)
  ·refine⟨⟨by simp,by simp(disch:=omega)only[go_sem]⟩,?_⟩
   simp(disch:=omega)only[go_sem]
   refine qm [] [] [] [.ag [.v (.slice none 0 0)]] rfl (by simp(disch:=omega)only[go_sem]) (by simp(disch:=omega)only[go_sem]) (by simp) (by intro _;simp[zw,AV.pu,AV.pu.puL,Ob.pu,q8]) (.inl ⟨h0,rfl,rfl⟩)
  ·refine⟨⟨by simp,by simp(disch:=omega)only[go_sem]⟩,?_⟩
   simp(disch:=omega)only[go_sem]
   refine qm [(0,810000000)] [.own 1 (qg (lim (m)++zs))] [] [.ag [.rf 0 0 (lim (m)).length]] rfl (by simp(disch:=omega)only[go_sem]) (by simp(disch:=omega)only[go_sem]) (by simp) (by intro _;simp[zw,AV.pu,AV.pu.puL,Ob.pu,q8]) (.inr ⟨zs,rfl,rfl⟩)
theorem awY(cl:Bool)(a b:Nat)(la:(lim a).length≤1000000)(lb:(lim b).length≤1000000):Con Tryz.prog 264 cl [.ag [.sl (lim (a)).length (qg (lim (a)))],.ag [.sl (lim (b)).length (qg (lim (b)))]] [] (aJJ (a*b)):=
 XL cl (lim a) (zj a) b la lb (a*b) (by rw[zd,Int.natCast_mul])
end Go.Ab
namespace Go.Ab
open Go Go.Proofs
theorem Qo(k:Nat)(h:k<16):(0:Int)<2^k∧(2:Int)^k≤32768:=by
 have:∀k,k<16→(0:Int)<2^k∧(2:Int)^k≤32768:=by decide
 exact this k h
theorem au8{x:Int}(hx:0≤x∧x<65536){k:Nat}(hk:k<16):0≤x*2^k∧x*2^k≤2147450880:=by
 obtain⟨h1,h2⟩:=Qo k hk
 have h3:=Int.mul_nonneg hx.1 (Int.le_of_lt h1)
 have h4:x*2^k≤65535*32768:=Int.mul_le_mul (by omega) h2 (by omega) (by omega)
 omega
theorem acn(k:Nat):(65536:Int)^(k/16)*2^(k % 16)=2^k:=by
 have e:(65536:Int)=2^16:=by decide
 rw[e,←Int.pow_mul,←Int.pow_add,Nat.div_add_mod]
theorem beJ(cl:Bool)(A:List Int)(k:Nat)(hA:gd A)(lA:A.length≤1000000)(hk:k≤100000000):
  Con Tryz.prog 214 cl [.sl A.length (qg A),.v (.int .i64 k)] [] (auW (lim (vl A*2^k).toNat)):=by
 refine Con.of_aw Tryz.func214 rfl Tryz.ntmps214 (by simp) (by simp) (by simp) (W.sound ?_)
 show @W Tryz.prog 46 ⟨_⟩ ⟨fun x σ=>@zl _ _ _ ⟨_⟩ _ ⟨_⟩ x σ⟩ _ _
 simp(disch:=omega)only[go_sem]
 refine qi (fun h0=>?_) (fun h0=>?_)
 ·simp(disch:=omega)only[go_sem,h0]
  have:A=[]:=List.length_eq_zero_iff.1 (by omega)
  subst this
  refine qm [] [] [] [.v (.slice none 0 0)] rfl (by simp(disch:=omega)only[go_sem]) (by simp(disch:=omega)only[go_sem]) (by simp) (by intro _;simp[zw,AV.pu,AV.pu.puL,Ob.pu,q8]) (.inl ⟨by simp[vl,qz],rfl,rfl⟩)
 ·simp(disch:=omega)only[go_sem,h0]
  refine⟨by omega,?_⟩
  have e16:((k:Int)/16).toNat=k/16:=by omega
  refine qj (fun x:Nat×List Int×Int=>[(1,.v (.int .i64 k)),(5,.rf 1 0 x.2.1.length),(6,.v (.int .i64 x.2.2)),(21,.sl A.length (qg A)),(22,.v (.int .i64 A.length)),(23,.v (.int .i64 x.1))])
   (fun x=>[(1,.own 1 (qg x.2.1))])
   (fun x=>x.1≤A.length∧x.2.1.length=k/16+x.1∧gd x.2.1∧(0≤x.2.2∧x.2.2<65536)∧vl x.2.1+65536^(k/16+x.1)*x.2.2=65536^(k/16)*2^(k % 16)*vl (A.take x.1))
   (fun x=>A.length-x.1) (0,List.replicate (k/16) 0,0) ⟨by simp,by simp,zC _,by simp,by simp[vl,jh]⟩
   (Le.lst [(1,220000000)] _ _ rfl (by simp(disch:=omega)only[go_sem,List.length_replicate,e16]) (by simp(disch:=omega)only[go_sem,e16])) ?_
  rintro⟨i,out,cy⟩ ⟨hi,hol,hog,hcy,hov⟩
  dsimp only at hi hol hog hcy hov ⊢
  simp(disch:=omega)only[go_sem]
  refine qi (fun h1=>?_) (fun h1=>?_)
  ·have hx:=qS hA i
   have hxs:=au8 hx (show k % 16<16 by omega)
   have em:min ((k:Int) % 16).toNat 64=k % 16:=by omega
   simp(disch:=omega)only[go_sem,h1,em]
   generalize hq:cy+A.getD i 0*2^(k % 16)=q
   refine⟨by omega,by omega,by omega,by omega,qe (i+1,out++[q % 65536],q/65536) [(1,390000000)] ⟨by show i+1≤_;omega,by simp[hol];omega,qT.2 ⟨hog,jo.2 (by omega)⟩,by show 0≤q/65536∧q/65536<65536;omega,?_⟩ (by show A.length-(i+1)<A.length-i;omega) rfl (by simp(disch:=omega)only[go_sem,List.length_append];try omega) (by simp(disch:=omega)only[go_sem])⟩
   show vl (out++[q % 65536])+65536^(k/16+(i+1))*(q/65536)=65536^(k/16)*2^(k % 16)*vl (A.take (i+1))
   rw[j9,za,hol,←Nat.add_assoc,Int.pow_succ]
   have e3:q % 65536+65536*(q/65536)=q:=Int.emod_add_mul_ediv q 65536
   rw[Int.pow_add]at hov ⊢
   generalize (65536:Int)^i=Pi at*
   generalize (65536:Int)^(k/16)=Pk at*
   generalize (2:Int)^(k % 16)=Pm at*
   grind
  ·simp(disch:=omega)only[go_sem,h1]
   have hiA:i=A.length:=by omega
   subst hiA
   rw[List.take_length,acn]at hov
   have hov2:vl (out++[cy])=vl A*2^k:=by rw[j9,hol,hov];grind
   have hog2:gd (out++[cy]):=qT.2 ⟨hog,jo.2 hcy⟩
   refine⟨by omega,?_⟩
   have hl2:out.length+1=(out++[cy]).length:=by simp
   rw[hl2]
   refine zt false [460000000] (jZ (out++[cy]) (by simp;omega)) (by simp(disch:=omega)only[go_sem]) (by simp(disch:=omega)only[go_sem]) rfl (zp (z:=1) (cs:=qg (out++[cy])) (by simp(disch:=omega)only[go_sem]) (by simp(disch:=omega)only[go_sem])) (by intro n hn;exact⟨_,List.mem_singleton.2 rfl,by rw[List.mem_singleton.1 hn];rfl⟩) ?_
   rintro r hs bs ⟨rfl,rfl,rfl⟩ _
   refine⟨by simp[qL],?_⟩
   simp(disch:=omega)only[go_sem]
   obtain⟨z,hz⟩:=je (out++[cy])
   have hc:=jG hog2
   rw[hov2]at hc
   rw[hc]at hz ⊢
   refine qm [(0,460000000)] [.own 1 (qg (out++[cy]))] [] [.rf 0 0 (lim (vl A*2^k).toNat).length] rfl (by simp(disch:=omega)only[go_sem]) (by simp(disch:=omega)only[go_sem]) (by simp) (by intro _;simp[zw,AV.pu,AV.pu.puL,Ob.pu,q8]) (.inr ⟨List.replicate z 0,rfl,by rw[←hz]⟩)
end Go.Ab
namespace Go.Ab
open Go Go.Proofs
theorem drop_set{l:List Int}{i:Nat}(h:i<l.length)(z:Int):(l.set i z).drop i=z::l.drop (i+1):=by
 rw[List.drop_eq_getElem_cons (by simpa using h)]
 simp[List.drop_set]
theorem aLw(cl:Bool)(A:List Int)(d:Nat)(hA:gd A)(lA:A.length≤1000000)(hd:0<d)(hd2:d<65536):
  Con Tryz.prog 327 cl [.sl A.length (qg A),.v (.int .i64 d)] [] (fun r hs bs=>∃zs,r=.tu [.rf 0 0 (lim (vl A/d).toNat).length,.v (.int .i64 (vl A % d))]∧hs=[.own 1 (qg (lim (vl A/d).toNat++zs))]):=by
 refine Con.of_aw Tryz.func327 rfl Tryz.ntmps327 (by simp) (by simp) (by simp) (W.sound ?_)
 show @W Tryz.prog 38 ⟨_⟩ ⟨fun x σ=>@zl _ _ _ ⟨_⟩ _ ⟨_⟩ x σ⟩ _ _
 simp(disch:=omega)only[go_sem]
 refine⟨by omega,?_⟩
 refine qj (fun x:Nat×List Int×Int=>[(0,.sl A.length (qg A)),(1,.v (.int .i64 d)),(6,.rf 130000000 0 A.length),(7,.v (.int .i64 x.2.2)),(8,.v (.int .i64 ((x.1:Int)-1)))])
  (fun x=>[(130000000,.own 1 (qg x.2.1))])
  (fun x=>x.1≤A.length∧x.2.1.length=A.length∧gd x.2.1∧x.2.2=vl (A.drop x.1) % d∧vl (x.2.1.drop x.1)=vl (A.drop x.1)/d)
  (fun x=>x.1) (A.length,List.replicate A.length 0,0) ⟨by simp,by simp,zC _,by simp[vl],by simp[vl]⟩
  (Le.lst [] _ _ rfl (by simp(disch:=omega)only[go_sem];try omega) (by simp(disch:=omega)only[go_sem])) ?_
 rintro⟨m,out,rest⟩ ⟨hm,hol,hog,hr,hov⟩
 dsimp only at hm hol hog hr hov ⊢
 simp(disch:=omega)only[go_sem]
 refine qi (fun h1=>?_) (fun h1=>?_)
 ·obtain⟨i,rfl⟩:∃i,m=i+1:=⟨m-1,by omega⟩
  have e1:((i+1:Nat):Int)-1=(i:Nat):=by omega
  have hx:=qS hA i
  have hr2:0≤rest∧rest<d:=by rw[hr];exact⟨Int.emod_nonneg _ (by omega),Int.emod_lt_of_pos _ (by omega)⟩
  generalize hq:rest*65536+A.getD i 0=q
  have hq0:0≤q:=by omega
  have hqd:0≤q/d∧q/d<65536:=⟨Int.ediv_nonneg hq0 (by omega),Int.ediv_lt_of_lt_mul (by omega) (by omega)⟩
  have hqm:0≤q % d∧q % d<d:=⟨Int.emod_nonneg _ (by omega),Int.emod_lt_of_pos _ (by omega)⟩
  simp(disch:=omega)only[go_sem,h1,e1,hq]
  refine⟨by omega,by omega,by omega,by omega,by omega,by omega,qe (i,out.set i (q/d),q % d) [] ⟨by show i≤_;omega,by simp[hol],Qc hog hqd,?_,?_⟩ (by show i<i+1;omega) rfl (by simp(disch:=omega)only[go_sem]) (by simp(disch:=omega)only[go_sem])⟩
  ·show q % d=vl (A.drop i) % d
   rw[zQ (l:=A) (i:=i) (by omega),←hq,hr]
   have h3:=Int.emod_add_mul_ediv (vl (A.drop (i+1))) d
   rw[show A.getD i 0+65536*vl (A.drop (i+1))=vl (A.drop (i+1)) % d*65536+A.getD i 0+d*(65536*(vl (A.drop (i+1))/d)) by grind,Int.add_mul_emod_self_left]
  ·show vl ((out.set i (q/d)).drop i)=vl (A.drop i)/d
   rw[drop_set (by omega),vl,hov,zQ (l:=A) (i:=i) (by omega),←hq,hr]
   have h3:=Int.emod_add_mul_ediv (vl (A.drop (i+1))) d
   rw[show A.getD i 0+65536*vl (A.drop (i+1))=vl (A.drop (i+1)) % d*65536+A.getD i 0+d*(65536*(vl (A.drop (i+1))/d)) by grind,Int.add_mul_ediv_left _ _ (by omega)]
 ·simp(disch:=omega)only[go_sem,h1]
  have:m=0:=by omega
  subst this
  rw[List.drop_zero,List.drop_zero]at hov
  rw[List.drop_zero]at hr
  rw[←hol]
  refine zt false [130000000] (jZ out (by omega)) (by simp(disch:=omega)only[go_sem]) (by simp(disch:=omega)only[go_sem]) rfl (zp (z:=1) (cs:=qg out) (by simp(disch:=omega)only[go_sem]) (by simp(disch:=omega)only[go_sem])) (by intro n hn;exact⟨_,List.mem_singleton.2 rfl,by rw[List.mem_singleton.1 hn];rfl⟩) ?_
  rintro r hs bs ⟨rfl,rfl,rfl⟩ _
  refine⟨by simp[qL],?_⟩
  simp(disch:=omega)only[go_sem]
  obtain⟨z,hz⟩:=je out
  have hc:=jG hog
  rw[hov]at hc
  rw[hc]at hz ⊢
  rw[hr]
  refine qm [(0,130000000)] [.own 1 (qg out)] [] [.rf 0 0 (lim (vl A/d).toNat).length,.v (.int .i64 (vl A % d))] rfl (by simp(disch:=omega)only[go_sem]) (by simp(disch:=omega)only[go_sem]) (by simp) (by intro _;simp[zw,AV.pu,AV.pu.puL,Ob.pu,q8]) ⟨List.replicate z 0,rfl,by rw[←hz]⟩
end Go.Ab
