/- What the proof of this claim stands on: the walks of the functions and the plain laws, part 3. -/
import Derived.Test.YtgkehjnacdccfaaGreatDoorFnExpBackLib2
import Derived.Test.YtgkehjnacdccfaaGreatDoorProg
import Derived.KernelRfl
set_option linter.unusedVariables false
set_option linter.unusedSimpArgs false
namespace Go.Ab
open Go Go.Proofs
def ti1:TI:=⟨Kd.oth,1,8,Value.nilFunc⟩
theorem tf1:qm Tryz.prog 1=some ti1:=by kernel_rfl
def ti2:TI:=⟨Kd.int IntKind.i64,1,8,Value.int IntKind.i64 0⟩
theorem tf2:qm Tryz.prog 2=some ti2:=by kernel_rfl
def ti3:TI:=⟨Kd.int IntKind.i64,1,8,Value.int IntKind.i64 0⟩
theorem tf3:qm Tryz.prog 3=some ti3:=by kernel_rfl
def ti4:TI:=⟨Kd.bool,1,1,Value.bool false⟩
theorem tf4:qm Tryz.prog 4=some ti4:=by kernel_rfl
def ti5:TI:=⟨Kd.int IntKind.u8,1,1,Value.int IntKind.u8 0⟩
theorem tf5:qm Tryz.prog 5=some ti5:=by kernel_rfl
def ti6:TI:=⟨Kd.int IntKind.u8,1,1,Value.int IntKind.u8 0⟩
theorem tf6:qm Tryz.prog 6=some ti6:=by kernel_rfl
def ti7:TI:=⟨Kd.stru [(0,2),(1,3),(2,4),(3,6)],4,24,Value.agg ⟨[Value.int IntKind.i64 0,Value.int IntKind.i64 0,Value.bool false,Value.int IntKind.u8 0]⟩⟩
theorem tf7:qm Tryz.prog 7=some ti7:=by kernel_rfl
def ti8:TI:=⟨Kd.stru [(0,2),(1,3),(2,4),(3,6)],4,24,Value.agg ⟨[Value.int IntKind.i64 0,Value.int IntKind.i64 0,Value.bool false,Value.int IntKind.u8 0]⟩⟩
theorem tf8:qm Tryz.prog 8=some ti8:=by kernel_rfl
def ti9:TI:=⟨Kd.str,1,16,Value.string {data:=⟨[]⟩}⟩
theorem tf9:qm Tryz.prog 9=some ti9:=by kernel_rfl
def aKk:TI:=⟨Kd.str,1,16,Value.string {data:=⟨[]⟩}⟩
theorem bnp:qm Tryz.prog 10=some aKk:=by kernel_rfl
def aKj:TI:=⟨Kd.str,1,16,Value.string {data:=⟨[]⟩}⟩
theorem bno:qm Tryz.prog 11=some aKj:=by kernel_rfl
def aKi:TI:=⟨Kd.int IntKind.u64,1,8,Value.int IntKind.u64 0⟩
theorem bnn:qm Tryz.prog 12=some aKi:=by kernel_rfl
def aKh:TI:=⟨Kd.int IntKind.i32,1,4,Value.int IntKind.i32 0⟩
theorem bnm:qm Tryz.prog 21=some aKh:=by kernel_rfl
def agU:TI:=⟨Kd.sli 5,1,24,Value.slice none 0 0⟩
theorem aKo:qm Tryz.prog 22=some agU:=by kernel_rfl
def agT:TI:=⟨Kd.sli 42,1,24,Value.slice none 0 0⟩
theorem aKn:qm Tryz.prog 23=some agT:=by kernel_rfl
def apP:TI:=⟨Kd.stru [(0,3),(1,23)],2,32,Value.agg ⟨[Value.int IntKind.i64 0,Value.slice none 0 0]⟩⟩
theorem bck:qm Tryz.prog 24=some apP:=by kernel_rfl
def apD:TI:=⟨Kd.stru [(0,3),(1,23)],2,32,Value.agg ⟨[Value.int IntKind.i64 0,Value.slice none 0 0]⟩⟩
theorem bcj:qm Tryz.prog 25=some apD:=by kernel_rfl
def aKg:TI:=⟨Kd.oth,1,8,Value.nilFunc⟩
theorem bnl:qm Tryz.prog 27=some aKg:=by kernel_rfl
def agS:TI:=⟨Kd.sli 90,1,24,Value.slice none 0 0⟩
theorem aKm:qm Tryz.prog 28=some agS:=by kernel_rfl
def ao2:TI:=⟨Kd.stru [(0,3),(1,28)],2,32,Value.agg ⟨[Value.int IntKind.i64 0,Value.slice none 0 0]⟩⟩
theorem bci:qm Tryz.prog 29=some ao2:=by kernel_rfl
def aoS:TI:=⟨Kd.stru [(0,3),(1,28)],2,32,Value.agg ⟨[Value.int IntKind.i64 0,Value.slice none 0 0]⟩⟩
theorem bch:qm Tryz.prog 30=some aoS:=by kernel_rfl
def aKf:TI:=⟨Kd.oth,1,8,Value.nilFunc⟩
theorem bnk:qm Tryz.prog 32=some aKf:=by kernel_rfl
def aKe:TI:=⟨Kd.oth,1,8,Value.nilFunc⟩
theorem bnj:qm Tryz.prog 33=some aKe:=by kernel_rfl
def aKd:TI:=⟨Kd.oth,1,8,Value.nilFunc⟩
theorem bni:qm Tryz.prog 35=some aKd:=by kernel_rfl
def Z5:TI:=⟨Kd.sli 3,1,24,Value.slice none 0 0⟩
theorem aa4:qm Tryz.prog 36=some Z5:=by kernel_rfl
def avv:TI:=⟨Kd.stru [(0,36)],1,24,Value.agg ⟨[Value.slice none 0 0]⟩⟩
theorem bfo:qm Tryz.prog 37=some avv:=by kernel_rfl
def ack:TI:=⟨Kd.stru [(0,36)],1,24,Value.agg ⟨[Value.slice none 0 0]⟩⟩
theorem aGa:qm Tryz.prog 38=some ack:=by kernel_rfl
def aoG:TI:=⟨Kd.stru [(0,4),(1,38)],2,32,Value.agg ⟨[Value.bool false,Value.slice none 0 0]⟩⟩
theorem bcg:qm Tryz.prog 39=some aoG:=by kernel_rfl
def X6:TI:=⟨Kd.stru [(0,4),(1,38)],2,32,Value.agg ⟨[Value.bool false,Value.slice none 0 0]⟩⟩
theorem avx:qm Tryz.prog 40=some X6:=by kernel_rfl
def aoC:TI:=⟨Kd.stru [(0,40),(2,3)],3,40,Value.agg ⟨[Value.bool false,Value.slice none 0 0,Value.int IntKind.i64 0]⟩⟩
theorem bcf:qm Tryz.prog 41=some aoC:=by kernel_rfl
def ZS:TI:=⟨Kd.stru [(0,40),(2,3)],3,40,Value.agg ⟨[Value.bool false,Value.slice none 0 0,Value.int IntKind.i64 0]⟩⟩
theorem aa3:qm Tryz.prog 42=some ZS:=by kernel_rfl
def aKc:TI:=⟨Kd.oth,1,8,Value.nilFunc⟩
theorem bnh:qm Tryz.prog 43=some aKc:=by kernel_rfl
def aKb:TI:=⟨Kd.oth,1,8,Value.nilFunc⟩
theorem bng:qm Tryz.prog 44=some aKb:=by kernel_rfl
def aKa:TI:=⟨Kd.oth,1,8,Value.nilFunc⟩
theorem bne:qm Tryz.prog 45=some aKa:=by kernel_rfl
def aJ9:TI:=⟨Kd.oth,1,8,Value.nilFunc⟩
theorem bnd:qm Tryz.prog 46=some aJ9:=by kernel_rfl
def aJ8:TI:=⟨Kd.oth,1,8,Value.nilFunc⟩
theorem bnc:qm Tryz.prog 47=some aJ8:=by kernel_rfl
def aJ7:TI:=⟨Kd.oth,1,8,Value.nilFunc⟩
theorem bnb:qm Tryz.prog 48=some aJ7:=by kernel_rfl
def aJ6:TI:=⟨Kd.oth,1,8,Value.nilFunc⟩
theorem bna:qm Tryz.prog 49=some aJ6:=by kernel_rfl
def aJ5:TI:=⟨Kd.oth,1,8,Value.nilFunc⟩
theorem bm9:qm Tryz.prog 50=some aJ5:=by kernel_rfl
def aJ4:TI:=⟨Kd.oth,1,8,Value.nilFunc⟩
theorem bm8:qm Tryz.prog 52=some aJ4:=by kernel_rfl
def aJ3:TI:=⟨Kd.oth,1,8,Value.nilFunc⟩
theorem bm7:qm Tryz.prog 53=some aJ3:=by kernel_rfl
def aJ2:TI:=⟨Kd.oth,1,8,Value.nilFunc⟩
theorem bm6:qm Tryz.prog 54=some aJ2:=by kernel_rfl
def aJ1:TI:=⟨Kd.oth,1,8,Value.nilFunc⟩
theorem bm5:qm Tryz.prog 55=some aJ1:=by kernel_rfl
def aJ0:TI:=⟨Kd.oth,1,8,Value.nilFunc⟩
theorem bm4:qm Tryz.prog 56=some aJ0:=by kernel_rfl
def aJZ:TI:=⟨Kd.oth,1,8,Value.nilFunc⟩
theorem bm3:qm Tryz.prog 58=some aJZ:=by kernel_rfl
def aJY:TI:=⟨Kd.oth,1,8,Value.nilFunc⟩
theorem bm2:qm Tryz.prog 60=some aJY:=by kernel_rfl
def aJX:TI:=⟨Kd.oth,1,8,Value.nilFunc⟩
theorem bm1:qm Tryz.prog 61=some aJX:=by kernel_rfl
def aJW:TI:=⟨Kd.oth,1,8,Value.nilFunc⟩
theorem bm0:qm Tryz.prog 62=some aJW:=by kernel_rfl
def aJV:TI:=⟨Kd.oth,1,8,Value.nilFunc⟩
theorem bmZ:qm Tryz.prog 64=some aJV:=by kernel_rfl
def aJU:TI:=⟨Kd.oth,1,8,Value.nilFunc⟩
theorem bmY:qm Tryz.prog 65=some aJU:=by kernel_rfl
def aJT:TI:=⟨Kd.oth,1,8,Value.nilFunc⟩
theorem bmX:qm Tryz.prog 66=some aJT:=by kernel_rfl
def aJS:TI:=⟨Kd.oth,1,8,Value.nilFunc⟩
theorem bmW:qm Tryz.prog 67=some aJS:=by kernel_rfl
def aJR:TI:=⟨Kd.oth,1,8,Value.nilFunc⟩
theorem bmV:qm Tryz.prog 68=some aJR:=by kernel_rfl
def aJQ:TI:=⟨Kd.oth,1,8,Value.nilFunc⟩
theorem bmU:qm Tryz.prog 69=some aJQ:=by kernel_rfl
def aJP:TI:=⟨Kd.oth,1,8,Value.nilFunc⟩
theorem bmT:qm Tryz.prog 70=some aJP:=by kernel_rfl
def aJO:TI:=⟨Kd.oth,1,8,Value.nilFunc⟩
theorem bmS:qm Tryz.prog 71=some aJO:=by kernel_rfl
def aJN:TI:=⟨Kd.oth,1,8,Value.nilFunc⟩
theorem bmR:qm Tryz.prog 72=some aJN:=by kernel_rfl
def aJM:TI:=⟨Kd.oth,1,8,Value.nilFunc⟩
theorem bmQ:qm Tryz.prog 73=some aJM:=by kernel_rfl
def agR:TI:=⟨Kd.sli 87,1,24,Value.slice none 0 0⟩
theorem aKl:qm Tryz.prog 74=some agR:=by kernel_rfl
def an4:TI:=⟨Kd.stru [(0,3),(1,74)],2,32,Value.agg ⟨[Value.int IntKind.i64 0,Value.slice none 0 0]⟩⟩
theorem bce:qm Tryz.prog 75=some an4:=by kernel_rfl
def an2:TI:=⟨Kd.stru [(0,3),(1,74)],2,32,Value.agg ⟨[Value.int IntKind.i64 0,Value.slice none 0 0]⟩⟩
theorem bcd:qm Tryz.prog 76=some an2:=by kernel_rfl
def aJL:TI:=⟨Kd.oth,1,8,Value.nilFunc⟩
theorem bmP:qm Tryz.prog 77=some aJL:=by kernel_rfl
def aJK:TI:=⟨Kd.oth,1,8,Value.nilFunc⟩
theorem bmO:qm Tryz.prog 78=some aJK:=by kernel_rfl
def aJJ:TI:=⟨Kd.oth,1,8,Value.nilFunc⟩
theorem bmN:qm Tryz.prog 79=some aJJ:=by kernel_rfl
def aJI:TI:=⟨Kd.oth,1,8,Value.nilFunc⟩
theorem bmM:qm Tryz.prog 80=some aJI:=by kernel_rfl
def aJH:TI:=⟨Kd.oth,1,8,Value.nilFunc⟩
theorem bmL:qm Tryz.prog 81=some aJH:=by kernel_rfl
def aJG:TI:=⟨Kd.oth,1,8,Value.nilFunc⟩
theorem bmK:qm Tryz.prog 82=some aJG:=by kernel_rfl
def acj:TI:=⟨Kd.stru [(0,36)],1,24,Value.agg ⟨[Value.slice none 0 0]⟩⟩
theorem aF9:qm Tryz.prog 83=some acj:=by kernel_rfl
def anS:TI:=⟨Kd.stru [(0,4),(1,83)],2,32,Value.agg ⟨[Value.bool false,Value.slice none 0 0]⟩⟩
theorem bcc:qm Tryz.prog 84=some anS:=by kernel_rfl
def X5:TI:=⟨Kd.stru [(0,4),(1,83)],2,32,Value.agg ⟨[Value.bool false,Value.slice none 0 0]⟩⟩
theorem avw:qm Tryz.prog 85=some X5:=by kernel_rfl
def anP:TI:=⟨Kd.stru [(0,85),(2,3)],3,40,Value.agg ⟨[Value.bool false,Value.slice none 0 0,Value.int IntKind.i64 0]⟩⟩
theorem bcb:qm Tryz.prog 86=some anP:=by kernel_rfl
def anm:TI:=⟨Kd.stru [(0,85),(2,3)],3,40,Value.agg ⟨[Value.bool false,Value.slice none 0 0,Value.int IntKind.i64 0]⟩⟩
theorem aUG:qm Tryz.prog 87=some anm:=by kernel_rfl
def aJF:TI:=⟨Kd.oth,1,8,Value.nilFunc⟩
theorem bmJ:qm Tryz.prog 88=some aJF:=by kernel_rfl
def anL:TI:=⟨Kd.stru [(0,42),(3,42)],6,80,Value.agg ⟨[Value.bool false,Value.slice none 0 0,Value.int IntKind.i64 0,Value.bool false,Value.slice none 0 0,Value.int IntKind.i64 0]⟩⟩
theorem bca:qm Tryz.prog 89=some anL:=by kernel_rfl
def anl:TI:=⟨Kd.stru [(0,42),(3,42)],6,80,Value.agg ⟨[Value.bool false,Value.slice none 0 0,Value.int IntKind.i64 0,Value.bool false,Value.slice none 0 0,Value.int IntKind.i64 0]⟩⟩
theorem aUF:qm Tryz.prog 90=some anl:=by kernel_rfl
def aJE:TI:=⟨Kd.oth,1,8,Value.nilFunc⟩
theorem bmI:qm Tryz.prog 92=some aJE:=by kernel_rfl
def aJD:TI:=⟨Kd.oth,1,8,Value.nilFunc⟩
theorem bmH:qm Tryz.prog 93=some aJD:=by kernel_rfl
def aJC:TI:=⟨Kd.oth,1,8,Value.nilFunc⟩
theorem bmG:qm Tryz.prog 94=some aJC:=by kernel_rfl
def aJB:TI:=⟨Kd.oth,1,8,Value.nilFunc⟩
theorem bmF:qm Tryz.prog 95=some aJB:=by kernel_rfl
def aJA:TI:=⟨Kd.oth,1,8,Value.nilFunc⟩
theorem bmE:qm Tryz.prog 96=some aJA:=by kernel_rfl
def aJz:TI:=⟨Kd.oth,1,8,Value.nilFunc⟩
theorem bmD:qm Tryz.prog 97=some aJz:=by kernel_rfl
def aJy:TI:=⟨Kd.oth,1,8,Value.nilFunc⟩
theorem bmC:qm Tryz.prog 98=some aJy:=by kernel_rfl
def aJx:TI:=⟨Kd.oth,1,8,Value.nilFunc⟩
theorem bmB:qm Tryz.prog 99=some aJx:=by kernel_rfl
def aaZ:TI:=⟨Kd.oth,1,8,Value.nilFunc⟩
theorem bh9:qm Tryz.prog 101=some aaZ:=by kernel_rfl
def aaY:TI:=⟨Kd.oth,1,8,Value.nilFunc⟩
theorem bh8:qm Tryz.prog 102=some aaY:=by kernel_rfl
def aaX:TI:=⟨Kd.oth,1,8,Value.nilFunc⟩
theorem bh7:qm Tryz.prog 103=some aaX:=by kernel_rfl
def aaW:TI:=⟨Kd.oth,1,8,Value.nilFunc⟩
theorem bh6:qm Tryz.prog 104=some aaW:=by kernel_rfl
def QC:TI:=⟨Kd.sli 125,1,24,Value.slice none 0 0⟩
theorem aa5:qm Tryz.prog 105=some QC:=by kernel_rfl
def Ja:TI:=⟨Kd.stru [(0,3),(1,105)],2,32,Value.agg ⟨[Value.int IntKind.i64 0,Value.slice none 0 0]⟩⟩
theorem aGf:qm Tryz.prog 106=some Ja:=by kernel_rfl
def Z9:TI:=⟨Kd.stru [(0,3),(1,105)],2,32,Value.agg ⟨[Value.int IntKind.i64 0,Value.slice none 0 0]⟩⟩
theorem aGe:qm Tryz.prog 107=some Z9:=by kernel_rfl
def Qm:TI:=⟨Kd.sli 117,1,24,Value.slice none 0 0⟩
theorem YU:qm Tryz.prog 108=some Qm:=by kernel_rfl
def Z8:TI:=⟨Kd.stru [(0,3),(1,108)],2,32,Value.agg ⟨[Value.int IntKind.i64 0,Value.slice none 0 0]⟩⟩
theorem aGd:qm Tryz.prog 109=some Z8:=by kernel_rfl
def Z7:TI:=⟨Kd.stru [(0,3),(1,108)],2,32,Value.agg ⟨[Value.int IntKind.i64 0,Value.slice none 0 0]⟩⟩
theorem aGc:qm Tryz.prog 110=some Z7:=by kernel_rfl
def aaV:TI:=⟨Kd.oth,1,8,Value.nilFunc⟩
theorem bh5:qm Tryz.prog 111=some aaV:=by kernel_rfl
def aaU:TI:=⟨Kd.oth,1,8,Value.nilFunc⟩
theorem bh4:qm Tryz.prog 112=some aaU:=by kernel_rfl
def aaT:TI:=⟨Kd.oth,1,8,Value.nilFunc⟩
theorem bh3:qm Tryz.prog 113=some aaT:=by kernel_rfl
def aaS:TI:=⟨Kd.oth,1,8,Value.nilFunc⟩
theorem bh2:qm Tryz.prog 114=some aaS:=by kernel_rfl
def aaR:TI:=⟨Kd.oth,1,8,Value.nilFunc⟩
theorem bh1:qm Tryz.prog 115=some aaR:=by kernel_rfl
def ZL:TI:=⟨Kd.stru [(0,4),(1,36),(2,3)],3,40,Value.agg ⟨[Value.bool false,Value.slice none 0 0,Value.int IntKind.i64 0]⟩⟩
theorem asb:qm Tryz.prog 116=some ZL:=by kernel_rfl
def jx:TI:=⟨Kd.stru [(0,4),(1,36),(2,3)],3,40,Value.agg ⟨[Value.bool false,Value.slice none 0 0,Value.int IntKind.i64 0]⟩⟩
theorem yI:qm Tryz.prog 117=some jx:=by kernel_rfl
def aaQ:TI:=⟨Kd.oth,1,8,Value.nilFunc⟩
theorem bh0:qm Tryz.prog 118=some aaQ:=by kernel_rfl
def aaP:TI:=⟨Kd.oth,1,8,Value.nilFunc⟩
theorem bhZ:qm Tryz.prog 119=some aaP:=by kernel_rfl
def aaO:TI:=⟨Kd.oth,1,8,Value.nilFunc⟩
theorem bhY:qm Tryz.prog 120=some aaO:=by kernel_rfl
def aaN:TI:=⟨Kd.oth,1,8,Value.nilFunc⟩
theorem bhX:qm Tryz.prog 121=some aaN:=by kernel_rfl
def aaM:TI:=⟨Kd.oth,1,8,Value.nilFunc⟩
theorem bhW:qm Tryz.prog 122=some aaM:=by kernel_rfl
def aaL:TI:=⟨Kd.oth,1,8,Value.nilFunc⟩
theorem bhV:qm Tryz.prog 123=some aaL:=by kernel_rfl
def Z6:TI:=⟨Kd.stru [(0,117),(3,117)],6,80,Value.agg ⟨[Value.bool false,Value.slice none 0 0,Value.int IntKind.i64 0,Value.bool false,Value.slice none 0 0,Value.int IntKind.i64 0]⟩⟩
theorem aGb:qm Tryz.prog 124=some Z6:=by kernel_rfl
def ZK:TI:=⟨Kd.stru [(0,117),(3,117)],6,80,Value.agg ⟨[Value.bool false,Value.slice none 0 0,Value.int IntKind.i64 0,Value.bool false,Value.slice none 0 0,Value.int IntKind.i64 0]⟩⟩
theorem asa:qm Tryz.prog 125=some ZK:=by kernel_rfl
def aaK:TI:=⟨Kd.oth,1,8,Value.nilFunc⟩
theorem bhU:qm Tryz.prog 127=some aaK:=by kernel_rfl
def aaJ:TI:=⟨Kd.oth,1,8,Value.nilFunc⟩
theorem bhT:qm Tryz.prog 128=some aaJ:=by kernel_rfl
def aaI:TI:=⟨Kd.oth,1,8,Value.nilFunc⟩
theorem bhS:qm Tryz.prog 129=some aaI:=by kernel_rfl
def aaH:TI:=⟨Kd.oth,1,8,Value.nilFunc⟩
theorem bhR:qm Tryz.prog 130=some aaH:=by kernel_rfl
def aaG:TI:=⟨Kd.oth,1,8,Value.nilFunc⟩
theorem bhQ:qm Tryz.prog 131=some aaG:=by kernel_rfl
def aaF:TI:=⟨Kd.oth,1,8,Value.nilFunc⟩
theorem bhP:qm Tryz.prog 132=some aaF:=by kernel_rfl
def aaE:TI:=⟨Kd.oth,1,8,Value.nilFunc⟩
theorem bhO:qm Tryz.prog 133=some aaE:=by kernel_rfl
def aaD:TI:=⟨Kd.oth,1,8,Value.nilFunc⟩
theorem bhN:qm Tryz.prog 134=some aaD:=by kernel_rfl
def aaC:TI:=⟨Kd.oth,1,8,Value.nilFunc⟩
theorem bhM:qm Tryz.prog 135=some aaC:=by kernel_rfl
def aaB:TI:=⟨Kd.oth,1,8,Value.nilFunc⟩
theorem bhL:qm Tryz.prog 136=some aaB:=by kernel_rfl
def aaA:TI:=⟨Kd.oth,1,8,Value.nilFunc⟩
theorem bhK:qm Tryz.prog 137=some aaA:=by kernel_rfl
def aaz:TI:=⟨Kd.oth,1,8,Value.nilFunc⟩
theorem bhJ:qm Tryz.prog 138=some aaz:=by kernel_rfl
def aay:TI:=⟨Kd.oth,1,8,Value.nilFunc⟩
theorem bhI:qm Tryz.prog 139=some aay:=by kernel_rfl
def aax:TI:=⟨Kd.oth,1,8,Value.nilFunc⟩
theorem bhH:qm Tryz.prog 141=some aax:=by kernel_rfl
def aaw:TI:=⟨Kd.oth,1,8,Value.nilFunc⟩
theorem bhG:qm Tryz.prog 142=some aaw:=by kernel_rfl
def aav:TI:=⟨Kd.oth,1,8,Value.nilFunc⟩
theorem bhF:qm Tryz.prog 143=some aav:=by kernel_rfl
def aau:TI:=⟨Kd.oth,1,8,Value.nilFunc⟩
theorem bhE:qm Tryz.prog 144=some aau:=by kernel_rfl
def aat:TI:=⟨Kd.oth,1,8,Value.nilFunc⟩
theorem bhD:qm Tryz.prog 145=some aat:=by kernel_rfl
def aas:TI:=⟨Kd.oth,1,8,Value.nilFunc⟩
theorem bhC:qm Tryz.prog 146=some aas:=by kernel_rfl
def aar:TI:=⟨Kd.oth,1,8,Value.nilFunc⟩
theorem bhB:qm Tryz.prog 147=some aar:=by kernel_rfl
def aaq:TI:=⟨Kd.oth,1,8,Value.nilFunc⟩
theorem bhA:qm Tryz.prog 148=some aaq:=by kernel_rfl
def aap:TI:=⟨Kd.oth,1,8,Value.nilFunc⟩
theorem bhz:qm Tryz.prog 149=some aap:=by kernel_rfl
def aao:TI:=⟨Kd.oth,1,8,Value.nilFunc⟩
theorem bhy:qm Tryz.prog 150=some aao:=by kernel_rfl
def aan:TI:=⟨Kd.oth,1,8,Value.nilFunc⟩
theorem bhx:qm Tryz.prog 151=some aan:=by kernel_rfl
def aam:TI:=⟨Kd.oth,1,8,Value.nilFunc⟩
theorem bhw:qm Tryz.prog 152=some aam:=by kernel_rfl
def aal:TI:=⟨Kd.oth,1,8,Value.nilFunc⟩
theorem bhv:qm Tryz.prog 153=some aal:=by kernel_rfl
def aak:TI:=⟨Kd.oth,1,8,Value.nilFunc⟩
theorem bhu:qm Tryz.prog 154=some aak:=by kernel_rfl
def aaj:TI:=⟨Kd.oth,1,8,Value.nilFunc⟩
theorem bht:qm Tryz.prog 155=some aaj:=by kernel_rfl
def aai:TI:=⟨Kd.oth,1,8,Value.nilFunc⟩
theorem bhs:qm Tryz.prog 156=some aai:=by kernel_rfl
def aah:TI:=⟨Kd.oth,1,8,Value.nilFunc⟩
theorem bhr:qm Tryz.prog 157=some aah:=by kernel_rfl
def aag:TI:=⟨Kd.oth,1,8,Value.nilFunc⟩
theorem bhq:qm Tryz.prog 158=some aag:=by kernel_rfl
def aaf:TI:=⟨Kd.oth,1,8,Value.nilFunc⟩
theorem bho:qm Tryz.prog 159=some aaf:=by kernel_rfl
def aae:TI:=⟨Kd.oth,1,8,Value.nilFunc⟩
theorem bhn:qm Tryz.prog 160=some aae:=by kernel_rfl
def aad:TI:=⟨Kd.oth,1,8,Value.nilFunc⟩
theorem bhm:qm Tryz.prog 161=some aad:=by kernel_rfl
def aac:TI:=⟨Kd.oth,1,8,Value.nilFunc⟩
theorem bhl:qm Tryz.prog 162=some aac:=by kernel_rfl
def aab:TI:=⟨Kd.oth,1,8,Value.nilFunc⟩
theorem bhk:qm Tryz.prog 163=some aab:=by kernel_rfl
def aaa:TI:=⟨Kd.oth,1,8,Value.nilFunc⟩
theorem bhj:qm Tryz.prog 164=some aaa:=by kernel_rfl
def K9:TI:=⟨Kd.oth,1,8,Value.nilFunc⟩
theorem bhi:qm Tryz.prog 165=some K9:=by kernel_rfl
def K8:TI:=⟨Kd.oth,1,8,Value.nilFunc⟩
theorem bhh:qm Tryz.prog 166=some K8:=by kernel_rfl
def K7:TI:=⟨Kd.oth,1,8,Value.nilFunc⟩
theorem bhg:qm Tryz.prog 167=some K7:=by kernel_rfl
def K6:TI:=⟨Kd.oth,1,8,Value.nilFunc⟩
theorem bhf:qm Tryz.prog 168=some K6:=by kernel_rfl
def K5:TI:=⟨Kd.oth,1,8,Value.nilFunc⟩
theorem bhe:qm Tryz.prog 169=some K5:=by kernel_rfl
def K4:TI:=⟨Kd.oth,1,8,Value.nilFunc⟩
theorem bhd:qm Tryz.prog 170=some K4:=by kernel_rfl
def K3:TI:=⟨Kd.oth,1,8,Value.nilFunc⟩
theorem bhc:qm Tryz.prog 171=some K3:=by kernel_rfl
def K2:TI:=⟨Kd.oth,1,8,Value.nilFunc⟩
theorem bhb:qm Tryz.prog 172=some K2:=by kernel_rfl
def KZ:TI:=⟨Kd.oth,1,8,Value.nilFunc⟩
theorem bha:qm Tryz.prog 173=some KZ:=by kernel_rfl
def KY:TI:=⟨Kd.oth,1,8,Value.nilFunc⟩
theorem bg9:qm Tryz.prog 174=some KY:=by kernel_rfl
def KX:TI:=⟨Kd.oth,1,8,Value.nilFunc⟩
theorem bg8:qm Tryz.prog 175=some KX:=by kernel_rfl
def ZJ:TI:=⟨Kd.stru [(0,22),(1,3),(2,3)],3,40,Value.agg ⟨[Value.slice none 0 0,Value.int IntKind.i64 0,Value.int IntKind.i64 0]⟩⟩
theorem ar9:qm Tryz.prog 176=some ZJ:=by kernel_rfl
def ZI:TI:=⟨Kd.stru [(0,22),(1,3),(2,3)],3,40,Value.agg ⟨[Value.slice none 0 0,Value.int IntKind.i64 0,Value.int IntKind.i64 0]⟩⟩
theorem ar8:qm Tryz.prog 177=some ZI:=by kernel_rfl
def KW:TI:=⟨Kd.oth,1,8,Value.nilFunc⟩
theorem bg7:qm Tryz.prog 178=some KW:=by kernel_rfl
def KU:TI:=⟨Kd.oth,1,8,Value.nilFunc⟩
theorem bg6:qm Tryz.prog 179=some KU:=by kernel_rfl
def KT:TI:=⟨Kd.oth,1,8,Value.nilFunc⟩
theorem bg5:qm Tryz.prog 180=some KT:=by kernel_rfl
def KS:TI:=⟨Kd.oth,1,8,Value.nilFunc⟩
theorem bg4:qm Tryz.prog 181=some KS:=by kernel_rfl
def KR:TI:=⟨Kd.oth,1,8,Value.nilFunc⟩
theorem bg3:qm Tryz.prog 182=some KR:=by kernel_rfl
def KQ:TI:=⟨Kd.oth,1,8,Value.nilFunc⟩
theorem bg2:qm Tryz.prog 183=some KQ:=by kernel_rfl
def KP:TI:=⟨Kd.oth,1,8,Value.nilFunc⟩
theorem bg1:qm Tryz.prog 184=some KP:=by kernel_rfl
def KO:TI:=⟨Kd.oth,1,8,Value.nilFunc⟩
theorem bg0:qm Tryz.prog 185=some KO:=by kernel_rfl
def KN:TI:=⟨Kd.oth,1,8,Value.nilFunc⟩
theorem bgZ:qm Tryz.prog 186=some KN:=by kernel_rfl
def KM:TI:=⟨Kd.oth,1,8,Value.nilFunc⟩
theorem bgY:qm Tryz.prog 188=some KM:=by kernel_rfl
def KL:TI:=⟨Kd.oth,1,8,Value.nilFunc⟩
theorem bgX:qm Tryz.prog 189=some KL:=by kernel_rfl
def KK:TI:=⟨Kd.oth,1,8,Value.nilFunc⟩
theorem bgW:qm Tryz.prog 190=some KK:=by kernel_rfl
def KJ:TI:=⟨Kd.oth,1,8,Value.nilFunc⟩
theorem bgV:qm Tryz.prog 191=some KJ:=by kernel_rfl
def KI:TI:=⟨Kd.oth,1,8,Value.nilFunc⟩
theorem bgU:qm Tryz.prog 192=some KI:=by kernel_rfl
def KH:TI:=⟨Kd.oth,1,8,Value.nilFunc⟩
theorem bgT:qm Tryz.prog 193=some KH:=by kernel_rfl
def KG:TI:=⟨Kd.oth,1,8,Value.nilFunc⟩
theorem bgS:qm Tryz.prog 194=some KG:=by kernel_rfl
def KF:TI:=⟨Kd.sli 108,1,24,Value.slice none 0 0⟩
theorem aUH:qm Tryz.prog 195=some KF:=by kernel_rfl
def KE:TI:=⟨Kd.oth,1,8,Value.nilFunc⟩
theorem bgR:qm Tryz.prog 196=some KE:=by kernel_rfl
def KD:TI:=⟨Kd.oth,1,8,Value.nilFunc⟩
theorem bgQ:qm Tryz.prog 197=some KD:=by kernel_rfl
def KC:TI:=⟨Kd.oth,1,8,Value.nilFunc⟩
theorem bgP:qm Tryz.prog 198=some KC:=by kernel_rfl
def KB:TI:=⟨Kd.oth,1,8,Value.nilFunc⟩
theorem bgO:qm Tryz.prog 200=some KB:=by kernel_rfl
def KA:TI:=⟨Kd.oth,1,8,Value.nilFunc⟩
theorem bgN:qm Tryz.prog 201=some KA:=by kernel_rfl
def Kw:TI:=⟨Kd.oth,1,8,Value.nilFunc⟩
theorem bgM:qm Tryz.prog 202=some Kw:=by kernel_rfl
def Kv:TI:=⟨Kd.oth,1,8,Value.nilFunc⟩
theorem bgL:qm Tryz.prog 204=some Kv:=by kernel_rfl
def Ku:TI:=⟨Kd.oth,1,8,Value.nilFunc⟩
theorem bgK:qm Tryz.prog 206=some Ku:=by kernel_rfl
def Kt:TI:=⟨Kd.oth,1,8,Value.nilFunc⟩
theorem bgJ:qm Tryz.prog 207=some Kt:=by kernel_rfl
def Ks:TI:=⟨Kd.oth,1,8,Value.nilFunc⟩
theorem bgI:qm Tryz.prog 208=some Ks:=by kernel_rfl
def Kr:TI:=⟨Kd.oth,1,8,Value.nilFunc⟩
theorem bgH:qm Tryz.prog 209=some Kr:=by kernel_rfl
def Kq:TI:=⟨Kd.oth,1,8,Value.nilFunc⟩
theorem bgG:qm Tryz.prog 210=some Kq:=by kernel_rfl
def Kp:TI:=⟨Kd.oth,1,8,Value.nilFunc⟩
theorem bgF:qm Tryz.prog 211=some Kp:=by kernel_rfl
def Ko:TI:=⟨Kd.oth,1,8,Value.nilFunc⟩
theorem bgE:qm Tryz.prog 213=some Ko:=by kernel_rfl
def Kn:TI:=⟨Kd.oth,1,8,Value.nilFunc⟩
theorem bgD:qm Tryz.prog 214=some Kn:=by kernel_rfl
def Km:TI:=⟨Kd.oth,1,8,Value.nilFunc⟩
theorem bgC:qm Tryz.prog 215=some Km:=by kernel_rfl
def Kl:TI:=⟨Kd.oth,1,8,Value.nilFunc⟩
theorem bgB:qm Tryz.prog 216=some Kl:=by kernel_rfl
def Kk:TI:=⟨Kd.oth,1,8,Value.nilFunc⟩
theorem bgA:qm Tryz.prog 217=some Kk:=by kernel_rfl
def Kj:TI:=⟨Kd.oth,1,8,Value.nilFunc⟩
theorem bgz:qm Tryz.prog 218=some Kj:=by kernel_rfl
def Ki:TI:=⟨Kd.oth,1,8,Value.nilFunc⟩
theorem bgy:qm Tryz.prog 219=some Ki:=by kernel_rfl
def Kh:TI:=⟨Kd.oth,1,8,Value.nilFunc⟩
theorem bgx:qm Tryz.prog 220=some Kh:=by kernel_rfl
def Kg:TI:=⟨Kd.oth,1,8,Value.nilFunc⟩
theorem bgw:qm Tryz.prog 221=some Kg:=by kernel_rfl
def Kf:TI:=⟨Kd.oth,1,8,Value.nilFunc⟩
theorem bgv:qm Tryz.prog 222=some Kf:=by kernel_rfl
def Ke:TI:=⟨Kd.oth,1,8,Value.nilFunc⟩
theorem bgu:qm Tryz.prog 223=some Ke:=by kernel_rfl
def Kc:TI:=⟨Kd.oth,1,8,Value.nilFunc⟩
theorem bgt:qm Tryz.prog 224=some Kc:=by kernel_rfl
def Ka:TI:=⟨Kd.oth,1,8,Value.nilFunc⟩
theorem bgs:qm Tryz.prog 225=some Ka:=by kernel_rfl
def V9:TI:=⟨Kd.oth,1,8,Value.nilFunc⟩
theorem bgr:qm Tryz.prog 226=some V9:=by kernel_rfl
def V8:TI:=⟨Kd.oth,1,8,Value.nilFunc⟩
theorem bgq:qm Tryz.prog 227=some V8:=by kernel_rfl
def V7:TI:=⟨Kd.oth,1,8,Value.nilFunc⟩
theorem bgp:qm Tryz.prog 228=some V7:=by kernel_rfl
def V6:TI:=⟨Kd.oth,1,8,Value.nilFunc⟩
theorem bgo:qm Tryz.prog 229=some V6:=by kernel_rfl
def V5:TI:=⟨Kd.oth,1,8,Value.nilFunc⟩
theorem bgn:qm Tryz.prog 230=some V5:=by kernel_rfl
def V4:TI:=⟨Kd.oth,1,8,Value.nilFunc⟩
theorem bgm:qm Tryz.prog 231=some V4:=by kernel_rfl
def V3:TI:=⟨Kd.oth,1,8,Value.nilFunc⟩
theorem bgl:qm Tryz.prog 233=some V3:=by kernel_rfl
def V2:TI:=⟨Kd.oth,1,8,Value.nilFunc⟩
theorem bgk:qm Tryz.prog 234=some V2:=by kernel_rfl
def V1:TI:=⟨Kd.oth,1,8,Value.nilFunc⟩
theorem bgj:qm Tryz.prog 235=some V1:=by kernel_rfl
def V0:TI:=⟨Kd.oth,1,8,Value.nilFunc⟩
theorem bgi:qm Tryz.prog 236=some V0:=by kernel_rfl
def VZ:TI:=⟨Kd.oth,1,8,Value.nilFunc⟩
theorem bgh:qm Tryz.prog 237=some VZ:=by kernel_rfl
def VY:TI:=⟨Kd.oth,1,8,Value.nilFunc⟩
theorem bgg:qm Tryz.prog 238=some VY:=by kernel_rfl
def VX:TI:=⟨Kd.oth,1,8,Value.nilFunc⟩
theorem bgf:qm Tryz.prog 239=some VX:=by kernel_rfl
def VW:TI:=⟨Kd.oth,1,8,Value.nilFunc⟩
theorem bge:qm Tryz.prog 240=some VW:=by kernel_rfl
def VV:TI:=⟨Kd.oth,1,8,Value.nilFunc⟩
theorem bgd:qm Tryz.prog 241=some VV:=by kernel_rfl
def VU:TI:=⟨Kd.oth,1,8,Value.nilFunc⟩
theorem bgc:qm Tryz.prog 242=some VU:=by kernel_rfl
def VT:TI:=⟨Kd.oth,1,8,Value.nilFunc⟩
theorem bgb:qm Tryz.prog 243=some VT:=by kernel_rfl
def VS:TI:=⟨Kd.oth,1,8,Value.nilFunc⟩
theorem bga:qm Tryz.prog 244=some VS:=by kernel_rfl
def VR:TI:=⟨Kd.oth,1,8,Value.nilFunc⟩
theorem bf9:qm Tryz.prog 245=some VR:=by kernel_rfl
def VQ:TI:=⟨Kd.oth,1,8,Value.nilFunc⟩
theorem bf8:qm Tryz.prog 246=some VQ:=by kernel_rfl
def VP:TI:=⟨Kd.oth,1,8,Value.nilFunc⟩
theorem bf7:qm Tryz.prog 247=some VP:=by kernel_rfl
def VO:TI:=⟨Kd.oth,1,8,Value.nilFunc⟩
theorem bf6:qm Tryz.prog 248=some VO:=by kernel_rfl
def VN:TI:=⟨Kd.oth,1,8,Value.nilFunc⟩
theorem bf5:qm Tryz.prog 250=some VN:=by kernel_rfl
def VM:TI:=⟨Kd.oth,1,8,Value.nilFunc⟩
theorem bf4:qm Tryz.prog 252=some VM:=by kernel_rfl
def VL:TI:=⟨Kd.oth,1,8,Value.nilFunc⟩
theorem bf3:qm Tryz.prog 253=some VL:=by kernel_rfl
def VK:TI:=⟨Kd.oth,1,8,Value.nilFunc⟩
theorem bf2:qm Tryz.prog 254=some VK:=by kernel_rfl
def VJ:TI:=⟨Kd.oth,1,8,Value.nilFunc⟩
theorem bf1:qm Tryz.prog 255=some VJ:=by kernel_rfl
def VI:TI:=⟨Kd.oth,1,8,Value.nilFunc⟩
theorem bf0:qm Tryz.prog 256=some VI:=by kernel_rfl
def VH:TI:=⟨Kd.oth,1,8,Value.nilFunc⟩
theorem bfZ:qm Tryz.prog 257=some VH:=by kernel_rfl
def VG:TI:=⟨Kd.oth,1,8,Value.nilFunc⟩
theorem bfY:qm Tryz.prog 258=some VG:=by kernel_rfl
def VF:TI:=⟨Kd.oth,1,8,Value.nilFunc⟩
theorem bfX:qm Tryz.prog 259=some VF:=by kernel_rfl
def VE:TI:=⟨Kd.oth,1,8,Value.nilFunc⟩
theorem bfW:qm Tryz.prog 260=some VE:=by kernel_rfl
def VD:TI:=⟨Kd.oth,1,8,Value.nilFunc⟩
theorem bfV:qm Tryz.prog 261=some VD:=by kernel_rfl
def VC:TI:=⟨Kd.oth,1,8,Value.nilFunc⟩
theorem bfU:qm Tryz.prog 262=some VC:=by kernel_rfl
def VB:TI:=⟨Kd.oth,1,8,Value.nilFunc⟩
theorem bfT:qm Tryz.prog 263=some VB:=by kernel_rfl
def VA:TI:=⟨Kd.int IntKind.u64,1,8,Value.int IntKind.u64 0⟩
theorem bfS:qm Tryz.prog 264=some VA:=by kernel_rfl
def Vz:TI:=⟨Kd.oth,1,8,Value.nilFunc⟩
theorem bfR:qm Tryz.prog 265=some Vz:=by kernel_rfl
def Vy:TI:=⟨Kd.oth,1,8,Value.nilFunc⟩
theorem bfQ:qm Tryz.prog 266=some Vy:=by kernel_rfl
def Vx:TI:=⟨Kd.oth,1,8,Value.nilFunc⟩
theorem bfP:qm Tryz.prog 267=some Vx:=by kernel_rfl
def Vw:TI:=⟨Kd.oth,1,8,Value.nilFunc⟩
theorem bfO:qm Tryz.prog 269=some Vw:=by kernel_rfl
def Vv:TI:=⟨Kd.oth,1,8,Value.nilFunc⟩
theorem bfN:qm Tryz.prog 271=some Vv:=by kernel_rfl
def Vu:TI:=⟨Kd.oth,1,8,Value.nilFunc⟩
theorem bfM:qm Tryz.prog 273=some Vu:=by kernel_rfl
def Vt:TI:=⟨Kd.oth,1,8,Value.nilFunc⟩
theorem bfL:qm Tryz.prog 274=some Vt:=by kernel_rfl
def Vs:TI:=⟨Kd.int IntKind.u32,1,4,Value.int IntKind.u32 0⟩
theorem bfK:qm Tryz.prog 275=some Vs:=by kernel_rfl
def Vr:TI:=⟨Kd.oth,1,8,Value.nilFunc⟩
theorem bfJ:qm Tryz.prog 276=some Vr:=by kernel_rfl
def Vq:TI:=⟨Kd.int IntKind.u64,1,8,Value.int IntKind.u64 0⟩
theorem bfI:qm Tryz.prog 277=some Vq:=by kernel_rfl
def Vp:TI:=⟨Kd.oth,1,8,Value.nilFunc⟩
theorem bfH:qm Tryz.prog 278=some Vp:=by kernel_rfl
def Vo:TI:=⟨Kd.oth,1,8,Value.nilFunc⟩
theorem bfG:qm Tryz.prog 279=some Vo:=by kernel_rfl
def Vn:TI:=⟨Kd.oth,1,8,Value.nilFunc⟩
theorem bfF:qm Tryz.prog 281=some Vn:=by kernel_rfl
def Vm:TI:=⟨Kd.oth,1,8,Value.nilFunc⟩
theorem bfE:qm Tryz.prog 282=some Vm:=by kernel_rfl
def Vl:TI:=⟨Kd.oth,1,8,Value.nilFunc⟩
theorem bfD:qm Tryz.prog 283=some Vl:=by kernel_rfl
def Vk:TI:=⟨Kd.oth,1,8,Value.nilFunc⟩
theorem bfC:qm Tryz.prog 287=some Vk:=by kernel_rfl
def Vj:TI:=⟨Kd.oth,1,8,Value.nilFunc⟩
theorem bfB:qm Tryz.prog 288=some Vj:=by kernel_rfl
def Vi:TI:=⟨Kd.oth,1,8,Value.nilFunc⟩
theorem bfA:qm Tryz.prog 289=some Vi:=by kernel_rfl
def Vh:TI:=⟨Kd.oth,1,8,Value.nilFunc⟩
theorem bfz:qm Tryz.prog 290=some Vh:=by kernel_rfl
def Vg:TI:=⟨Kd.oth,1,8,Value.nilFunc⟩
theorem bfy:qm Tryz.prog 291=some Vg:=by kernel_rfl
def Vf:TI:=⟨Kd.stru [(0,294)],0,0,Value.agg ⟨[]⟩⟩
theorem bfx:qm Tryz.prog 295=some Vf:=by kernel_rfl
def Ve:TI:=⟨Kd.stru [(0,294)],0,0,Value.agg ⟨[]⟩⟩
theorem bfw:qm Tryz.prog 296=some Ve:=by kernel_rfl
def Vd:TI:=⟨Kd.int IntKind.u8,1,1,Value.int IntKind.u8 0⟩
theorem bfv:qm Tryz.prog 297=some Vd:=by kernel_rfl
def Vc:TI:=⟨Kd.int IntKind.u8,1,1,Value.int IntKind.u8 0⟩
theorem bfu:qm Tryz.prog 298=some Vc:=by kernel_rfl
def Vb:TI:=⟨Kd.oth,1,8,Value.nilFunc⟩
theorem bft:qm Tryz.prog 299=some Vb:=by kernel_rfl
def Va:TI:=⟨Kd.int IntKind.i32,1,4,Value.int IntKind.i32 0⟩
theorem bfs:qm Tryz.prog 301=some Va:=by kernel_rfl
def X9:TI:=⟨Kd.int IntKind.i32,1,4,Value.int IntKind.i32 0⟩
theorem bfr:qm Tryz.prog 302=some X9:=by kernel_rfl
def X8:TI:=⟨Kd.oth,1,8,Value.nilFunc⟩
theorem bfq:qm Tryz.prog 305=some X8:=by kernel_rfl
def X7:TI:=⟨Kd.oth,1,8,Value.nilFunc⟩
theorem bfp:qm Tryz.prog 306=some X7:=by kernel_rfl
theorem ty1{K:TI→Prop}:@tyW Tryz.prog 1 ⟨K⟩=K ti1:=qc tf1
theorem aUE:ti1.kd=Kd.oth:=ID rfl
theorem aO5:ti1.kd.agg=false:=ID rfl
theorem aBr:ti1.size=1:=ID rfl
theorem aqt:ti1.bytes=8:=ID rfl
theorem aUC:qw ti1=True:=eq_true rfl
theorem aUD:zc ti1=[.v Value.nilFunc]:=ID rfl
theorem ty2{K:TI→Prop}:@tyW Tryz.prog 2 ⟨K⟩=K ti2:=qc tf2
theorem aUB:ti2.kd=Kd.int IntKind.i64:=ID rfl
theorem aOG:ti2.kd.agg=false:=ID rfl
theorem axe:ti2.size=1:=ID rfl
theorem aoT:ti2.bytes=8:=ID rfl
theorem aUz:qw ti2=True:=eq_true rfl
theorem aUA:zc ti2=[.v (Value.int IntKind.i64 0)]:=ID rfl
theorem ty3{K:TI→Prop}:@tyW Tryz.prog 3 ⟨K⟩=K ti3:=qc tf3
theorem aUy:ti3.kd=Kd.int IntKind.i64:=ID rfl
theorem aOh:ti3.kd.agg=false:=ID rfl
theorem awS:ti3.size=1:=ID rfl
theorem aoE:ti3.bytes=8:=ID rfl
theorem aUw:qw ti3=True:=eq_true rfl
theorem aUx:zc ti3=[.v (Value.int IntKind.i64 0)]:=ID rfl
theorem ty4{K:TI→Prop}:@tyW Tryz.prog 4 ⟨K⟩=K ti4:=qc tf4
theorem aUv:ti4.kd=Kd.bool:=ID rfl
theorem aNM:ti4.kd.agg=false:=ID rfl
theorem awH:ti4.size=1:=ID rfl
theorem aos:ti4.bytes=1:=ID rfl
theorem aUt:qw ti4=True:=eq_true rfl
theorem aUu:zc ti4=[.v (Value.bool false)]:=ID rfl
theorem ty5{K:TI→Prop}:@tyW Tryz.prog 5 ⟨K⟩=K ti5:=qc tf5
theorem aUs:ti5.kd=Kd.int IntKind.u8:=ID rfl
theorem aNq:ti5.kd.agg=false:=ID rfl
theorem awz:ti5.size=1:=ID rfl
theorem aok:ti5.bytes=1:=ID rfl
theorem aUq:qw ti5=True:=eq_true rfl
theorem aUr:zc ti5=[.v (Value.int IntKind.u8 0)]:=ID rfl
theorem ty6{K:TI→Prop}:@tyW Tryz.prog 6 ⟨K⟩=K ti6:=qc tf6
theorem aUp:ti6.kd=Kd.int IntKind.u8:=ID rfl
theorem aMY:ti6.kd.agg=false:=ID rfl
theorem awo:ti6.size=1:=ID rfl
theorem aoa:ti6.bytes=1:=ID rfl
theorem aUn:qw ti6=True:=eq_true rfl
theorem aUo:zc ti6=[.v (Value.int IntKind.u8 0)]:=ID rfl
theorem ty7{K:TI→Prop}:@tyW Tryz.prog 7 ⟨K⟩=K ti7:=qc tf7
theorem aUm:ti7.kd=Kd.stru [(0,2),(1,3),(2,4),(3,6)]:=ID rfl
theorem aMt:ti7.kd.agg=true:=ID rfl
theorem awd:ti7.size=4:=ID rfl
theorem anX:ti7.bytes=24:=ID rfl
theorem aUk:qw ti7=True:=eq_true rfl
theorem aUl:zc ti7=[.v (Value.int IntKind.i64 0),.v (Value.int IntKind.i64 0),.v (Value.bool false),.v (Value.int IntKind.u8 0)]:=ID rfl
theorem ba1{K:Nat→TI→Prop}:@qA Tryz.prog 7 0 ⟨K⟩=K 0 ti2:=qr (ti:=ti7) (tf:=ti2) (fo:=(0,2)) (fs:=[(0,2),(1,3),(2,4),(3,6)]) tf7 rfl rfl tf2
theorem biD{K:Nat→Nat→Prop}:qu Tryz.prog [(0,2),(1,3),(2,4),(3,6)] 0 K=K 0 1:=qq (tf:=ti2) (fo:=(0,2)) (fs:=[(0,2),(1,3),(2,4),(3,6)]) rfl tf2
theorem ba0{K:Nat→TI→Prop}:@qA Tryz.prog 7 1 ⟨K⟩=K 1 ti3:=qr (ti:=ti7) (tf:=ti3) (fo:=(1,3)) (fs:=[(0,2),(1,3),(2,4),(3,6)]) tf7 rfl rfl tf3
theorem biC{K:Nat→Nat→Prop}:qu Tryz.prog [(0,2),(1,3),(2,4),(3,6)] 1 K=K 1 1:=qq (tf:=ti3) (fo:=(1,3)) (fs:=[(0,2),(1,3),(2,4),(3,6)]) rfl tf3
theorem baZ{K:Nat→TI→Prop}:@qA Tryz.prog 7 2 ⟨K⟩=K 2 ti4:=qr (ti:=ti7) (tf:=ti4) (fo:=(2,4)) (fs:=[(0,2),(1,3),(2,4),(3,6)]) tf7 rfl rfl tf4
theorem biB{K:Nat→Nat→Prop}:qu Tryz.prog [(0,2),(1,3),(2,4),(3,6)] 2 K=K 2 1:=qq (tf:=ti4) (fo:=(2,4)) (fs:=[(0,2),(1,3),(2,4),(3,6)]) rfl tf4
theorem baY{K:Nat→TI→Prop}:@qA Tryz.prog 7 3 ⟨K⟩=K 3 ti6:=qr (ti:=ti7) (tf:=ti6) (fo:=(3,6)) (fs:=[(0,2),(1,3),(2,4),(3,6)]) tf7 rfl rfl tf6
theorem biA{K:Nat→Nat→Prop}:qu Tryz.prog [(0,2),(1,3),(2,4),(3,6)] 3 K=K 3 1:=qq (tf:=ti6) (fo:=(3,6)) (fs:=[(0,2),(1,3),(2,4),(3,6)]) rfl tf6
theorem bi1:∀f∈([(0,2),(1,3),(2,4),(3,6)]:List (Nat×Nat)),(qm Tryz.prog f.2).isSome=true:=by
 intro f hf
 simp only[List.mem_cons,List.not_mem_nil,or_false]at hf
 rcases hf with rfl|rfl|rfl|rfl
 ·rw[tf2];rfl
 ·rw[tf3];rfl
 ·rw[tf4];rfl
 ·rw[tf6];rfl
theorem bn5{ps:List (Nat×AV)}{K:AV→Prop}:@q9 Tryz.prog 7 ps ⟨K⟩=@zd (qu Tryz.prog [(0,2),(1,3),(2,4),(3,6)]) (zc ti7) ps ⟨fun cs=>K (.ag cs)⟩:=qG tf7 rfl bi1
theorem ty8{K:TI→Prop}:@tyW Tryz.prog 8 ⟨K⟩=K ti8:=qc tf8
theorem aUj:ti8.kd=Kd.stru [(0,2),(1,3),(2,4),(3,6)]:=ID rfl
theorem aLY:ti8.kd.agg=true:=ID rfl
theorem av2:ti8.size=4:=ID rfl
theorem anJ:ti8.bytes=24:=ID rfl
theorem aUh:qw ti8=True:=eq_true rfl
theorem aUi:zc ti8=[.v (Value.int IntKind.i64 0),.v (Value.int IntKind.i64 0),.v (Value.bool false),.v (Value.int IntKind.u8 0)]:=ID rfl
theorem baX{K:Nat→TI→Prop}:@qA Tryz.prog 8 0 ⟨K⟩=K 0 ti2:=qr (ti:=ti8) (tf:=ti2) (fo:=(0,2)) (fs:=[(0,2),(1,3),(2,4),(3,6)]) tf8 rfl rfl tf2
theorem biz{K:Nat→Nat→Prop}:qu Tryz.prog [(0,2),(1,3),(2,4),(3,6)] 0 K=K 0 1:=qq (tf:=ti2) (fo:=(0,2)) (fs:=[(0,2),(1,3),(2,4),(3,6)]) rfl tf2
theorem baW{K:Nat→TI→Prop}:@qA Tryz.prog 8 1 ⟨K⟩=K 1 ti3:=qr (ti:=ti8) (tf:=ti3) (fo:=(1,3)) (fs:=[(0,2),(1,3),(2,4),(3,6)]) tf8 rfl rfl tf3
theorem biy{K:Nat→Nat→Prop}:qu Tryz.prog [(0,2),(1,3),(2,4),(3,6)] 1 K=K 1 1:=qq (tf:=ti3) (fo:=(1,3)) (fs:=[(0,2),(1,3),(2,4),(3,6)]) rfl tf3
theorem baV{K:Nat→TI→Prop}:@qA Tryz.prog 8 2 ⟨K⟩=K 2 ti4:=qr (ti:=ti8) (tf:=ti4) (fo:=(2,4)) (fs:=[(0,2),(1,3),(2,4),(3,6)]) tf8 rfl rfl tf4
theorem bix{K:Nat→Nat→Prop}:qu Tryz.prog [(0,2),(1,3),(2,4),(3,6)] 2 K=K 2 1:=qq (tf:=ti4) (fo:=(2,4)) (fs:=[(0,2),(1,3),(2,4),(3,6)]) rfl tf4
theorem baU{K:Nat→TI→Prop}:@qA Tryz.prog 8 3 ⟨K⟩=K 3 ti6:=qr (ti:=ti8) (tf:=ti6) (fo:=(3,6)) (fs:=[(0,2),(1,3),(2,4),(3,6)]) tf8 rfl rfl tf6
theorem biw{K:Nat→Nat→Prop}:qu Tryz.prog [(0,2),(1,3),(2,4),(3,6)] 3 K=K 3 1:=qq (tf:=ti6) (fo:=(3,6)) (fs:=[(0,2),(1,3),(2,4),(3,6)]) rfl tf6
theorem bi0:∀f∈([(0,2),(1,3),(2,4),(3,6)]:List (Nat×Nat)),(qm Tryz.prog f.2).isSome=true:=by
 intro f hf
 simp only[List.mem_cons,List.not_mem_nil,or_false]at hf
 rcases hf with rfl|rfl|rfl|rfl
 ·rw[tf2];rfl
 ·rw[tf3];rfl
 ·rw[tf4];rfl
 ·rw[tf6];rfl
theorem bn4{ps:List (Nat×AV)}{K:AV→Prop}:@q9 Tryz.prog 8 ps ⟨K⟩=@zd (qu Tryz.prog [(0,2),(1,3),(2,4),(3,6)]) (zc ti8) ps ⟨fun cs=>K (.ag cs)⟩:=qG tf8 rfl bi0
theorem ty9{K:TI→Prop}:@tyW Tryz.prog 9 ⟨K⟩=K ti9:=qc tf9
theorem aUg:ti9.kd=Kd.str:=ID rfl
theorem aLw:ti9.kd.agg=false:=ID rfl
theorem avS:ti9.size=1:=ID rfl
theorem anz:ti9.bytes=16:=ID rfl
theorem aUe:qw ti9=True:=eq_true rfl
theorem aUf:zc ti9=[.v (Value.string {data:=⟨[]⟩})]:=ID rfl
theorem bmz{K:TI→Prop}:@tyW Tryz.prog 10 ⟨K⟩=K aKk:=qc bnp
theorem aPe:aKk.kd=Kd.str:=ID rfl
theorem aFE:aKk.kd.agg=false:=ID rfl
theorem arW:aKk.size=1:=ID rfl
theorem alR:aKk.bytes=16:=ID rfl
theorem aPc:qw aKk=True:=eq_true rfl
theorem aPd:zc aKk=[.v (Value.string {data:=⟨[]⟩})]:=ID rfl
theorem bmy{K:TI→Prop}:@tyW Tryz.prog 11 ⟨K⟩=K aKj:=qc bno
theorem aPb:aKj.kd=Kd.str:=ID rfl
theorem aE9:aKj.kd.agg=false:=ID rfl
theorem arL:aKj.size=1:=ID rfl
theorem alG:aKj.bytes=16:=ID rfl
theorem aO9:qw aKj=True:=eq_true rfl
theorem aPa:zc aKj=[.v (Value.string {data:=⟨[]⟩})]:=ID rfl
theorem bmx{K:TI→Prop}:@tyW Tryz.prog 12 ⟨K⟩=K aKi:=qc bnn
theorem aO8:aKi.kd=Kd.int IntKind.u64:=ID rfl
theorem aEH:aKi.kd.agg=false:=ID rfl
theorem arB:aKi.size=1:=ID rfl
theorem alt:aKi.bytes=8:=ID rfl
theorem aO6:qw aKi=True:=eq_true rfl
theorem aO7:zc aKi=[.v (Value.int IntKind.u64 0)]:=ID rfl
theorem bmw{K:TI→Prop}:@tyW Tryz.prog 21 ⟨K⟩=K aKh:=qc bnm
theorem aO4:aKh.kd=Kd.int IntKind.i32:=ID rfl
theorem aAB:aKh.kd.agg=false:=ID rfl
theorem aqb:aKh.size=1:=ID rfl
theorem aj5:aKh.bytes=4:=ID rfl
theorem aO2:qw aKh=True:=eq_true rfl
theorem aO3:zc aKh=[.v (Value.int IntKind.i32 0)]:=ID rfl
theorem bmv{K:TI→Prop}:@tyW Tryz.prog 22 ⟨K⟩=K agU:=qc aKo
theorem aO1:agU.kd=Kd.sli 5:=ID rfl
theorem az6:agU.kd.agg=false:=ID rfl
theorem ap0:agU.size=1:=ID rfl
theorem ajU:agU.bytes=24:=ID rfl
theorem aOZ:qw agU=True:=eq_true rfl
theorem aO0:zc agU=[.v (Value.slice none 0 0)]:=ID rfl
theorem bik{K:TI→Prop}:@Qd Tryz.prog 22 ⟨K⟩=K ti5:=Zw aKo rfl tf5
theorem bmu{K:TI→Prop}:@tyW Tryz.prog 23 ⟨K⟩=K agT:=qc aKn
theorem aOY:agT.kd=Kd.sli 42:=ID rfl
theorem azE:agT.kd.agg=false:=ID rfl
theorem apQ:agT.size=1:=ID rfl
theorem ajK:agT.bytes=24:=ID rfl
theorem aOW:qw agT=True:=eq_true rfl
theorem aOX:zc agT=[.v (Value.slice none 0 0)]:=ID rfl
theorem bij{K:TI→Prop}:@Qd Tryz.prog 23 ⟨K⟩=K ZS:=Zw aKn rfl aa3
theorem bmt{K:TI→Prop}:@tyW Tryz.prog 24 ⟨K⟩=K apP:=qc bck
theorem aOV:apP.kd=Kd.stru [(0,3),(1,23)]:=ID rfl
theorem azc:apP.kd.agg=true:=ID rfl
theorem apF:apP.size=2:=ID rfl
theorem ajA:apP.bytes=32:=ID rfl
theorem aOT:qw apP=True:=eq_true rfl
theorem aOU:zc apP=[.v (Value.int IntKind.i64 0),.v (Value.slice none 0 0)]:=ID rfl
theorem aSv{K:Nat→TI→Prop}:@qA Tryz.prog 24 0 ⟨K⟩=K 0 ti3:=qr (ti:=apP) (tf:=ti3) (fo:=(0,3)) (fs:=[(0,3),(1,23)]) bck rfl rfl tf3
theorem aVS{K:Nat→Nat→Prop}:qu Tryz.prog [(0,3),(1,23)] 0 K=K 0 1:=qq (tf:=ti3) (fo:=(0,3)) (fs:=[(0,3),(1,23)]) rfl tf3
theorem aSu{K:Nat→TI→Prop}:@qA Tryz.prog 24 1 ⟨K⟩=K 1 agT:=qr (ti:=apP) (tf:=agT) (fo:=(1,23)) (fs:=[(0,3),(1,23)]) bck rfl rfl aKn
theorem aVR{K:Nat→Nat→Prop}:qu Tryz.prog [(0,3),(1,23)] 1 K=K 1 1:=qq (tf:=agT) (fo:=(1,23)) (fs:=[(0,3),(1,23)]) rfl aKn
theorem aW6:∀f∈([(0,3),(1,23)]:List (Nat×Nat)),(qm Tryz.prog f.2).isSome=true:=by
 intro f hf
 simp only[List.mem_cons,List.not_mem_nil,or_false]at hf
 rcases hf with rfl|rfl
 ·rw[tf3];rfl
 ·rw[aKn];rfl
theorem bkV{ps:List (Nat×AV)}{K:AV→Prop}:@q9 Tryz.prog 24 ps ⟨K⟩=@zd (qu Tryz.prog [(0,3),(1,23)]) (zc apP) ps ⟨fun cs=>K (.ag cs)⟩:=qG bck rfl aW6
theorem bms{K:TI→Prop}:@tyW Tryz.prog 25 ⟨K⟩=K apD:=qc bcj
theorem aOS:apD.kd=Kd.stru [(0,3),(1,23)]:=ID rfl
theorem ayK:apD.kd.agg=true:=ID rfl
theorem apt:apD.size=2:=ID rfl
theorem ajq:apD.bytes=32:=ID rfl
theorem aOQ:qw apD=True:=eq_true rfl
theorem aOR:zc apD=[.v (Value.int IntKind.i64 0),.v (Value.slice none 0 0)]:=ID rfl
theorem aSt{K:Nat→TI→Prop}:@qA Tryz.prog 25 0 ⟨K⟩=K 0 ti3:=qr (ti:=apD) (tf:=ti3) (fo:=(0,3)) (fs:=[(0,3),(1,23)]) bcj rfl rfl tf3
theorem aVQ{K:Nat→Nat→Prop}:qu Tryz.prog [(0,3),(1,23)] 0 K=K 0 1:=qq (tf:=ti3) (fo:=(0,3)) (fs:=[(0,3),(1,23)]) rfl tf3
theorem aSs{K:Nat→TI→Prop}:@qA Tryz.prog 25 1 ⟨K⟩=K 1 agT:=qr (ti:=apD) (tf:=agT) (fo:=(1,23)) (fs:=[(0,3),(1,23)]) bcj rfl rfl aKn
theorem aVP{K:Nat→Nat→Prop}:qu Tryz.prog [(0,3),(1,23)] 1 K=K 1 1:=qq (tf:=agT) (fo:=(1,23)) (fs:=[(0,3),(1,23)]) rfl aKn
theorem aW5:∀f∈([(0,3),(1,23)]:List (Nat×Nat)),(qm Tryz.prog f.2).isSome=true:=by
 intro f hf
 simp only[List.mem_cons,List.not_mem_nil,or_false]at hf
 rcases hf with rfl|rfl
 ·rw[tf3];rfl
 ·rw[aKn];rfl
theorem bkU{ps:List (Nat×AV)}{K:AV→Prop}:@q9 Tryz.prog 25 ps ⟨K⟩=@zd (qu Tryz.prog [(0,3),(1,23)]) (zc apD) ps ⟨fun cs=>K (.ag cs)⟩:=qG bcj rfl aW5
theorem bmr{K:TI→Prop}:@tyW Tryz.prog 27 ⟨K⟩=K aKg:=qc bnl
theorem aOP:aKg.kd=Kd.oth:=ID rfl
theorem axU:aKg.kd.agg=false:=ID rfl
theorem apa:aKg.size=1:=ID rfl
theorem ai8:aKg.bytes=8:=ID rfl
theorem aON:qw aKg=True:=eq_true rfl
theorem aOO:zc aKg=[.v Value.nilFunc]:=ID rfl
theorem bmq{K:TI→Prop}:@tyW Tryz.prog 28 ⟨K⟩=K agS:=qc aKm
theorem aOM:agS.kd=Kd.sli 90:=ID rfl
theorem axB:agS.kd.agg=false:=ID rfl
theorem ao3:agS.size=1:=ID rfl
theorem ai1:agS.bytes=24:=ID rfl
theorem aOK:qw agS=True:=eq_true rfl
theorem aOL:zc agS=[.v (Value.slice none 0 0)]:=ID rfl
theorem bii{K:TI→Prop}:@Qd Tryz.prog 28 ⟨K⟩=K anl:=Zw aKm rfl aUF
theorem bmp{K:TI→Prop}:@tyW Tryz.prog 29 ⟨K⟩=K ao2:=qc bci
theorem aOJ:ao2.kd=Kd.stru [(0,3),(1,28)]:=ID rfl
theorem axf:ao2.kd.agg=true:=ID rfl
theorem aoU:ao2.size=2:=ID rfl
theorem aiT:ao2.bytes=32:=ID rfl
theorem aOH:qw ao2=True:=eq_true rfl
theorem aOI:zc ao2=[.v (Value.int IntKind.i64 0),.v (Value.slice none 0 0)]:=ID rfl
theorem aSr{K:Nat→TI→Prop}:@qA Tryz.prog 29 0 ⟨K⟩=K 0 ti3:=qr (ti:=ao2) (tf:=ti3) (fo:=(0,3)) (fs:=[(0,3),(1,28)]) bci rfl rfl tf3
theorem aVO{K:Nat→Nat→Prop}:qu Tryz.prog [(0,3),(1,28)] 0 K=K 0 1:=qq (tf:=ti3) (fo:=(0,3)) (fs:=[(0,3),(1,28)]) rfl tf3
theorem aSq{K:Nat→TI→Prop}:@qA Tryz.prog 29 1 ⟨K⟩=K 1 agS:=qr (ti:=ao2) (tf:=agS) (fo:=(1,28)) (fs:=[(0,3),(1,28)]) bci rfl rfl aKm
theorem aVN{K:Nat→Nat→Prop}:qu Tryz.prog [(0,3),(1,28)] 1 K=K 1 1:=qq (tf:=agS) (fo:=(1,28)) (fs:=[(0,3),(1,28)]) rfl aKm
theorem aW4:∀f∈([(0,3),(1,28)]:List (Nat×Nat)),(qm Tryz.prog f.2).isSome=true:=by
 intro f hf
 simp only[List.mem_cons,List.not_mem_nil,or_false]at hf
 rcases hf with rfl|rfl
 ·rw[tf3];rfl
 ·rw[aKm];rfl
theorem bkT{ps:List (Nat×AV)}{K:AV→Prop}:@q9 Tryz.prog 29 ps ⟨K⟩=@zd (qu Tryz.prog [(0,3),(1,28)]) (zc ao2) ps ⟨fun cs=>K (.ag cs)⟩:=qG bci rfl aW4
theorem bmo{K:TI→Prop}:@tyW Tryz.prog 30 ⟨K⟩=K aoS:=qc bch
theorem aOF:aoS.kd=Kd.stru [(0,3),(1,28)]:=ID rfl
theorem aw1:aoS.kd.agg=true:=ID rfl
theorem aoN:aoS.size=2:=ID rfl
theorem aiO:aoS.bytes=32:=ID rfl
theorem aOD:qw aoS=True:=eq_true rfl
theorem aOE:zc aoS=[.v (Value.int IntKind.i64 0),.v (Value.slice none 0 0)]:=ID rfl
theorem aSp{K:Nat→TI→Prop}:@qA Tryz.prog 30 0 ⟨K⟩=K 0 ti3:=qr (ti:=aoS) (tf:=ti3) (fo:=(0,3)) (fs:=[(0,3),(1,28)]) bch rfl rfl tf3
theorem aVM{K:Nat→Nat→Prop}:qu Tryz.prog [(0,3),(1,28)] 0 K=K 0 1:=qq (tf:=ti3) (fo:=(0,3)) (fs:=[(0,3),(1,28)]) rfl tf3
theorem aSo{K:Nat→TI→Prop}:@qA Tryz.prog 30 1 ⟨K⟩=K 1 agS:=qr (ti:=aoS) (tf:=agS) (fo:=(1,28)) (fs:=[(0,3),(1,28)]) bch rfl rfl aKm
theorem aVL{K:Nat→Nat→Prop}:qu Tryz.prog [(0,3),(1,28)] 1 K=K 1 1:=qq (tf:=agS) (fo:=(1,28)) (fs:=[(0,3),(1,28)]) rfl aKm
theorem aW3:∀f∈([(0,3),(1,28)]:List (Nat×Nat)),(qm Tryz.prog f.2).isSome=true:=by
 intro f hf
 simp only[List.mem_cons,List.not_mem_nil,or_false]at hf
 rcases hf with rfl|rfl
 ·rw[tf3];rfl
 ·rw[aKm];rfl
theorem bkS{ps:List (Nat×AV)}{K:AV→Prop}:@q9 Tryz.prog 30 ps ⟨K⟩=@zd (qu Tryz.prog [(0,3),(1,28)]) (zc aoS) ps ⟨fun cs=>K (.ag cs)⟩:=qG bch rfl aW3
theorem bmn{K:TI→Prop}:@tyW Tryz.prog 32 ⟨K⟩=K aKf:=qc bnk
theorem aOC:aKf.kd=Kd.oth:=ID rfl
theorem aw0:aKf.kd.agg=false:=ID rfl
theorem aoM:aKf.size=1:=ID rfl
theorem aiN:aKf.bytes=8:=ID rfl
theorem aOA:qw aKf=True:=eq_true rfl
theorem aOB:zc aKf=[.v Value.nilFunc]:=ID rfl
theorem bmm{K:TI→Prop}:@tyW Tryz.prog 33 ⟨K⟩=K aKe:=qc bnj
theorem aOz:aKe.kd=Kd.oth:=ID rfl
theorem awZ:aKe.kd.agg=false:=ID rfl
theorem aoL:aKe.size=1:=ID rfl
theorem aiM:aKe.bytes=8:=ID rfl
theorem aOx:qw aKe=True:=eq_true rfl
theorem aOy:zc aKe=[.v Value.nilFunc]:=ID rfl
theorem bml{K:TI→Prop}:@tyW Tryz.prog 35 ⟨K⟩=K aKd:=qc bni
theorem aOw:aKd.kd=Kd.oth:=ID rfl
theorem awY:aKd.kd.agg=false:=ID rfl
theorem aoK:aKd.size=1:=ID rfl
theorem aiL:aKd.bytes=8:=ID rfl
theorem aOu:qw aKd=True:=eq_true rfl
theorem aOv:zc aKd=[.v Value.nilFunc]:=ID rfl
theorem bmk{K:TI→Prop}:@tyW Tryz.prog 36 ⟨K⟩=K Z5:=qc aa4
theorem aOt:Z5.kd=Kd.sli 3:=ID rfl
theorem awX:Z5.kd.agg=false:=ID rfl
theorem aoJ:Z5.size=1:=ID rfl
theorem aiK:Z5.bytes=24:=ID rfl
theorem aOr:qw Z5=True:=eq_true rfl
theorem aOs:zc Z5=[.v (Value.slice none 0 0)]:=ID rfl
theorem bih{K:TI→Prop}:@Qd Tryz.prog 36 ⟨K⟩=K ti3:=Zw aa4 rfl tf3
theorem bmj{K:TI→Prop}:@tyW Tryz.prog 37 ⟨K⟩=K avv:=qc bfo
theorem aOq:avv.kd=Kd.stru [(0,36)]:=ID rfl
theorem awW:avv.kd.agg=true:=ID rfl
theorem aoI:avv.size=1:=ID rfl
theorem aiJ:avv.bytes=24:=ID rfl
theorem aOo:qw avv=True:=eq_true rfl
theorem aOp:zc avv=[.v (Value.slice none 0 0)]:=ID rfl
theorem aSn{K:Nat→TI→Prop}:@qA Tryz.prog 37 0 ⟨K⟩=K 0 Z5:=qr (ti:=avv) (tf:=Z5) (fo:=(0,36)) (fs:=[(0,36)]) bfo rfl rfl aa4
theorem aVK{K:Nat→Nat→Prop}:qu Tryz.prog [(0,36)] 0 K=K 0 1:=qq (tf:=Z5) (fo:=(0,36)) (fs:=[(0,36)]) rfl aa4
theorem aW2:∀f∈([(0,36)]:List (Nat×Nat)),(qm Tryz.prog f.2).isSome=true:=by
 intro f hf
 simp only[List.mem_cons,List.not_mem_nil,or_false]at hf
 subst hf;rw[aa4];rfl
theorem bkR{ps:List (Nat×AV)}{K:AV→Prop}:@q9 Tryz.prog 37 ps ⟨K⟩=@zd (qu Tryz.prog [(0,36)]) (zc avv) ps ⟨fun cs=>K (.ag cs)⟩:=qG bfo rfl aW2
theorem bmi{K:TI→Prop}:@tyW Tryz.prog 38 ⟨K⟩=K ack:=qc aGa
theorem aOn:ack.kd=Kd.stru [(0,36)]:=ID rfl
theorem awU:ack.kd.agg=true:=ID rfl
theorem aoH:ack.size=1:=ID rfl
theorem aiI:ack.bytes=24:=ID rfl
theorem aOl:qw ack=True:=eq_true rfl
theorem aOm:zc ack=[.v (Value.slice none 0 0)]:=ID rfl
theorem aSm{K:Nat→TI→Prop}:@qA Tryz.prog 38 0 ⟨K⟩=K 0 Z5:=qr (ti:=ack) (tf:=Z5) (fo:=(0,36)) (fs:=[(0,36)]) aGa rfl rfl aa4
theorem aVJ{K:Nat→Nat→Prop}:qu Tryz.prog [(0,36)] 0 K=K 0 1:=qq (tf:=Z5) (fo:=(0,36)) (fs:=[(0,36)]) rfl aa4
theorem aW1:∀f∈([(0,36)]:List (Nat×Nat)),(qm Tryz.prog f.2).isSome=true:=by
 intro f hf
 simp only[List.mem_cons,List.not_mem_nil,or_false]at hf
 subst hf;rw[aa4];rfl
theorem bkQ{ps:List (Nat×AV)}{K:AV→Prop}:@q9 Tryz.prog 38 ps ⟨K⟩=@zd (qu Tryz.prog [(0,36)]) (zc ack) ps ⟨fun cs=>K (.ag cs)⟩:=qG aGa rfl aW1
theorem bmh{K:TI→Prop}:@tyW Tryz.prog 39 ⟨K⟩=K aoG:=qc bcg
theorem aOk:aoG.kd=Kd.stru [(0,4),(1,38)]:=ID rfl
theorem awT:aoG.kd.agg=true:=ID rfl
theorem aoF:aoG.size=2:=ID rfl
theorem aiH:aoG.bytes=32:=ID rfl
theorem aOi:qw aoG=True:=eq_true rfl
theorem aOj:zc aoG=[.v (Value.bool false),.v (Value.slice none 0 0)]:=ID rfl
theorem aSl{K:Nat→TI→Prop}:@qA Tryz.prog 39 0 ⟨K⟩=K 0 ti4:=qr (ti:=aoG) (tf:=ti4) (fo:=(0,4)) (fs:=[(0,4),(1,38)]) bcg rfl rfl tf4
theorem aVI{K:Nat→Nat→Prop}:qu Tryz.prog [(0,4),(1,38)] 0 K=K 0 1:=qq (tf:=ti4) (fo:=(0,4)) (fs:=[(0,4),(1,38)]) rfl tf4
theorem aSk{K:Nat→TI→Prop}:@qA Tryz.prog 39 1 ⟨K⟩=K 1 ack:=qr (ti:=aoG) (tf:=ack) (fo:=(1,38)) (fs:=[(0,4),(1,38)]) bcg rfl rfl aGa
theorem aVH{K:Nat→Nat→Prop}:qu Tryz.prog [(0,4),(1,38)] 1 K=K 1 1:=qq (tf:=ack) (fo:=(1,38)) (fs:=[(0,4),(1,38)]) rfl aGa
theorem aW0:∀f∈([(0,4),(1,38)]:List (Nat×Nat)),(qm Tryz.prog f.2).isSome=true:=by
 intro f hf
 simp only[List.mem_cons,List.not_mem_nil,or_false]at hf
 rcases hf with rfl|rfl
 ·rw[tf4];rfl
 ·rw[aGa];rfl
theorem bkP{ps:List (Nat×AV)}{K:AV→Prop}:@q9 Tryz.prog 39 ps ⟨K⟩=@zd (qu Tryz.prog [(0,4),(1,38)]) (zc aoG) ps ⟨fun cs=>K (.ag cs)⟩:=qG bcg rfl aW0
theorem bmg{K:TI→Prop}:@tyW Tryz.prog 40 ⟨K⟩=K X6:=qc avx
theorem aOg:X6.kd=Kd.stru [(0,4),(1,38)]:=ID rfl
theorem awR:X6.kd.agg=true:=ID rfl
theorem aoD:X6.size=2:=ID rfl
theorem aiG:X6.bytes=32:=ID rfl
theorem aOe:qw X6=True:=eq_true rfl
theorem aOf:zc X6=[.v (Value.bool false),.v (Value.slice none 0 0)]:=ID rfl
theorem aSj{K:Nat→TI→Prop}:@qA Tryz.prog 40 0 ⟨K⟩=K 0 ti4:=qr (ti:=X6) (tf:=ti4) (fo:=(0,4)) (fs:=[(0,4),(1,38)]) avx rfl rfl tf4
theorem aVG{K:Nat→Nat→Prop}:qu Tryz.prog [(0,4),(1,38)] 0 K=K 0 1:=qq (tf:=ti4) (fo:=(0,4)) (fs:=[(0,4),(1,38)]) rfl tf4
theorem aSi{K:Nat→TI→Prop}:@qA Tryz.prog 40 1 ⟨K⟩=K 1 ack:=qr (ti:=X6) (tf:=ack) (fo:=(1,38)) (fs:=[(0,4),(1,38)]) avx rfl rfl aGa
theorem aVF{K:Nat→Nat→Prop}:qu Tryz.prog [(0,4),(1,38)] 1 K=K 1 1:=qq (tf:=ack) (fo:=(1,38)) (fs:=[(0,4),(1,38)]) rfl aGa
theorem aWZ:∀f∈([(0,4),(1,38)]:List (Nat×Nat)),(qm Tryz.prog f.2).isSome=true:=by
 intro f hf
 simp only[List.mem_cons,List.not_mem_nil,or_false]at hf
 rcases hf with rfl|rfl
 ·rw[tf4];rfl
 ·rw[aGa];rfl
theorem bkO{ps:List (Nat×AV)}{K:AV→Prop}:@q9 Tryz.prog 40 ps ⟨K⟩=@zd (qu Tryz.prog [(0,4),(1,38)]) (zc X6) ps ⟨fun cs=>K (.ag cs)⟩:=qG avx rfl aWZ
theorem bmf{K:TI→Prop}:@tyW Tryz.prog 41 ⟨K⟩=K aoC:=qc bcf
theorem aOd:aoC.kd=Kd.stru [(0,40),(2,3)]:=ID rfl
theorem awQ:aoC.kd.agg=true:=ID rfl
theorem aoB:aoC.size=3:=ID rfl
theorem aiF:aoC.bytes=40:=ID rfl
theorem aOb:qw aoC=True:=eq_true rfl
theorem aOc:zc aoC=[.v (Value.bool false),.v (Value.slice none 0 0),.v (Value.int IntKind.i64 0)]:=ID rfl
theorem aSh{K:Nat→TI→Prop}:@qA Tryz.prog 41 0 ⟨K⟩=K 0 X6:=qr (ti:=aoC) (tf:=X6) (fo:=(0,40)) (fs:=[(0,40),(2,3)]) bcf rfl rfl avx
theorem aVE{K:Nat→Nat→Prop}:qu Tryz.prog [(0,40),(2,3)] 0 K=K 0 2:=qq (tf:=X6) (fo:=(0,40)) (fs:=[(0,40),(2,3)]) rfl avx
theorem aSg{K:Nat→TI→Prop}:@qA Tryz.prog 41 1 ⟨K⟩=K 2 ti3:=qr (ti:=aoC) (tf:=ti3) (fo:=(2,3)) (fs:=[(0,40),(2,3)]) bcf rfl rfl tf3
theorem aVD{K:Nat→Nat→Prop}:qu Tryz.prog [(0,40),(2,3)] 1 K=K 2 1:=qq (tf:=ti3) (fo:=(2,3)) (fs:=[(0,40),(2,3)]) rfl tf3
theorem aWY:∀f∈([(0,40),(2,3)]:List (Nat×Nat)),(qm Tryz.prog f.2).isSome=true:=by
 intro f hf
 simp only[List.mem_cons,List.not_mem_nil,or_false]at hf
 rcases hf with rfl|rfl
 ·rw[avx];rfl
 ·rw[tf3];rfl
theorem bkN{ps:List (Nat×AV)}{K:AV→Prop}:@q9 Tryz.prog 41 ps ⟨K⟩=@zd (qu Tryz.prog [(0,40),(2,3)]) (zc aoC) ps ⟨fun cs=>K (.ag cs)⟩:=qG bcf rfl aWY
theorem bme{K:TI→Prop}:@tyW Tryz.prog 42 ⟨K⟩=K ZS:=qc aa3
theorem aOa:ZS.kd=Kd.stru [(0,40),(2,3)]:=ID rfl
theorem awP:ZS.kd.agg=true:=ID rfl
theorem aoA:ZS.size=3:=ID rfl
theorem aiE:ZS.bytes=40:=ID rfl
theorem aN8:qw ZS=True:=eq_true rfl
theorem aN9:zc ZS=[.v (Value.bool false),.v (Value.slice none 0 0),.v (Value.int IntKind.i64 0)]:=ID rfl
theorem aSf{K:Nat→TI→Prop}:@qA Tryz.prog 42 0 ⟨K⟩=K 0 X6:=qr (ti:=ZS) (tf:=X6) (fo:=(0,40)) (fs:=[(0,40),(2,3)]) aa3 rfl rfl avx
theorem aVC{K:Nat→Nat→Prop}:qu Tryz.prog [(0,40),(2,3)] 0 K=K 0 2:=qq (tf:=X6) (fo:=(0,40)) (fs:=[(0,40),(2,3)]) rfl avx
theorem aSe{K:Nat→TI→Prop}:@qA Tryz.prog 42 1 ⟨K⟩=K 2 ti3:=qr (ti:=ZS) (tf:=ti3) (fo:=(2,3)) (fs:=[(0,40),(2,3)]) aa3 rfl rfl tf3
theorem aVB{K:Nat→Nat→Prop}:qu Tryz.prog [(0,40),(2,3)] 1 K=K 2 1:=qq (tf:=ti3) (fo:=(2,3)) (fs:=[(0,40),(2,3)]) rfl tf3
theorem aWX:∀f∈([(0,40),(2,3)]:List (Nat×Nat)),(qm Tryz.prog f.2).isSome=true:=by
 intro f hf
 simp only[List.mem_cons,List.not_mem_nil,or_false]at hf
 rcases hf with rfl|rfl
 ·rw[avx];rfl
 ·rw[tf3];rfl
theorem bkM{ps:List (Nat×AV)}{K:AV→Prop}:@q9 Tryz.prog 42 ps ⟨K⟩=@zd (qu Tryz.prog [(0,40),(2,3)]) (zc ZS) ps ⟨fun cs=>K (.ag cs)⟩:=qG aa3 rfl aWX
theorem bmd{K:TI→Prop}:@tyW Tryz.prog 43 ⟨K⟩=K aKc:=qc bnh
theorem aN7:aKc.kd=Kd.oth:=ID rfl
theorem awO:aKc.kd.agg=false:=ID rfl
theorem aoz:aKc.size=1:=ID rfl
theorem aiD:aKc.bytes=8:=ID rfl
theorem aN5:qw aKc=True:=eq_true rfl
theorem aN6:zc aKc=[.v Value.nilFunc]:=ID rfl
theorem bmc{K:TI→Prop}:@tyW Tryz.prog 44 ⟨K⟩=K aKb:=qc bng
theorem aN4:aKb.kd=Kd.oth:=ID rfl
theorem awN:aKb.kd.agg=false:=ID rfl
theorem aoy:aKb.size=1:=ID rfl
theorem aiC:aKb.bytes=8:=ID rfl
theorem aN2:qw aKb=True:=eq_true rfl
theorem aN3:zc aKb=[.v Value.nilFunc]:=ID rfl
theorem bmb{K:TI→Prop}:@tyW Tryz.prog 45 ⟨K⟩=K aKa:=qc bne
theorem aN1:aKa.kd=Kd.oth:=ID rfl
theorem awM:aKa.kd.agg=false:=ID rfl
theorem aox:aKa.size=1:=ID rfl
theorem aiB:aKa.bytes=8:=ID rfl
theorem aNZ:qw aKa=True:=eq_true rfl
theorem aN0:zc aKa=[.v Value.nilFunc]:=ID rfl
theorem bma{K:TI→Prop}:@tyW Tryz.prog 46 ⟨K⟩=K aJ9:=qc bnd
theorem aNY:aJ9.kd=Kd.oth:=ID rfl
theorem awL:aJ9.kd.agg=false:=ID rfl
theorem aow:aJ9.size=1:=ID rfl
theorem aiA:aJ9.bytes=8:=ID rfl
theorem aNW:qw aJ9=True:=eq_true rfl
theorem aNX:zc aJ9=[.v Value.nilFunc]:=ID rfl
theorem bl9{K:TI→Prop}:@tyW Tryz.prog 47 ⟨K⟩=K aJ8:=qc bnc
theorem aNV:aJ8.kd=Kd.oth:=ID rfl
theorem awK:aJ8.kd.agg=false:=ID rfl
theorem aov:aJ8.size=1:=ID rfl
theorem aiz:aJ8.bytes=8:=ID rfl
theorem aNT:qw aJ8=True:=eq_true rfl
theorem aNU:zc aJ8=[.v Value.nilFunc]:=ID rfl
theorem bl8{K:TI→Prop}:@tyW Tryz.prog 48 ⟨K⟩=K aJ7:=qc bnb
theorem aNS:aJ7.kd=Kd.oth:=ID rfl
theorem awJ:aJ7.kd.agg=false:=ID rfl
theorem aou:aJ7.size=1:=ID rfl
theorem aiy:aJ7.bytes=8:=ID rfl
theorem aNQ:qw aJ7=True:=eq_true rfl
theorem aNR:zc aJ7=[.v Value.nilFunc]:=ID rfl
theorem bl7{K:TI→Prop}:@tyW Tryz.prog 49 ⟨K⟩=K aJ6:=qc bna
theorem aNP:aJ6.kd=Kd.oth:=ID rfl
theorem awI:aJ6.kd.agg=false:=ID rfl
theorem aot:aJ6.size=1:=ID rfl
theorem aix:aJ6.bytes=8:=ID rfl
theorem aNN:qw aJ6=True:=eq_true rfl
theorem aNO:zc aJ6=[.v Value.nilFunc]:=ID rfl
theorem bl6{K:TI→Prop}:@tyW Tryz.prog 50 ⟨K⟩=K aJ5:=qc bm9
theorem aNL:aJ5.kd=Kd.oth:=ID rfl
theorem awG:aJ5.kd.agg=false:=ID rfl
theorem aor:aJ5.size=1:=ID rfl
theorem aiw:aJ5.bytes=8:=ID rfl
theorem aNJ:qw aJ5=True:=eq_true rfl
theorem aNK:zc aJ5=[.v Value.nilFunc]:=ID rfl
theorem bl5{K:TI→Prop}:@tyW Tryz.prog 52 ⟨K⟩=K aJ4:=qc bm8
theorem aNI:aJ4.kd=Kd.oth:=ID rfl
theorem awF:aJ4.kd.agg=false:=ID rfl
theorem aoq:aJ4.size=1:=ID rfl
theorem aiv:aJ4.bytes=8:=ID rfl
theorem aNG:qw aJ4=True:=eq_true rfl
theorem aNH:zc aJ4=[.v Value.nilFunc]:=ID rfl
theorem bl4{K:TI→Prop}:@tyW Tryz.prog 53 ⟨K⟩=K aJ3:=qc bm7
theorem aNF:aJ3.kd=Kd.oth:=ID rfl
theorem awE:aJ3.kd.agg=false:=ID rfl
theorem aop:aJ3.size=1:=ID rfl
theorem aiu:aJ3.bytes=8:=ID rfl
theorem aND:qw aJ3=True:=eq_true rfl
theorem aNE:zc aJ3=[.v Value.nilFunc]:=ID rfl
theorem bl3{K:TI→Prop}:@tyW Tryz.prog 54 ⟨K⟩=K aJ2:=qc bm6
theorem aNC:aJ2.kd=Kd.oth:=ID rfl
theorem awD:aJ2.kd.agg=false:=ID rfl
theorem aoo:aJ2.size=1:=ID rfl
theorem ait:aJ2.bytes=8:=ID rfl
theorem aNA:qw aJ2=True:=eq_true rfl
theorem aNB:zc aJ2=[.v Value.nilFunc]:=ID rfl
theorem bl2{K:TI→Prop}:@tyW Tryz.prog 55 ⟨K⟩=K aJ1:=qc bm5
theorem aNz:aJ1.kd=Kd.oth:=ID rfl
theorem awC:aJ1.kd.agg=false:=ID rfl
theorem aon:aJ1.size=1:=ID rfl
theorem ais:aJ1.bytes=8:=ID rfl
theorem aNx:qw aJ1=True:=eq_true rfl
theorem aNy:zc aJ1=[.v Value.nilFunc]:=ID rfl
theorem bl1{K:TI→Prop}:@tyW Tryz.prog 56 ⟨K⟩=K aJ0:=qc bm4
theorem aNw:aJ0.kd=Kd.oth:=ID rfl
theorem awB:aJ0.kd.agg=false:=ID rfl
theorem aom:aJ0.size=1:=ID rfl
theorem air:aJ0.bytes=8:=ID rfl
theorem aNu:qw aJ0=True:=eq_true rfl
theorem aNv:zc aJ0=[.v Value.nilFunc]:=ID rfl
theorem bl0{K:TI→Prop}:@tyW Tryz.prog 58 ⟨K⟩=K aJZ:=qc bm3
theorem aNt:aJZ.kd=Kd.oth:=ID rfl
theorem awA:aJZ.kd.agg=false:=ID rfl
theorem aol:aJZ.size=1:=ID rfl
theorem aiq:aJZ.bytes=8:=ID rfl
theorem aNr:qw aJZ=True:=eq_true rfl
theorem aNs:zc aJZ=[.v Value.nilFunc]:=ID rfl
theorem blZ{K:TI→Prop}:@tyW Tryz.prog 60 ⟨K⟩=K aJY:=qc bm2
theorem aNp:aJY.kd=Kd.oth:=ID rfl
theorem awy:aJY.kd.agg=false:=ID rfl
theorem aoj:aJY.size=1:=ID rfl
theorem aip:aJY.bytes=8:=ID rfl
theorem aNn:qw aJY=True:=eq_true rfl
theorem aNo:zc aJY=[.v Value.nilFunc]:=ID rfl
theorem blY{K:TI→Prop}:@tyW Tryz.prog 61 ⟨K⟩=K aJX:=qc bm1
theorem aNm:aJX.kd=Kd.oth:=ID rfl
theorem awx:aJX.kd.agg=false:=ID rfl
theorem aoi:aJX.size=1:=ID rfl
theorem aio:aJX.bytes=8:=ID rfl
theorem aNk:qw aJX=True:=eq_true rfl
theorem aNl:zc aJX=[.v Value.nilFunc]:=ID rfl
theorem blX{K:TI→Prop}:@tyW Tryz.prog 62 ⟨K⟩=K aJW:=qc bm0
theorem aNj:aJW.kd=Kd.oth:=ID rfl
theorem aww:aJW.kd.agg=false:=ID rfl
theorem aoh:aJW.size=1:=ID rfl
theorem ain:aJW.bytes=8:=ID rfl
theorem aNh:qw aJW=True:=eq_true rfl
theorem aNi:zc aJW=[.v Value.nilFunc]:=ID rfl
theorem blW{K:TI→Prop}:@tyW Tryz.prog 64 ⟨K⟩=K aJV:=qc bmZ
theorem aNg:aJV.kd=Kd.oth:=ID rfl
theorem awv:aJV.kd.agg=false:=ID rfl
theorem aog:aJV.size=1:=ID rfl
theorem aim:aJV.bytes=8:=ID rfl
theorem aNe:qw aJV=True:=eq_true rfl
theorem aNf:zc aJV=[.v Value.nilFunc]:=ID rfl
theorem blV{K:TI→Prop}:@tyW Tryz.prog 65 ⟨K⟩=K aJU:=qc bmY
theorem aNd:aJU.kd=Kd.oth:=ID rfl
theorem awu:aJU.kd.agg=false:=ID rfl
theorem aof:aJU.size=1:=ID rfl
theorem ail:aJU.bytes=8:=ID rfl
theorem aNb:qw aJU=True:=eq_true rfl
theorem aNc:zc aJU=[.v Value.nilFunc]:=ID rfl
theorem blU{K:TI→Prop}:@tyW Tryz.prog 66 ⟨K⟩=K aJT:=qc bmX
theorem aNa:aJT.kd=Kd.oth:=ID rfl
theorem awt:aJT.kd.agg=false:=ID rfl
theorem aoe:aJT.size=1:=ID rfl
theorem aik:aJT.bytes=8:=ID rfl
theorem aM8:qw aJT=True:=eq_true rfl
theorem aM9:zc aJT=[.v Value.nilFunc]:=ID rfl
theorem blT{K:TI→Prop}:@tyW Tryz.prog 67 ⟨K⟩=K aJS:=qc bmW
theorem aM7:aJS.kd=Kd.oth:=ID rfl
theorem aws:aJS.kd.agg=false:=ID rfl
theorem aod:aJS.size=1:=ID rfl
theorem aij:aJS.bytes=8:=ID rfl
theorem aM5:qw aJS=True:=eq_true rfl
theorem aM6:zc aJS=[.v Value.nilFunc]:=ID rfl
theorem blS{K:TI→Prop}:@tyW Tryz.prog 68 ⟨K⟩=K aJR:=qc bmV
theorem aM4:aJR.kd=Kd.oth:=ID rfl
theorem awr:aJR.kd.agg=false:=ID rfl
theorem aoc:aJR.size=1:=ID rfl
theorem aii:aJR.bytes=8:=ID rfl
theorem aM2:qw aJR=True:=eq_true rfl
theorem aM3:zc aJR=[.v Value.nilFunc]:=ID rfl
theorem blR{K:TI→Prop}:@tyW Tryz.prog 69 ⟨K⟩=K aJQ:=qc bmU
theorem aM1:aJQ.kd=Kd.oth:=ID rfl
theorem awq:aJQ.kd.agg=false:=ID rfl
theorem aob:aJQ.size=1:=ID rfl
theorem aih:aJQ.bytes=8:=ID rfl
theorem aMZ:qw aJQ=True:=eq_true rfl
theorem aM0:zc aJQ=[.v Value.nilFunc]:=ID rfl
theorem blQ{K:TI→Prop}:@tyW Tryz.prog 70 ⟨K⟩=K aJP:=qc bmT
theorem aMX:aJP.kd=Kd.oth:=ID rfl
theorem awn:aJP.kd.agg=false:=ID rfl
theorem an9:aJP.size=1:=ID rfl
theorem aig:aJP.bytes=8:=ID rfl
theorem aMV:qw aJP=True:=eq_true rfl
theorem aMW:zc aJP=[.v Value.nilFunc]:=ID rfl
theorem blP{K:TI→Prop}:@tyW Tryz.prog 71 ⟨K⟩=K aJO:=qc bmS
theorem aMU:aJO.kd=Kd.oth:=ID rfl
theorem awm:aJO.kd.agg=false:=ID rfl
theorem an8:aJO.size=1:=ID rfl
theorem aif:aJO.bytes=8:=ID rfl
theorem aMS:qw aJO=True:=eq_true rfl
theorem aMT:zc aJO=[.v Value.nilFunc]:=ID rfl
theorem blO{K:TI→Prop}:@tyW Tryz.prog 72 ⟨K⟩=K aJN:=qc bmR
theorem aMR:aJN.kd=Kd.oth:=ID rfl
theorem awl:aJN.kd.agg=false:=ID rfl
theorem an7:aJN.size=1:=ID rfl
theorem aie:aJN.bytes=8:=ID rfl
theorem aMP:qw aJN=True:=eq_true rfl
theorem aMQ:zc aJN=[.v Value.nilFunc]:=ID rfl
theorem blN{K:TI→Prop}:@tyW Tryz.prog 73 ⟨K⟩=K aJM:=qc bmQ
theorem aMO:aJM.kd=Kd.oth:=ID rfl
theorem awk:aJM.kd.agg=false:=ID rfl
theorem an6:aJM.size=1:=ID rfl
theorem aid:aJM.bytes=8:=ID rfl
theorem aMM:qw aJM=True:=eq_true rfl
theorem aMN:zc aJM=[.v Value.nilFunc]:=ID rfl
theorem blM{K:TI→Prop}:@tyW Tryz.prog 74 ⟨K⟩=K agR:=qc aKl
theorem aML:agR.kd=Kd.sli 87:=ID rfl
theorem awj:agR.kd.agg=false:=ID rfl
theorem an5:agR.size=1:=ID rfl
theorem aic:agR.bytes=24:=ID rfl
theorem aMJ:qw agR=True:=eq_true rfl
theorem aMK:zc agR=[.v (Value.slice none 0 0)]:=ID rfl
theorem big{K:TI→Prop}:@Qd Tryz.prog 74 ⟨K⟩=K anm:=Zw aKl rfl aUG
theorem blL{K:TI→Prop}:@tyW Tryz.prog 75 ⟨K⟩=K an4:=qc bce
theorem aMI:an4.kd=Kd.stru [(0,3),(1,74)]:=ID rfl
theorem awi:an4.kd.agg=true:=ID rfl
theorem an3:an4.size=2:=ID rfl
theorem aib:an4.bytes=32:=ID rfl
theorem aMG:qw an4=True:=eq_true rfl
theorem aMH:zc an4=[.v (Value.int IntKind.i64 0),.v (Value.slice none 0 0)]:=ID rfl
theorem aSd{K:Nat→TI→Prop}:@qA Tryz.prog 75 0 ⟨K⟩=K 0 ti3:=qr (ti:=an4) (tf:=ti3) (fo:=(0,3)) (fs:=[(0,3),(1,74)]) bce rfl rfl tf3
theorem aVA{K:Nat→Nat→Prop}:qu Tryz.prog [(0,3),(1,74)] 0 K=K 0 1:=qq (tf:=ti3) (fo:=(0,3)) (fs:=[(0,3),(1,74)]) rfl tf3
theorem aSc{K:Nat→TI→Prop}:@qA Tryz.prog 75 1 ⟨K⟩=K 1 agR:=qr (ti:=an4) (tf:=agR) (fo:=(1,74)) (fs:=[(0,3),(1,74)]) bce rfl rfl aKl
theorem aVz{K:Nat→Nat→Prop}:qu Tryz.prog [(0,3),(1,74)] 1 K=K 1 1:=qq (tf:=agR) (fo:=(1,74)) (fs:=[(0,3),(1,74)]) rfl aKl
theorem aWW:∀f∈([(0,3),(1,74)]:List (Nat×Nat)),(qm Tryz.prog f.2).isSome=true:=by
 intro f hf
 simp only[List.mem_cons,List.not_mem_nil,or_false]at hf
 rcases hf with rfl|rfl
 ·rw[tf3];rfl
 ·rw[aKl];rfl
theorem bkL{ps:List (Nat×AV)}{K:AV→Prop}:@q9 Tryz.prog 75 ps ⟨K⟩=@zd (qu Tryz.prog [(0,3),(1,74)]) (zc an4) ps ⟨fun cs=>K (.ag cs)⟩:=qG bce rfl aWW
theorem blK{K:TI→Prop}:@tyW Tryz.prog 76 ⟨K⟩=K an2:=qc bcd
theorem aMF:an2.kd=Kd.stru [(0,3),(1,74)]:=ID rfl
theorem awh:an2.kd.agg=true:=ID rfl
theorem an1:an2.size=2:=ID rfl
theorem aia:an2.bytes=32:=ID rfl
theorem aMD:qw an2=True:=eq_true rfl
theorem aME:zc an2=[.v (Value.int IntKind.i64 0),.v (Value.slice none 0 0)]:=ID rfl
theorem aSb{K:Nat→TI→Prop}:@qA Tryz.prog 76 0 ⟨K⟩=K 0 ti3:=qr (ti:=an2) (tf:=ti3) (fo:=(0,3)) (fs:=[(0,3),(1,74)]) bcd rfl rfl tf3
theorem aVy{K:Nat→Nat→Prop}:qu Tryz.prog [(0,3),(1,74)] 0 K=K 0 1:=qq (tf:=ti3) (fo:=(0,3)) (fs:=[(0,3),(1,74)]) rfl tf3
theorem aSa{K:Nat→TI→Prop}:@qA Tryz.prog 76 1 ⟨K⟩=K 1 agR:=qr (ti:=an2) (tf:=agR) (fo:=(1,74)) (fs:=[(0,3),(1,74)]) bcd rfl rfl aKl
theorem aVx{K:Nat→Nat→Prop}:qu Tryz.prog [(0,3),(1,74)] 1 K=K 1 1:=qq (tf:=agR) (fo:=(1,74)) (fs:=[(0,3),(1,74)]) rfl aKl
theorem aWV:∀f∈([(0,3),(1,74)]:List (Nat×Nat)),(qm Tryz.prog f.2).isSome=true:=by
 intro f hf
 simp only[List.mem_cons,List.not_mem_nil,or_false]at hf
 rcases hf with rfl|rfl
 ·rw[tf3];rfl
 ·rw[aKl];rfl
theorem bkK{ps:List (Nat×AV)}{K:AV→Prop}:@q9 Tryz.prog 76 ps ⟨K⟩=@zd (qu Tryz.prog [(0,3),(1,74)]) (zc an2) ps ⟨fun cs=>K (.ag cs)⟩:=qG bcd rfl aWV
theorem blJ{K:TI→Prop}:@tyW Tryz.prog 77 ⟨K⟩=K aJL:=qc bmP
theorem aMC:aJL.kd=Kd.oth:=ID rfl
theorem awg:aJL.kd.agg=false:=ID rfl
theorem an0:aJL.size=1:=ID rfl
theorem ah9:aJL.bytes=8:=ID rfl
theorem aMA:qw aJL=True:=eq_true rfl
theorem aMB:zc aJL=[.v Value.nilFunc]:=ID rfl
theorem blI{K:TI→Prop}:@tyW Tryz.prog 78 ⟨K⟩=K aJK:=qc bmO
theorem aMz:aJK.kd=Kd.oth:=ID rfl
theorem awf:aJK.kd.agg=false:=ID rfl
theorem anZ:aJK.size=1:=ID rfl
theorem ah8:aJK.bytes=8:=ID rfl
theorem aMx:qw aJK=True:=eq_true rfl
theorem aMy:zc aJK=[.v Value.nilFunc]:=ID rfl
theorem blH{K:TI→Prop}:@tyW Tryz.prog 79 ⟨K⟩=K aJJ:=qc bmN
theorem aMw:aJJ.kd=Kd.oth:=ID rfl
theorem awe:aJJ.kd.agg=false:=ID rfl
theorem anY:aJJ.size=1:=ID rfl
theorem ah7:aJJ.bytes=8:=ID rfl
theorem aMu:qw aJJ=True:=eq_true rfl
theorem aMv:zc aJJ=[.v Value.nilFunc]:=ID rfl
theorem blG{K:TI→Prop}:@tyW Tryz.prog 80 ⟨K⟩=K aJI:=qc bmM
theorem aMs:aJI.kd=Kd.oth:=ID rfl
theorem awc:aJI.kd.agg=false:=ID rfl
theorem anW:aJI.size=1:=ID rfl
theorem ah6:aJI.bytes=8:=ID rfl
theorem aMq:qw aJI=True:=eq_true rfl
theorem aMr:zc aJI=[.v Value.nilFunc]:=ID rfl
theorem blF{K:TI→Prop}:@tyW Tryz.prog 81 ⟨K⟩=K aJH:=qc bmL
theorem aMp:aJH.kd=Kd.oth:=ID rfl
theorem awb:aJH.kd.agg=false:=ID rfl
theorem anV:aJH.size=1:=ID rfl
theorem ah5:aJH.bytes=8:=ID rfl
theorem aMn:qw aJH=True:=eq_true rfl
theorem aMo:zc aJH=[.v Value.nilFunc]:=ID rfl
theorem blE{K:TI→Prop}:@tyW Tryz.prog 82 ⟨K⟩=K aJG:=qc bmK
theorem aMm:aJG.kd=Kd.oth:=ID rfl
theorem awa:aJG.kd.agg=false:=ID rfl
theorem anU:aJG.size=1:=ID rfl
theorem ah4:aJG.bytes=8:=ID rfl
theorem aMk:qw aJG=True:=eq_true rfl
theorem aMl:zc aJG=[.v Value.nilFunc]:=ID rfl
theorem blD{K:TI→Prop}:@tyW Tryz.prog 83 ⟨K⟩=K acj:=qc aF9
theorem aMj:acj.kd=Kd.stru [(0,36)]:=ID rfl
theorem av9:acj.kd.agg=true:=ID rfl
theorem anT:acj.size=1:=ID rfl
theorem ah3:acj.bytes=24:=ID rfl
theorem aMh:qw acj=True:=eq_true rfl
theorem aMi:zc acj=[.v (Value.slice none 0 0)]:=ID rfl
theorem aR9{K:Nat→TI→Prop}:@qA Tryz.prog 83 0 ⟨K⟩=K 0 Z5:=qr (ti:=acj) (tf:=Z5) (fo:=(0,36)) (fs:=[(0,36)]) aF9 rfl rfl aa4
theorem aVw{K:Nat→Nat→Prop}:qu Tryz.prog [(0,36)] 0 K=K 0 1:=qq (tf:=Z5) (fo:=(0,36)) (fs:=[(0,36)]) rfl aa4
theorem aWU:∀f∈([(0,36)]:List (Nat×Nat)),(qm Tryz.prog f.2).isSome=true:=by
 intro f hf
 simp only[List.mem_cons,List.not_mem_nil,or_false]at hf
 subst hf;rw[aa4];rfl
theorem bkJ{ps:List (Nat×AV)}{K:AV→Prop}:@q9 Tryz.prog 83 ps ⟨K⟩=@zd (qu Tryz.prog [(0,36)]) (zc acj) ps ⟨fun cs=>K (.ag cs)⟩:=qG aF9 rfl aWU
theorem blC{K:TI→Prop}:@tyW Tryz.prog 84 ⟨K⟩=K anS:=qc bcc
theorem aMg:anS.kd=Kd.stru [(0,4),(1,83)]:=ID rfl
theorem av8:anS.kd.agg=true:=ID rfl
theorem anR:anS.size=2:=ID rfl
theorem ah2:anS.bytes=32:=ID rfl
theorem aMe:qw anS=True:=eq_true rfl
theorem aMf:zc anS=[.v (Value.bool false),.v (Value.slice none 0 0)]:=ID rfl
theorem aR8{K:Nat→TI→Prop}:@qA Tryz.prog 84 0 ⟨K⟩=K 0 ti4:=qr (ti:=anS) (tf:=ti4) (fo:=(0,4)) (fs:=[(0,4),(1,83)]) bcc rfl rfl tf4
theorem aVv{K:Nat→Nat→Prop}:qu Tryz.prog [(0,4),(1,83)] 0 K=K 0 1:=qq (tf:=ti4) (fo:=(0,4)) (fs:=[(0,4),(1,83)]) rfl tf4
theorem aR7{K:Nat→TI→Prop}:@qA Tryz.prog 84 1 ⟨K⟩=K 1 acj:=qr (ti:=anS) (tf:=acj) (fo:=(1,83)) (fs:=[(0,4),(1,83)]) bcc rfl rfl aF9
theorem aVu{K:Nat→Nat→Prop}:qu Tryz.prog [(0,4),(1,83)] 1 K=K 1 1:=qq (tf:=acj) (fo:=(1,83)) (fs:=[(0,4),(1,83)]) rfl aF9
theorem aWT:∀f∈([(0,4),(1,83)]:List (Nat×Nat)),(qm Tryz.prog f.2).isSome=true:=by
 intro f hf
 simp only[List.mem_cons,List.not_mem_nil,or_false]at hf
 rcases hf with rfl|rfl
 ·rw[tf4];rfl
 ·rw[aF9];rfl
theorem bkI{ps:List (Nat×AV)}{K:AV→Prop}:@q9 Tryz.prog 84 ps ⟨K⟩=@zd (qu Tryz.prog [(0,4),(1,83)]) (zc anS) ps ⟨fun cs=>K (.ag cs)⟩:=qG bcc rfl aWT
theorem blB{K:TI→Prop}:@tyW Tryz.prog 85 ⟨K⟩=K X5:=qc avw
theorem aMd:X5.kd=Kd.stru [(0,4),(1,83)]:=ID rfl
theorem av7:X5.kd.agg=true:=ID rfl
theorem anQ:X5.size=2:=ID rfl
theorem ah1:X5.bytes=32:=ID rfl
theorem aMb:qw X5=True:=eq_true rfl
theorem aMc:zc X5=[.v (Value.bool false),.v (Value.slice none 0 0)]:=ID rfl
theorem aR6{K:Nat→TI→Prop}:@qA Tryz.prog 85 0 ⟨K⟩=K 0 ti4:=qr (ti:=X5) (tf:=ti4) (fo:=(0,4)) (fs:=[(0,4),(1,83)]) avw rfl rfl tf4
theorem aVt{K:Nat→Nat→Prop}:qu Tryz.prog [(0,4),(1,83)] 0 K=K 0 1:=qq (tf:=ti4) (fo:=(0,4)) (fs:=[(0,4),(1,83)]) rfl tf4
theorem aR5{K:Nat→TI→Prop}:@qA Tryz.prog 85 1 ⟨K⟩=K 1 acj:=qr (ti:=X5) (tf:=acj) (fo:=(1,83)) (fs:=[(0,4),(1,83)]) avw rfl rfl aF9
theorem aVs{K:Nat→Nat→Prop}:qu Tryz.prog [(0,4),(1,83)] 1 K=K 1 1:=qq (tf:=acj) (fo:=(1,83)) (fs:=[(0,4),(1,83)]) rfl aF9
theorem aWS:∀f∈([(0,4),(1,83)]:List (Nat×Nat)),(qm Tryz.prog f.2).isSome=true:=by
 intro f hf
 simp only[List.mem_cons,List.not_mem_nil,or_false]at hf
 rcases hf with rfl|rfl
 ·rw[tf4];rfl
 ·rw[aF9];rfl
theorem bkH{ps:List (Nat×AV)}{K:AV→Prop}:@q9 Tryz.prog 85 ps ⟨K⟩=@zd (qu Tryz.prog [(0,4),(1,83)]) (zc X5) ps ⟨fun cs=>K (.ag cs)⟩:=qG avw rfl aWS
theorem blA{K:TI→Prop}:@tyW Tryz.prog 86 ⟨K⟩=K anP:=qc bcb
theorem aMa:anP.kd=Kd.stru [(0,85),(2,3)]:=ID rfl
theorem av6:anP.kd.agg=true:=ID rfl
theorem anO:anP.size=3:=ID rfl
theorem ah0:anP.bytes=40:=ID rfl
theorem aL8:qw anP=True:=eq_true rfl
theorem aL9:zc anP=[.v (Value.bool false),.v (Value.slice none 0 0),.v (Value.int IntKind.i64 0)]:=ID rfl
theorem aR4{K:Nat→TI→Prop}:@qA Tryz.prog 86 0 ⟨K⟩=K 0 X5:=qr (ti:=anP) (tf:=X5) (fo:=(0,85)) (fs:=[(0,85),(2,3)]) bcb rfl rfl avw
theorem aVr{K:Nat→Nat→Prop}:qu Tryz.prog [(0,85),(2,3)] 0 K=K 0 2:=qq (tf:=X5) (fo:=(0,85)) (fs:=[(0,85),(2,3)]) rfl avw
theorem aR3{K:Nat→TI→Prop}:@qA Tryz.prog 86 1 ⟨K⟩=K 2 ti3:=qr (ti:=anP) (tf:=ti3) (fo:=(2,3)) (fs:=[(0,85),(2,3)]) bcb rfl rfl tf3
theorem aVq{K:Nat→Nat→Prop}:qu Tryz.prog [(0,85),(2,3)] 1 K=K 2 1:=qq (tf:=ti3) (fo:=(2,3)) (fs:=[(0,85),(2,3)]) rfl tf3
theorem aWR:∀f∈([(0,85),(2,3)]:List (Nat×Nat)),(qm Tryz.prog f.2).isSome=true:=by
 intro f hf
 simp only[List.mem_cons,List.not_mem_nil,or_false]at hf
 rcases hf with rfl|rfl
 ·rw[avw];rfl
 ·rw[tf3];rfl
theorem bkG{ps:List (Nat×AV)}{K:AV→Prop}:@q9 Tryz.prog 86 ps ⟨K⟩=@zd (qu Tryz.prog [(0,85),(2,3)]) (zc anP) ps ⟨fun cs=>K (.ag cs)⟩:=qG bcb rfl aWR
theorem blz{K:TI→Prop}:@tyW Tryz.prog 87 ⟨K⟩=K anm:=qc aUG
theorem aL7:anm.kd=Kd.stru [(0,85),(2,3)]:=ID rfl
theorem av5:anm.kd.agg=true:=ID rfl
theorem anN:anm.size=3:=ID rfl
theorem ahZ:anm.bytes=40:=ID rfl
theorem aL5:qw anm=True:=eq_true rfl
theorem aL6:zc anm=[.v (Value.bool false),.v (Value.slice none 0 0),.v (Value.int IntKind.i64 0)]:=ID rfl
theorem aR2{K:Nat→TI→Prop}:@qA Tryz.prog 87 0 ⟨K⟩=K 0 X5:=qr (ti:=anm) (tf:=X5) (fo:=(0,85)) (fs:=[(0,85),(2,3)]) aUG rfl rfl avw
theorem aVp{K:Nat→Nat→Prop}:qu Tryz.prog [(0,85),(2,3)] 0 K=K 0 2:=qq (tf:=X5) (fo:=(0,85)) (fs:=[(0,85),(2,3)]) rfl avw
theorem aR1{K:Nat→TI→Prop}:@qA Tryz.prog 87 1 ⟨K⟩=K 2 ti3:=qr (ti:=anm) (tf:=ti3) (fo:=(2,3)) (fs:=[(0,85),(2,3)]) aUG rfl rfl tf3
theorem aVo{K:Nat→Nat→Prop}:qu Tryz.prog [(0,85),(2,3)] 1 K=K 2 1:=qq (tf:=ti3) (fo:=(2,3)) (fs:=[(0,85),(2,3)]) rfl tf3
theorem aWQ:∀f∈([(0,85),(2,3)]:List (Nat×Nat)),(qm Tryz.prog f.2).isSome=true:=by
 intro f hf
 simp only[List.mem_cons,List.not_mem_nil,or_false]at hf
 rcases hf with rfl|rfl
 ·rw[avw];rfl
 ·rw[tf3];rfl
theorem bkF{ps:List (Nat×AV)}{K:AV→Prop}:@q9 Tryz.prog 87 ps ⟨K⟩=@zd (qu Tryz.prog [(0,85),(2,3)]) (zc anm) ps ⟨fun cs=>K (.ag cs)⟩:=qG aUG rfl aWQ
theorem bly{K:TI→Prop}:@tyW Tryz.prog 88 ⟨K⟩=K aJF:=qc bmJ
theorem aL4:aJF.kd=Kd.oth:=ID rfl
theorem av4:aJF.kd.agg=false:=ID rfl
theorem anM:aJF.size=1:=ID rfl
theorem ahY:aJF.bytes=8:=ID rfl
theorem aL2:qw aJF=True:=eq_true rfl
theorem aL3:zc aJF=[.v Value.nilFunc]:=ID rfl
theorem blx{K:TI→Prop}:@tyW Tryz.prog 89 ⟨K⟩=K anL:=qc bca
theorem aL1:anL.kd=Kd.stru [(0,42),(3,42)]:=ID rfl
theorem av3:anL.kd.agg=true:=ID rfl
theorem anK:anL.size=6:=ID rfl
theorem ahX:anL.bytes=80:=ID rfl
theorem aLZ:qw anL=True:=eq_true rfl
theorem aL0:zc anL=[.v (Value.bool false),.v (Value.slice none 0 0),.v (Value.int IntKind.i64 0),.v (Value.bool false),.v (Value.slice none 0 0),.v (Value.int IntKind.i64 0)]:=ID rfl
theorem aR0{K:Nat→TI→Prop}:@qA Tryz.prog 89 0 ⟨K⟩=K 0 ZS:=qr (ti:=anL) (tf:=ZS) (fo:=(0,42)) (fs:=[(0,42),(3,42)]) bca rfl rfl aa3
theorem aVn{K:Nat→Nat→Prop}:qu Tryz.prog [(0,42),(3,42)] 0 K=K 0 3:=qq (tf:=ZS) (fo:=(0,42)) (fs:=[(0,42),(3,42)]) rfl aa3
theorem aRZ{K:Nat→TI→Prop}:@qA Tryz.prog 89 1 ⟨K⟩=K 3 ZS:=qr (ti:=anL) (tf:=ZS) (fo:=(3,42)) (fs:=[(0,42),(3,42)]) bca rfl rfl aa3
theorem aVm{K:Nat→Nat→Prop}:qu Tryz.prog [(0,42),(3,42)] 1 K=K 3 3:=qq (tf:=ZS) (fo:=(3,42)) (fs:=[(0,42),(3,42)]) rfl aa3
theorem aWP:∀f∈([(0,42),(3,42)]:List (Nat×Nat)),(qm Tryz.prog f.2).isSome=true:=by
 intro f hf
 simp only[List.mem_cons,List.not_mem_nil,or_false]at hf
 rcases hf with rfl|rfl
 ·rw[aa3];rfl
 ·rw[aa3];rfl
theorem bkE{ps:List (Nat×AV)}{K:AV→Prop}:@q9 Tryz.prog 89 ps ⟨K⟩=@zd (qu Tryz.prog [(0,42),(3,42)]) (zc anL) ps ⟨fun cs=>K (.ag cs)⟩:=qG bca rfl aWP
theorem blw{K:TI→Prop}:@tyW Tryz.prog 90 ⟨K⟩=K anl:=qc aUF
theorem aLX:anl.kd=Kd.stru [(0,42),(3,42)]:=ID rfl
theorem av1:anl.kd.agg=true:=ID rfl
theorem anI:anl.size=6:=ID rfl
theorem ahW:anl.bytes=80:=ID rfl
theorem aLV:qw anl=True:=eq_true rfl
theorem aLW:zc anl=[.v (Value.bool false),.v (Value.slice none 0 0),.v (Value.int IntKind.i64 0),.v (Value.bool false),.v (Value.slice none 0 0),.v (Value.int IntKind.i64 0)]:=ID rfl
theorem aRY{K:Nat→TI→Prop}:@qA Tryz.prog 90 0 ⟨K⟩=K 0 ZS:=qr (ti:=anl) (tf:=ZS) (fo:=(0,42)) (fs:=[(0,42),(3,42)]) aUF rfl rfl aa3
theorem aVl{K:Nat→Nat→Prop}:qu Tryz.prog [(0,42),(3,42)] 0 K=K 0 3:=qq (tf:=ZS) (fo:=(0,42)) (fs:=[(0,42),(3,42)]) rfl aa3
theorem aRX{K:Nat→TI→Prop}:@qA Tryz.prog 90 1 ⟨K⟩=K 3 ZS:=qr (ti:=anl) (tf:=ZS) (fo:=(3,42)) (fs:=[(0,42),(3,42)]) aUF rfl rfl aa3
theorem aVk{K:Nat→Nat→Prop}:qu Tryz.prog [(0,42),(3,42)] 1 K=K 3 3:=qq (tf:=ZS) (fo:=(3,42)) (fs:=[(0,42),(3,42)]) rfl aa3
theorem aWO:∀f∈([(0,42),(3,42)]:List (Nat×Nat)),(qm Tryz.prog f.2).isSome=true:=by
 intro f hf
 simp only[List.mem_cons,List.not_mem_nil,or_false]at hf
 rcases hf with rfl|rfl
 ·rw[aa3];rfl
 ·rw[aa3];rfl
theorem bkD{ps:List (Nat×AV)}{K:AV→Prop}:@q9 Tryz.prog 90 ps ⟨K⟩=@zd (qu Tryz.prog [(0,42),(3,42)]) (zc anl) ps ⟨fun cs=>K (.ag cs)⟩:=qG aUF rfl aWO
theorem blv{K:TI→Prop}:@tyW Tryz.prog 92 ⟨K⟩=K aJE:=qc bmI
theorem aLU:aJE.kd=Kd.oth:=ID rfl
theorem av0:aJE.kd.agg=false:=ID rfl
theorem anH:aJE.size=1:=ID rfl
theorem ahV:aJE.bytes=8:=ID rfl
theorem aLS:qw aJE=True:=eq_true rfl
theorem aLT:zc aJE=[.v Value.nilFunc]:=ID rfl
theorem blu{K:TI→Prop}:@tyW Tryz.prog 93 ⟨K⟩=K aJD:=qc bmH
theorem aLR:aJD.kd=Kd.oth:=ID rfl
theorem avZ:aJD.kd.agg=false:=ID rfl
theorem anG:aJD.size=1:=ID rfl
theorem ahU:aJD.bytes=8:=ID rfl
theorem aLP:qw aJD=True:=eq_true rfl
theorem aLQ:zc aJD=[.v Value.nilFunc]:=ID rfl
theorem bls{K:TI→Prop}:@tyW Tryz.prog 94 ⟨K⟩=K aJC:=qc bmG
theorem aLO:aJC.kd=Kd.oth:=ID rfl
theorem avY:aJC.kd.agg=false:=ID rfl
theorem anF:aJC.size=1:=ID rfl
theorem ahT:aJC.bytes=8:=ID rfl
theorem aLM:qw aJC=True:=eq_true rfl
theorem aLN:zc aJC=[.v Value.nilFunc]:=ID rfl
theorem blr{K:TI→Prop}:@tyW Tryz.prog 95 ⟨K⟩=K aJB:=qc bmF
theorem aLL:aJB.kd=Kd.oth:=ID rfl
theorem avX:aJB.kd.agg=false:=ID rfl
theorem anE:aJB.size=1:=ID rfl
theorem ahS:aJB.bytes=8:=ID rfl
theorem aLJ:qw aJB=True:=eq_true rfl
theorem aLK:zc aJB=[.v Value.nilFunc]:=ID rfl
theorem blq{K:TI→Prop}:@tyW Tryz.prog 96 ⟨K⟩=K aJA:=qc bmE
theorem aLI:aJA.kd=Kd.oth:=ID rfl
theorem avW:aJA.kd.agg=false:=ID rfl
theorem anD:aJA.size=1:=ID rfl
theorem ahR:aJA.bytes=8:=ID rfl
theorem aLG:qw aJA=True:=eq_true rfl
theorem aLH:zc aJA=[.v Value.nilFunc]:=ID rfl
theorem blp{K:TI→Prop}:@tyW Tryz.prog 97 ⟨K⟩=K aJz:=qc bmD
theorem aLF:aJz.kd=Kd.oth:=ID rfl
theorem avV:aJz.kd.agg=false:=ID rfl
theorem anC:aJz.size=1:=ID rfl
theorem ahQ:aJz.bytes=8:=ID rfl
theorem aLD:qw aJz=True:=eq_true rfl
theorem aLE:zc aJz=[.v Value.nilFunc]:=ID rfl
theorem blo{K:TI→Prop}:@tyW Tryz.prog 98 ⟨K⟩=K aJy:=qc bmC
theorem aLC:aJy.kd=Kd.oth:=ID rfl
theorem avU:aJy.kd.agg=false:=ID rfl
theorem anB:aJy.size=1:=ID rfl
theorem ahP:aJy.bytes=8:=ID rfl
theorem aLA:qw aJy=True:=eq_true rfl
theorem aLB:zc aJy=[.v Value.nilFunc]:=ID rfl
theorem bln{K:TI→Prop}:@tyW Tryz.prog 99 ⟨K⟩=K aJx:=qc bmB
theorem aLz:aJx.kd=Kd.oth:=ID rfl
theorem avT:aJx.kd.agg=false:=ID rfl
theorem anA:aJx.size=1:=ID rfl
theorem ahO:aJx.bytes=8:=ID rfl
theorem aLx:qw aJx=True:=eq_true rfl
theorem aLy:zc aJx=[.v Value.nilFunc]:=ID rfl
theorem bfm{K:TI→Prop}:@tyW Tryz.prog 101 ⟨K⟩=K aaZ:=qc bh9
theorem aF5:aaZ.kd=Kd.oth:=ID rfl
theorem ar5:aaZ.kd.agg=false:=ID rfl
theorem al0:aaZ.size=1:=ID rfl
theorem afv:aaZ.bytes=8:=ID rfl
theorem aF3:qw aaZ=True:=eq_true rfl
theorem aF4:zc aaZ=[.v Value.nilFunc]:=ID rfl
theorem bfl{K:TI→Prop}:@tyW Tryz.prog 102 ⟨K⟩=K aaY:=qc bh8
theorem aF2:aaY.kd=Kd.oth:=ID rfl
theorem ar4:aaY.kd.agg=false:=ID rfl
theorem alZ:aaY.size=1:=ID rfl
theorem afu:aaY.bytes=8:=ID rfl
theorem aF0:qw aaY=True:=eq_true rfl
theorem aF1:zc aaY=[.v Value.nilFunc]:=ID rfl
theorem bfk{K:TI→Prop}:@tyW Tryz.prog 103 ⟨K⟩=K aaX:=qc bh7
theorem aFZ:aaX.kd=Kd.oth:=ID rfl
theorem ar3:aaX.kd.agg=false:=ID rfl
theorem alY:aaX.size=1:=ID rfl
theorem aft:aaX.bytes=8:=ID rfl
theorem aFX:qw aaX=True:=eq_true rfl
theorem aFY:zc aaX=[.v Value.nilFunc]:=ID rfl
theorem bfj{K:TI→Prop}:@tyW Tryz.prog 104 ⟨K⟩=K aaW:=qc bh6
theorem aFW:aaW.kd=Kd.oth:=ID rfl
theorem ar2:aaW.kd.agg=false:=ID rfl
theorem alX:aaW.size=1:=ID rfl
theorem afs:aaW.bytes=8:=ID rfl
theorem aFU:qw aaW=True:=eq_true rfl
theorem aFV:zc aaW=[.v Value.nilFunc]:=ID rfl
theorem bfi{K:TI→Prop}:@tyW Tryz.prog 105 ⟨K⟩=K QC:=qc aa5
theorem aFT:QC.kd=Kd.sli 125:=ID rfl
theorem ar1:QC.kd.agg=false:=ID rfl
theorem alW:QC.size=1:=ID rfl
theorem afr:QC.bytes=24:=ID rfl
theorem aFR:qw QC=True:=eq_true rfl
theorem aFS:zc QC=[.v (Value.slice none 0 0)]:=ID rfl
theorem aU0{K:TI→Prop}:@Qd Tryz.prog 105 ⟨K⟩=K ZK:=Zw aa5 rfl asa
theorem bfh{K:TI→Prop}:@tyW Tryz.prog 106 ⟨K⟩=K Ja:=qc aGf
theorem aFQ:Ja.kd=Kd.stru [(0,3),(1,105)]:=ID rfl
theorem ar0:Ja.kd.agg=true:=ID rfl
theorem alV:Ja.size=2:=ID rfl
theorem afq:Ja.bytes=32:=ID rfl
theorem aFO:qw Ja=True:=eq_true rfl
theorem aFP:zc Ja=[.v (Value.int IntKind.i64 0),.v (Value.slice none 0 0)]:=ID rfl
theorem aIl{K:Nat→TI→Prop}:@qA Tryz.prog 106 0 ⟨K⟩=K 0 ti3:=qr (ti:=Ja) (tf:=ti3) (fo:=(0,3)) (fs:=[(0,3),(1,105)]) aGf rfl rfl tf3
theorem aQj{K:Nat→Nat→Prop}:qu Tryz.prog [(0,3),(1,105)] 0 K=K 0 1:=qq (tf:=ti3) (fo:=(0,3)) (fs:=[(0,3),(1,105)]) rfl tf3
theorem aIk{K:Nat→TI→Prop}:@qA Tryz.prog 106 1 ⟨K⟩=K 1 QC:=qr (ti:=Ja) (tf:=QC) (fo:=(1,105)) (fs:=[(0,3),(1,105)]) aGf rfl rfl aa5
theorem aQi{K:Nat→Nat→Prop}:qu Tryz.prog [(0,3),(1,105)] 1 K=K 1 1:=qq (tf:=QC) (fo:=(1,105)) (fs:=[(0,3),(1,105)]) rfl aa5
theorem aRR:∀f∈([(0,3),(1,105)]:List (Nat×Nat)),(qm Tryz.prog f.2).isSome=true:=by
 intro f hf
 simp only[List.mem_cons,List.not_mem_nil,or_false]at hf
 rcases hf with rfl|rfl
 ·rw[tf3];rfl
 ·rw[aa5];rfl
theorem bbH{ps:List (Nat×AV)}{K:AV→Prop}:@q9 Tryz.prog 106 ps ⟨K⟩=@zd (qu Tryz.prog [(0,3),(1,105)]) (zc Ja) ps ⟨fun cs=>K (.ag cs)⟩:=qG aGf rfl aRR
theorem bfg{K:TI→Prop}:@tyW Tryz.prog 107 ⟨K⟩=K Z9:=qc aGe
theorem aFN:Z9.kd=Kd.stru [(0,3),(1,105)]:=ID rfl
theorem arZ:Z9.kd.agg=true:=ID rfl
theorem alU:Z9.size=2:=ID rfl
theorem afp:Z9.bytes=32:=ID rfl
theorem aFL:qw Z9=True:=eq_true rfl
theorem aFM:zc Z9=[.v (Value.int IntKind.i64 0),.v (Value.slice none 0 0)]:=ID rfl
theorem aIj{K:Nat→TI→Prop}:@qA Tryz.prog 107 0 ⟨K⟩=K 0 ti3:=qr (ti:=Z9) (tf:=ti3) (fo:=(0,3)) (fs:=[(0,3),(1,105)]) aGe rfl rfl tf3
theorem aQh{K:Nat→Nat→Prop}:qu Tryz.prog [(0,3),(1,105)] 0 K=K 0 1:=qq (tf:=ti3) (fo:=(0,3)) (fs:=[(0,3),(1,105)]) rfl tf3
theorem aIi{K:Nat→TI→Prop}:@qA Tryz.prog 107 1 ⟨K⟩=K 1 QC:=qr (ti:=Z9) (tf:=QC) (fo:=(1,105)) (fs:=[(0,3),(1,105)]) aGe rfl rfl aa5
theorem aQg{K:Nat→Nat→Prop}:qu Tryz.prog [(0,3),(1,105)] 1 K=K 1 1:=qq (tf:=QC) (fo:=(1,105)) (fs:=[(0,3),(1,105)]) rfl aa5
theorem aRQ:∀f∈([(0,3),(1,105)]:List (Nat×Nat)),(qm Tryz.prog f.2).isSome=true:=by
 intro f hf
 simp only[List.mem_cons,List.not_mem_nil,or_false]at hf
 rcases hf with rfl|rfl
 ·rw[tf3];rfl
 ·rw[aa5];rfl
theorem bbG{ps:List (Nat×AV)}{K:AV→Prop}:@q9 Tryz.prog 107 ps ⟨K⟩=@zd (qu Tryz.prog [(0,3),(1,105)]) (zc Z9) ps ⟨fun cs=>K (.ag cs)⟩:=qG aGe rfl aRQ
theorem bff{K:TI→Prop}:@tyW Tryz.prog 108 ⟨K⟩=K Qm:=qc YU
theorem aFK:Qm.kd=Kd.sli 117:=ID rfl
theorem arY:Qm.kd.agg=false:=ID rfl
theorem alT:Qm.size=1:=ID rfl
theorem afo:Qm.bytes=24:=ID rfl
theorem aFI:qw Qm=True:=eq_true rfl
theorem aFJ:zc Qm=[.v (Value.slice none 0 0)]:=ID rfl
theorem aUZ{K:TI→Prop}:@Qd Tryz.prog 108 ⟨K⟩=K jx:=Zw YU rfl yI
theorem bfe{K:TI→Prop}:@tyW Tryz.prog 109 ⟨K⟩=K Z8:=qc aGd
theorem aFH:Z8.kd=Kd.stru [(0,3),(1,108)]:=ID rfl
theorem arX:Z8.kd.agg=true:=ID rfl
theorem alS:Z8.size=2:=ID rfl
theorem afn:Z8.bytes=32:=ID rfl
theorem aFF:qw Z8=True:=eq_true rfl
theorem aFG:zc Z8=[.v (Value.int IntKind.i64 0),.v (Value.slice none 0 0)]:=ID rfl
theorem aIh{K:Nat→TI→Prop}:@qA Tryz.prog 109 0 ⟨K⟩=K 0 ti3:=qr (ti:=Z8) (tf:=ti3) (fo:=(0,3)) (fs:=[(0,3),(1,108)]) aGd rfl rfl tf3
theorem aQf{K:Nat→Nat→Prop}:qu Tryz.prog [(0,3),(1,108)] 0 K=K 0 1:=qq (tf:=ti3) (fo:=(0,3)) (fs:=[(0,3),(1,108)]) rfl tf3
theorem aIg{K:Nat→TI→Prop}:@qA Tryz.prog 109 1 ⟨K⟩=K 1 Qm:=qr (ti:=Z8) (tf:=Qm) (fo:=(1,108)) (fs:=[(0,3),(1,108)]) aGd rfl rfl YU
theorem aQe{K:Nat→Nat→Prop}:qu Tryz.prog [(0,3),(1,108)] 1 K=K 1 1:=qq (tf:=Qm) (fo:=(1,108)) (fs:=[(0,3),(1,108)]) rfl YU
theorem aRP:∀f∈([(0,3),(1,108)]:List (Nat×Nat)),(qm Tryz.prog f.2).isSome=true:=by
 intro f hf
 simp only[List.mem_cons,List.not_mem_nil,or_false]at hf
 rcases hf with rfl|rfl
 ·rw[tf3];rfl
 ·rw[YU];rfl
theorem bbF{ps:List (Nat×AV)}{K:AV→Prop}:@q9 Tryz.prog 109 ps ⟨K⟩=@zd (qu Tryz.prog [(0,3),(1,108)]) (zc Z8) ps ⟨fun cs=>K (.ag cs)⟩:=qG aGd rfl aRP
theorem bfd{K:TI→Prop}:@tyW Tryz.prog 110 ⟨K⟩=K Z7:=qc aGc
theorem aFD:Z7.kd=Kd.stru [(0,3),(1,108)]:=ID rfl
theorem arV:Z7.kd.agg=true:=ID rfl
theorem alQ:Z7.size=2:=ID rfl
theorem afm:Z7.bytes=32:=ID rfl
theorem aFB:qw Z7=True:=eq_true rfl
theorem aFC:zc Z7=[.v (Value.int IntKind.i64 0),.v (Value.slice none 0 0)]:=ID rfl
theorem aIf{K:Nat→TI→Prop}:@qA Tryz.prog 110 0 ⟨K⟩=K 0 ti3:=qr (ti:=Z7) (tf:=ti3) (fo:=(0,3)) (fs:=[(0,3),(1,108)]) aGc rfl rfl tf3
theorem aQd{K:Nat→Nat→Prop}:qu Tryz.prog [(0,3),(1,108)] 0 K=K 0 1:=qq (tf:=ti3) (fo:=(0,3)) (fs:=[(0,3),(1,108)]) rfl tf3
theorem aIe{K:Nat→TI→Prop}:@qA Tryz.prog 110 1 ⟨K⟩=K 1 Qm:=qr (ti:=Z7) (tf:=Qm) (fo:=(1,108)) (fs:=[(0,3),(1,108)]) aGc rfl rfl YU
theorem aQc{K:Nat→Nat→Prop}:qu Tryz.prog [(0,3),(1,108)] 1 K=K 1 1:=qq (tf:=Qm) (fo:=(1,108)) (fs:=[(0,3),(1,108)]) rfl YU
theorem aRO:∀f∈([(0,3),(1,108)]:List (Nat×Nat)),(qm Tryz.prog f.2).isSome=true:=by
 intro f hf
 simp only[List.mem_cons,List.not_mem_nil,or_false]at hf
 rcases hf with rfl|rfl
 ·rw[tf3];rfl
 ·rw[YU];rfl
theorem bbE{ps:List (Nat×AV)}{K:AV→Prop}:@q9 Tryz.prog 110 ps ⟨K⟩=@zd (qu Tryz.prog [(0,3),(1,108)]) (zc Z7) ps ⟨fun cs=>K (.ag cs)⟩:=qG aGc rfl aRO
theorem bfc{K:TI→Prop}:@tyW Tryz.prog 111 ⟨K⟩=K aaV:=qc bh5
theorem aFA:aaV.kd=Kd.oth:=ID rfl
theorem arU:aaV.kd.agg=false:=ID rfl
theorem alP:aaV.size=1:=ID rfl
theorem afl:aaV.bytes=8:=ID rfl
theorem aFy:qw aaV=True:=eq_true rfl
theorem aFz:zc aaV=[.v Value.nilFunc]:=ID rfl
theorem bfb{K:TI→Prop}:@tyW Tryz.prog 112 ⟨K⟩=K aaU:=qc bh4
theorem aFx:aaU.kd=Kd.oth:=ID rfl
theorem arT:aaU.kd.agg=false:=ID rfl
theorem alO:aaU.size=1:=ID rfl
theorem afk:aaU.bytes=8:=ID rfl
theorem aFv:qw aaU=True:=eq_true rfl
theorem aFw:zc aaU=[.v Value.nilFunc]:=ID rfl
theorem bfa{K:TI→Prop}:@tyW Tryz.prog 113 ⟨K⟩=K aaT:=qc bh3
theorem aFu:aaT.kd=Kd.oth:=ID rfl
theorem arS:aaT.kd.agg=false:=ID rfl
theorem alN:aaT.size=1:=ID rfl
theorem afj:aaT.bytes=8:=ID rfl
theorem aFs:qw aaT=True:=eq_true rfl
theorem aFt:zc aaT=[.v Value.nilFunc]:=ID rfl
theorem be9{K:TI→Prop}:@tyW Tryz.prog 114 ⟨K⟩=K aaS:=qc bh2
theorem aFr:aaS.kd=Kd.oth:=ID rfl
theorem arR:aaS.kd.agg=false:=ID rfl
theorem alM:aaS.size=1:=ID rfl
theorem afi:aaS.bytes=8:=ID rfl
theorem aFp:qw aaS=True:=eq_true rfl
theorem aFq:zc aaS=[.v Value.nilFunc]:=ID rfl
theorem be8{K:TI→Prop}:@tyW Tryz.prog 115 ⟨K⟩=K aaR:=qc bh1
theorem aFo:aaR.kd=Kd.oth:=ID rfl
theorem arQ:aaR.kd.agg=false:=ID rfl
theorem alL:aaR.size=1:=ID rfl
theorem afh:aaR.bytes=8:=ID rfl
theorem aFm:qw aaR=True:=eq_true rfl
theorem aFn:zc aaR=[.v Value.nilFunc]:=ID rfl
theorem be7{K:TI→Prop}:@tyW Tryz.prog 116 ⟨K⟩=K ZL:=qc asb
theorem aFl:ZL.kd=Kd.stru [(0,4),(1,36),(2,3)]:=ID rfl
theorem arP:ZL.kd.agg=true:=ID rfl
theorem alK:ZL.size=3:=ID rfl
theorem afg:ZL.bytes=40:=ID rfl
theorem aFj:qw ZL=True:=eq_true rfl
theorem aFk:zc ZL=[.v (Value.bool false),.v (Value.slice none 0 0),.v (Value.int IntKind.i64 0)]:=ID rfl
theorem aId{K:Nat→TI→Prop}:@qA Tryz.prog 116 0 ⟨K⟩=K 0 ti4:=qr (ti:=ZL) (tf:=ti4) (fo:=(0,4)) (fs:=[(0,4),(1,36),(2,3)]) asb rfl rfl tf4
theorem aQb{K:Nat→Nat→Prop}:qu Tryz.prog [(0,4),(1,36),(2,3)] 0 K=K 0 1:=qq (tf:=ti4) (fo:=(0,4)) (fs:=[(0,4),(1,36),(2,3)]) rfl tf4
theorem aIc{K:Nat→TI→Prop}:@qA Tryz.prog 116 1 ⟨K⟩=K 1 Z5:=qr (ti:=ZL) (tf:=Z5) (fo:=(1,36)) (fs:=[(0,4),(1,36),(2,3)]) asb rfl rfl aa4
theorem aQa{K:Nat→Nat→Prop}:qu Tryz.prog [(0,4),(1,36),(2,3)] 1 K=K 1 1:=qq (tf:=Z5) (fo:=(1,36)) (fs:=[(0,4),(1,36),(2,3)]) rfl aa4
theorem aIb{K:Nat→TI→Prop}:@qA Tryz.prog 116 2 ⟨K⟩=K 2 ti3:=qr (ti:=ZL) (tf:=ti3) (fo:=(2,3)) (fs:=[(0,4),(1,36),(2,3)]) asb rfl rfl tf3
theorem aP9{K:Nat→Nat→Prop}:qu Tryz.prog [(0,4),(1,36),(2,3)] 2 K=K 2 1:=qq (tf:=ti3) (fo:=(2,3)) (fs:=[(0,4),(1,36),(2,3)]) rfl tf3
theorem aRN:∀f∈([(0,4),(1,36),(2,3)]:List (Nat×Nat)),(qm Tryz.prog f.2).isSome=true:=by
 intro f hf
 simp only[List.mem_cons,List.not_mem_nil,or_false]at hf
 rcases hf with rfl|rfl|rfl
 ·rw[tf4];rfl
 ·rw[aa4];rfl
 ·rw[tf3];rfl
theorem bbD{ps:List (Nat×AV)}{K:AV→Prop}:@q9 Tryz.prog 116 ps ⟨K⟩=@zd (qu Tryz.prog [(0,4),(1,36),(2,3)]) (zc ZL) ps ⟨fun cs=>K (.ag cs)⟩:=qG asb rfl aRN
theorem be6{K:TI→Prop}:@tyW Tryz.prog 117 ⟨K⟩=K jx:=qc yI
theorem aFi:jx.kd=Kd.stru [(0,4),(1,36),(2,3)]:=ID rfl
theorem arO:jx.kd.agg=true:=ID rfl
theorem alJ:jx.size=3:=ID rfl
theorem aff:jx.bytes=40:=ID rfl
theorem aFg:qw jx=True:=eq_true rfl
theorem aFh:zc jx=[.v (Value.bool false),.v (Value.slice none 0 0),.v (Value.int IntKind.i64 0)]:=ID rfl
theorem aIa{K:Nat→TI→Prop}:@qA Tryz.prog 117 0 ⟨K⟩=K 0 ti4:=qr (ti:=jx) (tf:=ti4) (fo:=(0,4)) (fs:=[(0,4),(1,36),(2,3)]) yI rfl rfl tf4
theorem aP8{K:Nat→Nat→Prop}:qu Tryz.prog [(0,4),(1,36),(2,3)] 0 K=K 0 1:=qq (tf:=ti4) (fo:=(0,4)) (fs:=[(0,4),(1,36),(2,3)]) rfl tf4
theorem aH9{K:Nat→TI→Prop}:@qA Tryz.prog 117 1 ⟨K⟩=K 1 Z5:=qr (ti:=jx) (tf:=Z5) (fo:=(1,36)) (fs:=[(0,4),(1,36),(2,3)]) yI rfl rfl aa4
theorem aP7{K:Nat→Nat→Prop}:qu Tryz.prog [(0,4),(1,36),(2,3)] 1 K=K 1 1:=qq (tf:=Z5) (fo:=(1,36)) (fs:=[(0,4),(1,36),(2,3)]) rfl aa4
theorem aH8{K:Nat→TI→Prop}:@qA Tryz.prog 117 2 ⟨K⟩=K 2 ti3:=qr (ti:=jx) (tf:=ti3) (fo:=(2,3)) (fs:=[(0,4),(1,36),(2,3)]) yI rfl rfl tf3
theorem aP6{K:Nat→Nat→Prop}:qu Tryz.prog [(0,4),(1,36),(2,3)] 2 K=K 2 1:=qq (tf:=ti3) (fo:=(2,3)) (fs:=[(0,4),(1,36),(2,3)]) rfl tf3
theorem aRM:∀f∈([(0,4),(1,36),(2,3)]:List (Nat×Nat)),(qm Tryz.prog f.2).isSome=true:=by
 intro f hf
 simp only[List.mem_cons,List.not_mem_nil,or_false]at hf
 rcases hf with rfl|rfl|rfl
 ·rw[tf4];rfl
 ·rw[aa4];rfl
 ·rw[tf3];rfl
theorem bbC{ps:List (Nat×AV)}{K:AV→Prop}:@q9 Tryz.prog 117 ps ⟨K⟩=@zd (qu Tryz.prog [(0,4),(1,36),(2,3)]) (zc jx) ps ⟨fun cs=>K (.ag cs)⟩:=qG yI rfl aRM
theorem be5{K:TI→Prop}:@tyW Tryz.prog 118 ⟨K⟩=K aaQ:=qc bh0
theorem aFf:aaQ.kd=Kd.oth:=ID rfl
theorem arN:aaQ.kd.agg=false:=ID rfl
theorem alI:aaQ.size=1:=ID rfl
theorem afe:aaQ.bytes=8:=ID rfl
theorem aFd:qw aaQ=True:=eq_true rfl
theorem aFe:zc aaQ=[.v Value.nilFunc]:=ID rfl
theorem be4{K:TI→Prop}:@tyW Tryz.prog 119 ⟨K⟩=K aaP:=qc bhZ
theorem aFc:aaP.kd=Kd.oth:=ID rfl
theorem arM:aaP.kd.agg=false:=ID rfl
theorem alH:aaP.size=1:=ID rfl
theorem afd:aaP.bytes=8:=ID rfl
theorem aFa:qw aaP=True:=eq_true rfl
theorem aFb:zc aaP=[.v Value.nilFunc]:=ID rfl
theorem be3{K:TI→Prop}:@tyW Tryz.prog 120 ⟨K⟩=K aaO:=qc bhY
theorem aE8:aaO.kd=Kd.oth:=ID rfl
theorem arK:aaO.kd.agg=false:=ID rfl
theorem alD:aaO.size=1:=ID rfl
theorem afc:aaO.bytes=8:=ID rfl
theorem aE6:qw aaO=True:=eq_true rfl
theorem aE7:zc aaO=[.v Value.nilFunc]:=ID rfl
theorem be2{K:TI→Prop}:@tyW Tryz.prog 121 ⟨K⟩=K aaN:=qc bhX
theorem aE5:aaN.kd=Kd.oth:=ID rfl
theorem arJ:aaN.kd.agg=false:=ID rfl
theorem alC:aaN.size=1:=ID rfl
theorem afb:aaN.bytes=8:=ID rfl
theorem aE3:qw aaN=True:=eq_true rfl
theorem aE4:zc aaN=[.v Value.nilFunc]:=ID rfl
theorem be1{K:TI→Prop}:@tyW Tryz.prog 122 ⟨K⟩=K aaM:=qc bhW
theorem aE2:aaM.kd=Kd.oth:=ID rfl
theorem arI:aaM.kd.agg=false:=ID rfl
theorem alB:aaM.size=1:=ID rfl
theorem afa:aaM.bytes=8:=ID rfl
theorem aE0:qw aaM=True:=eq_true rfl
theorem aE1:zc aaM=[.v Value.nilFunc]:=ID rfl
theorem be0{K:TI→Prop}:@tyW Tryz.prog 123 ⟨K⟩=K aaL:=qc bhV
theorem aEZ:aaL.kd=Kd.oth:=ID rfl
theorem arH:aaL.kd.agg=false:=ID rfl
theorem alz:aaL.size=1:=ID rfl
theorem ae9:aaL.bytes=8:=ID rfl
theorem aEX:qw aaL=True:=eq_true rfl
theorem aEY:zc aaL=[.v Value.nilFunc]:=ID rfl
theorem beZ{K:TI→Prop}:@tyW Tryz.prog 124 ⟨K⟩=K Z6:=qc aGb
theorem aEW:Z6.kd=Kd.stru [(0,117),(3,117)]:=ID rfl
theorem arG:Z6.kd.agg=true:=ID rfl
theorem aly:Z6.size=6:=ID rfl
theorem ae8:Z6.bytes=80:=ID rfl
theorem aEU:qw Z6=True:=eq_true rfl
theorem aEV:zc Z6=[.v (Value.bool false),.v (Value.slice none 0 0),.v (Value.int IntKind.i64 0),.v (Value.bool false),.v (Value.slice none 0 0),.v (Value.int IntKind.i64 0)]:=ID rfl
theorem aH7{K:Nat→TI→Prop}:@qA Tryz.prog 124 0 ⟨K⟩=K 0 jx:=qr (ti:=Z6) (tf:=jx) (fo:=(0,117)) (fs:=[(0,117),(3,117)]) aGb rfl rfl yI
theorem aP5{K:Nat→Nat→Prop}:qu Tryz.prog [(0,117),(3,117)] 0 K=K 0 3:=qq (tf:=jx) (fo:=(0,117)) (fs:=[(0,117),(3,117)]) rfl yI
theorem aH6{K:Nat→TI→Prop}:@qA Tryz.prog 124 1 ⟨K⟩=K 3 jx:=qr (ti:=Z6) (tf:=jx) (fo:=(3,117)) (fs:=[(0,117),(3,117)]) aGb rfl rfl yI
theorem aP4{K:Nat→Nat→Prop}:qu Tryz.prog [(0,117),(3,117)] 1 K=K 3 3:=qq (tf:=jx) (fo:=(3,117)) (fs:=[(0,117),(3,117)]) rfl yI
theorem aRL:∀f∈([(0,117),(3,117)]:List (Nat×Nat)),(qm Tryz.prog f.2).isSome=true:=by
 intro f hf
 simp only[List.mem_cons,List.not_mem_nil,or_false]at hf
 rcases hf with rfl|rfl
 ·rw[yI];rfl
 ·rw[yI];rfl
theorem bbB{ps:List (Nat×AV)}{K:AV→Prop}:@q9 Tryz.prog 124 ps ⟨K⟩=@zd (qu Tryz.prog [(0,117),(3,117)]) (zc Z6) ps ⟨fun cs=>K (.ag cs)⟩:=qG aGb rfl aRL
theorem beY{K:TI→Prop}:@tyW Tryz.prog 125 ⟨K⟩=K ZK:=qc asa
theorem aET:ZK.kd=Kd.stru [(0,117),(3,117)]:=ID rfl
theorem arF:ZK.kd.agg=true:=ID rfl
theorem alx:ZK.size=6:=ID rfl
theorem ae7:ZK.bytes=80:=ID rfl
theorem aER:qw ZK=True:=eq_true rfl
theorem aES:zc ZK=[.v (Value.bool false),.v (Value.slice none 0 0),.v (Value.int IntKind.i64 0),.v (Value.bool false),.v (Value.slice none 0 0),.v (Value.int IntKind.i64 0)]:=ID rfl
theorem aH5{K:Nat→TI→Prop}:@qA Tryz.prog 125 0 ⟨K⟩=K 0 jx:=qr (ti:=ZK) (tf:=jx) (fo:=(0,117)) (fs:=[(0,117),(3,117)]) asa rfl rfl yI
theorem aP3{K:Nat→Nat→Prop}:qu Tryz.prog [(0,117),(3,117)] 0 K=K 0 3:=qq (tf:=jx) (fo:=(0,117)) (fs:=[(0,117),(3,117)]) rfl yI
theorem aH4{K:Nat→TI→Prop}:@qA Tryz.prog 125 1 ⟨K⟩=K 3 jx:=qr (ti:=ZK) (tf:=jx) (fo:=(3,117)) (fs:=[(0,117),(3,117)]) asa rfl rfl yI
theorem aP2{K:Nat→Nat→Prop}:qu Tryz.prog [(0,117),(3,117)] 1 K=K 3 3:=qq (tf:=jx) (fo:=(3,117)) (fs:=[(0,117),(3,117)]) rfl yI
theorem aRK:∀f∈([(0,117),(3,117)]:List (Nat×Nat)),(qm Tryz.prog f.2).isSome=true:=by
 intro f hf
 simp only[List.mem_cons,List.not_mem_nil,or_false]at hf
 rcases hf with rfl|rfl
 ·rw[yI];rfl
 ·rw[yI];rfl
theorem bbA{ps:List (Nat×AV)}{K:AV→Prop}:@q9 Tryz.prog 125 ps ⟨K⟩=@zd (qu Tryz.prog [(0,117),(3,117)]) (zc ZK) ps ⟨fun cs=>K (.ag cs)⟩:=qG asa rfl aRK
theorem beX{K:TI→Prop}:@tyW Tryz.prog 127 ⟨K⟩=K aaK:=qc bhU
theorem aEQ:aaK.kd=Kd.oth:=ID rfl
theorem arE:aaK.kd.agg=false:=ID rfl
theorem alw:aaK.size=1:=ID rfl
theorem ae6:aaK.bytes=8:=ID rfl
theorem aEO:qw aaK=True:=eq_true rfl
theorem aEP:zc aaK=[.v Value.nilFunc]:=ID rfl
theorem beW{K:TI→Prop}:@tyW Tryz.prog 128 ⟨K⟩=K aaJ:=qc bhT
theorem aEN:aaJ.kd=Kd.oth:=ID rfl
theorem arD:aaJ.kd.agg=false:=ID rfl
theorem alv:aaJ.size=1:=ID rfl
theorem ae5:aaJ.bytes=8:=ID rfl
theorem aEL:qw aaJ=True:=eq_true rfl
theorem aEM:zc aaJ=[.v Value.nilFunc]:=ID rfl
theorem beV{K:TI→Prop}:@tyW Tryz.prog 129 ⟨K⟩=K aaI:=qc bhS
theorem aEK:aaI.kd=Kd.oth:=ID rfl
theorem arC:aaI.kd.agg=false:=ID rfl
theorem alu:aaI.size=1:=ID rfl
theorem ae4:aaI.bytes=8:=ID rfl
theorem aEI:qw aaI=True:=eq_true rfl
theorem aEJ:zc aaI=[.v Value.nilFunc]:=ID rfl
theorem beU{K:TI→Prop}:@tyW Tryz.prog 130 ⟨K⟩=K aaH:=qc bhR
theorem aEG:aaH.kd=Kd.oth:=ID rfl
theorem arA:aaH.kd.agg=false:=ID rfl
theorem als:aaH.size=1:=ID rfl
theorem ae3:aaH.bytes=8:=ID rfl
theorem aEE:qw aaH=True:=eq_true rfl
theorem aEF:zc aaH=[.v Value.nilFunc]:=ID rfl
theorem beT{K:TI→Prop}:@tyW Tryz.prog 131 ⟨K⟩=K aaG:=qc bhQ
theorem aED:aaG.kd=Kd.oth:=ID rfl
theorem arz:aaG.kd.agg=false:=ID rfl
theorem alr:aaG.size=1:=ID rfl
theorem ae2:aaG.bytes=8:=ID rfl
theorem aEB:qw aaG=True:=eq_true rfl
theorem aEC:zc aaG=[.v Value.nilFunc]:=ID rfl
theorem beS{K:TI→Prop}:@tyW Tryz.prog 132 ⟨K⟩=K aaF:=qc bhP
theorem aEA:aaF.kd=Kd.oth:=ID rfl
theorem ary:aaF.kd.agg=false:=ID rfl
theorem alq:aaF.size=1:=ID rfl
theorem ae1:aaF.bytes=8:=ID rfl
theorem aEy:qw aaF=True:=eq_true rfl
theorem aEz:zc aaF=[.v Value.nilFunc]:=ID rfl
theorem beR{K:TI→Prop}:@tyW Tryz.prog 133 ⟨K⟩=K aaE:=qc bhO
theorem aEx:aaE.kd=Kd.oth:=ID rfl
theorem arx:aaE.kd.agg=false:=ID rfl
theorem alp:aaE.size=1:=ID rfl
theorem ae0:aaE.bytes=8:=ID rfl
theorem aEv:qw aaE=True:=eq_true rfl
theorem aEw:zc aaE=[.v Value.nilFunc]:=ID rfl
theorem beQ{K:TI→Prop}:@tyW Tryz.prog 134 ⟨K⟩=K aaD:=qc bhN
theorem aEu:aaD.kd=Kd.oth:=ID rfl
theorem arw:aaD.kd.agg=false:=ID rfl
theorem alo:aaD.size=1:=ID rfl
theorem aeZ:aaD.bytes=8:=ID rfl
theorem aEs:qw aaD=True:=eq_true rfl
theorem aEt:zc aaD=[.v Value.nilFunc]:=ID rfl
theorem beP{K:TI→Prop}:@tyW Tryz.prog 135 ⟨K⟩=K aaC:=qc bhM
theorem aEr:aaC.kd=Kd.oth:=ID rfl
theorem arv:aaC.kd.agg=false:=ID rfl
theorem aln:aaC.size=1:=ID rfl
theorem aeY:aaC.bytes=8:=ID rfl
theorem aEp:qw aaC=True:=eq_true rfl
theorem aEq:zc aaC=[.v Value.nilFunc]:=ID rfl
theorem beO{K:TI→Prop}:@tyW Tryz.prog 136 ⟨K⟩=K aaB:=qc bhL
theorem aEo:aaB.kd=Kd.oth:=ID rfl
theorem aru:aaB.kd.agg=false:=ID rfl
theorem alm:aaB.size=1:=ID rfl
theorem aeX:aaB.bytes=8:=ID rfl
theorem aEm:qw aaB=True:=eq_true rfl
theorem aEn:zc aaB=[.v Value.nilFunc]:=ID rfl
theorem beN{K:TI→Prop}:@tyW Tryz.prog 137 ⟨K⟩=K aaA:=qc bhK
theorem aEl:aaA.kd=Kd.oth:=ID rfl
theorem art:aaA.kd.agg=false:=ID rfl
theorem alk:aaA.size=1:=ID rfl
theorem aeW:aaA.bytes=8:=ID rfl
theorem aEj:qw aaA=True:=eq_true rfl
theorem aEk:zc aaA=[.v Value.nilFunc]:=ID rfl
theorem beM{K:TI→Prop}:@tyW Tryz.prog 138 ⟨K⟩=K aaz:=qc bhJ
theorem aEi:aaz.kd=Kd.oth:=ID rfl
theorem ars:aaz.kd.agg=false:=ID rfl
theorem alj:aaz.size=1:=ID rfl
theorem aeV:aaz.bytes=8:=ID rfl
theorem aEg:qw aaz=True:=eq_true rfl
theorem aEh:zc aaz=[.v Value.nilFunc]:=ID rfl
theorem beL{K:TI→Prop}:@tyW Tryz.prog 139 ⟨K⟩=K aay:=qc bhI
theorem aEf:aay.kd=Kd.oth:=ID rfl
theorem arq:aay.kd.agg=false:=ID rfl
theorem ali:aay.size=1:=ID rfl
theorem aeU:aay.bytes=8:=ID rfl
theorem aEd:qw aay=True:=eq_true rfl
theorem aEe:zc aay=[.v Value.nilFunc]:=ID rfl
theorem beK{K:TI→Prop}:@tyW Tryz.prog 141 ⟨K⟩=K aax:=qc bhH
theorem aEc:aax.kd=Kd.oth:=ID rfl
theorem arp:aax.kd.agg=false:=ID rfl
theorem alh:aax.size=1:=ID rfl
theorem aeT:aax.bytes=8:=ID rfl
theorem aEa:qw aax=True:=eq_true rfl
theorem aEb:zc aax=[.v Value.nilFunc]:=ID rfl
theorem beJ{K:TI→Prop}:@tyW Tryz.prog 142 ⟨K⟩=K aaw:=qc bhG
theorem aD9:aaw.kd=Kd.oth:=ID rfl
theorem aro:aaw.kd.agg=false:=ID rfl
theorem alg:aaw.size=1:=ID rfl
theorem aeS:aaw.bytes=8:=ID rfl
theorem aD7:qw aaw=True:=eq_true rfl
theorem aD8:zc aaw=[.v Value.nilFunc]:=ID rfl
theorem beI{K:TI→Prop}:@tyW Tryz.prog 143 ⟨K⟩=K aav:=qc bhF
theorem aD6:aav.kd=Kd.oth:=ID rfl
theorem arn:aav.kd.agg=false:=ID rfl
theorem alf:aav.size=1:=ID rfl
theorem aeR:aav.bytes=8:=ID rfl
theorem aD4:qw aav=True:=eq_true rfl
theorem aD5:zc aav=[.v Value.nilFunc]:=ID rfl
theorem beH{K:TI→Prop}:@tyW Tryz.prog 144 ⟨K⟩=K aau:=qc bhE
theorem aD3:aau.kd=Kd.oth:=ID rfl
theorem arm:aau.kd.agg=false:=ID rfl
theorem ale:aau.size=1:=ID rfl
theorem aeQ:aau.bytes=8:=ID rfl
theorem aD1:qw aau=True:=eq_true rfl
theorem aD2:zc aau=[.v Value.nilFunc]:=ID rfl
theorem beG{K:TI→Prop}:@tyW Tryz.prog 145 ⟨K⟩=K aat:=qc bhD
theorem aD0:aat.kd=Kd.oth:=ID rfl
theorem arl:aat.kd.agg=false:=ID rfl
theorem ald:aat.size=1:=ID rfl
theorem aeP:aat.bytes=8:=ID rfl
theorem aDY:qw aat=True:=eq_true rfl
theorem aDZ:zc aat=[.v Value.nilFunc]:=ID rfl
theorem beF{K:TI→Prop}:@tyW Tryz.prog 146 ⟨K⟩=K aas:=qc bhC
theorem aDX:aas.kd=Kd.oth:=ID rfl
theorem ark:aas.kd.agg=false:=ID rfl
theorem alc:aas.size=1:=ID rfl
theorem aeO:aas.bytes=8:=ID rfl
theorem aDV:qw aas=True:=eq_true rfl
theorem aDW:zc aas=[.v Value.nilFunc]:=ID rfl
theorem beE{K:TI→Prop}:@tyW Tryz.prog 147 ⟨K⟩=K aar:=qc bhB
theorem aDU:aar.kd=Kd.oth:=ID rfl
theorem arj:aar.kd.agg=false:=ID rfl
theorem alb:aar.size=1:=ID rfl
theorem aeN:aar.bytes=8:=ID rfl
theorem aDS:qw aar=True:=eq_true rfl
theorem aDT:zc aar=[.v Value.nilFunc]:=ID rfl
theorem beD{K:TI→Prop}:@tyW Tryz.prog 148 ⟨K⟩=K aaq:=qc bhA
theorem aDR:aaq.kd=Kd.oth:=ID rfl
theorem ari:aaq.kd.agg=false:=ID rfl
theorem ala:aaq.size=1:=ID rfl
theorem aeM:aaq.bytes=8:=ID rfl
theorem aDP:qw aaq=True:=eq_true rfl
theorem aDQ:zc aaq=[.v Value.nilFunc]:=ID rfl
theorem beC{K:TI→Prop}:@tyW Tryz.prog 149 ⟨K⟩=K aap:=qc bhz
theorem aDO:aap.kd=Kd.oth:=ID rfl
theorem arh:aap.kd.agg=false:=ID rfl
theorem ak9:aap.size=1:=ID rfl
theorem aeL:aap.bytes=8:=ID rfl
theorem aDM:qw aap=True:=eq_true rfl
theorem aDN:zc aap=[.v Value.nilFunc]:=ID rfl
theorem beB{K:TI→Prop}:@tyW Tryz.prog 150 ⟨K⟩=K aao:=qc bhy
theorem aDL:aao.kd=Kd.oth:=ID rfl
theorem arg:aao.kd.agg=false:=ID rfl
theorem ak8:aao.size=1:=ID rfl
theorem aeK:aao.bytes=8:=ID rfl
theorem aDJ:qw aao=True:=eq_true rfl
theorem aDK:zc aao=[.v Value.nilFunc]:=ID rfl
theorem beA{K:TI→Prop}:@tyW Tryz.prog 151 ⟨K⟩=K aan:=qc bhx
theorem aDI:aan.kd=Kd.oth:=ID rfl
theorem arf:aan.kd.agg=false:=ID rfl
theorem ak7:aan.size=1:=ID rfl
theorem aeJ:aan.bytes=8:=ID rfl
theorem aDG:qw aan=True:=eq_true rfl
theorem aDH:zc aan=[.v Value.nilFunc]:=ID rfl
theorem bez{K:TI→Prop}:@tyW Tryz.prog 152 ⟨K⟩=K aam:=qc bhw
theorem aDF:aam.kd=Kd.oth:=ID rfl
theorem ard:aam.kd.agg=false:=ID rfl
theorem ak6:aam.size=1:=ID rfl
theorem aeI:aam.bytes=8:=ID rfl
theorem aDD:qw aam=True:=eq_true rfl
theorem aDE:zc aam=[.v Value.nilFunc]:=ID rfl
theorem bey{K:TI→Prop}:@tyW Tryz.prog 153 ⟨K⟩=K aal:=qc bhv
theorem aDC:aal.kd=Kd.oth:=ID rfl
theorem arc:aal.kd.agg=false:=ID rfl
theorem ak5:aal.size=1:=ID rfl
theorem aeH:aal.bytes=8:=ID rfl
theorem aDA:qw aal=True:=eq_true rfl
theorem aDB:zc aal=[.v Value.nilFunc]:=ID rfl
theorem bex{K:TI→Prop}:@tyW Tryz.prog 154 ⟨K⟩=K aak:=qc bhu
theorem aDz:aak.kd=Kd.oth:=ID rfl
theorem arb:aak.kd.agg=false:=ID rfl
theorem ak4:aak.size=1:=ID rfl
theorem aeG:aak.bytes=8:=ID rfl
theorem aDx:qw aak=True:=eq_true rfl
theorem aDy:zc aak=[.v Value.nilFunc]:=ID rfl
theorem bew{K:TI→Prop}:@tyW Tryz.prog 155 ⟨K⟩=K aaj:=qc bht
theorem aDw:aaj.kd=Kd.oth:=ID rfl
theorem ara:aaj.kd.agg=false:=ID rfl
theorem ak3:aaj.size=1:=ID rfl
theorem aeF:aaj.bytes=8:=ID rfl
theorem aDu:qw aaj=True:=eq_true rfl
theorem aDv:zc aaj=[.v Value.nilFunc]:=ID rfl
theorem bev{K:TI→Prop}:@tyW Tryz.prog 156 ⟨K⟩=K aai:=qc bhs
theorem aDt:aai.kd=Kd.oth:=ID rfl
theorem aq9:aai.kd.agg=false:=ID rfl
theorem ak2:aai.size=1:=ID rfl
theorem aeE:aai.bytes=8:=ID rfl
theorem aDr:qw aai=True:=eq_true rfl
theorem aDs:zc aai=[.v Value.nilFunc]:=ID rfl
theorem beu{K:TI→Prop}:@tyW Tryz.prog 157 ⟨K⟩=K aah:=qc bhr
theorem aDq:aah.kd=Kd.oth:=ID rfl
theorem aq8:aah.kd.agg=false:=ID rfl
theorem ak1:aah.size=1:=ID rfl
theorem aeD:aah.bytes=8:=ID rfl
theorem aDo:qw aah=True:=eq_true rfl
theorem aDp:zc aah=[.v Value.nilFunc]:=ID rfl
theorem bet{K:TI→Prop}:@tyW Tryz.prog 158 ⟨K⟩=K aag:=qc bhq
theorem aDn:aag.kd=Kd.oth:=ID rfl
theorem aq7:aag.kd.agg=false:=ID rfl
theorem ak0:aag.size=1:=ID rfl
theorem aeC:aag.bytes=8:=ID rfl
theorem aDl:qw aag=True:=eq_true rfl
theorem aDm:zc aag=[.v Value.nilFunc]:=ID rfl
theorem bes{K:TI→Prop}:@tyW Tryz.prog 159 ⟨K⟩=K aaf:=qc bho
theorem aDk:aaf.kd=Kd.oth:=ID rfl
theorem aq6:aaf.kd.agg=false:=ID rfl
theorem akZ:aaf.size=1:=ID rfl
theorem aeB:aaf.bytes=8:=ID rfl
theorem aDi:qw aaf=True:=eq_true rfl
theorem aDj:zc aaf=[.v Value.nilFunc]:=ID rfl
theorem ber{K:TI→Prop}:@tyW Tryz.prog 160 ⟨K⟩=K aae:=qc bhn
theorem aDh:aae.kd=Kd.oth:=ID rfl
theorem aq5:aae.kd.agg=false:=ID rfl
theorem akY:aae.size=1:=ID rfl
theorem aeA:aae.bytes=8:=ID rfl
theorem aDf:qw aae=True:=eq_true rfl
theorem aDg:zc aae=[.v Value.nilFunc]:=ID rfl
theorem bep{K:TI→Prop}:@tyW Tryz.prog 161 ⟨K⟩=K aad:=qc bhm
theorem aDe:aad.kd=Kd.oth:=ID rfl
theorem aq4:aad.kd.agg=false:=ID rfl
theorem akX:aad.size=1:=ID rfl
theorem aez:aad.bytes=8:=ID rfl
theorem aDc:qw aad=True:=eq_true rfl
theorem aDd:zc aad=[.v Value.nilFunc]:=ID rfl
theorem beo{K:TI→Prop}:@tyW Tryz.prog 162 ⟨K⟩=K aac:=qc bhl
theorem aDb:aac.kd=Kd.oth:=ID rfl
theorem aq3:aac.kd.agg=false:=ID rfl
theorem akW:aac.size=1:=ID rfl
theorem aey:aac.bytes=8:=ID rfl
theorem aC9:qw aac=True:=eq_true rfl
theorem aDa:zc aac=[.v Value.nilFunc]:=ID rfl
theorem ben{K:TI→Prop}:@tyW Tryz.prog 163 ⟨K⟩=K aab:=qc bhk
theorem aC8:aab.kd=Kd.oth:=ID rfl
theorem aq2:aab.kd.agg=false:=ID rfl
theorem akV:aab.size=1:=ID rfl
theorem aex:aab.bytes=8:=ID rfl
theorem aC6:qw aab=True:=eq_true rfl
theorem aC7:zc aab=[.v Value.nilFunc]:=ID rfl
theorem bem{K:TI→Prop}:@tyW Tryz.prog 164 ⟨K⟩=K aaa:=qc bhj
theorem aC5:aaa.kd=Kd.oth:=ID rfl
theorem aq1:aaa.kd.agg=false:=ID rfl
theorem akU:aaa.size=1:=ID rfl
theorem aew:aaa.bytes=8:=ID rfl
theorem aC3:qw aaa=True:=eq_true rfl
theorem aC4:zc aaa=[.v Value.nilFunc]:=ID rfl
theorem bel{K:TI→Prop}:@tyW Tryz.prog 165 ⟨K⟩=K K9:=qc bhi
theorem aC2:K9.kd=Kd.oth:=ID rfl
theorem aq0:K9.kd.agg=false:=ID rfl
theorem akT:K9.size=1:=ID rfl
theorem aev:K9.bytes=8:=ID rfl
theorem aC0:qw K9=True:=eq_true rfl
theorem aC1:zc K9=[.v Value.nilFunc]:=ID rfl
theorem bek{K:TI→Prop}:@tyW Tryz.prog 166 ⟨K⟩=K K8:=qc bhh
theorem aCZ:K8.kd=Kd.oth:=ID rfl
theorem aqZ:K8.kd.agg=false:=ID rfl
theorem akS:K8.size=1:=ID rfl
theorem aeu:K8.bytes=8:=ID rfl
theorem aCX:qw K8=True:=eq_true rfl
theorem aCY:zc K8=[.v Value.nilFunc]:=ID rfl
theorem bej{K:TI→Prop}:@tyW Tryz.prog 167 ⟨K⟩=K K7:=qc bhg
theorem aCW:K7.kd=Kd.oth:=ID rfl
theorem aqY:K7.kd.agg=false:=ID rfl
theorem akR:K7.size=1:=ID rfl
theorem aet:K7.bytes=8:=ID rfl
theorem aCU:qw K7=True:=eq_true rfl
theorem aCV:zc K7=[.v Value.nilFunc]:=ID rfl
theorem bei{K:TI→Prop}:@tyW Tryz.prog 168 ⟨K⟩=K K6:=qc bhf
theorem aCT:K6.kd=Kd.oth:=ID rfl
theorem aqX:K6.kd.agg=false:=ID rfl
theorem akQ:K6.size=1:=ID rfl
theorem aes:K6.bytes=8:=ID rfl
theorem aCR:qw K6=True:=eq_true rfl
theorem aCS:zc K6=[.v Value.nilFunc]:=ID rfl
theorem beh{K:TI→Prop}:@tyW Tryz.prog 169 ⟨K⟩=K K5:=qc bhe
theorem aCQ:K5.kd=Kd.oth:=ID rfl
theorem aqW:K5.kd.agg=false:=ID rfl
theorem akP:K5.size=1:=ID rfl
theorem aer:K5.bytes=8:=ID rfl
theorem aCO:qw K5=True:=eq_true rfl
theorem aCP:zc K5=[.v Value.nilFunc]:=ID rfl
theorem beg{K:TI→Prop}:@tyW Tryz.prog 170 ⟨K⟩=K K4:=qc bhd
theorem aCN:K4.kd=Kd.oth:=ID rfl
theorem aqV:K4.kd.agg=false:=ID rfl
theorem akO:K4.size=1:=ID rfl
theorem aeq:K4.bytes=8:=ID rfl
theorem aCL:qw K4=True:=eq_true rfl
theorem aCM:zc K4=[.v Value.nilFunc]:=ID rfl
theorem bef{K:TI→Prop}:@tyW Tryz.prog 171 ⟨K⟩=K K3:=qc bhc
theorem aCK:K3.kd=Kd.oth:=ID rfl
theorem aqU:K3.kd.agg=false:=ID rfl
theorem akN:K3.size=1:=ID rfl
theorem aep:K3.bytes=8:=ID rfl
theorem aCI:qw K3=True:=eq_true rfl
theorem aCJ:zc K3=[.v Value.nilFunc]:=ID rfl
theorem bee{K:TI→Prop}:@tyW Tryz.prog 172 ⟨K⟩=K K2:=qc bhb
theorem aCH:K2.kd=Kd.oth:=ID rfl
theorem aqT:K2.kd.agg=false:=ID rfl
theorem akM:K2.size=1:=ID rfl
theorem aeo:K2.bytes=8:=ID rfl
theorem aCF:qw K2=True:=eq_true rfl
theorem aCG:zc K2=[.v Value.nilFunc]:=ID rfl
theorem bed{K:TI→Prop}:@tyW Tryz.prog 173 ⟨K⟩=K KZ:=qc bha
theorem aCE:KZ.kd=Kd.oth:=ID rfl
theorem aqS:KZ.kd.agg=false:=ID rfl
theorem akL:KZ.size=1:=ID rfl
theorem aen:KZ.bytes=8:=ID rfl
theorem aCC:qw KZ=True:=eq_true rfl
theorem aCD:zc KZ=[.v Value.nilFunc]:=ID rfl
theorem bec{K:TI→Prop}:@tyW Tryz.prog 174 ⟨K⟩=K KY:=qc bg9
theorem aCB:KY.kd=Kd.oth:=ID rfl
theorem aqR:KY.kd.agg=false:=ID rfl
theorem akK:KY.size=1:=ID rfl
theorem aem:KY.bytes=8:=ID rfl
theorem aCz:qw KY=True:=eq_true rfl
theorem aCA:zc KY=[.v Value.nilFunc]:=ID rfl
theorem beb{K:TI→Prop}:@tyW Tryz.prog 175 ⟨K⟩=K KX:=qc bg8
theorem aCy:KX.kd=Kd.oth:=ID rfl
theorem aqQ:KX.kd.agg=false:=ID rfl
theorem akJ:KX.size=1:=ID rfl
theorem ael:KX.bytes=8:=ID rfl
theorem aCw:qw KX=True:=eq_true rfl
theorem aCx:zc KX=[.v Value.nilFunc]:=ID rfl
theorem bea{K:TI→Prop}:@tyW Tryz.prog 176 ⟨K⟩=K ZJ:=qc ar9
theorem aCv:ZJ.kd=Kd.stru [(0,22),(1,3),(2,3)]:=ID rfl
theorem aqP:ZJ.kd.agg=true:=ID rfl
theorem akI:ZJ.size=3:=ID rfl
theorem aek:ZJ.bytes=40:=ID rfl
theorem aCt:qw ZJ=True:=eq_true rfl
theorem aCu:zc ZJ=[.v (Value.slice none 0 0),.v (Value.int IntKind.i64 0),.v (Value.int IntKind.i64 0)]:=ID rfl
theorem aH3{K:Nat→TI→Prop}:@qA Tryz.prog 176 0 ⟨K⟩=K 0 agU:=qr (ti:=ZJ) (tf:=agU) (fo:=(0,22)) (fs:=[(0,22),(1,3),(2,3)]) ar9 rfl rfl aKo
theorem aP1{K:Nat→Nat→Prop}:qu Tryz.prog [(0,22),(1,3),(2,3)] 0 K=K 0 1:=qq (tf:=agU) (fo:=(0,22)) (fs:=[(0,22),(1,3),(2,3)]) rfl aKo
theorem aH2{K:Nat→TI→Prop}:@qA Tryz.prog 176 1 ⟨K⟩=K 1 ti3:=qr (ti:=ZJ) (tf:=ti3) (fo:=(1,3)) (fs:=[(0,22),(1,3),(2,3)]) ar9 rfl rfl tf3
theorem aP0{K:Nat→Nat→Prop}:qu Tryz.prog [(0,22),(1,3),(2,3)] 1 K=K 1 1:=qq (tf:=ti3) (fo:=(1,3)) (fs:=[(0,22),(1,3),(2,3)]) rfl tf3
theorem aH1{K:Nat→TI→Prop}:@qA Tryz.prog 176 2 ⟨K⟩=K 2 ti3:=qr (ti:=ZJ) (tf:=ti3) (fo:=(2,3)) (fs:=[(0,22),(1,3),(2,3)]) ar9 rfl rfl tf3
theorem aPZ{K:Nat→Nat→Prop}:qu Tryz.prog [(0,22),(1,3),(2,3)] 2 K=K 2 1:=qq (tf:=ti3) (fo:=(2,3)) (fs:=[(0,22),(1,3),(2,3)]) rfl tf3
theorem aRJ:∀f∈([(0,22),(1,3),(2,3)]:List (Nat×Nat)),(qm Tryz.prog f.2).isSome=true:=by
 intro f hf
 simp only[List.mem_cons,List.not_mem_nil,or_false]at hf
 rcases hf with rfl|rfl|rfl
 ·rw[aKo];rfl
 ·rw[tf3];rfl
 ·rw[tf3];rfl
theorem bbz{ps:List (Nat×AV)}{K:AV→Prop}:@q9 Tryz.prog 176 ps ⟨K⟩=@zd (qu Tryz.prog [(0,22),(1,3),(2,3)]) (zc ZJ) ps ⟨fun cs=>K (.ag cs)⟩:=qG ar9 rfl aRJ
theorem bd9{K:TI→Prop}:@tyW Tryz.prog 177 ⟨K⟩=K ZI:=qc ar8
theorem aCs:ZI.kd=Kd.stru [(0,22),(1,3),(2,3)]:=ID rfl
theorem aqO:ZI.kd.agg=true:=ID rfl
theorem akH:ZI.size=3:=ID rfl
theorem aej:ZI.bytes=40:=ID rfl
theorem aCq:qw ZI=True:=eq_true rfl
theorem aCr:zc ZI=[.v (Value.slice none 0 0),.v (Value.int IntKind.i64 0),.v (Value.int IntKind.i64 0)]:=ID rfl
theorem aH0{K:Nat→TI→Prop}:@qA Tryz.prog 177 0 ⟨K⟩=K 0 agU:=qr (ti:=ZI) (tf:=agU) (fo:=(0,22)) (fs:=[(0,22),(1,3),(2,3)]) ar8 rfl rfl aKo
theorem aPY{K:Nat→Nat→Prop}:qu Tryz.prog [(0,22),(1,3),(2,3)] 0 K=K 0 1:=qq (tf:=agU) (fo:=(0,22)) (fs:=[(0,22),(1,3),(2,3)]) rfl aKo
theorem aHZ{K:Nat→TI→Prop}:@qA Tryz.prog 177 1 ⟨K⟩=K 1 ti3:=qr (ti:=ZI) (tf:=ti3) (fo:=(1,3)) (fs:=[(0,22),(1,3),(2,3)]) ar8 rfl rfl tf3
theorem aPX{K:Nat→Nat→Prop}:qu Tryz.prog [(0,22),(1,3),(2,3)] 1 K=K 1 1:=qq (tf:=ti3) (fo:=(1,3)) (fs:=[(0,22),(1,3),(2,3)]) rfl tf3
theorem aHY{K:Nat→TI→Prop}:@qA Tryz.prog 177 2 ⟨K⟩=K 2 ti3:=qr (ti:=ZI) (tf:=ti3) (fo:=(2,3)) (fs:=[(0,22),(1,3),(2,3)]) ar8 rfl rfl tf3
theorem aPW{K:Nat→Nat→Prop}:qu Tryz.prog [(0,22),(1,3),(2,3)] 2 K=K 2 1:=qq (tf:=ti3) (fo:=(2,3)) (fs:=[(0,22),(1,3),(2,3)]) rfl tf3
theorem aRI:∀f∈([(0,22),(1,3),(2,3)]:List (Nat×Nat)),(qm Tryz.prog f.2).isSome=true:=by
 intro f hf
 simp only[List.mem_cons,List.not_mem_nil,or_false]at hf
 rcases hf with rfl|rfl|rfl
 ·rw[aKo];rfl
 ·rw[tf3];rfl
 ·rw[tf3];rfl
theorem bby{ps:List (Nat×AV)}{K:AV→Prop}:@q9 Tryz.prog 177 ps ⟨K⟩=@zd (qu Tryz.prog [(0,22),(1,3),(2,3)]) (zc ZI) ps ⟨fun cs=>K (.ag cs)⟩:=qG ar8 rfl aRI
theorem bd8{K:TI→Prop}:@tyW Tryz.prog 178 ⟨K⟩=K KW:=qc bg7
theorem aCp:KW.kd=Kd.oth:=ID rfl
theorem aqN:KW.kd.agg=false:=ID rfl
theorem akG:KW.size=1:=ID rfl
theorem aei:KW.bytes=8:=ID rfl
theorem aCn:qw KW=True:=eq_true rfl
theorem aCo:zc KW=[.v Value.nilFunc]:=ID rfl
theorem bd7{K:TI→Prop}:@tyW Tryz.prog 179 ⟨K⟩=K KU:=qc bg6
theorem aCm:KU.kd=Kd.oth:=ID rfl
theorem aqM:KU.kd.agg=false:=ID rfl
theorem akF:KU.size=1:=ID rfl
theorem aeh:KU.bytes=8:=ID rfl
theorem aCk:qw KU=True:=eq_true rfl
theorem aCl:zc KU=[.v Value.nilFunc]:=ID rfl
theorem bd6{K:TI→Prop}:@tyW Tryz.prog 180 ⟨K⟩=K KT:=qc bg5
theorem aCj:KT.kd=Kd.oth:=ID rfl
theorem aqL:KT.kd.agg=false:=ID rfl
theorem akE:KT.size=1:=ID rfl
theorem aeg:KT.bytes=8:=ID rfl
theorem aCh:qw KT=True:=eq_true rfl
theorem aCi:zc KT=[.v Value.nilFunc]:=ID rfl
theorem bd5{K:TI→Prop}:@tyW Tryz.prog 181 ⟨K⟩=K KS:=qc bg4
theorem aCg:KS.kd=Kd.oth:=ID rfl
theorem aqK:KS.kd.agg=false:=ID rfl
theorem akD:KS.size=1:=ID rfl
theorem aef:KS.bytes=8:=ID rfl
theorem aCe:qw KS=True:=eq_true rfl
theorem aCf:zc KS=[.v Value.nilFunc]:=ID rfl
theorem bd2{K:TI→Prop}:@tyW Tryz.prog 182 ⟨K⟩=K KR:=qc bg3
theorem aCd:KR.kd=Kd.oth:=ID rfl
theorem aqJ:KR.kd.agg=false:=ID rfl
theorem akC:KR.size=1:=ID rfl
theorem aee:KR.bytes=8:=ID rfl
theorem aCb:qw KR=True:=eq_true rfl
theorem aCc:zc KR=[.v Value.nilFunc]:=ID rfl
theorem bd1{K:TI→Prop}:@tyW Tryz.prog 183 ⟨K⟩=K KQ:=qc bg2
theorem aCa:KQ.kd=Kd.oth:=ID rfl
theorem aqI:KQ.kd.agg=false:=ID rfl
theorem akB:KQ.size=1:=ID rfl
theorem aed:KQ.bytes=8:=ID rfl
theorem aB8:qw KQ=True:=eq_true rfl
theorem aB9:zc KQ=[.v Value.nilFunc]:=ID rfl
theorem bd0{K:TI→Prop}:@tyW Tryz.prog 184 ⟨K⟩=K KP:=qc bg1
theorem aB7:KP.kd=Kd.oth:=ID rfl
theorem aqH:KP.kd.agg=false:=ID rfl
theorem akA:KP.size=1:=ID rfl
theorem aec:KP.bytes=8:=ID rfl
theorem aB5:qw KP=True:=eq_true rfl
theorem aB6:zc KP=[.v Value.nilFunc]:=ID rfl
theorem bdZ{K:TI→Prop}:@tyW Tryz.prog 185 ⟨K⟩=K KO:=qc bg0
theorem aB4:KO.kd=Kd.oth:=ID rfl
theorem aqG:KO.kd.agg=false:=ID rfl
theorem akz:KO.size=1:=ID rfl
theorem aeb:KO.bytes=8:=ID rfl
theorem aB2:qw KO=True:=eq_true rfl
theorem aB3:zc KO=[.v Value.nilFunc]:=ID rfl
theorem bdY{K:TI→Prop}:@tyW Tryz.prog 186 ⟨K⟩=K KN:=qc bgZ
theorem aB1:KN.kd=Kd.oth:=ID rfl
theorem aqF:KN.kd.agg=false:=ID rfl
theorem aky:KN.size=1:=ID rfl
theorem aea:KN.bytes=8:=ID rfl
theorem aBZ:qw KN=True:=eq_true rfl
theorem aB0:zc KN=[.v Value.nilFunc]:=ID rfl
theorem bdX{K:TI→Prop}:@tyW Tryz.prog 188 ⟨K⟩=K KM:=qc bgY
theorem aBY:KM.kd=Kd.oth:=ID rfl
theorem aqE:KM.kd.agg=false:=ID rfl
theorem akx:KM.size=1:=ID rfl
theorem ad9:KM.bytes=8:=ID rfl
theorem aBW:qw KM=True:=eq_true rfl
theorem aBX:zc KM=[.v Value.nilFunc]:=ID rfl
theorem bdW{K:TI→Prop}:@tyW Tryz.prog 189 ⟨K⟩=K KL:=qc bgX
theorem aBV:KL.kd=Kd.oth:=ID rfl
theorem aqD:KL.kd.agg=false:=ID rfl
theorem akw:KL.size=1:=ID rfl
theorem ad8:KL.bytes=8:=ID rfl
theorem aBT:qw KL=True:=eq_true rfl
theorem aBU:zc KL=[.v Value.nilFunc]:=ID rfl
theorem bdV{K:TI→Prop}:@tyW Tryz.prog 190 ⟨K⟩=K KK:=qc bgW
theorem aBS:KK.kd=Kd.oth:=ID rfl
theorem aqC:KK.kd.agg=false:=ID rfl
theorem akv:KK.size=1:=ID rfl
theorem ad7:KK.bytes=8:=ID rfl
theorem aBQ:qw KK=True:=eq_true rfl
theorem aBR:zc KK=[.v Value.nilFunc]:=ID rfl
theorem bdU{K:TI→Prop}:@tyW Tryz.prog 191 ⟨K⟩=K KJ:=qc bgV
theorem aBP:KJ.kd=Kd.oth:=ID rfl
theorem aqB:KJ.kd.agg=false:=ID rfl
theorem aku:KJ.size=1:=ID rfl
theorem ad6:KJ.bytes=8:=ID rfl
theorem aBN:qw KJ=True:=eq_true rfl
theorem aBO:zc KJ=[.v Value.nilFunc]:=ID rfl
theorem bdT{K:TI→Prop}:@tyW Tryz.prog 192 ⟨K⟩=K KI:=qc bgU
theorem aBM:KI.kd=Kd.oth:=ID rfl
theorem aqA:KI.kd.agg=false:=ID rfl
theorem akt:KI.size=1:=ID rfl
theorem ad5:KI.bytes=8:=ID rfl
theorem aBK:qw KI=True:=eq_true rfl
theorem aBL:zc KI=[.v Value.nilFunc]:=ID rfl
theorem bdS{K:TI→Prop}:@tyW Tryz.prog 193 ⟨K⟩=K KH:=qc bgT
theorem aBJ:KH.kd=Kd.oth:=ID rfl
theorem aqz:KH.kd.agg=false:=ID rfl
theorem aks:KH.size=1:=ID rfl
theorem ad4:KH.bytes=8:=ID rfl
theorem aBH:qw KH=True:=eq_true rfl
theorem aBI:zc KH=[.v Value.nilFunc]:=ID rfl
theorem bdR{K:TI→Prop}:@tyW Tryz.prog 194 ⟨K⟩=K KG:=qc bgS
theorem aBG:KG.kd=Kd.oth:=ID rfl
theorem aqy:KG.kd.agg=false:=ID rfl
theorem akr:KG.size=1:=ID rfl
theorem ad3:KG.bytes=8:=ID rfl
theorem aBE:qw KG=True:=eq_true rfl
theorem aBF:zc KG=[.v Value.nilFunc]:=ID rfl
theorem bdQ{K:TI→Prop}:@tyW Tryz.prog 195 ⟨K⟩=K KF:=qc aUH
theorem aBD:KF.kd=Kd.sli 108:=ID rfl
theorem aqx:KF.kd.agg=false:=ID rfl
theorem akq:KF.size=1:=ID rfl
theorem ad2:KF.bytes=24:=ID rfl
theorem aBB:qw KF=True:=eq_true rfl
theorem aBC:zc KF=[.v (Value.slice none 0 0)]:=ID rfl
theorem aUY{K:TI→Prop}:@Qd Tryz.prog 195 ⟨K⟩=K Qm:=Zw aUH rfl YU
theorem bdP{K:TI→Prop}:@tyW Tryz.prog 196 ⟨K⟩=K KE:=qc bgR
theorem aBA:KE.kd=Kd.oth:=ID rfl
theorem aqw:KE.kd.agg=false:=ID rfl
theorem akp:KE.size=1:=ID rfl
theorem ad1:KE.bytes=8:=ID rfl
theorem aBy:qw KE=True:=eq_true rfl
theorem aBz:zc KE=[.v Value.nilFunc]:=ID rfl
theorem bdO{K:TI→Prop}:@tyW Tryz.prog 197 ⟨K⟩=K KD:=qc bgQ
theorem aBx:KD.kd=Kd.oth:=ID rfl
theorem aqv:KD.kd.agg=false:=ID rfl
theorem ako:KD.size=1:=ID rfl
theorem ad0:KD.bytes=8:=ID rfl
theorem aBv:qw KD=True:=eq_true rfl
theorem aBw:zc KD=[.v Value.nilFunc]:=ID rfl
theorem bdN{K:TI→Prop}:@tyW Tryz.prog 198 ⟨K⟩=K KC:=qc bgP
theorem aBu:KC.kd=Kd.oth:=ID rfl
theorem aqu:KC.kd.agg=false:=ID rfl
theorem akn:KC.size=1:=ID rfl
theorem adY:KC.bytes=8:=ID rfl
theorem aBs:qw KC=True:=eq_true rfl
theorem aBt:zc KC=[.v Value.nilFunc]:=ID rfl
theorem bdM{K:TI→Prop}:@tyW Tryz.prog 200 ⟨K⟩=K KB:=qc bgO
theorem aBq:KB.kd=Kd.oth:=ID rfl
theorem aqs:KB.kd.agg=false:=ID rfl
theorem akm:KB.size=1:=ID rfl
theorem adX:KB.bytes=8:=ID rfl
theorem aBo:qw KB=True:=eq_true rfl
theorem aBp:zc KB=[.v Value.nilFunc]:=ID rfl
theorem bdL{K:TI→Prop}:@tyW Tryz.prog 201 ⟨K⟩=K KA:=qc bgN
theorem aBn:KA.kd=Kd.oth:=ID rfl
theorem aqr:KA.kd.agg=false:=ID rfl
theorem akl:KA.size=1:=ID rfl
theorem adW:KA.bytes=8:=ID rfl
theorem aBl:qw KA=True:=eq_true rfl
theorem aBm:zc KA=[.v Value.nilFunc]:=ID rfl
theorem bdK{K:TI→Prop}:@tyW Tryz.prog 202 ⟨K⟩=K Kw:=qc bgM
theorem aBk:Kw.kd=Kd.oth:=ID rfl
theorem aqq:Kw.kd.agg=false:=ID rfl
theorem akk:Kw.size=1:=ID rfl
theorem adV:Kw.bytes=8:=ID rfl
theorem aBi:qw Kw=True:=eq_true rfl
theorem aBj:zc Kw=[.v Value.nilFunc]:=ID rfl
theorem bdJ{K:TI→Prop}:@tyW Tryz.prog 204 ⟨K⟩=K Kv:=qc bgL
theorem aBh:Kv.kd=Kd.oth:=ID rfl
theorem aqp:Kv.kd.agg=false:=ID rfl
theorem akj:Kv.size=1:=ID rfl
theorem adU:Kv.bytes=8:=ID rfl
theorem aBf:qw Kv=True:=eq_true rfl
theorem aBg:zc Kv=[.v Value.nilFunc]:=ID rfl
theorem bdI{K:TI→Prop}:@tyW Tryz.prog 206 ⟨K⟩=K Ku:=qc bgK
theorem aBe:Ku.kd=Kd.oth:=ID rfl
theorem aqo:Ku.kd.agg=false:=ID rfl
theorem aki:Ku.size=1:=ID rfl
theorem adT:Ku.bytes=8:=ID rfl
theorem aBc:qw Ku=True:=eq_true rfl
theorem aBd:zc Ku=[.v Value.nilFunc]:=ID rfl
theorem bdH{K:TI→Prop}:@tyW Tryz.prog 207 ⟨K⟩=K Kt:=qc bgJ
theorem aBb:Kt.kd=Kd.oth:=ID rfl
theorem aqn:Kt.kd.agg=false:=ID rfl
theorem akh:Kt.size=1:=ID rfl
theorem adR:Kt.bytes=8:=ID rfl
theorem aA9:qw Kt=True:=eq_true rfl
theorem aBa:zc Kt=[.v Value.nilFunc]:=ID rfl
theorem bdG{K:TI→Prop}:@tyW Tryz.prog 208 ⟨K⟩=K Ks:=qc bgI
theorem aA8:Ks.kd=Kd.oth:=ID rfl
theorem aqm:Ks.kd.agg=false:=ID rfl
theorem akg:Ks.size=1:=ID rfl
theorem adQ:Ks.bytes=8:=ID rfl
theorem aA6:qw Ks=True:=eq_true rfl
theorem aA7:zc Ks=[.v Value.nilFunc]:=ID rfl
theorem bdF{K:TI→Prop}:@tyW Tryz.prog 209 ⟨K⟩=K Kr:=qc bgH
theorem aA5:Kr.kd=Kd.oth:=ID rfl
theorem aql:Kr.kd.agg=false:=ID rfl
theorem akf:Kr.size=1:=ID rfl
theorem adP:Kr.bytes=8:=ID rfl
theorem aA3:qw Kr=True:=eq_true rfl
theorem aA4:zc Kr=[.v Value.nilFunc]:=ID rfl
theorem bdE{K:TI→Prop}:@tyW Tryz.prog 210 ⟨K⟩=K Kq:=qc bgG
theorem aA2:Kq.kd=Kd.oth:=ID rfl
theorem aqk:Kq.kd.agg=false:=ID rfl
theorem ake:Kq.size=1:=ID rfl
theorem adO:Kq.bytes=8:=ID rfl
theorem aA0:qw Kq=True:=eq_true rfl
theorem aA1:zc Kq=[.v Value.nilFunc]:=ID rfl
theorem bdD{K:TI→Prop}:@tyW Tryz.prog 211 ⟨K⟩=K Kp:=qc bgF
theorem aAZ:Kp.kd=Kd.oth:=ID rfl
theorem aqj:Kp.kd.agg=false:=ID rfl
theorem akd:Kp.size=1:=ID rfl
theorem adN:Kp.bytes=8:=ID rfl
theorem aAX:qw Kp=True:=eq_true rfl
theorem aAY:zc Kp=[.v Value.nilFunc]:=ID rfl
theorem bdC{K:TI→Prop}:@tyW Tryz.prog 213 ⟨K⟩=K Ko:=qc bgE
theorem aAW:Ko.kd=Kd.oth:=ID rfl
theorem aqi:Ko.kd.agg=false:=ID rfl
theorem akc:Ko.size=1:=ID rfl
theorem adL:Ko.bytes=8:=ID rfl
theorem aAU:qw Ko=True:=eq_true rfl
theorem aAV:zc Ko=[.v Value.nilFunc]:=ID rfl
theorem bdB{K:TI→Prop}:@tyW Tryz.prog 214 ⟨K⟩=K Kn:=qc bgD
theorem aAT:Kn.kd=Kd.oth:=ID rfl
theorem aqh:Kn.kd.agg=false:=ID rfl
theorem akb:Kn.size=1:=ID rfl
theorem adK:Kn.bytes=8:=ID rfl
theorem aAR:qw Kn=True:=eq_true rfl
theorem aAS:zc Kn=[.v Value.nilFunc]:=ID rfl
theorem bdA{K:TI→Prop}:@tyW Tryz.prog 215 ⟨K⟩=K Km:=qc bgC
theorem aAQ:Km.kd=Kd.oth:=ID rfl
theorem aqg:Km.kd.agg=false:=ID rfl
theorem aka:Km.size=1:=ID rfl
theorem adJ:Km.bytes=8:=ID rfl
theorem aAO:qw Km=True:=eq_true rfl
theorem aAP:zc Km=[.v Value.nilFunc]:=ID rfl
theorem bdz{K:TI→Prop}:@tyW Tryz.prog 216 ⟨K⟩=K Kl:=qc bgB
theorem aAN:Kl.kd=Kd.oth:=ID rfl
theorem aqf:Kl.kd.agg=false:=ID rfl
theorem aj9:Kl.size=1:=ID rfl
theorem adI:Kl.bytes=8:=ID rfl
theorem aAL:qw Kl=True:=eq_true rfl
theorem aAM:zc Kl=[.v Value.nilFunc]:=ID rfl
theorem bdy{K:TI→Prop}:@tyW Tryz.prog 217 ⟨K⟩=K Kk:=qc bgA
theorem aAK:Kk.kd=Kd.oth:=ID rfl
theorem aqe:Kk.kd.agg=false:=ID rfl
theorem aj8:Kk.size=1:=ID rfl
theorem adH:Kk.bytes=8:=ID rfl
theorem aAI:qw Kk=True:=eq_true rfl
theorem aAJ:zc Kk=[.v Value.nilFunc]:=ID rfl
theorem bdx{K:TI→Prop}:@tyW Tryz.prog 218 ⟨K⟩=K Kj:=qc bgz
theorem aAH:Kj.kd=Kd.oth:=ID rfl
theorem aqd:Kj.kd.agg=false:=ID rfl
theorem aj7:Kj.size=1:=ID rfl
theorem adG:Kj.bytes=8:=ID rfl
theorem aAF:qw Kj=True:=eq_true rfl
theorem aAG:zc Kj=[.v Value.nilFunc]:=ID rfl
theorem bdw{K:TI→Prop}:@tyW Tryz.prog 219 ⟨K⟩=K Ki:=qc bgy
theorem aAE:Ki.kd=Kd.oth:=ID rfl
theorem aqc:Ki.kd.agg=false:=ID rfl
theorem aj6:Ki.size=1:=ID rfl
theorem adF:Ki.bytes=8:=ID rfl
theorem aAC:qw Ki=True:=eq_true rfl
theorem aAD:zc Ki=[.v Value.nilFunc]:=ID rfl
theorem bdv{K:TI→Prop}:@tyW Tryz.prog 220 ⟨K⟩=K Kh:=qc bgx
theorem aAA:Kh.kd=Kd.oth:=ID rfl
theorem aqa:Kh.kd.agg=false:=ID rfl
theorem aj4:Kh.size=1:=ID rfl
theorem adE:Kh.bytes=8:=ID rfl
theorem aAy:qw Kh=True:=eq_true rfl
theorem aAz:zc Kh=[.v Value.nilFunc]:=ID rfl
theorem bdu{K:TI→Prop}:@tyW Tryz.prog 221 ⟨K⟩=K Kg:=qc bgw
theorem aAx:Kg.kd=Kd.oth:=ID rfl
theorem ap9:Kg.kd.agg=false:=ID rfl
theorem aj3:Kg.size=1:=ID rfl
theorem adD:Kg.bytes=8:=ID rfl
theorem aAv:qw Kg=True:=eq_true rfl
theorem aAw:zc Kg=[.v Value.nilFunc]:=ID rfl
theorem bdt{K:TI→Prop}:@tyW Tryz.prog 222 ⟨K⟩=K Kf:=qc bgv
theorem aAu:Kf.kd=Kd.oth:=ID rfl
theorem ap8:Kf.kd.agg=false:=ID rfl
theorem aj2:Kf.size=1:=ID rfl
theorem adC:Kf.bytes=8:=ID rfl
theorem aAs:qw Kf=True:=eq_true rfl
theorem aAt:zc Kf=[.v Value.nilFunc]:=ID rfl
theorem bds{K:TI→Prop}:@tyW Tryz.prog 223 ⟨K⟩=K Ke:=qc bgu
theorem aAr:Ke.kd=Kd.oth:=ID rfl
theorem ap7:Ke.kd.agg=false:=ID rfl
theorem aj1:Ke.size=1:=ID rfl
theorem adB:Ke.bytes=8:=ID rfl
theorem aAp:qw Ke=True:=eq_true rfl
theorem aAq:zc Ke=[.v Value.nilFunc]:=ID rfl
theorem bdr{K:TI→Prop}:@tyW Tryz.prog 224 ⟨K⟩=K Kc:=qc bgt
theorem aAo:Kc.kd=Kd.oth:=ID rfl
theorem ap6:Kc.kd.agg=false:=ID rfl
theorem aj0:Kc.size=1:=ID rfl
theorem adA:Kc.bytes=8:=ID rfl
theorem aAm:qw Kc=True:=eq_true rfl
theorem aAn:zc Kc=[.v Value.nilFunc]:=ID rfl
theorem bdq{K:TI→Prop}:@tyW Tryz.prog 225 ⟨K⟩=K Ka:=qc bgs
theorem aAl:Ka.kd=Kd.oth:=ID rfl
theorem ap5:Ka.kd.agg=false:=ID rfl
theorem ajZ:Ka.size=1:=ID rfl
theorem adz:Ka.bytes=8:=ID rfl
theorem aAj:qw Ka=True:=eq_true rfl
theorem aAk:zc Ka=[.v Value.nilFunc]:=ID rfl
theorem bdp{K:TI→Prop}:@tyW Tryz.prog 226 ⟨K⟩=K V9:=qc bgr
theorem aAi:V9.kd=Kd.oth:=ID rfl
theorem ap4:V9.kd.agg=false:=ID rfl
theorem ajY:V9.size=1:=ID rfl
theorem ady:V9.bytes=8:=ID rfl
theorem aAg:qw V9=True:=eq_true rfl
theorem aAh:zc V9=[.v Value.nilFunc]:=ID rfl
theorem bdo{K:TI→Prop}:@tyW Tryz.prog 227 ⟨K⟩=K V8:=qc bgq
theorem aAf:V8.kd=Kd.oth:=ID rfl
theorem ap3:V8.kd.agg=false:=ID rfl
theorem ajX:V8.size=1:=ID rfl
theorem adx:V8.bytes=8:=ID rfl
theorem aAd:qw V8=True:=eq_true rfl
theorem aAe:zc V8=[.v Value.nilFunc]:=ID rfl
theorem bdn{K:TI→Prop}:@tyW Tryz.prog 228 ⟨K⟩=K V7:=qc bgp
theorem aAc:V7.kd=Kd.oth:=ID rfl
theorem ap2:V7.kd.agg=false:=ID rfl
theorem ajW:V7.size=1:=ID rfl
theorem adw:V7.bytes=8:=ID rfl
theorem aAa:qw V7=True:=eq_true rfl
theorem aAb:zc V7=[.v Value.nilFunc]:=ID rfl
theorem bdm{K:TI→Prop}:@tyW Tryz.prog 229 ⟨K⟩=K V6:=qc bgo
theorem az9:V6.kd=Kd.oth:=ID rfl
theorem ap1:V6.kd.agg=false:=ID rfl
theorem ajV:V6.size=1:=ID rfl
theorem adv:V6.bytes=8:=ID rfl
theorem az7:qw V6=True:=eq_true rfl
theorem az8:zc V6=[.v Value.nilFunc]:=ID rfl
theorem bdl{K:TI→Prop}:@tyW Tryz.prog 230 ⟨K⟩=K V5:=qc bgn
theorem az5:V5.kd=Kd.oth:=ID rfl
theorem apZ:V5.kd.agg=false:=ID rfl
theorem ajT:V5.size=1:=ID rfl
theorem adu:V5.bytes=8:=ID rfl
theorem az3:qw V5=True:=eq_true rfl
theorem az4:zc V5=[.v Value.nilFunc]:=ID rfl
theorem bdk{K:TI→Prop}:@tyW Tryz.prog 231 ⟨K⟩=K V4:=qc bgm
theorem az2:V4.kd=Kd.oth:=ID rfl
theorem apY:V4.kd.agg=false:=ID rfl
theorem ajS:V4.size=1:=ID rfl
theorem adt:V4.bytes=8:=ID rfl
theorem az0:qw V4=True:=eq_true rfl
theorem az1:zc V4=[.v Value.nilFunc]:=ID rfl
theorem bdj{K:TI→Prop}:@tyW Tryz.prog 233 ⟨K⟩=K V3:=qc bgl
theorem azZ:V3.kd=Kd.oth:=ID rfl
theorem apX:V3.kd.agg=false:=ID rfl
theorem ajR:V3.size=1:=ID rfl
theorem ads:V3.bytes=8:=ID rfl
theorem azX:qw V3=True:=eq_true rfl
theorem azY:zc V3=[.v Value.nilFunc]:=ID rfl
theorem bdi{K:TI→Prop}:@tyW Tryz.prog 234 ⟨K⟩=K V2:=qc bgk
theorem azW:V2.kd=Kd.oth:=ID rfl
theorem apW:V2.kd.agg=false:=ID rfl
theorem ajQ:V2.size=1:=ID rfl
theorem adr:V2.bytes=8:=ID rfl
theorem azU:qw V2=True:=eq_true rfl
theorem azV:zc V2=[.v Value.nilFunc]:=ID rfl
theorem bdh{K:TI→Prop}:@tyW Tryz.prog 235 ⟨K⟩=K V1:=qc bgj
theorem azT:V1.kd=Kd.oth:=ID rfl
theorem apV:V1.kd.agg=false:=ID rfl
theorem ajP:V1.size=1:=ID rfl
theorem adq:V1.bytes=8:=ID rfl
theorem azR:qw V1=True:=eq_true rfl
theorem azS:zc V1=[.v Value.nilFunc]:=ID rfl
theorem bdg{K:TI→Prop}:@tyW Tryz.prog 236 ⟨K⟩=K V0:=qc bgi
theorem azQ:V0.kd=Kd.oth:=ID rfl
theorem apU:V0.kd.agg=false:=ID rfl
theorem ajO:V0.size=1:=ID rfl
theorem adp:V0.bytes=8:=ID rfl
theorem azO:qw V0=True:=eq_true rfl
theorem azP:zc V0=[.v Value.nilFunc]:=ID rfl
theorem bdf{K:TI→Prop}:@tyW Tryz.prog 237 ⟨K⟩=K VZ:=qc bgh
theorem azN:VZ.kd=Kd.oth:=ID rfl
theorem apT:VZ.kd.agg=false:=ID rfl
theorem ajN:VZ.size=1:=ID rfl
theorem ado:VZ.bytes=8:=ID rfl
theorem azL:qw VZ=True:=eq_true rfl
theorem azM:zc VZ=[.v Value.nilFunc]:=ID rfl
theorem bde{K:TI→Prop}:@tyW Tryz.prog 238 ⟨K⟩=K VY:=qc bgg
theorem azK:VY.kd=Kd.oth:=ID rfl
theorem apS:VY.kd.agg=false:=ID rfl
theorem ajM:VY.size=1:=ID rfl
theorem adn:VY.bytes=8:=ID rfl
theorem azI:qw VY=True:=eq_true rfl
theorem azJ:zc VY=[.v Value.nilFunc]:=ID rfl
theorem bdd{K:TI→Prop}:@tyW Tryz.prog 239 ⟨K⟩=K VX:=qc bgf
theorem azH:VX.kd=Kd.oth:=ID rfl
theorem apR:VX.kd.agg=false:=ID rfl
theorem ajL:VX.size=1:=ID rfl
theorem adm:VX.bytes=8:=ID rfl
theorem azF:qw VX=True:=eq_true rfl
theorem azG:zc VX=[.v Value.nilFunc]:=ID rfl
theorem bdc{K:TI→Prop}:@tyW Tryz.prog 240 ⟨K⟩=K VW:=qc bge
theorem azD:VW.kd=Kd.oth:=ID rfl
theorem apO:VW.kd.agg=false:=ID rfl
theorem ajJ:VW.size=1:=ID rfl
theorem adl:VW.bytes=8:=ID rfl
theorem azB:qw VW=True:=eq_true rfl
theorem azC:zc VW=[.v Value.nilFunc]:=ID rfl
theorem bdb{K:TI→Prop}:@tyW Tryz.prog 241 ⟨K⟩=K VV:=qc bgd
theorem azA:VV.kd=Kd.oth:=ID rfl
theorem apN:VV.kd.agg=false:=ID rfl
theorem ajI:VV.size=1:=ID rfl
theorem adk:VV.bytes=8:=ID rfl
theorem azy:qw VV=True:=eq_true rfl
theorem azz:zc VV=[.v Value.nilFunc]:=ID rfl
theorem bda{K:TI→Prop}:@tyW Tryz.prog 242 ⟨K⟩=K VU:=qc bgc
theorem azx:VU.kd=Kd.oth:=ID rfl
theorem apM:VU.kd.agg=false:=ID rfl
theorem ajH:VU.size=1:=ID rfl
theorem adj:VU.bytes=8:=ID rfl
theorem azv:qw VU=True:=eq_true rfl
theorem azw:zc VU=[.v Value.nilFunc]:=ID rfl
theorem bc9{K:TI→Prop}:@tyW Tryz.prog 243 ⟨K⟩=K VT:=qc bgb
theorem azu:VT.kd=Kd.oth:=ID rfl
theorem apL:VT.kd.agg=false:=ID rfl
theorem ajG:VT.size=1:=ID rfl
theorem adi:VT.bytes=8:=ID rfl
theorem azs:qw VT=True:=eq_true rfl
theorem azt:zc VT=[.v Value.nilFunc]:=ID rfl
theorem bc8{K:TI→Prop}:@tyW Tryz.prog 244 ⟨K⟩=K VS:=qc bga
theorem azr:VS.kd=Kd.oth:=ID rfl
theorem apK:VS.kd.agg=false:=ID rfl
theorem ajF:VS.size=1:=ID rfl
theorem adh:VS.bytes=8:=ID rfl
theorem azp:qw VS=True:=eq_true rfl
theorem azq:zc VS=[.v Value.nilFunc]:=ID rfl
theorem bc7{K:TI→Prop}:@tyW Tryz.prog 245 ⟨K⟩=K VR:=qc bf9
theorem azo:VR.kd=Kd.oth:=ID rfl
theorem apJ:VR.kd.agg=false:=ID rfl
theorem ajE:VR.size=1:=ID rfl
theorem adg:VR.bytes=8:=ID rfl
theorem azm:qw VR=True:=eq_true rfl
theorem azn:zc VR=[.v Value.nilFunc]:=ID rfl
theorem bc6{K:TI→Prop}:@tyW Tryz.prog 246 ⟨K⟩=K VQ:=qc bf8
theorem azl:VQ.kd=Kd.oth:=ID rfl
theorem apI:VQ.kd.agg=false:=ID rfl
theorem ajD:VQ.size=1:=ID rfl
theorem adf:VQ.bytes=8:=ID rfl
theorem azj:qw VQ=True:=eq_true rfl
theorem azk:zc VQ=[.v Value.nilFunc]:=ID rfl
theorem bc5{K:TI→Prop}:@tyW Tryz.prog 247 ⟨K⟩=K VP:=qc bf7
theorem azi:VP.kd=Kd.oth:=ID rfl
theorem apH:VP.kd.agg=false:=ID rfl
theorem ajC:VP.size=1:=ID rfl
theorem ade:VP.bytes=8:=ID rfl
theorem azg:qw VP=True:=eq_true rfl
theorem azh:zc VP=[.v Value.nilFunc]:=ID rfl
theorem bc4{K:TI→Prop}:@tyW Tryz.prog 248 ⟨K⟩=K VO:=qc bf6
theorem azf:VO.kd=Kd.oth:=ID rfl
theorem apG:VO.kd.agg=false:=ID rfl
theorem ajB:VO.size=1:=ID rfl
theorem adc:VO.bytes=8:=ID rfl
theorem azd:qw VO=True:=eq_true rfl
theorem aze:zc VO=[.v Value.nilFunc]:=ID rfl
theorem bc3{K:TI→Prop}:@tyW Tryz.prog 250 ⟨K⟩=K VN:=qc bf5
theorem azb:VN.kd=Kd.oth:=ID rfl
theorem apC:VN.kd.agg=false:=ID rfl
theorem ajz:VN.size=1:=ID rfl
theorem adb:VN.bytes=8:=ID rfl
theorem ay9:qw VN=True:=eq_true rfl
theorem aza:zc VN=[.v Value.nilFunc]:=ID rfl
theorem bc2{K:TI→Prop}:@tyW Tryz.prog 252 ⟨K⟩=K VM:=qc bf4
theorem ay8:VM.kd=Kd.oth:=ID rfl
theorem apB:VM.kd.agg=false:=ID rfl
theorem ajy:VM.size=1:=ID rfl
theorem ada:VM.bytes=8:=ID rfl
theorem ay6:qw VM=True:=eq_true rfl
theorem ay7:zc VM=[.v Value.nilFunc]:=ID rfl
theorem bc1{K:TI→Prop}:@tyW Tryz.prog 253 ⟨K⟩=K VL:=qc bf3
theorem ay5:VL.kd=Kd.oth:=ID rfl
theorem apA:VL.kd.agg=false:=ID rfl
theorem ajx:VL.size=1:=ID rfl
theorem ac9:VL.bytes=8:=ID rfl
theorem ay3:qw VL=True:=eq_true rfl
theorem ay4:zc VL=[.v Value.nilFunc]:=ID rfl
theorem bc0{K:TI→Prop}:@tyW Tryz.prog 254 ⟨K⟩=K VK:=qc bf2
theorem ay2:VK.kd=Kd.oth:=ID rfl
theorem apz:VK.kd.agg=false:=ID rfl
theorem ajw:VK.size=1:=ID rfl
theorem ac8:VK.bytes=8:=ID rfl
theorem ay0:qw VK=True:=eq_true rfl
theorem ay1:zc VK=[.v Value.nilFunc]:=ID rfl
theorem bcZ{K:TI→Prop}:@tyW Tryz.prog 255 ⟨K⟩=K VJ:=qc bf1
theorem ayZ:VJ.kd=Kd.oth:=ID rfl
theorem apy:VJ.kd.agg=false:=ID rfl
theorem ajv:VJ.size=1:=ID rfl
theorem ac7:VJ.bytes=8:=ID rfl
theorem ayX:qw VJ=True:=eq_true rfl
theorem ayY:zc VJ=[.v Value.nilFunc]:=ID rfl
theorem bcY{K:TI→Prop}:@tyW Tryz.prog 256 ⟨K⟩=K VI:=qc bf0
theorem ayW:VI.kd=Kd.oth:=ID rfl
theorem apx:VI.kd.agg=false:=ID rfl
theorem aju:VI.size=1:=ID rfl
theorem ac6:VI.bytes=8:=ID rfl
theorem ayU:qw VI=True:=eq_true rfl
theorem ayV:zc VI=[.v Value.nilFunc]:=ID rfl
theorem bcX{K:TI→Prop}:@tyW Tryz.prog 257 ⟨K⟩=K VH:=qc bfZ
theorem ayT:VH.kd=Kd.oth:=ID rfl
theorem apw:VH.kd.agg=false:=ID rfl
theorem ajt:VH.size=1:=ID rfl
theorem ac5:VH.bytes=8:=ID rfl
theorem ayR:qw VH=True:=eq_true rfl
theorem ayS:zc VH=[.v Value.nilFunc]:=ID rfl
theorem bcW{K:TI→Prop}:@tyW Tryz.prog 258 ⟨K⟩=K VG:=qc bfY
theorem ayQ:VG.kd=Kd.oth:=ID rfl
theorem apv:VG.kd.agg=false:=ID rfl
theorem ajs:VG.size=1:=ID rfl
theorem ac4:VG.bytes=8:=ID rfl
theorem ayO:qw VG=True:=eq_true rfl
theorem ayP:zc VG=[.v Value.nilFunc]:=ID rfl
theorem bcV{K:TI→Prop}:@tyW Tryz.prog 259 ⟨K⟩=K VF:=qc bfX
theorem ayN:VF.kd=Kd.oth:=ID rfl
theorem apu:VF.kd.agg=false:=ID rfl
theorem ajr:VF.size=1:=ID rfl
theorem ac3:VF.bytes=8:=ID rfl
theorem ayL:qw VF=True:=eq_true rfl
theorem ayM:zc VF=[.v Value.nilFunc]:=ID rfl
theorem bcU{K:TI→Prop}:@tyW Tryz.prog 260 ⟨K⟩=K VE:=qc bfW
theorem ayJ:VE.kd=Kd.oth:=ID rfl
theorem apr:VE.kd.agg=false:=ID rfl
theorem ajp:VE.size=1:=ID rfl
theorem ac2:VE.bytes=8:=ID rfl
theorem ayH:qw VE=True:=eq_true rfl
theorem ayI:zc VE=[.v Value.nilFunc]:=ID rfl
theorem bcT{K:TI→Prop}:@tyW Tryz.prog 261 ⟨K⟩=K VD:=qc bfV
theorem ayG:VD.kd=Kd.oth:=ID rfl
theorem apq:VD.kd.agg=false:=ID rfl
theorem ajo:VD.size=1:=ID rfl
theorem ac1:VD.bytes=8:=ID rfl
theorem ayE:qw VD=True:=eq_true rfl
theorem ayF:zc VD=[.v Value.nilFunc]:=ID rfl
theorem bcS{K:TI→Prop}:@tyW Tryz.prog 262 ⟨K⟩=K VC:=qc bfU
theorem ayD:VC.kd=Kd.oth:=ID rfl
theorem app:VC.kd.agg=false:=ID rfl
theorem ajn:VC.size=1:=ID rfl
theorem ac0:VC.bytes=8:=ID rfl
theorem ayB:qw VC=True:=eq_true rfl
theorem ayC:zc VC=[.v Value.nilFunc]:=ID rfl
theorem bcR{K:TI→Prop}:@tyW Tryz.prog 263 ⟨K⟩=K VB:=qc bfT
theorem ayA:VB.kd=Kd.oth:=ID rfl
theorem apo:VB.kd.agg=false:=ID rfl
theorem ajm:VB.size=1:=ID rfl
theorem acZ:VB.bytes=8:=ID rfl
theorem ayy:qw VB=True:=eq_true rfl
theorem ayz:zc VB=[.v Value.nilFunc]:=ID rfl
theorem bcQ{K:TI→Prop}:@tyW Tryz.prog 264 ⟨K⟩=K VA:=qc bfS
theorem ayx:VA.kd=Kd.int IntKind.u64:=ID rfl
theorem apn:VA.kd.agg=false:=ID rfl
theorem ajl:VA.size=1:=ID rfl
theorem acY:VA.bytes=8:=ID rfl
theorem ayv:qw VA=True:=eq_true rfl
theorem ayw:zc VA=[.v (Value.int IntKind.u64 0)]:=ID rfl
theorem bcP{K:TI→Prop}:@tyW Tryz.prog 265 ⟨K⟩=K Vz:=qc bfR
theorem ayu:Vz.kd=Kd.oth:=ID rfl
theorem apm:Vz.kd.agg=false:=ID rfl
theorem ajk:Vz.size=1:=ID rfl
theorem acX:Vz.bytes=8:=ID rfl
theorem ays:qw Vz=True:=eq_true rfl
theorem ayt:zc Vz=[.v Value.nilFunc]:=ID rfl
theorem bcO{K:TI→Prop}:@tyW Tryz.prog 266 ⟨K⟩=K Vy:=qc bfQ
theorem ayr:Vy.kd=Kd.oth:=ID rfl
theorem apl:Vy.kd.agg=false:=ID rfl
theorem ajj:Vy.size=1:=ID rfl
theorem acW:Vy.bytes=8:=ID rfl
theorem ayp:qw Vy=True:=eq_true rfl
theorem ayq:zc Vy=[.v Value.nilFunc]:=ID rfl
theorem bcN{K:TI→Prop}:@tyW Tryz.prog 267 ⟨K⟩=K Vx:=qc bfP
theorem ayo:Vx.kd=Kd.oth:=ID rfl
theorem apk:Vx.kd.agg=false:=ID rfl
theorem aji:Vx.size=1:=ID rfl
theorem acV:Vx.bytes=8:=ID rfl
theorem aym:qw Vx=True:=eq_true rfl
theorem ayn:zc Vx=[.v Value.nilFunc]:=ID rfl
theorem bcM{K:TI→Prop}:@tyW Tryz.prog 269 ⟨K⟩=K Vw:=qc bfO
theorem ayl:Vw.kd=Kd.oth:=ID rfl
theorem apj:Vw.kd.agg=false:=ID rfl
theorem ajh:Vw.size=1:=ID rfl
theorem acU:Vw.bytes=8:=ID rfl
theorem ayj:qw Vw=True:=eq_true rfl
theorem ayk:zc Vw=[.v Value.nilFunc]:=ID rfl
theorem bcL{K:TI→Prop}:@tyW Tryz.prog 271 ⟨K⟩=K Vv:=qc bfN
theorem ayi:Vv.kd=Kd.oth:=ID rfl
theorem api:Vv.kd.agg=false:=ID rfl
theorem ajg:Vv.size=1:=ID rfl
theorem acT:Vv.bytes=8:=ID rfl
theorem ayg:qw Vv=True:=eq_true rfl
theorem ayh:zc Vv=[.v Value.nilFunc]:=ID rfl
theorem bcK{K:TI→Prop}:@tyW Tryz.prog 273 ⟨K⟩=K Vu:=qc bfM
theorem ayf:Vu.kd=Kd.oth:=ID rfl
theorem aph:Vu.kd.agg=false:=ID rfl
theorem ajf:Vu.size=1:=ID rfl
theorem acS:Vu.bytes=8:=ID rfl
theorem ayd:qw Vu=True:=eq_true rfl
theorem aye:zc Vu=[.v Value.nilFunc]:=ID rfl
theorem bcJ{K:TI→Prop}:@tyW Tryz.prog 274 ⟨K⟩=K Vt:=qc bfL
theorem ayc:Vt.kd=Kd.oth:=ID rfl
theorem apg:Vt.kd.agg=false:=ID rfl
theorem aje:Vt.size=1:=ID rfl
theorem acR:Vt.bytes=8:=ID rfl
theorem aya:qw Vt=True:=eq_true rfl
theorem ayb:zc Vt=[.v Value.nilFunc]:=ID rfl
theorem bcI{K:TI→Prop}:@tyW Tryz.prog 275 ⟨K⟩=K Vs:=qc bfK
theorem ax9:Vs.kd=Kd.int IntKind.u32:=ID rfl
theorem apf:Vs.kd.agg=false:=ID rfl
theorem ajd:Vs.size=1:=ID rfl
theorem acQ:Vs.bytes=4:=ID rfl
theorem ax7:qw Vs=True:=eq_true rfl
theorem ax8:zc Vs=[.v (Value.int IntKind.u32 0)]:=ID rfl
theorem bcH{K:TI→Prop}:@tyW Tryz.prog 276 ⟨K⟩=K Vr:=qc bfJ
theorem ax6:Vr.kd=Kd.oth:=ID rfl
theorem ape:Vr.kd.agg=false:=ID rfl
theorem ajc:Vr.size=1:=ID rfl
theorem acP:Vr.bytes=8:=ID rfl
theorem ax4:qw Vr=True:=eq_true rfl
theorem ax5:zc Vr=[.v Value.nilFunc]:=ID rfl
theorem bcG{K:TI→Prop}:@tyW Tryz.prog 277 ⟨K⟩=K Vq:=qc bfI
theorem ax3:Vq.kd=Kd.int IntKind.u64:=ID rfl
theorem apd:Vq.kd.agg=false:=ID rfl
theorem ajb:Vq.size=1:=ID rfl
theorem acO:Vq.bytes=8:=ID rfl
theorem ax1:qw Vq=True:=eq_true rfl
theorem ax2:zc Vq=[.v (Value.int IntKind.u64 0)]:=ID rfl
theorem bcF{K:TI→Prop}:@tyW Tryz.prog 278 ⟨K⟩=K Vp:=qc bfH
theorem ax0:Vp.kd=Kd.oth:=ID rfl
theorem apc:Vp.kd.agg=false:=ID rfl
theorem aja:Vp.size=1:=ID rfl
theorem acN:Vp.bytes=8:=ID rfl
theorem axY:qw Vp=True:=eq_true rfl
theorem axZ:zc Vp=[.v Value.nilFunc]:=ID rfl
theorem bcE{K:TI→Prop}:@tyW Tryz.prog 279 ⟨K⟩=K Vo:=qc bfG
theorem axX:Vo.kd=Kd.oth:=ID rfl
theorem apb:Vo.kd.agg=false:=ID rfl
theorem ai9:Vo.size=1:=ID rfl
theorem acM:Vo.bytes=8:=ID rfl
theorem axV:qw Vo=True:=eq_true rfl
theorem axW:zc Vo=[.v Value.nilFunc]:=ID rfl
theorem bcD{K:TI→Prop}:@tyW Tryz.prog 281 ⟨K⟩=K Vn:=qc bfF
theorem axT:Vn.kd=Kd.oth:=ID rfl
theorem ao9:Vn.kd.agg=false:=ID rfl
theorem ai7:Vn.size=1:=ID rfl
theorem acL:Vn.bytes=8:=ID rfl
theorem axR:qw Vn=True:=eq_true rfl
theorem axS:zc Vn=[.v Value.nilFunc]:=ID rfl
theorem bcC{K:TI→Prop}:@tyW Tryz.prog 282 ⟨K⟩=K Vm:=qc bfE
theorem axQ:Vm.kd=Kd.oth:=ID rfl
theorem ao8:Vm.kd.agg=false:=ID rfl
theorem ai6:Vm.size=1:=ID rfl
theorem acK:Vm.bytes=8:=ID rfl
theorem axO:qw Vm=True:=eq_true rfl
theorem axP:zc Vm=[.v Value.nilFunc]:=ID rfl
theorem bcB{K:TI→Prop}:@tyW Tryz.prog 283 ⟨K⟩=K Vl:=qc bfD
theorem axN:Vl.kd=Kd.oth:=ID rfl
theorem ao7:Vl.kd.agg=false:=ID rfl
theorem ai5:Vl.size=1:=ID rfl
theorem acJ:Vl.bytes=8:=ID rfl
theorem axL:qw Vl=True:=eq_true rfl
theorem axM:zc Vl=[.v Value.nilFunc]:=ID rfl
theorem bcA{K:TI→Prop}:@tyW Tryz.prog 287 ⟨K⟩=K Vk:=qc bfC
theorem axK:Vk.kd=Kd.oth:=ID rfl
theorem ao6:Vk.kd.agg=false:=ID rfl
theorem ai4:Vk.size=1:=ID rfl
theorem acI:Vk.bytes=8:=ID rfl
theorem axI:qw Vk=True:=eq_true rfl
theorem axJ:zc Vk=[.v Value.nilFunc]:=ID rfl
theorem bcz{K:TI→Prop}:@tyW Tryz.prog 288 ⟨K⟩=K Vj:=qc bfB
theorem axH:Vj.kd=Kd.oth:=ID rfl
theorem ao5:Vj.kd.agg=false:=ID rfl
theorem ai3:Vj.size=1:=ID rfl
theorem acH:Vj.bytes=8:=ID rfl
theorem axF:qw Vj=True:=eq_true rfl
theorem axG:zc Vj=[.v Value.nilFunc]:=ID rfl
theorem bcy{K:TI→Prop}:@tyW Tryz.prog 289 ⟨K⟩=K Vi:=qc bfA
theorem axE:Vi.kd=Kd.oth:=ID rfl
theorem ao4:Vi.kd.agg=false:=ID rfl
theorem ai2:Vi.size=1:=ID rfl
theorem acG:Vi.bytes=8:=ID rfl
theorem axC:qw Vi=True:=eq_true rfl
theorem axD:zc Vi=[.v Value.nilFunc]:=ID rfl
theorem bcx{K:TI→Prop}:@tyW Tryz.prog 290 ⟨K⟩=K Vh:=qc bfz
theorem axA:Vh.kd=Kd.oth:=ID rfl
theorem ao1:Vh.kd.agg=false:=ID rfl
theorem ai0:Vh.size=1:=ID rfl
theorem acF:Vh.bytes=8:=ID rfl
theorem axy:qw Vh=True:=eq_true rfl
theorem axz:zc Vh=[.v Value.nilFunc]:=ID rfl
theorem bcw{K:TI→Prop}:@tyW Tryz.prog 291 ⟨K⟩=K Vg:=qc bfy
theorem axx:Vg.kd=Kd.oth:=ID rfl
theorem ao0:Vg.kd.agg=false:=ID rfl
theorem aiZ:Vg.size=1:=ID rfl
theorem acE:Vg.bytes=8:=ID rfl
theorem axv:qw Vg=True:=eq_true rfl
theorem axw:zc Vg=[.v Value.nilFunc]:=ID rfl
theorem bcv{K:TI→Prop}:@tyW Tryz.prog 295 ⟨K⟩=K Vf:=qc bfx
theorem axu:Vf.kd=Kd.stru [(0,294)]:=ID rfl
theorem aoZ:Vf.kd.agg=true:=ID rfl
theorem aiY:Vf.size=0:=ID rfl
theorem acD:Vf.bytes=0:=ID rfl
theorem axs:qw Vf=True:=eq_true rfl
theorem axt:zc Vf=[]:=ID rfl
theorem bcu{K:TI→Prop}:@tyW Tryz.prog 296 ⟨K⟩=K Ve:=qc bfw
theorem axr:Ve.kd=Kd.stru [(0,294)]:=ID rfl
theorem aoY:Ve.kd.agg=true:=ID rfl
theorem aiX:Ve.size=0:=ID rfl
theorem acC:Ve.bytes=0:=ID rfl
theorem axp:qw Ve=True:=eq_true rfl
theorem axq:zc Ve=[]:=ID rfl
theorem bct{K:TI→Prop}:@tyW Tryz.prog 297 ⟨K⟩=K Vd:=qc bfv
theorem axo:Vd.kd=Kd.int IntKind.u8:=ID rfl
theorem aoX:Vd.kd.agg=false:=ID rfl
theorem aiW:Vd.size=1:=ID rfl
theorem acB:Vd.bytes=1:=ID rfl
theorem axm:qw Vd=True:=eq_true rfl
theorem axn:zc Vd=[.v (Value.int IntKind.u8 0)]:=ID rfl
theorem bcs{K:TI→Prop}:@tyW Tryz.prog 298 ⟨K⟩=K Vc:=qc bfu
theorem axl:Vc.kd=Kd.int IntKind.u8:=ID rfl
theorem aoW:Vc.kd.agg=false:=ID rfl
theorem aiV:Vc.size=1:=ID rfl
theorem acA:Vc.bytes=1:=ID rfl
theorem axj:qw Vc=True:=eq_true rfl
theorem axk:zc Vc=[.v (Value.int IntKind.u8 0)]:=ID rfl
theorem bcr{K:TI→Prop}:@tyW Tryz.prog 299 ⟨K⟩=K Vb:=qc bft
theorem axi:Vb.kd=Kd.oth:=ID rfl
theorem aoV:Vb.kd.agg=false:=ID rfl
theorem aiU:Vb.size=1:=ID rfl
theorem acz:Vb.bytes=8:=ID rfl
theorem axg:qw Vb=True:=eq_true rfl
theorem axh:zc Vb=[.v Value.nilFunc]:=ID rfl
theorem bcq{K:TI→Prop}:@tyW Tryz.prog 301 ⟨K⟩=K Va:=qc bfs
theorem axd:Va.kd=Kd.int IntKind.i32:=ID rfl
theorem aoR:Va.kd.agg=false:=ID rfl
theorem aiS:Va.size=1:=ID rfl
theorem acy:Va.bytes=4:=ID rfl
theorem axb:qw Va=True:=eq_true rfl
theorem axc:zc Va=[.v (Value.int IntKind.i32 0)]:=ID rfl
theorem bcp{K:TI→Prop}:@tyW Tryz.prog 302 ⟨K⟩=K X9:=qc bfr
theorem axa:X9.kd=Kd.int IntKind.i32:=ID rfl
theorem aoQ:X9.kd.agg=false:=ID rfl
theorem aiR:X9.size=1:=ID rfl
theorem acx:X9.bytes=4:=ID rfl
theorem aw8:qw X9=True:=eq_true rfl
theorem aw9:zc X9=[.v (Value.int IntKind.i32 0)]:=ID rfl
theorem bco{K:TI→Prop}:@tyW Tryz.prog 305 ⟨K⟩=K X8:=qc bfq
theorem aw7:X8.kd=Kd.oth:=ID rfl
theorem aoP:X8.kd.agg=false:=ID rfl
theorem aiQ:X8.size=1:=ID rfl
theorem acw:X8.bytes=8:=ID rfl
theorem aw5:qw X8=True:=eq_true rfl
theorem aw6:zc X8=[.v Value.nilFunc]:=ID rfl
theorem bcn{K:TI→Prop}:@tyW Tryz.prog 306 ⟨K⟩=K X7:=qc bfp
theorem aw4:X7.kd=Kd.oth:=ID rfl
theorem aoO:X7.kd.agg=false:=ID rfl
theorem aiP:X7.size=1:=ID rfl
theorem acv:X7.bytes=8:=ID rfl
theorem aw2:qw X7=True:=eq_true rfl
theorem aw3:zc X7=[.v Value.nilFunc]:=ID rfl
theorem bn1:qo Tryz.prog 2=True:=eq_true ⟨_,Tryz.func2,of_decide_eq_false (by kernel_rfl),rfl⟩
theorem bn0:qo Tryz.prog 3=True:=eq_true ⟨_,Tryz.func3,of_decide_eq_false (by kernel_rfl),rfl⟩
theorem bnZ:qo Tryz.prog 4=True:=eq_true ⟨_,Tryz.func4,of_decide_eq_false (by kernel_rfl),rfl⟩
theorem bnY:qo Tryz.prog 5=True:=eq_true ⟨_,Tryz.func5,of_decide_eq_false (by kernel_rfl),rfl⟩
theorem bnX:qo Tryz.prog 6=True:=eq_true ⟨_,Tryz.func6,of_decide_eq_false (by kernel_rfl),rfl⟩
theorem bnW:qo Tryz.prog 7=True:=eq_true ⟨_,Tryz.func7,of_decide_eq_false (by kernel_rfl),rfl⟩
theorem bnV:qo Tryz.prog 8=True:=eq_true ⟨_,Tryz.func8,of_decide_eq_false (by kernel_rfl),rfl⟩
theorem bnU:qo Tryz.prog 9=True:=eq_true ⟨_,Tryz.func9,of_decide_eq_false (by kernel_rfl),rfl⟩
theorem bku:qo Tryz.prog 10=True:=eq_true ⟨_,Tryz.func10,of_decide_eq_false (by kernel_rfl),rfl⟩
theorem bkt:qo Tryz.prog 11=True:=eq_true ⟨_,Tryz.func11,of_decide_eq_false (by kernel_rfl),rfl⟩
theorem bks:qo Tryz.prog 12=True:=eq_true ⟨_,Tryz.func12,of_decide_eq_false (by kernel_rfl),rfl⟩
theorem bkr:qo Tryz.prog 13=True:=eq_true ⟨_,Tryz.func13,of_decide_eq_false (by kernel_rfl),rfl⟩
theorem bkq:qo Tryz.prog 14=True:=eq_true ⟨_,Tryz.func14,of_decide_eq_false (by kernel_rfl),rfl⟩
theorem bkp:qo Tryz.prog 15=True:=eq_true ⟨_,Tryz.func15,of_decide_eq_false (by kernel_rfl),rfl⟩
theorem bko:qo Tryz.prog 16=True:=eq_true ⟨_,Tryz.func16,of_decide_eq_false (by kernel_rfl),rfl⟩
theorem bkn:qo Tryz.prog 17=True:=eq_true ⟨_,Tryz.func17,of_decide_eq_false (by kernel_rfl),rfl⟩
theorem bkm:qo Tryz.prog 18=True:=eq_true ⟨_,Tryz.func18,of_decide_eq_false (by kernel_rfl),rfl⟩
theorem bkl:qo Tryz.prog 19=True:=eq_true ⟨_,Tryz.func19,of_decide_eq_false (by kernel_rfl),rfl⟩
theorem bkk:qo Tryz.prog 20=True:=eq_true ⟨_,Tryz.func20,of_decide_eq_false (by kernel_rfl),rfl⟩
theorem bkj:qo Tryz.prog 21=True:=eq_true ⟨_,Tryz.func21,of_decide_eq_false (by kernel_rfl),rfl⟩
theorem bki:qo Tryz.prog 22=True:=eq_true ⟨_,Tryz.func22,of_decide_eq_false (by kernel_rfl),rfl⟩
theorem bkh:qo Tryz.prog 23=True:=eq_true ⟨_,Tryz.func23,of_decide_eq_false (by kernel_rfl),rfl⟩
theorem bkg:qo Tryz.prog 24=True:=eq_true ⟨_,Tryz.func24,of_decide_eq_false (by kernel_rfl),rfl⟩
theorem bkf:qo Tryz.prog 25=True:=eq_true ⟨_,Tryz.func25,of_decide_eq_false (by kernel_rfl),rfl⟩
theorem bke:qo Tryz.prog 26=True:=eq_true ⟨_,Tryz.func26,of_decide_eq_false (by kernel_rfl),rfl⟩
theorem bkd:qo Tryz.prog 27=True:=eq_true ⟨_,Tryz.func27,of_decide_eq_false (by kernel_rfl),rfl⟩
theorem bkc:qo Tryz.prog 28=True:=eq_true ⟨_,Tryz.func28,of_decide_eq_false (by kernel_rfl),rfl⟩
theorem bkb:qo Tryz.prog 29=True:=eq_true ⟨_,Tryz.func29,of_decide_eq_false (by kernel_rfl),rfl⟩
theorem bka:qo Tryz.prog 30=True:=eq_true ⟨_,Tryz.func30,of_decide_eq_false (by kernel_rfl),rfl⟩
theorem bj9:qo Tryz.prog 31=True:=eq_true ⟨_,Tryz.func31,of_decide_eq_false (by kernel_rfl),rfl⟩
theorem bj8:qo Tryz.prog 32=True:=eq_true ⟨_,Tryz.func32,of_decide_eq_false (by kernel_rfl),rfl⟩
theorem bj7:qo Tryz.prog 33=True:=eq_true ⟨_,Tryz.func33,of_decide_eq_false (by kernel_rfl),rfl⟩
theorem bj6:qo Tryz.prog 34=True:=eq_true ⟨_,Tryz.func34,of_decide_eq_false (by kernel_rfl),rfl⟩
theorem bj5:qo Tryz.prog 35=True:=eq_true ⟨_,Tryz.func35,of_decide_eq_false (by kernel_rfl),rfl⟩
theorem bj4:qo Tryz.prog 36=True:=eq_true ⟨_,Tryz.func36,of_decide_eq_false (by kernel_rfl),rfl⟩
theorem bj3:qo Tryz.prog 37=True:=eq_true ⟨_,Tryz.func37,of_decide_eq_false (by kernel_rfl),rfl⟩
theorem bj2:qo Tryz.prog 38=True:=eq_true ⟨_,Tryz.func38,of_decide_eq_false (by kernel_rfl),rfl⟩
theorem bj1:qo Tryz.prog 39=True:=eq_true ⟨_,Tryz.func39,of_decide_eq_false (by kernel_rfl),rfl⟩
theorem bj0:qo Tryz.prog 40=True:=eq_true ⟨_,Tryz.func40,of_decide_eq_false (by kernel_rfl),rfl⟩
theorem bjZ:qo Tryz.prog 41=True:=eq_true ⟨_,Tryz.func41,of_decide_eq_false (by kernel_rfl),rfl⟩
theorem bjY:qo Tryz.prog 42=True:=eq_true ⟨_,Tryz.func42,of_decide_eq_false (by kernel_rfl),rfl⟩
theorem bjX:qo Tryz.prog 43=True:=eq_true ⟨_,Tryz.func43,of_decide_eq_false (by kernel_rfl),rfl⟩
theorem bjW:qo Tryz.prog 44=True:=eq_true ⟨_,Tryz.func44,of_decide_eq_false (by kernel_rfl),rfl⟩
theorem bjV:qo Tryz.prog 45=True:=eq_true ⟨_,Tryz.func45,of_decide_eq_false (by kernel_rfl),rfl⟩
theorem bjU:qo Tryz.prog 46=True:=eq_true ⟨_,Tryz.func46,of_decide_eq_false (by kernel_rfl),rfl⟩
theorem bjT:qo Tryz.prog 47=True:=eq_true ⟨_,Tryz.func47,of_decide_eq_false (by kernel_rfl),rfl⟩
theorem bjS:qo Tryz.prog 48=True:=eq_true ⟨_,Tryz.func48,of_decide_eq_false (by kernel_rfl),rfl⟩
theorem bjR:qo Tryz.prog 49=True:=eq_true ⟨_,Tryz.func49,of_decide_eq_false (by kernel_rfl),rfl⟩
theorem bjQ:qo Tryz.prog 50=True:=eq_true ⟨_,Tryz.func50,of_decide_eq_false (by kernel_rfl),rfl⟩
theorem bjP:qo Tryz.prog 51=True:=eq_true ⟨_,Tryz.func51,of_decide_eq_false (by kernel_rfl),rfl⟩
theorem bjO:qo Tryz.prog 52=True:=eq_true ⟨_,Tryz.func52,of_decide_eq_false (by kernel_rfl),rfl⟩
theorem bjN:qo Tryz.prog 53=True:=eq_true ⟨_,Tryz.func53,of_decide_eq_false (by kernel_rfl),rfl⟩
theorem bjM:qo Tryz.prog 54=True:=eq_true ⟨_,Tryz.func54,of_decide_eq_false (by kernel_rfl),rfl⟩
theorem bjL:qo Tryz.prog 55=True:=eq_true ⟨_,Tryz.func55,of_decide_eq_false (by kernel_rfl),rfl⟩
theorem bjK:qo Tryz.prog 56=True:=eq_true ⟨_,Tryz.func56,of_decide_eq_false (by kernel_rfl),rfl⟩
theorem bjJ:qo Tryz.prog 57=True:=eq_true ⟨_,Tryz.func57,of_decide_eq_false (by kernel_rfl),rfl⟩
theorem bjI:qo Tryz.prog 58=True:=eq_true ⟨_,Tryz.func58,of_decide_eq_false (by kernel_rfl),rfl⟩
theorem bjH:qo Tryz.prog 59=True:=eq_true ⟨_,Tryz.func59,of_decide_eq_false (by kernel_rfl),rfl⟩
theorem bjG:qo Tryz.prog 60=True:=eq_true ⟨_,Tryz.func60,of_decide_eq_false (by kernel_rfl),rfl⟩
theorem bjF:qo Tryz.prog 61=True:=eq_true ⟨_,Tryz.func61,of_decide_eq_false (by kernel_rfl),rfl⟩
theorem bjE:qo Tryz.prog 62=True:=eq_true ⟨_,Tryz.func62,of_decide_eq_false (by kernel_rfl),rfl⟩
theorem bjD:qo Tryz.prog 63=True:=eq_true ⟨_,Tryz.func63,of_decide_eq_false (by kernel_rfl),rfl⟩
theorem bjC:qo Tryz.prog 64=True:=eq_true ⟨_,Tryz.func64,of_decide_eq_false (by kernel_rfl),rfl⟩
theorem bjB:qo Tryz.prog 65=True:=eq_true ⟨_,Tryz.func65,of_decide_eq_false (by kernel_rfl),rfl⟩
theorem bjA:qo Tryz.prog 66=True:=eq_true ⟨_,Tryz.func66,of_decide_eq_false (by kernel_rfl),rfl⟩
theorem bjz:qo Tryz.prog 67=True:=eq_true ⟨_,Tryz.func67,of_decide_eq_false (by kernel_rfl),rfl⟩
theorem bjy:qo Tryz.prog 68=True:=eq_true ⟨_,Tryz.func68,of_decide_eq_false (by kernel_rfl),rfl⟩
theorem bjx:qo Tryz.prog 69=True:=eq_true ⟨_,Tryz.func69,of_decide_eq_false (by kernel_rfl),rfl⟩
theorem bjw:qo Tryz.prog 70=True:=eq_true ⟨_,Tryz.func70,of_decide_eq_false (by kernel_rfl),rfl⟩
theorem bjv:qo Tryz.prog 71=True:=eq_true ⟨_,Tryz.func71,of_decide_eq_false (by kernel_rfl),rfl⟩
theorem bju:qo Tryz.prog 72=True:=eq_true ⟨_,Tryz.func72,of_decide_eq_false (by kernel_rfl),rfl⟩
theorem bjt:qo Tryz.prog 73=True:=eq_true ⟨_,Tryz.func73,of_decide_eq_false (by kernel_rfl),rfl⟩
theorem bjs:qo Tryz.prog 74=True:=eq_true ⟨_,Tryz.func74,of_decide_eq_false (by kernel_rfl),rfl⟩
theorem bjr:qo Tryz.prog 75=True:=eq_true ⟨_,Tryz.func75,of_decide_eq_false (by kernel_rfl),rfl⟩
theorem bjq:qo Tryz.prog 76=True:=eq_true ⟨_,Tryz.func76,of_decide_eq_false (by kernel_rfl),rfl⟩
theorem bjp:qo Tryz.prog 77=True:=eq_true ⟨_,Tryz.func77,of_decide_eq_false (by kernel_rfl),rfl⟩
theorem bjo:qo Tryz.prog 78=True:=eq_true ⟨_,Tryz.func78,of_decide_eq_false (by kernel_rfl),rfl⟩
theorem bjn:qo Tryz.prog 79=True:=eq_true ⟨_,Tryz.func79,of_decide_eq_false (by kernel_rfl),rfl⟩
theorem bjm:qo Tryz.prog 80=True:=eq_true ⟨_,Tryz.func80,of_decide_eq_false (by kernel_rfl),rfl⟩
theorem bjl:qo Tryz.prog 81=True:=eq_true ⟨_,Tryz.func81,of_decide_eq_false (by kernel_rfl),rfl⟩
theorem bjk:qo Tryz.prog 82=True:=eq_true ⟨_,Tryz.func82,of_decide_eq_false (by kernel_rfl),rfl⟩
theorem bjj:qo Tryz.prog 83=True:=eq_true ⟨_,Tryz.func83,of_decide_eq_false (by kernel_rfl),rfl⟩
theorem bji:qo Tryz.prog 84=True:=eq_true ⟨_,Tryz.func84,of_decide_eq_false (by kernel_rfl),rfl⟩
theorem bjh:qo Tryz.prog 85=True:=eq_true ⟨_,Tryz.func85,of_decide_eq_false (by kernel_rfl),rfl⟩
theorem bjg:qo Tryz.prog 86=True:=eq_true ⟨_,Tryz.func86,of_decide_eq_false (by kernel_rfl),rfl⟩
theorem bjf:qo Tryz.prog 87=True:=eq_true ⟨_,Tryz.func87,of_decide_eq_false (by kernel_rfl),rfl⟩
theorem bje:qo Tryz.prog 88=True:=eq_true ⟨_,Tryz.func88,of_decide_eq_false (by kernel_rfl),rfl⟩
theorem bjd:qo Tryz.prog 89=True:=eq_true ⟨_,Tryz.func89,of_decide_eq_false (by kernel_rfl),rfl⟩
theorem bjc:qo Tryz.prog 90=True:=eq_true ⟨_,Tryz.func90,of_decide_eq_false (by kernel_rfl),rfl⟩
theorem bjb:qo Tryz.prog 91=True:=eq_true ⟨_,Tryz.func91,of_decide_eq_false (by kernel_rfl),rfl⟩
theorem bja:qo Tryz.prog 92=True:=eq_true ⟨_,Tryz.func92,of_decide_eq_false (by kernel_rfl),rfl⟩
theorem bi9:qo Tryz.prog 93=True:=eq_true ⟨_,Tryz.func93,of_decide_eq_false (by kernel_rfl),rfl⟩
theorem bi8:qo Tryz.prog 94=True:=eq_true ⟨_,Tryz.func94,of_decide_eq_false (by kernel_rfl),rfl⟩
theorem bi7:qo Tryz.prog 95=True:=eq_true ⟨_,Tryz.func95,of_decide_eq_false (by kernel_rfl),rfl⟩
theorem bi6:qo Tryz.prog 96=True:=eq_true ⟨_,Tryz.func96,of_decide_eq_false (by kernel_rfl),rfl⟩
theorem bi5:qo Tryz.prog 97=True:=eq_true ⟨_,Tryz.func97,of_decide_eq_false (by kernel_rfl),rfl⟩
theorem bi4:qo Tryz.prog 98=True:=eq_true ⟨_,Tryz.func98,of_decide_eq_false (by kernel_rfl),rfl⟩
theorem bi3:qo Tryz.prog 99=True:=eq_true ⟨_,Tryz.func99,of_decide_eq_false (by kernel_rfl),rfl⟩
theorem baS:qo Tryz.prog 100=True:=eq_true ⟨_,Tryz.func100,of_decide_eq_false (by kernel_rfl),rfl⟩
theorem baR:qo Tryz.prog 101=True:=eq_true ⟨_,Tryz.func101,of_decide_eq_false (by kernel_rfl),rfl⟩
theorem baQ:qo Tryz.prog 102=True:=eq_true ⟨_,Tryz.func102,of_decide_eq_false (by kernel_rfl),rfl⟩
theorem baP:qo Tryz.prog 103=True:=eq_true ⟨_,Tryz.func103,of_decide_eq_false (by kernel_rfl),rfl⟩
theorem baO:qo Tryz.prog 104=True:=eq_true ⟨_,Tryz.func104,of_decide_eq_false (by kernel_rfl),rfl⟩
theorem baN:qo Tryz.prog 105=True:=eq_true ⟨_,Tryz.func105,of_decide_eq_false (by kernel_rfl),rfl⟩
theorem baM:qo Tryz.prog 106=True:=eq_true ⟨_,Tryz.func106,of_decide_eq_false (by kernel_rfl),rfl⟩
theorem baL:qo Tryz.prog 107=True:=eq_true ⟨_,Tryz.func107,of_decide_eq_false (by kernel_rfl),rfl⟩
theorem baK:qo Tryz.prog 108=True:=eq_true ⟨_,Tryz.func108,of_decide_eq_false (by kernel_rfl),rfl⟩
theorem baJ:qo Tryz.prog 109=True:=eq_true ⟨_,Tryz.func109,of_decide_eq_false (by kernel_rfl),rfl⟩
theorem baI:qo Tryz.prog 110=True:=eq_true ⟨_,Tryz.func110,of_decide_eq_false (by kernel_rfl),rfl⟩
theorem baH:qo Tryz.prog 111=True:=eq_true ⟨_,Tryz.func111,of_decide_eq_false (by kernel_rfl),rfl⟩
theorem baG:qo Tryz.prog 112=True:=eq_true ⟨_,Tryz.func112,of_decide_eq_false (by kernel_rfl),rfl⟩
theorem baF:qo Tryz.prog 113=True:=eq_true ⟨_,Tryz.func113,of_decide_eq_false (by kernel_rfl),rfl⟩
theorem baE:qo Tryz.prog 114=True:=eq_true ⟨_,Tryz.func114,of_decide_eq_false (by kernel_rfl),rfl⟩
theorem baD:qo Tryz.prog 115=True:=eq_true ⟨_,Tryz.func115,of_decide_eq_false (by kernel_rfl),rfl⟩
theorem baC:qo Tryz.prog 116=True:=eq_true ⟨_,Tryz.func116,of_decide_eq_false (by kernel_rfl),rfl⟩
theorem baB:qo Tryz.prog 117=True:=eq_true ⟨_,Tryz.func117,of_decide_eq_false (by kernel_rfl),rfl⟩
theorem baA:qo Tryz.prog 118=True:=eq_true ⟨_,Tryz.func118,of_decide_eq_false (by kernel_rfl),rfl⟩
theorem baz:qo Tryz.prog 119=True:=eq_true ⟨_,Tryz.func119,of_decide_eq_false (by kernel_rfl),rfl⟩
theorem bay:qo Tryz.prog 120=True:=eq_true ⟨_,Tryz.func120,of_decide_eq_false (by kernel_rfl),rfl⟩
theorem bax:qo Tryz.prog 121=True:=eq_true ⟨_,Tryz.func121,of_decide_eq_false (by kernel_rfl),rfl⟩
theorem baw:qo Tryz.prog 122=True:=eq_true ⟨_,Tryz.func122,of_decide_eq_false (by kernel_rfl),rfl⟩
theorem bav:qo Tryz.prog 123=True:=eq_true ⟨_,Tryz.func123,of_decide_eq_false (by kernel_rfl),rfl⟩
theorem bau:qo Tryz.prog 124=True:=eq_true ⟨_,Tryz.func124,of_decide_eq_false (by kernel_rfl),rfl⟩
theorem bat:qo Tryz.prog 125=True:=eq_true ⟨_,Tryz.func125,of_decide_eq_false (by kernel_rfl),rfl⟩
theorem bas:qo Tryz.prog 126=True:=eq_true ⟨_,Tryz.func126,of_decide_eq_false (by kernel_rfl),rfl⟩
theorem bar:qo Tryz.prog 127=True:=eq_true ⟨_,Tryz.func127,of_decide_eq_false (by kernel_rfl),rfl⟩
theorem baq:qo Tryz.prog 128=True:=eq_true ⟨_,Tryz.func128,of_decide_eq_false (by kernel_rfl),rfl⟩
theorem bap:qo Tryz.prog 129=True:=eq_true ⟨_,Tryz.func129,of_decide_eq_false (by kernel_rfl),rfl⟩
theorem bao:qo Tryz.prog 130=True:=eq_true ⟨_,Tryz.func130,of_decide_eq_false (by kernel_rfl),rfl⟩
theorem ban:qo Tryz.prog 131=True:=eq_true ⟨_,Tryz.func131,of_decide_eq_false (by kernel_rfl),rfl⟩
theorem bam:qo Tryz.prog 132=True:=eq_true ⟨_,Tryz.func132,of_decide_eq_false (by kernel_rfl),rfl⟩
theorem bal:qo Tryz.prog 133=True:=eq_true ⟨_,Tryz.func133,of_decide_eq_false (by kernel_rfl),rfl⟩
theorem bak:qo Tryz.prog 134=True:=eq_true ⟨_,Tryz.func134,of_decide_eq_false (by kernel_rfl),rfl⟩
theorem baj:qo Tryz.prog 135=True:=eq_true ⟨_,Tryz.func135,of_decide_eq_false (by kernel_rfl),rfl⟩
theorem bai:qo Tryz.prog 136=True:=eq_true ⟨_,Tryz.func136,of_decide_eq_false (by kernel_rfl),rfl⟩
theorem bah:qo Tryz.prog 137=True:=eq_true ⟨_,Tryz.func137,of_decide_eq_false (by kernel_rfl),rfl⟩
theorem bag:qo Tryz.prog 138=True:=eq_true ⟨_,Tryz.func138,of_decide_eq_false (by kernel_rfl),rfl⟩
theorem baf:qo Tryz.prog 139=True:=eq_true ⟨_,Tryz.func139,of_decide_eq_false (by kernel_rfl),rfl⟩
theorem bae:qo Tryz.prog 140=True:=eq_true ⟨_,Tryz.func140,of_decide_eq_false (by kernel_rfl),rfl⟩
theorem bac:qo Tryz.prog 141=True:=eq_true ⟨_,Tryz.func141,of_decide_eq_false (by kernel_rfl),rfl⟩
theorem bab:qo Tryz.prog 142=True:=eq_true ⟨_,Tryz.func142,of_decide_eq_false (by kernel_rfl),rfl⟩
theorem baa:qo Tryz.prog 143=True:=eq_true ⟨_,Tryz.func143,of_decide_eq_false (by kernel_rfl),rfl⟩
theorem aZ9:qo Tryz.prog 144=True:=eq_true ⟨_,Tryz.func144,of_decide_eq_false (by kernel_rfl),rfl⟩
theorem aZ8:qo Tryz.prog 145=True:=eq_true ⟨_,Tryz.func145,of_decide_eq_false (by kernel_rfl),rfl⟩
theorem aZ7:qo Tryz.prog 146=True:=eq_true ⟨_,Tryz.func146,of_decide_eq_false (by kernel_rfl),rfl⟩
theorem aZ6:qo Tryz.prog 147=True:=eq_true ⟨_,Tryz.func147,of_decide_eq_false (by kernel_rfl),rfl⟩
theorem aZ5:qo Tryz.prog 148=True:=eq_true ⟨_,Tryz.func148,of_decide_eq_false (by kernel_rfl),rfl⟩
theorem aZ4:qo Tryz.prog 149=True:=eq_true ⟨_,Tryz.func149,of_decide_eq_false (by kernel_rfl),rfl⟩
theorem aZ3:qo Tryz.prog 150=True:=eq_true ⟨_,Tryz.func150,of_decide_eq_false (by kernel_rfl),rfl⟩
theorem aZ2:qo Tryz.prog 151=True:=eq_true ⟨_,Tryz.func151,of_decide_eq_false (by kernel_rfl),rfl⟩
theorem aZ1:qo Tryz.prog 152=True:=eq_true ⟨_,Tryz.func152,of_decide_eq_false (by kernel_rfl),rfl⟩
theorem aZ0:qo Tryz.prog 153=True:=eq_true ⟨_,Tryz.func153,of_decide_eq_false (by kernel_rfl),rfl⟩
theorem aZZ:qo Tryz.prog 154=True:=eq_true ⟨_,Tryz.func154,of_decide_eq_false (by kernel_rfl),rfl⟩
theorem aZY:qo Tryz.prog 155=True:=eq_true ⟨_,Tryz.func155,of_decide_eq_false (by kernel_rfl),rfl⟩
theorem aZX:qo Tryz.prog 156=True:=eq_true ⟨_,Tryz.func156,of_decide_eq_false (by kernel_rfl),rfl⟩
theorem aZW:qo Tryz.prog 157=True:=eq_true ⟨_,Tryz.func157,of_decide_eq_false (by kernel_rfl),rfl⟩
theorem aZV:qo Tryz.prog 158=True:=eq_true ⟨_,Tryz.func158,of_decide_eq_false (by kernel_rfl),rfl⟩
theorem aZU:qo Tryz.prog 159=True:=eq_true ⟨_,Tryz.func159,of_decide_eq_false (by kernel_rfl),rfl⟩
theorem aZT:qo Tryz.prog 160=True:=eq_true ⟨_,Tryz.func160,of_decide_eq_false (by kernel_rfl),rfl⟩
theorem aZS:qo Tryz.prog 161=True:=eq_true ⟨_,Tryz.func161,of_decide_eq_false (by kernel_rfl),rfl⟩
theorem aZR:qo Tryz.prog 162=True:=eq_true ⟨_,Tryz.func162,of_decide_eq_false (by kernel_rfl),rfl⟩
theorem aZQ:qo Tryz.prog 163=True:=eq_true ⟨_,Tryz.func163,of_decide_eq_false (by kernel_rfl),rfl⟩
theorem aZP:qo Tryz.prog 164=True:=eq_true ⟨_,Tryz.func164,of_decide_eq_false (by kernel_rfl),rfl⟩
theorem aZO:qo Tryz.prog 165=True:=eq_true ⟨_,Tryz.func165,of_decide_eq_false (by kernel_rfl),rfl⟩
theorem aZN:qo Tryz.prog 166=True:=eq_true ⟨_,Tryz.func166,of_decide_eq_false (by kernel_rfl),rfl⟩
theorem aZM:qo Tryz.prog 167=True:=eq_true ⟨_,Tryz.func167,of_decide_eq_false (by kernel_rfl),rfl⟩
theorem aZL:qo Tryz.prog 168=True:=eq_true ⟨_,Tryz.func168,of_decide_eq_false (by kernel_rfl),rfl⟩
theorem aZK:qo Tryz.prog 169=True:=eq_true ⟨_,Tryz.func169,of_decide_eq_false (by kernel_rfl),rfl⟩
theorem aZJ:qo Tryz.prog 170=True:=eq_true ⟨_,Tryz.func170,of_decide_eq_false (by kernel_rfl),rfl⟩
theorem aZI:qo Tryz.prog 171=True:=eq_true ⟨_,Tryz.func171,of_decide_eq_false (by kernel_rfl),rfl⟩
theorem aZH:qo Tryz.prog 172=True:=eq_true ⟨_,Tryz.func172,of_decide_eq_false (by kernel_rfl),rfl⟩
theorem aZG:qo Tryz.prog 173=True:=eq_true ⟨_,Tryz.func173,of_decide_eq_false (by kernel_rfl),rfl⟩
theorem aZF:qo Tryz.prog 174=True:=eq_true ⟨_,Tryz.func174,of_decide_eq_false (by kernel_rfl),rfl⟩
theorem aZE:qo Tryz.prog 175=True:=eq_true ⟨_,Tryz.func175,of_decide_eq_false (by kernel_rfl),rfl⟩
theorem aZD:qo Tryz.prog 176=True:=eq_true ⟨_,Tryz.func176,of_decide_eq_false (by kernel_rfl),rfl⟩
theorem aZC:qo Tryz.prog 177=True:=eq_true ⟨_,Tryz.func177,of_decide_eq_false (by kernel_rfl),rfl⟩
theorem aZB:qo Tryz.prog 178=True:=eq_true ⟨_,Tryz.func178,of_decide_eq_false (by kernel_rfl),rfl⟩
theorem aZA:qo Tryz.prog 179=True:=eq_true ⟨_,Tryz.func179,of_decide_eq_false (by kernel_rfl),rfl⟩
theorem aZz:qo Tryz.prog 180=True:=eq_true ⟨_,Tryz.func180,of_decide_eq_false (by kernel_rfl),rfl⟩
theorem aZy:qo Tryz.prog 181=True:=eq_true ⟨_,Tryz.func181,of_decide_eq_false (by kernel_rfl),rfl⟩
theorem aZx:qo Tryz.prog 182=True:=eq_true ⟨_,Tryz.func182,of_decide_eq_false (by kernel_rfl),rfl⟩
theorem aZw:qo Tryz.prog 183=True:=eq_true ⟨_,Tryz.func183,of_decide_eq_false (by kernel_rfl),rfl⟩
theorem aZv:qo Tryz.prog 184=True:=eq_true ⟨_,Tryz.func184,of_decide_eq_false (by kernel_rfl),rfl⟩
theorem aZu:qo Tryz.prog 185=True:=eq_true ⟨_,Tryz.func185,of_decide_eq_false (by kernel_rfl),rfl⟩
theorem aZt:qo Tryz.prog 186=True:=eq_true ⟨_,Tryz.func186,of_decide_eq_false (by kernel_rfl),rfl⟩
theorem aZs:qo Tryz.prog 187=True:=eq_true ⟨_,Tryz.func187,of_decide_eq_false (by kernel_rfl),rfl⟩
theorem aZr:qo Tryz.prog 188=True:=eq_true ⟨_,Tryz.func188,of_decide_eq_false (by kernel_rfl),rfl⟩
theorem aZq:qo Tryz.prog 189=True:=eq_true ⟨_,Tryz.func189,of_decide_eq_false (by kernel_rfl),rfl⟩
theorem aZp:qo Tryz.prog 190=True:=eq_true ⟨_,Tryz.func190,of_decide_eq_false (by kernel_rfl),rfl⟩
theorem aZo:qo Tryz.prog 191=True:=eq_true ⟨_,Tryz.func191,of_decide_eq_false (by kernel_rfl),rfl⟩
theorem aZn:qo Tryz.prog 192=True:=eq_true ⟨_,Tryz.func192,of_decide_eq_false (by kernel_rfl),rfl⟩
theorem aZm:qo Tryz.prog 193=True:=eq_true ⟨_,Tryz.func193,of_decide_eq_false (by kernel_rfl),rfl⟩
theorem aZl:qo Tryz.prog 194=True:=eq_true ⟨_,Tryz.func194,of_decide_eq_false (by kernel_rfl),rfl⟩
theorem aZk:qo Tryz.prog 195=True:=eq_true ⟨_,Tryz.func195,of_decide_eq_false (by kernel_rfl),rfl⟩
theorem aZj:qo Tryz.prog 196=True:=eq_true ⟨_,Tryz.func196,of_decide_eq_false (by kernel_rfl),rfl⟩
theorem aZi:qo Tryz.prog 197=True:=eq_true ⟨_,Tryz.func197,of_decide_eq_false (by kernel_rfl),rfl⟩
theorem aZh:qo Tryz.prog 198=True:=eq_true ⟨_,Tryz.func198,of_decide_eq_false (by kernel_rfl),rfl⟩
theorem aZg:qo Tryz.prog 199=True:=eq_true ⟨_,Tryz.func199,of_decide_eq_false (by kernel_rfl),rfl⟩
theorem aZf:qo Tryz.prog 200=True:=eq_true ⟨_,Tryz.func200,of_decide_eq_false (by kernel_rfl),rfl⟩
theorem aZe:qo Tryz.prog 201=True:=eq_true ⟨_,Tryz.func201,of_decide_eq_false (by kernel_rfl),rfl⟩
theorem aZd:qo Tryz.prog 202=True:=eq_true ⟨_,Tryz.func202,of_decide_eq_false (by kernel_rfl),rfl⟩
theorem aZc:qo Tryz.prog 203=True:=eq_true ⟨_,Tryz.func203,of_decide_eq_false (by kernel_rfl),rfl⟩
theorem aZb:qo Tryz.prog 204=True:=eq_true ⟨_,Tryz.func204,of_decide_eq_false (by kernel_rfl),rfl⟩
theorem aZa:qo Tryz.prog 205=True:=eq_true ⟨_,Tryz.func205,of_decide_eq_false (by kernel_rfl),rfl⟩
theorem aY9:qo Tryz.prog 206=True:=eq_true ⟨_,Tryz.func206,of_decide_eq_false (by kernel_rfl),rfl⟩
theorem aY8:qo Tryz.prog 207=True:=eq_true ⟨_,Tryz.func207,of_decide_eq_false (by kernel_rfl),rfl⟩
theorem aY7:qo Tryz.prog 208=True:=eq_true ⟨_,Tryz.func208,of_decide_eq_false (by kernel_rfl),rfl⟩
theorem aY6:qo Tryz.prog 209=True:=eq_true ⟨_,Tryz.func209,of_decide_eq_false (by kernel_rfl),rfl⟩
theorem aY5:qo Tryz.prog 210=True:=eq_true ⟨_,Tryz.func210,of_decide_eq_false (by kernel_rfl),rfl⟩
theorem aY4:qo Tryz.prog 211=True:=eq_true ⟨_,Tryz.func211,of_decide_eq_false (by kernel_rfl),rfl⟩
theorem aY3:qo Tryz.prog 212=True:=eq_true ⟨_,Tryz.func212,of_decide_eq_false (by kernel_rfl),rfl⟩
theorem aY2:qo Tryz.prog 213=True:=eq_true ⟨_,Tryz.func213,of_decide_eq_false (by kernel_rfl),rfl⟩
theorem aY1:qo Tryz.prog 214=True:=eq_true ⟨_,Tryz.func214,of_decide_eq_false (by kernel_rfl),rfl⟩
theorem aY0:qo Tryz.prog 215=True:=eq_true ⟨_,Tryz.func215,of_decide_eq_false (by kernel_rfl),rfl⟩
theorem aYZ:qo Tryz.prog 216=True:=eq_true ⟨_,Tryz.func216,of_decide_eq_false (by kernel_rfl),rfl⟩
theorem aYY:qo Tryz.prog 217=True:=eq_true ⟨_,Tryz.func217,of_decide_eq_false (by kernel_rfl),rfl⟩
theorem aYX:qo Tryz.prog 218=True:=eq_true ⟨_,Tryz.func218,of_decide_eq_false (by kernel_rfl),rfl⟩
theorem aYW:qo Tryz.prog 219=True:=eq_true ⟨_,Tryz.func219,of_decide_eq_false (by kernel_rfl),rfl⟩
theorem aYV:qo Tryz.prog 220=True:=eq_true ⟨_,Tryz.func220,of_decide_eq_false (by kernel_rfl),rfl⟩
theorem aYU:qo Tryz.prog 221=True:=eq_true ⟨_,Tryz.func221,of_decide_eq_false (by kernel_rfl),rfl⟩
theorem aYT:qo Tryz.prog 222=True:=eq_true ⟨_,Tryz.func222,of_decide_eq_false (by kernel_rfl),rfl⟩
theorem aYS:qo Tryz.prog 223=True:=eq_true ⟨_,Tryz.func223,of_decide_eq_false (by kernel_rfl),rfl⟩
theorem aYR:qo Tryz.prog 224=True:=eq_true ⟨_,Tryz.func224,of_decide_eq_false (by kernel_rfl),rfl⟩
theorem aYQ:qo Tryz.prog 225=True:=eq_true ⟨_,Tryz.func225,of_decide_eq_false (by kernel_rfl),rfl⟩
theorem aYP:qo Tryz.prog 226=True:=eq_true ⟨_,Tryz.func226,of_decide_eq_false (by kernel_rfl),rfl⟩
theorem aYO:qo Tryz.prog 227=True:=eq_true ⟨_,Tryz.func227,of_decide_eq_false (by kernel_rfl),rfl⟩
theorem aYN:qo Tryz.prog 228=True:=eq_true ⟨_,Tryz.func228,of_decide_eq_false (by kernel_rfl),rfl⟩
theorem aYM:qo Tryz.prog 229=True:=eq_true ⟨_,Tryz.func229,of_decide_eq_false (by kernel_rfl),rfl⟩
theorem aYL:qo Tryz.prog 230=True:=eq_true ⟨_,Tryz.func230,of_decide_eq_false (by kernel_rfl),rfl⟩
theorem aYK:qo Tryz.prog 231=True:=eq_true ⟨_,Tryz.func231,of_decide_eq_false (by kernel_rfl),rfl⟩
theorem aYJ:qo Tryz.prog 232=True:=eq_true ⟨_,Tryz.func232,of_decide_eq_false (by kernel_rfl),rfl⟩
theorem aYI:qo Tryz.prog 233=True:=eq_true ⟨_,Tryz.func233,of_decide_eq_false (by kernel_rfl),rfl⟩
theorem aYH:qo Tryz.prog 234=True:=eq_true ⟨_,Tryz.func234,of_decide_eq_false (by kernel_rfl),rfl⟩
theorem aYG:qo Tryz.prog 235=True:=eq_true ⟨_,Tryz.func235,of_decide_eq_false (by kernel_rfl),rfl⟩
theorem aYF:qo Tryz.prog 236=True:=eq_true ⟨_,Tryz.func236,of_decide_eq_false (by kernel_rfl),rfl⟩
theorem aYE:qo Tryz.prog 237=True:=eq_true ⟨_,Tryz.func237,of_decide_eq_false (by kernel_rfl),rfl⟩
theorem aYD:qo Tryz.prog 238=True:=eq_true ⟨_,Tryz.func238,of_decide_eq_false (by kernel_rfl),rfl⟩
theorem aYC:qo Tryz.prog 239=True:=eq_true ⟨_,Tryz.func239,of_decide_eq_false (by kernel_rfl),rfl⟩
theorem aYB:qo Tryz.prog 240=True:=eq_true ⟨_,Tryz.func240,of_decide_eq_false (by kernel_rfl),rfl⟩
theorem aYA:qo Tryz.prog 241=True:=eq_true ⟨_,Tryz.func241,of_decide_eq_false (by kernel_rfl),rfl⟩
theorem aYz:qo Tryz.prog 242=True:=eq_true ⟨_,Tryz.func242,of_decide_eq_false (by kernel_rfl),rfl⟩
theorem aYy:qo Tryz.prog 243=True:=eq_true ⟨_,Tryz.func243,of_decide_eq_false (by kernel_rfl),rfl⟩
theorem aYx:qo Tryz.prog 244=True:=eq_true ⟨_,Tryz.func244,of_decide_eq_false (by kernel_rfl),rfl⟩
theorem aYw:qo Tryz.prog 245=True:=eq_true ⟨_,Tryz.func245,of_decide_eq_false (by kernel_rfl),rfl⟩
theorem aYv:qo Tryz.prog 246=True:=eq_true ⟨_,Tryz.func246,of_decide_eq_false (by kernel_rfl),rfl⟩
theorem aYu:qo Tryz.prog 247=True:=eq_true ⟨_,Tryz.func247,of_decide_eq_false (by kernel_rfl),rfl⟩
theorem aYt:qo Tryz.prog 248=True:=eq_true ⟨_,Tryz.func248,of_decide_eq_false (by kernel_rfl),rfl⟩
theorem aYs:qo Tryz.prog 249=True:=eq_true ⟨_,Tryz.func249,of_decide_eq_false (by kernel_rfl),rfl⟩
theorem aYr:qo Tryz.prog 250=True:=eq_true ⟨_,Tryz.func250,of_decide_eq_false (by kernel_rfl),rfl⟩
theorem aYq:qo Tryz.prog 251=True:=eq_true ⟨_,Tryz.func251,of_decide_eq_false (by kernel_rfl),rfl⟩
theorem aYp:qo Tryz.prog 252=True:=eq_true ⟨_,Tryz.func252,of_decide_eq_false (by kernel_rfl),rfl⟩
theorem aYo:qo Tryz.prog 253=True:=eq_true ⟨_,Tryz.func253,of_decide_eq_false (by kernel_rfl),rfl⟩
theorem aYn:qo Tryz.prog 254=True:=eq_true ⟨_,Tryz.func254,of_decide_eq_false (by kernel_rfl),rfl⟩
theorem aYm:qo Tryz.prog 255=True:=eq_true ⟨_,Tryz.func255,of_decide_eq_false (by kernel_rfl),rfl⟩
theorem aYl:qo Tryz.prog 256=True:=eq_true ⟨_,Tryz.func256,of_decide_eq_false (by kernel_rfl),rfl⟩
theorem aYk:qo Tryz.prog 257=True:=eq_true ⟨_,Tryz.func257,of_decide_eq_false (by kernel_rfl),rfl⟩
theorem aYj:qo Tryz.prog 258=True:=eq_true ⟨_,Tryz.func258,of_decide_eq_false (by kernel_rfl),rfl⟩
theorem aYi:qo Tryz.prog 259=True:=eq_true ⟨_,Tryz.func259,of_decide_eq_false (by kernel_rfl),rfl⟩
theorem aYh:qo Tryz.prog 260=True:=eq_true ⟨_,Tryz.func260,of_decide_eq_false (by kernel_rfl),rfl⟩
theorem aYg:qo Tryz.prog 261=True:=eq_true ⟨_,Tryz.func261,of_decide_eq_false (by kernel_rfl),rfl⟩
theorem aYf:qo Tryz.prog 262=True:=eq_true ⟨_,Tryz.func262,of_decide_eq_false (by kernel_rfl),rfl⟩
theorem aYe:qo Tryz.prog 263=True:=eq_true ⟨_,Tryz.func263,of_decide_eq_false (by kernel_rfl),rfl⟩
theorem aYd:qo Tryz.prog 264=True:=eq_true ⟨_,Tryz.func264,of_decide_eq_false (by kernel_rfl),rfl⟩
theorem aYc:qo Tryz.prog 265=True:=eq_true ⟨_,Tryz.func265,of_decide_eq_false (by kernel_rfl),rfl⟩
theorem aYb:qo Tryz.prog 266=True:=eq_true ⟨_,Tryz.func266,of_decide_eq_false (by kernel_rfl),rfl⟩
theorem aYa:qo Tryz.prog 267=True:=eq_true ⟨_,Tryz.func267,of_decide_eq_false (by kernel_rfl),rfl⟩
theorem aX9:qo Tryz.prog 268=True:=eq_true ⟨_,Tryz.func268,of_decide_eq_false (by kernel_rfl),rfl⟩
theorem aX8:qo Tryz.prog 269=True:=eq_true ⟨_,Tryz.func269,of_decide_eq_false (by kernel_rfl),rfl⟩
theorem aX7:qo Tryz.prog 270=True:=eq_true ⟨_,Tryz.func270,of_decide_eq_false (by kernel_rfl),rfl⟩
theorem aX6:qo Tryz.prog 271=True:=eq_true ⟨_,Tryz.func271,of_decide_eq_false (by kernel_rfl),rfl⟩
theorem aX5:qo Tryz.prog 272=True:=eq_true ⟨_,Tryz.func272,of_decide_eq_false (by kernel_rfl),rfl⟩
theorem aX4:qo Tryz.prog 273=True:=eq_true ⟨_,Tryz.func273,of_decide_eq_false (by kernel_rfl),rfl⟩
theorem aX3:qo Tryz.prog 274=True:=eq_true ⟨_,Tryz.func274,of_decide_eq_false (by kernel_rfl),rfl⟩
theorem aX2:qo Tryz.prog 275=True:=eq_true ⟨_,Tryz.func275,of_decide_eq_false (by kernel_rfl),rfl⟩
theorem aX1:qo Tryz.prog 276=True:=eq_true ⟨_,Tryz.func276,of_decide_eq_false (by kernel_rfl),rfl⟩
theorem aX0:qo Tryz.prog 277=True:=eq_true ⟨_,Tryz.func277,of_decide_eq_false (by kernel_rfl),rfl⟩
theorem aXZ:qo Tryz.prog 278=True:=eq_true ⟨_,Tryz.func278,of_decide_eq_false (by kernel_rfl),rfl⟩
theorem aXY:qo Tryz.prog 279=True:=eq_true ⟨_,Tryz.func279,of_decide_eq_false (by kernel_rfl),rfl⟩
theorem aXX:qo Tryz.prog 280=True:=eq_true ⟨_,Tryz.func280,of_decide_eq_false (by kernel_rfl),rfl⟩
theorem aXW:qo Tryz.prog 281=True:=eq_true ⟨_,Tryz.func281,of_decide_eq_false (by kernel_rfl),rfl⟩
theorem aXV:qo Tryz.prog 282=True:=eq_true ⟨_,Tryz.func282,of_decide_eq_false (by kernel_rfl),rfl⟩
theorem aXU:qo Tryz.prog 283=True:=eq_true ⟨_,Tryz.func283,of_decide_eq_false (by kernel_rfl),rfl⟩
theorem aXT:qo Tryz.prog 284=True:=eq_true ⟨_,Tryz.func284,of_decide_eq_false (by kernel_rfl),rfl⟩
theorem aXS:qo Tryz.prog 285=True:=eq_true ⟨_,Tryz.func285,of_decide_eq_false (by kernel_rfl),rfl⟩
theorem aXR:qo Tryz.prog 286=True:=eq_true ⟨_,Tryz.func286,of_decide_eq_false (by kernel_rfl),rfl⟩
theorem aXQ:qo Tryz.prog 287=True:=eq_true ⟨_,Tryz.func287,of_decide_eq_false (by kernel_rfl),rfl⟩
theorem aXP:qo Tryz.prog 288=True:=eq_true ⟨_,Tryz.func288,of_decide_eq_false (by kernel_rfl),rfl⟩
theorem aXO:qo Tryz.prog 289=True:=eq_true ⟨_,Tryz.func289,of_decide_eq_false (by kernel_rfl),rfl⟩
theorem aXN:qo Tryz.prog 290=True:=eq_true ⟨_,Tryz.func290,of_decide_eq_false (by kernel_rfl),rfl⟩
theorem aXM:qo Tryz.prog 291=True:=eq_true ⟨_,Tryz.func291,of_decide_eq_false (by kernel_rfl),rfl⟩
theorem aXL:qo Tryz.prog 292=True:=eq_true ⟨_,Tryz.func292,of_decide_eq_false (by kernel_rfl),rfl⟩
theorem aXK:qo Tryz.prog 293=True:=eq_true ⟨_,Tryz.func293,of_decide_eq_false (by kernel_rfl),rfl⟩
theorem aXJ:qo Tryz.prog 294=True:=eq_true ⟨_,Tryz.func294,of_decide_eq_false (by kernel_rfl),rfl⟩
theorem aXI:qo Tryz.prog 295=True:=eq_true ⟨_,Tryz.func295,of_decide_eq_false (by kernel_rfl),rfl⟩
theorem aXH:qo Tryz.prog 296=True:=eq_true ⟨_,Tryz.func296,of_decide_eq_false (by kernel_rfl),rfl⟩
theorem aXG:qo Tryz.prog 297=True:=eq_true ⟨_,Tryz.func297,of_decide_eq_false (by kernel_rfl),rfl⟩
theorem aXF:qo Tryz.prog 298=True:=eq_true ⟨_,Tryz.func298,of_decide_eq_false (by kernel_rfl),rfl⟩
theorem aXE:qo Tryz.prog 299=True:=eq_true ⟨_,Tryz.func299,of_decide_eq_false (by kernel_rfl),rfl⟩
theorem aXD:qo Tryz.prog 300=True:=eq_true ⟨_,Tryz.func300,of_decide_eq_false (by kernel_rfl),rfl⟩
theorem aXC:qo Tryz.prog 301=True:=eq_true ⟨_,Tryz.func301,of_decide_eq_false (by kernel_rfl),rfl⟩
theorem aXB:qo Tryz.prog 302=True:=eq_true ⟨_,Tryz.func302,of_decide_eq_false (by kernel_rfl),rfl⟩
theorem aXA:qo Tryz.prog 303=True:=eq_true ⟨_,Tryz.func303,of_decide_eq_false (by kernel_rfl),rfl⟩
theorem aXz:qo Tryz.prog 304=True:=eq_true ⟨_,Tryz.func304,of_decide_eq_false (by kernel_rfl),rfl⟩
theorem aXy:qo Tryz.prog 305=True:=eq_true ⟨_,Tryz.func305,of_decide_eq_false (by kernel_rfl),rfl⟩
theorem aXx:qo Tryz.prog 306=True:=eq_true ⟨_,Tryz.func306,of_decide_eq_false (by kernel_rfl),rfl⟩
theorem aXw:qo Tryz.prog 307=True:=eq_true ⟨_,Tryz.func307,of_decide_eq_false (by kernel_rfl),rfl⟩
theorem aXv:qo Tryz.prog 308=True:=eq_true ⟨_,Tryz.func308,of_decide_eq_false (by kernel_rfl),rfl⟩
theorem aXu:qo Tryz.prog 309=True:=eq_true ⟨_,Tryz.func309,of_decide_eq_false (by kernel_rfl),rfl⟩
theorem aXt:qo Tryz.prog 310=True:=eq_true ⟨_,Tryz.func310,of_decide_eq_false (by kernel_rfl),rfl⟩
theorem aXs:qo Tryz.prog 311=True:=eq_true ⟨_,Tryz.func311,of_decide_eq_false (by kernel_rfl),rfl⟩
theorem aXr:qo Tryz.prog 312=True:=eq_true ⟨_,Tryz.func312,of_decide_eq_false (by kernel_rfl),rfl⟩
theorem aXq:qo Tryz.prog 313=True:=eq_true ⟨_,Tryz.func313,of_decide_eq_false (by kernel_rfl),rfl⟩
theorem aXp:qo Tryz.prog 314=True:=eq_true ⟨_,Tryz.func314,of_decide_eq_false (by kernel_rfl),rfl⟩
theorem aXo:qo Tryz.prog 315=True:=eq_true ⟨_,Tryz.func315,of_decide_eq_false (by kernel_rfl),rfl⟩
theorem aXn:qo Tryz.prog 316=True:=eq_true ⟨_,Tryz.func316,of_decide_eq_false (by kernel_rfl),rfl⟩
theorem aXm:qo Tryz.prog 317=True:=eq_true ⟨_,Tryz.func317,of_decide_eq_false (by kernel_rfl),rfl⟩
theorem aXl:qo Tryz.prog 318=True:=eq_true ⟨_,Tryz.func318,of_decide_eq_false (by kernel_rfl),rfl⟩
theorem aXk:qo Tryz.prog 319=True:=eq_true ⟨_,Tryz.func319,of_decide_eq_false (by kernel_rfl),rfl⟩
theorem aXj:qo Tryz.prog 320=True:=eq_true ⟨_,Tryz.func320,of_decide_eq_false (by kernel_rfl),rfl⟩
theorem aXi:qo Tryz.prog 321=True:=eq_true ⟨_,Tryz.func321,of_decide_eq_false (by kernel_rfl),rfl⟩
theorem aXh:qo Tryz.prog 322=True:=eq_true ⟨_,Tryz.func322,of_decide_eq_false (by kernel_rfl),rfl⟩
theorem aXg:qo Tryz.prog 323=True:=eq_true ⟨_,Tryz.func323,of_decide_eq_false (by kernel_rfl),rfl⟩
theorem aXf:qo Tryz.prog 324=True:=eq_true ⟨_,Tryz.func324,of_decide_eq_false (by kernel_rfl),rfl⟩
theorem aXe:qo Tryz.prog 325=True:=eq_true ⟨_,Tryz.func325,of_decide_eq_false (by kernel_rfl),rfl⟩
theorem aXd:qo Tryz.prog 326=True:=eq_true ⟨_,Tryz.func326,of_decide_eq_false (by kernel_rfl),rfl⟩
theorem aXc:qo Tryz.prog 327=True:=eq_true ⟨_,Tryz.func327,of_decide_eq_false (by kernel_rfl),rfl⟩
theorem aXb:qo Tryz.prog 328=True:=eq_true ⟨_,Tryz.func328,of_decide_eq_false (by kernel_rfl),rfl⟩
theorem aXa:qo Tryz.prog 329=True:=eq_true ⟨_,Tryz.func329,of_decide_eq_false (by kernel_rfl),rfl⟩
theorem aW9:qo Tryz.prog 330=True:=eq_true ⟨_,Tryz.func330,of_decide_eq_false (by kernel_rfl),rfl⟩
theorem aW8:qo Tryz.prog 331=True:=eq_true ⟨_,Tryz.func331,of_decide_eq_false (by kernel_rfl),rfl⟩
theorem aW7:qo Tryz.prog 354=True:=eq_true ⟨_,Tryz.func354,of_decide_eq_false (by kernel_rfl),rfl⟩
attribute [go_sem] ty1 aUE aO5 aBr aqt aUC aUD ty2 aUB aOG
attribute [go_sem] axe aoT aUz aUA ty3 aUy aOh awS aoE aUw
attribute [go_sem] aUx ty4 aUv aNM awH aos aUt aUu ty5 aUs
attribute [go_sem] aNq awz aok aUq aUr ty6 aUp aMY awo aoa
attribute [go_sem] aUn aUo ty7 aUm aMt awd anX aUk aUl ba1
attribute [go_sem] biD ba0 biC baZ biB baY biA bn5 ty8 aUj
attribute [go_sem] aLY av2 anJ aUh aUi baX biz baW biy baV
attribute [go_sem] bix baU biw bn4 ty9 aUg aLw avS anz aUe
attribute [go_sem] aUf bmz aPe aFE arW alR aPc aPd bmy aPb
attribute [go_sem] aE9 arL alG aO9 aPa bmx aO8 aEH arB alt
attribute [go_sem] aO6 aO7 bmw aO4 aAB aqb aj5 aO2 aO3 bmv
attribute [go_sem] aO1 az6 ap0 ajU aOZ aO0 bik bmu aOY azE
attribute [go_sem] apQ ajK aOW aOX bij bmt aOV azc apF ajA
attribute [go_sem] aOT aOU aSv aVS aSu aVR bkV bms aOS ayK
attribute [go_sem] apt ajq aOQ aOR aSt aVQ aSs aVP bkU bmr
attribute [go_sem] aOP axU apa ai8 aON aOO bmq aOM axB ao3
attribute [go_sem] ai1 aOK aOL bii bmp aOJ axf aoU aiT aOH
attribute [go_sem] aOI aSr aVO aSq aVN bkT bmo aOF aw1 aoN
attribute [go_sem] aiO aOD aOE aSp aVM aSo aVL bkS bmn aOC
attribute [go_sem] aw0 aoM aiN aOA aOB bmm aOz awZ aoL aiM
attribute [go_sem] aOx aOy bml aOw awY aoK aiL aOu aOv bmk
attribute [go_sem] aOt awX aoJ aiK aOr aOs bih bmj aOq awW
attribute [go_sem] aoI aiJ aOo aOp aSn aVK bkR bmi aOn awU
attribute [go_sem] aoH aiI aOl aOm aSm aVJ bkQ bmh aOk awT
attribute [go_sem] aoF aiH aOi aOj aSl aVI aSk aVH bkP bmg
attribute [go_sem] aOg awR aoD aiG aOe aOf aSj aVG aSi aVF
attribute [go_sem] bkO bmf aOd awQ aoB aiF aOb aOc aSh aVE
attribute [go_sem] aSg aVD bkN bme aOa awP aoA aiE aN8 aN9
attribute [go_sem] aSf aVC aSe aVB bkM bmd aN7 awO aoz aiD
attribute [go_sem] aN5 aN6 bmc aN4 awN aoy aiC aN2 aN3 bmb
attribute [go_sem] aN1 awM aox aiB aNZ aN0 bma aNY awL aow
attribute [go_sem] aiA aNW aNX bl9 aNV awK aov aiz aNT aNU
attribute [go_sem] bl8 aNS awJ aou aiy aNQ aNR bl7 aNP awI
attribute [go_sem] aot aix aNN aNO bl6 aNL awG aor aiw aNJ
attribute [go_sem] aNK bl5 aNI awF aoq aiv aNG aNH bl4 aNF
attribute [go_sem] awE aop aiu aND aNE bl3 aNC awD aoo ait
attribute [go_sem] aNA aNB bl2 aNz awC aon ais aNx aNy bl1
attribute [go_sem] aNw awB aom air aNu aNv bl0 aNt awA aol
attribute [go_sem] aiq aNr aNs blZ aNp awy aoj aip aNn aNo
attribute [go_sem] blY aNm awx aoi aio aNk aNl blX aNj aww
attribute [go_sem] aoh ain aNh aNi blW aNg awv aog aim aNe
attribute [go_sem] aNf blV aNd awu aof ail aNb aNc blU aNa
attribute [go_sem] awt aoe aik aM8 aM9 blT aM7 aws aod aij
attribute [go_sem] aM5 aM6 blS aM4 awr aoc aii aM2 aM3 blR
attribute [go_sem] aM1 awq aob aih aMZ aM0 blQ aMX awn an9
attribute [go_sem] aig aMV aMW blP aMU awm an8 aif aMS aMT
attribute [go_sem] blO aMR awl an7 aie aMP aMQ blN aMO awk
attribute [go_sem] an6 aid aMM aMN blM aML awj an5 aic aMJ
attribute [go_sem] aMK big blL aMI awi an3 aib aMG aMH aSd
attribute [go_sem] aVA aSc aVz bkL blK aMF awh an1 aia aMD
attribute [go_sem] aME aSb aVy aSa aVx bkK blJ aMC awg an0
attribute [go_sem] ah9 aMA aMB blI aMz awf anZ ah8 aMx aMy
attribute [go_sem] blH aMw awe anY ah7 aMu aMv blG aMs awc
attribute [go_sem] anW ah6 aMq aMr blF aMp awb anV ah5 aMn
attribute [go_sem] aMo blE aMm awa anU ah4 aMk aMl blD aMj
attribute [go_sem] av9 anT ah3 aMh aMi aR9 aVw bkJ blC aMg
attribute [go_sem] av8 anR ah2 aMe aMf aR8 aVv aR7 aVu bkI
attribute [go_sem] blB aMd av7 anQ ah1 aMb aMc aR6 aVt aR5
attribute [go_sem] aVs bkH blA aMa av6 anO ah0 aL8 aL9 aR4
attribute [go_sem] aVr aR3 aVq bkG blz aL7 av5 anN ahZ aL5
attribute [go_sem] aL6 aR2 aVp aR1 aVo bkF bly aL4 av4 anM
attribute [go_sem] ahY aL2 aL3 blx aL1 av3 anK ahX aLZ aL0
attribute [go_sem] aR0 aVn aRZ aVm bkE blw aLX av1 anI ahW
attribute [go_sem] aLV aLW aRY aVl aRX aVk bkD blv aLU av0
attribute [go_sem] anH ahV aLS aLT blu aLR avZ anG ahU aLP
attribute [go_sem] aLQ bls aLO avY anF ahT aLM aLN blr aLL
attribute [go_sem] avX anE ahS aLJ aLK blq aLI avW anD ahR
attribute [go_sem] aLG aLH blp aLF avV anC ahQ aLD aLE blo
attribute [go_sem] aLC avU anB ahP aLA aLB bln aLz avT anA
attribute [go_sem] ahO aLx aLy bfm aF5 ar5 al0 afv aF3 aF4
attribute [go_sem] bfl aF2 ar4 alZ afu aF0 aF1 bfk aFZ ar3
attribute [go_sem] alY aft aFX aFY bfj aFW ar2 alX afs aFU
attribute [go_sem] aFV bfi aFT ar1 alW afr aFR aFS aU0 bfh
attribute [go_sem] aFQ ar0 alV afq aFO aFP aIl aQj aIk aQi
attribute [go_sem] bbH bfg aFN arZ alU afp aFL aFM aIj aQh
attribute [go_sem] aIi aQg bbG bff aFK arY alT afo aFI aFJ
attribute [go_sem] aUZ bfe aFH arX alS afn aFF aFG aIh aQf
attribute [go_sem] aIg aQe bbF bfd aFD arV alQ afm aFB aFC
attribute [go_sem] aIf aQd aIe aQc bbE bfc aFA arU alP afl
attribute [go_sem] aFy aFz bfb aFx arT alO afk aFv aFw bfa
attribute [go_sem] aFu arS alN afj aFs aFt be9 aFr arR alM
attribute [go_sem] afi aFp aFq be8 aFo arQ alL afh aFm aFn
attribute [go_sem] be7 aFl arP alK afg aFj aFk aId aQb aIc
attribute [go_sem] aQa aIb aP9 bbD be6 aFi arO alJ aff aFg
attribute [go_sem] aFh aIa aP8 aH9 aP7 aH8 aP6 bbC be5 aFf
attribute [go_sem] arN alI afe aFd aFe be4 aFc arM alH afd
attribute [go_sem] aFa aFb be3 aE8 arK alD afc aE6 aE7 be2
attribute [go_sem] aE5 arJ alC afb aE3 aE4 be1 aE2 arI alB
attribute [go_sem] afa aE0 aE1 be0 aEZ arH alz ae9 aEX aEY
attribute [go_sem] beZ aEW arG aly ae8 aEU aEV aH7 aP5 aH6
attribute [go_sem] aP4 bbB beY aET arF alx ae7 aER aES aH5
attribute [go_sem] aP3 aH4 aP2 bbA beX aEQ arE alw ae6 aEO
attribute [go_sem] aEP beW aEN arD alv ae5 aEL aEM beV aEK
attribute [go_sem] arC alu ae4 aEI aEJ beU aEG arA als ae3
attribute [go_sem] aEE aEF beT aED arz alr ae2 aEB aEC beS
attribute [go_sem] aEA ary alq ae1 aEy aEz beR aEx arx alp
attribute [go_sem] ae0 aEv aEw beQ aEu arw alo aeZ aEs aEt
attribute [go_sem] beP aEr arv aln aeY aEp aEq beO aEo aru
attribute [go_sem] alm aeX aEm aEn beN aEl art alk aeW aEj
attribute [go_sem] aEk beM aEi ars alj aeV aEg aEh beL aEf
attribute [go_sem] arq ali aeU aEd aEe beK aEc arp alh aeT
attribute [go_sem] aEa aEb beJ aD9 aro alg aeS aD7 aD8 beI
attribute [go_sem] aD6 arn alf aeR aD4 aD5 beH aD3 arm ale
attribute [go_sem] aeQ aD1 aD2 beG aD0 arl ald aeP aDY aDZ
attribute [go_sem] beF aDX ark alc aeO aDV aDW beE aDU arj
attribute [go_sem] alb aeN aDS aDT beD aDR ari ala aeM aDP
attribute [go_sem] aDQ beC aDO arh ak9 aeL aDM aDN beB aDL
attribute [go_sem] arg ak8 aeK aDJ aDK beA aDI arf ak7 aeJ
attribute [go_sem] aDG aDH bez aDF ard ak6 aeI aDD aDE bey
attribute [go_sem] aDC arc ak5 aeH aDA aDB bex aDz arb ak4
attribute [go_sem] aeG aDx aDy bew aDw ara ak3 aeF aDu aDv
attribute [go_sem] bev aDt aq9 ak2 aeE aDr aDs beu aDq aq8
attribute [go_sem] ak1 aeD aDo aDp bet aDn aq7 ak0 aeC aDl
attribute [go_sem] aDm bes aDk aq6 akZ aeB aDi aDj ber aDh
attribute [go_sem] aq5 akY aeA aDf aDg bep aDe aq4 akX aez
attribute [go_sem] aDc aDd beo aDb aq3 akW aey aC9 aDa ben
attribute [go_sem] aC8 aq2 akV aex aC6 aC7 bem aC5 aq1 akU
attribute [go_sem] aew aC3 aC4 bel aC2 aq0 akT aev aC0 aC1
attribute [go_sem] bek aCZ aqZ akS aeu aCX aCY bej aCW aqY
attribute [go_sem] akR aet aCU aCV bei aCT aqX akQ aes aCR
attribute [go_sem] aCS beh aCQ aqW akP aer aCO aCP beg aCN
attribute [go_sem] aqV akO aeq aCL aCM bef aCK aqU akN aep
attribute [go_sem] aCI aCJ bee aCH aqT akM aeo aCF aCG bed
attribute [go_sem] aCE aqS akL aen aCC aCD bec aCB aqR akK
attribute [go_sem] aem aCz aCA beb aCy aqQ akJ ael aCw aCx
attribute [go_sem] bea aCv aqP akI aek aCt aCu aH3 aP1 aH2
attribute [go_sem] aP0 aH1 aPZ bbz bd9 aCs aqO akH aej aCq
attribute [go_sem] aCr aH0 aPY aHZ aPX aHY aPW bby bd8 aCp
attribute [go_sem] aqN akG aei aCn aCo bd7 aCm aqM akF aeh
attribute [go_sem] aCk aCl bd6 aCj aqL akE aeg aCh aCi bd5
attribute [go_sem] aCg aqK akD aef aCe aCf bd2 aCd aqJ akC
attribute [go_sem] aee aCb aCc bd1 aCa aqI akB aed aB8 aB9
attribute [go_sem] bd0 aB7 aqH akA aec aB5 aB6 bdZ aB4 aqG
attribute [go_sem] akz aeb aB2 aB3 bdY aB1 aqF aky aea aBZ
attribute [go_sem] aB0 bdX aBY aqE akx ad9 aBW aBX bdW aBV
attribute [go_sem] aqD akw ad8 aBT aBU bdV aBS aqC akv ad7
attribute [go_sem] aBQ aBR bdU aBP aqB aku ad6 aBN aBO bdT
attribute [go_sem] aBM aqA akt ad5 aBK aBL bdS aBJ aqz aks
attribute [go_sem] ad4 aBH aBI bdR aBG aqy akr ad3 aBE aBF
attribute [go_sem] bdQ aBD aqx akq ad2 aBB aBC aUY bdP aBA
attribute [go_sem] aqw akp ad1 aBy aBz bdO aBx aqv ako ad0
attribute [go_sem] aBv aBw bdN aBu aqu akn adY aBs aBt bdM
attribute [go_sem] aBq aqs akm adX aBo aBp bdL aBn aqr akl
attribute [go_sem] adW aBl aBm bdK aBk aqq akk adV aBi aBj
attribute [go_sem] bdJ aBh aqp akj adU aBf aBg bdI aBe aqo
attribute [go_sem] aki adT aBc aBd bdH aBb aqn akh adR aA9
attribute [go_sem] aBa bdG aA8 aqm akg adQ aA6 aA7 bdF aA5
attribute [go_sem] aql akf adP aA3 aA4 bdE aA2 aqk ake adO
attribute [go_sem] aA0 aA1 bdD aAZ aqj akd adN aAX aAY bdC
attribute [go_sem] aAW aqi akc adL aAU aAV bdB aAT aqh akb
attribute [go_sem] adK aAR aAS bdA aAQ aqg aka adJ aAO aAP
attribute [go_sem] bdz aAN aqf aj9 adI aAL aAM bdy aAK aqe
attribute [go_sem] aj8 adH aAI aAJ bdx aAH aqd aj7 adG aAF
attribute [go_sem] aAG bdw aAE aqc aj6 adF aAC aAD bdv aAA
attribute [go_sem] aqa aj4 adE aAy aAz bdu aAx ap9 aj3 adD
attribute [go_sem] aAv aAw bdt aAu ap8 aj2 adC aAs aAt bds
attribute [go_sem] aAr ap7 aj1 adB aAp aAq bdr aAo ap6 aj0
attribute [go_sem] adA aAm aAn bdq aAl ap5 ajZ adz aAj aAk
attribute [go_sem] bdp aAi ap4 ajY ady aAg aAh bdo aAf ap3
attribute [go_sem] ajX adx aAd aAe bdn aAc ap2 ajW adw aAa
attribute [go_sem] aAb bdm az9 ap1 ajV adv az7 az8 bdl az5
attribute [go_sem] apZ ajT adu az3 az4 bdk az2 apY ajS adt
attribute [go_sem] az0 az1 bdj azZ apX ajR ads azX azY bdi
attribute [go_sem] azW apW ajQ adr azU azV bdh azT apV ajP
attribute [go_sem] adq azR azS bdg azQ apU ajO adp azO azP
attribute [go_sem] bdf azN apT ajN ado azL azM bde azK apS
attribute [go_sem] ajM adn azI azJ bdd azH apR ajL adm azF
attribute [go_sem] azG bdc azD apO ajJ adl azB azC bdb azA
attribute [go_sem] apN ajI adk azy azz bda azx apM ajH adj
attribute [go_sem] azv azw bc9 azu apL ajG adi azs azt bc8
attribute [go_sem] azr apK ajF adh azp azq bc7 azo apJ ajE
attribute [go_sem] adg azm azn bc6 azl apI ajD adf azj azk
attribute [go_sem] bc5 azi apH ajC ade azg azh bc4 azf apG
attribute [go_sem] ajB adc azd aze bc3 azb apC ajz adb ay9
attribute [go_sem] aza bc2 ay8 apB ajy ada ay6 ay7 bc1 ay5
attribute [go_sem] apA ajx ac9 ay3 ay4 bc0 ay2 apz ajw ac8
attribute [go_sem] ay0 ay1 bcZ ayZ apy ajv ac7 ayX ayY bcY
attribute [go_sem] ayW apx aju ac6 ayU ayV bcX ayT apw ajt
attribute [go_sem] ac5 ayR ayS bcW ayQ apv ajs ac4 ayO ayP
attribute [go_sem] bcV ayN apu ajr ac3 ayL ayM bcU ayJ apr
attribute [go_sem] ajp ac2 ayH ayI bcT ayG apq ajo ac1 ayE
attribute [go_sem] ayF bcS ayD app ajn ac0 ayB ayC bcR ayA
attribute [go_sem] apo ajm acZ ayy ayz bcQ ayx apn ajl acY
attribute [go_sem] ayv ayw bcP ayu apm ajk acX ays ayt bcO
attribute [go_sem] ayr apl ajj acW ayp ayq bcN ayo apk aji
attribute [go_sem] acV aym ayn bcM ayl apj ajh acU ayj ayk
attribute [go_sem] bcL ayi api ajg acT ayg ayh bcK ayf aph
attribute [go_sem] ajf acS ayd aye bcJ ayc apg aje acR aya
attribute [go_sem] ayb bcI ax9 apf ajd acQ ax7 ax8 bcH ax6
attribute [go_sem] ape ajc acP ax4 ax5 bcG ax3 apd ajb acO
attribute [go_sem] ax1 ax2 bcF ax0 apc aja acN axY axZ bcE
attribute [go_sem] axX apb ai9 acM axV axW bcD axT ao9 ai7
attribute [go_sem] acL axR axS bcC axQ ao8 ai6 acK axO axP
attribute [go_sem] bcB axN ao7 ai5 acJ axL axM bcA axK ao6
attribute [go_sem] ai4 acI axI axJ bcz axH ao5 ai3 acH axF
attribute [go_sem] axG bcy axE ao4 ai2 acG axC axD bcx axA
attribute [go_sem] ao1 ai0 acF axy axz bcw axx ao0 aiZ acE
attribute [go_sem] axv axw bcv axu aoZ aiY acD axs axt bcu
attribute [go_sem] axr aoY aiX acC axp axq bct axo aoX aiW
attribute [go_sem] acB axm axn bcs axl aoW aiV acA axj axk
attribute [go_sem] bcr axi aoV aiU acz axg axh bcq axd aoR
attribute [go_sem] aiS acy axb axc bcp axa aoQ aiR acx aw8
attribute [go_sem] aw9 bco aw7 aoP aiQ acw aw5 aw6 bcn aw4
attribute [go_sem] aoO aiP acv aw2 aw3 bn1 bn0 bnZ bnY bnX
attribute [go_sem] bnW bnV bnU bku bkt bks bkr bkq bkp bko
attribute [go_sem] bkn bkm bkl bkk bkj bki bkh bkg bkf bke
attribute [go_sem] bkd bkc bkb bka bj9 bj8 bj7 bj6 bj5 bj4
attribute [go_sem] bj3 bj2 bj1 bj0 bjZ bjY bjX bjW bjV bjU
attribute [go_sem] bjT bjS bjR bjQ bjP bjO bjN bjM bjL bjK
attribute [go_sem] bjJ bjI bjH bjG bjF bjE bjD bjC bjB bjA
attribute [go_sem] bjz bjy bjx bjw bjv bju bjt bjs bjr bjq
attribute [go_sem] bjp bjo bjn bjm bjl bjk bjj bji bjh bjg
attribute [go_sem] bjf bje bjd bjc bjb bja bi9 bi8 bi7 bi6
attribute [go_sem] bi5 bi4 bi3 baS baR baQ baP baO baN baM
attribute [go_sem] baL baK baJ baI baH baG baF baE baD baC
attribute [go_sem] baB baA baz bay bax baw bav bau bat bas
attribute [go_sem] bar baq bap bao ban bam bal bak baj bai
attribute [go_sem] bah bag baf bae bac bab baa aZ9 aZ8 aZ7
attribute [go_sem] aZ6 aZ5 aZ4 aZ3 aZ2 aZ1 aZ0 aZZ aZY aZX
attribute [go_sem] aZW aZV aZU aZT aZS aZR aZQ aZP aZO aZN
attribute [go_sem] aZM aZL aZK aZJ aZI aZH aZG aZF aZE aZD
attribute [go_sem] aZC aZB aZA aZz aZy aZx aZw aZv aZu aZt
attribute [go_sem] aZs aZr aZq aZp aZo aZn aZm aZl aZk aZj
attribute [go_sem] aZi aZh aZg aZf aZe aZd aZc aZb aZa aY9
attribute [go_sem] aY8 aY7 aY6 aY5 aY4 aY3 aY2 aY1 aY0 aYZ
attribute [go_sem] aYY aYX aYW aYV aYU aYT aYS aYR aYQ aYP
attribute [go_sem] aYO aYN aYM aYL aYK aYJ aYI aYH aYG aYF
attribute [go_sem] aYE aYD aYC aYB aYA aYz aYy aYx aYw aYv
attribute [go_sem] aYu aYt aYs aYr aYq aYp aYo aYn aYm aYl
attribute [go_sem] aYk aYj aYi aYh aYg aYf aYe aYd aYc aYb
attribute [go_sem] aYa aX9 aX8 aX7 aX6 aX5 aX4 aX3 aX2 aX1
attribute [go_sem] aX0 aXZ aXY aXX aXW aXV aXU aXT aXS aXR
attribute [go_sem] aXQ aXP aXO aXN aXM aXL aXK aXJ aXI aXH
attribute [go_sem] aXG aXF aXE aXD aXC aXB aXA aXz aXy aXx
attribute [go_sem] aXw aXv aXu aXt aXs aXr aXq aXp aXo aXn
attribute [go_sem] aXm aXl aXk aXj aXi aXh aXg aXf aXe aXd
attribute [go_sem] aXc aXb aXa aW9 aW8 aW7
end Go.Ab
namespace Go.Ab
open Go Go.Proofs
set_option maxRecDepth 100000 in
theorem ags(U V:List Int)(j:Nat)(hU:gd U)(hV:gd V)(lU:U.length≤2000000)(h2:2≤V.length)(hj:j+V.length<U.length)(hv1:32768≤V.getD (V.length-1) 0)(hW:vl (U.drop j)<65536*vl V):
  Con Tryz.prog 329 true [.sl U.length (qe U),.sl V.length (qe V),.v (.int .i64 j)] [] (fun r hs bs=>∃q:Int,r=.v (.int .i64 q)∧hs=[]∧bs=[]∧(0≤q∧q<65536)∧vl (U.drop j)<(q+1)*vl V∧q*vl V<vl (U.drop j)+vl V):=by
 refine Con.of_aw Tryz.func329 rfl Tryz.ntmps329 (by simp) (by simp) (by simp) (W.sound ?_)
 show @W Tryz.prog 76 ⟨_⟩ ⟨fun x σ=>@za _ _ _ ⟨_⟩ _ ⟨_⟩ x σ⟩ _ _
 have hDl:V.length<(U.drop j).length:=by simp;omega
 have hz:=agO (yS hU j) hV hDl hW
 have hw:=aT5 hDl h2 hz
 have hvv:=aLm h2
 rw[jl,jl,jl]at hw
 have hx0:=qY (yB (yS hU j) (V.length-2))
 have hx1:=ZH (yB (yS hU j) (V.length-2))
 have hy0:=qY (yB hV (V.length-2))
 have hy1:=ZH (yB hV (V.length-2))
 rw[List.length_take,Nat.min_eq_left (by omega)]at hx1 hy1
 have gu0:=qO hU (j+V.length)
 have gu1:=qO hU (j+(V.length-1))
 have gu2:=qO hU (j+(V.length-2))
 have gv1:=qO hV (V.length-1)
 have gv2:=qO hV (V.length-2)
 have htop:=aWw hw hvv ⟨hx0,hx1⟩ ⟨hy0,hy1⟩ gu2.1 gu1.1 gv2.2 hW
 have e0:((j:Int)+(V.length:Int)).toNat=j+V.length:=by omega
 have e1:((j:Int)+(V.length:Int)-1).toNat=j+(V.length-1):=by omega
 have e2:((j:Int)+(V.length:Int)-2).toNat=j+(V.length-2):=by omega
 have f1:((V.length:Int)-1).toNat=V.length-1:=by omega
 have f2:((V.length:Int)-2).toNat=V.length-2:=by omega
 simp(disch:=omega)only[go_sem]
 refine qv rfl [⟨0,[],[]⟩,⟨1,[],[]⟩,⟨2,[],[]⟩,⟨3,[],[]⟩,⟨4,[],[]⟩,⟨5,[],[]⟩,⟨6,[],[]⟩,⟨7,[5],[]⟩,⟨8,[5],[]⟩,⟨9,[5],[]⟩,⟨10,[5],[]⟩,⟨11,[5],[]⟩,⟨12,[5],[]⟩,⟨13,[5],[]⟩,⟨14,[],[]⟩,⟨15,[],[]⟩] (by kernel_rfl) ?_
 simp(disch:=omega)only[go_sem,e0,e1]
 generalize hu0:U.getD (j+V.length) 0=u0 at*
 generalize hu1:U.getD (j+(V.length-1)) 0=u1 at*
 generalize hu2:U.getD (j+(V.length-2)) 0=u2 at*
 refine⟨by omega,by omega,by omega,by omega,?_⟩
 refine qv rfl [⟨0,[],[]⟩,⟨1,[],[]⟩,⟨2,[],[]⟩,⟨3,[],[]⟩,⟨4,[],[]⟩,⟨5,[],[]⟩,⟨6,[],[]⟩,⟨7,[5],[]⟩,⟨8,[5],[]⟩,⟨9,[5],[]⟩,⟨10,[5],[]⟩,⟨11,[5],[]⟩,⟨12,[5],[]⟩,⟨13,[5],[]⟩,⟨14,[12],[]⟩,⟨15,[],[]⟩] (by kernel_rfl) ?_
 simp(disch:=omega)only[go_sem,f1]
 generalize hvv1:V.getD (V.length-1) 0=v1 at*
 generalize hvv2:V.getD (V.length-2) 0=v2 at*
 generalize htt:u0*65536+u1=top at*
 refine⟨by omega,by omega,by omega,by omega,by omega,by omega,?_⟩
 have hq0:0≤top/v1:=Int.ediv_nonneg (by omega) (by omega)
 have hq1:top/v1≤65537:=by
  have:top/v1<65538:=Int.ediv_lt_of_lt_mul (by omega) (by omega)
  omega
 have hr0:=Int.emod_nonneg top (show v1≠0 by omega)
 have hr1:=Int.emod_lt_of_pos top (show 0<v1 by omega)
 have hqr:=Int.emod_add_mul_ediv top v1
 have hini:=aRn hw hvv ⟨hx0,hx1⟩ ⟨hy0,hy1⟩ gu2 gv2.1 hq0 (show top<(top/v1+1)*v1 by rw[Int.add_mul,Int.mul_comm (top/v1)];omega)
 have hqr':top/v1*v1+top % v1=top:=by rw[Int.mul_comm];omega
 generalize top/v1=q0 at*
 generalize top % v1=r0 at*
 refine qi (fun x:Int×Int=>[(0,.sl U.length (qe U)),(1,.sl V.length (qe V)),(2,.v (.int .i64 j)),(7,.v (.int .i64 V.length)),(9,.v (.int .i64 x.1)),(10,.v (.int .i64 x.2))])
  (fun _=>[]) (fun x=>(0≤x.1∧x.1≤65537)∧(0≤x.2∧x.2<65536)∧x.1*v1+x.2=top∧vl (U.drop j)<(x.1+1)*vl V) (fun x=>x.1.toNat) (q0,r0) ⟨⟨hq0,hq1⟩,⟨hr0,by omega⟩,hqr',hini⟩
  (Le.lst [] _ _ rfl (by simp(disch:=omega)only[go_sem];try omega) (by simp(disch:=omega)only[go_sem])) ?_
 rintro⟨q,r⟩ ⟨hq,hr,hqr2,hlt⟩
 dsimp only at hq hr hqr2 hlt ⊢
 have hqv:0≤q*v2∧q*v2≤65537*65535:=⟨Int.mul_nonneg hq.1 gv2.1,Int.mul_le_mul hq.2 (by omega) gv2.1 (by omega)⟩
 simp(disch:=omega)only[go_sem]
 refine qv rfl [⟨0,[],[]⟩,⟨1,[],[]⟩,⟨2,[],[]⟩,⟨3,[],[]⟩,⟨4,[],[]⟩,⟨5,[],[]⟩,⟨6,[],[]⟩,⟨7,[],[]⟩,⟨8,[],[]⟩,⟨9,[],[]⟩,⟨10,[8],[]⟩,⟨11,[8],[]⟩,⟨12,[8],[]⟩,⟨13,[8],[]⟩,⟨14,[8],[]⟩,⟨15,[8],[]⟩,⟨16,[8],[]⟩,⟨17,[8],[]⟩,⟨18,[8],[]⟩,⟨19,[8],[]⟩,⟨20,[],[]⟩,⟨21,[],[]⟩] (by kernel_rfl) ?_
 simp(disch:=omega)only[go_sem]
 refine zN (fun h1=>?_) (fun h1=>?_)
 ·simp(disch:=omega)only[go_sem,h1,e2,f2,hu2,hvv2]
  refine⟨by omega,by omega,by omega,by omega,qg (fun h2=>?_) (fun h2=>?_)⟩
  ·simp(disch:=omega)only[go_sem,h2,f1,hvv1]
   have hst:=atk hw hvv ⟨hx0,hx1⟩ ⟨hy0,hy1⟩ hW gv2.1 (by omega) hq.1 hqr2 (.inr h2)
   have hqp:0<q:=by
    rcases(by omega:0<q∨q=0)with h|h
    ·exact h
    ·subst h;omega
   have hm:(q-1)*v1+(r+v1)=top:=by rw[Int.sub_mul];omega
   refine⟨by omega,by omega,qg (fun h3=>?_) (fun h3=>?_)⟩
   ·simp(disch:=omega)only[go_sem,h3]
    have h4:q-1<65536:=by
     rcases(by omega:q-1<65536∨65536≤q-1)with h|h
     ·exact h
     ·have:=Int.mul_le_mul_of_nonneg_right h (show 0≤v1 by omega)
      omega
    have h5:(q-1)*v2≤(r+v1)*65536+u2:=by
     have:(q-1)*v2≤65535*65535:=Int.mul_le_mul (by omega) (by omega) gv2.1 (by omega)
     omega
    have h6:=afQ hw hvv ⟨hx0,hx1⟩ ⟨hy0,hy1⟩ gv2.1 (by omega) ⟨by omega,h4⟩ hm h5
    exact qz (by simp(disch:=omega)only[go_sem]) (by simp(disch:=omega)only[go_sem]) ⟨q-1,rfl,rfl,rfl,⟨by omega,h4⟩,by rw[show q-1+1=q by omega];exact hst,h6⟩
   ·simp(disch:=omega)only[go_sem,h3]
    refine qb (q-1,r+v1) [] ⟨by show 0≤q-1∧q-1≤65537;omega,by show 0≤r+v1∧r+v1<65536;omega,hm,by show _<(q-1+1)*vl V;rw[show q-1+1=q by omega];exact hst⟩ (by show(q-1).toNat<q.toNat;omega) rfl (by simp(disch:=omega)only[go_sem];try omega) (by simp(disch:=omega)only[go_sem])
  ·simp(disch:=omega)only[go_sem,h2]
   have h6:=afQ hw hvv ⟨hx0,hx1⟩ ⟨hy0,hy1⟩ gv2.1 (by omega) ⟨hq.1,by omega⟩ hqr2 (by omega)
   exact qz (by simp(disch:=omega)only[go_sem]) (by simp(disch:=omega)only[go_sem]) ⟨q,rfl,rfl,rfl,⟨hq.1,by omega⟩,hlt,h6⟩
 ·simp(disch:=omega)only[go_sem,h1,f1,hvv1]
  have hst:=atk hw hvv ⟨hx0,hx1⟩ ⟨hy0,hy1⟩ hW gv2.1 (by omega) hq.1 hqr2 (.inl h1)
  have hqp:0<q:=by omega
  have hm:(q-1)*v1+(r+v1)=top:=by rw[Int.sub_mul];omega
  refine⟨by omega,by omega,qg (fun h3=>?_) (fun h3=>?_)⟩
  ·simp(disch:=omega)only[go_sem,h3]
   have h4:q-1<65536:=by
    rcases(by omega:q-1<65536∨65536≤q-1)with h|h
    ·exact h
    ·have:=Int.mul_le_mul_of_nonneg_right h (show 0≤v1 by omega)
     omega
   have h5:(q-1)*v2≤(r+v1)*65536+u2:=by
    have:(q-1)*v2≤65535*65535:=Int.mul_le_mul (by omega) (by omega) gv2.1 (by omega)
    omega
   have h6:=afQ hw hvv ⟨hx0,hx1⟩ ⟨hy0,hy1⟩ gv2.1 (by omega) ⟨by omega,h4⟩ hm h5
   exact qz (by simp(disch:=omega)only[go_sem]) (by simp(disch:=omega)only[go_sem]) ⟨q-1,rfl,rfl,rfl,⟨by omega,h4⟩,by rw[show q-1+1=q by omega];exact hst,h6⟩
  ·simp(disch:=omega)only[go_sem,h3]
   refine qb (q-1,r+v1) [] ⟨by show 0≤q-1∧q-1≤65537;omega,by show 0≤r+v1∧r+v1<65536;omega,hm,by show _<(q-1+1)*vl V;rw[show q-1+1=q by omega];exact hst⟩ (by show(q-1).toNat<q.toNat;omega) rfl (by simp(disch:=omega)only[go_sem];try omega) (by simp(disch:=omega)only[go_sem])
end Go.Ab
namespace Go.Ab
open Go Go.Proofs
theorem abM(U V:List Int)(j:Nat)(q:Int)(hU:gd U)(hV:gd V)(lU:U.length≤2000000)(hj:j+V.length<U.length)(hq:0≤q∧q<65536):
  Con Tryz.prog 330 false [.rf 10000000 0 U.length,.sl V.length (qe V),.v (.int .i64 j),.v (.int .i64 q)] [.own 1 (qe U)]
   (fun r hs bs=>∃(U':List Int) (bo:Int),r=.v (.bool (decide (U.getD (j+V.length) 0-bo<0)))∧hs=[]∧bs=[.own 1 (qe (U'.set (j+V.length) (U.getD (j+V.length) 0-bo)))]∧
    U'.length=U.length∧gd U'∧(0≤bo∧bo<65536)∧(∀t,t<j∨j+V.length≤t→U'.getD t 0=U.getD t 0)∧vl U'-65536^(j+V.length)*bo=vl U-65536^j*(q*vl V)):=by
 refine Con.of_aw Tryz.func330 rfl Tryz.ntmps330 (by simp) (by simp) (by simp) (W.sound ?_)
 show @W Tryz.prog 68 ⟨_⟩ ⟨fun x σ=>@za _ _ _ ⟨_⟩ _ ⟨_⟩ x σ⟩ _ _
 simp(disch:=omega)only[go_sem]
 refine qi (fun x:Nat×List Int×Int=>[(0,.rf 10000000 0 U.length),(1,.sl V.length (qe V)),(2,.v (.int .i64 j)),(3,.v (.int .i64 q)),(9,.v (.int .i64 x.2.2)),(13,.sl V.length (qe V)),(14,.v (.int .i64 V.length)),(15,.v (.int .i64 x.1))])
  (fun x=>[(10000000,.own 1 (qe x.2.1))])
  (fun x=>x.1≤V.length∧x.2.1.length=U.length∧gd x.2.1∧(0≤x.2.2∧x.2.2<65536)∧(∀t,t<j∨j+x.1≤t→x.2.1.getD t 0=U.getD t 0)∧vl x.2.1-65536^(j+x.1)*x.2.2=vl U-65536^j*(q*vl (V.take x.1)))
  (fun x=>V.length-x.1) (0,U,0) ⟨by simp,rfl,hU,by simp,fun _ _=>rfl,by simp[vl]⟩
  (Le.lst [] _ _ rfl (by simp(disch:=omega)only[go_sem];try omega) (by simp(disch:=omega)only[go_sem])) ?_
 rintro⟨i,U1,bo⟩ ⟨hi,hl1,hg1,hbo,hsame,hval⟩
 dsimp only at hi hl1 hg1 hbo hsame hval ⊢
 simp(disch:=omega)only[go_sem]
 refine qg (fun h1=>?_) (fun h1=>?_)
 ·have hx:=qO hV i
  have hu:=qO hg1 (j+i)
  have hqx:0≤q*V.getD i 0∧q*V.getD i 0≤65535*65535:=⟨Int.mul_nonneg hq.1 hx.1,Int.mul_le_mul (by omega) (by omega) hx.1 (by omega)⟩
  have e1:((j:Int)+(i:Int)).toNat=j+i:=by omega
  have hstep:∀d b:Int,d-65536*b=U1.getD (j+i) 0-q*V.getD i 0-bo→vl (U1.set (j+i) d)-65536^(j+(i+1))*b=vl U-65536^j*(q*vl (V.take (i+1))):=by
   intro d b hd
   rw[Zu (by omega),ze,←Nat.add_assoc,Int.pow_succ]
   have e3:(65536:Int)^(j+i)=65536^j*65536^i:=Int.pow_add _ _ _
   rw[e3]at hval ⊢
   generalize (65536:Int)^i=Pi at*
   generalize (65536:Int)^j=Pj at*
   grind
  have hsm:∀d:Int,∀t,t<j∨j+(i+1)≤t→(U1.set (j+i) d).getD t 0=U.getD t 0:=fun d t ht=>by
   rw[jI (by omega),if_neg (by omega)];exact hsame t (by omega)
  simp(disch:=omega)only[go_sem,h1,e1]
  refine⟨by omega,by omega,by omega,by omega,qg (fun h2=>?_) (fun h2=>?_)⟩
  ·simp(disch:=omega)only[go_sem,h2,e1]
   generalize hb:(0-(U1.getD (j+i) 0-q*V.getD i 0-bo)+65536-1)/65536=b
   refine⟨by omega,by omega,qb (i+1,U1.set (j+i) (U1.getD (j+i) 0-q*V.getD i 0-bo+b*65536),b) [] ⟨by show i+1≤_;omega,by simp[hl1],Qj hg1 (by omega),by show 0≤b∧b<65536;omega,hsm _,hstep (U1.getD (j+i) 0-q*V.getD i 0-bo+b*65536) b (by omega)⟩
    (by show V.length-(i+1)<V.length-i;omega) rfl (by simp(disch:=omega)only[go_sem];try omega) (by simp(disch:=omega)only[go_sem])⟩
  ·simp(disch:=omega)only[go_sem,h2,e1]
   refine⟨by omega,by omega,qb (i+1,U1.set (j+i) (U1.getD (j+i) 0-q*V.getD i 0-bo),0) [] ⟨by show i+1≤_;omega,by simp[hl1],Qj hg1 (by omega),by simp,hsm _,hstep (U1.getD (j+i) 0-q*V.getD i 0-bo) 0 (by omega)⟩
    (by show V.length-(i+1)<V.length-i;omega) rfl (by simp(disch:=omega)only[go_sem];try omega) (by simp(disch:=omega)only[go_sem])⟩
 ·have hiA:i=V.length:=by omega
  subst hiA
  rw[List.take_length]at hval
  have e1:((j:Int)+(V.length:Int)).toNat=j+V.length:=by omega
  have hu:=qO hg1 (j+V.length)
  have es:=hsame (j+V.length) (by omega)
  have eg:(U1.set (j+V.length) (U.getD (j+V.length) 0-bo)).getD (j+V.length) 0=U.getD (j+V.length) 0-bo:=by rw[jI (by omega),if_pos rfl]
  simp(disch:=omega)only[go_sem,h1,e1,es]
  refine⟨by omega,by omega,by omega,by omega,by omega,by simp;omega,?_⟩
  simp(disch:=omega)only[go_sem,eg]
  refine qh [] [] [.own 1 (qe (U1.set (j+V.length) (U.getD (j+V.length) 0-bo)))] [.v (.bool (decide (U.getD (j+V.length) 0-bo<0)))] rfl (by simp(disch:=omega)only[go_sem]) (by simp(disch:=omega)only[go_sem]) (by simp) (by simp) ⟨U1,bo,rfl,rfl,rfl,hl1,hg1,hbo,hsame,hval⟩
theorem agv(U V:List Int)(j:Nat)(hU:∀t,t≠j+V.length→0≤U.getD t 0∧U.getD t 0<65536)(hUt: -65536≤U.getD (j+V.length) 0∧U.getD (j+V.length) 0<65536)(hV:gd V)(lU:U.length≤2000000)(hj:j+V.length<U.length):
  Con Tryz.prog 331 false [.rf 10000000 0 U.length,.sl V.length (qe V),.v (.int .i64 j)] [.own 1 (qe U)]
   (fun r hs bs=>∃(U':List Int),r=.tu []∧hs=[]∧bs=[.own 1 (qe U')]∧
    U'.length=U.length∧(∀t,t≠j+V.length→0≤U'.getD t 0∧U'.getD t 0<65536)∧(∀t,t<j∨j+V.length<t→U'.getD t 0=U.getD t 0)∧vl U'=vl U+65536^j*vl V):=by
 refine Con.of_aw Tryz.func331 rfl Tryz.ntmps331 (by simp) (by simp) (by simp) (W.sound ?_)
 show @W Tryz.prog 46 ⟨_⟩ ⟨fun x σ=>@za _ _ _ ⟨_⟩ _ ⟨_⟩ x σ⟩ _ _
 simp(disch:=omega)only[go_sem]
 refine qi (fun x:Nat×List Int×Int=>[(0,.rf 10000000 0 U.length),(1,.sl V.length (qe V)),(2,.v (.int .i64 j)),(6,.v (.int .i64 x.2.2)),(9,.sl V.length (qe V)),(10,.v (.int .i64 V.length)),(11,.v (.int .i64 x.1))])
  (fun x=>[(10000000,.own 1 (qe x.2.1))])
  (fun x=>x.1≤V.length∧x.2.1.length=U.length∧(∀t,t≠j+V.length→0≤x.2.1.getD t 0∧x.2.1.getD t 0<65536)∧(0≤x.2.2∧x.2.2≤1)∧(∀t,t<j∨j+x.1≤t→x.2.1.getD t 0=U.getD t 0)∧vl x.2.1+65536^(j+x.1)*x.2.2=vl U+65536^j*vl (V.take x.1))
  (fun x=>V.length-x.1) (0,U,0) ⟨by simp,rfl,hU,by simp,fun _ _=>rfl,by simp[vl]⟩
  (Le.lst [] _ _ rfl (by simp(disch:=omega)only[go_sem];try omega) (by simp(disch:=omega)only[go_sem])) ?_
 rintro⟨i,U1,cy⟩ ⟨hi,hl1,hg1,hcy,hsame,hval⟩
 dsimp only at hi hl1 hg1 hcy hsame hval ⊢
 simp(disch:=omega)only[go_sem]
 refine qg (fun h1=>?_) (fun h1=>?_)
 ·have hx:=qO hV i
  have hu:=hg1 (j+i) (by omega)
  have e1:((j:Int)+(i:Int)).toNat=j+i:=by omega
  simp(disch:=omega)only[go_sem,h1,e1]
  generalize hb:cy+(U1.getD (j+i) 0+V.getD i 0)=b
  have hg2:∀t,t≠j+V.length→0≤(U1.set (j+i) (b % 65536)).getD t 0∧(U1.set (j+i) (b % 65536)).getD t 0<65536:=fun t ht=>by
   rw[jI (by omega)]
   split
   ·omega
   ·exact hg1 t ht
  refine⟨by omega,by omega,by omega,by omega,by omega,by omega,qb (i+1,U1.set (j+i) (b % 65536),b/65536) [] ⟨by show i+1≤_;omega,by simp[hl1],hg2,by show 0≤b/65536∧b/65536≤1;omega,fun t ht=>?_,?_⟩
   (by show V.length-(i+1)<V.length-i;omega) rfl (by simp(disch:=omega)only[go_sem];try omega) (by simp(disch:=omega)only[go_sem])⟩
  ·show(U1.set (j+i) (b % 65536)).getD t 0=_
   have ht:t<j∨j+(i+1)≤t:=ht
   rw[jI (by omega),if_neg (by omega)];exact hsame t (by omega)
  ·show vl (U1.set (j+i) (b % 65536))+65536^(j+(i+1))*(b/65536)=vl U+65536^j*vl (V.take (i+1))
   rw[Zu (by omega),ze,←Nat.add_assoc,Int.pow_succ]
   have e3:(65536:Int)^(j+i)=65536^j*65536^i:=Int.pow_add _ _ _
   have e4:b % 65536+65536*(b/65536)=b:=Int.emod_add_mul_ediv b 65536
   rw[e3]at hval ⊢
   generalize (65536:Int)^i=Pi at*
   generalize (65536:Int)^j=Pj at*
   grind
 ·have hiA:i=V.length:=by omega
  subst hiA
  rw[List.take_length]at hval
  have e1:((j:Int)+(V.length:Int)).toNat=j+V.length:=by omega
  have es:=hsame (j+V.length) (by omega)
  simp(disch:=omega)only[go_sem,h1,e1,es]
  refine⟨by omega,by omega,by omega,by omega,?_⟩
  refine qh [] [] [.own 1 (qe (U1.set (j+V.length) (U.getD (j+V.length) 0+cy)))] [] rfl (by simp(disch:=omega)only[go_sem]) (by simp(disch:=omega)only[go_sem]) (by simp) (by simp) ⟨_,rfl,rfl,rfl,by simp[hl1],fun t ht=>?_,fun t ht=>?_,?_⟩
  ·rw[jI (by omega),if_neg ht];exact hg1 t ht
  ·rw[jI (by omega),if_neg (by omega)];exact hsame t (by omega)
  ·rw[Zu (by omega),es]
   generalize (65536:Int)^(j+V.length)=Pj at*
   grind
end Go.Ab
namespace Go.Ab
open Go Go.Proofs
theorem jK(xs:List Int)(hl:xs.length≤2^40):Con Tryz.prog 295 false [.rf 10000000 0 xs.length] [.own 1 (qe xs)] (fun r hs bs=>r=.rf 10000000 0 (JN xs).length∧hs=[]∧bs=[.own 1 (qe xs)]):=by
 refine Con.of_aw Tryz.func295 rfl Tryz.ntmps295 (by simp) (by simp) (by simp) (W.sound ?_)
 show @W Tryz.prog 21 ⟨_⟩ ⟨fun x σ=>@za _ _ _ ⟨_⟩ _ ⟨_⟩ x σ⟩ _ _
 simp(disch:=omega)only[go_sem]
 refine qi (fun m:Nat=>[(0,.rf 10000000 0 m)]) (fun _=>[(10000000,.own 1 (qe xs))]) (fun m=>m≤xs.length∧JN (xs.take m)=JN xs) id xs.length ⟨Nat.le_refl _,by simp⟩
  (Le.lst [] _ _ rfl (by simp(disch:=omega)only[go_sem];try omega) (by simp(disch:=omega)only[go_sem])) ?_
 intro m ⟨hm,hx⟩
 have hmx:∀k,k+1=m→xs.take m=xs.take k++[xs.getD k 0]:=fun k hk=>by rw[←hk];exact yc (by omega)
 simp(disch:=omega)only[go_sem]
 refine qg (fun h1=>?_) (fun h1=>?_)
 ·obtain⟨k,rfl⟩:∃k,m=k+1:=⟨m-1,by omega⟩
  have e1:((k+1:Nat):Int)-1=(k:Nat):=by omega
  rw[hmx k rfl]at hx
  simp(disch:=omega)only[go_sem,h1,e1]
  refine⟨by omega,by omega,qg (fun h2=>?_) (fun h2=>?_)⟩
  ·simp(disch:=omega)only[go_sem,h2,e1]
   rw[h2,QW]at hx
   refine⟨by omega,qb k [] ⟨by omega,hx⟩ (by show k<k+1;omega) rfl (by simp(disch:=omega)only[go_sem];try omega) (by simp(disch:=omega)only[go_sem])⟩
  ·simp(disch:=omega)only[go_sem,h2]
   refine qh [] [] [.own 1 (qe xs)] [.rf 10000000 0 (k+1)] rfl (by simp(disch:=omega)only[go_sem]) (by simp(disch:=omega)only[go_sem]) (by simp) (by simp) ⟨?_,rfl,rfl⟩
   rw[XB _ h2,←hmx k rfl]at hx
   rw[←hx,List.length_take,Nat.min_eq_left hm];rfl
 ·simp(disch:=omega)only[go_sem,h1]
  refine qh [] [] [.own 1 (qe xs)] [.rf 10000000 0 m] rfl (by simp(disch:=omega)only[go_sem]) (by simp(disch:=omega)only[go_sem]) (by simp) (by simp) ⟨?_,rfl,rfl⟩
  have:m=0:=by omega
  subst this
  rw[←hx];rfl
end Go.Ab
namespace Go.Ab
open Go Go.Proofs
theorem as5{x y:Int}(hx:0≤x∧x<65536)(hy:0≤y∧y<65536):0≤x*y∧x*y≤4294836225:=by
 have h1:=Int.mul_nonneg hx.1 hy.1
 have h2:x*y≤65535*65535:=Int.mul_le_mul (by omega) (by omega) hy.1 (by omega)
 omega
theorem aul(cl:Bool)(A B:List Int)(hA:gd A)(hB:gd B)(lA:A.length≤1000000)(lB:B.length≤1000000):
  Con Tryz.prog 252 cl [.sl A.length (qe A),.sl B.length (qe B)] [] (avz (lim (vl A*vl B).toNat)):=by
 refine Con.of_aw Tryz.func252 rfl Tryz.ntmps252 (by simp) (by simp) (by simp) (W.sound ?_)
 show @W Tryz.prog 63 ⟨_⟩ ⟨fun x σ=>@za _ _ _ ⟨_⟩ _ ⟨_⟩ x σ⟩ _ _
 simp(disch:=omega)only[go_sem]
 refine⟨⟨by omega,by omega,by omega⟩,?_⟩
 refine qi (fun x:Nat×List Int=>[(1,.sl B.length (qe B)),(5,.rf 180000000 0 (A.length+B.length)),(17,.sl A.length (qe A)),(18,.v (.int .i64 A.length)),(19,.v (.int .i64 x.1))])
  (fun x=>[(180000000,.own 1 (qe x.2))])
  (fun x=>x.1≤A.length∧x.2.length=A.length+B.length∧gd x.2∧vl x.2=vl (A.take x.1)*vl B∧∀j,x.1+B.length≤j→x.2.getD j 0=0)
  (fun x=>A.length-x.1) (0,List.replicate (A.length+B.length) 0) ⟨by simp,by simp,zy _,by simp[z7,vl],fun j _=>by
   rw[List.getD_eq_getElem?_getD,List.getElem?_replicate];split<;>rfl⟩
  (Le.lst [] _ _ rfl (by simp(disch:=omega)only[go_sem];try omega) (by simp(disch:=omega)only[go_sem,show((A.length:Int)+(B.length:Int)).toNat=A.length+B.length by omega])) ?_
 rintro⟨i,out⟩ ⟨hi,hol,hog,hov,hoz⟩
 dsimp only at hi hol hog hov hoz ⊢
 simp(disch:=omega)only[go_sem]
 refine qg (fun h1=>?_) (fun h1=>?_)
 ·have hx:=qO hA i
  simp(disch:=omega)only[go_sem,h1]
  refine⟨by omega,by omega,?_⟩
  refine qi (fun x:Nat×List Int×Int=>[(1,.sl B.length (qe B)),(5,.rf 180000000 0 (A.length+B.length)),(17,.sl A.length (qe A)),(18,.v (.int .i64 A.length)),(19,.v (.int .i64 i)),(6,.v (.int .i64 i)),
    (7,.v (.int .i64 (A.getD i 0))),(8,.v (.int .i64 x.2.2)),(24,.sl B.length (qe B)),(25,.v (.int .i64 B.length)),(26,.v (.int .i64 x.1))])
   (fun x=>[(180000000,.own 1 (qe x.2.1))])
   (fun x=>x.1≤B.length∧x.2.1.length=A.length+B.length∧gd x.2.1∧(0≤x.2.2∧x.2.2<65536)∧vl x.2.1+65536^(i+x.1)*x.2.2=vl out+65536^i*(A.getD i 0*vl (B.take x.1))∧∀j,i+B.length≤j→x.2.1.getD j 0=0)
   (fun x=>B.length-x.1) (0,out,0) ⟨by simp,hol,hog,by simp,by simp[vl],hoz⟩
   (Le.lst [] _ _ rfl (by simp(disch:=omega)only[go_sem];try omega) (by simp(disch:=omega)only[go_sem])) ?_
  rintro⟨j,o2,cy⟩ ⟨hj,hol2,hog2,hcy,hov2,hoz2⟩
  dsimp only at hj hol2 hog2 hcy hov2 hoz2 ⊢
  simp(disch:=omega)only[go_sem]
  refine qg (fun h2=>?_) (fun h2=>?_)
  ·have hy:=qO hB j
   have ho:=qO hog2 (i+j)
   have hxy:=as5 hx hy
   have e1:((i:Int)+(j:Int)).toNat=i+j:=by omega
   simp(disch:=omega)only[go_sem,h2,e1]
   generalize hq:cy+(o2.getD (i+j) 0+A.getD i 0*B.getD j 0)=q
   refine⟨by omega,by omega,by omega,by omega,by omega,by omega,qb (j+1,o2.set (i+j) (q % 65536),q/65536) [] ⟨by show j+1≤_;omega,by simp[hol2],Qj hog2 (by omega),by show 0≤q/65536∧q/65536<65536;omega,?_,fun k hk=>?_⟩
    (by show B.length-(j+1)<B.length-j;omega) rfl (by simp(disch:=omega)only[go_sem];try omega) (by simp(disch:=omega)only[go_sem])⟩
   ·show vl (o2.set (i+j) (q % 65536))+65536^(i+(j+1))*(q/65536)=vl out+65536^i*(A.getD i 0*vl (B.take (j+1)))
    rw[Zu (by omega),js (by omega),←Nat.add_assoc,Int.pow_succ]
    have e2:(65536:Int)^(i+j)=65536^i*65536^j:=Int.pow_add _ _ _
    have e3:q % 65536+65536*(q/65536)=q:=Int.emod_add_mul_ediv q 65536
    rw[e2]at hov2 ⊢
    generalize (65536:Int)^i=Pi at*
    generalize (65536:Int)^j=Pj at*
    grind
   ·show(o2.set (i+j) (q % 65536)).getD k 0=0
    rw[List.getD_eq_getElem?_getD,List.getElem?_set_ne (by omega),←List.getD_eq_getElem?_getD]
    exact hoz2 k hk
  ·simp(disch:=omega)only[go_sem,h2]
   have e1:((i:Int)+(B.length:Int)).toNat=i+B.length:=by omega
   have hjB:j=B.length:=by omega
   subst hjB
   rw[List.take_length]at hov2
   simp(disch:=omega)only[go_sem,e1]
   refine⟨by omega,by omega,qb (i+1,o2.set (i+B.length) cy) [] ⟨by show i+1≤_;omega,by simp[hol2],Qj hog2 hcy,?_,fun k hk=>?_⟩ (by show A.length-(i+1)<A.length-i;omega) rfl (by simp(disch:=omega)only[go_sem];try omega) (by simp(disch:=omega)only[go_sem])⟩
   ·show vl (o2.set (i+B.length) cy)=vl (A.take (i+1))*vl B
    rw[Zu (by omega),hoz2 _ (Nat.le_refl _),js (by omega)]
    generalize (65536:Int)^i=Pi at*
    grind
   ·show(o2.set (i+B.length) cy).getD k 0=0
    rw[List.getD_eq_getElem?_getD,List.getElem?_set_ne (by show i+B.length≠k;omega),←List.getD_eq_getElem?_getD]
    exact hoz2 k (by omega)
 ·simp(disch:=omega)only[go_sem,h1]
  have hiA:i=A.length:=by omega
  subst hiA
  rw[List.take_length]at hov
  refine zi false [180000000] (jK out (by omega)) (by rw[←hol];simp(disch:=omega)only[go_sem]) (by simp(disch:=omega)only[go_sem]) rfl (q7 (z:=1) (cs:=qe out) (by simp(disch:=omega)only[go_sem]) (by simp(disch:=omega)only[go_sem])) (by intro n hn;exact⟨_,List.mem_singleton.2 rfl,by rw[List.mem_singleton.1 hn];rfl⟩) ?_
  rintro r hs bs ⟨rfl,rfl,rfl⟩ _
  refine⟨by simp[qR],?_⟩
  simp(disch:=omega)only[go_sem]
  obtain⟨z,hz⟩:=zW out
  have hc:=jq hog
  rw[hov]at hc
  rw[hc]at hz ⊢
  refine qh [(0,180000000)] [.own 1 (qe out)] [] [.rf 0 0 (lim (vl A*vl B).toNat).length] rfl (by simp(disch:=omega)only[go_sem]) (by simp(disch:=omega)only[go_sem]) (by simp) (by intro _;simp[zv,AV.pu,AV.pu.puL,Ob.pu,zf]) (.inr ⟨List.replicate z 0,rfl,by rw[←hz]⟩)
end Go.Ab
namespace Go.Ab
open Go Go.Proofs
theorem aup(cl:Bool)(n:Nat)(hn:n<2^63):Con Tryz.prog 157 cl [.v (.int .i64 n)] [] (avz (lim n)):=by
 refine Con.of_aw Tryz.func157 rfl Tryz.ntmps157 (by simp) (by simp) (by simp) (W.sound ?_)
 show @W Tryz.prog 14 ⟨_⟩ ⟨fun x σ=>@za _ _ _ ⟨_⟩ _ ⟨_⟩ x σ⟩ _ _
 simp(disch:=omega)only[go_sem]
 refine qi (fun x:Nat×List Int=>[(0,.v (.int .i64 x.1)),(3,.rf 1 0 x.2.length)]) (fun x=>[(1,.own 1 (qe x.2))]) (fun x=>x.1<2^63∧x.2++lim x.1=lim n) (fun x=>x.1) (n,[]) ⟨hn,rfl⟩
  ((Le.ghost 3 1 1 (by simp(disch:=omega)only[go_sem]) (by simp(disch:=omega)only[go_sem])).trans (Le.lst [] _ _ rfl (by simp(disch:=omega)only[go_sem]) (by simp(disch:=omega)only[go_sem]))) ?_
 rintro⟨k,l⟩ ⟨hk,hl⟩
 dsimp only at hk hl ⊢
 have hlen:l.length≤4:=by
  have h1:=congrArg List.length hl
  have h2:=j7 (n:=n) (k:=4) |>.2 (by omega)
  rw[List.length_append]at h1;omega
 simp(disch:=omega)only[go_sem]
 refine qg (fun h1=>?_) (fun h1=>?_)
 ·simp(disch:=omega)only[go_sem,h1]
  have hk0:k≠0:=by omega
  refine⟨by omega,qb (k/65536,l++[(k:Int) % 65536]) [(1,140000000)] ⟨by show k/65536<2^63;omega,?_⟩ (by show k/65536<k;omega) rfl (by simp(disch:=omega)only[go_sem,List.length_append];omega) (by simp(disch:=omega)only[go_sem])⟩
  rw[yA hk0]at hl
  rw[←hl,List.append_assoc];rfl
 ·simp(disch:=omega)only[go_sem,h1]
  have hk0:k=0:=by omega
  subst hk0
  rw[qt,List.append_nil]at hl
  subst hl
  refine qh [(0,1)] [.own 1 (qe (lim n++[]))] [] [.rf 0 0 (lim n).length] rfl (by simp(disch:=omega)only[go_sem]) (by simp(disch:=omega)only[go_sem]) (by simp) (by intro _;simp[zv,AV.pu,AV.pu.puL,Ob.pu,zf]) (.inr ⟨[],rfl,rfl⟩)
end Go.Ab
namespace Go.Ab
open Go Go.Proofs
theorem yN(k:Nat)(h:k<16):(0:Int)<2^k∧(2:Int)^k≤32768:=by
 have:∀k,k<16→(0:Int)<2^k∧(2:Int)^k≤32768:=by decide
 exact this k h
theorem as3{x:Int}(hx:0≤x∧x<65536){k:Nat}(hk:k<16):0≤x*2^k∧x*2^k≤2147450880:=by
 obtain⟨h1,h2⟩:=yN k hk
 have h3:=Int.mul_nonneg hx.1 (Int.le_of_lt h1)
 have h4:x*2^k≤65535*32768:=Int.mul_le_mul (by omega) h2 (by omega) (by omega)
 omega
theorem abh(k:Nat):(65536:Int)^(k/16)*2^(k % 16)=2^k:=by
 have e:(65536:Int)=2^16:=by decide
 rw[e,←Int.pow_mul,←Int.pow_add,Nat.div_add_mod]
theorem bbn(cl:Bool)(A:List Int)(k:Nat)(hA:gd A)(lA:A.length≤1000000)(hk:k≤100000000):
  Con Tryz.prog 248 cl [.sl A.length (qe A),.v (.int .i64 k)] [] (avz (lim (vl A*2^k).toNat)):=by
 refine Con.of_aw Tryz.func248 rfl Tryz.ntmps248 (by simp) (by simp) (by simp) (W.sound ?_)
 show @W Tryz.prog 46 ⟨_⟩ ⟨fun x σ=>@za _ _ _ ⟨_⟩ _ ⟨_⟩ x σ⟩ _ _
 simp(disch:=omega)only[go_sem]
 refine qg (fun h0=>?_) (fun h0=>?_)
 ·simp(disch:=omega)only[go_sem,h0]
  have:A=[]:=List.length_eq_zero_iff.1 (by omega)
  subst this
  refine qh [] [] [] [.v (.slice none 0 0)] rfl (by simp(disch:=omega)only[go_sem]) (by simp(disch:=omega)only[go_sem]) (by simp) (by intro _;simp[zv,AV.pu,AV.pu.puL,Ob.pu,zf]) (.inl ⟨by simp[vl,qt],rfl,rfl⟩)
 ·simp(disch:=omega)only[go_sem,h0]
  refine⟨by omega,?_⟩
  have e16:((k:Int)/16).toNat=k/16:=by omega
  refine qi (fun x:Nat×List Int×Int=>[(1,.v (.int .i64 k)),(5,.rf 1 0 x.2.1.length),(6,.v (.int .i64 x.2.2)),(21,.sl A.length (qe A)),(22,.v (.int .i64 A.length)),(23,.v (.int .i64 x.1))])
   (fun x=>[(1,.own 1 (qe x.2.1))])
   (fun x=>x.1≤A.length∧x.2.1.length=k/16+x.1∧gd x.2.1∧(0≤x.2.2∧x.2.2<65536)∧vl x.2.1+65536^(k/16+x.1)*x.2.2=65536^(k/16)*2^(k % 16)*vl (A.take x.1))
   (fun x=>A.length-x.1) (0,List.replicate (k/16) 0,0) ⟨by simp,by simp,zy _,by simp,by simp[vl,z7]⟩
   (Le.lst [(1,220000000)] _ _ rfl (by simp(disch:=omega)only[go_sem,List.length_replicate,e16]) (by simp(disch:=omega)only[go_sem,e16])) ?_
  rintro⟨i,out,cy⟩ ⟨hi,hol,hog,hcy,hov⟩
  dsimp only at hi hol hog hcy hov ⊢
  simp(disch:=omega)only[go_sem]
  refine qg (fun h1=>?_) (fun h1=>?_)
  ·have hx:=qO hA i
   have hxs:=as3 hx (show k % 16<16 by omega)
   have em:min ((k:Int) % 16).toNat 64=k % 16:=by omega
   simp(disch:=omega)only[go_sem,h1,em]
   generalize hq:cy+A.getD i 0*2^(k % 16)=q
   refine⟨by omega,by omega,by omega,by omega,qb (i+1,out++[q % 65536],q/65536) [(1,390000000)] ⟨by show i+1≤_;omega,by simp[hol];omega,qP.2 ⟨hog,jT.2 (by omega)⟩,by show 0≤q/65536∧q/65536<65536;omega,?_⟩ (by show A.length-(i+1)<A.length-i;omega) rfl (by simp(disch:=omega)only[go_sem,List.length_append];try omega) (by simp(disch:=omega)only[go_sem])⟩
   show vl (out++[q % 65536])+65536^(k/16+(i+1))*(q/65536)=65536^(k/16)*2^(k % 16)*vl (A.take (i+1))
   rw[j6,ze,hol,←Nat.add_assoc,Int.pow_succ]
   have e3:q % 65536+65536*(q/65536)=q:=Int.emod_add_mul_ediv q 65536
   rw[Int.pow_add]at hov ⊢
   generalize (65536:Int)^i=Pi at*
   generalize (65536:Int)^(k/16)=Pk at*
   generalize (2:Int)^(k % 16)=Pm at*
   grind
  ·simp(disch:=omega)only[go_sem,h1]
   have hiA:i=A.length:=by omega
   subst hiA
   rw[List.take_length,abh]at hov
   have hov2:vl (out++[cy])=vl A*2^k:=by rw[j6,hol,hov];grind
   have hog2:gd (out++[cy]):=qP.2 ⟨hog,jT.2 hcy⟩
   refine⟨by omega,?_⟩
   have hl2:out.length+1=(out++[cy]).length:=by simp
   rw[hl2]
   refine zi false [460000000] (jK (out++[cy]) (by simp;omega)) (by simp(disch:=omega)only[go_sem]) (by simp(disch:=omega)only[go_sem]) rfl (q7 (z:=1) (cs:=qe (out++[cy])) (by simp(disch:=omega)only[go_sem]) (by simp(disch:=omega)only[go_sem])) (by intro n hn;exact⟨_,List.mem_singleton.2 rfl,by rw[List.mem_singleton.1 hn];rfl⟩) ?_
   rintro r hs bs ⟨rfl,rfl,rfl⟩ _
   refine⟨by simp[qR],?_⟩
   simp(disch:=omega)only[go_sem]
   obtain⟨z,hz⟩:=zW (out++[cy])
   have hc:=jq hog2
   rw[hov2]at hc
   rw[hc]at hz ⊢
   refine qh [(0,460000000)] [.own 1 (qe (out++[cy]))] [] [.rf 0 0 (lim (vl A*2^k).toNat).length] rfl (by simp(disch:=omega)only[go_sem]) (by simp(disch:=omega)only[go_sem]) (by simp) (by intro _;simp[zv,AV.pu,AV.pu.puL,Ob.pu,zf]) (.inr ⟨List.replicate z 0,rfl,by rw[←hz]⟩)
end Go.Ab
namespace Go.Ab
open Go Go.Proofs
theorem aHp(V P:Int)(hP:0<P):V % (P*65536)=V % P+P*(V/P % 65536):=by
 rw[Int.emod_def,Int.emod_def,Int.emod_def,←Int.ediv_ediv_of_nonneg (Int.le_of_lt hP)]
 grind
theorem aGQ{s:Nat}(hs:s<16):(65536:Int)=2^s*2^(16-s):=by
 rw[←Int.pow_add,show s+(16-s)=16 by omega];decide
theorem amD{D:List Int}(hD:gd D){i s:Nat}(hi:i<D.length)(hs:s<16):
  (vl D/2^s)/65536^i % 65536=(D.getD i 0+D.getD (i+1) 0*65536)/2^s % 65536:=by
 have h2:=(yN s hs).1
 rw[Int.ediv_ediv_of_nonneg (Int.le_of_lt h2),Int.mul_comm,←Int.ediv_ediv_of_nonneg (Int.le_of_lt (Int.pow_pos (by omega))),agN hD (by omega),zM hi]
 have h3:vl (D.drop (i+1))=D.getD (i+1) 0+65536*vl (D.drop (i+2)):=by
  rcases Nat.lt_or_ge (i+1) D.length with h|h
  ·exact zM h
  ·rw[List.drop_of_length_le h,List.drop_of_length_le (by omega),List.getD_eq_getElem?_getD,List.getElem?_eq_none h];simp[vl]
 rw[h3]
 have e:D.getD i 0+65536*(D.getD (i+1) 0+65536*vl (D.drop (i+2)))=(D.getD i 0+D.getD (i+1) 0*65536)+2^s*(65536*(2^(16-s)*vl (D.drop (i+2)))):=by
  have:=aGQ hs
  generalize (2:Int)^s=a at*
  generalize (2:Int)^(16-s)=b at*
  grind
 rw[e,Int.add_mul_ediv_left _ _ (by omega),Int.add_mul_emod_self_left]
theorem asM{a b:Nat}(h:a≤b):(65536:Int)^a≤65536^b:=by
 obtain⟨d,rfl⟩:=Nat.exists_eq_add_of_le h
 have h1:(0:Int)<65536^a:=Int.pow_pos (by omega)
 have h2:(0:Int)<65536^d:=Int.pow_pos (by omega)
 have h3:=Int.mul_le_mul_of_nonneg_left (show(1:Int)≤65536^d by omega) (Int.le_of_lt h1)
 rw[Int.mul_one,←Int.pow_add]at h3
 exact h3
theorem aIT(cl:Bool)(A:List Int)(k:Nat)(hA:gd A)(lA:A.length≤1000000)(hk:k≤100000000):
  Con Tryz.prog 265 cl [.sl A.length (qe A),.v (.int .i64 k)] [] (avz (lim (vl A/2^k).toNat)):=by
 refine Con.of_aw Tryz.func265 rfl Tryz.ntmps265 (by simp) (by simp) (by simp) (W.sound ?_)
 show @W Tryz.prog 52 ⟨_⟩ ⟨fun x σ=>@za _ _ _ ⟨_⟩ _ ⟨_⟩ x σ⟩ _ _
 have hvk:vl A/2^k=vl A/65536^(k/16)/2^(k % 16):=by
  rw[Int.ediv_ediv_of_nonneg (Int.le_of_lt (Int.pow_pos (by omega))),abh]
 simp(disch:=omega)only[go_sem]
 refine qg (fun h0=>?_) (fun h0=>?_)
 ·simp(disch:=omega)only[go_sem,h0]
  have hz:vl A/2^k=0:=by
   rw[hvk,Int.ediv_eq_zero_of_lt (qY hA)]
   ·simp
   ·refine Int.lt_of_lt_of_le (ZH hA) ?_
    exact asM (by omega)
  rw[hz]
  refine qh [] [] [] [.v (.slice none 0 0)] rfl (by simp(disch:=omega)only[go_sem]) (by simp(disch:=omega)only[go_sem]) (by simp) (by intro _;simp[zv,AV.pu,AV.pu.puL,Ob.pu,zf]) (.inl ⟨by simp[qt],rfl,rfl⟩)
 ·have e16:((k:Int)/16).toNat=k/16:=by omega
  have e17:((A.length:Int)-(k:Int)/16).toNat=(A.drop (k/16)).length:=by simp;omega
  have e18:(A.drop (k/16)).take (A.drop (k/16)).length=A.drop (k/16):=List.take_length
  have hvD:=agN hA (i:=k/16) (by omega)
  have hlD:(A.drop (k/16)).length≤1000000:=by simp;omega
  have hD:=yS hA (k/16)
  simp(disch:=omega)only[go_sem,h0,e16,e17,e18]
  generalize A.drop (k/16)=D at*
  refine⟨by omega,by omega,?_⟩
  refine qi (fun x:Nat×List Int=>[(1,.v (.int .i64 k)),(5,.sl D.length (qe D)),(6,.rf 1 0 x.2.length),(21,.sl D.length (qe D)),(22,.v (.int .i64 D.length)),(23,.v (.int .i64 x.1))])
   (fun x=>[(1,.own 1 (qe x.2))])
   (fun x=>x.1≤D.length∧x.2.length=x.1∧gd x.2∧vl x.2=vl D/2^(k % 16) % 65536^x.1)
   (fun x=>D.length-x.1) (0,[]) ⟨by simp,rfl,Yv,by simp[vl]⟩
   (Le.lst [(1,220000000)] _ _ rfl (by simp(disch:=omega)only[go_sem]) (by simp(disch:=omega)only[go_sem])) ?_
  rintro⟨i,out⟩ ⟨hi,hol,hog,hov⟩
  dsimp only at hi hol hog hov ⊢
  simp(disch:=omega)only[go_sem]
  refine qg (fun h1=>?_) (fun h1=>?_)
  ·have hx:=qO hD i
   have hy:=qO hD (i+1)
   have em:min ((k:Int) % 16).toNat 64=k % 16:=by omega
   have hm:=yN (k % 16) (by omega)
   have efd:∀x:Int,x.fdiv (2^(k % 16))=x/2^(k % 16):=fun x=>Int.fdiv_eq_ediv_of_nonneg _ (Int.le_of_lt hm.1)
   have hdig:=amD hD (i:=i) (s:=k % 16) (by omega) (by omega)
   have hnn:∀x:Int,0≤x→0≤x/2^(k % 16):=fun x hx=>Int.ediv_nonneg hx (Int.le_of_lt hm.1)
   have ei:((i:Int)+1).toNat=i+1:=by omega
   have hstep:∀z:Int,z=(D.getD i 0+D.getD (i+1) 0*65536)/2^(k % 16) % 65536→vl (out++[z])=vl D/2^(k % 16) % 65536^(i+1):=by
    intro z hz
    rw[j6,hov,hol,Int.pow_succ,aHp _ _ (Int.pow_pos (by omega)),hdig,hz]
   simp(disch:=omega)only[go_sem,h1]
   refine⟨by omega,by omega,qg (fun h2=>?_) (fun h2=>?_)⟩
   ·have hn1:=hnn (D.getD i 0+D.getD (i+1) 0*65536) (by omega)
    simp(disch:=omega)only[go_sem,h2,em,efd,ei]
    refine⟨by omega,by omega,by omega,by omega,qb (i+1,out++[(D.getD i 0+D.getD (i+1) 0*65536)/2^(k % 16) % 65536]) [(1,500000000)] ⟨by show i+1≤_;omega,by simp[hol],qP.2 ⟨hog,jT.2 (by omega)⟩,hstep _ rfl⟩ (by show D.length-(i+1)<D.length-i;omega) rfl (by simp(disch:=omega)only[go_sem,List.length_append];try omega) (by simp(disch:=omega)only[go_sem])⟩
   ·have hn1:=hnn (D.getD i 0) (by omega)
    simp(disch:=omega)only[go_sem,h2,em,efd]
    have hy0:D.getD (i+1) 0=0:=by rw[List.getD_eq_getElem?_getD,List.getElem?_eq_none (by omega)];rfl
    refine⟨by omega,by omega,qb (i+1,out++[D.getD i 0/2^(k % 16) % 65536]) [(1,500000000)] ⟨by show i+1≤_;omega,by simp[hol],qP.2 ⟨hog,jT.2 (by omega)⟩,hstep _ (by rw[hy0];simp)⟩ (by show D.length-(i+1)<D.length-i;omega) rfl (by simp(disch:=omega)only[go_sem,List.length_append];try omega) (by simp(disch:=omega)only[go_sem])⟩
  ·simp(disch:=omega)only[go_sem,h1]
   have hiD:i=D.length:=by omega
   subst hiD
   have hV:vl out=vl A/2^k:=by
    rw[hov,hvk,hvD]
    refine Int.emod_eq_of_lt (Int.ediv_nonneg (qY hD) (Int.le_of_lt (yN (k % 16) (by omega)).1)) ?_
    exact Int.lt_of_le_of_lt (Int.ediv_le_self _ (qY hD)) (ZH hD)
   refine zi false [1] (jK out (by omega)) (by simp(disch:=omega)only[go_sem]) (by simp(disch:=omega)only[go_sem]) rfl (q7 (z:=1) (cs:=qe out) (by simp(disch:=omega)only[go_sem]) (by simp(disch:=omega)only[go_sem])) (by intro n hn;exact⟨_,List.mem_singleton.2 rfl,by rw[List.mem_singleton.1 hn];rfl⟩) ?_
   rintro r hs bs ⟨rfl,rfl,rfl⟩ _
   refine⟨by simp[qR],?_⟩
   simp(disch:=omega)only[go_sem]
   obtain⟨z,hz⟩:=zW out
   have hc:=jq hog
   rw[hV]at hc
   rw[hc]at hz ⊢
   refine qh [(0,1)] [.own 1 (qe out)] [] [.rf 0 0 (lim (vl A/2^k).toNat).length] rfl (by simp(disch:=omega)only[go_sem]) (by simp(disch:=omega)only[go_sem]) (by simp) (by intro _;simp[zv,AV.pu,AV.pu.puL,Ob.pu,zf]) (.inr ⟨List.replicate z 0,rfl,by rw[←hz]⟩)
end Go.Ab
namespace Go.Ab
open Go Go.Proofs
theorem drop_set{l:List Int}{i:Nat}(h:i<l.length)(z:Int):(l.set i z).drop i=z::l.drop (i+1):=by
 rw[List.drop_eq_getElem_cons (by simpa using h)]
 simp[List.drop_set]
theorem aIU(cl:Bool)(A:List Int)(d:Nat)(hA:gd A)(lA:A.length≤1000000)(hd:0<d)(hd2:d<65536):
  Con Tryz.prog 328 cl [.sl A.length (qe A),.v (.int .i64 d)] [] (fun r hs bs=>∃zs,r=.tu [.rf 0 0 (lim (vl A/d).toNat).length,.v (.int .i64 (vl A % d))]∧hs=[.own 1 (qe (lim (vl A/d).toNat++zs))]):=by
 refine Con.of_aw Tryz.func328 rfl Tryz.ntmps328 (by simp) (by simp) (by simp) (W.sound ?_)
 show @W Tryz.prog 38 ⟨_⟩ ⟨fun x σ=>@za _ _ _ ⟨_⟩ _ ⟨_⟩ x σ⟩ _ _
 simp(disch:=omega)only[go_sem]
 refine⟨by omega,?_⟩
 refine qi (fun x:Nat×List Int×Int=>[(0,.sl A.length (qe A)),(1,.v (.int .i64 d)),(6,.rf 130000000 0 A.length),(7,.v (.int .i64 x.2.2)),(8,.v (.int .i64 ((x.1:Int)-1)))])
  (fun x=>[(130000000,.own 1 (qe x.2.1))])
  (fun x=>x.1≤A.length∧x.2.1.length=A.length∧gd x.2.1∧x.2.2=vl (A.drop x.1) % d∧vl (x.2.1.drop x.1)=vl (A.drop x.1)/d)
  (fun x=>x.1) (A.length,List.replicate A.length 0,0) ⟨by simp,by simp,zy _,by simp[vl],by simp[vl]⟩
  (Le.lst [] _ _ rfl (by simp(disch:=omega)only[go_sem];try omega) (by simp(disch:=omega)only[go_sem])) ?_
 rintro⟨m,out,rest⟩ ⟨hm,hol,hog,hr,hov⟩
 dsimp only at hm hol hog hr hov ⊢
 simp(disch:=omega)only[go_sem]
 refine qg (fun h1=>?_) (fun h1=>?_)
 ·obtain⟨i,rfl⟩:∃i,m=i+1:=⟨m-1,by omega⟩
  have e1:((i+1:Nat):Int)-1=(i:Nat):=by omega
  have hx:=qO hA i
  have hr2:0≤rest∧rest<d:=by rw[hr];exact⟨Int.emod_nonneg _ (by omega),Int.emod_lt_of_pos _ (by omega)⟩
  generalize hq:rest*65536+A.getD i 0=q
  have hq0:0≤q:=by omega
  have hqd:0≤q/d∧q/d<65536:=⟨Int.ediv_nonneg hq0 (by omega),Int.ediv_lt_of_lt_mul (by omega) (by omega)⟩
  have hqm:0≤q % d∧q % d<d:=⟨Int.emod_nonneg _ (by omega),Int.emod_lt_of_pos _ (by omega)⟩
  simp(disch:=omega)only[go_sem,h1,e1,hq]
  refine⟨by omega,by omega,by omega,by omega,by omega,by omega,qb (i,out.set i (q/d),q % d) [] ⟨by show i≤_;omega,by simp[hol],Qj hog hqd,?_,?_⟩ (by show i<i+1;omega) rfl (by simp(disch:=omega)only[go_sem]) (by simp(disch:=omega)only[go_sem])⟩
  ·show q % d=vl (A.drop i) % d
   rw[zM (l:=A) (i:=i) (by omega),←hq,hr]
   have h3:=Int.emod_add_mul_ediv (vl (A.drop (i+1))) d
   rw[show A.getD i 0+65536*vl (A.drop (i+1))=vl (A.drop (i+1)) % d*65536+A.getD i 0+d*(65536*(vl (A.drop (i+1))/d)) by grind,Int.add_mul_emod_self_left]
  ·show vl ((out.set i (q/d)).drop i)=vl (A.drop i)/d
   rw[drop_set (by omega),vl,hov,zM (l:=A) (i:=i) (by omega),←hq,hr]
   have h3:=Int.emod_add_mul_ediv (vl (A.drop (i+1))) d
   rw[show A.getD i 0+65536*vl (A.drop (i+1))=vl (A.drop (i+1)) % d*65536+A.getD i 0+d*(65536*(vl (A.drop (i+1))/d)) by grind,Int.add_mul_ediv_left _ _ (by omega)]
 ·simp(disch:=omega)only[go_sem,h1]
  have:m=0:=by omega
  subst this
  rw[List.drop_zero,List.drop_zero]at hov
  rw[List.drop_zero]at hr
  rw[←hol]
  refine zi false [130000000] (jK out (by omega)) (by simp(disch:=omega)only[go_sem]) (by simp(disch:=omega)only[go_sem]) rfl (q7 (z:=1) (cs:=qe out) (by simp(disch:=omega)only[go_sem]) (by simp(disch:=omega)only[go_sem])) (by intro n hn;exact⟨_,List.mem_singleton.2 rfl,by rw[List.mem_singleton.1 hn];rfl⟩) ?_
  rintro r hs bs ⟨rfl,rfl,rfl⟩ _
  refine⟨by simp[qR],?_⟩
  simp(disch:=omega)only[go_sem]
  obtain⟨z,hz⟩:=zW out
  have hc:=jq hog
  rw[hov]at hc
  rw[hc]at hz ⊢
  rw[hr]
  refine qh [(0,130000000)] [.own 1 (qe out)] [] [.rf 0 0 (lim (vl A/d).toNat).length,.v (.int .i64 (vl A % d))] rfl (by simp(disch:=omega)only[go_sem]) (by simp(disch:=omega)only[go_sem]) (by simp) (by intro _;simp[zv,AV.pu,AV.pu.puL,Ob.pu,zf]) ⟨List.replicate z 0,rfl,by rw[←hz]⟩
end Go.Ab
namespace Go.Ab
open Go Go.Proofs
theorem aIN(cl:Bool)(A B:List Int)(hA:gd A)(hB:gd B)(lA:A.length≤2000000)(lB:B.length≤2000000):
  Con Tryz.prog 304 cl [.sl A.length (qe A),.sl B.length (qe B)] [] (avz (lim (vl A+vl B).toNat)):=by
 refine Con.of_aw Tryz.func304 rfl Tryz.ntmps304 (by simp) (by simp) (by simp) (W.sound ?_)
 show @W Tryz.prog 53 ⟨_⟩ ⟨fun x σ=>@za _ _ _ ⟨_⟩ _ ⟨_⟩ x σ⟩ _ _
 simp(disch:=omega)only[go_sem]
 refine qg (fun h0=>?_) (fun h0=>?_)
 all_goals simp(disch:=omega)only[go_sem,h0]
 ·revert A B
  intro Y X hY hX lY lX h0'
  have h00:Y.length≤X.length:=by omega
  have hcm:vl Y+vl X=vl X+vl Y:=Int.add_comm _ _
  refine⟨by omega,?_⟩
  refine qi (fun x:Nat×List Int×Int=>[(1,.sl Y.length (qe Y)),(5,.rf 1 0 x.2.1.length),(6,.v (.int .i64 x.2.2)),(20,.sl X.length (qe X)),(21,.v (.int .i64 X.length)),(22,.v (.int .i64 x.1))])
   (fun x=>[(1,.own 1 (qe x.2.1))])
   (fun x=>x.1≤X.length∧x.2.1.length=x.1∧gd x.2.1∧(0≤x.2.2∧x.2.2≤1)∧vl x.2.1+65536^x.1*x.2.2=vl (X.take x.1)+vl (Y.take x.1))
   (fun x=>X.length-x.1) (0,[],0) ⟨by simp,rfl,Yv,by simp,by simp[vl]⟩
   (Le.lst [(1,210000000)] _ _ rfl (by simp(disch:=omega)only[go_sem]) (by simp(disch:=omega)only[go_sem])) ?_
  rintro⟨i,out,cy⟩ ⟨hi,hol,hog,hcy,hov⟩
  dsimp only at hi hol hog hcy hov ⊢
  simp(disch:=omega)only[go_sem]
  refine qg (fun h1=>?_) (fun h1=>?_)
  ·have hx:=qO hX i
   have hy:=qO hY i
   have hstep:∀q:Int,q=cy+X.getD i 0+Y.getD i 0→vl (out++[q % 65536])+65536^(i+1)*(q/65536)=vl (X.take (i+1))+vl (Y.take (i+1)):=by
    intro q hq
    rw[j6,ze,ze,hol,Int.pow_succ]
    have e3:q % 65536+65536*(q/65536)=q:=Int.emod_add_mul_ediv q 65536
    generalize (65536:Int)^i=Pi at*
    grind
   have hyz:¬i<Y.length→Y.getD i 0=0:=fun h=>by rw[List.getD_eq_getElem?_getD,List.getElem?_eq_none (by omega)];rfl
   simp(disch:=omega)only[go_sem,h1]
   refine⟨by omega,by omega,qg (fun h2=>?_) (fun h2=>?_)⟩
   ·simp(disch:=omega)only[go_sem,h2]
    generalize hq:cy+X.getD i 0+Y.getD i 0=q
    refine⟨by omega,by omega,by omega,qb (i+1,out++[q % 65536],q/65536) [(1,460000000)] ⟨by show i+1≤_;omega,by simp[hol],qP.2 ⟨hog,jT.2 (by omega)⟩,by show 0≤q/65536∧q/65536≤1;omega,hstep q hq.symm⟩ (by show X.length-(i+1)<X.length-i;omega) rfl (by simp(disch:=omega)only[go_sem,List.length_append];try omega) (by simp(disch:=omega)only[go_sem])⟩
   ·simp(disch:=omega)only[go_sem,h2]
    have hy0:=hyz (by omega)
    generalize hq:cy+X.getD i 0=q
    refine⟨by omega,qb (i+1,out++[q % 65536],q/65536) [(1,460000000)] ⟨by show i+1≤_;omega,by simp[hol],qP.2 ⟨hog,jT.2 (by omega)⟩,by show 0≤q/65536∧q/65536≤1;omega,hstep q (by omega)⟩ (by show X.length-(i+1)<X.length-i;omega) rfl (by simp(disch:=omega)only[go_sem,List.length_append];try omega) (by simp(disch:=omega)only[go_sem])⟩
  ·simp(disch:=omega)only[go_sem,h1]
   have hiA:i=X.length:=by omega
   subst hiA
   rw[List.take_length,List.take_of_length_le h00]at hov
   have hov2:vl (out++[cy])=vl X+vl Y:=by rw[j6,hol];exact hov
   have hog2:gd (out++[cy]):=qP.2 ⟨hog,jT.2 (by omega)⟩
   refine⟨by omega,?_⟩
   have hl2:out.length+1=(out++[cy]).length:=by simp
   rw[hl2]
   refine zi false [530000000] (jK (out++[cy]) (by simp;omega)) (by simp(disch:=omega)only[go_sem]) (by simp(disch:=omega)only[go_sem]) rfl (q7 (z:=1) (cs:=qe (out++[cy])) (by simp(disch:=omega)only[go_sem]) (by simp(disch:=omega)only[go_sem])) (by intro n hn;exact⟨_,List.mem_singleton.2 rfl,by rw[List.mem_singleton.1 hn];rfl⟩) ?_
   rintro r hs bs ⟨rfl,rfl,rfl⟩ _
   refine⟨by simp[qR],?_⟩
   simp(disch:=omega)only[go_sem]
   obtain⟨z,hz⟩:=zW (out++[cy])
   have hc:=jq hog2
   rw[hov2]at hc
   rw[hc]at hz ⊢
   refine qh [(0,530000000)] [.own 1 (qe (out++[cy]))] [] [.rf 0 0 (lim (vl X+vl Y).toNat).length] rfl (by simp(disch:=omega)only[go_sem]) (by simp(disch:=omega)only[go_sem]) (by simp) (by intro _;simp[zv,AV.pu,AV.pu.puL,Ob.pu,zf]) (.inr ⟨List.replicate z 0,by rw[hcm];rfl,by rw[hcm,←hz]⟩)
 ·revert A B
  intro X Y hX hY lX lY h0'
  have h00:Y.length≤X.length:=by omega
  have hcm:vl X+vl Y=vl X+vl Y:=rfl
  refine⟨by omega,?_⟩
  refine qi (fun x:Nat×List Int×Int=>[(1,.sl Y.length (qe Y)),(5,.rf 1 0 x.2.1.length),(6,.v (.int .i64 x.2.2)),(20,.sl X.length (qe X)),(21,.v (.int .i64 X.length)),(22,.v (.int .i64 x.1))])
   (fun x=>[(1,.own 1 (qe x.2.1))])
   (fun x=>x.1≤X.length∧x.2.1.length=x.1∧gd x.2.1∧(0≤x.2.2∧x.2.2≤1)∧vl x.2.1+65536^x.1*x.2.2=vl (X.take x.1)+vl (Y.take x.1))
   (fun x=>X.length-x.1) (0,[],0) ⟨by simp,rfl,Yv,by simp,by simp[vl]⟩
   (Le.lst [(1,210000000)] _ _ rfl (by simp(disch:=omega)only[go_sem]) (by simp(disch:=omega)only[go_sem])) ?_
  rintro⟨i,out,cy⟩ ⟨hi,hol,hog,hcy,hov⟩
  dsimp only at hi hol hog hcy hov ⊢
  simp(disch:=omega)only[go_sem]
  refine qg (fun h1=>?_) (fun h1=>?_)
  ·have hx:=qO hX i
   have hy:=qO hY i
   have hstep:∀q:Int,q=cy+X.getD i 0+Y.getD i 0→vl (out++[q % 65536])+65536^(i+1)*(q/65536)=vl (X.take (i+1))+vl (Y.take (i+1)):=by
    intro q hq
    rw[j6,ze,ze,hol,Int.pow_succ]
    have e3:q % 65536+65536*(q/65536)=q:=Int.emod_add_mul_ediv q 65536
    generalize (65536:Int)^i=Pi at*
    grind
   have hyz:¬i<Y.length→Y.getD i 0=0:=fun h=>by rw[List.getD_eq_getElem?_getD,List.getElem?_eq_none (by omega)];rfl
   simp(disch:=omega)only[go_sem,h1]
   refine⟨by omega,by omega,qg (fun h2=>?_) (fun h2=>?_)⟩
   ·simp(disch:=omega)only[go_sem,h2]
    generalize hq:cy+X.getD i 0+Y.getD i 0=q
    refine⟨by omega,by omega,by omega,qb (i+1,out++[q % 65536],q/65536) [(1,460000000)] ⟨by show i+1≤_;omega,by simp[hol],qP.2 ⟨hog,jT.2 (by omega)⟩,by show 0≤q/65536∧q/65536≤1;omega,hstep q hq.symm⟩ (by show X.length-(i+1)<X.length-i;omega) rfl (by simp(disch:=omega)only[go_sem,List.length_append];try omega) (by simp(disch:=omega)only[go_sem])⟩
   ·simp(disch:=omega)only[go_sem,h2]
    have hy0:=hyz (by omega)
    generalize hq:cy+X.getD i 0=q
    refine⟨by omega,qb (i+1,out++[q % 65536],q/65536) [(1,460000000)] ⟨by show i+1≤_;omega,by simp[hol],qP.2 ⟨hog,jT.2 (by omega)⟩,by show 0≤q/65536∧q/65536≤1;omega,hstep q (by omega)⟩ (by show X.length-(i+1)<X.length-i;omega) rfl (by simp(disch:=omega)only[go_sem,List.length_append];try omega) (by simp(disch:=omega)only[go_sem])⟩
  ·simp(disch:=omega)only[go_sem,h1]
   have hiA:i=X.length:=by omega
   subst hiA
   rw[List.take_length,List.take_of_length_le h00]at hov
   have hov2:vl (out++[cy])=vl X+vl Y:=by rw[j6,hol];exact hov
   have hog2:gd (out++[cy]):=qP.2 ⟨hog,jT.2 (by omega)⟩
   refine⟨by omega,?_⟩
   have hl2:out.length+1=(out++[cy]).length:=by simp
   rw[hl2]
   refine zi false [530000000] (jK (out++[cy]) (by simp;omega)) (by simp(disch:=omega)only[go_sem]) (by simp(disch:=omega)only[go_sem]) rfl (q7 (z:=1) (cs:=qe (out++[cy])) (by simp(disch:=omega)only[go_sem]) (by simp(disch:=omega)only[go_sem])) (by intro n hn;exact⟨_,List.mem_singleton.2 rfl,by rw[List.mem_singleton.1 hn];rfl⟩) ?_
   rintro r hs bs ⟨rfl,rfl,rfl⟩ _
   refine⟨by simp[qR],?_⟩
   simp(disch:=omega)only[go_sem]
   obtain⟨z,hz⟩:=zW (out++[cy])
   have hc:=jq hog2
   rw[hov2]at hc
   rw[hc]at hz ⊢
   refine qh [(0,530000000)] [.own 1 (qe (out++[cy]))] [] [.rf 0 0 (lim (vl X+vl Y).toNat).length] rfl (by simp(disch:=omega)only[go_sem]) (by simp(disch:=omega)only[go_sem]) (by simp) (by intro _;simp[zv,AV.pu,AV.pu.puL,Ob.pu,zf]) (.inr ⟨List.replicate z 0,by rw[hcm];rfl,by rw[hcm,←hz]⟩)
end Go.Ab
