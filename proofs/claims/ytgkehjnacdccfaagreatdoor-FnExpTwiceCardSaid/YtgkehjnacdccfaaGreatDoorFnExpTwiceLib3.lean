/- What the proof of this claim stands on: the walks of the functions and the plain laws, part 3. -/
import Derived.Test.YtgkehjnacdccfaaGreatDoorFnExpTwiceLib2
import Derived.Test.YtgkehjnacdccfaaGreatDoorProg
import Derived.KernelRfl
set_option linter.unusedVariables false
set_option linter.unusedSimpArgs false
namespace Go.Ab
open Go Go.Proofs
def ti1:TI:=⟨Kd.oth,1,8,Value.nilFunc⟩
theorem tf1:qm Tryz.prog 1=some ti1:=by kernel_rfl
def ti2:TI:=⟨Kd.int IntKind.i64,1,8,Value.int IntKind.i64 0⟩
theorem tf2:qm Tryz.prog 2=some ti2:=by kernel_rfl
def ti3:TI:=⟨Kd.int IntKind.i64,1,8,Value.int IntKind.i64 0⟩
theorem tf3:qm Tryz.prog 3=some ti3:=by kernel_rfl
def ti4:TI:=⟨Kd.bool,1,1,Value.bool false⟩
theorem tf4:qm Tryz.prog 4=some ti4:=by kernel_rfl
def ti5:TI:=⟨Kd.int IntKind.u8,1,1,Value.int IntKind.u8 0⟩
theorem tf5:qm Tryz.prog 5=some ti5:=by kernel_rfl
def ti6:TI:=⟨Kd.int IntKind.u8,1,1,Value.int IntKind.u8 0⟩
theorem tf6:qm Tryz.prog 6=some ti6:=by kernel_rfl
def ti7:TI:=⟨Kd.stru [(0,2),(1,3),(2,4),(3,6)],4,24,Value.agg ⟨[Value.int IntKind.i64 0,Value.int IntKind.i64 0,Value.bool false,Value.int IntKind.u8 0]⟩⟩
theorem tf7:qm Tryz.prog 7=some ti7:=by kernel_rfl
def ti8:TI:=⟨Kd.stru [(0,2),(1,3),(2,4),(3,6)],4,24,Value.agg ⟨[Value.int IntKind.i64 0,Value.int IntKind.i64 0,Value.bool false,Value.int IntKind.u8 0]⟩⟩
theorem tf8:qm Tryz.prog 8=some ti8:=by kernel_rfl
def ti9:TI:=⟨Kd.str,1,16,Value.string {data:=⟨[]⟩}⟩
theorem tf9:qm Tryz.prog 9=some ti9:=by kernel_rfl
def aKj:TI:=⟨Kd.str,1,16,Value.string {data:=⟨[]⟩}⟩
theorem bm9:qm Tryz.prog 10=some aKj:=by kernel_rfl
def aKi:TI:=⟨Kd.str,1,16,Value.string {data:=⟨[]⟩}⟩
theorem bm8:qm Tryz.prog 11=some aKi:=by kernel_rfl
def aKh:TI:=⟨Kd.int IntKind.u64,1,8,Value.int IntKind.u64 0⟩
theorem bm7:qm Tryz.prog 12=some aKh:=by kernel_rfl
def aKg:TI:=⟨Kd.int IntKind.i32,1,4,Value.int IntKind.i32 0⟩
theorem bm6:qm Tryz.prog 21=some aKg:=by kernel_rfl
def agW:TI:=⟨Kd.sli 5,1,24,Value.slice none 0 0⟩
theorem aKn:qm Tryz.prog 22=some agW:=by kernel_rfl
def agV:TI:=⟨Kd.sli 42,1,24,Value.slice none 0 0⟩
theorem aKm:qm Tryz.prog 23=some agV:=by kernel_rfl
def apV:TI:=⟨Kd.stru [(0,3),(1,23)],2,32,Value.agg ⟨[Value.int IntKind.i64 0,Value.slice none 0 0]⟩⟩
theorem bb5:qm Tryz.prog 24=some apV:=by kernel_rfl
def apK:TI:=⟨Kd.stru [(0,3),(1,23)],2,32,Value.agg ⟨[Value.int IntKind.i64 0,Value.slice none 0 0]⟩⟩
theorem bb4:qm Tryz.prog 25=some apK:=by kernel_rfl
def aKf:TI:=⟨Kd.oth,1,8,Value.nilFunc⟩
theorem bm5:qm Tryz.prog 27=some aKf:=by kernel_rfl
def agU:TI:=⟨Kd.sli 90,1,24,Value.slice none 0 0⟩
theorem aKl:qm Tryz.prog 28=some agU:=by kernel_rfl
def ao8:TI:=⟨Kd.stru [(0,3),(1,28)],2,32,Value.agg ⟨[Value.int IntKind.i64 0,Value.slice none 0 0]⟩⟩
theorem bb3:qm Tryz.prog 29=some ao8:=by kernel_rfl
def aoY:TI:=⟨Kd.stru [(0,3),(1,28)],2,32,Value.agg ⟨[Value.int IntKind.i64 0,Value.slice none 0 0]⟩⟩
theorem bb2:qm Tryz.prog 30=some aoY:=by kernel_rfl
def aKe:TI:=⟨Kd.oth,1,8,Value.nilFunc⟩
theorem bm4:qm Tryz.prog 32=some aKe:=by kernel_rfl
def aKd:TI:=⟨Kd.oth,1,8,Value.nilFunc⟩
theorem bm3:qm Tryz.prog 33=some aKd:=by kernel_rfl
def aKc:TI:=⟨Kd.oth,1,8,Value.nilFunc⟩
theorem bm2:qm Tryz.prog 35=some aKc:=by kernel_rfl
def Z9:TI:=⟨Kd.sli 3,1,24,Value.slice none 0 0⟩
theorem aa2:qm Tryz.prog 36=some Z9:=by kernel_rfl
def avt:TI:=⟨Kd.stru [(0,36)],1,24,Value.agg ⟨[Value.slice none 0 0]⟩⟩
theorem be9:qm Tryz.prog 37=some avt:=by kernel_rfl
def acp:TI:=⟨Kd.stru [(0,36)],1,24,Value.agg ⟨[Value.slice none 0 0]⟩⟩
theorem aF7:qm Tryz.prog 38=some acp:=by kernel_rfl
def aoM:TI:=⟨Kd.stru [(0,4),(1,38)],2,32,Value.agg ⟨[Value.bool false,Value.slice none 0 0]⟩⟩
theorem bb1:qm Tryz.prog 39=some aoM:=by kernel_rfl
def X4:TI:=⟨Kd.stru [(0,4),(1,38)],2,32,Value.agg ⟨[Value.bool false,Value.slice none 0 0]⟩⟩
theorem avv:qm Tryz.prog 40=some X4:=by kernel_rfl
def aoI:TI:=⟨Kd.stru [(0,40),(2,3)],3,40,Value.agg ⟨[Value.bool false,Value.slice none 0 0,Value.int IntKind.i64 0]⟩⟩
theorem bb0:qm Tryz.prog 41=some aoI:=by kernel_rfl
def ZW:TI:=⟨Kd.stru [(0,40),(2,3)],3,40,Value.agg ⟨[Value.bool false,Value.slice none 0 0,Value.int IntKind.i64 0]⟩⟩
theorem aa1:qm Tryz.prog 42=some ZW:=by kernel_rfl
def aKb:TI:=⟨Kd.oth,1,8,Value.nilFunc⟩
theorem bm1:qm Tryz.prog 43=some aKb:=by kernel_rfl
def aKa:TI:=⟨Kd.oth,1,8,Value.nilFunc⟩
theorem bm0:qm Tryz.prog 44=some aKa:=by kernel_rfl
def aJ9:TI:=⟨Kd.oth,1,8,Value.nilFunc⟩
theorem bmZ:qm Tryz.prog 45=some aJ9:=by kernel_rfl
def aJ8:TI:=⟨Kd.oth,1,8,Value.nilFunc⟩
theorem bmY:qm Tryz.prog 46=some aJ8:=by kernel_rfl
def aJ7:TI:=⟨Kd.oth,1,8,Value.nilFunc⟩
theorem bmX:qm Tryz.prog 47=some aJ7:=by kernel_rfl
def aJ6:TI:=⟨Kd.oth,1,8,Value.nilFunc⟩
theorem bmW:qm Tryz.prog 48=some aJ6:=by kernel_rfl
def aJ5:TI:=⟨Kd.oth,1,8,Value.nilFunc⟩
theorem bmV:qm Tryz.prog 49=some aJ5:=by kernel_rfl
def aJ4:TI:=⟨Kd.oth,1,8,Value.nilFunc⟩
theorem bmU:qm Tryz.prog 50=some aJ4:=by kernel_rfl
def aJ3:TI:=⟨Kd.oth,1,8,Value.nilFunc⟩
theorem bmT:qm Tryz.prog 52=some aJ3:=by kernel_rfl
def aJ2:TI:=⟨Kd.oth,1,8,Value.nilFunc⟩
theorem bmS:qm Tryz.prog 53=some aJ2:=by kernel_rfl
def aJ1:TI:=⟨Kd.oth,1,8,Value.nilFunc⟩
theorem bmR:qm Tryz.prog 54=some aJ1:=by kernel_rfl
def aJ0:TI:=⟨Kd.oth,1,8,Value.nilFunc⟩
theorem bmQ:qm Tryz.prog 55=some aJ0:=by kernel_rfl
def aJZ:TI:=⟨Kd.oth,1,8,Value.nilFunc⟩
theorem bmP:qm Tryz.prog 56=some aJZ:=by kernel_rfl
def aJY:TI:=⟨Kd.oth,1,8,Value.nilFunc⟩
theorem bmO:qm Tryz.prog 58=some aJY:=by kernel_rfl
def aJX:TI:=⟨Kd.oth,1,8,Value.nilFunc⟩
theorem bmN:qm Tryz.prog 60=some aJX:=by kernel_rfl
def aJW:TI:=⟨Kd.oth,1,8,Value.nilFunc⟩
theorem bmM:qm Tryz.prog 61=some aJW:=by kernel_rfl
def aJV:TI:=⟨Kd.oth,1,8,Value.nilFunc⟩
theorem bmL:qm Tryz.prog 62=some aJV:=by kernel_rfl
def aJU:TI:=⟨Kd.oth,1,8,Value.nilFunc⟩
theorem bmK:qm Tryz.prog 64=some aJU:=by kernel_rfl
def aJT:TI:=⟨Kd.oth,1,8,Value.nilFunc⟩
theorem bmJ:qm Tryz.prog 65=some aJT:=by kernel_rfl
def aJS:TI:=⟨Kd.oth,1,8,Value.nilFunc⟩
theorem bmI:qm Tryz.prog 66=some aJS:=by kernel_rfl
def aJR:TI:=⟨Kd.oth,1,8,Value.nilFunc⟩
theorem bmH:qm Tryz.prog 67=some aJR:=by kernel_rfl
def aJQ:TI:=⟨Kd.oth,1,8,Value.nilFunc⟩
theorem bmG:qm Tryz.prog 68=some aJQ:=by kernel_rfl
def aJP:TI:=⟨Kd.oth,1,8,Value.nilFunc⟩
theorem bmF:qm Tryz.prog 69=some aJP:=by kernel_rfl
def aJO:TI:=⟨Kd.oth,1,8,Value.nilFunc⟩
theorem bmE:qm Tryz.prog 70=some aJO:=by kernel_rfl
def aJN:TI:=⟨Kd.oth,1,8,Value.nilFunc⟩
theorem bmD:qm Tryz.prog 71=some aJN:=by kernel_rfl
def aJM:TI:=⟨Kd.oth,1,8,Value.nilFunc⟩
theorem bmC:qm Tryz.prog 72=some aJM:=by kernel_rfl
def aJL:TI:=⟨Kd.oth,1,8,Value.nilFunc⟩
theorem bmB:qm Tryz.prog 73=some aJL:=by kernel_rfl
def agT:TI:=⟨Kd.sli 87,1,24,Value.slice none 0 0⟩
theorem aKk:qm Tryz.prog 74=some agT:=by kernel_rfl
def aoa:TI:=⟨Kd.stru [(0,3),(1,74)],2,32,Value.agg ⟨[Value.int IntKind.i64 0,Value.slice none 0 0]⟩⟩
theorem bbZ:qm Tryz.prog 75=some aoa:=by kernel_rfl
def an8:TI:=⟨Kd.stru [(0,3),(1,74)],2,32,Value.agg ⟨[Value.int IntKind.i64 0,Value.slice none 0 0]⟩⟩
theorem bbY:qm Tryz.prog 76=some an8:=by kernel_rfl
def aJK:TI:=⟨Kd.oth,1,8,Value.nilFunc⟩
theorem bmA:qm Tryz.prog 77=some aJK:=by kernel_rfl
def aJJ:TI:=⟨Kd.oth,1,8,Value.nilFunc⟩
theorem bmz:qm Tryz.prog 78=some aJJ:=by kernel_rfl
def aJI:TI:=⟨Kd.oth,1,8,Value.nilFunc⟩
theorem bmy:qm Tryz.prog 79=some aJI:=by kernel_rfl
def aJH:TI:=⟨Kd.oth,1,8,Value.nilFunc⟩
theorem bmx:qm Tryz.prog 80=some aJH:=by kernel_rfl
def aJG:TI:=⟨Kd.oth,1,8,Value.nilFunc⟩
theorem bmw:qm Tryz.prog 81=some aJG:=by kernel_rfl
def aJF:TI:=⟨Kd.oth,1,8,Value.nilFunc⟩
theorem bmv:qm Tryz.prog 82=some aJF:=by kernel_rfl
def aco:TI:=⟨Kd.stru [(0,36)],1,24,Value.agg ⟨[Value.slice none 0 0]⟩⟩
theorem aF6:qm Tryz.prog 83=some aco:=by kernel_rfl
def anY:TI:=⟨Kd.stru [(0,4),(1,83)],2,32,Value.agg ⟨[Value.bool false,Value.slice none 0 0]⟩⟩
theorem bbX:qm Tryz.prog 84=some anY:=by kernel_rfl
def X3:TI:=⟨Kd.stru [(0,4),(1,83)],2,32,Value.agg ⟨[Value.bool false,Value.slice none 0 0]⟩⟩
theorem avu:qm Tryz.prog 85=some X3:=by kernel_rfl
def anV:TI:=⟨Kd.stru [(0,85),(2,3)],3,40,Value.agg ⟨[Value.bool false,Value.slice none 0 0,Value.int IntKind.i64 0]⟩⟩
theorem bbW:qm Tryz.prog 86=some anV:=by kernel_rfl
def anr:TI:=⟨Kd.stru [(0,85),(2,3)],3,40,Value.agg ⟨[Value.bool false,Value.slice none 0 0,Value.int IntKind.i64 0]⟩⟩
theorem aUr:qm Tryz.prog 87=some anr:=by kernel_rfl
def aJE:TI:=⟨Kd.oth,1,8,Value.nilFunc⟩
theorem bmu:qm Tryz.prog 88=some aJE:=by kernel_rfl
def anR:TI:=⟨Kd.stru [(0,42),(3,42)],6,80,Value.agg ⟨[Value.bool false,Value.slice none 0 0,Value.int IntKind.i64 0,Value.bool false,Value.slice none 0 0,Value.int IntKind.i64 0]⟩⟩
theorem bbV:qm Tryz.prog 89=some anR:=by kernel_rfl
def anq:TI:=⟨Kd.stru [(0,42),(3,42)],6,80,Value.agg ⟨[Value.bool false,Value.slice none 0 0,Value.int IntKind.i64 0,Value.bool false,Value.slice none 0 0,Value.int IntKind.i64 0]⟩⟩
theorem aUq:qm Tryz.prog 90=some anq:=by kernel_rfl
def aJD:TI:=⟨Kd.oth,1,8,Value.nilFunc⟩
theorem bmt:qm Tryz.prog 92=some aJD:=by kernel_rfl
def aJC:TI:=⟨Kd.oth,1,8,Value.nilFunc⟩
theorem bms:qm Tryz.prog 93=some aJC:=by kernel_rfl
def aJB:TI:=⟨Kd.oth,1,8,Value.nilFunc⟩
theorem bmr:qm Tryz.prog 94=some aJB:=by kernel_rfl
def aJA:TI:=⟨Kd.oth,1,8,Value.nilFunc⟩
theorem bmq:qm Tryz.prog 95=some aJA:=by kernel_rfl
def aJz:TI:=⟨Kd.oth,1,8,Value.nilFunc⟩
theorem bmp:qm Tryz.prog 96=some aJz:=by kernel_rfl
def aJy:TI:=⟨Kd.oth,1,8,Value.nilFunc⟩
theorem bmo:qm Tryz.prog 97=some aJy:=by kernel_rfl
def aJx:TI:=⟨Kd.oth,1,8,Value.nilFunc⟩
theorem bmn:qm Tryz.prog 98=some aJx:=by kernel_rfl
def aJw:TI:=⟨Kd.oth,1,8,Value.nilFunc⟩
theorem bmm:qm Tryz.prog 99=some aJw:=by kernel_rfl
def aaX:TI:=⟨Kd.oth,1,8,Value.nilFunc⟩
theorem bhU:qm Tryz.prog 101=some aaX:=by kernel_rfl
def aaW:TI:=⟨Kd.oth,1,8,Value.nilFunc⟩
theorem bhT:qm Tryz.prog 102=some aaW:=by kernel_rfl
def aaV:TI:=⟨Kd.oth,1,8,Value.nilFunc⟩
theorem bhS:qm Tryz.prog 103=some aaV:=by kernel_rfl
def aaU:TI:=⟨Kd.oth,1,8,Value.nilFunc⟩
theorem bhR:qm Tryz.prog 104=some aaU:=by kernel_rfl
def QI:TI:=⟨Kd.sli 125,1,24,Value.slice none 0 0⟩
theorem aa3:qm Tryz.prog 105=some QI:=by kernel_rfl
def Je:TI:=⟨Kd.stru [(0,3),(1,105)],2,32,Value.agg ⟨[Value.int IntKind.i64 0,Value.slice none 0 0]⟩⟩
theorem aGc:qm Tryz.prog 106=some Je:=by kernel_rfl
def Jd:TI:=⟨Kd.stru [(0,3),(1,105)],2,32,Value.agg ⟨[Value.int IntKind.i64 0,Value.slice none 0 0]⟩⟩
theorem aGb:qm Tryz.prog 107=some Jd:=by kernel_rfl
def Qq:TI:=⟨Kd.sli 117,1,24,Value.slice none 0 0⟩
theorem YZ:qm Tryz.prog 108=some Qq:=by kernel_rfl
def Jc:TI:=⟨Kd.stru [(0,3),(1,108)],2,32,Value.agg ⟨[Value.int IntKind.i64 0,Value.slice none 0 0]⟩⟩
theorem aGa:qm Tryz.prog 109=some Jc:=by kernel_rfl
def Jb:TI:=⟨Kd.stru [(0,3),(1,108)],2,32,Value.agg ⟨[Value.int IntKind.i64 0,Value.slice none 0 0]⟩⟩
theorem aF9:qm Tryz.prog 110=some Jb:=by kernel_rfl
def aaT:TI:=⟨Kd.oth,1,8,Value.nilFunc⟩
theorem bhQ:qm Tryz.prog 111=some aaT:=by kernel_rfl
def aaS:TI:=⟨Kd.oth,1,8,Value.nilFunc⟩
theorem bhP:qm Tryz.prog 112=some aaS:=by kernel_rfl
def aaR:TI:=⟨Kd.oth,1,8,Value.nilFunc⟩
theorem bhO:qm Tryz.prog 113=some aaR:=by kernel_rfl
def aaQ:TI:=⟨Kd.oth,1,8,Value.nilFunc⟩
theorem bhN:qm Tryz.prog 114=some aaQ:=by kernel_rfl
def aaP:TI:=⟨Kd.oth,1,8,Value.nilFunc⟩
theorem bhM:qm Tryz.prog 115=some aaP:=by kernel_rfl
def ZO:TI:=⟨Kd.stru [(0,4),(1,36),(2,3)],3,40,Value.agg ⟨[Value.bool false,Value.slice none 0 0,Value.int IntKind.i64 0]⟩⟩
theorem ash:qm Tryz.prog 116=some ZO:=by kernel_rfl
def jz:TI:=⟨Kd.stru [(0,4),(1,36),(2,3)],3,40,Value.agg ⟨[Value.bool false,Value.slice none 0 0,Value.int IntKind.i64 0]⟩⟩
theorem yL:qm Tryz.prog 117=some jz:=by kernel_rfl
def aaO:TI:=⟨Kd.oth,1,8,Value.nilFunc⟩
theorem bhL:qm Tryz.prog 118=some aaO:=by kernel_rfl
def aaN:TI:=⟨Kd.oth,1,8,Value.nilFunc⟩
theorem bhK:qm Tryz.prog 119=some aaN:=by kernel_rfl
def aaM:TI:=⟨Kd.oth,1,8,Value.nilFunc⟩
theorem bhJ:qm Tryz.prog 120=some aaM:=by kernel_rfl
def aaL:TI:=⟨Kd.oth,1,8,Value.nilFunc⟩
theorem bhI:qm Tryz.prog 121=some aaL:=by kernel_rfl
def aaK:TI:=⟨Kd.oth,1,8,Value.nilFunc⟩
theorem bhH:qm Tryz.prog 122=some aaK:=by kernel_rfl
def aaJ:TI:=⟨Kd.oth,1,8,Value.nilFunc⟩
theorem bhG:qm Tryz.prog 123=some aaJ:=by kernel_rfl
def Ja:TI:=⟨Kd.stru [(0,117),(3,117)],6,80,Value.agg ⟨[Value.bool false,Value.slice none 0 0,Value.int IntKind.i64 0,Value.bool false,Value.slice none 0 0,Value.int IntKind.i64 0]⟩⟩
theorem aF8:qm Tryz.prog 124=some Ja:=by kernel_rfl
def ZN:TI:=⟨Kd.stru [(0,117),(3,117)],6,80,Value.agg ⟨[Value.bool false,Value.slice none 0 0,Value.int IntKind.i64 0,Value.bool false,Value.slice none 0 0,Value.int IntKind.i64 0]⟩⟩
theorem asg:qm Tryz.prog 125=some ZN:=by kernel_rfl
def aaI:TI:=⟨Kd.oth,1,8,Value.nilFunc⟩
theorem bhF:qm Tryz.prog 127=some aaI:=by kernel_rfl
def aaH:TI:=⟨Kd.oth,1,8,Value.nilFunc⟩
theorem bhE:qm Tryz.prog 128=some aaH:=by kernel_rfl
def aaG:TI:=⟨Kd.oth,1,8,Value.nilFunc⟩
theorem bhD:qm Tryz.prog 129=some aaG:=by kernel_rfl
def aaF:TI:=⟨Kd.oth,1,8,Value.nilFunc⟩
theorem bhC:qm Tryz.prog 130=some aaF:=by kernel_rfl
def aaE:TI:=⟨Kd.oth,1,8,Value.nilFunc⟩
theorem bhB:qm Tryz.prog 131=some aaE:=by kernel_rfl
def aaD:TI:=⟨Kd.oth,1,8,Value.nilFunc⟩
theorem bhA:qm Tryz.prog 132=some aaD:=by kernel_rfl
def aaC:TI:=⟨Kd.oth,1,8,Value.nilFunc⟩
theorem bhz:qm Tryz.prog 133=some aaC:=by kernel_rfl
def aaB:TI:=⟨Kd.oth,1,8,Value.nilFunc⟩
theorem bhy:qm Tryz.prog 134=some aaB:=by kernel_rfl
def aaA:TI:=⟨Kd.oth,1,8,Value.nilFunc⟩
theorem bhx:qm Tryz.prog 135=some aaA:=by kernel_rfl
def aaz:TI:=⟨Kd.oth,1,8,Value.nilFunc⟩
theorem bhw:qm Tryz.prog 136=some aaz:=by kernel_rfl
def aay:TI:=⟨Kd.oth,1,8,Value.nilFunc⟩
theorem bhv:qm Tryz.prog 137=some aay:=by kernel_rfl
def aax:TI:=⟨Kd.oth,1,8,Value.nilFunc⟩
theorem bhu:qm Tryz.prog 138=some aax:=by kernel_rfl
def aaw:TI:=⟨Kd.oth,1,8,Value.nilFunc⟩
theorem bht:qm Tryz.prog 139=some aaw:=by kernel_rfl
def aav:TI:=⟨Kd.oth,1,8,Value.nilFunc⟩
theorem bhs:qm Tryz.prog 141=some aav:=by kernel_rfl
def aau:TI:=⟨Kd.oth,1,8,Value.nilFunc⟩
theorem bhr:qm Tryz.prog 142=some aau:=by kernel_rfl
def aat:TI:=⟨Kd.oth,1,8,Value.nilFunc⟩
theorem bhq:qm Tryz.prog 143=some aat:=by kernel_rfl
def aas:TI:=⟨Kd.oth,1,8,Value.nilFunc⟩
theorem bho:qm Tryz.prog 144=some aas:=by kernel_rfl
def aar:TI:=⟨Kd.oth,1,8,Value.nilFunc⟩
theorem bhn:qm Tryz.prog 145=some aar:=by kernel_rfl
def aaq:TI:=⟨Kd.oth,1,8,Value.nilFunc⟩
theorem bhm:qm Tryz.prog 146=some aaq:=by kernel_rfl
def aap:TI:=⟨Kd.oth,1,8,Value.nilFunc⟩
theorem bhl:qm Tryz.prog 147=some aap:=by kernel_rfl
def aao:TI:=⟨Kd.oth,1,8,Value.nilFunc⟩
theorem bhk:qm Tryz.prog 148=some aao:=by kernel_rfl
def aan:TI:=⟨Kd.oth,1,8,Value.nilFunc⟩
theorem bhj:qm Tryz.prog 149=some aan:=by kernel_rfl
def aam:TI:=⟨Kd.oth,1,8,Value.nilFunc⟩
theorem bhi:qm Tryz.prog 150=some aam:=by kernel_rfl
def aal:TI:=⟨Kd.oth,1,8,Value.nilFunc⟩
theorem bhh:qm Tryz.prog 151=some aal:=by kernel_rfl
def aak:TI:=⟨Kd.oth,1,8,Value.nilFunc⟩
theorem bhg:qm Tryz.prog 152=some aak:=by kernel_rfl
def aaj:TI:=⟨Kd.oth,1,8,Value.nilFunc⟩
theorem bhf:qm Tryz.prog 153=some aaj:=by kernel_rfl
def aai:TI:=⟨Kd.oth,1,8,Value.nilFunc⟩
theorem bhe:qm Tryz.prog 154=some aai:=by kernel_rfl
def aah:TI:=⟨Kd.oth,1,8,Value.nilFunc⟩
theorem bhd:qm Tryz.prog 155=some aah:=by kernel_rfl
def aag:TI:=⟨Kd.oth,1,8,Value.nilFunc⟩
theorem bhc:qm Tryz.prog 156=some aag:=by kernel_rfl
def aaf:TI:=⟨Kd.oth,1,8,Value.nilFunc⟩
theorem bhb:qm Tryz.prog 157=some aaf:=by kernel_rfl
def aae:TI:=⟨Kd.oth,1,8,Value.nilFunc⟩
theorem bha:qm Tryz.prog 158=some aae:=by kernel_rfl
def aad:TI:=⟨Kd.oth,1,8,Value.nilFunc⟩
theorem bg9:qm Tryz.prog 159=some aad:=by kernel_rfl
def aac:TI:=⟨Kd.oth,1,8,Value.nilFunc⟩
theorem bg8:qm Tryz.prog 160=some aac:=by kernel_rfl
def aab:TI:=⟨Kd.oth,1,8,Value.nilFunc⟩
theorem bg7:qm Tryz.prog 161=some aab:=by kernel_rfl
def aaa:TI:=⟨Kd.oth,1,8,Value.nilFunc⟩
theorem bg6:qm Tryz.prog 162=some aaa:=by kernel_rfl
def K9:TI:=⟨Kd.oth,1,8,Value.nilFunc⟩
theorem bg5:qm Tryz.prog 163=some K9:=by kernel_rfl
def K8:TI:=⟨Kd.oth,1,8,Value.nilFunc⟩
theorem bg4:qm Tryz.prog 164=some K8:=by kernel_rfl
def K7:TI:=⟨Kd.oth,1,8,Value.nilFunc⟩
theorem bg3:qm Tryz.prog 165=some K7:=by kernel_rfl
def K6:TI:=⟨Kd.oth,1,8,Value.nilFunc⟩
theorem bg2:qm Tryz.prog 166=some K6:=by kernel_rfl
def K5:TI:=⟨Kd.oth,1,8,Value.nilFunc⟩
theorem bg1:qm Tryz.prog 167=some K5:=by kernel_rfl
def K4:TI:=⟨Kd.oth,1,8,Value.nilFunc⟩
theorem bg0:qm Tryz.prog 168=some K4:=by kernel_rfl
def K3:TI:=⟨Kd.oth,1,8,Value.nilFunc⟩
theorem bgZ:qm Tryz.prog 169=some K3:=by kernel_rfl
def K2:TI:=⟨Kd.oth,1,8,Value.nilFunc⟩
theorem bgY:qm Tryz.prog 170=some K2:=by kernel_rfl
def KZ:TI:=⟨Kd.oth,1,8,Value.nilFunc⟩
theorem bgX:qm Tryz.prog 171=some KZ:=by kernel_rfl
def KY:TI:=⟨Kd.oth,1,8,Value.nilFunc⟩
theorem bgW:qm Tryz.prog 172=some KY:=by kernel_rfl
def KX:TI:=⟨Kd.oth,1,8,Value.nilFunc⟩
theorem bgV:qm Tryz.prog 173=some KX:=by kernel_rfl
def KW:TI:=⟨Kd.oth,1,8,Value.nilFunc⟩
theorem bgU:qm Tryz.prog 174=some KW:=by kernel_rfl
def KU:TI:=⟨Kd.oth,1,8,Value.nilFunc⟩
theorem bgT:qm Tryz.prog 175=some KU:=by kernel_rfl
def ZM:TI:=⟨Kd.stru [(0,22),(1,3),(2,3)],3,40,Value.agg ⟨[Value.slice none 0 0,Value.int IntKind.i64 0,Value.int IntKind.i64 0]⟩⟩
theorem asf:qm Tryz.prog 176=some ZM:=by kernel_rfl
def ZL:TI:=⟨Kd.stru [(0,22),(1,3),(2,3)],3,40,Value.agg ⟨[Value.slice none 0 0,Value.int IntKind.i64 0,Value.int IntKind.i64 0]⟩⟩
theorem ase:qm Tryz.prog 177=some ZL:=by kernel_rfl
def KT:TI:=⟨Kd.oth,1,8,Value.nilFunc⟩
theorem bgS:qm Tryz.prog 178=some KT:=by kernel_rfl
def KS:TI:=⟨Kd.oth,1,8,Value.nilFunc⟩
theorem bgR:qm Tryz.prog 179=some KS:=by kernel_rfl
def KR:TI:=⟨Kd.oth,1,8,Value.nilFunc⟩
theorem bgQ:qm Tryz.prog 180=some KR:=by kernel_rfl
def KQ:TI:=⟨Kd.oth,1,8,Value.nilFunc⟩
theorem bgP:qm Tryz.prog 181=some KQ:=by kernel_rfl
def KP:TI:=⟨Kd.oth,1,8,Value.nilFunc⟩
theorem bgO:qm Tryz.prog 182=some KP:=by kernel_rfl
def KO:TI:=⟨Kd.oth,1,8,Value.nilFunc⟩
theorem bgN:qm Tryz.prog 183=some KO:=by kernel_rfl
def KN:TI:=⟨Kd.oth,1,8,Value.nilFunc⟩
theorem bgM:qm Tryz.prog 184=some KN:=by kernel_rfl
def KM:TI:=⟨Kd.oth,1,8,Value.nilFunc⟩
theorem bgL:qm Tryz.prog 185=some KM:=by kernel_rfl
def KL:TI:=⟨Kd.oth,1,8,Value.nilFunc⟩
theorem bgK:qm Tryz.prog 186=some KL:=by kernel_rfl
def KK:TI:=⟨Kd.oth,1,8,Value.nilFunc⟩
theorem bgJ:qm Tryz.prog 188=some KK:=by kernel_rfl
def KJ:TI:=⟨Kd.oth,1,8,Value.nilFunc⟩
theorem bgI:qm Tryz.prog 189=some KJ:=by kernel_rfl
def KI:TI:=⟨Kd.oth,1,8,Value.nilFunc⟩
theorem bgH:qm Tryz.prog 190=some KI:=by kernel_rfl
def KH:TI:=⟨Kd.oth,1,8,Value.nilFunc⟩
theorem bgG:qm Tryz.prog 191=some KH:=by kernel_rfl
def KG:TI:=⟨Kd.oth,1,8,Value.nilFunc⟩
theorem bgF:qm Tryz.prog 192=some KG:=by kernel_rfl
def KF:TI:=⟨Kd.oth,1,8,Value.nilFunc⟩
theorem bgE:qm Tryz.prog 193=some KF:=by kernel_rfl
def KE:TI:=⟨Kd.oth,1,8,Value.nilFunc⟩
theorem bgD:qm Tryz.prog 194=some KE:=by kernel_rfl
def KD:TI:=⟨Kd.sli 108,1,24,Value.slice none 0 0⟩
theorem aUs:qm Tryz.prog 195=some KD:=by kernel_rfl
def KC:TI:=⟨Kd.oth,1,8,Value.nilFunc⟩
theorem bgC:qm Tryz.prog 196=some KC:=by kernel_rfl
def KB:TI:=⟨Kd.oth,1,8,Value.nilFunc⟩
theorem bgB:qm Tryz.prog 197=some KB:=by kernel_rfl
def KA:TI:=⟨Kd.oth,1,8,Value.nilFunc⟩
theorem bgA:qm Tryz.prog 198=some KA:=by kernel_rfl
def Kw:TI:=⟨Kd.oth,1,8,Value.nilFunc⟩
theorem bgz:qm Tryz.prog 200=some Kw:=by kernel_rfl
def Kv:TI:=⟨Kd.oth,1,8,Value.nilFunc⟩
theorem bgy:qm Tryz.prog 201=some Kv:=by kernel_rfl
def Ku:TI:=⟨Kd.oth,1,8,Value.nilFunc⟩
theorem bgx:qm Tryz.prog 202=some Ku:=by kernel_rfl
def Kt:TI:=⟨Kd.oth,1,8,Value.nilFunc⟩
theorem bgw:qm Tryz.prog 204=some Kt:=by kernel_rfl
def Ks:TI:=⟨Kd.oth,1,8,Value.nilFunc⟩
theorem bgv:qm Tryz.prog 206=some Ks:=by kernel_rfl
def Kr:TI:=⟨Kd.oth,1,8,Value.nilFunc⟩
theorem bgu:qm Tryz.prog 207=some Kr:=by kernel_rfl
def Kq:TI:=⟨Kd.oth,1,8,Value.nilFunc⟩
theorem bgt:qm Tryz.prog 208=some Kq:=by kernel_rfl
def Kp:TI:=⟨Kd.oth,1,8,Value.nilFunc⟩
theorem bgs:qm Tryz.prog 209=some Kp:=by kernel_rfl
def Ko:TI:=⟨Kd.oth,1,8,Value.nilFunc⟩
theorem bgr:qm Tryz.prog 210=some Ko:=by kernel_rfl
def Kn:TI:=⟨Kd.oth,1,8,Value.nilFunc⟩
theorem bgq:qm Tryz.prog 211=some Kn:=by kernel_rfl
def Km:TI:=⟨Kd.oth,1,8,Value.nilFunc⟩
theorem bgp:qm Tryz.prog 213=some Km:=by kernel_rfl
def Kl:TI:=⟨Kd.oth,1,8,Value.nilFunc⟩
theorem bgo:qm Tryz.prog 214=some Kl:=by kernel_rfl
def Kk:TI:=⟨Kd.oth,1,8,Value.nilFunc⟩
theorem bgn:qm Tryz.prog 215=some Kk:=by kernel_rfl
def Kj:TI:=⟨Kd.oth,1,8,Value.nilFunc⟩
theorem bgm:qm Tryz.prog 216=some Kj:=by kernel_rfl
def Ki:TI:=⟨Kd.oth,1,8,Value.nilFunc⟩
theorem bgl:qm Tryz.prog 217=some Ki:=by kernel_rfl
def Kh:TI:=⟨Kd.oth,1,8,Value.nilFunc⟩
theorem bgk:qm Tryz.prog 218=some Kh:=by kernel_rfl
def Kg:TI:=⟨Kd.oth,1,8,Value.nilFunc⟩
theorem bgj:qm Tryz.prog 219=some Kg:=by kernel_rfl
def Kf:TI:=⟨Kd.oth,1,8,Value.nilFunc⟩
theorem bgi:qm Tryz.prog 220=some Kf:=by kernel_rfl
def Ke:TI:=⟨Kd.oth,1,8,Value.nilFunc⟩
theorem bgh:qm Tryz.prog 221=some Ke:=by kernel_rfl
def Kc:TI:=⟨Kd.oth,1,8,Value.nilFunc⟩
theorem bgg:qm Tryz.prog 222=some Kc:=by kernel_rfl
def Ka:TI:=⟨Kd.oth,1,8,Value.nilFunc⟩
theorem bgf:qm Tryz.prog 223=some Ka:=by kernel_rfl
def V9:TI:=⟨Kd.oth,1,8,Value.nilFunc⟩
theorem bge:qm Tryz.prog 224=some V9:=by kernel_rfl
def V8:TI:=⟨Kd.oth,1,8,Value.nilFunc⟩
theorem bgd:qm Tryz.prog 225=some V8:=by kernel_rfl
def V7:TI:=⟨Kd.oth,1,8,Value.nilFunc⟩
theorem bgc:qm Tryz.prog 226=some V7:=by kernel_rfl
def V6:TI:=⟨Kd.oth,1,8,Value.nilFunc⟩
theorem bgb:qm Tryz.prog 227=some V6:=by kernel_rfl
def V5:TI:=⟨Kd.oth,1,8,Value.nilFunc⟩
theorem bga:qm Tryz.prog 228=some V5:=by kernel_rfl
def V4:TI:=⟨Kd.oth,1,8,Value.nilFunc⟩
theorem bf9:qm Tryz.prog 229=some V4:=by kernel_rfl
def V3:TI:=⟨Kd.oth,1,8,Value.nilFunc⟩
theorem bf8:qm Tryz.prog 230=some V3:=by kernel_rfl
def V2:TI:=⟨Kd.oth,1,8,Value.nilFunc⟩
theorem bf7:qm Tryz.prog 231=some V2:=by kernel_rfl
def V1:TI:=⟨Kd.oth,1,8,Value.nilFunc⟩
theorem bf6:qm Tryz.prog 233=some V1:=by kernel_rfl
def V0:TI:=⟨Kd.oth,1,8,Value.nilFunc⟩
theorem bf5:qm Tryz.prog 234=some V0:=by kernel_rfl
def VZ:TI:=⟨Kd.oth,1,8,Value.nilFunc⟩
theorem bf4:qm Tryz.prog 235=some VZ:=by kernel_rfl
def VY:TI:=⟨Kd.oth,1,8,Value.nilFunc⟩
theorem bf3:qm Tryz.prog 236=some VY:=by kernel_rfl
def VX:TI:=⟨Kd.oth,1,8,Value.nilFunc⟩
theorem bf2:qm Tryz.prog 237=some VX:=by kernel_rfl
def VW:TI:=⟨Kd.oth,1,8,Value.nilFunc⟩
theorem bf1:qm Tryz.prog 238=some VW:=by kernel_rfl
def VV:TI:=⟨Kd.oth,1,8,Value.nilFunc⟩
theorem bf0:qm Tryz.prog 239=some VV:=by kernel_rfl
def VU:TI:=⟨Kd.oth,1,8,Value.nilFunc⟩
theorem bfZ:qm Tryz.prog 240=some VU:=by kernel_rfl
def VT:TI:=⟨Kd.oth,1,8,Value.nilFunc⟩
theorem bfY:qm Tryz.prog 241=some VT:=by kernel_rfl
def VS:TI:=⟨Kd.oth,1,8,Value.nilFunc⟩
theorem bfX:qm Tryz.prog 242=some VS:=by kernel_rfl
def VR:TI:=⟨Kd.oth,1,8,Value.nilFunc⟩
theorem bfW:qm Tryz.prog 243=some VR:=by kernel_rfl
def VQ:TI:=⟨Kd.oth,1,8,Value.nilFunc⟩
theorem bfV:qm Tryz.prog 244=some VQ:=by kernel_rfl
def VP:TI:=⟨Kd.oth,1,8,Value.nilFunc⟩
theorem bfU:qm Tryz.prog 245=some VP:=by kernel_rfl
def VO:TI:=⟨Kd.oth,1,8,Value.nilFunc⟩
theorem bfT:qm Tryz.prog 246=some VO:=by kernel_rfl
def VN:TI:=⟨Kd.oth,1,8,Value.nilFunc⟩
theorem bfS:qm Tryz.prog 247=some VN:=by kernel_rfl
def VM:TI:=⟨Kd.oth,1,8,Value.nilFunc⟩
theorem bfR:qm Tryz.prog 248=some VM:=by kernel_rfl
def VL:TI:=⟨Kd.oth,1,8,Value.nilFunc⟩
theorem bfQ:qm Tryz.prog 250=some VL:=by kernel_rfl
def VK:TI:=⟨Kd.oth,1,8,Value.nilFunc⟩
theorem bfP:qm Tryz.prog 252=some VK:=by kernel_rfl
def VJ:TI:=⟨Kd.oth,1,8,Value.nilFunc⟩
theorem bfO:qm Tryz.prog 253=some VJ:=by kernel_rfl
def VI:TI:=⟨Kd.oth,1,8,Value.nilFunc⟩
theorem bfN:qm Tryz.prog 254=some VI:=by kernel_rfl
def VH:TI:=⟨Kd.oth,1,8,Value.nilFunc⟩
theorem bfM:qm Tryz.prog 255=some VH:=by kernel_rfl
def VG:TI:=⟨Kd.oth,1,8,Value.nilFunc⟩
theorem bfL:qm Tryz.prog 256=some VG:=by kernel_rfl
def VF:TI:=⟨Kd.oth,1,8,Value.nilFunc⟩
theorem bfK:qm Tryz.prog 257=some VF:=by kernel_rfl
def VE:TI:=⟨Kd.oth,1,8,Value.nilFunc⟩
theorem bfJ:qm Tryz.prog 258=some VE:=by kernel_rfl
def VD:TI:=⟨Kd.oth,1,8,Value.nilFunc⟩
theorem bfI:qm Tryz.prog 259=some VD:=by kernel_rfl
def VC:TI:=⟨Kd.oth,1,8,Value.nilFunc⟩
theorem bfH:qm Tryz.prog 260=some VC:=by kernel_rfl
def VB:TI:=⟨Kd.oth,1,8,Value.nilFunc⟩
theorem bfG:qm Tryz.prog 261=some VB:=by kernel_rfl
def VA:TI:=⟨Kd.oth,1,8,Value.nilFunc⟩
theorem bfF:qm Tryz.prog 262=some VA:=by kernel_rfl
def Vz:TI:=⟨Kd.oth,1,8,Value.nilFunc⟩
theorem bfE:qm Tryz.prog 263=some Vz:=by kernel_rfl
def Vy:TI:=⟨Kd.int IntKind.u64,1,8,Value.int IntKind.u64 0⟩
theorem bfD:qm Tryz.prog 264=some Vy:=by kernel_rfl
def Vx:TI:=⟨Kd.oth,1,8,Value.nilFunc⟩
theorem bfC:qm Tryz.prog 265=some Vx:=by kernel_rfl
def Vw:TI:=⟨Kd.oth,1,8,Value.nilFunc⟩
theorem bfB:qm Tryz.prog 266=some Vw:=by kernel_rfl
def Vv:TI:=⟨Kd.oth,1,8,Value.nilFunc⟩
theorem bfA:qm Tryz.prog 267=some Vv:=by kernel_rfl
def Vu:TI:=⟨Kd.oth,1,8,Value.nilFunc⟩
theorem bfz:qm Tryz.prog 269=some Vu:=by kernel_rfl
def Vt:TI:=⟨Kd.oth,1,8,Value.nilFunc⟩
theorem bfy:qm Tryz.prog 271=some Vt:=by kernel_rfl
def Vs:TI:=⟨Kd.oth,1,8,Value.nilFunc⟩
theorem bfx:qm Tryz.prog 273=some Vs:=by kernel_rfl
def Vr:TI:=⟨Kd.oth,1,8,Value.nilFunc⟩
theorem bfw:qm Tryz.prog 274=some Vr:=by kernel_rfl
def Vq:TI:=⟨Kd.int IntKind.u32,1,4,Value.int IntKind.u32 0⟩
theorem bfv:qm Tryz.prog 275=some Vq:=by kernel_rfl
def Vp:TI:=⟨Kd.oth,1,8,Value.nilFunc⟩
theorem bfu:qm Tryz.prog 276=some Vp:=by kernel_rfl
def Vo:TI:=⟨Kd.int IntKind.u64,1,8,Value.int IntKind.u64 0⟩
theorem bft:qm Tryz.prog 277=some Vo:=by kernel_rfl
def Vn:TI:=⟨Kd.oth,1,8,Value.nilFunc⟩
theorem bfs:qm Tryz.prog 278=some Vn:=by kernel_rfl
def Vm:TI:=⟨Kd.oth,1,8,Value.nilFunc⟩
theorem bfr:qm Tryz.prog 279=some Vm:=by kernel_rfl
def Vl:TI:=⟨Kd.oth,1,8,Value.nilFunc⟩
theorem bfq:qm Tryz.prog 281=some Vl:=by kernel_rfl
def Vk:TI:=⟨Kd.oth,1,8,Value.nilFunc⟩
theorem bfp:qm Tryz.prog 282=some Vk:=by kernel_rfl
def Vj:TI:=⟨Kd.oth,1,8,Value.nilFunc⟩
theorem bfo:qm Tryz.prog 283=some Vj:=by kernel_rfl
def Vi:TI:=⟨Kd.oth,1,8,Value.nilFunc⟩
theorem bfn:qm Tryz.prog 287=some Vi:=by kernel_rfl
def Vh:TI:=⟨Kd.oth,1,8,Value.nilFunc⟩
theorem bfm:qm Tryz.prog 288=some Vh:=by kernel_rfl
def Vg:TI:=⟨Kd.oth,1,8,Value.nilFunc⟩
theorem bfl:qm Tryz.prog 289=some Vg:=by kernel_rfl
def Vf:TI:=⟨Kd.oth,1,8,Value.nilFunc⟩
theorem bfk:qm Tryz.prog 290=some Vf:=by kernel_rfl
def Ve:TI:=⟨Kd.oth,1,8,Value.nilFunc⟩
theorem bfj:qm Tryz.prog 291=some Ve:=by kernel_rfl
def Vd:TI:=⟨Kd.stru [(0,294)],0,0,Value.agg ⟨[]⟩⟩
theorem bfi:qm Tryz.prog 295=some Vd:=by kernel_rfl
def Vc:TI:=⟨Kd.stru [(0,294)],0,0,Value.agg ⟨[]⟩⟩
theorem bfh:qm Tryz.prog 296=some Vc:=by kernel_rfl
def Vb:TI:=⟨Kd.int IntKind.u8,1,1,Value.int IntKind.u8 0⟩
theorem bfg:qm Tryz.prog 297=some Vb:=by kernel_rfl
def Va:TI:=⟨Kd.int IntKind.u8,1,1,Value.int IntKind.u8 0⟩
theorem bff:qm Tryz.prog 298=some Va:=by kernel_rfl
def X9:TI:=⟨Kd.oth,1,8,Value.nilFunc⟩
theorem bfe:qm Tryz.prog 299=some X9:=by kernel_rfl
def X8:TI:=⟨Kd.int IntKind.i32,1,4,Value.int IntKind.i32 0⟩
theorem bfd:qm Tryz.prog 301=some X8:=by kernel_rfl
def X7:TI:=⟨Kd.int IntKind.i32,1,4,Value.int IntKind.i32 0⟩
theorem bfc:qm Tryz.prog 302=some X7:=by kernel_rfl
def X6:TI:=⟨Kd.oth,1,8,Value.nilFunc⟩
theorem bfb:qm Tryz.prog 305=some X6:=by kernel_rfl
def X5:TI:=⟨Kd.oth,1,8,Value.nilFunc⟩
theorem bfa:qm Tryz.prog 306=some X5:=by kernel_rfl
theorem ty1{K:TI→Prop}:@tyW Tryz.prog 1 ⟨K⟩=K ti1:=qc tf1
theorem aUp:ti1.kd=Kd.oth:=ID rfl
theorem aOW:ti1.kd.agg=false:=ID rfl
theorem aBo:ti1.size=1:=ID rfl
theorem aqz:ti1.bytes=8:=ID rfl
theorem aUn:qw ti1=True:=eq_true rfl
theorem aUo:zc ti1=[.v Value.nilFunc]:=ID rfl
theorem ty2{K:TI→Prop}:@tyW Tryz.prog 2 ⟨K⟩=K ti2:=qc tf2
theorem aUm:ti2.kd=Kd.int IntKind.i64:=ID rfl
theorem aOx:ti2.kd.agg=false:=ID rfl
theorem axb:ti2.size=1:=ID rfl
theorem aoZ:ti2.bytes=8:=ID rfl
theorem aUk:qw ti2=True:=eq_true rfl
theorem aUl:zc ti2=[.v (Value.int IntKind.i64 0)]:=ID rfl
theorem ty3{K:TI→Prop}:@tyW Tryz.prog 3 ⟨K⟩=K ti3:=qc tf3
theorem aUj:ti3.kd=Kd.int IntKind.i64:=ID rfl
theorem aN8:ti3.kd.agg=false:=ID rfl
theorem awP:ti3.size=1:=ID rfl
theorem aoK:ti3.bytes=8:=ID rfl
theorem aUh:qw ti3=True:=eq_true rfl
theorem aUi:zc ti3=[.v (Value.int IntKind.i64 0)]:=ID rfl
theorem ty4{K:TI→Prop}:@tyW Tryz.prog 4 ⟨K⟩=K ti4:=qc tf4
theorem aUg:ti4.kd=Kd.bool:=ID rfl
theorem aND:ti4.kd.agg=false:=ID rfl
theorem awE:ti4.size=1:=ID rfl
theorem aoy:ti4.bytes=1:=ID rfl
theorem aUe:qw ti4=True:=eq_true rfl
theorem aUf:zc ti4=[.v (Value.bool false)]:=ID rfl
theorem ty5{K:TI→Prop}:@tyW Tryz.prog 5 ⟨K⟩=K ti5:=qc tf5
theorem aUd:ti5.kd=Kd.int IntKind.u8:=ID rfl
theorem aNh:ti5.kd.agg=false:=ID rfl
theorem aww:ti5.size=1:=ID rfl
theorem aoq:ti5.bytes=1:=ID rfl
theorem aUb:qw ti5=True:=eq_true rfl
theorem aUc:zc ti5=[.v (Value.int IntKind.u8 0)]:=ID rfl
theorem ty6{K:TI→Prop}:@tyW Tryz.prog 6 ⟨K⟩=K ti6:=qc tf6
theorem aUa:ti6.kd=Kd.int IntKind.u8:=ID rfl
theorem aMP:ti6.kd.agg=false:=ID rfl
theorem awl:ti6.size=1:=ID rfl
theorem aog:ti6.bytes=1:=ID rfl
theorem aT8:qw ti6=True:=eq_true rfl
theorem aT9:zc ti6=[.v (Value.int IntKind.u8 0)]:=ID rfl
theorem ty7{K:TI→Prop}:@tyW Tryz.prog 7 ⟨K⟩=K ti7:=qc tf7
theorem aT7:ti7.kd=Kd.stru [(0,2),(1,3),(2,4),(3,6)]:=ID rfl
theorem aMk:ti7.kd.agg=true:=ID rfl
theorem awa:ti7.size=4:=ID rfl
theorem an3:ti7.bytes=24:=ID rfl
theorem aT5:qw ti7=True:=eq_true rfl
theorem aT6:zc ti7=[.v (Value.int IntKind.i64 0),.v (Value.int IntKind.i64 0),.v (Value.bool false),.v (Value.int IntKind.u8 0)]:=ID rfl
theorem baL{K:Nat→TI→Prop}:@qA Tryz.prog 7 0 ⟨K⟩=K 0 ti2:=qr (ti:=ti7) (tf:=ti2) (fo:=(0,2)) (fs:=[(0,2),(1,3),(2,4),(3,6)]) tf7 rfl rfl tf2
theorem bio{K:Nat→Nat→Prop}:qt Tryz.prog [(0,2),(1,3),(2,4),(3,6)] 0 K=K 0 1:=qq (tf:=ti2) (fo:=(0,2)) (fs:=[(0,2),(1,3),(2,4),(3,6)]) rfl tf2
theorem baK{K:Nat→TI→Prop}:@qA Tryz.prog 7 1 ⟨K⟩=K 1 ti3:=qr (ti:=ti7) (tf:=ti3) (fo:=(1,3)) (fs:=[(0,2),(1,3),(2,4),(3,6)]) tf7 rfl rfl tf3
theorem bin{K:Nat→Nat→Prop}:qt Tryz.prog [(0,2),(1,3),(2,4),(3,6)] 1 K=K 1 1:=qq (tf:=ti3) (fo:=(1,3)) (fs:=[(0,2),(1,3),(2,4),(3,6)]) rfl tf3
theorem baJ{K:Nat→TI→Prop}:@qA Tryz.prog 7 2 ⟨K⟩=K 2 ti4:=qr (ti:=ti7) (tf:=ti4) (fo:=(2,4)) (fs:=[(0,2),(1,3),(2,4),(3,6)]) tf7 rfl rfl tf4
theorem bim{K:Nat→Nat→Prop}:qt Tryz.prog [(0,2),(1,3),(2,4),(3,6)] 2 K=K 2 1:=qq (tf:=ti4) (fo:=(2,4)) (fs:=[(0,2),(1,3),(2,4),(3,6)]) rfl tf4
theorem baI{K:Nat→TI→Prop}:@qA Tryz.prog 7 3 ⟨K⟩=K 3 ti6:=qr (ti:=ti7) (tf:=ti6) (fo:=(3,6)) (fs:=[(0,2),(1,3),(2,4),(3,6)]) tf7 rfl rfl tf6
theorem bil{K:Nat→Nat→Prop}:qt Tryz.prog [(0,2),(1,3),(2,4),(3,6)] 3 K=K 3 1:=qq (tf:=ti6) (fo:=(3,6)) (fs:=[(0,2),(1,3),(2,4),(3,6)]) rfl tf6
theorem biM:∀f∈([(0,2),(1,3),(2,4),(3,6)]:List (Nat×Nat)),(qm Tryz.prog f.2).isSome=true:=by
 intro f hf
 simp only[List.mem_cons,List.not_mem_nil,or_false]at hf
 rcases hf with rfl|rfl|rfl|rfl
 ·rw[tf2];rfl
 ·rw[tf3];rfl
 ·rw[tf4];rfl
 ·rw[tf6];rfl
theorem bnR{ps:List (Nat×AV)}{K:AV→Prop}:@za Tryz.prog 7 ps ⟨K⟩=@zg (qt Tryz.prog [(0,2),(1,3),(2,4),(3,6)]) (zc ti7) ps ⟨fun cs=>K (.ag cs)⟩:=qH tf7 rfl biM
theorem ty8{K:TI→Prop}:@tyW Tryz.prog 8 ⟨K⟩=K ti8:=qc tf8
theorem aT4:ti8.kd=Kd.stru [(0,2),(1,3),(2,4),(3,6)]:=ID rfl
theorem aLP:ti8.kd.agg=true:=ID rfl
theorem avZ:ti8.size=4:=ID rfl
theorem anP:ti8.bytes=24:=ID rfl
theorem aT2:qw ti8=True:=eq_true rfl
theorem aT3:zc ti8=[.v (Value.int IntKind.i64 0),.v (Value.int IntKind.i64 0),.v (Value.bool false),.v (Value.int IntKind.u8 0)]:=ID rfl
theorem baH{K:Nat→TI→Prop}:@qA Tryz.prog 8 0 ⟨K⟩=K 0 ti2:=qr (ti:=ti8) (tf:=ti2) (fo:=(0,2)) (fs:=[(0,2),(1,3),(2,4),(3,6)]) tf8 rfl rfl tf2
theorem bik{K:Nat→Nat→Prop}:qt Tryz.prog [(0,2),(1,3),(2,4),(3,6)] 0 K=K 0 1:=qq (tf:=ti2) (fo:=(0,2)) (fs:=[(0,2),(1,3),(2,4),(3,6)]) rfl tf2
theorem baG{K:Nat→TI→Prop}:@qA Tryz.prog 8 1 ⟨K⟩=K 1 ti3:=qr (ti:=ti8) (tf:=ti3) (fo:=(1,3)) (fs:=[(0,2),(1,3),(2,4),(3,6)]) tf8 rfl rfl tf3
theorem bij{K:Nat→Nat→Prop}:qt Tryz.prog [(0,2),(1,3),(2,4),(3,6)] 1 K=K 1 1:=qq (tf:=ti3) (fo:=(1,3)) (fs:=[(0,2),(1,3),(2,4),(3,6)]) rfl tf3
theorem baF{K:Nat→TI→Prop}:@qA Tryz.prog 8 2 ⟨K⟩=K 2 ti4:=qr (ti:=ti8) (tf:=ti4) (fo:=(2,4)) (fs:=[(0,2),(1,3),(2,4),(3,6)]) tf8 rfl rfl tf4
theorem bii{K:Nat→Nat→Prop}:qt Tryz.prog [(0,2),(1,3),(2,4),(3,6)] 2 K=K 2 1:=qq (tf:=ti4) (fo:=(2,4)) (fs:=[(0,2),(1,3),(2,4),(3,6)]) rfl tf4
theorem baE{K:Nat→TI→Prop}:@qA Tryz.prog 8 3 ⟨K⟩=K 3 ti6:=qr (ti:=ti8) (tf:=ti6) (fo:=(3,6)) (fs:=[(0,2),(1,3),(2,4),(3,6)]) tf8 rfl rfl tf6
theorem bih{K:Nat→Nat→Prop}:qt Tryz.prog [(0,2),(1,3),(2,4),(3,6)] 3 K=K 3 1:=qq (tf:=ti6) (fo:=(3,6)) (fs:=[(0,2),(1,3),(2,4),(3,6)]) rfl tf6
theorem biL:∀f∈([(0,2),(1,3),(2,4),(3,6)]:List (Nat×Nat)),(qm Tryz.prog f.2).isSome=true:=by
 intro f hf
 simp only[List.mem_cons,List.not_mem_nil,or_false]at hf
 rcases hf with rfl|rfl|rfl|rfl
 ·rw[tf2];rfl
 ·rw[tf3];rfl
 ·rw[tf4];rfl
 ·rw[tf6];rfl
theorem bnQ{ps:List (Nat×AV)}{K:AV→Prop}:@za Tryz.prog 8 ps ⟨K⟩=@zg (qt Tryz.prog [(0,2),(1,3),(2,4),(3,6)]) (zc ti8) ps ⟨fun cs=>K (.ag cs)⟩:=qH tf8 rfl biL
theorem ty9{K:TI→Prop}:@tyW Tryz.prog 9 ⟨K⟩=K ti9:=qc tf9
theorem aT1:ti9.kd=Kd.str:=ID rfl
theorem aLn:ti9.kd.agg=false:=ID rfl
theorem avP:ti9.size=1:=ID rfl
theorem anF:ti9.bytes=16:=ID rfl
theorem aTZ:qw ti9=True:=eq_true rfl
theorem aT0:zc ti9=[.v (Value.string {data:=⟨[]⟩})]:=ID rfl
theorem bmk{K:TI→Prop}:@tyW Tryz.prog 10 ⟨K⟩=K aKj:=qc bm9
theorem aO5:aKj.kd=Kd.str:=ID rfl
theorem aFB:aKj.kd.agg=false:=ID rfl
theorem ar2:aKj.size=1:=ID rfl
theorem alS:aKj.bytes=16:=ID rfl
theorem aO3:qw aKj=True:=eq_true rfl
theorem aO4:zc aKj=[.v (Value.string {data:=⟨[]⟩})]:=ID rfl
theorem bmj{K:TI→Prop}:@tyW Tryz.prog 11 ⟨K⟩=K aKi:=qc bm8
theorem aO2:aKi.kd=Kd.str:=ID rfl
theorem aE6:aKi.kd.agg=false:=ID rfl
theorem arR:aKi.size=1:=ID rfl
theorem alH:aKi.bytes=16:=ID rfl
theorem aO0:qw aKi=True:=eq_true rfl
theorem aO1:zc aKi=[.v (Value.string {data:=⟨[]⟩})]:=ID rfl
theorem bmi{K:TI→Prop}:@tyW Tryz.prog 12 ⟨K⟩=K aKh:=qc bm7
theorem aOZ:aKh.kd=Kd.int IntKind.u64:=ID rfl
theorem aEE:aKh.kd.agg=false:=ID rfl
theorem arH:aKh.size=1:=ID rfl
theorem alu:aKh.bytes=8:=ID rfl
theorem aOX:qw aKh=True:=eq_true rfl
theorem aOY:zc aKh=[.v (Value.int IntKind.u64 0)]:=ID rfl
theorem bmh{K:TI→Prop}:@tyW Tryz.prog 21 ⟨K⟩=K aKg:=qc bm6
theorem aOV:aKg.kd=Kd.int IntKind.i32:=ID rfl
theorem aAy:aKg.kd.agg=false:=ID rfl
theorem aqh:aKg.size=1:=ID rfl
theorem aj6:aKg.bytes=4:=ID rfl
theorem aOT:qw aKg=True:=eq_true rfl
theorem aOU:zc aKg=[.v (Value.int IntKind.i32 0)]:=ID rfl
theorem bmg{K:TI→Prop}:@tyW Tryz.prog 22 ⟨K⟩=K agW:=qc aKn
theorem aOS:agW.kd=Kd.sli 5:=ID rfl
theorem az3:agW.kd.agg=false:=ID rfl
theorem ap6:agW.size=1:=ID rfl
theorem ajV:agW.bytes=24:=ID rfl
theorem aOQ:qw agW=True:=eq_true rfl
theorem aOR:zc agW=[.v (Value.slice none 0 0)]:=ID rfl
theorem bh4{K:TI→Prop}:@Qh Tryz.prog 22 ⟨K⟩=K ti5:=Zy aKn rfl tf5
theorem bmf{K:TI→Prop}:@tyW Tryz.prog 23 ⟨K⟩=K agV:=qc aKm
theorem aOP:agV.kd=Kd.sli 42:=ID rfl
theorem azB:agV.kd.agg=false:=ID rfl
theorem apW:agV.size=1:=ID rfl
theorem ajL:agV.bytes=24:=ID rfl
theorem aON:qw agV=True:=eq_true rfl
theorem aOO:zc agV=[.v (Value.slice none 0 0)]:=ID rfl
theorem bh3{K:TI→Prop}:@Qh Tryz.prog 23 ⟨K⟩=K ZW:=Zy aKm rfl aa1
theorem bme{K:TI→Prop}:@tyW Tryz.prog 24 ⟨K⟩=K apV:=qc bb5
theorem aOM:apV.kd=Kd.stru [(0,3),(1,23)]:=ID rfl
theorem ay9:apV.kd.agg=true:=ID rfl
theorem apL:apV.size=2:=ID rfl
theorem ajB:apV.bytes=32:=ID rfl
theorem aOK:qw apV=True:=eq_true rfl
theorem aOL:zc apV=[.v (Value.int IntKind.i64 0),.v (Value.slice none 0 0)]:=ID rfl
theorem aSg{K:Nat→TI→Prop}:@qA Tryz.prog 24 0 ⟨K⟩=K 0 ti3:=qr (ti:=apV) (tf:=ti3) (fo:=(0,3)) (fs:=[(0,3),(1,23)]) bb5 rfl rfl tf3
theorem aVC{K:Nat→Nat→Prop}:qt Tryz.prog [(0,3),(1,23)] 0 K=K 0 1:=qq (tf:=ti3) (fo:=(0,3)) (fs:=[(0,3),(1,23)]) rfl tf3
theorem aSf{K:Nat→TI→Prop}:@qA Tryz.prog 24 1 ⟨K⟩=K 1 agV:=qr (ti:=apV) (tf:=agV) (fo:=(1,23)) (fs:=[(0,3),(1,23)]) bb5 rfl rfl aKm
theorem aVB{K:Nat→Nat→Prop}:qt Tryz.prog [(0,3),(1,23)] 1 K=K 1 1:=qq (tf:=agV) (fo:=(1,23)) (fs:=[(0,3),(1,23)]) rfl aKm
theorem aWQ:∀f∈([(0,3),(1,23)]:List (Nat×Nat)),(qm Tryz.prog f.2).isSome=true:=by
 intro f hf
 simp only[List.mem_cons,List.not_mem_nil,or_false]at hf
 rcases hf with rfl|rfl
 ·rw[tf3];rfl
 ·rw[aKm];rfl
theorem bkG{ps:List (Nat×AV)}{K:AV→Prop}:@za Tryz.prog 24 ps ⟨K⟩=@zg (qt Tryz.prog [(0,3),(1,23)]) (zc apV) ps ⟨fun cs=>K (.ag cs)⟩:=qH bb5 rfl aWQ
theorem bmd{K:TI→Prop}:@tyW Tryz.prog 25 ⟨K⟩=K apK:=qc bb4
theorem aOJ:apK.kd=Kd.stru [(0,3),(1,23)]:=ID rfl
theorem ayH:apK.kd.agg=true:=ID rfl
theorem apz:apK.size=2:=ID rfl
theorem ajr:apK.bytes=32:=ID rfl
theorem aOH:qw apK=True:=eq_true rfl
theorem aOI:zc apK=[.v (Value.int IntKind.i64 0),.v (Value.slice none 0 0)]:=ID rfl
theorem aSe{K:Nat→TI→Prop}:@qA Tryz.prog 25 0 ⟨K⟩=K 0 ti3:=qr (ti:=apK) (tf:=ti3) (fo:=(0,3)) (fs:=[(0,3),(1,23)]) bb4 rfl rfl tf3
theorem aVA{K:Nat→Nat→Prop}:qt Tryz.prog [(0,3),(1,23)] 0 K=K 0 1:=qq (tf:=ti3) (fo:=(0,3)) (fs:=[(0,3),(1,23)]) rfl tf3
theorem aSd{K:Nat→TI→Prop}:@qA Tryz.prog 25 1 ⟨K⟩=K 1 agV:=qr (ti:=apK) (tf:=agV) (fo:=(1,23)) (fs:=[(0,3),(1,23)]) bb4 rfl rfl aKm
theorem aVz{K:Nat→Nat→Prop}:qt Tryz.prog [(0,3),(1,23)] 1 K=K 1 1:=qq (tf:=agV) (fo:=(1,23)) (fs:=[(0,3),(1,23)]) rfl aKm
theorem aWP:∀f∈([(0,3),(1,23)]:List (Nat×Nat)),(qm Tryz.prog f.2).isSome=true:=by
 intro f hf
 simp only[List.mem_cons,List.not_mem_nil,or_false]at hf
 rcases hf with rfl|rfl
 ·rw[tf3];rfl
 ·rw[aKm];rfl
theorem bkF{ps:List (Nat×AV)}{K:AV→Prop}:@za Tryz.prog 25 ps ⟨K⟩=@zg (qt Tryz.prog [(0,3),(1,23)]) (zc apK) ps ⟨fun cs=>K (.ag cs)⟩:=qH bb4 rfl aWP
theorem bmc{K:TI→Prop}:@tyW Tryz.prog 27 ⟨K⟩=K aKf:=qc bm5
theorem aOG:aKf.kd=Kd.oth:=ID rfl
theorem axR:aKf.kd.agg=false:=ID rfl
theorem apg:aKf.size=1:=ID rfl
theorem ai9:aKf.bytes=8:=ID rfl
theorem aOE:qw aKf=True:=eq_true rfl
theorem aOF:zc aKf=[.v Value.nilFunc]:=ID rfl
theorem bmb{K:TI→Prop}:@tyW Tryz.prog 28 ⟨K⟩=K agU:=qc aKl
theorem aOD:agU.kd=Kd.sli 90:=ID rfl
theorem axy:agU.kd.agg=false:=ID rfl
theorem ao9:agU.size=1:=ID rfl
theorem ai2:agU.bytes=24:=ID rfl
theorem aOB:qw agU=True:=eq_true rfl
theorem aOC:zc agU=[.v (Value.slice none 0 0)]:=ID rfl
theorem bh2{K:TI→Prop}:@Qh Tryz.prog 28 ⟨K⟩=K anq:=Zy aKl rfl aUq
theorem bma{K:TI→Prop}:@tyW Tryz.prog 29 ⟨K⟩=K ao8:=qc bb3
theorem aOA:ao8.kd=Kd.stru [(0,3),(1,28)]:=ID rfl
theorem axc:ao8.kd.agg=true:=ID rfl
theorem ao0:ao8.size=2:=ID rfl
theorem aiU:ao8.bytes=32:=ID rfl
theorem aOy:qw ao8=True:=eq_true rfl
theorem aOz:zc ao8=[.v (Value.int IntKind.i64 0),.v (Value.slice none 0 0)]:=ID rfl
theorem aSc{K:Nat→TI→Prop}:@qA Tryz.prog 29 0 ⟨K⟩=K 0 ti3:=qr (ti:=ao8) (tf:=ti3) (fo:=(0,3)) (fs:=[(0,3),(1,28)]) bb3 rfl rfl tf3
theorem aVy{K:Nat→Nat→Prop}:qt Tryz.prog [(0,3),(1,28)] 0 K=K 0 1:=qq (tf:=ti3) (fo:=(0,3)) (fs:=[(0,3),(1,28)]) rfl tf3
theorem aSb{K:Nat→TI→Prop}:@qA Tryz.prog 29 1 ⟨K⟩=K 1 agU:=qr (ti:=ao8) (tf:=agU) (fo:=(1,28)) (fs:=[(0,3),(1,28)]) bb3 rfl rfl aKl
theorem aVx{K:Nat→Nat→Prop}:qt Tryz.prog [(0,3),(1,28)] 1 K=K 1 1:=qq (tf:=agU) (fo:=(1,28)) (fs:=[(0,3),(1,28)]) rfl aKl
theorem aWO:∀f∈([(0,3),(1,28)]:List (Nat×Nat)),(qm Tryz.prog f.2).isSome=true:=by
 intro f hf
 simp only[List.mem_cons,List.not_mem_nil,or_false]at hf
 rcases hf with rfl|rfl
 ·rw[tf3];rfl
 ·rw[aKl];rfl
theorem bkE{ps:List (Nat×AV)}{K:AV→Prop}:@za Tryz.prog 29 ps ⟨K⟩=@zg (qt Tryz.prog [(0,3),(1,28)]) (zc ao8) ps ⟨fun cs=>K (.ag cs)⟩:=qH bb3 rfl aWO
theorem bl9{K:TI→Prop}:@tyW Tryz.prog 30 ⟨K⟩=K aoY:=qc bb2
theorem aOw:aoY.kd=Kd.stru [(0,3),(1,28)]:=ID rfl
theorem awY:aoY.kd.agg=true:=ID rfl
theorem aoT:aoY.size=2:=ID rfl
theorem aiP:aoY.bytes=32:=ID rfl
theorem aOu:qw aoY=True:=eq_true rfl
theorem aOv:zc aoY=[.v (Value.int IntKind.i64 0),.v (Value.slice none 0 0)]:=ID rfl
theorem aSa{K:Nat→TI→Prop}:@qA Tryz.prog 30 0 ⟨K⟩=K 0 ti3:=qr (ti:=aoY) (tf:=ti3) (fo:=(0,3)) (fs:=[(0,3),(1,28)]) bb2 rfl rfl tf3
theorem aVw{K:Nat→Nat→Prop}:qt Tryz.prog [(0,3),(1,28)] 0 K=K 0 1:=qq (tf:=ti3) (fo:=(0,3)) (fs:=[(0,3),(1,28)]) rfl tf3
theorem aR9{K:Nat→TI→Prop}:@qA Tryz.prog 30 1 ⟨K⟩=K 1 agU:=qr (ti:=aoY) (tf:=agU) (fo:=(1,28)) (fs:=[(0,3),(1,28)]) bb2 rfl rfl aKl
theorem aVv{K:Nat→Nat→Prop}:qt Tryz.prog [(0,3),(1,28)] 1 K=K 1 1:=qq (tf:=agU) (fo:=(1,28)) (fs:=[(0,3),(1,28)]) rfl aKl
theorem aWN:∀f∈([(0,3),(1,28)]:List (Nat×Nat)),(qm Tryz.prog f.2).isSome=true:=by
 intro f hf
 simp only[List.mem_cons,List.not_mem_nil,or_false]at hf
 rcases hf with rfl|rfl
 ·rw[tf3];rfl
 ·rw[aKl];rfl
theorem bkD{ps:List (Nat×AV)}{K:AV→Prop}:@za Tryz.prog 30 ps ⟨K⟩=@zg (qt Tryz.prog [(0,3),(1,28)]) (zc aoY) ps ⟨fun cs=>K (.ag cs)⟩:=qH bb2 rfl aWN
theorem bl8{K:TI→Prop}:@tyW Tryz.prog 32 ⟨K⟩=K aKe:=qc bm4
theorem aOt:aKe.kd=Kd.oth:=ID rfl
theorem awX:aKe.kd.agg=false:=ID rfl
theorem aoS:aKe.size=1:=ID rfl
theorem aiO:aKe.bytes=8:=ID rfl
theorem aOr:qw aKe=True:=eq_true rfl
theorem aOs:zc aKe=[.v Value.nilFunc]:=ID rfl
theorem bl7{K:TI→Prop}:@tyW Tryz.prog 33 ⟨K⟩=K aKd:=qc bm3
theorem aOq:aKd.kd=Kd.oth:=ID rfl
theorem awW:aKd.kd.agg=false:=ID rfl
theorem aoR:aKd.size=1:=ID rfl
theorem aiN:aKd.bytes=8:=ID rfl
theorem aOo:qw aKd=True:=eq_true rfl
theorem aOp:zc aKd=[.v Value.nilFunc]:=ID rfl
theorem bl6{K:TI→Prop}:@tyW Tryz.prog 35 ⟨K⟩=K aKc:=qc bm2
theorem aOn:aKc.kd=Kd.oth:=ID rfl
theorem awU:aKc.kd.agg=false:=ID rfl
theorem aoQ:aKc.size=1:=ID rfl
theorem aiM:aKc.bytes=8:=ID rfl
theorem aOl:qw aKc=True:=eq_true rfl
theorem aOm:zc aKc=[.v Value.nilFunc]:=ID rfl
theorem bl5{K:TI→Prop}:@tyW Tryz.prog 36 ⟨K⟩=K Z9:=qc aa2
theorem aOk:Z9.kd=Kd.sli 3:=ID rfl
theorem awT:Z9.kd.agg=false:=ID rfl
theorem aoP:Z9.size=1:=ID rfl
theorem aiL:Z9.bytes=24:=ID rfl
theorem aOi:qw Z9=True:=eq_true rfl
theorem aOj:zc Z9=[.v (Value.slice none 0 0)]:=ID rfl
theorem bh1{K:TI→Prop}:@Qh Tryz.prog 36 ⟨K⟩=K ti3:=Zy aa2 rfl tf3
theorem bl4{K:TI→Prop}:@tyW Tryz.prog 37 ⟨K⟩=K avt:=qc be9
theorem aOh:avt.kd=Kd.stru [(0,36)]:=ID rfl
theorem awS:avt.kd.agg=true:=ID rfl
theorem aoO:avt.size=1:=ID rfl
theorem aiK:avt.bytes=24:=ID rfl
theorem aOf:qw avt=True:=eq_true rfl
theorem aOg:zc avt=[.v (Value.slice none 0 0)]:=ID rfl
theorem aR8{K:Nat→TI→Prop}:@qA Tryz.prog 37 0 ⟨K⟩=K 0 Z9:=qr (ti:=avt) (tf:=Z9) (fo:=(0,36)) (fs:=[(0,36)]) be9 rfl rfl aa2
theorem aVu{K:Nat→Nat→Prop}:qt Tryz.prog [(0,36)] 0 K=K 0 1:=qq (tf:=Z9) (fo:=(0,36)) (fs:=[(0,36)]) rfl aa2
theorem aWM:∀f∈([(0,36)]:List (Nat×Nat)),(qm Tryz.prog f.2).isSome=true:=by
 intro f hf
 simp only[List.mem_cons,List.not_mem_nil,or_false]at hf
 subst hf;rw[aa2];rfl
theorem bkC{ps:List (Nat×AV)}{K:AV→Prop}:@za Tryz.prog 37 ps ⟨K⟩=@zg (qt Tryz.prog [(0,36)]) (zc avt) ps ⟨fun cs=>K (.ag cs)⟩:=qH be9 rfl aWM
theorem bl3{K:TI→Prop}:@tyW Tryz.prog 38 ⟨K⟩=K acp:=qc aF7
theorem aOe:acp.kd=Kd.stru [(0,36)]:=ID rfl
theorem awR:acp.kd.agg=true:=ID rfl
theorem aoN:acp.size=1:=ID rfl
theorem aiJ:acp.bytes=24:=ID rfl
theorem aOc:qw acp=True:=eq_true rfl
theorem aOd:zc acp=[.v (Value.slice none 0 0)]:=ID rfl
theorem aR7{K:Nat→TI→Prop}:@qA Tryz.prog 38 0 ⟨K⟩=K 0 Z9:=qr (ti:=acp) (tf:=Z9) (fo:=(0,36)) (fs:=[(0,36)]) aF7 rfl rfl aa2
theorem aVt{K:Nat→Nat→Prop}:qt Tryz.prog [(0,36)] 0 K=K 0 1:=qq (tf:=Z9) (fo:=(0,36)) (fs:=[(0,36)]) rfl aa2
theorem aWL:∀f∈([(0,36)]:List (Nat×Nat)),(qm Tryz.prog f.2).isSome=true:=by
 intro f hf
 simp only[List.mem_cons,List.not_mem_nil,or_false]at hf
 subst hf;rw[aa2];rfl
theorem bkB{ps:List (Nat×AV)}{K:AV→Prop}:@za Tryz.prog 38 ps ⟨K⟩=@zg (qt Tryz.prog [(0,36)]) (zc acp) ps ⟨fun cs=>K (.ag cs)⟩:=qH aF7 rfl aWL
theorem bl2{K:TI→Prop}:@tyW Tryz.prog 39 ⟨K⟩=K aoM:=qc bb1
theorem aOb:aoM.kd=Kd.stru [(0,4),(1,38)]:=ID rfl
theorem awQ:aoM.kd.agg=true:=ID rfl
theorem aoL:aoM.size=2:=ID rfl
theorem aiI:aoM.bytes=32:=ID rfl
theorem aN9:qw aoM=True:=eq_true rfl
theorem aOa:zc aoM=[.v (Value.bool false),.v (Value.slice none 0 0)]:=ID rfl
theorem aR6{K:Nat→TI→Prop}:@qA Tryz.prog 39 0 ⟨K⟩=K 0 ti4:=qr (ti:=aoM) (tf:=ti4) (fo:=(0,4)) (fs:=[(0,4),(1,38)]) bb1 rfl rfl tf4
theorem aVs{K:Nat→Nat→Prop}:qt Tryz.prog [(0,4),(1,38)] 0 K=K 0 1:=qq (tf:=ti4) (fo:=(0,4)) (fs:=[(0,4),(1,38)]) rfl tf4
theorem aR5{K:Nat→TI→Prop}:@qA Tryz.prog 39 1 ⟨K⟩=K 1 acp:=qr (ti:=aoM) (tf:=acp) (fo:=(1,38)) (fs:=[(0,4),(1,38)]) bb1 rfl rfl aF7
theorem aVr{K:Nat→Nat→Prop}:qt Tryz.prog [(0,4),(1,38)] 1 K=K 1 1:=qq (tf:=acp) (fo:=(1,38)) (fs:=[(0,4),(1,38)]) rfl aF7
theorem aWK:∀f∈([(0,4),(1,38)]:List (Nat×Nat)),(qm Tryz.prog f.2).isSome=true:=by
 intro f hf
 simp only[List.mem_cons,List.not_mem_nil,or_false]at hf
 rcases hf with rfl|rfl
 ·rw[tf4];rfl
 ·rw[aF7];rfl
theorem bkA{ps:List (Nat×AV)}{K:AV→Prop}:@za Tryz.prog 39 ps ⟨K⟩=@zg (qt Tryz.prog [(0,4),(1,38)]) (zc aoM) ps ⟨fun cs=>K (.ag cs)⟩:=qH bb1 rfl aWK
theorem bl1{K:TI→Prop}:@tyW Tryz.prog 40 ⟨K⟩=K X4:=qc avv
theorem aN7:X4.kd=Kd.stru [(0,4),(1,38)]:=ID rfl
theorem awO:X4.kd.agg=true:=ID rfl
theorem aoJ:X4.size=2:=ID rfl
theorem aiH:X4.bytes=32:=ID rfl
theorem aN5:qw X4=True:=eq_true rfl
theorem aN6:zc X4=[.v (Value.bool false),.v (Value.slice none 0 0)]:=ID rfl
theorem aR4{K:Nat→TI→Prop}:@qA Tryz.prog 40 0 ⟨K⟩=K 0 ti4:=qr (ti:=X4) (tf:=ti4) (fo:=(0,4)) (fs:=[(0,4),(1,38)]) avv rfl rfl tf4
theorem aVq{K:Nat→Nat→Prop}:qt Tryz.prog [(0,4),(1,38)] 0 K=K 0 1:=qq (tf:=ti4) (fo:=(0,4)) (fs:=[(0,4),(1,38)]) rfl tf4
theorem aR3{K:Nat→TI→Prop}:@qA Tryz.prog 40 1 ⟨K⟩=K 1 acp:=qr (ti:=X4) (tf:=acp) (fo:=(1,38)) (fs:=[(0,4),(1,38)]) avv rfl rfl aF7
theorem aVp{K:Nat→Nat→Prop}:qt Tryz.prog [(0,4),(1,38)] 1 K=K 1 1:=qq (tf:=acp) (fo:=(1,38)) (fs:=[(0,4),(1,38)]) rfl aF7
theorem aWJ:∀f∈([(0,4),(1,38)]:List (Nat×Nat)),(qm Tryz.prog f.2).isSome=true:=by
 intro f hf
 simp only[List.mem_cons,List.not_mem_nil,or_false]at hf
 rcases hf with rfl|rfl
 ·rw[tf4];rfl
 ·rw[aF7];rfl
theorem bkz{ps:List (Nat×AV)}{K:AV→Prop}:@za Tryz.prog 40 ps ⟨K⟩=@zg (qt Tryz.prog [(0,4),(1,38)]) (zc X4) ps ⟨fun cs=>K (.ag cs)⟩:=qH avv rfl aWJ
theorem bl0{K:TI→Prop}:@tyW Tryz.prog 41 ⟨K⟩=K aoI:=qc bb0
theorem aN4:aoI.kd=Kd.stru [(0,40),(2,3)]:=ID rfl
theorem awN:aoI.kd.agg=true:=ID rfl
theorem aoH:aoI.size=3:=ID rfl
theorem aiG:aoI.bytes=40:=ID rfl
theorem aN2:qw aoI=True:=eq_true rfl
theorem aN3:zc aoI=[.v (Value.bool false),.v (Value.slice none 0 0),.v (Value.int IntKind.i64 0)]:=ID rfl
theorem aR2{K:Nat→TI→Prop}:@qA Tryz.prog 41 0 ⟨K⟩=K 0 X4:=qr (ti:=aoI) (tf:=X4) (fo:=(0,40)) (fs:=[(0,40),(2,3)]) bb0 rfl rfl avv
theorem aVo{K:Nat→Nat→Prop}:qt Tryz.prog [(0,40),(2,3)] 0 K=K 0 2:=qq (tf:=X4) (fo:=(0,40)) (fs:=[(0,40),(2,3)]) rfl avv
theorem aR1{K:Nat→TI→Prop}:@qA Tryz.prog 41 1 ⟨K⟩=K 2 ti3:=qr (ti:=aoI) (tf:=ti3) (fo:=(2,3)) (fs:=[(0,40),(2,3)]) bb0 rfl rfl tf3
theorem aVn{K:Nat→Nat→Prop}:qt Tryz.prog [(0,40),(2,3)] 1 K=K 2 1:=qq (tf:=ti3) (fo:=(2,3)) (fs:=[(0,40),(2,3)]) rfl tf3
theorem aWI:∀f∈([(0,40),(2,3)]:List (Nat×Nat)),(qm Tryz.prog f.2).isSome=true:=by
 intro f hf
 simp only[List.mem_cons,List.not_mem_nil,or_false]at hf
 rcases hf with rfl|rfl
 ·rw[avv];rfl
 ·rw[tf3];rfl
theorem bky{ps:List (Nat×AV)}{K:AV→Prop}:@za Tryz.prog 41 ps ⟨K⟩=@zg (qt Tryz.prog [(0,40),(2,3)]) (zc aoI) ps ⟨fun cs=>K (.ag cs)⟩:=qH bb0 rfl aWI
theorem blZ{K:TI→Prop}:@tyW Tryz.prog 42 ⟨K⟩=K ZW:=qc aa1
theorem aN1:ZW.kd=Kd.stru [(0,40),(2,3)]:=ID rfl
theorem awM:ZW.kd.agg=true:=ID rfl
theorem aoG:ZW.size=3:=ID rfl
theorem aiF:ZW.bytes=40:=ID rfl
theorem aNZ:qw ZW=True:=eq_true rfl
theorem aN0:zc ZW=[.v (Value.bool false),.v (Value.slice none 0 0),.v (Value.int IntKind.i64 0)]:=ID rfl
theorem aR0{K:Nat→TI→Prop}:@qA Tryz.prog 42 0 ⟨K⟩=K 0 X4:=qr (ti:=ZW) (tf:=X4) (fo:=(0,40)) (fs:=[(0,40),(2,3)]) aa1 rfl rfl avv
theorem aVm{K:Nat→Nat→Prop}:qt Tryz.prog [(0,40),(2,3)] 0 K=K 0 2:=qq (tf:=X4) (fo:=(0,40)) (fs:=[(0,40),(2,3)]) rfl avv
theorem aRZ{K:Nat→TI→Prop}:@qA Tryz.prog 42 1 ⟨K⟩=K 2 ti3:=qr (ti:=ZW) (tf:=ti3) (fo:=(2,3)) (fs:=[(0,40),(2,3)]) aa1 rfl rfl tf3
theorem aVl{K:Nat→Nat→Prop}:qt Tryz.prog [(0,40),(2,3)] 1 K=K 2 1:=qq (tf:=ti3) (fo:=(2,3)) (fs:=[(0,40),(2,3)]) rfl tf3
theorem aWH:∀f∈([(0,40),(2,3)]:List (Nat×Nat)),(qm Tryz.prog f.2).isSome=true:=by
 intro f hf
 simp only[List.mem_cons,List.not_mem_nil,or_false]at hf
 rcases hf with rfl|rfl
 ·rw[avv];rfl
 ·rw[tf3];rfl
theorem bkx{ps:List (Nat×AV)}{K:AV→Prop}:@za Tryz.prog 42 ps ⟨K⟩=@zg (qt Tryz.prog [(0,40),(2,3)]) (zc ZW) ps ⟨fun cs=>K (.ag cs)⟩:=qH aa1 rfl aWH
theorem blY{K:TI→Prop}:@tyW Tryz.prog 43 ⟨K⟩=K aKb:=qc bm1
theorem aNY:aKb.kd=Kd.oth:=ID rfl
theorem awL:aKb.kd.agg=false:=ID rfl
theorem aoF:aKb.size=1:=ID rfl
theorem aiE:aKb.bytes=8:=ID rfl
theorem aNW:qw aKb=True:=eq_true rfl
theorem aNX:zc aKb=[.v Value.nilFunc]:=ID rfl
theorem blX{K:TI→Prop}:@tyW Tryz.prog 44 ⟨K⟩=K aKa:=qc bm0
theorem aNV:aKa.kd=Kd.oth:=ID rfl
theorem awK:aKa.kd.agg=false:=ID rfl
theorem aoE:aKa.size=1:=ID rfl
theorem aiD:aKa.bytes=8:=ID rfl
theorem aNT:qw aKa=True:=eq_true rfl
theorem aNU:zc aKa=[.v Value.nilFunc]:=ID rfl
theorem blW{K:TI→Prop}:@tyW Tryz.prog 45 ⟨K⟩=K aJ9:=qc bmZ
theorem aNS:aJ9.kd=Kd.oth:=ID rfl
theorem awJ:aJ9.kd.agg=false:=ID rfl
theorem aoD:aJ9.size=1:=ID rfl
theorem aiC:aJ9.bytes=8:=ID rfl
theorem aNQ:qw aJ9=True:=eq_true rfl
theorem aNR:zc aJ9=[.v Value.nilFunc]:=ID rfl
theorem blV{K:TI→Prop}:@tyW Tryz.prog 46 ⟨K⟩=K aJ8:=qc bmY
theorem aNP:aJ8.kd=Kd.oth:=ID rfl
theorem awI:aJ8.kd.agg=false:=ID rfl
theorem aoC:aJ8.size=1:=ID rfl
theorem aiB:aJ8.bytes=8:=ID rfl
theorem aNN:qw aJ8=True:=eq_true rfl
theorem aNO:zc aJ8=[.v Value.nilFunc]:=ID rfl
theorem blU{K:TI→Prop}:@tyW Tryz.prog 47 ⟨K⟩=K aJ7:=qc bmX
theorem aNM:aJ7.kd=Kd.oth:=ID rfl
theorem awH:aJ7.kd.agg=false:=ID rfl
theorem aoB:aJ7.size=1:=ID rfl
theorem aiA:aJ7.bytes=8:=ID rfl
theorem aNK:qw aJ7=True:=eq_true rfl
theorem aNL:zc aJ7=[.v Value.nilFunc]:=ID rfl
theorem blT{K:TI→Prop}:@tyW Tryz.prog 48 ⟨K⟩=K aJ6:=qc bmW
theorem aNJ:aJ6.kd=Kd.oth:=ID rfl
theorem awG:aJ6.kd.agg=false:=ID rfl
theorem aoA:aJ6.size=1:=ID rfl
theorem aiz:aJ6.bytes=8:=ID rfl
theorem aNH:qw aJ6=True:=eq_true rfl
theorem aNI:zc aJ6=[.v Value.nilFunc]:=ID rfl
theorem blS{K:TI→Prop}:@tyW Tryz.prog 49 ⟨K⟩=K aJ5:=qc bmV
theorem aNG:aJ5.kd=Kd.oth:=ID rfl
theorem awF:aJ5.kd.agg=false:=ID rfl
theorem aoz:aJ5.size=1:=ID rfl
theorem aiy:aJ5.bytes=8:=ID rfl
theorem aNE:qw aJ5=True:=eq_true rfl
theorem aNF:zc aJ5=[.v Value.nilFunc]:=ID rfl
theorem blR{K:TI→Prop}:@tyW Tryz.prog 50 ⟨K⟩=K aJ4:=qc bmU
theorem aNC:aJ4.kd=Kd.oth:=ID rfl
theorem awD:aJ4.kd.agg=false:=ID rfl
theorem aox:aJ4.size=1:=ID rfl
theorem aix:aJ4.bytes=8:=ID rfl
theorem aNA:qw aJ4=True:=eq_true rfl
theorem aNB:zc aJ4=[.v Value.nilFunc]:=ID rfl
theorem blQ{K:TI→Prop}:@tyW Tryz.prog 52 ⟨K⟩=K aJ3:=qc bmT
theorem aNz:aJ3.kd=Kd.oth:=ID rfl
theorem awC:aJ3.kd.agg=false:=ID rfl
theorem aow:aJ3.size=1:=ID rfl
theorem aiw:aJ3.bytes=8:=ID rfl
theorem aNx:qw aJ3=True:=eq_true rfl
theorem aNy:zc aJ3=[.v Value.nilFunc]:=ID rfl
theorem blP{K:TI→Prop}:@tyW Tryz.prog 53 ⟨K⟩=K aJ2:=qc bmS
theorem aNw:aJ2.kd=Kd.oth:=ID rfl
theorem awB:aJ2.kd.agg=false:=ID rfl
theorem aov:aJ2.size=1:=ID rfl
theorem aiv:aJ2.bytes=8:=ID rfl
theorem aNu:qw aJ2=True:=eq_true rfl
theorem aNv:zc aJ2=[.v Value.nilFunc]:=ID rfl
theorem blO{K:TI→Prop}:@tyW Tryz.prog 54 ⟨K⟩=K aJ1:=qc bmR
theorem aNt:aJ1.kd=Kd.oth:=ID rfl
theorem awA:aJ1.kd.agg=false:=ID rfl
theorem aou:aJ1.size=1:=ID rfl
theorem aiu:aJ1.bytes=8:=ID rfl
theorem aNr:qw aJ1=True:=eq_true rfl
theorem aNs:zc aJ1=[.v Value.nilFunc]:=ID rfl
theorem blN{K:TI→Prop}:@tyW Tryz.prog 55 ⟨K⟩=K aJ0:=qc bmQ
theorem aNq:aJ0.kd=Kd.oth:=ID rfl
theorem awz:aJ0.kd.agg=false:=ID rfl
theorem aot:aJ0.size=1:=ID rfl
theorem ait:aJ0.bytes=8:=ID rfl
theorem aNo:qw aJ0=True:=eq_true rfl
theorem aNp:zc aJ0=[.v Value.nilFunc]:=ID rfl
theorem blM{K:TI→Prop}:@tyW Tryz.prog 56 ⟨K⟩=K aJZ:=qc bmP
theorem aNn:aJZ.kd=Kd.oth:=ID rfl
theorem awy:aJZ.kd.agg=false:=ID rfl
theorem aos:aJZ.size=1:=ID rfl
theorem ais:aJZ.bytes=8:=ID rfl
theorem aNl:qw aJZ=True:=eq_true rfl
theorem aNm:zc aJZ=[.v Value.nilFunc]:=ID rfl
theorem blL{K:TI→Prop}:@tyW Tryz.prog 58 ⟨K⟩=K aJY:=qc bmO
theorem aNk:aJY.kd=Kd.oth:=ID rfl
theorem awx:aJY.kd.agg=false:=ID rfl
theorem aor:aJY.size=1:=ID rfl
theorem air:aJY.bytes=8:=ID rfl
theorem aNi:qw aJY=True:=eq_true rfl
theorem aNj:zc aJY=[.v Value.nilFunc]:=ID rfl
theorem blK{K:TI→Prop}:@tyW Tryz.prog 60 ⟨K⟩=K aJX:=qc bmN
theorem aNg:aJX.kd=Kd.oth:=ID rfl
theorem awv:aJX.kd.agg=false:=ID rfl
theorem aop:aJX.size=1:=ID rfl
theorem aiq:aJX.bytes=8:=ID rfl
theorem aNe:qw aJX=True:=eq_true rfl
theorem aNf:zc aJX=[.v Value.nilFunc]:=ID rfl
theorem blJ{K:TI→Prop}:@tyW Tryz.prog 61 ⟨K⟩=K aJW:=qc bmM
theorem aNd:aJW.kd=Kd.oth:=ID rfl
theorem awu:aJW.kd.agg=false:=ID rfl
theorem aoo:aJW.size=1:=ID rfl
theorem aip:aJW.bytes=8:=ID rfl
theorem aNb:qw aJW=True:=eq_true rfl
theorem aNc:zc aJW=[.v Value.nilFunc]:=ID rfl
theorem blI{K:TI→Prop}:@tyW Tryz.prog 62 ⟨K⟩=K aJV:=qc bmL
theorem aNa:aJV.kd=Kd.oth:=ID rfl
theorem awt:aJV.kd.agg=false:=ID rfl
theorem aon:aJV.size=1:=ID rfl
theorem aio:aJV.bytes=8:=ID rfl
theorem aM8:qw aJV=True:=eq_true rfl
theorem aM9:zc aJV=[.v Value.nilFunc]:=ID rfl
theorem blH{K:TI→Prop}:@tyW Tryz.prog 64 ⟨K⟩=K aJU:=qc bmK
theorem aM7:aJU.kd=Kd.oth:=ID rfl
theorem aws:aJU.kd.agg=false:=ID rfl
theorem aom:aJU.size=1:=ID rfl
theorem ain:aJU.bytes=8:=ID rfl
theorem aM5:qw aJU=True:=eq_true rfl
theorem aM6:zc aJU=[.v Value.nilFunc]:=ID rfl
theorem blG{K:TI→Prop}:@tyW Tryz.prog 65 ⟨K⟩=K aJT:=qc bmJ
theorem aM4:aJT.kd=Kd.oth:=ID rfl
theorem awr:aJT.kd.agg=false:=ID rfl
theorem aol:aJT.size=1:=ID rfl
theorem aim:aJT.bytes=8:=ID rfl
theorem aM2:qw aJT=True:=eq_true rfl
theorem aM3:zc aJT=[.v Value.nilFunc]:=ID rfl
theorem blF{K:TI→Prop}:@tyW Tryz.prog 66 ⟨K⟩=K aJS:=qc bmI
theorem aM1:aJS.kd=Kd.oth:=ID rfl
theorem awq:aJS.kd.agg=false:=ID rfl
theorem aok:aJS.size=1:=ID rfl
theorem ail:aJS.bytes=8:=ID rfl
theorem aMZ:qw aJS=True:=eq_true rfl
theorem aM0:zc aJS=[.v Value.nilFunc]:=ID rfl
theorem blE{K:TI→Prop}:@tyW Tryz.prog 67 ⟨K⟩=K aJR:=qc bmH
theorem aMY:aJR.kd=Kd.oth:=ID rfl
theorem awo:aJR.kd.agg=false:=ID rfl
theorem aoj:aJR.size=1:=ID rfl
theorem aik:aJR.bytes=8:=ID rfl
theorem aMW:qw aJR=True:=eq_true rfl
theorem aMX:zc aJR=[.v Value.nilFunc]:=ID rfl
theorem blD{K:TI→Prop}:@tyW Tryz.prog 68 ⟨K⟩=K aJQ:=qc bmG
theorem aMV:aJQ.kd=Kd.oth:=ID rfl
theorem awn:aJQ.kd.agg=false:=ID rfl
theorem aoi:aJQ.size=1:=ID rfl
theorem aij:aJQ.bytes=8:=ID rfl
theorem aMT:qw aJQ=True:=eq_true rfl
theorem aMU:zc aJQ=[.v Value.nilFunc]:=ID rfl
theorem blC{K:TI→Prop}:@tyW Tryz.prog 69 ⟨K⟩=K aJP:=qc bmF
theorem aMS:aJP.kd=Kd.oth:=ID rfl
theorem awm:aJP.kd.agg=false:=ID rfl
theorem aoh:aJP.size=1:=ID rfl
theorem aii:aJP.bytes=8:=ID rfl
theorem aMQ:qw aJP=True:=eq_true rfl
theorem aMR:zc aJP=[.v Value.nilFunc]:=ID rfl
theorem blB{K:TI→Prop}:@tyW Tryz.prog 70 ⟨K⟩=K aJO:=qc bmE
theorem aMO:aJO.kd=Kd.oth:=ID rfl
theorem awk:aJO.kd.agg=false:=ID rfl
theorem aof:aJO.size=1:=ID rfl
theorem aih:aJO.bytes=8:=ID rfl
theorem aMM:qw aJO=True:=eq_true rfl
theorem aMN:zc aJO=[.v Value.nilFunc]:=ID rfl
theorem blA{K:TI→Prop}:@tyW Tryz.prog 71 ⟨K⟩=K aJN:=qc bmD
theorem aML:aJN.kd=Kd.oth:=ID rfl
theorem awj:aJN.kd.agg=false:=ID rfl
theorem aoe:aJN.size=1:=ID rfl
theorem aig:aJN.bytes=8:=ID rfl
theorem aMJ:qw aJN=True:=eq_true rfl
theorem aMK:zc aJN=[.v Value.nilFunc]:=ID rfl
theorem blz{K:TI→Prop}:@tyW Tryz.prog 72 ⟨K⟩=K aJM:=qc bmC
theorem aMI:aJM.kd=Kd.oth:=ID rfl
theorem awi:aJM.kd.agg=false:=ID rfl
theorem aod:aJM.size=1:=ID rfl
theorem aif:aJM.bytes=8:=ID rfl
theorem aMG:qw aJM=True:=eq_true rfl
theorem aMH:zc aJM=[.v Value.nilFunc]:=ID rfl
theorem bly{K:TI→Prop}:@tyW Tryz.prog 73 ⟨K⟩=K aJL:=qc bmB
theorem aMF:aJL.kd=Kd.oth:=ID rfl
theorem awh:aJL.kd.agg=false:=ID rfl
theorem aoc:aJL.size=1:=ID rfl
theorem aie:aJL.bytes=8:=ID rfl
theorem aMD:qw aJL=True:=eq_true rfl
theorem aME:zc aJL=[.v Value.nilFunc]:=ID rfl
theorem blx{K:TI→Prop}:@tyW Tryz.prog 74 ⟨K⟩=K agT:=qc aKk
theorem aMC:agT.kd=Kd.sli 87:=ID rfl
theorem awg:agT.kd.agg=false:=ID rfl
theorem aob:agT.size=1:=ID rfl
theorem aid:agT.bytes=24:=ID rfl
theorem aMA:qw agT=True:=eq_true rfl
theorem aMB:zc agT=[.v (Value.slice none 0 0)]:=ID rfl
theorem bh0{K:TI→Prop}:@Qh Tryz.prog 74 ⟨K⟩=K anr:=Zy aKk rfl aUr
theorem blw{K:TI→Prop}:@tyW Tryz.prog 75 ⟨K⟩=K aoa:=qc bbZ
theorem aMz:aoa.kd=Kd.stru [(0,3),(1,74)]:=ID rfl
theorem awf:aoa.kd.agg=true:=ID rfl
theorem an9:aoa.size=2:=ID rfl
theorem aic:aoa.bytes=32:=ID rfl
theorem aMx:qw aoa=True:=eq_true rfl
theorem aMy:zc aoa=[.v (Value.int IntKind.i64 0),.v (Value.slice none 0 0)]:=ID rfl
theorem aRY{K:Nat→TI→Prop}:@qA Tryz.prog 75 0 ⟨K⟩=K 0 ti3:=qr (ti:=aoa) (tf:=ti3) (fo:=(0,3)) (fs:=[(0,3),(1,74)]) bbZ rfl rfl tf3
theorem aVk{K:Nat→Nat→Prop}:qt Tryz.prog [(0,3),(1,74)] 0 K=K 0 1:=qq (tf:=ti3) (fo:=(0,3)) (fs:=[(0,3),(1,74)]) rfl tf3
theorem aRX{K:Nat→TI→Prop}:@qA Tryz.prog 75 1 ⟨K⟩=K 1 agT:=qr (ti:=aoa) (tf:=agT) (fo:=(1,74)) (fs:=[(0,3),(1,74)]) bbZ rfl rfl aKk
theorem aVj{K:Nat→Nat→Prop}:qt Tryz.prog [(0,3),(1,74)] 1 K=K 1 1:=qq (tf:=agT) (fo:=(1,74)) (fs:=[(0,3),(1,74)]) rfl aKk
theorem aWG:∀f∈([(0,3),(1,74)]:List (Nat×Nat)),(qm Tryz.prog f.2).isSome=true:=by
 intro f hf
 simp only[List.mem_cons,List.not_mem_nil,or_false]at hf
 rcases hf with rfl|rfl
 ·rw[tf3];rfl
 ·rw[aKk];rfl
theorem bkw{ps:List (Nat×AV)}{K:AV→Prop}:@za Tryz.prog 75 ps ⟨K⟩=@zg (qt Tryz.prog [(0,3),(1,74)]) (zc aoa) ps ⟨fun cs=>K (.ag cs)⟩:=qH bbZ rfl aWG
theorem blv{K:TI→Prop}:@tyW Tryz.prog 76 ⟨K⟩=K an8:=qc bbY
theorem aMw:an8.kd=Kd.stru [(0,3),(1,74)]:=ID rfl
theorem awe:an8.kd.agg=true:=ID rfl
theorem an7:an8.size=2:=ID rfl
theorem aib:an8.bytes=32:=ID rfl
theorem aMu:qw an8=True:=eq_true rfl
theorem aMv:zc an8=[.v (Value.int IntKind.i64 0),.v (Value.slice none 0 0)]:=ID rfl
theorem aRW{K:Nat→TI→Prop}:@qA Tryz.prog 76 0 ⟨K⟩=K 0 ti3:=qr (ti:=an8) (tf:=ti3) (fo:=(0,3)) (fs:=[(0,3),(1,74)]) bbY rfl rfl tf3
theorem aVi{K:Nat→Nat→Prop}:qt Tryz.prog [(0,3),(1,74)] 0 K=K 0 1:=qq (tf:=ti3) (fo:=(0,3)) (fs:=[(0,3),(1,74)]) rfl tf3
theorem aRV{K:Nat→TI→Prop}:@qA Tryz.prog 76 1 ⟨K⟩=K 1 agT:=qr (ti:=an8) (tf:=agT) (fo:=(1,74)) (fs:=[(0,3),(1,74)]) bbY rfl rfl aKk
theorem aVh{K:Nat→Nat→Prop}:qt Tryz.prog [(0,3),(1,74)] 1 K=K 1 1:=qq (tf:=agT) (fo:=(1,74)) (fs:=[(0,3),(1,74)]) rfl aKk
theorem aWF:∀f∈([(0,3),(1,74)]:List (Nat×Nat)),(qm Tryz.prog f.2).isSome=true:=by
 intro f hf
 simp only[List.mem_cons,List.not_mem_nil,or_false]at hf
 rcases hf with rfl|rfl
 ·rw[tf3];rfl
 ·rw[aKk];rfl
theorem bkv{ps:List (Nat×AV)}{K:AV→Prop}:@za Tryz.prog 76 ps ⟨K⟩=@zg (qt Tryz.prog [(0,3),(1,74)]) (zc an8) ps ⟨fun cs=>K (.ag cs)⟩:=qH bbY rfl aWF
theorem blu{K:TI→Prop}:@tyW Tryz.prog 77 ⟨K⟩=K aJK:=qc bmA
theorem aMt:aJK.kd=Kd.oth:=ID rfl
theorem awd:aJK.kd.agg=false:=ID rfl
theorem an6:aJK.size=1:=ID rfl
theorem aia:aJK.bytes=8:=ID rfl
theorem aMr:qw aJK=True:=eq_true rfl
theorem aMs:zc aJK=[.v Value.nilFunc]:=ID rfl
theorem bls{K:TI→Prop}:@tyW Tryz.prog 78 ⟨K⟩=K aJJ:=qc bmz
theorem aMq:aJJ.kd=Kd.oth:=ID rfl
theorem awc:aJJ.kd.agg=false:=ID rfl
theorem an5:aJJ.size=1:=ID rfl
theorem ah9:aJJ.bytes=8:=ID rfl
theorem aMo:qw aJJ=True:=eq_true rfl
theorem aMp:zc aJJ=[.v Value.nilFunc]:=ID rfl
theorem blr{K:TI→Prop}:@tyW Tryz.prog 79 ⟨K⟩=K aJI:=qc bmy
theorem aMn:aJI.kd=Kd.oth:=ID rfl
theorem awb:aJI.kd.agg=false:=ID rfl
theorem an4:aJI.size=1:=ID rfl
theorem ah8:aJI.bytes=8:=ID rfl
theorem aMl:qw aJI=True:=eq_true rfl
theorem aMm:zc aJI=[.v Value.nilFunc]:=ID rfl
theorem blq{K:TI→Prop}:@tyW Tryz.prog 80 ⟨K⟩=K aJH:=qc bmx
theorem aMj:aJH.kd=Kd.oth:=ID rfl
theorem av9:aJH.kd.agg=false:=ID rfl
theorem an2:aJH.size=1:=ID rfl
theorem ah7:aJH.bytes=8:=ID rfl
theorem aMh:qw aJH=True:=eq_true rfl
theorem aMi:zc aJH=[.v Value.nilFunc]:=ID rfl
theorem blp{K:TI→Prop}:@tyW Tryz.prog 81 ⟨K⟩=K aJG:=qc bmw
theorem aMg:aJG.kd=Kd.oth:=ID rfl
theorem av8:aJG.kd.agg=false:=ID rfl
theorem an1:aJG.size=1:=ID rfl
theorem ah6:aJG.bytes=8:=ID rfl
theorem aMe:qw aJG=True:=eq_true rfl
theorem aMf:zc aJG=[.v Value.nilFunc]:=ID rfl
theorem blo{K:TI→Prop}:@tyW Tryz.prog 82 ⟨K⟩=K aJF:=qc bmv
theorem aMd:aJF.kd=Kd.oth:=ID rfl
theorem av7:aJF.kd.agg=false:=ID rfl
theorem an0:aJF.size=1:=ID rfl
theorem ah5:aJF.bytes=8:=ID rfl
theorem aMb:qw aJF=True:=eq_true rfl
theorem aMc:zc aJF=[.v Value.nilFunc]:=ID rfl
theorem bln{K:TI→Prop}:@tyW Tryz.prog 83 ⟨K⟩=K aco:=qc aF6
theorem aMa:aco.kd=Kd.stru [(0,36)]:=ID rfl
theorem av6:aco.kd.agg=true:=ID rfl
theorem anZ:aco.size=1:=ID rfl
theorem ah4:aco.bytes=24:=ID rfl
theorem aL8:qw aco=True:=eq_true rfl
theorem aL9:zc aco=[.v (Value.slice none 0 0)]:=ID rfl
theorem aRU{K:Nat→TI→Prop}:@qA Tryz.prog 83 0 ⟨K⟩=K 0 Z9:=qr (ti:=aco) (tf:=Z9) (fo:=(0,36)) (fs:=[(0,36)]) aF6 rfl rfl aa2
theorem aVg{K:Nat→Nat→Prop}:qt Tryz.prog [(0,36)] 0 K=K 0 1:=qq (tf:=Z9) (fo:=(0,36)) (fs:=[(0,36)]) rfl aa2
theorem aWE:∀f∈([(0,36)]:List (Nat×Nat)),(qm Tryz.prog f.2).isSome=true:=by
 intro f hf
 simp only[List.mem_cons,List.not_mem_nil,or_false]at hf
 subst hf;rw[aa2];rfl
theorem bku{ps:List (Nat×AV)}{K:AV→Prop}:@za Tryz.prog 83 ps ⟨K⟩=@zg (qt Tryz.prog [(0,36)]) (zc aco) ps ⟨fun cs=>K (.ag cs)⟩:=qH aF6 rfl aWE
theorem blm{K:TI→Prop}:@tyW Tryz.prog 84 ⟨K⟩=K anY:=qc bbX
theorem aL7:anY.kd=Kd.stru [(0,4),(1,83)]:=ID rfl
theorem av5:anY.kd.agg=true:=ID rfl
theorem anX:anY.size=2:=ID rfl
theorem ah3:anY.bytes=32:=ID rfl
theorem aL5:qw anY=True:=eq_true rfl
theorem aL6:zc anY=[.v (Value.bool false),.v (Value.slice none 0 0)]:=ID rfl
theorem aRT{K:Nat→TI→Prop}:@qA Tryz.prog 84 0 ⟨K⟩=K 0 ti4:=qr (ti:=anY) (tf:=ti4) (fo:=(0,4)) (fs:=[(0,4),(1,83)]) bbX rfl rfl tf4
theorem aVf{K:Nat→Nat→Prop}:qt Tryz.prog [(0,4),(1,83)] 0 K=K 0 1:=qq (tf:=ti4) (fo:=(0,4)) (fs:=[(0,4),(1,83)]) rfl tf4
theorem aRS{K:Nat→TI→Prop}:@qA Tryz.prog 84 1 ⟨K⟩=K 1 aco:=qr (ti:=anY) (tf:=aco) (fo:=(1,83)) (fs:=[(0,4),(1,83)]) bbX rfl rfl aF6
theorem aVe{K:Nat→Nat→Prop}:qt Tryz.prog [(0,4),(1,83)] 1 K=K 1 1:=qq (tf:=aco) (fo:=(1,83)) (fs:=[(0,4),(1,83)]) rfl aF6
theorem aWD:∀f∈([(0,4),(1,83)]:List (Nat×Nat)),(qm Tryz.prog f.2).isSome=true:=by
 intro f hf
 simp only[List.mem_cons,List.not_mem_nil,or_false]at hf
 rcases hf with rfl|rfl
 ·rw[tf4];rfl
 ·rw[aF6];rfl
theorem bkt{ps:List (Nat×AV)}{K:AV→Prop}:@za Tryz.prog 84 ps ⟨K⟩=@zg (qt Tryz.prog [(0,4),(1,83)]) (zc anY) ps ⟨fun cs=>K (.ag cs)⟩:=qH bbX rfl aWD
theorem bll{K:TI→Prop}:@tyW Tryz.prog 85 ⟨K⟩=K X3:=qc avu
theorem aL4:X3.kd=Kd.stru [(0,4),(1,83)]:=ID rfl
theorem av4:X3.kd.agg=true:=ID rfl
theorem anW:X3.size=2:=ID rfl
theorem ah2:X3.bytes=32:=ID rfl
theorem aL2:qw X3=True:=eq_true rfl
theorem aL3:zc X3=[.v (Value.bool false),.v (Value.slice none 0 0)]:=ID rfl
theorem aRR{K:Nat→TI→Prop}:@qA Tryz.prog 85 0 ⟨K⟩=K 0 ti4:=qr (ti:=X3) (tf:=ti4) (fo:=(0,4)) (fs:=[(0,4),(1,83)]) avu rfl rfl tf4
theorem aVd{K:Nat→Nat→Prop}:qt Tryz.prog [(0,4),(1,83)] 0 K=K 0 1:=qq (tf:=ti4) (fo:=(0,4)) (fs:=[(0,4),(1,83)]) rfl tf4
theorem aRQ{K:Nat→TI→Prop}:@qA Tryz.prog 85 1 ⟨K⟩=K 1 aco:=qr (ti:=X3) (tf:=aco) (fo:=(1,83)) (fs:=[(0,4),(1,83)]) avu rfl rfl aF6
theorem aVc{K:Nat→Nat→Prop}:qt Tryz.prog [(0,4),(1,83)] 1 K=K 1 1:=qq (tf:=aco) (fo:=(1,83)) (fs:=[(0,4),(1,83)]) rfl aF6
theorem aWC:∀f∈([(0,4),(1,83)]:List (Nat×Nat)),(qm Tryz.prog f.2).isSome=true:=by
 intro f hf
 simp only[List.mem_cons,List.not_mem_nil,or_false]at hf
 rcases hf with rfl|rfl
 ·rw[tf4];rfl
 ·rw[aF6];rfl
theorem bks{ps:List (Nat×AV)}{K:AV→Prop}:@za Tryz.prog 85 ps ⟨K⟩=@zg (qt Tryz.prog [(0,4),(1,83)]) (zc X3) ps ⟨fun cs=>K (.ag cs)⟩:=qH avu rfl aWC
theorem blk{K:TI→Prop}:@tyW Tryz.prog 86 ⟨K⟩=K anV:=qc bbW
theorem aL1:anV.kd=Kd.stru [(0,85),(2,3)]:=ID rfl
theorem av3:anV.kd.agg=true:=ID rfl
theorem anU:anV.size=3:=ID rfl
theorem ah1:anV.bytes=40:=ID rfl
theorem aLZ:qw anV=True:=eq_true rfl
theorem aL0:zc anV=[.v (Value.bool false),.v (Value.slice none 0 0),.v (Value.int IntKind.i64 0)]:=ID rfl
theorem aRP{K:Nat→TI→Prop}:@qA Tryz.prog 86 0 ⟨K⟩=K 0 X3:=qr (ti:=anV) (tf:=X3) (fo:=(0,85)) (fs:=[(0,85),(2,3)]) bbW rfl rfl avu
theorem aVb{K:Nat→Nat→Prop}:qt Tryz.prog [(0,85),(2,3)] 0 K=K 0 2:=qq (tf:=X3) (fo:=(0,85)) (fs:=[(0,85),(2,3)]) rfl avu
theorem aRO{K:Nat→TI→Prop}:@qA Tryz.prog 86 1 ⟨K⟩=K 2 ti3:=qr (ti:=anV) (tf:=ti3) (fo:=(2,3)) (fs:=[(0,85),(2,3)]) bbW rfl rfl tf3
theorem aVa{K:Nat→Nat→Prop}:qt Tryz.prog [(0,85),(2,3)] 1 K=K 2 1:=qq (tf:=ti3) (fo:=(2,3)) (fs:=[(0,85),(2,3)]) rfl tf3
theorem aWB:∀f∈([(0,85),(2,3)]:List (Nat×Nat)),(qm Tryz.prog f.2).isSome=true:=by
 intro f hf
 simp only[List.mem_cons,List.not_mem_nil,or_false]at hf
 rcases hf with rfl|rfl
 ·rw[avu];rfl
 ·rw[tf3];rfl
theorem bkr{ps:List (Nat×AV)}{K:AV→Prop}:@za Tryz.prog 86 ps ⟨K⟩=@zg (qt Tryz.prog [(0,85),(2,3)]) (zc anV) ps ⟨fun cs=>K (.ag cs)⟩:=qH bbW rfl aWB
theorem blj{K:TI→Prop}:@tyW Tryz.prog 87 ⟨K⟩=K anr:=qc aUr
theorem aLY:anr.kd=Kd.stru [(0,85),(2,3)]:=ID rfl
theorem av2:anr.kd.agg=true:=ID rfl
theorem anT:anr.size=3:=ID rfl
theorem ah0:anr.bytes=40:=ID rfl
theorem aLW:qw anr=True:=eq_true rfl
theorem aLX:zc anr=[.v (Value.bool false),.v (Value.slice none 0 0),.v (Value.int IntKind.i64 0)]:=ID rfl
theorem aRN{K:Nat→TI→Prop}:@qA Tryz.prog 87 0 ⟨K⟩=K 0 X3:=qr (ti:=anr) (tf:=X3) (fo:=(0,85)) (fs:=[(0,85),(2,3)]) aUr rfl rfl avu
theorem aU9{K:Nat→Nat→Prop}:qt Tryz.prog [(0,85),(2,3)] 0 K=K 0 2:=qq (tf:=X3) (fo:=(0,85)) (fs:=[(0,85),(2,3)]) rfl avu
theorem aRM{K:Nat→TI→Prop}:@qA Tryz.prog 87 1 ⟨K⟩=K 2 ti3:=qr (ti:=anr) (tf:=ti3) (fo:=(2,3)) (fs:=[(0,85),(2,3)]) aUr rfl rfl tf3
theorem aU8{K:Nat→Nat→Prop}:qt Tryz.prog [(0,85),(2,3)] 1 K=K 2 1:=qq (tf:=ti3) (fo:=(2,3)) (fs:=[(0,85),(2,3)]) rfl tf3
theorem aWA:∀f∈([(0,85),(2,3)]:List (Nat×Nat)),(qm Tryz.prog f.2).isSome=true:=by
 intro f hf
 simp only[List.mem_cons,List.not_mem_nil,or_false]at hf
 rcases hf with rfl|rfl
 ·rw[avu];rfl
 ·rw[tf3];rfl
theorem bkq{ps:List (Nat×AV)}{K:AV→Prop}:@za Tryz.prog 87 ps ⟨K⟩=@zg (qt Tryz.prog [(0,85),(2,3)]) (zc anr) ps ⟨fun cs=>K (.ag cs)⟩:=qH aUr rfl aWA
theorem bli{K:TI→Prop}:@tyW Tryz.prog 88 ⟨K⟩=K aJE:=qc bmu
theorem aLV:aJE.kd=Kd.oth:=ID rfl
theorem av1:aJE.kd.agg=false:=ID rfl
theorem anS:aJE.size=1:=ID rfl
theorem ahZ:aJE.bytes=8:=ID rfl
theorem aLT:qw aJE=True:=eq_true rfl
theorem aLU:zc aJE=[.v Value.nilFunc]:=ID rfl
theorem blh{K:TI→Prop}:@tyW Tryz.prog 89 ⟨K⟩=K anR:=qc bbV
theorem aLS:anR.kd=Kd.stru [(0,42),(3,42)]:=ID rfl
theorem av0:anR.kd.agg=true:=ID rfl
theorem anQ:anR.size=6:=ID rfl
theorem ahY:anR.bytes=80:=ID rfl
theorem aLQ:qw anR=True:=eq_true rfl
theorem aLR:zc anR=[.v (Value.bool false),.v (Value.slice none 0 0),.v (Value.int IntKind.i64 0),.v (Value.bool false),.v (Value.slice none 0 0),.v (Value.int IntKind.i64 0)]:=ID rfl
theorem aRL{K:Nat→TI→Prop}:@qA Tryz.prog 89 0 ⟨K⟩=K 0 ZW:=qr (ti:=anR) (tf:=ZW) (fo:=(0,42)) (fs:=[(0,42),(3,42)]) bbV rfl rfl aa1
theorem aU7{K:Nat→Nat→Prop}:qt Tryz.prog [(0,42),(3,42)] 0 K=K 0 3:=qq (tf:=ZW) (fo:=(0,42)) (fs:=[(0,42),(3,42)]) rfl aa1
theorem aRK{K:Nat→TI→Prop}:@qA Tryz.prog 89 1 ⟨K⟩=K 3 ZW:=qr (ti:=anR) (tf:=ZW) (fo:=(3,42)) (fs:=[(0,42),(3,42)]) bbV rfl rfl aa1
theorem aU6{K:Nat→Nat→Prop}:qt Tryz.prog [(0,42),(3,42)] 1 K=K 3 3:=qq (tf:=ZW) (fo:=(3,42)) (fs:=[(0,42),(3,42)]) rfl aa1
theorem aWz:∀f∈([(0,42),(3,42)]:List (Nat×Nat)),(qm Tryz.prog f.2).isSome=true:=by
 intro f hf
 simp only[List.mem_cons,List.not_mem_nil,or_false]at hf
 rcases hf with rfl|rfl
 ·rw[aa1];rfl
 ·rw[aa1];rfl
theorem bkp{ps:List (Nat×AV)}{K:AV→Prop}:@za Tryz.prog 89 ps ⟨K⟩=@zg (qt Tryz.prog [(0,42),(3,42)]) (zc anR) ps ⟨fun cs=>K (.ag cs)⟩:=qH bbV rfl aWz
theorem blg{K:TI→Prop}:@tyW Tryz.prog 90 ⟨K⟩=K anq:=qc aUq
theorem aLO:anq.kd=Kd.stru [(0,42),(3,42)]:=ID rfl
theorem avY:anq.kd.agg=true:=ID rfl
theorem anO:anq.size=6:=ID rfl
theorem ahX:anq.bytes=80:=ID rfl
theorem aLM:qw anq=True:=eq_true rfl
theorem aLN:zc anq=[.v (Value.bool false),.v (Value.slice none 0 0),.v (Value.int IntKind.i64 0),.v (Value.bool false),.v (Value.slice none 0 0),.v (Value.int IntKind.i64 0)]:=ID rfl
theorem aRJ{K:Nat→TI→Prop}:@qA Tryz.prog 90 0 ⟨K⟩=K 0 ZW:=qr (ti:=anq) (tf:=ZW) (fo:=(0,42)) (fs:=[(0,42),(3,42)]) aUq rfl rfl aa1
theorem aU5{K:Nat→Nat→Prop}:qt Tryz.prog [(0,42),(3,42)] 0 K=K 0 3:=qq (tf:=ZW) (fo:=(0,42)) (fs:=[(0,42),(3,42)]) rfl aa1
theorem aRI{K:Nat→TI→Prop}:@qA Tryz.prog 90 1 ⟨K⟩=K 3 ZW:=qr (ti:=anq) (tf:=ZW) (fo:=(3,42)) (fs:=[(0,42),(3,42)]) aUq rfl rfl aa1
theorem aU4{K:Nat→Nat→Prop}:qt Tryz.prog [(0,42),(3,42)] 1 K=K 3 3:=qq (tf:=ZW) (fo:=(3,42)) (fs:=[(0,42),(3,42)]) rfl aa1
theorem aWy:∀f∈([(0,42),(3,42)]:List (Nat×Nat)),(qm Tryz.prog f.2).isSome=true:=by
 intro f hf
 simp only[List.mem_cons,List.not_mem_nil,or_false]at hf
 rcases hf with rfl|rfl
 ·rw[aa1];rfl
 ·rw[aa1];rfl
theorem bko{ps:List (Nat×AV)}{K:AV→Prop}:@za Tryz.prog 90 ps ⟨K⟩=@zg (qt Tryz.prog [(0,42),(3,42)]) (zc anq) ps ⟨fun cs=>K (.ag cs)⟩:=qH aUq rfl aWy
theorem blf{K:TI→Prop}:@tyW Tryz.prog 92 ⟨K⟩=K aJD:=qc bmt
theorem aLL:aJD.kd=Kd.oth:=ID rfl
theorem avX:aJD.kd.agg=false:=ID rfl
theorem anN:aJD.size=1:=ID rfl
theorem ahW:aJD.bytes=8:=ID rfl
theorem aLJ:qw aJD=True:=eq_true rfl
theorem aLK:zc aJD=[.v Value.nilFunc]:=ID rfl
theorem bld{K:TI→Prop}:@tyW Tryz.prog 93 ⟨K⟩=K aJC:=qc bms
theorem aLI:aJC.kd=Kd.oth:=ID rfl
theorem avW:aJC.kd.agg=false:=ID rfl
theorem anM:aJC.size=1:=ID rfl
theorem ahV:aJC.bytes=8:=ID rfl
theorem aLG:qw aJC=True:=eq_true rfl
theorem aLH:zc aJC=[.v Value.nilFunc]:=ID rfl
theorem blc{K:TI→Prop}:@tyW Tryz.prog 94 ⟨K⟩=K aJB:=qc bmr
theorem aLF:aJB.kd=Kd.oth:=ID rfl
theorem avV:aJB.kd.agg=false:=ID rfl
theorem anL:aJB.size=1:=ID rfl
theorem ahU:aJB.bytes=8:=ID rfl
theorem aLD:qw aJB=True:=eq_true rfl
theorem aLE:zc aJB=[.v Value.nilFunc]:=ID rfl
theorem blb{K:TI→Prop}:@tyW Tryz.prog 95 ⟨K⟩=K aJA:=qc bmq
theorem aLC:aJA.kd=Kd.oth:=ID rfl
theorem avU:aJA.kd.agg=false:=ID rfl
theorem anK:aJA.size=1:=ID rfl
theorem ahT:aJA.bytes=8:=ID rfl
theorem aLA:qw aJA=True:=eq_true rfl
theorem aLB:zc aJA=[.v Value.nilFunc]:=ID rfl
theorem bla{K:TI→Prop}:@tyW Tryz.prog 96 ⟨K⟩=K aJz:=qc bmp
theorem aLz:aJz.kd=Kd.oth:=ID rfl
theorem avT:aJz.kd.agg=false:=ID rfl
theorem anJ:aJz.size=1:=ID rfl
theorem ahS:aJz.bytes=8:=ID rfl
theorem aLx:qw aJz=True:=eq_true rfl
theorem aLy:zc aJz=[.v Value.nilFunc]:=ID rfl
theorem bk9{K:TI→Prop}:@tyW Tryz.prog 97 ⟨K⟩=K aJy:=qc bmo
theorem aLw:aJy.kd=Kd.oth:=ID rfl
theorem avS:aJy.kd.agg=false:=ID rfl
theorem anI:aJy.size=1:=ID rfl
theorem ahR:aJy.bytes=8:=ID rfl
theorem aLu:qw aJy=True:=eq_true rfl
theorem aLv:zc aJy=[.v Value.nilFunc]:=ID rfl
theorem bk8{K:TI→Prop}:@tyW Tryz.prog 98 ⟨K⟩=K aJx:=qc bmn
theorem aLt:aJx.kd=Kd.oth:=ID rfl
theorem avR:aJx.kd.agg=false:=ID rfl
theorem anH:aJx.size=1:=ID rfl
theorem ahQ:aJx.bytes=8:=ID rfl
theorem aLr:qw aJx=True:=eq_true rfl
theorem aLs:zc aJx=[.v Value.nilFunc]:=ID rfl
theorem bk7{K:TI→Prop}:@tyW Tryz.prog 99 ⟨K⟩=K aJw:=qc bmm
theorem aLq:aJw.kd=Kd.oth:=ID rfl
theorem avQ:aJw.kd.agg=false:=ID rfl
theorem anG:aJw.size=1:=ID rfl
theorem ahP:aJw.bytes=8:=ID rfl
theorem aLo:qw aJw=True:=eq_true rfl
theorem aLp:zc aJw=[.v Value.nilFunc]:=ID rfl
theorem be7{K:TI→Prop}:@tyW Tryz.prog 101 ⟨K⟩=K aaX:=qc bhU
theorem aF2:aaX.kd=Kd.oth:=ID rfl
theorem asb:aaX.kd.agg=false:=ID rfl
theorem al1:aaX.size=1:=ID rfl
theorem afz:aaX.bytes=8:=ID rfl
theorem aF0:qw aaX=True:=eq_true rfl
theorem aF1:zc aaX=[.v Value.nilFunc]:=ID rfl
theorem be6{K:TI→Prop}:@tyW Tryz.prog 102 ⟨K⟩=K aaW:=qc bhT
theorem aFZ:aaW.kd=Kd.oth:=ID rfl
theorem asa:aaW.kd.agg=false:=ID rfl
theorem al0:aaW.size=1:=ID rfl
theorem afy:aaW.bytes=8:=ID rfl
theorem aFX:qw aaW=True:=eq_true rfl
theorem aFY:zc aaW=[.v Value.nilFunc]:=ID rfl
theorem be5{K:TI→Prop}:@tyW Tryz.prog 103 ⟨K⟩=K aaV:=qc bhS
theorem aFW:aaV.kd=Kd.oth:=ID rfl
theorem ar9:aaV.kd.agg=false:=ID rfl
theorem alZ:aaV.size=1:=ID rfl
theorem afx:aaV.bytes=8:=ID rfl
theorem aFU:qw aaV=True:=eq_true rfl
theorem aFV:zc aaV=[.v Value.nilFunc]:=ID rfl
theorem be4{K:TI→Prop}:@tyW Tryz.prog 104 ⟨K⟩=K aaU:=qc bhR
theorem aFT:aaU.kd=Kd.oth:=ID rfl
theorem ar8:aaU.kd.agg=false:=ID rfl
theorem alY:aaU.size=1:=ID rfl
theorem afw:aaU.bytes=8:=ID rfl
theorem aFR:qw aaU=True:=eq_true rfl
theorem aFS:zc aaU=[.v Value.nilFunc]:=ID rfl
theorem be3{K:TI→Prop}:@tyW Tryz.prog 105 ⟨K⟩=K QI:=qc aa3
theorem aFQ:QI.kd=Kd.sli 125:=ID rfl
theorem ar7:QI.kd.agg=false:=ID rfl
theorem alX:QI.size=1:=ID rfl
theorem afv:QI.bytes=24:=ID rfl
theorem aFO:qw QI=True:=eq_true rfl
theorem aFP:zc QI=[.v (Value.slice none 0 0)]:=ID rfl
theorem aUL{K:TI→Prop}:@Qh Tryz.prog 105 ⟨K⟩=K ZN:=Zy aa3 rfl asg
theorem be2{K:TI→Prop}:@tyW Tryz.prog 106 ⟨K⟩=K Je:=qc aGc
theorem aFN:Je.kd=Kd.stru [(0,3),(1,105)]:=ID rfl
theorem ar6:Je.kd.agg=true:=ID rfl
theorem alW:Je.size=2:=ID rfl
theorem afu:Je.bytes=32:=ID rfl
theorem aFL:qw Je=True:=eq_true rfl
theorem aFM:zc Je=[.v (Value.int IntKind.i64 0),.v (Value.slice none 0 0)]:=ID rfl
theorem aIl{K:Nat→TI→Prop}:@qA Tryz.prog 106 0 ⟨K⟩=K 0 ti3:=qr (ti:=Je) (tf:=ti3) (fo:=(0,3)) (fs:=[(0,3),(1,105)]) aGc rfl rfl tf3
theorem aP6{K:Nat→Nat→Prop}:qt Tryz.prog [(0,3),(1,105)] 0 K=K 0 1:=qq (tf:=ti3) (fo:=(0,3)) (fs:=[(0,3),(1,105)]) rfl tf3
theorem aIk{K:Nat→TI→Prop}:@qA Tryz.prog 106 1 ⟨K⟩=K 1 QI:=qr (ti:=Je) (tf:=QI) (fo:=(1,105)) (fs:=[(0,3),(1,105)]) aGc rfl rfl aa3
theorem aP5{K:Nat→Nat→Prop}:qt Tryz.prog [(0,3),(1,105)] 1 K=K 1 1:=qq (tf:=QI) (fo:=(1,105)) (fs:=[(0,3),(1,105)]) rfl aa3
theorem aRC:∀f∈([(0,3),(1,105)]:List (Nat×Nat)),(qm Tryz.prog f.2).isSome=true:=by
 intro f hf
 simp only[List.mem_cons,List.not_mem_nil,or_false]at hf
 rcases hf with rfl|rfl
 ·rw[tf3];rfl
 ·rw[aa3];rfl
theorem bbs{ps:List (Nat×AV)}{K:AV→Prop}:@za Tryz.prog 106 ps ⟨K⟩=@zg (qt Tryz.prog [(0,3),(1,105)]) (zc Je) ps ⟨fun cs=>K (.ag cs)⟩:=qH aGc rfl aRC
theorem be1{K:TI→Prop}:@tyW Tryz.prog 107 ⟨K⟩=K Jd:=qc aGb
theorem aFK:Jd.kd=Kd.stru [(0,3),(1,105)]:=ID rfl
theorem ar5:Jd.kd.agg=true:=ID rfl
theorem alV:Jd.size=2:=ID rfl
theorem aft:Jd.bytes=32:=ID rfl
theorem aFI:qw Jd=True:=eq_true rfl
theorem aFJ:zc Jd=[.v (Value.int IntKind.i64 0),.v (Value.slice none 0 0)]:=ID rfl
theorem aIj{K:Nat→TI→Prop}:@qA Tryz.prog 107 0 ⟨K⟩=K 0 ti3:=qr (ti:=Jd) (tf:=ti3) (fo:=(0,3)) (fs:=[(0,3),(1,105)]) aGb rfl rfl tf3
theorem aP4{K:Nat→Nat→Prop}:qt Tryz.prog [(0,3),(1,105)] 0 K=K 0 1:=qq (tf:=ti3) (fo:=(0,3)) (fs:=[(0,3),(1,105)]) rfl tf3
theorem aIi{K:Nat→TI→Prop}:@qA Tryz.prog 107 1 ⟨K⟩=K 1 QI:=qr (ti:=Jd) (tf:=QI) (fo:=(1,105)) (fs:=[(0,3),(1,105)]) aGb rfl rfl aa3
theorem aP3{K:Nat→Nat→Prop}:qt Tryz.prog [(0,3),(1,105)] 1 K=K 1 1:=qq (tf:=QI) (fo:=(1,105)) (fs:=[(0,3),(1,105)]) rfl aa3
theorem aRB:∀f∈([(0,3),(1,105)]:List (Nat×Nat)),(qm Tryz.prog f.2).isSome=true:=by
 intro f hf
 simp only[List.mem_cons,List.not_mem_nil,or_false]at hf
 rcases hf with rfl|rfl
 ·rw[tf3];rfl
 ·rw[aa3];rfl
theorem bbr{ps:List (Nat×AV)}{K:AV→Prop}:@za Tryz.prog 107 ps ⟨K⟩=@zg (qt Tryz.prog [(0,3),(1,105)]) (zc Jd) ps ⟨fun cs=>K (.ag cs)⟩:=qH aGb rfl aRB
theorem be0{K:TI→Prop}:@tyW Tryz.prog 108 ⟨K⟩=K Qq:=qc YZ
theorem aFH:Qq.kd=Kd.sli 117:=ID rfl
theorem ar4:Qq.kd.agg=false:=ID rfl
theorem alU:Qq.size=1:=ID rfl
theorem afs:Qq.bytes=24:=ID rfl
theorem aFF:qw Qq=True:=eq_true rfl
theorem aFG:zc Qq=[.v (Value.slice none 0 0)]:=ID rfl
theorem aUK{K:TI→Prop}:@Qh Tryz.prog 108 ⟨K⟩=K jz:=Zy YZ rfl yL
theorem beZ{K:TI→Prop}:@tyW Tryz.prog 109 ⟨K⟩=K Jc:=qc aGa
theorem aFE:Jc.kd=Kd.stru [(0,3),(1,108)]:=ID rfl
theorem ar3:Jc.kd.agg=true:=ID rfl
theorem alT:Jc.size=2:=ID rfl
theorem afr:Jc.bytes=32:=ID rfl
theorem aFC:qw Jc=True:=eq_true rfl
theorem aFD:zc Jc=[.v (Value.int IntKind.i64 0),.v (Value.slice none 0 0)]:=ID rfl
theorem aIh{K:Nat→TI→Prop}:@qA Tryz.prog 109 0 ⟨K⟩=K 0 ti3:=qr (ti:=Jc) (tf:=ti3) (fo:=(0,3)) (fs:=[(0,3),(1,108)]) aGa rfl rfl tf3
theorem aP2{K:Nat→Nat→Prop}:qt Tryz.prog [(0,3),(1,108)] 0 K=K 0 1:=qq (tf:=ti3) (fo:=(0,3)) (fs:=[(0,3),(1,108)]) rfl tf3
theorem aIg{K:Nat→TI→Prop}:@qA Tryz.prog 109 1 ⟨K⟩=K 1 Qq:=qr (ti:=Jc) (tf:=Qq) (fo:=(1,108)) (fs:=[(0,3),(1,108)]) aGa rfl rfl YZ
theorem aP1{K:Nat→Nat→Prop}:qt Tryz.prog [(0,3),(1,108)] 1 K=K 1 1:=qq (tf:=Qq) (fo:=(1,108)) (fs:=[(0,3),(1,108)]) rfl YZ
theorem aRA:∀f∈([(0,3),(1,108)]:List (Nat×Nat)),(qm Tryz.prog f.2).isSome=true:=by
 intro f hf
 simp only[List.mem_cons,List.not_mem_nil,or_false]at hf
 rcases hf with rfl|rfl
 ·rw[tf3];rfl
 ·rw[YZ];rfl
theorem bbq{ps:List (Nat×AV)}{K:AV→Prop}:@za Tryz.prog 109 ps ⟨K⟩=@zg (qt Tryz.prog [(0,3),(1,108)]) (zc Jc) ps ⟨fun cs=>K (.ag cs)⟩:=qH aGa rfl aRA
theorem beY{K:TI→Prop}:@tyW Tryz.prog 110 ⟨K⟩=K Jb:=qc aF9
theorem aFA:Jb.kd=Kd.stru [(0,3),(1,108)]:=ID rfl
theorem ar1:Jb.kd.agg=true:=ID rfl
theorem alR:Jb.size=2:=ID rfl
theorem afq:Jb.bytes=32:=ID rfl
theorem aFy:qw Jb=True:=eq_true rfl
theorem aFz:zc Jb=[.v (Value.int IntKind.i64 0),.v (Value.slice none 0 0)]:=ID rfl
theorem aIf{K:Nat→TI→Prop}:@qA Tryz.prog 110 0 ⟨K⟩=K 0 ti3:=qr (ti:=Jb) (tf:=ti3) (fo:=(0,3)) (fs:=[(0,3),(1,108)]) aF9 rfl rfl tf3
theorem aP0{K:Nat→Nat→Prop}:qt Tryz.prog [(0,3),(1,108)] 0 K=K 0 1:=qq (tf:=ti3) (fo:=(0,3)) (fs:=[(0,3),(1,108)]) rfl tf3
theorem aIe{K:Nat→TI→Prop}:@qA Tryz.prog 110 1 ⟨K⟩=K 1 Qq:=qr (ti:=Jb) (tf:=Qq) (fo:=(1,108)) (fs:=[(0,3),(1,108)]) aF9 rfl rfl YZ
theorem aPZ{K:Nat→Nat→Prop}:qt Tryz.prog [(0,3),(1,108)] 1 K=K 1 1:=qq (tf:=Qq) (fo:=(1,108)) (fs:=[(0,3),(1,108)]) rfl YZ
theorem aRz:∀f∈([(0,3),(1,108)]:List (Nat×Nat)),(qm Tryz.prog f.2).isSome=true:=by
 intro f hf
 simp only[List.mem_cons,List.not_mem_nil,or_false]at hf
 rcases hf with rfl|rfl
 ·rw[tf3];rfl
 ·rw[YZ];rfl
theorem bbp{ps:List (Nat×AV)}{K:AV→Prop}:@za Tryz.prog 110 ps ⟨K⟩=@zg (qt Tryz.prog [(0,3),(1,108)]) (zc Jb) ps ⟨fun cs=>K (.ag cs)⟩:=qH aF9 rfl aRz
theorem beX{K:TI→Prop}:@tyW Tryz.prog 111 ⟨K⟩=K aaT:=qc bhQ
theorem aFx:aaT.kd=Kd.oth:=ID rfl
theorem ar0:aaT.kd.agg=false:=ID rfl
theorem alQ:aaT.size=1:=ID rfl
theorem afp:aaT.bytes=8:=ID rfl
theorem aFv:qw aaT=True:=eq_true rfl
theorem aFw:zc aaT=[.v Value.nilFunc]:=ID rfl
theorem beW{K:TI→Prop}:@tyW Tryz.prog 112 ⟨K⟩=K aaS:=qc bhP
theorem aFu:aaS.kd=Kd.oth:=ID rfl
theorem arZ:aaS.kd.agg=false:=ID rfl
theorem alP:aaS.size=1:=ID rfl
theorem afo:aaS.bytes=8:=ID rfl
theorem aFs:qw aaS=True:=eq_true rfl
theorem aFt:zc aaS=[.v Value.nilFunc]:=ID rfl
theorem beV{K:TI→Prop}:@tyW Tryz.prog 113 ⟨K⟩=K aaR:=qc bhO
theorem aFr:aaR.kd=Kd.oth:=ID rfl
theorem arY:aaR.kd.agg=false:=ID rfl
theorem alO:aaR.size=1:=ID rfl
theorem afn:aaR.bytes=8:=ID rfl
theorem aFp:qw aaR=True:=eq_true rfl
theorem aFq:zc aaR=[.v Value.nilFunc]:=ID rfl
theorem beU{K:TI→Prop}:@tyW Tryz.prog 114 ⟨K⟩=K aaQ:=qc bhN
theorem aFo:aaQ.kd=Kd.oth:=ID rfl
theorem arX:aaQ.kd.agg=false:=ID rfl
theorem alN:aaQ.size=1:=ID rfl
theorem afm:aaQ.bytes=8:=ID rfl
theorem aFm:qw aaQ=True:=eq_true rfl
theorem aFn:zc aaQ=[.v Value.nilFunc]:=ID rfl
theorem beT{K:TI→Prop}:@tyW Tryz.prog 115 ⟨K⟩=K aaP:=qc bhM
theorem aFl:aaP.kd=Kd.oth:=ID rfl
theorem arW:aaP.kd.agg=false:=ID rfl
theorem alM:aaP.size=1:=ID rfl
theorem afl:aaP.bytes=8:=ID rfl
theorem aFj:qw aaP=True:=eq_true rfl
theorem aFk:zc aaP=[.v Value.nilFunc]:=ID rfl
theorem beS{K:TI→Prop}:@tyW Tryz.prog 116 ⟨K⟩=K ZO:=qc ash
theorem aFi:ZO.kd=Kd.stru [(0,4),(1,36),(2,3)]:=ID rfl
theorem arV:ZO.kd.agg=true:=ID rfl
theorem alL:ZO.size=3:=ID rfl
theorem afk:ZO.bytes=40:=ID rfl
theorem aFg:qw ZO=True:=eq_true rfl
theorem aFh:zc ZO=[.v (Value.bool false),.v (Value.slice none 0 0),.v (Value.int IntKind.i64 0)]:=ID rfl
theorem aId{K:Nat→TI→Prop}:@qA Tryz.prog 116 0 ⟨K⟩=K 0 ti4:=qr (ti:=ZO) (tf:=ti4) (fo:=(0,4)) (fs:=[(0,4),(1,36),(2,3)]) ash rfl rfl tf4
theorem aPY{K:Nat→Nat→Prop}:qt Tryz.prog [(0,4),(1,36),(2,3)] 0 K=K 0 1:=qq (tf:=ti4) (fo:=(0,4)) (fs:=[(0,4),(1,36),(2,3)]) rfl tf4
theorem aIc{K:Nat→TI→Prop}:@qA Tryz.prog 116 1 ⟨K⟩=K 1 Z9:=qr (ti:=ZO) (tf:=Z9) (fo:=(1,36)) (fs:=[(0,4),(1,36),(2,3)]) ash rfl rfl aa2
theorem aPX{K:Nat→Nat→Prop}:qt Tryz.prog [(0,4),(1,36),(2,3)] 1 K=K 1 1:=qq (tf:=Z9) (fo:=(1,36)) (fs:=[(0,4),(1,36),(2,3)]) rfl aa2
theorem aIb{K:Nat→TI→Prop}:@qA Tryz.prog 116 2 ⟨K⟩=K 2 ti3:=qr (ti:=ZO) (tf:=ti3) (fo:=(2,3)) (fs:=[(0,4),(1,36),(2,3)]) ash rfl rfl tf3
theorem aPW{K:Nat→Nat→Prop}:qt Tryz.prog [(0,4),(1,36),(2,3)] 2 K=K 2 1:=qq (tf:=ti3) (fo:=(2,3)) (fs:=[(0,4),(1,36),(2,3)]) rfl tf3
theorem aRy:∀f∈([(0,4),(1,36),(2,3)]:List (Nat×Nat)),(qm Tryz.prog f.2).isSome=true:=by
 intro f hf
 simp only[List.mem_cons,List.not_mem_nil,or_false]at hf
 rcases hf with rfl|rfl|rfl
 ·rw[tf4];rfl
 ·rw[aa2];rfl
 ·rw[tf3];rfl
theorem bbo{ps:List (Nat×AV)}{K:AV→Prop}:@za Tryz.prog 116 ps ⟨K⟩=@zg (qt Tryz.prog [(0,4),(1,36),(2,3)]) (zc ZO) ps ⟨fun cs=>K (.ag cs)⟩:=qH ash rfl aRy
theorem beR{K:TI→Prop}:@tyW Tryz.prog 117 ⟨K⟩=K jz:=qc yL
theorem aFf:jz.kd=Kd.stru [(0,4),(1,36),(2,3)]:=ID rfl
theorem arU:jz.kd.agg=true:=ID rfl
theorem alK:jz.size=3:=ID rfl
theorem afj:jz.bytes=40:=ID rfl
theorem aFd:qw jz=True:=eq_true rfl
theorem aFe:zc jz=[.v (Value.bool false),.v (Value.slice none 0 0),.v (Value.int IntKind.i64 0)]:=ID rfl
theorem aIa{K:Nat→TI→Prop}:@qA Tryz.prog 117 0 ⟨K⟩=K 0 ti4:=qr (ti:=jz) (tf:=ti4) (fo:=(0,4)) (fs:=[(0,4),(1,36),(2,3)]) yL rfl rfl tf4
theorem aPV{K:Nat→Nat→Prop}:qt Tryz.prog [(0,4),(1,36),(2,3)] 0 K=K 0 1:=qq (tf:=ti4) (fo:=(0,4)) (fs:=[(0,4),(1,36),(2,3)]) rfl tf4
theorem aH9{K:Nat→TI→Prop}:@qA Tryz.prog 117 1 ⟨K⟩=K 1 Z9:=qr (ti:=jz) (tf:=Z9) (fo:=(1,36)) (fs:=[(0,4),(1,36),(2,3)]) yL rfl rfl aa2
theorem aPU{K:Nat→Nat→Prop}:qt Tryz.prog [(0,4),(1,36),(2,3)] 1 K=K 1 1:=qq (tf:=Z9) (fo:=(1,36)) (fs:=[(0,4),(1,36),(2,3)]) rfl aa2
theorem aH8{K:Nat→TI→Prop}:@qA Tryz.prog 117 2 ⟨K⟩=K 2 ti3:=qr (ti:=jz) (tf:=ti3) (fo:=(2,3)) (fs:=[(0,4),(1,36),(2,3)]) yL rfl rfl tf3
theorem aPT{K:Nat→Nat→Prop}:qt Tryz.prog [(0,4),(1,36),(2,3)] 2 K=K 2 1:=qq (tf:=ti3) (fo:=(2,3)) (fs:=[(0,4),(1,36),(2,3)]) rfl tf3
theorem aRx:∀f∈([(0,4),(1,36),(2,3)]:List (Nat×Nat)),(qm Tryz.prog f.2).isSome=true:=by
 intro f hf
 simp only[List.mem_cons,List.not_mem_nil,or_false]at hf
 rcases hf with rfl|rfl|rfl
 ·rw[tf4];rfl
 ·rw[aa2];rfl
 ·rw[tf3];rfl
theorem bbn{ps:List (Nat×AV)}{K:AV→Prop}:@za Tryz.prog 117 ps ⟨K⟩=@zg (qt Tryz.prog [(0,4),(1,36),(2,3)]) (zc jz) ps ⟨fun cs=>K (.ag cs)⟩:=qH yL rfl aRx
theorem beQ{K:TI→Prop}:@tyW Tryz.prog 118 ⟨K⟩=K aaO:=qc bhL
theorem aFc:aaO.kd=Kd.oth:=ID rfl
theorem arT:aaO.kd.agg=false:=ID rfl
theorem alJ:aaO.size=1:=ID rfl
theorem afi:aaO.bytes=8:=ID rfl
theorem aFa:qw aaO=True:=eq_true rfl
theorem aFb:zc aaO=[.v Value.nilFunc]:=ID rfl
theorem beP{K:TI→Prop}:@tyW Tryz.prog 119 ⟨K⟩=K aaN:=qc bhK
theorem aE9:aaN.kd=Kd.oth:=ID rfl
theorem arS:aaN.kd.agg=false:=ID rfl
theorem alI:aaN.size=1:=ID rfl
theorem afh:aaN.bytes=8:=ID rfl
theorem aE7:qw aaN=True:=eq_true rfl
theorem aE8:zc aaN=[.v Value.nilFunc]:=ID rfl
theorem beO{K:TI→Prop}:@tyW Tryz.prog 120 ⟨K⟩=K aaM:=qc bhJ
theorem aE5:aaM.kd=Kd.oth:=ID rfl
theorem arQ:aaM.kd.agg=false:=ID rfl
theorem alG:aaM.size=1:=ID rfl
theorem afg:aaM.bytes=8:=ID rfl
theorem aE3:qw aaM=True:=eq_true rfl
theorem aE4:zc aaM=[.v Value.nilFunc]:=ID rfl
theorem beN{K:TI→Prop}:@tyW Tryz.prog 121 ⟨K⟩=K aaL:=qc bhI
theorem aE2:aaL.kd=Kd.oth:=ID rfl
theorem arP:aaL.kd.agg=false:=ID rfl
theorem alD:aaL.size=1:=ID rfl
theorem aff:aaL.bytes=8:=ID rfl
theorem aE0:qw aaL=True:=eq_true rfl
theorem aE1:zc aaL=[.v Value.nilFunc]:=ID rfl
theorem beM{K:TI→Prop}:@tyW Tryz.prog 122 ⟨K⟩=K aaK:=qc bhH
theorem aEZ:aaK.kd=Kd.oth:=ID rfl
theorem arO:aaK.kd.agg=false:=ID rfl
theorem alC:aaK.size=1:=ID rfl
theorem afe:aaK.bytes=8:=ID rfl
theorem aEX:qw aaK=True:=eq_true rfl
theorem aEY:zc aaK=[.v Value.nilFunc]:=ID rfl
theorem beL{K:TI→Prop}:@tyW Tryz.prog 123 ⟨K⟩=K aaJ:=qc bhG
theorem aEW:aaJ.kd=Kd.oth:=ID rfl
theorem arN:aaJ.kd.agg=false:=ID rfl
theorem alB:aaJ.size=1:=ID rfl
theorem afd:aaJ.bytes=8:=ID rfl
theorem aEU:qw aaJ=True:=eq_true rfl
theorem aEV:zc aaJ=[.v Value.nilFunc]:=ID rfl
theorem beK{K:TI→Prop}:@tyW Tryz.prog 124 ⟨K⟩=K Ja:=qc aF8
theorem aET:Ja.kd=Kd.stru [(0,117),(3,117)]:=ID rfl
theorem arM:Ja.kd.agg=true:=ID rfl
theorem alz:Ja.size=6:=ID rfl
theorem afc:Ja.bytes=80:=ID rfl
theorem aER:qw Ja=True:=eq_true rfl
theorem aES:zc Ja=[.v (Value.bool false),.v (Value.slice none 0 0),.v (Value.int IntKind.i64 0),.v (Value.bool false),.v (Value.slice none 0 0),.v (Value.int IntKind.i64 0)]:=ID rfl
theorem aH7{K:Nat→TI→Prop}:@qA Tryz.prog 124 0 ⟨K⟩=K 0 jz:=qr (ti:=Ja) (tf:=jz) (fo:=(0,117)) (fs:=[(0,117),(3,117)]) aF8 rfl rfl yL
theorem aPS{K:Nat→Nat→Prop}:qt Tryz.prog [(0,117),(3,117)] 0 K=K 0 3:=qq (tf:=jz) (fo:=(0,117)) (fs:=[(0,117),(3,117)]) rfl yL
theorem aH6{K:Nat→TI→Prop}:@qA Tryz.prog 124 1 ⟨K⟩=K 3 jz:=qr (ti:=Ja) (tf:=jz) (fo:=(3,117)) (fs:=[(0,117),(3,117)]) aF8 rfl rfl yL
theorem aPR{K:Nat→Nat→Prop}:qt Tryz.prog [(0,117),(3,117)] 1 K=K 3 3:=qq (tf:=jz) (fo:=(3,117)) (fs:=[(0,117),(3,117)]) rfl yL
theorem aRw:∀f∈([(0,117),(3,117)]:List (Nat×Nat)),(qm Tryz.prog f.2).isSome=true:=by
 intro f hf
 simp only[List.mem_cons,List.not_mem_nil,or_false]at hf
 rcases hf with rfl|rfl
 ·rw[yL];rfl
 ·rw[yL];rfl
theorem bbm{ps:List (Nat×AV)}{K:AV→Prop}:@za Tryz.prog 124 ps ⟨K⟩=@zg (qt Tryz.prog [(0,117),(3,117)]) (zc Ja) ps ⟨fun cs=>K (.ag cs)⟩:=qH aF8 rfl aRw
theorem beJ{K:TI→Prop}:@tyW Tryz.prog 125 ⟨K⟩=K ZN:=qc asg
theorem aEQ:ZN.kd=Kd.stru [(0,117),(3,117)]:=ID rfl
theorem arL:ZN.kd.agg=true:=ID rfl
theorem aly:ZN.size=6:=ID rfl
theorem afb:ZN.bytes=80:=ID rfl
theorem aEO:qw ZN=True:=eq_true rfl
theorem aEP:zc ZN=[.v (Value.bool false),.v (Value.slice none 0 0),.v (Value.int IntKind.i64 0),.v (Value.bool false),.v (Value.slice none 0 0),.v (Value.int IntKind.i64 0)]:=ID rfl
theorem aH5{K:Nat→TI→Prop}:@qA Tryz.prog 125 0 ⟨K⟩=K 0 jz:=qr (ti:=ZN) (tf:=jz) (fo:=(0,117)) (fs:=[(0,117),(3,117)]) asg rfl rfl yL
theorem aPQ{K:Nat→Nat→Prop}:qt Tryz.prog [(0,117),(3,117)] 0 K=K 0 3:=qq (tf:=jz) (fo:=(0,117)) (fs:=[(0,117),(3,117)]) rfl yL
theorem aH4{K:Nat→TI→Prop}:@qA Tryz.prog 125 1 ⟨K⟩=K 3 jz:=qr (ti:=ZN) (tf:=jz) (fo:=(3,117)) (fs:=[(0,117),(3,117)]) asg rfl rfl yL
theorem aPP{K:Nat→Nat→Prop}:qt Tryz.prog [(0,117),(3,117)] 1 K=K 3 3:=qq (tf:=jz) (fo:=(3,117)) (fs:=[(0,117),(3,117)]) rfl yL
theorem aRv:∀f∈([(0,117),(3,117)]:List (Nat×Nat)),(qm Tryz.prog f.2).isSome=true:=by
 intro f hf
 simp only[List.mem_cons,List.not_mem_nil,or_false]at hf
 rcases hf with rfl|rfl
 ·rw[yL];rfl
 ·rw[yL];rfl
theorem bbl{ps:List (Nat×AV)}{K:AV→Prop}:@za Tryz.prog 125 ps ⟨K⟩=@zg (qt Tryz.prog [(0,117),(3,117)]) (zc ZN) ps ⟨fun cs=>K (.ag cs)⟩:=qH asg rfl aRv
theorem beI{K:TI→Prop}:@tyW Tryz.prog 127 ⟨K⟩=K aaI:=qc bhF
theorem aEN:aaI.kd=Kd.oth:=ID rfl
theorem arK:aaI.kd.agg=false:=ID rfl
theorem alx:aaI.size=1:=ID rfl
theorem afa:aaI.bytes=8:=ID rfl
theorem aEL:qw aaI=True:=eq_true rfl
theorem aEM:zc aaI=[.v Value.nilFunc]:=ID rfl
theorem beH{K:TI→Prop}:@tyW Tryz.prog 128 ⟨K⟩=K aaH:=qc bhE
theorem aEK:aaH.kd=Kd.oth:=ID rfl
theorem arJ:aaH.kd.agg=false:=ID rfl
theorem alw:aaH.size=1:=ID rfl
theorem ae9:aaH.bytes=8:=ID rfl
theorem aEI:qw aaH=True:=eq_true rfl
theorem aEJ:zc aaH=[.v Value.nilFunc]:=ID rfl
theorem beG{K:TI→Prop}:@tyW Tryz.prog 129 ⟨K⟩=K aaG:=qc bhD
theorem aEH:aaG.kd=Kd.oth:=ID rfl
theorem arI:aaG.kd.agg=false:=ID rfl
theorem alv:aaG.size=1:=ID rfl
theorem ae8:aaG.bytes=8:=ID rfl
theorem aEF:qw aaG=True:=eq_true rfl
theorem aEG:zc aaG=[.v Value.nilFunc]:=ID rfl
theorem beF{K:TI→Prop}:@tyW Tryz.prog 130 ⟨K⟩=K aaF:=qc bhC
theorem aED:aaF.kd=Kd.oth:=ID rfl
theorem arG:aaF.kd.agg=false:=ID rfl
theorem alt:aaF.size=1:=ID rfl
theorem ae7:aaF.bytes=8:=ID rfl
theorem aEB:qw aaF=True:=eq_true rfl
theorem aEC:zc aaF=[.v Value.nilFunc]:=ID rfl
theorem beE{K:TI→Prop}:@tyW Tryz.prog 131 ⟨K⟩=K aaE:=qc bhB
theorem aEA:aaE.kd=Kd.oth:=ID rfl
theorem arF:aaE.kd.agg=false:=ID rfl
theorem als:aaE.size=1:=ID rfl
theorem ae6:aaE.bytes=8:=ID rfl
theorem aEy:qw aaE=True:=eq_true rfl
theorem aEz:zc aaE=[.v Value.nilFunc]:=ID rfl
theorem beD{K:TI→Prop}:@tyW Tryz.prog 132 ⟨K⟩=K aaD:=qc bhA
theorem aEx:aaD.kd=Kd.oth:=ID rfl
theorem arE:aaD.kd.agg=false:=ID rfl
theorem alr:aaD.size=1:=ID rfl
theorem ae5:aaD.bytes=8:=ID rfl
theorem aEv:qw aaD=True:=eq_true rfl
theorem aEw:zc aaD=[.v Value.nilFunc]:=ID rfl
theorem beC{K:TI→Prop}:@tyW Tryz.prog 133 ⟨K⟩=K aaC:=qc bhz
theorem aEu:aaC.kd=Kd.oth:=ID rfl
theorem arD:aaC.kd.agg=false:=ID rfl
theorem alq:aaC.size=1:=ID rfl
theorem ae4:aaC.bytes=8:=ID rfl
theorem aEs:qw aaC=True:=eq_true rfl
theorem aEt:zc aaC=[.v Value.nilFunc]:=ID rfl
theorem beB{K:TI→Prop}:@tyW Tryz.prog 134 ⟨K⟩=K aaB:=qc bhy
theorem aEr:aaB.kd=Kd.oth:=ID rfl
theorem arC:aaB.kd.agg=false:=ID rfl
theorem alp:aaB.size=1:=ID rfl
theorem ae3:aaB.bytes=8:=ID rfl
theorem aEp:qw aaB=True:=eq_true rfl
theorem aEq:zc aaB=[.v Value.nilFunc]:=ID rfl
theorem beA{K:TI→Prop}:@tyW Tryz.prog 135 ⟨K⟩=K aaA:=qc bhx
theorem aEo:aaA.kd=Kd.oth:=ID rfl
theorem arB:aaA.kd.agg=false:=ID rfl
theorem alo:aaA.size=1:=ID rfl
theorem ae2:aaA.bytes=8:=ID rfl
theorem aEm:qw aaA=True:=eq_true rfl
theorem aEn:zc aaA=[.v Value.nilFunc]:=ID rfl
theorem bez{K:TI→Prop}:@tyW Tryz.prog 136 ⟨K⟩=K aaz:=qc bhw
theorem aEl:aaz.kd=Kd.oth:=ID rfl
theorem arA:aaz.kd.agg=false:=ID rfl
theorem aln:aaz.size=1:=ID rfl
theorem ae1:aaz.bytes=8:=ID rfl
theorem aEj:qw aaz=True:=eq_true rfl
theorem aEk:zc aaz=[.v Value.nilFunc]:=ID rfl
theorem bey{K:TI→Prop}:@tyW Tryz.prog 137 ⟨K⟩=K aay:=qc bhv
theorem aEi:aay.kd=Kd.oth:=ID rfl
theorem arz:aay.kd.agg=false:=ID rfl
theorem alm:aay.size=1:=ID rfl
theorem ae0:aay.bytes=8:=ID rfl
theorem aEg:qw aay=True:=eq_true rfl
theorem aEh:zc aay=[.v Value.nilFunc]:=ID rfl
theorem bex{K:TI→Prop}:@tyW Tryz.prog 138 ⟨K⟩=K aax:=qc bhu
theorem aEf:aax.kd=Kd.oth:=ID rfl
theorem ary:aax.kd.agg=false:=ID rfl
theorem alk:aax.size=1:=ID rfl
theorem aeZ:aax.bytes=8:=ID rfl
theorem aEd:qw aax=True:=eq_true rfl
theorem aEe:zc aax=[.v Value.nilFunc]:=ID rfl
theorem bew{K:TI→Prop}:@tyW Tryz.prog 139 ⟨K⟩=K aaw:=qc bht
theorem aEc:aaw.kd=Kd.oth:=ID rfl
theorem arx:aaw.kd.agg=false:=ID rfl
theorem alj:aaw.size=1:=ID rfl
theorem aeY:aaw.bytes=8:=ID rfl
theorem aEa:qw aaw=True:=eq_true rfl
theorem aEb:zc aaw=[.v Value.nilFunc]:=ID rfl
theorem bev{K:TI→Prop}:@tyW Tryz.prog 141 ⟨K⟩=K aav:=qc bhs
theorem aD9:aav.kd=Kd.oth:=ID rfl
theorem arw:aav.kd.agg=false:=ID rfl
theorem ali:aav.size=1:=ID rfl
theorem aeX:aav.bytes=8:=ID rfl
theorem aD7:qw aav=True:=eq_true rfl
theorem aD8:zc aav=[.v Value.nilFunc]:=ID rfl
theorem beu{K:TI→Prop}:@tyW Tryz.prog 142 ⟨K⟩=K aau:=qc bhr
theorem aD6:aau.kd=Kd.oth:=ID rfl
theorem arv:aau.kd.agg=false:=ID rfl
theorem alh:aau.size=1:=ID rfl
theorem aeW:aau.bytes=8:=ID rfl
theorem aD4:qw aau=True:=eq_true rfl
theorem aD5:zc aau=[.v Value.nilFunc]:=ID rfl
theorem bet{K:TI→Prop}:@tyW Tryz.prog 143 ⟨K⟩=K aat:=qc bhq
theorem aD3:aat.kd=Kd.oth:=ID rfl
theorem aru:aat.kd.agg=false:=ID rfl
theorem alg:aat.size=1:=ID rfl
theorem aeV:aat.bytes=8:=ID rfl
theorem aD1:qw aat=True:=eq_true rfl
theorem aD2:zc aat=[.v Value.nilFunc]:=ID rfl
theorem bes{K:TI→Prop}:@tyW Tryz.prog 144 ⟨K⟩=K aas:=qc bho
theorem aD0:aas.kd=Kd.oth:=ID rfl
theorem art:aas.kd.agg=false:=ID rfl
theorem alf:aas.size=1:=ID rfl
theorem aeU:aas.bytes=8:=ID rfl
theorem aDY:qw aas=True:=eq_true rfl
theorem aDZ:zc aas=[.v Value.nilFunc]:=ID rfl
theorem ber{K:TI→Prop}:@tyW Tryz.prog 145 ⟨K⟩=K aar:=qc bhn
theorem aDX:aar.kd=Kd.oth:=ID rfl
theorem ars:aar.kd.agg=false:=ID rfl
theorem ale:aar.size=1:=ID rfl
theorem aeT:aar.bytes=8:=ID rfl
theorem aDV:qw aar=True:=eq_true rfl
theorem aDW:zc aar=[.v Value.nilFunc]:=ID rfl
theorem bep{K:TI→Prop}:@tyW Tryz.prog 146 ⟨K⟩=K aaq:=qc bhm
theorem aDU:aaq.kd=Kd.oth:=ID rfl
theorem arq:aaq.kd.agg=false:=ID rfl
theorem ald:aaq.size=1:=ID rfl
theorem aeS:aaq.bytes=8:=ID rfl
theorem aDS:qw aaq=True:=eq_true rfl
theorem aDT:zc aaq=[.v Value.nilFunc]:=ID rfl
theorem beo{K:TI→Prop}:@tyW Tryz.prog 147 ⟨K⟩=K aap:=qc bhl
theorem aDR:aap.kd=Kd.oth:=ID rfl
theorem arp:aap.kd.agg=false:=ID rfl
theorem alc:aap.size=1:=ID rfl
theorem aeR:aap.bytes=8:=ID rfl
theorem aDP:qw aap=True:=eq_true rfl
theorem aDQ:zc aap=[.v Value.nilFunc]:=ID rfl
theorem ben{K:TI→Prop}:@tyW Tryz.prog 148 ⟨K⟩=K aao:=qc bhk
theorem aDO:aao.kd=Kd.oth:=ID rfl
theorem aro:aao.kd.agg=false:=ID rfl
theorem alb:aao.size=1:=ID rfl
theorem aeQ:aao.bytes=8:=ID rfl
theorem aDM:qw aao=True:=eq_true rfl
theorem aDN:zc aao=[.v Value.nilFunc]:=ID rfl
theorem bem{K:TI→Prop}:@tyW Tryz.prog 149 ⟨K⟩=K aan:=qc bhj
theorem aDL:aan.kd=Kd.oth:=ID rfl
theorem arn:aan.kd.agg=false:=ID rfl
theorem ala:aan.size=1:=ID rfl
theorem aeP:aan.bytes=8:=ID rfl
theorem aDJ:qw aan=True:=eq_true rfl
theorem aDK:zc aan=[.v Value.nilFunc]:=ID rfl
theorem bel{K:TI→Prop}:@tyW Tryz.prog 150 ⟨K⟩=K aam:=qc bhi
theorem aDI:aam.kd=Kd.oth:=ID rfl
theorem arm:aam.kd.agg=false:=ID rfl
theorem ak9:aam.size=1:=ID rfl
theorem aeO:aam.bytes=8:=ID rfl
theorem aDG:qw aam=True:=eq_true rfl
theorem aDH:zc aam=[.v Value.nilFunc]:=ID rfl
theorem bek{K:TI→Prop}:@tyW Tryz.prog 151 ⟨K⟩=K aal:=qc bhh
theorem aDF:aal.kd=Kd.oth:=ID rfl
theorem arl:aal.kd.agg=false:=ID rfl
theorem ak8:aal.size=1:=ID rfl
theorem aeN:aal.bytes=8:=ID rfl
theorem aDD:qw aal=True:=eq_true rfl
theorem aDE:zc aal=[.v Value.nilFunc]:=ID rfl
theorem bej{K:TI→Prop}:@tyW Tryz.prog 152 ⟨K⟩=K aak:=qc bhg
theorem aDC:aak.kd=Kd.oth:=ID rfl
theorem ark:aak.kd.agg=false:=ID rfl
theorem ak7:aak.size=1:=ID rfl
theorem aeM:aak.bytes=8:=ID rfl
theorem aDA:qw aak=True:=eq_true rfl
theorem aDB:zc aak=[.v Value.nilFunc]:=ID rfl
theorem bei{K:TI→Prop}:@tyW Tryz.prog 153 ⟨K⟩=K aaj:=qc bhf
theorem aDz:aaj.kd=Kd.oth:=ID rfl
theorem arj:aaj.kd.agg=false:=ID rfl
theorem ak6:aaj.size=1:=ID rfl
theorem aeL:aaj.bytes=8:=ID rfl
theorem aDx:qw aaj=True:=eq_true rfl
theorem aDy:zc aaj=[.v Value.nilFunc]:=ID rfl
theorem beh{K:TI→Prop}:@tyW Tryz.prog 154 ⟨K⟩=K aai:=qc bhe
theorem aDw:aai.kd=Kd.oth:=ID rfl
theorem ari:aai.kd.agg=false:=ID rfl
theorem ak5:aai.size=1:=ID rfl
theorem aeK:aai.bytes=8:=ID rfl
theorem aDu:qw aai=True:=eq_true rfl
theorem aDv:zc aai=[.v Value.nilFunc]:=ID rfl
theorem beg{K:TI→Prop}:@tyW Tryz.prog 155 ⟨K⟩=K aah:=qc bhd
theorem aDt:aah.kd=Kd.oth:=ID rfl
theorem arh:aah.kd.agg=false:=ID rfl
theorem ak4:aah.size=1:=ID rfl
theorem aeJ:aah.bytes=8:=ID rfl
theorem aDr:qw aah=True:=eq_true rfl
theorem aDs:zc aah=[.v Value.nilFunc]:=ID rfl
theorem bef{K:TI→Prop}:@tyW Tryz.prog 156 ⟨K⟩=K aag:=qc bhc
theorem aDq:aag.kd=Kd.oth:=ID rfl
theorem arg:aag.kd.agg=false:=ID rfl
theorem ak3:aag.size=1:=ID rfl
theorem aeI:aag.bytes=8:=ID rfl
theorem aDo:qw aag=True:=eq_true rfl
theorem aDp:zc aag=[.v Value.nilFunc]:=ID rfl
theorem bee{K:TI→Prop}:@tyW Tryz.prog 157 ⟨K⟩=K aaf:=qc bhb
theorem aDn:aaf.kd=Kd.oth:=ID rfl
theorem arf:aaf.kd.agg=false:=ID rfl
theorem ak2:aaf.size=1:=ID rfl
theorem aeH:aaf.bytes=8:=ID rfl
theorem aDl:qw aaf=True:=eq_true rfl
theorem aDm:zc aaf=[.v Value.nilFunc]:=ID rfl
theorem bed{K:TI→Prop}:@tyW Tryz.prog 158 ⟨K⟩=K aae:=qc bha
theorem aDk:aae.kd=Kd.oth:=ID rfl
theorem ard:aae.kd.agg=false:=ID rfl
theorem ak1:aae.size=1:=ID rfl
theorem aeG:aae.bytes=8:=ID rfl
theorem aDi:qw aae=True:=eq_true rfl
theorem aDj:zc aae=[.v Value.nilFunc]:=ID rfl
theorem bec{K:TI→Prop}:@tyW Tryz.prog 159 ⟨K⟩=K aad:=qc bg9
theorem aDh:aad.kd=Kd.oth:=ID rfl
theorem arc:aad.kd.agg=false:=ID rfl
theorem ak0:aad.size=1:=ID rfl
theorem aeF:aad.bytes=8:=ID rfl
theorem aDf:qw aad=True:=eq_true rfl
theorem aDg:zc aad=[.v Value.nilFunc]:=ID rfl
theorem beb{K:TI→Prop}:@tyW Tryz.prog 160 ⟨K⟩=K aac:=qc bg8
theorem aDe:aac.kd=Kd.oth:=ID rfl
theorem arb:aac.kd.agg=false:=ID rfl
theorem akZ:aac.size=1:=ID rfl
theorem aeE:aac.bytes=8:=ID rfl
theorem aDc:qw aac=True:=eq_true rfl
theorem aDd:zc aac=[.v Value.nilFunc]:=ID rfl
theorem bea{K:TI→Prop}:@tyW Tryz.prog 161 ⟨K⟩=K aab:=qc bg7
theorem aDb:aab.kd=Kd.oth:=ID rfl
theorem ara:aab.kd.agg=false:=ID rfl
theorem akY:aab.size=1:=ID rfl
theorem aeD:aab.bytes=8:=ID rfl
theorem aC9:qw aab=True:=eq_true rfl
theorem aDa:zc aab=[.v Value.nilFunc]:=ID rfl
theorem bd9{K:TI→Prop}:@tyW Tryz.prog 162 ⟨K⟩=K aaa:=qc bg6
theorem aC8:aaa.kd=Kd.oth:=ID rfl
theorem aq9:aaa.kd.agg=false:=ID rfl
theorem akX:aaa.size=1:=ID rfl
theorem aeC:aaa.bytes=8:=ID rfl
theorem aC6:qw aaa=True:=eq_true rfl
theorem aC7:zc aaa=[.v Value.nilFunc]:=ID rfl
theorem bd8{K:TI→Prop}:@tyW Tryz.prog 163 ⟨K⟩=K K9:=qc bg5
theorem aC5:K9.kd=Kd.oth:=ID rfl
theorem aq8:K9.kd.agg=false:=ID rfl
theorem akW:K9.size=1:=ID rfl
theorem aeB:K9.bytes=8:=ID rfl
theorem aC3:qw K9=True:=eq_true rfl
theorem aC4:zc K9=[.v Value.nilFunc]:=ID rfl
theorem bd7{K:TI→Prop}:@tyW Tryz.prog 164 ⟨K⟩=K K8:=qc bg4
theorem aC2:K8.kd=Kd.oth:=ID rfl
theorem aq7:K8.kd.agg=false:=ID rfl
theorem akV:K8.size=1:=ID rfl
theorem aeA:K8.bytes=8:=ID rfl
theorem aC0:qw K8=True:=eq_true rfl
theorem aC1:zc K8=[.v Value.nilFunc]:=ID rfl
theorem bd6{K:TI→Prop}:@tyW Tryz.prog 165 ⟨K⟩=K K7:=qc bg3
theorem aCZ:K7.kd=Kd.oth:=ID rfl
theorem aq6:K7.kd.agg=false:=ID rfl
theorem akU:K7.size=1:=ID rfl
theorem aez:K7.bytes=8:=ID rfl
theorem aCX:qw K7=True:=eq_true rfl
theorem aCY:zc K7=[.v Value.nilFunc]:=ID rfl
theorem bd5{K:TI→Prop}:@tyW Tryz.prog 166 ⟨K⟩=K K6:=qc bg2
theorem aCW:K6.kd=Kd.oth:=ID rfl
theorem aq5:K6.kd.agg=false:=ID rfl
theorem akT:K6.size=1:=ID rfl
theorem aey:K6.bytes=8:=ID rfl
theorem aCU:qw K6=True:=eq_true rfl
theorem aCV:zc K6=[.v Value.nilFunc]:=ID rfl
theorem bd2{K:TI→Prop}:@tyW Tryz.prog 167 ⟨K⟩=K K5:=qc bg1
theorem aCT:K5.kd=Kd.oth:=ID rfl
theorem aq4:K5.kd.agg=false:=ID rfl
theorem akS:K5.size=1:=ID rfl
theorem aex:K5.bytes=8:=ID rfl
theorem aCR:qw K5=True:=eq_true rfl
theorem aCS:zc K5=[.v Value.nilFunc]:=ID rfl
theorem bd1{K:TI→Prop}:@tyW Tryz.prog 168 ⟨K⟩=K K4:=qc bg0
theorem aCQ:K4.kd=Kd.oth:=ID rfl
theorem aq3:K4.kd.agg=false:=ID rfl
theorem akR:K4.size=1:=ID rfl
theorem aew:K4.bytes=8:=ID rfl
theorem aCO:qw K4=True:=eq_true rfl
theorem aCP:zc K4=[.v Value.nilFunc]:=ID rfl
theorem bd0{K:TI→Prop}:@tyW Tryz.prog 169 ⟨K⟩=K K3:=qc bgZ
theorem aCN:K3.kd=Kd.oth:=ID rfl
theorem aq2:K3.kd.agg=false:=ID rfl
theorem akQ:K3.size=1:=ID rfl
theorem aev:K3.bytes=8:=ID rfl
theorem aCL:qw K3=True:=eq_true rfl
theorem aCM:zc K3=[.v Value.nilFunc]:=ID rfl
theorem bdZ{K:TI→Prop}:@tyW Tryz.prog 170 ⟨K⟩=K K2:=qc bgY
theorem aCK:K2.kd=Kd.oth:=ID rfl
theorem aq1:K2.kd.agg=false:=ID rfl
theorem akP:K2.size=1:=ID rfl
theorem aeu:K2.bytes=8:=ID rfl
theorem aCI:qw K2=True:=eq_true rfl
theorem aCJ:zc K2=[.v Value.nilFunc]:=ID rfl
theorem bdY{K:TI→Prop}:@tyW Tryz.prog 171 ⟨K⟩=K KZ:=qc bgX
theorem aCH:KZ.kd=Kd.oth:=ID rfl
theorem aq0:KZ.kd.agg=false:=ID rfl
theorem akO:KZ.size=1:=ID rfl
theorem aet:KZ.bytes=8:=ID rfl
theorem aCF:qw KZ=True:=eq_true rfl
theorem aCG:zc KZ=[.v Value.nilFunc]:=ID rfl
theorem bdX{K:TI→Prop}:@tyW Tryz.prog 172 ⟨K⟩=K KY:=qc bgW
theorem aCE:KY.kd=Kd.oth:=ID rfl
theorem aqZ:KY.kd.agg=false:=ID rfl
theorem akN:KY.size=1:=ID rfl
theorem aes:KY.bytes=8:=ID rfl
theorem aCC:qw KY=True:=eq_true rfl
theorem aCD:zc KY=[.v Value.nilFunc]:=ID rfl
theorem bdW{K:TI→Prop}:@tyW Tryz.prog 173 ⟨K⟩=K KX:=qc bgV
theorem aCB:KX.kd=Kd.oth:=ID rfl
theorem aqY:KX.kd.agg=false:=ID rfl
theorem akM:KX.size=1:=ID rfl
theorem aer:KX.bytes=8:=ID rfl
theorem aCz:qw KX=True:=eq_true rfl
theorem aCA:zc KX=[.v Value.nilFunc]:=ID rfl
theorem bdV{K:TI→Prop}:@tyW Tryz.prog 174 ⟨K⟩=K KW:=qc bgU
theorem aCy:KW.kd=Kd.oth:=ID rfl
theorem aqX:KW.kd.agg=false:=ID rfl
theorem akL:KW.size=1:=ID rfl
theorem aeq:KW.bytes=8:=ID rfl
theorem aCw:qw KW=True:=eq_true rfl
theorem aCx:zc KW=[.v Value.nilFunc]:=ID rfl
theorem bdU{K:TI→Prop}:@tyW Tryz.prog 175 ⟨K⟩=K KU:=qc bgT
theorem aCv:KU.kd=Kd.oth:=ID rfl
theorem aqW:KU.kd.agg=false:=ID rfl
theorem akK:KU.size=1:=ID rfl
theorem aep:KU.bytes=8:=ID rfl
theorem aCt:qw KU=True:=eq_true rfl
theorem aCu:zc KU=[.v Value.nilFunc]:=ID rfl
theorem bdT{K:TI→Prop}:@tyW Tryz.prog 176 ⟨K⟩=K ZM:=qc asf
theorem aCs:ZM.kd=Kd.stru [(0,22),(1,3),(2,3)]:=ID rfl
theorem aqV:ZM.kd.agg=true:=ID rfl
theorem akJ:ZM.size=3:=ID rfl
theorem aeo:ZM.bytes=40:=ID rfl
theorem aCq:qw ZM=True:=eq_true rfl
theorem aCr:zc ZM=[.v (Value.slice none 0 0),.v (Value.int IntKind.i64 0),.v (Value.int IntKind.i64 0)]:=ID rfl
theorem aH3{K:Nat→TI→Prop}:@qA Tryz.prog 176 0 ⟨K⟩=K 0 agW:=qr (ti:=ZM) (tf:=agW) (fo:=(0,22)) (fs:=[(0,22),(1,3),(2,3)]) asf rfl rfl aKn
theorem aPO{K:Nat→Nat→Prop}:qt Tryz.prog [(0,22),(1,3),(2,3)] 0 K=K 0 1:=qq (tf:=agW) (fo:=(0,22)) (fs:=[(0,22),(1,3),(2,3)]) rfl aKn
theorem aH2{K:Nat→TI→Prop}:@qA Tryz.prog 176 1 ⟨K⟩=K 1 ti3:=qr (ti:=ZM) (tf:=ti3) (fo:=(1,3)) (fs:=[(0,22),(1,3),(2,3)]) asf rfl rfl tf3
theorem aPN{K:Nat→Nat→Prop}:qt Tryz.prog [(0,22),(1,3),(2,3)] 1 K=K 1 1:=qq (tf:=ti3) (fo:=(1,3)) (fs:=[(0,22),(1,3),(2,3)]) rfl tf3
theorem aH1{K:Nat→TI→Prop}:@qA Tryz.prog 176 2 ⟨K⟩=K 2 ti3:=qr (ti:=ZM) (tf:=ti3) (fo:=(2,3)) (fs:=[(0,22),(1,3),(2,3)]) asf rfl rfl tf3
theorem aPM{K:Nat→Nat→Prop}:qt Tryz.prog [(0,22),(1,3),(2,3)] 2 K=K 2 1:=qq (tf:=ti3) (fo:=(2,3)) (fs:=[(0,22),(1,3),(2,3)]) rfl tf3
theorem aRu:∀f∈([(0,22),(1,3),(2,3)]:List (Nat×Nat)),(qm Tryz.prog f.2).isSome=true:=by
 intro f hf
 simp only[List.mem_cons,List.not_mem_nil,or_false]at hf
 rcases hf with rfl|rfl|rfl
 ·rw[aKn];rfl
 ·rw[tf3];rfl
 ·rw[tf3];rfl
theorem bbk{ps:List (Nat×AV)}{K:AV→Prop}:@za Tryz.prog 176 ps ⟨K⟩=@zg (qt Tryz.prog [(0,22),(1,3),(2,3)]) (zc ZM) ps ⟨fun cs=>K (.ag cs)⟩:=qH asf rfl aRu
theorem bdS{K:TI→Prop}:@tyW Tryz.prog 177 ⟨K⟩=K ZL:=qc ase
theorem aCp:ZL.kd=Kd.stru [(0,22),(1,3),(2,3)]:=ID rfl
theorem aqU:ZL.kd.agg=true:=ID rfl
theorem akI:ZL.size=3:=ID rfl
theorem aen:ZL.bytes=40:=ID rfl
theorem aCn:qw ZL=True:=eq_true rfl
theorem aCo:zc ZL=[.v (Value.slice none 0 0),.v (Value.int IntKind.i64 0),.v (Value.int IntKind.i64 0)]:=ID rfl
theorem aH0{K:Nat→TI→Prop}:@qA Tryz.prog 177 0 ⟨K⟩=K 0 agW:=qr (ti:=ZL) (tf:=agW) (fo:=(0,22)) (fs:=[(0,22),(1,3),(2,3)]) ase rfl rfl aKn
theorem aPL{K:Nat→Nat→Prop}:qt Tryz.prog [(0,22),(1,3),(2,3)] 0 K=K 0 1:=qq (tf:=agW) (fo:=(0,22)) (fs:=[(0,22),(1,3),(2,3)]) rfl aKn
theorem aHZ{K:Nat→TI→Prop}:@qA Tryz.prog 177 1 ⟨K⟩=K 1 ti3:=qr (ti:=ZL) (tf:=ti3) (fo:=(1,3)) (fs:=[(0,22),(1,3),(2,3)]) ase rfl rfl tf3
theorem aPK{K:Nat→Nat→Prop}:qt Tryz.prog [(0,22),(1,3),(2,3)] 1 K=K 1 1:=qq (tf:=ti3) (fo:=(1,3)) (fs:=[(0,22),(1,3),(2,3)]) rfl tf3
theorem aHY{K:Nat→TI→Prop}:@qA Tryz.prog 177 2 ⟨K⟩=K 2 ti3:=qr (ti:=ZL) (tf:=ti3) (fo:=(2,3)) (fs:=[(0,22),(1,3),(2,3)]) ase rfl rfl tf3
theorem aPJ{K:Nat→Nat→Prop}:qt Tryz.prog [(0,22),(1,3),(2,3)] 2 K=K 2 1:=qq (tf:=ti3) (fo:=(2,3)) (fs:=[(0,22),(1,3),(2,3)]) rfl tf3
theorem aRt:∀f∈([(0,22),(1,3),(2,3)]:List (Nat×Nat)),(qm Tryz.prog f.2).isSome=true:=by
 intro f hf
 simp only[List.mem_cons,List.not_mem_nil,or_false]at hf
 rcases hf with rfl|rfl|rfl
 ·rw[aKn];rfl
 ·rw[tf3];rfl
 ·rw[tf3];rfl
theorem bbj{ps:List (Nat×AV)}{K:AV→Prop}:@za Tryz.prog 177 ps ⟨K⟩=@zg (qt Tryz.prog [(0,22),(1,3),(2,3)]) (zc ZL) ps ⟨fun cs=>K (.ag cs)⟩:=qH ase rfl aRt
theorem bdR{K:TI→Prop}:@tyW Tryz.prog 178 ⟨K⟩=K KT:=qc bgS
theorem aCm:KT.kd=Kd.oth:=ID rfl
theorem aqT:KT.kd.agg=false:=ID rfl
theorem akH:KT.size=1:=ID rfl
theorem aem:KT.bytes=8:=ID rfl
theorem aCk:qw KT=True:=eq_true rfl
theorem aCl:zc KT=[.v Value.nilFunc]:=ID rfl
theorem bdQ{K:TI→Prop}:@tyW Tryz.prog 179 ⟨K⟩=K KS:=qc bgR
theorem aCj:KS.kd=Kd.oth:=ID rfl
theorem aqS:KS.kd.agg=false:=ID rfl
theorem akG:KS.size=1:=ID rfl
theorem ael:KS.bytes=8:=ID rfl
theorem aCh:qw KS=True:=eq_true rfl
theorem aCi:zc KS=[.v Value.nilFunc]:=ID rfl
theorem bdP{K:TI→Prop}:@tyW Tryz.prog 180 ⟨K⟩=K KR:=qc bgQ
theorem aCg:KR.kd=Kd.oth:=ID rfl
theorem aqR:KR.kd.agg=false:=ID rfl
theorem akF:KR.size=1:=ID rfl
theorem aek:KR.bytes=8:=ID rfl
theorem aCe:qw KR=True:=eq_true rfl
theorem aCf:zc KR=[.v Value.nilFunc]:=ID rfl
theorem bdO{K:TI→Prop}:@tyW Tryz.prog 181 ⟨K⟩=K KQ:=qc bgP
theorem aCd:KQ.kd=Kd.oth:=ID rfl
theorem aqQ:KQ.kd.agg=false:=ID rfl
theorem akE:KQ.size=1:=ID rfl
theorem aej:KQ.bytes=8:=ID rfl
theorem aCb:qw KQ=True:=eq_true rfl
theorem aCc:zc KQ=[.v Value.nilFunc]:=ID rfl
theorem bdN{K:TI→Prop}:@tyW Tryz.prog 182 ⟨K⟩=K KP:=qc bgO
theorem aCa:KP.kd=Kd.oth:=ID rfl
theorem aqP:KP.kd.agg=false:=ID rfl
theorem akD:KP.size=1:=ID rfl
theorem aei:KP.bytes=8:=ID rfl
theorem aB8:qw KP=True:=eq_true rfl
theorem aB9:zc KP=[.v Value.nilFunc]:=ID rfl
theorem bdM{K:TI→Prop}:@tyW Tryz.prog 183 ⟨K⟩=K KO:=qc bgN
theorem aB7:KO.kd=Kd.oth:=ID rfl
theorem aqO:KO.kd.agg=false:=ID rfl
theorem akC:KO.size=1:=ID rfl
theorem aeh:KO.bytes=8:=ID rfl
theorem aB5:qw KO=True:=eq_true rfl
theorem aB6:zc KO=[.v Value.nilFunc]:=ID rfl
theorem bdL{K:TI→Prop}:@tyW Tryz.prog 184 ⟨K⟩=K KN:=qc bgM
theorem aB4:KN.kd=Kd.oth:=ID rfl
theorem aqN:KN.kd.agg=false:=ID rfl
theorem akB:KN.size=1:=ID rfl
theorem aeg:KN.bytes=8:=ID rfl
theorem aB2:qw KN=True:=eq_true rfl
theorem aB3:zc KN=[.v Value.nilFunc]:=ID rfl
theorem bdK{K:TI→Prop}:@tyW Tryz.prog 185 ⟨K⟩=K KM:=qc bgL
theorem aB1:KM.kd=Kd.oth:=ID rfl
theorem aqM:KM.kd.agg=false:=ID rfl
theorem akA:KM.size=1:=ID rfl
theorem aef:KM.bytes=8:=ID rfl
theorem aBZ:qw KM=True:=eq_true rfl
theorem aB0:zc KM=[.v Value.nilFunc]:=ID rfl
theorem bdJ{K:TI→Prop}:@tyW Tryz.prog 186 ⟨K⟩=K KL:=qc bgK
theorem aBY:KL.kd=Kd.oth:=ID rfl
theorem aqL:KL.kd.agg=false:=ID rfl
theorem akz:KL.size=1:=ID rfl
theorem aee:KL.bytes=8:=ID rfl
theorem aBW:qw KL=True:=eq_true rfl
theorem aBX:zc KL=[.v Value.nilFunc]:=ID rfl
theorem bdI{K:TI→Prop}:@tyW Tryz.prog 188 ⟨K⟩=K KK:=qc bgJ
theorem aBV:KK.kd=Kd.oth:=ID rfl
theorem aqK:KK.kd.agg=false:=ID rfl
theorem aky:KK.size=1:=ID rfl
theorem aed:KK.bytes=8:=ID rfl
theorem aBT:qw KK=True:=eq_true rfl
theorem aBU:zc KK=[.v Value.nilFunc]:=ID rfl
theorem bdH{K:TI→Prop}:@tyW Tryz.prog 189 ⟨K⟩=K KJ:=qc bgI
theorem aBS:KJ.kd=Kd.oth:=ID rfl
theorem aqJ:KJ.kd.agg=false:=ID rfl
theorem akx:KJ.size=1:=ID rfl
theorem aec:KJ.bytes=8:=ID rfl
theorem aBQ:qw KJ=True:=eq_true rfl
theorem aBR:zc KJ=[.v Value.nilFunc]:=ID rfl
theorem bdG{K:TI→Prop}:@tyW Tryz.prog 190 ⟨K⟩=K KI:=qc bgH
theorem aBP:KI.kd=Kd.oth:=ID rfl
theorem aqI:KI.kd.agg=false:=ID rfl
theorem akw:KI.size=1:=ID rfl
theorem aeb:KI.bytes=8:=ID rfl
theorem aBN:qw KI=True:=eq_true rfl
theorem aBO:zc KI=[.v Value.nilFunc]:=ID rfl
theorem bdF{K:TI→Prop}:@tyW Tryz.prog 191 ⟨K⟩=K KH:=qc bgG
theorem aBM:KH.kd=Kd.oth:=ID rfl
theorem aqH:KH.kd.agg=false:=ID rfl
theorem akv:KH.size=1:=ID rfl
theorem aea:KH.bytes=8:=ID rfl
theorem aBK:qw KH=True:=eq_true rfl
theorem aBL:zc KH=[.v Value.nilFunc]:=ID rfl
theorem bdE{K:TI→Prop}:@tyW Tryz.prog 192 ⟨K⟩=K KG:=qc bgF
theorem aBJ:KG.kd=Kd.oth:=ID rfl
theorem aqG:KG.kd.agg=false:=ID rfl
theorem aku:KG.size=1:=ID rfl
theorem ad9:KG.bytes=8:=ID rfl
theorem aBH:qw KG=True:=eq_true rfl
theorem aBI:zc KG=[.v Value.nilFunc]:=ID rfl
theorem bdD{K:TI→Prop}:@tyW Tryz.prog 193 ⟨K⟩=K KF:=qc bgE
theorem aBG:KF.kd=Kd.oth:=ID rfl
theorem aqF:KF.kd.agg=false:=ID rfl
theorem akt:KF.size=1:=ID rfl
theorem ad8:KF.bytes=8:=ID rfl
theorem aBE:qw KF=True:=eq_true rfl
theorem aBF:zc KF=[.v Value.nilFunc]:=ID rfl
theorem bdC{K:TI→Prop}:@tyW Tryz.prog 194 ⟨K⟩=K KE:=qc bgD
theorem aBD:KE.kd=Kd.oth:=ID rfl
theorem aqE:KE.kd.agg=false:=ID rfl
theorem aks:KE.size=1:=ID rfl
theorem ad7:KE.bytes=8:=ID rfl
theorem aBB:qw KE=True:=eq_true rfl
theorem aBC:zc KE=[.v Value.nilFunc]:=ID rfl
theorem bdB{K:TI→Prop}:@tyW Tryz.prog 195 ⟨K⟩=K KD:=qc aUs
theorem aBA:KD.kd=Kd.sli 108:=ID rfl
theorem aqD:KD.kd.agg=false:=ID rfl
theorem akr:KD.size=1:=ID rfl
theorem ad6:KD.bytes=24:=ID rfl
theorem aBy:qw KD=True:=eq_true rfl
theorem aBz:zc KD=[.v (Value.slice none 0 0)]:=ID rfl
theorem aUJ{K:TI→Prop}:@Qh Tryz.prog 195 ⟨K⟩=K Qq:=Zy aUs rfl YZ
theorem bdA{K:TI→Prop}:@tyW Tryz.prog 196 ⟨K⟩=K KC:=qc bgC
theorem aBx:KC.kd=Kd.oth:=ID rfl
theorem aqC:KC.kd.agg=false:=ID rfl
theorem akq:KC.size=1:=ID rfl
theorem ad5:KC.bytes=8:=ID rfl
theorem aBv:qw KC=True:=eq_true rfl
theorem aBw:zc KC=[.v Value.nilFunc]:=ID rfl
theorem bdz{K:TI→Prop}:@tyW Tryz.prog 197 ⟨K⟩=K KB:=qc bgB
theorem aBu:KB.kd=Kd.oth:=ID rfl
theorem aqB:KB.kd.agg=false:=ID rfl
theorem akp:KB.size=1:=ID rfl
theorem ad4:KB.bytes=8:=ID rfl
theorem aBs:qw KB=True:=eq_true rfl
theorem aBt:zc KB=[.v Value.nilFunc]:=ID rfl
theorem bdy{K:TI→Prop}:@tyW Tryz.prog 198 ⟨K⟩=K KA:=qc bgA
theorem aBr:KA.kd=Kd.oth:=ID rfl
theorem aqA:KA.kd.agg=false:=ID rfl
theorem ako:KA.size=1:=ID rfl
theorem ad3:KA.bytes=8:=ID rfl
theorem aBp:qw KA=True:=eq_true rfl
theorem aBq:zc KA=[.v Value.nilFunc]:=ID rfl
theorem bdx{K:TI→Prop}:@tyW Tryz.prog 200 ⟨K⟩=K Kw:=qc bgz
theorem aBn:Kw.kd=Kd.oth:=ID rfl
theorem aqy:Kw.kd.agg=false:=ID rfl
theorem akn:Kw.size=1:=ID rfl
theorem ad2:Kw.bytes=8:=ID rfl
theorem aBl:qw Kw=True:=eq_true rfl
theorem aBm:zc Kw=[.v Value.nilFunc]:=ID rfl
theorem bdw{K:TI→Prop}:@tyW Tryz.prog 201 ⟨K⟩=K Kv:=qc bgy
theorem aBk:Kv.kd=Kd.oth:=ID rfl
theorem aqx:Kv.kd.agg=false:=ID rfl
theorem akm:Kv.size=1:=ID rfl
theorem ad1:Kv.bytes=8:=ID rfl
theorem aBi:qw Kv=True:=eq_true rfl
theorem aBj:zc Kv=[.v Value.nilFunc]:=ID rfl
theorem bdv{K:TI→Prop}:@tyW Tryz.prog 202 ⟨K⟩=K Ku:=qc bgx
theorem aBh:Ku.kd=Kd.oth:=ID rfl
theorem aqw:Ku.kd.agg=false:=ID rfl
theorem akl:Ku.size=1:=ID rfl
theorem ad0:Ku.bytes=8:=ID rfl
theorem aBf:qw Ku=True:=eq_true rfl
theorem aBg:zc Ku=[.v Value.nilFunc]:=ID rfl
theorem bdu{K:TI→Prop}:@tyW Tryz.prog 204 ⟨K⟩=K Kt:=qc bgw
theorem aBe:Kt.kd=Kd.oth:=ID rfl
theorem aqv:Kt.kd.agg=false:=ID rfl
theorem akk:Kt.size=1:=ID rfl
theorem adY:Kt.bytes=8:=ID rfl
theorem aBc:qw Kt=True:=eq_true rfl
theorem aBd:zc Kt=[.v Value.nilFunc]:=ID rfl
theorem bdt{K:TI→Prop}:@tyW Tryz.prog 206 ⟨K⟩=K Ks:=qc bgv
theorem aBb:Ks.kd=Kd.oth:=ID rfl
theorem aqu:Ks.kd.agg=false:=ID rfl
theorem akj:Ks.size=1:=ID rfl
theorem adX:Ks.bytes=8:=ID rfl
theorem aA9:qw Ks=True:=eq_true rfl
theorem aBa:zc Ks=[.v Value.nilFunc]:=ID rfl
theorem bds{K:TI→Prop}:@tyW Tryz.prog 207 ⟨K⟩=K Kr:=qc bgu
theorem aA8:Kr.kd=Kd.oth:=ID rfl
theorem aqt:Kr.kd.agg=false:=ID rfl
theorem aki:Kr.size=1:=ID rfl
theorem adW:Kr.bytes=8:=ID rfl
theorem aA6:qw Kr=True:=eq_true rfl
theorem aA7:zc Kr=[.v Value.nilFunc]:=ID rfl
theorem bdr{K:TI→Prop}:@tyW Tryz.prog 208 ⟨K⟩=K Kq:=qc bgt
theorem aA5:Kq.kd=Kd.oth:=ID rfl
theorem aqs:Kq.kd.agg=false:=ID rfl
theorem akh:Kq.size=1:=ID rfl
theorem adV:Kq.bytes=8:=ID rfl
theorem aA3:qw Kq=True:=eq_true rfl
theorem aA4:zc Kq=[.v Value.nilFunc]:=ID rfl
theorem bdq{K:TI→Prop}:@tyW Tryz.prog 209 ⟨K⟩=K Kp:=qc bgs
theorem aA2:Kp.kd=Kd.oth:=ID rfl
theorem aqr:Kp.kd.agg=false:=ID rfl
theorem akg:Kp.size=1:=ID rfl
theorem adU:Kp.bytes=8:=ID rfl
theorem aA0:qw Kp=True:=eq_true rfl
theorem aA1:zc Kp=[.v Value.nilFunc]:=ID rfl
theorem bdp{K:TI→Prop}:@tyW Tryz.prog 210 ⟨K⟩=K Ko:=qc bgr
theorem aAZ:Ko.kd=Kd.oth:=ID rfl
theorem aqq:Ko.kd.agg=false:=ID rfl
theorem akf:Ko.size=1:=ID rfl
theorem adT:Ko.bytes=8:=ID rfl
theorem aAX:qw Ko=True:=eq_true rfl
theorem aAY:zc Ko=[.v Value.nilFunc]:=ID rfl
theorem bdo{K:TI→Prop}:@tyW Tryz.prog 211 ⟨K⟩=K Kn:=qc bgq
theorem aAW:Kn.kd=Kd.oth:=ID rfl
theorem aqp:Kn.kd.agg=false:=ID rfl
theorem ake:Kn.size=1:=ID rfl
theorem adR:Kn.bytes=8:=ID rfl
theorem aAU:qw Kn=True:=eq_true rfl
theorem aAV:zc Kn=[.v Value.nilFunc]:=ID rfl
theorem bdn{K:TI→Prop}:@tyW Tryz.prog 213 ⟨K⟩=K Km:=qc bgp
theorem aAT:Km.kd=Kd.oth:=ID rfl
theorem aqo:Km.kd.agg=false:=ID rfl
theorem akd:Km.size=1:=ID rfl
theorem adQ:Km.bytes=8:=ID rfl
theorem aAR:qw Km=True:=eq_true rfl
theorem aAS:zc Km=[.v Value.nilFunc]:=ID rfl
theorem bdm{K:TI→Prop}:@tyW Tryz.prog 214 ⟨K⟩=K Kl:=qc bgo
theorem aAQ:Kl.kd=Kd.oth:=ID rfl
theorem aqn:Kl.kd.agg=false:=ID rfl
theorem akc:Kl.size=1:=ID rfl
theorem adP:Kl.bytes=8:=ID rfl
theorem aAO:qw Kl=True:=eq_true rfl
theorem aAP:zc Kl=[.v Value.nilFunc]:=ID rfl
theorem bdl{K:TI→Prop}:@tyW Tryz.prog 215 ⟨K⟩=K Kk:=qc bgn
theorem aAN:Kk.kd=Kd.oth:=ID rfl
theorem aqm:Kk.kd.agg=false:=ID rfl
theorem akb:Kk.size=1:=ID rfl
theorem adO:Kk.bytes=8:=ID rfl
theorem aAL:qw Kk=True:=eq_true rfl
theorem aAM:zc Kk=[.v Value.nilFunc]:=ID rfl
theorem bdk{K:TI→Prop}:@tyW Tryz.prog 216 ⟨K⟩=K Kj:=qc bgm
theorem aAK:Kj.kd=Kd.oth:=ID rfl
theorem aql:Kj.kd.agg=false:=ID rfl
theorem aka:Kj.size=1:=ID rfl
theorem adN:Kj.bytes=8:=ID rfl
theorem aAI:qw Kj=True:=eq_true rfl
theorem aAJ:zc Kj=[.v Value.nilFunc]:=ID rfl
theorem bdj{K:TI→Prop}:@tyW Tryz.prog 217 ⟨K⟩=K Ki:=qc bgl
theorem aAH:Ki.kd=Kd.oth:=ID rfl
theorem aqk:Ki.kd.agg=false:=ID rfl
theorem aj9:Ki.size=1:=ID rfl
theorem adL:Ki.bytes=8:=ID rfl
theorem aAF:qw Ki=True:=eq_true rfl
theorem aAG:zc Ki=[.v Value.nilFunc]:=ID rfl
theorem bdi{K:TI→Prop}:@tyW Tryz.prog 218 ⟨K⟩=K Kh:=qc bgk
theorem aAE:Kh.kd=Kd.oth:=ID rfl
theorem aqj:Kh.kd.agg=false:=ID rfl
theorem aj8:Kh.size=1:=ID rfl
theorem adK:Kh.bytes=8:=ID rfl
theorem aAC:qw Kh=True:=eq_true rfl
theorem aAD:zc Kh=[.v Value.nilFunc]:=ID rfl
theorem bdh{K:TI→Prop}:@tyW Tryz.prog 219 ⟨K⟩=K Kg:=qc bgj
theorem aAB:Kg.kd=Kd.oth:=ID rfl
theorem aqi:Kg.kd.agg=false:=ID rfl
theorem aj7:Kg.size=1:=ID rfl
theorem adJ:Kg.bytes=8:=ID rfl
theorem aAz:qw Kg=True:=eq_true rfl
theorem aAA:zc Kg=[.v Value.nilFunc]:=ID rfl
theorem bdg{K:TI→Prop}:@tyW Tryz.prog 220 ⟨K⟩=K Kf:=qc bgi
theorem aAx:Kf.kd=Kd.oth:=ID rfl
theorem aqg:Kf.kd.agg=false:=ID rfl
theorem aj5:Kf.size=1:=ID rfl
theorem adI:Kf.bytes=8:=ID rfl
theorem aAv:qw Kf=True:=eq_true rfl
theorem aAw:zc Kf=[.v Value.nilFunc]:=ID rfl
theorem bdf{K:TI→Prop}:@tyW Tryz.prog 221 ⟨K⟩=K Ke:=qc bgh
theorem aAu:Ke.kd=Kd.oth:=ID rfl
theorem aqf:Ke.kd.agg=false:=ID rfl
theorem aj4:Ke.size=1:=ID rfl
theorem adH:Ke.bytes=8:=ID rfl
theorem aAs:qw Ke=True:=eq_true rfl
theorem aAt:zc Ke=[.v Value.nilFunc]:=ID rfl
theorem bde{K:TI→Prop}:@tyW Tryz.prog 222 ⟨K⟩=K Kc:=qc bgg
theorem aAr:Kc.kd=Kd.oth:=ID rfl
theorem aqe:Kc.kd.agg=false:=ID rfl
theorem aj3:Kc.size=1:=ID rfl
theorem adG:Kc.bytes=8:=ID rfl
theorem aAp:qw Kc=True:=eq_true rfl
theorem aAq:zc Kc=[.v Value.nilFunc]:=ID rfl
theorem bdd{K:TI→Prop}:@tyW Tryz.prog 223 ⟨K⟩=K Ka:=qc bgf
theorem aAo:Ka.kd=Kd.oth:=ID rfl
theorem aqd:Ka.kd.agg=false:=ID rfl
theorem aj2:Ka.size=1:=ID rfl
theorem adF:Ka.bytes=8:=ID rfl
theorem aAm:qw Ka=True:=eq_true rfl
theorem aAn:zc Ka=[.v Value.nilFunc]:=ID rfl
theorem bdc{K:TI→Prop}:@tyW Tryz.prog 224 ⟨K⟩=K V9:=qc bge
theorem aAl:V9.kd=Kd.oth:=ID rfl
theorem aqc:V9.kd.agg=false:=ID rfl
theorem aj1:V9.size=1:=ID rfl
theorem adE:V9.bytes=8:=ID rfl
theorem aAj:qw V9=True:=eq_true rfl
theorem aAk:zc V9=[.v Value.nilFunc]:=ID rfl
theorem bdb{K:TI→Prop}:@tyW Tryz.prog 225 ⟨K⟩=K V8:=qc bgd
theorem aAi:V8.kd=Kd.oth:=ID rfl
theorem aqb:V8.kd.agg=false:=ID rfl
theorem aj0:V8.size=1:=ID rfl
theorem adD:V8.bytes=8:=ID rfl
theorem aAg:qw V8=True:=eq_true rfl
theorem aAh:zc V8=[.v Value.nilFunc]:=ID rfl
theorem bda{K:TI→Prop}:@tyW Tryz.prog 226 ⟨K⟩=K V7:=qc bgc
theorem aAf:V7.kd=Kd.oth:=ID rfl
theorem aqa:V7.kd.agg=false:=ID rfl
theorem ajZ:V7.size=1:=ID rfl
theorem adC:V7.bytes=8:=ID rfl
theorem aAd:qw V7=True:=eq_true rfl
theorem aAe:zc V7=[.v Value.nilFunc]:=ID rfl
theorem bc9{K:TI→Prop}:@tyW Tryz.prog 227 ⟨K⟩=K V6:=qc bgb
theorem aAc:V6.kd=Kd.oth:=ID rfl
theorem ap9:V6.kd.agg=false:=ID rfl
theorem ajY:V6.size=1:=ID rfl
theorem adB:V6.bytes=8:=ID rfl
theorem aAa:qw V6=True:=eq_true rfl
theorem aAb:zc V6=[.v Value.nilFunc]:=ID rfl
theorem bc8{K:TI→Prop}:@tyW Tryz.prog 228 ⟨K⟩=K V5:=qc bga
theorem az9:V5.kd=Kd.oth:=ID rfl
theorem ap8:V5.kd.agg=false:=ID rfl
theorem ajX:V5.size=1:=ID rfl
theorem adA:V5.bytes=8:=ID rfl
theorem az7:qw V5=True:=eq_true rfl
theorem az8:zc V5=[.v Value.nilFunc]:=ID rfl
theorem bc7{K:TI→Prop}:@tyW Tryz.prog 229 ⟨K⟩=K V4:=qc bf9
theorem az6:V4.kd=Kd.oth:=ID rfl
theorem ap7:V4.kd.agg=false:=ID rfl
theorem ajW:V4.size=1:=ID rfl
theorem adz:V4.bytes=8:=ID rfl
theorem az4:qw V4=True:=eq_true rfl
theorem az5:zc V4=[.v Value.nilFunc]:=ID rfl
theorem bc6{K:TI→Prop}:@tyW Tryz.prog 230 ⟨K⟩=K V3:=qc bf8
theorem az2:V3.kd=Kd.oth:=ID rfl
theorem ap5:V3.kd.agg=false:=ID rfl
theorem ajU:V3.size=1:=ID rfl
theorem ady:V3.bytes=8:=ID rfl
theorem az0:qw V3=True:=eq_true rfl
theorem az1:zc V3=[.v Value.nilFunc]:=ID rfl
theorem bc5{K:TI→Prop}:@tyW Tryz.prog 231 ⟨K⟩=K V2:=qc bf7
theorem azZ:V2.kd=Kd.oth:=ID rfl
theorem ap4:V2.kd.agg=false:=ID rfl
theorem ajT:V2.size=1:=ID rfl
theorem adx:V2.bytes=8:=ID rfl
theorem azX:qw V2=True:=eq_true rfl
theorem azY:zc V2=[.v Value.nilFunc]:=ID rfl
theorem bc4{K:TI→Prop}:@tyW Tryz.prog 233 ⟨K⟩=K V1:=qc bf6
theorem azW:V1.kd=Kd.oth:=ID rfl
theorem ap3:V1.kd.agg=false:=ID rfl
theorem ajS:V1.size=1:=ID rfl
theorem adw:V1.bytes=8:=ID rfl
theorem azU:qw V1=True:=eq_true rfl
theorem azV:zc V1=[.v Value.nilFunc]:=ID rfl
theorem bc3{K:TI→Prop}:@tyW Tryz.prog 234 ⟨K⟩=K V0:=qc bf5
theorem azT:V0.kd=Kd.oth:=ID rfl
theorem ap2:V0.kd.agg=false:=ID rfl
theorem ajR:V0.size=1:=ID rfl
theorem adv:V0.bytes=8:=ID rfl
theorem azR:qw V0=True:=eq_true rfl
theorem azS:zc V0=[.v Value.nilFunc]:=ID rfl
theorem bc2{K:TI→Prop}:@tyW Tryz.prog 235 ⟨K⟩=K VZ:=qc bf4
theorem azQ:VZ.kd=Kd.oth:=ID rfl
theorem ap1:VZ.kd.agg=false:=ID rfl
theorem ajQ:VZ.size=1:=ID rfl
theorem adu:VZ.bytes=8:=ID rfl
theorem azO:qw VZ=True:=eq_true rfl
theorem azP:zc VZ=[.v Value.nilFunc]:=ID rfl
theorem bc1{K:TI→Prop}:@tyW Tryz.prog 236 ⟨K⟩=K VY:=qc bf3
theorem azN:VY.kd=Kd.oth:=ID rfl
theorem ap0:VY.kd.agg=false:=ID rfl
theorem ajP:VY.size=1:=ID rfl
theorem adt:VY.bytes=8:=ID rfl
theorem azL:qw VY=True:=eq_true rfl
theorem azM:zc VY=[.v Value.nilFunc]:=ID rfl
theorem bc0{K:TI→Prop}:@tyW Tryz.prog 237 ⟨K⟩=K VX:=qc bf2
theorem azK:VX.kd=Kd.oth:=ID rfl
theorem apZ:VX.kd.agg=false:=ID rfl
theorem ajO:VX.size=1:=ID rfl
theorem ads:VX.bytes=8:=ID rfl
theorem azI:qw VX=True:=eq_true rfl
theorem azJ:zc VX=[.v Value.nilFunc]:=ID rfl
theorem bcZ{K:TI→Prop}:@tyW Tryz.prog 238 ⟨K⟩=K VW:=qc bf1
theorem azH:VW.kd=Kd.oth:=ID rfl
theorem apY:VW.kd.agg=false:=ID rfl
theorem ajN:VW.size=1:=ID rfl
theorem adr:VW.bytes=8:=ID rfl
theorem azF:qw VW=True:=eq_true rfl
theorem azG:zc VW=[.v Value.nilFunc]:=ID rfl
theorem bcY{K:TI→Prop}:@tyW Tryz.prog 239 ⟨K⟩=K VV:=qc bf0
theorem azE:VV.kd=Kd.oth:=ID rfl
theorem apX:VV.kd.agg=false:=ID rfl
theorem ajM:VV.size=1:=ID rfl
theorem adq:VV.bytes=8:=ID rfl
theorem azC:qw VV=True:=eq_true rfl
theorem azD:zc VV=[.v Value.nilFunc]:=ID rfl
theorem bcX{K:TI→Prop}:@tyW Tryz.prog 240 ⟨K⟩=K VU:=qc bfZ
theorem azA:VU.kd=Kd.oth:=ID rfl
theorem apU:VU.kd.agg=false:=ID rfl
theorem ajK:VU.size=1:=ID rfl
theorem adp:VU.bytes=8:=ID rfl
theorem azy:qw VU=True:=eq_true rfl
theorem azz:zc VU=[.v Value.nilFunc]:=ID rfl
theorem bcW{K:TI→Prop}:@tyW Tryz.prog 241 ⟨K⟩=K VT:=qc bfY
theorem azx:VT.kd=Kd.oth:=ID rfl
theorem apT:VT.kd.agg=false:=ID rfl
theorem ajJ:VT.size=1:=ID rfl
theorem ado:VT.bytes=8:=ID rfl
theorem azv:qw VT=True:=eq_true rfl
theorem azw:zc VT=[.v Value.nilFunc]:=ID rfl
theorem bcV{K:TI→Prop}:@tyW Tryz.prog 242 ⟨K⟩=K VS:=qc bfX
theorem azu:VS.kd=Kd.oth:=ID rfl
theorem apS:VS.kd.agg=false:=ID rfl
theorem ajI:VS.size=1:=ID rfl
theorem adn:VS.bytes=8:=ID rfl
theorem azs:qw VS=True:=eq_true rfl
theorem azt:zc VS=[.v Value.nilFunc]:=ID rfl
theorem bcU{K:TI→Prop}:@tyW Tryz.prog 243 ⟨K⟩=K VR:=qc bfW
theorem azr:VR.kd=Kd.oth:=ID rfl
theorem apR:VR.kd.agg=false:=ID rfl
theorem ajH:VR.size=1:=ID rfl
theorem adm:VR.bytes=8:=ID rfl
theorem azp:qw VR=True:=eq_true rfl
theorem azq:zc VR=[.v Value.nilFunc]:=ID rfl
theorem bcT{K:TI→Prop}:@tyW Tryz.prog 244 ⟨K⟩=K VQ:=qc bfV
theorem azo:VQ.kd=Kd.oth:=ID rfl
theorem apQ:VQ.kd.agg=false:=ID rfl
theorem ajG:VQ.size=1:=ID rfl
theorem adl:VQ.bytes=8:=ID rfl
theorem azm:qw VQ=True:=eq_true rfl
theorem azn:zc VQ=[.v Value.nilFunc]:=ID rfl
theorem bcS{K:TI→Prop}:@tyW Tryz.prog 245 ⟨K⟩=K VP:=qc bfU
theorem azl:VP.kd=Kd.oth:=ID rfl
theorem apP:VP.kd.agg=false:=ID rfl
theorem ajF:VP.size=1:=ID rfl
theorem adk:VP.bytes=8:=ID rfl
theorem azj:qw VP=True:=eq_true rfl
theorem azk:zc VP=[.v Value.nilFunc]:=ID rfl
theorem bcR{K:TI→Prop}:@tyW Tryz.prog 246 ⟨K⟩=K VO:=qc bfT
theorem azi:VO.kd=Kd.oth:=ID rfl
theorem apO:VO.kd.agg=false:=ID rfl
theorem ajE:VO.size=1:=ID rfl
theorem adj:VO.bytes=8:=ID rfl
theorem azg:qw VO=True:=eq_true rfl
theorem azh:zc VO=[.v Value.nilFunc]:=ID rfl
theorem bcQ{K:TI→Prop}:@tyW Tryz.prog 247 ⟨K⟩=K VN:=qc bfS
theorem azf:VN.kd=Kd.oth:=ID rfl
theorem apN:VN.kd.agg=false:=ID rfl
theorem ajD:VN.size=1:=ID rfl
theorem adi:VN.bytes=8:=ID rfl
theorem azd:qw VN=True:=eq_true rfl
theorem aze:zc VN=[.v Value.nilFunc]:=ID rfl
theorem bcP{K:TI→Prop}:@tyW Tryz.prog 248 ⟨K⟩=K VM:=qc bfR
theorem azc:VM.kd=Kd.oth:=ID rfl
theorem apM:VM.kd.agg=false:=ID rfl
theorem ajC:VM.size=1:=ID rfl
theorem adh:VM.bytes=8:=ID rfl
theorem aza:qw VM=True:=eq_true rfl
theorem azb:zc VM=[.v Value.nilFunc]:=ID rfl
theorem bcO{K:TI→Prop}:@tyW Tryz.prog 250 ⟨K⟩=K VL:=qc bfQ
theorem ay8:VL.kd=Kd.oth:=ID rfl
theorem apJ:VL.kd.agg=false:=ID rfl
theorem ajA:VL.size=1:=ID rfl
theorem adg:VL.bytes=8:=ID rfl
theorem ay6:qw VL=True:=eq_true rfl
theorem ay7:zc VL=[.v Value.nilFunc]:=ID rfl
theorem bcN{K:TI→Prop}:@tyW Tryz.prog 252 ⟨K⟩=K VK:=qc bfP
theorem ay5:VK.kd=Kd.oth:=ID rfl
theorem apI:VK.kd.agg=false:=ID rfl
theorem ajz:VK.size=1:=ID rfl
theorem adf:VK.bytes=8:=ID rfl
theorem ay3:qw VK=True:=eq_true rfl
theorem ay4:zc VK=[.v Value.nilFunc]:=ID rfl
theorem bcM{K:TI→Prop}:@tyW Tryz.prog 253 ⟨K⟩=K VJ:=qc bfO
theorem ay2:VJ.kd=Kd.oth:=ID rfl
theorem apH:VJ.kd.agg=false:=ID rfl
theorem ajy:VJ.size=1:=ID rfl
theorem ade:VJ.bytes=8:=ID rfl
theorem ay0:qw VJ=True:=eq_true rfl
theorem ay1:zc VJ=[.v Value.nilFunc]:=ID rfl
theorem bcL{K:TI→Prop}:@tyW Tryz.prog 254 ⟨K⟩=K VI:=qc bfN
theorem ayZ:VI.kd=Kd.oth:=ID rfl
theorem apG:VI.kd.agg=false:=ID rfl
theorem ajx:VI.size=1:=ID rfl
theorem adc:VI.bytes=8:=ID rfl
theorem ayX:qw VI=True:=eq_true rfl
theorem ayY:zc VI=[.v Value.nilFunc]:=ID rfl
theorem bcK{K:TI→Prop}:@tyW Tryz.prog 255 ⟨K⟩=K VH:=qc bfM
theorem ayW:VH.kd=Kd.oth:=ID rfl
theorem apF:VH.kd.agg=false:=ID rfl
theorem ajw:VH.size=1:=ID rfl
theorem adb:VH.bytes=8:=ID rfl
theorem ayU:qw VH=True:=eq_true rfl
theorem ayV:zc VH=[.v Value.nilFunc]:=ID rfl
theorem bcJ{K:TI→Prop}:@tyW Tryz.prog 256 ⟨K⟩=K VG:=qc bfL
theorem ayT:VG.kd=Kd.oth:=ID rfl
theorem apD:VG.kd.agg=false:=ID rfl
theorem ajv:VG.size=1:=ID rfl
theorem ada:VG.bytes=8:=ID rfl
theorem ayR:qw VG=True:=eq_true rfl
theorem ayS:zc VG=[.v Value.nilFunc]:=ID rfl
theorem bcI{K:TI→Prop}:@tyW Tryz.prog 257 ⟨K⟩=K VF:=qc bfK
theorem ayQ:VF.kd=Kd.oth:=ID rfl
theorem apC:VF.kd.agg=false:=ID rfl
theorem aju:VF.size=1:=ID rfl
theorem ac9:VF.bytes=8:=ID rfl
theorem ayO:qw VF=True:=eq_true rfl
theorem ayP:zc VF=[.v Value.nilFunc]:=ID rfl
theorem bcH{K:TI→Prop}:@tyW Tryz.prog 258 ⟨K⟩=K VE:=qc bfJ
theorem ayN:VE.kd=Kd.oth:=ID rfl
theorem apB:VE.kd.agg=false:=ID rfl
theorem ajt:VE.size=1:=ID rfl
theorem ac8:VE.bytes=8:=ID rfl
theorem ayL:qw VE=True:=eq_true rfl
theorem ayM:zc VE=[.v Value.nilFunc]:=ID rfl
theorem bcG{K:TI→Prop}:@tyW Tryz.prog 259 ⟨K⟩=K VD:=qc bfI
theorem ayK:VD.kd=Kd.oth:=ID rfl
theorem apA:VD.kd.agg=false:=ID rfl
theorem ajs:VD.size=1:=ID rfl
theorem ac7:VD.bytes=8:=ID rfl
theorem ayI:qw VD=True:=eq_true rfl
theorem ayJ:zc VD=[.v Value.nilFunc]:=ID rfl
theorem bcF{K:TI→Prop}:@tyW Tryz.prog 260 ⟨K⟩=K VC:=qc bfH
theorem ayG:VC.kd=Kd.oth:=ID rfl
theorem apy:VC.kd.agg=false:=ID rfl
theorem ajq:VC.size=1:=ID rfl
theorem ac6:VC.bytes=8:=ID rfl
theorem ayE:qw VC=True:=eq_true rfl
theorem ayF:zc VC=[.v Value.nilFunc]:=ID rfl
theorem bcE{K:TI→Prop}:@tyW Tryz.prog 261 ⟨K⟩=K VB:=qc bfG
theorem ayD:VB.kd=Kd.oth:=ID rfl
theorem apx:VB.kd.agg=false:=ID rfl
theorem ajp:VB.size=1:=ID rfl
theorem ac5:VB.bytes=8:=ID rfl
theorem ayB:qw VB=True:=eq_true rfl
theorem ayC:zc VB=[.v Value.nilFunc]:=ID rfl
theorem bcD{K:TI→Prop}:@tyW Tryz.prog 262 ⟨K⟩=K VA:=qc bfF
theorem ayA:VA.kd=Kd.oth:=ID rfl
theorem apw:VA.kd.agg=false:=ID rfl
theorem ajo:VA.size=1:=ID rfl
theorem ac4:VA.bytes=8:=ID rfl
theorem ayy:qw VA=True:=eq_true rfl
theorem ayz:zc VA=[.v Value.nilFunc]:=ID rfl
theorem bcC{K:TI→Prop}:@tyW Tryz.prog 263 ⟨K⟩=K Vz:=qc bfE
theorem ayx:Vz.kd=Kd.oth:=ID rfl
theorem apv:Vz.kd.agg=false:=ID rfl
theorem ajn:Vz.size=1:=ID rfl
theorem ac3:Vz.bytes=8:=ID rfl
theorem ayv:qw Vz=True:=eq_true rfl
theorem ayw:zc Vz=[.v Value.nilFunc]:=ID rfl
theorem bcB{K:TI→Prop}:@tyW Tryz.prog 264 ⟨K⟩=K Vy:=qc bfD
theorem ayu:Vy.kd=Kd.int IntKind.u64:=ID rfl
theorem apu:Vy.kd.agg=false:=ID rfl
theorem ajm:Vy.size=1:=ID rfl
theorem ac2:Vy.bytes=8:=ID rfl
theorem ays:qw Vy=True:=eq_true rfl
theorem ayt:zc Vy=[.v (Value.int IntKind.u64 0)]:=ID rfl
theorem bcA{K:TI→Prop}:@tyW Tryz.prog 265 ⟨K⟩=K Vx:=qc bfC
theorem ayr:Vx.kd=Kd.oth:=ID rfl
theorem apt:Vx.kd.agg=false:=ID rfl
theorem ajl:Vx.size=1:=ID rfl
theorem ac1:Vx.bytes=8:=ID rfl
theorem ayp:qw Vx=True:=eq_true rfl
theorem ayq:zc Vx=[.v Value.nilFunc]:=ID rfl
theorem bcz{K:TI→Prop}:@tyW Tryz.prog 266 ⟨K⟩=K Vw:=qc bfB
theorem ayo:Vw.kd=Kd.oth:=ID rfl
theorem apr:Vw.kd.agg=false:=ID rfl
theorem ajk:Vw.size=1:=ID rfl
theorem ac0:Vw.bytes=8:=ID rfl
theorem aym:qw Vw=True:=eq_true rfl
theorem ayn:zc Vw=[.v Value.nilFunc]:=ID rfl
theorem bcy{K:TI→Prop}:@tyW Tryz.prog 267 ⟨K⟩=K Vv:=qc bfA
theorem ayl:Vv.kd=Kd.oth:=ID rfl
theorem apq:Vv.kd.agg=false:=ID rfl
theorem ajj:Vv.size=1:=ID rfl
theorem acZ:Vv.bytes=8:=ID rfl
theorem ayj:qw Vv=True:=eq_true rfl
theorem ayk:zc Vv=[.v Value.nilFunc]:=ID rfl
theorem bcx{K:TI→Prop}:@tyW Tryz.prog 269 ⟨K⟩=K Vu:=qc bfz
theorem ayi:Vu.kd=Kd.oth:=ID rfl
theorem app:Vu.kd.agg=false:=ID rfl
theorem aji:Vu.size=1:=ID rfl
theorem acY:Vu.bytes=8:=ID rfl
theorem ayg:qw Vu=True:=eq_true rfl
theorem ayh:zc Vu=[.v Value.nilFunc]:=ID rfl
theorem bcw{K:TI→Prop}:@tyW Tryz.prog 271 ⟨K⟩=K Vt:=qc bfy
theorem ayf:Vt.kd=Kd.oth:=ID rfl
theorem apo:Vt.kd.agg=false:=ID rfl
theorem ajh:Vt.size=1:=ID rfl
theorem acX:Vt.bytes=8:=ID rfl
theorem ayd:qw Vt=True:=eq_true rfl
theorem aye:zc Vt=[.v Value.nilFunc]:=ID rfl
theorem bcv{K:TI→Prop}:@tyW Tryz.prog 273 ⟨K⟩=K Vs:=qc bfx
theorem ayc:Vs.kd=Kd.oth:=ID rfl
theorem apn:Vs.kd.agg=false:=ID rfl
theorem ajg:Vs.size=1:=ID rfl
theorem acW:Vs.bytes=8:=ID rfl
theorem aya:qw Vs=True:=eq_true rfl
theorem ayb:zc Vs=[.v Value.nilFunc]:=ID rfl
theorem bcu{K:TI→Prop}:@tyW Tryz.prog 274 ⟨K⟩=K Vr:=qc bfw
theorem ax9:Vr.kd=Kd.oth:=ID rfl
theorem apm:Vr.kd.agg=false:=ID rfl
theorem ajf:Vr.size=1:=ID rfl
theorem acV:Vr.bytes=8:=ID rfl
theorem ax7:qw Vr=True:=eq_true rfl
theorem ax8:zc Vr=[.v Value.nilFunc]:=ID rfl
theorem bct{K:TI→Prop}:@tyW Tryz.prog 275 ⟨K⟩=K Vq:=qc bfv
theorem ax6:Vq.kd=Kd.int IntKind.u32:=ID rfl
theorem apl:Vq.kd.agg=false:=ID rfl
theorem aje:Vq.size=1:=ID rfl
theorem acU:Vq.bytes=4:=ID rfl
theorem ax4:qw Vq=True:=eq_true rfl
theorem ax5:zc Vq=[.v (Value.int IntKind.u32 0)]:=ID rfl
theorem bcs{K:TI→Prop}:@tyW Tryz.prog 276 ⟨K⟩=K Vp:=qc bfu
theorem ax3:Vp.kd=Kd.oth:=ID rfl
theorem apk:Vp.kd.agg=false:=ID rfl
theorem ajd:Vp.size=1:=ID rfl
theorem acT:Vp.bytes=8:=ID rfl
theorem ax1:qw Vp=True:=eq_true rfl
theorem ax2:zc Vp=[.v Value.nilFunc]:=ID rfl
theorem bcr{K:TI→Prop}:@tyW Tryz.prog 277 ⟨K⟩=K Vo:=qc bft
theorem ax0:Vo.kd=Kd.int IntKind.u64:=ID rfl
theorem apj:Vo.kd.agg=false:=ID rfl
theorem ajc:Vo.size=1:=ID rfl
theorem acS:Vo.bytes=8:=ID rfl
theorem axY:qw Vo=True:=eq_true rfl
theorem axZ:zc Vo=[.v (Value.int IntKind.u64 0)]:=ID rfl
theorem bcq{K:TI→Prop}:@tyW Tryz.prog 278 ⟨K⟩=K Vn:=qc bfs
theorem axX:Vn.kd=Kd.oth:=ID rfl
theorem api:Vn.kd.agg=false:=ID rfl
theorem ajb:Vn.size=1:=ID rfl
theorem acR:Vn.bytes=8:=ID rfl
theorem axV:qw Vn=True:=eq_true rfl
theorem axW:zc Vn=[.v Value.nilFunc]:=ID rfl
theorem bcp{K:TI→Prop}:@tyW Tryz.prog 279 ⟨K⟩=K Vm:=qc bfr
theorem axU:Vm.kd=Kd.oth:=ID rfl
theorem aph:Vm.kd.agg=false:=ID rfl
theorem aja:Vm.size=1:=ID rfl
theorem acQ:Vm.bytes=8:=ID rfl
theorem axS:qw Vm=True:=eq_true rfl
theorem axT:zc Vm=[.v Value.nilFunc]:=ID rfl
theorem bco{K:TI→Prop}:@tyW Tryz.prog 281 ⟨K⟩=K Vl:=qc bfq
theorem axQ:Vl.kd=Kd.oth:=ID rfl
theorem apf:Vl.kd.agg=false:=ID rfl
theorem ai8:Vl.size=1:=ID rfl
theorem acP:Vl.bytes=8:=ID rfl
theorem axO:qw Vl=True:=eq_true rfl
theorem axP:zc Vl=[.v Value.nilFunc]:=ID rfl
theorem bcn{K:TI→Prop}:@tyW Tryz.prog 282 ⟨K⟩=K Vk:=qc bfp
theorem axN:Vk.kd=Kd.oth:=ID rfl
theorem ape:Vk.kd.agg=false:=ID rfl
theorem ai7:Vk.size=1:=ID rfl
theorem acO:Vk.bytes=8:=ID rfl
theorem axL:qw Vk=True:=eq_true rfl
theorem axM:zc Vk=[.v Value.nilFunc]:=ID rfl
theorem bcm{K:TI→Prop}:@tyW Tryz.prog 283 ⟨K⟩=K Vj:=qc bfo
theorem axK:Vj.kd=Kd.oth:=ID rfl
theorem apd:Vj.kd.agg=false:=ID rfl
theorem ai6:Vj.size=1:=ID rfl
theorem acN:Vj.bytes=8:=ID rfl
theorem axI:qw Vj=True:=eq_true rfl
theorem axJ:zc Vj=[.v Value.nilFunc]:=ID rfl
theorem bcl{K:TI→Prop}:@tyW Tryz.prog 287 ⟨K⟩=K Vi:=qc bfn
theorem axH:Vi.kd=Kd.oth:=ID rfl
theorem apc:Vi.kd.agg=false:=ID rfl
theorem ai5:Vi.size=1:=ID rfl
theorem acM:Vi.bytes=8:=ID rfl
theorem axF:qw Vi=True:=eq_true rfl
theorem axG:zc Vi=[.v Value.nilFunc]:=ID rfl
theorem bck{K:TI→Prop}:@tyW Tryz.prog 288 ⟨K⟩=K Vh:=qc bfm
theorem axE:Vh.kd=Kd.oth:=ID rfl
theorem apb:Vh.kd.agg=false:=ID rfl
theorem ai4:Vh.size=1:=ID rfl
theorem acL:Vh.bytes=8:=ID rfl
theorem axC:qw Vh=True:=eq_true rfl
theorem axD:zc Vh=[.v Value.nilFunc]:=ID rfl
theorem bcj{K:TI→Prop}:@tyW Tryz.prog 289 ⟨K⟩=K Vg:=qc bfl
theorem axB:Vg.kd=Kd.oth:=ID rfl
theorem apa:Vg.kd.agg=false:=ID rfl
theorem ai3:Vg.size=1:=ID rfl
theorem acK:Vg.bytes=8:=ID rfl
theorem axz:qw Vg=True:=eq_true rfl
theorem axA:zc Vg=[.v Value.nilFunc]:=ID rfl
theorem bci{K:TI→Prop}:@tyW Tryz.prog 290 ⟨K⟩=K Vf:=qc bfk
theorem axx:Vf.kd=Kd.oth:=ID rfl
theorem ao7:Vf.kd.agg=false:=ID rfl
theorem ai1:Vf.size=1:=ID rfl
theorem acJ:Vf.bytes=8:=ID rfl
theorem axv:qw Vf=True:=eq_true rfl
theorem axw:zc Vf=[.v Value.nilFunc]:=ID rfl
theorem bch{K:TI→Prop}:@tyW Tryz.prog 291 ⟨K⟩=K Ve:=qc bfj
theorem axu:Ve.kd=Kd.oth:=ID rfl
theorem ao6:Ve.kd.agg=false:=ID rfl
theorem ai0:Ve.size=1:=ID rfl
theorem acI:Ve.bytes=8:=ID rfl
theorem axs:qw Ve=True:=eq_true rfl
theorem axt:zc Ve=[.v Value.nilFunc]:=ID rfl
theorem bcg{K:TI→Prop}:@tyW Tryz.prog 295 ⟨K⟩=K Vd:=qc bfi
theorem axr:Vd.kd=Kd.stru [(0,294)]:=ID rfl
theorem ao5:Vd.kd.agg=true:=ID rfl
theorem aiZ:Vd.size=0:=ID rfl
theorem acH:Vd.bytes=0:=ID rfl
theorem axp:qw Vd=True:=eq_true rfl
theorem axq:zc Vd=[]:=ID rfl
theorem bcf{K:TI→Prop}:@tyW Tryz.prog 296 ⟨K⟩=K Vc:=qc bfh
theorem axo:Vc.kd=Kd.stru [(0,294)]:=ID rfl
theorem ao4:Vc.kd.agg=true:=ID rfl
theorem aiY:Vc.size=0:=ID rfl
theorem acG:Vc.bytes=0:=ID rfl
theorem axm:qw Vc=True:=eq_true rfl
theorem axn:zc Vc=[]:=ID rfl
theorem bce{K:TI→Prop}:@tyW Tryz.prog 297 ⟨K⟩=K Vb:=qc bfg
theorem axl:Vb.kd=Kd.int IntKind.u8:=ID rfl
theorem ao3:Vb.kd.agg=false:=ID rfl
theorem aiX:Vb.size=1:=ID rfl
theorem acF:Vb.bytes=1:=ID rfl
theorem axj:qw Vb=True:=eq_true rfl
theorem axk:zc Vb=[.v (Value.int IntKind.u8 0)]:=ID rfl
theorem bcd{K:TI→Prop}:@tyW Tryz.prog 298 ⟨K⟩=K Va:=qc bff
theorem axi:Va.kd=Kd.int IntKind.u8:=ID rfl
theorem ao2:Va.kd.agg=false:=ID rfl
theorem aiW:Va.size=1:=ID rfl
theorem acE:Va.bytes=1:=ID rfl
theorem axg:qw Va=True:=eq_true rfl
theorem axh:zc Va=[.v (Value.int IntKind.u8 0)]:=ID rfl
theorem bcc{K:TI→Prop}:@tyW Tryz.prog 299 ⟨K⟩=K X9:=qc bfe
theorem axf:X9.kd=Kd.oth:=ID rfl
theorem ao1:X9.kd.agg=false:=ID rfl
theorem aiV:X9.size=1:=ID rfl
theorem acD:X9.bytes=8:=ID rfl
theorem axd:qw X9=True:=eq_true rfl
theorem axe:zc X9=[.v Value.nilFunc]:=ID rfl
theorem bcb{K:TI→Prop}:@tyW Tryz.prog 301 ⟨K⟩=K X8:=qc bfd
theorem axa:X8.kd=Kd.int IntKind.i32:=ID rfl
theorem aoX:X8.kd.agg=false:=ID rfl
theorem aiT:X8.size=1:=ID rfl
theorem acC:X8.bytes=4:=ID rfl
theorem aw8:qw X8=True:=eq_true rfl
theorem aw9:zc X8=[.v (Value.int IntKind.i32 0)]:=ID rfl
theorem bca{K:TI→Prop}:@tyW Tryz.prog 302 ⟨K⟩=K X7:=qc bfc
theorem aw7:X7.kd=Kd.int IntKind.i32:=ID rfl
theorem aoW:X7.kd.agg=false:=ID rfl
theorem aiS:X7.size=1:=ID rfl
theorem acB:X7.bytes=4:=ID rfl
theorem aw5:qw X7=True:=eq_true rfl
theorem aw6:zc X7=[.v (Value.int IntKind.i32 0)]:=ID rfl
theorem bb9{K:TI→Prop}:@tyW Tryz.prog 305 ⟨K⟩=K X6:=qc bfb
theorem aw4:X6.kd=Kd.oth:=ID rfl
theorem aoV:X6.kd.agg=false:=ID rfl
theorem aiR:X6.size=1:=ID rfl
theorem acA:X6.bytes=8:=ID rfl
theorem aw2:qw X6=True:=eq_true rfl
theorem aw3:zc X6=[.v Value.nilFunc]:=ID rfl
theorem bb8{K:TI→Prop}:@tyW Tryz.prog 306 ⟨K⟩=K X5:=qc bfa
theorem aw1:X5.kd=Kd.oth:=ID rfl
theorem aoU:X5.kd.agg=false:=ID rfl
theorem aiQ:X5.size=1:=ID rfl
theorem acz:X5.bytes=8:=ID rfl
theorem awZ:qw X5=True:=eq_true rfl
theorem aw0:zc X5=[.v Value.nilFunc]:=ID rfl
theorem bnN:qo Tryz.prog 2=True:=eq_true ⟨_,Tryz.func2,of_decide_eq_false (by kernel_rfl),rfl⟩
theorem bnM:qo Tryz.prog 3=True:=eq_true ⟨_,Tryz.func3,of_decide_eq_false (by kernel_rfl),rfl⟩
theorem bnL:qo Tryz.prog 4=True:=eq_true ⟨_,Tryz.func4,of_decide_eq_false (by kernel_rfl),rfl⟩
theorem bnK:qo Tryz.prog 5=True:=eq_true ⟨_,Tryz.func5,of_decide_eq_false (by kernel_rfl),rfl⟩
theorem bnJ:qo Tryz.prog 6=True:=eq_true ⟨_,Tryz.func6,of_decide_eq_false (by kernel_rfl),rfl⟩
theorem bnI:qo Tryz.prog 7=True:=eq_true ⟨_,Tryz.func7,of_decide_eq_false (by kernel_rfl),rfl⟩
theorem bnH:qo Tryz.prog 8=True:=eq_true ⟨_,Tryz.func8,of_decide_eq_false (by kernel_rfl),rfl⟩
theorem bnG:qo Tryz.prog 9=True:=eq_true ⟨_,Tryz.func9,of_decide_eq_false (by kernel_rfl),rfl⟩
theorem bkf:qo Tryz.prog 10=True:=eq_true ⟨_,Tryz.func10,of_decide_eq_false (by kernel_rfl),rfl⟩
theorem bke:qo Tryz.prog 11=True:=eq_true ⟨_,Tryz.func11,of_decide_eq_false (by kernel_rfl),rfl⟩
theorem bkd:qo Tryz.prog 12=True:=eq_true ⟨_,Tryz.func12,of_decide_eq_false (by kernel_rfl),rfl⟩
theorem bkc:qo Tryz.prog 13=True:=eq_true ⟨_,Tryz.func13,of_decide_eq_false (by kernel_rfl),rfl⟩
theorem bkb:qo Tryz.prog 14=True:=eq_true ⟨_,Tryz.func14,of_decide_eq_false (by kernel_rfl),rfl⟩
theorem bka:qo Tryz.prog 15=True:=eq_true ⟨_,Tryz.func15,of_decide_eq_false (by kernel_rfl),rfl⟩
theorem bj9:qo Tryz.prog 16=True:=eq_true ⟨_,Tryz.func16,of_decide_eq_false (by kernel_rfl),rfl⟩
theorem bj8:qo Tryz.prog 17=True:=eq_true ⟨_,Tryz.func17,of_decide_eq_false (by kernel_rfl),rfl⟩
theorem bj7:qo Tryz.prog 18=True:=eq_true ⟨_,Tryz.func18,of_decide_eq_false (by kernel_rfl),rfl⟩
theorem bj6:qo Tryz.prog 19=True:=eq_true ⟨_,Tryz.func19,of_decide_eq_false (by kernel_rfl),rfl⟩
theorem bj5:qo Tryz.prog 20=True:=eq_true ⟨_,Tryz.func20,of_decide_eq_false (by kernel_rfl),rfl⟩
theorem bj4:qo Tryz.prog 21=True:=eq_true ⟨_,Tryz.func21,of_decide_eq_false (by kernel_rfl),rfl⟩
theorem bj3:qo Tryz.prog 22=True:=eq_true ⟨_,Tryz.func22,of_decide_eq_false (by kernel_rfl),rfl⟩
theorem bj2:qo Tryz.prog 23=True:=eq_true ⟨_,Tryz.func23,of_decide_eq_false (by kernel_rfl),rfl⟩
theorem bj1:qo Tryz.prog 24=True:=eq_true ⟨_,Tryz.func24,of_decide_eq_false (by kernel_rfl),rfl⟩
theorem bj0:qo Tryz.prog 25=True:=eq_true ⟨_,Tryz.func25,of_decide_eq_false (by kernel_rfl),rfl⟩
theorem bjZ:qo Tryz.prog 26=True:=eq_true ⟨_,Tryz.func26,of_decide_eq_false (by kernel_rfl),rfl⟩
theorem bjY:qo Tryz.prog 27=True:=eq_true ⟨_,Tryz.func27,of_decide_eq_false (by kernel_rfl),rfl⟩
theorem bjX:qo Tryz.prog 28=True:=eq_true ⟨_,Tryz.func28,of_decide_eq_false (by kernel_rfl),rfl⟩
theorem bjW:qo Tryz.prog 29=True:=eq_true ⟨_,Tryz.func29,of_decide_eq_false (by kernel_rfl),rfl⟩
theorem bjV:qo Tryz.prog 30=True:=eq_true ⟨_,Tryz.func30,of_decide_eq_false (by kernel_rfl),rfl⟩
theorem bjU:qo Tryz.prog 31=True:=eq_true ⟨_,Tryz.func31,of_decide_eq_false (by kernel_rfl),rfl⟩
theorem bjT:qo Tryz.prog 32=True:=eq_true ⟨_,Tryz.func32,of_decide_eq_false (by kernel_rfl),rfl⟩
theorem bjS:qo Tryz.prog 33=True:=eq_true ⟨_,Tryz.func33,of_decide_eq_false (by kernel_rfl),rfl⟩
theorem bjR:qo Tryz.prog 34=True:=eq_true ⟨_,Tryz.func34,of_decide_eq_false (by kernel_rfl),rfl⟩
theorem bjQ:qo Tryz.prog 35=True:=eq_true ⟨_,Tryz.func35,of_decide_eq_false (by kernel_rfl),rfl⟩
theorem bjP:qo Tryz.prog 36=True:=eq_true ⟨_,Tryz.func36,of_decide_eq_false (by kernel_rfl),rfl⟩
theorem bjO:qo Tryz.prog 37=True:=eq_true ⟨_,Tryz.func37,of_decide_eq_false (by kernel_rfl),rfl⟩
theorem bjN:qo Tryz.prog 38=True:=eq_true ⟨_,Tryz.func38,of_decide_eq_false (by kernel_rfl),rfl⟩
theorem bjM:qo Tryz.prog 39=True:=eq_true ⟨_,Tryz.func39,of_decide_eq_false (by kernel_rfl),rfl⟩
theorem bjL:qo Tryz.prog 40=True:=eq_true ⟨_,Tryz.func40,of_decide_eq_false (by kernel_rfl),rfl⟩
theorem bjK:qo Tryz.prog 41=True:=eq_true ⟨_,Tryz.func41,of_decide_eq_false (by kernel_rfl),rfl⟩
theorem bjJ:qo Tryz.prog 42=True:=eq_true ⟨_,Tryz.func42,of_decide_eq_false (by kernel_rfl),rfl⟩
theorem bjI:qo Tryz.prog 43=True:=eq_true ⟨_,Tryz.func43,of_decide_eq_false (by kernel_rfl),rfl⟩
theorem bjH:qo Tryz.prog 44=True:=eq_true ⟨_,Tryz.func44,of_decide_eq_false (by kernel_rfl),rfl⟩
theorem bjG:qo Tryz.prog 45=True:=eq_true ⟨_,Tryz.func45,of_decide_eq_false (by kernel_rfl),rfl⟩
theorem bjF:qo Tryz.prog 46=True:=eq_true ⟨_,Tryz.func46,of_decide_eq_false (by kernel_rfl),rfl⟩
theorem bjE:qo Tryz.prog 47=True:=eq_true ⟨_,Tryz.func47,of_decide_eq_false (by kernel_rfl),rfl⟩
theorem bjD:qo Tryz.prog 48=True:=eq_true ⟨_,Tryz.func48,of_decide_eq_false (by kernel_rfl),rfl⟩
theorem bjC:qo Tryz.prog 49=True:=eq_true ⟨_,Tryz.func49,of_decide_eq_false (by kernel_rfl),rfl⟩
theorem bjB:qo Tryz.prog 50=True:=eq_true ⟨_,Tryz.func50,of_decide_eq_false (by kernel_rfl),rfl⟩
theorem bjA:qo Tryz.prog 51=True:=eq_true ⟨_,Tryz.func51,of_decide_eq_false (by kernel_rfl),rfl⟩
theorem bjz:qo Tryz.prog 52=True:=eq_true ⟨_,Tryz.func52,of_decide_eq_false (by kernel_rfl),rfl⟩
theorem bjy:qo Tryz.prog 53=True:=eq_true ⟨_,Tryz.func53,of_decide_eq_false (by kernel_rfl),rfl⟩
theorem bjx:qo Tryz.prog 54=True:=eq_true ⟨_,Tryz.func54,of_decide_eq_false (by kernel_rfl),rfl⟩
theorem bjw:qo Tryz.prog 55=True:=eq_true ⟨_,Tryz.func55,of_decide_eq_false (by kernel_rfl),rfl⟩
theorem bjv:qo Tryz.prog 56=True:=eq_true ⟨_,Tryz.func56,of_decide_eq_false (by kernel_rfl),rfl⟩
theorem bju:qo Tryz.prog 57=True:=eq_true ⟨_,Tryz.func57,of_decide_eq_false (by kernel_rfl),rfl⟩
theorem bjt:qo Tryz.prog 58=True:=eq_true ⟨_,Tryz.func58,of_decide_eq_false (by kernel_rfl),rfl⟩
theorem bjs:qo Tryz.prog 59=True:=eq_true ⟨_,Tryz.func59,of_decide_eq_false (by kernel_rfl),rfl⟩
theorem bjr:qo Tryz.prog 60=True:=eq_true ⟨_,Tryz.func60,of_decide_eq_false (by kernel_rfl),rfl⟩
theorem bjq:qo Tryz.prog 61=True:=eq_true ⟨_,Tryz.func61,of_decide_eq_false (by kernel_rfl),rfl⟩
theorem bjp:qo Tryz.prog 62=True:=eq_true ⟨_,Tryz.func62,of_decide_eq_false (by kernel_rfl),rfl⟩
theorem bjo:qo Tryz.prog 63=True:=eq_true ⟨_,Tryz.func63,of_decide_eq_false (by kernel_rfl),rfl⟩
theorem bjn:qo Tryz.prog 64=True:=eq_true ⟨_,Tryz.func64,of_decide_eq_false (by kernel_rfl),rfl⟩
theorem bjm:qo Tryz.prog 65=True:=eq_true ⟨_,Tryz.func65,of_decide_eq_false (by kernel_rfl),rfl⟩
theorem bjl:qo Tryz.prog 66=True:=eq_true ⟨_,Tryz.func66,of_decide_eq_false (by kernel_rfl),rfl⟩
theorem bjk:qo Tryz.prog 67=True:=eq_true ⟨_,Tryz.func67,of_decide_eq_false (by kernel_rfl),rfl⟩
theorem bjj:qo Tryz.prog 68=True:=eq_true ⟨_,Tryz.func68,of_decide_eq_false (by kernel_rfl),rfl⟩
theorem bji:qo Tryz.prog 69=True:=eq_true ⟨_,Tryz.func69,of_decide_eq_false (by kernel_rfl),rfl⟩
theorem bjh:qo Tryz.prog 70=True:=eq_true ⟨_,Tryz.func70,of_decide_eq_false (by kernel_rfl),rfl⟩
theorem bjg:qo Tryz.prog 71=True:=eq_true ⟨_,Tryz.func71,of_decide_eq_false (by kernel_rfl),rfl⟩
theorem bjf:qo Tryz.prog 72=True:=eq_true ⟨_,Tryz.func72,of_decide_eq_false (by kernel_rfl),rfl⟩
theorem bje:qo Tryz.prog 73=True:=eq_true ⟨_,Tryz.func73,of_decide_eq_false (by kernel_rfl),rfl⟩
theorem bjd:qo Tryz.prog 74=True:=eq_true ⟨_,Tryz.func74,of_decide_eq_false (by kernel_rfl),rfl⟩
theorem bjc:qo Tryz.prog 75=True:=eq_true ⟨_,Tryz.func75,of_decide_eq_false (by kernel_rfl),rfl⟩
theorem bjb:qo Tryz.prog 76=True:=eq_true ⟨_,Tryz.func76,of_decide_eq_false (by kernel_rfl),rfl⟩
theorem bja:qo Tryz.prog 77=True:=eq_true ⟨_,Tryz.func77,of_decide_eq_false (by kernel_rfl),rfl⟩
theorem bi9:qo Tryz.prog 78=True:=eq_true ⟨_,Tryz.func78,of_decide_eq_false (by kernel_rfl),rfl⟩
theorem bi8:qo Tryz.prog 79=True:=eq_true ⟨_,Tryz.func79,of_decide_eq_false (by kernel_rfl),rfl⟩
theorem bi7:qo Tryz.prog 80=True:=eq_true ⟨_,Tryz.func80,of_decide_eq_false (by kernel_rfl),rfl⟩
theorem bi6:qo Tryz.prog 81=True:=eq_true ⟨_,Tryz.func81,of_decide_eq_false (by kernel_rfl),rfl⟩
theorem bi5:qo Tryz.prog 82=True:=eq_true ⟨_,Tryz.func82,of_decide_eq_false (by kernel_rfl),rfl⟩
theorem bi4:qo Tryz.prog 83=True:=eq_true ⟨_,Tryz.func83,of_decide_eq_false (by kernel_rfl),rfl⟩
theorem bi3:qo Tryz.prog 84=True:=eq_true ⟨_,Tryz.func84,of_decide_eq_false (by kernel_rfl),rfl⟩
theorem bi2:qo Tryz.prog 85=True:=eq_true ⟨_,Tryz.func85,of_decide_eq_false (by kernel_rfl),rfl⟩
theorem bi1:qo Tryz.prog 86=True:=eq_true ⟨_,Tryz.func86,of_decide_eq_false (by kernel_rfl),rfl⟩
theorem bi0:qo Tryz.prog 87=True:=eq_true ⟨_,Tryz.func87,of_decide_eq_false (by kernel_rfl),rfl⟩
theorem biZ:qo Tryz.prog 88=True:=eq_true ⟨_,Tryz.func88,of_decide_eq_false (by kernel_rfl),rfl⟩
theorem biY:qo Tryz.prog 89=True:=eq_true ⟨_,Tryz.func89,of_decide_eq_false (by kernel_rfl),rfl⟩
theorem biX:qo Tryz.prog 90=True:=eq_true ⟨_,Tryz.func90,of_decide_eq_false (by kernel_rfl),rfl⟩
theorem biW:qo Tryz.prog 91=True:=eq_true ⟨_,Tryz.func91,of_decide_eq_false (by kernel_rfl),rfl⟩
theorem biV:qo Tryz.prog 92=True:=eq_true ⟨_,Tryz.func92,of_decide_eq_false (by kernel_rfl),rfl⟩
theorem biU:qo Tryz.prog 93=True:=eq_true ⟨_,Tryz.func93,of_decide_eq_false (by kernel_rfl),rfl⟩
theorem biT:qo Tryz.prog 94=True:=eq_true ⟨_,Tryz.func94,of_decide_eq_false (by kernel_rfl),rfl⟩
theorem biS:qo Tryz.prog 95=True:=eq_true ⟨_,Tryz.func95,of_decide_eq_false (by kernel_rfl),rfl⟩
theorem biR:qo Tryz.prog 96=True:=eq_true ⟨_,Tryz.func96,of_decide_eq_false (by kernel_rfl),rfl⟩
theorem biQ:qo Tryz.prog 97=True:=eq_true ⟨_,Tryz.func97,of_decide_eq_false (by kernel_rfl),rfl⟩
theorem biP:qo Tryz.prog 98=True:=eq_true ⟨_,Tryz.func98,of_decide_eq_false (by kernel_rfl),rfl⟩
theorem biO:qo Tryz.prog 99=True:=eq_true ⟨_,Tryz.func99,of_decide_eq_false (by kernel_rfl),rfl⟩
theorem baC:qo Tryz.prog 100=True:=eq_true ⟨_,Tryz.func100,of_decide_eq_false (by kernel_rfl),rfl⟩
theorem baB:qo Tryz.prog 101=True:=eq_true ⟨_,Tryz.func101,of_decide_eq_false (by kernel_rfl),rfl⟩
theorem baA:qo Tryz.prog 102=True:=eq_true ⟨_,Tryz.func102,of_decide_eq_false (by kernel_rfl),rfl⟩
theorem baz:qo Tryz.prog 103=True:=eq_true ⟨_,Tryz.func103,of_decide_eq_false (by kernel_rfl),rfl⟩
theorem bay:qo Tryz.prog 104=True:=eq_true ⟨_,Tryz.func104,of_decide_eq_false (by kernel_rfl),rfl⟩
theorem bax:qo Tryz.prog 105=True:=eq_true ⟨_,Tryz.func105,of_decide_eq_false (by kernel_rfl),rfl⟩
theorem baw:qo Tryz.prog 106=True:=eq_true ⟨_,Tryz.func106,of_decide_eq_false (by kernel_rfl),rfl⟩
theorem bav:qo Tryz.prog 107=True:=eq_true ⟨_,Tryz.func107,of_decide_eq_false (by kernel_rfl),rfl⟩
theorem bau:qo Tryz.prog 108=True:=eq_true ⟨_,Tryz.func108,of_decide_eq_false (by kernel_rfl),rfl⟩
theorem bat:qo Tryz.prog 109=True:=eq_true ⟨_,Tryz.func109,of_decide_eq_false (by kernel_rfl),rfl⟩
theorem bas:qo Tryz.prog 110=True:=eq_true ⟨_,Tryz.func110,of_decide_eq_false (by kernel_rfl),rfl⟩
theorem bar:qo Tryz.prog 111=True:=eq_true ⟨_,Tryz.func111,of_decide_eq_false (by kernel_rfl),rfl⟩
theorem baq:qo Tryz.prog 112=True:=eq_true ⟨_,Tryz.func112,of_decide_eq_false (by kernel_rfl),rfl⟩
theorem bap:qo Tryz.prog 113=True:=eq_true ⟨_,Tryz.func113,of_decide_eq_false (by kernel_rfl),rfl⟩
theorem bao:qo Tryz.prog 114=True:=eq_true ⟨_,Tryz.func114,of_decide_eq_false (by kernel_rfl),rfl⟩
theorem ban:qo Tryz.prog 115=True:=eq_true ⟨_,Tryz.func115,of_decide_eq_false (by kernel_rfl),rfl⟩
theorem bam:qo Tryz.prog 116=True:=eq_true ⟨_,Tryz.func116,of_decide_eq_false (by kernel_rfl),rfl⟩
theorem bal:qo Tryz.prog 117=True:=eq_true ⟨_,Tryz.func117,of_decide_eq_false (by kernel_rfl),rfl⟩
theorem bak:qo Tryz.prog 118=True:=eq_true ⟨_,Tryz.func118,of_decide_eq_false (by kernel_rfl),rfl⟩
theorem baj:qo Tryz.prog 119=True:=eq_true ⟨_,Tryz.func119,of_decide_eq_false (by kernel_rfl),rfl⟩
theorem bai:qo Tryz.prog 120=True:=eq_true ⟨_,Tryz.func120,of_decide_eq_false (by kernel_rfl),rfl⟩
theorem bah:qo Tryz.prog 121=True:=eq_true ⟨_,Tryz.func121,of_decide_eq_false (by kernel_rfl),rfl⟩
theorem bag:qo Tryz.prog 122=True:=eq_true ⟨_,Tryz.func122,of_decide_eq_false (by kernel_rfl),rfl⟩
theorem baf:qo Tryz.prog 123=True:=eq_true ⟨_,Tryz.func123,of_decide_eq_false (by kernel_rfl),rfl⟩
theorem bae:qo Tryz.prog 124=True:=eq_true ⟨_,Tryz.func124,of_decide_eq_false (by kernel_rfl),rfl⟩
theorem bac:qo Tryz.prog 125=True:=eq_true ⟨_,Tryz.func125,of_decide_eq_false (by kernel_rfl),rfl⟩
theorem bab:qo Tryz.prog 126=True:=eq_true ⟨_,Tryz.func126,of_decide_eq_false (by kernel_rfl),rfl⟩
theorem baa:qo Tryz.prog 127=True:=eq_true ⟨_,Tryz.func127,of_decide_eq_false (by kernel_rfl),rfl⟩
theorem aZ9:qo Tryz.prog 128=True:=eq_true ⟨_,Tryz.func128,of_decide_eq_false (by kernel_rfl),rfl⟩
theorem aZ8:qo Tryz.prog 129=True:=eq_true ⟨_,Tryz.func129,of_decide_eq_false (by kernel_rfl),rfl⟩
theorem aZ7:qo Tryz.prog 130=True:=eq_true ⟨_,Tryz.func130,of_decide_eq_false (by kernel_rfl),rfl⟩
theorem aZ6:qo Tryz.prog 131=True:=eq_true ⟨_,Tryz.func131,of_decide_eq_false (by kernel_rfl),rfl⟩
theorem aZ5:qo Tryz.prog 132=True:=eq_true ⟨_,Tryz.func132,of_decide_eq_false (by kernel_rfl),rfl⟩
theorem aZ4:qo Tryz.prog 133=True:=eq_true ⟨_,Tryz.func133,of_decide_eq_false (by kernel_rfl),rfl⟩
theorem aZ3:qo Tryz.prog 134=True:=eq_true ⟨_,Tryz.func134,of_decide_eq_false (by kernel_rfl),rfl⟩
theorem aZ2:qo Tryz.prog 135=True:=eq_true ⟨_,Tryz.func135,of_decide_eq_false (by kernel_rfl),rfl⟩
theorem aZ1:qo Tryz.prog 136=True:=eq_true ⟨_,Tryz.func136,of_decide_eq_false (by kernel_rfl),rfl⟩
theorem aZ0:qo Tryz.prog 137=True:=eq_true ⟨_,Tryz.func137,of_decide_eq_false (by kernel_rfl),rfl⟩
theorem aZZ:qo Tryz.prog 138=True:=eq_true ⟨_,Tryz.func138,of_decide_eq_false (by kernel_rfl),rfl⟩
theorem aZY:qo Tryz.prog 139=True:=eq_true ⟨_,Tryz.func139,of_decide_eq_false (by kernel_rfl),rfl⟩
theorem aZX:qo Tryz.prog 140=True:=eq_true ⟨_,Tryz.func140,of_decide_eq_false (by kernel_rfl),rfl⟩
theorem aZW:qo Tryz.prog 141=True:=eq_true ⟨_,Tryz.func141,of_decide_eq_false (by kernel_rfl),rfl⟩
theorem aZV:qo Tryz.prog 142=True:=eq_true ⟨_,Tryz.func142,of_decide_eq_false (by kernel_rfl),rfl⟩
theorem aZU:qo Tryz.prog 143=True:=eq_true ⟨_,Tryz.func143,of_decide_eq_false (by kernel_rfl),rfl⟩
theorem aZT:qo Tryz.prog 144=True:=eq_true ⟨_,Tryz.func144,of_decide_eq_false (by kernel_rfl),rfl⟩
theorem aZS:qo Tryz.prog 145=True:=eq_true ⟨_,Tryz.func145,of_decide_eq_false (by kernel_rfl),rfl⟩
theorem aZR:qo Tryz.prog 146=True:=eq_true ⟨_,Tryz.func146,of_decide_eq_false (by kernel_rfl),rfl⟩
theorem aZQ:qo Tryz.prog 147=True:=eq_true ⟨_,Tryz.func147,of_decide_eq_false (by kernel_rfl),rfl⟩
theorem aZP:qo Tryz.prog 148=True:=eq_true ⟨_,Tryz.func148,of_decide_eq_false (by kernel_rfl),rfl⟩
theorem aZO:qo Tryz.prog 149=True:=eq_true ⟨_,Tryz.func149,of_decide_eq_false (by kernel_rfl),rfl⟩
theorem aZN:qo Tryz.prog 150=True:=eq_true ⟨_,Tryz.func150,of_decide_eq_false (by kernel_rfl),rfl⟩
theorem aZM:qo Tryz.prog 151=True:=eq_true ⟨_,Tryz.func151,of_decide_eq_false (by kernel_rfl),rfl⟩
theorem aZL:qo Tryz.prog 152=True:=eq_true ⟨_,Tryz.func152,of_decide_eq_false (by kernel_rfl),rfl⟩
theorem aZK:qo Tryz.prog 153=True:=eq_true ⟨_,Tryz.func153,of_decide_eq_false (by kernel_rfl),rfl⟩
theorem aZJ:qo Tryz.prog 154=True:=eq_true ⟨_,Tryz.func154,of_decide_eq_false (by kernel_rfl),rfl⟩
theorem aZI:qo Tryz.prog 155=True:=eq_true ⟨_,Tryz.func155,of_decide_eq_false (by kernel_rfl),rfl⟩
theorem aZH:qo Tryz.prog 156=True:=eq_true ⟨_,Tryz.func156,of_decide_eq_false (by kernel_rfl),rfl⟩
theorem aZG:qo Tryz.prog 157=True:=eq_true ⟨_,Tryz.func157,of_decide_eq_false (by kernel_rfl),rfl⟩
theorem aZF:qo Tryz.prog 158=True:=eq_true ⟨_,Tryz.func158,of_decide_eq_false (by kernel_rfl),rfl⟩
theorem aZE:qo Tryz.prog 159=True:=eq_true ⟨_,Tryz.func159,of_decide_eq_false (by kernel_rfl),rfl⟩
theorem aZD:qo Tryz.prog 160=True:=eq_true ⟨_,Tryz.func160,of_decide_eq_false (by kernel_rfl),rfl⟩
theorem aZC:qo Tryz.prog 161=True:=eq_true ⟨_,Tryz.func161,of_decide_eq_false (by kernel_rfl),rfl⟩
theorem aZB:qo Tryz.prog 162=True:=eq_true ⟨_,Tryz.func162,of_decide_eq_false (by kernel_rfl),rfl⟩
theorem aZA:qo Tryz.prog 163=True:=eq_true ⟨_,Tryz.func163,of_decide_eq_false (by kernel_rfl),rfl⟩
theorem aZz:qo Tryz.prog 164=True:=eq_true ⟨_,Tryz.func164,of_decide_eq_false (by kernel_rfl),rfl⟩
theorem aZy:qo Tryz.prog 165=True:=eq_true ⟨_,Tryz.func165,of_decide_eq_false (by kernel_rfl),rfl⟩
theorem aZx:qo Tryz.prog 166=True:=eq_true ⟨_,Tryz.func166,of_decide_eq_false (by kernel_rfl),rfl⟩
theorem aZw:qo Tryz.prog 167=True:=eq_true ⟨_,Tryz.func167,of_decide_eq_false (by kernel_rfl),rfl⟩
theorem aZv:qo Tryz.prog 168=True:=eq_true ⟨_,Tryz.func168,of_decide_eq_false (by kernel_rfl),rfl⟩
theorem aZu:qo Tryz.prog 169=True:=eq_true ⟨_,Tryz.func169,of_decide_eq_false (by kernel_rfl),rfl⟩
theorem aZt:qo Tryz.prog 170=True:=eq_true ⟨_,Tryz.func170,of_decide_eq_false (by kernel_rfl),rfl⟩
theorem aZs:qo Tryz.prog 171=True:=eq_true ⟨_,Tryz.func171,of_decide_eq_false (by kernel_rfl),rfl⟩
theorem aZr:qo Tryz.prog 172=True:=eq_true ⟨_,Tryz.func172,of_decide_eq_false (by kernel_rfl),rfl⟩
theorem aZq:qo Tryz.prog 173=True:=eq_true ⟨_,Tryz.func173,of_decide_eq_false (by kernel_rfl),rfl⟩
theorem aZp:qo Tryz.prog 174=True:=eq_true ⟨_,Tryz.func174,of_decide_eq_false (by kernel_rfl),rfl⟩
theorem aZo:qo Tryz.prog 175=True:=eq_true ⟨_,Tryz.func175,of_decide_eq_false (by kernel_rfl),rfl⟩
theorem aZn:qo Tryz.prog 176=True:=eq_true ⟨_,Tryz.func176,of_decide_eq_false (by kernel_rfl),rfl⟩
theorem aZm:qo Tryz.prog 177=True:=eq_true ⟨_,Tryz.func177,of_decide_eq_false (by kernel_rfl),rfl⟩
theorem aZl:qo Tryz.prog 178=True:=eq_true ⟨_,Tryz.func178,of_decide_eq_false (by kernel_rfl),rfl⟩
theorem aZk:qo Tryz.prog 179=True:=eq_true ⟨_,Tryz.func179,of_decide_eq_false (by kernel_rfl),rfl⟩
theorem aZj:qo Tryz.prog 180=True:=eq_true ⟨_,Tryz.func180,of_decide_eq_false (by kernel_rfl),rfl⟩
theorem aZi:qo Tryz.prog 181=True:=eq_true ⟨_,Tryz.func181,of_decide_eq_false (by kernel_rfl),rfl⟩
theorem aZh:qo Tryz.prog 182=True:=eq_true ⟨_,Tryz.func182,of_decide_eq_false (by kernel_rfl),rfl⟩
theorem aZg:qo Tryz.prog 183=True:=eq_true ⟨_,Tryz.func183,of_decide_eq_false (by kernel_rfl),rfl⟩
theorem aZf:qo Tryz.prog 184=True:=eq_true ⟨_,Tryz.func184,of_decide_eq_false (by kernel_rfl),rfl⟩
theorem aZe:qo Tryz.prog 185=True:=eq_true ⟨_,Tryz.func185,of_decide_eq_false (by kernel_rfl),rfl⟩
theorem aZd:qo Tryz.prog 186=True:=eq_true ⟨_,Tryz.func186,of_decide_eq_false (by kernel_rfl),rfl⟩
theorem aZc:qo Tryz.prog 187=True:=eq_true ⟨_,Tryz.func187,of_decide_eq_false (by kernel_rfl),rfl⟩
theorem aZb:qo Tryz.prog 188=True:=eq_true ⟨_,Tryz.func188,of_decide_eq_false (by kernel_rfl),rfl⟩
theorem aZa:qo Tryz.prog 189=True:=eq_true ⟨_,Tryz.func189,of_decide_eq_false (by kernel_rfl),rfl⟩
theorem aY9:qo Tryz.prog 190=True:=eq_true ⟨_,Tryz.func190,of_decide_eq_false (by kernel_rfl),rfl⟩
theorem aY8:qo Tryz.prog 191=True:=eq_true ⟨_,Tryz.func191,of_decide_eq_false (by kernel_rfl),rfl⟩
theorem aY7:qo Tryz.prog 192=True:=eq_true ⟨_,Tryz.func192,of_decide_eq_false (by kernel_rfl),rfl⟩
theorem aY6:qo Tryz.prog 193=True:=eq_true ⟨_,Tryz.func193,of_decide_eq_false (by kernel_rfl),rfl⟩
theorem aY5:qo Tryz.prog 194=True:=eq_true ⟨_,Tryz.func194,of_decide_eq_false (by kernel_rfl),rfl⟩
theorem aY4:qo Tryz.prog 195=True:=eq_true ⟨_,Tryz.func195,of_decide_eq_false (by kernel_rfl),rfl⟩
theorem aY3:qo Tryz.prog 196=True:=eq_true ⟨_,Tryz.func196,of_decide_eq_false (by kernel_rfl),rfl⟩
theorem aY2:qo Tryz.prog 197=True:=eq_true ⟨_,Tryz.func197,of_decide_eq_false (by kernel_rfl),rfl⟩
theorem aY1:qo Tryz.prog 198=True:=eq_true ⟨_,Tryz.func198,of_decide_eq_false (by kernel_rfl),rfl⟩
theorem aY0:qo Tryz.prog 199=True:=eq_true ⟨_,Tryz.func199,of_decide_eq_false (by kernel_rfl),rfl⟩
theorem aYZ:qo Tryz.prog 200=True:=eq_true ⟨_,Tryz.func200,of_decide_eq_false (by kernel_rfl),rfl⟩
theorem aYY:qo Tryz.prog 201=True:=eq_true ⟨_,Tryz.func201,of_decide_eq_false (by kernel_rfl),rfl⟩
theorem aYX:qo Tryz.prog 202=True:=eq_true ⟨_,Tryz.func202,of_decide_eq_false (by kernel_rfl),rfl⟩
theorem aYW:qo Tryz.prog 203=True:=eq_true ⟨_,Tryz.func203,of_decide_eq_false (by kernel_rfl),rfl⟩
theorem aYV:qo Tryz.prog 204=True:=eq_true ⟨_,Tryz.func204,of_decide_eq_false (by kernel_rfl),rfl⟩
theorem aYU:qo Tryz.prog 205=True:=eq_true ⟨_,Tryz.func205,of_decide_eq_false (by kernel_rfl),rfl⟩
theorem aYT:qo Tryz.prog 206=True:=eq_true ⟨_,Tryz.func206,of_decide_eq_false (by kernel_rfl),rfl⟩
theorem aYS:qo Tryz.prog 207=True:=eq_true ⟨_,Tryz.func207,of_decide_eq_false (by kernel_rfl),rfl⟩
theorem aYR:qo Tryz.prog 208=True:=eq_true ⟨_,Tryz.func208,of_decide_eq_false (by kernel_rfl),rfl⟩
theorem aYQ:qo Tryz.prog 209=True:=eq_true ⟨_,Tryz.func209,of_decide_eq_false (by kernel_rfl),rfl⟩
theorem aYP:qo Tryz.prog 210=True:=eq_true ⟨_,Tryz.func210,of_decide_eq_false (by kernel_rfl),rfl⟩
theorem aYO:qo Tryz.prog 211=True:=eq_true ⟨_,Tryz.func211,of_decide_eq_false (by kernel_rfl),rfl⟩
theorem aYN:qo Tryz.prog 212=True:=eq_true ⟨_,Tryz.func212,of_decide_eq_false (by kernel_rfl),rfl⟩
theorem aYM:qo Tryz.prog 213=True:=eq_true ⟨_,Tryz.func213,of_decide_eq_false (by kernel_rfl),rfl⟩
theorem aYL:qo Tryz.prog 214=True:=eq_true ⟨_,Tryz.func214,of_decide_eq_false (by kernel_rfl),rfl⟩
theorem aYK:qo Tryz.prog 215=True:=eq_true ⟨_,Tryz.func215,of_decide_eq_false (by kernel_rfl),rfl⟩
theorem aYJ:qo Tryz.prog 216=True:=eq_true ⟨_,Tryz.func216,of_decide_eq_false (by kernel_rfl),rfl⟩
theorem aYI:qo Tryz.prog 217=True:=eq_true ⟨_,Tryz.func217,of_decide_eq_false (by kernel_rfl),rfl⟩
theorem aYH:qo Tryz.prog 218=True:=eq_true ⟨_,Tryz.func218,of_decide_eq_false (by kernel_rfl),rfl⟩
theorem aYG:qo Tryz.prog 219=True:=eq_true ⟨_,Tryz.func219,of_decide_eq_false (by kernel_rfl),rfl⟩
theorem aYF:qo Tryz.prog 220=True:=eq_true ⟨_,Tryz.func220,of_decide_eq_false (by kernel_rfl),rfl⟩
theorem aYE:qo Tryz.prog 221=True:=eq_true ⟨_,Tryz.func221,of_decide_eq_false (by kernel_rfl),rfl⟩
theorem aYD:qo Tryz.prog 222=True:=eq_true ⟨_,Tryz.func222,of_decide_eq_false (by kernel_rfl),rfl⟩
theorem aYC:qo Tryz.prog 223=True:=eq_true ⟨_,Tryz.func223,of_decide_eq_false (by kernel_rfl),rfl⟩
theorem aYB:qo Tryz.prog 224=True:=eq_true ⟨_,Tryz.func224,of_decide_eq_false (by kernel_rfl),rfl⟩
theorem aYA:qo Tryz.prog 225=True:=eq_true ⟨_,Tryz.func225,of_decide_eq_false (by kernel_rfl),rfl⟩
theorem aYz:qo Tryz.prog 226=True:=eq_true ⟨_,Tryz.func226,of_decide_eq_false (by kernel_rfl),rfl⟩
theorem aYy:qo Tryz.prog 227=True:=eq_true ⟨_,Tryz.func227,of_decide_eq_false (by kernel_rfl),rfl⟩
theorem aYx:qo Tryz.prog 228=True:=eq_true ⟨_,Tryz.func228,of_decide_eq_false (by kernel_rfl),rfl⟩
theorem aYw:qo Tryz.prog 229=True:=eq_true ⟨_,Tryz.func229,of_decide_eq_false (by kernel_rfl),rfl⟩
theorem aYv:qo Tryz.prog 230=True:=eq_true ⟨_,Tryz.func230,of_decide_eq_false (by kernel_rfl),rfl⟩
theorem aYu:qo Tryz.prog 231=True:=eq_true ⟨_,Tryz.func231,of_decide_eq_false (by kernel_rfl),rfl⟩
theorem aYt:qo Tryz.prog 232=True:=eq_true ⟨_,Tryz.func232,of_decide_eq_false (by kernel_rfl),rfl⟩
theorem aYs:qo Tryz.prog 233=True:=eq_true ⟨_,Tryz.func233,of_decide_eq_false (by kernel_rfl),rfl⟩
theorem aYr:qo Tryz.prog 234=True:=eq_true ⟨_,Tryz.func234,of_decide_eq_false (by kernel_rfl),rfl⟩
theorem aYq:qo Tryz.prog 235=True:=eq_true ⟨_,Tryz.func235,of_decide_eq_false (by kernel_rfl),rfl⟩
theorem aYp:qo Tryz.prog 236=True:=eq_true ⟨_,Tryz.func236,of_decide_eq_false (by kernel_rfl),rfl⟩
theorem aYo:qo Tryz.prog 237=True:=eq_true ⟨_,Tryz.func237,of_decide_eq_false (by kernel_rfl),rfl⟩
theorem aYn:qo Tryz.prog 238=True:=eq_true ⟨_,Tryz.func238,of_decide_eq_false (by kernel_rfl),rfl⟩
theorem aYm:qo Tryz.prog 239=True:=eq_true ⟨_,Tryz.func239,of_decide_eq_false (by kernel_rfl),rfl⟩
theorem aYl:qo Tryz.prog 240=True:=eq_true ⟨_,Tryz.func240,of_decide_eq_false (by kernel_rfl),rfl⟩
theorem aYk:qo Tryz.prog 241=True:=eq_true ⟨_,Tryz.func241,of_decide_eq_false (by kernel_rfl),rfl⟩
theorem aYj:qo Tryz.prog 242=True:=eq_true ⟨_,Tryz.func242,of_decide_eq_false (by kernel_rfl),rfl⟩
theorem aYi:qo Tryz.prog 243=True:=eq_true ⟨_,Tryz.func243,of_decide_eq_false (by kernel_rfl),rfl⟩
theorem aYh:qo Tryz.prog 244=True:=eq_true ⟨_,Tryz.func244,of_decide_eq_false (by kernel_rfl),rfl⟩
theorem aYg:qo Tryz.prog 245=True:=eq_true ⟨_,Tryz.func245,of_decide_eq_false (by kernel_rfl),rfl⟩
theorem aYf:qo Tryz.prog 246=True:=eq_true ⟨_,Tryz.func246,of_decide_eq_false (by kernel_rfl),rfl⟩
theorem aYe:qo Tryz.prog 247=True:=eq_true ⟨_,Tryz.func247,of_decide_eq_false (by kernel_rfl),rfl⟩
theorem aYd:qo Tryz.prog 248=True:=eq_true ⟨_,Tryz.func248,of_decide_eq_false (by kernel_rfl),rfl⟩
theorem aYc:qo Tryz.prog 249=True:=eq_true ⟨_,Tryz.func249,of_decide_eq_false (by kernel_rfl),rfl⟩
theorem aYb:qo Tryz.prog 250=True:=eq_true ⟨_,Tryz.func250,of_decide_eq_false (by kernel_rfl),rfl⟩
theorem aYa:qo Tryz.prog 251=True:=eq_true ⟨_,Tryz.func251,of_decide_eq_false (by kernel_rfl),rfl⟩
theorem aX9:qo Tryz.prog 252=True:=eq_true ⟨_,Tryz.func252,of_decide_eq_false (by kernel_rfl),rfl⟩
theorem aX8:qo Tryz.prog 253=True:=eq_true ⟨_,Tryz.func253,of_decide_eq_false (by kernel_rfl),rfl⟩
theorem aX7:qo Tryz.prog 254=True:=eq_true ⟨_,Tryz.func254,of_decide_eq_false (by kernel_rfl),rfl⟩
theorem aX6:qo Tryz.prog 255=True:=eq_true ⟨_,Tryz.func255,of_decide_eq_false (by kernel_rfl),rfl⟩
theorem aX5:qo Tryz.prog 256=True:=eq_true ⟨_,Tryz.func256,of_decide_eq_false (by kernel_rfl),rfl⟩
theorem aX4:qo Tryz.prog 257=True:=eq_true ⟨_,Tryz.func257,of_decide_eq_false (by kernel_rfl),rfl⟩
theorem aX3:qo Tryz.prog 258=True:=eq_true ⟨_,Tryz.func258,of_decide_eq_false (by kernel_rfl),rfl⟩
theorem aX2:qo Tryz.prog 259=True:=eq_true ⟨_,Tryz.func259,of_decide_eq_false (by kernel_rfl),rfl⟩
theorem aX1:qo Tryz.prog 260=True:=eq_true ⟨_,Tryz.func260,of_decide_eq_false (by kernel_rfl),rfl⟩
theorem aX0:qo Tryz.prog 261=True:=eq_true ⟨_,Tryz.func261,of_decide_eq_false (by kernel_rfl),rfl⟩
theorem aXZ:qo Tryz.prog 262=True:=eq_true ⟨_,Tryz.func262,of_decide_eq_false (by kernel_rfl),rfl⟩
theorem aXY:qo Tryz.prog 263=True:=eq_true ⟨_,Tryz.func263,of_decide_eq_false (by kernel_rfl),rfl⟩
theorem aXX:qo Tryz.prog 264=True:=eq_true ⟨_,Tryz.func264,of_decide_eq_false (by kernel_rfl),rfl⟩
theorem aXW:qo Tryz.prog 265=True:=eq_true ⟨_,Tryz.func265,of_decide_eq_false (by kernel_rfl),rfl⟩
theorem aXV:qo Tryz.prog 266=True:=eq_true ⟨_,Tryz.func266,of_decide_eq_false (by kernel_rfl),rfl⟩
theorem aXU:qo Tryz.prog 267=True:=eq_true ⟨_,Tryz.func267,of_decide_eq_false (by kernel_rfl),rfl⟩
theorem aXT:qo Tryz.prog 268=True:=eq_true ⟨_,Tryz.func268,of_decide_eq_false (by kernel_rfl),rfl⟩
theorem aXS:qo Tryz.prog 269=True:=eq_true ⟨_,Tryz.func269,of_decide_eq_false (by kernel_rfl),rfl⟩
theorem aXR:qo Tryz.prog 270=True:=eq_true ⟨_,Tryz.func270,of_decide_eq_false (by kernel_rfl),rfl⟩
theorem aXQ:qo Tryz.prog 271=True:=eq_true ⟨_,Tryz.func271,of_decide_eq_false (by kernel_rfl),rfl⟩
theorem aXP:qo Tryz.prog 272=True:=eq_true ⟨_,Tryz.func272,of_decide_eq_false (by kernel_rfl),rfl⟩
theorem aXO:qo Tryz.prog 273=True:=eq_true ⟨_,Tryz.func273,of_decide_eq_false (by kernel_rfl),rfl⟩
theorem aXN:qo Tryz.prog 274=True:=eq_true ⟨_,Tryz.func274,of_decide_eq_false (by kernel_rfl),rfl⟩
theorem aXM:qo Tryz.prog 275=True:=eq_true ⟨_,Tryz.func275,of_decide_eq_false (by kernel_rfl),rfl⟩
theorem aXL:qo Tryz.prog 276=True:=eq_true ⟨_,Tryz.func276,of_decide_eq_false (by kernel_rfl),rfl⟩
theorem aXK:qo Tryz.prog 277=True:=eq_true ⟨_,Tryz.func277,of_decide_eq_false (by kernel_rfl),rfl⟩
theorem aXJ:qo Tryz.prog 278=True:=eq_true ⟨_,Tryz.func278,of_decide_eq_false (by kernel_rfl),rfl⟩
theorem aXI:qo Tryz.prog 279=True:=eq_true ⟨_,Tryz.func279,of_decide_eq_false (by kernel_rfl),rfl⟩
theorem aXH:qo Tryz.prog 280=True:=eq_true ⟨_,Tryz.func280,of_decide_eq_false (by kernel_rfl),rfl⟩
theorem aXG:qo Tryz.prog 281=True:=eq_true ⟨_,Tryz.func281,of_decide_eq_false (by kernel_rfl),rfl⟩
theorem aXF:qo Tryz.prog 282=True:=eq_true ⟨_,Tryz.func282,of_decide_eq_false (by kernel_rfl),rfl⟩
theorem aXE:qo Tryz.prog 283=True:=eq_true ⟨_,Tryz.func283,of_decide_eq_false (by kernel_rfl),rfl⟩
theorem aXD:qo Tryz.prog 284=True:=eq_true ⟨_,Tryz.func284,of_decide_eq_false (by kernel_rfl),rfl⟩
theorem aXC:qo Tryz.prog 285=True:=eq_true ⟨_,Tryz.func285,of_decide_eq_false (by kernel_rfl),rfl⟩
theorem aXB:qo Tryz.prog 286=True:=eq_true ⟨_,Tryz.func286,of_decide_eq_false (by kernel_rfl),rfl⟩
theorem aXA:qo Tryz.prog 287=True:=eq_true ⟨_,Tryz.func287,of_decide_eq_false (by kernel_rfl),rfl⟩
theorem aXz:qo Tryz.prog 288=True:=eq_true ⟨_,Tryz.func288,of_decide_eq_false (by kernel_rfl),rfl⟩
theorem aXy:qo Tryz.prog 289=True:=eq_true ⟨_,Tryz.func289,of_decide_eq_false (by kernel_rfl),rfl⟩
theorem aXx:qo Tryz.prog 290=True:=eq_true ⟨_,Tryz.func290,of_decide_eq_false (by kernel_rfl),rfl⟩
theorem aXw:qo Tryz.prog 291=True:=eq_true ⟨_,Tryz.func291,of_decide_eq_false (by kernel_rfl),rfl⟩
theorem aXv:qo Tryz.prog 292=True:=eq_true ⟨_,Tryz.func292,of_decide_eq_false (by kernel_rfl),rfl⟩
theorem aXu:qo Tryz.prog 293=True:=eq_true ⟨_,Tryz.func293,of_decide_eq_false (by kernel_rfl),rfl⟩
theorem aXt:qo Tryz.prog 294=True:=eq_true ⟨_,Tryz.func294,of_decide_eq_false (by kernel_rfl),rfl⟩
theorem aXs:qo Tryz.prog 295=True:=eq_true ⟨_,Tryz.func295,of_decide_eq_false (by kernel_rfl),rfl⟩
theorem aXr:qo Tryz.prog 296=True:=eq_true ⟨_,Tryz.func296,of_decide_eq_false (by kernel_rfl),rfl⟩
theorem aXq:qo Tryz.prog 297=True:=eq_true ⟨_,Tryz.func297,of_decide_eq_false (by kernel_rfl),rfl⟩
theorem aXp:qo Tryz.prog 298=True:=eq_true ⟨_,Tryz.func298,of_decide_eq_false (by kernel_rfl),rfl⟩
theorem aXo:qo Tryz.prog 299=True:=eq_true ⟨_,Tryz.func299,of_decide_eq_false (by kernel_rfl),rfl⟩
theorem aXn:qo Tryz.prog 300=True:=eq_true ⟨_,Tryz.func300,of_decide_eq_false (by kernel_rfl),rfl⟩
theorem aXm:qo Tryz.prog 301=True:=eq_true ⟨_,Tryz.func301,of_decide_eq_false (by kernel_rfl),rfl⟩
theorem aXl:qo Tryz.prog 302=True:=eq_true ⟨_,Tryz.func302,of_decide_eq_false (by kernel_rfl),rfl⟩
theorem aXk:qo Tryz.prog 303=True:=eq_true ⟨_,Tryz.func303,of_decide_eq_false (by kernel_rfl),rfl⟩
theorem aXj:qo Tryz.prog 304=True:=eq_true ⟨_,Tryz.func304,of_decide_eq_false (by kernel_rfl),rfl⟩
theorem aXi:qo Tryz.prog 305=True:=eq_true ⟨_,Tryz.func305,of_decide_eq_false (by kernel_rfl),rfl⟩
theorem aXh:qo Tryz.prog 306=True:=eq_true ⟨_,Tryz.func306,of_decide_eq_false (by kernel_rfl),rfl⟩
theorem aXg:qo Tryz.prog 307=True:=eq_true ⟨_,Tryz.func307,of_decide_eq_false (by kernel_rfl),rfl⟩
theorem aXf:qo Tryz.prog 308=True:=eq_true ⟨_,Tryz.func308,of_decide_eq_false (by kernel_rfl),rfl⟩
theorem aXe:qo Tryz.prog 309=True:=eq_true ⟨_,Tryz.func309,of_decide_eq_false (by kernel_rfl),rfl⟩
theorem aXd:qo Tryz.prog 310=True:=eq_true ⟨_,Tryz.func310,of_decide_eq_false (by kernel_rfl),rfl⟩
theorem aXc:qo Tryz.prog 311=True:=eq_true ⟨_,Tryz.func311,of_decide_eq_false (by kernel_rfl),rfl⟩
theorem aXb:qo Tryz.prog 312=True:=eq_true ⟨_,Tryz.func312,of_decide_eq_false (by kernel_rfl),rfl⟩
theorem aXa:qo Tryz.prog 313=True:=eq_true ⟨_,Tryz.func313,of_decide_eq_false (by kernel_rfl),rfl⟩
theorem aW9:qo Tryz.prog 314=True:=eq_true ⟨_,Tryz.func314,of_decide_eq_false (by kernel_rfl),rfl⟩
theorem aW8:qo Tryz.prog 315=True:=eq_true ⟨_,Tryz.func315,of_decide_eq_false (by kernel_rfl),rfl⟩
theorem aW7:qo Tryz.prog 316=True:=eq_true ⟨_,Tryz.func316,of_decide_eq_false (by kernel_rfl),rfl⟩
theorem aW6:qo Tryz.prog 317=True:=eq_true ⟨_,Tryz.func317,of_decide_eq_false (by kernel_rfl),rfl⟩
theorem aW5:qo Tryz.prog 318=True:=eq_true ⟨_,Tryz.func318,of_decide_eq_false (by kernel_rfl),rfl⟩
theorem aW4:qo Tryz.prog 319=True:=eq_true ⟨_,Tryz.func319,of_decide_eq_false (by kernel_rfl),rfl⟩
theorem aW3:qo Tryz.prog 320=True:=eq_true ⟨_,Tryz.func320,of_decide_eq_false (by kernel_rfl),rfl⟩
theorem aW2:qo Tryz.prog 321=True:=eq_true ⟨_,Tryz.func321,of_decide_eq_false (by kernel_rfl),rfl⟩
theorem aW1:qo Tryz.prog 322=True:=eq_true ⟨_,Tryz.func322,of_decide_eq_false (by kernel_rfl),rfl⟩
theorem aW0:qo Tryz.prog 323=True:=eq_true ⟨_,Tryz.func323,of_decide_eq_false (by kernel_rfl),rfl⟩
theorem aWZ:qo Tryz.prog 324=True:=eq_true ⟨_,Tryz.func324,of_decide_eq_false (by kernel_rfl),rfl⟩
theorem aWY:qo Tryz.prog 325=True:=eq_true ⟨_,Tryz.func325,of_decide_eq_false (by kernel_rfl),rfl⟩
theorem aWX:qo Tryz.prog 326=True:=eq_true ⟨_,Tryz.func326,of_decide_eq_false (by kernel_rfl),rfl⟩
theorem aWW:qo Tryz.prog 327=True:=eq_true ⟨_,Tryz.func327,of_decide_eq_false (by kernel_rfl),rfl⟩
theorem aWV:qo Tryz.prog 328=True:=eq_true ⟨_,Tryz.func328,of_decide_eq_false (by kernel_rfl),rfl⟩
theorem aWU:qo Tryz.prog 329=True:=eq_true ⟨_,Tryz.func329,of_decide_eq_false (by kernel_rfl),rfl⟩
theorem aWT:qo Tryz.prog 330=True:=eq_true ⟨_,Tryz.func330,of_decide_eq_false (by kernel_rfl),rfl⟩
theorem aWS:qo Tryz.prog 331=True:=eq_true ⟨_,Tryz.func331,of_decide_eq_false (by kernel_rfl),rfl⟩
theorem aWR:qo Tryz.prog 354=True:=eq_true ⟨_,Tryz.func354,of_decide_eq_false (by kernel_rfl),rfl⟩
attribute [go_sem] ty1 aUp aOW aBo aqz aUn aUo ty2 aUm aOx
attribute [go_sem] axb aoZ aUk aUl ty3 aUj aN8 awP aoK aUh
attribute [go_sem] aUi ty4 aUg aND awE aoy aUe aUf ty5 aUd
attribute [go_sem] aNh aww aoq aUb aUc ty6 aUa aMP awl aog
attribute [go_sem] aT8 aT9 ty7 aT7 aMk awa an3 aT5 aT6 baL
attribute [go_sem] bio baK bin baJ bim baI bil bnR ty8 aT4
attribute [go_sem] aLP avZ anP aT2 aT3 baH bik baG bij baF
attribute [go_sem] bii baE bih bnQ ty9 aT1 aLn avP anF aTZ
attribute [go_sem] aT0 bmk aO5 aFB ar2 alS aO3 aO4 bmj aO2
attribute [go_sem] aE6 arR alH aO0 aO1 bmi aOZ aEE arH alu
attribute [go_sem] aOX aOY bmh aOV aAy aqh aj6 aOT aOU bmg
attribute [go_sem] aOS az3 ap6 ajV aOQ aOR bh4 bmf aOP azB
attribute [go_sem] apW ajL aON aOO bh3 bme aOM ay9 apL ajB
attribute [go_sem] aOK aOL aSg aVC aSf aVB bkG bmd aOJ ayH
attribute [go_sem] apz ajr aOH aOI aSe aVA aSd aVz bkF bmc
attribute [go_sem] aOG axR apg ai9 aOE aOF bmb aOD axy ao9
attribute [go_sem] ai2 aOB aOC bh2 bma aOA axc ao0 aiU aOy
attribute [go_sem] aOz aSc aVy aSb aVx bkE bl9 aOw awY aoT
attribute [go_sem] aiP aOu aOv aSa aVw aR9 aVv bkD bl8 aOt
attribute [go_sem] awX aoS aiO aOr aOs bl7 aOq awW aoR aiN
attribute [go_sem] aOo aOp bl6 aOn awU aoQ aiM aOl aOm bl5
attribute [go_sem] aOk awT aoP aiL aOi aOj bh1 bl4 aOh awS
attribute [go_sem] aoO aiK aOf aOg aR8 aVu bkC bl3 aOe awR
attribute [go_sem] aoN aiJ aOc aOd aR7 aVt bkB bl2 aOb awQ
attribute [go_sem] aoL aiI aN9 aOa aR6 aVs aR5 aVr bkA bl1
attribute [go_sem] aN7 awO aoJ aiH aN5 aN6 aR4 aVq aR3 aVp
attribute [go_sem] bkz bl0 aN4 awN aoH aiG aN2 aN3 aR2 aVo
attribute [go_sem] aR1 aVn bky blZ aN1 awM aoG aiF aNZ aN0
attribute [go_sem] aR0 aVm aRZ aVl bkx blY aNY awL aoF aiE
attribute [go_sem] aNW aNX blX aNV awK aoE aiD aNT aNU blW
attribute [go_sem] aNS awJ aoD aiC aNQ aNR blV aNP awI aoC
attribute [go_sem] aiB aNN aNO blU aNM awH aoB aiA aNK aNL
attribute [go_sem] blT aNJ awG aoA aiz aNH aNI blS aNG awF
attribute [go_sem] aoz aiy aNE aNF blR aNC awD aox aix aNA
attribute [go_sem] aNB blQ aNz awC aow aiw aNx aNy blP aNw
attribute [go_sem] awB aov aiv aNu aNv blO aNt awA aou aiu
attribute [go_sem] aNr aNs blN aNq awz aot ait aNo aNp blM
attribute [go_sem] aNn awy aos ais aNl aNm blL aNk awx aor
attribute [go_sem] air aNi aNj blK aNg awv aop aiq aNe aNf
attribute [go_sem] blJ aNd awu aoo aip aNb aNc blI aNa awt
attribute [go_sem] aon aio aM8 aM9 blH aM7 aws aom ain aM5
attribute [go_sem] aM6 blG aM4 awr aol aim aM2 aM3 blF aM1
attribute [go_sem] awq aok ail aMZ aM0 blE aMY awo aoj aik
attribute [go_sem] aMW aMX blD aMV awn aoi aij aMT aMU blC
attribute [go_sem] aMS awm aoh aii aMQ aMR blB aMO awk aof
attribute [go_sem] aih aMM aMN blA aML awj aoe aig aMJ aMK
attribute [go_sem] blz aMI awi aod aif aMG aMH bly aMF awh
attribute [go_sem] aoc aie aMD aME blx aMC awg aob aid aMA
attribute [go_sem] aMB bh0 blw aMz awf an9 aic aMx aMy aRY
attribute [go_sem] aVk aRX aVj bkw blv aMw awe an7 aib aMu
attribute [go_sem] aMv aRW aVi aRV aVh bkv blu aMt awd an6
attribute [go_sem] aia aMr aMs bls aMq awc an5 ah9 aMo aMp
attribute [go_sem] blr aMn awb an4 ah8 aMl aMm blq aMj av9
attribute [go_sem] an2 ah7 aMh aMi blp aMg av8 an1 ah6 aMe
attribute [go_sem] aMf blo aMd av7 an0 ah5 aMb aMc bln aMa
attribute [go_sem] av6 anZ ah4 aL8 aL9 aRU aVg bku blm aL7
attribute [go_sem] av5 anX ah3 aL5 aL6 aRT aVf aRS aVe bkt
attribute [go_sem] bll aL4 av4 anW ah2 aL2 aL3 aRR aVd aRQ
attribute [go_sem] aVc bks blk aL1 av3 anU ah1 aLZ aL0 aRP
attribute [go_sem] aVb aRO aVa bkr blj aLY av2 anT ah0 aLW
attribute [go_sem] aLX aRN aU9 aRM aU8 bkq bli aLV av1 anS
attribute [go_sem] ahZ aLT aLU blh aLS av0 anQ ahY aLQ aLR
attribute [go_sem] aRL aU7 aRK aU6 bkp blg aLO avY anO ahX
attribute [go_sem] aLM aLN aRJ aU5 aRI aU4 bko blf aLL avX
attribute [go_sem] anN ahW aLJ aLK bld aLI avW anM ahV aLG
attribute [go_sem] aLH blc aLF avV anL ahU aLD aLE blb aLC
attribute [go_sem] avU anK ahT aLA aLB bla aLz avT anJ ahS
attribute [go_sem] aLx aLy bk9 aLw avS anI ahR aLu aLv bk8
attribute [go_sem] aLt avR anH ahQ aLr aLs bk7 aLq avQ anG
attribute [go_sem] ahP aLo aLp be7 aF2 asb al1 afz aF0 aF1
attribute [go_sem] be6 aFZ asa al0 afy aFX aFY be5 aFW ar9
attribute [go_sem] alZ afx aFU aFV be4 aFT ar8 alY afw aFR
attribute [go_sem] aFS be3 aFQ ar7 alX afv aFO aFP aUL be2
attribute [go_sem] aFN ar6 alW afu aFL aFM aIl aP6 aIk aP5
attribute [go_sem] bbs be1 aFK ar5 alV aft aFI aFJ aIj aP4
attribute [go_sem] aIi aP3 bbr be0 aFH ar4 alU afs aFF aFG
attribute [go_sem] aUK beZ aFE ar3 alT afr aFC aFD aIh aP2
attribute [go_sem] aIg aP1 bbq beY aFA ar1 alR afq aFy aFz
attribute [go_sem] aIf aP0 aIe aPZ bbp beX aFx ar0 alQ afp
attribute [go_sem] aFv aFw beW aFu arZ alP afo aFs aFt beV
attribute [go_sem] aFr arY alO afn aFp aFq beU aFo arX alN
attribute [go_sem] afm aFm aFn beT aFl arW alM afl aFj aFk
attribute [go_sem] beS aFi arV alL afk aFg aFh aId aPY aIc
attribute [go_sem] aPX aIb aPW bbo beR aFf arU alK afj aFd
attribute [go_sem] aFe aIa aPV aH9 aPU aH8 aPT bbn beQ aFc
attribute [go_sem] arT alJ afi aFa aFb beP aE9 arS alI afh
attribute [go_sem] aE7 aE8 beO aE5 arQ alG afg aE3 aE4 beN
attribute [go_sem] aE2 arP alD aff aE0 aE1 beM aEZ arO alC
attribute [go_sem] afe aEX aEY beL aEW arN alB afd aEU aEV
attribute [go_sem] beK aET arM alz afc aER aES aH7 aPS aH6
attribute [go_sem] aPR bbm beJ aEQ arL aly afb aEO aEP aH5
attribute [go_sem] aPQ aH4 aPP bbl beI aEN arK alx afa aEL
attribute [go_sem] aEM beH aEK arJ alw ae9 aEI aEJ beG aEH
attribute [go_sem] arI alv ae8 aEF aEG beF aED arG alt ae7
attribute [go_sem] aEB aEC beE aEA arF als ae6 aEy aEz beD
attribute [go_sem] aEx arE alr ae5 aEv aEw beC aEu arD alq
attribute [go_sem] ae4 aEs aEt beB aEr arC alp ae3 aEp aEq
attribute [go_sem] beA aEo arB alo ae2 aEm aEn bez aEl arA
attribute [go_sem] aln ae1 aEj aEk bey aEi arz alm ae0 aEg
attribute [go_sem] aEh bex aEf ary alk aeZ aEd aEe bew aEc
attribute [go_sem] arx alj aeY aEa aEb bev aD9 arw ali aeX
attribute [go_sem] aD7 aD8 beu aD6 arv alh aeW aD4 aD5 bet
attribute [go_sem] aD3 aru alg aeV aD1 aD2 bes aD0 art alf
attribute [go_sem] aeU aDY aDZ ber aDX ars ale aeT aDV aDW
attribute [go_sem] bep aDU arq ald aeS aDS aDT beo aDR arp
attribute [go_sem] alc aeR aDP aDQ ben aDO aro alb aeQ aDM
attribute [go_sem] aDN bem aDL arn ala aeP aDJ aDK bel aDI
attribute [go_sem] arm ak9 aeO aDG aDH bek aDF arl ak8 aeN
attribute [go_sem] aDD aDE bej aDC ark ak7 aeM aDA aDB bei
attribute [go_sem] aDz arj ak6 aeL aDx aDy beh aDw ari ak5
attribute [go_sem] aeK aDu aDv beg aDt arh ak4 aeJ aDr aDs
attribute [go_sem] bef aDq arg ak3 aeI aDo aDp bee aDn arf
attribute [go_sem] ak2 aeH aDl aDm bed aDk ard ak1 aeG aDi
attribute [go_sem] aDj bec aDh arc ak0 aeF aDf aDg beb aDe
attribute [go_sem] arb akZ aeE aDc aDd bea aDb ara akY aeD
attribute [go_sem] aC9 aDa bd9 aC8 aq9 akX aeC aC6 aC7 bd8
attribute [go_sem] aC5 aq8 akW aeB aC3 aC4 bd7 aC2 aq7 akV
attribute [go_sem] aeA aC0 aC1 bd6 aCZ aq6 akU aez aCX aCY
attribute [go_sem] bd5 aCW aq5 akT aey aCU aCV bd2 aCT aq4
attribute [go_sem] akS aex aCR aCS bd1 aCQ aq3 akR aew aCO
attribute [go_sem] aCP bd0 aCN aq2 akQ aev aCL aCM bdZ aCK
attribute [go_sem] aq1 akP aeu aCI aCJ bdY aCH aq0 akO aet
attribute [go_sem] aCF aCG bdX aCE aqZ akN aes aCC aCD bdW
attribute [go_sem] aCB aqY akM aer aCz aCA bdV aCy aqX akL
attribute [go_sem] aeq aCw aCx bdU aCv aqW akK aep aCt aCu
attribute [go_sem] bdT aCs aqV akJ aeo aCq aCr aH3 aPO aH2
attribute [go_sem] aPN aH1 aPM bbk bdS aCp aqU akI aen aCn
attribute [go_sem] aCo aH0 aPL aHZ aPK aHY aPJ bbj bdR aCm
attribute [go_sem] aqT akH aem aCk aCl bdQ aCj aqS akG ael
attribute [go_sem] aCh aCi bdP aCg aqR akF aek aCe aCf bdO
attribute [go_sem] aCd aqQ akE aej aCb aCc bdN aCa aqP akD
attribute [go_sem] aei aB8 aB9 bdM aB7 aqO akC aeh aB5 aB6
attribute [go_sem] bdL aB4 aqN akB aeg aB2 aB3 bdK aB1 aqM
attribute [go_sem] akA aef aBZ aB0 bdJ aBY aqL akz aee aBW
attribute [go_sem] aBX bdI aBV aqK aky aed aBT aBU bdH aBS
attribute [go_sem] aqJ akx aec aBQ aBR bdG aBP aqI akw aeb
attribute [go_sem] aBN aBO bdF aBM aqH akv aea aBK aBL bdE
attribute [go_sem] aBJ aqG aku ad9 aBH aBI bdD aBG aqF akt
attribute [go_sem] ad8 aBE aBF bdC aBD aqE aks ad7 aBB aBC
attribute [go_sem] bdB aBA aqD akr ad6 aBy aBz aUJ bdA aBx
attribute [go_sem] aqC akq ad5 aBv aBw bdz aBu aqB akp ad4
attribute [go_sem] aBs aBt bdy aBr aqA ako ad3 aBp aBq bdx
attribute [go_sem] aBn aqy akn ad2 aBl aBm bdw aBk aqx akm
attribute [go_sem] ad1 aBi aBj bdv aBh aqw akl ad0 aBf aBg
attribute [go_sem] bdu aBe aqv akk adY aBc aBd bdt aBb aqu
attribute [go_sem] akj adX aA9 aBa bds aA8 aqt aki adW aA6
attribute [go_sem] aA7 bdr aA5 aqs akh adV aA3 aA4 bdq aA2
attribute [go_sem] aqr akg adU aA0 aA1 bdp aAZ aqq akf adT
attribute [go_sem] aAX aAY bdo aAW aqp ake adR aAU aAV bdn
attribute [go_sem] aAT aqo akd adQ aAR aAS bdm aAQ aqn akc
attribute [go_sem] adP aAO aAP bdl aAN aqm akb adO aAL aAM
attribute [go_sem] bdk aAK aql aka adN aAI aAJ bdj aAH aqk
attribute [go_sem] aj9 adL aAF aAG bdi aAE aqj aj8 adK aAC
attribute [go_sem] aAD bdh aAB aqi aj7 adJ aAz aAA bdg aAx
attribute [go_sem] aqg aj5 adI aAv aAw bdf aAu aqf aj4 adH
attribute [go_sem] aAs aAt bde aAr aqe aj3 adG aAp aAq bdd
attribute [go_sem] aAo aqd aj2 adF aAm aAn bdc aAl aqc aj1
attribute [go_sem] adE aAj aAk bdb aAi aqb aj0 adD aAg aAh
attribute [go_sem] bda aAf aqa ajZ adC aAd aAe bc9 aAc ap9
attribute [go_sem] ajY adB aAa aAb bc8 az9 ap8 ajX adA az7
attribute [go_sem] az8 bc7 az6 ap7 ajW adz az4 az5 bc6 az2
attribute [go_sem] ap5 ajU ady az0 az1 bc5 azZ ap4 ajT adx
attribute [go_sem] azX azY bc4 azW ap3 ajS adw azU azV bc3
attribute [go_sem] azT ap2 ajR adv azR azS bc2 azQ ap1 ajQ
attribute [go_sem] adu azO azP bc1 azN ap0 ajP adt azL azM
attribute [go_sem] bc0 azK apZ ajO ads azI azJ bcZ azH apY
attribute [go_sem] ajN adr azF azG bcY azE apX ajM adq azC
attribute [go_sem] azD bcX azA apU ajK adp azy azz bcW azx
attribute [go_sem] apT ajJ ado azv azw bcV azu apS ajI adn
attribute [go_sem] azs azt bcU azr apR ajH adm azp azq bcT
attribute [go_sem] azo apQ ajG adl azm azn bcS azl apP ajF
attribute [go_sem] adk azj azk bcR azi apO ajE adj azg azh
attribute [go_sem] bcQ azf apN ajD adi azd aze bcP azc apM
attribute [go_sem] ajC adh aza azb bcO ay8 apJ ajA adg ay6
attribute [go_sem] ay7 bcN ay5 apI ajz adf ay3 ay4 bcM ay2
attribute [go_sem] apH ajy ade ay0 ay1 bcL ayZ apG ajx adc
attribute [go_sem] ayX ayY bcK ayW apF ajw adb ayU ayV bcJ
attribute [go_sem] ayT apD ajv ada ayR ayS bcI ayQ apC aju
attribute [go_sem] ac9 ayO ayP bcH ayN apB ajt ac8 ayL ayM
attribute [go_sem] bcG ayK apA ajs ac7 ayI ayJ bcF ayG apy
attribute [go_sem] ajq ac6 ayE ayF bcE ayD apx ajp ac5 ayB
attribute [go_sem] ayC bcD ayA apw ajo ac4 ayy ayz bcC ayx
attribute [go_sem] apv ajn ac3 ayv ayw bcB ayu apu ajm ac2
attribute [go_sem] ays ayt bcA ayr apt ajl ac1 ayp ayq bcz
attribute [go_sem] ayo apr ajk ac0 aym ayn bcy ayl apq ajj
attribute [go_sem] acZ ayj ayk bcx ayi app aji acY ayg ayh
attribute [go_sem] bcw ayf apo ajh acX ayd aye bcv ayc apn
attribute [go_sem] ajg acW aya ayb bcu ax9 apm ajf acV ax7
attribute [go_sem] ax8 bct ax6 apl aje acU ax4 ax5 bcs ax3
attribute [go_sem] apk ajd acT ax1 ax2 bcr ax0 apj ajc acS
attribute [go_sem] axY axZ bcq axX api ajb acR axV axW bcp
attribute [go_sem] axU aph aja acQ axS axT bco axQ apf ai8
attribute [go_sem] acP axO axP bcn axN ape ai7 acO axL axM
attribute [go_sem] bcm axK apd ai6 acN axI axJ bcl axH apc
attribute [go_sem] ai5 acM axF axG bck axE apb ai4 acL axC
attribute [go_sem] axD bcj axB apa ai3 acK axz axA bci axx
attribute [go_sem] ao7 ai1 acJ axv axw bch axu ao6 ai0 acI
attribute [go_sem] axs axt bcg axr ao5 aiZ acH axp axq bcf
attribute [go_sem] axo ao4 aiY acG axm axn bce axl ao3 aiX
attribute [go_sem] acF axj axk bcd axi ao2 aiW acE axg axh
attribute [go_sem] bcc axf ao1 aiV acD axd axe bcb axa aoX
attribute [go_sem] aiT acC aw8 aw9 bca aw7 aoW aiS acB aw5
attribute [go_sem] aw6 bb9 aw4 aoV aiR acA aw2 aw3 bb8 aw1
attribute [go_sem] aoU aiQ acz awZ aw0 bnN bnM bnL bnK bnJ
attribute [go_sem] bnI bnH bnG bkf bke bkd bkc bkb bka bj9
attribute [go_sem] bj8 bj7 bj6 bj5 bj4 bj3 bj2 bj1 bj0 bjZ
attribute [go_sem] bjY bjX bjW bjV bjU bjT bjS bjR bjQ bjP
attribute [go_sem] bjO bjN bjM bjL bjK bjJ bjI bjH bjG bjF
attribute [go_sem] bjE bjD bjC bjB bjA bjz bjy bjx bjw bjv
attribute [go_sem] bju bjt bjs bjr bjq bjp bjo bjn bjm bjl
attribute [go_sem] bjk bjj bji bjh bjg bjf bje bjd bjc bjb
attribute [go_sem] bja bi9 bi8 bi7 bi6 bi5 bi4 bi3 bi2 bi1
attribute [go_sem] bi0 biZ biY biX biW biV biU biT biS biR
attribute [go_sem] biQ biP biO baC baB baA baz bay bax baw
attribute [go_sem] bav bau bat bas bar baq bap bao ban bam
attribute [go_sem] bal bak baj bai bah bag baf bae bac bab
attribute [go_sem] baa aZ9 aZ8 aZ7 aZ6 aZ5 aZ4 aZ3 aZ2 aZ1
attribute [go_sem] aZ0 aZZ aZY aZX aZW aZV aZU aZT aZS aZR
attribute [go_sem] aZQ aZP aZO aZN aZM aZL aZK aZJ aZI aZH
attribute [go_sem] aZG aZF aZE aZD aZC aZB aZA aZz aZy aZx
attribute [go_sem] aZw aZv aZu aZt aZs aZr aZq aZp aZo aZn
attribute [go_sem] aZm aZl aZk aZj aZi aZh aZg aZf aZe aZd
attribute [go_sem] aZc aZb aZa aY9 aY8 aY7 aY6 aY5 aY4 aY3
attribute [go_sem] aY2 aY1 aY0 aYZ aYY aYX aYW aYV aYU aYT
attribute [go_sem] aYS aYR aYQ aYP aYO aYN aYM aYL aYK aYJ
attribute [go_sem] aYI aYH aYG aYF aYE aYD aYC aYB aYA aYz
attribute [go_sem] aYy aYx aYw aYv aYu aYt aYs aYr aYq aYp
attribute [go_sem] aYo aYn aYm aYl aYk aYj aYi aYh aYg aYf
attribute [go_sem] aYe aYd aYc aYb aYa aX9 aX8 aX7 aX6 aX5
attribute [go_sem] aX4 aX3 aX2 aX1 aX0 aXZ aXY aXX aXW aXV
attribute [go_sem] aXU aXT aXS aXR aXQ aXP aXO aXN aXM aXL
attribute [go_sem] aXK aXJ aXI aXH aXG aXF aXE aXD aXC aXB
attribute [go_sem] aXA aXz aXy aXx aXw aXv aXu aXt aXs aXr
attribute [go_sem] aXq aXp aXo aXn aXm aXl aXk aXj aXi aXh
attribute [go_sem] aXg aXf aXe aXd aXc aXb aXa aW9 aW8 aW7
attribute [go_sem] aW6 aW5 aW4 aW3 aW2 aW1 aW0 aWZ aWY aWX
attribute [go_sem] aWW aWV aWU aWT aWS aWR
end Go.Ab
namespace Go.Ab
open Go Go.Proofs
set_option maxRecDepth 100000 in
theorem agu(U V:List Int)(j:Nat)(hU:gd U)(hV:gd V)(lU:U.length≤2000000)(h2:2≤V.length)(hj:j+V.length<U.length)(hv1:32768≤V.getD (V.length-1) 0)(hW:vl (U.drop j)<65536*vl V):
  Con Tryz.prog 329 true [.sl U.length (qe U),.sl V.length (qe V),.v (.int .i64 j)] [] (fun r hs bs=>∃q:Int,r=.v (.int .i64 q)∧hs=[]∧bs=[]∧(0≤q∧q<65536)∧vl (U.drop j)<(q+1)*vl V∧q*vl V<vl (U.drop j)+vl V):=by
 refine Con.of_aw Tryz.func329 rfl Tryz.ntmps329 (by simp) (by simp) (by simp) (W.sound ?_)
 show @W Tryz.prog 76 ⟨_⟩ ⟨fun x σ=>@q8 _ _ _ ⟨_⟩ _ ⟨_⟩ x σ⟩ _ _
 have hDl:V.length<(U.drop j).length:=by simp;omega
 have hz:=agQ (yV hU j) hV hDl hW
 have hw:=aTQ hDl h2 hz
 have hvv:=aLe h2
 rw[jk,jk,jk]at hw
 have hx0:=q6 (yD (yV hU j) (V.length-2))
 have hx1:=ZK (yD (yV hU j) (V.length-2))
 have hy0:=q6 (yD hV (V.length-2))
 have hy1:=ZK (yD hV (V.length-2))
 rw[List.length_take,Nat.min_eq_left (by omega)]at hx1 hy1
 have gu0:=qO hU (j+V.length)
 have gu1:=qO hU (j+(V.length-1))
 have gu2:=qO hU (j+(V.length-2))
 have gv1:=qO hV (V.length-1)
 have gv2:=qO hV (V.length-2)
 have htop:=aWg hw hvv ⟨hx0,hx1⟩ ⟨hy0,hy1⟩ gu2.1 gu1.1 gv2.2 hW
 have e0:((j:Int)+(V.length:Int)).toNat=j+V.length:=by omega
 have e1:((j:Int)+(V.length:Int)-1).toNat=j+(V.length-1):=by omega
 have e2:((j:Int)+(V.length:Int)-2).toNat=j+(V.length-2):=by omega
 have f1:((V.length:Int)-1).toNat=V.length-1:=by omega
 have f2:((V.length:Int)-2).toNat=V.length-2:=by omega
 simp(disch:=omega)only[go_sem]
 refine qv rfl [⟨0,[],[]⟩,⟨1,[],[]⟩,⟨2,[],[]⟩,⟨3,[],[]⟩,⟨4,[],[]⟩,⟨5,[],[]⟩,⟨6,[],[]⟩,⟨7,[5],[]⟩,⟨8,[5],[]⟩,⟨9,[5],[]⟩,⟨10,[5],[]⟩,⟨11,[5],[]⟩,⟨12,[5],[]⟩,⟨13,[5],[]⟩,⟨14,[],[]⟩,⟨15,[],[]⟩] (by kernel_rfl) ?_
 simp(disch:=omega)only[go_sem,e0,e1]
 generalize hu0:U.getD (j+V.length) 0=u0 at*
 generalize hu1:U.getD (j+(V.length-1)) 0=u1 at*
 generalize hu2:U.getD (j+(V.length-2)) 0=u2 at*
 refine⟨by omega,by omega,by omega,by omega,?_⟩
 refine qv rfl [⟨0,[],[]⟩,⟨1,[],[]⟩,⟨2,[],[]⟩,⟨3,[],[]⟩,⟨4,[],[]⟩,⟨5,[],[]⟩,⟨6,[],[]⟩,⟨7,[5],[]⟩,⟨8,[5],[]⟩,⟨9,[5],[]⟩,⟨10,[5],[]⟩,⟨11,[5],[]⟩,⟨12,[5],[]⟩,⟨13,[5],[]⟩,⟨14,[12],[]⟩,⟨15,[],[]⟩] (by kernel_rfl) ?_
 simp(disch:=omega)only[go_sem,f1]
 generalize hvv1:V.getD (V.length-1) 0=v1 at*
 generalize hvv2:V.getD (V.length-2) 0=v2 at*
 generalize htt:u0*65536+u1=top at*
 refine⟨by omega,by omega,by omega,by omega,by omega,by omega,?_⟩
 have hq0:0≤top/v1:=Int.ediv_nonneg (by omega) (by omega)
 have hq1:top/v1≤65537:=by
  have:top/v1<65538:=Int.ediv_lt_of_lt_mul (by omega) (by omega)
  omega
 have hr0:=Int.emod_nonneg top (show v1≠0 by omega)
 have hr1:=Int.emod_lt_of_pos top (show 0<v1 by omega)
 have hqr:=Int.emod_add_mul_ediv top v1
 have hini:=aQ9 hw hvv ⟨hx0,hx1⟩ ⟨hy0,hy1⟩ gu2 gv2.1 hq0 (show top<(top/v1+1)*v1 by rw[Int.add_mul,Int.mul_comm (top/v1)];omega)
 have hqr':top/v1*v1+top % v1=top:=by rw[Int.mul_comm];omega
 generalize top/v1=q0 at*
 generalize top % v1=r0 at*
 refine qi (fun x:Int×Int=>[(0,.sl U.length (qe U)),(1,.sl V.length (qe V)),(2,.v (.int .i64 j)),(7,.v (.int .i64 V.length)),(9,.v (.int .i64 x.1)),(10,.v (.int .i64 x.2))])
  (fun _=>[]) (fun x=>(0≤x.1∧x.1≤65537)∧(0≤x.2∧x.2<65536)∧x.1*v1+x.2=top∧vl (U.drop j)<(x.1+1)*vl V) (fun x=>x.1.toNat) (q0,r0) ⟨⟨hq0,hq1⟩,⟨hr0,by omega⟩,hqr',hini⟩
  (Le.lst [] _ _ rfl (by simp(disch:=omega)only[go_sem];try omega) (by simp(disch:=omega)only[go_sem])) ?_
 rintro⟨q,r⟩ ⟨hq,hr,hqr2,hlt⟩
 dsimp only at hq hr hqr2 hlt ⊢
 have hqv:0≤q*v2∧q*v2≤65537*65535:=⟨Int.mul_nonneg hq.1 gv2.1,Int.mul_le_mul hq.2 (by omega) gv2.1 (by omega)⟩
 simp(disch:=omega)only[go_sem]
 refine qv rfl [⟨0,[],[]⟩,⟨1,[],[]⟩,⟨2,[],[]⟩,⟨3,[],[]⟩,⟨4,[],[]⟩,⟨5,[],[]⟩,⟨6,[],[]⟩,⟨7,[],[]⟩,⟨8,[],[]⟩,⟨9,[],[]⟩,⟨10,[8],[]⟩,⟨11,[8],[]⟩,⟨12,[8],[]⟩,⟨13,[8],[]⟩,⟨14,[8],[]⟩,⟨15,[8],[]⟩,⟨16,[8],[]⟩,⟨17,[8],[]⟩,⟨18,[8],[]⟩,⟨19,[8],[]⟩,⟨20,[],[]⟩,⟨21,[],[]⟩] (by kernel_rfl) ?_
 simp(disch:=omega)only[go_sem]
 refine zO (fun h1=>?_) (fun h1=>?_)
 ·simp(disch:=omega)only[go_sem,h1,e2,f2,hu2,hvv2]
  refine⟨by omega,by omega,by omega,by omega,qg (fun h2=>?_) (fun h2=>?_)⟩
  ·simp(disch:=omega)only[go_sem,h2,f1,hvv1]
   have hst:=atp hw hvv ⟨hx0,hx1⟩ ⟨hy0,hy1⟩ hW gv2.1 (by omega) hq.1 hqr2 (.inr h2)
   have hqp:0<q:=by
    rcases(by omega:0<q∨q=0)with h|h
    ·exact h
    ·subst h;omega
   have hm:(q-1)*v1+(r+v1)=top:=by rw[Int.sub_mul];omega
   refine⟨by omega,by omega,qg (fun h3=>?_) (fun h3=>?_)⟩
   ·simp(disch:=omega)only[go_sem,h3]
    have h4:q-1<65536:=by
     rcases(by omega:q-1<65536∨65536≤q-1)with h|h
     ·exact h
     ·have:=Int.mul_le_mul_of_nonneg_right h (show 0≤v1 by omega)
      omega
    have h5:(q-1)*v2≤(r+v1)*65536+u2:=by
     have:(q-1)*v2≤65535*65535:=Int.mul_le_mul (by omega) (by omega) gv2.1 (by omega)
     omega
    have h6:=afS hw hvv ⟨hx0,hx1⟩ ⟨hy0,hy1⟩ gv2.1 (by omega) ⟨by omega,h4⟩ hm h5
    exact qz (by simp(disch:=omega)only[go_sem]) (by simp(disch:=omega)only[go_sem]) ⟨q-1,rfl,rfl,rfl,⟨by omega,h4⟩,by rw[show q-1+1=q by omega];exact hst,h6⟩
   ·simp(disch:=omega)only[go_sem,h3]
    refine qb (q-1,r+v1) [] ⟨by show 0≤q-1∧q-1≤65537;omega,by show 0≤r+v1∧r+v1<65536;omega,hm,by show _<(q-1+1)*vl V;rw[show q-1+1=q by omega];exact hst⟩ (by show(q-1).toNat<q.toNat;omega) rfl (by simp(disch:=omega)only[go_sem];try omega) (by simp(disch:=omega)only[go_sem])
  ·simp(disch:=omega)only[go_sem,h2]
   have h6:=afS hw hvv ⟨hx0,hx1⟩ ⟨hy0,hy1⟩ gv2.1 (by omega) ⟨hq.1,by omega⟩ hqr2 (by omega)
   exact qz (by simp(disch:=omega)only[go_sem]) (by simp(disch:=omega)only[go_sem]) ⟨q,rfl,rfl,rfl,⟨hq.1,by omega⟩,hlt,h6⟩
 ·simp(disch:=omega)only[go_sem,h1,f1,hvv1]
  have hst:=atp hw hvv ⟨hx0,hx1⟩ ⟨hy0,hy1⟩ hW gv2.1 (by omega) hq.1 hqr2 (.inl h1)
  have hqp:0<q:=by omega
  have hm:(q-1)*v1+(r+v1)=top:=by rw[Int.sub_mul];omega
  refine⟨by omega,by omega,qg (fun h3=>?_) (fun h3=>?_)⟩
  ·simp(disch:=omega)only[go_sem,h3]
   have h4:q-1<65536:=by
    rcases(by omega:q-1<65536∨65536≤q-1)with h|h
    ·exact h
    ·have:=Int.mul_le_mul_of_nonneg_right h (show 0≤v1 by omega)
     omega
   have h5:(q-1)*v2≤(r+v1)*65536+u2:=by
    have:(q-1)*v2≤65535*65535:=Int.mul_le_mul (by omega) (by omega) gv2.1 (by omega)
    omega
   have h6:=afS hw hvv ⟨hx0,hx1⟩ ⟨hy0,hy1⟩ gv2.1 (by omega) ⟨by omega,h4⟩ hm h5
   exact qz (by simp(disch:=omega)only[go_sem]) (by simp(disch:=omega)only[go_sem]) ⟨q-1,rfl,rfl,rfl,⟨by omega,h4⟩,by rw[show q-1+1=q by omega];exact hst,h6⟩
  ·simp(disch:=omega)only[go_sem,h3]
   refine qb (q-1,r+v1) [] ⟨by show 0≤q-1∧q-1≤65537;omega,by show 0≤r+v1∧r+v1<65536;omega,hm,by show _<(q-1+1)*vl V;rw[show q-1+1=q by omega];exact hst⟩ (by show(q-1).toNat<q.toNat;omega) rfl (by simp(disch:=omega)only[go_sem];try omega) (by simp(disch:=omega)only[go_sem])
end Go.Ab
namespace Go.Ab
open Go Go.Proofs
theorem abP(U V:List Int)(j:Nat)(q:Int)(hU:gd U)(hV:gd V)(lU:U.length≤2000000)(hj:j+V.length<U.length)(hq:0≤q∧q<65536):
  Con Tryz.prog 330 false [.rf 10000000 0 U.length,.sl V.length (qe V),.v (.int .i64 j),.v (.int .i64 q)] [.own 1 (qe U)]
   (fun r hs bs=>∃(U':List Int) (bo:Int),r=.v (.bool (decide (U.getD (j+V.length) 0-bo<0)))∧hs=[]∧bs=[.own 1 (qe (U'.set (j+V.length) (U.getD (j+V.length) 0-bo)))]∧
    U'.length=U.length∧gd U'∧(0≤bo∧bo<65536)∧(∀t,t<j∨j+V.length≤t→U'.getD t 0=U.getD t 0)∧vl U'-65536^(j+V.length)*bo=vl U-65536^j*(q*vl V)):=by
 refine Con.of_aw Tryz.func330 rfl Tryz.ntmps330 (by simp) (by simp) (by simp) (W.sound ?_)
 show @W Tryz.prog 68 ⟨_⟩ ⟨fun x σ=>@q8 _ _ _ ⟨_⟩ _ ⟨_⟩ x σ⟩ _ _
 simp(disch:=omega)only[go_sem]
 refine qi (fun x:Nat×List Int×Int=>[(0,.rf 10000000 0 U.length),(1,.sl V.length (qe V)),(2,.v (.int .i64 j)),(3,.v (.int .i64 q)),(9,.v (.int .i64 x.2.2)),(13,.sl V.length (qe V)),(14,.v (.int .i64 V.length)),(15,.v (.int .i64 x.1))])
  (fun x=>[(10000000,.own 1 (qe x.2.1))])
  (fun x=>x.1≤V.length∧x.2.1.length=U.length∧gd x.2.1∧(0≤x.2.2∧x.2.2<65536)∧(∀t,t<j∨j+x.1≤t→x.2.1.getD t 0=U.getD t 0)∧vl x.2.1-65536^(j+x.1)*x.2.2=vl U-65536^j*(q*vl (V.take x.1)))
  (fun x=>V.length-x.1) (0,U,0) ⟨by simp,rfl,hU,by simp,fun _ _=>rfl,by simp[vl]⟩
  (Le.lst [] _ _ rfl (by simp(disch:=omega)only[go_sem];try omega) (by simp(disch:=omega)only[go_sem])) ?_
 rintro⟨i,U1,bo⟩ ⟨hi,hl1,hg1,hbo,hsame,hval⟩
 dsimp only at hi hl1 hg1 hbo hsame hval ⊢
 simp(disch:=omega)only[go_sem]
 refine qg (fun h1=>?_) (fun h1=>?_)
 ·have hx:=qO hV i
  have hu:=qO hg1 (j+i)
  have hqx:0≤q*V.getD i 0∧q*V.getD i 0≤65535*65535:=⟨Int.mul_nonneg hq.1 hx.1,Int.mul_le_mul (by omega) (by omega) hx.1 (by omega)⟩
  have e1:((j:Int)+(i:Int)).toNat=j+i:=by omega
  have hstep:∀d b:Int,d-65536*b=U1.getD (j+i) 0-q*V.getD i 0-bo→vl (U1.set (j+i) d)-65536^(j+(i+1))*b=vl U-65536^j*(q*vl (V.take (i+1))):=by
   intro d b hd
   rw[Zw (by omega),zh,←Nat.add_assoc,Int.pow_succ]
   have e3:(65536:Int)^(j+i)=65536^j*65536^i:=Int.pow_add _ _ _
   rw[e3]at hval ⊢
   generalize (65536:Int)^i=Pi at*
   generalize (65536:Int)^j=Pj at*
   grind
  have hsm:∀d:Int,∀t,t<j∨j+(i+1)≤t→(U1.set (j+i) d).getD t 0=U.getD t 0:=fun d t ht=>by
   rw[jI (by omega),if_neg (by omega)];exact hsame t (by omega)
  simp(disch:=omega)only[go_sem,h1,e1]
  refine⟨by omega,by omega,by omega,by omega,qg (fun h2=>?_) (fun h2=>?_)⟩
  ·simp(disch:=omega)only[go_sem,h2,e1]
   generalize hb:(0-(U1.getD (j+i) 0-q*V.getD i 0-bo)+65536-1)/65536=b
   refine⟨by omega,by omega,qb (i+1,U1.set (j+i) (U1.getD (j+i) 0-q*V.getD i 0-bo+b*65536),b) [] ⟨by show i+1≤_;omega,by simp[hl1],Ql hg1 (by omega),by show 0≤b∧b<65536;omega,hsm _,hstep (U1.getD (j+i) 0-q*V.getD i 0-bo+b*65536) b (by omega)⟩
    (by show V.length-(i+1)<V.length-i;omega) rfl (by simp(disch:=omega)only[go_sem];try omega) (by simp(disch:=omega)only[go_sem])⟩
  ·simp(disch:=omega)only[go_sem,h2,e1]
   refine⟨by omega,by omega,qb (i+1,U1.set (j+i) (U1.getD (j+i) 0-q*V.getD i 0-bo),0) [] ⟨by show i+1≤_;omega,by simp[hl1],Ql hg1 (by omega),by simp,hsm _,hstep (U1.getD (j+i) 0-q*V.getD i 0-bo) 0 (by omega)⟩
    (by show V.length-(i+1)<V.length-i;omega) rfl (by simp(disch:=omega)only[go_sem];try omega) (by simp(disch:=omega)only[go_sem])⟩
 ·have hiA:i=V.length:=by omega
  subst hiA
  rw[List.take_length]at hval
  have e1:((j:Int)+(V.length:Int)).toNat=j+V.length:=by omega
  have hu:=qO hg1 (j+V.length)
  have es:=hsame (j+V.length) (by omega)
  have eg:(U1.set (j+V.length) (U.getD (j+V.length) 0-bo)).getD (j+V.length) 0=U.getD (j+V.length) 0-bo:=by rw[jI (by omega),if_pos rfl]
  simp(disch:=omega)only[go_sem,h1,e1,es]
  refine⟨by omega,by omega,by omega,by omega,by omega,by simp;omega,?_⟩
  simp(disch:=omega)only[go_sem,eg]
  refine qh [] [] [.own 1 (qe (U1.set (j+V.length) (U.getD (j+V.length) 0-bo)))] [.v (.bool (decide (U.getD (j+V.length) 0-bo<0)))] rfl (by simp(disch:=omega)only[go_sem]) (by simp(disch:=omega)only[go_sem]) (by simp) (by simp) ⟨U1,bo,rfl,rfl,rfl,hl1,hg1,hbo,hsame,hval⟩
theorem agx(U V:List Int)(j:Nat)(hU:∀t,t≠j+V.length→0≤U.getD t 0∧U.getD t 0<65536)(hUt: -65536≤U.getD (j+V.length) 0∧U.getD (j+V.length) 0<65536)(hV:gd V)(lU:U.length≤2000000)(hj:j+V.length<U.length):
  Con Tryz.prog 331 false [.rf 10000000 0 U.length,.sl V.length (qe V),.v (.int .i64 j)] [.own 1 (qe U)]
   (fun r hs bs=>∃(U':List Int),r=.tu []∧hs=[]∧bs=[.own 1 (qe U')]∧
    U'.length=U.length∧(∀t,t≠j+V.length→0≤U'.getD t 0∧U'.getD t 0<65536)∧(∀t,t<j∨j+V.length<t→U'.getD t 0=U.getD t 0)∧vl U'=vl U+65536^j*vl V):=by
 refine Con.of_aw Tryz.func331 rfl Tryz.ntmps331 (by simp) (by simp) (by simp) (W.sound ?_)
 show @W Tryz.prog 46 ⟨_⟩ ⟨fun x σ=>@q8 _ _ _ ⟨_⟩ _ ⟨_⟩ x σ⟩ _ _
 simp(disch:=omega)only[go_sem]
 refine qi (fun x:Nat×List Int×Int=>[(0,.rf 10000000 0 U.length),(1,.sl V.length (qe V)),(2,.v (.int .i64 j)),(6,.v (.int .i64 x.2.2)),(9,.sl V.length (qe V)),(10,.v (.int .i64 V.length)),(11,.v (.int .i64 x.1))])
  (fun x=>[(10000000,.own 1 (qe x.2.1))])
  (fun x=>x.1≤V.length∧x.2.1.length=U.length∧(∀t,t≠j+V.length→0≤x.2.1.getD t 0∧x.2.1.getD t 0<65536)∧(0≤x.2.2∧x.2.2≤1)∧(∀t,t<j∨j+x.1≤t→x.2.1.getD t 0=U.getD t 0)∧vl x.2.1+65536^(j+x.1)*x.2.2=vl U+65536^j*vl (V.take x.1))
  (fun x=>V.length-x.1) (0,U,0) ⟨by simp,rfl,hU,by simp,fun _ _=>rfl,by simp[vl]⟩
  (Le.lst [] _ _ rfl (by simp(disch:=omega)only[go_sem];try omega) (by simp(disch:=omega)only[go_sem])) ?_
 rintro⟨i,U1,cy⟩ ⟨hi,hl1,hg1,hcy,hsame,hval⟩
 dsimp only at hi hl1 hg1 hcy hsame hval ⊢
 simp(disch:=omega)only[go_sem]
 refine qg (fun h1=>?_) (fun h1=>?_)
 ·have hx:=qO hV i
  have hu:=hg1 (j+i) (by omega)
  have e1:((j:Int)+(i:Int)).toNat=j+i:=by omega
  simp(disch:=omega)only[go_sem,h1,e1]
  generalize hb:cy+(U1.getD (j+i) 0+V.getD i 0)=b
  have hg2:∀t,t≠j+V.length→0≤(U1.set (j+i) (b % 65536)).getD t 0∧(U1.set (j+i) (b % 65536)).getD t 0<65536:=fun t ht=>by
   rw[jI (by omega)]
   split
   ·omega
   ·exact hg1 t ht
  refine⟨by omega,by omega,by omega,by omega,by omega,by omega,qb (i+1,U1.set (j+i) (b % 65536),b/65536) [] ⟨by show i+1≤_;omega,by simp[hl1],hg2,by show 0≤b/65536∧b/65536≤1;omega,fun t ht=>?_,?_⟩
   (by show V.length-(i+1)<V.length-i;omega) rfl (by simp(disch:=omega)only[go_sem];try omega) (by simp(disch:=omega)only[go_sem])⟩
  ·show(U1.set (j+i) (b % 65536)).getD t 0=_
   have ht:t<j∨j+(i+1)≤t:=ht
   rw[jI (by omega),if_neg (by omega)];exact hsame t (by omega)
  ·show vl (U1.set (j+i) (b % 65536))+65536^(j+(i+1))*(b/65536)=vl U+65536^j*vl (V.take (i+1))
   rw[Zw (by omega),zh,←Nat.add_assoc,Int.pow_succ]
   have e3:(65536:Int)^(j+i)=65536^j*65536^i:=Int.pow_add _ _ _
   have e4:b % 65536+65536*(b/65536)=b:=Int.emod_add_mul_ediv b 65536
   rw[e3]at hval ⊢
   generalize (65536:Int)^i=Pi at*
   generalize (65536:Int)^j=Pj at*
   grind
 ·have hiA:i=V.length:=by omega
  subst hiA
  rw[List.take_length]at hval
  have e1:((j:Int)+(V.length:Int)).toNat=j+V.length:=by omega
  have es:=hsame (j+V.length) (by omega)
  simp(disch:=omega)only[go_sem,h1,e1,es]
  refine⟨by omega,by omega,by omega,by omega,?_⟩
  refine qh [] [] [.own 1 (qe (U1.set (j+V.length) (U.getD (j+V.length) 0+cy)))] [] rfl (by simp(disch:=omega)only[go_sem]) (by simp(disch:=omega)only[go_sem]) (by simp) (by simp) ⟨_,rfl,rfl,rfl,by simp[hl1],fun t ht=>?_,fun t ht=>?_,?_⟩
  ·rw[jI (by omega),if_neg ht];exact hg1 t ht
  ·rw[jI (by omega),if_neg (by omega)];exact hsame t (by omega)
  ·rw[Zw (by omega),es]
   generalize (65536:Int)^(j+V.length)=Pj at*
   grind
end Go.Ab
namespace Go.Ab
open Go Go.Proofs
theorem jL(xs:List Int)(hl:xs.length≤2^40):Con Tryz.prog 295 false [.rf 10000000 0 xs.length] [.own 1 (qe xs)] (fun r hs bs=>r=.rf 10000000 0 (JQ xs).length∧hs=[]∧bs=[.own 1 (qe xs)]):=by
 refine Con.of_aw Tryz.func295 rfl Tryz.ntmps295 (by simp) (by simp) (by simp) (W.sound ?_)
 show @W Tryz.prog 21 ⟨_⟩ ⟨fun x σ=>@q8 _ _ _ ⟨_⟩ _ ⟨_⟩ x σ⟩ _ _
 simp(disch:=omega)only[go_sem]
 refine qi (fun m:Nat=>[(0,.rf 10000000 0 m)]) (fun _=>[(10000000,.own 1 (qe xs))]) (fun m=>m≤xs.length∧JQ (xs.take m)=JQ xs) id xs.length ⟨Nat.le_refl _,by simp⟩
  (Le.lst [] _ _ rfl (by simp(disch:=omega)only[go_sem];try omega) (by simp(disch:=omega)only[go_sem])) ?_
 intro m ⟨hm,hx⟩
 have hmx:∀k,k+1=m→xs.take m=xs.take k++[xs.getD k 0]:=fun k hk=>by rw[←hk];exact ye (by omega)
 simp(disch:=omega)only[go_sem]
 refine qg (fun h1=>?_) (fun h1=>?_)
 ·obtain⟨k,rfl⟩:∃k,m=k+1:=⟨m-1,by omega⟩
  have e1:((k+1:Nat):Int)-1=(k:Nat):=by omega
  rw[hmx k rfl]at hx
  simp(disch:=omega)only[go_sem,h1,e1]
  refine⟨by omega,by omega,qg (fun h2=>?_) (fun h2=>?_)⟩
  ·simp(disch:=omega)only[go_sem,h2,e1]
   rw[h2,Q1]at hx
   refine⟨by omega,qb k [] ⟨by omega,hx⟩ (by show k<k+1;omega) rfl (by simp(disch:=omega)only[go_sem];try omega) (by simp(disch:=omega)only[go_sem])⟩
  ·simp(disch:=omega)only[go_sem,h2]
   refine qh [] [] [.own 1 (qe xs)] [.rf 10000000 0 (k+1)] rfl (by simp(disch:=omega)only[go_sem]) (by simp(disch:=omega)only[go_sem]) (by simp) (by simp) ⟨?_,rfl,rfl⟩
   rw[XG _ h2,←hmx k rfl]at hx
   rw[←hx,List.length_take,Nat.min_eq_left hm];rfl
 ·simp(disch:=omega)only[go_sem,h1]
  refine qh [] [] [.own 1 (qe xs)] [.rf 10000000 0 m] rfl (by simp(disch:=omega)only[go_sem]) (by simp(disch:=omega)only[go_sem]) (by simp) (by simp) ⟨?_,rfl,rfl⟩
  have:m=0:=by omega
  subst this
  rw[←hx];rfl
end Go.Ab
namespace Go.Ab
open Go Go.Proofs
theorem atb{x y:Int}(hx:0≤x∧x<65536)(hy:0≤y∧y<65536):0≤x*y∧x*y≤4294836225:=by
 have h1:=Int.mul_nonneg hx.1 hy.1
 have h2:x*y≤65535*65535:=Int.mul_le_mul (by omega) (by omega) hy.1 (by omega)
 omega
theorem aun(cl:Bool)(A B:List Int)(hA:gd A)(hB:gd B)(lA:A.length≤1000000)(lB:B.length≤1000000):
  Con Tryz.prog 252 cl [.sl A.length (qe A),.sl B.length (qe B)] [] (avx (lim (vl A*vl B).toNat)):=by
 refine Con.of_aw Tryz.func252 rfl Tryz.ntmps252 (by simp) (by simp) (by simp) (W.sound ?_)
 show @W Tryz.prog 63 ⟨_⟩ ⟨fun x σ=>@q8 _ _ _ ⟨_⟩ _ ⟨_⟩ x σ⟩ _ _
 simp(disch:=omega)only[go_sem]
 refine⟨⟨by omega,by omega,by omega⟩,?_⟩
 refine qi (fun x:Nat×List Int=>[(1,.sl B.length (qe B)),(5,.rf 180000000 0 (A.length+B.length)),(17,.sl A.length (qe A)),(18,.v (.int .i64 A.length)),(19,.v (.int .i64 x.1))])
  (fun x=>[(180000000,.own 1 (qe x.2))])
  (fun x=>x.1≤A.length∧x.2.length=A.length+B.length∧gd x.2∧vl x.2=vl (A.take x.1)*vl B∧∀j,x.1+B.length≤j→x.2.getD j 0=0)
  (fun x=>A.length-x.1) (0,List.replicate (A.length+B.length) 0) ⟨by simp,by simp,zA _,by simp[zZ,vl],fun j _=>by
   rw[List.getD_eq_getElem?_getD,List.getElem?_replicate];split<;>rfl⟩
  (Le.lst [] _ _ rfl (by simp(disch:=omega)only[go_sem];try omega) (by simp(disch:=omega)only[go_sem,show((A.length:Int)+(B.length:Int)).toNat=A.length+B.length by omega])) ?_
 rintro⟨i,out⟩ ⟨hi,hol,hog,hov,hoz⟩
 dsimp only at hi hol hog hov hoz ⊢
 simp(disch:=omega)only[go_sem]
 refine qg (fun h1=>?_) (fun h1=>?_)
 ·have hx:=qO hA i
  simp(disch:=omega)only[go_sem,h1]
  refine⟨by omega,by omega,?_⟩
  refine qi (fun x:Nat×List Int×Int=>[(1,.sl B.length (qe B)),(5,.rf 180000000 0 (A.length+B.length)),(17,.sl A.length (qe A)),(18,.v (.int .i64 A.length)),(19,.v (.int .i64 i)),(6,.v (.int .i64 i)),
    (7,.v (.int .i64 (A.getD i 0))),(8,.v (.int .i64 x.2.2)),(24,.sl B.length (qe B)),(25,.v (.int .i64 B.length)),(26,.v (.int .i64 x.1))])
   (fun x=>[(180000000,.own 1 (qe x.2.1))])
   (fun x=>x.1≤B.length∧x.2.1.length=A.length+B.length∧gd x.2.1∧(0≤x.2.2∧x.2.2<65536)∧vl x.2.1+65536^(i+x.1)*x.2.2=vl out+65536^i*(A.getD i 0*vl (B.take x.1))∧∀j,i+B.length≤j→x.2.1.getD j 0=0)
   (fun x=>B.length-x.1) (0,out,0) ⟨by simp,hol,hog,by simp,by simp[vl],hoz⟩
   (Le.lst [] _ _ rfl (by simp(disch:=omega)only[go_sem];try omega) (by simp(disch:=omega)only[go_sem])) ?_
  rintro⟨j,o2,cy⟩ ⟨hj,hol2,hog2,hcy,hov2,hoz2⟩
  dsimp only at hj hol2 hog2 hcy hov2 hoz2 ⊢
  simp(disch:=omega)only[go_sem]
  refine qg (fun h2=>?_) (fun h2=>?_)
  ·have hy:=qO hB j
   have ho:=qO hog2 (i+j)
   have hxy:=atb hx hy
   have e1:((i:Int)+(j:Int)).toNat=i+j:=by omega
   simp(disch:=omega)only[go_sem,h2,e1]
   generalize hq:cy+(o2.getD (i+j) 0+A.getD i 0*B.getD j 0)=q
   refine⟨by omega,by omega,by omega,by omega,by omega,by omega,qb (j+1,o2.set (i+j) (q % 65536),q/65536) [] ⟨by show j+1≤_;omega,by simp[hol2],Ql hog2 (by omega),by show 0≤q/65536∧q/65536<65536;omega,?_,fun k hk=>?_⟩
    (by show B.length-(j+1)<B.length-j;omega) rfl (by simp(disch:=omega)only[go_sem];try omega) (by simp(disch:=omega)only[go_sem])⟩
   ·show vl (o2.set (i+j) (q % 65536))+65536^(i+(j+1))*(q/65536)=vl out+65536^i*(A.getD i 0*vl (B.take (j+1)))
    rw[Zw (by omega),jv (by omega),←Nat.add_assoc,Int.pow_succ]
    have e2:(65536:Int)^(i+j)=65536^i*65536^j:=Int.pow_add _ _ _
    have e3:q % 65536+65536*(q/65536)=q:=Int.emod_add_mul_ediv q 65536
    rw[e2]at hov2 ⊢
    generalize (65536:Int)^i=Pi at*
    generalize (65536:Int)^j=Pj at*
    grind
   ·show(o2.set (i+j) (q % 65536)).getD k 0=0
    rw[List.getD_eq_getElem?_getD,List.getElem?_set_ne (by omega),←List.getD_eq_getElem?_getD]
    exact hoz2 k hk
  ·simp(disch:=omega)only[go_sem,h2]
   have e1:((i:Int)+(B.length:Int)).toNat=i+B.length:=by omega
   have hjB:j=B.length:=by omega
   subst hjB
   rw[List.take_length]at hov2
   simp(disch:=omega)only[go_sem,e1]
   refine⟨by omega,by omega,qb (i+1,o2.set (i+B.length) cy) [] ⟨by show i+1≤_;omega,by simp[hol2],Ql hog2 hcy,?_,fun k hk=>?_⟩ (by show A.length-(i+1)<A.length-i;omega) rfl (by simp(disch:=omega)only[go_sem];try omega) (by simp(disch:=omega)only[go_sem])⟩
   ·show vl (o2.set (i+B.length) cy)=vl (A.take (i+1))*vl B
    rw[Zw (by omega),hoz2 _ (Nat.le_refl _),jv (by omega)]
    generalize (65536:Int)^i=Pi at*
    grind
   ·show(o2.set (i+B.length) cy).getD k 0=0
    rw[List.getD_eq_getElem?_getD,List.getElem?_set_ne (by show i+B.length≠k;omega),←List.getD_eq_getElem?_getD]
    exact hoz2 k (by omega)
 ·simp(disch:=omega)only[go_sem,h1]
  have hiA:i=A.length:=by omega
  subst hiA
  rw[List.take_length]at hov
  refine zd false [180000000] (jL out (by omega)) (by rw[←hol];simp(disch:=omega)only[go_sem]) (by simp(disch:=omega)only[go_sem]) rfl (qQ (z:=1) (cs:=qe out) (by simp(disch:=omega)only[go_sem]) (by simp(disch:=omega)only[go_sem])) (by intro n hn;exact⟨_,List.mem_singleton.2 rfl,by rw[List.mem_singleton.1 hn];rfl⟩) ?_
  rintro r hs bs ⟨rfl,rfl,rfl⟩ _
  refine⟨by simp[qR],?_⟩
  simp(disch:=omega)only[go_sem]
  obtain⟨z,hz⟩:=zU out
  have hc:=js hog
  rw[hov]at hc
  rw[hc]at hz ⊢
  refine qh [(0,180000000)] [.own 1 (qe out)] [] [.rf 0 0 (lim (vl A*vl B).toNat).length] rfl (by simp(disch:=omega)only[go_sem]) (by simp(disch:=omega)only[go_sem]) (by simp) (by intro _;simp[zy,AV.pu,AV.pu.puL,Ob.pu,zi]) (.inr ⟨List.replicate z 0,rfl,by rw[←hz]⟩)
end Go.Ab
namespace Go.Ab
open Go Go.Proofs
theorem auq(cl:Bool)(n:Nat)(hn:n<2^63):Con Tryz.prog 157 cl [.v (.int .i64 n)] [] (avx (lim n)):=by
 refine Con.of_aw Tryz.func157 rfl Tryz.ntmps157 (by simp) (by simp) (by simp) (W.sound ?_)
 show @W Tryz.prog 14 ⟨_⟩ ⟨fun x σ=>@q8 _ _ _ ⟨_⟩ _ ⟨_⟩ x σ⟩ _ _
 simp(disch:=omega)only[go_sem]
 refine qi (fun x:Nat×List Int=>[(0,.v (.int .i64 x.1)),(3,.rf 1 0 x.2.length)]) (fun x=>[(1,.own 1 (qe x.2))]) (fun x=>x.1<2^63∧x.2++lim x.1=lim n) (fun x=>x.1) (n,[]) ⟨hn,rfl⟩
  ((Le.ghost 3 1 1 (by simp(disch:=omega)only[go_sem]) (by simp(disch:=omega)only[go_sem])).trans (Le.lst [] _ _ rfl (by simp(disch:=omega)only[go_sem]) (by simp(disch:=omega)only[go_sem]))) ?_
 rintro⟨k,l⟩ ⟨hk,hl⟩
 dsimp only at hk hl ⊢
 have hlen:l.length≤4:=by
  have h1:=congrArg List.length hl
  have h2:=j9 (n:=n) (k:=4) |>.2 (by omega)
  rw[List.length_append]at h1;omega
 simp(disch:=omega)only[go_sem]
 refine qg (fun h1=>?_) (fun h1=>?_)
 ·simp(disch:=omega)only[go_sem,h1]
  have hk0:k≠0:=by omega
  refine⟨by omega,qb (k/65536,l++[(k:Int) % 65536]) [(1,140000000)] ⟨by show k/65536<2^63;omega,?_⟩ (by show k/65536<k;omega) rfl (by simp(disch:=omega)only[go_sem,List.length_append];omega) (by simp(disch:=omega)only[go_sem])⟩
  rw[yC hk0]at hl
  rw[←hl,List.append_assoc];rfl
 ·simp(disch:=omega)only[go_sem,h1]
  have hk0:k=0:=by omega
  subst hk0
  rw[qs,List.append_nil]at hl
  subst hl
  refine qh [(0,1)] [.own 1 (qe (lim n++[]))] [] [.rf 0 0 (lim n).length] rfl (by simp(disch:=omega)only[go_sem]) (by simp(disch:=omega)only[go_sem]) (by simp) (by intro _;simp[zy,AV.pu,AV.pu.puL,Ob.pu,zi]) (.inr ⟨[],rfl,rfl⟩)
end Go.Ab
namespace Go.Ab
open Go Go.Proofs
theorem yS(k:Nat)(h:k<16):(0:Int)<2^k∧(2:Int)^k≤32768:=by
 have:∀k,k<16→(0:Int)<2^k∧(2:Int)^k≤32768:=by decide
 exact this k h
theorem as9{x:Int}(hx:0≤x∧x<65536){k:Nat}(hk:k<16):0≤x*2^k∧x*2^k≤2147450880:=by
 obtain⟨h1,h2⟩:=yS k hk
 have h3:=Int.mul_nonneg hx.1 (Int.le_of_lt h1)
 have h4:x*2^k≤65535*32768:=Int.mul_le_mul (by omega) h2 (by omega) (by omega)
 omega
theorem abh(k:Nat):(65536:Int)^(k/16)*2^(k % 16)=2^k:=by
 have e:(65536:Int)=2^16:=by decide
 rw[e,←Int.pow_mul,←Int.pow_add,Nat.div_add_mod]
theorem ba7(cl:Bool)(A:List Int)(k:Nat)(hA:gd A)(lA:A.length≤1000000)(hk:k≤100000000):
  Con Tryz.prog 248 cl [.sl A.length (qe A),.v (.int .i64 k)] [] (avx (lim (vl A*2^k).toNat)):=by
 refine Con.of_aw Tryz.func248 rfl Tryz.ntmps248 (by simp) (by simp) (by simp) (W.sound ?_)
 show @W Tryz.prog 46 ⟨_⟩ ⟨fun x σ=>@q8 _ _ _ ⟨_⟩ _ ⟨_⟩ x σ⟩ _ _
 simp(disch:=omega)only[go_sem]
 refine qg (fun h0=>?_) (fun h0=>?_)
 ·simp(disch:=omega)only[go_sem,h0]
  have:A=[]:=List.length_eq_zero_iff.1 (by omega)
  subst this
  refine qh [] [] [] [.v (.slice none 0 0)] rfl (by simp(disch:=omega)only[go_sem]) (by simp(disch:=omega)only[go_sem]) (by simp) (by intro _;simp[zy,AV.pu,AV.pu.puL,Ob.pu,zi]) (.inl ⟨by simp[vl,qs],rfl,rfl⟩)
 ·simp(disch:=omega)only[go_sem,h0]
  refine⟨by omega,?_⟩
  have e16:((k:Int)/16).toNat=k/16:=by omega
  refine qi (fun x:Nat×List Int×Int=>[(1,.v (.int .i64 k)),(5,.rf 1 0 x.2.1.length),(6,.v (.int .i64 x.2.2)),(21,.sl A.length (qe A)),(22,.v (.int .i64 A.length)),(23,.v (.int .i64 x.1))])
   (fun x=>[(1,.own 1 (qe x.2.1))])
   (fun x=>x.1≤A.length∧x.2.1.length=k/16+x.1∧gd x.2.1∧(0≤x.2.2∧x.2.2<65536)∧vl x.2.1+65536^(k/16+x.1)*x.2.2=65536^(k/16)*2^(k % 16)*vl (A.take x.1))
   (fun x=>A.length-x.1) (0,List.replicate (k/16) 0,0) ⟨by simp,by simp,zA _,by simp,by simp[vl,zZ]⟩
   (Le.lst [(1,220000000)] _ _ rfl (by simp(disch:=omega)only[go_sem,List.length_replicate,e16]) (by simp(disch:=omega)only[go_sem,e16])) ?_
  rintro⟨i,out,cy⟩ ⟨hi,hol,hog,hcy,hov⟩
  dsimp only at hi hol hog hcy hov ⊢
  simp(disch:=omega)only[go_sem]
  refine qg (fun h1=>?_) (fun h1=>?_)
  ·have hx:=qO hA i
   have hxs:=as9 hx (show k % 16<16 by omega)
   have em:min ((k:Int) % 16).toNat 64=k % 16:=by omega
   simp(disch:=omega)only[go_sem,h1,em]
   generalize hq:cy+A.getD i 0*2^(k % 16)=q
   refine⟨by omega,by omega,by omega,by omega,qb (i+1,out++[q % 65536],q/65536) [(1,390000000)] ⟨by show i+1≤_;omega,by simp[hol];omega,qP.2 ⟨hog,jV.2 (by omega)⟩,by show 0≤q/65536∧q/65536<65536;omega,?_⟩ (by show A.length-(i+1)<A.length-i;omega) rfl (by simp(disch:=omega)only[go_sem,List.length_append];try omega) (by simp(disch:=omega)only[go_sem])⟩
   show vl (out++[q % 65536])+65536^(k/16+(i+1))*(q/65536)=65536^(k/16)*2^(k % 16)*vl (A.take (i+1))
   rw[j6,zh,hol,←Nat.add_assoc,Int.pow_succ]
   have e3:q % 65536+65536*(q/65536)=q:=Int.emod_add_mul_ediv q 65536
   rw[Int.pow_add]at hov ⊢
   generalize (65536:Int)^i=Pi at*
   generalize (65536:Int)^(k/16)=Pk at*
   generalize (2:Int)^(k % 16)=Pm at*
   grind
  ·simp(disch:=omega)only[go_sem,h1]
   have hiA:i=A.length:=by omega
   subst hiA
   rw[List.take_length,abh]at hov
   have hov2:vl (out++[cy])=vl A*2^k:=by rw[j6,hol,hov];grind
   have hog2:gd (out++[cy]):=qP.2 ⟨hog,jV.2 hcy⟩
   refine⟨by omega,?_⟩
   have hl2:out.length+1=(out++[cy]).length:=by simp
   rw[hl2]
   refine zd false [460000000] (jL (out++[cy]) (by simp;omega)) (by simp(disch:=omega)only[go_sem]) (by simp(disch:=omega)only[go_sem]) rfl (qQ (z:=1) (cs:=qe (out++[cy])) (by simp(disch:=omega)only[go_sem]) (by simp(disch:=omega)only[go_sem])) (by intro n hn;exact⟨_,List.mem_singleton.2 rfl,by rw[List.mem_singleton.1 hn];rfl⟩) ?_
   rintro r hs bs ⟨rfl,rfl,rfl⟩ _
   refine⟨by simp[qR],?_⟩
   simp(disch:=omega)only[go_sem]
   obtain⟨z,hz⟩:=zU (out++[cy])
   have hc:=js hog2
   rw[hov2]at hc
   rw[hc]at hz ⊢
   refine qh [(0,460000000)] [.own 1 (qe (out++[cy]))] [] [.rf 0 0 (lim (vl A*2^k).toNat).length] rfl (by simp(disch:=omega)only[go_sem]) (by simp(disch:=omega)only[go_sem]) (by simp) (by intro _;simp[zy,AV.pu,AV.pu.puL,Ob.pu,zi]) (.inr ⟨List.replicate z 0,rfl,by rw[←hz]⟩)
end Go.Ab
namespace Go.Ab
open Go Go.Proofs
theorem aHn(V P:Int)(hP:0<P):V % (P*65536)=V % P+P*(V/P % 65536):=by
 rw[Int.emod_def,Int.emod_def,Int.emod_def,←Int.ediv_ediv_of_nonneg (Int.le_of_lt hP)]
 grind
theorem aGN{s:Nat}(hs:s<16):(65536:Int)=2^s*2^(16-s):=by
 rw[←Int.pow_add,show s+(16-s)=16 by omega];decide
theorem amF{D:List Int}(hD:gd D){i s:Nat}(hi:i<D.length)(hs:s<16):
  (vl D/2^s)/65536^i % 65536=(D.getD i 0+D.getD (i+1) 0*65536)/2^s % 65536:=by
 have h2:=(yS s hs).1
 rw[Int.ediv_ediv_of_nonneg (Int.le_of_lt h2),Int.mul_comm,←Int.ediv_ediv_of_nonneg (Int.le_of_lt (Int.pow_pos (by omega))),agP hD (by omega),zN hi]
 have h3:vl (D.drop (i+1))=D.getD (i+1) 0+65536*vl (D.drop (i+2)):=by
  rcases Nat.lt_or_ge (i+1) D.length with h|h
  ·exact zN h
  ·rw[List.drop_of_length_le h,List.drop_of_length_le (by omega),List.getD_eq_getElem?_getD,List.getElem?_eq_none h];simp[vl]
 rw[h3]
 have e:D.getD i 0+65536*(D.getD (i+1) 0+65536*vl (D.drop (i+2)))=(D.getD i 0+D.getD (i+1) 0*65536)+2^s*(65536*(2^(16-s)*vl (D.drop (i+2)))):=by
  have:=aGN hs
  generalize (2:Int)^s=a at*
  generalize (2:Int)^(16-s)=b at*
  grind
 rw[e,Int.add_mul_ediv_left _ _ (by omega),Int.add_mul_emod_self_left]
theorem asQ{a b:Nat}(h:a≤b):(65536:Int)^a≤65536^b:=by
 obtain⟨d,rfl⟩:=Nat.exists_eq_add_of_le h
 have h1:(0:Int)<65536^a:=Int.pow_pos (by omega)
 have h2:(0:Int)<65536^d:=Int.pow_pos (by omega)
 have h3:=Int.mul_le_mul_of_nonneg_left (show(1:Int)≤65536^d by omega) (Int.le_of_lt h1)
 rw[Int.mul_one,←Int.pow_add]at h3
 exact h3
theorem aIT(cl:Bool)(A:List Int)(k:Nat)(hA:gd A)(lA:A.length≤1000000)(hk:k≤100000000):
  Con Tryz.prog 265 cl [.sl A.length (qe A),.v (.int .i64 k)] [] (avx (lim (vl A/2^k).toNat)):=by
 refine Con.of_aw Tryz.func265 rfl Tryz.ntmps265 (by simp) (by simp) (by simp) (W.sound ?_)
 show @W Tryz.prog 52 ⟨_⟩ ⟨fun x σ=>@q8 _ _ _ ⟨_⟩ _ ⟨_⟩ x σ⟩ _ _
 have hvk:vl A/2^k=vl A/65536^(k/16)/2^(k % 16):=by
  rw[Int.ediv_ediv_of_nonneg (Int.le_of_lt (Int.pow_pos (by omega))),abh]
 simp(disch:=omega)only[go_sem]
 refine qg (fun h0=>?_) (fun h0=>?_)
 ·simp(disch:=omega)only[go_sem,h0]
  have hz:vl A/2^k=0:=by
   rw[hvk,Int.ediv_eq_zero_of_lt (q6 hA)]
   ·simp
   ·refine Int.lt_of_lt_of_le (ZK hA) ?_
    exact asQ (by omega)
  rw[hz]
  refine qh [] [] [] [.v (.slice none 0 0)] rfl (by simp(disch:=omega)only[go_sem]) (by simp(disch:=omega)only[go_sem]) (by simp) (by intro _;simp[zy,AV.pu,AV.pu.puL,Ob.pu,zi]) (.inl ⟨by simp[qs],rfl,rfl⟩)
 ·have e16:((k:Int)/16).toNat=k/16:=by omega
  have e17:((A.length:Int)-(k:Int)/16).toNat=(A.drop (k/16)).length:=by simp;omega
  have e18:(A.drop (k/16)).take (A.drop (k/16)).length=A.drop (k/16):=List.take_length
  have hvD:=agP hA (i:=k/16) (by omega)
  have hlD:(A.drop (k/16)).length≤1000000:=by simp;omega
  have hD:=yV hA (k/16)
  simp(disch:=omega)only[go_sem,h0,e16,e17,e18]
  generalize A.drop (k/16)=D at*
  refine⟨by omega,by omega,?_⟩
  refine qi (fun x:Nat×List Int=>[(1,.v (.int .i64 k)),(5,.sl D.length (qe D)),(6,.rf 1 0 x.2.length),(21,.sl D.length (qe D)),(22,.v (.int .i64 D.length)),(23,.v (.int .i64 x.1))])
   (fun x=>[(1,.own 1 (qe x.2))])
   (fun x=>x.1≤D.length∧x.2.length=x.1∧gd x.2∧vl x.2=vl D/2^(k % 16) % 65536^x.1)
   (fun x=>D.length-x.1) (0,[]) ⟨by simp,rfl,YA,by simp[vl]⟩
   (Le.lst [(1,220000000)] _ _ rfl (by simp(disch:=omega)only[go_sem]) (by simp(disch:=omega)only[go_sem])) ?_
  rintro⟨i,out⟩ ⟨hi,hol,hog,hov⟩
  dsimp only at hi hol hog hov ⊢
  simp(disch:=omega)only[go_sem]
  refine qg (fun h1=>?_) (fun h1=>?_)
  ·have hx:=qO hD i
   have hy:=qO hD (i+1)
   have em:min ((k:Int) % 16).toNat 64=k % 16:=by omega
   have hm:=yS (k % 16) (by omega)
   have efd:∀x:Int,x.fdiv (2^(k % 16))=x/2^(k % 16):=fun x=>Int.fdiv_eq_ediv_of_nonneg _ (Int.le_of_lt hm.1)
   have hdig:=amF hD (i:=i) (s:=k % 16) (by omega) (by omega)
   have hnn:∀x:Int,0≤x→0≤x/2^(k % 16):=fun x hx=>Int.ediv_nonneg hx (Int.le_of_lt hm.1)
   have ei:((i:Int)+1).toNat=i+1:=by omega
   have hstep:∀z:Int,z=(D.getD i 0+D.getD (i+1) 0*65536)/2^(k % 16) % 65536→vl (out++[z])=vl D/2^(k % 16) % 65536^(i+1):=by
    intro z hz
    rw[j6,hov,hol,Int.pow_succ,aHn _ _ (Int.pow_pos (by omega)),hdig,hz]
   simp(disch:=omega)only[go_sem,h1]
   refine⟨by omega,by omega,qg (fun h2=>?_) (fun h2=>?_)⟩
   ·have hn1:=hnn (D.getD i 0+D.getD (i+1) 0*65536) (by omega)
    simp(disch:=omega)only[go_sem,h2,em,efd,ei]
    refine⟨by omega,by omega,by omega,by omega,qb (i+1,out++[(D.getD i 0+D.getD (i+1) 0*65536)/2^(k % 16) % 65536]) [(1,500000000)] ⟨by show i+1≤_;omega,by simp[hol],qP.2 ⟨hog,jV.2 (by omega)⟩,hstep _ rfl⟩ (by show D.length-(i+1)<D.length-i;omega) rfl (by simp(disch:=omega)only[go_sem,List.length_append];try omega) (by simp(disch:=omega)only[go_sem])⟩
   ·have hn1:=hnn (D.getD i 0) (by omega)
    simp(disch:=omega)only[go_sem,h2,em,efd]
    have hy0:D.getD (i+1) 0=0:=by rw[List.getD_eq_getElem?_getD,List.getElem?_eq_none (by omega)];rfl
    refine⟨by omega,by omega,qb (i+1,out++[D.getD i 0/2^(k % 16) % 65536]) [(1,500000000)] ⟨by show i+1≤_;omega,by simp[hol],qP.2 ⟨hog,jV.2 (by omega)⟩,hstep _ (by rw[hy0];simp)⟩ (by show D.length-(i+1)<D.length-i;omega) rfl (by simp(disch:=omega)only[go_sem,List.length_append];try omega) (by simp(disch:=omega)only[go_sem])⟩
  ·simp(disch:=omega)only[go_sem,h1]
   have hiD:i=D.length:=by omega
   subst hiD
   have hV:vl out=vl A/2^k:=by
    rw[hov,hvk,hvD]
    refine Int.emod_eq_of_lt (Int.ediv_nonneg (q6 hD) (Int.le_of_lt (yS (k % 16) (by omega)).1)) ?_
    exact Int.lt_of_le_of_lt (Int.ediv_le_self _ (q6 hD)) (ZK hD)
   refine zd false [1] (jL out (by omega)) (by simp(disch:=omega)only[go_sem]) (by simp(disch:=omega)only[go_sem]) rfl (qQ (z:=1) (cs:=qe out) (by simp(disch:=omega)only[go_sem]) (by simp(disch:=omega)only[go_sem])) (by intro n hn;exact⟨_,List.mem_singleton.2 rfl,by rw[List.mem_singleton.1 hn];rfl⟩) ?_
   rintro r hs bs ⟨rfl,rfl,rfl⟩ _
   refine⟨by simp[qR],?_⟩
   simp(disch:=omega)only[go_sem]
   obtain⟨z,hz⟩:=zU out
   have hc:=js hog
   rw[hV]at hc
   rw[hc]at hz ⊢
   refine qh [(0,1)] [.own 1 (qe out)] [] [.rf 0 0 (lim (vl A/2^k).toNat).length] rfl (by simp(disch:=omega)only[go_sem]) (by simp(disch:=omega)only[go_sem]) (by simp) (by intro _;simp[zy,AV.pu,AV.pu.puL,Ob.pu,zi]) (.inr ⟨List.replicate z 0,rfl,by rw[←hz]⟩)
end Go.Ab
namespace Go.Ab
open Go Go.Proofs
theorem drop_set{l:List Int}{i:Nat}(h:i<l.length)(z:Int):(l.set i z).drop i=z::l.drop (i+1):=by
 rw[List.drop_eq_getElem_cons (by simpa using h)]
 simp[List.drop_set]
theorem aIU(cl:Bool)(A:List Int)(d:Nat)(hA:gd A)(lA:A.length≤1000000)(hd:0<d)(hd2:d<65536):
  Con Tryz.prog 328 cl [.sl A.length (qe A),.v (.int .i64 d)] [] (fun r hs bs=>∃zs,r=.tu [.rf 0 0 (lim (vl A/d).toNat).length,.v (.int .i64 (vl A % d))]∧hs=[.own 1 (qe (lim (vl A/d).toNat++zs))]):=by
 refine Con.of_aw Tryz.func328 rfl Tryz.ntmps328 (by simp) (by simp) (by simp) (W.sound ?_)
 show @W Tryz.prog 38 ⟨_⟩ ⟨fun x σ=>@q8 _ _ _ ⟨_⟩ _ ⟨_⟩ x σ⟩ _ _
 simp(disch:=omega)only[go_sem]
 refine⟨by omega,?_⟩
 refine qi (fun x:Nat×List Int×Int=>[(0,.sl A.length (qe A)),(1,.v (.int .i64 d)),(6,.rf 130000000 0 A.length),(7,.v (.int .i64 x.2.2)),(8,.v (.int .i64 ((x.1:Int)-1)))])
  (fun x=>[(130000000,.own 1 (qe x.2.1))])
  (fun x=>x.1≤A.length∧x.2.1.length=A.length∧gd x.2.1∧x.2.2=vl (A.drop x.1) % d∧vl (x.2.1.drop x.1)=vl (A.drop x.1)/d)
  (fun x=>x.1) (A.length,List.replicate A.length 0,0) ⟨by simp,by simp,zA _,by simp[vl],by simp[vl]⟩
  (Le.lst [] _ _ rfl (by simp(disch:=omega)only[go_sem];try omega) (by simp(disch:=omega)only[go_sem])) ?_
 rintro⟨m,out,rest⟩ ⟨hm,hol,hog,hr,hov⟩
 dsimp only at hm hol hog hr hov ⊢
 simp(disch:=omega)only[go_sem]
 refine qg (fun h1=>?_) (fun h1=>?_)
 ·obtain⟨i,rfl⟩:∃i,m=i+1:=⟨m-1,by omega⟩
  have e1:((i+1:Nat):Int)-1=(i:Nat):=by omega
  have hx:=qO hA i
  have hr2:0≤rest∧rest<d:=by rw[hr];exact⟨Int.emod_nonneg _ (by omega),Int.emod_lt_of_pos _ (by omega)⟩
  generalize hq:rest*65536+A.getD i 0=q
  have hq0:0≤q:=by omega
  have hqd:0≤q/d∧q/d<65536:=⟨Int.ediv_nonneg hq0 (by omega),Int.ediv_lt_of_lt_mul (by omega) (by omega)⟩
  have hqm:0≤q % d∧q % d<d:=⟨Int.emod_nonneg _ (by omega),Int.emod_lt_of_pos _ (by omega)⟩
  simp(disch:=omega)only[go_sem,h1,e1,hq]
  refine⟨by omega,by omega,by omega,by omega,by omega,by omega,qb (i,out.set i (q/d),q % d) [] ⟨by show i≤_;omega,by simp[hol],Ql hog hqd,?_,?_⟩ (by show i<i+1;omega) rfl (by simp(disch:=omega)only[go_sem]) (by simp(disch:=omega)only[go_sem])⟩
  ·show q % d=vl (A.drop i) % d
   rw[zN (l:=A) (i:=i) (by omega),←hq,hr]
   have h3:=Int.emod_add_mul_ediv (vl (A.drop (i+1))) d
   rw[show A.getD i 0+65536*vl (A.drop (i+1))=vl (A.drop (i+1)) % d*65536+A.getD i 0+d*(65536*(vl (A.drop (i+1))/d)) by grind,Int.add_mul_emod_self_left]
  ·show vl ((out.set i (q/d)).drop i)=vl (A.drop i)/d
   rw[drop_set (by omega),vl,hov,zN (l:=A) (i:=i) (by omega),←hq,hr]
   have h3:=Int.emod_add_mul_ediv (vl (A.drop (i+1))) d
   rw[show A.getD i 0+65536*vl (A.drop (i+1))=vl (A.drop (i+1)) % d*65536+A.getD i 0+d*(65536*(vl (A.drop (i+1))/d)) by grind,Int.add_mul_ediv_left _ _ (by omega)]
 ·simp(disch:=omega)only[go_sem,h1]
  have:m=0:=by omega
  subst this
  rw[List.drop_zero,List.drop_zero]at hov
  rw[List.drop_zero]at hr
  rw[←hol]
  refine zd false [130000000] (jL out (by omega)) (by simp(disch:=omega)only[go_sem]) (by simp(disch:=omega)only[go_sem]) rfl (qQ (z:=1) (cs:=qe out) (by simp(disch:=omega)only[go_sem]) (by simp(disch:=omega)only[go_sem])) (by intro n hn;exact⟨_,List.mem_singleton.2 rfl,by rw[List.mem_singleton.1 hn];rfl⟩) ?_
  rintro r hs bs ⟨rfl,rfl,rfl⟩ _
  refine⟨by simp[qR],?_⟩
  simp(disch:=omega)only[go_sem]
  obtain⟨z,hz⟩:=zU out
  have hc:=js hog
  rw[hov]at hc
  rw[hc]at hz ⊢
  rw[hr]
  refine qh [(0,130000000)] [.own 1 (qe out)] [] [.rf 0 0 (lim (vl A/d).toNat).length,.v (.int .i64 (vl A % d))] rfl (by simp(disch:=omega)only[go_sem]) (by simp(disch:=omega)only[go_sem]) (by simp) (by intro _;simp[zy,AV.pu,AV.pu.puL,Ob.pu,zi]) ⟨List.replicate z 0,rfl,by rw[←hz]⟩
end Go.Ab
namespace Go.Ab
open Go Go.Proofs
theorem aIN(cl:Bool)(A B:List Int)(hA:gd A)(hB:gd B)(lA:A.length≤2000000)(lB:B.length≤2000000):
  Con Tryz.prog 304 cl [.sl A.length (qe A),.sl B.length (qe B)] [] (avx (lim (vl A+vl B).toNat)):=by
 refine Con.of_aw Tryz.func304 rfl Tryz.ntmps304 (by simp) (by simp) (by simp) (W.sound ?_)
 show @W Tryz.prog 53 ⟨_⟩ ⟨fun x σ=>@q8 _ _ _ ⟨_⟩ _ ⟨_⟩ x σ⟩ _ _
 simp(disch:=omega)only[go_sem]
 refine qg (fun h0=>?_) (fun h0=>?_)
 all_goals simp(disch:=omega)only[go_sem,h0]
 ·revert A B
  intro Y X hY hX lY lX h0'
  have h00:Y.length≤X.length:=by omega
  have hcm:vl Y+vl X=vl X+vl Y:=Int.add_comm _ _
  refine⟨by omega,?_⟩
  refine qi (fun x:Nat×List Int×Int=>[(1,.sl Y.length (qe Y)),(5,.rf 1 0 x.2.1.length),(6,.v (.int .i64 x.2.2)),(20,.sl X.length (qe X)),(21,.v (.int .i64 X.length)),(22,.v (.int .i64 x.1))])
   (fun x=>[(1,.own 1 (qe x.2.1))])
   (fun x=>x.1≤X.length∧x.2.1.length=x.1∧gd x.2.1∧(0≤x.2.2∧x.2.2≤1)∧vl x.2.1+65536^x.1*x.2.2=vl (X.take x.1)+vl (Y.take x.1))
   (fun x=>X.length-x.1) (0,[],0) ⟨by simp,rfl,YA,by simp,by simp[vl]⟩
   (Le.lst [(1,210000000)] _ _ rfl (by simp(disch:=omega)only[go_sem]) (by simp(disch:=omega)only[go_sem])) ?_
  rintro⟨i,out,cy⟩ ⟨hi,hol,hog,hcy,hov⟩
  dsimp only at hi hol hog hcy hov ⊢
  simp(disch:=omega)only[go_sem]
  refine qg (fun h1=>?_) (fun h1=>?_)
  ·have hx:=qO hX i
   have hy:=qO hY i
   have hstep:∀q:Int,q=cy+X.getD i 0+Y.getD i 0→vl (out++[q % 65536])+65536^(i+1)*(q/65536)=vl (X.take (i+1))+vl (Y.take (i+1)):=by
    intro q hq
    rw[j6,zh,zh,hol,Int.pow_succ]
    have e3:q % 65536+65536*(q/65536)=q:=Int.emod_add_mul_ediv q 65536
    generalize (65536:Int)^i=Pi at*
    grind
   have hyz:¬i<Y.length→Y.getD i 0=0:=fun h=>by rw[List.getD_eq_getElem?_getD,List.getElem?_eq_none (by omega)];rfl
   simp(disch:=omega)only[go_sem,h1]
   refine⟨by omega,by omega,qg (fun h2=>?_) (fun h2=>?_)⟩
   ·simp(disch:=omega)only[go_sem,h2]
    generalize hq:cy+X.getD i 0+Y.getD i 0=q
    refine⟨by omega,by omega,by omega,qb (i+1,out++[q % 65536],q/65536) [(1,460000000)] ⟨by show i+1≤_;omega,by simp[hol],qP.2 ⟨hog,jV.2 (by omega)⟩,by show 0≤q/65536∧q/65536≤1;omega,hstep q hq.symm⟩ (by show X.length-(i+1)<X.length-i;omega) rfl (by simp(disch:=omega)only[go_sem,List.length_append];try omega) (by simp(disch:=omega)only[go_sem])⟩
   ·simp(disch:=omega)only[go_sem,h2]
    have hy0:=hyz (by omega)
    generalize hq:cy+X.getD i 0=q
    refine⟨by omega,qb (i+1,out++[q % 65536],q/65536) [(1,460000000)] ⟨by show i+1≤_;omega,by simp[hol],qP.2 ⟨hog,jV.2 (by omega)⟩,by show 0≤q/65536∧q/65536≤1;omega,hstep q (by omega)⟩ (by show X.length-(i+1)<X.length-i;omega) rfl (by simp(disch:=omega)only[go_sem,List.length_append];try omega) (by simp(disch:=omega)only[go_sem])⟩
  ·simp(disch:=omega)only[go_sem,h1]
   have hiA:i=X.length:=by omega
   subst hiA
   rw[List.take_length,List.take_of_length_le h00]at hov
   have hov2:vl (out++[cy])=vl X+vl Y:=by rw[j6,hol];exact hov
   have hog2:gd (out++[cy]):=qP.2 ⟨hog,jV.2 (by omega)⟩
   refine⟨by omega,?_⟩
   have hl2:out.length+1=(out++[cy]).length:=by simp
   rw[hl2]
   refine zd false [530000000] (jL (out++[cy]) (by simp;omega)) (by simp(disch:=omega)only[go_sem]) (by simp(disch:=omega)only[go_sem]) rfl (qQ (z:=1) (cs:=qe (out++[cy])) (by simp(disch:=omega)only[go_sem]) (by simp(disch:=omega)only[go_sem])) (by intro n hn;exact⟨_,List.mem_singleton.2 rfl,by rw[List.mem_singleton.1 hn];rfl⟩) ?_
   rintro r hs bs ⟨rfl,rfl,rfl⟩ _
   refine⟨by simp[qR],?_⟩
   simp(disch:=omega)only[go_sem]
   obtain⟨z,hz⟩:=zU (out++[cy])
   have hc:=js hog2
   rw[hov2]at hc
   rw[hc]at hz ⊢
   refine qh [(0,530000000)] [.own 1 (qe (out++[cy]))] [] [.rf 0 0 (lim (vl X+vl Y).toNat).length] rfl (by simp(disch:=omega)only[go_sem]) (by simp(disch:=omega)only[go_sem]) (by simp) (by intro _;simp[zy,AV.pu,AV.pu.puL,Ob.pu,zi]) (.inr ⟨List.replicate z 0,by rw[hcm];rfl,by rw[hcm,←hz]⟩)
 ·revert A B
  intro X Y hX hY lX lY h0'
  have h00:Y.length≤X.length:=by omega
  have hcm:vl X+vl Y=vl X+vl Y:=rfl
  refine⟨by omega,?_⟩
  refine qi (fun x:Nat×List Int×Int=>[(1,.sl Y.length (qe Y)),(5,.rf 1 0 x.2.1.length),(6,.v (.int .i64 x.2.2)),(20,.sl X.length (qe X)),(21,.v (.int .i64 X.length)),(22,.v (.int .i64 x.1))])
   (fun x=>[(1,.own 1 (qe x.2.1))])
   (fun x=>x.1≤X.length∧x.2.1.length=x.1∧gd x.2.1∧(0≤x.2.2∧x.2.2≤1)∧vl x.2.1+65536^x.1*x.2.2=vl (X.take x.1)+vl (Y.take x.1))
   (fun x=>X.length-x.1) (0,[],0) ⟨by simp,rfl,YA,by simp,by simp[vl]⟩
   (Le.lst [(1,210000000)] _ _ rfl (by simp(disch:=omega)only[go_sem]) (by simp(disch:=omega)only[go_sem])) ?_
  rintro⟨i,out,cy⟩ ⟨hi,hol,hog,hcy,hov⟩
  dsimp only at hi hol hog hcy hov ⊢
  simp(disch:=omega)only[go_sem]
  refine qg (fun h1=>?_) (fun h1=>?_)
  ·have hx:=qO hX i
   have hy:=qO hY i
   have hstep:∀q:Int,q=cy+X.getD i 0+Y.getD i 0→vl (out++[q % 65536])+65536^(i+1)*(q/65536)=vl (X.take (i+1))+vl (Y.take (i+1)):=by
    intro q hq
    rw[j6,zh,zh,hol,Int.pow_succ]
    have e3:q % 65536+65536*(q/65536)=q:=Int.emod_add_mul_ediv q 65536
    generalize (65536:Int)^i=Pi at*
    grind
   have hyz:¬i<Y.length→Y.getD i 0=0:=fun h=>by rw[List.getD_eq_getElem?_getD,List.getElem?_eq_none (by omega)];rfl
   simp(disch:=omega)only[go_sem,h1]
   refine⟨by omega,by omega,qg (fun h2=>?_) (fun h2=>?_)⟩
   ·simp(disch:=omega)only[go_sem,h2]
    generalize hq:cy+X.getD i 0+Y.getD i 0=q
    refine⟨by omega,by omega,by omega,qb (i+1,out++[q % 65536],q/65536) [(1,460000000)] ⟨by show i+1≤_;omega,by simp[hol],qP.2 ⟨hog,jV.2 (by omega)⟩,by show 0≤q/65536∧q/65536≤1;omega,hstep q hq.symm⟩ (by show X.length-(i+1)<X.length-i;omega) rfl (by simp(disch:=omega)only[go_sem,List.length_append];try omega) (by simp(disch:=omega)only[go_sem])⟩
   ·simp(disch:=omega)only[go_sem,h2]
    have hy0:=hyz (by omega)
    generalize hq:cy+X.getD i 0=q
    refine⟨by omega,qb (i+1,out++[q % 65536],q/65536) [(1,460000000)] ⟨by show i+1≤_;omega,by simp[hol],qP.2 ⟨hog,jV.2 (by omega)⟩,by show 0≤q/65536∧q/65536≤1;omega,hstep q (by omega)⟩ (by show X.length-(i+1)<X.length-i;omega) rfl (by simp(disch:=omega)only[go_sem,List.length_append];try omega) (by simp(disch:=omega)only[go_sem])⟩
  ·simp(disch:=omega)only[go_sem,h1]
   have hiA:i=X.length:=by omega
   subst hiA
   rw[List.take_length,List.take_of_length_le h00]at hov
   have hov2:vl (out++[cy])=vl X+vl Y:=by rw[j6,hol];exact hov
   have hog2:gd (out++[cy]):=qP.2 ⟨hog,jV.2 (by omega)⟩
   refine⟨by omega,?_⟩
   have hl2:out.length+1=(out++[cy]).length:=by simp
   rw[hl2]
   refine zd false [530000000] (jL (out++[cy]) (by simp;omega)) (by simp(disch:=omega)only[go_sem]) (by simp(disch:=omega)only[go_sem]) rfl (qQ (z:=1) (cs:=qe (out++[cy])) (by simp(disch:=omega)only[go_sem]) (by simp(disch:=omega)only[go_sem])) (by intro n hn;exact⟨_,List.mem_singleton.2 rfl,by rw[List.mem_singleton.1 hn];rfl⟩) ?_
   rintro r hs bs ⟨rfl,rfl,rfl⟩ _
   refine⟨by simp[qR],?_⟩
   simp(disch:=omega)only[go_sem]
   obtain⟨z,hz⟩:=zU (out++[cy])
   have hc:=js hog2
   rw[hov2]at hc
   rw[hc]at hz ⊢
   refine qh [(0,530000000)] [.own 1 (qe (out++[cy]))] [] [.rf 0 0 (lim (vl X+vl Y).toNat).length] rfl (by simp(disch:=omega)only[go_sem]) (by simp(disch:=omega)only[go_sem]) (by simp) (by intro _;simp[zy,AV.pu,AV.pu.puL,Ob.pu,zi]) (.inr ⟨List.replicate z 0,by rw[hcm];rfl,by rw[hcm,←hz]⟩)
end Go.Ab
