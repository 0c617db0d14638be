/- What the proof of this claim stands on: the walks of the functions and the plain laws, part 3. -/
import Derived.Test.YtgkehjnacdccfaaGreatDoorFnIvMatWidthsLib2
import Derived.Test.YtgkehjnacdccfaaGreatDoorProg
import Derived.KernelRfl
set_option linter.unusedVariables false
set_option linter.unusedSimpArgs false
namespace Go.Ab
open Go Go.Proofs
def ti1:TI:=⟨Kd.oth,1,8,Value.nilFunc⟩
theorem tf1:qn Tryz.prog 1=some ti1:=by kernel_rfl
def ti2:TI:=⟨Kd.int IntKind.i64,1,8,Value.int IntKind.i64 0⟩
theorem tf2:qn Tryz.prog 2=some ti2:=by kernel_rfl
def ti3:TI:=⟨Kd.int IntKind.i64,1,8,Value.int IntKind.i64 0⟩
theorem tf3:qn Tryz.prog 3=some ti3:=by kernel_rfl
def ti4:TI:=⟨Kd.bool,1,1,Value.bool false⟩
theorem tf4:qn Tryz.prog 4=some ti4:=by kernel_rfl
def ti5:TI:=⟨Kd.int IntKind.u8,1,1,Value.int IntKind.u8 0⟩
theorem tf5:qn Tryz.prog 5=some ti5:=by kernel_rfl
def ti6:TI:=⟨Kd.int IntKind.u8,1,1,Value.int IntKind.u8 0⟩
theorem tf6:qn Tryz.prog 6=some ti6:=by kernel_rfl
def ti7:TI:=⟨Kd.stru [(0,2),(1,3),(2,4),(3,6)],4,24,Value.agg ⟨[Value.int IntKind.i64 0,Value.int IntKind.i64 0,Value.bool false,Value.int IntKind.u8 0]⟩⟩
theorem tf7:qn Tryz.prog 7=some ti7:=by kernel_rfl
def ti8:TI:=⟨Kd.stru [(0,2),(1,3),(2,4),(3,6)],4,24,Value.agg ⟨[Value.int IntKind.i64 0,Value.int IntKind.i64 0,Value.bool false,Value.int IntKind.u8 0]⟩⟩
theorem tf8:qn Tryz.prog 8=some ti8:=by kernel_rfl
def ti9:TI:=⟨Kd.str,1,16,Value.string {data:=⟨[]⟩}⟩
theorem tf9:qn Tryz.prog 9=some ti9:=by kernel_rfl
def aJn:TI:=⟨Kd.str,1,16,Value.string {data:=⟨[]⟩}⟩
theorem blv:qn Tryz.prog 10=some aJn:=by kernel_rfl
def aJm:TI:=⟨Kd.str,1,16,Value.string {data:=⟨[]⟩}⟩
theorem blu:qn Tryz.prog 11=some aJm:=by kernel_rfl
def aJl:TI:=⟨Kd.int IntKind.u64,1,8,Value.int IntKind.u64 0⟩
theorem bls:qn Tryz.prog 12=some aJl:=by kernel_rfl
def aJk:TI:=⟨Kd.int IntKind.i32,1,4,Value.int IntKind.i32 0⟩
theorem blr:qn Tryz.prog 21=some aJk:=by kernel_rfl
def agp:TI:=⟨Kd.sli 5,1,24,Value.slice none 0 0⟩
theorem aJr:qn Tryz.prog 22=some agp:=by kernel_rfl
def ago:TI:=⟨Kd.sli 42,1,24,Value.slice none 0 0⟩
theorem aJq:qn Tryz.prog 23=some ago:=by kernel_rfl
def apd:TI:=⟨Kd.stru [(0,3),(1,23)],2,32,Value.agg ⟨[Value.int IntKind.i64 0,Value.slice none 0 0]⟩⟩
theorem bat:qn Tryz.prog 24=some apd:=by kernel_rfl
def ao2:TI:=⟨Kd.stru [(0,3),(1,23)],2,32,Value.agg ⟨[Value.int IntKind.i64 0,Value.slice none 0 0]⟩⟩
theorem bas:qn Tryz.prog 25=some ao2:=by kernel_rfl
def aJj:TI:=⟨Kd.oth,1,8,Value.nilFunc⟩
theorem blq:qn Tryz.prog 27=some aJj:=by kernel_rfl
def agn:TI:=⟨Kd.sli 90,1,24,Value.slice none 0 0⟩
theorem aJp:qn Tryz.prog 28=some agn:=by kernel_rfl
def aos:TI:=⟨Kd.stru [(0,3),(1,28)],2,32,Value.agg ⟨[Value.int IntKind.i64 0,Value.slice none 0 0]⟩⟩
theorem bar:qn Tryz.prog 29=some aos:=by kernel_rfl
def aoi:TI:=⟨Kd.stru [(0,3),(1,28)],2,32,Value.agg ⟨[Value.int IntKind.i64 0,Value.slice none 0 0]⟩⟩
theorem baq:qn Tryz.prog 30=some aoi:=by kernel_rfl
def aJi:TI:=⟨Kd.oth,1,8,Value.nilFunc⟩
theorem blp:qn Tryz.prog 32=some aJi:=by kernel_rfl
def aJh:TI:=⟨Kd.oth,1,8,Value.nilFunc⟩
theorem blo:qn Tryz.prog 33=some aJh:=by kernel_rfl
def aJg:TI:=⟨Kd.oth,1,8,Value.nilFunc⟩
theorem bln:qn Tryz.prog 35=some aJg:=by kernel_rfl
def ZT:TI:=⟨Kd.sli 3,1,24,Value.slice none 0 0⟩
theorem aaI:qn Tryz.prog 36=some ZT:=by kernel_rfl
def auK:TI:=⟨Kd.stru [(0,36)],1,24,Value.agg ⟨[Value.slice none 0 0]⟩⟩
theorem bdw:qn Tryz.prog 37=some auK:=by kernel_rfl
def abW:TI:=⟨Kd.stru [(0,36)],1,24,Value.agg ⟨[Value.slice none 0 0]⟩⟩
theorem aFn:qn Tryz.prog 38=some abW:=by kernel_rfl
def an6:TI:=⟨Kd.stru [(0,4),(1,38)],2,32,Value.agg ⟨[Value.bool false,Value.slice none 0 0]⟩⟩
theorem bap:qn Tryz.prog 39=some an6:=by kernel_rfl
def XO:TI:=⟨Kd.stru [(0,4),(1,38)],2,32,Value.agg ⟨[Value.bool false,Value.slice none 0 0]⟩⟩
theorem auM:qn Tryz.prog 40=some XO:=by kernel_rfl
def an2:TI:=⟨Kd.stru [(0,40),(2,3)],3,40,Value.agg ⟨[Value.bool false,Value.slice none 0 0,Value.int IntKind.i64 0]⟩⟩
theorem bao:qn Tryz.prog 41=some an2:=by kernel_rfl
def ZG:TI:=⟨Kd.stru [(0,40),(2,3)],3,40,Value.agg ⟨[Value.bool false,Value.slice none 0 0,Value.int IntKind.i64 0]⟩⟩
theorem aaH:qn Tryz.prog 42=some ZG:=by kernel_rfl
def aJf:TI:=⟨Kd.oth,1,8,Value.nilFunc⟩
theorem blm:qn Tryz.prog 43=some aJf:=by kernel_rfl
def aJe:TI:=⟨Kd.oth,1,8,Value.nilFunc⟩
theorem bll:qn Tryz.prog 44=some aJe:=by kernel_rfl
def aJd:TI:=⟨Kd.oth,1,8,Value.nilFunc⟩
theorem blk:qn Tryz.prog 45=some aJd:=by kernel_rfl
def aJc:TI:=⟨Kd.oth,1,8,Value.nilFunc⟩
theorem blj:qn Tryz.prog 46=some aJc:=by kernel_rfl
def aJb:TI:=⟨Kd.oth,1,8,Value.nilFunc⟩
theorem bli:qn Tryz.prog 47=some aJb:=by kernel_rfl
def aJa:TI:=⟨Kd.oth,1,8,Value.nilFunc⟩
theorem blh:qn Tryz.prog 48=some aJa:=by kernel_rfl
def aI9:TI:=⟨Kd.oth,1,8,Value.nilFunc⟩
theorem blg:qn Tryz.prog 49=some aI9:=by kernel_rfl
def aI8:TI:=⟨Kd.oth,1,8,Value.nilFunc⟩
theorem blf:qn Tryz.prog 50=some aI8:=by kernel_rfl
def aI7:TI:=⟨Kd.oth,1,8,Value.nilFunc⟩
theorem bld:qn Tryz.prog 52=some aI7:=by kernel_rfl
def aI6:TI:=⟨Kd.oth,1,8,Value.nilFunc⟩
theorem blc:qn Tryz.prog 53=some aI6:=by kernel_rfl
def aI5:TI:=⟨Kd.oth,1,8,Value.nilFunc⟩
theorem blb:qn Tryz.prog 54=some aI5:=by kernel_rfl
def aI4:TI:=⟨Kd.oth,1,8,Value.nilFunc⟩
theorem bla:qn Tryz.prog 55=some aI4:=by kernel_rfl
def aI3:TI:=⟨Kd.oth,1,8,Value.nilFunc⟩
theorem bk9:qn Tryz.prog 56=some aI3:=by kernel_rfl
def aI2:TI:=⟨Kd.oth,1,8,Value.nilFunc⟩
theorem bk8:qn Tryz.prog 58=some aI2:=by kernel_rfl
def aI1:TI:=⟨Kd.oth,1,8,Value.nilFunc⟩
theorem bk7:qn Tryz.prog 60=some aI1:=by kernel_rfl
def aI0:TI:=⟨Kd.oth,1,8,Value.nilFunc⟩
theorem bk6:qn Tryz.prog 61=some aI0:=by kernel_rfl
def aIZ:TI:=⟨Kd.oth,1,8,Value.nilFunc⟩
theorem bk5:qn Tryz.prog 62=some aIZ:=by kernel_rfl
def aIY:TI:=⟨Kd.oth,1,8,Value.nilFunc⟩
theorem bk4:qn Tryz.prog 64=some aIY:=by kernel_rfl
def aIX:TI:=⟨Kd.oth,1,8,Value.nilFunc⟩
theorem bk3:qn Tryz.prog 65=some aIX:=by kernel_rfl
def aIW:TI:=⟨Kd.oth,1,8,Value.nilFunc⟩
theorem bk2:qn Tryz.prog 66=some aIW:=by kernel_rfl
def aIV:TI:=⟨Kd.oth,1,8,Value.nilFunc⟩
theorem bk1:qn Tryz.prog 67=some aIV:=by kernel_rfl
def aIU:TI:=⟨Kd.oth,1,8,Value.nilFunc⟩
theorem bk0:qn Tryz.prog 68=some aIU:=by kernel_rfl
def aIT:TI:=⟨Kd.oth,1,8,Value.nilFunc⟩
theorem bkZ:qn Tryz.prog 69=some aIT:=by kernel_rfl
def aIS:TI:=⟨Kd.oth,1,8,Value.nilFunc⟩
theorem bkY:qn Tryz.prog 70=some aIS:=by kernel_rfl
def aIR:TI:=⟨Kd.oth,1,8,Value.nilFunc⟩
theorem bkX:qn Tryz.prog 71=some aIR:=by kernel_rfl
def aIQ:TI:=⟨Kd.oth,1,8,Value.nilFunc⟩
theorem bkW:qn Tryz.prog 72=some aIQ:=by kernel_rfl
def aIP:TI:=⟨Kd.oth,1,8,Value.nilFunc⟩
theorem bkV:qn Tryz.prog 73=some aIP:=by kernel_rfl
def agm:TI:=⟨Kd.sli 87,1,24,Value.slice none 0 0⟩
theorem aJo:qn Tryz.prog 74=some agm:=by kernel_rfl
def ant:TI:=⟨Kd.stru [(0,3),(1,74)],2,32,Value.agg ⟨[Value.int IntKind.i64 0,Value.slice none 0 0]⟩⟩
theorem ban:qn Tryz.prog 75=some ant:=by kernel_rfl
def anr:TI:=⟨Kd.stru [(0,3),(1,74)],2,32,Value.agg ⟨[Value.int IntKind.i64 0,Value.slice none 0 0]⟩⟩
theorem bam:qn Tryz.prog 76=some anr:=by kernel_rfl
def aIO:TI:=⟨Kd.oth,1,8,Value.nilFunc⟩
theorem bkU:qn Tryz.prog 77=some aIO:=by kernel_rfl
def aIN:TI:=⟨Kd.oth,1,8,Value.nilFunc⟩
theorem bkT:qn Tryz.prog 78=some aIN:=by kernel_rfl
def aIM:TI:=⟨Kd.oth,1,8,Value.nilFunc⟩
theorem bkS:qn Tryz.prog 79=some aIM:=by kernel_rfl
def aIL:TI:=⟨Kd.oth,1,8,Value.nilFunc⟩
theorem bkR:qn Tryz.prog 80=some aIL:=by kernel_rfl
def aIK:TI:=⟨Kd.oth,1,8,Value.nilFunc⟩
theorem bkQ:qn Tryz.prog 81=some aIK:=by kernel_rfl
def aIJ:TI:=⟨Kd.oth,1,8,Value.nilFunc⟩
theorem bkP:qn Tryz.prog 82=some aIJ:=by kernel_rfl
def abV:TI:=⟨Kd.stru [(0,36)],1,24,Value.agg ⟨[Value.slice none 0 0]⟩⟩
theorem aFm:qn Tryz.prog 83=some abV:=by kernel_rfl
def anh:TI:=⟨Kd.stru [(0,4),(1,83)],2,32,Value.agg ⟨[Value.bool false,Value.slice none 0 0]⟩⟩
theorem bal:qn Tryz.prog 84=some anh:=by kernel_rfl
def XN:TI:=⟨Kd.stru [(0,4),(1,83)],2,32,Value.agg ⟨[Value.bool false,Value.slice none 0 0]⟩⟩
theorem auL:qn Tryz.prog 85=some XN:=by kernel_rfl
def ane:TI:=⟨Kd.stru [(0,85),(2,3)],3,40,Value.agg ⟨[Value.bool false,Value.slice none 0 0,Value.int IntKind.i64 0]⟩⟩
theorem bak:qn Tryz.prog 86=some ane:=by kernel_rfl
def amG:TI:=⟨Kd.stru [(0,85),(2,3)],3,40,Value.agg ⟨[Value.bool false,Value.slice none 0 0,Value.int IntKind.i64 0]⟩⟩
theorem aS5:qn Tryz.prog 87=some amG:=by kernel_rfl
def aII:TI:=⟨Kd.oth,1,8,Value.nilFunc⟩
theorem bkO:qn Tryz.prog 88=some aII:=by kernel_rfl
def am9:TI:=⟨Kd.stru [(0,42),(3,42)],6,80,Value.agg ⟨[Value.bool false,Value.slice none 0 0,Value.int IntKind.i64 0,Value.bool false,Value.slice none 0 0,Value.int IntKind.i64 0]⟩⟩
theorem baj:qn Tryz.prog 89=some am9:=by kernel_rfl
def amF:TI:=⟨Kd.stru [(0,42),(3,42)],6,80,Value.agg ⟨[Value.bool false,Value.slice none 0 0,Value.int IntKind.i64 0,Value.bool false,Value.slice none 0 0,Value.int IntKind.i64 0]⟩⟩
theorem aS4:qn Tryz.prog 90=some amF:=by kernel_rfl
def aIH:TI:=⟨Kd.oth,1,8,Value.nilFunc⟩
theorem bkN:qn Tryz.prog 92=some aIH:=by kernel_rfl
def aIG:TI:=⟨Kd.oth,1,8,Value.nilFunc⟩
theorem bkM:qn Tryz.prog 93=some aIG:=by kernel_rfl
def aIF:TI:=⟨Kd.oth,1,8,Value.nilFunc⟩
theorem bkL:qn Tryz.prog 94=some aIF:=by kernel_rfl
def aIE:TI:=⟨Kd.oth,1,8,Value.nilFunc⟩
theorem bkK:qn Tryz.prog 95=some aIE:=by kernel_rfl
def aID:TI:=⟨Kd.oth,1,8,Value.nilFunc⟩
theorem bkJ:qn Tryz.prog 96=some aID:=by kernel_rfl
def aIC:TI:=⟨Kd.oth,1,8,Value.nilFunc⟩
theorem bkI:qn Tryz.prog 97=some aIC:=by kernel_rfl
def aIB:TI:=⟨Kd.oth,1,8,Value.nilFunc⟩
theorem bkH:qn Tryz.prog 98=some aIB:=by kernel_rfl
def aIA:TI:=⟨Kd.oth,1,8,Value.nilFunc⟩
theorem bkG:qn Tryz.prog 99=some aIA:=by kernel_rfl
def aaE:TI:=⟨Kd.oth,1,8,Value.nilFunc⟩
theorem bgh:qn Tryz.prog 101=some aaE:=by kernel_rfl
def aaD:TI:=⟨Kd.oth,1,8,Value.nilFunc⟩
theorem bgg:qn Tryz.prog 102=some aaD:=by kernel_rfl
def aaC:TI:=⟨Kd.oth,1,8,Value.nilFunc⟩
theorem bgf:qn Tryz.prog 103=some aaC:=by kernel_rfl
def aaB:TI:=⟨Kd.oth,1,8,Value.nilFunc⟩
theorem bge:qn Tryz.prog 104=some aaB:=by kernel_rfl
def Qv:TI:=⟨Kd.sli 125,1,24,Value.slice none 0 0⟩
theorem aaJ:qn Tryz.prog 105=some Qv:=by kernel_rfl
def ZY:TI:=⟨Kd.stru [(0,3),(1,105)],2,32,Value.agg ⟨[Value.int IntKind.i64 0,Value.slice none 0 0]⟩⟩
theorem aFs:qn Tryz.prog 106=some ZY:=by kernel_rfl
def ZX:TI:=⟨Kd.stru [(0,3),(1,105)],2,32,Value.agg ⟨[Value.int IntKind.i64 0,Value.slice none 0 0]⟩⟩
theorem aFr:qn Tryz.prog 107=some ZX:=by kernel_rfl
def Qd:TI:=⟨Kd.sli 117,1,24,Value.slice none 0 0⟩
theorem YM:qn Tryz.prog 108=some Qd:=by kernel_rfl
def ZW:TI:=⟨Kd.stru [(0,3),(1,108)],2,32,Value.agg ⟨[Value.int IntKind.i64 0,Value.slice none 0 0]⟩⟩
theorem aFq:qn Tryz.prog 109=some ZW:=by kernel_rfl
def ZV:TI:=⟨Kd.stru [(0,3),(1,108)],2,32,Value.agg ⟨[Value.int IntKind.i64 0,Value.slice none 0 0]⟩⟩
theorem aFp:qn Tryz.prog 110=some ZV:=by kernel_rfl
def aaA:TI:=⟨Kd.oth,1,8,Value.nilFunc⟩
theorem bgd:qn Tryz.prog 111=some aaA:=by kernel_rfl
def aaz:TI:=⟨Kd.oth,1,8,Value.nilFunc⟩
theorem bgc:qn Tryz.prog 112=some aaz:=by kernel_rfl
def aay:TI:=⟨Kd.oth,1,8,Value.nilFunc⟩
theorem bgb:qn Tryz.prog 113=some aay:=by kernel_rfl
def aax:TI:=⟨Kd.oth,1,8,Value.nilFunc⟩
theorem bga:qn Tryz.prog 114=some aax:=by kernel_rfl
def aaw:TI:=⟨Kd.oth,1,8,Value.nilFunc⟩
theorem bf9:qn Tryz.prog 115=some aaw:=by kernel_rfl
def Zv:TI:=⟨Kd.stru [(0,4),(1,36),(2,3)],3,40,Value.agg ⟨[Value.bool false,Value.slice none 0 0,Value.int IntKind.i64 0]⟩⟩
theorem arB:qn Tryz.prog 116=some Zv:=by kernel_rfl
def jq:TI:=⟨Kd.stru [(0,4),(1,36),(2,3)],3,40,Value.agg ⟨[Value.bool false,Value.slice none 0 0,Value.int IntKind.i64 0]⟩⟩
theorem yw:qn Tryz.prog 117=some jq:=by kernel_rfl
def aav:TI:=⟨Kd.oth,1,8,Value.nilFunc⟩
theorem bf8:qn Tryz.prog 118=some aav:=by kernel_rfl
def aau:TI:=⟨Kd.oth,1,8,Value.nilFunc⟩
theorem bf7:qn Tryz.prog 119=some aau:=by kernel_rfl
def aat:TI:=⟨Kd.oth,1,8,Value.nilFunc⟩
theorem bf6:qn Tryz.prog 120=some aat:=by kernel_rfl
def aas:TI:=⟨Kd.oth,1,8,Value.nilFunc⟩
theorem bf5:qn Tryz.prog 121=some aas:=by kernel_rfl
def aar:TI:=⟨Kd.oth,1,8,Value.nilFunc⟩
theorem bf4:qn Tryz.prog 122=some aar:=by kernel_rfl
def aaq:TI:=⟨Kd.oth,1,8,Value.nilFunc⟩
theorem bf3:qn Tryz.prog 123=some aaq:=by kernel_rfl
def ZU:TI:=⟨Kd.stru [(0,117),(3,117)],6,80,Value.agg ⟨[Value.bool false,Value.slice none 0 0,Value.int IntKind.i64 0,Value.bool false,Value.slice none 0 0,Value.int IntKind.i64 0]⟩⟩
theorem aFo:qn Tryz.prog 124=some ZU:=by kernel_rfl
def Zu:TI:=⟨Kd.stru [(0,117),(3,117)],6,80,Value.agg ⟨[Value.bool false,Value.slice none 0 0,Value.int IntKind.i64 0,Value.bool false,Value.slice none 0 0,Value.int IntKind.i64 0]⟩⟩
theorem arA:qn Tryz.prog 125=some Zu:=by kernel_rfl
def aap:TI:=⟨Kd.oth,1,8,Value.nilFunc⟩
theorem bf2:qn Tryz.prog 127=some aap:=by kernel_rfl
def aao:TI:=⟨Kd.oth,1,8,Value.nilFunc⟩
theorem bf1:qn Tryz.prog 128=some aao:=by kernel_rfl
def aan:TI:=⟨Kd.oth,1,8,Value.nilFunc⟩
theorem bf0:qn Tryz.prog 129=some aan:=by kernel_rfl
def aam:TI:=⟨Kd.oth,1,8,Value.nilFunc⟩
theorem bfZ:qn Tryz.prog 130=some aam:=by kernel_rfl
def aal:TI:=⟨Kd.oth,1,8,Value.nilFunc⟩
theorem bfY:qn Tryz.prog 131=some aal:=by kernel_rfl
def aak:TI:=⟨Kd.oth,1,8,Value.nilFunc⟩
theorem bfX:qn Tryz.prog 132=some aak:=by kernel_rfl
def aaj:TI:=⟨Kd.oth,1,8,Value.nilFunc⟩
theorem bfW:qn Tryz.prog 133=some aaj:=by kernel_rfl
def aai:TI:=⟨Kd.oth,1,8,Value.nilFunc⟩
theorem bfV:qn Tryz.prog 134=some aai:=by kernel_rfl
def aah:TI:=⟨Kd.oth,1,8,Value.nilFunc⟩
theorem bfU:qn Tryz.prog 135=some aah:=by kernel_rfl
def aag:TI:=⟨Kd.oth,1,8,Value.nilFunc⟩
theorem bfT:qn Tryz.prog 136=some aag:=by kernel_rfl
def aaf:TI:=⟨Kd.oth,1,8,Value.nilFunc⟩
theorem bfS:qn Tryz.prog 137=some aaf:=by kernel_rfl
def aae:TI:=⟨Kd.oth,1,8,Value.nilFunc⟩
theorem bfR:qn Tryz.prog 138=some aae:=by kernel_rfl
def aad:TI:=⟨Kd.oth,1,8,Value.nilFunc⟩
theorem bfQ:qn Tryz.prog 139=some aad:=by kernel_rfl
def aac:TI:=⟨Kd.oth,1,8,Value.nilFunc⟩
theorem bfP:qn Tryz.prog 141=some aac:=by kernel_rfl
def aab:TI:=⟨Kd.oth,1,8,Value.nilFunc⟩
theorem bfO:qn Tryz.prog 142=some aab:=by kernel_rfl
def aaa:TI:=⟨Kd.oth,1,8,Value.nilFunc⟩
theorem bfN:qn Tryz.prog 143=some aaa:=by kernel_rfl
def K9:TI:=⟨Kd.oth,1,8,Value.nilFunc⟩
theorem bfM:qn Tryz.prog 144=some K9:=by kernel_rfl
def K8:TI:=⟨Kd.oth,1,8,Value.nilFunc⟩
theorem bfL:qn Tryz.prog 145=some K8:=by kernel_rfl
def K7:TI:=⟨Kd.oth,1,8,Value.nilFunc⟩
theorem bfK:qn Tryz.prog 146=some K7:=by kernel_rfl
def K6:TI:=⟨Kd.oth,1,8,Value.nilFunc⟩
theorem bfJ:qn Tryz.prog 147=some K6:=by kernel_rfl
def K5:TI:=⟨Kd.oth,1,8,Value.nilFunc⟩
theorem bfI:qn Tryz.prog 148=some K5:=by kernel_rfl
def K4:TI:=⟨Kd.oth,1,8,Value.nilFunc⟩
theorem bfH:qn Tryz.prog 149=some K4:=by kernel_rfl
def K3:TI:=⟨Kd.oth,1,8,Value.nilFunc⟩
theorem bfG:qn Tryz.prog 150=some K3:=by kernel_rfl
def K2:TI:=⟨Kd.oth,1,8,Value.nilFunc⟩
theorem bfF:qn Tryz.prog 151=some K2:=by kernel_rfl
def K1:TI:=⟨Kd.oth,1,8,Value.nilFunc⟩
theorem bfE:qn Tryz.prog 152=some K1:=by kernel_rfl
def K0:TI:=⟨Kd.oth,1,8,Value.nilFunc⟩
theorem bfD:qn Tryz.prog 153=some K0:=by kernel_rfl
def KZ:TI:=⟨Kd.oth,1,8,Value.nilFunc⟩
theorem bfC:qn Tryz.prog 154=some KZ:=by kernel_rfl
def KY:TI:=⟨Kd.oth,1,8,Value.nilFunc⟩
theorem bfB:qn Tryz.prog 155=some KY:=by kernel_rfl
def KX:TI:=⟨Kd.oth,1,8,Value.nilFunc⟩
theorem bfA:qn Tryz.prog 156=some KX:=by kernel_rfl
def KW:TI:=⟨Kd.oth,1,8,Value.nilFunc⟩
theorem bfz:qn Tryz.prog 157=some KW:=by kernel_rfl
def KU:TI:=⟨Kd.oth,1,8,Value.nilFunc⟩
theorem bfy:qn Tryz.prog 158=some KU:=by kernel_rfl
def KT:TI:=⟨Kd.oth,1,8,Value.nilFunc⟩
theorem bfx:qn Tryz.prog 159=some KT:=by kernel_rfl
def KS:TI:=⟨Kd.oth,1,8,Value.nilFunc⟩
theorem bfw:qn Tryz.prog 160=some KS:=by kernel_rfl
def KR:TI:=⟨Kd.oth,1,8,Value.nilFunc⟩
theorem bfv:qn Tryz.prog 161=some KR:=by kernel_rfl
def KQ:TI:=⟨Kd.oth,1,8,Value.nilFunc⟩
theorem bfu:qn Tryz.prog 162=some KQ:=by kernel_rfl
def KP:TI:=⟨Kd.oth,1,8,Value.nilFunc⟩
theorem bft:qn Tryz.prog 163=some KP:=by kernel_rfl
def KO:TI:=⟨Kd.oth,1,8,Value.nilFunc⟩
theorem bfs:qn Tryz.prog 164=some KO:=by kernel_rfl
def KN:TI:=⟨Kd.oth,1,8,Value.nilFunc⟩
theorem bfr:qn Tryz.prog 165=some KN:=by kernel_rfl
def KM:TI:=⟨Kd.oth,1,8,Value.nilFunc⟩
theorem bfq:qn Tryz.prog 166=some KM:=by kernel_rfl
def KL:TI:=⟨Kd.oth,1,8,Value.nilFunc⟩
theorem bfp:qn Tryz.prog 167=some KL:=by kernel_rfl
def KK:TI:=⟨Kd.oth,1,8,Value.nilFunc⟩
theorem bfo:qn Tryz.prog 168=some KK:=by kernel_rfl
def KJ:TI:=⟨Kd.oth,1,8,Value.nilFunc⟩
theorem bfn:qn Tryz.prog 169=some KJ:=by kernel_rfl
def KI:TI:=⟨Kd.oth,1,8,Value.nilFunc⟩
theorem bfm:qn Tryz.prog 170=some KI:=by kernel_rfl
def KH:TI:=⟨Kd.oth,1,8,Value.nilFunc⟩
theorem bfl:qn Tryz.prog 171=some KH:=by kernel_rfl
def KG:TI:=⟨Kd.oth,1,8,Value.nilFunc⟩
theorem bfk:qn Tryz.prog 172=some KG:=by kernel_rfl
def KF:TI:=⟨Kd.oth,1,8,Value.nilFunc⟩
theorem bfj:qn Tryz.prog 173=some KF:=by kernel_rfl
def KE:TI:=⟨Kd.oth,1,8,Value.nilFunc⟩
theorem bfi:qn Tryz.prog 174=some KE:=by kernel_rfl
def KD:TI:=⟨Kd.oth,1,8,Value.nilFunc⟩
theorem bfh:qn Tryz.prog 175=some KD:=by kernel_rfl
def Zt:TI:=⟨Kd.stru [(0,22),(1,3),(2,3)],3,40,Value.agg ⟨[Value.slice none 0 0,Value.int IntKind.i64 0,Value.int IntKind.i64 0]⟩⟩
theorem arz:qn Tryz.prog 176=some Zt:=by kernel_rfl
def Zs:TI:=⟨Kd.stru [(0,22),(1,3),(2,3)],3,40,Value.agg ⟨[Value.slice none 0 0,Value.int IntKind.i64 0,Value.int IntKind.i64 0]⟩⟩
theorem ary:qn Tryz.prog 177=some Zs:=by kernel_rfl
def KC:TI:=⟨Kd.oth,1,8,Value.nilFunc⟩
theorem bfg:qn Tryz.prog 178=some KC:=by kernel_rfl
def KB:TI:=⟨Kd.oth,1,8,Value.nilFunc⟩
theorem bff:qn Tryz.prog 179=some KB:=by kernel_rfl
def KA:TI:=⟨Kd.oth,1,8,Value.nilFunc⟩
theorem bfe:qn Tryz.prog 180=some KA:=by kernel_rfl
def Kw:TI:=⟨Kd.oth,1,8,Value.nilFunc⟩
theorem bfd:qn Tryz.prog 181=some Kw:=by kernel_rfl
def Kv:TI:=⟨Kd.oth,1,8,Value.nilFunc⟩
theorem bfc:qn Tryz.prog 182=some Kv:=by kernel_rfl
def Ku:TI:=⟨Kd.oth,1,8,Value.nilFunc⟩
theorem bfb:qn Tryz.prog 183=some Ku:=by kernel_rfl
def Kt:TI:=⟨Kd.oth,1,8,Value.nilFunc⟩
theorem bfa:qn Tryz.prog 184=some Kt:=by kernel_rfl
def Ks:TI:=⟨Kd.oth,1,8,Value.nilFunc⟩
theorem be9:qn Tryz.prog 185=some Ks:=by kernel_rfl
def Kr:TI:=⟨Kd.oth,1,8,Value.nilFunc⟩
theorem be8:qn Tryz.prog 186=some Kr:=by kernel_rfl
def Kq:TI:=⟨Kd.oth,1,8,Value.nilFunc⟩
theorem be7:qn Tryz.prog 188=some Kq:=by kernel_rfl
def Kp:TI:=⟨Kd.oth,1,8,Value.nilFunc⟩
theorem be6:qn Tryz.prog 189=some Kp:=by kernel_rfl
def Ko:TI:=⟨Kd.oth,1,8,Value.nilFunc⟩
theorem be5:qn Tryz.prog 190=some Ko:=by kernel_rfl
def Kn:TI:=⟨Kd.oth,1,8,Value.nilFunc⟩
theorem be4:qn Tryz.prog 191=some Kn:=by kernel_rfl
def Km:TI:=⟨Kd.oth,1,8,Value.nilFunc⟩
theorem be3:qn Tryz.prog 192=some Km:=by kernel_rfl
def Kl:TI:=⟨Kd.oth,1,8,Value.nilFunc⟩
theorem be2:qn Tryz.prog 193=some Kl:=by kernel_rfl
def Kk:TI:=⟨Kd.oth,1,8,Value.nilFunc⟩
theorem be1:qn Tryz.prog 194=some Kk:=by kernel_rfl
def Kj:TI:=⟨Kd.sli 108,1,24,Value.slice none 0 0⟩
theorem aS6:qn Tryz.prog 195=some Kj:=by kernel_rfl
def Ki:TI:=⟨Kd.oth,1,8,Value.nilFunc⟩
theorem be0:qn Tryz.prog 196=some Ki:=by kernel_rfl
def Kh:TI:=⟨Kd.oth,1,8,Value.nilFunc⟩
theorem beZ:qn Tryz.prog 197=some Kh:=by kernel_rfl
def Kg:TI:=⟨Kd.oth,1,8,Value.nilFunc⟩
theorem beY:qn Tryz.prog 198=some Kg:=by kernel_rfl
def Kf:TI:=⟨Kd.oth,1,8,Value.nilFunc⟩
theorem beX:qn Tryz.prog 200=some Kf:=by kernel_rfl
def Ke:TI:=⟨Kd.oth,1,8,Value.nilFunc⟩
theorem beW:qn Tryz.prog 201=some Ke:=by kernel_rfl
def Kc:TI:=⟨Kd.oth,1,8,Value.nilFunc⟩
theorem beV:qn Tryz.prog 202=some Kc:=by kernel_rfl
def Kb:TI:=⟨Kd.oth,1,8,Value.nilFunc⟩
theorem beU:qn Tryz.prog 204=some Kb:=by kernel_rfl
def Ka:TI:=⟨Kd.oth,1,8,Value.nilFunc⟩
theorem beT:qn Tryz.prog 206=some Ka:=by kernel_rfl
def V9:TI:=⟨Kd.oth,1,8,Value.nilFunc⟩
theorem beS:qn Tryz.prog 207=some V9:=by kernel_rfl
def V8:TI:=⟨Kd.oth,1,8,Value.nilFunc⟩
theorem beR:qn Tryz.prog 208=some V8:=by kernel_rfl
def V7:TI:=⟨Kd.oth,1,8,Value.nilFunc⟩
theorem beQ:qn Tryz.prog 209=some V7:=by kernel_rfl
def V6:TI:=⟨Kd.oth,1,8,Value.nilFunc⟩
theorem beP:qn Tryz.prog 210=some V6:=by kernel_rfl
def V5:TI:=⟨Kd.oth,1,8,Value.nilFunc⟩
theorem beO:qn Tryz.prog 211=some V5:=by kernel_rfl
def V4:TI:=⟨Kd.oth,1,8,Value.nilFunc⟩
theorem beN:qn Tryz.prog 213=some V4:=by kernel_rfl
def V3:TI:=⟨Kd.oth,1,8,Value.nilFunc⟩
theorem beM:qn Tryz.prog 214=some V3:=by kernel_rfl
def V2:TI:=⟨Kd.oth,1,8,Value.nilFunc⟩
theorem beL:qn Tryz.prog 215=some V2:=by kernel_rfl
def V1:TI:=⟨Kd.oth,1,8,Value.nilFunc⟩
theorem beK:qn Tryz.prog 216=some V1:=by kernel_rfl
def V0:TI:=⟨Kd.oth,1,8,Value.nilFunc⟩
theorem beJ:qn Tryz.prog 217=some V0:=by kernel_rfl
def VZ:TI:=⟨Kd.oth,1,8,Value.nilFunc⟩
theorem beI:qn Tryz.prog 218=some VZ:=by kernel_rfl
def VY:TI:=⟨Kd.oth,1,8,Value.nilFunc⟩
theorem beH:qn Tryz.prog 219=some VY:=by kernel_rfl
def VX:TI:=⟨Kd.oth,1,8,Value.nilFunc⟩
theorem beG:qn Tryz.prog 220=some VX:=by kernel_rfl
def VW:TI:=⟨Kd.oth,1,8,Value.nilFunc⟩
theorem beF:qn Tryz.prog 221=some VW:=by kernel_rfl
def VV:TI:=⟨Kd.oth,1,8,Value.nilFunc⟩
theorem beE:qn Tryz.prog 222=some VV:=by kernel_rfl
def VU:TI:=⟨Kd.oth,1,8,Value.nilFunc⟩
theorem beD:qn Tryz.prog 223=some VU:=by kernel_rfl
def VT:TI:=⟨Kd.oth,1,8,Value.nilFunc⟩
theorem beC:qn Tryz.prog 224=some VT:=by kernel_rfl
def VS:TI:=⟨Kd.oth,1,8,Value.nilFunc⟩
theorem beB:qn Tryz.prog 225=some VS:=by kernel_rfl
def VR:TI:=⟨Kd.oth,1,8,Value.nilFunc⟩
theorem beA:qn Tryz.prog 226=some VR:=by kernel_rfl
def VQ:TI:=⟨Kd.oth,1,8,Value.nilFunc⟩
theorem bez:qn Tryz.prog 227=some VQ:=by kernel_rfl
def VP:TI:=⟨Kd.oth,1,8,Value.nilFunc⟩
theorem bey:qn Tryz.prog 228=some VP:=by kernel_rfl
def VO:TI:=⟨Kd.oth,1,8,Value.nilFunc⟩
theorem bex:qn Tryz.prog 229=some VO:=by kernel_rfl
def VN:TI:=⟨Kd.oth,1,8,Value.nilFunc⟩
theorem bew:qn Tryz.prog 230=some VN:=by kernel_rfl
def VM:TI:=⟨Kd.oth,1,8,Value.nilFunc⟩
theorem bev:qn Tryz.prog 231=some VM:=by kernel_rfl
def VL:TI:=⟨Kd.oth,1,8,Value.nilFunc⟩
theorem beu:qn Tryz.prog 233=some VL:=by kernel_rfl
def VK:TI:=⟨Kd.oth,1,8,Value.nilFunc⟩
theorem bet:qn Tryz.prog 234=some VK:=by kernel_rfl
def VJ:TI:=⟨Kd.oth,1,8,Value.nilFunc⟩
theorem bes:qn Tryz.prog 235=some VJ:=by kernel_rfl
def VI:TI:=⟨Kd.oth,1,8,Value.nilFunc⟩
theorem ber:qn Tryz.prog 236=some VI:=by kernel_rfl
def VH:TI:=⟨Kd.oth,1,8,Value.nilFunc⟩
theorem bep:qn Tryz.prog 237=some VH:=by kernel_rfl
def VG:TI:=⟨Kd.oth,1,8,Value.nilFunc⟩
theorem beo:qn Tryz.prog 238=some VG:=by kernel_rfl
def VF:TI:=⟨Kd.oth,1,8,Value.nilFunc⟩
theorem ben:qn Tryz.prog 239=some VF:=by kernel_rfl
def VE:TI:=⟨Kd.oth,1,8,Value.nilFunc⟩
theorem bem:qn Tryz.prog 240=some VE:=by kernel_rfl
def VD:TI:=⟨Kd.oth,1,8,Value.nilFunc⟩
theorem bel:qn Tryz.prog 241=some VD:=by kernel_rfl
def VC:TI:=⟨Kd.oth,1,8,Value.nilFunc⟩
theorem bek:qn Tryz.prog 242=some VC:=by kernel_rfl
def VB:TI:=⟨Kd.oth,1,8,Value.nilFunc⟩
theorem bej:qn Tryz.prog 243=some VB:=by kernel_rfl
def VA:TI:=⟨Kd.oth,1,8,Value.nilFunc⟩
theorem bei:qn Tryz.prog 244=some VA:=by kernel_rfl
def Vz:TI:=⟨Kd.oth,1,8,Value.nilFunc⟩
theorem beh:qn Tryz.prog 245=some Vz:=by kernel_rfl
def Vy:TI:=⟨Kd.oth,1,8,Value.nilFunc⟩
theorem beg:qn Tryz.prog 246=some Vy:=by kernel_rfl
def Vx:TI:=⟨Kd.oth,1,8,Value.nilFunc⟩
theorem bef:qn Tryz.prog 247=some Vx:=by kernel_rfl
def Vw:TI:=⟨Kd.oth,1,8,Value.nilFunc⟩
theorem bee:qn Tryz.prog 248=some Vw:=by kernel_rfl
def Vv:TI:=⟨Kd.oth,1,8,Value.nilFunc⟩
theorem bed:qn Tryz.prog 250=some Vv:=by kernel_rfl
def Vu:TI:=⟨Kd.oth,1,8,Value.nilFunc⟩
theorem bec:qn Tryz.prog 252=some Vu:=by kernel_rfl
def Vt:TI:=⟨Kd.oth,1,8,Value.nilFunc⟩
theorem beb:qn Tryz.prog 253=some Vt:=by kernel_rfl
def Vs:TI:=⟨Kd.oth,1,8,Value.nilFunc⟩
theorem bea:qn Tryz.prog 254=some Vs:=by kernel_rfl
def Vr:TI:=⟨Kd.oth,1,8,Value.nilFunc⟩
theorem bd9:qn Tryz.prog 255=some Vr:=by kernel_rfl
def Vq:TI:=⟨Kd.oth,1,8,Value.nilFunc⟩
theorem bd8:qn Tryz.prog 256=some Vq:=by kernel_rfl
def Vp:TI:=⟨Kd.oth,1,8,Value.nilFunc⟩
theorem bd7:qn Tryz.prog 257=some Vp:=by kernel_rfl
def Vo:TI:=⟨Kd.oth,1,8,Value.nilFunc⟩
theorem bd6:qn Tryz.prog 258=some Vo:=by kernel_rfl
def Vn:TI:=⟨Kd.oth,1,8,Value.nilFunc⟩
theorem bd5:qn Tryz.prog 259=some Vn:=by kernel_rfl
def Vm:TI:=⟨Kd.oth,1,8,Value.nilFunc⟩
theorem bd4:qn Tryz.prog 260=some Vm:=by kernel_rfl
def Vl:TI:=⟨Kd.oth,1,8,Value.nilFunc⟩
theorem bd3:qn Tryz.prog 261=some Vl:=by kernel_rfl
def Vk:TI:=⟨Kd.oth,1,8,Value.nilFunc⟩
theorem bd2:qn Tryz.prog 262=some Vk:=by kernel_rfl
def Vj:TI:=⟨Kd.oth,1,8,Value.nilFunc⟩
theorem bd1:qn Tryz.prog 263=some Vj:=by kernel_rfl
def Vi:TI:=⟨Kd.int IntKind.u64,1,8,Value.int IntKind.u64 0⟩
theorem bd0:qn Tryz.prog 264=some Vi:=by kernel_rfl
def Vh:TI:=⟨Kd.oth,1,8,Value.nilFunc⟩
theorem bdZ:qn Tryz.prog 265=some Vh:=by kernel_rfl
def Vg:TI:=⟨Kd.oth,1,8,Value.nilFunc⟩
theorem bdY:qn Tryz.prog 266=some Vg:=by kernel_rfl
def Vf:TI:=⟨Kd.oth,1,8,Value.nilFunc⟩
theorem bdX:qn Tryz.prog 267=some Vf:=by kernel_rfl
def Ve:TI:=⟨Kd.oth,1,8,Value.nilFunc⟩
theorem bdW:qn Tryz.prog 269=some Ve:=by kernel_rfl
def Vd:TI:=⟨Kd.oth,1,8,Value.nilFunc⟩
theorem bdV:qn Tryz.prog 271=some Vd:=by kernel_rfl
def Vc:TI:=⟨Kd.oth,1,8,Value.nilFunc⟩
theorem bdU:qn Tryz.prog 273=some Vc:=by kernel_rfl
def Vb:TI:=⟨Kd.oth,1,8,Value.nilFunc⟩
theorem bdT:qn Tryz.prog 274=some Vb:=by kernel_rfl
def Va:TI:=⟨Kd.int IntKind.u32,1,4,Value.int IntKind.u32 0⟩
theorem bdS:qn Tryz.prog 275=some Va:=by kernel_rfl
def X9:TI:=⟨Kd.oth,1,8,Value.nilFunc⟩
theorem bdR:qn Tryz.prog 276=some X9:=by kernel_rfl
def X8:TI:=⟨Kd.int IntKind.u64,1,8,Value.int IntKind.u64 0⟩
theorem bdQ:qn Tryz.prog 277=some X8:=by kernel_rfl
def X7:TI:=⟨Kd.oth,1,8,Value.nilFunc⟩
theorem bdP:qn Tryz.prog 278=some X7:=by kernel_rfl
def X6:TI:=⟨Kd.oth,1,8,Value.nilFunc⟩
theorem bdO:qn Tryz.prog 279=some X6:=by kernel_rfl
def X5:TI:=⟨Kd.oth,1,8,Value.nilFunc⟩
theorem bdN:qn Tryz.prog 281=some X5:=by kernel_rfl
def X4:TI:=⟨Kd.oth,1,8,Value.nilFunc⟩
theorem bdM:qn Tryz.prog 282=some X4:=by kernel_rfl
def X3:TI:=⟨Kd.oth,1,8,Value.nilFunc⟩
theorem bdL:qn Tryz.prog 283=some X3:=by kernel_rfl
def X2:TI:=⟨Kd.oth,1,8,Value.nilFunc⟩
theorem bdK:qn Tryz.prog 287=some X2:=by kernel_rfl
def X1:TI:=⟨Kd.oth,1,8,Value.nilFunc⟩
theorem bdJ:qn Tryz.prog 288=some X1:=by kernel_rfl
def X0:TI:=⟨Kd.oth,1,8,Value.nilFunc⟩
theorem bdI:qn Tryz.prog 289=some X0:=by kernel_rfl
def XZ:TI:=⟨Kd.oth,1,8,Value.nilFunc⟩
theorem bdH:qn Tryz.prog 290=some XZ:=by kernel_rfl
def XY:TI:=⟨Kd.oth,1,8,Value.nilFunc⟩
theorem bdG:qn Tryz.prog 291=some XY:=by kernel_rfl
def XX:TI:=⟨Kd.stru [(0,294)],0,0,Value.agg ⟨[]⟩⟩
theorem bdF:qn Tryz.prog 295=some XX:=by kernel_rfl
def XW:TI:=⟨Kd.stru [(0,294)],0,0,Value.agg ⟨[]⟩⟩
theorem bdE:qn Tryz.prog 296=some XW:=by kernel_rfl
def XV:TI:=⟨Kd.int IntKind.u8,1,1,Value.int IntKind.u8 0⟩
theorem bdD:qn Tryz.prog 297=some XV:=by kernel_rfl
def XU:TI:=⟨Kd.int IntKind.u8,1,1,Value.int IntKind.u8 0⟩
theorem bdC:qn Tryz.prog 298=some XU:=by kernel_rfl
def XT:TI:=⟨Kd.oth,1,8,Value.nilFunc⟩
theorem bdB:qn Tryz.prog 299=some XT:=by kernel_rfl
def XS:TI:=⟨Kd.int IntKind.i32,1,4,Value.int IntKind.i32 0⟩
theorem bdA:qn Tryz.prog 301=some XS:=by kernel_rfl
def XR:TI:=⟨Kd.int IntKind.i32,1,4,Value.int IntKind.i32 0⟩
theorem bdz:qn Tryz.prog 302=some XR:=by kernel_rfl
def XQ:TI:=⟨Kd.oth,1,8,Value.nilFunc⟩
theorem bdy:qn Tryz.prog 305=some XQ:=by kernel_rfl
def XP:TI:=⟨Kd.oth,1,8,Value.nilFunc⟩
theorem bdx:qn Tryz.prog 306=some XP:=by kernel_rfl
theorem ty1{K:TI→Prop}:@tyW Tryz.prog 1 ⟨K⟩=K ti1:=qh tf1
theorem aS3:ti1.kd=Kd.oth:=ID rfl
theorem aNU:ti1.kd.agg=false:=ID rfl
theorem aAE:ti1.size=1:=ID rfl
theorem apT:ti1.bytes=8:=ID rfl
theorem aS1:qw ti1=True:=eq_true rfl
theorem aS2:zc ti1=[.v Value.nilFunc]:=ID rfl
theorem ty2{K:TI→Prop}:@tyW Tryz.prog 2 ⟨K⟩=K ti2:=qh tf2
theorem aS0:ti2.kd=Kd.int IntKind.i64:=ID rfl
theorem aNv:ti2.kd.agg=false:=ID rfl
theorem awq:ti2.size=1:=ID rfl
theorem aoj:ti2.bytes=8:=ID rfl
theorem aSY:qw ti2=True:=eq_true rfl
theorem aSZ:zc ti2=[.v (Value.int IntKind.i64 0)]:=ID rfl
theorem ty3{K:TI→Prop}:@tyW Tryz.prog 3 ⟨K⟩=K ti3:=qh tf3
theorem aSX:ti3.kd=Kd.int IntKind.i64:=ID rfl
theorem aM6:ti3.kd.agg=false:=ID rfl
theorem av4:ti3.size=1:=ID rfl
theorem an4:ti3.bytes=8:=ID rfl
theorem aSV:qw ti3=True:=eq_true rfl
theorem aSW:zc ti3=[.v (Value.int IntKind.i64 0)]:=ID rfl
theorem ty4{K:TI→Prop}:@tyW Tryz.prog 4 ⟨K⟩=K ti4:=qh tf4
theorem aSU:ti4.kd=Kd.bool:=ID rfl
theorem aMB:ti4.kd.agg=false:=ID rfl
theorem avT:ti4.size=1:=ID rfl
theorem anS:ti4.bytes=1:=ID rfl
theorem aSS:qw ti4=True:=eq_true rfl
theorem aST:zc ti4=[.v (Value.bool false)]:=ID rfl
theorem ty5{K:TI→Prop}:@tyW Tryz.prog 5 ⟨K⟩=K ti5:=qh tf5
theorem aSR:ti5.kd=Kd.int IntKind.u8:=ID rfl
theorem aMf:ti5.kd.agg=false:=ID rfl
theorem avL:ti5.size=1:=ID rfl
theorem anK:ti5.bytes=1:=ID rfl
theorem aSP:qw ti5=True:=eq_true rfl
theorem aSQ:zc ti5=[.v (Value.int IntKind.u8 0)]:=ID rfl
theorem ty6{K:TI→Prop}:@tyW Tryz.prog 6 ⟨K⟩=K ti6:=qh tf6
theorem aSO:ti6.kd=Kd.int IntKind.u8:=ID rfl
theorem aLN:ti6.kd.agg=false:=ID rfl
theorem avB:ti6.size=1:=ID rfl
theorem anA:ti6.bytes=1:=ID rfl
theorem aSM:qw ti6=True:=eq_true rfl
theorem aSN:zc ti6=[.v (Value.int IntKind.u8 0)]:=ID rfl
theorem ty7{K:TI→Prop}:@tyW Tryz.prog 7 ⟨K⟩=K ti7:=qh tf7
theorem aSL:ti7.kd=Kd.stru [(0,2),(1,3),(2,4),(3,6)]:=ID rfl
theorem aLi:ti7.kd.agg=true:=ID rfl
theorem avq:ti7.size=4:=ID rfl
theorem anm:ti7.bytes=24:=ID rfl
theorem aSJ:qw ti7=True:=eq_true rfl
theorem aSK:zc ti7=[.v (Value.int IntKind.i64 0),.v (Value.int IntKind.i64 0),.v (Value.bool false),.v (Value.int IntKind.u8 0)]:=ID rfl
theorem aY7{K:Nat→TI→Prop}:@qz Tryz.prog 7 0 ⟨K⟩=K 0 ti2:=qr (ti:=ti7) (tf:=ti2) (fo:=(0,2)) (fs:=[(0,2),(1,3),(2,4),(3,6)]) tf7 rfl rfl tf2
theorem bgI{K:Nat→Nat→Prop}:qt Tryz.prog [(0,2),(1,3),(2,4),(3,6)] 0 K=K 0 1:=qq (tf:=ti2) (fo:=(0,2)) (fs:=[(0,2),(1,3),(2,4),(3,6)]) rfl tf2
theorem aY6{K:Nat→TI→Prop}:@qz Tryz.prog 7 1 ⟨K⟩=K 1 ti3:=qr (ti:=ti7) (tf:=ti3) (fo:=(1,3)) (fs:=[(0,2),(1,3),(2,4),(3,6)]) tf7 rfl rfl tf3
theorem bgH{K:Nat→Nat→Prop}:qt Tryz.prog [(0,2),(1,3),(2,4),(3,6)] 1 K=K 1 1:=qq (tf:=ti3) (fo:=(1,3)) (fs:=[(0,2),(1,3),(2,4),(3,6)]) rfl tf3
theorem aY5{K:Nat→TI→Prop}:@qz Tryz.prog 7 2 ⟨K⟩=K 2 ti4:=qr (ti:=ti7) (tf:=ti4) (fo:=(2,4)) (fs:=[(0,2),(1,3),(2,4),(3,6)]) tf7 rfl rfl tf4
theorem bgG{K:Nat→Nat→Prop}:qt Tryz.prog [(0,2),(1,3),(2,4),(3,6)] 2 K=K 2 1:=qq (tf:=ti4) (fo:=(2,4)) (fs:=[(0,2),(1,3),(2,4),(3,6)]) rfl tf4
theorem aY4{K:Nat→TI→Prop}:@qz Tryz.prog 7 3 ⟨K⟩=K 3 ti6:=qr (ti:=ti7) (tf:=ti6) (fo:=(3,6)) (fs:=[(0,2),(1,3),(2,4),(3,6)]) tf7 rfl rfl tf6
theorem bgF{K:Nat→Nat→Prop}:qt Tryz.prog [(0,2),(1,3),(2,4),(3,6)] 3 K=K 3 1:=qq (tf:=ti6) (fo:=(3,6)) (fs:=[(0,2),(1,3),(2,4),(3,6)]) rfl tf6
theorem bg6:∀f∈([(0,2),(1,3),(2,4),(3,6)]:List (Nat×Nat)),(qn Tryz.prog f.2).isSome=true:=by
 intro f hf
 simp only[List.mem_cons,List.not_mem_nil,or_false]at hf
 rcases hf with rfl|rfl|rfl|rfl
 ·rw[tf2];rfl
 ·rw[tf3];rfl
 ·rw[tf4];rfl
 ·rw[tf6];rfl
theorem bma{ps:List (Nat×AV)}{K:AV→Prop}:@q7 Tryz.prog 7 ps ⟨K⟩=@zg (qt Tryz.prog [(0,2),(1,3),(2,4),(3,6)]) (zc ti7) ps ⟨fun cs=>K (.ag cs)⟩:=qF tf7 rfl bg6
theorem ty8{K:TI→Prop}:@tyW Tryz.prog 8 ⟨K⟩=K ti8:=qh tf8
theorem aSI:ti8.kd=Kd.stru [(0,2),(1,3),(2,4),(3,6)]:=ID rfl
theorem aKN:ti8.kd.agg=true:=ID rfl
theorem avf:ti8.size=4:=ID rfl
theorem am7:ti8.bytes=24:=ID rfl
theorem aSG:qw ti8=True:=eq_true rfl
theorem aSH:zc ti8=[.v (Value.int IntKind.i64 0),.v (Value.int IntKind.i64 0),.v (Value.bool false),.v (Value.int IntKind.u8 0)]:=ID rfl
theorem aY3{K:Nat→TI→Prop}:@qz Tryz.prog 8 0 ⟨K⟩=K 0 ti2:=qr (ti:=ti8) (tf:=ti2) (fo:=(0,2)) (fs:=[(0,2),(1,3),(2,4),(3,6)]) tf8 rfl rfl tf2
theorem bgE{K:Nat→Nat→Prop}:qt Tryz.prog [(0,2),(1,3),(2,4),(3,6)] 0 K=K 0 1:=qq (tf:=ti2) (fo:=(0,2)) (fs:=[(0,2),(1,3),(2,4),(3,6)]) rfl tf2
theorem aY2{K:Nat→TI→Prop}:@qz Tryz.prog 8 1 ⟨K⟩=K 1 ti3:=qr (ti:=ti8) (tf:=ti3) (fo:=(1,3)) (fs:=[(0,2),(1,3),(2,4),(3,6)]) tf8 rfl rfl tf3
theorem bgD{K:Nat→Nat→Prop}:qt Tryz.prog [(0,2),(1,3),(2,4),(3,6)] 1 K=K 1 1:=qq (tf:=ti3) (fo:=(1,3)) (fs:=[(0,2),(1,3),(2,4),(3,6)]) rfl tf3
theorem aY1{K:Nat→TI→Prop}:@qz Tryz.prog 8 2 ⟨K⟩=K 2 ti4:=qr (ti:=ti8) (tf:=ti4) (fo:=(2,4)) (fs:=[(0,2),(1,3),(2,4),(3,6)]) tf8 rfl rfl tf4
theorem bgC{K:Nat→Nat→Prop}:qt Tryz.prog [(0,2),(1,3),(2,4),(3,6)] 2 K=K 2 1:=qq (tf:=ti4) (fo:=(2,4)) (fs:=[(0,2),(1,3),(2,4),(3,6)]) rfl tf4
theorem aY0{K:Nat→TI→Prop}:@qz Tryz.prog 8 3 ⟨K⟩=K 3 ti6:=qr (ti:=ti8) (tf:=ti6) (fo:=(3,6)) (fs:=[(0,2),(1,3),(2,4),(3,6)]) tf8 rfl rfl tf6
theorem bgB{K:Nat→Nat→Prop}:qt Tryz.prog [(0,2),(1,3),(2,4),(3,6)] 3 K=K 3 1:=qq (tf:=ti6) (fo:=(3,6)) (fs:=[(0,2),(1,3),(2,4),(3,6)]) rfl tf6
theorem bg5:∀f∈([(0,2),(1,3),(2,4),(3,6)]:List (Nat×Nat)),(qn Tryz.prog f.2).isSome=true:=by
 intro f hf
 simp only[List.mem_cons,List.not_mem_nil,or_false]at hf
 rcases hf with rfl|rfl|rfl|rfl
 ·rw[tf2];rfl
 ·rw[tf3];rfl
 ·rw[tf4];rfl
 ·rw[tf6];rfl
theorem bl9{ps:List (Nat×AV)}{K:AV→Prop}:@q7 Tryz.prog 8 ps ⟨K⟩=@zg (qt Tryz.prog [(0,2),(1,3),(2,4),(3,6)]) (zc ti8) ps ⟨fun cs=>K (.ag cs)⟩:=qF tf8 rfl bg5
theorem ty9{K:TI→Prop}:@tyW Tryz.prog 9 ⟨K⟩=K ti9:=qh tf9
theorem aSF:ti9.kd=Kd.str:=ID rfl
theorem aKl:ti9.kd.agg=false:=ID rfl
theorem au5:ti9.size=1:=ID rfl
theorem amX:ti9.bytes=16:=ID rfl
theorem aSD:qw ti9=True:=eq_true rfl
theorem aSE:zc ti9=[.v (Value.string {data:=⟨[]⟩})]:=ID rfl
theorem bkE{K:TI→Prop}:@tyW Tryz.prog 10 ⟨K⟩=K aJn:=qh blv
theorem aN3:aJn.kd=Kd.str:=ID rfl
theorem aER:aJn.kd.agg=false:=ID rfl
theorem arl:aJn.size=1:=ID rfl
theorem alb:aJn.bytes=16:=ID rfl
theorem aN1:qw aJn=True:=eq_true rfl
theorem aN2:zc aJn=[.v (Value.string {data:=⟨[]⟩})]:=ID rfl
theorem bkD{K:TI→Prop}:@tyW Tryz.prog 11 ⟨K⟩=K aJm:=qh blu
theorem aN0:aJm.kd=Kd.str:=ID rfl
theorem aEm:aJm.kd.agg=false:=ID rfl
theorem aq9:aJm.size=1:=ID rfl
theorem ak0:aJm.bytes=16:=ID rfl
theorem aNY:qw aJm=True:=eq_true rfl
theorem aNZ:zc aJm=[.v (Value.string {data:=⟨[]⟩})]:=ID rfl
theorem bkC{K:TI→Prop}:@tyW Tryz.prog 12 ⟨K⟩=K aJl:=qh bls
theorem aNX:aJl.kd=Kd.int IntKind.u64:=ID rfl
theorem aDU:aJl.kd.agg=false:=ID rfl
theorem aqZ:aJl.size=1:=ID rfl
theorem akQ:aJl.bytes=8:=ID rfl
theorem aNV:qw aJl=True:=eq_true rfl
theorem aNW:zc aJl=[.v (Value.int IntKind.u64 0)]:=ID rfl
theorem bkB{K:TI→Prop}:@tyW Tryz.prog 21 ⟨K⟩=K aJk:=qh blr
theorem aNT:aJk.kd=Kd.int IntKind.i32:=ID rfl
theorem azO:aJk.kd.agg=false:=ID rfl
theorem apA:aJk.size=1:=ID rfl
theorem ajt:aJk.bytes=4:=ID rfl
theorem aNR:qw aJk=True:=eq_true rfl
theorem aNS:zc aJk=[.v (Value.int IntKind.i32 0)]:=ID rfl
theorem bkA{K:TI→Prop}:@tyW Tryz.prog 22 ⟨K⟩=K agp:=qh aJr
theorem aNQ:agp.kd=Kd.sli 5:=ID rfl
theorem azj:agp.kd.agg=false:=ID rfl
theorem apo:agp.size=1:=ID rfl
theorem aji:agp.bytes=24:=ID rfl
theorem aNO:qw agp=True:=eq_true rfl
theorem aNP:zc agp=[.v (Value.slice none 0 0)]:=ID rfl
theorem bgr{K:TI→Prop}:@y3 Tryz.prog 22 ⟨K⟩=K ti5:=Zi aJr rfl tf5
theorem bkz{K:TI→Prop}:@tyW Tryz.prog 23 ⟨K⟩=K ago:=qh aJq
theorem aNN:ago.kd=Kd.sli 42:=ID rfl
theorem ayR:ago.kd.agg=false:=ID rfl
theorem ape:ago.size=1:=ID rfl
theorem ai8:ago.bytes=24:=ID rfl
theorem aNL:qw ago=True:=eq_true rfl
theorem aNM:zc ago=[.v (Value.slice none 0 0)]:=ID rfl
theorem bgq{K:TI→Prop}:@y3 Tryz.prog 23 ⟨K⟩=K ZG:=Zi aJq rfl aaH
theorem bky{K:TI→Prop}:@tyW Tryz.prog 24 ⟨K⟩=K apd:=qh bat
theorem aNK:apd.kd=Kd.stru [(0,3),(1,23)]:=ID rfl
theorem ayp:apd.kd.agg=true:=ID rfl
theorem ao3:apd.size=2:=ID rfl
theorem aiY:apd.bytes=32:=ID rfl
theorem aNI:qw apd=True:=eq_true rfl
theorem aNJ:zc apd=[.v (Value.int IntKind.i64 0),.v (Value.slice none 0 0)]:=ID rfl
theorem aQ3{K:Nat→TI→Prop}:@qz Tryz.prog 24 0 ⟨K⟩=K 0 ti3:=qr (ti:=apd) (tf:=ti3) (fo:=(0,3)) (fs:=[(0,3),(1,23)]) bat rfl rfl tf3
theorem aUd{K:Nat→Nat→Prop}:qt Tryz.prog [(0,3),(1,23)] 0 K=K 0 1:=qq (tf:=ti3) (fo:=(0,3)) (fs:=[(0,3),(1,23)]) rfl tf3
theorem aQ2{K:Nat→TI→Prop}:@qz Tryz.prog 24 1 ⟨K⟩=K 1 ago:=qr (ti:=apd) (tf:=ago) (fo:=(1,23)) (fs:=[(0,3),(1,23)]) bat rfl rfl aJq
theorem aUc{K:Nat→Nat→Prop}:qt Tryz.prog [(0,3),(1,23)] 1 K=K 1 1:=qq (tf:=ago) (fo:=(1,23)) (fs:=[(0,3),(1,23)]) rfl aJq
theorem aVd:∀f∈([(0,3),(1,23)]:List (Nat×Nat)),(qn Tryz.prog f.2).isSome=true:=by
 intro f hf
 simp only[List.mem_cons,List.not_mem_nil,or_false]at hf
 rcases hf with rfl|rfl
 ·rw[tf3];rfl
 ·rw[aJq];rfl
theorem bi2{ps:List (Nat×AV)}{K:AV→Prop}:@q7 Tryz.prog 24 ps ⟨K⟩=@zg (qt Tryz.prog [(0,3),(1,23)]) (zc apd) ps ⟨fun cs=>K (.ag cs)⟩:=qF bat rfl aVd
theorem bkx{K:TI→Prop}:@tyW Tryz.prog 25 ⟨K⟩=K ao2:=qh bas
theorem aNH:ao2.kd=Kd.stru [(0,3),(1,23)]:=ID rfl
theorem axX:ao2.kd.agg=true:=ID rfl
theorem aoS:ao2.size=2:=ID rfl
theorem aiO:ao2.bytes=32:=ID rfl
theorem aNF:qw ao2=True:=eq_true rfl
theorem aNG:zc ao2=[.v (Value.int IntKind.i64 0),.v (Value.slice none 0 0)]:=ID rfl
theorem aQ1{K:Nat→TI→Prop}:@qz Tryz.prog 25 0 ⟨K⟩=K 0 ti3:=qr (ti:=ao2) (tf:=ti3) (fo:=(0,3)) (fs:=[(0,3),(1,23)]) bas rfl rfl tf3
theorem aUb{K:Nat→Nat→Prop}:qt Tryz.prog [(0,3),(1,23)] 0 K=K 0 1:=qq (tf:=ti3) (fo:=(0,3)) (fs:=[(0,3),(1,23)]) rfl tf3
theorem aQ0{K:Nat→TI→Prop}:@qz Tryz.prog 25 1 ⟨K⟩=K 1 ago:=qr (ti:=ao2) (tf:=ago) (fo:=(1,23)) (fs:=[(0,3),(1,23)]) bas rfl rfl aJq
theorem aUa{K:Nat→Nat→Prop}:qt Tryz.prog [(0,3),(1,23)] 1 K=K 1 1:=qq (tf:=ago) (fo:=(1,23)) (fs:=[(0,3),(1,23)]) rfl aJq
theorem aVc:∀f∈([(0,3),(1,23)]:List (Nat×Nat)),(qn Tryz.prog f.2).isSome=true:=by
 intro f hf
 simp only[List.mem_cons,List.not_mem_nil,or_false]at hf
 rcases hf with rfl|rfl
 ·rw[tf3];rfl
 ·rw[aJq];rfl
theorem bi1{ps:List (Nat×AV)}{K:AV→Prop}:@q7 Tryz.prog 25 ps ⟨K⟩=@zg (qt Tryz.prog [(0,3),(1,23)]) (zc ao2) ps ⟨fun cs=>K (.ag cs)⟩:=qF bas rfl aVc
theorem bkw{K:TI→Prop}:@tyW Tryz.prog 27 ⟨K⟩=K aJj:=qh blq
theorem aNE:aJj.kd=Kd.oth:=ID rfl
theorem aw7:aJj.kd.agg=false:=ID rfl
theorem aoA:aJj.size=1:=ID rfl
theorem aiw:aJj.bytes=8:=ID rfl
theorem aNC:qw aJj=True:=eq_true rfl
theorem aND:zc aJj=[.v Value.nilFunc]:=ID rfl
theorem bkv{K:TI→Prop}:@tyW Tryz.prog 28 ⟨K⟩=K agn:=qh aJp
theorem aNB:agn.kd=Kd.sli 90:=ID rfl
theorem awN:agn.kd.agg=false:=ID rfl
theorem aot:agn.size=1:=ID rfl
theorem aip:agn.bytes=24:=ID rfl
theorem aNz:qw agn=True:=eq_true rfl
theorem aNA:zc agn=[.v (Value.slice none 0 0)]:=ID rfl
theorem bgp{K:TI→Prop}:@y3 Tryz.prog 28 ⟨K⟩=K amF:=Zi aJp rfl aS4
theorem bku{K:TI→Prop}:@tyW Tryz.prog 29 ⟨K⟩=K aos:=qh bar
theorem aNy:aos.kd=Kd.stru [(0,3),(1,28)]:=ID rfl
theorem awr:aos.kd.agg=true:=ID rfl
theorem aok:aos.size=2:=ID rfl
theorem aih:aos.bytes=32:=ID rfl
theorem aNw:qw aos=True:=eq_true rfl
theorem aNx:zc aos=[.v (Value.int IntKind.i64 0),.v (Value.slice none 0 0)]:=ID rfl
theorem aQZ{K:Nat→TI→Prop}:@qz Tryz.prog 29 0 ⟨K⟩=K 0 ti3:=qr (ti:=aos) (tf:=ti3) (fo:=(0,3)) (fs:=[(0,3),(1,28)]) bar rfl rfl tf3
theorem aT9{K:Nat→Nat→Prop}:qt Tryz.prog [(0,3),(1,28)] 0 K=K 0 1:=qq (tf:=ti3) (fo:=(0,3)) (fs:=[(0,3),(1,28)]) rfl tf3
theorem aQY{K:Nat→TI→Prop}:@qz Tryz.prog 29 1 ⟨K⟩=K 1 agn:=qr (ti:=aos) (tf:=agn) (fo:=(1,28)) (fs:=[(0,3),(1,28)]) bar rfl rfl aJp
theorem aT8{K:Nat→Nat→Prop}:qt Tryz.prog [(0,3),(1,28)] 1 K=K 1 1:=qq (tf:=agn) (fo:=(1,28)) (fs:=[(0,3),(1,28)]) rfl aJp
theorem aVb:∀f∈([(0,3),(1,28)]:List (Nat×Nat)),(qn Tryz.prog f.2).isSome=true:=by
 intro f hf
 simp only[List.mem_cons,List.not_mem_nil,or_false]at hf
 rcases hf with rfl|rfl
 ·rw[tf3];rfl
 ·rw[aJp];rfl
theorem bi0{ps:List (Nat×AV)}{K:AV→Prop}:@q7 Tryz.prog 29 ps ⟨K⟩=@zg (qt Tryz.prog [(0,3),(1,28)]) (zc aos) ps ⟨fun cs=>K (.ag cs)⟩:=qF bar rfl aVb
theorem bkt{K:TI→Prop}:@tyW Tryz.prog 30 ⟨K⟩=K aoi:=qh baq
theorem aNu:aoi.kd=Kd.stru [(0,3),(1,28)]:=ID rfl
theorem awc:aoi.kd.agg=true:=ID rfl
theorem aod:aoi.size=2:=ID rfl
theorem aic:aoi.bytes=32:=ID rfl
theorem aNs:qw aoi=True:=eq_true rfl
theorem aNt:zc aoi=[.v (Value.int IntKind.i64 0),.v (Value.slice none 0 0)]:=ID rfl
theorem aQX{K:Nat→TI→Prop}:@qz Tryz.prog 30 0 ⟨K⟩=K 0 ti3:=qr (ti:=aoi) (tf:=ti3) (fo:=(0,3)) (fs:=[(0,3),(1,28)]) baq rfl rfl tf3
theorem aT7{K:Nat→Nat→Prop}:qt Tryz.prog [(0,3),(1,28)] 0 K=K 0 1:=qq (tf:=ti3) (fo:=(0,3)) (fs:=[(0,3),(1,28)]) rfl tf3
theorem aQW{K:Nat→TI→Prop}:@qz Tryz.prog 30 1 ⟨K⟩=K 1 agn:=qr (ti:=aoi) (tf:=agn) (fo:=(1,28)) (fs:=[(0,3),(1,28)]) baq rfl rfl aJp
theorem aT6{K:Nat→Nat→Prop}:qt Tryz.prog [(0,3),(1,28)] 1 K=K 1 1:=qq (tf:=agn) (fo:=(1,28)) (fs:=[(0,3),(1,28)]) rfl aJp
theorem aVa:∀f∈([(0,3),(1,28)]:List (Nat×Nat)),(qn Tryz.prog f.2).isSome=true:=by
 intro f hf
 simp only[List.mem_cons,List.not_mem_nil,or_false]at hf
 rcases hf with rfl|rfl
 ·rw[tf3];rfl
 ·rw[aJp];rfl
theorem biZ{ps:List (Nat×AV)}{K:AV→Prop}:@q7 Tryz.prog 30 ps ⟨K⟩=@zg (qt Tryz.prog [(0,3),(1,28)]) (zc aoi) ps ⟨fun cs=>K (.ag cs)⟩:=qF baq rfl aVa
theorem bks{K:TI→Prop}:@tyW Tryz.prog 32 ⟨K⟩=K aJi:=qh blp
theorem aNr:aJi.kd=Kd.oth:=ID rfl
theorem awb:aJi.kd.agg=false:=ID rfl
theorem aoc:aJi.size=1:=ID rfl
theorem aib:aJi.bytes=8:=ID rfl
theorem aNp:qw aJi=True:=eq_true rfl
theorem aNq:zc aJi=[.v Value.nilFunc]:=ID rfl
theorem bkr{K:TI→Prop}:@tyW Tryz.prog 33 ⟨K⟩=K aJh:=qh blo
theorem aNo:aJh.kd=Kd.oth:=ID rfl
theorem awa:aJh.kd.agg=false:=ID rfl
theorem aob:aJh.size=1:=ID rfl
theorem aia:aJh.bytes=8:=ID rfl
theorem aNm:qw aJh=True:=eq_true rfl
theorem aNn:zc aJh=[.v Value.nilFunc]:=ID rfl
theorem bkq{K:TI→Prop}:@tyW Tryz.prog 35 ⟨K⟩=K aJg:=qh bln
theorem aNl:aJg.kd=Kd.oth:=ID rfl
theorem av9:aJg.kd.agg=false:=ID rfl
theorem aoa:aJg.size=1:=ID rfl
theorem ah9:aJg.bytes=8:=ID rfl
theorem aNj:qw aJg=True:=eq_true rfl
theorem aNk:zc aJg=[.v Value.nilFunc]:=ID rfl
theorem bkp{K:TI→Prop}:@tyW Tryz.prog 36 ⟨K⟩=K ZT:=qh aaI
theorem aNi:ZT.kd=Kd.sli 3:=ID rfl
theorem av8:ZT.kd.agg=false:=ID rfl
theorem an9:ZT.size=1:=ID rfl
theorem ah8:ZT.bytes=24:=ID rfl
theorem aNg:qw ZT=True:=eq_true rfl
theorem aNh:zc ZT=[.v (Value.slice none 0 0)]:=ID rfl
theorem bgo{K:TI→Prop}:@y3 Tryz.prog 36 ⟨K⟩=K ti3:=Zi aaI rfl tf3
theorem bko{K:TI→Prop}:@tyW Tryz.prog 37 ⟨K⟩=K auK:=qh bdw
theorem aNf:auK.kd=Kd.stru [(0,36)]:=ID rfl
theorem av7:auK.kd.agg=true:=ID rfl
theorem an8:auK.size=1:=ID rfl
theorem ah7:auK.bytes=24:=ID rfl
theorem aNd:qw auK=True:=eq_true rfl
theorem aNe:zc auK=[.v (Value.slice none 0 0)]:=ID rfl
theorem aQV{K:Nat→TI→Prop}:@qz Tryz.prog 37 0 ⟨K⟩=K 0 ZT:=qr (ti:=auK) (tf:=ZT) (fo:=(0,36)) (fs:=[(0,36)]) bdw rfl rfl aaI
theorem aT5{K:Nat→Nat→Prop}:qt Tryz.prog [(0,36)] 0 K=K 0 1:=qq (tf:=ZT) (fo:=(0,36)) (fs:=[(0,36)]) rfl aaI
theorem aU9:∀f∈([(0,36)]:List (Nat×Nat)),(qn Tryz.prog f.2).isSome=true:=by
 intro f hf
 simp only[List.mem_cons,List.not_mem_nil,or_false]at hf
 subst hf;rw[aaI];rfl
theorem biY{ps:List (Nat×AV)}{K:AV→Prop}:@q7 Tryz.prog 37 ps ⟨K⟩=@zg (qt Tryz.prog [(0,36)]) (zc auK) ps ⟨fun cs=>K (.ag cs)⟩:=qF bdw rfl aU9
theorem bkn{K:TI→Prop}:@tyW Tryz.prog 38 ⟨K⟩=K abW:=qh aFn
theorem aNc:abW.kd=Kd.stru [(0,36)]:=ID rfl
theorem av6:abW.kd.agg=true:=ID rfl
theorem an7:abW.size=1:=ID rfl
theorem ah6:abW.bytes=24:=ID rfl
theorem aNa:qw abW=True:=eq_true rfl
theorem aNb:zc abW=[.v (Value.slice none 0 0)]:=ID rfl
theorem aQU{K:Nat→TI→Prop}:@qz Tryz.prog 38 0 ⟨K⟩=K 0 ZT:=qr (ti:=abW) (tf:=ZT) (fo:=(0,36)) (fs:=[(0,36)]) aFn rfl rfl aaI
theorem aT4{K:Nat→Nat→Prop}:qt Tryz.prog [(0,36)] 0 K=K 0 1:=qq (tf:=ZT) (fo:=(0,36)) (fs:=[(0,36)]) rfl aaI
theorem aU8:∀f∈([(0,36)]:List (Nat×Nat)),(qn Tryz.prog f.2).isSome=true:=by
 intro f hf
 simp only[List.mem_cons,List.not_mem_nil,or_false]at hf
 subst hf;rw[aaI];rfl
theorem biX{ps:List (Nat×AV)}{K:AV→Prop}:@q7 Tryz.prog 38 ps ⟨K⟩=@zg (qt Tryz.prog [(0,36)]) (zc abW) ps ⟨fun cs=>K (.ag cs)⟩:=qF aFn rfl aU8
theorem bkm{K:TI→Prop}:@tyW Tryz.prog 39 ⟨K⟩=K an6:=qh bap
theorem aM9:an6.kd=Kd.stru [(0,4),(1,38)]:=ID rfl
theorem av5:an6.kd.agg=true:=ID rfl
theorem an5:an6.size=2:=ID rfl
theorem ah5:an6.bytes=32:=ID rfl
theorem aM7:qw an6=True:=eq_true rfl
theorem aM8:zc an6=[.v (Value.bool false),.v (Value.slice none 0 0)]:=ID rfl
theorem aQT{K:Nat→TI→Prop}:@qz Tryz.prog 39 0 ⟨K⟩=K 0 ti4:=qr (ti:=an6) (tf:=ti4) (fo:=(0,4)) (fs:=[(0,4),(1,38)]) bap rfl rfl tf4
theorem aT3{K:Nat→Nat→Prop}:qt Tryz.prog [(0,4),(1,38)] 0 K=K 0 1:=qq (tf:=ti4) (fo:=(0,4)) (fs:=[(0,4),(1,38)]) rfl tf4
theorem aQS{K:Nat→TI→Prop}:@qz Tryz.prog 39 1 ⟨K⟩=K 1 abW:=qr (ti:=an6) (tf:=abW) (fo:=(1,38)) (fs:=[(0,4),(1,38)]) bap rfl rfl aFn
theorem aT2{K:Nat→Nat→Prop}:qt Tryz.prog [(0,4),(1,38)] 1 K=K 1 1:=qq (tf:=abW) (fo:=(1,38)) (fs:=[(0,4),(1,38)]) rfl aFn
theorem aU7:∀f∈([(0,4),(1,38)]:List (Nat×Nat)),(qn Tryz.prog f.2).isSome=true:=by
 intro f hf
 simp only[List.mem_cons,List.not_mem_nil,or_false]at hf
 rcases hf with rfl|rfl
 ·rw[tf4];rfl
 ·rw[aFn];rfl
theorem biW{ps:List (Nat×AV)}{K:AV→Prop}:@q7 Tryz.prog 39 ps ⟨K⟩=@zg (qt Tryz.prog [(0,4),(1,38)]) (zc an6) ps ⟨fun cs=>K (.ag cs)⟩:=qF bap rfl aU7
theorem bkl{K:TI→Prop}:@tyW Tryz.prog 40 ⟨K⟩=K XO:=qh auM
theorem aM5:XO.kd=Kd.stru [(0,4),(1,38)]:=ID rfl
theorem av3:XO.kd.agg=true:=ID rfl
theorem an3:XO.size=2:=ID rfl
theorem ah4:XO.bytes=32:=ID rfl
theorem aM3:qw XO=True:=eq_true rfl
theorem aM4:zc XO=[.v (Value.bool false),.v (Value.slice none 0 0)]:=ID rfl
theorem aQR{K:Nat→TI→Prop}:@qz Tryz.prog 40 0 ⟨K⟩=K 0 ti4:=qr (ti:=XO) (tf:=ti4) (fo:=(0,4)) (fs:=[(0,4),(1,38)]) auM rfl rfl tf4
theorem aT1{K:Nat→Nat→Prop}:qt Tryz.prog [(0,4),(1,38)] 0 K=K 0 1:=qq (tf:=ti4) (fo:=(0,4)) (fs:=[(0,4),(1,38)]) rfl tf4
theorem aQQ{K:Nat→TI→Prop}:@qz Tryz.prog 40 1 ⟨K⟩=K 1 abW:=qr (ti:=XO) (tf:=abW) (fo:=(1,38)) (fs:=[(0,4),(1,38)]) auM rfl rfl aFn
theorem aT0{K:Nat→Nat→Prop}:qt Tryz.prog [(0,4),(1,38)] 1 K=K 1 1:=qq (tf:=abW) (fo:=(1,38)) (fs:=[(0,4),(1,38)]) rfl aFn
theorem aU6:∀f∈([(0,4),(1,38)]:List (Nat×Nat)),(qn Tryz.prog f.2).isSome=true:=by
 intro f hf
 simp only[List.mem_cons,List.not_mem_nil,or_false]at hf
 rcases hf with rfl|rfl
 ·rw[tf4];rfl
 ·rw[aFn];rfl
theorem biV{ps:List (Nat×AV)}{K:AV→Prop}:@q7 Tryz.prog 40 ps ⟨K⟩=@zg (qt Tryz.prog [(0,4),(1,38)]) (zc XO) ps ⟨fun cs=>K (.ag cs)⟩:=qF auM rfl aU6
theorem bkk{K:TI→Prop}:@tyW Tryz.prog 41 ⟨K⟩=K an2:=qh bao
theorem aM2:an2.kd=Kd.stru [(0,40),(2,3)]:=ID rfl
theorem av2:an2.kd.agg=true:=ID rfl
theorem an1:an2.size=3:=ID rfl
theorem ah3:an2.bytes=40:=ID rfl
theorem aM0:qw an2=True:=eq_true rfl
theorem aM1:zc an2=[.v (Value.bool false),.v (Value.slice none 0 0),.v (Value.int IntKind.i64 0)]:=ID rfl
theorem aQP{K:Nat→TI→Prop}:@qz Tryz.prog 41 0 ⟨K⟩=K 0 XO:=qr (ti:=an2) (tf:=XO) (fo:=(0,40)) (fs:=[(0,40),(2,3)]) bao rfl rfl auM
theorem aTZ{K:Nat→Nat→Prop}:qt Tryz.prog [(0,40),(2,3)] 0 K=K 0 2:=qq (tf:=XO) (fo:=(0,40)) (fs:=[(0,40),(2,3)]) rfl auM
theorem aQO{K:Nat→TI→Prop}:@qz Tryz.prog 41 1 ⟨K⟩=K 2 ti3:=qr (ti:=an2) (tf:=ti3) (fo:=(2,3)) (fs:=[(0,40),(2,3)]) bao rfl rfl tf3
theorem aTY{K:Nat→Nat→Prop}:qt Tryz.prog [(0,40),(2,3)] 1 K=K 2 1:=qq (tf:=ti3) (fo:=(2,3)) (fs:=[(0,40),(2,3)]) rfl tf3
theorem aU5:∀f∈([(0,40),(2,3)]:List (Nat×Nat)),(qn Tryz.prog f.2).isSome=true:=by
 intro f hf
 simp only[List.mem_cons,List.not_mem_nil,or_false]at hf
 rcases hf with rfl|rfl
 ·rw[auM];rfl
 ·rw[tf3];rfl
theorem biU{ps:List (Nat×AV)}{K:AV→Prop}:@q7 Tryz.prog 41 ps ⟨K⟩=@zg (qt Tryz.prog [(0,40),(2,3)]) (zc an2) ps ⟨fun cs=>K (.ag cs)⟩:=qF bao rfl aU5
theorem bkj{K:TI→Prop}:@tyW Tryz.prog 42 ⟨K⟩=K ZG:=qh aaH
theorem aMZ:ZG.kd=Kd.stru [(0,40),(2,3)]:=ID rfl
theorem av1:ZG.kd.agg=true:=ID rfl
theorem an0:ZG.size=3:=ID rfl
theorem ah2:ZG.bytes=40:=ID rfl
theorem aMX:qw ZG=True:=eq_true rfl
theorem aMY:zc ZG=[.v (Value.bool false),.v (Value.slice none 0 0),.v (Value.int IntKind.i64 0)]:=ID rfl
theorem aQN{K:Nat→TI→Prop}:@qz Tryz.prog 42 0 ⟨K⟩=K 0 XO:=qr (ti:=ZG) (tf:=XO) (fo:=(0,40)) (fs:=[(0,40),(2,3)]) aaH rfl rfl auM
theorem aTX{K:Nat→Nat→Prop}:qt Tryz.prog [(0,40),(2,3)] 0 K=K 0 2:=qq (tf:=XO) (fo:=(0,40)) (fs:=[(0,40),(2,3)]) rfl auM
theorem aQM{K:Nat→TI→Prop}:@qz Tryz.prog 42 1 ⟨K⟩=K 2 ti3:=qr (ti:=ZG) (tf:=ti3) (fo:=(2,3)) (fs:=[(0,40),(2,3)]) aaH rfl rfl tf3
theorem aTW{K:Nat→Nat→Prop}:qt Tryz.prog [(0,40),(2,3)] 1 K=K 2 1:=qq (tf:=ti3) (fo:=(2,3)) (fs:=[(0,40),(2,3)]) rfl tf3
theorem aU4:∀f∈([(0,40),(2,3)]:List (Nat×Nat)),(qn Tryz.prog f.2).isSome=true:=by
 intro f hf
 simp only[List.mem_cons,List.not_mem_nil,or_false]at hf
 rcases hf with rfl|rfl
 ·rw[auM];rfl
 ·rw[tf3];rfl
theorem biT{ps:List (Nat×AV)}{K:AV→Prop}:@q7 Tryz.prog 42 ps ⟨K⟩=@zg (qt Tryz.prog [(0,40),(2,3)]) (zc ZG) ps ⟨fun cs=>K (.ag cs)⟩:=qF aaH rfl aU4
theorem bki{K:TI→Prop}:@tyW Tryz.prog 43 ⟨K⟩=K aJf:=qh blm
theorem aMW:aJf.kd=Kd.oth:=ID rfl
theorem av0:aJf.kd.agg=false:=ID rfl
theorem anZ:aJf.size=1:=ID rfl
theorem ah1:aJf.bytes=8:=ID rfl
theorem aMU:qw aJf=True:=eq_true rfl
theorem aMV:zc aJf=[.v Value.nilFunc]:=ID rfl
theorem bkh{K:TI→Prop}:@tyW Tryz.prog 44 ⟨K⟩=K aJe:=qh bll
theorem aMT:aJe.kd=Kd.oth:=ID rfl
theorem avZ:aJe.kd.agg=false:=ID rfl
theorem anY:aJe.size=1:=ID rfl
theorem ah0:aJe.bytes=8:=ID rfl
theorem aMR:qw aJe=True:=eq_true rfl
theorem aMS:zc aJe=[.v Value.nilFunc]:=ID rfl
theorem bkg{K:TI→Prop}:@tyW Tryz.prog 45 ⟨K⟩=K aJd:=qh blk
theorem aMQ:aJd.kd=Kd.oth:=ID rfl
theorem avY:aJd.kd.agg=false:=ID rfl
theorem anX:aJd.size=1:=ID rfl
theorem ahZ:aJd.bytes=8:=ID rfl
theorem aMO:qw aJd=True:=eq_true rfl
theorem aMP:zc aJd=[.v Value.nilFunc]:=ID rfl
theorem bkf{K:TI→Prop}:@tyW Tryz.prog 46 ⟨K⟩=K aJc:=qh blj
theorem aMN:aJc.kd=Kd.oth:=ID rfl
theorem avX:aJc.kd.agg=false:=ID rfl
theorem anW:aJc.size=1:=ID rfl
theorem ahY:aJc.bytes=8:=ID rfl
theorem aML:qw aJc=True:=eq_true rfl
theorem aMM:zc aJc=[.v Value.nilFunc]:=ID rfl
theorem bke{K:TI→Prop}:@tyW Tryz.prog 47 ⟨K⟩=K aJb:=qh bli
theorem aMK:aJb.kd=Kd.oth:=ID rfl
theorem avW:aJb.kd.agg=false:=ID rfl
theorem anV:aJb.size=1:=ID rfl
theorem ahX:aJb.bytes=8:=ID rfl
theorem aMI:qw aJb=True:=eq_true rfl
theorem aMJ:zc aJb=[.v Value.nilFunc]:=ID rfl
theorem bkd{K:TI→Prop}:@tyW Tryz.prog 48 ⟨K⟩=K aJa:=qh blh
theorem aMH:aJa.kd=Kd.oth:=ID rfl
theorem avV:aJa.kd.agg=false:=ID rfl
theorem anU:aJa.size=1:=ID rfl
theorem ahW:aJa.bytes=8:=ID rfl
theorem aMF:qw aJa=True:=eq_true rfl
theorem aMG:zc aJa=[.v Value.nilFunc]:=ID rfl
theorem bkc{K:TI→Prop}:@tyW Tryz.prog 49 ⟨K⟩=K aI9:=qh blg
theorem aME:aI9.kd=Kd.oth:=ID rfl
theorem avU:aI9.kd.agg=false:=ID rfl
theorem anT:aI9.size=1:=ID rfl
theorem ahV:aI9.bytes=8:=ID rfl
theorem aMC:qw aI9=True:=eq_true rfl
theorem aMD:zc aI9=[.v Value.nilFunc]:=ID rfl
theorem bkb{K:TI→Prop}:@tyW Tryz.prog 50 ⟨K⟩=K aI8:=qh blf
theorem aMA:aI8.kd=Kd.oth:=ID rfl
theorem avS:aI8.kd.agg=false:=ID rfl
theorem anR:aI8.size=1:=ID rfl
theorem ahU:aI8.bytes=8:=ID rfl
theorem aMy:qw aI8=True:=eq_true rfl
theorem aMz:zc aI8=[.v Value.nilFunc]:=ID rfl
theorem bka{K:TI→Prop}:@tyW Tryz.prog 52 ⟨K⟩=K aI7:=qh bld
theorem aMx:aI7.kd=Kd.oth:=ID rfl
theorem avR:aI7.kd.agg=false:=ID rfl
theorem anQ:aI7.size=1:=ID rfl
theorem ahT:aI7.bytes=8:=ID rfl
theorem aMv:qw aI7=True:=eq_true rfl
theorem aMw:zc aI7=[.v Value.nilFunc]:=ID rfl
theorem bj9{K:TI→Prop}:@tyW Tryz.prog 53 ⟨K⟩=K aI6:=qh blc
theorem aMu:aI6.kd=Kd.oth:=ID rfl
theorem avQ:aI6.kd.agg=false:=ID rfl
theorem anP:aI6.size=1:=ID rfl
theorem ahS:aI6.bytes=8:=ID rfl
theorem aMs:qw aI6=True:=eq_true rfl
theorem aMt:zc aI6=[.v Value.nilFunc]:=ID rfl
theorem bj8{K:TI→Prop}:@tyW Tryz.prog 54 ⟨K⟩=K aI5:=qh blb
theorem aMr:aI5.kd=Kd.oth:=ID rfl
theorem avP:aI5.kd.agg=false:=ID rfl
theorem anO:aI5.size=1:=ID rfl
theorem ahR:aI5.bytes=8:=ID rfl
theorem aMp:qw aI5=True:=eq_true rfl
theorem aMq:zc aI5=[.v Value.nilFunc]:=ID rfl
theorem bj7{K:TI→Prop}:@tyW Tryz.prog 55 ⟨K⟩=K aI4:=qh bla
theorem aMo:aI4.kd=Kd.oth:=ID rfl
theorem avO:aI4.kd.agg=false:=ID rfl
theorem anN:aI4.size=1:=ID rfl
theorem ahQ:aI4.bytes=8:=ID rfl
theorem aMm:qw aI4=True:=eq_true rfl
theorem aMn:zc aI4=[.v Value.nilFunc]:=ID rfl
theorem bj6{K:TI→Prop}:@tyW Tryz.prog 56 ⟨K⟩=K aI3:=qh bk9
theorem aMl:aI3.kd=Kd.oth:=ID rfl
theorem avN:aI3.kd.agg=false:=ID rfl
theorem anM:aI3.size=1:=ID rfl
theorem ahP:aI3.bytes=8:=ID rfl
theorem aMj:qw aI3=True:=eq_true rfl
theorem aMk:zc aI3=[.v Value.nilFunc]:=ID rfl
theorem bj5{K:TI→Prop}:@tyW Tryz.prog 58 ⟨K⟩=K aI2:=qh bk8
theorem aMi:aI2.kd=Kd.oth:=ID rfl
theorem avM:aI2.kd.agg=false:=ID rfl
theorem anL:aI2.size=1:=ID rfl
theorem ahO:aI2.bytes=8:=ID rfl
theorem aMg:qw aI2=True:=eq_true rfl
theorem aMh:zc aI2=[.v Value.nilFunc]:=ID rfl
theorem bj4{K:TI→Prop}:@tyW Tryz.prog 60 ⟨K⟩=K aI1:=qh bk7
theorem aMe:aI1.kd=Kd.oth:=ID rfl
theorem avK:aI1.kd.agg=false:=ID rfl
theorem anJ:aI1.size=1:=ID rfl
theorem ahN:aI1.bytes=8:=ID rfl
theorem aMc:qw aI1=True:=eq_true rfl
theorem aMd:zc aI1=[.v Value.nilFunc]:=ID rfl
theorem bj3{K:TI→Prop}:@tyW Tryz.prog 61 ⟨K⟩=K aI0:=qh bk6
theorem aMb:aI0.kd=Kd.oth:=ID rfl
theorem avJ:aI0.kd.agg=false:=ID rfl
theorem anI:aI0.size=1:=ID rfl
theorem ahM:aI0.bytes=8:=ID rfl
theorem aL9:qw aI0=True:=eq_true rfl
theorem aMa:zc aI0=[.v Value.nilFunc]:=ID rfl
theorem bj2{K:TI→Prop}:@tyW Tryz.prog 62 ⟨K⟩=K aIZ:=qh bk5
theorem aL8:aIZ.kd=Kd.oth:=ID rfl
theorem avI:aIZ.kd.agg=false:=ID rfl
theorem anH:aIZ.size=1:=ID rfl
theorem ahL:aIZ.bytes=8:=ID rfl
theorem aL6:qw aIZ=True:=eq_true rfl
theorem aL7:zc aIZ=[.v Value.nilFunc]:=ID rfl
theorem bj1{K:TI→Prop}:@tyW Tryz.prog 64 ⟨K⟩=K aIY:=qh bk4
theorem aL5:aIY.kd=Kd.oth:=ID rfl
theorem avH:aIY.kd.agg=false:=ID rfl
theorem anG:aIY.size=1:=ID rfl
theorem ahK:aIY.bytes=8:=ID rfl
theorem aL3:qw aIY=True:=eq_true rfl
theorem aL4:zc aIY=[.v Value.nilFunc]:=ID rfl
theorem bj0{K:TI→Prop}:@tyW Tryz.prog 65 ⟨K⟩=K aIX:=qh bk3
theorem aL2:aIX.kd=Kd.oth:=ID rfl
theorem avG:aIX.kd.agg=false:=ID rfl
theorem anF:aIX.size=1:=ID rfl
theorem ahJ:aIX.bytes=8:=ID rfl
theorem aL0:qw aIX=True:=eq_true rfl
theorem aL1:zc aIX=[.v Value.nilFunc]:=ID rfl
theorem bjZ{K:TI→Prop}:@tyW Tryz.prog 66 ⟨K⟩=K aIW:=qh bk2
theorem aLZ:aIW.kd=Kd.oth:=ID rfl
theorem avF:aIW.kd.agg=false:=ID rfl
theorem anE:aIW.size=1:=ID rfl
theorem ahI:aIW.bytes=8:=ID rfl
theorem aLX:qw aIW=True:=eq_true rfl
theorem aLY:zc aIW=[.v Value.nilFunc]:=ID rfl
theorem bjY{K:TI→Prop}:@tyW Tryz.prog 67 ⟨K⟩=K aIV:=qh bk1
theorem aLW:aIV.kd=Kd.oth:=ID rfl
theorem avE:aIV.kd.agg=false:=ID rfl
theorem anD:aIV.size=1:=ID rfl
theorem ahH:aIV.bytes=8:=ID rfl
theorem aLU:qw aIV=True:=eq_true rfl
theorem aLV:zc aIV=[.v Value.nilFunc]:=ID rfl
theorem bjX{K:TI→Prop}:@tyW Tryz.prog 68 ⟨K⟩=K aIU:=qh bk0
theorem aLT:aIU.kd=Kd.oth:=ID rfl
theorem avD:aIU.kd.agg=false:=ID rfl
theorem anC:aIU.size=1:=ID rfl
theorem ahG:aIU.bytes=8:=ID rfl
theorem aLR:qw aIU=True:=eq_true rfl
theorem aLS:zc aIU=[.v Value.nilFunc]:=ID rfl
theorem bjW{K:TI→Prop}:@tyW Tryz.prog 69 ⟨K⟩=K aIT:=qh bkZ
theorem aLQ:aIT.kd=Kd.oth:=ID rfl
theorem avC:aIT.kd.agg=false:=ID rfl
theorem anB:aIT.size=1:=ID rfl
theorem ahF:aIT.bytes=8:=ID rfl
theorem aLO:qw aIT=True:=eq_true rfl
theorem aLP:zc aIT=[.v Value.nilFunc]:=ID rfl
theorem bjV{K:TI→Prop}:@tyW Tryz.prog 70 ⟨K⟩=K aIS:=qh bkY
theorem aLM:aIS.kd=Kd.oth:=ID rfl
theorem avA:aIS.kd.agg=false:=ID rfl
theorem anz:aIS.size=1:=ID rfl
theorem ahE:aIS.bytes=8:=ID rfl
theorem aLK:qw aIS=True:=eq_true rfl
theorem aLL:zc aIS=[.v Value.nilFunc]:=ID rfl
theorem bjU{K:TI→Prop}:@tyW Tryz.prog 71 ⟨K⟩=K aIR:=qh bkX
theorem aLJ:aIR.kd=Kd.oth:=ID rfl
theorem avz:aIR.kd.agg=false:=ID rfl
theorem anx:aIR.size=1:=ID rfl
theorem ahD:aIR.bytes=8:=ID rfl
theorem aLH:qw aIR=True:=eq_true rfl
theorem aLI:zc aIR=[.v Value.nilFunc]:=ID rfl
theorem bjT{K:TI→Prop}:@tyW Tryz.prog 72 ⟨K⟩=K aIQ:=qh bkW
theorem aLG:aIQ.kd=Kd.oth:=ID rfl
theorem avy:aIQ.kd.agg=false:=ID rfl
theorem anw:aIQ.size=1:=ID rfl
theorem ahC:aIQ.bytes=8:=ID rfl
theorem aLE:qw aIQ=True:=eq_true rfl
theorem aLF:zc aIQ=[.v Value.nilFunc]:=ID rfl
theorem bjS{K:TI→Prop}:@tyW Tryz.prog 73 ⟨K⟩=K aIP:=qh bkV
theorem aLD:aIP.kd=Kd.oth:=ID rfl
theorem avx:aIP.kd.agg=false:=ID rfl
theorem anv:aIP.size=1:=ID rfl
theorem ahB:aIP.bytes=8:=ID rfl
theorem aLB:qw aIP=True:=eq_true rfl
theorem aLC:zc aIP=[.v Value.nilFunc]:=ID rfl
theorem bjR{K:TI→Prop}:@tyW Tryz.prog 74 ⟨K⟩=K agm:=qh aJo
theorem aLA:agm.kd=Kd.sli 87:=ID rfl
theorem avw:agm.kd.agg=false:=ID rfl
theorem anu:agm.size=1:=ID rfl
theorem ahA:agm.bytes=24:=ID rfl
theorem aLy:qw agm=True:=eq_true rfl
theorem aLz:zc agm=[.v (Value.slice none 0 0)]:=ID rfl
theorem bgn{K:TI→Prop}:@y3 Tryz.prog 74 ⟨K⟩=K amG:=Zi aJo rfl aS5
theorem bjQ{K:TI→Prop}:@tyW Tryz.prog 75 ⟨K⟩=K ant:=qh ban
theorem aLx:ant.kd=Kd.stru [(0,3),(1,74)]:=ID rfl
theorem avv:ant.kd.agg=true:=ID rfl
theorem ans:ant.size=2:=ID rfl
theorem ahz:ant.bytes=32:=ID rfl
theorem aLv:qw ant=True:=eq_true rfl
theorem aLw:zc ant=[.v (Value.int IntKind.i64 0),.v (Value.slice none 0 0)]:=ID rfl
theorem aQL{K:Nat→TI→Prop}:@qz Tryz.prog 75 0 ⟨K⟩=K 0 ti3:=qr (ti:=ant) (tf:=ti3) (fo:=(0,3)) (fs:=[(0,3),(1,74)]) ban rfl rfl tf3
theorem aTV{K:Nat→Nat→Prop}:qt Tryz.prog [(0,3),(1,74)] 0 K=K 0 1:=qq (tf:=ti3) (fo:=(0,3)) (fs:=[(0,3),(1,74)]) rfl tf3
theorem aQK{K:Nat→TI→Prop}:@qz Tryz.prog 75 1 ⟨K⟩=K 1 agm:=qr (ti:=ant) (tf:=agm) (fo:=(1,74)) (fs:=[(0,3),(1,74)]) ban rfl rfl aJo
theorem aTU{K:Nat→Nat→Prop}:qt Tryz.prog [(0,3),(1,74)] 1 K=K 1 1:=qq (tf:=agm) (fo:=(1,74)) (fs:=[(0,3),(1,74)]) rfl aJo
theorem aU3:∀f∈([(0,3),(1,74)]:List (Nat×Nat)),(qn Tryz.prog f.2).isSome=true:=by
 intro f hf
 simp only[List.mem_cons,List.not_mem_nil,or_false]at hf
 rcases hf with rfl|rfl
 ·rw[tf3];rfl
 ·rw[aJo];rfl
theorem biS{ps:List (Nat×AV)}{K:AV→Prop}:@q7 Tryz.prog 75 ps ⟨K⟩=@zg (qt Tryz.prog [(0,3),(1,74)]) (zc ant) ps ⟨fun cs=>K (.ag cs)⟩:=qF ban rfl aU3
theorem bjP{K:TI→Prop}:@tyW Tryz.prog 76 ⟨K⟩=K anr:=qh bam
theorem aLu:anr.kd=Kd.stru [(0,3),(1,74)]:=ID rfl
theorem avu:anr.kd.agg=true:=ID rfl
theorem anq:anr.size=2:=ID rfl
theorem ahy:anr.bytes=32:=ID rfl
theorem aLs:qw anr=True:=eq_true rfl
theorem aLt:zc anr=[.v (Value.int IntKind.i64 0),.v (Value.slice none 0 0)]:=ID rfl
theorem aQJ{K:Nat→TI→Prop}:@qz Tryz.prog 76 0 ⟨K⟩=K 0 ti3:=qr (ti:=anr) (tf:=ti3) (fo:=(0,3)) (fs:=[(0,3),(1,74)]) bam rfl rfl tf3
theorem aTT{K:Nat→Nat→Prop}:qt Tryz.prog [(0,3),(1,74)] 0 K=K 0 1:=qq (tf:=ti3) (fo:=(0,3)) (fs:=[(0,3),(1,74)]) rfl tf3
theorem aQI{K:Nat→TI→Prop}:@qz Tryz.prog 76 1 ⟨K⟩=K 1 agm:=qr (ti:=anr) (tf:=agm) (fo:=(1,74)) (fs:=[(0,3),(1,74)]) bam rfl rfl aJo
theorem aTS{K:Nat→Nat→Prop}:qt Tryz.prog [(0,3),(1,74)] 1 K=K 1 1:=qq (tf:=agm) (fo:=(1,74)) (fs:=[(0,3),(1,74)]) rfl aJo
theorem aU2:∀f∈([(0,3),(1,74)]:List (Nat×Nat)),(qn Tryz.prog f.2).isSome=true:=by
 intro f hf
 simp only[List.mem_cons,List.not_mem_nil,or_false]at hf
 rcases hf with rfl|rfl
 ·rw[tf3];rfl
 ·rw[aJo];rfl
theorem biR{ps:List (Nat×AV)}{K:AV→Prop}:@q7 Tryz.prog 76 ps ⟨K⟩=@zg (qt Tryz.prog [(0,3),(1,74)]) (zc anr) ps ⟨fun cs=>K (.ag cs)⟩:=qF bam rfl aU2
theorem bjO{K:TI→Prop}:@tyW Tryz.prog 77 ⟨K⟩=K aIO:=qh bkU
theorem aLr:aIO.kd=Kd.oth:=ID rfl
theorem avt:aIO.kd.agg=false:=ID rfl
theorem anp:aIO.size=1:=ID rfl
theorem ahx:aIO.bytes=8:=ID rfl
theorem aLp:qw aIO=True:=eq_true rfl
theorem aLq:zc aIO=[.v Value.nilFunc]:=ID rfl
theorem bjN{K:TI→Prop}:@tyW Tryz.prog 78 ⟨K⟩=K aIN:=qh bkT
theorem aLo:aIN.kd=Kd.oth:=ID rfl
theorem avs:aIN.kd.agg=false:=ID rfl
theorem ano:aIN.size=1:=ID rfl
theorem ahw:aIN.bytes=8:=ID rfl
theorem aLm:qw aIN=True:=eq_true rfl
theorem aLn:zc aIN=[.v Value.nilFunc]:=ID rfl
theorem bjM{K:TI→Prop}:@tyW Tryz.prog 79 ⟨K⟩=K aIM:=qh bkS
theorem aLl:aIM.kd=Kd.oth:=ID rfl
theorem avr:aIM.kd.agg=false:=ID rfl
theorem ann:aIM.size=1:=ID rfl
theorem ahv:aIM.bytes=8:=ID rfl
theorem aLj:qw aIM=True:=eq_true rfl
theorem aLk:zc aIM=[.v Value.nilFunc]:=ID rfl
theorem bjL{K:TI→Prop}:@tyW Tryz.prog 80 ⟨K⟩=K aIL:=qh bkR
theorem aLh:aIL.kd=Kd.oth:=ID rfl
theorem avp:aIL.kd.agg=false:=ID rfl
theorem anl:aIL.size=1:=ID rfl
theorem ahu:aIL.bytes=8:=ID rfl
theorem aLf:qw aIL=True:=eq_true rfl
theorem aLg:zc aIL=[.v Value.nilFunc]:=ID rfl
theorem bjK{K:TI→Prop}:@tyW Tryz.prog 81 ⟨K⟩=K aIK:=qh bkQ
theorem aLe:aIK.kd=Kd.oth:=ID rfl
theorem avo:aIK.kd.agg=false:=ID rfl
theorem ank:aIK.size=1:=ID rfl
theorem aht:aIK.bytes=8:=ID rfl
theorem aLc:qw aIK=True:=eq_true rfl
theorem aLd:zc aIK=[.v Value.nilFunc]:=ID rfl
theorem bjJ{K:TI→Prop}:@tyW Tryz.prog 82 ⟨K⟩=K aIJ:=qh bkP
theorem aLb:aIJ.kd=Kd.oth:=ID rfl
theorem avn:aIJ.kd.agg=false:=ID rfl
theorem anj:aIJ.size=1:=ID rfl
theorem ahs:aIJ.bytes=8:=ID rfl
theorem aK9:qw aIJ=True:=eq_true rfl
theorem aLa:zc aIJ=[.v Value.nilFunc]:=ID rfl
theorem bjI{K:TI→Prop}:@tyW Tryz.prog 83 ⟨K⟩=K abV:=qh aFm
theorem aK8:abV.kd=Kd.stru [(0,36)]:=ID rfl
theorem avm:abV.kd.agg=true:=ID rfl
theorem ani:abV.size=1:=ID rfl
theorem ahr:abV.bytes=24:=ID rfl
theorem aK6:qw abV=True:=eq_true rfl
theorem aK7:zc abV=[.v (Value.slice none 0 0)]:=ID rfl
theorem aQH{K:Nat→TI→Prop}:@qz Tryz.prog 83 0 ⟨K⟩=K 0 ZT:=qr (ti:=abV) (tf:=ZT) (fo:=(0,36)) (fs:=[(0,36)]) aFm rfl rfl aaI
theorem aTR{K:Nat→Nat→Prop}:qt Tryz.prog [(0,36)] 0 K=K 0 1:=qq (tf:=ZT) (fo:=(0,36)) (fs:=[(0,36)]) rfl aaI
theorem aU1:∀f∈([(0,36)]:List (Nat×Nat)),(qn Tryz.prog f.2).isSome=true:=by
 intro f hf
 simp only[List.mem_cons,List.not_mem_nil,or_false]at hf
 subst hf;rw[aaI];rfl
theorem biQ{ps:List (Nat×AV)}{K:AV→Prop}:@q7 Tryz.prog 83 ps ⟨K⟩=@zg (qt Tryz.prog [(0,36)]) (zc abV) ps ⟨fun cs=>K (.ag cs)⟩:=qF aFm rfl aU1
theorem bjH{K:TI→Prop}:@tyW Tryz.prog 84 ⟨K⟩=K anh:=qh bal
theorem aK5:anh.kd=Kd.stru [(0,4),(1,83)]:=ID rfl
theorem avl:anh.kd.agg=true:=ID rfl
theorem ang:anh.size=2:=ID rfl
theorem ahq:anh.bytes=32:=ID rfl
theorem aK3:qw anh=True:=eq_true rfl
theorem aK4:zc anh=[.v (Value.bool false),.v (Value.slice none 0 0)]:=ID rfl
theorem aQG{K:Nat→TI→Prop}:@qz Tryz.prog 84 0 ⟨K⟩=K 0 ti4:=qr (ti:=anh) (tf:=ti4) (fo:=(0,4)) (fs:=[(0,4),(1,83)]) bal rfl rfl tf4
theorem aTQ{K:Nat→Nat→Prop}:qt Tryz.prog [(0,4),(1,83)] 0 K=K 0 1:=qq (tf:=ti4) (fo:=(0,4)) (fs:=[(0,4),(1,83)]) rfl tf4
theorem aQF{K:Nat→TI→Prop}:@qz Tryz.prog 84 1 ⟨K⟩=K 1 abV:=qr (ti:=anh) (tf:=abV) (fo:=(1,83)) (fs:=[(0,4),(1,83)]) bal rfl rfl aFm
theorem aTP{K:Nat→Nat→Prop}:qt Tryz.prog [(0,4),(1,83)] 1 K=K 1 1:=qq (tf:=abV) (fo:=(1,83)) (fs:=[(0,4),(1,83)]) rfl aFm
theorem aU0:∀f∈([(0,4),(1,83)]:List (Nat×Nat)),(qn Tryz.prog f.2).isSome=true:=by
 intro f hf
 simp only[List.mem_cons,List.not_mem_nil,or_false]at hf
 rcases hf with rfl|rfl
 ·rw[tf4];rfl
 ·rw[aFm];rfl
theorem biP{ps:List (Nat×AV)}{K:AV→Prop}:@q7 Tryz.prog 84 ps ⟨K⟩=@zg (qt Tryz.prog [(0,4),(1,83)]) (zc anh) ps ⟨fun cs=>K (.ag cs)⟩:=qF bal rfl aU0
theorem bjG{K:TI→Prop}:@tyW Tryz.prog 85 ⟨K⟩=K XN:=qh auL
theorem aK2:XN.kd=Kd.stru [(0,4),(1,83)]:=ID rfl
theorem avk:XN.kd.agg=true:=ID rfl
theorem anf:XN.size=2:=ID rfl
theorem ahp:XN.bytes=32:=ID rfl
theorem aK0:qw XN=True:=eq_true rfl
theorem aK1:zc XN=[.v (Value.bool false),.v (Value.slice none 0 0)]:=ID rfl
theorem aQE{K:Nat→TI→Prop}:@qz Tryz.prog 85 0 ⟨K⟩=K 0 ti4:=qr (ti:=XN) (tf:=ti4) (fo:=(0,4)) (fs:=[(0,4),(1,83)]) auL rfl rfl tf4
theorem aTO{K:Nat→Nat→Prop}:qt Tryz.prog [(0,4),(1,83)] 0 K=K 0 1:=qq (tf:=ti4) (fo:=(0,4)) (fs:=[(0,4),(1,83)]) rfl tf4
theorem aQD{K:Nat→TI→Prop}:@qz Tryz.prog 85 1 ⟨K⟩=K 1 abV:=qr (ti:=XN) (tf:=abV) (fo:=(1,83)) (fs:=[(0,4),(1,83)]) auL rfl rfl aFm
theorem aTN{K:Nat→Nat→Prop}:qt Tryz.prog [(0,4),(1,83)] 1 K=K 1 1:=qq (tf:=abV) (fo:=(1,83)) (fs:=[(0,4),(1,83)]) rfl aFm
theorem aUZ:∀f∈([(0,4),(1,83)]:List (Nat×Nat)),(qn Tryz.prog f.2).isSome=true:=by
 intro f hf
 simp only[List.mem_cons,List.not_mem_nil,or_false]at hf
 rcases hf with rfl|rfl
 ·rw[tf4];rfl
 ·rw[aFm];rfl
theorem biO{ps:List (Nat×AV)}{K:AV→Prop}:@q7 Tryz.prog 85 ps ⟨K⟩=@zg (qt Tryz.prog [(0,4),(1,83)]) (zc XN) ps ⟨fun cs=>K (.ag cs)⟩:=qF auL rfl aUZ
theorem bjF{K:TI→Prop}:@tyW Tryz.prog 86 ⟨K⟩=K ane:=qh bak
theorem aKZ:ane.kd=Kd.stru [(0,85),(2,3)]:=ID rfl
theorem avj:ane.kd.agg=true:=ID rfl
theorem anc:ane.size=3:=ID rfl
theorem aho:ane.bytes=40:=ID rfl
theorem aKX:qw ane=True:=eq_true rfl
theorem aKY:zc ane=[.v (Value.bool false),.v (Value.slice none 0 0),.v (Value.int IntKind.i64 0)]:=ID rfl
theorem aQC{K:Nat→TI→Prop}:@qz Tryz.prog 86 0 ⟨K⟩=K 0 XN:=qr (ti:=ane) (tf:=XN) (fo:=(0,85)) (fs:=[(0,85),(2,3)]) bak rfl rfl auL
theorem aTM{K:Nat→Nat→Prop}:qt Tryz.prog [(0,85),(2,3)] 0 K=K 0 2:=qq (tf:=XN) (fo:=(0,85)) (fs:=[(0,85),(2,3)]) rfl auL
theorem aQB{K:Nat→TI→Prop}:@qz Tryz.prog 86 1 ⟨K⟩=K 2 ti3:=qr (ti:=ane) (tf:=ti3) (fo:=(2,3)) (fs:=[(0,85),(2,3)]) bak rfl rfl tf3
theorem aTL{K:Nat→Nat→Prop}:qt Tryz.prog [(0,85),(2,3)] 1 K=K 2 1:=qq (tf:=ti3) (fo:=(2,3)) (fs:=[(0,85),(2,3)]) rfl tf3
theorem aUY:∀f∈([(0,85),(2,3)]:List (Nat×Nat)),(qn Tryz.prog f.2).isSome=true:=by
 intro f hf
 simp only[List.mem_cons,List.not_mem_nil,or_false]at hf
 rcases hf with rfl|rfl
 ·rw[auL];rfl
 ·rw[tf3];rfl
theorem biN{ps:List (Nat×AV)}{K:AV→Prop}:@q7 Tryz.prog 86 ps ⟨K⟩=@zg (qt Tryz.prog [(0,85),(2,3)]) (zc ane) ps ⟨fun cs=>K (.ag cs)⟩:=qF bak rfl aUY
theorem bjE{K:TI→Prop}:@tyW Tryz.prog 87 ⟨K⟩=K amG:=qh aS5
theorem aKW:amG.kd=Kd.stru [(0,85),(2,3)]:=ID rfl
theorem avi:amG.kd.agg=true:=ID rfl
theorem anb:amG.size=3:=ID rfl
theorem ahn:amG.bytes=40:=ID rfl
theorem aKU:qw amG=True:=eq_true rfl
theorem aKV:zc amG=[.v (Value.bool false),.v (Value.slice none 0 0),.v (Value.int IntKind.i64 0)]:=ID rfl
theorem aQA{K:Nat→TI→Prop}:@qz Tryz.prog 87 0 ⟨K⟩=K 0 XN:=qr (ti:=amG) (tf:=XN) (fo:=(0,85)) (fs:=[(0,85),(2,3)]) aS5 rfl rfl auL
theorem aTK{K:Nat→Nat→Prop}:qt Tryz.prog [(0,85),(2,3)] 0 K=K 0 2:=qq (tf:=XN) (fo:=(0,85)) (fs:=[(0,85),(2,3)]) rfl auL
theorem aQz{K:Nat→TI→Prop}:@qz Tryz.prog 87 1 ⟨K⟩=K 2 ti3:=qr (ti:=amG) (tf:=ti3) (fo:=(2,3)) (fs:=[(0,85),(2,3)]) aS5 rfl rfl tf3
theorem aTJ{K:Nat→Nat→Prop}:qt Tryz.prog [(0,85),(2,3)] 1 K=K 2 1:=qq (tf:=ti3) (fo:=(2,3)) (fs:=[(0,85),(2,3)]) rfl tf3
theorem aUX:∀f∈([(0,85),(2,3)]:List (Nat×Nat)),(qn Tryz.prog f.2).isSome=true:=by
 intro f hf
 simp only[List.mem_cons,List.not_mem_nil,or_false]at hf
 rcases hf with rfl|rfl
 ·rw[auL];rfl
 ·rw[tf3];rfl
theorem biM{ps:List (Nat×AV)}{K:AV→Prop}:@q7 Tryz.prog 87 ps ⟨K⟩=@zg (qt Tryz.prog [(0,85),(2,3)]) (zc amG) ps ⟨fun cs=>K (.ag cs)⟩:=qF aS5 rfl aUX
theorem bjD{K:TI→Prop}:@tyW Tryz.prog 88 ⟨K⟩=K aII:=qh bkO
theorem aKT:aII.kd=Kd.oth:=ID rfl
theorem avh:aII.kd.agg=false:=ID rfl
theorem ana:aII.size=1:=ID rfl
theorem ahm:aII.bytes=8:=ID rfl
theorem aKR:qw aII=True:=eq_true rfl
theorem aKS:zc aII=[.v Value.nilFunc]:=ID rfl
theorem bjC{K:TI→Prop}:@tyW Tryz.prog 89 ⟨K⟩=K am9:=qh baj
theorem aKQ:am9.kd=Kd.stru [(0,42),(3,42)]:=ID rfl
theorem avg:am9.kd.agg=true:=ID rfl
theorem am8:am9.size=6:=ID rfl
theorem ahl:am9.bytes=80:=ID rfl
theorem aKO:qw am9=True:=eq_true rfl
theorem aKP:zc am9=[.v (Value.bool false),.v (Value.slice none 0 0),.v (Value.int IntKind.i64 0),.v (Value.bool false),.v (Value.slice none 0 0),.v (Value.int IntKind.i64 0)]:=ID rfl
theorem aQy{K:Nat→TI→Prop}:@qz Tryz.prog 89 0 ⟨K⟩=K 0 ZG:=qr (ti:=am9) (tf:=ZG) (fo:=(0,42)) (fs:=[(0,42),(3,42)]) baj rfl rfl aaH
theorem aTI{K:Nat→Nat→Prop}:qt Tryz.prog [(0,42),(3,42)] 0 K=K 0 3:=qq (tf:=ZG) (fo:=(0,42)) (fs:=[(0,42),(3,42)]) rfl aaH
theorem aQx{K:Nat→TI→Prop}:@qz Tryz.prog 89 1 ⟨K⟩=K 3 ZG:=qr (ti:=am9) (tf:=ZG) (fo:=(3,42)) (fs:=[(0,42),(3,42)]) baj rfl rfl aaH
theorem aTH{K:Nat→Nat→Prop}:qt Tryz.prog [(0,42),(3,42)] 1 K=K 3 3:=qq (tf:=ZG) (fo:=(3,42)) (fs:=[(0,42),(3,42)]) rfl aaH
theorem aUW:∀f∈([(0,42),(3,42)]:List (Nat×Nat)),(qn Tryz.prog f.2).isSome=true:=by
 intro f hf
 simp only[List.mem_cons,List.not_mem_nil,or_false]at hf
 rcases hf with rfl|rfl
 ·rw[aaH];rfl
 ·rw[aaH];rfl
theorem biL{ps:List (Nat×AV)}{K:AV→Prop}:@q7 Tryz.prog 89 ps ⟨K⟩=@zg (qt Tryz.prog [(0,42),(3,42)]) (zc am9) ps ⟨fun cs=>K (.ag cs)⟩:=qF baj rfl aUW
theorem bjB{K:TI→Prop}:@tyW Tryz.prog 90 ⟨K⟩=K amF:=qh aS4
theorem aKM:amF.kd=Kd.stru [(0,42),(3,42)]:=ID rfl
theorem ave:amF.kd.agg=true:=ID rfl
theorem am6:amF.size=6:=ID rfl
theorem ahk:amF.bytes=80:=ID rfl
theorem aKK:qw amF=True:=eq_true rfl
theorem aKL:zc amF=[.v (Value.bool false),.v (Value.slice none 0 0),.v (Value.int IntKind.i64 0),.v (Value.bool false),.v (Value.slice none 0 0),.v (Value.int IntKind.i64 0)]:=ID rfl
theorem aQw{K:Nat→TI→Prop}:@qz Tryz.prog 90 0 ⟨K⟩=K 0 ZG:=qr (ti:=amF) (tf:=ZG) (fo:=(0,42)) (fs:=[(0,42),(3,42)]) aS4 rfl rfl aaH
theorem aTG{K:Nat→Nat→Prop}:qt Tryz.prog [(0,42),(3,42)] 0 K=K 0 3:=qq (tf:=ZG) (fo:=(0,42)) (fs:=[(0,42),(3,42)]) rfl aaH
theorem aQv{K:Nat→TI→Prop}:@qz Tryz.prog 90 1 ⟨K⟩=K 3 ZG:=qr (ti:=amF) (tf:=ZG) (fo:=(3,42)) (fs:=[(0,42),(3,42)]) aS4 rfl rfl aaH
theorem aTF{K:Nat→Nat→Prop}:qt Tryz.prog [(0,42),(3,42)] 1 K=K 3 3:=qq (tf:=ZG) (fo:=(3,42)) (fs:=[(0,42),(3,42)]) rfl aaH
theorem aUV:∀f∈([(0,42),(3,42)]:List (Nat×Nat)),(qn Tryz.prog f.2).isSome=true:=by
 intro f hf
 simp only[List.mem_cons,List.not_mem_nil,or_false]at hf
 rcases hf with rfl|rfl
 ·rw[aaH];rfl
 ·rw[aaH];rfl
theorem biK{ps:List (Nat×AV)}{K:AV→Prop}:@q7 Tryz.prog 90 ps ⟨K⟩=@zg (qt Tryz.prog [(0,42),(3,42)]) (zc amF) ps ⟨fun cs=>K (.ag cs)⟩:=qF aS4 rfl aUV
theorem bjA{K:TI→Prop}:@tyW Tryz.prog 92 ⟨K⟩=K aIH:=qh bkN
theorem aKJ:aIH.kd=Kd.oth:=ID rfl
theorem avd:aIH.kd.agg=false:=ID rfl
theorem am5:aIH.size=1:=ID rfl
theorem ahj:aIH.bytes=8:=ID rfl
theorem aKH:qw aIH=True:=eq_true rfl
theorem aKI:zc aIH=[.v Value.nilFunc]:=ID rfl
theorem bjz{K:TI→Prop}:@tyW Tryz.prog 93 ⟨K⟩=K aIG:=qh bkM
theorem aKG:aIG.kd=Kd.oth:=ID rfl
theorem avc:aIG.kd.agg=false:=ID rfl
theorem am4:aIG.size=1:=ID rfl
theorem ahi:aIG.bytes=8:=ID rfl
theorem aKE:qw aIG=True:=eq_true rfl
theorem aKF:zc aIG=[.v Value.nilFunc]:=ID rfl
theorem bjy{K:TI→Prop}:@tyW Tryz.prog 94 ⟨K⟩=K aIF:=qh bkL
theorem aKD:aIF.kd=Kd.oth:=ID rfl
theorem avb:aIF.kd.agg=false:=ID rfl
theorem am3:aIF.size=1:=ID rfl
theorem ahh:aIF.bytes=8:=ID rfl
theorem aKB:qw aIF=True:=eq_true rfl
theorem aKC:zc aIF=[.v Value.nilFunc]:=ID rfl
theorem bjx{K:TI→Prop}:@tyW Tryz.prog 95 ⟨K⟩=K aIE:=qh bkK
theorem aKA:aIE.kd=Kd.oth:=ID rfl
theorem ava:aIE.kd.agg=false:=ID rfl
theorem am2:aIE.size=1:=ID rfl
theorem ahg:aIE.bytes=8:=ID rfl
theorem aKy:qw aIE=True:=eq_true rfl
theorem aKz:zc aIE=[.v Value.nilFunc]:=ID rfl
theorem bjw{K:TI→Prop}:@tyW Tryz.prog 96 ⟨K⟩=K aID:=qh bkJ
theorem aKx:aID.kd=Kd.oth:=ID rfl
theorem au9:aID.kd.agg=false:=ID rfl
theorem am1:aID.size=1:=ID rfl
theorem ahf:aID.bytes=8:=ID rfl
theorem aKv:qw aID=True:=eq_true rfl
theorem aKw:zc aID=[.v Value.nilFunc]:=ID rfl
theorem bjv{K:TI→Prop}:@tyW Tryz.prog 97 ⟨K⟩=K aIC:=qh bkI
theorem aKu:aIC.kd=Kd.oth:=ID rfl
theorem au8:aIC.kd.agg=false:=ID rfl
theorem am0:aIC.size=1:=ID rfl
theorem ahe:aIC.bytes=8:=ID rfl
theorem aKs:qw aIC=True:=eq_true rfl
theorem aKt:zc aIC=[.v Value.nilFunc]:=ID rfl
theorem bju{K:TI→Prop}:@tyW Tryz.prog 98 ⟨K⟩=K aIB:=qh bkH
theorem aKr:aIB.kd=Kd.oth:=ID rfl
theorem au7:aIB.kd.agg=false:=ID rfl
theorem amZ:aIB.size=1:=ID rfl
theorem ahd:aIB.bytes=8:=ID rfl
theorem aKp:qw aIB=True:=eq_true rfl
theorem aKq:zc aIB=[.v Value.nilFunc]:=ID rfl
theorem bjt{K:TI→Prop}:@tyW Tryz.prog 99 ⟨K⟩=K aIA:=qh bkG
theorem aKo:aIA.kd=Kd.oth:=ID rfl
theorem au6:aIA.kd.agg=false:=ID rfl
theorem amY:aIA.size=1:=ID rfl
theorem ahc:aIA.bytes=8:=ID rfl
theorem aKm:qw aIA=True:=eq_true rfl
theorem aKn:zc aIA=[.v Value.nilFunc]:=ID rfl
theorem bdu{K:TI→Prop}:@tyW Tryz.prog 101 ⟨K⟩=K aaE:=qh bgh
theorem aFi:aaE.kd=Kd.oth:=ID rfl
theorem arv:aaE.kd.agg=false:=ID rfl
theorem alk:aaE.size=1:=ID rfl
theorem ae6:aaE.bytes=8:=ID rfl
theorem aFg:qw aaE=True:=eq_true rfl
theorem aFh:zc aaE=[.v Value.nilFunc]:=ID rfl
theorem bdt{K:TI→Prop}:@tyW Tryz.prog 102 ⟨K⟩=K aaD:=qh bgg
theorem aFf:aaD.kd=Kd.oth:=ID rfl
theorem aru:aaD.kd.agg=false:=ID rfl
theorem alj:aaD.size=1:=ID rfl
theorem ae5:aaD.bytes=8:=ID rfl
theorem aFd:qw aaD=True:=eq_true rfl
theorem aFe:zc aaD=[.v Value.nilFunc]:=ID rfl
theorem bds{K:TI→Prop}:@tyW Tryz.prog 103 ⟨K⟩=K aaC:=qh bgf
theorem aFc:aaC.kd=Kd.oth:=ID rfl
theorem art:aaC.kd.agg=false:=ID rfl
theorem ali:aaC.size=1:=ID rfl
theorem ae4:aaC.bytes=8:=ID rfl
theorem aFa:qw aaC=True:=eq_true rfl
theorem aFb:zc aaC=[.v Value.nilFunc]:=ID rfl
theorem bdr{K:TI→Prop}:@tyW Tryz.prog 104 ⟨K⟩=K aaB:=qh bge
theorem aE9:aaB.kd=Kd.oth:=ID rfl
theorem ars:aaB.kd.agg=false:=ID rfl
theorem alh:aaB.size=1:=ID rfl
theorem ae3:aaB.bytes=8:=ID rfl
theorem aE7:qw aaB=True:=eq_true rfl
theorem aE8:zc aaB=[.v Value.nilFunc]:=ID rfl
theorem bdq{K:TI→Prop}:@tyW Tryz.prog 105 ⟨K⟩=K Qv:=qh aaJ
theorem aE6:Qv.kd=Kd.sli 125:=ID rfl
theorem arq:Qv.kd.agg=false:=ID rfl
theorem alg:Qv.size=1:=ID rfl
theorem ae2:Qv.bytes=24:=ID rfl
theorem aE4:qw Qv=True:=eq_true rfl
theorem aE5:zc Qv=[.v (Value.slice none 0 0)]:=ID rfl
theorem aTp{K:TI→Prop}:@y3 Tryz.prog 105 ⟨K⟩=K Zu:=Zi aaJ rfl arA
theorem bdp{K:TI→Prop}:@tyW Tryz.prog 106 ⟨K⟩=K ZY:=qh aFs
theorem aE3:ZY.kd=Kd.stru [(0,3),(1,105)]:=ID rfl
theorem arp:ZY.kd.agg=true:=ID rfl
theorem alf:ZY.size=2:=ID rfl
theorem ae1:ZY.bytes=32:=ID rfl
theorem aE1:qw ZY=True:=eq_true rfl
theorem aE2:zc ZY=[.v (Value.int IntKind.i64 0),.v (Value.slice none 0 0)]:=ID rfl
theorem aHo{K:Nat→TI→Prop}:@qz Tryz.prog 106 0 ⟨K⟩=K 0 ti3:=qr (ti:=ZY) (tf:=ti3) (fo:=(0,3)) (fs:=[(0,3),(1,105)]) aFs rfl rfl tf3
theorem aO0{K:Nat→Nat→Prop}:qt Tryz.prog [(0,3),(1,105)] 0 K=K 0 1:=qq (tf:=ti3) (fo:=(0,3)) (fs:=[(0,3),(1,105)]) rfl tf3
theorem aHn{K:Nat→TI→Prop}:@qz Tryz.prog 106 1 ⟨K⟩=K 1 Qv:=qr (ti:=ZY) (tf:=Qv) (fo:=(1,105)) (fs:=[(0,3),(1,105)]) aFs rfl rfl aaJ
theorem aOZ{K:Nat→Nat→Prop}:qt Tryz.prog [(0,3),(1,105)] 1 K=K 1 1:=qq (tf:=Qv) (fo:=(1,105)) (fs:=[(0,3),(1,105)]) rfl aaJ
theorem aQp:∀f∈([(0,3),(1,105)]:List (Nat×Nat)),(qn Tryz.prog f.2).isSome=true:=by
 intro f hf
 simp only[List.mem_cons,List.not_mem_nil,or_false]at hf
 rcases hf with rfl|rfl
 ·rw[tf3];rfl
 ·rw[aaJ];rfl
theorem aZP{ps:List (Nat×AV)}{K:AV→Prop}:@q7 Tryz.prog 106 ps ⟨K⟩=@zg (qt Tryz.prog [(0,3),(1,105)]) (zc ZY) ps ⟨fun cs=>K (.ag cs)⟩:=qF aFs rfl aQp
theorem bdo{K:TI→Prop}:@tyW Tryz.prog 107 ⟨K⟩=K ZX:=qh aFr
theorem aE0:ZX.kd=Kd.stru [(0,3),(1,105)]:=ID rfl
theorem aro:ZX.kd.agg=true:=ID rfl
theorem ale:ZX.size=2:=ID rfl
theorem ae0:ZX.bytes=32:=ID rfl
theorem aEY:qw ZX=True:=eq_true rfl
theorem aEZ:zc ZX=[.v (Value.int IntKind.i64 0),.v (Value.slice none 0 0)]:=ID rfl
theorem aHm{K:Nat→TI→Prop}:@qz Tryz.prog 107 0 ⟨K⟩=K 0 ti3:=qr (ti:=ZX) (tf:=ti3) (fo:=(0,3)) (fs:=[(0,3),(1,105)]) aFr rfl rfl tf3
theorem aOY{K:Nat→Nat→Prop}:qt Tryz.prog [(0,3),(1,105)] 0 K=K 0 1:=qq (tf:=ti3) (fo:=(0,3)) (fs:=[(0,3),(1,105)]) rfl tf3
theorem aHl{K:Nat→TI→Prop}:@qz Tryz.prog 107 1 ⟨K⟩=K 1 Qv:=qr (ti:=ZX) (tf:=Qv) (fo:=(1,105)) (fs:=[(0,3),(1,105)]) aFr rfl rfl aaJ
theorem aOX{K:Nat→Nat→Prop}:qt Tryz.prog [(0,3),(1,105)] 1 K=K 1 1:=qq (tf:=Qv) (fo:=(1,105)) (fs:=[(0,3),(1,105)]) rfl aaJ
theorem aQo:∀f∈([(0,3),(1,105)]:List (Nat×Nat)),(qn Tryz.prog f.2).isSome=true:=by
 intro f hf
 simp only[List.mem_cons,List.not_mem_nil,or_false]at hf
 rcases hf with rfl|rfl
 ·rw[tf3];rfl
 ·rw[aaJ];rfl
theorem aZO{ps:List (Nat×AV)}{K:AV→Prop}:@q7 Tryz.prog 107 ps ⟨K⟩=@zg (qt Tryz.prog [(0,3),(1,105)]) (zc ZX) ps ⟨fun cs=>K (.ag cs)⟩:=qF aFr rfl aQo
theorem bdn{K:TI→Prop}:@tyW Tryz.prog 108 ⟨K⟩=K Qd:=qh YM
theorem aEX:Qd.kd=Kd.sli 117:=ID rfl
theorem arn:Qd.kd.agg=false:=ID rfl
theorem ald:Qd.size=1:=ID rfl
theorem aeZ:Qd.bytes=24:=ID rfl
theorem aEV:qw Qd=True:=eq_true rfl
theorem aEW:zc Qd=[.v (Value.slice none 0 0)]:=ID rfl
theorem aTo{K:TI→Prop}:@y3 Tryz.prog 108 ⟨K⟩=K jq:=Zi YM rfl yw
theorem bdm{K:TI→Prop}:@tyW Tryz.prog 109 ⟨K⟩=K ZW:=qh aFq
theorem aEU:ZW.kd=Kd.stru [(0,3),(1,108)]:=ID rfl
theorem arm:ZW.kd.agg=true:=ID rfl
theorem alc:ZW.size=2:=ID rfl
theorem aeY:ZW.bytes=32:=ID rfl
theorem aES:qw ZW=True:=eq_true rfl
theorem aET:zc ZW=[.v (Value.int IntKind.i64 0),.v (Value.slice none 0 0)]:=ID rfl
theorem aHk{K:Nat→TI→Prop}:@qz Tryz.prog 109 0 ⟨K⟩=K 0 ti3:=qr (ti:=ZW) (tf:=ti3) (fo:=(0,3)) (fs:=[(0,3),(1,108)]) aFq rfl rfl tf3
theorem aOW{K:Nat→Nat→Prop}:qt Tryz.prog [(0,3),(1,108)] 0 K=K 0 1:=qq (tf:=ti3) (fo:=(0,3)) (fs:=[(0,3),(1,108)]) rfl tf3
theorem aHj{K:Nat→TI→Prop}:@qz Tryz.prog 109 1 ⟨K⟩=K 1 Qd:=qr (ti:=ZW) (tf:=Qd) (fo:=(1,108)) (fs:=[(0,3),(1,108)]) aFq rfl rfl YM
theorem aOV{K:Nat→Nat→Prop}:qt Tryz.prog [(0,3),(1,108)] 1 K=K 1 1:=qq (tf:=Qd) (fo:=(1,108)) (fs:=[(0,3),(1,108)]) rfl YM
theorem aQn:∀f∈([(0,3),(1,108)]:List (Nat×Nat)),(qn Tryz.prog f.2).isSome=true:=by
 intro f hf
 simp only[List.mem_cons,List.not_mem_nil,or_false]at hf
 rcases hf with rfl|rfl
 ·rw[tf3];rfl
 ·rw[YM];rfl
theorem aZN{ps:List (Nat×AV)}{K:AV→Prop}:@q7 Tryz.prog 109 ps ⟨K⟩=@zg (qt Tryz.prog [(0,3),(1,108)]) (zc ZW) ps ⟨fun cs=>K (.ag cs)⟩:=qF aFq rfl aQn
theorem bdl{K:TI→Prop}:@tyW Tryz.prog 110 ⟨K⟩=K ZV:=qh aFp
theorem aEQ:ZV.kd=Kd.stru [(0,3),(1,108)]:=ID rfl
theorem ark:ZV.kd.agg=true:=ID rfl
theorem ala:ZV.size=2:=ID rfl
theorem aeX:ZV.bytes=32:=ID rfl
theorem aEO:qw ZV=True:=eq_true rfl
theorem aEP:zc ZV=[.v (Value.int IntKind.i64 0),.v (Value.slice none 0 0)]:=ID rfl
theorem aHi{K:Nat→TI→Prop}:@qz Tryz.prog 110 0 ⟨K⟩=K 0 ti3:=qr (ti:=ZV) (tf:=ti3) (fo:=(0,3)) (fs:=[(0,3),(1,108)]) aFp rfl rfl tf3
theorem aOU{K:Nat→Nat→Prop}:qt Tryz.prog [(0,3),(1,108)] 0 K=K 0 1:=qq (tf:=ti3) (fo:=(0,3)) (fs:=[(0,3),(1,108)]) rfl tf3
theorem aHh{K:Nat→TI→Prop}:@qz Tryz.prog 110 1 ⟨K⟩=K 1 Qd:=qr (ti:=ZV) (tf:=Qd) (fo:=(1,108)) (fs:=[(0,3),(1,108)]) aFp rfl rfl YM
theorem aOT{K:Nat→Nat→Prop}:qt Tryz.prog [(0,3),(1,108)] 1 K=K 1 1:=qq (tf:=Qd) (fo:=(1,108)) (fs:=[(0,3),(1,108)]) rfl YM
theorem aQm:∀f∈([(0,3),(1,108)]:List (Nat×Nat)),(qn Tryz.prog f.2).isSome=true:=by
 intro f hf
 simp only[List.mem_cons,List.not_mem_nil,or_false]at hf
 rcases hf with rfl|rfl
 ·rw[tf3];rfl
 ·rw[YM];rfl
theorem aZM{ps:List (Nat×AV)}{K:AV→Prop}:@q7 Tryz.prog 110 ps ⟨K⟩=@zg (qt Tryz.prog [(0,3),(1,108)]) (zc ZV) ps ⟨fun cs=>K (.ag cs)⟩:=qF aFp rfl aQm
theorem bdk{K:TI→Prop}:@tyW Tryz.prog 111 ⟨K⟩=K aaA:=qh bgd
theorem aEN:aaA.kd=Kd.oth:=ID rfl
theorem arj:aaA.kd.agg=false:=ID rfl
theorem ak9:aaA.size=1:=ID rfl
theorem aeW:aaA.bytes=8:=ID rfl
theorem aEL:qw aaA=True:=eq_true rfl
theorem aEM:zc aaA=[.v Value.nilFunc]:=ID rfl
theorem bdj{K:TI→Prop}:@tyW Tryz.prog 112 ⟨K⟩=K aaz:=qh bgc
theorem aEK:aaz.kd=Kd.oth:=ID rfl
theorem ari:aaz.kd.agg=false:=ID rfl
theorem ak8:aaz.size=1:=ID rfl
theorem aeV:aaz.bytes=8:=ID rfl
theorem aEI:qw aaz=True:=eq_true rfl
theorem aEJ:zc aaz=[.v Value.nilFunc]:=ID rfl
theorem bdi{K:TI→Prop}:@tyW Tryz.prog 113 ⟨K⟩=K aay:=qh bgb
theorem aEH:aay.kd=Kd.oth:=ID rfl
theorem arh:aay.kd.agg=false:=ID rfl
theorem ak7:aay.size=1:=ID rfl
theorem aeU:aay.bytes=8:=ID rfl
theorem aEF:qw aay=True:=eq_true rfl
theorem aEG:zc aay=[.v Value.nilFunc]:=ID rfl
theorem bdh{K:TI→Prop}:@tyW Tryz.prog 114 ⟨K⟩=K aax:=qh bga
theorem aEE:aax.kd=Kd.oth:=ID rfl
theorem arg:aax.kd.agg=false:=ID rfl
theorem ak6:aax.size=1:=ID rfl
theorem aeT:aax.bytes=8:=ID rfl
theorem aEC:qw aax=True:=eq_true rfl
theorem aED:zc aax=[.v Value.nilFunc]:=ID rfl
theorem bdg{K:TI→Prop}:@tyW Tryz.prog 115 ⟨K⟩=K aaw:=qh bf9
theorem aEB:aaw.kd=Kd.oth:=ID rfl
theorem arf:aaw.kd.agg=false:=ID rfl
theorem ak5:aaw.size=1:=ID rfl
theorem aeS:aaw.bytes=8:=ID rfl
theorem aEz:qw aaw=True:=eq_true rfl
theorem aEA:zc aaw=[.v Value.nilFunc]:=ID rfl
theorem bdf{K:TI→Prop}:@tyW Tryz.prog 116 ⟨K⟩=K Zv:=qh arB
theorem aEy:Zv.kd=Kd.stru [(0,4),(1,36),(2,3)]:=ID rfl
theorem ard:Zv.kd.agg=true:=ID rfl
theorem ak4:Zv.size=3:=ID rfl
theorem aeR:Zv.bytes=40:=ID rfl
theorem aEw:qw Zv=True:=eq_true rfl
theorem aEx:zc Zv=[.v (Value.bool false),.v (Value.slice none 0 0),.v (Value.int IntKind.i64 0)]:=ID rfl
theorem aHg{K:Nat→TI→Prop}:@qz Tryz.prog 116 0 ⟨K⟩=K 0 ti4:=qr (ti:=Zv) (tf:=ti4) (fo:=(0,4)) (fs:=[(0,4),(1,36),(2,3)]) arB rfl rfl tf4
theorem aOS{K:Nat→Nat→Prop}:qt Tryz.prog [(0,4),(1,36),(2,3)] 0 K=K 0 1:=qq (tf:=ti4) (fo:=(0,4)) (fs:=[(0,4),(1,36),(2,3)]) rfl tf4
theorem aHf{K:Nat→TI→Prop}:@qz Tryz.prog 116 1 ⟨K⟩=K 1 ZT:=qr (ti:=Zv) (tf:=ZT) (fo:=(1,36)) (fs:=[(0,4),(1,36),(2,3)]) arB rfl rfl aaI
theorem aOR{K:Nat→Nat→Prop}:qt Tryz.prog [(0,4),(1,36),(2,3)] 1 K=K 1 1:=qq (tf:=ZT) (fo:=(1,36)) (fs:=[(0,4),(1,36),(2,3)]) rfl aaI
theorem aHe{K:Nat→TI→Prop}:@qz Tryz.prog 116 2 ⟨K⟩=K 2 ti3:=qr (ti:=Zv) (tf:=ti3) (fo:=(2,3)) (fs:=[(0,4),(1,36),(2,3)]) arB rfl rfl tf3
theorem aOQ{K:Nat→Nat→Prop}:qt Tryz.prog [(0,4),(1,36),(2,3)] 2 K=K 2 1:=qq (tf:=ti3) (fo:=(2,3)) (fs:=[(0,4),(1,36),(2,3)]) rfl tf3
theorem aQl:∀f∈([(0,4),(1,36),(2,3)]:List (Nat×Nat)),(qn Tryz.prog f.2).isSome=true:=by
 intro f hf
 simp only[List.mem_cons,List.not_mem_nil,or_false]at hf
 rcases hf with rfl|rfl|rfl
 ·rw[tf4];rfl
 ·rw[aaI];rfl
 ·rw[tf3];rfl
theorem aZL{ps:List (Nat×AV)}{K:AV→Prop}:@q7 Tryz.prog 116 ps ⟨K⟩=@zg (qt Tryz.prog [(0,4),(1,36),(2,3)]) (zc Zv) ps ⟨fun cs=>K (.ag cs)⟩:=qF arB rfl aQl
theorem bde{K:TI→Prop}:@tyW Tryz.prog 117 ⟨K⟩=K jq:=qh yw
theorem aEv:jq.kd=Kd.stru [(0,4),(1,36),(2,3)]:=ID rfl
theorem arc:jq.kd.agg=true:=ID rfl
theorem ak3:jq.size=3:=ID rfl
theorem aeQ:jq.bytes=40:=ID rfl
theorem aEt:qw jq=True:=eq_true rfl
theorem aEu:zc jq=[.v (Value.bool false),.v (Value.slice none 0 0),.v (Value.int IntKind.i64 0)]:=ID rfl
theorem aHd{K:Nat→TI→Prop}:@qz Tryz.prog 117 0 ⟨K⟩=K 0 ti4:=qr (ti:=jq) (tf:=ti4) (fo:=(0,4)) (fs:=[(0,4),(1,36),(2,3)]) yw rfl rfl tf4
theorem aOP{K:Nat→Nat→Prop}:qt Tryz.prog [(0,4),(1,36),(2,3)] 0 K=K 0 1:=qq (tf:=ti4) (fo:=(0,4)) (fs:=[(0,4),(1,36),(2,3)]) rfl tf4
theorem aHc{K:Nat→TI→Prop}:@qz Tryz.prog 117 1 ⟨K⟩=K 1 ZT:=qr (ti:=jq) (tf:=ZT) (fo:=(1,36)) (fs:=[(0,4),(1,36),(2,3)]) yw rfl rfl aaI
theorem aOO{K:Nat→Nat→Prop}:qt Tryz.prog [(0,4),(1,36),(2,3)] 1 K=K 1 1:=qq (tf:=ZT) (fo:=(1,36)) (fs:=[(0,4),(1,36),(2,3)]) rfl aaI
theorem aHb{K:Nat→TI→Prop}:@qz Tryz.prog 117 2 ⟨K⟩=K 2 ti3:=qr (ti:=jq) (tf:=ti3) (fo:=(2,3)) (fs:=[(0,4),(1,36),(2,3)]) yw rfl rfl tf3
theorem aON{K:Nat→Nat→Prop}:qt Tryz.prog [(0,4),(1,36),(2,3)] 2 K=K 2 1:=qq (tf:=ti3) (fo:=(2,3)) (fs:=[(0,4),(1,36),(2,3)]) rfl tf3
theorem aQk:∀f∈([(0,4),(1,36),(2,3)]:List (Nat×Nat)),(qn Tryz.prog f.2).isSome=true:=by
 intro f hf
 simp only[List.mem_cons,List.not_mem_nil,or_false]at hf
 rcases hf with rfl|rfl|rfl
 ·rw[tf4];rfl
 ·rw[aaI];rfl
 ·rw[tf3];rfl
theorem aZK{ps:List (Nat×AV)}{K:AV→Prop}:@q7 Tryz.prog 117 ps ⟨K⟩=@zg (qt Tryz.prog [(0,4),(1,36),(2,3)]) (zc jq) ps ⟨fun cs=>K (.ag cs)⟩:=qF yw rfl aQk
theorem bdd{K:TI→Prop}:@tyW Tryz.prog 118 ⟨K⟩=K aav:=qh bf8
theorem aEs:aav.kd=Kd.oth:=ID rfl
theorem arb:aav.kd.agg=false:=ID rfl
theorem ak2:aav.size=1:=ID rfl
theorem aeP:aav.bytes=8:=ID rfl
theorem aEq:qw aav=True:=eq_true rfl
theorem aEr:zc aav=[.v Value.nilFunc]:=ID rfl
theorem bdc{K:TI→Prop}:@tyW Tryz.prog 119 ⟨K⟩=K aau:=qh bf7
theorem aEp:aau.kd=Kd.oth:=ID rfl
theorem ara:aau.kd.agg=false:=ID rfl
theorem ak1:aau.size=1:=ID rfl
theorem aeO:aau.bytes=8:=ID rfl
theorem aEn:qw aau=True:=eq_true rfl
theorem aEo:zc aau=[.v Value.nilFunc]:=ID rfl
theorem bdb{K:TI→Prop}:@tyW Tryz.prog 120 ⟨K⟩=K aat:=qh bf6
theorem aEl:aat.kd=Kd.oth:=ID rfl
theorem aq8:aat.kd.agg=false:=ID rfl
theorem akZ:aat.size=1:=ID rfl
theorem aeN:aat.bytes=8:=ID rfl
theorem aEj:qw aat=True:=eq_true rfl
theorem aEk:zc aat=[.v Value.nilFunc]:=ID rfl
theorem bda{K:TI→Prop}:@tyW Tryz.prog 121 ⟨K⟩=K aas:=qh bf5
theorem aEi:aas.kd=Kd.oth:=ID rfl
theorem aq7:aas.kd.agg=false:=ID rfl
theorem akY:aas.size=1:=ID rfl
theorem aeM:aas.bytes=8:=ID rfl
theorem aEg:qw aas=True:=eq_true rfl
theorem aEh:zc aas=[.v Value.nilFunc]:=ID rfl
theorem bc9{K:TI→Prop}:@tyW Tryz.prog 122 ⟨K⟩=K aar:=qh bf4
theorem aEf:aar.kd=Kd.oth:=ID rfl
theorem aq6:aar.kd.agg=false:=ID rfl
theorem akX:aar.size=1:=ID rfl
theorem aeL:aar.bytes=8:=ID rfl
theorem aEd:qw aar=True:=eq_true rfl
theorem aEe:zc aar=[.v Value.nilFunc]:=ID rfl
theorem bc8{K:TI→Prop}:@tyW Tryz.prog 123 ⟨K⟩=K aaq:=qh bf3
theorem aEc:aaq.kd=Kd.oth:=ID rfl
theorem aq5:aaq.kd.agg=false:=ID rfl
theorem akW:aaq.size=1:=ID rfl
theorem aeK:aaq.bytes=8:=ID rfl
theorem aEa:qw aaq=True:=eq_true rfl
theorem aEb:zc aaq=[.v Value.nilFunc]:=ID rfl
theorem bc7{K:TI→Prop}:@tyW Tryz.prog 124 ⟨K⟩=K ZU:=qh aFo
theorem aD9:ZU.kd=Kd.stru [(0,117),(3,117)]:=ID rfl
theorem aq4:ZU.kd.agg=true:=ID rfl
theorem akV:ZU.size=6:=ID rfl
theorem aeJ:ZU.bytes=80:=ID rfl
theorem aD7:qw ZU=True:=eq_true rfl
theorem aD8:zc ZU=[.v (Value.bool false),.v (Value.slice none 0 0),.v (Value.int IntKind.i64 0),.v (Value.bool false),.v (Value.slice none 0 0),.v (Value.int IntKind.i64 0)]:=ID rfl
theorem aHa{K:Nat→TI→Prop}:@qz Tryz.prog 124 0 ⟨K⟩=K 0 jq:=qr (ti:=ZU) (tf:=jq) (fo:=(0,117)) (fs:=[(0,117),(3,117)]) aFo rfl rfl yw
theorem aOM{K:Nat→Nat→Prop}:qt Tryz.prog [(0,117),(3,117)] 0 K=K 0 3:=qq (tf:=jq) (fo:=(0,117)) (fs:=[(0,117),(3,117)]) rfl yw
theorem aG9{K:Nat→TI→Prop}:@qz Tryz.prog 124 1 ⟨K⟩=K 3 jq:=qr (ti:=ZU) (tf:=jq) (fo:=(3,117)) (fs:=[(0,117),(3,117)]) aFo rfl rfl yw
theorem aOL{K:Nat→Nat→Prop}:qt Tryz.prog [(0,117),(3,117)] 1 K=K 3 3:=qq (tf:=jq) (fo:=(3,117)) (fs:=[(0,117),(3,117)]) rfl yw
theorem aQj:∀f∈([(0,117),(3,117)]:List (Nat×Nat)),(qn Tryz.prog f.2).isSome=true:=by
 intro f hf
 simp only[List.mem_cons,List.not_mem_nil,or_false]at hf
 rcases hf with rfl|rfl
 ·rw[yw];rfl
 ·rw[yw];rfl
theorem aZJ{ps:List (Nat×AV)}{K:AV→Prop}:@q7 Tryz.prog 124 ps ⟨K⟩=@zg (qt Tryz.prog [(0,117),(3,117)]) (zc ZU) ps ⟨fun cs=>K (.ag cs)⟩:=qF aFo rfl aQj
theorem bc6{K:TI→Prop}:@tyW Tryz.prog 125 ⟨K⟩=K Zu:=qh arA
theorem aD6:Zu.kd=Kd.stru [(0,117),(3,117)]:=ID rfl
theorem aq3:Zu.kd.agg=true:=ID rfl
theorem akU:Zu.size=6:=ID rfl
theorem aeI:Zu.bytes=80:=ID rfl
theorem aD4:qw Zu=True:=eq_true rfl
theorem aD5:zc Zu=[.v (Value.bool false),.v (Value.slice none 0 0),.v (Value.int IntKind.i64 0),.v (Value.bool false),.v (Value.slice none 0 0),.v (Value.int IntKind.i64 0)]:=ID rfl
theorem aG8{K:Nat→TI→Prop}:@qz Tryz.prog 125 0 ⟨K⟩=K 0 jq:=qr (ti:=Zu) (tf:=jq) (fo:=(0,117)) (fs:=[(0,117),(3,117)]) arA rfl rfl yw
theorem aOK{K:Nat→Nat→Prop}:qt Tryz.prog [(0,117),(3,117)] 0 K=K 0 3:=qq (tf:=jq) (fo:=(0,117)) (fs:=[(0,117),(3,117)]) rfl yw
theorem aG7{K:Nat→TI→Prop}:@qz Tryz.prog 125 1 ⟨K⟩=K 3 jq:=qr (ti:=Zu) (tf:=jq) (fo:=(3,117)) (fs:=[(0,117),(3,117)]) arA rfl rfl yw
theorem aOJ{K:Nat→Nat→Prop}:qt Tryz.prog [(0,117),(3,117)] 1 K=K 3 3:=qq (tf:=jq) (fo:=(3,117)) (fs:=[(0,117),(3,117)]) rfl yw
theorem aQi:∀f∈([(0,117),(3,117)]:List (Nat×Nat)),(qn Tryz.prog f.2).isSome=true:=by
 intro f hf
 simp only[List.mem_cons,List.not_mem_nil,or_false]at hf
 rcases hf with rfl|rfl
 ·rw[yw];rfl
 ·rw[yw];rfl
theorem aZI{ps:List (Nat×AV)}{K:AV→Prop}:@q7 Tryz.prog 125 ps ⟨K⟩=@zg (qt Tryz.prog [(0,117),(3,117)]) (zc Zu) ps ⟨fun cs=>K (.ag cs)⟩:=qF arA rfl aQi
theorem bc5{K:TI→Prop}:@tyW Tryz.prog 127 ⟨K⟩=K aap:=qh bf2
theorem aD3:aap.kd=Kd.oth:=ID rfl
theorem aq2:aap.kd.agg=false:=ID rfl
theorem akT:aap.size=1:=ID rfl
theorem aeH:aap.bytes=8:=ID rfl
theorem aD1:qw aap=True:=eq_true rfl
theorem aD2:zc aap=[.v Value.nilFunc]:=ID rfl
theorem bc4{K:TI→Prop}:@tyW Tryz.prog 128 ⟨K⟩=K aao:=qh bf1
theorem aD0:aao.kd=Kd.oth:=ID rfl
theorem aq1:aao.kd.agg=false:=ID rfl
theorem akS:aao.size=1:=ID rfl
theorem aeG:aao.bytes=8:=ID rfl
theorem aDY:qw aao=True:=eq_true rfl
theorem aDZ:zc aao=[.v Value.nilFunc]:=ID rfl
theorem bc3{K:TI→Prop}:@tyW Tryz.prog 129 ⟨K⟩=K aan:=qh bf0
theorem aDX:aan.kd=Kd.oth:=ID rfl
theorem aq0:aan.kd.agg=false:=ID rfl
theorem akR:aan.size=1:=ID rfl
theorem aeF:aan.bytes=8:=ID rfl
theorem aDV:qw aan=True:=eq_true rfl
theorem aDW:zc aan=[.v Value.nilFunc]:=ID rfl
theorem bc2{K:TI→Prop}:@tyW Tryz.prog 130 ⟨K⟩=K aam:=qh bfZ
theorem aDT:aam.kd=Kd.oth:=ID rfl
theorem aqY:aam.kd.agg=false:=ID rfl
theorem akP:aam.size=1:=ID rfl
theorem aeE:aam.bytes=8:=ID rfl
theorem aDR:qw aam=True:=eq_true rfl
theorem aDS:zc aam=[.v Value.nilFunc]:=ID rfl
theorem bc1{K:TI→Prop}:@tyW Tryz.prog 131 ⟨K⟩=K aal:=qh bfY
theorem aDQ:aal.kd=Kd.oth:=ID rfl
theorem aqX:aal.kd.agg=false:=ID rfl
theorem akO:aal.size=1:=ID rfl
theorem aeD:aal.bytes=8:=ID rfl
theorem aDO:qw aal=True:=eq_true rfl
theorem aDP:zc aal=[.v Value.nilFunc]:=ID rfl
theorem bc0{K:TI→Prop}:@tyW Tryz.prog 132 ⟨K⟩=K aak:=qh bfX
theorem aDN:aak.kd=Kd.oth:=ID rfl
theorem aqW:aak.kd.agg=false:=ID rfl
theorem akN:aak.size=1:=ID rfl
theorem aeC:aak.bytes=8:=ID rfl
theorem aDL:qw aak=True:=eq_true rfl
theorem aDM:zc aak=[.v Value.nilFunc]:=ID rfl
theorem bcZ{K:TI→Prop}:@tyW Tryz.prog 133 ⟨K⟩=K aaj:=qh bfW
theorem aDK:aaj.kd=Kd.oth:=ID rfl
theorem aqV:aaj.kd.agg=false:=ID rfl
theorem akM:aaj.size=1:=ID rfl
theorem aeB:aaj.bytes=8:=ID rfl
theorem aDI:qw aaj=True:=eq_true rfl
theorem aDJ:zc aaj=[.v Value.nilFunc]:=ID rfl
theorem bcY{K:TI→Prop}:@tyW Tryz.prog 134 ⟨K⟩=K aai:=qh bfV
theorem aDH:aai.kd=Kd.oth:=ID rfl
theorem aqU:aai.kd.agg=false:=ID rfl
theorem akL:aai.size=1:=ID rfl
theorem aeA:aai.bytes=8:=ID rfl
theorem aDF:qw aai=True:=eq_true rfl
theorem aDG:zc aai=[.v Value.nilFunc]:=ID rfl
theorem bcX{K:TI→Prop}:@tyW Tryz.prog 135 ⟨K⟩=K aah:=qh bfU
theorem aDE:aah.kd=Kd.oth:=ID rfl
theorem aqT:aah.kd.agg=false:=ID rfl
theorem akK:aah.size=1:=ID rfl
theorem aez:aah.bytes=8:=ID rfl
theorem aDC:qw aah=True:=eq_true rfl
theorem aDD:zc aah=[.v Value.nilFunc]:=ID rfl
theorem bcW{K:TI→Prop}:@tyW Tryz.prog 136 ⟨K⟩=K aag:=qh bfT
theorem aDB:aag.kd=Kd.oth:=ID rfl
theorem aqS:aag.kd.agg=false:=ID rfl
theorem akJ:aag.size=1:=ID rfl
theorem aey:aag.bytes=8:=ID rfl
theorem aDz:qw aag=True:=eq_true rfl
theorem aDA:zc aag=[.v Value.nilFunc]:=ID rfl
theorem bcV{K:TI→Prop}:@tyW Tryz.prog 137 ⟨K⟩=K aaf:=qh bfS
theorem aDy:aaf.kd=Kd.oth:=ID rfl
theorem aqR:aaf.kd.agg=false:=ID rfl
theorem akI:aaf.size=1:=ID rfl
theorem aex:aaf.bytes=8:=ID rfl
theorem aDw:qw aaf=True:=eq_true rfl
theorem aDx:zc aaf=[.v Value.nilFunc]:=ID rfl
theorem bcU{K:TI→Prop}:@tyW Tryz.prog 138 ⟨K⟩=K aae:=qh bfR
theorem aDv:aae.kd=Kd.oth:=ID rfl
theorem aqQ:aae.kd.agg=false:=ID rfl
theorem akH:aae.size=1:=ID rfl
theorem aew:aae.bytes=8:=ID rfl
theorem aDt:qw aae=True:=eq_true rfl
theorem aDu:zc aae=[.v Value.nilFunc]:=ID rfl
theorem bcT{K:TI→Prop}:@tyW Tryz.prog 139 ⟨K⟩=K aad:=qh bfQ
theorem aDs:aad.kd=Kd.oth:=ID rfl
theorem aqP:aad.kd.agg=false:=ID rfl
theorem akG:aad.size=1:=ID rfl
theorem aev:aad.bytes=8:=ID rfl
theorem aDq:qw aad=True:=eq_true rfl
theorem aDr:zc aad=[.v Value.nilFunc]:=ID rfl
theorem bcS{K:TI→Prop}:@tyW Tryz.prog 141 ⟨K⟩=K aac:=qh bfP
theorem aDp:aac.kd=Kd.oth:=ID rfl
theorem aqO:aac.kd.agg=false:=ID rfl
theorem akF:aac.size=1:=ID rfl
theorem aeu:aac.bytes=8:=ID rfl
theorem aDn:qw aac=True:=eq_true rfl
theorem aDo:zc aac=[.v Value.nilFunc]:=ID rfl
theorem bcR{K:TI→Prop}:@tyW Tryz.prog 142 ⟨K⟩=K aab:=qh bfO
theorem aDm:aab.kd=Kd.oth:=ID rfl
theorem aqN:aab.kd.agg=false:=ID rfl
theorem akE:aab.size=1:=ID rfl
theorem aet:aab.bytes=8:=ID rfl
theorem aDk:qw aab=True:=eq_true rfl
theorem aDl:zc aab=[.v Value.nilFunc]:=ID rfl
theorem bcQ{K:TI→Prop}:@tyW Tryz.prog 143 ⟨K⟩=K aaa:=qh bfN
theorem aDj:aaa.kd=Kd.oth:=ID rfl
theorem aqM:aaa.kd.agg=false:=ID rfl
theorem akD:aaa.size=1:=ID rfl
theorem aes:aaa.bytes=8:=ID rfl
theorem aDh:qw aaa=True:=eq_true rfl
theorem aDi:zc aaa=[.v Value.nilFunc]:=ID rfl
theorem bcP{K:TI→Prop}:@tyW Tryz.prog 144 ⟨K⟩=K K9:=qh bfM
theorem aDg:K9.kd=Kd.oth:=ID rfl
theorem aqL:K9.kd.agg=false:=ID rfl
theorem akC:K9.size=1:=ID rfl
theorem aer:K9.bytes=8:=ID rfl
theorem aDe:qw K9=True:=eq_true rfl
theorem aDf:zc K9=[.v Value.nilFunc]:=ID rfl
theorem bcO{K:TI→Prop}:@tyW Tryz.prog 145 ⟨K⟩=K K8:=qh bfL
theorem aDd:K8.kd=Kd.oth:=ID rfl
theorem aqK:K8.kd.agg=false:=ID rfl
theorem akB:K8.size=1:=ID rfl
theorem aeq:K8.bytes=8:=ID rfl
theorem aDb:qw K8=True:=eq_true rfl
theorem aDc:zc K8=[.v Value.nilFunc]:=ID rfl
theorem bcN{K:TI→Prop}:@tyW Tryz.prog 146 ⟨K⟩=K K7:=qh bfK
theorem aDa:K7.kd=Kd.oth:=ID rfl
theorem aqJ:K7.kd.agg=false:=ID rfl
theorem akA:K7.size=1:=ID rfl
theorem aep:K7.bytes=8:=ID rfl
theorem aC8:qw K7=True:=eq_true rfl
theorem aC9:zc K7=[.v Value.nilFunc]:=ID rfl
theorem bcM{K:TI→Prop}:@tyW Tryz.prog 147 ⟨K⟩=K K6:=qh bfJ
theorem aC7:K6.kd=Kd.oth:=ID rfl
theorem aqI:K6.kd.agg=false:=ID rfl
theorem akz:K6.size=1:=ID rfl
theorem aeo:K6.bytes=8:=ID rfl
theorem aC5:qw K6=True:=eq_true rfl
theorem aC6:zc K6=[.v Value.nilFunc]:=ID rfl
theorem bcL{K:TI→Prop}:@tyW Tryz.prog 148 ⟨K⟩=K K5:=qh bfI
theorem aC4:K5.kd=Kd.oth:=ID rfl
theorem aqH:K5.kd.agg=false:=ID rfl
theorem aky:K5.size=1:=ID rfl
theorem aen:K5.bytes=8:=ID rfl
theorem aC2:qw K5=True:=eq_true rfl
theorem aC3:zc K5=[.v Value.nilFunc]:=ID rfl
theorem bcK{K:TI→Prop}:@tyW Tryz.prog 149 ⟨K⟩=K K4:=qh bfH
theorem aC1:K4.kd=Kd.oth:=ID rfl
theorem aqG:K4.kd.agg=false:=ID rfl
theorem akx:K4.size=1:=ID rfl
theorem aem:K4.bytes=8:=ID rfl
theorem aCZ:qw K4=True:=eq_true rfl
theorem aC0:zc K4=[.v Value.nilFunc]:=ID rfl
theorem bcJ{K:TI→Prop}:@tyW Tryz.prog 150 ⟨K⟩=K K3:=qh bfG
theorem aCY:K3.kd=Kd.oth:=ID rfl
theorem aqF:K3.kd.agg=false:=ID rfl
theorem akw:K3.size=1:=ID rfl
theorem ael:K3.bytes=8:=ID rfl
theorem aCW:qw K3=True:=eq_true rfl
theorem aCX:zc K3=[.v Value.nilFunc]:=ID rfl
theorem bcI{K:TI→Prop}:@tyW Tryz.prog 151 ⟨K⟩=K K2:=qh bfF
theorem aCV:K2.kd=Kd.oth:=ID rfl
theorem aqE:K2.kd.agg=false:=ID rfl
theorem akv:K2.size=1:=ID rfl
theorem aek:K2.bytes=8:=ID rfl
theorem aCT:qw K2=True:=eq_true rfl
theorem aCU:zc K2=[.v Value.nilFunc]:=ID rfl
theorem bcH{K:TI→Prop}:@tyW Tryz.prog 152 ⟨K⟩=K K1:=qh bfE
theorem aCS:K1.kd=Kd.oth:=ID rfl
theorem aqD:K1.kd.agg=false:=ID rfl
theorem aku:K1.size=1:=ID rfl
theorem aej:K1.bytes=8:=ID rfl
theorem aCQ:qw K1=True:=eq_true rfl
theorem aCR:zc K1=[.v Value.nilFunc]:=ID rfl
theorem bcG{K:TI→Prop}:@tyW Tryz.prog 153 ⟨K⟩=K K0:=qh bfD
theorem aCP:K0.kd=Kd.oth:=ID rfl
theorem aqC:K0.kd.agg=false:=ID rfl
theorem akt:K0.size=1:=ID rfl
theorem aei:K0.bytes=8:=ID rfl
theorem aCN:qw K0=True:=eq_true rfl
theorem aCO:zc K0=[.v Value.nilFunc]:=ID rfl
theorem bcF{K:TI→Prop}:@tyW Tryz.prog 154 ⟨K⟩=K KZ:=qh bfC
theorem aCM:KZ.kd=Kd.oth:=ID rfl
theorem aqB:KZ.kd.agg=false:=ID rfl
theorem aks:KZ.size=1:=ID rfl
theorem aeh:KZ.bytes=8:=ID rfl
theorem aCK:qw KZ=True:=eq_true rfl
theorem aCL:zc KZ=[.v Value.nilFunc]:=ID rfl
theorem bcE{K:TI→Prop}:@tyW Tryz.prog 155 ⟨K⟩=K KY:=qh bfB
theorem aCJ:KY.kd=Kd.oth:=ID rfl
theorem aqA:KY.kd.agg=false:=ID rfl
theorem akr:KY.size=1:=ID rfl
theorem aeg:KY.bytes=8:=ID rfl
theorem aCH:qw KY=True:=eq_true rfl
theorem aCI:zc KY=[.v Value.nilFunc]:=ID rfl
theorem bcD{K:TI→Prop}:@tyW Tryz.prog 156 ⟨K⟩=K KX:=qh bfA
theorem aCG:KX.kd=Kd.oth:=ID rfl
theorem aqz:KX.kd.agg=false:=ID rfl
theorem akq:KX.size=1:=ID rfl
theorem aef:KX.bytes=8:=ID rfl
theorem aCE:qw KX=True:=eq_true rfl
theorem aCF:zc KX=[.v Value.nilFunc]:=ID rfl
theorem bcC{K:TI→Prop}:@tyW Tryz.prog 157 ⟨K⟩=K KW:=qh bfz
theorem aCD:KW.kd=Kd.oth:=ID rfl
theorem aqy:KW.kd.agg=false:=ID rfl
theorem akp:KW.size=1:=ID rfl
theorem aee:KW.bytes=8:=ID rfl
theorem aCB:qw KW=True:=eq_true rfl
theorem aCC:zc KW=[.v Value.nilFunc]:=ID rfl
theorem bcB{K:TI→Prop}:@tyW Tryz.prog 158 ⟨K⟩=K KU:=qh bfy
theorem aCA:KU.kd=Kd.oth:=ID rfl
theorem aqx:KU.kd.agg=false:=ID rfl
theorem ako:KU.size=1:=ID rfl
theorem aed:KU.bytes=8:=ID rfl
theorem aCy:qw KU=True:=eq_true rfl
theorem aCz:zc KU=[.v Value.nilFunc]:=ID rfl
theorem bcA{K:TI→Prop}:@tyW Tryz.prog 159 ⟨K⟩=K KT:=qh bfx
theorem aCx:KT.kd=Kd.oth:=ID rfl
theorem aqw:KT.kd.agg=false:=ID rfl
theorem akn:KT.size=1:=ID rfl
theorem aec:KT.bytes=8:=ID rfl
theorem aCv:qw KT=True:=eq_true rfl
theorem aCw:zc KT=[.v Value.nilFunc]:=ID rfl
theorem bcz{K:TI→Prop}:@tyW Tryz.prog 160 ⟨K⟩=K KS:=qh bfw
theorem aCu:KS.kd=Kd.oth:=ID rfl
theorem aqv:KS.kd.agg=false:=ID rfl
theorem akm:KS.size=1:=ID rfl
theorem aeb:KS.bytes=8:=ID rfl
theorem aCs:qw KS=True:=eq_true rfl
theorem aCt:zc KS=[.v Value.nilFunc]:=ID rfl
theorem bcy{K:TI→Prop}:@tyW Tryz.prog 161 ⟨K⟩=K KR:=qh bfv
theorem aCr:KR.kd=Kd.oth:=ID rfl
theorem aqu:KR.kd.agg=false:=ID rfl
theorem akl:KR.size=1:=ID rfl
theorem aea:KR.bytes=8:=ID rfl
theorem aCp:qw KR=True:=eq_true rfl
theorem aCq:zc KR=[.v Value.nilFunc]:=ID rfl
theorem bcx{K:TI→Prop}:@tyW Tryz.prog 162 ⟨K⟩=K KQ:=qh bfu
theorem aCo:KQ.kd=Kd.oth:=ID rfl
theorem aqt:KQ.kd.agg=false:=ID rfl
theorem akk:KQ.size=1:=ID rfl
theorem ad9:KQ.bytes=8:=ID rfl
theorem aCm:qw KQ=True:=eq_true rfl
theorem aCn:zc KQ=[.v Value.nilFunc]:=ID rfl
theorem bcw{K:TI→Prop}:@tyW Tryz.prog 163 ⟨K⟩=K KP:=qh bft
theorem aCl:KP.kd=Kd.oth:=ID rfl
theorem aqs:KP.kd.agg=false:=ID rfl
theorem akj:KP.size=1:=ID rfl
theorem ad8:KP.bytes=8:=ID rfl
theorem aCj:qw KP=True:=eq_true rfl
theorem aCk:zc KP=[.v Value.nilFunc]:=ID rfl
theorem bcv{K:TI→Prop}:@tyW Tryz.prog 164 ⟨K⟩=K KO:=qh bfs
theorem aCi:KO.kd=Kd.oth:=ID rfl
theorem aqr:KO.kd.agg=false:=ID rfl
theorem aki:KO.size=1:=ID rfl
theorem ad7:KO.bytes=8:=ID rfl
theorem aCg:qw KO=True:=eq_true rfl
theorem aCh:zc KO=[.v Value.nilFunc]:=ID rfl
theorem bcu{K:TI→Prop}:@tyW Tryz.prog 165 ⟨K⟩=K KN:=qh bfr
theorem aCf:KN.kd=Kd.oth:=ID rfl
theorem aqq:KN.kd.agg=false:=ID rfl
theorem akh:KN.size=1:=ID rfl
theorem ad6:KN.bytes=8:=ID rfl
theorem aCd:qw KN=True:=eq_true rfl
theorem aCe:zc KN=[.v Value.nilFunc]:=ID rfl
theorem bct{K:TI→Prop}:@tyW Tryz.prog 166 ⟨K⟩=K KM:=qh bfq
theorem aCc:KM.kd=Kd.oth:=ID rfl
theorem aqp:KM.kd.agg=false:=ID rfl
theorem akg:KM.size=1:=ID rfl
theorem ad5:KM.bytes=8:=ID rfl
theorem aCa:qw KM=True:=eq_true rfl
theorem aCb:zc KM=[.v Value.nilFunc]:=ID rfl
theorem bcs{K:TI→Prop}:@tyW Tryz.prog 167 ⟨K⟩=K KL:=qh bfp
theorem aB9:KL.kd=Kd.oth:=ID rfl
theorem aqo:KL.kd.agg=false:=ID rfl
theorem akf:KL.size=1:=ID rfl
theorem ad4:KL.bytes=8:=ID rfl
theorem aB7:qw KL=True:=eq_true rfl
theorem aB8:zc KL=[.v Value.nilFunc]:=ID rfl
theorem bcr{K:TI→Prop}:@tyW Tryz.prog 168 ⟨K⟩=K KK:=qh bfo
theorem aB6:KK.kd=Kd.oth:=ID rfl
theorem aqn:KK.kd.agg=false:=ID rfl
theorem ake:KK.size=1:=ID rfl
theorem ad3:KK.bytes=8:=ID rfl
theorem aB4:qw KK=True:=eq_true rfl
theorem aB5:zc KK=[.v Value.nilFunc]:=ID rfl
theorem bcq{K:TI→Prop}:@tyW Tryz.prog 169 ⟨K⟩=K KJ:=qh bfn
theorem aB3:KJ.kd=Kd.oth:=ID rfl
theorem aqm:KJ.kd.agg=false:=ID rfl
theorem akd:KJ.size=1:=ID rfl
theorem ad2:KJ.bytes=8:=ID rfl
theorem aB1:qw KJ=True:=eq_true rfl
theorem aB2:zc KJ=[.v Value.nilFunc]:=ID rfl
theorem bcp{K:TI→Prop}:@tyW Tryz.prog 170 ⟨K⟩=K KI:=qh bfm
theorem aB0:KI.kd=Kd.oth:=ID rfl
theorem aql:KI.kd.agg=false:=ID rfl
theorem akc:KI.size=1:=ID rfl
theorem ad1:KI.bytes=8:=ID rfl
theorem aBY:qw KI=True:=eq_true rfl
theorem aBZ:zc KI=[.v Value.nilFunc]:=ID rfl
theorem bco{K:TI→Prop}:@tyW Tryz.prog 171 ⟨K⟩=K KH:=qh bfl
theorem aBX:KH.kd=Kd.oth:=ID rfl
theorem aqk:KH.kd.agg=false:=ID rfl
theorem akb:KH.size=1:=ID rfl
theorem ad0:KH.bytes=8:=ID rfl
theorem aBV:qw KH=True:=eq_true rfl
theorem aBW:zc KH=[.v Value.nilFunc]:=ID rfl
theorem bcn{K:TI→Prop}:@tyW Tryz.prog 172 ⟨K⟩=K KG:=qh bfk
theorem aBU:KG.kd=Kd.oth:=ID rfl
theorem aqj:KG.kd.agg=false:=ID rfl
theorem aka:KG.size=1:=ID rfl
theorem adY:KG.bytes=8:=ID rfl
theorem aBS:qw KG=True:=eq_true rfl
theorem aBT:zc KG=[.v Value.nilFunc]:=ID rfl
theorem bcm{K:TI→Prop}:@tyW Tryz.prog 173 ⟨K⟩=K KF:=qh bfj
theorem aBR:KF.kd=Kd.oth:=ID rfl
theorem aqi:KF.kd.agg=false:=ID rfl
theorem aj9:KF.size=1:=ID rfl
theorem adX:KF.bytes=8:=ID rfl
theorem aBP:qw KF=True:=eq_true rfl
theorem aBQ:zc KF=[.v Value.nilFunc]:=ID rfl
theorem bcl{K:TI→Prop}:@tyW Tryz.prog 174 ⟨K⟩=K KE:=qh bfi
theorem aBO:KE.kd=Kd.oth:=ID rfl
theorem aqh:KE.kd.agg=false:=ID rfl
theorem aj8:KE.size=1:=ID rfl
theorem adW:KE.bytes=8:=ID rfl
theorem aBM:qw KE=True:=eq_true rfl
theorem aBN:zc KE=[.v Value.nilFunc]:=ID rfl
theorem bck{K:TI→Prop}:@tyW Tryz.prog 175 ⟨K⟩=K KD:=qh bfh
theorem aBL:KD.kd=Kd.oth:=ID rfl
theorem aqg:KD.kd.agg=false:=ID rfl
theorem aj7:KD.size=1:=ID rfl
theorem adV:KD.bytes=8:=ID rfl
theorem aBJ:qw KD=True:=eq_true rfl
theorem aBK:zc KD=[.v Value.nilFunc]:=ID rfl
theorem bcj{K:TI→Prop}:@tyW Tryz.prog 176 ⟨K⟩=K Zt:=qh arz
theorem aBI:Zt.kd=Kd.stru [(0,22),(1,3),(2,3)]:=ID rfl
theorem aqf:Zt.kd.agg=true:=ID rfl
theorem aj6:Zt.size=3:=ID rfl
theorem adU:Zt.bytes=40:=ID rfl
theorem aBG:qw Zt=True:=eq_true rfl
theorem aBH:zc Zt=[.v (Value.slice none 0 0),.v (Value.int IntKind.i64 0),.v (Value.int IntKind.i64 0)]:=ID rfl
theorem aG6{K:Nat→TI→Prop}:@qz Tryz.prog 176 0 ⟨K⟩=K 0 agp:=qr (ti:=Zt) (tf:=agp) (fo:=(0,22)) (fs:=[(0,22),(1,3),(2,3)]) arz rfl rfl aJr
theorem aOI{K:Nat→Nat→Prop}:qt Tryz.prog [(0,22),(1,3),(2,3)] 0 K=K 0 1:=qq (tf:=agp) (fo:=(0,22)) (fs:=[(0,22),(1,3),(2,3)]) rfl aJr
theorem aG5{K:Nat→TI→Prop}:@qz Tryz.prog 176 1 ⟨K⟩=K 1 ti3:=qr (ti:=Zt) (tf:=ti3) (fo:=(1,3)) (fs:=[(0,22),(1,3),(2,3)]) arz rfl rfl tf3
theorem aOH{K:Nat→Nat→Prop}:qt Tryz.prog [(0,22),(1,3),(2,3)] 1 K=K 1 1:=qq (tf:=ti3) (fo:=(1,3)) (fs:=[(0,22),(1,3),(2,3)]) rfl tf3
theorem aG4{K:Nat→TI→Prop}:@qz Tryz.prog 176 2 ⟨K⟩=K 2 ti3:=qr (ti:=Zt) (tf:=ti3) (fo:=(2,3)) (fs:=[(0,22),(1,3),(2,3)]) arz rfl rfl tf3
theorem aOG{K:Nat→Nat→Prop}:qt Tryz.prog [(0,22),(1,3),(2,3)] 2 K=K 2 1:=qq (tf:=ti3) (fo:=(2,3)) (fs:=[(0,22),(1,3),(2,3)]) rfl tf3
theorem aQh:∀f∈([(0,22),(1,3),(2,3)]:List (Nat×Nat)),(qn Tryz.prog f.2).isSome=true:=by
 intro f hf
 simp only[List.mem_cons,List.not_mem_nil,or_false]at hf
 rcases hf with rfl|rfl|rfl
 ·rw[aJr];rfl
 ·rw[tf3];rfl
 ·rw[tf3];rfl
theorem aZH{ps:List (Nat×AV)}{K:AV→Prop}:@q7 Tryz.prog 176 ps ⟨K⟩=@zg (qt Tryz.prog [(0,22),(1,3),(2,3)]) (zc Zt) ps ⟨fun cs=>K (.ag cs)⟩:=qF arz rfl aQh
theorem bci{K:TI→Prop}:@tyW Tryz.prog 177 ⟨K⟩=K Zs:=qh ary
theorem aBF:Zs.kd=Kd.stru [(0,22),(1,3),(2,3)]:=ID rfl
theorem aqe:Zs.kd.agg=true:=ID rfl
theorem aj5:Zs.size=3:=ID rfl
theorem adT:Zs.bytes=40:=ID rfl
theorem aBD:qw Zs=True:=eq_true rfl
theorem aBE:zc Zs=[.v (Value.slice none 0 0),.v (Value.int IntKind.i64 0),.v (Value.int IntKind.i64 0)]:=ID rfl
theorem aG3{K:Nat→TI→Prop}:@qz Tryz.prog 177 0 ⟨K⟩=K 0 agp:=qr (ti:=Zs) (tf:=agp) (fo:=(0,22)) (fs:=[(0,22),(1,3),(2,3)]) ary rfl rfl aJr
theorem aOF{K:Nat→Nat→Prop}:qt Tryz.prog [(0,22),(1,3),(2,3)] 0 K=K 0 1:=qq (tf:=agp) (fo:=(0,22)) (fs:=[(0,22),(1,3),(2,3)]) rfl aJr
theorem aG2{K:Nat→TI→Prop}:@qz Tryz.prog 177 1 ⟨K⟩=K 1 ti3:=qr (ti:=Zs) (tf:=ti3) (fo:=(1,3)) (fs:=[(0,22),(1,3),(2,3)]) ary rfl rfl tf3
theorem aOE{K:Nat→Nat→Prop}:qt Tryz.prog [(0,22),(1,3),(2,3)] 1 K=K 1 1:=qq (tf:=ti3) (fo:=(1,3)) (fs:=[(0,22),(1,3),(2,3)]) rfl tf3
theorem aG1{K:Nat→TI→Prop}:@qz Tryz.prog 177 2 ⟨K⟩=K 2 ti3:=qr (ti:=Zs) (tf:=ti3) (fo:=(2,3)) (fs:=[(0,22),(1,3),(2,3)]) ary rfl rfl tf3
theorem aOD{K:Nat→Nat→Prop}:qt Tryz.prog [(0,22),(1,3),(2,3)] 2 K=K 2 1:=qq (tf:=ti3) (fo:=(2,3)) (fs:=[(0,22),(1,3),(2,3)]) rfl tf3
theorem aQg:∀f∈([(0,22),(1,3),(2,3)]:List (Nat×Nat)),(qn Tryz.prog f.2).isSome=true:=by
 intro f hf
 simp only[List.mem_cons,List.not_mem_nil,or_false]at hf
 rcases hf with rfl|rfl|rfl
 ·rw[aJr];rfl
 ·rw[tf3];rfl
 ·rw[tf3];rfl
theorem aZG{ps:List (Nat×AV)}{K:AV→Prop}:@q7 Tryz.prog 177 ps ⟨K⟩=@zg (qt Tryz.prog [(0,22),(1,3),(2,3)]) (zc Zs) ps ⟨fun cs=>K (.ag cs)⟩:=qF ary rfl aQg
theorem bch{K:TI→Prop}:@tyW Tryz.prog 178 ⟨K⟩=K KC:=qh bfg
theorem aBC:KC.kd=Kd.oth:=ID rfl
theorem aqd:KC.kd.agg=false:=ID rfl
theorem aj4:KC.size=1:=ID rfl
theorem adR:KC.bytes=8:=ID rfl
theorem aBA:qw KC=True:=eq_true rfl
theorem aBB:zc KC=[.v Value.nilFunc]:=ID rfl
theorem bcg{K:TI→Prop}:@tyW Tryz.prog 179 ⟨K⟩=K KB:=qh bff
theorem aBz:KB.kd=Kd.oth:=ID rfl
theorem aqc:KB.kd.agg=false:=ID rfl
theorem aj3:KB.size=1:=ID rfl
theorem adQ:KB.bytes=8:=ID rfl
theorem aBx:qw KB=True:=eq_true rfl
theorem aBy:zc KB=[.v Value.nilFunc]:=ID rfl
theorem bcf{K:TI→Prop}:@tyW Tryz.prog 180 ⟨K⟩=K KA:=qh bfe
theorem aBw:KA.kd=Kd.oth:=ID rfl
theorem aqb:KA.kd.agg=false:=ID rfl
theorem aj2:KA.size=1:=ID rfl
theorem adP:KA.bytes=8:=ID rfl
theorem aBu:qw KA=True:=eq_true rfl
theorem aBv:zc KA=[.v Value.nilFunc]:=ID rfl
theorem bce{K:TI→Prop}:@tyW Tryz.prog 181 ⟨K⟩=K Kw:=qh bfd
theorem aBt:Kw.kd=Kd.oth:=ID rfl
theorem aqa:Kw.kd.agg=false:=ID rfl
theorem aj1:Kw.size=1:=ID rfl
theorem adO:Kw.bytes=8:=ID rfl
theorem aBr:qw Kw=True:=eq_true rfl
theorem aBs:zc Kw=[.v Value.nilFunc]:=ID rfl
theorem bcd{K:TI→Prop}:@tyW Tryz.prog 182 ⟨K⟩=K Kv:=qh bfc
theorem aBq:Kv.kd=Kd.oth:=ID rfl
theorem ap9:Kv.kd.agg=false:=ID rfl
theorem aj0:Kv.size=1:=ID rfl
theorem adN:Kv.bytes=8:=ID rfl
theorem aBo:qw Kv=True:=eq_true rfl
theorem aBp:zc Kv=[.v Value.nilFunc]:=ID rfl
theorem bcc{K:TI→Prop}:@tyW Tryz.prog 183 ⟨K⟩=K Ku:=qh bfb
theorem aBn:Ku.kd=Kd.oth:=ID rfl
theorem ap8:Ku.kd.agg=false:=ID rfl
theorem ajZ:Ku.size=1:=ID rfl
theorem adL:Ku.bytes=8:=ID rfl
theorem aBl:qw Ku=True:=eq_true rfl
theorem aBm:zc Ku=[.v Value.nilFunc]:=ID rfl
theorem bcb{K:TI→Prop}:@tyW Tryz.prog 184 ⟨K⟩=K Kt:=qh bfa
theorem aBk:Kt.kd=Kd.oth:=ID rfl
theorem ap7:Kt.kd.agg=false:=ID rfl
theorem ajY:Kt.size=1:=ID rfl
theorem adK:Kt.bytes=8:=ID rfl
theorem aBi:qw Kt=True:=eq_true rfl
theorem aBj:zc Kt=[.v Value.nilFunc]:=ID rfl
theorem bca{K:TI→Prop}:@tyW Tryz.prog 185 ⟨K⟩=K Ks:=qh be9
theorem aBh:Ks.kd=Kd.oth:=ID rfl
theorem ap6:Ks.kd.agg=false:=ID rfl
theorem ajX:Ks.size=1:=ID rfl
theorem adJ:Ks.bytes=8:=ID rfl
theorem aBf:qw Ks=True:=eq_true rfl
theorem aBg:zc Ks=[.v Value.nilFunc]:=ID rfl
theorem bb9{K:TI→Prop}:@tyW Tryz.prog 186 ⟨K⟩=K Kr:=qh be8
theorem aBe:Kr.kd=Kd.oth:=ID rfl
theorem ap5:Kr.kd.agg=false:=ID rfl
theorem ajW:Kr.size=1:=ID rfl
theorem adI:Kr.bytes=8:=ID rfl
theorem aBc:qw Kr=True:=eq_true rfl
theorem aBd:zc Kr=[.v Value.nilFunc]:=ID rfl
theorem bb8{K:TI→Prop}:@tyW Tryz.prog 188 ⟨K⟩=K Kq:=qh be7
theorem aBb:Kq.kd=Kd.oth:=ID rfl
theorem ap4:Kq.kd.agg=false:=ID rfl
theorem ajV:Kq.size=1:=ID rfl
theorem adH:Kq.bytes=8:=ID rfl
theorem aA9:qw Kq=True:=eq_true rfl
theorem aBa:zc Kq=[.v Value.nilFunc]:=ID rfl
theorem bb7{K:TI→Prop}:@tyW Tryz.prog 189 ⟨K⟩=K Kp:=qh be6
theorem aA8:Kp.kd=Kd.oth:=ID rfl
theorem ap3:Kp.kd.agg=false:=ID rfl
theorem ajU:Kp.size=1:=ID rfl
theorem adG:Kp.bytes=8:=ID rfl
theorem aA6:qw Kp=True:=eq_true rfl
theorem aA7:zc Kp=[.v Value.nilFunc]:=ID rfl
theorem bb6{K:TI→Prop}:@tyW Tryz.prog 190 ⟨K⟩=K Ko:=qh be5
theorem aA5:Ko.kd=Kd.oth:=ID rfl
theorem ap2:Ko.kd.agg=false:=ID rfl
theorem ajT:Ko.size=1:=ID rfl
theorem adF:Ko.bytes=8:=ID rfl
theorem aA3:qw Ko=True:=eq_true rfl
theorem aA4:zc Ko=[.v Value.nilFunc]:=ID rfl
theorem bb5{K:TI→Prop}:@tyW Tryz.prog 191 ⟨K⟩=K Kn:=qh be4
theorem aA2:Kn.kd=Kd.oth:=ID rfl
theorem ap1:Kn.kd.agg=false:=ID rfl
theorem ajS:Kn.size=1:=ID rfl
theorem adE:Kn.bytes=8:=ID rfl
theorem aA0:qw Kn=True:=eq_true rfl
theorem aA1:zc Kn=[.v Value.nilFunc]:=ID rfl
theorem bb4{K:TI→Prop}:@tyW Tryz.prog 192 ⟨K⟩=K Km:=qh be3
theorem aAZ:Km.kd=Kd.oth:=ID rfl
theorem ap0:Km.kd.agg=false:=ID rfl
theorem ajR:Km.size=1:=ID rfl
theorem adD:Km.bytes=8:=ID rfl
theorem aAX:qw Km=True:=eq_true rfl
theorem aAY:zc Km=[.v Value.nilFunc]:=ID rfl
theorem bb3{K:TI→Prop}:@tyW Tryz.prog 193 ⟨K⟩=K Kl:=qh be2
theorem aAW:Kl.kd=Kd.oth:=ID rfl
theorem apZ:Kl.kd.agg=false:=ID rfl
theorem ajQ:Kl.size=1:=ID rfl
theorem adC:Kl.bytes=8:=ID rfl
theorem aAU:qw Kl=True:=eq_true rfl
theorem aAV:zc Kl=[.v Value.nilFunc]:=ID rfl
theorem bb2{K:TI→Prop}:@tyW Tryz.prog 194 ⟨K⟩=K Kk:=qh be1
theorem aAT:Kk.kd=Kd.oth:=ID rfl
theorem apY:Kk.kd.agg=false:=ID rfl
theorem ajP:Kk.size=1:=ID rfl
theorem adB:Kk.bytes=8:=ID rfl
theorem aAR:qw Kk=True:=eq_true rfl
theorem aAS:zc Kk=[.v Value.nilFunc]:=ID rfl
theorem bb1{K:TI→Prop}:@tyW Tryz.prog 195 ⟨K⟩=K Kj:=qh aS6
theorem aAQ:Kj.kd=Kd.sli 108:=ID rfl
theorem apX:Kj.kd.agg=false:=ID rfl
theorem ajO:Kj.size=1:=ID rfl
theorem adA:Kj.bytes=24:=ID rfl
theorem aAO:qw Kj=True:=eq_true rfl
theorem aAP:zc Kj=[.v (Value.slice none 0 0)]:=ID rfl
theorem aTn{K:TI→Prop}:@y3 Tryz.prog 195 ⟨K⟩=K Qd:=Zi aS6 rfl YM
theorem bb0{K:TI→Prop}:@tyW Tryz.prog 196 ⟨K⟩=K Ki:=qh be0
theorem aAN:Ki.kd=Kd.oth:=ID rfl
theorem apW:Ki.kd.agg=false:=ID rfl
theorem ajN:Ki.size=1:=ID rfl
theorem adz:Ki.bytes=8:=ID rfl
theorem aAL:qw Ki=True:=eq_true rfl
theorem aAM:zc Ki=[.v Value.nilFunc]:=ID rfl
theorem bbZ{K:TI→Prop}:@tyW Tryz.prog 197 ⟨K⟩=K Kh:=qh beZ
theorem aAK:Kh.kd=Kd.oth:=ID rfl
theorem apV:Kh.kd.agg=false:=ID rfl
theorem ajM:Kh.size=1:=ID rfl
theorem ady:Kh.bytes=8:=ID rfl
theorem aAI:qw Kh=True:=eq_true rfl
theorem aAJ:zc Kh=[.v Value.nilFunc]:=ID rfl
theorem bbY{K:TI→Prop}:@tyW Tryz.prog 198 ⟨K⟩=K Kg:=qh beY
theorem aAH:Kg.kd=Kd.oth:=ID rfl
theorem apU:Kg.kd.agg=false:=ID rfl
theorem ajL:Kg.size=1:=ID rfl
theorem adx:Kg.bytes=8:=ID rfl
theorem aAF:qw Kg=True:=eq_true rfl
theorem aAG:zc Kg=[.v Value.nilFunc]:=ID rfl
theorem bbX{K:TI→Prop}:@tyW Tryz.prog 200 ⟨K⟩=K Kf:=qh beX
theorem aAD:Kf.kd=Kd.oth:=ID rfl
theorem apS:Kf.kd.agg=false:=ID rfl
theorem ajK:Kf.size=1:=ID rfl
theorem adw:Kf.bytes=8:=ID rfl
theorem aAB:qw Kf=True:=eq_true rfl
theorem aAC:zc Kf=[.v Value.nilFunc]:=ID rfl
theorem bbW{K:TI→Prop}:@tyW Tryz.prog 201 ⟨K⟩=K Ke:=qh beW
theorem aAA:Ke.kd=Kd.oth:=ID rfl
theorem apR:Ke.kd.agg=false:=ID rfl
theorem ajJ:Ke.size=1:=ID rfl
theorem adv:Ke.bytes=8:=ID rfl
theorem aAy:qw Ke=True:=eq_true rfl
theorem aAz:zc Ke=[.v Value.nilFunc]:=ID rfl
theorem bbV{K:TI→Prop}:@tyW Tryz.prog 202 ⟨K⟩=K Kc:=qh beV
theorem aAx:Kc.kd=Kd.oth:=ID rfl
theorem apQ:Kc.kd.agg=false:=ID rfl
theorem ajI:Kc.size=1:=ID rfl
theorem adu:Kc.bytes=8:=ID rfl
theorem aAv:qw Kc=True:=eq_true rfl
theorem aAw:zc Kc=[.v Value.nilFunc]:=ID rfl
theorem bbU{K:TI→Prop}:@tyW Tryz.prog 204 ⟨K⟩=K Kb:=qh beU
theorem aAu:Kb.kd=Kd.oth:=ID rfl
theorem apP:Kb.kd.agg=false:=ID rfl
theorem ajH:Kb.size=1:=ID rfl
theorem adt:Kb.bytes=8:=ID rfl
theorem aAs:qw Kb=True:=eq_true rfl
theorem aAt:zc Kb=[.v Value.nilFunc]:=ID rfl
theorem bbT{K:TI→Prop}:@tyW Tryz.prog 206 ⟨K⟩=K Ka:=qh beT
theorem aAr:Ka.kd=Kd.oth:=ID rfl
theorem apO:Ka.kd.agg=false:=ID rfl
theorem ajG:Ka.size=1:=ID rfl
theorem ads:Ka.bytes=8:=ID rfl
theorem aAp:qw Ka=True:=eq_true rfl
theorem aAq:zc Ka=[.v Value.nilFunc]:=ID rfl
theorem bbS{K:TI→Prop}:@tyW Tryz.prog 207 ⟨K⟩=K V9:=qh beS
theorem aAo:V9.kd=Kd.oth:=ID rfl
theorem apN:V9.kd.agg=false:=ID rfl
theorem ajF:V9.size=1:=ID rfl
theorem adr:V9.bytes=8:=ID rfl
theorem aAm:qw V9=True:=eq_true rfl
theorem aAn:zc V9=[.v Value.nilFunc]:=ID rfl
theorem bbR{K:TI→Prop}:@tyW Tryz.prog 208 ⟨K⟩=K V8:=qh beR
theorem aAl:V8.kd=Kd.oth:=ID rfl
theorem apM:V8.kd.agg=false:=ID rfl
theorem ajE:V8.size=1:=ID rfl
theorem adq:V8.bytes=8:=ID rfl
theorem aAj:qw V8=True:=eq_true rfl
theorem aAk:zc V8=[.v Value.nilFunc]:=ID rfl
theorem bbQ{K:TI→Prop}:@tyW Tryz.prog 209 ⟨K⟩=K V7:=qh beQ
theorem aAi:V7.kd=Kd.oth:=ID rfl
theorem apL:V7.kd.agg=false:=ID rfl
theorem ajD:V7.size=1:=ID rfl
theorem adp:V7.bytes=8:=ID rfl
theorem aAg:qw V7=True:=eq_true rfl
theorem aAh:zc V7=[.v Value.nilFunc]:=ID rfl
theorem bbP{K:TI→Prop}:@tyW Tryz.prog 210 ⟨K⟩=K V6:=qh beP
theorem aAf:V6.kd=Kd.oth:=ID rfl
theorem apK:V6.kd.agg=false:=ID rfl
theorem ajC:V6.size=1:=ID rfl
theorem ado:V6.bytes=8:=ID rfl
theorem aAd:qw V6=True:=eq_true rfl
theorem aAe:zc V6=[.v Value.nilFunc]:=ID rfl
theorem bbO{K:TI→Prop}:@tyW Tryz.prog 211 ⟨K⟩=K V5:=qh beO
theorem aAc:V5.kd=Kd.oth:=ID rfl
theorem apJ:V5.kd.agg=false:=ID rfl
theorem ajB:V5.size=1:=ID rfl
theorem adn:V5.bytes=8:=ID rfl
theorem aAa:qw V5=True:=eq_true rfl
theorem aAb:zc V5=[.v Value.nilFunc]:=ID rfl
theorem bbN{K:TI→Prop}:@tyW Tryz.prog 213 ⟨K⟩=K V4:=qh beN
theorem az9:V4.kd=Kd.oth:=ID rfl
theorem apI:V4.kd.agg=false:=ID rfl
theorem ajA:V4.size=1:=ID rfl
theorem adm:V4.bytes=8:=ID rfl
theorem az7:qw V4=True:=eq_true rfl
theorem az8:zc V4=[.v Value.nilFunc]:=ID rfl
theorem bbM{K:TI→Prop}:@tyW Tryz.prog 214 ⟨K⟩=K V3:=qh beM
theorem az6:V3.kd=Kd.oth:=ID rfl
theorem apH:V3.kd.agg=false:=ID rfl
theorem ajz:V3.size=1:=ID rfl
theorem adl:V3.bytes=8:=ID rfl
theorem az4:qw V3=True:=eq_true rfl
theorem az5:zc V3=[.v Value.nilFunc]:=ID rfl
theorem bbL{K:TI→Prop}:@tyW Tryz.prog 215 ⟨K⟩=K V2:=qh beL
theorem az3:V2.kd=Kd.oth:=ID rfl
theorem apG:V2.kd.agg=false:=ID rfl
theorem ajy:V2.size=1:=ID rfl
theorem adk:V2.bytes=8:=ID rfl
theorem az1:qw V2=True:=eq_true rfl
theorem az2:zc V2=[.v Value.nilFunc]:=ID rfl
theorem bbK{K:TI→Prop}:@tyW Tryz.prog 216 ⟨K⟩=K V1:=qh beK
theorem az0:V1.kd=Kd.oth:=ID rfl
theorem apF:V1.kd.agg=false:=ID rfl
theorem ajx:V1.size=1:=ID rfl
theorem adj:V1.bytes=8:=ID rfl
theorem azY:qw V1=True:=eq_true rfl
theorem azZ:zc V1=[.v Value.nilFunc]:=ID rfl
theorem bbJ{K:TI→Prop}:@tyW Tryz.prog 217 ⟨K⟩=K V0:=qh beJ
theorem azX:V0.kd=Kd.oth:=ID rfl
theorem apD:V0.kd.agg=false:=ID rfl
theorem ajw:V0.size=1:=ID rfl
theorem adi:V0.bytes=8:=ID rfl
theorem azV:qw V0=True:=eq_true rfl
theorem azW:zc V0=[.v Value.nilFunc]:=ID rfl
theorem bbI{K:TI→Prop}:@tyW Tryz.prog 218 ⟨K⟩=K VZ:=qh beI
theorem azU:VZ.kd=Kd.oth:=ID rfl
theorem apC:VZ.kd.agg=false:=ID rfl
theorem ajv:VZ.size=1:=ID rfl
theorem adh:VZ.bytes=8:=ID rfl
theorem azS:qw VZ=True:=eq_true rfl
theorem azT:zc VZ=[.v Value.nilFunc]:=ID rfl
theorem bbH{K:TI→Prop}:@tyW Tryz.prog 219 ⟨K⟩=K VY:=qh beH
theorem azR:VY.kd=Kd.oth:=ID rfl
theorem apB:VY.kd.agg=false:=ID rfl
theorem aju:VY.size=1:=ID rfl
theorem adg:VY.bytes=8:=ID rfl
theorem azP:qw VY=True:=eq_true rfl
theorem azQ:zc VY=[.v Value.nilFunc]:=ID rfl
theorem bbG{K:TI→Prop}:@tyW Tryz.prog 220 ⟨K⟩=K VX:=qh beG
theorem azN:VX.kd=Kd.oth:=ID rfl
theorem apz:VX.kd.agg=false:=ID rfl
theorem ajs:VX.size=1:=ID rfl
theorem adf:VX.bytes=8:=ID rfl
theorem azL:qw VX=True:=eq_true rfl
theorem azM:zc VX=[.v Value.nilFunc]:=ID rfl
theorem bbF{K:TI→Prop}:@tyW Tryz.prog 221 ⟨K⟩=K VW:=qh beF
theorem azK:VW.kd=Kd.oth:=ID rfl
theorem apy:VW.kd.agg=false:=ID rfl
theorem ajr:VW.size=1:=ID rfl
theorem ade:VW.bytes=8:=ID rfl
theorem azI:qw VW=True:=eq_true rfl
theorem azJ:zc VW=[.v Value.nilFunc]:=ID rfl
theorem bbE{K:TI→Prop}:@tyW Tryz.prog 222 ⟨K⟩=K VV:=qh beE
theorem azH:VV.kd=Kd.oth:=ID rfl
theorem apx:VV.kd.agg=false:=ID rfl
theorem ajq:VV.size=1:=ID rfl
theorem adc:VV.bytes=8:=ID rfl
theorem azF:qw VV=True:=eq_true rfl
theorem azG:zc VV=[.v Value.nilFunc]:=ID rfl
theorem bbD{K:TI→Prop}:@tyW Tryz.prog 223 ⟨K⟩=K VU:=qh beD
theorem azE:VU.kd=Kd.oth:=ID rfl
theorem apw:VU.kd.agg=false:=ID rfl
theorem ajp:VU.size=1:=ID rfl
theorem adb:VU.bytes=8:=ID rfl
theorem azC:qw VU=True:=eq_true rfl
theorem azD:zc VU=[.v Value.nilFunc]:=ID rfl
theorem bbC{K:TI→Prop}:@tyW Tryz.prog 224 ⟨K⟩=K VT:=qh beC
theorem azB:VT.kd=Kd.oth:=ID rfl
theorem apv:VT.kd.agg=false:=ID rfl
theorem ajo:VT.size=1:=ID rfl
theorem ada:VT.bytes=8:=ID rfl
theorem azz:qw VT=True:=eq_true rfl
theorem azA:zc VT=[.v Value.nilFunc]:=ID rfl
theorem bbB{K:TI→Prop}:@tyW Tryz.prog 225 ⟨K⟩=K VS:=qh beB
theorem azy:VS.kd=Kd.oth:=ID rfl
theorem apu:VS.kd.agg=false:=ID rfl
theorem ajn:VS.size=1:=ID rfl
theorem ac9:VS.bytes=8:=ID rfl
theorem azw:qw VS=True:=eq_true rfl
theorem azx:zc VS=[.v Value.nilFunc]:=ID rfl
theorem bbA{K:TI→Prop}:@tyW Tryz.prog 226 ⟨K⟩=K VR:=qh beA
theorem azv:VR.kd=Kd.oth:=ID rfl
theorem apt:VR.kd.agg=false:=ID rfl
theorem ajm:VR.size=1:=ID rfl
theorem ac8:VR.bytes=8:=ID rfl
theorem azt:qw VR=True:=eq_true rfl
theorem azu:zc VR=[.v Value.nilFunc]:=ID rfl
theorem bbz{K:TI→Prop}:@tyW Tryz.prog 227 ⟨K⟩=K VQ:=qh bez
theorem azs:VQ.kd=Kd.oth:=ID rfl
theorem apr:VQ.kd.agg=false:=ID rfl
theorem ajl:VQ.size=1:=ID rfl
theorem ac7:VQ.bytes=8:=ID rfl
theorem azq:qw VQ=True:=eq_true rfl
theorem azr:zc VQ=[.v Value.nilFunc]:=ID rfl
theorem bby{K:TI→Prop}:@tyW Tryz.prog 228 ⟨K⟩=K VP:=qh bey
theorem azp:VP.kd=Kd.oth:=ID rfl
theorem apq:VP.kd.agg=false:=ID rfl
theorem ajk:VP.size=1:=ID rfl
theorem ac6:VP.bytes=8:=ID rfl
theorem azn:qw VP=True:=eq_true rfl
theorem azo:zc VP=[.v Value.nilFunc]:=ID rfl
theorem bbx{K:TI→Prop}:@tyW Tryz.prog 229 ⟨K⟩=K VO:=qh bex
theorem azm:VO.kd=Kd.oth:=ID rfl
theorem app:VO.kd.agg=false:=ID rfl
theorem ajj:VO.size=1:=ID rfl
theorem ac5:VO.bytes=8:=ID rfl
theorem azk:qw VO=True:=eq_true rfl
theorem azl:zc VO=[.v Value.nilFunc]:=ID rfl
theorem bbw{K:TI→Prop}:@tyW Tryz.prog 230 ⟨K⟩=K VN:=qh bew
theorem azi:VN.kd=Kd.oth:=ID rfl
theorem apn:VN.kd.agg=false:=ID rfl
theorem ajh:VN.size=1:=ID rfl
theorem ac4:VN.bytes=8:=ID rfl
theorem azg:qw VN=True:=eq_true rfl
theorem azh:zc VN=[.v Value.nilFunc]:=ID rfl
theorem bbv{K:TI→Prop}:@tyW Tryz.prog 231 ⟨K⟩=K VM:=qh bev
theorem azf:VM.kd=Kd.oth:=ID rfl
theorem apm:VM.kd.agg=false:=ID rfl
theorem ajg:VM.size=1:=ID rfl
theorem ac3:VM.bytes=8:=ID rfl
theorem azd:qw VM=True:=eq_true rfl
theorem aze:zc VM=[.v Value.nilFunc]:=ID rfl
theorem bbu{K:TI→Prop}:@tyW Tryz.prog 233 ⟨K⟩=K VL:=qh beu
theorem azc:VL.kd=Kd.oth:=ID rfl
theorem apl:VL.kd.agg=false:=ID rfl
theorem ajf:VL.size=1:=ID rfl
theorem ac2:VL.bytes=8:=ID rfl
theorem aza:qw VL=True:=eq_true rfl
theorem azb:zc VL=[.v Value.nilFunc]:=ID rfl
theorem bbt{K:TI→Prop}:@tyW Tryz.prog 234 ⟨K⟩=K VK:=qh bet
theorem ay9:VK.kd=Kd.oth:=ID rfl
theorem apk:VK.kd.agg=false:=ID rfl
theorem aje:VK.size=1:=ID rfl
theorem ac1:VK.bytes=8:=ID rfl
theorem ay7:qw VK=True:=eq_true rfl
theorem ay8:zc VK=[.v Value.nilFunc]:=ID rfl
theorem bbs{K:TI→Prop}:@tyW Tryz.prog 235 ⟨K⟩=K VJ:=qh bes
theorem ay6:VJ.kd=Kd.oth:=ID rfl
theorem apj:VJ.kd.agg=false:=ID rfl
theorem ajd:VJ.size=1:=ID rfl
theorem ac0:VJ.bytes=8:=ID rfl
theorem ay4:qw VJ=True:=eq_true rfl
theorem ay5:zc VJ=[.v Value.nilFunc]:=ID rfl
theorem bbr{K:TI→Prop}:@tyW Tryz.prog 236 ⟨K⟩=K VI:=qh ber
theorem ay3:VI.kd=Kd.oth:=ID rfl
theorem api:VI.kd.agg=false:=ID rfl
theorem ajc:VI.size=1:=ID rfl
theorem acZ:VI.bytes=8:=ID rfl
theorem ay1:qw VI=True:=eq_true rfl
theorem ay2:zc VI=[.v Value.nilFunc]:=ID rfl
theorem bbq{K:TI→Prop}:@tyW Tryz.prog 237 ⟨K⟩=K VH:=qh bep
theorem ay0:VH.kd=Kd.oth:=ID rfl
theorem aph:VH.kd.agg=false:=ID rfl
theorem ajb:VH.size=1:=ID rfl
theorem acY:VH.bytes=8:=ID rfl
theorem ayY:qw VH=True:=eq_true rfl
theorem ayZ:zc VH=[.v Value.nilFunc]:=ID rfl
theorem bbp{K:TI→Prop}:@tyW Tryz.prog 238 ⟨K⟩=K VG:=qh beo
theorem ayX:VG.kd=Kd.oth:=ID rfl
theorem apg:VG.kd.agg=false:=ID rfl
theorem aja:VG.size=1:=ID rfl
theorem acX:VG.bytes=8:=ID rfl
theorem ayV:qw VG=True:=eq_true rfl
theorem ayW:zc VG=[.v Value.nilFunc]:=ID rfl
theorem bbo{K:TI→Prop}:@tyW Tryz.prog 239 ⟨K⟩=K VF:=qh ben
theorem ayU:VF.kd=Kd.oth:=ID rfl
theorem apf:VF.kd.agg=false:=ID rfl
theorem ai9:VF.size=1:=ID rfl
theorem acW:VF.bytes=8:=ID rfl
theorem ayS:qw VF=True:=eq_true rfl
theorem ayT:zc VF=[.v Value.nilFunc]:=ID rfl
theorem bbn{K:TI→Prop}:@tyW Tryz.prog 240 ⟨K⟩=K VE:=qh bem
theorem ayQ:VE.kd=Kd.oth:=ID rfl
theorem apc:VE.kd.agg=false:=ID rfl
theorem ai7:VE.size=1:=ID rfl
theorem acV:VE.bytes=8:=ID rfl
theorem ayO:qw VE=True:=eq_true rfl
theorem ayP:zc VE=[.v Value.nilFunc]:=ID rfl
theorem bbm{K:TI→Prop}:@tyW Tryz.prog 241 ⟨K⟩=K VD:=qh bel
theorem ayN:VD.kd=Kd.oth:=ID rfl
theorem apb:VD.kd.agg=false:=ID rfl
theorem ai6:VD.size=1:=ID rfl
theorem acU:VD.bytes=8:=ID rfl
theorem ayL:qw VD=True:=eq_true rfl
theorem ayM:zc VD=[.v Value.nilFunc]:=ID rfl
theorem bbl{K:TI→Prop}:@tyW Tryz.prog 242 ⟨K⟩=K VC:=qh bek
theorem ayK:VC.kd=Kd.oth:=ID rfl
theorem apa:VC.kd.agg=false:=ID rfl
theorem ai5:VC.size=1:=ID rfl
theorem acT:VC.bytes=8:=ID rfl
theorem ayI:qw VC=True:=eq_true rfl
theorem ayJ:zc VC=[.v Value.nilFunc]:=ID rfl
theorem bbk{K:TI→Prop}:@tyW Tryz.prog 243 ⟨K⟩=K VB:=qh bej
theorem ayH:VB.kd=Kd.oth:=ID rfl
theorem ao9:VB.kd.agg=false:=ID rfl
theorem ai4:VB.size=1:=ID rfl
theorem acS:VB.bytes=8:=ID rfl
theorem ayF:qw VB=True:=eq_true rfl
theorem ayG:zc VB=[.v Value.nilFunc]:=ID rfl
theorem bbj{K:TI→Prop}:@tyW Tryz.prog 244 ⟨K⟩=K VA:=qh bei
theorem ayE:VA.kd=Kd.oth:=ID rfl
theorem ao8:VA.kd.agg=false:=ID rfl
theorem ai3:VA.size=1:=ID rfl
theorem acR:VA.bytes=8:=ID rfl
theorem ayC:qw VA=True:=eq_true rfl
theorem ayD:zc VA=[.v Value.nilFunc]:=ID rfl
theorem bbi{K:TI→Prop}:@tyW Tryz.prog 245 ⟨K⟩=K Vz:=qh beh
theorem ayB:Vz.kd=Kd.oth:=ID rfl
theorem ao7:Vz.kd.agg=false:=ID rfl
theorem ai2:Vz.size=1:=ID rfl
theorem acQ:Vz.bytes=8:=ID rfl
theorem ayz:qw Vz=True:=eq_true rfl
theorem ayA:zc Vz=[.v Value.nilFunc]:=ID rfl
theorem bbh{K:TI→Prop}:@tyW Tryz.prog 246 ⟨K⟩=K Vy:=qh beg
theorem ayy:Vy.kd=Kd.oth:=ID rfl
theorem ao6:Vy.kd.agg=false:=ID rfl
theorem ai1:Vy.size=1:=ID rfl
theorem acP:Vy.bytes=8:=ID rfl
theorem ayw:qw Vy=True:=eq_true rfl
theorem ayx:zc Vy=[.v Value.nilFunc]:=ID rfl
theorem bbg{K:TI→Prop}:@tyW Tryz.prog 247 ⟨K⟩=K Vx:=qh bef
theorem ayv:Vx.kd=Kd.oth:=ID rfl
theorem ao5:Vx.kd.agg=false:=ID rfl
theorem ai0:Vx.size=1:=ID rfl
theorem acO:Vx.bytes=8:=ID rfl
theorem ayt:qw Vx=True:=eq_true rfl
theorem ayu:zc Vx=[.v Value.nilFunc]:=ID rfl
theorem bbf{K:TI→Prop}:@tyW Tryz.prog 248 ⟨K⟩=K Vw:=qh bee
theorem ays:Vw.kd=Kd.oth:=ID rfl
theorem ao4:Vw.kd.agg=false:=ID rfl
theorem aiZ:Vw.size=1:=ID rfl
theorem acN:Vw.bytes=8:=ID rfl
theorem ayq:qw Vw=True:=eq_true rfl
theorem ayr:zc Vw=[.v Value.nilFunc]:=ID rfl
theorem bbe{K:TI→Prop}:@tyW Tryz.prog 250 ⟨K⟩=K Vv:=qh bed
theorem ayo:Vv.kd=Kd.oth:=ID rfl
theorem ao1:Vv.kd.agg=false:=ID rfl
theorem aiX:Vv.size=1:=ID rfl
theorem acM:Vv.bytes=8:=ID rfl
theorem aym:qw Vv=True:=eq_true rfl
theorem ayn:zc Vv=[.v Value.nilFunc]:=ID rfl
theorem bbd{K:TI→Prop}:@tyW Tryz.prog 252 ⟨K⟩=K Vu:=qh bec
theorem ayl:Vu.kd=Kd.oth:=ID rfl
theorem ao0:Vu.kd.agg=false:=ID rfl
theorem aiW:Vu.size=1:=ID rfl
theorem acL:Vu.bytes=8:=ID rfl
theorem ayj:qw Vu=True:=eq_true rfl
theorem ayk:zc Vu=[.v Value.nilFunc]:=ID rfl
theorem bbc{K:TI→Prop}:@tyW Tryz.prog 253 ⟨K⟩=K Vt:=qh beb
theorem ayi:Vt.kd=Kd.oth:=ID rfl
theorem aoZ:Vt.kd.agg=false:=ID rfl
theorem aiV:Vt.size=1:=ID rfl
theorem acK:Vt.bytes=8:=ID rfl
theorem ayg:qw Vt=True:=eq_true rfl
theorem ayh:zc Vt=[.v Value.nilFunc]:=ID rfl
theorem bbb{K:TI→Prop}:@tyW Tryz.prog 254 ⟨K⟩=K Vs:=qh bea
theorem ayf:Vs.kd=Kd.oth:=ID rfl
theorem aoY:Vs.kd.agg=false:=ID rfl
theorem aiU:Vs.size=1:=ID rfl
theorem acJ:Vs.bytes=8:=ID rfl
theorem ayd:qw Vs=True:=eq_true rfl
theorem aye:zc Vs=[.v Value.nilFunc]:=ID rfl
theorem bba{K:TI→Prop}:@tyW Tryz.prog 255 ⟨K⟩=K Vr:=qh bd9
theorem ayc:Vr.kd=Kd.oth:=ID rfl
theorem aoX:Vr.kd.agg=false:=ID rfl
theorem aiT:Vr.size=1:=ID rfl
theorem acI:Vr.bytes=8:=ID rfl
theorem aya:qw Vr=True:=eq_true rfl
theorem ayb:zc Vr=[.v Value.nilFunc]:=ID rfl
theorem ba9{K:TI→Prop}:@tyW Tryz.prog 256 ⟨K⟩=K Vq:=qh bd8
theorem ax9:Vq.kd=Kd.oth:=ID rfl
theorem aoW:Vq.kd.agg=false:=ID rfl
theorem aiS:Vq.size=1:=ID rfl
theorem acH:Vq.bytes=8:=ID rfl
theorem ax7:qw Vq=True:=eq_true rfl
theorem ax8:zc Vq=[.v Value.nilFunc]:=ID rfl
theorem ba8{K:TI→Prop}:@tyW Tryz.prog 257 ⟨K⟩=K Vp:=qh bd7
theorem ax6:Vp.kd=Kd.oth:=ID rfl
theorem aoV:Vp.kd.agg=false:=ID rfl
theorem aiR:Vp.size=1:=ID rfl
theorem acG:Vp.bytes=8:=ID rfl
theorem ax4:qw Vp=True:=eq_true rfl
theorem ax5:zc Vp=[.v Value.nilFunc]:=ID rfl
theorem ba7{K:TI→Prop}:@tyW Tryz.prog 258 ⟨K⟩=K Vo:=qh bd6
theorem ax3:Vo.kd=Kd.oth:=ID rfl
theorem aoU:Vo.kd.agg=false:=ID rfl
theorem aiQ:Vo.size=1:=ID rfl
theorem acF:Vo.bytes=8:=ID rfl
theorem ax1:qw Vo=True:=eq_true rfl
theorem ax2:zc Vo=[.v Value.nilFunc]:=ID rfl
theorem ba6{K:TI→Prop}:@tyW Tryz.prog 259 ⟨K⟩=K Vn:=qh bd5
theorem ax0:Vn.kd=Kd.oth:=ID rfl
theorem aoT:Vn.kd.agg=false:=ID rfl
theorem aiP:Vn.size=1:=ID rfl
theorem acE:Vn.bytes=8:=ID rfl
theorem axY:qw Vn=True:=eq_true rfl
theorem axZ:zc Vn=[.v Value.nilFunc]:=ID rfl
theorem ba5{K:TI→Prop}:@tyW Tryz.prog 260 ⟨K⟩=K Vm:=qh bd4
theorem axW:Vm.kd=Kd.oth:=ID rfl
theorem aoR:Vm.kd.agg=false:=ID rfl
theorem aiN:Vm.size=1:=ID rfl
theorem acD:Vm.bytes=8:=ID rfl
theorem axU:qw Vm=True:=eq_true rfl
theorem axV:zc Vm=[.v Value.nilFunc]:=ID rfl
theorem ba4{K:TI→Prop}:@tyW Tryz.prog 261 ⟨K⟩=K Vl:=qh bd3
theorem axT:Vl.kd=Kd.oth:=ID rfl
theorem aoQ:Vl.kd.agg=false:=ID rfl
theorem aiM:Vl.size=1:=ID rfl
theorem acC:Vl.bytes=8:=ID rfl
theorem axR:qw Vl=True:=eq_true rfl
theorem axS:zc Vl=[.v Value.nilFunc]:=ID rfl
theorem ba3{K:TI→Prop}:@tyW Tryz.prog 262 ⟨K⟩=K Vk:=qh bd2
theorem axQ:Vk.kd=Kd.oth:=ID rfl
theorem aoP:Vk.kd.agg=false:=ID rfl
theorem aiL:Vk.size=1:=ID rfl
theorem acB:Vk.bytes=8:=ID rfl
theorem axO:qw Vk=True:=eq_true rfl
theorem axP:zc Vk=[.v Value.nilFunc]:=ID rfl
theorem ba2{K:TI→Prop}:@tyW Tryz.prog 263 ⟨K⟩=K Vj:=qh bd1
theorem axN:Vj.kd=Kd.oth:=ID rfl
theorem aoO:Vj.kd.agg=false:=ID rfl
theorem aiK:Vj.size=1:=ID rfl
theorem acA:Vj.bytes=8:=ID rfl
theorem axL:qw Vj=True:=eq_true rfl
theorem axM:zc Vj=[.v Value.nilFunc]:=ID rfl
theorem ba1{K:TI→Prop}:@tyW Tryz.prog 264 ⟨K⟩=K Vi:=qh bd0
theorem axK:Vi.kd=Kd.int IntKind.u64:=ID rfl
theorem aoN:Vi.kd.agg=false:=ID rfl
theorem aiJ:Vi.size=1:=ID rfl
theorem acz:Vi.bytes=8:=ID rfl
theorem axI:qw Vi=True:=eq_true rfl
theorem axJ:zc Vi=[.v (Value.int IntKind.u64 0)]:=ID rfl
theorem ba0{K:TI→Prop}:@tyW Tryz.prog 265 ⟨K⟩=K Vh:=qh bdZ
theorem axH:Vh.kd=Kd.oth:=ID rfl
theorem aoM:Vh.kd.agg=false:=ID rfl
theorem aiI:Vh.size=1:=ID rfl
theorem acy:Vh.bytes=8:=ID rfl
theorem axF:qw Vh=True:=eq_true rfl
theorem axG:zc Vh=[.v Value.nilFunc]:=ID rfl
theorem baZ{K:TI→Prop}:@tyW Tryz.prog 266 ⟨K⟩=K Vg:=qh bdY
theorem axE:Vg.kd=Kd.oth:=ID rfl
theorem aoL:Vg.kd.agg=false:=ID rfl
theorem aiH:Vg.size=1:=ID rfl
theorem acx:Vg.bytes=8:=ID rfl
theorem axC:qw Vg=True:=eq_true rfl
theorem axD:zc Vg=[.v Value.nilFunc]:=ID rfl
theorem baY{K:TI→Prop}:@tyW Tryz.prog 267 ⟨K⟩=K Vf:=qh bdX
theorem axB:Vf.kd=Kd.oth:=ID rfl
theorem aoK:Vf.kd.agg=false:=ID rfl
theorem aiG:Vf.size=1:=ID rfl
theorem acw:Vf.bytes=8:=ID rfl
theorem axz:qw Vf=True:=eq_true rfl
theorem axA:zc Vf=[.v Value.nilFunc]:=ID rfl
theorem baX{K:TI→Prop}:@tyW Tryz.prog 269 ⟨K⟩=K Ve:=qh bdW
theorem axy:Ve.kd=Kd.oth:=ID rfl
theorem aoJ:Ve.kd.agg=false:=ID rfl
theorem aiF:Ve.size=1:=ID rfl
theorem acv:Ve.bytes=8:=ID rfl
theorem axw:qw Ve=True:=eq_true rfl
theorem axx:zc Ve=[.v Value.nilFunc]:=ID rfl
theorem baW{K:TI→Prop}:@tyW Tryz.prog 271 ⟨K⟩=K Vd:=qh bdV
theorem axv:Vd.kd=Kd.oth:=ID rfl
theorem aoI:Vd.kd.agg=false:=ID rfl
theorem aiE:Vd.size=1:=ID rfl
theorem acu:Vd.bytes=8:=ID rfl
theorem axt:qw Vd=True:=eq_true rfl
theorem axu:zc Vd=[.v Value.nilFunc]:=ID rfl
theorem baV{K:TI→Prop}:@tyW Tryz.prog 273 ⟨K⟩=K Vc:=qh bdU
theorem axs:Vc.kd=Kd.oth:=ID rfl
theorem aoH:Vc.kd.agg=false:=ID rfl
theorem aiD:Vc.size=1:=ID rfl
theorem act:Vc.bytes=8:=ID rfl
theorem axq:qw Vc=True:=eq_true rfl
theorem axr:zc Vc=[.v Value.nilFunc]:=ID rfl
theorem baU{K:TI→Prop}:@tyW Tryz.prog 274 ⟨K⟩=K Vb:=qh bdT
theorem axp:Vb.kd=Kd.oth:=ID rfl
theorem aoG:Vb.kd.agg=false:=ID rfl
theorem aiC:Vb.size=1:=ID rfl
theorem acs:Vb.bytes=8:=ID rfl
theorem axn:qw Vb=True:=eq_true rfl
theorem axo:zc Vb=[.v Value.nilFunc]:=ID rfl
theorem baT{K:TI→Prop}:@tyW Tryz.prog 275 ⟨K⟩=K Va:=qh bdS
theorem axm:Va.kd=Kd.int IntKind.u32:=ID rfl
theorem aoF:Va.kd.agg=false:=ID rfl
theorem aiB:Va.size=1:=ID rfl
theorem acr:Va.bytes=4:=ID rfl
theorem axk:qw Va=True:=eq_true rfl
theorem axl:zc Va=[.v (Value.int IntKind.u32 0)]:=ID rfl
theorem baS{K:TI→Prop}:@tyW Tryz.prog 276 ⟨K⟩=K X9:=qh bdR
theorem axj:X9.kd=Kd.oth:=ID rfl
theorem aoE:X9.kd.agg=false:=ID rfl
theorem aiA:X9.size=1:=ID rfl
theorem acq:X9.bytes=8:=ID rfl
theorem axh:qw X9=True:=eq_true rfl
theorem axi:zc X9=[.v Value.nilFunc]:=ID rfl
theorem baR{K:TI→Prop}:@tyW Tryz.prog 277 ⟨K⟩=K X8:=qh bdQ
theorem axg:X8.kd=Kd.int IntKind.u64:=ID rfl
theorem aoD:X8.kd.agg=false:=ID rfl
theorem aiz:X8.size=1:=ID rfl
theorem acp:X8.bytes=8:=ID rfl
theorem axe:qw X8=True:=eq_true rfl
theorem axf:zc X8=[.v (Value.int IntKind.u64 0)]:=ID rfl
theorem baQ{K:TI→Prop}:@tyW Tryz.prog 278 ⟨K⟩=K X7:=qh bdP
theorem axd:X7.kd=Kd.oth:=ID rfl
theorem aoC:X7.kd.agg=false:=ID rfl
theorem aiy:X7.size=1:=ID rfl
theorem aco:X7.bytes=8:=ID rfl
theorem axb:qw X7=True:=eq_true rfl
theorem axc:zc X7=[.v Value.nilFunc]:=ID rfl
theorem baP{K:TI→Prop}:@tyW Tryz.prog 279 ⟨K⟩=K X6:=qh bdO
theorem axa:X6.kd=Kd.oth:=ID rfl
theorem aoB:X6.kd.agg=false:=ID rfl
theorem aix:X6.size=1:=ID rfl
theorem acn:X6.bytes=8:=ID rfl
theorem aw8:qw X6=True:=eq_true rfl
theorem aw9:zc X6=[.v Value.nilFunc]:=ID rfl
theorem baO{K:TI→Prop}:@tyW Tryz.prog 281 ⟨K⟩=K X5:=qh bdN
theorem aw6:X5.kd=Kd.oth:=ID rfl
theorem aoz:X5.kd.agg=false:=ID rfl
theorem aiv:X5.size=1:=ID rfl
theorem acm:X5.bytes=8:=ID rfl
theorem aw4:qw X5=True:=eq_true rfl
theorem aw5:zc X5=[.v Value.nilFunc]:=ID rfl
theorem baN{K:TI→Prop}:@tyW Tryz.prog 282 ⟨K⟩=K X4:=qh bdM
theorem aw3:X4.kd=Kd.oth:=ID rfl
theorem aoy:X4.kd.agg=false:=ID rfl
theorem aiu:X4.size=1:=ID rfl
theorem acl:X4.bytes=8:=ID rfl
theorem aw1:qw X4=True:=eq_true rfl
theorem aw2:zc X4=[.v Value.nilFunc]:=ID rfl
theorem baM{K:TI→Prop}:@tyW Tryz.prog 283 ⟨K⟩=K X3:=qh bdL
theorem aw0:X3.kd=Kd.oth:=ID rfl
theorem aox:X3.kd.agg=false:=ID rfl
theorem ait:X3.size=1:=ID rfl
theorem ack:X3.bytes=8:=ID rfl
theorem awY:qw X3=True:=eq_true rfl
theorem awZ:zc X3=[.v Value.nilFunc]:=ID rfl
theorem baL{K:TI→Prop}:@tyW Tryz.prog 287 ⟨K⟩=K X2:=qh bdK
theorem awX:X2.kd=Kd.oth:=ID rfl
theorem aow:X2.kd.agg=false:=ID rfl
theorem ais:X2.size=1:=ID rfl
theorem acj:X2.bytes=8:=ID rfl
theorem awU:qw X2=True:=eq_true rfl
theorem awW:zc X2=[.v Value.nilFunc]:=ID rfl
theorem baK{K:TI→Prop}:@tyW Tryz.prog 288 ⟨K⟩=K X1:=qh bdJ
theorem awT:X1.kd=Kd.oth:=ID rfl
theorem aov:X1.kd.agg=false:=ID rfl
theorem air:X1.size=1:=ID rfl
theorem aci:X1.bytes=8:=ID rfl
theorem awR:qw X1=True:=eq_true rfl
theorem awS:zc X1=[.v Value.nilFunc]:=ID rfl
theorem baJ{K:TI→Prop}:@tyW Tryz.prog 289 ⟨K⟩=K X0:=qh bdI
theorem awQ:X0.kd=Kd.oth:=ID rfl
theorem aou:X0.kd.agg=false:=ID rfl
theorem aiq:X0.size=1:=ID rfl
theorem ach:X0.bytes=8:=ID rfl
theorem awO:qw X0=True:=eq_true rfl
theorem awP:zc X0=[.v Value.nilFunc]:=ID rfl
theorem baI{K:TI→Prop}:@tyW Tryz.prog 290 ⟨K⟩=K XZ:=qh bdH
theorem awM:XZ.kd=Kd.oth:=ID rfl
theorem aor:XZ.kd.agg=false:=ID rfl
theorem aio:XZ.size=1:=ID rfl
theorem acg:XZ.bytes=8:=ID rfl
theorem awK:qw XZ=True:=eq_true rfl
theorem awL:zc XZ=[.v Value.nilFunc]:=ID rfl
theorem baH{K:TI→Prop}:@tyW Tryz.prog 291 ⟨K⟩=K XY:=qh bdG
theorem awJ:XY.kd=Kd.oth:=ID rfl
theorem aoq:XY.kd.agg=false:=ID rfl
theorem ain:XY.size=1:=ID rfl
theorem acf:XY.bytes=8:=ID rfl
theorem awH:qw XY=True:=eq_true rfl
theorem awI:zc XY=[.v Value.nilFunc]:=ID rfl
theorem baG{K:TI→Prop}:@tyW Tryz.prog 295 ⟨K⟩=K XX:=qh bdF
theorem awG:XX.kd=Kd.stru [(0,294)]:=ID rfl
theorem aop:XX.kd.agg=true:=ID rfl
theorem aim:XX.size=0:=ID rfl
theorem ace:XX.bytes=0:=ID rfl
theorem awE:qw XX=True:=eq_true rfl
theorem awF:zc XX=[]:=ID rfl
theorem baF{K:TI→Prop}:@tyW Tryz.prog 296 ⟨K⟩=K XW:=qh bdE
theorem awD:XW.kd=Kd.stru [(0,294)]:=ID rfl
theorem aoo:XW.kd.agg=true:=ID rfl
theorem ail:XW.size=0:=ID rfl
theorem acd:XW.bytes=0:=ID rfl
theorem awB:qw XW=True:=eq_true rfl
theorem awC:zc XW=[]:=ID rfl
theorem baE{K:TI→Prop}:@tyW Tryz.prog 297 ⟨K⟩=K XV:=qh bdD
theorem awA:XV.kd=Kd.int IntKind.u8:=ID rfl
theorem aon:XV.kd.agg=false:=ID rfl
theorem aik:XV.size=1:=ID rfl
theorem acb:XV.bytes=1:=ID rfl
theorem awy:qw XV=True:=eq_true rfl
theorem awz:zc XV=[.v (Value.int IntKind.u8 0)]:=ID rfl
theorem baD{K:TI→Prop}:@tyW Tryz.prog 298 ⟨K⟩=K XU:=qh bdC
theorem awx:XU.kd=Kd.int IntKind.u8:=ID rfl
theorem aom:XU.kd.agg=false:=ID rfl
theorem aij:XU.size=1:=ID rfl
theorem aca:XU.bytes=1:=ID rfl
theorem awv:qw XU=True:=eq_true rfl
theorem aww:zc XU=[.v (Value.int IntKind.u8 0)]:=ID rfl
theorem baC{K:TI→Prop}:@tyW Tryz.prog 299 ⟨K⟩=K XT:=qh bdB
theorem awu:XT.kd=Kd.oth:=ID rfl
theorem aol:XT.kd.agg=false:=ID rfl
theorem aii:XT.size=1:=ID rfl
theorem ab9:XT.bytes=8:=ID rfl
theorem aws:qw XT=True:=eq_true rfl
theorem awt:zc XT=[.v Value.nilFunc]:=ID rfl
theorem baB{K:TI→Prop}:@tyW Tryz.prog 301 ⟨K⟩=K XS:=qh bdA
theorem awo:XS.kd=Kd.int IntKind.i32:=ID rfl
theorem aoh:XS.kd.agg=false:=ID rfl
theorem aig:XS.size=1:=ID rfl
theorem ab8:XS.bytes=4:=ID rfl
theorem awm:qw XS=True:=eq_true rfl
theorem awn:zc XS=[.v (Value.int IntKind.i32 0)]:=ID rfl
theorem baA{K:TI→Prop}:@tyW Tryz.prog 302 ⟨K⟩=K XR:=qh bdz
theorem awl:XR.kd=Kd.int IntKind.i32:=ID rfl
theorem aog:XR.kd.agg=false:=ID rfl
theorem aif:XR.size=1:=ID rfl
theorem ab7:XR.bytes=4:=ID rfl
theorem awj:qw XR=True:=eq_true rfl
theorem awk:zc XR=[.v (Value.int IntKind.i32 0)]:=ID rfl
theorem baz{K:TI→Prop}:@tyW Tryz.prog 305 ⟨K⟩=K XQ:=qh bdy
theorem awi:XQ.kd=Kd.oth:=ID rfl
theorem aof:XQ.kd.agg=false:=ID rfl
theorem aie:XQ.size=1:=ID rfl
theorem ab6:XQ.bytes=8:=ID rfl
theorem awg:qw XQ=True:=eq_true rfl
theorem awh:zc XQ=[.v Value.nilFunc]:=ID rfl
theorem bay{K:TI→Prop}:@tyW Tryz.prog 306 ⟨K⟩=K XP:=qh bdx
theorem awf:XP.kd=Kd.oth:=ID rfl
theorem aoe:XP.kd.agg=false:=ID rfl
theorem aid:XP.size=1:=ID rfl
theorem ab5:XP.bytes=8:=ID rfl
theorem awd:qw XP=True:=eq_true rfl
theorem awe:zc XP=[.v Value.nilFunc]:=ID rfl
theorem bl6:qp Tryz.prog 2=True:=eq_true ⟨_,Tryz.func2,of_decide_eq_false (by kernel_rfl),rfl⟩
theorem bl5:qp Tryz.prog 3=True:=eq_true ⟨_,Tryz.func3,of_decide_eq_false (by kernel_rfl),rfl⟩
theorem bl4:qp Tryz.prog 4=True:=eq_true ⟨_,Tryz.func4,of_decide_eq_false (by kernel_rfl),rfl⟩
theorem bl3:qp Tryz.prog 5=True:=eq_true ⟨_,Tryz.func5,of_decide_eq_false (by kernel_rfl),rfl⟩
theorem bl2:qp Tryz.prog 6=True:=eq_true ⟨_,Tryz.func6,of_decide_eq_false (by kernel_rfl),rfl⟩
theorem bl1:qp Tryz.prog 7=True:=eq_true ⟨_,Tryz.func7,of_decide_eq_false (by kernel_rfl),rfl⟩
theorem bl0:qp Tryz.prog 8=True:=eq_true ⟨_,Tryz.func8,of_decide_eq_false (by kernel_rfl),rfl⟩
theorem blZ:qp Tryz.prog 9=True:=eq_true ⟨_,Tryz.func9,of_decide_eq_false (by kernel_rfl),rfl⟩
theorem biB:qp Tryz.prog 10=True:=eq_true ⟨_,Tryz.func10,of_decide_eq_false (by kernel_rfl),rfl⟩
theorem biA:qp Tryz.prog 11=True:=eq_true ⟨_,Tryz.func11,of_decide_eq_false (by kernel_rfl),rfl⟩
theorem biz:qp Tryz.prog 12=True:=eq_true ⟨_,Tryz.func12,of_decide_eq_false (by kernel_rfl),rfl⟩
theorem biy:qp Tryz.prog 13=True:=eq_true ⟨_,Tryz.func13,of_decide_eq_false (by kernel_rfl),rfl⟩
theorem bix:qp Tryz.prog 14=True:=eq_true ⟨_,Tryz.func14,of_decide_eq_false (by kernel_rfl),rfl⟩
theorem biw:qp Tryz.prog 15=True:=eq_true ⟨_,Tryz.func15,of_decide_eq_false (by kernel_rfl),rfl⟩
theorem biv:qp Tryz.prog 16=True:=eq_true ⟨_,Tryz.func16,of_decide_eq_false (by kernel_rfl),rfl⟩
theorem biu:qp Tryz.prog 17=True:=eq_true ⟨_,Tryz.func17,of_decide_eq_false (by kernel_rfl),rfl⟩
theorem bit:qp Tryz.prog 18=True:=eq_true ⟨_,Tryz.func18,of_decide_eq_false (by kernel_rfl),rfl⟩
theorem bis:qp Tryz.prog 19=True:=eq_true ⟨_,Tryz.func19,of_decide_eq_false (by kernel_rfl),rfl⟩
theorem bir:qp Tryz.prog 20=True:=eq_true ⟨_,Tryz.func20,of_decide_eq_false (by kernel_rfl),rfl⟩
theorem biq:qp Tryz.prog 21=True:=eq_true ⟨_,Tryz.func21,of_decide_eq_false (by kernel_rfl),rfl⟩
theorem bip:qp Tryz.prog 22=True:=eq_true ⟨_,Tryz.func22,of_decide_eq_false (by kernel_rfl),rfl⟩
theorem bio:qp Tryz.prog 23=True:=eq_true ⟨_,Tryz.func23,of_decide_eq_false (by kernel_rfl),rfl⟩
theorem bin:qp Tryz.prog 24=True:=eq_true ⟨_,Tryz.func24,of_decide_eq_false (by kernel_rfl),rfl⟩
theorem bim:qp Tryz.prog 25=True:=eq_true ⟨_,Tryz.func25,of_decide_eq_false (by kernel_rfl),rfl⟩
theorem bil:qp Tryz.prog 26=True:=eq_true ⟨_,Tryz.func26,of_decide_eq_false (by kernel_rfl),rfl⟩
theorem bik:qp Tryz.prog 27=True:=eq_true ⟨_,Tryz.func27,of_decide_eq_false (by kernel_rfl),rfl⟩
theorem bij:qp Tryz.prog 28=True:=eq_true ⟨_,Tryz.func28,of_decide_eq_false (by kernel_rfl),rfl⟩
theorem bii:qp Tryz.prog 29=True:=eq_true ⟨_,Tryz.func29,of_decide_eq_false (by kernel_rfl),rfl⟩
theorem bih:qp Tryz.prog 30=True:=eq_true ⟨_,Tryz.func30,of_decide_eq_false (by kernel_rfl),rfl⟩
theorem big:qp Tryz.prog 31=True:=eq_true ⟨_,Tryz.func31,of_decide_eq_false (by kernel_rfl),rfl⟩
theorem bie:qp Tryz.prog 32=True:=eq_true ⟨_,Tryz.func32,of_decide_eq_false (by kernel_rfl),rfl⟩
theorem bid:qp Tryz.prog 33=True:=eq_true ⟨_,Tryz.func33,of_decide_eq_false (by kernel_rfl),rfl⟩
theorem bic:qp Tryz.prog 34=True:=eq_true ⟨_,Tryz.func34,of_decide_eq_false (by kernel_rfl),rfl⟩
theorem bib:qp Tryz.prog 35=True:=eq_true ⟨_,Tryz.func35,of_decide_eq_false (by kernel_rfl),rfl⟩
theorem bia:qp Tryz.prog 36=True:=eq_true ⟨_,Tryz.func36,of_decide_eq_false (by kernel_rfl),rfl⟩
theorem bh9:qp Tryz.prog 37=True:=eq_true ⟨_,Tryz.func37,of_decide_eq_false (by kernel_rfl),rfl⟩
theorem bh8:qp Tryz.prog 38=True:=eq_true ⟨_,Tryz.func38,of_decide_eq_false (by kernel_rfl),rfl⟩
theorem bh7:qp Tryz.prog 39=True:=eq_true ⟨_,Tryz.func39,of_decide_eq_false (by kernel_rfl),rfl⟩
theorem bh6:qp Tryz.prog 40=True:=eq_true ⟨_,Tryz.func40,of_decide_eq_false (by kernel_rfl),rfl⟩
theorem bh5:qp Tryz.prog 41=True:=eq_true ⟨_,Tryz.func41,of_decide_eq_false (by kernel_rfl),rfl⟩
theorem bh4:qp Tryz.prog 42=True:=eq_true ⟨_,Tryz.func42,of_decide_eq_false (by kernel_rfl),rfl⟩
theorem bh3:qp Tryz.prog 43=True:=eq_true ⟨_,Tryz.func43,of_decide_eq_false (by kernel_rfl),rfl⟩
theorem bh2:qp Tryz.prog 44=True:=eq_true ⟨_,Tryz.func44,of_decide_eq_false (by kernel_rfl),rfl⟩
theorem bh1:qp Tryz.prog 45=True:=eq_true ⟨_,Tryz.func45,of_decide_eq_false (by kernel_rfl),rfl⟩
theorem bh0:qp Tryz.prog 46=True:=eq_true ⟨_,Tryz.func46,of_decide_eq_false (by kernel_rfl),rfl⟩
theorem bhZ:qp Tryz.prog 47=True:=eq_true ⟨_,Tryz.func47,of_decide_eq_false (by kernel_rfl),rfl⟩
theorem bhY:qp Tryz.prog 48=True:=eq_true ⟨_,Tryz.func48,of_decide_eq_false (by kernel_rfl),rfl⟩
theorem bhX:qp Tryz.prog 49=True:=eq_true ⟨_,Tryz.func49,of_decide_eq_false (by kernel_rfl),rfl⟩
theorem bhW:qp Tryz.prog 50=True:=eq_true ⟨_,Tryz.func50,of_decide_eq_false (by kernel_rfl),rfl⟩
theorem bhV:qp Tryz.prog 51=True:=eq_true ⟨_,Tryz.func51,of_decide_eq_false (by kernel_rfl),rfl⟩
theorem bhU:qp Tryz.prog 52=True:=eq_true ⟨_,Tryz.func52,of_decide_eq_false (by kernel_rfl),rfl⟩
theorem bhT:qp Tryz.prog 53=True:=eq_true ⟨_,Tryz.func53,of_decide_eq_false (by kernel_rfl),rfl⟩
theorem bhS:qp Tryz.prog 54=True:=eq_true ⟨_,Tryz.func54,of_decide_eq_false (by kernel_rfl),rfl⟩
theorem bhR:qp Tryz.prog 55=True:=eq_true ⟨_,Tryz.func55,of_decide_eq_false (by kernel_rfl),rfl⟩
theorem bhQ:qp Tryz.prog 56=True:=eq_true ⟨_,Tryz.func56,of_decide_eq_false (by kernel_rfl),rfl⟩
theorem bhP:qp Tryz.prog 57=True:=eq_true ⟨_,Tryz.func57,of_decide_eq_false (by kernel_rfl),rfl⟩
theorem bhO:qp Tryz.prog 58=True:=eq_true ⟨_,Tryz.func58,of_decide_eq_false (by kernel_rfl),rfl⟩
theorem bhN:qp Tryz.prog 59=True:=eq_true ⟨_,Tryz.func59,of_decide_eq_false (by kernel_rfl),rfl⟩
theorem bhM:qp Tryz.prog 60=True:=eq_true ⟨_,Tryz.func60,of_decide_eq_false (by kernel_rfl),rfl⟩
theorem bhL:qp Tryz.prog 61=True:=eq_true ⟨_,Tryz.func61,of_decide_eq_false (by kernel_rfl),rfl⟩
theorem bhK:qp Tryz.prog 62=True:=eq_true ⟨_,Tryz.func62,of_decide_eq_false (by kernel_rfl),rfl⟩
theorem bhJ:qp Tryz.prog 63=True:=eq_true ⟨_,Tryz.func63,of_decide_eq_false (by kernel_rfl),rfl⟩
theorem bhI:qp Tryz.prog 64=True:=eq_true ⟨_,Tryz.func64,of_decide_eq_false (by kernel_rfl),rfl⟩
theorem bhH:qp Tryz.prog 65=True:=eq_true ⟨_,Tryz.func65,of_decide_eq_false (by kernel_rfl),rfl⟩
theorem bhG:qp Tryz.prog 66=True:=eq_true ⟨_,Tryz.func66,of_decide_eq_false (by kernel_rfl),rfl⟩
theorem bhF:qp Tryz.prog 67=True:=eq_true ⟨_,Tryz.func67,of_decide_eq_false (by kernel_rfl),rfl⟩
theorem bhE:qp Tryz.prog 68=True:=eq_true ⟨_,Tryz.func68,of_decide_eq_false (by kernel_rfl),rfl⟩
theorem bhD:qp Tryz.prog 69=True:=eq_true ⟨_,Tryz.func69,of_decide_eq_false (by kernel_rfl),rfl⟩
theorem bhC:qp Tryz.prog 70=True:=eq_true ⟨_,Tryz.func70,of_decide_eq_false (by kernel_rfl),rfl⟩
theorem bhB:qp Tryz.prog 71=True:=eq_true ⟨_,Tryz.func71,of_decide_eq_false (by kernel_rfl),rfl⟩
theorem bhA:qp Tryz.prog 72=True:=eq_true ⟨_,Tryz.func72,of_decide_eq_false (by kernel_rfl),rfl⟩
theorem bhz:qp Tryz.prog 73=True:=eq_true ⟨_,Tryz.func73,of_decide_eq_false (by kernel_rfl),rfl⟩
theorem bhy:qp Tryz.prog 74=True:=eq_true ⟨_,Tryz.func74,of_decide_eq_false (by kernel_rfl),rfl⟩
theorem bhx:qp Tryz.prog 75=True:=eq_true ⟨_,Tryz.func75,of_decide_eq_false (by kernel_rfl),rfl⟩
theorem bhw:qp Tryz.prog 76=True:=eq_true ⟨_,Tryz.func76,of_decide_eq_false (by kernel_rfl),rfl⟩
theorem bhv:qp Tryz.prog 77=True:=eq_true ⟨_,Tryz.func77,of_decide_eq_false (by kernel_rfl),rfl⟩
theorem bhu:qp Tryz.prog 78=True:=eq_true ⟨_,Tryz.func78,of_decide_eq_false (by kernel_rfl),rfl⟩
theorem bht:qp Tryz.prog 79=True:=eq_true ⟨_,Tryz.func79,of_decide_eq_false (by kernel_rfl),rfl⟩
theorem bhs:qp Tryz.prog 80=True:=eq_true ⟨_,Tryz.func80,of_decide_eq_false (by kernel_rfl),rfl⟩
theorem bhr:qp Tryz.prog 81=True:=eq_true ⟨_,Tryz.func81,of_decide_eq_false (by kernel_rfl),rfl⟩
theorem bhq:qp Tryz.prog 82=True:=eq_true ⟨_,Tryz.func82,of_decide_eq_false (by kernel_rfl),rfl⟩
theorem bho:qp Tryz.prog 83=True:=eq_true ⟨_,Tryz.func83,of_decide_eq_false (by kernel_rfl),rfl⟩
theorem bhn:qp Tryz.prog 84=True:=eq_true ⟨_,Tryz.func84,of_decide_eq_false (by kernel_rfl),rfl⟩
theorem bhm:qp Tryz.prog 85=True:=eq_true ⟨_,Tryz.func85,of_decide_eq_false (by kernel_rfl),rfl⟩
theorem bhl:qp Tryz.prog 86=True:=eq_true ⟨_,Tryz.func86,of_decide_eq_false (by kernel_rfl),rfl⟩
theorem bhk:qp Tryz.prog 87=True:=eq_true ⟨_,Tryz.func87,of_decide_eq_false (by kernel_rfl),rfl⟩
theorem bhj:qp Tryz.prog 88=True:=eq_true ⟨_,Tryz.func88,of_decide_eq_false (by kernel_rfl),rfl⟩
theorem bhi:qp Tryz.prog 89=True:=eq_true ⟨_,Tryz.func89,of_decide_eq_false (by kernel_rfl),rfl⟩
theorem bhh:qp Tryz.prog 90=True:=eq_true ⟨_,Tryz.func90,of_decide_eq_false (by kernel_rfl),rfl⟩
theorem bhg:qp Tryz.prog 91=True:=eq_true ⟨_,Tryz.func91,of_decide_eq_false (by kernel_rfl),rfl⟩
theorem bhf:qp Tryz.prog 92=True:=eq_true ⟨_,Tryz.func92,of_decide_eq_false (by kernel_rfl),rfl⟩
theorem bhe:qp Tryz.prog 93=True:=eq_true ⟨_,Tryz.func93,of_decide_eq_false (by kernel_rfl),rfl⟩
theorem bhd:qp Tryz.prog 94=True:=eq_true ⟨_,Tryz.func94,of_decide_eq_false (by kernel_rfl),rfl⟩
theorem bhc:qp Tryz.prog 95=True:=eq_true ⟨_,Tryz.func95,of_decide_eq_false (by kernel_rfl),rfl⟩
theorem bhb:qp Tryz.prog 96=True:=eq_true ⟨_,Tryz.func96,of_decide_eq_false (by kernel_rfl),rfl⟩
theorem bha:qp Tryz.prog 97=True:=eq_true ⟨_,Tryz.func97,of_decide_eq_false (by kernel_rfl),rfl⟩
theorem bg9:qp Tryz.prog 98=True:=eq_true ⟨_,Tryz.func98,of_decide_eq_false (by kernel_rfl),rfl⟩
theorem bg8:qp Tryz.prog 99=True:=eq_true ⟨_,Tryz.func99,of_decide_eq_false (by kernel_rfl),rfl⟩
theorem aYY:qp Tryz.prog 100=True:=eq_true ⟨_,Tryz.func100,of_decide_eq_false (by kernel_rfl),rfl⟩
theorem aYX:qp Tryz.prog 101=True:=eq_true ⟨_,Tryz.func101,of_decide_eq_false (by kernel_rfl),rfl⟩
theorem aYW:qp Tryz.prog 102=True:=eq_true ⟨_,Tryz.func102,of_decide_eq_false (by kernel_rfl),rfl⟩
theorem aYV:qp Tryz.prog 103=True:=eq_true ⟨_,Tryz.func103,of_decide_eq_false (by kernel_rfl),rfl⟩
theorem aYU:qp Tryz.prog 104=True:=eq_true ⟨_,Tryz.func104,of_decide_eq_false (by kernel_rfl),rfl⟩
theorem aYT:qp Tryz.prog 105=True:=eq_true ⟨_,Tryz.func105,of_decide_eq_false (by kernel_rfl),rfl⟩
theorem aYS:qp Tryz.prog 106=True:=eq_true ⟨_,Tryz.func106,of_decide_eq_false (by kernel_rfl),rfl⟩
theorem aYR:qp Tryz.prog 107=True:=eq_true ⟨_,Tryz.func107,of_decide_eq_false (by kernel_rfl),rfl⟩
theorem aYQ:qp Tryz.prog 108=True:=eq_true ⟨_,Tryz.func108,of_decide_eq_false (by kernel_rfl),rfl⟩
theorem aYP:qp Tryz.prog 109=True:=eq_true ⟨_,Tryz.func109,of_decide_eq_false (by kernel_rfl),rfl⟩
theorem aYO:qp Tryz.prog 110=True:=eq_true ⟨_,Tryz.func110,of_decide_eq_false (by kernel_rfl),rfl⟩
theorem aYN:qp Tryz.prog 111=True:=eq_true ⟨_,Tryz.func111,of_decide_eq_false (by kernel_rfl),rfl⟩
theorem aYM:qp Tryz.prog 112=True:=eq_true ⟨_,Tryz.func112,of_decide_eq_false (by kernel_rfl),rfl⟩
theorem aYL:qp Tryz.prog 113=True:=eq_true ⟨_,Tryz.func113,of_decide_eq_false (by kernel_rfl),rfl⟩
theorem aYK:qp Tryz.prog 114=True:=eq_true ⟨_,Tryz.func114,of_decide_eq_false (by kernel_rfl),rfl⟩
theorem aYJ:qp Tryz.prog 115=True:=eq_true ⟨_,Tryz.func115,of_decide_eq_false (by kernel_rfl),rfl⟩
theorem aYI:qp Tryz.prog 116=True:=eq_true ⟨_,Tryz.func116,of_decide_eq_false (by kernel_rfl),rfl⟩
theorem aYH:qp Tryz.prog 117=True:=eq_true ⟨_,Tryz.func117,of_decide_eq_false (by kernel_rfl),rfl⟩
theorem aYG:qp Tryz.prog 118=True:=eq_true ⟨_,Tryz.func118,of_decide_eq_false (by kernel_rfl),rfl⟩
theorem aYF:qp Tryz.prog 119=True:=eq_true ⟨_,Tryz.func119,of_decide_eq_false (by kernel_rfl),rfl⟩
theorem aYE:qp Tryz.prog 120=True:=eq_true ⟨_,Tryz.func120,of_decide_eq_false (by kernel_rfl),rfl⟩
theorem aYD:qp Tryz.prog 121=True:=eq_true ⟨_,Tryz.func121,of_decide_eq_false (by kernel_rfl),rfl⟩
theorem aYC:qp Tryz.prog 122=True:=eq_true ⟨_,Tryz.func122,of_decide_eq_false (by kernel_rfl),rfl⟩
theorem aYB:qp Tryz.prog 123=True:=eq_true ⟨_,Tryz.func123,of_decide_eq_false (by kernel_rfl),rfl⟩
theorem aYA:qp Tryz.prog 124=True:=eq_true ⟨_,Tryz.func124,of_decide_eq_false (by kernel_rfl),rfl⟩
theorem aYz:qp Tryz.prog 125=True:=eq_true ⟨_,Tryz.func125,of_decide_eq_false (by kernel_rfl),rfl⟩
theorem aYy:qp Tryz.prog 126=True:=eq_true ⟨_,Tryz.func126,of_decide_eq_false (by kernel_rfl),rfl⟩
theorem aYx:qp Tryz.prog 127=True:=eq_true ⟨_,Tryz.func127,of_decide_eq_false (by kernel_rfl),rfl⟩
theorem aYw:qp Tryz.prog 128=True:=eq_true ⟨_,Tryz.func128,of_decide_eq_false (by kernel_rfl),rfl⟩
theorem aYv:qp Tryz.prog 129=True:=eq_true ⟨_,Tryz.func129,of_decide_eq_false (by kernel_rfl),rfl⟩
theorem aYu:qp Tryz.prog 130=True:=eq_true ⟨_,Tryz.func130,of_decide_eq_false (by kernel_rfl),rfl⟩
theorem aYt:qp Tryz.prog 131=True:=eq_true ⟨_,Tryz.func131,of_decide_eq_false (by kernel_rfl),rfl⟩
theorem aYs:qp Tryz.prog 132=True:=eq_true ⟨_,Tryz.func132,of_decide_eq_false (by kernel_rfl),rfl⟩
theorem aYr:qp Tryz.prog 133=True:=eq_true ⟨_,Tryz.func133,of_decide_eq_false (by kernel_rfl),rfl⟩
theorem aYq:qp Tryz.prog 134=True:=eq_true ⟨_,Tryz.func134,of_decide_eq_false (by kernel_rfl),rfl⟩
theorem aYp:qp Tryz.prog 135=True:=eq_true ⟨_,Tryz.func135,of_decide_eq_false (by kernel_rfl),rfl⟩
theorem aYo:qp Tryz.prog 136=True:=eq_true ⟨_,Tryz.func136,of_decide_eq_false (by kernel_rfl),rfl⟩
theorem aYn:qp Tryz.prog 137=True:=eq_true ⟨_,Tryz.func137,of_decide_eq_false (by kernel_rfl),rfl⟩
theorem aYm:qp Tryz.prog 138=True:=eq_true ⟨_,Tryz.func138,of_decide_eq_false (by kernel_rfl),rfl⟩
theorem aYl:qp Tryz.prog 139=True:=eq_true ⟨_,Tryz.func139,of_decide_eq_false (by kernel_rfl),rfl⟩
theorem aYk:qp Tryz.prog 140=True:=eq_true ⟨_,Tryz.func140,of_decide_eq_false (by kernel_rfl),rfl⟩
theorem aYj:qp Tryz.prog 141=True:=eq_true ⟨_,Tryz.func141,of_decide_eq_false (by kernel_rfl),rfl⟩
theorem aYi:qp Tryz.prog 142=True:=eq_true ⟨_,Tryz.func142,of_decide_eq_false (by kernel_rfl),rfl⟩
theorem aYh:qp Tryz.prog 143=True:=eq_true ⟨_,Tryz.func143,of_decide_eq_false (by kernel_rfl),rfl⟩
theorem aYg:qp Tryz.prog 144=True:=eq_true ⟨_,Tryz.func144,of_decide_eq_false (by kernel_rfl),rfl⟩
theorem aYf:qp Tryz.prog 145=True:=eq_true ⟨_,Tryz.func145,of_decide_eq_false (by kernel_rfl),rfl⟩
theorem aYe:qp Tryz.prog 146=True:=eq_true ⟨_,Tryz.func146,of_decide_eq_false (by kernel_rfl),rfl⟩
theorem aYd:qp Tryz.prog 147=True:=eq_true ⟨_,Tryz.func147,of_decide_eq_false (by kernel_rfl),rfl⟩
theorem aYc:qp Tryz.prog 148=True:=eq_true ⟨_,Tryz.func148,of_decide_eq_false (by kernel_rfl),rfl⟩
theorem aYb:qp Tryz.prog 149=True:=eq_true ⟨_,Tryz.func149,of_decide_eq_false (by kernel_rfl),rfl⟩
theorem aYa:qp Tryz.prog 150=True:=eq_true ⟨_,Tryz.func150,of_decide_eq_false (by kernel_rfl),rfl⟩
theorem aX9:qp Tryz.prog 151=True:=eq_true ⟨_,Tryz.func151,of_decide_eq_false (by kernel_rfl),rfl⟩
theorem aX8:qp Tryz.prog 152=True:=eq_true ⟨_,Tryz.func152,of_decide_eq_false (by kernel_rfl),rfl⟩
theorem aX7:qp Tryz.prog 153=True:=eq_true ⟨_,Tryz.func153,of_decide_eq_false (by kernel_rfl),rfl⟩
theorem aX6:qp Tryz.prog 154=True:=eq_true ⟨_,Tryz.func154,of_decide_eq_false (by kernel_rfl),rfl⟩
theorem aX5:qp Tryz.prog 155=True:=eq_true ⟨_,Tryz.func155,of_decide_eq_false (by kernel_rfl),rfl⟩
theorem aX4:qp Tryz.prog 156=True:=eq_true ⟨_,Tryz.func156,of_decide_eq_false (by kernel_rfl),rfl⟩
theorem aX3:qp Tryz.prog 157=True:=eq_true ⟨_,Tryz.func157,of_decide_eq_false (by kernel_rfl),rfl⟩
theorem aX2:qp Tryz.prog 158=True:=eq_true ⟨_,Tryz.func158,of_decide_eq_false (by kernel_rfl),rfl⟩
theorem aX1:qp Tryz.prog 159=True:=eq_true ⟨_,Tryz.func159,of_decide_eq_false (by kernel_rfl),rfl⟩
theorem aX0:qp Tryz.prog 160=True:=eq_true ⟨_,Tryz.func160,of_decide_eq_false (by kernel_rfl),rfl⟩
theorem aXZ:qp Tryz.prog 161=True:=eq_true ⟨_,Tryz.func161,of_decide_eq_false (by kernel_rfl),rfl⟩
theorem aXY:qp Tryz.prog 162=True:=eq_true ⟨_,Tryz.func162,of_decide_eq_false (by kernel_rfl),rfl⟩
theorem aXX:qp Tryz.prog 163=True:=eq_true ⟨_,Tryz.func163,of_decide_eq_false (by kernel_rfl),rfl⟩
theorem aXW:qp Tryz.prog 164=True:=eq_true ⟨_,Tryz.func164,of_decide_eq_false (by kernel_rfl),rfl⟩
theorem aXV:qp Tryz.prog 165=True:=eq_true ⟨_,Tryz.func165,of_decide_eq_false (by kernel_rfl),rfl⟩
theorem aXU:qp Tryz.prog 166=True:=eq_true ⟨_,Tryz.func166,of_decide_eq_false (by kernel_rfl),rfl⟩
theorem aXT:qp Tryz.prog 167=True:=eq_true ⟨_,Tryz.func167,of_decide_eq_false (by kernel_rfl),rfl⟩
theorem aXS:qp Tryz.prog 168=True:=eq_true ⟨_,Tryz.func168,of_decide_eq_false (by kernel_rfl),rfl⟩
theorem aXR:qp Tryz.prog 169=True:=eq_true ⟨_,Tryz.func169,of_decide_eq_false (by kernel_rfl),rfl⟩
theorem aXQ:qp Tryz.prog 170=True:=eq_true ⟨_,Tryz.func170,of_decide_eq_false (by kernel_rfl),rfl⟩
theorem aXP:qp Tryz.prog 171=True:=eq_true ⟨_,Tryz.func171,of_decide_eq_false (by kernel_rfl),rfl⟩
theorem aXO:qp Tryz.prog 172=True:=eq_true ⟨_,Tryz.func172,of_decide_eq_false (by kernel_rfl),rfl⟩
theorem aXN:qp Tryz.prog 173=True:=eq_true ⟨_,Tryz.func173,of_decide_eq_false (by kernel_rfl),rfl⟩
theorem aXM:qp Tryz.prog 174=True:=eq_true ⟨_,Tryz.func174,of_decide_eq_false (by kernel_rfl),rfl⟩
theorem aXL:qp Tryz.prog 175=True:=eq_true ⟨_,Tryz.func175,of_decide_eq_false (by kernel_rfl),rfl⟩
theorem aXK:qp Tryz.prog 176=True:=eq_true ⟨_,Tryz.func176,of_decide_eq_false (by kernel_rfl),rfl⟩
theorem aXJ:qp Tryz.prog 177=True:=eq_true ⟨_,Tryz.func177,of_decide_eq_false (by kernel_rfl),rfl⟩
theorem aXI:qp Tryz.prog 178=True:=eq_true ⟨_,Tryz.func178,of_decide_eq_false (by kernel_rfl),rfl⟩
theorem aXH:qp Tryz.prog 179=True:=eq_true ⟨_,Tryz.func179,of_decide_eq_false (by kernel_rfl),rfl⟩
theorem aXG:qp Tryz.prog 180=True:=eq_true ⟨_,Tryz.func180,of_decide_eq_false (by kernel_rfl),rfl⟩
theorem aXF:qp Tryz.prog 181=True:=eq_true ⟨_,Tryz.func181,of_decide_eq_false (by kernel_rfl),rfl⟩
theorem aXE:qp Tryz.prog 182=True:=eq_true ⟨_,Tryz.func182,of_decide_eq_false (by kernel_rfl),rfl⟩
theorem aXD:qp Tryz.prog 183=True:=eq_true ⟨_,Tryz.func183,of_decide_eq_false (by kernel_rfl),rfl⟩
theorem aXC:qp Tryz.prog 184=True:=eq_true ⟨_,Tryz.func184,of_decide_eq_false (by kernel_rfl),rfl⟩
theorem aXB:qp Tryz.prog 185=True:=eq_true ⟨_,Tryz.func185,of_decide_eq_false (by kernel_rfl),rfl⟩
theorem aXA:qp Tryz.prog 186=True:=eq_true ⟨_,Tryz.func186,of_decide_eq_false (by kernel_rfl),rfl⟩
theorem aXz:qp Tryz.prog 187=True:=eq_true ⟨_,Tryz.func187,of_decide_eq_false (by kernel_rfl),rfl⟩
theorem aXy:qp Tryz.prog 188=True:=eq_true ⟨_,Tryz.func188,of_decide_eq_false (by kernel_rfl),rfl⟩
theorem aXx:qp Tryz.prog 189=True:=eq_true ⟨_,Tryz.func189,of_decide_eq_false (by kernel_rfl),rfl⟩
theorem aXw:qp Tryz.prog 190=True:=eq_true ⟨_,Tryz.func190,of_decide_eq_false (by kernel_rfl),rfl⟩
theorem aXv:qp Tryz.prog 191=True:=eq_true ⟨_,Tryz.func191,of_decide_eq_false (by kernel_rfl),rfl⟩
theorem aXu:qp Tryz.prog 192=True:=eq_true ⟨_,Tryz.func192,of_decide_eq_false (by kernel_rfl),rfl⟩
theorem aXt:qp Tryz.prog 193=True:=eq_true ⟨_,Tryz.func193,of_decide_eq_false (by kernel_rfl),rfl⟩
theorem aXs:qp Tryz.prog 194=True:=eq_true ⟨_,Tryz.func194,of_decide_eq_false (by kernel_rfl),rfl⟩
theorem aXr:qp Tryz.prog 195=True:=eq_true ⟨_,Tryz.func195,of_decide_eq_false (by kernel_rfl),rfl⟩
theorem aXq:qp Tryz.prog 196=True:=eq_true ⟨_,Tryz.func196,of_decide_eq_false (by kernel_rfl),rfl⟩
theorem aXp:qp Tryz.prog 197=True:=eq_true ⟨_,Tryz.func197,of_decide_eq_false (by kernel_rfl),rfl⟩
theorem aXo:qp Tryz.prog 198=True:=eq_true ⟨_,Tryz.func198,of_decide_eq_false (by kernel_rfl),rfl⟩
theorem aXn:qp Tryz.prog 199=True:=eq_true ⟨_,Tryz.func199,of_decide_eq_false (by kernel_rfl),rfl⟩
theorem aXm:qp Tryz.prog 200=True:=eq_true ⟨_,Tryz.func200,of_decide_eq_false (by kernel_rfl),rfl⟩
theorem aXl:qp Tryz.prog 201=True:=eq_true ⟨_,Tryz.func201,of_decide_eq_false (by kernel_rfl),rfl⟩
theorem aXk:qp Tryz.prog 202=True:=eq_true ⟨_,Tryz.func202,of_decide_eq_false (by kernel_rfl),rfl⟩
theorem aXj:qp Tryz.prog 203=True:=eq_true ⟨_,Tryz.func203,of_decide_eq_false (by kernel_rfl),rfl⟩
theorem aXi:qp Tryz.prog 204=True:=eq_true ⟨_,Tryz.func204,of_decide_eq_false (by kernel_rfl),rfl⟩
theorem aXh:qp Tryz.prog 205=True:=eq_true ⟨_,Tryz.func205,of_decide_eq_false (by kernel_rfl),rfl⟩
theorem aXg:qp Tryz.prog 206=True:=eq_true ⟨_,Tryz.func206,of_decide_eq_false (by kernel_rfl),rfl⟩
theorem aXf:qp Tryz.prog 207=True:=eq_true ⟨_,Tryz.func207,of_decide_eq_false (by kernel_rfl),rfl⟩
theorem aXe:qp Tryz.prog 208=True:=eq_true ⟨_,Tryz.func208,of_decide_eq_false (by kernel_rfl),rfl⟩
theorem aXd:qp Tryz.prog 209=True:=eq_true ⟨_,Tryz.func209,of_decide_eq_false (by kernel_rfl),rfl⟩
theorem aXc:qp Tryz.prog 210=True:=eq_true ⟨_,Tryz.func210,of_decide_eq_false (by kernel_rfl),rfl⟩
theorem aXb:qp Tryz.prog 211=True:=eq_true ⟨_,Tryz.func211,of_decide_eq_false (by kernel_rfl),rfl⟩
theorem aXa:qp Tryz.prog 212=True:=eq_true ⟨_,Tryz.func212,of_decide_eq_false (by kernel_rfl),rfl⟩
theorem aW9:qp Tryz.prog 213=True:=eq_true ⟨_,Tryz.func213,of_decide_eq_false (by kernel_rfl),rfl⟩
theorem aW8:qp Tryz.prog 214=True:=eq_true ⟨_,Tryz.func214,of_decide_eq_false (by kernel_rfl),rfl⟩
theorem aW7:qp Tryz.prog 215=True:=eq_true ⟨_,Tryz.func215,of_decide_eq_false (by kernel_rfl),rfl⟩
theorem aW6:qp Tryz.prog 216=True:=eq_true ⟨_,Tryz.func216,of_decide_eq_false (by kernel_rfl),rfl⟩
theorem aW5:qp Tryz.prog 217=True:=eq_true ⟨_,Tryz.func217,of_decide_eq_false (by kernel_rfl),rfl⟩
theorem aW4:qp Tryz.prog 218=True:=eq_true ⟨_,Tryz.func218,of_decide_eq_false (by kernel_rfl),rfl⟩
theorem aW3:qp Tryz.prog 219=True:=eq_true ⟨_,Tryz.func219,of_decide_eq_false (by kernel_rfl),rfl⟩
theorem aW2:qp Tryz.prog 220=True:=eq_true ⟨_,Tryz.func220,of_decide_eq_false (by kernel_rfl),rfl⟩
theorem aW1:qp Tryz.prog 221=True:=eq_true ⟨_,Tryz.func221,of_decide_eq_false (by kernel_rfl),rfl⟩
theorem aW0:qp Tryz.prog 222=True:=eq_true ⟨_,Tryz.func222,of_decide_eq_false (by kernel_rfl),rfl⟩
theorem aWZ:qp Tryz.prog 223=True:=eq_true ⟨_,Tryz.func223,of_decide_eq_false (by kernel_rfl),rfl⟩
theorem aWY:qp Tryz.prog 224=True:=eq_true ⟨_,Tryz.func224,of_decide_eq_false (by kernel_rfl),rfl⟩
theorem aWX:qp Tryz.prog 225=True:=eq_true ⟨_,Tryz.func225,of_decide_eq_false (by kernel_rfl),rfl⟩
theorem aWW:qp Tryz.prog 226=True:=eq_true ⟨_,Tryz.func226,of_decide_eq_false (by kernel_rfl),rfl⟩
theorem aWV:qp Tryz.prog 227=True:=eq_true ⟨_,Tryz.func227,of_decide_eq_false (by kernel_rfl),rfl⟩
theorem aWU:qp Tryz.prog 228=True:=eq_true ⟨_,Tryz.func228,of_decide_eq_false (by kernel_rfl),rfl⟩
theorem aWT:qp Tryz.prog 229=True:=eq_true ⟨_,Tryz.func229,of_decide_eq_false (by kernel_rfl),rfl⟩
theorem aWS:qp Tryz.prog 230=True:=eq_true ⟨_,Tryz.func230,of_decide_eq_false (by kernel_rfl),rfl⟩
theorem aWR:qp Tryz.prog 231=True:=eq_true ⟨_,Tryz.func231,of_decide_eq_false (by kernel_rfl),rfl⟩
theorem aWQ:qp Tryz.prog 232=True:=eq_true ⟨_,Tryz.func232,of_decide_eq_false (by kernel_rfl),rfl⟩
theorem aWP:qp Tryz.prog 233=True:=eq_true ⟨_,Tryz.func233,of_decide_eq_false (by kernel_rfl),rfl⟩
theorem aWO:qp Tryz.prog 234=True:=eq_true ⟨_,Tryz.func234,of_decide_eq_false (by kernel_rfl),rfl⟩
theorem aWN:qp Tryz.prog 235=True:=eq_true ⟨_,Tryz.func235,of_decide_eq_false (by kernel_rfl),rfl⟩
theorem aWM:qp Tryz.prog 236=True:=eq_true ⟨_,Tryz.func236,of_decide_eq_false (by kernel_rfl),rfl⟩
theorem aWL:qp Tryz.prog 237=True:=eq_true ⟨_,Tryz.func237,of_decide_eq_false (by kernel_rfl),rfl⟩
theorem aWK:qp Tryz.prog 238=True:=eq_true ⟨_,Tryz.func238,of_decide_eq_false (by kernel_rfl),rfl⟩
theorem aWJ:qp Tryz.prog 239=True:=eq_true ⟨_,Tryz.func239,of_decide_eq_false (by kernel_rfl),rfl⟩
theorem aWI:qp Tryz.prog 240=True:=eq_true ⟨_,Tryz.func240,of_decide_eq_false (by kernel_rfl),rfl⟩
theorem aWH:qp Tryz.prog 241=True:=eq_true ⟨_,Tryz.func241,of_decide_eq_false (by kernel_rfl),rfl⟩
theorem aWG:qp Tryz.prog 242=True:=eq_true ⟨_,Tryz.func242,of_decide_eq_false (by kernel_rfl),rfl⟩
theorem aWF:qp Tryz.prog 243=True:=eq_true ⟨_,Tryz.func243,of_decide_eq_false (by kernel_rfl),rfl⟩
theorem aWE:qp Tryz.prog 244=True:=eq_true ⟨_,Tryz.func244,of_decide_eq_false (by kernel_rfl),rfl⟩
theorem aWD:qp Tryz.prog 245=True:=eq_true ⟨_,Tryz.func245,of_decide_eq_false (by kernel_rfl),rfl⟩
theorem aWC:qp Tryz.prog 246=True:=eq_true ⟨_,Tryz.func246,of_decide_eq_false (by kernel_rfl),rfl⟩
theorem aWB:qp Tryz.prog 247=True:=eq_true ⟨_,Tryz.func247,of_decide_eq_false (by kernel_rfl),rfl⟩
theorem aWA:qp Tryz.prog 248=True:=eq_true ⟨_,Tryz.func248,of_decide_eq_false (by kernel_rfl),rfl⟩
theorem aWz:qp Tryz.prog 249=True:=eq_true ⟨_,Tryz.func249,of_decide_eq_false (by kernel_rfl),rfl⟩
theorem aWy:qp Tryz.prog 250=True:=eq_true ⟨_,Tryz.func250,of_decide_eq_false (by kernel_rfl),rfl⟩
theorem aWx:qp Tryz.prog 251=True:=eq_true ⟨_,Tryz.func251,of_decide_eq_false (by kernel_rfl),rfl⟩
theorem aWw:qp Tryz.prog 252=True:=eq_true ⟨_,Tryz.func252,of_decide_eq_false (by kernel_rfl),rfl⟩
theorem aWv:qp Tryz.prog 253=True:=eq_true ⟨_,Tryz.func253,of_decide_eq_false (by kernel_rfl),rfl⟩
theorem aWu:qp Tryz.prog 254=True:=eq_true ⟨_,Tryz.func254,of_decide_eq_false (by kernel_rfl),rfl⟩
theorem aWt:qp Tryz.prog 255=True:=eq_true ⟨_,Tryz.func255,of_decide_eq_false (by kernel_rfl),rfl⟩
theorem aWs:qp Tryz.prog 256=True:=eq_true ⟨_,Tryz.func256,of_decide_eq_false (by kernel_rfl),rfl⟩
theorem aWr:qp Tryz.prog 257=True:=eq_true ⟨_,Tryz.func257,of_decide_eq_false (by kernel_rfl),rfl⟩
theorem aWq:qp Tryz.prog 258=True:=eq_true ⟨_,Tryz.func258,of_decide_eq_false (by kernel_rfl),rfl⟩
theorem aWp:qp Tryz.prog 259=True:=eq_true ⟨_,Tryz.func259,of_decide_eq_false (by kernel_rfl),rfl⟩
theorem aWo:qp Tryz.prog 260=True:=eq_true ⟨_,Tryz.func260,of_decide_eq_false (by kernel_rfl),rfl⟩
theorem aWn:qp Tryz.prog 261=True:=eq_true ⟨_,Tryz.func261,of_decide_eq_false (by kernel_rfl),rfl⟩
theorem aWm:qp Tryz.prog 262=True:=eq_true ⟨_,Tryz.func262,of_decide_eq_false (by kernel_rfl),rfl⟩
theorem aWl:qp Tryz.prog 263=True:=eq_true ⟨_,Tryz.func263,of_decide_eq_false (by kernel_rfl),rfl⟩
theorem aWk:qp Tryz.prog 264=True:=eq_true ⟨_,Tryz.func264,of_decide_eq_false (by kernel_rfl),rfl⟩
theorem aWj:qp Tryz.prog 265=True:=eq_true ⟨_,Tryz.func265,of_decide_eq_false (by kernel_rfl),rfl⟩
theorem aWi:qp Tryz.prog 266=True:=eq_true ⟨_,Tryz.func266,of_decide_eq_false (by kernel_rfl),rfl⟩
theorem aWh:qp Tryz.prog 267=True:=eq_true ⟨_,Tryz.func267,of_decide_eq_false (by kernel_rfl),rfl⟩
theorem aWg:qp Tryz.prog 268=True:=eq_true ⟨_,Tryz.func268,of_decide_eq_false (by kernel_rfl),rfl⟩
theorem aWf:qp Tryz.prog 269=True:=eq_true ⟨_,Tryz.func269,of_decide_eq_false (by kernel_rfl),rfl⟩
theorem aWe:qp Tryz.prog 270=True:=eq_true ⟨_,Tryz.func270,of_decide_eq_false (by kernel_rfl),rfl⟩
theorem aWd:qp Tryz.prog 271=True:=eq_true ⟨_,Tryz.func271,of_decide_eq_false (by kernel_rfl),rfl⟩
theorem aWc:qp Tryz.prog 272=True:=eq_true ⟨_,Tryz.func272,of_decide_eq_false (by kernel_rfl),rfl⟩
theorem aWb:qp Tryz.prog 273=True:=eq_true ⟨_,Tryz.func273,of_decide_eq_false (by kernel_rfl),rfl⟩
theorem aWa:qp Tryz.prog 274=True:=eq_true ⟨_,Tryz.func274,of_decide_eq_false (by kernel_rfl),rfl⟩
theorem aV9:qp Tryz.prog 275=True:=eq_true ⟨_,Tryz.func275,of_decide_eq_false (by kernel_rfl),rfl⟩
theorem aV8:qp Tryz.prog 276=True:=eq_true ⟨_,Tryz.func276,of_decide_eq_false (by kernel_rfl),rfl⟩
theorem aV7:qp Tryz.prog 277=True:=eq_true ⟨_,Tryz.func277,of_decide_eq_false (by kernel_rfl),rfl⟩
theorem aV6:qp Tryz.prog 278=True:=eq_true ⟨_,Tryz.func278,of_decide_eq_false (by kernel_rfl),rfl⟩
theorem aV5:qp Tryz.prog 279=True:=eq_true ⟨_,Tryz.func279,of_decide_eq_false (by kernel_rfl),rfl⟩
theorem aV4:qp Tryz.prog 280=True:=eq_true ⟨_,Tryz.func280,of_decide_eq_false (by kernel_rfl),rfl⟩
theorem aV3:qp Tryz.prog 281=True:=eq_true ⟨_,Tryz.func281,of_decide_eq_false (by kernel_rfl),rfl⟩
theorem aV2:qp Tryz.prog 282=True:=eq_true ⟨_,Tryz.func282,of_decide_eq_false (by kernel_rfl),rfl⟩
theorem aV1:qp Tryz.prog 283=True:=eq_true ⟨_,Tryz.func283,of_decide_eq_false (by kernel_rfl),rfl⟩
theorem aV0:qp Tryz.prog 284=True:=eq_true ⟨_,Tryz.func284,of_decide_eq_false (by kernel_rfl),rfl⟩
theorem aVZ:qp Tryz.prog 285=True:=eq_true ⟨_,Tryz.func285,of_decide_eq_false (by kernel_rfl),rfl⟩
theorem aVY:qp Tryz.prog 286=True:=eq_true ⟨_,Tryz.func286,of_decide_eq_false (by kernel_rfl),rfl⟩
theorem aVX:qp Tryz.prog 287=True:=eq_true ⟨_,Tryz.func287,of_decide_eq_false (by kernel_rfl),rfl⟩
theorem aVW:qp Tryz.prog 288=True:=eq_true ⟨_,Tryz.func288,of_decide_eq_false (by kernel_rfl),rfl⟩
theorem aVV:qp Tryz.prog 289=True:=eq_true ⟨_,Tryz.func289,of_decide_eq_false (by kernel_rfl),rfl⟩
theorem aVU:qp Tryz.prog 290=True:=eq_true ⟨_,Tryz.func290,of_decide_eq_false (by kernel_rfl),rfl⟩
theorem aVT:qp Tryz.prog 291=True:=eq_true ⟨_,Tryz.func291,of_decide_eq_false (by kernel_rfl),rfl⟩
theorem aVS:qp Tryz.prog 292=True:=eq_true ⟨_,Tryz.func292,of_decide_eq_false (by kernel_rfl),rfl⟩
theorem aVR:qp Tryz.prog 293=True:=eq_true ⟨_,Tryz.func293,of_decide_eq_false (by kernel_rfl),rfl⟩
theorem aVQ:qp Tryz.prog 294=True:=eq_true ⟨_,Tryz.func294,of_decide_eq_false (by kernel_rfl),rfl⟩
theorem aVP:qp Tryz.prog 295=True:=eq_true ⟨_,Tryz.func295,of_decide_eq_false (by kernel_rfl),rfl⟩
theorem aVO:qp Tryz.prog 296=True:=eq_true ⟨_,Tryz.func296,of_decide_eq_false (by kernel_rfl),rfl⟩
theorem aVN:qp Tryz.prog 297=True:=eq_true ⟨_,Tryz.func297,of_decide_eq_false (by kernel_rfl),rfl⟩
theorem aVM:qp Tryz.prog 298=True:=eq_true ⟨_,Tryz.func298,of_decide_eq_false (by kernel_rfl),rfl⟩
theorem aVL:qp Tryz.prog 299=True:=eq_true ⟨_,Tryz.func299,of_decide_eq_false (by kernel_rfl),rfl⟩
theorem aVK:qp Tryz.prog 300=True:=eq_true ⟨_,Tryz.func300,of_decide_eq_false (by kernel_rfl),rfl⟩
theorem aVJ:qp Tryz.prog 301=True:=eq_true ⟨_,Tryz.func301,of_decide_eq_false (by kernel_rfl),rfl⟩
theorem aVI:qp Tryz.prog 302=True:=eq_true ⟨_,Tryz.func302,of_decide_eq_false (by kernel_rfl),rfl⟩
theorem aVH:qp Tryz.prog 303=True:=eq_true ⟨_,Tryz.func303,of_decide_eq_false (by kernel_rfl),rfl⟩
theorem aVG:qp Tryz.prog 304=True:=eq_true ⟨_,Tryz.func304,of_decide_eq_false (by kernel_rfl),rfl⟩
theorem aVF:qp Tryz.prog 305=True:=eq_true ⟨_,Tryz.func305,of_decide_eq_false (by kernel_rfl),rfl⟩
theorem aVE:qp Tryz.prog 306=True:=eq_true ⟨_,Tryz.func306,of_decide_eq_false (by kernel_rfl),rfl⟩
theorem aVD:qp Tryz.prog 307=True:=eq_true ⟨_,Tryz.func307,of_decide_eq_false (by kernel_rfl),rfl⟩
theorem aVC:qp Tryz.prog 308=True:=eq_true ⟨_,Tryz.func308,of_decide_eq_false (by kernel_rfl),rfl⟩
theorem aVB:qp Tryz.prog 309=True:=eq_true ⟨_,Tryz.func309,of_decide_eq_false (by kernel_rfl),rfl⟩
theorem aVA:qp Tryz.prog 310=True:=eq_true ⟨_,Tryz.func310,of_decide_eq_false (by kernel_rfl),rfl⟩
theorem aVz:qp Tryz.prog 311=True:=eq_true ⟨_,Tryz.func311,of_decide_eq_false (by kernel_rfl),rfl⟩
theorem aVy:qp Tryz.prog 312=True:=eq_true ⟨_,Tryz.func312,of_decide_eq_false (by kernel_rfl),rfl⟩
theorem aVx:qp Tryz.prog 313=True:=eq_true ⟨_,Tryz.func313,of_decide_eq_false (by kernel_rfl),rfl⟩
theorem aVw:qp Tryz.prog 314=True:=eq_true ⟨_,Tryz.func314,of_decide_eq_false (by kernel_rfl),rfl⟩
theorem aVv:qp Tryz.prog 315=True:=eq_true ⟨_,Tryz.func315,of_decide_eq_false (by kernel_rfl),rfl⟩
theorem aVu:qp Tryz.prog 316=True:=eq_true ⟨_,Tryz.func316,of_decide_eq_false (by kernel_rfl),rfl⟩
theorem aVt:qp Tryz.prog 317=True:=eq_true ⟨_,Tryz.func317,of_decide_eq_false (by kernel_rfl),rfl⟩
theorem aVs:qp Tryz.prog 318=True:=eq_true ⟨_,Tryz.func318,of_decide_eq_false (by kernel_rfl),rfl⟩
theorem aVr:qp Tryz.prog 319=True:=eq_true ⟨_,Tryz.func319,of_decide_eq_false (by kernel_rfl),rfl⟩
theorem aVq:qp Tryz.prog 320=True:=eq_true ⟨_,Tryz.func320,of_decide_eq_false (by kernel_rfl),rfl⟩
theorem aVp:qp Tryz.prog 321=True:=eq_true ⟨_,Tryz.func321,of_decide_eq_false (by kernel_rfl),rfl⟩
theorem aVo:qp Tryz.prog 322=True:=eq_true ⟨_,Tryz.func322,of_decide_eq_false (by kernel_rfl),rfl⟩
theorem aVn:qp Tryz.prog 323=True:=eq_true ⟨_,Tryz.func323,of_decide_eq_false (by kernel_rfl),rfl⟩
theorem aVm:qp Tryz.prog 324=True:=eq_true ⟨_,Tryz.func324,of_decide_eq_false (by kernel_rfl),rfl⟩
theorem aVl:qp Tryz.prog 325=True:=eq_true ⟨_,Tryz.func325,of_decide_eq_false (by kernel_rfl),rfl⟩
theorem aVk:qp Tryz.prog 326=True:=eq_true ⟨_,Tryz.func326,of_decide_eq_false (by kernel_rfl),rfl⟩
theorem aVj:qp Tryz.prog 327=True:=eq_true ⟨_,Tryz.func327,of_decide_eq_false (by kernel_rfl),rfl⟩
theorem aVi:qp Tryz.prog 328=True:=eq_true ⟨_,Tryz.func328,of_decide_eq_false (by kernel_rfl),rfl⟩
theorem aVh:qp Tryz.prog 329=True:=eq_true ⟨_,Tryz.func329,of_decide_eq_false (by kernel_rfl),rfl⟩
theorem aVg:qp Tryz.prog 330=True:=eq_true ⟨_,Tryz.func330,of_decide_eq_false (by kernel_rfl),rfl⟩
theorem aVf:qp Tryz.prog 331=True:=eq_true ⟨_,Tryz.func331,of_decide_eq_false (by kernel_rfl),rfl⟩
theorem aVe:qp Tryz.prog 354=True:=eq_true ⟨_,Tryz.func354,of_decide_eq_false (by kernel_rfl),rfl⟩
attribute [go_sem] ty1 aS3 aNU aAE apT aS1 aS2 ty2 aS0 aNv
attribute [go_sem] awq aoj aSY aSZ ty3 aSX aM6 av4 an4 aSV
attribute [go_sem] aSW ty4 aSU aMB avT anS aSS aST ty5 aSR
attribute [go_sem] aMf avL anK aSP aSQ ty6 aSO aLN avB anA
attribute [go_sem] aSM aSN ty7 aSL aLi avq anm aSJ aSK aY7
attribute [go_sem] bgI aY6 bgH aY5 bgG aY4 bgF bma ty8 aSI
attribute [go_sem] aKN avf am7 aSG aSH aY3 bgE aY2 bgD aY1
attribute [go_sem] bgC aY0 bgB bl9 ty9 aSF aKl au5 amX aSD
attribute [go_sem] aSE bkE aN3 aER arl alb aN1 aN2 bkD aN0
attribute [go_sem] aEm aq9 ak0 aNY aNZ bkC aNX aDU aqZ akQ
attribute [go_sem] aNV aNW bkB aNT azO apA ajt aNR aNS bkA
attribute [go_sem] aNQ azj apo aji aNO aNP bgr bkz aNN ayR
attribute [go_sem] ape ai8 aNL aNM bgq bky aNK ayp ao3 aiY
attribute [go_sem] aNI aNJ aQ3 aUd aQ2 aUc bi2 bkx aNH axX
attribute [go_sem] aoS aiO aNF aNG aQ1 aUb aQ0 aUa bi1 bkw
attribute [go_sem] aNE aw7 aoA aiw aNC aND bkv aNB awN aot
attribute [go_sem] aip aNz aNA bgp bku aNy awr aok aih aNw
attribute [go_sem] aNx aQZ aT9 aQY aT8 bi0 bkt aNu awc aod
attribute [go_sem] aic aNs aNt aQX aT7 aQW aT6 biZ bks aNr
attribute [go_sem] awb aoc aib aNp aNq bkr aNo awa aob aia
attribute [go_sem] aNm aNn bkq aNl av9 aoa ah9 aNj aNk bkp
attribute [go_sem] aNi av8 an9 ah8 aNg aNh bgo bko aNf av7
attribute [go_sem] an8 ah7 aNd aNe aQV aT5 biY bkn aNc av6
attribute [go_sem] an7 ah6 aNa aNb aQU aT4 biX bkm aM9 av5
attribute [go_sem] an5 ah5 aM7 aM8 aQT aT3 aQS aT2 biW bkl
attribute [go_sem] aM5 av3 an3 ah4 aM3 aM4 aQR aT1 aQQ aT0
attribute [go_sem] biV bkk aM2 av2 an1 ah3 aM0 aM1 aQP aTZ
attribute [go_sem] aQO aTY biU bkj aMZ av1 an0 ah2 aMX aMY
attribute [go_sem] aQN aTX aQM aTW biT bki aMW av0 anZ ah1
attribute [go_sem] aMU aMV bkh aMT avZ anY ah0 aMR aMS bkg
attribute [go_sem] aMQ avY anX ahZ aMO aMP bkf aMN avX anW
attribute [go_sem] ahY aML aMM bke aMK avW anV ahX aMI aMJ
attribute [go_sem] bkd aMH avV anU ahW aMF aMG bkc aME avU
attribute [go_sem] anT ahV aMC aMD bkb aMA avS anR ahU aMy
attribute [go_sem] aMz bka aMx avR anQ ahT aMv aMw bj9 aMu
attribute [go_sem] avQ anP ahS aMs aMt bj8 aMr avP anO ahR
attribute [go_sem] aMp aMq bj7 aMo avO anN ahQ aMm aMn bj6
attribute [go_sem] aMl avN anM ahP aMj aMk bj5 aMi avM anL
attribute [go_sem] ahO aMg aMh bj4 aMe avK anJ ahN aMc aMd
attribute [go_sem] bj3 aMb avJ anI ahM aL9 aMa bj2 aL8 avI
attribute [go_sem] anH ahL aL6 aL7 bj1 aL5 avH anG ahK aL3
attribute [go_sem] aL4 bj0 aL2 avG anF ahJ aL0 aL1 bjZ aLZ
attribute [go_sem] avF anE ahI aLX aLY bjY aLW avE anD ahH
attribute [go_sem] aLU aLV bjX aLT avD anC ahG aLR aLS bjW
attribute [go_sem] aLQ avC anB ahF aLO aLP bjV aLM avA anz
attribute [go_sem] ahE aLK aLL bjU aLJ avz anx ahD aLH aLI
attribute [go_sem] bjT aLG avy anw ahC aLE aLF bjS aLD avx
attribute [go_sem] anv ahB aLB aLC bjR aLA avw anu ahA aLy
attribute [go_sem] aLz bgn bjQ aLx avv ans ahz aLv aLw aQL
attribute [go_sem] aTV aQK aTU biS bjP aLu avu anq ahy aLs
attribute [go_sem] aLt aQJ aTT aQI aTS biR bjO aLr avt anp
attribute [go_sem] ahx aLp aLq bjN aLo avs ano ahw aLm aLn
attribute [go_sem] bjM aLl avr ann ahv aLj aLk bjL aLh avp
attribute [go_sem] anl ahu aLf aLg bjK aLe avo ank aht aLc
attribute [go_sem] aLd bjJ aLb avn anj ahs aK9 aLa bjI aK8
attribute [go_sem] avm ani ahr aK6 aK7 aQH aTR biQ bjH aK5
attribute [go_sem] avl ang ahq aK3 aK4 aQG aTQ aQF aTP biP
attribute [go_sem] bjG aK2 avk anf ahp aK0 aK1 aQE aTO aQD
attribute [go_sem] aTN biO bjF aKZ avj anc aho aKX aKY aQC
attribute [go_sem] aTM aQB aTL biN bjE aKW avi anb ahn aKU
attribute [go_sem] aKV aQA aTK aQz aTJ biM bjD aKT avh ana
attribute [go_sem] ahm aKR aKS bjC aKQ avg am8 ahl aKO aKP
attribute [go_sem] aQy aTI aQx aTH biL bjB aKM ave am6 ahk
attribute [go_sem] aKK aKL aQw aTG aQv aTF biK bjA aKJ avd
attribute [go_sem] am5 ahj aKH aKI bjz aKG avc am4 ahi aKE
attribute [go_sem] aKF bjy aKD avb am3 ahh aKB aKC bjx aKA
attribute [go_sem] ava am2 ahg aKy aKz bjw aKx au9 am1 ahf
attribute [go_sem] aKv aKw bjv aKu au8 am0 ahe aKs aKt bju
attribute [go_sem] aKr au7 amZ ahd aKp aKq bjt aKo au6 amY
attribute [go_sem] ahc aKm aKn bdu aFi arv alk ae6 aFg aFh
attribute [go_sem] bdt aFf aru alj ae5 aFd aFe bds aFc art
attribute [go_sem] ali ae4 aFa aFb bdr aE9 ars alh ae3 aE7
attribute [go_sem] aE8 bdq aE6 arq alg ae2 aE4 aE5 aTp bdp
attribute [go_sem] aE3 arp alf ae1 aE1 aE2 aHo aO0 aHn aOZ
attribute [go_sem] aZP bdo aE0 aro ale ae0 aEY aEZ aHm aOY
attribute [go_sem] aHl aOX aZO bdn aEX arn ald aeZ aEV aEW
attribute [go_sem] aTo bdm aEU arm alc aeY aES aET aHk aOW
attribute [go_sem] aHj aOV aZN bdl aEQ ark ala aeX aEO aEP
attribute [go_sem] aHi aOU aHh aOT aZM bdk aEN arj ak9 aeW
attribute [go_sem] aEL aEM bdj aEK ari ak8 aeV aEI aEJ bdi
attribute [go_sem] aEH arh ak7 aeU aEF aEG bdh aEE arg ak6
attribute [go_sem] aeT aEC aED bdg aEB arf ak5 aeS aEz aEA
attribute [go_sem] bdf aEy ard ak4 aeR aEw aEx aHg aOS aHf
attribute [go_sem] aOR aHe aOQ aZL bde aEv arc ak3 aeQ aEt
attribute [go_sem] aEu aHd aOP aHc aOO aHb aON aZK bdd aEs
attribute [go_sem] arb ak2 aeP aEq aEr bdc aEp ara ak1 aeO
attribute [go_sem] aEn aEo bdb aEl aq8 akZ aeN aEj aEk bda
attribute [go_sem] aEi aq7 akY aeM aEg aEh bc9 aEf aq6 akX
attribute [go_sem] aeL aEd aEe bc8 aEc aq5 akW aeK aEa aEb
attribute [go_sem] bc7 aD9 aq4 akV aeJ aD7 aD8 aHa aOM aG9
attribute [go_sem] aOL aZJ bc6 aD6 aq3 akU aeI aD4 aD5 aG8
attribute [go_sem] aOK aG7 aOJ aZI bc5 aD3 aq2 akT aeH aD1
attribute [go_sem] aD2 bc4 aD0 aq1 akS aeG aDY aDZ bc3 aDX
attribute [go_sem] aq0 akR aeF aDV aDW bc2 aDT aqY akP aeE
attribute [go_sem] aDR aDS bc1 aDQ aqX akO aeD aDO aDP bc0
attribute [go_sem] aDN aqW akN aeC aDL aDM bcZ aDK aqV akM
attribute [go_sem] aeB aDI aDJ bcY aDH aqU akL aeA aDF aDG
attribute [go_sem] bcX aDE aqT akK aez aDC aDD bcW aDB aqS
attribute [go_sem] akJ aey aDz aDA bcV aDy aqR akI aex aDw
attribute [go_sem] aDx bcU aDv aqQ akH aew aDt aDu bcT aDs
attribute [go_sem] aqP akG aev aDq aDr bcS aDp aqO akF aeu
attribute [go_sem] aDn aDo bcR aDm aqN akE aet aDk aDl bcQ
attribute [go_sem] aDj aqM akD aes aDh aDi bcP aDg aqL akC
attribute [go_sem] aer aDe aDf bcO aDd aqK akB aeq aDb aDc
attribute [go_sem] bcN aDa aqJ akA aep aC8 aC9 bcM aC7 aqI
attribute [go_sem] akz aeo aC5 aC6 bcL aC4 aqH aky aen aC2
attribute [go_sem] aC3 bcK aC1 aqG akx aem aCZ aC0 bcJ aCY
attribute [go_sem] aqF akw ael aCW aCX bcI aCV aqE akv aek
attribute [go_sem] aCT aCU bcH aCS aqD aku aej aCQ aCR bcG
attribute [go_sem] aCP aqC akt aei aCN aCO bcF aCM aqB aks
attribute [go_sem] aeh aCK aCL bcE aCJ aqA akr aeg aCH aCI
attribute [go_sem] bcD aCG aqz akq aef aCE aCF bcC aCD aqy
attribute [go_sem] akp aee aCB aCC bcB aCA aqx ako aed aCy
attribute [go_sem] aCz bcA aCx aqw akn aec aCv aCw bcz aCu
attribute [go_sem] aqv akm aeb aCs aCt bcy aCr aqu akl aea
attribute [go_sem] aCp aCq bcx aCo aqt akk ad9 aCm aCn bcw
attribute [go_sem] aCl aqs akj ad8 aCj aCk bcv aCi aqr aki
attribute [go_sem] ad7 aCg aCh bcu aCf aqq akh ad6 aCd aCe
attribute [go_sem] bct aCc aqp akg ad5 aCa aCb bcs aB9 aqo
attribute [go_sem] akf ad4 aB7 aB8 bcr aB6 aqn ake ad3 aB4
attribute [go_sem] aB5 bcq aB3 aqm akd ad2 aB1 aB2 bcp aB0
attribute [go_sem] aql akc ad1 aBY aBZ bco aBX aqk akb ad0
attribute [go_sem] aBV aBW bcn aBU aqj aka adY aBS aBT bcm
attribute [go_sem] aBR aqi aj9 adX aBP aBQ bcl aBO aqh aj8
attribute [go_sem] adW aBM aBN bck aBL aqg aj7 adV aBJ aBK
attribute [go_sem] bcj aBI aqf aj6 adU aBG aBH aG6 aOI aG5
attribute [go_sem] aOH aG4 aOG aZH bci aBF aqe aj5 adT aBD
attribute [go_sem] aBE aG3 aOF aG2 aOE aG1 aOD aZG bch aBC
attribute [go_sem] aqd aj4 adR aBA aBB bcg aBz aqc aj3 adQ
attribute [go_sem] aBx aBy bcf aBw aqb aj2 adP aBu aBv bce
attribute [go_sem] aBt aqa aj1 adO aBr aBs bcd aBq ap9 aj0
attribute [go_sem] adN aBo aBp bcc aBn ap8 ajZ adL aBl aBm
attribute [go_sem] bcb aBk ap7 ajY adK aBi aBj bca aBh ap6
attribute [go_sem] ajX adJ aBf aBg bb9 aBe ap5 ajW adI aBc
attribute [go_sem] aBd bb8 aBb ap4 ajV adH aA9 aBa bb7 aA8
attribute [go_sem] ap3 ajU adG aA6 aA7 bb6 aA5 ap2 ajT adF
attribute [go_sem] aA3 aA4 bb5 aA2 ap1 ajS adE aA0 aA1 bb4
attribute [go_sem] aAZ ap0 ajR adD aAX aAY bb3 aAW apZ ajQ
attribute [go_sem] adC aAU aAV bb2 aAT apY ajP adB aAR aAS
attribute [go_sem] bb1 aAQ apX ajO adA aAO aAP aTn bb0 aAN
attribute [go_sem] apW ajN adz aAL aAM bbZ aAK apV ajM ady
attribute [go_sem] aAI aAJ bbY aAH apU ajL adx aAF aAG bbX
attribute [go_sem] aAD apS ajK adw aAB aAC bbW aAA apR ajJ
attribute [go_sem] adv aAy aAz bbV aAx apQ ajI adu aAv aAw
attribute [go_sem] bbU aAu apP ajH adt aAs aAt bbT aAr apO
attribute [go_sem] ajG ads aAp aAq bbS aAo apN ajF adr aAm
attribute [go_sem] aAn bbR aAl apM ajE adq aAj aAk bbQ aAi
attribute [go_sem] apL ajD adp aAg aAh bbP aAf apK ajC ado
attribute [go_sem] aAd aAe bbO aAc apJ ajB adn aAa aAb bbN
attribute [go_sem] az9 apI ajA adm az7 az8 bbM az6 apH ajz
attribute [go_sem] adl az4 az5 bbL az3 apG ajy adk az1 az2
attribute [go_sem] bbK az0 apF ajx adj azY azZ bbJ azX apD
attribute [go_sem] ajw adi azV azW bbI azU apC ajv adh azS
attribute [go_sem] azT bbH azR apB aju adg azP azQ bbG azN
attribute [go_sem] apz ajs adf azL azM bbF azK apy ajr ade
attribute [go_sem] azI azJ bbE azH apx ajq adc azF azG bbD
attribute [go_sem] azE apw ajp adb azC azD bbC azB apv ajo
attribute [go_sem] ada azz azA bbB azy apu ajn ac9 azw azx
attribute [go_sem] bbA azv apt ajm ac8 azt azu bbz azs apr
attribute [go_sem] ajl ac7 azq azr bby azp apq ajk ac6 azn
attribute [go_sem] azo bbx azm app ajj ac5 azk azl bbw azi
attribute [go_sem] apn ajh ac4 azg azh bbv azf apm ajg ac3
attribute [go_sem] azd aze bbu azc apl ajf ac2 aza azb bbt
attribute [go_sem] ay9 apk aje ac1 ay7 ay8 bbs ay6 apj ajd
attribute [go_sem] ac0 ay4 ay5 bbr ay3 api ajc acZ ay1 ay2
attribute [go_sem] bbq ay0 aph ajb acY ayY ayZ bbp ayX apg
attribute [go_sem] aja acX ayV ayW bbo ayU apf ai9 acW ayS
attribute [go_sem] ayT bbn ayQ apc ai7 acV ayO ayP bbm ayN
attribute [go_sem] apb ai6 acU ayL ayM bbl ayK apa ai5 acT
attribute [go_sem] ayI ayJ bbk ayH ao9 ai4 acS ayF ayG bbj
attribute [go_sem] ayE ao8 ai3 acR ayC ayD bbi ayB ao7 ai2
attribute [go_sem] acQ ayz ayA bbh ayy ao6 ai1 acP ayw ayx
attribute [go_sem] bbg ayv ao5 ai0 acO ayt ayu bbf ays ao4
attribute [go_sem] aiZ acN ayq ayr bbe ayo ao1 aiX acM aym
attribute [go_sem] ayn bbd ayl ao0 aiW acL ayj ayk bbc ayi
attribute [go_sem] aoZ aiV acK ayg ayh bbb ayf aoY aiU acJ
attribute [go_sem] ayd aye bba ayc aoX aiT acI aya ayb ba9
attribute [go_sem] ax9 aoW aiS acH ax7 ax8 ba8 ax6 aoV aiR
attribute [go_sem] acG ax4 ax5 ba7 ax3 aoU aiQ acF ax1 ax2
attribute [go_sem] ba6 ax0 aoT aiP acE axY axZ ba5 axW aoR
attribute [go_sem] aiN acD axU axV ba4 axT aoQ aiM acC axR
attribute [go_sem] axS ba3 axQ aoP aiL acB axO axP ba2 axN
attribute [go_sem] aoO aiK acA axL axM ba1 axK aoN aiJ acz
attribute [go_sem] axI axJ ba0 axH aoM aiI acy axF axG baZ
attribute [go_sem] axE aoL aiH acx axC axD baY axB aoK aiG
attribute [go_sem] acw axz axA baX axy aoJ aiF acv axw axx
attribute [go_sem] baW axv aoI aiE acu axt axu baV axs aoH
attribute [go_sem] aiD act axq axr baU axp aoG aiC acs axn
attribute [go_sem] axo baT axm aoF aiB acr axk axl baS axj
attribute [go_sem] aoE aiA acq axh axi baR axg aoD aiz acp
attribute [go_sem] axe axf baQ axd aoC aiy aco axb axc baP
attribute [go_sem] axa aoB aix acn aw8 aw9 baO aw6 aoz aiv
attribute [go_sem] acm aw4 aw5 baN aw3 aoy aiu acl aw1 aw2
attribute [go_sem] baM aw0 aox ait ack awY awZ baL awX aow
attribute [go_sem] ais acj awU awW baK awT aov air aci awR
attribute [go_sem] awS baJ awQ aou aiq ach awO awP baI awM
attribute [go_sem] aor aio acg awK awL baH awJ aoq ain acf
attribute [go_sem] awH awI baG awG aop aim ace awE awF baF
attribute [go_sem] awD aoo ail acd awB awC baE awA aon aik
attribute [go_sem] acb awy awz baD awx aom aij aca awv aww
attribute [go_sem] baC awu aol aii ab9 aws awt baB awo aoh
attribute [go_sem] aig ab8 awm awn baA awl aog aif ab7 awj
attribute [go_sem] awk baz awi aof aie ab6 awg awh bay awf
attribute [go_sem] aoe aid ab5 awd awe bl6 bl5 bl4 bl3 bl2
attribute [go_sem] bl1 bl0 blZ biB biA biz biy bix biw biv
attribute [go_sem] biu bit bis bir biq bip bio bin bim bil
attribute [go_sem] bik bij bii bih big bie bid bic bib bia
attribute [go_sem] bh9 bh8 bh7 bh6 bh5 bh4 bh3 bh2 bh1 bh0
attribute [go_sem] bhZ bhY bhX bhW bhV bhU bhT bhS bhR bhQ
attribute [go_sem] bhP bhO bhN bhM bhL bhK bhJ bhI bhH bhG
attribute [go_sem] bhF bhE bhD bhC bhB bhA bhz bhy bhx bhw
attribute [go_sem] bhv bhu bht bhs bhr bhq bho bhn bhm bhl
attribute [go_sem] bhk bhj bhi bhh bhg bhf bhe bhd bhc bhb
attribute [go_sem] bha bg9 bg8 aYY aYX aYW aYV aYU aYT aYS
attribute [go_sem] aYR aYQ aYP aYO aYN aYM aYL aYK aYJ aYI
attribute [go_sem] aYH aYG aYF aYE aYD aYC aYB aYA aYz aYy
attribute [go_sem] aYx aYw aYv aYu aYt aYs aYr aYq aYp aYo
attribute [go_sem] aYn aYm aYl aYk aYj aYi aYh aYg aYf aYe
attribute [go_sem] aYd aYc aYb aYa aX9 aX8 aX7 aX6 aX5 aX4
attribute [go_sem] aX3 aX2 aX1 aX0 aXZ aXY aXX aXW aXV aXU
attribute [go_sem] aXT aXS aXR aXQ aXP aXO aXN aXM aXL aXK
attribute [go_sem] aXJ aXI aXH aXG aXF aXE aXD aXC aXB aXA
attribute [go_sem] aXz aXy aXx aXw aXv aXu aXt aXs aXr aXq
attribute [go_sem] aXp aXo aXn aXm aXl aXk aXj aXi aXh aXg
attribute [go_sem] aXf aXe aXd aXc aXb aXa aW9 aW8 aW7 aW6
attribute [go_sem] aW5 aW4 aW3 aW2 aW1 aW0 aWZ aWY aWX aWW
attribute [go_sem] aWV aWU aWT aWS aWR aWQ aWP aWO aWN aWM
attribute [go_sem] aWL aWK aWJ aWI aWH aWG aWF aWE aWD aWC
attribute [go_sem] aWB aWA aWz aWy aWx aWw aWv aWu aWt aWs
attribute [go_sem] aWr aWq aWp aWo aWn aWm aWl aWk aWj aWi
attribute [go_sem] aWh aWg aWf aWe aWd aWc aWb aWa aV9 aV8
attribute [go_sem] aV7 aV6 aV5 aV4 aV3 aV2 aV1 aV0 aVZ aVY
attribute [go_sem] aVX aVW aVV aVU aVT aVS aVR aVQ aVP aVO
attribute [go_sem] aVN aVM aVL aVK aVJ aVI aVH aVG aVF aVE
attribute [go_sem] aVD aVC aVB aVA aVz aVy aVx aVw aVv aVu
attribute [go_sem] aVt aVs aVr aVq aVp aVo aVn aVm aVl aVk
attribute [go_sem] aVj aVi aVh aVg aVf aVe
end Go.Ab
namespace Go.Ab
open Go Go.Proofs
set_option maxRecDepth 100000 in
theorem afV(U V:List Int)(j:Nat)(hU:gd U)(hV:gd V)(lU:U.length≤2000000)(h2:2≤V.length)(hj:j+V.length<U.length)(hv1:32768≤V.getD (V.length-1) 0)(hW:vl (U.drop j)<65536*vl V):
  Con Tryz.prog 329 true [.sl U.length (qe U),.sl V.length (qe V),.v (.int .i64 j)] [] (fun r hs bs=>∃q:Int,r=.v (.int .i64 q)∧hs=[]∧bs=[]∧(0≤q∧q<65536)∧vl (U.drop j)<(q+1)*vl V∧q*vl V<vl (U.drop j)+vl V):=by
 refine Con.of_aw Tryz.func329 rfl Tryz.ntmps329 (by simp) (by simp) (by simp) (W.sound ?_)
 show @W Tryz.prog 76 ⟨_⟩ ⟨fun x σ=>@qU _ _ _ ⟨_⟩ _ ⟨_⟩ x σ⟩ _ _
 have hDl:V.length<(U.drop j).length:=by simp;omega
 have hz:=agi (yG hU j) hV hDl hW
 have hw:=aSv hDl h2 hz
 have hvv:=aKc h2
 rw[jg,jg,jg]at hw
 have hx0:=qX (yo (yG hU j) (V.length-2))
 have hx1:=QT (yo (yG hU j) (V.length-2))
 have hy0:=qX (yo hV (V.length-2))
 have hy1:=QT (yo hV (V.length-2))
 rw[List.length_take,Nat.min_eq_left (by omega)]at hx1 hy1
 have gu0:=qL hU (j+V.length)
 have gu1:=qL hU (j+(V.length-1))
 have gu2:=qL hU (j+(V.length-2))
 have gv1:=qL hV (V.length-1)
 have gv2:=qL hV (V.length-2)
 have htop:=aUK hw hvv ⟨hx0,hx1⟩ ⟨hy0,hy1⟩ gu2.1 gu1.1 gv2.2 hW
 have e0:((j:Int)+(V.length:Int)).toNat=j+V.length:=by omega
 have e1:((j:Int)+(V.length:Int)-1).toNat=j+(V.length-1):=by omega
 have e2:((j:Int)+(V.length:Int)-2).toNat=j+(V.length-2):=by omega
 have f1:((V.length:Int)-1).toNat=V.length-1:=by omega
 have f2:((V.length:Int)-2).toNat=V.length-2:=by omega
 simp(disch:=omega)only[go_sem]
 refine qo rfl [⟨0,[],[]⟩,⟨1,[],[]⟩,⟨2,[],[]⟩,⟨3,[],[]⟩,⟨4,[],[]⟩,⟨5,[],[]⟩,⟨6,[],[]⟩,⟨7,[5],[]⟩,⟨8,[5],[]⟩,⟨9,[5],[]⟩,⟨10,[5],[]⟩,⟨11,[5],[]⟩,⟨12,[5],[]⟩,⟨13,[5],[]⟩,⟨14,[],[]⟩,⟨15,[],[]⟩] (by kernel_rfl) ?_
 simp(disch:=omega)only[go_sem,e0,e1]
 generalize hu0:U.getD (j+V.length) 0=u0 at*
 generalize hu1:U.getD (j+(V.length-1)) 0=u1 at*
 generalize hu2:U.getD (j+(V.length-2)) 0=u2 at*
 refine⟨by omega,by omega,by omega,by omega,?_⟩
 refine qo rfl [⟨0,[],[]⟩,⟨1,[],[]⟩,⟨2,[],[]⟩,⟨3,[],[]⟩,⟨4,[],[]⟩,⟨5,[],[]⟩,⟨6,[],[]⟩,⟨7,[5],[]⟩,⟨8,[5],[]⟩,⟨9,[5],[]⟩,⟨10,[5],[]⟩,⟨11,[5],[]⟩,⟨12,[5],[]⟩,⟨13,[5],[]⟩,⟨14,[12],[]⟩,⟨15,[],[]⟩] (by kernel_rfl) ?_
 simp(disch:=omega)only[go_sem,f1]
 generalize hvv1:V.getD (V.length-1) 0=v1 at*
 generalize hvv2:V.getD (V.length-2) 0=v2 at*
 generalize htt:u0*65536+u1=top at*
 refine⟨by omega,by omega,by omega,by omega,by omega,by omega,?_⟩
 have hq0:0≤top/v1:=Int.ediv_nonneg (by omega) (by omega)
 have hq1:top/v1≤65537:=by
  have:top/v1<65538:=Int.ediv_lt_of_lt_mul (by omega) (by omega)
  omega
 have hr0:=Int.emod_nonneg top (show v1≠0 by omega)
 have hr1:=Int.emod_lt_of_pos top (show 0<v1 by omega)
 have hqr:=Int.emod_add_mul_ediv top v1
 have hini:=aPW hw hvv ⟨hx0,hx1⟩ ⟨hy0,hy1⟩ gu2 gv2.1 hq0 (show top<(top/v1+1)*v1 by rw[Int.add_mul,Int.mul_comm (top/v1)];omega)
 have hqr':top/v1*v1+top % v1=top:=by rw[Int.mul_comm];omega
 generalize top/v1=q0 at*
 generalize top % v1=r0 at*
 refine qj (fun x:Int×Int=>[(0,.sl U.length (qe U)),(1,.sl V.length (qe V)),(2,.v (.int .i64 j)),(7,.v (.int .i64 V.length)),(9,.v (.int .i64 x.1)),(10,.v (.int .i64 x.2))])
  (fun _=>[]) (fun x=>(0≤x.1∧x.1≤65537)∧(0≤x.2∧x.2<65536)∧x.1*v1+x.2=top∧vl (U.drop j)<(x.1+1)*vl V) (fun x=>x.1.toNat) (q0,r0) ⟨⟨hq0,hq1⟩,⟨hr0,by omega⟩,hqr',hini⟩
  (Le.lst [] _ _ rfl (by simp(disch:=omega)only[go_sem];try omega) (by simp(disch:=omega)only[go_sem])) ?_
 rintro⟨q,r⟩ ⟨hq,hr,hqr2,hlt⟩
 dsimp only at hq hr hqr2 hlt ⊢
 have hqv:0≤q*v2∧q*v2≤65537*65535:=⟨Int.mul_nonneg hq.1 gv2.1,Int.mul_le_mul hq.2 (by omega) gv2.1 (by omega)⟩
 simp(disch:=omega)only[go_sem]
 refine qo rfl [⟨0,[],[]⟩,⟨1,[],[]⟩,⟨2,[],[]⟩,⟨3,[],[]⟩,⟨4,[],[]⟩,⟨5,[],[]⟩,⟨6,[],[]⟩,⟨7,[],[]⟩,⟨8,[],[]⟩,⟨9,[],[]⟩,⟨10,[8],[]⟩,⟨11,[8],[]⟩,⟨12,[8],[]⟩,⟨13,[8],[]⟩,⟨14,[8],[]⟩,⟨15,[8],[]⟩,⟨16,[8],[]⟩,⟨17,[8],[]⟩,⟨18,[8],[]⟩,⟨19,[8],[]⟩,⟨20,[],[]⟩,⟨21,[],[]⟩] (by kernel_rfl) ?_
 simp(disch:=omega)only[go_sem]
 refine zN (fun h1=>?_) (fun h1=>?_)
 ·simp(disch:=omega)only[go_sem,h1,e2,f2,hu2,hvv2]
  refine⟨by omega,by omega,by omega,by omega,qg (fun h2=>?_) (fun h2=>?_)⟩
  ·simp(disch:=omega)only[go_sem,h2,f1,hvv1]
   have hst:=asD hw hvv ⟨hx0,hx1⟩ ⟨hy0,hy1⟩ hW gv2.1 (by omega) hq.1 hqr2 (.inr h2)
   have hqp:0<q:=by
    rcases(by omega:0<q∨q=0)with h|h
    ·exact h
    ·subst h;omega
   have hm:(q-1)*v1+(r+v1)=top:=by rw[Int.sub_mul];omega
   refine⟨by omega,by omega,qg (fun h3=>?_) (fun h3=>?_)⟩
   ·simp(disch:=omega)only[go_sem,h3]
    have h4:q-1<65536:=by
     rcases(by omega:q-1<65536∨65536≤q-1)with h|h
     ·exact h
     ·have:=Int.mul_le_mul_of_nonneg_right h (show 0≤v1 by omega)
      omega
    have h5:(q-1)*v2≤(r+v1)*65536+u2:=by
     have:(q-1)*v2≤65535*65535:=Int.mul_le_mul (by omega) (by omega) gv2.1 (by omega)
     omega
    have h6:=afo hw hvv ⟨hx0,hx1⟩ ⟨hy0,hy1⟩ gv2.1 (by omega) ⟨by omega,h4⟩ hm h5
    exact qy (by simp(disch:=omega)only[go_sem]) (by simp(disch:=omega)only[go_sem]) ⟨q-1,rfl,rfl,rfl,⟨by omega,h4⟩,by rw[show q-1+1=q by omega];exact hst,h6⟩
   ·simp(disch:=omega)only[go_sem,h3]
    refine qc (q-1,r+v1) [] ⟨by show 0≤q-1∧q-1≤65537;omega,by show 0≤r+v1∧r+v1<65536;omega,hm,by show _<(q-1+1)*vl V;rw[show q-1+1=q by omega];exact hst⟩ (by show(q-1).toNat<q.toNat;omega) rfl (by simp(disch:=omega)only[go_sem];try omega) (by simp(disch:=omega)only[go_sem])
  ·simp(disch:=omega)only[go_sem,h2]
   have h6:=afo hw hvv ⟨hx0,hx1⟩ ⟨hy0,hy1⟩ gv2.1 (by omega) ⟨hq.1,by omega⟩ hqr2 (by omega)
   exact qy (by simp(disch:=omega)only[go_sem]) (by simp(disch:=omega)only[go_sem]) ⟨q,rfl,rfl,rfl,⟨hq.1,by omega⟩,hlt,h6⟩
 ·simp(disch:=omega)only[go_sem,h1,f1,hvv1]
  have hst:=asD hw hvv ⟨hx0,hx1⟩ ⟨hy0,hy1⟩ hW gv2.1 (by omega) hq.1 hqr2 (.inl h1)
  have hqp:0<q:=by omega
  have hm:(q-1)*v1+(r+v1)=top:=by rw[Int.sub_mul];omega
  refine⟨by omega,by omega,qg (fun h3=>?_) (fun h3=>?_)⟩
  ·simp(disch:=omega)only[go_sem,h3]
   have h4:q-1<65536:=by
    rcases(by omega:q-1<65536∨65536≤q-1)with h|h
    ·exact h
    ·have:=Int.mul_le_mul_of_nonneg_right h (show 0≤v1 by omega)
     omega
   have h5:(q-1)*v2≤(r+v1)*65536+u2:=by
    have:(q-1)*v2≤65535*65535:=Int.mul_le_mul (by omega) (by omega) gv2.1 (by omega)
    omega
   have h6:=afo hw hvv ⟨hx0,hx1⟩ ⟨hy0,hy1⟩ gv2.1 (by omega) ⟨by omega,h4⟩ hm h5
   exact qy (by simp(disch:=omega)only[go_sem]) (by simp(disch:=omega)only[go_sem]) ⟨q-1,rfl,rfl,rfl,⟨by omega,h4⟩,by rw[show q-1+1=q by omega];exact hst,h6⟩
  ·simp(disch:=omega)only[go_sem,h3]
   refine qc (q-1,r+v1) [] ⟨by show 0≤q-1∧q-1≤65537;omega,by show 0≤r+v1∧r+v1<65536;omega,hm,by show _<(q-1+1)*vl V;rw[show q-1+1=q by omega];exact hst⟩ (by show(q-1).toNat<q.toNat;omega) rfl (by simp(disch:=omega)only[go_sem];try omega) (by simp(disch:=omega)only[go_sem])
end Go.Ab
namespace Go.Ab
open Go Go.Proofs
theorem abq(U V:List Int)(j:Nat)(q:Int)(hU:gd U)(hV:gd V)(lU:U.length≤2000000)(hj:j+V.length<U.length)(hq:0≤q∧q<65536):
  Con Tryz.prog 330 false [.rf 10000000 0 U.length,.sl V.length (qe V),.v (.int .i64 j),.v (.int .i64 q)] [.own 1 (qe U)]
   (fun r hs bs=>∃(U':List Int) (bo:Int),r=.v (.bool (decide (U.getD (j+V.length) 0-bo<0)))∧hs=[]∧bs=[.own 1 (qe (U'.set (j+V.length) (U.getD (j+V.length) 0-bo)))]∧
    U'.length=U.length∧gd U'∧(0≤bo∧bo<65536)∧(∀t,t<j∨j+V.length≤t→U'.getD t 0=U.getD t 0)∧vl U'-65536^(j+V.length)*bo=vl U-65536^j*(q*vl V)):=by
 refine Con.of_aw Tryz.func330 rfl Tryz.ntmps330 (by simp) (by simp) (by simp) (W.sound ?_)
 show @W Tryz.prog 68 ⟨_⟩ ⟨fun x σ=>@qU _ _ _ ⟨_⟩ _ ⟨_⟩ x σ⟩ _ _
 simp(disch:=omega)only[go_sem]
 refine qj (fun x:Nat×List Int×Int=>[(0,.rf 10000000 0 U.length),(1,.sl V.length (qe V)),(2,.v (.int .i64 j)),(3,.v (.int .i64 q)),(9,.v (.int .i64 x.2.2)),(13,.sl V.length (qe V)),(14,.v (.int .i64 V.length)),(15,.v (.int .i64 x.1))])
  (fun x=>[(10000000,.own 1 (qe x.2.1))])
  (fun x=>x.1≤V.length∧x.2.1.length=U.length∧gd x.2.1∧(0≤x.2.2∧x.2.2<65536)∧(∀t,t<j∨j+x.1≤t→x.2.1.getD t 0=U.getD t 0)∧vl x.2.1-65536^(j+x.1)*x.2.2=vl U-65536^j*(q*vl (V.take x.1)))
  (fun x=>V.length-x.1) (0,U,0) ⟨by simp,rfl,hU,by simp,fun _ _=>rfl,by simp[vl]⟩
  (Le.lst [] _ _ rfl (by simp(disch:=omega)only[go_sem];try omega) (by simp(disch:=omega)only[go_sem])) ?_
 rintro⟨i,U1,bo⟩ ⟨hi,hl1,hg1,hbo,hsame,hval⟩
 dsimp only at hi hl1 hg1 hbo hsame hval ⊢
 simp(disch:=omega)only[go_sem]
 refine qg (fun h1=>?_) (fun h1=>?_)
 ·have hx:=qL hV i
  have hu:=qL hg1 (j+i)
  have hqx:0≤q*V.getD i 0∧q*V.getD i 0≤65535*65535:=⟨Int.mul_nonneg hq.1 hx.1,Int.mul_le_mul (by omega) (by omega) hx.1 (by omega)⟩
  have e1:((j:Int)+(i:Int)).toNat=j+i:=by omega
  have hstep:∀d b:Int,d-65536*b=U1.getD (j+i) 0-q*V.getD i 0-bo→vl (U1.set (j+i) d)-65536^(j+(i+1))*b=vl U-65536^j*(q*vl (V.take (i+1))):=by
   intro d b hd
   rw[Zg (by omega),qV,←Nat.add_assoc,Int.pow_succ]
   have e3:(65536:Int)^(j+i)=65536^j*65536^i:=Int.pow_add _ _ _
   rw[e3]at hval ⊢
   generalize (65536:Int)^i=Pi at*
   generalize (65536:Int)^j=Pj at*
   grind
  have hsm:∀d:Int,∀t,t<j∨j+(i+1)≤t→(U1.set (j+i) d).getD t 0=U.getD t 0:=fun d t ht=>by
   rw[jA (by omega),if_neg (by omega)];exact hsame t (by omega)
  simp(disch:=omega)only[go_sem,h1,e1]
  refine⟨by omega,by omega,by omega,by omega,qg (fun h2=>?_) (fun h2=>?_)⟩
  ·simp(disch:=omega)only[go_sem,h2,e1]
   generalize hb:(0-(U1.getD (j+i) 0-q*V.getD i 0-bo)+65536-1)/65536=b
   refine⟨by omega,by omega,qc (i+1,U1.set (j+i) (U1.getD (j+i) 0-q*V.getD i 0-bo+b*65536),b) [] ⟨by show i+1≤_;omega,by simp[hl1],y9 hg1 (by omega),by show 0≤b∧b<65536;omega,hsm _,hstep (U1.getD (j+i) 0-q*V.getD i 0-bo+b*65536) b (by omega)⟩
    (by show V.length-(i+1)<V.length-i;omega) rfl (by simp(disch:=omega)only[go_sem];try omega) (by simp(disch:=omega)only[go_sem])⟩
  ·simp(disch:=omega)only[go_sem,h2,e1]
   refine⟨by omega,by omega,qc (i+1,U1.set (j+i) (U1.getD (j+i) 0-q*V.getD i 0-bo),0) [] ⟨by show i+1≤_;omega,by simp[hl1],y9 hg1 (by omega),by simp,hsm _,hstep (U1.getD (j+i) 0-q*V.getD i 0-bo) 0 (by omega)⟩
    (by show V.length-(i+1)<V.length-i;omega) rfl (by simp(disch:=omega)only[go_sem];try omega) (by simp(disch:=omega)only[go_sem])⟩
 ·have hiA:i=V.length:=by omega
  subst hiA
  rw[List.take_length]at hval
  have e1:((j:Int)+(V.length:Int)).toNat=j+V.length:=by omega
  have hu:=qL hg1 (j+V.length)
  have es:=hsame (j+V.length) (by omega)
  have eg:(U1.set (j+V.length) (U.getD (j+V.length) 0-bo)).getD (j+V.length) 0=U.getD (j+V.length) 0-bo:=by rw[jA (by omega),if_pos rfl]
  simp(disch:=omega)only[go_sem,h1,e1,es]
  refine⟨by omega,by omega,by omega,by omega,by omega,by simp;omega,?_⟩
  simp(disch:=omega)only[go_sem,eg]
  refine qi [] [] [.own 1 (qe (U1.set (j+V.length) (U.getD (j+V.length) 0-bo)))] [.v (.bool (decide (U.getD (j+V.length) 0-bo<0)))] rfl (by simp(disch:=omega)only[go_sem]) (by simp(disch:=omega)only[go_sem]) (by simp) (by simp) ⟨U1,bo,rfl,rfl,rfl,hl1,hg1,hbo,hsame,hval⟩
theorem afY(U V:List Int)(j:Nat)(hU:∀t,t≠j+V.length→0≤U.getD t 0∧U.getD t 0<65536)(hUt: -65536≤U.getD (j+V.length) 0∧U.getD (j+V.length) 0<65536)(hV:gd V)(lU:U.length≤2000000)(hj:j+V.length<U.length):
  Con Tryz.prog 331 false [.rf 10000000 0 U.length,.sl V.length (qe V),.v (.int .i64 j)] [.own 1 (qe U)]
   (fun r hs bs=>∃(U':List Int),r=.tu []∧hs=[]∧bs=[.own 1 (qe U')]∧
    U'.length=U.length∧(∀t,t≠j+V.length→0≤U'.getD t 0∧U'.getD t 0<65536)∧(∀t,t<j∨j+V.length<t→U'.getD t 0=U.getD t 0)∧vl U'=vl U+65536^j*vl V):=by
 refine Con.of_aw Tryz.func331 rfl Tryz.ntmps331 (by simp) (by simp) (by simp) (W.sound ?_)
 show @W Tryz.prog 46 ⟨_⟩ ⟨fun x σ=>@qU _ _ _ ⟨_⟩ _ ⟨_⟩ x σ⟩ _ _
 simp(disch:=omega)only[go_sem]
 refine qj (fun x:Nat×List Int×Int=>[(0,.rf 10000000 0 U.length),(1,.sl V.length (qe V)),(2,.v (.int .i64 j)),(6,.v (.int .i64 x.2.2)),(9,.sl V.length (qe V)),(10,.v (.int .i64 V.length)),(11,.v (.int .i64 x.1))])
  (fun x=>[(10000000,.own 1 (qe x.2.1))])
  (fun x=>x.1≤V.length∧x.2.1.length=U.length∧(∀t,t≠j+V.length→0≤x.2.1.getD t 0∧x.2.1.getD t 0<65536)∧(0≤x.2.2∧x.2.2≤1)∧(∀t,t<j∨j+x.1≤t→x.2.1.getD t 0=U.getD t 0)∧vl x.2.1+65536^(j+x.1)*x.2.2=vl U+65536^j*vl (V.take x.1))
  (fun x=>V.length-x.1) (0,U,0) ⟨by simp,rfl,hU,by simp,fun _ _=>rfl,by simp[vl]⟩
  (Le.lst [] _ _ rfl (by simp(disch:=omega)only[go_sem];try omega) (by simp(disch:=omega)only[go_sem])) ?_
 rintro⟨i,U1,cy⟩ ⟨hi,hl1,hg1,hcy,hsame,hval⟩
 dsimp only at hi hl1 hg1 hcy hsame hval ⊢
 simp(disch:=omega)only[go_sem]
 refine qg (fun h1=>?_) (fun h1=>?_)
 ·have hx:=qL hV i
  have hu:=hg1 (j+i) (by omega)
  have e1:((j:Int)+(i:Int)).toNat=j+i:=by omega
  simp(disch:=omega)only[go_sem,h1,e1]
  generalize hb:cy+(U1.getD (j+i) 0+V.getD i 0)=b
  have hg2:∀t,t≠j+V.length→0≤(U1.set (j+i) (b % 65536)).getD t 0∧(U1.set (j+i) (b % 65536)).getD t 0<65536:=fun t ht=>by
   rw[jA (by omega)]
   split
   ·omega
   ·exact hg1 t ht
  refine⟨by omega,by omega,by omega,by omega,by omega,by omega,qc (i+1,U1.set (j+i) (b % 65536),b/65536) [] ⟨by show i+1≤_;omega,by simp[hl1],hg2,by show 0≤b/65536∧b/65536≤1;omega,fun t ht=>?_,?_⟩
   (by show V.length-(i+1)<V.length-i;omega) rfl (by simp(disch:=omega)only[go_sem];try omega) (by simp(disch:=omega)only[go_sem])⟩
  ·show(U1.set (j+i) (b % 65536)).getD t 0=_
   have ht:t<j∨j+(i+1)≤t:=ht
   rw[jA (by omega),if_neg (by omega)];exact hsame t (by omega)
  ·show vl (U1.set (j+i) (b % 65536))+65536^(j+(i+1))*(b/65536)=vl U+65536^j*vl (V.take (i+1))
   rw[Zg (by omega),qV,←Nat.add_assoc,Int.pow_succ]
   have e3:(65536:Int)^(j+i)=65536^j*65536^i:=Int.pow_add _ _ _
   have e4:b % 65536+65536*(b/65536)=b:=Int.emod_add_mul_ediv b 65536
   rw[e3]at hval ⊢
   generalize (65536:Int)^i=Pi at*
   generalize (65536:Int)^j=Pj at*
   grind
 ·have hiA:i=V.length:=by omega
  subst hiA
  rw[List.take_length]at hval
  have e1:((j:Int)+(V.length:Int)).toNat=j+V.length:=by omega
  have es:=hsame (j+V.length) (by omega)
  simp(disch:=omega)only[go_sem,h1,e1,es]
  refine⟨by omega,by omega,by omega,by omega,?_⟩
  refine qi [] [] [.own 1 (qe (U1.set (j+V.length) (U.getD (j+V.length) 0+cy)))] [] rfl (by simp(disch:=omega)only[go_sem]) (by simp(disch:=omega)only[go_sem]) (by simp) (by simp) ⟨_,rfl,rfl,rfl,by simp[hl1],fun t ht=>?_,fun t ht=>?_,?_⟩
  ·rw[jA (by omega),if_neg ht];exact hg1 t ht
  ·rw[jA (by omega),if_neg (by omega)];exact hsame t (by omega)
  ·rw[Zg (by omega),es]
   generalize (65536:Int)^(j+V.length)=Pj at*
   grind
end Go.Ab
namespace Go.Ab
open Go Go.Proofs
theorem jC(xs:List Int)(hl:xs.length≤2^40):Con Tryz.prog 295 false [.rf 10000000 0 xs.length] [.own 1 (qe xs)] (fun r hs bs=>r=.rf 10000000 0 (JA xs).length∧hs=[]∧bs=[.own 1 (qe xs)]):=by
 refine Con.of_aw Tryz.func295 rfl Tryz.ntmps295 (by simp) (by simp) (by simp) (W.sound ?_)
 show @W Tryz.prog 21 ⟨_⟩ ⟨fun x σ=>@qU _ _ _ ⟨_⟩ _ ⟨_⟩ x σ⟩ _ _
 simp(disch:=omega)only[go_sem]
 refine qj (fun m:Nat=>[(0,.rf 10000000 0 m)]) (fun _=>[(10000000,.own 1 (qe xs))]) (fun m=>m≤xs.length∧JA (xs.take m)=JA xs) id xs.length ⟨Nat.le_refl _,by simp⟩
  (Le.lst [] _ _ rfl (by simp(disch:=omega)only[go_sem];try omega) (by simp(disch:=omega)only[go_sem])) ?_
 intro m ⟨hm,hx⟩
 have hmx:∀k,k+1=m→xs.take m=xs.take k++[xs.getD k 0]:=fun k hk=>by rw[←hk];exact jU (by omega)
 simp(disch:=omega)only[go_sem]
 refine qg (fun h1=>?_) (fun h1=>?_)
 ·obtain⟨k,rfl⟩:∃k,m=k+1:=⟨m-1,by omega⟩
  have e1:((k+1:Nat):Int)-1=(k:Nat):=by omega
  rw[hmx k rfl]at hx
  simp(disch:=omega)only[go_sem,h1,e1]
  refine⟨by omega,by omega,qg (fun h2=>?_) (fun h2=>?_)⟩
  ·simp(disch:=omega)only[go_sem,h2,e1]
   rw[h2,QN]at hx
   refine⟨by omega,qc k [] ⟨by omega,hx⟩ (by show k<k+1;omega) rfl (by simp(disch:=omega)only[go_sem];try omega) (by simp(disch:=omega)only[go_sem])⟩
  ·simp(disch:=omega)only[go_sem,h2]
   refine qi [] [] [.own 1 (qe xs)] [.rf 10000000 0 (k+1)] rfl (by simp(disch:=omega)only[go_sem]) (by simp(disch:=omega)only[go_sem]) (by simp) (by simp) ⟨?_,rfl,rfl⟩
   rw[Xk _ h2,←hmx k rfl]at hx
   rw[←hx,List.length_take,Nat.min_eq_left hm];rfl
 ·simp(disch:=omega)only[go_sem,h1]
  refine qi [] [] [.own 1 (qe xs)] [.rf 10000000 0 m] rfl (by simp(disch:=omega)only[go_sem]) (by simp(disch:=omega)only[go_sem]) (by simp) (by simp) ⟨?_,rfl,rfl⟩
  have:m=0:=by omega
  subst this
  rw[←hx];rfl
end Go.Ab
namespace Go.Ab
open Go Go.Proofs
theorem asp{x y:Int}(hx:0≤x∧x<65536)(hy:0≤y∧y<65536):0≤x*y∧x*y≤4294836225:=by
 have h1:=Int.mul_nonneg hx.1 hy.1
 have h2:x*y≤65535*65535:=Int.mul_le_mul (by omega) (by omega) hy.1 (by omega)
 omega
theorem ats(cl:Bool)(A B:List Int)(hA:gd A)(hB:gd B)(lA:A.length≤1000000)(lB:B.length≤1000000):
  Con Tryz.prog 252 cl [.sl A.length (qe A),.sl B.length (qe B)] [] (auO (lim (vl A*vl B).toNat)):=by
 refine Con.of_aw Tryz.func252 rfl Tryz.ntmps252 (by simp) (by simp) (by simp) (W.sound ?_)
 show @W Tryz.prog 63 ⟨_⟩ ⟨fun x σ=>@qU _ _ _ ⟨_⟩ _ ⟨_⟩ x σ⟩ _ _
 simp(disch:=omega)only[go_sem]
 refine⟨⟨by omega,by omega,by omega⟩,?_⟩
 refine qj (fun x:Nat×List Int=>[(1,.sl B.length (qe B)),(5,.rf 180000000 0 (A.length+B.length)),(17,.sl A.length (qe A)),(18,.v (.int .i64 A.length)),(19,.v (.int .i64 x.1))])
  (fun x=>[(180000000,.own 1 (qe x.2))])
  (fun x=>x.1≤A.length∧x.2.length=A.length+B.length∧gd x.2∧vl x.2=vl (A.take x.1)*vl B∧∀j,x.1+B.length≤j→x.2.getD j 0=0)
  (fun x=>A.length-x.1) (0,List.replicate (A.length+B.length) 0) ⟨by simp,by simp,zx _,by simp[z7,vl],fun j _=>by
   rw[List.getD_eq_getElem?_getD,List.getElem?_replicate];split<;>rfl⟩
  (Le.lst [] _ _ rfl (by simp(disch:=omega)only[go_sem];try omega) (by simp(disch:=omega)only[go_sem,show((A.length:Int)+(B.length:Int)).toNat=A.length+B.length by omega])) ?_
 rintro⟨i,out⟩ ⟨hi,hol,hog,hov,hoz⟩
 dsimp only at hi hol hog hov hoz ⊢
 simp(disch:=omega)only[go_sem]
 refine qg (fun h1=>?_) (fun h1=>?_)
 ·have hx:=qL hA i
  simp(disch:=omega)only[go_sem,h1]
  refine⟨by omega,by omega,?_⟩
  refine qj (fun x:Nat×List Int×Int=>[(1,.sl B.length (qe B)),(5,.rf 180000000 0 (A.length+B.length)),(17,.sl A.length (qe A)),(18,.v (.int .i64 A.length)),(19,.v (.int .i64 i)),(6,.v (.int .i64 i)),
    (7,.v (.int .i64 (A.getD i 0))),(8,.v (.int .i64 x.2.2)),(24,.sl B.length (qe B)),(25,.v (.int .i64 B.length)),(26,.v (.int .i64 x.1))])
   (fun x=>[(180000000,.own 1 (qe x.2.1))])
   (fun x=>x.1≤B.length∧x.2.1.length=A.length+B.length∧gd x.2.1∧(0≤x.2.2∧x.2.2<65536)∧vl x.2.1+65536^(i+x.1)*x.2.2=vl out+65536^i*(A.getD i 0*vl (B.take x.1))∧∀j,i+B.length≤j→x.2.1.getD j 0=0)
   (fun x=>B.length-x.1) (0,out,0) ⟨by simp,hol,hog,by simp,by simp[vl],hoz⟩
   (Le.lst [] _ _ rfl (by simp(disch:=omega)only[go_sem];try omega) (by simp(disch:=omega)only[go_sem])) ?_
  rintro⟨j,o2,cy⟩ ⟨hj,hol2,hog2,hcy,hov2,hoz2⟩
  dsimp only at hj hol2 hog2 hcy hov2 hoz2 ⊢
  simp(disch:=omega)only[go_sem]
  refine qg (fun h2=>?_) (fun h2=>?_)
  ·have hy:=qL hB j
   have ho:=qL hog2 (i+j)
   have hxy:=asp hx hy
   have e1:((i:Int)+(j:Int)).toNat=i+j:=by omega
   simp(disch:=omega)only[go_sem,h2,e1]
   generalize hq:cy+(o2.getD (i+j) 0+A.getD i 0*B.getD j 0)=q
   refine⟨by omega,by omega,by omega,by omega,by omega,by omega,qc (j+1,o2.set (i+j) (q % 65536),q/65536) [] ⟨by show j+1≤_;omega,by simp[hol2],y9 hog2 (by omega),by show 0≤q/65536∧q/65536<65536;omega,?_,fun k hk=>?_⟩
    (by show B.length-(j+1)<B.length-j;omega) rfl (by simp(disch:=omega)only[go_sem];try omega) (by simp(disch:=omega)only[go_sem])⟩
   ·show vl (o2.set (i+j) (q % 65536))+65536^(i+(j+1))*(q/65536)=vl out+65536^i*(A.getD i 0*vl (B.take (j+1)))
    rw[Zg (by omega),jl (by omega),←Nat.add_assoc,Int.pow_succ]
    have e2:(65536:Int)^(i+j)=65536^i*65536^j:=Int.pow_add _ _ _
    have e3:q % 65536+65536*(q/65536)=q:=Int.emod_add_mul_ediv q 65536
    rw[e2]at hov2 ⊢
    generalize (65536:Int)^i=Pi at*
    generalize (65536:Int)^j=Pj at*
    grind
   ·show(o2.set (i+j) (q % 65536)).getD k 0=0
    rw[List.getD_eq_getElem?_getD,List.getElem?_set_ne (by omega),←List.getD_eq_getElem?_getD]
    exact hoz2 k hk
  ·simp(disch:=omega)only[go_sem,h2]
   have e1:((i:Int)+(B.length:Int)).toNat=i+B.length:=by omega
   have hjB:j=B.length:=by omega
   subst hjB
   rw[List.take_length]at hov2
   simp(disch:=omega)only[go_sem,e1]
   refine⟨by omega,by omega,qc (i+1,o2.set (i+B.length) cy) [] ⟨by show i+1≤_;omega,by simp[hol2],y9 hog2 hcy,?_,fun k hk=>?_⟩ (by show A.length-(i+1)<A.length-i;omega) rfl (by simp(disch:=omega)only[go_sem];try omega) (by simp(disch:=omega)only[go_sem])⟩
   ·show vl (o2.set (i+B.length) cy)=vl (A.take (i+1))*vl B
    rw[Zg (by omega),hoz2 _ (Nat.le_refl _),jl (by omega)]
    generalize (65536:Int)^i=Pi at*
    grind
   ·show(o2.set (i+B.length) cy).getD k 0=0
    rw[List.getD_eq_getElem?_getD,List.getElem?_set_ne (by show i+B.length≠k;omega),←List.getD_eq_getElem?_getD]
    exact hoz2 k (by omega)
 ·simp(disch:=omega)only[go_sem,h1]
  have hiA:i=A.length:=by omega
  subst hiA
  rw[List.take_length]at hov
  refine zd false [180000000] (jC out (by omega)) (by rw[←hol];simp(disch:=omega)only[go_sem]) (by simp(disch:=omega)only[go_sem]) rfl (qP (z:=1) (cs:=qe out) (by simp(disch:=omega)only[go_sem]) (by simp(disch:=omega)only[go_sem])) (by intro n hn;exact⟨_,List.mem_singleton.2 rfl,by rw[List.mem_singleton.1 hn];rfl⟩) ?_
  rintro r hs bs ⟨rfl,rfl,rfl⟩ _
  refine⟨by simp[qS],?_⟩
  simp(disch:=omega)only[go_sem]
  obtain⟨z,hz⟩:=zU out
  have hc:=jj hog
  rw[hov]at hc
  rw[hc]at hz ⊢
  refine qi [(0,180000000)] [.own 1 (qe out)] [] [.rf 0 0 (lim (vl A*vl B).toNat).length] rfl (by simp(disch:=omega)only[go_sem]) (by simp(disch:=omega)only[go_sem]) (by simp) (by intro _;simp[zv,AV.pu,AV.pu.puL,Ob.pu,q8]) (.inr ⟨List.replicate z 0,rfl,by rw[←hz]⟩)
end Go.Ab
namespace Go.Ab
open Go Go.Proofs
theorem atx(cl:Bool)(n:Nat)(hn:n<2^63):Con Tryz.prog 157 cl [.v (.int .i64 n)] [] (auO (lim n)):=by
 refine Con.of_aw Tryz.func157 rfl Tryz.ntmps157 (by simp) (by simp) (by simp) (W.sound ?_)
 show @W Tryz.prog 14 ⟨_⟩ ⟨fun x σ=>@qU _ _ _ ⟨_⟩ _ ⟨_⟩ x σ⟩ _ _
 simp(disch:=omega)only[go_sem]
 refine qj (fun x:Nat×List Int=>[(0,.v (.int .i64 x.1)),(3,.rf 1 0 x.2.length)]) (fun x=>[(1,.own 1 (qe x.2))]) (fun x=>x.1<2^63∧x.2++lim x.1=lim n) (fun x=>x.1) (n,[]) ⟨hn,rfl⟩
  ((Le.ghost 3 1 1 (by simp(disch:=omega)only[go_sem]) (by simp(disch:=omega)only[go_sem])).trans (Le.lst [] _ _ rfl (by simp(disch:=omega)only[go_sem]) (by simp(disch:=omega)only[go_sem]))) ?_
 rintro⟨k,l⟩ ⟨hk,hl⟩
 dsimp only at hk hl ⊢
 have hlen:l.length≤4:=by
  have h1:=congrArg List.length hl
  have h2:=jO (n:=n) (k:=4) |>.2 (by omega)
  rw[List.length_append]at h1;omega
 simp(disch:=omega)only[go_sem]
 refine qg (fun h1=>?_) (fun h1=>?_)
 ·simp(disch:=omega)only[go_sem,h1]
  have hk0:k≠0:=by omega
  refine⟨by omega,qc (k/65536,l++[(k:Int) % 65536]) [(1,140000000)] ⟨by show k/65536<2^63;omega,?_⟩ (by show k/65536<k;omega) rfl (by simp(disch:=omega)only[go_sem,List.length_append];omega) (by simp(disch:=omega)only[go_sem])⟩
  rw[ym hk0]at hl
  rw[←hl,List.append_assoc];rfl
 ·simp(disch:=omega)only[go_sem,h1]
  have hk0:k=0:=by omega
  subst hk0
  rw[qs,List.append_nil]at hl
  subst hl
  refine qi [(0,1)] [.own 1 (qe (lim n++[]))] [] [.rf 0 0 (lim n).length] rfl (by simp(disch:=omega)only[go_sem]) (by simp(disch:=omega)only[go_sem]) (by simp) (by intro _;simp[zv,AV.pu,AV.pu.puL,Ob.pu,q8]) (.inr ⟨[],rfl,rfl⟩)
end Go.Ab
namespace Go.Ab
open Go Go.Proofs
theorem yC(k:Nat)(h:k<16):(0:Int)<2^k∧(2:Int)^k≤32768:=by
 have:∀k,k<16→(0:Int)<2^k∧(2:Int)^k≤32768:=by decide
 exact this k h
theorem aso{x:Int}(hx:0≤x∧x<65536){k:Nat}(hk:k<16):0≤x*2^k∧x*2^k≤2147450880:=by
 obtain⟨h1,h2⟩:=yC k hk
 have h3:=Int.mul_nonneg hx.1 (Int.le_of_lt h1)
 have h4:x*2^k≤65535*32768:=Int.mul_le_mul (by omega) h2 (by omega) (by omega)
 omega
theorem aaT(k:Nat):(65536:Int)^(k/16)*2^(k % 16)=2^k:=by
 have e:(65536:Int)=2^16:=by decide
 rw[e,←Int.pow_mul,←Int.pow_add,Nat.div_add_mod]
theorem aZv(cl:Bool)(A:List Int)(k:Nat)(hA:gd A)(lA:A.length≤1000000)(hk:k≤100000000):
  Con Tryz.prog 248 cl [.sl A.length (qe A),.v (.int .i64 k)] [] (auO (lim (vl A*2^k).toNat)):=by
 refine Con.of_aw Tryz.func248 rfl Tryz.ntmps248 (by simp) (by simp) (by simp) (W.sound ?_)
 show @W Tryz.prog 46 ⟨_⟩ ⟨fun x σ=>@qU _ _ _ ⟨_⟩ _ ⟨_⟩ x σ⟩ _ _
 simp(disch:=omega)only[go_sem]
 refine qg (fun h0=>?_) (fun h0=>?_)
 ·simp(disch:=omega)only[go_sem,h0]
  have:A=[]:=List.length_eq_zero_iff.1 (by omega)
  subst this
  refine qi [] [] [] [.v (.slice none 0 0)] rfl (by simp(disch:=omega)only[go_sem]) (by simp(disch:=omega)only[go_sem]) (by simp) (by intro _;simp[zv,AV.pu,AV.pu.puL,Ob.pu,q8]) (.inl ⟨by simp[vl,qs],rfl,rfl⟩)
 ·simp(disch:=omega)only[go_sem,h0]
  refine⟨by omega,?_⟩
  have e16:((k:Int)/16).toNat=k/16:=by omega
  refine qj (fun x:Nat×List Int×Int=>[(1,.v (.int .i64 k)),(5,.rf 1 0 x.2.1.length),(6,.v (.int .i64 x.2.2)),(21,.sl A.length (qe A)),(22,.v (.int .i64 A.length)),(23,.v (.int .i64 x.1))])
   (fun x=>[(1,.own 1 (qe x.2.1))])
   (fun x=>x.1≤A.length∧x.2.1.length=k/16+x.1∧gd x.2.1∧(0≤x.2.2∧x.2.2<65536)∧vl x.2.1+65536^(k/16+x.1)*x.2.2=65536^(k/16)*2^(k % 16)*vl (A.take x.1))
   (fun x=>A.length-x.1) (0,List.replicate (k/16) 0,0) ⟨by simp,by simp,zx _,by simp,by simp[vl,z7]⟩
   (Le.lst [(1,220000000)] _ _ rfl (by simp(disch:=omega)only[go_sem,List.length_replicate,e16]) (by simp(disch:=omega)only[go_sem,e16])) ?_
  rintro⟨i,out,cy⟩ ⟨hi,hol,hog,hcy,hov⟩
  dsimp only at hi hol hog hcy hov ⊢
  simp(disch:=omega)only[go_sem]
  refine qg (fun h1=>?_) (fun h1=>?_)
  ·have hx:=qL hA i
   have hxs:=aso hx (show k % 16<16 by omega)
   have em:min ((k:Int) % 16).toNat 64=k % 16:=by omega
   simp(disch:=omega)only[go_sem,h1,em]
   generalize hq:cy+A.getD i 0*2^(k % 16)=q
   refine⟨by omega,by omega,by omega,by omega,qc (i+1,out++[q % 65536],q/65536) [(1,390000000)] ⟨by show i+1≤_;omega,by simp[hol];omega,qH.2 ⟨hog,jd.2 (by omega)⟩,by show 0≤q/65536∧q/65536<65536;omega,?_⟩ (by show A.length-(i+1)<A.length-i;omega) rfl (by simp(disch:=omega)only[go_sem,List.length_append];try omega) (by simp(disch:=omega)only[go_sem])⟩
   show vl (out++[q % 65536])+65536^(k/16+(i+1))*(q/65536)=65536^(k/16)*2^(k % 16)*vl (A.take (i+1))
   rw[jH,qV,hol,←Nat.add_assoc,Int.pow_succ]
   have e3:q % 65536+65536*(q/65536)=q:=Int.emod_add_mul_ediv q 65536
   rw[Int.pow_add]at hov ⊢
   generalize (65536:Int)^i=Pi at*
   generalize (65536:Int)^(k/16)=Pk at*
   generalize (2:Int)^(k % 16)=Pm at*
   grind
  ·simp(disch:=omega)only[go_sem,h1]
   have hiA:i=A.length:=by omega
   subst hiA
   rw[List.take_length,aaT]at hov
   have hov2:vl (out++[cy])=vl A*2^k:=by rw[jH,hol,hov];grind
   have hog2:gd (out++[cy]):=qH.2 ⟨hog,jd.2 hcy⟩
   refine⟨by omega,?_⟩
   have hl2:out.length+1=(out++[cy]).length:=by simp
   rw[hl2]
   refine zd false [460000000] (jC (out++[cy]) (by simp;omega)) (by simp(disch:=omega)only[go_sem]) (by simp(disch:=omega)only[go_sem]) rfl (qP (z:=1) (cs:=qe (out++[cy])) (by simp(disch:=omega)only[go_sem]) (by simp(disch:=omega)only[go_sem])) (by intro n hn;exact⟨_,List.mem_singleton.2 rfl,by rw[List.mem_singleton.1 hn];rfl⟩) ?_
   rintro r hs bs ⟨rfl,rfl,rfl⟩ _
   refine⟨by simp[qS],?_⟩
   simp(disch:=omega)only[go_sem]
   obtain⟨z,hz⟩:=zU (out++[cy])
   have hc:=jj hog2
   rw[hov2]at hc
   rw[hc]at hz ⊢
   refine qi [(0,460000000)] [.own 1 (qe (out++[cy]))] [] [.rf 0 0 (lim (vl A*2^k).toNat).length] rfl (by simp(disch:=omega)only[go_sem]) (by simp(disch:=omega)only[go_sem]) (by simp) (by intro _;simp[zv,AV.pu,AV.pu.puL,Ob.pu,q8]) (.inr ⟨List.replicate z 0,rfl,by rw[←hz]⟩)
end Go.Ab
namespace Go.Ab
open Go Go.Proofs
theorem aGv(V P:Int)(hP:0<P):V % (P*65536)=V % P+P*(V/P % 65536):=by
 rw[Int.emod_def,Int.emod_def,Int.emod_def,←Int.ediv_ediv_of_nonneg (Int.le_of_lt hP)]
 grind
theorem aFV{s:Nat}(hs:s<16):(65536:Int)=2^s*2^(16-s):=by
 rw[←Int.pow_add,show s+(16-s)=16 by omega];decide
theorem al1{D:List Int}(hD:gd D){i s:Nat}(hi:i<D.length)(hs:s<16):
  (vl D/2^s)/65536^i % 65536=(D.getD i 0+D.getD (i+1) 0*65536)/2^s % 65536:=by
 have h2:=(yC s hs).1
 rw[Int.ediv_ediv_of_nonneg (Int.le_of_lt h2),Int.mul_comm,←Int.ediv_ediv_of_nonneg (Int.le_of_lt (Int.pow_pos (by omega))),agh hD (by omega),zM hi]
 have h3:vl (D.drop (i+1))=D.getD (i+1) 0+65536*vl (D.drop (i+2)):=by
  rcases Nat.lt_or_ge (i+1) D.length with h|h
  ·exact zM h
  ·rw[List.drop_of_length_le h,List.drop_of_length_le (by omega),List.getD_eq_getElem?_getD,List.getElem?_eq_none h];simp[vl]
 rw[h3]
 have e:D.getD i 0+65536*(D.getD (i+1) 0+65536*vl (D.drop (i+2)))=(D.getD i 0+D.getD (i+1) 0*65536)+2^s*(65536*(2^(16-s)*vl (D.drop (i+2)))):=by
  have:=aFV hs
  generalize (2:Int)^s=a at*
  generalize (2:Int)^(16-s)=b at*
  grind
 rw[e,Int.add_mul_ediv_left _ _ (by omega),Int.add_mul_emod_self_left]
theorem ar8{a b:Nat}(h:a≤b):(65536:Int)^a≤65536^b:=by
 obtain⟨d,rfl⟩:=Nat.exists_eq_add_of_le h
 have h1:(0:Int)<65536^a:=Int.pow_pos (by omega)
 have h2:(0:Int)<65536^d:=Int.pow_pos (by omega)
 have h3:=Int.mul_le_mul_of_nonneg_left (show(1:Int)≤65536^d by omega) (Int.le_of_lt h1)
 rw[Int.mul_one,←Int.pow_add]at h3
 exact h3
theorem aHT(cl:Bool)(A:List Int)(k:Nat)(hA:gd A)(lA:A.length≤1000000)(hk:k≤100000000):
  Con Tryz.prog 265 cl [.sl A.length (qe A),.v (.int .i64 k)] [] (auO (lim (vl A/2^k).toNat)):=by
 refine Con.of_aw Tryz.func265 rfl Tryz.ntmps265 (by simp) (by simp) (by simp) (W.sound ?_)
 show @W Tryz.prog 52 ⟨_⟩ ⟨fun x σ=>@qU _ _ _ ⟨_⟩ _ ⟨_⟩ x σ⟩ _ _
 have hvk:vl A/2^k=vl A/65536^(k/16)/2^(k % 16):=by
  rw[Int.ediv_ediv_of_nonneg (Int.le_of_lt (Int.pow_pos (by omega))),aaT]
 simp(disch:=omega)only[go_sem]
 refine qg (fun h0=>?_) (fun h0=>?_)
 ·simp(disch:=omega)only[go_sem,h0]
  have hz:vl A/2^k=0:=by
   rw[hvk,Int.ediv_eq_zero_of_lt (qX hA)]
   ·simp
   ·refine Int.lt_of_lt_of_le (QT hA) ?_
    exact ar8 (by omega)
  rw[hz]
  refine qi [] [] [] [.v (.slice none 0 0)] rfl (by simp(disch:=omega)only[go_sem]) (by simp(disch:=omega)only[go_sem]) (by simp) (by intro _;simp[zv,AV.pu,AV.pu.puL,Ob.pu,q8]) (.inl ⟨by simp[qs],rfl,rfl⟩)
 ·have e16:((k:Int)/16).toNat=k/16:=by omega
  have e17:((A.length:Int)-(k:Int)/16).toNat=(A.drop (k/16)).length:=by simp;omega
  have e18:(A.drop (k/16)).take (A.drop (k/16)).length=A.drop (k/16):=List.take_length
  have hvD:=agh hA (i:=k/16) (by omega)
  have hlD:(A.drop (k/16)).length≤1000000:=by simp;omega
  have hD:=yG hA (k/16)
  simp(disch:=omega)only[go_sem,h0,e16,e17,e18]
  generalize A.drop (k/16)=D at*
  refine⟨by omega,by omega,?_⟩
  refine qj (fun x:Nat×List Int=>[(1,.v (.int .i64 k)),(5,.sl D.length (qe D)),(6,.rf 1 0 x.2.length),(21,.sl D.length (qe D)),(22,.v (.int .i64 D.length)),(23,.v (.int .i64 x.1))])
   (fun x=>[(1,.own 1 (qe x.2))])
   (fun x=>x.1≤D.length∧x.2.length=x.1∧gd x.2∧vl x.2=vl D/2^(k % 16) % 65536^x.1)
   (fun x=>D.length-x.1) (0,[]) ⟨by simp,rfl,Jq,by simp[vl]⟩
   (Le.lst [(1,220000000)] _ _ rfl (by simp(disch:=omega)only[go_sem]) (by simp(disch:=omega)only[go_sem])) ?_
  rintro⟨i,out⟩ ⟨hi,hol,hog,hov⟩
  dsimp only at hi hol hog hov ⊢
  simp(disch:=omega)only[go_sem]
  refine qg (fun h1=>?_) (fun h1=>?_)
  ·have hx:=qL hD i
   have hy:=qL hD (i+1)
   have em:min ((k:Int) % 16).toNat 64=k % 16:=by omega
   have hm:=yC (k % 16) (by omega)
   have efd:∀x:Int,x.fdiv (2^(k % 16))=x/2^(k % 16):=fun x=>Int.fdiv_eq_ediv_of_nonneg _ (Int.le_of_lt hm.1)
   have hdig:=al1 hD (i:=i) (s:=k % 16) (by omega) (by omega)
   have hnn:∀x:Int,0≤x→0≤x/2^(k % 16):=fun x hx=>Int.ediv_nonneg hx (Int.le_of_lt hm.1)
   have ei:((i:Int)+1).toNat=i+1:=by omega
   have hstep:∀z:Int,z=(D.getD i 0+D.getD (i+1) 0*65536)/2^(k % 16) % 65536→vl (out++[z])=vl D/2^(k % 16) % 65536^(i+1):=by
    intro z hz
    rw[jH,hov,hol,Int.pow_succ,aGv _ _ (Int.pow_pos (by omega)),hdig,hz]
   simp(disch:=omega)only[go_sem,h1]
   refine⟨by omega,by omega,qg (fun h2=>?_) (fun h2=>?_)⟩
   ·have hn1:=hnn (D.getD i 0+D.getD (i+1) 0*65536) (by omega)
    simp(disch:=omega)only[go_sem,h2,em,efd,ei]
    refine⟨by omega,by omega,by omega,by omega,qc (i+1,out++[(D.getD i 0+D.getD (i+1) 0*65536)/2^(k % 16) % 65536]) [(1,500000000)] ⟨by show i+1≤_;omega,by simp[hol],qH.2 ⟨hog,jd.2 (by omega)⟩,hstep _ rfl⟩ (by show D.length-(i+1)<D.length-i;omega) rfl (by simp(disch:=omega)only[go_sem,List.length_append];try omega) (by simp(disch:=omega)only[go_sem])⟩
   ·have hn1:=hnn (D.getD i 0) (by omega)
    simp(disch:=omega)only[go_sem,h2,em,efd]
    have hy0:D.getD (i+1) 0=0:=by rw[List.getD_eq_getElem?_getD,List.getElem?_eq_none (by omega)];rfl
    refine⟨by omega,by omega,qc (i+1,out++[D.getD i 0/2^(k % 16) % 65536]) [(1,500000000)] ⟨by show i+1≤_;omega,by simp[hol],qH.2 ⟨hog,jd.2 (by omega)⟩,hstep _ (by rw[hy0];simp)⟩ (by show D.length-(i+1)<D.length-i;omega) rfl (by simp(disch:=omega)only[go_sem,List.length_append];try omega) (by simp(disch:=omega)only[go_sem])⟩
  ·simp(disch:=omega)only[go_sem,h1]
   have hiD:i=D.length:=by omega
   subst hiD
   have hV:vl out=vl A/2^k:=by
    rw[hov,hvk,hvD]
    refine Int.emod_eq_of_lt (Int.ediv_nonneg (qX hD) (Int.le_of_lt (yC (k % 16) (by omega)).1)) ?_
    exact Int.lt_of_le_of_lt (Int.ediv_le_self _ (qX hD)) (QT hD)
   refine zd false [1] (jC out (by omega)) (by simp(disch:=omega)only[go_sem]) (by simp(disch:=omega)only[go_sem]) rfl (qP (z:=1) (cs:=qe out) (by simp(disch:=omega)only[go_sem]) (by simp(disch:=omega)only[go_sem])) (by intro n hn;exact⟨_,List.mem_singleton.2 rfl,by rw[List.mem_singleton.1 hn];rfl⟩) ?_
   rintro r hs bs ⟨rfl,rfl,rfl⟩ _
   refine⟨by simp[qS],?_⟩
   simp(disch:=omega)only[go_sem]
   obtain⟨z,hz⟩:=zU out
   have hc:=jj hog
   rw[hV]at hc
   rw[hc]at hz ⊢
   refine qi [(0,1)] [.own 1 (qe out)] [] [.rf 0 0 (lim (vl A/2^k).toNat).length] rfl (by simp(disch:=omega)only[go_sem]) (by simp(disch:=omega)only[go_sem]) (by simp) (by intro _;simp[zv,AV.pu,AV.pu.puL,Ob.pu,q8]) (.inr ⟨List.replicate z 0,rfl,by rw[←hz]⟩)
end Go.Ab
namespace Go.Ab
open Go Go.Proofs
theorem drop_set{l:List Int}{i:Nat}(h:i<l.length)(z:Int):(l.set i z).drop i=z::l.drop (i+1):=by
 rw[List.drop_eq_getElem_cons (by simpa using h)]
 simp[List.drop_set]
theorem aHU(cl:Bool)(A:List Int)(d:Nat)(hA:gd A)(lA:A.length≤1000000)(hd:0<d)(hd2:d<65536):
  Con Tryz.prog 328 cl [.sl A.length (qe A),.v (.int .i64 d)] [] (fun r hs bs=>∃zs,r=.tu [.rf 0 0 (lim (vl A/d).toNat).length,.v (.int .i64 (vl A % d))]∧hs=[.own 1 (qe (lim (vl A/d).toNat++zs))]):=by
 refine Con.of_aw Tryz.func328 rfl Tryz.ntmps328 (by simp) (by simp) (by simp) (W.sound ?_)
 show @W Tryz.prog 38 ⟨_⟩ ⟨fun x σ=>@qU _ _ _ ⟨_⟩ _ ⟨_⟩ x σ⟩ _ _
 simp(disch:=omega)only[go_sem]
 refine⟨by omega,?_⟩
 refine qj (fun x:Nat×List Int×Int=>[(0,.sl A.length (qe A)),(1,.v (.int .i64 d)),(6,.rf 130000000 0 A.length),(7,.v (.int .i64 x.2.2)),(8,.v (.int .i64 ((x.1:Int)-1)))])
  (fun x=>[(130000000,.own 1 (qe x.2.1))])
  (fun x=>x.1≤A.length∧x.2.1.length=A.length∧gd x.2.1∧x.2.2=vl (A.drop x.1) % d∧vl (x.2.1.drop x.1)=vl (A.drop x.1)/d)
  (fun x=>x.1) (A.length,List.replicate A.length 0,0) ⟨by simp,by simp,zx _,by simp[vl],by simp[vl]⟩
  (Le.lst [] _ _ rfl (by simp(disch:=omega)only[go_sem];try omega) (by simp(disch:=omega)only[go_sem])) ?_
 rintro⟨m,out,rest⟩ ⟨hm,hol,hog,hr,hov⟩
 dsimp only at hm hol hog hr hov ⊢
 simp(disch:=omega)only[go_sem]
 refine qg (fun h1=>?_) (fun h1=>?_)
 ·obtain⟨i,rfl⟩:∃i,m=i+1:=⟨m-1,by omega⟩
  have e1:((i+1:Nat):Int)-1=(i:Nat):=by omega
  have hx:=qL hA i
  have hr2:0≤rest∧rest<d:=by rw[hr];exact⟨Int.emod_nonneg _ (by omega),Int.emod_lt_of_pos _ (by omega)⟩
  generalize hq:rest*65536+A.getD i 0=q
  have hq0:0≤q:=by omega
  have hqd:0≤q/d∧q/d<65536:=⟨Int.ediv_nonneg hq0 (by omega),Int.ediv_lt_of_lt_mul (by omega) (by omega)⟩
  have hqm:0≤q % d∧q % d<d:=⟨Int.emod_nonneg _ (by omega),Int.emod_lt_of_pos _ (by omega)⟩
  simp(disch:=omega)only[go_sem,h1,e1,hq]
  refine⟨by omega,by omega,by omega,by omega,by omega,by omega,qc (i,out.set i (q/d),q % d) [] ⟨by show i≤_;omega,by simp[hol],y9 hog hqd,?_,?_⟩ (by show i<i+1;omega) rfl (by simp(disch:=omega)only[go_sem]) (by simp(disch:=omega)only[go_sem])⟩
  ·show q % d=vl (A.drop i) % d
   rw[zM (l:=A) (i:=i) (by omega),←hq,hr]
   have h3:=Int.emod_add_mul_ediv (vl (A.drop (i+1))) d
   rw[show A.getD i 0+65536*vl (A.drop (i+1))=vl (A.drop (i+1)) % d*65536+A.getD i 0+d*(65536*(vl (A.drop (i+1))/d)) by grind,Int.add_mul_emod_self_left]
  ·show vl ((out.set i (q/d)).drop i)=vl (A.drop i)/d
   rw[drop_set (by omega),vl,hov,zM (l:=A) (i:=i) (by omega),←hq,hr]
   have h3:=Int.emod_add_mul_ediv (vl (A.drop (i+1))) d
   rw[show A.getD i 0+65536*vl (A.drop (i+1))=vl (A.drop (i+1)) % d*65536+A.getD i 0+d*(65536*(vl (A.drop (i+1))/d)) by grind,Int.add_mul_ediv_left _ _ (by omega)]
 ·simp(disch:=omega)only[go_sem,h1]
  have:m=0:=by omega
  subst this
  rw[List.drop_zero,List.drop_zero]at hov
  rw[List.drop_zero]at hr
  rw[←hol]
  refine zd false [130000000] (jC out (by omega)) (by simp(disch:=omega)only[go_sem]) (by simp(disch:=omega)only[go_sem]) rfl (qP (z:=1) (cs:=qe out) (by simp(disch:=omega)only[go_sem]) (by simp(disch:=omega)only[go_sem])) (by intro n hn;exact⟨_,List.mem_singleton.2 rfl,by rw[List.mem_singleton.1 hn];rfl⟩) ?_
  rintro r hs bs ⟨rfl,rfl,rfl⟩ _
  refine⟨by simp[qS],?_⟩
  simp(disch:=omega)only[go_sem]
  obtain⟨z,hz⟩:=zU out
  have hc:=jj hog
  rw[hov]at hc
  rw[hc]at hz ⊢
  rw[hr]
  refine qi [(0,130000000)] [.own 1 (qe out)] [] [.rf 0 0 (lim (vl A/d).toNat).length,.v (.int .i64 (vl A % d))] rfl (by simp(disch:=omega)only[go_sem]) (by simp(disch:=omega)only[go_sem]) (by simp) (by intro _;simp[zv,AV.pu,AV.pu.puL,Ob.pu,q8]) ⟨List.replicate z 0,rfl,by rw[←hz]⟩
end Go.Ab
namespace Go.Ab
open Go Go.Proofs
theorem aHL(cl:Bool)(A B:List Int)(hA:gd A)(hB:gd B)(lA:A.length≤2000000)(lB:B.length≤2000000):
  Con Tryz.prog 304 cl [.sl A.length (qe A),.sl B.length (qe B)] [] (auO (lim (vl A+vl B).toNat)):=by
 refine Con.of_aw Tryz.func304 rfl Tryz.ntmps304 (by simp) (by simp) (by simp) (W.sound ?_)
 show @W Tryz.prog 53 ⟨_⟩ ⟨fun x σ=>@qU _ _ _ ⟨_⟩ _ ⟨_⟩ x σ⟩ _ _
 simp(disch:=omega)only[go_sem]
 refine qg (fun h0=>?_) (fun h0=>?_)
 all_goals simp(disch:=omega)only[go_sem,h0]
 ·revert A B
  intro Y X hY hX lY lX h0'
  have h00:Y.length≤X.length:=by omega
  have hcm:vl Y+vl X=vl X+vl Y:=Int.add_comm _ _
  refine⟨by omega,?_⟩
  refine qj (fun x:Nat×List Int×Int=>[(1,.sl Y.length (qe Y)),(5,.rf 1 0 x.2.1.length),(6,.v (.int .i64 x.2.2)),(20,.sl X.length (qe X)),(21,.v (.int .i64 X.length)),(22,.v (.int .i64 x.1))])
   (fun x=>[(1,.own 1 (qe x.2.1))])
   (fun x=>x.1≤X.length∧x.2.1.length=x.1∧gd x.2.1∧(0≤x.2.2∧x.2.2≤1)∧vl x.2.1+65536^x.1*x.2.2=vl (X.take x.1)+vl (Y.take x.1))
   (fun x=>X.length-x.1) (0,[],0) ⟨by simp,rfl,Jq,by simp,by simp[vl]⟩
   (Le.lst [(1,210000000)] _ _ rfl (by simp(disch:=omega)only[go_sem]) (by simp(disch:=omega)only[go_sem])) ?_
  rintro⟨i,out,cy⟩ ⟨hi,hol,hog,hcy,hov⟩
  dsimp only at hi hol hog hcy hov ⊢
  simp(disch:=omega)only[go_sem]
  refine qg (fun h1=>?_) (fun h1=>?_)
  ·have hx:=qL hX i
   have hy:=qL hY i
   have hstep:∀q:Int,q=cy+X.getD i 0+Y.getD i 0→vl (out++[q % 65536])+65536^(i+1)*(q/65536)=vl (X.take (i+1))+vl (Y.take (i+1)):=by
    intro q hq
    rw[jH,qV,qV,hol,Int.pow_succ]
    have e3:q % 65536+65536*(q/65536)=q:=Int.emod_add_mul_ediv q 65536
    generalize (65536:Int)^i=Pi at*
    grind
   have hyz:¬i<Y.length→Y.getD i 0=0:=fun h=>by rw[List.getD_eq_getElem?_getD,List.getElem?_eq_none (by omega)];rfl
   simp(disch:=omega)only[go_sem,h1]
   refine⟨by omega,by omega,qg (fun h2=>?_) (fun h2=>?_)⟩
   ·simp(disch:=omega)only[go_sem,h2]
    generalize hq:cy+X.getD i 0+Y.getD i 0=q
    refine⟨by omega,by omega,by omega,qc (i+1,out++[q % 65536],q/65536) [(1,460000000)] ⟨by show i+1≤_;omega,by simp[hol],qH.2 ⟨hog,jd.2 (by omega)⟩,by show 0≤q/65536∧q/65536≤1;omega,hstep q hq.symm⟩ (by show X.length-(i+1)<X.length-i;omega) rfl (by simp(disch:=omega)only[go_sem,List.length_append];try omega) (by simp(disch:=omega)only[go_sem])⟩
   ·simp(disch:=omega)only[go_sem,h2]
    have hy0:=hyz (by omega)
    generalize hq:cy+X.getD i 0=q
    refine⟨by omega,qc (i+1,out++[q % 65536],q/65536) [(1,460000000)] ⟨by show i+1≤_;omega,by simp[hol],qH.2 ⟨hog,jd.2 (by omega)⟩,by show 0≤q/65536∧q/65536≤1;omega,hstep q (by omega)⟩ (by show X.length-(i+1)<X.length-i;omega) rfl (by simp(disch:=omega)only[go_sem,List.length_append];try omega) (by simp(disch:=omega)only[go_sem])⟩
  ·simp(disch:=omega)only[go_sem,h1]
   have hiA:i=X.length:=by omega
   subst hiA
   rw[List.take_length,List.take_of_length_le h00]at hov
   have hov2:vl (out++[cy])=vl X+vl Y:=by rw[jH,hol];exact hov
   have hog2:gd (out++[cy]):=qH.2 ⟨hog,jd.2 (by omega)⟩
   refine⟨by omega,?_⟩
   have hl2:out.length+1=(out++[cy]).length:=by simp
   rw[hl2]
   refine zd false [530000000] (jC (out++[cy]) (by simp;omega)) (by simp(disch:=omega)only[go_sem]) (by simp(disch:=omega)only[go_sem]) rfl (qP (z:=1) (cs:=qe (out++[cy])) (by simp(disch:=omega)only[go_sem]) (by simp(disch:=omega)only[go_sem])) (by intro n hn;exact⟨_,List.mem_singleton.2 rfl,by rw[List.mem_singleton.1 hn];rfl⟩) ?_
   rintro r hs bs ⟨rfl,rfl,rfl⟩ _
   refine⟨by simp[qS],?_⟩
   simp(disch:=omega)only[go_sem]
   obtain⟨z,hz⟩:=zU (out++[cy])
   have hc:=jj hog2
   rw[hov2]at hc
   rw[hc]at hz ⊢
   refine qi [(0,530000000)] [.own 1 (qe (out++[cy]))] [] [.rf 0 0 (lim (vl X+vl Y).toNat).length] rfl (by simp(disch:=omega)only[go_sem]) (by simp(disch:=omega)only[go_sem]) (by simp) (by intro _;simp[zv,AV.pu,AV.pu.puL,Ob.pu,q8]) (.inr ⟨List.replicate z 0,by rw[hcm];rfl,by rw[hcm,←hz]⟩)
 ·revert A B
  intro X Y hX hY lX lY h0'
  have h00:Y.length≤X.length:=by omega
  have hcm:vl X+vl Y=vl X+vl Y:=rfl
  refine⟨by omega,?_⟩
  refine qj (fun x:Nat×List Int×Int=>[(1,.sl Y.length (qe Y)),(5,.rf 1 0 x.2.1.length),(6,.v (.int .i64 x.2.2)),(20,.sl X.length (qe X)),(21,.v (.int .i64 X.length)),(22,.v (.int .i64 x.1))])
   (fun x=>[(1,.own 1 (qe x.2.1))])
   (fun x=>x.1≤X.length∧x.2.1.length=x.1∧gd x.2.1∧(0≤x.2.2∧x.2.2≤1)∧vl x.2.1+65536^x.1*x.2.2=vl (X.take x.1)+vl (Y.take x.1))
   (fun x=>X.length-x.1) (0,[],0) ⟨by simp,rfl,Jq,by simp,by simp[vl]⟩
   (Le.lst [(1,210000000)] _ _ rfl (by simp(disch:=omega)only[go_sem]) (by simp(disch:=omega)only[go_sem])) ?_
  rintro⟨i,out,cy⟩ ⟨hi,hol,hog,hcy,hov⟩
  dsimp only at hi hol hog hcy hov ⊢
  simp(disch:=omega)only[go_sem]
  refine qg (fun h1=>?_) (fun h1=>?_)
  ·have hx:=qL hX i
   have hy:=qL hY i
   have hstep:∀q:Int,q=cy+X.getD i 0+Y.getD i 0→vl (out++[q % 65536])+65536^(i+1)*(q/65536)=vl (X.take (i+1))+vl (Y.take (i+1)):=by
    intro q hq
    rw[jH,qV,qV,hol,Int.pow_succ]
    have e3:q % 65536+65536*(q/65536)=q:=Int.emod_add_mul_ediv q 65536
    generalize (65536:Int)^i=Pi at*
    grind
   have hyz:¬i<Y.length→Y.getD i 0=0:=fun h=>by rw[List.getD_eq_getElem?_getD,List.getElem?_eq_none (by omega)];rfl
   simp(disch:=omega)only[go_sem,h1]
   refine⟨by omega,by omega,qg (fun h2=>?_) (fun h2=>?_)⟩
   ·simp(disch:=omega)only[go_sem,h2]
    generalize hq:cy+X.getD i 0+Y.getD i 0=q
    refine⟨by omega,by omega,by omega,qc (i+1,out++[q % 65536],q/65536) [(1,460000000)] ⟨by show i+1≤_;omega,by simp[hol],qH.2 ⟨hog,jd.2 (by omega)⟩,by show 0≤q/65536∧q/65536≤1;omega,hstep q hq.symm⟩ (by show X.length-(i+1)<X.length-i;omega) rfl (by simp(disch:=omega)only[go_sem,List.length_append];try omega) (by simp(disch:=omega)only[go_sem])⟩
   ·simp(disch:=omega)only[go_sem,h2]
    have hy0:=hyz (by omega)
    generalize hq:cy+X.getD i 0=q
    refine⟨by omega,qc (i+1,out++[q % 65536],q/65536) [(1,460000000)] ⟨by show i+1≤_;omega,by simp[hol],qH.2 ⟨hog,jd.2 (by omega)⟩,by show 0≤q/65536∧q/65536≤1;omega,hstep q (by omega)⟩ (by show X.length-(i+1)<X.length-i;omega) rfl (by simp(disch:=omega)only[go_sem,List.length_append];try omega) (by simp(disch:=omega)only[go_sem])⟩
  ·simp(disch:=omega)only[go_sem,h1]
   have hiA:i=X.length:=by omega
   subst hiA
   rw[List.take_length,List.take_of_length_le h00]at hov
   have hov2:vl (out++[cy])=vl X+vl Y:=by rw[jH,hol];exact hov
   have hog2:gd (out++[cy]):=qH.2 ⟨hog,jd.2 (by omega)⟩
   refine⟨by omega,?_⟩
   have hl2:out.length+1=(out++[cy]).length:=by simp
   rw[hl2]
   refine zd false [530000000] (jC (out++[cy]) (by simp;omega)) (by simp(disch:=omega)only[go_sem]) (by simp(disch:=omega)only[go_sem]) rfl (qP (z:=1) (cs:=qe (out++[cy])) (by simp(disch:=omega)only[go_sem]) (by simp(disch:=omega)only[go_sem])) (by intro n hn;exact⟨_,List.mem_singleton.2 rfl,by rw[List.mem_singleton.1 hn];rfl⟩) ?_
   rintro r hs bs ⟨rfl,rfl,rfl⟩ _
   refine⟨by simp[qS],?_⟩
   simp(disch:=omega)only[go_sem]
   obtain⟨z,hz⟩:=zU (out++[cy])
   have hc:=jj hog2
   rw[hov2]at hc
   rw[hc]at hz ⊢
   refine qi [(0,530000000)] [.own 1 (qe (out++[cy]))] [] [.rf 0 0 (lim (vl X+vl Y).toNat).length] rfl (by simp(disch:=omega)only[go_sem]) (by simp(disch:=omega)only[go_sem]) (by simp) (by intro _;simp[zv,AV.pu,AV.pu.puL,Ob.pu,q8]) (.inr ⟨List.replicate z 0,by rw[hcm];rfl,by rw[hcm,←hz]⟩)
end Go.Ab
