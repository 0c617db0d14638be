/- What the proof of this claim stands on: the walks of the functions and the plain laws, part 3. -/
import Derived.Test.YtgkehjnacdccfaaGreatDoorFnRootsLib2
import Derived.Test.YtgkehjnacdccfaaGreatDoorProg
import Derived.KernelRfl
set_option linter.unusedVariables false
set_option linter.unusedSimpArgs false
namespace Go.Ab
open Go Go.Proofs
def ti1:TI:=⟨Kd.oth,1,8,Value.nilFunc⟩
theorem tf1:qm Tryz.prog 1=some ti1:=by kernel_rfl
def ti2:TI:=⟨Kd.int IntKind.i64,1,8,Value.int IntKind.i64 0⟩
theorem tf2:qm Tryz.prog 2=some ti2:=by kernel_rfl
def ti3:TI:=⟨Kd.int IntKind.i64,1,8,Value.int IntKind.i64 0⟩
theorem tf3:qm Tryz.prog 3=some ti3:=by kernel_rfl
def ti4:TI:=⟨Kd.bool,1,1,Value.bool false⟩
theorem tf4:qm Tryz.prog 4=some ti4:=by kernel_rfl
def ti5:TI:=⟨Kd.int IntKind.u8,1,1,Value.int IntKind.u8 0⟩
theorem tf5:qm Tryz.prog 5=some ti5:=by kernel_rfl
def ti6:TI:=⟨Kd.int IntKind.u8,1,1,Value.int IntKind.u8 0⟩
theorem tf6:qm Tryz.prog 6=some ti6:=by kernel_rfl
def ti7:TI:=⟨Kd.stru [(0,2),(1,3),(2,4),(3,6)],4,24,Value.agg ⟨[Value.int IntKind.i64 0,Value.int IntKind.i64 0,Value.bool false,Value.int IntKind.u8 0]⟩⟩
theorem tf7:qm Tryz.prog 7=some ti7:=by kernel_rfl
def ti8:TI:=⟨Kd.stru [(0,2),(1,3),(2,4),(3,6)],4,24,Value.agg ⟨[Value.int IntKind.i64 0,Value.int IntKind.i64 0,Value.bool false,Value.int IntKind.u8 0]⟩⟩
theorem tf8:qm Tryz.prog 8=some ti8:=by kernel_rfl
def ti9:TI:=⟨Kd.str,1,16,Value.string {data:=⟨[]⟩}⟩
theorem tf9:qm Tryz.prog 9=some ti9:=by kernel_rfl
def aIU:TI:=⟨Kd.str,1,16,Value.string {data:=⟨[]⟩}⟩
theorem bkM:qm Tryz.prog 10=some aIU:=by kernel_rfl
def aIT:TI:=⟨Kd.str,1,16,Value.string {data:=⟨[]⟩}⟩
theorem bkL:qm Tryz.prog 11=some aIT:=by kernel_rfl
def aIS:TI:=⟨Kd.int IntKind.u64,1,8,Value.int IntKind.u64 0⟩
theorem bkK:qm Tryz.prog 12=some aIS:=by kernel_rfl
def aIR:TI:=⟨Kd.int IntKind.i32,1,4,Value.int IntKind.i32 0⟩
theorem bkJ:qm Tryz.prog 21=some aIR:=by kernel_rfl
def af5:TI:=⟨Kd.sli 5,1,24,Value.slice none 0 0⟩
theorem aIY:qm Tryz.prog 22=some af5:=by kernel_rfl
def af4:TI:=⟨Kd.sli 42,1,24,Value.slice none 0 0⟩
theorem aIX:qm Tryz.prog 23=some af4:=by kernel_rfl
def aoV:TI:=⟨Kd.stru [(0,3),(1,23)],2,32,Value.agg ⟨[Value.int IntKind.i64 0,Value.slice none 0 0]⟩⟩
theorem aZU:qm Tryz.prog 24=some aoV:=by kernel_rfl
def aoK:TI:=⟨Kd.stru [(0,3),(1,23)],2,32,Value.agg ⟨[Value.int IntKind.i64 0,Value.slice none 0 0]⟩⟩
theorem aZT:qm Tryz.prog 25=some aoK:=by kernel_rfl
def aIQ:TI:=⟨Kd.oth,1,8,Value.nilFunc⟩
theorem bkI:qm Tryz.prog 27=some aIQ:=by kernel_rfl
def af3:TI:=⟨Kd.sli 90,1,24,Value.slice none 0 0⟩
theorem aIW:qm Tryz.prog 28=some af3:=by kernel_rfl
def aoa:TI:=⟨Kd.stru [(0,3),(1,28)],2,32,Value.agg ⟨[Value.int IntKind.i64 0,Value.slice none 0 0]⟩⟩
theorem aZS:qm Tryz.prog 29=some aoa:=by kernel_rfl
def an0:TI:=⟨Kd.stru [(0,3),(1,28)],2,32,Value.agg ⟨[Value.int IntKind.i64 0,Value.slice none 0 0]⟩⟩
theorem aZR:qm Tryz.prog 30=some an0:=by kernel_rfl
def aIP:TI:=⟨Kd.oth,1,8,Value.nilFunc⟩
theorem bkH:qm Tryz.prog 32=some aIP:=by kernel_rfl
def aIO:TI:=⟨Kd.oth,1,8,Value.nilFunc⟩
theorem bkG:qm Tryz.prog 33=some aIO:=by kernel_rfl
def aIN:TI:=⟨Kd.oth,1,8,Value.nilFunc⟩
theorem bkF:qm Tryz.prog 35=some aIN:=by kernel_rfl
def ZE:TI:=⟨Kd.sli 3,1,24,Value.slice none 0 0⟩
theorem aal:qm Tryz.prog 36=some ZE:=by kernel_rfl
def aup:TI:=⟨Kd.stru [(0,36)],1,24,Value.agg ⟨[Value.slice none 0 0]⟩⟩
theorem bcW:qm Tryz.prog 37=some aup:=by kernel_rfl
def abE:TI:=⟨Kd.stru [(0,36)],1,24,Value.agg ⟨[Value.slice none 0 0]⟩⟩
theorem aE1:qm Tryz.prog 38=some abE:=by kernel_rfl
def anO:TI:=⟨Kd.stru [(0,4),(1,38)],2,32,Value.agg ⟨[Value.bool false,Value.slice none 0 0]⟩⟩
theorem aZQ:qm Tryz.prog 39=some anO:=by kernel_rfl
def Xr:TI:=⟨Kd.stru [(0,4),(1,38)],2,32,Value.agg ⟨[Value.bool false,Value.slice none 0 0]⟩⟩
theorem aur:qm Tryz.prog 40=some Xr:=by kernel_rfl
def anK:TI:=⟨Kd.stru [(0,40),(2,3)],3,40,Value.agg ⟨[Value.bool false,Value.slice none 0 0,Value.int IntKind.i64 0]⟩⟩
theorem aZP:qm Tryz.prog 41=some anK:=by kernel_rfl
def Zt:TI:=⟨Kd.stru [(0,40),(2,3)],3,40,Value.agg ⟨[Value.bool false,Value.slice none 0 0,Value.int IntKind.i64 0]⟩⟩
theorem aak:qm Tryz.prog 42=some Zt:=by kernel_rfl
def aIM:TI:=⟨Kd.oth,1,8,Value.nilFunc⟩
theorem bkE:qm Tryz.prog 43=some aIM:=by kernel_rfl
def aIL:TI:=⟨Kd.oth,1,8,Value.nilFunc⟩
theorem bkD:qm Tryz.prog 44=some aIL:=by kernel_rfl
def aIK:TI:=⟨Kd.oth,1,8,Value.nilFunc⟩
theorem bkC:qm Tryz.prog 45=some aIK:=by kernel_rfl
def aIJ:TI:=⟨Kd.oth,1,8,Value.nilFunc⟩
theorem bkB:qm Tryz.prog 46=some aIJ:=by kernel_rfl
def aII:TI:=⟨Kd.oth,1,8,Value.nilFunc⟩
theorem bkA:qm Tryz.prog 47=some aII:=by kernel_rfl
def aIH:TI:=⟨Kd.oth,1,8,Value.nilFunc⟩
theorem bkz:qm Tryz.prog 48=some aIH:=by kernel_rfl
def aIG:TI:=⟨Kd.oth,1,8,Value.nilFunc⟩
theorem bky:qm Tryz.prog 49=some aIG:=by kernel_rfl
def aIF:TI:=⟨Kd.oth,1,8,Value.nilFunc⟩
theorem bkx:qm Tryz.prog 50=some aIF:=by kernel_rfl
def aIE:TI:=⟨Kd.oth,1,8,Value.nilFunc⟩
theorem bkw:qm Tryz.prog 52=some aIE:=by kernel_rfl
def aID:TI:=⟨Kd.oth,1,8,Value.nilFunc⟩
theorem bkv:qm Tryz.prog 53=some aID:=by kernel_rfl
def aIC:TI:=⟨Kd.oth,1,8,Value.nilFunc⟩
theorem bku:qm Tryz.prog 54=some aIC:=by kernel_rfl
def aIB:TI:=⟨Kd.oth,1,8,Value.nilFunc⟩
theorem bkt:qm Tryz.prog 55=some aIB:=by kernel_rfl
def aIA:TI:=⟨Kd.oth,1,8,Value.nilFunc⟩
theorem bks:qm Tryz.prog 56=some aIA:=by kernel_rfl
def aIz:TI:=⟨Kd.oth,1,8,Value.nilFunc⟩
theorem bkr:qm Tryz.prog 58=some aIz:=by kernel_rfl
def aIy:TI:=⟨Kd.oth,1,8,Value.nilFunc⟩
theorem bkq:qm Tryz.prog 60=some aIy:=by kernel_rfl
def aIx:TI:=⟨Kd.oth,1,8,Value.nilFunc⟩
theorem bkp:qm Tryz.prog 61=some aIx:=by kernel_rfl
def aIw:TI:=⟨Kd.oth,1,8,Value.nilFunc⟩
theorem bko:qm Tryz.prog 62=some aIw:=by kernel_rfl
def aIv:TI:=⟨Kd.oth,1,8,Value.nilFunc⟩
theorem bkn:qm Tryz.prog 64=some aIv:=by kernel_rfl
def aIu:TI:=⟨Kd.oth,1,8,Value.nilFunc⟩
theorem bkm:qm Tryz.prog 65=some aIu:=by kernel_rfl
def aIt:TI:=⟨Kd.oth,1,8,Value.nilFunc⟩
theorem bkl:qm Tryz.prog 66=some aIt:=by kernel_rfl
def aIs:TI:=⟨Kd.oth,1,8,Value.nilFunc⟩
theorem bkk:qm Tryz.prog 67=some aIs:=by kernel_rfl
def aIr:TI:=⟨Kd.oth,1,8,Value.nilFunc⟩
theorem bkj:qm Tryz.prog 68=some aIr:=by kernel_rfl
def aIq:TI:=⟨Kd.oth,1,8,Value.nilFunc⟩
theorem bki:qm Tryz.prog 69=some aIq:=by kernel_rfl
def aIp:TI:=⟨Kd.oth,1,8,Value.nilFunc⟩
theorem bkh:qm Tryz.prog 70=some aIp:=by kernel_rfl
def aIo:TI:=⟨Kd.oth,1,8,Value.nilFunc⟩
theorem bkg:qm Tryz.prog 71=some aIo:=by kernel_rfl
def aIn:TI:=⟨Kd.oth,1,8,Value.nilFunc⟩
theorem bkf:qm Tryz.prog 72=some aIn:=by kernel_rfl
def aIm:TI:=⟨Kd.oth,1,8,Value.nilFunc⟩
theorem bke:qm Tryz.prog 73=some aIm:=by kernel_rfl
def af2:TI:=⟨Kd.sli 87,1,24,Value.slice none 0 0⟩
theorem aIV:qm Tryz.prog 74=some af2:=by kernel_rfl
def ana:TI:=⟨Kd.stru [(0,3),(1,74)],2,32,Value.agg ⟨[Value.int IntKind.i64 0,Value.slice none 0 0]⟩⟩
theorem aZO:qm Tryz.prog 75=some ana:=by kernel_rfl
def am8:TI:=⟨Kd.stru [(0,3),(1,74)],2,32,Value.agg ⟨[Value.int IntKind.i64 0,Value.slice none 0 0]⟩⟩
theorem aZN:qm Tryz.prog 76=some am8:=by kernel_rfl
def aIl:TI:=⟨Kd.oth,1,8,Value.nilFunc⟩
theorem bkd:qm Tryz.prog 77=some aIl:=by kernel_rfl
def aIk:TI:=⟨Kd.oth,1,8,Value.nilFunc⟩
theorem bkc:qm Tryz.prog 78=some aIk:=by kernel_rfl
def aIj:TI:=⟨Kd.oth,1,8,Value.nilFunc⟩
theorem bkb:qm Tryz.prog 79=some aIj:=by kernel_rfl
def aIi:TI:=⟨Kd.oth,1,8,Value.nilFunc⟩
theorem bka:qm Tryz.prog 80=some aIi:=by kernel_rfl
def aIh:TI:=⟨Kd.oth,1,8,Value.nilFunc⟩
theorem bj9:qm Tryz.prog 81=some aIh:=by kernel_rfl
def aIg:TI:=⟨Kd.oth,1,8,Value.nilFunc⟩
theorem bj8:qm Tryz.prog 82=some aIg:=by kernel_rfl
def abD:TI:=⟨Kd.stru [(0,36)],1,24,Value.agg ⟨[Value.slice none 0 0]⟩⟩
theorem aE0:qm Tryz.prog 83=some abD:=by kernel_rfl
def amY:TI:=⟨Kd.stru [(0,4),(1,83)],2,32,Value.agg ⟨[Value.bool false,Value.slice none 0 0]⟩⟩
theorem aZM:qm Tryz.prog 84=some amY:=by kernel_rfl
def Xq:TI:=⟨Kd.stru [(0,4),(1,83)],2,32,Value.agg ⟨[Value.bool false,Value.slice none 0 0]⟩⟩
theorem auq:qm Tryz.prog 85=some Xq:=by kernel_rfl
def amV:TI:=⟨Kd.stru [(0,85),(2,3)],3,40,Value.agg ⟨[Value.bool false,Value.slice none 0 0,Value.int IntKind.i64 0]⟩⟩
theorem aZL:qm Tryz.prog 86=some amV:=by kernel_rfl
def amq:TI:=⟨Kd.stru [(0,85),(2,3)],3,40,Value.agg ⟨[Value.bool false,Value.slice none 0 0,Value.int IntKind.i64 0]⟩⟩
theorem aSA:qm Tryz.prog 87=some amq:=by kernel_rfl
def aIf:TI:=⟨Kd.oth,1,8,Value.nilFunc⟩
theorem bj7:qm Tryz.prog 88=some aIf:=by kernel_rfl
def amR:TI:=⟨Kd.stru [(0,42),(3,42)],6,80,Value.agg ⟨[Value.bool false,Value.slice none 0 0,Value.int IntKind.i64 0,Value.bool false,Value.slice none 0 0,Value.int IntKind.i64 0]⟩⟩
theorem aZK:qm Tryz.prog 89=some amR:=by kernel_rfl
def amp:TI:=⟨Kd.stru [(0,42),(3,42)],6,80,Value.agg ⟨[Value.bool false,Value.slice none 0 0,Value.int IntKind.i64 0,Value.bool false,Value.slice none 0 0,Value.int IntKind.i64 0]⟩⟩
theorem aSz:qm Tryz.prog 90=some amp:=by kernel_rfl
def aIe:TI:=⟨Kd.oth,1,8,Value.nilFunc⟩
theorem bj6:qm Tryz.prog 92=some aIe:=by kernel_rfl
def aId:TI:=⟨Kd.oth,1,8,Value.nilFunc⟩
theorem bj5:qm Tryz.prog 93=some aId:=by kernel_rfl
def aIc:TI:=⟨Kd.oth,1,8,Value.nilFunc⟩
theorem bj4:qm Tryz.prog 94=some aIc:=by kernel_rfl
def aIb:TI:=⟨Kd.oth,1,8,Value.nilFunc⟩
theorem bj3:qm Tryz.prog 95=some aIb:=by kernel_rfl
def aIa:TI:=⟨Kd.oth,1,8,Value.nilFunc⟩
theorem bj2:qm Tryz.prog 96=some aIa:=by kernel_rfl
def aH9:TI:=⟨Kd.oth,1,8,Value.nilFunc⟩
theorem bj1:qm Tryz.prog 97=some aH9:=by kernel_rfl
def aH8:TI:=⟨Kd.oth,1,8,Value.nilFunc⟩
theorem bj0:qm Tryz.prog 98=some aH8:=by kernel_rfl
def aH7:TI:=⟨Kd.oth,1,8,Value.nilFunc⟩
theorem bjZ:qm Tryz.prog 99=some aH7:=by kernel_rfl
def aah:TI:=⟨Kd.oth,1,8,Value.nilFunc⟩
theorem bfJ:qm Tryz.prog 101=some aah:=by kernel_rfl
def aag:TI:=⟨Kd.oth,1,8,Value.nilFunc⟩
theorem bfI:qm Tryz.prog 102=some aag:=by kernel_rfl
def aaf:TI:=⟨Kd.oth,1,8,Value.nilFunc⟩
theorem bfH:qm Tryz.prog 103=some aaf:=by kernel_rfl
def aae:TI:=⟨Kd.oth,1,8,Value.nilFunc⟩
theorem bfG:qm Tryz.prog 104=some aae:=by kernel_rfl
def Qh:TI:=⟨Kd.sli 125,1,24,Value.slice none 0 0⟩
theorem aam:qm Tryz.prog 105=some Qh:=by kernel_rfl
def ZJ:TI:=⟨Kd.stru [(0,3),(1,105)],2,32,Value.agg ⟨[Value.int IntKind.i64 0,Value.slice none 0 0]⟩⟩
theorem aE6:qm Tryz.prog 106=some ZJ:=by kernel_rfl
def ZI:TI:=⟨Kd.stru [(0,3),(1,105)],2,32,Value.agg ⟨[Value.int IntKind.i64 0,Value.slice none 0 0]⟩⟩
theorem aE5:qm Tryz.prog 107=some ZI:=by kernel_rfl
def yZ:TI:=⟨Kd.sli 117,1,24,Value.slice none 0 0⟩
theorem Yz:qm Tryz.prog 108=some yZ:=by kernel_rfl
def ZH:TI:=⟨Kd.stru [(0,3),(1,108)],2,32,Value.agg ⟨[Value.int IntKind.i64 0,Value.slice none 0 0]⟩⟩
theorem aE4:qm Tryz.prog 109=some ZH:=by kernel_rfl
def ZG:TI:=⟨Kd.stru [(0,3),(1,108)],2,32,Value.agg ⟨[Value.int IntKind.i64 0,Value.slice none 0 0]⟩⟩
theorem aE3:qm Tryz.prog 110=some ZG:=by kernel_rfl
def aad:TI:=⟨Kd.oth,1,8,Value.nilFunc⟩
theorem bfF:qm Tryz.prog 111=some aad:=by kernel_rfl
def aac:TI:=⟨Kd.oth,1,8,Value.nilFunc⟩
theorem bfE:qm Tryz.prog 112=some aac:=by kernel_rfl
def aab:TI:=⟨Kd.oth,1,8,Value.nilFunc⟩
theorem bfD:qm Tryz.prog 113=some aab:=by kernel_rfl
def aaa:TI:=⟨Kd.oth,1,8,Value.nilFunc⟩
theorem bfC:qm Tryz.prog 114=some aaa:=by kernel_rfl
def K9:TI:=⟨Kd.oth,1,8,Value.nilFunc⟩
theorem bfB:qm Tryz.prog 115=some K9:=by kernel_rfl
def Zm:TI:=⟨Kd.stru [(0,4),(1,36),(2,3)],3,40,Value.agg ⟨[Value.bool false,Value.slice none 0 0,Value.int IntKind.i64 0]⟩⟩
theorem ari:qm Tryz.prog 116=some Zm:=by kernel_rfl
def jf:TI:=⟨Kd.stru [(0,4),(1,36),(2,3)],3,40,Value.agg ⟨[Value.bool false,Value.slice none 0 0,Value.int IntKind.i64 0]⟩⟩
theorem yj:qm Tryz.prog 117=some jf:=by kernel_rfl
def K8:TI:=⟨Kd.oth,1,8,Value.nilFunc⟩
theorem bfA:qm Tryz.prog 118=some K8:=by kernel_rfl
def K7:TI:=⟨Kd.oth,1,8,Value.nilFunc⟩
theorem bfz:qm Tryz.prog 119=some K7:=by kernel_rfl
def K6:TI:=⟨Kd.oth,1,8,Value.nilFunc⟩
theorem bfy:qm Tryz.prog 120=some K6:=by kernel_rfl
def K5:TI:=⟨Kd.oth,1,8,Value.nilFunc⟩
theorem bfx:qm Tryz.prog 121=some K5:=by kernel_rfl
def K4:TI:=⟨Kd.oth,1,8,Value.nilFunc⟩
theorem bfw:qm Tryz.prog 122=some K4:=by kernel_rfl
def K3:TI:=⟨Kd.oth,1,8,Value.nilFunc⟩
theorem bfv:qm Tryz.prog 123=some K3:=by kernel_rfl
def ZF:TI:=⟨Kd.stru [(0,117),(3,117)],6,80,Value.agg ⟨[Value.bool false,Value.slice none 0 0,Value.int IntKind.i64 0,Value.bool false,Value.slice none 0 0,Value.int IntKind.i64 0]⟩⟩
theorem aE2:qm Tryz.prog 124=some ZF:=by kernel_rfl
def Zl:TI:=⟨Kd.stru [(0,117),(3,117)],6,80,Value.agg ⟨[Value.bool false,Value.slice none 0 0,Value.int IntKind.i64 0,Value.bool false,Value.slice none 0 0,Value.int IntKind.i64 0]⟩⟩
theorem arh:qm Tryz.prog 125=some Zl:=by kernel_rfl
def K2:TI:=⟨Kd.oth,1,8,Value.nilFunc⟩
theorem bfu:qm Tryz.prog 127=some K2:=by kernel_rfl
def K1:TI:=⟨Kd.oth,1,8,Value.nilFunc⟩
theorem bft:qm Tryz.prog 128=some K1:=by kernel_rfl
def K0:TI:=⟨Kd.oth,1,8,Value.nilFunc⟩
theorem bfs:qm Tryz.prog 129=some K0:=by kernel_rfl
def KZ:TI:=⟨Kd.oth,1,8,Value.nilFunc⟩
theorem bfr:qm Tryz.prog 130=some KZ:=by kernel_rfl
def KY:TI:=⟨Kd.oth,1,8,Value.nilFunc⟩
theorem bfq:qm Tryz.prog 131=some KY:=by kernel_rfl
def KX:TI:=⟨Kd.oth,1,8,Value.nilFunc⟩
theorem bfp:qm Tryz.prog 132=some KX:=by kernel_rfl
def KW:TI:=⟨Kd.oth,1,8,Value.nilFunc⟩
theorem bfo:qm Tryz.prog 133=some KW:=by kernel_rfl
def KU:TI:=⟨Kd.oth,1,8,Value.nilFunc⟩
theorem bfn:qm Tryz.prog 134=some KU:=by kernel_rfl
def KT:TI:=⟨Kd.oth,1,8,Value.nilFunc⟩
theorem bfm:qm Tryz.prog 135=some KT:=by kernel_rfl
def KS:TI:=⟨Kd.oth,1,8,Value.nilFunc⟩
theorem bfl:qm Tryz.prog 136=some KS:=by kernel_rfl
def KR:TI:=⟨Kd.oth,1,8,Value.nilFunc⟩
theorem bfk:qm Tryz.prog 137=some KR:=by kernel_rfl
def KQ:TI:=⟨Kd.oth,1,8,Value.nilFunc⟩
theorem bfj:qm Tryz.prog 138=some KQ:=by kernel_rfl
def KP:TI:=⟨Kd.oth,1,8,Value.nilFunc⟩
theorem bfi:qm Tryz.prog 139=some KP:=by kernel_rfl
def KO:TI:=⟨Kd.oth,1,8,Value.nilFunc⟩
theorem bfh:qm Tryz.prog 141=some KO:=by kernel_rfl
def KN:TI:=⟨Kd.oth,1,8,Value.nilFunc⟩
theorem bfg:qm Tryz.prog 142=some KN:=by kernel_rfl
def KM:TI:=⟨Kd.oth,1,8,Value.nilFunc⟩
theorem bff:qm Tryz.prog 143=some KM:=by kernel_rfl
def KL:TI:=⟨Kd.oth,1,8,Value.nilFunc⟩
theorem bfe:qm Tryz.prog 144=some KL:=by kernel_rfl
def KK:TI:=⟨Kd.oth,1,8,Value.nilFunc⟩
theorem bfd:qm Tryz.prog 145=some KK:=by kernel_rfl
def KJ:TI:=⟨Kd.oth,1,8,Value.nilFunc⟩
theorem bfc:qm Tryz.prog 146=some KJ:=by kernel_rfl
def KI:TI:=⟨Kd.oth,1,8,Value.nilFunc⟩
theorem bfb:qm Tryz.prog 147=some KI:=by kernel_rfl
def KH:TI:=⟨Kd.oth,1,8,Value.nilFunc⟩
theorem bfa:qm Tryz.prog 148=some KH:=by kernel_rfl
def KG:TI:=⟨Kd.oth,1,8,Value.nilFunc⟩
theorem be9:qm Tryz.prog 149=some KG:=by kernel_rfl
def KF:TI:=⟨Kd.oth,1,8,Value.nilFunc⟩
theorem be8:qm Tryz.prog 150=some KF:=by kernel_rfl
def KE:TI:=⟨Kd.oth,1,8,Value.nilFunc⟩
theorem be7:qm Tryz.prog 151=some KE:=by kernel_rfl
def KD:TI:=⟨Kd.oth,1,8,Value.nilFunc⟩
theorem be6:qm Tryz.prog 152=some KD:=by kernel_rfl
def KC:TI:=⟨Kd.oth,1,8,Value.nilFunc⟩
theorem be5:qm Tryz.prog 153=some KC:=by kernel_rfl
def KB:TI:=⟨Kd.oth,1,8,Value.nilFunc⟩
theorem be4:qm Tryz.prog 154=some KB:=by kernel_rfl
def KA:TI:=⟨Kd.oth,1,8,Value.nilFunc⟩
theorem be3:qm Tryz.prog 155=some KA:=by kernel_rfl
def Kz:TI:=⟨Kd.oth,1,8,Value.nilFunc⟩
theorem be2:qm Tryz.prog 156=some Kz:=by kernel_rfl
def Ky:TI:=⟨Kd.oth,1,8,Value.nilFunc⟩
theorem be1:qm Tryz.prog 157=some Ky:=by kernel_rfl
def Kx:TI:=⟨Kd.oth,1,8,Value.nilFunc⟩
theorem be0:qm Tryz.prog 158=some Kx:=by kernel_rfl
def Kw:TI:=⟨Kd.oth,1,8,Value.nilFunc⟩
theorem beZ:qm Tryz.prog 159=some Kw:=by kernel_rfl
def Kv:TI:=⟨Kd.oth,1,8,Value.nilFunc⟩
theorem beY:qm Tryz.prog 160=some Kv:=by kernel_rfl
def Ku:TI:=⟨Kd.oth,1,8,Value.nilFunc⟩
theorem beX:qm Tryz.prog 161=some Ku:=by kernel_rfl
def Kt:TI:=⟨Kd.oth,1,8,Value.nilFunc⟩
theorem beW:qm Tryz.prog 162=some Kt:=by kernel_rfl
def Ks:TI:=⟨Kd.oth,1,8,Value.nilFunc⟩
theorem beV:qm Tryz.prog 163=some Ks:=by kernel_rfl
def Kr:TI:=⟨Kd.oth,1,8,Value.nilFunc⟩
theorem beU:qm Tryz.prog 164=some Kr:=by kernel_rfl
def Kq:TI:=⟨Kd.oth,1,8,Value.nilFunc⟩
theorem beT:qm Tryz.prog 165=some Kq:=by kernel_rfl
def Kp:TI:=⟨Kd.oth,1,8,Value.nilFunc⟩
theorem beS:qm Tryz.prog 166=some Kp:=by kernel_rfl
def Ko:TI:=⟨Kd.oth,1,8,Value.nilFunc⟩
theorem beR:qm Tryz.prog 167=some Ko:=by kernel_rfl
def Kn:TI:=⟨Kd.oth,1,8,Value.nilFunc⟩
theorem beQ:qm Tryz.prog 168=some Kn:=by kernel_rfl
def Km:TI:=⟨Kd.oth,1,8,Value.nilFunc⟩
theorem beP:qm Tryz.prog 169=some Km:=by kernel_rfl
def Kl:TI:=⟨Kd.oth,1,8,Value.nilFunc⟩
theorem beO:qm Tryz.prog 170=some Kl:=by kernel_rfl
def Kk:TI:=⟨Kd.oth,1,8,Value.nilFunc⟩
theorem beN:qm Tryz.prog 171=some Kk:=by kernel_rfl
def Kj:TI:=⟨Kd.oth,1,8,Value.nilFunc⟩
theorem beM:qm Tryz.prog 172=some Kj:=by kernel_rfl
def Ki:TI:=⟨Kd.oth,1,8,Value.nilFunc⟩
theorem beL:qm Tryz.prog 173=some Ki:=by kernel_rfl
def Kh:TI:=⟨Kd.oth,1,8,Value.nilFunc⟩
theorem beK:qm Tryz.prog 174=some Kh:=by kernel_rfl
def Kg:TI:=⟨Kd.oth,1,8,Value.nilFunc⟩
theorem beJ:qm Tryz.prog 175=some Kg:=by kernel_rfl
def Zk:TI:=⟨Kd.stru [(0,22),(1,3),(2,3)],3,40,Value.agg ⟨[Value.slice none 0 0,Value.int IntKind.i64 0,Value.int IntKind.i64 0]⟩⟩
theorem arg:qm Tryz.prog 176=some Zk:=by kernel_rfl
def Zj:TI:=⟨Kd.stru [(0,22),(1,3),(2,3)],3,40,Value.agg ⟨[Value.slice none 0 0,Value.int IntKind.i64 0,Value.int IntKind.i64 0]⟩⟩
theorem arf:qm Tryz.prog 177=some Zj:=by kernel_rfl
def Kf:TI:=⟨Kd.oth,1,8,Value.nilFunc⟩
theorem beI:qm Tryz.prog 178=some Kf:=by kernel_rfl
def Ke:TI:=⟨Kd.oth,1,8,Value.nilFunc⟩
theorem beH:qm Tryz.prog 179=some Ke:=by kernel_rfl
def Kc:TI:=⟨Kd.oth,1,8,Value.nilFunc⟩
theorem beG:qm Tryz.prog 180=some Kc:=by kernel_rfl
def Kb:TI:=⟨Kd.oth,1,8,Value.nilFunc⟩
theorem beF:qm Tryz.prog 181=some Kb:=by kernel_rfl
def Ka:TI:=⟨Kd.oth,1,8,Value.nilFunc⟩
theorem beE:qm Tryz.prog 182=some Ka:=by kernel_rfl
def V9:TI:=⟨Kd.oth,1,8,Value.nilFunc⟩
theorem beD:qm Tryz.prog 183=some V9:=by kernel_rfl
def V8:TI:=⟨Kd.oth,1,8,Value.nilFunc⟩
theorem beC:qm Tryz.prog 184=some V8:=by kernel_rfl
def V7:TI:=⟨Kd.oth,1,8,Value.nilFunc⟩
theorem beB:qm Tryz.prog 185=some V7:=by kernel_rfl
def V6:TI:=⟨Kd.oth,1,8,Value.nilFunc⟩
theorem beA:qm Tryz.prog 186=some V6:=by kernel_rfl
def V5:TI:=⟨Kd.oth,1,8,Value.nilFunc⟩
theorem bez:qm Tryz.prog 188=some V5:=by kernel_rfl
def V4:TI:=⟨Kd.oth,1,8,Value.nilFunc⟩
theorem bey:qm Tryz.prog 189=some V4:=by kernel_rfl
def V3:TI:=⟨Kd.oth,1,8,Value.nilFunc⟩
theorem bex:qm Tryz.prog 190=some V3:=by kernel_rfl
def V2:TI:=⟨Kd.oth,1,8,Value.nilFunc⟩
theorem bew:qm Tryz.prog 191=some V2:=by kernel_rfl
def V1:TI:=⟨Kd.oth,1,8,Value.nilFunc⟩
theorem bev:qm Tryz.prog 192=some V1:=by kernel_rfl
def V0:TI:=⟨Kd.oth,1,8,Value.nilFunc⟩
theorem beu:qm Tryz.prog 193=some V0:=by kernel_rfl
def VZ:TI:=⟨Kd.oth,1,8,Value.nilFunc⟩
theorem bet:qm Tryz.prog 194=some VZ:=by kernel_rfl
def VY:TI:=⟨Kd.sli 108,1,24,Value.slice none 0 0⟩
theorem aSB:qm Tryz.prog 195=some VY:=by kernel_rfl
def VX:TI:=⟨Kd.oth,1,8,Value.nilFunc⟩
theorem bes:qm Tryz.prog 196=some VX:=by kernel_rfl
def VW:TI:=⟨Kd.oth,1,8,Value.nilFunc⟩
theorem ber:qm Tryz.prog 197=some VW:=by kernel_rfl
def VV:TI:=⟨Kd.oth,1,8,Value.nilFunc⟩
theorem bep:qm Tryz.prog 198=some VV:=by kernel_rfl
def VU:TI:=⟨Kd.oth,1,8,Value.nilFunc⟩
theorem beo:qm Tryz.prog 200=some VU:=by kernel_rfl
def VT:TI:=⟨Kd.oth,1,8,Value.nilFunc⟩
theorem ben:qm Tryz.prog 201=some VT:=by kernel_rfl
def VS:TI:=⟨Kd.oth,1,8,Value.nilFunc⟩
theorem bem:qm Tryz.prog 202=some VS:=by kernel_rfl
def VR:TI:=⟨Kd.oth,1,8,Value.nilFunc⟩
theorem bel:qm Tryz.prog 204=some VR:=by kernel_rfl
def VQ:TI:=⟨Kd.oth,1,8,Value.nilFunc⟩
theorem bek:qm Tryz.prog 206=some VQ:=by kernel_rfl
def VP:TI:=⟨Kd.oth,1,8,Value.nilFunc⟩
theorem bej:qm Tryz.prog 207=some VP:=by kernel_rfl
def VO:TI:=⟨Kd.oth,1,8,Value.nilFunc⟩
theorem bei:qm Tryz.prog 208=some VO:=by kernel_rfl
def VN:TI:=⟨Kd.oth,1,8,Value.nilFunc⟩
theorem beh:qm Tryz.prog 209=some VN:=by kernel_rfl
def VM:TI:=⟨Kd.oth,1,8,Value.nilFunc⟩
theorem beg:qm Tryz.prog 210=some VM:=by kernel_rfl
def VL:TI:=⟨Kd.oth,1,8,Value.nilFunc⟩
theorem bef:qm Tryz.prog 211=some VL:=by kernel_rfl
def VK:TI:=⟨Kd.oth,1,8,Value.nilFunc⟩
theorem bee:qm Tryz.prog 213=some VK:=by kernel_rfl
def VJ:TI:=⟨Kd.oth,1,8,Value.nilFunc⟩
theorem bed:qm Tryz.prog 214=some VJ:=by kernel_rfl
def VI:TI:=⟨Kd.oth,1,8,Value.nilFunc⟩
theorem bec:qm Tryz.prog 215=some VI:=by kernel_rfl
def VH:TI:=⟨Kd.oth,1,8,Value.nilFunc⟩
theorem beb:qm Tryz.prog 216=some VH:=by kernel_rfl
def VG:TI:=⟨Kd.oth,1,8,Value.nilFunc⟩
theorem bea:qm Tryz.prog 217=some VG:=by kernel_rfl
def VF:TI:=⟨Kd.oth,1,8,Value.nilFunc⟩
theorem bd9:qm Tryz.prog 218=some VF:=by kernel_rfl
def VE:TI:=⟨Kd.oth,1,8,Value.nilFunc⟩
theorem bd8:qm Tryz.prog 219=some VE:=by kernel_rfl
def VD:TI:=⟨Kd.oth,1,8,Value.nilFunc⟩
theorem bd7:qm Tryz.prog 220=some VD:=by kernel_rfl
def VC:TI:=⟨Kd.oth,1,8,Value.nilFunc⟩
theorem bd6:qm Tryz.prog 221=some VC:=by kernel_rfl
def VB:TI:=⟨Kd.oth,1,8,Value.nilFunc⟩
theorem bd5:qm Tryz.prog 222=some VB:=by kernel_rfl
def VA:TI:=⟨Kd.oth,1,8,Value.nilFunc⟩
theorem bd2:qm Tryz.prog 223=some VA:=by kernel_rfl
def Vz:TI:=⟨Kd.oth,1,8,Value.nilFunc⟩
theorem bd1:qm Tryz.prog 224=some Vz:=by kernel_rfl
def Vy:TI:=⟨Kd.oth,1,8,Value.nilFunc⟩
theorem bd0:qm Tryz.prog 225=some Vy:=by kernel_rfl
def Vx:TI:=⟨Kd.oth,1,8,Value.nilFunc⟩
theorem bdZ:qm Tryz.prog 226=some Vx:=by kernel_rfl
def Vw:TI:=⟨Kd.oth,1,8,Value.nilFunc⟩
theorem bdY:qm Tryz.prog 227=some Vw:=by kernel_rfl
def Vv:TI:=⟨Kd.oth,1,8,Value.nilFunc⟩
theorem bdX:qm Tryz.prog 228=some Vv:=by kernel_rfl
def Vu:TI:=⟨Kd.oth,1,8,Value.nilFunc⟩
theorem bdW:qm Tryz.prog 229=some Vu:=by kernel_rfl
def Vt:TI:=⟨Kd.oth,1,8,Value.nilFunc⟩
theorem bdV:qm Tryz.prog 230=some Vt:=by kernel_rfl
def Vs:TI:=⟨Kd.oth,1,8,Value.nilFunc⟩
theorem bdU:qm Tryz.prog 231=some Vs:=by kernel_rfl
def Vr:TI:=⟨Kd.oth,1,8,Value.nilFunc⟩
theorem bdT:qm Tryz.prog 233=some Vr:=by kernel_rfl
def Vq:TI:=⟨Kd.oth,1,8,Value.nilFunc⟩
theorem bdS:qm Tryz.prog 234=some Vq:=by kernel_rfl
def Vp:TI:=⟨Kd.oth,1,8,Value.nilFunc⟩
theorem bdR:qm Tryz.prog 235=some Vp:=by kernel_rfl
def Vo:TI:=⟨Kd.oth,1,8,Value.nilFunc⟩
theorem bdQ:qm Tryz.prog 236=some Vo:=by kernel_rfl
def Vn:TI:=⟨Kd.oth,1,8,Value.nilFunc⟩
theorem bdP:qm Tryz.prog 237=some Vn:=by kernel_rfl
def Vm:TI:=⟨Kd.oth,1,8,Value.nilFunc⟩
theorem bdO:qm Tryz.prog 238=some Vm:=by kernel_rfl
def Vl:TI:=⟨Kd.oth,1,8,Value.nilFunc⟩
theorem bdN:qm Tryz.prog 239=some Vl:=by kernel_rfl
def Vk:TI:=⟨Kd.oth,1,8,Value.nilFunc⟩
theorem bdM:qm Tryz.prog 240=some Vk:=by kernel_rfl
def Vj:TI:=⟨Kd.oth,1,8,Value.nilFunc⟩
theorem bdL:qm Tryz.prog 241=some Vj:=by kernel_rfl
def Vi:TI:=⟨Kd.oth,1,8,Value.nilFunc⟩
theorem bdK:qm Tryz.prog 242=some Vi:=by kernel_rfl
def Vh:TI:=⟨Kd.oth,1,8,Value.nilFunc⟩
theorem bdJ:qm Tryz.prog 243=some Vh:=by kernel_rfl
def Vg:TI:=⟨Kd.oth,1,8,Value.nilFunc⟩
theorem bdI:qm Tryz.prog 244=some Vg:=by kernel_rfl
def Vf:TI:=⟨Kd.oth,1,8,Value.nilFunc⟩
theorem bdH:qm Tryz.prog 245=some Vf:=by kernel_rfl
def Ve:TI:=⟨Kd.oth,1,8,Value.nilFunc⟩
theorem bdG:qm Tryz.prog 246=some Ve:=by kernel_rfl
def Vd:TI:=⟨Kd.oth,1,8,Value.nilFunc⟩
theorem bdF:qm Tryz.prog 247=some Vd:=by kernel_rfl
def Vc:TI:=⟨Kd.oth,1,8,Value.nilFunc⟩
theorem bdE:qm Tryz.prog 248=some Vc:=by kernel_rfl
def Vb:TI:=⟨Kd.oth,1,8,Value.nilFunc⟩
theorem bdD:qm Tryz.prog 250=some Vb:=by kernel_rfl
def Va:TI:=⟨Kd.oth,1,8,Value.nilFunc⟩
theorem bdC:qm Tryz.prog 252=some Va:=by kernel_rfl
def X9:TI:=⟨Kd.oth,1,8,Value.nilFunc⟩
theorem bdB:qm Tryz.prog 253=some X9:=by kernel_rfl
def X8:TI:=⟨Kd.oth,1,8,Value.nilFunc⟩
theorem bdA:qm Tryz.prog 254=some X8:=by kernel_rfl
def X7:TI:=⟨Kd.oth,1,8,Value.nilFunc⟩
theorem bdz:qm Tryz.prog 255=some X7:=by kernel_rfl
def X6:TI:=⟨Kd.oth,1,8,Value.nilFunc⟩
theorem bdy:qm Tryz.prog 256=some X6:=by kernel_rfl
def X5:TI:=⟨Kd.oth,1,8,Value.nilFunc⟩
theorem bdx:qm Tryz.prog 257=some X5:=by kernel_rfl
def X4:TI:=⟨Kd.oth,1,8,Value.nilFunc⟩
theorem bdw:qm Tryz.prog 258=some X4:=by kernel_rfl
def X3:TI:=⟨Kd.oth,1,8,Value.nilFunc⟩
theorem bdv:qm Tryz.prog 259=some X3:=by kernel_rfl
def X1:TI:=⟨Kd.oth,1,8,Value.nilFunc⟩
theorem bdu:qm Tryz.prog 260=some X1:=by kernel_rfl
def XZ:TI:=⟨Kd.oth,1,8,Value.nilFunc⟩
theorem bdt:qm Tryz.prog 261=some XZ:=by kernel_rfl
def XY:TI:=⟨Kd.oth,1,8,Value.nilFunc⟩
theorem bds:qm Tryz.prog 262=some XY:=by kernel_rfl
def XX:TI:=⟨Kd.oth,1,8,Value.nilFunc⟩
theorem bdr:qm Tryz.prog 263=some XX:=by kernel_rfl
def XW:TI:=⟨Kd.int IntKind.u64,1,8,Value.int IntKind.u64 0⟩
theorem bdq:qm Tryz.prog 264=some XW:=by kernel_rfl
def XV:TI:=⟨Kd.oth,1,8,Value.nilFunc⟩
theorem bdp:qm Tryz.prog 265=some XV:=by kernel_rfl
def XU:TI:=⟨Kd.oth,1,8,Value.nilFunc⟩
theorem bdo:qm Tryz.prog 266=some XU:=by kernel_rfl
def XT:TI:=⟨Kd.oth,1,8,Value.nilFunc⟩
theorem bdn:qm Tryz.prog 267=some XT:=by kernel_rfl
def XS:TI:=⟨Kd.oth,1,8,Value.nilFunc⟩
theorem bdm:qm Tryz.prog 269=some XS:=by kernel_rfl
def XR:TI:=⟨Kd.oth,1,8,Value.nilFunc⟩
theorem bdl:qm Tryz.prog 271=some XR:=by kernel_rfl
def XQ:TI:=⟨Kd.oth,1,8,Value.nilFunc⟩
theorem bdk:qm Tryz.prog 273=some XQ:=by kernel_rfl
def XP:TI:=⟨Kd.oth,1,8,Value.nilFunc⟩
theorem bdj:qm Tryz.prog 274=some XP:=by kernel_rfl
def XO:TI:=⟨Kd.int IntKind.u32,1,4,Value.int IntKind.u32 0⟩
theorem bdi:qm Tryz.prog 275=some XO:=by kernel_rfl
def XN:TI:=⟨Kd.oth,1,8,Value.nilFunc⟩
theorem bdh:qm Tryz.prog 276=some XN:=by kernel_rfl
def XM:TI:=⟨Kd.int IntKind.u64,1,8,Value.int IntKind.u64 0⟩
theorem bdg:qm Tryz.prog 277=some XM:=by kernel_rfl
def XL:TI:=⟨Kd.oth,1,8,Value.nilFunc⟩
theorem bdf:qm Tryz.prog 278=some XL:=by kernel_rfl
def XK:TI:=⟨Kd.oth,1,8,Value.nilFunc⟩
theorem bde:qm Tryz.prog 279=some XK:=by kernel_rfl
def XJ:TI:=⟨Kd.oth,1,8,Value.nilFunc⟩
theorem bdd:qm Tryz.prog 281=some XJ:=by kernel_rfl
def XI:TI:=⟨Kd.oth,1,8,Value.nilFunc⟩
theorem bdc:qm Tryz.prog 282=some XI:=by kernel_rfl
def XH:TI:=⟨Kd.oth,1,8,Value.nilFunc⟩
theorem bdb:qm Tryz.prog 283=some XH:=by kernel_rfl
def XG:TI:=⟨Kd.oth,1,8,Value.nilFunc⟩
theorem bda:qm Tryz.prog 287=some XG:=by kernel_rfl
def XF:TI:=⟨Kd.oth,1,8,Value.nilFunc⟩
theorem bc9:qm Tryz.prog 288=some XF:=by kernel_rfl
def XE:TI:=⟨Kd.oth,1,8,Value.nilFunc⟩
theorem bc8:qm Tryz.prog 289=some XE:=by kernel_rfl
def XD:TI:=⟨Kd.oth,1,8,Value.nilFunc⟩
theorem bc7:qm Tryz.prog 290=some XD:=by kernel_rfl
def XB:TI:=⟨Kd.oth,1,8,Value.nilFunc⟩
theorem bc6:qm Tryz.prog 291=some XB:=by kernel_rfl
def XA:TI:=⟨Kd.stru [(0,294)],0,0,Value.agg ⟨[]⟩⟩
theorem bc5:qm Tryz.prog 295=some XA:=by kernel_rfl
def Xz:TI:=⟨Kd.stru [(0,294)],0,0,Value.agg ⟨[]⟩⟩
theorem bc4:qm Tryz.prog 296=some Xz:=by kernel_rfl
def Xy:TI:=⟨Kd.int IntKind.u8,1,1,Value.int IntKind.u8 0⟩
theorem bc3:qm Tryz.prog 297=some Xy:=by kernel_rfl
def Xx:TI:=⟨Kd.int IntKind.u8,1,1,Value.int IntKind.u8 0⟩
theorem bc2:qm Tryz.prog 298=some Xx:=by kernel_rfl
def Xw:TI:=⟨Kd.oth,1,8,Value.nilFunc⟩
theorem bc1:qm Tryz.prog 299=some Xw:=by kernel_rfl
def Xv:TI:=⟨Kd.int IntKind.i32,1,4,Value.int IntKind.i32 0⟩
theorem bc0:qm Tryz.prog 301=some Xv:=by kernel_rfl
def Xu:TI:=⟨Kd.int IntKind.i32,1,4,Value.int IntKind.i32 0⟩
theorem bcZ:qm Tryz.prog 302=some Xu:=by kernel_rfl
def Xt:TI:=⟨Kd.oth,1,8,Value.nilFunc⟩
theorem bcY:qm Tryz.prog 305=some Xt:=by kernel_rfl
def Xs:TI:=⟨Kd.oth,1,8,Value.nilFunc⟩
theorem bcX:qm Tryz.prog 306=some Xs:=by kernel_rfl
theorem ty1{K:TI→Prop}:@tyW Tryz.prog 1 ⟨K⟩=K ti1:=qg tf1
theorem aSy:ti1.kd=Kd.oth:=ID rfl
theorem aNo:ti1.kd.agg=false:=ID rfl
theorem aAi:ti1.size=1:=ID rfl
theorem apA:ti1.bytes=8:=ID rfl
theorem aSw:qv ti1=True:=eq_true rfl
theorem aSx:zc ti1=[.v Value.nilFunc]:=ID rfl
theorem ty2{K:TI→Prop}:@tyW Tryz.prog 2 ⟨K⟩=K ti2:=qg tf2
theorem aSv:ti2.kd=Kd.int IntKind.i64:=ID rfl
theorem aMZ:ti2.kd.agg=false:=ID rfl
theorem av3:ti2.size=1:=ID rfl
theorem an1:ti2.bytes=8:=ID rfl
theorem aSt:qv ti2=True:=eq_true rfl
theorem aSu:zc ti2=[.v (Value.int IntKind.i64 0)]:=ID rfl
theorem ty3{K:TI→Prop}:@tyW Tryz.prog 3 ⟨K⟩=K ti3:=qg tf3
theorem aSs:ti3.kd=Kd.int IntKind.i64:=ID rfl
theorem aMA:ti3.kd.agg=false:=ID rfl
theorem avI:ti3.size=1:=ID rfl
theorem anM:ti3.bytes=8:=ID rfl
theorem aSq:qv ti3=True:=eq_true rfl
theorem aSr:zc ti3=[.v (Value.int IntKind.i64 0)]:=ID rfl
theorem ty4{K:TI→Prop}:@tyW Tryz.prog 4 ⟨K⟩=K ti4:=qg tf4
theorem aSp:ti4.kd=Kd.bool:=ID rfl
theorem aL5:ti4.kd.agg=false:=ID rfl
theorem avx:ti4.size=1:=ID rfl
theorem anA:ti4.bytes=1:=ID rfl
theorem aSn:qv ti4=True:=eq_true rfl
theorem aSo:zc ti4=[.v (Value.bool false)]:=ID rfl
theorem ty5{K:TI→Prop}:@tyW Tryz.prog 5 ⟨K⟩=K ti5:=qg tf5
theorem aSm:ti5.kd=Kd.int IntKind.u8:=ID rfl
theorem aLJ:ti5.kd.agg=false:=ID rfl
theorem avp:ti5.size=1:=ID rfl
theorem anr:ti5.bytes=1:=ID rfl
theorem aSk:qv ti5=True:=eq_true rfl
theorem aSl:zc ti5=[.v (Value.int IntKind.u8 0)]:=ID rfl
theorem ty6{K:TI→Prop}:@tyW Tryz.prog 6 ⟨K⟩=K ti6:=qg tf6
theorem aSj:ti6.kd=Kd.int IntKind.u8:=ID rfl
theorem aLh:ti6.kd.agg=false:=ID rfl
theorem avf:ti6.size=1:=ID rfl
theorem anh:ti6.bytes=1:=ID rfl
theorem aSh:qv ti6=True:=eq_true rfl
theorem aSi:zc ti6=[.v (Value.int IntKind.u8 0)]:=ID rfl
theorem ty7{K:TI→Prop}:@tyW Tryz.prog 7 ⟨K⟩=K ti7:=qg tf7
theorem aSg:ti7.kd=Kd.stru [(0,2),(1,3),(2,4),(3,6)]:=ID rfl
theorem aKM:ti7.kd.agg=true:=ID rfl
theorem au4:ti7.size=4:=ID rfl
theorem am3:ti7.bytes=24:=ID rfl
theorem aSe:qv ti7=True:=eq_true rfl
theorem aSf:zc ti7=[.v (Value.int IntKind.i64 0),.v (Value.int IntKind.i64 0),.v (Value.bool false),.v (Value.int IntKind.u8 0)]:=ID rfl
theorem aYB{K:Nat→TI→Prop}:@qz Tryz.prog 7 0 ⟨K⟩=K 0 ti2:=qr (ti:=ti7) (tf:=ti2) (fo:=(0,2)) (fs:=[(0,2),(1,3),(2,4),(3,6)]) tf7 rfl rfl tf2
theorem bf8{K:Nat→Nat→Prop}:qt Tryz.prog [(0,2),(1,3),(2,4),(3,6)] 0 K=K 0 1:=qq (tf:=ti2) (fo:=(0,2)) (fs:=[(0,2),(1,3),(2,4),(3,6)]) rfl tf2
theorem aYA{K:Nat→TI→Prop}:@qz Tryz.prog 7 1 ⟨K⟩=K 1 ti3:=qr (ti:=ti7) (tf:=ti3) (fo:=(1,3)) (fs:=[(0,2),(1,3),(2,4),(3,6)]) tf7 rfl rfl tf3
theorem bf7{K:Nat→Nat→Prop}:qt Tryz.prog [(0,2),(1,3),(2,4),(3,6)] 1 K=K 1 1:=qq (tf:=ti3) (fo:=(1,3)) (fs:=[(0,2),(1,3),(2,4),(3,6)]) rfl tf3
theorem aYz{K:Nat→TI→Prop}:@qz Tryz.prog 7 2 ⟨K⟩=K 2 ti4:=qr (ti:=ti7) (tf:=ti4) (fo:=(2,4)) (fs:=[(0,2),(1,3),(2,4),(3,6)]) tf7 rfl rfl tf4
theorem bf6{K:Nat→Nat→Prop}:qt Tryz.prog [(0,2),(1,3),(2,4),(3,6)] 2 K=K 2 1:=qq (tf:=ti4) (fo:=(2,4)) (fs:=[(0,2),(1,3),(2,4),(3,6)]) rfl tf4
theorem aYy{K:Nat→TI→Prop}:@qz Tryz.prog 7 3 ⟨K⟩=K 3 ti6:=qr (ti:=ti7) (tf:=ti6) (fo:=(3,6)) (fs:=[(0,2),(1,3),(2,4),(3,6)]) tf7 rfl rfl tf6
theorem bf5{K:Nat→Nat→Prop}:qt Tryz.prog [(0,2),(1,3),(2,4),(3,6)] 3 K=K 3 1:=qq (tf:=ti6) (fo:=(3,6)) (fs:=[(0,2),(1,3),(2,4),(3,6)]) rfl tf6
theorem bgq:∀f∈([(0,2),(1,3),(2,4),(3,6)]:List (Nat×Nat)),(qm Tryz.prog f.2).isSome=true:=by
 intro f hf
 simp only[List.mem_cons,List.not_mem_nil,or_false]at hf
 rcases hf with rfl|rfl|rfl|rfl
 ·rw[tf2];rfl
 ·rw[tf3];rfl
 ·rw[tf4];rfl
 ·rw[tf6];rfl
theorem bls{ps:List (Nat×AV)}{K:AV→Prop}:@q7 Tryz.prog 7 ps ⟨K⟩=@zf (qt Tryz.prog [(0,2),(1,3),(2,4),(3,6)]) (zc ti7) ps ⟨fun cs=>K (.ag cs)⟩:=qF tf7 rfl bgq
theorem ty8{K:TI→Prop}:@tyW Tryz.prog 8 ⟨K⟩=K ti8:=qg tf8
theorem aSd:ti8.kd=Kd.stru [(0,2),(1,3),(2,4),(3,6)]:=ID rfl
theorem aKh:ti8.kd.agg=true:=ID rfl
theorem auT:ti8.size=4:=ID rfl
theorem amP:ti8.bytes=24:=ID rfl
theorem aSb:qv ti8=True:=eq_true rfl
theorem aSc:zc ti8=[.v (Value.int IntKind.i64 0),.v (Value.int IntKind.i64 0),.v (Value.bool false),.v (Value.int IntKind.u8 0)]:=ID rfl
theorem aYx{K:Nat→TI→Prop}:@qz Tryz.prog 8 0 ⟨K⟩=K 0 ti2:=qr (ti:=ti8) (tf:=ti2) (fo:=(0,2)) (fs:=[(0,2),(1,3),(2,4),(3,6)]) tf8 rfl rfl tf2
theorem bf4{K:Nat→Nat→Prop}:qt Tryz.prog [(0,2),(1,3),(2,4),(3,6)] 0 K=K 0 1:=qq (tf:=ti2) (fo:=(0,2)) (fs:=[(0,2),(1,3),(2,4),(3,6)]) rfl tf2
theorem aYw{K:Nat→TI→Prop}:@qz Tryz.prog 8 1 ⟨K⟩=K 1 ti3:=qr (ti:=ti8) (tf:=ti3) (fo:=(1,3)) (fs:=[(0,2),(1,3),(2,4),(3,6)]) tf8 rfl rfl tf3
theorem bf3{K:Nat→Nat→Prop}:qt Tryz.prog [(0,2),(1,3),(2,4),(3,6)] 1 K=K 1 1:=qq (tf:=ti3) (fo:=(1,3)) (fs:=[(0,2),(1,3),(2,4),(3,6)]) rfl tf3
theorem aYv{K:Nat→TI→Prop}:@qz Tryz.prog 8 2 ⟨K⟩=K 2 ti4:=qr (ti:=ti8) (tf:=ti4) (fo:=(2,4)) (fs:=[(0,2),(1,3),(2,4),(3,6)]) tf8 rfl rfl tf4
theorem bf2{K:Nat→Nat→Prop}:qt Tryz.prog [(0,2),(1,3),(2,4),(3,6)] 2 K=K 2 1:=qq (tf:=ti4) (fo:=(2,4)) (fs:=[(0,2),(1,3),(2,4),(3,6)]) rfl tf4
theorem aYu{K:Nat→TI→Prop}:@qz Tryz.prog 8 3 ⟨K⟩=K 3 ti6:=qr (ti:=ti8) (tf:=ti6) (fo:=(3,6)) (fs:=[(0,2),(1,3),(2,4),(3,6)]) tf8 rfl rfl tf6
theorem bf1{K:Nat→Nat→Prop}:qt Tryz.prog [(0,2),(1,3),(2,4),(3,6)] 3 K=K 3 1:=qq (tf:=ti6) (fo:=(3,6)) (fs:=[(0,2),(1,3),(2,4),(3,6)]) rfl tf6
theorem bgp:∀f∈([(0,2),(1,3),(2,4),(3,6)]:List (Nat×Nat)),(qm Tryz.prog f.2).isSome=true:=by
 intro f hf
 simp only[List.mem_cons,List.not_mem_nil,or_false]at hf
 rcases hf with rfl|rfl|rfl|rfl
 ·rw[tf2];rfl
 ·rw[tf3];rfl
 ·rw[tf4];rfl
 ·rw[tf6];rfl
theorem blr{ps:List (Nat×AV)}{K:AV→Prop}:@q7 Tryz.prog 8 ps ⟨K⟩=@zf (qt Tryz.prog [(0,2),(1,3),(2,4),(3,6)]) (zc ti8) ps ⟨fun cs=>K (.ag cs)⟩:=qF tf8 rfl bgp
theorem ty9{K:TI→Prop}:@tyW Tryz.prog 9 ⟨K⟩=K ti9:=qg tf9
theorem aSa:ti9.kd=Kd.str:=ID rfl
theorem aJP:ti9.kd.agg=false:=ID rfl
theorem auJ:ti9.size=1:=ID rfl
theorem amF:ti9.bytes=16:=ID rfl
theorem aR8:qv ti9=True:=eq_true rfl
theorem aR9:zc ti9=[.v (Value.string {data:=⟨[]⟩})]:=ID rfl
theorem bjX{K:TI→Prop}:@tyW Tryz.prog 10 ⟨K⟩=K aIU:=qg bkM
theorem aNx:aIU.kd=Kd.str:=ID rfl
theorem aEv:aIU.kd.agg=false:=ID rfl
theorem aq2:aIU.size=1:=ID rfl
theorem akN:aIU.bytes=16:=ID rfl
theorem aNv:qv aIU=True:=eq_true rfl
theorem aNw:zc aIU=[.v (Value.string {data:=⟨[]⟩})]:=ID rfl
theorem bjW{K:TI→Prop}:@tyW Tryz.prog 11 ⟨K⟩=K aIT:=qg bkL
theorem aNu:aIT.kd=Kd.str:=ID rfl
theorem aD0:aIT.kd.agg=false:=ID rfl
theorem aqR:aIT.size=1:=ID rfl
theorem akC:aIT.bytes=16:=ID rfl
theorem aNs:qv aIT=True:=eq_true rfl
theorem aNt:zc aIT=[.v (Value.string {data:=⟨[]⟩})]:=ID rfl
theorem bjV{K:TI→Prop}:@tyW Tryz.prog 12 ⟨K⟩=K aIS:=qg bkK
theorem aNr:aIS.kd=Kd.int IntKind.u64:=ID rfl
theorem aDy:aIS.kd.agg=false:=ID rfl
theorem aqH:aIS.size=1:=ID rfl
theorem aks:aIS.bytes=8:=ID rfl
theorem aNp:qv aIS=True:=eq_true rfl
theorem aNq:zc aIS=[.v (Value.int IntKind.u64 0)]:=ID rfl
theorem bjU{K:TI→Prop}:@tyW Tryz.prog 21 ⟨K⟩=K aIR:=qg bkJ
theorem aNn:aIR.kd=Kd.int IntKind.i32:=ID rfl
theorem azs:aIR.kd.agg=false:=ID rfl
theorem aph:aIR.size=1:=ID rfl
theorem ai5:aIR.bytes=4:=ID rfl
theorem aNl:qv aIR=True:=eq_true rfl
theorem aNm:zc aIR=[.v (Value.int IntKind.i32 0)]:=ID rfl
theorem bjT{K:TI→Prop}:@tyW Tryz.prog 22 ⟨K⟩=K af5:=qg aIY
theorem aNk:af5.kd=Kd.sli 5:=ID rfl
theorem ayX:af5.kd.agg=false:=ID rfl
theorem ao6:af5.size=1:=ID rfl
theorem aiU:af5.bytes=24:=ID rfl
theorem aNi:qv af5=True:=eq_true rfl
theorem aNj:zc af5=[.v (Value.slice none 0 0)]:=ID rfl
theorem bfS{K:TI→Prop}:@yQ Tryz.prog 22 ⟨K⟩=K ti5:=Za aIY rfl tf5
theorem bjS{K:TI→Prop}:@tyW Tryz.prog 23 ⟨K⟩=K af4:=qg aIX
theorem aNh:af4.kd=Kd.sli 42:=ID rfl
theorem ayv:af4.kd.agg=false:=ID rfl
theorem aoW:af4.size=1:=ID rfl
theorem aiK:af4.bytes=24:=ID rfl
theorem aNf:qv af4=True:=eq_true rfl
theorem aNg:zc af4=[.v (Value.slice none 0 0)]:=ID rfl
theorem bfR{K:TI→Prop}:@yQ Tryz.prog 23 ⟨K⟩=K Zt:=Za aIX rfl aak
theorem bjR{K:TI→Prop}:@tyW Tryz.prog 24 ⟨K⟩=K aoV:=qg aZU
theorem aNe:aoV.kd=Kd.stru [(0,3),(1,23)]:=ID rfl
theorem ax3:aoV.kd.agg=true:=ID rfl
theorem aoL:aoV.size=2:=ID rfl
theorem aiA:aoV.bytes=32:=ID rfl
theorem aNc:qv aoV=True:=eq_true rfl
theorem aNd:zc aoV=[.v (Value.int IntKind.i64 0),.v (Value.slice none 0 0)]:=ID rfl
theorem aQt{K:Nat→TI→Prop}:@qz Tryz.prog 24 0 ⟨K⟩=K 0 ti3:=qr (ti:=aoV) (tf:=ti3) (fo:=(0,3)) (fs:=[(0,3),(1,23)]) aZU rfl rfl tf3
theorem aTG{K:Nat→Nat→Prop}:qt Tryz.prog [(0,3),(1,23)] 0 K=K 0 1:=qq (tf:=ti3) (fo:=(0,3)) (fs:=[(0,3),(1,23)]) rfl tf3
theorem aQs{K:Nat→TI→Prop}:@qz Tryz.prog 24 1 ⟨K⟩=K 1 af4:=qr (ti:=aoV) (tf:=af4) (fo:=(1,23)) (fs:=[(0,3),(1,23)]) aZU rfl rfl aIX
theorem aTF{K:Nat→Nat→Prop}:qt Tryz.prog [(0,3),(1,23)] 1 K=K 1 1:=qq (tf:=af4) (fo:=(1,23)) (fs:=[(0,3),(1,23)]) rfl aIX
theorem aUH:∀f∈([(0,3),(1,23)]:List (Nat×Nat)),(qm Tryz.prog f.2).isSome=true:=by
 intro f hf
 simp only[List.mem_cons,List.not_mem_nil,or_false]at hf
 rcases hf with rfl|rfl
 ·rw[tf3];rfl
 ·rw[aIX];rfl
theorem bio{ps:List (Nat×AV)}{K:AV→Prop}:@q7 Tryz.prog 24 ps ⟨K⟩=@zf (qt Tryz.prog [(0,3),(1,23)]) (zc aoV) ps ⟨fun cs=>K (.ag cs)⟩:=qF aZU rfl aUH
theorem bjQ{K:TI→Prop}:@tyW Tryz.prog 25 ⟨K⟩=K aoK:=qg aZT
theorem aNb:aoK.kd=Kd.stru [(0,3),(1,23)]:=ID rfl
theorem axB:aoK.kd.agg=true:=ID rfl
theorem aoA:aoK.size=2:=ID rfl
theorem aiq:aoK.bytes=32:=ID rfl
theorem aM9:qv aoK=True:=eq_true rfl
theorem aNa:zc aoK=[.v (Value.int IntKind.i64 0),.v (Value.slice none 0 0)]:=ID rfl
theorem aQr{K:Nat→TI→Prop}:@qz Tryz.prog 25 0 ⟨K⟩=K 0 ti3:=qr (ti:=aoK) (tf:=ti3) (fo:=(0,3)) (fs:=[(0,3),(1,23)]) aZT rfl rfl tf3
theorem aTE{K:Nat→Nat→Prop}:qt Tryz.prog [(0,3),(1,23)] 0 K=K 0 1:=qq (tf:=ti3) (fo:=(0,3)) (fs:=[(0,3),(1,23)]) rfl tf3
theorem aQq{K:Nat→TI→Prop}:@qz Tryz.prog 25 1 ⟨K⟩=K 1 af4:=qr (ti:=aoK) (tf:=af4) (fo:=(1,23)) (fs:=[(0,3),(1,23)]) aZT rfl rfl aIX
theorem aTD{K:Nat→Nat→Prop}:qt Tryz.prog [(0,3),(1,23)] 1 K=K 1 1:=qq (tf:=af4) (fo:=(1,23)) (fs:=[(0,3),(1,23)]) rfl aIX
theorem aUG:∀f∈([(0,3),(1,23)]:List (Nat×Nat)),(qm Tryz.prog f.2).isSome=true:=by
 intro f hf
 simp only[List.mem_cons,List.not_mem_nil,or_false]at hf
 rcases hf with rfl|rfl
 ·rw[tf3];rfl
 ·rw[aIX];rfl
theorem bin{ps:List (Nat×AV)}{K:AV→Prop}:@q7 Tryz.prog 25 ps ⟨K⟩=@zf (qt Tryz.prog [(0,3),(1,23)]) (zc aoK) ps ⟨fun cs=>K (.ag cs)⟩:=qF aZT rfl aUG
theorem bjP{K:TI→Prop}:@tyW Tryz.prog 27 ⟨K⟩=K aIQ:=qg bkI
theorem aM8:aIQ.kd=Kd.oth:=ID rfl
theorem awK:aIQ.kd.agg=false:=ID rfl
theorem aoi:aIQ.size=1:=ID rfl
theorem ah8:aIQ.bytes=8:=ID rfl
theorem aM6:qv aIQ=True:=eq_true rfl
theorem aM7:zc aIQ=[.v Value.nilFunc]:=ID rfl
theorem bjO{K:TI→Prop}:@tyW Tryz.prog 28 ⟨K⟩=K af3:=qg aIW
theorem aM5:af3.kd=Kd.sli 90:=ID rfl
theorem awr:af3.kd.agg=false:=ID rfl
theorem aob:af3.size=1:=ID rfl
theorem ah1:af3.bytes=24:=ID rfl
theorem aM3:qv af3=True:=eq_true rfl
theorem aM4:zc af3=[.v (Value.slice none 0 0)]:=ID rfl
theorem bfQ{K:TI→Prop}:@yQ Tryz.prog 28 ⟨K⟩=K amp:=Za aIW rfl aSz
theorem bjN{K:TI→Prop}:@tyW Tryz.prog 29 ⟨K⟩=K aoa:=qg aZS
theorem aM2:aoa.kd=Kd.stru [(0,3),(1,28)]:=ID rfl
theorem av4:aoa.kd.agg=true:=ID rfl
theorem an2:aoa.size=2:=ID rfl
theorem ahT:aoa.bytes=32:=ID rfl
theorem aM0:qv aoa=True:=eq_true rfl
theorem aM1:zc aoa=[.v (Value.int IntKind.i64 0),.v (Value.slice none 0 0)]:=ID rfl
theorem aQp{K:Nat→TI→Prop}:@qz Tryz.prog 29 0 ⟨K⟩=K 0 ti3:=qr (ti:=aoa) (tf:=ti3) (fo:=(0,3)) (fs:=[(0,3),(1,28)]) aZS rfl rfl tf3
theorem aTC{K:Nat→Nat→Prop}:qt Tryz.prog [(0,3),(1,28)] 0 K=K 0 1:=qq (tf:=ti3) (fo:=(0,3)) (fs:=[(0,3),(1,28)]) rfl tf3
theorem aQo{K:Nat→TI→Prop}:@qz Tryz.prog 29 1 ⟨K⟩=K 1 af3:=qr (ti:=aoa) (tf:=af3) (fo:=(1,28)) (fs:=[(0,3),(1,28)]) aZS rfl rfl aIW
theorem aTB{K:Nat→Nat→Prop}:qt Tryz.prog [(0,3),(1,28)] 1 K=K 1 1:=qq (tf:=af3) (fo:=(1,28)) (fs:=[(0,3),(1,28)]) rfl aIW
theorem aUF:∀f∈([(0,3),(1,28)]:List (Nat×Nat)),(qm Tryz.prog f.2).isSome=true:=by
 intro f hf
 simp only[List.mem_cons,List.not_mem_nil,or_false]at hf
 rcases hf with rfl|rfl
 ·rw[tf3];rfl
 ·rw[aIW];rfl
theorem bim{ps:List (Nat×AV)}{K:AV→Prop}:@q7 Tryz.prog 29 ps ⟨K⟩=@zf (qt Tryz.prog [(0,3),(1,28)]) (zc aoa) ps ⟨fun cs=>K (.ag cs)⟩:=qF aZS rfl aUF
theorem bjM{K:TI→Prop}:@tyW Tryz.prog 30 ⟨K⟩=K an0:=qg aZR
theorem aMY:an0.kd=Kd.stru [(0,3),(1,28)]:=ID rfl
theorem avQ:an0.kd.agg=true:=ID rfl
theorem anV:an0.size=2:=ID rfl
theorem ahO:an0.bytes=32:=ID rfl
theorem aMW:qv an0=True:=eq_true rfl
theorem aMX:zc an0=[.v (Value.int IntKind.i64 0),.v (Value.slice none 0 0)]:=ID rfl
theorem aQn{K:Nat→TI→Prop}:@qz Tryz.prog 30 0 ⟨K⟩=K 0 ti3:=qr (ti:=an0) (tf:=ti3) (fo:=(0,3)) (fs:=[(0,3),(1,28)]) aZR rfl rfl tf3
theorem aTA{K:Nat→Nat→Prop}:qt Tryz.prog [(0,3),(1,28)] 0 K=K 0 1:=qq (tf:=ti3) (fo:=(0,3)) (fs:=[(0,3),(1,28)]) rfl tf3
theorem aQm{K:Nat→TI→Prop}:@qz Tryz.prog 30 1 ⟨K⟩=K 1 af3:=qr (ti:=an0) (tf:=af3) (fo:=(1,28)) (fs:=[(0,3),(1,28)]) aZR rfl rfl aIW
theorem aTz{K:Nat→Nat→Prop}:qt Tryz.prog [(0,3),(1,28)] 1 K=K 1 1:=qq (tf:=af3) (fo:=(1,28)) (fs:=[(0,3),(1,28)]) rfl aIW
theorem aUE:∀f∈([(0,3),(1,28)]:List (Nat×Nat)),(qm Tryz.prog f.2).isSome=true:=by
 intro f hf
 simp only[List.mem_cons,List.not_mem_nil,or_false]at hf
 rcases hf with rfl|rfl
 ·rw[tf3];rfl
 ·rw[aIW];rfl
theorem bil{ps:List (Nat×AV)}{K:AV→Prop}:@q7 Tryz.prog 30 ps ⟨K⟩=@zf (qt Tryz.prog [(0,3),(1,28)]) (zc an0) ps ⟨fun cs=>K (.ag cs)⟩:=qF aZR rfl aUE
theorem bjL{K:TI→Prop}:@tyW Tryz.prog 32 ⟨K⟩=K aIP:=qg bkH
theorem aMV:aIP.kd=Kd.oth:=ID rfl
theorem avP:aIP.kd.agg=false:=ID rfl
theorem anU:aIP.size=1:=ID rfl
theorem ahN:aIP.bytes=8:=ID rfl
theorem aMT:qv aIP=True:=eq_true rfl
theorem aMU:zc aIP=[.v Value.nilFunc]:=ID rfl
theorem bjK{K:TI→Prop}:@tyW Tryz.prog 33 ⟨K⟩=K aIO:=qg bkG
theorem aMS:aIO.kd=Kd.oth:=ID rfl
theorem avO:aIO.kd.agg=false:=ID rfl
theorem anT:aIO.size=1:=ID rfl
theorem ahM:aIO.bytes=8:=ID rfl
theorem aMQ:qv aIO=True:=eq_true rfl
theorem aMR:zc aIO=[.v Value.nilFunc]:=ID rfl
theorem bjJ{K:TI→Prop}:@tyW Tryz.prog 35 ⟨K⟩=K aIN:=qg bkF
theorem aMP:aIN.kd=Kd.oth:=ID rfl
theorem avN:aIN.kd.agg=false:=ID rfl
theorem anS:aIN.size=1:=ID rfl
theorem ahL:aIN.bytes=8:=ID rfl
theorem aMN:qv aIN=True:=eq_true rfl
theorem aMO:zc aIN=[.v Value.nilFunc]:=ID rfl
theorem bjI{K:TI→Prop}:@tyW Tryz.prog 36 ⟨K⟩=K ZE:=qg aal
theorem aMM:ZE.kd=Kd.sli 3:=ID rfl
theorem avM:ZE.kd.agg=false:=ID rfl
theorem anR:ZE.size=1:=ID rfl
theorem ahK:ZE.bytes=24:=ID rfl
theorem aMK:qv ZE=True:=eq_true rfl
theorem aML:zc ZE=[.v (Value.slice none 0 0)]:=ID rfl
theorem bfP{K:TI→Prop}:@yQ Tryz.prog 36 ⟨K⟩=K ti3:=Za aal rfl tf3
theorem bjH{K:TI→Prop}:@tyW Tryz.prog 37 ⟨K⟩=K aup:=qg bcW
theorem aMJ:aup.kd=Kd.stru [(0,36)]:=ID rfl
theorem avL:aup.kd.agg=true:=ID rfl
theorem anQ:aup.size=1:=ID rfl
theorem ahJ:aup.bytes=24:=ID rfl
theorem aMH:qv aup=True:=eq_true rfl
theorem aMI:zc aup=[.v (Value.slice none 0 0)]:=ID rfl
theorem aQl{K:Nat→TI→Prop}:@qz Tryz.prog 37 0 ⟨K⟩=K 0 ZE:=qr (ti:=aup) (tf:=ZE) (fo:=(0,36)) (fs:=[(0,36)]) bcW rfl rfl aal
theorem aTy{K:Nat→Nat→Prop}:qt Tryz.prog [(0,36)] 0 K=K 0 1:=qq (tf:=ZE) (fo:=(0,36)) (fs:=[(0,36)]) rfl aal
theorem aUD:∀f∈([(0,36)]:List (Nat×Nat)),(qm Tryz.prog f.2).isSome=true:=by
 intro f hf
 simp only[List.mem_cons,List.not_mem_nil,or_false]at hf
 subst hf;rw[aal];rfl
theorem bik{ps:List (Nat×AV)}{K:AV→Prop}:@q7 Tryz.prog 37 ps ⟨K⟩=@zf (qt Tryz.prog [(0,36)]) (zc aup) ps ⟨fun cs=>K (.ag cs)⟩:=qF bcW rfl aUD
theorem bjG{K:TI→Prop}:@tyW Tryz.prog 38 ⟨K⟩=K abE:=qg aE1
theorem aMG:abE.kd=Kd.stru [(0,36)]:=ID rfl
theorem avK:abE.kd.agg=true:=ID rfl
theorem anP:abE.size=1:=ID rfl
theorem ahI:abE.bytes=24:=ID rfl
theorem aME:qv abE=True:=eq_true rfl
theorem aMF:zc abE=[.v (Value.slice none 0 0)]:=ID rfl
theorem aQk{K:Nat→TI→Prop}:@qz Tryz.prog 38 0 ⟨K⟩=K 0 ZE:=qr (ti:=abE) (tf:=ZE) (fo:=(0,36)) (fs:=[(0,36)]) aE1 rfl rfl aal
theorem aTx{K:Nat→Nat→Prop}:qt Tryz.prog [(0,36)] 0 K=K 0 1:=qq (tf:=ZE) (fo:=(0,36)) (fs:=[(0,36)]) rfl aal
theorem aUC:∀f∈([(0,36)]:List (Nat×Nat)),(qm Tryz.prog f.2).isSome=true:=by
 intro f hf
 simp only[List.mem_cons,List.not_mem_nil,or_false]at hf
 subst hf;rw[aal];rfl
theorem bij{ps:List (Nat×AV)}{K:AV→Prop}:@q7 Tryz.prog 38 ps ⟨K⟩=@zf (qt Tryz.prog [(0,36)]) (zc abE) ps ⟨fun cs=>K (.ag cs)⟩:=qF aE1 rfl aUC
theorem bjF{K:TI→Prop}:@tyW Tryz.prog 39 ⟨K⟩=K anO:=qg aZQ
theorem aMD:anO.kd=Kd.stru [(0,4),(1,38)]:=ID rfl
theorem avJ:anO.kd.agg=true:=ID rfl
theorem anN:anO.size=2:=ID rfl
theorem ahH:anO.bytes=32:=ID rfl
theorem aMB:qv anO=True:=eq_true rfl
theorem aMC:zc anO=[.v (Value.bool false),.v (Value.slice none 0 0)]:=ID rfl
theorem aQj{K:Nat→TI→Prop}:@qz Tryz.prog 39 0 ⟨K⟩=K 0 ti4:=qr (ti:=anO) (tf:=ti4) (fo:=(0,4)) (fs:=[(0,4),(1,38)]) aZQ rfl rfl tf4
theorem aTw{K:Nat→Nat→Prop}:qt Tryz.prog [(0,4),(1,38)] 0 K=K 0 1:=qq (tf:=ti4) (fo:=(0,4)) (fs:=[(0,4),(1,38)]) rfl tf4
theorem aQi{K:Nat→TI→Prop}:@qz Tryz.prog 39 1 ⟨K⟩=K 1 abE:=qr (ti:=anO) (tf:=abE) (fo:=(1,38)) (fs:=[(0,4),(1,38)]) aZQ rfl rfl aE1
theorem aTv{K:Nat→Nat→Prop}:qt Tryz.prog [(0,4),(1,38)] 1 K=K 1 1:=qq (tf:=abE) (fo:=(1,38)) (fs:=[(0,4),(1,38)]) rfl aE1
theorem aUB:∀f∈([(0,4),(1,38)]:List (Nat×Nat)),(qm Tryz.prog f.2).isSome=true:=by
 intro f hf
 simp only[List.mem_cons,List.not_mem_nil,or_false]at hf
 rcases hf with rfl|rfl
 ·rw[tf4];rfl
 ·rw[aE1];rfl
theorem bii{ps:List (Nat×AV)}{K:AV→Prop}:@q7 Tryz.prog 39 ps ⟨K⟩=@zf (qt Tryz.prog [(0,4),(1,38)]) (zc anO) ps ⟨fun cs=>K (.ag cs)⟩:=qF aZQ rfl aUB
theorem bjE{K:TI→Prop}:@tyW Tryz.prog 40 ⟨K⟩=K Xr:=qg aur
theorem aMz:Xr.kd=Kd.stru [(0,4),(1,38)]:=ID rfl
theorem avH:Xr.kd.agg=true:=ID rfl
theorem anL:Xr.size=2:=ID rfl
theorem ahG:Xr.bytes=32:=ID rfl
theorem aMx:qv Xr=True:=eq_true rfl
theorem aMy:zc Xr=[.v (Value.bool false),.v (Value.slice none 0 0)]:=ID rfl
theorem aQh{K:Nat→TI→Prop}:@qz Tryz.prog 40 0 ⟨K⟩=K 0 ti4:=qr (ti:=Xr) (tf:=ti4) (fo:=(0,4)) (fs:=[(0,4),(1,38)]) aur rfl rfl tf4
theorem aTu{K:Nat→Nat→Prop}:qt Tryz.prog [(0,4),(1,38)] 0 K=K 0 1:=qq (tf:=ti4) (fo:=(0,4)) (fs:=[(0,4),(1,38)]) rfl tf4
theorem aQg{K:Nat→TI→Prop}:@qz Tryz.prog 40 1 ⟨K⟩=K 1 abE:=qr (ti:=Xr) (tf:=abE) (fo:=(1,38)) (fs:=[(0,4),(1,38)]) aur rfl rfl aE1
theorem aTt{K:Nat→Nat→Prop}:qt Tryz.prog [(0,4),(1,38)] 1 K=K 1 1:=qq (tf:=abE) (fo:=(1,38)) (fs:=[(0,4),(1,38)]) rfl aE1
theorem aUA:∀f∈([(0,4),(1,38)]:List (Nat×Nat)),(qm Tryz.prog f.2).isSome=true:=by
 intro f hf
 simp only[List.mem_cons,List.not_mem_nil,or_false]at hf
 rcases hf with rfl|rfl
 ·rw[tf4];rfl
 ·rw[aE1];rfl
theorem bih{ps:List (Nat×AV)}{K:AV→Prop}:@q7 Tryz.prog 40 ps ⟨K⟩=@zf (qt Tryz.prog [(0,4),(1,38)]) (zc Xr) ps ⟨fun cs=>K (.ag cs)⟩:=qF aur rfl aUA
theorem bjD{K:TI→Prop}:@tyW Tryz.prog 41 ⟨K⟩=K anK:=qg aZP
theorem aMw:anK.kd=Kd.stru [(0,40),(2,3)]:=ID rfl
theorem avG:anK.kd.agg=true:=ID rfl
theorem anJ:anK.size=3:=ID rfl
theorem ahF:anK.bytes=40:=ID rfl
theorem aMu:qv anK=True:=eq_true rfl
theorem aMv:zc anK=[.v (Value.bool false),.v (Value.slice none 0 0),.v (Value.int IntKind.i64 0)]:=ID rfl
theorem aQf{K:Nat→TI→Prop}:@qz Tryz.prog 41 0 ⟨K⟩=K 0 Xr:=qr (ti:=anK) (tf:=Xr) (fo:=(0,40)) (fs:=[(0,40),(2,3)]) aZP rfl rfl aur
theorem aTs{K:Nat→Nat→Prop}:qt Tryz.prog [(0,40),(2,3)] 0 K=K 0 2:=qq (tf:=Xr) (fo:=(0,40)) (fs:=[(0,40),(2,3)]) rfl aur
theorem aQe{K:Nat→TI→Prop}:@qz Tryz.prog 41 1 ⟨K⟩=K 2 ti3:=qr (ti:=anK) (tf:=ti3) (fo:=(2,3)) (fs:=[(0,40),(2,3)]) aZP rfl rfl tf3
theorem aTr{K:Nat→Nat→Prop}:qt Tryz.prog [(0,40),(2,3)] 1 K=K 2 1:=qq (tf:=ti3) (fo:=(2,3)) (fs:=[(0,40),(2,3)]) rfl tf3
theorem aUz:∀f∈([(0,40),(2,3)]:List (Nat×Nat)),(qm Tryz.prog f.2).isSome=true:=by
 intro f hf
 simp only[List.mem_cons,List.not_mem_nil,or_false]at hf
 rcases hf with rfl|rfl
 ·rw[aur];rfl
 ·rw[tf3];rfl
theorem big{ps:List (Nat×AV)}{K:AV→Prop}:@q7 Tryz.prog 41 ps ⟨K⟩=@zf (qt Tryz.prog [(0,40),(2,3)]) (zc anK) ps ⟨fun cs=>K (.ag cs)⟩:=qF aZP rfl aUz
theorem bjC{K:TI→Prop}:@tyW Tryz.prog 42 ⟨K⟩=K Zt:=qg aak
theorem aMt:Zt.kd=Kd.stru [(0,40),(2,3)]:=ID rfl
theorem avF:Zt.kd.agg=true:=ID rfl
theorem anI:Zt.size=3:=ID rfl
theorem ahE:Zt.bytes=40:=ID rfl
theorem aMr:qv Zt=True:=eq_true rfl
theorem aMs:zc Zt=[.v (Value.bool false),.v (Value.slice none 0 0),.v (Value.int IntKind.i64 0)]:=ID rfl
theorem aQd{K:Nat→TI→Prop}:@qz Tryz.prog 42 0 ⟨K⟩=K 0 Xr:=qr (ti:=Zt) (tf:=Xr) (fo:=(0,40)) (fs:=[(0,40),(2,3)]) aak rfl rfl aur
theorem aTq{K:Nat→Nat→Prop}:qt Tryz.prog [(0,40),(2,3)] 0 K=K 0 2:=qq (tf:=Xr) (fo:=(0,40)) (fs:=[(0,40),(2,3)]) rfl aur
theorem aQc{K:Nat→TI→Prop}:@qz Tryz.prog 42 1 ⟨K⟩=K 2 ti3:=qr (ti:=Zt) (tf:=ti3) (fo:=(2,3)) (fs:=[(0,40),(2,3)]) aak rfl rfl tf3
theorem aTp{K:Nat→Nat→Prop}:qt Tryz.prog [(0,40),(2,3)] 1 K=K 2 1:=qq (tf:=ti3) (fo:=(2,3)) (fs:=[(0,40),(2,3)]) rfl tf3
theorem aUy:∀f∈([(0,40),(2,3)]:List (Nat×Nat)),(qm Tryz.prog f.2).isSome=true:=by
 intro f hf
 simp only[List.mem_cons,List.not_mem_nil,or_false]at hf
 rcases hf with rfl|rfl
 ·rw[aur];rfl
 ·rw[tf3];rfl
theorem bie{ps:List (Nat×AV)}{K:AV→Prop}:@q7 Tryz.prog 42 ps ⟨K⟩=@zf (qt Tryz.prog [(0,40),(2,3)]) (zc Zt) ps ⟨fun cs=>K (.ag cs)⟩:=qF aak rfl aUy
theorem bjB{K:TI→Prop}:@tyW Tryz.prog 43 ⟨K⟩=K aIM:=qg bkE
theorem aMq:aIM.kd=Kd.oth:=ID rfl
theorem avE:aIM.kd.agg=false:=ID rfl
theorem anH:aIM.size=1:=ID rfl
theorem ahD:aIM.bytes=8:=ID rfl
theorem aMo:qv aIM=True:=eq_true rfl
theorem aMp:zc aIM=[.v Value.nilFunc]:=ID rfl
theorem bjA{K:TI→Prop}:@tyW Tryz.prog 44 ⟨K⟩=K aIL:=qg bkD
theorem aMn:aIL.kd=Kd.oth:=ID rfl
theorem avD:aIL.kd.agg=false:=ID rfl
theorem anG:aIL.size=1:=ID rfl
theorem ahC:aIL.bytes=8:=ID rfl
theorem aMl:qv aIL=True:=eq_true rfl
theorem aMm:zc aIL=[.v Value.nilFunc]:=ID rfl
theorem bjz{K:TI→Prop}:@tyW Tryz.prog 45 ⟨K⟩=K aIK:=qg bkC
theorem aMk:aIK.kd=Kd.oth:=ID rfl
theorem avC:aIK.kd.agg=false:=ID rfl
theorem anF:aIK.size=1:=ID rfl
theorem ahB:aIK.bytes=8:=ID rfl
theorem aMi:qv aIK=True:=eq_true rfl
theorem aMj:zc aIK=[.v Value.nilFunc]:=ID rfl
theorem bjy{K:TI→Prop}:@tyW Tryz.prog 46 ⟨K⟩=K aIJ:=qg bkB
theorem aMh:aIJ.kd=Kd.oth:=ID rfl
theorem avB:aIJ.kd.agg=false:=ID rfl
theorem anE:aIJ.size=1:=ID rfl
theorem ahA:aIJ.bytes=8:=ID rfl
theorem aMf:qv aIJ=True:=eq_true rfl
theorem aMg:zc aIJ=[.v Value.nilFunc]:=ID rfl
theorem bjx{K:TI→Prop}:@tyW Tryz.prog 47 ⟨K⟩=K aII:=qg bkA
theorem aMe:aII.kd=Kd.oth:=ID rfl
theorem avA:aII.kd.agg=false:=ID rfl
theorem anD:aII.size=1:=ID rfl
theorem ahz:aII.bytes=8:=ID rfl
theorem aMc:qv aII=True:=eq_true rfl
theorem aMd:zc aII=[.v Value.nilFunc]:=ID rfl
theorem bjw{K:TI→Prop}:@tyW Tryz.prog 48 ⟨K⟩=K aIH:=qg bkz
theorem aMb:aIH.kd=Kd.oth:=ID rfl
theorem avz:aIH.kd.agg=false:=ID rfl
theorem anC:aIH.size=1:=ID rfl
theorem ahy:aIH.bytes=8:=ID rfl
theorem aL9:qv aIH=True:=eq_true rfl
theorem aMa:zc aIH=[.v Value.nilFunc]:=ID rfl
theorem bjv{K:TI→Prop}:@tyW Tryz.prog 49 ⟨K⟩=K aIG:=qg bky
theorem aL8:aIG.kd=Kd.oth:=ID rfl
theorem avy:aIG.kd.agg=false:=ID rfl
theorem anB:aIG.size=1:=ID rfl
theorem ahx:aIG.bytes=8:=ID rfl
theorem aL6:qv aIG=True:=eq_true rfl
theorem aL7:zc aIG=[.v Value.nilFunc]:=ID rfl
theorem bju{K:TI→Prop}:@tyW Tryz.prog 50 ⟨K⟩=K aIF:=qg bkx
theorem aL4:aIF.kd=Kd.oth:=ID rfl
theorem avw:aIF.kd.agg=false:=ID rfl
theorem anz:aIF.size=1:=ID rfl
theorem ahw:aIF.bytes=8:=ID rfl
theorem aL2:qv aIF=True:=eq_true rfl
theorem aL3:zc aIF=[.v Value.nilFunc]:=ID rfl
theorem bjt{K:TI→Prop}:@tyW Tryz.prog 52 ⟨K⟩=K aIE:=qg bkw
theorem aL1:aIE.kd=Kd.oth:=ID rfl
theorem avv:aIE.kd.agg=false:=ID rfl
theorem anx:aIE.size=1:=ID rfl
theorem ahv:aIE.bytes=8:=ID rfl
theorem aLZ:qv aIE=True:=eq_true rfl
theorem aL0:zc aIE=[.v Value.nilFunc]:=ID rfl
theorem bjs{K:TI→Prop}:@tyW Tryz.prog 53 ⟨K⟩=K aID:=qg bkv
theorem aLY:aID.kd=Kd.oth:=ID rfl
theorem avu:aID.kd.agg=false:=ID rfl
theorem anw:aID.size=1:=ID rfl
theorem ahu:aID.bytes=8:=ID rfl
theorem aLW:qv aID=True:=eq_true rfl
theorem aLX:zc aID=[.v Value.nilFunc]:=ID rfl
theorem bjr{K:TI→Prop}:@tyW Tryz.prog 54 ⟨K⟩=K aIC:=qg bku
theorem aLV:aIC.kd=Kd.oth:=ID rfl
theorem avt:aIC.kd.agg=false:=ID rfl
theorem anv:aIC.size=1:=ID rfl
theorem aht:aIC.bytes=8:=ID rfl
theorem aLT:qv aIC=True:=eq_true rfl
theorem aLU:zc aIC=[.v Value.nilFunc]:=ID rfl
theorem bjq{K:TI→Prop}:@tyW Tryz.prog 55 ⟨K⟩=K aIB:=qg bkt
theorem aLS:aIB.kd=Kd.oth:=ID rfl
theorem avs:aIB.kd.agg=false:=ID rfl
theorem anu:aIB.size=1:=ID rfl
theorem ahs:aIB.bytes=8:=ID rfl
theorem aLQ:qv aIB=True:=eq_true rfl
theorem aLR:zc aIB=[.v Value.nilFunc]:=ID rfl
theorem bjp{K:TI→Prop}:@tyW Tryz.prog 56 ⟨K⟩=K aIA:=qg bks
theorem aLP:aIA.kd=Kd.oth:=ID rfl
theorem avr:aIA.kd.agg=false:=ID rfl
theorem ant:aIA.size=1:=ID rfl
theorem ahr:aIA.bytes=8:=ID rfl
theorem aLN:qv aIA=True:=eq_true rfl
theorem aLO:zc aIA=[.v Value.nilFunc]:=ID rfl
theorem bjo{K:TI→Prop}:@tyW Tryz.prog 58 ⟨K⟩=K aIz:=qg bkr
theorem aLM:aIz.kd=Kd.oth:=ID rfl
theorem avq:aIz.kd.agg=false:=ID rfl
theorem ans:aIz.size=1:=ID rfl
theorem ahq:aIz.bytes=8:=ID rfl
theorem aLK:qv aIz=True:=eq_true rfl
theorem aLL:zc aIz=[.v Value.nilFunc]:=ID rfl
theorem bjn{K:TI→Prop}:@tyW Tryz.prog 60 ⟨K⟩=K aIy:=qg bkq
theorem aLI:aIy.kd=Kd.oth:=ID rfl
theorem avo:aIy.kd.agg=false:=ID rfl
theorem anq:aIy.size=1:=ID rfl
theorem ahp:aIy.bytes=8:=ID rfl
theorem aLG:qv aIy=True:=eq_true rfl
theorem aLH:zc aIy=[.v Value.nilFunc]:=ID rfl
theorem bjm{K:TI→Prop}:@tyW Tryz.prog 61 ⟨K⟩=K aIx:=qg bkp
theorem aLF:aIx.kd=Kd.oth:=ID rfl
theorem avn:aIx.kd.agg=false:=ID rfl
theorem anp:aIx.size=1:=ID rfl
theorem aho:aIx.bytes=8:=ID rfl
theorem aLD:qv aIx=True:=eq_true rfl
theorem aLE:zc aIx=[.v Value.nilFunc]:=ID rfl
theorem bjl{K:TI→Prop}:@tyW Tryz.prog 62 ⟨K⟩=K aIw:=qg bko
theorem aLC:aIw.kd=Kd.oth:=ID rfl
theorem avm:aIw.kd.agg=false:=ID rfl
theorem ano:aIw.size=1:=ID rfl
theorem ahn:aIw.bytes=8:=ID rfl
theorem aLA:qv aIw=True:=eq_true rfl
theorem aLB:zc aIw=[.v Value.nilFunc]:=ID rfl
theorem bjk{K:TI→Prop}:@tyW Tryz.prog 64 ⟨K⟩=K aIv:=qg bkn
theorem aLz:aIv.kd=Kd.oth:=ID rfl
theorem avl:aIv.kd.agg=false:=ID rfl
theorem ann:aIv.size=1:=ID rfl
theorem ahm:aIv.bytes=8:=ID rfl
theorem aLx:qv aIv=True:=eq_true rfl
theorem aLy:zc aIv=[.v Value.nilFunc]:=ID rfl
theorem bjj{K:TI→Prop}:@tyW Tryz.prog 65 ⟨K⟩=K aIu:=qg bkm
theorem aLw:aIu.kd=Kd.oth:=ID rfl
theorem avk:aIu.kd.agg=false:=ID rfl
theorem anm:aIu.size=1:=ID rfl
theorem ahl:aIu.bytes=8:=ID rfl
theorem aLu:qv aIu=True:=eq_true rfl
theorem aLv:zc aIu=[.v Value.nilFunc]:=ID rfl
theorem bji{K:TI→Prop}:@tyW Tryz.prog 66 ⟨K⟩=K aIt:=qg bkl
theorem aLt:aIt.kd=Kd.oth:=ID rfl
theorem avj:aIt.kd.agg=false:=ID rfl
theorem anl:aIt.size=1:=ID rfl
theorem ahk:aIt.bytes=8:=ID rfl
theorem aLr:qv aIt=True:=eq_true rfl
theorem aLs:zc aIt=[.v Value.nilFunc]:=ID rfl
theorem bjh{K:TI→Prop}:@tyW Tryz.prog 67 ⟨K⟩=K aIs:=qg bkk
theorem aLq:aIs.kd=Kd.oth:=ID rfl
theorem avi:aIs.kd.agg=false:=ID rfl
theorem ank:aIs.size=1:=ID rfl
theorem ahj:aIs.bytes=8:=ID rfl
theorem aLo:qv aIs=True:=eq_true rfl
theorem aLp:zc aIs=[.v Value.nilFunc]:=ID rfl
theorem bjg{K:TI→Prop}:@tyW Tryz.prog 68 ⟨K⟩=K aIr:=qg bkj
theorem aLn:aIr.kd=Kd.oth:=ID rfl
theorem avh:aIr.kd.agg=false:=ID rfl
theorem anj:aIr.size=1:=ID rfl
theorem ahi:aIr.bytes=8:=ID rfl
theorem aLl:qv aIr=True:=eq_true rfl
theorem aLm:zc aIr=[.v Value.nilFunc]:=ID rfl
theorem bjf{K:TI→Prop}:@tyW Tryz.prog 69 ⟨K⟩=K aIq:=qg bki
theorem aLk:aIq.kd=Kd.oth:=ID rfl
theorem avg:aIq.kd.agg=false:=ID rfl
theorem ani:aIq.size=1:=ID rfl
theorem ahh:aIq.bytes=8:=ID rfl
theorem aLi:qv aIq=True:=eq_true rfl
theorem aLj:zc aIq=[.v Value.nilFunc]:=ID rfl
theorem bje{K:TI→Prop}:@tyW Tryz.prog 70 ⟨K⟩=K aIp:=qg bkh
theorem aLg:aIp.kd=Kd.oth:=ID rfl
theorem ave:aIp.kd.agg=false:=ID rfl
theorem ang:aIp.size=1:=ID rfl
theorem ahg:aIp.bytes=8:=ID rfl
theorem aLe:qv aIp=True:=eq_true rfl
theorem aLf:zc aIp=[.v Value.nilFunc]:=ID rfl
theorem bjd{K:TI→Prop}:@tyW Tryz.prog 71 ⟨K⟩=K aIo:=qg bkg
theorem aLd:aIo.kd=Kd.oth:=ID rfl
theorem avd:aIo.kd.agg=false:=ID rfl
theorem anf:aIo.size=1:=ID rfl
theorem ahf:aIo.bytes=8:=ID rfl
theorem aLb:qv aIo=True:=eq_true rfl
theorem aLc:zc aIo=[.v Value.nilFunc]:=ID rfl
theorem bjc{K:TI→Prop}:@tyW Tryz.prog 72 ⟨K⟩=K aIn:=qg bkf
theorem aLa:aIn.kd=Kd.oth:=ID rfl
theorem avc:aIn.kd.agg=false:=ID rfl
theorem ane:aIn.size=1:=ID rfl
theorem ahe:aIn.bytes=8:=ID rfl
theorem aK8:qv aIn=True:=eq_true rfl
theorem aK9:zc aIn=[.v Value.nilFunc]:=ID rfl
theorem bjb{K:TI→Prop}:@tyW Tryz.prog 73 ⟨K⟩=K aIm:=qg bke
theorem aK7:aIm.kd=Kd.oth:=ID rfl
theorem avb:aIm.kd.agg=false:=ID rfl
theorem anc:aIm.size=1:=ID rfl
theorem ahd:aIm.bytes=8:=ID rfl
theorem aK5:qv aIm=True:=eq_true rfl
theorem aK6:zc aIm=[.v Value.nilFunc]:=ID rfl
theorem bja{K:TI→Prop}:@tyW Tryz.prog 74 ⟨K⟩=K af2:=qg aIV
theorem aK4:af2.kd=Kd.sli 87:=ID rfl
theorem ava:af2.kd.agg=false:=ID rfl
theorem anb:af2.size=1:=ID rfl
theorem ahc:af2.bytes=24:=ID rfl
theorem aK2:qv af2=True:=eq_true rfl
theorem aK3:zc af2=[.v (Value.slice none 0 0)]:=ID rfl
theorem bfO{K:TI→Prop}:@yQ Tryz.prog 74 ⟨K⟩=K amq:=Za aIV rfl aSA
theorem bi9{K:TI→Prop}:@tyW Tryz.prog 75 ⟨K⟩=K ana:=qg aZO
theorem aK1:ana.kd=Kd.stru [(0,3),(1,74)]:=ID rfl
theorem au9:ana.kd.agg=true:=ID rfl
theorem am9:ana.size=2:=ID rfl
theorem ahb:ana.bytes=32:=ID rfl
theorem aKZ:qv ana=True:=eq_true rfl
theorem aK0:zc ana=[.v (Value.int IntKind.i64 0),.v (Value.slice none 0 0)]:=ID rfl
theorem aQb{K:Nat→TI→Prop}:@qz Tryz.prog 75 0 ⟨K⟩=K 0 ti3:=qr (ti:=ana) (tf:=ti3) (fo:=(0,3)) (fs:=[(0,3),(1,74)]) aZO rfl rfl tf3
theorem aTo{K:Nat→Nat→Prop}:qt Tryz.prog [(0,3),(1,74)] 0 K=K 0 1:=qq (tf:=ti3) (fo:=(0,3)) (fs:=[(0,3),(1,74)]) rfl tf3
theorem aQa{K:Nat→TI→Prop}:@qz Tryz.prog 75 1 ⟨K⟩=K 1 af2:=qr (ti:=ana) (tf:=af2) (fo:=(1,74)) (fs:=[(0,3),(1,74)]) aZO rfl rfl aIV
theorem aTn{K:Nat→Nat→Prop}:qt Tryz.prog [(0,3),(1,74)] 1 K=K 1 1:=qq (tf:=af2) (fo:=(1,74)) (fs:=[(0,3),(1,74)]) rfl aIV
theorem aUx:∀f∈([(0,3),(1,74)]:List (Nat×Nat)),(qm Tryz.prog f.2).isSome=true:=by
 intro f hf
 simp only[List.mem_cons,List.not_mem_nil,or_false]at hf
 rcases hf with rfl|rfl
 ·rw[tf3];rfl
 ·rw[aIV];rfl
theorem bid{ps:List (Nat×AV)}{K:AV→Prop}:@q7 Tryz.prog 75 ps ⟨K⟩=@zf (qt Tryz.prog [(0,3),(1,74)]) (zc ana) ps ⟨fun cs=>K (.ag cs)⟩:=qF aZO rfl aUx
theorem bi8{K:TI→Prop}:@tyW Tryz.prog 76 ⟨K⟩=K am8:=qg aZN
theorem aKY:am8.kd=Kd.stru [(0,3),(1,74)]:=ID rfl
theorem au8:am8.kd.agg=true:=ID rfl
theorem am7:am8.size=2:=ID rfl
theorem aha:am8.bytes=32:=ID rfl
theorem aKW:qv am8=True:=eq_true rfl
theorem aKX:zc am8=[.v (Value.int IntKind.i64 0),.v (Value.slice none 0 0)]:=ID rfl
theorem aP9{K:Nat→TI→Prop}:@qz Tryz.prog 76 0 ⟨K⟩=K 0 ti3:=qr (ti:=am8) (tf:=ti3) (fo:=(0,3)) (fs:=[(0,3),(1,74)]) aZN rfl rfl tf3
theorem aTm{K:Nat→Nat→Prop}:qt Tryz.prog [(0,3),(1,74)] 0 K=K 0 1:=qq (tf:=ti3) (fo:=(0,3)) (fs:=[(0,3),(1,74)]) rfl tf3
theorem aP8{K:Nat→TI→Prop}:@qz Tryz.prog 76 1 ⟨K⟩=K 1 af2:=qr (ti:=am8) (tf:=af2) (fo:=(1,74)) (fs:=[(0,3),(1,74)]) aZN rfl rfl aIV
theorem aTl{K:Nat→Nat→Prop}:qt Tryz.prog [(0,3),(1,74)] 1 K=K 1 1:=qq (tf:=af2) (fo:=(1,74)) (fs:=[(0,3),(1,74)]) rfl aIV
theorem aUw:∀f∈([(0,3),(1,74)]:List (Nat×Nat)),(qm Tryz.prog f.2).isSome=true:=by
 intro f hf
 simp only[List.mem_cons,List.not_mem_nil,or_false]at hf
 rcases hf with rfl|rfl
 ·rw[tf3];rfl
 ·rw[aIV];rfl
theorem bic{ps:List (Nat×AV)}{K:AV→Prop}:@q7 Tryz.prog 76 ps ⟨K⟩=@zf (qt Tryz.prog [(0,3),(1,74)]) (zc am8) ps ⟨fun cs=>K (.ag cs)⟩:=qF aZN rfl aUw
theorem bi7{K:TI→Prop}:@tyW Tryz.prog 77 ⟨K⟩=K aIl:=qg bkd
theorem aKV:aIl.kd=Kd.oth:=ID rfl
theorem au7:aIl.kd.agg=false:=ID rfl
theorem am6:aIl.size=1:=ID rfl
theorem ag9:aIl.bytes=8:=ID rfl
theorem aKT:qv aIl=True:=eq_true rfl
theorem aKU:zc aIl=[.v Value.nilFunc]:=ID rfl
theorem bi6{K:TI→Prop}:@tyW Tryz.prog 78 ⟨K⟩=K aIk:=qg bkc
theorem aKS:aIk.kd=Kd.oth:=ID rfl
theorem au6:aIk.kd.agg=false:=ID rfl
theorem am5:aIk.size=1:=ID rfl
theorem ag8:aIk.bytes=8:=ID rfl
theorem aKQ:qv aIk=True:=eq_true rfl
theorem aKR:zc aIk=[.v Value.nilFunc]:=ID rfl
theorem bi5{K:TI→Prop}:@tyW Tryz.prog 79 ⟨K⟩=K aIj:=qg bkb
theorem aKP:aIj.kd=Kd.oth:=ID rfl
theorem au5:aIj.kd.agg=false:=ID rfl
theorem am4:aIj.size=1:=ID rfl
theorem ag7:aIj.bytes=8:=ID rfl
theorem aKN:qv aIj=True:=eq_true rfl
theorem aKO:zc aIj=[.v Value.nilFunc]:=ID rfl
theorem bi4{K:TI→Prop}:@tyW Tryz.prog 80 ⟨K⟩=K aIi:=qg bka
theorem aKL:aIi.kd=Kd.oth:=ID rfl
theorem au3:aIi.kd.agg=false:=ID rfl
theorem am2:aIi.size=1:=ID rfl
theorem ag6:aIi.bytes=8:=ID rfl
theorem aKJ:qv aIi=True:=eq_true rfl
theorem aKK:zc aIi=[.v Value.nilFunc]:=ID rfl
theorem bi3{K:TI→Prop}:@tyW Tryz.prog 81 ⟨K⟩=K aIh:=qg bj9
theorem aKI:aIh.kd=Kd.oth:=ID rfl
theorem au2:aIh.kd.agg=false:=ID rfl
theorem am1:aIh.size=1:=ID rfl
theorem ag5:aIh.bytes=8:=ID rfl
theorem aKG:qv aIh=True:=eq_true rfl
theorem aKH:zc aIh=[.v Value.nilFunc]:=ID rfl
theorem bi2{K:TI→Prop}:@tyW Tryz.prog 82 ⟨K⟩=K aIg:=qg bj8
theorem aKF:aIg.kd=Kd.oth:=ID rfl
theorem au1:aIg.kd.agg=false:=ID rfl
theorem am0:aIg.size=1:=ID rfl
theorem ag4:aIg.bytes=8:=ID rfl
theorem aKD:qv aIg=True:=eq_true rfl
theorem aKE:zc aIg=[.v Value.nilFunc]:=ID rfl
theorem bi1{K:TI→Prop}:@tyW Tryz.prog 83 ⟨K⟩=K abD:=qg aE0
theorem aKC:abD.kd=Kd.stru [(0,36)]:=ID rfl
theorem au0:abD.kd.agg=true:=ID rfl
theorem amZ:abD.size=1:=ID rfl
theorem ag3:abD.bytes=24:=ID rfl
theorem aKA:qv abD=True:=eq_true rfl
theorem aKB:zc abD=[.v (Value.slice none 0 0)]:=ID rfl
theorem aP7{K:Nat→TI→Prop}:@qz Tryz.prog 83 0 ⟨K⟩=K 0 ZE:=qr (ti:=abD) (tf:=ZE) (fo:=(0,36)) (fs:=[(0,36)]) aE0 rfl rfl aal
theorem aTk{K:Nat→Nat→Prop}:qt Tryz.prog [(0,36)] 0 K=K 0 1:=qq (tf:=ZE) (fo:=(0,36)) (fs:=[(0,36)]) rfl aal
theorem aUv:∀f∈([(0,36)]:List (Nat×Nat)),(qm Tryz.prog f.2).isSome=true:=by
 intro f hf
 simp only[List.mem_cons,List.not_mem_nil,or_false]at hf
 subst hf;rw[aal];rfl
theorem bib{ps:List (Nat×AV)}{K:AV→Prop}:@q7 Tryz.prog 83 ps ⟨K⟩=@zf (qt Tryz.prog [(0,36)]) (zc abD) ps ⟨fun cs=>K (.ag cs)⟩:=qF aE0 rfl aUv
theorem bi0{K:TI→Prop}:@tyW Tryz.prog 84 ⟨K⟩=K amY:=qg aZM
theorem aKz:amY.kd=Kd.stru [(0,4),(1,83)]:=ID rfl
theorem auZ:amY.kd.agg=true:=ID rfl
theorem amX:amY.size=2:=ID rfl
theorem ag2:amY.bytes=32:=ID rfl
theorem aKx:qv amY=True:=eq_true rfl
theorem aKy:zc amY=[.v (Value.bool false),.v (Value.slice none 0 0)]:=ID rfl
theorem aP6{K:Nat→TI→Prop}:@qz Tryz.prog 84 0 ⟨K⟩=K 0 ti4:=qr (ti:=amY) (tf:=ti4) (fo:=(0,4)) (fs:=[(0,4),(1,83)]) aZM rfl rfl tf4
theorem aTj{K:Nat→Nat→Prop}:qt Tryz.prog [(0,4),(1,83)] 0 K=K 0 1:=qq (tf:=ti4) (fo:=(0,4)) (fs:=[(0,4),(1,83)]) rfl tf4
theorem aP5{K:Nat→TI→Prop}:@qz Tryz.prog 84 1 ⟨K⟩=K 1 abD:=qr (ti:=amY) (tf:=abD) (fo:=(1,83)) (fs:=[(0,4),(1,83)]) aZM rfl rfl aE0
theorem aTi{K:Nat→Nat→Prop}:qt Tryz.prog [(0,4),(1,83)] 1 K=K 1 1:=qq (tf:=abD) (fo:=(1,83)) (fs:=[(0,4),(1,83)]) rfl aE0
theorem aUu:∀f∈([(0,4),(1,83)]:List (Nat×Nat)),(qm Tryz.prog f.2).isSome=true:=by
 intro f hf
 simp only[List.mem_cons,List.not_mem_nil,or_false]at hf
 rcases hf with rfl|rfl
 ·rw[tf4];rfl
 ·rw[aE0];rfl
theorem bia{ps:List (Nat×AV)}{K:AV→Prop}:@q7 Tryz.prog 84 ps ⟨K⟩=@zf (qt Tryz.prog [(0,4),(1,83)]) (zc amY) ps ⟨fun cs=>K (.ag cs)⟩:=qF aZM rfl aUu
theorem biZ{K:TI→Prop}:@tyW Tryz.prog 85 ⟨K⟩=K Xq:=qg auq
theorem aKw:Xq.kd=Kd.stru [(0,4),(1,83)]:=ID rfl
theorem auY:Xq.kd.agg=true:=ID rfl
theorem amW:Xq.size=2:=ID rfl
theorem ag1:Xq.bytes=32:=ID rfl
theorem aKu:qv Xq=True:=eq_true rfl
theorem aKv:zc Xq=[.v (Value.bool false),.v (Value.slice none 0 0)]:=ID rfl
theorem aP4{K:Nat→TI→Prop}:@qz Tryz.prog 85 0 ⟨K⟩=K 0 ti4:=qr (ti:=Xq) (tf:=ti4) (fo:=(0,4)) (fs:=[(0,4),(1,83)]) auq rfl rfl tf4
theorem aTh{K:Nat→Nat→Prop}:qt Tryz.prog [(0,4),(1,83)] 0 K=K 0 1:=qq (tf:=ti4) (fo:=(0,4)) (fs:=[(0,4),(1,83)]) rfl tf4
theorem aP3{K:Nat→TI→Prop}:@qz Tryz.prog 85 1 ⟨K⟩=K 1 abD:=qr (ti:=Xq) (tf:=abD) (fo:=(1,83)) (fs:=[(0,4),(1,83)]) auq rfl rfl aE0
theorem aTg{K:Nat→Nat→Prop}:qt Tryz.prog [(0,4),(1,83)] 1 K=K 1 1:=qq (tf:=abD) (fo:=(1,83)) (fs:=[(0,4),(1,83)]) rfl aE0
theorem aUt:∀f∈([(0,4),(1,83)]:List (Nat×Nat)),(qm Tryz.prog f.2).isSome=true:=by
 intro f hf
 simp only[List.mem_cons,List.not_mem_nil,or_false]at hf
 rcases hf with rfl|rfl
 ·rw[tf4];rfl
 ·rw[aE0];rfl
theorem bh9{ps:List (Nat×AV)}{K:AV→Prop}:@q7 Tryz.prog 85 ps ⟨K⟩=@zf (qt Tryz.prog [(0,4),(1,83)]) (zc Xq) ps ⟨fun cs=>K (.ag cs)⟩:=qF auq rfl aUt
theorem biY{K:TI→Prop}:@tyW Tryz.prog 86 ⟨K⟩=K amV:=qg aZL
theorem aKt:amV.kd=Kd.stru [(0,85),(2,3)]:=ID rfl
theorem auX:amV.kd.agg=true:=ID rfl
theorem amU:amV.size=3:=ID rfl
theorem ag0:amV.bytes=40:=ID rfl
theorem aKr:qv amV=True:=eq_true rfl
theorem aKs:zc amV=[.v (Value.bool false),.v (Value.slice none 0 0),.v (Value.int IntKind.i64 0)]:=ID rfl
theorem aP2{K:Nat→TI→Prop}:@qz Tryz.prog 86 0 ⟨K⟩=K 0 Xq:=qr (ti:=amV) (tf:=Xq) (fo:=(0,85)) (fs:=[(0,85),(2,3)]) aZL rfl rfl auq
theorem aTf{K:Nat→Nat→Prop}:qt Tryz.prog [(0,85),(2,3)] 0 K=K 0 2:=qq (tf:=Xq) (fo:=(0,85)) (fs:=[(0,85),(2,3)]) rfl auq
theorem aP1{K:Nat→TI→Prop}:@qz Tryz.prog 86 1 ⟨K⟩=K 2 ti3:=qr (ti:=amV) (tf:=ti3) (fo:=(2,3)) (fs:=[(0,85),(2,3)]) aZL rfl rfl tf3
theorem aTe{K:Nat→Nat→Prop}:qt Tryz.prog [(0,85),(2,3)] 1 K=K 2 1:=qq (tf:=ti3) (fo:=(2,3)) (fs:=[(0,85),(2,3)]) rfl tf3
theorem aUs:∀f∈([(0,85),(2,3)]:List (Nat×Nat)),(qm Tryz.prog f.2).isSome=true:=by
 intro f hf
 simp only[List.mem_cons,List.not_mem_nil,or_false]at hf
 rcases hf with rfl|rfl
 ·rw[auq];rfl
 ·rw[tf3];rfl
theorem bh8{ps:List (Nat×AV)}{K:AV→Prop}:@q7 Tryz.prog 86 ps ⟨K⟩=@zf (qt Tryz.prog [(0,85),(2,3)]) (zc amV) ps ⟨fun cs=>K (.ag cs)⟩:=qF aZL rfl aUs
theorem biX{K:TI→Prop}:@tyW Tryz.prog 87 ⟨K⟩=K amq:=qg aSA
theorem aKq:amq.kd=Kd.stru [(0,85),(2,3)]:=ID rfl
theorem auW:amq.kd.agg=true:=ID rfl
theorem amT:amq.size=3:=ID rfl
theorem agZ:amq.bytes=40:=ID rfl
theorem aKo:qv amq=True:=eq_true rfl
theorem aKp:zc amq=[.v (Value.bool false),.v (Value.slice none 0 0),.v (Value.int IntKind.i64 0)]:=ID rfl
theorem aP0{K:Nat→TI→Prop}:@qz Tryz.prog 87 0 ⟨K⟩=K 0 Xq:=qr (ti:=amq) (tf:=Xq) (fo:=(0,85)) (fs:=[(0,85),(2,3)]) aSA rfl rfl auq
theorem aTd{K:Nat→Nat→Prop}:qt Tryz.prog [(0,85),(2,3)] 0 K=K 0 2:=qq (tf:=Xq) (fo:=(0,85)) (fs:=[(0,85),(2,3)]) rfl auq
theorem aPZ{K:Nat→TI→Prop}:@qz Tryz.prog 87 1 ⟨K⟩=K 2 ti3:=qr (ti:=amq) (tf:=ti3) (fo:=(2,3)) (fs:=[(0,85),(2,3)]) aSA rfl rfl tf3
theorem aTc{K:Nat→Nat→Prop}:qt Tryz.prog [(0,85),(2,3)] 1 K=K 2 1:=qq (tf:=ti3) (fo:=(2,3)) (fs:=[(0,85),(2,3)]) rfl tf3
theorem aUr:∀f∈([(0,85),(2,3)]:List (Nat×Nat)),(qm Tryz.prog f.2).isSome=true:=by
 intro f hf
 simp only[List.mem_cons,List.not_mem_nil,or_false]at hf
 rcases hf with rfl|rfl
 ·rw[auq];rfl
 ·rw[tf3];rfl
theorem bh7{ps:List (Nat×AV)}{K:AV→Prop}:@q7 Tryz.prog 87 ps ⟨K⟩=@zf (qt Tryz.prog [(0,85),(2,3)]) (zc amq) ps ⟨fun cs=>K (.ag cs)⟩:=qF aSA rfl aUr
theorem biW{K:TI→Prop}:@tyW Tryz.prog 88 ⟨K⟩=K aIf:=qg bj7
theorem aKn:aIf.kd=Kd.oth:=ID rfl
theorem auV:aIf.kd.agg=false:=ID rfl
theorem amS:aIf.size=1:=ID rfl
theorem agY:aIf.bytes=8:=ID rfl
theorem aKl:qv aIf=True:=eq_true rfl
theorem aKm:zc aIf=[.v Value.nilFunc]:=ID rfl
theorem biV{K:TI→Prop}:@tyW Tryz.prog 89 ⟨K⟩=K amR:=qg aZK
theorem aKk:amR.kd=Kd.stru [(0,42),(3,42)]:=ID rfl
theorem auU:amR.kd.agg=true:=ID rfl
theorem amQ:amR.size=6:=ID rfl
theorem agX:amR.bytes=80:=ID rfl
theorem aKi:qv amR=True:=eq_true rfl
theorem aKj:zc amR=[.v (Value.bool false),.v (Value.slice none 0 0),.v (Value.int IntKind.i64 0),.v (Value.bool false),.v (Value.slice none 0 0),.v (Value.int IntKind.i64 0)]:=ID rfl
theorem aPY{K:Nat→TI→Prop}:@qz Tryz.prog 89 0 ⟨K⟩=K 0 Zt:=qr (ti:=amR) (tf:=Zt) (fo:=(0,42)) (fs:=[(0,42),(3,42)]) aZK rfl rfl aak
theorem aTb{K:Nat→Nat→Prop}:qt Tryz.prog [(0,42),(3,42)] 0 K=K 0 3:=qq (tf:=Zt) (fo:=(0,42)) (fs:=[(0,42),(3,42)]) rfl aak
theorem aPX{K:Nat→TI→Prop}:@qz Tryz.prog 89 1 ⟨K⟩=K 3 Zt:=qr (ti:=amR) (tf:=Zt) (fo:=(3,42)) (fs:=[(0,42),(3,42)]) aZK rfl rfl aak
theorem aTa{K:Nat→Nat→Prop}:qt Tryz.prog [(0,42),(3,42)] 1 K=K 3 3:=qq (tf:=Zt) (fo:=(3,42)) (fs:=[(0,42),(3,42)]) rfl aak
theorem aUq:∀f∈([(0,42),(3,42)]:List (Nat×Nat)),(qm Tryz.prog f.2).isSome=true:=by
 intro f hf
 simp only[List.mem_cons,List.not_mem_nil,or_false]at hf
 rcases hf with rfl|rfl
 ·rw[aak];rfl
 ·rw[aak];rfl
theorem bh6{ps:List (Nat×AV)}{K:AV→Prop}:@q7 Tryz.prog 89 ps ⟨K⟩=@zf (qt Tryz.prog [(0,42),(3,42)]) (zc amR) ps ⟨fun cs=>K (.ag cs)⟩:=qF aZK rfl aUq
theorem biU{K:TI→Prop}:@tyW Tryz.prog 90 ⟨K⟩=K amp:=qg aSz
theorem aKg:amp.kd=Kd.stru [(0,42),(3,42)]:=ID rfl
theorem auS:amp.kd.agg=true:=ID rfl
theorem amO:amp.size=6:=ID rfl
theorem agW:amp.bytes=80:=ID rfl
theorem aKe:qv amp=True:=eq_true rfl
theorem aKf:zc amp=[.v (Value.bool false),.v (Value.slice none 0 0),.v (Value.int IntKind.i64 0),.v (Value.bool false),.v (Value.slice none 0 0),.v (Value.int IntKind.i64 0)]:=ID rfl
theorem aPW{K:Nat→TI→Prop}:@qz Tryz.prog 90 0 ⟨K⟩=K 0 Zt:=qr (ti:=amp) (tf:=Zt) (fo:=(0,42)) (fs:=[(0,42),(3,42)]) aSz rfl rfl aak
theorem aS9{K:Nat→Nat→Prop}:qt Tryz.prog [(0,42),(3,42)] 0 K=K 0 3:=qq (tf:=Zt) (fo:=(0,42)) (fs:=[(0,42),(3,42)]) rfl aak
theorem aPV{K:Nat→TI→Prop}:@qz Tryz.prog 90 1 ⟨K⟩=K 3 Zt:=qr (ti:=amp) (tf:=Zt) (fo:=(3,42)) (fs:=[(0,42),(3,42)]) aSz rfl rfl aak
theorem aS8{K:Nat→Nat→Prop}:qt Tryz.prog [(0,42),(3,42)] 1 K=K 3 3:=qq (tf:=Zt) (fo:=(3,42)) (fs:=[(0,42),(3,42)]) rfl aak
theorem aUp:∀f∈([(0,42),(3,42)]:List (Nat×Nat)),(qm Tryz.prog f.2).isSome=true:=by
 intro f hf
 simp only[List.mem_cons,List.not_mem_nil,or_false]at hf
 rcases hf with rfl|rfl
 ·rw[aak];rfl
 ·rw[aak];rfl
theorem bh5{ps:List (Nat×AV)}{K:AV→Prop}:@q7 Tryz.prog 90 ps ⟨K⟩=@zf (qt Tryz.prog [(0,42),(3,42)]) (zc amp) ps ⟨fun cs=>K (.ag cs)⟩:=qF aSz rfl aUp
theorem biT{K:TI→Prop}:@tyW Tryz.prog 92 ⟨K⟩=K aIe:=qg bj6
theorem aKd:aIe.kd=Kd.oth:=ID rfl
theorem auR:aIe.kd.agg=false:=ID rfl
theorem amN:aIe.size=1:=ID rfl
theorem agV:aIe.bytes=8:=ID rfl
theorem aKb:qv aIe=True:=eq_true rfl
theorem aKc:zc aIe=[.v Value.nilFunc]:=ID rfl
theorem biS{K:TI→Prop}:@tyW Tryz.prog 93 ⟨K⟩=K aId:=qg bj5
theorem aKa:aId.kd=Kd.oth:=ID rfl
theorem auQ:aId.kd.agg=false:=ID rfl
theorem amM:aId.size=1:=ID rfl
theorem agU:aId.bytes=8:=ID rfl
theorem aJ8:qv aId=True:=eq_true rfl
theorem aJ9:zc aId=[.v Value.nilFunc]:=ID rfl
theorem biR{K:TI→Prop}:@tyW Tryz.prog 94 ⟨K⟩=K aIc:=qg bj4
theorem aJ7:aIc.kd=Kd.oth:=ID rfl
theorem auP:aIc.kd.agg=false:=ID rfl
theorem amL:aIc.size=1:=ID rfl
theorem agT:aIc.bytes=8:=ID rfl
theorem aJ5:qv aIc=True:=eq_true rfl
theorem aJ6:zc aIc=[.v Value.nilFunc]:=ID rfl
theorem biQ{K:TI→Prop}:@tyW Tryz.prog 95 ⟨K⟩=K aIb:=qg bj3
theorem aJ4:aIb.kd=Kd.oth:=ID rfl
theorem auO:aIb.kd.agg=false:=ID rfl
theorem amK:aIb.size=1:=ID rfl
theorem agS:aIb.bytes=8:=ID rfl
theorem aJ2:qv aIb=True:=eq_true rfl
theorem aJ3:zc aIb=[.v Value.nilFunc]:=ID rfl
theorem biP{K:TI→Prop}:@tyW Tryz.prog 96 ⟨K⟩=K aIa:=qg bj2
theorem aJ1:aIa.kd=Kd.oth:=ID rfl
theorem auN:aIa.kd.agg=false:=ID rfl
theorem amJ:aIa.size=1:=ID rfl
theorem agR:aIa.bytes=8:=ID rfl
theorem aJZ:qv aIa=True:=eq_true rfl
theorem aJ0:zc aIa=[.v Value.nilFunc]:=ID rfl
theorem biO{K:TI→Prop}:@tyW Tryz.prog 97 ⟨K⟩=K aH9:=qg bj1
theorem aJY:aH9.kd=Kd.oth:=ID rfl
theorem auM:aH9.kd.agg=false:=ID rfl
theorem amI:aH9.size=1:=ID rfl
theorem agQ:aH9.bytes=8:=ID rfl
theorem aJW:qv aH9=True:=eq_true rfl
theorem aJX:zc aH9=[.v Value.nilFunc]:=ID rfl
theorem biN{K:TI→Prop}:@tyW Tryz.prog 98 ⟨K⟩=K aH8:=qg bj0
theorem aJV:aH8.kd=Kd.oth:=ID rfl
theorem auL:aH8.kd.agg=false:=ID rfl
theorem amH:aH8.size=1:=ID rfl
theorem agP:aH8.bytes=8:=ID rfl
theorem aJT:qv aH8=True:=eq_true rfl
theorem aJU:zc aH8=[.v Value.nilFunc]:=ID rfl
theorem biM{K:TI→Prop}:@tyW Tryz.prog 99 ⟨K⟩=K aH7:=qg bjZ
theorem aJS:aH7.kd=Kd.oth:=ID rfl
theorem auK:aH7.kd.agg=false:=ID rfl
theorem amG:aH7.size=1:=ID rfl
theorem agO:aH7.bytes=8:=ID rfl
theorem aJQ:qv aH7=True:=eq_true rfl
theorem aJR:zc aH7=[.v Value.nilFunc]:=ID rfl
theorem bcV{K:TI→Prop}:@tyW Tryz.prog 101 ⟨K⟩=K aah:=qg bfJ
theorem aEW:aah.kd=Kd.oth:=ID rfl
theorem arb:aah.kd.agg=false:=ID rfl
theorem akW:aah.size=1:=ID rfl
theorem aeM:aah.bytes=8:=ID rfl
theorem aEU:qv aah=True:=eq_true rfl
theorem aEV:zc aah=[.v Value.nilFunc]:=ID rfl
theorem bcU{K:TI→Prop}:@tyW Tryz.prog 102 ⟨K⟩=K aag:=qg bfI
theorem aET:aag.kd=Kd.oth:=ID rfl
theorem ara:aag.kd.agg=false:=ID rfl
theorem akV:aag.size=1:=ID rfl
theorem aeL:aag.bytes=8:=ID rfl
theorem aER:qv aag=True:=eq_true rfl
theorem aES:zc aag=[.v Value.nilFunc]:=ID rfl
theorem bcT{K:TI→Prop}:@tyW Tryz.prog 103 ⟨K⟩=K aaf:=qg bfH
theorem aEQ:aaf.kd=Kd.oth:=ID rfl
theorem aq9:aaf.kd.agg=false:=ID rfl
theorem akU:aaf.size=1:=ID rfl
theorem aeK:aaf.bytes=8:=ID rfl
theorem aEO:qv aaf=True:=eq_true rfl
theorem aEP:zc aaf=[.v Value.nilFunc]:=ID rfl
theorem bcS{K:TI→Prop}:@tyW Tryz.prog 104 ⟨K⟩=K aae:=qg bfG
theorem aEN:aae.kd=Kd.oth:=ID rfl
theorem aq8:aae.kd.agg=false:=ID rfl
theorem akT:aae.size=1:=ID rfl
theorem aeJ:aae.bytes=8:=ID rfl
theorem aEL:qv aae=True:=eq_true rfl
theorem aEM:zc aae=[.v Value.nilFunc]:=ID rfl
theorem bcR{K:TI→Prop}:@tyW Tryz.prog 105 ⟨K⟩=K Qh:=qg aam
theorem aEK:Qh.kd=Kd.sli 125:=ID rfl
theorem aq7:Qh.kd.agg=false:=ID rfl
theorem akS:Qh.size=1:=ID rfl
theorem aeI:Qh.bytes=24:=ID rfl
theorem aEI:qv Qh=True:=eq_true rfl
theorem aEJ:zc Qh=[.v (Value.slice none 0 0)]:=ID rfl
theorem aST{K:TI→Prop}:@yQ Tryz.prog 105 ⟨K⟩=K Zl:=Za aam rfl arh
theorem bcQ{K:TI→Prop}:@tyW Tryz.prog 106 ⟨K⟩=K ZJ:=qg aE6
theorem aEH:ZJ.kd=Kd.stru [(0,3),(1,105)]:=ID rfl
theorem aq6:ZJ.kd.agg=true:=ID rfl
theorem akR:ZJ.size=2:=ID rfl
theorem aeH:ZJ.bytes=32:=ID rfl
theorem aEF:qv ZJ=True:=eq_true rfl
theorem aEG:zc ZJ=[.v (Value.int IntKind.i64 0),.v (Value.slice none 0 0)]:=ID rfl
theorem aG2{K:Nat→TI→Prop}:@qz Tryz.prog 106 0 ⟨K⟩=K 0 ti3:=qr (ti:=ZJ) (tf:=ti3) (fo:=(0,3)) (fs:=[(0,3),(1,105)]) aE6 rfl rfl tf3
theorem aOv{K:Nat→Nat→Prop}:qt Tryz.prog [(0,3),(1,105)] 0 K=K 0 1:=qq (tf:=ti3) (fo:=(0,3)) (fs:=[(0,3),(1,105)]) rfl tf3
theorem aG1{K:Nat→TI→Prop}:@qz Tryz.prog 106 1 ⟨K⟩=K 1 Qh:=qr (ti:=ZJ) (tf:=Qh) (fo:=(1,105)) (fs:=[(0,3),(1,105)]) aE6 rfl rfl aam
theorem aOu{K:Nat→Nat→Prop}:qt Tryz.prog [(0,3),(1,105)] 1 K=K 1 1:=qq (tf:=Qh) (fo:=(1,105)) (fs:=[(0,3),(1,105)]) rfl aam
theorem aPP:∀f∈([(0,3),(1,105)]:List (Nat×Nat)),(qm Tryz.prog f.2).isSome=true:=by
 intro f hf
 simp only[List.mem_cons,List.not_mem_nil,or_false]at hf
 rcases hf with rfl|rfl
 ·rw[tf3];rfl
 ·rw[aam];rfl
theorem aZh{ps:List (Nat×AV)}{K:AV→Prop}:@q7 Tryz.prog 106 ps ⟨K⟩=@zf (qt Tryz.prog [(0,3),(1,105)]) (zc ZJ) ps ⟨fun cs=>K (.ag cs)⟩:=qF aE6 rfl aPP
theorem bcP{K:TI→Prop}:@tyW Tryz.prog 107 ⟨K⟩=K ZI:=qg aE5
theorem aEE:ZI.kd=Kd.stru [(0,3),(1,105)]:=ID rfl
theorem aq5:ZI.kd.agg=true:=ID rfl
theorem akQ:ZI.size=2:=ID rfl
theorem aeG:ZI.bytes=32:=ID rfl
theorem aEC:qv ZI=True:=eq_true rfl
theorem aED:zc ZI=[.v (Value.int IntKind.i64 0),.v (Value.slice none 0 0)]:=ID rfl
theorem aG0{K:Nat→TI→Prop}:@qz Tryz.prog 107 0 ⟨K⟩=K 0 ti3:=qr (ti:=ZI) (tf:=ti3) (fo:=(0,3)) (fs:=[(0,3),(1,105)]) aE5 rfl rfl tf3
theorem aOt{K:Nat→Nat→Prop}:qt Tryz.prog [(0,3),(1,105)] 0 K=K 0 1:=qq (tf:=ti3) (fo:=(0,3)) (fs:=[(0,3),(1,105)]) rfl tf3
theorem aGZ{K:Nat→TI→Prop}:@qz Tryz.prog 107 1 ⟨K⟩=K 1 Qh:=qr (ti:=ZI) (tf:=Qh) (fo:=(1,105)) (fs:=[(0,3),(1,105)]) aE5 rfl rfl aam
theorem aOs{K:Nat→Nat→Prop}:qt Tryz.prog [(0,3),(1,105)] 1 K=K 1 1:=qq (tf:=Qh) (fo:=(1,105)) (fs:=[(0,3),(1,105)]) rfl aam
theorem aPO:∀f∈([(0,3),(1,105)]:List (Nat×Nat)),(qm Tryz.prog f.2).isSome=true:=by
 intro f hf
 simp only[List.mem_cons,List.not_mem_nil,or_false]at hf
 rcases hf with rfl|rfl
 ·rw[tf3];rfl
 ·rw[aam];rfl
theorem aZg{ps:List (Nat×AV)}{K:AV→Prop}:@q7 Tryz.prog 107 ps ⟨K⟩=@zf (qt Tryz.prog [(0,3),(1,105)]) (zc ZI) ps ⟨fun cs=>K (.ag cs)⟩:=qF aE5 rfl aPO
theorem bcO{K:TI→Prop}:@tyW Tryz.prog 108 ⟨K⟩=K yZ:=qg Yz
theorem aEB:yZ.kd=Kd.sli 117:=ID rfl
theorem aq4:yZ.kd.agg=false:=ID rfl
theorem akP:yZ.size=1:=ID rfl
theorem aeF:yZ.bytes=24:=ID rfl
theorem aEz:qv yZ=True:=eq_true rfl
theorem aEA:zc yZ=[.v (Value.slice none 0 0)]:=ID rfl
theorem aSS{K:TI→Prop}:@yQ Tryz.prog 108 ⟨K⟩=K jf:=Za Yz rfl yj
theorem bcN{K:TI→Prop}:@tyW Tryz.prog 109 ⟨K⟩=K ZH:=qg aE4
theorem aEy:ZH.kd=Kd.stru [(0,3),(1,108)]:=ID rfl
theorem aq3:ZH.kd.agg=true:=ID rfl
theorem akO:ZH.size=2:=ID rfl
theorem aeE:ZH.bytes=32:=ID rfl
theorem aEw:qv ZH=True:=eq_true rfl
theorem aEx:zc ZH=[.v (Value.int IntKind.i64 0),.v (Value.slice none 0 0)]:=ID rfl
theorem aGY{K:Nat→TI→Prop}:@qz Tryz.prog 109 0 ⟨K⟩=K 0 ti3:=qr (ti:=ZH) (tf:=ti3) (fo:=(0,3)) (fs:=[(0,3),(1,108)]) aE4 rfl rfl tf3
theorem aOr{K:Nat→Nat→Prop}:qt Tryz.prog [(0,3),(1,108)] 0 K=K 0 1:=qq (tf:=ti3) (fo:=(0,3)) (fs:=[(0,3),(1,108)]) rfl tf3
theorem aGX{K:Nat→TI→Prop}:@qz Tryz.prog 109 1 ⟨K⟩=K 1 yZ:=qr (ti:=ZH) (tf:=yZ) (fo:=(1,108)) (fs:=[(0,3),(1,108)]) aE4 rfl rfl Yz
theorem aOq{K:Nat→Nat→Prop}:qt Tryz.prog [(0,3),(1,108)] 1 K=K 1 1:=qq (tf:=yZ) (fo:=(1,108)) (fs:=[(0,3),(1,108)]) rfl Yz
theorem aPN:∀f∈([(0,3),(1,108)]:List (Nat×Nat)),(qm Tryz.prog f.2).isSome=true:=by
 intro f hf
 simp only[List.mem_cons,List.not_mem_nil,or_false]at hf
 rcases hf with rfl|rfl
 ·rw[tf3];rfl
 ·rw[Yz];rfl
theorem aZf{ps:List (Nat×AV)}{K:AV→Prop}:@q7 Tryz.prog 109 ps ⟨K⟩=@zf (qt Tryz.prog [(0,3),(1,108)]) (zc ZH) ps ⟨fun cs=>K (.ag cs)⟩:=qF aE4 rfl aPN
theorem bcM{K:TI→Prop}:@tyW Tryz.prog 110 ⟨K⟩=K ZG:=qg aE3
theorem aEu:ZG.kd=Kd.stru [(0,3),(1,108)]:=ID rfl
theorem aq1:ZG.kd.agg=true:=ID rfl
theorem akM:ZG.size=2:=ID rfl
theorem aeD:ZG.bytes=32:=ID rfl
theorem aEs:qv ZG=True:=eq_true rfl
theorem aEt:zc ZG=[.v (Value.int IntKind.i64 0),.v (Value.slice none 0 0)]:=ID rfl
theorem aGW{K:Nat→TI→Prop}:@qz Tryz.prog 110 0 ⟨K⟩=K 0 ti3:=qr (ti:=ZG) (tf:=ti3) (fo:=(0,3)) (fs:=[(0,3),(1,108)]) aE3 rfl rfl tf3
theorem aOp{K:Nat→Nat→Prop}:qt Tryz.prog [(0,3),(1,108)] 0 K=K 0 1:=qq (tf:=ti3) (fo:=(0,3)) (fs:=[(0,3),(1,108)]) rfl tf3
theorem aGV{K:Nat→TI→Prop}:@qz Tryz.prog 110 1 ⟨K⟩=K 1 yZ:=qr (ti:=ZG) (tf:=yZ) (fo:=(1,108)) (fs:=[(0,3),(1,108)]) aE3 rfl rfl Yz
theorem aOo{K:Nat→Nat→Prop}:qt Tryz.prog [(0,3),(1,108)] 1 K=K 1 1:=qq (tf:=yZ) (fo:=(1,108)) (fs:=[(0,3),(1,108)]) rfl Yz
theorem aPM:∀f∈([(0,3),(1,108)]:List (Nat×Nat)),(qm Tryz.prog f.2).isSome=true:=by
 intro f hf
 simp only[List.mem_cons,List.not_mem_nil,or_false]at hf
 rcases hf with rfl|rfl
 ·rw[tf3];rfl
 ·rw[Yz];rfl
theorem aZe{ps:List (Nat×AV)}{K:AV→Prop}:@q7 Tryz.prog 110 ps ⟨K⟩=@zf (qt Tryz.prog [(0,3),(1,108)]) (zc ZG) ps ⟨fun cs=>K (.ag cs)⟩:=qF aE3 rfl aPM
theorem bcL{K:TI→Prop}:@tyW Tryz.prog 111 ⟨K⟩=K aad:=qg bfF
theorem aEr:aad.kd=Kd.oth:=ID rfl
theorem aq0:aad.kd.agg=false:=ID rfl
theorem akL:aad.size=1:=ID rfl
theorem aeC:aad.bytes=8:=ID rfl
theorem aEp:qv aad=True:=eq_true rfl
theorem aEq:zc aad=[.v Value.nilFunc]:=ID rfl
theorem bcK{K:TI→Prop}:@tyW Tryz.prog 112 ⟨K⟩=K aac:=qg bfE
theorem aEo:aac.kd=Kd.oth:=ID rfl
theorem aqZ:aac.kd.agg=false:=ID rfl
theorem akK:aac.size=1:=ID rfl
theorem aeB:aac.bytes=8:=ID rfl
theorem aEm:qv aac=True:=eq_true rfl
theorem aEn:zc aac=[.v Value.nilFunc]:=ID rfl
theorem bcJ{K:TI→Prop}:@tyW Tryz.prog 113 ⟨K⟩=K aab:=qg bfD
theorem aEl:aab.kd=Kd.oth:=ID rfl
theorem aqY:aab.kd.agg=false:=ID rfl
theorem akJ:aab.size=1:=ID rfl
theorem aeA:aab.bytes=8:=ID rfl
theorem aEj:qv aab=True:=eq_true rfl
theorem aEk:zc aab=[.v Value.nilFunc]:=ID rfl
theorem bcI{K:TI→Prop}:@tyW Tryz.prog 114 ⟨K⟩=K aaa:=qg bfC
theorem aEi:aaa.kd=Kd.oth:=ID rfl
theorem aqX:aaa.kd.agg=false:=ID rfl
theorem akI:aaa.size=1:=ID rfl
theorem aez:aaa.bytes=8:=ID rfl
theorem aEg:qv aaa=True:=eq_true rfl
theorem aEh:zc aaa=[.v Value.nilFunc]:=ID rfl
theorem bcH{K:TI→Prop}:@tyW Tryz.prog 115 ⟨K⟩=K K9:=qg bfB
theorem aEf:K9.kd=Kd.oth:=ID rfl
theorem aqW:K9.kd.agg=false:=ID rfl
theorem akH:K9.size=1:=ID rfl
theorem aey:K9.bytes=8:=ID rfl
theorem aEd:qv K9=True:=eq_true rfl
theorem aEe:zc K9=[.v Value.nilFunc]:=ID rfl
theorem bcG{K:TI→Prop}:@tyW Tryz.prog 116 ⟨K⟩=K Zm:=qg ari
theorem aEc:Zm.kd=Kd.stru [(0,4),(1,36),(2,3)]:=ID rfl
theorem aqV:Zm.kd.agg=true:=ID rfl
theorem akG:Zm.size=3:=ID rfl
theorem aex:Zm.bytes=40:=ID rfl
theorem aEa:qv Zm=True:=eq_true rfl
theorem aEb:zc Zm=[.v (Value.bool false),.v (Value.slice none 0 0),.v (Value.int IntKind.i64 0)]:=ID rfl
theorem aGU{K:Nat→TI→Prop}:@qz Tryz.prog 116 0 ⟨K⟩=K 0 ti4:=qr (ti:=Zm) (tf:=ti4) (fo:=(0,4)) (fs:=[(0,4),(1,36),(2,3)]) ari rfl rfl tf4
theorem aOn{K:Nat→Nat→Prop}:qt Tryz.prog [(0,4),(1,36),(2,3)] 0 K=K 0 1:=qq (tf:=ti4) (fo:=(0,4)) (fs:=[(0,4),(1,36),(2,3)]) rfl tf4
theorem aGT{K:Nat→TI→Prop}:@qz Tryz.prog 116 1 ⟨K⟩=K 1 ZE:=qr (ti:=Zm) (tf:=ZE) (fo:=(1,36)) (fs:=[(0,4),(1,36),(2,3)]) ari rfl rfl aal
theorem aOm{K:Nat→Nat→Prop}:qt Tryz.prog [(0,4),(1,36),(2,3)] 1 K=K 1 1:=qq (tf:=ZE) (fo:=(1,36)) (fs:=[(0,4),(1,36),(2,3)]) rfl aal
theorem aGS{K:Nat→TI→Prop}:@qz Tryz.prog 116 2 ⟨K⟩=K 2 ti3:=qr (ti:=Zm) (tf:=ti3) (fo:=(2,3)) (fs:=[(0,4),(1,36),(2,3)]) ari rfl rfl tf3
theorem aOl{K:Nat→Nat→Prop}:qt Tryz.prog [(0,4),(1,36),(2,3)] 2 K=K 2 1:=qq (tf:=ti3) (fo:=(2,3)) (fs:=[(0,4),(1,36),(2,3)]) rfl tf3
theorem aPL:∀f∈([(0,4),(1,36),(2,3)]:List (Nat×Nat)),(qm Tryz.prog f.2).isSome=true:=by
 intro f hf
 simp only[List.mem_cons,List.not_mem_nil,or_false]at hf
 rcases hf with rfl|rfl|rfl
 ·rw[tf4];rfl
 ·rw[aal];rfl
 ·rw[tf3];rfl
theorem aZd{ps:List (Nat×AV)}{K:AV→Prop}:@q7 Tryz.prog 116 ps ⟨K⟩=@zf (qt Tryz.prog [(0,4),(1,36),(2,3)]) (zc Zm) ps ⟨fun cs=>K (.ag cs)⟩:=qF ari rfl aPL
theorem bcF{K:TI→Prop}:@tyW Tryz.prog 117 ⟨K⟩=K jf:=qg yj
theorem aD9:jf.kd=Kd.stru [(0,4),(1,36),(2,3)]:=ID rfl
theorem aqU:jf.kd.agg=true:=ID rfl
theorem akF:jf.size=3:=ID rfl
theorem aew:jf.bytes=40:=ID rfl
theorem aD7:qv jf=True:=eq_true rfl
theorem aD8:zc jf=[.v (Value.bool false),.v (Value.slice none 0 0),.v (Value.int IntKind.i64 0)]:=ID rfl
theorem aGR{K:Nat→TI→Prop}:@qz Tryz.prog 117 0 ⟨K⟩=K 0 ti4:=qr (ti:=jf) (tf:=ti4) (fo:=(0,4)) (fs:=[(0,4),(1,36),(2,3)]) yj rfl rfl tf4
theorem aOk{K:Nat→Nat→Prop}:qt Tryz.prog [(0,4),(1,36),(2,3)] 0 K=K 0 1:=qq (tf:=ti4) (fo:=(0,4)) (fs:=[(0,4),(1,36),(2,3)]) rfl tf4
theorem aGQ{K:Nat→TI→Prop}:@qz Tryz.prog 117 1 ⟨K⟩=K 1 ZE:=qr (ti:=jf) (tf:=ZE) (fo:=(1,36)) (fs:=[(0,4),(1,36),(2,3)]) yj rfl rfl aal
theorem aOj{K:Nat→Nat→Prop}:qt Tryz.prog [(0,4),(1,36),(2,3)] 1 K=K 1 1:=qq (tf:=ZE) (fo:=(1,36)) (fs:=[(0,4),(1,36),(2,3)]) rfl aal
theorem aGP{K:Nat→TI→Prop}:@qz Tryz.prog 117 2 ⟨K⟩=K 2 ti3:=qr (ti:=jf) (tf:=ti3) (fo:=(2,3)) (fs:=[(0,4),(1,36),(2,3)]) yj rfl rfl tf3
theorem aOi{K:Nat→Nat→Prop}:qt Tryz.prog [(0,4),(1,36),(2,3)] 2 K=K 2 1:=qq (tf:=ti3) (fo:=(2,3)) (fs:=[(0,4),(1,36),(2,3)]) rfl tf3
theorem aPK:∀f∈([(0,4),(1,36),(2,3)]:List (Nat×Nat)),(qm Tryz.prog f.2).isSome=true:=by
 intro f hf
 simp only[List.mem_cons,List.not_mem_nil,or_false]at hf
 rcases hf with rfl|rfl|rfl
 ·rw[tf4];rfl
 ·rw[aal];rfl
 ·rw[tf3];rfl
theorem aZc{ps:List (Nat×AV)}{K:AV→Prop}:@q7 Tryz.prog 117 ps ⟨K⟩=@zf (qt Tryz.prog [(0,4),(1,36),(2,3)]) (zc jf) ps ⟨fun cs=>K (.ag cs)⟩:=qF yj rfl aPK
theorem bcE{K:TI→Prop}:@tyW Tryz.prog 118 ⟨K⟩=K K8:=qg bfA
theorem aD6:K8.kd=Kd.oth:=ID rfl
theorem aqT:K8.kd.agg=false:=ID rfl
theorem akE:K8.size=1:=ID rfl
theorem aev:K8.bytes=8:=ID rfl
theorem aD4:qv K8=True:=eq_true rfl
theorem aD5:zc K8=[.v Value.nilFunc]:=ID rfl
theorem bcD{K:TI→Prop}:@tyW Tryz.prog 119 ⟨K⟩=K K7:=qg bfz
theorem aD3:K7.kd=Kd.oth:=ID rfl
theorem aqS:K7.kd.agg=false:=ID rfl
theorem akD:K7.size=1:=ID rfl
theorem aeu:K7.bytes=8:=ID rfl
theorem aD1:qv K7=True:=eq_true rfl
theorem aD2:zc K7=[.v Value.nilFunc]:=ID rfl
theorem bcC{K:TI→Prop}:@tyW Tryz.prog 120 ⟨K⟩=K K6:=qg bfy
theorem aDZ:K6.kd=Kd.oth:=ID rfl
theorem aqQ:K6.kd.agg=false:=ID rfl
theorem akB:K6.size=1:=ID rfl
theorem aet:K6.bytes=8:=ID rfl
theorem aDX:qv K6=True:=eq_true rfl
theorem aDY:zc K6=[.v Value.nilFunc]:=ID rfl
theorem bcB{K:TI→Prop}:@tyW Tryz.prog 121 ⟨K⟩=K K5:=qg bfx
theorem aDW:K5.kd=Kd.oth:=ID rfl
theorem aqP:K5.kd.agg=false:=ID rfl
theorem akA:K5.size=1:=ID rfl
theorem aes:K5.bytes=8:=ID rfl
theorem aDU:qv K5=True:=eq_true rfl
theorem aDV:zc K5=[.v Value.nilFunc]:=ID rfl
theorem bcA{K:TI→Prop}:@tyW Tryz.prog 122 ⟨K⟩=K K4:=qg bfw
theorem aDT:K4.kd=Kd.oth:=ID rfl
theorem aqO:K4.kd.agg=false:=ID rfl
theorem akz:K4.size=1:=ID rfl
theorem aer:K4.bytes=8:=ID rfl
theorem aDR:qv K4=True:=eq_true rfl
theorem aDS:zc K4=[.v Value.nilFunc]:=ID rfl
theorem bcz{K:TI→Prop}:@tyW Tryz.prog 123 ⟨K⟩=K K3:=qg bfv
theorem aDQ:K3.kd=Kd.oth:=ID rfl
theorem aqN:K3.kd.agg=false:=ID rfl
theorem aky:K3.size=1:=ID rfl
theorem aeq:K3.bytes=8:=ID rfl
theorem aDO:qv K3=True:=eq_true rfl
theorem aDP:zc K3=[.v Value.nilFunc]:=ID rfl
theorem bcy{K:TI→Prop}:@tyW Tryz.prog 124 ⟨K⟩=K ZF:=qg aE2
theorem aDN:ZF.kd=Kd.stru [(0,117),(3,117)]:=ID rfl
theorem aqM:ZF.kd.agg=true:=ID rfl
theorem akx:ZF.size=6:=ID rfl
theorem aep:ZF.bytes=80:=ID rfl
theorem aDL:qv ZF=True:=eq_true rfl
theorem aDM:zc ZF=[.v (Value.bool false),.v (Value.slice none 0 0),.v (Value.int IntKind.i64 0),.v (Value.bool false),.v (Value.slice none 0 0),.v (Value.int IntKind.i64 0)]:=ID rfl
theorem aGO{K:Nat→TI→Prop}:@qz Tryz.prog 124 0 ⟨K⟩=K 0 jf:=qr (ti:=ZF) (tf:=jf) (fo:=(0,117)) (fs:=[(0,117),(3,117)]) aE2 rfl rfl yj
theorem aOh{K:Nat→Nat→Prop}:qt Tryz.prog [(0,117),(3,117)] 0 K=K 0 3:=qq (tf:=jf) (fo:=(0,117)) (fs:=[(0,117),(3,117)]) rfl yj
theorem aGN{K:Nat→TI→Prop}:@qz Tryz.prog 124 1 ⟨K⟩=K 3 jf:=qr (ti:=ZF) (tf:=jf) (fo:=(3,117)) (fs:=[(0,117),(3,117)]) aE2 rfl rfl yj
theorem aOg{K:Nat→Nat→Prop}:qt Tryz.prog [(0,117),(3,117)] 1 K=K 3 3:=qq (tf:=jf) (fo:=(3,117)) (fs:=[(0,117),(3,117)]) rfl yj
theorem aPJ:∀f∈([(0,117),(3,117)]:List (Nat×Nat)),(qm Tryz.prog f.2).isSome=true:=by
 intro f hf
 simp only[List.mem_cons,List.not_mem_nil,or_false]at hf
 rcases hf with rfl|rfl
 ·rw[yj];rfl
 ·rw[yj];rfl
theorem aZb{ps:List (Nat×AV)}{K:AV→Prop}:@q7 Tryz.prog 124 ps ⟨K⟩=@zf (qt Tryz.prog [(0,117),(3,117)]) (zc ZF) ps ⟨fun cs=>K (.ag cs)⟩:=qF aE2 rfl aPJ
theorem bcx{K:TI→Prop}:@tyW Tryz.prog 125 ⟨K⟩=K Zl:=qg arh
theorem aDK:Zl.kd=Kd.stru [(0,117),(3,117)]:=ID rfl
theorem aqL:Zl.kd.agg=true:=ID rfl
theorem akw:Zl.size=6:=ID rfl
theorem aeo:Zl.bytes=80:=ID rfl
theorem aDI:qv Zl=True:=eq_true rfl
theorem aDJ:zc Zl=[.v (Value.bool false),.v (Value.slice none 0 0),.v (Value.int IntKind.i64 0),.v (Value.bool false),.v (Value.slice none 0 0),.v (Value.int IntKind.i64 0)]:=ID rfl
theorem aGM{K:Nat→TI→Prop}:@qz Tryz.prog 125 0 ⟨K⟩=K 0 jf:=qr (ti:=Zl) (tf:=jf) (fo:=(0,117)) (fs:=[(0,117),(3,117)]) arh rfl rfl yj
theorem aOf{K:Nat→Nat→Prop}:qt Tryz.prog [(0,117),(3,117)] 0 K=K 0 3:=qq (tf:=jf) (fo:=(0,117)) (fs:=[(0,117),(3,117)]) rfl yj
theorem aGL{K:Nat→TI→Prop}:@qz Tryz.prog 125 1 ⟨K⟩=K 3 jf:=qr (ti:=Zl) (tf:=jf) (fo:=(3,117)) (fs:=[(0,117),(3,117)]) arh rfl rfl yj
theorem aOe{K:Nat→Nat→Prop}:qt Tryz.prog [(0,117),(3,117)] 1 K=K 3 3:=qq (tf:=jf) (fo:=(3,117)) (fs:=[(0,117),(3,117)]) rfl yj
theorem aPI:∀f∈([(0,117),(3,117)]:List (Nat×Nat)),(qm Tryz.prog f.2).isSome=true:=by
 intro f hf
 simp only[List.mem_cons,List.not_mem_nil,or_false]at hf
 rcases hf with rfl|rfl
 ·rw[yj];rfl
 ·rw[yj];rfl
theorem aZa{ps:List (Nat×AV)}{K:AV→Prop}:@q7 Tryz.prog 125 ps ⟨K⟩=@zf (qt Tryz.prog [(0,117),(3,117)]) (zc Zl) ps ⟨fun cs=>K (.ag cs)⟩:=qF arh rfl aPI
theorem bcw{K:TI→Prop}:@tyW Tryz.prog 127 ⟨K⟩=K K2:=qg bfu
theorem aDH:K2.kd=Kd.oth:=ID rfl
theorem aqK:K2.kd.agg=false:=ID rfl
theorem akv:K2.size=1:=ID rfl
theorem aen:K2.bytes=8:=ID rfl
theorem aDF:qv K2=True:=eq_true rfl
theorem aDG:zc K2=[.v Value.nilFunc]:=ID rfl
theorem bcv{K:TI→Prop}:@tyW Tryz.prog 128 ⟨K⟩=K K1:=qg bft
theorem aDE:K1.kd=Kd.oth:=ID rfl
theorem aqJ:K1.kd.agg=false:=ID rfl
theorem aku:K1.size=1:=ID rfl
theorem aem:K1.bytes=8:=ID rfl
theorem aDC:qv K1=True:=eq_true rfl
theorem aDD:zc K1=[.v Value.nilFunc]:=ID rfl
theorem bcu{K:TI→Prop}:@tyW Tryz.prog 129 ⟨K⟩=K K0:=qg bfs
theorem aDB:K0.kd=Kd.oth:=ID rfl
theorem aqI:K0.kd.agg=false:=ID rfl
theorem akt:K0.size=1:=ID rfl
theorem ael:K0.bytes=8:=ID rfl
theorem aDz:qv K0=True:=eq_true rfl
theorem aDA:zc K0=[.v Value.nilFunc]:=ID rfl
theorem bct{K:TI→Prop}:@tyW Tryz.prog 130 ⟨K⟩=K KZ:=qg bfr
theorem aDx:KZ.kd=Kd.oth:=ID rfl
theorem aqG:KZ.kd.agg=false:=ID rfl
theorem akr:KZ.size=1:=ID rfl
theorem aek:KZ.bytes=8:=ID rfl
theorem aDv:qv KZ=True:=eq_true rfl
theorem aDw:zc KZ=[.v Value.nilFunc]:=ID rfl
theorem bcs{K:TI→Prop}:@tyW Tryz.prog 131 ⟨K⟩=K KY:=qg bfq
theorem aDu:KY.kd=Kd.oth:=ID rfl
theorem aqF:KY.kd.agg=false:=ID rfl
theorem akq:KY.size=1:=ID rfl
theorem aej:KY.bytes=8:=ID rfl
theorem aDs:qv KY=True:=eq_true rfl
theorem aDt:zc KY=[.v Value.nilFunc]:=ID rfl
theorem bcr{K:TI→Prop}:@tyW Tryz.prog 132 ⟨K⟩=K KX:=qg bfp
theorem aDr:KX.kd=Kd.oth:=ID rfl
theorem aqE:KX.kd.agg=false:=ID rfl
theorem akp:KX.size=1:=ID rfl
theorem aei:KX.bytes=8:=ID rfl
theorem aDp:qv KX=True:=eq_true rfl
theorem aDq:zc KX=[.v Value.nilFunc]:=ID rfl
theorem bcq{K:TI→Prop}:@tyW Tryz.prog 133 ⟨K⟩=K KW:=qg bfo
theorem aDo:KW.kd=Kd.oth:=ID rfl
theorem aqD:KW.kd.agg=false:=ID rfl
theorem ako:KW.size=1:=ID rfl
theorem aeh:KW.bytes=8:=ID rfl
theorem aDm:qv KW=True:=eq_true rfl
theorem aDn:zc KW=[.v Value.nilFunc]:=ID rfl
theorem bcp{K:TI→Prop}:@tyW Tryz.prog 134 ⟨K⟩=K KU:=qg bfn
theorem aDl:KU.kd=Kd.oth:=ID rfl
theorem aqC:KU.kd.agg=false:=ID rfl
theorem akn:KU.size=1:=ID rfl
theorem aeg:KU.bytes=8:=ID rfl
theorem aDj:qv KU=True:=eq_true rfl
theorem aDk:zc KU=[.v Value.nilFunc]:=ID rfl
theorem bco{K:TI→Prop}:@tyW Tryz.prog 135 ⟨K⟩=K KT:=qg bfm
theorem aDi:KT.kd=Kd.oth:=ID rfl
theorem aqB:KT.kd.agg=false:=ID rfl
theorem akm:KT.size=1:=ID rfl
theorem aef:KT.bytes=8:=ID rfl
theorem aDg:qv KT=True:=eq_true rfl
theorem aDh:zc KT=[.v Value.nilFunc]:=ID rfl
theorem bcn{K:TI→Prop}:@tyW Tryz.prog 136 ⟨K⟩=K KS:=qg bfl
theorem aDf:KS.kd=Kd.oth:=ID rfl
theorem aqA:KS.kd.agg=false:=ID rfl
theorem akl:KS.size=1:=ID rfl
theorem aee:KS.bytes=8:=ID rfl
theorem aDd:qv KS=True:=eq_true rfl
theorem aDe:zc KS=[.v Value.nilFunc]:=ID rfl
theorem bcm{K:TI→Prop}:@tyW Tryz.prog 137 ⟨K⟩=K KR:=qg bfk
theorem aDc:KR.kd=Kd.oth:=ID rfl
theorem aqz:KR.kd.agg=false:=ID rfl
theorem akk:KR.size=1:=ID rfl
theorem aed:KR.bytes=8:=ID rfl
theorem aDa:qv KR=True:=eq_true rfl
theorem aDb:zc KR=[.v Value.nilFunc]:=ID rfl
theorem bcl{K:TI→Prop}:@tyW Tryz.prog 138 ⟨K⟩=K KQ:=qg bfj
theorem aC9:KQ.kd=Kd.oth:=ID rfl
theorem aqy:KQ.kd.agg=false:=ID rfl
theorem akj:KQ.size=1:=ID rfl
theorem aec:KQ.bytes=8:=ID rfl
theorem aC7:qv KQ=True:=eq_true rfl
theorem aC8:zc KQ=[.v Value.nilFunc]:=ID rfl
theorem bck{K:TI→Prop}:@tyW Tryz.prog 139 ⟨K⟩=K KP:=qg bfi
theorem aC6:KP.kd=Kd.oth:=ID rfl
theorem aqx:KP.kd.agg=false:=ID rfl
theorem aki:KP.size=1:=ID rfl
theorem aeb:KP.bytes=8:=ID rfl
theorem aC4:qv KP=True:=eq_true rfl
theorem aC5:zc KP=[.v Value.nilFunc]:=ID rfl
theorem bcj{K:TI→Prop}:@tyW Tryz.prog 141 ⟨K⟩=K KO:=qg bfh
theorem aC3:KO.kd=Kd.oth:=ID rfl
theorem aqw:KO.kd.agg=false:=ID rfl
theorem akh:KO.size=1:=ID rfl
theorem aea:KO.bytes=8:=ID rfl
theorem aC1:qv KO=True:=eq_true rfl
theorem aC2:zc KO=[.v Value.nilFunc]:=ID rfl
theorem bci{K:TI→Prop}:@tyW Tryz.prog 142 ⟨K⟩=K KN:=qg bfg
theorem aC0:KN.kd=Kd.oth:=ID rfl
theorem aqv:KN.kd.agg=false:=ID rfl
theorem akg:KN.size=1:=ID rfl
theorem ad9:KN.bytes=8:=ID rfl
theorem aCY:qv KN=True:=eq_true rfl
theorem aCZ:zc KN=[.v Value.nilFunc]:=ID rfl
theorem bch{K:TI→Prop}:@tyW Tryz.prog 143 ⟨K⟩=K KM:=qg bff
theorem aCX:KM.kd=Kd.oth:=ID rfl
theorem aqu:KM.kd.agg=false:=ID rfl
theorem akf:KM.size=1:=ID rfl
theorem ad8:KM.bytes=8:=ID rfl
theorem aCV:qv KM=True:=eq_true rfl
theorem aCW:zc KM=[.v Value.nilFunc]:=ID rfl
theorem bcg{K:TI→Prop}:@tyW Tryz.prog 144 ⟨K⟩=K KL:=qg bfe
theorem aCU:KL.kd=Kd.oth:=ID rfl
theorem aqt:KL.kd.agg=false:=ID rfl
theorem ake:KL.size=1:=ID rfl
theorem ad7:KL.bytes=8:=ID rfl
theorem aCS:qv KL=True:=eq_true rfl
theorem aCT:zc KL=[.v Value.nilFunc]:=ID rfl
theorem bcf{K:TI→Prop}:@tyW Tryz.prog 145 ⟨K⟩=K KK:=qg bfd
theorem aCR:KK.kd=Kd.oth:=ID rfl
theorem aqs:KK.kd.agg=false:=ID rfl
theorem akd:KK.size=1:=ID rfl
theorem ad6:KK.bytes=8:=ID rfl
theorem aCP:qv KK=True:=eq_true rfl
theorem aCQ:zc KK=[.v Value.nilFunc]:=ID rfl
theorem bce{K:TI→Prop}:@tyW Tryz.prog 146 ⟨K⟩=K KJ:=qg bfc
theorem aCO:KJ.kd=Kd.oth:=ID rfl
theorem aqr:KJ.kd.agg=false:=ID rfl
theorem akc:KJ.size=1:=ID rfl
theorem ad5:KJ.bytes=8:=ID rfl
theorem aCM:qv KJ=True:=eq_true rfl
theorem aCN:zc KJ=[.v Value.nilFunc]:=ID rfl
theorem bcd{K:TI→Prop}:@tyW Tryz.prog 147 ⟨K⟩=K KI:=qg bfb
theorem aCL:KI.kd=Kd.oth:=ID rfl
theorem aqq:KI.kd.agg=false:=ID rfl
theorem akb:KI.size=1:=ID rfl
theorem ad4:KI.bytes=8:=ID rfl
theorem aCJ:qv KI=True:=eq_true rfl
theorem aCK:zc KI=[.v Value.nilFunc]:=ID rfl
theorem bcc{K:TI→Prop}:@tyW Tryz.prog 148 ⟨K⟩=K KH:=qg bfa
theorem aCI:KH.kd=Kd.oth:=ID rfl
theorem aqp:KH.kd.agg=false:=ID rfl
theorem aka:KH.size=1:=ID rfl
theorem ad3:KH.bytes=8:=ID rfl
theorem aCG:qv KH=True:=eq_true rfl
theorem aCH:zc KH=[.v Value.nilFunc]:=ID rfl
theorem bcb{K:TI→Prop}:@tyW Tryz.prog 149 ⟨K⟩=K KG:=qg be9
theorem aCF:KG.kd=Kd.oth:=ID rfl
theorem aqo:KG.kd.agg=false:=ID rfl
theorem aj9:KG.size=1:=ID rfl
theorem ad2:KG.bytes=8:=ID rfl
theorem aCD:qv KG=True:=eq_true rfl
theorem aCE:zc KG=[.v Value.nilFunc]:=ID rfl
theorem bca{K:TI→Prop}:@tyW Tryz.prog 150 ⟨K⟩=K KF:=qg be8
theorem aCC:KF.kd=Kd.oth:=ID rfl
theorem aqn:KF.kd.agg=false:=ID rfl
theorem aj8:KF.size=1:=ID rfl
theorem ad1:KF.bytes=8:=ID rfl
theorem aCA:qv KF=True:=eq_true rfl
theorem aCB:zc KF=[.v Value.nilFunc]:=ID rfl
theorem bb9{K:TI→Prop}:@tyW Tryz.prog 151 ⟨K⟩=K KE:=qg be7
theorem aCz:KE.kd=Kd.oth:=ID rfl
theorem aqm:KE.kd.agg=false:=ID rfl
theorem aj7:KE.size=1:=ID rfl
theorem ad0:KE.bytes=8:=ID rfl
theorem aCx:qv KE=True:=eq_true rfl
theorem aCy:zc KE=[.v Value.nilFunc]:=ID rfl
theorem bb8{K:TI→Prop}:@tyW Tryz.prog 152 ⟨K⟩=K KD:=qg be6
theorem aCw:KD.kd=Kd.oth:=ID rfl
theorem aql:KD.kd.agg=false:=ID rfl
theorem aj6:KD.size=1:=ID rfl
theorem adY:KD.bytes=8:=ID rfl
theorem aCu:qv KD=True:=eq_true rfl
theorem aCv:zc KD=[.v Value.nilFunc]:=ID rfl
theorem bb7{K:TI→Prop}:@tyW Tryz.prog 153 ⟨K⟩=K KC:=qg be5
theorem aCt:KC.kd=Kd.oth:=ID rfl
theorem aqk:KC.kd.agg=false:=ID rfl
theorem aj5:KC.size=1:=ID rfl
theorem adX:KC.bytes=8:=ID rfl
theorem aCr:qv KC=True:=eq_true rfl
theorem aCs:zc KC=[.v Value.nilFunc]:=ID rfl
theorem bb6{K:TI→Prop}:@tyW Tryz.prog 154 ⟨K⟩=K KB:=qg be4
theorem aCq:KB.kd=Kd.oth:=ID rfl
theorem aqj:KB.kd.agg=false:=ID rfl
theorem aj4:KB.size=1:=ID rfl
theorem adW:KB.bytes=8:=ID rfl
theorem aCo:qv KB=True:=eq_true rfl
theorem aCp:zc KB=[.v Value.nilFunc]:=ID rfl
theorem bb5{K:TI→Prop}:@tyW Tryz.prog 155 ⟨K⟩=K KA:=qg be3
theorem aCn:KA.kd=Kd.oth:=ID rfl
theorem aqi:KA.kd.agg=false:=ID rfl
theorem aj3:KA.size=1:=ID rfl
theorem adV:KA.bytes=8:=ID rfl
theorem aCl:qv KA=True:=eq_true rfl
theorem aCm:zc KA=[.v Value.nilFunc]:=ID rfl
theorem bb4{K:TI→Prop}:@tyW Tryz.prog 156 ⟨K⟩=K Kz:=qg be2
theorem aCk:Kz.kd=Kd.oth:=ID rfl
theorem aqh:Kz.kd.agg=false:=ID rfl
theorem aj2:Kz.size=1:=ID rfl
theorem adU:Kz.bytes=8:=ID rfl
theorem aCi:qv Kz=True:=eq_true rfl
theorem aCj:zc Kz=[.v Value.nilFunc]:=ID rfl
theorem bb3{K:TI→Prop}:@tyW Tryz.prog 157 ⟨K⟩=K Ky:=qg be1
theorem aCh:Ky.kd=Kd.oth:=ID rfl
theorem aqg:Ky.kd.agg=false:=ID rfl
theorem aj1:Ky.size=1:=ID rfl
theorem adT:Ky.bytes=8:=ID rfl
theorem aCf:qv Ky=True:=eq_true rfl
theorem aCg:zc Ky=[.v Value.nilFunc]:=ID rfl
theorem bb2{K:TI→Prop}:@tyW Tryz.prog 158 ⟨K⟩=K Kx:=qg be0
theorem aCe:Kx.kd=Kd.oth:=ID rfl
theorem aqf:Kx.kd.agg=false:=ID rfl
theorem aj0:Kx.size=1:=ID rfl
theorem adR:Kx.bytes=8:=ID rfl
theorem aCc:qv Kx=True:=eq_true rfl
theorem aCd:zc Kx=[.v Value.nilFunc]:=ID rfl
theorem bb1{K:TI→Prop}:@tyW Tryz.prog 159 ⟨K⟩=K Kw:=qg beZ
theorem aCb:Kw.kd=Kd.oth:=ID rfl
theorem aqe:Kw.kd.agg=false:=ID rfl
theorem ajZ:Kw.size=1:=ID rfl
theorem adQ:Kw.bytes=8:=ID rfl
theorem aB9:qv Kw=True:=eq_true rfl
theorem aCa:zc Kw=[.v Value.nilFunc]:=ID rfl
theorem bb0{K:TI→Prop}:@tyW Tryz.prog 160 ⟨K⟩=K Kv:=qg beY
theorem aB8:Kv.kd=Kd.oth:=ID rfl
theorem aqd:Kv.kd.agg=false:=ID rfl
theorem ajY:Kv.size=1:=ID rfl
theorem adP:Kv.bytes=8:=ID rfl
theorem aB6:qv Kv=True:=eq_true rfl
theorem aB7:zc Kv=[.v Value.nilFunc]:=ID rfl
theorem bbZ{K:TI→Prop}:@tyW Tryz.prog 161 ⟨K⟩=K Ku:=qg beX
theorem aB5:Ku.kd=Kd.oth:=ID rfl
theorem aqc:Ku.kd.agg=false:=ID rfl
theorem ajX:Ku.size=1:=ID rfl
theorem adO:Ku.bytes=8:=ID rfl
theorem aB3:qv Ku=True:=eq_true rfl
theorem aB4:zc Ku=[.v Value.nilFunc]:=ID rfl
theorem bbY{K:TI→Prop}:@tyW Tryz.prog 162 ⟨K⟩=K Kt:=qg beW
theorem aB2:Kt.kd=Kd.oth:=ID rfl
theorem aqb:Kt.kd.agg=false:=ID rfl
theorem ajW:Kt.size=1:=ID rfl
theorem adN:Kt.bytes=8:=ID rfl
theorem aB0:qv Kt=True:=eq_true rfl
theorem aB1:zc Kt=[.v Value.nilFunc]:=ID rfl
theorem bbX{K:TI→Prop}:@tyW Tryz.prog 163 ⟨K⟩=K Ks:=qg beV
theorem aBZ:Ks.kd=Kd.oth:=ID rfl
theorem aqa:Ks.kd.agg=false:=ID rfl
theorem ajV:Ks.size=1:=ID rfl
theorem adL:Ks.bytes=8:=ID rfl
theorem aBX:qv Ks=True:=eq_true rfl
theorem aBY:zc Ks=[.v Value.nilFunc]:=ID rfl
theorem bbW{K:TI→Prop}:@tyW Tryz.prog 164 ⟨K⟩=K Kr:=qg beU
theorem aBW:Kr.kd=Kd.oth:=ID rfl
theorem ap9:Kr.kd.agg=false:=ID rfl
theorem ajU:Kr.size=1:=ID rfl
theorem adK:Kr.bytes=8:=ID rfl
theorem aBU:qv Kr=True:=eq_true rfl
theorem aBV:zc Kr=[.v Value.nilFunc]:=ID rfl
theorem bbV{K:TI→Prop}:@tyW Tryz.prog 165 ⟨K⟩=K Kq:=qg beT
theorem aBT:Kq.kd=Kd.oth:=ID rfl
theorem ap8:Kq.kd.agg=false:=ID rfl
theorem ajT:Kq.size=1:=ID rfl
theorem adJ:Kq.bytes=8:=ID rfl
theorem aBR:qv Kq=True:=eq_true rfl
theorem aBS:zc Kq=[.v Value.nilFunc]:=ID rfl
theorem bbU{K:TI→Prop}:@tyW Tryz.prog 166 ⟨K⟩=K Kp:=qg beS
theorem aBQ:Kp.kd=Kd.oth:=ID rfl
theorem ap7:Kp.kd.agg=false:=ID rfl
theorem ajS:Kp.size=1:=ID rfl
theorem adI:Kp.bytes=8:=ID rfl
theorem aBO:qv Kp=True:=eq_true rfl
theorem aBP:zc Kp=[.v Value.nilFunc]:=ID rfl
theorem bbT{K:TI→Prop}:@tyW Tryz.prog 167 ⟨K⟩=K Ko:=qg beR
theorem aBN:Ko.kd=Kd.oth:=ID rfl
theorem ap6:Ko.kd.agg=false:=ID rfl
theorem ajR:Ko.size=1:=ID rfl
theorem adH:Ko.bytes=8:=ID rfl
theorem aBL:qv Ko=True:=eq_true rfl
theorem aBM:zc Ko=[.v Value.nilFunc]:=ID rfl
theorem bbS{K:TI→Prop}:@tyW Tryz.prog 168 ⟨K⟩=K Kn:=qg beQ
theorem aBK:Kn.kd=Kd.oth:=ID rfl
theorem ap5:Kn.kd.agg=false:=ID rfl
theorem ajQ:Kn.size=1:=ID rfl
theorem adG:Kn.bytes=8:=ID rfl
theorem aBI:qv Kn=True:=eq_true rfl
theorem aBJ:zc Kn=[.v Value.nilFunc]:=ID rfl
theorem bbR{K:TI→Prop}:@tyW Tryz.prog 169 ⟨K⟩=K Km:=qg beP
theorem aBH:Km.kd=Kd.oth:=ID rfl
theorem ap4:Km.kd.agg=false:=ID rfl
theorem ajP:Km.size=1:=ID rfl
theorem adF:Km.bytes=8:=ID rfl
theorem aBF:qv Km=True:=eq_true rfl
theorem aBG:zc Km=[.v Value.nilFunc]:=ID rfl
theorem bbQ{K:TI→Prop}:@tyW Tryz.prog 170 ⟨K⟩=K Kl:=qg beO
theorem aBE:Kl.kd=Kd.oth:=ID rfl
theorem ap3:Kl.kd.agg=false:=ID rfl
theorem ajO:Kl.size=1:=ID rfl
theorem adE:Kl.bytes=8:=ID rfl
theorem aBC:qv Kl=True:=eq_true rfl
theorem aBD:zc Kl=[.v Value.nilFunc]:=ID rfl
theorem bbP{K:TI→Prop}:@tyW Tryz.prog 171 ⟨K⟩=K Kk:=qg beN
theorem aBB:Kk.kd=Kd.oth:=ID rfl
theorem ap2:Kk.kd.agg=false:=ID rfl
theorem ajN:Kk.size=1:=ID rfl
theorem adD:Kk.bytes=8:=ID rfl
theorem aBz:qv Kk=True:=eq_true rfl
theorem aBA:zc Kk=[.v Value.nilFunc]:=ID rfl
theorem bbO{K:TI→Prop}:@tyW Tryz.prog 172 ⟨K⟩=K Kj:=qg beM
theorem aBy:Kj.kd=Kd.oth:=ID rfl
theorem ap1:Kj.kd.agg=false:=ID rfl
theorem ajM:Kj.size=1:=ID rfl
theorem adC:Kj.bytes=8:=ID rfl
theorem aBw:qv Kj=True:=eq_true rfl
theorem aBx:zc Kj=[.v Value.nilFunc]:=ID rfl
theorem bbN{K:TI→Prop}:@tyW Tryz.prog 173 ⟨K⟩=K Ki:=qg beL
theorem aBv:Ki.kd=Kd.oth:=ID rfl
theorem ap0:Ki.kd.agg=false:=ID rfl
theorem ajL:Ki.size=1:=ID rfl
theorem adB:Ki.bytes=8:=ID rfl
theorem aBt:qv Ki=True:=eq_true rfl
theorem aBu:zc Ki=[.v Value.nilFunc]:=ID rfl
theorem bbM{K:TI→Prop}:@tyW Tryz.prog 174 ⟨K⟩=K Kh:=qg beK
theorem aBs:Kh.kd=Kd.oth:=ID rfl
theorem apZ:Kh.kd.agg=false:=ID rfl
theorem ajK:Kh.size=1:=ID rfl
theorem adA:Kh.bytes=8:=ID rfl
theorem aBq:qv Kh=True:=eq_true rfl
theorem aBr:zc Kh=[.v Value.nilFunc]:=ID rfl
theorem bbL{K:TI→Prop}:@tyW Tryz.prog 175 ⟨K⟩=K Kg:=qg beJ
theorem aBp:Kg.kd=Kd.oth:=ID rfl
theorem apY:Kg.kd.agg=false:=ID rfl
theorem ajJ:Kg.size=1:=ID rfl
theorem adz:Kg.bytes=8:=ID rfl
theorem aBn:qv Kg=True:=eq_true rfl
theorem aBo:zc Kg=[.v Value.nilFunc]:=ID rfl
theorem bbK{K:TI→Prop}:@tyW Tryz.prog 176 ⟨K⟩=K Zk:=qg arg
theorem aBm:Zk.kd=Kd.stru [(0,22),(1,3),(2,3)]:=ID rfl
theorem apX:Zk.kd.agg=true:=ID rfl
theorem ajI:Zk.size=3:=ID rfl
theorem ady:Zk.bytes=40:=ID rfl
theorem aBk:qv Zk=True:=eq_true rfl
theorem aBl:zc Zk=[.v (Value.slice none 0 0),.v (Value.int IntKind.i64 0),.v (Value.int IntKind.i64 0)]:=ID rfl
theorem aGK{K:Nat→TI→Prop}:@qz Tryz.prog 176 0 ⟨K⟩=K 0 af5:=qr (ti:=Zk) (tf:=af5) (fo:=(0,22)) (fs:=[(0,22),(1,3),(2,3)]) arg rfl rfl aIY
theorem aOd{K:Nat→Nat→Prop}:qt Tryz.prog [(0,22),(1,3),(2,3)] 0 K=K 0 1:=qq (tf:=af5) (fo:=(0,22)) (fs:=[(0,22),(1,3),(2,3)]) rfl aIY
theorem aGJ{K:Nat→TI→Prop}:@qz Tryz.prog 176 1 ⟨K⟩=K 1 ti3:=qr (ti:=Zk) (tf:=ti3) (fo:=(1,3)) (fs:=[(0,22),(1,3),(2,3)]) arg rfl rfl tf3
theorem aOc{K:Nat→Nat→Prop}:qt Tryz.prog [(0,22),(1,3),(2,3)] 1 K=K 1 1:=qq (tf:=ti3) (fo:=(1,3)) (fs:=[(0,22),(1,3),(2,3)]) rfl tf3
theorem aGI{K:Nat→TI→Prop}:@qz Tryz.prog 176 2 ⟨K⟩=K 2 ti3:=qr (ti:=Zk) (tf:=ti3) (fo:=(2,3)) (fs:=[(0,22),(1,3),(2,3)]) arg rfl rfl tf3
theorem aOb{K:Nat→Nat→Prop}:qt Tryz.prog [(0,22),(1,3),(2,3)] 2 K=K 2 1:=qq (tf:=ti3) (fo:=(2,3)) (fs:=[(0,22),(1,3),(2,3)]) rfl tf3
theorem aPH:∀f∈([(0,22),(1,3),(2,3)]:List (Nat×Nat)),(qm Tryz.prog f.2).isSome=true:=by
 intro f hf
 simp only[List.mem_cons,List.not_mem_nil,or_false]at hf
 rcases hf with rfl|rfl|rfl
 ·rw[aIY];rfl
 ·rw[tf3];rfl
 ·rw[tf3];rfl
theorem aY9{ps:List (Nat×AV)}{K:AV→Prop}:@q7 Tryz.prog 176 ps ⟨K⟩=@zf (qt Tryz.prog [(0,22),(1,3),(2,3)]) (zc Zk) ps ⟨fun cs=>K (.ag cs)⟩:=qF arg rfl aPH
theorem bbJ{K:TI→Prop}:@tyW Tryz.prog 177 ⟨K⟩=K Zj:=qg arf
theorem aBj:Zj.kd=Kd.stru [(0,22),(1,3),(2,3)]:=ID rfl
theorem apW:Zj.kd.agg=true:=ID rfl
theorem ajH:Zj.size=3:=ID rfl
theorem adx:Zj.bytes=40:=ID rfl
theorem aBh:qv Zj=True:=eq_true rfl
theorem aBi:zc Zj=[.v (Value.slice none 0 0),.v (Value.int IntKind.i64 0),.v (Value.int IntKind.i64 0)]:=ID rfl
theorem aGH{K:Nat→TI→Prop}:@qz Tryz.prog 177 0 ⟨K⟩=K 0 af5:=qr (ti:=Zj) (tf:=af5) (fo:=(0,22)) (fs:=[(0,22),(1,3),(2,3)]) arf rfl rfl aIY
theorem aOa{K:Nat→Nat→Prop}:qt Tryz.prog [(0,22),(1,3),(2,3)] 0 K=K 0 1:=qq (tf:=af5) (fo:=(0,22)) (fs:=[(0,22),(1,3),(2,3)]) rfl aIY
theorem aGG{K:Nat→TI→Prop}:@qz Tryz.prog 177 1 ⟨K⟩=K 1 ti3:=qr (ti:=Zj) (tf:=ti3) (fo:=(1,3)) (fs:=[(0,22),(1,3),(2,3)]) arf rfl rfl tf3
theorem aN9{K:Nat→Nat→Prop}:qt Tryz.prog [(0,22),(1,3),(2,3)] 1 K=K 1 1:=qq (tf:=ti3) (fo:=(1,3)) (fs:=[(0,22),(1,3),(2,3)]) rfl tf3
theorem aGF{K:Nat→TI→Prop}:@qz Tryz.prog 177 2 ⟨K⟩=K 2 ti3:=qr (ti:=Zj) (tf:=ti3) (fo:=(2,3)) (fs:=[(0,22),(1,3),(2,3)]) arf rfl rfl tf3
theorem aN8{K:Nat→Nat→Prop}:qt Tryz.prog [(0,22),(1,3),(2,3)] 2 K=K 2 1:=qq (tf:=ti3) (fo:=(2,3)) (fs:=[(0,22),(1,3),(2,3)]) rfl tf3
theorem aPG:∀f∈([(0,22),(1,3),(2,3)]:List (Nat×Nat)),(qm Tryz.prog f.2).isSome=true:=by
 intro f hf
 simp only[List.mem_cons,List.not_mem_nil,or_false]at hf
 rcases hf with rfl|rfl|rfl
 ·rw[aIY];rfl
 ·rw[tf3];rfl
 ·rw[tf3];rfl
theorem aY8{ps:List (Nat×AV)}{K:AV→Prop}:@q7 Tryz.prog 177 ps ⟨K⟩=@zf (qt Tryz.prog [(0,22),(1,3),(2,3)]) (zc Zj) ps ⟨fun cs=>K (.ag cs)⟩:=qF arf rfl aPG
theorem bbI{K:TI→Prop}:@tyW Tryz.prog 178 ⟨K⟩=K Kf:=qg beI
theorem aBg:Kf.kd=Kd.oth:=ID rfl
theorem apV:Kf.kd.agg=false:=ID rfl
theorem ajG:Kf.size=1:=ID rfl
theorem adw:Kf.bytes=8:=ID rfl
theorem aBe:qv Kf=True:=eq_true rfl
theorem aBf:zc Kf=[.v Value.nilFunc]:=ID rfl
theorem bbH{K:TI→Prop}:@tyW Tryz.prog 179 ⟨K⟩=K Ke:=qg beH
theorem aBd:Ke.kd=Kd.oth:=ID rfl
theorem apU:Ke.kd.agg=false:=ID rfl
theorem ajF:Ke.size=1:=ID rfl
theorem adv:Ke.bytes=8:=ID rfl
theorem aBb:qv Ke=True:=eq_true rfl
theorem aBc:zc Ke=[.v Value.nilFunc]:=ID rfl
theorem bbG{K:TI→Prop}:@tyW Tryz.prog 180 ⟨K⟩=K Kc:=qg beG
theorem aBa:Kc.kd=Kd.oth:=ID rfl
theorem apT:Kc.kd.agg=false:=ID rfl
theorem ajE:Kc.size=1:=ID rfl
theorem adu:Kc.bytes=8:=ID rfl
theorem aA8:qv Kc=True:=eq_true rfl
theorem aA9:zc Kc=[.v Value.nilFunc]:=ID rfl
theorem bbF{K:TI→Prop}:@tyW Tryz.prog 181 ⟨K⟩=K Kb:=qg beF
theorem aA7:Kb.kd=Kd.oth:=ID rfl
theorem apS:Kb.kd.agg=false:=ID rfl
theorem ajD:Kb.size=1:=ID rfl
theorem adt:Kb.bytes=8:=ID rfl
theorem aA5:qv Kb=True:=eq_true rfl
theorem aA6:zc Kb=[.v Value.nilFunc]:=ID rfl
theorem bbE{K:TI→Prop}:@tyW Tryz.prog 182 ⟨K⟩=K Ka:=qg beE
theorem aA4:Ka.kd=Kd.oth:=ID rfl
theorem apR:Ka.kd.agg=false:=ID rfl
theorem ajC:Ka.size=1:=ID rfl
theorem ads:Ka.bytes=8:=ID rfl
theorem aA2:qv Ka=True:=eq_true rfl
theorem aA3:zc Ka=[.v Value.nilFunc]:=ID rfl
theorem bbD{K:TI→Prop}:@tyW Tryz.prog 183 ⟨K⟩=K V9:=qg beD
theorem aA1:V9.kd=Kd.oth:=ID rfl
theorem apQ:V9.kd.agg=false:=ID rfl
theorem ajB:V9.size=1:=ID rfl
theorem adr:V9.bytes=8:=ID rfl
theorem aAZ:qv V9=True:=eq_true rfl
theorem aA0:zc V9=[.v Value.nilFunc]:=ID rfl
theorem bbC{K:TI→Prop}:@tyW Tryz.prog 184 ⟨K⟩=K V8:=qg beC
theorem aAY:V8.kd=Kd.oth:=ID rfl
theorem apP:V8.kd.agg=false:=ID rfl
theorem ajA:V8.size=1:=ID rfl
theorem adq:V8.bytes=8:=ID rfl
theorem aAW:qv V8=True:=eq_true rfl
theorem aAX:zc V8=[.v Value.nilFunc]:=ID rfl
theorem bbB{K:TI→Prop}:@tyW Tryz.prog 185 ⟨K⟩=K V7:=qg beB
theorem aAV:V7.kd=Kd.oth:=ID rfl
theorem apO:V7.kd.agg=false:=ID rfl
theorem ajz:V7.size=1:=ID rfl
theorem adp:V7.bytes=8:=ID rfl
theorem aAT:qv V7=True:=eq_true rfl
theorem aAU:zc V7=[.v Value.nilFunc]:=ID rfl
theorem bbA{K:TI→Prop}:@tyW Tryz.prog 186 ⟨K⟩=K V6:=qg beA
theorem aAS:V6.kd=Kd.oth:=ID rfl
theorem apN:V6.kd.agg=false:=ID rfl
theorem ajy:V6.size=1:=ID rfl
theorem ado:V6.bytes=8:=ID rfl
theorem aAQ:qv V6=True:=eq_true rfl
theorem aAR:zc V6=[.v Value.nilFunc]:=ID rfl
theorem bbz{K:TI→Prop}:@tyW Tryz.prog 188 ⟨K⟩=K V5:=qg bez
theorem aAP:V5.kd=Kd.oth:=ID rfl
theorem apM:V5.kd.agg=false:=ID rfl
theorem ajx:V5.size=1:=ID rfl
theorem adn:V5.bytes=8:=ID rfl
theorem aAN:qv V5=True:=eq_true rfl
theorem aAO:zc V5=[.v Value.nilFunc]:=ID rfl
theorem bby{K:TI→Prop}:@tyW Tryz.prog 189 ⟨K⟩=K V4:=qg bey
theorem aAM:V4.kd=Kd.oth:=ID rfl
theorem apL:V4.kd.agg=false:=ID rfl
theorem ajw:V4.size=1:=ID rfl
theorem adm:V4.bytes=8:=ID rfl
theorem aAK:qv V4=True:=eq_true rfl
theorem aAL:zc V4=[.v Value.nilFunc]:=ID rfl
theorem bbx{K:TI→Prop}:@tyW Tryz.prog 190 ⟨K⟩=K V3:=qg bex
theorem aAJ:V3.kd=Kd.oth:=ID rfl
theorem apK:V3.kd.agg=false:=ID rfl
theorem ajv:V3.size=1:=ID rfl
theorem adl:V3.bytes=8:=ID rfl
theorem aAH:qv V3=True:=eq_true rfl
theorem aAI:zc V3=[.v Value.nilFunc]:=ID rfl
theorem bbw{K:TI→Prop}:@tyW Tryz.prog 191 ⟨K⟩=K V2:=qg bew
theorem aAG:V2.kd=Kd.oth:=ID rfl
theorem apJ:V2.kd.agg=false:=ID rfl
theorem aju:V2.size=1:=ID rfl
theorem adk:V2.bytes=8:=ID rfl
theorem aAE:qv V2=True:=eq_true rfl
theorem aAF:zc V2=[.v Value.nilFunc]:=ID rfl
theorem bbv{K:TI→Prop}:@tyW Tryz.prog 192 ⟨K⟩=K V1:=qg bev
theorem aAD:V1.kd=Kd.oth:=ID rfl
theorem apI:V1.kd.agg=false:=ID rfl
theorem ajt:V1.size=1:=ID rfl
theorem adj:V1.bytes=8:=ID rfl
theorem aAB:qv V1=True:=eq_true rfl
theorem aAC:zc V1=[.v Value.nilFunc]:=ID rfl
theorem bbu{K:TI→Prop}:@tyW Tryz.prog 193 ⟨K⟩=K V0:=qg beu
theorem aAA:V0.kd=Kd.oth:=ID rfl
theorem apH:V0.kd.agg=false:=ID rfl
theorem ajs:V0.size=1:=ID rfl
theorem adi:V0.bytes=8:=ID rfl
theorem aAy:qv V0=True:=eq_true rfl
theorem aAz:zc V0=[.v Value.nilFunc]:=ID rfl
theorem bbt{K:TI→Prop}:@tyW Tryz.prog 194 ⟨K⟩=K VZ:=qg bet
theorem aAx:VZ.kd=Kd.oth:=ID rfl
theorem apG:VZ.kd.agg=false:=ID rfl
theorem ajr:VZ.size=1:=ID rfl
theorem adh:VZ.bytes=8:=ID rfl
theorem aAv:qv VZ=True:=eq_true rfl
theorem aAw:zc VZ=[.v Value.nilFunc]:=ID rfl
theorem bbs{K:TI→Prop}:@tyW Tryz.prog 195 ⟨K⟩=K VY:=qg aSB
theorem aAu:VY.kd=Kd.sli 108:=ID rfl
theorem apF:VY.kd.agg=false:=ID rfl
theorem ajq:VY.size=1:=ID rfl
theorem adg:VY.bytes=24:=ID rfl
theorem aAs:qv VY=True:=eq_true rfl
theorem aAt:zc VY=[.v (Value.slice none 0 0)]:=ID rfl
theorem aSR{K:TI→Prop}:@yQ Tryz.prog 195 ⟨K⟩=K yZ:=Za aSB rfl Yz
theorem bbr{K:TI→Prop}:@tyW Tryz.prog 196 ⟨K⟩=K VX:=qg bes
theorem aAr:VX.kd=Kd.oth:=ID rfl
theorem apD:VX.kd.agg=false:=ID rfl
theorem ajp:VX.size=1:=ID rfl
theorem adf:VX.bytes=8:=ID rfl
theorem aAp:qv VX=True:=eq_true rfl
theorem aAq:zc VX=[.v Value.nilFunc]:=ID rfl
theorem bbq{K:TI→Prop}:@tyW Tryz.prog 197 ⟨K⟩=K VW:=qg ber
theorem aAo:VW.kd=Kd.oth:=ID rfl
theorem apC:VW.kd.agg=false:=ID rfl
theorem ajo:VW.size=1:=ID rfl
theorem ade:VW.bytes=8:=ID rfl
theorem aAm:qv VW=True:=eq_true rfl
theorem aAn:zc VW=[.v Value.nilFunc]:=ID rfl
theorem bbp{K:TI→Prop}:@tyW Tryz.prog 198 ⟨K⟩=K VV:=qg bep
theorem aAl:VV.kd=Kd.oth:=ID rfl
theorem apB:VV.kd.agg=false:=ID rfl
theorem ajn:VV.size=1:=ID rfl
theorem adc:VV.bytes=8:=ID rfl
theorem aAj:qv VV=True:=eq_true rfl
theorem aAk:zc VV=[.v Value.nilFunc]:=ID rfl
theorem bbo{K:TI→Prop}:@tyW Tryz.prog 200 ⟨K⟩=K VU:=qg beo
theorem aAh:VU.kd=Kd.oth:=ID rfl
theorem apz:VU.kd.agg=false:=ID rfl
theorem ajm:VU.size=1:=ID rfl
theorem adb:VU.bytes=8:=ID rfl
theorem aAf:qv VU=True:=eq_true rfl
theorem aAg:zc VU=[.v Value.nilFunc]:=ID rfl
theorem bbn{K:TI→Prop}:@tyW Tryz.prog 201 ⟨K⟩=K VT:=qg ben
theorem aAe:VT.kd=Kd.oth:=ID rfl
theorem apy:VT.kd.agg=false:=ID rfl
theorem ajl:VT.size=1:=ID rfl
theorem ada:VT.bytes=8:=ID rfl
theorem aAc:qv VT=True:=eq_true rfl
theorem aAd:zc VT=[.v Value.nilFunc]:=ID rfl
theorem bbm{K:TI→Prop}:@tyW Tryz.prog 202 ⟨K⟩=K VS:=qg bem
theorem aAb:VS.kd=Kd.oth:=ID rfl
theorem apx:VS.kd.agg=false:=ID rfl
theorem ajk:VS.size=1:=ID rfl
theorem ac9:VS.bytes=8:=ID rfl
theorem az9:qv VS=True:=eq_true rfl
theorem aAa:zc VS=[.v Value.nilFunc]:=ID rfl
theorem bbl{K:TI→Prop}:@tyW Tryz.prog 204 ⟨K⟩=K VR:=qg bel
theorem az8:VR.kd=Kd.oth:=ID rfl
theorem apw:VR.kd.agg=false:=ID rfl
theorem ajj:VR.size=1:=ID rfl
theorem ac8:VR.bytes=8:=ID rfl
theorem az6:qv VR=True:=eq_true rfl
theorem az7:zc VR=[.v Value.nilFunc]:=ID rfl
theorem bbk{K:TI→Prop}:@tyW Tryz.prog 206 ⟨K⟩=K VQ:=qg bek
theorem az5:VQ.kd=Kd.oth:=ID rfl
theorem apv:VQ.kd.agg=false:=ID rfl
theorem aji:VQ.size=1:=ID rfl
theorem ac7:VQ.bytes=8:=ID rfl
theorem az3:qv VQ=True:=eq_true rfl
theorem az4:zc VQ=[.v Value.nilFunc]:=ID rfl
theorem bbj{K:TI→Prop}:@tyW Tryz.prog 207 ⟨K⟩=K VP:=qg bej
theorem az2:VP.kd=Kd.oth:=ID rfl
theorem apu:VP.kd.agg=false:=ID rfl
theorem ajh:VP.size=1:=ID rfl
theorem ac6:VP.bytes=8:=ID rfl
theorem az0:qv VP=True:=eq_true rfl
theorem az1:zc VP=[.v Value.nilFunc]:=ID rfl
theorem bbi{K:TI→Prop}:@tyW Tryz.prog 208 ⟨K⟩=K VO:=qg bei
theorem azZ:VO.kd=Kd.oth:=ID rfl
theorem apt:VO.kd.agg=false:=ID rfl
theorem ajg:VO.size=1:=ID rfl
theorem ac5:VO.bytes=8:=ID rfl
theorem azX:qv VO=True:=eq_true rfl
theorem azY:zc VO=[.v Value.nilFunc]:=ID rfl
theorem bbh{K:TI→Prop}:@tyW Tryz.prog 209 ⟨K⟩=K VN:=qg beh
theorem azW:VN.kd=Kd.oth:=ID rfl
theorem apr:VN.kd.agg=false:=ID rfl
theorem ajf:VN.size=1:=ID rfl
theorem ac4:VN.bytes=8:=ID rfl
theorem azU:qv VN=True:=eq_true rfl
theorem azV:zc VN=[.v Value.nilFunc]:=ID rfl
theorem bbg{K:TI→Prop}:@tyW Tryz.prog 210 ⟨K⟩=K VM:=qg beg
theorem azT:VM.kd=Kd.oth:=ID rfl
theorem apq:VM.kd.agg=false:=ID rfl
theorem aje:VM.size=1:=ID rfl
theorem ac3:VM.bytes=8:=ID rfl
theorem azR:qv VM=True:=eq_true rfl
theorem azS:zc VM=[.v Value.nilFunc]:=ID rfl
theorem bbf{K:TI→Prop}:@tyW Tryz.prog 211 ⟨K⟩=K VL:=qg bef
theorem azQ:VL.kd=Kd.oth:=ID rfl
theorem app:VL.kd.agg=false:=ID rfl
theorem ajd:VL.size=1:=ID rfl
theorem ac2:VL.bytes=8:=ID rfl
theorem azO:qv VL=True:=eq_true rfl
theorem azP:zc VL=[.v Value.nilFunc]:=ID rfl
theorem bbe{K:TI→Prop}:@tyW Tryz.prog 213 ⟨K⟩=K VK:=qg bee
theorem azN:VK.kd=Kd.oth:=ID rfl
theorem apo:VK.kd.agg=false:=ID rfl
theorem ajc:VK.size=1:=ID rfl
theorem ac1:VK.bytes=8:=ID rfl
theorem azL:qv VK=True:=eq_true rfl
theorem azM:zc VK=[.v Value.nilFunc]:=ID rfl
theorem bbd{K:TI→Prop}:@tyW Tryz.prog 214 ⟨K⟩=K VJ:=qg bed
theorem azK:VJ.kd=Kd.oth:=ID rfl
theorem apn:VJ.kd.agg=false:=ID rfl
theorem ajb:VJ.size=1:=ID rfl
theorem ac0:VJ.bytes=8:=ID rfl
theorem azI:qv VJ=True:=eq_true rfl
theorem azJ:zc VJ=[.v Value.nilFunc]:=ID rfl
theorem bbc{K:TI→Prop}:@tyW Tryz.prog 215 ⟨K⟩=K VI:=qg bec
theorem azH:VI.kd=Kd.oth:=ID rfl
theorem apm:VI.kd.agg=false:=ID rfl
theorem aja:VI.size=1:=ID rfl
theorem acZ:VI.bytes=8:=ID rfl
theorem azF:qv VI=True:=eq_true rfl
theorem azG:zc VI=[.v Value.nilFunc]:=ID rfl
theorem bbb{K:TI→Prop}:@tyW Tryz.prog 216 ⟨K⟩=K VH:=qg beb
theorem azE:VH.kd=Kd.oth:=ID rfl
theorem apl:VH.kd.agg=false:=ID rfl
theorem ai9:VH.size=1:=ID rfl
theorem acY:VH.bytes=8:=ID rfl
theorem azC:qv VH=True:=eq_true rfl
theorem azD:zc VH=[.v Value.nilFunc]:=ID rfl
theorem bba{K:TI→Prop}:@tyW Tryz.prog 217 ⟨K⟩=K VG:=qg bea
theorem azB:VG.kd=Kd.oth:=ID rfl
theorem apk:VG.kd.agg=false:=ID rfl
theorem ai8:VG.size=1:=ID rfl
theorem acX:VG.bytes=8:=ID rfl
theorem azz:qv VG=True:=eq_true rfl
theorem azA:zc VG=[.v Value.nilFunc]:=ID rfl
theorem ba9{K:TI→Prop}:@tyW Tryz.prog 218 ⟨K⟩=K VF:=qg bd9
theorem azy:VF.kd=Kd.oth:=ID rfl
theorem apj:VF.kd.agg=false:=ID rfl
theorem ai7:VF.size=1:=ID rfl
theorem acW:VF.bytes=8:=ID rfl
theorem azw:qv VF=True:=eq_true rfl
theorem azx:zc VF=[.v Value.nilFunc]:=ID rfl
theorem ba8{K:TI→Prop}:@tyW Tryz.prog 219 ⟨K⟩=K VE:=qg bd8
theorem azv:VE.kd=Kd.oth:=ID rfl
theorem api:VE.kd.agg=false:=ID rfl
theorem ai6:VE.size=1:=ID rfl
theorem acV:VE.bytes=8:=ID rfl
theorem azt:qv VE=True:=eq_true rfl
theorem azu:zc VE=[.v Value.nilFunc]:=ID rfl
theorem ba7{K:TI→Prop}:@tyW Tryz.prog 220 ⟨K⟩=K VD:=qg bd7
theorem azr:VD.kd=Kd.oth:=ID rfl
theorem apg:VD.kd.agg=false:=ID rfl
theorem ai4:VD.size=1:=ID rfl
theorem acU:VD.bytes=8:=ID rfl
theorem azp:qv VD=True:=eq_true rfl
theorem azq:zc VD=[.v Value.nilFunc]:=ID rfl
theorem ba6{K:TI→Prop}:@tyW Tryz.prog 221 ⟨K⟩=K VC:=qg bd6
theorem azo:VC.kd=Kd.oth:=ID rfl
theorem apf:VC.kd.agg=false:=ID rfl
theorem ai3:VC.size=1:=ID rfl
theorem acT:VC.bytes=8:=ID rfl
theorem azm:qv VC=True:=eq_true rfl
theorem azn:zc VC=[.v Value.nilFunc]:=ID rfl
theorem ba5{K:TI→Prop}:@tyW Tryz.prog 222 ⟨K⟩=K VB:=qg bd5
theorem azl:VB.kd=Kd.oth:=ID rfl
theorem ape:VB.kd.agg=false:=ID rfl
theorem ai2:VB.size=1:=ID rfl
theorem acS:VB.bytes=8:=ID rfl
theorem azj:qv VB=True:=eq_true rfl
theorem azk:zc VB=[.v Value.nilFunc]:=ID rfl
theorem ba4{K:TI→Prop}:@tyW Tryz.prog 223 ⟨K⟩=K VA:=qg bd2
theorem azi:VA.kd=Kd.oth:=ID rfl
theorem apd:VA.kd.agg=false:=ID rfl
theorem ai1:VA.size=1:=ID rfl
theorem acR:VA.bytes=8:=ID rfl
theorem azg:qv VA=True:=eq_true rfl
theorem azh:zc VA=[.v Value.nilFunc]:=ID rfl
theorem ba3{K:TI→Prop}:@tyW Tryz.prog 224 ⟨K⟩=K Vz:=qg bd1
theorem azf:Vz.kd=Kd.oth:=ID rfl
theorem apc:Vz.kd.agg=false:=ID rfl
theorem ai0:Vz.size=1:=ID rfl
theorem acQ:Vz.bytes=8:=ID rfl
theorem azd:qv Vz=True:=eq_true rfl
theorem aze:zc Vz=[.v Value.nilFunc]:=ID rfl
theorem ba2{K:TI→Prop}:@tyW Tryz.prog 225 ⟨K⟩=K Vy:=qg bd0
theorem azc:Vy.kd=Kd.oth:=ID rfl
theorem apb:Vy.kd.agg=false:=ID rfl
theorem aiZ:Vy.size=1:=ID rfl
theorem acP:Vy.bytes=8:=ID rfl
theorem aza:qv Vy=True:=eq_true rfl
theorem azb:zc Vy=[.v Value.nilFunc]:=ID rfl
theorem ba1{K:TI→Prop}:@tyW Tryz.prog 226 ⟨K⟩=K Vx:=qg bdZ
theorem ay9:Vx.kd=Kd.oth:=ID rfl
theorem apa:Vx.kd.agg=false:=ID rfl
theorem aiY:Vx.size=1:=ID rfl
theorem acO:Vx.bytes=8:=ID rfl
theorem ay7:qv Vx=True:=eq_true rfl
theorem ay8:zc Vx=[.v Value.nilFunc]:=ID rfl
theorem ba0{K:TI→Prop}:@tyW Tryz.prog 227 ⟨K⟩=K Vw:=qg bdY
theorem ay6:Vw.kd=Kd.oth:=ID rfl
theorem ao9:Vw.kd.agg=false:=ID rfl
theorem aiX:Vw.size=1:=ID rfl
theorem acN:Vw.bytes=8:=ID rfl
theorem ay4:qv Vw=True:=eq_true rfl
theorem ay5:zc Vw=[.v Value.nilFunc]:=ID rfl
theorem baZ{K:TI→Prop}:@tyW Tryz.prog 228 ⟨K⟩=K Vv:=qg bdX
theorem ay3:Vv.kd=Kd.oth:=ID rfl
theorem ao8:Vv.kd.agg=false:=ID rfl
theorem aiW:Vv.size=1:=ID rfl
theorem acM:Vv.bytes=8:=ID rfl
theorem ay1:qv Vv=True:=eq_true rfl
theorem ay2:zc Vv=[.v Value.nilFunc]:=ID rfl
theorem baY{K:TI→Prop}:@tyW Tryz.prog 229 ⟨K⟩=K Vu:=qg bdW
theorem ay0:Vu.kd=Kd.oth:=ID rfl
theorem ao7:Vu.kd.agg=false:=ID rfl
theorem aiV:Vu.size=1:=ID rfl
theorem acL:Vu.bytes=8:=ID rfl
theorem ayY:qv Vu=True:=eq_true rfl
theorem ayZ:zc Vu=[.v Value.nilFunc]:=ID rfl
theorem baX{K:TI→Prop}:@tyW Tryz.prog 230 ⟨K⟩=K Vt:=qg bdV
theorem ayW:Vt.kd=Kd.oth:=ID rfl
theorem ao5:Vt.kd.agg=false:=ID rfl
theorem aiT:Vt.size=1:=ID rfl
theorem acK:Vt.bytes=8:=ID rfl
theorem ayU:qv Vt=True:=eq_true rfl
theorem ayV:zc Vt=[.v Value.nilFunc]:=ID rfl
theorem baW{K:TI→Prop}:@tyW Tryz.prog 231 ⟨K⟩=K Vs:=qg bdU
theorem ayT:Vs.kd=Kd.oth:=ID rfl
theorem ao4:Vs.kd.agg=false:=ID rfl
theorem aiS:Vs.size=1:=ID rfl
theorem acJ:Vs.bytes=8:=ID rfl
theorem ayR:qv Vs=True:=eq_true rfl
theorem ayS:zc Vs=[.v Value.nilFunc]:=ID rfl
theorem baV{K:TI→Prop}:@tyW Tryz.prog 233 ⟨K⟩=K Vr:=qg bdT
theorem ayQ:Vr.kd=Kd.oth:=ID rfl
theorem ao3:Vr.kd.agg=false:=ID rfl
theorem aiR:Vr.size=1:=ID rfl
theorem acI:Vr.bytes=8:=ID rfl
theorem ayO:qv Vr=True:=eq_true rfl
theorem ayP:zc Vr=[.v Value.nilFunc]:=ID rfl
theorem baU{K:TI→Prop}:@tyW Tryz.prog 234 ⟨K⟩=K Vq:=qg bdS
theorem ayN:Vq.kd=Kd.oth:=ID rfl
theorem ao2:Vq.kd.agg=false:=ID rfl
theorem aiQ:Vq.size=1:=ID rfl
theorem acH:Vq.bytes=8:=ID rfl
theorem ayL:qv Vq=True:=eq_true rfl
theorem ayM:zc Vq=[.v Value.nilFunc]:=ID rfl
theorem baT{K:TI→Prop}:@tyW Tryz.prog 235 ⟨K⟩=K Vp:=qg bdR
theorem ayK:Vp.kd=Kd.oth:=ID rfl
theorem ao1:Vp.kd.agg=false:=ID rfl
theorem aiP:Vp.size=1:=ID rfl
theorem acG:Vp.bytes=8:=ID rfl
theorem ayI:qv Vp=True:=eq_true rfl
theorem ayJ:zc Vp=[.v Value.nilFunc]:=ID rfl
theorem baS{K:TI→Prop}:@tyW Tryz.prog 236 ⟨K⟩=K Vo:=qg bdQ
theorem ayH:Vo.kd=Kd.oth:=ID rfl
theorem ao0:Vo.kd.agg=false:=ID rfl
theorem aiO:Vo.size=1:=ID rfl
theorem acF:Vo.bytes=8:=ID rfl
theorem ayF:qv Vo=True:=eq_true rfl
theorem ayG:zc Vo=[.v Value.nilFunc]:=ID rfl
theorem baR{K:TI→Prop}:@tyW Tryz.prog 237 ⟨K⟩=K Vn:=qg bdP
theorem ayE:Vn.kd=Kd.oth:=ID rfl
theorem aoZ:Vn.kd.agg=false:=ID rfl
theorem aiN:Vn.size=1:=ID rfl
theorem acE:Vn.bytes=8:=ID rfl
theorem ayC:qv Vn=True:=eq_true rfl
theorem ayD:zc Vn=[.v Value.nilFunc]:=ID rfl
theorem baQ{K:TI→Prop}:@tyW Tryz.prog 238 ⟨K⟩=K Vm:=qg bdO
theorem ayB:Vm.kd=Kd.oth:=ID rfl
theorem aoY:Vm.kd.agg=false:=ID rfl
theorem aiM:Vm.size=1:=ID rfl
theorem acD:Vm.bytes=8:=ID rfl
theorem ayz:qv Vm=True:=eq_true rfl
theorem ayA:zc Vm=[.v Value.nilFunc]:=ID rfl
theorem baP{K:TI→Prop}:@tyW Tryz.prog 239 ⟨K⟩=K Vl:=qg bdN
theorem ayy:Vl.kd=Kd.oth:=ID rfl
theorem aoX:Vl.kd.agg=false:=ID rfl
theorem aiL:Vl.size=1:=ID rfl
theorem acC:Vl.bytes=8:=ID rfl
theorem ayw:qv Vl=True:=eq_true rfl
theorem ayx:zc Vl=[.v Value.nilFunc]:=ID rfl
theorem baO{K:TI→Prop}:@tyW Tryz.prog 240 ⟨K⟩=K Vk:=qg bdM
theorem ayu:Vk.kd=Kd.oth:=ID rfl
theorem aoU:Vk.kd.agg=false:=ID rfl
theorem aiJ:Vk.size=1:=ID rfl
theorem acB:Vk.bytes=8:=ID rfl
theorem ays:qv Vk=True:=eq_true rfl
theorem ayt:zc Vk=[.v Value.nilFunc]:=ID rfl
theorem baN{K:TI→Prop}:@tyW Tryz.prog 241 ⟨K⟩=K Vj:=qg bdL
theorem ayr:Vj.kd=Kd.oth:=ID rfl
theorem aoT:Vj.kd.agg=false:=ID rfl
theorem aiI:Vj.size=1:=ID rfl
theorem acA:Vj.bytes=8:=ID rfl
theorem ayp:qv Vj=True:=eq_true rfl
theorem ayq:zc Vj=[.v Value.nilFunc]:=ID rfl
theorem baM{K:TI→Prop}:@tyW Tryz.prog 242 ⟨K⟩=K Vi:=qg bdK
theorem ayo:Vi.kd=Kd.oth:=ID rfl
theorem aoS:Vi.kd.agg=false:=ID rfl
theorem aiH:Vi.size=1:=ID rfl
theorem acz:Vi.bytes=8:=ID rfl
theorem aym:qv Vi=True:=eq_true rfl
theorem ayn:zc Vi=[.v Value.nilFunc]:=ID rfl
theorem baL{K:TI→Prop}:@tyW Tryz.prog 243 ⟨K⟩=K Vh:=qg bdJ
theorem ayl:Vh.kd=Kd.oth:=ID rfl
theorem aoR:Vh.kd.agg=false:=ID rfl
theorem aiG:Vh.size=1:=ID rfl
theorem acy:Vh.bytes=8:=ID rfl
theorem ayj:qv Vh=True:=eq_true rfl
theorem ayk:zc Vh=[.v Value.nilFunc]:=ID rfl
theorem baK{K:TI→Prop}:@tyW Tryz.prog 244 ⟨K⟩=K Vg:=qg bdI
theorem ayi:Vg.kd=Kd.oth:=ID rfl
theorem aoQ:Vg.kd.agg=false:=ID rfl
theorem aiF:Vg.size=1:=ID rfl
theorem acx:Vg.bytes=8:=ID rfl
theorem ayg:qv Vg=True:=eq_true rfl
theorem ayh:zc Vg=[.v Value.nilFunc]:=ID rfl
theorem baJ{K:TI→Prop}:@tyW Tryz.prog 245 ⟨K⟩=K Vf:=qg bdH
theorem ayf:Vf.kd=Kd.oth:=ID rfl
theorem aoP:Vf.kd.agg=false:=ID rfl
theorem aiE:Vf.size=1:=ID rfl
theorem acw:Vf.bytes=8:=ID rfl
theorem ayd:qv Vf=True:=eq_true rfl
theorem aye:zc Vf=[.v Value.nilFunc]:=ID rfl
theorem baI{K:TI→Prop}:@tyW Tryz.prog 246 ⟨K⟩=K Ve:=qg bdG
theorem ayc:Ve.kd=Kd.oth:=ID rfl
theorem aoO:Ve.kd.agg=false:=ID rfl
theorem aiD:Ve.size=1:=ID rfl
theorem acv:Ve.bytes=8:=ID rfl
theorem aya:qv Ve=True:=eq_true rfl
theorem ayb:zc Ve=[.v Value.nilFunc]:=ID rfl
theorem baH{K:TI→Prop}:@tyW Tryz.prog 247 ⟨K⟩=K Vd:=qg bdF
theorem ax9:Vd.kd=Kd.oth:=ID rfl
theorem aoN:Vd.kd.agg=false:=ID rfl
theorem aiC:Vd.size=1:=ID rfl
theorem acu:Vd.bytes=8:=ID rfl
theorem ax7:qv Vd=True:=eq_true rfl
theorem ax8:zc Vd=[.v Value.nilFunc]:=ID rfl
theorem baG{K:TI→Prop}:@tyW Tryz.prog 248 ⟨K⟩=K Vc:=qg bdE
theorem ax6:Vc.kd=Kd.oth:=ID rfl
theorem aoM:Vc.kd.agg=false:=ID rfl
theorem aiB:Vc.size=1:=ID rfl
theorem act:Vc.bytes=8:=ID rfl
theorem ax4:qv Vc=True:=eq_true rfl
theorem ax5:zc Vc=[.v Value.nilFunc]:=ID rfl
theorem baF{K:TI→Prop}:@tyW Tryz.prog 250 ⟨K⟩=K Vb:=qg bdD
theorem ax2:Vb.kd=Kd.oth:=ID rfl
theorem aoJ:Vb.kd.agg=false:=ID rfl
theorem aiz:Vb.size=1:=ID rfl
theorem acs:Vb.bytes=8:=ID rfl
theorem ax0:qv Vb=True:=eq_true rfl
theorem ax1:zc Vb=[.v Value.nilFunc]:=ID rfl
theorem baE{K:TI→Prop}:@tyW Tryz.prog 252 ⟨K⟩=K Va:=qg bdC
theorem axZ:Va.kd=Kd.oth:=ID rfl
theorem aoI:Va.kd.agg=false:=ID rfl
theorem aiy:Va.size=1:=ID rfl
theorem acr:Va.bytes=8:=ID rfl
theorem axX:qv Va=True:=eq_true rfl
theorem axY:zc Va=[.v Value.nilFunc]:=ID rfl
theorem baD{K:TI→Prop}:@tyW Tryz.prog 253 ⟨K⟩=K X9:=qg bdB
theorem axW:X9.kd=Kd.oth:=ID rfl
theorem aoH:X9.kd.agg=false:=ID rfl
theorem aix:X9.size=1:=ID rfl
theorem acq:X9.bytes=8:=ID rfl
theorem axU:qv X9=True:=eq_true rfl
theorem axV:zc X9=[.v Value.nilFunc]:=ID rfl
theorem baC{K:TI→Prop}:@tyW Tryz.prog 254 ⟨K⟩=K X8:=qg bdA
theorem axT:X8.kd=Kd.oth:=ID rfl
theorem aoG:X8.kd.agg=false:=ID rfl
theorem aiw:X8.size=1:=ID rfl
theorem acp:X8.bytes=8:=ID rfl
theorem axR:qv X8=True:=eq_true rfl
theorem axS:zc X8=[.v Value.nilFunc]:=ID rfl
theorem baB{K:TI→Prop}:@tyW Tryz.prog 255 ⟨K⟩=K X7:=qg bdz
theorem axQ:X7.kd=Kd.oth:=ID rfl
theorem aoF:X7.kd.agg=false:=ID rfl
theorem aiv:X7.size=1:=ID rfl
theorem aco:X7.bytes=8:=ID rfl
theorem axO:qv X7=True:=eq_true rfl
theorem axP:zc X7=[.v Value.nilFunc]:=ID rfl
theorem baA{K:TI→Prop}:@tyW Tryz.prog 256 ⟨K⟩=K X6:=qg bdy
theorem axN:X6.kd=Kd.oth:=ID rfl
theorem aoE:X6.kd.agg=false:=ID rfl
theorem aiu:X6.size=1:=ID rfl
theorem acn:X6.bytes=8:=ID rfl
theorem axL:qv X6=True:=eq_true rfl
theorem axM:zc X6=[.v Value.nilFunc]:=ID rfl
theorem baz{K:TI→Prop}:@tyW Tryz.prog 257 ⟨K⟩=K X5:=qg bdx
theorem axK:X5.kd=Kd.oth:=ID rfl
theorem aoD:X5.kd.agg=false:=ID rfl
theorem ait:X5.size=1:=ID rfl
theorem acm:X5.bytes=8:=ID rfl
theorem axI:qv X5=True:=eq_true rfl
theorem axJ:zc X5=[.v Value.nilFunc]:=ID rfl
theorem bay{K:TI→Prop}:@tyW Tryz.prog 258 ⟨K⟩=K X4:=qg bdw
theorem axH:X4.kd=Kd.oth:=ID rfl
theorem aoC:X4.kd.agg=false:=ID rfl
theorem ais:X4.size=1:=ID rfl
theorem acl:X4.bytes=8:=ID rfl
theorem axF:qv X4=True:=eq_true rfl
theorem axG:zc X4=[.v Value.nilFunc]:=ID rfl
theorem bax{K:TI→Prop}:@tyW Tryz.prog 259 ⟨K⟩=K X3:=qg bdv
theorem axE:X3.kd=Kd.oth:=ID rfl
theorem aoB:X3.kd.agg=false:=ID rfl
theorem air:X3.size=1:=ID rfl
theorem ack:X3.bytes=8:=ID rfl
theorem axC:qv X3=True:=eq_true rfl
theorem axD:zc X3=[.v Value.nilFunc]:=ID rfl
theorem baw{K:TI→Prop}:@tyW Tryz.prog 260 ⟨K⟩=K X1:=qg bdu
theorem axA:X1.kd=Kd.oth:=ID rfl
theorem aoz:X1.kd.agg=false:=ID rfl
theorem aip:X1.size=1:=ID rfl
theorem acj:X1.bytes=8:=ID rfl
theorem axy:qv X1=True:=eq_true rfl
theorem axz:zc X1=[.v Value.nilFunc]:=ID rfl
theorem bav{K:TI→Prop}:@tyW Tryz.prog 261 ⟨K⟩=K XZ:=qg bdt
theorem axx:XZ.kd=Kd.oth:=ID rfl
theorem aoy:XZ.kd.agg=false:=ID rfl
theorem aio:XZ.size=1:=ID rfl
theorem aci:XZ.bytes=8:=ID rfl
theorem axv:qv XZ=True:=eq_true rfl
theorem axw:zc XZ=[.v Value.nilFunc]:=ID rfl
theorem bau{K:TI→Prop}:@tyW Tryz.prog 262 ⟨K⟩=K XY:=qg bds
theorem axu:XY.kd=Kd.oth:=ID rfl
theorem aox:XY.kd.agg=false:=ID rfl
theorem ain:XY.size=1:=ID rfl
theorem ach:XY.bytes=8:=ID rfl
theorem axs:qv XY=True:=eq_true rfl
theorem axt:zc XY=[.v Value.nilFunc]:=ID rfl
theorem bat{K:TI→Prop}:@tyW Tryz.prog 263 ⟨K⟩=K XX:=qg bdr
theorem axr:XX.kd=Kd.oth:=ID rfl
theorem aow:XX.kd.agg=false:=ID rfl
theorem aim:XX.size=1:=ID rfl
theorem acg:XX.bytes=8:=ID rfl
theorem axp:qv XX=True:=eq_true rfl
theorem axq:zc XX=[.v Value.nilFunc]:=ID rfl
theorem bas{K:TI→Prop}:@tyW Tryz.prog 264 ⟨K⟩=K XW:=qg bdq
theorem axo:XW.kd=Kd.int IntKind.u64:=ID rfl
theorem aov:XW.kd.agg=false:=ID rfl
theorem ail:XW.size=1:=ID rfl
theorem acf:XW.bytes=8:=ID rfl
theorem axm:qv XW=True:=eq_true rfl
theorem axn:zc XW=[.v (Value.int IntKind.u64 0)]:=ID rfl
theorem bar{K:TI→Prop}:@tyW Tryz.prog 265 ⟨K⟩=K XV:=qg bdp
theorem axl:XV.kd=Kd.oth:=ID rfl
theorem aou:XV.kd.agg=false:=ID rfl
theorem aik:XV.size=1:=ID rfl
theorem ace:XV.bytes=8:=ID rfl
theorem axj:qv XV=True:=eq_true rfl
theorem axk:zc XV=[.v Value.nilFunc]:=ID rfl
theorem baq{K:TI→Prop}:@tyW Tryz.prog 266 ⟨K⟩=K XU:=qg bdo
theorem axi:XU.kd=Kd.oth:=ID rfl
theorem aot:XU.kd.agg=false:=ID rfl
theorem aij:XU.size=1:=ID rfl
theorem acd:XU.bytes=8:=ID rfl
theorem axg:qv XU=True:=eq_true rfl
theorem axh:zc XU=[.v Value.nilFunc]:=ID rfl
theorem bap{K:TI→Prop}:@tyW Tryz.prog 267 ⟨K⟩=K XT:=qg bdn
theorem axf:XT.kd=Kd.oth:=ID rfl
theorem aos:XT.kd.agg=false:=ID rfl
theorem aii:XT.size=1:=ID rfl
theorem acb:XT.bytes=8:=ID rfl
theorem axd:qv XT=True:=eq_true rfl
theorem axe:zc XT=[.v Value.nilFunc]:=ID rfl
theorem bao{K:TI→Prop}:@tyW Tryz.prog 269 ⟨K⟩=K XS:=qg bdm
theorem axc:XS.kd=Kd.oth:=ID rfl
theorem aor:XS.kd.agg=false:=ID rfl
theorem aih:XS.size=1:=ID rfl
theorem aca:XS.bytes=8:=ID rfl
theorem axa:qv XS=True:=eq_true rfl
theorem axb:zc XS=[.v Value.nilFunc]:=ID rfl
theorem ban{K:TI→Prop}:@tyW Tryz.prog 271 ⟨K⟩=K XR:=qg bdl
theorem aw9:XR.kd=Kd.oth:=ID rfl
theorem aoq:XR.kd.agg=false:=ID rfl
theorem aig:XR.size=1:=ID rfl
theorem ab9:XR.bytes=8:=ID rfl
theorem aw7:qv XR=True:=eq_true rfl
theorem aw8:zc XR=[.v Value.nilFunc]:=ID rfl
theorem bam{K:TI→Prop}:@tyW Tryz.prog 273 ⟨K⟩=K XQ:=qg bdk
theorem aw6:XQ.kd=Kd.oth:=ID rfl
theorem aop:XQ.kd.agg=false:=ID rfl
theorem aif:XQ.size=1:=ID rfl
theorem ab8:XQ.bytes=8:=ID rfl
theorem aw4:qv XQ=True:=eq_true rfl
theorem aw5:zc XQ=[.v Value.nilFunc]:=ID rfl
theorem bal{K:TI→Prop}:@tyW Tryz.prog 274 ⟨K⟩=K XP:=qg bdj
theorem aw3:XP.kd=Kd.oth:=ID rfl
theorem aoo:XP.kd.agg=false:=ID rfl
theorem aie:XP.size=1:=ID rfl
theorem ab7:XP.bytes=8:=ID rfl
theorem aw1:qv XP=True:=eq_true rfl
theorem aw2:zc XP=[.v Value.nilFunc]:=ID rfl
theorem bak{K:TI→Prop}:@tyW Tryz.prog 275 ⟨K⟩=K XO:=qg bdi
theorem aw0:XO.kd=Kd.int IntKind.u32:=ID rfl
theorem aon:XO.kd.agg=false:=ID rfl
theorem aid:XO.size=1:=ID rfl
theorem ab6:XO.bytes=4:=ID rfl
theorem awY:qv XO=True:=eq_true rfl
theorem awZ:zc XO=[.v (Value.int IntKind.u32 0)]:=ID rfl
theorem baj{K:TI→Prop}:@tyW Tryz.prog 276 ⟨K⟩=K XN:=qg bdh
theorem awX:XN.kd=Kd.oth:=ID rfl
theorem aom:XN.kd.agg=false:=ID rfl
theorem aic:XN.size=1:=ID rfl
theorem ab5:XN.bytes=8:=ID rfl
theorem awU:qv XN=True:=eq_true rfl
theorem awW:zc XN=[.v Value.nilFunc]:=ID rfl
theorem bai{K:TI→Prop}:@tyW Tryz.prog 277 ⟨K⟩=K XM:=qg bdg
theorem awT:XM.kd=Kd.int IntKind.u64:=ID rfl
theorem aol:XM.kd.agg=false:=ID rfl
theorem aib:XM.size=1:=ID rfl
theorem ab4:XM.bytes=8:=ID rfl
theorem awR:qv XM=True:=eq_true rfl
theorem awS:zc XM=[.v (Value.int IntKind.u64 0)]:=ID rfl
theorem bah{K:TI→Prop}:@tyW Tryz.prog 278 ⟨K⟩=K XL:=qg bdf
theorem awQ:XL.kd=Kd.oth:=ID rfl
theorem aok:XL.kd.agg=false:=ID rfl
theorem aia:XL.size=1:=ID rfl
theorem ab3:XL.bytes=8:=ID rfl
theorem awO:qv XL=True:=eq_true rfl
theorem awP:zc XL=[.v Value.nilFunc]:=ID rfl
theorem bag{K:TI→Prop}:@tyW Tryz.prog 279 ⟨K⟩=K XK:=qg bde
theorem awN:XK.kd=Kd.oth:=ID rfl
theorem aoj:XK.kd.agg=false:=ID rfl
theorem ah9:XK.size=1:=ID rfl
theorem ab2:XK.bytes=8:=ID rfl
theorem awL:qv XK=True:=eq_true rfl
theorem awM:zc XK=[.v Value.nilFunc]:=ID rfl
theorem baf{K:TI→Prop}:@tyW Tryz.prog 281 ⟨K⟩=K XJ:=qg bdd
theorem awJ:XJ.kd=Kd.oth:=ID rfl
theorem aoh:XJ.kd.agg=false:=ID rfl
theorem ah7:XJ.size=1:=ID rfl
theorem ab1:XJ.bytes=8:=ID rfl
theorem awH:qv XJ=True:=eq_true rfl
theorem awI:zc XJ=[.v Value.nilFunc]:=ID rfl
theorem bae{K:TI→Prop}:@tyW Tryz.prog 282 ⟨K⟩=K XI:=qg bdc
theorem awG:XI.kd=Kd.oth:=ID rfl
theorem aog:XI.kd.agg=false:=ID rfl
theorem ah6:XI.size=1:=ID rfl
theorem ab0:XI.bytes=8:=ID rfl
theorem awE:qv XI=True:=eq_true rfl
theorem awF:zc XI=[.v Value.nilFunc]:=ID rfl
theorem bac{K:TI→Prop}:@tyW Tryz.prog 283 ⟨K⟩=K XH:=qg bdb
theorem awD:XH.kd=Kd.oth:=ID rfl
theorem aof:XH.kd.agg=false:=ID rfl
theorem ah5:XH.size=1:=ID rfl
theorem abZ:XH.bytes=8:=ID rfl
theorem awB:qv XH=True:=eq_true rfl
theorem awC:zc XH=[.v Value.nilFunc]:=ID rfl
theorem bab{K:TI→Prop}:@tyW Tryz.prog 287 ⟨K⟩=K XG:=qg bda
theorem awA:XG.kd=Kd.oth:=ID rfl
theorem aoe:XG.kd.agg=false:=ID rfl
theorem ah4:XG.size=1:=ID rfl
theorem abY:XG.bytes=8:=ID rfl
theorem awy:qv XG=True:=eq_true rfl
theorem awz:zc XG=[.v Value.nilFunc]:=ID rfl
theorem baa{K:TI→Prop}:@tyW Tryz.prog 288 ⟨K⟩=K XF:=qg bc9
theorem awx:XF.kd=Kd.oth:=ID rfl
theorem aod:XF.kd.agg=false:=ID rfl
theorem ah3:XF.size=1:=ID rfl
theorem abX:XF.bytes=8:=ID rfl
theorem awv:qv XF=True:=eq_true rfl
theorem aww:zc XF=[.v Value.nilFunc]:=ID rfl
theorem aZ9{K:TI→Prop}:@tyW Tryz.prog 289 ⟨K⟩=K XE:=qg bc8
theorem awu:XE.kd=Kd.oth:=ID rfl
theorem aoc:XE.kd.agg=false:=ID rfl
theorem ah2:XE.size=1:=ID rfl
theorem abW:XE.bytes=8:=ID rfl
theorem aws:qv XE=True:=eq_true rfl
theorem awt:zc XE=[.v Value.nilFunc]:=ID rfl
theorem aZ8{K:TI→Prop}:@tyW Tryz.prog 290 ⟨K⟩=K XD:=qg bc7
theorem awq:XD.kd=Kd.oth:=ID rfl
theorem an9:XD.kd.agg=false:=ID rfl
theorem ah0:XD.size=1:=ID rfl
theorem abV:XD.bytes=8:=ID rfl
theorem awn:qv XD=True:=eq_true rfl
theorem awo:zc XD=[.v Value.nilFunc]:=ID rfl
theorem aZ7{K:TI→Prop}:@tyW Tryz.prog 291 ⟨K⟩=K XB:=qg bc6
theorem awm:XB.kd=Kd.oth:=ID rfl
theorem an8:XB.kd.agg=false:=ID rfl
theorem ahZ:XB.size=1:=ID rfl
theorem abU:XB.bytes=8:=ID rfl
theorem awk:qv XB=True:=eq_true rfl
theorem awl:zc XB=[.v Value.nilFunc]:=ID rfl
theorem aZ6{K:TI→Prop}:@tyW Tryz.prog 295 ⟨K⟩=K XA:=qg bc5
theorem awj:XA.kd=Kd.stru [(0,294)]:=ID rfl
theorem an7:XA.kd.agg=true:=ID rfl
theorem ahY:XA.size=0:=ID rfl
theorem abT:XA.bytes=0:=ID rfl
theorem awh:qv XA=True:=eq_true rfl
theorem awi:zc XA=[]:=ID rfl
theorem aZ5{K:TI→Prop}:@tyW Tryz.prog 296 ⟨K⟩=K Xz:=qg bc4
theorem awg:Xz.kd=Kd.stru [(0,294)]:=ID rfl
theorem an6:Xz.kd.agg=true:=ID rfl
theorem ahX:Xz.size=0:=ID rfl
theorem abS:Xz.bytes=0:=ID rfl
theorem awe:qv Xz=True:=eq_true rfl
theorem awf:zc Xz=[]:=ID rfl
theorem aZ4{K:TI→Prop}:@tyW Tryz.prog 297 ⟨K⟩=K Xy:=qg bc3
theorem awd:Xy.kd=Kd.int IntKind.u8:=ID rfl
theorem an5:Xy.kd.agg=false:=ID rfl
theorem ahW:Xy.size=1:=ID rfl
theorem abR:Xy.bytes=1:=ID rfl
theorem awb:qv Xy=True:=eq_true rfl
theorem awc:zc Xy=[.v (Value.int IntKind.u8 0)]:=ID rfl
theorem aZ3{K:TI→Prop}:@tyW Tryz.prog 298 ⟨K⟩=K Xx:=qg bc2
theorem awa:Xx.kd=Kd.int IntKind.u8:=ID rfl
theorem an4:Xx.kd.agg=false:=ID rfl
theorem ahV:Xx.size=1:=ID rfl
theorem abQ:Xx.bytes=1:=ID rfl
theorem av8:qv Xx=True:=eq_true rfl
theorem av9:zc Xx=[.v (Value.int IntKind.u8 0)]:=ID rfl
theorem aZ2{K:TI→Prop}:@tyW Tryz.prog 299 ⟨K⟩=K Xw:=qg bc1
theorem av7:Xw.kd=Kd.oth:=ID rfl
theorem an3:Xw.kd.agg=false:=ID rfl
theorem ahU:Xw.size=1:=ID rfl
theorem abP:Xw.bytes=8:=ID rfl
theorem av5:qv Xw=True:=eq_true rfl
theorem av6:zc Xw=[.v Value.nilFunc]:=ID rfl
theorem aZ1{K:TI→Prop}:@tyW Tryz.prog 301 ⟨K⟩=K Xv:=qg bc0
theorem av2:Xv.kd=Kd.int IntKind.i32:=ID rfl
theorem anZ:Xv.kd.agg=false:=ID rfl
theorem ahS:Xv.size=1:=ID rfl
theorem abO:Xv.bytes=4:=ID rfl
theorem av0:qv Xv=True:=eq_true rfl
theorem av1:zc Xv=[.v (Value.int IntKind.i32 0)]:=ID rfl
theorem aZ0{K:TI→Prop}:@tyW Tryz.prog 302 ⟨K⟩=K Xu:=qg bcZ
theorem avZ:Xu.kd=Kd.int IntKind.i32:=ID rfl
theorem anY:Xu.kd.agg=false:=ID rfl
theorem ahR:Xu.size=1:=ID rfl
theorem abN:Xu.bytes=4:=ID rfl
theorem avX:qv Xu=True:=eq_true rfl
theorem avY:zc Xu=[.v (Value.int IntKind.i32 0)]:=ID rfl
theorem aZZ{K:TI→Prop}:@tyW Tryz.prog 305 ⟨K⟩=K Xt:=qg bcY
theorem avW:Xt.kd=Kd.oth:=ID rfl
theorem anX:Xt.kd.agg=false:=ID rfl
theorem ahQ:Xt.size=1:=ID rfl
theorem abM:Xt.bytes=8:=ID rfl
theorem avU:qv Xt=True:=eq_true rfl
theorem avV:zc Xt=[.v Value.nilFunc]:=ID rfl
theorem aZY{K:TI→Prop}:@tyW Tryz.prog 306 ⟨K⟩=K Xs:=qg bcX
theorem avT:Xs.kd=Kd.oth:=ID rfl
theorem anW:Xs.kd.agg=false:=ID rfl
theorem ahP:Xs.size=1:=ID rfl
theorem abL:Xs.bytes=8:=ID rfl
theorem avR:qv Xs=True:=eq_true rfl
theorem avS:zc Xs=[.v Value.nilFunc]:=ID rfl
theorem blo:qp Tryz.prog 2=True:=eq_true ⟨_,Tryz.func2,of_decide_eq_false (by kernel_rfl),rfl⟩
theorem bln:qp Tryz.prog 3=True:=eq_true ⟨_,Tryz.func3,of_decide_eq_false (by kernel_rfl),rfl⟩
theorem blm:qp Tryz.prog 4=True:=eq_true ⟨_,Tryz.func4,of_decide_eq_false (by kernel_rfl),rfl⟩
theorem bll:qp Tryz.prog 5=True:=eq_true ⟨_,Tryz.func5,of_decide_eq_false (by kernel_rfl),rfl⟩
theorem blk:qp Tryz.prog 6=True:=eq_true ⟨_,Tryz.func6,of_decide_eq_false (by kernel_rfl),rfl⟩
theorem blj:qp Tryz.prog 7=True:=eq_true ⟨_,Tryz.func7,of_decide_eq_false (by kernel_rfl),rfl⟩
theorem bli:qp Tryz.prog 8=True:=eq_true ⟨_,Tryz.func8,of_decide_eq_false (by kernel_rfl),rfl⟩
theorem blh:qp Tryz.prog 9=True:=eq_true ⟨_,Tryz.func9,of_decide_eq_false (by kernel_rfl),rfl⟩
theorem bhU:qp Tryz.prog 10=True:=eq_true ⟨_,Tryz.func10,of_decide_eq_false (by kernel_rfl),rfl⟩
theorem bhT:qp Tryz.prog 11=True:=eq_true ⟨_,Tryz.func11,of_decide_eq_false (by kernel_rfl),rfl⟩
theorem bhS:qp Tryz.prog 12=True:=eq_true ⟨_,Tryz.func12,of_decide_eq_false (by kernel_rfl),rfl⟩
theorem bhR:qp Tryz.prog 13=True:=eq_true ⟨_,Tryz.func13,of_decide_eq_false (by kernel_rfl),rfl⟩
theorem bhQ:qp Tryz.prog 14=True:=eq_true ⟨_,Tryz.func14,of_decide_eq_false (by kernel_rfl),rfl⟩
theorem bhP:qp Tryz.prog 15=True:=eq_true ⟨_,Tryz.func15,of_decide_eq_false (by kernel_rfl),rfl⟩
theorem bhO:qp Tryz.prog 16=True:=eq_true ⟨_,Tryz.func16,of_decide_eq_false (by kernel_rfl),rfl⟩
theorem bhN:qp Tryz.prog 17=True:=eq_true ⟨_,Tryz.func17,of_decide_eq_false (by kernel_rfl),rfl⟩
theorem bhM:qp Tryz.prog 18=True:=eq_true ⟨_,Tryz.func18,of_decide_eq_false (by kernel_rfl),rfl⟩
theorem bhL:qp Tryz.prog 19=True:=eq_true ⟨_,Tryz.func19,of_decide_eq_false (by kernel_rfl),rfl⟩
theorem bhK:qp Tryz.prog 20=True:=eq_true ⟨_,Tryz.func20,of_decide_eq_false (by kernel_rfl),rfl⟩
theorem bhJ:qp Tryz.prog 21=True:=eq_true ⟨_,Tryz.func21,of_decide_eq_false (by kernel_rfl),rfl⟩
theorem bhI:qp Tryz.prog 22=True:=eq_true ⟨_,Tryz.func22,of_decide_eq_false (by kernel_rfl),rfl⟩
theorem bhH:qp Tryz.prog 23=True:=eq_true ⟨_,Tryz.func23,of_decide_eq_false (by kernel_rfl),rfl⟩
theorem bhG:qp Tryz.prog 24=True:=eq_true ⟨_,Tryz.func24,of_decide_eq_false (by kernel_rfl),rfl⟩
theorem bhF:qp Tryz.prog 25=True:=eq_true ⟨_,Tryz.func25,of_decide_eq_false (by kernel_rfl),rfl⟩
theorem bhE:qp Tryz.prog 26=True:=eq_true ⟨_,Tryz.func26,of_decide_eq_false (by kernel_rfl),rfl⟩
theorem bhD:qp Tryz.prog 27=True:=eq_true ⟨_,Tryz.func27,of_decide_eq_false (by kernel_rfl),rfl⟩
theorem bhC:qp Tryz.prog 28=True:=eq_true ⟨_,Tryz.func28,of_decide_eq_false (by kernel_rfl),rfl⟩
theorem bhB:qp Tryz.prog 29=True:=eq_true ⟨_,Tryz.func29,of_decide_eq_false (by kernel_rfl),rfl⟩
theorem bhA:qp Tryz.prog 30=True:=eq_true ⟨_,Tryz.func30,of_decide_eq_false (by kernel_rfl),rfl⟩
theorem bhz:qp Tryz.prog 31=True:=eq_true ⟨_,Tryz.func31,of_decide_eq_false (by kernel_rfl),rfl⟩
theorem bhy:qp Tryz.prog 32=True:=eq_true ⟨_,Tryz.func32,of_decide_eq_false (by kernel_rfl),rfl⟩
theorem bhx:qp Tryz.prog 33=True:=eq_true ⟨_,Tryz.func33,of_decide_eq_false (by kernel_rfl),rfl⟩
theorem bhw:qp Tryz.prog 34=True:=eq_true ⟨_,Tryz.func34,of_decide_eq_false (by kernel_rfl),rfl⟩
theorem bhv:qp Tryz.prog 35=True:=eq_true ⟨_,Tryz.func35,of_decide_eq_false (by kernel_rfl),rfl⟩
theorem bhu:qp Tryz.prog 36=True:=eq_true ⟨_,Tryz.func36,of_decide_eq_false (by kernel_rfl),rfl⟩
theorem bht:qp Tryz.prog 37=True:=eq_true ⟨_,Tryz.func37,of_decide_eq_false (by kernel_rfl),rfl⟩
theorem bhs:qp Tryz.prog 38=True:=eq_true ⟨_,Tryz.func38,of_decide_eq_false (by kernel_rfl),rfl⟩
theorem bhr:qp Tryz.prog 39=True:=eq_true ⟨_,Tryz.func39,of_decide_eq_false (by kernel_rfl),rfl⟩
theorem bhq:qp Tryz.prog 40=True:=eq_true ⟨_,Tryz.func40,of_decide_eq_false (by kernel_rfl),rfl⟩
theorem bho:qp Tryz.prog 41=True:=eq_true ⟨_,Tryz.func41,of_decide_eq_false (by kernel_rfl),rfl⟩
theorem bhn:qp Tryz.prog 42=True:=eq_true ⟨_,Tryz.func42,of_decide_eq_false (by kernel_rfl),rfl⟩
theorem bhm:qp Tryz.prog 43=True:=eq_true ⟨_,Tryz.func43,of_decide_eq_false (by kernel_rfl),rfl⟩
theorem bhl:qp Tryz.prog 44=True:=eq_true ⟨_,Tryz.func44,of_decide_eq_false (by kernel_rfl),rfl⟩
theorem bhk:qp Tryz.prog 45=True:=eq_true ⟨_,Tryz.func45,of_decide_eq_false (by kernel_rfl),rfl⟩
theorem bhj:qp Tryz.prog 46=True:=eq_true ⟨_,Tryz.func46,of_decide_eq_false (by kernel_rfl),rfl⟩
theorem bhi:qp Tryz.prog 47=True:=eq_true ⟨_,Tryz.func47,of_decide_eq_false (by kernel_rfl),rfl⟩
theorem bhh:qp Tryz.prog 48=True:=eq_true ⟨_,Tryz.func48,of_decide_eq_false (by kernel_rfl),rfl⟩
theorem bhg:qp Tryz.prog 49=True:=eq_true ⟨_,Tryz.func49,of_decide_eq_false (by kernel_rfl),rfl⟩
theorem bhf:qp Tryz.prog 50=True:=eq_true ⟨_,Tryz.func50,of_decide_eq_false (by kernel_rfl),rfl⟩
theorem bhe:qp Tryz.prog 51=True:=eq_true ⟨_,Tryz.func51,of_decide_eq_false (by kernel_rfl),rfl⟩
theorem bhd:qp Tryz.prog 52=True:=eq_true ⟨_,Tryz.func52,of_decide_eq_false (by kernel_rfl),rfl⟩
theorem bhc:qp Tryz.prog 53=True:=eq_true ⟨_,Tryz.func53,of_decide_eq_false (by kernel_rfl),rfl⟩
theorem bhb:qp Tryz.prog 54=True:=eq_true ⟨_,Tryz.func54,of_decide_eq_false (by kernel_rfl),rfl⟩
theorem bha:qp Tryz.prog 55=True:=eq_true ⟨_,Tryz.func55,of_decide_eq_false (by kernel_rfl),rfl⟩
theorem bg9:qp Tryz.prog 56=True:=eq_true ⟨_,Tryz.func56,of_decide_eq_false (by kernel_rfl),rfl⟩
theorem bg8:qp Tryz.prog 57=True:=eq_true ⟨_,Tryz.func57,of_decide_eq_false (by kernel_rfl),rfl⟩
theorem bg7:qp Tryz.prog 58=True:=eq_true ⟨_,Tryz.func58,of_decide_eq_false (by kernel_rfl),rfl⟩
theorem bg6:qp Tryz.prog 59=True:=eq_true ⟨_,Tryz.func59,of_decide_eq_false (by kernel_rfl),rfl⟩
theorem bg5:qp Tryz.prog 60=True:=eq_true ⟨_,Tryz.func60,of_decide_eq_false (by kernel_rfl),rfl⟩
theorem bg4:qp Tryz.prog 61=True:=eq_true ⟨_,Tryz.func61,of_decide_eq_false (by kernel_rfl),rfl⟩
theorem bg3:qp Tryz.prog 62=True:=eq_true ⟨_,Tryz.func62,of_decide_eq_false (by kernel_rfl),rfl⟩
theorem bg2:qp Tryz.prog 63=True:=eq_true ⟨_,Tryz.func63,of_decide_eq_false (by kernel_rfl),rfl⟩
theorem bg1:qp Tryz.prog 64=True:=eq_true ⟨_,Tryz.func64,of_decide_eq_false (by kernel_rfl),rfl⟩
theorem bg0:qp Tryz.prog 65=True:=eq_true ⟨_,Tryz.func65,of_decide_eq_false (by kernel_rfl),rfl⟩
theorem bgZ:qp Tryz.prog 66=True:=eq_true ⟨_,Tryz.func66,of_decide_eq_false (by kernel_rfl),rfl⟩
theorem bgY:qp Tryz.prog 67=True:=eq_true ⟨_,Tryz.func67,of_decide_eq_false (by kernel_rfl),rfl⟩
theorem bgX:qp Tryz.prog 68=True:=eq_true ⟨_,Tryz.func68,of_decide_eq_false (by kernel_rfl),rfl⟩
theorem bgW:qp Tryz.prog 69=True:=eq_true ⟨_,Tryz.func69,of_decide_eq_false (by kernel_rfl),rfl⟩
theorem bgV:qp Tryz.prog 70=True:=eq_true ⟨_,Tryz.func70,of_decide_eq_false (by kernel_rfl),rfl⟩
theorem bgU:qp Tryz.prog 71=True:=eq_true ⟨_,Tryz.func71,of_decide_eq_false (by kernel_rfl),rfl⟩
theorem bgT:qp Tryz.prog 72=True:=eq_true ⟨_,Tryz.func72,of_decide_eq_false (by kernel_rfl),rfl⟩
theorem bgS:qp Tryz.prog 73=True:=eq_true ⟨_,Tryz.func73,of_decide_eq_false (by kernel_rfl),rfl⟩
theorem bgR:qp Tryz.prog 74=True:=eq_true ⟨_,Tryz.func74,of_decide_eq_false (by kernel_rfl),rfl⟩
theorem bgQ:qp Tryz.prog 75=True:=eq_true ⟨_,Tryz.func75,of_decide_eq_false (by kernel_rfl),rfl⟩
theorem bgP:qp Tryz.prog 76=True:=eq_true ⟨_,Tryz.func76,of_decide_eq_false (by kernel_rfl),rfl⟩
theorem bgO:qp Tryz.prog 77=True:=eq_true ⟨_,Tryz.func77,of_decide_eq_false (by kernel_rfl),rfl⟩
theorem bgN:qp Tryz.prog 78=True:=eq_true ⟨_,Tryz.func78,of_decide_eq_false (by kernel_rfl),rfl⟩
theorem bgM:qp Tryz.prog 79=True:=eq_true ⟨_,Tryz.func79,of_decide_eq_false (by kernel_rfl),rfl⟩
theorem bgL:qp Tryz.prog 80=True:=eq_true ⟨_,Tryz.func80,of_decide_eq_false (by kernel_rfl),rfl⟩
theorem bgK:qp Tryz.prog 81=True:=eq_true ⟨_,Tryz.func81,of_decide_eq_false (by kernel_rfl),rfl⟩
theorem bgJ:qp Tryz.prog 82=True:=eq_true ⟨_,Tryz.func82,of_decide_eq_false (by kernel_rfl),rfl⟩
theorem bgI:qp Tryz.prog 83=True:=eq_true ⟨_,Tryz.func83,of_decide_eq_false (by kernel_rfl),rfl⟩
theorem bgH:qp Tryz.prog 84=True:=eq_true ⟨_,Tryz.func84,of_decide_eq_false (by kernel_rfl),rfl⟩
theorem bgG:qp Tryz.prog 85=True:=eq_true ⟨_,Tryz.func85,of_decide_eq_false (by kernel_rfl),rfl⟩
theorem bgF:qp Tryz.prog 86=True:=eq_true ⟨_,Tryz.func86,of_decide_eq_false (by kernel_rfl),rfl⟩
theorem bgE:qp Tryz.prog 87=True:=eq_true ⟨_,Tryz.func87,of_decide_eq_false (by kernel_rfl),rfl⟩
theorem bgD:qp Tryz.prog 88=True:=eq_true ⟨_,Tryz.func88,of_decide_eq_false (by kernel_rfl),rfl⟩
theorem bgC:qp Tryz.prog 89=True:=eq_true ⟨_,Tryz.func89,of_decide_eq_false (by kernel_rfl),rfl⟩
theorem bgB:qp Tryz.prog 90=True:=eq_true ⟨_,Tryz.func90,of_decide_eq_false (by kernel_rfl),rfl⟩
theorem bgA:qp Tryz.prog 91=True:=eq_true ⟨_,Tryz.func91,of_decide_eq_false (by kernel_rfl),rfl⟩
theorem bgz:qp Tryz.prog 92=True:=eq_true ⟨_,Tryz.func92,of_decide_eq_false (by kernel_rfl),rfl⟩
theorem bgy:qp Tryz.prog 93=True:=eq_true ⟨_,Tryz.func93,of_decide_eq_false (by kernel_rfl),rfl⟩
theorem bgx:qp Tryz.prog 94=True:=eq_true ⟨_,Tryz.func94,of_decide_eq_false (by kernel_rfl),rfl⟩
theorem bgw:qp Tryz.prog 95=True:=eq_true ⟨_,Tryz.func95,of_decide_eq_false (by kernel_rfl),rfl⟩
theorem bgv:qp Tryz.prog 96=True:=eq_true ⟨_,Tryz.func96,of_decide_eq_false (by kernel_rfl),rfl⟩
theorem bgu:qp Tryz.prog 97=True:=eq_true ⟨_,Tryz.func97,of_decide_eq_false (by kernel_rfl),rfl⟩
theorem bgt:qp Tryz.prog 98=True:=eq_true ⟨_,Tryz.func98,of_decide_eq_false (by kernel_rfl),rfl⟩
theorem bgs:qp Tryz.prog 99=True:=eq_true ⟨_,Tryz.func99,of_decide_eq_false (by kernel_rfl),rfl⟩
theorem aYs:qp Tryz.prog 100=True:=eq_true ⟨_,Tryz.func100,of_decide_eq_false (by kernel_rfl),rfl⟩
theorem aYr:qp Tryz.prog 101=True:=eq_true ⟨_,Tryz.func101,of_decide_eq_false (by kernel_rfl),rfl⟩
theorem aYq:qp Tryz.prog 102=True:=eq_true ⟨_,Tryz.func102,of_decide_eq_false (by kernel_rfl),rfl⟩
theorem aYp:qp Tryz.prog 103=True:=eq_true ⟨_,Tryz.func103,of_decide_eq_false (by kernel_rfl),rfl⟩
theorem aYo:qp Tryz.prog 104=True:=eq_true ⟨_,Tryz.func104,of_decide_eq_false (by kernel_rfl),rfl⟩
theorem aYn:qp Tryz.prog 105=True:=eq_true ⟨_,Tryz.func105,of_decide_eq_false (by kernel_rfl),rfl⟩
theorem aYm:qp Tryz.prog 106=True:=eq_true ⟨_,Tryz.func106,of_decide_eq_false (by kernel_rfl),rfl⟩
theorem aYl:qp Tryz.prog 107=True:=eq_true ⟨_,Tryz.func107,of_decide_eq_false (by kernel_rfl),rfl⟩
theorem aYk:qp Tryz.prog 108=True:=eq_true ⟨_,Tryz.func108,of_decide_eq_false (by kernel_rfl),rfl⟩
theorem aYj:qp Tryz.prog 109=True:=eq_true ⟨_,Tryz.func109,of_decide_eq_false (by kernel_rfl),rfl⟩
theorem aYi:qp Tryz.prog 110=True:=eq_true ⟨_,Tryz.func110,of_decide_eq_false (by kernel_rfl),rfl⟩
theorem aYh:qp Tryz.prog 111=True:=eq_true ⟨_,Tryz.func111,of_decide_eq_false (by kernel_rfl),rfl⟩
theorem aYg:qp Tryz.prog 112=True:=eq_true ⟨_,Tryz.func112,of_decide_eq_false (by kernel_rfl),rfl⟩
theorem aYf:qp Tryz.prog 113=True:=eq_true ⟨_,Tryz.func113,of_decide_eq_false (by kernel_rfl),rfl⟩
theorem aYe:qp Tryz.prog 114=True:=eq_true ⟨_,Tryz.func114,of_decide_eq_false (by kernel_rfl),rfl⟩
theorem aYd:qp Tryz.prog 115=True:=eq_true ⟨_,Tryz.func115,of_decide_eq_false (by kernel_rfl),rfl⟩
theorem aYc:qp Tryz.prog 116=True:=eq_true ⟨_,Tryz.func116,of_decide_eq_false (by kernel_rfl),rfl⟩
theorem aYb:qp Tryz.prog 117=True:=eq_true ⟨_,Tryz.func117,of_decide_eq_false (by kernel_rfl),rfl⟩
theorem aYa:qp Tryz.prog 118=True:=eq_true ⟨_,Tryz.func118,of_decide_eq_false (by kernel_rfl),rfl⟩
theorem aX9:qp Tryz.prog 119=True:=eq_true ⟨_,Tryz.func119,of_decide_eq_false (by kernel_rfl),rfl⟩
theorem aX8:qp Tryz.prog 120=True:=eq_true ⟨_,Tryz.func120,of_decide_eq_false (by kernel_rfl),rfl⟩
theorem aX7:qp Tryz.prog 121=True:=eq_true ⟨_,Tryz.func121,of_decide_eq_false (by kernel_rfl),rfl⟩
theorem aX6:qp Tryz.prog 122=True:=eq_true ⟨_,Tryz.func122,of_decide_eq_false (by kernel_rfl),rfl⟩
theorem aX5:qp Tryz.prog 123=True:=eq_true ⟨_,Tryz.func123,of_decide_eq_false (by kernel_rfl),rfl⟩
theorem aX4:qp Tryz.prog 124=True:=eq_true ⟨_,Tryz.func124,of_decide_eq_false (by kernel_rfl),rfl⟩
theorem aX3:qp Tryz.prog 125=True:=eq_true ⟨_,Tryz.func125,of_decide_eq_false (by kernel_rfl),rfl⟩
theorem aX2:qp Tryz.prog 126=True:=eq_true ⟨_,Tryz.func126,of_decide_eq_false (by kernel_rfl),rfl⟩
theorem aX1:qp Tryz.prog 127=True:=eq_true ⟨_,Tryz.func127,of_decide_eq_false (by kernel_rfl),rfl⟩
theorem aX0:qp Tryz.prog 128=True:=eq_true ⟨_,Tryz.func128,of_decide_eq_false (by kernel_rfl),rfl⟩
theorem aXZ:qp Tryz.prog 129=True:=eq_true ⟨_,Tryz.func129,of_decide_eq_false (by kernel_rfl),rfl⟩
theorem aXY:qp Tryz.prog 130=True:=eq_true ⟨_,Tryz.func130,of_decide_eq_false (by kernel_rfl),rfl⟩
theorem aXX:qp Tryz.prog 131=True:=eq_true ⟨_,Tryz.func131,of_decide_eq_false (by kernel_rfl),rfl⟩
theorem aXW:qp Tryz.prog 132=True:=eq_true ⟨_,Tryz.func132,of_decide_eq_false (by kernel_rfl),rfl⟩
theorem aXV:qp Tryz.prog 133=True:=eq_true ⟨_,Tryz.func133,of_decide_eq_false (by kernel_rfl),rfl⟩
theorem aXU:qp Tryz.prog 134=True:=eq_true ⟨_,Tryz.func134,of_decide_eq_false (by kernel_rfl),rfl⟩
theorem aXT:qp Tryz.prog 135=True:=eq_true ⟨_,Tryz.func135,of_decide_eq_false (by kernel_rfl),rfl⟩
theorem aXS:qp Tryz.prog 136=True:=eq_true ⟨_,Tryz.func136,of_decide_eq_false (by kernel_rfl),rfl⟩
theorem aXR:qp Tryz.prog 137=True:=eq_true ⟨_,Tryz.func137,of_decide_eq_false (by kernel_rfl),rfl⟩
theorem aXQ:qp Tryz.prog 138=True:=eq_true ⟨_,Tryz.func138,of_decide_eq_false (by kernel_rfl),rfl⟩
theorem aXP:qp Tryz.prog 139=True:=eq_true ⟨_,Tryz.func139,of_decide_eq_false (by kernel_rfl),rfl⟩
theorem aXO:qp Tryz.prog 140=True:=eq_true ⟨_,Tryz.func140,of_decide_eq_false (by kernel_rfl),rfl⟩
theorem aXN:qp Tryz.prog 141=True:=eq_true ⟨_,Tryz.func141,of_decide_eq_false (by kernel_rfl),rfl⟩
theorem aXM:qp Tryz.prog 142=True:=eq_true ⟨_,Tryz.func142,of_decide_eq_false (by kernel_rfl),rfl⟩
theorem aXL:qp Tryz.prog 143=True:=eq_true ⟨_,Tryz.func143,of_decide_eq_false (by kernel_rfl),rfl⟩
theorem aXK:qp Tryz.prog 144=True:=eq_true ⟨_,Tryz.func144,of_decide_eq_false (by kernel_rfl),rfl⟩
theorem aXJ:qp Tryz.prog 145=True:=eq_true ⟨_,Tryz.func145,of_decide_eq_false (by kernel_rfl),rfl⟩
theorem aXI:qp Tryz.prog 146=True:=eq_true ⟨_,Tryz.func146,of_decide_eq_false (by kernel_rfl),rfl⟩
theorem aXH:qp Tryz.prog 147=True:=eq_true ⟨_,Tryz.func147,of_decide_eq_false (by kernel_rfl),rfl⟩
theorem aXG:qp Tryz.prog 148=True:=eq_true ⟨_,Tryz.func148,of_decide_eq_false (by kernel_rfl),rfl⟩
theorem aXF:qp Tryz.prog 149=True:=eq_true ⟨_,Tryz.func149,of_decide_eq_false (by kernel_rfl),rfl⟩
theorem aXE:qp Tryz.prog 150=True:=eq_true ⟨_,Tryz.func150,of_decide_eq_false (by kernel_rfl),rfl⟩
theorem aXD:qp Tryz.prog 151=True:=eq_true ⟨_,Tryz.func151,of_decide_eq_false (by kernel_rfl),rfl⟩
theorem aXC:qp Tryz.prog 152=True:=eq_true ⟨_,Tryz.func152,of_decide_eq_false (by kernel_rfl),rfl⟩
theorem aXB:qp Tryz.prog 153=True:=eq_true ⟨_,Tryz.func153,of_decide_eq_false (by kernel_rfl),rfl⟩
theorem aXA:qp Tryz.prog 154=True:=eq_true ⟨_,Tryz.func154,of_decide_eq_false (by kernel_rfl),rfl⟩
theorem aXz:qp Tryz.prog 155=True:=eq_true ⟨_,Tryz.func155,of_decide_eq_false (by kernel_rfl),rfl⟩
theorem aXy:qp Tryz.prog 156=True:=eq_true ⟨_,Tryz.func156,of_decide_eq_false (by kernel_rfl),rfl⟩
theorem aXx:qp Tryz.prog 157=True:=eq_true ⟨_,Tryz.func157,of_decide_eq_false (by kernel_rfl),rfl⟩
theorem aXw:qp Tryz.prog 158=True:=eq_true ⟨_,Tryz.func158,of_decide_eq_false (by kernel_rfl),rfl⟩
theorem aXv:qp Tryz.prog 159=True:=eq_true ⟨_,Tryz.func159,of_decide_eq_false (by kernel_rfl),rfl⟩
theorem aXu:qp Tryz.prog 160=True:=eq_true ⟨_,Tryz.func160,of_decide_eq_false (by kernel_rfl),rfl⟩
theorem aXt:qp Tryz.prog 161=True:=eq_true ⟨_,Tryz.func161,of_decide_eq_false (by kernel_rfl),rfl⟩
theorem aXs:qp Tryz.prog 162=True:=eq_true ⟨_,Tryz.func162,of_decide_eq_false (by kernel_rfl),rfl⟩
theorem aXr:qp Tryz.prog 163=True:=eq_true ⟨_,Tryz.func163,of_decide_eq_false (by kernel_rfl),rfl⟩
theorem aXq:qp Tryz.prog 164=True:=eq_true ⟨_,Tryz.func164,of_decide_eq_false (by kernel_rfl),rfl⟩
theorem aXp:qp Tryz.prog 165=True:=eq_true ⟨_,Tryz.func165,of_decide_eq_false (by kernel_rfl),rfl⟩
theorem aXo:qp Tryz.prog 166=True:=eq_true ⟨_,Tryz.func166,of_decide_eq_false (by kernel_rfl),rfl⟩
theorem aXn:qp Tryz.prog 167=True:=eq_true ⟨_,Tryz.func167,of_decide_eq_false (by kernel_rfl),rfl⟩
theorem aXm:qp Tryz.prog 168=True:=eq_true ⟨_,Tryz.func168,of_decide_eq_false (by kernel_rfl),rfl⟩
theorem aXl:qp Tryz.prog 169=True:=eq_true ⟨_,Tryz.func169,of_decide_eq_false (by kernel_rfl),rfl⟩
theorem aXk:qp Tryz.prog 170=True:=eq_true ⟨_,Tryz.func170,of_decide_eq_false (by kernel_rfl),rfl⟩
theorem aXj:qp Tryz.prog 171=True:=eq_true ⟨_,Tryz.func171,of_decide_eq_false (by kernel_rfl),rfl⟩
theorem aXi:qp Tryz.prog 172=True:=eq_true ⟨_,Tryz.func172,of_decide_eq_false (by kernel_rfl),rfl⟩
theorem aXh:qp Tryz.prog 173=True:=eq_true ⟨_,Tryz.func173,of_decide_eq_false (by kernel_rfl),rfl⟩
theorem aXg:qp Tryz.prog 174=True:=eq_true ⟨_,Tryz.func174,of_decide_eq_false (by kernel_rfl),rfl⟩
theorem aXf:qp Tryz.prog 175=True:=eq_true ⟨_,Tryz.func175,of_decide_eq_false (by kernel_rfl),rfl⟩
theorem aXe:qp Tryz.prog 176=True:=eq_true ⟨_,Tryz.func176,of_decide_eq_false (by kernel_rfl),rfl⟩
theorem aXd:qp Tryz.prog 177=True:=eq_true ⟨_,Tryz.func177,of_decide_eq_false (by kernel_rfl),rfl⟩
theorem aXc:qp Tryz.prog 178=True:=eq_true ⟨_,Tryz.func178,of_decide_eq_false (by kernel_rfl),rfl⟩
theorem aXb:qp Tryz.prog 179=True:=eq_true ⟨_,Tryz.func179,of_decide_eq_false (by kernel_rfl),rfl⟩
theorem aXa:qp Tryz.prog 180=True:=eq_true ⟨_,Tryz.func180,of_decide_eq_false (by kernel_rfl),rfl⟩
theorem aW9:qp Tryz.prog 181=True:=eq_true ⟨_,Tryz.func181,of_decide_eq_false (by kernel_rfl),rfl⟩
theorem aW8:qp Tryz.prog 182=True:=eq_true ⟨_,Tryz.func182,of_decide_eq_false (by kernel_rfl),rfl⟩
theorem aW7:qp Tryz.prog 183=True:=eq_true ⟨_,Tryz.func183,of_decide_eq_false (by kernel_rfl),rfl⟩
theorem aW6:qp Tryz.prog 184=True:=eq_true ⟨_,Tryz.func184,of_decide_eq_false (by kernel_rfl),rfl⟩
theorem aW5:qp Tryz.prog 185=True:=eq_true ⟨_,Tryz.func185,of_decide_eq_false (by kernel_rfl),rfl⟩
theorem aW4:qp Tryz.prog 186=True:=eq_true ⟨_,Tryz.func186,of_decide_eq_false (by kernel_rfl),rfl⟩
theorem aW3:qp Tryz.prog 187=True:=eq_true ⟨_,Tryz.func187,of_decide_eq_false (by kernel_rfl),rfl⟩
theorem aW2:qp Tryz.prog 188=True:=eq_true ⟨_,Tryz.func188,of_decide_eq_false (by kernel_rfl),rfl⟩
theorem aW1:qp Tryz.prog 189=True:=eq_true ⟨_,Tryz.func189,of_decide_eq_false (by kernel_rfl),rfl⟩
theorem aW0:qp Tryz.prog 190=True:=eq_true ⟨_,Tryz.func190,of_decide_eq_false (by kernel_rfl),rfl⟩
theorem aWZ:qp Tryz.prog 191=True:=eq_true ⟨_,Tryz.func191,of_decide_eq_false (by kernel_rfl),rfl⟩
theorem aWY:qp Tryz.prog 192=True:=eq_true ⟨_,Tryz.func192,of_decide_eq_false (by kernel_rfl),rfl⟩
theorem aWX:qp Tryz.prog 193=True:=eq_true ⟨_,Tryz.func193,of_decide_eq_false (by kernel_rfl),rfl⟩
theorem aWW:qp Tryz.prog 194=True:=eq_true ⟨_,Tryz.func194,of_decide_eq_false (by kernel_rfl),rfl⟩
theorem aWV:qp Tryz.prog 195=True:=eq_true ⟨_,Tryz.func195,of_decide_eq_false (by kernel_rfl),rfl⟩
theorem aWU:qp Tryz.prog 196=True:=eq_true ⟨_,Tryz.func196,of_decide_eq_false (by kernel_rfl),rfl⟩
theorem aWT:qp Tryz.prog 197=True:=eq_true ⟨_,Tryz.func197,of_decide_eq_false (by kernel_rfl),rfl⟩
theorem aWS:qp Tryz.prog 198=True:=eq_true ⟨_,Tryz.func198,of_decide_eq_false (by kernel_rfl),rfl⟩
theorem aWR:qp Tryz.prog 199=True:=eq_true ⟨_,Tryz.func199,of_decide_eq_false (by kernel_rfl),rfl⟩
theorem aWQ:qp Tryz.prog 200=True:=eq_true ⟨_,Tryz.func200,of_decide_eq_false (by kernel_rfl),rfl⟩
theorem aWP:qp Tryz.prog 201=True:=eq_true ⟨_,Tryz.func201,of_decide_eq_false (by kernel_rfl),rfl⟩
theorem aWO:qp Tryz.prog 202=True:=eq_true ⟨_,Tryz.func202,of_decide_eq_false (by kernel_rfl),rfl⟩
theorem aWN:qp Tryz.prog 203=True:=eq_true ⟨_,Tryz.func203,of_decide_eq_false (by kernel_rfl),rfl⟩
theorem aWM:qp Tryz.prog 204=True:=eq_true ⟨_,Tryz.func204,of_decide_eq_false (by kernel_rfl),rfl⟩
theorem aWL:qp Tryz.prog 205=True:=eq_true ⟨_,Tryz.func205,of_decide_eq_false (by kernel_rfl),rfl⟩
theorem aWK:qp Tryz.prog 206=True:=eq_true ⟨_,Tryz.func206,of_decide_eq_false (by kernel_rfl),rfl⟩
theorem aWJ:qp Tryz.prog 207=True:=eq_true ⟨_,Tryz.func207,of_decide_eq_false (by kernel_rfl),rfl⟩
theorem aWI:qp Tryz.prog 208=True:=eq_true ⟨_,Tryz.func208,of_decide_eq_false (by kernel_rfl),rfl⟩
theorem aWH:qp Tryz.prog 209=True:=eq_true ⟨_,Tryz.func209,of_decide_eq_false (by kernel_rfl),rfl⟩
theorem aWG:qp Tryz.prog 210=True:=eq_true ⟨_,Tryz.func210,of_decide_eq_false (by kernel_rfl),rfl⟩
theorem aWF:qp Tryz.prog 211=True:=eq_true ⟨_,Tryz.func211,of_decide_eq_false (by kernel_rfl),rfl⟩
theorem aWE:qp Tryz.prog 212=True:=eq_true ⟨_,Tryz.func212,of_decide_eq_false (by kernel_rfl),rfl⟩
theorem aWD:qp Tryz.prog 213=True:=eq_true ⟨_,Tryz.func213,of_decide_eq_false (by kernel_rfl),rfl⟩
theorem aWC:qp Tryz.prog 214=True:=eq_true ⟨_,Tryz.func214,of_decide_eq_false (by kernel_rfl),rfl⟩
theorem aWB:qp Tryz.prog 215=True:=eq_true ⟨_,Tryz.func215,of_decide_eq_false (by kernel_rfl),rfl⟩
theorem aWA:qp Tryz.prog 216=True:=eq_true ⟨_,Tryz.func216,of_decide_eq_false (by kernel_rfl),rfl⟩
theorem aWz:qp Tryz.prog 217=True:=eq_true ⟨_,Tryz.func217,of_decide_eq_false (by kernel_rfl),rfl⟩
theorem aWy:qp Tryz.prog 218=True:=eq_true ⟨_,Tryz.func218,of_decide_eq_false (by kernel_rfl),rfl⟩
theorem aWx:qp Tryz.prog 219=True:=eq_true ⟨_,Tryz.func219,of_decide_eq_false (by kernel_rfl),rfl⟩
theorem aWw:qp Tryz.prog 220=True:=eq_true ⟨_,Tryz.func220,of_decide_eq_false (by kernel_rfl),rfl⟩
theorem aWv:qp Tryz.prog 221=True:=eq_true ⟨_,Tryz.func221,of_decide_eq_false (by kernel_rfl),rfl⟩
theorem aWu:qp Tryz.prog 222=True:=eq_true ⟨_,Tryz.func222,of_decide_eq_false (by kernel_rfl),rfl⟩
theorem aWt:qp Tryz.prog 223=True:=eq_true ⟨_,Tryz.func223,of_decide_eq_false (by kernel_rfl),rfl⟩
theorem aWs:qp Tryz.prog 224=True:=eq_true ⟨_,Tryz.func224,of_decide_eq_false (by kernel_rfl),rfl⟩
theorem aWr:qp Tryz.prog 225=True:=eq_true ⟨_,Tryz.func225,of_decide_eq_false (by kernel_rfl),rfl⟩
theorem aWq:qp Tryz.prog 226=True:=eq_true ⟨_,Tryz.func226,of_decide_eq_false (by kernel_rfl),rfl⟩
theorem aWp:qp Tryz.prog 227=True:=eq_true ⟨_,Tryz.func227,of_decide_eq_false (by kernel_rfl),rfl⟩
theorem aWo:qp Tryz.prog 228=True:=eq_true ⟨_,Tryz.func228,of_decide_eq_false (by kernel_rfl),rfl⟩
theorem aWn:qp Tryz.prog 229=True:=eq_true ⟨_,Tryz.func229,of_decide_eq_false (by kernel_rfl),rfl⟩
theorem aWm:qp Tryz.prog 230=True:=eq_true ⟨_,Tryz.func230,of_decide_eq_false (by kernel_rfl),rfl⟩
theorem aWl:qp Tryz.prog 231=True:=eq_true ⟨_,Tryz.func231,of_decide_eq_false (by kernel_rfl),rfl⟩
theorem aWk:qp Tryz.prog 232=True:=eq_true ⟨_,Tryz.func232,of_decide_eq_false (by kernel_rfl),rfl⟩
theorem aWj:qp Tryz.prog 233=True:=eq_true ⟨_,Tryz.func233,of_decide_eq_false (by kernel_rfl),rfl⟩
theorem aWi:qp Tryz.prog 234=True:=eq_true ⟨_,Tryz.func234,of_decide_eq_false (by kernel_rfl),rfl⟩
theorem aWh:qp Tryz.prog 235=True:=eq_true ⟨_,Tryz.func235,of_decide_eq_false (by kernel_rfl),rfl⟩
theorem aWg:qp Tryz.prog 236=True:=eq_true ⟨_,Tryz.func236,of_decide_eq_false (by kernel_rfl),rfl⟩
theorem aWf:qp Tryz.prog 237=True:=eq_true ⟨_,Tryz.func237,of_decide_eq_false (by kernel_rfl),rfl⟩
theorem aWe:qp Tryz.prog 238=True:=eq_true ⟨_,Tryz.func238,of_decide_eq_false (by kernel_rfl),rfl⟩
theorem aWd:qp Tryz.prog 239=True:=eq_true ⟨_,Tryz.func239,of_decide_eq_false (by kernel_rfl),rfl⟩
theorem aWc:qp Tryz.prog 240=True:=eq_true ⟨_,Tryz.func240,of_decide_eq_false (by kernel_rfl),rfl⟩
theorem aWb:qp Tryz.prog 241=True:=eq_true ⟨_,Tryz.func241,of_decide_eq_false (by kernel_rfl),rfl⟩
theorem aWa:qp Tryz.prog 242=True:=eq_true ⟨_,Tryz.func242,of_decide_eq_false (by kernel_rfl),rfl⟩
theorem aV9:qp Tryz.prog 243=True:=eq_true ⟨_,Tryz.func243,of_decide_eq_false (by kernel_rfl),rfl⟩
theorem aV8:qp Tryz.prog 244=True:=eq_true ⟨_,Tryz.func244,of_decide_eq_false (by kernel_rfl),rfl⟩
theorem aV7:qp Tryz.prog 245=True:=eq_true ⟨_,Tryz.func245,of_decide_eq_false (by kernel_rfl),rfl⟩
theorem aV6:qp Tryz.prog 246=True:=eq_true ⟨_,Tryz.func246,of_decide_eq_false (by kernel_rfl),rfl⟩
theorem aV5:qp Tryz.prog 247=True:=eq_true ⟨_,Tryz.func247,of_decide_eq_false (by kernel_rfl),rfl⟩
theorem aV4:qp Tryz.prog 248=True:=eq_true ⟨_,Tryz.func248,of_decide_eq_false (by kernel_rfl),rfl⟩
theorem aV3:qp Tryz.prog 249=True:=eq_true ⟨_,Tryz.func249,of_decide_eq_false (by kernel_rfl),rfl⟩
theorem aV2:qp Tryz.prog 250=True:=eq_true ⟨_,Tryz.func250,of_decide_eq_false (by kernel_rfl),rfl⟩
theorem aV1:qp Tryz.prog 251=True:=eq_true ⟨_,Tryz.func251,of_decide_eq_false (by kernel_rfl),rfl⟩
theorem aV0:qp Tryz.prog 252=True:=eq_true ⟨_,Tryz.func252,of_decide_eq_false (by kernel_rfl),rfl⟩
theorem aVZ:qp Tryz.prog 253=True:=eq_true ⟨_,Tryz.func253,of_decide_eq_false (by kernel_rfl),rfl⟩
theorem aVY:qp Tryz.prog 254=True:=eq_true ⟨_,Tryz.func254,of_decide_eq_false (by kernel_rfl),rfl⟩
theorem aVX:qp Tryz.prog 255=True:=eq_true ⟨_,Tryz.func255,of_decide_eq_false (by kernel_rfl),rfl⟩
theorem aVW:qp Tryz.prog 256=True:=eq_true ⟨_,Tryz.func256,of_decide_eq_false (by kernel_rfl),rfl⟩
theorem aVV:qp Tryz.prog 257=True:=eq_true ⟨_,Tryz.func257,of_decide_eq_false (by kernel_rfl),rfl⟩
theorem aVU:qp Tryz.prog 258=True:=eq_true ⟨_,Tryz.func258,of_decide_eq_false (by kernel_rfl),rfl⟩
theorem aVT:qp Tryz.prog 259=True:=eq_true ⟨_,Tryz.func259,of_decide_eq_false (by kernel_rfl),rfl⟩
theorem aVS:qp Tryz.prog 260=True:=eq_true ⟨_,Tryz.func260,of_decide_eq_false (by kernel_rfl),rfl⟩
theorem aVR:qp Tryz.prog 261=True:=eq_true ⟨_,Tryz.func261,of_decide_eq_false (by kernel_rfl),rfl⟩
theorem aVQ:qp Tryz.prog 262=True:=eq_true ⟨_,Tryz.func262,of_decide_eq_false (by kernel_rfl),rfl⟩
theorem aVP:qp Tryz.prog 263=True:=eq_true ⟨_,Tryz.func263,of_decide_eq_false (by kernel_rfl),rfl⟩
theorem aVO:qp Tryz.prog 264=True:=eq_true ⟨_,Tryz.func264,of_decide_eq_false (by kernel_rfl),rfl⟩
theorem aVN:qp Tryz.prog 265=True:=eq_true ⟨_,Tryz.func265,of_decide_eq_false (by kernel_rfl),rfl⟩
theorem aVM:qp Tryz.prog 266=True:=eq_true ⟨_,Tryz.func266,of_decide_eq_false (by kernel_rfl),rfl⟩
theorem aVL:qp Tryz.prog 267=True:=eq_true ⟨_,Tryz.func267,of_decide_eq_false (by kernel_rfl),rfl⟩
theorem aVK:qp Tryz.prog 268=True:=eq_true ⟨_,Tryz.func268,of_decide_eq_false (by kernel_rfl),rfl⟩
theorem aVJ:qp Tryz.prog 269=True:=eq_true ⟨_,Tryz.func269,of_decide_eq_false (by kernel_rfl),rfl⟩
theorem aVI:qp Tryz.prog 270=True:=eq_true ⟨_,Tryz.func270,of_decide_eq_false (by kernel_rfl),rfl⟩
theorem aVH:qp Tryz.prog 271=True:=eq_true ⟨_,Tryz.func271,of_decide_eq_false (by kernel_rfl),rfl⟩
theorem aVG:qp Tryz.prog 272=True:=eq_true ⟨_,Tryz.func272,of_decide_eq_false (by kernel_rfl),rfl⟩
theorem aVF:qp Tryz.prog 273=True:=eq_true ⟨_,Tryz.func273,of_decide_eq_false (by kernel_rfl),rfl⟩
theorem aVE:qp Tryz.prog 274=True:=eq_true ⟨_,Tryz.func274,of_decide_eq_false (by kernel_rfl),rfl⟩
theorem aVD:qp Tryz.prog 275=True:=eq_true ⟨_,Tryz.func275,of_decide_eq_false (by kernel_rfl),rfl⟩
theorem aVC:qp Tryz.prog 276=True:=eq_true ⟨_,Tryz.func276,of_decide_eq_false (by kernel_rfl),rfl⟩
theorem aVB:qp Tryz.prog 277=True:=eq_true ⟨_,Tryz.func277,of_decide_eq_false (by kernel_rfl),rfl⟩
theorem aVA:qp Tryz.prog 278=True:=eq_true ⟨_,Tryz.func278,of_decide_eq_false (by kernel_rfl),rfl⟩
theorem aVz:qp Tryz.prog 279=True:=eq_true ⟨_,Tryz.func279,of_decide_eq_false (by kernel_rfl),rfl⟩
theorem aVy:qp Tryz.prog 280=True:=eq_true ⟨_,Tryz.func280,of_decide_eq_false (by kernel_rfl),rfl⟩
theorem aVx:qp Tryz.prog 281=True:=eq_true ⟨_,Tryz.func281,of_decide_eq_false (by kernel_rfl),rfl⟩
theorem aVw:qp Tryz.prog 282=True:=eq_true ⟨_,Tryz.func282,of_decide_eq_false (by kernel_rfl),rfl⟩
theorem aVv:qp Tryz.prog 283=True:=eq_true ⟨_,Tryz.func283,of_decide_eq_false (by kernel_rfl),rfl⟩
theorem aVu:qp Tryz.prog 284=True:=eq_true ⟨_,Tryz.func284,of_decide_eq_false (by kernel_rfl),rfl⟩
theorem aVt:qp Tryz.prog 285=True:=eq_true ⟨_,Tryz.func285,of_decide_eq_false (by kernel_rfl),rfl⟩
theorem aVs:qp Tryz.prog 286=True:=eq_true ⟨_,Tryz.func286,of_decide_eq_false (by kernel_rfl),rfl⟩
theorem aVr:qp Tryz.prog 287=True:=eq_true ⟨_,Tryz.func287,of_decide_eq_false (by kernel_rfl),rfl⟩
theorem aVq:qp Tryz.prog 288=True:=eq_true ⟨_,Tryz.func288,of_decide_eq_false (by kernel_rfl),rfl⟩
theorem aVp:qp Tryz.prog 289=True:=eq_true ⟨_,Tryz.func289,of_decide_eq_false (by kernel_rfl),rfl⟩
theorem aVo:qp Tryz.prog 290=True:=eq_true ⟨_,Tryz.func290,of_decide_eq_false (by kernel_rfl),rfl⟩
theorem aVn:qp Tryz.prog 291=True:=eq_true ⟨_,Tryz.func291,of_decide_eq_false (by kernel_rfl),rfl⟩
theorem aVm:qp Tryz.prog 292=True:=eq_true ⟨_,Tryz.func292,of_decide_eq_false (by kernel_rfl),rfl⟩
theorem aVl:qp Tryz.prog 293=True:=eq_true ⟨_,Tryz.func293,of_decide_eq_false (by kernel_rfl),rfl⟩
theorem aVk:qp Tryz.prog 294=True:=eq_true ⟨_,Tryz.func294,of_decide_eq_false (by kernel_rfl),rfl⟩
theorem aVj:qp Tryz.prog 295=True:=eq_true ⟨_,Tryz.func295,of_decide_eq_false (by kernel_rfl),rfl⟩
theorem aVi:qp Tryz.prog 296=True:=eq_true ⟨_,Tryz.func296,of_decide_eq_false (by kernel_rfl),rfl⟩
theorem aVh:qp Tryz.prog 297=True:=eq_true ⟨_,Tryz.func297,of_decide_eq_false (by kernel_rfl),rfl⟩
theorem aVg:qp Tryz.prog 298=True:=eq_true ⟨_,Tryz.func298,of_decide_eq_false (by kernel_rfl),rfl⟩
theorem aVf:qp Tryz.prog 299=True:=eq_true ⟨_,Tryz.func299,of_decide_eq_false (by kernel_rfl),rfl⟩
theorem aVe:qp Tryz.prog 300=True:=eq_true ⟨_,Tryz.func300,of_decide_eq_false (by kernel_rfl),rfl⟩
theorem aVd:qp Tryz.prog 301=True:=eq_true ⟨_,Tryz.func301,of_decide_eq_false (by kernel_rfl),rfl⟩
theorem aVc:qp Tryz.prog 302=True:=eq_true ⟨_,Tryz.func302,of_decide_eq_false (by kernel_rfl),rfl⟩
theorem aVb:qp Tryz.prog 303=True:=eq_true ⟨_,Tryz.func303,of_decide_eq_false (by kernel_rfl),rfl⟩
theorem aVa:qp Tryz.prog 304=True:=eq_true ⟨_,Tryz.func304,of_decide_eq_false (by kernel_rfl),rfl⟩
theorem aU9:qp Tryz.prog 305=True:=eq_true ⟨_,Tryz.func305,of_decide_eq_false (by kernel_rfl),rfl⟩
theorem aU8:qp Tryz.prog 306=True:=eq_true ⟨_,Tryz.func306,of_decide_eq_false (by kernel_rfl),rfl⟩
theorem aU7:qp Tryz.prog 307=True:=eq_true ⟨_,Tryz.func307,of_decide_eq_false (by kernel_rfl),rfl⟩
theorem aU6:qp Tryz.prog 308=True:=eq_true ⟨_,Tryz.func308,of_decide_eq_false (by kernel_rfl),rfl⟩
theorem aU5:qp Tryz.prog 309=True:=eq_true ⟨_,Tryz.func309,of_decide_eq_false (by kernel_rfl),rfl⟩
theorem aU4:qp Tryz.prog 310=True:=eq_true ⟨_,Tryz.func310,of_decide_eq_false (by kernel_rfl),rfl⟩
theorem aU3:qp Tryz.prog 311=True:=eq_true ⟨_,Tryz.func311,of_decide_eq_false (by kernel_rfl),rfl⟩
theorem aU2:qp Tryz.prog 312=True:=eq_true ⟨_,Tryz.func312,of_decide_eq_false (by kernel_rfl),rfl⟩
theorem aU1:qp Tryz.prog 313=True:=eq_true ⟨_,Tryz.func313,of_decide_eq_false (by kernel_rfl),rfl⟩
theorem aU0:qp Tryz.prog 314=True:=eq_true ⟨_,Tryz.func314,of_decide_eq_false (by kernel_rfl),rfl⟩
theorem aUZ:qp Tryz.prog 315=True:=eq_true ⟨_,Tryz.func315,of_decide_eq_false (by kernel_rfl),rfl⟩
theorem aUY:qp Tryz.prog 316=True:=eq_true ⟨_,Tryz.func316,of_decide_eq_false (by kernel_rfl),rfl⟩
theorem aUX:qp Tryz.prog 317=True:=eq_true ⟨_,Tryz.func317,of_decide_eq_false (by kernel_rfl),rfl⟩
theorem aUW:qp Tryz.prog 318=True:=eq_true ⟨_,Tryz.func318,of_decide_eq_false (by kernel_rfl),rfl⟩
theorem aUV:qp Tryz.prog 319=True:=eq_true ⟨_,Tryz.func319,of_decide_eq_false (by kernel_rfl),rfl⟩
theorem aUU:qp Tryz.prog 320=True:=eq_true ⟨_,Tryz.func320,of_decide_eq_false (by kernel_rfl),rfl⟩
theorem aUT:qp Tryz.prog 321=True:=eq_true ⟨_,Tryz.func321,of_decide_eq_false (by kernel_rfl),rfl⟩
theorem aUS:qp Tryz.prog 322=True:=eq_true ⟨_,Tryz.func322,of_decide_eq_false (by kernel_rfl),rfl⟩
theorem aUR:qp Tryz.prog 323=True:=eq_true ⟨_,Tryz.func323,of_decide_eq_false (by kernel_rfl),rfl⟩
theorem aUQ:qp Tryz.prog 324=True:=eq_true ⟨_,Tryz.func324,of_decide_eq_false (by kernel_rfl),rfl⟩
theorem aUP:qp Tryz.prog 325=True:=eq_true ⟨_,Tryz.func325,of_decide_eq_false (by kernel_rfl),rfl⟩
theorem aUO:qp Tryz.prog 326=True:=eq_true ⟨_,Tryz.func326,of_decide_eq_false (by kernel_rfl),rfl⟩
theorem aUN:qp Tryz.prog 327=True:=eq_true ⟨_,Tryz.func327,of_decide_eq_false (by kernel_rfl),rfl⟩
theorem aUM:qp Tryz.prog 328=True:=eq_true ⟨_,Tryz.func328,of_decide_eq_false (by kernel_rfl),rfl⟩
theorem aUL:qp Tryz.prog 329=True:=eq_true ⟨_,Tryz.func329,of_decide_eq_false (by kernel_rfl),rfl⟩
theorem aUK:qp Tryz.prog 330=True:=eq_true ⟨_,Tryz.func330,of_decide_eq_false (by kernel_rfl),rfl⟩
theorem aUJ:qp Tryz.prog 331=True:=eq_true ⟨_,Tryz.func331,of_decide_eq_false (by kernel_rfl),rfl⟩
theorem aUI:qp Tryz.prog 354=True:=eq_true ⟨_,Tryz.func354,of_decide_eq_false (by kernel_rfl),rfl⟩
attribute [go_sem] ty1 aSy aNo aAi apA aSw aSx ty2 aSv aMZ
attribute [go_sem] av3 an1 aSt aSu ty3 aSs aMA avI anM aSq
attribute [go_sem] aSr ty4 aSp aL5 avx anA aSn aSo ty5 aSm
attribute [go_sem] aLJ avp anr aSk aSl ty6 aSj aLh avf anh
attribute [go_sem] aSh aSi ty7 aSg aKM au4 am3 aSe aSf aYB
attribute [go_sem] bf8 aYA bf7 aYz bf6 aYy bf5 bls ty8 aSd
attribute [go_sem] aKh auT amP aSb aSc aYx bf4 aYw bf3 aYv
attribute [go_sem] bf2 aYu bf1 blr ty9 aSa aJP auJ amF aR8
attribute [go_sem] aR9 bjX aNx aEv aq2 akN aNv aNw bjW aNu
attribute [go_sem] aD0 aqR akC aNs aNt bjV aNr aDy aqH aks
attribute [go_sem] aNp aNq bjU aNn azs aph ai5 aNl aNm bjT
attribute [go_sem] aNk ayX ao6 aiU aNi aNj bfS bjS aNh ayv
attribute [go_sem] aoW aiK aNf aNg bfR bjR aNe ax3 aoL aiA
attribute [go_sem] aNc aNd aQt aTG aQs aTF bio bjQ aNb axB
attribute [go_sem] aoA aiq aM9 aNa aQr aTE aQq aTD bin bjP
attribute [go_sem] aM8 awK aoi ah8 aM6 aM7 bjO aM5 awr aob
attribute [go_sem] ah1 aM3 aM4 bfQ bjN aM2 av4 an2 ahT aM0
attribute [go_sem] aM1 aQp aTC aQo aTB bim bjM aMY avQ anV
attribute [go_sem] ahO aMW aMX aQn aTA aQm aTz bil bjL aMV
attribute [go_sem] avP anU ahN aMT aMU bjK aMS avO anT ahM
attribute [go_sem] aMQ aMR bjJ aMP avN anS ahL aMN aMO bjI
attribute [go_sem] aMM avM anR ahK aMK aML bfP bjH aMJ avL
attribute [go_sem] anQ ahJ aMH aMI aQl aTy bik bjG aMG avK
attribute [go_sem] anP ahI aME aMF aQk aTx bij bjF aMD avJ
attribute [go_sem] anN ahH aMB aMC aQj aTw aQi aTv bii bjE
attribute [go_sem] aMz avH anL ahG aMx aMy aQh aTu aQg aTt
attribute [go_sem] bih bjD aMw avG anJ ahF aMu aMv aQf aTs
attribute [go_sem] aQe aTr big bjC aMt avF anI ahE aMr aMs
attribute [go_sem] aQd aTq aQc aTp bie bjB aMq avE anH ahD
attribute [go_sem] aMo aMp bjA aMn avD anG ahC aMl aMm bjz
attribute [go_sem] aMk avC anF ahB aMi aMj bjy aMh avB anE
attribute [go_sem] ahA aMf aMg bjx aMe avA anD ahz aMc aMd
attribute [go_sem] bjw aMb avz anC ahy aL9 aMa bjv aL8 avy
attribute [go_sem] anB ahx aL6 aL7 bju aL4 avw anz ahw aL2
attribute [go_sem] aL3 bjt aL1 avv anx ahv aLZ aL0 bjs aLY
attribute [go_sem] avu anw ahu aLW aLX bjr aLV avt anv aht
attribute [go_sem] aLT aLU bjq aLS avs anu ahs aLQ aLR bjp
attribute [go_sem] aLP avr ant ahr aLN aLO bjo aLM avq ans
attribute [go_sem] ahq aLK aLL bjn aLI avo anq ahp aLG aLH
attribute [go_sem] bjm aLF avn anp aho aLD aLE bjl aLC avm
attribute [go_sem] ano ahn aLA aLB bjk aLz avl ann ahm aLx
attribute [go_sem] aLy bjj aLw avk anm ahl aLu aLv bji aLt
attribute [go_sem] avj anl ahk aLr aLs bjh aLq avi ank ahj
attribute [go_sem] aLo aLp bjg aLn avh anj ahi aLl aLm bjf
attribute [go_sem] aLk avg ani ahh aLi aLj bje aLg ave ang
attribute [go_sem] ahg aLe aLf bjd aLd avd anf ahf aLb aLc
attribute [go_sem] bjc aLa avc ane ahe aK8 aK9 bjb aK7 avb
attribute [go_sem] anc ahd aK5 aK6 bja aK4 ava anb ahc aK2
attribute [go_sem] aK3 bfO bi9 aK1 au9 am9 ahb aKZ aK0 aQb
attribute [go_sem] aTo aQa aTn bid bi8 aKY au8 am7 aha aKW
attribute [go_sem] aKX aP9 aTm aP8 aTl bic bi7 aKV au7 am6
attribute [go_sem] ag9 aKT aKU bi6 aKS au6 am5 ag8 aKQ aKR
attribute [go_sem] bi5 aKP au5 am4 ag7 aKN aKO bi4 aKL au3
attribute [go_sem] am2 ag6 aKJ aKK bi3 aKI au2 am1 ag5 aKG
attribute [go_sem] aKH bi2 aKF au1 am0 ag4 aKD aKE bi1 aKC
attribute [go_sem] au0 amZ ag3 aKA aKB aP7 aTk bib bi0 aKz
attribute [go_sem] auZ amX ag2 aKx aKy aP6 aTj aP5 aTi bia
attribute [go_sem] biZ aKw auY amW ag1 aKu aKv aP4 aTh aP3
attribute [go_sem] aTg bh9 biY aKt auX amU ag0 aKr aKs aP2
attribute [go_sem] aTf aP1 aTe bh8 biX aKq auW amT agZ aKo
attribute [go_sem] aKp aP0 aTd aPZ aTc bh7 biW aKn auV amS
attribute [go_sem] agY aKl aKm biV aKk auU amQ agX aKi aKj
attribute [go_sem] aPY aTb aPX aTa bh6 biU aKg auS amO agW
attribute [go_sem] aKe aKf aPW aS9 aPV aS8 bh5 biT aKd auR
attribute [go_sem] amN agV aKb aKc biS aKa auQ amM agU aJ8
attribute [go_sem] aJ9 biR aJ7 auP amL agT aJ5 aJ6 biQ aJ4
attribute [go_sem] auO amK agS aJ2 aJ3 biP aJ1 auN amJ agR
attribute [go_sem] aJZ aJ0 biO aJY auM amI agQ aJW aJX biN
attribute [go_sem] aJV auL amH agP aJT aJU biM aJS auK amG
attribute [go_sem] agO aJQ aJR bcV aEW arb akW aeM aEU aEV
attribute [go_sem] bcU aET ara akV aeL aER aES bcT aEQ aq9
attribute [go_sem] akU aeK aEO aEP bcS aEN aq8 akT aeJ aEL
attribute [go_sem] aEM bcR aEK aq7 akS aeI aEI aEJ aST bcQ
attribute [go_sem] aEH aq6 akR aeH aEF aEG aG2 aOv aG1 aOu
attribute [go_sem] aZh bcP aEE aq5 akQ aeG aEC aED aG0 aOt
attribute [go_sem] aGZ aOs aZg bcO aEB aq4 akP aeF aEz aEA
attribute [go_sem] aSS bcN aEy aq3 akO aeE aEw aEx aGY aOr
attribute [go_sem] aGX aOq aZf bcM aEu aq1 akM aeD aEs aEt
attribute [go_sem] aGW aOp aGV aOo aZe bcL aEr aq0 akL aeC
attribute [go_sem] aEp aEq bcK aEo aqZ akK aeB aEm aEn bcJ
attribute [go_sem] aEl aqY akJ aeA aEj aEk bcI aEi aqX akI
attribute [go_sem] aez aEg aEh bcH aEf aqW akH aey aEd aEe
attribute [go_sem] bcG aEc aqV akG aex aEa aEb aGU aOn aGT
attribute [go_sem] aOm aGS aOl aZd bcF aD9 aqU akF aew aD7
attribute [go_sem] aD8 aGR aOk aGQ aOj aGP aOi aZc bcE aD6
attribute [go_sem] aqT akE aev aD4 aD5 bcD aD3 aqS akD aeu
attribute [go_sem] aD1 aD2 bcC aDZ aqQ akB aet aDX aDY bcB
attribute [go_sem] aDW aqP akA aes aDU aDV bcA aDT aqO akz
attribute [go_sem] aer aDR aDS bcz aDQ aqN aky aeq aDO aDP
attribute [go_sem] bcy aDN aqM akx aep aDL aDM aGO aOh aGN
attribute [go_sem] aOg aZb bcx aDK aqL akw aeo aDI aDJ aGM
attribute [go_sem] aOf aGL aOe aZa bcw aDH aqK akv aen aDF
attribute [go_sem] aDG bcv aDE aqJ aku aem aDC aDD bcu aDB
attribute [go_sem] aqI akt ael aDz aDA bct aDx aqG akr aek
attribute [go_sem] aDv aDw bcs aDu aqF akq aej aDs aDt bcr
attribute [go_sem] aDr aqE akp aei aDp aDq bcq aDo aqD ako
attribute [go_sem] aeh aDm aDn bcp aDl aqC akn aeg aDj aDk
attribute [go_sem] bco aDi aqB akm aef aDg aDh bcn aDf aqA
attribute [go_sem] akl aee aDd aDe bcm aDc aqz akk aed aDa
attribute [go_sem] aDb bcl aC9 aqy akj aec aC7 aC8 bck aC6
attribute [go_sem] aqx aki aeb aC4 aC5 bcj aC3 aqw akh aea
attribute [go_sem] aC1 aC2 bci aC0 aqv akg ad9 aCY aCZ bch
attribute [go_sem] aCX aqu akf ad8 aCV aCW bcg aCU aqt ake
attribute [go_sem] ad7 aCS aCT bcf aCR aqs akd ad6 aCP aCQ
attribute [go_sem] bce aCO aqr akc ad5 aCM aCN bcd aCL aqq
attribute [go_sem] akb ad4 aCJ aCK bcc aCI aqp aka ad3 aCG
attribute [go_sem] aCH bcb aCF aqo aj9 ad2 aCD aCE bca aCC
attribute [go_sem] aqn aj8 ad1 aCA aCB bb9 aCz aqm aj7 ad0
attribute [go_sem] aCx aCy bb8 aCw aql aj6 adY aCu aCv bb7
attribute [go_sem] aCt aqk aj5 adX aCr aCs bb6 aCq aqj aj4
attribute [go_sem] adW aCo aCp bb5 aCn aqi aj3 adV aCl aCm
attribute [go_sem] bb4 aCk aqh aj2 adU aCi aCj bb3 aCh aqg
attribute [go_sem] aj1 adT aCf aCg bb2 aCe aqf aj0 adR aCc
attribute [go_sem] aCd bb1 aCb aqe ajZ adQ aB9 aCa bb0 aB8
attribute [go_sem] aqd ajY adP aB6 aB7 bbZ aB5 aqc ajX adO
attribute [go_sem] aB3 aB4 bbY aB2 aqb ajW adN aB0 aB1 bbX
attribute [go_sem] aBZ aqa ajV adL aBX aBY bbW aBW ap9 ajU
attribute [go_sem] adK aBU aBV bbV aBT ap8 ajT adJ aBR aBS
attribute [go_sem] bbU aBQ ap7 ajS adI aBO aBP bbT aBN ap6
attribute [go_sem] ajR adH aBL aBM bbS aBK ap5 ajQ adG aBI
attribute [go_sem] aBJ bbR aBH ap4 ajP adF aBF aBG bbQ aBE
attribute [go_sem] ap3 ajO adE aBC aBD bbP aBB ap2 ajN adD
attribute [go_sem] aBz aBA bbO aBy ap1 ajM adC aBw aBx bbN
attribute [go_sem] aBv ap0 ajL adB aBt aBu bbM aBs apZ ajK
attribute [go_sem] adA aBq aBr bbL aBp apY ajJ adz aBn aBo
attribute [go_sem] bbK aBm apX ajI ady aBk aBl aGK aOd aGJ
attribute [go_sem] aOc aGI aOb aY9 bbJ aBj apW ajH adx aBh
attribute [go_sem] aBi aGH aOa aGG aN9 aGF aN8 aY8 bbI aBg
attribute [go_sem] apV ajG adw aBe aBf bbH aBd apU ajF adv
attribute [go_sem] aBb aBc bbG aBa apT ajE adu aA8 aA9 bbF
attribute [go_sem] aA7 apS ajD adt aA5 aA6 bbE aA4 apR ajC
attribute [go_sem] ads aA2 aA3 bbD aA1 apQ ajB adr aAZ aA0
attribute [go_sem] bbC aAY apP ajA adq aAW aAX bbB aAV apO
attribute [go_sem] ajz adp aAT aAU bbA aAS apN ajy ado aAQ
attribute [go_sem] aAR bbz aAP apM ajx adn aAN aAO bby aAM
attribute [go_sem] apL ajw adm aAK aAL bbx aAJ apK ajv adl
attribute [go_sem] aAH aAI bbw aAG apJ aju adk aAE aAF bbv
attribute [go_sem] aAD apI ajt adj aAB aAC bbu aAA apH ajs
attribute [go_sem] adi aAy aAz bbt aAx apG ajr adh aAv aAw
attribute [go_sem] bbs aAu apF ajq adg aAs aAt aSR bbr aAr
attribute [go_sem] apD ajp adf aAp aAq bbq aAo apC ajo ade
attribute [go_sem] aAm aAn bbp aAl apB ajn adc aAj aAk bbo
attribute [go_sem] aAh apz ajm adb aAf aAg bbn aAe apy ajl
attribute [go_sem] ada aAc aAd bbm aAb apx ajk ac9 az9 aAa
attribute [go_sem] bbl az8 apw ajj ac8 az6 az7 bbk az5 apv
attribute [go_sem] aji ac7 az3 az4 bbj az2 apu ajh ac6 az0
attribute [go_sem] az1 bbi azZ apt ajg ac5 azX azY bbh azW
attribute [go_sem] apr ajf ac4 azU azV bbg azT apq aje ac3
attribute [go_sem] azR azS bbf azQ app ajd ac2 azO azP bbe
attribute [go_sem] azN apo ajc ac1 azL azM bbd azK apn ajb
attribute [go_sem] ac0 azI azJ bbc azH apm aja acZ azF azG
attribute [go_sem] bbb azE apl ai9 acY azC azD bba azB apk
attribute [go_sem] ai8 acX azz azA ba9 azy apj ai7 acW azw
attribute [go_sem] azx ba8 azv api ai6 acV azt azu ba7 azr
attribute [go_sem] apg ai4 acU azp azq ba6 azo apf ai3 acT
attribute [go_sem] azm azn ba5 azl ape ai2 acS azj azk ba4
attribute [go_sem] azi apd ai1 acR azg azh ba3 azf apc ai0
attribute [go_sem] acQ azd aze ba2 azc apb aiZ acP aza azb
attribute [go_sem] ba1 ay9 apa aiY acO ay7 ay8 ba0 ay6 ao9
attribute [go_sem] aiX acN ay4 ay5 baZ ay3 ao8 aiW acM ay1
attribute [go_sem] ay2 baY ay0 ao7 aiV acL ayY ayZ baX ayW
attribute [go_sem] ao5 aiT acK ayU ayV baW ayT ao4 aiS acJ
attribute [go_sem] ayR ayS baV ayQ ao3 aiR acI ayO ayP baU
attribute [go_sem] ayN ao2 aiQ acH ayL ayM baT ayK ao1 aiP
attribute [go_sem] acG ayI ayJ baS ayH ao0 aiO acF ayF ayG
attribute [go_sem] baR ayE aoZ aiN acE ayC ayD baQ ayB aoY
attribute [go_sem] aiM acD ayz ayA baP ayy aoX aiL acC ayw
attribute [go_sem] ayx baO ayu aoU aiJ acB ays ayt baN ayr
attribute [go_sem] aoT aiI acA ayp ayq baM ayo aoS aiH acz
attribute [go_sem] aym ayn baL ayl aoR aiG acy ayj ayk baK
attribute [go_sem] ayi aoQ aiF acx ayg ayh baJ ayf aoP aiE
attribute [go_sem] acw ayd aye baI ayc aoO aiD acv aya ayb
attribute [go_sem] baH ax9 aoN aiC acu ax7 ax8 baG ax6 aoM
attribute [go_sem] aiB act ax4 ax5 baF ax2 aoJ aiz acs ax0
attribute [go_sem] ax1 baE axZ aoI aiy acr axX axY baD axW
attribute [go_sem] aoH aix acq axU axV baC axT aoG aiw acp
attribute [go_sem] axR axS baB axQ aoF aiv aco axO axP baA
attribute [go_sem] axN aoE aiu acn axL axM baz axK aoD ait
attribute [go_sem] acm axI axJ bay axH aoC ais acl axF axG
attribute [go_sem] bax axE aoB air ack axC axD baw axA aoz
attribute [go_sem] aip acj axy axz bav axx aoy aio aci axv
attribute [go_sem] axw bau axu aox ain ach axs axt bat axr
attribute [go_sem] aow aim acg axp axq bas axo aov ail acf
attribute [go_sem] axm axn bar axl aou aik ace axj axk baq
attribute [go_sem] axi aot aij acd axg axh bap axf aos aii
attribute [go_sem] acb axd axe bao axc aor aih aca axa axb
attribute [go_sem] ban aw9 aoq aig ab9 aw7 aw8 bam aw6 aop
attribute [go_sem] aif ab8 aw4 aw5 bal aw3 aoo aie ab7 aw1
attribute [go_sem] aw2 bak aw0 aon aid ab6 awY awZ baj awX
attribute [go_sem] aom aic ab5 awU awW bai awT aol aib ab4
attribute [go_sem] awR awS bah awQ aok aia ab3 awO awP bag
attribute [go_sem] awN aoj ah9 ab2 awL awM baf awJ aoh ah7
attribute [go_sem] ab1 awH awI bae awG aog ah6 ab0 awE awF
attribute [go_sem] bac awD aof ah5 abZ awB awC bab awA aoe
attribute [go_sem] ah4 abY awy awz baa awx aod ah3 abX awv
attribute [go_sem] aww aZ9 awu aoc ah2 abW aws awt aZ8 awq
attribute [go_sem] an9 ah0 abV awn awo aZ7 awm an8 ahZ abU
attribute [go_sem] awk awl aZ6 awj an7 ahY abT awh awi aZ5
attribute [go_sem] awg an6 ahX abS awe awf aZ4 awd an5 ahW
attribute [go_sem] abR awb awc aZ3 awa an4 ahV abQ av8 av9
attribute [go_sem] aZ2 av7 an3 ahU abP av5 av6 aZ1 av2 anZ
attribute [go_sem] ahS abO av0 av1 aZ0 avZ anY ahR abN avX
attribute [go_sem] avY aZZ avW anX ahQ abM avU avV aZY avT
attribute [go_sem] anW ahP abL avR avS blo bln blm bll blk
attribute [go_sem] blj bli blh bhU bhT bhS bhR bhQ bhP bhO
attribute [go_sem] bhN bhM bhL bhK bhJ bhI bhH bhG bhF bhE
attribute [go_sem] bhD bhC bhB bhA bhz bhy bhx bhw bhv bhu
attribute [go_sem] bht bhs bhr bhq bho bhn bhm bhl bhk bhj
attribute [go_sem] bhi bhh bhg bhf bhe bhd bhc bhb bha bg9
attribute [go_sem] bg8 bg7 bg6 bg5 bg4 bg3 bg2 bg1 bg0 bgZ
attribute [go_sem] bgY bgX bgW bgV bgU bgT bgS bgR bgQ bgP
attribute [go_sem] bgO bgN bgM bgL bgK bgJ bgI bgH bgG bgF
attribute [go_sem] bgE bgD bgC bgB bgA bgz bgy bgx bgw bgv
attribute [go_sem] bgu bgt bgs aYs aYr aYq aYp aYo aYn aYm
attribute [go_sem] aYl aYk aYj aYi aYh aYg aYf aYe aYd aYc
attribute [go_sem] aYb aYa aX9 aX8 aX7 aX6 aX5 aX4 aX3 aX2
attribute [go_sem] aX1 aX0 aXZ aXY aXX aXW aXV aXU aXT aXS
attribute [go_sem] aXR aXQ aXP aXO aXN aXM aXL aXK aXJ aXI
attribute [go_sem] aXH aXG aXF aXE aXD aXC aXB aXA aXz aXy
attribute [go_sem] aXx aXw aXv aXu aXt aXs aXr aXq aXp aXo
attribute [go_sem] aXn aXm aXl aXk aXj aXi aXh aXg aXf aXe
attribute [go_sem] aXd aXc aXb aXa aW9 aW8 aW7 aW6 aW5 aW4
attribute [go_sem] aW3 aW2 aW1 aW0 aWZ aWY aWX aWW aWV aWU
attribute [go_sem] aWT aWS aWR aWQ aWP aWO aWN aWM aWL aWK
attribute [go_sem] aWJ aWI aWH aWG aWF aWE aWD aWC aWB aWA
attribute [go_sem] aWz aWy aWx aWw aWv aWu aWt aWs aWr aWq
attribute [go_sem] aWp aWo aWn aWm aWl aWk aWj aWi aWh aWg
attribute [go_sem] aWf aWe aWd aWc aWb aWa aV9 aV8 aV7 aV6
attribute [go_sem] aV5 aV4 aV3 aV2 aV1 aV0 aVZ aVY aVX aVW
attribute [go_sem] aVV aVU aVT aVS aVR aVQ aVP aVO aVN aVM
attribute [go_sem] aVL aVK aVJ aVI aVH aVG aVF aVE aVD aVC
attribute [go_sem] aVB aVA aVz aVy aVx aVw aVv aVu aVt aVs
attribute [go_sem] aVr aVq aVp aVo aVn aVm aVl aVk aVj aVi
attribute [go_sem] aVh aVg aVf aVe aVd aVc aVb aVa aU9 aU8
attribute [go_sem] aU7 aU6 aU5 aU4 aU3 aU2 aU1 aU0 aUZ aUY
attribute [go_sem] aUX aUW aUV aUU aUT aUS aUR aUQ aUP aUO
attribute [go_sem] aUN aUM aUL aUK aUJ aUI
end Go.Ab
namespace Go.Ab
open Go Go.Proofs
set_option maxRecDepth 100000 in
theorem afF(U V:List Int)(j:Nat)(hU:gd U)(hV:gd V)(lU:U.length≤2000000)(h2:2≤V.length)(hj:j+V.length<U.length)(hv1:32768≤V.getD (V.length-1) 0)(hW:vl (U.drop j)<65536*vl V):
  Con Tryz.prog 329 true [.sl U.length (qc U),.sl V.length (qc V),.v (.int .i64 j)] [] (fun r hs bs=>∃q:Int,r=.v (.int .i64 q)∧hs=[]∧bs=[]∧(0≤q∧q<65536)∧vl (U.drop j)<(q+1)*vl V∧q*vl V<vl (U.drop j)+vl V):=by
 refine Con.of_aw Tryz.func329 rfl Tryz.ntmps329 (by simp) (by simp) (by simp) (W.sound ?_)
 show @W Tryz.prog 76 ⟨_⟩ ⟨fun x σ=>@q9 _ _ _ ⟨_⟩ _ ⟨_⟩ x σ⟩ _ _
 have hDl:V.length<(U.drop j).length:=by simp;omega
 have hz:=afZ (yv hU j) hV hDl hW
 have hw:=aR0 hDl h2 hz
 have hvv:=aJG h2
 rw[zX,zX,zX]at hw
 have hx0:=qW (j7 (yv hU j) (V.length-2))
 have hx1:=QN (j7 (yv hU j) (V.length-2))
 have hy0:=qW (j7 hV (V.length-2))
 have hy1:=QN (j7 hV (V.length-2))
 rw[List.length_take,Nat.min_eq_left (by omega)]at hx1 hy1
 have gu0:=qM hU (j+V.length)
 have gu1:=qM hU (j+(V.length-1))
 have gu2:=qM hU (j+(V.length-2))
 have gv1:=qM hV (V.length-1)
 have gv2:=qM hV (V.length-2)
 have htop:=aUd hw hvv ⟨hx0,hx1⟩ ⟨hy0,hy1⟩ gu2.1 gu1.1 gv2.2 hW
 have e0:((j:Int)+(V.length:Int)).toNat=j+V.length:=by omega
 have e1:((j:Int)+(V.length:Int)-1).toNat=j+(V.length-1):=by omega
 have e2:((j:Int)+(V.length:Int)-2).toNat=j+(V.length-2):=by omega
 have f1:((V.length:Int)-1).toNat=V.length-1:=by omega
 have f2:((V.length:Int)-2).toNat=V.length-2:=by omega
 simp(disch:=omega)only[go_sem]
 refine qs rfl [⟨0,[],[]⟩,⟨1,[],[]⟩,⟨2,[],[]⟩,⟨3,[],[]⟩,⟨4,[],[]⟩,⟨5,[],[]⟩,⟨6,[],[]⟩,⟨7,[5],[]⟩,⟨8,[5],[]⟩,⟨9,[5],[]⟩,⟨10,[5],[]⟩,⟨11,[5],[]⟩,⟨12,[5],[]⟩,⟨13,[5],[]⟩,⟨14,[],[]⟩,⟨15,[],[]⟩] (by kernel_rfl) ?_
 simp(disch:=omega)only[go_sem,e0,e1]
 generalize hu0:U.getD (j+V.length) 0=u0 at*
 generalize hu1:U.getD (j+(V.length-1)) 0=u1 at*
 generalize hu2:U.getD (j+(V.length-2)) 0=u2 at*
 refine⟨by omega,by omega,by omega,by omega,?_⟩
 refine qs rfl [⟨0,[],[]⟩,⟨1,[],[]⟩,⟨2,[],[]⟩,⟨3,[],[]⟩,⟨4,[],[]⟩,⟨5,[],[]⟩,⟨6,[],[]⟩,⟨7,[5],[]⟩,⟨8,[5],[]⟩,⟨9,[5],[]⟩,⟨10,[5],[]⟩,⟨11,[5],[]⟩,⟨12,[5],[]⟩,⟨13,[5],[]⟩,⟨14,[12],[]⟩,⟨15,[],[]⟩] (by kernel_rfl) ?_
 simp(disch:=omega)only[go_sem,f1]
 generalize hvv1:V.getD (V.length-1) 0=v1 at*
 generalize hvv2:V.getD (V.length-2) 0=v2 at*
 generalize htt:u0*65536+u1=top at*
 refine⟨by omega,by omega,by omega,by omega,by omega,by omega,?_⟩
 have hq0:0≤top/v1:=Int.ediv_nonneg (by omega) (by omega)
 have hq1:top/v1≤65537:=by
  have:top/v1<65538:=Int.ediv_lt_of_lt_mul (by omega) (by omega)
  omega
 have hr0:=Int.emod_nonneg top (show v1≠0 by omega)
 have hr1:=Int.emod_lt_of_pos top (show 0<v1 by omega)
 have hqr:=Int.emod_add_mul_ediv top v1
 have hini:=aPp hw hvv ⟨hx0,hx1⟩ ⟨hy0,hy1⟩ gu2 gv2.1 hq0 (show top<(top/v1+1)*v1 by rw[Int.add_mul,Int.mul_comm (top/v1)];omega)
 have hqr':top/v1*v1+top % v1=top:=by rw[Int.mul_comm];omega
 generalize top/v1=q0 at*
 generalize top % v1=r0 at*
 refine qh (fun x:Int×Int=>[(0,.sl U.length (qc U)),(1,.sl V.length (qc V)),(2,.v (.int .i64 j)),(7,.v (.int .i64 V.length)),(9,.v (.int .i64 x.1)),(10,.v (.int .i64 x.2))])
  (fun _=>[]) (fun x=>(0≤x.1∧x.1≤65537)∧(0≤x.2∧x.2<65536)∧x.1*v1+x.2=top∧vl (U.drop j)<(x.1+1)*vl V) (fun x=>x.1.toNat) (q0,r0) ⟨⟨hq0,hq1⟩,⟨hr0,by omega⟩,hqr',hini⟩
  (Le.lst [] _ _ rfl (by simp(disch:=omega)only[go_sem];try omega) (by simp(disch:=omega)only[go_sem])) ?_
 rintro⟨q,r⟩ ⟨hq,hr,hqr2,hlt⟩
 dsimp only at hq hr hqr2 hlt ⊢
 have hqv:0≤q*v2∧q*v2≤65537*65535:=⟨Int.mul_nonneg hq.1 gv2.1,Int.mul_le_mul hq.2 (by omega) gv2.1 (by omega)⟩
 simp(disch:=omega)only[go_sem]
 refine qs rfl [⟨0,[],[]⟩,⟨1,[],[]⟩,⟨2,[],[]⟩,⟨3,[],[]⟩,⟨4,[],[]⟩,⟨5,[],[]⟩,⟨6,[],[]⟩,⟨7,[],[]⟩,⟨8,[],[]⟩,⟨9,[],[]⟩,⟨10,[8],[]⟩,⟨11,[8],[]⟩,⟨12,[8],[]⟩,⟨13,[8],[]⟩,⟨14,[8],[]⟩,⟨15,[8],[]⟩,⟨16,[8],[]⟩,⟨17,[8],[]⟩,⟨18,[8],[]⟩,⟨19,[8],[]⟩,⟨20,[],[]⟩,⟨21,[],[]⟩] (by kernel_rfl) ?_
 simp(disch:=omega)only[go_sem]
 refine zG (fun h1=>?_) (fun h1=>?_)
 ·simp(disch:=omega)only[go_sem,h1,e2,f2,hu2,hvv2]
  refine⟨by omega,by omega,by omega,by omega,qe (fun h2=>?_) (fun h2=>?_)⟩
  ·simp(disch:=omega)only[go_sem,h2,f1,hvv1]
   have hst:=asj hw hvv ⟨hx0,hx1⟩ ⟨hy0,hy1⟩ hW gv2.1 (by omega) hq.1 hqr2 (.inr h2)
   have hqp:0<q:=by
    rcases(by omega:0<q∨q=0)with h|h
    ·exact h
    ·subst h;omega
   have hm:(q-1)*v1+(r+v1)=top:=by rw[Int.sub_mul];omega
   refine⟨by omega,by omega,qe (fun h3=>?_) (fun h3=>?_)⟩
   ·simp(disch:=omega)only[go_sem,h3]
    have h4:q-1<65536:=by
     rcases(by omega:q-1<65536∨65536≤q-1)with h|h
     ·exact h
     ·have:=Int.mul_le_mul_of_nonneg_right h (show 0≤v1 by omega)
      omega
    have h5:(q-1)*v2≤(r+v1)*65536+u2:=by
     have:(q-1)*v2≤65535*65535:=Int.mul_le_mul (by omega) (by omega) gv2.1 (by omega)
     omega
    have h6:=ae7 hw hvv ⟨hx0,hx1⟩ ⟨hy0,hy1⟩ gv2.1 (by omega) ⟨by omega,h4⟩ hm h5
    exact qA (by simp(disch:=omega)only[go_sem]) (by simp(disch:=omega)only[go_sem]) ⟨q-1,rfl,rfl,rfl,⟨by omega,h4⟩,by rw[show q-1+1=q by omega];exact hst,h6⟩
   ·simp(disch:=omega)only[go_sem,h3]
    refine qb (q-1,r+v1) [] ⟨by show 0≤q-1∧q-1≤65537;omega,by show 0≤r+v1∧r+v1<65536;omega,hm,by show _<(q-1+1)*vl V;rw[show q-1+1=q by omega];exact hst⟩ (by show(q-1).toNat<q.toNat;omega) rfl (by simp(disch:=omega)only[go_sem];try omega) (by simp(disch:=omega)only[go_sem])
  ·simp(disch:=omega)only[go_sem,h2]
   have h6:=ae7 hw hvv ⟨hx0,hx1⟩ ⟨hy0,hy1⟩ gv2.1 (by omega) ⟨hq.1,by omega⟩ hqr2 (by omega)
   exact qA (by simp(disch:=omega)only[go_sem]) (by simp(disch:=omega)only[go_sem]) ⟨q,rfl,rfl,rfl,⟨hq.1,by omega⟩,hlt,h6⟩
 ·simp(disch:=omega)only[go_sem,h1,f1,hvv1]
  have hst:=asj hw hvv ⟨hx0,hx1⟩ ⟨hy0,hy1⟩ hW gv2.1 (by omega) hq.1 hqr2 (.inl h1)
  have hqp:0<q:=by omega
  have hm:(q-1)*v1+(r+v1)=top:=by rw[Int.sub_mul];omega
  refine⟨by omega,by omega,qe (fun h3=>?_) (fun h3=>?_)⟩
  ·simp(disch:=omega)only[go_sem,h3]
   have h4:q-1<65536:=by
    rcases(by omega:q-1<65536∨65536≤q-1)with h|h
    ·exact h
    ·have:=Int.mul_le_mul_of_nonneg_right h (show 0≤v1 by omega)
     omega
   have h5:(q-1)*v2≤(r+v1)*65536+u2:=by
    have:(q-1)*v2≤65535*65535:=Int.mul_le_mul (by omega) (by omega) gv2.1 (by omega)
    omega
   have h6:=ae7 hw hvv ⟨hx0,hx1⟩ ⟨hy0,hy1⟩ gv2.1 (by omega) ⟨by omega,h4⟩ hm h5
   exact qA (by simp(disch:=omega)only[go_sem]) (by simp(disch:=omega)only[go_sem]) ⟨q-1,rfl,rfl,rfl,⟨by omega,h4⟩,by rw[show q-1+1=q by omega];exact hst,h6⟩
  ·simp(disch:=omega)only[go_sem,h3]
   refine qb (q-1,r+v1) [] ⟨by show 0≤q-1∧q-1≤65537;omega,by show 0≤r+v1∧r+v1<65536;omega,hm,by show _<(q-1+1)*vl V;rw[show q-1+1=q by omega];exact hst⟩ (by show(q-1).toNat<q.toNat;omega) rfl (by simp(disch:=omega)only[go_sem];try omega) (by simp(disch:=omega)only[go_sem])
end Go.Ab
namespace Go.Ab
open Go Go.Proofs
theorem aa1(U V:List Int)(j:Nat)(q:Int)(hU:gd U)(hV:gd V)(lU:U.length≤2000000)(hj:j+V.length<U.length)(hq:0≤q∧q<65536):
  Con Tryz.prog 330 false [.rf 10000000 0 U.length,.sl V.length (qc V),.v (.int .i64 j),.v (.int .i64 q)] [.own 1 (qc U)]
   (fun r hs bs=>∃(U':List Int) (bo:Int),r=.v (.bool (decide (U.getD (j+V.length) 0-bo<0)))∧hs=[]∧bs=[.own 1 (qc (U'.set (j+V.length) (U.getD (j+V.length) 0-bo)))]∧
    U'.length=U.length∧gd U'∧(0≤bo∧bo<65536)∧(∀t,t<j∨j+V.length≤t→U'.getD t 0=U.getD t 0)∧vl U'-65536^(j+V.length)*bo=vl U-65536^j*(q*vl V)):=by
 refine Con.of_aw Tryz.func330 rfl Tryz.ntmps330 (by simp) (by simp) (by simp) (W.sound ?_)
 show @W Tryz.prog 68 ⟨_⟩ ⟨fun x σ=>@q9 _ _ _ ⟨_⟩ _ ⟨_⟩ x σ⟩ _ _
 simp(disch:=omega)only[go_sem]
 refine qh (fun x:Nat×List Int×Int=>[(0,.rf 10000000 0 U.length),(1,.sl V.length (qc V)),(2,.v (.int .i64 j)),(3,.v (.int .i64 q)),(9,.v (.int .i64 x.2.2)),(13,.sl V.length (qc V)),(14,.v (.int .i64 V.length)),(15,.v (.int .i64 x.1))])
  (fun x=>[(10000000,.own 1 (qc x.2.1))])
  (fun x=>x.1≤V.length∧x.2.1.length=U.length∧gd x.2.1∧(0≤x.2.2∧x.2.2<65536)∧(∀t,t<j∨j+x.1≤t→x.2.1.getD t 0=U.getD t 0)∧vl x.2.1-65536^(j+x.1)*x.2.2=vl U-65536^j*(q*vl (V.take x.1)))
  (fun x=>V.length-x.1) (0,U,0) ⟨by simp,rfl,hU,by simp,fun _ _=>rfl,by simp[vl]⟩
  (Le.lst [] _ _ rfl (by simp(disch:=omega)only[go_sem];try omega) (by simp(disch:=omega)only[go_sem])) ?_
 rintro⟨i,U1,bo⟩ ⟨hi,hl1,hg1,hbo,hsame,hval⟩
 dsimp only at hi hl1 hg1 hbo hsame hval ⊢
 simp(disch:=omega)only[go_sem]
 refine qe (fun h1=>?_) (fun h1=>?_)
 ·have hx:=qM hV i
  have hu:=qM hg1 (j+i)
  have hqx:0≤q*V.getD i 0∧q*V.getD i 0≤65535*65535:=⟨Int.mul_nonneg hq.1 hx.1,Int.mul_le_mul (by omega) (by omega) hx.1 (by omega)⟩
  have e1:((j:Int)+(i:Int)).toNat=j+i:=by omega
  have hstep:∀d b:Int,d-65536*b=U1.getD (j+i) 0-q*V.getD i 0-bo→vl (U1.set (j+i) d)-65536^(j+(i+1))*b=vl U-65536^j*(q*vl (V.take (i+1))):=by
   intro d b hd
   rw[Q8 (by omega),qU,←Nat.add_assoc,Int.pow_succ]
   have e3:(65536:Int)^(j+i)=65536^j*65536^i:=Int.pow_add _ _ _
   rw[e3]at hval ⊢
   generalize (65536:Int)^i=Pi at*
   generalize (65536:Int)^j=Pj at*
   grind
  have hsm:∀d:Int,∀t,t<j∨j+(i+1)≤t→(U1.set (j+i) d).getD t 0=U.getD t 0:=fun d t ht=>by
   rw[jj (by omega),if_neg (by omega)];exact hsame t (by omega)
  simp(disch:=omega)only[go_sem,h1,e1]
  refine⟨by omega,by omega,by omega,by omega,qe (fun h2=>?_) (fun h2=>?_)⟩
  ·simp(disch:=omega)only[go_sem,h2,e1]
   generalize hb:(0-(U1.getD (j+i) 0-q*V.getD i 0-bo)+65536-1)/65536=b
   refine⟨by omega,by omega,qb (i+1,U1.set (j+i) (U1.getD (j+i) 0-q*V.getD i 0-bo+b*65536),b) [] ⟨by show i+1≤_;omega,by simp[hl1],yW hg1 (by omega),by show 0≤b∧b<65536;omega,hsm _,hstep (U1.getD (j+i) 0-q*V.getD i 0-bo+b*65536) b (by omega)⟩
    (by show V.length-(i+1)<V.length-i;omega) rfl (by simp(disch:=omega)only[go_sem];try omega) (by simp(disch:=omega)only[go_sem])⟩
  ·simp(disch:=omega)only[go_sem,h2,e1]
   refine⟨by omega,by omega,qb (i+1,U1.set (j+i) (U1.getD (j+i) 0-q*V.getD i 0-bo),0) [] ⟨by show i+1≤_;omega,by simp[hl1],yW hg1 (by omega),by simp,hsm _,hstep (U1.getD (j+i) 0-q*V.getD i 0-bo) 0 (by omega)⟩
    (by show V.length-(i+1)<V.length-i;omega) rfl (by simp(disch:=omega)only[go_sem];try omega) (by simp(disch:=omega)only[go_sem])⟩
 ·have hiA:i=V.length:=by omega
  subst hiA
  rw[List.take_length]at hval
  have e1:((j:Int)+(V.length:Int)).toNat=j+V.length:=by omega
  have hu:=qM hg1 (j+V.length)
  have es:=hsame (j+V.length) (by omega)
  have eg:(U1.set (j+V.length) (U.getD (j+V.length) 0-bo)).getD (j+V.length) 0=U.getD (j+V.length) 0-bo:=by rw[jj (by omega),if_pos rfl]
  simp(disch:=omega)only[go_sem,h1,e1,es]
  refine⟨by omega,by omega,by omega,by omega,by omega,by simp;omega,?_⟩
  simp(disch:=omega)only[go_sem,eg]
  refine qi [] [] [.own 1 (qc (U1.set (j+V.length) (U.getD (j+V.length) 0-bo)))] [.v (.bool (decide (U.getD (j+V.length) 0-bo<0)))] rfl (by simp(disch:=omega)only[go_sem]) (by simp(disch:=omega)only[go_sem]) (by simp) (by simp) ⟨U1,bo,rfl,rfl,rfl,hl1,hg1,hbo,hsame,hval⟩
theorem afI(U V:List Int)(j:Nat)(hU:∀t,t≠j+V.length→0≤U.getD t 0∧U.getD t 0<65536)(hUt: -65536≤U.getD (j+V.length) 0∧U.getD (j+V.length) 0<65536)(hV:gd V)(lU:U.length≤2000000)(hj:j+V.length<U.length):
  Con Tryz.prog 331 false [.rf 10000000 0 U.length,.sl V.length (qc V),.v (.int .i64 j)] [.own 1 (qc U)]
   (fun r hs bs=>∃(U':List Int),r=.tu []∧hs=[]∧bs=[.own 1 (qc U')]∧
    U'.length=U.length∧(∀t,t≠j+V.length→0≤U'.getD t 0∧U'.getD t 0<65536)∧(∀t,t<j∨j+V.length<t→U'.getD t 0=U.getD t 0)∧vl U'=vl U+65536^j*vl V):=by
 refine Con.of_aw Tryz.func331 rfl Tryz.ntmps331 (by simp) (by simp) (by simp) (W.sound ?_)
 show @W Tryz.prog 46 ⟨_⟩ ⟨fun x σ=>@q9 _ _ _ ⟨_⟩ _ ⟨_⟩ x σ⟩ _ _
 simp(disch:=omega)only[go_sem]
 refine qh (fun x:Nat×List Int×Int=>[(0,.rf 10000000 0 U.length),(1,.sl V.length (qc V)),(2,.v (.int .i64 j)),(6,.v (.int .i64 x.2.2)),(9,.sl V.length (qc V)),(10,.v (.int .i64 V.length)),(11,.v (.int .i64 x.1))])
  (fun x=>[(10000000,.own 1 (qc x.2.1))])
  (fun x=>x.1≤V.length∧x.2.1.length=U.length∧(∀t,t≠j+V.length→0≤x.2.1.getD t 0∧x.2.1.getD t 0<65536)∧(0≤x.2.2∧x.2.2≤1)∧(∀t,t<j∨j+x.1≤t→x.2.1.getD t 0=U.getD t 0)∧vl x.2.1+65536^(j+x.1)*x.2.2=vl U+65536^j*vl (V.take x.1))
  (fun x=>V.length-x.1) (0,U,0) ⟨by simp,rfl,hU,by simp,fun _ _=>rfl,by simp[vl]⟩
  (Le.lst [] _ _ rfl (by simp(disch:=omega)only[go_sem];try omega) (by simp(disch:=omega)only[go_sem])) ?_
 rintro⟨i,U1,cy⟩ ⟨hi,hl1,hg1,hcy,hsame,hval⟩
 dsimp only at hi hl1 hg1 hcy hsame hval ⊢
 simp(disch:=omega)only[go_sem]
 refine qe (fun h1=>?_) (fun h1=>?_)
 ·have hx:=qM hV i
  have hu:=hg1 (j+i) (by omega)
  have e1:((j:Int)+(i:Int)).toNat=j+i:=by omega
  simp(disch:=omega)only[go_sem,h1,e1]
  generalize hb:cy+(U1.getD (j+i) 0+V.getD i 0)=b
  have hg2:∀t,t≠j+V.length→0≤(U1.set (j+i) (b % 65536)).getD t 0∧(U1.set (j+i) (b % 65536)).getD t 0<65536:=fun t ht=>by
   rw[jj (by omega)]
   split
   ·omega
   ·exact hg1 t ht
  refine⟨by omega,by omega,by omega,by omega,by omega,by omega,qb (i+1,U1.set (j+i) (b % 65536),b/65536) [] ⟨by show i+1≤_;omega,by simp[hl1],hg2,by show 0≤b/65536∧b/65536≤1;omega,fun t ht=>?_,?_⟩
   (by show V.length-(i+1)<V.length-i;omega) rfl (by simp(disch:=omega)only[go_sem];try omega) (by simp(disch:=omega)only[go_sem])⟩
  ·show(U1.set (j+i) (b % 65536)).getD t 0=_
   have ht:t<j∨j+(i+1)≤t:=ht
   rw[jj (by omega),if_neg (by omega)];exact hsame t (by omega)
  ·show vl (U1.set (j+i) (b % 65536))+65536^(j+(i+1))*(b/65536)=vl U+65536^j*vl (V.take (i+1))
   rw[Q8 (by omega),qU,←Nat.add_assoc,Int.pow_succ]
   have e3:(65536:Int)^(j+i)=65536^j*65536^i:=Int.pow_add _ _ _
   have e4:b % 65536+65536*(b/65536)=b:=Int.emod_add_mul_ediv b 65536
   rw[e3]at hval ⊢
   generalize (65536:Int)^i=Pi at*
   generalize (65536:Int)^j=Pj at*
   grind
 ·have hiA:i=V.length:=by omega
  subst hiA
  rw[List.take_length]at hval
  have e1:((j:Int)+(V.length:Int)).toNat=j+V.length:=by omega
  have es:=hsame (j+V.length) (by omega)
  simp(disch:=omega)only[go_sem,h1,e1,es]
  refine⟨by omega,by omega,by omega,by omega,?_⟩
  refine qi [] [] [.own 1 (qc (U1.set (j+V.length) (U.getD (j+V.length) 0+cy)))] [] rfl (by simp(disch:=omega)only[go_sem]) (by simp(disch:=omega)only[go_sem]) (by simp) (by simp) ⟨_,rfl,rfl,rfl,by simp[hl1],fun t ht=>?_,fun t ht=>?_,?_⟩
  ·rw[jj (by omega),if_neg ht];exact hg1 t ht
  ·rw[jj (by omega),if_neg (by omega)];exact hsame t (by omega)
  ·rw[Q8 (by omega),es]
   generalize (65536:Int)^(j+V.length)=Pj at*
   grind
end Go.Ab
namespace Go.Ab
open Go Go.Proofs
theorem jl(xs:List Int)(hl:xs.length≤2^40):Con Tryz.prog 295 false [.rf 10000000 0 xs.length] [.own 1 (qc xs)] (fun r hs bs=>r=.rf 10000000 0 (Jq xs).length∧hs=[]∧bs=[.own 1 (qc xs)]):=by
 refine Con.of_aw Tryz.func295 rfl Tryz.ntmps295 (by simp) (by simp) (by simp) (W.sound ?_)
 show @W Tryz.prog 21 ⟨_⟩ ⟨fun x σ=>@q9 _ _ _ ⟨_⟩ _ ⟨_⟩ x σ⟩ _ _
 simp(disch:=omega)only[go_sem]
 refine qh (fun m:Nat=>[(0,.rf 10000000 0 m)]) (fun _=>[(10000000,.own 1 (qc xs))]) (fun m=>m≤xs.length∧Jq (xs.take m)=Jq xs) id xs.length ⟨Nat.le_refl _,by simp⟩
  (Le.lst [] _ _ rfl (by simp(disch:=omega)only[go_sem];try omega) (by simp(disch:=omega)only[go_sem])) ?_
 intro m ⟨hm,hx⟩
 have hmx:∀k,k+1=m→xs.take m=xs.take k++[xs.getD k 0]:=fun k hk=>by rw[←hk];exact jH (by omega)
 simp(disch:=omega)only[go_sem]
 refine qe (fun h1=>?_) (fun h1=>?_)
 ·obtain⟨k,rfl⟩:∃k,m=k+1:=⟨m-1,by omega⟩
  have e1:((k+1:Nat):Int)-1=(k:Nat):=by omega
  rw[hmx k rfl]at hx
  simp(disch:=omega)only[go_sem,h1,e1]
  refine⟨by omega,by omega,qe (fun h2=>?_) (fun h2=>?_)⟩
  ·simp(disch:=omega)only[go_sem,h2,e1]
   rw[h2,QB]at hx
   refine⟨by omega,qb k [] ⟨by omega,hx⟩ (by show k<k+1;omega) rfl (by simp(disch:=omega)only[go_sem];try omega) (by simp(disch:=omega)only[go_sem])⟩
  ·simp(disch:=omega)only[go_sem,h2]
   refine qi [] [] [.own 1 (qc xs)] [.rf 10000000 0 (k+1)] rfl (by simp(disch:=omega)only[go_sem]) (by simp(disch:=omega)only[go_sem]) (by simp) (by simp) ⟨?_,rfl,rfl⟩
   rw[Y4 _ h2,←hmx k rfl]at hx
   rw[←hx,List.length_take,Nat.min_eq_left hm];rfl
 ·simp(disch:=omega)only[go_sem,h1]
  refine qi [] [] [.own 1 (qc xs)] [.rf 10000000 0 m] rfl (by simp(disch:=omega)only[go_sem]) (by simp(disch:=omega)only[go_sem]) (by simp) (by simp) ⟨?_,rfl,rfl⟩
  have:m=0:=by omega
  subst this
  rw[←hx];rfl
end Go.Ab
namespace Go.Ab
open Go Go.Proofs
theorem ar4{x y:Int}(hx:0≤x∧x<65536)(hy:0≤y∧y<65536):0≤x*y∧x*y≤4294836225:=by
 have h1:=Int.mul_nonneg hx.1 hy.1
 have h2:x*y≤65535*65535:=Int.mul_le_mul (by omega) (by omega) hy.1 (by omega)
 omega
theorem as4(cl:Bool)(A B:List Int)(hA:gd A)(hB:gd B)(lA:A.length≤1000000)(lB:B.length≤1000000):
  Con Tryz.prog 252 cl [.sl A.length (qc A),.sl B.length (qc B)] [] (aut (lim (vl A*vl B).toNat)):=by
 refine Con.of_aw Tryz.func252 rfl Tryz.ntmps252 (by simp) (by simp) (by simp) (W.sound ?_)
 show @W Tryz.prog 63 ⟨_⟩ ⟨fun x σ=>@q9 _ _ _ ⟨_⟩ _ ⟨_⟩ x σ⟩ _ _
 simp(disch:=omega)only[go_sem]
 refine⟨⟨by omega,by omega,by omega⟩,?_⟩
 refine qh (fun x:Nat×List Int=>[(1,.sl B.length (qc B)),(5,.rf 180000000 0 (A.length+B.length)),(17,.sl A.length (qc A)),(18,.v (.int .i64 A.length)),(19,.v (.int .i64 x.1))])
  (fun x=>[(180000000,.own 1 (qc x.2))])
  (fun x=>x.1≤A.length∧x.2.length=A.length+B.length∧gd x.2∧vl x.2=vl (A.take x.1)*vl B∧∀j,x.1+B.length≤j→x.2.getD j 0=0)
  (fun x=>A.length-x.1) (0,List.replicate (A.length+B.length) 0) ⟨by simp,by simp,zr _,by simp[zM,vl],fun j _=>by
   rw[List.getD_eq_getElem?_getD,List.getElem?_replicate];split<;>rfl⟩
  (Le.lst [] _ _ rfl (by simp(disch:=omega)only[go_sem];try omega) (by simp(disch:=omega)only[go_sem,show((A.length:Int)+(B.length:Int)).toNat=A.length+B.length by omega])) ?_
 rintro⟨i,out⟩ ⟨hi,hol,hog,hov,hoz⟩
 dsimp only at hi hol hog hov hoz ⊢
 simp(disch:=omega)only[go_sem]
 refine qe (fun h1=>?_) (fun h1=>?_)
 ·have hx:=qM hA i
  simp(disch:=omega)only[go_sem,h1]
  refine⟨by omega,by omega,?_⟩
  refine qh (fun x:Nat×List Int×Int=>[(1,.sl B.length (qc B)),(5,.rf 180000000 0 (A.length+B.length)),(17,.sl A.length (qc A)),(18,.v (.int .i64 A.length)),(19,.v (.int .i64 i)),(6,.v (.int .i64 i)),
    (7,.v (.int .i64 (A.getD i 0))),(8,.v (.int .i64 x.2.2)),(24,.sl B.length (qc B)),(25,.v (.int .i64 B.length)),(26,.v (.int .i64 x.1))])
   (fun x=>[(180000000,.own 1 (qc x.2.1))])
   (fun x=>x.1≤B.length∧x.2.1.length=A.length+B.length∧gd x.2.1∧(0≤x.2.2∧x.2.2<65536)∧vl x.2.1+65536^(i+x.1)*x.2.2=vl out+65536^i*(A.getD i 0*vl (B.take x.1))∧∀j,i+B.length≤j→x.2.1.getD j 0=0)
   (fun x=>B.length-x.1) (0,out,0) ⟨by simp,hol,hog,by simp,by simp[vl],hoz⟩
   (Le.lst [] _ _ rfl (by simp(disch:=omega)only[go_sem];try omega) (by simp(disch:=omega)only[go_sem])) ?_
  rintro⟨j,o2,cy⟩ ⟨hj,hol2,hog2,hcy,hov2,hoz2⟩
  dsimp only at hj hol2 hog2 hcy hov2 hoz2 ⊢
  simp(disch:=omega)only[go_sem]
  refine qe (fun h2=>?_) (fun h2=>?_)
  ·have hy:=qM hB j
   have ho:=qM hog2 (i+j)
   have hxy:=ar4 hx hy
   have e1:((i:Int)+(j:Int)).toNat=i+j:=by omega
   simp(disch:=omega)only[go_sem,h2,e1]
   generalize hq:cy+(o2.getD (i+j) 0+A.getD i 0*B.getD j 0)=q
   refine⟨by omega,by omega,by omega,by omega,by omega,by omega,qb (j+1,o2.set (i+j) (q % 65536),q/65536) [] ⟨by show j+1≤_;omega,by simp[hol2],yW hog2 (by omega),by show 0≤q/65536∧q/65536<65536;omega,?_,fun k hk=>?_⟩
    (by show B.length-(j+1)<B.length-j;omega) rfl (by simp(disch:=omega)only[go_sem];try omega) (by simp(disch:=omega)only[go_sem])⟩
   ·show vl (o2.set (i+j) (q % 65536))+65536^(i+(j+1))*(q/65536)=vl out+65536^i*(A.getD i 0*vl (B.take (j+1)))
    rw[Q8 (by omega),jb (by omega),←Nat.add_assoc,Int.pow_succ]
    have e2:(65536:Int)^(i+j)=65536^i*65536^j:=Int.pow_add _ _ _
    have e3:q % 65536+65536*(q/65536)=q:=Int.emod_add_mul_ediv q 65536
    rw[e2]at hov2 ⊢
    generalize (65536:Int)^i=Pi at*
    generalize (65536:Int)^j=Pj at*
    grind
   ·show(o2.set (i+j) (q % 65536)).getD k 0=0
    rw[List.getD_eq_getElem?_getD,List.getElem?_set_ne (by omega),←List.getD_eq_getElem?_getD]
    exact hoz2 k hk
  ·simp(disch:=omega)only[go_sem,h2]
   have e1:((i:Int)+(B.length:Int)).toNat=i+B.length:=by omega
   have hjB:j=B.length:=by omega
   subst hjB
   rw[List.take_length]at hov2
   simp(disch:=omega)only[go_sem,e1]
   refine⟨by omega,by omega,qb (i+1,o2.set (i+B.length) cy) [] ⟨by show i+1≤_;omega,by simp[hol2],yW hog2 hcy,?_,fun k hk=>?_⟩ (by show A.length-(i+1)<A.length-i;omega) rfl (by simp(disch:=omega)only[go_sem];try omega) (by simp(disch:=omega)only[go_sem])⟩
   ·show vl (o2.set (i+B.length) cy)=vl (A.take (i+1))*vl B
    rw[Q8 (by omega),hoz2 _ (Nat.le_refl _),jb (by omega)]
    generalize (65536:Int)^i=Pi at*
    grind
   ·show(o2.set (i+B.length) cy).getD k 0=0
    rw[List.getD_eq_getElem?_getD,List.getElem?_set_ne (by show i+B.length≠k;omega),←List.getD_eq_getElem?_getD]
    exact hoz2 k (by omega)
 ·simp(disch:=omega)only[go_sem,h1]
  have hiA:i=A.length:=by omega
  subst hiA
  rw[List.take_length]at hov
  refine zh false [180000000] (jl out (by omega)) (by rw[←hol];simp(disch:=omega)only[go_sem]) (by simp(disch:=omega)only[go_sem]) rfl (qX (z:=1) (cs:=qc out) (by simp(disch:=omega)only[go_sem]) (by simp(disch:=omega)only[go_sem])) (by intro n hn;exact⟨_,List.mem_singleton.2 rfl,by rw[List.mem_singleton.1 hn];rfl⟩) ?_
  rintro r hs bs ⟨rfl,rfl,rfl⟩ _
  refine⟨by simp[qT],?_⟩
  simp(disch:=omega)only[go_sem]
  obtain⟨z,hz⟩:=zL out
  have hc:=z8 hog
  rw[hov]at hc
  rw[hc]at hz ⊢
  refine qi [(0,180000000)] [.own 1 (qc out)] [] [.rf 0 0 (lim (vl A*vl B).toNat).length] rfl (by simp(disch:=omega)only[go_sem]) (by simp(disch:=omega)only[go_sem]) (by simp) (by intro _;simp[zl,AV.pu,AV.pu.puL,Ob.pu,q8]) (.inr ⟨List.replicate z 0,rfl,by rw[←hz]⟩)
end Go.Ab
namespace Go.Ab
open Go Go.Proofs
theorem as8(cl:Bool)(n:Nat)(hn:n<2^63):Con Tryz.prog 157 cl [.v (.int .i64 n)] [] (aut (lim n)):=by
 refine Con.of_aw Tryz.func157 rfl Tryz.ntmps157 (by simp) (by simp) (by simp) (W.sound ?_)
 show @W Tryz.prog 14 ⟨_⟩ ⟨fun x σ=>@q9 _ _ _ ⟨_⟩ _ ⟨_⟩ x σ⟩ _ _
 simp(disch:=omega)only[go_sem]
 refine qh (fun x:Nat×List Int=>[(0,.v (.int .i64 x.1)),(3,.rf 1 0 x.2.length)]) (fun x=>[(1,.own 1 (qc x.2))]) (fun x=>x.1<2^63∧x.2++lim x.1=lim n) (fun x=>x.1) (n,[]) ⟨hn,rfl⟩
  ((Le.ghost 3 1 1 (by simp(disch:=omega)only[go_sem]) (by simp(disch:=omega)only[go_sem])).trans (Le.lst [] _ _ rfl (by simp(disch:=omega)only[go_sem]) (by simp(disch:=omega)only[go_sem]))) ?_
 rintro⟨k,l⟩ ⟨hk,hl⟩
 dsimp only at hk hl ⊢
 have hlen:l.length≤4:=by
  have h1:=congrArg List.length hl
  have h2:=jB (n:=n) (k:=4) |>.2 (by omega)
  rw[List.length_append]at h1;omega
 simp(disch:=omega)only[go_sem]
 refine qe (fun h1=>?_) (fun h1=>?_)
 ·simp(disch:=omega)only[go_sem,h1]
  have hk0:k≠0:=by omega
  refine⟨by omega,qb (k/65536,l++[(k:Int) % 65536]) [(1,140000000)] ⟨by show k/65536<2^63;omega,?_⟩ (by show k/65536<k;omega) rfl (by simp(disch:=omega)only[go_sem,List.length_append];omega) (by simp(disch:=omega)only[go_sem])⟩
  rw[j6 hk0]at hl
  rw[←hl,List.append_assoc];rfl
 ·simp(disch:=omega)only[go_sem,h1]
  have hk0:k=0:=by omega
  subst hk0
  rw[qo,List.append_nil]at hl
  subst hl
  refine qi [(0,1)] [.own 1 (qc (lim n++[]))] [] [.rf 0 0 (lim n).length] rfl (by simp(disch:=omega)only[go_sem]) (by simp(disch:=omega)only[go_sem]) (by simp) (by intro _;simp[zl,AV.pu,AV.pu.puL,Ob.pu,q8]) (.inr ⟨[],rfl,rfl⟩)
end Go.Ab
namespace Go.Ab
open Go Go.Proofs
theorem yp(k:Nat)(h:k<16):(0:Int)<2^k∧(2:Int)^k≤32768:=by
 have:∀k,k<16→(0:Int)<2^k∧(2:Int)^k≤32768:=by decide
 exact this k h
theorem ar3{x:Int}(hx:0≤x∧x<65536){k:Nat}(hk:k<16):0≤x*2^k∧x*2^k≤2147450880:=by
 obtain⟨h1,h2⟩:=yp k hk
 have h3:=Int.mul_nonneg hx.1 (Int.le_of_lt h1)
 have h4:x*2^k≤65535*32768:=Int.mul_le_mul (by omega) h2 (by omega) (by omega)
 omega
theorem aav(k:Nat):(65536:Int)^(k/16)*2^(k % 16)=2^k:=by
 have e:(65536:Int)=2^16:=by decide
 rw[e,←Int.pow_mul,←Int.pow_add,Nat.div_add_mod]
theorem aYY(cl:Bool)(A:List Int)(k:Nat)(hA:gd A)(lA:A.length≤1000000)(hk:k≤100000000):
  Con Tryz.prog 248 cl [.sl A.length (qc A),.v (.int .i64 k)] [] (aut (lim (vl A*2^k).toNat)):=by
 refine Con.of_aw Tryz.func248 rfl Tryz.ntmps248 (by simp) (by simp) (by simp) (W.sound ?_)
 show @W Tryz.prog 46 ⟨_⟩ ⟨fun x σ=>@q9 _ _ _ ⟨_⟩ _ ⟨_⟩ x σ⟩ _ _
 simp(disch:=omega)only[go_sem]
 refine qe (fun h0=>?_) (fun h0=>?_)
 ·simp(disch:=omega)only[go_sem,h0]
  have:A=[]:=List.length_eq_zero_iff.1 (by omega)
  subst this
  refine qi [] [] [] [.v (.slice none 0 0)] rfl (by simp(disch:=omega)only[go_sem]) (by simp(disch:=omega)only[go_sem]) (by simp) (by intro _;simp[zl,AV.pu,AV.pu.puL,Ob.pu,q8]) (.inl ⟨by simp[vl,qo],rfl,rfl⟩)
 ·simp(disch:=omega)only[go_sem,h0]
  refine⟨by omega,?_⟩
  have e16:((k:Int)/16).toNat=k/16:=by omega
  refine qh (fun x:Nat×List Int×Int=>[(1,.v (.int .i64 k)),(5,.rf 1 0 x.2.1.length),(6,.v (.int .i64 x.2.2)),(21,.sl A.length (qc A)),(22,.v (.int .i64 A.length)),(23,.v (.int .i64 x.1))])
   (fun x=>[(1,.own 1 (qc x.2.1))])
   (fun x=>x.1≤A.length∧x.2.1.length=k/16+x.1∧gd x.2.1∧(0≤x.2.2∧x.2.2<65536)∧vl x.2.1+65536^(k/16+x.1)*x.2.2=65536^(k/16)*2^(k % 16)*vl (A.take x.1))
   (fun x=>A.length-x.1) (0,List.replicate (k/16) 0,0) ⟨by simp,by simp,zr _,by simp,by simp[vl,zM]⟩
   (Le.lst [(1,220000000)] _ _ rfl (by simp(disch:=omega)only[go_sem,List.length_replicate,e16]) (by simp(disch:=omega)only[go_sem,e16])) ?_
  rintro⟨i,out,cy⟩ ⟨hi,hol,hog,hcy,hov⟩
  dsimp only at hi hol hog hcy hov ⊢
  simp(disch:=omega)only[go_sem]
  refine qe (fun h1=>?_) (fun h1=>?_)
  ·have hx:=qM hA i
   have hxs:=ar3 hx (show k % 16<16 by omega)
   have em:min ((k:Int) % 16).toNat 64=k % 16:=by omega
   simp(disch:=omega)only[go_sem,h1,em]
   generalize hq:cy+A.getD i 0*2^(k % 16)=q
   refine⟨by omega,by omega,by omega,by omega,qb (i+1,out++[q % 65536],q/65536) [(1,390000000)] ⟨by show i+1≤_;omega,by simp[hol];omega,qH.2 ⟨hog,zT.2 (by omega)⟩,by show 0≤q/65536∧q/65536<65536;omega,?_⟩ (by show A.length-(i+1)<A.length-i;omega) rfl (by simp(disch:=omega)only[go_sem,List.length_append];try omega) (by simp(disch:=omega)only[go_sem])⟩
   show vl (out++[q % 65536])+65536^(k/16+(i+1))*(q/65536)=65536^(k/16)*2^(k % 16)*vl (A.take (i+1))
   rw[jp,qU,hol,←Nat.add_assoc,Int.pow_succ]
   have e3:q % 65536+65536*(q/65536)=q:=Int.emod_add_mul_ediv q 65536
   rw[Int.pow_add]at hov ⊢
   generalize (65536:Int)^i=Pi at*
   generalize (65536:Int)^(k/16)=Pk at*
   generalize (2:Int)^(k % 16)=Pm at*
   grind
  ·simp(disch:=omega)only[go_sem,h1]
   have hiA:i=A.length:=by omega
   subst hiA
   rw[List.take_length,aav]at hov
   have hov2:vl (out++[cy])=vl A*2^k:=by rw[jp,hol,hov];grind
   have hog2:gd (out++[cy]):=qH.2 ⟨hog,zT.2 hcy⟩
   refine⟨by omega,?_⟩
   have hl2:out.length+1=(out++[cy]).length:=by simp
   rw[hl2]
   refine zh false [460000000] (jl (out++[cy]) (by simp;omega)) (by simp(disch:=omega)only[go_sem]) (by simp(disch:=omega)only[go_sem]) rfl (qX (z:=1) (cs:=qc (out++[cy])) (by simp(disch:=omega)only[go_sem]) (by simp(disch:=omega)only[go_sem])) (by intro n hn;exact⟨_,List.mem_singleton.2 rfl,by rw[List.mem_singleton.1 hn];rfl⟩) ?_
   rintro r hs bs ⟨rfl,rfl,rfl⟩ _
   refine⟨by simp[qT],?_⟩
   simp(disch:=omega)only[go_sem]
   obtain⟨z,hz⟩:=zL (out++[cy])
   have hc:=z8 hog2
   rw[hov2]at hc
   rw[hc]at hz ⊢
   refine qi [(0,460000000)] [.own 1 (qc (out++[cy]))] [] [.rf 0 0 (lim (vl A*2^k).toNat).length] rfl (by simp(disch:=omega)only[go_sem]) (by simp(disch:=omega)only[go_sem]) (by simp) (by intro _;simp[zl,AV.pu,AV.pu.puL,Ob.pu,q8]) (.inr ⟨List.replicate z 0,rfl,by rw[←hz]⟩)
end Go.Ab
namespace Go.Ab
open Go Go.Proofs
theorem aGa(V P:Int)(hP:0<P):V % (P*65536)=V % P+P*(V/P % 65536):=by
 rw[Int.emod_def,Int.emod_def,Int.emod_def,←Int.ediv_ediv_of_nonneg (Int.le_of_lt hP)]
 grind
theorem aFC{s:Nat}(hs:s<16):(65536:Int)=2^s*2^(16-s):=by
 rw[←Int.pow_add,show s+(16-s)=16 by omega];decide
theorem alI{D:List Int}(hD:gd D){i s:Nat}(hi:i<D.length)(hs:s<16):
  (vl D/2^s)/65536^i % 65536=(D.getD i 0+D.getD (i+1) 0*65536)/2^s % 65536:=by
 have h2:=(yp s hs).1
 rw[Int.ediv_ediv_of_nonneg (Int.le_of_lt h2),Int.mul_comm,←Int.ediv_ediv_of_nonneg (Int.le_of_lt (Int.pow_pos (by omega))),afY hD (by omega),zF hi]
 have h3:vl (D.drop (i+1))=D.getD (i+1) 0+65536*vl (D.drop (i+2)):=by
  rcases Nat.lt_or_ge (i+1) D.length with h|h
  ·exact zF h
  ·rw[List.drop_of_length_le h,List.drop_of_length_le (by omega),List.getD_eq_getElem?_getD,List.getElem?_eq_none h];simp[vl]
 rw[h3]
 have e:D.getD i 0+65536*(D.getD (i+1) 0+65536*vl (D.drop (i+2)))=(D.getD i 0+D.getD (i+1) 0*65536)+2^s*(65536*(2^(16-s)*vl (D.drop (i+2)))):=by
  have:=aFC hs
  generalize (2:Int)^s=a at*
  generalize (2:Int)^(16-s)=b at*
  grind
 rw[e,Int.add_mul_ediv_left _ _ (by omega),Int.add_mul_emod_self_left]
theorem arP{a b:Nat}(h:a≤b):(65536:Int)^a≤65536^b:=by
 obtain⟨d,rfl⟩:=Nat.exists_eq_add_of_le h
 have h1:(0:Int)<65536^a:=Int.pow_pos (by omega)
 have h2:(0:Int)<65536^d:=Int.pow_pos (by omega)
 have h3:=Int.mul_le_mul_of_nonneg_left (show(1:Int)≤65536^d by omega) (Int.le_of_lt h1)
 rw[Int.mul_one,←Int.pow_add]at h3
 exact h3
theorem aHw(cl:Bool)(A:List Int)(k:Nat)(hA:gd A)(lA:A.length≤1000000)(hk:k≤100000000):
  Con Tryz.prog 265 cl [.sl A.length (qc A),.v (.int .i64 k)] [] (aut (lim (vl A/2^k).toNat)):=by
 refine Con.of_aw Tryz.func265 rfl Tryz.ntmps265 (by simp) (by simp) (by simp) (W.sound ?_)
 show @W Tryz.prog 52 ⟨_⟩ ⟨fun x σ=>@q9 _ _ _ ⟨_⟩ _ ⟨_⟩ x σ⟩ _ _
 have hvk:vl A/2^k=vl A/65536^(k/16)/2^(k % 16):=by
  rw[Int.ediv_ediv_of_nonneg (Int.le_of_lt (Int.pow_pos (by omega))),aav]
 simp(disch:=omega)only[go_sem]
 refine qe (fun h0=>?_) (fun h0=>?_)
 ·simp(disch:=omega)only[go_sem,h0]
  have hz:vl A/2^k=0:=by
   rw[hvk,Int.ediv_eq_zero_of_lt (qW hA)]
   ·simp
   ·refine Int.lt_of_lt_of_le (QN hA) ?_
    exact arP (by omega)
  rw[hz]
  refine qi [] [] [] [.v (.slice none 0 0)] rfl (by simp(disch:=omega)only[go_sem]) (by simp(disch:=omega)only[go_sem]) (by simp) (by intro _;simp[zl,AV.pu,AV.pu.puL,Ob.pu,q8]) (.inl ⟨by simp[qo],rfl,rfl⟩)
 ·have e16:((k:Int)/16).toNat=k/16:=by omega
  have e17:((A.length:Int)-(k:Int)/16).toNat=(A.drop (k/16)).length:=by simp;omega
  have e18:(A.drop (k/16)).take (A.drop (k/16)).length=A.drop (k/16):=List.take_length
  have hvD:=afY hA (i:=k/16) (by omega)
  have hlD:(A.drop (k/16)).length≤1000000:=by simp;omega
  have hD:=yv hA (k/16)
  simp(disch:=omega)only[go_sem,h0,e16,e17,e18]
  generalize A.drop (k/16)=D at*
  refine⟨by omega,by omega,?_⟩
  refine qh (fun x:Nat×List Int=>[(1,.v (.int .i64 k)),(5,.sl D.length (qc D)),(6,.rf 1 0 x.2.length),(21,.sl D.length (qc D)),(22,.v (.int .i64 D.length)),(23,.v (.int .i64 x.1))])
   (fun x=>[(1,.own 1 (qc x.2))])
   (fun x=>x.1≤D.length∧x.2.length=x.1∧gd x.2∧vl x.2=vl D/2^(k % 16) % 65536^x.1)
   (fun x=>D.length-x.1) (0,[]) ⟨by simp,rfl,Jd,by simp[vl]⟩
   (Le.lst [(1,220000000)] _ _ rfl (by simp(disch:=omega)only[go_sem]) (by simp(disch:=omega)only[go_sem])) ?_
  rintro⟨i,out⟩ ⟨hi,hol,hog,hov⟩
  dsimp only at hi hol hog hov ⊢
  simp(disch:=omega)only[go_sem]
  refine qe (fun h1=>?_) (fun h1=>?_)
  ·have hx:=qM hD i
   have hy:=qM hD (i+1)
   have em:min ((k:Int) % 16).toNat 64=k % 16:=by omega
   have hm:=yp (k % 16) (by omega)
   have efd:∀x:Int,x.fdiv (2^(k % 16))=x/2^(k % 16):=fun x=>Int.fdiv_eq_ediv_of_nonneg _ (Int.le_of_lt hm.1)
   have hdig:=alI hD (i:=i) (s:=k % 16) (by omega) (by omega)
   have hnn:∀x:Int,0≤x→0≤x/2^(k % 16):=fun x hx=>Int.ediv_nonneg hx (Int.le_of_lt hm.1)
   have ei:((i:Int)+1).toNat=i+1:=by omega
   have hstep:∀z:Int,z=(D.getD i 0+D.getD (i+1) 0*65536)/2^(k % 16) % 65536→vl (out++[z])=vl D/2^(k % 16) % 65536^(i+1):=by
    intro z hz
    rw[jp,hov,hol,Int.pow_succ,aGa _ _ (Int.pow_pos (by omega)),hdig,hz]
   simp(disch:=omega)only[go_sem,h1]
   refine⟨by omega,by omega,qe (fun h2=>?_) (fun h2=>?_)⟩
   ·have hn1:=hnn (D.getD i 0+D.getD (i+1) 0*65536) (by omega)
    simp(disch:=omega)only[go_sem,h2,em,efd,ei]
    refine⟨by omega,by omega,by omega,by omega,qb (i+1,out++[(D.getD i 0+D.getD (i+1) 0*65536)/2^(k % 16) % 65536]) [(1,500000000)] ⟨by show i+1≤_;omega,by simp[hol],qH.2 ⟨hog,zT.2 (by omega)⟩,hstep _ rfl⟩ (by show D.length-(i+1)<D.length-i;omega) rfl (by simp(disch:=omega)only[go_sem,List.length_append];try omega) (by simp(disch:=omega)only[go_sem])⟩
   ·have hn1:=hnn (D.getD i 0) (by omega)
    simp(disch:=omega)only[go_sem,h2,em,efd]
    have hy0:D.getD (i+1) 0=0:=by rw[List.getD_eq_getElem?_getD,List.getElem?_eq_none (by omega)];rfl
    refine⟨by omega,by omega,qb (i+1,out++[D.getD i 0/2^(k % 16) % 65536]) [(1,500000000)] ⟨by show i+1≤_;omega,by simp[hol],qH.2 ⟨hog,zT.2 (by omega)⟩,hstep _ (by rw[hy0];simp)⟩ (by show D.length-(i+1)<D.length-i;omega) rfl (by simp(disch:=omega)only[go_sem,List.length_append];try omega) (by simp(disch:=omega)only[go_sem])⟩
  ·simp(disch:=omega)only[go_sem,h1]
   have hiD:i=D.length:=by omega
   subst hiD
   have hV:vl out=vl A/2^k:=by
    rw[hov,hvk,hvD]
    refine Int.emod_eq_of_lt (Int.ediv_nonneg (qW hD) (Int.le_of_lt (yp (k % 16) (by omega)).1)) ?_
    exact Int.lt_of_le_of_lt (Int.ediv_le_self _ (qW hD)) (QN hD)
   refine zh false [1] (jl out (by omega)) (by simp(disch:=omega)only[go_sem]) (by simp(disch:=omega)only[go_sem]) rfl (qX (z:=1) (cs:=qc out) (by simp(disch:=omega)only[go_sem]) (by simp(disch:=omega)only[go_sem])) (by intro n hn;exact⟨_,List.mem_singleton.2 rfl,by rw[List.mem_singleton.1 hn];rfl⟩) ?_
   rintro r hs bs ⟨rfl,rfl,rfl⟩ _
   refine⟨by simp[qT],?_⟩
   simp(disch:=omega)only[go_sem]
   obtain⟨z,hz⟩:=zL out
   have hc:=z8 hog
   rw[hV]at hc
   rw[hc]at hz ⊢
   refine qi [(0,1)] [.own 1 (qc out)] [] [.rf 0 0 (lim (vl A/2^k).toNat).length] rfl (by simp(disch:=omega)only[go_sem]) (by simp(disch:=omega)only[go_sem]) (by simp) (by intro _;simp[zl,AV.pu,AV.pu.puL,Ob.pu,q8]) (.inr ⟨List.replicate z 0,rfl,by rw[←hz]⟩)
end Go.Ab
namespace Go.Ab
open Go Go.Proofs
theorem drop_set{l:List Int}{i:Nat}(h:i<l.length)(z:Int):(l.set i z).drop i=z::l.drop (i+1):=by
 rw[List.drop_eq_getElem_cons (by simpa using h)]
 simp[List.drop_set]
theorem aHx(cl:Bool)(A:List Int)(d:Nat)(hA:gd A)(lA:A.length≤1000000)(hd:0<d)(hd2:d<65536):
  Con Tryz.prog 328 cl [.sl A.length (qc A),.v (.int .i64 d)] [] (fun r hs bs=>∃zs,r=.tu [.rf 0 0 (lim (vl A/d).toNat).length,.v (.int .i64 (vl A % d))]∧hs=[.own 1 (qc (lim (vl A/d).toNat++zs))]):=by
 refine Con.of_aw Tryz.func328 rfl Tryz.ntmps328 (by simp) (by simp) (by simp) (W.sound ?_)
 show @W Tryz.prog 38 ⟨_⟩ ⟨fun x σ=>@q9 _ _ _ ⟨_⟩ _ ⟨_⟩ x σ⟩ _ _
 simp(disch:=omega)only[go_sem]
 refine⟨by omega,?_⟩
 refine qh (fun x:Nat×List Int×Int=>[(0,.sl A.length (qc A)),(1,.v (.int .i64 d)),(6,.rf 130000000 0 A.length),(7,.v (.int .i64 x.2.2)),(8,.v (.int .i64 ((x.1:Int)-1)))])
  (fun x=>[(130000000,.own 1 (qc x.2.1))])
  (fun x=>x.1≤A.length∧x.2.1.length=A.length∧gd x.2.1∧x.2.2=vl (A.drop x.1) % d∧vl (x.2.1.drop x.1)=vl (A.drop x.1)/d)
  (fun x=>x.1) (A.length,List.replicate A.length 0,0) ⟨by simp,by simp,zr _,by simp[vl],by simp[vl]⟩
  (Le.lst [] _ _ rfl (by simp(disch:=omega)only[go_sem];try omega) (by simp(disch:=omega)only[go_sem])) ?_
 rintro⟨m,out,rest⟩ ⟨hm,hol,hog,hr,hov⟩
 dsimp only at hm hol hog hr hov ⊢
 simp(disch:=omega)only[go_sem]
 refine qe (fun h1=>?_) (fun h1=>?_)
 ·obtain⟨i,rfl⟩:∃i,m=i+1:=⟨m-1,by omega⟩
  have e1:((i+1:Nat):Int)-1=(i:Nat):=by omega
  have hx:=qM hA i
  have hr2:0≤rest∧rest<d:=by rw[hr];exact⟨Int.emod_nonneg _ (by omega),Int.emod_lt_of_pos _ (by omega)⟩
  generalize hq:rest*65536+A.getD i 0=q
  have hq0:0≤q:=by omega
  have hqd:0≤q/d∧q/d<65536:=⟨Int.ediv_nonneg hq0 (by omega),Int.ediv_lt_of_lt_mul (by omega) (by omega)⟩
  have hqm:0≤q % d∧q % d<d:=⟨Int.emod_nonneg _ (by omega),Int.emod_lt_of_pos _ (by omega)⟩
  simp(disch:=omega)only[go_sem,h1,e1,hq]
  refine⟨by omega,by omega,by omega,by omega,by omega,by omega,qb (i,out.set i (q/d),q % d) [] ⟨by show i≤_;omega,by simp[hol],yW hog hqd,?_,?_⟩ (by show i<i+1;omega) rfl (by simp(disch:=omega)only[go_sem]) (by simp(disch:=omega)only[go_sem])⟩
  ·show q % d=vl (A.drop i) % d
   rw[zF (l:=A) (i:=i) (by omega),←hq,hr]
   have h3:=Int.emod_add_mul_ediv (vl (A.drop (i+1))) d
   rw[show A.getD i 0+65536*vl (A.drop (i+1))=vl (A.drop (i+1)) % d*65536+A.getD i 0+d*(65536*(vl (A.drop (i+1))/d)) by grind,Int.add_mul_emod_self_left]
  ·show vl ((out.set i (q/d)).drop i)=vl (A.drop i)/d
   rw[drop_set (by omega),vl,hov,zF (l:=A) (i:=i) (by omega),←hq,hr]
   have h3:=Int.emod_add_mul_ediv (vl (A.drop (i+1))) d
   rw[show A.getD i 0+65536*vl (A.drop (i+1))=vl (A.drop (i+1)) % d*65536+A.getD i 0+d*(65536*(vl (A.drop (i+1))/d)) by grind,Int.add_mul_ediv_left _ _ (by omega)]
 ·simp(disch:=omega)only[go_sem,h1]
  have:m=0:=by omega
  subst this
  rw[List.drop_zero,List.drop_zero]at hov
  rw[List.drop_zero]at hr
  rw[←hol]
  refine zh false [130000000] (jl out (by omega)) (by simp(disch:=omega)only[go_sem]) (by simp(disch:=omega)only[go_sem]) rfl (qX (z:=1) (cs:=qc out) (by simp(disch:=omega)only[go_sem]) (by simp(disch:=omega)only[go_sem])) (by intro n hn;exact⟨_,List.mem_singleton.2 rfl,by rw[List.mem_singleton.1 hn];rfl⟩) ?_
  rintro r hs bs ⟨rfl,rfl,rfl⟩ _
  refine⟨by simp[qT],?_⟩
  simp(disch:=omega)only[go_sem]
  obtain⟨z,hz⟩:=zL out
  have hc:=z8 hog
  rw[hov]at hc
  rw[hc]at hz ⊢
  rw[hr]
  refine qi [(0,130000000)] [.own 1 (qc out)] [] [.rf 0 0 (lim (vl A/d).toNat).length,.v (.int .i64 (vl A % d))] rfl (by simp(disch:=omega)only[go_sem]) (by simp(disch:=omega)only[go_sem]) (by simp) (by intro _;simp[zl,AV.pu,AV.pu.puL,Ob.pu,q8]) ⟨List.replicate z 0,rfl,by rw[←hz]⟩
end Go.Ab
namespace Go.Ab
open Go Go.Proofs
theorem aHn(cl:Bool)(A B:List Int)(hA:gd A)(hB:gd B)(lA:A.length≤2000000)(lB:B.length≤2000000):
  Con Tryz.prog 304 cl [.sl A.length (qc A),.sl B.length (qc B)] [] (aut (lim (vl A+vl B).toNat)):=by
 refine Con.of_aw Tryz.func304 rfl Tryz.ntmps304 (by simp) (by simp) (by simp) (W.sound ?_)
 show @W Tryz.prog 53 ⟨_⟩ ⟨fun x σ=>@q9 _ _ _ ⟨_⟩ _ ⟨_⟩ x σ⟩ _ _
 simp(disch:=omega)only[go_sem]
 refine qe (fun h0=>?_) (fun h0=>?_)
 all_goals simp(disch:=omega)only[go_sem,h0]
 ·revert A B
  intro Y X hY hX lY lX h0'
  have h00:Y.length≤X.length:=by omega
  have hcm:vl Y+vl X=vl X+vl Y:=Int.add_comm _ _
  refine⟨by omega,?_⟩
  refine qh (fun x:Nat×List Int×Int=>[(1,.sl Y.length (qc Y)),(5,.rf 1 0 x.2.1.length),(6,.v (.int .i64 x.2.2)),(20,.sl X.length (qc X)),(21,.v (.int .i64 X.length)),(22,.v (.int .i64 x.1))])
   (fun x=>[(1,.own 1 (qc x.2.1))])
   (fun x=>x.1≤X.length∧x.2.1.length=x.1∧gd x.2.1∧(0≤x.2.2∧x.2.2≤1)∧vl x.2.1+65536^x.1*x.2.2=vl (X.take x.1)+vl (Y.take x.1))
   (fun x=>X.length-x.1) (0,[],0) ⟨by simp,rfl,Jd,by simp,by simp[vl]⟩
   (Le.lst [(1,210000000)] _ _ rfl (by simp(disch:=omega)only[go_sem]) (by simp(disch:=omega)only[go_sem])) ?_
  rintro⟨i,out,cy⟩ ⟨hi,hol,hog,hcy,hov⟩
  dsimp only at hi hol hog hcy hov ⊢
  simp(disch:=omega)only[go_sem]
  refine qe (fun h1=>?_) (fun h1=>?_)
  ·have hx:=qM hX i
   have hy:=qM hY i
   have hstep:∀q:Int,q=cy+X.getD i 0+Y.getD i 0→vl (out++[q % 65536])+65536^(i+1)*(q/65536)=vl (X.take (i+1))+vl (Y.take (i+1)):=by
    intro q hq
    rw[jp,qU,qU,hol,Int.pow_succ]
    have e3:q % 65536+65536*(q/65536)=q:=Int.emod_add_mul_ediv q 65536
    generalize (65536:Int)^i=Pi at*
    grind
   have hyz:¬i<Y.length→Y.getD i 0=0:=fun h=>by rw[List.getD_eq_getElem?_getD,List.getElem?_eq_none (by omega)];rfl
   simp(disch:=omega)only[go_sem,h1]
   refine⟨by omega,by omega,qe (fun h2=>?_) (fun h2=>?_)⟩
   ·simp(disch:=omega)only[go_sem,h2]
    generalize hq:cy+X.getD i 0+Y.getD i 0=q
    refine⟨by omega,by omega,by omega,qb (i+1,out++[q % 65536],q/65536) [(1,460000000)] ⟨by show i+1≤_;omega,by simp[hol],qH.2 ⟨hog,zT.2 (by omega)⟩,by show 0≤q/65536∧q/65536≤1;omega,hstep q hq.symm⟩ (by show X.length-(i+1)<X.length-i;omega) rfl (by simp(disch:=omega)only[go_sem,List.length_append];try omega) (by simp(disch:=omega)only[go_sem])⟩
   ·simp(disch:=omega)only[go_sem,h2]
    have hy0:=hyz (by omega)
    generalize hq:cy+X.getD i 0=q
    refine⟨by omega,qb (i+1,out++[q % 65536],q/65536) [(1,460000000)] ⟨by show i+1≤_;omega,by simp[hol],qH.2 ⟨hog,zT.2 (by omega)⟩,by show 0≤q/65536∧q/65536≤1;omega,hstep q (by omega)⟩ (by show X.length-(i+1)<X.length-i;omega) rfl (by simp(disch:=omega)only[go_sem,List.length_append];try omega) (by simp(disch:=omega)only[go_sem])⟩
  ·simp(disch:=omega)only[go_sem,h1]
   have hiA:i=X.length:=by omega
   subst hiA
   rw[List.take_length,List.take_of_length_le h00]at hov
   have hov2:vl (out++[cy])=vl X+vl Y:=by rw[jp,hol];exact hov
   have hog2:gd (out++[cy]):=qH.2 ⟨hog,zT.2 (by omega)⟩
   refine⟨by omega,?_⟩
   have hl2:out.length+1=(out++[cy]).length:=by simp
   rw[hl2]
   refine zh false [530000000] (jl (out++[cy]) (by simp;omega)) (by simp(disch:=omega)only[go_sem]) (by simp(disch:=omega)only[go_sem]) rfl (qX (z:=1) (cs:=qc (out++[cy])) (by simp(disch:=omega)only[go_sem]) (by simp(disch:=omega)only[go_sem])) (by intro n hn;exact⟨_,List.mem_singleton.2 rfl,by rw[List.mem_singleton.1 hn];rfl⟩) ?_
   rintro r hs bs ⟨rfl,rfl,rfl⟩ _
   refine⟨by simp[qT],?_⟩
   simp(disch:=omega)only[go_sem]
   obtain⟨z,hz⟩:=zL (out++[cy])
   have hc:=z8 hog2
   rw[hov2]at hc
   rw[hc]at hz ⊢
   refine qi [(0,530000000)] [.own 1 (qc (out++[cy]))] [] [.rf 0 0 (lim (vl X+vl Y).toNat).length] rfl (by simp(disch:=omega)only[go_sem]) (by simp(disch:=omega)only[go_sem]) (by simp) (by intro _;simp[zl,AV.pu,AV.pu.puL,Ob.pu,q8]) (.inr ⟨List.replicate z 0,by rw[hcm];rfl,by rw[hcm,←hz]⟩)
 ·revert A B
  intro X Y hX hY lX lY h0'
  have h00:Y.length≤X.length:=by omega
  have hcm:vl X+vl Y=vl X+vl Y:=rfl
  refine⟨by omega,?_⟩
  refine qh (fun x:Nat×List Int×Int=>[(1,.sl Y.length (qc Y)),(5,.rf 1 0 x.2.1.length),(6,.v (.int .i64 x.2.2)),(20,.sl X.length (qc X)),(21,.v (.int .i64 X.length)),(22,.v (.int .i64 x.1))])
   (fun x=>[(1,.own 1 (qc x.2.1))])
   (fun x=>x.1≤X.length∧x.2.1.length=x.1∧gd x.2.1∧(0≤x.2.2∧x.2.2≤1)∧vl x.2.1+65536^x.1*x.2.2=vl (X.take x.1)+vl (Y.take x.1))
   (fun x=>X.length-x.1) (0,[],0) ⟨by simp,rfl,Jd,by simp,by simp[vl]⟩
   (Le.lst [(1,210000000)] _ _ rfl (by simp(disch:=omega)only[go_sem]) (by simp(disch:=omega)only[go_sem])) ?_
  rintro⟨i,out,cy⟩ ⟨hi,hol,hog,hcy,hov⟩
  dsimp only at hi hol hog hcy hov ⊢
  simp(disch:=omega)only[go_sem]
  refine qe (fun h1=>?_) (fun h1=>?_)
  ·have hx:=qM hX i
   have hy:=qM hY i
   have hstep:∀q:Int,q=cy+X.getD i 0+Y.getD i 0→vl (out++[q % 65536])+65536^(i+1)*(q/65536)=vl (X.take (i+1))+vl (Y.take (i+1)):=by
    intro q hq
    rw[jp,qU,qU,hol,Int.pow_succ]
    have e3:q % 65536+65536*(q/65536)=q:=Int.emod_add_mul_ediv q 65536
    generalize (65536:Int)^i=Pi at*
    grind
   have hyz:¬i<Y.length→Y.getD i 0=0:=fun h=>by rw[List.getD_eq_getElem?_getD,List.getElem?_eq_none (by omega)];rfl
   simp(disch:=omega)only[go_sem,h1]
   refine⟨by omega,by omega,qe (fun h2=>?_) (fun h2=>?_)⟩
   ·simp(disch:=omega)only[go_sem,h2]
    generalize hq:cy+X.getD i 0+Y.getD i 0=q
    refine⟨by omega,by omega,by omega,qb (i+1,out++[q % 65536],q/65536) [(1,460000000)] ⟨by show i+1≤_;omega,by simp[hol],qH.2 ⟨hog,zT.2 (by omega)⟩,by show 0≤q/65536∧q/65536≤1;omega,hstep q hq.symm⟩ (by show X.length-(i+1)<X.length-i;omega) rfl (by simp(disch:=omega)only[go_sem,List.length_append];try omega) (by simp(disch:=omega)only[go_sem])⟩
   ·simp(disch:=omega)only[go_sem,h2]
    have hy0:=hyz (by omega)
    generalize hq:cy+X.getD i 0=q
    refine⟨by omega,qb (i+1,out++[q % 65536],q/65536) [(1,460000000)] ⟨by show i+1≤_;omega,by simp[hol],qH.2 ⟨hog,zT.2 (by omega)⟩,by show 0≤q/65536∧q/65536≤1;omega,hstep q (by omega)⟩ (by show X.length-(i+1)<X.length-i;omega) rfl (by simp(disch:=omega)only[go_sem,List.length_append];try omega) (by simp(disch:=omega)only[go_sem])⟩
  ·simp(disch:=omega)only[go_sem,h1]
   have hiA:i=X.length:=by omega
   subst hiA
   rw[List.take_length,List.take_of_length_le h00]at hov
   have hov2:vl (out++[cy])=vl X+vl Y:=by rw[jp,hol];exact hov
   have hog2:gd (out++[cy]):=qH.2 ⟨hog,zT.2 (by omega)⟩
   refine⟨by omega,?_⟩
   have hl2:out.length+1=(out++[cy]).length:=by simp
   rw[hl2]
   refine zh false [530000000] (jl (out++[cy]) (by simp;omega)) (by simp(disch:=omega)only[go_sem]) (by simp(disch:=omega)only[go_sem]) rfl (qX (z:=1) (cs:=qc (out++[cy])) (by simp(disch:=omega)only[go_sem]) (by simp(disch:=omega)only[go_sem])) (by intro n hn;exact⟨_,List.mem_singleton.2 rfl,by rw[List.mem_singleton.1 hn];rfl⟩) ?_
   rintro r hs bs ⟨rfl,rfl,rfl⟩ _
   refine⟨by simp[qT],?_⟩
   simp(disch:=omega)only[go_sem]
   obtain⟨z,hz⟩:=zL (out++[cy])
   have hc:=z8 hog2
   rw[hov2]at hc
   rw[hc]at hz ⊢
   refine qi [(0,530000000)] [.own 1 (qc (out++[cy]))] [] [.rf 0 0 (lim (vl X+vl Y).toNat).length] rfl (by simp(disch:=omega)only[go_sem]) (by simp(disch:=omega)only[go_sem]) (by simp) (by intro _;simp[zl,AV.pu,AV.pu.puL,Ob.pu,q8]) (.inr ⟨List.replicate z 0,by rw[hcm];rfl,by rw[hcm,←hz]⟩)
end Go.Ab
