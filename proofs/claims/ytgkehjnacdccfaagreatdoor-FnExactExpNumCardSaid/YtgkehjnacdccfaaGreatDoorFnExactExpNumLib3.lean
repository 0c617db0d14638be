/- What the proof of this claim stands on: the walks of the functions and the plain laws, part 3. -/
import Derived.Test.YtgkehjnacdccfaaGreatDoorFnExactExpNumLib2
import Derived.Test.YtgkehjnacdccfaaGreatDoorProg
import Derived.KernelRfl
set_option linter.unusedVariables false
set_option linter.unusedSimpArgs false
namespace Go.Ab
open Go Go.Proofs
def ti1:TI:=⟨Kd.oth,1,8,Value.nilFunc⟩
theorem tf1:ql Tryz.prog 1=some ti1:=by kernel_rfl
def ti2:TI:=⟨Kd.int IntKind.i64,1,8,Value.int IntKind.i64 0⟩
theorem tf2:ql Tryz.prog 2=some ti2:=by kernel_rfl
def ti3:TI:=⟨Kd.int IntKind.i64,1,8,Value.int IntKind.i64 0⟩
theorem tf3:ql Tryz.prog 3=some ti3:=by kernel_rfl
def ti4:TI:=⟨Kd.bool,1,1,Value.bool false⟩
theorem tf4:ql Tryz.prog 4=some ti4:=by kernel_rfl
def ti5:TI:=⟨Kd.int IntKind.u8,1,1,Value.int IntKind.u8 0⟩
theorem tf5:ql Tryz.prog 5=some ti5:=by kernel_rfl
def ti6:TI:=⟨Kd.int IntKind.u8,1,1,Value.int IntKind.u8 0⟩
theorem tf6:ql Tryz.prog 6=some ti6:=by kernel_rfl
def ti7:TI:=⟨Kd.stru [(0,2),(1,3),(2,4),(3,6)],4,24,Value.agg ⟨[Value.int IntKind.i64 0,Value.int IntKind.i64 0,Value.bool false,Value.int IntKind.u8 0]⟩⟩
theorem tf7:ql Tryz.prog 7=some ti7:=by kernel_rfl
def ti8:TI:=⟨Kd.stru [(0,2),(1,3),(2,4),(3,6)],4,24,Value.agg ⟨[Value.int IntKind.i64 0,Value.int IntKind.i64 0,Value.bool false,Value.int IntKind.u8 0]⟩⟩
theorem tf8:ql Tryz.prog 8=some ti8:=by kernel_rfl
def ti9:TI:=⟨Kd.str,1,16,Value.string {data:=⟨[]⟩}⟩
theorem tf9:ql Tryz.prog 9=some ti9:=by kernel_rfl
def aLb:TI:=⟨Kd.str,1,16,Value.string {data:=⟨[]⟩}⟩
theorem bn4:ql Tryz.prog 10=some aLb:=by kernel_rfl
def aLa:TI:=⟨Kd.str,1,16,Value.string {data:=⟨[]⟩}⟩
theorem bn3:ql Tryz.prog 11=some aLa:=by kernel_rfl
def aK9:TI:=⟨Kd.int IntKind.u64,1,8,Value.int IntKind.u64 0⟩
theorem bn2:ql Tryz.prog 12=some aK9:=by kernel_rfl
def aK8:TI:=⟨Kd.int IntKind.i32,1,4,Value.int IntKind.i32 0⟩
theorem bn1:ql Tryz.prog 21=some aK8:=by kernel_rfl
def aho:TI:=⟨Kd.sli 5,1,24,Value.slice none 0 0⟩
theorem aLf:ql Tryz.prog 22=some aho:=by kernel_rfl
def ahn:TI:=⟨Kd.sli 42,1,24,Value.slice none 0 0⟩
theorem aLe:ql Tryz.prog 23=some ahn:=by kernel_rfl
def aqw:TI:=⟨Kd.stru [(0,3),(1,23)],2,32,Value.agg ⟨[Value.int IntKind.i64 0,Value.slice none 0 0]⟩⟩
theorem bcZ:ql Tryz.prog 24=some aqw:=by kernel_rfl
def aql:TI:=⟨Kd.stru [(0,3),(1,23)],2,32,Value.agg ⟨[Value.int IntKind.i64 0,Value.slice none 0 0]⟩⟩
theorem bcY:ql Tryz.prog 25=some aql:=by kernel_rfl
def aK7:TI:=⟨Kd.oth,1,8,Value.nilFunc⟩
theorem bn0:ql Tryz.prog 27=some aK7:=by kernel_rfl
def ahm:TI:=⟨Kd.sli 90,1,24,Value.slice none 0 0⟩
theorem aLd:ql Tryz.prog 28=some ahm:=by kernel_rfl
def apL:TI:=⟨Kd.stru [(0,3),(1,28)],2,32,Value.agg ⟨[Value.int IntKind.i64 0,Value.slice none 0 0]⟩⟩
theorem bcX:ql Tryz.prog 29=some apL:=by kernel_rfl
def apA:TI:=⟨Kd.stru [(0,3),(1,28)],2,32,Value.agg ⟨[Value.int IntKind.i64 0,Value.slice none 0 0]⟩⟩
theorem bcW:ql Tryz.prog 30=some apA:=by kernel_rfl
def aK6:TI:=⟨Kd.oth,1,8,Value.nilFunc⟩
theorem bnZ:ql Tryz.prog 32=some aK6:=by kernel_rfl
def aK5:TI:=⟨Kd.oth,1,8,Value.nilFunc⟩
theorem bnY:ql Tryz.prog 33=some aK5:=by kernel_rfl
def aK4:TI:=⟨Kd.oth,1,8,Value.nilFunc⟩
theorem bnX:ql Tryz.prog 35=some aK4:=by kernel_rfl
def Ji:TI:=⟨Kd.sli 3,1,24,Value.slice none 0 0⟩
theorem aa9:ql Tryz.prog 36=some Ji:=by kernel_rfl
def awn:TI:=⟨Kd.stru [(0,36)],1,24,Value.agg ⟨[Value.slice none 0 0]⟩⟩
theorem bf2:ql Tryz.prog 37=some awn:=by kernel_rfl
def acG:TI:=⟨Kd.stru [(0,36)],1,24,Value.agg ⟨[Value.slice none 0 0]⟩⟩
theorem aGZ:ql Tryz.prog 38=some acG:=by kernel_rfl
def apn:TI:=⟨Kd.stru [(0,4),(1,38)],2,32,Value.agg ⟨[Value.bool false,Value.slice none 0 0]⟩⟩
theorem bcV:ql Tryz.prog 39=some apn:=by kernel_rfl
def Va:TI:=⟨Kd.stru [(0,4),(1,38)],2,32,Value.agg ⟨[Value.bool false,Value.slice none 0 0]⟩⟩
theorem awq:ql Tryz.prog 40=some Va:=by kernel_rfl
def apj:TI:=⟨Kd.stru [(0,40),(2,3)],3,40,Value.agg ⟨[Value.bool false,Value.slice none 0 0,Value.int IntKind.i64 0]⟩⟩
theorem bcU:ql Tryz.prog 41=some apj:=by kernel_rfl
def Z9:TI:=⟨Kd.stru [(0,40),(2,3)],3,40,Value.agg ⟨[Value.bool false,Value.slice none 0 0,Value.int IntKind.i64 0]⟩⟩
theorem aa8:ql Tryz.prog 42=some Z9:=by kernel_rfl
def aK3:TI:=⟨Kd.oth,1,8,Value.nilFunc⟩
theorem bnW:ql Tryz.prog 43=some aK3:=by kernel_rfl
def aK2:TI:=⟨Kd.oth,1,8,Value.nilFunc⟩
theorem bnV:ql Tryz.prog 44=some aK2:=by kernel_rfl
def aK1:TI:=⟨Kd.oth,1,8,Value.nilFunc⟩
theorem bnU:ql Tryz.prog 45=some aK1:=by kernel_rfl
def aK0:TI:=⟨Kd.oth,1,8,Value.nilFunc⟩
theorem bnT:ql Tryz.prog 46=some aK0:=by kernel_rfl
def aKZ:TI:=⟨Kd.oth,1,8,Value.nilFunc⟩
theorem bnS:ql Tryz.prog 47=some aKZ:=by kernel_rfl
def aKY:TI:=⟨Kd.oth,1,8,Value.nilFunc⟩
theorem bnR:ql Tryz.prog 48=some aKY:=by kernel_rfl
def aKX:TI:=⟨Kd.oth,1,8,Value.nilFunc⟩
theorem bnQ:ql Tryz.prog 49=some aKX:=by kernel_rfl
def aKW:TI:=⟨Kd.oth,1,8,Value.nilFunc⟩
theorem bnP:ql Tryz.prog 50=some aKW:=by kernel_rfl
def aKV:TI:=⟨Kd.oth,1,8,Value.nilFunc⟩
theorem bnO:ql Tryz.prog 52=some aKV:=by kernel_rfl
def aKU:TI:=⟨Kd.oth,1,8,Value.nilFunc⟩
theorem bnN:ql Tryz.prog 53=some aKU:=by kernel_rfl
def aKT:TI:=⟨Kd.oth,1,8,Value.nilFunc⟩
theorem bnM:ql Tryz.prog 54=some aKT:=by kernel_rfl
def aKS:TI:=⟨Kd.oth,1,8,Value.nilFunc⟩
theorem bnL:ql Tryz.prog 55=some aKS:=by kernel_rfl
def aKR:TI:=⟨Kd.oth,1,8,Value.nilFunc⟩
theorem bnK:ql Tryz.prog 56=some aKR:=by kernel_rfl
def aKQ:TI:=⟨Kd.oth,1,8,Value.nilFunc⟩
theorem bnJ:ql Tryz.prog 58=some aKQ:=by kernel_rfl
def aKP:TI:=⟨Kd.oth,1,8,Value.nilFunc⟩
theorem bnI:ql Tryz.prog 60=some aKP:=by kernel_rfl
def aKO:TI:=⟨Kd.oth,1,8,Value.nilFunc⟩
theorem bnH:ql Tryz.prog 61=some aKO:=by kernel_rfl
def aKN:TI:=⟨Kd.oth,1,8,Value.nilFunc⟩
theorem bnG:ql Tryz.prog 62=some aKN:=by kernel_rfl
def aKM:TI:=⟨Kd.oth,1,8,Value.nilFunc⟩
theorem bnF:ql Tryz.prog 64=some aKM:=by kernel_rfl
def aKL:TI:=⟨Kd.oth,1,8,Value.nilFunc⟩
theorem bnE:ql Tryz.prog 65=some aKL:=by kernel_rfl
def aKK:TI:=⟨Kd.oth,1,8,Value.nilFunc⟩
theorem bnD:ql Tryz.prog 66=some aKK:=by kernel_rfl
def aKJ:TI:=⟨Kd.oth,1,8,Value.nilFunc⟩
theorem bnC:ql Tryz.prog 67=some aKJ:=by kernel_rfl
def aKI:TI:=⟨Kd.oth,1,8,Value.nilFunc⟩
theorem bnB:ql Tryz.prog 68=some aKI:=by kernel_rfl
def aKH:TI:=⟨Kd.oth,1,8,Value.nilFunc⟩
theorem bnA:ql Tryz.prog 69=some aKH:=by kernel_rfl
def aKG:TI:=⟨Kd.oth,1,8,Value.nilFunc⟩
theorem bnz:ql Tryz.prog 70=some aKG:=by kernel_rfl
def aKF:TI:=⟨Kd.oth,1,8,Value.nilFunc⟩
theorem bny:ql Tryz.prog 71=some aKF:=by kernel_rfl
def aKE:TI:=⟨Kd.oth,1,8,Value.nilFunc⟩
theorem bnx:ql Tryz.prog 72=some aKE:=by kernel_rfl
def aKD:TI:=⟨Kd.oth,1,8,Value.nilFunc⟩
theorem bnw:ql Tryz.prog 73=some aKD:=by kernel_rfl
def ahl:TI:=⟨Kd.sli 87,1,24,Value.slice none 0 0⟩
theorem aLc:ql Tryz.prog 74=some ahl:=by kernel_rfl
def aoL:TI:=⟨Kd.stru [(0,3),(1,74)],2,32,Value.agg ⟨[Value.int IntKind.i64 0,Value.slice none 0 0]⟩⟩
theorem bcT:ql Tryz.prog 75=some aoL:=by kernel_rfl
def aoJ:TI:=⟨Kd.stru [(0,3),(1,74)],2,32,Value.agg ⟨[Value.int IntKind.i64 0,Value.slice none 0 0]⟩⟩
theorem bcS:ql Tryz.prog 76=some aoJ:=by kernel_rfl
def aKC:TI:=⟨Kd.oth,1,8,Value.nilFunc⟩
theorem bnv:ql Tryz.prog 77=some aKC:=by kernel_rfl
def aKB:TI:=⟨Kd.oth,1,8,Value.nilFunc⟩
theorem bnu:ql Tryz.prog 78=some aKB:=by kernel_rfl
def aKA:TI:=⟨Kd.oth,1,8,Value.nilFunc⟩
theorem bnt:ql Tryz.prog 79=some aKA:=by kernel_rfl
def aKz:TI:=⟨Kd.oth,1,8,Value.nilFunc⟩
theorem bns:ql Tryz.prog 80=some aKz:=by kernel_rfl
def aKy:TI:=⟨Kd.oth,1,8,Value.nilFunc⟩
theorem bnr:ql Tryz.prog 81=some aKy:=by kernel_rfl
def aKx:TI:=⟨Kd.oth,1,8,Value.nilFunc⟩
theorem bnq:ql Tryz.prog 82=some aKx:=by kernel_rfl
def acF:TI:=⟨Kd.stru [(0,36)],1,24,Value.agg ⟨[Value.slice none 0 0]⟩⟩
theorem aGY:ql Tryz.prog 83=some acF:=by kernel_rfl
def aoz:TI:=⟨Kd.stru [(0,4),(1,83)],2,32,Value.agg ⟨[Value.bool false,Value.slice none 0 0]⟩⟩
theorem bcR:ql Tryz.prog 84=some aoz:=by kernel_rfl
def X9:TI:=⟨Kd.stru [(0,4),(1,83)],2,32,Value.agg ⟨[Value.bool false,Value.slice none 0 0]⟩⟩
theorem awo:ql Tryz.prog 85=some X9:=by kernel_rfl
def aow:TI:=⟨Kd.stru [(0,85),(2,3)],3,40,Value.agg ⟨[Value.bool false,Value.slice none 0 0,Value.int IntKind.i64 0]⟩⟩
theorem bcQ:ql Tryz.prog 86=some aow:=by kernel_rfl
def an0:TI:=⟨Kd.stru [(0,85),(2,3)],3,40,Value.agg ⟨[Value.bool false,Value.slice none 0 0,Value.int IntKind.i64 0]⟩⟩
theorem aVp:ql Tryz.prog 87=some an0:=by kernel_rfl
def aKw:TI:=⟨Kd.oth,1,8,Value.nilFunc⟩
theorem bnp:ql Tryz.prog 88=some aKw:=by kernel_rfl
def aos:TI:=⟨Kd.stru [(0,42),(3,42)],6,80,Value.agg ⟨[Value.bool false,Value.slice none 0 0,Value.int IntKind.i64 0,Value.bool false,Value.slice none 0 0,Value.int IntKind.i64 0]⟩⟩
theorem bcP:ql Tryz.prog 89=some aos:=by kernel_rfl
def anZ:TI:=⟨Kd.stru [(0,42),(3,42)],6,80,Value.agg ⟨[Value.bool false,Value.slice none 0 0,Value.int IntKind.i64 0,Value.bool false,Value.slice none 0 0,Value.int IntKind.i64 0]⟩⟩
theorem aVo:ql Tryz.prog 90=some anZ:=by kernel_rfl
def aKv:TI:=⟨Kd.oth,1,8,Value.nilFunc⟩
theorem bno:ql Tryz.prog 92=some aKv:=by kernel_rfl
def aKu:TI:=⟨Kd.oth,1,8,Value.nilFunc⟩
theorem bnn:ql Tryz.prog 93=some aKu:=by kernel_rfl
def aKt:TI:=⟨Kd.oth,1,8,Value.nilFunc⟩
theorem bnm:ql Tryz.prog 94=some aKt:=by kernel_rfl
def aKs:TI:=⟨Kd.oth,1,8,Value.nilFunc⟩
theorem bnl:ql Tryz.prog 95=some aKs:=by kernel_rfl
def aKr:TI:=⟨Kd.oth,1,8,Value.nilFunc⟩
theorem bnk:ql Tryz.prog 96=some aKr:=by kernel_rfl
def aKq:TI:=⟨Kd.oth,1,8,Value.nilFunc⟩
theorem bnj:ql Tryz.prog 97=some aKq:=by kernel_rfl
def aKp:TI:=⟨Kd.oth,1,8,Value.nilFunc⟩
theorem bni:ql Tryz.prog 98=some aKp:=by kernel_rfl
def aKo:TI:=⟨Kd.oth,1,8,Value.nilFunc⟩
theorem bnh:ql Tryz.prog 99=some aKo:=by kernel_rfl
def aa4:TI:=⟨Kd.oth,1,8,Value.nilFunc⟩
theorem biO:ql Tryz.prog 101=some aa4:=by kernel_rfl
def aa3:TI:=⟨Kd.oth,1,8,Value.nilFunc⟩
theorem biN:ql Tryz.prog 102=some aa3:=by kernel_rfl
def aa2:TI:=⟨Kd.oth,1,8,Value.nilFunc⟩
theorem biM:ql Tryz.prog 103=some aa2:=by kernel_rfl
def aa1:TI:=⟨Kd.oth,1,8,Value.nilFunc⟩
theorem biL:ql Tryz.prog 104=some aa1:=by kernel_rfl
def QO:TI:=⟨Kd.sli 125,1,24,Value.slice none 0 0⟩
theorem aba:ql Tryz.prog 105=some QO:=by kernel_rfl
def Jn:TI:=⟨Kd.stru [(0,3),(1,105)],2,32,Value.agg ⟨[Value.int IntKind.i64 0,Value.slice none 0 0]⟩⟩
theorem aG4:ql Tryz.prog 106=some Jn:=by kernel_rfl
def Jm:TI:=⟨Kd.stru [(0,3),(1,105)],2,32,Value.agg ⟨[Value.int IntKind.i64 0,Value.slice none 0 0]⟩⟩
theorem aG3:ql Tryz.prog 107=some Jm:=by kernel_rfl
def QC:TI:=⟨Kd.sli 117,1,24,Value.slice none 0 0⟩
theorem Y9:ql Tryz.prog 108=some QC:=by kernel_rfl
def Jl:TI:=⟨Kd.stru [(0,3),(1,108)],2,32,Value.agg ⟨[Value.int IntKind.i64 0,Value.slice none 0 0]⟩⟩
theorem aG2:ql Tryz.prog 109=some Jl:=by kernel_rfl
def Jk:TI:=⟨Kd.stru [(0,3),(1,108)],2,32,Value.agg ⟨[Value.int IntKind.i64 0,Value.slice none 0 0]⟩⟩
theorem aG1:ql Tryz.prog 110=some Jk:=by kernel_rfl
def aaZ:TI:=⟨Kd.oth,1,8,Value.nilFunc⟩
theorem biK:ql Tryz.prog 111=some aaZ:=by kernel_rfl
def aaY:TI:=⟨Kd.oth,1,8,Value.nilFunc⟩
theorem biJ:ql Tryz.prog 112=some aaY:=by kernel_rfl
def aaX:TI:=⟨Kd.oth,1,8,Value.nilFunc⟩
theorem biI:ql Tryz.prog 113=some aaX:=by kernel_rfl
def aaW:TI:=⟨Kd.oth,1,8,Value.nilFunc⟩
theorem biH:ql Tryz.prog 114=some aaW:=by kernel_rfl
def aaV:TI:=⟨Kd.oth,1,8,Value.nilFunc⟩
theorem biG:ql Tryz.prog 115=some aaV:=by kernel_rfl
def Z1:TI:=⟨Kd.stru [(0,4),(1,36),(2,3)],3,40,Value.agg ⟨[Value.bool false,Value.slice none 0 0,Value.int IntKind.i64 0]⟩⟩
theorem asS:ql Tryz.prog 116=some Z1:=by kernel_rfl
def jw:TI:=⟨Kd.stru [(0,4),(1,36),(2,3)],3,40,Value.agg ⟨[Value.bool false,Value.slice none 0 0,Value.int IntKind.i64 0]⟩⟩
theorem yO:ql Tryz.prog 117=some jw:=by kernel_rfl
def aaU:TI:=⟨Kd.oth,1,8,Value.nilFunc⟩
theorem biF:ql Tryz.prog 118=some aaU:=by kernel_rfl
def aaT:TI:=⟨Kd.oth,1,8,Value.nilFunc⟩
theorem biE:ql Tryz.prog 119=some aaT:=by kernel_rfl
def aaS:TI:=⟨Kd.oth,1,8,Value.nilFunc⟩
theorem biD:ql Tryz.prog 120=some aaS:=by kernel_rfl
def aaR:TI:=⟨Kd.oth,1,8,Value.nilFunc⟩
theorem biC:ql Tryz.prog 121=some aaR:=by kernel_rfl
def aaQ:TI:=⟨Kd.oth,1,8,Value.nilFunc⟩
theorem biB:ql Tryz.prog 122=some aaQ:=by kernel_rfl
def aaP:TI:=⟨Kd.oth,1,8,Value.nilFunc⟩
theorem biA:ql Tryz.prog 123=some aaP:=by kernel_rfl
def Jj:TI:=⟨Kd.stru [(0,117),(3,117)],6,80,Value.agg ⟨[Value.bool false,Value.slice none 0 0,Value.int IntKind.i64 0,Value.bool false,Value.slice none 0 0,Value.int IntKind.i64 0]⟩⟩
theorem aG0:ql Tryz.prog 124=some Jj:=by kernel_rfl
def Z0:TI:=⟨Kd.stru [(0,117),(3,117)],6,80,Value.agg ⟨[Value.bool false,Value.slice none 0 0,Value.int IntKind.i64 0,Value.bool false,Value.slice none 0 0,Value.int IntKind.i64 0]⟩⟩
theorem asR:ql Tryz.prog 125=some Z0:=by kernel_rfl
def aaO:TI:=⟨Kd.oth,1,8,Value.nilFunc⟩
theorem biz:ql Tryz.prog 127=some aaO:=by kernel_rfl
def aaN:TI:=⟨Kd.oth,1,8,Value.nilFunc⟩
theorem biy:ql Tryz.prog 128=some aaN:=by kernel_rfl
def aaM:TI:=⟨Kd.oth,1,8,Value.nilFunc⟩
theorem bix:ql Tryz.prog 129=some aaM:=by kernel_rfl
def aaL:TI:=⟨Kd.oth,1,8,Value.nilFunc⟩
theorem biw:ql Tryz.prog 130=some aaL:=by kernel_rfl
def aaK:TI:=⟨Kd.oth,1,8,Value.nilFunc⟩
theorem biv:ql Tryz.prog 131=some aaK:=by kernel_rfl
def aaJ:TI:=⟨Kd.oth,1,8,Value.nilFunc⟩
theorem biu:ql Tryz.prog 132=some aaJ:=by kernel_rfl
def aaI:TI:=⟨Kd.oth,1,8,Value.nilFunc⟩
theorem bit:ql Tryz.prog 133=some aaI:=by kernel_rfl
def aaH:TI:=⟨Kd.oth,1,8,Value.nilFunc⟩
theorem bis:ql Tryz.prog 134=some aaH:=by kernel_rfl
def aaG:TI:=⟨Kd.oth,1,8,Value.nilFunc⟩
theorem bir:ql Tryz.prog 135=some aaG:=by kernel_rfl
def aaF:TI:=⟨Kd.oth,1,8,Value.nilFunc⟩
theorem biq:ql Tryz.prog 136=some aaF:=by kernel_rfl
def aaE:TI:=⟨Kd.oth,1,8,Value.nilFunc⟩
theorem bip:ql Tryz.prog 137=some aaE:=by kernel_rfl
def aaD:TI:=⟨Kd.oth,1,8,Value.nilFunc⟩
theorem bio:ql Tryz.prog 138=some aaD:=by kernel_rfl
def aaC:TI:=⟨Kd.oth,1,8,Value.nilFunc⟩
theorem bin:ql Tryz.prog 139=some aaC:=by kernel_rfl
def aaB:TI:=⟨Kd.oth,1,8,Value.nilFunc⟩
theorem bim:ql Tryz.prog 141=some aaB:=by kernel_rfl
def aaA:TI:=⟨Kd.oth,1,8,Value.nilFunc⟩
theorem bil:ql Tryz.prog 142=some aaA:=by kernel_rfl
def aaz:TI:=⟨Kd.oth,1,8,Value.nilFunc⟩
theorem bik:ql Tryz.prog 143=some aaz:=by kernel_rfl
def aay:TI:=⟨Kd.oth,1,8,Value.nilFunc⟩
theorem bij:ql Tryz.prog 144=some aay:=by kernel_rfl
def aax:TI:=⟨Kd.oth,1,8,Value.nilFunc⟩
theorem bii:ql Tryz.prog 145=some aax:=by kernel_rfl
def aaw:TI:=⟨Kd.oth,1,8,Value.nilFunc⟩
theorem bih:ql Tryz.prog 146=some aaw:=by kernel_rfl
def aav:TI:=⟨Kd.oth,1,8,Value.nilFunc⟩
theorem big:ql Tryz.prog 147=some aav:=by kernel_rfl
def aau:TI:=⟨Kd.oth,1,8,Value.nilFunc⟩
theorem bie:ql Tryz.prog 148=some aau:=by kernel_rfl
def aat:TI:=⟨Kd.oth,1,8,Value.nilFunc⟩
theorem bid:ql Tryz.prog 149=some aat:=by kernel_rfl
def aas:TI:=⟨Kd.oth,1,8,Value.nilFunc⟩
theorem bic:ql Tryz.prog 150=some aas:=by kernel_rfl
def aar:TI:=⟨Kd.oth,1,8,Value.nilFunc⟩
theorem bib:ql Tryz.prog 151=some aar:=by kernel_rfl
def aaq:TI:=⟨Kd.oth,1,8,Value.nilFunc⟩
theorem bia:ql Tryz.prog 152=some aaq:=by kernel_rfl
def aap:TI:=⟨Kd.oth,1,8,Value.nilFunc⟩
theorem bh9:ql Tryz.prog 153=some aap:=by kernel_rfl
def aao:TI:=⟨Kd.oth,1,8,Value.nilFunc⟩
theorem bh8:ql Tryz.prog 154=some aao:=by kernel_rfl
def aan:TI:=⟨Kd.oth,1,8,Value.nilFunc⟩
theorem bh7:ql Tryz.prog 155=some aan:=by kernel_rfl
def aam:TI:=⟨Kd.oth,1,8,Value.nilFunc⟩
theorem bh6:ql Tryz.prog 156=some aam:=by kernel_rfl
def aal:TI:=⟨Kd.oth,1,8,Value.nilFunc⟩
theorem bh5:ql Tryz.prog 157=some aal:=by kernel_rfl
def aak:TI:=⟨Kd.oth,1,8,Value.nilFunc⟩
theorem bh4:ql Tryz.prog 158=some aak:=by kernel_rfl
def aaj:TI:=⟨Kd.oth,1,8,Value.nilFunc⟩
theorem bh3:ql Tryz.prog 159=some aaj:=by kernel_rfl
def aai:TI:=⟨Kd.oth,1,8,Value.nilFunc⟩
theorem bh2:ql Tryz.prog 160=some aai:=by kernel_rfl
def aah:TI:=⟨Kd.oth,1,8,Value.nilFunc⟩
theorem bh1:ql Tryz.prog 161=some aah:=by kernel_rfl
def aag:TI:=⟨Kd.oth,1,8,Value.nilFunc⟩
theorem bh0:ql Tryz.prog 162=some aag:=by kernel_rfl
def aaf:TI:=⟨Kd.oth,1,8,Value.nilFunc⟩
theorem bhZ:ql Tryz.prog 163=some aaf:=by kernel_rfl
def aae:TI:=⟨Kd.oth,1,8,Value.nilFunc⟩
theorem bhY:ql Tryz.prog 164=some aae:=by kernel_rfl
def aad:TI:=⟨Kd.oth,1,8,Value.nilFunc⟩
theorem bhX:ql Tryz.prog 165=some aad:=by kernel_rfl
def aac:TI:=⟨Kd.oth,1,8,Value.nilFunc⟩
theorem bhW:ql Tryz.prog 166=some aac:=by kernel_rfl
def aab:TI:=⟨Kd.oth,1,8,Value.nilFunc⟩
theorem bhV:ql Tryz.prog 167=some aab:=by kernel_rfl
def aaa:TI:=⟨Kd.oth,1,8,Value.nilFunc⟩
theorem bhU:ql Tryz.prog 168=some aaa:=by kernel_rfl
def K9:TI:=⟨Kd.oth,1,8,Value.nilFunc⟩
theorem bhT:ql Tryz.prog 169=some K9:=by kernel_rfl
def K8:TI:=⟨Kd.oth,1,8,Value.nilFunc⟩
theorem bhS:ql Tryz.prog 170=some K8:=by kernel_rfl
def K7:TI:=⟨Kd.oth,1,8,Value.nilFunc⟩
theorem bhR:ql Tryz.prog 171=some K7:=by kernel_rfl
def K6:TI:=⟨Kd.oth,1,8,Value.nilFunc⟩
theorem bhQ:ql Tryz.prog 172=some K6:=by kernel_rfl
def K5:TI:=⟨Kd.oth,1,8,Value.nilFunc⟩
theorem bhP:ql Tryz.prog 173=some K5:=by kernel_rfl
def K4:TI:=⟨Kd.oth,1,8,Value.nilFunc⟩
theorem bhO:ql Tryz.prog 174=some K4:=by kernel_rfl
def K3:TI:=⟨Kd.oth,1,8,Value.nilFunc⟩
theorem bhN:ql Tryz.prog 175=some K3:=by kernel_rfl
def ZZ:TI:=⟨Kd.stru [(0,22),(1,3),(2,3)],3,40,Value.agg ⟨[Value.slice none 0 0,Value.int IntKind.i64 0,Value.int IntKind.i64 0]⟩⟩
theorem asQ:ql Tryz.prog 176=some ZZ:=by kernel_rfl
def ZY:TI:=⟨Kd.stru [(0,22),(1,3),(2,3)],3,40,Value.agg ⟨[Value.slice none 0 0,Value.int IntKind.i64 0,Value.int IntKind.i64 0]⟩⟩
theorem asP:ql Tryz.prog 177=some ZY:=by kernel_rfl
def K2:TI:=⟨Kd.oth,1,8,Value.nilFunc⟩
theorem bhM:ql Tryz.prog 178=some K2:=by kernel_rfl
def KZ:TI:=⟨Kd.oth,1,8,Value.nilFunc⟩
theorem bhL:ql Tryz.prog 179=some KZ:=by kernel_rfl
def KY:TI:=⟨Kd.oth,1,8,Value.nilFunc⟩
theorem bhK:ql Tryz.prog 180=some KY:=by kernel_rfl
def KX:TI:=⟨Kd.oth,1,8,Value.nilFunc⟩
theorem bhJ:ql Tryz.prog 181=some KX:=by kernel_rfl
def KW:TI:=⟨Kd.oth,1,8,Value.nilFunc⟩
theorem bhI:ql Tryz.prog 182=some KW:=by kernel_rfl
def KU:TI:=⟨Kd.oth,1,8,Value.nilFunc⟩
theorem bhH:ql Tryz.prog 183=some KU:=by kernel_rfl
def KT:TI:=⟨Kd.oth,1,8,Value.nilFunc⟩
theorem bhG:ql Tryz.prog 184=some KT:=by kernel_rfl
def KS:TI:=⟨Kd.oth,1,8,Value.nilFunc⟩
theorem bhF:ql Tryz.prog 185=some KS:=by kernel_rfl
def KR:TI:=⟨Kd.oth,1,8,Value.nilFunc⟩
theorem bhE:ql Tryz.prog 186=some KR:=by kernel_rfl
def KQ:TI:=⟨Kd.oth,1,8,Value.nilFunc⟩
theorem bhD:ql Tryz.prog 188=some KQ:=by kernel_rfl
def KP:TI:=⟨Kd.oth,1,8,Value.nilFunc⟩
theorem bhC:ql Tryz.prog 189=some KP:=by kernel_rfl
def KO:TI:=⟨Kd.oth,1,8,Value.nilFunc⟩
theorem bhB:ql Tryz.prog 190=some KO:=by kernel_rfl
def KN:TI:=⟨Kd.oth,1,8,Value.nilFunc⟩
theorem bhA:ql Tryz.prog 191=some KN:=by kernel_rfl
def KM:TI:=⟨Kd.oth,1,8,Value.nilFunc⟩
theorem bhz:ql Tryz.prog 192=some KM:=by kernel_rfl
def KL:TI:=⟨Kd.oth,1,8,Value.nilFunc⟩
theorem bhy:ql Tryz.prog 193=some KL:=by kernel_rfl
def KK:TI:=⟨Kd.oth,1,8,Value.nilFunc⟩
theorem bhx:ql Tryz.prog 194=some KK:=by kernel_rfl
def KJ:TI:=⟨Kd.sli 108,1,24,Value.slice none 0 0⟩
theorem aVq:ql Tryz.prog 195=some KJ:=by kernel_rfl
def KI:TI:=⟨Kd.oth,1,8,Value.nilFunc⟩
theorem bhw:ql Tryz.prog 196=some KI:=by kernel_rfl
def KH:TI:=⟨Kd.oth,1,8,Value.nilFunc⟩
theorem bhv:ql Tryz.prog 197=some KH:=by kernel_rfl
def KG:TI:=⟨Kd.oth,1,8,Value.nilFunc⟩
theorem bhu:ql Tryz.prog 198=some KG:=by kernel_rfl
def KF:TI:=⟨Kd.oth,1,8,Value.nilFunc⟩
theorem bht:ql Tryz.prog 200=some KF:=by kernel_rfl
def KE:TI:=⟨Kd.oth,1,8,Value.nilFunc⟩
theorem bhs:ql Tryz.prog 201=some KE:=by kernel_rfl
def KD:TI:=⟨Kd.oth,1,8,Value.nilFunc⟩
theorem bhr:ql Tryz.prog 202=some KD:=by kernel_rfl
def KC:TI:=⟨Kd.oth,1,8,Value.nilFunc⟩
theorem bhq:ql Tryz.prog 204=some KC:=by kernel_rfl
def KB:TI:=⟨Kd.oth,1,8,Value.nilFunc⟩
theorem bho:ql Tryz.prog 206=some KB:=by kernel_rfl
def KA:TI:=⟨Kd.oth,1,8,Value.nilFunc⟩
theorem bhn:ql Tryz.prog 207=some KA:=by kernel_rfl
def Kw:TI:=⟨Kd.oth,1,8,Value.nilFunc⟩
theorem bhm:ql Tryz.prog 208=some Kw:=by kernel_rfl
def Kv:TI:=⟨Kd.oth,1,8,Value.nilFunc⟩
theorem bhl:ql Tryz.prog 209=some Kv:=by kernel_rfl
def Ku:TI:=⟨Kd.oth,1,8,Value.nilFunc⟩
theorem bhk:ql Tryz.prog 210=some Ku:=by kernel_rfl
def Kt:TI:=⟨Kd.oth,1,8,Value.nilFunc⟩
theorem bhj:ql Tryz.prog 211=some Kt:=by kernel_rfl
def Ks:TI:=⟨Kd.oth,1,8,Value.nilFunc⟩
theorem bhi:ql Tryz.prog 213=some Ks:=by kernel_rfl
def Kr:TI:=⟨Kd.oth,1,8,Value.nilFunc⟩
theorem bhh:ql Tryz.prog 214=some Kr:=by kernel_rfl
def Kq:TI:=⟨Kd.oth,1,8,Value.nilFunc⟩
theorem bhg:ql Tryz.prog 215=some Kq:=by kernel_rfl
def Kp:TI:=⟨Kd.oth,1,8,Value.nilFunc⟩
theorem bhf:ql Tryz.prog 216=some Kp:=by kernel_rfl
def Ko:TI:=⟨Kd.oth,1,8,Value.nilFunc⟩
theorem bhe:ql Tryz.prog 217=some Ko:=by kernel_rfl
def Kn:TI:=⟨Kd.oth,1,8,Value.nilFunc⟩
theorem bhd:ql Tryz.prog 218=some Kn:=by kernel_rfl
def Km:TI:=⟨Kd.oth,1,8,Value.nilFunc⟩
theorem bhc:ql Tryz.prog 219=some Km:=by kernel_rfl
def Kl:TI:=⟨Kd.oth,1,8,Value.nilFunc⟩
theorem bhb:ql Tryz.prog 220=some Kl:=by kernel_rfl
def Kk:TI:=⟨Kd.oth,1,8,Value.nilFunc⟩
theorem bha:ql Tryz.prog 221=some Kk:=by kernel_rfl
def Kj:TI:=⟨Kd.oth,1,8,Value.nilFunc⟩
theorem bg9:ql Tryz.prog 222=some Kj:=by kernel_rfl
def Ki:TI:=⟨Kd.oth,1,8,Value.nilFunc⟩
theorem bg8:ql Tryz.prog 223=some Ki:=by kernel_rfl
def Kh:TI:=⟨Kd.oth,1,8,Value.nilFunc⟩
theorem bg7:ql Tryz.prog 224=some Kh:=by kernel_rfl
def Kg:TI:=⟨Kd.oth,1,8,Value.nilFunc⟩
theorem bg6:ql Tryz.prog 225=some Kg:=by kernel_rfl
def Kf:TI:=⟨Kd.oth,1,8,Value.nilFunc⟩
theorem bg5:ql Tryz.prog 226=some Kf:=by kernel_rfl
def Ke:TI:=⟨Kd.oth,1,8,Value.nilFunc⟩
theorem bg4:ql Tryz.prog 227=some Ke:=by kernel_rfl
def Kc:TI:=⟨Kd.oth,1,8,Value.nilFunc⟩
theorem bg3:ql Tryz.prog 228=some Kc:=by kernel_rfl
def Ka:TI:=⟨Kd.oth,1,8,Value.nilFunc⟩
theorem bg2:ql Tryz.prog 229=some Ka:=by kernel_rfl
def V9:TI:=⟨Kd.oth,1,8,Value.nilFunc⟩
theorem bg1:ql Tryz.prog 230=some V9:=by kernel_rfl
def V8:TI:=⟨Kd.oth,1,8,Value.nilFunc⟩
theorem bg0:ql Tryz.prog 231=some V8:=by kernel_rfl
def V7:TI:=⟨Kd.oth,1,8,Value.nilFunc⟩
theorem bgZ:ql Tryz.prog 233=some V7:=by kernel_rfl
def V6:TI:=⟨Kd.oth,1,8,Value.nilFunc⟩
theorem bgY:ql Tryz.prog 234=some V6:=by kernel_rfl
def V5:TI:=⟨Kd.oth,1,8,Value.nilFunc⟩
theorem bgX:ql Tryz.prog 235=some V5:=by kernel_rfl
def V4:TI:=⟨Kd.oth,1,8,Value.nilFunc⟩
theorem bgW:ql Tryz.prog 236=some V4:=by kernel_rfl
def V3:TI:=⟨Kd.oth,1,8,Value.nilFunc⟩
theorem bgV:ql Tryz.prog 237=some V3:=by kernel_rfl
def V2:TI:=⟨Kd.oth,1,8,Value.nilFunc⟩
theorem bgU:ql Tryz.prog 238=some V2:=by kernel_rfl
def V1:TI:=⟨Kd.oth,1,8,Value.nilFunc⟩
theorem bgT:ql Tryz.prog 239=some V1:=by kernel_rfl
def V0:TI:=⟨Kd.oth,1,8,Value.nilFunc⟩
theorem bgS:ql Tryz.prog 240=some V0:=by kernel_rfl
def VZ:TI:=⟨Kd.oth,1,8,Value.nilFunc⟩
theorem bgR:ql Tryz.prog 241=some VZ:=by kernel_rfl
def VY:TI:=⟨Kd.oth,1,8,Value.nilFunc⟩
theorem bgQ:ql Tryz.prog 242=some VY:=by kernel_rfl
def VX:TI:=⟨Kd.oth,1,8,Value.nilFunc⟩
theorem bgP:ql Tryz.prog 243=some VX:=by kernel_rfl
def VW:TI:=⟨Kd.oth,1,8,Value.nilFunc⟩
theorem bgO:ql Tryz.prog 244=some VW:=by kernel_rfl
def VV:TI:=⟨Kd.oth,1,8,Value.nilFunc⟩
theorem bgN:ql Tryz.prog 245=some VV:=by kernel_rfl
def VU:TI:=⟨Kd.oth,1,8,Value.nilFunc⟩
theorem bgM:ql Tryz.prog 246=some VU:=by kernel_rfl
def VT:TI:=⟨Kd.oth,1,8,Value.nilFunc⟩
theorem bgL:ql Tryz.prog 247=some VT:=by kernel_rfl
def VS:TI:=⟨Kd.oth,1,8,Value.nilFunc⟩
theorem bgK:ql Tryz.prog 248=some VS:=by kernel_rfl
def VR:TI:=⟨Kd.oth,1,8,Value.nilFunc⟩
theorem bgJ:ql Tryz.prog 250=some VR:=by kernel_rfl
def VQ:TI:=⟨Kd.oth,1,8,Value.nilFunc⟩
theorem bgI:ql Tryz.prog 252=some VQ:=by kernel_rfl
def VP:TI:=⟨Kd.oth,1,8,Value.nilFunc⟩
theorem bgH:ql Tryz.prog 253=some VP:=by kernel_rfl
def VO:TI:=⟨Kd.oth,1,8,Value.nilFunc⟩
theorem bgG:ql Tryz.prog 254=some VO:=by kernel_rfl
def VN:TI:=⟨Kd.oth,1,8,Value.nilFunc⟩
theorem bgF:ql Tryz.prog 255=some VN:=by kernel_rfl
def VM:TI:=⟨Kd.oth,1,8,Value.nilFunc⟩
theorem bgE:ql Tryz.prog 256=some VM:=by kernel_rfl
def VL:TI:=⟨Kd.oth,1,8,Value.nilFunc⟩
theorem bgD:ql Tryz.prog 257=some VL:=by kernel_rfl
def VK:TI:=⟨Kd.oth,1,8,Value.nilFunc⟩
theorem bgC:ql Tryz.prog 258=some VK:=by kernel_rfl
def VJ:TI:=⟨Kd.oth,1,8,Value.nilFunc⟩
theorem bgB:ql Tryz.prog 259=some VJ:=by kernel_rfl
def VI:TI:=⟨Kd.oth,1,8,Value.nilFunc⟩
theorem bgA:ql Tryz.prog 260=some VI:=by kernel_rfl
def VH:TI:=⟨Kd.oth,1,8,Value.nilFunc⟩
theorem bgz:ql Tryz.prog 261=some VH:=by kernel_rfl
def VG:TI:=⟨Kd.oth,1,8,Value.nilFunc⟩
theorem bgy:ql Tryz.prog 262=some VG:=by kernel_rfl
def VF:TI:=⟨Kd.oth,1,8,Value.nilFunc⟩
theorem bgx:ql Tryz.prog 263=some VF:=by kernel_rfl
def VE:TI:=⟨Kd.int IntKind.u64,1,8,Value.int IntKind.u64 0⟩
theorem bgw:ql Tryz.prog 264=some VE:=by kernel_rfl
def VD:TI:=⟨Kd.oth,1,8,Value.nilFunc⟩
theorem bgv:ql Tryz.prog 265=some VD:=by kernel_rfl
def VC:TI:=⟨Kd.oth,1,8,Value.nilFunc⟩
theorem bgu:ql Tryz.prog 266=some VC:=by kernel_rfl
def VB:TI:=⟨Kd.oth,1,8,Value.nilFunc⟩
theorem bgt:ql Tryz.prog 267=some VB:=by kernel_rfl
def VA:TI:=⟨Kd.oth,1,8,Value.nilFunc⟩
theorem bgs:ql Tryz.prog 269=some VA:=by kernel_rfl
def Vz:TI:=⟨Kd.oth,1,8,Value.nilFunc⟩
theorem bgr:ql Tryz.prog 271=some Vz:=by kernel_rfl
def Vy:TI:=⟨Kd.oth,1,8,Value.nilFunc⟩
theorem bgq:ql Tryz.prog 273=some Vy:=by kernel_rfl
def Vx:TI:=⟨Kd.oth,1,8,Value.nilFunc⟩
theorem bgp:ql Tryz.prog 274=some Vx:=by kernel_rfl
def Vw:TI:=⟨Kd.int IntKind.u32,1,4,Value.int IntKind.u32 0⟩
theorem bgo:ql Tryz.prog 275=some Vw:=by kernel_rfl
def Vv:TI:=⟨Kd.oth,1,8,Value.nilFunc⟩
theorem bgn:ql Tryz.prog 276=some Vv:=by kernel_rfl
def Vu:TI:=⟨Kd.int IntKind.u64,1,8,Value.int IntKind.u64 0⟩
theorem bgm:ql Tryz.prog 277=some Vu:=by kernel_rfl
def Vt:TI:=⟨Kd.oth,1,8,Value.nilFunc⟩
theorem bgl:ql Tryz.prog 278=some Vt:=by kernel_rfl
def Vs:TI:=⟨Kd.oth,1,8,Value.nilFunc⟩
theorem bgk:ql Tryz.prog 279=some Vs:=by kernel_rfl
def Vr:TI:=⟨Kd.oth,1,8,Value.nilFunc⟩
theorem bgj:ql Tryz.prog 281=some Vr:=by kernel_rfl
def Vq:TI:=⟨Kd.oth,1,8,Value.nilFunc⟩
theorem bgi:ql Tryz.prog 282=some Vq:=by kernel_rfl
def Vp:TI:=⟨Kd.oth,1,8,Value.nilFunc⟩
theorem bgh:ql Tryz.prog 283=some Vp:=by kernel_rfl
def Vo:TI:=⟨Kd.oth,1,8,Value.nilFunc⟩
theorem bgg:ql Tryz.prog 287=some Vo:=by kernel_rfl
def Vn:TI:=⟨Kd.oth,1,8,Value.nilFunc⟩
theorem bgf:ql Tryz.prog 288=some Vn:=by kernel_rfl
def Vm:TI:=⟨Kd.oth,1,8,Value.nilFunc⟩
theorem bge:ql Tryz.prog 289=some Vm:=by kernel_rfl
def Vl:TI:=⟨Kd.oth,1,8,Value.nilFunc⟩
theorem bgd:ql Tryz.prog 290=some Vl:=by kernel_rfl
def Vk:TI:=⟨Kd.oth,1,8,Value.nilFunc⟩
theorem bgc:ql Tryz.prog 291=some Vk:=by kernel_rfl
def Vj:TI:=⟨Kd.stru [(0,294)],0,0,Value.agg ⟨[]⟩⟩
theorem bgb:ql Tryz.prog 295=some Vj:=by kernel_rfl
def Vi:TI:=⟨Kd.stru [(0,294)],0,0,Value.agg ⟨[]⟩⟩
theorem bga:ql Tryz.prog 296=some Vi:=by kernel_rfl
def Vh:TI:=⟨Kd.int IntKind.u8,1,1,Value.int IntKind.u8 0⟩
theorem bf9:ql Tryz.prog 297=some Vh:=by kernel_rfl
def Vg:TI:=⟨Kd.int IntKind.u8,1,1,Value.int IntKind.u8 0⟩
theorem bf8:ql Tryz.prog 298=some Vg:=by kernel_rfl
def Vf:TI:=⟨Kd.oth,1,8,Value.nilFunc⟩
theorem bf7:ql Tryz.prog 299=some Vf:=by kernel_rfl
def Ve:TI:=⟨Kd.int IntKind.i32,1,4,Value.int IntKind.i32 0⟩
theorem bf6:ql Tryz.prog 301=some Ve:=by kernel_rfl
def Vd:TI:=⟨Kd.int IntKind.i32,1,4,Value.int IntKind.i32 0⟩
theorem bf5:ql Tryz.prog 302=some Vd:=by kernel_rfl
def Vc:TI:=⟨Kd.oth,1,8,Value.nilFunc⟩
theorem bf4:ql Tryz.prog 305=some Vc:=by kernel_rfl
def Vb:TI:=⟨Kd.oth,1,8,Value.nilFunc⟩
theorem bf3:ql Tryz.prog 306=some Vb:=by kernel_rfl
theorem ty1{K:TI→Prop}:@tyW Tryz.prog 1 ⟨K⟩=K ti1:=qk tf1
theorem aVn:ti1.kd=Kd.oth:=ID rfl
theorem aPW:ti1.kd.agg=false:=ID rfl
theorem aCh:ti1.size=1:=ID rfl
theorem ara:ti1.bytes=8:=ID rfl
theorem aVl:qv ti1=True:=eq_true rfl
theorem aVm:zc ti1=[.v Value.nilFunc]:=ID rfl
theorem ty2{K:TI→Prop}:@tyW Tryz.prog 2 ⟨K⟩=K ti2:=qk tf2
theorem aVk:ti2.kd=Kd.int IntKind.i64:=ID rfl
theorem aPx:ti2.kd.agg=false:=ID rfl
theorem ax4:ti2.size=1:=ID rfl
theorem apB:ti2.bytes=8:=ID rfl
theorem aVi:qv ti2=True:=eq_true rfl
theorem aVj:zc ti2=[.v (Value.int IntKind.i64 0)]:=ID rfl
theorem ty3{K:TI→Prop}:@tyW Tryz.prog 3 ⟨K⟩=K ti3:=qk tf3
theorem aVh:ti3.kd=Kd.int IntKind.i64:=ID rfl
theorem aO8:ti3.kd.agg=false:=ID rfl
theorem axJ:ti3.size=1:=ID rfl
theorem apl:ti3.bytes=8:=ID rfl
theorem aVf:qv ti3=True:=eq_true rfl
theorem aVg:zc ti3=[.v (Value.int IntKind.i64 0)]:=ID rfl
theorem ty4{K:TI→Prop}:@tyW Tryz.prog 4 ⟨K⟩=K ti4:=qk tf4
theorem aVe:ti4.kd=Kd.bool:=ID rfl
theorem aOD:ti4.kd.agg=false:=ID rfl
theorem axy:ti4.size=1:=ID rfl
theorem ao9:ti4.bytes=1:=ID rfl
theorem aVc:qv ti4=True:=eq_true rfl
theorem aVd:zc ti4=[.v (Value.bool false)]:=ID rfl
theorem ty5{K:TI→Prop}:@tyW Tryz.prog 5 ⟨K⟩=K ti5:=qk tf5
theorem aVb:ti5.kd=Kd.int IntKind.u8:=ID rfl
theorem aOh:ti5.kd.agg=false:=ID rfl
theorem axq:ti5.size=1:=ID rfl
theorem ao1:ti5.bytes=1:=ID rfl
theorem aU9:qv ti5=True:=eq_true rfl
theorem aVa:zc ti5=[.v (Value.int IntKind.u8 0)]:=ID rfl
theorem ty6{K:TI→Prop}:@tyW Tryz.prog 6 ⟨K⟩=K ti6:=qk tf6
theorem aU8:ti6.kd=Kd.int IntKind.u8:=ID rfl
theorem aNP:ti6.kd.agg=false:=ID rfl
theorem axg:ti6.size=1:=ID rfl
theorem aoR:ti6.bytes=1:=ID rfl
theorem aU6:qv ti6=True:=eq_true rfl
theorem aU7:zc ti6=[.v (Value.int IntKind.u8 0)]:=ID rfl
theorem ty7{K:TI→Prop}:@tyW Tryz.prog 7 ⟨K⟩=K ti7:=qk tf7
theorem aU5:ti7.kd=Kd.stru [(0,2),(1,3),(2,4),(3,6)]:=ID rfl
theorem aNk:ti7.kd.agg=true:=ID rfl
theorem aw5:ti7.size=4:=ID rfl
theorem aoE:ti7.bytes=24:=ID rfl
theorem aU3:qv ti7=True:=eq_true rfl
theorem aU4:zc ti7=[.v (Value.int IntKind.i64 0),.v (Value.int IntKind.i64 0),.v (Value.bool false),.v (Value.int IntKind.u8 0)]:=ID rfl
theorem bbJ{K:Nat→TI→Prop}:@qA Tryz.prog 7 0 ⟨K⟩=K 0 ti2:=qq (ti:=ti7) (tf:=ti2) (fo:=(0,2)) (fs:=[(0,2),(1,3),(2,4),(3,6)]) tf7 rfl rfl tf2
theorem bjh{K:Nat→Nat→Prop}:qs Tryz.prog [(0,2),(1,3),(2,4),(3,6)] 0 K=K 0 1:=qp (tf:=ti2) (fo:=(0,2)) (fs:=[(0,2),(1,3),(2,4),(3,6)]) rfl tf2
theorem bbI{K:Nat→TI→Prop}:@qA Tryz.prog 7 1 ⟨K⟩=K 1 ti3:=qq (ti:=ti7) (tf:=ti3) (fo:=(1,3)) (fs:=[(0,2),(1,3),(2,4),(3,6)]) tf7 rfl rfl tf3
theorem bjg{K:Nat→Nat→Prop}:qs Tryz.prog [(0,2),(1,3),(2,4),(3,6)] 1 K=K 1 1:=qp (tf:=ti3) (fo:=(1,3)) (fs:=[(0,2),(1,3),(2,4),(3,6)]) rfl tf3
theorem bbH{K:Nat→TI→Prop}:@qA Tryz.prog 7 2 ⟨K⟩=K 2 ti4:=qq (ti:=ti7) (tf:=ti4) (fo:=(2,4)) (fs:=[(0,2),(1,3),(2,4),(3,6)]) tf7 rfl rfl tf4
theorem bjf{K:Nat→Nat→Prop}:qs Tryz.prog [(0,2),(1,3),(2,4),(3,6)] 2 K=K 2 1:=qp (tf:=ti4) (fo:=(2,4)) (fs:=[(0,2),(1,3),(2,4),(3,6)]) rfl tf4
theorem bbG{K:Nat→TI→Prop}:@qA Tryz.prog 7 3 ⟨K⟩=K 3 ti6:=qq (ti:=ti7) (tf:=ti6) (fo:=(3,6)) (fs:=[(0,2),(1,3),(2,4),(3,6)]) tf7 rfl rfl tf6
theorem bje{K:Nat→Nat→Prop}:qs Tryz.prog [(0,2),(1,3),(2,4),(3,6)] 3 K=K 3 1:=qp (tf:=ti6) (fo:=(3,6)) (fs:=[(0,2),(1,3),(2,4),(3,6)]) rfl tf6
theorem bjF:∀f∈([(0,2),(1,3),(2,4),(3,6)]:List (Nat×Nat)),(ql Tryz.prog f.2).isSome=true:=by
 intro f hf
 simp only[List.mem_cons,List.not_mem_nil,or_false]at hf
 rcases hf with rfl|rfl|rfl|rfl
 ·rw[tf2];rfl
 ·rw[tf3];rfl
 ·rw[tf4];rfl
 ·rw[tf6];rfl
theorem boS{ps:List (Nat×AV)}{K:AV→Prop}:@zf Tryz.prog 7 ps ⟨K⟩=@zk (qs Tryz.prog [(0,2),(1,3),(2,4),(3,6)]) (zc ti7) ps ⟨fun cs=>K (.ag cs)⟩:=qL tf7 rfl bjF
theorem ty8{K:TI→Prop}:@tyW Tryz.prog 8 ⟨K⟩=K ti8:=qk tf8
theorem aU2:ti8.kd=Kd.stru [(0,2),(1,3),(2,4),(3,6)]:=ID rfl
theorem aMP:ti8.kd.agg=true:=ID rfl
theorem awT:ti8.size=4:=ID rfl
theorem aoq:ti8.bytes=24:=ID rfl
theorem aU0:qv ti8=True:=eq_true rfl
theorem aU1:zc ti8=[.v (Value.int IntKind.i64 0),.v (Value.int IntKind.i64 0),.v (Value.bool false),.v (Value.int IntKind.u8 0)]:=ID rfl
theorem bbF{K:Nat→TI→Prop}:@qA Tryz.prog 8 0 ⟨K⟩=K 0 ti2:=qq (ti:=ti8) (tf:=ti2) (fo:=(0,2)) (fs:=[(0,2),(1,3),(2,4),(3,6)]) tf8 rfl rfl tf2
theorem bjd{K:Nat→Nat→Prop}:qs Tryz.prog [(0,2),(1,3),(2,4),(3,6)] 0 K=K 0 1:=qp (tf:=ti2) (fo:=(0,2)) (fs:=[(0,2),(1,3),(2,4),(3,6)]) rfl tf2
theorem bbE{K:Nat→TI→Prop}:@qA Tryz.prog 8 1 ⟨K⟩=K 1 ti3:=qq (ti:=ti8) (tf:=ti3) (fo:=(1,3)) (fs:=[(0,2),(1,3),(2,4),(3,6)]) tf8 rfl rfl tf3
theorem bjc{K:Nat→Nat→Prop}:qs Tryz.prog [(0,2),(1,3),(2,4),(3,6)] 1 K=K 1 1:=qp (tf:=ti3) (fo:=(1,3)) (fs:=[(0,2),(1,3),(2,4),(3,6)]) rfl tf3
theorem bbD{K:Nat→TI→Prop}:@qA Tryz.prog 8 2 ⟨K⟩=K 2 ti4:=qq (ti:=ti8) (tf:=ti4) (fo:=(2,4)) (fs:=[(0,2),(1,3),(2,4),(3,6)]) tf8 rfl rfl tf4
theorem bjb{K:Nat→Nat→Prop}:qs Tryz.prog [(0,2),(1,3),(2,4),(3,6)] 2 K=K 2 1:=qp (tf:=ti4) (fo:=(2,4)) (fs:=[(0,2),(1,3),(2,4),(3,6)]) rfl tf4
theorem bbC{K:Nat→TI→Prop}:@qA Tryz.prog 8 3 ⟨K⟩=K 3 ti6:=qq (ti:=ti8) (tf:=ti6) (fo:=(3,6)) (fs:=[(0,2),(1,3),(2,4),(3,6)]) tf8 rfl rfl tf6
theorem bja{K:Nat→Nat→Prop}:qs Tryz.prog [(0,2),(1,3),(2,4),(3,6)] 3 K=K 3 1:=qp (tf:=ti6) (fo:=(3,6)) (fs:=[(0,2),(1,3),(2,4),(3,6)]) rfl tf6
theorem bjE:∀f∈([(0,2),(1,3),(2,4),(3,6)]:List (Nat×Nat)),(ql Tryz.prog f.2).isSome=true:=by
 intro f hf
 simp only[List.mem_cons,List.not_mem_nil,or_false]at hf
 rcases hf with rfl|rfl|rfl|rfl
 ·rw[tf2];rfl
 ·rw[tf3];rfl
 ·rw[tf4];rfl
 ·rw[tf6];rfl
theorem boR{ps:List (Nat×AV)}{K:AV→Prop}:@zf Tryz.prog 8 ps ⟨K⟩=@zk (qs Tryz.prog [(0,2),(1,3),(2,4),(3,6)]) (zc ti8) ps ⟨fun cs=>K (.ag cs)⟩:=qL tf8 rfl bjE
theorem ty9{K:TI→Prop}:@tyW Tryz.prog 9 ⟨K⟩=K ti9:=qk tf9
theorem aUZ:ti9.kd=Kd.str:=ID rfl
theorem aMn:ti9.kd.agg=false:=ID rfl
theorem awJ:ti9.size=1:=ID rfl
theorem aog:ti9.bytes=16:=ID rfl
theorem aUX:qv ti9=True:=eq_true rfl
theorem aUY:zc ti9=[.v (Value.string {data:=⟨[]⟩})]:=ID rfl
theorem bng{K:TI→Prop}:@tyW Tryz.prog 10 ⟨K⟩=K aLb:=qk bn4
theorem aP5:aLb.kd=Kd.str:=ID rfl
theorem aGu:aLb.kd.agg=false:=ID rfl
theorem asD:aLb.size=1:=ID rfl
theorem amu:aLb.bytes=16:=ID rfl
theorem aP3:qv aLb=True:=eq_true rfl
theorem aP4:zc aLb=[.v (Value.string {data:=⟨[]⟩})]:=ID rfl
theorem bne{K:TI→Prop}:@tyW Tryz.prog 11 ⟨K⟩=K aLa:=qk bn3
theorem aP2:aLa.kd=Kd.str:=ID rfl
theorem aFZ:aLa.kd.agg=false:=ID rfl
theorem ass:aLa.size=1:=ID rfl
theorem amj:aLa.bytes=16:=ID rfl
theorem aP0:qv aLa=True:=eq_true rfl
theorem aP1:zc aLa=[.v (Value.string {data:=⟨[]⟩})]:=ID rfl
theorem bnd{K:TI→Prop}:@tyW Tryz.prog 12 ⟨K⟩=K aK9:=qk bn2
theorem aPZ:aK9.kd=Kd.int IntKind.u64:=ID rfl
theorem aFx:aK9.kd.agg=false:=ID rfl
theorem asi:aK9.size=1:=ID rfl
theorem al9:aK9.bytes=8:=ID rfl
theorem aPX:qv aK9=True:=eq_true rfl
theorem aPY:zc aK9=[.v (Value.int IntKind.u64 0)]:=ID rfl
theorem bnc{K:TI→Prop}:@tyW Tryz.prog 21 ⟨K⟩=K aK8:=qk bn1
theorem aPV:aK8.kd=Kd.int IntKind.i32:=ID rfl
theorem aBr:aK8.kd.agg=false:=ID rfl
theorem aqS:aK8.size=1:=ID rfl
theorem akI:aK8.bytes=4:=ID rfl
theorem aPT:qv aK8=True:=eq_true rfl
theorem aPU:zc aK8=[.v (Value.int IntKind.i32 0)]:=ID rfl
theorem bnb{K:TI→Prop}:@tyW Tryz.prog 22 ⟨K⟩=K aho:=qk aLf
theorem aPS:aho.kd=Kd.sli 5:=ID rfl
theorem aAW:aho.kd.agg=false:=ID rfl
theorem aqH:aho.size=1:=ID rfl
theorem akx:aho.bytes=24:=ID rfl
theorem aPQ:qv aho=True:=eq_true rfl
theorem aPR:zc aho=[.v (Value.slice none 0 0)]:=ID rfl
theorem biZ{K:TI→Prop}:@Qs Tryz.prog 22 ⟨K⟩=K ti5:=ZI aLf rfl tf5
theorem bna{K:TI→Prop}:@tyW Tryz.prog 23 ⟨K⟩=K ahn:=qk aLe
theorem aPP:ahn.kd=Kd.sli 42:=ID rfl
theorem aAu:ahn.kd.agg=false:=ID rfl
theorem aqx:ahn.size=1:=ID rfl
theorem akn:ahn.bytes=24:=ID rfl
theorem aPN:qv ahn=True:=eq_true rfl
theorem aPO:zc ahn=[.v (Value.slice none 0 0)]:=ID rfl
theorem biY{K:TI→Prop}:@Qs Tryz.prog 23 ⟨K⟩=K Z9:=ZI aLe rfl aa8
theorem bm9{K:TI→Prop}:@tyW Tryz.prog 24 ⟨K⟩=K aqw:=qk bcZ
theorem aPM:aqw.kd=Kd.stru [(0,3),(1,23)]:=ID rfl
theorem az2:aqw.kd.agg=true:=ID rfl
theorem aqm:aqw.size=2:=ID rfl
theorem akd:aqw.bytes=32:=ID rfl
theorem aPK:qv aqw=True:=eq_true rfl
theorem aPL:zc aqw=[.v (Value.int IntKind.i64 0),.v (Value.slice none 0 0)]:=ID rfl
theorem aTg{K:Nat→TI→Prop}:@qA Tryz.prog 24 0 ⟨K⟩=K 0 ti3:=qq (ti:=aqw) (tf:=ti3) (fo:=(0,3)) (fs:=[(0,3),(1,23)]) bcZ rfl rfl tf3
theorem aWB{K:Nat→Nat→Prop}:qs Tryz.prog [(0,3),(1,23)] 0 K=K 0 1:=qp (tf:=ti3) (fo:=(0,3)) (fs:=[(0,3),(1,23)]) rfl tf3
theorem aTf{K:Nat→TI→Prop}:@qA Tryz.prog 24 1 ⟨K⟩=K 1 ahn:=qq (ti:=aqw) (tf:=ahn) (fo:=(1,23)) (fs:=[(0,3),(1,23)]) bcZ rfl rfl aLe
theorem aWA{K:Nat→Nat→Prop}:qs Tryz.prog [(0,3),(1,23)] 1 K=K 1 1:=qp (tf:=ahn) (fo:=(1,23)) (fs:=[(0,3),(1,23)]) rfl aLe
theorem aXM:∀f∈([(0,3),(1,23)]:List (Nat×Nat)),(ql Tryz.prog f.2).isSome=true:=by
 intro f hf
 simp only[List.mem_cons,List.not_mem_nil,or_false]at hf
 rcases hf with rfl|rfl
 ·rw[tf3];rfl
 ·rw[aLe];rfl
theorem blD{ps:List (Nat×AV)}{K:AV→Prop}:@zf Tryz.prog 24 ps ⟨K⟩=@zk (qs Tryz.prog [(0,3),(1,23)]) (zc aqw) ps ⟨fun cs=>K (.ag cs)⟩:=qL bcZ rfl aXM
theorem bm8{K:TI→Prop}:@tyW Tryz.prog 25 ⟨K⟩=K aql:=qk bcY
theorem aPJ:aql.kd=Kd.stru [(0,3),(1,23)]:=ID rfl
theorem azA:aql.kd.agg=true:=ID rfl
theorem aqb:aql.size=2:=ID rfl
theorem aj3:aql.bytes=32:=ID rfl
theorem aPH:qv aql=True:=eq_true rfl
theorem aPI:zc aql=[.v (Value.int IntKind.i64 0),.v (Value.slice none 0 0)]:=ID rfl
theorem aTe{K:Nat→TI→Prop}:@qA Tryz.prog 25 0 ⟨K⟩=K 0 ti3:=qq (ti:=aql) (tf:=ti3) (fo:=(0,3)) (fs:=[(0,3),(1,23)]) bcY rfl rfl tf3
theorem aWz{K:Nat→Nat→Prop}:qs Tryz.prog [(0,3),(1,23)] 0 K=K 0 1:=qp (tf:=ti3) (fo:=(0,3)) (fs:=[(0,3),(1,23)]) rfl tf3
theorem aTd{K:Nat→TI→Prop}:@qA Tryz.prog 25 1 ⟨K⟩=K 1 ahn:=qq (ti:=aql) (tf:=ahn) (fo:=(1,23)) (fs:=[(0,3),(1,23)]) bcY rfl rfl aLe
theorem aWy{K:Nat→Nat→Prop}:qs Tryz.prog [(0,3),(1,23)] 1 K=K 1 1:=qp (tf:=ahn) (fo:=(1,23)) (fs:=[(0,3),(1,23)]) rfl aLe
theorem aXL:∀f∈([(0,3),(1,23)]:List (Nat×Nat)),(ql Tryz.prog f.2).isSome=true:=by
 intro f hf
 simp only[List.mem_cons,List.not_mem_nil,or_false]at hf
 rcases hf with rfl|rfl
 ·rw[tf3];rfl
 ·rw[aLe];rfl
theorem blC{ps:List (Nat×AV)}{K:AV→Prop}:@zf Tryz.prog 25 ps ⟨K⟩=@zk (qs Tryz.prog [(0,3),(1,23)]) (zc aql) ps ⟨fun cs=>K (.ag cs)⟩:=qL bcY rfl aXL
theorem bm7{K:TI→Prop}:@tyW Tryz.prog 27 ⟨K⟩=K aK7:=qk bn0
theorem aPG:aK7.kd=Kd.oth:=ID rfl
theorem ayK:aK7.kd.agg=false:=ID rfl
theorem apT:aK7.size=1:=ID rfl
theorem ajL:aK7.bytes=8:=ID rfl
theorem aPE:qv aK7=True:=eq_true rfl
theorem aPF:zc aK7=[.v Value.nilFunc]:=ID rfl
theorem bm6{K:TI→Prop}:@tyW Tryz.prog 28 ⟨K⟩=K ahm:=qk aLd
theorem aPD:ahm.kd=Kd.sli 90:=ID rfl
theorem ayr:ahm.kd.agg=false:=ID rfl
theorem apM:ahm.size=1:=ID rfl
theorem ajE:ahm.bytes=24:=ID rfl
theorem aPB:qv ahm=True:=eq_true rfl
theorem aPC:zc ahm=[.v (Value.slice none 0 0)]:=ID rfl
theorem biX{K:TI→Prop}:@Qs Tryz.prog 28 ⟨K⟩=K anZ:=ZI aLd rfl aVo
theorem bm5{K:TI→Prop}:@tyW Tryz.prog 29 ⟨K⟩=K apL:=qk bcX
theorem aPA:apL.kd=Kd.stru [(0,3),(1,28)]:=ID rfl
theorem ax5:apL.kd.agg=true:=ID rfl
theorem apC:apL.size=2:=ID rfl
theorem ajw:apL.bytes=32:=ID rfl
theorem aPy:qv apL=True:=eq_true rfl
theorem aPz:zc apL=[.v (Value.int IntKind.i64 0),.v (Value.slice none 0 0)]:=ID rfl
theorem aTc{K:Nat→TI→Prop}:@qA Tryz.prog 29 0 ⟨K⟩=K 0 ti3:=qq (ti:=apL) (tf:=ti3) (fo:=(0,3)) (fs:=[(0,3),(1,28)]) bcX rfl rfl tf3
theorem aWx{K:Nat→Nat→Prop}:qs Tryz.prog [(0,3),(1,28)] 0 K=K 0 1:=qp (tf:=ti3) (fo:=(0,3)) (fs:=[(0,3),(1,28)]) rfl tf3
theorem aTb{K:Nat→TI→Prop}:@qA Tryz.prog 29 1 ⟨K⟩=K 1 ahm:=qq (ti:=apL) (tf:=ahm) (fo:=(1,28)) (fs:=[(0,3),(1,28)]) bcX rfl rfl aLd
theorem aWw{K:Nat→Nat→Prop}:qs Tryz.prog [(0,3),(1,28)] 1 K=K 1 1:=qp (tf:=ahm) (fo:=(1,28)) (fs:=[(0,3),(1,28)]) rfl aLd
theorem aXK:∀f∈([(0,3),(1,28)]:List (Nat×Nat)),(ql Tryz.prog f.2).isSome=true:=by
 intro f hf
 simp only[List.mem_cons,List.not_mem_nil,or_false]at hf
 rcases hf with rfl|rfl
 ·rw[tf3];rfl
 ·rw[aLd];rfl
theorem blB{ps:List (Nat×AV)}{K:AV→Prop}:@zf Tryz.prog 29 ps ⟨K⟩=@zk (qs Tryz.prog [(0,3),(1,28)]) (zc apL) ps ⟨fun cs=>K (.ag cs)⟩:=qL bcX rfl aXK
theorem bm4{K:TI→Prop}:@tyW Tryz.prog 30 ⟨K⟩=K apA:=qk bcW
theorem aPw:apA.kd=Kd.stru [(0,3),(1,28)]:=ID rfl
theorem axR:apA.kd.agg=true:=ID rfl
theorem apv:apA.size=2:=ID rfl
theorem ajr:apA.bytes=32:=ID rfl
theorem aPu:qv apA=True:=eq_true rfl
theorem aPv:zc apA=[.v (Value.int IntKind.i64 0),.v (Value.slice none 0 0)]:=ID rfl
theorem aTa{K:Nat→TI→Prop}:@qA Tryz.prog 30 0 ⟨K⟩=K 0 ti3:=qq (ti:=apA) (tf:=ti3) (fo:=(0,3)) (fs:=[(0,3),(1,28)]) bcW rfl rfl tf3
theorem aWv{K:Nat→Nat→Prop}:qs Tryz.prog [(0,3),(1,28)] 0 K=K 0 1:=qp (tf:=ti3) (fo:=(0,3)) (fs:=[(0,3),(1,28)]) rfl tf3
theorem aS9{K:Nat→TI→Prop}:@qA Tryz.prog 30 1 ⟨K⟩=K 1 ahm:=qq (ti:=apA) (tf:=ahm) (fo:=(1,28)) (fs:=[(0,3),(1,28)]) bcW rfl rfl aLd
theorem aWu{K:Nat→Nat→Prop}:qs Tryz.prog [(0,3),(1,28)] 1 K=K 1 1:=qp (tf:=ahm) (fo:=(1,28)) (fs:=[(0,3),(1,28)]) rfl aLd
theorem aXJ:∀f∈([(0,3),(1,28)]:List (Nat×Nat)),(ql Tryz.prog f.2).isSome=true:=by
 intro f hf
 simp only[List.mem_cons,List.not_mem_nil,or_false]at hf
 rcases hf with rfl|rfl
 ·rw[tf3];rfl
 ·rw[aLd];rfl
theorem blA{ps:List (Nat×AV)}{K:AV→Prop}:@zf Tryz.prog 30 ps ⟨K⟩=@zk (qs Tryz.prog [(0,3),(1,28)]) (zc apA) ps ⟨fun cs=>K (.ag cs)⟩:=qL bcW rfl aXJ
theorem bm3{K:TI→Prop}:@tyW Tryz.prog 32 ⟨K⟩=K aK6:=qk bnZ
theorem aPt:aK6.kd=Kd.oth:=ID rfl
theorem axQ:aK6.kd.agg=false:=ID rfl
theorem apu:aK6.size=1:=ID rfl
theorem ajq:aK6.bytes=8:=ID rfl
theorem aPr:qv aK6=True:=eq_true rfl
theorem aPs:zc aK6=[.v Value.nilFunc]:=ID rfl
theorem bm2{K:TI→Prop}:@tyW Tryz.prog 33 ⟨K⟩=K aK5:=qk bnY
theorem aPq:aK5.kd=Kd.oth:=ID rfl
theorem axP:aK5.kd.agg=false:=ID rfl
theorem apt:aK5.size=1:=ID rfl
theorem ajp:aK5.bytes=8:=ID rfl
theorem aPo:qv aK5=True:=eq_true rfl
theorem aPp:zc aK5=[.v Value.nilFunc]:=ID rfl
theorem bm1{K:TI→Prop}:@tyW Tryz.prog 35 ⟨K⟩=K aK4:=qk bnX
theorem aPn:aK4.kd=Kd.oth:=ID rfl
theorem axO:aK4.kd.agg=false:=ID rfl
theorem apr:aK4.size=1:=ID rfl
theorem ajo:aK4.bytes=8:=ID rfl
theorem aPl:qv aK4=True:=eq_true rfl
theorem aPm:zc aK4=[.v Value.nilFunc]:=ID rfl
theorem bm0{K:TI→Prop}:@tyW Tryz.prog 36 ⟨K⟩=K Ji:=qk aa9
theorem aPk:Ji.kd=Kd.sli 3:=ID rfl
theorem axN:Ji.kd.agg=false:=ID rfl
theorem apq:Ji.size=1:=ID rfl
theorem ajn:Ji.bytes=24:=ID rfl
theorem aPi:qv Ji=True:=eq_true rfl
theorem aPj:zc Ji=[.v (Value.slice none 0 0)]:=ID rfl
theorem biW{K:TI→Prop}:@Qs Tryz.prog 36 ⟨K⟩=K ti3:=ZI aa9 rfl tf3
theorem bmZ{K:TI→Prop}:@tyW Tryz.prog 37 ⟨K⟩=K awn:=qk bf2
theorem aPh:awn.kd=Kd.stru [(0,36)]:=ID rfl
theorem axM:awn.kd.agg=true:=ID rfl
theorem app:awn.size=1:=ID rfl
theorem ajm:awn.bytes=24:=ID rfl
theorem aPf:qv awn=True:=eq_true rfl
theorem aPg:zc awn=[.v (Value.slice none 0 0)]:=ID rfl
theorem aS8{K:Nat→TI→Prop}:@qA Tryz.prog 37 0 ⟨K⟩=K 0 Ji:=qq (ti:=awn) (tf:=Ji) (fo:=(0,36)) (fs:=[(0,36)]) bf2 rfl rfl aa9
theorem aWt{K:Nat→Nat→Prop}:qs Tryz.prog [(0,36)] 0 K=K 0 1:=qp (tf:=Ji) (fo:=(0,36)) (fs:=[(0,36)]) rfl aa9
theorem aXI:∀f∈([(0,36)]:List (Nat×Nat)),(ql Tryz.prog f.2).isSome=true:=by
 intro f hf
 simp only[List.mem_cons,List.not_mem_nil,or_false]at hf
 subst hf;rw[aa9];rfl
theorem blz{ps:List (Nat×AV)}{K:AV→Prop}:@zf Tryz.prog 37 ps ⟨K⟩=@zk (qs Tryz.prog [(0,36)]) (zc awn) ps ⟨fun cs=>K (.ag cs)⟩:=qL bf2 rfl aXI
theorem bmY{K:TI→Prop}:@tyW Tryz.prog 38 ⟨K⟩=K acG:=qk aGZ
theorem aPe:acG.kd=Kd.stru [(0,36)]:=ID rfl
theorem axL:acG.kd.agg=true:=ID rfl
theorem apo:acG.size=1:=ID rfl
theorem ajl:acG.bytes=24:=ID rfl
theorem aPc:qv acG=True:=eq_true rfl
theorem aPd:zc acG=[.v (Value.slice none 0 0)]:=ID rfl
theorem aS7{K:Nat→TI→Prop}:@qA Tryz.prog 38 0 ⟨K⟩=K 0 Ji:=qq (ti:=acG) (tf:=Ji) (fo:=(0,36)) (fs:=[(0,36)]) aGZ rfl rfl aa9
theorem aWs{K:Nat→Nat→Prop}:qs Tryz.prog [(0,36)] 0 K=K 0 1:=qp (tf:=Ji) (fo:=(0,36)) (fs:=[(0,36)]) rfl aa9
theorem aXH:∀f∈([(0,36)]:List (Nat×Nat)),(ql Tryz.prog f.2).isSome=true:=by
 intro f hf
 simp only[List.mem_cons,List.not_mem_nil,or_false]at hf
 subst hf;rw[aa9];rfl
theorem bly{ps:List (Nat×AV)}{K:AV→Prop}:@zf Tryz.prog 38 ps ⟨K⟩=@zk (qs Tryz.prog [(0,36)]) (zc acG) ps ⟨fun cs=>K (.ag cs)⟩:=qL aGZ rfl aXH
theorem bmX{K:TI→Prop}:@tyW Tryz.prog 39 ⟨K⟩=K apn:=qk bcV
theorem aPb:apn.kd=Kd.stru [(0,4),(1,38)]:=ID rfl
theorem axK:apn.kd.agg=true:=ID rfl
theorem apm:apn.size=2:=ID rfl
theorem ajk:apn.bytes=32:=ID rfl
theorem aO9:qv apn=True:=eq_true rfl
theorem aPa:zc apn=[.v (Value.bool false),.v (Value.slice none 0 0)]:=ID rfl
theorem aS6{K:Nat→TI→Prop}:@qA Tryz.prog 39 0 ⟨K⟩=K 0 ti4:=qq (ti:=apn) (tf:=ti4) (fo:=(0,4)) (fs:=[(0,4),(1,38)]) bcV rfl rfl tf4
theorem aWr{K:Nat→Nat→Prop}:qs Tryz.prog [(0,4),(1,38)] 0 K=K 0 1:=qp (tf:=ti4) (fo:=(0,4)) (fs:=[(0,4),(1,38)]) rfl tf4
theorem aS5{K:Nat→TI→Prop}:@qA Tryz.prog 39 1 ⟨K⟩=K 1 acG:=qq (ti:=apn) (tf:=acG) (fo:=(1,38)) (fs:=[(0,4),(1,38)]) bcV rfl rfl aGZ
theorem aWq{K:Nat→Nat→Prop}:qs Tryz.prog [(0,4),(1,38)] 1 K=K 1 1:=qp (tf:=acG) (fo:=(1,38)) (fs:=[(0,4),(1,38)]) rfl aGZ
theorem aXG:∀f∈([(0,4),(1,38)]:List (Nat×Nat)),(ql Tryz.prog f.2).isSome=true:=by
 intro f hf
 simp only[List.mem_cons,List.not_mem_nil,or_false]at hf
 rcases hf with rfl|rfl
 ·rw[tf4];rfl
 ·rw[aGZ];rfl
theorem blx{ps:List (Nat×AV)}{K:AV→Prop}:@zf Tryz.prog 39 ps ⟨K⟩=@zk (qs Tryz.prog [(0,4),(1,38)]) (zc apn) ps ⟨fun cs=>K (.ag cs)⟩:=qL bcV rfl aXG
theorem bmW{K:TI→Prop}:@tyW Tryz.prog 40 ⟨K⟩=K Va:=qk awq
theorem aO7:Va.kd=Kd.stru [(0,4),(1,38)]:=ID rfl
theorem axI:Va.kd.agg=true:=ID rfl
theorem apk:Va.size=2:=ID rfl
theorem ajj:Va.bytes=32:=ID rfl
theorem aO5:qv Va=True:=eq_true rfl
theorem aO6:zc Va=[.v (Value.bool false),.v (Value.slice none 0 0)]:=ID rfl
theorem aS4{K:Nat→TI→Prop}:@qA Tryz.prog 40 0 ⟨K⟩=K 0 ti4:=qq (ti:=Va) (tf:=ti4) (fo:=(0,4)) (fs:=[(0,4),(1,38)]) awq rfl rfl tf4
theorem aWp{K:Nat→Nat→Prop}:qs Tryz.prog [(0,4),(1,38)] 0 K=K 0 1:=qp (tf:=ti4) (fo:=(0,4)) (fs:=[(0,4),(1,38)]) rfl tf4
theorem aS3{K:Nat→TI→Prop}:@qA Tryz.prog 40 1 ⟨K⟩=K 1 acG:=qq (ti:=Va) (tf:=acG) (fo:=(1,38)) (fs:=[(0,4),(1,38)]) awq rfl rfl aGZ
theorem aWo{K:Nat→Nat→Prop}:qs Tryz.prog [(0,4),(1,38)] 1 K=K 1 1:=qp (tf:=acG) (fo:=(1,38)) (fs:=[(0,4),(1,38)]) rfl aGZ
theorem aXF:∀f∈([(0,4),(1,38)]:List (Nat×Nat)),(ql Tryz.prog f.2).isSome=true:=by
 intro f hf
 simp only[List.mem_cons,List.not_mem_nil,or_false]at hf
 rcases hf with rfl|rfl
 ·rw[tf4];rfl
 ·rw[aGZ];rfl
theorem blw{ps:List (Nat×AV)}{K:AV→Prop}:@zf Tryz.prog 40 ps ⟨K⟩=@zk (qs Tryz.prog [(0,4),(1,38)]) (zc Va) ps ⟨fun cs=>K (.ag cs)⟩:=qL awq rfl aXF
theorem bmV{K:TI→Prop}:@tyW Tryz.prog 41 ⟨K⟩=K apj:=qk bcU
theorem aO4:apj.kd=Kd.stru [(0,40),(2,3)]:=ID rfl
theorem axH:apj.kd.agg=true:=ID rfl
theorem api:apj.size=3:=ID rfl
theorem aji:apj.bytes=40:=ID rfl
theorem aO2:qv apj=True:=eq_true rfl
theorem aO3:zc apj=[.v (Value.bool false),.v (Value.slice none 0 0),.v (Value.int IntKind.i64 0)]:=ID rfl
theorem aS2{K:Nat→TI→Prop}:@qA Tryz.prog 41 0 ⟨K⟩=K 0 Va:=qq (ti:=apj) (tf:=Va) (fo:=(0,40)) (fs:=[(0,40),(2,3)]) bcU rfl rfl awq
theorem aWn{K:Nat→Nat→Prop}:qs Tryz.prog [(0,40),(2,3)] 0 K=K 0 2:=qp (tf:=Va) (fo:=(0,40)) (fs:=[(0,40),(2,3)]) rfl awq
theorem aS1{K:Nat→TI→Prop}:@qA Tryz.prog 41 1 ⟨K⟩=K 2 ti3:=qq (ti:=apj) (tf:=ti3) (fo:=(2,3)) (fs:=[(0,40),(2,3)]) bcU rfl rfl tf3
theorem aWm{K:Nat→Nat→Prop}:qs Tryz.prog [(0,40),(2,3)] 1 K=K 2 1:=qp (tf:=ti3) (fo:=(2,3)) (fs:=[(0,40),(2,3)]) rfl tf3
theorem aXE:∀f∈([(0,40),(2,3)]:List (Nat×Nat)),(ql Tryz.prog f.2).isSome=true:=by
 intro f hf
 simp only[List.mem_cons,List.not_mem_nil,or_false]at hf
 rcases hf with rfl|rfl
 ·rw[awq];rfl
 ·rw[tf3];rfl
theorem blv{ps:List (Nat×AV)}{K:AV→Prop}:@zf Tryz.prog 41 ps ⟨K⟩=@zk (qs Tryz.prog [(0,40),(2,3)]) (zc apj) ps ⟨fun cs=>K (.ag cs)⟩:=qL bcU rfl aXE
theorem bmU{K:TI→Prop}:@tyW Tryz.prog 42 ⟨K⟩=K Z9:=qk aa8
theorem aO1:Z9.kd=Kd.stru [(0,40),(2,3)]:=ID rfl
theorem axG:Z9.kd.agg=true:=ID rfl
theorem aph:Z9.size=3:=ID rfl
theorem ajh:Z9.bytes=40:=ID rfl
theorem aOZ:qv Z9=True:=eq_true rfl
theorem aO0:zc Z9=[.v (Value.bool false),.v (Value.slice none 0 0),.v (Value.int IntKind.i64 0)]:=ID rfl
theorem aS0{K:Nat→TI→Prop}:@qA Tryz.prog 42 0 ⟨K⟩=K 0 Va:=qq (ti:=Z9) (tf:=Va) (fo:=(0,40)) (fs:=[(0,40),(2,3)]) aa8 rfl rfl awq
theorem aWl{K:Nat→Nat→Prop}:qs Tryz.prog [(0,40),(2,3)] 0 K=K 0 2:=qp (tf:=Va) (fo:=(0,40)) (fs:=[(0,40),(2,3)]) rfl awq
theorem aSZ{K:Nat→TI→Prop}:@qA Tryz.prog 42 1 ⟨K⟩=K 2 ti3:=qq (ti:=Z9) (tf:=ti3) (fo:=(2,3)) (fs:=[(0,40),(2,3)]) aa8 rfl rfl tf3
theorem aWk{K:Nat→Nat→Prop}:qs Tryz.prog [(0,40),(2,3)] 1 K=K 2 1:=qp (tf:=ti3) (fo:=(2,3)) (fs:=[(0,40),(2,3)]) rfl tf3
theorem aXD:∀f∈([(0,40),(2,3)]:List (Nat×Nat)),(ql Tryz.prog f.2).isSome=true:=by
 intro f hf
 simp only[List.mem_cons,List.not_mem_nil,or_false]at hf
 rcases hf with rfl|rfl
 ·rw[awq];rfl
 ·rw[tf3];rfl
theorem blu{ps:List (Nat×AV)}{K:AV→Prop}:@zf Tryz.prog 42 ps ⟨K⟩=@zk (qs Tryz.prog [(0,40),(2,3)]) (zc Z9) ps ⟨fun cs=>K (.ag cs)⟩:=qL aa8 rfl aXD
theorem bmT{K:TI→Prop}:@tyW Tryz.prog 43 ⟨K⟩=K aK3:=qk bnW
theorem aOY:aK3.kd=Kd.oth:=ID rfl
theorem axF:aK3.kd.agg=false:=ID rfl
theorem apg:aK3.size=1:=ID rfl
theorem ajg:aK3.bytes=8:=ID rfl
theorem aOW:qv aK3=True:=eq_true rfl
theorem aOX:zc aK3=[.v Value.nilFunc]:=ID rfl
theorem bmS{K:TI→Prop}:@tyW Tryz.prog 44 ⟨K⟩=K aK2:=qk bnV
theorem aOV:aK2.kd=Kd.oth:=ID rfl
theorem axE:aK2.kd.agg=false:=ID rfl
theorem apf:aK2.size=1:=ID rfl
theorem ajf:aK2.bytes=8:=ID rfl
theorem aOT:qv aK2=True:=eq_true rfl
theorem aOU:zc aK2=[.v Value.nilFunc]:=ID rfl
theorem bmR{K:TI→Prop}:@tyW Tryz.prog 45 ⟨K⟩=K aK1:=qk bnU
theorem aOS:aK1.kd=Kd.oth:=ID rfl
theorem axD:aK1.kd.agg=false:=ID rfl
theorem ape:aK1.size=1:=ID rfl
theorem aje:aK1.bytes=8:=ID rfl
theorem aOQ:qv aK1=True:=eq_true rfl
theorem aOR:zc aK1=[.v Value.nilFunc]:=ID rfl
theorem bmQ{K:TI→Prop}:@tyW Tryz.prog 46 ⟨K⟩=K aK0:=qk bnT
theorem aOP:aK0.kd=Kd.oth:=ID rfl
theorem axC:aK0.kd.agg=false:=ID rfl
theorem apd:aK0.size=1:=ID rfl
theorem ajd:aK0.bytes=8:=ID rfl
theorem aON:qv aK0=True:=eq_true rfl
theorem aOO:zc aK0=[.v Value.nilFunc]:=ID rfl
theorem bmP{K:TI→Prop}:@tyW Tryz.prog 47 ⟨K⟩=K aKZ:=qk bnS
theorem aOM:aKZ.kd=Kd.oth:=ID rfl
theorem axB:aKZ.kd.agg=false:=ID rfl
theorem apc:aKZ.size=1:=ID rfl
theorem ajc:aKZ.bytes=8:=ID rfl
theorem aOK:qv aKZ=True:=eq_true rfl
theorem aOL:zc aKZ=[.v Value.nilFunc]:=ID rfl
theorem bmO{K:TI→Prop}:@tyW Tryz.prog 48 ⟨K⟩=K aKY:=qk bnR
theorem aOJ:aKY.kd=Kd.oth:=ID rfl
theorem axA:aKY.kd.agg=false:=ID rfl
theorem apb:aKY.size=1:=ID rfl
theorem ajb:aKY.bytes=8:=ID rfl
theorem aOH:qv aKY=True:=eq_true rfl
theorem aOI:zc aKY=[.v Value.nilFunc]:=ID rfl
theorem bmN{K:TI→Prop}:@tyW Tryz.prog 49 ⟨K⟩=K aKX:=qk bnQ
theorem aOG:aKX.kd=Kd.oth:=ID rfl
theorem axz:aKX.kd.agg=false:=ID rfl
theorem apa:aKX.size=1:=ID rfl
theorem aja:aKX.bytes=8:=ID rfl
theorem aOE:qv aKX=True:=eq_true rfl
theorem aOF:zc aKX=[.v Value.nilFunc]:=ID rfl
theorem bmM{K:TI→Prop}:@tyW Tryz.prog 50 ⟨K⟩=K aKW:=qk bnP
theorem aOC:aKW.kd=Kd.oth:=ID rfl
theorem axx:aKW.kd.agg=false:=ID rfl
theorem ao8:aKW.size=1:=ID rfl
theorem ai9:aKW.bytes=8:=ID rfl
theorem aOA:qv aKW=True:=eq_true rfl
theorem aOB:zc aKW=[.v Value.nilFunc]:=ID rfl
theorem bmL{K:TI→Prop}:@tyW Tryz.prog 52 ⟨K⟩=K aKV:=qk bnO
theorem aOz:aKV.kd=Kd.oth:=ID rfl
theorem axw:aKV.kd.agg=false:=ID rfl
theorem ao7:aKV.size=1:=ID rfl
theorem ai8:aKV.bytes=8:=ID rfl
theorem aOx:qv aKV=True:=eq_true rfl
theorem aOy:zc aKV=[.v Value.nilFunc]:=ID rfl
theorem bmK{K:TI→Prop}:@tyW Tryz.prog 53 ⟨K⟩=K aKU:=qk bnN
theorem aOw:aKU.kd=Kd.oth:=ID rfl
theorem axv:aKU.kd.agg=false:=ID rfl
theorem ao6:aKU.size=1:=ID rfl
theorem ai7:aKU.bytes=8:=ID rfl
theorem aOu:qv aKU=True:=eq_true rfl
theorem aOv:zc aKU=[.v Value.nilFunc]:=ID rfl
theorem bmJ{K:TI→Prop}:@tyW Tryz.prog 54 ⟨K⟩=K aKT:=qk bnM
theorem aOt:aKT.kd=Kd.oth:=ID rfl
theorem axu:aKT.kd.agg=false:=ID rfl
theorem ao5:aKT.size=1:=ID rfl
theorem ai6:aKT.bytes=8:=ID rfl
theorem aOr:qv aKT=True:=eq_true rfl
theorem aOs:zc aKT=[.v Value.nilFunc]:=ID rfl
theorem bmI{K:TI→Prop}:@tyW Tryz.prog 55 ⟨K⟩=K aKS:=qk bnL
theorem aOq:aKS.kd=Kd.oth:=ID rfl
theorem axt:aKS.kd.agg=false:=ID rfl
theorem ao4:aKS.size=1:=ID rfl
theorem ai5:aKS.bytes=8:=ID rfl
theorem aOo:qv aKS=True:=eq_true rfl
theorem aOp:zc aKS=[.v Value.nilFunc]:=ID rfl
theorem bmH{K:TI→Prop}:@tyW Tryz.prog 56 ⟨K⟩=K aKR:=qk bnK
theorem aOn:aKR.kd=Kd.oth:=ID rfl
theorem axs:aKR.kd.agg=false:=ID rfl
theorem ao3:aKR.size=1:=ID rfl
theorem ai4:aKR.bytes=8:=ID rfl
theorem aOl:qv aKR=True:=eq_true rfl
theorem aOm:zc aKR=[.v Value.nilFunc]:=ID rfl
theorem bmG{K:TI→Prop}:@tyW Tryz.prog 58 ⟨K⟩=K aKQ:=qk bnJ
theorem aOk:aKQ.kd=Kd.oth:=ID rfl
theorem axr:aKQ.kd.agg=false:=ID rfl
theorem ao2:aKQ.size=1:=ID rfl
theorem ai3:aKQ.bytes=8:=ID rfl
theorem aOi:qv aKQ=True:=eq_true rfl
theorem aOj:zc aKQ=[.v Value.nilFunc]:=ID rfl
theorem bmF{K:TI→Prop}:@tyW Tryz.prog 60 ⟨K⟩=K aKP:=qk bnI
theorem aOg:aKP.kd=Kd.oth:=ID rfl
theorem axp:aKP.kd.agg=false:=ID rfl
theorem ao0:aKP.size=1:=ID rfl
theorem ai2:aKP.bytes=8:=ID rfl
theorem aOe:qv aKP=True:=eq_true rfl
theorem aOf:zc aKP=[.v Value.nilFunc]:=ID rfl
theorem bmE{K:TI→Prop}:@tyW Tryz.prog 61 ⟨K⟩=K aKO:=qk bnH
theorem aOd:aKO.kd=Kd.oth:=ID rfl
theorem axo:aKO.kd.agg=false:=ID rfl
theorem aoZ:aKO.size=1:=ID rfl
theorem ai1:aKO.bytes=8:=ID rfl
theorem aOb:qv aKO=True:=eq_true rfl
theorem aOc:zc aKO=[.v Value.nilFunc]:=ID rfl
theorem bmD{K:TI→Prop}:@tyW Tryz.prog 62 ⟨K⟩=K aKN:=qk bnG
theorem aOa:aKN.kd=Kd.oth:=ID rfl
theorem axn:aKN.kd.agg=false:=ID rfl
theorem aoY:aKN.size=1:=ID rfl
theorem ai0:aKN.bytes=8:=ID rfl
theorem aN8:qv aKN=True:=eq_true rfl
theorem aN9:zc aKN=[.v Value.nilFunc]:=ID rfl
theorem bmC{K:TI→Prop}:@tyW Tryz.prog 64 ⟨K⟩=K aKM:=qk bnF
theorem aN7:aKM.kd=Kd.oth:=ID rfl
theorem axm:aKM.kd.agg=false:=ID rfl
theorem aoX:aKM.size=1:=ID rfl
theorem aiZ:aKM.bytes=8:=ID rfl
theorem aN5:qv aKM=True:=eq_true rfl
theorem aN6:zc aKM=[.v Value.nilFunc]:=ID rfl
theorem bmB{K:TI→Prop}:@tyW Tryz.prog 65 ⟨K⟩=K aKL:=qk bnE
theorem aN4:aKL.kd=Kd.oth:=ID rfl
theorem axl:aKL.kd.agg=false:=ID rfl
theorem aoW:aKL.size=1:=ID rfl
theorem aiY:aKL.bytes=8:=ID rfl
theorem aN2:qv aKL=True:=eq_true rfl
theorem aN3:zc aKL=[.v Value.nilFunc]:=ID rfl
theorem bmA{K:TI→Prop}:@tyW Tryz.prog 66 ⟨K⟩=K aKK:=qk bnD
theorem aN1:aKK.kd=Kd.oth:=ID rfl
theorem axk:aKK.kd.agg=false:=ID rfl
theorem aoV:aKK.size=1:=ID rfl
theorem aiX:aKK.bytes=8:=ID rfl
theorem aNZ:qv aKK=True:=eq_true rfl
theorem aN0:zc aKK=[.v Value.nilFunc]:=ID rfl
theorem bmz{K:TI→Prop}:@tyW Tryz.prog 67 ⟨K⟩=K aKJ:=qk bnC
theorem aNY:aKJ.kd=Kd.oth:=ID rfl
theorem axj:aKJ.kd.agg=false:=ID rfl
theorem aoU:aKJ.size=1:=ID rfl
theorem aiW:aKJ.bytes=8:=ID rfl
theorem aNW:qv aKJ=True:=eq_true rfl
theorem aNX:zc aKJ=[.v Value.nilFunc]:=ID rfl
theorem bmy{K:TI→Prop}:@tyW Tryz.prog 68 ⟨K⟩=K aKI:=qk bnB
theorem aNV:aKI.kd=Kd.oth:=ID rfl
theorem axi:aKI.kd.agg=false:=ID rfl
theorem aoT:aKI.size=1:=ID rfl
theorem aiV:aKI.bytes=8:=ID rfl
theorem aNT:qv aKI=True:=eq_true rfl
theorem aNU:zc aKI=[.v Value.nilFunc]:=ID rfl
theorem bmx{K:TI→Prop}:@tyW Tryz.prog 69 ⟨K⟩=K aKH:=qk bnA
theorem aNS:aKH.kd=Kd.oth:=ID rfl
theorem axh:aKH.kd.agg=false:=ID rfl
theorem aoS:aKH.size=1:=ID rfl
theorem aiU:aKH.bytes=8:=ID rfl
theorem aNQ:qv aKH=True:=eq_true rfl
theorem aNR:zc aKH=[.v Value.nilFunc]:=ID rfl
theorem bmw{K:TI→Prop}:@tyW Tryz.prog 70 ⟨K⟩=K aKG:=qk bnz
theorem aNO:aKG.kd=Kd.oth:=ID rfl
theorem axf:aKG.kd.agg=false:=ID rfl
theorem aoQ:aKG.size=1:=ID rfl
theorem aiT:aKG.bytes=8:=ID rfl
theorem aNM:qv aKG=True:=eq_true rfl
theorem aNN:zc aKG=[.v Value.nilFunc]:=ID rfl
theorem bmv{K:TI→Prop}:@tyW Tryz.prog 71 ⟨K⟩=K aKF:=qk bny
theorem aNL:aKF.kd=Kd.oth:=ID rfl
theorem axe:aKF.kd.agg=false:=ID rfl
theorem aoP:aKF.size=1:=ID rfl
theorem aiS:aKF.bytes=8:=ID rfl
theorem aNJ:qv aKF=True:=eq_true rfl
theorem aNK:zc aKF=[.v Value.nilFunc]:=ID rfl
theorem bmu{K:TI→Prop}:@tyW Tryz.prog 72 ⟨K⟩=K aKE:=qk bnx
theorem aNI:aKE.kd=Kd.oth:=ID rfl
theorem axd:aKE.kd.agg=false:=ID rfl
theorem aoO:aKE.size=1:=ID rfl
theorem aiR:aKE.bytes=8:=ID rfl
theorem aNG:qv aKE=True:=eq_true rfl
theorem aNH:zc aKE=[.v Value.nilFunc]:=ID rfl
theorem bmt{K:TI→Prop}:@tyW Tryz.prog 73 ⟨K⟩=K aKD:=qk bnw
theorem aNF:aKD.kd=Kd.oth:=ID rfl
theorem axc:aKD.kd.agg=false:=ID rfl
theorem aoN:aKD.size=1:=ID rfl
theorem aiQ:aKD.bytes=8:=ID rfl
theorem aND:qv aKD=True:=eq_true rfl
theorem aNE:zc aKD=[.v Value.nilFunc]:=ID rfl
theorem bms{K:TI→Prop}:@tyW Tryz.prog 74 ⟨K⟩=K ahl:=qk aLc
theorem aNC:ahl.kd=Kd.sli 87:=ID rfl
theorem axb:ahl.kd.agg=false:=ID rfl
theorem aoM:ahl.size=1:=ID rfl
theorem aiP:ahl.bytes=24:=ID rfl
theorem aNA:qv ahl=True:=eq_true rfl
theorem aNB:zc ahl=[.v (Value.slice none 0 0)]:=ID rfl
theorem biV{K:TI→Prop}:@Qs Tryz.prog 74 ⟨K⟩=K an0:=ZI aLc rfl aVp
theorem bmr{K:TI→Prop}:@tyW Tryz.prog 75 ⟨K⟩=K aoL:=qk bcT
theorem aNz:aoL.kd=Kd.stru [(0,3),(1,74)]:=ID rfl
theorem axa:aoL.kd.agg=true:=ID rfl
theorem aoK:aoL.size=2:=ID rfl
theorem aiO:aoL.bytes=32:=ID rfl
theorem aNx:qv aoL=True:=eq_true rfl
theorem aNy:zc aoL=[.v (Value.int IntKind.i64 0),.v (Value.slice none 0 0)]:=ID rfl
theorem aSY{K:Nat→TI→Prop}:@qA Tryz.prog 75 0 ⟨K⟩=K 0 ti3:=qq (ti:=aoL) (tf:=ti3) (fo:=(0,3)) (fs:=[(0,3),(1,74)]) bcT rfl rfl tf3
theorem aWj{K:Nat→Nat→Prop}:qs Tryz.prog [(0,3),(1,74)] 0 K=K 0 1:=qp (tf:=ti3) (fo:=(0,3)) (fs:=[(0,3),(1,74)]) rfl tf3
theorem aSX{K:Nat→TI→Prop}:@qA Tryz.prog 75 1 ⟨K⟩=K 1 ahl:=qq (ti:=aoL) (tf:=ahl) (fo:=(1,74)) (fs:=[(0,3),(1,74)]) bcT rfl rfl aLc
theorem aWi{K:Nat→Nat→Prop}:qs Tryz.prog [(0,3),(1,74)] 1 K=K 1 1:=qp (tf:=ahl) (fo:=(1,74)) (fs:=[(0,3),(1,74)]) rfl aLc
theorem aXC:∀f∈([(0,3),(1,74)]:List (Nat×Nat)),(ql Tryz.prog f.2).isSome=true:=by
 intro f hf
 simp only[List.mem_cons,List.not_mem_nil,or_false]at hf
 rcases hf with rfl|rfl
 ·rw[tf3];rfl
 ·rw[aLc];rfl
theorem bls{ps:List (Nat×AV)}{K:AV→Prop}:@zf Tryz.prog 75 ps ⟨K⟩=@zk (qs Tryz.prog [(0,3),(1,74)]) (zc aoL) ps ⟨fun cs=>K (.ag cs)⟩:=qL bcT rfl aXC
theorem bmq{K:TI→Prop}:@tyW Tryz.prog 76 ⟨K⟩=K aoJ:=qk bcS
theorem aNw:aoJ.kd=Kd.stru [(0,3),(1,74)]:=ID rfl
theorem aw9:aoJ.kd.agg=true:=ID rfl
theorem aoI:aoJ.size=2:=ID rfl
theorem aiN:aoJ.bytes=32:=ID rfl
theorem aNu:qv aoJ=True:=eq_true rfl
theorem aNv:zc aoJ=[.v (Value.int IntKind.i64 0),.v (Value.slice none 0 0)]:=ID rfl
theorem aSW{K:Nat→TI→Prop}:@qA Tryz.prog 76 0 ⟨K⟩=K 0 ti3:=qq (ti:=aoJ) (tf:=ti3) (fo:=(0,3)) (fs:=[(0,3),(1,74)]) bcS rfl rfl tf3
theorem aWh{K:Nat→Nat→Prop}:qs Tryz.prog [(0,3),(1,74)] 0 K=K 0 1:=qp (tf:=ti3) (fo:=(0,3)) (fs:=[(0,3),(1,74)]) rfl tf3
theorem aSV{K:Nat→TI→Prop}:@qA Tryz.prog 76 1 ⟨K⟩=K 1 ahl:=qq (ti:=aoJ) (tf:=ahl) (fo:=(1,74)) (fs:=[(0,3),(1,74)]) bcS rfl rfl aLc
theorem aWg{K:Nat→Nat→Prop}:qs Tryz.prog [(0,3),(1,74)] 1 K=K 1 1:=qp (tf:=ahl) (fo:=(1,74)) (fs:=[(0,3),(1,74)]) rfl aLc
theorem aXB:∀f∈([(0,3),(1,74)]:List (Nat×Nat)),(ql Tryz.prog f.2).isSome=true:=by
 intro f hf
 simp only[List.mem_cons,List.not_mem_nil,or_false]at hf
 rcases hf with rfl|rfl
 ·rw[tf3];rfl
 ·rw[aLc];rfl
theorem blr{ps:List (Nat×AV)}{K:AV→Prop}:@zf Tryz.prog 76 ps ⟨K⟩=@zk (qs Tryz.prog [(0,3),(1,74)]) (zc aoJ) ps ⟨fun cs=>K (.ag cs)⟩:=qL bcS rfl aXB
theorem bmp{K:TI→Prop}:@tyW Tryz.prog 77 ⟨K⟩=K aKC:=qk bnv
theorem aNt:aKC.kd=Kd.oth:=ID rfl
theorem aw8:aKC.kd.agg=false:=ID rfl
theorem aoH:aKC.size=1:=ID rfl
theorem aiM:aKC.bytes=8:=ID rfl
theorem aNr:qv aKC=True:=eq_true rfl
theorem aNs:zc aKC=[.v Value.nilFunc]:=ID rfl
theorem bmo{K:TI→Prop}:@tyW Tryz.prog 78 ⟨K⟩=K aKB:=qk bnu
theorem aNq:aKB.kd=Kd.oth:=ID rfl
theorem aw7:aKB.kd.agg=false:=ID rfl
theorem aoG:aKB.size=1:=ID rfl
theorem aiL:aKB.bytes=8:=ID rfl
theorem aNo:qv aKB=True:=eq_true rfl
theorem aNp:zc aKB=[.v Value.nilFunc]:=ID rfl
theorem bmn{K:TI→Prop}:@tyW Tryz.prog 79 ⟨K⟩=K aKA:=qk bnt
theorem aNn:aKA.kd=Kd.oth:=ID rfl
theorem aw6:aKA.kd.agg=false:=ID rfl
theorem aoF:aKA.size=1:=ID rfl
theorem aiK:aKA.bytes=8:=ID rfl
theorem aNl:qv aKA=True:=eq_true rfl
theorem aNm:zc aKA=[.v Value.nilFunc]:=ID rfl
theorem bmm{K:TI→Prop}:@tyW Tryz.prog 80 ⟨K⟩=K aKz:=qk bns
theorem aNj:aKz.kd=Kd.oth:=ID rfl
theorem aw4:aKz.kd.agg=false:=ID rfl
theorem aoD:aKz.size=1:=ID rfl
theorem aiJ:aKz.bytes=8:=ID rfl
theorem aNh:qv aKz=True:=eq_true rfl
theorem aNi:zc aKz=[.v Value.nilFunc]:=ID rfl
theorem bml{K:TI→Prop}:@tyW Tryz.prog 81 ⟨K⟩=K aKy:=qk bnr
theorem aNg:aKy.kd=Kd.oth:=ID rfl
theorem aw3:aKy.kd.agg=false:=ID rfl
theorem aoC:aKy.size=1:=ID rfl
theorem aiI:aKy.bytes=8:=ID rfl
theorem aNe:qv aKy=True:=eq_true rfl
theorem aNf:zc aKy=[.v Value.nilFunc]:=ID rfl
theorem bmk{K:TI→Prop}:@tyW Tryz.prog 82 ⟨K⟩=K aKx:=qk bnq
theorem aNd:aKx.kd=Kd.oth:=ID rfl
theorem aw2:aKx.kd.agg=false:=ID rfl
theorem aoB:aKx.size=1:=ID rfl
theorem aiH:aKx.bytes=8:=ID rfl
theorem aNb:qv aKx=True:=eq_true rfl
theorem aNc:zc aKx=[.v Value.nilFunc]:=ID rfl
theorem bmj{K:TI→Prop}:@tyW Tryz.prog 83 ⟨K⟩=K acF:=qk aGY
theorem aNa:acF.kd=Kd.stru [(0,36)]:=ID rfl
theorem aw1:acF.kd.agg=true:=ID rfl
theorem aoA:acF.size=1:=ID rfl
theorem aiG:acF.bytes=24:=ID rfl
theorem aM8:qv acF=True:=eq_true rfl
theorem aM9:zc acF=[.v (Value.slice none 0 0)]:=ID rfl
theorem aSU{K:Nat→TI→Prop}:@qA Tryz.prog 83 0 ⟨K⟩=K 0 Ji:=qq (ti:=acF) (tf:=Ji) (fo:=(0,36)) (fs:=[(0,36)]) aGY rfl rfl aa9
theorem aWf{K:Nat→Nat→Prop}:qs Tryz.prog [(0,36)] 0 K=K 0 1:=qp (tf:=Ji) (fo:=(0,36)) (fs:=[(0,36)]) rfl aa9
theorem aXA:∀f∈([(0,36)]:List (Nat×Nat)),(ql Tryz.prog f.2).isSome=true:=by
 intro f hf
 simp only[List.mem_cons,List.not_mem_nil,or_false]at hf
 subst hf;rw[aa9];rfl
theorem blq{ps:List (Nat×AV)}{K:AV→Prop}:@zf Tryz.prog 83 ps ⟨K⟩=@zk (qs Tryz.prog [(0,36)]) (zc acF) ps ⟨fun cs=>K (.ag cs)⟩:=qL aGY rfl aXA
theorem bmi{K:TI→Prop}:@tyW Tryz.prog 84 ⟨K⟩=K aoz:=qk bcR
theorem aM7:aoz.kd=Kd.stru [(0,4),(1,83)]:=ID rfl
theorem aw0:aoz.kd.agg=true:=ID rfl
theorem aoy:aoz.size=2:=ID rfl
theorem aiF:aoz.bytes=32:=ID rfl
theorem aM5:qv aoz=True:=eq_true rfl
theorem aM6:zc aoz=[.v (Value.bool false),.v (Value.slice none 0 0)]:=ID rfl
theorem aST{K:Nat→TI→Prop}:@qA Tryz.prog 84 0 ⟨K⟩=K 0 ti4:=qq (ti:=aoz) (tf:=ti4) (fo:=(0,4)) (fs:=[(0,4),(1,83)]) bcR rfl rfl tf4
theorem aWe{K:Nat→Nat→Prop}:qs Tryz.prog [(0,4),(1,83)] 0 K=K 0 1:=qp (tf:=ti4) (fo:=(0,4)) (fs:=[(0,4),(1,83)]) rfl tf4
theorem aSS{K:Nat→TI→Prop}:@qA Tryz.prog 84 1 ⟨K⟩=K 1 acF:=qq (ti:=aoz) (tf:=acF) (fo:=(1,83)) (fs:=[(0,4),(1,83)]) bcR rfl rfl aGY
theorem aWd{K:Nat→Nat→Prop}:qs Tryz.prog [(0,4),(1,83)] 1 K=K 1 1:=qp (tf:=acF) (fo:=(1,83)) (fs:=[(0,4),(1,83)]) rfl aGY
theorem aXz:∀f∈([(0,4),(1,83)]:List (Nat×Nat)),(ql Tryz.prog f.2).isSome=true:=by
 intro f hf
 simp only[List.mem_cons,List.not_mem_nil,or_false]at hf
 rcases hf with rfl|rfl
 ·rw[tf4];rfl
 ·rw[aGY];rfl
theorem blp{ps:List (Nat×AV)}{K:AV→Prop}:@zf Tryz.prog 84 ps ⟨K⟩=@zk (qs Tryz.prog [(0,4),(1,83)]) (zc aoz) ps ⟨fun cs=>K (.ag cs)⟩:=qL bcR rfl aXz
theorem bmh{K:TI→Prop}:@tyW Tryz.prog 85 ⟨K⟩=K X9:=qk awo
theorem aM4:X9.kd=Kd.stru [(0,4),(1,83)]:=ID rfl
theorem awZ:X9.kd.agg=true:=ID rfl
theorem aox:X9.size=2:=ID rfl
theorem aiE:X9.bytes=32:=ID rfl
theorem aM2:qv X9=True:=eq_true rfl
theorem aM3:zc X9=[.v (Value.bool false),.v (Value.slice none 0 0)]:=ID rfl
theorem aSR{K:Nat→TI→Prop}:@qA Tryz.prog 85 0 ⟨K⟩=K 0 ti4:=qq (ti:=X9) (tf:=ti4) (fo:=(0,4)) (fs:=[(0,4),(1,83)]) awo rfl rfl tf4
theorem aWc{K:Nat→Nat→Prop}:qs Tryz.prog [(0,4),(1,83)] 0 K=K 0 1:=qp (tf:=ti4) (fo:=(0,4)) (fs:=[(0,4),(1,83)]) rfl tf4
theorem aSQ{K:Nat→TI→Prop}:@qA Tryz.prog 85 1 ⟨K⟩=K 1 acF:=qq (ti:=X9) (tf:=acF) (fo:=(1,83)) (fs:=[(0,4),(1,83)]) awo rfl rfl aGY
theorem aWb{K:Nat→Nat→Prop}:qs Tryz.prog [(0,4),(1,83)] 1 K=K 1 1:=qp (tf:=acF) (fo:=(1,83)) (fs:=[(0,4),(1,83)]) rfl aGY
theorem aXy:∀f∈([(0,4),(1,83)]:List (Nat×Nat)),(ql Tryz.prog f.2).isSome=true:=by
 intro f hf
 simp only[List.mem_cons,List.not_mem_nil,or_false]at hf
 rcases hf with rfl|rfl
 ·rw[tf4];rfl
 ·rw[aGY];rfl
theorem blo{ps:List (Nat×AV)}{K:AV→Prop}:@zf Tryz.prog 85 ps ⟨K⟩=@zk (qs Tryz.prog [(0,4),(1,83)]) (zc X9) ps ⟨fun cs=>K (.ag cs)⟩:=qL awo rfl aXy
theorem bmg{K:TI→Prop}:@tyW Tryz.prog 86 ⟨K⟩=K aow:=qk bcQ
theorem aM1:aow.kd=Kd.stru [(0,85),(2,3)]:=ID rfl
theorem awY:aow.kd.agg=true:=ID rfl
theorem aov:aow.size=3:=ID rfl
theorem aiD:aow.bytes=40:=ID rfl
theorem aMZ:qv aow=True:=eq_true rfl
theorem aM0:zc aow=[.v (Value.bool false),.v (Value.slice none 0 0),.v (Value.int IntKind.i64 0)]:=ID rfl
theorem aSP{K:Nat→TI→Prop}:@qA Tryz.prog 86 0 ⟨K⟩=K 0 X9:=qq (ti:=aow) (tf:=X9) (fo:=(0,85)) (fs:=[(0,85),(2,3)]) bcQ rfl rfl awo
theorem aWa{K:Nat→Nat→Prop}:qs Tryz.prog [(0,85),(2,3)] 0 K=K 0 2:=qp (tf:=X9) (fo:=(0,85)) (fs:=[(0,85),(2,3)]) rfl awo
theorem aSO{K:Nat→TI→Prop}:@qA Tryz.prog 86 1 ⟨K⟩=K 2 ti3:=qq (ti:=aow) (tf:=ti3) (fo:=(2,3)) (fs:=[(0,85),(2,3)]) bcQ rfl rfl tf3
theorem aV9{K:Nat→Nat→Prop}:qs Tryz.prog [(0,85),(2,3)] 1 K=K 2 1:=qp (tf:=ti3) (fo:=(2,3)) (fs:=[(0,85),(2,3)]) rfl tf3
theorem aXx:∀f∈([(0,85),(2,3)]:List (Nat×Nat)),(ql Tryz.prog f.2).isSome=true:=by
 intro f hf
 simp only[List.mem_cons,List.not_mem_nil,or_false]at hf
 rcases hf with rfl|rfl
 ·rw[awo];rfl
 ·rw[tf3];rfl
theorem bln{ps:List (Nat×AV)}{K:AV→Prop}:@zf Tryz.prog 86 ps ⟨K⟩=@zk (qs Tryz.prog [(0,85),(2,3)]) (zc aow) ps ⟨fun cs=>K (.ag cs)⟩:=qL bcQ rfl aXx
theorem bmf{K:TI→Prop}:@tyW Tryz.prog 87 ⟨K⟩=K an0:=qk aVp
theorem aMY:an0.kd=Kd.stru [(0,85),(2,3)]:=ID rfl
theorem awX:an0.kd.agg=true:=ID rfl
theorem aou:an0.size=3:=ID rfl
theorem aiC:an0.bytes=40:=ID rfl
theorem aMW:qv an0=True:=eq_true rfl
theorem aMX:zc an0=[.v (Value.bool false),.v (Value.slice none 0 0),.v (Value.int IntKind.i64 0)]:=ID rfl
theorem aSN{K:Nat→TI→Prop}:@qA Tryz.prog 87 0 ⟨K⟩=K 0 X9:=qq (ti:=an0) (tf:=X9) (fo:=(0,85)) (fs:=[(0,85),(2,3)]) aVp rfl rfl awo
theorem aV8{K:Nat→Nat→Prop}:qs Tryz.prog [(0,85),(2,3)] 0 K=K 0 2:=qp (tf:=X9) (fo:=(0,85)) (fs:=[(0,85),(2,3)]) rfl awo
theorem aSM{K:Nat→TI→Prop}:@qA Tryz.prog 87 1 ⟨K⟩=K 2 ti3:=qq (ti:=an0) (tf:=ti3) (fo:=(2,3)) (fs:=[(0,85),(2,3)]) aVp rfl rfl tf3
theorem aV7{K:Nat→Nat→Prop}:qs Tryz.prog [(0,85),(2,3)] 1 K=K 2 1:=qp (tf:=ti3) (fo:=(2,3)) (fs:=[(0,85),(2,3)]) rfl tf3
theorem aXw:∀f∈([(0,85),(2,3)]:List (Nat×Nat)),(ql Tryz.prog f.2).isSome=true:=by
 intro f hf
 simp only[List.mem_cons,List.not_mem_nil,or_false]at hf
 rcases hf with rfl|rfl
 ·rw[awo];rfl
 ·rw[tf3];rfl
theorem blm{ps:List (Nat×AV)}{K:AV→Prop}:@zf Tryz.prog 87 ps ⟨K⟩=@zk (qs Tryz.prog [(0,85),(2,3)]) (zc an0) ps ⟨fun cs=>K (.ag cs)⟩:=qL aVp rfl aXw
theorem bme{K:TI→Prop}:@tyW Tryz.prog 88 ⟨K⟩=K aKw:=qk bnp
theorem aMV:aKw.kd=Kd.oth:=ID rfl
theorem awW:aKw.kd.agg=false:=ID rfl
theorem aot:aKw.size=1:=ID rfl
theorem aiB:aKw.bytes=8:=ID rfl
theorem aMT:qv aKw=True:=eq_true rfl
theorem aMU:zc aKw=[.v Value.nilFunc]:=ID rfl
theorem bmd{K:TI→Prop}:@tyW Tryz.prog 89 ⟨K⟩=K aos:=qk bcP
theorem aMS:aos.kd=Kd.stru [(0,42),(3,42)]:=ID rfl
theorem awU:aos.kd.agg=true:=ID rfl
theorem aor:aos.size=6:=ID rfl
theorem aiA:aos.bytes=80:=ID rfl
theorem aMQ:qv aos=True:=eq_true rfl
theorem aMR:zc aos=[.v (Value.bool false),.v (Value.slice none 0 0),.v (Value.int IntKind.i64 0),.v (Value.bool false),.v (Value.slice none 0 0),.v (Value.int IntKind.i64 0)]:=ID rfl
theorem aSL{K:Nat→TI→Prop}:@qA Tryz.prog 89 0 ⟨K⟩=K 0 Z9:=qq (ti:=aos) (tf:=Z9) (fo:=(0,42)) (fs:=[(0,42),(3,42)]) bcP rfl rfl aa8
theorem aV6{K:Nat→Nat→Prop}:qs Tryz.prog [(0,42),(3,42)] 0 K=K 0 3:=qp (tf:=Z9) (fo:=(0,42)) (fs:=[(0,42),(3,42)]) rfl aa8
theorem aSK{K:Nat→TI→Prop}:@qA Tryz.prog 89 1 ⟨K⟩=K 3 Z9:=qq (ti:=aos) (tf:=Z9) (fo:=(3,42)) (fs:=[(0,42),(3,42)]) bcP rfl rfl aa8
theorem aV5{K:Nat→Nat→Prop}:qs Tryz.prog [(0,42),(3,42)] 1 K=K 3 3:=qp (tf:=Z9) (fo:=(3,42)) (fs:=[(0,42),(3,42)]) rfl aa8
theorem aXv:∀f∈([(0,42),(3,42)]:List (Nat×Nat)),(ql Tryz.prog f.2).isSome=true:=by
 intro f hf
 simp only[List.mem_cons,List.not_mem_nil,or_false]at hf
 rcases hf with rfl|rfl
 ·rw[aa8];rfl
 ·rw[aa8];rfl
theorem bll{ps:List (Nat×AV)}{K:AV→Prop}:@zf Tryz.prog 89 ps ⟨K⟩=@zk (qs Tryz.prog [(0,42),(3,42)]) (zc aos) ps ⟨fun cs=>K (.ag cs)⟩:=qL bcP rfl aXv
theorem bmc{K:TI→Prop}:@tyW Tryz.prog 90 ⟨K⟩=K anZ:=qk aVo
theorem aMO:anZ.kd=Kd.stru [(0,42),(3,42)]:=ID rfl
theorem awS:anZ.kd.agg=true:=ID rfl
theorem aop:anZ.size=6:=ID rfl
theorem aiz:anZ.bytes=80:=ID rfl
theorem aMM:qv anZ=True:=eq_true rfl
theorem aMN:zc anZ=[.v (Value.bool false),.v (Value.slice none 0 0),.v (Value.int IntKind.i64 0),.v (Value.bool false),.v (Value.slice none 0 0),.v (Value.int IntKind.i64 0)]:=ID rfl
theorem aSJ{K:Nat→TI→Prop}:@qA Tryz.prog 90 0 ⟨K⟩=K 0 Z9:=qq (ti:=anZ) (tf:=Z9) (fo:=(0,42)) (fs:=[(0,42),(3,42)]) aVo rfl rfl aa8
theorem aV4{K:Nat→Nat→Prop}:qs Tryz.prog [(0,42),(3,42)] 0 K=K 0 3:=qp (tf:=Z9) (fo:=(0,42)) (fs:=[(0,42),(3,42)]) rfl aa8
theorem aSI{K:Nat→TI→Prop}:@qA Tryz.prog 90 1 ⟨K⟩=K 3 Z9:=qq (ti:=anZ) (tf:=Z9) (fo:=(3,42)) (fs:=[(0,42),(3,42)]) aVo rfl rfl aa8
theorem aV3{K:Nat→Nat→Prop}:qs Tryz.prog [(0,42),(3,42)] 1 K=K 3 3:=qp (tf:=Z9) (fo:=(3,42)) (fs:=[(0,42),(3,42)]) rfl aa8
theorem aXu:∀f∈([(0,42),(3,42)]:List (Nat×Nat)),(ql Tryz.prog f.2).isSome=true:=by
 intro f hf
 simp only[List.mem_cons,List.not_mem_nil,or_false]at hf
 rcases hf with rfl|rfl
 ·rw[aa8];rfl
 ·rw[aa8];rfl
theorem blk{ps:List (Nat×AV)}{K:AV→Prop}:@zf Tryz.prog 90 ps ⟨K⟩=@zk (qs Tryz.prog [(0,42),(3,42)]) (zc anZ) ps ⟨fun cs=>K (.ag cs)⟩:=qL aVo rfl aXu
theorem bmb{K:TI→Prop}:@tyW Tryz.prog 92 ⟨K⟩=K aKv:=qk bno
theorem aML:aKv.kd=Kd.oth:=ID rfl
theorem awR:aKv.kd.agg=false:=ID rfl
theorem aoo:aKv.size=1:=ID rfl
theorem aiy:aKv.bytes=8:=ID rfl
theorem aMJ:qv aKv=True:=eq_true rfl
theorem aMK:zc aKv=[.v Value.nilFunc]:=ID rfl
theorem bma{K:TI→Prop}:@tyW Tryz.prog 93 ⟨K⟩=K aKu:=qk bnn
theorem aMI:aKu.kd=Kd.oth:=ID rfl
theorem awQ:aKu.kd.agg=false:=ID rfl
theorem aon:aKu.size=1:=ID rfl
theorem aix:aKu.bytes=8:=ID rfl
theorem aMG:qv aKu=True:=eq_true rfl
theorem aMH:zc aKu=[.v Value.nilFunc]:=ID rfl
theorem bl9{K:TI→Prop}:@tyW Tryz.prog 94 ⟨K⟩=K aKt:=qk bnm
theorem aMF:aKt.kd=Kd.oth:=ID rfl
theorem awP:aKt.kd.agg=false:=ID rfl
theorem aom:aKt.size=1:=ID rfl
theorem aiw:aKt.bytes=8:=ID rfl
theorem aMD:qv aKt=True:=eq_true rfl
theorem aME:zc aKt=[.v Value.nilFunc]:=ID rfl
theorem bl8{K:TI→Prop}:@tyW Tryz.prog 95 ⟨K⟩=K aKs:=qk bnl
theorem aMC:aKs.kd=Kd.oth:=ID rfl
theorem awO:aKs.kd.agg=false:=ID rfl
theorem aol:aKs.size=1:=ID rfl
theorem aiv:aKs.bytes=8:=ID rfl
theorem aMA:qv aKs=True:=eq_true rfl
theorem aMB:zc aKs=[.v Value.nilFunc]:=ID rfl
theorem bl7{K:TI→Prop}:@tyW Tryz.prog 96 ⟨K⟩=K aKr:=qk bnk
theorem aMz:aKr.kd=Kd.oth:=ID rfl
theorem awN:aKr.kd.agg=false:=ID rfl
theorem aok:aKr.size=1:=ID rfl
theorem aiu:aKr.bytes=8:=ID rfl
theorem aMx:qv aKr=True:=eq_true rfl
theorem aMy:zc aKr=[.v Value.nilFunc]:=ID rfl
theorem bl6{K:TI→Prop}:@tyW Tryz.prog 97 ⟨K⟩=K aKq:=qk bnj
theorem aMw:aKq.kd=Kd.oth:=ID rfl
theorem awM:aKq.kd.agg=false:=ID rfl
theorem aoj:aKq.size=1:=ID rfl
theorem ait:aKq.bytes=8:=ID rfl
theorem aMu:qv aKq=True:=eq_true rfl
theorem aMv:zc aKq=[.v Value.nilFunc]:=ID rfl
theorem bl5{K:TI→Prop}:@tyW Tryz.prog 98 ⟨K⟩=K aKp:=qk bni
theorem aMt:aKp.kd=Kd.oth:=ID rfl
theorem awL:aKp.kd.agg=false:=ID rfl
theorem aoi:aKp.size=1:=ID rfl
theorem ais:aKp.bytes=8:=ID rfl
theorem aMr:qv aKp=True:=eq_true rfl
theorem aMs:zc aKp=[.v Value.nilFunc]:=ID rfl
theorem bl4{K:TI→Prop}:@tyW Tryz.prog 99 ⟨K⟩=K aKo:=qk bnh
theorem aMq:aKo.kd=Kd.oth:=ID rfl
theorem awK:aKo.kd.agg=false:=ID rfl
theorem aoh:aKo.size=1:=ID rfl
theorem air:aKo.bytes=8:=ID rfl
theorem aMo:qv aKo=True:=eq_true rfl
theorem aMp:zc aKo=[.v Value.nilFunc]:=ID rfl
theorem bf0{K:TI→Prop}:@tyW Tryz.prog 101 ⟨K⟩=K aa4:=qk biO
theorem aGV:aa4.kd=Kd.oth:=ID rfl
theorem asM:aa4.kd.agg=false:=ID rfl
theorem amD:aa4.size=1:=ID rfl
theorem afN:aa4.bytes=8:=ID rfl
theorem aGT:qv aa4=True:=eq_true rfl
theorem aGU:zc aa4=[.v Value.nilFunc]:=ID rfl
theorem bfZ{K:TI→Prop}:@tyW Tryz.prog 102 ⟨K⟩=K aa3:=qk biN
theorem aGS:aa3.kd=Kd.oth:=ID rfl
theorem asL:aa3.kd.agg=false:=ID rfl
theorem amC:aa3.size=1:=ID rfl
theorem afM:aa3.bytes=8:=ID rfl
theorem aGQ:qv aa3=True:=eq_true rfl
theorem aGR:zc aa3=[.v Value.nilFunc]:=ID rfl
theorem bfY{K:TI→Prop}:@tyW Tryz.prog 103 ⟨K⟩=K aa2:=qk biM
theorem aGP:aa2.kd=Kd.oth:=ID rfl
theorem asK:aa2.kd.agg=false:=ID rfl
theorem amB:aa2.size=1:=ID rfl
theorem afL:aa2.bytes=8:=ID rfl
theorem aGN:qv aa2=True:=eq_true rfl
theorem aGO:zc aa2=[.v Value.nilFunc]:=ID rfl
theorem bfX{K:TI→Prop}:@tyW Tryz.prog 104 ⟨K⟩=K aa1:=qk biL
theorem aGM:aa1.kd=Kd.oth:=ID rfl
theorem asJ:aa1.kd.agg=false:=ID rfl
theorem amA:aa1.size=1:=ID rfl
theorem afK:aa1.bytes=8:=ID rfl
theorem aGK:qv aa1=True:=eq_true rfl
theorem aGL:zc aa1=[.v Value.nilFunc]:=ID rfl
theorem bfW{K:TI→Prop}:@tyW Tryz.prog 105 ⟨K⟩=K QO:=qk aba
theorem aGJ:QO.kd=Kd.sli 125:=ID rfl
theorem asI:QO.kd.agg=false:=ID rfl
theorem amz:QO.size=1:=ID rfl
theorem afJ:QO.bytes=24:=ID rfl
theorem aGH:qv QO=True:=eq_true rfl
theorem aGI:zc QO=[.v (Value.slice none 0 0)]:=ID rfl
theorem aVI{K:TI→Prop}:@Qs Tryz.prog 105 ⟨K⟩=K Z0:=ZI aba rfl asR
theorem bfV{K:TI→Prop}:@tyW Tryz.prog 106 ⟨K⟩=K Jn:=qk aG4
theorem aGG:Jn.kd=Kd.stru [(0,3),(1,105)]:=ID rfl
theorem asH:Jn.kd.agg=true:=ID rfl
theorem amy:Jn.size=2:=ID rfl
theorem afI:Jn.bytes=32:=ID rfl
theorem aGE:qv Jn=True:=eq_true rfl
theorem aGF:zc Jn=[.v (Value.int IntKind.i64 0),.v (Value.slice none 0 0)]:=ID rfl
theorem aI8{K:Nat→TI→Prop}:@qA Tryz.prog 106 0 ⟨K⟩=K 0 ti3:=qq (ti:=Jn) (tf:=ti3) (fo:=(0,3)) (fs:=[(0,3),(1,105)]) aG4 rfl rfl tf3
theorem aQ8{K:Nat→Nat→Prop}:qs Tryz.prog [(0,3),(1,105)] 0 K=K 0 1:=qp (tf:=ti3) (fo:=(0,3)) (fs:=[(0,3),(1,105)]) rfl tf3
theorem aI7{K:Nat→TI→Prop}:@qA Tryz.prog 106 1 ⟨K⟩=K 1 QO:=qq (ti:=Jn) (tf:=QO) (fo:=(1,105)) (fs:=[(0,3),(1,105)]) aG4 rfl rfl aba
theorem aQ7{K:Nat→Nat→Prop}:qs Tryz.prog [(0,3),(1,105)] 1 K=K 1 1:=qp (tf:=QO) (fo:=(1,105)) (fs:=[(0,3),(1,105)]) rfl aba
theorem aSC:∀f∈([(0,3),(1,105)]:List (Nat×Nat)),(ql Tryz.prog f.2).isSome=true:=by
 intro f hf
 simp only[List.mem_cons,List.not_mem_nil,or_false]at hf
 rcases hf with rfl|rfl
 ·rw[tf3];rfl
 ·rw[aba];rfl
theorem bcn{ps:List (Nat×AV)}{K:AV→Prop}:@zf Tryz.prog 106 ps ⟨K⟩=@zk (qs Tryz.prog [(0,3),(1,105)]) (zc Jn) ps ⟨fun cs=>K (.ag cs)⟩:=qL aG4 rfl aSC
theorem bfU{K:TI→Prop}:@tyW Tryz.prog 107 ⟨K⟩=K Jm:=qk aG3
theorem aGD:Jm.kd=Kd.stru [(0,3),(1,105)]:=ID rfl
theorem asG:Jm.kd.agg=true:=ID rfl
theorem amx:Jm.size=2:=ID rfl
theorem afH:Jm.bytes=32:=ID rfl
theorem aGB:qv Jm=True:=eq_true rfl
theorem aGC:zc Jm=[.v (Value.int IntKind.i64 0),.v (Value.slice none 0 0)]:=ID rfl
theorem aI6{K:Nat→TI→Prop}:@qA Tryz.prog 107 0 ⟨K⟩=K 0 ti3:=qq (ti:=Jm) (tf:=ti3) (fo:=(0,3)) (fs:=[(0,3),(1,105)]) aG3 rfl rfl tf3
theorem aQ6{K:Nat→Nat→Prop}:qs Tryz.prog [(0,3),(1,105)] 0 K=K 0 1:=qp (tf:=ti3) (fo:=(0,3)) (fs:=[(0,3),(1,105)]) rfl tf3
theorem aI5{K:Nat→TI→Prop}:@qA Tryz.prog 107 1 ⟨K⟩=K 1 QO:=qq (ti:=Jm) (tf:=QO) (fo:=(1,105)) (fs:=[(0,3),(1,105)]) aG3 rfl rfl aba
theorem aQ5{K:Nat→Nat→Prop}:qs Tryz.prog [(0,3),(1,105)] 1 K=K 1 1:=qp (tf:=QO) (fo:=(1,105)) (fs:=[(0,3),(1,105)]) rfl aba
theorem aSB:∀f∈([(0,3),(1,105)]:List (Nat×Nat)),(ql Tryz.prog f.2).isSome=true:=by
 intro f hf
 simp only[List.mem_cons,List.not_mem_nil,or_false]at hf
 rcases hf with rfl|rfl
 ·rw[tf3];rfl
 ·rw[aba];rfl
theorem bcm{ps:List (Nat×AV)}{K:AV→Prop}:@zf Tryz.prog 107 ps ⟨K⟩=@zk (qs Tryz.prog [(0,3),(1,105)]) (zc Jm) ps ⟨fun cs=>K (.ag cs)⟩:=qL aG3 rfl aSB
theorem bfT{K:TI→Prop}:@tyW Tryz.prog 108 ⟨K⟩=K QC:=qk Y9
theorem aGA:QC.kd=Kd.sli 117:=ID rfl
theorem asF:QC.kd.agg=false:=ID rfl
theorem amw:QC.size=1:=ID rfl
theorem afG:QC.bytes=24:=ID rfl
theorem aGy:qv QC=True:=eq_true rfl
theorem aGz:zc QC=[.v (Value.slice none 0 0)]:=ID rfl
theorem aVH{K:TI→Prop}:@Qs Tryz.prog 108 ⟨K⟩=K jw:=ZI Y9 rfl yO
theorem bfS{K:TI→Prop}:@tyW Tryz.prog 109 ⟨K⟩=K Jl:=qk aG2
theorem aGx:Jl.kd=Kd.stru [(0,3),(1,108)]:=ID rfl
theorem asE:Jl.kd.agg=true:=ID rfl
theorem amv:Jl.size=2:=ID rfl
theorem afF:Jl.bytes=32:=ID rfl
theorem aGv:qv Jl=True:=eq_true rfl
theorem aGw:zc Jl=[.v (Value.int IntKind.i64 0),.v (Value.slice none 0 0)]:=ID rfl
theorem aI4{K:Nat→TI→Prop}:@qA Tryz.prog 109 0 ⟨K⟩=K 0 ti3:=qq (ti:=Jl) (tf:=ti3) (fo:=(0,3)) (fs:=[(0,3),(1,108)]) aG2 rfl rfl tf3
theorem aQ4{K:Nat→Nat→Prop}:qs Tryz.prog [(0,3),(1,108)] 0 K=K 0 1:=qp (tf:=ti3) (fo:=(0,3)) (fs:=[(0,3),(1,108)]) rfl tf3
theorem aI3{K:Nat→TI→Prop}:@qA Tryz.prog 109 1 ⟨K⟩=K 1 QC:=qq (ti:=Jl) (tf:=QC) (fo:=(1,108)) (fs:=[(0,3),(1,108)]) aG2 rfl rfl Y9
theorem aQ3{K:Nat→Nat→Prop}:qs Tryz.prog [(0,3),(1,108)] 1 K=K 1 1:=qp (tf:=QC) (fo:=(1,108)) (fs:=[(0,3),(1,108)]) rfl Y9
theorem aSA:∀f∈([(0,3),(1,108)]:List (Nat×Nat)),(ql Tryz.prog f.2).isSome=true:=by
 intro f hf
 simp only[List.mem_cons,List.not_mem_nil,or_false]at hf
 rcases hf with rfl|rfl
 ·rw[tf3];rfl
 ·rw[Y9];rfl
theorem bcl{ps:List (Nat×AV)}{K:AV→Prop}:@zf Tryz.prog 109 ps ⟨K⟩=@zk (qs Tryz.prog [(0,3),(1,108)]) (zc Jl) ps ⟨fun cs=>K (.ag cs)⟩:=qL aG2 rfl aSA
theorem bfR{K:TI→Prop}:@tyW Tryz.prog 110 ⟨K⟩=K Jk:=qk aG1
theorem aGt:Jk.kd=Kd.stru [(0,3),(1,108)]:=ID rfl
theorem asC:Jk.kd.agg=true:=ID rfl
theorem amt:Jk.size=2:=ID rfl
theorem afE:Jk.bytes=32:=ID rfl
theorem aGr:qv Jk=True:=eq_true rfl
theorem aGs:zc Jk=[.v (Value.int IntKind.i64 0),.v (Value.slice none 0 0)]:=ID rfl
theorem aI2{K:Nat→TI→Prop}:@qA Tryz.prog 110 0 ⟨K⟩=K 0 ti3:=qq (ti:=Jk) (tf:=ti3) (fo:=(0,3)) (fs:=[(0,3),(1,108)]) aG1 rfl rfl tf3
theorem aQ2{K:Nat→Nat→Prop}:qs Tryz.prog [(0,3),(1,108)] 0 K=K 0 1:=qp (tf:=ti3) (fo:=(0,3)) (fs:=[(0,3),(1,108)]) rfl tf3
theorem aI1{K:Nat→TI→Prop}:@qA Tryz.prog 110 1 ⟨K⟩=K 1 QC:=qq (ti:=Jk) (tf:=QC) (fo:=(1,108)) (fs:=[(0,3),(1,108)]) aG1 rfl rfl Y9
theorem aQ1{K:Nat→Nat→Prop}:qs Tryz.prog [(0,3),(1,108)] 1 K=K 1 1:=qp (tf:=QC) (fo:=(1,108)) (fs:=[(0,3),(1,108)]) rfl Y9
theorem aSz:∀f∈([(0,3),(1,108)]:List (Nat×Nat)),(ql Tryz.prog f.2).isSome=true:=by
 intro f hf
 simp only[List.mem_cons,List.not_mem_nil,or_false]at hf
 rcases hf with rfl|rfl
 ·rw[tf3];rfl
 ·rw[Y9];rfl
theorem bck{ps:List (Nat×AV)}{K:AV→Prop}:@zf Tryz.prog 110 ps ⟨K⟩=@zk (qs Tryz.prog [(0,3),(1,108)]) (zc Jk) ps ⟨fun cs=>K (.ag cs)⟩:=qL aG1 rfl aSz
theorem bfQ{K:TI→Prop}:@tyW Tryz.prog 111 ⟨K⟩=K aaZ:=qk biK
theorem aGq:aaZ.kd=Kd.oth:=ID rfl
theorem asB:aaZ.kd.agg=false:=ID rfl
theorem ams:aaZ.size=1:=ID rfl
theorem afD:aaZ.bytes=8:=ID rfl
theorem aGo:qv aaZ=True:=eq_true rfl
theorem aGp:zc aaZ=[.v Value.nilFunc]:=ID rfl
theorem bfP{K:TI→Prop}:@tyW Tryz.prog 112 ⟨K⟩=K aaY:=qk biJ
theorem aGn:aaY.kd=Kd.oth:=ID rfl
theorem asA:aaY.kd.agg=false:=ID rfl
theorem amr:aaY.size=1:=ID rfl
theorem afC:aaY.bytes=8:=ID rfl
theorem aGl:qv aaY=True:=eq_true rfl
theorem aGm:zc aaY=[.v Value.nilFunc]:=ID rfl
theorem bfO{K:TI→Prop}:@tyW Tryz.prog 113 ⟨K⟩=K aaX:=qk biI
theorem aGk:aaX.kd=Kd.oth:=ID rfl
theorem asz:aaX.kd.agg=false:=ID rfl
theorem amq:aaX.size=1:=ID rfl
theorem afB:aaX.bytes=8:=ID rfl
theorem aGi:qv aaX=True:=eq_true rfl
theorem aGj:zc aaX=[.v Value.nilFunc]:=ID rfl
theorem bfN{K:TI→Prop}:@tyW Tryz.prog 114 ⟨K⟩=K aaW:=qk biH
theorem aGh:aaW.kd=Kd.oth:=ID rfl
theorem asy:aaW.kd.agg=false:=ID rfl
theorem amp:aaW.size=1:=ID rfl
theorem afA:aaW.bytes=8:=ID rfl
theorem aGf:qv aaW=True:=eq_true rfl
theorem aGg:zc aaW=[.v Value.nilFunc]:=ID rfl
theorem bfM{K:TI→Prop}:@tyW Tryz.prog 115 ⟨K⟩=K aaV:=qk biG
theorem aGe:aaV.kd=Kd.oth:=ID rfl
theorem asx:aaV.kd.agg=false:=ID rfl
theorem amo:aaV.size=1:=ID rfl
theorem afz:aaV.bytes=8:=ID rfl
theorem aGc:qv aaV=True:=eq_true rfl
theorem aGd:zc aaV=[.v Value.nilFunc]:=ID rfl
theorem bfL{K:TI→Prop}:@tyW Tryz.prog 116 ⟨K⟩=K Z1:=qk asS
theorem aGb:Z1.kd=Kd.stru [(0,4),(1,36),(2,3)]:=ID rfl
theorem asw:Z1.kd.agg=true:=ID rfl
theorem amn:Z1.size=3:=ID rfl
theorem afy:Z1.bytes=40:=ID rfl
theorem aF9:qv Z1=True:=eq_true rfl
theorem aGa:zc Z1=[.v (Value.bool false),.v (Value.slice none 0 0),.v (Value.int IntKind.i64 0)]:=ID rfl
theorem aI0{K:Nat→TI→Prop}:@qA Tryz.prog 116 0 ⟨K⟩=K 0 ti4:=qq (ti:=Z1) (tf:=ti4) (fo:=(0,4)) (fs:=[(0,4),(1,36),(2,3)]) asS rfl rfl tf4
theorem aQ0{K:Nat→Nat→Prop}:qs Tryz.prog [(0,4),(1,36),(2,3)] 0 K=K 0 1:=qp (tf:=ti4) (fo:=(0,4)) (fs:=[(0,4),(1,36),(2,3)]) rfl tf4
theorem aIZ{K:Nat→TI→Prop}:@qA Tryz.prog 116 1 ⟨K⟩=K 1 Ji:=qq (ti:=Z1) (tf:=Ji) (fo:=(1,36)) (fs:=[(0,4),(1,36),(2,3)]) asS rfl rfl aa9
theorem aQZ{K:Nat→Nat→Prop}:qs Tryz.prog [(0,4),(1,36),(2,3)] 1 K=K 1 1:=qp (tf:=Ji) (fo:=(1,36)) (fs:=[(0,4),(1,36),(2,3)]) rfl aa9
theorem aIY{K:Nat→TI→Prop}:@qA Tryz.prog 116 2 ⟨K⟩=K 2 ti3:=qq (ti:=Z1) (tf:=ti3) (fo:=(2,3)) (fs:=[(0,4),(1,36),(2,3)]) asS rfl rfl tf3
theorem aQY{K:Nat→Nat→Prop}:qs Tryz.prog [(0,4),(1,36),(2,3)] 2 K=K 2 1:=qp (tf:=ti3) (fo:=(2,3)) (fs:=[(0,4),(1,36),(2,3)]) rfl tf3
theorem aSy:∀f∈([(0,4),(1,36),(2,3)]:List (Nat×Nat)),(ql Tryz.prog f.2).isSome=true:=by
 intro f hf
 simp only[List.mem_cons,List.not_mem_nil,or_false]at hf
 rcases hf with rfl|rfl|rfl
 ·rw[tf4];rfl
 ·rw[aa9];rfl
 ·rw[tf3];rfl
theorem bcj{ps:List (Nat×AV)}{K:AV→Prop}:@zf Tryz.prog 116 ps ⟨K⟩=@zk (qs Tryz.prog [(0,4),(1,36),(2,3)]) (zc Z1) ps ⟨fun cs=>K (.ag cs)⟩:=qL asS rfl aSy
theorem bfK{K:TI→Prop}:@tyW Tryz.prog 117 ⟨K⟩=K jw:=qk yO
theorem aF8:jw.kd=Kd.stru [(0,4),(1,36),(2,3)]:=ID rfl
theorem asv:jw.kd.agg=true:=ID rfl
theorem amm:jw.size=3:=ID rfl
theorem afx:jw.bytes=40:=ID rfl
theorem aF6:qv jw=True:=eq_true rfl
theorem aF7:zc jw=[.v (Value.bool false),.v (Value.slice none 0 0),.v (Value.int IntKind.i64 0)]:=ID rfl
theorem aIX{K:Nat→TI→Prop}:@qA Tryz.prog 117 0 ⟨K⟩=K 0 ti4:=qq (ti:=jw) (tf:=ti4) (fo:=(0,4)) (fs:=[(0,4),(1,36),(2,3)]) yO rfl rfl tf4
theorem aQX{K:Nat→Nat→Prop}:qs Tryz.prog [(0,4),(1,36),(2,3)] 0 K=K 0 1:=qp (tf:=ti4) (fo:=(0,4)) (fs:=[(0,4),(1,36),(2,3)]) rfl tf4
theorem aIW{K:Nat→TI→Prop}:@qA Tryz.prog 117 1 ⟨K⟩=K 1 Ji:=qq (ti:=jw) (tf:=Ji) (fo:=(1,36)) (fs:=[(0,4),(1,36),(2,3)]) yO rfl rfl aa9
theorem aQW{K:Nat→Nat→Prop}:qs Tryz.prog [(0,4),(1,36),(2,3)] 1 K=K 1 1:=qp (tf:=Ji) (fo:=(1,36)) (fs:=[(0,4),(1,36),(2,3)]) rfl aa9
theorem aIV{K:Nat→TI→Prop}:@qA Tryz.prog 117 2 ⟨K⟩=K 2 ti3:=qq (ti:=jw) (tf:=ti3) (fo:=(2,3)) (fs:=[(0,4),(1,36),(2,3)]) yO rfl rfl tf3
theorem aQV{K:Nat→Nat→Prop}:qs Tryz.prog [(0,4),(1,36),(2,3)] 2 K=K 2 1:=qp (tf:=ti3) (fo:=(2,3)) (fs:=[(0,4),(1,36),(2,3)]) rfl tf3
theorem aSx:∀f∈([(0,4),(1,36),(2,3)]:List (Nat×Nat)),(ql Tryz.prog f.2).isSome=true:=by
 intro f hf
 simp only[List.mem_cons,List.not_mem_nil,or_false]at hf
 rcases hf with rfl|rfl|rfl
 ·rw[tf4];rfl
 ·rw[aa9];rfl
 ·rw[tf3];rfl
theorem bci{ps:List (Nat×AV)}{K:AV→Prop}:@zf Tryz.prog 117 ps ⟨K⟩=@zk (qs Tryz.prog [(0,4),(1,36),(2,3)]) (zc jw) ps ⟨fun cs=>K (.ag cs)⟩:=qL yO rfl aSx
theorem bfJ{K:TI→Prop}:@tyW Tryz.prog 118 ⟨K⟩=K aaU:=qk biF
theorem aF5:aaU.kd=Kd.oth:=ID rfl
theorem asu:aaU.kd.agg=false:=ID rfl
theorem aml:aaU.size=1:=ID rfl
theorem afw:aaU.bytes=8:=ID rfl
theorem aF3:qv aaU=True:=eq_true rfl
theorem aF4:zc aaU=[.v Value.nilFunc]:=ID rfl
theorem bfI{K:TI→Prop}:@tyW Tryz.prog 119 ⟨K⟩=K aaT:=qk biE
theorem aF2:aaT.kd=Kd.oth:=ID rfl
theorem ast:aaT.kd.agg=false:=ID rfl
theorem amk:aaT.size=1:=ID rfl
theorem afv:aaT.bytes=8:=ID rfl
theorem aF0:qv aaT=True:=eq_true rfl
theorem aF1:zc aaT=[.v Value.nilFunc]:=ID rfl
theorem bfH{K:TI→Prop}:@tyW Tryz.prog 120 ⟨K⟩=K aaS:=qk biD
theorem aFY:aaS.kd=Kd.oth:=ID rfl
theorem asr:aaS.kd.agg=false:=ID rfl
theorem ami:aaS.size=1:=ID rfl
theorem afu:aaS.bytes=8:=ID rfl
theorem aFW:qv aaS=True:=eq_true rfl
theorem aFX:zc aaS=[.v Value.nilFunc]:=ID rfl
theorem bfG{K:TI→Prop}:@tyW Tryz.prog 121 ⟨K⟩=K aaR:=qk biC
theorem aFV:aaR.kd=Kd.oth:=ID rfl
theorem asq:aaR.kd.agg=false:=ID rfl
theorem amh:aaR.size=1:=ID rfl
theorem aft:aaR.bytes=8:=ID rfl
theorem aFT:qv aaR=True:=eq_true rfl
theorem aFU:zc aaR=[.v Value.nilFunc]:=ID rfl
theorem bfF{K:TI→Prop}:@tyW Tryz.prog 122 ⟨K⟩=K aaQ:=qk biB
theorem aFS:aaQ.kd=Kd.oth:=ID rfl
theorem asp:aaQ.kd.agg=false:=ID rfl
theorem amg:aaQ.size=1:=ID rfl
theorem afs:aaQ.bytes=8:=ID rfl
theorem aFQ:qv aaQ=True:=eq_true rfl
theorem aFR:zc aaQ=[.v Value.nilFunc]:=ID rfl
theorem bfE{K:TI→Prop}:@tyW Tryz.prog 123 ⟨K⟩=K aaP:=qk biA
theorem aFP:aaP.kd=Kd.oth:=ID rfl
theorem aso:aaP.kd.agg=false:=ID rfl
theorem amf:aaP.size=1:=ID rfl
theorem afr:aaP.bytes=8:=ID rfl
theorem aFN:qv aaP=True:=eq_true rfl
theorem aFO:zc aaP=[.v Value.nilFunc]:=ID rfl
theorem bfD{K:TI→Prop}:@tyW Tryz.prog 124 ⟨K⟩=K Jj:=qk aG0
theorem aFM:Jj.kd=Kd.stru [(0,117),(3,117)]:=ID rfl
theorem asn:Jj.kd.agg=true:=ID rfl
theorem ame:Jj.size=6:=ID rfl
theorem afq:Jj.bytes=80:=ID rfl
theorem aFK:qv Jj=True:=eq_true rfl
theorem aFL:zc Jj=[.v (Value.bool false),.v (Value.slice none 0 0),.v (Value.int IntKind.i64 0),.v (Value.bool false),.v (Value.slice none 0 0),.v (Value.int IntKind.i64 0)]:=ID rfl
theorem aIU{K:Nat→TI→Prop}:@qA Tryz.prog 124 0 ⟨K⟩=K 0 jw:=qq (ti:=Jj) (tf:=jw) (fo:=(0,117)) (fs:=[(0,117),(3,117)]) aG0 rfl rfl yO
theorem aQU{K:Nat→Nat→Prop}:qs Tryz.prog [(0,117),(3,117)] 0 K=K 0 3:=qp (tf:=jw) (fo:=(0,117)) (fs:=[(0,117),(3,117)]) rfl yO
theorem aIT{K:Nat→TI→Prop}:@qA Tryz.prog 124 1 ⟨K⟩=K 3 jw:=qq (ti:=Jj) (tf:=jw) (fo:=(3,117)) (fs:=[(0,117),(3,117)]) aG0 rfl rfl yO
theorem aQT{K:Nat→Nat→Prop}:qs Tryz.prog [(0,117),(3,117)] 1 K=K 3 3:=qp (tf:=jw) (fo:=(3,117)) (fs:=[(0,117),(3,117)]) rfl yO
theorem aSw:∀f∈([(0,117),(3,117)]:List (Nat×Nat)),(ql Tryz.prog f.2).isSome=true:=by
 intro f hf
 simp only[List.mem_cons,List.not_mem_nil,or_false]at hf
 rcases hf with rfl|rfl
 ·rw[yO];rfl
 ·rw[yO];rfl
theorem bch{ps:List (Nat×AV)}{K:AV→Prop}:@zf Tryz.prog 124 ps ⟨K⟩=@zk (qs Tryz.prog [(0,117),(3,117)]) (zc Jj) ps ⟨fun cs=>K (.ag cs)⟩:=qL aG0 rfl aSw
theorem bfC{K:TI→Prop}:@tyW Tryz.prog 125 ⟨K⟩=K Z0:=qk asR
theorem aFJ:Z0.kd=Kd.stru [(0,117),(3,117)]:=ID rfl
theorem asm:Z0.kd.agg=true:=ID rfl
theorem amd:Z0.size=6:=ID rfl
theorem afp:Z0.bytes=80:=ID rfl
theorem aFH:qv Z0=True:=eq_true rfl
theorem aFI:zc Z0=[.v (Value.bool false),.v (Value.slice none 0 0),.v (Value.int IntKind.i64 0),.v (Value.bool false),.v (Value.slice none 0 0),.v (Value.int IntKind.i64 0)]:=ID rfl
theorem aIS{K:Nat→TI→Prop}:@qA Tryz.prog 125 0 ⟨K⟩=K 0 jw:=qq (ti:=Z0) (tf:=jw) (fo:=(0,117)) (fs:=[(0,117),(3,117)]) asR rfl rfl yO
theorem aQS{K:Nat→Nat→Prop}:qs Tryz.prog [(0,117),(3,117)] 0 K=K 0 3:=qp (tf:=jw) (fo:=(0,117)) (fs:=[(0,117),(3,117)]) rfl yO
theorem aIR{K:Nat→TI→Prop}:@qA Tryz.prog 125 1 ⟨K⟩=K 3 jw:=qq (ti:=Z0) (tf:=jw) (fo:=(3,117)) (fs:=[(0,117),(3,117)]) asR rfl rfl yO
theorem aQR{K:Nat→Nat→Prop}:qs Tryz.prog [(0,117),(3,117)] 1 K=K 3 3:=qp (tf:=jw) (fo:=(3,117)) (fs:=[(0,117),(3,117)]) rfl yO
theorem aSv:∀f∈([(0,117),(3,117)]:List (Nat×Nat)),(ql Tryz.prog f.2).isSome=true:=by
 intro f hf
 simp only[List.mem_cons,List.not_mem_nil,or_false]at hf
 rcases hf with rfl|rfl
 ·rw[yO];rfl
 ·rw[yO];rfl
theorem bcg{ps:List (Nat×AV)}{K:AV→Prop}:@zf Tryz.prog 125 ps ⟨K⟩=@zk (qs Tryz.prog [(0,117),(3,117)]) (zc Z0) ps ⟨fun cs=>K (.ag cs)⟩:=qL asR rfl aSv
theorem bfB{K:TI→Prop}:@tyW Tryz.prog 127 ⟨K⟩=K aaO:=qk biz
theorem aFG:aaO.kd=Kd.oth:=ID rfl
theorem asl:aaO.kd.agg=false:=ID rfl
theorem amc:aaO.size=1:=ID rfl
theorem afo:aaO.bytes=8:=ID rfl
theorem aFE:qv aaO=True:=eq_true rfl
theorem aFF:zc aaO=[.v Value.nilFunc]:=ID rfl
theorem bfA{K:TI→Prop}:@tyW Tryz.prog 128 ⟨K⟩=K aaN:=qk biy
theorem aFD:aaN.kd=Kd.oth:=ID rfl
theorem ask:aaN.kd.agg=false:=ID rfl
theorem amb:aaN.size=1:=ID rfl
theorem afn:aaN.bytes=8:=ID rfl
theorem aFB:qv aaN=True:=eq_true rfl
theorem aFC:zc aaN=[.v Value.nilFunc]:=ID rfl
theorem bfz{K:TI→Prop}:@tyW Tryz.prog 129 ⟨K⟩=K aaM:=qk bix
theorem aFA:aaM.kd=Kd.oth:=ID rfl
theorem asj:aaM.kd.agg=false:=ID rfl
theorem ama:aaM.size=1:=ID rfl
theorem afm:aaM.bytes=8:=ID rfl
theorem aFy:qv aaM=True:=eq_true rfl
theorem aFz:zc aaM=[.v Value.nilFunc]:=ID rfl
theorem bfy{K:TI→Prop}:@tyW Tryz.prog 130 ⟨K⟩=K aaL:=qk biw
theorem aFw:aaL.kd=Kd.oth:=ID rfl
theorem ash:aaL.kd.agg=false:=ID rfl
theorem al8:aaL.size=1:=ID rfl
theorem afl:aaL.bytes=8:=ID rfl
theorem aFu:qv aaL=True:=eq_true rfl
theorem aFv:zc aaL=[.v Value.nilFunc]:=ID rfl
theorem bfx{K:TI→Prop}:@tyW Tryz.prog 131 ⟨K⟩=K aaK:=qk biv
theorem aFt:aaK.kd=Kd.oth:=ID rfl
theorem asg:aaK.kd.agg=false:=ID rfl
theorem al7:aaK.size=1:=ID rfl
theorem afk:aaK.bytes=8:=ID rfl
theorem aFr:qv aaK=True:=eq_true rfl
theorem aFs:zc aaK=[.v Value.nilFunc]:=ID rfl
theorem bfw{K:TI→Prop}:@tyW Tryz.prog 132 ⟨K⟩=K aaJ:=qk biu
theorem aFq:aaJ.kd=Kd.oth:=ID rfl
theorem asf:aaJ.kd.agg=false:=ID rfl
theorem al6:aaJ.size=1:=ID rfl
theorem afj:aaJ.bytes=8:=ID rfl
theorem aFo:qv aaJ=True:=eq_true rfl
theorem aFp:zc aaJ=[.v Value.nilFunc]:=ID rfl
theorem bfv{K:TI→Prop}:@tyW Tryz.prog 133 ⟨K⟩=K aaI:=qk bit
theorem aFn:aaI.kd=Kd.oth:=ID rfl
theorem ase:aaI.kd.agg=false:=ID rfl
theorem al5:aaI.size=1:=ID rfl
theorem afi:aaI.bytes=8:=ID rfl
theorem aFl:qv aaI=True:=eq_true rfl
theorem aFm:zc aaI=[.v Value.nilFunc]:=ID rfl
theorem bfu{K:TI→Prop}:@tyW Tryz.prog 134 ⟨K⟩=K aaH:=qk bis
theorem aFk:aaH.kd=Kd.oth:=ID rfl
theorem asd:aaH.kd.agg=false:=ID rfl
theorem al4:aaH.size=1:=ID rfl
theorem afh:aaH.bytes=8:=ID rfl
theorem aFi:qv aaH=True:=eq_true rfl
theorem aFj:zc aaH=[.v Value.nilFunc]:=ID rfl
theorem bft{K:TI→Prop}:@tyW Tryz.prog 135 ⟨K⟩=K aaG:=qk bir
theorem aFh:aaG.kd=Kd.oth:=ID rfl
theorem asc:aaG.kd.agg=false:=ID rfl
theorem al3:aaG.size=1:=ID rfl
theorem afg:aaG.bytes=8:=ID rfl
theorem aFf:qv aaG=True:=eq_true rfl
theorem aFg:zc aaG=[.v Value.nilFunc]:=ID rfl
theorem bfs{K:TI→Prop}:@tyW Tryz.prog 136 ⟨K⟩=K aaF:=qk biq
theorem aFe:aaF.kd=Kd.oth:=ID rfl
theorem asb:aaF.kd.agg=false:=ID rfl
theorem al2:aaF.size=1:=ID rfl
theorem aff:aaF.bytes=8:=ID rfl
theorem aFc:qv aaF=True:=eq_true rfl
theorem aFd:zc aaF=[.v Value.nilFunc]:=ID rfl
theorem bfr{K:TI→Prop}:@tyW Tryz.prog 137 ⟨K⟩=K aaE:=qk bip
theorem aFb:aaE.kd=Kd.oth:=ID rfl
theorem asa:aaE.kd.agg=false:=ID rfl
theorem al1:aaE.size=1:=ID rfl
theorem afe:aaE.bytes=8:=ID rfl
theorem aE9:qv aaE=True:=eq_true rfl
theorem aFa:zc aaE=[.v Value.nilFunc]:=ID rfl
theorem bfq{K:TI→Prop}:@tyW Tryz.prog 138 ⟨K⟩=K aaD:=qk bio
theorem aE8:aaD.kd=Kd.oth:=ID rfl
theorem ar9:aaD.kd.agg=false:=ID rfl
theorem al0:aaD.size=1:=ID rfl
theorem afd:aaD.bytes=8:=ID rfl
theorem aE6:qv aaD=True:=eq_true rfl
theorem aE7:zc aaD=[.v Value.nilFunc]:=ID rfl
theorem bfp{K:TI→Prop}:@tyW Tryz.prog 139 ⟨K⟩=K aaC:=qk bin
theorem aE5:aaC.kd=Kd.oth:=ID rfl
theorem ar8:aaC.kd.agg=false:=ID rfl
theorem alZ:aaC.size=1:=ID rfl
theorem afc:aaC.bytes=8:=ID rfl
theorem aE3:qv aaC=True:=eq_true rfl
theorem aE4:zc aaC=[.v Value.nilFunc]:=ID rfl
theorem bfo{K:TI→Prop}:@tyW Tryz.prog 141 ⟨K⟩=K aaB:=qk bim
theorem aE2:aaB.kd=Kd.oth:=ID rfl
theorem ar7:aaB.kd.agg=false:=ID rfl
theorem alY:aaB.size=1:=ID rfl
theorem afb:aaB.bytes=8:=ID rfl
theorem aE0:qv aaB=True:=eq_true rfl
theorem aE1:zc aaB=[.v Value.nilFunc]:=ID rfl
theorem bfn{K:TI→Prop}:@tyW Tryz.prog 142 ⟨K⟩=K aaA:=qk bil
theorem aEZ:aaA.kd=Kd.oth:=ID rfl
theorem ar6:aaA.kd.agg=false:=ID rfl
theorem alX:aaA.size=1:=ID rfl
theorem afa:aaA.bytes=8:=ID rfl
theorem aEX:qv aaA=True:=eq_true rfl
theorem aEY:zc aaA=[.v Value.nilFunc]:=ID rfl
theorem bfm{K:TI→Prop}:@tyW Tryz.prog 143 ⟨K⟩=K aaz:=qk bik
theorem aEW:aaz.kd=Kd.oth:=ID rfl
theorem ar5:aaz.kd.agg=false:=ID rfl
theorem alW:aaz.size=1:=ID rfl
theorem ae9:aaz.bytes=8:=ID rfl
theorem aEU:qv aaz=True:=eq_true rfl
theorem aEV:zc aaz=[.v Value.nilFunc]:=ID rfl
theorem bfl{K:TI→Prop}:@tyW Tryz.prog 144 ⟨K⟩=K aay:=qk bij
theorem aET:aay.kd=Kd.oth:=ID rfl
theorem ar4:aay.kd.agg=false:=ID rfl
theorem alV:aay.size=1:=ID rfl
theorem ae8:aay.bytes=8:=ID rfl
theorem aER:qv aay=True:=eq_true rfl
theorem aES:zc aay=[.v Value.nilFunc]:=ID rfl
theorem bfk{K:TI→Prop}:@tyW Tryz.prog 145 ⟨K⟩=K aax:=qk bii
theorem aEQ:aax.kd=Kd.oth:=ID rfl
theorem ar3:aax.kd.agg=false:=ID rfl
theorem alU:aax.size=1:=ID rfl
theorem ae7:aax.bytes=8:=ID rfl
theorem aEO:qv aax=True:=eq_true rfl
theorem aEP:zc aax=[.v Value.nilFunc]:=ID rfl
theorem bfj{K:TI→Prop}:@tyW Tryz.prog 146 ⟨K⟩=K aaw:=qk bih
theorem aEN:aaw.kd=Kd.oth:=ID rfl
theorem ar2:aaw.kd.agg=false:=ID rfl
theorem alT:aaw.size=1:=ID rfl
theorem ae6:aaw.bytes=8:=ID rfl
theorem aEL:qv aaw=True:=eq_true rfl
theorem aEM:zc aaw=[.v Value.nilFunc]:=ID rfl
theorem bfi{K:TI→Prop}:@tyW Tryz.prog 147 ⟨K⟩=K aav:=qk big
theorem aEK:aav.kd=Kd.oth:=ID rfl
theorem ar1:aav.kd.agg=false:=ID rfl
theorem alS:aav.size=1:=ID rfl
theorem ae5:aav.bytes=8:=ID rfl
theorem aEI:qv aav=True:=eq_true rfl
theorem aEJ:zc aav=[.v Value.nilFunc]:=ID rfl
theorem bfh{K:TI→Prop}:@tyW Tryz.prog 148 ⟨K⟩=K aau:=qk bie
theorem aEH:aau.kd=Kd.oth:=ID rfl
theorem ar0:aau.kd.agg=false:=ID rfl
theorem alR:aau.size=1:=ID rfl
theorem ae4:aau.bytes=8:=ID rfl
theorem aEF:qv aau=True:=eq_true rfl
theorem aEG:zc aau=[.v Value.nilFunc]:=ID rfl
theorem bfg{K:TI→Prop}:@tyW Tryz.prog 149 ⟨K⟩=K aat:=qk bid
theorem aEE:aat.kd=Kd.oth:=ID rfl
theorem arZ:aat.kd.agg=false:=ID rfl
theorem alQ:aat.size=1:=ID rfl
theorem ae3:aat.bytes=8:=ID rfl
theorem aEC:qv aat=True:=eq_true rfl
theorem aED:zc aat=[.v Value.nilFunc]:=ID rfl
theorem bff{K:TI→Prop}:@tyW Tryz.prog 150 ⟨K⟩=K aas:=qk bic
theorem aEB:aas.kd=Kd.oth:=ID rfl
theorem arY:aas.kd.agg=false:=ID rfl
theorem alP:aas.size=1:=ID rfl
theorem ae2:aas.bytes=8:=ID rfl
theorem aEz:qv aas=True:=eq_true rfl
theorem aEA:zc aas=[.v Value.nilFunc]:=ID rfl
theorem bfe{K:TI→Prop}:@tyW Tryz.prog 151 ⟨K⟩=K aar:=qk bib
theorem aEy:aar.kd=Kd.oth:=ID rfl
theorem arX:aar.kd.agg=false:=ID rfl
theorem alO:aar.size=1:=ID rfl
theorem ae1:aar.bytes=8:=ID rfl
theorem aEw:qv aar=True:=eq_true rfl
theorem aEx:zc aar=[.v Value.nilFunc]:=ID rfl
theorem bfd{K:TI→Prop}:@tyW Tryz.prog 152 ⟨K⟩=K aaq:=qk bia
theorem aEv:aaq.kd=Kd.oth:=ID rfl
theorem arW:aaq.kd.agg=false:=ID rfl
theorem alN:aaq.size=1:=ID rfl
theorem ae0:aaq.bytes=8:=ID rfl
theorem aEt:qv aaq=True:=eq_true rfl
theorem aEu:zc aaq=[.v Value.nilFunc]:=ID rfl
theorem bfc{K:TI→Prop}:@tyW Tryz.prog 153 ⟨K⟩=K aap:=qk bh9
theorem aEs:aap.kd=Kd.oth:=ID rfl
theorem arV:aap.kd.agg=false:=ID rfl
theorem alM:aap.size=1:=ID rfl
theorem aeZ:aap.bytes=8:=ID rfl
theorem aEq:qv aap=True:=eq_true rfl
theorem aEr:zc aap=[.v Value.nilFunc]:=ID rfl
theorem bfb{K:TI→Prop}:@tyW Tryz.prog 154 ⟨K⟩=K aao:=qk bh8
theorem aEp:aao.kd=Kd.oth:=ID rfl
theorem arU:aao.kd.agg=false:=ID rfl
theorem alL:aao.size=1:=ID rfl
theorem aeY:aao.bytes=8:=ID rfl
theorem aEn:qv aao=True:=eq_true rfl
theorem aEo:zc aao=[.v Value.nilFunc]:=ID rfl
theorem bfa{K:TI→Prop}:@tyW Tryz.prog 155 ⟨K⟩=K aan:=qk bh7
theorem aEm:aan.kd=Kd.oth:=ID rfl
theorem arT:aan.kd.agg=false:=ID rfl
theorem alK:aan.size=1:=ID rfl
theorem aeX:aan.bytes=8:=ID rfl
theorem aEk:qv aan=True:=eq_true rfl
theorem aEl:zc aan=[.v Value.nilFunc]:=ID rfl
theorem be9{K:TI→Prop}:@tyW Tryz.prog 156 ⟨K⟩=K aam:=qk bh6
theorem aEj:aam.kd=Kd.oth:=ID rfl
theorem arS:aam.kd.agg=false:=ID rfl
theorem alJ:aam.size=1:=ID rfl
theorem aeW:aam.bytes=8:=ID rfl
theorem aEh:qv aam=True:=eq_true rfl
theorem aEi:zc aam=[.v Value.nilFunc]:=ID rfl
theorem be8{K:TI→Prop}:@tyW Tryz.prog 157 ⟨K⟩=K aal:=qk bh5
theorem aEg:aal.kd=Kd.oth:=ID rfl
theorem arR:aal.kd.agg=false:=ID rfl
theorem alI:aal.size=1:=ID rfl
theorem aeV:aal.bytes=8:=ID rfl
theorem aEe:qv aal=True:=eq_true rfl
theorem aEf:zc aal=[.v Value.nilFunc]:=ID rfl
theorem be7{K:TI→Prop}:@tyW Tryz.prog 158 ⟨K⟩=K aak:=qk bh4
theorem aEd:aak.kd=Kd.oth:=ID rfl
theorem arQ:aak.kd.agg=false:=ID rfl
theorem alH:aak.size=1:=ID rfl
theorem aeU:aak.bytes=8:=ID rfl
theorem aEb:qv aak=True:=eq_true rfl
theorem aEc:zc aak=[.v Value.nilFunc]:=ID rfl
theorem be6{K:TI→Prop}:@tyW Tryz.prog 159 ⟨K⟩=K aaj:=qk bh3
theorem aEa:aaj.kd=Kd.oth:=ID rfl
theorem arP:aaj.kd.agg=false:=ID rfl
theorem alG:aaj.size=1:=ID rfl
theorem aeT:aaj.bytes=8:=ID rfl
theorem aD8:qv aaj=True:=eq_true rfl
theorem aD9:zc aaj=[.v Value.nilFunc]:=ID rfl
theorem be5{K:TI→Prop}:@tyW Tryz.prog 160 ⟨K⟩=K aai:=qk bh2
theorem aD7:aai.kd=Kd.oth:=ID rfl
theorem arO:aai.kd.agg=false:=ID rfl
theorem alD:aai.size=1:=ID rfl
theorem aeS:aai.bytes=8:=ID rfl
theorem aD5:qv aai=True:=eq_true rfl
theorem aD6:zc aai=[.v Value.nilFunc]:=ID rfl
theorem be4{K:TI→Prop}:@tyW Tryz.prog 161 ⟨K⟩=K aah:=qk bh1
theorem aD4:aah.kd=Kd.oth:=ID rfl
theorem arN:aah.kd.agg=false:=ID rfl
theorem alC:aah.size=1:=ID rfl
theorem aeR:aah.bytes=8:=ID rfl
theorem aD2:qv aah=True:=eq_true rfl
theorem aD3:zc aah=[.v Value.nilFunc]:=ID rfl
theorem be3{K:TI→Prop}:@tyW Tryz.prog 162 ⟨K⟩=K aag:=qk bh0
theorem aD1:aag.kd=Kd.oth:=ID rfl
theorem arM:aag.kd.agg=false:=ID rfl
theorem alB:aag.size=1:=ID rfl
theorem aeQ:aag.bytes=8:=ID rfl
theorem aDZ:qv aag=True:=eq_true rfl
theorem aD0:zc aag=[.v Value.nilFunc]:=ID rfl
theorem be2{K:TI→Prop}:@tyW Tryz.prog 163 ⟨K⟩=K aaf:=qk bhZ
theorem aDY:aaf.kd=Kd.oth:=ID rfl
theorem arL:aaf.kd.agg=false:=ID rfl
theorem alz:aaf.size=1:=ID rfl
theorem aeP:aaf.bytes=8:=ID rfl
theorem aDW:qv aaf=True:=eq_true rfl
theorem aDX:zc aaf=[.v Value.nilFunc]:=ID rfl
theorem be1{K:TI→Prop}:@tyW Tryz.prog 164 ⟨K⟩=K aae:=qk bhY
theorem aDV:aae.kd=Kd.oth:=ID rfl
theorem arK:aae.kd.agg=false:=ID rfl
theorem aly:aae.size=1:=ID rfl
theorem aeO:aae.bytes=8:=ID rfl
theorem aDT:qv aae=True:=eq_true rfl
theorem aDU:zc aae=[.v Value.nilFunc]:=ID rfl
theorem be0{K:TI→Prop}:@tyW Tryz.prog 165 ⟨K⟩=K aad:=qk bhX
theorem aDS:aad.kd=Kd.oth:=ID rfl
theorem arJ:aad.kd.agg=false:=ID rfl
theorem alx:aad.size=1:=ID rfl
theorem aeN:aad.bytes=8:=ID rfl
theorem aDQ:qv aad=True:=eq_true rfl
theorem aDR:zc aad=[.v Value.nilFunc]:=ID rfl
theorem beZ{K:TI→Prop}:@tyW Tryz.prog 166 ⟨K⟩=K aac:=qk bhW
theorem aDP:aac.kd=Kd.oth:=ID rfl
theorem arI:aac.kd.agg=false:=ID rfl
theorem alw:aac.size=1:=ID rfl
theorem aeM:aac.bytes=8:=ID rfl
theorem aDN:qv aac=True:=eq_true rfl
theorem aDO:zc aac=[.v Value.nilFunc]:=ID rfl
theorem beY{K:TI→Prop}:@tyW Tryz.prog 167 ⟨K⟩=K aab:=qk bhV
theorem aDM:aab.kd=Kd.oth:=ID rfl
theorem arH:aab.kd.agg=false:=ID rfl
theorem alv:aab.size=1:=ID rfl
theorem aeL:aab.bytes=8:=ID rfl
theorem aDK:qv aab=True:=eq_true rfl
theorem aDL:zc aab=[.v Value.nilFunc]:=ID rfl
theorem beX{K:TI→Prop}:@tyW Tryz.prog 168 ⟨K⟩=K aaa:=qk bhU
theorem aDJ:aaa.kd=Kd.oth:=ID rfl
theorem arG:aaa.kd.agg=false:=ID rfl
theorem alu:aaa.size=1:=ID rfl
theorem aeK:aaa.bytes=8:=ID rfl
theorem aDH:qv aaa=True:=eq_true rfl
theorem aDI:zc aaa=[.v Value.nilFunc]:=ID rfl
theorem beW{K:TI→Prop}:@tyW Tryz.prog 169 ⟨K⟩=K K9:=qk bhT
theorem aDG:K9.kd=Kd.oth:=ID rfl
theorem arF:K9.kd.agg=false:=ID rfl
theorem alt:K9.size=1:=ID rfl
theorem aeJ:K9.bytes=8:=ID rfl
theorem aDE:qv K9=True:=eq_true rfl
theorem aDF:zc K9=[.v Value.nilFunc]:=ID rfl
theorem beV{K:TI→Prop}:@tyW Tryz.prog 170 ⟨K⟩=K K8:=qk bhS
theorem aDD:K8.kd=Kd.oth:=ID rfl
theorem arE:K8.kd.agg=false:=ID rfl
theorem als:K8.size=1:=ID rfl
theorem aeI:K8.bytes=8:=ID rfl
theorem aDB:qv K8=True:=eq_true rfl
theorem aDC:zc K8=[.v Value.nilFunc]:=ID rfl
theorem beU{K:TI→Prop}:@tyW Tryz.prog 171 ⟨K⟩=K K7:=qk bhR
theorem aDA:K7.kd=Kd.oth:=ID rfl
theorem arD:K7.kd.agg=false:=ID rfl
theorem alr:K7.size=1:=ID rfl
theorem aeH:K7.bytes=8:=ID rfl
theorem aDy:qv K7=True:=eq_true rfl
theorem aDz:zc K7=[.v Value.nilFunc]:=ID rfl
theorem beT{K:TI→Prop}:@tyW Tryz.prog 172 ⟨K⟩=K K6:=qk bhQ
theorem aDx:K6.kd=Kd.oth:=ID rfl
theorem arC:K6.kd.agg=false:=ID rfl
theorem alq:K6.size=1:=ID rfl
theorem aeG:K6.bytes=8:=ID rfl
theorem aDv:qv K6=True:=eq_true rfl
theorem aDw:zc K6=[.v Value.nilFunc]:=ID rfl
theorem beS{K:TI→Prop}:@tyW Tryz.prog 173 ⟨K⟩=K K5:=qk bhP
theorem aDu:K5.kd=Kd.oth:=ID rfl
theorem arB:K5.kd.agg=false:=ID rfl
theorem alp:K5.size=1:=ID rfl
theorem aeF:K5.bytes=8:=ID rfl
theorem aDs:qv K5=True:=eq_true rfl
theorem aDt:zc K5=[.v Value.nilFunc]:=ID rfl
theorem beR{K:TI→Prop}:@tyW Tryz.prog 174 ⟨K⟩=K K4:=qk bhO
theorem aDr:K4.kd=Kd.oth:=ID rfl
theorem arA:K4.kd.agg=false:=ID rfl
theorem alo:K4.size=1:=ID rfl
theorem aeE:K4.bytes=8:=ID rfl
theorem aDp:qv K4=True:=eq_true rfl
theorem aDq:zc K4=[.v Value.nilFunc]:=ID rfl
theorem beQ{K:TI→Prop}:@tyW Tryz.prog 175 ⟨K⟩=K K3:=qk bhN
theorem aDo:K3.kd=Kd.oth:=ID rfl
theorem arz:K3.kd.agg=false:=ID rfl
theorem aln:K3.size=1:=ID rfl
theorem aeD:K3.bytes=8:=ID rfl
theorem aDm:qv K3=True:=eq_true rfl
theorem aDn:zc K3=[.v Value.nilFunc]:=ID rfl
theorem beP{K:TI→Prop}:@tyW Tryz.prog 176 ⟨K⟩=K ZZ:=qk asQ
theorem aDl:ZZ.kd=Kd.stru [(0,22),(1,3),(2,3)]:=ID rfl
theorem ary:ZZ.kd.agg=true:=ID rfl
theorem alm:ZZ.size=3:=ID rfl
theorem aeC:ZZ.bytes=40:=ID rfl
theorem aDj:qv ZZ=True:=eq_true rfl
theorem aDk:zc ZZ=[.v (Value.slice none 0 0),.v (Value.int IntKind.i64 0),.v (Value.int IntKind.i64 0)]:=ID rfl
theorem aIQ{K:Nat→TI→Prop}:@qA Tryz.prog 176 0 ⟨K⟩=K 0 aho:=qq (ti:=ZZ) (tf:=aho) (fo:=(0,22)) (fs:=[(0,22),(1,3),(2,3)]) asQ rfl rfl aLf
theorem aQQ{K:Nat→Nat→Prop}:qs Tryz.prog [(0,22),(1,3),(2,3)] 0 K=K 0 1:=qp (tf:=aho) (fo:=(0,22)) (fs:=[(0,22),(1,3),(2,3)]) rfl aLf
theorem aIP{K:Nat→TI→Prop}:@qA Tryz.prog 176 1 ⟨K⟩=K 1 ti3:=qq (ti:=ZZ) (tf:=ti3) (fo:=(1,3)) (fs:=[(0,22),(1,3),(2,3)]) asQ rfl rfl tf3
theorem aQP{K:Nat→Nat→Prop}:qs Tryz.prog [(0,22),(1,3),(2,3)] 1 K=K 1 1:=qp (tf:=ti3) (fo:=(1,3)) (fs:=[(0,22),(1,3),(2,3)]) rfl tf3
theorem aIO{K:Nat→TI→Prop}:@qA Tryz.prog 176 2 ⟨K⟩=K 2 ti3:=qq (ti:=ZZ) (tf:=ti3) (fo:=(2,3)) (fs:=[(0,22),(1,3),(2,3)]) asQ rfl rfl tf3
theorem aQO{K:Nat→Nat→Prop}:qs Tryz.prog [(0,22),(1,3),(2,3)] 2 K=K 2 1:=qp (tf:=ti3) (fo:=(2,3)) (fs:=[(0,22),(1,3),(2,3)]) rfl tf3
theorem aSu:∀f∈([(0,22),(1,3),(2,3)]:List (Nat×Nat)),(ql Tryz.prog f.2).isSome=true:=by
 intro f hf
 simp only[List.mem_cons,List.not_mem_nil,or_false]at hf
 rcases hf with rfl|rfl|rfl
 ·rw[aLf];rfl
 ·rw[tf3];rfl
 ·rw[tf3];rfl
theorem bcf{ps:List (Nat×AV)}{K:AV→Prop}:@zf Tryz.prog 176 ps ⟨K⟩=@zk (qs Tryz.prog [(0,22),(1,3),(2,3)]) (zc ZZ) ps ⟨fun cs=>K (.ag cs)⟩:=qL asQ rfl aSu
theorem beO{K:TI→Prop}:@tyW Tryz.prog 177 ⟨K⟩=K ZY:=qk asP
theorem aDi:ZY.kd=Kd.stru [(0,22),(1,3),(2,3)]:=ID rfl
theorem arx:ZY.kd.agg=true:=ID rfl
theorem alk:ZY.size=3:=ID rfl
theorem aeB:ZY.bytes=40:=ID rfl
theorem aDg:qv ZY=True:=eq_true rfl
theorem aDh:zc ZY=[.v (Value.slice none 0 0),.v (Value.int IntKind.i64 0),.v (Value.int IntKind.i64 0)]:=ID rfl
theorem aIN{K:Nat→TI→Prop}:@qA Tryz.prog 177 0 ⟨K⟩=K 0 aho:=qq (ti:=ZY) (tf:=aho) (fo:=(0,22)) (fs:=[(0,22),(1,3),(2,3)]) asP rfl rfl aLf
theorem aQN{K:Nat→Nat→Prop}:qs Tryz.prog [(0,22),(1,3),(2,3)] 0 K=K 0 1:=qp (tf:=aho) (fo:=(0,22)) (fs:=[(0,22),(1,3),(2,3)]) rfl aLf
theorem aIM{K:Nat→TI→Prop}:@qA Tryz.prog 177 1 ⟨K⟩=K 1 ti3:=qq (ti:=ZY) (tf:=ti3) (fo:=(1,3)) (fs:=[(0,22),(1,3),(2,3)]) asP rfl rfl tf3
theorem aQM{K:Nat→Nat→Prop}:qs Tryz.prog [(0,22),(1,3),(2,3)] 1 K=K 1 1:=qp (tf:=ti3) (fo:=(1,3)) (fs:=[(0,22),(1,3),(2,3)]) rfl tf3
theorem aIL{K:Nat→TI→Prop}:@qA Tryz.prog 177 2 ⟨K⟩=K 2 ti3:=qq (ti:=ZY) (tf:=ti3) (fo:=(2,3)) (fs:=[(0,22),(1,3),(2,3)]) asP rfl rfl tf3
theorem aQL{K:Nat→Nat→Prop}:qs Tryz.prog [(0,22),(1,3),(2,3)] 2 K=K 2 1:=qp (tf:=ti3) (fo:=(2,3)) (fs:=[(0,22),(1,3),(2,3)]) rfl tf3
theorem aSt:∀f∈([(0,22),(1,3),(2,3)]:List (Nat×Nat)),(ql Tryz.prog f.2).isSome=true:=by
 intro f hf
 simp only[List.mem_cons,List.not_mem_nil,or_false]at hf
 rcases hf with rfl|rfl|rfl
 ·rw[aLf];rfl
 ·rw[tf3];rfl
 ·rw[tf3];rfl
theorem bce{ps:List (Nat×AV)}{K:AV→Prop}:@zf Tryz.prog 177 ps ⟨K⟩=@zk (qs Tryz.prog [(0,22),(1,3),(2,3)]) (zc ZY) ps ⟨fun cs=>K (.ag cs)⟩:=qL asP rfl aSt
theorem beN{K:TI→Prop}:@tyW Tryz.prog 178 ⟨K⟩=K K2:=qk bhM
theorem aDf:K2.kd=Kd.oth:=ID rfl
theorem arw:K2.kd.agg=false:=ID rfl
theorem alj:K2.size=1:=ID rfl
theorem aeA:K2.bytes=8:=ID rfl
theorem aDd:qv K2=True:=eq_true rfl
theorem aDe:zc K2=[.v Value.nilFunc]:=ID rfl
theorem beM{K:TI→Prop}:@tyW Tryz.prog 179 ⟨K⟩=K KZ:=qk bhL
theorem aDc:KZ.kd=Kd.oth:=ID rfl
theorem arv:KZ.kd.agg=false:=ID rfl
theorem ali:KZ.size=1:=ID rfl
theorem aez:KZ.bytes=8:=ID rfl
theorem aDa:qv KZ=True:=eq_true rfl
theorem aDb:zc KZ=[.v Value.nilFunc]:=ID rfl
theorem beL{K:TI→Prop}:@tyW Tryz.prog 180 ⟨K⟩=K KY:=qk bhK
theorem aC9:KY.kd=Kd.oth:=ID rfl
theorem aru:KY.kd.agg=false:=ID rfl
theorem alh:KY.size=1:=ID rfl
theorem aey:KY.bytes=8:=ID rfl
theorem aC7:qv KY=True:=eq_true rfl
theorem aC8:zc KY=[.v Value.nilFunc]:=ID rfl
theorem beK{K:TI→Prop}:@tyW Tryz.prog 181 ⟨K⟩=K KX:=qk bhJ
theorem aC6:KX.kd=Kd.oth:=ID rfl
theorem art:KX.kd.agg=false:=ID rfl
theorem alg:KX.size=1:=ID rfl
theorem aex:KX.bytes=8:=ID rfl
theorem aC4:qv KX=True:=eq_true rfl
theorem aC5:zc KX=[.v Value.nilFunc]:=ID rfl
theorem beJ{K:TI→Prop}:@tyW Tryz.prog 182 ⟨K⟩=K KW:=qk bhI
theorem aC3:KW.kd=Kd.oth:=ID rfl
theorem ars:KW.kd.agg=false:=ID rfl
theorem alf:KW.size=1:=ID rfl
theorem aew:KW.bytes=8:=ID rfl
theorem aC1:qv KW=True:=eq_true rfl
theorem aC2:zc KW=[.v Value.nilFunc]:=ID rfl
theorem beI{K:TI→Prop}:@tyW Tryz.prog 183 ⟨K⟩=K KU:=qk bhH
theorem aC0:KU.kd=Kd.oth:=ID rfl
theorem arq:KU.kd.agg=false:=ID rfl
theorem ale:KU.size=1:=ID rfl
theorem aev:KU.bytes=8:=ID rfl
theorem aCY:qv KU=True:=eq_true rfl
theorem aCZ:zc KU=[.v Value.nilFunc]:=ID rfl
theorem beH{K:TI→Prop}:@tyW Tryz.prog 184 ⟨K⟩=K KT:=qk bhG
theorem aCX:KT.kd=Kd.oth:=ID rfl
theorem arp:KT.kd.agg=false:=ID rfl
theorem ald:KT.size=1:=ID rfl
theorem aeu:KT.bytes=8:=ID rfl
theorem aCV:qv KT=True:=eq_true rfl
theorem aCW:zc KT=[.v Value.nilFunc]:=ID rfl
theorem beG{K:TI→Prop}:@tyW Tryz.prog 185 ⟨K⟩=K KS:=qk bhF
theorem aCU:KS.kd=Kd.oth:=ID rfl
theorem aro:KS.kd.agg=false:=ID rfl
theorem alc:KS.size=1:=ID rfl
theorem aet:KS.bytes=8:=ID rfl
theorem aCS:qv KS=True:=eq_true rfl
theorem aCT:zc KS=[.v Value.nilFunc]:=ID rfl
theorem beF{K:TI→Prop}:@tyW Tryz.prog 186 ⟨K⟩=K KR:=qk bhE
theorem aCR:KR.kd=Kd.oth:=ID rfl
theorem arn:KR.kd.agg=false:=ID rfl
theorem alb:KR.size=1:=ID rfl
theorem aes:KR.bytes=8:=ID rfl
theorem aCP:qv KR=True:=eq_true rfl
theorem aCQ:zc KR=[.v Value.nilFunc]:=ID rfl
theorem beE{K:TI→Prop}:@tyW Tryz.prog 188 ⟨K⟩=K KQ:=qk bhD
theorem aCO:KQ.kd=Kd.oth:=ID rfl
theorem arm:KQ.kd.agg=false:=ID rfl
theorem ala:KQ.size=1:=ID rfl
theorem aer:KQ.bytes=8:=ID rfl
theorem aCM:qv KQ=True:=eq_true rfl
theorem aCN:zc KQ=[.v Value.nilFunc]:=ID rfl
theorem beD{K:TI→Prop}:@tyW Tryz.prog 189 ⟨K⟩=K KP:=qk bhC
theorem aCL:KP.kd=Kd.oth:=ID rfl
theorem arl:KP.kd.agg=false:=ID rfl
theorem ak9:KP.size=1:=ID rfl
theorem aeq:KP.bytes=8:=ID rfl
theorem aCJ:qv KP=True:=eq_true rfl
theorem aCK:zc KP=[.v Value.nilFunc]:=ID rfl
theorem beC{K:TI→Prop}:@tyW Tryz.prog 190 ⟨K⟩=K KO:=qk bhB
theorem aCI:KO.kd=Kd.oth:=ID rfl
theorem ark:KO.kd.agg=false:=ID rfl
theorem ak8:KO.size=1:=ID rfl
theorem aep:KO.bytes=8:=ID rfl
theorem aCG:qv KO=True:=eq_true rfl
theorem aCH:zc KO=[.v Value.nilFunc]:=ID rfl
theorem beB{K:TI→Prop}:@tyW Tryz.prog 191 ⟨K⟩=K KN:=qk bhA
theorem aCF:KN.kd=Kd.oth:=ID rfl
theorem arj:KN.kd.agg=false:=ID rfl
theorem ak7:KN.size=1:=ID rfl
theorem aeo:KN.bytes=8:=ID rfl
theorem aCD:qv KN=True:=eq_true rfl
theorem aCE:zc KN=[.v Value.nilFunc]:=ID rfl
theorem beA{K:TI→Prop}:@tyW Tryz.prog 192 ⟨K⟩=K KM:=qk bhz
theorem aCC:KM.kd=Kd.oth:=ID rfl
theorem ari:KM.kd.agg=false:=ID rfl
theorem ak6:KM.size=1:=ID rfl
theorem aen:KM.bytes=8:=ID rfl
theorem aCA:qv KM=True:=eq_true rfl
theorem aCB:zc KM=[.v Value.nilFunc]:=ID rfl
theorem bez{K:TI→Prop}:@tyW Tryz.prog 193 ⟨K⟩=K KL:=qk bhy
theorem aCz:KL.kd=Kd.oth:=ID rfl
theorem arh:KL.kd.agg=false:=ID rfl
theorem ak5:KL.size=1:=ID rfl
theorem aem:KL.bytes=8:=ID rfl
theorem aCx:qv KL=True:=eq_true rfl
theorem aCy:zc KL=[.v Value.nilFunc]:=ID rfl
theorem bey{K:TI→Prop}:@tyW Tryz.prog 194 ⟨K⟩=K KK:=qk bhx
theorem aCw:KK.kd=Kd.oth:=ID rfl
theorem arg:KK.kd.agg=false:=ID rfl
theorem ak4:KK.size=1:=ID rfl
theorem ael:KK.bytes=8:=ID rfl
theorem aCu:qv KK=True:=eq_true rfl
theorem aCv:zc KK=[.v Value.nilFunc]:=ID rfl
theorem bex{K:TI→Prop}:@tyW Tryz.prog 195 ⟨K⟩=K KJ:=qk aVq
theorem aCt:KJ.kd=Kd.sli 108:=ID rfl
theorem arf:KJ.kd.agg=false:=ID rfl
theorem ak3:KJ.size=1:=ID rfl
theorem aek:KJ.bytes=24:=ID rfl
theorem aCr:qv KJ=True:=eq_true rfl
theorem aCs:zc KJ=[.v (Value.slice none 0 0)]:=ID rfl
theorem aVG{K:TI→Prop}:@Qs Tryz.prog 195 ⟨K⟩=K QC:=ZI aVq rfl Y9
theorem bew{K:TI→Prop}:@tyW Tryz.prog 196 ⟨K⟩=K KI:=qk bhw
theorem aCq:KI.kd=Kd.oth:=ID rfl
theorem ard:KI.kd.agg=false:=ID rfl
theorem ak2:KI.size=1:=ID rfl
theorem aej:KI.bytes=8:=ID rfl
theorem aCo:qv KI=True:=eq_true rfl
theorem aCp:zc KI=[.v Value.nilFunc]:=ID rfl
theorem bev{K:TI→Prop}:@tyW Tryz.prog 197 ⟨K⟩=K KH:=qk bhv
theorem aCn:KH.kd=Kd.oth:=ID rfl
theorem arc:KH.kd.agg=false:=ID rfl
theorem ak1:KH.size=1:=ID rfl
theorem aei:KH.bytes=8:=ID rfl
theorem aCl:qv KH=True:=eq_true rfl
theorem aCm:zc KH=[.v Value.nilFunc]:=ID rfl
theorem beu{K:TI→Prop}:@tyW Tryz.prog 198 ⟨K⟩=K KG:=qk bhu
theorem aCk:KG.kd=Kd.oth:=ID rfl
theorem arb:KG.kd.agg=false:=ID rfl
theorem ak0:KG.size=1:=ID rfl
theorem aeh:KG.bytes=8:=ID rfl
theorem aCi:qv KG=True:=eq_true rfl
theorem aCj:zc KG=[.v Value.nilFunc]:=ID rfl
theorem bet{K:TI→Prop}:@tyW Tryz.prog 200 ⟨K⟩=K KF:=qk bht
theorem aCg:KF.kd=Kd.oth:=ID rfl
theorem aq9:KF.kd.agg=false:=ID rfl
theorem akZ:KF.size=1:=ID rfl
theorem aeg:KF.bytes=8:=ID rfl
theorem aCe:qv KF=True:=eq_true rfl
theorem aCf:zc KF=[.v Value.nilFunc]:=ID rfl
theorem bes{K:TI→Prop}:@tyW Tryz.prog 201 ⟨K⟩=K KE:=qk bhs
theorem aCd:KE.kd=Kd.oth:=ID rfl
theorem aq8:KE.kd.agg=false:=ID rfl
theorem akY:KE.size=1:=ID rfl
theorem aef:KE.bytes=8:=ID rfl
theorem aCb:qv KE=True:=eq_true rfl
theorem aCc:zc KE=[.v Value.nilFunc]:=ID rfl
theorem ber{K:TI→Prop}:@tyW Tryz.prog 202 ⟨K⟩=K KD:=qk bhr
theorem aCa:KD.kd=Kd.oth:=ID rfl
theorem aq7:KD.kd.agg=false:=ID rfl
theorem akX:KD.size=1:=ID rfl
theorem aee:KD.bytes=8:=ID rfl
theorem aB8:qv KD=True:=eq_true rfl
theorem aB9:zc KD=[.v Value.nilFunc]:=ID rfl
theorem bep{K:TI→Prop}:@tyW Tryz.prog 204 ⟨K⟩=K KC:=qk bhq
theorem aB7:KC.kd=Kd.oth:=ID rfl
theorem aq6:KC.kd.agg=false:=ID rfl
theorem akW:KC.size=1:=ID rfl
theorem aed:KC.bytes=8:=ID rfl
theorem aB5:qv KC=True:=eq_true rfl
theorem aB6:zc KC=[.v Value.nilFunc]:=ID rfl
theorem beo{K:TI→Prop}:@tyW Tryz.prog 206 ⟨K⟩=K KB:=qk bho
theorem aB4:KB.kd=Kd.oth:=ID rfl
theorem aq5:KB.kd.agg=false:=ID rfl
theorem akV:KB.size=1:=ID rfl
theorem aec:KB.bytes=8:=ID rfl
theorem aB2:qv KB=True:=eq_true rfl
theorem aB3:zc KB=[.v Value.nilFunc]:=ID rfl
theorem ben{K:TI→Prop}:@tyW Tryz.prog 207 ⟨K⟩=K KA:=qk bhn
theorem aB1:KA.kd=Kd.oth:=ID rfl
theorem aq4:KA.kd.agg=false:=ID rfl
theorem akU:KA.size=1:=ID rfl
theorem aeb:KA.bytes=8:=ID rfl
theorem aBZ:qv KA=True:=eq_true rfl
theorem aB0:zc KA=[.v Value.nilFunc]:=ID rfl
theorem bem{K:TI→Prop}:@tyW Tryz.prog 208 ⟨K⟩=K Kw:=qk bhm
theorem aBY:Kw.kd=Kd.oth:=ID rfl
theorem aq3:Kw.kd.agg=false:=ID rfl
theorem akT:Kw.size=1:=ID rfl
theorem aea:Kw.bytes=8:=ID rfl
theorem aBW:qv Kw=True:=eq_true rfl
theorem aBX:zc Kw=[.v Value.nilFunc]:=ID rfl
theorem bel{K:TI→Prop}:@tyW Tryz.prog 209 ⟨K⟩=K Kv:=qk bhl
theorem aBV:Kv.kd=Kd.oth:=ID rfl
theorem aq2:Kv.kd.agg=false:=ID rfl
theorem akS:Kv.size=1:=ID rfl
theorem ad9:Kv.bytes=8:=ID rfl
theorem aBT:qv Kv=True:=eq_true rfl
theorem aBU:zc Kv=[.v Value.nilFunc]:=ID rfl
theorem bek{K:TI→Prop}:@tyW Tryz.prog 210 ⟨K⟩=K Ku:=qk bhk
theorem aBS:Ku.kd=Kd.oth:=ID rfl
theorem aq1:Ku.kd.agg=false:=ID rfl
theorem akR:Ku.size=1:=ID rfl
theorem ad8:Ku.bytes=8:=ID rfl
theorem aBQ:qv Ku=True:=eq_true rfl
theorem aBR:zc Ku=[.v Value.nilFunc]:=ID rfl
theorem bej{K:TI→Prop}:@tyW Tryz.prog 211 ⟨K⟩=K Kt:=qk bhj
theorem aBP:Kt.kd=Kd.oth:=ID rfl
theorem aq0:Kt.kd.agg=false:=ID rfl
theorem akQ:Kt.size=1:=ID rfl
theorem ad7:Kt.bytes=8:=ID rfl
theorem aBN:qv Kt=True:=eq_true rfl
theorem aBO:zc Kt=[.v Value.nilFunc]:=ID rfl
theorem bei{K:TI→Prop}:@tyW Tryz.prog 213 ⟨K⟩=K Ks:=qk bhi
theorem aBM:Ks.kd=Kd.oth:=ID rfl
theorem aqZ:Ks.kd.agg=false:=ID rfl
theorem akP:Ks.size=1:=ID rfl
theorem ad6:Ks.bytes=8:=ID rfl
theorem aBK:qv Ks=True:=eq_true rfl
theorem aBL:zc Ks=[.v Value.nilFunc]:=ID rfl
theorem beh{K:TI→Prop}:@tyW Tryz.prog 214 ⟨K⟩=K Kr:=qk bhh
theorem aBJ:Kr.kd=Kd.oth:=ID rfl
theorem aqY:Kr.kd.agg=false:=ID rfl
theorem akO:Kr.size=1:=ID rfl
theorem ad5:Kr.bytes=8:=ID rfl
theorem aBH:qv Kr=True:=eq_true rfl
theorem aBI:zc Kr=[.v Value.nilFunc]:=ID rfl
theorem beg{K:TI→Prop}:@tyW Tryz.prog 215 ⟨K⟩=K Kq:=qk bhg
theorem aBG:Kq.kd=Kd.oth:=ID rfl
theorem aqX:Kq.kd.agg=false:=ID rfl
theorem akN:Kq.size=1:=ID rfl
theorem ad4:Kq.bytes=8:=ID rfl
theorem aBE:qv Kq=True:=eq_true rfl
theorem aBF:zc Kq=[.v Value.nilFunc]:=ID rfl
theorem bef{K:TI→Prop}:@tyW Tryz.prog 216 ⟨K⟩=K Kp:=qk bhf
theorem aBD:Kp.kd=Kd.oth:=ID rfl
theorem aqW:Kp.kd.agg=false:=ID rfl
theorem akM:Kp.size=1:=ID rfl
theorem ad3:Kp.bytes=8:=ID rfl
theorem aBB:qv Kp=True:=eq_true rfl
theorem aBC:zc Kp=[.v Value.nilFunc]:=ID rfl
theorem bee{K:TI→Prop}:@tyW Tryz.prog 217 ⟨K⟩=K Ko:=qk bhe
theorem aBA:Ko.kd=Kd.oth:=ID rfl
theorem aqV:Ko.kd.agg=false:=ID rfl
theorem akL:Ko.size=1:=ID rfl
theorem ad2:Ko.bytes=8:=ID rfl
theorem aBy:qv Ko=True:=eq_true rfl
theorem aBz:zc Ko=[.v Value.nilFunc]:=ID rfl
theorem bed{K:TI→Prop}:@tyW Tryz.prog 218 ⟨K⟩=K Kn:=qk bhd
theorem aBx:Kn.kd=Kd.oth:=ID rfl
theorem aqU:Kn.kd.agg=false:=ID rfl
theorem akK:Kn.size=1:=ID rfl
theorem ad1:Kn.bytes=8:=ID rfl
theorem aBv:qv Kn=True:=eq_true rfl
theorem aBw:zc Kn=[.v Value.nilFunc]:=ID rfl
theorem bec{K:TI→Prop}:@tyW Tryz.prog 219 ⟨K⟩=K Km:=qk bhc
theorem aBu:Km.kd=Kd.oth:=ID rfl
theorem aqT:Km.kd.agg=false:=ID rfl
theorem akJ:Km.size=1:=ID rfl
theorem ad0:Km.bytes=8:=ID rfl
theorem aBs:qv Km=True:=eq_true rfl
theorem aBt:zc Km=[.v Value.nilFunc]:=ID rfl
theorem beb{K:TI→Prop}:@tyW Tryz.prog 220 ⟨K⟩=K Kl:=qk bhb
theorem aBq:Kl.kd=Kd.oth:=ID rfl
theorem aqR:Kl.kd.agg=false:=ID rfl
theorem akH:Kl.size=1:=ID rfl
theorem adY:Kl.bytes=8:=ID rfl
theorem aBo:qv Kl=True:=eq_true rfl
theorem aBp:zc Kl=[.v Value.nilFunc]:=ID rfl
theorem bea{K:TI→Prop}:@tyW Tryz.prog 221 ⟨K⟩=K Kk:=qk bha
theorem aBn:Kk.kd=Kd.oth:=ID rfl
theorem aqQ:Kk.kd.agg=false:=ID rfl
theorem akG:Kk.size=1:=ID rfl
theorem adX:Kk.bytes=8:=ID rfl
theorem aBl:qv Kk=True:=eq_true rfl
theorem aBm:zc Kk=[.v Value.nilFunc]:=ID rfl
theorem bd9{K:TI→Prop}:@tyW Tryz.prog 222 ⟨K⟩=K Kj:=qk bg9
theorem aBk:Kj.kd=Kd.oth:=ID rfl
theorem aqP:Kj.kd.agg=false:=ID rfl
theorem akF:Kj.size=1:=ID rfl
theorem adW:Kj.bytes=8:=ID rfl
theorem aBi:qv Kj=True:=eq_true rfl
theorem aBj:zc Kj=[.v Value.nilFunc]:=ID rfl
theorem bd8{K:TI→Prop}:@tyW Tryz.prog 223 ⟨K⟩=K Ki:=qk bg8
theorem aBh:Ki.kd=Kd.oth:=ID rfl
theorem aqO:Ki.kd.agg=false:=ID rfl
theorem akE:Ki.size=1:=ID rfl
theorem adV:Ki.bytes=8:=ID rfl
theorem aBf:qv Ki=True:=eq_true rfl
theorem aBg:zc Ki=[.v Value.nilFunc]:=ID rfl
theorem bd7{K:TI→Prop}:@tyW Tryz.prog 224 ⟨K⟩=K Kh:=qk bg7
theorem aBe:Kh.kd=Kd.oth:=ID rfl
theorem aqN:Kh.kd.agg=false:=ID rfl
theorem akD:Kh.size=1:=ID rfl
theorem adU:Kh.bytes=8:=ID rfl
theorem aBc:qv Kh=True:=eq_true rfl
theorem aBd:zc Kh=[.v Value.nilFunc]:=ID rfl
theorem bd6{K:TI→Prop}:@tyW Tryz.prog 225 ⟨K⟩=K Kg:=qk bg6
theorem aBb:Kg.kd=Kd.oth:=ID rfl
theorem aqM:Kg.kd.agg=false:=ID rfl
theorem akC:Kg.size=1:=ID rfl
theorem adT:Kg.bytes=8:=ID rfl
theorem aA9:qv Kg=True:=eq_true rfl
theorem aBa:zc Kg=[.v Value.nilFunc]:=ID rfl
theorem bd5{K:TI→Prop}:@tyW Tryz.prog 226 ⟨K⟩=K Kf:=qk bg5
theorem aA8:Kf.kd=Kd.oth:=ID rfl
theorem aqL:Kf.kd.agg=false:=ID rfl
theorem akB:Kf.size=1:=ID rfl
theorem adR:Kf.bytes=8:=ID rfl
theorem aA6:qv Kf=True:=eq_true rfl
theorem aA7:zc Kf=[.v Value.nilFunc]:=ID rfl
theorem bd4{K:TI→Prop}:@tyW Tryz.prog 227 ⟨K⟩=K Ke:=qk bg4
theorem aA5:Ke.kd=Kd.oth:=ID rfl
theorem aqK:Ke.kd.agg=false:=ID rfl
theorem akA:Ke.size=1:=ID rfl
theorem adQ:Ke.bytes=8:=ID rfl
theorem aA3:qv Ke=True:=eq_true rfl
theorem aA4:zc Ke=[.v Value.nilFunc]:=ID rfl
theorem bd3{K:TI→Prop}:@tyW Tryz.prog 228 ⟨K⟩=K Kc:=qk bg3
theorem aA2:Kc.kd=Kd.oth:=ID rfl
theorem aqJ:Kc.kd.agg=false:=ID rfl
theorem akz:Kc.size=1:=ID rfl
theorem adP:Kc.bytes=8:=ID rfl
theorem aA0:qv Kc=True:=eq_true rfl
theorem aA1:zc Kc=[.v Value.nilFunc]:=ID rfl
theorem bd2{K:TI→Prop}:@tyW Tryz.prog 229 ⟨K⟩=K Ka:=qk bg2
theorem aAZ:Ka.kd=Kd.oth:=ID rfl
theorem aqI:Ka.kd.agg=false:=ID rfl
theorem aky:Ka.size=1:=ID rfl
theorem adO:Ka.bytes=8:=ID rfl
theorem aAX:qv Ka=True:=eq_true rfl
theorem aAY:zc Ka=[.v Value.nilFunc]:=ID rfl
theorem bd1{K:TI→Prop}:@tyW Tryz.prog 230 ⟨K⟩=K V9:=qk bg1
theorem aAV:V9.kd=Kd.oth:=ID rfl
theorem aqG:V9.kd.agg=false:=ID rfl
theorem akw:V9.size=1:=ID rfl
theorem adN:V9.bytes=8:=ID rfl
theorem aAT:qv V9=True:=eq_true rfl
theorem aAU:zc V9=[.v Value.nilFunc]:=ID rfl
theorem bd0{K:TI→Prop}:@tyW Tryz.prog 231 ⟨K⟩=K V8:=qk bg0
theorem aAS:V8.kd=Kd.oth:=ID rfl
theorem aqF:V8.kd.agg=false:=ID rfl
theorem akv:V8.size=1:=ID rfl
theorem adL:V8.bytes=8:=ID rfl
theorem aAQ:qv V8=True:=eq_true rfl
theorem aAR:zc V8=[.v Value.nilFunc]:=ID rfl
theorem bdZ{K:TI→Prop}:@tyW Tryz.prog 233 ⟨K⟩=K V7:=qk bgZ
theorem aAP:V7.kd=Kd.oth:=ID rfl
theorem aqE:V7.kd.agg=false:=ID rfl
theorem aku:V7.size=1:=ID rfl
theorem adK:V7.bytes=8:=ID rfl
theorem aAN:qv V7=True:=eq_true rfl
theorem aAO:zc V7=[.v Value.nilFunc]:=ID rfl
theorem bdY{K:TI→Prop}:@tyW Tryz.prog 234 ⟨K⟩=K V6:=qk bgY
theorem aAM:V6.kd=Kd.oth:=ID rfl
theorem aqD:V6.kd.agg=false:=ID rfl
theorem akt:V6.size=1:=ID rfl
theorem adJ:V6.bytes=8:=ID rfl
theorem aAK:qv V6=True:=eq_true rfl
theorem aAL:zc V6=[.v Value.nilFunc]:=ID rfl
theorem bdX{K:TI→Prop}:@tyW Tryz.prog 235 ⟨K⟩=K V5:=qk bgX
theorem aAJ:V5.kd=Kd.oth:=ID rfl
theorem aqC:V5.kd.agg=false:=ID rfl
theorem aks:V5.size=1:=ID rfl
theorem adI:V5.bytes=8:=ID rfl
theorem aAH:qv V5=True:=eq_true rfl
theorem aAI:zc V5=[.v Value.nilFunc]:=ID rfl
theorem bdW{K:TI→Prop}:@tyW Tryz.prog 236 ⟨K⟩=K V4:=qk bgW
theorem aAG:V4.kd=Kd.oth:=ID rfl
theorem aqB:V4.kd.agg=false:=ID rfl
theorem akr:V4.size=1:=ID rfl
theorem adH:V4.bytes=8:=ID rfl
theorem aAE:qv V4=True:=eq_true rfl
theorem aAF:zc V4=[.v Value.nilFunc]:=ID rfl
theorem bdV{K:TI→Prop}:@tyW Tryz.prog 237 ⟨K⟩=K V3:=qk bgV
theorem aAD:V3.kd=Kd.oth:=ID rfl
theorem aqA:V3.kd.agg=false:=ID rfl
theorem akq:V3.size=1:=ID rfl
theorem adG:V3.bytes=8:=ID rfl
theorem aAB:qv V3=True:=eq_true rfl
theorem aAC:zc V3=[.v Value.nilFunc]:=ID rfl
theorem bdU{K:TI→Prop}:@tyW Tryz.prog 238 ⟨K⟩=K V2:=qk bgU
theorem aAA:V2.kd=Kd.oth:=ID rfl
theorem aqz:V2.kd.agg=false:=ID rfl
theorem akp:V2.size=1:=ID rfl
theorem adF:V2.bytes=8:=ID rfl
theorem aAy:qv V2=True:=eq_true rfl
theorem aAz:zc V2=[.v Value.nilFunc]:=ID rfl
theorem bdT{K:TI→Prop}:@tyW Tryz.prog 239 ⟨K⟩=K V1:=qk bgT
theorem aAx:V1.kd=Kd.oth:=ID rfl
theorem aqy:V1.kd.agg=false:=ID rfl
theorem ako:V1.size=1:=ID rfl
theorem adE:V1.bytes=8:=ID rfl
theorem aAv:qv V1=True:=eq_true rfl
theorem aAw:zc V1=[.v Value.nilFunc]:=ID rfl
theorem bdS{K:TI→Prop}:@tyW Tryz.prog 240 ⟨K⟩=K V0:=qk bgS
theorem aAt:V0.kd=Kd.oth:=ID rfl
theorem aqv:V0.kd.agg=false:=ID rfl
theorem akm:V0.size=1:=ID rfl
theorem adD:V0.bytes=8:=ID rfl
theorem aAr:qv V0=True:=eq_true rfl
theorem aAs:zc V0=[.v Value.nilFunc]:=ID rfl
theorem bdR{K:TI→Prop}:@tyW Tryz.prog 241 ⟨K⟩=K VZ:=qk bgR
theorem aAq:VZ.kd=Kd.oth:=ID rfl
theorem aqu:VZ.kd.agg=false:=ID rfl
theorem akl:VZ.size=1:=ID rfl
theorem adC:VZ.bytes=8:=ID rfl
theorem aAo:qv VZ=True:=eq_true rfl
theorem aAp:zc VZ=[.v Value.nilFunc]:=ID rfl
theorem bdQ{K:TI→Prop}:@tyW Tryz.prog 242 ⟨K⟩=K VY:=qk bgQ
theorem aAn:VY.kd=Kd.oth:=ID rfl
theorem aqt:VY.kd.agg=false:=ID rfl
theorem akk:VY.size=1:=ID rfl
theorem adB:VY.bytes=8:=ID rfl
theorem aAl:qv VY=True:=eq_true rfl
theorem aAm:zc VY=[.v Value.nilFunc]:=ID rfl
theorem bdP{K:TI→Prop}:@tyW Tryz.prog 243 ⟨K⟩=K VX:=qk bgP
theorem aAk:VX.kd=Kd.oth:=ID rfl
theorem aqs:VX.kd.agg=false:=ID rfl
theorem akj:VX.size=1:=ID rfl
theorem adA:VX.bytes=8:=ID rfl
theorem aAi:qv VX=True:=eq_true rfl
theorem aAj:zc VX=[.v Value.nilFunc]:=ID rfl
theorem bdO{K:TI→Prop}:@tyW Tryz.prog 244 ⟨K⟩=K VW:=qk bgO
theorem aAh:VW.kd=Kd.oth:=ID rfl
theorem aqr:VW.kd.agg=false:=ID rfl
theorem aki:VW.size=1:=ID rfl
theorem adz:VW.bytes=8:=ID rfl
theorem aAf:qv VW=True:=eq_true rfl
theorem aAg:zc VW=[.v Value.nilFunc]:=ID rfl
theorem bdN{K:TI→Prop}:@tyW Tryz.prog 245 ⟨K⟩=K VV:=qk bgN
theorem aAe:VV.kd=Kd.oth:=ID rfl
theorem aqq:VV.kd.agg=false:=ID rfl
theorem akh:VV.size=1:=ID rfl
theorem ady:VV.bytes=8:=ID rfl
theorem aAc:qv VV=True:=eq_true rfl
theorem aAd:zc VV=[.v Value.nilFunc]:=ID rfl
theorem bdM{K:TI→Prop}:@tyW Tryz.prog 246 ⟨K⟩=K VU:=qk bgM
theorem aAb:VU.kd=Kd.oth:=ID rfl
theorem aqp:VU.kd.agg=false:=ID rfl
theorem akg:VU.size=1:=ID rfl
theorem adx:VU.bytes=8:=ID rfl
theorem az9:qv VU=True:=eq_true rfl
theorem aAa:zc VU=[.v Value.nilFunc]:=ID rfl
theorem bdL{K:TI→Prop}:@tyW Tryz.prog 247 ⟨K⟩=K VT:=qk bgL
theorem az8:VT.kd=Kd.oth:=ID rfl
theorem aqo:VT.kd.agg=false:=ID rfl
theorem akf:VT.size=1:=ID rfl
theorem adw:VT.bytes=8:=ID rfl
theorem az6:qv VT=True:=eq_true rfl
theorem az7:zc VT=[.v Value.nilFunc]:=ID rfl
theorem bdK{K:TI→Prop}:@tyW Tryz.prog 248 ⟨K⟩=K VS:=qk bgK
theorem az5:VS.kd=Kd.oth:=ID rfl
theorem aqn:VS.kd.agg=false:=ID rfl
theorem ake:VS.size=1:=ID rfl
theorem adv:VS.bytes=8:=ID rfl
theorem az3:qv VS=True:=eq_true rfl
theorem az4:zc VS=[.v Value.nilFunc]:=ID rfl
theorem bdJ{K:TI→Prop}:@tyW Tryz.prog 250 ⟨K⟩=K VR:=qk bgJ
theorem az1:VR.kd=Kd.oth:=ID rfl
theorem aqk:VR.kd.agg=false:=ID rfl
theorem akc:VR.size=1:=ID rfl
theorem adu:VR.bytes=8:=ID rfl
theorem azZ:qv VR=True:=eq_true rfl
theorem az0:zc VR=[.v Value.nilFunc]:=ID rfl
theorem bdI{K:TI→Prop}:@tyW Tryz.prog 252 ⟨K⟩=K VQ:=qk bgI
theorem azY:VQ.kd=Kd.oth:=ID rfl
theorem aqj:VQ.kd.agg=false:=ID rfl
theorem akb:VQ.size=1:=ID rfl
theorem adt:VQ.bytes=8:=ID rfl
theorem azW:qv VQ=True:=eq_true rfl
theorem azX:zc VQ=[.v Value.nilFunc]:=ID rfl
theorem bdH{K:TI→Prop}:@tyW Tryz.prog 253 ⟨K⟩=K VP:=qk bgH
theorem azV:VP.kd=Kd.oth:=ID rfl
theorem aqi:VP.kd.agg=false:=ID rfl
theorem aka:VP.size=1:=ID rfl
theorem ads:VP.bytes=8:=ID rfl
theorem azT:qv VP=True:=eq_true rfl
theorem azU:zc VP=[.v Value.nilFunc]:=ID rfl
theorem bdG{K:TI→Prop}:@tyW Tryz.prog 254 ⟨K⟩=K VO:=qk bgG
theorem azS:VO.kd=Kd.oth:=ID rfl
theorem aqh:VO.kd.agg=false:=ID rfl
theorem aj9:VO.size=1:=ID rfl
theorem adr:VO.bytes=8:=ID rfl
theorem azQ:qv VO=True:=eq_true rfl
theorem azR:zc VO=[.v Value.nilFunc]:=ID rfl
theorem bdF{K:TI→Prop}:@tyW Tryz.prog 255 ⟨K⟩=K VN:=qk bgF
theorem azP:VN.kd=Kd.oth:=ID rfl
theorem aqg:VN.kd.agg=false:=ID rfl
theorem aj8:VN.size=1:=ID rfl
theorem adq:VN.bytes=8:=ID rfl
theorem azN:qv VN=True:=eq_true rfl
theorem azO:zc VN=[.v Value.nilFunc]:=ID rfl
theorem bdE{K:TI→Prop}:@tyW Tryz.prog 256 ⟨K⟩=K VM:=qk bgE
theorem azM:VM.kd=Kd.oth:=ID rfl
theorem aqf:VM.kd.agg=false:=ID rfl
theorem aj7:VM.size=1:=ID rfl
theorem adp:VM.bytes=8:=ID rfl
theorem azK:qv VM=True:=eq_true rfl
theorem azL:zc VM=[.v Value.nilFunc]:=ID rfl
theorem bdD{K:TI→Prop}:@tyW Tryz.prog 257 ⟨K⟩=K VL:=qk bgD
theorem azJ:VL.kd=Kd.oth:=ID rfl
theorem aqe:VL.kd.agg=false:=ID rfl
theorem aj6:VL.size=1:=ID rfl
theorem ado:VL.bytes=8:=ID rfl
theorem azH:qv VL=True:=eq_true rfl
theorem azI:zc VL=[.v Value.nilFunc]:=ID rfl
theorem bdC{K:TI→Prop}:@tyW Tryz.prog 258 ⟨K⟩=K VK:=qk bgC
theorem azG:VK.kd=Kd.oth:=ID rfl
theorem aqd:VK.kd.agg=false:=ID rfl
theorem aj5:VK.size=1:=ID rfl
theorem adn:VK.bytes=8:=ID rfl
theorem azE:qv VK=True:=eq_true rfl
theorem azF:zc VK=[.v Value.nilFunc]:=ID rfl
theorem bdB{K:TI→Prop}:@tyW Tryz.prog 259 ⟨K⟩=K VJ:=qk bgB
theorem azD:VJ.kd=Kd.oth:=ID rfl
theorem aqc:VJ.kd.agg=false:=ID rfl
theorem aj4:VJ.size=1:=ID rfl
theorem adm:VJ.bytes=8:=ID rfl
theorem azB:qv VJ=True:=eq_true rfl
theorem azC:zc VJ=[.v Value.nilFunc]:=ID rfl
theorem bdA{K:TI→Prop}:@tyW Tryz.prog 260 ⟨K⟩=K VI:=qk bgA
theorem azz:VI.kd=Kd.oth:=ID rfl
theorem aqa:VI.kd.agg=false:=ID rfl
theorem aj2:VI.size=1:=ID rfl
theorem adl:VI.bytes=8:=ID rfl
theorem azx:qv VI=True:=eq_true rfl
theorem azy:zc VI=[.v Value.nilFunc]:=ID rfl
theorem bdz{K:TI→Prop}:@tyW Tryz.prog 261 ⟨K⟩=K VH:=qk bgz
theorem azw:VH.kd=Kd.oth:=ID rfl
theorem ap9:VH.kd.agg=false:=ID rfl
theorem aj1:VH.size=1:=ID rfl
theorem adk:VH.bytes=8:=ID rfl
theorem azu:qv VH=True:=eq_true rfl
theorem azv:zc VH=[.v Value.nilFunc]:=ID rfl
theorem bdy{K:TI→Prop}:@tyW Tryz.prog 262 ⟨K⟩=K VG:=qk bgy
theorem azt:VG.kd=Kd.oth:=ID rfl
theorem ap8:VG.kd.agg=false:=ID rfl
theorem aj0:VG.size=1:=ID rfl
theorem adj:VG.bytes=8:=ID rfl
theorem azr:qv VG=True:=eq_true rfl
theorem azs:zc VG=[.v Value.nilFunc]:=ID rfl
theorem bdx{K:TI→Prop}:@tyW Tryz.prog 263 ⟨K⟩=K VF:=qk bgx
theorem azq:VF.kd=Kd.oth:=ID rfl
theorem ap7:VF.kd.agg=false:=ID rfl
theorem ajZ:VF.size=1:=ID rfl
theorem adi:VF.bytes=8:=ID rfl
theorem azo:qv VF=True:=eq_true rfl
theorem azp:zc VF=[.v Value.nilFunc]:=ID rfl
theorem bdw{K:TI→Prop}:@tyW Tryz.prog 264 ⟨K⟩=K VE:=qk bgw
theorem azn:VE.kd=Kd.int IntKind.u64:=ID rfl
theorem ap6:VE.kd.agg=false:=ID rfl
theorem ajY:VE.size=1:=ID rfl
theorem adh:VE.bytes=8:=ID rfl
theorem azl:qv VE=True:=eq_true rfl
theorem azm:zc VE=[.v (Value.int IntKind.u64 0)]:=ID rfl
theorem bdv{K:TI→Prop}:@tyW Tryz.prog 265 ⟨K⟩=K VD:=qk bgv
theorem azk:VD.kd=Kd.oth:=ID rfl
theorem ap5:VD.kd.agg=false:=ID rfl
theorem ajX:VD.size=1:=ID rfl
theorem adg:VD.bytes=8:=ID rfl
theorem azi:qv VD=True:=eq_true rfl
theorem azj:zc VD=[.v Value.nilFunc]:=ID rfl
theorem bdu{K:TI→Prop}:@tyW Tryz.prog 266 ⟨K⟩=K VC:=qk bgu
theorem azh:VC.kd=Kd.oth:=ID rfl
theorem ap4:VC.kd.agg=false:=ID rfl
theorem ajW:VC.size=1:=ID rfl
theorem adf:VC.bytes=8:=ID rfl
theorem azf:qv VC=True:=eq_true rfl
theorem azg:zc VC=[.v Value.nilFunc]:=ID rfl
theorem bdt{K:TI→Prop}:@tyW Tryz.prog 267 ⟨K⟩=K VB:=qk bgt
theorem aze:VB.kd=Kd.oth:=ID rfl
theorem ap3:VB.kd.agg=false:=ID rfl
theorem ajV:VB.size=1:=ID rfl
theorem ade:VB.bytes=8:=ID rfl
theorem azc:qv VB=True:=eq_true rfl
theorem azd:zc VB=[.v Value.nilFunc]:=ID rfl
theorem bds{K:TI→Prop}:@tyW Tryz.prog 269 ⟨K⟩=K VA:=qk bgs
theorem azb:VA.kd=Kd.oth:=ID rfl
theorem ap2:VA.kd.agg=false:=ID rfl
theorem ajU:VA.size=1:=ID rfl
theorem adc:VA.bytes=8:=ID rfl
theorem ay9:qv VA=True:=eq_true rfl
theorem aza:zc VA=[.v Value.nilFunc]:=ID rfl
theorem bdr{K:TI→Prop}:@tyW Tryz.prog 271 ⟨K⟩=K Vz:=qk bgr
theorem ay8:Vz.kd=Kd.oth:=ID rfl
theorem ap1:Vz.kd.agg=false:=ID rfl
theorem ajT:Vz.size=1:=ID rfl
theorem adb:Vz.bytes=8:=ID rfl
theorem ay6:qv Vz=True:=eq_true rfl
theorem ay7:zc Vz=[.v Value.nilFunc]:=ID rfl
theorem bdq{K:TI→Prop}:@tyW Tryz.prog 273 ⟨K⟩=K Vy:=qk bgq
theorem ay5:Vy.kd=Kd.oth:=ID rfl
theorem ap0:Vy.kd.agg=false:=ID rfl
theorem ajS:Vy.size=1:=ID rfl
theorem ada:Vy.bytes=8:=ID rfl
theorem ay3:qv Vy=True:=eq_true rfl
theorem ay4:zc Vy=[.v Value.nilFunc]:=ID rfl
theorem bdp{K:TI→Prop}:@tyW Tryz.prog 274 ⟨K⟩=K Vx:=qk bgp
theorem ay2:Vx.kd=Kd.oth:=ID rfl
theorem apZ:Vx.kd.agg=false:=ID rfl
theorem ajR:Vx.size=1:=ID rfl
theorem ac9:Vx.bytes=8:=ID rfl
theorem ay0:qv Vx=True:=eq_true rfl
theorem ay1:zc Vx=[.v Value.nilFunc]:=ID rfl
theorem bdo{K:TI→Prop}:@tyW Tryz.prog 275 ⟨K⟩=K Vw:=qk bgo
theorem ayZ:Vw.kd=Kd.int IntKind.u32:=ID rfl
theorem apY:Vw.kd.agg=false:=ID rfl
theorem ajQ:Vw.size=1:=ID rfl
theorem ac8:Vw.bytes=4:=ID rfl
theorem ayX:qv Vw=True:=eq_true rfl
theorem ayY:zc Vw=[.v (Value.int IntKind.u32 0)]:=ID rfl
theorem bdn{K:TI→Prop}:@tyW Tryz.prog 276 ⟨K⟩=K Vv:=qk bgn
theorem ayW:Vv.kd=Kd.oth:=ID rfl
theorem apX:Vv.kd.agg=false:=ID rfl
theorem ajP:Vv.size=1:=ID rfl
theorem ac7:Vv.bytes=8:=ID rfl
theorem ayU:qv Vv=True:=eq_true rfl
theorem ayV:zc Vv=[.v Value.nilFunc]:=ID rfl
theorem bdm{K:TI→Prop}:@tyW Tryz.prog 277 ⟨K⟩=K Vu:=qk bgm
theorem ayT:Vu.kd=Kd.int IntKind.u64:=ID rfl
theorem apW:Vu.kd.agg=false:=ID rfl
theorem ajO:Vu.size=1:=ID rfl
theorem ac6:Vu.bytes=8:=ID rfl
theorem ayR:qv Vu=True:=eq_true rfl
theorem ayS:zc Vu=[.v (Value.int IntKind.u64 0)]:=ID rfl
theorem bdl{K:TI→Prop}:@tyW Tryz.prog 278 ⟨K⟩=K Vt:=qk bgl
theorem ayQ:Vt.kd=Kd.oth:=ID rfl
theorem apV:Vt.kd.agg=false:=ID rfl
theorem ajN:Vt.size=1:=ID rfl
theorem ac5:Vt.bytes=8:=ID rfl
theorem ayO:qv Vt=True:=eq_true rfl
theorem ayP:zc Vt=[.v Value.nilFunc]:=ID rfl
theorem bdk{K:TI→Prop}:@tyW Tryz.prog 279 ⟨K⟩=K Vs:=qk bgk
theorem ayN:Vs.kd=Kd.oth:=ID rfl
theorem apU:Vs.kd.agg=false:=ID rfl
theorem ajM:Vs.size=1:=ID rfl
theorem ac4:Vs.bytes=8:=ID rfl
theorem ayL:qv Vs=True:=eq_true rfl
theorem ayM:zc Vs=[.v Value.nilFunc]:=ID rfl
theorem bdj{K:TI→Prop}:@tyW Tryz.prog 281 ⟨K⟩=K Vr:=qk bgj
theorem ayJ:Vr.kd=Kd.oth:=ID rfl
theorem apS:Vr.kd.agg=false:=ID rfl
theorem ajK:Vr.size=1:=ID rfl
theorem ac3:Vr.bytes=8:=ID rfl
theorem ayH:qv Vr=True:=eq_true rfl
theorem ayI:zc Vr=[.v Value.nilFunc]:=ID rfl
theorem bdi{K:TI→Prop}:@tyW Tryz.prog 282 ⟨K⟩=K Vq:=qk bgi
theorem ayG:Vq.kd=Kd.oth:=ID rfl
theorem apR:Vq.kd.agg=false:=ID rfl
theorem ajJ:Vq.size=1:=ID rfl
theorem ac2:Vq.bytes=8:=ID rfl
theorem ayE:qv Vq=True:=eq_true rfl
theorem ayF:zc Vq=[.v Value.nilFunc]:=ID rfl
theorem bdh{K:TI→Prop}:@tyW Tryz.prog 283 ⟨K⟩=K Vp:=qk bgh
theorem ayD:Vp.kd=Kd.oth:=ID rfl
theorem apQ:Vp.kd.agg=false:=ID rfl
theorem ajI:Vp.size=1:=ID rfl
theorem ac1:Vp.bytes=8:=ID rfl
theorem ayB:qv Vp=True:=eq_true rfl
theorem ayC:zc Vp=[.v Value.nilFunc]:=ID rfl
theorem bdg{K:TI→Prop}:@tyW Tryz.prog 287 ⟨K⟩=K Vo:=qk bgg
theorem ayA:Vo.kd=Kd.oth:=ID rfl
theorem apP:Vo.kd.agg=false:=ID rfl
theorem ajH:Vo.size=1:=ID rfl
theorem ac0:Vo.bytes=8:=ID rfl
theorem ayy:qv Vo=True:=eq_true rfl
theorem ayz:zc Vo=[.v Value.nilFunc]:=ID rfl
theorem bdf{K:TI→Prop}:@tyW Tryz.prog 288 ⟨K⟩=K Vn:=qk bgf
theorem ayx:Vn.kd=Kd.oth:=ID rfl
theorem apO:Vn.kd.agg=false:=ID rfl
theorem ajG:Vn.size=1:=ID rfl
theorem acZ:Vn.bytes=8:=ID rfl
theorem ayv:qv Vn=True:=eq_true rfl
theorem ayw:zc Vn=[.v Value.nilFunc]:=ID rfl
theorem bde{K:TI→Prop}:@tyW Tryz.prog 289 ⟨K⟩=K Vm:=qk bge
theorem ayu:Vm.kd=Kd.oth:=ID rfl
theorem apN:Vm.kd.agg=false:=ID rfl
theorem ajF:Vm.size=1:=ID rfl
theorem acY:Vm.bytes=8:=ID rfl
theorem ays:qv Vm=True:=eq_true rfl
theorem ayt:zc Vm=[.v Value.nilFunc]:=ID rfl
theorem bdd{K:TI→Prop}:@tyW Tryz.prog 290 ⟨K⟩=K Vl:=qk bgd
theorem ayq:Vl.kd=Kd.oth:=ID rfl
theorem apK:Vl.kd.agg=false:=ID rfl
theorem ajD:Vl.size=1:=ID rfl
theorem acX:Vl.bytes=8:=ID rfl
theorem ayo:qv Vl=True:=eq_true rfl
theorem ayp:zc Vl=[.v Value.nilFunc]:=ID rfl
theorem bdc{K:TI→Prop}:@tyW Tryz.prog 291 ⟨K⟩=K Vk:=qk bgc
theorem ayn:Vk.kd=Kd.oth:=ID rfl
theorem apJ:Vk.kd.agg=false:=ID rfl
theorem ajC:Vk.size=1:=ID rfl
theorem acW:Vk.bytes=8:=ID rfl
theorem ayl:qv Vk=True:=eq_true rfl
theorem aym:zc Vk=[.v Value.nilFunc]:=ID rfl
theorem bdb{K:TI→Prop}:@tyW Tryz.prog 295 ⟨K⟩=K Vj:=qk bgb
theorem ayk:Vj.kd=Kd.stru [(0,294)]:=ID rfl
theorem apI:Vj.kd.agg=true:=ID rfl
theorem ajB:Vj.size=0:=ID rfl
theorem acV:Vj.bytes=0:=ID rfl
theorem ayi:qv Vj=True:=eq_true rfl
theorem ayj:zc Vj=[]:=ID rfl
theorem bda{K:TI→Prop}:@tyW Tryz.prog 296 ⟨K⟩=K Vi:=qk bga
theorem ayh:Vi.kd=Kd.stru [(0,294)]:=ID rfl
theorem apH:Vi.kd.agg=true:=ID rfl
theorem ajA:Vi.size=0:=ID rfl
theorem acU:Vi.bytes=0:=ID rfl
theorem ayf:qv Vi=True:=eq_true rfl
theorem ayg:zc Vi=[]:=ID rfl
theorem bc9{K:TI→Prop}:@tyW Tryz.prog 297 ⟨K⟩=K Vh:=qk bf9
theorem aye:Vh.kd=Kd.int IntKind.u8:=ID rfl
theorem apG:Vh.kd.agg=false:=ID rfl
theorem ajz:Vh.size=1:=ID rfl
theorem acT:Vh.bytes=1:=ID rfl
theorem ayc:qv Vh=True:=eq_true rfl
theorem ayd:zc Vh=[.v (Value.int IntKind.u8 0)]:=ID rfl
theorem bc8{K:TI→Prop}:@tyW Tryz.prog 298 ⟨K⟩=K Vg:=qk bf8
theorem ayb:Vg.kd=Kd.int IntKind.u8:=ID rfl
theorem apF:Vg.kd.agg=false:=ID rfl
theorem ajy:Vg.size=1:=ID rfl
theorem acS:Vg.bytes=1:=ID rfl
theorem ax9:qv Vg=True:=eq_true rfl
theorem aya:zc Vg=[.v (Value.int IntKind.u8 0)]:=ID rfl
theorem bc7{K:TI→Prop}:@tyW Tryz.prog 299 ⟨K⟩=K Vf:=qk bf7
theorem ax8:Vf.kd=Kd.oth:=ID rfl
theorem apD:Vf.kd.agg=false:=ID rfl
theorem ajx:Vf.size=1:=ID rfl
theorem acR:Vf.bytes=8:=ID rfl
theorem ax6:qv Vf=True:=eq_true rfl
theorem ax7:zc Vf=[.v Value.nilFunc]:=ID rfl
theorem bc6{K:TI→Prop}:@tyW Tryz.prog 301 ⟨K⟩=K Ve:=qk bf6
theorem ax3:Ve.kd=Kd.int IntKind.i32:=ID rfl
theorem apz:Ve.kd.agg=false:=ID rfl
theorem ajv:Ve.size=1:=ID rfl
theorem acQ:Ve.bytes=4:=ID rfl
theorem ax1:qv Ve=True:=eq_true rfl
theorem ax2:zc Ve=[.v (Value.int IntKind.i32 0)]:=ID rfl
theorem bc5{K:TI→Prop}:@tyW Tryz.prog 302 ⟨K⟩=K Vd:=qk bf5
theorem ax0:Vd.kd=Kd.int IntKind.i32:=ID rfl
theorem apy:Vd.kd.agg=false:=ID rfl
theorem aju:Vd.size=1:=ID rfl
theorem acP:Vd.bytes=4:=ID rfl
theorem axY:qv Vd=True:=eq_true rfl
theorem axZ:zc Vd=[.v (Value.int IntKind.i32 0)]:=ID rfl
theorem bc4{K:TI→Prop}:@tyW Tryz.prog 305 ⟨K⟩=K Vc:=qk bf4
theorem axX:Vc.kd=Kd.oth:=ID rfl
theorem apx:Vc.kd.agg=false:=ID rfl
theorem ajt:Vc.size=1:=ID rfl
theorem acO:Vc.bytes=8:=ID rfl
theorem axV:qv Vc=True:=eq_true rfl
theorem axW:zc Vc=[.v Value.nilFunc]:=ID rfl
theorem bc3{K:TI→Prop}:@tyW Tryz.prog 306 ⟨K⟩=K Vb:=qk bf3
theorem axU:Vb.kd=Kd.oth:=ID rfl
theorem apw:Vb.kd.agg=false:=ID rfl
theorem ajs:Vb.size=1:=ID rfl
theorem acN:Vb.bytes=8:=ID rfl
theorem axS:qv Vb=True:=eq_true rfl
theorem axT:zc Vb=[.v Value.nilFunc]:=ID rfl
theorem boN:qn Tryz.prog 2=True:=eq_true ⟨_,Tryz.func2,of_decide_eq_false (by kernel_rfl),rfl⟩
theorem boM:qn Tryz.prog 3=True:=eq_true ⟨_,Tryz.func3,of_decide_eq_false (by kernel_rfl),rfl⟩
theorem boL:qn Tryz.prog 4=True:=eq_true ⟨_,Tryz.func4,of_decide_eq_false (by kernel_rfl),rfl⟩
theorem boK:qn Tryz.prog 5=True:=eq_true ⟨_,Tryz.func5,of_decide_eq_false (by kernel_rfl),rfl⟩
theorem boJ:qn Tryz.prog 6=True:=eq_true ⟨_,Tryz.func6,of_decide_eq_false (by kernel_rfl),rfl⟩
theorem boI:qn Tryz.prog 7=True:=eq_true ⟨_,Tryz.func7,of_decide_eq_false (by kernel_rfl),rfl⟩
theorem boH:qn Tryz.prog 8=True:=eq_true ⟨_,Tryz.func8,of_decide_eq_false (by kernel_rfl),rfl⟩
theorem boG:qn Tryz.prog 9=True:=eq_true ⟨_,Tryz.func9,of_decide_eq_false (by kernel_rfl),rfl⟩
theorem bk7:qn Tryz.prog 10=True:=eq_true ⟨_,Tryz.func10,of_decide_eq_false (by kernel_rfl),rfl⟩
theorem bk6:qn Tryz.prog 11=True:=eq_true ⟨_,Tryz.func11,of_decide_eq_false (by kernel_rfl),rfl⟩
theorem bk5:qn Tryz.prog 12=True:=eq_true ⟨_,Tryz.func12,of_decide_eq_false (by kernel_rfl),rfl⟩
theorem bk4:qn Tryz.prog 13=True:=eq_true ⟨_,Tryz.func13,of_decide_eq_false (by kernel_rfl),rfl⟩
theorem bk3:qn Tryz.prog 14=True:=eq_true ⟨_,Tryz.func14,of_decide_eq_false (by kernel_rfl),rfl⟩
theorem bk2:qn Tryz.prog 15=True:=eq_true ⟨_,Tryz.func15,of_decide_eq_false (by kernel_rfl),rfl⟩
theorem bk1:qn Tryz.prog 16=True:=eq_true ⟨_,Tryz.func16,of_decide_eq_false (by kernel_rfl),rfl⟩
theorem bk0:qn Tryz.prog 17=True:=eq_true ⟨_,Tryz.func17,of_decide_eq_false (by kernel_rfl),rfl⟩
theorem bkZ:qn Tryz.prog 18=True:=eq_true ⟨_,Tryz.func18,of_decide_eq_false (by kernel_rfl),rfl⟩
theorem bkY:qn Tryz.prog 19=True:=eq_true ⟨_,Tryz.func19,of_decide_eq_false (by kernel_rfl),rfl⟩
theorem bkX:qn Tryz.prog 20=True:=eq_true ⟨_,Tryz.func20,of_decide_eq_false (by kernel_rfl),rfl⟩
theorem bkW:qn Tryz.prog 21=True:=eq_true ⟨_,Tryz.func21,of_decide_eq_false (by kernel_rfl),rfl⟩
theorem bkV:qn Tryz.prog 22=True:=eq_true ⟨_,Tryz.func22,of_decide_eq_false (by kernel_rfl),rfl⟩
theorem bkU:qn Tryz.prog 23=True:=eq_true ⟨_,Tryz.func23,of_decide_eq_false (by kernel_rfl),rfl⟩
theorem bkT:qn Tryz.prog 24=True:=eq_true ⟨_,Tryz.func24,of_decide_eq_false (by kernel_rfl),rfl⟩
theorem bkS:qn Tryz.prog 25=True:=eq_true ⟨_,Tryz.func25,of_decide_eq_false (by kernel_rfl),rfl⟩
theorem bkR:qn Tryz.prog 26=True:=eq_true ⟨_,Tryz.func26,of_decide_eq_false (by kernel_rfl),rfl⟩
theorem bkQ:qn Tryz.prog 27=True:=eq_true ⟨_,Tryz.func27,of_decide_eq_false (by kernel_rfl),rfl⟩
theorem bkP:qn Tryz.prog 28=True:=eq_true ⟨_,Tryz.func28,of_decide_eq_false (by kernel_rfl),rfl⟩
theorem bkO:qn Tryz.prog 29=True:=eq_true ⟨_,Tryz.func29,of_decide_eq_false (by kernel_rfl),rfl⟩
theorem bkN:qn Tryz.prog 30=True:=eq_true ⟨_,Tryz.func30,of_decide_eq_false (by kernel_rfl),rfl⟩
theorem bkM:qn Tryz.prog 31=True:=eq_true ⟨_,Tryz.func31,of_decide_eq_false (by kernel_rfl),rfl⟩
theorem bkL:qn Tryz.prog 32=True:=eq_true ⟨_,Tryz.func32,of_decide_eq_false (by kernel_rfl),rfl⟩
theorem bkK:qn Tryz.prog 33=True:=eq_true ⟨_,Tryz.func33,of_decide_eq_false (by kernel_rfl),rfl⟩
theorem bkJ:qn Tryz.prog 34=True:=eq_true ⟨_,Tryz.func34,of_decide_eq_false (by kernel_rfl),rfl⟩
theorem bkI:qn Tryz.prog 35=True:=eq_true ⟨_,Tryz.func35,of_decide_eq_false (by kernel_rfl),rfl⟩
theorem bkH:qn Tryz.prog 36=True:=eq_true ⟨_,Tryz.func36,of_decide_eq_false (by kernel_rfl),rfl⟩
theorem bkG:qn Tryz.prog 37=True:=eq_true ⟨_,Tryz.func37,of_decide_eq_false (by kernel_rfl),rfl⟩
theorem bkF:qn Tryz.prog 38=True:=eq_true ⟨_,Tryz.func38,of_decide_eq_false (by kernel_rfl),rfl⟩
theorem bkE:qn Tryz.prog 39=True:=eq_true ⟨_,Tryz.func39,of_decide_eq_false (by kernel_rfl),rfl⟩
theorem bkD:qn Tryz.prog 40=True:=eq_true ⟨_,Tryz.func40,of_decide_eq_false (by kernel_rfl),rfl⟩
theorem bkC:qn Tryz.prog 41=True:=eq_true ⟨_,Tryz.func41,of_decide_eq_false (by kernel_rfl),rfl⟩
theorem bkB:qn Tryz.prog 42=True:=eq_true ⟨_,Tryz.func42,of_decide_eq_false (by kernel_rfl),rfl⟩
theorem bkA:qn Tryz.prog 43=True:=eq_true ⟨_,Tryz.func43,of_decide_eq_false (by kernel_rfl),rfl⟩
theorem bkz:qn Tryz.prog 44=True:=eq_true ⟨_,Tryz.func44,of_decide_eq_false (by kernel_rfl),rfl⟩
theorem bky:qn Tryz.prog 45=True:=eq_true ⟨_,Tryz.func45,of_decide_eq_false (by kernel_rfl),rfl⟩
theorem bkx:qn Tryz.prog 46=True:=eq_true ⟨_,Tryz.func46,of_decide_eq_false (by kernel_rfl),rfl⟩
theorem bkw:qn Tryz.prog 47=True:=eq_true ⟨_,Tryz.func47,of_decide_eq_false (by kernel_rfl),rfl⟩
theorem bkv:qn Tryz.prog 48=True:=eq_true ⟨_,Tryz.func48,of_decide_eq_false (by kernel_rfl),rfl⟩
theorem bku:qn Tryz.prog 49=True:=eq_true ⟨_,Tryz.func49,of_decide_eq_false (by kernel_rfl),rfl⟩
theorem bkt:qn Tryz.prog 50=True:=eq_true ⟨_,Tryz.func50,of_decide_eq_false (by kernel_rfl),rfl⟩
theorem bks:qn Tryz.prog 51=True:=eq_true ⟨_,Tryz.func51,of_decide_eq_false (by kernel_rfl),rfl⟩
theorem bkr:qn Tryz.prog 52=True:=eq_true ⟨_,Tryz.func52,of_decide_eq_false (by kernel_rfl),rfl⟩
theorem bkq:qn Tryz.prog 53=True:=eq_true ⟨_,Tryz.func53,of_decide_eq_false (by kernel_rfl),rfl⟩
theorem bkp:qn Tryz.prog 54=True:=eq_true ⟨_,Tryz.func54,of_decide_eq_false (by kernel_rfl),rfl⟩
theorem bko:qn Tryz.prog 55=True:=eq_true ⟨_,Tryz.func55,of_decide_eq_false (by kernel_rfl),rfl⟩
theorem bkn:qn Tryz.prog 56=True:=eq_true ⟨_,Tryz.func56,of_decide_eq_false (by kernel_rfl),rfl⟩
theorem bkm:qn Tryz.prog 57=True:=eq_true ⟨_,Tryz.func57,of_decide_eq_false (by kernel_rfl),rfl⟩
theorem bkl:qn Tryz.prog 58=True:=eq_true ⟨_,Tryz.func58,of_decide_eq_false (by kernel_rfl),rfl⟩
theorem bkk:qn Tryz.prog 59=True:=eq_true ⟨_,Tryz.func59,of_decide_eq_false (by kernel_rfl),rfl⟩
theorem bkj:qn Tryz.prog 60=True:=eq_true ⟨_,Tryz.func60,of_decide_eq_false (by kernel_rfl),rfl⟩
theorem bki:qn Tryz.prog 61=True:=eq_true ⟨_,Tryz.func61,of_decide_eq_false (by kernel_rfl),rfl⟩
theorem bkh:qn Tryz.prog 62=True:=eq_true ⟨_,Tryz.func62,of_decide_eq_false (by kernel_rfl),rfl⟩
theorem bkg:qn Tryz.prog 63=True:=eq_true ⟨_,Tryz.func63,of_decide_eq_false (by kernel_rfl),rfl⟩
theorem bkf:qn Tryz.prog 64=True:=eq_true ⟨_,Tryz.func64,of_decide_eq_false (by kernel_rfl),rfl⟩
theorem bke:qn Tryz.prog 65=True:=eq_true ⟨_,Tryz.func65,of_decide_eq_false (by kernel_rfl),rfl⟩
theorem bkd:qn Tryz.prog 66=True:=eq_true ⟨_,Tryz.func66,of_decide_eq_false (by kernel_rfl),rfl⟩
theorem bkc:qn Tryz.prog 67=True:=eq_true ⟨_,Tryz.func67,of_decide_eq_false (by kernel_rfl),rfl⟩
theorem bkb:qn Tryz.prog 68=True:=eq_true ⟨_,Tryz.func68,of_decide_eq_false (by kernel_rfl),rfl⟩
theorem bka:qn Tryz.prog 69=True:=eq_true ⟨_,Tryz.func69,of_decide_eq_false (by kernel_rfl),rfl⟩
theorem bj9:qn Tryz.prog 70=True:=eq_true ⟨_,Tryz.func70,of_decide_eq_false (by kernel_rfl),rfl⟩
theorem bj8:qn Tryz.prog 71=True:=eq_true ⟨_,Tryz.func71,of_decide_eq_false (by kernel_rfl),rfl⟩
theorem bj7:qn Tryz.prog 72=True:=eq_true ⟨_,Tryz.func72,of_decide_eq_false (by kernel_rfl),rfl⟩
theorem bj6:qn Tryz.prog 73=True:=eq_true ⟨_,Tryz.func73,of_decide_eq_false (by kernel_rfl),rfl⟩
theorem bj5:qn Tryz.prog 74=True:=eq_true ⟨_,Tryz.func74,of_decide_eq_false (by kernel_rfl),rfl⟩
theorem bj4:qn Tryz.prog 75=True:=eq_true ⟨_,Tryz.func75,of_decide_eq_false (by kernel_rfl),rfl⟩
theorem bj3:qn Tryz.prog 76=True:=eq_true ⟨_,Tryz.func76,of_decide_eq_false (by kernel_rfl),rfl⟩
theorem bj2:qn Tryz.prog 77=True:=eq_true ⟨_,Tryz.func77,of_decide_eq_false (by kernel_rfl),rfl⟩
theorem bj1:qn Tryz.prog 78=True:=eq_true ⟨_,Tryz.func78,of_decide_eq_false (by kernel_rfl),rfl⟩
theorem bj0:qn Tryz.prog 79=True:=eq_true ⟨_,Tryz.func79,of_decide_eq_false (by kernel_rfl),rfl⟩
theorem bjZ:qn Tryz.prog 80=True:=eq_true ⟨_,Tryz.func80,of_decide_eq_false (by kernel_rfl),rfl⟩
theorem bjY:qn Tryz.prog 81=True:=eq_true ⟨_,Tryz.func81,of_decide_eq_false (by kernel_rfl),rfl⟩
theorem bjX:qn Tryz.prog 82=True:=eq_true ⟨_,Tryz.func82,of_decide_eq_false (by kernel_rfl),rfl⟩
theorem bjW:qn Tryz.prog 83=True:=eq_true ⟨_,Tryz.func83,of_decide_eq_false (by kernel_rfl),rfl⟩
theorem bjV:qn Tryz.prog 84=True:=eq_true ⟨_,Tryz.func84,of_decide_eq_false (by kernel_rfl),rfl⟩
theorem bjU:qn Tryz.prog 85=True:=eq_true ⟨_,Tryz.func85,of_decide_eq_false (by kernel_rfl),rfl⟩
theorem bjT:qn Tryz.prog 86=True:=eq_true ⟨_,Tryz.func86,of_decide_eq_false (by kernel_rfl),rfl⟩
theorem bjS:qn Tryz.prog 87=True:=eq_true ⟨_,Tryz.func87,of_decide_eq_false (by kernel_rfl),rfl⟩
theorem bjR:qn Tryz.prog 88=True:=eq_true ⟨_,Tryz.func88,of_decide_eq_false (by kernel_rfl),rfl⟩
theorem bjQ:qn Tryz.prog 89=True:=eq_true ⟨_,Tryz.func89,of_decide_eq_false (by kernel_rfl),rfl⟩
theorem bjP:qn Tryz.prog 90=True:=eq_true ⟨_,Tryz.func90,of_decide_eq_false (by kernel_rfl),rfl⟩
theorem bjO:qn Tryz.prog 91=True:=eq_true ⟨_,Tryz.func91,of_decide_eq_false (by kernel_rfl),rfl⟩
theorem bjN:qn Tryz.prog 92=True:=eq_true ⟨_,Tryz.func92,of_decide_eq_false (by kernel_rfl),rfl⟩
theorem bjM:qn Tryz.prog 93=True:=eq_true ⟨_,Tryz.func93,of_decide_eq_false (by kernel_rfl),rfl⟩
theorem bjL:qn Tryz.prog 94=True:=eq_true ⟨_,Tryz.func94,of_decide_eq_false (by kernel_rfl),rfl⟩
theorem bjK:qn Tryz.prog 95=True:=eq_true ⟨_,Tryz.func95,of_decide_eq_false (by kernel_rfl),rfl⟩
theorem bjJ:qn Tryz.prog 96=True:=eq_true ⟨_,Tryz.func96,of_decide_eq_false (by kernel_rfl),rfl⟩
theorem bjI:qn Tryz.prog 97=True:=eq_true ⟨_,Tryz.func97,of_decide_eq_false (by kernel_rfl),rfl⟩
theorem bjH:qn Tryz.prog 98=True:=eq_true ⟨_,Tryz.func98,of_decide_eq_false (by kernel_rfl),rfl⟩
theorem bjG:qn Tryz.prog 99=True:=eq_true ⟨_,Tryz.func99,of_decide_eq_false (by kernel_rfl),rfl⟩
theorem bbA:qn Tryz.prog 100=True:=eq_true ⟨_,Tryz.func100,of_decide_eq_false (by kernel_rfl),rfl⟩
theorem bbz:qn Tryz.prog 101=True:=eq_true ⟨_,Tryz.func101,of_decide_eq_false (by kernel_rfl),rfl⟩
theorem bby:qn Tryz.prog 102=True:=eq_true ⟨_,Tryz.func102,of_decide_eq_false (by kernel_rfl),rfl⟩
theorem bbx:qn Tryz.prog 103=True:=eq_true ⟨_,Tryz.func103,of_decide_eq_false (by kernel_rfl),rfl⟩
theorem bbw:qn Tryz.prog 104=True:=eq_true ⟨_,Tryz.func104,of_decide_eq_false (by kernel_rfl),rfl⟩
theorem bbv:qn Tryz.prog 105=True:=eq_true ⟨_,Tryz.func105,of_decide_eq_false (by kernel_rfl),rfl⟩
theorem bbu:qn Tryz.prog 106=True:=eq_true ⟨_,Tryz.func106,of_decide_eq_false (by kernel_rfl),rfl⟩
theorem bbt:qn Tryz.prog 107=True:=eq_true ⟨_,Tryz.func107,of_decide_eq_false (by kernel_rfl),rfl⟩
theorem bbs:qn Tryz.prog 108=True:=eq_true ⟨_,Tryz.func108,of_decide_eq_false (by kernel_rfl),rfl⟩
theorem bbr:qn Tryz.prog 109=True:=eq_true ⟨_,Tryz.func109,of_decide_eq_false (by kernel_rfl),rfl⟩
theorem bbq:qn Tryz.prog 110=True:=eq_true ⟨_,Tryz.func110,of_decide_eq_false (by kernel_rfl),rfl⟩
theorem bbp:qn Tryz.prog 111=True:=eq_true ⟨_,Tryz.func111,of_decide_eq_false (by kernel_rfl),rfl⟩
theorem bbo:qn Tryz.prog 112=True:=eq_true ⟨_,Tryz.func112,of_decide_eq_false (by kernel_rfl),rfl⟩
theorem bbn:qn Tryz.prog 113=True:=eq_true ⟨_,Tryz.func113,of_decide_eq_false (by kernel_rfl),rfl⟩
theorem bbm:qn Tryz.prog 114=True:=eq_true ⟨_,Tryz.func114,of_decide_eq_false (by kernel_rfl),rfl⟩
theorem bbl:qn Tryz.prog 115=True:=eq_true ⟨_,Tryz.func115,of_decide_eq_false (by kernel_rfl),rfl⟩
theorem bbk:qn Tryz.prog 116=True:=eq_true ⟨_,Tryz.func116,of_decide_eq_false (by kernel_rfl),rfl⟩
theorem bbj:qn Tryz.prog 117=True:=eq_true ⟨_,Tryz.func117,of_decide_eq_false (by kernel_rfl),rfl⟩
theorem bbi:qn Tryz.prog 118=True:=eq_true ⟨_,Tryz.func118,of_decide_eq_false (by kernel_rfl),rfl⟩
theorem bbh:qn Tryz.prog 119=True:=eq_true ⟨_,Tryz.func119,of_decide_eq_false (by kernel_rfl),rfl⟩
theorem bbg:qn Tryz.prog 120=True:=eq_true ⟨_,Tryz.func120,of_decide_eq_false (by kernel_rfl),rfl⟩
theorem bbf:qn Tryz.prog 121=True:=eq_true ⟨_,Tryz.func121,of_decide_eq_false (by kernel_rfl),rfl⟩
theorem bbe:qn Tryz.prog 122=True:=eq_true ⟨_,Tryz.func122,of_decide_eq_false (by kernel_rfl),rfl⟩
theorem bbd:qn Tryz.prog 123=True:=eq_true ⟨_,Tryz.func123,of_decide_eq_false (by kernel_rfl),rfl⟩
theorem bbc:qn Tryz.prog 124=True:=eq_true ⟨_,Tryz.func124,of_decide_eq_false (by kernel_rfl),rfl⟩
theorem bbb:qn Tryz.prog 125=True:=eq_true ⟨_,Tryz.func125,of_decide_eq_false (by kernel_rfl),rfl⟩
theorem bba:qn Tryz.prog 126=True:=eq_true ⟨_,Tryz.func126,of_decide_eq_false (by kernel_rfl),rfl⟩
theorem ba9:qn Tryz.prog 127=True:=eq_true ⟨_,Tryz.func127,of_decide_eq_false (by kernel_rfl),rfl⟩
theorem ba8:qn Tryz.prog 128=True:=eq_true ⟨_,Tryz.func128,of_decide_eq_false (by kernel_rfl),rfl⟩
theorem ba7:qn Tryz.prog 129=True:=eq_true ⟨_,Tryz.func129,of_decide_eq_false (by kernel_rfl),rfl⟩
theorem ba6:qn Tryz.prog 130=True:=eq_true ⟨_,Tryz.func130,of_decide_eq_false (by kernel_rfl),rfl⟩
theorem ba5:qn Tryz.prog 131=True:=eq_true ⟨_,Tryz.func131,of_decide_eq_false (by kernel_rfl),rfl⟩
theorem ba4:qn Tryz.prog 132=True:=eq_true ⟨_,Tryz.func132,of_decide_eq_false (by kernel_rfl),rfl⟩
theorem ba3:qn Tryz.prog 133=True:=eq_true ⟨_,Tryz.func133,of_decide_eq_false (by kernel_rfl),rfl⟩
theorem ba2:qn Tryz.prog 134=True:=eq_true ⟨_,Tryz.func134,of_decide_eq_false (by kernel_rfl),rfl⟩
theorem ba1:qn Tryz.prog 135=True:=eq_true ⟨_,Tryz.func135,of_decide_eq_false (by kernel_rfl),rfl⟩
theorem ba0:qn Tryz.prog 136=True:=eq_true ⟨_,Tryz.func136,of_decide_eq_false (by kernel_rfl),rfl⟩
theorem baZ:qn Tryz.prog 137=True:=eq_true ⟨_,Tryz.func137,of_decide_eq_false (by kernel_rfl),rfl⟩
theorem baY:qn Tryz.prog 138=True:=eq_true ⟨_,Tryz.func138,of_decide_eq_false (by kernel_rfl),rfl⟩
theorem baX:qn Tryz.prog 139=True:=eq_true ⟨_,Tryz.func139,of_decide_eq_false (by kernel_rfl),rfl⟩
theorem baW:qn Tryz.prog 140=True:=eq_true ⟨_,Tryz.func140,of_decide_eq_false (by kernel_rfl),rfl⟩
theorem baV:qn Tryz.prog 141=True:=eq_true ⟨_,Tryz.func141,of_decide_eq_false (by kernel_rfl),rfl⟩
theorem baU:qn Tryz.prog 142=True:=eq_true ⟨_,Tryz.func142,of_decide_eq_false (by kernel_rfl),rfl⟩
theorem baT:qn Tryz.prog 143=True:=eq_true ⟨_,Tryz.func143,of_decide_eq_false (by kernel_rfl),rfl⟩
theorem baS:qn Tryz.prog 144=True:=eq_true ⟨_,Tryz.func144,of_decide_eq_false (by kernel_rfl),rfl⟩
theorem baR:qn Tryz.prog 145=True:=eq_true ⟨_,Tryz.func145,of_decide_eq_false (by kernel_rfl),rfl⟩
theorem baQ:qn Tryz.prog 146=True:=eq_true ⟨_,Tryz.func146,of_decide_eq_false (by kernel_rfl),rfl⟩
theorem baP:qn Tryz.prog 147=True:=eq_true ⟨_,Tryz.func147,of_decide_eq_false (by kernel_rfl),rfl⟩
theorem baO:qn Tryz.prog 148=True:=eq_true ⟨_,Tryz.func148,of_decide_eq_false (by kernel_rfl),rfl⟩
theorem baN:qn Tryz.prog 149=True:=eq_true ⟨_,Tryz.func149,of_decide_eq_false (by kernel_rfl),rfl⟩
theorem baM:qn Tryz.prog 150=True:=eq_true ⟨_,Tryz.func150,of_decide_eq_false (by kernel_rfl),rfl⟩
theorem baL:qn Tryz.prog 151=True:=eq_true ⟨_,Tryz.func151,of_decide_eq_false (by kernel_rfl),rfl⟩
theorem baK:qn Tryz.prog 152=True:=eq_true ⟨_,Tryz.func152,of_decide_eq_false (by kernel_rfl),rfl⟩
theorem baJ:qn Tryz.prog 153=True:=eq_true ⟨_,Tryz.func153,of_decide_eq_false (by kernel_rfl),rfl⟩
theorem baI:qn Tryz.prog 154=True:=eq_true ⟨_,Tryz.func154,of_decide_eq_false (by kernel_rfl),rfl⟩
theorem baH:qn Tryz.prog 155=True:=eq_true ⟨_,Tryz.func155,of_decide_eq_false (by kernel_rfl),rfl⟩
theorem baG:qn Tryz.prog 156=True:=eq_true ⟨_,Tryz.func156,of_decide_eq_false (by kernel_rfl),rfl⟩
theorem baF:qn Tryz.prog 157=True:=eq_true ⟨_,Tryz.func157,of_decide_eq_false (by kernel_rfl),rfl⟩
theorem baE:qn Tryz.prog 158=True:=eq_true ⟨_,Tryz.func158,of_decide_eq_false (by kernel_rfl),rfl⟩
theorem baD:qn Tryz.prog 159=True:=eq_true ⟨_,Tryz.func159,of_decide_eq_false (by kernel_rfl),rfl⟩
theorem baC:qn Tryz.prog 160=True:=eq_true ⟨_,Tryz.func160,of_decide_eq_false (by kernel_rfl),rfl⟩
theorem baB:qn Tryz.prog 161=True:=eq_true ⟨_,Tryz.func161,of_decide_eq_false (by kernel_rfl),rfl⟩
theorem baA:qn Tryz.prog 162=True:=eq_true ⟨_,Tryz.func162,of_decide_eq_false (by kernel_rfl),rfl⟩
theorem baz:qn Tryz.prog 163=True:=eq_true ⟨_,Tryz.func163,of_decide_eq_false (by kernel_rfl),rfl⟩
theorem bay:qn Tryz.prog 164=True:=eq_true ⟨_,Tryz.func164,of_decide_eq_false (by kernel_rfl),rfl⟩
theorem bax:qn Tryz.prog 165=True:=eq_true ⟨_,Tryz.func165,of_decide_eq_false (by kernel_rfl),rfl⟩
theorem baw:qn Tryz.prog 166=True:=eq_true ⟨_,Tryz.func166,of_decide_eq_false (by kernel_rfl),rfl⟩
theorem bav:qn Tryz.prog 167=True:=eq_true ⟨_,Tryz.func167,of_decide_eq_false (by kernel_rfl),rfl⟩
theorem bau:qn Tryz.prog 168=True:=eq_true ⟨_,Tryz.func168,of_decide_eq_false (by kernel_rfl),rfl⟩
theorem bat:qn Tryz.prog 169=True:=eq_true ⟨_,Tryz.func169,of_decide_eq_false (by kernel_rfl),rfl⟩
theorem bas:qn Tryz.prog 170=True:=eq_true ⟨_,Tryz.func170,of_decide_eq_false (by kernel_rfl),rfl⟩
theorem bar:qn Tryz.prog 171=True:=eq_true ⟨_,Tryz.func171,of_decide_eq_false (by kernel_rfl),rfl⟩
theorem baq:qn Tryz.prog 172=True:=eq_true ⟨_,Tryz.func172,of_decide_eq_false (by kernel_rfl),rfl⟩
theorem bap:qn Tryz.prog 173=True:=eq_true ⟨_,Tryz.func173,of_decide_eq_false (by kernel_rfl),rfl⟩
theorem bao:qn Tryz.prog 174=True:=eq_true ⟨_,Tryz.func174,of_decide_eq_false (by kernel_rfl),rfl⟩
theorem ban:qn Tryz.prog 175=True:=eq_true ⟨_,Tryz.func175,of_decide_eq_false (by kernel_rfl),rfl⟩
theorem bam:qn Tryz.prog 176=True:=eq_true ⟨_,Tryz.func176,of_decide_eq_false (by kernel_rfl),rfl⟩
theorem bal:qn Tryz.prog 177=True:=eq_true ⟨_,Tryz.func177,of_decide_eq_false (by kernel_rfl),rfl⟩
theorem bak:qn Tryz.prog 178=True:=eq_true ⟨_,Tryz.func178,of_decide_eq_false (by kernel_rfl),rfl⟩
theorem baj:qn Tryz.prog 179=True:=eq_true ⟨_,Tryz.func179,of_decide_eq_false (by kernel_rfl),rfl⟩
theorem bai:qn Tryz.prog 180=True:=eq_true ⟨_,Tryz.func180,of_decide_eq_false (by kernel_rfl),rfl⟩
theorem bah:qn Tryz.prog 181=True:=eq_true ⟨_,Tryz.func181,of_decide_eq_false (by kernel_rfl),rfl⟩
theorem bag:qn Tryz.prog 182=True:=eq_true ⟨_,Tryz.func182,of_decide_eq_false (by kernel_rfl),rfl⟩
theorem baf:qn Tryz.prog 183=True:=eq_true ⟨_,Tryz.func183,of_decide_eq_false (by kernel_rfl),rfl⟩
theorem bae:qn Tryz.prog 184=True:=eq_true ⟨_,Tryz.func184,of_decide_eq_false (by kernel_rfl),rfl⟩
theorem bac:qn Tryz.prog 185=True:=eq_true ⟨_,Tryz.func185,of_decide_eq_false (by kernel_rfl),rfl⟩
theorem bab:qn Tryz.prog 186=True:=eq_true ⟨_,Tryz.func186,of_decide_eq_false (by kernel_rfl),rfl⟩
theorem baa:qn Tryz.prog 187=True:=eq_true ⟨_,Tryz.func187,of_decide_eq_false (by kernel_rfl),rfl⟩
theorem aZ9:qn Tryz.prog 188=True:=eq_true ⟨_,Tryz.func188,of_decide_eq_false (by kernel_rfl),rfl⟩
theorem aZ8:qn Tryz.prog 189=True:=eq_true ⟨_,Tryz.func189,of_decide_eq_false (by kernel_rfl),rfl⟩
theorem aZ7:qn Tryz.prog 190=True:=eq_true ⟨_,Tryz.func190,of_decide_eq_false (by kernel_rfl),rfl⟩
theorem aZ6:qn Tryz.prog 191=True:=eq_true ⟨_,Tryz.func191,of_decide_eq_false (by kernel_rfl),rfl⟩
theorem aZ5:qn Tryz.prog 192=True:=eq_true ⟨_,Tryz.func192,of_decide_eq_false (by kernel_rfl),rfl⟩
theorem aZ4:qn Tryz.prog 193=True:=eq_true ⟨_,Tryz.func193,of_decide_eq_false (by kernel_rfl),rfl⟩
theorem aZ3:qn Tryz.prog 194=True:=eq_true ⟨_,Tryz.func194,of_decide_eq_false (by kernel_rfl),rfl⟩
theorem aZ2:qn Tryz.prog 195=True:=eq_true ⟨_,Tryz.func195,of_decide_eq_false (by kernel_rfl),rfl⟩
theorem aZ1:qn Tryz.prog 196=True:=eq_true ⟨_,Tryz.func196,of_decide_eq_false (by kernel_rfl),rfl⟩
theorem aZ0:qn Tryz.prog 197=True:=eq_true ⟨_,Tryz.func197,of_decide_eq_false (by kernel_rfl),rfl⟩
theorem aZZ:qn Tryz.prog 198=True:=eq_true ⟨_,Tryz.func198,of_decide_eq_false (by kernel_rfl),rfl⟩
theorem aZY:qn Tryz.prog 199=True:=eq_true ⟨_,Tryz.func199,of_decide_eq_false (by kernel_rfl),rfl⟩
theorem aZX:qn Tryz.prog 200=True:=eq_true ⟨_,Tryz.func200,of_decide_eq_false (by kernel_rfl),rfl⟩
theorem aZW:qn Tryz.prog 201=True:=eq_true ⟨_,Tryz.func201,of_decide_eq_false (by kernel_rfl),rfl⟩
theorem aZV:qn Tryz.prog 202=True:=eq_true ⟨_,Tryz.func202,of_decide_eq_false (by kernel_rfl),rfl⟩
theorem aZU:qn Tryz.prog 203=True:=eq_true ⟨_,Tryz.func203,of_decide_eq_false (by kernel_rfl),rfl⟩
theorem aZT:qn Tryz.prog 204=True:=eq_true ⟨_,Tryz.func204,of_decide_eq_false (by kernel_rfl),rfl⟩
theorem aZS:qn Tryz.prog 205=True:=eq_true ⟨_,Tryz.func205,of_decide_eq_false (by kernel_rfl),rfl⟩
theorem aZR:qn Tryz.prog 206=True:=eq_true ⟨_,Tryz.func206,of_decide_eq_false (by kernel_rfl),rfl⟩
theorem aZQ:qn Tryz.prog 207=True:=eq_true ⟨_,Tryz.func207,of_decide_eq_false (by kernel_rfl),rfl⟩
theorem aZP:qn Tryz.prog 208=True:=eq_true ⟨_,Tryz.func208,of_decide_eq_false (by kernel_rfl),rfl⟩
theorem aZO:qn Tryz.prog 209=True:=eq_true ⟨_,Tryz.func209,of_decide_eq_false (by kernel_rfl),rfl⟩
theorem aZN:qn Tryz.prog 210=True:=eq_true ⟨_,Tryz.func210,of_decide_eq_false (by kernel_rfl),rfl⟩
theorem aZM:qn Tryz.prog 211=True:=eq_true ⟨_,Tryz.func211,of_decide_eq_false (by kernel_rfl),rfl⟩
theorem aZL:qn Tryz.prog 212=True:=eq_true ⟨_,Tryz.func212,of_decide_eq_false (by kernel_rfl),rfl⟩
theorem aZK:qn Tryz.prog 213=True:=eq_true ⟨_,Tryz.func213,of_decide_eq_false (by kernel_rfl),rfl⟩
theorem aZJ:qn Tryz.prog 214=True:=eq_true ⟨_,Tryz.func214,of_decide_eq_false (by kernel_rfl),rfl⟩
theorem aZI:qn Tryz.prog 215=True:=eq_true ⟨_,Tryz.func215,of_decide_eq_false (by kernel_rfl),rfl⟩
theorem aZH:qn Tryz.prog 216=True:=eq_true ⟨_,Tryz.func216,of_decide_eq_false (by kernel_rfl),rfl⟩
theorem aZG:qn Tryz.prog 217=True:=eq_true ⟨_,Tryz.func217,of_decide_eq_false (by kernel_rfl),rfl⟩
theorem aZF:qn Tryz.prog 218=True:=eq_true ⟨_,Tryz.func218,of_decide_eq_false (by kernel_rfl),rfl⟩
theorem aZE:qn Tryz.prog 219=True:=eq_true ⟨_,Tryz.func219,of_decide_eq_false (by kernel_rfl),rfl⟩
theorem aZD:qn Tryz.prog 220=True:=eq_true ⟨_,Tryz.func220,of_decide_eq_false (by kernel_rfl),rfl⟩
theorem aZC:qn Tryz.prog 221=True:=eq_true ⟨_,Tryz.func221,of_decide_eq_false (by kernel_rfl),rfl⟩
theorem aZB:qn Tryz.prog 222=True:=eq_true ⟨_,Tryz.func222,of_decide_eq_false (by kernel_rfl),rfl⟩
theorem aZA:qn Tryz.prog 223=True:=eq_true ⟨_,Tryz.func223,of_decide_eq_false (by kernel_rfl),rfl⟩
theorem aZz:qn Tryz.prog 224=True:=eq_true ⟨_,Tryz.func224,of_decide_eq_false (by kernel_rfl),rfl⟩
theorem aZy:qn Tryz.prog 225=True:=eq_true ⟨_,Tryz.func225,of_decide_eq_false (by kernel_rfl),rfl⟩
theorem aZx:qn Tryz.prog 226=True:=eq_true ⟨_,Tryz.func226,of_decide_eq_false (by kernel_rfl),rfl⟩
theorem aZw:qn Tryz.prog 227=True:=eq_true ⟨_,Tryz.func227,of_decide_eq_false (by kernel_rfl),rfl⟩
theorem aZv:qn Tryz.prog 228=True:=eq_true ⟨_,Tryz.func228,of_decide_eq_false (by kernel_rfl),rfl⟩
theorem aZu:qn Tryz.prog 229=True:=eq_true ⟨_,Tryz.func229,of_decide_eq_false (by kernel_rfl),rfl⟩
theorem aZt:qn Tryz.prog 230=True:=eq_true ⟨_,Tryz.func230,of_decide_eq_false (by kernel_rfl),rfl⟩
theorem aZs:qn Tryz.prog 231=True:=eq_true ⟨_,Tryz.func231,of_decide_eq_false (by kernel_rfl),rfl⟩
theorem aZr:qn Tryz.prog 232=True:=eq_true ⟨_,Tryz.func232,of_decide_eq_false (by kernel_rfl),rfl⟩
theorem aZq:qn Tryz.prog 233=True:=eq_true ⟨_,Tryz.func233,of_decide_eq_false (by kernel_rfl),rfl⟩
theorem aZp:qn Tryz.prog 234=True:=eq_true ⟨_,Tryz.func234,of_decide_eq_false (by kernel_rfl),rfl⟩
theorem aZo:qn Tryz.prog 235=True:=eq_true ⟨_,Tryz.func235,of_decide_eq_false (by kernel_rfl),rfl⟩
theorem aZn:qn Tryz.prog 236=True:=eq_true ⟨_,Tryz.func236,of_decide_eq_false (by kernel_rfl),rfl⟩
theorem aZm:qn Tryz.prog 237=True:=eq_true ⟨_,Tryz.func237,of_decide_eq_false (by kernel_rfl),rfl⟩
theorem aZl:qn Tryz.prog 238=True:=eq_true ⟨_,Tryz.func238,of_decide_eq_false (by kernel_rfl),rfl⟩
theorem aZk:qn Tryz.prog 239=True:=eq_true ⟨_,Tryz.func239,of_decide_eq_false (by kernel_rfl),rfl⟩
theorem aZj:qn Tryz.prog 240=True:=eq_true ⟨_,Tryz.func240,of_decide_eq_false (by kernel_rfl),rfl⟩
theorem aZi:qn Tryz.prog 241=True:=eq_true ⟨_,Tryz.func241,of_decide_eq_false (by kernel_rfl),rfl⟩
theorem aZh:qn Tryz.prog 242=True:=eq_true ⟨_,Tryz.func242,of_decide_eq_false (by kernel_rfl),rfl⟩
theorem aZg:qn Tryz.prog 243=True:=eq_true ⟨_,Tryz.func243,of_decide_eq_false (by kernel_rfl),rfl⟩
theorem aZf:qn Tryz.prog 244=True:=eq_true ⟨_,Tryz.func244,of_decide_eq_false (by kernel_rfl),rfl⟩
theorem aZe:qn Tryz.prog 245=True:=eq_true ⟨_,Tryz.func245,of_decide_eq_false (by kernel_rfl),rfl⟩
theorem aZd:qn Tryz.prog 246=True:=eq_true ⟨_,Tryz.func246,of_decide_eq_false (by kernel_rfl),rfl⟩
theorem aZc:qn Tryz.prog 247=True:=eq_true ⟨_,Tryz.func247,of_decide_eq_false (by kernel_rfl),rfl⟩
theorem aZb:qn Tryz.prog 248=True:=eq_true ⟨_,Tryz.func248,of_decide_eq_false (by kernel_rfl),rfl⟩
theorem aZa:qn Tryz.prog 249=True:=eq_true ⟨_,Tryz.func249,of_decide_eq_false (by kernel_rfl),rfl⟩
theorem aY9:qn Tryz.prog 250=True:=eq_true ⟨_,Tryz.func250,of_decide_eq_false (by kernel_rfl),rfl⟩
theorem aY8:qn Tryz.prog 251=True:=eq_true ⟨_,Tryz.func251,of_decide_eq_false (by kernel_rfl),rfl⟩
theorem aY7:qn Tryz.prog 252=True:=eq_true ⟨_,Tryz.func252,of_decide_eq_false (by kernel_rfl),rfl⟩
theorem aY6:qn Tryz.prog 253=True:=eq_true ⟨_,Tryz.func253,of_decide_eq_false (by kernel_rfl),rfl⟩
theorem aY5:qn Tryz.prog 254=True:=eq_true ⟨_,Tryz.func254,of_decide_eq_false (by kernel_rfl),rfl⟩
theorem aY4:qn Tryz.prog 255=True:=eq_true ⟨_,Tryz.func255,of_decide_eq_false (by kernel_rfl),rfl⟩
theorem aY3:qn Tryz.prog 256=True:=eq_true ⟨_,Tryz.func256,of_decide_eq_false (by kernel_rfl),rfl⟩
theorem aY2:qn Tryz.prog 257=True:=eq_true ⟨_,Tryz.func257,of_decide_eq_false (by kernel_rfl),rfl⟩
theorem aY1:qn Tryz.prog 258=True:=eq_true ⟨_,Tryz.func258,of_decide_eq_false (by kernel_rfl),rfl⟩
theorem aY0:qn Tryz.prog 259=True:=eq_true ⟨_,Tryz.func259,of_decide_eq_false (by kernel_rfl),rfl⟩
theorem aYZ:qn Tryz.prog 260=True:=eq_true ⟨_,Tryz.func260,of_decide_eq_false (by kernel_rfl),rfl⟩
theorem aYY:qn Tryz.prog 261=True:=eq_true ⟨_,Tryz.func261,of_decide_eq_false (by kernel_rfl),rfl⟩
theorem aYX:qn Tryz.prog 262=True:=eq_true ⟨_,Tryz.func262,of_decide_eq_false (by kernel_rfl),rfl⟩
theorem aYW:qn Tryz.prog 263=True:=eq_true ⟨_,Tryz.func263,of_decide_eq_false (by kernel_rfl),rfl⟩
theorem aYV:qn Tryz.prog 264=True:=eq_true ⟨_,Tryz.func264,of_decide_eq_false (by kernel_rfl),rfl⟩
theorem aYU:qn Tryz.prog 265=True:=eq_true ⟨_,Tryz.func265,of_decide_eq_false (by kernel_rfl),rfl⟩
theorem aYT:qn Tryz.prog 266=True:=eq_true ⟨_,Tryz.func266,of_decide_eq_false (by kernel_rfl),rfl⟩
theorem aYS:qn Tryz.prog 267=True:=eq_true ⟨_,Tryz.func267,of_decide_eq_false (by kernel_rfl),rfl⟩
theorem aYR:qn Tryz.prog 268=True:=eq_true ⟨_,Tryz.func268,of_decide_eq_false (by kernel_rfl),rfl⟩
theorem aYQ:qn Tryz.prog 269=True:=eq_true ⟨_,Tryz.func269,of_decide_eq_false (by kernel_rfl),rfl⟩
theorem aYP:qn Tryz.prog 270=True:=eq_true ⟨_,Tryz.func270,of_decide_eq_false (by kernel_rfl),rfl⟩
theorem aYO:qn Tryz.prog 271=True:=eq_true ⟨_,Tryz.func271,of_decide_eq_false (by kernel_rfl),rfl⟩
theorem aYN:qn Tryz.prog 272=True:=eq_true ⟨_,Tryz.func272,of_decide_eq_false (by kernel_rfl),rfl⟩
theorem aYM:qn Tryz.prog 273=True:=eq_true ⟨_,Tryz.func273,of_decide_eq_false (by kernel_rfl),rfl⟩
theorem aYL:qn Tryz.prog 274=True:=eq_true ⟨_,Tryz.func274,of_decide_eq_false (by kernel_rfl),rfl⟩
theorem aYK:qn Tryz.prog 275=True:=eq_true ⟨_,Tryz.func275,of_decide_eq_false (by kernel_rfl),rfl⟩
theorem aYJ:qn Tryz.prog 276=True:=eq_true ⟨_,Tryz.func276,of_decide_eq_false (by kernel_rfl),rfl⟩
theorem aYI:qn Tryz.prog 277=True:=eq_true ⟨_,Tryz.func277,of_decide_eq_false (by kernel_rfl),rfl⟩
theorem aYH:qn Tryz.prog 278=True:=eq_true ⟨_,Tryz.func278,of_decide_eq_false (by kernel_rfl),rfl⟩
theorem aYG:qn Tryz.prog 279=True:=eq_true ⟨_,Tryz.func279,of_decide_eq_false (by kernel_rfl),rfl⟩
theorem aYF:qn Tryz.prog 280=True:=eq_true ⟨_,Tryz.func280,of_decide_eq_false (by kernel_rfl),rfl⟩
theorem aYE:qn Tryz.prog 281=True:=eq_true ⟨_,Tryz.func281,of_decide_eq_false (by kernel_rfl),rfl⟩
theorem aYD:qn Tryz.prog 282=True:=eq_true ⟨_,Tryz.func282,of_decide_eq_false (by kernel_rfl),rfl⟩
theorem aYC:qn Tryz.prog 283=True:=eq_true ⟨_,Tryz.func283,of_decide_eq_false (by kernel_rfl),rfl⟩
theorem aYB:qn Tryz.prog 284=True:=eq_true ⟨_,Tryz.func284,of_decide_eq_false (by kernel_rfl),rfl⟩
theorem aYA:qn Tryz.prog 285=True:=eq_true ⟨_,Tryz.func285,of_decide_eq_false (by kernel_rfl),rfl⟩
theorem aYz:qn Tryz.prog 286=True:=eq_true ⟨_,Tryz.func286,of_decide_eq_false (by kernel_rfl),rfl⟩
theorem aYy:qn Tryz.prog 287=True:=eq_true ⟨_,Tryz.func287,of_decide_eq_false (by kernel_rfl),rfl⟩
theorem aYx:qn Tryz.prog 288=True:=eq_true ⟨_,Tryz.func288,of_decide_eq_false (by kernel_rfl),rfl⟩
theorem aYw:qn Tryz.prog 289=True:=eq_true ⟨_,Tryz.func289,of_decide_eq_false (by kernel_rfl),rfl⟩
theorem aYv:qn Tryz.prog 290=True:=eq_true ⟨_,Tryz.func290,of_decide_eq_false (by kernel_rfl),rfl⟩
theorem aYu:qn Tryz.prog 291=True:=eq_true ⟨_,Tryz.func291,of_decide_eq_false (by kernel_rfl),rfl⟩
theorem aYt:qn Tryz.prog 292=True:=eq_true ⟨_,Tryz.func292,of_decide_eq_false (by kernel_rfl),rfl⟩
theorem aYs:qn Tryz.prog 293=True:=eq_true ⟨_,Tryz.func293,of_decide_eq_false (by kernel_rfl),rfl⟩
theorem aYr:qn Tryz.prog 294=True:=eq_true ⟨_,Tryz.func294,of_decide_eq_false (by kernel_rfl),rfl⟩
theorem aYq:qn Tryz.prog 295=True:=eq_true ⟨_,Tryz.func295,of_decide_eq_false (by kernel_rfl),rfl⟩
theorem aYp:qn Tryz.prog 296=True:=eq_true ⟨_,Tryz.func296,of_decide_eq_false (by kernel_rfl),rfl⟩
theorem aYo:qn Tryz.prog 297=True:=eq_true ⟨_,Tryz.func297,of_decide_eq_false (by kernel_rfl),rfl⟩
theorem aYn:qn Tryz.prog 298=True:=eq_true ⟨_,Tryz.func298,of_decide_eq_false (by kernel_rfl),rfl⟩
theorem aYm:qn Tryz.prog 299=True:=eq_true ⟨_,Tryz.func299,of_decide_eq_false (by kernel_rfl),rfl⟩
theorem aYl:qn Tryz.prog 300=True:=eq_true ⟨_,Tryz.func300,of_decide_eq_false (by kernel_rfl),rfl⟩
theorem aYk:qn Tryz.prog 301=True:=eq_true ⟨_,Tryz.func301,of_decide_eq_false (by kernel_rfl),rfl⟩
theorem aYj:qn Tryz.prog 302=True:=eq_true ⟨_,Tryz.func302,of_decide_eq_false (by kernel_rfl),rfl⟩
theorem aYi:qn Tryz.prog 303=True:=eq_true ⟨_,Tryz.func303,of_decide_eq_false (by kernel_rfl),rfl⟩
theorem aYh:qn Tryz.prog 304=True:=eq_true ⟨_,Tryz.func304,of_decide_eq_false (by kernel_rfl),rfl⟩
theorem aYg:qn Tryz.prog 305=True:=eq_true ⟨_,Tryz.func305,of_decide_eq_false (by kernel_rfl),rfl⟩
theorem aYf:qn Tryz.prog 306=True:=eq_true ⟨_,Tryz.func306,of_decide_eq_false (by kernel_rfl),rfl⟩
theorem aYe:qn Tryz.prog 307=True:=eq_true ⟨_,Tryz.func307,of_decide_eq_false (by kernel_rfl),rfl⟩
theorem aYd:qn Tryz.prog 308=True:=eq_true ⟨_,Tryz.func308,of_decide_eq_false (by kernel_rfl),rfl⟩
theorem aYc:qn Tryz.prog 309=True:=eq_true ⟨_,Tryz.func309,of_decide_eq_false (by kernel_rfl),rfl⟩
theorem aYb:qn Tryz.prog 310=True:=eq_true ⟨_,Tryz.func310,of_decide_eq_false (by kernel_rfl),rfl⟩
theorem aYa:qn Tryz.prog 311=True:=eq_true ⟨_,Tryz.func311,of_decide_eq_false (by kernel_rfl),rfl⟩
theorem aX9:qn Tryz.prog 312=True:=eq_true ⟨_,Tryz.func312,of_decide_eq_false (by kernel_rfl),rfl⟩
theorem aX8:qn Tryz.prog 313=True:=eq_true ⟨_,Tryz.func313,of_decide_eq_false (by kernel_rfl),rfl⟩
theorem aX7:qn Tryz.prog 314=True:=eq_true ⟨_,Tryz.func314,of_decide_eq_false (by kernel_rfl),rfl⟩
theorem aX6:qn Tryz.prog 315=True:=eq_true ⟨_,Tryz.func315,of_decide_eq_false (by kernel_rfl),rfl⟩
theorem aX5:qn Tryz.prog 316=True:=eq_true ⟨_,Tryz.func316,of_decide_eq_false (by kernel_rfl),rfl⟩
theorem aX4:qn Tryz.prog 317=True:=eq_true ⟨_,Tryz.func317,of_decide_eq_false (by kernel_rfl),rfl⟩
theorem aX3:qn Tryz.prog 318=True:=eq_true ⟨_,Tryz.func318,of_decide_eq_false (by kernel_rfl),rfl⟩
theorem aX2:qn Tryz.prog 319=True:=eq_true ⟨_,Tryz.func319,of_decide_eq_false (by kernel_rfl),rfl⟩
theorem aX1:qn Tryz.prog 320=True:=eq_true ⟨_,Tryz.func320,of_decide_eq_false (by kernel_rfl),rfl⟩
theorem aX0:qn Tryz.prog 321=True:=eq_true ⟨_,Tryz.func321,of_decide_eq_false (by kernel_rfl),rfl⟩
theorem aXZ:qn Tryz.prog 322=True:=eq_true ⟨_,Tryz.func322,of_decide_eq_false (by kernel_rfl),rfl⟩
theorem aXY:qn Tryz.prog 323=True:=eq_true ⟨_,Tryz.func323,of_decide_eq_false (by kernel_rfl),rfl⟩
theorem aXX:qn Tryz.prog 324=True:=eq_true ⟨_,Tryz.func324,of_decide_eq_false (by kernel_rfl),rfl⟩
theorem aXW:qn Tryz.prog 325=True:=eq_true ⟨_,Tryz.func325,of_decide_eq_false (by kernel_rfl),rfl⟩
theorem aXV:qn Tryz.prog 326=True:=eq_true ⟨_,Tryz.func326,of_decide_eq_false (by kernel_rfl),rfl⟩
theorem aXU:qn Tryz.prog 327=True:=eq_true ⟨_,Tryz.func327,of_decide_eq_false (by kernel_rfl),rfl⟩
theorem aXT:qn Tryz.prog 328=True:=eq_true ⟨_,Tryz.func328,of_decide_eq_false (by kernel_rfl),rfl⟩
theorem aXS:qn Tryz.prog 329=True:=eq_true ⟨_,Tryz.func329,of_decide_eq_false (by kernel_rfl),rfl⟩
theorem aXR:qn Tryz.prog 330=True:=eq_true ⟨_,Tryz.func330,of_decide_eq_false (by kernel_rfl),rfl⟩
theorem aXQ:qn Tryz.prog 331=True:=eq_true ⟨_,Tryz.func331,of_decide_eq_false (by kernel_rfl),rfl⟩
theorem aXP:qn Tryz.prog 354=True:=eq_true ⟨_,Tryz.func354,of_decide_eq_false (by kernel_rfl),rfl⟩
attribute [go_sem] ty1 aVn aPW aCh ara aVl aVm ty2 aVk aPx
attribute [go_sem] ax4 apB aVi aVj ty3 aVh aO8 axJ apl aVf
attribute [go_sem] aVg ty4 aVe aOD axy ao9 aVc aVd ty5 aVb
attribute [go_sem] aOh axq ao1 aU9 aVa ty6 aU8 aNP axg aoR
attribute [go_sem] aU6 aU7 ty7 aU5 aNk aw5 aoE aU3 aU4 bbJ
attribute [go_sem] bjh bbI bjg bbH bjf bbG bje boS ty8 aU2
attribute [go_sem] aMP awT aoq aU0 aU1 bbF bjd bbE bjc bbD
attribute [go_sem] bjb bbC bja boR ty9 aUZ aMn awJ aog aUX
attribute [go_sem] aUY bng aP5 aGu asD amu aP3 aP4 bne aP2
attribute [go_sem] aFZ ass amj aP0 aP1 bnd aPZ aFx asi al9
attribute [go_sem] aPX aPY bnc aPV aBr aqS akI aPT aPU bnb
attribute [go_sem] aPS aAW aqH akx aPQ aPR biZ bna aPP aAu
attribute [go_sem] aqx akn aPN aPO biY bm9 aPM az2 aqm akd
attribute [go_sem] aPK aPL aTg aWB aTf aWA blD bm8 aPJ azA
attribute [go_sem] aqb aj3 aPH aPI aTe aWz aTd aWy blC bm7
attribute [go_sem] aPG ayK apT ajL aPE aPF bm6 aPD ayr apM
attribute [go_sem] ajE aPB aPC biX bm5 aPA ax5 apC ajw aPy
attribute [go_sem] aPz aTc aWx aTb aWw blB bm4 aPw axR apv
attribute [go_sem] ajr aPu aPv aTa aWv aS9 aWu blA bm3 aPt
attribute [go_sem] axQ apu ajq aPr aPs bm2 aPq axP apt ajp
attribute [go_sem] aPo aPp bm1 aPn axO apr ajo aPl aPm bm0
attribute [go_sem] aPk axN apq ajn aPi aPj biW bmZ aPh axM
attribute [go_sem] app ajm aPf aPg aS8 aWt blz bmY aPe axL
attribute [go_sem] apo ajl aPc aPd aS7 aWs bly bmX aPb axK
attribute [go_sem] apm ajk aO9 aPa aS6 aWr aS5 aWq blx bmW
attribute [go_sem] aO7 axI apk ajj aO5 aO6 aS4 aWp aS3 aWo
attribute [go_sem] blw bmV aO4 axH api aji aO2 aO3 aS2 aWn
attribute [go_sem] aS1 aWm blv bmU aO1 axG aph ajh aOZ aO0
attribute [go_sem] aS0 aWl aSZ aWk blu bmT aOY axF apg ajg
attribute [go_sem] aOW aOX bmS aOV axE apf ajf aOT aOU bmR
attribute [go_sem] aOS axD ape aje aOQ aOR bmQ aOP axC apd
attribute [go_sem] ajd aON aOO bmP aOM axB apc ajc aOK aOL
attribute [go_sem] bmO aOJ axA apb ajb aOH aOI bmN aOG axz
attribute [go_sem] apa aja aOE aOF bmM aOC axx ao8 ai9 aOA
attribute [go_sem] aOB bmL aOz axw ao7 ai8 aOx aOy bmK aOw
attribute [go_sem] axv ao6 ai7 aOu aOv bmJ aOt axu ao5 ai6
attribute [go_sem] aOr aOs bmI aOq axt ao4 ai5 aOo aOp bmH
attribute [go_sem] aOn axs ao3 ai4 aOl aOm bmG aOk axr ao2
attribute [go_sem] ai3 aOi aOj bmF aOg axp ao0 ai2 aOe aOf
attribute [go_sem] bmE aOd axo aoZ ai1 aOb aOc bmD aOa axn
attribute [go_sem] aoY ai0 aN8 aN9 bmC aN7 axm aoX aiZ aN5
attribute [go_sem] aN6 bmB aN4 axl aoW aiY aN2 aN3 bmA aN1
attribute [go_sem] axk aoV aiX aNZ aN0 bmz aNY axj aoU aiW
attribute [go_sem] aNW aNX bmy aNV axi aoT aiV aNT aNU bmx
attribute [go_sem] aNS axh aoS aiU aNQ aNR bmw aNO axf aoQ
attribute [go_sem] aiT aNM aNN bmv aNL axe aoP aiS aNJ aNK
attribute [go_sem] bmu aNI axd aoO aiR aNG aNH bmt aNF axc
attribute [go_sem] aoN aiQ aND aNE bms aNC axb aoM aiP aNA
attribute [go_sem] aNB biV bmr aNz axa aoK aiO aNx aNy aSY
attribute [go_sem] aWj aSX aWi bls bmq aNw aw9 aoI aiN aNu
attribute [go_sem] aNv aSW aWh aSV aWg blr bmp aNt aw8 aoH
attribute [go_sem] aiM aNr aNs bmo aNq aw7 aoG aiL aNo aNp
attribute [go_sem] bmn aNn aw6 aoF aiK aNl aNm bmm aNj aw4
attribute [go_sem] aoD aiJ aNh aNi bml aNg aw3 aoC aiI aNe
attribute [go_sem] aNf bmk aNd aw2 aoB aiH aNb aNc bmj aNa
attribute [go_sem] aw1 aoA aiG aM8 aM9 aSU aWf blq bmi aM7
attribute [go_sem] aw0 aoy aiF aM5 aM6 aST aWe aSS aWd blp
attribute [go_sem] bmh aM4 awZ aox aiE aM2 aM3 aSR aWc aSQ
attribute [go_sem] aWb blo bmg aM1 awY aov aiD aMZ aM0 aSP
attribute [go_sem] aWa aSO aV9 bln bmf aMY awX aou aiC aMW
attribute [go_sem] aMX aSN aV8 aSM aV7 blm bme aMV awW aot
attribute [go_sem] aiB aMT aMU bmd aMS awU aor aiA aMQ aMR
attribute [go_sem] aSL aV6 aSK aV5 bll bmc aMO awS aop aiz
attribute [go_sem] aMM aMN aSJ aV4 aSI aV3 blk bmb aML awR
attribute [go_sem] aoo aiy aMJ aMK bma aMI awQ aon aix aMG
attribute [go_sem] aMH bl9 aMF awP aom aiw aMD aME bl8 aMC
attribute [go_sem] awO aol aiv aMA aMB bl7 aMz awN aok aiu
attribute [go_sem] aMx aMy bl6 aMw awM aoj ait aMu aMv bl5
attribute [go_sem] aMt awL aoi ais aMr aMs bl4 aMq awK aoh
attribute [go_sem] air aMo aMp bf0 aGV asM amD afN aGT aGU
attribute [go_sem] bfZ aGS asL amC afM aGQ aGR bfY aGP asK
attribute [go_sem] amB afL aGN aGO bfX aGM asJ amA afK aGK
attribute [go_sem] aGL bfW aGJ asI amz afJ aGH aGI aVI bfV
attribute [go_sem] aGG asH amy afI aGE aGF aI8 aQ8 aI7 aQ7
attribute [go_sem] bcn bfU aGD asG amx afH aGB aGC aI6 aQ6
attribute [go_sem] aI5 aQ5 bcm bfT aGA asF amw afG aGy aGz
attribute [go_sem] aVH bfS aGx asE amv afF aGv aGw aI4 aQ4
attribute [go_sem] aI3 aQ3 bcl bfR aGt asC amt afE aGr aGs
attribute [go_sem] aI2 aQ2 aI1 aQ1 bck bfQ aGq asB ams afD
attribute [go_sem] aGo aGp bfP aGn asA amr afC aGl aGm bfO
attribute [go_sem] aGk asz amq afB aGi aGj bfN aGh asy amp
attribute [go_sem] afA aGf aGg bfM aGe asx amo afz aGc aGd
attribute [go_sem] bfL aGb asw amn afy aF9 aGa aI0 aQ0 aIZ
attribute [go_sem] aQZ aIY aQY bcj bfK aF8 asv amm afx aF6
attribute [go_sem] aF7 aIX aQX aIW aQW aIV aQV bci bfJ aF5
attribute [go_sem] asu aml afw aF3 aF4 bfI aF2 ast amk afv
attribute [go_sem] aF0 aF1 bfH aFY asr ami afu aFW aFX bfG
attribute [go_sem] aFV asq amh aft aFT aFU bfF aFS asp amg
attribute [go_sem] afs aFQ aFR bfE aFP aso amf afr aFN aFO
attribute [go_sem] bfD aFM asn ame afq aFK aFL aIU aQU aIT
attribute [go_sem] aQT bch bfC aFJ asm amd afp aFH aFI aIS
attribute [go_sem] aQS aIR aQR bcg bfB aFG asl amc afo aFE
attribute [go_sem] aFF bfA aFD ask amb afn aFB aFC bfz aFA
attribute [go_sem] asj ama afm aFy aFz bfy aFw ash al8 afl
attribute [go_sem] aFu aFv bfx aFt asg al7 afk aFr aFs bfw
attribute [go_sem] aFq asf al6 afj aFo aFp bfv aFn ase al5
attribute [go_sem] afi aFl aFm bfu aFk asd al4 afh aFi aFj
attribute [go_sem] bft aFh asc al3 afg aFf aFg bfs aFe asb
attribute [go_sem] al2 aff aFc aFd bfr aFb asa al1 afe aE9
attribute [go_sem] aFa bfq aE8 ar9 al0 afd aE6 aE7 bfp aE5
attribute [go_sem] ar8 alZ afc aE3 aE4 bfo aE2 ar7 alY afb
attribute [go_sem] aE0 aE1 bfn aEZ ar6 alX afa aEX aEY bfm
attribute [go_sem] aEW ar5 alW ae9 aEU aEV bfl aET ar4 alV
attribute [go_sem] ae8 aER aES bfk aEQ ar3 alU ae7 aEO aEP
attribute [go_sem] bfj aEN ar2 alT ae6 aEL aEM bfi aEK ar1
attribute [go_sem] alS ae5 aEI aEJ bfh aEH ar0 alR ae4 aEF
attribute [go_sem] aEG bfg aEE arZ alQ ae3 aEC aED bff aEB
attribute [go_sem] arY alP ae2 aEz aEA bfe aEy arX alO ae1
attribute [go_sem] aEw aEx bfd aEv arW alN ae0 aEt aEu bfc
attribute [go_sem] aEs arV alM aeZ aEq aEr bfb aEp arU alL
attribute [go_sem] aeY aEn aEo bfa aEm arT alK aeX aEk aEl
attribute [go_sem] be9 aEj arS alJ aeW aEh aEi be8 aEg arR
attribute [go_sem] alI aeV aEe aEf be7 aEd arQ alH aeU aEb
attribute [go_sem] aEc be6 aEa arP alG aeT aD8 aD9 be5 aD7
attribute [go_sem] arO alD aeS aD5 aD6 be4 aD4 arN alC aeR
attribute [go_sem] aD2 aD3 be3 aD1 arM alB aeQ aDZ aD0 be2
attribute [go_sem] aDY arL alz aeP aDW aDX be1 aDV arK aly
attribute [go_sem] aeO aDT aDU be0 aDS arJ alx aeN aDQ aDR
attribute [go_sem] beZ aDP arI alw aeM aDN aDO beY aDM arH
attribute [go_sem] alv aeL aDK aDL beX aDJ arG alu aeK aDH
attribute [go_sem] aDI beW aDG arF alt aeJ aDE aDF beV aDD
attribute [go_sem] arE als aeI aDB aDC beU aDA arD alr aeH
attribute [go_sem] aDy aDz beT aDx arC alq aeG aDv aDw beS
attribute [go_sem] aDu arB alp aeF aDs aDt beR aDr arA alo
attribute [go_sem] aeE aDp aDq beQ aDo arz aln aeD aDm aDn
attribute [go_sem] beP aDl ary alm aeC aDj aDk aIQ aQQ aIP
attribute [go_sem] aQP aIO aQO bcf beO aDi arx alk aeB aDg
attribute [go_sem] aDh aIN aQN aIM aQM aIL aQL bce beN aDf
attribute [go_sem] arw alj aeA aDd aDe beM aDc arv ali aez
attribute [go_sem] aDa aDb beL aC9 aru alh aey aC7 aC8 beK
attribute [go_sem] aC6 art alg aex aC4 aC5 beJ aC3 ars alf
attribute [go_sem] aew aC1 aC2 beI aC0 arq ale aev aCY aCZ
attribute [go_sem] beH aCX arp ald aeu aCV aCW beG aCU aro
attribute [go_sem] alc aet aCS aCT beF aCR arn alb aes aCP
attribute [go_sem] aCQ beE aCO arm ala aer aCM aCN beD aCL
attribute [go_sem] arl ak9 aeq aCJ aCK beC aCI ark ak8 aep
attribute [go_sem] aCG aCH beB aCF arj ak7 aeo aCD aCE beA
attribute [go_sem] aCC ari ak6 aen aCA aCB bez aCz arh ak5
attribute [go_sem] aem aCx aCy bey aCw arg ak4 ael aCu aCv
attribute [go_sem] bex aCt arf ak3 aek aCr aCs aVG bew aCq
attribute [go_sem] ard ak2 aej aCo aCp bev aCn arc ak1 aei
attribute [go_sem] aCl aCm beu aCk arb ak0 aeh aCi aCj bet
attribute [go_sem] aCg aq9 akZ aeg aCe aCf bes aCd aq8 akY
attribute [go_sem] aef aCb aCc ber aCa aq7 akX aee aB8 aB9
attribute [go_sem] bep aB7 aq6 akW aed aB5 aB6 beo aB4 aq5
attribute [go_sem] akV aec aB2 aB3 ben aB1 aq4 akU aeb aBZ
attribute [go_sem] aB0 bem aBY aq3 akT aea aBW aBX bel aBV
attribute [go_sem] aq2 akS ad9 aBT aBU bek aBS aq1 akR ad8
attribute [go_sem] aBQ aBR bej aBP aq0 akQ ad7 aBN aBO bei
attribute [go_sem] aBM aqZ akP ad6 aBK aBL beh aBJ aqY akO
attribute [go_sem] ad5 aBH aBI beg aBG aqX akN ad4 aBE aBF
attribute [go_sem] bef aBD aqW akM ad3 aBB aBC bee aBA aqV
attribute [go_sem] akL ad2 aBy aBz bed aBx aqU akK ad1 aBv
attribute [go_sem] aBw bec aBu aqT akJ ad0 aBs aBt beb aBq
attribute [go_sem] aqR akH adY aBo aBp bea aBn aqQ akG adX
attribute [go_sem] aBl aBm bd9 aBk aqP akF adW aBi aBj bd8
attribute [go_sem] aBh aqO akE adV aBf aBg bd7 aBe aqN akD
attribute [go_sem] adU aBc aBd bd6 aBb aqM akC adT aA9 aBa
attribute [go_sem] bd5 aA8 aqL akB adR aA6 aA7 bd4 aA5 aqK
attribute [go_sem] akA adQ aA3 aA4 bd3 aA2 aqJ akz adP aA0
attribute [go_sem] aA1 bd2 aAZ aqI aky adO aAX aAY bd1 aAV
attribute [go_sem] aqG akw adN aAT aAU bd0 aAS aqF akv adL
attribute [go_sem] aAQ aAR bdZ aAP aqE aku adK aAN aAO bdY
attribute [go_sem] aAM aqD akt adJ aAK aAL bdX aAJ aqC aks
attribute [go_sem] adI aAH aAI bdW aAG aqB akr adH aAE aAF
attribute [go_sem] bdV aAD aqA akq adG aAB aAC bdU aAA aqz
attribute [go_sem] akp adF aAy aAz bdT aAx aqy ako adE aAv
attribute [go_sem] aAw bdS aAt aqv akm adD aAr aAs bdR aAq
attribute [go_sem] aqu akl adC aAo aAp bdQ aAn aqt akk adB
attribute [go_sem] aAl aAm bdP aAk aqs akj adA aAi aAj bdO
attribute [go_sem] aAh aqr aki adz aAf aAg bdN aAe aqq akh
attribute [go_sem] ady aAc aAd bdM aAb aqp akg adx az9 aAa
attribute [go_sem] bdL az8 aqo akf adw az6 az7 bdK az5 aqn
attribute [go_sem] ake adv az3 az4 bdJ az1 aqk akc adu azZ
attribute [go_sem] az0 bdI azY aqj akb adt azW azX bdH azV
attribute [go_sem] aqi aka ads azT azU bdG azS aqh aj9 adr
attribute [go_sem] azQ azR bdF azP aqg aj8 adq azN azO bdE
attribute [go_sem] azM aqf aj7 adp azK azL bdD azJ aqe aj6
attribute [go_sem] ado azH azI bdC azG aqd aj5 adn azE azF
attribute [go_sem] bdB azD aqc aj4 adm azB azC bdA azz aqa
attribute [go_sem] aj2 adl azx azy bdz azw ap9 aj1 adk azu
attribute [go_sem] azv bdy azt ap8 aj0 adj azr azs bdx azq
attribute [go_sem] ap7 ajZ adi azo azp bdw azn ap6 ajY adh
attribute [go_sem] azl azm bdv azk ap5 ajX adg azi azj bdu
attribute [go_sem] azh ap4 ajW adf azf azg bdt aze ap3 ajV
attribute [go_sem] ade azc azd bds azb ap2 ajU adc ay9 aza
attribute [go_sem] bdr ay8 ap1 ajT adb ay6 ay7 bdq ay5 ap0
attribute [go_sem] ajS ada ay3 ay4 bdp ay2 apZ ajR ac9 ay0
attribute [go_sem] ay1 bdo ayZ apY ajQ ac8 ayX ayY bdn ayW
attribute [go_sem] apX ajP ac7 ayU ayV bdm ayT apW ajO ac6
attribute [go_sem] ayR ayS bdl ayQ apV ajN ac5 ayO ayP bdk
attribute [go_sem] ayN apU ajM ac4 ayL ayM bdj ayJ apS ajK
attribute [go_sem] ac3 ayH ayI bdi ayG apR ajJ ac2 ayE ayF
attribute [go_sem] bdh ayD apQ ajI ac1 ayB ayC bdg ayA apP
attribute [go_sem] ajH ac0 ayy ayz bdf ayx apO ajG acZ ayv
attribute [go_sem] ayw bde ayu apN ajF acY ays ayt bdd ayq
attribute [go_sem] apK ajD acX ayo ayp bdc ayn apJ ajC acW
attribute [go_sem] ayl aym bdb ayk apI ajB acV ayi ayj bda
attribute [go_sem] ayh apH ajA acU ayf ayg bc9 aye apG ajz
attribute [go_sem] acT ayc ayd bc8 ayb apF ajy acS ax9 aya
attribute [go_sem] bc7 ax8 apD ajx acR ax6 ax7 bc6 ax3 apz
attribute [go_sem] ajv acQ ax1 ax2 bc5 ax0 apy aju acP axY
attribute [go_sem] axZ bc4 axX apx ajt acO axV axW bc3 axU
attribute [go_sem] apw ajs acN axS axT boN boM boL boK boJ
attribute [go_sem] boI boH boG bk7 bk6 bk5 bk4 bk3 bk2 bk1
attribute [go_sem] bk0 bkZ bkY bkX bkW bkV bkU bkT bkS bkR
attribute [go_sem] bkQ bkP bkO bkN bkM bkL bkK bkJ bkI bkH
attribute [go_sem] bkG bkF bkE bkD bkC bkB bkA bkz bky bkx
attribute [go_sem] bkw bkv bku bkt bks bkr bkq bkp bko bkn
attribute [go_sem] bkm bkl bkk bkj bki bkh bkg bkf bke bkd
attribute [go_sem] bkc bkb bka bj9 bj8 bj7 bj6 bj5 bj4 bj3
attribute [go_sem] bj2 bj1 bj0 bjZ bjY bjX bjW bjV bjU bjT
attribute [go_sem] bjS bjR bjQ bjP bjO bjN bjM bjL bjK bjJ
attribute [go_sem] bjI bjH bjG bbA bbz bby bbx bbw bbv bbu
attribute [go_sem] bbt bbs bbr bbq bbp bbo bbn bbm bbl bbk
attribute [go_sem] bbj bbi bbh bbg bbf bbe bbd bbc bbb bba
attribute [go_sem] ba9 ba8 ba7 ba6 ba5 ba4 ba3 ba2 ba1 ba0
attribute [go_sem] baZ baY baX baW baV baU baT baS baR baQ
attribute [go_sem] baP baO baN baM baL baK baJ baI baH baG
attribute [go_sem] baF baE baD baC baB baA baz bay bax baw
attribute [go_sem] bav bau bat bas bar baq bap bao ban bam
attribute [go_sem] bal bak baj bai bah bag baf bae bac bab
attribute [go_sem] baa aZ9 aZ8 aZ7 aZ6 aZ5 aZ4 aZ3 aZ2 aZ1
attribute [go_sem] aZ0 aZZ aZY aZX aZW aZV aZU aZT aZS aZR
attribute [go_sem] aZQ aZP aZO aZN aZM aZL aZK aZJ aZI aZH
attribute [go_sem] aZG aZF aZE aZD aZC aZB aZA aZz aZy aZx
attribute [go_sem] aZw aZv aZu aZt aZs aZr aZq aZp aZo aZn
attribute [go_sem] aZm aZl aZk aZj aZi aZh aZg aZf aZe aZd
attribute [go_sem] aZc aZb aZa aY9 aY8 aY7 aY6 aY5 aY4 aY3
attribute [go_sem] aY2 aY1 aY0 aYZ aYY aYX aYW aYV aYU aYT
attribute [go_sem] aYS aYR aYQ aYP aYO aYN aYM aYL aYK aYJ
attribute [go_sem] aYI aYH aYG aYF aYE aYD aYC aYB aYA aYz
attribute [go_sem] aYy aYx aYw aYv aYu aYt aYs aYr aYq aYp
attribute [go_sem] aYo aYn aYm aYl aYk aYj aYi aYh aYg aYf
attribute [go_sem] aYe aYd aYc aYb aYa aX9 aX8 aX7 aX6 aX5
attribute [go_sem] aX4 aX3 aX2 aX1 aX0 aXZ aXY aXX aXW aXV
attribute [go_sem] aXU aXT aXS aXR aXQ aXP
end Go.Ab
namespace Go.Ab
open Go Go.Proofs
theorem jJ(cl:Bool)(xs:List Int)(m:Nat)(hl:xs.length≤2^39)(hx:gd xs)(hv:vl xs=(m:Int)):Con Tryz.prog 284 cl [.sl xs.length (qb xs)] [] (aIc m):=by
 refine Con.of_aw Tryz.func284 rfl Tryz.ntmps284 (by simp) (by simp) (by simp) (W.sound ?_)
 show @W Tryz.prog 24 ⟨_⟩ ⟨fun x σ=>@q9 _ _ _ ⟨_⟩ _ ⟨_⟩ x σ⟩ _ _
 simp(disch:=omega)only[go_sem]
 have hcz:JY xs=lim m:=by rw[jm hx,hv,Int.toNat_natCast]
 refine qi (fun k:Nat=>[(0,.sl xs.length (qb xs)),(2,.pt 40000000 0),(3,.v (.int .i64 k))]) (fun _=>[(40000000,.own 0 [.v (.slice none 0 0)])]) (fun k=>k≤xs.length∧JY (xs.take k)=JY xs) id xs.length ⟨Nat.le_refl _,by simp⟩
  (Le.lst [] _ _ rfl (by simp(disch:=omega)only[go_sem]) (by simp(disch:=omega)only[go_sem])) ?_
 intro k ⟨hk,hc⟩
 have hkx:∀j,j+1=k→xs.take k=xs.take j++[xs.getD j 0]:=fun j hj=>by rw[←hj];exact Zi (by omega)
 simp(disch:=omega)only[go_sem]
 refine qg (fun h1=>?_) (fun h1=>?_)
 ·obtain⟨j,rfl⟩:∃j,k=j+1:=⟨k-1,by omega⟩
  have e1:((j+1:Nat):Int)-1=(j:Nat):=by omega
  rw[hkx j rfl]at hc
  simp(disch:=omega)only[go_sem,h1,e1]
  refine⟨by omega,by omega,qg (fun h2=>?_) (fun h2=>?_)⟩
  ·simp(disch:=omega)only[go_sem,h2,e1]
   rw[h2,Q9]at hc
   exact qe j [] ⟨by omega,hc⟩ (by show j<j+1;omega) rfl (by simp(disch:=omega)only[go_sem];try omega) (by simp(disch:=omega)only[go_sem])
  ·rw[XL _ h2,←hkx j rfl,hcz]at hc
   have hlm:j+1=(lim m).length:=by rw[←hc,List.length_take];omega
   have e0:(((j+1:Nat):Int)-0).toNat=(lim m).length:=by omega
   rw[hlm]at hc
   simp(disch:=omega)only[go_sem,h2,e0,hc]
   refine⟨by omega,by omega,?_⟩
   refine qh [(0,240000000)] [.own 1 (qb (lim m))] [] [.ag [.rf 0 0 (lim m).length]] rfl (by simp(disch:=omega)only[go_sem]) (by simp(disch:=omega)only[go_sem]) (by simp) (by intro _;simp[zl,AV.pu,AV.pu.puL,Ob.pu,qT]) (.inr ⟨[],rfl,by rw[List.append_nil]⟩)
 ·have hlm:k=(lim m).length:=by
   have:k=0:=by omega
   rw[←hcz,←hc,this];rfl
  subst hlm
  have hc:xs.take (lim m).length=lim m:=by
   have:lim m=[]:=List.length_eq_zero_iff.1 (by omega)
   rw[this];simp
  have e0:(((lim m).length:Int)-0).toNat=(lim m).length:=by omega
  simp(disch:=omega)only[go_sem,h1,e0,hc]
  refine⟨by omega,by omega,?_⟩
  refine qh [(0,240000000)] [.own 1 (qb (lim m))] [] [.ag [.rf 0 0 (lim m).length]] rfl (by simp(disch:=omega)only[go_sem]) (by simp(disch:=omega)only[go_sem]) (by simp) (by intro _;simp[zl,AV.pu,AV.pu.puL,Ob.pu,qT]) (.inr ⟨[],rfl,by rw[List.append_nil]⟩)
theorem aib(cl:Bool)(n:Nat)(hn:n<2^63):Con Tryz.prog 257 cl [.v (.int .i64 n)] [] (aIc n):=by
 refine Con.of_aw Tryz.func257 rfl Tryz.ntmps257 (by simp) (by simp) (by simp) (W.sound ?_)
 show @W Tryz.prog 15 ⟨_⟩ ⟨fun x σ=>@q9 _ _ _ ⟨_⟩ _ ⟨_⟩ x σ⟩ _ _
 simp(disch:=omega)only[go_sem]
 refine qi (fun x:Nat×List Int=>[(0,.v (.int .i64 x.1)),(2,.pt 2 0),(3,.rf 1 0 x.2.length)]) (fun x=>[(1,.own 1 (qb x.2)),(2,.own 0 [.v (.slice none 0 0)])]) (fun x=>x.1<2^63∧x.2++lim x.1=lim n) (fun x=>x.1) (n,[]) ⟨hn,rfl⟩
  ((Le.ghost 3 1 1 (by simp(disch:=omega)only[go_sem]) (by simp(disch:=omega)only[go_sem])).trans (Le.lst [(2,40000000)] _ _ rfl (by simp(disch:=omega)only[go_sem]) (by simp(disch:=omega)only[go_sem]))) ?_
 rintro⟨k,l⟩ ⟨hk,hl⟩
 dsimp only at hk hl ⊢
 have hlen:l.length≤4:=by
  have h1:=congrArg List.length hl
  have h2:=yC (n:=n) (k:=4) |>.2 (by omega)
  rw[List.length_append]at h1;omega
 simp(disch:=omega)only[go_sem]
 refine qg (fun h1=>?_) (fun h1=>?_)
 ·simp(disch:=omega)only[go_sem,h1]
  have hk0:k≠0:=by omega
  refine⟨by omega,qe (k/65536,l++[(k:Int) % 65536]) [(1,120000000)] ⟨by show k/65536<2^63;omega,?_⟩ (by show k/65536<k;omega) rfl (by simp(disch:=omega)only[go_sem,List.length_append];try omega) (by simp(disch:=omega)only[go_sem])⟩
  rw[yA hk0]at hl
  rw[←hl,List.append_assoc];rfl
 ·simp(disch:=omega)only[go_sem,h1]
  have hk0:k=0:=by omega
  subst hk0
  rw[qt,List.append_nil]at hl
  subst hl
  refine qh [(0,1)] [.own 1 (qb (lim n++[]))] [] [.ag [.rf 0 0 (lim n).length]] rfl (by simp(disch:=omega)only[go_sem]) (by simp(disch:=omega)only[go_sem]) (by simp) (by intro _;simp[zl,AV.pu,AV.pu.puL,Ob.pu,qT]) (.inr ⟨[],rfl,rfl⟩)
end Go.Ab
namespace Go.Ab
open Go Go.Proofs
theorem jE(xs:List Int)(hl:xs.length≤2^40):Con Tryz.prog 295 false [.rf 10000000 0 xs.length] [.own 1 (qb xs)] (fun r hs bs=>r=.rf 10000000 0 (JY xs).length∧hs=[]∧bs=[.own 1 (qb xs)]):=by
 refine Con.of_aw Tryz.func295 rfl Tryz.ntmps295 (by simp) (by simp) (by simp) (W.sound ?_)
 show @W Tryz.prog 21 ⟨_⟩ ⟨fun x σ=>@q9 _ _ _ ⟨_⟩ _ ⟨_⟩ x σ⟩ _ _
 simp(disch:=omega)only[go_sem]
 refine qi (fun m:Nat=>[(0,.rf 10000000 0 m)]) (fun _=>[(10000000,.own 1 (qb xs))]) (fun m=>m≤xs.length∧JY (xs.take m)=JY xs) id xs.length ⟨Nat.le_refl _,by simp⟩
  (Le.lst [] _ _ rfl (by simp(disch:=omega)only[go_sem];try omega) (by simp(disch:=omega)only[go_sem])) ?_
 intro m ⟨hm,hx⟩
 have hmx:∀k,k+1=m→xs.take m=xs.take k++[xs.getD k 0]:=fun k hk=>by rw[←hk];exact Zi (by omega)
 simp(disch:=omega)only[go_sem]
 refine qg (fun h1=>?_) (fun h1=>?_)
 ·obtain⟨k,rfl⟩:∃k,m=k+1:=⟨m-1,by omega⟩
  have e1:((k+1:Nat):Int)-1=(k:Nat):=by omega
  rw[hmx k rfl]at hx
  simp(disch:=omega)only[go_sem,h1,e1]
  refine⟨by omega,by omega,qg (fun h2=>?_) (fun h2=>?_)⟩
  ·simp(disch:=omega)only[go_sem,h2,e1]
   rw[h2,Q9]at hx
   refine⟨by omega,qe k [] ⟨by omega,hx⟩ (by show k<k+1;omega) rfl (by simp(disch:=omega)only[go_sem];try omega) (by simp(disch:=omega)only[go_sem])⟩
  ·simp(disch:=omega)only[go_sem,h2]
   refine qh [] [] [.own 1 (qb xs)] [.rf 10000000 0 (k+1)] rfl (by simp(disch:=omega)only[go_sem]) (by simp(disch:=omega)only[go_sem]) (by simp) (by simp) ⟨?_,rfl,rfl⟩
   rw[XL _ h2,←hmx k rfl]at hx
   rw[←hx,List.length_take,Nat.min_eq_left hm];rfl
 ·simp(disch:=omega)only[go_sem,h1]
  refine qh [] [] [.own 1 (qb xs)] [.rf 10000000 0 m] rfl (by simp(disch:=omega)only[go_sem]) (by simp(disch:=omega)only[go_sem]) (by simp) (by simp) ⟨?_,rfl,rfl⟩
  have:m=0:=by omega
  subst this
  rw[←hx];rfl
end Go.Ab
namespace Go.Ab
open Go Go.Proofs
theorem atQ{x y:Int}(hx:0≤x∧x<65536)(hy:0≤y∧y<65536):0≤x*y∧x*y≤4294836225:=by
 have h1:=Int.mul_nonneg hx.1 hy.1
 have h2:x*y≤65535*65535:=Int.mul_le_mul (by omega) (by omega) hy.1 (by omega)
 omega
theorem X7(n:Nat):zF n [.v (.int .i64 0)]=qb (List.replicate n 0):=abI
theorem au7(cl:Bool)(A B:List Int)(hA:gd A)(hB:gd B)(lA:A.length≤1000000)(lB:B.length≤1000000):
  Con Tryz.prog 252 cl [.sl A.length (qb A),.sl B.length (qb B)] [] (atE (lim (vl A*vl B).toNat)):=by
 refine Con.of_aw Tryz.func252 rfl Tryz.ntmps252 (by simp) (by simp) (by simp) (W.sound ?_)
 show @W Tryz.prog 63 ⟨_⟩ ⟨fun x σ=>@q9 _ _ _ ⟨_⟩ _ ⟨_⟩ x σ⟩ _ _
 simp(disch:=omega)only[go_sem]
 refine⟨⟨by omega,by omega,by omega⟩,?_⟩
 refine qi (fun x:Nat×List Int=>[(1,.sl B.length (qb B)),(5,.rf 180000000 0 (A.length+B.length)),(17,.sl A.length (qb A)),(18,.v (.int .i64 A.length)),(19,.v (.int .i64 x.1))])
  (fun x=>[(180000000,.own 1 (qb x.2))])
  (fun x=>x.1≤A.length∧x.2.length=A.length+B.length∧gd x.2∧vl x.2=vl (A.take x.1)*vl B∧∀j,x.1+B.length≤j→x.2.getD j 0=0)
  (fun x=>A.length-x.1) (0,List.replicate (A.length+B.length) 0) ⟨by simp,by simp,zt _,by simp[zV,vl],fun j _=>by
   rw[List.getD_eq_getElem?_getD,List.getElem?_replicate];split<;>rfl⟩
  (Le.lst [] _ _ rfl (by simp(disch:=omega)only[go_sem];try omega) (by simp(disch:=omega)only[go_sem,show((A.length:Int)+(B.length:Int)).toNat=A.length+B.length by omega])) ?_
 rintro⟨i,out⟩ ⟨hi,hol,hog,hov,hoz⟩
 dsimp only at hi hol hog hov hoz ⊢
 simp(disch:=omega)only[go_sem]
 refine qg (fun h1=>?_) (fun h1=>?_)
 ·have hx:=qP hA i
  simp(disch:=omega)only[go_sem,h1]
  refine⟨by omega,by omega,?_⟩
  refine qi (fun x:Nat×List Int×Int=>[(1,.sl B.length (qb B)),(5,.rf 180000000 0 (A.length+B.length)),(17,.sl A.length (qb A)),(18,.v (.int .i64 A.length)),(19,.v (.int .i64 i)),(6,.v (.int .i64 i)),
    (7,.v (.int .i64 (A.getD i 0))),(8,.v (.int .i64 x.2.2)),(24,.sl B.length (qb B)),(25,.v (.int .i64 B.length)),(26,.v (.int .i64 x.1))])
   (fun x=>[(180000000,.own 1 (qb x.2.1))])
   (fun x=>x.1≤B.length∧x.2.1.length=A.length+B.length∧gd x.2.1∧(0≤x.2.2∧x.2.2<65536)∧vl x.2.1+65536^(i+x.1)*x.2.2=vl out+65536^i*(A.getD i 0*vl (B.take x.1))∧∀j,i+B.length≤j→x.2.1.getD j 0=0)
   (fun x=>B.length-x.1) (0,out,0) ⟨by simp,hol,hog,by simp,by simp[vl],hoz⟩
   (Le.lst [] _ _ rfl (by simp(disch:=omega)only[go_sem];try omega) (by simp(disch:=omega)only[go_sem])) ?_
  rintro⟨j,o2,cy⟩ ⟨hj,hol2,hog2,hcy,hov2,hoz2⟩
  dsimp only at hj hol2 hog2 hcy hov2 hoz2 ⊢
  simp(disch:=omega)only[go_sem]
  refine qg (fun h2=>?_) (fun h2=>?_)
  ·have hy:=qP hB j
   have ho:=qP hog2 (i+j)
   have hxy:=atQ hx hy
   have e1:((i:Int)+(j:Int)).toNat=i+j:=by omega
   simp(disch:=omega)only[go_sem,h2,e1]
   generalize hq:cy+(o2.getD (i+j) 0+A.getD i 0*B.getD j 0)=q
   refine⟨by omega,by omega,by omega,by omega,by omega,by omega,qe (j+1,o2.set (i+j) (q % 65536),q/65536) [] ⟨by show j+1≤_;omega,by simp[hol2],yN hog2 (by omega),by show 0≤q/65536∧q/65536<65536;omega,?_,fun k hk=>?_⟩
    (by show B.length-(j+1)<B.length-j;omega) rfl (by simp(disch:=omega)only[go_sem];try omega) (by simp(disch:=omega)only[go_sem])⟩
   ·show vl (o2.set (i+j) (q % 65536))+65536^(i+(j+1))*(q/65536)=vl out+65536^i*(A.getD i 0*vl (B.take (j+1)))
    rw[ZF (by omega),jq (by omega),←Nat.add_assoc,Int.pow_succ]
    have e2:(65536:Int)^(i+j)=65536^i*65536^j:=Int.pow_add _ _ _
    have e3:q % 65536+65536*(q/65536)=q:=Int.emod_add_mul_ediv q 65536
    rw[e2]at hov2 ⊢
    generalize (65536:Int)^i=Pi at*
    generalize (65536:Int)^j=Pj at*
    grind
   ·show(o2.set (i+j) (q % 65536)).getD k 0=0
    rw[List.getD_eq_getElem?_getD,List.getElem?_set_ne (by omega),←List.getD_eq_getElem?_getD]
    exact hoz2 k hk
  ·simp(disch:=omega)only[go_sem,h2]
   have e1:((i:Int)+(B.length:Int)).toNat=i+B.length:=by omega
   have hjB:j=B.length:=by omega
   subst hjB
   rw[List.take_length]at hov2
   simp(disch:=omega)only[go_sem,e1]
   refine⟨by omega,by omega,qe (i+1,o2.set (i+B.length) cy) [] ⟨by show i+1≤_;omega,by simp[hol2],yN hog2 hcy,?_,fun k hk=>?_⟩ (by show A.length-(i+1)<A.length-i;omega) rfl (by simp(disch:=omega)only[go_sem];try omega) (by simp(disch:=omega)only[go_sem])⟩
   ·show vl (o2.set (i+B.length) cy)=vl (A.take (i+1))*vl B
    rw[ZF (by omega),hoz2 _ (Nat.le_refl _),jq (by omega)]
    generalize (65536:Int)^i=Pi at*
    grind
   ·show(o2.set (i+B.length) cy).getD k 0=0
    rw[List.getD_eq_getElem?_getD,List.getElem?_set_ne (by show i+B.length≠k;omega),←List.getD_eq_getElem?_getD]
    exact hoz2 k (by omega)
 ·simp(disch:=omega)only[go_sem,h1]
  have hiA:i=A.length:=by omega
  subst hiA
  rw[List.take_length]at hov
  refine zv false [180000000] (jE out (by omega)) (by rw[←hol];simp(disch:=omega)only[go_sem]) (by simp(disch:=omega)only[go_sem]) rfl (qJ (z:=1) (cs:=qb out) (by simp(disch:=omega)only[go_sem]) (by simp(disch:=omega)only[go_sem])) (by intro n hn;exact⟨_,List.mem_singleton.2 rfl,by rw[List.mem_singleton.1 hn];rfl⟩) ?_
  rintro r hs bs ⟨rfl,rfl,rfl⟩ _
  refine⟨by simp[qC],?_⟩
  simp(disch:=omega)only[go_sem]
  obtain⟨z,hz⟩:=zS out
  have hc:=jm hog
  rw[hov]at hc
  rw[hc]at hz ⊢
  refine qh [(0,180000000)] [.own 1 (qb out)] [] [.rf 0 0 (lim (vl A*vl B).toNat).length] rfl (by simp(disch:=omega)only[go_sem]) (by simp(disch:=omega)only[go_sem]) (by simp) (by intro _;simp[zl,AV.pu,AV.pu.puL,Ob.pu,qT]) (.inr ⟨List.replicate z 0,rfl,by rw[←hz]⟩)
end Go.Ab
namespace Go.Ab
open Go Go.Proofs
set_option maxRecDepth 100000 in
theorem avx(cl:Bool)(a b:Nat)(la:(lim a).length≤2000000)(lb:(lim b).length≤2000000):Con Tryz.prog 256 cl [.ag [.sl (lim (a)).length (qb (lim (a)))],.ag [.sl (lim (b)).length (qb (lim (b)))]] [] (aIc (a+b)):=by
 refine Con.of_aw Tryz.func256 rfl Tryz.ntmps256 (by simp) (by simp) (by simp) (W.sound ?_)
 show @W Tryz.prog 61 ⟨_⟩ ⟨fun x σ=>@q9 _ _ _ ⟨_⟩ _ ⟨_⟩ x σ⟩ _ _
 simp(disch:=omega)only[go_sem]
 have hA:=zd a
 have hB:=zd b
 refine qi (fun x:Nat×List Int×Int=>[(2,.pt 3 0),(3,.pt 4 0),(4,.pt 2 0),(5,.rf 1 0 x.2.1.length),(6,.v (.int .i64 x.2.2)),(7,.v (.int .i64 x.1))])
  (fun x=>[(1,.own 1 (qb x.2.1)),(2,.own 0 [.v (.slice none 0 0)]),(3,.own 0 [.sl (lim (a)).length (qb (lim (a)))]),(4,.own 0 [.sl (lim (b)).length (qb (lim (b)))])])
  (fun x=>x.1≤max (lim a).length (lim b).length+1∧x.2.1.length=x.1∧gd x.2.1∧(0≤x.2.2∧x.2.2≤1)∧vl x.2.1+65536^x.1*x.2.2=vl ((lim a).take x.1)+vl ((lim b).take x.1)∧(max (lim a).length (lim b).length<x.1→x.2.2=0))
  (fun x=>2*(max (lim a).length (lim b).length-x.1)+x.2.2.toNat) (0,[],0) ⟨by simp,rfl,JN,by simp,by simp[vl],fun h=>rfl⟩
  ((Le.ghost 5 1 1 (by simp(disch:=omega)only[go_sem]) (by simp(disch:=omega)only[go_sem])).trans (Le.lst [(2,60000000),(3,40000000),(4,50000000)] _ _ rfl (by simp(disch:=omega)only[go_sem]) (by simp(disch:=omega)only[go_sem]))) ?_
 rintro⟨i,out,cy⟩ ⟨hi,hol,hog,hcy,hov,hcz⟩
 dsimp only at hi hol hog hcy hov hcz ⊢
 have hx:=qP hA i
 have hy:=qP hB i
 have hxz:¬(i:Int)<(lim a).length→(lim a).getD i 0=0:=fun h=>by rw[List.getD_eq_getElem?_getD,List.getElem?_eq_none (by omega)];rfl
 have hyz:¬(i:Int)<(lim b).length→(lim b).getD i 0=0:=fun h=>by rw[List.getD_eq_getElem?_getD,List.getElem?_eq_none (by omega)];rfl
 have hstep:∀q:Int,q=cy+(lim a).getD i 0+(lim b).getD i 0→vl (out++[q % 65536])+65536^(i+1)*(q/65536)=vl ((lim a).take (i+1))+vl ((lim b).take (i+1)):=by
  intro q hq
  rw[jL,qY,qY,hol,Int.pow_succ]
  have e3:q % 65536+65536*(q/65536)=q:=Int.emod_add_mul_ediv q 65536
  generalize (65536:Int)^i=Pi at*
  grind
 have key:∀q:Int,q=cy+(lim a).getD i 0+(lim b).getD i 0→(i:Int)<(lim a).length∨(i:Int)<(lim b).length∨0<cy→
   ((i+1≤max (lim a).length (lim b).length+1∧(out++[q % 65536]).length=i+1∧gd (out++[q % 65536])∧(0≤q/65536∧q/65536≤1)∧vl (out++[q % 65536])+65536^(i+1)*(q/65536)=vl ((lim a).take (i+1))+vl ((lim b).take (i+1))∧(max (lim a).length (lim b).length<i+1→q/65536=0))∧
   2*(max (lim a).length (lim b).length-(i+1))+(q/65536).toNat<2*(max (lim a).length (lim b).length-i)+cy.toNat):=by
  intro q hq hc
  have hle:i≤max (lim a).length (lim b).length:=by
   rcases Nat.lt_or_ge (max (lim a).length (lim b).length) i with h|h
   ·have:=hcz h;omega
   ·exact h
  have hbig:max (lim a).length (lim b).length<i+1→q/65536=0:=fun h=>by
   have:=hxz (by omega)
   have:=hyz (by omega)
   omega
  refine⟨⟨by omega,by simp[hol],qQ.2 ⟨hog,z8.2 (by omega)⟩,by omega,hstep q hq,hbig⟩,?_⟩
  by_cases hm:max (lim a).length (lim b).length<i+1
  ·have:=hbig hm;omega
  ·omega
 by_cases h1:(i:Int)<(lim a).length<;>by_cases h2:(i:Int)<(lim b).length
 ·simp(disch:=omega)only[go_sem,h1,h2]
  obtain⟨k1,k2⟩:=key _ rfl (.inl h1)
  refine⟨by omega,by omega,by omega,by omega,by omega,qe (i+1,out++[(cy+(lim a).getD i 0+(lim b).getD i 0) % 65536],(cy+(lim a).getD i 0+(lim b).getD i 0)/65536) [(1,580000000)] k1 k2 rfl (by simp(disch:=omega)only[go_sem,List.length_append];try omega) (by simp(disch:=omega)only[go_sem])⟩
 ·simp(disch:=omega)only[go_sem,h1,h2]
  have e0:cy+(lim a).getD i 0=cy+(lim a).getD i 0+(lim b).getD i 0:=by rw[hyz h2];omega
  obtain⟨k1,k2⟩:=key (cy+(lim a).getD i 0) e0 (.inl h1)
  refine⟨by omega,by omega,by omega,qe (i+1,out++[(cy+(lim a).getD i 0) % 65536],(cy+(lim a).getD i 0)/65536) [(1,580000000)] k1 k2 rfl (by simp(disch:=omega)only[go_sem,List.length_append];try omega) (by simp(disch:=omega)only[go_sem])⟩
 ·simp(disch:=omega)only[go_sem,h1,h2]
  have e0:cy+(lim b).getD i 0=cy+(lim a).getD i 0+(lim b).getD i 0:=by rw[hxz h1];omega
  obtain⟨k1,k2⟩:=key (cy+(lim b).getD i 0) e0 (.inr (.inl h2))
  refine⟨by omega,by omega,by omega,qe (i+1,out++[(cy+(lim b).getD i 0) % 65536],(cy+(lim b).getD i 0)/65536) [(1,580000000)] k1 k2 rfl (by simp(disch:=omega)only[go_sem,List.length_append];try omega) (by simp(disch:=omega)only[go_sem])⟩
 ·by_cases h3:0<cy
  ·simp(disch:=omega)only[go_sem,h1,h2,h3]
   have e0:cy=cy+(lim a).getD i 0+(lim b).getD i 0:=by rw[hxz h1,hyz h2];omega
   obtain⟨k1,k2⟩:=key cy e0 (.inr (.inr h3))
   refine⟨by omega,qe (i+1,out++[cy % 65536],cy/65536) [(1,580000000)] k1 k2 rfl (by simp(disch:=omega)only[go_sem,List.length_append];try omega) (by simp(disch:=omega)only[go_sem])⟩
  ·have hcy0:cy=0:=by omega
   have hov2:vl out=((a+b:Nat):Int):=by
    rw[List.take_of_length_le (by omega),List.take_of_length_le (by omega),q6,q6,hcy0]at hov
    simp at hov;omega
   simp(disch:=omega)only[go_sem,h1,h2,h3]
   refine qB (jJ true out (a+b) (by omega) hog hov2) (by simp(disch:=omega)only[go_sem]) ?_
   rintro r hs (⟨h0,rfl,rfl⟩|⟨zs,rfl,rfl⟩)
   ·refine⟨⟨by simp,by simp(disch:=omega)only[go_sem]⟩,?_⟩
    simp(disch:=omega)only[go_sem]
    refine qh [] [] [] [.ag [.v (.slice none 0 0)]] rfl (by simp(disch:=omega)only[go_sem]) (by simp(disch:=omega)only[go_sem]) (by simp) (by intro _;simp[zl,AV.pu,AV.pu.puL,Ob.pu,qT]) (.inl ⟨h0,rfl,rfl⟩)
   ·refine⟨⟨by simp,by simp(disch:=omega)only[go_sem]⟩,?_⟩
    simp(disch:=omega)only[go_sem]
    refine qh [(0,620000000)] [.own 1 (qb (lim (a+b)++zs))] [] [.ag [.rf 0 0 (lim (a+b)).length]] rfl (by simp(disch:=omega)only[go_sem]) (by simp(disch:=omega)only[go_sem]) (by simp) (by intro _;simp[zl,AV.pu,AV.pu.puL,Ob.pu,qT]) (.inr ⟨zs,rfl,rfl⟩)
end Go.Ab
namespace Go.Ab
open Go Go.Proofs
set_option maxRecDepth 100000 in
theorem YT(cl:Bool)(A:List Int)(hA:gd A)(b:Nat)(lA:A.length≤1000000)(lB:(lim b).length≤1000000)(m:Nat)(hm:vl A*(b:Int)=(m:Int)):
  Con Tryz.prog 313 cl [.ag [.sl A.length (qb A)],.ag [.sl (lim (b)).length (qb (lim (b)))]] [] (aIc m):=by
 refine Con.of_aw Tryz.func313 rfl Tryz.ntmps313 (by simp) (by simp) (by simp) (W.sound ?_)
 show @W Tryz.prog 80 ⟨_⟩ ⟨fun x σ=>@q9 _ _ _ ⟨_⟩ _ ⟨_⟩ x σ⟩ _ _
 have hvb:=q6 b
 have hB:=zd b
 generalize lim b=B at*
 simp(disch:=omega)only[go_sem]
 refine⟨by omega,?_⟩
 refine qi (fun x:Nat×List Int=>[(2,.pt 0 0),(3,.pt 1 0),(4,.pt 2 0),(5,.rf 3 0 (A.length+B.length)),(6,.v (.int .i64 x.1))])
  (fun x=>[(0,.own 0 [.sl A.length (qb A)]),(1,.own 0 [.sl B.length (qb B)]),(2,.own 0 [.v (.slice none 0 0)]),(3,.own 1 (qb x.2))])
  (fun x=>x.1≤A.length∧x.2.length=A.length+B.length∧gd x.2∧vl x.2=vl (A.take x.1)*vl B∧∀j,x.1+B.length≤j→x.2.getD j 0=0)
  (fun x=>A.length-x.1) (0,List.replicate (A.length+B.length) 0) ⟨by simp,by simp,zt _,by simp[zV,vl],fun j _=>by
   rw[List.getD_eq_getElem?_getD,List.getElem?_replicate];split<;>rfl⟩
  (Le.lst [(0,40000000),(1,50000000),(2,60000000),(3,190000000)] _ _ rfl (by simp(disch:=omega)only[go_sem];try omega) (by simp(disch:=omega)only[go_sem,show((A.length:Int)+(B.length:Int)).toNat=A.length+B.length by omega])) ?_
 rintro⟨i,out⟩ ⟨hi,hol,hog,hov,hoz⟩
 dsimp only at hi hol hog hov hoz ⊢
 simp(disch:=omega)only[go_sem]
 refine qg (fun h1=>?_) (fun h1=>?_)
 ·have hx:=qP hA i
  simp(disch:=omega)only[go_sem,h1]
  refine qi (fun x:Nat×List Int×Int=>[(2,.pt 0 0),(3,.pt 1 0),(4,.pt 2 0),(5,.rf 3 0 (A.length+B.length)),(6,.v (.int .i64 i)),(7,.v (.int .i64 x.2.2)),(8,.v (.int .i64 x.1))])
   (fun x=>[(0,.own 0 [.sl A.length (qb A)]),(1,.own 0 [.sl B.length (qb B)]),(2,.own 0 [.v (.slice none 0 0)]),(3,.own 1 (qb x.2.1))])
   (fun x=>x.1≤B.length∧x.2.1.length=A.length+B.length∧gd x.2.1∧(0≤x.2.2∧x.2.2<65536)∧vl x.2.1+65536^(i+x.1)*x.2.2=vl out+65536^i*(A.getD i 0*vl (B.take x.1))∧∀j,i+B.length≤j→x.2.1.getD j 0=0)
   (fun x=>B.length-x.1) (0,out,0) ⟨by simp,hol,hog,by simp,by simp[vl],hoz⟩
   (Le.lst [] _ _ rfl (by simp(disch:=omega)only[go_sem];try omega) (by simp(disch:=omega)only[go_sem])) ?_
  rintro⟨j,o2,cy⟩ ⟨hj,hol2,hog2,hcy,hov2,hoz2⟩
  dsimp only at hj hol2 hog2 hcy hov2 hoz2 ⊢
  simp(disch:=omega)only[go_sem]
  refine qg (fun h2=>?_) (fun h2=>?_)
  ·have hy:=qP hB j
   have ho:=qP hog2 (i+j)
   have hxy:=atQ hx hy
   have e1:((i:Int)+(j:Int)).toNat=i+j:=by omega
   simp(disch:=omega)only[go_sem,h2]
   refine qo rfl [⟨0,[],[]⟩,⟨1,[],[]⟩,⟨2,[],[]⟩,⟨3,[],[]⟩,⟨4,[],[]⟩,⟨5,[],[]⟩,⟨6,[5],[]⟩,⟨7,[5],[]⟩,⟨8,[5,7],[]⟩,⟨9,[5],[]⟩,⟨10,[5],[]⟩,⟨11,[5,7,10],[]⟩,⟨12,[5,7,10],[]⟩,⟨13,[5,7,10,12],[]⟩,⟨14,[5,7,10],[]⟩,⟨15,[5,7,10],[]⟩,⟨16,[5],[]⟩,⟨17,[],[]⟩,⟨18,[5,7,10,12,15],[]⟩,⟨19,[],[]⟩,⟨20,[],[]⟩] (by kernel_rfl) ?_
   simp(disch:=omega)only[go_sem,e1]
   generalize hq:o2.getD (i+j) 0+A.getD i 0*B.getD j 0+cy=q
   refine⟨by omega,by omega,by omega,by omega,by omega,by omega,by omega,by omega,qe (j+1,o2.set (i+j) (q % 65536),q/65536) [] ⟨by show j+1≤_;omega,by simp[hol2],yN hog2 (by omega),by show 0≤q/65536∧q/65536<65536;omega,?_,fun k hk=>?_⟩
    (by show B.length-(j+1)<B.length-j;omega) rfl (by simp(disch:=omega)only[go_sem];try omega) (by simp(disch:=omega)only[go_sem])⟩
   ·show vl (o2.set (i+j) (q % 65536))+65536^(i+(j+1))*(q/65536)=vl out+65536^i*(A.getD i 0*vl (B.take (j+1)))
    rw[ZF (by omega),jq (by omega),←Nat.add_assoc,Int.pow_succ]
    have e2:(65536:Int)^(i+j)=65536^i*65536^j:=Int.pow_add _ _ _
    have e3:q % 65536+65536*(q/65536)=q:=Int.emod_add_mul_ediv q 65536
    rw[e2]at hov2 ⊢
    generalize (65536:Int)^i=Pi at*
    generalize (65536:Int)^j=Pj at*
    grind
   ·show(o2.set (i+j) (q % 65536)).getD k 0=0
    rw[List.getD_eq_getElem?_getD,List.getElem?_set_ne (by omega),←List.getD_eq_getElem?_getD]
    exact hoz2 k hk
  ·simp(disch:=omega)only[go_sem,h2]
   have e1:((i:Int)+(B.length:Int)).toNat=i+B.length:=by omega
   have hjB:j=B.length:=by omega
   subst hjB
   rw[List.take_length]at hov2
   have hz:=hoz2 (i+B.length) (Nat.le_refl _)
   refine qo rfl [⟨0,[],[]⟩,⟨1,[],[]⟩,⟨2,[],[]⟩,⟨3,[],[]⟩,⟨4,[],[]⟩,⟨5,[],[]⟩,⟨6,[3],[]⟩,⟨7,[3],[]⟩,⟨8,[3],[]⟩,⟨9,[3],[]⟩,⟨10,[3],[]⟩,⟨11,[3],[]⟩,⟨12,[3],[]⟩,⟨13,[3],[]⟩,⟨14,[3,9,13],[]⟩,⟨15,[3],[]⟩,⟨16,[],[]⟩,⟨17,[],[]⟩] (by kernel_rfl) ?_
   simp(disch:=omega)only[go_sem,e1,hz]
   have e0:(0:Int)+cy=cy:=by omega
   refine⟨by omega,by omega,by omega,by omega,qe (i+1,o2.set (i+B.length) cy) [] ⟨by show i+1≤_;omega,by simp[hol2],yN hog2 hcy,?_,fun k hk=>?_⟩ (by show A.length-(i+1)<A.length-i;omega) rfl (by simp(disch:=omega)only[go_sem];try omega) (by simp(disch:=omega)only[go_sem,e0])⟩
   ·show vl (o2.set (i+B.length) cy)=vl (A.take (i+1))*vl B
    rw[ZF (by omega),hz,jq (by omega)]
    generalize (65536:Int)^i=Pi at*
    grind
   ·show(o2.set (i+B.length) cy).getD k 0=0
    rw[List.getD_eq_getElem?_getD,List.getElem?_set_ne (by show i+B.length≠k;omega),←List.getD_eq_getElem?_getD]
    exact hoz2 k (by omega)
 ·simp(disch:=omega)only[go_sem,h1]
  have hiA:i=A.length:=by omega
  subst hiA
  rw[List.take_length,hvb,hm]at hov
  rw[←hol]
  refine qB (jJ true (out) (m) (by omega) (hog) (hov)) (by simp(disch:=omega)only[go_sem]) ?_
  rintro r hs (⟨h0,rfl,rfl⟩|⟨zs,rfl,rfl⟩)
  ·refine⟨⟨by simp,by simp(disch:=omega)only[go_sem]⟩,?_⟩
   simp(disch:=omega)only[go_sem]
   refine qh [] [] [] [.ag [.v (.slice none 0 0)]] rfl (by simp(disch:=omega)only[go_sem]) (by simp(disch:=omega)only[go_sem]) (by simp) (by intro _;simp[zl,AV.pu,AV.pu.puL,Ob.pu,qT]) (.inl ⟨h0,rfl,rfl⟩)
  ·refine⟨⟨by simp,by simp(disch:=omega)only[go_sem]⟩,?_⟩
   simp(disch:=omega)only[go_sem]
   refine qh [(0,810000000)] [.own 1 (qb (lim (m)++zs))] [] [.ag [.rf 0 0 (lim (m)).length]] rfl (by simp(disch:=omega)only[go_sem]) (by simp(disch:=omega)only[go_sem]) (by simp) (by intro _;simp[zl,AV.pu,AV.pu.puL,Ob.pu,qT]) (.inr ⟨zs,rfl,rfl⟩)
theorem avw(cl:Bool)(a b:Nat)(la:(lim a).length≤1000000)(lb:(lim b).length≤1000000):Con Tryz.prog 313 cl [.ag [.sl (lim (a)).length (qb (lim (a)))],.ag [.sl (lim (b)).length (qb (lim (b)))]] [] (aIc (a*b)):=
 YT cl (lim a) (zd a) b la lb (a*b) (by rw[q6,Int.natCast_mul])
end Go.Ab
namespace Go.Ab
open Go Go.Proofs
theorem yW(k:Nat)(h:k<16):(0:Int)<2^k∧(2:Int)^k≤32768:=by
 have:∀k,k<16→(0:Int)<2^k∧(2:Int)^k≤32768:=by decide
 exact this k h
theorem atP{x:Int}(hx:0≤x∧x<65536){k:Nat}(hk:k<16):0≤x*2^k∧x*2^k≤2147450880:=by
 obtain⟨h1,h2⟩:=yW k hk
 have h3:=Int.mul_nonneg hx.1 (Int.le_of_lt h1)
 have h4:x*2^k≤65535*32768:=Int.mul_le_mul (by omega) h2 (by omega) (by omega)
 omega
theorem abo(k:Nat):(65536:Int)^(k/16)*2^(k % 16)=2^k:=by
 have e:(65536:Int)=2^16:=by decide
 rw[e,←Int.pow_mul,←Int.pow_add,Nat.div_add_mod]
theorem bb5(cl:Bool)(A:List Int)(k:Nat)(hA:gd A)(lA:A.length≤1000000)(hk:k≤100000000):
  Con Tryz.prog 248 cl [.sl A.length (qb A),.v (.int .i64 k)] [] (atE (lim (vl A*2^k).toNat)):=by
 refine Con.of_aw Tryz.func248 rfl Tryz.ntmps248 (by simp) (by simp) (by simp) (W.sound ?_)
 show @W Tryz.prog 46 ⟨_⟩ ⟨fun x σ=>@q9 _ _ _ ⟨_⟩ _ ⟨_⟩ x σ⟩ _ _
 simp(disch:=omega)only[go_sem]
 refine qg (fun h0=>?_) (fun h0=>?_)
 ·simp(disch:=omega)only[go_sem,h0]
  have:A=[]:=List.length_eq_zero_iff.1 (by omega)
  subst this
  refine qh [] [] [] [.v (.slice none 0 0)] rfl (by simp(disch:=omega)only[go_sem]) (by simp(disch:=omega)only[go_sem]) (by simp) (by intro _;simp[zl,AV.pu,AV.pu.puL,Ob.pu,qT]) (.inl ⟨by simp[vl,qt],rfl,rfl⟩)
 ·simp(disch:=omega)only[go_sem,h0]
  refine⟨by omega,?_⟩
  have e16:((k:Int)/16).toNat=k/16:=by omega
  refine qi (fun x:Nat×List Int×Int=>[(1,.v (.int .i64 k)),(5,.rf 1 0 x.2.1.length),(6,.v (.int .i64 x.2.2)),(21,.sl A.length (qb A)),(22,.v (.int .i64 A.length)),(23,.v (.int .i64 x.1))])
   (fun x=>[(1,.own 1 (qb x.2.1))])
   (fun x=>x.1≤A.length∧x.2.1.length=k/16+x.1∧gd x.2.1∧(0≤x.2.2∧x.2.2<65536)∧vl x.2.1+65536^(k/16+x.1)*x.2.2=65536^(k/16)*2^(k % 16)*vl (A.take x.1))
   (fun x=>A.length-x.1) (0,List.replicate (k/16) 0,0) ⟨by simp,by simp,zt _,by simp,by simp[vl,zV]⟩
   (Le.lst [(1,220000000)] _ _ rfl (by simp(disch:=omega)only[go_sem,List.length_replicate,e16]) (by simp(disch:=omega)only[go_sem,e16])) ?_
  rintro⟨i,out,cy⟩ ⟨hi,hol,hog,hcy,hov⟩
  dsimp only at hi hol hog hcy hov ⊢
  simp(disch:=omega)only[go_sem]
  refine qg (fun h1=>?_) (fun h1=>?_)
  ·have hx:=qP hA i
   have hxs:=atP hx (show k % 16<16 by omega)
   have em:min ((k:Int) % 16).toNat 64=k % 16:=by omega
   simp(disch:=omega)only[go_sem,h1,em]
   generalize hq:cy+A.getD i 0*2^(k % 16)=q
   refine⟨by omega,by omega,by omega,by omega,qe (i+1,out++[q % 65536],q/65536) [(1,390000000)] ⟨by show i+1≤_;omega,by simp[hol];omega,qQ.2 ⟨hog,z8.2 (by omega)⟩,by show 0≤q/65536∧q/65536<65536;omega,?_⟩ (by show A.length-(i+1)<A.length-i;omega) rfl (by simp(disch:=omega)only[go_sem,List.length_append];try omega) (by simp(disch:=omega)only[go_sem])⟩
   show vl (out++[q % 65536])+65536^(k/16+(i+1))*(q/65536)=65536^(k/16)*2^(k % 16)*vl (A.take (i+1))
   rw[jL,qY,hol,←Nat.add_assoc,Int.pow_succ]
   have e3:q % 65536+65536*(q/65536)=q:=Int.emod_add_mul_ediv q 65536
   rw[Int.pow_add]at hov ⊢
   generalize (65536:Int)^i=Pi at*
   generalize (65536:Int)^(k/16)=Pk at*
   generalize (2:Int)^(k % 16)=Pm at*
   grind
  ·simp(disch:=omega)only[go_sem,h1]
   have hiA:i=A.length:=by omega
   subst hiA
   rw[List.take_length,abo]at hov
   have hov2:vl (out++[cy])=vl A*2^k:=by rw[jL,hol,hov];grind
   have hog2:gd (out++[cy]):=qQ.2 ⟨hog,z8.2 hcy⟩
   refine⟨by omega,?_⟩
   have hl2:out.length+1=(out++[cy]).length:=by simp
   rw[hl2]
   refine zv false [460000000] (jE (out++[cy]) (by simp;omega)) (by simp(disch:=omega)only[go_sem]) (by simp(disch:=omega)only[go_sem]) rfl (qJ (z:=1) (cs:=qb (out++[cy])) (by simp(disch:=omega)only[go_sem]) (by simp(disch:=omega)only[go_sem])) (by intro n hn;exact⟨_,List.mem_singleton.2 rfl,by rw[List.mem_singleton.1 hn];rfl⟩) ?_
   rintro r hs bs ⟨rfl,rfl,rfl⟩ _
   refine⟨by simp[qC],?_⟩
   simp(disch:=omega)only[go_sem]
   obtain⟨z,hz⟩:=zS (out++[cy])
   have hc:=jm hog2
   rw[hov2]at hc
   rw[hc]at hz ⊢
   refine qh [(0,460000000)] [.own 1 (qb (out++[cy]))] [] [.rf 0 0 (lim (vl A*2^k).toNat).length] rfl (by simp(disch:=omega)only[go_sem]) (by simp(disch:=omega)only[go_sem]) (by simp) (by intro _;simp[zl,AV.pu,AV.pu.puL,Ob.pu,qT]) (.inr ⟨List.replicate z 0,rfl,by rw[←hz]⟩)
end Go.Ab
namespace Go.Ab
open Go Go.Proofs
theorem drop_set{l:List Int}{i:Nat}(h:i<l.length)(z:Int):(l.set i z).drop i=z::l.drop (i+1):=by
 rw[List.drop_eq_getElem_cons (by simpa using h)]
 simp[List.drop_set]
theorem aJK(cl:Bool)(A:List Int)(d:Nat)(hA:gd A)(lA:A.length≤1000000)(hd:0<d)(hd2:d<65536):
  Con Tryz.prog 328 cl [.sl A.length (qb A),.v (.int .i64 d)] [] (fun r hs bs=>∃zs,r=.tu [.rf 0 0 (lim (vl A/d).toNat).length,.v (.int .i64 (vl A % d))]∧hs=[.own 1 (qb (lim (vl A/d).toNat++zs))]):=by
 refine Con.of_aw Tryz.func328 rfl Tryz.ntmps328 (by simp) (by simp) (by simp) (W.sound ?_)
 show @W Tryz.prog 38 ⟨_⟩ ⟨fun x σ=>@q9 _ _ _ ⟨_⟩ _ ⟨_⟩ x σ⟩ _ _
 simp(disch:=omega)only[go_sem]
 refine⟨by omega,?_⟩
 refine qi (fun x:Nat×List Int×Int=>[(0,.sl A.length (qb A)),(1,.v (.int .i64 d)),(6,.rf 130000000 0 A.length),(7,.v (.int .i64 x.2.2)),(8,.v (.int .i64 ((x.1:Int)-1)))])
  (fun x=>[(130000000,.own 1 (qb x.2.1))])
  (fun x=>x.1≤A.length∧x.2.1.length=A.length∧gd x.2.1∧x.2.2=vl (A.drop x.1) % d∧vl (x.2.1.drop x.1)=vl (A.drop x.1)/d)
  (fun x=>x.1) (A.length,List.replicate A.length 0,0) ⟨by simp,by simp,zt _,by simp[vl],by simp[vl]⟩
  (Le.lst [] _ _ rfl (by simp(disch:=omega)only[go_sem];try omega) (by simp(disch:=omega)only[go_sem])) ?_
 rintro⟨m,out,rest⟩ ⟨hm,hol,hog,hr,hov⟩
 dsimp only at hm hol hog hr hov ⊢
 simp(disch:=omega)only[go_sem]
 refine qg (fun h1=>?_) (fun h1=>?_)
 ·obtain⟨i,rfl⟩:∃i,m=i+1:=⟨m-1,by omega⟩
  have e1:((i+1:Nat):Int)-1=(i:Nat):=by omega
  have hx:=qP hA i
  have hr2:0≤rest∧rest<d:=by rw[hr];exact⟨Int.emod_nonneg _ (by omega),Int.emod_lt_of_pos _ (by omega)⟩
  generalize hq:rest*65536+A.getD i 0=q
  have hq0:0≤q:=by omega
  have hqd:0≤q/d∧q/d<65536:=⟨Int.ediv_nonneg hq0 (by omega),Int.ediv_lt_of_lt_mul (by omega) (by omega)⟩
  have hqm:0≤q % d∧q % d<d:=⟨Int.emod_nonneg _ (by omega),Int.emod_lt_of_pos _ (by omega)⟩
  simp(disch:=omega)only[go_sem,h1,e1,hq]
  refine⟨by omega,by omega,by omega,by omega,by omega,by omega,qe (i,out.set i (q/d),q % d) [] ⟨by show i≤_;omega,by simp[hol],yN hog hqd,?_,?_⟩ (by show i<i+1;omega) rfl (by simp(disch:=omega)only[go_sem]) (by simp(disch:=omega)only[go_sem])⟩
  ·show q % d=vl (A.drop i) % d
   rw[zH (l:=A) (i:=i) (by omega),←hq,hr]
   have h3:=Int.emod_add_mul_ediv (vl (A.drop (i+1))) d
   rw[show A.getD i 0+65536*vl (A.drop (i+1))=vl (A.drop (i+1)) % d*65536+A.getD i 0+d*(65536*(vl (A.drop (i+1))/d)) by grind,Int.add_mul_emod_self_left]
  ·show vl ((out.set i (q/d)).drop i)=vl (A.drop i)/d
   rw[drop_set (by omega),vl,hov,zH (l:=A) (i:=i) (by omega),←hq,hr]
   have h3:=Int.emod_add_mul_ediv (vl (A.drop (i+1))) d
   rw[show A.getD i 0+65536*vl (A.drop (i+1))=vl (A.drop (i+1)) % d*65536+A.getD i 0+d*(65536*(vl (A.drop (i+1))/d)) by grind,Int.add_mul_ediv_left _ _ (by omega)]
 ·simp(disch:=omega)only[go_sem,h1]
  have:m=0:=by omega
  subst this
  rw[List.drop_zero,List.drop_zero]at hov
  rw[List.drop_zero]at hr
  rw[←hol]
  refine zv false [130000000] (jE out (by omega)) (by simp(disch:=omega)only[go_sem]) (by simp(disch:=omega)only[go_sem]) rfl (qJ (z:=1) (cs:=qb out) (by simp(disch:=omega)only[go_sem]) (by simp(disch:=omega)only[go_sem])) (by intro n hn;exact⟨_,List.mem_singleton.2 rfl,by rw[List.mem_singleton.1 hn];rfl⟩) ?_
  rintro r hs bs ⟨rfl,rfl,rfl⟩ _
  refine⟨by simp[qC],?_⟩
  simp(disch:=omega)only[go_sem]
  obtain⟨z,hz⟩:=zS out
  have hc:=jm hog
  rw[hov]at hc
  rw[hc]at hz ⊢
  rw[hr]
  refine qh [(0,130000000)] [.own 1 (qb out)] [] [.rf 0 0 (lim (vl A/d).toNat).length,.v (.int .i64 (vl A % d))] rfl (by simp(disch:=omega)only[go_sem]) (by simp(disch:=omega)only[go_sem]) (by simp) (by intro _;simp[zl,AV.pu,AV.pu.puL,Ob.pu,qT]) ⟨List.replicate z 0,rfl,by rw[←hz]⟩
end Go.Ab
namespace Go.Ab
open Go Go.Proofs
def aWY(m:Nat)(r0:Int):AV→List Ob→List Ob→Prop:=fun r hs bs=>
 (m=0∧r=.tu [.ag [.v (.slice none 0 0)],.v (.int .i64 r0)]∧hs=[])∨∃zs,r=.tu [.ag [.rf 0 0 (lim m).length],.v (.int .i64 r0)]∧hs=[.own 1 (qb (lim m++zs))]
theorem Con.natF2{P:Program}{f:FuncId}{args:List AV}{m:Nat}{r0:Int}(h:Con P f false args [] (aWY m r0)):Con P f false args [] (isA (.tu [.ag [.sl (lim (m)).length (qb (lim (m)))],.v (.int .i64 r0)])):=
 Con.frzA <| h.mono fun r hs bs h=>by
  rcases h with⟨rfl,rfl,rfl⟩|⟨zs,rfl,rfl⟩
  ·show qM _ 6 _=_
   rw[qt];rfl
  ·show qM _ 6 _=_
   rw[Ju,List.map_cons,List.map_cons,List.map_nil,QE,List.map_cons,List.map_nil,zX (k:=2) (l:=lim m) (zs:=zs) qU rfl]
   rfl
theorem ZP(cl:Bool)(A:List Int)(d:Nat)(hA:gd A)(lA:A.length≤1000000)(hd:0<d)(hd2:d<65536)(m:Nat)(hm:vl A/(d:Int)=(m:Int)):
  Con Tryz.prog 300 cl [.ag [.sl A.length (qb A)],.v (.int .i64 d)] [] (aWY m (vl A % d)):=by
 refine Con.of_aw Tryz.func300 rfl Tryz.ntmps300 (by simp) (by simp) (by simp) (W.sound ?_)
 show @W Tryz.prog 42 ⟨_⟩ ⟨fun x σ=>@q9 _ _ _ ⟨_⟩ _ ⟨_⟩ x σ⟩ _ _
 simp(disch:=omega)only[go_sem]
 refine⟨by omega,?_⟩
 refine qi (fun x:Nat×List Int×Int=>[(1,.v (.int .i64 d)),(2,.pt 0 0),(4,.pt 1 0),(6,.rf 2 0 A.length),(7,.v (.int .i64 x.2.2)),(8,.v (.int .i64 ((x.1:Int)-1)))])
  (fun x=>[(0,.own 0 [.sl A.length (qb A)]),(1,.own 0 [.v (.slice none 0 0)]),(2,.own 1 (qb x.2.1))])
  (fun x=>x.1≤A.length∧x.2.1.length=A.length∧gd x.2.1∧x.2.2=vl (A.drop x.1) % d∧vl (x.2.1.drop x.1)=vl (A.drop x.1)/d)
  (fun x=>x.1) (A.length,List.replicate A.length 0,0) ⟨Nat.le_refl _,by simp,zt _,by simp[vl],by simp[vl]⟩
  (Le.lst [(0,40000000),(1,60000000),(2,150000000)] _ _ rfl (by simp(disch:=omega)only[go_sem,List.length_replicate];try omega) (by simp(disch:=omega)only[go_sem])) ?_
 rintro⟨k,out,rest⟩ ⟨hk,hol,hog,hr,hov⟩
 dsimp only at hk hol hog hr hov ⊢
 have hr0:0≤rest∧rest<d:=by rw[hr];exact⟨Int.emod_nonneg _ (by omega),Int.emod_lt_of_pos _ (by omega)⟩
 simp(disch:=omega)only[go_sem]
 refine qg (fun h1=>?_) (fun h1=>?_)
 ·obtain⟨i,rfl⟩:∃i,k=i+1:=⟨k-1,by omega⟩
  have ei:((i+1:Nat):Int)-1=(i:Nat):=by omega
  have hx:=qP hA i
  have hq6:0≤(rest*65536+A.getD i 0)/d∧(rest*65536+A.getD i 0)/d<65536:=by
   refine⟨Int.ediv_nonneg (by omega) (by omega),Int.ediv_lt_of_lt_mul (by omega) ?_⟩
   have:rest+1≤(d:Int):=by omega
   have:=Int.mul_le_mul_of_nonneg_left this (show(0:Int)≤65536 by omega)
   omega
  simp(disch:=omega)only[go_sem,h1,ei]
  generalize hq:rest*65536+A.getD i 0=q at*
  refine⟨by omega,by omega,by omega,by omega,by omega,by omega,qe (i,out.set i (q/d),q % d) [] ⟨by show i≤_;omega,by simp[hol],yN hog hq6,?_,?_⟩ (by show i<i+1;omega) rfl (by simp(disch:=omega)only[go_sem];try omega) (by simp(disch:=omega)only[go_sem])⟩
  ·show q % d=vl (A.drop i) % d
   rw[zH (l:=A) (i:=i) (by omega),←hq,hr]
   have h3:=Int.emod_add_mul_ediv (vl (A.drop (i+1))) d
   rw[show A.getD i 0+65536*vl (A.drop (i+1))=vl (A.drop (i+1)) % d*65536+A.getD i 0+d*(65536*(vl (A.drop (i+1))/d)) by grind,Int.add_mul_emod_self_left]
  ·show vl ((out.set i (q/d)).drop i)=vl (A.drop i)/d
   rw[drop_set (by omega),vl,hov,zH (l:=A) (i:=i) (by omega),←hq,hr]
   have h3:=Int.emod_add_mul_ediv (vl (A.drop (i+1))) d
   rw[show A.getD i 0+65536*vl (A.drop (i+1))=vl (A.drop (i+1)) % d*65536+A.getD i 0+d*(65536*(vl (A.drop (i+1))/d)) by grind,Int.add_mul_ediv_left _ _ (by omega)]
 ·simp(disch:=omega)only[go_sem,h1]
  have:k=0:=by omega
  subst this
  rw[List.drop_zero,List.drop_zero,hm]at hov
  rw[List.drop_zero]at hr
  rw[←hol]
  refine qB (jJ true out m (by omega) hog hov) (by simp(disch:=omega)only[go_sem]) ?_
  rintro r hs (⟨h0,rfl,rfl⟩|⟨zs,rfl,rfl⟩)
  ·refine⟨⟨by simp,by simp(disch:=omega)only[go_sem]⟩,?_⟩
   simp(disch:=omega)only[go_sem]
   rw[hr]
   refine qh [] [] [] [.ag [.v (.slice none 0 0)],.v (.int .i64 (vl A % d))] rfl (by simp(disch:=omega)only[go_sem]) (by simp(disch:=omega)only[go_sem]) (by simp) (by intro _;simp[zl,AV.pu,AV.pu.puL,Ob.pu,qT]) (.inl ⟨h0,rfl,rfl⟩)
  ·refine⟨⟨by simp,by simp(disch:=omega)only[go_sem]⟩,?_⟩
   simp(disch:=omega)only[go_sem]
   rw[hr]
   refine qh [(0,420000000)] [.own 1 (qb (lim m++zs))] [] [.ag [.rf 0 0 (lim m).length],.v (.int .i64 (vl A % d))] rfl (by simp(disch:=omega)only[go_sem]) (by simp(disch:=omega)only[go_sem]) (by simp) (by intro _;simp[zl,AV.pu,AV.pu.puL,Ob.pu,qT]) (.inr ⟨zs,rfl,rfl⟩)
theorem ack(a d:Nat)(la:(lim a).length≤1000000)(hd:0<d)(hd2:d<65536):
  Con Tryz.prog 300 false [.ag [.sl (lim (a)).length (qb (lim (a)))],.v (.int .i64 d)] [] (isA (.tu [.ag [.sl (lim (a/d)).length (qb (lim (a/d)))],.v (.int .i64 ((a % d:Nat):Int))])):=by
 have:=(ZP false (lim a) d (zd a) la hd hd2 (a/d) (by rw[q6,Int.natCast_ediv])).natF2
 rwa[q6,←Int.natCast_emod]at this
/-! ### Shifts-/
theorem as8{k:Nat}(hk:k<16):IntKind.i64.wrap (1*2^(min ((k:Int)).toNat 64))=((2^k:Nat):Int):=by
 have e:min ((k:Int)).toNat 64=k:=by omega
 rw[e,Int.one_mul]
 have h:=yW k hk
 rw[an9 (by omega) (by omega),Int.natCast_pow];rfl
theorem avv(cl:Bool)(a k:Nat)(la:(lim a).length≤400000)(hk:k≤5000000):Con Tryz.prog 276 cl [.ag [.sl (lim (a)).length (qb (lim (a)))],.v (.int .i64 k)] [] (aIc (a*2^k)):=by
 refine Con.of_aw Tryz.func276 rfl Tryz.ntmps276 (by simp) (by simp) (by simp) (W.sound ?_)
 show @W Tryz.prog 22 ⟨_⟩ ⟨fun x σ=>@q9 _ _ _ ⟨_⟩ _ ⟨_⟩ x σ⟩ _ _
 have hz:((lim a).length:Int)=0→a=0:=fun h=>qG.1 (List.length_eq_zero_iff.1 (by omega))
 have hvA:=q6 a
 have gA:=zd a
 generalize hLA:lim a=A at*
 simp(disch:=omega)only[go_sem]
 refine qg (fun h1=>?_) (fun h1=>?_)
 ·simp(disch:=omega)only[go_sem,h1]
  have h0:=hz h1
  subst h0
  refine qh [] [] [] [.ag [.v (.slice none 0 0)]] rfl (by simp(disch:=omega)only[go_sem]) (by simp(disch:=omega)only[go_sem]) (by simp) (by intro _;simp[zl,AV.pu,AV.pu.puL,Ob.pu,qT]) (.inl ⟨by simp,rfl,rfl⟩)
 ·simp(disch:=omega)only[go_sem,h1]
  refine qo rfl [⟨0,[],[]⟩,⟨1,[],[]⟩,⟨3,[],[]⟩,⟨4,[],[]⟩,⟨7,[4],[]⟩,⟨8,[4],[]⟩,⟨9,[4],[]⟩,⟨2,[4],[]⟩,⟨5,[],[]⟩,⟨6,[],[]⟩,⟨10,[],[]⟩,⟨11,[],[]⟩,⟨12,[],[]⟩] (by kernel_rfl) ?_
  have e16:((k:Int)/16).toNat=k/16:=by omega
  have e17:(k:Int) % 16=((k % 16:Nat):Int):=by omega
  have es:IntKind.i64.wrap (1*2^(min ((k:Int) % 16).toNat 64))=((2^(k % 16):Nat):Int):=by rw[e17];exact as8 (by omega)
  have hp15:2^(k % 16)≤2^15:=Nat.pow_le_pow_right (by omega) (by omega)
  have ecut:(List.replicate (k/16) (0:Int)).take (k/16)=List.replicate (k/16) 0:=List.take_of_length_le (by simp)
  simp(disch:=omega)only[go_sem,e16,ecut,es]
  refine⟨by omega,by omega,by simp;omega,?_⟩
  refine qa ((aib false (2^(k % 16)) (by omega)).natF) ?_
  simp(disch:=omega)only[go_sem]
  have hvA2:vl (List.replicate (k/16) 0++A)*((2^(k % 16):Nat):Int)=((a*2^k:Nat):Int):=by
   rw[QL,zV,hvA,List.length_replicate]
   have h2:a*2^k=65536^(k/16)*a*2^(k % 16):=by
    have:2^k=65536^(k/16)*2^(k % 16):=by rw[Jz,←Nat.pow_add,Nat.div_add_mod]
    rw[this];grind
   rw[h2,Int.natCast_mul,Int.natCast_mul,Int.natCast_pow]
   simp
  have gA2:gd (List.replicate (k/16) 0++A):=qQ.2 ⟨zt _,gA⟩
  have lA2:(List.replicate (k/16) (0:Int)++A).length=k/16+A.length:=by simp
  have et:(List.replicate (k/16) (0:Int)++A).take (k/16+A.length)=List.replicate (k/16) 0++A:=List.take_of_length_le (by simp)
  have l2s:(lim (2^(k % 16))).length≤1000000:=by
   have:=qz (m:=2^(k % 16)) (B:=16) (qX.2 (by omega));omega
  refine qB (YT true (List.replicate (k/16) 0++A) gA2 (2^(k % 16)) (by omega) l2s (a*2^k) hvA2) (by simp(disch:=omega)only[go_sem,lA2,et]) ?_
  rintro r hs (⟨h0,rfl,rfl⟩|⟨zs,rfl,rfl⟩)
  ·refine⟨⟨by simp,by simp(disch:=omega)only[go_sem]⟩,?_⟩
   simp(disch:=omega)only[go_sem]
   refine qh [] [] [] [.ag [.v (.slice none 0 0)]] rfl (by simp(disch:=omega)only[go_sem]) (by simp(disch:=omega)only[go_sem]) (by simp) (by intro _;simp[zl,AV.pu,AV.pu.puL,Ob.pu,qT]) (.inl ⟨h0,rfl,rfl⟩)
  ·refine⟨⟨by simp,by simp(disch:=omega)only[go_sem]⟩,?_⟩
   simp(disch:=omega)only[go_sem]
   refine qh [(0,230000000)] [.own 1 (qb (lim (a*2^k)++zs))] [] [.ag [.rf 0 0 (lim (a*2^k)).length]] rfl (by simp(disch:=omega)only[go_sem]) (by simp(disch:=omega)only[go_sem]) (by simp) (by intro _;simp[zl,AV.pu,AV.pu.puL,Ob.pu,qT]) (.inr ⟨zs,rfl,rfl⟩)
end Go.Ab
