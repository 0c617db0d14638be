/- What the proof of this claim stands on: the walks of the functions and the plain laws, part 3. -/
import Derived.Test.YtgkehjnacdccfaaGreatDoorFnRanksLib2
import Derived.Test.YtgkehjnacdccfaaGreatDoorProg
import Derived.KernelRfl
set_option linter.unusedVariables false
set_option linter.unusedSimpArgs false
namespace Go.Ab
open Go Go.Proofs
def ti1:TI:=⟨Kd.oth,1,8,Value.nilFunc⟩
theorem tf1:qr Tryz.prog 1=some ti1:=by kernel_rfl
def ti2:TI:=⟨Kd.int IntKind.i64,1,8,Value.int IntKind.i64 0⟩
theorem tf2:qr Tryz.prog 2=some ti2:=by kernel_rfl
def ti3:TI:=⟨Kd.int IntKind.i64,1,8,Value.int IntKind.i64 0⟩
theorem tf3:qr Tryz.prog 3=some ti3:=by kernel_rfl
def ti4:TI:=⟨Kd.bool,1,1,Value.bool false⟩
theorem tf4:qr Tryz.prog 4=some ti4:=by kernel_rfl
def ti5:TI:=⟨Kd.int IntKind.u8,1,1,Value.int IntKind.u8 0⟩
theorem tf5:qr Tryz.prog 5=some ti5:=by kernel_rfl
def ti6:TI:=⟨Kd.int IntKind.u8,1,1,Value.int IntKind.u8 0⟩
theorem tf6:qr Tryz.prog 6=some ti6:=by kernel_rfl
def ti7:TI:=⟨Kd.stru [(0,2),(1,3),(2,4),(3,6)],4,24,Value.agg ⟨[Value.int IntKind.i64 0,Value.int IntKind.i64 0,Value.bool false,Value.int IntKind.u8 0]⟩⟩
theorem tf7:qr Tryz.prog 7=some ti7:=by kernel_rfl
def ti8:TI:=⟨Kd.stru [(0,2),(1,3),(2,4),(3,6)],4,24,Value.agg ⟨[Value.int IntKind.i64 0,Value.int IntKind.i64 0,Value.bool false,Value.int IntKind.u8 0]⟩⟩
theorem tf8:qr Tryz.prog 8=some ti8:=by kernel_rfl
def ti9:TI:=⟨Kd.str,1,16,Value.string {data:=⟨[]⟩}⟩
theorem tf9:qr Tryz.prog 9=some ti9:=by kernel_rfl
def aIr:TI:=⟨Kd.str,1,16,Value.string {data:=⟨[]⟩}⟩
theorem bkD:qr Tryz.prog 10=some aIr:=by kernel_rfl
def aIq:TI:=⟨Kd.str,1,16,Value.string {data:=⟨[]⟩}⟩
theorem bkC:qr Tryz.prog 11=some aIq:=by kernel_rfl
def aIp:TI:=⟨Kd.int IntKind.u64,1,8,Value.int IntKind.u64 0⟩
theorem bkB:qr Tryz.prog 12=some aIp:=by kernel_rfl
def aIo:TI:=⟨Kd.int IntKind.i32,1,4,Value.int IntKind.i32 0⟩
theorem bkA:qr Tryz.prog 21=some aIo:=by kernel_rfl
def afK:TI:=⟨Kd.sli 5,1,24,Value.slice none 0 0⟩
theorem aIv:qr Tryz.prog 22=some afK:=by kernel_rfl
def afJ:TI:=⟨Kd.sli 42,1,24,Value.slice none 0 0⟩
theorem aIu:qr Tryz.prog 23=some afJ:=by kernel_rfl
def aor:TI:=⟨Kd.stru [(0,3),(1,23)],2,32,Value.agg ⟨[Value.int IntKind.i64 0,Value.slice none 0 0]⟩⟩
theorem aZF:qr Tryz.prog 24=some aor:=by kernel_rfl
def aog:TI:=⟨Kd.stru [(0,3),(1,23)],2,32,Value.agg ⟨[Value.int IntKind.i64 0,Value.slice none 0 0]⟩⟩
theorem aZE:qr Tryz.prog 25=some aog:=by kernel_rfl
def aIn:TI:=⟨Kd.oth,1,8,Value.nilFunc⟩
theorem bkz:qr Tryz.prog 27=some aIn:=by kernel_rfl
def afI:TI:=⟨Kd.sli 90,1,24,Value.slice none 0 0⟩
theorem aIt:qr Tryz.prog 28=some afI:=by kernel_rfl
def anG:TI:=⟨Kd.stru [(0,3),(1,28)],2,32,Value.agg ⟨[Value.int IntKind.i64 0,Value.slice none 0 0]⟩⟩
theorem aZD:qr Tryz.prog 29=some anG:=by kernel_rfl
def anv:TI:=⟨Kd.stru [(0,3),(1,28)],2,32,Value.agg ⟨[Value.int IntKind.i64 0,Value.slice none 0 0]⟩⟩
theorem aZC:qr Tryz.prog 30=some anv:=by kernel_rfl
def aIm:TI:=⟨Kd.oth,1,8,Value.nilFunc⟩
theorem bky:qr Tryz.prog 32=some aIm:=by kernel_rfl
def aIl:TI:=⟨Kd.oth,1,8,Value.nilFunc⟩
theorem bkx:qr Tryz.prog 33=some aIl:=by kernel_rfl
def aIk:TI:=⟨Kd.oth,1,8,Value.nilFunc⟩
theorem bkw:qr Tryz.prog 35=some aIk:=by kernel_rfl
def ZG:TI:=⟨Kd.sli 3,1,24,Value.slice none 0 0⟩
theorem K8:qr Tryz.prog 36=some ZG:=by kernel_rfl
def atT:TI:=⟨Kd.stru [(0,36)],1,24,Value.agg ⟨[Value.slice none 0 0]⟩⟩
theorem bcH:qr Tryz.prog 37=some atT:=by kernel_rfl
def abk:TI:=⟨Kd.stru [(0,36)],1,24,Value.agg ⟨[Value.slice none 0 0]⟩⟩
theorem aEv:qr Tryz.prog 38=some abk:=by kernel_rfl
def anj:TI:=⟨Kd.stru [(0,4),(1,38)],2,32,Value.agg ⟨[Value.bool false,Value.slice none 0 0]⟩⟩
theorem aZB:qr Tryz.prog 39=some anj:=by kernel_rfl
def Xg:TI:=⟨Kd.stru [(0,4),(1,38)],2,32,Value.agg ⟨[Value.bool false,Value.slice none 0 0]⟩⟩
theorem atV:qr Tryz.prog 40=some Xg:=by kernel_rfl
def anf:TI:=⟨Kd.stru [(0,40),(2,3)],3,40,Value.agg ⟨[Value.bool false,Value.slice none 0 0,Value.int IntKind.i64 0]⟩⟩
theorem aZA:qr Tryz.prog 41=some anf:=by kernel_rfl
def Zv:TI:=⟨Kd.stru [(0,40),(2,3)],3,40,Value.agg ⟨[Value.bool false,Value.slice none 0 0,Value.int IntKind.i64 0]⟩⟩
theorem K7:qr Tryz.prog 42=some Zv:=by kernel_rfl
def aIj:TI:=⟨Kd.oth,1,8,Value.nilFunc⟩
theorem bkv:qr Tryz.prog 43=some aIj:=by kernel_rfl
def aIi:TI:=⟨Kd.oth,1,8,Value.nilFunc⟩
theorem bku:qr Tryz.prog 44=some aIi:=by kernel_rfl
def aIh:TI:=⟨Kd.oth,1,8,Value.nilFunc⟩
theorem bkt:qr Tryz.prog 45=some aIh:=by kernel_rfl
def aIg:TI:=⟨Kd.oth,1,8,Value.nilFunc⟩
theorem bks:qr Tryz.prog 46=some aIg:=by kernel_rfl
def aIf:TI:=⟨Kd.oth,1,8,Value.nilFunc⟩
theorem bkr:qr Tryz.prog 47=some aIf:=by kernel_rfl
def aIe:TI:=⟨Kd.oth,1,8,Value.nilFunc⟩
theorem bkq:qr Tryz.prog 48=some aIe:=by kernel_rfl
def aId:TI:=⟨Kd.oth,1,8,Value.nilFunc⟩
theorem bkp:qr Tryz.prog 49=some aId:=by kernel_rfl
def aIc:TI:=⟨Kd.oth,1,8,Value.nilFunc⟩
theorem bko:qr Tryz.prog 50=some aIc:=by kernel_rfl
def aIb:TI:=⟨Kd.oth,1,8,Value.nilFunc⟩
theorem bkn:qr Tryz.prog 52=some aIb:=by kernel_rfl
def aIa:TI:=⟨Kd.oth,1,8,Value.nilFunc⟩
theorem bkm:qr Tryz.prog 53=some aIa:=by kernel_rfl
def aH9:TI:=⟨Kd.oth,1,8,Value.nilFunc⟩
theorem bkl:qr Tryz.prog 54=some aH9:=by kernel_rfl
def aH8:TI:=⟨Kd.oth,1,8,Value.nilFunc⟩
theorem bkk:qr Tryz.prog 55=some aH8:=by kernel_rfl
def aH7:TI:=⟨Kd.oth,1,8,Value.nilFunc⟩
theorem bkj:qr Tryz.prog 56=some aH7:=by kernel_rfl
def aH6:TI:=⟨Kd.oth,1,8,Value.nilFunc⟩
theorem bki:qr Tryz.prog 58=some aH6:=by kernel_rfl
def aH5:TI:=⟨Kd.oth,1,8,Value.nilFunc⟩
theorem bkh:qr Tryz.prog 60=some aH5:=by kernel_rfl
def aH4:TI:=⟨Kd.oth,1,8,Value.nilFunc⟩
theorem bkg:qr Tryz.prog 61=some aH4:=by kernel_rfl
def aH3:TI:=⟨Kd.oth,1,8,Value.nilFunc⟩
theorem bkf:qr Tryz.prog 62=some aH3:=by kernel_rfl
def aH2:TI:=⟨Kd.oth,1,8,Value.nilFunc⟩
theorem bke:qr Tryz.prog 64=some aH2:=by kernel_rfl
def aH1:TI:=⟨Kd.oth,1,8,Value.nilFunc⟩
theorem bkd:qr Tryz.prog 65=some aH1:=by kernel_rfl
def aH0:TI:=⟨Kd.oth,1,8,Value.nilFunc⟩
theorem bkc:qr Tryz.prog 66=some aH0:=by kernel_rfl
def aHZ:TI:=⟨Kd.oth,1,8,Value.nilFunc⟩
theorem bkb:qr Tryz.prog 67=some aHZ:=by kernel_rfl
def aHY:TI:=⟨Kd.oth,1,8,Value.nilFunc⟩
theorem bka:qr Tryz.prog 68=some aHY:=by kernel_rfl
def aHX:TI:=⟨Kd.oth,1,8,Value.nilFunc⟩
theorem bj9:qr Tryz.prog 69=some aHX:=by kernel_rfl
def aHW:TI:=⟨Kd.oth,1,8,Value.nilFunc⟩
theorem bj8:qr Tryz.prog 70=some aHW:=by kernel_rfl
def aHV:TI:=⟨Kd.oth,1,8,Value.nilFunc⟩
theorem bj7:qr Tryz.prog 71=some aHV:=by kernel_rfl
def aHU:TI:=⟨Kd.oth,1,8,Value.nilFunc⟩
theorem bj6:qr Tryz.prog 72=some aHU:=by kernel_rfl
def aHT:TI:=⟨Kd.oth,1,8,Value.nilFunc⟩
theorem bj5:qr Tryz.prog 73=some aHT:=by kernel_rfl
def afH:TI:=⟨Kd.sli 87,1,24,Value.slice none 0 0⟩
theorem aIs:qr Tryz.prog 74=some afH:=by kernel_rfl
def amG:TI:=⟨Kd.stru [(0,3),(1,74)],2,32,Value.agg ⟨[Value.int IntKind.i64 0,Value.slice none 0 0]⟩⟩
theorem aZz:qr Tryz.prog 75=some amG:=by kernel_rfl
def amE:TI:=⟨Kd.stru [(0,3),(1,74)],2,32,Value.agg ⟨[Value.int IntKind.i64 0,Value.slice none 0 0]⟩⟩
theorem aZy:qr Tryz.prog 76=some amE:=by kernel_rfl
def aHS:TI:=⟨Kd.oth,1,8,Value.nilFunc⟩
theorem bj4:qr Tryz.prog 77=some aHS:=by kernel_rfl
def aHR:TI:=⟨Kd.oth,1,8,Value.nilFunc⟩
theorem bj3:qr Tryz.prog 78=some aHR:=by kernel_rfl
def aHQ:TI:=⟨Kd.oth,1,8,Value.nilFunc⟩
theorem bj2:qr Tryz.prog 79=some aHQ:=by kernel_rfl
def aHP:TI:=⟨Kd.oth,1,8,Value.nilFunc⟩
theorem bj1:qr Tryz.prog 80=some aHP:=by kernel_rfl
def aHO:TI:=⟨Kd.oth,1,8,Value.nilFunc⟩
theorem bj0:qr Tryz.prog 81=some aHO:=by kernel_rfl
def aHN:TI:=⟨Kd.oth,1,8,Value.nilFunc⟩
theorem bjZ:qr Tryz.prog 82=some aHN:=by kernel_rfl
def abj:TI:=⟨Kd.stru [(0,36)],1,24,Value.agg ⟨[Value.slice none 0 0]⟩⟩
theorem aEu:qr Tryz.prog 83=some abj:=by kernel_rfl
def amu:TI:=⟨Kd.stru [(0,4),(1,83)],2,32,Value.agg ⟨[Value.bool false,Value.slice none 0 0]⟩⟩
theorem aZx:qr Tryz.prog 84=some amu:=by kernel_rfl
def Xf:TI:=⟨Kd.stru [(0,4),(1,83)],2,32,Value.agg ⟨[Value.bool false,Value.slice none 0 0]⟩⟩
theorem atU:qr Tryz.prog 85=some Xf:=by kernel_rfl
def amr:TI:=⟨Kd.stru [(0,85),(2,3)],3,40,Value.agg ⟨[Value.bool false,Value.slice none 0 0,Value.int IntKind.i64 0]⟩⟩
theorem aZw:qr Tryz.prog 86=some amr:=by kernel_rfl
def alZ:TI:=⟨Kd.stru [(0,85),(2,3)],3,40,Value.agg ⟨[Value.bool false,Value.slice none 0 0,Value.int IntKind.i64 0]⟩⟩
theorem aSk:qr Tryz.prog 87=some alZ:=by kernel_rfl
def aHM:TI:=⟨Kd.oth,1,8,Value.nilFunc⟩
theorem bjY:qr Tryz.prog 88=some aHM:=by kernel_rfl
def amn:TI:=⟨Kd.stru [(0,42),(3,42)],6,80,Value.agg ⟨[Value.bool false,Value.slice none 0 0,Value.int IntKind.i64 0,Value.bool false,Value.slice none 0 0,Value.int IntKind.i64 0]⟩⟩
theorem aZv:qr Tryz.prog 89=some amn:=by kernel_rfl
def alY:TI:=⟨Kd.stru [(0,42),(3,42)],6,80,Value.agg ⟨[Value.bool false,Value.slice none 0 0,Value.int IntKind.i64 0,Value.bool false,Value.slice none 0 0,Value.int IntKind.i64 0]⟩⟩
theorem aSj:qr Tryz.prog 90=some alY:=by kernel_rfl
def aHL:TI:=⟨Kd.oth,1,8,Value.nilFunc⟩
theorem bjX:qr Tryz.prog 92=some aHL:=by kernel_rfl
def aHK:TI:=⟨Kd.oth,1,8,Value.nilFunc⟩
theorem bjW:qr Tryz.prog 93=some aHK:=by kernel_rfl
def aHJ:TI:=⟨Kd.oth,1,8,Value.nilFunc⟩
theorem bjV:qr Tryz.prog 94=some aHJ:=by kernel_rfl
def aHI:TI:=⟨Kd.oth,1,8,Value.nilFunc⟩
theorem bjU:qr Tryz.prog 95=some aHI:=by kernel_rfl
def aHH:TI:=⟨Kd.oth,1,8,Value.nilFunc⟩
theorem bjT:qr Tryz.prog 96=some aHH:=by kernel_rfl
def aHG:TI:=⟨Kd.oth,1,8,Value.nilFunc⟩
theorem bjS:qr Tryz.prog 97=some aHG:=by kernel_rfl
def aHF:TI:=⟨Kd.oth,1,8,Value.nilFunc⟩
theorem bjR:qr Tryz.prog 98=some aHF:=by kernel_rfl
def aHE:TI:=⟨Kd.oth,1,8,Value.nilFunc⟩
theorem bjQ:qr Tryz.prog 99=some aHE:=by kernel_rfl
def K3:TI:=⟨Kd.oth,1,8,Value.nilFunc⟩
theorem bfv:qr Tryz.prog 101=some K3:=by kernel_rfl
def K2:TI:=⟨Kd.oth,1,8,Value.nilFunc⟩
theorem bfu:qr Tryz.prog 102=some K2:=by kernel_rfl
def K1:TI:=⟨Kd.oth,1,8,Value.nilFunc⟩
theorem bft:qr Tryz.prog 103=some K1:=by kernel_rfl
def K0:TI:=⟨Kd.oth,1,8,Value.nilFunc⟩
theorem bfs:qr Tryz.prog 104=some K0:=by kernel_rfl
def Qm:TI:=⟨Kd.sli 125,1,24,Value.slice none 0 0⟩
theorem K9:qr Tryz.prog 105=some Qm:=by kernel_rfl
def ZL:TI:=⟨Kd.stru [(0,3),(1,105)],2,32,Value.agg ⟨[Value.int IntKind.i64 0,Value.slice none 0 0]⟩⟩
theorem aEA:qr Tryz.prog 106=some ZL:=by kernel_rfl
def ZK:TI:=⟨Kd.stru [(0,3),(1,105)],2,32,Value.agg ⟨[Value.int IntKind.i64 0,Value.slice none 0 0]⟩⟩
theorem aEz:qr Tryz.prog 107=some ZK:=by kernel_rfl
def y8:TI:=⟨Kd.sli 117,1,24,Value.slice none 0 0⟩
theorem Ym:qr Tryz.prog 108=some y8:=by kernel_rfl
def ZJ:TI:=⟨Kd.stru [(0,3),(1,108)],2,32,Value.agg ⟨[Value.int IntKind.i64 0,Value.slice none 0 0]⟩⟩
theorem aEy:qr Tryz.prog 109=some ZJ:=by kernel_rfl
def ZI:TI:=⟨Kd.stru [(0,3),(1,108)],2,32,Value.agg ⟨[Value.int IntKind.i64 0,Value.slice none 0 0]⟩⟩
theorem aEx:qr Tryz.prog 110=some ZI:=by kernel_rfl
def KZ:TI:=⟨Kd.oth,1,8,Value.nilFunc⟩
theorem bfr:qr Tryz.prog 111=some KZ:=by kernel_rfl
def KY:TI:=⟨Kd.oth,1,8,Value.nilFunc⟩
theorem bfq:qr Tryz.prog 112=some KY:=by kernel_rfl
def KX:TI:=⟨Kd.oth,1,8,Value.nilFunc⟩
theorem bfp:qr Tryz.prog 113=some KX:=by kernel_rfl
def KW:TI:=⟨Kd.oth,1,8,Value.nilFunc⟩
theorem bfo:qr Tryz.prog 114=some KW:=by kernel_rfl
def KU:TI:=⟨Kd.oth,1,8,Value.nilFunc⟩
theorem bfn:qr Tryz.prog 115=some KU:=by kernel_rfl
def Zo:TI:=⟨Kd.stru [(0,4),(1,36),(2,3)],3,40,Value.agg ⟨[Value.bool false,Value.slice none 0 0,Value.int IntKind.i64 0]⟩⟩
theorem aqM:qr Tryz.prog 116=some Zo:=by kernel_rfl
def jo:TI:=⟨Kd.stru [(0,4),(1,36),(2,3)],3,40,Value.agg ⟨[Value.bool false,Value.slice none 0 0,Value.int IntKind.i64 0]⟩⟩
theorem yl:qr Tryz.prog 117=some jo:=by kernel_rfl
def KT:TI:=⟨Kd.oth,1,8,Value.nilFunc⟩
theorem bfm:qr Tryz.prog 118=some KT:=by kernel_rfl
def KS:TI:=⟨Kd.oth,1,8,Value.nilFunc⟩
theorem bfl:qr Tryz.prog 119=some KS:=by kernel_rfl
def KR:TI:=⟨Kd.oth,1,8,Value.nilFunc⟩
theorem bfk:qr Tryz.prog 120=some KR:=by kernel_rfl
def KQ:TI:=⟨Kd.oth,1,8,Value.nilFunc⟩
theorem bfj:qr Tryz.prog 121=some KQ:=by kernel_rfl
def KP:TI:=⟨Kd.oth,1,8,Value.nilFunc⟩
theorem bfi:qr Tryz.prog 122=some KP:=by kernel_rfl
def KO:TI:=⟨Kd.oth,1,8,Value.nilFunc⟩
theorem bfh:qr Tryz.prog 123=some KO:=by kernel_rfl
def ZH:TI:=⟨Kd.stru [(0,117),(3,117)],6,80,Value.agg ⟨[Value.bool false,Value.slice none 0 0,Value.int IntKind.i64 0,Value.bool false,Value.slice none 0 0,Value.int IntKind.i64 0]⟩⟩
theorem aEw:qr Tryz.prog 124=some ZH:=by kernel_rfl
def Zn:TI:=⟨Kd.stru [(0,117),(3,117)],6,80,Value.agg ⟨[Value.bool false,Value.slice none 0 0,Value.int IntKind.i64 0,Value.bool false,Value.slice none 0 0,Value.int IntKind.i64 0]⟩⟩
theorem aqL:qr Tryz.prog 125=some Zn:=by kernel_rfl
def KN:TI:=⟨Kd.oth,1,8,Value.nilFunc⟩
theorem bfg:qr Tryz.prog 127=some KN:=by kernel_rfl
def KM:TI:=⟨Kd.oth,1,8,Value.nilFunc⟩
theorem bff:qr Tryz.prog 128=some KM:=by kernel_rfl
def KL:TI:=⟨Kd.oth,1,8,Value.nilFunc⟩
theorem bfe:qr Tryz.prog 129=some KL:=by kernel_rfl
def KK:TI:=⟨Kd.oth,1,8,Value.nilFunc⟩
theorem bfd:qr Tryz.prog 130=some KK:=by kernel_rfl
def KJ:TI:=⟨Kd.oth,1,8,Value.nilFunc⟩
theorem bfc:qr Tryz.prog 131=some KJ:=by kernel_rfl
def KI:TI:=⟨Kd.oth,1,8,Value.nilFunc⟩
theorem bfb:qr Tryz.prog 132=some KI:=by kernel_rfl
def KH:TI:=⟨Kd.oth,1,8,Value.nilFunc⟩
theorem bfa:qr Tryz.prog 133=some KH:=by kernel_rfl
def KG:TI:=⟨Kd.oth,1,8,Value.nilFunc⟩
theorem be9:qr Tryz.prog 134=some KG:=by kernel_rfl
def KF:TI:=⟨Kd.oth,1,8,Value.nilFunc⟩
theorem be8:qr Tryz.prog 135=some KF:=by kernel_rfl
def KE:TI:=⟨Kd.oth,1,8,Value.nilFunc⟩
theorem be7:qr Tryz.prog 136=some KE:=by kernel_rfl
def KD:TI:=⟨Kd.oth,1,8,Value.nilFunc⟩
theorem be6:qr Tryz.prog 137=some KD:=by kernel_rfl
def KC:TI:=⟨Kd.oth,1,8,Value.nilFunc⟩
theorem be5:qr Tryz.prog 138=some KC:=by kernel_rfl
def KB:TI:=⟨Kd.oth,1,8,Value.nilFunc⟩
theorem be4:qr Tryz.prog 139=some KB:=by kernel_rfl
def KA:TI:=⟨Kd.oth,1,8,Value.nilFunc⟩
theorem be3:qr Tryz.prog 141=some KA:=by kernel_rfl
def Kz:TI:=⟨Kd.oth,1,8,Value.nilFunc⟩
theorem be2:qr Tryz.prog 142=some Kz:=by kernel_rfl
def Ky:TI:=⟨Kd.oth,1,8,Value.nilFunc⟩
theorem be1:qr Tryz.prog 143=some Ky:=by kernel_rfl
def Kx:TI:=⟨Kd.oth,1,8,Value.nilFunc⟩
theorem be0:qr Tryz.prog 144=some Kx:=by kernel_rfl
def Kw:TI:=⟨Kd.oth,1,8,Value.nilFunc⟩
theorem beZ:qr Tryz.prog 145=some Kw:=by kernel_rfl
def Kv:TI:=⟨Kd.oth,1,8,Value.nilFunc⟩
theorem beY:qr Tryz.prog 146=some Kv:=by kernel_rfl
def Ku:TI:=⟨Kd.oth,1,8,Value.nilFunc⟩
theorem beX:qr Tryz.prog 147=some Ku:=by kernel_rfl
def Kt:TI:=⟨Kd.oth,1,8,Value.nilFunc⟩
theorem beW:qr Tryz.prog 148=some Kt:=by kernel_rfl
def Ks:TI:=⟨Kd.oth,1,8,Value.nilFunc⟩
theorem beV:qr Tryz.prog 149=some Ks:=by kernel_rfl
def Kr:TI:=⟨Kd.oth,1,8,Value.nilFunc⟩
theorem beU:qr Tryz.prog 150=some Kr:=by kernel_rfl
def Kq:TI:=⟨Kd.oth,1,8,Value.nilFunc⟩
theorem beT:qr Tryz.prog 151=some Kq:=by kernel_rfl
def Kp:TI:=⟨Kd.oth,1,8,Value.nilFunc⟩
theorem beS:qr Tryz.prog 152=some Kp:=by kernel_rfl
def Ko:TI:=⟨Kd.oth,1,8,Value.nilFunc⟩
theorem beR:qr Tryz.prog 153=some Ko:=by kernel_rfl
def Kn:TI:=⟨Kd.oth,1,8,Value.nilFunc⟩
theorem beQ:qr Tryz.prog 154=some Kn:=by kernel_rfl
def Km:TI:=⟨Kd.oth,1,8,Value.nilFunc⟩
theorem beP:qr Tryz.prog 155=some Km:=by kernel_rfl
def Kl:TI:=⟨Kd.oth,1,8,Value.nilFunc⟩
theorem beO:qr Tryz.prog 156=some Kl:=by kernel_rfl
def Kk:TI:=⟨Kd.oth,1,8,Value.nilFunc⟩
theorem beN:qr Tryz.prog 157=some Kk:=by kernel_rfl
def Kj:TI:=⟨Kd.oth,1,8,Value.nilFunc⟩
theorem beM:qr Tryz.prog 158=some Kj:=by kernel_rfl
def Ki:TI:=⟨Kd.oth,1,8,Value.nilFunc⟩
theorem beL:qr Tryz.prog 159=some Ki:=by kernel_rfl
def Kh:TI:=⟨Kd.oth,1,8,Value.nilFunc⟩
theorem beK:qr Tryz.prog 160=some Kh:=by kernel_rfl
def Kg:TI:=⟨Kd.oth,1,8,Value.nilFunc⟩
theorem beJ:qr Tryz.prog 161=some Kg:=by kernel_rfl
def Kf:TI:=⟨Kd.oth,1,8,Value.nilFunc⟩
theorem beI:qr Tryz.prog 162=some Kf:=by kernel_rfl
def Ke:TI:=⟨Kd.oth,1,8,Value.nilFunc⟩
theorem beH:qr Tryz.prog 163=some Ke:=by kernel_rfl
def Kc:TI:=⟨Kd.oth,1,8,Value.nilFunc⟩
theorem beG:qr Tryz.prog 164=some Kc:=by kernel_rfl
def Kb:TI:=⟨Kd.oth,1,8,Value.nilFunc⟩
theorem beF:qr Tryz.prog 165=some Kb:=by kernel_rfl
def Ka:TI:=⟨Kd.oth,1,8,Value.nilFunc⟩
theorem beE:qr Tryz.prog 166=some Ka:=by kernel_rfl
def V9:TI:=⟨Kd.oth,1,8,Value.nilFunc⟩
theorem beD:qr Tryz.prog 167=some V9:=by kernel_rfl
def V8:TI:=⟨Kd.oth,1,8,Value.nilFunc⟩
theorem beC:qr Tryz.prog 168=some V8:=by kernel_rfl
def V7:TI:=⟨Kd.oth,1,8,Value.nilFunc⟩
theorem beB:qr Tryz.prog 169=some V7:=by kernel_rfl
def V6:TI:=⟨Kd.oth,1,8,Value.nilFunc⟩
theorem beA:qr Tryz.prog 170=some V6:=by kernel_rfl
def V5:TI:=⟨Kd.oth,1,8,Value.nilFunc⟩
theorem bez:qr Tryz.prog 171=some V5:=by kernel_rfl
def V4:TI:=⟨Kd.oth,1,8,Value.nilFunc⟩
theorem bey:qr Tryz.prog 172=some V4:=by kernel_rfl
def V3:TI:=⟨Kd.oth,1,8,Value.nilFunc⟩
theorem bex:qr Tryz.prog 173=some V3:=by kernel_rfl
def V2:TI:=⟨Kd.oth,1,8,Value.nilFunc⟩
theorem bew:qr Tryz.prog 174=some V2:=by kernel_rfl
def V1:TI:=⟨Kd.oth,1,8,Value.nilFunc⟩
theorem bev:qr Tryz.prog 175=some V1:=by kernel_rfl
def Zm:TI:=⟨Kd.stru [(0,22),(1,3),(2,3)],3,40,Value.agg ⟨[Value.slice none 0 0,Value.int IntKind.i64 0,Value.int IntKind.i64 0]⟩⟩
theorem aqK:qr Tryz.prog 176=some Zm:=by kernel_rfl
def Zl:TI:=⟨Kd.stru [(0,22),(1,3),(2,3)],3,40,Value.agg ⟨[Value.slice none 0 0,Value.int IntKind.i64 0,Value.int IntKind.i64 0]⟩⟩
theorem aqJ:qr Tryz.prog 177=some Zl:=by kernel_rfl
def V0:TI:=⟨Kd.oth,1,8,Value.nilFunc⟩
theorem beu:qr Tryz.prog 178=some V0:=by kernel_rfl
def VZ:TI:=⟨Kd.oth,1,8,Value.nilFunc⟩
theorem bet:qr Tryz.prog 179=some VZ:=by kernel_rfl
def VY:TI:=⟨Kd.oth,1,8,Value.nilFunc⟩
theorem bes:qr Tryz.prog 180=some VY:=by kernel_rfl
def VX:TI:=⟨Kd.oth,1,8,Value.nilFunc⟩
theorem ber:qr Tryz.prog 181=some VX:=by kernel_rfl
def VW:TI:=⟨Kd.oth,1,8,Value.nilFunc⟩
theorem bep:qr Tryz.prog 182=some VW:=by kernel_rfl
def VV:TI:=⟨Kd.oth,1,8,Value.nilFunc⟩
theorem beo:qr Tryz.prog 183=some VV:=by kernel_rfl
def VU:TI:=⟨Kd.oth,1,8,Value.nilFunc⟩
theorem ben:qr Tryz.prog 184=some VU:=by kernel_rfl
def VT:TI:=⟨Kd.oth,1,8,Value.nilFunc⟩
theorem bem:qr Tryz.prog 185=some VT:=by kernel_rfl
def VS:TI:=⟨Kd.oth,1,8,Value.nilFunc⟩
theorem bel:qr Tryz.prog 186=some VS:=by kernel_rfl
def VR:TI:=⟨Kd.oth,1,8,Value.nilFunc⟩
theorem bek:qr Tryz.prog 188=some VR:=by kernel_rfl
def VQ:TI:=⟨Kd.oth,1,8,Value.nilFunc⟩
theorem bej:qr Tryz.prog 189=some VQ:=by kernel_rfl
def VP:TI:=⟨Kd.oth,1,8,Value.nilFunc⟩
theorem bei:qr Tryz.prog 190=some VP:=by kernel_rfl
def VO:TI:=⟨Kd.oth,1,8,Value.nilFunc⟩
theorem beh:qr Tryz.prog 191=some VO:=by kernel_rfl
def VN:TI:=⟨Kd.oth,1,8,Value.nilFunc⟩
theorem beg:qr Tryz.prog 192=some VN:=by kernel_rfl
def VM:TI:=⟨Kd.oth,1,8,Value.nilFunc⟩
theorem bef:qr Tryz.prog 193=some VM:=by kernel_rfl
def VL:TI:=⟨Kd.oth,1,8,Value.nilFunc⟩
theorem bee:qr Tryz.prog 194=some VL:=by kernel_rfl
def VK:TI:=⟨Kd.sli 108,1,24,Value.slice none 0 0⟩
theorem aSl:qr Tryz.prog 195=some VK:=by kernel_rfl
def VJ:TI:=⟨Kd.oth,1,8,Value.nilFunc⟩
theorem bed:qr Tryz.prog 196=some VJ:=by kernel_rfl
def VI:TI:=⟨Kd.oth,1,8,Value.nilFunc⟩
theorem bec:qr Tryz.prog 197=some VI:=by kernel_rfl
def VH:TI:=⟨Kd.oth,1,8,Value.nilFunc⟩
theorem beb:qr Tryz.prog 198=some VH:=by kernel_rfl
def VG:TI:=⟨Kd.oth,1,8,Value.nilFunc⟩
theorem bea:qr Tryz.prog 200=some VG:=by kernel_rfl
def VF:TI:=⟨Kd.oth,1,8,Value.nilFunc⟩
theorem bd9:qr Tryz.prog 201=some VF:=by kernel_rfl
def VE:TI:=⟨Kd.oth,1,8,Value.nilFunc⟩
theorem bd8:qr Tryz.prog 202=some VE:=by kernel_rfl
def VD:TI:=⟨Kd.oth,1,8,Value.nilFunc⟩
theorem bd7:qr Tryz.prog 204=some VD:=by kernel_rfl
def VC:TI:=⟨Kd.oth,1,8,Value.nilFunc⟩
theorem bd6:qr Tryz.prog 206=some VC:=by kernel_rfl
def VB:TI:=⟨Kd.oth,1,8,Value.nilFunc⟩
theorem bd5:qr Tryz.prog 207=some VB:=by kernel_rfl
def VA:TI:=⟨Kd.oth,1,8,Value.nilFunc⟩
theorem bd2:qr Tryz.prog 208=some VA:=by kernel_rfl
def Vz:TI:=⟨Kd.oth,1,8,Value.nilFunc⟩
theorem bd1:qr Tryz.prog 209=some Vz:=by kernel_rfl
def Vy:TI:=⟨Kd.oth,1,8,Value.nilFunc⟩
theorem bdZ:qr Tryz.prog 210=some Vy:=by kernel_rfl
def Vx:TI:=⟨Kd.oth,1,8,Value.nilFunc⟩
theorem bdY:qr Tryz.prog 211=some Vx:=by kernel_rfl
def Vw:TI:=⟨Kd.oth,1,8,Value.nilFunc⟩
theorem bdX:qr Tryz.prog 213=some Vw:=by kernel_rfl
def Vv:TI:=⟨Kd.oth,1,8,Value.nilFunc⟩
theorem bdW:qr Tryz.prog 214=some Vv:=by kernel_rfl
def Vu:TI:=⟨Kd.oth,1,8,Value.nilFunc⟩
theorem bdV:qr Tryz.prog 215=some Vu:=by kernel_rfl
def Vt:TI:=⟨Kd.oth,1,8,Value.nilFunc⟩
theorem bdU:qr Tryz.prog 216=some Vt:=by kernel_rfl
def Vs:TI:=⟨Kd.oth,1,8,Value.nilFunc⟩
theorem bdT:qr Tryz.prog 217=some Vs:=by kernel_rfl
def Vr:TI:=⟨Kd.oth,1,8,Value.nilFunc⟩
theorem bdS:qr Tryz.prog 218=some Vr:=by kernel_rfl
def Vq:TI:=⟨Kd.oth,1,8,Value.nilFunc⟩
theorem bdR:qr Tryz.prog 219=some Vq:=by kernel_rfl
def Vp:TI:=⟨Kd.oth,1,8,Value.nilFunc⟩
theorem bdQ:qr Tryz.prog 220=some Vp:=by kernel_rfl
def Vo:TI:=⟨Kd.oth,1,8,Value.nilFunc⟩
theorem bdP:qr Tryz.prog 221=some Vo:=by kernel_rfl
def Vn:TI:=⟨Kd.oth,1,8,Value.nilFunc⟩
theorem bdO:qr Tryz.prog 222=some Vn:=by kernel_rfl
def Vm:TI:=⟨Kd.oth,1,8,Value.nilFunc⟩
theorem bdN:qr Tryz.prog 223=some Vm:=by kernel_rfl
def Vl:TI:=⟨Kd.oth,1,8,Value.nilFunc⟩
theorem bdM:qr Tryz.prog 224=some Vl:=by kernel_rfl
def Vk:TI:=⟨Kd.oth,1,8,Value.nilFunc⟩
theorem bdL:qr Tryz.prog 225=some Vk:=by kernel_rfl
def Vj:TI:=⟨Kd.oth,1,8,Value.nilFunc⟩
theorem bdK:qr Tryz.prog 226=some Vj:=by kernel_rfl
def Vi:TI:=⟨Kd.oth,1,8,Value.nilFunc⟩
theorem bdJ:qr Tryz.prog 227=some Vi:=by kernel_rfl
def Vh:TI:=⟨Kd.oth,1,8,Value.nilFunc⟩
theorem bdI:qr Tryz.prog 228=some Vh:=by kernel_rfl
def Vg:TI:=⟨Kd.oth,1,8,Value.nilFunc⟩
theorem bdH:qr Tryz.prog 229=some Vg:=by kernel_rfl
def Vf:TI:=⟨Kd.oth,1,8,Value.nilFunc⟩
theorem bdG:qr Tryz.prog 230=some Vf:=by kernel_rfl
def Ve:TI:=⟨Kd.oth,1,8,Value.nilFunc⟩
theorem bdF:qr Tryz.prog 231=some Ve:=by kernel_rfl
def Vd:TI:=⟨Kd.oth,1,8,Value.nilFunc⟩
theorem bdE:qr Tryz.prog 233=some Vd:=by kernel_rfl
def Vc:TI:=⟨Kd.oth,1,8,Value.nilFunc⟩
theorem bdD:qr Tryz.prog 234=some Vc:=by kernel_rfl
def Vb:TI:=⟨Kd.oth,1,8,Value.nilFunc⟩
theorem bdC:qr Tryz.prog 235=some Vb:=by kernel_rfl
def Va:TI:=⟨Kd.oth,1,8,Value.nilFunc⟩
theorem bdB:qr Tryz.prog 236=some Va:=by kernel_rfl
def X9:TI:=⟨Kd.oth,1,8,Value.nilFunc⟩
theorem bdA:qr Tryz.prog 237=some X9:=by kernel_rfl
def X8:TI:=⟨Kd.oth,1,8,Value.nilFunc⟩
theorem bdz:qr Tryz.prog 238=some X8:=by kernel_rfl
def X7:TI:=⟨Kd.oth,1,8,Value.nilFunc⟩
theorem bdy:qr Tryz.prog 239=some X7:=by kernel_rfl
def X6:TI:=⟨Kd.oth,1,8,Value.nilFunc⟩
theorem bdx:qr Tryz.prog 240=some X6:=by kernel_rfl
def X5:TI:=⟨Kd.oth,1,8,Value.nilFunc⟩
theorem bdw:qr Tryz.prog 241=some X5:=by kernel_rfl
def X4:TI:=⟨Kd.oth,1,8,Value.nilFunc⟩
theorem bdv:qr Tryz.prog 242=some X4:=by kernel_rfl
def X3:TI:=⟨Kd.oth,1,8,Value.nilFunc⟩
theorem bdu:qr Tryz.prog 243=some X3:=by kernel_rfl
def X2:TI:=⟨Kd.oth,1,8,Value.nilFunc⟩
theorem bdt:qr Tryz.prog 244=some X2:=by kernel_rfl
def X1:TI:=⟨Kd.oth,1,8,Value.nilFunc⟩
theorem bds:qr Tryz.prog 245=some X1:=by kernel_rfl
def X0:TI:=⟨Kd.oth,1,8,Value.nilFunc⟩
theorem bdr:qr Tryz.prog 246=some X0:=by kernel_rfl
def XZ:TI:=⟨Kd.oth,1,8,Value.nilFunc⟩
theorem bdq:qr Tryz.prog 247=some XZ:=by kernel_rfl
def XY:TI:=⟨Kd.oth,1,8,Value.nilFunc⟩
theorem bdp:qr Tryz.prog 248=some XY:=by kernel_rfl
def XX:TI:=⟨Kd.oth,1,8,Value.nilFunc⟩
theorem bdo:qr Tryz.prog 250=some XX:=by kernel_rfl
def XW:TI:=⟨Kd.oth,1,8,Value.nilFunc⟩
theorem bdn:qr Tryz.prog 252=some XW:=by kernel_rfl
def XV:TI:=⟨Kd.oth,1,8,Value.nilFunc⟩
theorem bdm:qr Tryz.prog 253=some XV:=by kernel_rfl
def XU:TI:=⟨Kd.oth,1,8,Value.nilFunc⟩
theorem bdl:qr Tryz.prog 254=some XU:=by kernel_rfl
def XT:TI:=⟨Kd.oth,1,8,Value.nilFunc⟩
theorem bdk:qr Tryz.prog 255=some XT:=by kernel_rfl
def XS:TI:=⟨Kd.oth,1,8,Value.nilFunc⟩
theorem bdj:qr Tryz.prog 256=some XS:=by kernel_rfl
def XR:TI:=⟨Kd.oth,1,8,Value.nilFunc⟩
theorem bdi:qr Tryz.prog 257=some XR:=by kernel_rfl
def XQ:TI:=⟨Kd.oth,1,8,Value.nilFunc⟩
theorem bdh:qr Tryz.prog 258=some XQ:=by kernel_rfl
def XP:TI:=⟨Kd.oth,1,8,Value.nilFunc⟩
theorem bdg:qr Tryz.prog 259=some XP:=by kernel_rfl
def XO:TI:=⟨Kd.oth,1,8,Value.nilFunc⟩
theorem bdf:qr Tryz.prog 260=some XO:=by kernel_rfl
def XN:TI:=⟨Kd.oth,1,8,Value.nilFunc⟩
theorem bde:qr Tryz.prog 261=some XN:=by kernel_rfl
def XM:TI:=⟨Kd.oth,1,8,Value.nilFunc⟩
theorem bdd:qr Tryz.prog 262=some XM:=by kernel_rfl
def XL:TI:=⟨Kd.oth,1,8,Value.nilFunc⟩
theorem bdc:qr Tryz.prog 263=some XL:=by kernel_rfl
def XK:TI:=⟨Kd.int IntKind.u64,1,8,Value.int IntKind.u64 0⟩
theorem bdb:qr Tryz.prog 264=some XK:=by kernel_rfl
def XJ:TI:=⟨Kd.oth,1,8,Value.nilFunc⟩
theorem bda:qr Tryz.prog 265=some XJ:=by kernel_rfl
def XI:TI:=⟨Kd.oth,1,8,Value.nilFunc⟩
theorem bc9:qr Tryz.prog 266=some XI:=by kernel_rfl
def XH:TI:=⟨Kd.oth,1,8,Value.nilFunc⟩
theorem bc8:qr Tryz.prog 267=some XH:=by kernel_rfl
def XG:TI:=⟨Kd.oth,1,8,Value.nilFunc⟩
theorem bc7:qr Tryz.prog 269=some XG:=by kernel_rfl
def XF:TI:=⟨Kd.oth,1,8,Value.nilFunc⟩
theorem bc6:qr Tryz.prog 271=some XF:=by kernel_rfl
def XE:TI:=⟨Kd.oth,1,8,Value.nilFunc⟩
theorem bc5:qr Tryz.prog 273=some XE:=by kernel_rfl
def XD:TI:=⟨Kd.oth,1,8,Value.nilFunc⟩
theorem bc4:qr Tryz.prog 274=some XD:=by kernel_rfl
def XC:TI:=⟨Kd.int IntKind.u32,1,4,Value.int IntKind.u32 0⟩
theorem bc3:qr Tryz.prog 275=some XC:=by kernel_rfl
def XB:TI:=⟨Kd.oth,1,8,Value.nilFunc⟩
theorem bc2:qr Tryz.prog 276=some XB:=by kernel_rfl
def XA:TI:=⟨Kd.int IntKind.u64,1,8,Value.int IntKind.u64 0⟩
theorem bc1:qr Tryz.prog 277=some XA:=by kernel_rfl
def Xz:TI:=⟨Kd.oth,1,8,Value.nilFunc⟩
theorem bc0:qr Tryz.prog 278=some Xz:=by kernel_rfl
def Xy:TI:=⟨Kd.oth,1,8,Value.nilFunc⟩
theorem bcZ:qr Tryz.prog 279=some Xy:=by kernel_rfl
def Xx:TI:=⟨Kd.oth,1,8,Value.nilFunc⟩
theorem bcY:qr Tryz.prog 281=some Xx:=by kernel_rfl
def Xw:TI:=⟨Kd.oth,1,8,Value.nilFunc⟩
theorem bcX:qr Tryz.prog 282=some Xw:=by kernel_rfl
def Xv:TI:=⟨Kd.oth,1,8,Value.nilFunc⟩
theorem bcW:qr Tryz.prog 283=some Xv:=by kernel_rfl
def Xu:TI:=⟨Kd.oth,1,8,Value.nilFunc⟩
theorem bcV:qr Tryz.prog 287=some Xu:=by kernel_rfl
def Xt:TI:=⟨Kd.oth,1,8,Value.nilFunc⟩
theorem bcU:qr Tryz.prog 288=some Xt:=by kernel_rfl
def Xs:TI:=⟨Kd.oth,1,8,Value.nilFunc⟩
theorem bcT:qr Tryz.prog 289=some Xs:=by kernel_rfl
def Xr:TI:=⟨Kd.oth,1,8,Value.nilFunc⟩
theorem bcS:qr Tryz.prog 290=some Xr:=by kernel_rfl
def Xq:TI:=⟨Kd.oth,1,8,Value.nilFunc⟩
theorem bcR:qr Tryz.prog 291=some Xq:=by kernel_rfl
def Xp:TI:=⟨Kd.stru [(0,294)],0,0,Value.agg ⟨[]⟩⟩
theorem bcQ:qr Tryz.prog 295=some Xp:=by kernel_rfl
def Xo:TI:=⟨Kd.stru [(0,294)],0,0,Value.agg ⟨[]⟩⟩
theorem bcP:qr Tryz.prog 296=some Xo:=by kernel_rfl
def Xn:TI:=⟨Kd.int IntKind.u8,1,1,Value.int IntKind.u8 0⟩
theorem bcO:qr Tryz.prog 297=some Xn:=by kernel_rfl
def Xm:TI:=⟨Kd.int IntKind.u8,1,1,Value.int IntKind.u8 0⟩
theorem bcN:qr Tryz.prog 298=some Xm:=by kernel_rfl
def Xl:TI:=⟨Kd.oth,1,8,Value.nilFunc⟩
theorem bcM:qr Tryz.prog 299=some Xl:=by kernel_rfl
def Xk:TI:=⟨Kd.int IntKind.i32,1,4,Value.int IntKind.i32 0⟩
theorem bcL:qr Tryz.prog 301=some Xk:=by kernel_rfl
def Xj:TI:=⟨Kd.int IntKind.i32,1,4,Value.int IntKind.i32 0⟩
theorem bcK:qr Tryz.prog 302=some Xj:=by kernel_rfl
def Xi:TI:=⟨Kd.oth,1,8,Value.nilFunc⟩
theorem bcJ:qr Tryz.prog 305=some Xi:=by kernel_rfl
def Xh:TI:=⟨Kd.oth,1,8,Value.nilFunc⟩
theorem bcI:qr Tryz.prog 306=some Xh:=by kernel_rfl
theorem ty1{K:TI→Prop}:@tyW Tryz.prog 1 ⟨K⟩=K ti1:=qj tf1
theorem aSi:ti1.kd=Kd.oth:=ID rfl
theorem aM0:ti1.kd.agg=false:=ID rfl
theorem azN:ti1.size=1:=ID rfl
theorem ao5:ti1.bytes=8:=ID rfl
theorem aSg:qx ti1=True:=eq_true rfl
theorem aSh:zc ti1=[.v Value.nilFunc]:=ID rfl
theorem ty2{K:TI→Prop}:@tyW Tryz.prog 2 ⟨K⟩=K ti2:=qj tf2
theorem aSf:ti2.kd=Kd.int IntKind.i64:=ID rfl
theorem aMB:ti2.kd.agg=false:=ID rfl
theorem avy:ti2.size=1:=ID rfl
theorem anw:ti2.bytes=8:=ID rfl
theorem aSd:qx ti2=True:=eq_true rfl
theorem aSe:zc ti2=[.v (Value.int IntKind.i64 0)]:=ID rfl
theorem ty3{K:TI→Prop}:@tyW Tryz.prog 3 ⟨K⟩=K ti3:=qj tf3
theorem aSc:ti3.kd=Kd.int IntKind.i64:=ID rfl
theorem aMc:ti3.kd.agg=false:=ID rfl
theorem avd:ti3.size=1:=ID rfl
theorem anh:ti3.bytes=8:=ID rfl
theorem aSa:qx ti3=True:=eq_true rfl
theorem aSb:zc ti3=[.v (Value.int IntKind.i64 0)]:=ID rfl
theorem ty4{K:TI→Prop}:@tyW Tryz.prog 4 ⟨K⟩=K ti4:=qj tf4
theorem aR9:ti4.kd=Kd.bool:=ID rfl
theorem aLH:ti4.kd.agg=false:=ID rfl
theorem au2:ti4.size=1:=ID rfl
theorem am4:ti4.bytes=1:=ID rfl
theorem aR7:qx ti4=True:=eq_true rfl
theorem aR8:zc ti4=[.v (Value.bool false)]:=ID rfl
theorem ty5{K:TI→Prop}:@tyW Tryz.prog 5 ⟨K⟩=K ti5:=qj tf5
theorem aR6:ti5.kd=Kd.int IntKind.u8:=ID rfl
theorem aLl:ti5.kd.agg=false:=ID rfl
theorem auU:ti5.size=1:=ID rfl
theorem amW:ti5.bytes=1:=ID rfl
theorem aR4:qx ti5=True:=eq_true rfl
theorem aR5:zc ti5=[.v (Value.int IntKind.u8 0)]:=ID rfl
theorem ty6{K:TI→Prop}:@tyW Tryz.prog 6 ⟨K⟩=K ti6:=qj tf6
theorem aR3:ti6.kd=Kd.int IntKind.u8:=ID rfl
theorem aKT:ti6.kd.agg=false:=ID rfl
theorem auK:ti6.size=1:=ID rfl
theorem amM:ti6.bytes=1:=ID rfl
theorem aR1:qx ti6=True:=eq_true rfl
theorem aR2:zc ti6=[.v (Value.int IntKind.u8 0)]:=ID rfl
theorem ty7{K:TI→Prop}:@tyW Tryz.prog 7 ⟨K⟩=K ti7:=qj tf7
theorem aR0:ti7.kd=Kd.stru [(0,2),(1,3),(2,4),(3,6)]:=ID rfl
theorem aKo:ti7.kd.agg=true:=ID rfl
theorem auz:ti7.size=4:=ID rfl
theorem amz:ti7.bytes=24:=ID rfl
theorem aRY:qx ti7=True:=eq_true rfl
theorem aRZ:zc ti7=[.v (Value.int IntKind.i64 0),.v (Value.int IntKind.i64 0),.v (Value.bool false),.v (Value.int IntKind.u8 0)]:=ID rfl
theorem aYj{K:Nat→TI→Prop}:@qE Tryz.prog 7 0 ⟨K⟩=K 0 ti2:=qv (ti:=ti7) (tf:=ti2) (fo:=(0,2)) (fs:=[(0,2),(1,3),(2,4),(3,6)]) tf7 rfl rfl tf2
theorem bfV{K:Nat→Nat→Prop}:qw Tryz.prog [(0,2),(1,3),(2,4),(3,6)] 0 K=K 0 1:=qu (tf:=ti2) (fo:=(0,2)) (fs:=[(0,2),(1,3),(2,4),(3,6)]) rfl tf2
theorem aYi{K:Nat→TI→Prop}:@qE Tryz.prog 7 1 ⟨K⟩=K 1 ti3:=qv (ti:=ti7) (tf:=ti3) (fo:=(1,3)) (fs:=[(0,2),(1,3),(2,4),(3,6)]) tf7 rfl rfl tf3
theorem bfU{K:Nat→Nat→Prop}:qw Tryz.prog [(0,2),(1,3),(2,4),(3,6)] 1 K=K 1 1:=qu (tf:=ti3) (fo:=(1,3)) (fs:=[(0,2),(1,3),(2,4),(3,6)]) rfl tf3
theorem aYh{K:Nat→TI→Prop}:@qE Tryz.prog 7 2 ⟨K⟩=K 2 ti4:=qv (ti:=ti7) (tf:=ti4) (fo:=(2,4)) (fs:=[(0,2),(1,3),(2,4),(3,6)]) tf7 rfl rfl tf4
theorem bfT{K:Nat→Nat→Prop}:qw Tryz.prog [(0,2),(1,3),(2,4),(3,6)] 2 K=K 2 1:=qu (tf:=ti4) (fo:=(2,4)) (fs:=[(0,2),(1,3),(2,4),(3,6)]) rfl tf4
theorem aYg{K:Nat→TI→Prop}:@qE Tryz.prog 7 3 ⟨K⟩=K 3 ti6:=qv (ti:=ti7) (tf:=ti6) (fo:=(3,6)) (fs:=[(0,2),(1,3),(2,4),(3,6)]) tf7 rfl rfl tf6
theorem bfS{K:Nat→Nat→Prop}:qw Tryz.prog [(0,2),(1,3),(2,4),(3,6)] 3 K=K 3 1:=qu (tf:=ti6) (fo:=(3,6)) (fs:=[(0,2),(1,3),(2,4),(3,6)]) rfl tf6
theorem bgh:∀f∈([(0,2),(1,3),(2,4),(3,6)]:List (Nat×Nat)),(qr Tryz.prog f.2).isSome=true:=by
 intro f hf
 simp only[List.mem_cons,List.not_mem_nil,or_false]at hf
 rcases hf with rfl|rfl|rfl|rfl
 ·rw[tf2];rfl
 ·rw[tf3];rfl
 ·rw[tf4];rfl
 ·rw[tf6];rfl
theorem blg{ps:List (Nat×AV)}{K:AV→Prop}:@zd Tryz.prog 7 ps ⟨K⟩=@zh (qw Tryz.prog [(0,2),(1,3),(2,4),(3,6)]) (zc ti7) ps ⟨fun cs=>K (.ag cs)⟩:=qL tf7 rfl bgh
theorem ty8{K:TI→Prop}:@tyW Tryz.prog 8 ⟨K⟩=K ti8:=qj tf8
theorem aRX:ti8.kd=Kd.stru [(0,2),(1,3),(2,4),(3,6)]:=ID rfl
theorem aJT:ti8.kd.agg=true:=ID rfl
theorem auo:ti8.size=4:=ID rfl
theorem aml:ti8.bytes=24:=ID rfl
theorem aRV:qx ti8=True:=eq_true rfl
theorem aRW:zc ti8=[.v (Value.int IntKind.i64 0),.v (Value.int IntKind.i64 0),.v (Value.bool false),.v (Value.int IntKind.u8 0)]:=ID rfl
theorem aYf{K:Nat→TI→Prop}:@qE Tryz.prog 8 0 ⟨K⟩=K 0 ti2:=qv (ti:=ti8) (tf:=ti2) (fo:=(0,2)) (fs:=[(0,2),(1,3),(2,4),(3,6)]) tf8 rfl rfl tf2
theorem bfR{K:Nat→Nat→Prop}:qw Tryz.prog [(0,2),(1,3),(2,4),(3,6)] 0 K=K 0 1:=qu (tf:=ti2) (fo:=(0,2)) (fs:=[(0,2),(1,3),(2,4),(3,6)]) rfl tf2
theorem aYe{K:Nat→TI→Prop}:@qE Tryz.prog 8 1 ⟨K⟩=K 1 ti3:=qv (ti:=ti8) (tf:=ti3) (fo:=(1,3)) (fs:=[(0,2),(1,3),(2,4),(3,6)]) tf8 rfl rfl tf3
theorem bfQ{K:Nat→Nat→Prop}:qw Tryz.prog [(0,2),(1,3),(2,4),(3,6)] 1 K=K 1 1:=qu (tf:=ti3) (fo:=(1,3)) (fs:=[(0,2),(1,3),(2,4),(3,6)]) rfl tf3
theorem aYd{K:Nat→TI→Prop}:@qE Tryz.prog 8 2 ⟨K⟩=K 2 ti4:=qv (ti:=ti8) (tf:=ti4) (fo:=(2,4)) (fs:=[(0,2),(1,3),(2,4),(3,6)]) tf8 rfl rfl tf4
theorem bfP{K:Nat→Nat→Prop}:qw Tryz.prog [(0,2),(1,3),(2,4),(3,6)] 2 K=K 2 1:=qu (tf:=ti4) (fo:=(2,4)) (fs:=[(0,2),(1,3),(2,4),(3,6)]) rfl tf4
theorem aYc{K:Nat→TI→Prop}:@qE Tryz.prog 8 3 ⟨K⟩=K 3 ti6:=qv (ti:=ti8) (tf:=ti6) (fo:=(3,6)) (fs:=[(0,2),(1,3),(2,4),(3,6)]) tf8 rfl rfl tf6
theorem bfO{K:Nat→Nat→Prop}:qw Tryz.prog [(0,2),(1,3),(2,4),(3,6)] 3 K=K 3 1:=qu (tf:=ti6) (fo:=(3,6)) (fs:=[(0,2),(1,3),(2,4),(3,6)]) rfl tf6
theorem bgg:∀f∈([(0,2),(1,3),(2,4),(3,6)]:List (Nat×Nat)),(qr Tryz.prog f.2).isSome=true:=by
 intro f hf
 simp only[List.mem_cons,List.not_mem_nil,or_false]at hf
 rcases hf with rfl|rfl|rfl|rfl
 ·rw[tf2];rfl
 ·rw[tf3];rfl
 ·rw[tf4];rfl
 ·rw[tf6];rfl
theorem blf{ps:List (Nat×AV)}{K:AV→Prop}:@zd Tryz.prog 8 ps ⟨K⟩=@zh (qw Tryz.prog [(0,2),(1,3),(2,4),(3,6)]) (zc ti8) ps ⟨fun cs=>K (.ag cs)⟩:=qL tf8 rfl bgg
theorem ty9{K:TI→Prop}:@tyW Tryz.prog 9 ⟨K⟩=K ti9:=qj tf9
theorem aRU:ti9.kd=Kd.str:=ID rfl
theorem aJr:ti9.kd.agg=false:=ID rfl
theorem aue:ti9.size=1:=ID rfl
theorem amb:ti9.bytes=16:=ID rfl
theorem aRS:qx ti9=True:=eq_true rfl
theorem aRT:zc ti9=[.v (Value.string {data:=⟨[]⟩})]:=ID rfl
theorem bjO{K:TI→Prop}:@tyW Tryz.prog 10 ⟨K⟩=K aIr:=qj bkD
theorem aM9:aIr.kd=Kd.str:=ID rfl
theorem aD0:aIr.kd.agg=false:=ID rfl
theorem aqy:aIr.size=1:=ID rfl
theorem akq:aIr.bytes=16:=ID rfl
theorem aM7:qx aIr=True:=eq_true rfl
theorem aM8:zc aIr=[.v (Value.string {data:=⟨[]⟩})]:=ID rfl
theorem bjN{K:TI→Prop}:@tyW Tryz.prog 11 ⟨K⟩=K aIq:=qj bkC
theorem aM6:aIq.kd=Kd.str:=ID rfl
theorem aDv:aIq.kd.agg=false:=ID rfl
theorem aqn:aIq.size=1:=ID rfl
theorem akf:aIq.bytes=16:=ID rfl
theorem aM4:qx aIq=True:=eq_true rfl
theorem aM5:zc aIq=[.v (Value.string {data:=⟨[]⟩})]:=ID rfl
theorem bjM{K:TI→Prop}:@tyW Tryz.prog 12 ⟨K⟩=K aIp:=qj bkB
theorem aM3:aIp.kd=Kd.int IntKind.u64:=ID rfl
theorem aC3:aIp.kd.agg=false:=ID rfl
theorem aqd:aIp.size=1:=ID rfl
theorem aj5:aIp.bytes=8:=ID rfl
theorem aM1:qx aIp=True:=eq_true rfl
theorem aM2:zc aIp=[.v (Value.int IntKind.u64 0)]:=ID rfl
theorem bjL{K:TI→Prop}:@tyW Tryz.prog 21 ⟨K⟩=K aIo:=qj bkA
theorem aMZ:aIo.kd=Kd.int IntKind.i32:=ID rfl
theorem ayX:aIo.kd.agg=false:=ID rfl
theorem aoN:aIo.size=1:=ID rfl
theorem aiI:aIo.bytes=4:=ID rfl
theorem aMX:qx aIo=True:=eq_true rfl
theorem aMY:zc aIo=[.v (Value.int IntKind.i32 0)]:=ID rfl
theorem bjK{K:TI→Prop}:@tyW Tryz.prog 22 ⟨K⟩=K afK:=qj aIv
theorem aMW:afK.kd=Kd.sli 5:=ID rfl
theorem ays:afK.kd.agg=false:=ID rfl
theorem aoC:afK.size=1:=ID rfl
theorem aix:afK.bytes=24:=ID rfl
theorem aMU:qx afK=True:=eq_true rfl
theorem aMV:zc afK=[.v (Value.slice none 0 0)]:=ID rfl
theorem bfE{K:TI→Prop}:@yX Tryz.prog 22 ⟨K⟩=K ti5:=Zb aIv rfl tf5
theorem bjJ{K:TI→Prop}:@tyW Tryz.prog 23 ⟨K⟩=K afJ:=qj aIu
theorem aMT:afJ.kd=Kd.sli 42:=ID rfl
theorem ax0:afJ.kd.agg=false:=ID rfl
theorem aos:afJ.size=1:=ID rfl
theorem ain:afJ.bytes=24:=ID rfl
theorem aMR:qx afJ=True:=eq_true rfl
theorem aMS:zc afJ=[.v (Value.slice none 0 0)]:=ID rfl
theorem bfD{K:TI→Prop}:@yX Tryz.prog 23 ⟨K⟩=K Zv:=Zb aIu rfl K7
theorem bjI{K:TI→Prop}:@tyW Tryz.prog 24 ⟨K⟩=K aor:=qj aZF
theorem aMQ:aor.kd=Kd.stru [(0,3),(1,23)]:=ID rfl
theorem axy:aor.kd.agg=true:=ID rfl
theorem aoh:aor.size=2:=ID rfl
theorem aid:aor.bytes=32:=ID rfl
theorem aMO:qx aor=True:=eq_true rfl
theorem aMP:zc aor=[.v (Value.int IntKind.i64 0),.v (Value.slice none 0 0)]:=ID rfl
theorem aP5{K:Nat→TI→Prop}:@qE Tryz.prog 24 0 ⟨K⟩=K 0 ti3:=qv (ti:=aor) (tf:=ti3) (fo:=(0,3)) (fs:=[(0,3),(1,23)]) aZF rfl rfl tf3
theorem aTr{K:Nat→Nat→Prop}:qw Tryz.prog [(0,3),(1,23)] 0 K=K 0 1:=qu (tf:=ti3) (fo:=(0,3)) (fs:=[(0,3),(1,23)]) rfl tf3
theorem aP4{K:Nat→TI→Prop}:@qE Tryz.prog 24 1 ⟨K⟩=K 1 afJ:=qv (ti:=aor) (tf:=afJ) (fo:=(1,23)) (fs:=[(0,3),(1,23)]) aZF rfl rfl aIu
theorem aTq{K:Nat→Nat→Prop}:qw Tryz.prog [(0,3),(1,23)] 1 K=K 1 1:=qu (tf:=afJ) (fo:=(1,23)) (fs:=[(0,3),(1,23)]) rfl aIu
theorem aUp:∀f∈([(0,3),(1,23)]:List (Nat×Nat)),(qr Tryz.prog f.2).isSome=true:=by
 intro f hf
 simp only[List.mem_cons,List.not_mem_nil,or_false]at hf
 rcases hf with rfl|rfl
 ·rw[tf3];rfl
 ·rw[aIu];rfl
theorem bid{ps:List (Nat×AV)}{K:AV→Prop}:@zd Tryz.prog 24 ps ⟨K⟩=@zh (qw Tryz.prog [(0,3),(1,23)]) (zc aor) ps ⟨fun cs=>K (.ag cs)⟩:=qL aZF rfl aUp
theorem bjH{K:TI→Prop}:@tyW Tryz.prog 25 ⟨K⟩=K aog:=qj aZE
theorem aMN:aog.kd=Kd.stru [(0,3),(1,23)]:=ID rfl
theorem aw6:aog.kd.agg=true:=ID rfl
theorem an6:aog.size=2:=ID rfl
theorem ah3:aog.bytes=32:=ID rfl
theorem aML:qx aog=True:=eq_true rfl
theorem aMM:zc aog=[.v (Value.int IntKind.i64 0),.v (Value.slice none 0 0)]:=ID rfl
theorem aP3{K:Nat→TI→Prop}:@qE Tryz.prog 25 0 ⟨K⟩=K 0 ti3:=qv (ti:=aog) (tf:=ti3) (fo:=(0,3)) (fs:=[(0,3),(1,23)]) aZE rfl rfl tf3
theorem aTp{K:Nat→Nat→Prop}:qw Tryz.prog [(0,3),(1,23)] 0 K=K 0 1:=qu (tf:=ti3) (fo:=(0,3)) (fs:=[(0,3),(1,23)]) rfl tf3
theorem aP2{K:Nat→TI→Prop}:@qE Tryz.prog 25 1 ⟨K⟩=K 1 afJ:=qv (ti:=aog) (tf:=afJ) (fo:=(1,23)) (fs:=[(0,3),(1,23)]) aZE rfl rfl aIu
theorem aTo{K:Nat→Nat→Prop}:qw Tryz.prog [(0,3),(1,23)] 1 K=K 1 1:=qu (tf:=afJ) (fo:=(1,23)) (fs:=[(0,3),(1,23)]) rfl aIu
theorem aUo:∀f∈([(0,3),(1,23)]:List (Nat×Nat)),(qr Tryz.prog f.2).isSome=true:=by
 intro f hf
 simp only[List.mem_cons,List.not_mem_nil,or_false]at hf
 rcases hf with rfl|rfl
 ·rw[tf3];rfl
 ·rw[aIu];rfl
theorem bic{ps:List (Nat×AV)}{K:AV→Prop}:@zd Tryz.prog 25 ps ⟨K⟩=@zh (qw Tryz.prog [(0,3),(1,23)]) (zc aog) ps ⟨fun cs=>K (.ag cs)⟩:=qL aZE rfl aUo
theorem bjG{K:TI→Prop}:@tyW Tryz.prog 27 ⟨K⟩=K aIn:=qj bkz
theorem aMK:aIn.kd=Kd.oth:=ID rfl
theorem awe:aIn.kd.agg=false:=ID rfl
theorem anO:aIn.size=1:=ID rfl
theorem ahL:aIn.bytes=8:=ID rfl
theorem aMI:qx aIn=True:=eq_true rfl
theorem aMJ:zc aIn=[.v Value.nilFunc]:=ID rfl
theorem bjF{K:TI→Prop}:@tyW Tryz.prog 28 ⟨K⟩=K afI:=qj aIt
theorem aMH:afI.kd=Kd.sli 90:=ID rfl
theorem avV:afI.kd.agg=false:=ID rfl
theorem anH:afI.size=1:=ID rfl
theorem ahE:afI.bytes=24:=ID rfl
theorem aMF:qx afI=True:=eq_true rfl
theorem aMG:zc afI=[.v (Value.slice none 0 0)]:=ID rfl
theorem bfC{K:TI→Prop}:@yX Tryz.prog 28 ⟨K⟩=K alY:=Zb aIt rfl aSj
theorem bjE{K:TI→Prop}:@tyW Tryz.prog 29 ⟨K⟩=K anG:=qj aZD
theorem aME:anG.kd=Kd.stru [(0,3),(1,28)]:=ID rfl
theorem avz:anG.kd.agg=true:=ID rfl
theorem anx:anG.size=2:=ID rfl
theorem ahw:anG.bytes=32:=ID rfl
theorem aMC:qx anG=True:=eq_true rfl
theorem aMD:zc anG=[.v (Value.int IntKind.i64 0),.v (Value.slice none 0 0)]:=ID rfl
theorem aP1{K:Nat→TI→Prop}:@qE Tryz.prog 29 0 ⟨K⟩=K 0 ti3:=qv (ti:=anG) (tf:=ti3) (fo:=(0,3)) (fs:=[(0,3),(1,28)]) aZD rfl rfl tf3
theorem aTn{K:Nat→Nat→Prop}:qw Tryz.prog [(0,3),(1,28)] 0 K=K 0 1:=qu (tf:=ti3) (fo:=(0,3)) (fs:=[(0,3),(1,28)]) rfl tf3
theorem aP0{K:Nat→TI→Prop}:@qE Tryz.prog 29 1 ⟨K⟩=K 1 afI:=qv (ti:=anG) (tf:=afI) (fo:=(1,28)) (fs:=[(0,3),(1,28)]) aZD rfl rfl aIt
theorem aTm{K:Nat→Nat→Prop}:qw Tryz.prog [(0,3),(1,28)] 1 K=K 1 1:=qu (tf:=afI) (fo:=(1,28)) (fs:=[(0,3),(1,28)]) rfl aIt
theorem aUn:∀f∈([(0,3),(1,28)]:List (Nat×Nat)),(qr Tryz.prog f.2).isSome=true:=by
 intro f hf
 simp only[List.mem_cons,List.not_mem_nil,or_false]at hf
 rcases hf with rfl|rfl
 ·rw[tf3];rfl
 ·rw[aIt];rfl
theorem bib{ps:List (Nat×AV)}{K:AV→Prop}:@zd Tryz.prog 29 ps ⟨K⟩=@zh (qw Tryz.prog [(0,3),(1,28)]) (zc anG) ps ⟨fun cs=>K (.ag cs)⟩:=qL aZD rfl aUn
theorem bjD{K:TI→Prop}:@tyW Tryz.prog 30 ⟨K⟩=K anv:=qj aZC
theorem aMA:anv.kd=Kd.stru [(0,3),(1,28)]:=ID rfl
theorem avl:anv.kd.agg=true:=ID rfl
theorem anq:anv.size=2:=ID rfl
theorem ahr:anv.bytes=32:=ID rfl
theorem aMy:qx anv=True:=eq_true rfl
theorem aMz:zc anv=[.v (Value.int IntKind.i64 0),.v (Value.slice none 0 0)]:=ID rfl
theorem aPZ{K:Nat→TI→Prop}:@qE Tryz.prog 30 0 ⟨K⟩=K 0 ti3:=qv (ti:=anv) (tf:=ti3) (fo:=(0,3)) (fs:=[(0,3),(1,28)]) aZC rfl rfl tf3
theorem aTl{K:Nat→Nat→Prop}:qw Tryz.prog [(0,3),(1,28)] 0 K=K 0 1:=qu (tf:=ti3) (fo:=(0,3)) (fs:=[(0,3),(1,28)]) rfl tf3
theorem aPY{K:Nat→TI→Prop}:@qE Tryz.prog 30 1 ⟨K⟩=K 1 afI:=qv (ti:=anv) (tf:=afI) (fo:=(1,28)) (fs:=[(0,3),(1,28)]) aZC rfl rfl aIt
theorem aTk{K:Nat→Nat→Prop}:qw Tryz.prog [(0,3),(1,28)] 1 K=K 1 1:=qu (tf:=afI) (fo:=(1,28)) (fs:=[(0,3),(1,28)]) rfl aIt
theorem aUm:∀f∈([(0,3),(1,28)]:List (Nat×Nat)),(qr Tryz.prog f.2).isSome=true:=by
 intro f hf
 simp only[List.mem_cons,List.not_mem_nil,or_false]at hf
 rcases hf with rfl|rfl
 ·rw[tf3];rfl
 ·rw[aIt];rfl
theorem bia{ps:List (Nat×AV)}{K:AV→Prop}:@zd Tryz.prog 30 ps ⟨K⟩=@zh (qw Tryz.prog [(0,3),(1,28)]) (zc anv) ps ⟨fun cs=>K (.ag cs)⟩:=qL aZC rfl aUm
theorem bjC{K:TI→Prop}:@tyW Tryz.prog 32 ⟨K⟩=K aIm:=qj bky
theorem aMx:aIm.kd=Kd.oth:=ID rfl
theorem avk:aIm.kd.agg=false:=ID rfl
theorem anp:aIm.size=1:=ID rfl
theorem ahq:aIm.bytes=8:=ID rfl
theorem aMv:qx aIm=True:=eq_true rfl
theorem aMw:zc aIm=[.v Value.nilFunc]:=ID rfl
theorem bjB{K:TI→Prop}:@tyW Tryz.prog 33 ⟨K⟩=K aIl:=qj bkx
theorem aMu:aIl.kd=Kd.oth:=ID rfl
theorem avj:aIl.kd.agg=false:=ID rfl
theorem ano:aIl.size=1:=ID rfl
theorem ahp:aIl.bytes=8:=ID rfl
theorem aMs:qx aIl=True:=eq_true rfl
theorem aMt:zc aIl=[.v Value.nilFunc]:=ID rfl
theorem bjA{K:TI→Prop}:@tyW Tryz.prog 35 ⟨K⟩=K aIk:=qj bkw
theorem aMr:aIk.kd=Kd.oth:=ID rfl
theorem avi:aIk.kd.agg=false:=ID rfl
theorem ann:aIk.size=1:=ID rfl
theorem aho:aIk.bytes=8:=ID rfl
theorem aMp:qx aIk=True:=eq_true rfl
theorem aMq:zc aIk=[.v Value.nilFunc]:=ID rfl
theorem bjz{K:TI→Prop}:@tyW Tryz.prog 36 ⟨K⟩=K ZG:=qj K8
theorem aMo:ZG.kd=Kd.sli 3:=ID rfl
theorem avh:ZG.kd.agg=false:=ID rfl
theorem anm:ZG.size=1:=ID rfl
theorem ahn:ZG.bytes=24:=ID rfl
theorem aMm:qx ZG=True:=eq_true rfl
theorem aMn:zc ZG=[.v (Value.slice none 0 0)]:=ID rfl
theorem bfB{K:TI→Prop}:@yX Tryz.prog 36 ⟨K⟩=K ti3:=Zb K8 rfl tf3
theorem bjy{K:TI→Prop}:@tyW Tryz.prog 37 ⟨K⟩=K atT:=qj bcH
theorem aMl:atT.kd=Kd.stru [(0,36)]:=ID rfl
theorem avg:atT.kd.agg=true:=ID rfl
theorem anl:atT.size=1:=ID rfl
theorem ahm:atT.bytes=24:=ID rfl
theorem aMj:qx atT=True:=eq_true rfl
theorem aMk:zc atT=[.v (Value.slice none 0 0)]:=ID rfl
theorem aPX{K:Nat→TI→Prop}:@qE Tryz.prog 37 0 ⟨K⟩=K 0 ZG:=qv (ti:=atT) (tf:=ZG) (fo:=(0,36)) (fs:=[(0,36)]) bcH rfl rfl K8
theorem aTj{K:Nat→Nat→Prop}:qw Tryz.prog [(0,36)] 0 K=K 0 1:=qu (tf:=ZG) (fo:=(0,36)) (fs:=[(0,36)]) rfl K8
theorem aUl:∀f∈([(0,36)]:List (Nat×Nat)),(qr Tryz.prog f.2).isSome=true:=by
 intro f hf
 simp only[List.mem_cons,List.not_mem_nil,or_false]at hf
 subst hf;rw[K8];rfl
theorem bh9{ps:List (Nat×AV)}{K:AV→Prop}:@zd Tryz.prog 37 ps ⟨K⟩=@zh (qw Tryz.prog [(0,36)]) (zc atT) ps ⟨fun cs=>K (.ag cs)⟩:=qL bcH rfl aUl
theorem bjx{K:TI→Prop}:@tyW Tryz.prog 38 ⟨K⟩=K abk:=qj aEv
theorem aMi:abk.kd=Kd.stru [(0,36)]:=ID rfl
theorem avf:abk.kd.agg=true:=ID rfl
theorem ank:abk.size=1:=ID rfl
theorem ahl:abk.bytes=24:=ID rfl
theorem aMg:qx abk=True:=eq_true rfl
theorem aMh:zc abk=[.v (Value.slice none 0 0)]:=ID rfl
theorem aPW{K:Nat→TI→Prop}:@qE Tryz.prog 38 0 ⟨K⟩=K 0 ZG:=qv (ti:=abk) (tf:=ZG) (fo:=(0,36)) (fs:=[(0,36)]) aEv rfl rfl K8
theorem aTi{K:Nat→Nat→Prop}:qw Tryz.prog [(0,36)] 0 K=K 0 1:=qu (tf:=ZG) (fo:=(0,36)) (fs:=[(0,36)]) rfl K8
theorem aUk:∀f∈([(0,36)]:List (Nat×Nat)),(qr Tryz.prog f.2).isSome=true:=by
 intro f hf
 simp only[List.mem_cons,List.not_mem_nil,or_false]at hf
 subst hf;rw[K8];rfl
theorem bh8{ps:List (Nat×AV)}{K:AV→Prop}:@zd Tryz.prog 38 ps ⟨K⟩=@zh (qw Tryz.prog [(0,36)]) (zc abk) ps ⟨fun cs=>K (.ag cs)⟩:=qL aEv rfl aUk
theorem bjw{K:TI→Prop}:@tyW Tryz.prog 39 ⟨K⟩=K anj:=qj aZB
theorem aMf:anj.kd=Kd.stru [(0,4),(1,38)]:=ID rfl
theorem ave:anj.kd.agg=true:=ID rfl
theorem ani:anj.size=2:=ID rfl
theorem ahk:anj.bytes=32:=ID rfl
theorem aMd:qx anj=True:=eq_true rfl
theorem aMe:zc anj=[.v (Value.bool false),.v (Value.slice none 0 0)]:=ID rfl
theorem aPV{K:Nat→TI→Prop}:@qE Tryz.prog 39 0 ⟨K⟩=K 0 ti4:=qv (ti:=anj) (tf:=ti4) (fo:=(0,4)) (fs:=[(0,4),(1,38)]) aZB rfl rfl tf4
theorem aTh{K:Nat→Nat→Prop}:qw Tryz.prog [(0,4),(1,38)] 0 K=K 0 1:=qu (tf:=ti4) (fo:=(0,4)) (fs:=[(0,4),(1,38)]) rfl tf4
theorem aPU{K:Nat→TI→Prop}:@qE Tryz.prog 39 1 ⟨K⟩=K 1 abk:=qv (ti:=anj) (tf:=abk) (fo:=(1,38)) (fs:=[(0,4),(1,38)]) aZB rfl rfl aEv
theorem aTg{K:Nat→Nat→Prop}:qw Tryz.prog [(0,4),(1,38)] 1 K=K 1 1:=qu (tf:=abk) (fo:=(1,38)) (fs:=[(0,4),(1,38)]) rfl aEv
theorem aUj:∀f∈([(0,4),(1,38)]:List (Nat×Nat)),(qr Tryz.prog f.2).isSome=true:=by
 intro f hf
 simp only[List.mem_cons,List.not_mem_nil,or_false]at hf
 rcases hf with rfl|rfl
 ·rw[tf4];rfl
 ·rw[aEv];rfl
theorem bh7{ps:List (Nat×AV)}{K:AV→Prop}:@zd Tryz.prog 39 ps ⟨K⟩=@zh (qw Tryz.prog [(0,4),(1,38)]) (zc anj) ps ⟨fun cs=>K (.ag cs)⟩:=qL aZB rfl aUj
theorem bjv{K:TI→Prop}:@tyW Tryz.prog 40 ⟨K⟩=K Xg:=qj atV
theorem aMb:Xg.kd=Kd.stru [(0,4),(1,38)]:=ID rfl
theorem avc:Xg.kd.agg=true:=ID rfl
theorem ang:Xg.size=2:=ID rfl
theorem ahj:Xg.bytes=32:=ID rfl
theorem aL9:qx Xg=True:=eq_true rfl
theorem aMa:zc Xg=[.v (Value.bool false),.v (Value.slice none 0 0)]:=ID rfl
theorem aPT{K:Nat→TI→Prop}:@qE Tryz.prog 40 0 ⟨K⟩=K 0 ti4:=qv (ti:=Xg) (tf:=ti4) (fo:=(0,4)) (fs:=[(0,4),(1,38)]) atV rfl rfl tf4
theorem aTf{K:Nat→Nat→Prop}:qw Tryz.prog [(0,4),(1,38)] 0 K=K 0 1:=qu (tf:=ti4) (fo:=(0,4)) (fs:=[(0,4),(1,38)]) rfl tf4
theorem aPS{K:Nat→TI→Prop}:@qE Tryz.prog 40 1 ⟨K⟩=K 1 abk:=qv (ti:=Xg) (tf:=abk) (fo:=(1,38)) (fs:=[(0,4),(1,38)]) atV rfl rfl aEv
theorem aTe{K:Nat→Nat→Prop}:qw Tryz.prog [(0,4),(1,38)] 1 K=K 1 1:=qu (tf:=abk) (fo:=(1,38)) (fs:=[(0,4),(1,38)]) rfl aEv
theorem aUi:∀f∈([(0,4),(1,38)]:List (Nat×Nat)),(qr Tryz.prog f.2).isSome=true:=by
 intro f hf
 simp only[List.mem_cons,List.not_mem_nil,or_false]at hf
 rcases hf with rfl|rfl
 ·rw[tf4];rfl
 ·rw[aEv];rfl
theorem bh6{ps:List (Nat×AV)}{K:AV→Prop}:@zd Tryz.prog 40 ps ⟨K⟩=@zh (qw Tryz.prog [(0,4),(1,38)]) (zc Xg) ps ⟨fun cs=>K (.ag cs)⟩:=qL atV rfl aUi
theorem bju{K:TI→Prop}:@tyW Tryz.prog 41 ⟨K⟩=K anf:=qj aZA
theorem aL8:anf.kd=Kd.stru [(0,40),(2,3)]:=ID rfl
theorem avb:anf.kd.agg=true:=ID rfl
theorem ane:anf.size=3:=ID rfl
theorem ahi:anf.bytes=40:=ID rfl
theorem aL6:qx anf=True:=eq_true rfl
theorem aL7:zc anf=[.v (Value.bool false),.v (Value.slice none 0 0),.v (Value.int IntKind.i64 0)]:=ID rfl
theorem aPR{K:Nat→TI→Prop}:@qE Tryz.prog 41 0 ⟨K⟩=K 0 Xg:=qv (ti:=anf) (tf:=Xg) (fo:=(0,40)) (fs:=[(0,40),(2,3)]) aZA rfl rfl atV
theorem aTd{K:Nat→Nat→Prop}:qw Tryz.prog [(0,40),(2,3)] 0 K=K 0 2:=qu (tf:=Xg) (fo:=(0,40)) (fs:=[(0,40),(2,3)]) rfl atV
theorem aPQ{K:Nat→TI→Prop}:@qE Tryz.prog 41 1 ⟨K⟩=K 2 ti3:=qv (ti:=anf) (tf:=ti3) (fo:=(2,3)) (fs:=[(0,40),(2,3)]) aZA rfl rfl tf3
theorem aTc{K:Nat→Nat→Prop}:qw Tryz.prog [(0,40),(2,3)] 1 K=K 2 1:=qu (tf:=ti3) (fo:=(2,3)) (fs:=[(0,40),(2,3)]) rfl tf3
theorem aUh:∀f∈([(0,40),(2,3)]:List (Nat×Nat)),(qr Tryz.prog f.2).isSome=true:=by
 intro f hf
 simp only[List.mem_cons,List.not_mem_nil,or_false]at hf
 rcases hf with rfl|rfl
 ·rw[atV];rfl
 ·rw[tf3];rfl
theorem bh5{ps:List (Nat×AV)}{K:AV→Prop}:@zd Tryz.prog 41 ps ⟨K⟩=@zh (qw Tryz.prog [(0,40),(2,3)]) (zc anf) ps ⟨fun cs=>K (.ag cs)⟩:=qL aZA rfl aUh
theorem bjt{K:TI→Prop}:@tyW Tryz.prog 42 ⟨K⟩=K Zv:=qj K7
theorem aL5:Zv.kd=Kd.stru [(0,40),(2,3)]:=ID rfl
theorem ava:Zv.kd.agg=true:=ID rfl
theorem anc:Zv.size=3:=ID rfl
theorem ahh:Zv.bytes=40:=ID rfl
theorem aL3:qx Zv=True:=eq_true rfl
theorem aL4:zc Zv=[.v (Value.bool false),.v (Value.slice none 0 0),.v (Value.int IntKind.i64 0)]:=ID rfl
theorem aPP{K:Nat→TI→Prop}:@qE Tryz.prog 42 0 ⟨K⟩=K 0 Xg:=qv (ti:=Zv) (tf:=Xg) (fo:=(0,40)) (fs:=[(0,40),(2,3)]) K7 rfl rfl atV
theorem aTb{K:Nat→Nat→Prop}:qw Tryz.prog [(0,40),(2,3)] 0 K=K 0 2:=qu (tf:=Xg) (fo:=(0,40)) (fs:=[(0,40),(2,3)]) rfl atV
theorem aPO{K:Nat→TI→Prop}:@qE Tryz.prog 42 1 ⟨K⟩=K 2 ti3:=qv (ti:=Zv) (tf:=ti3) (fo:=(2,3)) (fs:=[(0,40),(2,3)]) K7 rfl rfl tf3
theorem aTa{K:Nat→Nat→Prop}:qw Tryz.prog [(0,40),(2,3)] 1 K=K 2 1:=qu (tf:=ti3) (fo:=(2,3)) (fs:=[(0,40),(2,3)]) rfl tf3
theorem aUg:∀f∈([(0,40),(2,3)]:List (Nat×Nat)),(qr Tryz.prog f.2).isSome=true:=by
 intro f hf
 simp only[List.mem_cons,List.not_mem_nil,or_false]at hf
 rcases hf with rfl|rfl
 ·rw[atV];rfl
 ·rw[tf3];rfl
theorem bh4{ps:List (Nat×AV)}{K:AV→Prop}:@zd Tryz.prog 42 ps ⟨K⟩=@zh (qw Tryz.prog [(0,40),(2,3)]) (zc Zv) ps ⟨fun cs=>K (.ag cs)⟩:=qL K7 rfl aUg
theorem bjs{K:TI→Prop}:@tyW Tryz.prog 43 ⟨K⟩=K aIj:=qj bkv
theorem aL2:aIj.kd=Kd.oth:=ID rfl
theorem au9:aIj.kd.agg=false:=ID rfl
theorem anb:aIj.size=1:=ID rfl
theorem ahg:aIj.bytes=8:=ID rfl
theorem aL0:qx aIj=True:=eq_true rfl
theorem aL1:zc aIj=[.v Value.nilFunc]:=ID rfl
theorem bjr{K:TI→Prop}:@tyW Tryz.prog 44 ⟨K⟩=K aIi:=qj bku
theorem aLZ:aIi.kd=Kd.oth:=ID rfl
theorem au8:aIi.kd.agg=false:=ID rfl
theorem ana:aIi.size=1:=ID rfl
theorem ahf:aIi.bytes=8:=ID rfl
theorem aLX:qx aIi=True:=eq_true rfl
theorem aLY:zc aIi=[.v Value.nilFunc]:=ID rfl
theorem bjq{K:TI→Prop}:@tyW Tryz.prog 45 ⟨K⟩=K aIh:=qj bkt
theorem aLW:aIh.kd=Kd.oth:=ID rfl
theorem au7:aIh.kd.agg=false:=ID rfl
theorem am9:aIh.size=1:=ID rfl
theorem ahe:aIh.bytes=8:=ID rfl
theorem aLU:qx aIh=True:=eq_true rfl
theorem aLV:zc aIh=[.v Value.nilFunc]:=ID rfl
theorem bjp{K:TI→Prop}:@tyW Tryz.prog 46 ⟨K⟩=K aIg:=qj bks
theorem aLT:aIg.kd=Kd.oth:=ID rfl
theorem au6:aIg.kd.agg=false:=ID rfl
theorem am8:aIg.size=1:=ID rfl
theorem ahd:aIg.bytes=8:=ID rfl
theorem aLR:qx aIg=True:=eq_true rfl
theorem aLS:zc aIg=[.v Value.nilFunc]:=ID rfl
theorem bjo{K:TI→Prop}:@tyW Tryz.prog 47 ⟨K⟩=K aIf:=qj bkr
theorem aLQ:aIf.kd=Kd.oth:=ID rfl
theorem au5:aIf.kd.agg=false:=ID rfl
theorem am7:aIf.size=1:=ID rfl
theorem ahc:aIf.bytes=8:=ID rfl
theorem aLO:qx aIf=True:=eq_true rfl
theorem aLP:zc aIf=[.v Value.nilFunc]:=ID rfl
theorem bjn{K:TI→Prop}:@tyW Tryz.prog 48 ⟨K⟩=K aIe:=qj bkq
theorem aLN:aIe.kd=Kd.oth:=ID rfl
theorem au4:aIe.kd.agg=false:=ID rfl
theorem am6:aIe.size=1:=ID rfl
theorem ahb:aIe.bytes=8:=ID rfl
theorem aLL:qx aIe=True:=eq_true rfl
theorem aLM:zc aIe=[.v Value.nilFunc]:=ID rfl
theorem bjm{K:TI→Prop}:@tyW Tryz.prog 49 ⟨K⟩=K aId:=qj bkp
theorem aLK:aId.kd=Kd.oth:=ID rfl
theorem au3:aId.kd.agg=false:=ID rfl
theorem am5:aId.size=1:=ID rfl
theorem aha:aId.bytes=8:=ID rfl
theorem aLI:qx aId=True:=eq_true rfl
theorem aLJ:zc aId=[.v Value.nilFunc]:=ID rfl
theorem bjl{K:TI→Prop}:@tyW Tryz.prog 50 ⟨K⟩=K aIc:=qj bko
theorem aLG:aIc.kd=Kd.oth:=ID rfl
theorem au1:aIc.kd.agg=false:=ID rfl
theorem am3:aIc.size=1:=ID rfl
theorem ag9:aIc.bytes=8:=ID rfl
theorem aLE:qx aIc=True:=eq_true rfl
theorem aLF:zc aIc=[.v Value.nilFunc]:=ID rfl
theorem bjk{K:TI→Prop}:@tyW Tryz.prog 52 ⟨K⟩=K aIb:=qj bkn
theorem aLD:aIb.kd=Kd.oth:=ID rfl
theorem au0:aIb.kd.agg=false:=ID rfl
theorem am2:aIb.size=1:=ID rfl
theorem ag8:aIb.bytes=8:=ID rfl
theorem aLB:qx aIb=True:=eq_true rfl
theorem aLC:zc aIb=[.v Value.nilFunc]:=ID rfl
theorem bjj{K:TI→Prop}:@tyW Tryz.prog 53 ⟨K⟩=K aIa:=qj bkm
theorem aLA:aIa.kd=Kd.oth:=ID rfl
theorem auZ:aIa.kd.agg=false:=ID rfl
theorem am1:aIa.size=1:=ID rfl
theorem ag7:aIa.bytes=8:=ID rfl
theorem aLy:qx aIa=True:=eq_true rfl
theorem aLz:zc aIa=[.v Value.nilFunc]:=ID rfl
theorem bji{K:TI→Prop}:@tyW Tryz.prog 54 ⟨K⟩=K aH9:=qj bkl
theorem aLx:aH9.kd=Kd.oth:=ID rfl
theorem auY:aH9.kd.agg=false:=ID rfl
theorem am0:aH9.size=1:=ID rfl
theorem ag6:aH9.bytes=8:=ID rfl
theorem aLv:qx aH9=True:=eq_true rfl
theorem aLw:zc aH9=[.v Value.nilFunc]:=ID rfl
theorem bjh{K:TI→Prop}:@tyW Tryz.prog 55 ⟨K⟩=K aH8:=qj bkk
theorem aLu:aH8.kd=Kd.oth:=ID rfl
theorem auX:aH8.kd.agg=false:=ID rfl
theorem amZ:aH8.size=1:=ID rfl
theorem ag5:aH8.bytes=8:=ID rfl
theorem aLs:qx aH8=True:=eq_true rfl
theorem aLt:zc aH8=[.v Value.nilFunc]:=ID rfl
theorem bjg{K:TI→Prop}:@tyW Tryz.prog 56 ⟨K⟩=K aH7:=qj bkj
theorem aLr:aH7.kd=Kd.oth:=ID rfl
theorem auW:aH7.kd.agg=false:=ID rfl
theorem amY:aH7.size=1:=ID rfl
theorem ag4:aH7.bytes=8:=ID rfl
theorem aLp:qx aH7=True:=eq_true rfl
theorem aLq:zc aH7=[.v Value.nilFunc]:=ID rfl
theorem bjf{K:TI→Prop}:@tyW Tryz.prog 58 ⟨K⟩=K aH6:=qj bki
theorem aLo:aH6.kd=Kd.oth:=ID rfl
theorem auV:aH6.kd.agg=false:=ID rfl
theorem amX:aH6.size=1:=ID rfl
theorem ag3:aH6.bytes=8:=ID rfl
theorem aLm:qx aH6=True:=eq_true rfl
theorem aLn:zc aH6=[.v Value.nilFunc]:=ID rfl
theorem bje{K:TI→Prop}:@tyW Tryz.prog 60 ⟨K⟩=K aH5:=qj bkh
theorem aLk:aH5.kd=Kd.oth:=ID rfl
theorem auT:aH5.kd.agg=false:=ID rfl
theorem amV:aH5.size=1:=ID rfl
theorem ag2:aH5.bytes=8:=ID rfl
theorem aLi:qx aH5=True:=eq_true rfl
theorem aLj:zc aH5=[.v Value.nilFunc]:=ID rfl
theorem bjd{K:TI→Prop}:@tyW Tryz.prog 61 ⟨K⟩=K aH4:=qj bkg
theorem aLh:aH4.kd=Kd.oth:=ID rfl
theorem auS:aH4.kd.agg=false:=ID rfl
theorem amU:aH4.size=1:=ID rfl
theorem ag1:aH4.bytes=8:=ID rfl
theorem aLf:qx aH4=True:=eq_true rfl
theorem aLg:zc aH4=[.v Value.nilFunc]:=ID rfl
theorem bjc{K:TI→Prop}:@tyW Tryz.prog 62 ⟨K⟩=K aH3:=qj bkf
theorem aLe:aH3.kd=Kd.oth:=ID rfl
theorem auR:aH3.kd.agg=false:=ID rfl
theorem amT:aH3.size=1:=ID rfl
theorem ag0:aH3.bytes=8:=ID rfl
theorem aLc:qx aH3=True:=eq_true rfl
theorem aLd:zc aH3=[.v Value.nilFunc]:=ID rfl
theorem bjb{K:TI→Prop}:@tyW Tryz.prog 64 ⟨K⟩=K aH2:=qj bke
theorem aLb:aH2.kd=Kd.oth:=ID rfl
theorem auQ:aH2.kd.agg=false:=ID rfl
theorem amS:aH2.size=1:=ID rfl
theorem agZ:aH2.bytes=8:=ID rfl
theorem aK9:qx aH2=True:=eq_true rfl
theorem aLa:zc aH2=[.v Value.nilFunc]:=ID rfl
theorem bja{K:TI→Prop}:@tyW Tryz.prog 65 ⟨K⟩=K aH1:=qj bkd
theorem aK8:aH1.kd=Kd.oth:=ID rfl
theorem auP:aH1.kd.agg=false:=ID rfl
theorem amR:aH1.size=1:=ID rfl
theorem agY:aH1.bytes=8:=ID rfl
theorem aK6:qx aH1=True:=eq_true rfl
theorem aK7:zc aH1=[.v Value.nilFunc]:=ID rfl
theorem bi9{K:TI→Prop}:@tyW Tryz.prog 66 ⟨K⟩=K aH0:=qj bkc
theorem aK5:aH0.kd=Kd.oth:=ID rfl
theorem auO:aH0.kd.agg=false:=ID rfl
theorem amQ:aH0.size=1:=ID rfl
theorem agX:aH0.bytes=8:=ID rfl
theorem aK3:qx aH0=True:=eq_true rfl
theorem aK4:zc aH0=[.v Value.nilFunc]:=ID rfl
theorem bi8{K:TI→Prop}:@tyW Tryz.prog 67 ⟨K⟩=K aHZ:=qj bkb
theorem aK2:aHZ.kd=Kd.oth:=ID rfl
theorem auN:aHZ.kd.agg=false:=ID rfl
theorem amP:aHZ.size=1:=ID rfl
theorem agW:aHZ.bytes=8:=ID rfl
theorem aK0:qx aHZ=True:=eq_true rfl
theorem aK1:zc aHZ=[.v Value.nilFunc]:=ID rfl
theorem bi7{K:TI→Prop}:@tyW Tryz.prog 68 ⟨K⟩=K aHY:=qj bka
theorem aKZ:aHY.kd=Kd.oth:=ID rfl
theorem auM:aHY.kd.agg=false:=ID rfl
theorem amO:aHY.size=1:=ID rfl
theorem agV:aHY.bytes=8:=ID rfl
theorem aKX:qx aHY=True:=eq_true rfl
theorem aKY:zc aHY=[.v Value.nilFunc]:=ID rfl
theorem bi6{K:TI→Prop}:@tyW Tryz.prog 69 ⟨K⟩=K aHX:=qj bj9
theorem aKW:aHX.kd=Kd.oth:=ID rfl
theorem auL:aHX.kd.agg=false:=ID rfl
theorem amN:aHX.size=1:=ID rfl
theorem agU:aHX.bytes=8:=ID rfl
theorem aKU:qx aHX=True:=eq_true rfl
theorem aKV:zc aHX=[.v Value.nilFunc]:=ID rfl
theorem bi5{K:TI→Prop}:@tyW Tryz.prog 70 ⟨K⟩=K aHW:=qj bj8
theorem aKS:aHW.kd=Kd.oth:=ID rfl
theorem auJ:aHW.kd.agg=false:=ID rfl
theorem amL:aHW.size=1:=ID rfl
theorem agT:aHW.bytes=8:=ID rfl
theorem aKQ:qx aHW=True:=eq_true rfl
theorem aKR:zc aHW=[.v Value.nilFunc]:=ID rfl
theorem bi4{K:TI→Prop}:@tyW Tryz.prog 71 ⟨K⟩=K aHV:=qj bj7
theorem aKP:aHV.kd=Kd.oth:=ID rfl
theorem auI:aHV.kd.agg=false:=ID rfl
theorem amK:aHV.size=1:=ID rfl
theorem agS:aHV.bytes=8:=ID rfl
theorem aKN:qx aHV=True:=eq_true rfl
theorem aKO:zc aHV=[.v Value.nilFunc]:=ID rfl
theorem bi3{K:TI→Prop}:@tyW Tryz.prog 72 ⟨K⟩=K aHU:=qj bj6
theorem aKM:aHU.kd=Kd.oth:=ID rfl
theorem auH:aHU.kd.agg=false:=ID rfl
theorem amJ:aHU.size=1:=ID rfl
theorem agR:aHU.bytes=8:=ID rfl
theorem aKK:qx aHU=True:=eq_true rfl
theorem aKL:zc aHU=[.v Value.nilFunc]:=ID rfl
theorem bi2{K:TI→Prop}:@tyW Tryz.prog 73 ⟨K⟩=K aHT:=qj bj5
theorem aKJ:aHT.kd=Kd.oth:=ID rfl
theorem auG:aHT.kd.agg=false:=ID rfl
theorem amI:aHT.size=1:=ID rfl
theorem agQ:aHT.bytes=8:=ID rfl
theorem aKH:qx aHT=True:=eq_true rfl
theorem aKI:zc aHT=[.v Value.nilFunc]:=ID rfl
theorem bi1{K:TI→Prop}:@tyW Tryz.prog 74 ⟨K⟩=K afH:=qj aIs
theorem aKG:afH.kd=Kd.sli 87:=ID rfl
theorem auF:afH.kd.agg=false:=ID rfl
theorem amH:afH.size=1:=ID rfl
theorem agP:afH.bytes=24:=ID rfl
theorem aKE:qx afH=True:=eq_true rfl
theorem aKF:zc afH=[.v (Value.slice none 0 0)]:=ID rfl
theorem bfA{K:TI→Prop}:@yX Tryz.prog 74 ⟨K⟩=K alZ:=Zb aIs rfl aSk
theorem bi0{K:TI→Prop}:@tyW Tryz.prog 75 ⟨K⟩=K amG:=qj aZz
theorem aKD:amG.kd=Kd.stru [(0,3),(1,74)]:=ID rfl
theorem auE:amG.kd.agg=true:=ID rfl
theorem amF:amG.size=2:=ID rfl
theorem agO:amG.bytes=32:=ID rfl
theorem aKB:qx amG=True:=eq_true rfl
theorem aKC:zc amG=[.v (Value.int IntKind.i64 0),.v (Value.slice none 0 0)]:=ID rfl
theorem aPN{K:Nat→TI→Prop}:@qE Tryz.prog 75 0 ⟨K⟩=K 0 ti3:=qv (ti:=amG) (tf:=ti3) (fo:=(0,3)) (fs:=[(0,3),(1,74)]) aZz rfl rfl tf3
theorem aS9{K:Nat→Nat→Prop}:qw Tryz.prog [(0,3),(1,74)] 0 K=K 0 1:=qu (tf:=ti3) (fo:=(0,3)) (fs:=[(0,3),(1,74)]) rfl tf3
theorem aPM{K:Nat→TI→Prop}:@qE Tryz.prog 75 1 ⟨K⟩=K 1 afH:=qv (ti:=amG) (tf:=afH) (fo:=(1,74)) (fs:=[(0,3),(1,74)]) aZz rfl rfl aIs
theorem aS8{K:Nat→Nat→Prop}:qw Tryz.prog [(0,3),(1,74)] 1 K=K 1 1:=qu (tf:=afH) (fo:=(1,74)) (fs:=[(0,3),(1,74)]) rfl aIs
theorem aUf:∀f∈([(0,3),(1,74)]:List (Nat×Nat)),(qr Tryz.prog f.2).isSome=true:=by
 intro f hf
 simp only[List.mem_cons,List.not_mem_nil,or_false]at hf
 rcases hf with rfl|rfl
 ·rw[tf3];rfl
 ·rw[aIs];rfl
theorem bh3{ps:List (Nat×AV)}{K:AV→Prop}:@zd Tryz.prog 75 ps ⟨K⟩=@zh (qw Tryz.prog [(0,3),(1,74)]) (zc amG) ps ⟨fun cs=>K (.ag cs)⟩:=qL aZz rfl aUf
theorem biZ{K:TI→Prop}:@tyW Tryz.prog 76 ⟨K⟩=K amE:=qj aZy
theorem aKA:amE.kd=Kd.stru [(0,3),(1,74)]:=ID rfl
theorem auD:amE.kd.agg=true:=ID rfl
theorem amD:amE.size=2:=ID rfl
theorem agN:amE.bytes=32:=ID rfl
theorem aKy:qx amE=True:=eq_true rfl
theorem aKz:zc amE=[.v (Value.int IntKind.i64 0),.v (Value.slice none 0 0)]:=ID rfl
theorem aPL{K:Nat→TI→Prop}:@qE Tryz.prog 76 0 ⟨K⟩=K 0 ti3:=qv (ti:=amE) (tf:=ti3) (fo:=(0,3)) (fs:=[(0,3),(1,74)]) aZy rfl rfl tf3
theorem aS7{K:Nat→Nat→Prop}:qw Tryz.prog [(0,3),(1,74)] 0 K=K 0 1:=qu (tf:=ti3) (fo:=(0,3)) (fs:=[(0,3),(1,74)]) rfl tf3
theorem aPK{K:Nat→TI→Prop}:@qE Tryz.prog 76 1 ⟨K⟩=K 1 afH:=qv (ti:=amE) (tf:=afH) (fo:=(1,74)) (fs:=[(0,3),(1,74)]) aZy rfl rfl aIs
theorem aS6{K:Nat→Nat→Prop}:qw Tryz.prog [(0,3),(1,74)] 1 K=K 1 1:=qu (tf:=afH) (fo:=(1,74)) (fs:=[(0,3),(1,74)]) rfl aIs
theorem aUe:∀f∈([(0,3),(1,74)]:List (Nat×Nat)),(qr Tryz.prog f.2).isSome=true:=by
 intro f hf
 simp only[List.mem_cons,List.not_mem_nil,or_false]at hf
 rcases hf with rfl|rfl
 ·rw[tf3];rfl
 ·rw[aIs];rfl
theorem bh2{ps:List (Nat×AV)}{K:AV→Prop}:@zd Tryz.prog 76 ps ⟨K⟩=@zh (qw Tryz.prog [(0,3),(1,74)]) (zc amE) ps ⟨fun cs=>K (.ag cs)⟩:=qL aZy rfl aUe
theorem biY{K:TI→Prop}:@tyW Tryz.prog 77 ⟨K⟩=K aHS:=qj bj4
theorem aKx:aHS.kd=Kd.oth:=ID rfl
theorem auC:aHS.kd.agg=false:=ID rfl
theorem amC:aHS.size=1:=ID rfl
theorem agM:aHS.bytes=8:=ID rfl
theorem aKv:qx aHS=True:=eq_true rfl
theorem aKw:zc aHS=[.v Value.nilFunc]:=ID rfl
theorem biX{K:TI→Prop}:@tyW Tryz.prog 78 ⟨K⟩=K aHR:=qj bj3
theorem aKu:aHR.kd=Kd.oth:=ID rfl
theorem auB:aHR.kd.agg=false:=ID rfl
theorem amB:aHR.size=1:=ID rfl
theorem agL:aHR.bytes=8:=ID rfl
theorem aKs:qx aHR=True:=eq_true rfl
theorem aKt:zc aHR=[.v Value.nilFunc]:=ID rfl
theorem biW{K:TI→Prop}:@tyW Tryz.prog 79 ⟨K⟩=K aHQ:=qj bj2
theorem aKr:aHQ.kd=Kd.oth:=ID rfl
theorem auA:aHQ.kd.agg=false:=ID rfl
theorem amA:aHQ.size=1:=ID rfl
theorem agK:aHQ.bytes=8:=ID rfl
theorem aKp:qx aHQ=True:=eq_true rfl
theorem aKq:zc aHQ=[.v Value.nilFunc]:=ID rfl
theorem biV{K:TI→Prop}:@tyW Tryz.prog 80 ⟨K⟩=K aHP:=qj bj1
theorem aKn:aHP.kd=Kd.oth:=ID rfl
theorem auy:aHP.kd.agg=false:=ID rfl
theorem amy:aHP.size=1:=ID rfl
theorem agJ:aHP.bytes=8:=ID rfl
theorem aKl:qx aHP=True:=eq_true rfl
theorem aKm:zc aHP=[.v Value.nilFunc]:=ID rfl
theorem biU{K:TI→Prop}:@tyW Tryz.prog 81 ⟨K⟩=K aHO:=qj bj0
theorem aKk:aHO.kd=Kd.oth:=ID rfl
theorem aux:aHO.kd.agg=false:=ID rfl
theorem amx:aHO.size=1:=ID rfl
theorem agI:aHO.bytes=8:=ID rfl
theorem aKi:qx aHO=True:=eq_true rfl
theorem aKj:zc aHO=[.v Value.nilFunc]:=ID rfl
theorem biT{K:TI→Prop}:@tyW Tryz.prog 82 ⟨K⟩=K aHN:=qj bjZ
theorem aKh:aHN.kd=Kd.oth:=ID rfl
theorem auw:aHN.kd.agg=false:=ID rfl
theorem amw:aHN.size=1:=ID rfl
theorem agH:aHN.bytes=8:=ID rfl
theorem aKf:qx aHN=True:=eq_true rfl
theorem aKg:zc aHN=[.v Value.nilFunc]:=ID rfl
theorem biS{K:TI→Prop}:@tyW Tryz.prog 83 ⟨K⟩=K abj:=qj aEu
theorem aKe:abj.kd=Kd.stru [(0,36)]:=ID rfl
theorem auv:abj.kd.agg=true:=ID rfl
theorem amv:abj.size=1:=ID rfl
theorem agG:abj.bytes=24:=ID rfl
theorem aKc:qx abj=True:=eq_true rfl
theorem aKd:zc abj=[.v (Value.slice none 0 0)]:=ID rfl
theorem aPJ{K:Nat→TI→Prop}:@qE Tryz.prog 83 0 ⟨K⟩=K 0 ZG:=qv (ti:=abj) (tf:=ZG) (fo:=(0,36)) (fs:=[(0,36)]) aEu rfl rfl K8
theorem aS5{K:Nat→Nat→Prop}:qw Tryz.prog [(0,36)] 0 K=K 0 1:=qu (tf:=ZG) (fo:=(0,36)) (fs:=[(0,36)]) rfl K8
theorem aUd:∀f∈([(0,36)]:List (Nat×Nat)),(qr Tryz.prog f.2).isSome=true:=by
 intro f hf
 simp only[List.mem_cons,List.not_mem_nil,or_false]at hf
 subst hf;rw[K8];rfl
theorem bh1{ps:List (Nat×AV)}{K:AV→Prop}:@zd Tryz.prog 83 ps ⟨K⟩=@zh (qw Tryz.prog [(0,36)]) (zc abj) ps ⟨fun cs=>K (.ag cs)⟩:=qL aEu rfl aUd
theorem biR{K:TI→Prop}:@tyW Tryz.prog 84 ⟨K⟩=K amu:=qj aZx
theorem aKb:amu.kd=Kd.stru [(0,4),(1,83)]:=ID rfl
theorem auu:amu.kd.agg=true:=ID rfl
theorem amt:amu.size=2:=ID rfl
theorem agF:amu.bytes=32:=ID rfl
theorem aJ9:qx amu=True:=eq_true rfl
theorem aKa:zc amu=[.v (Value.bool false),.v (Value.slice none 0 0)]:=ID rfl
theorem aPI{K:Nat→TI→Prop}:@qE Tryz.prog 84 0 ⟨K⟩=K 0 ti4:=qv (ti:=amu) (tf:=ti4) (fo:=(0,4)) (fs:=[(0,4),(1,83)]) aZx rfl rfl tf4
theorem aS4{K:Nat→Nat→Prop}:qw Tryz.prog [(0,4),(1,83)] 0 K=K 0 1:=qu (tf:=ti4) (fo:=(0,4)) (fs:=[(0,4),(1,83)]) rfl tf4
theorem aPH{K:Nat→TI→Prop}:@qE Tryz.prog 84 1 ⟨K⟩=K 1 abj:=qv (ti:=amu) (tf:=abj) (fo:=(1,83)) (fs:=[(0,4),(1,83)]) aZx rfl rfl aEu
theorem aS3{K:Nat→Nat→Prop}:qw Tryz.prog [(0,4),(1,83)] 1 K=K 1 1:=qu (tf:=abj) (fo:=(1,83)) (fs:=[(0,4),(1,83)]) rfl aEu
theorem aUc:∀f∈([(0,4),(1,83)]:List (Nat×Nat)),(qr Tryz.prog f.2).isSome=true:=by
 intro f hf
 simp only[List.mem_cons,List.not_mem_nil,or_false]at hf
 rcases hf with rfl|rfl
 ·rw[tf4];rfl
 ·rw[aEu];rfl
theorem bh0{ps:List (Nat×AV)}{K:AV→Prop}:@zd Tryz.prog 84 ps ⟨K⟩=@zh (qw Tryz.prog [(0,4),(1,83)]) (zc amu) ps ⟨fun cs=>K (.ag cs)⟩:=qL aZx rfl aUc
theorem biQ{K:TI→Prop}:@tyW Tryz.prog 85 ⟨K⟩=K Xf:=qj atU
theorem aJ8:Xf.kd=Kd.stru [(0,4),(1,83)]:=ID rfl
theorem aut:Xf.kd.agg=true:=ID rfl
theorem ams:Xf.size=2:=ID rfl
theorem agE:Xf.bytes=32:=ID rfl
theorem aJ6:qx Xf=True:=eq_true rfl
theorem aJ7:zc Xf=[.v (Value.bool false),.v (Value.slice none 0 0)]:=ID rfl
theorem aPG{K:Nat→TI→Prop}:@qE Tryz.prog 85 0 ⟨K⟩=K 0 ti4:=qv (ti:=Xf) (tf:=ti4) (fo:=(0,4)) (fs:=[(0,4),(1,83)]) atU rfl rfl tf4
theorem aS2{K:Nat→Nat→Prop}:qw Tryz.prog [(0,4),(1,83)] 0 K=K 0 1:=qu (tf:=ti4) (fo:=(0,4)) (fs:=[(0,4),(1,83)]) rfl tf4
theorem aPF{K:Nat→TI→Prop}:@qE Tryz.prog 85 1 ⟨K⟩=K 1 abj:=qv (ti:=Xf) (tf:=abj) (fo:=(1,83)) (fs:=[(0,4),(1,83)]) atU rfl rfl aEu
theorem aS1{K:Nat→Nat→Prop}:qw Tryz.prog [(0,4),(1,83)] 1 K=K 1 1:=qu (tf:=abj) (fo:=(1,83)) (fs:=[(0,4),(1,83)]) rfl aEu
theorem aUb:∀f∈([(0,4),(1,83)]:List (Nat×Nat)),(qr Tryz.prog f.2).isSome=true:=by
 intro f hf
 simp only[List.mem_cons,List.not_mem_nil,or_false]at hf
 rcases hf with rfl|rfl
 ·rw[tf4];rfl
 ·rw[aEu];rfl
theorem bhZ{ps:List (Nat×AV)}{K:AV→Prop}:@zd Tryz.prog 85 ps ⟨K⟩=@zh (qw Tryz.prog [(0,4),(1,83)]) (zc Xf) ps ⟨fun cs=>K (.ag cs)⟩:=qL atU rfl aUb
theorem biP{K:TI→Prop}:@tyW Tryz.prog 86 ⟨K⟩=K amr:=qj aZw
theorem aJ5:amr.kd=Kd.stru [(0,85),(2,3)]:=ID rfl
theorem aus:amr.kd.agg=true:=ID rfl
theorem amq:amr.size=3:=ID rfl
theorem agD:amr.bytes=40:=ID rfl
theorem aJ3:qx amr=True:=eq_true rfl
theorem aJ4:zc amr=[.v (Value.bool false),.v (Value.slice none 0 0),.v (Value.int IntKind.i64 0)]:=ID rfl
theorem aPE{K:Nat→TI→Prop}:@qE Tryz.prog 86 0 ⟨K⟩=K 0 Xf:=qv (ti:=amr) (tf:=Xf) (fo:=(0,85)) (fs:=[(0,85),(2,3)]) aZw rfl rfl atU
theorem aS0{K:Nat→Nat→Prop}:qw Tryz.prog [(0,85),(2,3)] 0 K=K 0 2:=qu (tf:=Xf) (fo:=(0,85)) (fs:=[(0,85),(2,3)]) rfl atU
theorem aPD{K:Nat→TI→Prop}:@qE Tryz.prog 86 1 ⟨K⟩=K 2 ti3:=qv (ti:=amr) (tf:=ti3) (fo:=(2,3)) (fs:=[(0,85),(2,3)]) aZw rfl rfl tf3
theorem aSZ{K:Nat→Nat→Prop}:qw Tryz.prog [(0,85),(2,3)] 1 K=K 2 1:=qu (tf:=ti3) (fo:=(2,3)) (fs:=[(0,85),(2,3)]) rfl tf3
theorem aUa:∀f∈([(0,85),(2,3)]:List (Nat×Nat)),(qr Tryz.prog f.2).isSome=true:=by
 intro f hf
 simp only[List.mem_cons,List.not_mem_nil,or_false]at hf
 rcases hf with rfl|rfl
 ·rw[atU];rfl
 ·rw[tf3];rfl
theorem bhY{ps:List (Nat×AV)}{K:AV→Prop}:@zd Tryz.prog 86 ps ⟨K⟩=@zh (qw Tryz.prog [(0,85),(2,3)]) (zc amr) ps ⟨fun cs=>K (.ag cs)⟩:=qL aZw rfl aUa
theorem biO{K:TI→Prop}:@tyW Tryz.prog 87 ⟨K⟩=K alZ:=qj aSk
theorem aJ2:alZ.kd=Kd.stru [(0,85),(2,3)]:=ID rfl
theorem aur:alZ.kd.agg=true:=ID rfl
theorem amp:alZ.size=3:=ID rfl
theorem agC:alZ.bytes=40:=ID rfl
theorem aJ0:qx alZ=True:=eq_true rfl
theorem aJ1:zc alZ=[.v (Value.bool false),.v (Value.slice none 0 0),.v (Value.int IntKind.i64 0)]:=ID rfl
theorem aPC{K:Nat→TI→Prop}:@qE Tryz.prog 87 0 ⟨K⟩=K 0 Xf:=qv (ti:=alZ) (tf:=Xf) (fo:=(0,85)) (fs:=[(0,85),(2,3)]) aSk rfl rfl atU
theorem aSY{K:Nat→Nat→Prop}:qw Tryz.prog [(0,85),(2,3)] 0 K=K 0 2:=qu (tf:=Xf) (fo:=(0,85)) (fs:=[(0,85),(2,3)]) rfl atU
theorem aPB{K:Nat→TI→Prop}:@qE Tryz.prog 87 1 ⟨K⟩=K 2 ti3:=qv (ti:=alZ) (tf:=ti3) (fo:=(2,3)) (fs:=[(0,85),(2,3)]) aSk rfl rfl tf3
theorem aSX{K:Nat→Nat→Prop}:qw Tryz.prog [(0,85),(2,3)] 1 K=K 2 1:=qu (tf:=ti3) (fo:=(2,3)) (fs:=[(0,85),(2,3)]) rfl tf3
theorem aT9:∀f∈([(0,85),(2,3)]:List (Nat×Nat)),(qr Tryz.prog f.2).isSome=true:=by
 intro f hf
 simp only[List.mem_cons,List.not_mem_nil,or_false]at hf
 rcases hf with rfl|rfl
 ·rw[atU];rfl
 ·rw[tf3];rfl
theorem bhX{ps:List (Nat×AV)}{K:AV→Prop}:@zd Tryz.prog 87 ps ⟨K⟩=@zh (qw Tryz.prog [(0,85),(2,3)]) (zc alZ) ps ⟨fun cs=>K (.ag cs)⟩:=qL aSk rfl aT9
theorem biN{K:TI→Prop}:@tyW Tryz.prog 88 ⟨K⟩=K aHM:=qj bjY
theorem aJZ:aHM.kd=Kd.oth:=ID rfl
theorem auq:aHM.kd.agg=false:=ID rfl
theorem amo:aHM.size=1:=ID rfl
theorem agB:aHM.bytes=8:=ID rfl
theorem aJX:qx aHM=True:=eq_true rfl
theorem aJY:zc aHM=[.v Value.nilFunc]:=ID rfl
theorem biM{K:TI→Prop}:@tyW Tryz.prog 89 ⟨K⟩=K amn:=qj aZv
theorem aJW:amn.kd=Kd.stru [(0,42),(3,42)]:=ID rfl
theorem aup:amn.kd.agg=true:=ID rfl
theorem amm:amn.size=6:=ID rfl
theorem agA:amn.bytes=80:=ID rfl
theorem aJU:qx amn=True:=eq_true rfl
theorem aJV:zc amn=[.v (Value.bool false),.v (Value.slice none 0 0),.v (Value.int IntKind.i64 0),.v (Value.bool false),.v (Value.slice none 0 0),.v (Value.int IntKind.i64 0)]:=ID rfl
theorem aPA{K:Nat→TI→Prop}:@qE Tryz.prog 89 0 ⟨K⟩=K 0 Zv:=qv (ti:=amn) (tf:=Zv) (fo:=(0,42)) (fs:=[(0,42),(3,42)]) aZv rfl rfl K7
theorem aSW{K:Nat→Nat→Prop}:qw Tryz.prog [(0,42),(3,42)] 0 K=K 0 3:=qu (tf:=Zv) (fo:=(0,42)) (fs:=[(0,42),(3,42)]) rfl K7
theorem aPz{K:Nat→TI→Prop}:@qE Tryz.prog 89 1 ⟨K⟩=K 3 Zv:=qv (ti:=amn) (tf:=Zv) (fo:=(3,42)) (fs:=[(0,42),(3,42)]) aZv rfl rfl K7
theorem aSV{K:Nat→Nat→Prop}:qw Tryz.prog [(0,42),(3,42)] 1 K=K 3 3:=qu (tf:=Zv) (fo:=(3,42)) (fs:=[(0,42),(3,42)]) rfl K7
theorem aT8:∀f∈([(0,42),(3,42)]:List (Nat×Nat)),(qr Tryz.prog f.2).isSome=true:=by
 intro f hf
 simp only[List.mem_cons,List.not_mem_nil,or_false]at hf
 rcases hf with rfl|rfl
 ·rw[K7];rfl
 ·rw[K7];rfl
theorem bhW{ps:List (Nat×AV)}{K:AV→Prop}:@zd Tryz.prog 89 ps ⟨K⟩=@zh (qw Tryz.prog [(0,42),(3,42)]) (zc amn) ps ⟨fun cs=>K (.ag cs)⟩:=qL aZv rfl aT8
theorem biL{K:TI→Prop}:@tyW Tryz.prog 90 ⟨K⟩=K alY:=qj aSj
theorem aJS:alY.kd=Kd.stru [(0,42),(3,42)]:=ID rfl
theorem aun:alY.kd.agg=true:=ID rfl
theorem amk:alY.size=6:=ID rfl
theorem agz:alY.bytes=80:=ID rfl
theorem aJQ:qx alY=True:=eq_true rfl
theorem aJR:zc alY=[.v (Value.bool false),.v (Value.slice none 0 0),.v (Value.int IntKind.i64 0),.v (Value.bool false),.v (Value.slice none 0 0),.v (Value.int IntKind.i64 0)]:=ID rfl
theorem aPy{K:Nat→TI→Prop}:@qE Tryz.prog 90 0 ⟨K⟩=K 0 Zv:=qv (ti:=alY) (tf:=Zv) (fo:=(0,42)) (fs:=[(0,42),(3,42)]) aSj rfl rfl K7
theorem aSU{K:Nat→Nat→Prop}:qw Tryz.prog [(0,42),(3,42)] 0 K=K 0 3:=qu (tf:=Zv) (fo:=(0,42)) (fs:=[(0,42),(3,42)]) rfl K7
theorem aPx{K:Nat→TI→Prop}:@qE Tryz.prog 90 1 ⟨K⟩=K 3 Zv:=qv (ti:=alY) (tf:=Zv) (fo:=(3,42)) (fs:=[(0,42),(3,42)]) aSj rfl rfl K7
theorem aST{K:Nat→Nat→Prop}:qw Tryz.prog [(0,42),(3,42)] 1 K=K 3 3:=qu (tf:=Zv) (fo:=(3,42)) (fs:=[(0,42),(3,42)]) rfl K7
theorem aT7:∀f∈([(0,42),(3,42)]:List (Nat×Nat)),(qr Tryz.prog f.2).isSome=true:=by
 intro f hf
 simp only[List.mem_cons,List.not_mem_nil,or_false]at hf
 rcases hf with rfl|rfl
 ·rw[K7];rfl
 ·rw[K7];rfl
theorem bhV{ps:List (Nat×AV)}{K:AV→Prop}:@zd Tryz.prog 90 ps ⟨K⟩=@zh (qw Tryz.prog [(0,42),(3,42)]) (zc alY) ps ⟨fun cs=>K (.ag cs)⟩:=qL aSj rfl aT7
theorem biK{K:TI→Prop}:@tyW Tryz.prog 92 ⟨K⟩=K aHL:=qj bjX
theorem aJP:aHL.kd=Kd.oth:=ID rfl
theorem aum:aHL.kd.agg=false:=ID rfl
theorem amj:aHL.size=1:=ID rfl
theorem agy:aHL.bytes=8:=ID rfl
theorem aJN:qx aHL=True:=eq_true rfl
theorem aJO:zc aHL=[.v Value.nilFunc]:=ID rfl
theorem biJ{K:TI→Prop}:@tyW Tryz.prog 93 ⟨K⟩=K aHK:=qj bjW
theorem aJM:aHK.kd=Kd.oth:=ID rfl
theorem aul:aHK.kd.agg=false:=ID rfl
theorem ami:aHK.size=1:=ID rfl
theorem agx:aHK.bytes=8:=ID rfl
theorem aJK:qx aHK=True:=eq_true rfl
theorem aJL:zc aHK=[.v Value.nilFunc]:=ID rfl
theorem biI{K:TI→Prop}:@tyW Tryz.prog 94 ⟨K⟩=K aHJ:=qj bjV
theorem aJJ:aHJ.kd=Kd.oth:=ID rfl
theorem auk:aHJ.kd.agg=false:=ID rfl
theorem amh:aHJ.size=1:=ID rfl
theorem agw:aHJ.bytes=8:=ID rfl
theorem aJH:qx aHJ=True:=eq_true rfl
theorem aJI:zc aHJ=[.v Value.nilFunc]:=ID rfl
theorem biH{K:TI→Prop}:@tyW Tryz.prog 95 ⟨K⟩=K aHI:=qj bjU
theorem aJG:aHI.kd=Kd.oth:=ID rfl
theorem auj:aHI.kd.agg=false:=ID rfl
theorem amg:aHI.size=1:=ID rfl
theorem agv:aHI.bytes=8:=ID rfl
theorem aJE:qx aHI=True:=eq_true rfl
theorem aJF:zc aHI=[.v Value.nilFunc]:=ID rfl
theorem biG{K:TI→Prop}:@tyW Tryz.prog 96 ⟨K⟩=K aHH:=qj bjT
theorem aJD:aHH.kd=Kd.oth:=ID rfl
theorem aui:aHH.kd.agg=false:=ID rfl
theorem amf:aHH.size=1:=ID rfl
theorem agu:aHH.bytes=8:=ID rfl
theorem aJB:qx aHH=True:=eq_true rfl
theorem aJC:zc aHH=[.v Value.nilFunc]:=ID rfl
theorem biF{K:TI→Prop}:@tyW Tryz.prog 97 ⟨K⟩=K aHG:=qj bjS
theorem aJA:aHG.kd=Kd.oth:=ID rfl
theorem auh:aHG.kd.agg=false:=ID rfl
theorem ame:aHG.size=1:=ID rfl
theorem agt:aHG.bytes=8:=ID rfl
theorem aJy:qx aHG=True:=eq_true rfl
theorem aJz:zc aHG=[.v Value.nilFunc]:=ID rfl
theorem biE{K:TI→Prop}:@tyW Tryz.prog 98 ⟨K⟩=K aHF:=qj bjR
theorem aJx:aHF.kd=Kd.oth:=ID rfl
theorem aug:aHF.kd.agg=false:=ID rfl
theorem amd:aHF.size=1:=ID rfl
theorem ags:aHF.bytes=8:=ID rfl
theorem aJv:qx aHF=True:=eq_true rfl
theorem aJw:zc aHF=[.v Value.nilFunc]:=ID rfl
theorem biD{K:TI→Prop}:@tyW Tryz.prog 99 ⟨K⟩=K aHE:=qj bjQ
theorem aJu:aHE.kd=Kd.oth:=ID rfl
theorem auf:aHE.kd.agg=false:=ID rfl
theorem amc:aHE.size=1:=ID rfl
theorem agr:aHE.bytes=8:=ID rfl
theorem aJs:qx aHE=True:=eq_true rfl
theorem aJt:zc aHE=[.v Value.nilFunc]:=ID rfl
theorem bcG{K:TI→Prop}:@tyW Tryz.prog 101 ⟨K⟩=K K3:=qj bfv
theorem aEr:K3.kd=Kd.oth:=ID rfl
theorem aqH:K3.kd.agg=false:=ID rfl
theorem akz:K3.size=1:=ID rfl
theorem aes:K3.bytes=8:=ID rfl
theorem aEp:qx K3=True:=eq_true rfl
theorem aEq:zc K3=[.v Value.nilFunc]:=ID rfl
theorem bcF{K:TI→Prop}:@tyW Tryz.prog 102 ⟨K⟩=K K2:=qj bfu
theorem aEo:K2.kd=Kd.oth:=ID rfl
theorem aqG:K2.kd.agg=false:=ID rfl
theorem aky:K2.size=1:=ID rfl
theorem aer:K2.bytes=8:=ID rfl
theorem aEm:qx K2=True:=eq_true rfl
theorem aEn:zc K2=[.v Value.nilFunc]:=ID rfl
theorem bcE{K:TI→Prop}:@tyW Tryz.prog 103 ⟨K⟩=K K1:=qj bft
theorem aEl:K1.kd=Kd.oth:=ID rfl
theorem aqF:K1.kd.agg=false:=ID rfl
theorem akx:K1.size=1:=ID rfl
theorem aeq:K1.bytes=8:=ID rfl
theorem aEj:qx K1=True:=eq_true rfl
theorem aEk:zc K1=[.v Value.nilFunc]:=ID rfl
theorem bcD{K:TI→Prop}:@tyW Tryz.prog 104 ⟨K⟩=K K0:=qj bfs
theorem aEi:K0.kd=Kd.oth:=ID rfl
theorem aqE:K0.kd.agg=false:=ID rfl
theorem akw:K0.size=1:=ID rfl
theorem aep:K0.bytes=8:=ID rfl
theorem aEg:qx K0=True:=eq_true rfl
theorem aEh:zc K0=[.v Value.nilFunc]:=ID rfl
theorem bcC{K:TI→Prop}:@tyW Tryz.prog 105 ⟨K⟩=K Qm:=qj K9
theorem aEf:Qm.kd=Kd.sli 125:=ID rfl
theorem aqD:Qm.kd.agg=false:=ID rfl
theorem akv:Qm.size=1:=ID rfl
theorem aeo:Qm.bytes=24:=ID rfl
theorem aEd:qx Qm=True:=eq_true rfl
theorem aEe:zc Qm=[.v (Value.slice none 0 0)]:=ID rfl
theorem aSD{K:TI→Prop}:@yX Tryz.prog 105 ⟨K⟩=K Zn:=Zb K9 rfl aqL
theorem bcB{K:TI→Prop}:@tyW Tryz.prog 106 ⟨K⟩=K ZL:=qj aEA
theorem aEc:ZL.kd=Kd.stru [(0,3),(1,105)]:=ID rfl
theorem aqC:ZL.kd.agg=true:=ID rfl
theorem aku:ZL.size=2:=ID rfl
theorem aen:ZL.bytes=32:=ID rfl
theorem aEa:qx ZL=True:=eq_true rfl
theorem aEb:zc ZL=[.v (Value.int IntKind.i64 0),.v (Value.slice none 0 0)]:=ID rfl
theorem aGw{K:Nat→TI→Prop}:@qE Tryz.prog 106 0 ⟨K⟩=K 0 ti3:=qv (ti:=ZL) (tf:=ti3) (fo:=(0,3)) (fs:=[(0,3),(1,105)]) aEA rfl rfl tf3
theorem aN8{K:Nat→Nat→Prop}:qw Tryz.prog [(0,3),(1,105)] 0 K=K 0 1:=qu (tf:=ti3) (fo:=(0,3)) (fs:=[(0,3),(1,105)]) rfl tf3
theorem aGv{K:Nat→TI→Prop}:@qE Tryz.prog 106 1 ⟨K⟩=K 1 Qm:=qv (ti:=ZL) (tf:=Qm) (fo:=(1,105)) (fs:=[(0,3),(1,105)]) aEA rfl rfl K9
theorem aN7{K:Nat→Nat→Prop}:qw Tryz.prog [(0,3),(1,105)] 1 K=K 1 1:=qu (tf:=Qm) (fo:=(1,105)) (fs:=[(0,3),(1,105)]) rfl K9
theorem aPr:∀f∈([(0,3),(1,105)]:List (Nat×Nat)),(qr Tryz.prog f.2).isSome=true:=by
 intro f hf
 simp only[List.mem_cons,List.not_mem_nil,or_false]at hf
 rcases hf with rfl|rfl
 ·rw[tf3];rfl
 ·rw[K9];rfl
theorem aY0{ps:List (Nat×AV)}{K:AV→Prop}:@zd Tryz.prog 106 ps ⟨K⟩=@zh (qw Tryz.prog [(0,3),(1,105)]) (zc ZL) ps ⟨fun cs=>K (.ag cs)⟩:=qL aEA rfl aPr
theorem bcA{K:TI→Prop}:@tyW Tryz.prog 107 ⟨K⟩=K ZK:=qj aEz
theorem aD9:ZK.kd=Kd.stru [(0,3),(1,105)]:=ID rfl
theorem aqB:ZK.kd.agg=true:=ID rfl
theorem akt:ZK.size=2:=ID rfl
theorem aem:ZK.bytes=32:=ID rfl
theorem aD7:qx ZK=True:=eq_true rfl
theorem aD8:zc ZK=[.v (Value.int IntKind.i64 0),.v (Value.slice none 0 0)]:=ID rfl
theorem aGu{K:Nat→TI→Prop}:@qE Tryz.prog 107 0 ⟨K⟩=K 0 ti3:=qv (ti:=ZK) (tf:=ti3) (fo:=(0,3)) (fs:=[(0,3),(1,105)]) aEz rfl rfl tf3
theorem aN6{K:Nat→Nat→Prop}:qw Tryz.prog [(0,3),(1,105)] 0 K=K 0 1:=qu (tf:=ti3) (fo:=(0,3)) (fs:=[(0,3),(1,105)]) rfl tf3
theorem aGt{K:Nat→TI→Prop}:@qE Tryz.prog 107 1 ⟨K⟩=K 1 Qm:=qv (ti:=ZK) (tf:=Qm) (fo:=(1,105)) (fs:=[(0,3),(1,105)]) aEz rfl rfl K9
theorem aN5{K:Nat→Nat→Prop}:qw Tryz.prog [(0,3),(1,105)] 1 K=K 1 1:=qu (tf:=Qm) (fo:=(1,105)) (fs:=[(0,3),(1,105)]) rfl K9
theorem aPq:∀f∈([(0,3),(1,105)]:List (Nat×Nat)),(qr Tryz.prog f.2).isSome=true:=by
 intro f hf
 simp only[List.mem_cons,List.not_mem_nil,or_false]at hf
 rcases hf with rfl|rfl
 ·rw[tf3];rfl
 ·rw[K9];rfl
theorem aYZ{ps:List (Nat×AV)}{K:AV→Prop}:@zd Tryz.prog 107 ps ⟨K⟩=@zh (qw Tryz.prog [(0,3),(1,105)]) (zc ZK) ps ⟨fun cs=>K (.ag cs)⟩:=qL aEz rfl aPq
theorem bcz{K:TI→Prop}:@tyW Tryz.prog 108 ⟨K⟩=K y8:=qj Ym
theorem aD6:y8.kd=Kd.sli 117:=ID rfl
theorem aqA:y8.kd.agg=false:=ID rfl
theorem aks:y8.size=1:=ID rfl
theorem ael:y8.bytes=24:=ID rfl
theorem aD4:qx y8=True:=eq_true rfl
theorem aD5:zc y8=[.v (Value.slice none 0 0)]:=ID rfl
theorem aSC{K:TI→Prop}:@yX Tryz.prog 108 ⟨K⟩=K jo:=Zb Ym rfl yl
theorem bcy{K:TI→Prop}:@tyW Tryz.prog 109 ⟨K⟩=K ZJ:=qj aEy
theorem aD3:ZJ.kd=Kd.stru [(0,3),(1,108)]:=ID rfl
theorem aqz:ZJ.kd.agg=true:=ID rfl
theorem akr:ZJ.size=2:=ID rfl
theorem aek:ZJ.bytes=32:=ID rfl
theorem aD1:qx ZJ=True:=eq_true rfl
theorem aD2:zc ZJ=[.v (Value.int IntKind.i64 0),.v (Value.slice none 0 0)]:=ID rfl
theorem aGs{K:Nat→TI→Prop}:@qE Tryz.prog 109 0 ⟨K⟩=K 0 ti3:=qv (ti:=ZJ) (tf:=ti3) (fo:=(0,3)) (fs:=[(0,3),(1,108)]) aEy rfl rfl tf3
theorem aN4{K:Nat→Nat→Prop}:qw Tryz.prog [(0,3),(1,108)] 0 K=K 0 1:=qu (tf:=ti3) (fo:=(0,3)) (fs:=[(0,3),(1,108)]) rfl tf3
theorem aGr{K:Nat→TI→Prop}:@qE Tryz.prog 109 1 ⟨K⟩=K 1 y8:=qv (ti:=ZJ) (tf:=y8) (fo:=(1,108)) (fs:=[(0,3),(1,108)]) aEy rfl rfl Ym
theorem aN3{K:Nat→Nat→Prop}:qw Tryz.prog [(0,3),(1,108)] 1 K=K 1 1:=qu (tf:=y8) (fo:=(1,108)) (fs:=[(0,3),(1,108)]) rfl Ym
theorem aPp:∀f∈([(0,3),(1,108)]:List (Nat×Nat)),(qr Tryz.prog f.2).isSome=true:=by
 intro f hf
 simp only[List.mem_cons,List.not_mem_nil,or_false]at hf
 rcases hf with rfl|rfl
 ·rw[tf3];rfl
 ·rw[Ym];rfl
theorem aYY{ps:List (Nat×AV)}{K:AV→Prop}:@zd Tryz.prog 109 ps ⟨K⟩=@zh (qw Tryz.prog [(0,3),(1,108)]) (zc ZJ) ps ⟨fun cs=>K (.ag cs)⟩:=qL aEy rfl aPp
theorem bcx{K:TI→Prop}:@tyW Tryz.prog 110 ⟨K⟩=K ZI:=qj aEx
theorem aDZ:ZI.kd=Kd.stru [(0,3),(1,108)]:=ID rfl
theorem aqx:ZI.kd.agg=true:=ID rfl
theorem akp:ZI.size=2:=ID rfl
theorem aej:ZI.bytes=32:=ID rfl
theorem aDX:qx ZI=True:=eq_true rfl
theorem aDY:zc ZI=[.v (Value.int IntKind.i64 0),.v (Value.slice none 0 0)]:=ID rfl
theorem aGq{K:Nat→TI→Prop}:@qE Tryz.prog 110 0 ⟨K⟩=K 0 ti3:=qv (ti:=ZI) (tf:=ti3) (fo:=(0,3)) (fs:=[(0,3),(1,108)]) aEx rfl rfl tf3
theorem aN2{K:Nat→Nat→Prop}:qw Tryz.prog [(0,3),(1,108)] 0 K=K 0 1:=qu (tf:=ti3) (fo:=(0,3)) (fs:=[(0,3),(1,108)]) rfl tf3
theorem aGp{K:Nat→TI→Prop}:@qE Tryz.prog 110 1 ⟨K⟩=K 1 y8:=qv (ti:=ZI) (tf:=y8) (fo:=(1,108)) (fs:=[(0,3),(1,108)]) aEx rfl rfl Ym
theorem aN1{K:Nat→Nat→Prop}:qw Tryz.prog [(0,3),(1,108)] 1 K=K 1 1:=qu (tf:=y8) (fo:=(1,108)) (fs:=[(0,3),(1,108)]) rfl Ym
theorem aPo:∀f∈([(0,3),(1,108)]:List (Nat×Nat)),(qr Tryz.prog f.2).isSome=true:=by
 intro f hf
 simp only[List.mem_cons,List.not_mem_nil,or_false]at hf
 rcases hf with rfl|rfl
 ·rw[tf3];rfl
 ·rw[Ym];rfl
theorem aYX{ps:List (Nat×AV)}{K:AV→Prop}:@zd Tryz.prog 110 ps ⟨K⟩=@zh (qw Tryz.prog [(0,3),(1,108)]) (zc ZI) ps ⟨fun cs=>K (.ag cs)⟩:=qL aEx rfl aPo
theorem bcw{K:TI→Prop}:@tyW Tryz.prog 111 ⟨K⟩=K KZ:=qj bfr
theorem aDW:KZ.kd=Kd.oth:=ID rfl
theorem aqw:KZ.kd.agg=false:=ID rfl
theorem ako:KZ.size=1:=ID rfl
theorem aei:KZ.bytes=8:=ID rfl
theorem aDU:qx KZ=True:=eq_true rfl
theorem aDV:zc KZ=[.v Value.nilFunc]:=ID rfl
theorem bcv{K:TI→Prop}:@tyW Tryz.prog 112 ⟨K⟩=K KY:=qj bfq
theorem aDT:KY.kd=Kd.oth:=ID rfl
theorem aqv:KY.kd.agg=false:=ID rfl
theorem akn:KY.size=1:=ID rfl
theorem aeh:KY.bytes=8:=ID rfl
theorem aDR:qx KY=True:=eq_true rfl
theorem aDS:zc KY=[.v Value.nilFunc]:=ID rfl
theorem bcu{K:TI→Prop}:@tyW Tryz.prog 113 ⟨K⟩=K KX:=qj bfp
theorem aDQ:KX.kd=Kd.oth:=ID rfl
theorem aqu:KX.kd.agg=false:=ID rfl
theorem akm:KX.size=1:=ID rfl
theorem aeg:KX.bytes=8:=ID rfl
theorem aDO:qx KX=True:=eq_true rfl
theorem aDP:zc KX=[.v Value.nilFunc]:=ID rfl
theorem bct{K:TI→Prop}:@tyW Tryz.prog 114 ⟨K⟩=K KW:=qj bfo
theorem aDN:KW.kd=Kd.oth:=ID rfl
theorem aqt:KW.kd.agg=false:=ID rfl
theorem akl:KW.size=1:=ID rfl
theorem aef:KW.bytes=8:=ID rfl
theorem aDL:qx KW=True:=eq_true rfl
theorem aDM:zc KW=[.v Value.nilFunc]:=ID rfl
theorem bcs{K:TI→Prop}:@tyW Tryz.prog 115 ⟨K⟩=K KU:=qj bfn
theorem aDK:KU.kd=Kd.oth:=ID rfl
theorem aqs:KU.kd.agg=false:=ID rfl
theorem akk:KU.size=1:=ID rfl
theorem aee:KU.bytes=8:=ID rfl
theorem aDI:qx KU=True:=eq_true rfl
theorem aDJ:zc KU=[.v Value.nilFunc]:=ID rfl
theorem bcr{K:TI→Prop}:@tyW Tryz.prog 116 ⟨K⟩=K Zo:=qj aqM
theorem aDH:Zo.kd=Kd.stru [(0,4),(1,36),(2,3)]:=ID rfl
theorem aqr:Zo.kd.agg=true:=ID rfl
theorem akj:Zo.size=3:=ID rfl
theorem aed:Zo.bytes=40:=ID rfl
theorem aDF:qx Zo=True:=eq_true rfl
theorem aDG:zc Zo=[.v (Value.bool false),.v (Value.slice none 0 0),.v (Value.int IntKind.i64 0)]:=ID rfl
theorem aGo{K:Nat→TI→Prop}:@qE Tryz.prog 116 0 ⟨K⟩=K 0 ti4:=qv (ti:=Zo) (tf:=ti4) (fo:=(0,4)) (fs:=[(0,4),(1,36),(2,3)]) aqM rfl rfl tf4
theorem aN0{K:Nat→Nat→Prop}:qw Tryz.prog [(0,4),(1,36),(2,3)] 0 K=K 0 1:=qu (tf:=ti4) (fo:=(0,4)) (fs:=[(0,4),(1,36),(2,3)]) rfl tf4
theorem aGn{K:Nat→TI→Prop}:@qE Tryz.prog 116 1 ⟨K⟩=K 1 ZG:=qv (ti:=Zo) (tf:=ZG) (fo:=(1,36)) (fs:=[(0,4),(1,36),(2,3)]) aqM rfl rfl K8
theorem aNZ{K:Nat→Nat→Prop}:qw Tryz.prog [(0,4),(1,36),(2,3)] 1 K=K 1 1:=qu (tf:=ZG) (fo:=(1,36)) (fs:=[(0,4),(1,36),(2,3)]) rfl K8
theorem aGm{K:Nat→TI→Prop}:@qE Tryz.prog 116 2 ⟨K⟩=K 2 ti3:=qv (ti:=Zo) (tf:=ti3) (fo:=(2,3)) (fs:=[(0,4),(1,36),(2,3)]) aqM rfl rfl tf3
theorem aNY{K:Nat→Nat→Prop}:qw Tryz.prog [(0,4),(1,36),(2,3)] 2 K=K 2 1:=qu (tf:=ti3) (fo:=(2,3)) (fs:=[(0,4),(1,36),(2,3)]) rfl tf3
theorem aPn:∀f∈([(0,4),(1,36),(2,3)]:List (Nat×Nat)),(qr Tryz.prog f.2).isSome=true:=by
 intro f hf
 simp only[List.mem_cons,List.not_mem_nil,or_false]at hf
 rcases hf with rfl|rfl|rfl
 ·rw[tf4];rfl
 ·rw[K8];rfl
 ·rw[tf3];rfl
theorem aYW{ps:List (Nat×AV)}{K:AV→Prop}:@zd Tryz.prog 116 ps ⟨K⟩=@zh (qw Tryz.prog [(0,4),(1,36),(2,3)]) (zc Zo) ps ⟨fun cs=>K (.ag cs)⟩:=qL aqM rfl aPn
theorem bcq{K:TI→Prop}:@tyW Tryz.prog 117 ⟨K⟩=K jo:=qj yl
theorem aDE:jo.kd=Kd.stru [(0,4),(1,36),(2,3)]:=ID rfl
theorem aqq:jo.kd.agg=true:=ID rfl
theorem aki:jo.size=3:=ID rfl
theorem aec:jo.bytes=40:=ID rfl
theorem aDC:qx jo=True:=eq_true rfl
theorem aDD:zc jo=[.v (Value.bool false),.v (Value.slice none 0 0),.v (Value.int IntKind.i64 0)]:=ID rfl
theorem aGl{K:Nat→TI→Prop}:@qE Tryz.prog 117 0 ⟨K⟩=K 0 ti4:=qv (ti:=jo) (tf:=ti4) (fo:=(0,4)) (fs:=[(0,4),(1,36),(2,3)]) yl rfl rfl tf4
theorem aNX{K:Nat→Nat→Prop}:qw Tryz.prog [(0,4),(1,36),(2,3)] 0 K=K 0 1:=qu (tf:=ti4) (fo:=(0,4)) (fs:=[(0,4),(1,36),(2,3)]) rfl tf4
theorem aGk{K:Nat→TI→Prop}:@qE Tryz.prog 117 1 ⟨K⟩=K 1 ZG:=qv (ti:=jo) (tf:=ZG) (fo:=(1,36)) (fs:=[(0,4),(1,36),(2,3)]) yl rfl rfl K8
theorem aNW{K:Nat→Nat→Prop}:qw Tryz.prog [(0,4),(1,36),(2,3)] 1 K=K 1 1:=qu (tf:=ZG) (fo:=(1,36)) (fs:=[(0,4),(1,36),(2,3)]) rfl K8
theorem aGj{K:Nat→TI→Prop}:@qE Tryz.prog 117 2 ⟨K⟩=K 2 ti3:=qv (ti:=jo) (tf:=ti3) (fo:=(2,3)) (fs:=[(0,4),(1,36),(2,3)]) yl rfl rfl tf3
theorem aNV{K:Nat→Nat→Prop}:qw Tryz.prog [(0,4),(1,36),(2,3)] 2 K=K 2 1:=qu (tf:=ti3) (fo:=(2,3)) (fs:=[(0,4),(1,36),(2,3)]) rfl tf3
theorem aPm:∀f∈([(0,4),(1,36),(2,3)]:List (Nat×Nat)),(qr Tryz.prog f.2).isSome=true:=by
 intro f hf
 simp only[List.mem_cons,List.not_mem_nil,or_false]at hf
 rcases hf with rfl|rfl|rfl
 ·rw[tf4];rfl
 ·rw[K8];rfl
 ·rw[tf3];rfl
theorem aYV{ps:List (Nat×AV)}{K:AV→Prop}:@zd Tryz.prog 117 ps ⟨K⟩=@zh (qw Tryz.prog [(0,4),(1,36),(2,3)]) (zc jo) ps ⟨fun cs=>K (.ag cs)⟩:=qL yl rfl aPm
theorem bcp{K:TI→Prop}:@tyW Tryz.prog 118 ⟨K⟩=K KT:=qj bfm
theorem aDB:KT.kd=Kd.oth:=ID rfl
theorem aqp:KT.kd.agg=false:=ID rfl
theorem akh:KT.size=1:=ID rfl
theorem aeb:KT.bytes=8:=ID rfl
theorem aDz:qx KT=True:=eq_true rfl
theorem aDA:zc KT=[.v Value.nilFunc]:=ID rfl
theorem bco{K:TI→Prop}:@tyW Tryz.prog 119 ⟨K⟩=K KS:=qj bfl
theorem aDy:KS.kd=Kd.oth:=ID rfl
theorem aqo:KS.kd.agg=false:=ID rfl
theorem akg:KS.size=1:=ID rfl
theorem aea:KS.bytes=8:=ID rfl
theorem aDw:qx KS=True:=eq_true rfl
theorem aDx:zc KS=[.v Value.nilFunc]:=ID rfl
theorem bcn{K:TI→Prop}:@tyW Tryz.prog 120 ⟨K⟩=K KR:=qj bfk
theorem aDu:KR.kd=Kd.oth:=ID rfl
theorem aqm:KR.kd.agg=false:=ID rfl
theorem ake:KR.size=1:=ID rfl
theorem ad9:KR.bytes=8:=ID rfl
theorem aDs:qx KR=True:=eq_true rfl
theorem aDt:zc KR=[.v Value.nilFunc]:=ID rfl
theorem bcm{K:TI→Prop}:@tyW Tryz.prog 121 ⟨K⟩=K KQ:=qj bfj
theorem aDr:KQ.kd=Kd.oth:=ID rfl
theorem aql:KQ.kd.agg=false:=ID rfl
theorem akd:KQ.size=1:=ID rfl
theorem ad8:KQ.bytes=8:=ID rfl
theorem aDp:qx KQ=True:=eq_true rfl
theorem aDq:zc KQ=[.v Value.nilFunc]:=ID rfl
theorem bcl{K:TI→Prop}:@tyW Tryz.prog 122 ⟨K⟩=K KP:=qj bfi
theorem aDo:KP.kd=Kd.oth:=ID rfl
theorem aqk:KP.kd.agg=false:=ID rfl
theorem akc:KP.size=1:=ID rfl
theorem ad7:KP.bytes=8:=ID rfl
theorem aDm:qx KP=True:=eq_true rfl
theorem aDn:zc KP=[.v Value.nilFunc]:=ID rfl
theorem bck{K:TI→Prop}:@tyW Tryz.prog 123 ⟨K⟩=K KO:=qj bfh
theorem aDl:KO.kd=Kd.oth:=ID rfl
theorem aqj:KO.kd.agg=false:=ID rfl
theorem akb:KO.size=1:=ID rfl
theorem ad6:KO.bytes=8:=ID rfl
theorem aDj:qx KO=True:=eq_true rfl
theorem aDk:zc KO=[.v Value.nilFunc]:=ID rfl
theorem bcj{K:TI→Prop}:@tyW Tryz.prog 124 ⟨K⟩=K ZH:=qj aEw
theorem aDi:ZH.kd=Kd.stru [(0,117),(3,117)]:=ID rfl
theorem aqi:ZH.kd.agg=true:=ID rfl
theorem aka:ZH.size=6:=ID rfl
theorem ad5:ZH.bytes=80:=ID rfl
theorem aDg:qx ZH=True:=eq_true rfl
theorem aDh:zc ZH=[.v (Value.bool false),.v (Value.slice none 0 0),.v (Value.int IntKind.i64 0),.v (Value.bool false),.v (Value.slice none 0 0),.v (Value.int IntKind.i64 0)]:=ID rfl
theorem aGi{K:Nat→TI→Prop}:@qE Tryz.prog 124 0 ⟨K⟩=K 0 jo:=qv (ti:=ZH) (tf:=jo) (fo:=(0,117)) (fs:=[(0,117),(3,117)]) aEw rfl rfl yl
theorem aNU{K:Nat→Nat→Prop}:qw Tryz.prog [(0,117),(3,117)] 0 K=K 0 3:=qu (tf:=jo) (fo:=(0,117)) (fs:=[(0,117),(3,117)]) rfl yl
theorem aGh{K:Nat→TI→Prop}:@qE Tryz.prog 124 1 ⟨K⟩=K 3 jo:=qv (ti:=ZH) (tf:=jo) (fo:=(3,117)) (fs:=[(0,117),(3,117)]) aEw rfl rfl yl
theorem aNT{K:Nat→Nat→Prop}:qw Tryz.prog [(0,117),(3,117)] 1 K=K 3 3:=qu (tf:=jo) (fo:=(3,117)) (fs:=[(0,117),(3,117)]) rfl yl
theorem aPl:∀f∈([(0,117),(3,117)]:List (Nat×Nat)),(qr Tryz.prog f.2).isSome=true:=by
 intro f hf
 simp only[List.mem_cons,List.not_mem_nil,or_false]at hf
 rcases hf with rfl|rfl
 ·rw[yl];rfl
 ·rw[yl];rfl
theorem aYU{ps:List (Nat×AV)}{K:AV→Prop}:@zd Tryz.prog 124 ps ⟨K⟩=@zh (qw Tryz.prog [(0,117),(3,117)]) (zc ZH) ps ⟨fun cs=>K (.ag cs)⟩:=qL aEw rfl aPl
theorem bci{K:TI→Prop}:@tyW Tryz.prog 125 ⟨K⟩=K Zn:=qj aqL
theorem aDf:Zn.kd=Kd.stru [(0,117),(3,117)]:=ID rfl
theorem aqh:Zn.kd.agg=true:=ID rfl
theorem aj9:Zn.size=6:=ID rfl
theorem ad4:Zn.bytes=80:=ID rfl
theorem aDd:qx Zn=True:=eq_true rfl
theorem aDe:zc Zn=[.v (Value.bool false),.v (Value.slice none 0 0),.v (Value.int IntKind.i64 0),.v (Value.bool false),.v (Value.slice none 0 0),.v (Value.int IntKind.i64 0)]:=ID rfl
theorem aGg{K:Nat→TI→Prop}:@qE Tryz.prog 125 0 ⟨K⟩=K 0 jo:=qv (ti:=Zn) (tf:=jo) (fo:=(0,117)) (fs:=[(0,117),(3,117)]) aqL rfl rfl yl
theorem aNS{K:Nat→Nat→Prop}:qw Tryz.prog [(0,117),(3,117)] 0 K=K 0 3:=qu (tf:=jo) (fo:=(0,117)) (fs:=[(0,117),(3,117)]) rfl yl
theorem aGf{K:Nat→TI→Prop}:@qE Tryz.prog 125 1 ⟨K⟩=K 3 jo:=qv (ti:=Zn) (tf:=jo) (fo:=(3,117)) (fs:=[(0,117),(3,117)]) aqL rfl rfl yl
theorem aNR{K:Nat→Nat→Prop}:qw Tryz.prog [(0,117),(3,117)] 1 K=K 3 3:=qu (tf:=jo) (fo:=(3,117)) (fs:=[(0,117),(3,117)]) rfl yl
theorem aPk:∀f∈([(0,117),(3,117)]:List (Nat×Nat)),(qr Tryz.prog f.2).isSome=true:=by
 intro f hf
 simp only[List.mem_cons,List.not_mem_nil,or_false]at hf
 rcases hf with rfl|rfl
 ·rw[yl];rfl
 ·rw[yl];rfl
theorem aYT{ps:List (Nat×AV)}{K:AV→Prop}:@zd Tryz.prog 125 ps ⟨K⟩=@zh (qw Tryz.prog [(0,117),(3,117)]) (zc Zn) ps ⟨fun cs=>K (.ag cs)⟩:=qL aqL rfl aPk
theorem bch{K:TI→Prop}:@tyW Tryz.prog 127 ⟨K⟩=K KN:=qj bfg
theorem aDc:KN.kd=Kd.oth:=ID rfl
theorem aqg:KN.kd.agg=false:=ID rfl
theorem aj8:KN.size=1:=ID rfl
theorem ad3:KN.bytes=8:=ID rfl
theorem aDa:qx KN=True:=eq_true rfl
theorem aDb:zc KN=[.v Value.nilFunc]:=ID rfl
theorem bcg{K:TI→Prop}:@tyW Tryz.prog 128 ⟨K⟩=K KM:=qj bff
theorem aC9:KM.kd=Kd.oth:=ID rfl
theorem aqf:KM.kd.agg=false:=ID rfl
theorem aj7:KM.size=1:=ID rfl
theorem ad2:KM.bytes=8:=ID rfl
theorem aC7:qx KM=True:=eq_true rfl
theorem aC8:zc KM=[.v Value.nilFunc]:=ID rfl
theorem bcf{K:TI→Prop}:@tyW Tryz.prog 129 ⟨K⟩=K KL:=qj bfe
theorem aC6:KL.kd=Kd.oth:=ID rfl
theorem aqe:KL.kd.agg=false:=ID rfl
theorem aj6:KL.size=1:=ID rfl
theorem ad1:KL.bytes=8:=ID rfl
theorem aC4:qx KL=True:=eq_true rfl
theorem aC5:zc KL=[.v Value.nilFunc]:=ID rfl
theorem bce{K:TI→Prop}:@tyW Tryz.prog 130 ⟨K⟩=K KK:=qj bfd
theorem aC2:KK.kd=Kd.oth:=ID rfl
theorem aqc:KK.kd.agg=false:=ID rfl
theorem aj4:KK.size=1:=ID rfl
theorem ad0:KK.bytes=8:=ID rfl
theorem aC0:qx KK=True:=eq_true rfl
theorem aC1:zc KK=[.v Value.nilFunc]:=ID rfl
theorem bcd{K:TI→Prop}:@tyW Tryz.prog 131 ⟨K⟩=K KJ:=qj bfc
theorem aCZ:KJ.kd=Kd.oth:=ID rfl
theorem aqb:KJ.kd.agg=false:=ID rfl
theorem aj3:KJ.size=1:=ID rfl
theorem adY:KJ.bytes=8:=ID rfl
theorem aCX:qx KJ=True:=eq_true rfl
theorem aCY:zc KJ=[.v Value.nilFunc]:=ID rfl
theorem bcc{K:TI→Prop}:@tyW Tryz.prog 132 ⟨K⟩=K KI:=qj bfb
theorem aCW:KI.kd=Kd.oth:=ID rfl
theorem aqa:KI.kd.agg=false:=ID rfl
theorem aj2:KI.size=1:=ID rfl
theorem adX:KI.bytes=8:=ID rfl
theorem aCU:qx KI=True:=eq_true rfl
theorem aCV:zc KI=[.v Value.nilFunc]:=ID rfl
theorem bcb{K:TI→Prop}:@tyW Tryz.prog 133 ⟨K⟩=K KH:=qj bfa
theorem aCT:KH.kd=Kd.oth:=ID rfl
theorem ap9:KH.kd.agg=false:=ID rfl
theorem aj1:KH.size=1:=ID rfl
theorem adW:KH.bytes=8:=ID rfl
theorem aCR:qx KH=True:=eq_true rfl
theorem aCS:zc KH=[.v Value.nilFunc]:=ID rfl
theorem bca{K:TI→Prop}:@tyW Tryz.prog 134 ⟨K⟩=K KG:=qj be9
theorem aCQ:KG.kd=Kd.oth:=ID rfl
theorem ap8:KG.kd.agg=false:=ID rfl
theorem aj0:KG.size=1:=ID rfl
theorem adV:KG.bytes=8:=ID rfl
theorem aCO:qx KG=True:=eq_true rfl
theorem aCP:zc KG=[.v Value.nilFunc]:=ID rfl
theorem bb9{K:TI→Prop}:@tyW Tryz.prog 135 ⟨K⟩=K KF:=qj be8
theorem aCN:KF.kd=Kd.oth:=ID rfl
theorem ap7:KF.kd.agg=false:=ID rfl
theorem ajZ:KF.size=1:=ID rfl
theorem adU:KF.bytes=8:=ID rfl
theorem aCL:qx KF=True:=eq_true rfl
theorem aCM:zc KF=[.v Value.nilFunc]:=ID rfl
theorem bb8{K:TI→Prop}:@tyW Tryz.prog 136 ⟨K⟩=K KE:=qj be7
theorem aCK:KE.kd=Kd.oth:=ID rfl
theorem ap6:KE.kd.agg=false:=ID rfl
theorem ajY:KE.size=1:=ID rfl
theorem adT:KE.bytes=8:=ID rfl
theorem aCI:qx KE=True:=eq_true rfl
theorem aCJ:zc KE=[.v Value.nilFunc]:=ID rfl
theorem bb7{K:TI→Prop}:@tyW Tryz.prog 137 ⟨K⟩=K KD:=qj be6
theorem aCH:KD.kd=Kd.oth:=ID rfl
theorem ap5:KD.kd.agg=false:=ID rfl
theorem ajX:KD.size=1:=ID rfl
theorem adR:KD.bytes=8:=ID rfl
theorem aCF:qx KD=True:=eq_true rfl
theorem aCG:zc KD=[.v Value.nilFunc]:=ID rfl
theorem bb6{K:TI→Prop}:@tyW Tryz.prog 138 ⟨K⟩=K KC:=qj be5
theorem aCE:KC.kd=Kd.oth:=ID rfl
theorem ap4:KC.kd.agg=false:=ID rfl
theorem ajW:KC.size=1:=ID rfl
theorem adQ:KC.bytes=8:=ID rfl
theorem aCC:qx KC=True:=eq_true rfl
theorem aCD:zc KC=[.v Value.nilFunc]:=ID rfl
theorem bb5{K:TI→Prop}:@tyW Tryz.prog 139 ⟨K⟩=K KB:=qj be4
theorem aCB:KB.kd=Kd.oth:=ID rfl
theorem ap3:KB.kd.agg=false:=ID rfl
theorem ajV:KB.size=1:=ID rfl
theorem adP:KB.bytes=8:=ID rfl
theorem aCz:qx KB=True:=eq_true rfl
theorem aCA:zc KB=[.v Value.nilFunc]:=ID rfl
theorem bb4{K:TI→Prop}:@tyW Tryz.prog 141 ⟨K⟩=K KA:=qj be3
theorem aCy:KA.kd=Kd.oth:=ID rfl
theorem ap2:KA.kd.agg=false:=ID rfl
theorem ajU:KA.size=1:=ID rfl
theorem adO:KA.bytes=8:=ID rfl
theorem aCw:qx KA=True:=eq_true rfl
theorem aCx:zc KA=[.v Value.nilFunc]:=ID rfl
theorem bb3{K:TI→Prop}:@tyW Tryz.prog 142 ⟨K⟩=K Kz:=qj be2
theorem aCv:Kz.kd=Kd.oth:=ID rfl
theorem ap1:Kz.kd.agg=false:=ID rfl
theorem ajT:Kz.size=1:=ID rfl
theorem adN:Kz.bytes=8:=ID rfl
theorem aCt:qx Kz=True:=eq_true rfl
theorem aCu:zc Kz=[.v Value.nilFunc]:=ID rfl
theorem bb2{K:TI→Prop}:@tyW Tryz.prog 143 ⟨K⟩=K Ky:=qj be1
theorem aCs:Ky.kd=Kd.oth:=ID rfl
theorem ap0:Ky.kd.agg=false:=ID rfl
theorem ajS:Ky.size=1:=ID rfl
theorem adL:Ky.bytes=8:=ID rfl
theorem aCq:qx Ky=True:=eq_true rfl
theorem aCr:zc Ky=[.v Value.nilFunc]:=ID rfl
theorem bb1{K:TI→Prop}:@tyW Tryz.prog 144 ⟨K⟩=K Kx:=qj be0
theorem aCp:Kx.kd=Kd.oth:=ID rfl
theorem apZ:Kx.kd.agg=false:=ID rfl
theorem ajR:Kx.size=1:=ID rfl
theorem adK:Kx.bytes=8:=ID rfl
theorem aCn:qx Kx=True:=eq_true rfl
theorem aCo:zc Kx=[.v Value.nilFunc]:=ID rfl
theorem bb0{K:TI→Prop}:@tyW Tryz.prog 145 ⟨K⟩=K Kw:=qj beZ
theorem aCm:Kw.kd=Kd.oth:=ID rfl
theorem apY:Kw.kd.agg=false:=ID rfl
theorem ajQ:Kw.size=1:=ID rfl
theorem adJ:Kw.bytes=8:=ID rfl
theorem aCk:qx Kw=True:=eq_true rfl
theorem aCl:zc Kw=[.v Value.nilFunc]:=ID rfl
theorem bbZ{K:TI→Prop}:@tyW Tryz.prog 146 ⟨K⟩=K Kv:=qj beY
theorem aCj:Kv.kd=Kd.oth:=ID rfl
theorem apX:Kv.kd.agg=false:=ID rfl
theorem ajP:Kv.size=1:=ID rfl
theorem adI:Kv.bytes=8:=ID rfl
theorem aCh:qx Kv=True:=eq_true rfl
theorem aCi:zc Kv=[.v Value.nilFunc]:=ID rfl
theorem bbY{K:TI→Prop}:@tyW Tryz.prog 147 ⟨K⟩=K Ku:=qj beX
theorem aCg:Ku.kd=Kd.oth:=ID rfl
theorem apW:Ku.kd.agg=false:=ID rfl
theorem ajO:Ku.size=1:=ID rfl
theorem adH:Ku.bytes=8:=ID rfl
theorem aCe:qx Ku=True:=eq_true rfl
theorem aCf:zc Ku=[.v Value.nilFunc]:=ID rfl
theorem bbX{K:TI→Prop}:@tyW Tryz.prog 148 ⟨K⟩=K Kt:=qj beW
theorem aCd:Kt.kd=Kd.oth:=ID rfl
theorem apV:Kt.kd.agg=false:=ID rfl
theorem ajN:Kt.size=1:=ID rfl
theorem adG:Kt.bytes=8:=ID rfl
theorem aCb:qx Kt=True:=eq_true rfl
theorem aCc:zc Kt=[.v Value.nilFunc]:=ID rfl
theorem bbW{K:TI→Prop}:@tyW Tryz.prog 149 ⟨K⟩=K Ks:=qj beV
theorem aCa:Ks.kd=Kd.oth:=ID rfl
theorem apU:Ks.kd.agg=false:=ID rfl
theorem ajM:Ks.size=1:=ID rfl
theorem adF:Ks.bytes=8:=ID rfl
theorem aB8:qx Ks=True:=eq_true rfl
theorem aB9:zc Ks=[.v Value.nilFunc]:=ID rfl
theorem bbV{K:TI→Prop}:@tyW Tryz.prog 150 ⟨K⟩=K Kr:=qj beU
theorem aB7:Kr.kd=Kd.oth:=ID rfl
theorem apT:Kr.kd.agg=false:=ID rfl
theorem ajL:Kr.size=1:=ID rfl
theorem adE:Kr.bytes=8:=ID rfl
theorem aB5:qx Kr=True:=eq_true rfl
theorem aB6:zc Kr=[.v Value.nilFunc]:=ID rfl
theorem bbU{K:TI→Prop}:@tyW Tryz.prog 151 ⟨K⟩=K Kq:=qj beT
theorem aB4:Kq.kd=Kd.oth:=ID rfl
theorem apS:Kq.kd.agg=false:=ID rfl
theorem ajK:Kq.size=1:=ID rfl
theorem adD:Kq.bytes=8:=ID rfl
theorem aB2:qx Kq=True:=eq_true rfl
theorem aB3:zc Kq=[.v Value.nilFunc]:=ID rfl
theorem bbT{K:TI→Prop}:@tyW Tryz.prog 152 ⟨K⟩=K Kp:=qj beS
theorem aB1:Kp.kd=Kd.oth:=ID rfl
theorem apR:Kp.kd.agg=false:=ID rfl
theorem ajJ:Kp.size=1:=ID rfl
theorem adC:Kp.bytes=8:=ID rfl
theorem aBZ:qx Kp=True:=eq_true rfl
theorem aB0:zc Kp=[.v Value.nilFunc]:=ID rfl
theorem bbS{K:TI→Prop}:@tyW Tryz.prog 153 ⟨K⟩=K Ko:=qj beR
theorem aBY:Ko.kd=Kd.oth:=ID rfl
theorem apQ:Ko.kd.agg=false:=ID rfl
theorem ajI:Ko.size=1:=ID rfl
theorem adB:Ko.bytes=8:=ID rfl
theorem aBW:qx Ko=True:=eq_true rfl
theorem aBX:zc Ko=[.v Value.nilFunc]:=ID rfl
theorem bbR{K:TI→Prop}:@tyW Tryz.prog 154 ⟨K⟩=K Kn:=qj beQ
theorem aBV:Kn.kd=Kd.oth:=ID rfl
theorem apP:Kn.kd.agg=false:=ID rfl
theorem ajH:Kn.size=1:=ID rfl
theorem adA:Kn.bytes=8:=ID rfl
theorem aBT:qx Kn=True:=eq_true rfl
theorem aBU:zc Kn=[.v Value.nilFunc]:=ID rfl
theorem bbQ{K:TI→Prop}:@tyW Tryz.prog 155 ⟨K⟩=K Km:=qj beP
theorem aBS:Km.kd=Kd.oth:=ID rfl
theorem apO:Km.kd.agg=false:=ID rfl
theorem ajG:Km.size=1:=ID rfl
theorem adz:Km.bytes=8:=ID rfl
theorem aBQ:qx Km=True:=eq_true rfl
theorem aBR:zc Km=[.v Value.nilFunc]:=ID rfl
theorem bbP{K:TI→Prop}:@tyW Tryz.prog 156 ⟨K⟩=K Kl:=qj beO
theorem aBP:Kl.kd=Kd.oth:=ID rfl
theorem apN:Kl.kd.agg=false:=ID rfl
theorem ajF:Kl.size=1:=ID rfl
theorem ady:Kl.bytes=8:=ID rfl
theorem aBN:qx Kl=True:=eq_true rfl
theorem aBO:zc Kl=[.v Value.nilFunc]:=ID rfl
theorem bbO{K:TI→Prop}:@tyW Tryz.prog 157 ⟨K⟩=K Kk:=qj beN
theorem aBM:Kk.kd=Kd.oth:=ID rfl
theorem apM:Kk.kd.agg=false:=ID rfl
theorem ajE:Kk.size=1:=ID rfl
theorem adx:Kk.bytes=8:=ID rfl
theorem aBK:qx Kk=True:=eq_true rfl
theorem aBL:zc Kk=[.v Value.nilFunc]:=ID rfl
theorem bbN{K:TI→Prop}:@tyW Tryz.prog 158 ⟨K⟩=K Kj:=qj beM
theorem aBJ:Kj.kd=Kd.oth:=ID rfl
theorem apL:Kj.kd.agg=false:=ID rfl
theorem ajD:Kj.size=1:=ID rfl
theorem adw:Kj.bytes=8:=ID rfl
theorem aBH:qx Kj=True:=eq_true rfl
theorem aBI:zc Kj=[.v Value.nilFunc]:=ID rfl
theorem bbM{K:TI→Prop}:@tyW Tryz.prog 159 ⟨K⟩=K Ki:=qj beL
theorem aBG:Ki.kd=Kd.oth:=ID rfl
theorem apK:Ki.kd.agg=false:=ID rfl
theorem ajC:Ki.size=1:=ID rfl
theorem adv:Ki.bytes=8:=ID rfl
theorem aBE:qx Ki=True:=eq_true rfl
theorem aBF:zc Ki=[.v Value.nilFunc]:=ID rfl
theorem bbL{K:TI→Prop}:@tyW Tryz.prog 160 ⟨K⟩=K Kh:=qj beK
theorem aBD:Kh.kd=Kd.oth:=ID rfl
theorem apJ:Kh.kd.agg=false:=ID rfl
theorem ajB:Kh.size=1:=ID rfl
theorem adu:Kh.bytes=8:=ID rfl
theorem aBB:qx Kh=True:=eq_true rfl
theorem aBC:zc Kh=[.v Value.nilFunc]:=ID rfl
theorem bbK{K:TI→Prop}:@tyW Tryz.prog 161 ⟨K⟩=K Kg:=qj beJ
theorem aBA:Kg.kd=Kd.oth:=ID rfl
theorem apI:Kg.kd.agg=false:=ID rfl
theorem ajA:Kg.size=1:=ID rfl
theorem adt:Kg.bytes=8:=ID rfl
theorem aBy:qx Kg=True:=eq_true rfl
theorem aBz:zc Kg=[.v Value.nilFunc]:=ID rfl
theorem bbJ{K:TI→Prop}:@tyW Tryz.prog 162 ⟨K⟩=K Kf:=qj beI
theorem aBx:Kf.kd=Kd.oth:=ID rfl
theorem apH:Kf.kd.agg=false:=ID rfl
theorem ajz:Kf.size=1:=ID rfl
theorem ads:Kf.bytes=8:=ID rfl
theorem aBv:qx Kf=True:=eq_true rfl
theorem aBw:zc Kf=[.v Value.nilFunc]:=ID rfl
theorem bbI{K:TI→Prop}:@tyW Tryz.prog 163 ⟨K⟩=K Ke:=qj beH
theorem aBu:Ke.kd=Kd.oth:=ID rfl
theorem apG:Ke.kd.agg=false:=ID rfl
theorem ajy:Ke.size=1:=ID rfl
theorem adr:Ke.bytes=8:=ID rfl
theorem aBs:qx Ke=True:=eq_true rfl
theorem aBt:zc Ke=[.v Value.nilFunc]:=ID rfl
theorem bbH{K:TI→Prop}:@tyW Tryz.prog 164 ⟨K⟩=K Kc:=qj beG
theorem aBr:Kc.kd=Kd.oth:=ID rfl
theorem apF:Kc.kd.agg=false:=ID rfl
theorem ajx:Kc.size=1:=ID rfl
theorem adq:Kc.bytes=8:=ID rfl
theorem aBp:qx Kc=True:=eq_true rfl
theorem aBq:zc Kc=[.v Value.nilFunc]:=ID rfl
theorem bbG{K:TI→Prop}:@tyW Tryz.prog 165 ⟨K⟩=K Kb:=qj beF
theorem aBo:Kb.kd=Kd.oth:=ID rfl
theorem apD:Kb.kd.agg=false:=ID rfl
theorem ajw:Kb.size=1:=ID rfl
theorem adp:Kb.bytes=8:=ID rfl
theorem aBm:qx Kb=True:=eq_true rfl
theorem aBn:zc Kb=[.v Value.nilFunc]:=ID rfl
theorem bbF{K:TI→Prop}:@tyW Tryz.prog 166 ⟨K⟩=K Ka:=qj beE
theorem aBl:Ka.kd=Kd.oth:=ID rfl
theorem apC:Ka.kd.agg=false:=ID rfl
theorem ajv:Ka.size=1:=ID rfl
theorem ado:Ka.bytes=8:=ID rfl
theorem aBj:qx Ka=True:=eq_true rfl
theorem aBk:zc Ka=[.v Value.nilFunc]:=ID rfl
theorem bbE{K:TI→Prop}:@tyW Tryz.prog 167 ⟨K⟩=K V9:=qj beD
theorem aBi:V9.kd=Kd.oth:=ID rfl
theorem apB:V9.kd.agg=false:=ID rfl
theorem aju:V9.size=1:=ID rfl
theorem adn:V9.bytes=8:=ID rfl
theorem aBg:qx V9=True:=eq_true rfl
theorem aBh:zc V9=[.v Value.nilFunc]:=ID rfl
theorem bbD{K:TI→Prop}:@tyW Tryz.prog 168 ⟨K⟩=K V8:=qj beC
theorem aBf:V8.kd=Kd.oth:=ID rfl
theorem apA:V8.kd.agg=false:=ID rfl
theorem ajt:V8.size=1:=ID rfl
theorem adm:V8.bytes=8:=ID rfl
theorem aBd:qx V8=True:=eq_true rfl
theorem aBe:zc V8=[.v Value.nilFunc]:=ID rfl
theorem bbC{K:TI→Prop}:@tyW Tryz.prog 169 ⟨K⟩=K V7:=qj beB
theorem aBc:V7.kd=Kd.oth:=ID rfl
theorem apz:V7.kd.agg=false:=ID rfl
theorem ajs:V7.size=1:=ID rfl
theorem adl:V7.bytes=8:=ID rfl
theorem aBa:qx V7=True:=eq_true rfl
theorem aBb:zc V7=[.v Value.nilFunc]:=ID rfl
theorem bbB{K:TI→Prop}:@tyW Tryz.prog 170 ⟨K⟩=K V6:=qj beA
theorem aA9:V6.kd=Kd.oth:=ID rfl
theorem apy:V6.kd.agg=false:=ID rfl
theorem ajr:V6.size=1:=ID rfl
theorem adk:V6.bytes=8:=ID rfl
theorem aA7:qx V6=True:=eq_true rfl
theorem aA8:zc V6=[.v Value.nilFunc]:=ID rfl
theorem bbA{K:TI→Prop}:@tyW Tryz.prog 171 ⟨K⟩=K V5:=qj bez
theorem aA6:V5.kd=Kd.oth:=ID rfl
theorem apx:V5.kd.agg=false:=ID rfl
theorem ajq:V5.size=1:=ID rfl
theorem adj:V5.bytes=8:=ID rfl
theorem aA4:qx V5=True:=eq_true rfl
theorem aA5:zc V5=[.v Value.nilFunc]:=ID rfl
theorem bbz{K:TI→Prop}:@tyW Tryz.prog 172 ⟨K⟩=K V4:=qj bey
theorem aA3:V4.kd=Kd.oth:=ID rfl
theorem apw:V4.kd.agg=false:=ID rfl
theorem ajp:V4.size=1:=ID rfl
theorem adi:V4.bytes=8:=ID rfl
theorem aA1:qx V4=True:=eq_true rfl
theorem aA2:zc V4=[.v Value.nilFunc]:=ID rfl
theorem bby{K:TI→Prop}:@tyW Tryz.prog 173 ⟨K⟩=K V3:=qj bex
theorem aA0:V3.kd=Kd.oth:=ID rfl
theorem apv:V3.kd.agg=false:=ID rfl
theorem ajo:V3.size=1:=ID rfl
theorem adh:V3.bytes=8:=ID rfl
theorem aAY:qx V3=True:=eq_true rfl
theorem aAZ:zc V3=[.v Value.nilFunc]:=ID rfl
theorem bbx{K:TI→Prop}:@tyW Tryz.prog 174 ⟨K⟩=K V2:=qj bew
theorem aAX:V2.kd=Kd.oth:=ID rfl
theorem apu:V2.kd.agg=false:=ID rfl
theorem ajn:V2.size=1:=ID rfl
theorem adg:V2.bytes=8:=ID rfl
theorem aAV:qx V2=True:=eq_true rfl
theorem aAW:zc V2=[.v Value.nilFunc]:=ID rfl
theorem bbw{K:TI→Prop}:@tyW Tryz.prog 175 ⟨K⟩=K V1:=qj bev
theorem aAU:V1.kd=Kd.oth:=ID rfl
theorem apt:V1.kd.agg=false:=ID rfl
theorem ajm:V1.size=1:=ID rfl
theorem adf:V1.bytes=8:=ID rfl
theorem aAS:qx V1=True:=eq_true rfl
theorem aAT:zc V1=[.v Value.nilFunc]:=ID rfl
theorem bbv{K:TI→Prop}:@tyW Tryz.prog 176 ⟨K⟩=K Zm:=qj aqK
theorem aAR:Zm.kd=Kd.stru [(0,22),(1,3),(2,3)]:=ID rfl
theorem apr:Zm.kd.agg=true:=ID rfl
theorem ajl:Zm.size=3:=ID rfl
theorem ade:Zm.bytes=40:=ID rfl
theorem aAP:qx Zm=True:=eq_true rfl
theorem aAQ:zc Zm=[.v (Value.slice none 0 0),.v (Value.int IntKind.i64 0),.v (Value.int IntKind.i64 0)]:=ID rfl
theorem aGe{K:Nat→TI→Prop}:@qE Tryz.prog 176 0 ⟨K⟩=K 0 afK:=qv (ti:=Zm) (tf:=afK) (fo:=(0,22)) (fs:=[(0,22),(1,3),(2,3)]) aqK rfl rfl aIv
theorem aNQ{K:Nat→Nat→Prop}:qw Tryz.prog [(0,22),(1,3),(2,3)] 0 K=K 0 1:=qu (tf:=afK) (fo:=(0,22)) (fs:=[(0,22),(1,3),(2,3)]) rfl aIv
theorem aGd{K:Nat→TI→Prop}:@qE Tryz.prog 176 1 ⟨K⟩=K 1 ti3:=qv (ti:=Zm) (tf:=ti3) (fo:=(1,3)) (fs:=[(0,22),(1,3),(2,3)]) aqK rfl rfl tf3
theorem aNP{K:Nat→Nat→Prop}:qw Tryz.prog [(0,22),(1,3),(2,3)] 1 K=K 1 1:=qu (tf:=ti3) (fo:=(1,3)) (fs:=[(0,22),(1,3),(2,3)]) rfl tf3
theorem aGc{K:Nat→TI→Prop}:@qE Tryz.prog 176 2 ⟨K⟩=K 2 ti3:=qv (ti:=Zm) (tf:=ti3) (fo:=(2,3)) (fs:=[(0,22),(1,3),(2,3)]) aqK rfl rfl tf3
theorem aNO{K:Nat→Nat→Prop}:qw Tryz.prog [(0,22),(1,3),(2,3)] 2 K=K 2 1:=qu (tf:=ti3) (fo:=(2,3)) (fs:=[(0,22),(1,3),(2,3)]) rfl tf3
theorem aPj:∀f∈([(0,22),(1,3),(2,3)]:List (Nat×Nat)),(qr Tryz.prog f.2).isSome=true:=by
 intro f hf
 simp only[List.mem_cons,List.not_mem_nil,or_false]at hf
 rcases hf with rfl|rfl|rfl
 ·rw[aIv];rfl
 ·rw[tf3];rfl
 ·rw[tf3];rfl
theorem aYS{ps:List (Nat×AV)}{K:AV→Prop}:@zd Tryz.prog 176 ps ⟨K⟩=@zh (qw Tryz.prog [(0,22),(1,3),(2,3)]) (zc Zm) ps ⟨fun cs=>K (.ag cs)⟩:=qL aqK rfl aPj
theorem bbu{K:TI→Prop}:@tyW Tryz.prog 177 ⟨K⟩=K Zl:=qj aqJ
theorem aAO:Zl.kd=Kd.stru [(0,22),(1,3),(2,3)]:=ID rfl
theorem apq:Zl.kd.agg=true:=ID rfl
theorem ajk:Zl.size=3:=ID rfl
theorem adc:Zl.bytes=40:=ID rfl
theorem aAM:qx Zl=True:=eq_true rfl
theorem aAN:zc Zl=[.v (Value.slice none 0 0),.v (Value.int IntKind.i64 0),.v (Value.int IntKind.i64 0)]:=ID rfl
theorem aGb{K:Nat→TI→Prop}:@qE Tryz.prog 177 0 ⟨K⟩=K 0 afK:=qv (ti:=Zl) (tf:=afK) (fo:=(0,22)) (fs:=[(0,22),(1,3),(2,3)]) aqJ rfl rfl aIv
theorem aNN{K:Nat→Nat→Prop}:qw Tryz.prog [(0,22),(1,3),(2,3)] 0 K=K 0 1:=qu (tf:=afK) (fo:=(0,22)) (fs:=[(0,22),(1,3),(2,3)]) rfl aIv
theorem aGa{K:Nat→TI→Prop}:@qE Tryz.prog 177 1 ⟨K⟩=K 1 ti3:=qv (ti:=Zl) (tf:=ti3) (fo:=(1,3)) (fs:=[(0,22),(1,3),(2,3)]) aqJ rfl rfl tf3
theorem aNM{K:Nat→Nat→Prop}:qw Tryz.prog [(0,22),(1,3),(2,3)] 1 K=K 1 1:=qu (tf:=ti3) (fo:=(1,3)) (fs:=[(0,22),(1,3),(2,3)]) rfl tf3
theorem aF9{K:Nat→TI→Prop}:@qE Tryz.prog 177 2 ⟨K⟩=K 2 ti3:=qv (ti:=Zl) (tf:=ti3) (fo:=(2,3)) (fs:=[(0,22),(1,3),(2,3)]) aqJ rfl rfl tf3
theorem aNL{K:Nat→Nat→Prop}:qw Tryz.prog [(0,22),(1,3),(2,3)] 2 K=K 2 1:=qu (tf:=ti3) (fo:=(2,3)) (fs:=[(0,22),(1,3),(2,3)]) rfl tf3
theorem aPi:∀f∈([(0,22),(1,3),(2,3)]:List (Nat×Nat)),(qr Tryz.prog f.2).isSome=true:=by
 intro f hf
 simp only[List.mem_cons,List.not_mem_nil,or_false]at hf
 rcases hf with rfl|rfl|rfl
 ·rw[aIv];rfl
 ·rw[tf3];rfl
 ·rw[tf3];rfl
theorem aYR{ps:List (Nat×AV)}{K:AV→Prop}:@zd Tryz.prog 177 ps ⟨K⟩=@zh (qw Tryz.prog [(0,22),(1,3),(2,3)]) (zc Zl) ps ⟨fun cs=>K (.ag cs)⟩:=qL aqJ rfl aPi
theorem bbt{K:TI→Prop}:@tyW Tryz.prog 178 ⟨K⟩=K V0:=qj beu
theorem aAL:V0.kd=Kd.oth:=ID rfl
theorem app:V0.kd.agg=false:=ID rfl
theorem ajj:V0.size=1:=ID rfl
theorem adb:V0.bytes=8:=ID rfl
theorem aAJ:qx V0=True:=eq_true rfl
theorem aAK:zc V0=[.v Value.nilFunc]:=ID rfl
theorem bbs{K:TI→Prop}:@tyW Tryz.prog 179 ⟨K⟩=K VZ:=qj bet
theorem aAI:VZ.kd=Kd.oth:=ID rfl
theorem apo:VZ.kd.agg=false:=ID rfl
theorem aji:VZ.size=1:=ID rfl
theorem ada:VZ.bytes=8:=ID rfl
theorem aAG:qx VZ=True:=eq_true rfl
theorem aAH:zc VZ=[.v Value.nilFunc]:=ID rfl
theorem bbr{K:TI→Prop}:@tyW Tryz.prog 180 ⟨K⟩=K VY:=qj bes
theorem aAF:VY.kd=Kd.oth:=ID rfl
theorem apn:VY.kd.agg=false:=ID rfl
theorem ajh:VY.size=1:=ID rfl
theorem ac9:VY.bytes=8:=ID rfl
theorem aAD:qx VY=True:=eq_true rfl
theorem aAE:zc VY=[.v Value.nilFunc]:=ID rfl
theorem bbq{K:TI→Prop}:@tyW Tryz.prog 181 ⟨K⟩=K VX:=qj ber
theorem aAC:VX.kd=Kd.oth:=ID rfl
theorem apm:VX.kd.agg=false:=ID rfl
theorem ajg:VX.size=1:=ID rfl
theorem ac8:VX.bytes=8:=ID rfl
theorem aAA:qx VX=True:=eq_true rfl
theorem aAB:zc VX=[.v Value.nilFunc]:=ID rfl
theorem bbp{K:TI→Prop}:@tyW Tryz.prog 182 ⟨K⟩=K VW:=qj bep
theorem aAz:VW.kd=Kd.oth:=ID rfl
theorem apl:VW.kd.agg=false:=ID rfl
theorem ajf:VW.size=1:=ID rfl
theorem ac7:VW.bytes=8:=ID rfl
theorem aAx:qx VW=True:=eq_true rfl
theorem aAy:zc VW=[.v Value.nilFunc]:=ID rfl
theorem bbo{K:TI→Prop}:@tyW Tryz.prog 183 ⟨K⟩=K VV:=qj beo
theorem aAw:VV.kd=Kd.oth:=ID rfl
theorem apk:VV.kd.agg=false:=ID rfl
theorem aje:VV.size=1:=ID rfl
theorem ac6:VV.bytes=8:=ID rfl
theorem aAu:qx VV=True:=eq_true rfl
theorem aAv:zc VV=[.v Value.nilFunc]:=ID rfl
theorem bbn{K:TI→Prop}:@tyW Tryz.prog 184 ⟨K⟩=K VU:=qj ben
theorem aAt:VU.kd=Kd.oth:=ID rfl
theorem apj:VU.kd.agg=false:=ID rfl
theorem ajd:VU.size=1:=ID rfl
theorem ac5:VU.bytes=8:=ID rfl
theorem aAr:qx VU=True:=eq_true rfl
theorem aAs:zc VU=[.v Value.nilFunc]:=ID rfl
theorem bbm{K:TI→Prop}:@tyW Tryz.prog 185 ⟨K⟩=K VT:=qj bem
theorem aAq:VT.kd=Kd.oth:=ID rfl
theorem api:VT.kd.agg=false:=ID rfl
theorem ajc:VT.size=1:=ID rfl
theorem ac4:VT.bytes=8:=ID rfl
theorem aAo:qx VT=True:=eq_true rfl
theorem aAp:zc VT=[.v Value.nilFunc]:=ID rfl
theorem bbl{K:TI→Prop}:@tyW Tryz.prog 186 ⟨K⟩=K VS:=qj bel
theorem aAn:VS.kd=Kd.oth:=ID rfl
theorem aph:VS.kd.agg=false:=ID rfl
theorem ajb:VS.size=1:=ID rfl
theorem ac3:VS.bytes=8:=ID rfl
theorem aAl:qx VS=True:=eq_true rfl
theorem aAm:zc VS=[.v Value.nilFunc]:=ID rfl
theorem bbk{K:TI→Prop}:@tyW Tryz.prog 188 ⟨K⟩=K VR:=qj bek
theorem aAk:VR.kd=Kd.oth:=ID rfl
theorem apg:VR.kd.agg=false:=ID rfl
theorem aja:VR.size=1:=ID rfl
theorem ac2:VR.bytes=8:=ID rfl
theorem aAi:qx VR=True:=eq_true rfl
theorem aAj:zc VR=[.v Value.nilFunc]:=ID rfl
theorem bbj{K:TI→Prop}:@tyW Tryz.prog 189 ⟨K⟩=K VQ:=qj bej
theorem aAh:VQ.kd=Kd.oth:=ID rfl
theorem apf:VQ.kd.agg=false:=ID rfl
theorem ai9:VQ.size=1:=ID rfl
theorem ac1:VQ.bytes=8:=ID rfl
theorem aAf:qx VQ=True:=eq_true rfl
theorem aAg:zc VQ=[.v Value.nilFunc]:=ID rfl
theorem bbi{K:TI→Prop}:@tyW Tryz.prog 190 ⟨K⟩=K VP:=qj bei
theorem aAe:VP.kd=Kd.oth:=ID rfl
theorem ape:VP.kd.agg=false:=ID rfl
theorem ai8:VP.size=1:=ID rfl
theorem ac0:VP.bytes=8:=ID rfl
theorem aAc:qx VP=True:=eq_true rfl
theorem aAd:zc VP=[.v Value.nilFunc]:=ID rfl
theorem bbh{K:TI→Prop}:@tyW Tryz.prog 191 ⟨K⟩=K VO:=qj beh
theorem aAb:VO.kd=Kd.oth:=ID rfl
theorem apd:VO.kd.agg=false:=ID rfl
theorem ai7:VO.size=1:=ID rfl
theorem acZ:VO.bytes=8:=ID rfl
theorem az9:qx VO=True:=eq_true rfl
theorem aAa:zc VO=[.v Value.nilFunc]:=ID rfl
theorem bbg{K:TI→Prop}:@tyW Tryz.prog 192 ⟨K⟩=K VN:=qj beg
theorem az8:VN.kd=Kd.oth:=ID rfl
theorem apc:VN.kd.agg=false:=ID rfl
theorem ai6:VN.size=1:=ID rfl
theorem acY:VN.bytes=8:=ID rfl
theorem az6:qx VN=True:=eq_true rfl
theorem az7:zc VN=[.v Value.nilFunc]:=ID rfl
theorem bbf{K:TI→Prop}:@tyW Tryz.prog 193 ⟨K⟩=K VM:=qj bef
theorem az5:VM.kd=Kd.oth:=ID rfl
theorem apb:VM.kd.agg=false:=ID rfl
theorem ai5:VM.size=1:=ID rfl
theorem acX:VM.bytes=8:=ID rfl
theorem az3:qx VM=True:=eq_true rfl
theorem az4:zc VM=[.v Value.nilFunc]:=ID rfl
theorem bbe{K:TI→Prop}:@tyW Tryz.prog 194 ⟨K⟩=K VL:=qj bee
theorem az2:VL.kd=Kd.oth:=ID rfl
theorem apa:VL.kd.agg=false:=ID rfl
theorem ai4:VL.size=1:=ID rfl
theorem acW:VL.bytes=8:=ID rfl
theorem az0:qx VL=True:=eq_true rfl
theorem az1:zc VL=[.v Value.nilFunc]:=ID rfl
theorem bbd{K:TI→Prop}:@tyW Tryz.prog 195 ⟨K⟩=K VK:=qj aSl
theorem azZ:VK.kd=Kd.sli 108:=ID rfl
theorem ao9:VK.kd.agg=false:=ID rfl
theorem ai3:VK.size=1:=ID rfl
theorem acV:VK.bytes=24:=ID rfl
theorem azX:qx VK=True:=eq_true rfl
theorem azY:zc VK=[.v (Value.slice none 0 0)]:=ID rfl
theorem aSB{K:TI→Prop}:@yX Tryz.prog 195 ⟨K⟩=K y8:=Zb aSl rfl Ym
theorem bbc{K:TI→Prop}:@tyW Tryz.prog 196 ⟨K⟩=K VJ:=qj bed
theorem azW:VJ.kd=Kd.oth:=ID rfl
theorem ao8:VJ.kd.agg=false:=ID rfl
theorem ai2:VJ.size=1:=ID rfl
theorem acU:VJ.bytes=8:=ID rfl
theorem azU:qx VJ=True:=eq_true rfl
theorem azV:zc VJ=[.v Value.nilFunc]:=ID rfl
theorem bbb{K:TI→Prop}:@tyW Tryz.prog 197 ⟨K⟩=K VI:=qj bec
theorem azT:VI.kd=Kd.oth:=ID rfl
theorem ao7:VI.kd.agg=false:=ID rfl
theorem ai1:VI.size=1:=ID rfl
theorem acT:VI.bytes=8:=ID rfl
theorem azR:qx VI=True:=eq_true rfl
theorem azS:zc VI=[.v Value.nilFunc]:=ID rfl
theorem bba{K:TI→Prop}:@tyW Tryz.prog 198 ⟨K⟩=K VH:=qj beb
theorem azQ:VH.kd=Kd.oth:=ID rfl
theorem ao6:VH.kd.agg=false:=ID rfl
theorem ai0:VH.size=1:=ID rfl
theorem acS:VH.bytes=8:=ID rfl
theorem azO:qx VH=True:=eq_true rfl
theorem azP:zc VH=[.v Value.nilFunc]:=ID rfl
theorem ba9{K:TI→Prop}:@tyW Tryz.prog 200 ⟨K⟩=K VG:=qj bea
theorem azM:VG.kd=Kd.oth:=ID rfl
theorem ao4:VG.kd.agg=false:=ID rfl
theorem aiZ:VG.size=1:=ID rfl
theorem acR:VG.bytes=8:=ID rfl
theorem azK:qx VG=True:=eq_true rfl
theorem azL:zc VG=[.v Value.nilFunc]:=ID rfl
theorem ba8{K:TI→Prop}:@tyW Tryz.prog 201 ⟨K⟩=K VF:=qj bd9
theorem azJ:VF.kd=Kd.oth:=ID rfl
theorem ao3:VF.kd.agg=false:=ID rfl
theorem aiY:VF.size=1:=ID rfl
theorem acQ:VF.bytes=8:=ID rfl
theorem azH:qx VF=True:=eq_true rfl
theorem azI:zc VF=[.v Value.nilFunc]:=ID rfl
theorem ba7{K:TI→Prop}:@tyW Tryz.prog 202 ⟨K⟩=K VE:=qj bd8
theorem azG:VE.kd=Kd.oth:=ID rfl
theorem ao2:VE.kd.agg=false:=ID rfl
theorem aiX:VE.size=1:=ID rfl
theorem acP:VE.bytes=8:=ID rfl
theorem azE:qx VE=True:=eq_true rfl
theorem azF:zc VE=[.v Value.nilFunc]:=ID rfl
theorem ba6{K:TI→Prop}:@tyW Tryz.prog 204 ⟨K⟩=K VD:=qj bd7
theorem azD:VD.kd=Kd.oth:=ID rfl
theorem ao1:VD.kd.agg=false:=ID rfl
theorem aiW:VD.size=1:=ID rfl
theorem acO:VD.bytes=8:=ID rfl
theorem azB:qx VD=True:=eq_true rfl
theorem azC:zc VD=[.v Value.nilFunc]:=ID rfl
theorem ba5{K:TI→Prop}:@tyW Tryz.prog 206 ⟨K⟩=K VC:=qj bd6
theorem azA:VC.kd=Kd.oth:=ID rfl
theorem ao0:VC.kd.agg=false:=ID rfl
theorem aiV:VC.size=1:=ID rfl
theorem acN:VC.bytes=8:=ID rfl
theorem azy:qx VC=True:=eq_true rfl
theorem azz:zc VC=[.v Value.nilFunc]:=ID rfl
theorem ba4{K:TI→Prop}:@tyW Tryz.prog 207 ⟨K⟩=K VB:=qj bd5
theorem azx:VB.kd=Kd.oth:=ID rfl
theorem aoZ:VB.kd.agg=false:=ID rfl
theorem aiU:VB.size=1:=ID rfl
theorem acM:VB.bytes=8:=ID rfl
theorem azv:qx VB=True:=eq_true rfl
theorem azw:zc VB=[.v Value.nilFunc]:=ID rfl
theorem ba3{K:TI→Prop}:@tyW Tryz.prog 208 ⟨K⟩=K VA:=qj bd2
theorem azu:VA.kd=Kd.oth:=ID rfl
theorem aoY:VA.kd.agg=false:=ID rfl
theorem aiT:VA.size=1:=ID rfl
theorem acL:VA.bytes=8:=ID rfl
theorem azs:qx VA=True:=eq_true rfl
theorem azt:zc VA=[.v Value.nilFunc]:=ID rfl
theorem ba2{K:TI→Prop}:@tyW Tryz.prog 209 ⟨K⟩=K Vz:=qj bd1
theorem azr:Vz.kd=Kd.oth:=ID rfl
theorem aoX:Vz.kd.agg=false:=ID rfl
theorem aiS:Vz.size=1:=ID rfl
theorem acK:Vz.bytes=8:=ID rfl
theorem azp:qx Vz=True:=eq_true rfl
theorem azq:zc Vz=[.v Value.nilFunc]:=ID rfl
theorem ba1{K:TI→Prop}:@tyW Tryz.prog 210 ⟨K⟩=K Vy:=qj bdZ
theorem azo:Vy.kd=Kd.oth:=ID rfl
theorem aoW:Vy.kd.agg=false:=ID rfl
theorem aiR:Vy.size=1:=ID rfl
theorem acJ:Vy.bytes=8:=ID rfl
theorem azm:qx Vy=True:=eq_true rfl
theorem azn:zc Vy=[.v Value.nilFunc]:=ID rfl
theorem ba0{K:TI→Prop}:@tyW Tryz.prog 211 ⟨K⟩=K Vx:=qj bdY
theorem azl:Vx.kd=Kd.oth:=ID rfl
theorem aoV:Vx.kd.agg=false:=ID rfl
theorem aiQ:Vx.size=1:=ID rfl
theorem acI:Vx.bytes=8:=ID rfl
theorem azj:qx Vx=True:=eq_true rfl
theorem azk:zc Vx=[.v Value.nilFunc]:=ID rfl
theorem baZ{K:TI→Prop}:@tyW Tryz.prog 213 ⟨K⟩=K Vw:=qj bdX
theorem azi:Vw.kd=Kd.oth:=ID rfl
theorem aoU:Vw.kd.agg=false:=ID rfl
theorem aiP:Vw.size=1:=ID rfl
theorem acH:Vw.bytes=8:=ID rfl
theorem azg:qx Vw=True:=eq_true rfl
theorem azh:zc Vw=[.v Value.nilFunc]:=ID rfl
theorem baY{K:TI→Prop}:@tyW Tryz.prog 214 ⟨K⟩=K Vv:=qj bdW
theorem azf:Vv.kd=Kd.oth:=ID rfl
theorem aoT:Vv.kd.agg=false:=ID rfl
theorem aiO:Vv.size=1:=ID rfl
theorem acG:Vv.bytes=8:=ID rfl
theorem azd:qx Vv=True:=eq_true rfl
theorem aze:zc Vv=[.v Value.nilFunc]:=ID rfl
theorem baX{K:TI→Prop}:@tyW Tryz.prog 215 ⟨K⟩=K Vu:=qj bdV
theorem azc:Vu.kd=Kd.oth:=ID rfl
theorem aoS:Vu.kd.agg=false:=ID rfl
theorem aiN:Vu.size=1:=ID rfl
theorem acF:Vu.bytes=8:=ID rfl
theorem aza:qx Vu=True:=eq_true rfl
theorem azb:zc Vu=[.v Value.nilFunc]:=ID rfl
theorem baW{K:TI→Prop}:@tyW Tryz.prog 216 ⟨K⟩=K Vt:=qj bdU
theorem ay9:Vt.kd=Kd.oth:=ID rfl
theorem aoR:Vt.kd.agg=false:=ID rfl
theorem aiM:Vt.size=1:=ID rfl
theorem acE:Vt.bytes=8:=ID rfl
theorem ay7:qx Vt=True:=eq_true rfl
theorem ay8:zc Vt=[.v Value.nilFunc]:=ID rfl
theorem baV{K:TI→Prop}:@tyW Tryz.prog 217 ⟨K⟩=K Vs:=qj bdT
theorem ay6:Vs.kd=Kd.oth:=ID rfl
theorem aoQ:Vs.kd.agg=false:=ID rfl
theorem aiL:Vs.size=1:=ID rfl
theorem acD:Vs.bytes=8:=ID rfl
theorem ay4:qx Vs=True:=eq_true rfl
theorem ay5:zc Vs=[.v Value.nilFunc]:=ID rfl
theorem baU{K:TI→Prop}:@tyW Tryz.prog 218 ⟨K⟩=K Vr:=qj bdS
theorem ay3:Vr.kd=Kd.oth:=ID rfl
theorem aoP:Vr.kd.agg=false:=ID rfl
theorem aiK:Vr.size=1:=ID rfl
theorem acC:Vr.bytes=8:=ID rfl
theorem ay1:qx Vr=True:=eq_true rfl
theorem ay2:zc Vr=[.v Value.nilFunc]:=ID rfl
theorem baT{K:TI→Prop}:@tyW Tryz.prog 219 ⟨K⟩=K Vq:=qj bdR
theorem ay0:Vq.kd=Kd.oth:=ID rfl
theorem aoO:Vq.kd.agg=false:=ID rfl
theorem aiJ:Vq.size=1:=ID rfl
theorem acB:Vq.bytes=8:=ID rfl
theorem ayY:qx Vq=True:=eq_true rfl
theorem ayZ:zc Vq=[.v Value.nilFunc]:=ID rfl
theorem baS{K:TI→Prop}:@tyW Tryz.prog 220 ⟨K⟩=K Vp:=qj bdQ
theorem ayW:Vp.kd=Kd.oth:=ID rfl
theorem aoM:Vp.kd.agg=false:=ID rfl
theorem aiH:Vp.size=1:=ID rfl
theorem acA:Vp.bytes=8:=ID rfl
theorem ayU:qx Vp=True:=eq_true rfl
theorem ayV:zc Vp=[.v Value.nilFunc]:=ID rfl
theorem baR{K:TI→Prop}:@tyW Tryz.prog 221 ⟨K⟩=K Vo:=qj bdP
theorem ayT:Vo.kd=Kd.oth:=ID rfl
theorem aoL:Vo.kd.agg=false:=ID rfl
theorem aiG:Vo.size=1:=ID rfl
theorem acz:Vo.bytes=8:=ID rfl
theorem ayR:qx Vo=True:=eq_true rfl
theorem ayS:zc Vo=[.v Value.nilFunc]:=ID rfl
theorem baQ{K:TI→Prop}:@tyW Tryz.prog 222 ⟨K⟩=K Vn:=qj bdO
theorem ayQ:Vn.kd=Kd.oth:=ID rfl
theorem aoK:Vn.kd.agg=false:=ID rfl
theorem aiF:Vn.size=1:=ID rfl
theorem acy:Vn.bytes=8:=ID rfl
theorem ayO:qx Vn=True:=eq_true rfl
theorem ayP:zc Vn=[.v Value.nilFunc]:=ID rfl
theorem baP{K:TI→Prop}:@tyW Tryz.prog 223 ⟨K⟩=K Vm:=qj bdN
theorem ayN:Vm.kd=Kd.oth:=ID rfl
theorem aoJ:Vm.kd.agg=false:=ID rfl
theorem aiE:Vm.size=1:=ID rfl
theorem acx:Vm.bytes=8:=ID rfl
theorem ayL:qx Vm=True:=eq_true rfl
theorem ayM:zc Vm=[.v Value.nilFunc]:=ID rfl
theorem baO{K:TI→Prop}:@tyW Tryz.prog 224 ⟨K⟩=K Vl:=qj bdM
theorem ayK:Vl.kd=Kd.oth:=ID rfl
theorem aoI:Vl.kd.agg=false:=ID rfl
theorem aiD:Vl.size=1:=ID rfl
theorem acw:Vl.bytes=8:=ID rfl
theorem ayI:qx Vl=True:=eq_true rfl
theorem ayJ:zc Vl=[.v Value.nilFunc]:=ID rfl
theorem baN{K:TI→Prop}:@tyW Tryz.prog 225 ⟨K⟩=K Vk:=qj bdL
theorem ayH:Vk.kd=Kd.oth:=ID rfl
theorem aoH:Vk.kd.agg=false:=ID rfl
theorem aiC:Vk.size=1:=ID rfl
theorem acv:Vk.bytes=8:=ID rfl
theorem ayF:qx Vk=True:=eq_true rfl
theorem ayG:zc Vk=[.v Value.nilFunc]:=ID rfl
theorem baM{K:TI→Prop}:@tyW Tryz.prog 226 ⟨K⟩=K Vj:=qj bdK
theorem ayE:Vj.kd=Kd.oth:=ID rfl
theorem aoG:Vj.kd.agg=false:=ID rfl
theorem aiB:Vj.size=1:=ID rfl
theorem acu:Vj.bytes=8:=ID rfl
theorem ayC:qx Vj=True:=eq_true rfl
theorem ayD:zc Vj=[.v Value.nilFunc]:=ID rfl
theorem baL{K:TI→Prop}:@tyW Tryz.prog 227 ⟨K⟩=K Vi:=qj bdJ
theorem ayB:Vi.kd=Kd.oth:=ID rfl
theorem aoF:Vi.kd.agg=false:=ID rfl
theorem aiA:Vi.size=1:=ID rfl
theorem act:Vi.bytes=8:=ID rfl
theorem ayz:qx Vi=True:=eq_true rfl
theorem ayA:zc Vi=[.v Value.nilFunc]:=ID rfl
theorem baK{K:TI→Prop}:@tyW Tryz.prog 228 ⟨K⟩=K Vh:=qj bdI
theorem ayy:Vh.kd=Kd.oth:=ID rfl
theorem aoE:Vh.kd.agg=false:=ID rfl
theorem aiz:Vh.size=1:=ID rfl
theorem acs:Vh.bytes=8:=ID rfl
theorem ayw:qx Vh=True:=eq_true rfl
theorem ayx:zc Vh=[.v Value.nilFunc]:=ID rfl
theorem baJ{K:TI→Prop}:@tyW Tryz.prog 229 ⟨K⟩=K Vg:=qj bdH
theorem ayv:Vg.kd=Kd.oth:=ID rfl
theorem aoD:Vg.kd.agg=false:=ID rfl
theorem aiy:Vg.size=1:=ID rfl
theorem acr:Vg.bytes=8:=ID rfl
theorem ayt:qx Vg=True:=eq_true rfl
theorem ayu:zc Vg=[.v Value.nilFunc]:=ID rfl
theorem baI{K:TI→Prop}:@tyW Tryz.prog 230 ⟨K⟩=K Vf:=qj bdG
theorem ayr:Vf.kd=Kd.oth:=ID rfl
theorem aoB:Vf.kd.agg=false:=ID rfl
theorem aiw:Vf.size=1:=ID rfl
theorem acq:Vf.bytes=8:=ID rfl
theorem ayp:qx Vf=True:=eq_true rfl
theorem ayq:zc Vf=[.v Value.nilFunc]:=ID rfl
theorem baH{K:TI→Prop}:@tyW Tryz.prog 231 ⟨K⟩=K Ve:=qj bdF
theorem ayo:Ve.kd=Kd.oth:=ID rfl
theorem aoA:Ve.kd.agg=false:=ID rfl
theorem aiv:Ve.size=1:=ID rfl
theorem acp:Ve.bytes=8:=ID rfl
theorem aym:qx Ve=True:=eq_true rfl
theorem ayn:zc Ve=[.v Value.nilFunc]:=ID rfl
theorem baG{K:TI→Prop}:@tyW Tryz.prog 233 ⟨K⟩=K Vd:=qj bdE
theorem ayl:Vd.kd=Kd.oth:=ID rfl
theorem aoz:Vd.kd.agg=false:=ID rfl
theorem aiu:Vd.size=1:=ID rfl
theorem aco:Vd.bytes=8:=ID rfl
theorem ayj:qx Vd=True:=eq_true rfl
theorem ayk:zc Vd=[.v Value.nilFunc]:=ID rfl
theorem baF{K:TI→Prop}:@tyW Tryz.prog 234 ⟨K⟩=K Vc:=qj bdD
theorem ayi:Vc.kd=Kd.oth:=ID rfl
theorem aoy:Vc.kd.agg=false:=ID rfl
theorem ait:Vc.size=1:=ID rfl
theorem acn:Vc.bytes=8:=ID rfl
theorem ayg:qx Vc=True:=eq_true rfl
theorem ayh:zc Vc=[.v Value.nilFunc]:=ID rfl
theorem baE{K:TI→Prop}:@tyW Tryz.prog 235 ⟨K⟩=K Vb:=qj bdC
theorem ayf:Vb.kd=Kd.oth:=ID rfl
theorem aox:Vb.kd.agg=false:=ID rfl
theorem ais:Vb.size=1:=ID rfl
theorem acm:Vb.bytes=8:=ID rfl
theorem ayd:qx Vb=True:=eq_true rfl
theorem aye:zc Vb=[.v Value.nilFunc]:=ID rfl
theorem baD{K:TI→Prop}:@tyW Tryz.prog 236 ⟨K⟩=K Va:=qj bdB
theorem ayc:Va.kd=Kd.oth:=ID rfl
theorem aow:Va.kd.agg=false:=ID rfl
theorem air:Va.size=1:=ID rfl
theorem acl:Va.bytes=8:=ID rfl
theorem aya:qx Va=True:=eq_true rfl
theorem ayb:zc Va=[.v Value.nilFunc]:=ID rfl
theorem baC{K:TI→Prop}:@tyW Tryz.prog 237 ⟨K⟩=K X9:=qj bdA
theorem ax9:X9.kd=Kd.oth:=ID rfl
theorem aov:X9.kd.agg=false:=ID rfl
theorem aiq:X9.size=1:=ID rfl
theorem ack:X9.bytes=8:=ID rfl
theorem ax7:qx X9=True:=eq_true rfl
theorem ax8:zc X9=[.v Value.nilFunc]:=ID rfl
theorem baB{K:TI→Prop}:@tyW Tryz.prog 238 ⟨K⟩=K X8:=qj bdz
theorem ax6:X8.kd=Kd.oth:=ID rfl
theorem aou:X8.kd.agg=false:=ID rfl
theorem aip:X8.size=1:=ID rfl
theorem acj:X8.bytes=8:=ID rfl
theorem ax4:qx X8=True:=eq_true rfl
theorem ax5:zc X8=[.v Value.nilFunc]:=ID rfl
theorem baA{K:TI→Prop}:@tyW Tryz.prog 239 ⟨K⟩=K X7:=qj bdy
theorem ax3:X7.kd=Kd.oth:=ID rfl
theorem aot:X7.kd.agg=false:=ID rfl
theorem aio:X7.size=1:=ID rfl
theorem aci:X7.bytes=8:=ID rfl
theorem ax1:qx X7=True:=eq_true rfl
theorem ax2:zc X7=[.v Value.nilFunc]:=ID rfl
theorem baz{K:TI→Prop}:@tyW Tryz.prog 240 ⟨K⟩=K X6:=qj bdx
theorem axZ:X6.kd=Kd.oth:=ID rfl
theorem aoq:X6.kd.agg=false:=ID rfl
theorem aim:X6.size=1:=ID rfl
theorem ach:X6.bytes=8:=ID rfl
theorem axX:qx X6=True:=eq_true rfl
theorem axY:zc X6=[.v Value.nilFunc]:=ID rfl
theorem bay{K:TI→Prop}:@tyW Tryz.prog 241 ⟨K⟩=K X5:=qj bdw
theorem axW:X5.kd=Kd.oth:=ID rfl
theorem aop:X5.kd.agg=false:=ID rfl
theorem ail:X5.size=1:=ID rfl
theorem acg:X5.bytes=8:=ID rfl
theorem axU:qx X5=True:=eq_true rfl
theorem axV:zc X5=[.v Value.nilFunc]:=ID rfl
theorem bax{K:TI→Prop}:@tyW Tryz.prog 242 ⟨K⟩=K X4:=qj bdv
theorem axT:X4.kd=Kd.oth:=ID rfl
theorem aoo:X4.kd.agg=false:=ID rfl
theorem aik:X4.size=1:=ID rfl
theorem acf:X4.bytes=8:=ID rfl
theorem axR:qx X4=True:=eq_true rfl
theorem axS:zc X4=[.v Value.nilFunc]:=ID rfl
theorem baw{K:TI→Prop}:@tyW Tryz.prog 243 ⟨K⟩=K X3:=qj bdu
theorem axQ:X3.kd=Kd.oth:=ID rfl
theorem aon:X3.kd.agg=false:=ID rfl
theorem aij:X3.size=1:=ID rfl
theorem ace:X3.bytes=8:=ID rfl
theorem axO:qx X3=True:=eq_true rfl
theorem axP:zc X3=[.v Value.nilFunc]:=ID rfl
theorem bav{K:TI→Prop}:@tyW Tryz.prog 244 ⟨K⟩=K X2:=qj bdt
theorem axN:X2.kd=Kd.oth:=ID rfl
theorem aom:X2.kd.agg=false:=ID rfl
theorem aii:X2.size=1:=ID rfl
theorem acd:X2.bytes=8:=ID rfl
theorem axL:qx X2=True:=eq_true rfl
theorem axM:zc X2=[.v Value.nilFunc]:=ID rfl
theorem bau{K:TI→Prop}:@tyW Tryz.prog 245 ⟨K⟩=K X1:=qj bds
theorem axK:X1.kd=Kd.oth:=ID rfl
theorem aol:X1.kd.agg=false:=ID rfl
theorem aih:X1.size=1:=ID rfl
theorem acb:X1.bytes=8:=ID rfl
theorem axI:qx X1=True:=eq_true rfl
theorem axJ:zc X1=[.v Value.nilFunc]:=ID rfl
theorem bat{K:TI→Prop}:@tyW Tryz.prog 246 ⟨K⟩=K X0:=qj bdr
theorem axH:X0.kd=Kd.oth:=ID rfl
theorem aok:X0.kd.agg=false:=ID rfl
theorem aig:X0.size=1:=ID rfl
theorem aca:X0.bytes=8:=ID rfl
theorem axF:qx X0=True:=eq_true rfl
theorem axG:zc X0=[.v Value.nilFunc]:=ID rfl
theorem bas{K:TI→Prop}:@tyW Tryz.prog 247 ⟨K⟩=K XZ:=qj bdq
theorem axE:XZ.kd=Kd.oth:=ID rfl
theorem aoj:XZ.kd.agg=false:=ID rfl
theorem aif:XZ.size=1:=ID rfl
theorem ab9:XZ.bytes=8:=ID rfl
theorem axC:qx XZ=True:=eq_true rfl
theorem axD:zc XZ=[.v Value.nilFunc]:=ID rfl
theorem bar{K:TI→Prop}:@tyW Tryz.prog 248 ⟨K⟩=K XY:=qj bdp
theorem axB:XY.kd=Kd.oth:=ID rfl
theorem aoi:XY.kd.agg=false:=ID rfl
theorem aie:XY.size=1:=ID rfl
theorem ab8:XY.bytes=8:=ID rfl
theorem axz:qx XY=True:=eq_true rfl
theorem axA:zc XY=[.v Value.nilFunc]:=ID rfl
theorem baq{K:TI→Prop}:@tyW Tryz.prog 250 ⟨K⟩=K XX:=qj bdo
theorem axx:XX.kd=Kd.oth:=ID rfl
theorem aof:XX.kd.agg=false:=ID rfl
theorem aic:XX.size=1:=ID rfl
theorem ab7:XX.bytes=8:=ID rfl
theorem axv:qx XX=True:=eq_true rfl
theorem axw:zc XX=[.v Value.nilFunc]:=ID rfl
theorem bap{K:TI→Prop}:@tyW Tryz.prog 252 ⟨K⟩=K XW:=qj bdn
theorem axu:XW.kd=Kd.oth:=ID rfl
theorem aoe:XW.kd.agg=false:=ID rfl
theorem aib:XW.size=1:=ID rfl
theorem ab6:XW.bytes=8:=ID rfl
theorem axs:qx XW=True:=eq_true rfl
theorem axt:zc XW=[.v Value.nilFunc]:=ID rfl
theorem bao{K:TI→Prop}:@tyW Tryz.prog 253 ⟨K⟩=K XV:=qj bdm
theorem axr:XV.kd=Kd.oth:=ID rfl
theorem aod:XV.kd.agg=false:=ID rfl
theorem aia:XV.size=1:=ID rfl
theorem ab5:XV.bytes=8:=ID rfl
theorem axp:qx XV=True:=eq_true rfl
theorem axq:zc XV=[.v Value.nilFunc]:=ID rfl
theorem ban{K:TI→Prop}:@tyW Tryz.prog 254 ⟨K⟩=K XU:=qj bdl
theorem axo:XU.kd=Kd.oth:=ID rfl
theorem aoc:XU.kd.agg=false:=ID rfl
theorem ah9:XU.size=1:=ID rfl
theorem ab4:XU.bytes=8:=ID rfl
theorem axm:qx XU=True:=eq_true rfl
theorem axn:zc XU=[.v Value.nilFunc]:=ID rfl
theorem bam{K:TI→Prop}:@tyW Tryz.prog 255 ⟨K⟩=K XT:=qj bdk
theorem axl:XT.kd=Kd.oth:=ID rfl
theorem aob:XT.kd.agg=false:=ID rfl
theorem ah8:XT.size=1:=ID rfl
theorem ab3:XT.bytes=8:=ID rfl
theorem axj:qx XT=True:=eq_true rfl
theorem axk:zc XT=[.v Value.nilFunc]:=ID rfl
theorem bal{K:TI→Prop}:@tyW Tryz.prog 256 ⟨K⟩=K XS:=qj bdj
theorem axi:XS.kd=Kd.oth:=ID rfl
theorem aoa:XS.kd.agg=false:=ID rfl
theorem ah7:XS.size=1:=ID rfl
theorem ab2:XS.bytes=8:=ID rfl
theorem axg:qx XS=True:=eq_true rfl
theorem axh:zc XS=[.v Value.nilFunc]:=ID rfl
theorem bak{K:TI→Prop}:@tyW Tryz.prog 257 ⟨K⟩=K XR:=qj bdi
theorem axf:XR.kd=Kd.oth:=ID rfl
theorem an9:XR.kd.agg=false:=ID rfl
theorem ah6:XR.size=1:=ID rfl
theorem ab1:XR.bytes=8:=ID rfl
theorem axd:qx XR=True:=eq_true rfl
theorem axe:zc XR=[.v Value.nilFunc]:=ID rfl
theorem baj{K:TI→Prop}:@tyW Tryz.prog 258 ⟨K⟩=K XQ:=qj bdh
theorem axc:XQ.kd=Kd.oth:=ID rfl
theorem an8:XQ.kd.agg=false:=ID rfl
theorem ah5:XQ.size=1:=ID rfl
theorem ab0:XQ.bytes=8:=ID rfl
theorem axa:qx XQ=True:=eq_true rfl
theorem axb:zc XQ=[.v Value.nilFunc]:=ID rfl
theorem bai{K:TI→Prop}:@tyW Tryz.prog 259 ⟨K⟩=K XP:=qj bdg
theorem aw9:XP.kd=Kd.oth:=ID rfl
theorem an7:XP.kd.agg=false:=ID rfl
theorem ah4:XP.size=1:=ID rfl
theorem abZ:XP.bytes=8:=ID rfl
theorem aw7:qx XP=True:=eq_true rfl
theorem aw8:zc XP=[.v Value.nilFunc]:=ID rfl
theorem bah{K:TI→Prop}:@tyW Tryz.prog 260 ⟨K⟩=K XO:=qj bdf
theorem aw5:XO.kd=Kd.oth:=ID rfl
theorem an5:XO.kd.agg=false:=ID rfl
theorem ah2:XO.size=1:=ID rfl
theorem abY:XO.bytes=8:=ID rfl
theorem aw3:qx XO=True:=eq_true rfl
theorem aw4:zc XO=[.v Value.nilFunc]:=ID rfl
theorem bag{K:TI→Prop}:@tyW Tryz.prog 261 ⟨K⟩=K XN:=qj bde
theorem aw2:XN.kd=Kd.oth:=ID rfl
theorem an4:XN.kd.agg=false:=ID rfl
theorem ah1:XN.size=1:=ID rfl
theorem abX:XN.bytes=8:=ID rfl
theorem aw0:qx XN=True:=eq_true rfl
theorem aw1:zc XN=[.v Value.nilFunc]:=ID rfl
theorem baf{K:TI→Prop}:@tyW Tryz.prog 262 ⟨K⟩=K XM:=qj bdd
theorem awZ:XM.kd=Kd.oth:=ID rfl
theorem an3:XM.kd.agg=false:=ID rfl
theorem ah0:XM.size=1:=ID rfl
theorem abW:XM.bytes=8:=ID rfl
theorem awX:qx XM=True:=eq_true rfl
theorem awY:zc XM=[.v Value.nilFunc]:=ID rfl
theorem bae{K:TI→Prop}:@tyW Tryz.prog 263 ⟨K⟩=K XL:=qj bdc
theorem awW:XL.kd=Kd.oth:=ID rfl
theorem an2:XL.kd.agg=false:=ID rfl
theorem ahZ:XL.size=1:=ID rfl
theorem abV:XL.bytes=8:=ID rfl
theorem awT:qx XL=True:=eq_true rfl
theorem awU:zc XL=[.v Value.nilFunc]:=ID rfl
theorem bac{K:TI→Prop}:@tyW Tryz.prog 264 ⟨K⟩=K XK:=qj bdb
theorem awS:XK.kd=Kd.int IntKind.u64:=ID rfl
theorem an1:XK.kd.agg=false:=ID rfl
theorem ahY:XK.size=1:=ID rfl
theorem abU:XK.bytes=8:=ID rfl
theorem awQ:qx XK=True:=eq_true rfl
theorem awR:zc XK=[.v (Value.int IntKind.u64 0)]:=ID rfl
theorem bab{K:TI→Prop}:@tyW Tryz.prog 265 ⟨K⟩=K XJ:=qj bda
theorem awP:XJ.kd=Kd.oth:=ID rfl
theorem an0:XJ.kd.agg=false:=ID rfl
theorem ahX:XJ.size=1:=ID rfl
theorem abT:XJ.bytes=8:=ID rfl
theorem awN:qx XJ=True:=eq_true rfl
theorem awO:zc XJ=[.v Value.nilFunc]:=ID rfl
theorem baa{K:TI→Prop}:@tyW Tryz.prog 266 ⟨K⟩=K XI:=qj bc9
theorem awM:XI.kd=Kd.oth:=ID rfl
theorem anZ:XI.kd.agg=false:=ID rfl
theorem ahW:XI.size=1:=ID rfl
theorem abS:XI.bytes=8:=ID rfl
theorem awK:qx XI=True:=eq_true rfl
theorem awL:zc XI=[.v Value.nilFunc]:=ID rfl
theorem aZ9{K:TI→Prop}:@tyW Tryz.prog 267 ⟨K⟩=K XH:=qj bc8
theorem awJ:XH.kd=Kd.oth:=ID rfl
theorem anY:XH.kd.agg=false:=ID rfl
theorem ahV:XH.size=1:=ID rfl
theorem abR:XH.bytes=8:=ID rfl
theorem awH:qx XH=True:=eq_true rfl
theorem awI:zc XH=[.v Value.nilFunc]:=ID rfl
theorem aZ8{K:TI→Prop}:@tyW Tryz.prog 269 ⟨K⟩=K XG:=qj bc7
theorem awG:XG.kd=Kd.oth:=ID rfl
theorem anX:XG.kd.agg=false:=ID rfl
theorem ahU:XG.size=1:=ID rfl
theorem abQ:XG.bytes=8:=ID rfl
theorem awE:qx XG=True:=eq_true rfl
theorem awF:zc XG=[.v Value.nilFunc]:=ID rfl
theorem aZ7{K:TI→Prop}:@tyW Tryz.prog 271 ⟨K⟩=K XF:=qj bc6
theorem awD:XF.kd=Kd.oth:=ID rfl
theorem anW:XF.kd.agg=false:=ID rfl
theorem ahT:XF.size=1:=ID rfl
theorem abP:XF.bytes=8:=ID rfl
theorem awB:qx XF=True:=eq_true rfl
theorem awC:zc XF=[.v Value.nilFunc]:=ID rfl
theorem aZ6{K:TI→Prop}:@tyW Tryz.prog 273 ⟨K⟩=K XE:=qj bc5
theorem awA:XE.kd=Kd.oth:=ID rfl
theorem anV:XE.kd.agg=false:=ID rfl
theorem ahS:XE.size=1:=ID rfl
theorem abO:XE.bytes=8:=ID rfl
theorem awy:qx XE=True:=eq_true rfl
theorem awz:zc XE=[.v Value.nilFunc]:=ID rfl
theorem aZ5{K:TI→Prop}:@tyW Tryz.prog 274 ⟨K⟩=K XD:=qj bc4
theorem awx:XD.kd=Kd.oth:=ID rfl
theorem anU:XD.kd.agg=false:=ID rfl
theorem ahR:XD.size=1:=ID rfl
theorem abN:XD.bytes=8:=ID rfl
theorem awv:qx XD=True:=eq_true rfl
theorem aww:zc XD=[.v Value.nilFunc]:=ID rfl
theorem aZ4{K:TI→Prop}:@tyW Tryz.prog 275 ⟨K⟩=K XC:=qj bc3
theorem awu:XC.kd=Kd.int IntKind.u32:=ID rfl
theorem anT:XC.kd.agg=false:=ID rfl
theorem ahQ:XC.size=1:=ID rfl
theorem abM:XC.bytes=4:=ID rfl
theorem aws:qx XC=True:=eq_true rfl
theorem awt:zc XC=[.v (Value.int IntKind.u32 0)]:=ID rfl
theorem aZ3{K:TI→Prop}:@tyW Tryz.prog 276 ⟨K⟩=K XB:=qj bc2
theorem awr:XB.kd=Kd.oth:=ID rfl
theorem anS:XB.kd.agg=false:=ID rfl
theorem ahP:XB.size=1:=ID rfl
theorem abL:XB.bytes=8:=ID rfl
theorem awo:qx XB=True:=eq_true rfl
theorem awq:zc XB=[.v Value.nilFunc]:=ID rfl
theorem aZ2{K:TI→Prop}:@tyW Tryz.prog 277 ⟨K⟩=K XA:=qj bc1
theorem awn:XA.kd=Kd.int IntKind.u64:=ID rfl
theorem anR:XA.kd.agg=false:=ID rfl
theorem ahO:XA.size=1:=ID rfl
theorem abK:XA.bytes=8:=ID rfl
theorem awl:qx XA=True:=eq_true rfl
theorem awm:zc XA=[.v (Value.int IntKind.u64 0)]:=ID rfl
theorem aZ1{K:TI→Prop}:@tyW Tryz.prog 278 ⟨K⟩=K Xz:=qj bc0
theorem awk:Xz.kd=Kd.oth:=ID rfl
theorem anQ:Xz.kd.agg=false:=ID rfl
theorem ahN:Xz.size=1:=ID rfl
theorem abJ:Xz.bytes=8:=ID rfl
theorem awi:qx Xz=True:=eq_true rfl
theorem awj:zc Xz=[.v Value.nilFunc]:=ID rfl
theorem aZ0{K:TI→Prop}:@tyW Tryz.prog 279 ⟨K⟩=K Xy:=qj bcZ
theorem awh:Xy.kd=Kd.oth:=ID rfl
theorem anP:Xy.kd.agg=false:=ID rfl
theorem ahM:Xy.size=1:=ID rfl
theorem abI:Xy.bytes=8:=ID rfl
theorem awf:qx Xy=True:=eq_true rfl
theorem awg:zc Xy=[.v Value.nilFunc]:=ID rfl
theorem aZZ{K:TI→Prop}:@tyW Tryz.prog 281 ⟨K⟩=K Xx:=qj bcY
theorem awd:Xx.kd=Kd.oth:=ID rfl
theorem anN:Xx.kd.agg=false:=ID rfl
theorem ahK:Xx.size=1:=ID rfl
theorem abH:Xx.bytes=8:=ID rfl
theorem awb:qx Xx=True:=eq_true rfl
theorem awc:zc Xx=[.v Value.nilFunc]:=ID rfl
theorem aZY{K:TI→Prop}:@tyW Tryz.prog 282 ⟨K⟩=K Xw:=qj bcX
theorem awa:Xw.kd=Kd.oth:=ID rfl
theorem anM:Xw.kd.agg=false:=ID rfl
theorem ahJ:Xw.size=1:=ID rfl
theorem abG:Xw.bytes=8:=ID rfl
theorem av8:qx Xw=True:=eq_true rfl
theorem av9:zc Xw=[.v Value.nilFunc]:=ID rfl
theorem aZX{K:TI→Prop}:@tyW Tryz.prog 283 ⟨K⟩=K Xv:=qj bcW
theorem av7:Xv.kd=Kd.oth:=ID rfl
theorem anL:Xv.kd.agg=false:=ID rfl
theorem ahI:Xv.size=1:=ID rfl
theorem abF:Xv.bytes=8:=ID rfl
theorem av5:qx Xv=True:=eq_true rfl
theorem av6:zc Xv=[.v Value.nilFunc]:=ID rfl
theorem aZW{K:TI→Prop}:@tyW Tryz.prog 287 ⟨K⟩=K Xu:=qj bcV
theorem av4:Xu.kd=Kd.oth:=ID rfl
theorem anK:Xu.kd.agg=false:=ID rfl
theorem ahH:Xu.size=1:=ID rfl
theorem abE:Xu.bytes=8:=ID rfl
theorem av2:qx Xu=True:=eq_true rfl
theorem av3:zc Xu=[.v Value.nilFunc]:=ID rfl
theorem aZV{K:TI→Prop}:@tyW Tryz.prog 288 ⟨K⟩=K Xt:=qj bcU
theorem av1:Xt.kd=Kd.oth:=ID rfl
theorem anJ:Xt.kd.agg=false:=ID rfl
theorem ahG:Xt.size=1:=ID rfl
theorem abD:Xt.bytes=8:=ID rfl
theorem avZ:qx Xt=True:=eq_true rfl
theorem av0:zc Xt=[.v Value.nilFunc]:=ID rfl
theorem aZU{K:TI→Prop}:@tyW Tryz.prog 289 ⟨K⟩=K Xs:=qj bcT
theorem avY:Xs.kd=Kd.oth:=ID rfl
theorem anI:Xs.kd.agg=false:=ID rfl
theorem ahF:Xs.size=1:=ID rfl
theorem abC:Xs.bytes=8:=ID rfl
theorem avW:qx Xs=True:=eq_true rfl
theorem avX:zc Xs=[.v Value.nilFunc]:=ID rfl
theorem aZT{K:TI→Prop}:@tyW Tryz.prog 290 ⟨K⟩=K Xr:=qj bcS
theorem avU:Xr.kd=Kd.oth:=ID rfl
theorem anF:Xr.kd.agg=false:=ID rfl
theorem ahD:Xr.size=1:=ID rfl
theorem abB:Xr.bytes=8:=ID rfl
theorem avS:qx Xr=True:=eq_true rfl
theorem avT:zc Xr=[.v Value.nilFunc]:=ID rfl
theorem aZS{K:TI→Prop}:@tyW Tryz.prog 291 ⟨K⟩=K Xq:=qj bcR
theorem avR:Xq.kd=Kd.oth:=ID rfl
theorem anE:Xq.kd.agg=false:=ID rfl
theorem ahC:Xq.size=1:=ID rfl
theorem abA:Xq.bytes=8:=ID rfl
theorem avP:qx Xq=True:=eq_true rfl
theorem avQ:zc Xq=[.v Value.nilFunc]:=ID rfl
theorem aZR{K:TI→Prop}:@tyW Tryz.prog 295 ⟨K⟩=K Xp:=qj bcQ
theorem avO:Xp.kd=Kd.stru [(0,294)]:=ID rfl
theorem anD:Xp.kd.agg=true:=ID rfl
theorem ahB:Xp.size=0:=ID rfl
theorem abz:Xp.bytes=0:=ID rfl
theorem avM:qx Xp=True:=eq_true rfl
theorem avN:zc Xp=[]:=ID rfl
theorem aZQ{K:TI→Prop}:@tyW Tryz.prog 296 ⟨K⟩=K Xo:=qj bcP
theorem avL:Xo.kd=Kd.stru [(0,294)]:=ID rfl
theorem anC:Xo.kd.agg=true:=ID rfl
theorem ahA:Xo.size=0:=ID rfl
theorem aby:Xo.bytes=0:=ID rfl
theorem avJ:qx Xo=True:=eq_true rfl
theorem avK:zc Xo=[]:=ID rfl
theorem aZP{K:TI→Prop}:@tyW Tryz.prog 297 ⟨K⟩=K Xn:=qj bcO
theorem avI:Xn.kd=Kd.int IntKind.u8:=ID rfl
theorem anB:Xn.kd.agg=false:=ID rfl
theorem ahz:Xn.size=1:=ID rfl
theorem abx:Xn.bytes=1:=ID rfl
theorem avG:qx Xn=True:=eq_true rfl
theorem avH:zc Xn=[.v (Value.int IntKind.u8 0)]:=ID rfl
theorem aZO{K:TI→Prop}:@tyW Tryz.prog 298 ⟨K⟩=K Xm:=qj bcN
theorem avF:Xm.kd=Kd.int IntKind.u8:=ID rfl
theorem anA:Xm.kd.agg=false:=ID rfl
theorem ahy:Xm.size=1:=ID rfl
theorem abw:Xm.bytes=1:=ID rfl
theorem avD:qx Xm=True:=eq_true rfl
theorem avE:zc Xm=[.v (Value.int IntKind.u8 0)]:=ID rfl
theorem aZN{K:TI→Prop}:@tyW Tryz.prog 299 ⟨K⟩=K Xl:=qj bcM
theorem avC:Xl.kd=Kd.oth:=ID rfl
theorem anz:Xl.kd.agg=false:=ID rfl
theorem ahx:Xl.size=1:=ID rfl
theorem abv:Xl.bytes=8:=ID rfl
theorem avA:qx Xl=True:=eq_true rfl
theorem avB:zc Xl=[.v Value.nilFunc]:=ID rfl
theorem aZM{K:TI→Prop}:@tyW Tryz.prog 301 ⟨K⟩=K Xk:=qj bcL
theorem avx:Xk.kd=Kd.int IntKind.i32:=ID rfl
theorem anu:Xk.kd.agg=false:=ID rfl
theorem ahv:Xk.size=1:=ID rfl
theorem abu:Xk.bytes=4:=ID rfl
theorem avv:qx Xk=True:=eq_true rfl
theorem avw:zc Xk=[.v (Value.int IntKind.i32 0)]:=ID rfl
theorem aZL{K:TI→Prop}:@tyW Tryz.prog 302 ⟨K⟩=K Xj:=qj bcK
theorem avu:Xj.kd=Kd.int IntKind.i32:=ID rfl
theorem ant:Xj.kd.agg=false:=ID rfl
theorem ahu:Xj.size=1:=ID rfl
theorem abt:Xj.bytes=4:=ID rfl
theorem avs:qx Xj=True:=eq_true rfl
theorem avt:zc Xj=[.v (Value.int IntKind.i32 0)]:=ID rfl
theorem aZK{K:TI→Prop}:@tyW Tryz.prog 305 ⟨K⟩=K Xi:=qj bcJ
theorem avr:Xi.kd=Kd.oth:=ID rfl
theorem ans:Xi.kd.agg=false:=ID rfl
theorem aht:Xi.size=1:=ID rfl
theorem abr:Xi.bytes=8:=ID rfl
theorem avp:qx Xi=True:=eq_true rfl
theorem avq:zc Xi=[.v Value.nilFunc]:=ID rfl
theorem aZJ{K:TI→Prop}:@tyW Tryz.prog 306 ⟨K⟩=K Xh:=qj bcI
theorem avo:Xh.kd=Kd.oth:=ID rfl
theorem anr:Xh.kd.agg=false:=ID rfl
theorem ahs:Xh.size=1:=ID rfl
theorem abq:Xh.bytes=8:=ID rfl
theorem avm:qx Xh=True:=eq_true rfl
theorem avn:zc Xh=[.v Value.nilFunc]:=ID rfl
theorem blb:qs Tryz.prog 2=True:=eq_true ⟨_,Tryz.func2,of_decide_eq_false (by kernel_rfl),rfl⟩
theorem bla:qs Tryz.prog 3=True:=eq_true ⟨_,Tryz.func3,of_decide_eq_false (by kernel_rfl),rfl⟩
theorem bk9:qs Tryz.prog 4=True:=eq_true ⟨_,Tryz.func4,of_decide_eq_false (by kernel_rfl),rfl⟩
theorem bk8:qs Tryz.prog 5=True:=eq_true ⟨_,Tryz.func5,of_decide_eq_false (by kernel_rfl),rfl⟩
theorem bk7:qs Tryz.prog 6=True:=eq_true ⟨_,Tryz.func6,of_decide_eq_false (by kernel_rfl),rfl⟩
theorem bk6:qs Tryz.prog 7=True:=eq_true ⟨_,Tryz.func7,of_decide_eq_false (by kernel_rfl),rfl⟩
theorem bk5:qs Tryz.prog 8=True:=eq_true ⟨_,Tryz.func8,of_decide_eq_false (by kernel_rfl),rfl⟩
theorem bk4:qs Tryz.prog 9=True:=eq_true ⟨_,Tryz.func9,of_decide_eq_false (by kernel_rfl),rfl⟩
theorem bhL:qs Tryz.prog 10=True:=eq_true ⟨_,Tryz.func10,of_decide_eq_false (by kernel_rfl),rfl⟩
theorem bhK:qs Tryz.prog 11=True:=eq_true ⟨_,Tryz.func11,of_decide_eq_false (by kernel_rfl),rfl⟩
theorem bhJ:qs Tryz.prog 12=True:=eq_true ⟨_,Tryz.func12,of_decide_eq_false (by kernel_rfl),rfl⟩
theorem bhI:qs Tryz.prog 13=True:=eq_true ⟨_,Tryz.func13,of_decide_eq_false (by kernel_rfl),rfl⟩
theorem bhH:qs Tryz.prog 14=True:=eq_true ⟨_,Tryz.func14,of_decide_eq_false (by kernel_rfl),rfl⟩
theorem bhG:qs Tryz.prog 15=True:=eq_true ⟨_,Tryz.func15,of_decide_eq_false (by kernel_rfl),rfl⟩
theorem bhF:qs Tryz.prog 16=True:=eq_true ⟨_,Tryz.func16,of_decide_eq_false (by kernel_rfl),rfl⟩
theorem bhE:qs Tryz.prog 17=True:=eq_true ⟨_,Tryz.func17,of_decide_eq_false (by kernel_rfl),rfl⟩
theorem bhD:qs Tryz.prog 18=True:=eq_true ⟨_,Tryz.func18,of_decide_eq_false (by kernel_rfl),rfl⟩
theorem bhC:qs Tryz.prog 19=True:=eq_true ⟨_,Tryz.func19,of_decide_eq_false (by kernel_rfl),rfl⟩
theorem bhB:qs Tryz.prog 20=True:=eq_true ⟨_,Tryz.func20,of_decide_eq_false (by kernel_rfl),rfl⟩
theorem bhA:qs Tryz.prog 21=True:=eq_true ⟨_,Tryz.func21,of_decide_eq_false (by kernel_rfl),rfl⟩
theorem bhz:qs Tryz.prog 22=True:=eq_true ⟨_,Tryz.func22,of_decide_eq_false (by kernel_rfl),rfl⟩
theorem bhy:qs Tryz.prog 23=True:=eq_true ⟨_,Tryz.func23,of_decide_eq_false (by kernel_rfl),rfl⟩
theorem bhx:qs Tryz.prog 24=True:=eq_true ⟨_,Tryz.func24,of_decide_eq_false (by kernel_rfl),rfl⟩
theorem bhw:qs Tryz.prog 25=True:=eq_true ⟨_,Tryz.func25,of_decide_eq_false (by kernel_rfl),rfl⟩
theorem bhv:qs Tryz.prog 26=True:=eq_true ⟨_,Tryz.func26,of_decide_eq_false (by kernel_rfl),rfl⟩
theorem bhu:qs Tryz.prog 27=True:=eq_true ⟨_,Tryz.func27,of_decide_eq_false (by kernel_rfl),rfl⟩
theorem bht:qs Tryz.prog 28=True:=eq_true ⟨_,Tryz.func28,of_decide_eq_false (by kernel_rfl),rfl⟩
theorem bhs:qs Tryz.prog 29=True:=eq_true ⟨_,Tryz.func29,of_decide_eq_false (by kernel_rfl),rfl⟩
theorem bhr:qs Tryz.prog 30=True:=eq_true ⟨_,Tryz.func30,of_decide_eq_false (by kernel_rfl),rfl⟩
theorem bhq:qs Tryz.prog 31=True:=eq_true ⟨_,Tryz.func31,of_decide_eq_false (by kernel_rfl),rfl⟩
theorem bho:qs Tryz.prog 32=True:=eq_true ⟨_,Tryz.func32,of_decide_eq_false (by kernel_rfl),rfl⟩
theorem bhn:qs Tryz.prog 33=True:=eq_true ⟨_,Tryz.func33,of_decide_eq_false (by kernel_rfl),rfl⟩
theorem bhm:qs Tryz.prog 34=True:=eq_true ⟨_,Tryz.func34,of_decide_eq_false (by kernel_rfl),rfl⟩
theorem bhl:qs Tryz.prog 35=True:=eq_true ⟨_,Tryz.func35,of_decide_eq_false (by kernel_rfl),rfl⟩
theorem bhk:qs Tryz.prog 36=True:=eq_true ⟨_,Tryz.func36,of_decide_eq_false (by kernel_rfl),rfl⟩
theorem bhj:qs Tryz.prog 37=True:=eq_true ⟨_,Tryz.func37,of_decide_eq_false (by kernel_rfl),rfl⟩
theorem bhi:qs Tryz.prog 38=True:=eq_true ⟨_,Tryz.func38,of_decide_eq_false (by kernel_rfl),rfl⟩
theorem bhh:qs Tryz.prog 39=True:=eq_true ⟨_,Tryz.func39,of_decide_eq_false (by kernel_rfl),rfl⟩
theorem bhg:qs Tryz.prog 40=True:=eq_true ⟨_,Tryz.func40,of_decide_eq_false (by kernel_rfl),rfl⟩
theorem bhf:qs Tryz.prog 41=True:=eq_true ⟨_,Tryz.func41,of_decide_eq_false (by kernel_rfl),rfl⟩
theorem bhe:qs Tryz.prog 42=True:=eq_true ⟨_,Tryz.func42,of_decide_eq_false (by kernel_rfl),rfl⟩
theorem bhd:qs Tryz.prog 43=True:=eq_true ⟨_,Tryz.func43,of_decide_eq_false (by kernel_rfl),rfl⟩
theorem bhc:qs Tryz.prog 44=True:=eq_true ⟨_,Tryz.func44,of_decide_eq_false (by kernel_rfl),rfl⟩
theorem bhb:qs Tryz.prog 45=True:=eq_true ⟨_,Tryz.func45,of_decide_eq_false (by kernel_rfl),rfl⟩
theorem bha:qs Tryz.prog 46=True:=eq_true ⟨_,Tryz.func46,of_decide_eq_false (by kernel_rfl),rfl⟩
theorem bg9:qs Tryz.prog 47=True:=eq_true ⟨_,Tryz.func47,of_decide_eq_false (by kernel_rfl),rfl⟩
theorem bg8:qs Tryz.prog 48=True:=eq_true ⟨_,Tryz.func48,of_decide_eq_false (by kernel_rfl),rfl⟩
theorem bg7:qs Tryz.prog 49=True:=eq_true ⟨_,Tryz.func49,of_decide_eq_false (by kernel_rfl),rfl⟩
theorem bg6:qs Tryz.prog 50=True:=eq_true ⟨_,Tryz.func50,of_decide_eq_false (by kernel_rfl),rfl⟩
theorem bg5:qs Tryz.prog 51=True:=eq_true ⟨_,Tryz.func51,of_decide_eq_false (by kernel_rfl),rfl⟩
theorem bg4:qs Tryz.prog 52=True:=eq_true ⟨_,Tryz.func52,of_decide_eq_false (by kernel_rfl),rfl⟩
theorem bg3:qs Tryz.prog 53=True:=eq_true ⟨_,Tryz.func53,of_decide_eq_false (by kernel_rfl),rfl⟩
theorem bg2:qs Tryz.prog 54=True:=eq_true ⟨_,Tryz.func54,of_decide_eq_false (by kernel_rfl),rfl⟩
theorem bg1:qs Tryz.prog 55=True:=eq_true ⟨_,Tryz.func55,of_decide_eq_false (by kernel_rfl),rfl⟩
theorem bg0:qs Tryz.prog 56=True:=eq_true ⟨_,Tryz.func56,of_decide_eq_false (by kernel_rfl),rfl⟩
theorem bgZ:qs Tryz.prog 57=True:=eq_true ⟨_,Tryz.func57,of_decide_eq_false (by kernel_rfl),rfl⟩
theorem bgY:qs Tryz.prog 58=True:=eq_true ⟨_,Tryz.func58,of_decide_eq_false (by kernel_rfl),rfl⟩
theorem bgX:qs Tryz.prog 59=True:=eq_true ⟨_,Tryz.func59,of_decide_eq_false (by kernel_rfl),rfl⟩
theorem bgW:qs Tryz.prog 60=True:=eq_true ⟨_,Tryz.func60,of_decide_eq_false (by kernel_rfl),rfl⟩
theorem bgV:qs Tryz.prog 61=True:=eq_true ⟨_,Tryz.func61,of_decide_eq_false (by kernel_rfl),rfl⟩
theorem bgU:qs Tryz.prog 62=True:=eq_true ⟨_,Tryz.func62,of_decide_eq_false (by kernel_rfl),rfl⟩
theorem bgT:qs Tryz.prog 63=True:=eq_true ⟨_,Tryz.func63,of_decide_eq_false (by kernel_rfl),rfl⟩
theorem bgS:qs Tryz.prog 64=True:=eq_true ⟨_,Tryz.func64,of_decide_eq_false (by kernel_rfl),rfl⟩
theorem bgR:qs Tryz.prog 65=True:=eq_true ⟨_,Tryz.func65,of_decide_eq_false (by kernel_rfl),rfl⟩
theorem bgQ:qs Tryz.prog 66=True:=eq_true ⟨_,Tryz.func66,of_decide_eq_false (by kernel_rfl),rfl⟩
theorem bgP:qs Tryz.prog 67=True:=eq_true ⟨_,Tryz.func67,of_decide_eq_false (by kernel_rfl),rfl⟩
theorem bgO:qs Tryz.prog 68=True:=eq_true ⟨_,Tryz.func68,of_decide_eq_false (by kernel_rfl),rfl⟩
theorem bgN:qs Tryz.prog 69=True:=eq_true ⟨_,Tryz.func69,of_decide_eq_false (by kernel_rfl),rfl⟩
theorem bgM:qs Tryz.prog 70=True:=eq_true ⟨_,Tryz.func70,of_decide_eq_false (by kernel_rfl),rfl⟩
theorem bgL:qs Tryz.prog 71=True:=eq_true ⟨_,Tryz.func71,of_decide_eq_false (by kernel_rfl),rfl⟩
theorem bgK:qs Tryz.prog 72=True:=eq_true ⟨_,Tryz.func72,of_decide_eq_false (by kernel_rfl),rfl⟩
theorem bgJ:qs Tryz.prog 73=True:=eq_true ⟨_,Tryz.func73,of_decide_eq_false (by kernel_rfl),rfl⟩
theorem bgI:qs Tryz.prog 74=True:=eq_true ⟨_,Tryz.func74,of_decide_eq_false (by kernel_rfl),rfl⟩
theorem bgH:qs Tryz.prog 75=True:=eq_true ⟨_,Tryz.func75,of_decide_eq_false (by kernel_rfl),rfl⟩
theorem bgG:qs Tryz.prog 76=True:=eq_true ⟨_,Tryz.func76,of_decide_eq_false (by kernel_rfl),rfl⟩
theorem bgF:qs Tryz.prog 77=True:=eq_true ⟨_,Tryz.func77,of_decide_eq_false (by kernel_rfl),rfl⟩
theorem bgE:qs Tryz.prog 78=True:=eq_true ⟨_,Tryz.func78,of_decide_eq_false (by kernel_rfl),rfl⟩
theorem bgD:qs Tryz.prog 79=True:=eq_true ⟨_,Tryz.func79,of_decide_eq_false (by kernel_rfl),rfl⟩
theorem bgC:qs Tryz.prog 80=True:=eq_true ⟨_,Tryz.func80,of_decide_eq_false (by kernel_rfl),rfl⟩
theorem bgB:qs Tryz.prog 81=True:=eq_true ⟨_,Tryz.func81,of_decide_eq_false (by kernel_rfl),rfl⟩
theorem bgA:qs Tryz.prog 82=True:=eq_true ⟨_,Tryz.func82,of_decide_eq_false (by kernel_rfl),rfl⟩
theorem bgz:qs Tryz.prog 83=True:=eq_true ⟨_,Tryz.func83,of_decide_eq_false (by kernel_rfl),rfl⟩
theorem bgy:qs Tryz.prog 84=True:=eq_true ⟨_,Tryz.func84,of_decide_eq_false (by kernel_rfl),rfl⟩
theorem bgx:qs Tryz.prog 85=True:=eq_true ⟨_,Tryz.func85,of_decide_eq_false (by kernel_rfl),rfl⟩
theorem bgw:qs Tryz.prog 86=True:=eq_true ⟨_,Tryz.func86,of_decide_eq_false (by kernel_rfl),rfl⟩
theorem bgv:qs Tryz.prog 87=True:=eq_true ⟨_,Tryz.func87,of_decide_eq_false (by kernel_rfl),rfl⟩
theorem bgu:qs Tryz.prog 88=True:=eq_true ⟨_,Tryz.func88,of_decide_eq_false (by kernel_rfl),rfl⟩
theorem bgt:qs Tryz.prog 89=True:=eq_true ⟨_,Tryz.func89,of_decide_eq_false (by kernel_rfl),rfl⟩
theorem bgs:qs Tryz.prog 90=True:=eq_true ⟨_,Tryz.func90,of_decide_eq_false (by kernel_rfl),rfl⟩
theorem bgr:qs Tryz.prog 91=True:=eq_true ⟨_,Tryz.func91,of_decide_eq_false (by kernel_rfl),rfl⟩
theorem bgq:qs Tryz.prog 92=True:=eq_true ⟨_,Tryz.func92,of_decide_eq_false (by kernel_rfl),rfl⟩
theorem bgp:qs Tryz.prog 93=True:=eq_true ⟨_,Tryz.func93,of_decide_eq_false (by kernel_rfl),rfl⟩
theorem bgo:qs Tryz.prog 94=True:=eq_true ⟨_,Tryz.func94,of_decide_eq_false (by kernel_rfl),rfl⟩
theorem bgn:qs Tryz.prog 95=True:=eq_true ⟨_,Tryz.func95,of_decide_eq_false (by kernel_rfl),rfl⟩
theorem bgm:qs Tryz.prog 96=True:=eq_true ⟨_,Tryz.func96,of_decide_eq_false (by kernel_rfl),rfl⟩
theorem bgl:qs Tryz.prog 97=True:=eq_true ⟨_,Tryz.func97,of_decide_eq_false (by kernel_rfl),rfl⟩
theorem bgk:qs Tryz.prog 98=True:=eq_true ⟨_,Tryz.func98,of_decide_eq_false (by kernel_rfl),rfl⟩
theorem bgj:qs Tryz.prog 99=True:=eq_true ⟨_,Tryz.func99,of_decide_eq_false (by kernel_rfl),rfl⟩
theorem aYa:qs Tryz.prog 100=True:=eq_true ⟨_,Tryz.func100,of_decide_eq_false (by kernel_rfl),rfl⟩
theorem aX9:qs Tryz.prog 101=True:=eq_true ⟨_,Tryz.func101,of_decide_eq_false (by kernel_rfl),rfl⟩
theorem aX8:qs Tryz.prog 102=True:=eq_true ⟨_,Tryz.func102,of_decide_eq_false (by kernel_rfl),rfl⟩
theorem aX7:qs Tryz.prog 103=True:=eq_true ⟨_,Tryz.func103,of_decide_eq_false (by kernel_rfl),rfl⟩
theorem aX6:qs Tryz.prog 104=True:=eq_true ⟨_,Tryz.func104,of_decide_eq_false (by kernel_rfl),rfl⟩
theorem aX5:qs Tryz.prog 105=True:=eq_true ⟨_,Tryz.func105,of_decide_eq_false (by kernel_rfl),rfl⟩
theorem aX4:qs Tryz.prog 106=True:=eq_true ⟨_,Tryz.func106,of_decide_eq_false (by kernel_rfl),rfl⟩
theorem aX3:qs Tryz.prog 107=True:=eq_true ⟨_,Tryz.func107,of_decide_eq_false (by kernel_rfl),rfl⟩
theorem aX2:qs Tryz.prog 108=True:=eq_true ⟨_,Tryz.func108,of_decide_eq_false (by kernel_rfl),rfl⟩
theorem aX1:qs Tryz.prog 109=True:=eq_true ⟨_,Tryz.func109,of_decide_eq_false (by kernel_rfl),rfl⟩
theorem aX0:qs Tryz.prog 110=True:=eq_true ⟨_,Tryz.func110,of_decide_eq_false (by kernel_rfl),rfl⟩
theorem aXZ:qs Tryz.prog 111=True:=eq_true ⟨_,Tryz.func111,of_decide_eq_false (by kernel_rfl),rfl⟩
theorem aXY:qs Tryz.prog 112=True:=eq_true ⟨_,Tryz.func112,of_decide_eq_false (by kernel_rfl),rfl⟩
theorem aXX:qs Tryz.prog 113=True:=eq_true ⟨_,Tryz.func113,of_decide_eq_false (by kernel_rfl),rfl⟩
theorem aXW:qs Tryz.prog 114=True:=eq_true ⟨_,Tryz.func114,of_decide_eq_false (by kernel_rfl),rfl⟩
theorem aXV:qs Tryz.prog 115=True:=eq_true ⟨_,Tryz.func115,of_decide_eq_false (by kernel_rfl),rfl⟩
theorem aXU:qs Tryz.prog 116=True:=eq_true ⟨_,Tryz.func116,of_decide_eq_false (by kernel_rfl),rfl⟩
theorem aXT:qs Tryz.prog 117=True:=eq_true ⟨_,Tryz.func117,of_decide_eq_false (by kernel_rfl),rfl⟩
theorem aXS:qs Tryz.prog 118=True:=eq_true ⟨_,Tryz.func118,of_decide_eq_false (by kernel_rfl),rfl⟩
theorem aXR:qs Tryz.prog 119=True:=eq_true ⟨_,Tryz.func119,of_decide_eq_false (by kernel_rfl),rfl⟩
theorem aXQ:qs Tryz.prog 120=True:=eq_true ⟨_,Tryz.func120,of_decide_eq_false (by kernel_rfl),rfl⟩
theorem aXP:qs Tryz.prog 121=True:=eq_true ⟨_,Tryz.func121,of_decide_eq_false (by kernel_rfl),rfl⟩
theorem aXO:qs Tryz.prog 122=True:=eq_true ⟨_,Tryz.func122,of_decide_eq_false (by kernel_rfl),rfl⟩
theorem aXN:qs Tryz.prog 123=True:=eq_true ⟨_,Tryz.func123,of_decide_eq_false (by kernel_rfl),rfl⟩
theorem aXM:qs Tryz.prog 124=True:=eq_true ⟨_,Tryz.func124,of_decide_eq_false (by kernel_rfl),rfl⟩
theorem aXL:qs Tryz.prog 125=True:=eq_true ⟨_,Tryz.func125,of_decide_eq_false (by kernel_rfl),rfl⟩
theorem aXK:qs Tryz.prog 126=True:=eq_true ⟨_,Tryz.func126,of_decide_eq_false (by kernel_rfl),rfl⟩
theorem aXJ:qs Tryz.prog 127=True:=eq_true ⟨_,Tryz.func127,of_decide_eq_false (by kernel_rfl),rfl⟩
theorem aXI:qs Tryz.prog 128=True:=eq_true ⟨_,Tryz.func128,of_decide_eq_false (by kernel_rfl),rfl⟩
theorem aXH:qs Tryz.prog 129=True:=eq_true ⟨_,Tryz.func129,of_decide_eq_false (by kernel_rfl),rfl⟩
theorem aXG:qs Tryz.prog 130=True:=eq_true ⟨_,Tryz.func130,of_decide_eq_false (by kernel_rfl),rfl⟩
theorem aXF:qs Tryz.prog 131=True:=eq_true ⟨_,Tryz.func131,of_decide_eq_false (by kernel_rfl),rfl⟩
theorem aXE:qs Tryz.prog 132=True:=eq_true ⟨_,Tryz.func132,of_decide_eq_false (by kernel_rfl),rfl⟩
theorem aXD:qs Tryz.prog 133=True:=eq_true ⟨_,Tryz.func133,of_decide_eq_false (by kernel_rfl),rfl⟩
theorem aXC:qs Tryz.prog 134=True:=eq_true ⟨_,Tryz.func134,of_decide_eq_false (by kernel_rfl),rfl⟩
theorem aXB:qs Tryz.prog 135=True:=eq_true ⟨_,Tryz.func135,of_decide_eq_false (by kernel_rfl),rfl⟩
theorem aXA:qs Tryz.prog 136=True:=eq_true ⟨_,Tryz.func136,of_decide_eq_false (by kernel_rfl),rfl⟩
theorem aXz:qs Tryz.prog 137=True:=eq_true ⟨_,Tryz.func137,of_decide_eq_false (by kernel_rfl),rfl⟩
theorem aXy:qs Tryz.prog 138=True:=eq_true ⟨_,Tryz.func138,of_decide_eq_false (by kernel_rfl),rfl⟩
theorem aXx:qs Tryz.prog 139=True:=eq_true ⟨_,Tryz.func139,of_decide_eq_false (by kernel_rfl),rfl⟩
theorem aXw:qs Tryz.prog 140=True:=eq_true ⟨_,Tryz.func140,of_decide_eq_false (by kernel_rfl),rfl⟩
theorem aXv:qs Tryz.prog 141=True:=eq_true ⟨_,Tryz.func141,of_decide_eq_false (by kernel_rfl),rfl⟩
theorem aXu:qs Tryz.prog 142=True:=eq_true ⟨_,Tryz.func142,of_decide_eq_false (by kernel_rfl),rfl⟩
theorem aXt:qs Tryz.prog 143=True:=eq_true ⟨_,Tryz.func143,of_decide_eq_false (by kernel_rfl),rfl⟩
theorem aXs:qs Tryz.prog 144=True:=eq_true ⟨_,Tryz.func144,of_decide_eq_false (by kernel_rfl),rfl⟩
theorem aXr:qs Tryz.prog 145=True:=eq_true ⟨_,Tryz.func145,of_decide_eq_false (by kernel_rfl),rfl⟩
theorem aXq:qs Tryz.prog 146=True:=eq_true ⟨_,Tryz.func146,of_decide_eq_false (by kernel_rfl),rfl⟩
theorem aXp:qs Tryz.prog 147=True:=eq_true ⟨_,Tryz.func147,of_decide_eq_false (by kernel_rfl),rfl⟩
theorem aXo:qs Tryz.prog 148=True:=eq_true ⟨_,Tryz.func148,of_decide_eq_false (by kernel_rfl),rfl⟩
theorem aXn:qs Tryz.prog 149=True:=eq_true ⟨_,Tryz.func149,of_decide_eq_false (by kernel_rfl),rfl⟩
theorem aXm:qs Tryz.prog 150=True:=eq_true ⟨_,Tryz.func150,of_decide_eq_false (by kernel_rfl),rfl⟩
theorem aXl:qs Tryz.prog 151=True:=eq_true ⟨_,Tryz.func151,of_decide_eq_false (by kernel_rfl),rfl⟩
theorem aXk:qs Tryz.prog 152=True:=eq_true ⟨_,Tryz.func152,of_decide_eq_false (by kernel_rfl),rfl⟩
theorem aXj:qs Tryz.prog 153=True:=eq_true ⟨_,Tryz.func153,of_decide_eq_false (by kernel_rfl),rfl⟩
theorem aXi:qs Tryz.prog 154=True:=eq_true ⟨_,Tryz.func154,of_decide_eq_false (by kernel_rfl),rfl⟩
theorem aXh:qs Tryz.prog 155=True:=eq_true ⟨_,Tryz.func155,of_decide_eq_false (by kernel_rfl),rfl⟩
theorem aXg:qs Tryz.prog 156=True:=eq_true ⟨_,Tryz.func156,of_decide_eq_false (by kernel_rfl),rfl⟩
theorem aXf:qs Tryz.prog 157=True:=eq_true ⟨_,Tryz.func157,of_decide_eq_false (by kernel_rfl),rfl⟩
theorem aXe:qs Tryz.prog 158=True:=eq_true ⟨_,Tryz.func158,of_decide_eq_false (by kernel_rfl),rfl⟩
theorem aXd:qs Tryz.prog 159=True:=eq_true ⟨_,Tryz.func159,of_decide_eq_false (by kernel_rfl),rfl⟩
theorem aXc:qs Tryz.prog 160=True:=eq_true ⟨_,Tryz.func160,of_decide_eq_false (by kernel_rfl),rfl⟩
theorem aXb:qs Tryz.prog 161=True:=eq_true ⟨_,Tryz.func161,of_decide_eq_false (by kernel_rfl),rfl⟩
theorem aXa:qs Tryz.prog 162=True:=eq_true ⟨_,Tryz.func162,of_decide_eq_false (by kernel_rfl),rfl⟩
theorem aW9:qs Tryz.prog 163=True:=eq_true ⟨_,Tryz.func163,of_decide_eq_false (by kernel_rfl),rfl⟩
theorem aW8:qs Tryz.prog 164=True:=eq_true ⟨_,Tryz.func164,of_decide_eq_false (by kernel_rfl),rfl⟩
theorem aW7:qs Tryz.prog 165=True:=eq_true ⟨_,Tryz.func165,of_decide_eq_false (by kernel_rfl),rfl⟩
theorem aW6:qs Tryz.prog 166=True:=eq_true ⟨_,Tryz.func166,of_decide_eq_false (by kernel_rfl),rfl⟩
theorem aW5:qs Tryz.prog 167=True:=eq_true ⟨_,Tryz.func167,of_decide_eq_false (by kernel_rfl),rfl⟩
theorem aW4:qs Tryz.prog 168=True:=eq_true ⟨_,Tryz.func168,of_decide_eq_false (by kernel_rfl),rfl⟩
theorem aW3:qs Tryz.prog 169=True:=eq_true ⟨_,Tryz.func169,of_decide_eq_false (by kernel_rfl),rfl⟩
theorem aW2:qs Tryz.prog 170=True:=eq_true ⟨_,Tryz.func170,of_decide_eq_false (by kernel_rfl),rfl⟩
theorem aW1:qs Tryz.prog 171=True:=eq_true ⟨_,Tryz.func171,of_decide_eq_false (by kernel_rfl),rfl⟩
theorem aW0:qs Tryz.prog 172=True:=eq_true ⟨_,Tryz.func172,of_decide_eq_false (by kernel_rfl),rfl⟩
theorem aWZ:qs Tryz.prog 173=True:=eq_true ⟨_,Tryz.func173,of_decide_eq_false (by kernel_rfl),rfl⟩
theorem aWY:qs Tryz.prog 174=True:=eq_true ⟨_,Tryz.func174,of_decide_eq_false (by kernel_rfl),rfl⟩
theorem aWX:qs Tryz.prog 175=True:=eq_true ⟨_,Tryz.func175,of_decide_eq_false (by kernel_rfl),rfl⟩
theorem aWW:qs Tryz.prog 176=True:=eq_true ⟨_,Tryz.func176,of_decide_eq_false (by kernel_rfl),rfl⟩
theorem aWV:qs Tryz.prog 177=True:=eq_true ⟨_,Tryz.func177,of_decide_eq_false (by kernel_rfl),rfl⟩
theorem aWU:qs Tryz.prog 178=True:=eq_true ⟨_,Tryz.func178,of_decide_eq_false (by kernel_rfl),rfl⟩
theorem aWT:qs Tryz.prog 179=True:=eq_true ⟨_,Tryz.func179,of_decide_eq_false (by kernel_rfl),rfl⟩
theorem aWS:qs Tryz.prog 180=True:=eq_true ⟨_,Tryz.func180,of_decide_eq_false (by kernel_rfl),rfl⟩
theorem aWR:qs Tryz.prog 181=True:=eq_true ⟨_,Tryz.func181,of_decide_eq_false (by kernel_rfl),rfl⟩
theorem aWQ:qs Tryz.prog 182=True:=eq_true ⟨_,Tryz.func182,of_decide_eq_false (by kernel_rfl),rfl⟩
theorem aWP:qs Tryz.prog 183=True:=eq_true ⟨_,Tryz.func183,of_decide_eq_false (by kernel_rfl),rfl⟩
theorem aWO:qs Tryz.prog 184=True:=eq_true ⟨_,Tryz.func184,of_decide_eq_false (by kernel_rfl),rfl⟩
theorem aWN:qs Tryz.prog 185=True:=eq_true ⟨_,Tryz.func185,of_decide_eq_false (by kernel_rfl),rfl⟩
theorem aWM:qs Tryz.prog 186=True:=eq_true ⟨_,Tryz.func186,of_decide_eq_false (by kernel_rfl),rfl⟩
theorem aWL:qs Tryz.prog 187=True:=eq_true ⟨_,Tryz.func187,of_decide_eq_false (by kernel_rfl),rfl⟩
theorem aWK:qs Tryz.prog 188=True:=eq_true ⟨_,Tryz.func188,of_decide_eq_false (by kernel_rfl),rfl⟩
theorem aWJ:qs Tryz.prog 189=True:=eq_true ⟨_,Tryz.func189,of_decide_eq_false (by kernel_rfl),rfl⟩
theorem aWI:qs Tryz.prog 190=True:=eq_true ⟨_,Tryz.func190,of_decide_eq_false (by kernel_rfl),rfl⟩
theorem aWH:qs Tryz.prog 191=True:=eq_true ⟨_,Tryz.func191,of_decide_eq_false (by kernel_rfl),rfl⟩
theorem aWG:qs Tryz.prog 192=True:=eq_true ⟨_,Tryz.func192,of_decide_eq_false (by kernel_rfl),rfl⟩
theorem aWF:qs Tryz.prog 193=True:=eq_true ⟨_,Tryz.func193,of_decide_eq_false (by kernel_rfl),rfl⟩
theorem aWE:qs Tryz.prog 194=True:=eq_true ⟨_,Tryz.func194,of_decide_eq_false (by kernel_rfl),rfl⟩
theorem aWD:qs Tryz.prog 195=True:=eq_true ⟨_,Tryz.func195,of_decide_eq_false (by kernel_rfl),rfl⟩
theorem aWC:qs Tryz.prog 196=True:=eq_true ⟨_,Tryz.func196,of_decide_eq_false (by kernel_rfl),rfl⟩
theorem aWB:qs Tryz.prog 197=True:=eq_true ⟨_,Tryz.func197,of_decide_eq_false (by kernel_rfl),rfl⟩
theorem aWA:qs Tryz.prog 198=True:=eq_true ⟨_,Tryz.func198,of_decide_eq_false (by kernel_rfl),rfl⟩
theorem aWz:qs Tryz.prog 199=True:=eq_true ⟨_,Tryz.func199,of_decide_eq_false (by kernel_rfl),rfl⟩
theorem aWy:qs Tryz.prog 200=True:=eq_true ⟨_,Tryz.func200,of_decide_eq_false (by kernel_rfl),rfl⟩
theorem aWx:qs Tryz.prog 201=True:=eq_true ⟨_,Tryz.func201,of_decide_eq_false (by kernel_rfl),rfl⟩
theorem aWw:qs Tryz.prog 202=True:=eq_true ⟨_,Tryz.func202,of_decide_eq_false (by kernel_rfl),rfl⟩
theorem aWv:qs Tryz.prog 203=True:=eq_true ⟨_,Tryz.func203,of_decide_eq_false (by kernel_rfl),rfl⟩
theorem aWu:qs Tryz.prog 204=True:=eq_true ⟨_,Tryz.func204,of_decide_eq_false (by kernel_rfl),rfl⟩
theorem aWt:qs Tryz.prog 205=True:=eq_true ⟨_,Tryz.func205,of_decide_eq_false (by kernel_rfl),rfl⟩
theorem aWs:qs Tryz.prog 206=True:=eq_true ⟨_,Tryz.func206,of_decide_eq_false (by kernel_rfl),rfl⟩
theorem aWr:qs Tryz.prog 207=True:=eq_true ⟨_,Tryz.func207,of_decide_eq_false (by kernel_rfl),rfl⟩
theorem aWq:qs Tryz.prog 208=True:=eq_true ⟨_,Tryz.func208,of_decide_eq_false (by kernel_rfl),rfl⟩
theorem aWp:qs Tryz.prog 209=True:=eq_true ⟨_,Tryz.func209,of_decide_eq_false (by kernel_rfl),rfl⟩
theorem aWo:qs Tryz.prog 210=True:=eq_true ⟨_,Tryz.func210,of_decide_eq_false (by kernel_rfl),rfl⟩
theorem aWn:qs Tryz.prog 211=True:=eq_true ⟨_,Tryz.func211,of_decide_eq_false (by kernel_rfl),rfl⟩
theorem aWm:qs Tryz.prog 212=True:=eq_true ⟨_,Tryz.func212,of_decide_eq_false (by kernel_rfl),rfl⟩
theorem aWl:qs Tryz.prog 213=True:=eq_true ⟨_,Tryz.func213,of_decide_eq_false (by kernel_rfl),rfl⟩
theorem aWk:qs Tryz.prog 214=True:=eq_true ⟨_,Tryz.func214,of_decide_eq_false (by kernel_rfl),rfl⟩
theorem aWj:qs Tryz.prog 215=True:=eq_true ⟨_,Tryz.func215,of_decide_eq_false (by kernel_rfl),rfl⟩
theorem aWi:qs Tryz.prog 216=True:=eq_true ⟨_,Tryz.func216,of_decide_eq_false (by kernel_rfl),rfl⟩
theorem aWh:qs Tryz.prog 217=True:=eq_true ⟨_,Tryz.func217,of_decide_eq_false (by kernel_rfl),rfl⟩
theorem aWg:qs Tryz.prog 218=True:=eq_true ⟨_,Tryz.func218,of_decide_eq_false (by kernel_rfl),rfl⟩
theorem aWf:qs Tryz.prog 219=True:=eq_true ⟨_,Tryz.func219,of_decide_eq_false (by kernel_rfl),rfl⟩
theorem aWe:qs Tryz.prog 220=True:=eq_true ⟨_,Tryz.func220,of_decide_eq_false (by kernel_rfl),rfl⟩
theorem aWd:qs Tryz.prog 221=True:=eq_true ⟨_,Tryz.func221,of_decide_eq_false (by kernel_rfl),rfl⟩
theorem aWc:qs Tryz.prog 222=True:=eq_true ⟨_,Tryz.func222,of_decide_eq_false (by kernel_rfl),rfl⟩
theorem aWb:qs Tryz.prog 223=True:=eq_true ⟨_,Tryz.func223,of_decide_eq_false (by kernel_rfl),rfl⟩
theorem aWa:qs Tryz.prog 224=True:=eq_true ⟨_,Tryz.func224,of_decide_eq_false (by kernel_rfl),rfl⟩
theorem aV9:qs Tryz.prog 225=True:=eq_true ⟨_,Tryz.func225,of_decide_eq_false (by kernel_rfl),rfl⟩
theorem aV8:qs Tryz.prog 226=True:=eq_true ⟨_,Tryz.func226,of_decide_eq_false (by kernel_rfl),rfl⟩
theorem aV7:qs Tryz.prog 227=True:=eq_true ⟨_,Tryz.func227,of_decide_eq_false (by kernel_rfl),rfl⟩
theorem aV6:qs Tryz.prog 228=True:=eq_true ⟨_,Tryz.func228,of_decide_eq_false (by kernel_rfl),rfl⟩
theorem aV5:qs Tryz.prog 229=True:=eq_true ⟨_,Tryz.func229,of_decide_eq_false (by kernel_rfl),rfl⟩
theorem aV4:qs Tryz.prog 230=True:=eq_true ⟨_,Tryz.func230,of_decide_eq_false (by kernel_rfl),rfl⟩
theorem aV3:qs Tryz.prog 231=True:=eq_true ⟨_,Tryz.func231,of_decide_eq_false (by kernel_rfl),rfl⟩
theorem aV2:qs Tryz.prog 232=True:=eq_true ⟨_,Tryz.func232,of_decide_eq_false (by kernel_rfl),rfl⟩
theorem aV1:qs Tryz.prog 233=True:=eq_true ⟨_,Tryz.func233,of_decide_eq_false (by kernel_rfl),rfl⟩
theorem aV0:qs Tryz.prog 234=True:=eq_true ⟨_,Tryz.func234,of_decide_eq_false (by kernel_rfl),rfl⟩
theorem aVZ:qs Tryz.prog 235=True:=eq_true ⟨_,Tryz.func235,of_decide_eq_false (by kernel_rfl),rfl⟩
theorem aVY:qs Tryz.prog 236=True:=eq_true ⟨_,Tryz.func236,of_decide_eq_false (by kernel_rfl),rfl⟩
theorem aVX:qs Tryz.prog 237=True:=eq_true ⟨_,Tryz.func237,of_decide_eq_false (by kernel_rfl),rfl⟩
theorem aVW:qs Tryz.prog 238=True:=eq_true ⟨_,Tryz.func238,of_decide_eq_false (by kernel_rfl),rfl⟩
theorem aVV:qs Tryz.prog 239=True:=eq_true ⟨_,Tryz.func239,of_decide_eq_false (by kernel_rfl),rfl⟩
theorem aVU:qs Tryz.prog 240=True:=eq_true ⟨_,Tryz.func240,of_decide_eq_false (by kernel_rfl),rfl⟩
theorem aVT:qs Tryz.prog 241=True:=eq_true ⟨_,Tryz.func241,of_decide_eq_false (by kernel_rfl),rfl⟩
theorem aVS:qs Tryz.prog 242=True:=eq_true ⟨_,Tryz.func242,of_decide_eq_false (by kernel_rfl),rfl⟩
theorem aVR:qs Tryz.prog 243=True:=eq_true ⟨_,Tryz.func243,of_decide_eq_false (by kernel_rfl),rfl⟩
theorem aVQ:qs Tryz.prog 244=True:=eq_true ⟨_,Tryz.func244,of_decide_eq_false (by kernel_rfl),rfl⟩
theorem aVP:qs Tryz.prog 245=True:=eq_true ⟨_,Tryz.func245,of_decide_eq_false (by kernel_rfl),rfl⟩
theorem aVO:qs Tryz.prog 246=True:=eq_true ⟨_,Tryz.func246,of_decide_eq_false (by kernel_rfl),rfl⟩
theorem aVN:qs Tryz.prog 247=True:=eq_true ⟨_,Tryz.func247,of_decide_eq_false (by kernel_rfl),rfl⟩
theorem aVM:qs Tryz.prog 248=True:=eq_true ⟨_,Tryz.func248,of_decide_eq_false (by kernel_rfl),rfl⟩
theorem aVL:qs Tryz.prog 249=True:=eq_true ⟨_,Tryz.func249,of_decide_eq_false (by kernel_rfl),rfl⟩
theorem aVK:qs Tryz.prog 250=True:=eq_true ⟨_,Tryz.func250,of_decide_eq_false (by kernel_rfl),rfl⟩
theorem aVJ:qs Tryz.prog 251=True:=eq_true ⟨_,Tryz.func251,of_decide_eq_false (by kernel_rfl),rfl⟩
theorem aVI:qs Tryz.prog 252=True:=eq_true ⟨_,Tryz.func252,of_decide_eq_false (by kernel_rfl),rfl⟩
theorem aVH:qs Tryz.prog 253=True:=eq_true ⟨_,Tryz.func253,of_decide_eq_false (by kernel_rfl),rfl⟩
theorem aVG:qs Tryz.prog 254=True:=eq_true ⟨_,Tryz.func254,of_decide_eq_false (by kernel_rfl),rfl⟩
theorem aVF:qs Tryz.prog 255=True:=eq_true ⟨_,Tryz.func255,of_decide_eq_false (by kernel_rfl),rfl⟩
theorem aVE:qs Tryz.prog 256=True:=eq_true ⟨_,Tryz.func256,of_decide_eq_false (by kernel_rfl),rfl⟩
theorem aVD:qs Tryz.prog 257=True:=eq_true ⟨_,Tryz.func257,of_decide_eq_false (by kernel_rfl),rfl⟩
theorem aVC:qs Tryz.prog 258=True:=eq_true ⟨_,Tryz.func258,of_decide_eq_false (by kernel_rfl),rfl⟩
theorem aVB:qs Tryz.prog 259=True:=eq_true ⟨_,Tryz.func259,of_decide_eq_false (by kernel_rfl),rfl⟩
theorem aVA:qs Tryz.prog 260=True:=eq_true ⟨_,Tryz.func260,of_decide_eq_false (by kernel_rfl),rfl⟩
theorem aVz:qs Tryz.prog 261=True:=eq_true ⟨_,Tryz.func261,of_decide_eq_false (by kernel_rfl),rfl⟩
theorem aVy:qs Tryz.prog 262=True:=eq_true ⟨_,Tryz.func262,of_decide_eq_false (by kernel_rfl),rfl⟩
theorem aVx:qs Tryz.prog 263=True:=eq_true ⟨_,Tryz.func263,of_decide_eq_false (by kernel_rfl),rfl⟩
theorem aVw:qs Tryz.prog 264=True:=eq_true ⟨_,Tryz.func264,of_decide_eq_false (by kernel_rfl),rfl⟩
theorem aVv:qs Tryz.prog 265=True:=eq_true ⟨_,Tryz.func265,of_decide_eq_false (by kernel_rfl),rfl⟩
theorem aVu:qs Tryz.prog 266=True:=eq_true ⟨_,Tryz.func266,of_decide_eq_false (by kernel_rfl),rfl⟩
theorem aVt:qs Tryz.prog 267=True:=eq_true ⟨_,Tryz.func267,of_decide_eq_false (by kernel_rfl),rfl⟩
theorem aVs:qs Tryz.prog 268=True:=eq_true ⟨_,Tryz.func268,of_decide_eq_false (by kernel_rfl),rfl⟩
theorem aVr:qs Tryz.prog 269=True:=eq_true ⟨_,Tryz.func269,of_decide_eq_false (by kernel_rfl),rfl⟩
theorem aVq:qs Tryz.prog 270=True:=eq_true ⟨_,Tryz.func270,of_decide_eq_false (by kernel_rfl),rfl⟩
theorem aVp:qs Tryz.prog 271=True:=eq_true ⟨_,Tryz.func271,of_decide_eq_false (by kernel_rfl),rfl⟩
theorem aVo:qs Tryz.prog 272=True:=eq_true ⟨_,Tryz.func272,of_decide_eq_false (by kernel_rfl),rfl⟩
theorem aVn:qs Tryz.prog 273=True:=eq_true ⟨_,Tryz.func273,of_decide_eq_false (by kernel_rfl),rfl⟩
theorem aVm:qs Tryz.prog 274=True:=eq_true ⟨_,Tryz.func274,of_decide_eq_false (by kernel_rfl),rfl⟩
theorem aVl:qs Tryz.prog 275=True:=eq_true ⟨_,Tryz.func275,of_decide_eq_false (by kernel_rfl),rfl⟩
theorem aVk:qs Tryz.prog 276=True:=eq_true ⟨_,Tryz.func276,of_decide_eq_false (by kernel_rfl),rfl⟩
theorem aVj:qs Tryz.prog 277=True:=eq_true ⟨_,Tryz.func277,of_decide_eq_false (by kernel_rfl),rfl⟩
theorem aVi:qs Tryz.prog 278=True:=eq_true ⟨_,Tryz.func278,of_decide_eq_false (by kernel_rfl),rfl⟩
theorem aVh:qs Tryz.prog 279=True:=eq_true ⟨_,Tryz.func279,of_decide_eq_false (by kernel_rfl),rfl⟩
theorem aVg:qs Tryz.prog 280=True:=eq_true ⟨_,Tryz.func280,of_decide_eq_false (by kernel_rfl),rfl⟩
theorem aVf:qs Tryz.prog 281=True:=eq_true ⟨_,Tryz.func281,of_decide_eq_false (by kernel_rfl),rfl⟩
theorem aVe:qs Tryz.prog 282=True:=eq_true ⟨_,Tryz.func282,of_decide_eq_false (by kernel_rfl),rfl⟩
theorem aVd:qs Tryz.prog 283=True:=eq_true ⟨_,Tryz.func283,of_decide_eq_false (by kernel_rfl),rfl⟩
theorem aVc:qs Tryz.prog 284=True:=eq_true ⟨_,Tryz.func284,of_decide_eq_false (by kernel_rfl),rfl⟩
theorem aVb:qs Tryz.prog 285=True:=eq_true ⟨_,Tryz.func285,of_decide_eq_false (by kernel_rfl),rfl⟩
theorem aVa:qs Tryz.prog 286=True:=eq_true ⟨_,Tryz.func286,of_decide_eq_false (by kernel_rfl),rfl⟩
theorem aU9:qs Tryz.prog 287=True:=eq_true ⟨_,Tryz.func287,of_decide_eq_false (by kernel_rfl),rfl⟩
theorem aU8:qs Tryz.prog 288=True:=eq_true ⟨_,Tryz.func288,of_decide_eq_false (by kernel_rfl),rfl⟩
theorem aU7:qs Tryz.prog 289=True:=eq_true ⟨_,Tryz.func289,of_decide_eq_false (by kernel_rfl),rfl⟩
theorem aU6:qs Tryz.prog 290=True:=eq_true ⟨_,Tryz.func290,of_decide_eq_false (by kernel_rfl),rfl⟩
theorem aU5:qs Tryz.prog 291=True:=eq_true ⟨_,Tryz.func291,of_decide_eq_false (by kernel_rfl),rfl⟩
theorem aU4:qs Tryz.prog 292=True:=eq_true ⟨_,Tryz.func292,of_decide_eq_false (by kernel_rfl),rfl⟩
theorem aU3:qs Tryz.prog 293=True:=eq_true ⟨_,Tryz.func293,of_decide_eq_false (by kernel_rfl),rfl⟩
theorem aU2:qs Tryz.prog 294=True:=eq_true ⟨_,Tryz.func294,of_decide_eq_false (by kernel_rfl),rfl⟩
theorem aU1:qs Tryz.prog 295=True:=eq_true ⟨_,Tryz.func295,of_decide_eq_false (by kernel_rfl),rfl⟩
theorem aU0:qs Tryz.prog 296=True:=eq_true ⟨_,Tryz.func296,of_decide_eq_false (by kernel_rfl),rfl⟩
theorem aUZ:qs Tryz.prog 297=True:=eq_true ⟨_,Tryz.func297,of_decide_eq_false (by kernel_rfl),rfl⟩
theorem aUY:qs Tryz.prog 298=True:=eq_true ⟨_,Tryz.func298,of_decide_eq_false (by kernel_rfl),rfl⟩
theorem aUX:qs Tryz.prog 299=True:=eq_true ⟨_,Tryz.func299,of_decide_eq_false (by kernel_rfl),rfl⟩
theorem aUW:qs Tryz.prog 300=True:=eq_true ⟨_,Tryz.func300,of_decide_eq_false (by kernel_rfl),rfl⟩
theorem aUV:qs Tryz.prog 301=True:=eq_true ⟨_,Tryz.func301,of_decide_eq_false (by kernel_rfl),rfl⟩
theorem aUU:qs Tryz.prog 302=True:=eq_true ⟨_,Tryz.func302,of_decide_eq_false (by kernel_rfl),rfl⟩
theorem aUT:qs Tryz.prog 303=True:=eq_true ⟨_,Tryz.func303,of_decide_eq_false (by kernel_rfl),rfl⟩
theorem aUS:qs Tryz.prog 304=True:=eq_true ⟨_,Tryz.func304,of_decide_eq_false (by kernel_rfl),rfl⟩
theorem aUR:qs Tryz.prog 305=True:=eq_true ⟨_,Tryz.func305,of_decide_eq_false (by kernel_rfl),rfl⟩
theorem aUQ:qs Tryz.prog 306=True:=eq_true ⟨_,Tryz.func306,of_decide_eq_false (by kernel_rfl),rfl⟩
theorem aUP:qs Tryz.prog 307=True:=eq_true ⟨_,Tryz.func307,of_decide_eq_false (by kernel_rfl),rfl⟩
theorem aUO:qs Tryz.prog 308=True:=eq_true ⟨_,Tryz.func308,of_decide_eq_false (by kernel_rfl),rfl⟩
theorem aUN:qs Tryz.prog 309=True:=eq_true ⟨_,Tryz.func309,of_decide_eq_false (by kernel_rfl),rfl⟩
theorem aUM:qs Tryz.prog 310=True:=eq_true ⟨_,Tryz.func310,of_decide_eq_false (by kernel_rfl),rfl⟩
theorem aUL:qs Tryz.prog 311=True:=eq_true ⟨_,Tryz.func311,of_decide_eq_false (by kernel_rfl),rfl⟩
theorem aUK:qs Tryz.prog 312=True:=eq_true ⟨_,Tryz.func312,of_decide_eq_false (by kernel_rfl),rfl⟩
theorem aUJ:qs Tryz.prog 313=True:=eq_true ⟨_,Tryz.func313,of_decide_eq_false (by kernel_rfl),rfl⟩
theorem aUI:qs Tryz.prog 314=True:=eq_true ⟨_,Tryz.func314,of_decide_eq_false (by kernel_rfl),rfl⟩
theorem aUH:qs Tryz.prog 315=True:=eq_true ⟨_,Tryz.func315,of_decide_eq_false (by kernel_rfl),rfl⟩
theorem aUG:qs Tryz.prog 316=True:=eq_true ⟨_,Tryz.func316,of_decide_eq_false (by kernel_rfl),rfl⟩
theorem aUF:qs Tryz.prog 317=True:=eq_true ⟨_,Tryz.func317,of_decide_eq_false (by kernel_rfl),rfl⟩
theorem aUE:qs Tryz.prog 318=True:=eq_true ⟨_,Tryz.func318,of_decide_eq_false (by kernel_rfl),rfl⟩
theorem aUD:qs Tryz.prog 319=True:=eq_true ⟨_,Tryz.func319,of_decide_eq_false (by kernel_rfl),rfl⟩
theorem aUC:qs Tryz.prog 320=True:=eq_true ⟨_,Tryz.func320,of_decide_eq_false (by kernel_rfl),rfl⟩
theorem aUB:qs Tryz.prog 321=True:=eq_true ⟨_,Tryz.func321,of_decide_eq_false (by kernel_rfl),rfl⟩
theorem aUA:qs Tryz.prog 322=True:=eq_true ⟨_,Tryz.func322,of_decide_eq_false (by kernel_rfl),rfl⟩
theorem aUz:qs Tryz.prog 323=True:=eq_true ⟨_,Tryz.func323,of_decide_eq_false (by kernel_rfl),rfl⟩
theorem aUy:qs Tryz.prog 324=True:=eq_true ⟨_,Tryz.func324,of_decide_eq_false (by kernel_rfl),rfl⟩
theorem aUx:qs Tryz.prog 325=True:=eq_true ⟨_,Tryz.func325,of_decide_eq_false (by kernel_rfl),rfl⟩
theorem aUw:qs Tryz.prog 326=True:=eq_true ⟨_,Tryz.func326,of_decide_eq_false (by kernel_rfl),rfl⟩
theorem aUv:qs Tryz.prog 327=True:=eq_true ⟨_,Tryz.func327,of_decide_eq_false (by kernel_rfl),rfl⟩
theorem aUu:qs Tryz.prog 328=True:=eq_true ⟨_,Tryz.func328,of_decide_eq_false (by kernel_rfl),rfl⟩
theorem aUt:qs Tryz.prog 329=True:=eq_true ⟨_,Tryz.func329,of_decide_eq_false (by kernel_rfl),rfl⟩
theorem aUs:qs Tryz.prog 330=True:=eq_true ⟨_,Tryz.func330,of_decide_eq_false (by kernel_rfl),rfl⟩
theorem aUr:qs Tryz.prog 331=True:=eq_true ⟨_,Tryz.func331,of_decide_eq_false (by kernel_rfl),rfl⟩
theorem aUq:qs Tryz.prog 354=True:=eq_true ⟨_,Tryz.func354,of_decide_eq_false (by kernel_rfl),rfl⟩
attribute [go_sem] ty1 aSi aM0 azN ao5 aSg aSh ty2 aSf aMB
attribute [go_sem] avy anw aSd aSe ty3 aSc aMc avd anh aSa
attribute [go_sem] aSb ty4 aR9 aLH au2 am4 aR7 aR8 ty5 aR6
attribute [go_sem] aLl auU amW aR4 aR5 ty6 aR3 aKT auK amM
attribute [go_sem] aR1 aR2 ty7 aR0 aKo auz amz aRY aRZ aYj
attribute [go_sem] bfV aYi bfU aYh bfT aYg bfS blg ty8 aRX
attribute [go_sem] aJT auo aml aRV aRW aYf bfR aYe bfQ aYd
attribute [go_sem] bfP aYc bfO blf ty9 aRU aJr aue amb aRS
attribute [go_sem] aRT bjO aM9 aD0 aqy akq aM7 aM8 bjN aM6
attribute [go_sem] aDv aqn akf aM4 aM5 bjM aM3 aC3 aqd aj5
attribute [go_sem] aM1 aM2 bjL aMZ ayX aoN aiI aMX aMY bjK
attribute [go_sem] aMW ays aoC aix aMU aMV bfE bjJ aMT ax0
attribute [go_sem] aos ain aMR aMS bfD bjI aMQ axy aoh aid
attribute [go_sem] aMO aMP aP5 aTr aP4 aTq bid bjH aMN aw6
attribute [go_sem] an6 ah3 aML aMM aP3 aTp aP2 aTo bic bjG
attribute [go_sem] aMK awe anO ahL aMI aMJ bjF aMH avV anH
attribute [go_sem] ahE aMF aMG bfC bjE aME avz anx ahw aMC
attribute [go_sem] aMD aP1 aTn aP0 aTm bib bjD aMA avl anq
attribute [go_sem] ahr aMy aMz aPZ aTl aPY aTk bia bjC aMx
attribute [go_sem] avk anp ahq aMv aMw bjB aMu avj ano ahp
attribute [go_sem] aMs aMt bjA aMr avi ann aho aMp aMq bjz
attribute [go_sem] aMo avh anm ahn aMm aMn bfB bjy aMl avg
attribute [go_sem] anl ahm aMj aMk aPX aTj bh9 bjx aMi avf
attribute [go_sem] ank ahl aMg aMh aPW aTi bh8 bjw aMf ave
attribute [go_sem] ani ahk aMd aMe aPV aTh aPU aTg bh7 bjv
attribute [go_sem] aMb avc ang ahj aL9 aMa aPT aTf aPS aTe
attribute [go_sem] bh6 bju aL8 avb ane ahi aL6 aL7 aPR aTd
attribute [go_sem] aPQ aTc bh5 bjt aL5 ava anc ahh aL3 aL4
attribute [go_sem] aPP aTb aPO aTa bh4 bjs aL2 au9 anb ahg
attribute [go_sem] aL0 aL1 bjr aLZ au8 ana ahf aLX aLY bjq
attribute [go_sem] aLW au7 am9 ahe aLU aLV bjp aLT au6 am8
attribute [go_sem] ahd aLR aLS bjo aLQ au5 am7 ahc aLO aLP
attribute [go_sem] bjn aLN au4 am6 ahb aLL aLM bjm aLK au3
attribute [go_sem] am5 aha aLI aLJ bjl aLG au1 am3 ag9 aLE
attribute [go_sem] aLF bjk aLD au0 am2 ag8 aLB aLC bjj aLA
attribute [go_sem] auZ am1 ag7 aLy aLz bji aLx auY am0 ag6
attribute [go_sem] aLv aLw bjh aLu auX amZ ag5 aLs aLt bjg
attribute [go_sem] aLr auW amY ag4 aLp aLq bjf aLo auV amX
attribute [go_sem] ag3 aLm aLn bje aLk auT amV ag2 aLi aLj
attribute [go_sem] bjd aLh auS amU ag1 aLf aLg bjc aLe auR
attribute [go_sem] amT ag0 aLc aLd bjb aLb auQ amS agZ aK9
attribute [go_sem] aLa bja aK8 auP amR agY aK6 aK7 bi9 aK5
attribute [go_sem] auO amQ agX aK3 aK4 bi8 aK2 auN amP agW
attribute [go_sem] aK0 aK1 bi7 aKZ auM amO agV aKX aKY bi6
attribute [go_sem] aKW auL amN agU aKU aKV bi5 aKS auJ amL
attribute [go_sem] agT aKQ aKR bi4 aKP auI amK agS aKN aKO
attribute [go_sem] bi3 aKM auH amJ agR aKK aKL bi2 aKJ auG
attribute [go_sem] amI agQ aKH aKI bi1 aKG auF amH agP aKE
attribute [go_sem] aKF bfA bi0 aKD auE amF agO aKB aKC aPN
attribute [go_sem] aS9 aPM aS8 bh3 biZ aKA auD amD agN aKy
attribute [go_sem] aKz aPL aS7 aPK aS6 bh2 biY aKx auC amC
attribute [go_sem] agM aKv aKw biX aKu auB amB agL aKs aKt
attribute [go_sem] biW aKr auA amA agK aKp aKq biV aKn auy
attribute [go_sem] amy agJ aKl aKm biU aKk aux amx agI aKi
attribute [go_sem] aKj biT aKh auw amw agH aKf aKg biS aKe
attribute [go_sem] auv amv agG aKc aKd aPJ aS5 bh1 biR aKb
attribute [go_sem] auu amt agF aJ9 aKa aPI aS4 aPH aS3 bh0
attribute [go_sem] biQ aJ8 aut ams agE aJ6 aJ7 aPG aS2 aPF
attribute [go_sem] aS1 bhZ biP aJ5 aus amq agD aJ3 aJ4 aPE
attribute [go_sem] aS0 aPD aSZ bhY biO aJ2 aur amp agC aJ0
attribute [go_sem] aJ1 aPC aSY aPB aSX bhX biN aJZ auq amo
attribute [go_sem] agB aJX aJY biM aJW aup amm agA aJU aJV
attribute [go_sem] aPA aSW aPz aSV bhW biL aJS aun amk agz
attribute [go_sem] aJQ aJR aPy aSU aPx aST bhV biK aJP aum
attribute [go_sem] amj agy aJN aJO biJ aJM aul ami agx aJK
attribute [go_sem] aJL biI aJJ auk amh agw aJH aJI biH aJG
attribute [go_sem] auj amg agv aJE aJF biG aJD aui amf agu
attribute [go_sem] aJB aJC biF aJA auh ame agt aJy aJz biE
attribute [go_sem] aJx aug amd ags aJv aJw biD aJu auf amc
attribute [go_sem] agr aJs aJt bcG aEr aqH akz aes aEp aEq
attribute [go_sem] bcF aEo aqG aky aer aEm aEn bcE aEl aqF
attribute [go_sem] akx aeq aEj aEk bcD aEi aqE akw aep aEg
attribute [go_sem] aEh bcC aEf aqD akv aeo aEd aEe aSD bcB
attribute [go_sem] aEc aqC aku aen aEa aEb aGw aN8 aGv aN7
attribute [go_sem] aY0 bcA aD9 aqB akt aem aD7 aD8 aGu aN6
attribute [go_sem] aGt aN5 aYZ bcz aD6 aqA aks ael aD4 aD5
attribute [go_sem] aSC bcy aD3 aqz akr aek aD1 aD2 aGs aN4
attribute [go_sem] aGr aN3 aYY bcx aDZ aqx akp aej aDX aDY
attribute [go_sem] aGq aN2 aGp aN1 aYX bcw aDW aqw ako aei
attribute [go_sem] aDU aDV bcv aDT aqv akn aeh aDR aDS bcu
attribute [go_sem] aDQ aqu akm aeg aDO aDP bct aDN aqt akl
attribute [go_sem] aef aDL aDM bcs aDK aqs akk aee aDI aDJ
attribute [go_sem] bcr aDH aqr akj aed aDF aDG aGo aN0 aGn
attribute [go_sem] aNZ aGm aNY aYW bcq aDE aqq aki aec aDC
attribute [go_sem] aDD aGl aNX aGk aNW aGj aNV aYV bcp aDB
attribute [go_sem] aqp akh aeb aDz aDA bco aDy aqo akg aea
attribute [go_sem] aDw aDx bcn aDu aqm ake ad9 aDs aDt bcm
attribute [go_sem] aDr aql akd ad8 aDp aDq bcl aDo aqk akc
attribute [go_sem] ad7 aDm aDn bck aDl aqj akb ad6 aDj aDk
attribute [go_sem] bcj aDi aqi aka ad5 aDg aDh aGi aNU aGh
attribute [go_sem] aNT aYU bci aDf aqh aj9 ad4 aDd aDe aGg
attribute [go_sem] aNS aGf aNR aYT bch aDc aqg aj8 ad3 aDa
attribute [go_sem] aDb bcg aC9 aqf aj7 ad2 aC7 aC8 bcf aC6
attribute [go_sem] aqe aj6 ad1 aC4 aC5 bce aC2 aqc aj4 ad0
attribute [go_sem] aC0 aC1 bcd aCZ aqb aj3 adY aCX aCY bcc
attribute [go_sem] aCW aqa aj2 adX aCU aCV bcb aCT ap9 aj1
attribute [go_sem] adW aCR aCS bca aCQ ap8 aj0 adV aCO aCP
attribute [go_sem] bb9 aCN ap7 ajZ adU aCL aCM bb8 aCK ap6
attribute [go_sem] ajY adT aCI aCJ bb7 aCH ap5 ajX adR aCF
attribute [go_sem] aCG bb6 aCE ap4 ajW adQ aCC aCD bb5 aCB
attribute [go_sem] ap3 ajV adP aCz aCA bb4 aCy ap2 ajU adO
attribute [go_sem] aCw aCx bb3 aCv ap1 ajT adN aCt aCu bb2
attribute [go_sem] aCs ap0 ajS adL aCq aCr bb1 aCp apZ ajR
attribute [go_sem] adK aCn aCo bb0 aCm apY ajQ adJ aCk aCl
attribute [go_sem] bbZ aCj apX ajP adI aCh aCi bbY aCg apW
attribute [go_sem] ajO adH aCe aCf bbX aCd apV ajN adG aCb
attribute [go_sem] aCc bbW aCa apU ajM adF aB8 aB9 bbV aB7
attribute [go_sem] apT ajL adE aB5 aB6 bbU aB4 apS ajK adD
attribute [go_sem] aB2 aB3 bbT aB1 apR ajJ adC aBZ aB0 bbS
attribute [go_sem] aBY apQ ajI adB aBW aBX bbR aBV apP ajH
attribute [go_sem] adA aBT aBU bbQ aBS apO ajG adz aBQ aBR
attribute [go_sem] bbP aBP apN ajF ady aBN aBO bbO aBM apM
attribute [go_sem] ajE adx aBK aBL bbN aBJ apL ajD adw aBH
attribute [go_sem] aBI bbM aBG apK ajC adv aBE aBF bbL aBD
attribute [go_sem] apJ ajB adu aBB aBC bbK aBA apI ajA adt
attribute [go_sem] aBy aBz bbJ aBx apH ajz ads aBv aBw bbI
attribute [go_sem] aBu apG ajy adr aBs aBt bbH aBr apF ajx
attribute [go_sem] adq aBp aBq bbG aBo apD ajw adp aBm aBn
attribute [go_sem] bbF aBl apC ajv ado aBj aBk bbE aBi apB
attribute [go_sem] aju adn aBg aBh bbD aBf apA ajt adm aBd
attribute [go_sem] aBe bbC aBc apz ajs adl aBa aBb bbB aA9
attribute [go_sem] apy ajr adk aA7 aA8 bbA aA6 apx ajq adj
attribute [go_sem] aA4 aA5 bbz aA3 apw ajp adi aA1 aA2 bby
attribute [go_sem] aA0 apv ajo adh aAY aAZ bbx aAX apu ajn
attribute [go_sem] adg aAV aAW bbw aAU apt ajm adf aAS aAT
attribute [go_sem] bbv aAR apr ajl ade aAP aAQ aGe aNQ aGd
attribute [go_sem] aNP aGc aNO aYS bbu aAO apq ajk adc aAM
attribute [go_sem] aAN aGb aNN aGa aNM aF9 aNL aYR bbt aAL
attribute [go_sem] app ajj adb aAJ aAK bbs aAI apo aji ada
attribute [go_sem] aAG aAH bbr aAF apn ajh ac9 aAD aAE bbq
attribute [go_sem] aAC apm ajg ac8 aAA aAB bbp aAz apl ajf
attribute [go_sem] ac7 aAx aAy bbo aAw apk aje ac6 aAu aAv
attribute [go_sem] bbn aAt apj ajd ac5 aAr aAs bbm aAq api
attribute [go_sem] ajc ac4 aAo aAp bbl aAn aph ajb ac3 aAl
attribute [go_sem] aAm bbk aAk apg aja ac2 aAi aAj bbj aAh
attribute [go_sem] apf ai9 ac1 aAf aAg bbi aAe ape ai8 ac0
attribute [go_sem] aAc aAd bbh aAb apd ai7 acZ az9 aAa bbg
attribute [go_sem] az8 apc ai6 acY az6 az7 bbf az5 apb ai5
attribute [go_sem] acX az3 az4 bbe az2 apa ai4 acW az0 az1
attribute [go_sem] bbd azZ ao9 ai3 acV azX azY aSB bbc azW
attribute [go_sem] ao8 ai2 acU azU azV bbb azT ao7 ai1 acT
attribute [go_sem] azR azS bba azQ ao6 ai0 acS azO azP ba9
attribute [go_sem] azM ao4 aiZ acR azK azL ba8 azJ ao3 aiY
attribute [go_sem] acQ azH azI ba7 azG ao2 aiX acP azE azF
attribute [go_sem] ba6 azD ao1 aiW acO azB azC ba5 azA ao0
attribute [go_sem] aiV acN azy azz ba4 azx aoZ aiU acM azv
attribute [go_sem] azw ba3 azu aoY aiT acL azs azt ba2 azr
attribute [go_sem] aoX aiS acK azp azq ba1 azo aoW aiR acJ
attribute [go_sem] azm azn ba0 azl aoV aiQ acI azj azk baZ
attribute [go_sem] azi aoU aiP acH azg azh baY azf aoT aiO
attribute [go_sem] acG azd aze baX azc aoS aiN acF aza azb
attribute [go_sem] baW ay9 aoR aiM acE ay7 ay8 baV ay6 aoQ
attribute [go_sem] aiL acD ay4 ay5 baU ay3 aoP aiK acC ay1
attribute [go_sem] ay2 baT ay0 aoO aiJ acB ayY ayZ baS ayW
attribute [go_sem] aoM aiH acA ayU ayV baR ayT aoL aiG acz
attribute [go_sem] ayR ayS baQ ayQ aoK aiF acy ayO ayP baP
attribute [go_sem] ayN aoJ aiE acx ayL ayM baO ayK aoI aiD
attribute [go_sem] acw ayI ayJ baN ayH aoH aiC acv ayF ayG
attribute [go_sem] baM ayE aoG aiB acu ayC ayD baL ayB aoF
attribute [go_sem] aiA act ayz ayA baK ayy aoE aiz acs ayw
attribute [go_sem] ayx baJ ayv aoD aiy acr ayt ayu baI ayr
attribute [go_sem] aoB aiw acq ayp ayq baH ayo aoA aiv acp
attribute [go_sem] aym ayn baG ayl aoz aiu aco ayj ayk baF
attribute [go_sem] ayi aoy ait acn ayg ayh baE ayf aox ais
attribute [go_sem] acm ayd aye baD ayc aow air acl aya ayb
attribute [go_sem] baC ax9 aov aiq ack ax7 ax8 baB ax6 aou
attribute [go_sem] aip acj ax4 ax5 baA ax3 aot aio aci ax1
attribute [go_sem] ax2 baz axZ aoq aim ach axX axY bay axW
attribute [go_sem] aop ail acg axU axV bax axT aoo aik acf
attribute [go_sem] axR axS baw axQ aon aij ace axO axP bav
attribute [go_sem] axN aom aii acd axL axM bau axK aol aih
attribute [go_sem] acb axI axJ bat axH aok aig aca axF axG
attribute [go_sem] bas axE aoj aif ab9 axC axD bar axB aoi
attribute [go_sem] aie ab8 axz axA baq axx aof aic ab7 axv
attribute [go_sem] axw bap axu aoe aib ab6 axs axt bao axr
attribute [go_sem] aod aia ab5 axp axq ban axo aoc ah9 ab4
attribute [go_sem] axm axn bam axl aob ah8 ab3 axj axk bal
attribute [go_sem] axi aoa ah7 ab2 axg axh bak axf an9 ah6
attribute [go_sem] ab1 axd axe baj axc an8 ah5 ab0 axa axb
attribute [go_sem] bai aw9 an7 ah4 abZ aw7 aw8 bah aw5 an5
attribute [go_sem] ah2 abY aw3 aw4 bag aw2 an4 ah1 abX aw0
attribute [go_sem] aw1 baf awZ an3 ah0 abW awX awY bae awW
attribute [go_sem] an2 ahZ abV awT awU bac awS an1 ahY abU
attribute [go_sem] awQ awR bab awP an0 ahX abT awN awO baa
attribute [go_sem] awM anZ ahW abS awK awL aZ9 awJ anY ahV
attribute [go_sem] abR awH awI aZ8 awG anX ahU abQ awE awF
attribute [go_sem] aZ7 awD anW ahT abP awB awC aZ6 awA anV
attribute [go_sem] ahS abO awy awz aZ5 awx anU ahR abN awv
attribute [go_sem] aww aZ4 awu anT ahQ abM aws awt aZ3 awr
attribute [go_sem] anS ahP abL awo awq aZ2 awn anR ahO abK
attribute [go_sem] awl awm aZ1 awk anQ ahN abJ awi awj aZ0
attribute [go_sem] awh anP ahM abI awf awg aZZ awd anN ahK
attribute [go_sem] abH awb awc aZY awa anM ahJ abG av8 av9
attribute [go_sem] aZX av7 anL ahI abF av5 av6 aZW av4 anK
attribute [go_sem] ahH abE av2 av3 aZV av1 anJ ahG abD avZ
attribute [go_sem] av0 aZU avY anI ahF abC avW avX aZT avU
attribute [go_sem] anF ahD abB avS avT aZS avR anE ahC abA
attribute [go_sem] avP avQ aZR avO anD ahB abz avM avN aZQ
attribute [go_sem] avL anC ahA aby avJ avK aZP avI anB ahz
attribute [go_sem] abx avG avH aZO avF anA ahy abw avD avE
attribute [go_sem] aZN avC anz ahx abv avA avB aZM avx anu
attribute [go_sem] ahv abu avv avw aZL avu ant ahu abt avs
attribute [go_sem] avt aZK avr ans aht abr avp avq aZJ avo
attribute [go_sem] anr ahs abq avm avn blb bla bk9 bk8 bk7
attribute [go_sem] bk6 bk5 bk4 bhL bhK bhJ bhI bhH bhG bhF
attribute [go_sem] bhE bhD bhC bhB bhA bhz bhy bhx bhw bhv
attribute [go_sem] bhu bht bhs bhr bhq bho bhn bhm bhl bhk
attribute [go_sem] bhj bhi bhh bhg bhf bhe bhd bhc bhb bha
attribute [go_sem] bg9 bg8 bg7 bg6 bg5 bg4 bg3 bg2 bg1 bg0
attribute [go_sem] bgZ bgY bgX bgW bgV bgU bgT bgS bgR bgQ
attribute [go_sem] bgP bgO bgN bgM bgL bgK bgJ bgI bgH bgG
attribute [go_sem] bgF bgE bgD bgC bgB bgA bgz bgy bgx bgw
attribute [go_sem] bgv bgu bgt bgs bgr bgq bgp bgo bgn bgm
attribute [go_sem] bgl bgk bgj aYa aX9 aX8 aX7 aX6 aX5 aX4
attribute [go_sem] aX3 aX2 aX1 aX0 aXZ aXY aXX aXW aXV aXU
attribute [go_sem] aXT aXS aXR aXQ aXP aXO aXN aXM aXL aXK
attribute [go_sem] aXJ aXI aXH aXG aXF aXE aXD aXC aXB aXA
attribute [go_sem] aXz aXy aXx aXw aXv aXu aXt aXs aXr aXq
attribute [go_sem] aXp aXo aXn aXm aXl aXk aXj aXi aXh aXg
attribute [go_sem] aXf aXe aXd aXc aXb aXa aW9 aW8 aW7 aW6
attribute [go_sem] aW5 aW4 aW3 aW2 aW1 aW0 aWZ aWY aWX aWW
attribute [go_sem] aWV aWU aWT aWS aWR aWQ aWP aWO aWN aWM
attribute [go_sem] aWL aWK aWJ aWI aWH aWG aWF aWE aWD aWC
attribute [go_sem] aWB aWA aWz aWy aWx aWw aWv aWu aWt aWs
attribute [go_sem] aWr aWq aWp aWo aWn aWm aWl aWk aWj aWi
attribute [go_sem] aWh aWg aWf aWe aWd aWc aWb aWa aV9 aV8
attribute [go_sem] aV7 aV6 aV5 aV4 aV3 aV2 aV1 aV0 aVZ aVY
attribute [go_sem] aVX aVW aVV aVU aVT aVS aVR aVQ aVP aVO
attribute [go_sem] aVN aVM aVL aVK aVJ aVI aVH aVG aVF aVE
attribute [go_sem] aVD aVC aVB aVA aVz aVy aVx aVw aVv aVu
attribute [go_sem] aVt aVs aVr aVq aVp aVo aVn aVm aVl aVk
attribute [go_sem] aVj aVi aVh aVg aVf aVe aVd aVc aVb aVa
attribute [go_sem] aU9 aU8 aU7 aU6 aU5 aU4 aU3 aU2 aU1 aU0
attribute [go_sem] aUZ aUY aUX aUW aUV aUU aUT aUS aUR aUQ
attribute [go_sem] aUP aUO aUN aUM aUL aUK aUJ aUI aUH aUG
attribute [go_sem] aUF aUE aUD aUC aUB aUA aUz aUy aUx aUw
attribute [go_sem] aUv aUu aUt aUs aUr aUq
end Go.Ab
namespace Go.Ab
open Go Go.Proofs
set_option maxRecDepth 100000 in
theorem afk(U V:List Int)(j:Nat)(hU:gd U)(hV:gd V)(lU:U.length≤2000000)(h2:2≤V.length)(hj:j+V.length<U.length)(hv1:32768≤V.getD (V.length-1) 0)(hW:vl (U.drop j)<65536*vl V):
  Con Tryz.prog 329 true [.sl U.length (qh U),.sl V.length (qh V),.v (.int .i64 j)] [] (fun r hs bs=>∃q:Int,r=.v (.int .i64 q)∧hs=[]∧bs=[]∧(0≤q∧q<65536)∧vl (U.drop j)<(q+1)*vl V∧q*vl V<vl (U.drop j)+vl V):=by
 refine Con.of_aw Tryz.func329 rfl Tryz.ntmps329 (by simp) (by simp) (by simp) (W.sound ?_)
 show @W Tryz.prog 76 ⟨_⟩ ⟨fun x σ=>@q9 _ _ _ ⟨_⟩ _ ⟨_⟩ x σ⟩ _ _
 have hDl:V.length<(U.drop j).length:=by simp;omega
 have hz:=afE (yx hU j) hV hDl hW
 have hw:=aRJ hDl h2 hz
 have hvv:=aJi h2
 rw[jc,jc,jc]at hw
 have hx0:=q7 (yg (yx hU j) (V.length-2))
 have hx1:=QN (yg (yx hU j) (V.length-2))
 have hy0:=q7 (yg hV (V.length-2))
 have hy1:=QN (yg hV (V.length-2))
 rw[List.length_take,Nat.min_eq_left (by omega)]at hx1 hy1
 have gu0:=qQ hU (j+V.length)
 have gu1:=qQ hU (j+(V.length-1))
 have gu2:=qQ hU (j+(V.length-2))
 have gv1:=qQ hV (V.length-1)
 have gv2:=qQ hV (V.length-2)
 have htop:=aTX hw hvv ⟨hx0,hx1⟩ ⟨hy0,hy1⟩ gu2.1 gu1.1 gv2.2 hW
 have e0:((j:Int)+(V.length:Int)).toNat=j+V.length:=by omega
 have e1:((j:Int)+(V.length:Int)-1).toNat=j+(V.length-1):=by omega
 have e2:((j:Int)+(V.length:Int)-2).toNat=j+(V.length-2):=by omega
 have f1:((V.length:Int)-1).toNat=V.length-1:=by omega
 have f2:((V.length:Int)-2).toNat=V.length-2:=by omega
 simp(disch:=omega)only[go_sem]
 refine qm rfl [⟨0,[],[]⟩,⟨1,[],[]⟩,⟨2,[],[]⟩,⟨3,[],[]⟩,⟨4,[],[]⟩,⟨5,[],[]⟩,⟨6,[],[]⟩,⟨7,[5],[]⟩,⟨8,[5],[]⟩,⟨9,[5],[]⟩,⟨10,[5],[]⟩,⟨11,[5],[]⟩,⟨12,[5],[]⟩,⟨13,[5],[]⟩,⟨14,[],[]⟩,⟨15,[],[]⟩] (by kernel_rfl) ?_
 simp(disch:=omega)only[go_sem,e0,e1]
 generalize hu0:U.getD (j+V.length) 0=u0 at*
 generalize hu1:U.getD (j+(V.length-1)) 0=u1 at*
 generalize hu2:U.getD (j+(V.length-2)) 0=u2 at*
 refine⟨by omega,by omega,by omega,by omega,?_⟩
 refine qm rfl [⟨0,[],[]⟩,⟨1,[],[]⟩,⟨2,[],[]⟩,⟨3,[],[]⟩,⟨4,[],[]⟩,⟨5,[],[]⟩,⟨6,[],[]⟩,⟨7,[5],[]⟩,⟨8,[5],[]⟩,⟨9,[5],[]⟩,⟨10,[5],[]⟩,⟨11,[5],[]⟩,⟨12,[5],[]⟩,⟨13,[5],[]⟩,⟨14,[12],[]⟩,⟨15,[],[]⟩] (by kernel_rfl) ?_
 simp(disch:=omega)only[go_sem,f1]
 generalize hvv1:V.getD (V.length-1) 0=v1 at*
 generalize hvv2:V.getD (V.length-2) 0=v2 at*
 generalize htt:u0*65536+u1=top at*
 refine⟨by omega,by omega,by omega,by omega,by omega,by omega,?_⟩
 have hq0:0≤top/v1:=Int.ediv_nonneg (by omega) (by omega)
 have hq1:top/v1≤65537:=by
  have:top/v1<65538:=Int.ediv_lt_of_lt_mul (by omega) (by omega)
  omega
 have hr0:=Int.emod_nonneg top (show v1≠0 by omega)
 have hr1:=Int.emod_lt_of_pos top (show 0<v1 by omega)
 have hqr:=Int.emod_add_mul_ediv top v1
 have hini:=aO0 hw hvv ⟨hx0,hx1⟩ ⟨hy0,hy1⟩ gu2 gv2.1 hq0 (show top<(top/v1+1)*v1 by rw[Int.add_mul,Int.mul_comm (top/v1)];omega)
 have hqr':top/v1*v1+top % v1=top:=by rw[Int.mul_comm];omega
 generalize top/v1=q0 at*
 generalize top % v1=r0 at*
 refine qc (fun x:Int×Int=>[(0,.sl U.length (qh U)),(1,.sl V.length (qh V)),(2,.v (.int .i64 j)),(7,.v (.int .i64 V.length)),(9,.v (.int .i64 x.1)),(10,.v (.int .i64 x.2))])
  (fun _=>[]) (fun x=>(0≤x.1∧x.1≤65537)∧(0≤x.2∧x.2<65536)∧x.1*v1+x.2=top∧vl (U.drop j)<(x.1+1)*vl V) (fun x=>x.1.toNat) (q0,r0) ⟨⟨hq0,hq1⟩,⟨hr0,by omega⟩,hqr',hini⟩
  (Le.lst [] _ _ rfl (by simp(disch:=omega)only[go_sem];try omega) (by simp(disch:=omega)only[go_sem])) ?_
 rintro⟨q,r⟩ ⟨hq,hr,hqr2,hlt⟩
 dsimp only at hq hr hqr2 hlt ⊢
 have hqv:0≤q*v2∧q*v2≤65537*65535:=⟨Int.mul_nonneg hq.1 gv2.1,Int.mul_le_mul hq.2 (by omega) gv2.1 (by omega)⟩
 simp(disch:=omega)only[go_sem]
 refine qm rfl [⟨0,[],[]⟩,⟨1,[],[]⟩,⟨2,[],[]⟩,⟨3,[],[]⟩,⟨4,[],[]⟩,⟨5,[],[]⟩,⟨6,[],[]⟩,⟨7,[],[]⟩,⟨8,[],[]⟩,⟨9,[],[]⟩,⟨10,[8],[]⟩,⟨11,[8],[]⟩,⟨12,[8],[]⟩,⟨13,[8],[]⟩,⟨14,[8],[]⟩,⟨15,[8],[]⟩,⟨16,[8],[]⟩,⟨17,[8],[]⟩,⟨18,[8],[]⟩,⟨19,[8],[]⟩,⟨20,[],[]⟩,⟨21,[],[]⟩] (by kernel_rfl) ?_
 simp(disch:=omega)only[go_sem]
 refine zK (fun h1=>?_) (fun h1=>?_)
 ·simp(disch:=omega)only[go_sem,h1,e2,f2,hu2,hvv2]
  refine⟨by omega,by omega,by omega,by omega,qe (fun h2=>?_) (fun h2=>?_)⟩
  ·simp(disch:=omega)only[go_sem,h2,f1,hvv1]
   have hst:=arN hw hvv ⟨hx0,hx1⟩ ⟨hy0,hy1⟩ hW gv2.1 (by omega) hq.1 hqr2 (.inr h2)
   have hqp:0<q:=by
    rcases(by omega:0<q∨q=0)with h|h
    ·exact h
    ·subst h;omega
   have hm:(q-1)*v1+(r+v1)=top:=by rw[Int.sub_mul];omega
   refine⟨by omega,by omega,qe (fun h3=>?_) (fun h3=>?_)⟩
   ·simp(disch:=omega)only[go_sem,h3]
    have h4:q-1<65536:=by
     rcases(by omega:q-1<65536∨65536≤q-1)with h|h
     ·exact h
     ·have:=Int.mul_le_mul_of_nonneg_right h (show 0≤v1 by omega)
      omega
    have h5:(q-1)*v2≤(r+v1)*65536+u2:=by
     have:(q-1)*v2≤65535*65535:=Int.mul_le_mul (by omega) (by omega) gv2.1 (by omega)
     omega
    have h6:=aeP hw hvv ⟨hx0,hx1⟩ ⟨hy0,hy1⟩ gv2.1 (by omega) ⟨by omega,h4⟩ hm h5
    exact qC (by simp(disch:=omega)only[go_sem]) (by simp(disch:=omega)only[go_sem]) ⟨q-1,rfl,rfl,rfl,⟨by omega,h4⟩,by rw[show q-1+1=q by omega];exact hst,h6⟩
   ·simp(disch:=omega)only[go_sem,h3]
    refine qa (q-1,r+v1) [] ⟨by show 0≤q-1∧q-1≤65537;omega,by show 0≤r+v1∧r+v1<65536;omega,hm,by show _<(q-1+1)*vl V;rw[show q-1+1=q by omega];exact hst⟩ (by show(q-1).toNat<q.toNat;omega) rfl (by simp(disch:=omega)only[go_sem];try omega) (by simp(disch:=omega)only[go_sem])
  ·simp(disch:=omega)only[go_sem,h2]
   have h6:=aeP hw hvv ⟨hx0,hx1⟩ ⟨hy0,hy1⟩ gv2.1 (by omega) ⟨hq.1,by omega⟩ hqr2 (by omega)
   exact qC (by simp(disch:=omega)only[go_sem]) (by simp(disch:=omega)only[go_sem]) ⟨q,rfl,rfl,rfl,⟨hq.1,by omega⟩,hlt,h6⟩
 ·simp(disch:=omega)only[go_sem,h1,f1,hvv1]
  have hst:=arN hw hvv ⟨hx0,hx1⟩ ⟨hy0,hy1⟩ hW gv2.1 (by omega) hq.1 hqr2 (.inl h1)
  have hqp:0<q:=by omega
  have hm:(q-1)*v1+(r+v1)=top:=by rw[Int.sub_mul];omega
  refine⟨by omega,by omega,qe (fun h3=>?_) (fun h3=>?_)⟩
  ·simp(disch:=omega)only[go_sem,h3]
   have h4:q-1<65536:=by
    rcases(by omega:q-1<65536∨65536≤q-1)with h|h
    ·exact h
    ·have:=Int.mul_le_mul_of_nonneg_right h (show 0≤v1 by omega)
     omega
   have h5:(q-1)*v2≤(r+v1)*65536+u2:=by
    have:(q-1)*v2≤65535*65535:=Int.mul_le_mul (by omega) (by omega) gv2.1 (by omega)
    omega
   have h6:=aeP hw hvv ⟨hx0,hx1⟩ ⟨hy0,hy1⟩ gv2.1 (by omega) ⟨by omega,h4⟩ hm h5
   exact qC (by simp(disch:=omega)only[go_sem]) (by simp(disch:=omega)only[go_sem]) ⟨q-1,rfl,rfl,rfl,⟨by omega,h4⟩,by rw[show q-1+1=q by omega];exact hst,h6⟩
  ·simp(disch:=omega)only[go_sem,h3]
   refine qa (q-1,r+v1) [] ⟨by show 0≤q-1∧q-1≤65537;omega,by show 0≤r+v1∧r+v1<65536;omega,hm,by show _<(q-1+1)*vl V;rw[show q-1+1=q by omega];exact hst⟩ (by show(q-1).toNat<q.toNat;omega) rfl (by simp(disch:=omega)only[go_sem];try omega) (by simp(disch:=omega)only[go_sem])
end Go.Ab
namespace Go.Ab
open Go Go.Proofs
theorem aaN(U V:List Int)(j:Nat)(q:Int)(hU:gd U)(hV:gd V)(lU:U.length≤2000000)(hj:j+V.length<U.length)(hq:0≤q∧q<65536):
  Con Tryz.prog 330 false [.rf 10000000 0 U.length,.sl V.length (qh V),.v (.int .i64 j),.v (.int .i64 q)] [.own 1 (qh U)]
   (fun r hs bs=>∃(U':List Int) (bo:Int),r=.v (.bool (decide (U.getD (j+V.length) 0-bo<0)))∧hs=[]∧bs=[.own 1 (qh (U'.set (j+V.length) (U.getD (j+V.length) 0-bo)))]∧
    U'.length=U.length∧gd U'∧(0≤bo∧bo<65536)∧(∀t,t<j∨j+V.length≤t→U'.getD t 0=U.getD t 0)∧vl U'-65536^(j+V.length)*bo=vl U-65536^j*(q*vl V)):=by
 refine Con.of_aw Tryz.func330 rfl Tryz.ntmps330 (by simp) (by simp) (by simp) (W.sound ?_)
 show @W Tryz.prog 68 ⟨_⟩ ⟨fun x σ=>@q9 _ _ _ ⟨_⟩ _ ⟨_⟩ x σ⟩ _ _
 simp(disch:=omega)only[go_sem]
 refine qc (fun x:Nat×List Int×Int=>[(0,.rf 10000000 0 U.length),(1,.sl V.length (qh V)),(2,.v (.int .i64 j)),(3,.v (.int .i64 q)),(9,.v (.int .i64 x.2.2)),(13,.sl V.length (qh V)),(14,.v (.int .i64 V.length)),(15,.v (.int .i64 x.1))])
  (fun x=>[(10000000,.own 1 (qh x.2.1))])
  (fun x=>x.1≤V.length∧x.2.1.length=U.length∧gd x.2.1∧(0≤x.2.2∧x.2.2<65536)∧(∀t,t<j∨j+x.1≤t→x.2.1.getD t 0=U.getD t 0)∧vl x.2.1-65536^(j+x.1)*x.2.2=vl U-65536^j*(q*vl (V.take x.1)))
  (fun x=>V.length-x.1) (0,U,0) ⟨by simp,rfl,hU,by simp,fun _ _=>rfl,by simp[vl]⟩
  (Le.lst [] _ _ rfl (by simp(disch:=omega)only[go_sem];try omega) (by simp(disch:=omega)only[go_sem])) ?_
 rintro⟨i,U1,bo⟩ ⟨hi,hl1,hg1,hbo,hsame,hval⟩
 dsimp only at hi hl1 hg1 hbo hsame hval ⊢
 simp(disch:=omega)only[go_sem]
 refine qe (fun h1=>?_) (fun h1=>?_)
 ·have hx:=qQ hV i
  have hu:=qQ hg1 (j+i)
  have hqx:0≤q*V.getD i 0∧q*V.getD i 0≤65535*65535:=⟨Int.mul_nonneg hq.1 hx.1,Int.mul_le_mul (by omega) (by omega) hx.1 (by omega)⟩
  have e1:((j:Int)+(i:Int)).toNat=j+i:=by omega
  have hstep:∀d b:Int,d-65536*b=U1.getD (j+i) 0-q*V.getD i 0-bo→vl (U1.set (j+i) d)-65536^(j+(i+1))*b=vl U-65536^j*(q*vl (V.take (i+1))):=by
   intro d b hd
   rw[Q9 (by omega),qX,←Nat.add_assoc,Int.pow_succ]
   have e3:(65536:Int)^(j+i)=65536^j*65536^i:=Int.pow_add _ _ _
   rw[e3]at hval ⊢
   generalize (65536:Int)^i=Pi at*
   generalize (65536:Int)^j=Pj at*
   grind
  have hsm:∀d:Int,∀t,t<j∨j+(i+1)≤t→(U1.set (j+i) d).getD t 0=U.getD t 0:=fun d t ht=>by
   rw[ju (by omega),if_neg (by omega)];exact hsame t (by omega)
  simp(disch:=omega)only[go_sem,h1,e1]
  refine⟨by omega,by omega,by omega,by omega,qe (fun h2=>?_) (fun h2=>?_)⟩
  ·simp(disch:=omega)only[go_sem,h2,e1]
   generalize hb:(0-(U1.getD (j+i) 0-q*V.getD i 0-bo)+65536-1)/65536=b
   refine⟨by omega,by omega,qa (i+1,U1.set (j+i) (U1.getD (j+i) 0-q*V.getD i 0-bo+b*65536),b) [] ⟨by show i+1≤_;omega,by simp[hl1],y4 hg1 (by omega),by show 0≤b∧b<65536;omega,hsm _,hstep (U1.getD (j+i) 0-q*V.getD i 0-bo+b*65536) b (by omega)⟩
    (by show V.length-(i+1)<V.length-i;omega) rfl (by simp(disch:=omega)only[go_sem];try omega) (by simp(disch:=omega)only[go_sem])⟩
  ·simp(disch:=omega)only[go_sem,h2,e1]
   refine⟨by omega,by omega,qa (i+1,U1.set (j+i) (U1.getD (j+i) 0-q*V.getD i 0-bo),0) [] ⟨by show i+1≤_;omega,by simp[hl1],y4 hg1 (by omega),by simp,hsm _,hstep (U1.getD (j+i) 0-q*V.getD i 0-bo) 0 (by omega)⟩
    (by show V.length-(i+1)<V.length-i;omega) rfl (by simp(disch:=omega)only[go_sem];try omega) (by simp(disch:=omega)only[go_sem])⟩
 ·have hiA:i=V.length:=by omega
  subst hiA
  rw[List.take_length]at hval
  have e1:((j:Int)+(V.length:Int)).toNat=j+V.length:=by omega
  have hu:=qQ hg1 (j+V.length)
  have es:=hsame (j+V.length) (by omega)
  have eg:(U1.set (j+V.length) (U.getD (j+V.length) 0-bo)).getD (j+V.length) 0=U.getD (j+V.length) 0-bo:=by rw[ju (by omega),if_pos rfl]
  simp(disch:=omega)only[go_sem,h1,e1,es]
  refine⟨by omega,by omega,by omega,by omega,by omega,by simp;omega,?_⟩
  simp(disch:=omega)only[go_sem,eg]
  refine ql [] [] [.own 1 (qh (U1.set (j+V.length) (U.getD (j+V.length) 0-bo)))] [.v (.bool (decide (U.getD (j+V.length) 0-bo<0)))] rfl (by simp(disch:=omega)only[go_sem]) (by simp(disch:=omega)only[go_sem]) (by simp) (by simp) ⟨U1,bo,rfl,rfl,rfl,hl1,hg1,hbo,hsame,hval⟩
theorem afm(U V:List Int)(j:Nat)(hU:∀t,t≠j+V.length→0≤U.getD t 0∧U.getD t 0<65536)(hUt: -65536≤U.getD (j+V.length) 0∧U.getD (j+V.length) 0<65536)(hV:gd V)(lU:U.length≤2000000)(hj:j+V.length<U.length):
  Con Tryz.prog 331 false [.rf 10000000 0 U.length,.sl V.length (qh V),.v (.int .i64 j)] [.own 1 (qh U)]
   (fun r hs bs=>∃(U':List Int),r=.tu []∧hs=[]∧bs=[.own 1 (qh U')]∧
    U'.length=U.length∧(∀t,t≠j+V.length→0≤U'.getD t 0∧U'.getD t 0<65536)∧(∀t,t<j∨j+V.length<t→U'.getD t 0=U.getD t 0)∧vl U'=vl U+65536^j*vl V):=by
 refine Con.of_aw Tryz.func331 rfl Tryz.ntmps331 (by simp) (by simp) (by simp) (W.sound ?_)
 show @W Tryz.prog 46 ⟨_⟩ ⟨fun x σ=>@q9 _ _ _ ⟨_⟩ _ ⟨_⟩ x σ⟩ _ _
 simp(disch:=omega)only[go_sem]
 refine qc (fun x:Nat×List Int×Int=>[(0,.rf 10000000 0 U.length),(1,.sl V.length (qh V)),(2,.v (.int .i64 j)),(6,.v (.int .i64 x.2.2)),(9,.sl V.length (qh V)),(10,.v (.int .i64 V.length)),(11,.v (.int .i64 x.1))])
  (fun x=>[(10000000,.own 1 (qh x.2.1))])
  (fun x=>x.1≤V.length∧x.2.1.length=U.length∧(∀t,t≠j+V.length→0≤x.2.1.getD t 0∧x.2.1.getD t 0<65536)∧(0≤x.2.2∧x.2.2≤1)∧(∀t,t<j∨j+x.1≤t→x.2.1.getD t 0=U.getD t 0)∧vl x.2.1+65536^(j+x.1)*x.2.2=vl U+65536^j*vl (V.take x.1))
  (fun x=>V.length-x.1) (0,U,0) ⟨by simp,rfl,hU,by simp,fun _ _=>rfl,by simp[vl]⟩
  (Le.lst [] _ _ rfl (by simp(disch:=omega)only[go_sem];try omega) (by simp(disch:=omega)only[go_sem])) ?_
 rintro⟨i,U1,cy⟩ ⟨hi,hl1,hg1,hcy,hsame,hval⟩
 dsimp only at hi hl1 hg1 hcy hsame hval ⊢
 simp(disch:=omega)only[go_sem]
 refine qe (fun h1=>?_) (fun h1=>?_)
 ·have hx:=qQ hV i
  have hu:=hg1 (j+i) (by omega)
  have e1:((j:Int)+(i:Int)).toNat=j+i:=by omega
  simp(disch:=omega)only[go_sem,h1,e1]
  generalize hb:cy+(U1.getD (j+i) 0+V.getD i 0)=b
  have hg2:∀t,t≠j+V.length→0≤(U1.set (j+i) (b % 65536)).getD t 0∧(U1.set (j+i) (b % 65536)).getD t 0<65536:=fun t ht=>by
   rw[ju (by omega)]
   split
   ·omega
   ·exact hg1 t ht
  refine⟨by omega,by omega,by omega,by omega,by omega,by omega,qa (i+1,U1.set (j+i) (b % 65536),b/65536) [] ⟨by show i+1≤_;omega,by simp[hl1],hg2,by show 0≤b/65536∧b/65536≤1;omega,fun t ht=>?_,?_⟩
   (by show V.length-(i+1)<V.length-i;omega) rfl (by simp(disch:=omega)only[go_sem];try omega) (by simp(disch:=omega)only[go_sem])⟩
  ·show(U1.set (j+i) (b % 65536)).getD t 0=_
   have ht:t<j∨j+(i+1)≤t:=ht
   rw[ju (by omega),if_neg (by omega)];exact hsame t (by omega)
  ·show vl (U1.set (j+i) (b % 65536))+65536^(j+(i+1))*(b/65536)=vl U+65536^j*vl (V.take (i+1))
   rw[Q9 (by omega),qX,←Nat.add_assoc,Int.pow_succ]
   have e3:(65536:Int)^(j+i)=65536^j*65536^i:=Int.pow_add _ _ _
   have e4:b % 65536+65536*(b/65536)=b:=Int.emod_add_mul_ediv b 65536
   rw[e3]at hval ⊢
   generalize (65536:Int)^i=Pi at*
   generalize (65536:Int)^j=Pj at*
   grind
 ·have hiA:i=V.length:=by omega
  subst hiA
  rw[List.take_length]at hval
  have e1:((j:Int)+(V.length:Int)).toNat=j+V.length:=by omega
  have es:=hsame (j+V.length) (by omega)
  simp(disch:=omega)only[go_sem,h1,e1,es]
  refine⟨by omega,by omega,by omega,by omega,?_⟩
  refine ql [] [] [.own 1 (qh (U1.set (j+V.length) (U.getD (j+V.length) 0+cy)))] [] rfl (by simp(disch:=omega)only[go_sem]) (by simp(disch:=omega)only[go_sem]) (by simp) (by simp) ⟨_,rfl,rfl,rfl,by simp[hl1],fun t ht=>?_,fun t ht=>?_,?_⟩
  ·rw[ju (by omega),if_neg ht];exact hg1 t ht
  ·rw[ju (by omega),if_neg (by omega)];exact hsame t (by omega)
  ·rw[Q9 (by omega),es]
   generalize (65536:Int)^(j+V.length)=Pj at*
   grind
end Go.Ab
namespace Go.Ab
open Go Go.Proofs
theorem jv(xs:List Int)(hl:xs.length≤2^40):Con Tryz.prog 295 false [.rf 10000000 0 xs.length] [.own 1 (qh xs)] (fun r hs bs=>r=.rf 10000000 0 (Jm xs).length∧hs=[]∧bs=[.own 1 (qh xs)]):=by
 refine Con.of_aw Tryz.func295 rfl Tryz.ntmps295 (by simp) (by simp) (by simp) (W.sound ?_)
 show @W Tryz.prog 21 ⟨_⟩ ⟨fun x σ=>@q9 _ _ _ ⟨_⟩ _ ⟨_⟩ x σ⟩ _ _
 simp(disch:=omega)only[go_sem]
 refine qc (fun m:Nat=>[(0,.rf 10000000 0 m)]) (fun _=>[(10000000,.own 1 (qh xs))]) (fun m=>m≤xs.length∧Jm (xs.take m)=Jm xs) id xs.length ⟨Nat.le_refl _,by simp⟩
  (Le.lst [] _ _ rfl (by simp(disch:=omega)only[go_sem];try omega) (by simp(disch:=omega)only[go_sem])) ?_
 intro m ⟨hm,hx⟩
 have hmx:∀k,k+1=m→xs.take m=xs.take k++[xs.getD k 0]:=fun k hk=>by rw[←hk];exact jO (by omega)
 simp(disch:=omega)only[go_sem]
 refine qe (fun h1=>?_) (fun h1=>?_)
 ·obtain⟨k,rfl⟩:∃k,m=k+1:=⟨m-1,by omega⟩
  have e1:((k+1:Nat):Int)-1=(k:Nat):=by omega
  rw[hmx k rfl]at hx
  simp(disch:=omega)only[go_sem,h1,e1]
  refine⟨by omega,by omega,qe (fun h2=>?_) (fun h2=>?_)⟩
  ·simp(disch:=omega)only[go_sem,h2,e1]
   rw[h2,QG]at hx
   refine⟨by omega,qa k [] ⟨by omega,hx⟩ (by show k<k+1;omega) rfl (by simp(disch:=omega)only[go_sem];try omega) (by simp(disch:=omega)only[go_sem])⟩
  ·simp(disch:=omega)only[go_sem,h2]
   refine ql [] [] [.own 1 (qh xs)] [.rf 10000000 0 (k+1)] rfl (by simp(disch:=omega)only[go_sem]) (by simp(disch:=omega)only[go_sem]) (by simp) (by simp) ⟨?_,rfl,rfl⟩
   rw[YR _ h2,←hmx k rfl]at hx
   rw[←hx,List.length_take,Nat.min_eq_left hm];rfl
 ·simp(disch:=omega)only[go_sem,h1]
  refine ql [] [] [.own 1 (qh xs)] [.rf 10000000 0 m] rfl (by simp(disch:=omega)only[go_sem]) (by simp(disch:=omega)only[go_sem]) (by simp) (by simp) ⟨?_,rfl,rfl⟩
  have:m=0:=by omega
  subst this
  rw[←hx];rfl
end Go.Ab
namespace Go.Ab
open Go Go.Proofs
theorem arz{x y:Int}(hx:0≤x∧x<65536)(hy:0≤y∧y<65536):0≤x*y∧x*y≤4294836225:=by
 have h1:=Int.mul_nonneg hx.1 hy.1
 have h2:x*y≤65535*65535:=Int.mul_le_mul (by omega) (by omega) hy.1 (by omega)
 omega
theorem asy(cl:Bool)(A B:List Int)(hA:gd A)(hB:gd B)(lA:A.length≤1000000)(lB:B.length≤1000000):
  Con Tryz.prog 252 cl [.sl A.length (qh A),.sl B.length (qh B)] [] (atY (lim (vl A*vl B).toNat)):=by
 refine Con.of_aw Tryz.func252 rfl Tryz.ntmps252 (by simp) (by simp) (by simp) (W.sound ?_)
 show @W Tryz.prog 63 ⟨_⟩ ⟨fun x σ=>@q9 _ _ _ ⟨_⟩ _ ⟨_⟩ x σ⟩ _ _
 simp(disch:=omega)only[go_sem]
 refine⟨⟨by omega,by omega,by omega⟩,?_⟩
 refine qc (fun x:Nat×List Int=>[(1,.sl B.length (qh B)),(5,.rf 180000000 0 (A.length+B.length)),(17,.sl A.length (qh A)),(18,.v (.int .i64 A.length)),(19,.v (.int .i64 x.1))])
  (fun x=>[(180000000,.own 1 (qh x.2))])
  (fun x=>x.1≤A.length∧x.2.length=A.length+B.length∧gd x.2∧vl x.2=vl (A.take x.1)*vl B∧∀j,x.1+B.length≤j→x.2.getD j 0=0)
  (fun x=>A.length-x.1) (0,List.replicate (A.length+B.length) 0) ⟨by simp,by simp,zw _,by simp[zT,vl],fun j _=>by
   rw[List.getD_eq_getElem?_getD,List.getElem?_replicate];split<;>rfl⟩
  (Le.lst [] _ _ rfl (by simp(disch:=omega)only[go_sem];try omega) (by simp(disch:=omega)only[go_sem,show((A.length:Int)+(B.length:Int)).toNat=A.length+B.length by omega])) ?_
 rintro⟨i,out⟩ ⟨hi,hol,hog,hov,hoz⟩
 dsimp only at hi hol hog hov hoz ⊢
 simp(disch:=omega)only[go_sem]
 refine qe (fun h1=>?_) (fun h1=>?_)
 ·have hx:=qQ hA i
  simp(disch:=omega)only[go_sem,h1]
  refine⟨by omega,by omega,?_⟩
  refine qc (fun x:Nat×List Int×Int=>[(1,.sl B.length (qh B)),(5,.rf 180000000 0 (A.length+B.length)),(17,.sl A.length (qh A)),(18,.v (.int .i64 A.length)),(19,.v (.int .i64 i)),(6,.v (.int .i64 i)),
    (7,.v (.int .i64 (A.getD i 0))),(8,.v (.int .i64 x.2.2)),(24,.sl B.length (qh B)),(25,.v (.int .i64 B.length)),(26,.v (.int .i64 x.1))])
   (fun x=>[(180000000,.own 1 (qh x.2.1))])
   (fun x=>x.1≤B.length∧x.2.1.length=A.length+B.length∧gd x.2.1∧(0≤x.2.2∧x.2.2<65536)∧vl x.2.1+65536^(i+x.1)*x.2.2=vl out+65536^i*(A.getD i 0*vl (B.take x.1))∧∀j,i+B.length≤j→x.2.1.getD j 0=0)
   (fun x=>B.length-x.1) (0,out,0) ⟨by simp,hol,hog,by simp,by simp[vl],hoz⟩
   (Le.lst [] _ _ rfl (by simp(disch:=omega)only[go_sem];try omega) (by simp(disch:=omega)only[go_sem])) ?_
  rintro⟨j,o2,cy⟩ ⟨hj,hol2,hog2,hcy,hov2,hoz2⟩
  dsimp only at hj hol2 hog2 hcy hov2 hoz2 ⊢
  simp(disch:=omega)only[go_sem]
  refine qe (fun h2=>?_) (fun h2=>?_)
  ·have hy:=qQ hB j
   have ho:=qQ hog2 (i+j)
   have hxy:=arz hx hy
   have e1:((i:Int)+(j:Int)).toNat=i+j:=by omega
   simp(disch:=omega)only[go_sem,h2,e1]
   generalize hq:cy+(o2.getD (i+j) 0+A.getD i 0*B.getD j 0)=q
   refine⟨by omega,by omega,by omega,by omega,by omega,by omega,qa (j+1,o2.set (i+j) (q % 65536),q/65536) [] ⟨by show j+1≤_;omega,by simp[hol2],y4 hog2 (by omega),by show 0≤q/65536∧q/65536<65536;omega,?_,fun k hk=>?_⟩
    (by show B.length-(j+1)<B.length-j;omega) rfl (by simp(disch:=omega)only[go_sem];try omega) (by simp(disch:=omega)only[go_sem])⟩
   ·show vl (o2.set (i+j) (q % 65536))+65536^(i+(j+1))*(q/65536)=vl out+65536^i*(A.getD i 0*vl (B.take (j+1)))
    rw[Q9 (by omega),jj (by omega),←Nat.add_assoc,Int.pow_succ]
    have e2:(65536:Int)^(i+j)=65536^i*65536^j:=Int.pow_add _ _ _
    have e3:q % 65536+65536*(q/65536)=q:=Int.emod_add_mul_ediv q 65536
    rw[e2]at hov2 ⊢
    generalize (65536:Int)^i=Pi at*
    generalize (65536:Int)^j=Pj at*
    grind
   ·show(o2.set (i+j) (q % 65536)).getD k 0=0
    rw[List.getD_eq_getElem?_getD,List.getElem?_set_ne (by omega),←List.getD_eq_getElem?_getD]
    exact hoz2 k hk
  ·simp(disch:=omega)only[go_sem,h2]
   have e1:((i:Int)+(B.length:Int)).toNat=i+B.length:=by omega
   have hjB:j=B.length:=by omega
   subst hjB
   rw[List.take_length]at hov2
   simp(disch:=omega)only[go_sem,e1]
   refine⟨by omega,by omega,qa (i+1,o2.set (i+B.length) cy) [] ⟨by show i+1≤_;omega,by simp[hol2],y4 hog2 hcy,?_,fun k hk=>?_⟩ (by show A.length-(i+1)<A.length-i;omega) rfl (by simp(disch:=omega)only[go_sem];try omega) (by simp(disch:=omega)only[go_sem])⟩
   ·show vl (o2.set (i+B.length) cy)=vl (A.take (i+1))*vl B
    rw[Q9 (by omega),hoz2 _ (Nat.le_refl _),jj (by omega)]
    generalize (65536:Int)^i=Pi at*
    grind
   ·show(o2.set (i+B.length) cy).getD k 0=0
    rw[List.getD_eq_getElem?_getD,List.getElem?_set_ne (by show i+B.length≠k;omega),←List.getD_eq_getElem?_getD]
    exact hoz2 k (by omega)
 ·simp(disch:=omega)only[go_sem,h1]
  have hiA:i=A.length:=by omega
  subst hiA
  rw[List.take_length]at hov
  refine zk false [180000000] (jv out (by omega)) (by rw[←hol];simp(disch:=omega)only[go_sem]) (by simp(disch:=omega)only[go_sem]) rfl (qW (z:=1) (cs:=qh out) (by simp(disch:=omega)only[go_sem]) (by simp(disch:=omega)only[go_sem])) (by intro n hn;exact⟨_,List.mem_singleton.2 rfl,by rw[List.mem_singleton.1 hn];rfl⟩) ?_
  rintro r hs bs ⟨rfl,rfl,rfl⟩ _
  refine⟨by simp[qG],?_⟩
  simp(disch:=omega)only[go_sem]
  obtain⟨z,hz⟩:=zP out
  have hc:=jh hog
  rw[hov]at hc
  rw[hc]at hz ⊢
  refine ql [(0,180000000)] [.own 1 (qh out)] [] [.rf 0 0 (lim (vl A*vl B).toNat).length] rfl (by simp(disch:=omega)only[go_sem]) (by simp(disch:=omega)only[go_sem]) (by simp) (by intro _;simp[zt,AV.pu,AV.pu.puL,Ob.pu,ze]) (.inr ⟨List.replicate z 0,rfl,by rw[←hz]⟩)
end Go.Ab
namespace Go.Ab
open Go Go.Proofs
theorem asC(cl:Bool)(n:Nat)(hn:n<2^63):Con Tryz.prog 157 cl [.v (.int .i64 n)] [] (atY (lim n)):=by
 refine Con.of_aw Tryz.func157 rfl Tryz.ntmps157 (by simp) (by simp) (by simp) (W.sound ?_)
 show @W Tryz.prog 14 ⟨_⟩ ⟨fun x σ=>@q9 _ _ _ ⟨_⟩ _ ⟨_⟩ x σ⟩ _ _
 simp(disch:=omega)only[go_sem]
 refine qc (fun x:Nat×List Int=>[(0,.v (.int .i64 x.1)),(3,.rf 1 0 x.2.length)]) (fun x=>[(1,.own 1 (qh x.2))]) (fun x=>x.1<2^63∧x.2++lim x.1=lim n) (fun x=>x.1) (n,[]) ⟨hn,rfl⟩
  ((Le.ghost 3 1 1 (by simp(disch:=omega)only[go_sem]) (by simp(disch:=omega)only[go_sem])).trans (Le.lst [] _ _ rfl (by simp(disch:=omega)only[go_sem]) (by simp(disch:=omega)only[go_sem]))) ?_
 rintro⟨k,l⟩ ⟨hk,hl⟩
 dsimp only at hk hl ⊢
 have hlen:l.length≤4:=by
  have h1:=congrArg List.length hl
  have h2:=jK (n:=n) (k:=4) |>.2 (by omega)
  rw[List.length_append]at h1;omega
 simp(disch:=omega)only[go_sem]
 refine qe (fun h1=>?_) (fun h1=>?_)
 ·simp(disch:=omega)only[go_sem,h1]
  have hk0:k≠0:=by omega
  refine⟨by omega,qa (k/65536,l++[(k:Int) % 65536]) [(1,140000000)] ⟨by show k/65536<2^63;omega,?_⟩ (by show k/65536<k;omega) rfl (by simp(disch:=omega)only[go_sem,List.length_append];omega) (by simp(disch:=omega)only[go_sem])⟩
  rw[yf hk0]at hl
  rw[←hl,List.append_assoc];rfl
 ·simp(disch:=omega)only[go_sem,h1]
  have hk0:k=0:=by omega
  subst hk0
  rw[qt,List.append_nil]at hl
  subst hl
  refine ql [(0,1)] [.own 1 (qh (lim n++[]))] [] [.rf 0 0 (lim n).length] rfl (by simp(disch:=omega)only[go_sem]) (by simp(disch:=omega)only[go_sem]) (by simp) (by intro _;simp[zt,AV.pu,AV.pu.puL,Ob.pu,ze]) (.inr ⟨[],rfl,rfl⟩)
end Go.Ab
namespace Go.Ab
open Go Go.Proofs
theorem yr(k:Nat)(h:k<16):(0:Int)<2^k∧(2:Int)^k≤32768:=by
 have:∀k,k<16→(0:Int)<2^k∧(2:Int)^k≤32768:=by decide
 exact this k h
theorem ary{x:Int}(hx:0≤x∧x<65536){k:Nat}(hk:k<16):0≤x*2^k∧x*2^k≤2147450880:=by
 obtain⟨h1,h2⟩:=yr k hk
 have h3:=Int.mul_nonneg hx.1 (Int.le_of_lt h1)
 have h4:x*2^k≤65535*32768:=Int.mul_le_mul (by omega) h2 (by omega) (by omega)
 omega
theorem aai(k:Nat):(65536:Int)^(k/16)*2^(k % 16)=2^k:=by
 have e:(65536:Int)=2^16:=by decide
 rw[e,←Int.pow_mul,←Int.pow_add,Nat.div_add_mod]
theorem aYF(cl:Bool)(A:List Int)(k:Nat)(hA:gd A)(lA:A.length≤1000000)(hk:k≤100000000):
  Con Tryz.prog 248 cl [.sl A.length (qh A),.v (.int .i64 k)] [] (atY (lim (vl A*2^k).toNat)):=by
 refine Con.of_aw Tryz.func248 rfl Tryz.ntmps248 (by simp) (by simp) (by simp) (W.sound ?_)
 show @W Tryz.prog 46 ⟨_⟩ ⟨fun x σ=>@q9 _ _ _ ⟨_⟩ _ ⟨_⟩ x σ⟩ _ _
 simp(disch:=omega)only[go_sem]
 refine qe (fun h0=>?_) (fun h0=>?_)
 ·simp(disch:=omega)only[go_sem,h0]
  have:A=[]:=List.length_eq_zero_iff.1 (by omega)
  subst this
  refine ql [] [] [] [.v (.slice none 0 0)] rfl (by simp(disch:=omega)only[go_sem]) (by simp(disch:=omega)only[go_sem]) (by simp) (by intro _;simp[zt,AV.pu,AV.pu.puL,Ob.pu,ze]) (.inl ⟨by simp[vl,qt],rfl,rfl⟩)
 ·simp(disch:=omega)only[go_sem,h0]
  refine⟨by omega,?_⟩
  have e16:((k:Int)/16).toNat=k/16:=by omega
  refine qc (fun x:Nat×List Int×Int=>[(1,.v (.int .i64 k)),(5,.rf 1 0 x.2.1.length),(6,.v (.int .i64 x.2.2)),(21,.sl A.length (qh A)),(22,.v (.int .i64 A.length)),(23,.v (.int .i64 x.1))])
   (fun x=>[(1,.own 1 (qh x.2.1))])
   (fun x=>x.1≤A.length∧x.2.1.length=k/16+x.1∧gd x.2.1∧(0≤x.2.2∧x.2.2<65536)∧vl x.2.1+65536^(k/16+x.1)*x.2.2=65536^(k/16)*2^(k % 16)*vl (A.take x.1))
   (fun x=>A.length-x.1) (0,List.replicate (k/16) 0,0) ⟨by simp,by simp,zw _,by simp,by simp[vl,zT]⟩
   (Le.lst [(1,220000000)] _ _ rfl (by simp(disch:=omega)only[go_sem,List.length_replicate,e16]) (by simp(disch:=omega)only[go_sem,e16])) ?_
  rintro⟨i,out,cy⟩ ⟨hi,hol,hog,hcy,hov⟩
  dsimp only at hi hol hog hcy hov ⊢
  simp(disch:=omega)only[go_sem]
  refine qe (fun h1=>?_) (fun h1=>?_)
  ·have hx:=qQ hA i
   have hxs:=ary hx (show k % 16<16 by omega)
   have em:min ((k:Int) % 16).toNat 64=k % 16:=by omega
   simp(disch:=omega)only[go_sem,h1,em]
   generalize hq:cy+A.getD i 0*2^(k % 16)=q
   refine⟨by omega,by omega,by omega,by omega,qa (i+1,out++[q % 65536],q/65536) [(1,390000000)] ⟨by show i+1≤_;omega,by simp[hol];omega,qM.2 ⟨hog,zZ.2 (by omega)⟩,by show 0≤q/65536∧q/65536<65536;omega,?_⟩ (by show A.length-(i+1)<A.length-i;omega) rfl (by simp(disch:=omega)only[go_sem,List.length_append];try omega) (by simp(disch:=omega)only[go_sem])⟩
   show vl (out++[q % 65536])+65536^(k/16+(i+1))*(q/65536)=65536^(k/16)*2^(k % 16)*vl (A.take (i+1))
   rw[jz,qX,hol,←Nat.add_assoc,Int.pow_succ]
   have e3:q % 65536+65536*(q/65536)=q:=Int.emod_add_mul_ediv q 65536
   rw[Int.pow_add]at hov ⊢
   generalize (65536:Int)^i=Pi at*
   generalize (65536:Int)^(k/16)=Pk at*
   generalize (2:Int)^(k % 16)=Pm at*
   grind
  ·simp(disch:=omega)only[go_sem,h1]
   have hiA:i=A.length:=by omega
   subst hiA
   rw[List.take_length,aai]at hov
   have hov2:vl (out++[cy])=vl A*2^k:=by rw[jz,hol,hov];grind
   have hog2:gd (out++[cy]):=qM.2 ⟨hog,zZ.2 hcy⟩
   refine⟨by omega,?_⟩
   have hl2:out.length+1=(out++[cy]).length:=by simp
   rw[hl2]
   refine zk false [460000000] (jv (out++[cy]) (by simp;omega)) (by simp(disch:=omega)only[go_sem]) (by simp(disch:=omega)only[go_sem]) rfl (qW (z:=1) (cs:=qh (out++[cy])) (by simp(disch:=omega)only[go_sem]) (by simp(disch:=omega)only[go_sem])) (by intro n hn;exact⟨_,List.mem_singleton.2 rfl,by rw[List.mem_singleton.1 hn];rfl⟩) ?_
   rintro r hs bs ⟨rfl,rfl,rfl⟩ _
   refine⟨by simp[qG],?_⟩
   simp(disch:=omega)only[go_sem]
   obtain⟨z,hz⟩:=zP (out++[cy])
   have hc:=jh hog2
   rw[hov2]at hc
   rw[hc]at hz ⊢
   refine ql [(0,460000000)] [.own 1 (qh (out++[cy]))] [] [.rf 0 0 (lim (vl A*2^k).toNat).length] rfl (by simp(disch:=omega)only[go_sem]) (by simp(disch:=omega)only[go_sem]) (by simp) (by intro _;simp[zt,AV.pu,AV.pu.puL,Ob.pu,ze]) (.inr ⟨List.replicate z 0,rfl,by rw[←hz]⟩)
end Go.Ab
namespace Go.Ab
open Go Go.Proofs
theorem aFE(V P:Int)(hP:0<P):V % (P*65536)=V % P+P*(V/P % 65536):=by
 rw[Int.emod_def,Int.emod_def,Int.emod_def,←Int.ediv_ediv_of_nonneg (Int.le_of_lt hP)]
 grind
theorem aE5{s:Nat}(hs:s<16):(65536:Int)=2^s*2^(16-s):=by
 rw[←Int.pow_add,show s+(16-s)=16 by omega];decide
theorem alc{D:List Int}(hD:gd D){i s:Nat}(hi:i<D.length)(hs:s<16):
  (vl D/2^s)/65536^i % 65536=(D.getD i 0+D.getD (i+1) 0*65536)/2^s % 65536:=by
 have h2:=(yr s hs).1
 rw[Int.ediv_ediv_of_nonneg (Int.le_of_lt h2),Int.mul_comm,←Int.ediv_ediv_of_nonneg (Int.le_of_lt (Int.pow_pos (by omega))),afD hD (by omega),zJ hi]
 have h3:vl (D.drop (i+1))=D.getD (i+1) 0+65536*vl (D.drop (i+2)):=by
  rcases Nat.lt_or_ge (i+1) D.length with h|h
  ·exact zJ h
  ·rw[List.drop_of_length_le h,List.drop_of_length_le (by omega),List.getD_eq_getElem?_getD,List.getElem?_eq_none h];simp[vl]
 rw[h3]
 have e:D.getD i 0+65536*(D.getD (i+1) 0+65536*vl (D.drop (i+2)))=(D.getD i 0+D.getD (i+1) 0*65536)+2^s*(65536*(2^(16-s)*vl (D.drop (i+2)))):=by
  have:=aE5 hs
  generalize (2:Int)^s=a at*
  generalize (2:Int)^(16-s)=b at*
  grind
 rw[e,Int.add_mul_ediv_left _ _ (by omega),Int.add_mul_emod_self_left]
theorem arh{a b:Nat}(h:a≤b):(65536:Int)^a≤65536^b:=by
 obtain⟨d,rfl⟩:=Nat.exists_eq_add_of_le h
 have h1:(0:Int)<65536^a:=Int.pow_pos (by omega)
 have h2:(0:Int)<65536^d:=Int.pow_pos (by omega)
 have h3:=Int.mul_le_mul_of_nonneg_left (show(1:Int)≤65536^d by omega) (Int.le_of_lt h1)
 rw[Int.mul_one,←Int.pow_add]at h3
 exact h3
theorem aG2(cl:Bool)(A:List Int)(k:Nat)(hA:gd A)(lA:A.length≤1000000)(hk:k≤100000000):
  Con Tryz.prog 265 cl [.sl A.length (qh A),.v (.int .i64 k)] [] (atY (lim (vl A/2^k).toNat)):=by
 refine Con.of_aw Tryz.func265 rfl Tryz.ntmps265 (by simp) (by simp) (by simp) (W.sound ?_)
 show @W Tryz.prog 52 ⟨_⟩ ⟨fun x σ=>@q9 _ _ _ ⟨_⟩ _ ⟨_⟩ x σ⟩ _ _
 have hvk:vl A/2^k=vl A/65536^(k/16)/2^(k % 16):=by
  rw[Int.ediv_ediv_of_nonneg (Int.le_of_lt (Int.pow_pos (by omega))),aai]
 simp(disch:=omega)only[go_sem]
 refine qe (fun h0=>?_) (fun h0=>?_)
 ·simp(disch:=omega)only[go_sem,h0]
  have hz:vl A/2^k=0:=by
   rw[hvk,Int.ediv_eq_zero_of_lt (q7 hA)]
   ·simp
   ·refine Int.lt_of_lt_of_le (QN hA) ?_
    exact arh (by omega)
  rw[hz]
  refine ql [] [] [] [.v (.slice none 0 0)] rfl (by simp(disch:=omega)only[go_sem]) (by simp(disch:=omega)only[go_sem]) (by simp) (by intro _;simp[zt,AV.pu,AV.pu.puL,Ob.pu,ze]) (.inl ⟨by simp[qt],rfl,rfl⟩)
 ·have e16:((k:Int)/16).toNat=k/16:=by omega
  have e17:((A.length:Int)-(k:Int)/16).toNat=(A.drop (k/16)).length:=by simp;omega
  have e18:(A.drop (k/16)).take (A.drop (k/16)).length=A.drop (k/16):=List.take_length
  have hvD:=afD hA (i:=k/16) (by omega)
  have hlD:(A.drop (k/16)).length≤1000000:=by simp;omega
  have hD:=yx hA (k/16)
  simp(disch:=omega)only[go_sem,h0,e16,e17,e18]
  generalize A.drop (k/16)=D at*
  refine⟨by omega,by omega,?_⟩
  refine qc (fun x:Nat×List Int=>[(1,.v (.int .i64 k)),(5,.sl D.length (qh D)),(6,.rf 1 0 x.2.length),(21,.sl D.length (qh D)),(22,.v (.int .i64 D.length)),(23,.v (.int .i64 x.1))])
   (fun x=>[(1,.own 1 (qh x.2))])
   (fun x=>x.1≤D.length∧x.2.length=x.1∧gd x.2∧vl x.2=vl D/2^(k % 16) % 65536^x.1)
   (fun x=>D.length-x.1) (0,[]) ⟨by simp,rfl,Jd,by simp[vl]⟩
   (Le.lst [(1,220000000)] _ _ rfl (by simp(disch:=omega)only[go_sem]) (by simp(disch:=omega)only[go_sem])) ?_
  rintro⟨i,out⟩ ⟨hi,hol,hog,hov⟩
  dsimp only at hi hol hog hov ⊢
  simp(disch:=omega)only[go_sem]
  refine qe (fun h1=>?_) (fun h1=>?_)
  ·have hx:=qQ hD i
   have hy:=qQ hD (i+1)
   have em:min ((k:Int) % 16).toNat 64=k % 16:=by omega
   have hm:=yr (k % 16) (by omega)
   have efd:∀x:Int,x.fdiv (2^(k % 16))=x/2^(k % 16):=fun x=>Int.fdiv_eq_ediv_of_nonneg _ (Int.le_of_lt hm.1)
   have hdig:=alc hD (i:=i) (s:=k % 16) (by omega) (by omega)
   have hnn:∀x:Int,0≤x→0≤x/2^(k % 16):=fun x hx=>Int.ediv_nonneg hx (Int.le_of_lt hm.1)
   have ei:((i:Int)+1).toNat=i+1:=by omega
   have hstep:∀z:Int,z=(D.getD i 0+D.getD (i+1) 0*65536)/2^(k % 16) % 65536→vl (out++[z])=vl D/2^(k % 16) % 65536^(i+1):=by
    intro z hz
    rw[jz,hov,hol,Int.pow_succ,aFE _ _ (Int.pow_pos (by omega)),hdig,hz]
   simp(disch:=omega)only[go_sem,h1]
   refine⟨by omega,by omega,qe (fun h2=>?_) (fun h2=>?_)⟩
   ·have hn1:=hnn (D.getD i 0+D.getD (i+1) 0*65536) (by omega)
    simp(disch:=omega)only[go_sem,h2,em,efd,ei]
    refine⟨by omega,by omega,by omega,by omega,qa (i+1,out++[(D.getD i 0+D.getD (i+1) 0*65536)/2^(k % 16) % 65536]) [(1,500000000)] ⟨by show i+1≤_;omega,by simp[hol],qM.2 ⟨hog,zZ.2 (by omega)⟩,hstep _ rfl⟩ (by show D.length-(i+1)<D.length-i;omega) rfl (by simp(disch:=omega)only[go_sem,List.length_append];try omega) (by simp(disch:=omega)only[go_sem])⟩
   ·have hn1:=hnn (D.getD i 0) (by omega)
    simp(disch:=omega)only[go_sem,h2,em,efd]
    have hy0:D.getD (i+1) 0=0:=by rw[List.getD_eq_getElem?_getD,List.getElem?_eq_none (by omega)];rfl
    refine⟨by omega,by omega,qa (i+1,out++[D.getD i 0/2^(k % 16) % 65536]) [(1,500000000)] ⟨by show i+1≤_;omega,by simp[hol],qM.2 ⟨hog,zZ.2 (by omega)⟩,hstep _ (by rw[hy0];simp)⟩ (by show D.length-(i+1)<D.length-i;omega) rfl (by simp(disch:=omega)only[go_sem,List.length_append];try omega) (by simp(disch:=omega)only[go_sem])⟩
  ·simp(disch:=omega)only[go_sem,h1]
   have hiD:i=D.length:=by omega
   subst hiD
   have hV:vl out=vl A/2^k:=by
    rw[hov,hvk,hvD]
    refine Int.emod_eq_of_lt (Int.ediv_nonneg (q7 hD) (Int.le_of_lt (yr (k % 16) (by omega)).1)) ?_
    exact Int.lt_of_le_of_lt (Int.ediv_le_self _ (q7 hD)) (QN hD)
   refine zk false [1] (jv out (by omega)) (by simp(disch:=omega)only[go_sem]) (by simp(disch:=omega)only[go_sem]) rfl (qW (z:=1) (cs:=qh out) (by simp(disch:=omega)only[go_sem]) (by simp(disch:=omega)only[go_sem])) (by intro n hn;exact⟨_,List.mem_singleton.2 rfl,by rw[List.mem_singleton.1 hn];rfl⟩) ?_
   rintro r hs bs ⟨rfl,rfl,rfl⟩ _
   refine⟨by simp[qG],?_⟩
   simp(disch:=omega)only[go_sem]
   obtain⟨z,hz⟩:=zP out
   have hc:=jh hog
   rw[hV]at hc
   rw[hc]at hz ⊢
   refine ql [(0,1)] [.own 1 (qh out)] [] [.rf 0 0 (lim (vl A/2^k).toNat).length] rfl (by simp(disch:=omega)only[go_sem]) (by simp(disch:=omega)only[go_sem]) (by simp) (by intro _;simp[zt,AV.pu,AV.pu.puL,Ob.pu,ze]) (.inr ⟨List.replicate z 0,rfl,by rw[←hz]⟩)
end Go.Ab
namespace Go.Ab
open Go Go.Proofs
theorem drop_set{l:List Int}{i:Nat}(h:i<l.length)(z:Int):(l.set i z).drop i=z::l.drop (i+1):=by
 rw[List.drop_eq_getElem_cons (by simpa using h)]
 simp[List.drop_set]
theorem aG3(cl:Bool)(A:List Int)(d:Nat)(hA:gd A)(lA:A.length≤1000000)(hd:0<d)(hd2:d<65536):
  Con Tryz.prog 328 cl [.sl A.length (qh A),.v (.int .i64 d)] [] (fun r hs bs=>∃zs,r=.tu [.rf 0 0 (lim (vl A/d).toNat).length,.v (.int .i64 (vl A % d))]∧hs=[.own 1 (qh (lim (vl A/d).toNat++zs))]):=by
 refine Con.of_aw Tryz.func328 rfl Tryz.ntmps328 (by simp) (by simp) (by simp) (W.sound ?_)
 show @W Tryz.prog 38 ⟨_⟩ ⟨fun x σ=>@q9 _ _ _ ⟨_⟩ _ ⟨_⟩ x σ⟩ _ _
 simp(disch:=omega)only[go_sem]
 refine⟨by omega,?_⟩
 refine qc (fun x:Nat×List Int×Int=>[(0,.sl A.length (qh A)),(1,.v (.int .i64 d)),(6,.rf 130000000 0 A.length),(7,.v (.int .i64 x.2.2)),(8,.v (.int .i64 ((x.1:Int)-1)))])
  (fun x=>[(130000000,.own 1 (qh x.2.1))])
  (fun x=>x.1≤A.length∧x.2.1.length=A.length∧gd x.2.1∧x.2.2=vl (A.drop x.1) % d∧vl (x.2.1.drop x.1)=vl (A.drop x.1)/d)
  (fun x=>x.1) (A.length,List.replicate A.length 0,0) ⟨by simp,by simp,zw _,by simp[vl],by simp[vl]⟩
  (Le.lst [] _ _ rfl (by simp(disch:=omega)only[go_sem];try omega) (by simp(disch:=omega)only[go_sem])) ?_
 rintro⟨m,out,rest⟩ ⟨hm,hol,hog,hr,hov⟩
 dsimp only at hm hol hog hr hov ⊢
 simp(disch:=omega)only[go_sem]
 refine qe (fun h1=>?_) (fun h1=>?_)
 ·obtain⟨i,rfl⟩:∃i,m=i+1:=⟨m-1,by omega⟩
  have e1:((i+1:Nat):Int)-1=(i:Nat):=by omega
  have hx:=qQ hA i
  have hr2:0≤rest∧rest<d:=by rw[hr];exact⟨Int.emod_nonneg _ (by omega),Int.emod_lt_of_pos _ (by omega)⟩
  generalize hq:rest*65536+A.getD i 0=q
  have hq0:0≤q:=by omega
  have hqd:0≤q/d∧q/d<65536:=⟨Int.ediv_nonneg hq0 (by omega),Int.ediv_lt_of_lt_mul (by omega) (by omega)⟩
  have hqm:0≤q % d∧q % d<d:=⟨Int.emod_nonneg _ (by omega),Int.emod_lt_of_pos _ (by omega)⟩
  simp(disch:=omega)only[go_sem,h1,e1,hq]
  refine⟨by omega,by omega,by omega,by omega,by omega,by omega,qa (i,out.set i (q/d),q % d) [] ⟨by show i≤_;omega,by simp[hol],y4 hog hqd,?_,?_⟩ (by show i<i+1;omega) rfl (by simp(disch:=omega)only[go_sem]) (by simp(disch:=omega)only[go_sem])⟩
  ·show q % d=vl (A.drop i) % d
   rw[zJ (l:=A) (i:=i) (by omega),←hq,hr]
   have h3:=Int.emod_add_mul_ediv (vl (A.drop (i+1))) d
   rw[show A.getD i 0+65536*vl (A.drop (i+1))=vl (A.drop (i+1)) % d*65536+A.getD i 0+d*(65536*(vl (A.drop (i+1))/d)) by grind,Int.add_mul_emod_self_left]
  ·show vl ((out.set i (q/d)).drop i)=vl (A.drop i)/d
   rw[drop_set (by omega),vl,hov,zJ (l:=A) (i:=i) (by omega),←hq,hr]
   have h3:=Int.emod_add_mul_ediv (vl (A.drop (i+1))) d
   rw[show A.getD i 0+65536*vl (A.drop (i+1))=vl (A.drop (i+1)) % d*65536+A.getD i 0+d*(65536*(vl (A.drop (i+1))/d)) by grind,Int.add_mul_ediv_left _ _ (by omega)]
 ·simp(disch:=omega)only[go_sem,h1]
  have:m=0:=by omega
  subst this
  rw[List.drop_zero,List.drop_zero]at hov
  rw[List.drop_zero]at hr
  rw[←hol]
  refine zk false [130000000] (jv out (by omega)) (by simp(disch:=omega)only[go_sem]) (by simp(disch:=omega)only[go_sem]) rfl (qW (z:=1) (cs:=qh out) (by simp(disch:=omega)only[go_sem]) (by simp(disch:=omega)only[go_sem])) (by intro n hn;exact⟨_,List.mem_singleton.2 rfl,by rw[List.mem_singleton.1 hn];rfl⟩) ?_
  rintro r hs bs ⟨rfl,rfl,rfl⟩ _
  refine⟨by simp[qG],?_⟩
  simp(disch:=omega)only[go_sem]
  obtain⟨z,hz⟩:=zP out
  have hc:=jh hog
  rw[hov]at hc
  rw[hc]at hz ⊢
  rw[hr]
  refine ql [(0,130000000)] [.own 1 (qh out)] [] [.rf 0 0 (lim (vl A/d).toNat).length,.v (.int .i64 (vl A % d))] rfl (by simp(disch:=omega)only[go_sem]) (by simp(disch:=omega)only[go_sem]) (by simp) (by intro _;simp[zt,AV.pu,AV.pu.puL,Ob.pu,ze]) ⟨List.replicate z 0,rfl,by rw[←hz]⟩
end Go.Ab
namespace Go.Ab
open Go Go.Proofs
theorem aGS(cl:Bool)(A B:List Int)(hA:gd A)(hB:gd B)(lA:A.length≤2000000)(lB:B.length≤2000000):
  Con Tryz.prog 304 cl [.sl A.length (qh A),.sl B.length (qh B)] [] (atY (lim (vl A+vl B).toNat)):=by
 refine Con.of_aw Tryz.func304 rfl Tryz.ntmps304 (by simp) (by simp) (by simp) (W.sound ?_)
 show @W Tryz.prog 53 ⟨_⟩ ⟨fun x σ=>@q9 _ _ _ ⟨_⟩ _ ⟨_⟩ x σ⟩ _ _
 simp(disch:=omega)only[go_sem]
 refine qe (fun h0=>?_) (fun h0=>?_)
 all_goals simp(disch:=omega)only[go_sem,h0]
 ·revert A B
  intro Y X hY hX lY lX h0'
  have h00:Y.length≤X.length:=by omega
  have hcm:vl Y+vl X=vl X+vl Y:=Int.add_comm _ _
  refine⟨by omega,?_⟩
  refine qc (fun x:Nat×List Int×Int=>[(1,.sl Y.length (qh Y)),(5,.rf 1 0 x.2.1.length),(6,.v (.int .i64 x.2.2)),(20,.sl X.length (qh X)),(21,.v (.int .i64 X.length)),(22,.v (.int .i64 x.1))])
   (fun x=>[(1,.own 1 (qh x.2.1))])
   (fun x=>x.1≤X.length∧x.2.1.length=x.1∧gd x.2.1∧(0≤x.2.2∧x.2.2≤1)∧vl x.2.1+65536^x.1*x.2.2=vl (X.take x.1)+vl (Y.take x.1))
   (fun x=>X.length-x.1) (0,[],0) ⟨by simp,rfl,Jd,by simp,by simp[vl]⟩
   (Le.lst [(1,210000000)] _ _ rfl (by simp(disch:=omega)only[go_sem]) (by simp(disch:=omega)only[go_sem])) ?_
  rintro⟨i,out,cy⟩ ⟨hi,hol,hog,hcy,hov⟩
  dsimp only at hi hol hog hcy hov ⊢
  simp(disch:=omega)only[go_sem]
  refine qe (fun h1=>?_) (fun h1=>?_)
  ·have hx:=qQ hX i
   have hy:=qQ hY i
   have hstep:∀q:Int,q=cy+X.getD i 0+Y.getD i 0→vl (out++[q % 65536])+65536^(i+1)*(q/65536)=vl (X.take (i+1))+vl (Y.take (i+1)):=by
    intro q hq
    rw[jz,qX,qX,hol,Int.pow_succ]
    have e3:q % 65536+65536*(q/65536)=q:=Int.emod_add_mul_ediv q 65536
    generalize (65536:Int)^i=Pi at*
    grind
   have hyz:¬i<Y.length→Y.getD i 0=0:=fun h=>by rw[List.getD_eq_getElem?_getD,List.getElem?_eq_none (by omega)];rfl
   simp(disch:=omega)only[go_sem,h1]
   refine⟨by omega,by omega,qe (fun h2=>?_) (fun h2=>?_)⟩
   ·simp(disch:=omega)only[go_sem,h2]
    generalize hq:cy+X.getD i 0+Y.getD i 0=q
    refine⟨by omega,by omega,by omega,qa (i+1,out++[q % 65536],q/65536) [(1,460000000)] ⟨by show i+1≤_;omega,by simp[hol],qM.2 ⟨hog,zZ.2 (by omega)⟩,by show 0≤q/65536∧q/65536≤1;omega,hstep q hq.symm⟩ (by show X.length-(i+1)<X.length-i;omega) rfl (by simp(disch:=omega)only[go_sem,List.length_append];try omega) (by simp(disch:=omega)only[go_sem])⟩
   ·simp(disch:=omega)only[go_sem,h2]
    have hy0:=hyz (by omega)
    generalize hq:cy+X.getD i 0=q
    refine⟨by omega,qa (i+1,out++[q % 65536],q/65536) [(1,460000000)] ⟨by show i+1≤_;omega,by simp[hol],qM.2 ⟨hog,zZ.2 (by omega)⟩,by show 0≤q/65536∧q/65536≤1;omega,hstep q (by omega)⟩ (by show X.length-(i+1)<X.length-i;omega) rfl (by simp(disch:=omega)only[go_sem,List.length_append];try omega) (by simp(disch:=omega)only[go_sem])⟩
  ·simp(disch:=omega)only[go_sem,h1]
   have hiA:i=X.length:=by omega
   subst hiA
   rw[List.take_length,List.take_of_length_le h00]at hov
   have hov2:vl (out++[cy])=vl X+vl Y:=by rw[jz,hol];exact hov
   have hog2:gd (out++[cy]):=qM.2 ⟨hog,zZ.2 (by omega)⟩
   refine⟨by omega,?_⟩
   have hl2:out.length+1=(out++[cy]).length:=by simp
   rw[hl2]
   refine zk false [530000000] (jv (out++[cy]) (by simp;omega)) (by simp(disch:=omega)only[go_sem]) (by simp(disch:=omega)only[go_sem]) rfl (qW (z:=1) (cs:=qh (out++[cy])) (by simp(disch:=omega)only[go_sem]) (by simp(disch:=omega)only[go_sem])) (by intro n hn;exact⟨_,List.mem_singleton.2 rfl,by rw[List.mem_singleton.1 hn];rfl⟩) ?_
   rintro r hs bs ⟨rfl,rfl,rfl⟩ _
   refine⟨by simp[qG],?_⟩
   simp(disch:=omega)only[go_sem]
   obtain⟨z,hz⟩:=zP (out++[cy])
   have hc:=jh hog2
   rw[hov2]at hc
   rw[hc]at hz ⊢
   refine ql [(0,530000000)] [.own 1 (qh (out++[cy]))] [] [.rf 0 0 (lim (vl X+vl Y).toNat).length] rfl (by simp(disch:=omega)only[go_sem]) (by simp(disch:=omega)only[go_sem]) (by simp) (by intro _;simp[zt,AV.pu,AV.pu.puL,Ob.pu,ze]) (.inr ⟨List.replicate z 0,by rw[hcm];rfl,by rw[hcm,←hz]⟩)
 ·revert A B
  intro X Y hX hY lX lY h0'
  have h00:Y.length≤X.length:=by omega
  have hcm:vl X+vl Y=vl X+vl Y:=rfl
  refine⟨by omega,?_⟩
  refine qc (fun x:Nat×List Int×Int=>[(1,.sl Y.length (qh Y)),(5,.rf 1 0 x.2.1.length),(6,.v (.int .i64 x.2.2)),(20,.sl X.length (qh X)),(21,.v (.int .i64 X.length)),(22,.v (.int .i64 x.1))])
   (fun x=>[(1,.own 1 (qh x.2.1))])
   (fun x=>x.1≤X.length∧x.2.1.length=x.1∧gd x.2.1∧(0≤x.2.2∧x.2.2≤1)∧vl x.2.1+65536^x.1*x.2.2=vl (X.take x.1)+vl (Y.take x.1))
   (fun x=>X.length-x.1) (0,[],0) ⟨by simp,rfl,Jd,by simp,by simp[vl]⟩
   (Le.lst [(1,210000000)] _ _ rfl (by simp(disch:=omega)only[go_sem]) (by simp(disch:=omega)only[go_sem])) ?_
  rintro⟨i,out,cy⟩ ⟨hi,hol,hog,hcy,hov⟩
  dsimp only at hi hol hog hcy hov ⊢
  simp(disch:=omega)only[go_sem]
  refine qe (fun h1=>?_) (fun h1=>?_)
  ·have hx:=qQ hX i
   have hy:=qQ hY i
   have hstep:∀q:Int,q=cy+X.getD i 0+Y.getD i 0→vl (out++[q % 65536])+65536^(i+1)*(q/65536)=vl (X.take (i+1))+vl (Y.take (i+1)):=by
    intro q hq
    rw[jz,qX,qX,hol,Int.pow_succ]
    have e3:q % 65536+65536*(q/65536)=q:=Int.emod_add_mul_ediv q 65536
    generalize (65536:Int)^i=Pi at*
    grind
   have hyz:¬i<Y.length→Y.getD i 0=0:=fun h=>by rw[List.getD_eq_getElem?_getD,List.getElem?_eq_none (by omega)];rfl
   simp(disch:=omega)only[go_sem,h1]
   refine⟨by omega,by omega,qe (fun h2=>?_) (fun h2=>?_)⟩
   ·simp(disch:=omega)only[go_sem,h2]
    generalize hq:cy+X.getD i 0+Y.getD i 0=q
    refine⟨by omega,by omega,by omega,qa (i+1,out++[q % 65536],q/65536) [(1,460000000)] ⟨by show i+1≤_;omega,by simp[hol],qM.2 ⟨hog,zZ.2 (by omega)⟩,by show 0≤q/65536∧q/65536≤1;omega,hstep q hq.symm⟩ (by show X.length-(i+1)<X.length-i;omega) rfl (by simp(disch:=omega)only[go_sem,List.length_append];try omega) (by simp(disch:=omega)only[go_sem])⟩
   ·simp(disch:=omega)only[go_sem,h2]
    have hy0:=hyz (by omega)
    generalize hq:cy+X.getD i 0=q
    refine⟨by omega,qa (i+1,out++[q % 65536],q/65536) [(1,460000000)] ⟨by show i+1≤_;omega,by simp[hol],qM.2 ⟨hog,zZ.2 (by omega)⟩,by show 0≤q/65536∧q/65536≤1;omega,hstep q (by omega)⟩ (by show X.length-(i+1)<X.length-i;omega) rfl (by simp(disch:=omega)only[go_sem,List.length_append];try omega) (by simp(disch:=omega)only[go_sem])⟩
  ·simp(disch:=omega)only[go_sem,h1]
   have hiA:i=X.length:=by omega
   subst hiA
   rw[List.take_length,List.take_of_length_le h00]at hov
   have hov2:vl (out++[cy])=vl X+vl Y:=by rw[jz,hol];exact hov
   have hog2:gd (out++[cy]):=qM.2 ⟨hog,zZ.2 (by omega)⟩
   refine⟨by omega,?_⟩
   have hl2:out.length+1=(out++[cy]).length:=by simp
   rw[hl2]
   refine zk false [530000000] (jv (out++[cy]) (by simp;omega)) (by simp(disch:=omega)only[go_sem]) (by simp(disch:=omega)only[go_sem]) rfl (qW (z:=1) (cs:=qh (out++[cy])) (by simp(disch:=omega)only[go_sem]) (by simp(disch:=omega)only[go_sem])) (by intro n hn;exact⟨_,List.mem_singleton.2 rfl,by rw[List.mem_singleton.1 hn];rfl⟩) ?_
   rintro r hs bs ⟨rfl,rfl,rfl⟩ _
   refine⟨by simp[qG],?_⟩
   simp(disch:=omega)only[go_sem]
   obtain⟨z,hz⟩:=zP (out++[cy])
   have hc:=jh hog2
   rw[hov2]at hc
   rw[hc]at hz ⊢
   refine ql [(0,530000000)] [.own 1 (qh (out++[cy]))] [] [.rf 0 0 (lim (vl X+vl Y).toNat).length] rfl (by simp(disch:=omega)only[go_sem]) (by simp(disch:=omega)only[go_sem]) (by simp) (by intro _;simp[zt,AV.pu,AV.pu.puL,Ob.pu,ze]) (.inr ⟨List.replicate z 0,by rw[hcm];rfl,by rw[hcm,←hz]⟩)
end Go.Ab
