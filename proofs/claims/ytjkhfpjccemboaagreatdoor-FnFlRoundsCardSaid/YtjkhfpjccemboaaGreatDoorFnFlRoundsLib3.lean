/- What the proof of this claim stands on: the walks of the functions and the plain laws, part 3. -/
import Derived.Test.YtjkhfpjccemboaaGreatDoorFnFlRoundsLib2
import Derived.Test.YtjkhfpjccemboaaGreatDoorChecked
import Derived.KernelRfl
import Derived.Shelf.Spec.TrailingZeros
import Derived.Shelf.Small.Bits
import Derived.Shelf.Strconv.Itoa0
set_option linter.unusedVariables false
set_option linter.unusedSimpArgs false
namespace Go.Ab
open Go Go.Proofs
def ti1:TI:=⟨Kd.oth,1,8,Value.nilFunc⟩
theorem tf1:qr Tryz.prog 1=some ti1:=by kernel_rfl
def ti2:TI:=⟨Kd.int IntKind.i64,1,8,Value.int IntKind.i64 0⟩
theorem tf2:qr Tryz.prog 2=some ti2:=by kernel_rfl
def ti3:TI:=⟨Kd.int IntKind.i64,1,8,Value.int IntKind.i64 0⟩
theorem tf3:qr Tryz.prog 3=some ti3:=by kernel_rfl
def ti4:TI:=⟨Kd.bool,1,1,Value.bool false⟩
theorem tf4:qr Tryz.prog 4=some ti4:=by kernel_rfl
def ti5:TI:=⟨Kd.int IntKind.u8,1,1,Value.int IntKind.u8 0⟩
theorem tf5:qr Tryz.prog 5=some ti5:=by kernel_rfl
def ti6:TI:=⟨Kd.int IntKind.u8,1,1,Value.int IntKind.u8 0⟩
theorem tf6:qr Tryz.prog 6=some ti6:=by kernel_rfl
def ti7:TI:=⟨Kd.stru [(0,2),(1,3),(2,4),(3,6)],4,24,Value.agg ⟨[Value.int IntKind.i64 0,Value.int IntKind.i64 0,Value.bool false,Value.int IntKind.u8 0]⟩⟩
theorem tf7:qr Tryz.prog 7=some ti7:=by kernel_rfl
def ti8:TI:=⟨Kd.stru [(0,2),(1,3),(2,4),(3,6)],4,24,Value.agg ⟨[Value.int IntKind.i64 0,Value.int IntKind.i64 0,Value.bool false,Value.int IntKind.u8 0]⟩⟩
theorem tf8:qr Tryz.prog 8=some ti8:=by kernel_rfl
def ti9:TI:=⟨Kd.str,1,16,Value.string {data:=⟨[]⟩}⟩
theorem tf9:qr Tryz.prog 9=some ti9:=by kernel_rfl
def aDB:TI:=⟨Kd.str,1,16,Value.string {data:=⟨[]⟩}⟩
theorem bcP:qr Tryz.prog 10=some aDB:=by kernel_rfl
def aDA:TI:=⟨Kd.str,1,16,Value.string {data:=⟨[]⟩}⟩
theorem bcO:qr Tryz.prog 11=some aDA:=by kernel_rfl
def aDz:TI:=⟨Kd.int IntKind.u64,1,8,Value.int IntKind.u64 0⟩
theorem bcN:qr Tryz.prog 12=some aDz:=by kernel_rfl
def aDy:TI:=⟨Kd.int IntKind.i32,1,4,Value.int IntKind.i32 0⟩
theorem bcM:qr Tryz.prog 21=some aDy:=by kernel_rfl
def ad5:TI:=⟨Kd.sli 5,1,24,Value.slice none 0 0⟩
theorem aDD:qr Tryz.prog 22=some ad5:=by kernel_rfl
def Jt:TI:=⟨Kd.sli 3,1,24,Value.slice none 0 0⟩
theorem ad6:qr Tryz.prog 23=some Jt:=by kernel_rfl
def aqN:TI:=⟨Kd.stru [(0,23)],1,24,Value.agg ⟨[Value.slice none 0 0]⟩⟩
theorem aWg:qr Tryz.prog 24=some aqN:=by kernel_rfl
def aam:TI:=⟨Kd.stru [(0,23)],1,24,Value.agg ⟨[Value.slice none 0 0]⟩⟩
theorem azU:qr Tryz.prog 25=some aam:=by kernel_rfl
def akZ:TI:=⟨Kd.stru [(0,4),(1,25)],2,32,Value.agg ⟨[Value.bool false,Value.slice none 0 0]⟩⟩
theorem aTf:qr Tryz.prog 26=some akZ:=by kernel_rfl
def Y4:TI:=⟨Kd.stru [(0,4),(1,25)],2,32,Value.agg ⟨[Value.bool false,Value.slice none 0 0]⟩⟩
theorem aqO:qr Tryz.prog 27=some Y4:=by kernel_rfl
def akM:TI:=⟨Kd.stru [(0,27),(2,3)],3,40,Value.agg ⟨[Value.bool false,Value.slice none 0 0,Value.int IntKind.i64 0]⟩⟩
theorem aTe:qr Tryz.prog 28=some akM:=by kernel_rfl
def Zb:TI:=⟨Kd.stru [(0,27),(2,3)],3,40,Value.agg ⟨[Value.bool false,Value.slice none 0 0,Value.int IntKind.i64 0]⟩⟩
theorem Kk:qr Tryz.prog 29=some Zb:=by kernel_rfl
def aDx:TI:=⟨Kd.oth,1,8,Value.nilFunc⟩
theorem bcL:qr Tryz.prog 31=some aDx:=by kernel_rfl
def aDw:TI:=⟨Kd.oth,1,8,Value.nilFunc⟩
theorem bcK:qr Tryz.prog 33=some aDw:=by kernel_rfl
def aDv:TI:=⟨Kd.oth,1,8,Value.nilFunc⟩
theorem bcJ:qr Tryz.prog 34=some aDv:=by kernel_rfl
def aDu:TI:=⟨Kd.oth,1,8,Value.nilFunc⟩
theorem bcI:qr Tryz.prog 35=some aDu:=by kernel_rfl
def aDt:TI:=⟨Kd.oth,1,8,Value.nilFunc⟩
theorem bcH:qr Tryz.prog 36=some aDt:=by kernel_rfl
def aDs:TI:=⟨Kd.oth,1,8,Value.nilFunc⟩
theorem bcG:qr Tryz.prog 37=some aDs:=by kernel_rfl
def aDr:TI:=⟨Kd.oth,1,8,Value.nilFunc⟩
theorem bcF:qr Tryz.prog 38=some aDr:=by kernel_rfl
def aDq:TI:=⟨Kd.oth,1,8,Value.nilFunc⟩
theorem bcE:qr Tryz.prog 39=some aDq:=by kernel_rfl
def ad4:TI:=⟨Kd.sli 29,1,24,Value.slice none 0 0⟩
theorem aDC:qr Tryz.prog 40=some ad4:=by kernel_rfl
def akx:TI:=⟨Kd.stru [(0,3),(1,40)],2,32,Value.agg ⟨[Value.int IntKind.i64 0,Value.slice none 0 0]⟩⟩
theorem aTd:qr Tryz.prog 41=some akx:=by kernel_rfl
def akv:TI:=⟨Kd.stru [(0,3),(1,40)],2,32,Value.agg ⟨[Value.int IntKind.i64 0,Value.slice none 0 0]⟩⟩
theorem aTc:qr Tryz.prog 42=some akv:=by kernel_rfl
def aDp:TI:=⟨Kd.oth,1,8,Value.nilFunc⟩
theorem bcD:qr Tryz.prog 44=some aDp:=by kernel_rfl
def aDo:TI:=⟨Kd.oth,1,8,Value.nilFunc⟩
theorem bcC:qr Tryz.prog 45=some aDo:=by kernel_rfl
def aDn:TI:=⟨Kd.oth,1,8,Value.nilFunc⟩
theorem bcB:qr Tryz.prog 47=some aDn:=by kernel_rfl
def aDm:TI:=⟨Kd.oth,1,8,Value.nilFunc⟩
theorem bcA:qr Tryz.prog 48=some aDm:=by kernel_rfl
def akp:TI:=⟨Kd.stru [(0,29),(3,29)],6,80,Value.agg ⟨[Value.bool false,Value.slice none 0 0,Value.int IntKind.i64 0,Value.bool false,Value.slice none 0 0,Value.int IntKind.i64 0]⟩⟩
theorem aTb:qr Tryz.prog 49=some akp:=by kernel_rfl
def ajs:TI:=⟨Kd.stru [(0,29),(3,29)],6,80,Value.agg ⟨[Value.bool false,Value.slice none 0 0,Value.int IntKind.i64 0,Value.bool false,Value.slice none 0 0,Value.int IntKind.i64 0]⟩⟩
theorem aMR:qr Tryz.prog 50=some ajs:=by kernel_rfl
def aDl:TI:=⟨Kd.oth,1,8,Value.nilFunc⟩
theorem bcz:qr Tryz.prog 52=some aDl:=by kernel_rfl
def aDk:TI:=⟨Kd.oth,1,8,Value.nilFunc⟩
theorem bcy:qr Tryz.prog 54=some aDk:=by kernel_rfl
def aDj:TI:=⟨Kd.oth,1,8,Value.nilFunc⟩
theorem bcx:qr Tryz.prog 55=some aDj:=by kernel_rfl
def aDi:TI:=⟨Kd.oth,1,8,Value.nilFunc⟩
theorem bcw:qr Tryz.prog 56=some aDi:=by kernel_rfl
def aDh:TI:=⟨Kd.oth,1,8,Value.nilFunc⟩
theorem bcv:qr Tryz.prog 57=some aDh:=by kernel_rfl
def aDg:TI:=⟨Kd.oth,1,8,Value.nilFunc⟩
theorem bcu:qr Tryz.prog 58=some aDg:=by kernel_rfl
def aDf:TI:=⟨Kd.oth,1,8,Value.nilFunc⟩
theorem bct:qr Tryz.prog 59=some aDf:=by kernel_rfl
def aDe:TI:=⟨Kd.oth,1,8,Value.nilFunc⟩
theorem bcs:qr Tryz.prog 60=some aDe:=by kernel_rfl
def aDd:TI:=⟨Kd.oth,1,8,Value.nilFunc⟩
theorem bcr:qr Tryz.prog 61=some aDd:=by kernel_rfl
def ae7:TI:=⟨Kd.stru [(0,3),(1,4),(2,3),(3,3)],4,32,Value.agg ⟨[Value.int IntKind.i64 0,Value.bool false,Value.int IntKind.i64 0,Value.int IntKind.i64 0]⟩⟩
theorem aL3:qr Tryz.prog 62=some ae7:=by kernel_rfl
def ad3:TI:=⟨Kd.stru [(0,3),(1,4),(2,3),(3,3)],4,32,Value.agg ⟨[Value.int IntKind.i64 0,Value.bool false,Value.int IntKind.i64 0,Value.int IntKind.i64 0]⟩⟩
theorem aHZ:qr Tryz.prog 63=some ad3:=by kernel_rfl
def aDc:TI:=⟨Kd.oth,1,8,Value.nilFunc⟩
theorem bcq:qr Tryz.prog 65=some aDc:=by kernel_rfl
def aDb:TI:=⟨Kd.oth,1,8,Value.nilFunc⟩
theorem bcp:qr Tryz.prog 67=some aDb:=by kernel_rfl
def aDa:TI:=⟨Kd.oth,1,8,Value.nilFunc⟩
theorem bco:qr Tryz.prog 68=some aDa:=by kernel_rfl
def aC9:TI:=⟨Kd.oth,1,8,Value.nilFunc⟩
theorem bcn:qr Tryz.prog 69=some aC9:=by kernel_rfl
def aC8:TI:=⟨Kd.oth,1,8,Value.nilFunc⟩
theorem bcm:qr Tryz.prog 70=some aC8:=by kernel_rfl
def aC7:TI:=⟨Kd.oth,1,8,Value.nilFunc⟩
theorem bcl:qr Tryz.prog 71=some aC7:=by kernel_rfl
def aC6:TI:=⟨Kd.oth,1,8,Value.nilFunc⟩
theorem bck:qr Tryz.prog 72=some aC6:=by kernel_rfl
def aC5:TI:=⟨Kd.oth,1,8,Value.nilFunc⟩
theorem bcj:qr Tryz.prog 74=some aC5:=by kernel_rfl
def aC4:TI:=⟨Kd.oth,1,8,Value.nilFunc⟩
theorem bci:qr Tryz.prog 76=some aC4:=by kernel_rfl
def aC3:TI:=⟨Kd.oth,1,8,Value.nilFunc⟩
theorem bch:qr Tryz.prog 77=some aC3:=by kernel_rfl
def aC2:TI:=⟨Kd.oth,1,8,Value.nilFunc⟩
theorem bcg:qr Tryz.prog 79=some aC2:=by kernel_rfl
def aC1:TI:=⟨Kd.oth,1,8,Value.nilFunc⟩
theorem bcf:qr Tryz.prog 80=some aC1:=by kernel_rfl
def aC0:TI:=⟨Kd.oth,1,8,Value.nilFunc⟩
theorem bce:qr Tryz.prog 82=some aC0:=by kernel_rfl
def aCZ:TI:=⟨Kd.oth,1,8,Value.nilFunc⟩
theorem bcd:qr Tryz.prog 83=some aCZ:=by kernel_rfl
def aCY:TI:=⟨Kd.oth,1,8,Value.nilFunc⟩
theorem bcc:qr Tryz.prog 84=some aCY:=by kernel_rfl
def aCX:TI:=⟨Kd.oth,1,8,Value.nilFunc⟩
theorem bcb:qr Tryz.prog 85=some aCX:=by kernel_rfl
def aCW:TI:=⟨Kd.oth,1,8,Value.nilFunc⟩
theorem bca:qr Tryz.prog 86=some aCW:=by kernel_rfl
def aCV:TI:=⟨Kd.oth,1,8,Value.nilFunc⟩
theorem bb9:qr Tryz.prog 87=some aCV:=by kernel_rfl
def aCU:TI:=⟨Kd.oth,1,8,Value.nilFunc⟩
theorem bb8:qr Tryz.prog 88=some aCU:=by kernel_rfl
def ajr:TI:=⟨Kd.stru [(0,4),(1,23),(2,3)],3,40,Value.agg ⟨[Value.bool false,Value.slice none 0 0,Value.int IntKind.i64 0]⟩⟩
theorem aMQ:qr Tryz.prog 89=some ajr:=by kernel_rfl
def Q2:TI:=⟨Kd.stru [(0,4),(1,23),(2,3)],3,40,Value.agg ⟨[Value.bool false,Value.slice none 0 0,Value.int IntKind.i64 0]⟩⟩
theorem YZ:qr Tryz.prog 90=some Q2:=by kernel_rfl
def aCT:TI:=⟨Kd.oth,1,8,Value.nilFunc⟩
theorem bb7:qr Tryz.prog 92=some aCT:=by kernel_rfl
def aCS:TI:=⟨Kd.oth,1,8,Value.nilFunc⟩
theorem bb6:qr Tryz.prog 93=some aCS:=by kernel_rfl
def aCR:TI:=⟨Kd.oth,1,8,Value.nilFunc⟩
theorem bb5:qr Tryz.prog 94=some aCR:=by kernel_rfl
def aCQ:TI:=⟨Kd.oth,1,8,Value.nilFunc⟩
theorem bb4:qr Tryz.prog 95=some aCQ:=by kernel_rfl
def aCP:TI:=⟨Kd.oth,1,8,Value.nilFunc⟩
theorem bb3:qr Tryz.prog 97=some aCP:=by kernel_rfl
def aCO:TI:=⟨Kd.oth,1,8,Value.nilFunc⟩
theorem bb2:qr Tryz.prog 98=some aCO:=by kernel_rfl
def aCN:TI:=⟨Kd.oth,1,8,Value.nilFunc⟩
theorem bb1:qr Tryz.prog 99=some aCN:=by kernel_rfl
def yP:TI:=⟨Kd.sli 90,1,24,Value.slice none 0 0⟩
theorem J4:qr Tryz.prog 100=some yP:=by kernel_rfl
def Zv:TI:=⟨Kd.stru [(0,3),(1,100)],2,32,Value.agg ⟨[Value.int IntKind.i64 0,Value.slice none 0 0]⟩⟩
theorem az1:qr Tryz.prog 101=some Zv:=by kernel_rfl
def Zu:TI:=⟨Kd.stru [(0,3),(1,100)],2,32,Value.agg ⟨[Value.int IntKind.i64 0,Value.slice none 0 0]⟩⟩
theorem az0:qr Tryz.prog 102=some Zu:=by kernel_rfl
def Kj:TI:=⟨Kd.oth,1,8,Value.nilFunc⟩
theorem aX5:qr Tryz.prog 103=some Kj:=by kernel_rfl
def Ki:TI:=⟨Kd.oth,1,8,Value.nilFunc⟩
theorem aX4:qr Tryz.prog 104=some Ki:=by kernel_rfl
def Kh:TI:=⟨Kd.oth,1,8,Value.nilFunc⟩
theorem aX3:qr Tryz.prog 105=some Kh:=by kernel_rfl
def Kg:TI:=⟨Kd.oth,1,8,Value.nilFunc⟩
theorem aX2:qr Tryz.prog 106=some Kg:=by kernel_rfl
def Kf:TI:=⟨Kd.oth,1,8,Value.nilFunc⟩
theorem aX1:qr Tryz.prog 107=some Kf:=by kernel_rfl
def Ke:TI:=⟨Kd.oth,1,8,Value.nilFunc⟩
theorem aX0:qr Tryz.prog 108=some Ke:=by kernel_rfl
def Kc:TI:=⟨Kd.oth,1,8,Value.nilFunc⟩
theorem aXZ:qr Tryz.prog 109=some Kc:=by kernel_rfl
def Zt:TI:=⟨Kd.stru [(0,90),(3,90)],6,80,Value.agg ⟨[Value.bool false,Value.slice none 0 0,Value.int IntKind.i64 0,Value.bool false,Value.slice none 0 0,Value.int IntKind.i64 0]⟩⟩
theorem azZ:qr Tryz.prog 110=some Zt:=by kernel_rfl
def Q5:TI:=⟨Kd.stru [(0,90),(3,90)],6,80,Value.agg ⟨[Value.bool false,Value.slice none 0 0,Value.int IntKind.i64 0,Value.bool false,Value.slice none 0 0,Value.int IntKind.i64 0]⟩⟩
theorem anC:qr Tryz.prog 111=some Q5:=by kernel_rfl
def Kb:TI:=⟨Kd.oth,1,8,Value.nilFunc⟩
theorem aXY:qr Tryz.prog 113=some Kb:=by kernel_rfl
def Ka:TI:=⟨Kd.oth,1,8,Value.nilFunc⟩
theorem aXX:qr Tryz.prog 114=some Ka:=by kernel_rfl
def V9:TI:=⟨Kd.oth,1,8,Value.nilFunc⟩
theorem aXW:qr Tryz.prog 115=some V9:=by kernel_rfl
def V8:TI:=⟨Kd.oth,1,8,Value.nilFunc⟩
theorem aXV:qr Tryz.prog 116=some V8:=by kernel_rfl
def V7:TI:=⟨Kd.oth,1,8,Value.nilFunc⟩
theorem aXU:qr Tryz.prog 117=some V7:=by kernel_rfl
def V6:TI:=⟨Kd.oth,1,8,Value.nilFunc⟩
theorem aXT:qr Tryz.prog 118=some V6:=by kernel_rfl
def V5:TI:=⟨Kd.oth,1,8,Value.nilFunc⟩
theorem aXS:qr Tryz.prog 119=some V5:=by kernel_rfl
def V4:TI:=⟨Kd.oth,1,8,Value.nilFunc⟩
theorem aXR:qr Tryz.prog 120=some V4:=by kernel_rfl
def V3:TI:=⟨Kd.oth,1,8,Value.nilFunc⟩
theorem aXQ:qr Tryz.prog 121=some V3:=by kernel_rfl
def V2:TI:=⟨Kd.oth,1,8,Value.nilFunc⟩
theorem aXP:qr Tryz.prog 122=some V2:=by kernel_rfl
def V1:TI:=⟨Kd.oth,1,8,Value.nilFunc⟩
theorem aXO:qr Tryz.prog 123=some V1:=by kernel_rfl
def V0:TI:=⟨Kd.oth,1,8,Value.nilFunc⟩
theorem aXN:qr Tryz.prog 124=some V0:=by kernel_rfl
def VZ:TI:=⟨Kd.oth,1,8,Value.nilFunc⟩
theorem aXM:qr Tryz.prog 125=some VZ:=by kernel_rfl
def VY:TI:=⟨Kd.oth,1,8,Value.nilFunc⟩
theorem aXL:qr Tryz.prog 126=some VY:=by kernel_rfl
def VX:TI:=⟨Kd.oth,1,8,Value.nilFunc⟩
theorem aXK:qr Tryz.prog 127=some VX:=by kernel_rfl
def VW:TI:=⟨Kd.oth,1,8,Value.nilFunc⟩
theorem aXJ:qr Tryz.prog 128=some VW:=by kernel_rfl
def VV:TI:=⟨Kd.oth,1,8,Value.nilFunc⟩
theorem aXI:qr Tryz.prog 129=some VV:=by kernel_rfl
def VU:TI:=⟨Kd.oth,1,8,Value.nilFunc⟩
theorem aXH:qr Tryz.prog 130=some VU:=by kernel_rfl
def VT:TI:=⟨Kd.oth,1,8,Value.nilFunc⟩
theorem aXG:qr Tryz.prog 131=some VT:=by kernel_rfl
def VS:TI:=⟨Kd.int IntKind.u64,1,8,Value.int IntKind.u64 0⟩
theorem aXF:qr Tryz.prog 132=some VS:=by kernel_rfl
def VR:TI:=⟨Kd.oth,1,8,Value.nilFunc⟩
theorem aXE:qr Tryz.prog 133=some VR:=by kernel_rfl
def VQ:TI:=⟨Kd.oth,1,8,Value.nilFunc⟩
theorem aXD:qr Tryz.prog 135=some VQ:=by kernel_rfl
def VP:TI:=⟨Kd.oth,1,8,Value.nilFunc⟩
theorem aXC:qr Tryz.prog 136=some VP:=by kernel_rfl
def VO:TI:=⟨Kd.oth,1,8,Value.nilFunc⟩
theorem aXB:qr Tryz.prog 137=some VO:=by kernel_rfl
def VN:TI:=⟨Kd.oth,1,8,Value.nilFunc⟩
theorem aXA:qr Tryz.prog 138=some VN:=by kernel_rfl
def VM:TI:=⟨Kd.oth,1,8,Value.nilFunc⟩
theorem aXz:qr Tryz.prog 139=some VM:=by kernel_rfl
def VL:TI:=⟨Kd.oth,1,8,Value.nilFunc⟩
theorem aXy:qr Tryz.prog 140=some VL:=by kernel_rfl
def VK:TI:=⟨Kd.oth,1,8,Value.nilFunc⟩
theorem aXx:qr Tryz.prog 141=some VK:=by kernel_rfl
def Q4:TI:=⟨Kd.stru [(0,22),(1,3),(2,3)],3,40,Value.agg ⟨[Value.slice none 0 0,Value.int IntKind.i64 0,Value.int IntKind.i64 0]⟩⟩
theorem anB:qr Tryz.prog 142=some Q4:=by kernel_rfl
def Q3:TI:=⟨Kd.stru [(0,22),(1,3),(2,3)],3,40,Value.agg ⟨[Value.slice none 0 0,Value.int IntKind.i64 0,Value.int IntKind.i64 0]⟩⟩
theorem anA:qr Tryz.prog 143=some Q3:=by kernel_rfl
def VJ:TI:=⟨Kd.oth,1,8,Value.nilFunc⟩
theorem aXw:qr Tryz.prog 144=some VJ:=by kernel_rfl
def VI:TI:=⟨Kd.oth,1,8,Value.nilFunc⟩
theorem aXv:qr Tryz.prog 145=some VI:=by kernel_rfl
def VH:TI:=⟨Kd.oth,1,8,Value.nilFunc⟩
theorem aXu:qr Tryz.prog 146=some VH:=by kernel_rfl
def VG:TI:=⟨Kd.oth,1,8,Value.nilFunc⟩
theorem aXt:qr Tryz.prog 147=some VG:=by kernel_rfl
def VF:TI:=⟨Kd.oth,1,8,Value.nilFunc⟩
theorem aXs:qr Tryz.prog 148=some VF:=by kernel_rfl
def VE:TI:=⟨Kd.oth,1,8,Value.nilFunc⟩
theorem aXr:qr Tryz.prog 150=some VE:=by kernel_rfl
def VD:TI:=⟨Kd.oth,1,8,Value.nilFunc⟩
theorem aXq:qr Tryz.prog 152=some VD:=by kernel_rfl
def VC:TI:=⟨Kd.oth,1,8,Value.nilFunc⟩
theorem aXp:qr Tryz.prog 153=some VC:=by kernel_rfl
def VB:TI:=⟨Kd.oth,1,8,Value.nilFunc⟩
theorem aXo:qr Tryz.prog 154=some VB:=by kernel_rfl
def y5:TI:=⟨Kd.sli 111,1,24,Value.slice none 0 0⟩
theorem Km:qr Tryz.prog 155=some y5:=by kernel_rfl
def Zs:TI:=⟨Kd.stru [(0,3),(1,155)],2,32,Value.agg ⟨[Value.int IntKind.i64 0,Value.slice none 0 0]⟩⟩
theorem azY:qr Tryz.prog 156=some Zs:=by kernel_rfl
def Zr:TI:=⟨Kd.stru [(0,3),(1,155)],2,32,Value.agg ⟨[Value.int IntKind.i64 0,Value.slice none 0 0]⟩⟩
theorem azX:qr Tryz.prog 157=some Zr:=by kernel_rfl
def VA:TI:=⟨Kd.oth,1,8,Value.nilFunc⟩
theorem aXn:qr Tryz.prog 158=some VA:=by kernel_rfl
def y4:TI:=⟨Kd.sli 50,1,24,Value.slice none 0 0⟩
theorem Kl:qr Tryz.prog 159=some y4:=by kernel_rfl
def Zq:TI:=⟨Kd.stru [(0,3),(1,159)],2,32,Value.agg ⟨[Value.int IntKind.i64 0,Value.slice none 0 0]⟩⟩
theorem azW:qr Tryz.prog 160=some Zq:=by kernel_rfl
def Zp:TI:=⟨Kd.stru [(0,3),(1,159)],2,32,Value.agg ⟨[Value.int IntKind.i64 0,Value.slice none 0 0]⟩⟩
theorem azV:qr Tryz.prog 161=some Zp:=by kernel_rfl
def Vz:TI:=⟨Kd.oth,1,8,Value.nilFunc⟩
theorem aXm:qr Tryz.prog 163=some Vz:=by kernel_rfl
def Vy:TI:=⟨Kd.oth,1,8,Value.nilFunc⟩
theorem aXl:qr Tryz.prog 164=some Vy:=by kernel_rfl
def Vx:TI:=⟨Kd.oth,1,8,Value.nilFunc⟩
theorem aXk:qr Tryz.prog 165=some Vx:=by kernel_rfl
def Vw:TI:=⟨Kd.oth,1,8,Value.nilFunc⟩
theorem aXj:qr Tryz.prog 166=some Vw:=by kernel_rfl
def Vv:TI:=⟨Kd.oth,1,8,Value.nilFunc⟩
theorem aXi:qr Tryz.prog 167=some Vv:=by kernel_rfl
def Vu:TI:=⟨Kd.oth,1,8,Value.nilFunc⟩
theorem aXh:qr Tryz.prog 169=some Vu:=by kernel_rfl
def Vt:TI:=⟨Kd.oth,1,8,Value.nilFunc⟩
theorem aXg:qr Tryz.prog 170=some Vt:=by kernel_rfl
def Vs:TI:=⟨Kd.oth,1,8,Value.nilFunc⟩
theorem aXf:qr Tryz.prog 171=some Vs:=by kernel_rfl
def Vr:TI:=⟨Kd.oth,1,8,Value.nilFunc⟩
theorem aXe:qr Tryz.prog 172=some Vr:=by kernel_rfl
def Vq:TI:=⟨Kd.oth,1,8,Value.nilFunc⟩
theorem aXd:qr Tryz.prog 173=some Vq:=by kernel_rfl
def Vp:TI:=⟨Kd.oth,1,8,Value.nilFunc⟩
theorem aXc:qr Tryz.prog 174=some Vp:=by kernel_rfl
def Vo:TI:=⟨Kd.oth,1,8,Value.nilFunc⟩
theorem aXb:qr Tryz.prog 176=some Vo:=by kernel_rfl
def Vn:TI:=⟨Kd.oth,1,8,Value.nilFunc⟩
theorem aXa:qr Tryz.prog 177=some Vn:=by kernel_rfl
def Vm:TI:=⟨Kd.oth,1,8,Value.nilFunc⟩
theorem aW9:qr Tryz.prog 178=some Vm:=by kernel_rfl
def Vl:TI:=⟨Kd.oth,1,8,Value.nilFunc⟩
theorem aW8:qr Tryz.prog 179=some Vl:=by kernel_rfl
def Vk:TI:=⟨Kd.oth,1,8,Value.nilFunc⟩
theorem aW7:qr Tryz.prog 180=some Vk:=by kernel_rfl
def Vj:TI:=⟨Kd.oth,1,8,Value.nilFunc⟩
theorem aW6:qr Tryz.prog 181=some Vj:=by kernel_rfl
def Vi:TI:=⟨Kd.oth,1,8,Value.nilFunc⟩
theorem aW5:qr Tryz.prog 183=some Vi:=by kernel_rfl
def Vh:TI:=⟨Kd.oth,1,8,Value.nilFunc⟩
theorem aW4:qr Tryz.prog 184=some Vh:=by kernel_rfl
def Vg:TI:=⟨Kd.sli 63,1,24,Value.slice none 0 0⟩
theorem aMT:qr Tryz.prog 185=some Vg:=by kernel_rfl
def Vf:TI:=⟨Kd.oth,1,8,Value.nilFunc⟩
theorem aW3:qr Tryz.prog 186=some Vf:=by kernel_rfl
def Ve:TI:=⟨Kd.oth,1,8,Value.nilFunc⟩
theorem aW2:qr Tryz.prog 187=some Ve:=by kernel_rfl
def Vd:TI:=⟨Kd.oth,1,8,Value.nilFunc⟩
theorem aW1:qr Tryz.prog 188=some Vd:=by kernel_rfl
def Vc:TI:=⟨Kd.oth,1,8,Value.nilFunc⟩
theorem aW0:qr Tryz.prog 189=some Vc:=by kernel_rfl
def Vb:TI:=⟨Kd.oth,1,8,Value.nilFunc⟩
theorem aWZ:qr Tryz.prog 190=some Vb:=by kernel_rfl
def Va:TI:=⟨Kd.oth,1,8,Value.nilFunc⟩
theorem aWY:qr Tryz.prog 191=some Va:=by kernel_rfl
def X9:TI:=⟨Kd.oth,1,8,Value.nilFunc⟩
theorem aWX:qr Tryz.prog 192=some X9:=by kernel_rfl
def X8:TI:=⟨Kd.oth,1,8,Value.nilFunc⟩
theorem aWW:qr Tryz.prog 193=some X8:=by kernel_rfl
def X7:TI:=⟨Kd.oth,1,8,Value.nilFunc⟩
theorem aWV:qr Tryz.prog 194=some X7:=by kernel_rfl
def X6:TI:=⟨Kd.oth,1,8,Value.nilFunc⟩
theorem aWU:qr Tryz.prog 195=some X6:=by kernel_rfl
def X5:TI:=⟨Kd.oth,1,8,Value.nilFunc⟩
theorem aWT:qr Tryz.prog 196=some X5:=by kernel_rfl
def X4:TI:=⟨Kd.oth,1,8,Value.nilFunc⟩
theorem aWS:qr Tryz.prog 197=some X4:=by kernel_rfl
def X3:TI:=⟨Kd.oth,1,8,Value.nilFunc⟩
theorem aWR:qr Tryz.prog 198=some X3:=by kernel_rfl
def X2:TI:=⟨Kd.oth,1,8,Value.nilFunc⟩
theorem aWQ:qr Tryz.prog 199=some X2:=by kernel_rfl
def X1:TI:=⟨Kd.oth,1,8,Value.nilFunc⟩
theorem aWP:qr Tryz.prog 200=some X1:=by kernel_rfl
def X0:TI:=⟨Kd.oth,1,8,Value.nilFunc⟩
theorem aWO:qr Tryz.prog 201=some X0:=by kernel_rfl
def XZ:TI:=⟨Kd.oth,1,8,Value.nilFunc⟩
theorem aWN:qr Tryz.prog 202=some XZ:=by kernel_rfl
def XY:TI:=⟨Kd.oth,1,8,Value.nilFunc⟩
theorem aWM:qr Tryz.prog 203=some XY:=by kernel_rfl
def XX:TI:=⟨Kd.oth,1,8,Value.nilFunc⟩
theorem aWL:qr Tryz.prog 204=some XX:=by kernel_rfl
def XW:TI:=⟨Kd.oth,1,8,Value.nilFunc⟩
theorem aWK:qr Tryz.prog 205=some XW:=by kernel_rfl
def XV:TI:=⟨Kd.oth,1,8,Value.nilFunc⟩
theorem aWJ:qr Tryz.prog 206=some XV:=by kernel_rfl
def XU:TI:=⟨Kd.oth,1,8,Value.nilFunc⟩
theorem aWI:qr Tryz.prog 208=some XU:=by kernel_rfl
def XT:TI:=⟨Kd.oth,1,8,Value.nilFunc⟩
theorem aWH:qr Tryz.prog 209=some XT:=by kernel_rfl
def XS:TI:=⟨Kd.oth,1,8,Value.nilFunc⟩
theorem aWG:qr Tryz.prog 210=some XS:=by kernel_rfl
def XR:TI:=⟨Kd.oth,1,8,Value.nilFunc⟩
theorem aWF:qr Tryz.prog 211=some XR:=by kernel_rfl
def XQ:TI:=⟨Kd.oth,1,8,Value.nilFunc⟩
theorem aWE:qr Tryz.prog 212=some XQ:=by kernel_rfl
def XP:TI:=⟨Kd.oth,1,8,Value.nilFunc⟩
theorem aWD:qr Tryz.prog 213=some XP:=by kernel_rfl
def XO:TI:=⟨Kd.oth,1,8,Value.nilFunc⟩
theorem aWC:qr Tryz.prog 214=some XO:=by kernel_rfl
def XN:TI:=⟨Kd.oth,1,8,Value.nilFunc⟩
theorem aWB:qr Tryz.prog 215=some XN:=by kernel_rfl
def XM:TI:=⟨Kd.oth,1,8,Value.nilFunc⟩
theorem aWA:qr Tryz.prog 216=some XM:=by kernel_rfl
def XL:TI:=⟨Kd.oth,1,8,Value.nilFunc⟩
theorem aWz:qr Tryz.prog 217=some XL:=by kernel_rfl
def XK:TI:=⟨Kd.oth,1,8,Value.nilFunc⟩
theorem aWy:qr Tryz.prog 218=some XK:=by kernel_rfl
def XJ:TI:=⟨Kd.oth,1,8,Value.nilFunc⟩
theorem aWx:qr Tryz.prog 220=some XJ:=by kernel_rfl
def XI:TI:=⟨Kd.oth,1,8,Value.nilFunc⟩
theorem aWw:qr Tryz.prog 221=some XI:=by kernel_rfl
def XH:TI:=⟨Kd.sli 100,1,24,Value.slice none 0 0⟩
theorem aMS:qr Tryz.prog 222=some XH:=by kernel_rfl
def XG:TI:=⟨Kd.oth,1,8,Value.nilFunc⟩
theorem aWv:qr Tryz.prog 223=some XG:=by kernel_rfl
def XF:TI:=⟨Kd.oth,1,8,Value.nilFunc⟩
theorem aWu:qr Tryz.prog 224=some XF:=by kernel_rfl
def XE:TI:=⟨Kd.oth,1,8,Value.nilFunc⟩
theorem aWt:qr Tryz.prog 225=some XE:=by kernel_rfl
def XD:TI:=⟨Kd.oth,1,8,Value.nilFunc⟩
theorem aWs:qr Tryz.prog 226=some XD:=by kernel_rfl
def XC:TI:=⟨Kd.oth,1,8,Value.nilFunc⟩
theorem aWr:qr Tryz.prog 227=some XC:=by kernel_rfl
def XB:TI:=⟨Kd.oth,1,8,Value.nilFunc⟩
theorem aWq:qr Tryz.prog 228=some XB:=by kernel_rfl
def XA:TI:=⟨Kd.oth,1,8,Value.nilFunc⟩
theorem aWp:qr Tryz.prog 229=some XA:=by kernel_rfl
def Xz:TI:=⟨Kd.oth,1,8,Value.nilFunc⟩
theorem aWo:qr Tryz.prog 230=some Xz:=by kernel_rfl
def Xy:TI:=⟨Kd.oth,1,8,Value.nilFunc⟩
theorem aWn:qr Tryz.prog 232=some Xy:=by kernel_rfl
def Xx:TI:=⟨Kd.oth,1,8,Value.nilFunc⟩
theorem aWm:qr Tryz.prog 233=some Xx:=by kernel_rfl
def Xw:TI:=⟨Kd.oth,1,8,Value.nilFunc⟩
theorem aWl:qr Tryz.prog 234=some Xw:=by kernel_rfl
def Xv:TI:=⟨Kd.oth,1,8,Value.nilFunc⟩
theorem aWk:qr Tryz.prog 235=some Xv:=by kernel_rfl
def Xu:TI:=⟨Kd.oth,1,8,Value.nilFunc⟩
theorem aWj:qr Tryz.prog 237=some Xu:=by kernel_rfl
def Xt:TI:=⟨Kd.oth,1,8,Value.nilFunc⟩
theorem aWi:qr Tryz.prog 238=some Xt:=by kernel_rfl
def Xs:TI:=⟨Kd.oth,1,8,Value.nilFunc⟩
theorem aWh:qr Tryz.prog 239=some Xs:=by kernel_rfl
def Xr:TI:=⟨Kd.oth,1,8,Value.nilFunc⟩
theorem aWf:qr Tryz.prog 240=some Xr:=by kernel_rfl
def Xq:TI:=⟨Kd.oth,1,8,Value.nilFunc⟩
theorem aWe:qr Tryz.prog 241=some Xq:=by kernel_rfl
def Xp:TI:=⟨Kd.int IntKind.u32,1,4,Value.int IntKind.u32 0⟩
theorem aWd:qr Tryz.prog 242=some Xp:=by kernel_rfl
def Xo:TI:=⟨Kd.oth,1,8,Value.nilFunc⟩
theorem aWc:qr Tryz.prog 243=some Xo:=by kernel_rfl
def Xn:TI:=⟨Kd.int IntKind.u64,1,8,Value.int IntKind.u64 0⟩
theorem aWb:qr Tryz.prog 244=some Xn:=by kernel_rfl
def Xm:TI:=⟨Kd.oth,1,8,Value.nilFunc⟩
theorem aWa:qr Tryz.prog 245=some Xm:=by kernel_rfl
def Xl:TI:=⟨Kd.oth,1,8,Value.nilFunc⟩
theorem aV9:qr Tryz.prog 247=some Xl:=by kernel_rfl
def Xk:TI:=⟨Kd.oth,1,8,Value.nilFunc⟩
theorem aV8:qr Tryz.prog 248=some Xk:=by kernel_rfl
def Xj:TI:=⟨Kd.oth,1,8,Value.nilFunc⟩
theorem aV7:qr Tryz.prog 249=some Xj:=by kernel_rfl
def Xi:TI:=⟨Kd.oth,1,8,Value.nilFunc⟩
theorem aV6:qr Tryz.prog 250=some Xi:=by kernel_rfl
def Xh:TI:=⟨Kd.oth,1,8,Value.nilFunc⟩
theorem aV5:qr Tryz.prog 251=some Xh:=by kernel_rfl
def Xg:TI:=⟨Kd.oth,1,8,Value.nilFunc⟩
theorem aV4:qr Tryz.prog 252=some Xg:=by kernel_rfl
def Xf:TI:=⟨Kd.oth,1,8,Value.nilFunc⟩
theorem aV3:qr Tryz.prog 253=some Xf:=by kernel_rfl
def Xe:TI:=⟨Kd.oth,1,8,Value.nilFunc⟩
theorem aV2:qr Tryz.prog 254=some Xe:=by kernel_rfl
def Xd:TI:=⟨Kd.oth,1,8,Value.nilFunc⟩
theorem aV1:qr Tryz.prog 255=some Xd:=by kernel_rfl
def Xc:TI:=⟨Kd.oth,1,8,Value.nilFunc⟩
theorem aV0:qr Tryz.prog 258=some Xc:=by kernel_rfl
def Xb:TI:=⟨Kd.stru [(0,261)],0,0,Value.agg ⟨[]⟩⟩
theorem aVZ:qr Tryz.prog 262=some Xb:=by kernel_rfl
def Xa:TI:=⟨Kd.stru [(0,261)],0,0,Value.agg ⟨[]⟩⟩
theorem aVY:qr Tryz.prog 263=some Xa:=by kernel_rfl
def Y9:TI:=⟨Kd.int IntKind.u8,1,1,Value.int IntKind.u8 0⟩
theorem aVX:qr Tryz.prog 264=some Y9:=by kernel_rfl
def Y8:TI:=⟨Kd.int IntKind.u8,1,1,Value.int IntKind.u8 0⟩
theorem aVW:qr Tryz.prog 265=some Y8:=by kernel_rfl
def Y7:TI:=⟨Kd.oth,1,8,Value.nilFunc⟩
theorem aVV:qr Tryz.prog 266=some Y7:=by kernel_rfl
def Y6:TI:=⟨Kd.int IntKind.i32,1,4,Value.int IntKind.i32 0⟩
theorem aVU:qr Tryz.prog 268=some Y6:=by kernel_rfl
def Y5:TI:=⟨Kd.int IntKind.i32,1,4,Value.int IntKind.i32 0⟩
theorem aVT:qr Tryz.prog 269=some Y5:=by kernel_rfl
def Y3:TI:=⟨Kd.oth,1,8,Value.nilFunc⟩
theorem aVS:qr Tryz.prog 272=some Y3:=by kernel_rfl
def Y2:TI:=⟨Kd.oth,1,8,Value.nilFunc⟩
theorem aVR:qr Tryz.prog 273=some Y2:=by kernel_rfl
def Y1:TI:=⟨Kd.oth,1,8,Value.nilFunc⟩
theorem aVQ:qr Tryz.prog 274=some Y1:=by kernel_rfl
theorem ty1{K:TI→Prop}:@tyW Tryz.prog 1 ⟨K⟩=K ti1:=qi tf1
theorem aMP:ti1.kd=Kd.oth:=ID rfl
theorem aHP:ti1.kd.agg=false:=ID rfl
theorem avk:ti1.size=1:=ID rfl
theorem alZ:ti1.bytes=8:=ID rfl
theorem aMN:qx ti1=True:=eq_true rfl
theorem aMO:zc ti1=[.v Value.nilFunc]:=ID rfl
theorem ty2{K:TI→Prop}:@tyW Tryz.prog 2 ⟨K⟩=K ti2:=qi tf2
theorem aMM:ti2.kd=Kd.int IntKind.i64:=ID rfl
theorem aHn:ti2.kd.agg=false:=ID rfl
theorem asa:ti2.size=1:=ID rfl
theorem akJ:ti2.bytes=8:=ID rfl
theorem aMK:qx ti2=True:=eq_true rfl
theorem aML:zc ti2=[.v (Value.int IntKind.i64 0)]:=ID rfl
theorem ty3{K:TI→Prop}:@tyW Tryz.prog 3 ⟨K⟩=K ti3:=qi tf3
theorem aMJ:ti3.kd=Kd.int IntKind.i64:=ID rfl
theorem akA:ti3.kd.agg=false:=ID rfl
theorem ar1:ti3.size=1:=ID rfl
theorem akz:ti3.bytes=8:=ID rfl
theorem aMH:qx ti3=True:=eq_true rfl
theorem aMI:zc ti3=[.v (Value.int IntKind.i64 0)]:=ID rfl
theorem ty4{K:TI→Prop}:@tyW Tryz.prog 4 ⟨K⟩=K ti4:=qi tf4
theorem aMG:ti4.kd=Kd.bool:=ID rfl
theorem akn:ti4.kd.agg=false:=ID rfl
theorem arS:ti4.size=1:=ID rfl
theorem akm:ti4.bytes=1:=ID rfl
theorem aME:qx ti4=True:=eq_true rfl
theorem aMF:zc ti4=[.v (Value.bool false)]:=ID rfl
theorem ty5{K:TI→Prop}:@tyW Tryz.prog 5 ⟨K⟩=K ti5:=qi tf5
theorem aMD:ti5.kd=Kd.int IntKind.u8:=ID rfl
theorem aGc:ti5.kd.agg=false:=ID rfl
theorem arJ:ti5.size=1:=ID rfl
theorem akd:ti5.bytes=1:=ID rfl
theorem aMB:qx ti5=True:=eq_true rfl
theorem aMC:zc ti5=[.v (Value.int IntKind.u8 0)]:=ID rfl
theorem ty6{K:TI→Prop}:@tyW Tryz.prog 6 ⟨K⟩=K ti6:=qi tf6
theorem aMA:ti6.kd=Kd.int IntKind.u8:=ID rfl
theorem aFN:ti6.kd.agg=false:=ID rfl
theorem arA:ti6.size=1:=ID rfl
theorem aj4:ti6.bytes=1:=ID rfl
theorem aMy:qx ti6=True:=eq_true rfl
theorem aMz:zc ti6=[.v (Value.int IntKind.u8 0)]:=ID rfl
theorem ty7{K:TI→Prop}:@tyW Tryz.prog 7 ⟨K⟩=K ti7:=qi tf7
theorem aMx:ti7.kd=Kd.stru [(0,2),(1,3),(2,4),(3,6)]:=ID rfl
theorem aFr:ti7.kd.agg=true:=ID rfl
theorem ars:ti7.size=4:=ID rfl
theorem ajW:ti7.bytes=24:=ID rfl
theorem aMv:qx ti7=True:=eq_true rfl
theorem aMw:zc ti7=[.v (Value.int IntKind.i64 0),.v (Value.int IntKind.i64 0),.v (Value.bool false),.v (Value.int IntKind.u8 0)]:=ID rfl
theorem aR4{K:Nat→TI→Prop}:@qA Tryz.prog 7 0 ⟨K⟩=K 0 ti2:=qu (ti:=ti7) (tf:=ti2) (fo:=(0,2)) (fs:=[(0,2),(1,3),(2,4),(3,6)]) tf7 rfl rfl tf2
theorem aYr{K:Nat→Nat→Prop}:qv Tryz.prog [(0,2),(1,3),(2,4),(3,6)] 0 K=K 0 1:=qt (tf:=ti2) (fo:=(0,2)) (fs:=[(0,2),(1,3),(2,4),(3,6)]) rfl tf2
theorem aR3{K:Nat→TI→Prop}:@qA Tryz.prog 7 1 ⟨K⟩=K 1 ti3:=qu (ti:=ti7) (tf:=ti3) (fo:=(1,3)) (fs:=[(0,2),(1,3),(2,4),(3,6)]) tf7 rfl rfl tf3
theorem aYq{K:Nat→Nat→Prop}:qv Tryz.prog [(0,2),(1,3),(2,4),(3,6)] 1 K=K 1 1:=qt (tf:=ti3) (fo:=(1,3)) (fs:=[(0,2),(1,3),(2,4),(3,6)]) rfl tf3
theorem aR2{K:Nat→TI→Prop}:@qA Tryz.prog 7 2 ⟨K⟩=K 2 ti4:=qu (ti:=ti7) (tf:=ti4) (fo:=(2,4)) (fs:=[(0,2),(1,3),(2,4),(3,6)]) tf7 rfl rfl tf4
theorem aYp{K:Nat→Nat→Prop}:qv Tryz.prog [(0,2),(1,3),(2,4),(3,6)] 2 K=K 2 1:=qt (tf:=ti4) (fo:=(2,4)) (fs:=[(0,2),(1,3),(2,4),(3,6)]) rfl tf4
theorem aR1{K:Nat→TI→Prop}:@qA Tryz.prog 7 3 ⟨K⟩=K 3 ti6:=qu (ti:=ti7) (tf:=ti6) (fo:=(3,6)) (fs:=[(0,2),(1,3),(2,4),(3,6)]) tf7 rfl rfl tf6
theorem aYo{K:Nat→Nat→Prop}:qv Tryz.prog [(0,2),(1,3),(2,4),(3,6)] 3 K=K 3 1:=qt (tf:=ti6) (fo:=(3,6)) (fs:=[(0,2),(1,3),(2,4),(3,6)]) rfl tf6
theorem aYK:∀f∈([(0,2),(1,3),(2,4),(3,6)]:List (Nat×Nat)),(qr Tryz.prog f.2).isSome=true:=by
 intro f hf
 simp only[List.mem_cons,List.not_mem_nil,or_false]at hf
 rcases hf with rfl|rfl|rfl|rfl
 ·rw[tf2];rfl
 ·rw[tf3];rfl
 ·rw[tf4];rfl
 ·rw[tf6];rfl
theorem bdg{ps:List (Nat×AV)}{K:AV→Prop}:@zq Tryz.prog 7 ps ⟨K⟩=@zr (qv Tryz.prog [(0,2),(1,3),(2,4),(3,6)]) (zc ti7) ps ⟨fun cs=>K (.ag cs)⟩:=qX tf7 rfl aYK
theorem ty8{K:TI→Prop}:@tyW Tryz.prog 8 ⟨K⟩=K ti8:=qi tf8
theorem aMu:ti8.kd=Kd.stru [(0,2),(1,3),(2,4),(3,6)]:=ID rfl
theorem aEZ:ti8.kd.agg=true:=ID rfl
theorem arh:ti8.size=4:=ID rfl
theorem ajM:ti8.bytes=24:=ID rfl
theorem aMs:qx ti8=True:=eq_true rfl
theorem aMt:zc ti8=[.v (Value.int IntKind.i64 0),.v (Value.int IntKind.i64 0),.v (Value.bool false),.v (Value.int IntKind.u8 0)]:=ID rfl
theorem aR0{K:Nat→TI→Prop}:@qA Tryz.prog 8 0 ⟨K⟩=K 0 ti2:=qu (ti:=ti8) (tf:=ti2) (fo:=(0,2)) (fs:=[(0,2),(1,3),(2,4),(3,6)]) tf8 rfl rfl tf2
theorem aYn{K:Nat→Nat→Prop}:qv Tryz.prog [(0,2),(1,3),(2,4),(3,6)] 0 K=K 0 1:=qt (tf:=ti2) (fo:=(0,2)) (fs:=[(0,2),(1,3),(2,4),(3,6)]) rfl tf2
theorem aRZ{K:Nat→TI→Prop}:@qA Tryz.prog 8 1 ⟨K⟩=K 1 ti3:=qu (ti:=ti8) (tf:=ti3) (fo:=(1,3)) (fs:=[(0,2),(1,3),(2,4),(3,6)]) tf8 rfl rfl tf3
theorem aYm{K:Nat→Nat→Prop}:qv Tryz.prog [(0,2),(1,3),(2,4),(3,6)] 1 K=K 1 1:=qt (tf:=ti3) (fo:=(1,3)) (fs:=[(0,2),(1,3),(2,4),(3,6)]) rfl tf3
theorem aRY{K:Nat→TI→Prop}:@qA Tryz.prog 8 2 ⟨K⟩=K 2 ti4:=qu (ti:=ti8) (tf:=ti4) (fo:=(2,4)) (fs:=[(0,2),(1,3),(2,4),(3,6)]) tf8 rfl rfl tf4
theorem aYl{K:Nat→Nat→Prop}:qv Tryz.prog [(0,2),(1,3),(2,4),(3,6)] 2 K=K 2 1:=qt (tf:=ti4) (fo:=(2,4)) (fs:=[(0,2),(1,3),(2,4),(3,6)]) rfl tf4
theorem aRX{K:Nat→TI→Prop}:@qA Tryz.prog 8 3 ⟨K⟩=K 3 ti6:=qu (ti:=ti8) (tf:=ti6) (fo:=(3,6)) (fs:=[(0,2),(1,3),(2,4),(3,6)]) tf8 rfl rfl tf6
theorem aYk{K:Nat→Nat→Prop}:qv Tryz.prog [(0,2),(1,3),(2,4),(3,6)] 3 K=K 3 1:=qt (tf:=ti6) (fo:=(3,6)) (fs:=[(0,2),(1,3),(2,4),(3,6)]) rfl tf6
theorem aYJ:∀f∈([(0,2),(1,3),(2,4),(3,6)]:List (Nat×Nat)),(qr Tryz.prog f.2).isSome=true:=by
 intro f hf
 simp only[List.mem_cons,List.not_mem_nil,or_false]at hf
 rcases hf with rfl|rfl|rfl|rfl
 ·rw[tf2];rfl
 ·rw[tf3];rfl
 ·rw[tf4];rfl
 ·rw[tf6];rfl
theorem bdf{ps:List (Nat×AV)}{K:AV→Prop}:@zq Tryz.prog 8 ps ⟨K⟩=@zr (qv Tryz.prog [(0,2),(1,3),(2,4),(3,6)]) (zc ti8) ps ⟨fun cs=>K (.ag cs)⟩:=qX tf8 rfl aYJ
theorem ty9{K:TI→Prop}:@tyW Tryz.prog 9 ⟨K⟩=K ti9:=qi tf9
theorem aMr:ti9.kd=Kd.str:=ID rfl
theorem aEA:ti9.kd.agg=false:=ID rfl
theorem aq7:ti9.size=1:=ID rfl
theorem ajD:ti9.bytes=16:=ID rfl
theorem aMp:qx ti9=True:=eq_true rfl
theorem aMq:zc ti9=[.v (Value.string {data:=⟨[]⟩})]:=ID rfl
theorem bbZ{K:TI→Prop}:@tyW Tryz.prog 10 ⟨K⟩=K aDB:=qi bcP
theorem aHY:aDB.kd=Kd.str:=ID rfl
theorem azn:aDB.kd.agg=false:=ID rfl
theorem ann:aDB.size=1:=ID rfl
theorem ah4:aDB.bytes=16:=ID rfl
theorem aHW:qx aDB=True:=eq_true rfl
theorem aHX:zc aDB=[.v (Value.string {data:=⟨[]⟩})]:=ID rfl
theorem bbY{K:TI→Prop}:@tyW Tryz.prog 11 ⟨K⟩=K aDA:=qi bcO
theorem aHV:aDA.kd=Kd.str:=ID rfl
theorem ayV:aDA.kd.agg=false:=ID rfl
theorem anc:aDA.size=1:=ID rfl
theorem ahU:aDA.bytes=16:=ID rfl
theorem aHT:qx aDA=True:=eq_true rfl
theorem aHU:zc aDA=[.v (Value.string {data:=⟨[]⟩})]:=ID rfl
theorem bbX{K:TI→Prop}:@tyW Tryz.prog 12 ⟨K⟩=K aDz:=qi bcN
theorem aHS:aDz.kd=Kd.int IntKind.u64:=ID rfl
theorem ayq:aDz.kd.agg=false:=ID rfl
theorem am1:aDz.size=1:=ID rfl
theorem ahJ:aDz.bytes=8:=ID rfl
theorem aHQ:qx aDz=True:=eq_true rfl
theorem aHR:zc aDz=[.v (Value.int IntKind.u64 0)]:=ID rfl
theorem bbW{K:TI→Prop}:@tyW Tryz.prog 21 ⟨K⟩=K aDy:=qi bcM
theorem aHO:aDy.kd=Kd.int IntKind.i32:=ID rfl
theorem aur:aDy.kd.agg=false:=ID rfl
theorem alG:aDy.size=1:=ID rfl
theorem agp:aDy.bytes=4:=ID rfl
theorem aHM:qx aDy=True:=eq_true rfl
theorem aHN:zc aDy=[.v (Value.int IntKind.i32 0)]:=ID rfl
theorem bbV{K:TI→Prop}:@tyW Tryz.prog 22 ⟨K⟩=K ad5:=qi aDD
theorem aHL:ad5.kd=Kd.sli 5:=ID rfl
theorem atW:ad5.kd.agg=false:=ID rfl
theorem als:ad5.size=1:=ID rfl
theorem agd:ad5.bytes=24:=ID rfl
theorem aHJ:qx ad5=True:=eq_true rfl
theorem aHK:zc ad5=[.v (Value.slice none 0 0)]:=ID rfl
theorem aYa{K:TI→Prop}:@yH Tryz.prog 22 ⟨K⟩=K ti5:=QQ aDD rfl tf5
theorem bbU{K:TI→Prop}:@tyW Tryz.prog 23 ⟨K⟩=K Jt:=qi ad6
theorem aHI:Jt.kd=Kd.sli 3:=ID rfl
theorem atx:Jt.kd.agg=false:=ID rfl
theorem ali:Jt.size=1:=ID rfl
theorem af4:Jt.bytes=24:=ID rfl
theorem aHG:qx Jt=True:=eq_true rfl
theorem aHH:zc Jt=[.v (Value.slice none 0 0)]:=ID rfl
theorem aX9{K:TI→Prop}:@yH Tryz.prog 23 ⟨K⟩=K ti3:=QQ ad6 rfl tf3
theorem bbT{K:TI→Prop}:@tyW Tryz.prog 24 ⟨K⟩=K aqN:=qi aWg
theorem aHF:aqN.kd=Kd.stru [(0,23)]:=ID rfl
theorem as5:aqN.kd.agg=true:=ID rfl
theorem ak8:aqN.size=1:=ID rfl
theorem afU:aqN.bytes=24:=ID rfl
theorem aHD:qx aqN=True:=eq_true rfl
theorem aHE:zc aqN=[.v (Value.slice none 0 0)]:=ID rfl
theorem aKP{K:Nat→TI→Prop}:@qA Tryz.prog 24 0 ⟨K⟩=K 0 Jt:=qu (ti:=aqN) (tf:=Jt) (fo:=(0,23)) (fs:=[(0,23)]) aWg rfl rfl ad6
theorem aNY{K:Nat→Nat→Prop}:qv Tryz.prog [(0,23)] 0 K=K 0 1:=qt (tf:=Jt) (fo:=(0,23)) (fs:=[(0,23)]) rfl ad6
theorem aOA:∀f∈([(0,23)]:List (Nat×Nat)),(qr Tryz.prog f.2).isSome=true:=by
 intro f hf
 simp only[List.mem_cons,List.not_mem_nil,or_false]at hf
 subst hf;rw[ad6];rfl
theorem baB{ps:List (Nat×AV)}{K:AV→Prop}:@zq Tryz.prog 24 ps ⟨K⟩=@zr (qv Tryz.prog [(0,23)]) (zc aqN) ps ⟨fun cs=>K (.ag cs)⟩:=qX aWg rfl aOA
theorem bbS{K:TI→Prop}:@tyW Tryz.prog 25 ⟨K⟩=K aam:=qi azU
theorem aHC:aam.kd=Kd.stru [(0,23)]:=ID rfl
theorem asJ:aam.kd.agg=true:=ID rfl
theorem ak0:aam.size=1:=ID rfl
theorem afM:aam.bytes=24:=ID rfl
theorem aHA:qx aam=True:=eq_true rfl
theorem aHB:zc aam=[.v (Value.slice none 0 0)]:=ID rfl
theorem aKO{K:Nat→TI→Prop}:@qA Tryz.prog 25 0 ⟨K⟩=K 0 Jt:=qu (ti:=aam) (tf:=Jt) (fo:=(0,23)) (fs:=[(0,23)]) azU rfl rfl ad6
theorem aNX{K:Nat→Nat→Prop}:qv Tryz.prog [(0,23)] 0 K=K 0 1:=qt (tf:=Jt) (fo:=(0,23)) (fs:=[(0,23)]) rfl ad6
theorem aOz:∀f∈([(0,23)]:List (Nat×Nat)),(qr Tryz.prog f.2).isSome=true:=by
 intro f hf
 simp only[List.mem_cons,List.not_mem_nil,or_false]at hf
 subst hf;rw[ad6];rfl
theorem baA{ps:List (Nat×AV)}{K:AV→Prop}:@zq Tryz.prog 25 ps ⟨K⟩=@zr (qv Tryz.prog [(0,23)]) (zc aam) ps ⟨fun cs=>K (.ag cs)⟩:=qX azU rfl aOz
theorem bbR{K:TI→Prop}:@tyW Tryz.prog 26 ⟨K⟩=K akZ:=qi aTf
theorem aHz:akZ.kd=Kd.stru [(0,4),(1,25)]:=ID rfl
theorem asn:akZ.kd.agg=true:=ID rfl
theorem akR:akZ.size=2:=ID rfl
theorem afE:akZ.bytes=32:=ID rfl
theorem aHx:qx akZ=True:=eq_true rfl
theorem aHy:zc akZ=[.v (Value.bool false),.v (Value.slice none 0 0)]:=ID rfl
theorem aKN{K:Nat→TI→Prop}:@qA Tryz.prog 26 0 ⟨K⟩=K 0 ti4:=qu (ti:=akZ) (tf:=ti4) (fo:=(0,4)) (fs:=[(0,4),(1,25)]) aTf rfl rfl tf4
theorem aNW{K:Nat→Nat→Prop}:qv Tryz.prog [(0,4),(1,25)] 0 K=K 0 1:=qt (tf:=ti4) (fo:=(0,4)) (fs:=[(0,4),(1,25)]) rfl tf4
theorem aKM{K:Nat→TI→Prop}:@qA Tryz.prog 26 1 ⟨K⟩=K 1 aam:=qu (ti:=akZ) (tf:=aam) (fo:=(1,25)) (fs:=[(0,4),(1,25)]) aTf rfl rfl azU
theorem aNV{K:Nat→Nat→Prop}:qv Tryz.prog [(0,4),(1,25)] 1 K=K 1 1:=qt (tf:=aam) (fo:=(1,25)) (fs:=[(0,4),(1,25)]) rfl azU
theorem aOy:∀f∈([(0,4),(1,25)]:List (Nat×Nat)),(qr Tryz.prog f.2).isSome=true:=by
 intro f hf
 simp only[List.mem_cons,List.not_mem_nil,or_false]at hf
 rcases hf with rfl|rfl
 ·rw[tf4];rfl
 ·rw[azU];rfl
theorem baz{ps:List (Nat×AV)}{K:AV→Prop}:@zq Tryz.prog 26 ps ⟨K⟩=@zr (qv Tryz.prog [(0,4),(1,25)]) (zc akZ) ps ⟨fun cs=>K (.ag cs)⟩:=qX aTf rfl aOy
theorem bbQ{K:TI→Prop}:@tyW Tryz.prog 27 ⟨K⟩=K Y4:=qi aqO
theorem aHw:Y4.kd=Kd.stru [(0,4),(1,25)]:=ID rfl
theorem asd:Y4.kd.agg=true:=ID rfl
theorem akN:Y4.size=2:=ID rfl
theorem afA:Y4.bytes=32:=ID rfl
theorem aHu:qx Y4=True:=eq_true rfl
theorem aHv:zc Y4=[.v (Value.bool false),.v (Value.slice none 0 0)]:=ID rfl
theorem aKL{K:Nat→TI→Prop}:@qA Tryz.prog 27 0 ⟨K⟩=K 0 ti4:=qu (ti:=Y4) (tf:=ti4) (fo:=(0,4)) (fs:=[(0,4),(1,25)]) aqO rfl rfl tf4
theorem aNU{K:Nat→Nat→Prop}:qv Tryz.prog [(0,4),(1,25)] 0 K=K 0 1:=qt (tf:=ti4) (fo:=(0,4)) (fs:=[(0,4),(1,25)]) rfl tf4
theorem aKK{K:Nat→TI→Prop}:@qA Tryz.prog 27 1 ⟨K⟩=K 1 aam:=qu (ti:=Y4) (tf:=aam) (fo:=(1,25)) (fs:=[(0,4),(1,25)]) aqO rfl rfl azU
theorem aNT{K:Nat→Nat→Prop}:qv Tryz.prog [(0,4),(1,25)] 1 K=K 1 1:=qt (tf:=aam) (fo:=(1,25)) (fs:=[(0,4),(1,25)]) rfl azU
theorem aOx:∀f∈([(0,4),(1,25)]:List (Nat×Nat)),(qr Tryz.prog f.2).isSome=true:=by
 intro f hf
 simp only[List.mem_cons,List.not_mem_nil,or_false]at hf
 rcases hf with rfl|rfl
 ·rw[tf4];rfl
 ·rw[azU];rfl
theorem bay{ps:List (Nat×AV)}{K:AV→Prop}:@zq Tryz.prog 27 ps ⟨K⟩=@zr (qv Tryz.prog [(0,4),(1,25)]) (zc Y4) ps ⟨fun cs=>K (.ag cs)⟩:=qX aqO rfl aOx
theorem bbP{K:TI→Prop}:@tyW Tryz.prog 28 ⟨K⟩=K akM:=qi aTe
theorem aHt:akM.kd=Kd.stru [(0,27),(2,3)]:=ID rfl
theorem asc:akM.kd.agg=true:=ID rfl
theorem akL:akM.size=3:=ID rfl
theorem afz:akM.bytes=40:=ID rfl
theorem aHr:qx akM=True:=eq_true rfl
theorem aHs:zc akM=[.v (Value.bool false),.v (Value.slice none 0 0),.v (Value.int IntKind.i64 0)]:=ID rfl
theorem aKJ{K:Nat→TI→Prop}:@qA Tryz.prog 28 0 ⟨K⟩=K 0 Y4:=qu (ti:=akM) (tf:=Y4) (fo:=(0,27)) (fs:=[(0,27),(2,3)]) aTe rfl rfl aqO
theorem aNS{K:Nat→Nat→Prop}:qv Tryz.prog [(0,27),(2,3)] 0 K=K 0 2:=qt (tf:=Y4) (fo:=(0,27)) (fs:=[(0,27),(2,3)]) rfl aqO
theorem aKI{K:Nat→TI→Prop}:@qA Tryz.prog 28 1 ⟨K⟩=K 2 ti3:=qu (ti:=akM) (tf:=ti3) (fo:=(2,3)) (fs:=[(0,27),(2,3)]) aTe rfl rfl tf3
theorem aNR{K:Nat→Nat→Prop}:qv Tryz.prog [(0,27),(2,3)] 1 K=K 2 1:=qt (tf:=ti3) (fo:=(2,3)) (fs:=[(0,27),(2,3)]) rfl tf3
theorem aOw:∀f∈([(0,27),(2,3)]:List (Nat×Nat)),(qr Tryz.prog f.2).isSome=true:=by
 intro f hf
 simp only[List.mem_cons,List.not_mem_nil,or_false]at hf
 rcases hf with rfl|rfl
 ·rw[aqO];rfl
 ·rw[tf3];rfl
theorem bax{ps:List (Nat×AV)}{K:AV→Prop}:@zq Tryz.prog 28 ps ⟨K⟩=@zr (qv Tryz.prog [(0,27),(2,3)]) (zc akM) ps ⟨fun cs=>K (.ag cs)⟩:=qX aTe rfl aOw
theorem bbO{K:TI→Prop}:@tyW Tryz.prog 29 ⟨K⟩=K Zb:=qi Kk
theorem aHq:Zb.kd=Kd.stru [(0,27),(2,3)]:=ID rfl
theorem asb:Zb.kd.agg=true:=ID rfl
theorem akK:Zb.size=3:=ID rfl
theorem afy:Zb.bytes=40:=ID rfl
theorem aHo:qx Zb=True:=eq_true rfl
theorem aHp:zc Zb=[.v (Value.bool false),.v (Value.slice none 0 0),.v (Value.int IntKind.i64 0)]:=ID rfl
theorem aKH{K:Nat→TI→Prop}:@qA Tryz.prog 29 0 ⟨K⟩=K 0 Y4:=qu (ti:=Zb) (tf:=Y4) (fo:=(0,27)) (fs:=[(0,27),(2,3)]) Kk rfl rfl aqO
theorem aNQ{K:Nat→Nat→Prop}:qv Tryz.prog [(0,27),(2,3)] 0 K=K 0 2:=qt (tf:=Y4) (fo:=(0,27)) (fs:=[(0,27),(2,3)]) rfl aqO
theorem aKG{K:Nat→TI→Prop}:@qA Tryz.prog 29 1 ⟨K⟩=K 2 ti3:=qu (ti:=Zb) (tf:=ti3) (fo:=(2,3)) (fs:=[(0,27),(2,3)]) Kk rfl rfl tf3
theorem aNP{K:Nat→Nat→Prop}:qv Tryz.prog [(0,27),(2,3)] 1 K=K 2 1:=qt (tf:=ti3) (fo:=(2,3)) (fs:=[(0,27),(2,3)]) rfl tf3
theorem aOv:∀f∈([(0,27),(2,3)]:List (Nat×Nat)),(qr Tryz.prog f.2).isSome=true:=by
 intro f hf
 simp only[List.mem_cons,List.not_mem_nil,or_false]at hf
 rcases hf with rfl|rfl
 ·rw[aqO];rfl
 ·rw[tf3];rfl
theorem baw{ps:List (Nat×AV)}{K:AV→Prop}:@zq Tryz.prog 29 ps ⟨K⟩=@zr (qv Tryz.prog [(0,27),(2,3)]) (zc Zb) ps ⟨fun cs=>K (.ag cs)⟩:=qX Kk rfl aOv
theorem bbN{K:TI→Prop}:@tyW Tryz.prog 31 ⟨K⟩=K aDx:=qi bcL
theorem aHm:aDx.kd=Kd.oth:=ID rfl
theorem ar9:aDx.kd.agg=false:=ID rfl
theorem akI:aDx.size=1:=ID rfl
theorem afx:aDx.bytes=8:=ID rfl
theorem aHk:qx aDx=True:=eq_true rfl
theorem aHl:zc aDx=[.v Value.nilFunc]:=ID rfl
theorem bbM{K:TI→Prop}:@tyW Tryz.prog 33 ⟨K⟩=K aDw:=qi bcK
theorem aHj:aDw.kd=Kd.oth:=ID rfl
theorem ar8:aDw.kd.agg=false:=ID rfl
theorem akH:aDw.size=1:=ID rfl
theorem afw:aDw.bytes=8:=ID rfl
theorem aHh:qx aDw=True:=eq_true rfl
theorem aHi:zc aDw=[.v Value.nilFunc]:=ID rfl
theorem bbL{K:TI→Prop}:@tyW Tryz.prog 34 ⟨K⟩=K aDv:=qi bcJ
theorem aHg:aDv.kd=Kd.oth:=ID rfl
theorem ar7:aDv.kd.agg=false:=ID rfl
theorem akG:aDv.size=1:=ID rfl
theorem afv:aDv.bytes=8:=ID rfl
theorem aHe:qx aDv=True:=eq_true rfl
theorem aHf:zc aDv=[.v Value.nilFunc]:=ID rfl
theorem bbK{K:TI→Prop}:@tyW Tryz.prog 35 ⟨K⟩=K aDu:=qi bcI
theorem aHd:aDu.kd=Kd.oth:=ID rfl
theorem ar6:aDu.kd.agg=false:=ID rfl
theorem akF:aDu.size=1:=ID rfl
theorem afu:aDu.bytes=8:=ID rfl
theorem aHb:qx aDu=True:=eq_true rfl
theorem aHc:zc aDu=[.v Value.nilFunc]:=ID rfl
theorem bbJ{K:TI→Prop}:@tyW Tryz.prog 36 ⟨K⟩=K aDt:=qi bcH
theorem aHa:aDt.kd=Kd.oth:=ID rfl
theorem ar5:aDt.kd.agg=false:=ID rfl
theorem akE:aDt.size=1:=ID rfl
theorem aft:aDt.bytes=8:=ID rfl
theorem aG8:qx aDt=True:=eq_true rfl
theorem aG9:zc aDt=[.v Value.nilFunc]:=ID rfl
theorem bbI{K:TI→Prop}:@tyW Tryz.prog 37 ⟨K⟩=K aDs:=qi bcG
theorem aG7:aDs.kd=Kd.oth:=ID rfl
theorem ar4:aDs.kd.agg=false:=ID rfl
theorem akD:aDs.size=1:=ID rfl
theorem afs:aDs.bytes=8:=ID rfl
theorem aG5:qx aDs=True:=eq_true rfl
theorem aG6:zc aDs=[.v Value.nilFunc]:=ID rfl
theorem bbH{K:TI→Prop}:@tyW Tryz.prog 38 ⟨K⟩=K aDr:=qi bcF
theorem aG4:aDr.kd=Kd.oth:=ID rfl
theorem ar3:aDr.kd.agg=false:=ID rfl
theorem akC:aDr.size=1:=ID rfl
theorem afr:aDr.bytes=8:=ID rfl
theorem aG2:qx aDr=True:=eq_true rfl
theorem aG3:zc aDr=[.v Value.nilFunc]:=ID rfl
theorem bbG{K:TI→Prop}:@tyW Tryz.prog 39 ⟨K⟩=K aDq:=qi bcE
theorem aG1:aDq.kd=Kd.oth:=ID rfl
theorem ar2:aDq.kd.agg=false:=ID rfl
theorem akB:aDq.size=1:=ID rfl
theorem afq:aDq.bytes=8:=ID rfl
theorem aGZ:qx aDq=True:=eq_true rfl
theorem aG0:zc aDq=[.v Value.nilFunc]:=ID rfl
theorem bbF{K:TI→Prop}:@tyW Tryz.prog 40 ⟨K⟩=K ad4:=qi aDC
theorem aGY:ad4.kd=Kd.sli 29:=ID rfl
theorem ar0:ad4.kd.agg=false:=ID rfl
theorem aky:ad4.size=1:=ID rfl
theorem afp:ad4.bytes=24:=ID rfl
theorem aGW:qx ad4=True:=eq_true rfl
theorem aGX:zc ad4=[.v (Value.slice none 0 0)]:=ID rfl
theorem aX8{K:TI→Prop}:@yH Tryz.prog 40 ⟨K⟩=K Zb:=QQ aDC rfl Kk
theorem bbE{K:TI→Prop}:@tyW Tryz.prog 41 ⟨K⟩=K akx:=qi aTd
theorem aGV:akx.kd=Kd.stru [(0,3),(1,40)]:=ID rfl
theorem arZ:akx.kd.agg=true:=ID rfl
theorem akw:akx.size=2:=ID rfl
theorem afo:akx.bytes=32:=ID rfl
theorem aGT:qx akx=True:=eq_true rfl
theorem aGU:zc akx=[.v (Value.int IntKind.i64 0),.v (Value.slice none 0 0)]:=ID rfl
theorem aKF{K:Nat→TI→Prop}:@qA Tryz.prog 41 0 ⟨K⟩=K 0 ti3:=qu (ti:=akx) (tf:=ti3) (fo:=(0,3)) (fs:=[(0,3),(1,40)]) aTd rfl rfl tf3
theorem aNO{K:Nat→Nat→Prop}:qv Tryz.prog [(0,3),(1,40)] 0 K=K 0 1:=qt (tf:=ti3) (fo:=(0,3)) (fs:=[(0,3),(1,40)]) rfl tf3
theorem aKE{K:Nat→TI→Prop}:@qA Tryz.prog 41 1 ⟨K⟩=K 1 ad4:=qu (ti:=akx) (tf:=ad4) (fo:=(1,40)) (fs:=[(0,3),(1,40)]) aTd rfl rfl aDC
theorem aNN{K:Nat→Nat→Prop}:qv Tryz.prog [(0,3),(1,40)] 1 K=K 1 1:=qt (tf:=ad4) (fo:=(1,40)) (fs:=[(0,3),(1,40)]) rfl aDC
theorem aOu:∀f∈([(0,3),(1,40)]:List (Nat×Nat)),(qr Tryz.prog f.2).isSome=true:=by
 intro f hf
 simp only[List.mem_cons,List.not_mem_nil,or_false]at hf
 rcases hf with rfl|rfl
 ·rw[tf3];rfl
 ·rw[aDC];rfl
theorem bav{ps:List (Nat×AV)}{K:AV→Prop}:@zq Tryz.prog 41 ps ⟨K⟩=@zr (qv Tryz.prog [(0,3),(1,40)]) (zc akx) ps ⟨fun cs=>K (.ag cs)⟩:=qX aTd rfl aOu
theorem bbD{K:TI→Prop}:@tyW Tryz.prog 42 ⟨K⟩=K akv:=qi aTc
theorem aGS:akv.kd=Kd.stru [(0,3),(1,40)]:=ID rfl
theorem arY:akv.kd.agg=true:=ID rfl
theorem aku:akv.size=2:=ID rfl
theorem afn:akv.bytes=32:=ID rfl
theorem aGQ:qx akv=True:=eq_true rfl
theorem aGR:zc akv=[.v (Value.int IntKind.i64 0),.v (Value.slice none 0 0)]:=ID rfl
theorem aKD{K:Nat→TI→Prop}:@qA Tryz.prog 42 0 ⟨K⟩=K 0 ti3:=qu (ti:=akv) (tf:=ti3) (fo:=(0,3)) (fs:=[(0,3),(1,40)]) aTc rfl rfl tf3
theorem aNM{K:Nat→Nat→Prop}:qv Tryz.prog [(0,3),(1,40)] 0 K=K 0 1:=qt (tf:=ti3) (fo:=(0,3)) (fs:=[(0,3),(1,40)]) rfl tf3
theorem aKC{K:Nat→TI→Prop}:@qA Tryz.prog 42 1 ⟨K⟩=K 1 ad4:=qu (ti:=akv) (tf:=ad4) (fo:=(1,40)) (fs:=[(0,3),(1,40)]) aTc rfl rfl aDC
theorem aNL{K:Nat→Nat→Prop}:qv Tryz.prog [(0,3),(1,40)] 1 K=K 1 1:=qt (tf:=ad4) (fo:=(1,40)) (fs:=[(0,3),(1,40)]) rfl aDC
theorem aOt:∀f∈([(0,3),(1,40)]:List (Nat×Nat)),(qr Tryz.prog f.2).isSome=true:=by
 intro f hf
 simp only[List.mem_cons,List.not_mem_nil,or_false]at hf
 rcases hf with rfl|rfl
 ·rw[tf3];rfl
 ·rw[aDC];rfl
theorem bau{ps:List (Nat×AV)}{K:AV→Prop}:@zq Tryz.prog 42 ps ⟨K⟩=@zr (qv Tryz.prog [(0,3),(1,40)]) (zc akv) ps ⟨fun cs=>K (.ag cs)⟩:=qX aTc rfl aOt
theorem bbC{K:TI→Prop}:@tyW Tryz.prog 44 ⟨K⟩=K aDp:=qi bcD
theorem aGP:aDp.kd=Kd.oth:=ID rfl
theorem arX:aDp.kd.agg=false:=ID rfl
theorem akt:aDp.size=1:=ID rfl
theorem afm:aDp.bytes=8:=ID rfl
theorem aGN:qx aDp=True:=eq_true rfl
theorem aGO:zc aDp=[.v Value.nilFunc]:=ID rfl
theorem bbB{K:TI→Prop}:@tyW Tryz.prog 45 ⟨K⟩=K aDo:=qi bcC
theorem aGM:aDo.kd=Kd.oth:=ID rfl
theorem arW:aDo.kd.agg=false:=ID rfl
theorem aks:aDo.size=1:=ID rfl
theorem afl:aDo.bytes=8:=ID rfl
theorem aGK:qx aDo=True:=eq_true rfl
theorem aGL:zc aDo=[.v Value.nilFunc]:=ID rfl
theorem bbA{K:TI→Prop}:@tyW Tryz.prog 47 ⟨K⟩=K aDn:=qi bcB
theorem aGJ:aDn.kd=Kd.oth:=ID rfl
theorem arV:aDn.kd.agg=false:=ID rfl
theorem akr:aDn.size=1:=ID rfl
theorem afk:aDn.bytes=8:=ID rfl
theorem aGH:qx aDn=True:=eq_true rfl
theorem aGI:zc aDn=[.v Value.nilFunc]:=ID rfl
theorem bbz{K:TI→Prop}:@tyW Tryz.prog 48 ⟨K⟩=K aDm:=qi bcA
theorem aGG:aDm.kd=Kd.oth:=ID rfl
theorem arU:aDm.kd.agg=false:=ID rfl
theorem akq:aDm.size=1:=ID rfl
theorem afj:aDm.bytes=8:=ID rfl
theorem aGE:qx aDm=True:=eq_true rfl
theorem aGF:zc aDm=[.v Value.nilFunc]:=ID rfl
theorem bby{K:TI→Prop}:@tyW Tryz.prog 49 ⟨K⟩=K akp:=qi aTb
theorem aGD:akp.kd=Kd.stru [(0,29),(3,29)]:=ID rfl
theorem arT:akp.kd.agg=true:=ID rfl
theorem ako:akp.size=6:=ID rfl
theorem afi:akp.bytes=80:=ID rfl
theorem aGB:qx akp=True:=eq_true rfl
theorem aGC:zc akp=[.v (Value.bool false),.v (Value.slice none 0 0),.v (Value.int IntKind.i64 0),.v (Value.bool false),.v (Value.slice none 0 0),.v (Value.int IntKind.i64 0)]:=ID rfl
theorem aKB{K:Nat→TI→Prop}:@qA Tryz.prog 49 0 ⟨K⟩=K 0 Zb:=qu (ti:=akp) (tf:=Zb) (fo:=(0,29)) (fs:=[(0,29),(3,29)]) aTb rfl rfl Kk
theorem aNK{K:Nat→Nat→Prop}:qv Tryz.prog [(0,29),(3,29)] 0 K=K 0 3:=qt (tf:=Zb) (fo:=(0,29)) (fs:=[(0,29),(3,29)]) rfl Kk
theorem aKA{K:Nat→TI→Prop}:@qA Tryz.prog 49 1 ⟨K⟩=K 3 Zb:=qu (ti:=akp) (tf:=Zb) (fo:=(3,29)) (fs:=[(0,29),(3,29)]) aTb rfl rfl Kk
theorem aNJ{K:Nat→Nat→Prop}:qv Tryz.prog [(0,29),(3,29)] 1 K=K 3 3:=qt (tf:=Zb) (fo:=(3,29)) (fs:=[(0,29),(3,29)]) rfl Kk
theorem aOs:∀f∈([(0,29),(3,29)]:List (Nat×Nat)),(qr Tryz.prog f.2).isSome=true:=by
 intro f hf
 simp only[List.mem_cons,List.not_mem_nil,or_false]at hf
 rcases hf with rfl|rfl
 ·rw[Kk];rfl
 ·rw[Kk];rfl
theorem bat{ps:List (Nat×AV)}{K:AV→Prop}:@zq Tryz.prog 49 ps ⟨K⟩=@zr (qv Tryz.prog [(0,29),(3,29)]) (zc akp) ps ⟨fun cs=>K (.ag cs)⟩:=qX aTb rfl aOs
theorem bbx{K:TI→Prop}:@tyW Tryz.prog 50 ⟨K⟩=K ajs:=qi aMR
theorem aGA:ajs.kd=Kd.stru [(0,29),(3,29)]:=ID rfl
theorem arR:ajs.kd.agg=true:=ID rfl
theorem akl:ajs.size=6:=ID rfl
theorem afh:ajs.bytes=80:=ID rfl
theorem aGy:qx ajs=True:=eq_true rfl
theorem aGz:zc ajs=[.v (Value.bool false),.v (Value.slice none 0 0),.v (Value.int IntKind.i64 0),.v (Value.bool false),.v (Value.slice none 0 0),.v (Value.int IntKind.i64 0)]:=ID rfl
theorem aKz{K:Nat→TI→Prop}:@qA Tryz.prog 50 0 ⟨K⟩=K 0 Zb:=qu (ti:=ajs) (tf:=Zb) (fo:=(0,29)) (fs:=[(0,29),(3,29)]) aMR rfl rfl Kk
theorem aNI{K:Nat→Nat→Prop}:qv Tryz.prog [(0,29),(3,29)] 0 K=K 0 3:=qt (tf:=Zb) (fo:=(0,29)) (fs:=[(0,29),(3,29)]) rfl Kk
theorem aKy{K:Nat→TI→Prop}:@qA Tryz.prog 50 1 ⟨K⟩=K 3 Zb:=qu (ti:=ajs) (tf:=Zb) (fo:=(3,29)) (fs:=[(0,29),(3,29)]) aMR rfl rfl Kk
theorem aNH{K:Nat→Nat→Prop}:qv Tryz.prog [(0,29),(3,29)] 1 K=K 3 3:=qt (tf:=Zb) (fo:=(3,29)) (fs:=[(0,29),(3,29)]) rfl Kk
theorem aOr:∀f∈([(0,29),(3,29)]:List (Nat×Nat)),(qr Tryz.prog f.2).isSome=true:=by
 intro f hf
 simp only[List.mem_cons,List.not_mem_nil,or_false]at hf
 rcases hf with rfl|rfl
 ·rw[Kk];rfl
 ·rw[Kk];rfl
theorem bas{ps:List (Nat×AV)}{K:AV→Prop}:@zq Tryz.prog 50 ps ⟨K⟩=@zr (qv Tryz.prog [(0,29),(3,29)]) (zc ajs) ps ⟨fun cs=>K (.ag cs)⟩:=qX aMR rfl aOr
theorem bbw{K:TI→Prop}:@tyW Tryz.prog 52 ⟨K⟩=K aDl:=qi bcz
theorem aGx:aDl.kd=Kd.oth:=ID rfl
theorem arQ:aDl.kd.agg=false:=ID rfl
theorem akk:aDl.size=1:=ID rfl
theorem afg:aDl.bytes=8:=ID rfl
theorem aGv:qx aDl=True:=eq_true rfl
theorem aGw:zc aDl=[.v Value.nilFunc]:=ID rfl
theorem bbv{K:TI→Prop}:@tyW Tryz.prog 54 ⟨K⟩=K aDk:=qi bcy
theorem aGu:aDk.kd=Kd.oth:=ID rfl
theorem arP:aDk.kd.agg=false:=ID rfl
theorem akj:aDk.size=1:=ID rfl
theorem aff:aDk.bytes=8:=ID rfl
theorem aGs:qx aDk=True:=eq_true rfl
theorem aGt:zc aDk=[.v Value.nilFunc]:=ID rfl
theorem bbu{K:TI→Prop}:@tyW Tryz.prog 55 ⟨K⟩=K aDj:=qi bcx
theorem aGr:aDj.kd=Kd.oth:=ID rfl
theorem arO:aDj.kd.agg=false:=ID rfl
theorem aki:aDj.size=1:=ID rfl
theorem afe:aDj.bytes=8:=ID rfl
theorem aGp:qx aDj=True:=eq_true rfl
theorem aGq:zc aDj=[.v Value.nilFunc]:=ID rfl
theorem bbt{K:TI→Prop}:@tyW Tryz.prog 56 ⟨K⟩=K aDi:=qi bcw
theorem aGo:aDi.kd=Kd.oth:=ID rfl
theorem arN:aDi.kd.agg=false:=ID rfl
theorem akh:aDi.size=1:=ID rfl
theorem afd:aDi.bytes=8:=ID rfl
theorem aGm:qx aDi=True:=eq_true rfl
theorem aGn:zc aDi=[.v Value.nilFunc]:=ID rfl
theorem bbs{K:TI→Prop}:@tyW Tryz.prog 57 ⟨K⟩=K aDh:=qi bcv
theorem aGl:aDh.kd=Kd.oth:=ID rfl
theorem arM:aDh.kd.agg=false:=ID rfl
theorem akg:aDh.size=1:=ID rfl
theorem afc:aDh.bytes=8:=ID rfl
theorem aGj:qx aDh=True:=eq_true rfl
theorem aGk:zc aDh=[.v Value.nilFunc]:=ID rfl
theorem bbr{K:TI→Prop}:@tyW Tryz.prog 58 ⟨K⟩=K aDg:=qi bcu
theorem aGi:aDg.kd=Kd.oth:=ID rfl
theorem arL:aDg.kd.agg=false:=ID rfl
theorem akf:aDg.size=1:=ID rfl
theorem afb:aDg.bytes=8:=ID rfl
theorem aGg:qx aDg=True:=eq_true rfl
theorem aGh:zc aDg=[.v Value.nilFunc]:=ID rfl
theorem bbq{K:TI→Prop}:@tyW Tryz.prog 59 ⟨K⟩=K aDf:=qi bct
theorem aGf:aDf.kd=Kd.oth:=ID rfl
theorem arK:aDf.kd.agg=false:=ID rfl
theorem ake:aDf.size=1:=ID rfl
theorem afa:aDf.bytes=8:=ID rfl
theorem aGd:qx aDf=True:=eq_true rfl
theorem aGe:zc aDf=[.v Value.nilFunc]:=ID rfl
theorem bbp{K:TI→Prop}:@tyW Tryz.prog 60 ⟨K⟩=K aDe:=qi bcs
theorem aGb:aDe.kd=Kd.oth:=ID rfl
theorem arI:aDe.kd.agg=false:=ID rfl
theorem akc:aDe.size=1:=ID rfl
theorem ae9:aDe.bytes=8:=ID rfl
theorem aF9:qx aDe=True:=eq_true rfl
theorem aGa:zc aDe=[.v Value.nilFunc]:=ID rfl
theorem bbo{K:TI→Prop}:@tyW Tryz.prog 61 ⟨K⟩=K aDd:=qi bcr
theorem aF8:aDd.kd=Kd.oth:=ID rfl
theorem arH:aDd.kd.agg=false:=ID rfl
theorem akb:aDd.size=1:=ID rfl
theorem ae8:aDd.bytes=8:=ID rfl
theorem aF6:qx aDd=True:=eq_true rfl
theorem aF7:zc aDd=[.v Value.nilFunc]:=ID rfl
theorem bbn{K:TI→Prop}:@tyW Tryz.prog 62 ⟨K⟩=K ae7:=qi aL3
theorem aF5:ae7.kd=Kd.stru [(0,3),(1,4),(2,3),(3,3)]:=ID rfl
theorem arG:ae7.kd.agg=true:=ID rfl
theorem aka:ae7.size=4:=ID rfl
theorem ae6:ae7.bytes=32:=ID rfl
theorem aF3:qx ae7=True:=eq_true rfl
theorem aF4:zc ae7=[.v (Value.int IntKind.i64 0),.v (Value.bool false),.v (Value.int IntKind.i64 0),.v (Value.int IntKind.i64 0)]:=ID rfl
theorem aKx{K:Nat→TI→Prop}:@qA Tryz.prog 62 0 ⟨K⟩=K 0 ti3:=qu (ti:=ae7) (tf:=ti3) (fo:=(0,3)) (fs:=[(0,3),(1,4),(2,3),(3,3)]) aL3 rfl rfl tf3
theorem aNG{K:Nat→Nat→Prop}:qv Tryz.prog [(0,3),(1,4),(2,3),(3,3)] 0 K=K 0 1:=qt (tf:=ti3) (fo:=(0,3)) (fs:=[(0,3),(1,4),(2,3),(3,3)]) rfl tf3
theorem aKw{K:Nat→TI→Prop}:@qA Tryz.prog 62 1 ⟨K⟩=K 1 ti4:=qu (ti:=ae7) (tf:=ti4) (fo:=(1,4)) (fs:=[(0,3),(1,4),(2,3),(3,3)]) aL3 rfl rfl tf4
theorem aNF{K:Nat→Nat→Prop}:qv Tryz.prog [(0,3),(1,4),(2,3),(3,3)] 1 K=K 1 1:=qt (tf:=ti4) (fo:=(1,4)) (fs:=[(0,3),(1,4),(2,3),(3,3)]) rfl tf4
theorem aKv{K:Nat→TI→Prop}:@qA Tryz.prog 62 2 ⟨K⟩=K 2 ti3:=qu (ti:=ae7) (tf:=ti3) (fo:=(2,3)) (fs:=[(0,3),(1,4),(2,3),(3,3)]) aL3 rfl rfl tf3
theorem aNE{K:Nat→Nat→Prop}:qv Tryz.prog [(0,3),(1,4),(2,3),(3,3)] 2 K=K 2 1:=qt (tf:=ti3) (fo:=(2,3)) (fs:=[(0,3),(1,4),(2,3),(3,3)]) rfl tf3
theorem aKu{K:Nat→TI→Prop}:@qA Tryz.prog 62 3 ⟨K⟩=K 3 ti3:=qu (ti:=ae7) (tf:=ti3) (fo:=(3,3)) (fs:=[(0,3),(1,4),(2,3),(3,3)]) aL3 rfl rfl tf3
theorem aND{K:Nat→Nat→Prop}:qv Tryz.prog [(0,3),(1,4),(2,3),(3,3)] 3 K=K 3 1:=qt (tf:=ti3) (fo:=(3,3)) (fs:=[(0,3),(1,4),(2,3),(3,3)]) rfl tf3
theorem aOq:∀f∈([(0,3),(1,4),(2,3),(3,3)]:List (Nat×Nat)),(qr Tryz.prog f.2).isSome=true:=by
 intro f hf
 simp only[List.mem_cons,List.not_mem_nil,or_false]at hf
 rcases hf with rfl|rfl|rfl|rfl
 ·rw[tf3];rfl
 ·rw[tf4];rfl
 ·rw[tf3];rfl
 ·rw[tf3];rfl
theorem bar{ps:List (Nat×AV)}{K:AV→Prop}:@zq Tryz.prog 62 ps ⟨K⟩=@zr (qv Tryz.prog [(0,3),(1,4),(2,3),(3,3)]) (zc ae7) ps ⟨fun cs=>K (.ag cs)⟩:=qX aL3 rfl aOq
theorem bbm{K:TI→Prop}:@tyW Tryz.prog 63 ⟨K⟩=K ad3:=qi aHZ
theorem aF2:ad3.kd=Kd.stru [(0,3),(1,4),(2,3),(3,3)]:=ID rfl
theorem arF:ad3.kd.agg=true:=ID rfl
theorem aj9:ad3.size=4:=ID rfl
theorem ae5:ad3.bytes=32:=ID rfl
theorem aF0:qx ad3=True:=eq_true rfl
theorem aF1:zc ad3=[.v (Value.int IntKind.i64 0),.v (Value.bool false),.v (Value.int IntKind.i64 0),.v (Value.int IntKind.i64 0)]:=ID rfl
theorem aKt{K:Nat→TI→Prop}:@qA Tryz.prog 63 0 ⟨K⟩=K 0 ti3:=qu (ti:=ad3) (tf:=ti3) (fo:=(0,3)) (fs:=[(0,3),(1,4),(2,3),(3,3)]) aHZ rfl rfl tf3
theorem aNC{K:Nat→Nat→Prop}:qv Tryz.prog [(0,3),(1,4),(2,3),(3,3)] 0 K=K 0 1:=qt (tf:=ti3) (fo:=(0,3)) (fs:=[(0,3),(1,4),(2,3),(3,3)]) rfl tf3
theorem aKs{K:Nat→TI→Prop}:@qA Tryz.prog 63 1 ⟨K⟩=K 1 ti4:=qu (ti:=ad3) (tf:=ti4) (fo:=(1,4)) (fs:=[(0,3),(1,4),(2,3),(3,3)]) aHZ rfl rfl tf4
theorem aNB{K:Nat→Nat→Prop}:qv Tryz.prog [(0,3),(1,4),(2,3),(3,3)] 1 K=K 1 1:=qt (tf:=ti4) (fo:=(1,4)) (fs:=[(0,3),(1,4),(2,3),(3,3)]) rfl tf4
theorem aKr{K:Nat→TI→Prop}:@qA Tryz.prog 63 2 ⟨K⟩=K 2 ti3:=qu (ti:=ad3) (tf:=ti3) (fo:=(2,3)) (fs:=[(0,3),(1,4),(2,3),(3,3)]) aHZ rfl rfl tf3
theorem aNA{K:Nat→Nat→Prop}:qv Tryz.prog [(0,3),(1,4),(2,3),(3,3)] 2 K=K 2 1:=qt (tf:=ti3) (fo:=(2,3)) (fs:=[(0,3),(1,4),(2,3),(3,3)]) rfl tf3
theorem aKq{K:Nat→TI→Prop}:@qA Tryz.prog 63 3 ⟨K⟩=K 3 ti3:=qu (ti:=ad3) (tf:=ti3) (fo:=(3,3)) (fs:=[(0,3),(1,4),(2,3),(3,3)]) aHZ rfl rfl tf3
theorem aNz{K:Nat→Nat→Prop}:qv Tryz.prog [(0,3),(1,4),(2,3),(3,3)] 3 K=K 3 1:=qt (tf:=ti3) (fo:=(3,3)) (fs:=[(0,3),(1,4),(2,3),(3,3)]) rfl tf3
theorem aOp:∀f∈([(0,3),(1,4),(2,3),(3,3)]:List (Nat×Nat)),(qr Tryz.prog f.2).isSome=true:=by
 intro f hf
 simp only[List.mem_cons,List.not_mem_nil,or_false]at hf
 rcases hf with rfl|rfl|rfl|rfl
 ·rw[tf3];rfl
 ·rw[tf4];rfl
 ·rw[tf3];rfl
 ·rw[tf3];rfl
theorem baq{ps:List (Nat×AV)}{K:AV→Prop}:@zq Tryz.prog 63 ps ⟨K⟩=@zr (qv Tryz.prog [(0,3),(1,4),(2,3),(3,3)]) (zc ad3) ps ⟨fun cs=>K (.ag cs)⟩:=qX aHZ rfl aOp
theorem bbl{K:TI→Prop}:@tyW Tryz.prog 65 ⟨K⟩=K aDc:=qi bcq
theorem aFZ:aDc.kd=Kd.oth:=ID rfl
theorem arE:aDc.kd.agg=false:=ID rfl
theorem aj8:aDc.size=1:=ID rfl
theorem ae4:aDc.bytes=8:=ID rfl
theorem aFX:qx aDc=True:=eq_true rfl
theorem aFY:zc aDc=[.v Value.nilFunc]:=ID rfl
theorem bbk{K:TI→Prop}:@tyW Tryz.prog 67 ⟨K⟩=K aDb:=qi bcp
theorem aFW:aDb.kd=Kd.oth:=ID rfl
theorem arD:aDb.kd.agg=false:=ID rfl
theorem aj7:aDb.size=1:=ID rfl
theorem ae3:aDb.bytes=8:=ID rfl
theorem aFU:qx aDb=True:=eq_true rfl
theorem aFV:zc aDb=[.v Value.nilFunc]:=ID rfl
theorem bbj{K:TI→Prop}:@tyW Tryz.prog 68 ⟨K⟩=K aDa:=qi bco
theorem aFT:aDa.kd=Kd.oth:=ID rfl
theorem arC:aDa.kd.agg=false:=ID rfl
theorem aj6:aDa.size=1:=ID rfl
theorem ae2:aDa.bytes=8:=ID rfl
theorem aFR:qx aDa=True:=eq_true rfl
theorem aFS:zc aDa=[.v Value.nilFunc]:=ID rfl
theorem bbi{K:TI→Prop}:@tyW Tryz.prog 69 ⟨K⟩=K aC9:=qi bcn
theorem aFQ:aC9.kd=Kd.oth:=ID rfl
theorem arB:aC9.kd.agg=false:=ID rfl
theorem aj5:aC9.size=1:=ID rfl
theorem ae1:aC9.bytes=8:=ID rfl
theorem aFO:qx aC9=True:=eq_true rfl
theorem aFP:zc aC9=[.v Value.nilFunc]:=ID rfl
theorem bbh{K:TI→Prop}:@tyW Tryz.prog 70 ⟨K⟩=K aC8:=qi bcm
theorem aFM:aC8.kd=Kd.oth:=ID rfl
theorem arz:aC8.kd.agg=false:=ID rfl
theorem aj3:aC8.size=1:=ID rfl
theorem ae0:aC8.bytes=8:=ID rfl
theorem aFK:qx aC8=True:=eq_true rfl
theorem aFL:zc aC8=[.v Value.nilFunc]:=ID rfl
theorem bbg{K:TI→Prop}:@tyW Tryz.prog 71 ⟨K⟩=K aC7:=qi bcl
theorem aFJ:aC7.kd=Kd.oth:=ID rfl
theorem ary:aC7.kd.agg=false:=ID rfl
theorem aj2:aC7.size=1:=ID rfl
theorem aeZ:aC7.bytes=8:=ID rfl
theorem aFH:qx aC7=True:=eq_true rfl
theorem aFI:zc aC7=[.v Value.nilFunc]:=ID rfl
theorem bbf{K:TI→Prop}:@tyW Tryz.prog 72 ⟨K⟩=K aC6:=qi bck
theorem aFG:aC6.kd=Kd.oth:=ID rfl
theorem arx:aC6.kd.agg=false:=ID rfl
theorem aj1:aC6.size=1:=ID rfl
theorem aeY:aC6.bytes=8:=ID rfl
theorem aFE:qx aC6=True:=eq_true rfl
theorem aFF:zc aC6=[.v Value.nilFunc]:=ID rfl
theorem bbe{K:TI→Prop}:@tyW Tryz.prog 74 ⟨K⟩=K aC5:=qi bcj
theorem aFD:aC5.kd=Kd.oth:=ID rfl
theorem arw:aC5.kd.agg=false:=ID rfl
theorem aj0:aC5.size=1:=ID rfl
theorem aeX:aC5.bytes=8:=ID rfl
theorem aFB:qx aC5=True:=eq_true rfl
theorem aFC:zc aC5=[.v Value.nilFunc]:=ID rfl
theorem bbd{K:TI→Prop}:@tyW Tryz.prog 76 ⟨K⟩=K aC4:=qi bci
theorem aFA:aC4.kd=Kd.oth:=ID rfl
theorem arv:aC4.kd.agg=false:=ID rfl
theorem ajZ:aC4.size=1:=ID rfl
theorem aeW:aC4.bytes=8:=ID rfl
theorem aFy:qx aC4=True:=eq_true rfl
theorem aFz:zc aC4=[.v Value.nilFunc]:=ID rfl
theorem bbc{K:TI→Prop}:@tyW Tryz.prog 77 ⟨K⟩=K aC3:=qi bch
theorem aFx:aC3.kd=Kd.oth:=ID rfl
theorem aru:aC3.kd.agg=false:=ID rfl
theorem ajY:aC3.size=1:=ID rfl
theorem aeV:aC3.bytes=8:=ID rfl
theorem aFv:qx aC3=True:=eq_true rfl
theorem aFw:zc aC3=[.v Value.nilFunc]:=ID rfl
theorem bbb{K:TI→Prop}:@tyW Tryz.prog 79 ⟨K⟩=K aC2:=qi bcg
theorem aFu:aC2.kd=Kd.oth:=ID rfl
theorem art:aC2.kd.agg=false:=ID rfl
theorem ajX:aC2.size=1:=ID rfl
theorem aeU:aC2.bytes=8:=ID rfl
theorem aFs:qx aC2=True:=eq_true rfl
theorem aFt:zc aC2=[.v Value.nilFunc]:=ID rfl
theorem bba{K:TI→Prop}:@tyW Tryz.prog 80 ⟨K⟩=K aC1:=qi bcf
theorem aFq:aC1.kd=Kd.oth:=ID rfl
theorem arq:aC1.kd.agg=false:=ID rfl
theorem ajV:aC1.size=1:=ID rfl
theorem aeT:aC1.bytes=8:=ID rfl
theorem aFo:qx aC1=True:=eq_true rfl
theorem aFp:zc aC1=[.v Value.nilFunc]:=ID rfl
theorem ba9{K:TI→Prop}:@tyW Tryz.prog 82 ⟨K⟩=K aC0:=qi bce
theorem aFn:aC0.kd=Kd.oth:=ID rfl
theorem arp:aC0.kd.agg=false:=ID rfl
theorem ajU:aC0.size=1:=ID rfl
theorem aeS:aC0.bytes=8:=ID rfl
theorem aFl:qx aC0=True:=eq_true rfl
theorem aFm:zc aC0=[.v Value.nilFunc]:=ID rfl
theorem ba8{K:TI→Prop}:@tyW Tryz.prog 83 ⟨K⟩=K aCZ:=qi bcd
theorem aFk:aCZ.kd=Kd.oth:=ID rfl
theorem aro:aCZ.kd.agg=false:=ID rfl
theorem ajT:aCZ.size=1:=ID rfl
theorem aeR:aCZ.bytes=8:=ID rfl
theorem aFi:qx aCZ=True:=eq_true rfl
theorem aFj:zc aCZ=[.v Value.nilFunc]:=ID rfl
theorem ba7{K:TI→Prop}:@tyW Tryz.prog 84 ⟨K⟩=K aCY:=qi bcc
theorem aFh:aCY.kd=Kd.oth:=ID rfl
theorem arn:aCY.kd.agg=false:=ID rfl
theorem ajS:aCY.size=1:=ID rfl
theorem aeQ:aCY.bytes=8:=ID rfl
theorem aFf:qx aCY=True:=eq_true rfl
theorem aFg:zc aCY=[.v Value.nilFunc]:=ID rfl
theorem ba6{K:TI→Prop}:@tyW Tryz.prog 85 ⟨K⟩=K aCX:=qi bcb
theorem aFe:aCX.kd=Kd.oth:=ID rfl
theorem arm:aCX.kd.agg=false:=ID rfl
theorem ajR:aCX.size=1:=ID rfl
theorem aeP:aCX.bytes=8:=ID rfl
theorem aFc:qx aCX=True:=eq_true rfl
theorem aFd:zc aCX=[.v Value.nilFunc]:=ID rfl
theorem ba5{K:TI→Prop}:@tyW Tryz.prog 86 ⟨K⟩=K aCW:=qi bca
theorem aFb:aCW.kd=Kd.oth:=ID rfl
theorem arl:aCW.kd.agg=false:=ID rfl
theorem ajQ:aCW.size=1:=ID rfl
theorem aeO:aCW.bytes=8:=ID rfl
theorem aE9:qx aCW=True:=eq_true rfl
theorem aFa:zc aCW=[.v Value.nilFunc]:=ID rfl
theorem ba4{K:TI→Prop}:@tyW Tryz.prog 87 ⟨K⟩=K aCV:=qi bb9
theorem aE8:aCV.kd=Kd.oth:=ID rfl
theorem ark:aCV.kd.agg=false:=ID rfl
theorem ajP:aCV.size=1:=ID rfl
theorem aeN:aCV.bytes=8:=ID rfl
theorem aE6:qx aCV=True:=eq_true rfl
theorem aE7:zc aCV=[.v Value.nilFunc]:=ID rfl
theorem ba3{K:TI→Prop}:@tyW Tryz.prog 88 ⟨K⟩=K aCU:=qi bb8
theorem aE5:aCU.kd=Kd.oth:=ID rfl
theorem arj:aCU.kd.agg=false:=ID rfl
theorem ajO:aCU.size=1:=ID rfl
theorem aeM:aCU.bytes=8:=ID rfl
theorem aE3:qx aCU=True:=eq_true rfl
theorem aE4:zc aCU=[.v Value.nilFunc]:=ID rfl
theorem ba2{K:TI→Prop}:@tyW Tryz.prog 89 ⟨K⟩=K ajr:=qi aMQ
theorem aE2:ajr.kd=Kd.stru [(0,4),(1,23),(2,3)]:=ID rfl
theorem ari:ajr.kd.agg=true:=ID rfl
theorem ajN:ajr.size=3:=ID rfl
theorem aeL:ajr.bytes=40:=ID rfl
theorem aE0:qx ajr=True:=eq_true rfl
theorem aE1:zc ajr=[.v (Value.bool false),.v (Value.slice none 0 0),.v (Value.int IntKind.i64 0)]:=ID rfl
theorem aKp{K:Nat→TI→Prop}:@qA Tryz.prog 89 0 ⟨K⟩=K 0 ti4:=qu (ti:=ajr) (tf:=ti4) (fo:=(0,4)) (fs:=[(0,4),(1,23),(2,3)]) aMQ rfl rfl tf4
theorem aNy{K:Nat→Nat→Prop}:qv Tryz.prog [(0,4),(1,23),(2,3)] 0 K=K 0 1:=qt (tf:=ti4) (fo:=(0,4)) (fs:=[(0,4),(1,23),(2,3)]) rfl tf4
theorem aKo{K:Nat→TI→Prop}:@qA Tryz.prog 89 1 ⟨K⟩=K 1 Jt:=qu (ti:=ajr) (tf:=Jt) (fo:=(1,23)) (fs:=[(0,4),(1,23),(2,3)]) aMQ rfl rfl ad6
theorem aNx{K:Nat→Nat→Prop}:qv Tryz.prog [(0,4),(1,23),(2,3)] 1 K=K 1 1:=qt (tf:=Jt) (fo:=(1,23)) (fs:=[(0,4),(1,23),(2,3)]) rfl ad6
theorem aKn{K:Nat→TI→Prop}:@qA Tryz.prog 89 2 ⟨K⟩=K 2 ti3:=qu (ti:=ajr) (tf:=ti3) (fo:=(2,3)) (fs:=[(0,4),(1,23),(2,3)]) aMQ rfl rfl tf3
theorem aNw{K:Nat→Nat→Prop}:qv Tryz.prog [(0,4),(1,23),(2,3)] 2 K=K 2 1:=qt (tf:=ti3) (fo:=(2,3)) (fs:=[(0,4),(1,23),(2,3)]) rfl tf3
theorem aOo:∀f∈([(0,4),(1,23),(2,3)]:List (Nat×Nat)),(qr Tryz.prog f.2).isSome=true:=by
 intro f hf
 simp only[List.mem_cons,List.not_mem_nil,or_false]at hf
 rcases hf with rfl|rfl|rfl
 ·rw[tf4];rfl
 ·rw[ad6];rfl
 ·rw[tf3];rfl
theorem bap{ps:List (Nat×AV)}{K:AV→Prop}:@zq Tryz.prog 89 ps ⟨K⟩=@zr (qv Tryz.prog [(0,4),(1,23),(2,3)]) (zc ajr) ps ⟨fun cs=>K (.ag cs)⟩:=qX aMQ rfl aOo
theorem ba1{K:TI→Prop}:@tyW Tryz.prog 90 ⟨K⟩=K Q2:=qi YZ
theorem aEY:Q2.kd=Kd.stru [(0,4),(1,23),(2,3)]:=ID rfl
theorem arg:Q2.kd.agg=true:=ID rfl
theorem ajL:Q2.size=3:=ID rfl
theorem aeK:Q2.bytes=40:=ID rfl
theorem aEW:qx Q2=True:=eq_true rfl
theorem aEX:zc Q2=[.v (Value.bool false),.v (Value.slice none 0 0),.v (Value.int IntKind.i64 0)]:=ID rfl
theorem aKm{K:Nat→TI→Prop}:@qA Tryz.prog 90 0 ⟨K⟩=K 0 ti4:=qu (ti:=Q2) (tf:=ti4) (fo:=(0,4)) (fs:=[(0,4),(1,23),(2,3)]) YZ rfl rfl tf4
theorem aNv{K:Nat→Nat→Prop}:qv Tryz.prog [(0,4),(1,23),(2,3)] 0 K=K 0 1:=qt (tf:=ti4) (fo:=(0,4)) (fs:=[(0,4),(1,23),(2,3)]) rfl tf4
theorem aKl{K:Nat→TI→Prop}:@qA Tryz.prog 90 1 ⟨K⟩=K 1 Jt:=qu (ti:=Q2) (tf:=Jt) (fo:=(1,23)) (fs:=[(0,4),(1,23),(2,3)]) YZ rfl rfl ad6
theorem aNu{K:Nat→Nat→Prop}:qv Tryz.prog [(0,4),(1,23),(2,3)] 1 K=K 1 1:=qt (tf:=Jt) (fo:=(1,23)) (fs:=[(0,4),(1,23),(2,3)]) rfl ad6
theorem aKk{K:Nat→TI→Prop}:@qA Tryz.prog 90 2 ⟨K⟩=K 2 ti3:=qu (ti:=Q2) (tf:=ti3) (fo:=(2,3)) (fs:=[(0,4),(1,23),(2,3)]) YZ rfl rfl tf3
theorem aNt{K:Nat→Nat→Prop}:qv Tryz.prog [(0,4),(1,23),(2,3)] 2 K=K 2 1:=qt (tf:=ti3) (fo:=(2,3)) (fs:=[(0,4),(1,23),(2,3)]) rfl tf3
theorem aOn:∀f∈([(0,4),(1,23),(2,3)]:List (Nat×Nat)),(qr Tryz.prog f.2).isSome=true:=by
 intro f hf
 simp only[List.mem_cons,List.not_mem_nil,or_false]at hf
 rcases hf with rfl|rfl|rfl
 ·rw[tf4];rfl
 ·rw[ad6];rfl
 ·rw[tf3];rfl
theorem bao{ps:List (Nat×AV)}{K:AV→Prop}:@zq Tryz.prog 90 ps ⟨K⟩=@zr (qv Tryz.prog [(0,4),(1,23),(2,3)]) (zc Q2) ps ⟨fun cs=>K (.ag cs)⟩:=qX YZ rfl aOn
theorem ba0{K:TI→Prop}:@tyW Tryz.prog 92 ⟨K⟩=K aCT:=qi bb7
theorem aEV:aCT.kd=Kd.oth:=ID rfl
theorem arf:aCT.kd.agg=false:=ID rfl
theorem ajK:aCT.size=1:=ID rfl
theorem aeJ:aCT.bytes=8:=ID rfl
theorem aET:qx aCT=True:=eq_true rfl
theorem aEU:zc aCT=[.v Value.nilFunc]:=ID rfl
theorem baZ{K:TI→Prop}:@tyW Tryz.prog 93 ⟨K⟩=K aCS:=qi bb6
theorem aES:aCS.kd=Kd.oth:=ID rfl
theorem ard:aCS.kd.agg=false:=ID rfl
theorem ajJ:aCS.size=1:=ID rfl
theorem aeI:aCS.bytes=8:=ID rfl
theorem aEQ:qx aCS=True:=eq_true rfl
theorem aER:zc aCS=[.v Value.nilFunc]:=ID rfl
theorem baY{K:TI→Prop}:@tyW Tryz.prog 94 ⟨K⟩=K aCR:=qi bb5
theorem aEP:aCR.kd=Kd.oth:=ID rfl
theorem arc:aCR.kd.agg=false:=ID rfl
theorem ajI:aCR.size=1:=ID rfl
theorem aeH:aCR.bytes=8:=ID rfl
theorem aEN:qx aCR=True:=eq_true rfl
theorem aEO:zc aCR=[.v Value.nilFunc]:=ID rfl
theorem baX{K:TI→Prop}:@tyW Tryz.prog 95 ⟨K⟩=K aCQ:=qi bb4
theorem aEM:aCQ.kd=Kd.oth:=ID rfl
theorem arb:aCQ.kd.agg=false:=ID rfl
theorem ajH:aCQ.size=1:=ID rfl
theorem aeG:aCQ.bytes=8:=ID rfl
theorem aEK:qx aCQ=True:=eq_true rfl
theorem aEL:zc aCQ=[.v Value.nilFunc]:=ID rfl
theorem baW{K:TI→Prop}:@tyW Tryz.prog 97 ⟨K⟩=K aCP:=qi bb3
theorem aEJ:aCP.kd=Kd.oth:=ID rfl
theorem ara:aCP.kd.agg=false:=ID rfl
theorem ajG:aCP.size=1:=ID rfl
theorem aeF:aCP.bytes=8:=ID rfl
theorem aEH:qx aCP=True:=eq_true rfl
theorem aEI:zc aCP=[.v Value.nilFunc]:=ID rfl
theorem baV{K:TI→Prop}:@tyW Tryz.prog 98 ⟨K⟩=K aCO:=qi bb2
theorem aEG:aCO.kd=Kd.oth:=ID rfl
theorem aq9:aCO.kd.agg=false:=ID rfl
theorem ajF:aCO.size=1:=ID rfl
theorem aeE:aCO.bytes=8:=ID rfl
theorem aEE:qx aCO=True:=eq_true rfl
theorem aEF:zc aCO=[.v Value.nilFunc]:=ID rfl
theorem baU{K:TI→Prop}:@tyW Tryz.prog 99 ⟨K⟩=K aCN:=qi bb1
theorem aED:aCN.kd=Kd.oth:=ID rfl
theorem aq8:aCN.kd.agg=false:=ID rfl
theorem ajE:aCN.size=1:=ID rfl
theorem aeD:aCN.bytes=8:=ID rfl
theorem aEB:qx aCN=True:=eq_true rfl
theorem aEC:zc aCN=[.v Value.nilFunc]:=ID rfl
theorem aVP{K:TI→Prop}:@tyW Tryz.prog 100 ⟨K⟩=K yP:=qi J4
theorem azR:yP.kd=Kd.sli 90:=ID rfl
theorem anx:yP.kd.agg=false:=ID rfl
theorem aie:yP.size=1:=ID rfl
theorem acX:yP.bytes=24:=ID rfl
theorem azP:qx yP=True:=eq_true rfl
theorem azQ:zc yP=[.v (Value.slice none 0 0)]:=ID rfl
theorem aNc{K:TI→Prop}:@yH Tryz.prog 100 ⟨K⟩=K Q2:=QQ J4 rfl YZ
theorem aVO{K:TI→Prop}:@tyW Tryz.prog 101 ⟨K⟩=K Zv:=qi az1
theorem azO:Zv.kd=Kd.stru [(0,3),(1,100)]:=ID rfl
theorem anw:Zv.kd.agg=true:=ID rfl
theorem aid:Zv.size=2:=ID rfl
theorem acW:Zv.bytes=32:=ID rfl
theorem azM:qx Zv=True:=eq_true rfl
theorem azN:zc Zv=[.v (Value.int IntKind.i64 0),.v (Value.slice none 0 0)]:=ID rfl
theorem aBL{K:Nat→TI→Prop}:@qA Tryz.prog 101 0 ⟨K⟩=K 0 ti3:=qu (ti:=Zv) (tf:=ti3) (fo:=(0,3)) (fs:=[(0,3),(1,100)]) az1 rfl rfl tf3
theorem aIV{K:Nat→Nat→Prop}:qv Tryz.prog [(0,3),(1,100)] 0 K=K 0 1:=qt (tf:=ti3) (fo:=(0,3)) (fs:=[(0,3),(1,100)]) rfl tf3
theorem aBK{K:Nat→TI→Prop}:@qA Tryz.prog 101 1 ⟨K⟩=K 1 yP:=qu (ti:=Zv) (tf:=yP) (fo:=(1,100)) (fs:=[(0,3),(1,100)]) az1 rfl rfl J4
theorem aIU{K:Nat→Nat→Prop}:qv Tryz.prog [(0,3),(1,100)] 1 K=K 1 1:=qt (tf:=yP) (fo:=(1,100)) (fs:=[(0,3),(1,100)]) rfl J4
theorem aKc:∀f∈([(0,3),(1,100)]:List (Nat×Nat)),(qr Tryz.prog f.2).isSome=true:=by
 intro f hf
 simp only[List.mem_cons,List.not_mem_nil,or_false]at hf
 rcases hf with rfl|rfl
 ·rw[tf3];rfl
 ·rw[J4];rfl
theorem aSJ{ps:List (Nat×AV)}{K:AV→Prop}:@zq Tryz.prog 101 ps ⟨K⟩=@zr (qv Tryz.prog [(0,3),(1,100)]) (zc Zv) ps ⟨fun cs=>K (.ag cs)⟩:=qX az1 rfl aKc
theorem aVN{K:TI→Prop}:@tyW Tryz.prog 102 ⟨K⟩=K Zu:=qi az0
theorem azL:Zu.kd=Kd.stru [(0,3),(1,100)]:=ID rfl
theorem anv:Zu.kd.agg=true:=ID rfl
theorem aic:Zu.size=2:=ID rfl
theorem acV:Zu.bytes=32:=ID rfl
theorem azJ:qx Zu=True:=eq_true rfl
theorem azK:zc Zu=[.v (Value.int IntKind.i64 0),.v (Value.slice none 0 0)]:=ID rfl
theorem aBJ{K:Nat→TI→Prop}:@qA Tryz.prog 102 0 ⟨K⟩=K 0 ti3:=qu (ti:=Zu) (tf:=ti3) (fo:=(0,3)) (fs:=[(0,3),(1,100)]) az0 rfl rfl tf3
theorem aIT{K:Nat→Nat→Prop}:qv Tryz.prog [(0,3),(1,100)] 0 K=K 0 1:=qt (tf:=ti3) (fo:=(0,3)) (fs:=[(0,3),(1,100)]) rfl tf3
theorem aBI{K:Nat→TI→Prop}:@qA Tryz.prog 102 1 ⟨K⟩=K 1 yP:=qu (ti:=Zu) (tf:=yP) (fo:=(1,100)) (fs:=[(0,3),(1,100)]) az0 rfl rfl J4
theorem aIS{K:Nat→Nat→Prop}:qv Tryz.prog [(0,3),(1,100)] 1 K=K 1 1:=qt (tf:=yP) (fo:=(1,100)) (fs:=[(0,3),(1,100)]) rfl J4
theorem aKb:∀f∈([(0,3),(1,100)]:List (Nat×Nat)),(qr Tryz.prog f.2).isSome=true:=by
 intro f hf
 simp only[List.mem_cons,List.not_mem_nil,or_false]at hf
 rcases hf with rfl|rfl
 ·rw[tf3];rfl
 ·rw[J4];rfl
theorem aSI{ps:List (Nat×AV)}{K:AV→Prop}:@zq Tryz.prog 102 ps ⟨K⟩=@zr (qv Tryz.prog [(0,3),(1,100)]) (zc Zu) ps ⟨fun cs=>K (.ag cs)⟩:=qX az0 rfl aKb
theorem aVM{K:TI→Prop}:@tyW Tryz.prog 103 ⟨K⟩=K Kj:=qi aX5
theorem azI:Kj.kd=Kd.oth:=ID rfl
theorem anu:Kj.kd.agg=false:=ID rfl
theorem aib:Kj.size=1:=ID rfl
theorem acU:Kj.bytes=8:=ID rfl
theorem azG:qx Kj=True:=eq_true rfl
theorem azH:zc Kj=[.v Value.nilFunc]:=ID rfl
theorem aVL{K:TI→Prop}:@tyW Tryz.prog 104 ⟨K⟩=K Ki:=qi aX4
theorem azF:Ki.kd=Kd.oth:=ID rfl
theorem ant:Ki.kd.agg=false:=ID rfl
theorem aia:Ki.size=1:=ID rfl
theorem acT:Ki.bytes=8:=ID rfl
theorem azD:qx Ki=True:=eq_true rfl
theorem azE:zc Ki=[.v Value.nilFunc]:=ID rfl
theorem aVK{K:TI→Prop}:@tyW Tryz.prog 105 ⟨K⟩=K Kh:=qi aX3
theorem azC:Kh.kd=Kd.oth:=ID rfl
theorem ans:Kh.kd.agg=false:=ID rfl
theorem ah9:Kh.size=1:=ID rfl
theorem acS:Kh.bytes=8:=ID rfl
theorem azA:qx Kh=True:=eq_true rfl
theorem azB:zc Kh=[.v Value.nilFunc]:=ID rfl
theorem aVJ{K:TI→Prop}:@tyW Tryz.prog 106 ⟨K⟩=K Kg:=qi aX2
theorem azz:Kg.kd=Kd.oth:=ID rfl
theorem anr:Kg.kd.agg=false:=ID rfl
theorem ah8:Kg.size=1:=ID rfl
theorem acR:Kg.bytes=8:=ID rfl
theorem azx:qx Kg=True:=eq_true rfl
theorem azy:zc Kg=[.v Value.nilFunc]:=ID rfl
theorem aVI{K:TI→Prop}:@tyW Tryz.prog 107 ⟨K⟩=K Kf:=qi aX1
theorem azw:Kf.kd=Kd.oth:=ID rfl
theorem anq:Kf.kd.agg=false:=ID rfl
theorem ah7:Kf.size=1:=ID rfl
theorem acQ:Kf.bytes=8:=ID rfl
theorem azu:qx Kf=True:=eq_true rfl
theorem azv:zc Kf=[.v Value.nilFunc]:=ID rfl
theorem aVH{K:TI→Prop}:@tyW Tryz.prog 108 ⟨K⟩=K Ke:=qi aX0
theorem azt:Ke.kd=Kd.oth:=ID rfl
theorem anp:Ke.kd.agg=false:=ID rfl
theorem ah6:Ke.size=1:=ID rfl
theorem acP:Ke.bytes=8:=ID rfl
theorem azr:qx Ke=True:=eq_true rfl
theorem azs:zc Ke=[.v Value.nilFunc]:=ID rfl
theorem aVG{K:TI→Prop}:@tyW Tryz.prog 109 ⟨K⟩=K Kc:=qi aXZ
theorem azq:Kc.kd=Kd.oth:=ID rfl
theorem ano:Kc.kd.agg=false:=ID rfl
theorem ah5:Kc.size=1:=ID rfl
theorem acO:Kc.bytes=8:=ID rfl
theorem azo:qx Kc=True:=eq_true rfl
theorem azp:zc Kc=[.v Value.nilFunc]:=ID rfl
theorem aVF{K:TI→Prop}:@tyW Tryz.prog 110 ⟨K⟩=K Zt:=qi azZ
theorem azm:Zt.kd=Kd.stru [(0,90),(3,90)]:=ID rfl
theorem anm:Zt.kd.agg=true:=ID rfl
theorem ah3:Zt.size=6:=ID rfl
theorem acN:Zt.bytes=80:=ID rfl
theorem azk:qx Zt=True:=eq_true rfl
theorem azl:zc Zt=[.v (Value.bool false),.v (Value.slice none 0 0),.v (Value.int IntKind.i64 0),.v (Value.bool false),.v (Value.slice none 0 0),.v (Value.int IntKind.i64 0)]:=ID rfl
theorem aBH{K:Nat→TI→Prop}:@qA Tryz.prog 110 0 ⟨K⟩=K 0 Q2:=qu (ti:=Zt) (tf:=Q2) (fo:=(0,90)) (fs:=[(0,90),(3,90)]) azZ rfl rfl YZ
theorem aIR{K:Nat→Nat→Prop}:qv Tryz.prog [(0,90),(3,90)] 0 K=K 0 3:=qt (tf:=Q2) (fo:=(0,90)) (fs:=[(0,90),(3,90)]) rfl YZ
theorem aBG{K:Nat→TI→Prop}:@qA Tryz.prog 110 1 ⟨K⟩=K 3 Q2:=qu (ti:=Zt) (tf:=Q2) (fo:=(3,90)) (fs:=[(0,90),(3,90)]) azZ rfl rfl YZ
theorem aIQ{K:Nat→Nat→Prop}:qv Tryz.prog [(0,90),(3,90)] 1 K=K 3 3:=qt (tf:=Q2) (fo:=(3,90)) (fs:=[(0,90),(3,90)]) rfl YZ
theorem aKa:∀f∈([(0,90),(3,90)]:List (Nat×Nat)),(qr Tryz.prog f.2).isSome=true:=by
 intro f hf
 simp only[List.mem_cons,List.not_mem_nil,or_false]at hf
 rcases hf with rfl|rfl
 ·rw[YZ];rfl
 ·rw[YZ];rfl
theorem aSH{ps:List (Nat×AV)}{K:AV→Prop}:@zq Tryz.prog 110 ps ⟨K⟩=@zr (qv Tryz.prog [(0,90),(3,90)]) (zc Zt) ps ⟨fun cs=>K (.ag cs)⟩:=qX azZ rfl aKa
theorem aVE{K:TI→Prop}:@tyW Tryz.prog 111 ⟨K⟩=K Q5:=qi anC
theorem azj:Q5.kd=Kd.stru [(0,90),(3,90)]:=ID rfl
theorem anl:Q5.kd.agg=true:=ID rfl
theorem ah2:Q5.size=6:=ID rfl
theorem acM:Q5.bytes=80:=ID rfl
theorem azh:qx Q5=True:=eq_true rfl
theorem azi:zc Q5=[.v (Value.bool false),.v (Value.slice none 0 0),.v (Value.int IntKind.i64 0),.v (Value.bool false),.v (Value.slice none 0 0),.v (Value.int IntKind.i64 0)]:=ID rfl
theorem aBF{K:Nat→TI→Prop}:@qA Tryz.prog 111 0 ⟨K⟩=K 0 Q2:=qu (ti:=Q5) (tf:=Q2) (fo:=(0,90)) (fs:=[(0,90),(3,90)]) anC rfl rfl YZ
theorem aIP{K:Nat→Nat→Prop}:qv Tryz.prog [(0,90),(3,90)] 0 K=K 0 3:=qt (tf:=Q2) (fo:=(0,90)) (fs:=[(0,90),(3,90)]) rfl YZ
theorem aBE{K:Nat→TI→Prop}:@qA Tryz.prog 111 1 ⟨K⟩=K 3 Q2:=qu (ti:=Q5) (tf:=Q2) (fo:=(3,90)) (fs:=[(0,90),(3,90)]) anC rfl rfl YZ
theorem aIO{K:Nat→Nat→Prop}:qv Tryz.prog [(0,90),(3,90)] 1 K=K 3 3:=qt (tf:=Q2) (fo:=(3,90)) (fs:=[(0,90),(3,90)]) rfl YZ
theorem aJ9:∀f∈([(0,90),(3,90)]:List (Nat×Nat)),(qr Tryz.prog f.2).isSome=true:=by
 intro f hf
 simp only[List.mem_cons,List.not_mem_nil,or_false]at hf
 rcases hf with rfl|rfl
 ·rw[YZ];rfl
 ·rw[YZ];rfl
theorem aSG{ps:List (Nat×AV)}{K:AV→Prop}:@zq Tryz.prog 111 ps ⟨K⟩=@zr (qv Tryz.prog [(0,90),(3,90)]) (zc Q5) ps ⟨fun cs=>K (.ag cs)⟩:=qX anC rfl aJ9
theorem aVD{K:TI→Prop}:@tyW Tryz.prog 113 ⟨K⟩=K Kb:=qi aXY
theorem azg:Kb.kd=Kd.oth:=ID rfl
theorem ank:Kb.kd.agg=false:=ID rfl
theorem ah1:Kb.size=1:=ID rfl
theorem acL:Kb.bytes=8:=ID rfl
theorem aze:qx Kb=True:=eq_true rfl
theorem azf:zc Kb=[.v Value.nilFunc]:=ID rfl
theorem aVC{K:TI→Prop}:@tyW Tryz.prog 114 ⟨K⟩=K Ka:=qi aXX
theorem azd:Ka.kd=Kd.oth:=ID rfl
theorem anj:Ka.kd.agg=false:=ID rfl
theorem ah0:Ka.size=1:=ID rfl
theorem acK:Ka.bytes=8:=ID rfl
theorem azb:qx Ka=True:=eq_true rfl
theorem azc:zc Ka=[.v Value.nilFunc]:=ID rfl
theorem aVB{K:TI→Prop}:@tyW Tryz.prog 115 ⟨K⟩=K V9:=qi aXW
theorem aza:V9.kd=Kd.oth:=ID rfl
theorem ani:V9.kd.agg=false:=ID rfl
theorem ahZ:V9.size=1:=ID rfl
theorem acJ:V9.bytes=8:=ID rfl
theorem ay8:qx V9=True:=eq_true rfl
theorem ay9:zc V9=[.v Value.nilFunc]:=ID rfl
theorem aVA{K:TI→Prop}:@tyW Tryz.prog 116 ⟨K⟩=K V8:=qi aXV
theorem ay7:V8.kd=Kd.oth:=ID rfl
theorem anh:V8.kd.agg=false:=ID rfl
theorem ahY:V8.size=1:=ID rfl
theorem acI:V8.bytes=8:=ID rfl
theorem ay5:qx V8=True:=eq_true rfl
theorem ay6:zc V8=[.v Value.nilFunc]:=ID rfl
theorem aVz{K:TI→Prop}:@tyW Tryz.prog 117 ⟨K⟩=K V7:=qi aXU
theorem ay4:V7.kd=Kd.oth:=ID rfl
theorem ang:V7.kd.agg=false:=ID rfl
theorem ahX:V7.size=1:=ID rfl
theorem acH:V7.bytes=8:=ID rfl
theorem ay2:qx V7=True:=eq_true rfl
theorem ay3:zc V7=[.v Value.nilFunc]:=ID rfl
theorem aVy{K:TI→Prop}:@tyW Tryz.prog 118 ⟨K⟩=K V6:=qi aXT
theorem ay1:V6.kd=Kd.oth:=ID rfl
theorem anf:V6.kd.agg=false:=ID rfl
theorem ahW:V6.size=1:=ID rfl
theorem acG:V6.bytes=8:=ID rfl
theorem ayZ:qx V6=True:=eq_true rfl
theorem ay0:zc V6=[.v Value.nilFunc]:=ID rfl
theorem aVx{K:TI→Prop}:@tyW Tryz.prog 119 ⟨K⟩=K V5:=qi aXS
theorem ayY:V5.kd=Kd.oth:=ID rfl
theorem ane:V5.kd.agg=false:=ID rfl
theorem ahV:V5.size=1:=ID rfl
theorem acF:V5.bytes=8:=ID rfl
theorem ayW:qx V5=True:=eq_true rfl
theorem ayX:zc V5=[.v Value.nilFunc]:=ID rfl
theorem aVw{K:TI→Prop}:@tyW Tryz.prog 120 ⟨K⟩=K V4:=qi aXR
theorem ayU:V4.kd=Kd.oth:=ID rfl
theorem anb:V4.kd.agg=false:=ID rfl
theorem ahT:V4.size=1:=ID rfl
theorem acE:V4.bytes=8:=ID rfl
theorem ayS:qx V4=True:=eq_true rfl
theorem ayT:zc V4=[.v Value.nilFunc]:=ID rfl
theorem aVv{K:TI→Prop}:@tyW Tryz.prog 121 ⟨K⟩=K V3:=qi aXQ
theorem ayR:V3.kd=Kd.oth:=ID rfl
theorem ana:V3.kd.agg=false:=ID rfl
theorem ahS:V3.size=1:=ID rfl
theorem acD:V3.bytes=8:=ID rfl
theorem ayP:qx V3=True:=eq_true rfl
theorem ayQ:zc V3=[.v Value.nilFunc]:=ID rfl
theorem aVu{K:TI→Prop}:@tyW Tryz.prog 122 ⟨K⟩=K V2:=qi aXP
theorem ayO:V2.kd=Kd.oth:=ID rfl
theorem am9:V2.kd.agg=false:=ID rfl
theorem ahR:V2.size=1:=ID rfl
theorem acC:V2.bytes=8:=ID rfl
theorem ayM:qx V2=True:=eq_true rfl
theorem ayN:zc V2=[.v Value.nilFunc]:=ID rfl
theorem aVt{K:TI→Prop}:@tyW Tryz.prog 123 ⟨K⟩=K V1:=qi aXO
theorem ayL:V1.kd=Kd.oth:=ID rfl
theorem am8:V1.kd.agg=false:=ID rfl
theorem ahQ:V1.size=1:=ID rfl
theorem acB:V1.bytes=8:=ID rfl
theorem ayJ:qx V1=True:=eq_true rfl
theorem ayK:zc V1=[.v Value.nilFunc]:=ID rfl
theorem aVs{K:TI→Prop}:@tyW Tryz.prog 124 ⟨K⟩=K V0:=qi aXN
theorem ayI:V0.kd=Kd.oth:=ID rfl
theorem am7:V0.kd.agg=false:=ID rfl
theorem ahP:V0.size=1:=ID rfl
theorem acA:V0.bytes=8:=ID rfl
theorem ayG:qx V0=True:=eq_true rfl
theorem ayH:zc V0=[.v Value.nilFunc]:=ID rfl
theorem aVr{K:TI→Prop}:@tyW Tryz.prog 125 ⟨K⟩=K VZ:=qi aXM
theorem ayF:VZ.kd=Kd.oth:=ID rfl
theorem am6:VZ.kd.agg=false:=ID rfl
theorem ahO:VZ.size=1:=ID rfl
theorem acz:VZ.bytes=8:=ID rfl
theorem ayD:qx VZ=True:=eq_true rfl
theorem ayE:zc VZ=[.v Value.nilFunc]:=ID rfl
theorem aVq{K:TI→Prop}:@tyW Tryz.prog 126 ⟨K⟩=K VY:=qi aXL
theorem ayC:VY.kd=Kd.oth:=ID rfl
theorem am5:VY.kd.agg=false:=ID rfl
theorem ahN:VY.size=1:=ID rfl
theorem acy:VY.bytes=8:=ID rfl
theorem ayA:qx VY=True:=eq_true rfl
theorem ayB:zc VY=[.v Value.nilFunc]:=ID rfl
theorem aVp{K:TI→Prop}:@tyW Tryz.prog 127 ⟨K⟩=K VX:=qi aXK
theorem ayz:VX.kd=Kd.oth:=ID rfl
theorem am4:VX.kd.agg=false:=ID rfl
theorem ahM:VX.size=1:=ID rfl
theorem acx:VX.bytes=8:=ID rfl
theorem ayx:qx VX=True:=eq_true rfl
theorem ayy:zc VX=[.v Value.nilFunc]:=ID rfl
theorem aVo{K:TI→Prop}:@tyW Tryz.prog 128 ⟨K⟩=K VW:=qi aXJ
theorem ayw:VW.kd=Kd.oth:=ID rfl
theorem am3:VW.kd.agg=false:=ID rfl
theorem ahL:VW.size=1:=ID rfl
theorem acw:VW.bytes=8:=ID rfl
theorem ayu:qx VW=True:=eq_true rfl
theorem ayv:zc VW=[.v Value.nilFunc]:=ID rfl
theorem aVn{K:TI→Prop}:@tyW Tryz.prog 129 ⟨K⟩=K VV:=qi aXI
theorem ayt:VV.kd=Kd.oth:=ID rfl
theorem am2:VV.kd.agg=false:=ID rfl
theorem ahK:VV.size=1:=ID rfl
theorem acv:VV.bytes=8:=ID rfl
theorem ayr:qx VV=True:=eq_true rfl
theorem ays:zc VV=[.v Value.nilFunc]:=ID rfl
theorem aVm{K:TI→Prop}:@tyW Tryz.prog 130 ⟨K⟩=K VU:=qi aXH
theorem ayp:VU.kd=Kd.oth:=ID rfl
theorem am0:VU.kd.agg=false:=ID rfl
theorem ahI:VU.size=1:=ID rfl
theorem acu:VU.bytes=8:=ID rfl
theorem ayn:qx VU=True:=eq_true rfl
theorem ayo:zc VU=[.v Value.nilFunc]:=ID rfl
theorem aVl{K:TI→Prop}:@tyW Tryz.prog 131 ⟨K⟩=K VT:=qi aXG
theorem aym:VT.kd=Kd.oth:=ID rfl
theorem amZ:VT.kd.agg=false:=ID rfl
theorem ahH:VT.size=1:=ID rfl
theorem act:VT.bytes=8:=ID rfl
theorem ayk:qx VT=True:=eq_true rfl
theorem ayl:zc VT=[.v Value.nilFunc]:=ID rfl
theorem aVk{K:TI→Prop}:@tyW Tryz.prog 132 ⟨K⟩=K VS:=qi aXF
theorem ayj:VS.kd=Kd.int IntKind.u64:=ID rfl
theorem amY:VS.kd.agg=false:=ID rfl
theorem ahG:VS.size=1:=ID rfl
theorem acs:VS.bytes=8:=ID rfl
theorem ayh:qx VS=True:=eq_true rfl
theorem ayi:zc VS=[.v (Value.int IntKind.u64 0)]:=ID rfl
theorem aVj{K:TI→Prop}:@tyW Tryz.prog 133 ⟨K⟩=K VR:=qi aXE
theorem ayg:VR.kd=Kd.oth:=ID rfl
theorem amX:VR.kd.agg=false:=ID rfl
theorem ahF:VR.size=1:=ID rfl
theorem acr:VR.bytes=8:=ID rfl
theorem aye:qx VR=True:=eq_true rfl
theorem ayf:zc VR=[.v Value.nilFunc]:=ID rfl
theorem aVi{K:TI→Prop}:@tyW Tryz.prog 135 ⟨K⟩=K VQ:=qi aXD
theorem ayd:VQ.kd=Kd.oth:=ID rfl
theorem amW:VQ.kd.agg=false:=ID rfl
theorem ahE:VQ.size=1:=ID rfl
theorem acq:VQ.bytes=8:=ID rfl
theorem ayb:qx VQ=True:=eq_true rfl
theorem ayc:zc VQ=[.v Value.nilFunc]:=ID rfl
theorem aVh{K:TI→Prop}:@tyW Tryz.prog 136 ⟨K⟩=K VP:=qi aXC
theorem aya:VP.kd=Kd.oth:=ID rfl
theorem amV:VP.kd.agg=false:=ID rfl
theorem ahD:VP.size=1:=ID rfl
theorem acp:VP.bytes=8:=ID rfl
theorem ax8:qx VP=True:=eq_true rfl
theorem ax9:zc VP=[.v Value.nilFunc]:=ID rfl
theorem aVg{K:TI→Prop}:@tyW Tryz.prog 137 ⟨K⟩=K VO:=qi aXB
theorem ax7:VO.kd=Kd.oth:=ID rfl
theorem amU:VO.kd.agg=false:=ID rfl
theorem ahC:VO.size=1:=ID rfl
theorem aco:VO.bytes=8:=ID rfl
theorem ax5:qx VO=True:=eq_true rfl
theorem ax6:zc VO=[.v Value.nilFunc]:=ID rfl
theorem aVf{K:TI→Prop}:@tyW Tryz.prog 138 ⟨K⟩=K VN:=qi aXA
theorem ax4:VN.kd=Kd.oth:=ID rfl
theorem amT:VN.kd.agg=false:=ID rfl
theorem ahB:VN.size=1:=ID rfl
theorem acn:VN.bytes=8:=ID rfl
theorem ax2:qx VN=True:=eq_true rfl
theorem ax3:zc VN=[.v Value.nilFunc]:=ID rfl
theorem aVe{K:TI→Prop}:@tyW Tryz.prog 139 ⟨K⟩=K VM:=qi aXz
theorem ax1:VM.kd=Kd.oth:=ID rfl
theorem amS:VM.kd.agg=false:=ID rfl
theorem ahA:VM.size=1:=ID rfl
theorem acm:VM.bytes=8:=ID rfl
theorem axZ:qx VM=True:=eq_true rfl
theorem ax0:zc VM=[.v Value.nilFunc]:=ID rfl
theorem aVd{K:TI→Prop}:@tyW Tryz.prog 140 ⟨K⟩=K VL:=qi aXy
theorem axY:VL.kd=Kd.oth:=ID rfl
theorem amR:VL.kd.agg=false:=ID rfl
theorem ahz:VL.size=1:=ID rfl
theorem acl:VL.bytes=8:=ID rfl
theorem axW:qx VL=True:=eq_true rfl
theorem axX:zc VL=[.v Value.nilFunc]:=ID rfl
theorem aVc{K:TI→Prop}:@tyW Tryz.prog 141 ⟨K⟩=K VK:=qi aXx
theorem axV:VK.kd=Kd.oth:=ID rfl
theorem amQ:VK.kd.agg=false:=ID rfl
theorem ahy:VK.size=1:=ID rfl
theorem ack:VK.bytes=8:=ID rfl
theorem axT:qx VK=True:=eq_true rfl
theorem axU:zc VK=[.v Value.nilFunc]:=ID rfl
theorem aVb{K:TI→Prop}:@tyW Tryz.prog 142 ⟨K⟩=K Q4:=qi anB
theorem axS:Q4.kd=Kd.stru [(0,22),(1,3),(2,3)]:=ID rfl
theorem amP:Q4.kd.agg=true:=ID rfl
theorem ahx:Q4.size=3:=ID rfl
theorem acj:Q4.bytes=40:=ID rfl
theorem axQ:qx Q4=True:=eq_true rfl
theorem axR:zc Q4=[.v (Value.slice none 0 0),.v (Value.int IntKind.i64 0),.v (Value.int IntKind.i64 0)]:=ID rfl
theorem aBD{K:Nat→TI→Prop}:@qA Tryz.prog 142 0 ⟨K⟩=K 0 ad5:=qu (ti:=Q4) (tf:=ad5) (fo:=(0,22)) (fs:=[(0,22),(1,3),(2,3)]) anB rfl rfl aDD
theorem aIN{K:Nat→Nat→Prop}:qv Tryz.prog [(0,22),(1,3),(2,3)] 0 K=K 0 1:=qt (tf:=ad5) (fo:=(0,22)) (fs:=[(0,22),(1,3),(2,3)]) rfl aDD
theorem aBC{K:Nat→TI→Prop}:@qA Tryz.prog 142 1 ⟨K⟩=K 1 ti3:=qu (ti:=Q4) (tf:=ti3) (fo:=(1,3)) (fs:=[(0,22),(1,3),(2,3)]) anB rfl rfl tf3
theorem aIM{K:Nat→Nat→Prop}:qv Tryz.prog [(0,22),(1,3),(2,3)] 1 K=K 1 1:=qt (tf:=ti3) (fo:=(1,3)) (fs:=[(0,22),(1,3),(2,3)]) rfl tf3
theorem aBB{K:Nat→TI→Prop}:@qA Tryz.prog 142 2 ⟨K⟩=K 2 ti3:=qu (ti:=Q4) (tf:=ti3) (fo:=(2,3)) (fs:=[(0,22),(1,3),(2,3)]) anB rfl rfl tf3
theorem aIL{K:Nat→Nat→Prop}:qv Tryz.prog [(0,22),(1,3),(2,3)] 2 K=K 2 1:=qt (tf:=ti3) (fo:=(2,3)) (fs:=[(0,22),(1,3),(2,3)]) rfl tf3
theorem aJ8:∀f∈([(0,22),(1,3),(2,3)]:List (Nat×Nat)),(qr Tryz.prog f.2).isSome=true:=by
 intro f hf
 simp only[List.mem_cons,List.not_mem_nil,or_false]at hf
 rcases hf with rfl|rfl|rfl
 ·rw[aDD];rfl
 ·rw[tf3];rfl
 ·rw[tf3];rfl
theorem aSF{ps:List (Nat×AV)}{K:AV→Prop}:@zq Tryz.prog 142 ps ⟨K⟩=@zr (qv Tryz.prog [(0,22),(1,3),(2,3)]) (zc Q4) ps ⟨fun cs=>K (.ag cs)⟩:=qX anB rfl aJ8
theorem aVa{K:TI→Prop}:@tyW Tryz.prog 143 ⟨K⟩=K Q3:=qi anA
theorem axP:Q3.kd=Kd.stru [(0,22),(1,3),(2,3)]:=ID rfl
theorem amO:Q3.kd.agg=true:=ID rfl
theorem ahw:Q3.size=3:=ID rfl
theorem aci:Q3.bytes=40:=ID rfl
theorem axN:qx Q3=True:=eq_true rfl
theorem axO:zc Q3=[.v (Value.slice none 0 0),.v (Value.int IntKind.i64 0),.v (Value.int IntKind.i64 0)]:=ID rfl
theorem aBA{K:Nat→TI→Prop}:@qA Tryz.prog 143 0 ⟨K⟩=K 0 ad5:=qu (ti:=Q3) (tf:=ad5) (fo:=(0,22)) (fs:=[(0,22),(1,3),(2,3)]) anA rfl rfl aDD
theorem aIK{K:Nat→Nat→Prop}:qv Tryz.prog [(0,22),(1,3),(2,3)] 0 K=K 0 1:=qt (tf:=ad5) (fo:=(0,22)) (fs:=[(0,22),(1,3),(2,3)]) rfl aDD
theorem aBz{K:Nat→TI→Prop}:@qA Tryz.prog 143 1 ⟨K⟩=K 1 ti3:=qu (ti:=Q3) (tf:=ti3) (fo:=(1,3)) (fs:=[(0,22),(1,3),(2,3)]) anA rfl rfl tf3
theorem aIJ{K:Nat→Nat→Prop}:qv Tryz.prog [(0,22),(1,3),(2,3)] 1 K=K 1 1:=qt (tf:=ti3) (fo:=(1,3)) (fs:=[(0,22),(1,3),(2,3)]) rfl tf3
theorem aBy{K:Nat→TI→Prop}:@qA Tryz.prog 143 2 ⟨K⟩=K 2 ti3:=qu (ti:=Q3) (tf:=ti3) (fo:=(2,3)) (fs:=[(0,22),(1,3),(2,3)]) anA rfl rfl tf3
theorem aII{K:Nat→Nat→Prop}:qv Tryz.prog [(0,22),(1,3),(2,3)] 2 K=K 2 1:=qt (tf:=ti3) (fo:=(2,3)) (fs:=[(0,22),(1,3),(2,3)]) rfl tf3
theorem aJ7:∀f∈([(0,22),(1,3),(2,3)]:List (Nat×Nat)),(qr Tryz.prog f.2).isSome=true:=by
 intro f hf
 simp only[List.mem_cons,List.not_mem_nil,or_false]at hf
 rcases hf with rfl|rfl|rfl
 ·rw[aDD];rfl
 ·rw[tf3];rfl
 ·rw[tf3];rfl
theorem aSE{ps:List (Nat×AV)}{K:AV→Prop}:@zq Tryz.prog 143 ps ⟨K⟩=@zr (qv Tryz.prog [(0,22),(1,3),(2,3)]) (zc Q3) ps ⟨fun cs=>K (.ag cs)⟩:=qX anA rfl aJ7
theorem aU9{K:TI→Prop}:@tyW Tryz.prog 144 ⟨K⟩=K VJ:=qi aXw
theorem axM:VJ.kd=Kd.oth:=ID rfl
theorem amN:VJ.kd.agg=false:=ID rfl
theorem ahv:VJ.size=1:=ID rfl
theorem ach:VJ.bytes=8:=ID rfl
theorem axK:qx VJ=True:=eq_true rfl
theorem axL:zc VJ=[.v Value.nilFunc]:=ID rfl
theorem aU8{K:TI→Prop}:@tyW Tryz.prog 145 ⟨K⟩=K VI:=qi aXv
theorem axJ:VI.kd=Kd.oth:=ID rfl
theorem amM:VI.kd.agg=false:=ID rfl
theorem ahu:VI.size=1:=ID rfl
theorem acg:VI.bytes=8:=ID rfl
theorem axH:qx VI=True:=eq_true rfl
theorem axI:zc VI=[.v Value.nilFunc]:=ID rfl
theorem aU7{K:TI→Prop}:@tyW Tryz.prog 146 ⟨K⟩=K VH:=qi aXu
theorem axG:VH.kd=Kd.oth:=ID rfl
theorem amL:VH.kd.agg=false:=ID rfl
theorem aht:VH.size=1:=ID rfl
theorem acf:VH.bytes=8:=ID rfl
theorem axE:qx VH=True:=eq_true rfl
theorem axF:zc VH=[.v Value.nilFunc]:=ID rfl
theorem aU6{K:TI→Prop}:@tyW Tryz.prog 147 ⟨K⟩=K VG:=qi aXt
theorem axD:VG.kd=Kd.oth:=ID rfl
theorem amK:VG.kd.agg=false:=ID rfl
theorem ahs:VG.size=1:=ID rfl
theorem ace:VG.bytes=8:=ID rfl
theorem axB:qx VG=True:=eq_true rfl
theorem axC:zc VG=[.v Value.nilFunc]:=ID rfl
theorem aU5{K:TI→Prop}:@tyW Tryz.prog 148 ⟨K⟩=K VF:=qi aXs
theorem axA:VF.kd=Kd.oth:=ID rfl
theorem amJ:VF.kd.agg=false:=ID rfl
theorem ahr:VF.size=1:=ID rfl
theorem acd:VF.bytes=8:=ID rfl
theorem axy:qx VF=True:=eq_true rfl
theorem axz:zc VF=[.v Value.nilFunc]:=ID rfl
theorem aU4{K:TI→Prop}:@tyW Tryz.prog 150 ⟨K⟩=K VE:=qi aXr
theorem axx:VE.kd=Kd.oth:=ID rfl
theorem amI:VE.kd.agg=false:=ID rfl
theorem ahq:VE.size=1:=ID rfl
theorem acb:VE.bytes=8:=ID rfl
theorem axv:qx VE=True:=eq_true rfl
theorem axw:zc VE=[.v Value.nilFunc]:=ID rfl
theorem aU3{K:TI→Prop}:@tyW Tryz.prog 152 ⟨K⟩=K VD:=qi aXq
theorem axu:VD.kd=Kd.oth:=ID rfl
theorem amH:VD.kd.agg=false:=ID rfl
theorem ahp:VD.size=1:=ID rfl
theorem aca:VD.bytes=8:=ID rfl
theorem axs:qx VD=True:=eq_true rfl
theorem axt:zc VD=[.v Value.nilFunc]:=ID rfl
theorem aU2{K:TI→Prop}:@tyW Tryz.prog 153 ⟨K⟩=K VC:=qi aXp
theorem axr:VC.kd=Kd.oth:=ID rfl
theorem amG:VC.kd.agg=false:=ID rfl
theorem aho:VC.size=1:=ID rfl
theorem ab9:VC.bytes=8:=ID rfl
theorem axp:qx VC=True:=eq_true rfl
theorem axq:zc VC=[.v Value.nilFunc]:=ID rfl
theorem aU1{K:TI→Prop}:@tyW Tryz.prog 154 ⟨K⟩=K VB:=qi aXo
theorem axo:VB.kd=Kd.oth:=ID rfl
theorem amF:VB.kd.agg=false:=ID rfl
theorem ahn:VB.size=1:=ID rfl
theorem ab8:VB.bytes=8:=ID rfl
theorem axm:qx VB=True:=eq_true rfl
theorem axn:zc VB=[.v Value.nilFunc]:=ID rfl
theorem aU0{K:TI→Prop}:@tyW Tryz.prog 155 ⟨K⟩=K y5:=qi Km
theorem axl:y5.kd=Kd.sli 111:=ID rfl
theorem amE:y5.kd.agg=false:=ID rfl
theorem ahm:y5.size=1:=ID rfl
theorem ab7:y5.bytes=24:=ID rfl
theorem axj:qx y5=True:=eq_true rfl
theorem axk:zc y5=[.v (Value.slice none 0 0)]:=ID rfl
theorem aNb{K:TI→Prop}:@yH Tryz.prog 155 ⟨K⟩=K Q5:=QQ Km rfl anC
theorem aUZ{K:TI→Prop}:@tyW Tryz.prog 156 ⟨K⟩=K Zs:=qi azY
theorem axi:Zs.kd=Kd.stru [(0,3),(1,155)]:=ID rfl
theorem amD:Zs.kd.agg=true:=ID rfl
theorem ahl:Zs.size=2:=ID rfl
theorem ab6:Zs.bytes=32:=ID rfl
theorem axg:qx Zs=True:=eq_true rfl
theorem axh:zc Zs=[.v (Value.int IntKind.i64 0),.v (Value.slice none 0 0)]:=ID rfl
theorem aBx{K:Nat→TI→Prop}:@qA Tryz.prog 156 0 ⟨K⟩=K 0 ti3:=qu (ti:=Zs) (tf:=ti3) (fo:=(0,3)) (fs:=[(0,3),(1,155)]) azY rfl rfl tf3
theorem aIH{K:Nat→Nat→Prop}:qv Tryz.prog [(0,3),(1,155)] 0 K=K 0 1:=qt (tf:=ti3) (fo:=(0,3)) (fs:=[(0,3),(1,155)]) rfl tf3
theorem aBw{K:Nat→TI→Prop}:@qA Tryz.prog 156 1 ⟨K⟩=K 1 y5:=qu (ti:=Zs) (tf:=y5) (fo:=(1,155)) (fs:=[(0,3),(1,155)]) azY rfl rfl Km
theorem aIG{K:Nat→Nat→Prop}:qv Tryz.prog [(0,3),(1,155)] 1 K=K 1 1:=qt (tf:=y5) (fo:=(1,155)) (fs:=[(0,3),(1,155)]) rfl Km
theorem aJ6:∀f∈([(0,3),(1,155)]:List (Nat×Nat)),(qr Tryz.prog f.2).isSome=true:=by
 intro f hf
 simp only[List.mem_cons,List.not_mem_nil,or_false]at hf
 rcases hf with rfl|rfl
 ·rw[tf3];rfl
 ·rw[Km];rfl
theorem aSD{ps:List (Nat×AV)}{K:AV→Prop}:@zq Tryz.prog 156 ps ⟨K⟩=@zr (qv Tryz.prog [(0,3),(1,155)]) (zc Zs) ps ⟨fun cs=>K (.ag cs)⟩:=qX azY rfl aJ6
theorem aUY{K:TI→Prop}:@tyW Tryz.prog 157 ⟨K⟩=K Zr:=qi azX
theorem axf:Zr.kd=Kd.stru [(0,3),(1,155)]:=ID rfl
theorem amC:Zr.kd.agg=true:=ID rfl
theorem ahk:Zr.size=2:=ID rfl
theorem ab5:Zr.bytes=32:=ID rfl
theorem axd:qx Zr=True:=eq_true rfl
theorem axe:zc Zr=[.v (Value.int IntKind.i64 0),.v (Value.slice none 0 0)]:=ID rfl
theorem aBv{K:Nat→TI→Prop}:@qA Tryz.prog 157 0 ⟨K⟩=K 0 ti3:=qu (ti:=Zr) (tf:=ti3) (fo:=(0,3)) (fs:=[(0,3),(1,155)]) azX rfl rfl tf3
theorem aIF{K:Nat→Nat→Prop}:qv Tryz.prog [(0,3),(1,155)] 0 K=K 0 1:=qt (tf:=ti3) (fo:=(0,3)) (fs:=[(0,3),(1,155)]) rfl tf3
theorem aBu{K:Nat→TI→Prop}:@qA Tryz.prog 157 1 ⟨K⟩=K 1 y5:=qu (ti:=Zr) (tf:=y5) (fo:=(1,155)) (fs:=[(0,3),(1,155)]) azX rfl rfl Km
theorem aIE{K:Nat→Nat→Prop}:qv Tryz.prog [(0,3),(1,155)] 1 K=K 1 1:=qt (tf:=y5) (fo:=(1,155)) (fs:=[(0,3),(1,155)]) rfl Km
theorem aJ5:∀f∈([(0,3),(1,155)]:List (Nat×Nat)),(qr Tryz.prog f.2).isSome=true:=by
 intro f hf
 simp only[List.mem_cons,List.not_mem_nil,or_false]at hf
 rcases hf with rfl|rfl
 ·rw[tf3];rfl
 ·rw[Km];rfl
theorem aSC{ps:List (Nat×AV)}{K:AV→Prop}:@zq Tryz.prog 157 ps ⟨K⟩=@zr (qv Tryz.prog [(0,3),(1,155)]) (zc Zr) ps ⟨fun cs=>K (.ag cs)⟩:=qX azX rfl aJ5
theorem aUX{K:TI→Prop}:@tyW Tryz.prog 158 ⟨K⟩=K VA:=qi aXn
theorem axc:VA.kd=Kd.oth:=ID rfl
theorem amB:VA.kd.agg=false:=ID rfl
theorem ahj:VA.size=1:=ID rfl
theorem ab4:VA.bytes=8:=ID rfl
theorem axa:qx VA=True:=eq_true rfl
theorem axb:zc VA=[.v Value.nilFunc]:=ID rfl
theorem aUW{K:TI→Prop}:@tyW Tryz.prog 159 ⟨K⟩=K y4:=qi Kl
theorem aw9:y4.kd=Kd.sli 50:=ID rfl
theorem amA:y4.kd.agg=false:=ID rfl
theorem ahi:y4.size=1:=ID rfl
theorem ab3:y4.bytes=24:=ID rfl
theorem aw7:qx y4=True:=eq_true rfl
theorem aw8:zc y4=[.v (Value.slice none 0 0)]:=ID rfl
theorem aNa{K:TI→Prop}:@yH Tryz.prog 159 ⟨K⟩=K ajs:=QQ Kl rfl aMR
theorem aUV{K:TI→Prop}:@tyW Tryz.prog 160 ⟨K⟩=K Zq:=qi azW
theorem aw6:Zq.kd=Kd.stru [(0,3),(1,159)]:=ID rfl
theorem amz:Zq.kd.agg=true:=ID rfl
theorem ahh:Zq.size=2:=ID rfl
theorem ab2:Zq.bytes=32:=ID rfl
theorem aw4:qx Zq=True:=eq_true rfl
theorem aw5:zc Zq=[.v (Value.int IntKind.i64 0),.v (Value.slice none 0 0)]:=ID rfl
theorem aBt{K:Nat→TI→Prop}:@qA Tryz.prog 160 0 ⟨K⟩=K 0 ti3:=qu (ti:=Zq) (tf:=ti3) (fo:=(0,3)) (fs:=[(0,3),(1,159)]) azW rfl rfl tf3
theorem aID{K:Nat→Nat→Prop}:qv Tryz.prog [(0,3),(1,159)] 0 K=K 0 1:=qt (tf:=ti3) (fo:=(0,3)) (fs:=[(0,3),(1,159)]) rfl tf3
theorem aBs{K:Nat→TI→Prop}:@qA Tryz.prog 160 1 ⟨K⟩=K 1 y4:=qu (ti:=Zq) (tf:=y4) (fo:=(1,159)) (fs:=[(0,3),(1,159)]) azW rfl rfl Kl
theorem aIC{K:Nat→Nat→Prop}:qv Tryz.prog [(0,3),(1,159)] 1 K=K 1 1:=qt (tf:=y4) (fo:=(1,159)) (fs:=[(0,3),(1,159)]) rfl Kl
theorem aJ4:∀f∈([(0,3),(1,159)]:List (Nat×Nat)),(qr Tryz.prog f.2).isSome=true:=by
 intro f hf
 simp only[List.mem_cons,List.not_mem_nil,or_false]at hf
 rcases hf with rfl|rfl
 ·rw[tf3];rfl
 ·rw[Kl];rfl
theorem aSB{ps:List (Nat×AV)}{K:AV→Prop}:@zq Tryz.prog 160 ps ⟨K⟩=@zr (qv Tryz.prog [(0,3),(1,159)]) (zc Zq) ps ⟨fun cs=>K (.ag cs)⟩:=qX azW rfl aJ4
theorem aUU{K:TI→Prop}:@tyW Tryz.prog 161 ⟨K⟩=K Zp:=qi azV
theorem aw3:Zp.kd=Kd.stru [(0,3),(1,159)]:=ID rfl
theorem amy:Zp.kd.agg=true:=ID rfl
theorem ahg:Zp.size=2:=ID rfl
theorem ab1:Zp.bytes=32:=ID rfl
theorem aw1:qx Zp=True:=eq_true rfl
theorem aw2:zc Zp=[.v (Value.int IntKind.i64 0),.v (Value.slice none 0 0)]:=ID rfl
theorem aBr{K:Nat→TI→Prop}:@qA Tryz.prog 161 0 ⟨K⟩=K 0 ti3:=qu (ti:=Zp) (tf:=ti3) (fo:=(0,3)) (fs:=[(0,3),(1,159)]) azV rfl rfl tf3
theorem aIB{K:Nat→Nat→Prop}:qv Tryz.prog [(0,3),(1,159)] 0 K=K 0 1:=qt (tf:=ti3) (fo:=(0,3)) (fs:=[(0,3),(1,159)]) rfl tf3
theorem aBq{K:Nat→TI→Prop}:@qA Tryz.prog 161 1 ⟨K⟩=K 1 y4:=qu (ti:=Zp) (tf:=y4) (fo:=(1,159)) (fs:=[(0,3),(1,159)]) azV rfl rfl Kl
theorem aIA{K:Nat→Nat→Prop}:qv Tryz.prog [(0,3),(1,159)] 1 K=K 1 1:=qt (tf:=y4) (fo:=(1,159)) (fs:=[(0,3),(1,159)]) rfl Kl
theorem aJ3:∀f∈([(0,3),(1,159)]:List (Nat×Nat)),(qr Tryz.prog f.2).isSome=true:=by
 intro f hf
 simp only[List.mem_cons,List.not_mem_nil,or_false]at hf
 rcases hf with rfl|rfl
 ·rw[tf3];rfl
 ·rw[Kl];rfl
theorem aSA{ps:List (Nat×AV)}{K:AV→Prop}:@zq Tryz.prog 161 ps ⟨K⟩=@zr (qv Tryz.prog [(0,3),(1,159)]) (zc Zp) ps ⟨fun cs=>K (.ag cs)⟩:=qX azV rfl aJ3
theorem aUT{K:TI→Prop}:@tyW Tryz.prog 163 ⟨K⟩=K Vz:=qi aXm
theorem aw0:Vz.kd=Kd.oth:=ID rfl
theorem amx:Vz.kd.agg=false:=ID rfl
theorem ahf:Vz.size=1:=ID rfl
theorem ab0:Vz.bytes=8:=ID rfl
theorem awY:qx Vz=True:=eq_true rfl
theorem awZ:zc Vz=[.v Value.nilFunc]:=ID rfl
theorem aUS{K:TI→Prop}:@tyW Tryz.prog 164 ⟨K⟩=K Vy:=qi aXl
theorem awX:Vy.kd=Kd.oth:=ID rfl
theorem amw:Vy.kd.agg=false:=ID rfl
theorem ahe:Vy.size=1:=ID rfl
theorem abZ:Vy.bytes=8:=ID rfl
theorem awU:qx Vy=True:=eq_true rfl
theorem awW:zc Vy=[.v Value.nilFunc]:=ID rfl
theorem aUR{K:TI→Prop}:@tyW Tryz.prog 165 ⟨K⟩=K Vx:=qi aXk
theorem awT:Vx.kd=Kd.oth:=ID rfl
theorem amv:Vx.kd.agg=false:=ID rfl
theorem ahd:Vx.size=1:=ID rfl
theorem abY:Vx.bytes=8:=ID rfl
theorem awR:qx Vx=True:=eq_true rfl
theorem awS:zc Vx=[.v Value.nilFunc]:=ID rfl
theorem aUQ{K:TI→Prop}:@tyW Tryz.prog 166 ⟨K⟩=K Vw:=qi aXj
theorem awQ:Vw.kd=Kd.oth:=ID rfl
theorem amu:Vw.kd.agg=false:=ID rfl
theorem ahc:Vw.size=1:=ID rfl
theorem abX:Vw.bytes=8:=ID rfl
theorem awO:qx Vw=True:=eq_true rfl
theorem awP:zc Vw=[.v Value.nilFunc]:=ID rfl
theorem aUP{K:TI→Prop}:@tyW Tryz.prog 167 ⟨K⟩=K Vv:=qi aXi
theorem awN:Vv.kd=Kd.oth:=ID rfl
theorem amt:Vv.kd.agg=false:=ID rfl
theorem ahb:Vv.size=1:=ID rfl
theorem abW:Vv.bytes=8:=ID rfl
theorem awL:qx Vv=True:=eq_true rfl
theorem awM:zc Vv=[.v Value.nilFunc]:=ID rfl
theorem aUO{K:TI→Prop}:@tyW Tryz.prog 169 ⟨K⟩=K Vu:=qi aXh
theorem awK:Vu.kd=Kd.oth:=ID rfl
theorem ams:Vu.kd.agg=false:=ID rfl
theorem aha:Vu.size=1:=ID rfl
theorem abV:Vu.bytes=8:=ID rfl
theorem awI:qx Vu=True:=eq_true rfl
theorem awJ:zc Vu=[.v Value.nilFunc]:=ID rfl
theorem aUN{K:TI→Prop}:@tyW Tryz.prog 170 ⟨K⟩=K Vt:=qi aXg
theorem awH:Vt.kd=Kd.oth:=ID rfl
theorem amr:Vt.kd.agg=false:=ID rfl
theorem ag9:Vt.size=1:=ID rfl
theorem abU:Vt.bytes=8:=ID rfl
theorem awF:qx Vt=True:=eq_true rfl
theorem awG:zc Vt=[.v Value.nilFunc]:=ID rfl
theorem aUM{K:TI→Prop}:@tyW Tryz.prog 171 ⟨K⟩=K Vs:=qi aXf
theorem awE:Vs.kd=Kd.oth:=ID rfl
theorem amq:Vs.kd.agg=false:=ID rfl
theorem ag8:Vs.size=1:=ID rfl
theorem abT:Vs.bytes=8:=ID rfl
theorem awC:qx Vs=True:=eq_true rfl
theorem awD:zc Vs=[.v Value.nilFunc]:=ID rfl
theorem aUL{K:TI→Prop}:@tyW Tryz.prog 172 ⟨K⟩=K Vr:=qi aXe
theorem awB:Vr.kd=Kd.oth:=ID rfl
theorem amp:Vr.kd.agg=false:=ID rfl
theorem ag7:Vr.size=1:=ID rfl
theorem abS:Vr.bytes=8:=ID rfl
theorem awz:qx Vr=True:=eq_true rfl
theorem awA:zc Vr=[.v Value.nilFunc]:=ID rfl
theorem aUK{K:TI→Prop}:@tyW Tryz.prog 173 ⟨K⟩=K Vq:=qi aXd
theorem awy:Vq.kd=Kd.oth:=ID rfl
theorem amo:Vq.kd.agg=false:=ID rfl
theorem ag6:Vq.size=1:=ID rfl
theorem abR:Vq.bytes=8:=ID rfl
theorem aww:qx Vq=True:=eq_true rfl
theorem awx:zc Vq=[.v Value.nilFunc]:=ID rfl
theorem aUJ{K:TI→Prop}:@tyW Tryz.prog 174 ⟨K⟩=K Vp:=qi aXc
theorem awv:Vp.kd=Kd.oth:=ID rfl
theorem amn:Vp.kd.agg=false:=ID rfl
theorem ag5:Vp.size=1:=ID rfl
theorem abQ:Vp.bytes=8:=ID rfl
theorem awt:qx Vp=True:=eq_true rfl
theorem awu:zc Vp=[.v Value.nilFunc]:=ID rfl
theorem aUI{K:TI→Prop}:@tyW Tryz.prog 176 ⟨K⟩=K Vo:=qi aXb
theorem aws:Vo.kd=Kd.oth:=ID rfl
theorem amm:Vo.kd.agg=false:=ID rfl
theorem ag4:Vo.size=1:=ID rfl
theorem abP:Vo.bytes=8:=ID rfl
theorem awq:qx Vo=True:=eq_true rfl
theorem awr:zc Vo=[.v Value.nilFunc]:=ID rfl
theorem aUH{K:TI→Prop}:@tyW Tryz.prog 177 ⟨K⟩=K Vn:=qi aXa
theorem awo:Vn.kd=Kd.oth:=ID rfl
theorem aml:Vn.kd.agg=false:=ID rfl
theorem ag3:Vn.size=1:=ID rfl
theorem abO:Vn.bytes=8:=ID rfl
theorem awm:qx Vn=True:=eq_true rfl
theorem awn:zc Vn=[.v Value.nilFunc]:=ID rfl
theorem aUG{K:TI→Prop}:@tyW Tryz.prog 178 ⟨K⟩=K Vm:=qi aW9
theorem awl:Vm.kd=Kd.oth:=ID rfl
theorem amk:Vm.kd.agg=false:=ID rfl
theorem ag2:Vm.size=1:=ID rfl
theorem abN:Vm.bytes=8:=ID rfl
theorem awj:qx Vm=True:=eq_true rfl
theorem awk:zc Vm=[.v Value.nilFunc]:=ID rfl
theorem aUF{K:TI→Prop}:@tyW Tryz.prog 179 ⟨K⟩=K Vl:=qi aW8
theorem awi:Vl.kd=Kd.oth:=ID rfl
theorem amj:Vl.kd.agg=false:=ID rfl
theorem ag1:Vl.size=1:=ID rfl
theorem abM:Vl.bytes=8:=ID rfl
theorem awg:qx Vl=True:=eq_true rfl
theorem awh:zc Vl=[.v Value.nilFunc]:=ID rfl
theorem aUE{K:TI→Prop}:@tyW Tryz.prog 180 ⟨K⟩=K Vk:=qi aW7
theorem awf:Vk.kd=Kd.oth:=ID rfl
theorem ami:Vk.kd.agg=false:=ID rfl
theorem ag0:Vk.size=1:=ID rfl
theorem abL:Vk.bytes=8:=ID rfl
theorem awd:qx Vk=True:=eq_true rfl
theorem awe:zc Vk=[.v Value.nilFunc]:=ID rfl
theorem aUD{K:TI→Prop}:@tyW Tryz.prog 181 ⟨K⟩=K Vj:=qi aW6
theorem awc:Vj.kd=Kd.oth:=ID rfl
theorem amh:Vj.kd.agg=false:=ID rfl
theorem agZ:Vj.size=1:=ID rfl
theorem abK:Vj.bytes=8:=ID rfl
theorem awa:qx Vj=True:=eq_true rfl
theorem awb:zc Vj=[.v Value.nilFunc]:=ID rfl
theorem aUC{K:TI→Prop}:@tyW Tryz.prog 183 ⟨K⟩=K Vi:=qi aW5
theorem av9:Vi.kd=Kd.oth:=ID rfl
theorem amg:Vi.kd.agg=false:=ID rfl
theorem agY:Vi.size=1:=ID rfl
theorem abJ:Vi.bytes=8:=ID rfl
theorem av7:qx Vi=True:=eq_true rfl
theorem av8:zc Vi=[.v Value.nilFunc]:=ID rfl
theorem aUB{K:TI→Prop}:@tyW Tryz.prog 184 ⟨K⟩=K Vh:=qi aW4
theorem av6:Vh.kd=Kd.oth:=ID rfl
theorem amf:Vh.kd.agg=false:=ID rfl
theorem agX:Vh.size=1:=ID rfl
theorem abI:Vh.bytes=8:=ID rfl
theorem av4:qx Vh=True:=eq_true rfl
theorem av5:zc Vh=[.v Value.nilFunc]:=ID rfl
theorem aUA{K:TI→Prop}:@tyW Tryz.prog 185 ⟨K⟩=K Vg:=qi aMT
theorem av3:Vg.kd=Kd.sli 63:=ID rfl
theorem ame:Vg.kd.agg=false:=ID rfl
theorem agW:Vg.size=1:=ID rfl
theorem abH:Vg.bytes=24:=ID rfl
theorem av1:qx Vg=True:=eq_true rfl
theorem av2:zc Vg=[.v (Value.slice none 0 0)]:=ID rfl
theorem aM9{K:TI→Prop}:@yH Tryz.prog 185 ⟨K⟩=K ad3:=QQ aMT rfl aHZ
theorem aUz{K:TI→Prop}:@tyW Tryz.prog 186 ⟨K⟩=K Vf:=qi aW3
theorem av0:Vf.kd=Kd.oth:=ID rfl
theorem amd:Vf.kd.agg=false:=ID rfl
theorem agV:Vf.size=1:=ID rfl
theorem abG:Vf.bytes=8:=ID rfl
theorem avY:qx Vf=True:=eq_true rfl
theorem avZ:zc Vf=[.v Value.nilFunc]:=ID rfl
theorem aUy{K:TI→Prop}:@tyW Tryz.prog 187 ⟨K⟩=K Ve:=qi aW2
theorem avX:Ve.kd=Kd.oth:=ID rfl
theorem amc:Ve.kd.agg=false:=ID rfl
theorem agU:Ve.size=1:=ID rfl
theorem abF:Ve.bytes=8:=ID rfl
theorem avV:qx Ve=True:=eq_true rfl
theorem avW:zc Ve=[.v Value.nilFunc]:=ID rfl
theorem aUx{K:TI→Prop}:@tyW Tryz.prog 188 ⟨K⟩=K Vd:=qi aW1
theorem avU:Vd.kd=Kd.oth:=ID rfl
theorem amb:Vd.kd.agg=false:=ID rfl
theorem agT:Vd.size=1:=ID rfl
theorem abE:Vd.bytes=8:=ID rfl
theorem avS:qx Vd=True:=eq_true rfl
theorem avT:zc Vd=[.v Value.nilFunc]:=ID rfl
theorem aUw{K:TI→Prop}:@tyW Tryz.prog 189 ⟨K⟩=K Vc:=qi aW0
theorem avR:Vc.kd=Kd.oth:=ID rfl
theorem ama:Vc.kd.agg=false:=ID rfl
theorem agS:Vc.size=1:=ID rfl
theorem abD:Vc.bytes=8:=ID rfl
theorem avP:qx Vc=True:=eq_true rfl
theorem avQ:zc Vc=[.v Value.nilFunc]:=ID rfl
theorem aUv{K:TI→Prop}:@tyW Tryz.prog 190 ⟨K⟩=K Vb:=qi aWZ
theorem avO:Vb.kd=Kd.oth:=ID rfl
theorem al9:Vb.kd.agg=false:=ID rfl
theorem agR:Vb.size=1:=ID rfl
theorem abC:Vb.bytes=8:=ID rfl
theorem avM:qx Vb=True:=eq_true rfl
theorem avN:zc Vb=[.v Value.nilFunc]:=ID rfl
theorem aUu{K:TI→Prop}:@tyW Tryz.prog 191 ⟨K⟩=K Va:=qi aWY
theorem avL:Va.kd=Kd.oth:=ID rfl
theorem al8:Va.kd.agg=false:=ID rfl
theorem agQ:Va.size=1:=ID rfl
theorem abB:Va.bytes=8:=ID rfl
theorem avJ:qx Va=True:=eq_true rfl
theorem avK:zc Va=[.v Value.nilFunc]:=ID rfl
theorem aUt{K:TI→Prop}:@tyW Tryz.prog 192 ⟨K⟩=K X9:=qi aWX
theorem avI:X9.kd=Kd.oth:=ID rfl
theorem al7:X9.kd.agg=false:=ID rfl
theorem agP:X9.size=1:=ID rfl
theorem abA:X9.bytes=8:=ID rfl
theorem avG:qx X9=True:=eq_true rfl
theorem avH:zc X9=[.v Value.nilFunc]:=ID rfl
theorem aUs{K:TI→Prop}:@tyW Tryz.prog 193 ⟨K⟩=K X8:=qi aWW
theorem avF:X8.kd=Kd.oth:=ID rfl
theorem al6:X8.kd.agg=false:=ID rfl
theorem agO:X8.size=1:=ID rfl
theorem abz:X8.bytes=8:=ID rfl
theorem avD:qx X8=True:=eq_true rfl
theorem avE:zc X8=[.v Value.nilFunc]:=ID rfl
theorem aUr{K:TI→Prop}:@tyW Tryz.prog 194 ⟨K⟩=K X7:=qi aWV
theorem avC:X7.kd=Kd.oth:=ID rfl
theorem al5:X7.kd.agg=false:=ID rfl
theorem agN:X7.size=1:=ID rfl
theorem aby:X7.bytes=8:=ID rfl
theorem avA:qx X7=True:=eq_true rfl
theorem avB:zc X7=[.v Value.nilFunc]:=ID rfl
theorem aUq{K:TI→Prop}:@tyW Tryz.prog 195 ⟨K⟩=K X6:=qi aWU
theorem avz:X6.kd=Kd.oth:=ID rfl
theorem al4:X6.kd.agg=false:=ID rfl
theorem agM:X6.size=1:=ID rfl
theorem abx:X6.bytes=8:=ID rfl
theorem avx:qx X6=True:=eq_true rfl
theorem avy:zc X6=[.v Value.nilFunc]:=ID rfl
theorem aUp{K:TI→Prop}:@tyW Tryz.prog 196 ⟨K⟩=K X5:=qi aWT
theorem avw:X5.kd=Kd.oth:=ID rfl
theorem al3:X5.kd.agg=false:=ID rfl
theorem agL:X5.size=1:=ID rfl
theorem abw:X5.bytes=8:=ID rfl
theorem avu:qx X5=True:=eq_true rfl
theorem avv:zc X5=[.v Value.nilFunc]:=ID rfl
theorem aUo{K:TI→Prop}:@tyW Tryz.prog 197 ⟨K⟩=K X4:=qi aWS
theorem avt:X4.kd=Kd.oth:=ID rfl
theorem al2:X4.kd.agg=false:=ID rfl
theorem agK:X4.size=1:=ID rfl
theorem abv:X4.bytes=8:=ID rfl
theorem avr:qx X4=True:=eq_true rfl
theorem avs:zc X4=[.v Value.nilFunc]:=ID rfl
theorem aUn{K:TI→Prop}:@tyW Tryz.prog 198 ⟨K⟩=K X3:=qi aWR
theorem avq:X3.kd=Kd.oth:=ID rfl
theorem al1:X3.kd.agg=false:=ID rfl
theorem agJ:X3.size=1:=ID rfl
theorem abu:X3.bytes=8:=ID rfl
theorem avo:qx X3=True:=eq_true rfl
theorem avp:zc X3=[.v Value.nilFunc]:=ID rfl
theorem aUm{K:TI→Prop}:@tyW Tryz.prog 199 ⟨K⟩=K X2:=qi aWQ
theorem avn:X2.kd=Kd.oth:=ID rfl
theorem al0:X2.kd.agg=false:=ID rfl
theorem agI:X2.size=1:=ID rfl
theorem abt:X2.bytes=8:=ID rfl
theorem avl:qx X2=True:=eq_true rfl
theorem avm:zc X2=[.v Value.nilFunc]:=ID rfl
theorem aUl{K:TI→Prop}:@tyW Tryz.prog 200 ⟨K⟩=K X1:=qi aWP
theorem avj:X1.kd=Kd.oth:=ID rfl
theorem alY:X1.kd.agg=false:=ID rfl
theorem agH:X1.size=1:=ID rfl
theorem abr:X1.bytes=8:=ID rfl
theorem avh:qx X1=True:=eq_true rfl
theorem avi:zc X1=[.v Value.nilFunc]:=ID rfl
theorem aUk{K:TI→Prop}:@tyW Tryz.prog 201 ⟨K⟩=K X0:=qi aWO
theorem avg:X0.kd=Kd.oth:=ID rfl
theorem alX:X0.kd.agg=false:=ID rfl
theorem agG:X0.size=1:=ID rfl
theorem abq:X0.bytes=8:=ID rfl
theorem ave:qx X0=True:=eq_true rfl
theorem avf:zc X0=[.v Value.nilFunc]:=ID rfl
theorem aUj{K:TI→Prop}:@tyW Tryz.prog 202 ⟨K⟩=K XZ:=qi aWN
theorem avd:XZ.kd=Kd.oth:=ID rfl
theorem alW:XZ.kd.agg=false:=ID rfl
theorem agF:XZ.size=1:=ID rfl
theorem abp:XZ.bytes=8:=ID rfl
theorem avb:qx XZ=True:=eq_true rfl
theorem avc:zc XZ=[.v Value.nilFunc]:=ID rfl
theorem aUi{K:TI→Prop}:@tyW Tryz.prog 203 ⟨K⟩=K XY:=qi aWM
theorem ava:XY.kd=Kd.oth:=ID rfl
theorem alV:XY.kd.agg=false:=ID rfl
theorem agE:XY.size=1:=ID rfl
theorem abo:XY.bytes=8:=ID rfl
theorem au8:qx XY=True:=eq_true rfl
theorem au9:zc XY=[.v Value.nilFunc]:=ID rfl
theorem aUh{K:TI→Prop}:@tyW Tryz.prog 204 ⟨K⟩=K XX:=qi aWL
theorem au7:XX.kd=Kd.oth:=ID rfl
theorem alU:XX.kd.agg=false:=ID rfl
theorem agD:XX.size=1:=ID rfl
theorem abn:XX.bytes=8:=ID rfl
theorem au5:qx XX=True:=eq_true rfl
theorem au6:zc XX=[.v Value.nilFunc]:=ID rfl
theorem aUg{K:TI→Prop}:@tyW Tryz.prog 205 ⟨K⟩=K XW:=qi aWK
theorem au4:XW.kd=Kd.oth:=ID rfl
theorem alT:XW.kd.agg=false:=ID rfl
theorem agC:XW.size=1:=ID rfl
theorem abm:XW.bytes=8:=ID rfl
theorem au2:qx XW=True:=eq_true rfl
theorem au3:zc XW=[.v Value.nilFunc]:=ID rfl
theorem aUf{K:TI→Prop}:@tyW Tryz.prog 206 ⟨K⟩=K XV:=qi aWJ
theorem au1:XV.kd=Kd.oth:=ID rfl
theorem alS:XV.kd.agg=false:=ID rfl
theorem agB:XV.size=1:=ID rfl
theorem abl:XV.bytes=8:=ID rfl
theorem auZ:qx XV=True:=eq_true rfl
theorem au0:zc XV=[.v Value.nilFunc]:=ID rfl
theorem aUe{K:TI→Prop}:@tyW Tryz.prog 208 ⟨K⟩=K XU:=qi aWI
theorem auY:XU.kd=Kd.oth:=ID rfl
theorem alR:XU.kd.agg=false:=ID rfl
theorem agA:XU.size=1:=ID rfl
theorem abk:XU.bytes=8:=ID rfl
theorem auW:qx XU=True:=eq_true rfl
theorem auX:zc XU=[.v Value.nilFunc]:=ID rfl
theorem aUd{K:TI→Prop}:@tyW Tryz.prog 209 ⟨K⟩=K XT:=qi aWH
theorem auV:XT.kd=Kd.oth:=ID rfl
theorem alQ:XT.kd.agg=false:=ID rfl
theorem agz:XT.size=1:=ID rfl
theorem abj:XT.bytes=8:=ID rfl
theorem auT:qx XT=True:=eq_true rfl
theorem auU:zc XT=[.v Value.nilFunc]:=ID rfl
theorem aUc{K:TI→Prop}:@tyW Tryz.prog 210 ⟨K⟩=K XS:=qi aWG
theorem auS:XS.kd=Kd.oth:=ID rfl
theorem alP:XS.kd.agg=false:=ID rfl
theorem agy:XS.size=1:=ID rfl
theorem abi:XS.bytes=8:=ID rfl
theorem auQ:qx XS=True:=eq_true rfl
theorem auR:zc XS=[.v Value.nilFunc]:=ID rfl
theorem aUb{K:TI→Prop}:@tyW Tryz.prog 211 ⟨K⟩=K XR:=qi aWF
theorem auP:XR.kd=Kd.oth:=ID rfl
theorem alO:XR.kd.agg=false:=ID rfl
theorem agx:XR.size=1:=ID rfl
theorem abh:XR.bytes=8:=ID rfl
theorem auN:qx XR=True:=eq_true rfl
theorem auO:zc XR=[.v Value.nilFunc]:=ID rfl
theorem aUa{K:TI→Prop}:@tyW Tryz.prog 212 ⟨K⟩=K XQ:=qi aWE
theorem auM:XQ.kd=Kd.oth:=ID rfl
theorem alN:XQ.kd.agg=false:=ID rfl
theorem agw:XQ.size=1:=ID rfl
theorem abg:XQ.bytes=8:=ID rfl
theorem auK:qx XQ=True:=eq_true rfl
theorem auL:zc XQ=[.v Value.nilFunc]:=ID rfl
theorem aT9{K:TI→Prop}:@tyW Tryz.prog 213 ⟨K⟩=K XP:=qi aWD
theorem auJ:XP.kd=Kd.oth:=ID rfl
theorem alM:XP.kd.agg=false:=ID rfl
theorem agv:XP.size=1:=ID rfl
theorem abf:XP.bytes=8:=ID rfl
theorem auH:qx XP=True:=eq_true rfl
theorem auI:zc XP=[.v Value.nilFunc]:=ID rfl
theorem aT8{K:TI→Prop}:@tyW Tryz.prog 214 ⟨K⟩=K XO:=qi aWC
theorem auG:XO.kd=Kd.oth:=ID rfl
theorem alL:XO.kd.agg=false:=ID rfl
theorem agu:XO.size=1:=ID rfl
theorem abe:XO.bytes=8:=ID rfl
theorem auE:qx XO=True:=eq_true rfl
theorem auF:zc XO=[.v Value.nilFunc]:=ID rfl
theorem aT7{K:TI→Prop}:@tyW Tryz.prog 215 ⟨K⟩=K XN:=qi aWB
theorem auD:XN.kd=Kd.oth:=ID rfl
theorem alK:XN.kd.agg=false:=ID rfl
theorem agt:XN.size=1:=ID rfl
theorem abd:XN.bytes=8:=ID rfl
theorem auB:qx XN=True:=eq_true rfl
theorem auC:zc XN=[.v Value.nilFunc]:=ID rfl
theorem aT6{K:TI→Prop}:@tyW Tryz.prog 216 ⟨K⟩=K XM:=qi aWA
theorem auA:XM.kd=Kd.oth:=ID rfl
theorem alJ:XM.kd.agg=false:=ID rfl
theorem ags:XM.size=1:=ID rfl
theorem abc:XM.bytes=8:=ID rfl
theorem auy:qx XM=True:=eq_true rfl
theorem auz:zc XM=[.v Value.nilFunc]:=ID rfl
theorem aT5{K:TI→Prop}:@tyW Tryz.prog 217 ⟨K⟩=K XL:=qi aWz
theorem aux:XL.kd=Kd.oth:=ID rfl
theorem alI:XL.kd.agg=false:=ID rfl
theorem agr:XL.size=1:=ID rfl
theorem abb:XL.bytes=8:=ID rfl
theorem auv:qx XL=True:=eq_true rfl
theorem auw:zc XL=[.v Value.nilFunc]:=ID rfl
theorem aT4{K:TI→Prop}:@tyW Tryz.prog 218 ⟨K⟩=K XK:=qi aWy
theorem auu:XK.kd=Kd.oth:=ID rfl
theorem alH:XK.kd.agg=false:=ID rfl
theorem agq:XK.size=1:=ID rfl
theorem aba:XK.bytes=8:=ID rfl
theorem aus:qx XK=True:=eq_true rfl
theorem aut:zc XK=[.v Value.nilFunc]:=ID rfl
theorem aT3{K:TI→Prop}:@tyW Tryz.prog 220 ⟨K⟩=K XJ:=qi aWx
theorem auq:XJ.kd=Kd.oth:=ID rfl
theorem alD:XJ.kd.agg=false:=ID rfl
theorem ago:XJ.size=1:=ID rfl
theorem aa9:XJ.bytes=8:=ID rfl
theorem auo:qx XJ=True:=eq_true rfl
theorem aup:zc XJ=[.v Value.nilFunc]:=ID rfl
theorem aT2{K:TI→Prop}:@tyW Tryz.prog 221 ⟨K⟩=K XI:=qi aWw
theorem aun:XI.kd=Kd.oth:=ID rfl
theorem alC:XI.kd.agg=false:=ID rfl
theorem agn:XI.size=1:=ID rfl
theorem aa8:XI.bytes=8:=ID rfl
theorem aul:qx XI=True:=eq_true rfl
theorem aum:zc XI=[.v Value.nilFunc]:=ID rfl
theorem aT1{K:TI→Prop}:@tyW Tryz.prog 222 ⟨K⟩=K XH:=qi aMS
theorem auk:XH.kd=Kd.sli 100:=ID rfl
theorem alB:XH.kd.agg=false:=ID rfl
theorem agm:XH.size=1:=ID rfl
theorem aa7:XH.bytes=24:=ID rfl
theorem aui:qx XH=True:=eq_true rfl
theorem auj:zc XH=[.v (Value.slice none 0 0)]:=ID rfl
theorem aM8{K:TI→Prop}:@yH Tryz.prog 222 ⟨K⟩=K yP:=QQ aMS rfl J4
theorem aT0{K:TI→Prop}:@tyW Tryz.prog 223 ⟨K⟩=K XG:=qi aWv
theorem auh:XG.kd=Kd.oth:=ID rfl
theorem alz:XG.kd.agg=false:=ID rfl
theorem agl:XG.size=1:=ID rfl
theorem aa6:XG.bytes=8:=ID rfl
theorem auf:qx XG=True:=eq_true rfl
theorem aug:zc XG=[.v Value.nilFunc]:=ID rfl
theorem aTZ{K:TI→Prop}:@tyW Tryz.prog 224 ⟨K⟩=K XF:=qi aWu
theorem aue:XF.kd=Kd.oth:=ID rfl
theorem aly:XF.kd.agg=false:=ID rfl
theorem agk:XF.size=1:=ID rfl
theorem aa5:XF.bytes=8:=ID rfl
theorem auc:qx XF=True:=eq_true rfl
theorem aud:zc XF=[.v Value.nilFunc]:=ID rfl
theorem aTY{K:TI→Prop}:@tyW Tryz.prog 225 ⟨K⟩=K XE:=qi aWt
theorem aub:XE.kd=Kd.oth:=ID rfl
theorem alx:XE.kd.agg=false:=ID rfl
theorem agj:XE.size=1:=ID rfl
theorem aa4:XE.bytes=8:=ID rfl
theorem at9:qx XE=True:=eq_true rfl
theorem aua:zc XE=[.v Value.nilFunc]:=ID rfl
theorem aTX{K:TI→Prop}:@tyW Tryz.prog 226 ⟨K⟩=K XD:=qi aWs
theorem at8:XD.kd=Kd.oth:=ID rfl
theorem alw:XD.kd.agg=false:=ID rfl
theorem agi:XD.size=1:=ID rfl
theorem aa3:XD.bytes=8:=ID rfl
theorem at6:qx XD=True:=eq_true rfl
theorem at7:zc XD=[.v Value.nilFunc]:=ID rfl
theorem aTW{K:TI→Prop}:@tyW Tryz.prog 227 ⟨K⟩=K XC:=qi aWr
theorem at5:XC.kd=Kd.oth:=ID rfl
theorem alv:XC.kd.agg=false:=ID rfl
theorem agh:XC.size=1:=ID rfl
theorem aa2:XC.bytes=8:=ID rfl
theorem at3:qx XC=True:=eq_true rfl
theorem at4:zc XC=[.v Value.nilFunc]:=ID rfl
theorem aTV{K:TI→Prop}:@tyW Tryz.prog 228 ⟨K⟩=K XB:=qi aWq
theorem at2:XB.kd=Kd.oth:=ID rfl
theorem alu:XB.kd.agg=false:=ID rfl
theorem agf:XB.size=1:=ID rfl
theorem aa1:XB.bytes=8:=ID rfl
theorem at0:qx XB=True:=eq_true rfl
theorem at1:zc XB=[.v Value.nilFunc]:=ID rfl
theorem aTU{K:TI→Prop}:@tyW Tryz.prog 229 ⟨K⟩=K XA:=qi aWp
theorem atZ:XA.kd=Kd.oth:=ID rfl
theorem alt:XA.kd.agg=false:=ID rfl
theorem age:XA.size=1:=ID rfl
theorem aaZ:XA.bytes=8:=ID rfl
theorem atX:qx XA=True:=eq_true rfl
theorem atY:zc XA=[.v Value.nilFunc]:=ID rfl
theorem aTT{K:TI→Prop}:@tyW Tryz.prog 230 ⟨K⟩=K Xz:=qi aWo
theorem atV:Xz.kd=Kd.oth:=ID rfl
theorem alr:Xz.kd.agg=false:=ID rfl
theorem agc:Xz.size=1:=ID rfl
theorem aaY:Xz.bytes=8:=ID rfl
theorem atT:qx Xz=True:=eq_true rfl
theorem atU:zc Xz=[.v Value.nilFunc]:=ID rfl
theorem aTS{K:TI→Prop}:@tyW Tryz.prog 232 ⟨K⟩=K Xy:=qi aWn
theorem atS:Xy.kd=Kd.oth:=ID rfl
theorem alq:Xy.kd.agg=false:=ID rfl
theorem agb:Xy.size=1:=ID rfl
theorem aaX:Xy.bytes=8:=ID rfl
theorem atQ:qx Xy=True:=eq_true rfl
theorem atR:zc Xy=[.v Value.nilFunc]:=ID rfl
theorem aTR{K:TI→Prop}:@tyW Tryz.prog 233 ⟨K⟩=K Xx:=qi aWm
theorem atP:Xx.kd=Kd.oth:=ID rfl
theorem alp:Xx.kd.agg=false:=ID rfl
theorem aga:Xx.size=1:=ID rfl
theorem aaW:Xx.bytes=8:=ID rfl
theorem atN:qx Xx=True:=eq_true rfl
theorem atO:zc Xx=[.v Value.nilFunc]:=ID rfl
theorem aTQ{K:TI→Prop}:@tyW Tryz.prog 234 ⟨K⟩=K Xw:=qi aWl
theorem atM:Xw.kd=Kd.oth:=ID rfl
theorem alo:Xw.kd.agg=false:=ID rfl
theorem af9:Xw.size=1:=ID rfl
theorem aaV:Xw.bytes=8:=ID rfl
theorem atK:qx Xw=True:=eq_true rfl
theorem atL:zc Xw=[.v Value.nilFunc]:=ID rfl
theorem aTP{K:TI→Prop}:@tyW Tryz.prog 235 ⟨K⟩=K Xv:=qi aWk
theorem atJ:Xv.kd=Kd.oth:=ID rfl
theorem aln:Xv.kd.agg=false:=ID rfl
theorem af8:Xv.size=1:=ID rfl
theorem aaU:Xv.bytes=8:=ID rfl
theorem atH:qx Xv=True:=eq_true rfl
theorem atI:zc Xv=[.v Value.nilFunc]:=ID rfl
theorem aTO{K:TI→Prop}:@tyW Tryz.prog 237 ⟨K⟩=K Xu:=qi aWj
theorem atG:Xu.kd=Kd.oth:=ID rfl
theorem alm:Xu.kd.agg=false:=ID rfl
theorem af7:Xu.size=1:=ID rfl
theorem aaT:Xu.bytes=8:=ID rfl
theorem atE:qx Xu=True:=eq_true rfl
theorem atF:zc Xu=[.v Value.nilFunc]:=ID rfl
theorem aTN{K:TI→Prop}:@tyW Tryz.prog 238 ⟨K⟩=K Xt:=qi aWi
theorem atD:Xt.kd=Kd.oth:=ID rfl
theorem alk:Xt.kd.agg=false:=ID rfl
theorem af6:Xt.size=1:=ID rfl
theorem aaS:Xt.bytes=8:=ID rfl
theorem atB:qx Xt=True:=eq_true rfl
theorem atC:zc Xt=[.v Value.nilFunc]:=ID rfl
theorem aTM{K:TI→Prop}:@tyW Tryz.prog 239 ⟨K⟩=K Xs:=qi aWh
theorem atA:Xs.kd=Kd.oth:=ID rfl
theorem alj:Xs.kd.agg=false:=ID rfl
theorem af5:Xs.size=1:=ID rfl
theorem aaR:Xs.bytes=8:=ID rfl
theorem aty:qx Xs=True:=eq_true rfl
theorem atz:zc Xs=[.v Value.nilFunc]:=ID rfl
theorem aTL{K:TI→Prop}:@tyW Tryz.prog 240 ⟨K⟩=K Xr:=qi aWf
theorem atw:Xr.kd=Kd.oth:=ID rfl
theorem alh:Xr.kd.agg=false:=ID rfl
theorem af3:Xr.size=1:=ID rfl
theorem aaQ:Xr.bytes=8:=ID rfl
theorem atu:qx Xr=True:=eq_true rfl
theorem atv:zc Xr=[.v Value.nilFunc]:=ID rfl
theorem aTK{K:TI→Prop}:@tyW Tryz.prog 241 ⟨K⟩=K Xq:=qi aWe
theorem att:Xq.kd=Kd.oth:=ID rfl
theorem alg:Xq.kd.agg=false:=ID rfl
theorem af2:Xq.size=1:=ID rfl
theorem aaP:Xq.bytes=8:=ID rfl
theorem atr:qx Xq=True:=eq_true rfl
theorem ats:zc Xq=[.v Value.nilFunc]:=ID rfl
theorem aTJ{K:TI→Prop}:@tyW Tryz.prog 242 ⟨K⟩=K Xp:=qi aWd
theorem atq:Xp.kd=Kd.int IntKind.u32:=ID rfl
theorem alf:Xp.kd.agg=false:=ID rfl
theorem af1:Xp.size=1:=ID rfl
theorem aaO:Xp.bytes=4:=ID rfl
theorem ato:qx Xp=True:=eq_true rfl
theorem atp:zc Xp=[.v (Value.int IntKind.u32 0)]:=ID rfl
theorem aTI{K:TI→Prop}:@tyW Tryz.prog 243 ⟨K⟩=K Xo:=qi aWc
theorem atn:Xo.kd=Kd.oth:=ID rfl
theorem ale:Xo.kd.agg=false:=ID rfl
theorem af0:Xo.size=1:=ID rfl
theorem aaN:Xo.bytes=8:=ID rfl
theorem atl:qx Xo=True:=eq_true rfl
theorem atm:zc Xo=[.v Value.nilFunc]:=ID rfl
theorem aTH{K:TI→Prop}:@tyW Tryz.prog 244 ⟨K⟩=K Xn:=qi aWb
theorem atk:Xn.kd=Kd.int IntKind.u64:=ID rfl
theorem ald:Xn.kd.agg=false:=ID rfl
theorem afZ:Xn.size=1:=ID rfl
theorem aaM:Xn.bytes=8:=ID rfl
theorem ati:qx Xn=True:=eq_true rfl
theorem atj:zc Xn=[.v (Value.int IntKind.u64 0)]:=ID rfl
theorem aTG{K:TI→Prop}:@tyW Tryz.prog 245 ⟨K⟩=K Xm:=qi aWa
theorem ath:Xm.kd=Kd.oth:=ID rfl
theorem alc:Xm.kd.agg=false:=ID rfl
theorem afY:Xm.size=1:=ID rfl
theorem aaL:Xm.bytes=8:=ID rfl
theorem atf:qx Xm=True:=eq_true rfl
theorem atg:zc Xm=[.v Value.nilFunc]:=ID rfl
theorem aTF{K:TI→Prop}:@tyW Tryz.prog 247 ⟨K⟩=K Xl:=qi aV9
theorem ate:Xl.kd=Kd.oth:=ID rfl
theorem alb:Xl.kd.agg=false:=ID rfl
theorem afX:Xl.size=1:=ID rfl
theorem aaK:Xl.bytes=8:=ID rfl
theorem atc:qx Xl=True:=eq_true rfl
theorem atd:zc Xl=[.v Value.nilFunc]:=ID rfl
theorem aTE{K:TI→Prop}:@tyW Tryz.prog 248 ⟨K⟩=K Xk:=qi aV8
theorem atb:Xk.kd=Kd.oth:=ID rfl
theorem ala:Xk.kd.agg=false:=ID rfl
theorem afW:Xk.size=1:=ID rfl
theorem aaJ:Xk.bytes=8:=ID rfl
theorem as9:qx Xk=True:=eq_true rfl
theorem ata:zc Xk=[.v Value.nilFunc]:=ID rfl
theorem aTD{K:TI→Prop}:@tyW Tryz.prog 249 ⟨K⟩=K Xj:=qi aV7
theorem as8:Xj.kd=Kd.oth:=ID rfl
theorem ak9:Xj.kd.agg=false:=ID rfl
theorem afV:Xj.size=1:=ID rfl
theorem aaI:Xj.bytes=8:=ID rfl
theorem as6:qx Xj=True:=eq_true rfl
theorem as7:zc Xj=[.v Value.nilFunc]:=ID rfl
theorem aTC{K:TI→Prop}:@tyW Tryz.prog 250 ⟨K⟩=K Xi:=qi aV6
theorem as4:Xi.kd=Kd.oth:=ID rfl
theorem ak7:Xi.kd.agg=false:=ID rfl
theorem afT:Xi.size=1:=ID rfl
theorem aaH:Xi.bytes=8:=ID rfl
theorem as2:qx Xi=True:=eq_true rfl
theorem as3:zc Xi=[.v Value.nilFunc]:=ID rfl
theorem aTB{K:TI→Prop}:@tyW Tryz.prog 251 ⟨K⟩=K Xh:=qi aV5
theorem as1:Xh.kd=Kd.oth:=ID rfl
theorem ak6:Xh.kd.agg=false:=ID rfl
theorem afS:Xh.size=1:=ID rfl
theorem aaG:Xh.bytes=8:=ID rfl
theorem asZ:qx Xh=True:=eq_true rfl
theorem as0:zc Xh=[.v Value.nilFunc]:=ID rfl
theorem aTA{K:TI→Prop}:@tyW Tryz.prog 252 ⟨K⟩=K Xg:=qi aV4
theorem asY:Xg.kd=Kd.oth:=ID rfl
theorem ak5:Xg.kd.agg=false:=ID rfl
theorem afR:Xg.size=1:=ID rfl
theorem aaF:Xg.bytes=8:=ID rfl
theorem asW:qx Xg=True:=eq_true rfl
theorem asX:zc Xg=[.v Value.nilFunc]:=ID rfl
theorem aTz{K:TI→Prop}:@tyW Tryz.prog 253 ⟨K⟩=K Xf:=qi aV3
theorem asV:Xf.kd=Kd.oth:=ID rfl
theorem ak4:Xf.kd.agg=false:=ID rfl
theorem afQ:Xf.size=1:=ID rfl
theorem aaE:Xf.bytes=8:=ID rfl
theorem asT:qx Xf=True:=eq_true rfl
theorem asU:zc Xf=[.v Value.nilFunc]:=ID rfl
theorem aTy{K:TI→Prop}:@tyW Tryz.prog 254 ⟨K⟩=K Xe:=qi aV2
theorem asS:Xe.kd=Kd.oth:=ID rfl
theorem ak3:Xe.kd.agg=false:=ID rfl
theorem afP:Xe.size=1:=ID rfl
theorem aaD:Xe.bytes=8:=ID rfl
theorem asQ:qx Xe=True:=eq_true rfl
theorem asR:zc Xe=[.v Value.nilFunc]:=ID rfl
theorem aTx{K:TI→Prop}:@tyW Tryz.prog 255 ⟨K⟩=K Xd:=qi aV1
theorem asP:Xd.kd=Kd.oth:=ID rfl
theorem ak2:Xd.kd.agg=false:=ID rfl
theorem afO:Xd.size=1:=ID rfl
theorem aaC:Xd.bytes=8:=ID rfl
theorem asN:qx Xd=True:=eq_true rfl
theorem asO:zc Xd=[.v Value.nilFunc]:=ID rfl
theorem aTw{K:TI→Prop}:@tyW Tryz.prog 258 ⟨K⟩=K Xc:=qi aV0
theorem asM:Xc.kd=Kd.oth:=ID rfl
theorem ak1:Xc.kd.agg=false:=ID rfl
theorem afN:Xc.size=1:=ID rfl
theorem aaB:Xc.bytes=8:=ID rfl
theorem asK:qx Xc=True:=eq_true rfl
theorem asL:zc Xc=[.v Value.nilFunc]:=ID rfl
theorem aTv{K:TI→Prop}:@tyW Tryz.prog 262 ⟨K⟩=K Xb:=qi aVZ
theorem asI:Xb.kd=Kd.stru [(0,261)]:=ID rfl
theorem akY:Xb.kd.agg=true:=ID rfl
theorem afL:Xb.size=0:=ID rfl
theorem aaA:Xb.bytes=0:=ID rfl
theorem asG:qx Xb=True:=eq_true rfl
theorem asH:zc Xb=[]:=ID rfl
theorem aTu{K:TI→Prop}:@tyW Tryz.prog 263 ⟨K⟩=K Xa:=qi aVY
theorem asF:Xa.kd=Kd.stru [(0,261)]:=ID rfl
theorem akX:Xa.kd.agg=true:=ID rfl
theorem afK:Xa.size=0:=ID rfl
theorem aaz:Xa.bytes=0:=ID rfl
theorem asD:qx Xa=True:=eq_true rfl
theorem asE:zc Xa=[]:=ID rfl
theorem aTt{K:TI→Prop}:@tyW Tryz.prog 264 ⟨K⟩=K Y9:=qi aVX
theorem asC:Y9.kd=Kd.int IntKind.u8:=ID rfl
theorem akW:Y9.kd.agg=false:=ID rfl
theorem afJ:Y9.size=1:=ID rfl
theorem aay:Y9.bytes=1:=ID rfl
theorem asA:qx Y9=True:=eq_true rfl
theorem asB:zc Y9=[.v (Value.int IntKind.u8 0)]:=ID rfl
theorem aTs{K:TI→Prop}:@tyW Tryz.prog 265 ⟨K⟩=K Y8:=qi aVW
theorem asz:Y8.kd=Kd.int IntKind.u8:=ID rfl
theorem akV:Y8.kd.agg=false:=ID rfl
theorem afI:Y8.size=1:=ID rfl
theorem aax:Y8.bytes=1:=ID rfl
theorem asx:qx Y8=True:=eq_true rfl
theorem asy:zc Y8=[.v (Value.int IntKind.u8 0)]:=ID rfl
theorem aTr{K:TI→Prop}:@tyW Tryz.prog 266 ⟨K⟩=K Y7:=qi aVV
theorem asw:Y7.kd=Kd.oth:=ID rfl
theorem akU:Y7.kd.agg=false:=ID rfl
theorem afH:Y7.size=1:=ID rfl
theorem aaw:Y7.bytes=8:=ID rfl
theorem asu:qx Y7=True:=eq_true rfl
theorem asv:zc Y7=[.v Value.nilFunc]:=ID rfl
theorem aTq{K:TI→Prop}:@tyW Tryz.prog 268 ⟨K⟩=K Y6:=qi aVU
theorem ast:Y6.kd=Kd.int IntKind.i32:=ID rfl
theorem akT:Y6.kd.agg=false:=ID rfl
theorem afG:Y6.size=1:=ID rfl
theorem aav:Y6.bytes=4:=ID rfl
theorem asr:qx Y6=True:=eq_true rfl
theorem ass:zc Y6=[.v (Value.int IntKind.i32 0)]:=ID rfl
theorem aTp{K:TI→Prop}:@tyW Tryz.prog 269 ⟨K⟩=K Y5:=qi aVT
theorem asq:Y5.kd=Kd.int IntKind.i32:=ID rfl
theorem akS:Y5.kd.agg=false:=ID rfl
theorem afF:Y5.size=1:=ID rfl
theorem aau:Y5.bytes=4:=ID rfl
theorem aso:qx Y5=True:=eq_true rfl
theorem asp:zc Y5=[.v (Value.int IntKind.i32 0)]:=ID rfl
theorem aTo{K:TI→Prop}:@tyW Tryz.prog 272 ⟨K⟩=K Y3:=qi aVS
theorem asm:Y3.kd=Kd.oth:=ID rfl
theorem akQ:Y3.kd.agg=false:=ID rfl
theorem afD:Y3.size=1:=ID rfl
theorem aat:Y3.bytes=8:=ID rfl
theorem ask:qx Y3=True:=eq_true rfl
theorem asl:zc Y3=[.v Value.nilFunc]:=ID rfl
theorem aTn{K:TI→Prop}:@tyW Tryz.prog 273 ⟨K⟩=K Y2:=qi aVR
theorem asj:Y2.kd=Kd.oth:=ID rfl
theorem akP:Y2.kd.agg=false:=ID rfl
theorem afC:Y2.size=1:=ID rfl
theorem aas:Y2.bytes=8:=ID rfl
theorem ash:qx Y2=True:=eq_true rfl
theorem asi:zc Y2=[.v Value.nilFunc]:=ID rfl
theorem aTm{K:TI→Prop}:@tyW Tryz.prog 274 ⟨K⟩=K Y1:=qi aVQ
theorem asg:Y1.kd=Kd.oth:=ID rfl
theorem akO:Y1.kd.agg=false:=ID rfl
theorem afB:Y1.size=1:=ID rfl
theorem aar:Y1.bytes=8:=ID rfl
theorem ase:qx Y1=True:=eq_true rfl
theorem asf:zc Y1=[.v Value.nilFunc]:=ID rfl
theorem bdc:qs Tryz.prog 2=True:=eq_true ⟨_,Tryz.func2,of_decide_eq_false (by kernel_rfl),rfl⟩
theorem bdb:qs Tryz.prog 3=True:=eq_true ⟨_,Tryz.func3,of_decide_eq_false (by kernel_rfl),rfl⟩
theorem bda:qs Tryz.prog 4=True:=eq_true ⟨_,Tryz.func4,of_decide_eq_false (by kernel_rfl),rfl⟩
theorem bc9:qs Tryz.prog 5=True:=eq_true ⟨_,Tryz.func5,of_decide_eq_false (by kernel_rfl),rfl⟩
theorem bc8:qs Tryz.prog 6=True:=eq_true ⟨_,Tryz.func6,of_decide_eq_false (by kernel_rfl),rfl⟩
theorem bc7:qs Tryz.prog 7=True:=eq_true ⟨_,Tryz.func7,of_decide_eq_false (by kernel_rfl),rfl⟩
theorem bc6:qs Tryz.prog 8=True:=eq_true ⟨_,Tryz.func8,of_decide_eq_false (by kernel_rfl),rfl⟩
theorem bc5:qs Tryz.prog 9=True:=eq_true ⟨_,Tryz.func9,of_decide_eq_false (by kernel_rfl),rfl⟩
theorem bag:qs Tryz.prog 10=True:=eq_true ⟨_,Tryz.func10,of_decide_eq_false (by kernel_rfl),rfl⟩
theorem baf:qs Tryz.prog 11=True:=eq_true ⟨_,Tryz.func11,of_decide_eq_false (by kernel_rfl),rfl⟩
theorem bae:qs Tryz.prog 12=True:=eq_true ⟨_,Tryz.func12,of_decide_eq_false (by kernel_rfl),rfl⟩
theorem bac:qs Tryz.prog 13=True:=eq_true ⟨_,Tryz.func13,of_decide_eq_false (by kernel_rfl),rfl⟩
theorem bab:qs Tryz.prog 14=True:=eq_true ⟨_,Tryz.func14,of_decide_eq_false (by kernel_rfl),rfl⟩
theorem baa:qs Tryz.prog 15=True:=eq_true ⟨_,Tryz.func15,of_decide_eq_false (by kernel_rfl),rfl⟩
theorem aZ9:qs Tryz.prog 16=True:=eq_true ⟨_,Tryz.func16,of_decide_eq_false (by kernel_rfl),rfl⟩
theorem aZ8:qs Tryz.prog 17=True:=eq_true ⟨_,Tryz.func17,of_decide_eq_false (by kernel_rfl),rfl⟩
theorem aZ7:qs Tryz.prog 18=True:=eq_true ⟨_,Tryz.func18,of_decide_eq_false (by kernel_rfl),rfl⟩
theorem aZ6:qs Tryz.prog 19=True:=eq_true ⟨_,Tryz.func19,of_decide_eq_false (by kernel_rfl),rfl⟩
theorem aZ5:qs Tryz.prog 20=True:=eq_true ⟨_,Tryz.func20,of_decide_eq_false (by kernel_rfl),rfl⟩
theorem aZ4:qs Tryz.prog 21=True:=eq_true ⟨_,Tryz.func21,of_decide_eq_false (by kernel_rfl),rfl⟩
theorem aZ3:qs Tryz.prog 22=True:=eq_true ⟨_,Tryz.func22,of_decide_eq_false (by kernel_rfl),rfl⟩
theorem aZ2:qs Tryz.prog 23=True:=eq_true ⟨_,Tryz.func23,of_decide_eq_false (by kernel_rfl),rfl⟩
theorem aZ1:qs Tryz.prog 24=True:=eq_true ⟨_,Tryz.func24,of_decide_eq_false (by kernel_rfl),rfl⟩
theorem aZ0:qs Tryz.prog 25=True:=eq_true ⟨_,Tryz.func25,of_decide_eq_false (by kernel_rfl),rfl⟩
theorem aZZ:qs Tryz.prog 26=True:=eq_true ⟨_,Tryz.func26,of_decide_eq_false (by kernel_rfl),rfl⟩
theorem aZY:qs Tryz.prog 27=True:=eq_true ⟨_,Tryz.func27,of_decide_eq_false (by kernel_rfl),rfl⟩
theorem aZX:qs Tryz.prog 28=True:=eq_true ⟨_,Tryz.func28,of_decide_eq_false (by kernel_rfl),rfl⟩
theorem aZW:qs Tryz.prog 29=True:=eq_true ⟨_,Tryz.func29,of_decide_eq_false (by kernel_rfl),rfl⟩
theorem aZV:qs Tryz.prog 30=True:=eq_true ⟨_,Tryz.func30,of_decide_eq_false (by kernel_rfl),rfl⟩
theorem aZU:qs Tryz.prog 31=True:=eq_true ⟨_,Tryz.func31,of_decide_eq_false (by kernel_rfl),rfl⟩
theorem aZT:qs Tryz.prog 32=True:=eq_true ⟨_,Tryz.func32,of_decide_eq_false (by kernel_rfl),rfl⟩
theorem aZS:qs Tryz.prog 33=True:=eq_true ⟨_,Tryz.func33,of_decide_eq_false (by kernel_rfl),rfl⟩
theorem aZR:qs Tryz.prog 34=True:=eq_true ⟨_,Tryz.func34,of_decide_eq_false (by kernel_rfl),rfl⟩
theorem aZQ:qs Tryz.prog 35=True:=eq_true ⟨_,Tryz.func35,of_decide_eq_false (by kernel_rfl),rfl⟩
theorem aZP:qs Tryz.prog 36=True:=eq_true ⟨_,Tryz.func36,of_decide_eq_false (by kernel_rfl),rfl⟩
theorem aZO:qs Tryz.prog 37=True:=eq_true ⟨_,Tryz.func37,of_decide_eq_false (by kernel_rfl),rfl⟩
theorem aZN:qs Tryz.prog 38=True:=eq_true ⟨_,Tryz.func38,of_decide_eq_false (by kernel_rfl),rfl⟩
theorem aZM:qs Tryz.prog 39=True:=eq_true ⟨_,Tryz.func39,of_decide_eq_false (by kernel_rfl),rfl⟩
theorem aZL:qs Tryz.prog 40=True:=eq_true ⟨_,Tryz.func40,of_decide_eq_false (by kernel_rfl),rfl⟩
theorem aZK:qs Tryz.prog 41=True:=eq_true ⟨_,Tryz.func41,of_decide_eq_false (by kernel_rfl),rfl⟩
theorem aZJ:qs Tryz.prog 42=True:=eq_true ⟨_,Tryz.func42,of_decide_eq_false (by kernel_rfl),rfl⟩
theorem aZI:qs Tryz.prog 43=True:=eq_true ⟨_,Tryz.func43,of_decide_eq_false (by kernel_rfl),rfl⟩
theorem aZH:qs Tryz.prog 44=True:=eq_true ⟨_,Tryz.func44,of_decide_eq_false (by kernel_rfl),rfl⟩
theorem aZG:qs Tryz.prog 45=True:=eq_true ⟨_,Tryz.func45,of_decide_eq_false (by kernel_rfl),rfl⟩
theorem aZF:qs Tryz.prog 46=True:=eq_true ⟨_,Tryz.func46,of_decide_eq_false (by kernel_rfl),rfl⟩
theorem aZE:qs Tryz.prog 47=True:=eq_true ⟨_,Tryz.func47,of_decide_eq_false (by kernel_rfl),rfl⟩
theorem aZD:qs Tryz.prog 48=True:=eq_true ⟨_,Tryz.func48,of_decide_eq_false (by kernel_rfl),rfl⟩
theorem aZC:qs Tryz.prog 49=True:=eq_true ⟨_,Tryz.func49,of_decide_eq_false (by kernel_rfl),rfl⟩
theorem aZB:qs Tryz.prog 50=True:=eq_true ⟨_,Tryz.func50,of_decide_eq_false (by kernel_rfl),rfl⟩
theorem aZA:qs Tryz.prog 51=True:=eq_true ⟨_,Tryz.func51,of_decide_eq_false (by kernel_rfl),rfl⟩
theorem aZz:qs Tryz.prog 52=True:=eq_true ⟨_,Tryz.func52,of_decide_eq_false (by kernel_rfl),rfl⟩
theorem aZy:qs Tryz.prog 53=True:=eq_true ⟨_,Tryz.func53,of_decide_eq_false (by kernel_rfl),rfl⟩
theorem aZx:qs Tryz.prog 54=True:=eq_true ⟨_,Tryz.func54,of_decide_eq_false (by kernel_rfl),rfl⟩
theorem aZw:qs Tryz.prog 55=True:=eq_true ⟨_,Tryz.func55,of_decide_eq_false (by kernel_rfl),rfl⟩
theorem aZv:qs Tryz.prog 56=True:=eq_true ⟨_,Tryz.func56,of_decide_eq_false (by kernel_rfl),rfl⟩
theorem aZu:qs Tryz.prog 57=True:=eq_true ⟨_,Tryz.func57,of_decide_eq_false (by kernel_rfl),rfl⟩
theorem aZt:qs Tryz.prog 58=True:=eq_true ⟨_,Tryz.func58,of_decide_eq_false (by kernel_rfl),rfl⟩
theorem aZs:qs Tryz.prog 59=True:=eq_true ⟨_,Tryz.func59,of_decide_eq_false (by kernel_rfl),rfl⟩
theorem aZr:qs Tryz.prog 60=True:=eq_true ⟨_,Tryz.func60,of_decide_eq_false (by kernel_rfl),rfl⟩
theorem aZq:qs Tryz.prog 61=True:=eq_true ⟨_,Tryz.func61,of_decide_eq_false (by kernel_rfl),rfl⟩
theorem aZp:qs Tryz.prog 62=True:=eq_true ⟨_,Tryz.func62,of_decide_eq_false (by kernel_rfl),rfl⟩
theorem aZo:qs Tryz.prog 63=True:=eq_true ⟨_,Tryz.func63,of_decide_eq_false (by kernel_rfl),rfl⟩
theorem aZn:qs Tryz.prog 64=True:=eq_true ⟨_,Tryz.func64,of_decide_eq_false (by kernel_rfl),rfl⟩
theorem aZm:qs Tryz.prog 65=True:=eq_true ⟨_,Tryz.func65,of_decide_eq_false (by kernel_rfl),rfl⟩
theorem aZl:qs Tryz.prog 66=True:=eq_true ⟨_,Tryz.func66,of_decide_eq_false (by kernel_rfl),rfl⟩
theorem aZk:qs Tryz.prog 67=True:=eq_true ⟨_,Tryz.func67,of_decide_eq_false (by kernel_rfl),rfl⟩
theorem aZj:qs Tryz.prog 68=True:=eq_true ⟨_,Tryz.func68,of_decide_eq_false (by kernel_rfl),rfl⟩
theorem aZi:qs Tryz.prog 69=True:=eq_true ⟨_,Tryz.func69,of_decide_eq_false (by kernel_rfl),rfl⟩
theorem aZh:qs Tryz.prog 70=True:=eq_true ⟨_,Tryz.func70,of_decide_eq_false (by kernel_rfl),rfl⟩
theorem aZg:qs Tryz.prog 71=True:=eq_true ⟨_,Tryz.func71,of_decide_eq_false (by kernel_rfl),rfl⟩
theorem aZf:qs Tryz.prog 72=True:=eq_true ⟨_,Tryz.func72,of_decide_eq_false (by kernel_rfl),rfl⟩
theorem aZe:qs Tryz.prog 73=True:=eq_true ⟨_,Tryz.func73,of_decide_eq_false (by kernel_rfl),rfl⟩
theorem aZd:qs Tryz.prog 74=True:=eq_true ⟨_,Tryz.func74,of_decide_eq_false (by kernel_rfl),rfl⟩
theorem aZc:qs Tryz.prog 75=True:=eq_true ⟨_,Tryz.func75,of_decide_eq_false (by kernel_rfl),rfl⟩
theorem aZb:qs Tryz.prog 76=True:=eq_true ⟨_,Tryz.func76,of_decide_eq_false (by kernel_rfl),rfl⟩
theorem aZa:qs Tryz.prog 77=True:=eq_true ⟨_,Tryz.func77,of_decide_eq_false (by kernel_rfl),rfl⟩
theorem aY9:qs Tryz.prog 78=True:=eq_true ⟨_,Tryz.func78,of_decide_eq_false (by kernel_rfl),rfl⟩
theorem aY8:qs Tryz.prog 79=True:=eq_true ⟨_,Tryz.func79,of_decide_eq_false (by kernel_rfl),rfl⟩
theorem aY7:qs Tryz.prog 80=True:=eq_true ⟨_,Tryz.func80,of_decide_eq_false (by kernel_rfl),rfl⟩
theorem aY6:qs Tryz.prog 81=True:=eq_true ⟨_,Tryz.func81,of_decide_eq_false (by kernel_rfl),rfl⟩
theorem aY5:qs Tryz.prog 82=True:=eq_true ⟨_,Tryz.func82,of_decide_eq_false (by kernel_rfl),rfl⟩
theorem aY4:qs Tryz.prog 83=True:=eq_true ⟨_,Tryz.func83,of_decide_eq_false (by kernel_rfl),rfl⟩
theorem aY3:qs Tryz.prog 84=True:=eq_true ⟨_,Tryz.func84,of_decide_eq_false (by kernel_rfl),rfl⟩
theorem aY2:qs Tryz.prog 85=True:=eq_true ⟨_,Tryz.func85,of_decide_eq_false (by kernel_rfl),rfl⟩
theorem aY1:qs Tryz.prog 86=True:=eq_true ⟨_,Tryz.func86,of_decide_eq_false (by kernel_rfl),rfl⟩
theorem aY0:qs Tryz.prog 87=True:=eq_true ⟨_,Tryz.func87,of_decide_eq_false (by kernel_rfl),rfl⟩
theorem aYZ:qs Tryz.prog 88=True:=eq_true ⟨_,Tryz.func88,of_decide_eq_false (by kernel_rfl),rfl⟩
theorem aYY:qs Tryz.prog 89=True:=eq_true ⟨_,Tryz.func89,of_decide_eq_false (by kernel_rfl),rfl⟩
theorem aYX:qs Tryz.prog 90=True:=eq_true ⟨_,Tryz.func90,of_decide_eq_false (by kernel_rfl),rfl⟩
theorem aYW:qs Tryz.prog 91=True:=eq_true ⟨_,Tryz.func91,of_decide_eq_false (by kernel_rfl),rfl⟩
theorem aYV:qs Tryz.prog 92=True:=eq_true ⟨_,Tryz.func92,of_decide_eq_false (by kernel_rfl),rfl⟩
theorem aYU:qs Tryz.prog 93=True:=eq_true ⟨_,Tryz.func93,of_decide_eq_false (by kernel_rfl),rfl⟩
theorem aYT:qs Tryz.prog 94=True:=eq_true ⟨_,Tryz.func94,of_decide_eq_false (by kernel_rfl),rfl⟩
theorem aYS:qs Tryz.prog 95=True:=eq_true ⟨_,Tryz.func95,of_decide_eq_false (by kernel_rfl),rfl⟩
theorem aYR:qs Tryz.prog 96=True:=eq_true ⟨_,Tryz.func96,of_decide_eq_false (by kernel_rfl),rfl⟩
theorem aYQ:qs Tryz.prog 97=True:=eq_true ⟨_,Tryz.func97,of_decide_eq_false (by kernel_rfl),rfl⟩
theorem aYP:qs Tryz.prog 98=True:=eq_true ⟨_,Tryz.func98,of_decide_eq_false (by kernel_rfl),rfl⟩
theorem aYO:qs Tryz.prog 99=True:=eq_true ⟨_,Tryz.func99,of_decide_eq_false (by kernel_rfl),rfl⟩
theorem aRV:qs Tryz.prog 100=True:=eq_true ⟨_,Tryz.func100,of_decide_eq_false (by kernel_rfl),rfl⟩
theorem aRU:qs Tryz.prog 101=True:=eq_true ⟨_,Tryz.func101,of_decide_eq_false (by kernel_rfl),rfl⟩
theorem aRT:qs Tryz.prog 102=True:=eq_true ⟨_,Tryz.func102,of_decide_eq_false (by kernel_rfl),rfl⟩
theorem aRS:qs Tryz.prog 103=True:=eq_true ⟨_,Tryz.func103,of_decide_eq_false (by kernel_rfl),rfl⟩
theorem aRR:qs Tryz.prog 104=True:=eq_true ⟨_,Tryz.func104,of_decide_eq_false (by kernel_rfl),rfl⟩
theorem aRQ:qs Tryz.prog 105=True:=eq_true ⟨_,Tryz.func105,of_decide_eq_false (by kernel_rfl),rfl⟩
theorem aRP:qs Tryz.prog 106=True:=eq_true ⟨_,Tryz.func106,of_decide_eq_false (by kernel_rfl),rfl⟩
theorem aRO:qs Tryz.prog 107=True:=eq_true ⟨_,Tryz.func107,of_decide_eq_false (by kernel_rfl),rfl⟩
theorem aRN:qs Tryz.prog 108=True:=eq_true ⟨_,Tryz.func108,of_decide_eq_false (by kernel_rfl),rfl⟩
theorem aRM:qs Tryz.prog 109=True:=eq_true ⟨_,Tryz.func109,of_decide_eq_false (by kernel_rfl),rfl⟩
theorem aRL:qs Tryz.prog 110=True:=eq_true ⟨_,Tryz.func110,of_decide_eq_false (by kernel_rfl),rfl⟩
theorem aRK:qs Tryz.prog 111=True:=eq_true ⟨_,Tryz.func111,of_decide_eq_false (by kernel_rfl),rfl⟩
theorem aRJ:qs Tryz.prog 112=True:=eq_true ⟨_,Tryz.func112,of_decide_eq_false (by kernel_rfl),rfl⟩
theorem aRI:qs Tryz.prog 113=True:=eq_true ⟨_,Tryz.func113,of_decide_eq_false (by kernel_rfl),rfl⟩
theorem aRH:qs Tryz.prog 114=True:=eq_true ⟨_,Tryz.func114,of_decide_eq_false (by kernel_rfl),rfl⟩
theorem aRG:qs Tryz.prog 115=True:=eq_true ⟨_,Tryz.func115,of_decide_eq_false (by kernel_rfl),rfl⟩
theorem aRF:qs Tryz.prog 116=True:=eq_true ⟨_,Tryz.func116,of_decide_eq_false (by kernel_rfl),rfl⟩
theorem aRE:qs Tryz.prog 117=True:=eq_true ⟨_,Tryz.func117,of_decide_eq_false (by kernel_rfl),rfl⟩
theorem aRD:qs Tryz.prog 118=True:=eq_true ⟨_,Tryz.func118,of_decide_eq_false (by kernel_rfl),rfl⟩
theorem aRC:qs Tryz.prog 119=True:=eq_true ⟨_,Tryz.func119,of_decide_eq_false (by kernel_rfl),rfl⟩
theorem aRB:qs Tryz.prog 120=True:=eq_true ⟨_,Tryz.func120,of_decide_eq_false (by kernel_rfl),rfl⟩
theorem aRA:qs Tryz.prog 121=True:=eq_true ⟨_,Tryz.func121,of_decide_eq_false (by kernel_rfl),rfl⟩
theorem aRz:qs Tryz.prog 122=True:=eq_true ⟨_,Tryz.func122,of_decide_eq_false (by kernel_rfl),rfl⟩
theorem aRy:qs Tryz.prog 123=True:=eq_true ⟨_,Tryz.func123,of_decide_eq_false (by kernel_rfl),rfl⟩
theorem aRx:qs Tryz.prog 124=True:=eq_true ⟨_,Tryz.func124,of_decide_eq_false (by kernel_rfl),rfl⟩
theorem aRw:qs Tryz.prog 125=True:=eq_true ⟨_,Tryz.func125,of_decide_eq_false (by kernel_rfl),rfl⟩
theorem aRv:qs Tryz.prog 126=True:=eq_true ⟨_,Tryz.func126,of_decide_eq_false (by kernel_rfl),rfl⟩
theorem aRu:qs Tryz.prog 127=True:=eq_true ⟨_,Tryz.func127,of_decide_eq_false (by kernel_rfl),rfl⟩
theorem aRt:qs Tryz.prog 128=True:=eq_true ⟨_,Tryz.func128,of_decide_eq_false (by kernel_rfl),rfl⟩
theorem aRs:qs Tryz.prog 129=True:=eq_true ⟨_,Tryz.func129,of_decide_eq_false (by kernel_rfl),rfl⟩
theorem aRr:qs Tryz.prog 130=True:=eq_true ⟨_,Tryz.func130,of_decide_eq_false (by kernel_rfl),rfl⟩
theorem aRq:qs Tryz.prog 131=True:=eq_true ⟨_,Tryz.func131,of_decide_eq_false (by kernel_rfl),rfl⟩
theorem aRp:qs Tryz.prog 132=True:=eq_true ⟨_,Tryz.func132,of_decide_eq_false (by kernel_rfl),rfl⟩
theorem aRo:qs Tryz.prog 133=True:=eq_true ⟨_,Tryz.func133,of_decide_eq_false (by kernel_rfl),rfl⟩
theorem aRn:qs Tryz.prog 134=True:=eq_true ⟨_,Tryz.func134,of_decide_eq_false (by kernel_rfl),rfl⟩
theorem aRm:qs Tryz.prog 135=True:=eq_true ⟨_,Tryz.func135,of_decide_eq_false (by kernel_rfl),rfl⟩
theorem aRl:qs Tryz.prog 136=True:=eq_true ⟨_,Tryz.func136,of_decide_eq_false (by kernel_rfl),rfl⟩
theorem aRk:qs Tryz.prog 137=True:=eq_true ⟨_,Tryz.func137,of_decide_eq_false (by kernel_rfl),rfl⟩
theorem aRj:qs Tryz.prog 138=True:=eq_true ⟨_,Tryz.func138,of_decide_eq_false (by kernel_rfl),rfl⟩
theorem aRi:qs Tryz.prog 139=True:=eq_true ⟨_,Tryz.func139,of_decide_eq_false (by kernel_rfl),rfl⟩
theorem aRh:qs Tryz.prog 140=True:=eq_true ⟨_,Tryz.func140,of_decide_eq_false (by kernel_rfl),rfl⟩
theorem aRg:qs Tryz.prog 141=True:=eq_true ⟨_,Tryz.func141,of_decide_eq_false (by kernel_rfl),rfl⟩
theorem aRf:qs Tryz.prog 142=True:=eq_true ⟨_,Tryz.func142,of_decide_eq_false (by kernel_rfl),rfl⟩
theorem aRe:qs Tryz.prog 143=True:=eq_true ⟨_,Tryz.func143,of_decide_eq_false (by kernel_rfl),rfl⟩
theorem aRd:qs Tryz.prog 144=True:=eq_true ⟨_,Tryz.func144,of_decide_eq_false (by kernel_rfl),rfl⟩
theorem aRc:qs Tryz.prog 145=True:=eq_true ⟨_,Tryz.func145,of_decide_eq_false (by kernel_rfl),rfl⟩
theorem aRb:qs Tryz.prog 146=True:=eq_true ⟨_,Tryz.func146,of_decide_eq_false (by kernel_rfl),rfl⟩
theorem aRa:qs Tryz.prog 147=True:=eq_true ⟨_,Tryz.func147,of_decide_eq_false (by kernel_rfl),rfl⟩
theorem aQ9:qs Tryz.prog 148=True:=eq_true ⟨_,Tryz.func148,of_decide_eq_false (by kernel_rfl),rfl⟩
theorem aQ8:qs Tryz.prog 149=True:=eq_true ⟨_,Tryz.func149,of_decide_eq_false (by kernel_rfl),rfl⟩
theorem aQ7:qs Tryz.prog 150=True:=eq_true ⟨_,Tryz.func150,of_decide_eq_false (by kernel_rfl),rfl⟩
theorem aQ6:qs Tryz.prog 151=True:=eq_true ⟨_,Tryz.func151,of_decide_eq_false (by kernel_rfl),rfl⟩
theorem aQ5:qs Tryz.prog 152=True:=eq_true ⟨_,Tryz.func152,of_decide_eq_false (by kernel_rfl),rfl⟩
theorem aQ4:qs Tryz.prog 153=True:=eq_true ⟨_,Tryz.func153,of_decide_eq_false (by kernel_rfl),rfl⟩
theorem aQ3:qs Tryz.prog 154=True:=eq_true ⟨_,Tryz.func154,of_decide_eq_false (by kernel_rfl),rfl⟩
theorem aQ2:qs Tryz.prog 155=True:=eq_true ⟨_,Tryz.func155,of_decide_eq_false (by kernel_rfl),rfl⟩
theorem aQ1:qs Tryz.prog 156=True:=eq_true ⟨_,Tryz.func156,of_decide_eq_false (by kernel_rfl),rfl⟩
theorem aQ0:qs Tryz.prog 157=True:=eq_true ⟨_,Tryz.func157,of_decide_eq_false (by kernel_rfl),rfl⟩
theorem aQZ:qs Tryz.prog 158=True:=eq_true ⟨_,Tryz.func158,of_decide_eq_false (by kernel_rfl),rfl⟩
theorem aQY:qs Tryz.prog 159=True:=eq_true ⟨_,Tryz.func159,of_decide_eq_false (by kernel_rfl),rfl⟩
theorem aQX:qs Tryz.prog 160=True:=eq_true ⟨_,Tryz.func160,of_decide_eq_false (by kernel_rfl),rfl⟩
theorem aQW:qs Tryz.prog 161=True:=eq_true ⟨_,Tryz.func161,of_decide_eq_false (by kernel_rfl),rfl⟩
theorem aQV:qs Tryz.prog 162=True:=eq_true ⟨_,Tryz.func162,of_decide_eq_false (by kernel_rfl),rfl⟩
theorem aQU:qs Tryz.prog 163=True:=eq_true ⟨_,Tryz.func163,of_decide_eq_false (by kernel_rfl),rfl⟩
theorem aQT:qs Tryz.prog 164=True:=eq_true ⟨_,Tryz.func164,of_decide_eq_false (by kernel_rfl),rfl⟩
theorem aQS:qs Tryz.prog 165=True:=eq_true ⟨_,Tryz.func165,of_decide_eq_false (by kernel_rfl),rfl⟩
theorem aQR:qs Tryz.prog 166=True:=eq_true ⟨_,Tryz.func166,of_decide_eq_false (by kernel_rfl),rfl⟩
theorem aQQ:qs Tryz.prog 167=True:=eq_true ⟨_,Tryz.func167,of_decide_eq_false (by kernel_rfl),rfl⟩
theorem aQP:qs Tryz.prog 168=True:=eq_true ⟨_,Tryz.func168,of_decide_eq_false (by kernel_rfl),rfl⟩
theorem aQO:qs Tryz.prog 169=True:=eq_true ⟨_,Tryz.func169,of_decide_eq_false (by kernel_rfl),rfl⟩
theorem aQN:qs Tryz.prog 170=True:=eq_true ⟨_,Tryz.func170,of_decide_eq_false (by kernel_rfl),rfl⟩
theorem aQM:qs Tryz.prog 171=True:=eq_true ⟨_,Tryz.func171,of_decide_eq_false (by kernel_rfl),rfl⟩
theorem aQL:qs Tryz.prog 172=True:=eq_true ⟨_,Tryz.func172,of_decide_eq_false (by kernel_rfl),rfl⟩
theorem aQK:qs Tryz.prog 173=True:=eq_true ⟨_,Tryz.func173,of_decide_eq_false (by kernel_rfl),rfl⟩
theorem aQJ:qs Tryz.prog 174=True:=eq_true ⟨_,Tryz.func174,of_decide_eq_false (by kernel_rfl),rfl⟩
theorem aQI:qs Tryz.prog 175=True:=eq_true ⟨_,Tryz.func175,of_decide_eq_false (by kernel_rfl),rfl⟩
theorem aQH:qs Tryz.prog 176=True:=eq_true ⟨_,Tryz.func176,of_decide_eq_false (by kernel_rfl),rfl⟩
theorem aQG:qs Tryz.prog 177=True:=eq_true ⟨_,Tryz.func177,of_decide_eq_false (by kernel_rfl),rfl⟩
theorem aQF:qs Tryz.prog 178=True:=eq_true ⟨_,Tryz.func178,of_decide_eq_false (by kernel_rfl),rfl⟩
theorem aQE:qs Tryz.prog 179=True:=eq_true ⟨_,Tryz.func179,of_decide_eq_false (by kernel_rfl),rfl⟩
theorem aQD:qs Tryz.prog 180=True:=eq_true ⟨_,Tryz.func180,of_decide_eq_false (by kernel_rfl),rfl⟩
theorem aQC:qs Tryz.prog 181=True:=eq_true ⟨_,Tryz.func181,of_decide_eq_false (by kernel_rfl),rfl⟩
theorem aQB:qs Tryz.prog 182=True:=eq_true ⟨_,Tryz.func182,of_decide_eq_false (by kernel_rfl),rfl⟩
theorem aQA:qs Tryz.prog 183=True:=eq_true ⟨_,Tryz.func183,of_decide_eq_false (by kernel_rfl),rfl⟩
theorem aQz:qs Tryz.prog 184=True:=eq_true ⟨_,Tryz.func184,of_decide_eq_false (by kernel_rfl),rfl⟩
theorem aQy:qs Tryz.prog 185=True:=eq_true ⟨_,Tryz.func185,of_decide_eq_false (by kernel_rfl),rfl⟩
theorem aQx:qs Tryz.prog 186=True:=eq_true ⟨_,Tryz.func186,of_decide_eq_false (by kernel_rfl),rfl⟩
theorem aQw:qs Tryz.prog 187=True:=eq_true ⟨_,Tryz.func187,of_decide_eq_false (by kernel_rfl),rfl⟩
theorem aQv:qs Tryz.prog 188=True:=eq_true ⟨_,Tryz.func188,of_decide_eq_false (by kernel_rfl),rfl⟩
theorem aQu:qs Tryz.prog 189=True:=eq_true ⟨_,Tryz.func189,of_decide_eq_false (by kernel_rfl),rfl⟩
theorem aQt:qs Tryz.prog 190=True:=eq_true ⟨_,Tryz.func190,of_decide_eq_false (by kernel_rfl),rfl⟩
theorem aQs:qs Tryz.prog 191=True:=eq_true ⟨_,Tryz.func191,of_decide_eq_false (by kernel_rfl),rfl⟩
theorem aQr:qs Tryz.prog 192=True:=eq_true ⟨_,Tryz.func192,of_decide_eq_false (by kernel_rfl),rfl⟩
theorem aQq:qs Tryz.prog 193=True:=eq_true ⟨_,Tryz.func193,of_decide_eq_false (by kernel_rfl),rfl⟩
theorem aQp:qs Tryz.prog 194=True:=eq_true ⟨_,Tryz.func194,of_decide_eq_false (by kernel_rfl),rfl⟩
theorem aQo:qs Tryz.prog 195=True:=eq_true ⟨_,Tryz.func195,of_decide_eq_false (by kernel_rfl),rfl⟩
theorem aQn:qs Tryz.prog 196=True:=eq_true ⟨_,Tryz.func196,of_decide_eq_false (by kernel_rfl),rfl⟩
theorem aQm:qs Tryz.prog 197=True:=eq_true ⟨_,Tryz.func197,of_decide_eq_false (by kernel_rfl),rfl⟩
theorem aQl:qs Tryz.prog 198=True:=eq_true ⟨_,Tryz.func198,of_decide_eq_false (by kernel_rfl),rfl⟩
theorem aQk:qs Tryz.prog 199=True:=eq_true ⟨_,Tryz.func199,of_decide_eq_false (by kernel_rfl),rfl⟩
theorem aQj:qs Tryz.prog 200=True:=eq_true ⟨_,Tryz.func200,of_decide_eq_false (by kernel_rfl),rfl⟩
theorem aQi:qs Tryz.prog 201=True:=eq_true ⟨_,Tryz.func201,of_decide_eq_false (by kernel_rfl),rfl⟩
theorem aQh:qs Tryz.prog 202=True:=eq_true ⟨_,Tryz.func202,of_decide_eq_false (by kernel_rfl),rfl⟩
theorem aQg:qs Tryz.prog 203=True:=eq_true ⟨_,Tryz.func203,of_decide_eq_false (by kernel_rfl),rfl⟩
theorem aQf:qs Tryz.prog 204=True:=eq_true ⟨_,Tryz.func204,of_decide_eq_false (by kernel_rfl),rfl⟩
theorem aQe:qs Tryz.prog 205=True:=eq_true ⟨_,Tryz.func205,of_decide_eq_false (by kernel_rfl),rfl⟩
theorem aQd:qs Tryz.prog 206=True:=eq_true ⟨_,Tryz.func206,of_decide_eq_false (by kernel_rfl),rfl⟩
theorem aQc:qs Tryz.prog 207=True:=eq_true ⟨_,Tryz.func207,of_decide_eq_false (by kernel_rfl),rfl⟩
theorem aQb:qs Tryz.prog 208=True:=eq_true ⟨_,Tryz.func208,of_decide_eq_false (by kernel_rfl),rfl⟩
theorem aQa:qs Tryz.prog 209=True:=eq_true ⟨_,Tryz.func209,of_decide_eq_false (by kernel_rfl),rfl⟩
theorem aP9:qs Tryz.prog 210=True:=eq_true ⟨_,Tryz.func210,of_decide_eq_false (by kernel_rfl),rfl⟩
theorem aP8:qs Tryz.prog 211=True:=eq_true ⟨_,Tryz.func211,of_decide_eq_false (by kernel_rfl),rfl⟩
theorem aP7:qs Tryz.prog 212=True:=eq_true ⟨_,Tryz.func212,of_decide_eq_false (by kernel_rfl),rfl⟩
theorem aP6:qs Tryz.prog 213=True:=eq_true ⟨_,Tryz.func213,of_decide_eq_false (by kernel_rfl),rfl⟩
theorem aP5:qs Tryz.prog 214=True:=eq_true ⟨_,Tryz.func214,of_decide_eq_false (by kernel_rfl),rfl⟩
theorem aP4:qs Tryz.prog 215=True:=eq_true ⟨_,Tryz.func215,of_decide_eq_false (by kernel_rfl),rfl⟩
theorem aP3:qs Tryz.prog 216=True:=eq_true ⟨_,Tryz.func216,of_decide_eq_false (by kernel_rfl),rfl⟩
theorem aP2:qs Tryz.prog 217=True:=eq_true ⟨_,Tryz.func217,of_decide_eq_false (by kernel_rfl),rfl⟩
theorem aP1:qs Tryz.prog 218=True:=eq_true ⟨_,Tryz.func218,of_decide_eq_false (by kernel_rfl),rfl⟩
theorem aP0:qs Tryz.prog 219=True:=eq_true ⟨_,Tryz.func219,of_decide_eq_false (by kernel_rfl),rfl⟩
theorem aPZ:qs Tryz.prog 220=True:=eq_true ⟨_,Tryz.func220,of_decide_eq_false (by kernel_rfl),rfl⟩
theorem aPY:qs Tryz.prog 221=True:=eq_true ⟨_,Tryz.func221,of_decide_eq_false (by kernel_rfl),rfl⟩
theorem aPX:qs Tryz.prog 222=True:=eq_true ⟨_,Tryz.func222,of_decide_eq_false (by kernel_rfl),rfl⟩
theorem aPW:qs Tryz.prog 223=True:=eq_true ⟨_,Tryz.func223,of_decide_eq_false (by kernel_rfl),rfl⟩
theorem aPV:qs Tryz.prog 224=True:=eq_true ⟨_,Tryz.func224,of_decide_eq_false (by kernel_rfl),rfl⟩
theorem aPU:qs Tryz.prog 225=True:=eq_true ⟨_,Tryz.func225,of_decide_eq_false (by kernel_rfl),rfl⟩
theorem aPT:qs Tryz.prog 226=True:=eq_true ⟨_,Tryz.func226,of_decide_eq_false (by kernel_rfl),rfl⟩
theorem aPS:qs Tryz.prog 227=True:=eq_true ⟨_,Tryz.func227,of_decide_eq_false (by kernel_rfl),rfl⟩
theorem aPR:qs Tryz.prog 228=True:=eq_true ⟨_,Tryz.func228,of_decide_eq_false (by kernel_rfl),rfl⟩
theorem aPQ:qs Tryz.prog 229=True:=eq_true ⟨_,Tryz.func229,of_decide_eq_false (by kernel_rfl),rfl⟩
theorem aPP:qs Tryz.prog 230=True:=eq_true ⟨_,Tryz.func230,of_decide_eq_false (by kernel_rfl),rfl⟩
theorem aPO:qs Tryz.prog 231=True:=eq_true ⟨_,Tryz.func231,of_decide_eq_false (by kernel_rfl),rfl⟩
theorem aPN:qs Tryz.prog 232=True:=eq_true ⟨_,Tryz.func232,of_decide_eq_false (by kernel_rfl),rfl⟩
theorem aPM:qs Tryz.prog 233=True:=eq_true ⟨_,Tryz.func233,of_decide_eq_false (by kernel_rfl),rfl⟩
theorem aPL:qs Tryz.prog 234=True:=eq_true ⟨_,Tryz.func234,of_decide_eq_false (by kernel_rfl),rfl⟩
theorem aPK:qs Tryz.prog 235=True:=eq_true ⟨_,Tryz.func235,of_decide_eq_false (by kernel_rfl),rfl⟩
theorem aPJ:qs Tryz.prog 236=True:=eq_true ⟨_,Tryz.func236,of_decide_eq_false (by kernel_rfl),rfl⟩
theorem aPI:qs Tryz.prog 237=True:=eq_true ⟨_,Tryz.func237,of_decide_eq_false (by kernel_rfl),rfl⟩
theorem aPH:qs Tryz.prog 238=True:=eq_true ⟨_,Tryz.func238,of_decide_eq_false (by kernel_rfl),rfl⟩
theorem aPG:qs Tryz.prog 239=True:=eq_true ⟨_,Tryz.func239,of_decide_eq_false (by kernel_rfl),rfl⟩
theorem aPF:qs Tryz.prog 240=True:=eq_true ⟨_,Tryz.func240,of_decide_eq_false (by kernel_rfl),rfl⟩
theorem aPE:qs Tryz.prog 241=True:=eq_true ⟨_,Tryz.func241,of_decide_eq_false (by kernel_rfl),rfl⟩
theorem aPD:qs Tryz.prog 242=True:=eq_true ⟨_,Tryz.func242,of_decide_eq_false (by kernel_rfl),rfl⟩
theorem aPC:qs Tryz.prog 243=True:=eq_true ⟨_,Tryz.func243,of_decide_eq_false (by kernel_rfl),rfl⟩
theorem aPB:qs Tryz.prog 244=True:=eq_true ⟨_,Tryz.func244,of_decide_eq_false (by kernel_rfl),rfl⟩
theorem aPA:qs Tryz.prog 245=True:=eq_true ⟨_,Tryz.func245,of_decide_eq_false (by kernel_rfl),rfl⟩
theorem aPz:qs Tryz.prog 246=True:=eq_true ⟨_,Tryz.func246,of_decide_eq_false (by kernel_rfl),rfl⟩
theorem aPy:qs Tryz.prog 247=True:=eq_true ⟨_,Tryz.func247,of_decide_eq_false (by kernel_rfl),rfl⟩
theorem aPx:qs Tryz.prog 248=True:=eq_true ⟨_,Tryz.func248,of_decide_eq_false (by kernel_rfl),rfl⟩
theorem aPw:qs Tryz.prog 249=True:=eq_true ⟨_,Tryz.func249,of_decide_eq_false (by kernel_rfl),rfl⟩
theorem aPv:qs Tryz.prog 250=True:=eq_true ⟨_,Tryz.func250,of_decide_eq_false (by kernel_rfl),rfl⟩
theorem aPu:qs Tryz.prog 251=True:=eq_true ⟨_,Tryz.func251,of_decide_eq_false (by kernel_rfl),rfl⟩
theorem aPt:qs Tryz.prog 252=True:=eq_true ⟨_,Tryz.func252,of_decide_eq_false (by kernel_rfl),rfl⟩
theorem aPs:qs Tryz.prog 253=True:=eq_true ⟨_,Tryz.func253,of_decide_eq_false (by kernel_rfl),rfl⟩
theorem aPr:qs Tryz.prog 254=True:=eq_true ⟨_,Tryz.func254,of_decide_eq_false (by kernel_rfl),rfl⟩
theorem aPq:qs Tryz.prog 255=True:=eq_true ⟨_,Tryz.func255,of_decide_eq_false (by kernel_rfl),rfl⟩
theorem aPp:qs Tryz.prog 256=True:=eq_true ⟨_,Tryz.func256,of_decide_eq_false (by kernel_rfl),rfl⟩
theorem aPo:qs Tryz.prog 257=True:=eq_true ⟨_,Tryz.func257,of_decide_eq_false (by kernel_rfl),rfl⟩
theorem aPn:qs Tryz.prog 258=True:=eq_true ⟨_,Tryz.func258,of_decide_eq_false (by kernel_rfl),rfl⟩
theorem aPm:qs Tryz.prog 259=True:=eq_true ⟨_,Tryz.func259,of_decide_eq_false (by kernel_rfl),rfl⟩
theorem aPl:qs Tryz.prog 260=True:=eq_true ⟨_,Tryz.func260,of_decide_eq_false (by kernel_rfl),rfl⟩
theorem aPk:qs Tryz.prog 261=True:=eq_true ⟨_,Tryz.func261,of_decide_eq_false (by kernel_rfl),rfl⟩
theorem aPj:qs Tryz.prog 262=True:=eq_true ⟨_,Tryz.func262,of_decide_eq_false (by kernel_rfl),rfl⟩
theorem aPi:qs Tryz.prog 263=True:=eq_true ⟨_,Tryz.func263,of_decide_eq_false (by kernel_rfl),rfl⟩
theorem aPh:qs Tryz.prog 264=True:=eq_true ⟨_,Tryz.func264,of_decide_eq_false (by kernel_rfl),rfl⟩
theorem aPg:qs Tryz.prog 265=True:=eq_true ⟨_,Tryz.func265,of_decide_eq_false (by kernel_rfl),rfl⟩
theorem aPf:qs Tryz.prog 266=True:=eq_true ⟨_,Tryz.func266,of_decide_eq_false (by kernel_rfl),rfl⟩
theorem aPe:qs Tryz.prog 267=True:=eq_true ⟨_,Tryz.func267,of_decide_eq_false (by kernel_rfl),rfl⟩
theorem aPd:qs Tryz.prog 268=True:=eq_true ⟨_,Tryz.func268,of_decide_eq_false (by kernel_rfl),rfl⟩
theorem aPc:qs Tryz.prog 269=True:=eq_true ⟨_,Tryz.func269,of_decide_eq_false (by kernel_rfl),rfl⟩
theorem aPb:qs Tryz.prog 270=True:=eq_true ⟨_,Tryz.func270,of_decide_eq_false (by kernel_rfl),rfl⟩
theorem aPa:qs Tryz.prog 271=True:=eq_true ⟨_,Tryz.func271,of_decide_eq_false (by kernel_rfl),rfl⟩
theorem aO9:qs Tryz.prog 272=True:=eq_true ⟨_,Tryz.func272,of_decide_eq_false (by kernel_rfl),rfl⟩
theorem aO8:qs Tryz.prog 273=True:=eq_true ⟨_,Tryz.func273,of_decide_eq_false (by kernel_rfl),rfl⟩
theorem aO7:qs Tryz.prog 274=True:=eq_true ⟨_,Tryz.func274,of_decide_eq_false (by kernel_rfl),rfl⟩
theorem aO6:qs Tryz.prog 275=True:=eq_true ⟨_,Tryz.func275,of_decide_eq_false (by kernel_rfl),rfl⟩
theorem aO5:qs Tryz.prog 276=True:=eq_true ⟨_,Tryz.func276,of_decide_eq_false (by kernel_rfl),rfl⟩
theorem aO4:qs Tryz.prog 277=True:=eq_true ⟨_,Tryz.func277,of_decide_eq_false (by kernel_rfl),rfl⟩
theorem aO3:qs Tryz.prog 278=True:=eq_true ⟨_,Tryz.func278,of_decide_eq_false (by kernel_rfl),rfl⟩
theorem aO2:qs Tryz.prog 279=True:=eq_true ⟨_,Tryz.func279,of_decide_eq_false (by kernel_rfl),rfl⟩
theorem aO1:qs Tryz.prog 280=True:=eq_true ⟨_,Tryz.func280,of_decide_eq_false (by kernel_rfl),rfl⟩
theorem aO0:qs Tryz.prog 281=True:=eq_true ⟨_,Tryz.func281,of_decide_eq_false (by kernel_rfl),rfl⟩
theorem aOZ:qs Tryz.prog 282=True:=eq_true ⟨_,Tryz.func282,of_decide_eq_false (by kernel_rfl),rfl⟩
theorem aOY:qs Tryz.prog 283=True:=eq_true ⟨_,Tryz.func283,of_decide_eq_false (by kernel_rfl),rfl⟩
theorem aOX:qs Tryz.prog 284=True:=eq_true ⟨_,Tryz.func284,of_decide_eq_false (by kernel_rfl),rfl⟩
theorem aOW:qs Tryz.prog 285=True:=eq_true ⟨_,Tryz.func285,of_decide_eq_false (by kernel_rfl),rfl⟩
theorem aOV:qs Tryz.prog 286=True:=eq_true ⟨_,Tryz.func286,of_decide_eq_false (by kernel_rfl),rfl⟩
theorem aOU:qs Tryz.prog 287=True:=eq_true ⟨_,Tryz.func287,of_decide_eq_false (by kernel_rfl),rfl⟩
theorem aOT:qs Tryz.prog 288=True:=eq_true ⟨_,Tryz.func288,of_decide_eq_false (by kernel_rfl),rfl⟩
theorem aOS:qs Tryz.prog 289=True:=eq_true ⟨_,Tryz.func289,of_decide_eq_false (by kernel_rfl),rfl⟩
theorem aOR:qs Tryz.prog 290=True:=eq_true ⟨_,Tryz.func290,of_decide_eq_false (by kernel_rfl),rfl⟩
theorem aOQ:qs Tryz.prog 291=True:=eq_true ⟨_,Tryz.func291,of_decide_eq_false (by kernel_rfl),rfl⟩
theorem aOP:qs Tryz.prog 292=True:=eq_true ⟨_,Tryz.func292,of_decide_eq_false (by kernel_rfl),rfl⟩
theorem aOO:qs Tryz.prog 293=True:=eq_true ⟨_,Tryz.func293,of_decide_eq_false (by kernel_rfl),rfl⟩
theorem aON:qs Tryz.prog 294=True:=eq_true ⟨_,Tryz.func294,of_decide_eq_false (by kernel_rfl),rfl⟩
theorem aOM:qs Tryz.prog 295=True:=eq_true ⟨_,Tryz.func295,of_decide_eq_false (by kernel_rfl),rfl⟩
theorem aOL:qs Tryz.prog 296=True:=eq_true ⟨_,Tryz.func296,of_decide_eq_false (by kernel_rfl),rfl⟩
theorem aOK:qs Tryz.prog 297=True:=eq_true ⟨_,Tryz.func297,of_decide_eq_false (by kernel_rfl),rfl⟩
theorem aOJ:qs Tryz.prog 298=True:=eq_true ⟨_,Tryz.func298,of_decide_eq_false (by kernel_rfl),rfl⟩
theorem aOI:qs Tryz.prog 299=True:=eq_true ⟨_,Tryz.func299,of_decide_eq_false (by kernel_rfl),rfl⟩
theorem aOH:qs Tryz.prog 300=True:=eq_true ⟨_,Tryz.func300,of_decide_eq_false (by kernel_rfl),rfl⟩
theorem aOG:qs Tryz.prog 301=True:=eq_true ⟨_,Tryz.func301,of_decide_eq_false (by kernel_rfl),rfl⟩
theorem aOF:qs Tryz.prog 302=True:=eq_true ⟨_,Tryz.func302,of_decide_eq_false (by kernel_rfl),rfl⟩
theorem aOE:qs Tryz.prog 303=True:=eq_true ⟨_,Tryz.func303,of_decide_eq_false (by kernel_rfl),rfl⟩
theorem aOD:qs Tryz.prog 304=True:=eq_true ⟨_,Tryz.func304,of_decide_eq_false (by kernel_rfl),rfl⟩
theorem aOC:qs Tryz.prog 305=True:=eq_true ⟨_,Tryz.func305,of_decide_eq_false (by kernel_rfl),rfl⟩
theorem aOB:qs Tryz.prog 330=True:=eq_true ⟨_,Tryz.func330,of_decide_eq_false (by kernel_rfl),rfl⟩
attribute [go_sem] ty1 aMP aHP avk alZ aMN aMO ty2 aMM aHn
attribute [go_sem] asa akJ aMK aML ty3 aMJ akA ar1 akz aMH
attribute [go_sem] aMI ty4 aMG akn arS akm aME aMF ty5 aMD
attribute [go_sem] aGc arJ akd aMB aMC ty6 aMA aFN arA aj4
attribute [go_sem] aMy aMz ty7 aMx aFr ars ajW aMv aMw aR4
attribute [go_sem] aYr aR3 aYq aR2 aYp aR1 aYo bdg ty8 aMu
attribute [go_sem] aEZ arh ajM aMs aMt aR0 aYn aRZ aYm aRY
attribute [go_sem] aYl aRX aYk bdf ty9 aMr aEA aq7 ajD aMp
attribute [go_sem] aMq bbZ aHY azn ann ah4 aHW aHX bbY aHV
attribute [go_sem] ayV anc ahU aHT aHU bbX aHS ayq am1 ahJ
attribute [go_sem] aHQ aHR bbW aHO aur alG agp aHM aHN bbV
attribute [go_sem] aHL atW als agd aHJ aHK aYa bbU aHI atx
attribute [go_sem] ali af4 aHG aHH aX9 bbT aHF as5 ak8 afU
attribute [go_sem] aHD aHE aKP aNY baB bbS aHC asJ ak0 afM
attribute [go_sem] aHA aHB aKO aNX baA bbR aHz asn akR afE
attribute [go_sem] aHx aHy aKN aNW aKM aNV baz bbQ aHw asd
attribute [go_sem] akN afA aHu aHv aKL aNU aKK aNT bay bbP
attribute [go_sem] aHt asc akL afz aHr aHs aKJ aNS aKI aNR
attribute [go_sem] bax bbO aHq asb akK afy aHo aHp aKH aNQ
attribute [go_sem] aKG aNP baw bbN aHm ar9 akI afx aHk aHl
attribute [go_sem] bbM aHj ar8 akH afw aHh aHi bbL aHg ar7
attribute [go_sem] akG afv aHe aHf bbK aHd ar6 akF afu aHb
attribute [go_sem] aHc bbJ aHa ar5 akE aft aG8 aG9 bbI aG7
attribute [go_sem] ar4 akD afs aG5 aG6 bbH aG4 ar3 akC afr
attribute [go_sem] aG2 aG3 bbG aG1 ar2 akB afq aGZ aG0 bbF
attribute [go_sem] aGY ar0 aky afp aGW aGX aX8 bbE aGV arZ
attribute [go_sem] akw afo aGT aGU aKF aNO aKE aNN bav bbD
attribute [go_sem] aGS arY aku afn aGQ aGR aKD aNM aKC aNL
attribute [go_sem] bau bbC aGP arX akt afm aGN aGO bbB aGM
attribute [go_sem] arW aks afl aGK aGL bbA aGJ arV akr afk
attribute [go_sem] aGH aGI bbz aGG arU akq afj aGE aGF bby
attribute [go_sem] aGD arT ako afi aGB aGC aKB aNK aKA aNJ
attribute [go_sem] bat bbx aGA arR akl afh aGy aGz aKz aNI
attribute [go_sem] aKy aNH bas bbw aGx arQ akk afg aGv aGw
attribute [go_sem] bbv aGu arP akj aff aGs aGt bbu aGr arO
attribute [go_sem] aki afe aGp aGq bbt aGo arN akh afd aGm
attribute [go_sem] aGn bbs aGl arM akg afc aGj aGk bbr aGi
attribute [go_sem] arL akf afb aGg aGh bbq aGf arK ake afa
attribute [go_sem] aGd aGe bbp aGb arI akc ae9 aF9 aGa bbo
attribute [go_sem] aF8 arH akb ae8 aF6 aF7 bbn aF5 arG aka
attribute [go_sem] ae6 aF3 aF4 aKx aNG aKw aNF aKv aNE aKu
attribute [go_sem] aND bar bbm aF2 arF aj9 ae5 aF0 aF1 aKt
attribute [go_sem] aNC aKs aNB aKr aNA aKq aNz baq bbl aFZ
attribute [go_sem] arE aj8 ae4 aFX aFY bbk aFW arD aj7 ae3
attribute [go_sem] aFU aFV bbj aFT arC aj6 ae2 aFR aFS bbi
attribute [go_sem] aFQ arB aj5 ae1 aFO aFP bbh aFM arz aj3
attribute [go_sem] ae0 aFK aFL bbg aFJ ary aj2 aeZ aFH aFI
attribute [go_sem] bbf aFG arx aj1 aeY aFE aFF bbe aFD arw
attribute [go_sem] aj0 aeX aFB aFC bbd aFA arv ajZ aeW aFy
attribute [go_sem] aFz bbc aFx aru ajY aeV aFv aFw bbb aFu
attribute [go_sem] art ajX aeU aFs aFt bba aFq arq ajV aeT
attribute [go_sem] aFo aFp ba9 aFn arp ajU aeS aFl aFm ba8
attribute [go_sem] aFk aro ajT aeR aFi aFj ba7 aFh arn ajS
attribute [go_sem] aeQ aFf aFg ba6 aFe arm ajR aeP aFc aFd
attribute [go_sem] ba5 aFb arl ajQ aeO aE9 aFa ba4 aE8 ark
attribute [go_sem] ajP aeN aE6 aE7 ba3 aE5 arj ajO aeM aE3
attribute [go_sem] aE4 ba2 aE2 ari ajN aeL aE0 aE1 aKp aNy
attribute [go_sem] aKo aNx aKn aNw bap ba1 aEY arg ajL aeK
attribute [go_sem] aEW aEX aKm aNv aKl aNu aKk aNt bao ba0
attribute [go_sem] aEV arf ajK aeJ aET aEU baZ aES ard ajJ
attribute [go_sem] aeI aEQ aER baY aEP arc ajI aeH aEN aEO
attribute [go_sem] baX aEM arb ajH aeG aEK aEL baW aEJ ara
attribute [go_sem] ajG aeF aEH aEI baV aEG aq9 ajF aeE aEE
attribute [go_sem] aEF baU aED aq8 ajE aeD aEB aEC aVP azR
attribute [go_sem] anx aie acX azP azQ aNc aVO azO anw aid
attribute [go_sem] acW azM azN aBL aIV aBK aIU aSJ aVN azL
attribute [go_sem] anv aic acV azJ azK aBJ aIT aBI aIS aSI
attribute [go_sem] aVM azI anu aib acU azG azH aVL azF ant
attribute [go_sem] aia acT azD azE aVK azC ans ah9 acS azA
attribute [go_sem] azB aVJ azz anr ah8 acR azx azy aVI azw
attribute [go_sem] anq ah7 acQ azu azv aVH azt anp ah6 acP
attribute [go_sem] azr azs aVG azq ano ah5 acO azo azp aVF
attribute [go_sem] azm anm ah3 acN azk azl aBH aIR aBG aIQ
attribute [go_sem] aSH aVE azj anl ah2 acM azh azi aBF aIP
attribute [go_sem] aBE aIO aSG aVD azg ank ah1 acL aze azf
attribute [go_sem] aVC azd anj ah0 acK azb azc aVB aza ani
attribute [go_sem] ahZ acJ ay8 ay9 aVA ay7 anh ahY acI ay5
attribute [go_sem] ay6 aVz ay4 ang ahX acH ay2 ay3 aVy ay1
attribute [go_sem] anf ahW acG ayZ ay0 aVx ayY ane ahV acF
attribute [go_sem] ayW ayX aVw ayU anb ahT acE ayS ayT aVv
attribute [go_sem] ayR ana ahS acD ayP ayQ aVu ayO am9 ahR
attribute [go_sem] acC ayM ayN aVt ayL am8 ahQ acB ayJ ayK
attribute [go_sem] aVs ayI am7 ahP acA ayG ayH aVr ayF am6
attribute [go_sem] ahO acz ayD ayE aVq ayC am5 ahN acy ayA
attribute [go_sem] ayB aVp ayz am4 ahM acx ayx ayy aVo ayw
attribute [go_sem] am3 ahL acw ayu ayv aVn ayt am2 ahK acv
attribute [go_sem] ayr ays aVm ayp am0 ahI acu ayn ayo aVl
attribute [go_sem] aym amZ ahH act ayk ayl aVk ayj amY ahG
attribute [go_sem] acs ayh ayi aVj ayg amX ahF acr aye ayf
attribute [go_sem] aVi ayd amW ahE acq ayb ayc aVh aya amV
attribute [go_sem] ahD acp ax8 ax9 aVg ax7 amU ahC aco ax5
attribute [go_sem] ax6 aVf ax4 amT ahB acn ax2 ax3 aVe ax1
attribute [go_sem] amS ahA acm axZ ax0 aVd axY amR ahz acl
attribute [go_sem] axW axX aVc axV amQ ahy ack axT axU aVb
attribute [go_sem] axS amP ahx acj axQ axR aBD aIN aBC aIM
attribute [go_sem] aBB aIL aSF aVa axP amO ahw aci axN axO
attribute [go_sem] aBA aIK aBz aIJ aBy aII aSE aU9 axM amN
attribute [go_sem] ahv ach axK axL aU8 axJ amM ahu acg axH
attribute [go_sem] axI aU7 axG amL aht acf axE axF aU6 axD
attribute [go_sem] amK ahs ace axB axC aU5 axA amJ ahr acd
attribute [go_sem] axy axz aU4 axx amI ahq acb axv axw aU3
attribute [go_sem] axu amH ahp aca axs axt aU2 axr amG aho
attribute [go_sem] ab9 axp axq aU1 axo amF ahn ab8 axm axn
attribute [go_sem] aU0 axl amE ahm ab7 axj axk aNb aUZ axi
attribute [go_sem] amD ahl ab6 axg axh aBx aIH aBw aIG aSD
attribute [go_sem] aUY axf amC ahk ab5 axd axe aBv aIF aBu
attribute [go_sem] aIE aSC aUX axc amB ahj ab4 axa axb aUW
attribute [go_sem] aw9 amA ahi ab3 aw7 aw8 aNa aUV aw6 amz
attribute [go_sem] ahh ab2 aw4 aw5 aBt aID aBs aIC aSB aUU
attribute [go_sem] aw3 amy ahg ab1 aw1 aw2 aBr aIB aBq aIA
attribute [go_sem] aSA aUT aw0 amx ahf ab0 awY awZ aUS awX
attribute [go_sem] amw ahe abZ awU awW aUR awT amv ahd abY
attribute [go_sem] awR awS aUQ awQ amu ahc abX awO awP aUP
attribute [go_sem] awN amt ahb abW awL awM aUO awK ams aha
attribute [go_sem] abV awI awJ aUN awH amr ag9 abU awF awG
attribute [go_sem] aUM awE amq ag8 abT awC awD aUL awB amp
attribute [go_sem] ag7 abS awz awA aUK awy amo ag6 abR aww
attribute [go_sem] awx aUJ awv amn ag5 abQ awt awu aUI aws
attribute [go_sem] amm ag4 abP awq awr aUH awo aml ag3 abO
attribute [go_sem] awm awn aUG awl amk ag2 abN awj awk aUF
attribute [go_sem] awi amj ag1 abM awg awh aUE awf ami ag0
attribute [go_sem] abL awd awe aUD awc amh agZ abK awa awb
attribute [go_sem] aUC av9 amg agY abJ av7 av8 aUB av6 amf
attribute [go_sem] agX abI av4 av5 aUA av3 ame agW abH av1
attribute [go_sem] av2 aM9 aUz av0 amd agV abG avY avZ aUy
attribute [go_sem] avX amc agU abF avV avW aUx avU amb agT
attribute [go_sem] abE avS avT aUw avR ama agS abD avP avQ
attribute [go_sem] aUv avO al9 agR abC avM avN aUu avL al8
attribute [go_sem] agQ abB avJ avK aUt avI al7 agP abA avG
attribute [go_sem] avH aUs avF al6 agO abz avD avE aUr avC
attribute [go_sem] al5 agN aby avA avB aUq avz al4 agM abx
attribute [go_sem] avx avy aUp avw al3 agL abw avu avv aUo
attribute [go_sem] avt al2 agK abv avr avs aUn avq al1 agJ
attribute [go_sem] abu avo avp aUm avn al0 agI abt avl avm
attribute [go_sem] aUl avj alY agH abr avh avi aUk avg alX
attribute [go_sem] agG abq ave avf aUj avd alW agF abp avb
attribute [go_sem] avc aUi ava alV agE abo au8 au9 aUh au7
attribute [go_sem] alU agD abn au5 au6 aUg au4 alT agC abm
attribute [go_sem] au2 au3 aUf au1 alS agB abl auZ au0 aUe
attribute [go_sem] auY alR agA abk auW auX aUd auV alQ agz
attribute [go_sem] abj auT auU aUc auS alP agy abi auQ auR
attribute [go_sem] aUb auP alO agx abh auN auO aUa auM alN
attribute [go_sem] agw abg auK auL aT9 auJ alM agv abf auH
attribute [go_sem] auI aT8 auG alL agu abe auE auF aT7 auD
attribute [go_sem] alK agt abd auB auC aT6 auA alJ ags abc
attribute [go_sem] auy auz aT5 aux alI agr abb auv auw aT4
attribute [go_sem] auu alH agq aba aus aut aT3 auq alD ago
attribute [go_sem] aa9 auo aup aT2 aun alC agn aa8 aul aum
attribute [go_sem] aT1 auk alB agm aa7 aui auj aM8 aT0 auh
attribute [go_sem] alz agl aa6 auf aug aTZ aue aly agk aa5
attribute [go_sem] auc aud aTY aub alx agj aa4 at9 aua aTX
attribute [go_sem] at8 alw agi aa3 at6 at7 aTW at5 alv agh
attribute [go_sem] aa2 at3 at4 aTV at2 alu agf aa1 at0 at1
attribute [go_sem] aTU atZ alt age aaZ atX atY aTT atV alr
attribute [go_sem] agc aaY atT atU aTS atS alq agb aaX atQ
attribute [go_sem] atR aTR atP alp aga aaW atN atO aTQ atM
attribute [go_sem] alo af9 aaV atK atL aTP atJ aln af8 aaU
attribute [go_sem] atH atI aTO atG alm af7 aaT atE atF aTN
attribute [go_sem] atD alk af6 aaS atB atC aTM atA alj af5
attribute [go_sem] aaR aty atz aTL atw alh af3 aaQ atu atv
attribute [go_sem] aTK att alg af2 aaP atr ats aTJ atq alf
attribute [go_sem] af1 aaO ato atp aTI atn ale af0 aaN atl
attribute [go_sem] atm aTH atk ald afZ aaM ati atj aTG ath
attribute [go_sem] alc afY aaL atf atg aTF ate alb afX aaK
attribute [go_sem] atc atd aTE atb ala afW aaJ as9 ata aTD
attribute [go_sem] as8 ak9 afV aaI as6 as7 aTC as4 ak7 afT
attribute [go_sem] aaH as2 as3 aTB as1 ak6 afS aaG asZ as0
attribute [go_sem] aTA asY ak5 afR aaF asW asX aTz asV ak4
attribute [go_sem] afQ aaE asT asU aTy asS ak3 afP aaD asQ
attribute [go_sem] asR aTx asP ak2 afO aaC asN asO aTw asM
attribute [go_sem] ak1 afN aaB asK asL aTv asI akY afL aaA
attribute [go_sem] asG asH aTu asF akX afK aaz asD asE aTt
attribute [go_sem] asC akW afJ aay asA asB aTs asz akV afI
attribute [go_sem] aax asx asy aTr asw akU afH aaw asu asv
attribute [go_sem] aTq ast akT afG aav asr ass aTp asq akS
attribute [go_sem] afF aau aso asp aTo asm akQ afD aat ask
attribute [go_sem] asl aTn asj akP afC aas ash asi aTm asg
attribute [go_sem] akO afB aar ase asf bdc bdb bda bc9 bc8
attribute [go_sem] bc7 bc6 bc5 bag baf bae bac bab baa aZ9
attribute [go_sem] aZ8 aZ7 aZ6 aZ5 aZ4 aZ3 aZ2 aZ1 aZ0 aZZ
attribute [go_sem] aZY aZX aZW aZV aZU aZT aZS aZR aZQ aZP
attribute [go_sem] aZO aZN aZM aZL aZK aZJ aZI aZH aZG aZF
attribute [go_sem] aZE aZD aZC aZB aZA aZz aZy aZx aZw aZv
attribute [go_sem] aZu aZt aZs aZr aZq aZp aZo aZn aZm aZl
attribute [go_sem] aZk aZj aZi aZh aZg aZf aZe aZd aZc aZb
attribute [go_sem] aZa aY9 aY8 aY7 aY6 aY5 aY4 aY3 aY2 aY1
attribute [go_sem] aY0 aYZ aYY aYX aYW aYV aYU aYT aYS aYR
attribute [go_sem] aYQ aYP aYO aRV aRU aRT aRS aRR aRQ aRP
attribute [go_sem] aRO aRN aRM aRL aRK aRJ aRI aRH aRG aRF
attribute [go_sem] aRE aRD aRC aRB aRA aRz aRy aRx aRw aRv
attribute [go_sem] aRu aRt aRs aRr aRq aRp aRo aRn aRm aRl
attribute [go_sem] aRk aRj aRi aRh aRg aRf aRe aRd aRc aRb
attribute [go_sem] aRa aQ9 aQ8 aQ7 aQ6 aQ5 aQ4 aQ3 aQ2 aQ1
attribute [go_sem] aQ0 aQZ aQY aQX aQW aQV aQU aQT aQS aQR
attribute [go_sem] aQQ aQP aQO aQN aQM aQL aQK aQJ aQI aQH
attribute [go_sem] aQG aQF aQE aQD aQC aQB aQA aQz aQy aQx
attribute [go_sem] aQw aQv aQu aQt aQs aQr aQq aQp aQo aQn
attribute [go_sem] aQm aQl aQk aQj aQi aQh aQg aQf aQe aQd
attribute [go_sem] aQc aQb aQa aP9 aP8 aP7 aP6 aP5 aP4 aP3
attribute [go_sem] aP2 aP1 aP0 aPZ aPY aPX aPW aPV aPU aPT
attribute [go_sem] aPS aPR aPQ aPP aPO aPN aPM aPL aPK aPJ
attribute [go_sem] aPI aPH aPG aPF aPE aPD aPC aPB aPA aPz
attribute [go_sem] aPy aPx aPw aPv aPu aPt aPs aPr aPq aPp
attribute [go_sem] aPo aPn aPm aPl aPk aPj aPi aPh aPg aPf
attribute [go_sem] aPe aPd aPc aPb aPa aO9 aO8 aO7 aO6 aO5
attribute [go_sem] aO4 aO3 aO2 aO1 aO0 aOZ aOY aOX aOW aOV
attribute [go_sem] aOU aOT aOS aOR aOQ aOP aOO aON aOM aOL
attribute [go_sem] aOK aOJ aOI aOH aOG aOF aOE aOD aOC aOB
end Go.Ab
namespace Go.Ab
open Go Go.Proofs
set_option maxRecDepth 100000 in
theorem adG(U V:List Int)(j:Nat)(hU:gd U)(hV:gd V)(lU:U.length≤2000000)(h2:2≤V.length)(hj:j+V.length<U.length)(hv1:32768≤V.getD (V.length-1) 0)(hW:vl (U.drop j)<65536*vl V):
  Con Tryz.prog 296 true [.sl U.length (qg U),.sl V.length (qg V),.v (.int .i64 j)] [] (fun r hs bs=>∃q:Int,r=.v (.int .i64 q)∧hs=[]∧bs=[]∧(0≤q∧q<65536)∧vl (U.drop j)<(q+1)*vl V∧q*vl V<vl (U.drop j)+vl V):=by
 refine Con.of_aw Tryz.func296 rfl Tryz.ntmps296 (by simp) (by simp) (by simp) (W.sound ?_)
 show @W Tryz.prog 76 ⟨_⟩ ⟨fun x σ=>@za _ _ _ ⟨_⟩ _ ⟨_⟩ x σ⟩ _ _
 have hDl:V.length<(U.drop j).length:=by simp;omega
 have hz:=ad1 (jj hU j) hV hDl hW
 have hw:=aMd hDl h2 hz
 have hvv:=aEr h2
 rw[z8,z8,z8]at hw
 have hx0:=qM (zK (jj hU j) (V.length-2))
 have hx1:=yG (zK (jj hU j) (V.length-2))
 have hy0:=qM (zK hV (V.length-2))
 have hy1:=yG (zK hV (V.length-2))
 rw[List.length_take,Nat.min_eq_left (by omega)]at hx1 hy1
 have gu0:=qN hU (j+V.length)
 have gu1:=qN hU (j+(V.length-1))
 have gu2:=qN hU (j+(V.length-2))
 have gv1:=qN hV (V.length-1)
 have gv2:=qN hV (V.length-2)
 have htop:=aOi hw hvv ⟨hx0,hx1⟩ ⟨hy0,hy1⟩ gu2.1 gu1.1 gv2.2 hW
 have e0:((j:Int)+(V.length:Int)).toNat=j+V.length:=by omega
 have e1:((j:Int)+(V.length:Int)-1).toNat=j+(V.length-1):=by omega
 have e2:((j:Int)+(V.length:Int)-2).toNat=j+(V.length-2):=by omega
 have f1:((V.length:Int)-1).toNat=V.length-1:=by omega
 have f2:((V.length:Int)-2).toNat=V.length-2:=by omega
 simp(disch:=omega)only[go_sem]
 refine qo rfl [⟨0,[],[]⟩,⟨1,[],[]⟩,⟨2,[],[]⟩,⟨3,[],[]⟩,⟨4,[],[]⟩,⟨5,[],[]⟩,⟨6,[],[]⟩,⟨7,[5],[]⟩,⟨8,[5],[]⟩,⟨9,[5],[]⟩,⟨10,[5],[]⟩,⟨11,[5],[]⟩,⟨12,[5],[]⟩,⟨13,[5],[]⟩,⟨14,[],[]⟩,⟨15,[],[]⟩] (by kernel_rfl) ?_
 simp(disch:=omega)only[go_sem,e0,e1]
 generalize hu0:U.getD (j+V.length) 0=u0 at*
 generalize hu1:U.getD (j+(V.length-1)) 0=u1 at*
 generalize hu2:U.getD (j+(V.length-2)) 0=u2 at*
 refine⟨by omega,by omega,by omega,by omega,?_⟩
 refine qo rfl [⟨0,[],[]⟩,⟨1,[],[]⟩,⟨2,[],[]⟩,⟨3,[],[]⟩,⟨4,[],[]⟩,⟨5,[],[]⟩,⟨6,[],[]⟩,⟨7,[5],[]⟩,⟨8,[5],[]⟩,⟨9,[5],[]⟩,⟨10,[5],[]⟩,⟨11,[5],[]⟩,⟨12,[5],[]⟩,⟨13,[5],[]⟩,⟨14,[12],[]⟩,⟨15,[],[]⟩] (by kernel_rfl) ?_
 simp(disch:=omega)only[go_sem,f1]
 generalize hvv1:V.getD (V.length-1) 0=v1 at*
 generalize hvv2:V.getD (V.length-2) 0=v2 at*
 generalize htt:u0*65536+u1=top at*
 refine⟨by omega,by omega,by omega,by omega,by omega,by omega,?_⟩
 have hq0:0≤top/v1:=Int.ediv_nonneg (by omega) (by omega)
 have hq1:top/v1≤65537:=by
  have:top/v1<65538:=Int.ediv_lt_of_lt_mul (by omega) (by omega)
  omega
 have hr0:=Int.emod_nonneg top (show v1≠0 by omega)
 have hr1:=Int.emod_lt_of_pos top (show 0<v1 by omega)
 have hqr:=Int.emod_add_mul_ediv top v1
 have hini:=aJO hw hvv ⟨hx0,hx1⟩ ⟨hy0,hy1⟩ gu2 gv2.1 hq0 (show top<(top/v1+1)*v1 by rw[Int.add_mul,Int.mul_comm (top/v1)];omega)
 have hqr':top/v1*v1+top % v1=top:=by rw[Int.mul_comm];omega
 generalize top/v1=q0 at*
 generalize top % v1=r0 at*
 refine qk (fun x:Int×Int=>[(0,.sl U.length (qg U)),(1,.sl V.length (qg V)),(2,.v (.int .i64 j)),(7,.v (.int .i64 V.length)),(9,.v (.int .i64 x.1)),(10,.v (.int .i64 x.2))])
  (fun _=>[]) (fun x=>(0≤x.1∧x.1≤65537)∧(0≤x.2∧x.2<65536)∧x.1*v1+x.2=top∧vl (U.drop j)<(x.1+1)*vl V) (fun x=>x.1.toNat) (q0,r0) ⟨⟨hq0,hq1⟩,⟨hr0,by omega⟩,hqr',hini⟩
  (Le.lst [] _ _ rfl (by simp(disch:=omega)only[go_sem];try omega) (by simp(disch:=omega)only[go_sem])) ?_
 rintro⟨q,r⟩ ⟨hq,hr,hqr2,hlt⟩
 dsimp only at hq hr hqr2 hlt ⊢
 have hqv:0≤q*v2∧q*v2≤65537*65535:=⟨Int.mul_nonneg hq.1 gv2.1,Int.mul_le_mul hq.2 (by omega) gv2.1 (by omega)⟩
 simp(disch:=omega)only[go_sem]
 refine qo rfl [⟨0,[],[]⟩,⟨1,[],[]⟩,⟨2,[],[]⟩,⟨3,[],[]⟩,⟨4,[],[]⟩,⟨5,[],[]⟩,⟨6,[],[]⟩,⟨7,[],[]⟩,⟨8,[],[]⟩,⟨9,[],[]⟩,⟨10,[8],[]⟩,⟨11,[8],[]⟩,⟨12,[8],[]⟩,⟨13,[8],[]⟩,⟨14,[8],[]⟩,⟨15,[8],[]⟩,⟨16,[8],[]⟩,⟨17,[8],[]⟩,⟨18,[8],[]⟩,⟨19,[8],[]⟩,⟨20,[],[]⟩,⟨21,[],[]⟩] (by kernel_rfl) ?_
 simp(disch:=omega)only[go_sem]
 refine q7 (fun h1=>?_) (fun h1=>?_)
 ·simp(disch:=omega)only[go_sem,h1,e2,f2,hu2,hvv2]
  refine⟨by omega,by omega,by omega,by omega,qe (fun h2=>?_) (fun h2=>?_)⟩
  ·simp(disch:=omega)only[go_sem,h2,f1,hvv1]
   have hst:=aoC hw hvv ⟨hx0,hx1⟩ ⟨hy0,hy1⟩ hW gv2.1 (by omega) hq.1 hqr2 (.inr h2)
   have hqp:0<q:=by
    rcases(by omega:0<q∨q=0)with h|h
    ·exact h
    ·subst h;omega
   have hm:(q-1)*v1+(r+v1)=top:=by rw[Int.sub_mul];omega
   refine⟨by omega,by omega,qe (fun h3=>?_) (fun h3=>?_)⟩
   ·simp(disch:=omega)only[go_sem,h3]
    have h4:q-1<65536:=by
     rcases(by omega:q-1<65536∨65536≤q-1)with h|h
     ·exact h
     ·have:=Int.mul_le_mul_of_nonneg_right h (show 0≤v1 by omega)
      omega
    have h5:(q-1)*v2≤(r+v1)*65536+u2:=by
     have:(q-1)*v2≤65535*65535:=Int.mul_le_mul (by omega) (by omega) gv2.1 (by omega)
     omega
    have h6:=adf hw hvv ⟨hx0,hx1⟩ ⟨hy0,hy1⟩ gv2.1 (by omega) ⟨by omega,h4⟩ hm h5
    exact qc (by simp(disch:=omega)only[go_sem]) (by simp(disch:=omega)only[go_sem]) ⟨q-1,rfl,rfl,rfl,⟨by omega,h4⟩,by rw[show q-1+1=q by omega];exact hst,h6⟩
   ·simp(disch:=omega)only[go_sem,h3]
    refine qh (q-1,r+v1) [] ⟨by show 0≤q-1∧q-1≤65537;omega,by show 0≤r+v1∧r+v1<65536;omega,hm,by show _<(q-1+1)*vl V;rw[show q-1+1=q by omega];exact hst⟩ (by show(q-1).toNat<q.toNat;omega) rfl (by simp(disch:=omega)only[go_sem];try omega) (by simp(disch:=omega)only[go_sem])
  ·simp(disch:=omega)only[go_sem,h2]
   have h6:=adf hw hvv ⟨hx0,hx1⟩ ⟨hy0,hy1⟩ gv2.1 (by omega) ⟨hq.1,by omega⟩ hqr2 (by omega)
   exact qc (by simp(disch:=omega)only[go_sem]) (by simp(disch:=omega)only[go_sem]) ⟨q,rfl,rfl,rfl,⟨hq.1,by omega⟩,hlt,h6⟩
 ·simp(disch:=omega)only[go_sem,h1,f1,hvv1]
  have hst:=aoC hw hvv ⟨hx0,hx1⟩ ⟨hy0,hy1⟩ hW gv2.1 (by omega) hq.1 hqr2 (.inl h1)
  have hqp:0<q:=by omega
  have hm:(q-1)*v1+(r+v1)=top:=by rw[Int.sub_mul];omega
  refine⟨by omega,by omega,qe (fun h3=>?_) (fun h3=>?_)⟩
  ·simp(disch:=omega)only[go_sem,h3]
   have h4:q-1<65536:=by
    rcases(by omega:q-1<65536∨65536≤q-1)with h|h
    ·exact h
    ·have:=Int.mul_le_mul_of_nonneg_right h (show 0≤v1 by omega)
     omega
   have h5:(q-1)*v2≤(r+v1)*65536+u2:=by
    have:(q-1)*v2≤65535*65535:=Int.mul_le_mul (by omega) (by omega) gv2.1 (by omega)
    omega
   have h6:=adf hw hvv ⟨hx0,hx1⟩ ⟨hy0,hy1⟩ gv2.1 (by omega) ⟨by omega,h4⟩ hm h5
   exact qc (by simp(disch:=omega)only[go_sem]) (by simp(disch:=omega)only[go_sem]) ⟨q-1,rfl,rfl,rfl,⟨by omega,h4⟩,by rw[show q-1+1=q by omega];exact hst,h6⟩
  ·simp(disch:=omega)only[go_sem,h3]
   refine qh (q-1,r+v1) [] ⟨by show 0≤q-1∧q-1≤65537;omega,by show 0≤r+v1∧r+v1<65536;omega,hm,by show _<(q-1+1)*vl V;rw[show q-1+1=q by omega];exact hst⟩ (by show(q-1).toNat<q.toNat;omega) rfl (by simp(disch:=omega)only[go_sem];try omega) (by simp(disch:=omega)only[go_sem])
end Go.Ab
namespace Go.Ab
open Go Go.Proofs
theorem KU(U V:List Int)(j:Nat)(q:Int)(hU:gd U)(hV:gd V)(lU:U.length≤2000000)(hj:j+V.length<U.length)(hq:0≤q∧q<65536):
  Con Tryz.prog 297 false [.rf 10000000 0 U.length,.sl V.length (qg V),.v (.int .i64 j),.v (.int .i64 q)] [.own 1 (qg U)]
   (fun r hs bs=>∃(U':List Int) (bo:Int),r=.v (.bool (decide (U.getD (j+V.length) 0-bo<0)))∧hs=[]∧bs=[.own 1 (qg (U'.set (j+V.length) (U.getD (j+V.length) 0-bo)))]∧
    U'.length=U.length∧gd U'∧(0≤bo∧bo<65536)∧(∀t,t<j∨j+V.length≤t→U'.getD t 0=U.getD t 0)∧vl U'-65536^(j+V.length)*bo=vl U-65536^j*(q*vl V)):=by
 refine Con.of_aw Tryz.func297 rfl Tryz.ntmps297 (by simp) (by simp) (by simp) (W.sound ?_)
 show @W Tryz.prog 68 ⟨_⟩ ⟨fun x σ=>@za _ _ _ ⟨_⟩ _ ⟨_⟩ x σ⟩ _ _
 simp(disch:=omega)only[go_sem]
 refine qk (fun x:Nat×List Int×Int=>[(0,.rf 10000000 0 U.length),(1,.sl V.length (qg V)),(2,.v (.int .i64 j)),(3,.v (.int .i64 q)),(9,.v (.int .i64 x.2.2)),(13,.sl V.length (qg V)),(14,.v (.int .i64 V.length)),(15,.v (.int .i64 x.1))])
  (fun x=>[(10000000,.own 1 (qg x.2.1))])
  (fun x=>x.1≤V.length∧x.2.1.length=U.length∧gd x.2.1∧(0≤x.2.2∧x.2.2<65536)∧(∀t,t<j∨j+x.1≤t→x.2.1.getD t 0=U.getD t 0)∧vl x.2.1-65536^(j+x.1)*x.2.2=vl U-65536^j*(q*vl (V.take x.1)))
  (fun x=>V.length-x.1) (0,U,0) ⟨by simp,rfl,hU,by simp,fun _ _=>rfl,by simp[vl]⟩
  (Le.lst [] _ _ rfl (by simp(disch:=omega)only[go_sem];try omega) (by simp(disch:=omega)only[go_sem])) ?_
 rintro⟨i,U1,bo⟩ ⟨hi,hl1,hg1,hbo,hsame,hval⟩
 dsimp only at hi hl1 hg1 hbo hsame hval ⊢
 simp(disch:=omega)only[go_sem]
 refine qe (fun h1=>?_) (fun h1=>?_)
 ·have hx:=qN hV i
  have hu:=qN hg1 (j+i)
  have hqx:0≤q*V.getD i 0∧q*V.getD i 0≤65535*65535:=⟨Int.mul_nonneg hq.1 hx.1,Int.mul_le_mul (by omega) (by omega) hx.1 (by omega)⟩
  have e1:((j:Int)+(i:Int)).toNat=j+i:=by omega
  have hstep:∀d b:Int,d-65536*b=U1.getD (j+i) 0-q*V.getD i 0-bo→vl (U1.set (j+i) d)-65536^(j+(i+1))*b=vl U-65536^j*(q*vl (V.take (i+1))):=by
   intro d b hd
   rw[QP (by omega),qZ,←Nat.add_assoc,Int.pow_succ]
   have e3:(65536:Int)^(j+i)=65536^j*65536^i:=Int.pow_add _ _ _
   rw[e3]at hval ⊢
   generalize (65536:Int)^i=Pi at*
   generalize (65536:Int)^j=Pj at*
   grind
  have hsm:∀d:Int,∀t,t<j∨j+(i+1)≤t→(U1.set (j+i) d).getD t 0=U.getD t 0:=fun d t ht=>by
   rw[jo (by omega),if_neg (by omega)];exact hsame t (by omega)
  simp(disch:=omega)only[go_sem,h1,e1]
  refine⟨by omega,by omega,by omega,by omega,qe (fun h2=>?_) (fun h2=>?_)⟩
  ·simp(disch:=omega)only[go_sem,h2,e1]
   generalize hb:(0-(U1.getD (j+i) 0-q*V.getD i 0-bo)+65536-1)/65536=b
   refine⟨by omega,by omega,qh (i+1,U1.set (j+i) (U1.getD (j+i) 0-q*V.getD i 0-bo+b*65536),b) [] ⟨by show i+1≤_;omega,by simp[hl1],yM hg1 (by omega),by show 0≤b∧b<65536;omega,hsm _,hstep (U1.getD (j+i) 0-q*V.getD i 0-bo+b*65536) b (by omega)⟩
    (by show V.length-(i+1)<V.length-i;omega) rfl (by simp(disch:=omega)only[go_sem];try omega) (by simp(disch:=omega)only[go_sem])⟩
  ·simp(disch:=omega)only[go_sem,h2,e1]
   refine⟨by omega,by omega,qh (i+1,U1.set (j+i) (U1.getD (j+i) 0-q*V.getD i 0-bo),0) [] ⟨by show i+1≤_;omega,by simp[hl1],yM hg1 (by omega),by simp,hsm _,hstep (U1.getD (j+i) 0-q*V.getD i 0-bo) 0 (by omega)⟩
    (by show V.length-(i+1)<V.length-i;omega) rfl (by simp(disch:=omega)only[go_sem];try omega) (by simp(disch:=omega)only[go_sem])⟩
 ·have hiA:i=V.length:=by omega
  subst hiA
  rw[List.take_length]at hval
  have e1:((j:Int)+(V.length:Int)).toNat=j+V.length:=by omega
  have hu:=qN hg1 (j+V.length)
  have es:=hsame (j+V.length) (by omega)
  have eg:(U1.set (j+V.length) (U.getD (j+V.length) 0-bo)).getD (j+V.length) 0=U.getD (j+V.length) 0-bo:=by rw[jo (by omega),if_pos rfl]
  simp(disch:=omega)only[go_sem,h1,e1,es]
  refine⟨by omega,by omega,by omega,by omega,by omega,by simp;omega,?_⟩
  simp(disch:=omega)only[go_sem,eg]
  refine qj [] [] [.own 1 (qg (U1.set (j+V.length) (U.getD (j+V.length) 0-bo)))] [.v (.bool (decide (U.getD (j+V.length) 0-bo<0)))] rfl (by simp(disch:=omega)only[go_sem]) (by simp(disch:=omega)only[go_sem]) (by simp) (by simp) ⟨U1,bo,rfl,rfl,rfl,hl1,hg1,hbo,hsame,hval⟩
theorem adJ(U V:List Int)(j:Nat)(hU:∀t,t≠j+V.length→0≤U.getD t 0∧U.getD t 0<65536)(hUt: -65536≤U.getD (j+V.length) 0∧U.getD (j+V.length) 0<65536)(hV:gd V)(lU:U.length≤2000000)(hj:j+V.length<U.length):
  Con Tryz.prog 298 false [.rf 10000000 0 U.length,.sl V.length (qg V),.v (.int .i64 j)] [.own 1 (qg U)]
   (fun r hs bs=>∃(U':List Int),r=.tu []∧hs=[]∧bs=[.own 1 (qg U')]∧
    U'.length=U.length∧(∀t,t≠j+V.length→0≤U'.getD t 0∧U'.getD t 0<65536)∧(∀t,t<j∨j+V.length<t→U'.getD t 0=U.getD t 0)∧vl U'=vl U+65536^j*vl V):=by
 refine Con.of_aw Tryz.func298 rfl Tryz.ntmps298 (by simp) (by simp) (by simp) (W.sound ?_)
 show @W Tryz.prog 46 ⟨_⟩ ⟨fun x σ=>@za _ _ _ ⟨_⟩ _ ⟨_⟩ x σ⟩ _ _
 simp(disch:=omega)only[go_sem]
 refine qk (fun x:Nat×List Int×Int=>[(0,.rf 10000000 0 U.length),(1,.sl V.length (qg V)),(2,.v (.int .i64 j)),(6,.v (.int .i64 x.2.2)),(9,.sl V.length (qg V)),(10,.v (.int .i64 V.length)),(11,.v (.int .i64 x.1))])
  (fun x=>[(10000000,.own 1 (qg x.2.1))])
  (fun x=>x.1≤V.length∧x.2.1.length=U.length∧(∀t,t≠j+V.length→0≤x.2.1.getD t 0∧x.2.1.getD t 0<65536)∧(0≤x.2.2∧x.2.2≤1)∧(∀t,t<j∨j+x.1≤t→x.2.1.getD t 0=U.getD t 0)∧vl x.2.1+65536^(j+x.1)*x.2.2=vl U+65536^j*vl (V.take x.1))
  (fun x=>V.length-x.1) (0,U,0) ⟨by simp,rfl,hU,by simp,fun _ _=>rfl,by simp[vl]⟩
  (Le.lst [] _ _ rfl (by simp(disch:=omega)only[go_sem];try omega) (by simp(disch:=omega)only[go_sem])) ?_
 rintro⟨i,U1,cy⟩ ⟨hi,hl1,hg1,hcy,hsame,hval⟩
 dsimp only at hi hl1 hg1 hcy hsame hval ⊢
 simp(disch:=omega)only[go_sem]
 refine qe (fun h1=>?_) (fun h1=>?_)
 ·have hx:=qN hV i
  have hu:=hg1 (j+i) (by omega)
  have e1:((j:Int)+(i:Int)).toNat=j+i:=by omega
  simp(disch:=omega)only[go_sem,h1,e1]
  generalize hb:cy+(U1.getD (j+i) 0+V.getD i 0)=b
  have hg2:∀t,t≠j+V.length→0≤(U1.set (j+i) (b % 65536)).getD t 0∧(U1.set (j+i) (b % 65536)).getD t 0<65536:=fun t ht=>by
   rw[jo (by omega)]
   split
   ·omega
   ·exact hg1 t ht
  refine⟨by omega,by omega,by omega,by omega,by omega,by omega,qh (i+1,U1.set (j+i) (b % 65536),b/65536) [] ⟨by show i+1≤_;omega,by simp[hl1],hg2,by show 0≤b/65536∧b/65536≤1;omega,fun t ht=>?_,?_⟩
   (by show V.length-(i+1)<V.length-i;omega) rfl (by simp(disch:=omega)only[go_sem];try omega) (by simp(disch:=omega)only[go_sem])⟩
  ·show(U1.set (j+i) (b % 65536)).getD t 0=_
   have ht:t<j∨j+(i+1)≤t:=ht
   rw[jo (by omega),if_neg (by omega)];exact hsame t (by omega)
  ·show vl (U1.set (j+i) (b % 65536))+65536^(j+(i+1))*(b/65536)=vl U+65536^j*vl (V.take (i+1))
   rw[QP (by omega),qZ,←Nat.add_assoc,Int.pow_succ]
   have e3:(65536:Int)^(j+i)=65536^j*65536^i:=Int.pow_add _ _ _
   have e4:b % 65536+65536*(b/65536)=b:=Int.emod_add_mul_ediv b 65536
   rw[e3]at hval ⊢
   generalize (65536:Int)^i=Pi at*
   generalize (65536:Int)^j=Pj at*
   grind
 ·have hiA:i=V.length:=by omega
  subst hiA
  rw[List.take_length]at hval
  have e1:((j:Int)+(V.length:Int)).toNat=j+V.length:=by omega
  have es:=hsame (j+V.length) (by omega)
  simp(disch:=omega)only[go_sem,h1,e1,es]
  refine⟨by omega,by omega,by omega,by omega,?_⟩
  refine qj [] [] [.own 1 (qg (U1.set (j+V.length) (U.getD (j+V.length) 0+cy)))] [] rfl (by simp(disch:=omega)only[go_sem]) (by simp(disch:=omega)only[go_sem]) (by simp) (by simp) ⟨_,rfl,rfl,rfl,by simp[hl1],fun t ht=>?_,fun t ht=>?_,?_⟩
  ·rw[jo (by omega),if_neg ht];exact hg1 t ht
  ·rw[jo (by omega),if_neg (by omega)];exact hsame t (by omega)
  ·rw[QP (by omega),es]
   generalize (65536:Int)^(j+V.length)=Pj at*
   grind
end Go.Ab
namespace Go.Ab
open Go Go.Proofs
theorem jp(xs:List Int)(hl:xs.length≤2^40):Con Tryz.prog 254 false [.rf 10000000 0 xs.length] [.own 1 (qg xs)] (fun r hs bs=>r=.rf 10000000 0 (ZW xs).length∧hs=[]∧bs=[.own 1 (qg xs)]):=by
 refine Con.of_aw Tryz.func254 rfl Tryz.ntmps254 (by simp) (by simp) (by simp) (W.sound ?_)
 show @W Tryz.prog 21 ⟨_⟩ ⟨fun x σ=>@za _ _ _ ⟨_⟩ _ ⟨_⟩ x σ⟩ _ _
 simp(disch:=omega)only[go_sem]
 refine qk (fun m:Nat=>[(0,.rf 10000000 0 m)]) (fun _=>[(10000000,.own 1 (qg xs))]) (fun m=>m≤xs.length∧ZW (xs.take m)=ZW xs) id xs.length ⟨Nat.le_refl _,by simp⟩
  (Le.lst [] _ _ rfl (by simp(disch:=omega)only[go_sem];try omega) (by simp(disch:=omega)only[go_sem])) ?_
 intro m ⟨hm,hx⟩
 have hmx:∀k,k+1=m→xs.take m=xs.take k++[xs.getD k 0]:=fun k hk=>by rw[←hk];exact jN (by omega)
 simp(disch:=omega)only[go_sem]
 refine qe (fun h1=>?_) (fun h1=>?_)
 ·obtain⟨k,rfl⟩:∃k,m=k+1:=⟨m-1,by omega⟩
  have e1:((k+1:Nat):Int)-1=(k:Nat):=by omega
  rw[hmx k rfl]at hx
  simp(disch:=omega)only[go_sem,h1,e1]
  refine⟨by omega,by omega,qe (fun h2=>?_) (fun h2=>?_)⟩
  ·simp(disch:=omega)only[go_sem,h2,e1]
   rw[h2,Qr]at hx
   refine⟨by omega,qh k [] ⟨by omega,hx⟩ (by show k<k+1;omega) rfl (by simp(disch:=omega)only[go_sem];try omega) (by simp(disch:=omega)only[go_sem])⟩
  ·simp(disch:=omega)only[go_sem,h2]
   refine qj [] [] [.own 1 (qg xs)] [.rf 10000000 0 (k+1)] rfl (by simp(disch:=omega)only[go_sem]) (by simp(disch:=omega)only[go_sem]) (by simp) (by simp) ⟨?_,rfl,rfl⟩
   rw[YE _ h2,←hmx k rfl]at hx
   rw[←hx,List.length_take,Nat.min_eq_left hm];rfl
 ·simp(disch:=omega)only[go_sem,h1]
  refine qj [] [] [.own 1 (qg xs)] [.rf 10000000 0 m] rfl (by simp(disch:=omega)only[go_sem]) (by simp(disch:=omega)only[go_sem]) (by simp) (by simp) ⟨?_,rfl,rfl⟩
  have:m=0:=by omega
  subst this
  rw[←hx];rfl
end Go.Ab
namespace Go.Ab
open Go Go.Proofs
theorem aos{x y:Int}(hx:0≤x∧x<65536)(hy:0≤y∧y<65536):0≤x*y∧x*y≤4294836225:=by
 have h1:=Int.mul_nonneg hx.1 hy.1
 have h2:x*y≤65535*65535:=Int.mul_le_mul (by omega) (by omega) hy.1 (by omega)
 omega
theorem apm(cl:Bool)(A B:List Int)(hA:gd A)(hB:gd B)(lA:A.length≤1000000)(lB:B.length≤1000000):
  Con Tryz.prog 218 cl [.sl A.length (qg A),.sl B.length (qg B)] [] (aqQ (lim (vl A*vl B).toNat)):=by
 refine Con.of_aw Tryz.func218 rfl Tryz.ntmps218 (by simp) (by simp) (by simp) (W.sound ?_)
 show @W Tryz.prog 63 ⟨_⟩ ⟨fun x σ=>@za _ _ _ ⟨_⟩ _ ⟨_⟩ x σ⟩ _ _
 simp(disch:=omega)only[go_sem]
 refine⟨⟨by omega,by omega,by omega⟩,?_⟩
 refine qk (fun x:Nat×List Int=>[(1,.sl B.length (qg B)),(5,.rf 180000000 0 (A.length+B.length)),(17,.sl A.length (qg A)),(18,.v (.int .i64 A.length)),(19,.v (.int .i64 x.1))])
  (fun x=>[(180000000,.own 1 (qg x.2))])
  (fun x=>x.1≤A.length∧x.2.length=A.length+B.length∧gd x.2∧vl x.2=vl (A.take x.1)*vl B∧∀j,x.1+B.length≤j→x.2.getD j 0=0)
  (fun x=>A.length-x.1) (0,List.replicate (A.length+B.length) 0) ⟨by simp,by simp,zz _,by simp[zR,vl],fun j _=>by
   rw[List.getD_eq_getElem?_getD,List.getElem?_replicate];split<;>rfl⟩
  (Le.lst [] _ _ rfl (by simp(disch:=omega)only[go_sem];try omega) (by simp(disch:=omega)only[go_sem,show((A.length:Int)+(B.length:Int)).toNat=A.length+B.length by omega])) ?_
 rintro⟨i,out⟩ ⟨hi,hol,hog,hov,hoz⟩
 dsimp only at hi hol hog hov hoz ⊢
 simp(disch:=omega)only[go_sem]
 refine qe (fun h1=>?_) (fun h1=>?_)
 ·have hx:=qN hA i
  simp(disch:=omega)only[go_sem,h1]
  refine⟨by omega,by omega,?_⟩
  refine qk (fun x:Nat×List Int×Int=>[(1,.sl B.length (qg B)),(5,.rf 180000000 0 (A.length+B.length)),(17,.sl A.length (qg A)),(18,.v (.int .i64 A.length)),(19,.v (.int .i64 i)),(6,.v (.int .i64 i)),
    (7,.v (.int .i64 (A.getD i 0))),(8,.v (.int .i64 x.2.2)),(24,.sl B.length (qg B)),(25,.v (.int .i64 B.length)),(26,.v (.int .i64 x.1))])
   (fun x=>[(180000000,.own 1 (qg x.2.1))])
   (fun x=>x.1≤B.length∧x.2.1.length=A.length+B.length∧gd x.2.1∧(0≤x.2.2∧x.2.2<65536)∧vl x.2.1+65536^(i+x.1)*x.2.2=vl out+65536^i*(A.getD i 0*vl (B.take x.1))∧∀j,i+B.length≤j→x.2.1.getD j 0=0)
   (fun x=>B.length-x.1) (0,out,0) ⟨by simp,hol,hog,by simp,by simp[vl],hoz⟩
   (Le.lst [] _ _ rfl (by simp(disch:=omega)only[go_sem];try omega) (by simp(disch:=omega)only[go_sem])) ?_
  rintro⟨j,o2,cy⟩ ⟨hj,hol2,hog2,hcy,hov2,hoz2⟩
  dsimp only at hj hol2 hog2 hcy hov2 hoz2 ⊢
  simp(disch:=omega)only[go_sem]
  refine qe (fun h2=>?_) (fun h2=>?_)
  ·have hy:=qN hB j
   have ho:=qN hog2 (i+j)
   have hxy:=aos hx hy
   have e1:((i:Int)+(j:Int)).toNat=i+j:=by omega
   simp(disch:=omega)only[go_sem,h2,e1]
   generalize hq:cy+(o2.getD (i+j) 0+A.getD i 0*B.getD j 0)=q
   refine⟨by omega,by omega,by omega,by omega,by omega,by omega,qh (j+1,o2.set (i+j) (q % 65536),q/65536) [] ⟨by show j+1≤_;omega,by simp[hol2],yM hog2 (by omega),by show 0≤q/65536∧q/65536<65536;omega,?_,fun k hk=>?_⟩
    (by show B.length-(j+1)<B.length-j;omega) rfl (by simp(disch:=omega)only[go_sem];try omega) (by simp(disch:=omega)only[go_sem])⟩
   ·show vl (o2.set (i+j) (q % 65536))+65536^(i+(j+1))*(q/65536)=vl out+65536^i*(A.getD i 0*vl (B.take (j+1)))
    rw[QP (by omega),zy (by omega),←Nat.add_assoc,Int.pow_succ]
    have e2:(65536:Int)^(i+j)=65536^i*65536^j:=Int.pow_add _ _ _
    have e3:q % 65536+65536*(q/65536)=q:=Int.emod_add_mul_ediv q 65536
    rw[e2]at hov2 ⊢
    generalize (65536:Int)^i=Pi at*
    generalize (65536:Int)^j=Pj at*
    grind
   ·show(o2.set (i+j) (q % 65536)).getD k 0=0
    rw[List.getD_eq_getElem?_getD,List.getElem?_set_ne (by omega),←List.getD_eq_getElem?_getD]
    exact hoz2 k hk
  ·simp(disch:=omega)only[go_sem,h2]
   have e1:((i:Int)+(B.length:Int)).toNat=i+B.length:=by omega
   have hjB:j=B.length:=by omega
   subst hjB
   rw[List.take_length]at hov2
   simp(disch:=omega)only[go_sem,e1]
   refine⟨by omega,by omega,qh (i+1,o2.set (i+B.length) cy) [] ⟨by show i+1≤_;omega,by simp[hol2],yM hog2 hcy,?_,fun k hk=>?_⟩ (by show A.length-(i+1)<A.length-i;omega) rfl (by simp(disch:=omega)only[go_sem];try omega) (by simp(disch:=omega)only[go_sem])⟩
   ·show vl (o2.set (i+B.length) cy)=vl (A.take (i+1))*vl B
    rw[QP (by omega),hoz2 _ (Nat.le_refl _),zy (by omega)]
    generalize (65536:Int)^i=Pi at*
    grind
   ·show(o2.set (i+B.length) cy).getD k 0=0
    rw[List.getD_eq_getElem?_getD,List.getElem?_set_ne (by show i+B.length≠k;omega),←List.getD_eq_getElem?_getD]
    exact hoz2 k (by omega)
 ·simp(disch:=omega)only[go_sem,h1]
  have hiA:i=A.length:=by omega
  subst hiA
  rw[List.take_length]at hov
  refine zk false [180000000] (jp out (by omega)) (by rw[←hol];simp(disch:=omega)only[go_sem]) (by simp(disch:=omega)only[go_sem]) rfl (zg (z:=1) (cs:=qg out) (by simp(disch:=omega)only[go_sem]) (by simp(disch:=omega)only[go_sem])) (by intro n hn;exact⟨_,List.mem_singleton.2 rfl,by rw[List.mem_singleton.1 hn];rfl⟩) ?_
  rintro r hs bs ⟨rfl,rfl,rfl⟩ _
  refine⟨by simp[qS],?_⟩
  simp(disch:=omega)only[go_sem]
  obtain⟨z,hz⟩:=zP out
  have hc:=je hog
  rw[hov]at hc
  rw[hc]at hz ⊢
  refine qj [(0,180000000)] [.own 1 (qg out)] [] [.rf 0 0 (lim (vl A*vl B).toNat).length] rfl (by simp(disch:=omega)only[go_sem]) (by simp(disch:=omega)only[go_sem]) (by simp) (by intro _;simp[q6,AV.pu,AV.pu.puL,Ob.pu,ze]) (.inr ⟨List.replicate z 0,rfl,by rw[←hz]⟩)
end Go.Ab
namespace Go.Ab
open Go Go.Proofs
theorem apq(cl:Bool)(n:Nat)(hn:n<2^63):Con Tryz.prog 189 cl [.v (.int .i64 n)] [] (aqQ (lim n)):=by
 refine Con.of_aw Tryz.func189 rfl Tryz.ntmps189 (by simp) (by simp) (by simp) (W.sound ?_)
 show @W Tryz.prog 14 ⟨_⟩ ⟨fun x σ=>@za _ _ _ ⟨_⟩ _ ⟨_⟩ x σ⟩ _ _
 simp(disch:=omega)only[go_sem]
 refine qk (fun x:Nat×List Int=>[(0,.v (.int .i64 x.1)),(3,.rf 1 0 x.2.length)]) (fun x=>[(1,.own 1 (qg x.2))]) (fun x=>x.1<2^63∧x.2++lim x.1=lim n) (fun x=>x.1) (n,[]) ⟨hn,rfl⟩
  ((Le.ghost 3 1 1 (by simp(disch:=omega)only[go_sem]) (by simp(disch:=omega)only[go_sem])).trans (Le.lst [] _ _ rfl (by simp(disch:=omega)only[go_sem]) (by simp(disch:=omega)only[go_sem]))) ?_
 rintro⟨k,l⟩ ⟨hk,hl⟩
 dsimp only at hk hl ⊢
 have hlen:l.length≤4:=by
  have h1:=congrArg List.length hl
  have h2:=jw (n:=n) (k:=4) |>.2 (by omega)
  rw[List.length_append]at h1;omega
 simp(disch:=omega)only[go_sem]
 refine qe (fun h1=>?_) (fun h1=>?_)
 ·simp(disch:=omega)only[go_sem,h1]
  have hk0:k≠0:=by omega
  refine⟨by omega,qh (k/65536,l++[(k:Int) % 65536]) [(1,140000000)] ⟨by show k/65536<2^63;omega,?_⟩ (by show k/65536<k;omega) rfl (by simp(disch:=omega)only[go_sem,List.length_append];omega) (by simp(disch:=omega)only[go_sem])⟩
  rw[j7 hk0]at hl
  rw[←hl,List.append_assoc];rfl
 ·simp(disch:=omega)only[go_sem,h1]
  have hk0:k=0:=by omega
  subst hk0
  rw[qm,List.append_nil]at hl
  subst hl
  refine qj [(0,1)] [.own 1 (qg (lim n++[]))] [] [.rf 0 0 (lim n).length] rfl (by simp(disch:=omega)only[go_sem]) (by simp(disch:=omega)only[go_sem]) (by simp) (by intro _;simp[q6,AV.pu,AV.pu.puL,Ob.pu,ze]) (.inr ⟨[],rfl,rfl⟩)
end Go.Ab
namespace Go.Ab
open Go Go.Proofs
theorem yk(k:Nat)(h:k<16):(0:Int)<2^k∧(2:Int)^k≤32768:=by
 have:∀k,k<16→(0:Int)<2^k∧(2:Int)^k≤32768:=by decide
 exact this k h
theorem aor{x:Int}(hx:0≤x∧x<65536){k:Nat}(hk:k<16):0≤x*2^k∧x*2^k≤2147450880:=by
 obtain⟨h1,h2⟩:=yk k hk
 have h3:=Int.mul_nonneg hx.1 (Int.le_of_lt h1)
 have h4:x*2^k≤65535*32768:=Int.mul_le_mul (by omega) h2 (by omega) (by omega)
 omega
theorem Ku(k:Nat):(65536:Int)^(k/16)*2^(k % 16)=2^k:=by
 have e:(65536:Int)=2^16:=by decide
 rw[e,←Int.pow_mul,←Int.pow_add,Nat.div_add_mod]
theorem aSp(cl:Bool)(A:List Int)(k:Nat)(hA:gd A)(lA:A.length≤1000000)(hk:k≤100000000):
  Con Tryz.prog 195 cl [.sl A.length (qg A),.v (.int .i64 k)] [] (aqQ (lim (vl A*2^k).toNat)):=by
 refine Con.of_aw Tryz.func195 rfl Tryz.ntmps195 (by simp) (by simp) (by simp) (W.sound ?_)
 show @W Tryz.prog 46 ⟨_⟩ ⟨fun x σ=>@za _ _ _ ⟨_⟩ _ ⟨_⟩ x σ⟩ _ _
 simp(disch:=omega)only[go_sem]
 refine qe (fun h0=>?_) (fun h0=>?_)
 ·simp(disch:=omega)only[go_sem,h0]
  have:A=[]:=List.length_eq_zero_iff.1 (by omega)
  subst this
  refine qj [] [] [] [.v (.slice none 0 0)] rfl (by simp(disch:=omega)only[go_sem]) (by simp(disch:=omega)only[go_sem]) (by simp) (by intro _;simp[q6,AV.pu,AV.pu.puL,Ob.pu,ze]) (.inl ⟨by simp[vl,qm],rfl,rfl⟩)
 ·simp(disch:=omega)only[go_sem,h0]
  refine⟨by omega,?_⟩
  have e16:((k:Int)/16).toNat=k/16:=by omega
  refine qk (fun x:Nat×List Int×Int=>[(1,.v (.int .i64 k)),(5,.rf 1 0 x.2.1.length),(6,.v (.int .i64 x.2.2)),(21,.sl A.length (qg A)),(22,.v (.int .i64 A.length)),(23,.v (.int .i64 x.1))])
   (fun x=>[(1,.own 1 (qg x.2.1))])
   (fun x=>x.1≤A.length∧x.2.1.length=k/16+x.1∧gd x.2.1∧(0≤x.2.2∧x.2.2<65536)∧vl x.2.1+65536^(k/16+x.1)*x.2.2=65536^(k/16)*2^(k % 16)*vl (A.take x.1))
   (fun x=>A.length-x.1) (0,List.replicate (k/16) 0,0) ⟨by simp,by simp,zz _,by simp,by simp[vl,zR]⟩
   (Le.lst [(1,220000000)] _ _ rfl (by simp(disch:=omega)only[go_sem,List.length_replicate,e16]) (by simp(disch:=omega)only[go_sem,e16])) ?_
  rintro⟨i,out,cy⟩ ⟨hi,hol,hog,hcy,hov⟩
  dsimp only at hi hol hog hcy hov ⊢
  simp(disch:=omega)only[go_sem]
  refine qe (fun h1=>?_) (fun h1=>?_)
  ·have hx:=qN hA i
   have hxs:=aor hx (show k % 16<16 by omega)
   have em:min ((k:Int) % 16).toNat 64=k % 16:=by omega
   simp(disch:=omega)only[go_sem,h1,em]
   generalize hq:cy+A.getD i 0*2^(k % 16)=q
   refine⟨by omega,by omega,by omega,by omega,qh (i+1,out++[q % 65536],q/65536) [(1,390000000)] ⟨by show i+1≤_;omega,by simp[hol];omega,qO.2 ⟨hog,zZ.2 (by omega)⟩,by show 0≤q/65536∧q/65536<65536;omega,?_⟩ (by show A.length-(i+1)<A.length-i;omega) rfl (by simp(disch:=omega)only[go_sem,List.length_append];try omega) (by simp(disch:=omega)only[go_sem])⟩
   show vl (out++[q % 65536])+65536^(k/16+(i+1))*(q/65536)=65536^(k/16)*2^(k % 16)*vl (A.take (i+1))
   rw[jt,qZ,hol,←Nat.add_assoc,Int.pow_succ]
   have e3:q % 65536+65536*(q/65536)=q:=Int.emod_add_mul_ediv q 65536
   rw[Int.pow_add]at hov ⊢
   generalize (65536:Int)^i=Pi at*
   generalize (65536:Int)^(k/16)=Pk at*
   generalize (2:Int)^(k % 16)=Pm at*
   grind
  ·simp(disch:=omega)only[go_sem,h1]
   have hiA:i=A.length:=by omega
   subst hiA
   rw[List.take_length,Ku]at hov
   have hov2:vl (out++[cy])=vl A*2^k:=by rw[jt,hol,hov];grind
   have hog2:gd (out++[cy]):=qO.2 ⟨hog,zZ.2 hcy⟩
   refine⟨by omega,?_⟩
   have hl2:out.length+1=(out++[cy]).length:=by simp
   rw[hl2]
   refine zk false [460000000] (jp (out++[cy]) (by simp;omega)) (by simp(disch:=omega)only[go_sem]) (by simp(disch:=omega)only[go_sem]) rfl (zg (z:=1) (cs:=qg (out++[cy])) (by simp(disch:=omega)only[go_sem]) (by simp(disch:=omega)only[go_sem])) (by intro n hn;exact⟨_,List.mem_singleton.2 rfl,by rw[List.mem_singleton.1 hn];rfl⟩) ?_
   rintro r hs bs ⟨rfl,rfl,rfl⟩ _
   refine⟨by simp[qS],?_⟩
   simp(disch:=omega)only[go_sem]
   obtain⟨z,hz⟩:=zP (out++[cy])
   have hc:=je hog2
   rw[hov2]at hc
   rw[hc]at hz ⊢
   refine qj [(0,460000000)] [.own 1 (qg (out++[cy]))] [] [.rf 0 0 (lim (vl A*2^k).toNat).length] rfl (by simp(disch:=omega)only[go_sem]) (by simp(disch:=omega)only[go_sem]) (by simp) (by intro _;simp[q6,AV.pu,AV.pu.puL,Ob.pu,ze]) (.inr ⟨List.replicate z 0,rfl,by rw[←hz]⟩)
end Go.Ab
namespace Go.Ab
open Go Go.Proofs
theorem aAW(V P:Int)(hP:0<P):V % (P*65536)=V % P+P*(V/P % 65536):=by
 rw[Int.emod_def,Int.emod_def,Int.emod_def,←Int.ediv_ediv_of_nonneg (Int.le_of_lt hP)]
 grind
theorem aAs{s:Nat}(hs:s<16):(65536:Int)=2^s*2^(16-s):=by
 rw[←Int.pow_add,show s+(16-s)=16 by omega];decide
theorem aiN{D:List Int}(hD:gd D){i s:Nat}(hi:i<D.length)(hs:s<16):
  (vl D/2^s)/65536^i % 65536=(D.getD i 0+D.getD (i+1) 0*65536)/2^s % 65536:=by
 have h2:=(yk s hs).1
 rw[Int.ediv_ediv_of_nonneg (Int.le_of_lt h2),Int.mul_comm,←Int.ediv_ediv_of_nonneg (Int.le_of_lt (Int.pow_pos (by omega))),ad0 hD (by omega),zF hi]
 have h3:vl (D.drop (i+1))=D.getD (i+1) 0+65536*vl (D.drop (i+2)):=by
  rcases Nat.lt_or_ge (i+1) D.length with h|h
  ·exact zF h
  ·rw[List.drop_of_length_le h,List.drop_of_length_le (by omega),List.getD_eq_getElem?_getD,List.getElem?_eq_none h];simp[vl]
 rw[h3]
 have e:D.getD i 0+65536*(D.getD (i+1) 0+65536*vl (D.drop (i+2)))=(D.getD i 0+D.getD (i+1) 0*65536)+2^s*(65536*(2^(16-s)*vl (D.drop (i+2)))):=by
  have:=aAs hs
  generalize (2:Int)^s=a at*
  generalize (2:Int)^(16-s)=b at*
  grind
 rw[e,Int.add_mul_ediv_left _ _ (by omega),Int.add_mul_emod_self_left]
theorem an8{a b:Nat}(h:a≤b):(65536:Int)^a≤65536^b:=by
 obtain⟨d,rfl⟩:=Nat.exists_eq_add_of_le h
 have h1:(0:Int)<65536^a:=Int.pow_pos (by omega)
 have h2:(0:Int)<65536^d:=Int.pow_pos (by omega)
 have h3:=Int.mul_le_mul_of_nonneg_left (show(1:Int)≤65536^d by omega) (Int.le_of_lt h1)
 rw[Int.mul_one,←Int.pow_add]at h3
 exact h3
theorem aCe(cl:Bool)(A:List Int)(k:Nat)(hA:gd A)(lA:A.length≤1000000)(hk:k≤100000000):
  Con Tryz.prog 216 cl [.sl A.length (qg A),.v (.int .i64 k)] [] (aqQ (lim (vl A/2^k).toNat)):=by
 refine Con.of_aw Tryz.func216 rfl Tryz.ntmps216 (by simp) (by simp) (by simp) (W.sound ?_)
 show @W Tryz.prog 52 ⟨_⟩ ⟨fun x σ=>@za _ _ _ ⟨_⟩ _ ⟨_⟩ x σ⟩ _ _
 have hvk:vl A/2^k=vl A/65536^(k/16)/2^(k % 16):=by
  rw[Int.ediv_ediv_of_nonneg (Int.le_of_lt (Int.pow_pos (by omega))),Ku]
 simp(disch:=omega)only[go_sem]
 refine qe (fun h0=>?_) (fun h0=>?_)
 ·simp(disch:=omega)only[go_sem,h0]
  have hz:vl A/2^k=0:=by
   rw[hvk,Int.ediv_eq_zero_of_lt (qM hA)]
   ·simp
   ·refine Int.lt_of_lt_of_le (yG hA) ?_
    exact an8 (by omega)
  rw[hz]
  refine qj [] [] [] [.v (.slice none 0 0)] rfl (by simp(disch:=omega)only[go_sem]) (by simp(disch:=omega)only[go_sem]) (by simp) (by intro _;simp[q6,AV.pu,AV.pu.puL,Ob.pu,ze]) (.inl ⟨by simp[qm],rfl,rfl⟩)
 ·have e16:((k:Int)/16).toNat=k/16:=by omega
  have e17:((A.length:Int)-(k:Int)/16).toNat=(A.drop (k/16)).length:=by simp;omega
  have e18:(A.drop (k/16)).take (A.drop (k/16)).length=A.drop (k/16):=List.take_length
  have hvD:=ad0 hA (i:=k/16) (by omega)
  have hlD:(A.drop (k/16)).length≤1000000:=by simp;omega
  have hD:=jj hA (k/16)
  simp(disch:=omega)only[go_sem,h0,e16,e17,e18]
  generalize A.drop (k/16)=D at*
  refine⟨by omega,by omega,?_⟩
  refine qk (fun x:Nat×List Int=>[(1,.v (.int .i64 k)),(5,.sl D.length (qg D)),(6,.rf 1 0 x.2.length),(21,.sl D.length (qg D)),(22,.v (.int .i64 D.length)),(23,.v (.int .i64 x.1))])
   (fun x=>[(1,.own 1 (qg x.2))])
   (fun x=>x.1≤D.length∧x.2.length=x.1∧gd x.2∧vl x.2=vl D/2^(k % 16) % 65536^x.1)
   (fun x=>D.length-x.1) (0,[]) ⟨by simp,rfl,ZQ,by simp[vl]⟩
   (Le.lst [(1,220000000)] _ _ rfl (by simp(disch:=omega)only[go_sem]) (by simp(disch:=omega)only[go_sem])) ?_
  rintro⟨i,out⟩ ⟨hi,hol,hog,hov⟩
  dsimp only at hi hol hog hov ⊢
  simp(disch:=omega)only[go_sem]
  refine qe (fun h1=>?_) (fun h1=>?_)
  ·have hx:=qN hD i
   have hy:=qN hD (i+1)
   have em:min ((k:Int) % 16).toNat 64=k % 16:=by omega
   have hm:=yk (k % 16) (by omega)
   have efd:∀x:Int,x.fdiv (2^(k % 16))=x/2^(k % 16):=fun x=>Int.fdiv_eq_ediv_of_nonneg _ (Int.le_of_lt hm.1)
   have hdig:=aiN hD (i:=i) (s:=k % 16) (by omega) (by omega)
   have hnn:∀x:Int,0≤x→0≤x/2^(k % 16):=fun x hx=>Int.ediv_nonneg hx (Int.le_of_lt hm.1)
   have ei:((i:Int)+1).toNat=i+1:=by omega
   have hstep:∀z:Int,z=(D.getD i 0+D.getD (i+1) 0*65536)/2^(k % 16) % 65536→vl (out++[z])=vl D/2^(k % 16) % 65536^(i+1):=by
    intro z hz
    rw[jt,hov,hol,Int.pow_succ,aAW _ _ (Int.pow_pos (by omega)),hdig,hz]
   simp(disch:=omega)only[go_sem,h1]
   refine⟨by omega,by omega,qe (fun h2=>?_) (fun h2=>?_)⟩
   ·have hn1:=hnn (D.getD i 0+D.getD (i+1) 0*65536) (by omega)
    simp(disch:=omega)only[go_sem,h2,em,efd,ei]
    refine⟨by omega,by omega,by omega,by omega,qh (i+1,out++[(D.getD i 0+D.getD (i+1) 0*65536)/2^(k % 16) % 65536]) [(1,500000000)] ⟨by show i+1≤_;omega,by simp[hol],qO.2 ⟨hog,zZ.2 (by omega)⟩,hstep _ rfl⟩ (by show D.length-(i+1)<D.length-i;omega) rfl (by simp(disch:=omega)only[go_sem,List.length_append];try omega) (by simp(disch:=omega)only[go_sem])⟩
   ·have hn1:=hnn (D.getD i 0) (by omega)
    simp(disch:=omega)only[go_sem,h2,em,efd]
    have hy0:D.getD (i+1) 0=0:=by rw[List.getD_eq_getElem?_getD,List.getElem?_eq_none (by omega)];rfl
    refine⟨by omega,by omega,qh (i+1,out++[D.getD i 0/2^(k % 16) % 65536]) [(1,500000000)] ⟨by show i+1≤_;omega,by simp[hol],qO.2 ⟨hog,zZ.2 (by omega)⟩,hstep _ (by rw[hy0];simp)⟩ (by show D.length-(i+1)<D.length-i;omega) rfl (by simp(disch:=omega)only[go_sem,List.length_append];try omega) (by simp(disch:=omega)only[go_sem])⟩
  ·simp(disch:=omega)only[go_sem,h1]
   have hiD:i=D.length:=by omega
   subst hiD
   have hV:vl out=vl A/2^k:=by
    rw[hov,hvk,hvD]
    refine Int.emod_eq_of_lt (Int.ediv_nonneg (qM hD) (Int.le_of_lt (yk (k % 16) (by omega)).1)) ?_
    exact Int.lt_of_le_of_lt (Int.ediv_le_self _ (qM hD)) (yG hD)
   refine zk false [1] (jp out (by omega)) (by simp(disch:=omega)only[go_sem]) (by simp(disch:=omega)only[go_sem]) rfl (zg (z:=1) (cs:=qg out) (by simp(disch:=omega)only[go_sem]) (by simp(disch:=omega)only[go_sem])) (by intro n hn;exact⟨_,List.mem_singleton.2 rfl,by rw[List.mem_singleton.1 hn];rfl⟩) ?_
   rintro r hs bs ⟨rfl,rfl,rfl⟩ _
   refine⟨by simp[qS],?_⟩
   simp(disch:=omega)only[go_sem]
   obtain⟨z,hz⟩:=zP out
   have hc:=je hog
   rw[hV]at hc
   rw[hc]at hz ⊢
   refine qj [(0,1)] [.own 1 (qg out)] [] [.rf 0 0 (lim (vl A/2^k).toNat).length] rfl (by simp(disch:=omega)only[go_sem]) (by simp(disch:=omega)only[go_sem]) (by simp) (by intro _;simp[q6,AV.pu,AV.pu.puL,Ob.pu,ze]) (.inr ⟨List.replicate z 0,rfl,by rw[←hz]⟩)
end Go.Ab
namespace Go.Ab
open Go Go.Proofs
theorem drop_set{l:List Int}{i:Nat}(h:i<l.length)(z:Int):(l.set i z).drop i=z::l.drop (i+1):=by
 rw[List.drop_eq_getElem_cons (by simpa using h)]
 simp[List.drop_set]
theorem aCf(cl:Bool)(A:List Int)(d:Nat)(hA:gd A)(lA:A.length≤1000000)(hd:0<d)(hd2:d<65536):
  Con Tryz.prog 295 cl [.sl A.length (qg A),.v (.int .i64 d)] [] (fun r hs bs=>∃zs,r=.tu [.rf 0 0 (lim (vl A/d).toNat).length,.v (.int .i64 (vl A % d))]∧hs=[.own 1 (qg (lim (vl A/d).toNat++zs))]):=by
 refine Con.of_aw Tryz.func295 rfl Tryz.ntmps295 (by simp) (by simp) (by simp) (W.sound ?_)
 show @W Tryz.prog 38 ⟨_⟩ ⟨fun x σ=>@za _ _ _ ⟨_⟩ _ ⟨_⟩ x σ⟩ _ _
 simp(disch:=omega)only[go_sem]
 refine⟨by omega,?_⟩
 refine qk (fun x:Nat×List Int×Int=>[(0,.sl A.length (qg A)),(1,.v (.int .i64 d)),(6,.rf 130000000 0 A.length),(7,.v (.int .i64 x.2.2)),(8,.v (.int .i64 ((x.1:Int)-1)))])
  (fun x=>[(130000000,.own 1 (qg x.2.1))])
  (fun x=>x.1≤A.length∧x.2.1.length=A.length∧gd x.2.1∧x.2.2=vl (A.drop x.1) % d∧vl (x.2.1.drop x.1)=vl (A.drop x.1)/d)
  (fun x=>x.1) (A.length,List.replicate A.length 0,0) ⟨by simp,by simp,zz _,by simp[vl],by simp[vl]⟩
  (Le.lst [] _ _ rfl (by simp(disch:=omega)only[go_sem];try omega) (by simp(disch:=omega)only[go_sem])) ?_
 rintro⟨m,out,rest⟩ ⟨hm,hol,hog,hr,hov⟩
 dsimp only at hm hol hog hr hov ⊢
 simp(disch:=omega)only[go_sem]
 refine qe (fun h1=>?_) (fun h1=>?_)
 ·obtain⟨i,rfl⟩:∃i,m=i+1:=⟨m-1,by omega⟩
  have e1:((i+1:Nat):Int)-1=(i:Nat):=by omega
  have hx:=qN hA i
  have hr2:0≤rest∧rest<d:=by rw[hr];exact⟨Int.emod_nonneg _ (by omega),Int.emod_lt_of_pos _ (by omega)⟩
  generalize hq:rest*65536+A.getD i 0=q
  have hq0:0≤q:=by omega
  have hqd:0≤q/d∧q/d<65536:=⟨Int.ediv_nonneg hq0 (by omega),Int.ediv_lt_of_lt_mul (by omega) (by omega)⟩
  have hqm:0≤q % d∧q % d<d:=⟨Int.emod_nonneg _ (by omega),Int.emod_lt_of_pos _ (by omega)⟩
  simp(disch:=omega)only[go_sem,h1,e1,hq]
  refine⟨by omega,by omega,by omega,by omega,by omega,by omega,qh (i,out.set i (q/d),q % d) [] ⟨by show i≤_;omega,by simp[hol],yM hog hqd,?_,?_⟩ (by show i<i+1;omega) rfl (by simp(disch:=omega)only[go_sem]) (by simp(disch:=omega)only[go_sem])⟩
  ·show q % d=vl (A.drop i) % d
   rw[zF (l:=A) (i:=i) (by omega),←hq,hr]
   have h3:=Int.emod_add_mul_ediv (vl (A.drop (i+1))) d
   rw[show A.getD i 0+65536*vl (A.drop (i+1))=vl (A.drop (i+1)) % d*65536+A.getD i 0+d*(65536*(vl (A.drop (i+1))/d)) by grind,Int.add_mul_emod_self_left]
  ·show vl ((out.set i (q/d)).drop i)=vl (A.drop i)/d
   rw[drop_set (by omega),vl,hov,zF (l:=A) (i:=i) (by omega),←hq,hr]
   have h3:=Int.emod_add_mul_ediv (vl (A.drop (i+1))) d
   rw[show A.getD i 0+65536*vl (A.drop (i+1))=vl (A.drop (i+1)) % d*65536+A.getD i 0+d*(65536*(vl (A.drop (i+1))/d)) by grind,Int.add_mul_ediv_left _ _ (by omega)]
 ·simp(disch:=omega)only[go_sem,h1]
  have:m=0:=by omega
  subst this
  rw[List.drop_zero,List.drop_zero]at hov
  rw[List.drop_zero]at hr
  rw[←hol]
  refine zk false [130000000] (jp out (by omega)) (by simp(disch:=omega)only[go_sem]) (by simp(disch:=omega)only[go_sem]) rfl (zg (z:=1) (cs:=qg out) (by simp(disch:=omega)only[go_sem]) (by simp(disch:=omega)only[go_sem])) (by intro n hn;exact⟨_,List.mem_singleton.2 rfl,by rw[List.mem_singleton.1 hn];rfl⟩) ?_
  rintro r hs bs ⟨rfl,rfl,rfl⟩ _
  refine⟨by simp[qS],?_⟩
  simp(disch:=omega)only[go_sem]
  obtain⟨z,hz⟩:=zP out
  have hc:=je hog
  rw[hov]at hc
  rw[hc]at hz ⊢
  rw[hr]
  refine qj [(0,130000000)] [.own 1 (qg out)] [] [.rf 0 0 (lim (vl A/d).toNat).length,.v (.int .i64 (vl A % d))] rfl (by simp(disch:=omega)only[go_sem]) (by simp(disch:=omega)only[go_sem]) (by simp) (by intro _;simp[q6,AV.pu,AV.pu.puL,Ob.pu,ze]) ⟨List.replicate z 0,rfl,by rw[←hz]⟩
end Go.Ab
namespace Go.Ab
open Go Go.Proofs
theorem aB4(cl:Bool)(A B:List Int)(hA:gd A)(hB:gd B)(lA:A.length≤2000000)(lB:B.length≤2000000):
  Con Tryz.prog 219 cl [.sl A.length (qg A),.sl B.length (qg B)] [] (aqQ (lim (vl A+vl B).toNat)):=by
 refine Con.of_aw Tryz.func219 rfl Tryz.ntmps219 (by simp) (by simp) (by simp) (W.sound ?_)
 show @W Tryz.prog 53 ⟨_⟩ ⟨fun x σ=>@za _ _ _ ⟨_⟩ _ ⟨_⟩ x σ⟩ _ _
 simp(disch:=omega)only[go_sem]
 refine qe (fun h0=>?_) (fun h0=>?_)
 all_goals simp(disch:=omega)only[go_sem,h0]
 ·revert A B
  intro Y X hY hX lY lX h0'
  have h00:Y.length≤X.length:=by omega
  have hcm:vl Y+vl X=vl X+vl Y:=Int.add_comm _ _
  refine⟨by omega,?_⟩
  refine qk (fun x:Nat×List Int×Int=>[(1,.sl Y.length (qg Y)),(5,.rf 1 0 x.2.1.length),(6,.v (.int .i64 x.2.2)),(20,.sl X.length (qg X)),(21,.v (.int .i64 X.length)),(22,.v (.int .i64 x.1))])
   (fun x=>[(1,.own 1 (qg x.2.1))])
   (fun x=>x.1≤X.length∧x.2.1.length=x.1∧gd x.2.1∧(0≤x.2.2∧x.2.2≤1)∧vl x.2.1+65536^x.1*x.2.2=vl (X.take x.1)+vl (Y.take x.1))
   (fun x=>X.length-x.1) (0,[],0) ⟨by simp,rfl,ZQ,by simp,by simp[vl]⟩
   (Le.lst [(1,210000000)] _ _ rfl (by simp(disch:=omega)only[go_sem]) (by simp(disch:=omega)only[go_sem])) ?_
  rintro⟨i,out,cy⟩ ⟨hi,hol,hog,hcy,hov⟩
  dsimp only at hi hol hog hcy hov ⊢
  simp(disch:=omega)only[go_sem]
  refine qe (fun h1=>?_) (fun h1=>?_)
  ·have hx:=qN hX i
   have hy:=qN hY i
   have hstep:∀q:Int,q=cy+X.getD i 0+Y.getD i 0→vl (out++[q % 65536])+65536^(i+1)*(q/65536)=vl (X.take (i+1))+vl (Y.take (i+1)):=by
    intro q hq
    rw[jt,qZ,qZ,hol,Int.pow_succ]
    have e3:q % 65536+65536*(q/65536)=q:=Int.emod_add_mul_ediv q 65536
    generalize (65536:Int)^i=Pi at*
    grind
   have hyz:¬i<Y.length→Y.getD i 0=0:=fun h=>by rw[List.getD_eq_getElem?_getD,List.getElem?_eq_none (by omega)];rfl
   simp(disch:=omega)only[go_sem,h1]
   refine⟨by omega,by omega,qe (fun h2=>?_) (fun h2=>?_)⟩
   ·simp(disch:=omega)only[go_sem,h2]
    generalize hq:cy+X.getD i 0+Y.getD i 0=q
    refine⟨by omega,by omega,by omega,qh (i+1,out++[q % 65536],q/65536) [(1,460000000)] ⟨by show i+1≤_;omega,by simp[hol],qO.2 ⟨hog,zZ.2 (by omega)⟩,by show 0≤q/65536∧q/65536≤1;omega,hstep q hq.symm⟩ (by show X.length-(i+1)<X.length-i;omega) rfl (by simp(disch:=omega)only[go_sem,List.length_append];try omega) (by simp(disch:=omega)only[go_sem])⟩
   ·simp(disch:=omega)only[go_sem,h2]
    have hy0:=hyz (by omega)
    generalize hq:cy+X.getD i 0=q
    refine⟨by omega,qh (i+1,out++[q % 65536],q/65536) [(1,460000000)] ⟨by show i+1≤_;omega,by simp[hol],qO.2 ⟨hog,zZ.2 (by omega)⟩,by show 0≤q/65536∧q/65536≤1;omega,hstep q (by omega)⟩ (by show X.length-(i+1)<X.length-i;omega) rfl (by simp(disch:=omega)only[go_sem,List.length_append];try omega) (by simp(disch:=omega)only[go_sem])⟩
  ·simp(disch:=omega)only[go_sem,h1]
   have hiA:i=X.length:=by omega
   subst hiA
   rw[List.take_length,List.take_of_length_le h00]at hov
   have hov2:vl (out++[cy])=vl X+vl Y:=by rw[jt,hol];exact hov
   have hog2:gd (out++[cy]):=qO.2 ⟨hog,zZ.2 (by omega)⟩
   refine⟨by omega,?_⟩
   have hl2:out.length+1=(out++[cy]).length:=by simp
   rw[hl2]
   refine zk false [530000000] (jp (out++[cy]) (by simp;omega)) (by simp(disch:=omega)only[go_sem]) (by simp(disch:=omega)only[go_sem]) rfl (zg (z:=1) (cs:=qg (out++[cy])) (by simp(disch:=omega)only[go_sem]) (by simp(disch:=omega)only[go_sem])) (by intro n hn;exact⟨_,List.mem_singleton.2 rfl,by rw[List.mem_singleton.1 hn];rfl⟩) ?_
   rintro r hs bs ⟨rfl,rfl,rfl⟩ _
   refine⟨by simp[qS],?_⟩
   simp(disch:=omega)only[go_sem]
   obtain⟨z,hz⟩:=zP (out++[cy])
   have hc:=je hog2
   rw[hov2]at hc
   rw[hc]at hz ⊢
   refine qj [(0,530000000)] [.own 1 (qg (out++[cy]))] [] [.rf 0 0 (lim (vl X+vl Y).toNat).length] rfl (by simp(disch:=omega)only[go_sem]) (by simp(disch:=omega)only[go_sem]) (by simp) (by intro _;simp[q6,AV.pu,AV.pu.puL,Ob.pu,ze]) (.inr ⟨List.replicate z 0,by rw[hcm];rfl,by rw[hcm,←hz]⟩)
 ·revert A B
  intro X Y hX hY lX lY h0'
  have h00:Y.length≤X.length:=by omega
  have hcm:vl X+vl Y=vl X+vl Y:=rfl
  refine⟨by omega,?_⟩
  refine qk (fun x:Nat×List Int×Int=>[(1,.sl Y.length (qg Y)),(5,.rf 1 0 x.2.1.length),(6,.v (.int .i64 x.2.2)),(20,.sl X.length (qg X)),(21,.v (.int .i64 X.length)),(22,.v (.int .i64 x.1))])
   (fun x=>[(1,.own 1 (qg x.2.1))])
   (fun x=>x.1≤X.length∧x.2.1.length=x.1∧gd x.2.1∧(0≤x.2.2∧x.2.2≤1)∧vl x.2.1+65536^x.1*x.2.2=vl (X.take x.1)+vl (Y.take x.1))
   (fun x=>X.length-x.1) (0,[],0) ⟨by simp,rfl,ZQ,by simp,by simp[vl]⟩
   (Le.lst [(1,210000000)] _ _ rfl (by simp(disch:=omega)only[go_sem]) (by simp(disch:=omega)only[go_sem])) ?_
  rintro⟨i,out,cy⟩ ⟨hi,hol,hog,hcy,hov⟩
  dsimp only at hi hol hog hcy hov ⊢
  simp(disch:=omega)only[go_sem]
  refine qe (fun h1=>?_) (fun h1=>?_)
  ·have hx:=qN hX i
   have hy:=qN hY i
   have hstep:∀q:Int,q=cy+X.getD i 0+Y.getD i 0→vl (out++[q % 65536])+65536^(i+1)*(q/65536)=vl (X.take (i+1))+vl (Y.take (i+1)):=by
    intro q hq
    rw[jt,qZ,qZ,hol,Int.pow_succ]
    have e3:q % 65536+65536*(q/65536)=q:=Int.emod_add_mul_ediv q 65536
    generalize (65536:Int)^i=Pi at*
    grind
   have hyz:¬i<Y.length→Y.getD i 0=0:=fun h=>by rw[List.getD_eq_getElem?_getD,List.getElem?_eq_none (by omega)];rfl
   simp(disch:=omega)only[go_sem,h1]
   refine⟨by omega,by omega,qe (fun h2=>?_) (fun h2=>?_)⟩
   ·simp(disch:=omega)only[go_sem,h2]
    generalize hq:cy+X.getD i 0+Y.getD i 0=q
    refine⟨by omega,by omega,by omega,qh (i+1,out++[q % 65536],q/65536) [(1,460000000)] ⟨by show i+1≤_;omega,by simp[hol],qO.2 ⟨hog,zZ.2 (by omega)⟩,by show 0≤q/65536∧q/65536≤1;omega,hstep q hq.symm⟩ (by show X.length-(i+1)<X.length-i;omega) rfl (by simp(disch:=omega)only[go_sem,List.length_append];try omega) (by simp(disch:=omega)only[go_sem])⟩
   ·simp(disch:=omega)only[go_sem,h2]
    have hy0:=hyz (by omega)
    generalize hq:cy+X.getD i 0=q
    refine⟨by omega,qh (i+1,out++[q % 65536],q/65536) [(1,460000000)] ⟨by show i+1≤_;omega,by simp[hol],qO.2 ⟨hog,zZ.2 (by omega)⟩,by show 0≤q/65536∧q/65536≤1;omega,hstep q (by omega)⟩ (by show X.length-(i+1)<X.length-i;omega) rfl (by simp(disch:=omega)only[go_sem,List.length_append];try omega) (by simp(disch:=omega)only[go_sem])⟩
  ·simp(disch:=omega)only[go_sem,h1]
   have hiA:i=X.length:=by omega
   subst hiA
   rw[List.take_length,List.take_of_length_le h00]at hov
   have hov2:vl (out++[cy])=vl X+vl Y:=by rw[jt,hol];exact hov
   have hog2:gd (out++[cy]):=qO.2 ⟨hog,zZ.2 (by omega)⟩
   refine⟨by omega,?_⟩
   have hl2:out.length+1=(out++[cy]).length:=by simp
   rw[hl2]
   refine zk false [530000000] (jp (out++[cy]) (by simp;omega)) (by simp(disch:=omega)only[go_sem]) (by simp(disch:=omega)only[go_sem]) rfl (zg (z:=1) (cs:=qg (out++[cy])) (by simp(disch:=omega)only[go_sem]) (by simp(disch:=omega)only[go_sem])) (by intro n hn;exact⟨_,List.mem_singleton.2 rfl,by rw[List.mem_singleton.1 hn];rfl⟩) ?_
   rintro r hs bs ⟨rfl,rfl,rfl⟩ _
   refine⟨by simp[qS],?_⟩
   simp(disch:=omega)only[go_sem]
   obtain⟨z,hz⟩:=zP (out++[cy])
   have hc:=je hog2
   rw[hov2]at hc
   rw[hc]at hz ⊢
   refine qj [(0,530000000)] [.own 1 (qg (out++[cy]))] [] [.rf 0 0 (lim (vl X+vl Y).toNat).length] rfl (by simp(disch:=omega)only[go_sem]) (by simp(disch:=omega)only[go_sem]) (by simp) (by intro _;simp[q6,AV.pu,AV.pu.puL,Ob.pu,ze]) (.inr ⟨List.replicate z 0,by rw[hcm];rfl,by rw[hcm,←hz]⟩)
end Go.Ab
namespace Go.Ab
open Go Go.Proofs
theorem K9(cl:Bool)(xs:List Int)(hl:xs.length≤2^39):Con Tryz.prog 270 cl [.sl xs.length (qg xs)] [] (aqQ xs):=by
 refine Con.of_aw Tryz.func270 rfl Tryz.ntmps270 (by simp) (by simp) (by simp) (W.sound ?_)
 show @W Tryz.prog 8 ⟨_⟩ ⟨fun x σ=>@za _ _ _ ⟨_⟩ _ ⟨_⟩ x σ⟩ _ _
 simp(disch:=omega)only[go_sem]
 refine⟨fun h0=>?_,?_⟩
 ·have:xs=[]:=by cases xs with|nil=>rfl|cons a r=>cases h0
  subst this
  refine qj [] [] [] [.v (.slice none 0 0)] rfl (by simp(disch:=omega)only[go_sem]) (by simp(disch:=omega)only[go_sem]) (by simp) (by intro _;simp[q6,AV.pu]) (.inl ⟨rfl,rfl,rfl⟩)
 ·refine⟨by omega,?_⟩
  refine qj [(0,90000000)] [.own 1 (qg xs)] [] [.rf 0 0 xs.length] rfl (by simp(disch:=omega)only[go_sem]) (by simp(disch:=omega)only[go_sem]) (by simp) (by intro _;simp[q6,AV.pu,Ob.pu,ze]) (.inr ⟨[],rfl,by rw[List.append_nil]⟩)
end Go.Ab
namespace Go.Ab
open Go Go.Proofs
theorem K3(x:Int):Con Tryz.prog 263 true [.v (.int .i64 x)] [] (isA (.v (.bool false))):=by
 refine Con.of_w (rs:=[.tmp 2]) Tryz.func263 rfl Tryz.ntmps263 rfl ?_
 simp(disch:=omega)only[go_sem]
 exact qq
theorem adH(x y:Int):Con Tryz.prog 209 true [.v (.int .i64 x),.v (.int .i64 y)] [] (isA (.v (.int .i64 (zE x y)))):=by
 refine Con.of_w (rs:=[.tmp 4]) Tryz.func209 rfl Tryz.ntmps209 rfl ?_
 simp(disch:=omega)only[go_sem]
 refine qb (K3 x) ?_
 simp(disch:=omega)only[go_sem]
 refine qb (K3 y) ?_
 simp(disch:=omega)only[go_sem]
 refine qe (fun h1=>?_) (fun h1=>?_)
 ·simp(disch:=omega)only[go_sem,h1]
  rw[show zE x y= -1 by simp[zE,h1]]
  exact qq
 ·simp(disch:=omega)only[go_sem,h1]
  refine qe (fun h2=>?_) (fun h2=>?_)
  ·simp(disch:=omega)only[go_sem,h2]
   rw[show zE x y=1 by simp[zE,h1,h2]]
   exact qq
  ·simp(disch:=omega)only[go_sem,h2]
   rw[show zE x y=0 by simp[zE,h1,h2]]
   exact qq
theorem jb(a b:Nat)(la:(lim a).length≤2^40)(lb:(lim b).length≤2^40):
  Con Tryz.prog 217 true [.sl (lim (a)).length (qg (lim (a))),.sl (lim (b)).length (qg (lim (b)))] [] (isA (.v (.int .i64 (zE a b)))):=by
 refine Con.of_w (rs:=[.tmp 4]) Tryz.func217 rfl Tryz.ntmps217 rfl ?_
 simp(disch:=omega)only[go_sem]
 refine q7 (fun h1=>?_) (fun h1=>?_)
 ·simp(disch:=omega)only[go_sem,h1]
  refine qb (adH (lim a).length (lim b).length) ?_
  simp(disch:=omega)only[go_sem]
  have:zE ((lim a).length:Int) ((lim b).length:Int)=zE a b:=by
   unfold zE
   rcases(by omega:(lim a).length<(lim b).length∨(lim b).length<(lim a).length)with h|h
   ·have:=Qh h
    rw[if_pos (by omega),if_pos (by omega)]
   ·have:=Qh h
    rw[if_neg (by omega),if_pos (by omega),if_neg (by omega),if_pos (by omega)]
  rw[this]
  exact qq
 ·simp(disch:=omega)only[go_sem,h1]
  have hl:(lim a).length=(lim b).length:=by omega
  refine qk (fun k:Nat=>[(0,.sl (lim (a)).length (qg (lim (a)))),(1,.sl (lim (b)).length (qg (lim (b)))),(5,.v (.int .i64 ((k:Int)-1)))])
   (fun _=>[]) (fun k=>k≤(lim a).length∧(lim a).drop k=(lim b).drop k) (fun k=>k) (lim a).length ⟨Nat.le_refl _,by rw[List.drop_length,hl,List.drop_length]⟩ (Le.lst [] _ _ rfl (by simp(disch:=omega)only[go_sem];try omega) (by simp(disch:=omega)only[go_sem])) ?_
  rintro k ⟨hk,hd⟩
  simp(disch:=omega)only[go_sem]
  refine qe (fun h2=>?_) (fun h2=>?_)
  ·obtain⟨i,rfl⟩:∃i,k=i+1:=⟨k-1,by omega⟩
   have ei:((i+1:Nat):Int)-1=(i:Nat):=by omega
   simp(disch:=omega)only[go_sem,h2,ei]
   refine qo rfl [⟨0,[],[]⟩,⟨1,[],[]⟩,⟨2,[],[]⟩,⟨3,[],[]⟩,⟨4,[3],[]⟩,⟨5,[3],[]⟩,⟨6,[3],[]⟩,⟨7,[3],[]⟩,⟨8,[],[]⟩] (by kernel_rfl) ?_
   simp(disch:=omega)only[go_sem,ei]
   refine⟨by omega,by omega,by omega,by omega,?_⟩
   refine q7 (fun h3=>?_) (fun h3=>?_)
   ·simp(disch:=omega)only[go_sem,h3]
    refine qo rfl [⟨0,[],[]⟩,⟨1,[],[]⟩,⟨2,[],[]⟩,⟨3,[],[]⟩,⟨4,[3],[]⟩,⟨5,[3],[]⟩,⟨6,[3],[]⟩,⟨7,[3],[]⟩,⟨8,[],[]⟩,⟨9,[],[]⟩] (by kernel_rfl) ?_
    simp(disch:=omega)only[go_sem,ei]
    refine⟨by omega,by omega,by omega,by omega,?_⟩
    refine qb (adH ((lim a).getD i 0) ((lim b).getD i 0)) ?_
    simp(disch:=omega)only[go_sem]
    have hva:=qW a
    have hvb:=qW b
    have:zE ((lim a).getD i 0) ((lim b).getD i 0)=zE a b:=by
     unfold zE
     rcases(by omega:(lim a).getD i 0<(lim b).getD i 0∨(lim b).getD i 0<(lim a).getD i 0)with h|h
     ·have:=Q9 (qU a) (qU b) (by omega) hl hd h
      rw[if_pos (by omega),if_pos (by omega)]
     ·have:=Q9 (qU b) (qU a) (by omega) hl.symm hd.symm h
      rw[if_neg (by omega),if_pos (by omega),if_neg (by omega),if_pos (by omega)]
    rw[this]
    exact qq
   ·simp(disch:=omega)only[go_sem,h3]
    refine qh i [] ⟨by omega,?_⟩ (by show i<i+1;omega) rfl (by simp(disch:=omega)only[go_sem];try omega) (by simp(disch:=omega)only[go_sem])
    rw[yr (l:=lim a) (by omega),yr (l:=lim b) (by omega),h3,hd]
  ·simp(disch:=omega)only[go_sem,h2]
   have:k=0:=by omega
   subst this
   rw[List.drop_zero,List.drop_zero]at hd
   have:=jH hd
   subst this
   rw[show zE (a:Int) (a:Int)=0 by simp[zE]]
   exact qq
end Go.Ab
namespace Go.Proofs
open Go.Shelf
def Tryz.lays29_ren:Go.Shelf.Ren:=⟨fun|29=>300|n=>n,fun|0=>0|3=>3|4=>4|5=>5|22=>244|25=>132|54=>257|n=>n,fun|1=>1|n=>n⟩
theorem Tryz.lays29:Go.Proofs.Lays7.n29 Tryz.prog Tryz.lays29_ren:={
 mixed:=by kernel_rfl
 f29:=Tryz.func300.trans (congrArg some (by kernel_rfl))
 t0:=Tryz.underlying0
 a0:=Tryz.isAgg0
 z0:=Tryz.sizeOf0
 v0:=Tryz.zeroValue0
 i0:=by kernel_rfl
 t3:=Tryz.underlying3
 a3:=Tryz.isAgg3
 z3:=Tryz.sizeOf3
 v3:=Tryz.zeroValue3
 i3:=by kernel_rfl
 t4:=Tryz.underlying4
 a4:=Tryz.isAgg4
 z4:=Tryz.sizeOf4
 v4:=Tryz.zeroValue4
 i4:=by kernel_rfl
 t5:=Tryz.underlying5
 a5:=Tryz.isAgg5
 z5:=Tryz.sizeOf5
 v5:=Tryz.zeroValue5
 i5:=by kernel_rfl
 t22:=Tryz.underlying244
 a22:=Tryz.isAgg244
 z22:=Tryz.sizeOf244
 v22:=Tryz.zeroValue244
 i22:=by kernel_rfl
 t25:=Tryz.underlying132
 a25:=Tryz.isAgg132
 z25:=Tryz.sizeOf132
 v25:=Tryz.zeroValue132
 i25:=by kernel_rfl
 t54:=Tryz.underlying257
 a54:=Tryz.isAgg257
 z54:=Tryz.sizeOf257
 g1:=by kernel_rfl}
def Tryz.lays129_ren:Go.Shelf.Ren:=⟨fun|129=>289|n=>n,fun|53=>244|46=>132|3=>3|4=>4|5=>5|9=>9|n=>n,fun|n=>n⟩
theorem Tryz.lays129:Go.Proofs.Lays.n129 Tryz.prog Tryz.lays129_ren:={
 mixed:=by kernel_rfl
 f129:=Tryz.func289.trans (congrArg some (by kernel_rfl))
 t3:=Tryz.underlying3
 a3:=Tryz.isAgg3
 z3:=Tryz.sizeOf3
 v3:=Tryz.zeroValue3
 t4:=Tryz.underlying4
 a4:=Tryz.isAgg4
 z4:=Tryz.sizeOf4
 v4:=Tryz.zeroValue4
 t5:=Tryz.underlying5
 a5:=Tryz.isAgg5
 z5:=Tryz.sizeOf5
 v5:=Tryz.zeroValue5
 t9:=Tryz.underlying9
 a9:=Tryz.isAgg9
 z9:=Tryz.sizeOf9
 v9:=Tryz.zeroValue9
 t46:=Tryz.underlying132
 a46:=Tryz.isAgg132
 z46:=Tryz.sizeOf132
 v46:=Tryz.zeroValue132
 t53:=Tryz.underlying244
 a53:=Tryz.isAgg244
 z53:=Tryz.sizeOf244
 v53:=Tryz.zeroValue244}
end Go.Proofs
namespace Go.Ab
open Go Go.Proofs
theorem aSj(x:Nat)(h0:x≠0)(h:x<2^64):Lib.ctz 64 x=tz x:=by
 unfold Lib.ctz
 rw[if_neg h0]
 obtain⟨m,hm,_⟩:=Lib.ctzFrom_spec 64 x (by omega) h
 exact(yN hm).symm
theorem aqr(x:Nat)(h:x<2^64):Lib.bitLen x=bl x:=by
 induction x using Nat.strongRecOn with
 |_ x ih=>
  by_cases h0:x=0
  ·subst h0;rfl
  ·rw[Lib.bitLen_half x h0 h,ih (x/2) (by omega) (by omega),aEl h0,Nat.add_comm]
theorem aB2(x:Nat)(h0:x≠0)(h:x<2^64):Con Tryz.prog 300 true [.v (.int .u64 x)] [] (isA (.v (.int .i64 (tz x)))):=
 Con.scalar (xs:=[.int .u64 x]) fun w hg=>by
  rw[←aSj x h0 h]
  exact Any7.bits_TrailingZeros64 Tryz.lays29 x h w fun _ j hj=>(hg 1 Lib.deBruijn64tab rfl).2 j hj
theorem apz(x:Nat)(h:x<2^64):Con Tryz.prog 289 true [.v (.int .u64 x)] [] (isA (.v (.int .i64 (bl x)))):=
 Con.scalar (xs:=[.int .u64 x]) fun w hg=>by
  rw[←aqr x h]
  exact Any.bits_Len64 Tryz.lays129 x w (by omega) (by omega)
theorem aSq(x:Nat)(h0:x≠0)(h:x<2^64):Con Tryz.prog 269 true [.v (.int .u64 x)] [] (isA (.v (.int .i64 (tz x)))):=by
 refine Con.of_w (rs:=[.tmp 2]) Tryz.func269 rfl Tryz.ntmps269 rfl ?_
 simp(disch:=omega)only[go_sem]
 refine qb (aB2 x h0 h) ?_
 simp(disch:=omega)only[go_sem]
 exact qq
theorem apA(x:Nat)(h:x<2^64):Con Tryz.prog 255 true [.v (.int .u64 x)] [] (isA (.v (.int .i64 (bl x)))):=by
 refine Con.of_w (rs:=[.tmp 2]) Tryz.func255 rfl Tryz.ntmps255 rfl ?_
 simp(disch:=omega)only[go_sem]
 refine qb (apz x h) ?_
 simp(disch:=omega)only[go_sem]
 exact qq
theorem ajw{x:Int}(h1:0≤x)(h2:x<9223372036854775808):IntKind.u64.wrap x=x:=by
 simp only[IntKind.wrap,IntKind.signed,IntKind.bits]
 simp only[Bool.false_and,Bool.false_eq_true,if_false]
 omega
theorem ai7(m:Nat)(hl:(lim m).length≤2^40):Con Tryz.prog 196 true [.sl (lim (m)).length (qg (lim (m)))] [] (isA (.v (.int .i64 (bl m)))):=by
 refine Con.of_w (rs:=[.tmp 2]) Tryz.func196 rfl Tryz.ntmps196 rfl ?_
 simp(disch:=omega)only[go_sem]
 refine qe (fun h1=>?_) (fun h1=>?_)
 ·simp(disch:=omega)only[go_sem,h1]
  have:m=0:=qH.1 (List.length_eq_zero_iff.1 (by omega))
  subst this
  rw[y0]
  exact qq
 ·have hm:m≠0:=fun e=>by rw[e,qm]at h1;simp at h1
  have e1:((lim m).length:Int).toNat-1=(lim m).length-1:=by omega
  have e2:(((lim m).length:Int)-1).toNat=(lim m).length-1:=by omega
  have ht:=ZI hm
  have hb:=aqo hm
  simp(disch:=omega)only[go_sem,h1,e2,zW]
  generalize m/65536^((lim m).length-1)=q at*
  have e3:((q % 65536:Nat):Int)=(q:Int):=by omega
  simp(disch:=omega)only[go_sem,e3,ajw]
  refine⟨by omega,by omega,?_⟩
  refine qb (apA q (by omega)) ?_
  simp(disch:=omega)only[go_sem]
  have hq:bl q≤16:=q9.2 (by omega)
  have e4:(16:Int)*(((lim m).length:Int)-1)+(bl q:Int)=(bl m:Int):=by omega
  simp(disch:=omega)only[go_sem,e4]
  exact qq
theorem aEu{m i:Nat}(hz:∀j,j<i→(lim m).getD j 0=0)(hx:(lim m).getD i 0≠0):tz m=16*i+tz (m/65536^i % 65536):=by
 rw[zW]at hx
 have hx':m/65536^i % 65536≠0:=fun e=>hx (by rw[e];rfl)
 obtain⟨a,ha⟩:=J3 hx'
 have hlow:65536^i*(m/65536^i)=m:=by
  have key:∀k,k≤i→m % 65536^k=0:=by
   intro k
   induction k with
   |zero=>intro _;simp[Nat.mod_one]
   |succ k ih=>
    intro hk
    have h1:=ih (by omega)
    have h2:=hz k (by omega)
    rw[zW]at h2
    have h3:m/65536^k % 65536=0:=by omega
    rw[Nat.pow_succ,Nat.mod_mul,h1,h3];omega
  have:=Nat.div_add_mod m (65536^i)
  rw[key i (Nat.le_refl _)]at this
  omega
 generalize hq:m/65536^i=q at*
 have ht:tz (q % 65536)<16:=by
  have h1:=j0 hx'
  have:bl (q % 65536)≤16:=q9.2 (by omega)
  omega
 generalize hk:tz (q % 65536)=k at*
 have e16:(65536:Nat)=2^k*(2*2^(15-k)):=by rw[Nat.mul_left_comm,←Nat.pow_add,show k+(15-k)=15 by omega]
 refine yN (a:=a+2^(15-k)*(q/65536)) ?_
 have hd:=Nat.div_add_mod q 65536
 rw[←hlow,Nat.pow_add,←yl]
 have h5:q=2^k*(2*(a+2^(15-k)*(q/65536))+1):=by
  have:q=2^k*(2*2^(15-k))*(q/65536)+2^k*(2*a+1):=by rw[←e16,←ha];omega
  generalize q/65536=y at*
  generalize 2^(15-k)=z at*
  grind
 generalize q/65536=y at*
 rw[Nat.mul_assoc,←h5]
theorem adr(m:Nat)(hl:(lim m).length≤2^40):Con Tryz.prog 221 true [.sl (lim (m)).length (qg (lim (m)))] [] (isA (.v (.int .i64 (tz m)))):=by
 refine Con.of_w (rs:=[.tmp 2]) Tryz.func221 rfl Tryz.ntmps221 rfl ?_
 simp(disch:=omega)only[go_sem]
 refine qk (fun i:Nat=>[(0,.sl (lim (m)).length (qg (lim (m)))),(5,.sl (lim (m)).length (qg (lim (m)))),(6,.v (.int .i64 (lim m).length)),(7,.v (.int .i64 i))])
  (fun _=>[]) (fun i=>i≤(lim m).length∧∀j,j<i→(lim m).getD j 0=0) (fun i=>(lim m).length-i) 0 ⟨by omega,fun j hj=>by omega⟩ (Le.lst [] _ _ rfl (by simp(disch:=omega)only[go_sem];try omega) (by simp(disch:=omega)only[go_sem])) ?_
 rintro i ⟨hi,hz⟩
 simp(disch:=omega)only[go_sem]
 refine qe (fun h1=>?_) (fun h1=>?_)
 ·simp(disch:=omega)only[go_sem,h1]
  refine⟨by omega,by omega,q7 (fun h2=>?_) (fun h2=>?_)⟩
  ·have ht:=aEu hz h2
   have hx:m/65536^i % 65536≠0:=fun e=>h2 (by rw[zW,e];rfl)
   have ht16:tz (m/65536^i % 65536)<16:=by
    have h1:=j0 hx
    have:bl (m/65536^i % 65536)≤16:=q9.2 (by omega)
    omega
   simp(disch:=omega)only[go_sem,h2,zW]
   generalize hq:m/65536^i % 65536=q at*
   have hq6:q<65536:=by omega
   simp(disch:=omega)only[go_sem,ajw]
   refine qb (aSq q hx (by omega)) ?_
   simp(disch:=omega)only[go_sem]
   have e4:(16:Int)*(i:Int)+(tz q:Int)=(tz m:Int):=by omega
   simp(disch:=omega)only[go_sem,e4]
   exact qq
  ·simp(disch:=omega)only[go_sem,h2]
   refine qh (i+1) [] ⟨by omega,fun j hj=>?_⟩ (by show(lim m).length-(i+1)<(lim m).length-i;omega) rfl (by simp(disch:=omega)only[go_sem];try omega) (by simp(disch:=omega)only[go_sem])
   rcases(by omega:j<i∨j=i)with h|h
   ·exact hz j h
   ·subst h;exact h2
 ·simp(disch:=omega)only[go_sem,h1]
  have hm:m=0:=by
   have:=qW m
   have h3:lim m=List.replicate (lim m).length 0:=by
    apply List.ext_getElem
    ·simp
    ·intro j h1 h2
     have:=hz j (by omega)
     rw[List.getD_eq_getElem?_getD,List.getElem?_eq_getElem h1]at this
     simpa using this
   rw[h3,zR]at this
   omega
  subst hm
  rw[ajB]
  exact qq
theorem aaa(m:Nat)(i:Int)(hl:(lim m).length≤2^40)(hi:0≤i)(hi2:i<2^62):Con Tryz.prog 142 true [.sl (lim (m)).length (qg (lim (m))),.v (.int .i64 i)] [] (isA (.v (.int .i64 ((m/2^i.toNat % 2:Nat):Int)))):=by
 refine Con.of_w (rs:=[.tmp 4]) Tryz.func142 rfl Tryz.ntmps142 rfl ?_
 obtain⟨k,rfl⟩:=Int.eq_ofNat_of_zero_le hi
 rw[Int.toNat_natCast]
 have h0:¬((k:Int)<0):=by omega
 have e16:((k:Int)/16).toNat=k/16:=by omega
 have em:min ((k:Int) % 16).toNat 64=k % 16:=by omega
 have hb:=aqq m k
 simp(disch:=omega)only[go_sem,h0]
 refine qe (fun h1=>?_) (fun h1=>?_)
 ·simp(disch:=omega)only[go_sem,h1]
  have:m/2^k % 2=0:=by
   rw[←hb]
   have h2:=zW m (k/16)
   rw[List.getD_eq_getElem?_getD,List.getElem?_eq_none (by omega)]at h2
   have h3:m/65536^(k/16) % 65536=0:=by simp only[Option.getD_none]at h2;omega
   rw[h3];simp
  rw[this]
  exact qq
 ·have hx:=qN (qU m) (k/16)
  have hp:(0:Int)<2^(k % 16):=Int.pow_pos (by omega)
  have efd:∀x:Int,x.fdiv (2^(k % 16))=x/2^(k % 16):=fun x=>Int.fdiv_eq_ediv_of_nonneg _ (Int.le_of_lt hp)
  have hq:0≤(lim m).getD (k/16) 0/2^(k % 16)∧(lim m).getD (k/16) 0/2^(k % 16)<65536:=by
   refine⟨Int.ediv_nonneg hx.1 (Int.le_of_lt hp),Int.lt_of_le_of_lt (Int.ediv_le_self _ hx.1) hx.2⟩
  have hr:(lim m).getD (k/16) 0/2^(k % 16) % 2=((m/2^k % 2:Nat):Int):=by
   rw[←hb,zW]
   generalize m/65536^(k/16) % 65536=x
   rw[Int.natCast_emod,Int.natCast_ediv,Int.natCast_pow];rfl
  simp(disch:=omega)only[go_sem,h1,e16,em,efd,hr]
  refine⟨by omega,by omega,by omega,?_⟩
  exact qq
end Go.Ab
namespace Go.Ab
open Go Go.Proofs
theorem aap(a k:Nat):(vl (lim a)*2^k).toNat=a*2^k:=by
 rw[qW]
 have:((a:Int)*2^k)=((a*2^k:Nat):Int):=by rw[Int.natCast_mul,Int.natCast_pow];rfl
 rw[this,Int.toNat_natCast]
theorem aaq(a k:Nat):(vl (lim a)/2^k).toNat=a/2^k:=by
 rw[qW]
 have:((a:Int)/2^k)=((a/2^k:Nat):Int):=by rw[Int.natCast_ediv,Int.natCast_pow];rfl
 rw[this,Int.toNat_natCast]
theorem aEy(a b:Nat):(vl (lim a)*vl (lim b)).toNat=a*b:=by rw[qW,qW,←Int.natCast_mul,Int.toNat_natCast]
theorem aEz(a b:Nat):(vl (lim a)+vl (lim b)).toNat=a+b:=by rw[qW,qW];omega
theorem aEx(a b:Nat):(vl (lim a)-vl (lim b)).toNat=a-b:=by rw[qW,qW];omega
theorem zw(n:Nat)(hn:n<2^63):Con Tryz.prog 189 false [.v (.int .i64 n)] [] (aJa (lim n)):=(apq false n hn).num
theorem apl(cl:Bool)(a k:Nat)(la:(lim a).length≤1000000)(hk:k≤100000000):Con Tryz.prog 195 cl [.sl (lim (a)).length (qg (lim (a))),.v (.int .i64 k)] [] (aqQ (lim (a*2^k))):=by
 have:=aSp cl (lim a) k (qU a) la hk
 rwa[aap]at this
theorem zG(a k:Nat)(la:(lim a).length≤1000000)(hk:k≤100000000):Con Tryz.prog 195 false [.sl (lim (a)).length (qg (lim (a))),.v (.int .i64 k)] [] (aJa (lim (a*2^k))):=(apl false a k la hk).num
theorem K7(cl:Bool)(a k:Nat)(la:(lim a).length≤1000000)(hk:k≤100000000):Con Tryz.prog 216 cl [.sl (lim (a)).length (qg (lim (a))),.v (.int .i64 k)] [] (aqQ (lim (a/2^k))):=by
 have:=aCe cl (lim a) k (qU a) la hk
 rwa[aaq]at this
theorem apZ(a k:Nat)(la:(lim a).length≤1000000)(hk:k≤100000000):Con Tryz.prog 216 false [.sl (lim (a)).length (qg (lim (a))),.v (.int .i64 k)] [] (aJa (lim (a/2^k))):=(K7 false a k la hk).num
theorem JL(a b:Nat)(la:(lim a).length≤1000000)(lb:(lim b).length≤1000000):Con Tryz.prog 218 false [.sl (lim (a)).length (qg (lim (a))),.sl (lim (b)).length (qg (lim (b)))] [] (aJa (lim (a*b))):=by
 have:=(apm false (lim a) (lim b) (qU a) (qU b) la lb).num
 rwa[aEy]at this
theorem KW(a b:Nat)(la:(lim a).length≤2000000)(lb:(lim b).length≤2000000):Con Tryz.prog 219 false [.sl (lim (a)).length (qg (lim (a))),.sl (lim (b)).length (qg (lim (b)))] [] (aJa (lim (a+b))):=by
 have:=(aB4 false (lim a) (lim b) (qU a) (qU b) la lb).num
 rwa[aEz]at this
theorem ap0(a d:Nat)(la:(lim a).length≤1000000)(hd:0<d)(hd2:d<65536):
  Con Tryz.prog 295 false [.sl (lim (a)).length (qg (lim (a))),.v (.int .i64 d)] [] (isA (.tu [.sl (lim (a/d)).length (qg (lim (a/d))),.v (.int .i64 ((a % d:Nat):Int))])):=
 Con.frzA <| (aCf false (lim a) d (qU a) la hd hd2).mono fun r hs bs ⟨zs,h1,h2⟩=>by
  rw[qW]at h1 h2
  rw[h1,h2]
  have e:((a:Int)/(d:Int)).toNat=a/d:=by
   rw[←Int.natCast_ediv,Int.toNat_natCast]
  rw[e]
  show qP _ 6 _=_
  unfold qP
  simp only[List.map_cons,List.map_nil]
  rw[j1 (k:=3) (l:=lim (a/d)) (zs:=zs) zv rfl]
  rw[Int.natCast_emod];rfl
end Go.Ab
