/- What the proof of this claim stands on: the walks of the functions and the plain laws, part 3. -/
import Derived.Test.YtjkhfpjccemboaaGreatDoorFnDyRootsLib2
import Derived.Test.YtjkhfpjccemboaaGreatDoorChecked
import Derived.KernelRfl
import Derived.Shelf.Spec.TrailingZeros
import Derived.Shelf.Small.Bits
import Derived.Shelf.Strconv.Itoa0
set_option linter.unusedVariables false
set_option linter.unusedSimpArgs false
namespace Go.Ab
open Go Go.Proofs
def ti1:TI:=⟨Kd.oth,1,8,Value.nilFunc⟩
theorem tf1:qo Tryz.prog 1=some ti1:=by kernel_rfl
def ti2:TI:=⟨Kd.int IntKind.i64,1,8,Value.int IntKind.i64 0⟩
theorem tf2:qo Tryz.prog 2=some ti2:=by kernel_rfl
def ti3:TI:=⟨Kd.int IntKind.i64,1,8,Value.int IntKind.i64 0⟩
theorem tf3:qo Tryz.prog 3=some ti3:=by kernel_rfl
def ti4:TI:=⟨Kd.bool,1,1,Value.bool false⟩
theorem tf4:qo Tryz.prog 4=some ti4:=by kernel_rfl
def ti5:TI:=⟨Kd.int IntKind.u8,1,1,Value.int IntKind.u8 0⟩
theorem tf5:qo Tryz.prog 5=some ti5:=by kernel_rfl
def ti6:TI:=⟨Kd.int IntKind.u8,1,1,Value.int IntKind.u8 0⟩
theorem tf6:qo Tryz.prog 6=some ti6:=by kernel_rfl
def ti7:TI:=⟨Kd.stru [(0,2),(1,3),(2,4),(3,6)],4,24,Value.agg ⟨[Value.int IntKind.i64 0,Value.int IntKind.i64 0,Value.bool false,Value.int IntKind.u8 0]⟩⟩
theorem tf7:qo Tryz.prog 7=some ti7:=by kernel_rfl
def ti8:TI:=⟨Kd.stru [(0,2),(1,3),(2,4),(3,6)],4,24,Value.agg ⟨[Value.int IntKind.i64 0,Value.int IntKind.i64 0,Value.bool false,Value.int IntKind.u8 0]⟩⟩
theorem tf8:qo Tryz.prog 8=some ti8:=by kernel_rfl
def ti9:TI:=⟨Kd.str,1,16,Value.string {data:=⟨[]⟩}⟩
theorem tf9:qo Tryz.prog 9=some ti9:=by kernel_rfl
def aCB:TI:=⟨Kd.str,1,16,Value.string {data:=⟨[]⟩}⟩
theorem bbE:qo Tryz.prog 10=some aCB:=by kernel_rfl
def aCA:TI:=⟨Kd.str,1,16,Value.string {data:=⟨[]⟩}⟩
theorem bbD:qo Tryz.prog 11=some aCA:=by kernel_rfl
def aCz:TI:=⟨Kd.int IntKind.u64,1,8,Value.int IntKind.u64 0⟩
theorem bbC:qo Tryz.prog 12=some aCz:=by kernel_rfl
def aCy:TI:=⟨Kd.int IntKind.i32,1,4,Value.int IntKind.i32 0⟩
theorem bbB:qo Tryz.prog 21=some aCy:=by kernel_rfl
def adr:TI:=⟨Kd.sli 5,1,24,Value.slice none 0 0⟩
theorem aCD:qo Tryz.prog 22=some adr:=by kernel_rfl
def Z0:TI:=⟨Kd.sli 3,1,24,Value.slice none 0 0⟩
theorem ads:qo Tryz.prog 23=some Z0:=by kernel_rfl
def apT:TI:=⟨Kd.stru [(0,23)],1,24,Value.agg ⟨[Value.slice none 0 0]⟩⟩
theorem aU3:qo Tryz.prog 24=some apT:=by kernel_rfl
def KP:TI:=⟨Kd.stru [(0,23)],1,24,Value.agg ⟨[Value.slice none 0 0]⟩⟩
theorem ayY:qo Tryz.prog 25=some KP:=by kernel_rfl
def akm:TI:=⟨Kd.stru [(0,4),(1,25)],2,32,Value.agg ⟨[Value.bool false,Value.slice none 0 0]⟩⟩
theorem aR3:qo Tryz.prog 26=some akm:=by kernel_rfl
def Yx:TI:=⟨Kd.stru [(0,4),(1,25)],2,32,Value.agg ⟨[Value.bool false,Value.slice none 0 0]⟩⟩
theorem apU:qo Tryz.prog 27=some Yx:=by kernel_rfl
def aj9:TI:=⟨Kd.stru [(0,27),(2,3)],3,40,Value.agg ⟨[Value.bool false,Value.slice none 0 0,Value.int IntKind.i64 0]⟩⟩
theorem aR2:qo Tryz.prog 28=some aj9:=by kernel_rfl
def QC:TI:=⟨Kd.stru [(0,27),(2,3)],3,40,Value.agg ⟨[Value.bool false,Value.slice none 0 0,Value.int IntKind.i64 0]⟩⟩
theorem VM:qo Tryz.prog 29=some QC:=by kernel_rfl
def aCx:TI:=⟨Kd.oth,1,8,Value.nilFunc⟩
theorem bbA:qo Tryz.prog 31=some aCx:=by kernel_rfl
def aCw:TI:=⟨Kd.oth,1,8,Value.nilFunc⟩
theorem bbz:qo Tryz.prog 33=some aCw:=by kernel_rfl
def aCv:TI:=⟨Kd.oth,1,8,Value.nilFunc⟩
theorem bby:qo Tryz.prog 34=some aCv:=by kernel_rfl
def aCu:TI:=⟨Kd.oth,1,8,Value.nilFunc⟩
theorem bbx:qo Tryz.prog 35=some aCu:=by kernel_rfl
def aCt:TI:=⟨Kd.oth,1,8,Value.nilFunc⟩
theorem bbw:qo Tryz.prog 36=some aCt:=by kernel_rfl
def aCs:TI:=⟨Kd.oth,1,8,Value.nilFunc⟩
theorem bbv:qo Tryz.prog 37=some aCs:=by kernel_rfl
def aCr:TI:=⟨Kd.oth,1,8,Value.nilFunc⟩
theorem bbu:qo Tryz.prog 38=some aCr:=by kernel_rfl
def aCq:TI:=⟨Kd.oth,1,8,Value.nilFunc⟩
theorem bbt:qo Tryz.prog 39=some aCq:=by kernel_rfl
def adq:TI:=⟨Kd.sli 29,1,24,Value.slice none 0 0⟩
theorem aCC:qo Tryz.prog 40=some adq:=by kernel_rfl
def ajV:TI:=⟨Kd.stru [(0,3),(1,40)],2,32,Value.agg ⟨[Value.int IntKind.i64 0,Value.slice none 0 0]⟩⟩
theorem aR1:qo Tryz.prog 41=some ajV:=by kernel_rfl
def ajT:TI:=⟨Kd.stru [(0,3),(1,40)],2,32,Value.agg ⟨[Value.int IntKind.i64 0,Value.slice none 0 0]⟩⟩
theorem aR0:qo Tryz.prog 42=some ajT:=by kernel_rfl
def aCp:TI:=⟨Kd.oth,1,8,Value.nilFunc⟩
theorem bbs:qo Tryz.prog 44=some aCp:=by kernel_rfl
def aCo:TI:=⟨Kd.oth,1,8,Value.nilFunc⟩
theorem bbr:qo Tryz.prog 45=some aCo:=by kernel_rfl
def aCn:TI:=⟨Kd.oth,1,8,Value.nilFunc⟩
theorem bbq:qo Tryz.prog 47=some aCn:=by kernel_rfl
def aCm:TI:=⟨Kd.oth,1,8,Value.nilFunc⟩
theorem bbp:qo Tryz.prog 48=some aCm:=by kernel_rfl
def ajN:TI:=⟨Kd.stru [(0,29),(3,29)],6,80,Value.agg ⟨[Value.bool false,Value.slice none 0 0,Value.int IntKind.i64 0,Value.bool false,Value.slice none 0 0,Value.int IntKind.i64 0]⟩⟩
theorem aRZ:qo Tryz.prog 49=some ajN:=by kernel_rfl
def aiQ:TI:=⟨Kd.stru [(0,29),(3,29)],6,80,Value.agg ⟨[Value.bool false,Value.slice none 0 0,Value.int IntKind.i64 0,Value.bool false,Value.slice none 0 0,Value.int IntKind.i64 0]⟩⟩
theorem aLA:qo Tryz.prog 50=some aiQ:=by kernel_rfl
def aCl:TI:=⟨Kd.oth,1,8,Value.nilFunc⟩
theorem bbo:qo Tryz.prog 52=some aCl:=by kernel_rfl
def aCk:TI:=⟨Kd.oth,1,8,Value.nilFunc⟩
theorem bbn:qo Tryz.prog 54=some aCk:=by kernel_rfl
def aCj:TI:=⟨Kd.oth,1,8,Value.nilFunc⟩
theorem bbm:qo Tryz.prog 55=some aCj:=by kernel_rfl
def aCi:TI:=⟨Kd.oth,1,8,Value.nilFunc⟩
theorem bbl:qo Tryz.prog 56=some aCi:=by kernel_rfl
def aCh:TI:=⟨Kd.oth,1,8,Value.nilFunc⟩
theorem bbk:qo Tryz.prog 57=some aCh:=by kernel_rfl
def aCg:TI:=⟨Kd.oth,1,8,Value.nilFunc⟩
theorem bbj:qo Tryz.prog 58=some aCg:=by kernel_rfl
def aCf:TI:=⟨Kd.oth,1,8,Value.nilFunc⟩
theorem bbi:qo Tryz.prog 59=some aCf:=by kernel_rfl
def aCe:TI:=⟨Kd.oth,1,8,Value.nilFunc⟩
theorem bbh:qo Tryz.prog 60=some aCe:=by kernel_rfl
def aCd:TI:=⟨Kd.oth,1,8,Value.nilFunc⟩
theorem bbg:qo Tryz.prog 61=some aCd:=by kernel_rfl
def aew:TI:=⟨Kd.stru [(0,3),(1,4),(2,3),(3,3)],4,32,Value.agg ⟨[Value.int IntKind.i64 0,Value.bool false,Value.int IntKind.i64 0,Value.int IntKind.i64 0]⟩⟩
theorem aKO:qo Tryz.prog 62=some aew:=by kernel_rfl
def adp:TI:=⟨Kd.stru [(0,3),(1,4),(2,3),(3,3)],4,32,Value.agg ⟨[Value.int IntKind.i64 0,Value.bool false,Value.int IntKind.i64 0,Value.int IntKind.i64 0]⟩⟩
theorem aGS:qo Tryz.prog 63=some adp:=by kernel_rfl
def aCc:TI:=⟨Kd.oth,1,8,Value.nilFunc⟩
theorem bbf:qo Tryz.prog 65=some aCc:=by kernel_rfl
def aCb:TI:=⟨Kd.oth,1,8,Value.nilFunc⟩
theorem bbe:qo Tryz.prog 67=some aCb:=by kernel_rfl
def aCa:TI:=⟨Kd.oth,1,8,Value.nilFunc⟩
theorem bbd:qo Tryz.prog 68=some aCa:=by kernel_rfl
def aB9:TI:=⟨Kd.oth,1,8,Value.nilFunc⟩
theorem bbc:qo Tryz.prog 69=some aB9:=by kernel_rfl
def aB8:TI:=⟨Kd.oth,1,8,Value.nilFunc⟩
theorem bbb:qo Tryz.prog 70=some aB8:=by kernel_rfl
def aB7:TI:=⟨Kd.oth,1,8,Value.nilFunc⟩
theorem bba:qo Tryz.prog 71=some aB7:=by kernel_rfl
def aB6:TI:=⟨Kd.oth,1,8,Value.nilFunc⟩
theorem ba9:qo Tryz.prog 72=some aB6:=by kernel_rfl
def aB5:TI:=⟨Kd.oth,1,8,Value.nilFunc⟩
theorem ba8:qo Tryz.prog 74=some aB5:=by kernel_rfl
def aB4:TI:=⟨Kd.oth,1,8,Value.nilFunc⟩
theorem ba7:qo Tryz.prog 76=some aB4:=by kernel_rfl
def aB3:TI:=⟨Kd.oth,1,8,Value.nilFunc⟩
theorem ba6:qo Tryz.prog 77=some aB3:=by kernel_rfl
def aB2:TI:=⟨Kd.oth,1,8,Value.nilFunc⟩
theorem ba5:qo Tryz.prog 79=some aB2:=by kernel_rfl
def aB1:TI:=⟨Kd.oth,1,8,Value.nilFunc⟩
theorem ba4:qo Tryz.prog 80=some aB1:=by kernel_rfl
def aB0:TI:=⟨Kd.oth,1,8,Value.nilFunc⟩
theorem ba3:qo Tryz.prog 82=some aB0:=by kernel_rfl
def aBZ:TI:=⟨Kd.oth,1,8,Value.nilFunc⟩
theorem ba2:qo Tryz.prog 83=some aBZ:=by kernel_rfl
def aBY:TI:=⟨Kd.oth,1,8,Value.nilFunc⟩
theorem ba1:qo Tryz.prog 84=some aBY:=by kernel_rfl
def aBX:TI:=⟨Kd.oth,1,8,Value.nilFunc⟩
theorem ba0:qo Tryz.prog 85=some aBX:=by kernel_rfl
def aBW:TI:=⟨Kd.oth,1,8,Value.nilFunc⟩
theorem baZ:qo Tryz.prog 86=some aBW:=by kernel_rfl
def aBV:TI:=⟨Kd.oth,1,8,Value.nilFunc⟩
theorem baY:qo Tryz.prog 87=some aBV:=by kernel_rfl
def aBU:TI:=⟨Kd.oth,1,8,Value.nilFunc⟩
theorem baX:qo Tryz.prog 88=some aBU:=by kernel_rfl
def aiP:TI:=⟨Kd.stru [(0,4),(1,23),(2,3)],3,40,Value.agg ⟨[Value.bool false,Value.slice none 0 0,Value.int IntKind.i64 0]⟩⟩
theorem aLz:qo Tryz.prog 89=some aiP:=by kernel_rfl
def Qt:TI:=⟨Kd.stru [(0,4),(1,23),(2,3)],3,40,Value.agg ⟨[Value.bool false,Value.slice none 0 0,Value.int IntKind.i64 0]⟩⟩
theorem Ys:qo Tryz.prog 90=some Qt:=by kernel_rfl
def aBT:TI:=⟨Kd.oth,1,8,Value.nilFunc⟩
theorem baW:qo Tryz.prog 92=some aBT:=by kernel_rfl
def aBS:TI:=⟨Kd.oth,1,8,Value.nilFunc⟩
theorem baV:qo Tryz.prog 93=some aBS:=by kernel_rfl
def aBR:TI:=⟨Kd.oth,1,8,Value.nilFunc⟩
theorem baU:qo Tryz.prog 94=some aBR:=by kernel_rfl
def aBQ:TI:=⟨Kd.oth,1,8,Value.nilFunc⟩
theorem baT:qo Tryz.prog 95=some aBQ:=by kernel_rfl
def aBP:TI:=⟨Kd.oth,1,8,Value.nilFunc⟩
theorem baS:qo Tryz.prog 97=some aBP:=by kernel_rfl
def aBO:TI:=⟨Kd.oth,1,8,Value.nilFunc⟩
theorem baR:qo Tryz.prog 98=some aBO:=by kernel_rfl
def aBN:TI:=⟨Kd.oth,1,8,Value.nilFunc⟩
theorem baQ:qo Tryz.prog 99=some aBN:=by kernel_rfl
def yo:TI:=⟨Kd.sli 90,1,24,Value.slice none 0 0⟩
theorem Jz:qo Tryz.prog 100=some yo:=by kernel_rfl
def QT:TI:=⟨Kd.stru [(0,3),(1,100)],2,32,Value.agg ⟨[Value.int IntKind.i64 0,Value.slice none 0 0]⟩⟩
theorem ay5:qo Tryz.prog 101=some QT:=by kernel_rfl
def QS:TI:=⟨Kd.stru [(0,3),(1,100)],2,32,Value.agg ⟨[Value.int IntKind.i64 0,Value.slice none 0 0]⟩⟩
theorem ay4:qo Tryz.prog 102=some QS:=by kernel_rfl
def VL:TI:=⟨Kd.oth,1,8,Value.nilFunc⟩
theorem aWS:qo Tryz.prog 103=some VL:=by kernel_rfl
def VK:TI:=⟨Kd.oth,1,8,Value.nilFunc⟩
theorem aWR:qo Tryz.prog 104=some VK:=by kernel_rfl
def VJ:TI:=⟨Kd.oth,1,8,Value.nilFunc⟩
theorem aWQ:qo Tryz.prog 105=some VJ:=by kernel_rfl
def VI:TI:=⟨Kd.oth,1,8,Value.nilFunc⟩
theorem aWP:qo Tryz.prog 106=some VI:=by kernel_rfl
def VH:TI:=⟨Kd.oth,1,8,Value.nilFunc⟩
theorem aWO:qo Tryz.prog 107=some VH:=by kernel_rfl
def VG:TI:=⟨Kd.oth,1,8,Value.nilFunc⟩
theorem aWN:qo Tryz.prog 108=some VG:=by kernel_rfl
def VF:TI:=⟨Kd.oth,1,8,Value.nilFunc⟩
theorem aWM:qo Tryz.prog 109=some VF:=by kernel_rfl
def QR:TI:=⟨Kd.stru [(0,90),(3,90)],6,80,Value.agg ⟨[Value.bool false,Value.slice none 0 0,Value.int IntKind.i64 0,Value.bool false,Value.slice none 0 0,Value.int IntKind.i64 0]⟩⟩
theorem ay3:qo Tryz.prog 110=some QR:=by kernel_rfl
def Qw:TI:=⟨Kd.stru [(0,90),(3,90)],6,80,Value.agg ⟨[Value.bool false,Value.slice none 0 0,Value.int IntKind.i64 0,Value.bool false,Value.slice none 0 0,Value.int IntKind.i64 0]⟩⟩
theorem amX:qo Tryz.prog 111=some Qw:=by kernel_rfl
def VE:TI:=⟨Kd.oth,1,8,Value.nilFunc⟩
theorem aWL:qo Tryz.prog 113=some VE:=by kernel_rfl
def VD:TI:=⟨Kd.oth,1,8,Value.nilFunc⟩
theorem aWK:qo Tryz.prog 114=some VD:=by kernel_rfl
def VC:TI:=⟨Kd.oth,1,8,Value.nilFunc⟩
theorem aWJ:qo Tryz.prog 115=some VC:=by kernel_rfl
def VB:TI:=⟨Kd.oth,1,8,Value.nilFunc⟩
theorem aWI:qo Tryz.prog 116=some VB:=by kernel_rfl
def VA:TI:=⟨Kd.oth,1,8,Value.nilFunc⟩
theorem aWH:qo Tryz.prog 117=some VA:=by kernel_rfl
def Vz:TI:=⟨Kd.oth,1,8,Value.nilFunc⟩
theorem aWG:qo Tryz.prog 118=some Vz:=by kernel_rfl
def Vy:TI:=⟨Kd.oth,1,8,Value.nilFunc⟩
theorem aWF:qo Tryz.prog 119=some Vy:=by kernel_rfl
def Vx:TI:=⟨Kd.oth,1,8,Value.nilFunc⟩
theorem aWE:qo Tryz.prog 120=some Vx:=by kernel_rfl
def Vw:TI:=⟨Kd.oth,1,8,Value.nilFunc⟩
theorem aWD:qo Tryz.prog 121=some Vw:=by kernel_rfl
def Vv:TI:=⟨Kd.oth,1,8,Value.nilFunc⟩
theorem aWC:qo Tryz.prog 122=some Vv:=by kernel_rfl
def Vu:TI:=⟨Kd.oth,1,8,Value.nilFunc⟩
theorem aWB:qo Tryz.prog 123=some Vu:=by kernel_rfl
def Vt:TI:=⟨Kd.oth,1,8,Value.nilFunc⟩
theorem aWA:qo Tryz.prog 124=some Vt:=by kernel_rfl
def Vs:TI:=⟨Kd.oth,1,8,Value.nilFunc⟩
theorem aWz:qo Tryz.prog 125=some Vs:=by kernel_rfl
def Vr:TI:=⟨Kd.oth,1,8,Value.nilFunc⟩
theorem aWy:qo Tryz.prog 126=some Vr:=by kernel_rfl
def Vq:TI:=⟨Kd.oth,1,8,Value.nilFunc⟩
theorem aWx:qo Tryz.prog 127=some Vq:=by kernel_rfl
def Vp:TI:=⟨Kd.oth,1,8,Value.nilFunc⟩
theorem aWw:qo Tryz.prog 128=some Vp:=by kernel_rfl
def Vo:TI:=⟨Kd.oth,1,8,Value.nilFunc⟩
theorem aWv:qo Tryz.prog 129=some Vo:=by kernel_rfl
def Vn:TI:=⟨Kd.oth,1,8,Value.nilFunc⟩
theorem aWu:qo Tryz.prog 130=some Vn:=by kernel_rfl
def Vm:TI:=⟨Kd.oth,1,8,Value.nilFunc⟩
theorem aWt:qo Tryz.prog 131=some Vm:=by kernel_rfl
def Vl:TI:=⟨Kd.int IntKind.u64,1,8,Value.int IntKind.u64 0⟩
theorem aWs:qo Tryz.prog 132=some Vl:=by kernel_rfl
def Vk:TI:=⟨Kd.oth,1,8,Value.nilFunc⟩
theorem aWr:qo Tryz.prog 133=some Vk:=by kernel_rfl
def Vj:TI:=⟨Kd.oth,1,8,Value.nilFunc⟩
theorem aWq:qo Tryz.prog 135=some Vj:=by kernel_rfl
def Vi:TI:=⟨Kd.oth,1,8,Value.nilFunc⟩
theorem aWp:qo Tryz.prog 136=some Vi:=by kernel_rfl
def Vh:TI:=⟨Kd.oth,1,8,Value.nilFunc⟩
theorem aWo:qo Tryz.prog 137=some Vh:=by kernel_rfl
def Vg:TI:=⟨Kd.oth,1,8,Value.nilFunc⟩
theorem aWn:qo Tryz.prog 138=some Vg:=by kernel_rfl
def Vf:TI:=⟨Kd.oth,1,8,Value.nilFunc⟩
theorem aWm:qo Tryz.prog 139=some Vf:=by kernel_rfl
def Ve:TI:=⟨Kd.oth,1,8,Value.nilFunc⟩
theorem aWl:qo Tryz.prog 140=some Ve:=by kernel_rfl
def Vd:TI:=⟨Kd.oth,1,8,Value.nilFunc⟩
theorem aWk:qo Tryz.prog 141=some Vd:=by kernel_rfl
def Qv:TI:=⟨Kd.stru [(0,22),(1,3),(2,3)],3,40,Value.agg ⟨[Value.slice none 0 0,Value.int IntKind.i64 0,Value.int IntKind.i64 0]⟩⟩
theorem amW:qo Tryz.prog 142=some Qv:=by kernel_rfl
def Qu:TI:=⟨Kd.stru [(0,22),(1,3),(2,3)],3,40,Value.agg ⟨[Value.slice none 0 0,Value.int IntKind.i64 0,Value.int IntKind.i64 0]⟩⟩
theorem amV:qo Tryz.prog 143=some Qu:=by kernel_rfl
def Vc:TI:=⟨Kd.oth,1,8,Value.nilFunc⟩
theorem aWj:qo Tryz.prog 144=some Vc:=by kernel_rfl
def Vb:TI:=⟨Kd.oth,1,8,Value.nilFunc⟩
theorem aWi:qo Tryz.prog 145=some Vb:=by kernel_rfl
def Va:TI:=⟨Kd.oth,1,8,Value.nilFunc⟩
theorem aWh:qo Tryz.prog 146=some Va:=by kernel_rfl
def X9:TI:=⟨Kd.oth,1,8,Value.nilFunc⟩
theorem aWg:qo Tryz.prog 147=some X9:=by kernel_rfl
def X8:TI:=⟨Kd.oth,1,8,Value.nilFunc⟩
theorem aWf:qo Tryz.prog 148=some X8:=by kernel_rfl
def X7:TI:=⟨Kd.oth,1,8,Value.nilFunc⟩
theorem aWe:qo Tryz.prog 150=some X7:=by kernel_rfl
def X6:TI:=⟨Kd.oth,1,8,Value.nilFunc⟩
theorem aWd:qo Tryz.prog 152=some X6:=by kernel_rfl
def X5:TI:=⟨Kd.oth,1,8,Value.nilFunc⟩
theorem aWc:qo Tryz.prog 153=some X5:=by kernel_rfl
def X4:TI:=⟨Kd.oth,1,8,Value.nilFunc⟩
theorem aWb:qo Tryz.prog 154=some X4:=by kernel_rfl
def yE:TI:=⟨Kd.sli 111,1,24,Value.slice none 0 0⟩
theorem VO:qo Tryz.prog 155=some yE:=by kernel_rfl
def QQ:TI:=⟨Kd.stru [(0,3),(1,155)],2,32,Value.agg ⟨[Value.int IntKind.i64 0,Value.slice none 0 0]⟩⟩
theorem ay2:qo Tryz.prog 156=some QQ:=by kernel_rfl
def QP:TI:=⟨Kd.stru [(0,3),(1,155)],2,32,Value.agg ⟨[Value.int IntKind.i64 0,Value.slice none 0 0]⟩⟩
theorem ay1:qo Tryz.prog 157=some QP:=by kernel_rfl
def X3:TI:=⟨Kd.oth,1,8,Value.nilFunc⟩
theorem aWa:qo Tryz.prog 158=some X3:=by kernel_rfl
def yD:TI:=⟨Kd.sli 50,1,24,Value.slice none 0 0⟩
theorem VN:qo Tryz.prog 159=some yD:=by kernel_rfl
def QO:TI:=⟨Kd.stru [(0,3),(1,159)],2,32,Value.agg ⟨[Value.int IntKind.i64 0,Value.slice none 0 0]⟩⟩
theorem ay0:qo Tryz.prog 160=some QO:=by kernel_rfl
def QN:TI:=⟨Kd.stru [(0,3),(1,159)],2,32,Value.agg ⟨[Value.int IntKind.i64 0,Value.slice none 0 0]⟩⟩
theorem ayZ:qo Tryz.prog 161=some QN:=by kernel_rfl
def X2:TI:=⟨Kd.oth,1,8,Value.nilFunc⟩
theorem aV9:qo Tryz.prog 163=some X2:=by kernel_rfl
def X1:TI:=⟨Kd.oth,1,8,Value.nilFunc⟩
theorem aV8:qo Tryz.prog 164=some X1:=by kernel_rfl
def X0:TI:=⟨Kd.oth,1,8,Value.nilFunc⟩
theorem aV7:qo Tryz.prog 165=some X0:=by kernel_rfl
def XZ:TI:=⟨Kd.oth,1,8,Value.nilFunc⟩
theorem aV6:qo Tryz.prog 166=some XZ:=by kernel_rfl
def XY:TI:=⟨Kd.oth,1,8,Value.nilFunc⟩
theorem aV5:qo Tryz.prog 167=some XY:=by kernel_rfl
def XX:TI:=⟨Kd.oth,1,8,Value.nilFunc⟩
theorem aV4:qo Tryz.prog 169=some XX:=by kernel_rfl
def XW:TI:=⟨Kd.oth,1,8,Value.nilFunc⟩
theorem aV3:qo Tryz.prog 170=some XW:=by kernel_rfl
def XV:TI:=⟨Kd.oth,1,8,Value.nilFunc⟩
theorem aV2:qo Tryz.prog 171=some XV:=by kernel_rfl
def XU:TI:=⟨Kd.oth,1,8,Value.nilFunc⟩
theorem aV1:qo Tryz.prog 172=some XU:=by kernel_rfl
def XT:TI:=⟨Kd.oth,1,8,Value.nilFunc⟩
theorem aV0:qo Tryz.prog 173=some XT:=by kernel_rfl
def XS:TI:=⟨Kd.oth,1,8,Value.nilFunc⟩
theorem aVZ:qo Tryz.prog 174=some XS:=by kernel_rfl
def XR:TI:=⟨Kd.oth,1,8,Value.nilFunc⟩
theorem aVY:qo Tryz.prog 176=some XR:=by kernel_rfl
def XQ:TI:=⟨Kd.oth,1,8,Value.nilFunc⟩
theorem aVX:qo Tryz.prog 177=some XQ:=by kernel_rfl
def XP:TI:=⟨Kd.oth,1,8,Value.nilFunc⟩
theorem aVW:qo Tryz.prog 178=some XP:=by kernel_rfl
def XO:TI:=⟨Kd.oth,1,8,Value.nilFunc⟩
theorem aVV:qo Tryz.prog 179=some XO:=by kernel_rfl
def XN:TI:=⟨Kd.oth,1,8,Value.nilFunc⟩
theorem aVU:qo Tryz.prog 180=some XN:=by kernel_rfl
def XM:TI:=⟨Kd.oth,1,8,Value.nilFunc⟩
theorem aVT:qo Tryz.prog 181=some XM:=by kernel_rfl
def XL:TI:=⟨Kd.oth,1,8,Value.nilFunc⟩
theorem aVS:qo Tryz.prog 183=some XL:=by kernel_rfl
def XK:TI:=⟨Kd.oth,1,8,Value.nilFunc⟩
theorem aVR:qo Tryz.prog 184=some XK:=by kernel_rfl
def XJ:TI:=⟨Kd.sli 63,1,24,Value.slice none 0 0⟩
theorem aLC:qo Tryz.prog 185=some XJ:=by kernel_rfl
def XI:TI:=⟨Kd.oth,1,8,Value.nilFunc⟩
theorem aVQ:qo Tryz.prog 186=some XI:=by kernel_rfl
def XH:TI:=⟨Kd.oth,1,8,Value.nilFunc⟩
theorem aVP:qo Tryz.prog 187=some XH:=by kernel_rfl
def XG:TI:=⟨Kd.oth,1,8,Value.nilFunc⟩
theorem aVO:qo Tryz.prog 188=some XG:=by kernel_rfl
def XF:TI:=⟨Kd.oth,1,8,Value.nilFunc⟩
theorem aVN:qo Tryz.prog 189=some XF:=by kernel_rfl
def XE:TI:=⟨Kd.oth,1,8,Value.nilFunc⟩
theorem aVM:qo Tryz.prog 190=some XE:=by kernel_rfl
def XD:TI:=⟨Kd.oth,1,8,Value.nilFunc⟩
theorem aVL:qo Tryz.prog 191=some XD:=by kernel_rfl
def XC:TI:=⟨Kd.oth,1,8,Value.nilFunc⟩
theorem aVK:qo Tryz.prog 192=some XC:=by kernel_rfl
def XB:TI:=⟨Kd.oth,1,8,Value.nilFunc⟩
theorem aVJ:qo Tryz.prog 193=some XB:=by kernel_rfl
def XA:TI:=⟨Kd.oth,1,8,Value.nilFunc⟩
theorem aVI:qo Tryz.prog 194=some XA:=by kernel_rfl
def Xz:TI:=⟨Kd.oth,1,8,Value.nilFunc⟩
theorem aVH:qo Tryz.prog 195=some Xz:=by kernel_rfl
def Xy:TI:=⟨Kd.oth,1,8,Value.nilFunc⟩
theorem aVG:qo Tryz.prog 196=some Xy:=by kernel_rfl
def Xx:TI:=⟨Kd.oth,1,8,Value.nilFunc⟩
theorem aVF:qo Tryz.prog 197=some Xx:=by kernel_rfl
def Xw:TI:=⟨Kd.oth,1,8,Value.nilFunc⟩
theorem aVE:qo Tryz.prog 198=some Xw:=by kernel_rfl
def Xv:TI:=⟨Kd.oth,1,8,Value.nilFunc⟩
theorem aVD:qo Tryz.prog 199=some Xv:=by kernel_rfl
def Xu:TI:=⟨Kd.oth,1,8,Value.nilFunc⟩
theorem aVC:qo Tryz.prog 200=some Xu:=by kernel_rfl
def Xt:TI:=⟨Kd.oth,1,8,Value.nilFunc⟩
theorem aVB:qo Tryz.prog 201=some Xt:=by kernel_rfl
def Xs:TI:=⟨Kd.oth,1,8,Value.nilFunc⟩
theorem aVA:qo Tryz.prog 202=some Xs:=by kernel_rfl
def Xr:TI:=⟨Kd.oth,1,8,Value.nilFunc⟩
theorem aVz:qo Tryz.prog 203=some Xr:=by kernel_rfl
def Xq:TI:=⟨Kd.oth,1,8,Value.nilFunc⟩
theorem aVy:qo Tryz.prog 204=some Xq:=by kernel_rfl
def Xp:TI:=⟨Kd.oth,1,8,Value.nilFunc⟩
theorem aVx:qo Tryz.prog 205=some Xp:=by kernel_rfl
def Xo:TI:=⟨Kd.oth,1,8,Value.nilFunc⟩
theorem aVw:qo Tryz.prog 206=some Xo:=by kernel_rfl
def Xn:TI:=⟨Kd.oth,1,8,Value.nilFunc⟩
theorem aVv:qo Tryz.prog 208=some Xn:=by kernel_rfl
def Xm:TI:=⟨Kd.oth,1,8,Value.nilFunc⟩
theorem aVu:qo Tryz.prog 209=some Xm:=by kernel_rfl
def Xl:TI:=⟨Kd.oth,1,8,Value.nilFunc⟩
theorem aVt:qo Tryz.prog 210=some Xl:=by kernel_rfl
def Xk:TI:=⟨Kd.oth,1,8,Value.nilFunc⟩
theorem aVs:qo Tryz.prog 211=some Xk:=by kernel_rfl
def Xj:TI:=⟨Kd.oth,1,8,Value.nilFunc⟩
theorem aVr:qo Tryz.prog 212=some Xj:=by kernel_rfl
def Xi:TI:=⟨Kd.oth,1,8,Value.nilFunc⟩
theorem aVq:qo Tryz.prog 213=some Xi:=by kernel_rfl
def Xh:TI:=⟨Kd.oth,1,8,Value.nilFunc⟩
theorem aVp:qo Tryz.prog 214=some Xh:=by kernel_rfl
def Xg:TI:=⟨Kd.oth,1,8,Value.nilFunc⟩
theorem aVo:qo Tryz.prog 215=some Xg:=by kernel_rfl
def Xf:TI:=⟨Kd.oth,1,8,Value.nilFunc⟩
theorem aVn:qo Tryz.prog 216=some Xf:=by kernel_rfl
def Xe:TI:=⟨Kd.oth,1,8,Value.nilFunc⟩
theorem aVm:qo Tryz.prog 217=some Xe:=by kernel_rfl
def Xd:TI:=⟨Kd.oth,1,8,Value.nilFunc⟩
theorem aVl:qo Tryz.prog 218=some Xd:=by kernel_rfl
def Xc:TI:=⟨Kd.oth,1,8,Value.nilFunc⟩
theorem aVk:qo Tryz.prog 220=some Xc:=by kernel_rfl
def Xb:TI:=⟨Kd.oth,1,8,Value.nilFunc⟩
theorem aVj:qo Tryz.prog 221=some Xb:=by kernel_rfl
def Xa:TI:=⟨Kd.sli 100,1,24,Value.slice none 0 0⟩
theorem aLB:qo Tryz.prog 222=some Xa:=by kernel_rfl
def Y9:TI:=⟨Kd.oth,1,8,Value.nilFunc⟩
theorem aVi:qo Tryz.prog 223=some Y9:=by kernel_rfl
def Y8:TI:=⟨Kd.oth,1,8,Value.nilFunc⟩
theorem aVh:qo Tryz.prog 224=some Y8:=by kernel_rfl
def Y7:TI:=⟨Kd.oth,1,8,Value.nilFunc⟩
theorem aVg:qo Tryz.prog 225=some Y7:=by kernel_rfl
def Y6:TI:=⟨Kd.oth,1,8,Value.nilFunc⟩
theorem aVf:qo Tryz.prog 226=some Y6:=by kernel_rfl
def Y5:TI:=⟨Kd.oth,1,8,Value.nilFunc⟩
theorem aVe:qo Tryz.prog 227=some Y5:=by kernel_rfl
def Y4:TI:=⟨Kd.oth,1,8,Value.nilFunc⟩
theorem aVd:qo Tryz.prog 228=some Y4:=by kernel_rfl
def Y3:TI:=⟨Kd.oth,1,8,Value.nilFunc⟩
theorem aVc:qo Tryz.prog 229=some Y3:=by kernel_rfl
def Y2:TI:=⟨Kd.oth,1,8,Value.nilFunc⟩
theorem aVb:qo Tryz.prog 230=some Y2:=by kernel_rfl
def Y1:TI:=⟨Kd.oth,1,8,Value.nilFunc⟩
theorem aVa:qo Tryz.prog 232=some Y1:=by kernel_rfl
def Y0:TI:=⟨Kd.oth,1,8,Value.nilFunc⟩
theorem aU9:qo Tryz.prog 233=some Y0:=by kernel_rfl
def YZ:TI:=⟨Kd.oth,1,8,Value.nilFunc⟩
theorem aU8:qo Tryz.prog 234=some YZ:=by kernel_rfl
def YY:TI:=⟨Kd.oth,1,8,Value.nilFunc⟩
theorem aU7:qo Tryz.prog 235=some YY:=by kernel_rfl
def YX:TI:=⟨Kd.oth,1,8,Value.nilFunc⟩
theorem aU6:qo Tryz.prog 237=some YX:=by kernel_rfl
def YW:TI:=⟨Kd.oth,1,8,Value.nilFunc⟩
theorem aU5:qo Tryz.prog 238=some YW:=by kernel_rfl
def YV:TI:=⟨Kd.oth,1,8,Value.nilFunc⟩
theorem aU4:qo Tryz.prog 239=some YV:=by kernel_rfl
def YU:TI:=⟨Kd.oth,1,8,Value.nilFunc⟩
theorem aU2:qo Tryz.prog 240=some YU:=by kernel_rfl
def YT:TI:=⟨Kd.oth,1,8,Value.nilFunc⟩
theorem aU1:qo Tryz.prog 241=some YT:=by kernel_rfl
def YS:TI:=⟨Kd.int IntKind.u32,1,4,Value.int IntKind.u32 0⟩
theorem aU0:qo Tryz.prog 242=some YS:=by kernel_rfl
def YR:TI:=⟨Kd.oth,1,8,Value.nilFunc⟩
theorem aUZ:qo Tryz.prog 243=some YR:=by kernel_rfl
def YQ:TI:=⟨Kd.int IntKind.u64,1,8,Value.int IntKind.u64 0⟩
theorem aUY:qo Tryz.prog 244=some YQ:=by kernel_rfl
def YP:TI:=⟨Kd.oth,1,8,Value.nilFunc⟩
theorem aUX:qo Tryz.prog 245=some YP:=by kernel_rfl
def YO:TI:=⟨Kd.oth,1,8,Value.nilFunc⟩
theorem aUW:qo Tryz.prog 247=some YO:=by kernel_rfl
def YN:TI:=⟨Kd.oth,1,8,Value.nilFunc⟩
theorem aUV:qo Tryz.prog 248=some YN:=by kernel_rfl
def YM:TI:=⟨Kd.oth,1,8,Value.nilFunc⟩
theorem aUU:qo Tryz.prog 249=some YM:=by kernel_rfl
def YL:TI:=⟨Kd.oth,1,8,Value.nilFunc⟩
theorem aUT:qo Tryz.prog 250=some YL:=by kernel_rfl
def YK:TI:=⟨Kd.oth,1,8,Value.nilFunc⟩
theorem aUS:qo Tryz.prog 251=some YK:=by kernel_rfl
def YJ:TI:=⟨Kd.oth,1,8,Value.nilFunc⟩
theorem aUR:qo Tryz.prog 252=some YJ:=by kernel_rfl
def YI:TI:=⟨Kd.oth,1,8,Value.nilFunc⟩
theorem aUQ:qo Tryz.prog 253=some YI:=by kernel_rfl
def YH:TI:=⟨Kd.oth,1,8,Value.nilFunc⟩
theorem aUP:qo Tryz.prog 254=some YH:=by kernel_rfl
def YG:TI:=⟨Kd.oth,1,8,Value.nilFunc⟩
theorem aUO:qo Tryz.prog 255=some YG:=by kernel_rfl
def YF:TI:=⟨Kd.oth,1,8,Value.nilFunc⟩
theorem aUN:qo Tryz.prog 258=some YF:=by kernel_rfl
def YE:TI:=⟨Kd.stru [(0,261)],0,0,Value.agg ⟨[]⟩⟩
theorem aUM:qo Tryz.prog 262=some YE:=by kernel_rfl
def YD:TI:=⟨Kd.stru [(0,261)],0,0,Value.agg ⟨[]⟩⟩
theorem aUL:qo Tryz.prog 263=some YD:=by kernel_rfl
def YC:TI:=⟨Kd.int IntKind.u8,1,1,Value.int IntKind.u8 0⟩
theorem aUK:qo Tryz.prog 264=some YC:=by kernel_rfl
def YB:TI:=⟨Kd.int IntKind.u8,1,1,Value.int IntKind.u8 0⟩
theorem aUJ:qo Tryz.prog 265=some YB:=by kernel_rfl
def YA:TI:=⟨Kd.oth,1,8,Value.nilFunc⟩
theorem aUI:qo Tryz.prog 266=some YA:=by kernel_rfl
def Yz:TI:=⟨Kd.int IntKind.i32,1,4,Value.int IntKind.i32 0⟩
theorem aUH:qo Tryz.prog 268=some Yz:=by kernel_rfl
def Yy:TI:=⟨Kd.int IntKind.i32,1,4,Value.int IntKind.i32 0⟩
theorem aUG:qo Tryz.prog 269=some Yy:=by kernel_rfl
def Yw:TI:=⟨Kd.oth,1,8,Value.nilFunc⟩
theorem aUF:qo Tryz.prog 272=some Yw:=by kernel_rfl
def Yv:TI:=⟨Kd.oth,1,8,Value.nilFunc⟩
theorem aUE:qo Tryz.prog 273=some Yv:=by kernel_rfl
def Yu:TI:=⟨Kd.oth,1,8,Value.nilFunc⟩
theorem aUD:qo Tryz.prog 274=some Yu:=by kernel_rfl
theorem ty1{K:TI→Prop}:@tyW Tryz.prog 1 ⟨K⟩=K ti1:=qg tf1
theorem aLy:ti1.kd=Kd.oth:=ID rfl
theorem aGI:ti1.kd.agg=false:=ID rfl
theorem auo:ti1.size=1:=ID rfl
theorem ali:ti1.bytes=8:=ID rfl
theorem aLw:qv ti1=True:=eq_true rfl
theorem aLx:zc ti1=[.v Value.nilFunc]:=ID rfl
theorem ty2{K:TI→Prop}:@tyW Tryz.prog 2 ⟨K⟩=K ti2:=qg tf2
theorem aLv:ti2.kd=Kd.int IntKind.i64:=ID rfl
theorem aGg:ti2.kd.agg=false:=ID rfl
theorem arc:ti2.size=1:=ID rfl
theorem aj6:ti2.bytes=8:=ID rfl
theorem aLt:qv ti2=True:=eq_true rfl
theorem aLu:zc ti2=[.v (Value.int IntKind.i64 0)]:=ID rfl
theorem ty3{K:TI→Prop}:@tyW Tryz.prog 3 ⟨K⟩=K ti3:=qg tf3
theorem aLs:ti3.kd=Kd.int IntKind.i64:=ID rfl
theorem aFR:ti3.kd.agg=false:=ID rfl
theorem aq3:ti3.size=1:=ID rfl
theorem ajX:ti3.bytes=8:=ID rfl
theorem aLq:qv ti3=True:=eq_true rfl
theorem aLr:zc ti3=[.v (Value.int IntKind.i64 0)]:=ID rfl
theorem ty4{K:TI→Prop}:@tyW Tryz.prog 4 ⟨K⟩=K ti4:=qg tf4
theorem aLp:ti4.kd=Kd.bool:=ID rfl
theorem aFs:ti4.kd.agg=false:=ID rfl
theorem aqU:ti4.size=1:=ID rfl
theorem ajL:ti4.bytes=1:=ID rfl
theorem aLn:qv ti4=True:=eq_true rfl
theorem aLo:zc ti4=[.v (Value.bool false)]:=ID rfl
theorem ty5{K:TI→Prop}:@tyW Tryz.prog 5 ⟨K⟩=K ti5:=qg tf5
theorem aLm:ti5.kd=Kd.int IntKind.u8:=ID rfl
theorem aE3:ti5.kd.agg=false:=ID rfl
theorem aqL:ti5.size=1:=ID rfl
theorem ajC:ti5.bytes=1:=ID rfl
theorem aLk:qv ti5=True:=eq_true rfl
theorem aLl:zc ti5=[.v (Value.int IntKind.u8 0)]:=ID rfl
theorem ty6{K:TI→Prop}:@tyW Tryz.prog 6 ⟨K⟩=K ti6:=qg tf6
theorem aLj:ti6.kd=Kd.int IntKind.u8:=ID rfl
theorem aEE:ti6.kd.agg=false:=ID rfl
theorem aqC:ti6.size=1:=ID rfl
theorem ajt:ti6.bytes=1:=ID rfl
theorem aLh:qv ti6=True:=eq_true rfl
theorem aLi:zc ti6=[.v (Value.int IntKind.u8 0)]:=ID rfl
theorem ty7{K:TI→Prop}:@tyW Tryz.prog 7 ⟨K⟩=K ti7:=qg tf7
theorem aLg:ti7.kd=Kd.stru [(0,2),(1,3),(2,4),(3,6)]:=ID rfl
theorem aEi:ti7.kd.agg=true:=ID rfl
theorem aqu:ti7.size=4:=ID rfl
theorem ajl:ti7.bytes=24:=ID rfl
theorem aLe:qv ti7=True:=eq_true rfl
theorem aLf:zc ti7=[.v (Value.int IntKind.i64 0),.v (Value.int IntKind.i64 0),.v (Value.bool false),.v (Value.int IntKind.u8 0)]:=ID rfl
theorem aQQ{K:Nat→TI→Prop}:@qy Tryz.prog 7 0 ⟨K⟩=K 0 ti2:=qr (ti:=ti7) (tf:=ti2) (fo:=(0,2)) (fs:=[(0,2),(1,3),(2,4),(3,6)]) tf7 rfl rfl tf2
theorem aXg{K:Nat→Nat→Prop}:qs Tryz.prog [(0,2),(1,3),(2,4),(3,6)] 0 K=K 0 1:=qq (tf:=ti2) (fo:=(0,2)) (fs:=[(0,2),(1,3),(2,4),(3,6)]) rfl tf2
theorem aQP{K:Nat→TI→Prop}:@qy Tryz.prog 7 1 ⟨K⟩=K 1 ti3:=qr (ti:=ti7) (tf:=ti3) (fo:=(1,3)) (fs:=[(0,2),(1,3),(2,4),(3,6)]) tf7 rfl rfl tf3
theorem aXf{K:Nat→Nat→Prop}:qs Tryz.prog [(0,2),(1,3),(2,4),(3,6)] 1 K=K 1 1:=qq (tf:=ti3) (fo:=(1,3)) (fs:=[(0,2),(1,3),(2,4),(3,6)]) rfl tf3
theorem aQO{K:Nat→TI→Prop}:@qy Tryz.prog 7 2 ⟨K⟩=K 2 ti4:=qr (ti:=ti7) (tf:=ti4) (fo:=(2,4)) (fs:=[(0,2),(1,3),(2,4),(3,6)]) tf7 rfl rfl tf4
theorem aXe{K:Nat→Nat→Prop}:qs Tryz.prog [(0,2),(1,3),(2,4),(3,6)] 2 K=K 2 1:=qq (tf:=ti4) (fo:=(2,4)) (fs:=[(0,2),(1,3),(2,4),(3,6)]) rfl tf4
theorem aQN{K:Nat→TI→Prop}:@qy Tryz.prog 7 3 ⟨K⟩=K 3 ti6:=qr (ti:=ti7) (tf:=ti6) (fo:=(3,6)) (fs:=[(0,2),(1,3),(2,4),(3,6)]) tf7 rfl rfl tf6
theorem aXd{K:Nat→Nat→Prop}:qs Tryz.prog [(0,2),(1,3),(2,4),(3,6)] 3 K=K 3 1:=qq (tf:=ti6) (fo:=(3,6)) (fs:=[(0,2),(1,3),(2,4),(3,6)]) rfl tf6
theorem aXy:∀f∈([(0,2),(1,3),(2,4),(3,6)]:List (Nat×Nat)),(qo Tryz.prog f.2).isSome=true:=by
 intro f hf
 simp only[List.mem_cons,List.not_mem_nil,or_false]at hf
 rcases hf with rfl|rfl|rfl|rfl
 ·rw[tf2];rfl
 ·rw[tf3];rfl
 ·rw[tf4];rfl
 ·rw[tf6];rfl
theorem bb5{ps:List (Nat×AV)}{K:AV→Prop}:@q7 Tryz.prog 7 ps ⟨K⟩=@q8 (qs Tryz.prog [(0,2),(1,3),(2,4),(3,6)]) (zc ti7) ps ⟨fun cs=>K (.ag cs)⟩:=qK tf7 rfl aXy
theorem ty8{K:TI→Prop}:@tyW Tryz.prog 8 ⟨K⟩=K ti8:=qg tf8
theorem aLd:ti8.kd=Kd.stru [(0,2),(1,3),(2,4),(3,6)]:=ID rfl
theorem aDQ:ti8.kd.agg=true:=ID rfl
theorem aqk:ti8.size=4:=ID rfl
theorem ajb:ti8.bytes=24:=ID rfl
theorem aLb:qv ti8=True:=eq_true rfl
theorem aLc:zc ti8=[.v (Value.int IntKind.i64 0),.v (Value.int IntKind.i64 0),.v (Value.bool false),.v (Value.int IntKind.u8 0)]:=ID rfl
theorem aQM{K:Nat→TI→Prop}:@qy Tryz.prog 8 0 ⟨K⟩=K 0 ti2:=qr (ti:=ti8) (tf:=ti2) (fo:=(0,2)) (fs:=[(0,2),(1,3),(2,4),(3,6)]) tf8 rfl rfl tf2
theorem aXc{K:Nat→Nat→Prop}:qs Tryz.prog [(0,2),(1,3),(2,4),(3,6)] 0 K=K 0 1:=qq (tf:=ti2) (fo:=(0,2)) (fs:=[(0,2),(1,3),(2,4),(3,6)]) rfl tf2
theorem aQL{K:Nat→TI→Prop}:@qy Tryz.prog 8 1 ⟨K⟩=K 1 ti3:=qr (ti:=ti8) (tf:=ti3) (fo:=(1,3)) (fs:=[(0,2),(1,3),(2,4),(3,6)]) tf8 rfl rfl tf3
theorem aXb{K:Nat→Nat→Prop}:qs Tryz.prog [(0,2),(1,3),(2,4),(3,6)] 1 K=K 1 1:=qq (tf:=ti3) (fo:=(1,3)) (fs:=[(0,2),(1,3),(2,4),(3,6)]) rfl tf3
theorem aQK{K:Nat→TI→Prop}:@qy Tryz.prog 8 2 ⟨K⟩=K 2 ti4:=qr (ti:=ti8) (tf:=ti4) (fo:=(2,4)) (fs:=[(0,2),(1,3),(2,4),(3,6)]) tf8 rfl rfl tf4
theorem aXa{K:Nat→Nat→Prop}:qs Tryz.prog [(0,2),(1,3),(2,4),(3,6)] 2 K=K 2 1:=qq (tf:=ti4) (fo:=(2,4)) (fs:=[(0,2),(1,3),(2,4),(3,6)]) rfl tf4
theorem aQJ{K:Nat→TI→Prop}:@qy Tryz.prog 8 3 ⟨K⟩=K 3 ti6:=qr (ti:=ti8) (tf:=ti6) (fo:=(3,6)) (fs:=[(0,2),(1,3),(2,4),(3,6)]) tf8 rfl rfl tf6
theorem aW9{K:Nat→Nat→Prop}:qs Tryz.prog [(0,2),(1,3),(2,4),(3,6)] 3 K=K 3 1:=qq (tf:=ti6) (fo:=(3,6)) (fs:=[(0,2),(1,3),(2,4),(3,6)]) rfl tf6
theorem aXx:∀f∈([(0,2),(1,3),(2,4),(3,6)]:List (Nat×Nat)),(qo Tryz.prog f.2).isSome=true:=by
 intro f hf
 simp only[List.mem_cons,List.not_mem_nil,or_false]at hf
 rcases hf with rfl|rfl|rfl|rfl
 ·rw[tf2];rfl
 ·rw[tf3];rfl
 ·rw[tf4];rfl
 ·rw[tf6];rfl
theorem bb4{ps:List (Nat×AV)}{K:AV→Prop}:@q7 Tryz.prog 8 ps ⟨K⟩=@q8 (qs Tryz.prog [(0,2),(1,3),(2,4),(3,6)]) (zc ti8) ps ⟨fun cs=>K (.ag cs)⟩:=qK tf8 rfl aXx
theorem ty9{K:TI→Prop}:@tyW Tryz.prog 9 ⟨K⟩=K ti9:=qg tf9
theorem aLa:ti9.kd=Kd.str:=ID rfl
theorem aDr:ti9.kd.agg=false:=ID rfl
theorem aqb:ti9.size=1:=ID rfl
theorem ai2:ti9.bytes=16:=ID rfl
theorem aK8:qv ti9=True:=eq_true rfl
theorem aK9:zc ti9=[.v (Value.string {data:=⟨[]⟩})]:=ID rfl
theorem baO{K:TI→Prop}:@tyW Tryz.prog 10 ⟨K⟩=K aCB:=qg bbE
theorem aGR:aCB.kd=Kd.str:=ID rfl
theorem ayr:aCB.kd.agg=false:=ID rfl
theorem amJ:aCB.size=1:=ID rfl
theorem aht:aCB.bytes=16:=ID rfl
theorem aGP:qv aCB=True:=eq_true rfl
theorem aGQ:zc aCB=[.v (Value.string {data:=⟨[]⟩})]:=ID rfl
theorem baN{K:TI→Prop}:@tyW Tryz.prog 11 ⟨K⟩=K aCA:=qg bbD
theorem aGO:aCA.kd=Kd.str:=ID rfl
theorem axZ:aCA.kd.agg=false:=ID rfl
theorem amz:aCA.size=1:=ID rfl
theorem ahj:aCA.bytes=16:=ID rfl
theorem aGM:qv aCA=True:=eq_true rfl
theorem aGN:zc aCA=[.v (Value.string {data:=⟨[]⟩})]:=ID rfl
theorem baM{K:TI→Prop}:@tyW Tryz.prog 12 ⟨K⟩=K aCz:=qg bbC
theorem aGL:aCz.kd=Kd.int IntKind.u64:=ID rfl
theorem axu:aCz.kd.agg=false:=ID rfl
theorem amo:aCz.size=1:=ID rfl
theorem ag8:aCz.bytes=8:=ID rfl
theorem aGJ:qv aCz=True:=eq_true rfl
theorem aGK:zc aCz=[.v (Value.int IntKind.u64 0)]:=ID rfl
theorem baL{K:TI→Prop}:@tyW Tryz.prog 21 ⟨K⟩=K aCy:=qg bbB
theorem aGH:aCy.kd=Kd.int IntKind.i32:=ID rfl
theorem atv:aCy.kd.agg=false:=ID rfl
theorem akZ:aCy.size=1:=ID rfl
theorem afN:aCy.bytes=4:=ID rfl
theorem aGF:qv aCy=True:=eq_true rfl
theorem aGG:zc aCy=[.v (Value.int IntKind.i32 0)]:=ID rfl
theorem baK{K:TI→Prop}:@tyW Tryz.prog 22 ⟨K⟩=K adr:=qg aCD
theorem aGE:adr.kd=Kd.sli 5:=ID rfl
theorem as0:adr.kd.agg=false:=ID rfl
theorem akO:adr.size=1:=ID rfl
theorem afC:adr.bytes=24:=ID rfl
theorem aGC:qv adr=True:=eq_true rfl
theorem aGD:zc adr=[.v (Value.slice none 0 0)]:=ID rfl
theorem aWZ{K:TI→Prop}:@ye Tryz.prog 22 ⟨K⟩=K ti5:=Ql aCD rfl tf5
theorem baJ{K:TI→Prop}:@tyW Tryz.prog 23 ⟨K⟩=K Z0:=qg ads
theorem aGB:Z0.kd=Kd.sli 3:=ID rfl
theorem asB:Z0.kd.agg=false:=ID rfl
theorem akF:Z0.size=1:=ID rfl
theorem aft:Z0.bytes=24:=ID rfl
theorem aGz:qv Z0=True:=eq_true rfl
theorem aGA:zc Z0=[.v (Value.slice none 0 0)]:=ID rfl
theorem aWY{K:TI→Prop}:@ye Tryz.prog 23 ⟨K⟩=K ti3:=Ql ads rfl tf3
theorem baI{K:TI→Prop}:@tyW Tryz.prog 24 ⟨K⟩=K apT:=qg aU3
theorem aGy:apT.kd=Kd.stru [(0,23)]:=ID rfl
theorem ar9:apT.kd.agg=true:=ID rfl
theorem akv:apT.size=1:=ID rfl
theorem afj:apT.bytes=24:=ID rfl
theorem aGw:qv apT=True:=eq_true rfl
theorem aGx:zc apT=[.v (Value.slice none 0 0)]:=ID rfl
theorem aJz{K:Nat→TI→Prop}:@qy Tryz.prog 24 0 ⟨K⟩=K 0 Z0:=qr (ti:=apT) (tf:=Z0) (fo:=(0,23)) (fs:=[(0,23)]) aU3 rfl rfl ads
theorem aML{K:Nat→Nat→Prop}:qs Tryz.prog [(0,23)] 0 K=K 0 1:=qq (tf:=Z0) (fo:=(0,23)) (fs:=[(0,23)]) rfl ads
theorem aNm:∀f∈([(0,23)]:List (Nat×Nat)),(qo Tryz.prog f.2).isSome=true:=by
 intro f hf
 simp only[List.mem_cons,List.not_mem_nil,or_false]at hf
 subst hf;rw[ads];rfl
theorem aZm{ps:List (Nat×AV)}{K:AV→Prop}:@q7 Tryz.prog 24 ps ⟨K⟩=@q8 (qs Tryz.prog [(0,23)]) (zc apT) ps ⟨fun cs=>K (.ag cs)⟩:=qK aU3 rfl aNm
theorem baH{K:TI→Prop}:@tyW Tryz.prog 25 ⟨K⟩=K KP:=qg ayY
theorem aGv:KP.kd=Kd.stru [(0,23)]:=ID rfl
theorem arN:KP.kd.agg=true:=ID rfl
theorem akn:KP.size=1:=ID rfl
theorem afb:KP.bytes=24:=ID rfl
theorem aGt:qv KP=True:=eq_true rfl
theorem aGu:zc KP=[.v (Value.slice none 0 0)]:=ID rfl
theorem aJy{K:Nat→TI→Prop}:@qy Tryz.prog 25 0 ⟨K⟩=K 0 Z0:=qr (ti:=KP) (tf:=Z0) (fo:=(0,23)) (fs:=[(0,23)]) ayY rfl rfl ads
theorem aMK{K:Nat→Nat→Prop}:qs Tryz.prog [(0,23)] 0 K=K 0 1:=qq (tf:=Z0) (fo:=(0,23)) (fs:=[(0,23)]) rfl ads
theorem aNl:∀f∈([(0,23)]:List (Nat×Nat)),(qo Tryz.prog f.2).isSome=true:=by
 intro f hf
 simp only[List.mem_cons,List.not_mem_nil,or_false]at hf
 subst hf;rw[ads];rfl
theorem aZl{ps:List (Nat×AV)}{K:AV→Prop}:@q7 Tryz.prog 25 ps ⟨K⟩=@q8 (qs Tryz.prog [(0,23)]) (zc KP) ps ⟨fun cs=>K (.ag cs)⟩:=qK ayY rfl aNl
theorem baG{K:TI→Prop}:@tyW Tryz.prog 26 ⟨K⟩=K akm:=qg aR3
theorem aGs:akm.kd=Kd.stru [(0,4),(1,25)]:=ID rfl
theorem arq:akm.kd.agg=true:=ID rfl
theorem ake:akm.size=2:=ID rfl
theorem ae3:akm.bytes=32:=ID rfl
theorem aGq:qv akm=True:=eq_true rfl
theorem aGr:zc akm=[.v (Value.bool false),.v (Value.slice none 0 0)]:=ID rfl
theorem aJx{K:Nat→TI→Prop}:@qy Tryz.prog 26 0 ⟨K⟩=K 0 ti4:=qr (ti:=akm) (tf:=ti4) (fo:=(0,4)) (fs:=[(0,4),(1,25)]) aR3 rfl rfl tf4
theorem aMJ{K:Nat→Nat→Prop}:qs Tryz.prog [(0,4),(1,25)] 0 K=K 0 1:=qq (tf:=ti4) (fo:=(0,4)) (fs:=[(0,4),(1,25)]) rfl tf4
theorem aJw{K:Nat→TI→Prop}:@qy Tryz.prog 26 1 ⟨K⟩=K 1 KP:=qr (ti:=akm) (tf:=KP) (fo:=(1,25)) (fs:=[(0,4),(1,25)]) aR3 rfl rfl ayY
theorem aMI{K:Nat→Nat→Prop}:qs Tryz.prog [(0,4),(1,25)] 1 K=K 1 1:=qq (tf:=KP) (fo:=(1,25)) (fs:=[(0,4),(1,25)]) rfl ayY
theorem aNk:∀f∈([(0,4),(1,25)]:List (Nat×Nat)),(qo Tryz.prog f.2).isSome=true:=by
 intro f hf
 simp only[List.mem_cons,List.not_mem_nil,or_false]at hf
 rcases hf with rfl|rfl
 ·rw[tf4];rfl
 ·rw[ayY];rfl
theorem aZk{ps:List (Nat×AV)}{K:AV→Prop}:@q7 Tryz.prog 26 ps ⟨K⟩=@q8 (qs Tryz.prog [(0,4),(1,25)]) (zc akm) ps ⟨fun cs=>K (.ag cs)⟩:=qK aR3 rfl aNk
theorem baF{K:TI→Prop}:@tyW Tryz.prog 27 ⟨K⟩=K Yx:=qg apU
theorem aGp:Yx.kd=Kd.stru [(0,4),(1,25)]:=ID rfl
theorem arg:Yx.kd.agg=true:=ID rfl
theorem aka:Yx.size=2:=ID rfl
theorem aeZ:Yx.bytes=32:=ID rfl
theorem aGn:qv Yx=True:=eq_true rfl
theorem aGo:zc Yx=[.v (Value.bool false),.v (Value.slice none 0 0)]:=ID rfl
theorem aJv{K:Nat→TI→Prop}:@qy Tryz.prog 27 0 ⟨K⟩=K 0 ti4:=qr (ti:=Yx) (tf:=ti4) (fo:=(0,4)) (fs:=[(0,4),(1,25)]) apU rfl rfl tf4
theorem aMH{K:Nat→Nat→Prop}:qs Tryz.prog [(0,4),(1,25)] 0 K=K 0 1:=qq (tf:=ti4) (fo:=(0,4)) (fs:=[(0,4),(1,25)]) rfl tf4
theorem aJu{K:Nat→TI→Prop}:@qy Tryz.prog 27 1 ⟨K⟩=K 1 KP:=qr (ti:=Yx) (tf:=KP) (fo:=(1,25)) (fs:=[(0,4),(1,25)]) apU rfl rfl ayY
theorem aMG{K:Nat→Nat→Prop}:qs Tryz.prog [(0,4),(1,25)] 1 K=K 1 1:=qq (tf:=KP) (fo:=(1,25)) (fs:=[(0,4),(1,25)]) rfl ayY
theorem aNj:∀f∈([(0,4),(1,25)]:List (Nat×Nat)),(qo Tryz.prog f.2).isSome=true:=by
 intro f hf
 simp only[List.mem_cons,List.not_mem_nil,or_false]at hf
 rcases hf with rfl|rfl
 ·rw[tf4];rfl
 ·rw[ayY];rfl
theorem aZj{ps:List (Nat×AV)}{K:AV→Prop}:@q7 Tryz.prog 27 ps ⟨K⟩=@q8 (qs Tryz.prog [(0,4),(1,25)]) (zc Yx) ps ⟨fun cs=>K (.ag cs)⟩:=qK apU rfl aNj
theorem baE{K:TI→Prop}:@tyW Tryz.prog 28 ⟨K⟩=K aj9:=qg aR2
theorem aGm:aj9.kd=Kd.stru [(0,27),(2,3)]:=ID rfl
theorem arf:aj9.kd.agg=true:=ID rfl
theorem aj8:aj9.size=3:=ID rfl
theorem aeY:aj9.bytes=40:=ID rfl
theorem aGk:qv aj9=True:=eq_true rfl
theorem aGl:zc aj9=[.v (Value.bool false),.v (Value.slice none 0 0),.v (Value.int IntKind.i64 0)]:=ID rfl
theorem aJt{K:Nat→TI→Prop}:@qy Tryz.prog 28 0 ⟨K⟩=K 0 Yx:=qr (ti:=aj9) (tf:=Yx) (fo:=(0,27)) (fs:=[(0,27),(2,3)]) aR2 rfl rfl apU
theorem aMF{K:Nat→Nat→Prop}:qs Tryz.prog [(0,27),(2,3)] 0 K=K 0 2:=qq (tf:=Yx) (fo:=(0,27)) (fs:=[(0,27),(2,3)]) rfl apU
theorem aJs{K:Nat→TI→Prop}:@qy Tryz.prog 28 1 ⟨K⟩=K 2 ti3:=qr (ti:=aj9) (tf:=ti3) (fo:=(2,3)) (fs:=[(0,27),(2,3)]) aR2 rfl rfl tf3
theorem aME{K:Nat→Nat→Prop}:qs Tryz.prog [(0,27),(2,3)] 1 K=K 2 1:=qq (tf:=ti3) (fo:=(2,3)) (fs:=[(0,27),(2,3)]) rfl tf3
theorem aNi:∀f∈([(0,27),(2,3)]:List (Nat×Nat)),(qo Tryz.prog f.2).isSome=true:=by
 intro f hf
 simp only[List.mem_cons,List.not_mem_nil,or_false]at hf
 rcases hf with rfl|rfl
 ·rw[apU];rfl
 ·rw[tf3];rfl
theorem aZi{ps:List (Nat×AV)}{K:AV→Prop}:@q7 Tryz.prog 28 ps ⟨K⟩=@q8 (qs Tryz.prog [(0,27),(2,3)]) (zc aj9) ps ⟨fun cs=>K (.ag cs)⟩:=qK aR2 rfl aNi
theorem baD{K:TI→Prop}:@tyW Tryz.prog 29 ⟨K⟩=K QC:=qg VM
theorem aGj:QC.kd=Kd.stru [(0,27),(2,3)]:=ID rfl
theorem ard:QC.kd.agg=true:=ID rfl
theorem aj7:QC.size=3:=ID rfl
theorem aeX:QC.bytes=40:=ID rfl
theorem aGh:qv QC=True:=eq_true rfl
theorem aGi:zc QC=[.v (Value.bool false),.v (Value.slice none 0 0),.v (Value.int IntKind.i64 0)]:=ID rfl
theorem aJr{K:Nat→TI→Prop}:@qy Tryz.prog 29 0 ⟨K⟩=K 0 Yx:=qr (ti:=QC) (tf:=Yx) (fo:=(0,27)) (fs:=[(0,27),(2,3)]) VM rfl rfl apU
theorem aMD{K:Nat→Nat→Prop}:qs Tryz.prog [(0,27),(2,3)] 0 K=K 0 2:=qq (tf:=Yx) (fo:=(0,27)) (fs:=[(0,27),(2,3)]) rfl apU
theorem aJq{K:Nat→TI→Prop}:@qy Tryz.prog 29 1 ⟨K⟩=K 2 ti3:=qr (ti:=QC) (tf:=ti3) (fo:=(2,3)) (fs:=[(0,27),(2,3)]) VM rfl rfl tf3
theorem aMC{K:Nat→Nat→Prop}:qs Tryz.prog [(0,27),(2,3)] 1 K=K 2 1:=qq (tf:=ti3) (fo:=(2,3)) (fs:=[(0,27),(2,3)]) rfl tf3
theorem aNh:∀f∈([(0,27),(2,3)]:List (Nat×Nat)),(qo Tryz.prog f.2).isSome=true:=by
 intro f hf
 simp only[List.mem_cons,List.not_mem_nil,or_false]at hf
 rcases hf with rfl|rfl
 ·rw[apU];rfl
 ·rw[tf3];rfl
theorem aZh{ps:List (Nat×AV)}{K:AV→Prop}:@q7 Tryz.prog 29 ps ⟨K⟩=@q8 (qs Tryz.prog [(0,27),(2,3)]) (zc QC) ps ⟨fun cs=>K (.ag cs)⟩:=qK VM rfl aNh
theorem baC{K:TI→Prop}:@tyW Tryz.prog 31 ⟨K⟩=K aCx:=qg bbA
theorem aGf:aCx.kd=Kd.oth:=ID rfl
theorem arb:aCx.kd.agg=false:=ID rfl
theorem aj5:aCx.size=1:=ID rfl
theorem aeW:aCx.bytes=8:=ID rfl
theorem aGd:qv aCx=True:=eq_true rfl
theorem aGe:zc aCx=[.v Value.nilFunc]:=ID rfl
theorem baB{K:TI→Prop}:@tyW Tryz.prog 33 ⟨K⟩=K aCw:=qg bbz
theorem aGc:aCw.kd=Kd.oth:=ID rfl
theorem ara:aCw.kd.agg=false:=ID rfl
theorem aj4:aCw.size=1:=ID rfl
theorem aeV:aCw.bytes=8:=ID rfl
theorem aGa:qv aCw=True:=eq_true rfl
theorem aGb:zc aCw=[.v Value.nilFunc]:=ID rfl
theorem baA{K:TI→Prop}:@tyW Tryz.prog 34 ⟨K⟩=K aCv:=qg bby
theorem aF9:aCv.kd=Kd.oth:=ID rfl
theorem aq9:aCv.kd.agg=false:=ID rfl
theorem aj3:aCv.size=1:=ID rfl
theorem aeU:aCv.bytes=8:=ID rfl
theorem aF7:qv aCv=True:=eq_true rfl
theorem aF8:zc aCv=[.v Value.nilFunc]:=ID rfl
theorem baz{K:TI→Prop}:@tyW Tryz.prog 35 ⟨K⟩=K aCu:=qg bbx
theorem aF6:aCu.kd=Kd.oth:=ID rfl
theorem aq8:aCu.kd.agg=false:=ID rfl
theorem aj2:aCu.size=1:=ID rfl
theorem aeT:aCu.bytes=8:=ID rfl
theorem aF4:qv aCu=True:=eq_true rfl
theorem aF5:zc aCu=[.v Value.nilFunc]:=ID rfl
theorem bay{K:TI→Prop}:@tyW Tryz.prog 36 ⟨K⟩=K aCt:=qg bbw
theorem aF3:aCt.kd=Kd.oth:=ID rfl
theorem aq7:aCt.kd.agg=false:=ID rfl
theorem aj1:aCt.size=1:=ID rfl
theorem aeS:aCt.bytes=8:=ID rfl
theorem aF1:qv aCt=True:=eq_true rfl
theorem aF2:zc aCt=[.v Value.nilFunc]:=ID rfl
theorem bax{K:TI→Prop}:@tyW Tryz.prog 37 ⟨K⟩=K aCs:=qg bbv
theorem aF0:aCs.kd=Kd.oth:=ID rfl
theorem aq6:aCs.kd.agg=false:=ID rfl
theorem aj0:aCs.size=1:=ID rfl
theorem aeR:aCs.bytes=8:=ID rfl
theorem aFY:qv aCs=True:=eq_true rfl
theorem aFZ:zc aCs=[.v Value.nilFunc]:=ID rfl
theorem baw{K:TI→Prop}:@tyW Tryz.prog 38 ⟨K⟩=K aCr:=qg bbu
theorem aFX:aCr.kd=Kd.oth:=ID rfl
theorem aq5:aCr.kd.agg=false:=ID rfl
theorem ajZ:aCr.size=1:=ID rfl
theorem aeQ:aCr.bytes=8:=ID rfl
theorem aFV:qv aCr=True:=eq_true rfl
theorem aFW:zc aCr=[.v Value.nilFunc]:=ID rfl
theorem bav{K:TI→Prop}:@tyW Tryz.prog 39 ⟨K⟩=K aCq:=qg bbt
theorem aFU:aCq.kd=Kd.oth:=ID rfl
theorem aq4:aCq.kd.agg=false:=ID rfl
theorem ajY:aCq.size=1:=ID rfl
theorem aeP:aCq.bytes=8:=ID rfl
theorem aFS:qv aCq=True:=eq_true rfl
theorem aFT:zc aCq=[.v Value.nilFunc]:=ID rfl
theorem bau{K:TI→Prop}:@tyW Tryz.prog 40 ⟨K⟩=K adq:=qg aCC
theorem aFQ:adq.kd=Kd.sli 29:=ID rfl
theorem aq2:adq.kd.agg=false:=ID rfl
theorem ajW:adq.size=1:=ID rfl
theorem aeO:adq.bytes=24:=ID rfl
theorem aFO:qv adq=True:=eq_true rfl
theorem aFP:zc adq=[.v (Value.slice none 0 0)]:=ID rfl
theorem aWX{K:TI→Prop}:@ye Tryz.prog 40 ⟨K⟩=K QC:=Ql aCC rfl VM
theorem bat{K:TI→Prop}:@tyW Tryz.prog 41 ⟨K⟩=K ajV:=qg aR1
theorem aFN:ajV.kd=Kd.stru [(0,3),(1,40)]:=ID rfl
theorem aq1:ajV.kd.agg=true:=ID rfl
theorem ajU:ajV.size=2:=ID rfl
theorem aeN:ajV.bytes=32:=ID rfl
theorem aFL:qv ajV=True:=eq_true rfl
theorem aFM:zc ajV=[.v (Value.int IntKind.i64 0),.v (Value.slice none 0 0)]:=ID rfl
theorem aJp{K:Nat→TI→Prop}:@qy Tryz.prog 41 0 ⟨K⟩=K 0 ti3:=qr (ti:=ajV) (tf:=ti3) (fo:=(0,3)) (fs:=[(0,3),(1,40)]) aR1 rfl rfl tf3
theorem aMB{K:Nat→Nat→Prop}:qs Tryz.prog [(0,3),(1,40)] 0 K=K 0 1:=qq (tf:=ti3) (fo:=(0,3)) (fs:=[(0,3),(1,40)]) rfl tf3
theorem aJo{K:Nat→TI→Prop}:@qy Tryz.prog 41 1 ⟨K⟩=K 1 adq:=qr (ti:=ajV) (tf:=adq) (fo:=(1,40)) (fs:=[(0,3),(1,40)]) aR1 rfl rfl aCC
theorem aMA{K:Nat→Nat→Prop}:qs Tryz.prog [(0,3),(1,40)] 1 K=K 1 1:=qq (tf:=adq) (fo:=(1,40)) (fs:=[(0,3),(1,40)]) rfl aCC
theorem aNg:∀f∈([(0,3),(1,40)]:List (Nat×Nat)),(qo Tryz.prog f.2).isSome=true:=by
 intro f hf
 simp only[List.mem_cons,List.not_mem_nil,or_false]at hf
 rcases hf with rfl|rfl
 ·rw[tf3];rfl
 ·rw[aCC];rfl
theorem aZg{ps:List (Nat×AV)}{K:AV→Prop}:@q7 Tryz.prog 41 ps ⟨K⟩=@q8 (qs Tryz.prog [(0,3),(1,40)]) (zc ajV) ps ⟨fun cs=>K (.ag cs)⟩:=qK aR1 rfl aNg
theorem bas{K:TI→Prop}:@tyW Tryz.prog 42 ⟨K⟩=K ajT:=qg aR0
theorem aFK:ajT.kd=Kd.stru [(0,3),(1,40)]:=ID rfl
theorem aq0:ajT.kd.agg=true:=ID rfl
theorem ajS:ajT.size=2:=ID rfl
theorem aeM:ajT.bytes=32:=ID rfl
theorem aFI:qv ajT=True:=eq_true rfl
theorem aFJ:zc ajT=[.v (Value.int IntKind.i64 0),.v (Value.slice none 0 0)]:=ID rfl
theorem aJn{K:Nat→TI→Prop}:@qy Tryz.prog 42 0 ⟨K⟩=K 0 ti3:=qr (ti:=ajT) (tf:=ti3) (fo:=(0,3)) (fs:=[(0,3),(1,40)]) aR0 rfl rfl tf3
theorem aMz{K:Nat→Nat→Prop}:qs Tryz.prog [(0,3),(1,40)] 0 K=K 0 1:=qq (tf:=ti3) (fo:=(0,3)) (fs:=[(0,3),(1,40)]) rfl tf3
theorem aJm{K:Nat→TI→Prop}:@qy Tryz.prog 42 1 ⟨K⟩=K 1 adq:=qr (ti:=ajT) (tf:=adq) (fo:=(1,40)) (fs:=[(0,3),(1,40)]) aR0 rfl rfl aCC
theorem aMy{K:Nat→Nat→Prop}:qs Tryz.prog [(0,3),(1,40)] 1 K=K 1 1:=qq (tf:=adq) (fo:=(1,40)) (fs:=[(0,3),(1,40)]) rfl aCC
theorem aNf:∀f∈([(0,3),(1,40)]:List (Nat×Nat)),(qo Tryz.prog f.2).isSome=true:=by
 intro f hf
 simp only[List.mem_cons,List.not_mem_nil,or_false]at hf
 rcases hf with rfl|rfl
 ·rw[tf3];rfl
 ·rw[aCC];rfl
theorem aZf{ps:List (Nat×AV)}{K:AV→Prop}:@q7 Tryz.prog 42 ps ⟨K⟩=@q8 (qs Tryz.prog [(0,3),(1,40)]) (zc ajT) ps ⟨fun cs=>K (.ag cs)⟩:=qK aR0 rfl aNf
theorem bar{K:TI→Prop}:@tyW Tryz.prog 44 ⟨K⟩=K aCp:=qg bbs
theorem aFH:aCp.kd=Kd.oth:=ID rfl
theorem aqZ:aCp.kd.agg=false:=ID rfl
theorem ajR:aCp.size=1:=ID rfl
theorem aeL:aCp.bytes=8:=ID rfl
theorem aFF:qv aCp=True:=eq_true rfl
theorem aFG:zc aCp=[.v Value.nilFunc]:=ID rfl
theorem baq{K:TI→Prop}:@tyW Tryz.prog 45 ⟨K⟩=K aCo:=qg bbr
theorem aFE:aCo.kd=Kd.oth:=ID rfl
theorem aqY:aCo.kd.agg=false:=ID rfl
theorem ajQ:aCo.size=1:=ID rfl
theorem aeK:aCo.bytes=8:=ID rfl
theorem aFC:qv aCo=True:=eq_true rfl
theorem aFD:zc aCo=[.v Value.nilFunc]:=ID rfl
theorem bap{K:TI→Prop}:@tyW Tryz.prog 47 ⟨K⟩=K aCn:=qg bbq
theorem aFB:aCn.kd=Kd.oth:=ID rfl
theorem aqX:aCn.kd.agg=false:=ID rfl
theorem ajP:aCn.size=1:=ID rfl
theorem aeJ:aCn.bytes=8:=ID rfl
theorem aFz:qv aCn=True:=eq_true rfl
theorem aFA:zc aCn=[.v Value.nilFunc]:=ID rfl
theorem bao{K:TI→Prop}:@tyW Tryz.prog 48 ⟨K⟩=K aCm:=qg bbp
theorem aFy:aCm.kd=Kd.oth:=ID rfl
theorem aqW:aCm.kd.agg=false:=ID rfl
theorem ajO:aCm.size=1:=ID rfl
theorem aeI:aCm.bytes=8:=ID rfl
theorem aFw:qv aCm=True:=eq_true rfl
theorem aFx:zc aCm=[.v Value.nilFunc]:=ID rfl
theorem ban{K:TI→Prop}:@tyW Tryz.prog 49 ⟨K⟩=K ajN:=qg aRZ
theorem aFv:ajN.kd=Kd.stru [(0,29),(3,29)]:=ID rfl
theorem aqV:ajN.kd.agg=true:=ID rfl
theorem ajM:ajN.size=6:=ID rfl
theorem aeH:ajN.bytes=80:=ID rfl
theorem aFt:qv ajN=True:=eq_true rfl
theorem aFu:zc ajN=[.v (Value.bool false),.v (Value.slice none 0 0),.v (Value.int IntKind.i64 0),.v (Value.bool false),.v (Value.slice none 0 0),.v (Value.int IntKind.i64 0)]:=ID rfl
theorem aJl{K:Nat→TI→Prop}:@qy Tryz.prog 49 0 ⟨K⟩=K 0 QC:=qr (ti:=ajN) (tf:=QC) (fo:=(0,29)) (fs:=[(0,29),(3,29)]) aRZ rfl rfl VM
theorem aMx{K:Nat→Nat→Prop}:qs Tryz.prog [(0,29),(3,29)] 0 K=K 0 3:=qq (tf:=QC) (fo:=(0,29)) (fs:=[(0,29),(3,29)]) rfl VM
theorem aJk{K:Nat→TI→Prop}:@qy Tryz.prog 49 1 ⟨K⟩=K 3 QC:=qr (ti:=ajN) (tf:=QC) (fo:=(3,29)) (fs:=[(0,29),(3,29)]) aRZ rfl rfl VM
theorem aMw{K:Nat→Nat→Prop}:qs Tryz.prog [(0,29),(3,29)] 1 K=K 3 3:=qq (tf:=QC) (fo:=(3,29)) (fs:=[(0,29),(3,29)]) rfl VM
theorem aNe:∀f∈([(0,29),(3,29)]:List (Nat×Nat)),(qo Tryz.prog f.2).isSome=true:=by
 intro f hf
 simp only[List.mem_cons,List.not_mem_nil,or_false]at hf
 rcases hf with rfl|rfl
 ·rw[VM];rfl
 ·rw[VM];rfl
theorem aZe{ps:List (Nat×AV)}{K:AV→Prop}:@q7 Tryz.prog 49 ps ⟨K⟩=@q8 (qs Tryz.prog [(0,29),(3,29)]) (zc ajN) ps ⟨fun cs=>K (.ag cs)⟩:=qK aRZ rfl aNe
theorem bam{K:TI→Prop}:@tyW Tryz.prog 50 ⟨K⟩=K aiQ:=qg aLA
theorem aFr:aiQ.kd=Kd.stru [(0,29),(3,29)]:=ID rfl
theorem aqT:aiQ.kd.agg=true:=ID rfl
theorem ajK:aiQ.size=6:=ID rfl
theorem aeG:aiQ.bytes=80:=ID rfl
theorem aFp:qv aiQ=True:=eq_true rfl
theorem aFq:zc aiQ=[.v (Value.bool false),.v (Value.slice none 0 0),.v (Value.int IntKind.i64 0),.v (Value.bool false),.v (Value.slice none 0 0),.v (Value.int IntKind.i64 0)]:=ID rfl
theorem aJj{K:Nat→TI→Prop}:@qy Tryz.prog 50 0 ⟨K⟩=K 0 QC:=qr (ti:=aiQ) (tf:=QC) (fo:=(0,29)) (fs:=[(0,29),(3,29)]) aLA rfl rfl VM
theorem aMv{K:Nat→Nat→Prop}:qs Tryz.prog [(0,29),(3,29)] 0 K=K 0 3:=qq (tf:=QC) (fo:=(0,29)) (fs:=[(0,29),(3,29)]) rfl VM
theorem aJi{K:Nat→TI→Prop}:@qy Tryz.prog 50 1 ⟨K⟩=K 3 QC:=qr (ti:=aiQ) (tf:=QC) (fo:=(3,29)) (fs:=[(0,29),(3,29)]) aLA rfl rfl VM
theorem aMu{K:Nat→Nat→Prop}:qs Tryz.prog [(0,29),(3,29)] 1 K=K 3 3:=qq (tf:=QC) (fo:=(3,29)) (fs:=[(0,29),(3,29)]) rfl VM
theorem aNd:∀f∈([(0,29),(3,29)]:List (Nat×Nat)),(qo Tryz.prog f.2).isSome=true:=by
 intro f hf
 simp only[List.mem_cons,List.not_mem_nil,or_false]at hf
 rcases hf with rfl|rfl
 ·rw[VM];rfl
 ·rw[VM];rfl
theorem aZd{ps:List (Nat×AV)}{K:AV→Prop}:@q7 Tryz.prog 50 ps ⟨K⟩=@q8 (qs Tryz.prog [(0,29),(3,29)]) (zc aiQ) ps ⟨fun cs=>K (.ag cs)⟩:=qK aLA rfl aNd
theorem bal{K:TI→Prop}:@tyW Tryz.prog 52 ⟨K⟩=K aCl:=qg bbo
theorem aFo:aCl.kd=Kd.oth:=ID rfl
theorem aqS:aCl.kd.agg=false:=ID rfl
theorem ajJ:aCl.size=1:=ID rfl
theorem aeF:aCl.bytes=8:=ID rfl
theorem aFm:qv aCl=True:=eq_true rfl
theorem aFn:zc aCl=[.v Value.nilFunc]:=ID rfl
theorem bak{K:TI→Prop}:@tyW Tryz.prog 54 ⟨K⟩=K aCk:=qg bbn
theorem aFl:aCk.kd=Kd.oth:=ID rfl
theorem aqR:aCk.kd.agg=false:=ID rfl
theorem ajI:aCk.size=1:=ID rfl
theorem aeE:aCk.bytes=8:=ID rfl
theorem aFj:qv aCk=True:=eq_true rfl
theorem aFk:zc aCk=[.v Value.nilFunc]:=ID rfl
theorem baj{K:TI→Prop}:@tyW Tryz.prog 55 ⟨K⟩=K aCj:=qg bbm
theorem aFi:aCj.kd=Kd.oth:=ID rfl
theorem aqQ:aCj.kd.agg=false:=ID rfl
theorem ajH:aCj.size=1:=ID rfl
theorem aeD:aCj.bytes=8:=ID rfl
theorem aFg:qv aCj=True:=eq_true rfl
theorem aFh:zc aCj=[.v Value.nilFunc]:=ID rfl
theorem bai{K:TI→Prop}:@tyW Tryz.prog 56 ⟨K⟩=K aCi:=qg bbl
theorem aFf:aCi.kd=Kd.oth:=ID rfl
theorem aqP:aCi.kd.agg=false:=ID rfl
theorem ajG:aCi.size=1:=ID rfl
theorem aeC:aCi.bytes=8:=ID rfl
theorem aFd:qv aCi=True:=eq_true rfl
theorem aFe:zc aCi=[.v Value.nilFunc]:=ID rfl
theorem bah{K:TI→Prop}:@tyW Tryz.prog 57 ⟨K⟩=K aCh:=qg bbk
theorem aFc:aCh.kd=Kd.oth:=ID rfl
theorem aqO:aCh.kd.agg=false:=ID rfl
theorem ajF:aCh.size=1:=ID rfl
theorem aeB:aCh.bytes=8:=ID rfl
theorem aFa:qv aCh=True:=eq_true rfl
theorem aFb:zc aCh=[.v Value.nilFunc]:=ID rfl
theorem bag{K:TI→Prop}:@tyW Tryz.prog 58 ⟨K⟩=K aCg:=qg bbj
theorem aE9:aCg.kd=Kd.oth:=ID rfl
theorem aqN:aCg.kd.agg=false:=ID rfl
theorem ajE:aCg.size=1:=ID rfl
theorem aeA:aCg.bytes=8:=ID rfl
theorem aE7:qv aCg=True:=eq_true rfl
theorem aE8:zc aCg=[.v Value.nilFunc]:=ID rfl
theorem baf{K:TI→Prop}:@tyW Tryz.prog 59 ⟨K⟩=K aCf:=qg bbi
theorem aE6:aCf.kd=Kd.oth:=ID rfl
theorem aqM:aCf.kd.agg=false:=ID rfl
theorem ajD:aCf.size=1:=ID rfl
theorem aez:aCf.bytes=8:=ID rfl
theorem aE4:qv aCf=True:=eq_true rfl
theorem aE5:zc aCf=[.v Value.nilFunc]:=ID rfl
theorem bae{K:TI→Prop}:@tyW Tryz.prog 60 ⟨K⟩=K aCe:=qg bbh
theorem aE2:aCe.kd=Kd.oth:=ID rfl
theorem aqK:aCe.kd.agg=false:=ID rfl
theorem ajB:aCe.size=1:=ID rfl
theorem aey:aCe.bytes=8:=ID rfl
theorem aE0:qv aCe=True:=eq_true rfl
theorem aE1:zc aCe=[.v Value.nilFunc]:=ID rfl
theorem bac{K:TI→Prop}:@tyW Tryz.prog 61 ⟨K⟩=K aCd:=qg bbg
theorem aEZ:aCd.kd=Kd.oth:=ID rfl
theorem aqJ:aCd.kd.agg=false:=ID rfl
theorem ajA:aCd.size=1:=ID rfl
theorem aex:aCd.bytes=8:=ID rfl
theorem aEX:qv aCd=True:=eq_true rfl
theorem aEY:zc aCd=[.v Value.nilFunc]:=ID rfl
theorem bab{K:TI→Prop}:@tyW Tryz.prog 62 ⟨K⟩=K aew:=qg aKO
theorem aEW:aew.kd=Kd.stru [(0,3),(1,4),(2,3),(3,3)]:=ID rfl
theorem aqI:aew.kd.agg=true:=ID rfl
theorem ajz:aew.size=4:=ID rfl
theorem aev:aew.bytes=32:=ID rfl
theorem aEU:qv aew=True:=eq_true rfl
theorem aEV:zc aew=[.v (Value.int IntKind.i64 0),.v (Value.bool false),.v (Value.int IntKind.i64 0),.v (Value.int IntKind.i64 0)]:=ID rfl
theorem aJh{K:Nat→TI→Prop}:@qy Tryz.prog 62 0 ⟨K⟩=K 0 ti3:=qr (ti:=aew) (tf:=ti3) (fo:=(0,3)) (fs:=[(0,3),(1,4),(2,3),(3,3)]) aKO rfl rfl tf3
theorem aMt{K:Nat→Nat→Prop}:qs Tryz.prog [(0,3),(1,4),(2,3),(3,3)] 0 K=K 0 1:=qq (tf:=ti3) (fo:=(0,3)) (fs:=[(0,3),(1,4),(2,3),(3,3)]) rfl tf3
theorem aJg{K:Nat→TI→Prop}:@qy Tryz.prog 62 1 ⟨K⟩=K 1 ti4:=qr (ti:=aew) (tf:=ti4) (fo:=(1,4)) (fs:=[(0,3),(1,4),(2,3),(3,3)]) aKO rfl rfl tf4
theorem aMs{K:Nat→Nat→Prop}:qs Tryz.prog [(0,3),(1,4),(2,3),(3,3)] 1 K=K 1 1:=qq (tf:=ti4) (fo:=(1,4)) (fs:=[(0,3),(1,4),(2,3),(3,3)]) rfl tf4
theorem aJf{K:Nat→TI→Prop}:@qy Tryz.prog 62 2 ⟨K⟩=K 2 ti3:=qr (ti:=aew) (tf:=ti3) (fo:=(2,3)) (fs:=[(0,3),(1,4),(2,3),(3,3)]) aKO rfl rfl tf3
theorem aMr{K:Nat→Nat→Prop}:qs Tryz.prog [(0,3),(1,4),(2,3),(3,3)] 2 K=K 2 1:=qq (tf:=ti3) (fo:=(2,3)) (fs:=[(0,3),(1,4),(2,3),(3,3)]) rfl tf3
theorem aJe{K:Nat→TI→Prop}:@qy Tryz.prog 62 3 ⟨K⟩=K 3 ti3:=qr (ti:=aew) (tf:=ti3) (fo:=(3,3)) (fs:=[(0,3),(1,4),(2,3),(3,3)]) aKO rfl rfl tf3
theorem aMq{K:Nat→Nat→Prop}:qs Tryz.prog [(0,3),(1,4),(2,3),(3,3)] 3 K=K 3 1:=qq (tf:=ti3) (fo:=(3,3)) (fs:=[(0,3),(1,4),(2,3),(3,3)]) rfl tf3
theorem aNc:∀f∈([(0,3),(1,4),(2,3),(3,3)]:List (Nat×Nat)),(qo Tryz.prog f.2).isSome=true:=by
 intro f hf
 simp only[List.mem_cons,List.not_mem_nil,or_false]at hf
 rcases hf with rfl|rfl|rfl|rfl
 ·rw[tf3];rfl
 ·rw[tf4];rfl
 ·rw[tf3];rfl
 ·rw[tf3];rfl
theorem aZc{ps:List (Nat×AV)}{K:AV→Prop}:@q7 Tryz.prog 62 ps ⟨K⟩=@q8 (qs Tryz.prog [(0,3),(1,4),(2,3),(3,3)]) (zc aew) ps ⟨fun cs=>K (.ag cs)⟩:=qK aKO rfl aNc
theorem baa{K:TI→Prop}:@tyW Tryz.prog 63 ⟨K⟩=K adp:=qg aGS
theorem aET:adp.kd=Kd.stru [(0,3),(1,4),(2,3),(3,3)]:=ID rfl
theorem aqH:adp.kd.agg=true:=ID rfl
theorem ajy:adp.size=4:=ID rfl
theorem aeu:adp.bytes=32:=ID rfl
theorem aER:qv adp=True:=eq_true rfl
theorem aES:zc adp=[.v (Value.int IntKind.i64 0),.v (Value.bool false),.v (Value.int IntKind.i64 0),.v (Value.int IntKind.i64 0)]:=ID rfl
theorem aJd{K:Nat→TI→Prop}:@qy Tryz.prog 63 0 ⟨K⟩=K 0 ti3:=qr (ti:=adp) (tf:=ti3) (fo:=(0,3)) (fs:=[(0,3),(1,4),(2,3),(3,3)]) aGS rfl rfl tf3
theorem aMp{K:Nat→Nat→Prop}:qs Tryz.prog [(0,3),(1,4),(2,3),(3,3)] 0 K=K 0 1:=qq (tf:=ti3) (fo:=(0,3)) (fs:=[(0,3),(1,4),(2,3),(3,3)]) rfl tf3
theorem aJc{K:Nat→TI→Prop}:@qy Tryz.prog 63 1 ⟨K⟩=K 1 ti4:=qr (ti:=adp) (tf:=ti4) (fo:=(1,4)) (fs:=[(0,3),(1,4),(2,3),(3,3)]) aGS rfl rfl tf4
theorem aMo{K:Nat→Nat→Prop}:qs Tryz.prog [(0,3),(1,4),(2,3),(3,3)] 1 K=K 1 1:=qq (tf:=ti4) (fo:=(1,4)) (fs:=[(0,3),(1,4),(2,3),(3,3)]) rfl tf4
theorem aJb{K:Nat→TI→Prop}:@qy Tryz.prog 63 2 ⟨K⟩=K 2 ti3:=qr (ti:=adp) (tf:=ti3) (fo:=(2,3)) (fs:=[(0,3),(1,4),(2,3),(3,3)]) aGS rfl rfl tf3
theorem aMn{K:Nat→Nat→Prop}:qs Tryz.prog [(0,3),(1,4),(2,3),(3,3)] 2 K=K 2 1:=qq (tf:=ti3) (fo:=(2,3)) (fs:=[(0,3),(1,4),(2,3),(3,3)]) rfl tf3
theorem aJa{K:Nat→TI→Prop}:@qy Tryz.prog 63 3 ⟨K⟩=K 3 ti3:=qr (ti:=adp) (tf:=ti3) (fo:=(3,3)) (fs:=[(0,3),(1,4),(2,3),(3,3)]) aGS rfl rfl tf3
theorem aMm{K:Nat→Nat→Prop}:qs Tryz.prog [(0,3),(1,4),(2,3),(3,3)] 3 K=K 3 1:=qq (tf:=ti3) (fo:=(3,3)) (fs:=[(0,3),(1,4),(2,3),(3,3)]) rfl tf3
theorem aNb:∀f∈([(0,3),(1,4),(2,3),(3,3)]:List (Nat×Nat)),(qo Tryz.prog f.2).isSome=true:=by
 intro f hf
 simp only[List.mem_cons,List.not_mem_nil,or_false]at hf
 rcases hf with rfl|rfl|rfl|rfl
 ·rw[tf3];rfl
 ·rw[tf4];rfl
 ·rw[tf3];rfl
 ·rw[tf3];rfl
theorem aZb{ps:List (Nat×AV)}{K:AV→Prop}:@q7 Tryz.prog 63 ps ⟨K⟩=@q8 (qs Tryz.prog [(0,3),(1,4),(2,3),(3,3)]) (zc adp) ps ⟨fun cs=>K (.ag cs)⟩:=qK aGS rfl aNb
theorem aZ9{K:TI→Prop}:@tyW Tryz.prog 65 ⟨K⟩=K aCc:=qg bbf
theorem aEQ:aCc.kd=Kd.oth:=ID rfl
theorem aqG:aCc.kd.agg=false:=ID rfl
theorem ajx:aCc.size=1:=ID rfl
theorem aet:aCc.bytes=8:=ID rfl
theorem aEO:qv aCc=True:=eq_true rfl
theorem aEP:zc aCc=[.v Value.nilFunc]:=ID rfl
theorem aZ8{K:TI→Prop}:@tyW Tryz.prog 67 ⟨K⟩=K aCb:=qg bbe
theorem aEN:aCb.kd=Kd.oth:=ID rfl
theorem aqF:aCb.kd.agg=false:=ID rfl
theorem ajw:aCb.size=1:=ID rfl
theorem aes:aCb.bytes=8:=ID rfl
theorem aEL:qv aCb=True:=eq_true rfl
theorem aEM:zc aCb=[.v Value.nilFunc]:=ID rfl
theorem aZ7{K:TI→Prop}:@tyW Tryz.prog 68 ⟨K⟩=K aCa:=qg bbd
theorem aEK:aCa.kd=Kd.oth:=ID rfl
theorem aqE:aCa.kd.agg=false:=ID rfl
theorem ajv:aCa.size=1:=ID rfl
theorem aer:aCa.bytes=8:=ID rfl
theorem aEI:qv aCa=True:=eq_true rfl
theorem aEJ:zc aCa=[.v Value.nilFunc]:=ID rfl
theorem aZ6{K:TI→Prop}:@tyW Tryz.prog 69 ⟨K⟩=K aB9:=qg bbc
theorem aEH:aB9.kd=Kd.oth:=ID rfl
theorem aqD:aB9.kd.agg=false:=ID rfl
theorem aju:aB9.size=1:=ID rfl
theorem aeq:aB9.bytes=8:=ID rfl
theorem aEF:qv aB9=True:=eq_true rfl
theorem aEG:zc aB9=[.v Value.nilFunc]:=ID rfl
theorem aZ5{K:TI→Prop}:@tyW Tryz.prog 70 ⟨K⟩=K aB8:=qg bbb
theorem aED:aB8.kd=Kd.oth:=ID rfl
theorem aqB:aB8.kd.agg=false:=ID rfl
theorem ajs:aB8.size=1:=ID rfl
theorem aep:aB8.bytes=8:=ID rfl
theorem aEB:qv aB8=True:=eq_true rfl
theorem aEC:zc aB8=[.v Value.nilFunc]:=ID rfl
theorem aZ4{K:TI→Prop}:@tyW Tryz.prog 71 ⟨K⟩=K aB7:=qg bba
theorem aEA:aB7.kd=Kd.oth:=ID rfl
theorem aqA:aB7.kd.agg=false:=ID rfl
theorem ajr:aB7.size=1:=ID rfl
theorem aeo:aB7.bytes=8:=ID rfl
theorem aEy:qv aB7=True:=eq_true rfl
theorem aEz:zc aB7=[.v Value.nilFunc]:=ID rfl
theorem aZ3{K:TI→Prop}:@tyW Tryz.prog 72 ⟨K⟩=K aB6:=qg ba9
theorem aEx:aB6.kd=Kd.oth:=ID rfl
theorem aqz:aB6.kd.agg=false:=ID rfl
theorem ajq:aB6.size=1:=ID rfl
theorem aen:aB6.bytes=8:=ID rfl
theorem aEv:qv aB6=True:=eq_true rfl
theorem aEw:zc aB6=[.v Value.nilFunc]:=ID rfl
theorem aZ2{K:TI→Prop}:@tyW Tryz.prog 74 ⟨K⟩=K aB5:=qg ba8
theorem aEu:aB5.kd=Kd.oth:=ID rfl
theorem aqy:aB5.kd.agg=false:=ID rfl
theorem ajp:aB5.size=1:=ID rfl
theorem aem:aB5.bytes=8:=ID rfl
theorem aEs:qv aB5=True:=eq_true rfl
theorem aEt:zc aB5=[.v Value.nilFunc]:=ID rfl
theorem aZ1{K:TI→Prop}:@tyW Tryz.prog 76 ⟨K⟩=K aB4:=qg ba7
theorem aEr:aB4.kd=Kd.oth:=ID rfl
theorem aqx:aB4.kd.agg=false:=ID rfl
theorem ajo:aB4.size=1:=ID rfl
theorem ael:aB4.bytes=8:=ID rfl
theorem aEp:qv aB4=True:=eq_true rfl
theorem aEq:zc aB4=[.v Value.nilFunc]:=ID rfl
theorem aZ0{K:TI→Prop}:@tyW Tryz.prog 77 ⟨K⟩=K aB3:=qg ba6
theorem aEo:aB3.kd=Kd.oth:=ID rfl
theorem aqw:aB3.kd.agg=false:=ID rfl
theorem ajn:aB3.size=1:=ID rfl
theorem aek:aB3.bytes=8:=ID rfl
theorem aEm:qv aB3=True:=eq_true rfl
theorem aEn:zc aB3=[.v Value.nilFunc]:=ID rfl
theorem aZZ{K:TI→Prop}:@tyW Tryz.prog 79 ⟨K⟩=K aB2:=qg ba5
theorem aEl:aB2.kd=Kd.oth:=ID rfl
theorem aqv:aB2.kd.agg=false:=ID rfl
theorem ajm:aB2.size=1:=ID rfl
theorem aej:aB2.bytes=8:=ID rfl
theorem aEj:qv aB2=True:=eq_true rfl
theorem aEk:zc aB2=[.v Value.nilFunc]:=ID rfl
theorem aZY{K:TI→Prop}:@tyW Tryz.prog 80 ⟨K⟩=K aB1:=qg ba4
theorem aEh:aB1.kd=Kd.oth:=ID rfl
theorem aqt:aB1.kd.agg=false:=ID rfl
theorem ajk:aB1.size=1:=ID rfl
theorem aei:aB1.bytes=8:=ID rfl
theorem aEf:qv aB1=True:=eq_true rfl
theorem aEg:zc aB1=[.v Value.nilFunc]:=ID rfl
theorem aZX{K:TI→Prop}:@tyW Tryz.prog 82 ⟨K⟩=K aB0:=qg ba3
theorem aEe:aB0.kd=Kd.oth:=ID rfl
theorem aqs:aB0.kd.agg=false:=ID rfl
theorem ajj:aB0.size=1:=ID rfl
theorem aeh:aB0.bytes=8:=ID rfl
theorem aEc:qv aB0=True:=eq_true rfl
theorem aEd:zc aB0=[.v Value.nilFunc]:=ID rfl
theorem aZW{K:TI→Prop}:@tyW Tryz.prog 83 ⟨K⟩=K aBZ:=qg ba2
theorem aEb:aBZ.kd=Kd.oth:=ID rfl
theorem aqr:aBZ.kd.agg=false:=ID rfl
theorem aji:aBZ.size=1:=ID rfl
theorem aeg:aBZ.bytes=8:=ID rfl
theorem aD9:qv aBZ=True:=eq_true rfl
theorem aEa:zc aBZ=[.v Value.nilFunc]:=ID rfl
theorem aZV{K:TI→Prop}:@tyW Tryz.prog 84 ⟨K⟩=K aBY:=qg ba1
theorem aD8:aBY.kd=Kd.oth:=ID rfl
theorem aqq:aBY.kd.agg=false:=ID rfl
theorem ajh:aBY.size=1:=ID rfl
theorem aef:aBY.bytes=8:=ID rfl
theorem aD6:qv aBY=True:=eq_true rfl
theorem aD7:zc aBY=[.v Value.nilFunc]:=ID rfl
theorem aZU{K:TI→Prop}:@tyW Tryz.prog 85 ⟨K⟩=K aBX:=qg ba0
theorem aD5:aBX.kd=Kd.oth:=ID rfl
theorem aqp:aBX.kd.agg=false:=ID rfl
theorem ajg:aBX.size=1:=ID rfl
theorem aee:aBX.bytes=8:=ID rfl
theorem aD3:qv aBX=True:=eq_true rfl
theorem aD4:zc aBX=[.v Value.nilFunc]:=ID rfl
theorem aZT{K:TI→Prop}:@tyW Tryz.prog 86 ⟨K⟩=K aBW:=qg baZ
theorem aD2:aBW.kd=Kd.oth:=ID rfl
theorem aqo:aBW.kd.agg=false:=ID rfl
theorem ajf:aBW.size=1:=ID rfl
theorem aed:aBW.bytes=8:=ID rfl
theorem aD0:qv aBW=True:=eq_true rfl
theorem aD1:zc aBW=[.v Value.nilFunc]:=ID rfl
theorem aZS{K:TI→Prop}:@tyW Tryz.prog 87 ⟨K⟩=K aBV:=qg baY
theorem aDZ:aBV.kd=Kd.oth:=ID rfl
theorem aqn:aBV.kd.agg=false:=ID rfl
theorem aje:aBV.size=1:=ID rfl
theorem aec:aBV.bytes=8:=ID rfl
theorem aDX:qv aBV=True:=eq_true rfl
theorem aDY:zc aBV=[.v Value.nilFunc]:=ID rfl
theorem aZR{K:TI→Prop}:@tyW Tryz.prog 88 ⟨K⟩=K aBU:=qg baX
theorem aDW:aBU.kd=Kd.oth:=ID rfl
theorem aqm:aBU.kd.agg=false:=ID rfl
theorem ajd:aBU.size=1:=ID rfl
theorem aeb:aBU.bytes=8:=ID rfl
theorem aDU:qv aBU=True:=eq_true rfl
theorem aDV:zc aBU=[.v Value.nilFunc]:=ID rfl
theorem aZQ{K:TI→Prop}:@tyW Tryz.prog 89 ⟨K⟩=K aiP:=qg aLz
theorem aDT:aiP.kd=Kd.stru [(0,4),(1,23),(2,3)]:=ID rfl
theorem aql:aiP.kd.agg=true:=ID rfl
theorem ajc:aiP.size=3:=ID rfl
theorem aea:aiP.bytes=40:=ID rfl
theorem aDR:qv aiP=True:=eq_true rfl
theorem aDS:zc aiP=[.v (Value.bool false),.v (Value.slice none 0 0),.v (Value.int IntKind.i64 0)]:=ID rfl
theorem aI9{K:Nat→TI→Prop}:@qy Tryz.prog 89 0 ⟨K⟩=K 0 ti4:=qr (ti:=aiP) (tf:=ti4) (fo:=(0,4)) (fs:=[(0,4),(1,23),(2,3)]) aLz rfl rfl tf4
theorem aMl{K:Nat→Nat→Prop}:qs Tryz.prog [(0,4),(1,23),(2,3)] 0 K=K 0 1:=qq (tf:=ti4) (fo:=(0,4)) (fs:=[(0,4),(1,23),(2,3)]) rfl tf4
theorem aI8{K:Nat→TI→Prop}:@qy Tryz.prog 89 1 ⟨K⟩=K 1 Z0:=qr (ti:=aiP) (tf:=Z0) (fo:=(1,23)) (fs:=[(0,4),(1,23),(2,3)]) aLz rfl rfl ads
theorem aMk{K:Nat→Nat→Prop}:qs Tryz.prog [(0,4),(1,23),(2,3)] 1 K=K 1 1:=qq (tf:=Z0) (fo:=(1,23)) (fs:=[(0,4),(1,23),(2,3)]) rfl ads
theorem aI7{K:Nat→TI→Prop}:@qy Tryz.prog 89 2 ⟨K⟩=K 2 ti3:=qr (ti:=aiP) (tf:=ti3) (fo:=(2,3)) (fs:=[(0,4),(1,23),(2,3)]) aLz rfl rfl tf3
theorem aMj{K:Nat→Nat→Prop}:qs Tryz.prog [(0,4),(1,23),(2,3)] 2 K=K 2 1:=qq (tf:=ti3) (fo:=(2,3)) (fs:=[(0,4),(1,23),(2,3)]) rfl tf3
theorem aNa:∀f∈([(0,4),(1,23),(2,3)]:List (Nat×Nat)),(qo Tryz.prog f.2).isSome=true:=by
 intro f hf
 simp only[List.mem_cons,List.not_mem_nil,or_false]at hf
 rcases hf with rfl|rfl|rfl
 ·rw[tf4];rfl
 ·rw[ads];rfl
 ·rw[tf3];rfl
theorem aZa{ps:List (Nat×AV)}{K:AV→Prop}:@q7 Tryz.prog 89 ps ⟨K⟩=@q8 (qs Tryz.prog [(0,4),(1,23),(2,3)]) (zc aiP) ps ⟨fun cs=>K (.ag cs)⟩:=qK aLz rfl aNa
theorem aZP{K:TI→Prop}:@tyW Tryz.prog 90 ⟨K⟩=K Qt:=qg Ys
theorem aDP:Qt.kd=Kd.stru [(0,4),(1,23),(2,3)]:=ID rfl
theorem aqj:Qt.kd.agg=true:=ID rfl
theorem aja:Qt.size=3:=ID rfl
theorem ad9:Qt.bytes=40:=ID rfl
theorem aDN:qv Qt=True:=eq_true rfl
theorem aDO:zc Qt=[.v (Value.bool false),.v (Value.slice none 0 0),.v (Value.int IntKind.i64 0)]:=ID rfl
theorem aI6{K:Nat→TI→Prop}:@qy Tryz.prog 90 0 ⟨K⟩=K 0 ti4:=qr (ti:=Qt) (tf:=ti4) (fo:=(0,4)) (fs:=[(0,4),(1,23),(2,3)]) Ys rfl rfl tf4
theorem aMi{K:Nat→Nat→Prop}:qs Tryz.prog [(0,4),(1,23),(2,3)] 0 K=K 0 1:=qq (tf:=ti4) (fo:=(0,4)) (fs:=[(0,4),(1,23),(2,3)]) rfl tf4
theorem aI5{K:Nat→TI→Prop}:@qy Tryz.prog 90 1 ⟨K⟩=K 1 Z0:=qr (ti:=Qt) (tf:=Z0) (fo:=(1,23)) (fs:=[(0,4),(1,23),(2,3)]) Ys rfl rfl ads
theorem aMh{K:Nat→Nat→Prop}:qs Tryz.prog [(0,4),(1,23),(2,3)] 1 K=K 1 1:=qq (tf:=Z0) (fo:=(1,23)) (fs:=[(0,4),(1,23),(2,3)]) rfl ads
theorem aI4{K:Nat→TI→Prop}:@qy Tryz.prog 90 2 ⟨K⟩=K 2 ti3:=qr (ti:=Qt) (tf:=ti3) (fo:=(2,3)) (fs:=[(0,4),(1,23),(2,3)]) Ys rfl rfl tf3
theorem aMg{K:Nat→Nat→Prop}:qs Tryz.prog [(0,4),(1,23),(2,3)] 2 K=K 2 1:=qq (tf:=ti3) (fo:=(2,3)) (fs:=[(0,4),(1,23),(2,3)]) rfl tf3
theorem aM9:∀f∈([(0,4),(1,23),(2,3)]:List (Nat×Nat)),(qo Tryz.prog f.2).isSome=true:=by
 intro f hf
 simp only[List.mem_cons,List.not_mem_nil,or_false]at hf
 rcases hf with rfl|rfl|rfl
 ·rw[tf4];rfl
 ·rw[ads];rfl
 ·rw[tf3];rfl
theorem aY9{ps:List (Nat×AV)}{K:AV→Prop}:@q7 Tryz.prog 90 ps ⟨K⟩=@q8 (qs Tryz.prog [(0,4),(1,23),(2,3)]) (zc Qt) ps ⟨fun cs=>K (.ag cs)⟩:=qK Ys rfl aM9
theorem aZO{K:TI→Prop}:@tyW Tryz.prog 92 ⟨K⟩=K aBT:=qg baW
theorem aDM:aBT.kd=Kd.oth:=ID rfl
theorem aqi:aBT.kd.agg=false:=ID rfl
theorem ai9:aBT.size=1:=ID rfl
theorem ad8:aBT.bytes=8:=ID rfl
theorem aDK:qv aBT=True:=eq_true rfl
theorem aDL:zc aBT=[.v Value.nilFunc]:=ID rfl
theorem aZN{K:TI→Prop}:@tyW Tryz.prog 93 ⟨K⟩=K aBS:=qg baV
theorem aDJ:aBS.kd=Kd.oth:=ID rfl
theorem aqh:aBS.kd.agg=false:=ID rfl
theorem ai8:aBS.size=1:=ID rfl
theorem ad7:aBS.bytes=8:=ID rfl
theorem aDH:qv aBS=True:=eq_true rfl
theorem aDI:zc aBS=[.v Value.nilFunc]:=ID rfl
theorem aZM{K:TI→Prop}:@tyW Tryz.prog 94 ⟨K⟩=K aBR:=qg baU
theorem aDG:aBR.kd=Kd.oth:=ID rfl
theorem aqg:aBR.kd.agg=false:=ID rfl
theorem ai7:aBR.size=1:=ID rfl
theorem ad6:aBR.bytes=8:=ID rfl
theorem aDE:qv aBR=True:=eq_true rfl
theorem aDF:zc aBR=[.v Value.nilFunc]:=ID rfl
theorem aZL{K:TI→Prop}:@tyW Tryz.prog 95 ⟨K⟩=K aBQ:=qg baT
theorem aDD:aBQ.kd=Kd.oth:=ID rfl
theorem aqf:aBQ.kd.agg=false:=ID rfl
theorem ai6:aBQ.size=1:=ID rfl
theorem ad5:aBQ.bytes=8:=ID rfl
theorem aDB:qv aBQ=True:=eq_true rfl
theorem aDC:zc aBQ=[.v Value.nilFunc]:=ID rfl
theorem aZK{K:TI→Prop}:@tyW Tryz.prog 97 ⟨K⟩=K aBP:=qg baS
theorem aDA:aBP.kd=Kd.oth:=ID rfl
theorem aqe:aBP.kd.agg=false:=ID rfl
theorem ai5:aBP.size=1:=ID rfl
theorem ad4:aBP.bytes=8:=ID rfl
theorem aDy:qv aBP=True:=eq_true rfl
theorem aDz:zc aBP=[.v Value.nilFunc]:=ID rfl
theorem aZJ{K:TI→Prop}:@tyW Tryz.prog 98 ⟨K⟩=K aBO:=qg baR
theorem aDx:aBO.kd=Kd.oth:=ID rfl
theorem aqd:aBO.kd.agg=false:=ID rfl
theorem ai4:aBO.size=1:=ID rfl
theorem ad3:aBO.bytes=8:=ID rfl
theorem aDv:qv aBO=True:=eq_true rfl
theorem aDw:zc aBO=[.v Value.nilFunc]:=ID rfl
theorem aZI{K:TI→Prop}:@tyW Tryz.prog 99 ⟨K⟩=K aBN:=qg baQ
theorem aDu:aBN.kd=Kd.oth:=ID rfl
theorem aqc:aBN.kd.agg=false:=ID rfl
theorem ai3:aBN.size=1:=ID rfl
theorem ad2:aBN.bytes=8:=ID rfl
theorem aDs:qv aBN=True:=eq_true rfl
theorem aDt:zc aBN=[.v Value.nilFunc]:=ID rfl
theorem aUC{K:TI→Prop}:@tyW Tryz.prog 100 ⟨K⟩=K yo:=qg Jz
theorem ayV:yo.kd=Kd.sli 90:=ID rfl
theorem amT:yo.kd.agg=false:=ID rfl
theorem ahD:yo.size=1:=ID rfl
theorem acr:yo.bytes=24:=ID rfl
theorem ayT:qv yo=True:=eq_true rfl
theorem ayU:zc yo=[.v (Value.slice none 0 0)]:=ID rfl
theorem aLY{K:TI→Prop}:@ye Tryz.prog 100 ⟨K⟩=K Qt:=Ql Jz rfl Ys
theorem aUB{K:TI→Prop}:@tyW Tryz.prog 101 ⟨K⟩=K QT:=qg ay5
theorem ayS:QT.kd=Kd.stru [(0,3),(1,100)]:=ID rfl
theorem amS:QT.kd.agg=true:=ID rfl
theorem ahC:QT.size=2:=ID rfl
theorem acq:QT.bytes=32:=ID rfl
theorem ayQ:qv QT=True:=eq_true rfl
theorem ayR:zc QT=[.v (Value.int IntKind.i64 0),.v (Value.slice none 0 0)]:=ID rfl
theorem aAM{K:Nat→TI→Prop}:@qy Tryz.prog 101 0 ⟨K⟩=K 0 ti3:=qr (ti:=QT) (tf:=ti3) (fo:=(0,3)) (fs:=[(0,3),(1,100)]) ay5 rfl rfl tf3
theorem aHM{K:Nat→Nat→Prop}:qs Tryz.prog [(0,3),(1,100)] 0 K=K 0 1:=qq (tf:=ti3) (fo:=(0,3)) (fs:=[(0,3),(1,100)]) rfl tf3
theorem aAL{K:Nat→TI→Prop}:@qy Tryz.prog 101 1 ⟨K⟩=K 1 yo:=qr (ti:=QT) (tf:=yo) (fo:=(1,100)) (fs:=[(0,3),(1,100)]) ay5 rfl rfl Jz
theorem aHL{K:Nat→Nat→Prop}:qs Tryz.prog [(0,3),(1,100)] 1 K=K 1 1:=qq (tf:=yo) (fo:=(1,100)) (fs:=[(0,3),(1,100)]) rfl Jz
theorem aIY:∀f∈([(0,3),(1,100)]:List (Nat×Nat)),(qo Tryz.prog f.2).isSome=true:=by
 intro f hf
 simp only[List.mem_cons,List.not_mem_nil,or_false]at hf
 rcases hf with rfl|rfl
 ·rw[tf3];rfl
 ·rw[Jz];rfl
theorem aRw{ps:List (Nat×AV)}{K:AV→Prop}:@q7 Tryz.prog 101 ps ⟨K⟩=@q8 (qs Tryz.prog [(0,3),(1,100)]) (zc QT) ps ⟨fun cs=>K (.ag cs)⟩:=qK ay5 rfl aIY
theorem aUA{K:TI→Prop}:@tyW Tryz.prog 102 ⟨K⟩=K QS:=qg ay4
theorem ayP:QS.kd=Kd.stru [(0,3),(1,100)]:=ID rfl
theorem amR:QS.kd.agg=true:=ID rfl
theorem ahB:QS.size=2:=ID rfl
theorem acp:QS.bytes=32:=ID rfl
theorem ayN:qv QS=True:=eq_true rfl
theorem ayO:zc QS=[.v (Value.int IntKind.i64 0),.v (Value.slice none 0 0)]:=ID rfl
theorem aAK{K:Nat→TI→Prop}:@qy Tryz.prog 102 0 ⟨K⟩=K 0 ti3:=qr (ti:=QS) (tf:=ti3) (fo:=(0,3)) (fs:=[(0,3),(1,100)]) ay4 rfl rfl tf3
theorem aHK{K:Nat→Nat→Prop}:qs Tryz.prog [(0,3),(1,100)] 0 K=K 0 1:=qq (tf:=ti3) (fo:=(0,3)) (fs:=[(0,3),(1,100)]) rfl tf3
theorem aAJ{K:Nat→TI→Prop}:@qy Tryz.prog 102 1 ⟨K⟩=K 1 yo:=qr (ti:=QS) (tf:=yo) (fo:=(1,100)) (fs:=[(0,3),(1,100)]) ay4 rfl rfl Jz
theorem aHJ{K:Nat→Nat→Prop}:qs Tryz.prog [(0,3),(1,100)] 1 K=K 1 1:=qq (tf:=yo) (fo:=(1,100)) (fs:=[(0,3),(1,100)]) rfl Jz
theorem aIX:∀f∈([(0,3),(1,100)]:List (Nat×Nat)),(qo Tryz.prog f.2).isSome=true:=by
 intro f hf
 simp only[List.mem_cons,List.not_mem_nil,or_false]at hf
 rcases hf with rfl|rfl
 ·rw[tf3];rfl
 ·rw[Jz];rfl
theorem aRv{ps:List (Nat×AV)}{K:AV→Prop}:@q7 Tryz.prog 102 ps ⟨K⟩=@q8 (qs Tryz.prog [(0,3),(1,100)]) (zc QS) ps ⟨fun cs=>K (.ag cs)⟩:=qK ay4 rfl aIX
theorem aUz{K:TI→Prop}:@tyW Tryz.prog 103 ⟨K⟩=K VL:=qg aWS
theorem ayM:VL.kd=Kd.oth:=ID rfl
theorem amQ:VL.kd.agg=false:=ID rfl
theorem ahA:VL.size=1:=ID rfl
theorem aco:VL.bytes=8:=ID rfl
theorem ayK:qv VL=True:=eq_true rfl
theorem ayL:zc VL=[.v Value.nilFunc]:=ID rfl
theorem aUy{K:TI→Prop}:@tyW Tryz.prog 104 ⟨K⟩=K VK:=qg aWR
theorem ayJ:VK.kd=Kd.oth:=ID rfl
theorem amP:VK.kd.agg=false:=ID rfl
theorem ahz:VK.size=1:=ID rfl
theorem acn:VK.bytes=8:=ID rfl
theorem ayH:qv VK=True:=eq_true rfl
theorem ayI:zc VK=[.v Value.nilFunc]:=ID rfl
theorem aUx{K:TI→Prop}:@tyW Tryz.prog 105 ⟨K⟩=K VJ:=qg aWQ
theorem ayG:VJ.kd=Kd.oth:=ID rfl
theorem amO:VJ.kd.agg=false:=ID rfl
theorem ahy:VJ.size=1:=ID rfl
theorem acm:VJ.bytes=8:=ID rfl
theorem ayE:qv VJ=True:=eq_true rfl
theorem ayF:zc VJ=[.v Value.nilFunc]:=ID rfl
theorem aUw{K:TI→Prop}:@tyW Tryz.prog 106 ⟨K⟩=K VI:=qg aWP
theorem ayD:VI.kd=Kd.oth:=ID rfl
theorem amN:VI.kd.agg=false:=ID rfl
theorem ahx:VI.size=1:=ID rfl
theorem acl:VI.bytes=8:=ID rfl
theorem ayB:qv VI=True:=eq_true rfl
theorem ayC:zc VI=[.v Value.nilFunc]:=ID rfl
theorem aUv{K:TI→Prop}:@tyW Tryz.prog 107 ⟨K⟩=K VH:=qg aWO
theorem ayA:VH.kd=Kd.oth:=ID rfl
theorem amM:VH.kd.agg=false:=ID rfl
theorem ahw:VH.size=1:=ID rfl
theorem ack:VH.bytes=8:=ID rfl
theorem ayy:qv VH=True:=eq_true rfl
theorem ayz:zc VH=[.v Value.nilFunc]:=ID rfl
theorem aUu{K:TI→Prop}:@tyW Tryz.prog 108 ⟨K⟩=K VG:=qg aWN
theorem ayx:VG.kd=Kd.oth:=ID rfl
theorem amL:VG.kd.agg=false:=ID rfl
theorem ahv:VG.size=1:=ID rfl
theorem acj:VG.bytes=8:=ID rfl
theorem ayv:qv VG=True:=eq_true rfl
theorem ayw:zc VG=[.v Value.nilFunc]:=ID rfl
theorem aUt{K:TI→Prop}:@tyW Tryz.prog 109 ⟨K⟩=K VF:=qg aWM
theorem ayu:VF.kd=Kd.oth:=ID rfl
theorem amK:VF.kd.agg=false:=ID rfl
theorem ahu:VF.size=1:=ID rfl
theorem aci:VF.bytes=8:=ID rfl
theorem ays:qv VF=True:=eq_true rfl
theorem ayt:zc VF=[.v Value.nilFunc]:=ID rfl
theorem aUs{K:TI→Prop}:@tyW Tryz.prog 110 ⟨K⟩=K QR:=qg ay3
theorem ayq:QR.kd=Kd.stru [(0,90),(3,90)]:=ID rfl
theorem amI:QR.kd.agg=true:=ID rfl
theorem ahs:QR.size=6:=ID rfl
theorem ach:QR.bytes=80:=ID rfl
theorem ayo:qv QR=True:=eq_true rfl
theorem ayp:zc QR=[.v (Value.bool false),.v (Value.slice none 0 0),.v (Value.int IntKind.i64 0),.v (Value.bool false),.v (Value.slice none 0 0),.v (Value.int IntKind.i64 0)]:=ID rfl
theorem aAI{K:Nat→TI→Prop}:@qy Tryz.prog 110 0 ⟨K⟩=K 0 Qt:=qr (ti:=QR) (tf:=Qt) (fo:=(0,90)) (fs:=[(0,90),(3,90)]) ay3 rfl rfl Ys
theorem aHI{K:Nat→Nat→Prop}:qs Tryz.prog [(0,90),(3,90)] 0 K=K 0 3:=qq (tf:=Qt) (fo:=(0,90)) (fs:=[(0,90),(3,90)]) rfl Ys
theorem aAH{K:Nat→TI→Prop}:@qy Tryz.prog 110 1 ⟨K⟩=K 3 Qt:=qr (ti:=QR) (tf:=Qt) (fo:=(3,90)) (fs:=[(0,90),(3,90)]) ay3 rfl rfl Ys
theorem aHH{K:Nat→Nat→Prop}:qs Tryz.prog [(0,90),(3,90)] 1 K=K 3 3:=qq (tf:=Qt) (fo:=(3,90)) (fs:=[(0,90),(3,90)]) rfl Ys
theorem aIW:∀f∈([(0,90),(3,90)]:List (Nat×Nat)),(qo Tryz.prog f.2).isSome=true:=by
 intro f hf
 simp only[List.mem_cons,List.not_mem_nil,or_false]at hf
 rcases hf with rfl|rfl
 ·rw[Ys];rfl
 ·rw[Ys];rfl
theorem aRu{ps:List (Nat×AV)}{K:AV→Prop}:@q7 Tryz.prog 110 ps ⟨K⟩=@q8 (qs Tryz.prog [(0,90),(3,90)]) (zc QR) ps ⟨fun cs=>K (.ag cs)⟩:=qK ay3 rfl aIW
theorem aUr{K:TI→Prop}:@tyW Tryz.prog 111 ⟨K⟩=K Qw:=qg amX
theorem ayn:Qw.kd=Kd.stru [(0,90),(3,90)]:=ID rfl
theorem amH:Qw.kd.agg=true:=ID rfl
theorem ahr:Qw.size=6:=ID rfl
theorem acg:Qw.bytes=80:=ID rfl
theorem ayl:qv Qw=True:=eq_true rfl
theorem aym:zc Qw=[.v (Value.bool false),.v (Value.slice none 0 0),.v (Value.int IntKind.i64 0),.v (Value.bool false),.v (Value.slice none 0 0),.v (Value.int IntKind.i64 0)]:=ID rfl
theorem aAG{K:Nat→TI→Prop}:@qy Tryz.prog 111 0 ⟨K⟩=K 0 Qt:=qr (ti:=Qw) (tf:=Qt) (fo:=(0,90)) (fs:=[(0,90),(3,90)]) amX rfl rfl Ys
theorem aHG{K:Nat→Nat→Prop}:qs Tryz.prog [(0,90),(3,90)] 0 K=K 0 3:=qq (tf:=Qt) (fo:=(0,90)) (fs:=[(0,90),(3,90)]) rfl Ys
theorem aAF{K:Nat→TI→Prop}:@qy Tryz.prog 111 1 ⟨K⟩=K 3 Qt:=qr (ti:=Qw) (tf:=Qt) (fo:=(3,90)) (fs:=[(0,90),(3,90)]) amX rfl rfl Ys
theorem aHF{K:Nat→Nat→Prop}:qs Tryz.prog [(0,90),(3,90)] 1 K=K 3 3:=qq (tf:=Qt) (fo:=(3,90)) (fs:=[(0,90),(3,90)]) rfl Ys
theorem aIV:∀f∈([(0,90),(3,90)]:List (Nat×Nat)),(qo Tryz.prog f.2).isSome=true:=by
 intro f hf
 simp only[List.mem_cons,List.not_mem_nil,or_false]at hf
 rcases hf with rfl|rfl
 ·rw[Ys];rfl
 ·rw[Ys];rfl
theorem aRt{ps:List (Nat×AV)}{K:AV→Prop}:@q7 Tryz.prog 111 ps ⟨K⟩=@q8 (qs Tryz.prog [(0,90),(3,90)]) (zc Qw) ps ⟨fun cs=>K (.ag cs)⟩:=qK amX rfl aIV
theorem aUq{K:TI→Prop}:@tyW Tryz.prog 113 ⟨K⟩=K VE:=qg aWL
theorem ayk:VE.kd=Kd.oth:=ID rfl
theorem amG:VE.kd.agg=false:=ID rfl
theorem ahq:VE.size=1:=ID rfl
theorem acf:VE.bytes=8:=ID rfl
theorem ayi:qv VE=True:=eq_true rfl
theorem ayj:zc VE=[.v Value.nilFunc]:=ID rfl
theorem aUp{K:TI→Prop}:@tyW Tryz.prog 114 ⟨K⟩=K VD:=qg aWK
theorem ayh:VD.kd=Kd.oth:=ID rfl
theorem amF:VD.kd.agg=false:=ID rfl
theorem ahp:VD.size=1:=ID rfl
theorem ace:VD.bytes=8:=ID rfl
theorem ayf:qv VD=True:=eq_true rfl
theorem ayg:zc VD=[.v Value.nilFunc]:=ID rfl
theorem aUo{K:TI→Prop}:@tyW Tryz.prog 115 ⟨K⟩=K VC:=qg aWJ
theorem aye:VC.kd=Kd.oth:=ID rfl
theorem amE:VC.kd.agg=false:=ID rfl
theorem aho:VC.size=1:=ID rfl
theorem acd:VC.bytes=8:=ID rfl
theorem ayc:qv VC=True:=eq_true rfl
theorem ayd:zc VC=[.v Value.nilFunc]:=ID rfl
theorem aUn{K:TI→Prop}:@tyW Tryz.prog 116 ⟨K⟩=K VB:=qg aWI
theorem ayb:VB.kd=Kd.oth:=ID rfl
theorem amD:VB.kd.agg=false:=ID rfl
theorem ahn:VB.size=1:=ID rfl
theorem acb:VB.bytes=8:=ID rfl
theorem ax9:qv VB=True:=eq_true rfl
theorem aya:zc VB=[.v Value.nilFunc]:=ID rfl
theorem aUm{K:TI→Prop}:@tyW Tryz.prog 117 ⟨K⟩=K VA:=qg aWH
theorem ax8:VA.kd=Kd.oth:=ID rfl
theorem amC:VA.kd.agg=false:=ID rfl
theorem ahm:VA.size=1:=ID rfl
theorem aca:VA.bytes=8:=ID rfl
theorem ax6:qv VA=True:=eq_true rfl
theorem ax7:zc VA=[.v Value.nilFunc]:=ID rfl
theorem aUl{K:TI→Prop}:@tyW Tryz.prog 118 ⟨K⟩=K Vz:=qg aWG
theorem ax5:Vz.kd=Kd.oth:=ID rfl
theorem amB:Vz.kd.agg=false:=ID rfl
theorem ahl:Vz.size=1:=ID rfl
theorem ab9:Vz.bytes=8:=ID rfl
theorem ax3:qv Vz=True:=eq_true rfl
theorem ax4:zc Vz=[.v Value.nilFunc]:=ID rfl
theorem aUk{K:TI→Prop}:@tyW Tryz.prog 119 ⟨K⟩=K Vy:=qg aWF
theorem ax2:Vy.kd=Kd.oth:=ID rfl
theorem amA:Vy.kd.agg=false:=ID rfl
theorem ahk:Vy.size=1:=ID rfl
theorem ab8:Vy.bytes=8:=ID rfl
theorem ax0:qv Vy=True:=eq_true rfl
theorem ax1:zc Vy=[.v Value.nilFunc]:=ID rfl
theorem aUj{K:TI→Prop}:@tyW Tryz.prog 120 ⟨K⟩=K Vx:=qg aWE
theorem axY:Vx.kd=Kd.oth:=ID rfl
theorem amy:Vx.kd.agg=false:=ID rfl
theorem ahi:Vx.size=1:=ID rfl
theorem ab7:Vx.bytes=8:=ID rfl
theorem axW:qv Vx=True:=eq_true rfl
theorem axX:zc Vx=[.v Value.nilFunc]:=ID rfl
theorem aUi{K:TI→Prop}:@tyW Tryz.prog 121 ⟨K⟩=K Vw:=qg aWD
theorem axV:Vw.kd=Kd.oth:=ID rfl
theorem amx:Vw.kd.agg=false:=ID rfl
theorem ahh:Vw.size=1:=ID rfl
theorem ab6:Vw.bytes=8:=ID rfl
theorem axT:qv Vw=True:=eq_true rfl
theorem axU:zc Vw=[.v Value.nilFunc]:=ID rfl
theorem aUh{K:TI→Prop}:@tyW Tryz.prog 122 ⟨K⟩=K Vv:=qg aWC
theorem axS:Vv.kd=Kd.oth:=ID rfl
theorem amw:Vv.kd.agg=false:=ID rfl
theorem ahg:Vv.size=1:=ID rfl
theorem ab5:Vv.bytes=8:=ID rfl
theorem axQ:qv Vv=True:=eq_true rfl
theorem axR:zc Vv=[.v Value.nilFunc]:=ID rfl
theorem aUg{K:TI→Prop}:@tyW Tryz.prog 123 ⟨K⟩=K Vu:=qg aWB
theorem axP:Vu.kd=Kd.oth:=ID rfl
theorem amv:Vu.kd.agg=false:=ID rfl
theorem ahf:Vu.size=1:=ID rfl
theorem ab4:Vu.bytes=8:=ID rfl
theorem axN:qv Vu=True:=eq_true rfl
theorem axO:zc Vu=[.v Value.nilFunc]:=ID rfl
theorem aUf{K:TI→Prop}:@tyW Tryz.prog 124 ⟨K⟩=K Vt:=qg aWA
theorem axM:Vt.kd=Kd.oth:=ID rfl
theorem amu:Vt.kd.agg=false:=ID rfl
theorem ahe:Vt.size=1:=ID rfl
theorem ab3:Vt.bytes=8:=ID rfl
theorem axK:qv Vt=True:=eq_true rfl
theorem axL:zc Vt=[.v Value.nilFunc]:=ID rfl
theorem aUe{K:TI→Prop}:@tyW Tryz.prog 125 ⟨K⟩=K Vs:=qg aWz
theorem axJ:Vs.kd=Kd.oth:=ID rfl
theorem amt:Vs.kd.agg=false:=ID rfl
theorem ahd:Vs.size=1:=ID rfl
theorem ab2:Vs.bytes=8:=ID rfl
theorem axH:qv Vs=True:=eq_true rfl
theorem axI:zc Vs=[.v Value.nilFunc]:=ID rfl
theorem aUd{K:TI→Prop}:@tyW Tryz.prog 126 ⟨K⟩=K Vr:=qg aWy
theorem axG:Vr.kd=Kd.oth:=ID rfl
theorem ams:Vr.kd.agg=false:=ID rfl
theorem ahc:Vr.size=1:=ID rfl
theorem ab1:Vr.bytes=8:=ID rfl
theorem axE:qv Vr=True:=eq_true rfl
theorem axF:zc Vr=[.v Value.nilFunc]:=ID rfl
theorem aUc{K:TI→Prop}:@tyW Tryz.prog 127 ⟨K⟩=K Vq:=qg aWx
theorem axD:Vq.kd=Kd.oth:=ID rfl
theorem amr:Vq.kd.agg=false:=ID rfl
theorem ahb:Vq.size=1:=ID rfl
theorem ab0:Vq.bytes=8:=ID rfl
theorem axB:qv Vq=True:=eq_true rfl
theorem axC:zc Vq=[.v Value.nilFunc]:=ID rfl
theorem aUb{K:TI→Prop}:@tyW Tryz.prog 128 ⟨K⟩=K Vp:=qg aWw
theorem axA:Vp.kd=Kd.oth:=ID rfl
theorem amq:Vp.kd.agg=false:=ID rfl
theorem aha:Vp.size=1:=ID rfl
theorem abZ:Vp.bytes=8:=ID rfl
theorem axy:qv Vp=True:=eq_true rfl
theorem axz:zc Vp=[.v Value.nilFunc]:=ID rfl
theorem aUa{K:TI→Prop}:@tyW Tryz.prog 129 ⟨K⟩=K Vo:=qg aWv
theorem axx:Vo.kd=Kd.oth:=ID rfl
theorem amp:Vo.kd.agg=false:=ID rfl
theorem ag9:Vo.size=1:=ID rfl
theorem abY:Vo.bytes=8:=ID rfl
theorem axv:qv Vo=True:=eq_true rfl
theorem axw:zc Vo=[.v Value.nilFunc]:=ID rfl
theorem aT9{K:TI→Prop}:@tyW Tryz.prog 130 ⟨K⟩=K Vn:=qg aWu
theorem axt:Vn.kd=Kd.oth:=ID rfl
theorem amn:Vn.kd.agg=false:=ID rfl
theorem ag7:Vn.size=1:=ID rfl
theorem abX:Vn.bytes=8:=ID rfl
theorem axr:qv Vn=True:=eq_true rfl
theorem axs:zc Vn=[.v Value.nilFunc]:=ID rfl
theorem aT8{K:TI→Prop}:@tyW Tryz.prog 131 ⟨K⟩=K Vm:=qg aWt
theorem axq:Vm.kd=Kd.oth:=ID rfl
theorem amm:Vm.kd.agg=false:=ID rfl
theorem ag6:Vm.size=1:=ID rfl
theorem abW:Vm.bytes=8:=ID rfl
theorem axo:qv Vm=True:=eq_true rfl
theorem axp:zc Vm=[.v Value.nilFunc]:=ID rfl
theorem aT7{K:TI→Prop}:@tyW Tryz.prog 132 ⟨K⟩=K Vl:=qg aWs
theorem axn:Vl.kd=Kd.int IntKind.u64:=ID rfl
theorem aml:Vl.kd.agg=false:=ID rfl
theorem ag5:Vl.size=1:=ID rfl
theorem abV:Vl.bytes=8:=ID rfl
theorem axl:qv Vl=True:=eq_true rfl
theorem axm:zc Vl=[.v (Value.int IntKind.u64 0)]:=ID rfl
theorem aT6{K:TI→Prop}:@tyW Tryz.prog 133 ⟨K⟩=K Vk:=qg aWr
theorem axk:Vk.kd=Kd.oth:=ID rfl
theorem amk:Vk.kd.agg=false:=ID rfl
theorem ag4:Vk.size=1:=ID rfl
theorem abU:Vk.bytes=8:=ID rfl
theorem axi:qv Vk=True:=eq_true rfl
theorem axj:zc Vk=[.v Value.nilFunc]:=ID rfl
theorem aT5{K:TI→Prop}:@tyW Tryz.prog 135 ⟨K⟩=K Vj:=qg aWq
theorem axh:Vj.kd=Kd.oth:=ID rfl
theorem amj:Vj.kd.agg=false:=ID rfl
theorem ag3:Vj.size=1:=ID rfl
theorem abT:Vj.bytes=8:=ID rfl
theorem axf:qv Vj=True:=eq_true rfl
theorem axg:zc Vj=[.v Value.nilFunc]:=ID rfl
theorem aT4{K:TI→Prop}:@tyW Tryz.prog 136 ⟨K⟩=K Vi:=qg aWp
theorem axe:Vi.kd=Kd.oth:=ID rfl
theorem ami:Vi.kd.agg=false:=ID rfl
theorem ag2:Vi.size=1:=ID rfl
theorem abS:Vi.bytes=8:=ID rfl
theorem axc:qv Vi=True:=eq_true rfl
theorem axd:zc Vi=[.v Value.nilFunc]:=ID rfl
theorem aT3{K:TI→Prop}:@tyW Tryz.prog 137 ⟨K⟩=K Vh:=qg aWo
theorem axb:Vh.kd=Kd.oth:=ID rfl
theorem amh:Vh.kd.agg=false:=ID rfl
theorem ag1:Vh.size=1:=ID rfl
theorem abR:Vh.bytes=8:=ID rfl
theorem aw9:qv Vh=True:=eq_true rfl
theorem axa:zc Vh=[.v Value.nilFunc]:=ID rfl
theorem aT2{K:TI→Prop}:@tyW Tryz.prog 138 ⟨K⟩=K Vg:=qg aWn
theorem aw8:Vg.kd=Kd.oth:=ID rfl
theorem amg:Vg.kd.agg=false:=ID rfl
theorem ag0:Vg.size=1:=ID rfl
theorem abQ:Vg.bytes=8:=ID rfl
theorem aw6:qv Vg=True:=eq_true rfl
theorem aw7:zc Vg=[.v Value.nilFunc]:=ID rfl
theorem aT1{K:TI→Prop}:@tyW Tryz.prog 139 ⟨K⟩=K Vf:=qg aWm
theorem aw5:Vf.kd=Kd.oth:=ID rfl
theorem amf:Vf.kd.agg=false:=ID rfl
theorem agZ:Vf.size=1:=ID rfl
theorem abP:Vf.bytes=8:=ID rfl
theorem aw3:qv Vf=True:=eq_true rfl
theorem aw4:zc Vf=[.v Value.nilFunc]:=ID rfl
theorem aT0{K:TI→Prop}:@tyW Tryz.prog 140 ⟨K⟩=K Ve:=qg aWl
theorem aw2:Ve.kd=Kd.oth:=ID rfl
theorem ame:Ve.kd.agg=false:=ID rfl
theorem agY:Ve.size=1:=ID rfl
theorem abO:Ve.bytes=8:=ID rfl
theorem aw0:qv Ve=True:=eq_true rfl
theorem aw1:zc Ve=[.v Value.nilFunc]:=ID rfl
theorem aTZ{K:TI→Prop}:@tyW Tryz.prog 141 ⟨K⟩=K Vd:=qg aWk
theorem awZ:Vd.kd=Kd.oth:=ID rfl
theorem amd:Vd.kd.agg=false:=ID rfl
theorem agX:Vd.size=1:=ID rfl
theorem abN:Vd.bytes=8:=ID rfl
theorem awX:qv Vd=True:=eq_true rfl
theorem awY:zc Vd=[.v Value.nilFunc]:=ID rfl
theorem aTY{K:TI→Prop}:@tyW Tryz.prog 142 ⟨K⟩=K Qv:=qg amW
theorem awW:Qv.kd=Kd.stru [(0,22),(1,3),(2,3)]:=ID rfl
theorem amc:Qv.kd.agg=true:=ID rfl
theorem agW:Qv.size=3:=ID rfl
theorem abM:Qv.bytes=40:=ID rfl
theorem awT:qv Qv=True:=eq_true rfl
theorem awU:zc Qv=[.v (Value.slice none 0 0),.v (Value.int IntKind.i64 0),.v (Value.int IntKind.i64 0)]:=ID rfl
theorem aAE{K:Nat→TI→Prop}:@qy Tryz.prog 142 0 ⟨K⟩=K 0 adr:=qr (ti:=Qv) (tf:=adr) (fo:=(0,22)) (fs:=[(0,22),(1,3),(2,3)]) amW rfl rfl aCD
theorem aHE{K:Nat→Nat→Prop}:qs Tryz.prog [(0,22),(1,3),(2,3)] 0 K=K 0 1:=qq (tf:=adr) (fo:=(0,22)) (fs:=[(0,22),(1,3),(2,3)]) rfl aCD
theorem aAD{K:Nat→TI→Prop}:@qy Tryz.prog 142 1 ⟨K⟩=K 1 ti3:=qr (ti:=Qv) (tf:=ti3) (fo:=(1,3)) (fs:=[(0,22),(1,3),(2,3)]) amW rfl rfl tf3
theorem aHD{K:Nat→Nat→Prop}:qs Tryz.prog [(0,22),(1,3),(2,3)] 1 K=K 1 1:=qq (tf:=ti3) (fo:=(1,3)) (fs:=[(0,22),(1,3),(2,3)]) rfl tf3
theorem aAC{K:Nat→TI→Prop}:@qy Tryz.prog 142 2 ⟨K⟩=K 2 ti3:=qr (ti:=Qv) (tf:=ti3) (fo:=(2,3)) (fs:=[(0,22),(1,3),(2,3)]) amW rfl rfl tf3
theorem aHC{K:Nat→Nat→Prop}:qs Tryz.prog [(0,22),(1,3),(2,3)] 2 K=K 2 1:=qq (tf:=ti3) (fo:=(2,3)) (fs:=[(0,22),(1,3),(2,3)]) rfl tf3
theorem aIU:∀f∈([(0,22),(1,3),(2,3)]:List (Nat×Nat)),(qo Tryz.prog f.2).isSome=true:=by
 intro f hf
 simp only[List.mem_cons,List.not_mem_nil,or_false]at hf
 rcases hf with rfl|rfl|rfl
 ·rw[aCD];rfl
 ·rw[tf3];rfl
 ·rw[tf3];rfl
theorem aRs{ps:List (Nat×AV)}{K:AV→Prop}:@q7 Tryz.prog 142 ps ⟨K⟩=@q8 (qs Tryz.prog [(0,22),(1,3),(2,3)]) (zc Qv) ps ⟨fun cs=>K (.ag cs)⟩:=qK amW rfl aIU
theorem aTX{K:TI→Prop}:@tyW Tryz.prog 143 ⟨K⟩=K Qu:=qg amV
theorem awS:Qu.kd=Kd.stru [(0,22),(1,3),(2,3)]:=ID rfl
theorem amb:Qu.kd.agg=true:=ID rfl
theorem agV:Qu.size=3:=ID rfl
theorem abL:Qu.bytes=40:=ID rfl
theorem awQ:qv Qu=True:=eq_true rfl
theorem awR:zc Qu=[.v (Value.slice none 0 0),.v (Value.int IntKind.i64 0),.v (Value.int IntKind.i64 0)]:=ID rfl
theorem aAB{K:Nat→TI→Prop}:@qy Tryz.prog 143 0 ⟨K⟩=K 0 adr:=qr (ti:=Qu) (tf:=adr) (fo:=(0,22)) (fs:=[(0,22),(1,3),(2,3)]) amV rfl rfl aCD
theorem aHB{K:Nat→Nat→Prop}:qs Tryz.prog [(0,22),(1,3),(2,3)] 0 K=K 0 1:=qq (tf:=adr) (fo:=(0,22)) (fs:=[(0,22),(1,3),(2,3)]) rfl aCD
theorem aAA{K:Nat→TI→Prop}:@qy Tryz.prog 143 1 ⟨K⟩=K 1 ti3:=qr (ti:=Qu) (tf:=ti3) (fo:=(1,3)) (fs:=[(0,22),(1,3),(2,3)]) amV rfl rfl tf3
theorem aHA{K:Nat→Nat→Prop}:qs Tryz.prog [(0,22),(1,3),(2,3)] 1 K=K 1 1:=qq (tf:=ti3) (fo:=(1,3)) (fs:=[(0,22),(1,3),(2,3)]) rfl tf3
theorem aAz{K:Nat→TI→Prop}:@qy Tryz.prog 143 2 ⟨K⟩=K 2 ti3:=qr (ti:=Qu) (tf:=ti3) (fo:=(2,3)) (fs:=[(0,22),(1,3),(2,3)]) amV rfl rfl tf3
theorem aHz{K:Nat→Nat→Prop}:qs Tryz.prog [(0,22),(1,3),(2,3)] 2 K=K 2 1:=qq (tf:=ti3) (fo:=(2,3)) (fs:=[(0,22),(1,3),(2,3)]) rfl tf3
theorem aIT:∀f∈([(0,22),(1,3),(2,3)]:List (Nat×Nat)),(qo Tryz.prog f.2).isSome=true:=by
 intro f hf
 simp only[List.mem_cons,List.not_mem_nil,or_false]at hf
 rcases hf with rfl|rfl|rfl
 ·rw[aCD];rfl
 ·rw[tf3];rfl
 ·rw[tf3];rfl
theorem aRr{ps:List (Nat×AV)}{K:AV→Prop}:@q7 Tryz.prog 143 ps ⟨K⟩=@q8 (qs Tryz.prog [(0,22),(1,3),(2,3)]) (zc Qu) ps ⟨fun cs=>K (.ag cs)⟩:=qK amV rfl aIT
theorem aTW{K:TI→Prop}:@tyW Tryz.prog 144 ⟨K⟩=K Vc:=qg aWj
theorem awP:Vc.kd=Kd.oth:=ID rfl
theorem ama:Vc.kd.agg=false:=ID rfl
theorem agU:Vc.size=1:=ID rfl
theorem abK:Vc.bytes=8:=ID rfl
theorem awN:qv Vc=True:=eq_true rfl
theorem awO:zc Vc=[.v Value.nilFunc]:=ID rfl
theorem aTV{K:TI→Prop}:@tyW Tryz.prog 145 ⟨K⟩=K Vb:=qg aWi
theorem awM:Vb.kd=Kd.oth:=ID rfl
theorem al9:Vb.kd.agg=false:=ID rfl
theorem agT:Vb.size=1:=ID rfl
theorem abJ:Vb.bytes=8:=ID rfl
theorem awK:qv Vb=True:=eq_true rfl
theorem awL:zc Vb=[.v Value.nilFunc]:=ID rfl
theorem aTU{K:TI→Prop}:@tyW Tryz.prog 146 ⟨K⟩=K Va:=qg aWh
theorem awJ:Va.kd=Kd.oth:=ID rfl
theorem al8:Va.kd.agg=false:=ID rfl
theorem agS:Va.size=1:=ID rfl
theorem abI:Va.bytes=8:=ID rfl
theorem awH:qv Va=True:=eq_true rfl
theorem awI:zc Va=[.v Value.nilFunc]:=ID rfl
theorem aTT{K:TI→Prop}:@tyW Tryz.prog 147 ⟨K⟩=K X9:=qg aWg
theorem awG:X9.kd=Kd.oth:=ID rfl
theorem al7:X9.kd.agg=false:=ID rfl
theorem agR:X9.size=1:=ID rfl
theorem abH:X9.bytes=8:=ID rfl
theorem awE:qv X9=True:=eq_true rfl
theorem awF:zc X9=[.v Value.nilFunc]:=ID rfl
theorem aTS{K:TI→Prop}:@tyW Tryz.prog 148 ⟨K⟩=K X8:=qg aWf
theorem awD:X8.kd=Kd.oth:=ID rfl
theorem al6:X8.kd.agg=false:=ID rfl
theorem agQ:X8.size=1:=ID rfl
theorem abG:X8.bytes=8:=ID rfl
theorem awB:qv X8=True:=eq_true rfl
theorem awC:zc X8=[.v Value.nilFunc]:=ID rfl
theorem aTR{K:TI→Prop}:@tyW Tryz.prog 150 ⟨K⟩=K X7:=qg aWe
theorem awA:X7.kd=Kd.oth:=ID rfl
theorem al5:X7.kd.agg=false:=ID rfl
theorem agP:X7.size=1:=ID rfl
theorem abF:X7.bytes=8:=ID rfl
theorem awy:qv X7=True:=eq_true rfl
theorem awz:zc X7=[.v Value.nilFunc]:=ID rfl
theorem aTQ{K:TI→Prop}:@tyW Tryz.prog 152 ⟨K⟩=K X6:=qg aWd
theorem awx:X6.kd=Kd.oth:=ID rfl
theorem al4:X6.kd.agg=false:=ID rfl
theorem agO:X6.size=1:=ID rfl
theorem abE:X6.bytes=8:=ID rfl
theorem awv:qv X6=True:=eq_true rfl
theorem aww:zc X6=[.v Value.nilFunc]:=ID rfl
theorem aTP{K:TI→Prop}:@tyW Tryz.prog 153 ⟨K⟩=K X5:=qg aWc
theorem awu:X5.kd=Kd.oth:=ID rfl
theorem al3:X5.kd.agg=false:=ID rfl
theorem agN:X5.size=1:=ID rfl
theorem abD:X5.bytes=8:=ID rfl
theorem aws:qv X5=True:=eq_true rfl
theorem awt:zc X5=[.v Value.nilFunc]:=ID rfl
theorem aTO{K:TI→Prop}:@tyW Tryz.prog 154 ⟨K⟩=K X4:=qg aWb
theorem awr:X4.kd=Kd.oth:=ID rfl
theorem al2:X4.kd.agg=false:=ID rfl
theorem agM:X4.size=1:=ID rfl
theorem abC:X4.bytes=8:=ID rfl
theorem awo:qv X4=True:=eq_true rfl
theorem awq:zc X4=[.v Value.nilFunc]:=ID rfl
theorem aTN{K:TI→Prop}:@tyW Tryz.prog 155 ⟨K⟩=K yE:=qg VO
theorem awn:yE.kd=Kd.sli 111:=ID rfl
theorem al1:yE.kd.agg=false:=ID rfl
theorem agL:yE.size=1:=ID rfl
theorem abB:yE.bytes=24:=ID rfl
theorem awl:qv yE=True:=eq_true rfl
theorem awm:zc yE=[.v (Value.slice none 0 0)]:=ID rfl
theorem aLX{K:TI→Prop}:@ye Tryz.prog 155 ⟨K⟩=K Qw:=Ql VO rfl amX
theorem aTM{K:TI→Prop}:@tyW Tryz.prog 156 ⟨K⟩=K QQ:=qg ay2
theorem awk:QQ.kd=Kd.stru [(0,3),(1,155)]:=ID rfl
theorem al0:QQ.kd.agg=true:=ID rfl
theorem agK:QQ.size=2:=ID rfl
theorem abA:QQ.bytes=32:=ID rfl
theorem awi:qv QQ=True:=eq_true rfl
theorem awj:zc QQ=[.v (Value.int IntKind.i64 0),.v (Value.slice none 0 0)]:=ID rfl
theorem aAy{K:Nat→TI→Prop}:@qy Tryz.prog 156 0 ⟨K⟩=K 0 ti3:=qr (ti:=QQ) (tf:=ti3) (fo:=(0,3)) (fs:=[(0,3),(1,155)]) ay2 rfl rfl tf3
theorem aHy{K:Nat→Nat→Prop}:qs Tryz.prog [(0,3),(1,155)] 0 K=K 0 1:=qq (tf:=ti3) (fo:=(0,3)) (fs:=[(0,3),(1,155)]) rfl tf3
theorem aAx{K:Nat→TI→Prop}:@qy Tryz.prog 156 1 ⟨K⟩=K 1 yE:=qr (ti:=QQ) (tf:=yE) (fo:=(1,155)) (fs:=[(0,3),(1,155)]) ay2 rfl rfl VO
theorem aHx{K:Nat→Nat→Prop}:qs Tryz.prog [(0,3),(1,155)] 1 K=K 1 1:=qq (tf:=yE) (fo:=(1,155)) (fs:=[(0,3),(1,155)]) rfl VO
theorem aIS:∀f∈([(0,3),(1,155)]:List (Nat×Nat)),(qo Tryz.prog f.2).isSome=true:=by
 intro f hf
 simp only[List.mem_cons,List.not_mem_nil,or_false]at hf
 rcases hf with rfl|rfl
 ·rw[tf3];rfl
 ·rw[VO];rfl
theorem aRq{ps:List (Nat×AV)}{K:AV→Prop}:@q7 Tryz.prog 156 ps ⟨K⟩=@q8 (qs Tryz.prog [(0,3),(1,155)]) (zc QQ) ps ⟨fun cs=>K (.ag cs)⟩:=qK ay2 rfl aIS
theorem aTL{K:TI→Prop}:@tyW Tryz.prog 157 ⟨K⟩=K QP:=qg ay1
theorem awh:QP.kd=Kd.stru [(0,3),(1,155)]:=ID rfl
theorem alZ:QP.kd.agg=true:=ID rfl
theorem agJ:QP.size=2:=ID rfl
theorem abz:QP.bytes=32:=ID rfl
theorem awf:qv QP=True:=eq_true rfl
theorem awg:zc QP=[.v (Value.int IntKind.i64 0),.v (Value.slice none 0 0)]:=ID rfl
theorem aAw{K:Nat→TI→Prop}:@qy Tryz.prog 157 0 ⟨K⟩=K 0 ti3:=qr (ti:=QP) (tf:=ti3) (fo:=(0,3)) (fs:=[(0,3),(1,155)]) ay1 rfl rfl tf3
theorem aHw{K:Nat→Nat→Prop}:qs Tryz.prog [(0,3),(1,155)] 0 K=K 0 1:=qq (tf:=ti3) (fo:=(0,3)) (fs:=[(0,3),(1,155)]) rfl tf3
theorem aAv{K:Nat→TI→Prop}:@qy Tryz.prog 157 1 ⟨K⟩=K 1 yE:=qr (ti:=QP) (tf:=yE) (fo:=(1,155)) (fs:=[(0,3),(1,155)]) ay1 rfl rfl VO
theorem aHv{K:Nat→Nat→Prop}:qs Tryz.prog [(0,3),(1,155)] 1 K=K 1 1:=qq (tf:=yE) (fo:=(1,155)) (fs:=[(0,3),(1,155)]) rfl VO
theorem aIR:∀f∈([(0,3),(1,155)]:List (Nat×Nat)),(qo Tryz.prog f.2).isSome=true:=by
 intro f hf
 simp only[List.mem_cons,List.not_mem_nil,or_false]at hf
 rcases hf with rfl|rfl
 ·rw[tf3];rfl
 ·rw[VO];rfl
theorem aRp{ps:List (Nat×AV)}{K:AV→Prop}:@q7 Tryz.prog 157 ps ⟨K⟩=@q8 (qs Tryz.prog [(0,3),(1,155)]) (zc QP) ps ⟨fun cs=>K (.ag cs)⟩:=qK ay1 rfl aIR
theorem aTK{K:TI→Prop}:@tyW Tryz.prog 158 ⟨K⟩=K X3:=qg aWa
theorem awe:X3.kd=Kd.oth:=ID rfl
theorem alY:X3.kd.agg=false:=ID rfl
theorem agI:X3.size=1:=ID rfl
theorem aby:X3.bytes=8:=ID rfl
theorem awc:qv X3=True:=eq_true rfl
theorem awd:zc X3=[.v Value.nilFunc]:=ID rfl
theorem aTJ{K:TI→Prop}:@tyW Tryz.prog 159 ⟨K⟩=K yD:=qg VN
theorem awb:yD.kd=Kd.sli 50:=ID rfl
theorem alX:yD.kd.agg=false:=ID rfl
theorem agH:yD.size=1:=ID rfl
theorem abx:yD.bytes=24:=ID rfl
theorem av9:qv yD=True:=eq_true rfl
theorem awa:zc yD=[.v (Value.slice none 0 0)]:=ID rfl
theorem aLW{K:TI→Prop}:@ye Tryz.prog 159 ⟨K⟩=K aiQ:=Ql VN rfl aLA
theorem aTI{K:TI→Prop}:@tyW Tryz.prog 160 ⟨K⟩=K QO:=qg ay0
theorem av8:QO.kd=Kd.stru [(0,3),(1,159)]:=ID rfl
theorem alW:QO.kd.agg=true:=ID rfl
theorem agG:QO.size=2:=ID rfl
theorem abw:QO.bytes=32:=ID rfl
theorem av6:qv QO=True:=eq_true rfl
theorem av7:zc QO=[.v (Value.int IntKind.i64 0),.v (Value.slice none 0 0)]:=ID rfl
theorem aAu{K:Nat→TI→Prop}:@qy Tryz.prog 160 0 ⟨K⟩=K 0 ti3:=qr (ti:=QO) (tf:=ti3) (fo:=(0,3)) (fs:=[(0,3),(1,159)]) ay0 rfl rfl tf3
theorem aHu{K:Nat→Nat→Prop}:qs Tryz.prog [(0,3),(1,159)] 0 K=K 0 1:=qq (tf:=ti3) (fo:=(0,3)) (fs:=[(0,3),(1,159)]) rfl tf3
theorem aAt{K:Nat→TI→Prop}:@qy Tryz.prog 160 1 ⟨K⟩=K 1 yD:=qr (ti:=QO) (tf:=yD) (fo:=(1,159)) (fs:=[(0,3),(1,159)]) ay0 rfl rfl VN
theorem aHt{K:Nat→Nat→Prop}:qs Tryz.prog [(0,3),(1,159)] 1 K=K 1 1:=qq (tf:=yD) (fo:=(1,159)) (fs:=[(0,3),(1,159)]) rfl VN
theorem aIQ:∀f∈([(0,3),(1,159)]:List (Nat×Nat)),(qo Tryz.prog f.2).isSome=true:=by
 intro f hf
 simp only[List.mem_cons,List.not_mem_nil,or_false]at hf
 rcases hf with rfl|rfl
 ·rw[tf3];rfl
 ·rw[VN];rfl
theorem aRo{ps:List (Nat×AV)}{K:AV→Prop}:@q7 Tryz.prog 160 ps ⟨K⟩=@q8 (qs Tryz.prog [(0,3),(1,159)]) (zc QO) ps ⟨fun cs=>K (.ag cs)⟩:=qK ay0 rfl aIQ
theorem aTH{K:TI→Prop}:@tyW Tryz.prog 161 ⟨K⟩=K QN:=qg ayZ
theorem av5:QN.kd=Kd.stru [(0,3),(1,159)]:=ID rfl
theorem alV:QN.kd.agg=true:=ID rfl
theorem agF:QN.size=2:=ID rfl
theorem abv:QN.bytes=32:=ID rfl
theorem av3:qv QN=True:=eq_true rfl
theorem av4:zc QN=[.v (Value.int IntKind.i64 0),.v (Value.slice none 0 0)]:=ID rfl
theorem aAs{K:Nat→TI→Prop}:@qy Tryz.prog 161 0 ⟨K⟩=K 0 ti3:=qr (ti:=QN) (tf:=ti3) (fo:=(0,3)) (fs:=[(0,3),(1,159)]) ayZ rfl rfl tf3
theorem aHs{K:Nat→Nat→Prop}:qs Tryz.prog [(0,3),(1,159)] 0 K=K 0 1:=qq (tf:=ti3) (fo:=(0,3)) (fs:=[(0,3),(1,159)]) rfl tf3
theorem aAr{K:Nat→TI→Prop}:@qy Tryz.prog 161 1 ⟨K⟩=K 1 yD:=qr (ti:=QN) (tf:=yD) (fo:=(1,159)) (fs:=[(0,3),(1,159)]) ayZ rfl rfl VN
theorem aHr{K:Nat→Nat→Prop}:qs Tryz.prog [(0,3),(1,159)] 1 K=K 1 1:=qq (tf:=yD) (fo:=(1,159)) (fs:=[(0,3),(1,159)]) rfl VN
theorem aIP:∀f∈([(0,3),(1,159)]:List (Nat×Nat)),(qo Tryz.prog f.2).isSome=true:=by
 intro f hf
 simp only[List.mem_cons,List.not_mem_nil,or_false]at hf
 rcases hf with rfl|rfl
 ·rw[tf3];rfl
 ·rw[VN];rfl
theorem aRn{ps:List (Nat×AV)}{K:AV→Prop}:@q7 Tryz.prog 161 ps ⟨K⟩=@q8 (qs Tryz.prog [(0,3),(1,159)]) (zc QN) ps ⟨fun cs=>K (.ag cs)⟩:=qK ayZ rfl aIP
theorem aTG{K:TI→Prop}:@tyW Tryz.prog 163 ⟨K⟩=K X2:=qg aV9
theorem av2:X2.kd=Kd.oth:=ID rfl
theorem alU:X2.kd.agg=false:=ID rfl
theorem agE:X2.size=1:=ID rfl
theorem abu:X2.bytes=8:=ID rfl
theorem av0:qv X2=True:=eq_true rfl
theorem av1:zc X2=[.v Value.nilFunc]:=ID rfl
theorem aTF{K:TI→Prop}:@tyW Tryz.prog 164 ⟨K⟩=K X1:=qg aV8
theorem avZ:X1.kd=Kd.oth:=ID rfl
theorem alT:X1.kd.agg=false:=ID rfl
theorem agD:X1.size=1:=ID rfl
theorem abt:X1.bytes=8:=ID rfl
theorem avX:qv X1=True:=eq_true rfl
theorem avY:zc X1=[.v Value.nilFunc]:=ID rfl
theorem aTE{K:TI→Prop}:@tyW Tryz.prog 165 ⟨K⟩=K X0:=qg aV7
theorem avW:X0.kd=Kd.oth:=ID rfl
theorem alS:X0.kd.agg=false:=ID rfl
theorem agC:X0.size=1:=ID rfl
theorem abr:X0.bytes=8:=ID rfl
theorem avU:qv X0=True:=eq_true rfl
theorem avV:zc X0=[.v Value.nilFunc]:=ID rfl
theorem aTD{K:TI→Prop}:@tyW Tryz.prog 166 ⟨K⟩=K XZ:=qg aV6
theorem avT:XZ.kd=Kd.oth:=ID rfl
theorem alR:XZ.kd.agg=false:=ID rfl
theorem agB:XZ.size=1:=ID rfl
theorem abq:XZ.bytes=8:=ID rfl
theorem avR:qv XZ=True:=eq_true rfl
theorem avS:zc XZ=[.v Value.nilFunc]:=ID rfl
theorem aTC{K:TI→Prop}:@tyW Tryz.prog 167 ⟨K⟩=K XY:=qg aV5
theorem avQ:XY.kd=Kd.oth:=ID rfl
theorem alQ:XY.kd.agg=false:=ID rfl
theorem agA:XY.size=1:=ID rfl
theorem abp:XY.bytes=8:=ID rfl
theorem avO:qv XY=True:=eq_true rfl
theorem avP:zc XY=[.v Value.nilFunc]:=ID rfl
theorem aTB{K:TI→Prop}:@tyW Tryz.prog 169 ⟨K⟩=K XX:=qg aV4
theorem avN:XX.kd=Kd.oth:=ID rfl
theorem alP:XX.kd.agg=false:=ID rfl
theorem agz:XX.size=1:=ID rfl
theorem abo:XX.bytes=8:=ID rfl
theorem avL:qv XX=True:=eq_true rfl
theorem avM:zc XX=[.v Value.nilFunc]:=ID rfl
theorem aTA{K:TI→Prop}:@tyW Tryz.prog 170 ⟨K⟩=K XW:=qg aV3
theorem avK:XW.kd=Kd.oth:=ID rfl
theorem alO:XW.kd.agg=false:=ID rfl
theorem agy:XW.size=1:=ID rfl
theorem abn:XW.bytes=8:=ID rfl
theorem avI:qv XW=True:=eq_true rfl
theorem avJ:zc XW=[.v Value.nilFunc]:=ID rfl
theorem aTz{K:TI→Prop}:@tyW Tryz.prog 171 ⟨K⟩=K XV:=qg aV2
theorem avH:XV.kd=Kd.oth:=ID rfl
theorem alN:XV.kd.agg=false:=ID rfl
theorem agx:XV.size=1:=ID rfl
theorem abm:XV.bytes=8:=ID rfl
theorem avF:qv XV=True:=eq_true rfl
theorem avG:zc XV=[.v Value.nilFunc]:=ID rfl
theorem aTy{K:TI→Prop}:@tyW Tryz.prog 172 ⟨K⟩=K XU:=qg aV1
theorem avE:XU.kd=Kd.oth:=ID rfl
theorem alM:XU.kd.agg=false:=ID rfl
theorem agw:XU.size=1:=ID rfl
theorem abl:XU.bytes=8:=ID rfl
theorem avC:qv XU=True:=eq_true rfl
theorem avD:zc XU=[.v Value.nilFunc]:=ID rfl
theorem aTx{K:TI→Prop}:@tyW Tryz.prog 173 ⟨K⟩=K XT:=qg aV0
theorem avB:XT.kd=Kd.oth:=ID rfl
theorem alL:XT.kd.agg=false:=ID rfl
theorem agv:XT.size=1:=ID rfl
theorem abk:XT.bytes=8:=ID rfl
theorem avz:qv XT=True:=eq_true rfl
theorem avA:zc XT=[.v Value.nilFunc]:=ID rfl
theorem aTw{K:TI→Prop}:@tyW Tryz.prog 174 ⟨K⟩=K XS:=qg aVZ
theorem avy:XS.kd=Kd.oth:=ID rfl
theorem alK:XS.kd.agg=false:=ID rfl
theorem agu:XS.size=1:=ID rfl
theorem abj:XS.bytes=8:=ID rfl
theorem avw:qv XS=True:=eq_true rfl
theorem avx:zc XS=[.v Value.nilFunc]:=ID rfl
theorem aTv{K:TI→Prop}:@tyW Tryz.prog 176 ⟨K⟩=K XR:=qg aVY
theorem avv:XR.kd=Kd.oth:=ID rfl
theorem alJ:XR.kd.agg=false:=ID rfl
theorem agt:XR.size=1:=ID rfl
theorem abi:XR.bytes=8:=ID rfl
theorem avt:qv XR=True:=eq_true rfl
theorem avu:zc XR=[.v Value.nilFunc]:=ID rfl
theorem aTu{K:TI→Prop}:@tyW Tryz.prog 177 ⟨K⟩=K XQ:=qg aVX
theorem avs:XQ.kd=Kd.oth:=ID rfl
theorem alI:XQ.kd.agg=false:=ID rfl
theorem ags:XQ.size=1:=ID rfl
theorem abh:XQ.bytes=8:=ID rfl
theorem avq:qv XQ=True:=eq_true rfl
theorem avr:zc XQ=[.v Value.nilFunc]:=ID rfl
theorem aTt{K:TI→Prop}:@tyW Tryz.prog 178 ⟨K⟩=K XP:=qg aVW
theorem avp:XP.kd=Kd.oth:=ID rfl
theorem alH:XP.kd.agg=false:=ID rfl
theorem agr:XP.size=1:=ID rfl
theorem abg:XP.bytes=8:=ID rfl
theorem avn:qv XP=True:=eq_true rfl
theorem avo:zc XP=[.v Value.nilFunc]:=ID rfl
theorem aTs{K:TI→Prop}:@tyW Tryz.prog 179 ⟨K⟩=K XO:=qg aVV
theorem avm:XO.kd=Kd.oth:=ID rfl
theorem alG:XO.kd.agg=false:=ID rfl
theorem agq:XO.size=1:=ID rfl
theorem abf:XO.bytes=8:=ID rfl
theorem avk:qv XO=True:=eq_true rfl
theorem avl:zc XO=[.v Value.nilFunc]:=ID rfl
theorem aTr{K:TI→Prop}:@tyW Tryz.prog 180 ⟨K⟩=K XN:=qg aVU
theorem avj:XN.kd=Kd.oth:=ID rfl
theorem alD:XN.kd.agg=false:=ID rfl
theorem agp:XN.size=1:=ID rfl
theorem abe:XN.bytes=8:=ID rfl
theorem avh:qv XN=True:=eq_true rfl
theorem avi:zc XN=[.v Value.nilFunc]:=ID rfl
theorem aTq{K:TI→Prop}:@tyW Tryz.prog 181 ⟨K⟩=K XM:=qg aVT
theorem avg:XM.kd=Kd.oth:=ID rfl
theorem alC:XM.kd.agg=false:=ID rfl
theorem ago:XM.size=1:=ID rfl
theorem abd:XM.bytes=8:=ID rfl
theorem ave:qv XM=True:=eq_true rfl
theorem avf:zc XM=[.v Value.nilFunc]:=ID rfl
theorem aTp{K:TI→Prop}:@tyW Tryz.prog 183 ⟨K⟩=K XL:=qg aVS
theorem avd:XL.kd=Kd.oth:=ID rfl
theorem alB:XL.kd.agg=false:=ID rfl
theorem agn:XL.size=1:=ID rfl
theorem abc:XL.bytes=8:=ID rfl
theorem avb:qv XL=True:=eq_true rfl
theorem avc:zc XL=[.v Value.nilFunc]:=ID rfl
theorem aTo{K:TI→Prop}:@tyW Tryz.prog 184 ⟨K⟩=K XK:=qg aVR
theorem ava:XK.kd=Kd.oth:=ID rfl
theorem alz:XK.kd.agg=false:=ID rfl
theorem agm:XK.size=1:=ID rfl
theorem abb:XK.bytes=8:=ID rfl
theorem au8:qv XK=True:=eq_true rfl
theorem au9:zc XK=[.v Value.nilFunc]:=ID rfl
theorem aTn{K:TI→Prop}:@tyW Tryz.prog 185 ⟨K⟩=K XJ:=qg aLC
theorem au7:XJ.kd=Kd.sli 63:=ID rfl
theorem aly:XJ.kd.agg=false:=ID rfl
theorem agl:XJ.size=1:=ID rfl
theorem aba:XJ.bytes=24:=ID rfl
theorem au5:qv XJ=True:=eq_true rfl
theorem au6:zc XJ=[.v (Value.slice none 0 0)]:=ID rfl
theorem aLV{K:TI→Prop}:@ye Tryz.prog 185 ⟨K⟩=K adp:=Ql aLC rfl aGS
theorem aTm{K:TI→Prop}:@tyW Tryz.prog 186 ⟨K⟩=K XI:=qg aVQ
theorem au4:XI.kd=Kd.oth:=ID rfl
theorem alx:XI.kd.agg=false:=ID rfl
theorem agk:XI.size=1:=ID rfl
theorem aa9:XI.bytes=8:=ID rfl
theorem au2:qv XI=True:=eq_true rfl
theorem au3:zc XI=[.v Value.nilFunc]:=ID rfl
theorem aTl{K:TI→Prop}:@tyW Tryz.prog 187 ⟨K⟩=K XH:=qg aVP
theorem au1:XH.kd=Kd.oth:=ID rfl
theorem alw:XH.kd.agg=false:=ID rfl
theorem agj:XH.size=1:=ID rfl
theorem aa8:XH.bytes=8:=ID rfl
theorem auZ:qv XH=True:=eq_true rfl
theorem au0:zc XH=[.v Value.nilFunc]:=ID rfl
theorem aTk{K:TI→Prop}:@tyW Tryz.prog 188 ⟨K⟩=K XG:=qg aVO
theorem auY:XG.kd=Kd.oth:=ID rfl
theorem alv:XG.kd.agg=false:=ID rfl
theorem agi:XG.size=1:=ID rfl
theorem aa7:XG.bytes=8:=ID rfl
theorem auW:qv XG=True:=eq_true rfl
theorem auX:zc XG=[.v Value.nilFunc]:=ID rfl
theorem aTj{K:TI→Prop}:@tyW Tryz.prog 189 ⟨K⟩=K XF:=qg aVN
theorem auV:XF.kd=Kd.oth:=ID rfl
theorem alu:XF.kd.agg=false:=ID rfl
theorem agh:XF.size=1:=ID rfl
theorem aa6:XF.bytes=8:=ID rfl
theorem auT:qv XF=True:=eq_true rfl
theorem auU:zc XF=[.v Value.nilFunc]:=ID rfl
theorem aTi{K:TI→Prop}:@tyW Tryz.prog 190 ⟨K⟩=K XE:=qg aVM
theorem auS:XE.kd=Kd.oth:=ID rfl
theorem alt:XE.kd.agg=false:=ID rfl
theorem agf:XE.size=1:=ID rfl
theorem aa5:XE.bytes=8:=ID rfl
theorem auQ:qv XE=True:=eq_true rfl
theorem auR:zc XE=[.v Value.nilFunc]:=ID rfl
theorem aTh{K:TI→Prop}:@tyW Tryz.prog 191 ⟨K⟩=K XD:=qg aVL
theorem auP:XD.kd=Kd.oth:=ID rfl
theorem als:XD.kd.agg=false:=ID rfl
theorem age:XD.size=1:=ID rfl
theorem aa4:XD.bytes=8:=ID rfl
theorem auN:qv XD=True:=eq_true rfl
theorem auO:zc XD=[.v Value.nilFunc]:=ID rfl
theorem aTg{K:TI→Prop}:@tyW Tryz.prog 192 ⟨K⟩=K XC:=qg aVK
theorem auM:XC.kd=Kd.oth:=ID rfl
theorem alr:XC.kd.agg=false:=ID rfl
theorem agd:XC.size=1:=ID rfl
theorem aa3:XC.bytes=8:=ID rfl
theorem auK:qv XC=True:=eq_true rfl
theorem auL:zc XC=[.v Value.nilFunc]:=ID rfl
theorem aTf{K:TI→Prop}:@tyW Tryz.prog 193 ⟨K⟩=K XB:=qg aVJ
theorem auJ:XB.kd=Kd.oth:=ID rfl
theorem alq:XB.kd.agg=false:=ID rfl
theorem agc:XB.size=1:=ID rfl
theorem aa2:XB.bytes=8:=ID rfl
theorem auH:qv XB=True:=eq_true rfl
theorem auI:zc XB=[.v Value.nilFunc]:=ID rfl
theorem aTe{K:TI→Prop}:@tyW Tryz.prog 194 ⟨K⟩=K XA:=qg aVI
theorem auG:XA.kd=Kd.oth:=ID rfl
theorem alp:XA.kd.agg=false:=ID rfl
theorem agb:XA.size=1:=ID rfl
theorem aa1:XA.bytes=8:=ID rfl
theorem auE:qv XA=True:=eq_true rfl
theorem auF:zc XA=[.v Value.nilFunc]:=ID rfl
theorem aTd{K:TI→Prop}:@tyW Tryz.prog 195 ⟨K⟩=K Xz:=qg aVH
theorem auD:Xz.kd=Kd.oth:=ID rfl
theorem alo:Xz.kd.agg=false:=ID rfl
theorem aga:Xz.size=1:=ID rfl
theorem aaZ:Xz.bytes=8:=ID rfl
theorem auB:qv Xz=True:=eq_true rfl
theorem auC:zc Xz=[.v Value.nilFunc]:=ID rfl
theorem aTc{K:TI→Prop}:@tyW Tryz.prog 196 ⟨K⟩=K Xy:=qg aVG
theorem auA:Xy.kd=Kd.oth:=ID rfl
theorem aln:Xy.kd.agg=false:=ID rfl
theorem af9:Xy.size=1:=ID rfl
theorem aaY:Xy.bytes=8:=ID rfl
theorem auy:qv Xy=True:=eq_true rfl
theorem auz:zc Xy=[.v Value.nilFunc]:=ID rfl
theorem aTb{K:TI→Prop}:@tyW Tryz.prog 197 ⟨K⟩=K Xx:=qg aVF
theorem aux:Xx.kd=Kd.oth:=ID rfl
theorem alm:Xx.kd.agg=false:=ID rfl
theorem af8:Xx.size=1:=ID rfl
theorem aaX:Xx.bytes=8:=ID rfl
theorem auv:qv Xx=True:=eq_true rfl
theorem auw:zc Xx=[.v Value.nilFunc]:=ID rfl
theorem aTa{K:TI→Prop}:@tyW Tryz.prog 198 ⟨K⟩=K Xw:=qg aVE
theorem auu:Xw.kd=Kd.oth:=ID rfl
theorem alk:Xw.kd.agg=false:=ID rfl
theorem af7:Xw.size=1:=ID rfl
theorem aaW:Xw.bytes=8:=ID rfl
theorem aus:qv Xw=True:=eq_true rfl
theorem aut:zc Xw=[.v Value.nilFunc]:=ID rfl
theorem aS9{K:TI→Prop}:@tyW Tryz.prog 199 ⟨K⟩=K Xv:=qg aVD
theorem aur:Xv.kd=Kd.oth:=ID rfl
theorem alj:Xv.kd.agg=false:=ID rfl
theorem af6:Xv.size=1:=ID rfl
theorem aaV:Xv.bytes=8:=ID rfl
theorem aup:qv Xv=True:=eq_true rfl
theorem auq:zc Xv=[.v Value.nilFunc]:=ID rfl
theorem aS8{K:TI→Prop}:@tyW Tryz.prog 200 ⟨K⟩=K Xu:=qg aVC
theorem aun:Xu.kd=Kd.oth:=ID rfl
theorem alh:Xu.kd.agg=false:=ID rfl
theorem af5:Xu.size=1:=ID rfl
theorem aaU:Xu.bytes=8:=ID rfl
theorem aul:qv Xu=True:=eq_true rfl
theorem aum:zc Xu=[.v Value.nilFunc]:=ID rfl
theorem aS7{K:TI→Prop}:@tyW Tryz.prog 201 ⟨K⟩=K Xt:=qg aVB
theorem auk:Xt.kd=Kd.oth:=ID rfl
theorem alg:Xt.kd.agg=false:=ID rfl
theorem af4:Xt.size=1:=ID rfl
theorem aaT:Xt.bytes=8:=ID rfl
theorem aui:qv Xt=True:=eq_true rfl
theorem auj:zc Xt=[.v Value.nilFunc]:=ID rfl
theorem aS6{K:TI→Prop}:@tyW Tryz.prog 202 ⟨K⟩=K Xs:=qg aVA
theorem auh:Xs.kd=Kd.oth:=ID rfl
theorem alf:Xs.kd.agg=false:=ID rfl
theorem af3:Xs.size=1:=ID rfl
theorem aaS:Xs.bytes=8:=ID rfl
theorem auf:qv Xs=True:=eq_true rfl
theorem aug:zc Xs=[.v Value.nilFunc]:=ID rfl
theorem aS5{K:TI→Prop}:@tyW Tryz.prog 203 ⟨K⟩=K Xr:=qg aVz
theorem aue:Xr.kd=Kd.oth:=ID rfl
theorem ale:Xr.kd.agg=false:=ID rfl
theorem af2:Xr.size=1:=ID rfl
theorem aaR:Xr.bytes=8:=ID rfl
theorem auc:qv Xr=True:=eq_true rfl
theorem aud:zc Xr=[.v Value.nilFunc]:=ID rfl
theorem aS4{K:TI→Prop}:@tyW Tryz.prog 204 ⟨K⟩=K Xq:=qg aVy
theorem aub:Xq.kd=Kd.oth:=ID rfl
theorem ald:Xq.kd.agg=false:=ID rfl
theorem af1:Xq.size=1:=ID rfl
theorem aaQ:Xq.bytes=8:=ID rfl
theorem at9:qv Xq=True:=eq_true rfl
theorem aua:zc Xq=[.v Value.nilFunc]:=ID rfl
theorem aS3{K:TI→Prop}:@tyW Tryz.prog 205 ⟨K⟩=K Xp:=qg aVx
theorem at8:Xp.kd=Kd.oth:=ID rfl
theorem alc:Xp.kd.agg=false:=ID rfl
theorem af0:Xp.size=1:=ID rfl
theorem aaP:Xp.bytes=8:=ID rfl
theorem at6:qv Xp=True:=eq_true rfl
theorem at7:zc Xp=[.v Value.nilFunc]:=ID rfl
theorem aS2{K:TI→Prop}:@tyW Tryz.prog 206 ⟨K⟩=K Xo:=qg aVw
theorem at5:Xo.kd=Kd.oth:=ID rfl
theorem alb:Xo.kd.agg=false:=ID rfl
theorem afZ:Xo.size=1:=ID rfl
theorem aaO:Xo.bytes=8:=ID rfl
theorem at3:qv Xo=True:=eq_true rfl
theorem at4:zc Xo=[.v Value.nilFunc]:=ID rfl
theorem aS1{K:TI→Prop}:@tyW Tryz.prog 208 ⟨K⟩=K Xn:=qg aVv
theorem at2:Xn.kd=Kd.oth:=ID rfl
theorem ala:Xn.kd.agg=false:=ID rfl
theorem afY:Xn.size=1:=ID rfl
theorem aaN:Xn.bytes=8:=ID rfl
theorem at0:qv Xn=True:=eq_true rfl
theorem at1:zc Xn=[.v Value.nilFunc]:=ID rfl
theorem aS0{K:TI→Prop}:@tyW Tryz.prog 209 ⟨K⟩=K Xm:=qg aVu
theorem atZ:Xm.kd=Kd.oth:=ID rfl
theorem ak9:Xm.kd.agg=false:=ID rfl
theorem afX:Xm.size=1:=ID rfl
theorem aaM:Xm.bytes=8:=ID rfl
theorem atX:qv Xm=True:=eq_true rfl
theorem atY:zc Xm=[.v Value.nilFunc]:=ID rfl
theorem aSZ{K:TI→Prop}:@tyW Tryz.prog 210 ⟨K⟩=K Xl:=qg aVt
theorem atW:Xl.kd=Kd.oth:=ID rfl
theorem ak8:Xl.kd.agg=false:=ID rfl
theorem afW:Xl.size=1:=ID rfl
theorem aaL:Xl.bytes=8:=ID rfl
theorem atU:qv Xl=True:=eq_true rfl
theorem atV:zc Xl=[.v Value.nilFunc]:=ID rfl
theorem aSY{K:TI→Prop}:@tyW Tryz.prog 211 ⟨K⟩=K Xk:=qg aVs
theorem atT:Xk.kd=Kd.oth:=ID rfl
theorem ak7:Xk.kd.agg=false:=ID rfl
theorem afV:Xk.size=1:=ID rfl
theorem aaK:Xk.bytes=8:=ID rfl
theorem atR:qv Xk=True:=eq_true rfl
theorem atS:zc Xk=[.v Value.nilFunc]:=ID rfl
theorem aSX{K:TI→Prop}:@tyW Tryz.prog 212 ⟨K⟩=K Xj:=qg aVr
theorem atQ:Xj.kd=Kd.oth:=ID rfl
theorem ak6:Xj.kd.agg=false:=ID rfl
theorem afU:Xj.size=1:=ID rfl
theorem aaJ:Xj.bytes=8:=ID rfl
theorem atO:qv Xj=True:=eq_true rfl
theorem atP:zc Xj=[.v Value.nilFunc]:=ID rfl
theorem aSW{K:TI→Prop}:@tyW Tryz.prog 213 ⟨K⟩=K Xi:=qg aVq
theorem atN:Xi.kd=Kd.oth:=ID rfl
theorem ak5:Xi.kd.agg=false:=ID rfl
theorem afT:Xi.size=1:=ID rfl
theorem aaI:Xi.bytes=8:=ID rfl
theorem atL:qv Xi=True:=eq_true rfl
theorem atM:zc Xi=[.v Value.nilFunc]:=ID rfl
theorem aSV{K:TI→Prop}:@tyW Tryz.prog 214 ⟨K⟩=K Xh:=qg aVp
theorem atK:Xh.kd=Kd.oth:=ID rfl
theorem ak4:Xh.kd.agg=false:=ID rfl
theorem afS:Xh.size=1:=ID rfl
theorem aaH:Xh.bytes=8:=ID rfl
theorem atI:qv Xh=True:=eq_true rfl
theorem atJ:zc Xh=[.v Value.nilFunc]:=ID rfl
theorem aSU{K:TI→Prop}:@tyW Tryz.prog 215 ⟨K⟩=K Xg:=qg aVo
theorem atH:Xg.kd=Kd.oth:=ID rfl
theorem ak3:Xg.kd.agg=false:=ID rfl
theorem afR:Xg.size=1:=ID rfl
theorem aaG:Xg.bytes=8:=ID rfl
theorem atF:qv Xg=True:=eq_true rfl
theorem atG:zc Xg=[.v Value.nilFunc]:=ID rfl
theorem aST{K:TI→Prop}:@tyW Tryz.prog 216 ⟨K⟩=K Xf:=qg aVn
theorem atE:Xf.kd=Kd.oth:=ID rfl
theorem ak2:Xf.kd.agg=false:=ID rfl
theorem afQ:Xf.size=1:=ID rfl
theorem aaF:Xf.bytes=8:=ID rfl
theorem atC:qv Xf=True:=eq_true rfl
theorem atD:zc Xf=[.v Value.nilFunc]:=ID rfl
theorem aSS{K:TI→Prop}:@tyW Tryz.prog 217 ⟨K⟩=K Xe:=qg aVm
theorem atB:Xe.kd=Kd.oth:=ID rfl
theorem ak1:Xe.kd.agg=false:=ID rfl
theorem afP:Xe.size=1:=ID rfl
theorem aaE:Xe.bytes=8:=ID rfl
theorem atz:qv Xe=True:=eq_true rfl
theorem atA:zc Xe=[.v Value.nilFunc]:=ID rfl
theorem aSR{K:TI→Prop}:@tyW Tryz.prog 218 ⟨K⟩=K Xd:=qg aVl
theorem aty:Xd.kd=Kd.oth:=ID rfl
theorem ak0:Xd.kd.agg=false:=ID rfl
theorem afO:Xd.size=1:=ID rfl
theorem aaD:Xd.bytes=8:=ID rfl
theorem atw:qv Xd=True:=eq_true rfl
theorem atx:zc Xd=[.v Value.nilFunc]:=ID rfl
theorem aSQ{K:TI→Prop}:@tyW Tryz.prog 220 ⟨K⟩=K Xc:=qg aVk
theorem atu:Xc.kd=Kd.oth:=ID rfl
theorem akY:Xc.kd.agg=false:=ID rfl
theorem afM:Xc.size=1:=ID rfl
theorem aaC:Xc.bytes=8:=ID rfl
theorem ats:qv Xc=True:=eq_true rfl
theorem att:zc Xc=[.v Value.nilFunc]:=ID rfl
theorem aSP{K:TI→Prop}:@tyW Tryz.prog 221 ⟨K⟩=K Xb:=qg aVj
theorem atr:Xb.kd=Kd.oth:=ID rfl
theorem akX:Xb.kd.agg=false:=ID rfl
theorem afL:Xb.size=1:=ID rfl
theorem aaB:Xb.bytes=8:=ID rfl
theorem atp:qv Xb=True:=eq_true rfl
theorem atq:zc Xb=[.v Value.nilFunc]:=ID rfl
theorem aSO{K:TI→Prop}:@tyW Tryz.prog 222 ⟨K⟩=K Xa:=qg aLB
theorem ato:Xa.kd=Kd.sli 100:=ID rfl
theorem akW:Xa.kd.agg=false:=ID rfl
theorem afK:Xa.size=1:=ID rfl
theorem aaA:Xa.bytes=24:=ID rfl
theorem atm:qv Xa=True:=eq_true rfl
theorem atn:zc Xa=[.v (Value.slice none 0 0)]:=ID rfl
theorem aLU{K:TI→Prop}:@ye Tryz.prog 222 ⟨K⟩=K yo:=Ql aLB rfl Jz
theorem aSN{K:TI→Prop}:@tyW Tryz.prog 223 ⟨K⟩=K Y9:=qg aVi
theorem atl:Y9.kd=Kd.oth:=ID rfl
theorem akV:Y9.kd.agg=false:=ID rfl
theorem afJ:Y9.size=1:=ID rfl
theorem aaz:Y9.bytes=8:=ID rfl
theorem atj:qv Y9=True:=eq_true rfl
theorem atk:zc Y9=[.v Value.nilFunc]:=ID rfl
theorem aSM{K:TI→Prop}:@tyW Tryz.prog 224 ⟨K⟩=K Y8:=qg aVh
theorem ati:Y8.kd=Kd.oth:=ID rfl
theorem akU:Y8.kd.agg=false:=ID rfl
theorem afI:Y8.size=1:=ID rfl
theorem aay:Y8.bytes=8:=ID rfl
theorem atg:qv Y8=True:=eq_true rfl
theorem ath:zc Y8=[.v Value.nilFunc]:=ID rfl
theorem aSL{K:TI→Prop}:@tyW Tryz.prog 225 ⟨K⟩=K Y7:=qg aVg
theorem atf:Y7.kd=Kd.oth:=ID rfl
theorem akT:Y7.kd.agg=false:=ID rfl
theorem afH:Y7.size=1:=ID rfl
theorem aax:Y7.bytes=8:=ID rfl
theorem atd:qv Y7=True:=eq_true rfl
theorem ate:zc Y7=[.v Value.nilFunc]:=ID rfl
theorem aSK{K:TI→Prop}:@tyW Tryz.prog 226 ⟨K⟩=K Y6:=qg aVf
theorem atc:Y6.kd=Kd.oth:=ID rfl
theorem akS:Y6.kd.agg=false:=ID rfl
theorem afG:Y6.size=1:=ID rfl
theorem aaw:Y6.bytes=8:=ID rfl
theorem ata:qv Y6=True:=eq_true rfl
theorem atb:zc Y6=[.v Value.nilFunc]:=ID rfl
theorem aSJ{K:TI→Prop}:@tyW Tryz.prog 227 ⟨K⟩=K Y5:=qg aVe
theorem as9:Y5.kd=Kd.oth:=ID rfl
theorem akR:Y5.kd.agg=false:=ID rfl
theorem afF:Y5.size=1:=ID rfl
theorem aav:Y5.bytes=8:=ID rfl
theorem as7:qv Y5=True:=eq_true rfl
theorem as8:zc Y5=[.v Value.nilFunc]:=ID rfl
theorem aSI{K:TI→Prop}:@tyW Tryz.prog 228 ⟨K⟩=K Y4:=qg aVd
theorem as6:Y4.kd=Kd.oth:=ID rfl
theorem akQ:Y4.kd.agg=false:=ID rfl
theorem afE:Y4.size=1:=ID rfl
theorem aau:Y4.bytes=8:=ID rfl
theorem as4:qv Y4=True:=eq_true rfl
theorem as5:zc Y4=[.v Value.nilFunc]:=ID rfl
theorem aSH{K:TI→Prop}:@tyW Tryz.prog 229 ⟨K⟩=K Y3:=qg aVc
theorem as3:Y3.kd=Kd.oth:=ID rfl
theorem akP:Y3.kd.agg=false:=ID rfl
theorem afD:Y3.size=1:=ID rfl
theorem aat:Y3.bytes=8:=ID rfl
theorem as1:qv Y3=True:=eq_true rfl
theorem as2:zc Y3=[.v Value.nilFunc]:=ID rfl
theorem aSG{K:TI→Prop}:@tyW Tryz.prog 230 ⟨K⟩=K Y2:=qg aVb
theorem asZ:Y2.kd=Kd.oth:=ID rfl
theorem akN:Y2.kd.agg=false:=ID rfl
theorem afB:Y2.size=1:=ID rfl
theorem aas:Y2.bytes=8:=ID rfl
theorem asX:qv Y2=True:=eq_true rfl
theorem asY:zc Y2=[.v Value.nilFunc]:=ID rfl
theorem aSF{K:TI→Prop}:@tyW Tryz.prog 232 ⟨K⟩=K Y1:=qg aVa
theorem asW:Y1.kd=Kd.oth:=ID rfl
theorem akM:Y1.kd.agg=false:=ID rfl
theorem afA:Y1.size=1:=ID rfl
theorem aar:Y1.bytes=8:=ID rfl
theorem asU:qv Y1=True:=eq_true rfl
theorem asV:zc Y1=[.v Value.nilFunc]:=ID rfl
theorem aSE{K:TI→Prop}:@tyW Tryz.prog 233 ⟨K⟩=K Y0:=qg aU9
theorem asT:Y0.kd=Kd.oth:=ID rfl
theorem akL:Y0.kd.agg=false:=ID rfl
theorem afz:Y0.size=1:=ID rfl
theorem aaq:Y0.bytes=8:=ID rfl
theorem asR:qv Y0=True:=eq_true rfl
theorem asS:zc Y0=[.v Value.nilFunc]:=ID rfl
theorem aSD{K:TI→Prop}:@tyW Tryz.prog 234 ⟨K⟩=K YZ:=qg aU8
theorem asQ:YZ.kd=Kd.oth:=ID rfl
theorem akK:YZ.kd.agg=false:=ID rfl
theorem afy:YZ.size=1:=ID rfl
theorem aap:YZ.bytes=8:=ID rfl
theorem asO:qv YZ=True:=eq_true rfl
theorem asP:zc YZ=[.v Value.nilFunc]:=ID rfl
theorem aSC{K:TI→Prop}:@tyW Tryz.prog 235 ⟨K⟩=K YY:=qg aU7
theorem asN:YY.kd=Kd.oth:=ID rfl
theorem akJ:YY.kd.agg=false:=ID rfl
theorem afx:YY.size=1:=ID rfl
theorem aao:YY.bytes=8:=ID rfl
theorem asL:qv YY=True:=eq_true rfl
theorem asM:zc YY=[.v Value.nilFunc]:=ID rfl
theorem aSB{K:TI→Prop}:@tyW Tryz.prog 237 ⟨K⟩=K YX:=qg aU6
theorem asK:YX.kd=Kd.oth:=ID rfl
theorem akI:YX.kd.agg=false:=ID rfl
theorem afw:YX.size=1:=ID rfl
theorem aan:YX.bytes=8:=ID rfl
theorem asI:qv YX=True:=eq_true rfl
theorem asJ:zc YX=[.v Value.nilFunc]:=ID rfl
theorem aSA{K:TI→Prop}:@tyW Tryz.prog 238 ⟨K⟩=K YW:=qg aU5
theorem asH:YW.kd=Kd.oth:=ID rfl
theorem akH:YW.kd.agg=false:=ID rfl
theorem afv:YW.size=1:=ID rfl
theorem aam:YW.bytes=8:=ID rfl
theorem asF:qv YW=True:=eq_true rfl
theorem asG:zc YW=[.v Value.nilFunc]:=ID rfl
theorem aSz{K:TI→Prop}:@tyW Tryz.prog 239 ⟨K⟩=K YV:=qg aU4
theorem asE:YV.kd=Kd.oth:=ID rfl
theorem akG:YV.kd.agg=false:=ID rfl
theorem afu:YV.size=1:=ID rfl
theorem aal:YV.bytes=8:=ID rfl
theorem asC:qv YV=True:=eq_true rfl
theorem asD:zc YV=[.v Value.nilFunc]:=ID rfl
theorem aSy{K:TI→Prop}:@tyW Tryz.prog 240 ⟨K⟩=K YU:=qg aU2
theorem asA:YU.kd=Kd.oth:=ID rfl
theorem akE:YU.kd.agg=false:=ID rfl
theorem afs:YU.size=1:=ID rfl
theorem aak:YU.bytes=8:=ID rfl
theorem asy:qv YU=True:=eq_true rfl
theorem asz:zc YU=[.v Value.nilFunc]:=ID rfl
theorem aSx{K:TI→Prop}:@tyW Tryz.prog 241 ⟨K⟩=K YT:=qg aU1
theorem asx:YT.kd=Kd.oth:=ID rfl
theorem akD:YT.kd.agg=false:=ID rfl
theorem afr:YT.size=1:=ID rfl
theorem aaj:YT.bytes=8:=ID rfl
theorem asv:qv YT=True:=eq_true rfl
theorem asw:zc YT=[.v Value.nilFunc]:=ID rfl
theorem aSw{K:TI→Prop}:@tyW Tryz.prog 242 ⟨K⟩=K YS:=qg aU0
theorem asu:YS.kd=Kd.int IntKind.u32:=ID rfl
theorem akC:YS.kd.agg=false:=ID rfl
theorem afq:YS.size=1:=ID rfl
theorem aai:YS.bytes=4:=ID rfl
theorem ass:qv YS=True:=eq_true rfl
theorem ast:zc YS=[.v (Value.int IntKind.u32 0)]:=ID rfl
theorem aSv{K:TI→Prop}:@tyW Tryz.prog 243 ⟨K⟩=K YR:=qg aUZ
theorem asr:YR.kd=Kd.oth:=ID rfl
theorem akB:YR.kd.agg=false:=ID rfl
theorem afp:YR.size=1:=ID rfl
theorem aah:YR.bytes=8:=ID rfl
theorem asp:qv YR=True:=eq_true rfl
theorem asq:zc YR=[.v Value.nilFunc]:=ID rfl
theorem aSu{K:TI→Prop}:@tyW Tryz.prog 244 ⟨K⟩=K YQ:=qg aUY
theorem aso:YQ.kd=Kd.int IntKind.u64:=ID rfl
theorem akA:YQ.kd.agg=false:=ID rfl
theorem afo:YQ.size=1:=ID rfl
theorem aag:YQ.bytes=8:=ID rfl
theorem asm:qv YQ=True:=eq_true rfl
theorem asn:zc YQ=[.v (Value.int IntKind.u64 0)]:=ID rfl
theorem aSt{K:TI→Prop}:@tyW Tryz.prog 245 ⟨K⟩=K YP:=qg aUX
theorem asl:YP.kd=Kd.oth:=ID rfl
theorem akz:YP.kd.agg=false:=ID rfl
theorem afn:YP.size=1:=ID rfl
theorem aaf:YP.bytes=8:=ID rfl
theorem asj:qv YP=True:=eq_true rfl
theorem ask:zc YP=[.v Value.nilFunc]:=ID rfl
theorem aSs{K:TI→Prop}:@tyW Tryz.prog 247 ⟨K⟩=K YO:=qg aUW
theorem asi:YO.kd=Kd.oth:=ID rfl
theorem aky:YO.kd.agg=false:=ID rfl
theorem afm:YO.size=1:=ID rfl
theorem aae:YO.bytes=8:=ID rfl
theorem asg:qv YO=True:=eq_true rfl
theorem ash:zc YO=[.v Value.nilFunc]:=ID rfl
theorem aSr{K:TI→Prop}:@tyW Tryz.prog 248 ⟨K⟩=K YN:=qg aUV
theorem asf:YN.kd=Kd.oth:=ID rfl
theorem akx:YN.kd.agg=false:=ID rfl
theorem afl:YN.size=1:=ID rfl
theorem aad:YN.bytes=8:=ID rfl
theorem asd:qv YN=True:=eq_true rfl
theorem ase:zc YN=[.v Value.nilFunc]:=ID rfl
theorem aSq{K:TI→Prop}:@tyW Tryz.prog 249 ⟨K⟩=K YM:=qg aUU
theorem asc:YM.kd=Kd.oth:=ID rfl
theorem akw:YM.kd.agg=false:=ID rfl
theorem afk:YM.size=1:=ID rfl
theorem aac:YM.bytes=8:=ID rfl
theorem asa:qv YM=True:=eq_true rfl
theorem asb:zc YM=[.v Value.nilFunc]:=ID rfl
theorem aSp{K:TI→Prop}:@tyW Tryz.prog 250 ⟨K⟩=K YL:=qg aUT
theorem ar8:YL.kd=Kd.oth:=ID rfl
theorem aku:YL.kd.agg=false:=ID rfl
theorem afi:YL.size=1:=ID rfl
theorem aab:YL.bytes=8:=ID rfl
theorem ar6:qv YL=True:=eq_true rfl
theorem ar7:zc YL=[.v Value.nilFunc]:=ID rfl
theorem aSo{K:TI→Prop}:@tyW Tryz.prog 251 ⟨K⟩=K YK:=qg aUS
theorem ar5:YK.kd=Kd.oth:=ID rfl
theorem akt:YK.kd.agg=false:=ID rfl
theorem afh:YK.size=1:=ID rfl
theorem aaa:YK.bytes=8:=ID rfl
theorem ar3:qv YK=True:=eq_true rfl
theorem ar4:zc YK=[.v Value.nilFunc]:=ID rfl
theorem aSn{K:TI→Prop}:@tyW Tryz.prog 252 ⟨K⟩=K YJ:=qg aUR
theorem ar2:YJ.kd=Kd.oth:=ID rfl
theorem aks:YJ.kd.agg=false:=ID rfl
theorem afg:YJ.size=1:=ID rfl
theorem K9:YJ.bytes=8:=ID rfl
theorem ar0:qv YJ=True:=eq_true rfl
theorem ar1:zc YJ=[.v Value.nilFunc]:=ID rfl
theorem aSm{K:TI→Prop}:@tyW Tryz.prog 253 ⟨K⟩=K YI:=qg aUQ
theorem arZ:YI.kd=Kd.oth:=ID rfl
theorem akr:YI.kd.agg=false:=ID rfl
theorem aff:YI.size=1:=ID rfl
theorem K8:YI.bytes=8:=ID rfl
theorem arX:qv YI=True:=eq_true rfl
theorem arY:zc YI=[.v Value.nilFunc]:=ID rfl
theorem aSl{K:TI→Prop}:@tyW Tryz.prog 254 ⟨K⟩=K YH:=qg aUP
theorem arW:YH.kd=Kd.oth:=ID rfl
theorem akq:YH.kd.agg=false:=ID rfl
theorem afe:YH.size=1:=ID rfl
theorem K7:YH.bytes=8:=ID rfl
theorem arU:qv YH=True:=eq_true rfl
theorem arV:zc YH=[.v Value.nilFunc]:=ID rfl
theorem aSk{K:TI→Prop}:@tyW Tryz.prog 255 ⟨K⟩=K YG:=qg aUO
theorem arT:YG.kd=Kd.oth:=ID rfl
theorem akp:YG.kd.agg=false:=ID rfl
theorem afd:YG.size=1:=ID rfl
theorem K6:YG.bytes=8:=ID rfl
theorem arR:qv YG=True:=eq_true rfl
theorem arS:zc YG=[.v Value.nilFunc]:=ID rfl
theorem aSj{K:TI→Prop}:@tyW Tryz.prog 258 ⟨K⟩=K YF:=qg aUN
theorem arQ:YF.kd=Kd.oth:=ID rfl
theorem ako:YF.kd.agg=false:=ID rfl
theorem afc:YF.size=1:=ID rfl
theorem K5:YF.bytes=8:=ID rfl
theorem arO:qv YF=True:=eq_true rfl
theorem arP:zc YF=[.v Value.nilFunc]:=ID rfl
theorem aSi{K:TI→Prop}:@tyW Tryz.prog 262 ⟨K⟩=K YE:=qg aUM
theorem arM:YE.kd=Kd.stru [(0,261)]:=ID rfl
theorem akl:YE.kd.agg=true:=ID rfl
theorem afa:YE.size=0:=ID rfl
theorem K4:YE.bytes=0:=ID rfl
theorem arK:qv YE=True:=eq_true rfl
theorem arL:zc YE=[]:=ID rfl
theorem aSh{K:TI→Prop}:@tyW Tryz.prog 263 ⟨K⟩=K YD:=qg aUL
theorem arJ:YD.kd=Kd.stru [(0,261)]:=ID rfl
theorem akk:YD.kd.agg=true:=ID rfl
theorem ae9:YD.size=0:=ID rfl
theorem K3:YD.bytes=0:=ID rfl
theorem arH:qv YD=True:=eq_true rfl
theorem arI:zc YD=[]:=ID rfl
theorem aSg{K:TI→Prop}:@tyW Tryz.prog 264 ⟨K⟩=K YC:=qg aUK
theorem arG:YC.kd=Kd.int IntKind.u8:=ID rfl
theorem akj:YC.kd.agg=false:=ID rfl
theorem ae8:YC.size=1:=ID rfl
theorem K2:YC.bytes=1:=ID rfl
theorem arE:qv YC=True:=eq_true rfl
theorem arF:zc YC=[.v (Value.int IntKind.u8 0)]:=ID rfl
theorem aSf{K:TI→Prop}:@tyW Tryz.prog 265 ⟨K⟩=K YB:=qg aUJ
theorem arD:YB.kd=Kd.int IntKind.u8:=ID rfl
theorem aki:YB.kd.agg=false:=ID rfl
theorem ae7:YB.size=1:=ID rfl
theorem K1:YB.bytes=1:=ID rfl
theorem arB:qv YB=True:=eq_true rfl
theorem arC:zc YB=[.v (Value.int IntKind.u8 0)]:=ID rfl
theorem aSe{K:TI→Prop}:@tyW Tryz.prog 266 ⟨K⟩=K YA:=qg aUI
theorem arA:YA.kd=Kd.oth:=ID rfl
theorem akh:YA.kd.agg=false:=ID rfl
theorem ae6:YA.size=1:=ID rfl
theorem K0:YA.bytes=8:=ID rfl
theorem ary:qv YA=True:=eq_true rfl
theorem arz:zc YA=[.v Value.nilFunc]:=ID rfl
theorem aSd{K:TI→Prop}:@tyW Tryz.prog 268 ⟨K⟩=K Yz:=qg aUH
theorem arx:Yz.kd=Kd.int IntKind.i32:=ID rfl
theorem akg:Yz.kd.agg=false:=ID rfl
theorem ae5:Yz.size=1:=ID rfl
theorem KZ:Yz.bytes=4:=ID rfl
theorem arv:qv Yz=True:=eq_true rfl
theorem arw:zc Yz=[.v (Value.int IntKind.i32 0)]:=ID rfl
theorem aSc{K:TI→Prop}:@tyW Tryz.prog 269 ⟨K⟩=K Yy:=qg aUG
theorem aru:Yy.kd=Kd.int IntKind.i32:=ID rfl
theorem akf:Yy.kd.agg=false:=ID rfl
theorem ae4:Yy.size=1:=ID rfl
theorem KY:Yy.bytes=4:=ID rfl
theorem ars:qv Yy=True:=eq_true rfl
theorem art:zc Yy=[.v (Value.int IntKind.i32 0)]:=ID rfl
theorem aSb{K:TI→Prop}:@tyW Tryz.prog 272 ⟨K⟩=K Yw:=qg aUF
theorem arp:Yw.kd=Kd.oth:=ID rfl
theorem akd:Yw.kd.agg=false:=ID rfl
theorem ae2:Yw.size=1:=ID rfl
theorem KX:Yw.bytes=8:=ID rfl
theorem arn:qv Yw=True:=eq_true rfl
theorem aro:zc Yw=[.v Value.nilFunc]:=ID rfl
theorem aSa{K:TI→Prop}:@tyW Tryz.prog 273 ⟨K⟩=K Yv:=qg aUE
theorem arm:Yv.kd=Kd.oth:=ID rfl
theorem akc:Yv.kd.agg=false:=ID rfl
theorem ae1:Yv.size=1:=ID rfl
theorem KW:Yv.bytes=8:=ID rfl
theorem ark:qv Yv=True:=eq_true rfl
theorem arl:zc Yv=[.v Value.nilFunc]:=ID rfl
theorem aR9{K:TI→Prop}:@tyW Tryz.prog 274 ⟨K⟩=K Yu:=qg aUD
theorem arj:Yu.kd=Kd.oth:=ID rfl
theorem akb:Yu.kd.agg=false:=ID rfl
theorem ae0:Yu.size=1:=ID rfl
theorem KU:Yu.bytes=8:=ID rfl
theorem arh:qv Yu=True:=eq_true rfl
theorem ari:zc Yu=[.v Value.nilFunc]:=ID rfl
theorem bb1:qp Tryz.prog 2=True:=eq_true ⟨_,Tryz.func2,of_decide_eq_false (by kernel_rfl),rfl⟩
theorem bb0:qp Tryz.prog 3=True:=eq_true ⟨_,Tryz.func3,of_decide_eq_false (by kernel_rfl),rfl⟩
theorem bbZ:qp Tryz.prog 4=True:=eq_true ⟨_,Tryz.func4,of_decide_eq_false (by kernel_rfl),rfl⟩
theorem bbY:qp Tryz.prog 5=True:=eq_true ⟨_,Tryz.func5,of_decide_eq_false (by kernel_rfl),rfl⟩
theorem bbX:qp Tryz.prog 6=True:=eq_true ⟨_,Tryz.func6,of_decide_eq_false (by kernel_rfl),rfl⟩
theorem bbW:qp Tryz.prog 7=True:=eq_true ⟨_,Tryz.func7,of_decide_eq_false (by kernel_rfl),rfl⟩
theorem bbV:qp Tryz.prog 8=True:=eq_true ⟨_,Tryz.func8,of_decide_eq_false (by kernel_rfl),rfl⟩
theorem bbU:qp Tryz.prog 9=True:=eq_true ⟨_,Tryz.func9,of_decide_eq_false (by kernel_rfl),rfl⟩
theorem aY1:qp Tryz.prog 10=True:=eq_true ⟨_,Tryz.func10,of_decide_eq_false (by kernel_rfl),rfl⟩
theorem aY0:qp Tryz.prog 11=True:=eq_true ⟨_,Tryz.func11,of_decide_eq_false (by kernel_rfl),rfl⟩
theorem aYZ:qp Tryz.prog 12=True:=eq_true ⟨_,Tryz.func12,of_decide_eq_false (by kernel_rfl),rfl⟩
theorem aYY:qp Tryz.prog 13=True:=eq_true ⟨_,Tryz.func13,of_decide_eq_false (by kernel_rfl),rfl⟩
theorem aYX:qp Tryz.prog 14=True:=eq_true ⟨_,Tryz.func14,of_decide_eq_false (by kernel_rfl),rfl⟩
theorem aYW:qp Tryz.prog 15=True:=eq_true ⟨_,Tryz.func15,of_decide_eq_false (by kernel_rfl),rfl⟩
theorem aYV:qp Tryz.prog 16=True:=eq_true ⟨_,Tryz.func16,of_decide_eq_false (by kernel_rfl),rfl⟩
theorem aYU:qp Tryz.prog 17=True:=eq_true ⟨_,Tryz.func17,of_decide_eq_false (by kernel_rfl),rfl⟩
theorem aYT:qp Tryz.prog 18=True:=eq_true ⟨_,Tryz.func18,of_decide_eq_false (by kernel_rfl),rfl⟩
theorem aYS:qp Tryz.prog 19=True:=eq_true ⟨_,Tryz.func19,of_decide_eq_false (by kernel_rfl),rfl⟩
theorem aYR:qp Tryz.prog 20=True:=eq_true ⟨_,Tryz.func20,of_decide_eq_false (by kernel_rfl),rfl⟩
theorem aYQ:qp Tryz.prog 21=True:=eq_true ⟨_,Tryz.func21,of_decide_eq_false (by kernel_rfl),rfl⟩
theorem aYP:qp Tryz.prog 22=True:=eq_true ⟨_,Tryz.func22,of_decide_eq_false (by kernel_rfl),rfl⟩
theorem aYO:qp Tryz.prog 23=True:=eq_true ⟨_,Tryz.func23,of_decide_eq_false (by kernel_rfl),rfl⟩
theorem aYN:qp Tryz.prog 24=True:=eq_true ⟨_,Tryz.func24,of_decide_eq_false (by kernel_rfl),rfl⟩
theorem aYM:qp Tryz.prog 25=True:=eq_true ⟨_,Tryz.func25,of_decide_eq_false (by kernel_rfl),rfl⟩
theorem aYL:qp Tryz.prog 26=True:=eq_true ⟨_,Tryz.func26,of_decide_eq_false (by kernel_rfl),rfl⟩
theorem aYK:qp Tryz.prog 27=True:=eq_true ⟨_,Tryz.func27,of_decide_eq_false (by kernel_rfl),rfl⟩
theorem aYJ:qp Tryz.prog 28=True:=eq_true ⟨_,Tryz.func28,of_decide_eq_false (by kernel_rfl),rfl⟩
theorem aYI:qp Tryz.prog 29=True:=eq_true ⟨_,Tryz.func29,of_decide_eq_false (by kernel_rfl),rfl⟩
theorem aYH:qp Tryz.prog 30=True:=eq_true ⟨_,Tryz.func30,of_decide_eq_false (by kernel_rfl),rfl⟩
theorem aYG:qp Tryz.prog 31=True:=eq_true ⟨_,Tryz.func31,of_decide_eq_false (by kernel_rfl),rfl⟩
theorem aYF:qp Tryz.prog 32=True:=eq_true ⟨_,Tryz.func32,of_decide_eq_false (by kernel_rfl),rfl⟩
theorem aYE:qp Tryz.prog 33=True:=eq_true ⟨_,Tryz.func33,of_decide_eq_false (by kernel_rfl),rfl⟩
theorem aYD:qp Tryz.prog 34=True:=eq_true ⟨_,Tryz.func34,of_decide_eq_false (by kernel_rfl),rfl⟩
theorem aYC:qp Tryz.prog 35=True:=eq_true ⟨_,Tryz.func35,of_decide_eq_false (by kernel_rfl),rfl⟩
theorem aYB:qp Tryz.prog 36=True:=eq_true ⟨_,Tryz.func36,of_decide_eq_false (by kernel_rfl),rfl⟩
theorem aYA:qp Tryz.prog 37=True:=eq_true ⟨_,Tryz.func37,of_decide_eq_false (by kernel_rfl),rfl⟩
theorem aYz:qp Tryz.prog 38=True:=eq_true ⟨_,Tryz.func38,of_decide_eq_false (by kernel_rfl),rfl⟩
theorem aYy:qp Tryz.prog 39=True:=eq_true ⟨_,Tryz.func39,of_decide_eq_false (by kernel_rfl),rfl⟩
theorem aYx:qp Tryz.prog 40=True:=eq_true ⟨_,Tryz.func40,of_decide_eq_false (by kernel_rfl),rfl⟩
theorem aYw:qp Tryz.prog 41=True:=eq_true ⟨_,Tryz.func41,of_decide_eq_false (by kernel_rfl),rfl⟩
theorem aYv:qp Tryz.prog 42=True:=eq_true ⟨_,Tryz.func42,of_decide_eq_false (by kernel_rfl),rfl⟩
theorem aYu:qp Tryz.prog 43=True:=eq_true ⟨_,Tryz.func43,of_decide_eq_false (by kernel_rfl),rfl⟩
theorem aYt:qp Tryz.prog 44=True:=eq_true ⟨_,Tryz.func44,of_decide_eq_false (by kernel_rfl),rfl⟩
theorem aYs:qp Tryz.prog 45=True:=eq_true ⟨_,Tryz.func45,of_decide_eq_false (by kernel_rfl),rfl⟩
theorem aYr:qp Tryz.prog 46=True:=eq_true ⟨_,Tryz.func46,of_decide_eq_false (by kernel_rfl),rfl⟩
theorem aYq:qp Tryz.prog 47=True:=eq_true ⟨_,Tryz.func47,of_decide_eq_false (by kernel_rfl),rfl⟩
theorem aYp:qp Tryz.prog 48=True:=eq_true ⟨_,Tryz.func48,of_decide_eq_false (by kernel_rfl),rfl⟩
theorem aYo:qp Tryz.prog 49=True:=eq_true ⟨_,Tryz.func49,of_decide_eq_false (by kernel_rfl),rfl⟩
theorem aYn:qp Tryz.prog 50=True:=eq_true ⟨_,Tryz.func50,of_decide_eq_false (by kernel_rfl),rfl⟩
theorem aYm:qp Tryz.prog 51=True:=eq_true ⟨_,Tryz.func51,of_decide_eq_false (by kernel_rfl),rfl⟩
theorem aYl:qp Tryz.prog 52=True:=eq_true ⟨_,Tryz.func52,of_decide_eq_false (by kernel_rfl),rfl⟩
theorem aYk:qp Tryz.prog 53=True:=eq_true ⟨_,Tryz.func53,of_decide_eq_false (by kernel_rfl),rfl⟩
theorem aYj:qp Tryz.prog 54=True:=eq_true ⟨_,Tryz.func54,of_decide_eq_false (by kernel_rfl),rfl⟩
theorem aYi:qp Tryz.prog 55=True:=eq_true ⟨_,Tryz.func55,of_decide_eq_false (by kernel_rfl),rfl⟩
theorem aYh:qp Tryz.prog 56=True:=eq_true ⟨_,Tryz.func56,of_decide_eq_false (by kernel_rfl),rfl⟩
theorem aYg:qp Tryz.prog 57=True:=eq_true ⟨_,Tryz.func57,of_decide_eq_false (by kernel_rfl),rfl⟩
theorem aYf:qp Tryz.prog 58=True:=eq_true ⟨_,Tryz.func58,of_decide_eq_false (by kernel_rfl),rfl⟩
theorem aYe:qp Tryz.prog 59=True:=eq_true ⟨_,Tryz.func59,of_decide_eq_false (by kernel_rfl),rfl⟩
theorem aYd:qp Tryz.prog 60=True:=eq_true ⟨_,Tryz.func60,of_decide_eq_false (by kernel_rfl),rfl⟩
theorem aYc:qp Tryz.prog 61=True:=eq_true ⟨_,Tryz.func61,of_decide_eq_false (by kernel_rfl),rfl⟩
theorem aYb:qp Tryz.prog 62=True:=eq_true ⟨_,Tryz.func62,of_decide_eq_false (by kernel_rfl),rfl⟩
theorem aYa:qp Tryz.prog 63=True:=eq_true ⟨_,Tryz.func63,of_decide_eq_false (by kernel_rfl),rfl⟩
theorem aX9:qp Tryz.prog 64=True:=eq_true ⟨_,Tryz.func64,of_decide_eq_false (by kernel_rfl),rfl⟩
theorem aX8:qp Tryz.prog 65=True:=eq_true ⟨_,Tryz.func65,of_decide_eq_false (by kernel_rfl),rfl⟩
theorem aX7:qp Tryz.prog 66=True:=eq_true ⟨_,Tryz.func66,of_decide_eq_false (by kernel_rfl),rfl⟩
theorem aX6:qp Tryz.prog 67=True:=eq_true ⟨_,Tryz.func67,of_decide_eq_false (by kernel_rfl),rfl⟩
theorem aX5:qp Tryz.prog 68=True:=eq_true ⟨_,Tryz.func68,of_decide_eq_false (by kernel_rfl),rfl⟩
theorem aX4:qp Tryz.prog 69=True:=eq_true ⟨_,Tryz.func69,of_decide_eq_false (by kernel_rfl),rfl⟩
theorem aX3:qp Tryz.prog 70=True:=eq_true ⟨_,Tryz.func70,of_decide_eq_false (by kernel_rfl),rfl⟩
theorem aX2:qp Tryz.prog 71=True:=eq_true ⟨_,Tryz.func71,of_decide_eq_false (by kernel_rfl),rfl⟩
theorem aX1:qp Tryz.prog 72=True:=eq_true ⟨_,Tryz.func72,of_decide_eq_false (by kernel_rfl),rfl⟩
theorem aX0:qp Tryz.prog 73=True:=eq_true ⟨_,Tryz.func73,of_decide_eq_false (by kernel_rfl),rfl⟩
theorem aXZ:qp Tryz.prog 74=True:=eq_true ⟨_,Tryz.func74,of_decide_eq_false (by kernel_rfl),rfl⟩
theorem aXY:qp Tryz.prog 75=True:=eq_true ⟨_,Tryz.func75,of_decide_eq_false (by kernel_rfl),rfl⟩
theorem aXX:qp Tryz.prog 76=True:=eq_true ⟨_,Tryz.func76,of_decide_eq_false (by kernel_rfl),rfl⟩
theorem aXW:qp Tryz.prog 77=True:=eq_true ⟨_,Tryz.func77,of_decide_eq_false (by kernel_rfl),rfl⟩
theorem aXV:qp Tryz.prog 78=True:=eq_true ⟨_,Tryz.func78,of_decide_eq_false (by kernel_rfl),rfl⟩
theorem aXU:qp Tryz.prog 79=True:=eq_true ⟨_,Tryz.func79,of_decide_eq_false (by kernel_rfl),rfl⟩
theorem aXT:qp Tryz.prog 80=True:=eq_true ⟨_,Tryz.func80,of_decide_eq_false (by kernel_rfl),rfl⟩
theorem aXS:qp Tryz.prog 81=True:=eq_true ⟨_,Tryz.func81,of_decide_eq_false (by kernel_rfl),rfl⟩
theorem aXR:qp Tryz.prog 82=True:=eq_true ⟨_,Tryz.func82,of_decide_eq_false (by kernel_rfl),rfl⟩
theorem aXQ:qp Tryz.prog 83=True:=eq_true ⟨_,Tryz.func83,of_decide_eq_false (by kernel_rfl),rfl⟩
theorem aXP:qp Tryz.prog 84=True:=eq_true ⟨_,Tryz.func84,of_decide_eq_false (by kernel_rfl),rfl⟩
theorem aXO:qp Tryz.prog 85=True:=eq_true ⟨_,Tryz.func85,of_decide_eq_false (by kernel_rfl),rfl⟩
theorem aXN:qp Tryz.prog 86=True:=eq_true ⟨_,Tryz.func86,of_decide_eq_false (by kernel_rfl),rfl⟩
theorem aXM:qp Tryz.prog 87=True:=eq_true ⟨_,Tryz.func87,of_decide_eq_false (by kernel_rfl),rfl⟩
theorem aXL:qp Tryz.prog 88=True:=eq_true ⟨_,Tryz.func88,of_decide_eq_false (by kernel_rfl),rfl⟩
theorem aXK:qp Tryz.prog 89=True:=eq_true ⟨_,Tryz.func89,of_decide_eq_false (by kernel_rfl),rfl⟩
theorem aXJ:qp Tryz.prog 90=True:=eq_true ⟨_,Tryz.func90,of_decide_eq_false (by kernel_rfl),rfl⟩
theorem aXI:qp Tryz.prog 91=True:=eq_true ⟨_,Tryz.func91,of_decide_eq_false (by kernel_rfl),rfl⟩
theorem aXH:qp Tryz.prog 92=True:=eq_true ⟨_,Tryz.func92,of_decide_eq_false (by kernel_rfl),rfl⟩
theorem aXG:qp Tryz.prog 93=True:=eq_true ⟨_,Tryz.func93,of_decide_eq_false (by kernel_rfl),rfl⟩
theorem aXF:qp Tryz.prog 94=True:=eq_true ⟨_,Tryz.func94,of_decide_eq_false (by kernel_rfl),rfl⟩
theorem aXE:qp Tryz.prog 95=True:=eq_true ⟨_,Tryz.func95,of_decide_eq_false (by kernel_rfl),rfl⟩
theorem aXD:qp Tryz.prog 96=True:=eq_true ⟨_,Tryz.func96,of_decide_eq_false (by kernel_rfl),rfl⟩
theorem aXC:qp Tryz.prog 97=True:=eq_true ⟨_,Tryz.func97,of_decide_eq_false (by kernel_rfl),rfl⟩
theorem aXB:qp Tryz.prog 98=True:=eq_true ⟨_,Tryz.func98,of_decide_eq_false (by kernel_rfl),rfl⟩
theorem aXA:qp Tryz.prog 99=True:=eq_true ⟨_,Tryz.func99,of_decide_eq_false (by kernel_rfl),rfl⟩
theorem aQH:qp Tryz.prog 100=True:=eq_true ⟨_,Tryz.func100,of_decide_eq_false (by kernel_rfl),rfl⟩
theorem aQG:qp Tryz.prog 101=True:=eq_true ⟨_,Tryz.func101,of_decide_eq_false (by kernel_rfl),rfl⟩
theorem aQF:qp Tryz.prog 102=True:=eq_true ⟨_,Tryz.func102,of_decide_eq_false (by kernel_rfl),rfl⟩
theorem aQE:qp Tryz.prog 103=True:=eq_true ⟨_,Tryz.func103,of_decide_eq_false (by kernel_rfl),rfl⟩
theorem aQD:qp Tryz.prog 104=True:=eq_true ⟨_,Tryz.func104,of_decide_eq_false (by kernel_rfl),rfl⟩
theorem aQC:qp Tryz.prog 105=True:=eq_true ⟨_,Tryz.func105,of_decide_eq_false (by kernel_rfl),rfl⟩
theorem aQB:qp Tryz.prog 106=True:=eq_true ⟨_,Tryz.func106,of_decide_eq_false (by kernel_rfl),rfl⟩
theorem aQA:qp Tryz.prog 107=True:=eq_true ⟨_,Tryz.func107,of_decide_eq_false (by kernel_rfl),rfl⟩
theorem aQz:qp Tryz.prog 108=True:=eq_true ⟨_,Tryz.func108,of_decide_eq_false (by kernel_rfl),rfl⟩
theorem aQy:qp Tryz.prog 109=True:=eq_true ⟨_,Tryz.func109,of_decide_eq_false (by kernel_rfl),rfl⟩
theorem aQx:qp Tryz.prog 110=True:=eq_true ⟨_,Tryz.func110,of_decide_eq_false (by kernel_rfl),rfl⟩
theorem aQw:qp Tryz.prog 111=True:=eq_true ⟨_,Tryz.func111,of_decide_eq_false (by kernel_rfl),rfl⟩
theorem aQv:qp Tryz.prog 112=True:=eq_true ⟨_,Tryz.func112,of_decide_eq_false (by kernel_rfl),rfl⟩
theorem aQu:qp Tryz.prog 113=True:=eq_true ⟨_,Tryz.func113,of_decide_eq_false (by kernel_rfl),rfl⟩
theorem aQt:qp Tryz.prog 114=True:=eq_true ⟨_,Tryz.func114,of_decide_eq_false (by kernel_rfl),rfl⟩
theorem aQs:qp Tryz.prog 115=True:=eq_true ⟨_,Tryz.func115,of_decide_eq_false (by kernel_rfl),rfl⟩
theorem aQr:qp Tryz.prog 116=True:=eq_true ⟨_,Tryz.func116,of_decide_eq_false (by kernel_rfl),rfl⟩
theorem aQq:qp Tryz.prog 117=True:=eq_true ⟨_,Tryz.func117,of_decide_eq_false (by kernel_rfl),rfl⟩
theorem aQp:qp Tryz.prog 118=True:=eq_true ⟨_,Tryz.func118,of_decide_eq_false (by kernel_rfl),rfl⟩
theorem aQo:qp Tryz.prog 119=True:=eq_true ⟨_,Tryz.func119,of_decide_eq_false (by kernel_rfl),rfl⟩
theorem aQn:qp Tryz.prog 120=True:=eq_true ⟨_,Tryz.func120,of_decide_eq_false (by kernel_rfl),rfl⟩
theorem aQm:qp Tryz.prog 121=True:=eq_true ⟨_,Tryz.func121,of_decide_eq_false (by kernel_rfl),rfl⟩
theorem aQl:qp Tryz.prog 122=True:=eq_true ⟨_,Tryz.func122,of_decide_eq_false (by kernel_rfl),rfl⟩
theorem aQk:qp Tryz.prog 123=True:=eq_true ⟨_,Tryz.func123,of_decide_eq_false (by kernel_rfl),rfl⟩
theorem aQj:qp Tryz.prog 124=True:=eq_true ⟨_,Tryz.func124,of_decide_eq_false (by kernel_rfl),rfl⟩
theorem aQi:qp Tryz.prog 125=True:=eq_true ⟨_,Tryz.func125,of_decide_eq_false (by kernel_rfl),rfl⟩
theorem aQh:qp Tryz.prog 126=True:=eq_true ⟨_,Tryz.func126,of_decide_eq_false (by kernel_rfl),rfl⟩
theorem aQg:qp Tryz.prog 127=True:=eq_true ⟨_,Tryz.func127,of_decide_eq_false (by kernel_rfl),rfl⟩
theorem aQf:qp Tryz.prog 128=True:=eq_true ⟨_,Tryz.func128,of_decide_eq_false (by kernel_rfl),rfl⟩
theorem aQe:qp Tryz.prog 129=True:=eq_true ⟨_,Tryz.func129,of_decide_eq_false (by kernel_rfl),rfl⟩
theorem aQd:qp Tryz.prog 130=True:=eq_true ⟨_,Tryz.func130,of_decide_eq_false (by kernel_rfl),rfl⟩
theorem aQc:qp Tryz.prog 131=True:=eq_true ⟨_,Tryz.func131,of_decide_eq_false (by kernel_rfl),rfl⟩
theorem aQb:qp Tryz.prog 132=True:=eq_true ⟨_,Tryz.func132,of_decide_eq_false (by kernel_rfl),rfl⟩
theorem aQa:qp Tryz.prog 133=True:=eq_true ⟨_,Tryz.func133,of_decide_eq_false (by kernel_rfl),rfl⟩
theorem aP9:qp Tryz.prog 134=True:=eq_true ⟨_,Tryz.func134,of_decide_eq_false (by kernel_rfl),rfl⟩
theorem aP8:qp Tryz.prog 135=True:=eq_true ⟨_,Tryz.func135,of_decide_eq_false (by kernel_rfl),rfl⟩
theorem aP7:qp Tryz.prog 136=True:=eq_true ⟨_,Tryz.func136,of_decide_eq_false (by kernel_rfl),rfl⟩
theorem aP6:qp Tryz.prog 137=True:=eq_true ⟨_,Tryz.func137,of_decide_eq_false (by kernel_rfl),rfl⟩
theorem aP5:qp Tryz.prog 138=True:=eq_true ⟨_,Tryz.func138,of_decide_eq_false (by kernel_rfl),rfl⟩
theorem aP4:qp Tryz.prog 139=True:=eq_true ⟨_,Tryz.func139,of_decide_eq_false (by kernel_rfl),rfl⟩
theorem aP3:qp Tryz.prog 140=True:=eq_true ⟨_,Tryz.func140,of_decide_eq_false (by kernel_rfl),rfl⟩
theorem aP2:qp Tryz.prog 141=True:=eq_true ⟨_,Tryz.func141,of_decide_eq_false (by kernel_rfl),rfl⟩
theorem aP1:qp Tryz.prog 142=True:=eq_true ⟨_,Tryz.func142,of_decide_eq_false (by kernel_rfl),rfl⟩
theorem aP0:qp Tryz.prog 143=True:=eq_true ⟨_,Tryz.func143,of_decide_eq_false (by kernel_rfl),rfl⟩
theorem aPZ:qp Tryz.prog 144=True:=eq_true ⟨_,Tryz.func144,of_decide_eq_false (by kernel_rfl),rfl⟩
theorem aPY:qp Tryz.prog 145=True:=eq_true ⟨_,Tryz.func145,of_decide_eq_false (by kernel_rfl),rfl⟩
theorem aPX:qp Tryz.prog 146=True:=eq_true ⟨_,Tryz.func146,of_decide_eq_false (by kernel_rfl),rfl⟩
theorem aPW:qp Tryz.prog 147=True:=eq_true ⟨_,Tryz.func147,of_decide_eq_false (by kernel_rfl),rfl⟩
theorem aPV:qp Tryz.prog 148=True:=eq_true ⟨_,Tryz.func148,of_decide_eq_false (by kernel_rfl),rfl⟩
theorem aPU:qp Tryz.prog 149=True:=eq_true ⟨_,Tryz.func149,of_decide_eq_false (by kernel_rfl),rfl⟩
theorem aPT:qp Tryz.prog 150=True:=eq_true ⟨_,Tryz.func150,of_decide_eq_false (by kernel_rfl),rfl⟩
theorem aPS:qp Tryz.prog 151=True:=eq_true ⟨_,Tryz.func151,of_decide_eq_false (by kernel_rfl),rfl⟩
theorem aPR:qp Tryz.prog 152=True:=eq_true ⟨_,Tryz.func152,of_decide_eq_false (by kernel_rfl),rfl⟩
theorem aPQ:qp Tryz.prog 153=True:=eq_true ⟨_,Tryz.func153,of_decide_eq_false (by kernel_rfl),rfl⟩
theorem aPP:qp Tryz.prog 154=True:=eq_true ⟨_,Tryz.func154,of_decide_eq_false (by kernel_rfl),rfl⟩
theorem aPO:qp Tryz.prog 155=True:=eq_true ⟨_,Tryz.func155,of_decide_eq_false (by kernel_rfl),rfl⟩
theorem aPN:qp Tryz.prog 156=True:=eq_true ⟨_,Tryz.func156,of_decide_eq_false (by kernel_rfl),rfl⟩
theorem aPM:qp Tryz.prog 157=True:=eq_true ⟨_,Tryz.func157,of_decide_eq_false (by kernel_rfl),rfl⟩
theorem aPL:qp Tryz.prog 158=True:=eq_true ⟨_,Tryz.func158,of_decide_eq_false (by kernel_rfl),rfl⟩
theorem aPK:qp Tryz.prog 159=True:=eq_true ⟨_,Tryz.func159,of_decide_eq_false (by kernel_rfl),rfl⟩
theorem aPJ:qp Tryz.prog 160=True:=eq_true ⟨_,Tryz.func160,of_decide_eq_false (by kernel_rfl),rfl⟩
theorem aPI:qp Tryz.prog 161=True:=eq_true ⟨_,Tryz.func161,of_decide_eq_false (by kernel_rfl),rfl⟩
theorem aPH:qp Tryz.prog 162=True:=eq_true ⟨_,Tryz.func162,of_decide_eq_false (by kernel_rfl),rfl⟩
theorem aPG:qp Tryz.prog 163=True:=eq_true ⟨_,Tryz.func163,of_decide_eq_false (by kernel_rfl),rfl⟩
theorem aPF:qp Tryz.prog 164=True:=eq_true ⟨_,Tryz.func164,of_decide_eq_false (by kernel_rfl),rfl⟩
theorem aPE:qp Tryz.prog 165=True:=eq_true ⟨_,Tryz.func165,of_decide_eq_false (by kernel_rfl),rfl⟩
theorem aPD:qp Tryz.prog 166=True:=eq_true ⟨_,Tryz.func166,of_decide_eq_false (by kernel_rfl),rfl⟩
theorem aPC:qp Tryz.prog 167=True:=eq_true ⟨_,Tryz.func167,of_decide_eq_false (by kernel_rfl),rfl⟩
theorem aPB:qp Tryz.prog 168=True:=eq_true ⟨_,Tryz.func168,of_decide_eq_false (by kernel_rfl),rfl⟩
theorem aPA:qp Tryz.prog 169=True:=eq_true ⟨_,Tryz.func169,of_decide_eq_false (by kernel_rfl),rfl⟩
theorem aPz:qp Tryz.prog 170=True:=eq_true ⟨_,Tryz.func170,of_decide_eq_false (by kernel_rfl),rfl⟩
theorem aPy:qp Tryz.prog 171=True:=eq_true ⟨_,Tryz.func171,of_decide_eq_false (by kernel_rfl),rfl⟩
theorem aPx:qp Tryz.prog 172=True:=eq_true ⟨_,Tryz.func172,of_decide_eq_false (by kernel_rfl),rfl⟩
theorem aPw:qp Tryz.prog 173=True:=eq_true ⟨_,Tryz.func173,of_decide_eq_false (by kernel_rfl),rfl⟩
theorem aPv:qp Tryz.prog 174=True:=eq_true ⟨_,Tryz.func174,of_decide_eq_false (by kernel_rfl),rfl⟩
theorem aPu:qp Tryz.prog 175=True:=eq_true ⟨_,Tryz.func175,of_decide_eq_false (by kernel_rfl),rfl⟩
theorem aPt:qp Tryz.prog 176=True:=eq_true ⟨_,Tryz.func176,of_decide_eq_false (by kernel_rfl),rfl⟩
theorem aPs:qp Tryz.prog 177=True:=eq_true ⟨_,Tryz.func177,of_decide_eq_false (by kernel_rfl),rfl⟩
theorem aPr:qp Tryz.prog 178=True:=eq_true ⟨_,Tryz.func178,of_decide_eq_false (by kernel_rfl),rfl⟩
theorem aPq:qp Tryz.prog 179=True:=eq_true ⟨_,Tryz.func179,of_decide_eq_false (by kernel_rfl),rfl⟩
theorem aPp:qp Tryz.prog 180=True:=eq_true ⟨_,Tryz.func180,of_decide_eq_false (by kernel_rfl),rfl⟩
theorem aPo:qp Tryz.prog 181=True:=eq_true ⟨_,Tryz.func181,of_decide_eq_false (by kernel_rfl),rfl⟩
theorem aPn:qp Tryz.prog 182=True:=eq_true ⟨_,Tryz.func182,of_decide_eq_false (by kernel_rfl),rfl⟩
theorem aPm:qp Tryz.prog 183=True:=eq_true ⟨_,Tryz.func183,of_decide_eq_false (by kernel_rfl),rfl⟩
theorem aPl:qp Tryz.prog 184=True:=eq_true ⟨_,Tryz.func184,of_decide_eq_false (by kernel_rfl),rfl⟩
theorem aPk:qp Tryz.prog 185=True:=eq_true ⟨_,Tryz.func185,of_decide_eq_false (by kernel_rfl),rfl⟩
theorem aPj:qp Tryz.prog 186=True:=eq_true ⟨_,Tryz.func186,of_decide_eq_false (by kernel_rfl),rfl⟩
theorem aPi:qp Tryz.prog 187=True:=eq_true ⟨_,Tryz.func187,of_decide_eq_false (by kernel_rfl),rfl⟩
theorem aPh:qp Tryz.prog 188=True:=eq_true ⟨_,Tryz.func188,of_decide_eq_false (by kernel_rfl),rfl⟩
theorem aPg:qp Tryz.prog 189=True:=eq_true ⟨_,Tryz.func189,of_decide_eq_false (by kernel_rfl),rfl⟩
theorem aPf:qp Tryz.prog 190=True:=eq_true ⟨_,Tryz.func190,of_decide_eq_false (by kernel_rfl),rfl⟩
theorem aPe:qp Tryz.prog 191=True:=eq_true ⟨_,Tryz.func191,of_decide_eq_false (by kernel_rfl),rfl⟩
theorem aPd:qp Tryz.prog 192=True:=eq_true ⟨_,Tryz.func192,of_decide_eq_false (by kernel_rfl),rfl⟩
theorem aPc:qp Tryz.prog 193=True:=eq_true ⟨_,Tryz.func193,of_decide_eq_false (by kernel_rfl),rfl⟩
theorem aPb:qp Tryz.prog 194=True:=eq_true ⟨_,Tryz.func194,of_decide_eq_false (by kernel_rfl),rfl⟩
theorem aPa:qp Tryz.prog 195=True:=eq_true ⟨_,Tryz.func195,of_decide_eq_false (by kernel_rfl),rfl⟩
theorem aO9:qp Tryz.prog 196=True:=eq_true ⟨_,Tryz.func196,of_decide_eq_false (by kernel_rfl),rfl⟩
theorem aO8:qp Tryz.prog 197=True:=eq_true ⟨_,Tryz.func197,of_decide_eq_false (by kernel_rfl),rfl⟩
theorem aO7:qp Tryz.prog 198=True:=eq_true ⟨_,Tryz.func198,of_decide_eq_false (by kernel_rfl),rfl⟩
theorem aO6:qp Tryz.prog 199=True:=eq_true ⟨_,Tryz.func199,of_decide_eq_false (by kernel_rfl),rfl⟩
theorem aO5:qp Tryz.prog 200=True:=eq_true ⟨_,Tryz.func200,of_decide_eq_false (by kernel_rfl),rfl⟩
theorem aO4:qp Tryz.prog 201=True:=eq_true ⟨_,Tryz.func201,of_decide_eq_false (by kernel_rfl),rfl⟩
theorem aO3:qp Tryz.prog 202=True:=eq_true ⟨_,Tryz.func202,of_decide_eq_false (by kernel_rfl),rfl⟩
theorem aO2:qp Tryz.prog 203=True:=eq_true ⟨_,Tryz.func203,of_decide_eq_false (by kernel_rfl),rfl⟩
theorem aO1:qp Tryz.prog 204=True:=eq_true ⟨_,Tryz.func204,of_decide_eq_false (by kernel_rfl),rfl⟩
theorem aO0:qp Tryz.prog 205=True:=eq_true ⟨_,Tryz.func205,of_decide_eq_false (by kernel_rfl),rfl⟩
theorem aOZ:qp Tryz.prog 206=True:=eq_true ⟨_,Tryz.func206,of_decide_eq_false (by kernel_rfl),rfl⟩
theorem aOY:qp Tryz.prog 207=True:=eq_true ⟨_,Tryz.func207,of_decide_eq_false (by kernel_rfl),rfl⟩
theorem aOX:qp Tryz.prog 208=True:=eq_true ⟨_,Tryz.func208,of_decide_eq_false (by kernel_rfl),rfl⟩
theorem aOW:qp Tryz.prog 209=True:=eq_true ⟨_,Tryz.func209,of_decide_eq_false (by kernel_rfl),rfl⟩
theorem aOV:qp Tryz.prog 210=True:=eq_true ⟨_,Tryz.func210,of_decide_eq_false (by kernel_rfl),rfl⟩
theorem aOU:qp Tryz.prog 211=True:=eq_true ⟨_,Tryz.func211,of_decide_eq_false (by kernel_rfl),rfl⟩
theorem aOT:qp Tryz.prog 212=True:=eq_true ⟨_,Tryz.func212,of_decide_eq_false (by kernel_rfl),rfl⟩
theorem aOS:qp Tryz.prog 213=True:=eq_true ⟨_,Tryz.func213,of_decide_eq_false (by kernel_rfl),rfl⟩
theorem aOR:qp Tryz.prog 214=True:=eq_true ⟨_,Tryz.func214,of_decide_eq_false (by kernel_rfl),rfl⟩
theorem aOQ:qp Tryz.prog 215=True:=eq_true ⟨_,Tryz.func215,of_decide_eq_false (by kernel_rfl),rfl⟩
theorem aOP:qp Tryz.prog 216=True:=eq_true ⟨_,Tryz.func216,of_decide_eq_false (by kernel_rfl),rfl⟩
theorem aOO:qp Tryz.prog 217=True:=eq_true ⟨_,Tryz.func217,of_decide_eq_false (by kernel_rfl),rfl⟩
theorem aON:qp Tryz.prog 218=True:=eq_true ⟨_,Tryz.func218,of_decide_eq_false (by kernel_rfl),rfl⟩
theorem aOM:qp Tryz.prog 219=True:=eq_true ⟨_,Tryz.func219,of_decide_eq_false (by kernel_rfl),rfl⟩
theorem aOL:qp Tryz.prog 220=True:=eq_true ⟨_,Tryz.func220,of_decide_eq_false (by kernel_rfl),rfl⟩
theorem aOK:qp Tryz.prog 221=True:=eq_true ⟨_,Tryz.func221,of_decide_eq_false (by kernel_rfl),rfl⟩
theorem aOJ:qp Tryz.prog 222=True:=eq_true ⟨_,Tryz.func222,of_decide_eq_false (by kernel_rfl),rfl⟩
theorem aOI:qp Tryz.prog 223=True:=eq_true ⟨_,Tryz.func223,of_decide_eq_false (by kernel_rfl),rfl⟩
theorem aOH:qp Tryz.prog 224=True:=eq_true ⟨_,Tryz.func224,of_decide_eq_false (by kernel_rfl),rfl⟩
theorem aOG:qp Tryz.prog 225=True:=eq_true ⟨_,Tryz.func225,of_decide_eq_false (by kernel_rfl),rfl⟩
theorem aOF:qp Tryz.prog 226=True:=eq_true ⟨_,Tryz.func226,of_decide_eq_false (by kernel_rfl),rfl⟩
theorem aOE:qp Tryz.prog 227=True:=eq_true ⟨_,Tryz.func227,of_decide_eq_false (by kernel_rfl),rfl⟩
theorem aOD:qp Tryz.prog 228=True:=eq_true ⟨_,Tryz.func228,of_decide_eq_false (by kernel_rfl),rfl⟩
theorem aOC:qp Tryz.prog 229=True:=eq_true ⟨_,Tryz.func229,of_decide_eq_false (by kernel_rfl),rfl⟩
theorem aOB:qp Tryz.prog 230=True:=eq_true ⟨_,Tryz.func230,of_decide_eq_false (by kernel_rfl),rfl⟩
theorem aOA:qp Tryz.prog 231=True:=eq_true ⟨_,Tryz.func231,of_decide_eq_false (by kernel_rfl),rfl⟩
theorem aOz:qp Tryz.prog 232=True:=eq_true ⟨_,Tryz.func232,of_decide_eq_false (by kernel_rfl),rfl⟩
theorem aOy:qp Tryz.prog 233=True:=eq_true ⟨_,Tryz.func233,of_decide_eq_false (by kernel_rfl),rfl⟩
theorem aOx:qp Tryz.prog 234=True:=eq_true ⟨_,Tryz.func234,of_decide_eq_false (by kernel_rfl),rfl⟩
theorem aOw:qp Tryz.prog 235=True:=eq_true ⟨_,Tryz.func235,of_decide_eq_false (by kernel_rfl),rfl⟩
theorem aOv:qp Tryz.prog 236=True:=eq_true ⟨_,Tryz.func236,of_decide_eq_false (by kernel_rfl),rfl⟩
theorem aOu:qp Tryz.prog 237=True:=eq_true ⟨_,Tryz.func237,of_decide_eq_false (by kernel_rfl),rfl⟩
theorem aOt:qp Tryz.prog 238=True:=eq_true ⟨_,Tryz.func238,of_decide_eq_false (by kernel_rfl),rfl⟩
theorem aOs:qp Tryz.prog 239=True:=eq_true ⟨_,Tryz.func239,of_decide_eq_false (by kernel_rfl),rfl⟩
theorem aOr:qp Tryz.prog 240=True:=eq_true ⟨_,Tryz.func240,of_decide_eq_false (by kernel_rfl),rfl⟩
theorem aOq:qp Tryz.prog 241=True:=eq_true ⟨_,Tryz.func241,of_decide_eq_false (by kernel_rfl),rfl⟩
theorem aOp:qp Tryz.prog 242=True:=eq_true ⟨_,Tryz.func242,of_decide_eq_false (by kernel_rfl),rfl⟩
theorem aOo:qp Tryz.prog 243=True:=eq_true ⟨_,Tryz.func243,of_decide_eq_false (by kernel_rfl),rfl⟩
theorem aOn:qp Tryz.prog 244=True:=eq_true ⟨_,Tryz.func244,of_decide_eq_false (by kernel_rfl),rfl⟩
theorem aOm:qp Tryz.prog 245=True:=eq_true ⟨_,Tryz.func245,of_decide_eq_false (by kernel_rfl),rfl⟩
theorem aOl:qp Tryz.prog 246=True:=eq_true ⟨_,Tryz.func246,of_decide_eq_false (by kernel_rfl),rfl⟩
theorem aOk:qp Tryz.prog 247=True:=eq_true ⟨_,Tryz.func247,of_decide_eq_false (by kernel_rfl),rfl⟩
theorem aOj:qp Tryz.prog 248=True:=eq_true ⟨_,Tryz.func248,of_decide_eq_false (by kernel_rfl),rfl⟩
theorem aOi:qp Tryz.prog 249=True:=eq_true ⟨_,Tryz.func249,of_decide_eq_false (by kernel_rfl),rfl⟩
theorem aOh:qp Tryz.prog 250=True:=eq_true ⟨_,Tryz.func250,of_decide_eq_false (by kernel_rfl),rfl⟩
theorem aOg:qp Tryz.prog 251=True:=eq_true ⟨_,Tryz.func251,of_decide_eq_false (by kernel_rfl),rfl⟩
theorem aOf:qp Tryz.prog 252=True:=eq_true ⟨_,Tryz.func252,of_decide_eq_false (by kernel_rfl),rfl⟩
theorem aOe:qp Tryz.prog 253=True:=eq_true ⟨_,Tryz.func253,of_decide_eq_false (by kernel_rfl),rfl⟩
theorem aOd:qp Tryz.prog 254=True:=eq_true ⟨_,Tryz.func254,of_decide_eq_false (by kernel_rfl),rfl⟩
theorem aOc:qp Tryz.prog 255=True:=eq_true ⟨_,Tryz.func255,of_decide_eq_false (by kernel_rfl),rfl⟩
theorem aOb:qp Tryz.prog 256=True:=eq_true ⟨_,Tryz.func256,of_decide_eq_false (by kernel_rfl),rfl⟩
theorem aOa:qp Tryz.prog 257=True:=eq_true ⟨_,Tryz.func257,of_decide_eq_false (by kernel_rfl),rfl⟩
theorem aN9:qp Tryz.prog 258=True:=eq_true ⟨_,Tryz.func258,of_decide_eq_false (by kernel_rfl),rfl⟩
theorem aN8:qp Tryz.prog 259=True:=eq_true ⟨_,Tryz.func259,of_decide_eq_false (by kernel_rfl),rfl⟩
theorem aN7:qp Tryz.prog 260=True:=eq_true ⟨_,Tryz.func260,of_decide_eq_false (by kernel_rfl),rfl⟩
theorem aN6:qp Tryz.prog 261=True:=eq_true ⟨_,Tryz.func261,of_decide_eq_false (by kernel_rfl),rfl⟩
theorem aN5:qp Tryz.prog 262=True:=eq_true ⟨_,Tryz.func262,of_decide_eq_false (by kernel_rfl),rfl⟩
theorem aN4:qp Tryz.prog 263=True:=eq_true ⟨_,Tryz.func263,of_decide_eq_false (by kernel_rfl),rfl⟩
theorem aN3:qp Tryz.prog 264=True:=eq_true ⟨_,Tryz.func264,of_decide_eq_false (by kernel_rfl),rfl⟩
theorem aN2:qp Tryz.prog 265=True:=eq_true ⟨_,Tryz.func265,of_decide_eq_false (by kernel_rfl),rfl⟩
theorem aN1:qp Tryz.prog 266=True:=eq_true ⟨_,Tryz.func266,of_decide_eq_false (by kernel_rfl),rfl⟩
theorem aN0:qp Tryz.prog 267=True:=eq_true ⟨_,Tryz.func267,of_decide_eq_false (by kernel_rfl),rfl⟩
theorem aNZ:qp Tryz.prog 268=True:=eq_true ⟨_,Tryz.func268,of_decide_eq_false (by kernel_rfl),rfl⟩
theorem aNY:qp Tryz.prog 269=True:=eq_true ⟨_,Tryz.func269,of_decide_eq_false (by kernel_rfl),rfl⟩
theorem aNX:qp Tryz.prog 270=True:=eq_true ⟨_,Tryz.func270,of_decide_eq_false (by kernel_rfl),rfl⟩
theorem aNW:qp Tryz.prog 271=True:=eq_true ⟨_,Tryz.func271,of_decide_eq_false (by kernel_rfl),rfl⟩
theorem aNV:qp Tryz.prog 272=True:=eq_true ⟨_,Tryz.func272,of_decide_eq_false (by kernel_rfl),rfl⟩
theorem aNU:qp Tryz.prog 273=True:=eq_true ⟨_,Tryz.func273,of_decide_eq_false (by kernel_rfl),rfl⟩
theorem aNT:qp Tryz.prog 274=True:=eq_true ⟨_,Tryz.func274,of_decide_eq_false (by kernel_rfl),rfl⟩
theorem aNS:qp Tryz.prog 275=True:=eq_true ⟨_,Tryz.func275,of_decide_eq_false (by kernel_rfl),rfl⟩
theorem aNR:qp Tryz.prog 276=True:=eq_true ⟨_,Tryz.func276,of_decide_eq_false (by kernel_rfl),rfl⟩
theorem aNQ:qp Tryz.prog 277=True:=eq_true ⟨_,Tryz.func277,of_decide_eq_false (by kernel_rfl),rfl⟩
theorem aNP:qp Tryz.prog 278=True:=eq_true ⟨_,Tryz.func278,of_decide_eq_false (by kernel_rfl),rfl⟩
theorem aNO:qp Tryz.prog 279=True:=eq_true ⟨_,Tryz.func279,of_decide_eq_false (by kernel_rfl),rfl⟩
theorem aNN:qp Tryz.prog 280=True:=eq_true ⟨_,Tryz.func280,of_decide_eq_false (by kernel_rfl),rfl⟩
theorem aNM:qp Tryz.prog 281=True:=eq_true ⟨_,Tryz.func281,of_decide_eq_false (by kernel_rfl),rfl⟩
theorem aNL:qp Tryz.prog 282=True:=eq_true ⟨_,Tryz.func282,of_decide_eq_false (by kernel_rfl),rfl⟩
theorem aNK:qp Tryz.prog 283=True:=eq_true ⟨_,Tryz.func283,of_decide_eq_false (by kernel_rfl),rfl⟩
theorem aNJ:qp Tryz.prog 284=True:=eq_true ⟨_,Tryz.func284,of_decide_eq_false (by kernel_rfl),rfl⟩
theorem aNI:qp Tryz.prog 285=True:=eq_true ⟨_,Tryz.func285,of_decide_eq_false (by kernel_rfl),rfl⟩
theorem aNH:qp Tryz.prog 286=True:=eq_true ⟨_,Tryz.func286,of_decide_eq_false (by kernel_rfl),rfl⟩
theorem aNG:qp Tryz.prog 287=True:=eq_true ⟨_,Tryz.func287,of_decide_eq_false (by kernel_rfl),rfl⟩
theorem aNF:qp Tryz.prog 288=True:=eq_true ⟨_,Tryz.func288,of_decide_eq_false (by kernel_rfl),rfl⟩
theorem aNE:qp Tryz.prog 289=True:=eq_true ⟨_,Tryz.func289,of_decide_eq_false (by kernel_rfl),rfl⟩
theorem aND:qp Tryz.prog 290=True:=eq_true ⟨_,Tryz.func290,of_decide_eq_false (by kernel_rfl),rfl⟩
theorem aNC:qp Tryz.prog 291=True:=eq_true ⟨_,Tryz.func291,of_decide_eq_false (by kernel_rfl),rfl⟩
theorem aNB:qp Tryz.prog 292=True:=eq_true ⟨_,Tryz.func292,of_decide_eq_false (by kernel_rfl),rfl⟩
theorem aNA:qp Tryz.prog 293=True:=eq_true ⟨_,Tryz.func293,of_decide_eq_false (by kernel_rfl),rfl⟩
theorem aNz:qp Tryz.prog 294=True:=eq_true ⟨_,Tryz.func294,of_decide_eq_false (by kernel_rfl),rfl⟩
theorem aNy:qp Tryz.prog 295=True:=eq_true ⟨_,Tryz.func295,of_decide_eq_false (by kernel_rfl),rfl⟩
theorem aNx:qp Tryz.prog 296=True:=eq_true ⟨_,Tryz.func296,of_decide_eq_false (by kernel_rfl),rfl⟩
theorem aNw:qp Tryz.prog 297=True:=eq_true ⟨_,Tryz.func297,of_decide_eq_false (by kernel_rfl),rfl⟩
theorem aNv:qp Tryz.prog 298=True:=eq_true ⟨_,Tryz.func298,of_decide_eq_false (by kernel_rfl),rfl⟩
theorem aNu:qp Tryz.prog 299=True:=eq_true ⟨_,Tryz.func299,of_decide_eq_false (by kernel_rfl),rfl⟩
theorem aNt:qp Tryz.prog 300=True:=eq_true ⟨_,Tryz.func300,of_decide_eq_false (by kernel_rfl),rfl⟩
theorem aNs:qp Tryz.prog 301=True:=eq_true ⟨_,Tryz.func301,of_decide_eq_false (by kernel_rfl),rfl⟩
theorem aNr:qp Tryz.prog 302=True:=eq_true ⟨_,Tryz.func302,of_decide_eq_false (by kernel_rfl),rfl⟩
theorem aNq:qp Tryz.prog 303=True:=eq_true ⟨_,Tryz.func303,of_decide_eq_false (by kernel_rfl),rfl⟩
theorem aNp:qp Tryz.prog 304=True:=eq_true ⟨_,Tryz.func304,of_decide_eq_false (by kernel_rfl),rfl⟩
theorem aNo:qp Tryz.prog 305=True:=eq_true ⟨_,Tryz.func305,of_decide_eq_false (by kernel_rfl),rfl⟩
theorem aNn:qp Tryz.prog 330=True:=eq_true ⟨_,Tryz.func330,of_decide_eq_false (by kernel_rfl),rfl⟩
attribute [go_sem] ty1 aLy aGI auo ali aLw aLx ty2 aLv aGg
attribute [go_sem] arc aj6 aLt aLu ty3 aLs aFR aq3 ajX aLq
attribute [go_sem] aLr ty4 aLp aFs aqU ajL aLn aLo ty5 aLm
attribute [go_sem] aE3 aqL ajC aLk aLl ty6 aLj aEE aqC ajt
attribute [go_sem] aLh aLi ty7 aLg aEi aqu ajl aLe aLf aQQ
attribute [go_sem] aXg aQP aXf aQO aXe aQN aXd bb5 ty8 aLd
attribute [go_sem] aDQ aqk ajb aLb aLc aQM aXc aQL aXb aQK
attribute [go_sem] aXa aQJ aW9 bb4 ty9 aLa aDr aqb ai2 aK8
attribute [go_sem] aK9 baO aGR ayr amJ aht aGP aGQ baN aGO
attribute [go_sem] axZ amz ahj aGM aGN baM aGL axu amo ag8
attribute [go_sem] aGJ aGK baL aGH atv akZ afN aGF aGG baK
attribute [go_sem] aGE as0 akO afC aGC aGD aWZ baJ aGB asB
attribute [go_sem] akF aft aGz aGA aWY baI aGy ar9 akv afj
attribute [go_sem] aGw aGx aJz aML aZm baH aGv arN akn afb
attribute [go_sem] aGt aGu aJy aMK aZl baG aGs arq ake ae3
attribute [go_sem] aGq aGr aJx aMJ aJw aMI aZk baF aGp arg
attribute [go_sem] aka aeZ aGn aGo aJv aMH aJu aMG aZj baE
attribute [go_sem] aGm arf aj8 aeY aGk aGl aJt aMF aJs aME
attribute [go_sem] aZi baD aGj ard aj7 aeX aGh aGi aJr aMD
attribute [go_sem] aJq aMC aZh baC aGf arb aj5 aeW aGd aGe
attribute [go_sem] baB aGc ara aj4 aeV aGa aGb baA aF9 aq9
attribute [go_sem] aj3 aeU aF7 aF8 baz aF6 aq8 aj2 aeT aF4
attribute [go_sem] aF5 bay aF3 aq7 aj1 aeS aF1 aF2 bax aF0
attribute [go_sem] aq6 aj0 aeR aFY aFZ baw aFX aq5 ajZ aeQ
attribute [go_sem] aFV aFW bav aFU aq4 ajY aeP aFS aFT bau
attribute [go_sem] aFQ aq2 ajW aeO aFO aFP aWX bat aFN aq1
attribute [go_sem] ajU aeN aFL aFM aJp aMB aJo aMA aZg bas
attribute [go_sem] aFK aq0 ajS aeM aFI aFJ aJn aMz aJm aMy
attribute [go_sem] aZf bar aFH aqZ ajR aeL aFF aFG baq aFE
attribute [go_sem] aqY ajQ aeK aFC aFD bap aFB aqX ajP aeJ
attribute [go_sem] aFz aFA bao aFy aqW ajO aeI aFw aFx ban
attribute [go_sem] aFv aqV ajM aeH aFt aFu aJl aMx aJk aMw
attribute [go_sem] aZe bam aFr aqT ajK aeG aFp aFq aJj aMv
attribute [go_sem] aJi aMu aZd bal aFo aqS ajJ aeF aFm aFn
attribute [go_sem] bak aFl aqR ajI aeE aFj aFk baj aFi aqQ
attribute [go_sem] ajH aeD aFg aFh bai aFf aqP ajG aeC aFd
attribute [go_sem] aFe bah aFc aqO ajF aeB aFa aFb bag aE9
attribute [go_sem] aqN ajE aeA aE7 aE8 baf aE6 aqM ajD aez
attribute [go_sem] aE4 aE5 bae aE2 aqK ajB aey aE0 aE1 bac
attribute [go_sem] aEZ aqJ ajA aex aEX aEY bab aEW aqI ajz
attribute [go_sem] aev aEU aEV aJh aMt aJg aMs aJf aMr aJe
attribute [go_sem] aMq aZc baa aET aqH ajy aeu aER aES aJd
attribute [go_sem] aMp aJc aMo aJb aMn aJa aMm aZb aZ9 aEQ
attribute [go_sem] aqG ajx aet aEO aEP aZ8 aEN aqF ajw aes
attribute [go_sem] aEL aEM aZ7 aEK aqE ajv aer aEI aEJ aZ6
attribute [go_sem] aEH aqD aju aeq aEF aEG aZ5 aED aqB ajs
attribute [go_sem] aep aEB aEC aZ4 aEA aqA ajr aeo aEy aEz
attribute [go_sem] aZ3 aEx aqz ajq aen aEv aEw aZ2 aEu aqy
attribute [go_sem] ajp aem aEs aEt aZ1 aEr aqx ajo ael aEp
attribute [go_sem] aEq aZ0 aEo aqw ajn aek aEm aEn aZZ aEl
attribute [go_sem] aqv ajm aej aEj aEk aZY aEh aqt ajk aei
attribute [go_sem] aEf aEg aZX aEe aqs ajj aeh aEc aEd aZW
attribute [go_sem] aEb aqr aji aeg aD9 aEa aZV aD8 aqq ajh
attribute [go_sem] aef aD6 aD7 aZU aD5 aqp ajg aee aD3 aD4
attribute [go_sem] aZT aD2 aqo ajf aed aD0 aD1 aZS aDZ aqn
attribute [go_sem] aje aec aDX aDY aZR aDW aqm ajd aeb aDU
attribute [go_sem] aDV aZQ aDT aql ajc aea aDR aDS aI9 aMl
attribute [go_sem] aI8 aMk aI7 aMj aZa aZP aDP aqj aja ad9
attribute [go_sem] aDN aDO aI6 aMi aI5 aMh aI4 aMg aY9 aZO
attribute [go_sem] aDM aqi ai9 ad8 aDK aDL aZN aDJ aqh ai8
attribute [go_sem] ad7 aDH aDI aZM aDG aqg ai7 ad6 aDE aDF
attribute [go_sem] aZL aDD aqf ai6 ad5 aDB aDC aZK aDA aqe
attribute [go_sem] ai5 ad4 aDy aDz aZJ aDx aqd ai4 ad3 aDv
attribute [go_sem] aDw aZI aDu aqc ai3 ad2 aDs aDt aUC ayV
attribute [go_sem] amT ahD acr ayT ayU aLY aUB ayS amS ahC
attribute [go_sem] acq ayQ ayR aAM aHM aAL aHL aRw aUA ayP
attribute [go_sem] amR ahB acp ayN ayO aAK aHK aAJ aHJ aRv
attribute [go_sem] aUz ayM amQ ahA aco ayK ayL aUy ayJ amP
attribute [go_sem] ahz acn ayH ayI aUx ayG amO ahy acm ayE
attribute [go_sem] ayF aUw ayD amN ahx acl ayB ayC aUv ayA
attribute [go_sem] amM ahw ack ayy ayz aUu ayx amL ahv acj
attribute [go_sem] ayv ayw aUt ayu amK ahu aci ays ayt aUs
attribute [go_sem] ayq amI ahs ach ayo ayp aAI aHI aAH aHH
attribute [go_sem] aRu aUr ayn amH ahr acg ayl aym aAG aHG
attribute [go_sem] aAF aHF aRt aUq ayk amG ahq acf ayi ayj
attribute [go_sem] aUp ayh amF ahp ace ayf ayg aUo aye amE
attribute [go_sem] aho acd ayc ayd aUn ayb amD ahn acb ax9
attribute [go_sem] aya aUm ax8 amC ahm aca ax6 ax7 aUl ax5
attribute [go_sem] amB ahl ab9 ax3 ax4 aUk ax2 amA ahk ab8
attribute [go_sem] ax0 ax1 aUj axY amy ahi ab7 axW axX aUi
attribute [go_sem] axV amx ahh ab6 axT axU aUh axS amw ahg
attribute [go_sem] ab5 axQ axR aUg axP amv ahf ab4 axN axO
attribute [go_sem] aUf axM amu ahe ab3 axK axL aUe axJ amt
attribute [go_sem] ahd ab2 axH axI aUd axG ams ahc ab1 axE
attribute [go_sem] axF aUc axD amr ahb ab0 axB axC aUb axA
attribute [go_sem] amq aha abZ axy axz aUa axx amp ag9 abY
attribute [go_sem] axv axw aT9 axt amn ag7 abX axr axs aT8
attribute [go_sem] axq amm ag6 abW axo axp aT7 axn aml ag5
attribute [go_sem] abV axl axm aT6 axk amk ag4 abU axi axj
attribute [go_sem] aT5 axh amj ag3 abT axf axg aT4 axe ami
attribute [go_sem] ag2 abS axc axd aT3 axb amh ag1 abR aw9
attribute [go_sem] axa aT2 aw8 amg ag0 abQ aw6 aw7 aT1 aw5
attribute [go_sem] amf agZ abP aw3 aw4 aT0 aw2 ame agY abO
attribute [go_sem] aw0 aw1 aTZ awZ amd agX abN awX awY aTY
attribute [go_sem] awW amc agW abM awT awU aAE aHE aAD aHD
attribute [go_sem] aAC aHC aRs aTX awS amb agV abL awQ awR
attribute [go_sem] aAB aHB aAA aHA aAz aHz aRr aTW awP ama
attribute [go_sem] agU abK awN awO aTV awM al9 agT abJ awK
attribute [go_sem] awL aTU awJ al8 agS abI awH awI aTT awG
attribute [go_sem] al7 agR abH awE awF aTS awD al6 agQ abG
attribute [go_sem] awB awC aTR awA al5 agP abF awy awz aTQ
attribute [go_sem] awx al4 agO abE awv aww aTP awu al3 agN
attribute [go_sem] abD aws awt aTO awr al2 agM abC awo awq
attribute [go_sem] aTN awn al1 agL abB awl awm aLX aTM awk
attribute [go_sem] al0 agK abA awi awj aAy aHy aAx aHx aRq
attribute [go_sem] aTL awh alZ agJ abz awf awg aAw aHw aAv
attribute [go_sem] aHv aRp aTK awe alY agI aby awc awd aTJ
attribute [go_sem] awb alX agH abx av9 awa aLW aTI av8 alW
attribute [go_sem] agG abw av6 av7 aAu aHu aAt aHt aRo aTH
attribute [go_sem] av5 alV agF abv av3 av4 aAs aHs aAr aHr
attribute [go_sem] aRn aTG av2 alU agE abu av0 av1 aTF avZ
attribute [go_sem] alT agD abt avX avY aTE avW alS agC abr
attribute [go_sem] avU avV aTD avT alR agB abq avR avS aTC
attribute [go_sem] avQ alQ agA abp avO avP aTB avN alP agz
attribute [go_sem] abo avL avM aTA avK alO agy abn avI avJ
attribute [go_sem] aTz avH alN agx abm avF avG aTy avE alM
attribute [go_sem] agw abl avC avD aTx avB alL agv abk avz
attribute [go_sem] avA aTw avy alK agu abj avw avx aTv avv
attribute [go_sem] alJ agt abi avt avu aTu avs alI ags abh
attribute [go_sem] avq avr aTt avp alH agr abg avn avo aTs
attribute [go_sem] avm alG agq abf avk avl aTr avj alD agp
attribute [go_sem] abe avh avi aTq avg alC ago abd ave avf
attribute [go_sem] aTp avd alB agn abc avb avc aTo ava alz
attribute [go_sem] agm abb au8 au9 aTn au7 aly agl aba au5
attribute [go_sem] au6 aLV aTm au4 alx agk aa9 au2 au3 aTl
attribute [go_sem] au1 alw agj aa8 auZ au0 aTk auY alv agi
attribute [go_sem] aa7 auW auX aTj auV alu agh aa6 auT auU
attribute [go_sem] aTi auS alt agf aa5 auQ auR aTh auP als
attribute [go_sem] age aa4 auN auO aTg auM alr agd aa3 auK
attribute [go_sem] auL aTf auJ alq agc aa2 auH auI aTe auG
attribute [go_sem] alp agb aa1 auE auF aTd auD alo aga aaZ
attribute [go_sem] auB auC aTc auA aln af9 aaY auy auz aTb
attribute [go_sem] aux alm af8 aaX auv auw aTa auu alk af7
attribute [go_sem] aaW aus aut aS9 aur alj af6 aaV aup auq
attribute [go_sem] aS8 aun alh af5 aaU aul aum aS7 auk alg
attribute [go_sem] af4 aaT aui auj aS6 auh alf af3 aaS auf
attribute [go_sem] aug aS5 aue ale af2 aaR auc aud aS4 aub
attribute [go_sem] ald af1 aaQ at9 aua aS3 at8 alc af0 aaP
attribute [go_sem] at6 at7 aS2 at5 alb afZ aaO at3 at4 aS1
attribute [go_sem] at2 ala afY aaN at0 at1 aS0 atZ ak9 afX
attribute [go_sem] aaM atX atY aSZ atW ak8 afW aaL atU atV
attribute [go_sem] aSY atT ak7 afV aaK atR atS aSX atQ ak6
attribute [go_sem] afU aaJ atO atP aSW atN ak5 afT aaI atL
attribute [go_sem] atM aSV atK ak4 afS aaH atI atJ aSU atH
attribute [go_sem] ak3 afR aaG atF atG aST atE ak2 afQ aaF
attribute [go_sem] atC atD aSS atB ak1 afP aaE atz atA aSR
attribute [go_sem] aty ak0 afO aaD atw atx aSQ atu akY afM
attribute [go_sem] aaC ats att aSP atr akX afL aaB atp atq
attribute [go_sem] aSO ato akW afK aaA atm atn aLU aSN atl
attribute [go_sem] akV afJ aaz atj atk aSM ati akU afI aay
attribute [go_sem] atg ath aSL atf akT afH aax atd ate aSK
attribute [go_sem] atc akS afG aaw ata atb aSJ as9 akR afF
attribute [go_sem] aav as7 as8 aSI as6 akQ afE aau as4 as5
attribute [go_sem] aSH as3 akP afD aat as1 as2 aSG asZ akN
attribute [go_sem] afB aas asX asY aSF asW akM afA aar asU
attribute [go_sem] asV aSE asT akL afz aaq asR asS aSD asQ
attribute [go_sem] akK afy aap asO asP aSC asN akJ afx aao
attribute [go_sem] asL asM aSB asK akI afw aan asI asJ aSA
attribute [go_sem] asH akH afv aam asF asG aSz asE akG afu
attribute [go_sem] aal asC asD aSy asA akE afs aak asy asz
attribute [go_sem] aSx asx akD afr aaj asv asw aSw asu akC
attribute [go_sem] afq aai ass ast aSv asr akB afp aah asp
attribute [go_sem] asq aSu aso akA afo aag asm asn aSt asl
attribute [go_sem] akz afn aaf asj ask aSs asi aky afm aae
attribute [go_sem] asg ash aSr asf akx afl aad asd ase aSq
attribute [go_sem] asc akw afk aac asa asb aSp ar8 aku afi
attribute [go_sem] aab ar6 ar7 aSo ar5 akt afh aaa ar3 ar4
attribute [go_sem] aSn ar2 aks afg K9 ar0 ar1 aSm arZ akr
attribute [go_sem] aff K8 arX arY aSl arW akq afe K7 arU
attribute [go_sem] arV aSk arT akp afd K6 arR arS aSj arQ
attribute [go_sem] ako afc K5 arO arP aSi arM akl afa K4
attribute [go_sem] arK arL aSh arJ akk ae9 K3 arH arI aSg
attribute [go_sem] arG akj ae8 K2 arE arF aSf arD aki ae7
attribute [go_sem] K1 arB arC aSe arA akh ae6 K0 ary arz
attribute [go_sem] aSd arx akg ae5 KZ arv arw aSc aru akf
attribute [go_sem] ae4 KY ars art aSb arp akd ae2 KX arn
attribute [go_sem] aro aSa arm akc ae1 KW ark arl aR9 arj
attribute [go_sem] akb ae0 KU arh ari bb1 bb0 bbZ bbY bbX
attribute [go_sem] bbW bbV bbU aY1 aY0 aYZ aYY aYX aYW aYV
attribute [go_sem] aYU aYT aYS aYR aYQ aYP aYO aYN aYM aYL
attribute [go_sem] aYK aYJ aYI aYH aYG aYF aYE aYD aYC aYB
attribute [go_sem] aYA aYz aYy aYx aYw aYv aYu aYt aYs aYr
attribute [go_sem] aYq aYp aYo aYn aYm aYl aYk aYj aYi aYh
attribute [go_sem] aYg aYf aYe aYd aYc aYb aYa aX9 aX8 aX7
attribute [go_sem] aX6 aX5 aX4 aX3 aX2 aX1 aX0 aXZ aXY aXX
attribute [go_sem] aXW aXV aXU aXT aXS aXR aXQ aXP aXO aXN
attribute [go_sem] aXM aXL aXK aXJ aXI aXH aXG aXF aXE aXD
attribute [go_sem] aXC aXB aXA aQH aQG aQF aQE aQD aQC aQB
attribute [go_sem] aQA aQz aQy aQx aQw aQv aQu aQt aQs aQr
attribute [go_sem] aQq aQp aQo aQn aQm aQl aQk aQj aQi aQh
attribute [go_sem] aQg aQf aQe aQd aQc aQb aQa aP9 aP8 aP7
attribute [go_sem] aP6 aP5 aP4 aP3 aP2 aP1 aP0 aPZ aPY aPX
attribute [go_sem] aPW aPV aPU aPT aPS aPR aPQ aPP aPO aPN
attribute [go_sem] aPM aPL aPK aPJ aPI aPH aPG aPF aPE aPD
attribute [go_sem] aPC aPB aPA aPz aPy aPx aPw aPv aPu aPt
attribute [go_sem] aPs aPr aPq aPp aPo aPn aPm aPl aPk aPj
attribute [go_sem] aPi aPh aPg aPf aPe aPd aPc aPb aPa aO9
attribute [go_sem] aO8 aO7 aO6 aO5 aO4 aO3 aO2 aO1 aO0 aOZ
attribute [go_sem] aOY aOX aOW aOV aOU aOT aOS aOR aOQ aOP
attribute [go_sem] aOO aON aOM aOL aOK aOJ aOI aOH aOG aOF
attribute [go_sem] aOE aOD aOC aOB aOA aOz aOy aOx aOw aOv
attribute [go_sem] aOu aOt aOs aOr aOq aOp aOo aOn aOm aOl
attribute [go_sem] aOk aOj aOi aOh aOg aOf aOe aOd aOc aOb
attribute [go_sem] aOa aN9 aN8 aN7 aN6 aN5 aN4 aN3 aN2 aN1
attribute [go_sem] aN0 aNZ aNY aNX aNW aNV aNU aNT aNS aNR
attribute [go_sem] aNQ aNP aNO aNN aNM aNL aNK aNJ aNI aNH
attribute [go_sem] aNG aNF aNE aND aNC aNB aNA aNz aNy aNx
attribute [go_sem] aNw aNv aNu aNt aNs aNr aNq aNp aNo aNn
end Go.Ab
namespace Go.Ab
open Go Go.Proofs
set_option maxRecDepth 100000 in
theorem ac5(U V:List Int)(j:Nat)(hU:gd U)(hV:gd V)(lU:U.length≤2000000)(h2:2≤V.length)(hj:j+V.length<U.length)(hv1:32768≤V.getD (V.length-1) 0)(hW:vl (U.drop j)<65536*vl V):
  Con Tryz.prog 296 true [.sl U.length (qb U),.sl V.length (qb V),.v (.int .i64 j)] [] (fun r hs bs=>∃q:Int,r=.v (.int .i64 q)∧hs=[]∧bs=[]∧(0≤q∧q<65536)∧vl (U.drop j)<(q+1)*vl V∧q*vl V<vl (U.drop j)+vl V):=by
 refine Con.of_aw Tryz.func296 rfl Tryz.ntmps296 (by simp) (by simp) (by simp) (W.sound ?_)
 show @W Tryz.prog 76 ⟨_⟩ ⟨fun x σ=>@qZ _ _ _ ⟨_⟩ _ ⟨_⟩ x σ⟩ _ _
 have hDl:V.length<(U.drop j).length:=by simp;omega
 have hz:=adm (jW hU j) hV hDl hW
 have hw:=aK0 hDl h2 hz
 have hvv:=aDi h2
 rw[zJ,zJ,zJ]at hw
 have hx0:=qP (jH (jW hU j) (V.length-2))
 have hx1:=y0 (jH (jW hU j) (V.length-2))
 have hy0:=qP (jH hV (V.length-2))
 have hy1:=y0 (jH hV (V.length-2))
 rw[List.length_take,Nat.min_eq_left (by omega)]at hx1 hy1
 have gu0:=qJ hU (j+V.length)
 have gu1:=qJ hU (j+(V.length-1))
 have gu2:=qJ hU (j+(V.length-2))
 have gv1:=qJ hV (V.length-1)
 have gv2:=qJ hV (V.length-2)
 have htop:=aM4 hw hvv ⟨hx0,hx1⟩ ⟨hy0,hy1⟩ gu2.1 gu1.1 gv2.2 hW
 have e0:((j:Int)+(V.length:Int)).toNat=j+V.length:=by omega
 have e1:((j:Int)+(V.length:Int)-1).toNat=j+(V.length-1):=by omega
 have e2:((j:Int)+(V.length:Int)-2).toNat=j+(V.length-2):=by omega
 have f1:((V.length:Int)-1).toNat=V.length-1:=by omega
 have f2:((V.length:Int)-2).toNat=V.length-2:=by omega
 simp(disch:=omega)only[go_sem]
 refine qt rfl [⟨0,[],[]⟩,⟨1,[],[]⟩,⟨2,[],[]⟩,⟨3,[],[]⟩,⟨4,[],[]⟩,⟨5,[],[]⟩,⟨6,[],[]⟩,⟨7,[5],[]⟩,⟨8,[5],[]⟩,⟨9,[5],[]⟩,⟨10,[5],[]⟩,⟨11,[5],[]⟩,⟨12,[5],[]⟩,⟨13,[5],[]⟩,⟨14,[],[]⟩,⟨15,[],[]⟩] (by kernel_rfl) ?_
 simp(disch:=omega)only[go_sem,e0,e1]
 generalize hu0:U.getD (j+V.length) 0=u0 at*
 generalize hu1:U.getD (j+(V.length-1)) 0=u1 at*
 generalize hu2:U.getD (j+(V.length-2)) 0=u2 at*
 refine⟨by omega,by omega,by omega,by omega,?_⟩
 refine qt rfl [⟨0,[],[]⟩,⟨1,[],[]⟩,⟨2,[],[]⟩,⟨3,[],[]⟩,⟨4,[],[]⟩,⟨5,[],[]⟩,⟨6,[],[]⟩,⟨7,[5],[]⟩,⟨8,[5],[]⟩,⟨9,[5],[]⟩,⟨10,[5],[]⟩,⟨11,[5],[]⟩,⟨12,[5],[]⟩,⟨13,[5],[]⟩,⟨14,[12],[]⟩,⟨15,[],[]⟩] (by kernel_rfl) ?_
 simp(disch:=omega)only[go_sem,f1]
 generalize hvv1:V.getD (V.length-1) 0=v1 at*
 generalize hvv2:V.getD (V.length-2) 0=v2 at*
 generalize htt:u0*65536+u1=top at*
 refine⟨by omega,by omega,by omega,by omega,by omega,by omega,?_⟩
 have hq0:0≤top/v1:=Int.ediv_nonneg (by omega) (by omega)
 have hq1:top/v1≤65537:=by
  have:top/v1<65538:=Int.ediv_lt_of_lt_mul (by omega) (by omega)
  omega
 have hr0:=Int.emod_nonneg top (show v1≠0 by omega)
 have hr1:=Int.emod_lt_of_pos top (show 0<v1 by omega)
 have hqr:=Int.emod_add_mul_ediv top v1
 have hini:=aIA hw hvv ⟨hx0,hx1⟩ ⟨hy0,hy1⟩ gu2 gv2.1 hq0 (show top<(top/v1+1)*v1 by rw[Int.add_mul,Int.mul_comm (top/v1)];omega)
 have hqr':top/v1*v1+top % v1=top:=by rw[Int.mul_comm];omega
 generalize top/v1=q0 at*
 generalize top % v1=r0 at*
 refine qi (fun x:Int×Int=>[(0,.sl U.length (qb U)),(1,.sl V.length (qb V)),(2,.v (.int .i64 j)),(7,.v (.int .i64 V.length)),(9,.v (.int .i64 x.1)),(10,.v (.int .i64 x.2))])
  (fun _=>[]) (fun x=>(0≤x.1∧x.1≤65537)∧(0≤x.2∧x.2<65536)∧x.1*v1+x.2=top∧vl (U.drop j)<(x.1+1)*vl V) (fun x=>x.1.toNat) (q0,r0) ⟨⟨hq0,hq1⟩,⟨hr0,by omega⟩,hqr',hini⟩
  (Le.lst [] _ _ rfl (by simp(disch:=omega)only[go_sem];try omega) (by simp(disch:=omega)only[go_sem])) ?_
 rintro⟨q,r⟩ ⟨hq,hr,hqr2,hlt⟩
 dsimp only at hq hr hqr2 hlt ⊢
 have hqv:0≤q*v2∧q*v2≤65537*65535:=⟨Int.mul_nonneg hq.1 gv2.1,Int.mul_le_mul hq.2 (by omega) gv2.1 (by omega)⟩
 simp(disch:=omega)only[go_sem]
 refine qt rfl [⟨0,[],[]⟩,⟨1,[],[]⟩,⟨2,[],[]⟩,⟨3,[],[]⟩,⟨4,[],[]⟩,⟨5,[],[]⟩,⟨6,[],[]⟩,⟨7,[],[]⟩,⟨8,[],[]⟩,⟨9,[],[]⟩,⟨10,[8],[]⟩,⟨11,[8],[]⟩,⟨12,[8],[]⟩,⟨13,[8],[]⟩,⟨14,[8],[]⟩,⟨15,[8],[]⟩,⟨16,[8],[]⟩,⟨17,[8],[]⟩,⟨18,[8],[]⟩,⟨19,[8],[]⟩,⟨20,[],[]⟩,⟨21,[],[]⟩] (by kernel_rfl) ?_
 simp(disch:=omega)only[go_sem]
 refine zt (fun h1=>?_) (fun h1=>?_)
 ·simp(disch:=omega)only[go_sem,h1,e2,f2,hu2,hvv2]
  refine⟨by omega,by omega,by omega,by omega,qe (fun h2=>?_) (fun h2=>?_)⟩
  ·simp(disch:=omega)only[go_sem,h2,f1,hvv1]
   have hst:=anW hw hvv ⟨hx0,hx1⟩ ⟨hy0,hy1⟩ hW gv2.1 (by omega) hq.1 hqr2 (.inr h2)
   have hqp:0<q:=by
    rcases(by omega:0<q∨q=0)with h|h
    ·exact h
    ·subst h;omega
   have hm:(q-1)*v1+(r+v1)=top:=by rw[Int.sub_mul];omega
   refine⟨by omega,by omega,qe (fun h3=>?_) (fun h3=>?_)⟩
   ·simp(disch:=omega)only[go_sem,h3]
    have h4:q-1<65536:=by
     rcases(by omega:q-1<65536∨65536≤q-1)with h|h
     ·exact h
     ·have:=Int.mul_le_mul_of_nonneg_right h (show 0≤v1 by omega)
      omega
    have h5:(q-1)*v2≤(r+v1)*65536+u2:=by
     have:(q-1)*v2≤65535*65535:=Int.mul_le_mul (by omega) (by omega) gv2.1 (by omega)
     omega
    have h6:=acI hw hvv ⟨hx0,hx1⟩ ⟨hy0,hy1⟩ gv2.1 (by omega) ⟨by omega,h4⟩ hm h5
    exact qA (by simp(disch:=omega)only[go_sem]) (by simp(disch:=omega)only[go_sem]) ⟨q-1,rfl,rfl,rfl,⟨by omega,h4⟩,by rw[show q-1+1=q by omega];exact hst,h6⟩
   ·simp(disch:=omega)only[go_sem,h3]
    refine qc (q-1,r+v1) [] ⟨by show 0≤q-1∧q-1≤65537;omega,by show 0≤r+v1∧r+v1<65536;omega,hm,by show _<(q-1+1)*vl V;rw[show q-1+1=q by omega];exact hst⟩ (by show(q-1).toNat<q.toNat;omega) rfl (by simp(disch:=omega)only[go_sem];try omega) (by simp(disch:=omega)only[go_sem])
  ·simp(disch:=omega)only[go_sem,h2]
   have h6:=acI hw hvv ⟨hx0,hx1⟩ ⟨hy0,hy1⟩ gv2.1 (by omega) ⟨hq.1,by omega⟩ hqr2 (by omega)
   exact qA (by simp(disch:=omega)only[go_sem]) (by simp(disch:=omega)only[go_sem]) ⟨q,rfl,rfl,rfl,⟨hq.1,by omega⟩,hlt,h6⟩
 ·simp(disch:=omega)only[go_sem,h1,f1,hvv1]
  have hst:=anW hw hvv ⟨hx0,hx1⟩ ⟨hy0,hy1⟩ hW gv2.1 (by omega) hq.1 hqr2 (.inl h1)
  have hqp:0<q:=by omega
  have hm:(q-1)*v1+(r+v1)=top:=by rw[Int.sub_mul];omega
  refine⟨by omega,by omega,qe (fun h3=>?_) (fun h3=>?_)⟩
  ·simp(disch:=omega)only[go_sem,h3]
   have h4:q-1<65536:=by
    rcases(by omega:q-1<65536∨65536≤q-1)with h|h
    ·exact h
    ·have:=Int.mul_le_mul_of_nonneg_right h (show 0≤v1 by omega)
     omega
   have h5:(q-1)*v2≤(r+v1)*65536+u2:=by
    have:(q-1)*v2≤65535*65535:=Int.mul_le_mul (by omega) (by omega) gv2.1 (by omega)
    omega
   have h6:=acI hw hvv ⟨hx0,hx1⟩ ⟨hy0,hy1⟩ gv2.1 (by omega) ⟨by omega,h4⟩ hm h5
   exact qA (by simp(disch:=omega)only[go_sem]) (by simp(disch:=omega)only[go_sem]) ⟨q-1,rfl,rfl,rfl,⟨by omega,h4⟩,by rw[show q-1+1=q by omega];exact hst,h6⟩
  ·simp(disch:=omega)only[go_sem,h3]
   refine qc (q-1,r+v1) [] ⟨by show 0≤q-1∧q-1≤65537;omega,by show 0≤r+v1∧r+v1<65536;omega,hm,by show _<(q-1+1)*vl V;rw[show q-1+1=q by omega];exact hst⟩ (by show(q-1).toNat<q.toNat;omega) rfl (by simp(disch:=omega)only[go_sem];try omega) (by simp(disch:=omega)only[go_sem])
end Go.Ab
namespace Go.Ab
open Go Go.Proofs
theorem Ko(U V:List Int)(j:Nat)(q:Int)(hU:gd U)(hV:gd V)(lU:U.length≤2000000)(hj:j+V.length<U.length)(hq:0≤q∧q<65536):
  Con Tryz.prog 297 false [.rf 10000000 0 U.length,.sl V.length (qb V),.v (.int .i64 j),.v (.int .i64 q)] [.own 1 (qb U)]
   (fun r hs bs=>∃(U':List Int) (bo:Int),r=.v (.bool (decide (U.getD (j+V.length) 0-bo<0)))∧hs=[]∧bs=[.own 1 (qb (U'.set (j+V.length) (U.getD (j+V.length) 0-bo)))]∧
    U'.length=U.length∧gd U'∧(0≤bo∧bo<65536)∧(∀t,t<j∨j+V.length≤t→U'.getD t 0=U.getD t 0)∧vl U'-65536^(j+V.length)*bo=vl U-65536^j*(q*vl V)):=by
 refine Con.of_aw Tryz.func297 rfl Tryz.ntmps297 (by simp) (by simp) (by simp) (W.sound ?_)
 show @W Tryz.prog 68 ⟨_⟩ ⟨fun x σ=>@qZ _ _ _ ⟨_⟩ _ ⟨_⟩ x σ⟩ _ _
 simp(disch:=omega)only[go_sem]
 refine qi (fun x:Nat×List Int×Int=>[(0,.rf 10000000 0 U.length),(1,.sl V.length (qb V)),(2,.v (.int .i64 j)),(3,.v (.int .i64 q)),(9,.v (.int .i64 x.2.2)),(13,.sl V.length (qb V)),(14,.v (.int .i64 V.length)),(15,.v (.int .i64 x.1))])
  (fun x=>[(10000000,.own 1 (qb x.2.1))])
  (fun x=>x.1≤V.length∧x.2.1.length=U.length∧gd x.2.1∧(0≤x.2.2∧x.2.2<65536)∧(∀t,t<j∨j+x.1≤t→x.2.1.getD t 0=U.getD t 0)∧vl x.2.1-65536^(j+x.1)*x.2.2=vl U-65536^j*(q*vl (V.take x.1)))
  (fun x=>V.length-x.1) (0,U,0) ⟨by simp,rfl,hU,by simp,fun _ _=>rfl,by simp[vl]⟩
  (Le.lst [] _ _ rfl (by simp(disch:=omega)only[go_sem];try omega) (by simp(disch:=omega)only[go_sem])) ?_
 rintro⟨i,U1,bo⟩ ⟨hi,hl1,hg1,hbo,hsame,hval⟩
 dsimp only at hi hl1 hg1 hbo hsame hval ⊢
 simp(disch:=omega)only[go_sem]
 refine qe (fun h1=>?_) (fun h1=>?_)
 ·have hx:=qJ hV i
  have hu:=qJ hg1 (j+i)
  have hqx:0≤q*V.getD i 0∧q*V.getD i 0≤65535*65535:=⟨Int.mul_nonneg hq.1 hx.1,Int.mul_le_mul (by omega) (by omega) hx.1 (by omega)⟩
  have e1:((j:Int)+(i:Int)).toNat=j+i:=by omega
  have hstep:∀d b:Int,d-65536*b=U1.getD (j+i) 0-q*V.getD i 0-bo→vl (U1.set (j+i) d)-65536^(j+(i+1))*b=vl U-65536^j*(q*vl (V.take (i+1))):=by
   intro d b hd
   rw[Qk (by omega),qM,←Nat.add_assoc,Int.pow_succ]
   have e3:(65536:Int)^(j+i)=65536^j*65536^i:=Int.pow_add _ _ _
   rw[e3]at hval ⊢
   generalize (65536:Int)^i=Pi at*
   generalize (65536:Int)^j=Pj at*
   grind
  have hsm:∀d:Int,∀t,t<j∨j+(i+1)≤t→(U1.set (j+i) d).getD t 0=U.getD t 0:=fun d t ht=>by
   rw[zY (by omega),if_neg (by omega)];exact hsame t (by omega)
  simp(disch:=omega)only[go_sem,h1,e1]
  refine⟨by omega,by omega,by omega,by omega,qe (fun h2=>?_) (fun h2=>?_)⟩
  ·simp(disch:=omega)only[go_sem,h2,e1]
   generalize hb:(0-(U1.getD (j+i) 0-q*V.getD i 0-bo)+65536-1)/65536=b
   refine⟨by omega,by omega,qc (i+1,U1.set (j+i) (U1.getD (j+i) 0-q*V.getD i 0-bo+b*65536),b) [] ⟨by show i+1≤_;omega,by simp[hl1],yk hg1 (by omega),by show 0≤b∧b<65536;omega,hsm _,hstep (U1.getD (j+i) 0-q*V.getD i 0-bo+b*65536) b (by omega)⟩
    (by show V.length-(i+1)<V.length-i;omega) rfl (by simp(disch:=omega)only[go_sem];try omega) (by simp(disch:=omega)only[go_sem])⟩
  ·simp(disch:=omega)only[go_sem,h2,e1]
   refine⟨by omega,by omega,qc (i+1,U1.set (j+i) (U1.getD (j+i) 0-q*V.getD i 0-bo),0) [] ⟨by show i+1≤_;omega,by simp[hl1],yk hg1 (by omega),by simp,hsm _,hstep (U1.getD (j+i) 0-q*V.getD i 0-bo) 0 (by omega)⟩
    (by show V.length-(i+1)<V.length-i;omega) rfl (by simp(disch:=omega)only[go_sem];try omega) (by simp(disch:=omega)only[go_sem])⟩
 ·have hiA:i=V.length:=by omega
  subst hiA
  rw[List.take_length]at hval
  have e1:((j:Int)+(V.length:Int)).toNat=j+V.length:=by omega
  have hu:=qJ hg1 (j+V.length)
  have es:=hsame (j+V.length) (by omega)
  have eg:(U1.set (j+V.length) (U.getD (j+V.length) 0-bo)).getD (j+V.length) 0=U.getD (j+V.length) 0-bo:=by rw[zY (by omega),if_pos rfl]
  simp(disch:=omega)only[go_sem,h1,e1,es]
  refine⟨by omega,by omega,by omega,by omega,by omega,by simp;omega,?_⟩
  simp(disch:=omega)only[go_sem,eg]
  refine qh [] [] [.own 1 (qb (U1.set (j+V.length) (U.getD (j+V.length) 0-bo)))] [.v (.bool (decide (U.getD (j+V.length) 0-bo<0)))] rfl (by simp(disch:=omega)only[go_sem]) (by simp(disch:=omega)only[go_sem]) (by simp) (by simp) ⟨U1,bo,rfl,rfl,rfl,hl1,hg1,hbo,hsame,hval⟩
theorem ac7(U V:List Int)(j:Nat)(hU:∀t,t≠j+V.length→0≤U.getD t 0∧U.getD t 0<65536)(hUt: -65536≤U.getD (j+V.length) 0∧U.getD (j+V.length) 0<65536)(hV:gd V)(lU:U.length≤2000000)(hj:j+V.length<U.length):
  Con Tryz.prog 298 false [.rf 10000000 0 U.length,.sl V.length (qb V),.v (.int .i64 j)] [.own 1 (qb U)]
   (fun r hs bs=>∃(U':List Int),r=.tu []∧hs=[]∧bs=[.own 1 (qb U')]∧
    U'.length=U.length∧(∀t,t≠j+V.length→0≤U'.getD t 0∧U'.getD t 0<65536)∧(∀t,t<j∨j+V.length<t→U'.getD t 0=U.getD t 0)∧vl U'=vl U+65536^j*vl V):=by
 refine Con.of_aw Tryz.func298 rfl Tryz.ntmps298 (by simp) (by simp) (by simp) (W.sound ?_)
 show @W Tryz.prog 46 ⟨_⟩ ⟨fun x σ=>@qZ _ _ _ ⟨_⟩ _ ⟨_⟩ x σ⟩ _ _
 simp(disch:=omega)only[go_sem]
 refine qi (fun x:Nat×List Int×Int=>[(0,.rf 10000000 0 U.length),(1,.sl V.length (qb V)),(2,.v (.int .i64 j)),(6,.v (.int .i64 x.2.2)),(9,.sl V.length (qb V)),(10,.v (.int .i64 V.length)),(11,.v (.int .i64 x.1))])
  (fun x=>[(10000000,.own 1 (qb x.2.1))])
  (fun x=>x.1≤V.length∧x.2.1.length=U.length∧(∀t,t≠j+V.length→0≤x.2.1.getD t 0∧x.2.1.getD t 0<65536)∧(0≤x.2.2∧x.2.2≤1)∧(∀t,t<j∨j+x.1≤t→x.2.1.getD t 0=U.getD t 0)∧vl x.2.1+65536^(j+x.1)*x.2.2=vl U+65536^j*vl (V.take x.1))
  (fun x=>V.length-x.1) (0,U,0) ⟨by simp,rfl,hU,by simp,fun _ _=>rfl,by simp[vl]⟩
  (Le.lst [] _ _ rfl (by simp(disch:=omega)only[go_sem];try omega) (by simp(disch:=omega)only[go_sem])) ?_
 rintro⟨i,U1,cy⟩ ⟨hi,hl1,hg1,hcy,hsame,hval⟩
 dsimp only at hi hl1 hg1 hcy hsame hval ⊢
 simp(disch:=omega)only[go_sem]
 refine qe (fun h1=>?_) (fun h1=>?_)
 ·have hx:=qJ hV i
  have hu:=hg1 (j+i) (by omega)
  have e1:((j:Int)+(i:Int)).toNat=j+i:=by omega
  simp(disch:=omega)only[go_sem,h1,e1]
  generalize hb:cy+(U1.getD (j+i) 0+V.getD i 0)=b
  have hg2:∀t,t≠j+V.length→0≤(U1.set (j+i) (b % 65536)).getD t 0∧(U1.set (j+i) (b % 65536)).getD t 0<65536:=fun t ht=>by
   rw[zY (by omega)]
   split
   ·omega
   ·exact hg1 t ht
  refine⟨by omega,by omega,by omega,by omega,by omega,by omega,qc (i+1,U1.set (j+i) (b % 65536),b/65536) [] ⟨by show i+1≤_;omega,by simp[hl1],hg2,by show 0≤b/65536∧b/65536≤1;omega,fun t ht=>?_,?_⟩
   (by show V.length-(i+1)<V.length-i;omega) rfl (by simp(disch:=omega)only[go_sem];try omega) (by simp(disch:=omega)only[go_sem])⟩
  ·show(U1.set (j+i) (b % 65536)).getD t 0=_
   have ht:t<j∨j+(i+1)≤t:=ht
   rw[zY (by omega),if_neg (by omega)];exact hsame t (by omega)
  ·show vl (U1.set (j+i) (b % 65536))+65536^(j+(i+1))*(b/65536)=vl U+65536^j*vl (V.take (i+1))
   rw[Qk (by omega),qM,←Nat.add_assoc,Int.pow_succ]
   have e3:(65536:Int)^(j+i)=65536^j*65536^i:=Int.pow_add _ _ _
   have e4:b % 65536+65536*(b/65536)=b:=Int.emod_add_mul_ediv b 65536
   rw[e3]at hval ⊢
   generalize (65536:Int)^i=Pi at*
   generalize (65536:Int)^j=Pj at*
   grind
 ·have hiA:i=V.length:=by omega
  subst hiA
  rw[List.take_length]at hval
  have e1:((j:Int)+(V.length:Int)).toNat=j+V.length:=by omega
  have es:=hsame (j+V.length) (by omega)
  simp(disch:=omega)only[go_sem,h1,e1,es]
  refine⟨by omega,by omega,by omega,by omega,?_⟩
  refine qh [] [] [.own 1 (qb (U1.set (j+V.length) (U.getD (j+V.length) 0+cy)))] [] rfl (by simp(disch:=omega)only[go_sem]) (by simp(disch:=omega)only[go_sem]) (by simp) (by simp) ⟨_,rfl,rfl,rfl,by simp[hl1],fun t ht=>?_,fun t ht=>?_,?_⟩
  ·rw[zY (by omega),if_neg ht];exact hg1 t ht
  ·rw[zY (by omega),if_neg (by omega)];exact hsame t (by omega)
  ·rw[Qk (by omega),es]
   generalize (65536:Int)^(j+V.length)=Pj at*
   grind
end Go.Ab
namespace Go.Ab
open Go Go.Proofs
theorem zZ(xs:List Int)(hl:xs.length≤2^40):Con Tryz.prog 254 false [.rf 10000000 0 xs.length] [.own 1 (qb xs)] (fun r hs bs=>r=.rf 10000000 0 (Zq xs).length∧hs=[]∧bs=[.own 1 (qb xs)]):=by
 refine Con.of_aw Tryz.func254 rfl Tryz.ntmps254 (by simp) (by simp) (by simp) (W.sound ?_)
 show @W Tryz.prog 21 ⟨_⟩ ⟨fun x σ=>@qZ _ _ _ ⟨_⟩ _ ⟨_⟩ x σ⟩ _ _
 simp(disch:=omega)only[go_sem]
 refine qi (fun m:Nat=>[(0,.rf 10000000 0 m)]) (fun _=>[(10000000,.own 1 (qb xs))]) (fun m=>m≤xs.length∧Zq (xs.take m)=Zq xs) id xs.length ⟨Nat.le_refl _,by simp⟩
  (Le.lst [] _ _ rfl (by simp(disch:=omega)only[go_sem];try omega) (by simp(disch:=omega)only[go_sem])) ?_
 intro m ⟨hm,hx⟩
 have hmx:∀k,k+1=m→xs.take m=xs.take k++[xs.getD k 0]:=fun k hk=>by rw[←hk];exact jr (by omega)
 simp(disch:=omega)only[go_sem]
 refine qe (fun h1=>?_) (fun h1=>?_)
 ·obtain⟨k,rfl⟩:∃k,m=k+1:=⟨m-1,by omega⟩
  have e1:((k+1:Nat):Int)-1=(k:Nat):=by omega
  rw[hmx k rfl]at hx
  simp(disch:=omega)only[go_sem,h1,e1]
  refine⟨by omega,by omega,qe (fun h2=>?_) (fun h2=>?_)⟩
  ·simp(disch:=omega)only[go_sem,h2,e1]
   rw[h2,yW]at hx
   refine⟨by omega,qc k [] ⟨by omega,hx⟩ (by show k<k+1;omega) rfl (by simp(disch:=omega)only[go_sem];try omega) (by simp(disch:=omega)only[go_sem])⟩
  ·simp(disch:=omega)only[go_sem,h2]
   refine qh [] [] [.own 1 (qb xs)] [.rf 10000000 0 (k+1)] rfl (by simp(disch:=omega)only[go_sem]) (by simp(disch:=omega)only[go_sem]) (by simp) (by simp) ⟨?_,rfl,rfl⟩
   rw[J7 _ h2,←hmx k rfl]at hx
   rw[←hx,List.length_take,Nat.min_eq_left hm];rfl
 ·simp(disch:=omega)only[go_sem,h1]
  refine qh [] [] [.own 1 (qb xs)] [.rf 10000000 0 m] rfl (by simp(disch:=omega)only[go_sem]) (by simp(disch:=omega)only[go_sem]) (by simp) (by simp) ⟨?_,rfl,rfl⟩
  have:m=0:=by omega
  subst this
  rw[←hx];rfl
end Go.Ab
namespace Go.Ab
open Go Go.Proofs
theorem anL{x y:Int}(hx:0≤x∧x<65536)(hy:0≤y∧y<65536):0≤x*y∧x*y≤4294836225:=by
 have h1:=Int.mul_nonneg hx.1 hy.1
 have h2:x*y≤65535*65535:=Int.mul_le_mul (by omega) (by omega) hy.1 (by omega)
 omega
theorem aoA(cl:Bool)(A B:List Int)(hA:gd A)(hB:gd B)(lA:A.length≤1000000)(lB:B.length≤1000000):
  Con Tryz.prog 218 cl [.sl A.length (qb A),.sl B.length (qb B)] [] (apW (lim (vl A*vl B).toNat)):=by
 refine Con.of_aw Tryz.func218 rfl Tryz.ntmps218 (by simp) (by simp) (by simp) (W.sound ?_)
 show @W Tryz.prog 63 ⟨_⟩ ⟨fun x σ=>@qZ _ _ _ ⟨_⟩ _ ⟨_⟩ x σ⟩ _ _
 simp(disch:=omega)only[go_sem]
 refine⟨⟨by omega,by omega,by omega⟩,?_⟩
 refine qi (fun x:Nat×List Int=>[(1,.sl B.length (qb B)),(5,.rf 180000000 0 (A.length+B.length)),(17,.sl A.length (qb A)),(18,.v (.int .i64 A.length)),(19,.v (.int .i64 x.1))])
  (fun x=>[(180000000,.own 1 (qb x.2))])
  (fun x=>x.1≤A.length∧x.2.length=A.length+B.length∧gd x.2∧vl x.2=vl (A.take x.1)*vl B∧∀j,x.1+B.length≤j→x.2.getD j 0=0)
  (fun x=>A.length-x.1) (0,List.replicate (A.length+B.length) 0) ⟨by simp,by simp,zg _,by simp[zD,vl],fun j _=>by
   rw[List.getD_eq_getElem?_getD,List.getElem?_replicate];split<;>rfl⟩
  (Le.lst [] _ _ rfl (by simp(disch:=omega)only[go_sem];try omega) (by simp(disch:=omega)only[go_sem,show((A.length:Int)+(B.length:Int)).toNat=A.length+B.length by omega])) ?_
 rintro⟨i,out⟩ ⟨hi,hol,hog,hov,hoz⟩
 dsimp only at hi hol hog hov hoz ⊢
 simp(disch:=omega)only[go_sem]
 refine qe (fun h1=>?_) (fun h1=>?_)
 ·have hx:=qJ hA i
  simp(disch:=omega)only[go_sem,h1]
  refine⟨by omega,by omega,?_⟩
  refine qi (fun x:Nat×List Int×Int=>[(1,.sl B.length (qb B)),(5,.rf 180000000 0 (A.length+B.length)),(17,.sl A.length (qb A)),(18,.v (.int .i64 A.length)),(19,.v (.int .i64 i)),(6,.v (.int .i64 i)),
    (7,.v (.int .i64 (A.getD i 0))),(8,.v (.int .i64 x.2.2)),(24,.sl B.length (qb B)),(25,.v (.int .i64 B.length)),(26,.v (.int .i64 x.1))])
   (fun x=>[(180000000,.own 1 (qb x.2.1))])
   (fun x=>x.1≤B.length∧x.2.1.length=A.length+B.length∧gd x.2.1∧(0≤x.2.2∧x.2.2<65536)∧vl x.2.1+65536^(i+x.1)*x.2.2=vl out+65536^i*(A.getD i 0*vl (B.take x.1))∧∀j,i+B.length≤j→x.2.1.getD j 0=0)
   (fun x=>B.length-x.1) (0,out,0) ⟨by simp,hol,hog,by simp,by simp[vl],hoz⟩
   (Le.lst [] _ _ rfl (by simp(disch:=omega)only[go_sem];try omega) (by simp(disch:=omega)only[go_sem])) ?_
  rintro⟨j,o2,cy⟩ ⟨hj,hol2,hog2,hcy,hov2,hoz2⟩
  dsimp only at hj hol2 hog2 hcy hov2 hoz2 ⊢
  simp(disch:=omega)only[go_sem]
  refine qe (fun h2=>?_) (fun h2=>?_)
  ·have hy:=qJ hB j
   have ho:=qJ hog2 (i+j)
   have hxy:=anL hx hy
   have e1:((i:Int)+(j:Int)).toNat=i+j:=by omega
   simp(disch:=omega)only[go_sem,h2,e1]
   generalize hq:cy+(o2.getD (i+j) 0+A.getD i 0*B.getD j 0)=q
   refine⟨by omega,by omega,by omega,by omega,by omega,by omega,qc (j+1,o2.set (i+j) (q % 65536),q/65536) [] ⟨by show j+1≤_;omega,by simp[hol2],yk hog2 (by omega),by show 0≤q/65536∧q/65536<65536;omega,?_,fun k hk=>?_⟩
    (by show B.length-(j+1)<B.length-j;omega) rfl (by simp(disch:=omega)only[go_sem];try omega) (by simp(disch:=omega)only[go_sem])⟩
   ·show vl (o2.set (i+j) (q % 65536))+65536^(i+(j+1))*(q/65536)=vl out+65536^i*(A.getD i 0*vl (B.take (j+1)))
    rw[Qk (by omega),zP (by omega),←Nat.add_assoc,Int.pow_succ]
    have e2:(65536:Int)^(i+j)=65536^i*65536^j:=Int.pow_add _ _ _
    have e3:q % 65536+65536*(q/65536)=q:=Int.emod_add_mul_ediv q 65536
    rw[e2]at hov2 ⊢
    generalize (65536:Int)^i=Pi at*
    generalize (65536:Int)^j=Pj at*
    grind
   ·show(o2.set (i+j) (q % 65536)).getD k 0=0
    rw[List.getD_eq_getElem?_getD,List.getElem?_set_ne (by omega),←List.getD_eq_getElem?_getD]
    exact hoz2 k hk
  ·simp(disch:=omega)only[go_sem,h2]
   have e1:((i:Int)+(B.length:Int)).toNat=i+B.length:=by omega
   have hjB:j=B.length:=by omega
   subst hjB
   rw[List.take_length]at hov2
   simp(disch:=omega)only[go_sem,e1]
   refine⟨by omega,by omega,qc (i+1,o2.set (i+B.length) cy) [] ⟨by show i+1≤_;omega,by simp[hol2],yk hog2 hcy,?_,fun k hk=>?_⟩ (by show A.length-(i+1)<A.length-i;omega) rfl (by simp(disch:=omega)only[go_sem];try omega) (by simp(disch:=omega)only[go_sem])⟩
   ·show vl (o2.set (i+B.length) cy)=vl (A.take (i+1))*vl B
    rw[Qk (by omega),hoz2 _ (Nat.le_refl _),zP (by omega)]
    generalize (65536:Int)^i=Pi at*
    grind
   ·show(o2.set (i+B.length) cy).getD k 0=0
    rw[List.getD_eq_getElem?_getD,List.getElem?_set_ne (by show i+B.length≠k;omega),←List.getD_eq_getElem?_getD]
    exact hoz2 k (by omega)
 ·simp(disch:=omega)only[go_sem,h1]
  have hiA:i=A.length:=by omega
  subst hiA
  rw[List.take_length]at hov
  refine qY false [180000000] (zZ out (by omega)) (by rw[←hol];simp(disch:=omega)only[go_sem]) (by simp(disch:=omega)only[go_sem]) rfl (qT (z:=1) (cs:=qb out) (by simp(disch:=omega)only[go_sem]) (by simp(disch:=omega)only[go_sem])) (by intro n hn;exact⟨_,List.mem_singleton.2 rfl,by rw[List.mem_singleton.1 hn];rfl⟩) ?_
  rintro r hs bs ⟨rfl,rfl,rfl⟩ _
  refine⟨by simp[qQ],?_⟩
  simp(disch:=omega)only[go_sem]
  obtain⟨z,hz⟩:=zz out
  have hc:=zN hog
  rw[hov]at hc
  rw[hc]at hz ⊢
  refine qh [(0,180000000)] [.own 1 (qb out)] [] [.rf 0 0 (lim (vl A*vl B).toNat).length] rfl (by simp(disch:=omega)only[go_sem]) (by simp(disch:=omega)only[go_sem]) (by simp) (by intro _;simp[zb,AV.pu,AV.pu.puL,Ob.pu,qS]) (.inr ⟨List.replicate z 0,rfl,by rw[←hz]⟩)
end Go.Ab
namespace Go.Ab
open Go Go.Proofs
theorem aoE(cl:Bool)(n:Nat)(hn:n<2^63):Con Tryz.prog 189 cl [.v (.int .i64 n)] [] (apW (lim n)):=by
 refine Con.of_aw Tryz.func189 rfl Tryz.ntmps189 (by simp) (by simp) (by simp) (W.sound ?_)
 show @W Tryz.prog 14 ⟨_⟩ ⟨fun x σ=>@qZ _ _ _ ⟨_⟩ _ ⟨_⟩ x σ⟩ _ _
 simp(disch:=omega)only[go_sem]
 refine qi (fun x:Nat×List Int=>[(0,.v (.int .i64 x.1)),(3,.rf 1 0 x.2.length)]) (fun x=>[(1,.own 1 (qb x.2))]) (fun x=>x.1<2^63∧x.2++lim x.1=lim n) (fun x=>x.1) (n,[]) ⟨hn,rfl⟩
  ((Le.ghost 3 1 1 (by simp(disch:=omega)only[go_sem]) (by simp(disch:=omega)only[go_sem])).trans (Le.lst [] _ _ rfl (by simp(disch:=omega)only[go_sem]) (by simp(disch:=omega)only[go_sem]))) ?_
 rintro⟨k,l⟩ ⟨hk,hl⟩
 dsimp only at hk hl ⊢
 have hlen:l.length≤4:=by
  have h1:=congrArg List.length hl
  have h2:=jm (n:=n) (k:=4) |>.2 (by omega)
  rw[List.length_append]at h1;omega
 simp(disch:=omega)only[go_sem]
 refine qe (fun h1=>?_) (fun h1=>?_)
 ·simp(disch:=omega)only[go_sem,h1]
  have hk0:k≠0:=by omega
  refine⟨by omega,qc (k/65536,l++[(k:Int) % 65536]) [(1,140000000)] ⟨by show k/65536<2^63;omega,?_⟩ (by show k/65536<k;omega) rfl (by simp(disch:=omega)only[go_sem,List.length_append];omega) (by simp(disch:=omega)only[go_sem])⟩
  rw[jG hk0]at hl
  rw[←hl,List.append_assoc];rfl
 ·simp(disch:=omega)only[go_sem,h1]
  have hk0:k=0:=by omega
  subst hk0
  rw[ql,List.append_nil]at hl
  subst hl
  refine qh [(0,1)] [.own 1 (qb (lim n++[]))] [] [.rf 0 0 (lim n).length] rfl (by simp(disch:=omega)only[go_sem]) (by simp(disch:=omega)only[go_sem]) (by simp) (by intro _;simp[zb,AV.pu,AV.pu.puL,Ob.pu,qS]) (.inr ⟨[],rfl,rfl⟩)
end Go.Ab
namespace Go.Ab
open Go Go.Proofs
theorem jR(k:Nat)(h:k<16):(0:Int)<2^k∧(2:Int)^k≤32768:=by
 have:∀k,k<16→(0:Int)<2^k∧(2:Int)^k≤32768:=by decide
 exact this k h
theorem anK{x:Int}(hx:0≤x∧x<65536){k:Nat}(hk:k<16):0≤x*2^k∧x*2^k≤2147450880:=by
 obtain⟨h1,h2⟩:=jR k hk
 have h3:=Int.mul_nonneg hx.1 (Int.le_of_lt h1)
 have h4:x*2^k≤65535*32768:=Int.mul_le_mul (by omega) h2 (by omega) (by omega)
 omega
theorem VW(k:Nat):(65536:Int)^(k/16)*2^(k % 16)=2^k:=by
 have e:(65536:Int)=2^16:=by decide
 rw[e,←Int.pow_mul,←Int.pow_add,Nat.div_add_mod]
theorem aRd(cl:Bool)(A:List Int)(k:Nat)(hA:gd A)(lA:A.length≤1000000)(hk:k≤100000000):
  Con Tryz.prog 195 cl [.sl A.length (qb A),.v (.int .i64 k)] [] (apW (lim (vl A*2^k).toNat)):=by
 refine Con.of_aw Tryz.func195 rfl Tryz.ntmps195 (by simp) (by simp) (by simp) (W.sound ?_)
 show @W Tryz.prog 46 ⟨_⟩ ⟨fun x σ=>@qZ _ _ _ ⟨_⟩ _ ⟨_⟩ x σ⟩ _ _
 simp(disch:=omega)only[go_sem]
 refine qe (fun h0=>?_) (fun h0=>?_)
 ·simp(disch:=omega)only[go_sem,h0]
  have:A=[]:=List.length_eq_zero_iff.1 (by omega)
  subst this
  refine qh [] [] [] [.v (.slice none 0 0)] rfl (by simp(disch:=omega)only[go_sem]) (by simp(disch:=omega)only[go_sem]) (by simp) (by intro _;simp[zb,AV.pu,AV.pu.puL,Ob.pu,qS]) (.inl ⟨by simp[vl,ql],rfl,rfl⟩)
 ·simp(disch:=omega)only[go_sem,h0]
  refine⟨by omega,?_⟩
  have e16:((k:Int)/16).toNat=k/16:=by omega
  refine qi (fun x:Nat×List Int×Int=>[(1,.v (.int .i64 k)),(5,.rf 1 0 x.2.1.length),(6,.v (.int .i64 x.2.2)),(21,.sl A.length (qb A)),(22,.v (.int .i64 A.length)),(23,.v (.int .i64 x.1))])
   (fun x=>[(1,.own 1 (qb x.2.1))])
   (fun x=>x.1≤A.length∧x.2.1.length=k/16+x.1∧gd x.2.1∧(0≤x.2.2∧x.2.2<65536)∧vl x.2.1+65536^(k/16+x.1)*x.2.2=65536^(k/16)*2^(k % 16)*vl (A.take x.1))
   (fun x=>A.length-x.1) (0,List.replicate (k/16) 0,0) ⟨by simp,by simp,zg _,by simp,by simp[vl,zD]⟩
   (Le.lst [(1,220000000)] _ _ rfl (by simp(disch:=omega)only[go_sem,List.length_replicate,e16]) (by simp(disch:=omega)only[go_sem,e16])) ?_
  rintro⟨i,out,cy⟩ ⟨hi,hol,hog,hcy,hov⟩
  dsimp only at hi hol hog hcy hov ⊢
  simp(disch:=omega)only[go_sem]
  refine qe (fun h1=>?_) (fun h1=>?_)
  ·have hx:=qJ hA i
   have hxs:=anK hx (show k % 16<16 by omega)
   have em:min ((k:Int) % 16).toNat 64=k % 16:=by omega
   simp(disch:=omega)only[go_sem,h1,em]
   generalize hq:cy+A.getD i 0*2^(k % 16)=q
   refine⟨by omega,by omega,by omega,by omega,qc (i+1,out++[q % 65536],q/65536) [(1,390000000)] ⟨by show i+1≤_;omega,by simp[hol];omega,qE.2 ⟨hog,zH.2 (by omega)⟩,by show 0≤q/65536∧q/65536<65536;omega,?_⟩ (by show A.length-(i+1)<A.length-i;omega) rfl (by simp(disch:=omega)only[go_sem,List.length_append];try omega) (by simp(disch:=omega)only[go_sem])⟩
   show vl (out++[q % 65536])+65536^(k/16+(i+1))*(q/65536)=65536^(k/16)*2^(k % 16)*vl (A.take (i+1))
   rw[z8,qM,hol,←Nat.add_assoc,Int.pow_succ]
   have e3:q % 65536+65536*(q/65536)=q:=Int.emod_add_mul_ediv q 65536
   rw[Int.pow_add]at hov ⊢
   generalize (65536:Int)^i=Pi at*
   generalize (65536:Int)^(k/16)=Pk at*
   generalize (2:Int)^(k % 16)=Pm at*
   grind
  ·simp(disch:=omega)only[go_sem,h1]
   have hiA:i=A.length:=by omega
   subst hiA
   rw[List.take_length,VW]at hov
   have hov2:vl (out++[cy])=vl A*2^k:=by rw[z8,hol,hov];grind
   have hog2:gd (out++[cy]):=qE.2 ⟨hog,zH.2 hcy⟩
   refine⟨by omega,?_⟩
   have hl2:out.length+1=(out++[cy]).length:=by simp
   rw[hl2]
   refine qY false [460000000] (zZ (out++[cy]) (by simp;omega)) (by simp(disch:=omega)only[go_sem]) (by simp(disch:=omega)only[go_sem]) rfl (qT (z:=1) (cs:=qb (out++[cy])) (by simp(disch:=omega)only[go_sem]) (by simp(disch:=omega)only[go_sem])) (by intro n hn;exact⟨_,List.mem_singleton.2 rfl,by rw[List.mem_singleton.1 hn];rfl⟩) ?_
   rintro r hs bs ⟨rfl,rfl,rfl⟩ _
   refine⟨by simp[qQ],?_⟩
   simp(disch:=omega)only[go_sem]
   obtain⟨z,hz⟩:=zz (out++[cy])
   have hc:=zN hog2
   rw[hov2]at hc
   rw[hc]at hz ⊢
   refine qh [(0,460000000)] [.own 1 (qb (out++[cy]))] [] [.rf 0 0 (lim (vl A*2^k).toNat).length] rfl (by simp(disch:=omega)only[go_sem]) (by simp(disch:=omega)only[go_sem]) (by simp) (by intro _;simp[zb,AV.pu,AV.pu.puL,Ob.pu,qS]) (.inr ⟨List.replicate z 0,rfl,by rw[←hz]⟩)
end Go.Ab
namespace Go.Ab
open Go Go.Proofs
theorem azZ(V P:Int)(hP:0<P):V % (P*65536)=V % P+P*(V/P % 65536):=by
 rw[Int.emod_def,Int.emod_def,Int.emod_def,←Int.ediv_ediv_of_nonneg (Int.le_of_lt hP)]
 grind
theorem azu{s:Nat}(hs:s<16):(65536:Int)=2^s*2^(16-s):=by
 rw[←Int.pow_add,show s+(16-s)=16 by omega];decide
theorem aid{D:List Int}(hD:gd D){i s:Nat}(hi:i<D.length)(hs:s<16):
  (vl D/2^s)/65536^i % 65536=(D.getD i 0+D.getD (i+1) 0*65536)/2^s % 65536:=by
 have h2:=(jR s hs).1
 rw[Int.ediv_ediv_of_nonneg (Int.le_of_lt h2),Int.mul_comm,←Int.ediv_ediv_of_nonneg (Int.le_of_lt (Int.pow_pos (by omega))),adl hD (by omega),zq hi]
 have h3:vl (D.drop (i+1))=D.getD (i+1) 0+65536*vl (D.drop (i+2)):=by
  rcases Nat.lt_or_ge (i+1) D.length with h|h
  ·exact zq h
  ·rw[List.drop_of_length_le h,List.drop_of_length_le (by omega),List.getD_eq_getElem?_getD,List.getElem?_eq_none h];simp[vl]
 rw[h3]
 have e:D.getD i 0+65536*(D.getD (i+1) 0+65536*vl (D.drop (i+2)))=(D.getD i 0+D.getD (i+1) 0*65536)+2^s*(65536*(2^(16-s)*vl (D.drop (i+2)))):=by
  have:=azu hs
  generalize (2:Int)^s=a at*
  generalize (2:Int)^(16-s)=b at*
  grind
 rw[e,Int.add_mul_ediv_left _ _ (by omega),Int.add_mul_emod_self_left]
theorem ant{a b:Nat}(h:a≤b):(65536:Int)^a≤65536^b:=by
 obtain⟨d,rfl⟩:=Nat.exists_eq_add_of_le h
 have h1:(0:Int)<65536^a:=Int.pow_pos (by omega)
 have h2:(0:Int)<65536^d:=Int.pow_pos (by omega)
 have h3:=Int.mul_le_mul_of_nonneg_left (show(1:Int)≤65536^d by omega) (Int.le_of_lt h1)
 rw[Int.mul_one,←Int.pow_add]at h3
 exact h3
theorem aBe(cl:Bool)(A:List Int)(k:Nat)(hA:gd A)(lA:A.length≤1000000)(hk:k≤100000000):
  Con Tryz.prog 216 cl [.sl A.length (qb A),.v (.int .i64 k)] [] (apW (lim (vl A/2^k).toNat)):=by
 refine Con.of_aw Tryz.func216 rfl Tryz.ntmps216 (by simp) (by simp) (by simp) (W.sound ?_)
 show @W Tryz.prog 52 ⟨_⟩ ⟨fun x σ=>@qZ _ _ _ ⟨_⟩ _ ⟨_⟩ x σ⟩ _ _
 have hvk:vl A/2^k=vl A/65536^(k/16)/2^(k % 16):=by
  rw[Int.ediv_ediv_of_nonneg (Int.le_of_lt (Int.pow_pos (by omega))),VW]
 simp(disch:=omega)only[go_sem]
 refine qe (fun h0=>?_) (fun h0=>?_)
 ·simp(disch:=omega)only[go_sem,h0]
  have hz:vl A/2^k=0:=by
   rw[hvk,Int.ediv_eq_zero_of_lt (qP hA)]
   ·simp
   ·refine Int.lt_of_lt_of_le (y0 hA) ?_
    exact ant (by omega)
  rw[hz]
  refine qh [] [] [] [.v (.slice none 0 0)] rfl (by simp(disch:=omega)only[go_sem]) (by simp(disch:=omega)only[go_sem]) (by simp) (by intro _;simp[zb,AV.pu,AV.pu.puL,Ob.pu,qS]) (.inl ⟨by simp[ql],rfl,rfl⟩)
 ·have e16:((k:Int)/16).toNat=k/16:=by omega
  have e17:((A.length:Int)-(k:Int)/16).toNat=(A.drop (k/16)).length:=by simp;omega
  have e18:(A.drop (k/16)).take (A.drop (k/16)).length=A.drop (k/16):=List.take_length
  have hvD:=adl hA (i:=k/16) (by omega)
  have hlD:(A.drop (k/16)).length≤1000000:=by simp;omega
  have hD:=jW hA (k/16)
  simp(disch:=omega)only[go_sem,h0,e16,e17,e18]
  generalize A.drop (k/16)=D at*
  refine⟨by omega,by omega,?_⟩
  refine qi (fun x:Nat×List Int=>[(1,.v (.int .i64 k)),(5,.sl D.length (qb D)),(6,.rf 1 0 x.2.length),(21,.sl D.length (qb D)),(22,.v (.int .i64 D.length)),(23,.v (.int .i64 x.1))])
   (fun x=>[(1,.own 1 (qb x.2))])
   (fun x=>x.1≤D.length∧x.2.length=x.1∧gd x.2∧vl x.2=vl D/2^(k % 16) % 65536^x.1)
   (fun x=>D.length-x.1) (0,[]) ⟨by simp,rfl,Zh,by simp[vl]⟩
   (Le.lst [(1,220000000)] _ _ rfl (by simp(disch:=omega)only[go_sem]) (by simp(disch:=omega)only[go_sem])) ?_
  rintro⟨i,out⟩ ⟨hi,hol,hog,hov⟩
  dsimp only at hi hol hog hov ⊢
  simp(disch:=omega)only[go_sem]
  refine qe (fun h1=>?_) (fun h1=>?_)
  ·have hx:=qJ hD i
   have hy:=qJ hD (i+1)
   have em:min ((k:Int) % 16).toNat 64=k % 16:=by omega
   have hm:=jR (k % 16) (by omega)
   have efd:∀x:Int,x.fdiv (2^(k % 16))=x/2^(k % 16):=fun x=>Int.fdiv_eq_ediv_of_nonneg _ (Int.le_of_lt hm.1)
   have hdig:=aid hD (i:=i) (s:=k % 16) (by omega) (by omega)
   have hnn:∀x:Int,0≤x→0≤x/2^(k % 16):=fun x hx=>Int.ediv_nonneg hx (Int.le_of_lt hm.1)
   have ei:((i:Int)+1).toNat=i+1:=by omega
   have hstep:∀z:Int,z=(D.getD i 0+D.getD (i+1) 0*65536)/2^(k % 16) % 65536→vl (out++[z])=vl D/2^(k % 16) % 65536^(i+1):=by
    intro z hz
    rw[z8,hov,hol,Int.pow_succ,azZ _ _ (Int.pow_pos (by omega)),hdig,hz]
   simp(disch:=omega)only[go_sem,h1]
   refine⟨by omega,by omega,qe (fun h2=>?_) (fun h2=>?_)⟩
   ·have hn1:=hnn (D.getD i 0+D.getD (i+1) 0*65536) (by omega)
    simp(disch:=omega)only[go_sem,h2,em,efd,ei]
    refine⟨by omega,by omega,by omega,by omega,qc (i+1,out++[(D.getD i 0+D.getD (i+1) 0*65536)/2^(k % 16) % 65536]) [(1,500000000)] ⟨by show i+1≤_;omega,by simp[hol],qE.2 ⟨hog,zH.2 (by omega)⟩,hstep _ rfl⟩ (by show D.length-(i+1)<D.length-i;omega) rfl (by simp(disch:=omega)only[go_sem,List.length_append];try omega) (by simp(disch:=omega)only[go_sem])⟩
   ·have hn1:=hnn (D.getD i 0) (by omega)
    simp(disch:=omega)only[go_sem,h2,em,efd]
    have hy0:D.getD (i+1) 0=0:=by rw[List.getD_eq_getElem?_getD,List.getElem?_eq_none (by omega)];rfl
    refine⟨by omega,by omega,qc (i+1,out++[D.getD i 0/2^(k % 16) % 65536]) [(1,500000000)] ⟨by show i+1≤_;omega,by simp[hol],qE.2 ⟨hog,zH.2 (by omega)⟩,hstep _ (by rw[hy0];simp)⟩ (by show D.length-(i+1)<D.length-i;omega) rfl (by simp(disch:=omega)only[go_sem,List.length_append];try omega) (by simp(disch:=omega)only[go_sem])⟩
  ·simp(disch:=omega)only[go_sem,h1]
   have hiD:i=D.length:=by omega
   subst hiD
   have hV:vl out=vl A/2^k:=by
    rw[hov,hvk,hvD]
    refine Int.emod_eq_of_lt (Int.ediv_nonneg (qP hD) (Int.le_of_lt (jR (k % 16) (by omega)).1)) ?_
    exact Int.lt_of_le_of_lt (Int.ediv_le_self _ (qP hD)) (y0 hD)
   refine qY false [1] (zZ out (by omega)) (by simp(disch:=omega)only[go_sem]) (by simp(disch:=omega)only[go_sem]) rfl (qT (z:=1) (cs:=qb out) (by simp(disch:=omega)only[go_sem]) (by simp(disch:=omega)only[go_sem])) (by intro n hn;exact⟨_,List.mem_singleton.2 rfl,by rw[List.mem_singleton.1 hn];rfl⟩) ?_
   rintro r hs bs ⟨rfl,rfl,rfl⟩ _
   refine⟨by simp[qQ],?_⟩
   simp(disch:=omega)only[go_sem]
   obtain⟨z,hz⟩:=zz out
   have hc:=zN hog
   rw[hV]at hc
   rw[hc]at hz ⊢
   refine qh [(0,1)] [.own 1 (qb out)] [] [.rf 0 0 (lim (vl A/2^k).toNat).length] rfl (by simp(disch:=omega)only[go_sem]) (by simp(disch:=omega)only[go_sem]) (by simp) (by intro _;simp[zb,AV.pu,AV.pu.puL,Ob.pu,qS]) (.inr ⟨List.replicate z 0,rfl,by rw[←hz]⟩)
end Go.Ab
namespace Go.Ab
open Go Go.Proofs
theorem drop_set{l:List Int}{i:Nat}(h:i<l.length)(z:Int):(l.set i z).drop i=z::l.drop (i+1):=by
 rw[List.drop_eq_getElem_cons (by simpa using h)]
 simp[List.drop_set]
theorem aBf(cl:Bool)(A:List Int)(d:Nat)(hA:gd A)(lA:A.length≤1000000)(hd:0<d)(hd2:d<65536):
  Con Tryz.prog 295 cl [.sl A.length (qb A),.v (.int .i64 d)] [] (fun r hs bs=>∃zs,r=.tu [.rf 0 0 (lim (vl A/d).toNat).length,.v (.int .i64 (vl A % d))]∧hs=[.own 1 (qb (lim (vl A/d).toNat++zs))]):=by
 refine Con.of_aw Tryz.func295 rfl Tryz.ntmps295 (by simp) (by simp) (by simp) (W.sound ?_)
 show @W Tryz.prog 38 ⟨_⟩ ⟨fun x σ=>@qZ _ _ _ ⟨_⟩ _ ⟨_⟩ x σ⟩ _ _
 simp(disch:=omega)only[go_sem]
 refine⟨by omega,?_⟩
 refine qi (fun x:Nat×List Int×Int=>[(0,.sl A.length (qb A)),(1,.v (.int .i64 d)),(6,.rf 130000000 0 A.length),(7,.v (.int .i64 x.2.2)),(8,.v (.int .i64 ((x.1:Int)-1)))])
  (fun x=>[(130000000,.own 1 (qb x.2.1))])
  (fun x=>x.1≤A.length∧x.2.1.length=A.length∧gd x.2.1∧x.2.2=vl (A.drop x.1) % d∧vl (x.2.1.drop x.1)=vl (A.drop x.1)/d)
  (fun x=>x.1) (A.length,List.replicate A.length 0,0) ⟨by simp,by simp,zg _,by simp[vl],by simp[vl]⟩
  (Le.lst [] _ _ rfl (by simp(disch:=omega)only[go_sem];try omega) (by simp(disch:=omega)only[go_sem])) ?_
 rintro⟨m,out,rest⟩ ⟨hm,hol,hog,hr,hov⟩
 dsimp only at hm hol hog hr hov ⊢
 simp(disch:=omega)only[go_sem]
 refine qe (fun h1=>?_) (fun h1=>?_)
 ·obtain⟨i,rfl⟩:∃i,m=i+1:=⟨m-1,by omega⟩
  have e1:((i+1:Nat):Int)-1=(i:Nat):=by omega
  have hx:=qJ hA i
  have hr2:0≤rest∧rest<d:=by rw[hr];exact⟨Int.emod_nonneg _ (by omega),Int.emod_lt_of_pos _ (by omega)⟩
  generalize hq:rest*65536+A.getD i 0=q
  have hq0:0≤q:=by omega
  have hqd:0≤q/d∧q/d<65536:=⟨Int.ediv_nonneg hq0 (by omega),Int.ediv_lt_of_lt_mul (by omega) (by omega)⟩
  have hqm:0≤q % d∧q % d<d:=⟨Int.emod_nonneg _ (by omega),Int.emod_lt_of_pos _ (by omega)⟩
  simp(disch:=omega)only[go_sem,h1,e1,hq]
  refine⟨by omega,by omega,by omega,by omega,by omega,by omega,qc (i,out.set i (q/d),q % d) [] ⟨by show i≤_;omega,by simp[hol],yk hog hqd,?_,?_⟩ (by show i<i+1;omega) rfl (by simp(disch:=omega)only[go_sem]) (by simp(disch:=omega)only[go_sem])⟩
  ·show q % d=vl (A.drop i) % d
   rw[zq (l:=A) (i:=i) (by omega),←hq,hr]
   have h3:=Int.emod_add_mul_ediv (vl (A.drop (i+1))) d
   rw[show A.getD i 0+65536*vl (A.drop (i+1))=vl (A.drop (i+1)) % d*65536+A.getD i 0+d*(65536*(vl (A.drop (i+1))/d)) by grind,Int.add_mul_emod_self_left]
  ·show vl ((out.set i (q/d)).drop i)=vl (A.drop i)/d
   rw[drop_set (by omega),vl,hov,zq (l:=A) (i:=i) (by omega),←hq,hr]
   have h3:=Int.emod_add_mul_ediv (vl (A.drop (i+1))) d
   rw[show A.getD i 0+65536*vl (A.drop (i+1))=vl (A.drop (i+1)) % d*65536+A.getD i 0+d*(65536*(vl (A.drop (i+1))/d)) by grind,Int.add_mul_ediv_left _ _ (by omega)]
 ·simp(disch:=omega)only[go_sem,h1]
  have:m=0:=by omega
  subst this
  rw[List.drop_zero,List.drop_zero]at hov
  rw[List.drop_zero]at hr
  rw[←hol]
  refine qY false [130000000] (zZ out (by omega)) (by simp(disch:=omega)only[go_sem]) (by simp(disch:=omega)only[go_sem]) rfl (qT (z:=1) (cs:=qb out) (by simp(disch:=omega)only[go_sem]) (by simp(disch:=omega)only[go_sem])) (by intro n hn;exact⟨_,List.mem_singleton.2 rfl,by rw[List.mem_singleton.1 hn];rfl⟩) ?_
  rintro r hs bs ⟨rfl,rfl,rfl⟩ _
  refine⟨by simp[qQ],?_⟩
  simp(disch:=omega)only[go_sem]
  obtain⟨z,hz⟩:=zz out
  have hc:=zN hog
  rw[hov]at hc
  rw[hc]at hz ⊢
  rw[hr]
  refine qh [(0,130000000)] [.own 1 (qb out)] [] [.rf 0 0 (lim (vl A/d).toNat).length,.v (.int .i64 (vl A % d))] rfl (by simp(disch:=omega)only[go_sem]) (by simp(disch:=omega)only[go_sem]) (by simp) (by intro _;simp[zb,AV.pu,AV.pu.puL,Ob.pu,qS]) ⟨List.replicate z 0,rfl,by rw[←hz]⟩
end Go.Ab
namespace Go.Ab
open Go Go.Proofs
theorem aA5(cl:Bool)(A B:List Int)(hA:gd A)(hB:gd B)(lA:A.length≤2000000)(lB:B.length≤2000000):
  Con Tryz.prog 219 cl [.sl A.length (qb A),.sl B.length (qb B)] [] (apW (lim (vl A+vl B).toNat)):=by
 refine Con.of_aw Tryz.func219 rfl Tryz.ntmps219 (by simp) (by simp) (by simp) (W.sound ?_)
 show @W Tryz.prog 53 ⟨_⟩ ⟨fun x σ=>@qZ _ _ _ ⟨_⟩ _ ⟨_⟩ x σ⟩ _ _
 simp(disch:=omega)only[go_sem]
 refine qe (fun h0=>?_) (fun h0=>?_)
 all_goals simp(disch:=omega)only[go_sem,h0]
 ·revert A B
  intro Y X hY hX lY lX h0'
  have h00:Y.length≤X.length:=by omega
  have hcm:vl Y+vl X=vl X+vl Y:=Int.add_comm _ _
  refine⟨by omega,?_⟩
  refine qi (fun x:Nat×List Int×Int=>[(1,.sl Y.length (qb Y)),(5,.rf 1 0 x.2.1.length),(6,.v (.int .i64 x.2.2)),(20,.sl X.length (qb X)),(21,.v (.int .i64 X.length)),(22,.v (.int .i64 x.1))])
   (fun x=>[(1,.own 1 (qb x.2.1))])
   (fun x=>x.1≤X.length∧x.2.1.length=x.1∧gd x.2.1∧(0≤x.2.2∧x.2.2≤1)∧vl x.2.1+65536^x.1*x.2.2=vl (X.take x.1)+vl (Y.take x.1))
   (fun x=>X.length-x.1) (0,[],0) ⟨by simp,rfl,Zh,by simp,by simp[vl]⟩
   (Le.lst [(1,210000000)] _ _ rfl (by simp(disch:=omega)only[go_sem]) (by simp(disch:=omega)only[go_sem])) ?_
  rintro⟨i,out,cy⟩ ⟨hi,hol,hog,hcy,hov⟩
  dsimp only at hi hol hog hcy hov ⊢
  simp(disch:=omega)only[go_sem]
  refine qe (fun h1=>?_) (fun h1=>?_)
  ·have hx:=qJ hX i
   have hy:=qJ hY i
   have hstep:∀q:Int,q=cy+X.getD i 0+Y.getD i 0→vl (out++[q % 65536])+65536^(i+1)*(q/65536)=vl (X.take (i+1))+vl (Y.take (i+1)):=by
    intro q hq
    rw[z8,qM,qM,hol,Int.pow_succ]
    have e3:q % 65536+65536*(q/65536)=q:=Int.emod_add_mul_ediv q 65536
    generalize (65536:Int)^i=Pi at*
    grind
   have hyz:¬i<Y.length→Y.getD i 0=0:=fun h=>by rw[List.getD_eq_getElem?_getD,List.getElem?_eq_none (by omega)];rfl
   simp(disch:=omega)only[go_sem,h1]
   refine⟨by omega,by omega,qe (fun h2=>?_) (fun h2=>?_)⟩
   ·simp(disch:=omega)only[go_sem,h2]
    generalize hq:cy+X.getD i 0+Y.getD i 0=q
    refine⟨by omega,by omega,by omega,qc (i+1,out++[q % 65536],q/65536) [(1,460000000)] ⟨by show i+1≤_;omega,by simp[hol],qE.2 ⟨hog,zH.2 (by omega)⟩,by show 0≤q/65536∧q/65536≤1;omega,hstep q hq.symm⟩ (by show X.length-(i+1)<X.length-i;omega) rfl (by simp(disch:=omega)only[go_sem,List.length_append];try omega) (by simp(disch:=omega)only[go_sem])⟩
   ·simp(disch:=omega)only[go_sem,h2]
    have hy0:=hyz (by omega)
    generalize hq:cy+X.getD i 0=q
    refine⟨by omega,qc (i+1,out++[q % 65536],q/65536) [(1,460000000)] ⟨by show i+1≤_;omega,by simp[hol],qE.2 ⟨hog,zH.2 (by omega)⟩,by show 0≤q/65536∧q/65536≤1;omega,hstep q (by omega)⟩ (by show X.length-(i+1)<X.length-i;omega) rfl (by simp(disch:=omega)only[go_sem,List.length_append];try omega) (by simp(disch:=omega)only[go_sem])⟩
  ·simp(disch:=omega)only[go_sem,h1]
   have hiA:i=X.length:=by omega
   subst hiA
   rw[List.take_length,List.take_of_length_le h00]at hov
   have hov2:vl (out++[cy])=vl X+vl Y:=by rw[z8,hol];exact hov
   have hog2:gd (out++[cy]):=qE.2 ⟨hog,zH.2 (by omega)⟩
   refine⟨by omega,?_⟩
   have hl2:out.length+1=(out++[cy]).length:=by simp
   rw[hl2]
   refine qY false [530000000] (zZ (out++[cy]) (by simp;omega)) (by simp(disch:=omega)only[go_sem]) (by simp(disch:=omega)only[go_sem]) rfl (qT (z:=1) (cs:=qb (out++[cy])) (by simp(disch:=omega)only[go_sem]) (by simp(disch:=omega)only[go_sem])) (by intro n hn;exact⟨_,List.mem_singleton.2 rfl,by rw[List.mem_singleton.1 hn];rfl⟩) ?_
   rintro r hs bs ⟨rfl,rfl,rfl⟩ _
   refine⟨by simp[qQ],?_⟩
   simp(disch:=omega)only[go_sem]
   obtain⟨z,hz⟩:=zz (out++[cy])
   have hc:=zN hog2
   rw[hov2]at hc
   rw[hc]at hz ⊢
   refine qh [(0,530000000)] [.own 1 (qb (out++[cy]))] [] [.rf 0 0 (lim (vl X+vl Y).toNat).length] rfl (by simp(disch:=omega)only[go_sem]) (by simp(disch:=omega)only[go_sem]) (by simp) (by intro _;simp[zb,AV.pu,AV.pu.puL,Ob.pu,qS]) (.inr ⟨List.replicate z 0,by rw[hcm];rfl,by rw[hcm,←hz]⟩)
 ·revert A B
  intro X Y hX hY lX lY h0'
  have h00:Y.length≤X.length:=by omega
  have hcm:vl X+vl Y=vl X+vl Y:=rfl
  refine⟨by omega,?_⟩
  refine qi (fun x:Nat×List Int×Int=>[(1,.sl Y.length (qb Y)),(5,.rf 1 0 x.2.1.length),(6,.v (.int .i64 x.2.2)),(20,.sl X.length (qb X)),(21,.v (.int .i64 X.length)),(22,.v (.int .i64 x.1))])
   (fun x=>[(1,.own 1 (qb x.2.1))])
   (fun x=>x.1≤X.length∧x.2.1.length=x.1∧gd x.2.1∧(0≤x.2.2∧x.2.2≤1)∧vl x.2.1+65536^x.1*x.2.2=vl (X.take x.1)+vl (Y.take x.1))
   (fun x=>X.length-x.1) (0,[],0) ⟨by simp,rfl,Zh,by simp,by simp[vl]⟩
   (Le.lst [(1,210000000)] _ _ rfl (by simp(disch:=omega)only[go_sem]) (by simp(disch:=omega)only[go_sem])) ?_
  rintro⟨i,out,cy⟩ ⟨hi,hol,hog,hcy,hov⟩
  dsimp only at hi hol hog hcy hov ⊢
  simp(disch:=omega)only[go_sem]
  refine qe (fun h1=>?_) (fun h1=>?_)
  ·have hx:=qJ hX i
   have hy:=qJ hY i
   have hstep:∀q:Int,q=cy+X.getD i 0+Y.getD i 0→vl (out++[q % 65536])+65536^(i+1)*(q/65536)=vl (X.take (i+1))+vl (Y.take (i+1)):=by
    intro q hq
    rw[z8,qM,qM,hol,Int.pow_succ]
    have e3:q % 65536+65536*(q/65536)=q:=Int.emod_add_mul_ediv q 65536
    generalize (65536:Int)^i=Pi at*
    grind
   have hyz:¬i<Y.length→Y.getD i 0=0:=fun h=>by rw[List.getD_eq_getElem?_getD,List.getElem?_eq_none (by omega)];rfl
   simp(disch:=omega)only[go_sem,h1]
   refine⟨by omega,by omega,qe (fun h2=>?_) (fun h2=>?_)⟩
   ·simp(disch:=omega)only[go_sem,h2]
    generalize hq:cy+X.getD i 0+Y.getD i 0=q
    refine⟨by omega,by omega,by omega,qc (i+1,out++[q % 65536],q/65536) [(1,460000000)] ⟨by show i+1≤_;omega,by simp[hol],qE.2 ⟨hog,zH.2 (by omega)⟩,by show 0≤q/65536∧q/65536≤1;omega,hstep q hq.symm⟩ (by show X.length-(i+1)<X.length-i;omega) rfl (by simp(disch:=omega)only[go_sem,List.length_append];try omega) (by simp(disch:=omega)only[go_sem])⟩
   ·simp(disch:=omega)only[go_sem,h2]
    have hy0:=hyz (by omega)
    generalize hq:cy+X.getD i 0=q
    refine⟨by omega,qc (i+1,out++[q % 65536],q/65536) [(1,460000000)] ⟨by show i+1≤_;omega,by simp[hol],qE.2 ⟨hog,zH.2 (by omega)⟩,by show 0≤q/65536∧q/65536≤1;omega,hstep q (by omega)⟩ (by show X.length-(i+1)<X.length-i;omega) rfl (by simp(disch:=omega)only[go_sem,List.length_append];try omega) (by simp(disch:=omega)only[go_sem])⟩
  ·simp(disch:=omega)only[go_sem,h1]
   have hiA:i=X.length:=by omega
   subst hiA
   rw[List.take_length,List.take_of_length_le h00]at hov
   have hov2:vl (out++[cy])=vl X+vl Y:=by rw[z8,hol];exact hov
   have hog2:gd (out++[cy]):=qE.2 ⟨hog,zH.2 (by omega)⟩
   refine⟨by omega,?_⟩
   have hl2:out.length+1=(out++[cy]).length:=by simp
   rw[hl2]
   refine qY false [530000000] (zZ (out++[cy]) (by simp;omega)) (by simp(disch:=omega)only[go_sem]) (by simp(disch:=omega)only[go_sem]) rfl (qT (z:=1) (cs:=qb (out++[cy])) (by simp(disch:=omega)only[go_sem]) (by simp(disch:=omega)only[go_sem])) (by intro n hn;exact⟨_,List.mem_singleton.2 rfl,by rw[List.mem_singleton.1 hn];rfl⟩) ?_
   rintro r hs bs ⟨rfl,rfl,rfl⟩ _
   refine⟨by simp[qQ],?_⟩
   simp(disch:=omega)only[go_sem]
   obtain⟨z,hz⟩:=zz (out++[cy])
   have hc:=zN hog2
   rw[hov2]at hc
   rw[hc]at hz ⊢
   refine qh [(0,530000000)] [.own 1 (qb (out++[cy]))] [] [.rf 0 0 (lim (vl X+vl Y).toNat).length] rfl (by simp(disch:=omega)only[go_sem]) (by simp(disch:=omega)only[go_sem]) (by simp) (by intro _;simp[zb,AV.pu,AV.pu.puL,Ob.pu,qS]) (.inr ⟨List.replicate z 0,by rw[hcm];rfl,by rw[hcm,←hz]⟩)
end Go.Ab
namespace Go.Ab
open Go Go.Proofs
theorem KC(cl:Bool)(xs:List Int)(hl:xs.length≤2^39):Con Tryz.prog 270 cl [.sl xs.length (qb xs)] [] (apW xs):=by
 refine Con.of_aw Tryz.func270 rfl Tryz.ntmps270 (by simp) (by simp) (by simp) (W.sound ?_)
 show @W Tryz.prog 8 ⟨_⟩ ⟨fun x σ=>@qZ _ _ _ ⟨_⟩ _ ⟨_⟩ x σ⟩ _ _
 simp(disch:=omega)only[go_sem]
 refine⟨fun h0=>?_,?_⟩
 ·have:xs=[]:=by cases xs with|nil=>rfl|cons a r=>cases h0
  subst this
  refine qh [] [] [] [.v (.slice none 0 0)] rfl (by simp(disch:=omega)only[go_sem]) (by simp(disch:=omega)only[go_sem]) (by simp) (by intro _;simp[zb,AV.pu]) (.inl ⟨rfl,rfl,rfl⟩)
 ·refine⟨by omega,?_⟩
  refine qh [(0,90000000)] [.own 1 (qb xs)] [] [.rf 0 0 xs.length] rfl (by simp(disch:=omega)only[go_sem]) (by simp(disch:=omega)only[go_sem]) (by simp) (by intro _;simp[zb,AV.pu,Ob.pu,qS]) (.inr ⟨[],rfl,by rw[List.append_nil]⟩)
end Go.Ab
namespace Go.Ab
open Go Go.Proofs
theorem Kv(x:Int):Con Tryz.prog 263 true [.v (.int .i64 x)] [] (isA (.v (.bool false))):=by
 refine Con.of_w (rs:=[.tmp 2]) Tryz.func263 rfl Tryz.ntmps263 rfl ?_
 simp(disch:=omega)only[go_sem]
 exact qz
theorem ao9(x y:Int):Con Tryz.prog 209 true [.v (.int .i64 x),.v (.int .i64 y)] [] (isA (.v (.int .i64 (zm x y)))):=by
 refine Con.of_w (rs:=[.tmp 4]) Tryz.func209 rfl Tryz.ntmps209 rfl ?_
 simp(disch:=omega)only[go_sem]
 refine qk (Kv x) ?_
 simp(disch:=omega)only[go_sem]
 refine qk (Kv y) ?_
 simp(disch:=omega)only[go_sem]
 refine qe (fun h1=>?_) (fun h1=>?_)
 ·simp(disch:=omega)only[go_sem,h1]
  rw[show zm x y= -1 by simp[zm,h1]]
  exact qz
 ·simp(disch:=omega)only[go_sem,h1]
  refine qe (fun h2=>?_) (fun h2=>?_)
  ·simp(disch:=omega)only[go_sem,h2]
   rw[show zm x y=1 by simp[zm,h1,h2]]
   exact qz
  ·simp(disch:=omega)only[go_sem,h2]
   rw[show zm x y=0 by simp[zm,h1,h2]]
   exact qz
theorem zi(a b:Nat)(la:(lim a).length≤2^40)(lb:(lim b).length≤2^40):
  Con Tryz.prog 217 true [.sl (lim (a)).length (qb (lim (a))),.sl (lim (b)).length (qb (lim (b)))] [] (isA (.v (.int .i64 (zm a b)))):=by
 refine Con.of_w (rs:=[.tmp 4]) Tryz.func217 rfl Tryz.ntmps217 rfl ?_
 simp(disch:=omega)only[go_sem]
 refine zt (fun h1=>?_) (fun h1=>?_)
 ·simp(disch:=omega)only[go_sem,h1]
  refine qk (ao9 (lim a).length (lim b).length) ?_
  simp(disch:=omega)only[go_sem]
  have:zm ((lim a).length:Int) ((lim b).length:Int)=zm a b:=by
   unfold zm
   rcases(by omega:(lim a).length<(lim b).length∨(lim b).length<(lim a).length)with h|h
   ·have:=yP h
    rw[if_pos (by omega),if_pos (by omega)]
   ·have:=yP h
    rw[if_neg (by omega),if_pos (by omega),if_neg (by omega),if_pos (by omega)]
  rw[this]
  exact qz
 ·simp(disch:=omega)only[go_sem,h1]
  have hl:(lim a).length=(lim b).length:=by omega
  refine qi (fun k:Nat=>[(0,.sl (lim (a)).length (qb (lim (a)))),(1,.sl (lim (b)).length (qb (lim (b)))),(5,.v (.int .i64 ((k:Int)-1)))])
   (fun _=>[]) (fun k=>k≤(lim a).length∧(lim a).drop k=(lim b).drop k) (fun k=>k) (lim a).length ⟨Nat.le_refl _,by rw[List.drop_length,hl,List.drop_length]⟩ (Le.lst [] _ _ rfl (by simp(disch:=omega)only[go_sem];try omega) (by simp(disch:=omega)only[go_sem])) ?_
  rintro k ⟨hk,hd⟩
  simp(disch:=omega)only[go_sem]
  refine qe (fun h2=>?_) (fun h2=>?_)
  ·obtain⟨i,rfl⟩:∃i,k=i+1:=⟨k-1,by omega⟩
   have ei:((i+1:Nat):Int)-1=(i:Nat):=by omega
   simp(disch:=omega)only[go_sem,h2,ei]
   refine qt rfl [⟨0,[],[]⟩,⟨1,[],[]⟩,⟨2,[],[]⟩,⟨3,[],[]⟩,⟨4,[3],[]⟩,⟨5,[3],[]⟩,⟨6,[3],[]⟩,⟨7,[3],[]⟩,⟨8,[],[]⟩] (by kernel_rfl) ?_
   simp(disch:=omega)only[go_sem,ei]
   refine⟨by omega,by omega,by omega,by omega,?_⟩
   refine zt (fun h3=>?_) (fun h3=>?_)
   ·simp(disch:=omega)only[go_sem,h3]
    refine qt rfl [⟨0,[],[]⟩,⟨1,[],[]⟩,⟨2,[],[]⟩,⟨3,[],[]⟩,⟨4,[3],[]⟩,⟨5,[3],[]⟩,⟨6,[3],[]⟩,⟨7,[3],[]⟩,⟨8,[],[]⟩,⟨9,[],[]⟩] (by kernel_rfl) ?_
    simp(disch:=omega)only[go_sem,ei]
    refine⟨by omega,by omega,by omega,by omega,?_⟩
    refine qk (ao9 ((lim a).getD i 0) ((lim b).getD i 0)) ?_
    simp(disch:=omega)only[go_sem]
    have hva:=qW a
    have hvb:=qW b
    have:zm ((lim a).getD i 0) ((lim b).getD i 0)=zm a b:=by
     unfold zm
     rcases(by omega:(lim a).getD i 0<(lim b).getD i 0∨(lim b).getD i 0<(lim a).getD i 0)with h|h
     ·have:=QA (qX a) (qX b) (by omega) hl hd h
      rw[if_pos (by omega),if_pos (by omega)]
     ·have:=QA (qX b) (qX a) (by omega) hl.symm hd.symm h
      rw[if_neg (by omega),if_pos (by omega),if_neg (by omega),if_pos (by omega)]
    rw[this]
    exact qz
   ·simp(disch:=omega)only[go_sem,h3]
    refine qc i [] ⟨by omega,?_⟩ (by show i<i+1;omega) rfl (by simp(disch:=omega)only[go_sem];try omega) (by simp(disch:=omega)only[go_sem])
    rw[jZ (l:=lim a) (by omega),jZ (l:=lim b) (by omega),h3,hd]
  ·simp(disch:=omega)only[go_sem,h2]
   have:k=0:=by omega
   subst this
   rw[List.drop_zero,List.drop_zero]at hd
   have:=jc hd
   subst this
   rw[show zm (a:Int) (a:Int)=0 by simp[zm]]
   exact qz
end Go.Ab
namespace Go.Proofs
open Go.Shelf
def Tryz.lays29_ren:Go.Shelf.Ren:=⟨fun|29=>300|n=>n,fun|0=>0|3=>3|4=>4|5=>5|22=>244|25=>132|54=>257|n=>n,fun|1=>1|n=>n⟩
theorem Tryz.lays29:Go.Proofs.Lays7.n29 Tryz.prog Tryz.lays29_ren:={
 mixed:=by kernel_rfl
 f29:=Tryz.func300.trans (congrArg some (by kernel_rfl))
 t0:=Tryz.underlying0
 a0:=Tryz.isAgg0
 z0:=Tryz.sizeOf0
 v0:=Tryz.zeroValue0
 i0:=by kernel_rfl
 t3:=Tryz.underlying3
 a3:=Tryz.isAgg3
 z3:=Tryz.sizeOf3
 v3:=Tryz.zeroValue3
 i3:=by kernel_rfl
 t4:=Tryz.underlying4
 a4:=Tryz.isAgg4
 z4:=Tryz.sizeOf4
 v4:=Tryz.zeroValue4
 i4:=by kernel_rfl
 t5:=Tryz.underlying5
 a5:=Tryz.isAgg5
 z5:=Tryz.sizeOf5
 v5:=Tryz.zeroValue5
 i5:=by kernel_rfl
 t22:=Tryz.underlying244
 a22:=Tryz.isAgg244
 z22:=Tryz.sizeOf244
 v22:=Tryz.zeroValue244
 i22:=by kernel_rfl
 t25:=Tryz.underlying132
 a25:=Tryz.isAgg132
 z25:=Tryz.sizeOf132
 v25:=Tryz.zeroValue132
 i25:=by kernel_rfl
 t54:=Tryz.underlying257
 a54:=Tryz.isAgg257
 z54:=Tryz.sizeOf257
 g1:=by kernel_rfl}
def Tryz.lays129_ren:Go.Shelf.Ren:=⟨fun|129=>289|n=>n,fun|53=>244|46=>132|3=>3|4=>4|5=>5|9=>9|n=>n,fun|n=>n⟩
theorem Tryz.lays129:Go.Proofs.Lays.n129 Tryz.prog Tryz.lays129_ren:={
 mixed:=by kernel_rfl
 f129:=Tryz.func289.trans (congrArg some (by kernel_rfl))
 t3:=Tryz.underlying3
 a3:=Tryz.isAgg3
 z3:=Tryz.sizeOf3
 v3:=Tryz.zeroValue3
 t4:=Tryz.underlying4
 a4:=Tryz.isAgg4
 z4:=Tryz.sizeOf4
 v4:=Tryz.zeroValue4
 t5:=Tryz.underlying5
 a5:=Tryz.isAgg5
 z5:=Tryz.sizeOf5
 v5:=Tryz.zeroValue5
 t9:=Tryz.underlying9
 a9:=Tryz.isAgg9
 z9:=Tryz.sizeOf9
 v9:=Tryz.zeroValue9
 t46:=Tryz.underlying132
 a46:=Tryz.isAgg132
 z46:=Tryz.sizeOf132
 v46:=Tryz.zeroValue132
 t53:=Tryz.underlying244
 a53:=Tryz.isAgg244
 z53:=Tryz.sizeOf244
 v53:=Tryz.zeroValue244}
end Go.Proofs
namespace Go.Ab
open Go Go.Proofs
theorem aQ7(x:Nat)(h0:x≠0)(h:x<2^64):Lib.ctz 64 x=tz x:=by
 unfold Lib.ctz
 rw[if_neg h0]
 obtain⟨m,hm,_⟩:=Lib.ctzFrom_spec 64 x (by omega) h
 exact(y3 hm).symm
theorem apw(x:Nat)(h:x<2^64):Lib.bitLen x=bl x:=by
 induction x using Nat.strongRecOn with
 |_ x ih=>
  by_cases h0:x=0
  ·subst h0;rfl
  ·rw[Lib.bitLen_half x h0 h,ih (x/2) (by omega) (by omega),aDd h0,Nat.add_comm]
theorem aA4(x:Nat)(h0:x≠0)(h:x<2^64):Con Tryz.prog 300 true [.v (.int .u64 x)] [] (isA (.v (.int .i64 (tz x)))):=
 Con.scalar (xs:=[.int .u64 x]) fun w hg=>by
  rw[←aQ7 x h0 h]
  exact Any7.bits_TrailingZeros64 Tryz.lays29 x h w fun _ j hj=>(hg 1 Lib.deBruijn64tab rfl).2 j hj
theorem aoN(x:Nat)(h:x<2^64):Con Tryz.prog 289 true [.v (.int .u64 x)] [] (isA (.v (.int .i64 (bl x)))):=
 Con.scalar (xs:=[.int .u64 x]) fun w hg=>by
  rw[←apw x h]
  exact Any.bits_Len64 Tryz.lays129 x w (by omega) (by omega)
theorem aRe(x:Nat)(h0:x≠0)(h:x<2^64):Con Tryz.prog 269 true [.v (.int .u64 x)] [] (isA (.v (.int .i64 (tz x)))):=by
 refine Con.of_w (rs:=[.tmp 2]) Tryz.func269 rfl Tryz.ntmps269 rfl ?_
 simp(disch:=omega)only[go_sem]
 refine qk (aA4 x h0 h) ?_
 simp(disch:=omega)only[go_sem]
 exact qz
theorem aoO(x:Nat)(h:x<2^64):Con Tryz.prog 255 true [.v (.int .u64 x)] [] (isA (.v (.int .i64 (bl x)))):=by
 refine Con.of_w (rs:=[.tmp 2]) Tryz.func255 rfl Tryz.ntmps255 rfl ?_
 simp(disch:=omega)only[go_sem]
 refine qk (aoN x h) ?_
 simp(disch:=omega)only[go_sem]
 exact qz
theorem aiU{x:Int}(h1:0≤x)(h2:x<9223372036854775808):IntKind.u64.wrap x=x:=by
 simp only[IntKind.wrap,IntKind.signed,IntKind.bits]
 simp only[Bool.false_and,Bool.false_eq_true,if_false]
 omega
theorem Jq(m:Nat)(hl:(lim m).length≤2^40):Con Tryz.prog 196 true [.sl (lim (m)).length (qb (lim (m)))] [] (isA (.v (.int .i64 (bl m)))):=by
 refine Con.of_w (rs:=[.tmp 2]) Tryz.func196 rfl Tryz.ntmps196 rfl ?_
 simp(disch:=omega)only[go_sem]
 refine qe (fun h1=>?_) (fun h1=>?_)
 ·simp(disch:=omega)only[go_sem,h1]
  have:m=0:=qF.1 (List.length_eq_zero_iff.1 (by omega))
  subst this
  rw[yA]
  exact qz
 ·have hm:m≠0:=fun e=>by rw[e,ql]at h1;simp at h1
  have e1:((lim m).length:Int).toNat-1=(lim m).length-1:=by omega
  have e2:(((lim m).length:Int)-1).toNat=(lim m).length-1:=by omega
  have ht:=Q9 hm
  have hb:=apu hm
  simp(disch:=omega)only[go_sem,h1,e2,zF]
  generalize m/65536^((lim m).length-1)=q at*
  have e3:((q % 65536:Nat):Int)=(q:Int):=by omega
  simp(disch:=omega)only[go_sem,e3,aiU]
  refine⟨by omega,by omega,?_⟩
  refine qk (aoO q (by omega)) ?_
  simp(disch:=omega)only[go_sem]
  have hq:bl q≤16:=zk.2 (by omega)
  have e4:(16:Int)*(((lim m).length:Int)-1)+(bl q:Int)=(bl m:Int):=by omega
  simp(disch:=omega)only[go_sem,e4]
  exact qz
theorem aDl{m i:Nat}(hz:∀j,j<i→(lim m).getD j 0=0)(hx:(lim m).getD i 0≠0):tz m=16*i+tz (m/65536^i % 65536):=by
 rw[zF]at hx
 have hx':m/65536^i % 65536≠0:=fun e=>hx (by rw[e];rfl)
 obtain⟨a,ha⟩:=Jy hx'
 have hlow:65536^i*(m/65536^i)=m:=by
  have key:∀k,k≤i→m % 65536^k=0:=by
   intro k
   induction k with
   |zero=>intro _;simp[Nat.mod_one]
   |succ k ih=>
    intro hk
    have h1:=ih (by omega)
    have h2:=hz k (by omega)
    rw[zF]at h2
    have h3:m/65536^k % 65536=0:=by omega
    rw[Nat.pow_succ,Nat.mod_mul,h1,h3];omega
  have:=Nat.div_add_mod m (65536^i)
  rw[key i (Nat.le_refl _)]at this
  omega
 generalize hq:m/65536^i=q at*
 have ht:tz (q % 65536)<16:=by
  have h1:=yC hx'
  have:bl (q % 65536)≤16:=zk.2 (by omega)
  omega
 generalize hk:tz (q % 65536)=k at*
 have e16:(65536:Nat)=2^k*(2*2^(15-k)):=by rw[Nat.mul_left_comm,←Nat.pow_add,show k+(15-k)=15 by omega]
 refine y3 (a:=a+2^(15-k)*(q/65536)) ?_
 have hd:=Nat.div_add_mod q 65536
 rw[←hlow,Nat.pow_add,←Q2]
 have h5:q=2^k*(2*(a+2^(15-k)*(q/65536))+1):=by
  have:q=2^k*(2*2^(15-k))*(q/65536)+2^k*(2*a+1):=by rw[←e16,←ha];omega
  generalize q/65536=y at*
  generalize 2^(15-k)=z at*
  grind
 generalize q/65536=y at*
 rw[Nat.mul_assoc,←h5]
theorem acU(m:Nat)(hl:(lim m).length≤2^40):Con Tryz.prog 221 true [.sl (lim (m)).length (qb (lim (m)))] [] (isA (.v (.int .i64 (tz m)))):=by
 refine Con.of_w (rs:=[.tmp 2]) Tryz.func221 rfl Tryz.ntmps221 rfl ?_
 simp(disch:=omega)only[go_sem]
 refine qi (fun i:Nat=>[(0,.sl (lim (m)).length (qb (lim (m)))),(5,.sl (lim (m)).length (qb (lim (m)))),(6,.v (.int .i64 (lim m).length)),(7,.v (.int .i64 i))])
  (fun _=>[]) (fun i=>i≤(lim m).length∧∀j,j<i→(lim m).getD j 0=0) (fun i=>(lim m).length-i) 0 ⟨by omega,fun j hj=>by omega⟩ (Le.lst [] _ _ rfl (by simp(disch:=omega)only[go_sem];try omega) (by simp(disch:=omega)only[go_sem])) ?_
 rintro i ⟨hi,hz⟩
 simp(disch:=omega)only[go_sem]
 refine qe (fun h1=>?_) (fun h1=>?_)
 ·simp(disch:=omega)only[go_sem,h1]
  refine⟨by omega,by omega,zt (fun h2=>?_) (fun h2=>?_)⟩
  ·have ht:=aDl hz h2
   have hx:m/65536^i % 65536≠0:=fun e=>h2 (by rw[zF,e];rfl)
   have ht16:tz (m/65536^i % 65536)<16:=by
    have h1:=yC hx
    have:bl (m/65536^i % 65536)≤16:=zk.2 (by omega)
    omega
   simp(disch:=omega)only[go_sem,h2,zF]
   generalize hq:m/65536^i % 65536=q at*
   have hq6:q<65536:=by omega
   simp(disch:=omega)only[go_sem,aiU]
   refine qk (aRe q hx (by omega)) ?_
   simp(disch:=omega)only[go_sem]
   have e4:(16:Int)*(i:Int)+(tz q:Int)=(tz m:Int):=by omega
   simp(disch:=omega)only[go_sem,e4]
   exact qz
  ·simp(disch:=omega)only[go_sem,h2]
   refine qc (i+1) [] ⟨by omega,fun j hj=>?_⟩ (by show(lim m).length-(i+1)<(lim m).length-i;omega) rfl (by simp(disch:=omega)only[go_sem];try omega) (by simp(disch:=omega)only[go_sem])
   rcases(by omega:j<i∨j=i)with h|h
   ·exact hz j h
   ·subst h;exact h2
 ·simp(disch:=omega)only[go_sem,h1]
  have hm:m=0:=by
   have:=qW m
   have h3:lim m=List.replicate (lim m).length 0:=by
    apply List.ext_getElem
    ·simp
    ·intro j h1 h2
     have:=hz j (by omega)
     rw[List.getD_eq_getElem?_getD,List.getElem?_eq_getElem h1]at this
     simpa using this
   rw[h3,zD]at this
   omega
  subst hm
  rw[ai0]
  exact qz
theorem ZD(m:Nat)(i:Int)(hl:(lim m).length≤2^40)(hi:0≤i)(hi2:i<2^62):Con Tryz.prog 142 true [.sl (lim (m)).length (qb (lim (m))),.v (.int .i64 i)] [] (isA (.v (.int .i64 ((m/2^i.toNat % 2:Nat):Int)))):=by
 refine Con.of_w (rs:=[.tmp 4]) Tryz.func142 rfl Tryz.ntmps142 rfl ?_
 obtain⟨k,rfl⟩:=Int.eq_ofNat_of_zero_le hi
 rw[Int.toNat_natCast]
 have h0:¬((k:Int)<0):=by omega
 have e16:((k:Int)/16).toNat=k/16:=by omega
 have em:min ((k:Int) % 16).toNat 64=k % 16:=by omega
 have hb:=apv m k
 simp(disch:=omega)only[go_sem,h0]
 refine qe (fun h1=>?_) (fun h1=>?_)
 ·simp(disch:=omega)only[go_sem,h1]
  have:m/2^k % 2=0:=by
   rw[←hb]
   have h2:=zF m (k/16)
   rw[List.getD_eq_getElem?_getD,List.getElem?_eq_none (by omega)]at h2
   have h3:m/65536^(k/16) % 65536=0:=by simp only[Option.getD_none]at h2;omega
   rw[h3];simp
  rw[this]
  exact qz
 ·have hx:=qJ (qX m) (k/16)
  have hp:(0:Int)<2^(k % 16):=Int.pow_pos (by omega)
  have efd:∀x:Int,x.fdiv (2^(k % 16))=x/2^(k % 16):=fun x=>Int.fdiv_eq_ediv_of_nonneg _ (Int.le_of_lt hp)
  have hq:0≤(lim m).getD (k/16) 0/2^(k % 16)∧(lim m).getD (k/16) 0/2^(k % 16)<65536:=by
   refine⟨Int.ediv_nonneg hx.1 (Int.le_of_lt hp),Int.lt_of_le_of_lt (Int.ediv_le_self _ hx.1) hx.2⟩
  have hr:(lim m).getD (k/16) 0/2^(k % 16) % 2=((m/2^k % 2:Nat):Int):=by
   rw[←hb,zF]
   generalize m/65536^(k/16) % 65536=x
   rw[Int.natCast_emod,Int.natCast_ediv,Int.natCast_pow];rfl
  simp(disch:=omega)only[go_sem,h1,e16,em,efd,hr]
  refine⟨by omega,by omega,by omega,?_⟩
  exact qz
end Go.Ab
namespace Go.Ab
open Go Go.Proofs
theorem KS(a k:Nat):(vl (lim a)*2^k).toNat=a*2^k:=by
 rw[qW]
 have:((a:Int)*2^k)=((a*2^k:Nat):Int):=by rw[Int.natCast_mul,Int.natCast_pow];rfl
 rw[this,Int.toNat_natCast]
theorem KT(a k:Nat):(vl (lim a)/2^k).toNat=a/2^k:=by
 rw[qW]
 have:((a:Int)/2^k)=((a/2^k:Nat):Int):=by rw[Int.natCast_ediv,Int.natCast_pow];rfl
 rw[this,Int.toNat_natCast]
theorem aDp(a b:Nat):(vl (lim a)*vl (lim b)).toNat=a*b:=by rw[qW,qW,←Int.natCast_mul,Int.toNat_natCast]
theorem aDq(a b:Nat):(vl (lim a)+vl (lim b)).toNat=a+b:=by rw[qW,qW];omega
theorem aDo(a b:Nat):(vl (lim a)-vl (lim b)).toNat=a-b:=by rw[qW,qW];omega
theorem q5(n:Nat)(hn:n<2^63):Con Tryz.prog 189 false [.v (.int .i64 n)] [] (aCU (lim n)):=(aoE false n hn).num
theorem aoz(cl:Bool)(a k:Nat)(la:(lim a).length≤1000000)(hk:k≤100000000):Con Tryz.prog 195 cl [.sl (lim (a)).length (qb (lim (a))),.v (.int .i64 k)] [] (apW (lim (a*2^k))):=by
 have:=aRd cl (lim a) k (qX a) la hk
 rwa[KS]at this
theorem q9(a k:Nat)(la:(lim a).length≤1000000)(hk:k≤100000000):Con Tryz.prog 195 false [.sl (lim (a)).length (qb (lim (a))),.v (.int .i64 k)] [] (aCU (lim (a*2^k))):=(aoz false a k la hk).num
theorem Kz(cl:Bool)(a k:Nat)(la:(lim a).length≤1000000)(hk:k≤100000000):Con Tryz.prog 216 cl [.sl (lim (a)).length (qb (lim (a))),.v (.int .i64 k)] [] (apW (lim (a/2^k))):=by
 have:=aBe cl (lim a) k (qX a) la hk
 rwa[KT]at this
theorem ZB(a k:Nat)(la:(lim a).length≤1000000)(hk:k≤100000000):Con Tryz.prog 216 false [.sl (lim (a)).length (qb (lim (a))),.v (.int .i64 k)] [] (aCU (lim (a/2^k))):=(Kz false a k la hk).num
theorem j9(a b:Nat)(la:(lim a).length≤1000000)(lb:(lim b).length≤1000000):Con Tryz.prog 218 false [.sl (lim (a)).length (qb (lim (a))),.sl (lim (b)).length (qb (lim (b)))] [] (aCU (lim (a*b))):=by
 have:=(aoA false (lim a) (lim b) (qX a) (qX b) la lb).num
 rwa[aDp]at this
theorem j0(a b:Nat)(la:(lim a).length≤2000000)(lb:(lim b).length≤2000000):Con Tryz.prog 219 false [.sl (lim (a)).length (qb (lim (a))),.sl (lim (b)).length (qb (lim (b)))] [] (aCU (lim (a+b))):=by
 have:=(aA5 false (lim a) (lim b) (qX a) (qX b) la lb).num
 rwa[aDq]at this
theorem ao8(a d:Nat)(la:(lim a).length≤1000000)(hd:0<d)(hd2:d<65536):
  Con Tryz.prog 295 false [.sl (lim (a)).length (qb (lim (a))),.v (.int .i64 d)] [] (isA (.tu [.sl (lim (a/d)).length (qb (lim (a/d))),.v (.int .i64 ((a % d:Nat):Int))])):=
 Con.frzA <| (aBf false (lim a) d (qX a) la hd hd2).mono fun r hs bs ⟨zs,h1,h2⟩=>by
  rw[qW]at h1 h2
  rw[h1,h2]
  have e:((a:Int)/(d:Int)).toNat=a/d:=by
   rw[←Int.natCast_ediv,Int.toNat_natCast]
  rw[e]
  show qG _ 6 _=_
  unfold qG
  simp only[List.map_cons,List.map_nil]
  rw[jB (k:=3) (l:=lim (a/d)) (zs:=zs) zd rfl]
  rw[Int.natCast_emod];rfl
end Go.Ab
