/- What the proof of this claim stands on: the walks of the functions and the plain laws, part 3. -/
import Derived.Test.YtjkhfpjccemboaaGreatDoorFnIvSetsLib2
import Derived.Test.YtjkhfpjccemboaaGreatDoorChecked
import Derived.KernelRfl
import Derived.Shelf.Spec.TrailingZeros
import Derived.Shelf.Small.Bits
import Derived.Shelf.Strconv.Itoa0
set_option linter.unusedVariables false
set_option linter.unusedSimpArgs false
namespace Go.Ab
open Go Go.Proofs
def ti1:TI:=⟨Kd.oth,1,8,Value.nilFunc⟩
theorem tf1:qn Tryz.prog 1=some ti1:=by kernel_rfl
def ti2:TI:=⟨Kd.int IntKind.i64,1,8,Value.int IntKind.i64 0⟩
theorem tf2:qn Tryz.prog 2=some ti2:=by kernel_rfl
def ti3:TI:=⟨Kd.int IntKind.i64,1,8,Value.int IntKind.i64 0⟩
theorem tf3:qn Tryz.prog 3=some ti3:=by kernel_rfl
def ti4:TI:=⟨Kd.bool,1,1,Value.bool false⟩
theorem tf4:qn Tryz.prog 4=some ti4:=by kernel_rfl
def ti5:TI:=⟨Kd.int IntKind.u8,1,1,Value.int IntKind.u8 0⟩
theorem tf5:qn Tryz.prog 5=some ti5:=by kernel_rfl
def ti6:TI:=⟨Kd.int IntKind.u8,1,1,Value.int IntKind.u8 0⟩
theorem tf6:qn Tryz.prog 6=some ti6:=by kernel_rfl
def ti7:TI:=⟨Kd.stru [(0,2),(1,3),(2,4),(3,6)],4,24,Value.agg ⟨[Value.int IntKind.i64 0,Value.int IntKind.i64 0,Value.bool false,Value.int IntKind.u8 0]⟩⟩
theorem tf7:qn Tryz.prog 7=some ti7:=by kernel_rfl
def ti8:TI:=⟨Kd.stru [(0,2),(1,3),(2,4),(3,6)],4,24,Value.agg ⟨[Value.int IntKind.i64 0,Value.int IntKind.i64 0,Value.bool false,Value.int IntKind.u8 0]⟩⟩
theorem tf8:qn Tryz.prog 8=some ti8:=by kernel_rfl
def ti9:TI:=⟨Kd.str,1,16,Value.string {data:=⟨[]⟩}⟩
theorem tf9:qn Tryz.prog 9=some ti9:=by kernel_rfl
def aC9:TI:=⟨Kd.str,1,16,Value.string {data:=⟨[]⟩}⟩
theorem bcl:qn Tryz.prog 10=some aC9:=by kernel_rfl
def aC8:TI:=⟨Kd.str,1,16,Value.string {data:=⟨[]⟩}⟩
theorem bck:qn Tryz.prog 11=some aC8:=by kernel_rfl
def aC7:TI:=⟨Kd.int IntKind.u64,1,8,Value.int IntKind.u64 0⟩
theorem bcj:qn Tryz.prog 12=some aC7:=by kernel_rfl
def aC6:TI:=⟨Kd.int IntKind.i32,1,4,Value.int IntKind.i32 0⟩
theorem bci:qn Tryz.prog 21=some aC6:=by kernel_rfl
def adR:TI:=⟨Kd.sli 5,1,24,Value.slice none 0 0⟩
theorem aDb:qn Tryz.prog 22=some adR:=by kernel_rfl
def Jd:TI:=⟨Kd.sli 3,1,24,Value.slice none 0 0⟩
theorem adT:qn Tryz.prog 23=some Jd:=by kernel_rfl
def aqr:TI:=⟨Kd.stru [(0,23)],1,24,Value.agg ⟨[Value.slice none 0 0]⟩⟩
theorem aVP:qn Tryz.prog 24=some aqr:=by kernel_rfl
def K9:TI:=⟨Kd.stru [(0,23)],1,24,Value.agg ⟨[Value.slice none 0 0]⟩⟩
theorem azw:qn Tryz.prog 25=some K9:=by kernel_rfl
def akS:TI:=⟨Kd.stru [(0,4),(1,25)],2,32,Value.agg ⟨[Value.bool false,Value.slice none 0 0]⟩⟩
theorem aSQ:qn Tryz.prog 26=some akS:=by kernel_rfl
def YL:TI:=⟨Kd.stru [(0,4),(1,25)],2,32,Value.agg ⟨[Value.bool false,Value.slice none 0 0]⟩⟩
theorem aqs:qn Tryz.prog 27=some YL:=by kernel_rfl
def akF:TI:=⟨Kd.stru [(0,27),(2,3)],3,40,Value.agg ⟨[Value.bool false,Value.slice none 0 0,Value.int IntKind.i64 0]⟩⟩
theorem aSP:qn Tryz.prog 28=some akF:=by kernel_rfl
def QW:TI:=⟨Kd.stru [(0,27),(2,3)],3,40,Value.agg ⟨[Value.bool false,Value.slice none 0 0,Value.int IntKind.i64 0]⟩⟩
theorem V0:qn Tryz.prog 29=some QW:=by kernel_rfl
def aC5:TI:=⟨Kd.oth,1,8,Value.nilFunc⟩
theorem bch:qn Tryz.prog 31=some aC5:=by kernel_rfl
def aC4:TI:=⟨Kd.oth,1,8,Value.nilFunc⟩
theorem bcg:qn Tryz.prog 33=some aC4:=by kernel_rfl
def aC3:TI:=⟨Kd.oth,1,8,Value.nilFunc⟩
theorem bcf:qn Tryz.prog 34=some aC3:=by kernel_rfl
def aC2:TI:=⟨Kd.oth,1,8,Value.nilFunc⟩
theorem bce:qn Tryz.prog 35=some aC2:=by kernel_rfl
def aC1:TI:=⟨Kd.oth,1,8,Value.nilFunc⟩
theorem bcd:qn Tryz.prog 36=some aC1:=by kernel_rfl
def aC0:TI:=⟨Kd.oth,1,8,Value.nilFunc⟩
theorem bcc:qn Tryz.prog 37=some aC0:=by kernel_rfl
def aCZ:TI:=⟨Kd.oth,1,8,Value.nilFunc⟩
theorem bcb:qn Tryz.prog 38=some aCZ:=by kernel_rfl
def aCY:TI:=⟨Kd.oth,1,8,Value.nilFunc⟩
theorem bca:qn Tryz.prog 39=some aCY:=by kernel_rfl
def adQ:TI:=⟨Kd.sli 29,1,24,Value.slice none 0 0⟩
theorem aDa:qn Tryz.prog 40=some adQ:=by kernel_rfl
def akr:TI:=⟨Kd.stru [(0,3),(1,40)],2,32,Value.agg ⟨[Value.int IntKind.i64 0,Value.slice none 0 0]⟩⟩
theorem aSO:qn Tryz.prog 41=some akr:=by kernel_rfl
def akp:TI:=⟨Kd.stru [(0,3),(1,40)],2,32,Value.agg ⟨[Value.int IntKind.i64 0,Value.slice none 0 0]⟩⟩
theorem aSN:qn Tryz.prog 42=some akp:=by kernel_rfl
def aCX:TI:=⟨Kd.oth,1,8,Value.nilFunc⟩
theorem bb9:qn Tryz.prog 44=some aCX:=by kernel_rfl
def aCW:TI:=⟨Kd.oth,1,8,Value.nilFunc⟩
theorem bb8:qn Tryz.prog 45=some aCW:=by kernel_rfl
def aCV:TI:=⟨Kd.oth,1,8,Value.nilFunc⟩
theorem bb7:qn Tryz.prog 47=some aCV:=by kernel_rfl
def aCU:TI:=⟨Kd.oth,1,8,Value.nilFunc⟩
theorem bb6:qn Tryz.prog 48=some aCU:=by kernel_rfl
def akj:TI:=⟨Kd.stru [(0,29),(3,29)],6,80,Value.agg ⟨[Value.bool false,Value.slice none 0 0,Value.int IntKind.i64 0,Value.bool false,Value.slice none 0 0,Value.int IntKind.i64 0]⟩⟩
theorem aSM:qn Tryz.prog 49=some akj:=by kernel_rfl
def ajn:TI:=⟨Kd.stru [(0,29),(3,29)],6,80,Value.agg ⟨[Value.bool false,Value.slice none 0 0,Value.int IntKind.i64 0,Value.bool false,Value.slice none 0 0,Value.int IntKind.i64 0]⟩⟩
theorem aMk:qn Tryz.prog 50=some ajn:=by kernel_rfl
def aCT:TI:=⟨Kd.oth,1,8,Value.nilFunc⟩
theorem bb5:qn Tryz.prog 52=some aCT:=by kernel_rfl
def aCS:TI:=⟨Kd.oth,1,8,Value.nilFunc⟩
theorem bb4:qn Tryz.prog 54=some aCS:=by kernel_rfl
def aCR:TI:=⟨Kd.oth,1,8,Value.nilFunc⟩
theorem bb3:qn Tryz.prog 55=some aCR:=by kernel_rfl
def aCQ:TI:=⟨Kd.oth,1,8,Value.nilFunc⟩
theorem bb2:qn Tryz.prog 56=some aCQ:=by kernel_rfl
def aCP:TI:=⟨Kd.oth,1,8,Value.nilFunc⟩
theorem bb1:qn Tryz.prog 57=some aCP:=by kernel_rfl
def aCO:TI:=⟨Kd.oth,1,8,Value.nilFunc⟩
theorem bb0:qn Tryz.prog 58=some aCO:=by kernel_rfl
def aCN:TI:=⟨Kd.oth,1,8,Value.nilFunc⟩
theorem bbZ:qn Tryz.prog 59=some aCN:=by kernel_rfl
def aCM:TI:=⟨Kd.oth,1,8,Value.nilFunc⟩
theorem bbY:qn Tryz.prog 60=some aCM:=by kernel_rfl
def aCL:TI:=⟨Kd.oth,1,8,Value.nilFunc⟩
theorem bbX:qn Tryz.prog 61=some aCL:=by kernel_rfl
def aeW:TI:=⟨Kd.stru [(0,3),(1,4),(2,3),(3,3)],4,32,Value.agg ⟨[Value.int IntKind.i64 0,Value.bool false,Value.int IntKind.i64 0,Value.int IntKind.i64 0]⟩⟩
theorem aLz:qn Tryz.prog 62=some aeW:=by kernel_rfl
def adP:TI:=⟨Kd.stru [(0,3),(1,4),(2,3),(3,3)],4,32,Value.agg ⟨[Value.int IntKind.i64 0,Value.bool false,Value.int IntKind.i64 0,Value.int IntKind.i64 0]⟩⟩
theorem aHs:qn Tryz.prog 63=some adP:=by kernel_rfl
def aCK:TI:=⟨Kd.oth,1,8,Value.nilFunc⟩
theorem bbW:qn Tryz.prog 65=some aCK:=by kernel_rfl
def aCJ:TI:=⟨Kd.oth,1,8,Value.nilFunc⟩
theorem bbV:qn Tryz.prog 67=some aCJ:=by kernel_rfl
def aCI:TI:=⟨Kd.oth,1,8,Value.nilFunc⟩
theorem bbU:qn Tryz.prog 68=some aCI:=by kernel_rfl
def aCH:TI:=⟨Kd.oth,1,8,Value.nilFunc⟩
theorem bbT:qn Tryz.prog 69=some aCH:=by kernel_rfl
def aCG:TI:=⟨Kd.oth,1,8,Value.nilFunc⟩
theorem bbS:qn Tryz.prog 70=some aCG:=by kernel_rfl
def aCF:TI:=⟨Kd.oth,1,8,Value.nilFunc⟩
theorem bbR:qn Tryz.prog 71=some aCF:=by kernel_rfl
def aCE:TI:=⟨Kd.oth,1,8,Value.nilFunc⟩
theorem bbQ:qn Tryz.prog 72=some aCE:=by kernel_rfl
def aCD:TI:=⟨Kd.oth,1,8,Value.nilFunc⟩
theorem bbP:qn Tryz.prog 74=some aCD:=by kernel_rfl
def aCC:TI:=⟨Kd.oth,1,8,Value.nilFunc⟩
theorem bbO:qn Tryz.prog 76=some aCC:=by kernel_rfl
def aCB:TI:=⟨Kd.oth,1,8,Value.nilFunc⟩
theorem bbN:qn Tryz.prog 77=some aCB:=by kernel_rfl
def aCA:TI:=⟨Kd.oth,1,8,Value.nilFunc⟩
theorem bbM:qn Tryz.prog 79=some aCA:=by kernel_rfl
def aCz:TI:=⟨Kd.oth,1,8,Value.nilFunc⟩
theorem bbL:qn Tryz.prog 80=some aCz:=by kernel_rfl
def aCy:TI:=⟨Kd.oth,1,8,Value.nilFunc⟩
theorem bbK:qn Tryz.prog 82=some aCy:=by kernel_rfl
def aCx:TI:=⟨Kd.oth,1,8,Value.nilFunc⟩
theorem bbJ:qn Tryz.prog 83=some aCx:=by kernel_rfl
def aCw:TI:=⟨Kd.oth,1,8,Value.nilFunc⟩
theorem bbI:qn Tryz.prog 84=some aCw:=by kernel_rfl
def aCv:TI:=⟨Kd.oth,1,8,Value.nilFunc⟩
theorem bbH:qn Tryz.prog 85=some aCv:=by kernel_rfl
def aCu:TI:=⟨Kd.oth,1,8,Value.nilFunc⟩
theorem bbG:qn Tryz.prog 86=some aCu:=by kernel_rfl
def aCt:TI:=⟨Kd.oth,1,8,Value.nilFunc⟩
theorem bbF:qn Tryz.prog 87=some aCt:=by kernel_rfl
def aCs:TI:=⟨Kd.oth,1,8,Value.nilFunc⟩
theorem bbE:qn Tryz.prog 88=some aCs:=by kernel_rfl
def ajm:TI:=⟨Kd.stru [(0,4),(1,23),(2,3)],3,40,Value.agg ⟨[Value.bool false,Value.slice none 0 0,Value.int IntKind.i64 0]⟩⟩
theorem aMj:qn Tryz.prog 89=some ajm:=by kernel_rfl
def QL:TI:=⟨Kd.stru [(0,4),(1,23),(2,3)],3,40,Value.agg ⟨[Value.bool false,Value.slice none 0 0,Value.int IntKind.i64 0]⟩⟩
theorem YG:qn Tryz.prog 90=some QL:=by kernel_rfl
def aCr:TI:=⟨Kd.oth,1,8,Value.nilFunc⟩
theorem bbD:qn Tryz.prog 92=some aCr:=by kernel_rfl
def aCq:TI:=⟨Kd.oth,1,8,Value.nilFunc⟩
theorem bbC:qn Tryz.prog 93=some aCq:=by kernel_rfl
def aCp:TI:=⟨Kd.oth,1,8,Value.nilFunc⟩
theorem bbB:qn Tryz.prog 94=some aCp:=by kernel_rfl
def aCo:TI:=⟨Kd.oth,1,8,Value.nilFunc⟩
theorem bbA:qn Tryz.prog 95=some aCo:=by kernel_rfl
def aCn:TI:=⟨Kd.oth,1,8,Value.nilFunc⟩
theorem bbz:qn Tryz.prog 97=some aCn:=by kernel_rfl
def aCm:TI:=⟨Kd.oth,1,8,Value.nilFunc⟩
theorem bby:qn Tryz.prog 98=some aCm:=by kernel_rfl
def aCl:TI:=⟨Kd.oth,1,8,Value.nilFunc⟩
theorem bbx:qn Tryz.prog 99=some aCl:=by kernel_rfl
def yC:TI:=⟨Kd.sli 90,1,24,Value.slice none 0 0⟩
theorem JP:qn Tryz.prog 100=some yC:=by kernel_rfl
def Zc:TI:=⟨Kd.stru [(0,3),(1,100)],2,32,Value.agg ⟨[Value.int IntKind.i64 0,Value.slice none 0 0]⟩⟩
theorem azD:qn Tryz.prog 101=some Zc:=by kernel_rfl
def Zb:TI:=⟨Kd.stru [(0,3),(1,100)],2,32,Value.agg ⟨[Value.int IntKind.i64 0,Value.slice none 0 0]⟩⟩
theorem azC:qn Tryz.prog 102=some Zb:=by kernel_rfl
def VZ:TI:=⟨Kd.oth,1,8,Value.nilFunc⟩
theorem aXE:qn Tryz.prog 103=some VZ:=by kernel_rfl
def VY:TI:=⟨Kd.oth,1,8,Value.nilFunc⟩
theorem aXD:qn Tryz.prog 104=some VY:=by kernel_rfl
def VX:TI:=⟨Kd.oth,1,8,Value.nilFunc⟩
theorem aXC:qn Tryz.prog 105=some VX:=by kernel_rfl
def VW:TI:=⟨Kd.oth,1,8,Value.nilFunc⟩
theorem aXB:qn Tryz.prog 106=some VW:=by kernel_rfl
def VV:TI:=⟨Kd.oth,1,8,Value.nilFunc⟩
theorem aXA:qn Tryz.prog 107=some VV:=by kernel_rfl
def VU:TI:=⟨Kd.oth,1,8,Value.nilFunc⟩
theorem aXz:qn Tryz.prog 108=some VU:=by kernel_rfl
def VT:TI:=⟨Kd.oth,1,8,Value.nilFunc⟩
theorem aXy:qn Tryz.prog 109=some VT:=by kernel_rfl
def Za:TI:=⟨Kd.stru [(0,90),(3,90)],6,80,Value.agg ⟨[Value.bool false,Value.slice none 0 0,Value.int IntKind.i64 0,Value.bool false,Value.slice none 0 0,Value.int IntKind.i64 0]⟩⟩
theorem azB:qn Tryz.prog 110=some Za:=by kernel_rfl
def QO:TI:=⟨Kd.stru [(0,90),(3,90)],6,80,Value.agg ⟨[Value.bool false,Value.slice none 0 0,Value.int IntKind.i64 0,Value.bool false,Value.slice none 0 0,Value.int IntKind.i64 0]⟩⟩
theorem anu:qn Tryz.prog 111=some QO:=by kernel_rfl
def VS:TI:=⟨Kd.oth,1,8,Value.nilFunc⟩
theorem aXx:qn Tryz.prog 113=some VS:=by kernel_rfl
def VR:TI:=⟨Kd.oth,1,8,Value.nilFunc⟩
theorem aXw:qn Tryz.prog 114=some VR:=by kernel_rfl
def VQ:TI:=⟨Kd.oth,1,8,Value.nilFunc⟩
theorem aXv:qn Tryz.prog 115=some VQ:=by kernel_rfl
def VP:TI:=⟨Kd.oth,1,8,Value.nilFunc⟩
theorem aXu:qn Tryz.prog 116=some VP:=by kernel_rfl
def VO:TI:=⟨Kd.oth,1,8,Value.nilFunc⟩
theorem aXt:qn Tryz.prog 117=some VO:=by kernel_rfl
def VN:TI:=⟨Kd.oth,1,8,Value.nilFunc⟩
theorem aXs:qn Tryz.prog 118=some VN:=by kernel_rfl
def VM:TI:=⟨Kd.oth,1,8,Value.nilFunc⟩
theorem aXr:qn Tryz.prog 119=some VM:=by kernel_rfl
def VL:TI:=⟨Kd.oth,1,8,Value.nilFunc⟩
theorem aXq:qn Tryz.prog 120=some VL:=by kernel_rfl
def VK:TI:=⟨Kd.oth,1,8,Value.nilFunc⟩
theorem aXp:qn Tryz.prog 121=some VK:=by kernel_rfl
def VJ:TI:=⟨Kd.oth,1,8,Value.nilFunc⟩
theorem aXo:qn Tryz.prog 122=some VJ:=by kernel_rfl
def VI:TI:=⟨Kd.oth,1,8,Value.nilFunc⟩
theorem aXn:qn Tryz.prog 123=some VI:=by kernel_rfl
def VH:TI:=⟨Kd.oth,1,8,Value.nilFunc⟩
theorem aXm:qn Tryz.prog 124=some VH:=by kernel_rfl
def VG:TI:=⟨Kd.oth,1,8,Value.nilFunc⟩
theorem aXl:qn Tryz.prog 125=some VG:=by kernel_rfl
def VF:TI:=⟨Kd.oth,1,8,Value.nilFunc⟩
theorem aXk:qn Tryz.prog 126=some VF:=by kernel_rfl
def VE:TI:=⟨Kd.oth,1,8,Value.nilFunc⟩
theorem aXj:qn Tryz.prog 127=some VE:=by kernel_rfl
def VD:TI:=⟨Kd.oth,1,8,Value.nilFunc⟩
theorem aXi:qn Tryz.prog 128=some VD:=by kernel_rfl
def VC:TI:=⟨Kd.oth,1,8,Value.nilFunc⟩
theorem aXh:qn Tryz.prog 129=some VC:=by kernel_rfl
def VB:TI:=⟨Kd.oth,1,8,Value.nilFunc⟩
theorem aXg:qn Tryz.prog 130=some VB:=by kernel_rfl
def VA:TI:=⟨Kd.oth,1,8,Value.nilFunc⟩
theorem aXf:qn Tryz.prog 131=some VA:=by kernel_rfl
def Vz:TI:=⟨Kd.int IntKind.u64,1,8,Value.int IntKind.u64 0⟩
theorem aXe:qn Tryz.prog 132=some Vz:=by kernel_rfl
def Vy:TI:=⟨Kd.oth,1,8,Value.nilFunc⟩
theorem aXd:qn Tryz.prog 133=some Vy:=by kernel_rfl
def Vx:TI:=⟨Kd.oth,1,8,Value.nilFunc⟩
theorem aXc:qn Tryz.prog 135=some Vx:=by kernel_rfl
def Vw:TI:=⟨Kd.oth,1,8,Value.nilFunc⟩
theorem aXb:qn Tryz.prog 136=some Vw:=by kernel_rfl
def Vv:TI:=⟨Kd.oth,1,8,Value.nilFunc⟩
theorem aXa:qn Tryz.prog 137=some Vv:=by kernel_rfl
def Vu:TI:=⟨Kd.oth,1,8,Value.nilFunc⟩
theorem aW9:qn Tryz.prog 138=some Vu:=by kernel_rfl
def Vt:TI:=⟨Kd.oth,1,8,Value.nilFunc⟩
theorem aW8:qn Tryz.prog 139=some Vt:=by kernel_rfl
def Vs:TI:=⟨Kd.oth,1,8,Value.nilFunc⟩
theorem aW7:qn Tryz.prog 140=some Vs:=by kernel_rfl
def Vr:TI:=⟨Kd.oth,1,8,Value.nilFunc⟩
theorem aW6:qn Tryz.prog 141=some Vr:=by kernel_rfl
def QN:TI:=⟨Kd.stru [(0,22),(1,3),(2,3)],3,40,Value.agg ⟨[Value.slice none 0 0,Value.int IntKind.i64 0,Value.int IntKind.i64 0]⟩⟩
theorem ant:qn Tryz.prog 142=some QN:=by kernel_rfl
def QM:TI:=⟨Kd.stru [(0,22),(1,3),(2,3)],3,40,Value.agg ⟨[Value.slice none 0 0,Value.int IntKind.i64 0,Value.int IntKind.i64 0]⟩⟩
theorem ans:qn Tryz.prog 143=some QM:=by kernel_rfl
def Vq:TI:=⟨Kd.oth,1,8,Value.nilFunc⟩
theorem aW5:qn Tryz.prog 144=some Vq:=by kernel_rfl
def Vp:TI:=⟨Kd.oth,1,8,Value.nilFunc⟩
theorem aW4:qn Tryz.prog 145=some Vp:=by kernel_rfl
def Vo:TI:=⟨Kd.oth,1,8,Value.nilFunc⟩
theorem aW3:qn Tryz.prog 146=some Vo:=by kernel_rfl
def Vn:TI:=⟨Kd.oth,1,8,Value.nilFunc⟩
theorem aW2:qn Tryz.prog 147=some Vn:=by kernel_rfl
def Vm:TI:=⟨Kd.oth,1,8,Value.nilFunc⟩
theorem aW1:qn Tryz.prog 148=some Vm:=by kernel_rfl
def Vl:TI:=⟨Kd.oth,1,8,Value.nilFunc⟩
theorem aW0:qn Tryz.prog 150=some Vl:=by kernel_rfl
def Vk:TI:=⟨Kd.oth,1,8,Value.nilFunc⟩
theorem aWZ:qn Tryz.prog 152=some Vk:=by kernel_rfl
def Vj:TI:=⟨Kd.oth,1,8,Value.nilFunc⟩
theorem aWY:qn Tryz.prog 153=some Vj:=by kernel_rfl
def Vi:TI:=⟨Kd.oth,1,8,Value.nilFunc⟩
theorem aWX:qn Tryz.prog 154=some Vi:=by kernel_rfl
def yQ:TI:=⟨Kd.sli 111,1,24,Value.slice none 0 0⟩
theorem V2:qn Tryz.prog 155=some yQ:=by kernel_rfl
def Q9:TI:=⟨Kd.stru [(0,3),(1,155)],2,32,Value.agg ⟨[Value.int IntKind.i64 0,Value.slice none 0 0]⟩⟩
theorem azA:qn Tryz.prog 156=some Q9:=by kernel_rfl
def Q8:TI:=⟨Kd.stru [(0,3),(1,155)],2,32,Value.agg ⟨[Value.int IntKind.i64 0,Value.slice none 0 0]⟩⟩
theorem azz:qn Tryz.prog 157=some Q8:=by kernel_rfl
def Vh:TI:=⟨Kd.oth,1,8,Value.nilFunc⟩
theorem aWW:qn Tryz.prog 158=some Vh:=by kernel_rfl
def yP:TI:=⟨Kd.sli 50,1,24,Value.slice none 0 0⟩
theorem V1:qn Tryz.prog 159=some yP:=by kernel_rfl
def Q7:TI:=⟨Kd.stru [(0,3),(1,159)],2,32,Value.agg ⟨[Value.int IntKind.i64 0,Value.slice none 0 0]⟩⟩
theorem azy:qn Tryz.prog 160=some Q7:=by kernel_rfl
def Q6:TI:=⟨Kd.stru [(0,3),(1,159)],2,32,Value.agg ⟨[Value.int IntKind.i64 0,Value.slice none 0 0]⟩⟩
theorem azx:qn Tryz.prog 161=some Q6:=by kernel_rfl
def Vg:TI:=⟨Kd.oth,1,8,Value.nilFunc⟩
theorem aWV:qn Tryz.prog 163=some Vg:=by kernel_rfl
def Vf:TI:=⟨Kd.oth,1,8,Value.nilFunc⟩
theorem aWU:qn Tryz.prog 164=some Vf:=by kernel_rfl
def Ve:TI:=⟨Kd.oth,1,8,Value.nilFunc⟩
theorem aWT:qn Tryz.prog 165=some Ve:=by kernel_rfl
def Vd:TI:=⟨Kd.oth,1,8,Value.nilFunc⟩
theorem aWS:qn Tryz.prog 166=some Vd:=by kernel_rfl
def Vc:TI:=⟨Kd.oth,1,8,Value.nilFunc⟩
theorem aWR:qn Tryz.prog 167=some Vc:=by kernel_rfl
def Vb:TI:=⟨Kd.oth,1,8,Value.nilFunc⟩
theorem aWQ:qn Tryz.prog 169=some Vb:=by kernel_rfl
def Va:TI:=⟨Kd.oth,1,8,Value.nilFunc⟩
theorem aWP:qn Tryz.prog 170=some Va:=by kernel_rfl
def X9:TI:=⟨Kd.oth,1,8,Value.nilFunc⟩
theorem aWO:qn Tryz.prog 171=some X9:=by kernel_rfl
def X8:TI:=⟨Kd.oth,1,8,Value.nilFunc⟩
theorem aWN:qn Tryz.prog 172=some X8:=by kernel_rfl
def X7:TI:=⟨Kd.oth,1,8,Value.nilFunc⟩
theorem aWM:qn Tryz.prog 173=some X7:=by kernel_rfl
def X6:TI:=⟨Kd.oth,1,8,Value.nilFunc⟩
theorem aWL:qn Tryz.prog 174=some X6:=by kernel_rfl
def X5:TI:=⟨Kd.oth,1,8,Value.nilFunc⟩
theorem aWK:qn Tryz.prog 176=some X5:=by kernel_rfl
def X4:TI:=⟨Kd.oth,1,8,Value.nilFunc⟩
theorem aWJ:qn Tryz.prog 177=some X4:=by kernel_rfl
def X3:TI:=⟨Kd.oth,1,8,Value.nilFunc⟩
theorem aWI:qn Tryz.prog 178=some X3:=by kernel_rfl
def X2:TI:=⟨Kd.oth,1,8,Value.nilFunc⟩
theorem aWH:qn Tryz.prog 179=some X2:=by kernel_rfl
def X1:TI:=⟨Kd.oth,1,8,Value.nilFunc⟩
theorem aWG:qn Tryz.prog 180=some X1:=by kernel_rfl
def X0:TI:=⟨Kd.oth,1,8,Value.nilFunc⟩
theorem aWF:qn Tryz.prog 181=some X0:=by kernel_rfl
def XZ:TI:=⟨Kd.oth,1,8,Value.nilFunc⟩
theorem aWE:qn Tryz.prog 183=some XZ:=by kernel_rfl
def XY:TI:=⟨Kd.oth,1,8,Value.nilFunc⟩
theorem aWD:qn Tryz.prog 184=some XY:=by kernel_rfl
def XX:TI:=⟨Kd.sli 63,1,24,Value.slice none 0 0⟩
theorem aMm:qn Tryz.prog 185=some XX:=by kernel_rfl
def XW:TI:=⟨Kd.oth,1,8,Value.nilFunc⟩
theorem aWC:qn Tryz.prog 186=some XW:=by kernel_rfl
def XV:TI:=⟨Kd.oth,1,8,Value.nilFunc⟩
theorem aWB:qn Tryz.prog 187=some XV:=by kernel_rfl
def XU:TI:=⟨Kd.oth,1,8,Value.nilFunc⟩
theorem aWA:qn Tryz.prog 188=some XU:=by kernel_rfl
def XT:TI:=⟨Kd.oth,1,8,Value.nilFunc⟩
theorem aWz:qn Tryz.prog 189=some XT:=by kernel_rfl
def XS:TI:=⟨Kd.oth,1,8,Value.nilFunc⟩
theorem aWy:qn Tryz.prog 190=some XS:=by kernel_rfl
def XR:TI:=⟨Kd.oth,1,8,Value.nilFunc⟩
theorem aWx:qn Tryz.prog 191=some XR:=by kernel_rfl
def XQ:TI:=⟨Kd.oth,1,8,Value.nilFunc⟩
theorem aWw:qn Tryz.prog 192=some XQ:=by kernel_rfl
def XP:TI:=⟨Kd.oth,1,8,Value.nilFunc⟩
theorem aWv:qn Tryz.prog 193=some XP:=by kernel_rfl
def XO:TI:=⟨Kd.oth,1,8,Value.nilFunc⟩
theorem aWu:qn Tryz.prog 194=some XO:=by kernel_rfl
def XN:TI:=⟨Kd.oth,1,8,Value.nilFunc⟩
theorem aWt:qn Tryz.prog 195=some XN:=by kernel_rfl
def XM:TI:=⟨Kd.oth,1,8,Value.nilFunc⟩
theorem aWs:qn Tryz.prog 196=some XM:=by kernel_rfl
def XL:TI:=⟨Kd.oth,1,8,Value.nilFunc⟩
theorem aWr:qn Tryz.prog 197=some XL:=by kernel_rfl
def XK:TI:=⟨Kd.oth,1,8,Value.nilFunc⟩
theorem aWq:qn Tryz.prog 198=some XK:=by kernel_rfl
def XJ:TI:=⟨Kd.oth,1,8,Value.nilFunc⟩
theorem aWp:qn Tryz.prog 199=some XJ:=by kernel_rfl
def XI:TI:=⟨Kd.oth,1,8,Value.nilFunc⟩
theorem aWo:qn Tryz.prog 200=some XI:=by kernel_rfl
def XH:TI:=⟨Kd.oth,1,8,Value.nilFunc⟩
theorem aWn:qn Tryz.prog 201=some XH:=by kernel_rfl
def XG:TI:=⟨Kd.oth,1,8,Value.nilFunc⟩
theorem aWm:qn Tryz.prog 202=some XG:=by kernel_rfl
def XF:TI:=⟨Kd.oth,1,8,Value.nilFunc⟩
theorem aWl:qn Tryz.prog 203=some XF:=by kernel_rfl
def XE:TI:=⟨Kd.oth,1,8,Value.nilFunc⟩
theorem aWk:qn Tryz.prog 204=some XE:=by kernel_rfl
def XD:TI:=⟨Kd.oth,1,8,Value.nilFunc⟩
theorem aWj:qn Tryz.prog 205=some XD:=by kernel_rfl
def XC:TI:=⟨Kd.oth,1,8,Value.nilFunc⟩
theorem aWi:qn Tryz.prog 206=some XC:=by kernel_rfl
def XB:TI:=⟨Kd.oth,1,8,Value.nilFunc⟩
theorem aWh:qn Tryz.prog 208=some XB:=by kernel_rfl
def XA:TI:=⟨Kd.oth,1,8,Value.nilFunc⟩
theorem aWg:qn Tryz.prog 209=some XA:=by kernel_rfl
def Xz:TI:=⟨Kd.oth,1,8,Value.nilFunc⟩
theorem aWf:qn Tryz.prog 210=some Xz:=by kernel_rfl
def Xy:TI:=⟨Kd.oth,1,8,Value.nilFunc⟩
theorem aWe:qn Tryz.prog 211=some Xy:=by kernel_rfl
def Xx:TI:=⟨Kd.oth,1,8,Value.nilFunc⟩
theorem aWd:qn Tryz.prog 212=some Xx:=by kernel_rfl
def Xw:TI:=⟨Kd.oth,1,8,Value.nilFunc⟩
theorem aWc:qn Tryz.prog 213=some Xw:=by kernel_rfl
def Xv:TI:=⟨Kd.oth,1,8,Value.nilFunc⟩
theorem aWb:qn Tryz.prog 214=some Xv:=by kernel_rfl
def Xu:TI:=⟨Kd.oth,1,8,Value.nilFunc⟩
theorem aWa:qn Tryz.prog 215=some Xu:=by kernel_rfl
def Xt:TI:=⟨Kd.oth,1,8,Value.nilFunc⟩
theorem aV9:qn Tryz.prog 216=some Xt:=by kernel_rfl
def Xs:TI:=⟨Kd.oth,1,8,Value.nilFunc⟩
theorem aV8:qn Tryz.prog 217=some Xs:=by kernel_rfl
def Xr:TI:=⟨Kd.oth,1,8,Value.nilFunc⟩
theorem aV7:qn Tryz.prog 218=some Xr:=by kernel_rfl
def Xq:TI:=⟨Kd.oth,1,8,Value.nilFunc⟩
theorem aV6:qn Tryz.prog 220=some Xq:=by kernel_rfl
def Xp:TI:=⟨Kd.oth,1,8,Value.nilFunc⟩
theorem aV5:qn Tryz.prog 221=some Xp:=by kernel_rfl
def Xo:TI:=⟨Kd.sli 100,1,24,Value.slice none 0 0⟩
theorem aMl:qn Tryz.prog 222=some Xo:=by kernel_rfl
def Xn:TI:=⟨Kd.oth,1,8,Value.nilFunc⟩
theorem aV4:qn Tryz.prog 223=some Xn:=by kernel_rfl
def Xm:TI:=⟨Kd.oth,1,8,Value.nilFunc⟩
theorem aV3:qn Tryz.prog 224=some Xm:=by kernel_rfl
def Xl:TI:=⟨Kd.oth,1,8,Value.nilFunc⟩
theorem aV2:qn Tryz.prog 225=some Xl:=by kernel_rfl
def Xk:TI:=⟨Kd.oth,1,8,Value.nilFunc⟩
theorem aV1:qn Tryz.prog 226=some Xk:=by kernel_rfl
def Xj:TI:=⟨Kd.oth,1,8,Value.nilFunc⟩
theorem aV0:qn Tryz.prog 227=some Xj:=by kernel_rfl
def Xi:TI:=⟨Kd.oth,1,8,Value.nilFunc⟩
theorem aVZ:qn Tryz.prog 228=some Xi:=by kernel_rfl
def Xh:TI:=⟨Kd.oth,1,8,Value.nilFunc⟩
theorem aVY:qn Tryz.prog 229=some Xh:=by kernel_rfl
def Xg:TI:=⟨Kd.oth,1,8,Value.nilFunc⟩
theorem aVX:qn Tryz.prog 230=some Xg:=by kernel_rfl
def Xf:TI:=⟨Kd.oth,1,8,Value.nilFunc⟩
theorem aVW:qn Tryz.prog 232=some Xf:=by kernel_rfl
def Xe:TI:=⟨Kd.oth,1,8,Value.nilFunc⟩
theorem aVV:qn Tryz.prog 233=some Xe:=by kernel_rfl
def Xd:TI:=⟨Kd.oth,1,8,Value.nilFunc⟩
theorem aVU:qn Tryz.prog 234=some Xd:=by kernel_rfl
def Xc:TI:=⟨Kd.oth,1,8,Value.nilFunc⟩
theorem aVT:qn Tryz.prog 235=some Xc:=by kernel_rfl
def Xb:TI:=⟨Kd.oth,1,8,Value.nilFunc⟩
theorem aVS:qn Tryz.prog 237=some Xb:=by kernel_rfl
def Xa:TI:=⟨Kd.oth,1,8,Value.nilFunc⟩
theorem aVR:qn Tryz.prog 238=some Xa:=by kernel_rfl
def Y9:TI:=⟨Kd.oth,1,8,Value.nilFunc⟩
theorem aVQ:qn Tryz.prog 239=some Y9:=by kernel_rfl
def Y8:TI:=⟨Kd.oth,1,8,Value.nilFunc⟩
theorem aVO:qn Tryz.prog 240=some Y8:=by kernel_rfl
def Y7:TI:=⟨Kd.oth,1,8,Value.nilFunc⟩
theorem aVN:qn Tryz.prog 241=some Y7:=by kernel_rfl
def Y6:TI:=⟨Kd.int IntKind.u32,1,4,Value.int IntKind.u32 0⟩
theorem aVM:qn Tryz.prog 242=some Y6:=by kernel_rfl
def Y5:TI:=⟨Kd.oth,1,8,Value.nilFunc⟩
theorem aVL:qn Tryz.prog 243=some Y5:=by kernel_rfl
def Y4:TI:=⟨Kd.int IntKind.u64,1,8,Value.int IntKind.u64 0⟩
theorem aVK:qn Tryz.prog 244=some Y4:=by kernel_rfl
def Y3:TI:=⟨Kd.oth,1,8,Value.nilFunc⟩
theorem aVJ:qn Tryz.prog 245=some Y3:=by kernel_rfl
def Y2:TI:=⟨Kd.oth,1,8,Value.nilFunc⟩
theorem aVI:qn Tryz.prog 247=some Y2:=by kernel_rfl
def Y1:TI:=⟨Kd.oth,1,8,Value.nilFunc⟩
theorem aVH:qn Tryz.prog 248=some Y1:=by kernel_rfl
def Y0:TI:=⟨Kd.oth,1,8,Value.nilFunc⟩
theorem aVG:qn Tryz.prog 249=some Y0:=by kernel_rfl
def YZ:TI:=⟨Kd.oth,1,8,Value.nilFunc⟩
theorem aVF:qn Tryz.prog 250=some YZ:=by kernel_rfl
def YY:TI:=⟨Kd.oth,1,8,Value.nilFunc⟩
theorem aVE:qn Tryz.prog 251=some YY:=by kernel_rfl
def YX:TI:=⟨Kd.oth,1,8,Value.nilFunc⟩
theorem aVD:qn Tryz.prog 252=some YX:=by kernel_rfl
def YW:TI:=⟨Kd.oth,1,8,Value.nilFunc⟩
theorem aVC:qn Tryz.prog 253=some YW:=by kernel_rfl
def YV:TI:=⟨Kd.oth,1,8,Value.nilFunc⟩
theorem aVB:qn Tryz.prog 254=some YV:=by kernel_rfl
def YU:TI:=⟨Kd.oth,1,8,Value.nilFunc⟩
theorem aVA:qn Tryz.prog 255=some YU:=by kernel_rfl
def YT:TI:=⟨Kd.oth,1,8,Value.nilFunc⟩
theorem aVz:qn Tryz.prog 258=some YT:=by kernel_rfl
def YS:TI:=⟨Kd.stru [(0,261)],0,0,Value.agg ⟨[]⟩⟩
theorem aVy:qn Tryz.prog 262=some YS:=by kernel_rfl
def YR:TI:=⟨Kd.stru [(0,261)],0,0,Value.agg ⟨[]⟩⟩
theorem aVx:qn Tryz.prog 263=some YR:=by kernel_rfl
def YQ:TI:=⟨Kd.int IntKind.u8,1,1,Value.int IntKind.u8 0⟩
theorem aVw:qn Tryz.prog 264=some YQ:=by kernel_rfl
def YP:TI:=⟨Kd.int IntKind.u8,1,1,Value.int IntKind.u8 0⟩
theorem aVv:qn Tryz.prog 265=some YP:=by kernel_rfl
def YO:TI:=⟨Kd.oth,1,8,Value.nilFunc⟩
theorem aVu:qn Tryz.prog 266=some YO:=by kernel_rfl
def YN:TI:=⟨Kd.int IntKind.i32,1,4,Value.int IntKind.i32 0⟩
theorem aVt:qn Tryz.prog 268=some YN:=by kernel_rfl
def YM:TI:=⟨Kd.int IntKind.i32,1,4,Value.int IntKind.i32 0⟩
theorem aVs:qn Tryz.prog 269=some YM:=by kernel_rfl
def YK:TI:=⟨Kd.oth,1,8,Value.nilFunc⟩
theorem aVr:qn Tryz.prog 272=some YK:=by kernel_rfl
def YJ:TI:=⟨Kd.oth,1,8,Value.nilFunc⟩
theorem aVq:qn Tryz.prog 273=some YJ:=by kernel_rfl
def YI:TI:=⟨Kd.oth,1,8,Value.nilFunc⟩
theorem aVp:qn Tryz.prog 274=some YI:=by kernel_rfl
theorem ty1{K:TI→Prop}:@tyW Tryz.prog 1 ⟨K⟩=K ti1:=qh tf1
theorem aMi:ti1.kd=Kd.oth:=ID rfl
theorem aHi:ti1.kd.agg=false:=ID rfl
theorem auW:ti1.size=1:=ID rfl
theorem alS:ti1.bytes=8:=ID rfl
theorem aMg:qw ti1=True:=eq_true rfl
theorem aMh:zc ti1=[.v Value.nilFunc]:=ID rfl
theorem ty2{K:TI→Prop}:@tyW Tryz.prog 2 ⟨K⟩=K ti2:=qh tf2
theorem aMf:ti2.kd=Kd.int IntKind.i64:=ID rfl
theorem aGQ:ti2.kd.agg=false:=ID rfl
theorem arM:ti2.size=1:=ID rfl
theorem akC:ti2.bytes=8:=ID rfl
theorem aMd:qw ti2=True:=eq_true rfl
theorem aMe:zc ti2=[.v (Value.int IntKind.i64 0)]:=ID rfl
theorem ty3{K:TI→Prop}:@tyW Tryz.prog 3 ⟨K⟩=K ti3:=qh tf3
theorem aMc:ti3.kd=Kd.int IntKind.i64:=ID rfl
theorem aGr:ti3.kd.agg=false:=ID rfl
theorem arD:ti3.size=1:=ID rfl
theorem akt:ti3.bytes=8:=ID rfl
theorem aMa:qw ti3=True:=eq_true rfl
theorem aMb:zc ti3=[.v (Value.int IntKind.i64 0)]:=ID rfl
theorem ty4{K:TI→Prop}:@tyW Tryz.prog 4 ⟨K⟩=K ti4:=qh tf4
theorem aL9:ti4.kd=Kd.bool:=ID rfl
theorem aF2:ti4.kd.agg=false:=ID rfl
theorem aru:ti4.size=1:=ID rfl
theorem akh:ti4.bytes=1:=ID rfl
theorem aL7:qw ti4=True:=eq_true rfl
theorem aL8:zc ti4=[.v (Value.bool false)]:=ID rfl
theorem ty5{K:TI→Prop}:@tyW Tryz.prog 5 ⟨K⟩=K ti5:=qh tf5
theorem aL6:ti5.kd=Kd.int IntKind.u8:=ID rfl
theorem aFD:ti5.kd.agg=false:=ID rfl
theorem ark:ti5.size=1:=ID rfl
theorem aj8:ti5.bytes=1:=ID rfl
theorem aL4:qw ti5=True:=eq_true rfl
theorem aL5:zc ti5=[.v (Value.int IntKind.u8 0)]:=ID rfl
theorem ty6{K:TI→Prop}:@tyW Tryz.prog 6 ⟨K⟩=K ti6:=qh tf6
theorem aL3:ti6.kd=Kd.int IntKind.u8:=ID rfl
theorem aFe:ti6.kd.agg=false:=ID rfl
theorem ara:ti6.size=1:=ID rfl
theorem ajZ:ti6.bytes=1:=ID rfl
theorem aL1:qw ti6=True:=eq_true rfl
theorem aL2:zc ti6=[.v (Value.int IntKind.u8 0)]:=ID rfl
theorem ty7{K:TI→Prop}:@tyW Tryz.prog 7 ⟨K⟩=K ti7:=qh tf7
theorem aL0:ti7.kd=Kd.stru [(0,2),(1,3),(2,4),(3,6)]:=ID rfl
theorem aES:ti7.kd.agg=true:=ID rfl
theorem aq2:ti7.size=4:=ID rfl
theorem ajR:ti7.bytes=24:=ID rfl
theorem aLY:qw ti7=True:=eq_true rfl
theorem aLZ:zc ti7=[.v (Value.int IntKind.i64 0),.v (Value.int IntKind.i64 0),.v (Value.bool false),.v (Value.int IntKind.u8 0)]:=ID rfl
theorem aRF{K:Nat→TI→Prop}:@qA Tryz.prog 7 0 ⟨K⟩=K 0 ti2:=qr (ti:=ti7) (tf:=ti2) (fo:=(0,2)) (fs:=[(0,2),(1,3),(2,4),(3,6)]) tf7 rfl rfl tf2
theorem aX0{K:Nat→Nat→Prop}:qs Tryz.prog [(0,2),(1,3),(2,4),(3,6)] 0 K=K 0 1:=qq (tf:=ti2) (fo:=(0,2)) (fs:=[(0,2),(1,3),(2,4),(3,6)]) rfl tf2
theorem aRE{K:Nat→TI→Prop}:@qA Tryz.prog 7 1 ⟨K⟩=K 1 ti3:=qr (ti:=ti7) (tf:=ti3) (fo:=(1,3)) (fs:=[(0,2),(1,3),(2,4),(3,6)]) tf7 rfl rfl tf3
theorem aXZ{K:Nat→Nat→Prop}:qs Tryz.prog [(0,2),(1,3),(2,4),(3,6)] 1 K=K 1 1:=qq (tf:=ti3) (fo:=(1,3)) (fs:=[(0,2),(1,3),(2,4),(3,6)]) rfl tf3
theorem aRD{K:Nat→TI→Prop}:@qA Tryz.prog 7 2 ⟨K⟩=K 2 ti4:=qr (ti:=ti7) (tf:=ti4) (fo:=(2,4)) (fs:=[(0,2),(1,3),(2,4),(3,6)]) tf7 rfl rfl tf4
theorem aXY{K:Nat→Nat→Prop}:qs Tryz.prog [(0,2),(1,3),(2,4),(3,6)] 2 K=K 2 1:=qq (tf:=ti4) (fo:=(2,4)) (fs:=[(0,2),(1,3),(2,4),(3,6)]) rfl tf4
theorem aRC{K:Nat→TI→Prop}:@qA Tryz.prog 7 3 ⟨K⟩=K 3 ti6:=qr (ti:=ti7) (tf:=ti6) (fo:=(3,6)) (fs:=[(0,2),(1,3),(2,4),(3,6)]) tf7 rfl rfl tf6
theorem aXX{K:Nat→Nat→Prop}:qs Tryz.prog [(0,2),(1,3),(2,4),(3,6)] 3 K=K 3 1:=qq (tf:=ti6) (fo:=(3,6)) (fs:=[(0,2),(1,3),(2,4),(3,6)]) rfl tf6
theorem aYi:∀f∈([(0,2),(1,3),(2,4),(3,6)]:List (Nat×Nat)),(qn Tryz.prog f.2).isSome=true:=by
 intro f hf
 simp only[List.mem_cons,List.not_mem_nil,or_false]at hf
 rcases hf with rfl|rfl|rfl|rfl
 ·rw[tf2];rfl
 ·rw[tf3];rfl
 ·rw[tf4];rfl
 ·rw[tf6];rfl
theorem bcN{ps:List (Nat×AV)}{K:AV→Prop}:@q9 Tryz.prog 7 ps ⟨K⟩=@za (qs Tryz.prog [(0,2),(1,3),(2,4),(3,6)]) (zc ti7) ps ⟨fun cs=>K (.ag cs)⟩:=qI tf7 rfl aYi
theorem ty8{K:TI→Prop}:@tyW Tryz.prog 8 ⟨K⟩=K ti8:=qh tf8
theorem aLX:ti8.kd=Kd.stru [(0,2),(1,3),(2,4),(3,6)]:=ID rfl
theorem aEq:ti8.kd.agg=true:=ID rfl
theorem aqS:ti8.size=4:=ID rfl
theorem ajH:ti8.bytes=24:=ID rfl
theorem aLV:qw ti8=True:=eq_true rfl
theorem aLW:zc ti8=[.v (Value.int IntKind.i64 0),.v (Value.int IntKind.i64 0),.v (Value.bool false),.v (Value.int IntKind.u8 0)]:=ID rfl
theorem aRB{K:Nat→TI→Prop}:@qA Tryz.prog 8 0 ⟨K⟩=K 0 ti2:=qr (ti:=ti8) (tf:=ti2) (fo:=(0,2)) (fs:=[(0,2),(1,3),(2,4),(3,6)]) tf8 rfl rfl tf2
theorem aXW{K:Nat→Nat→Prop}:qs Tryz.prog [(0,2),(1,3),(2,4),(3,6)] 0 K=K 0 1:=qq (tf:=ti2) (fo:=(0,2)) (fs:=[(0,2),(1,3),(2,4),(3,6)]) rfl tf2
theorem aRA{K:Nat→TI→Prop}:@qA Tryz.prog 8 1 ⟨K⟩=K 1 ti3:=qr (ti:=ti8) (tf:=ti3) (fo:=(1,3)) (fs:=[(0,2),(1,3),(2,4),(3,6)]) tf8 rfl rfl tf3
theorem aXV{K:Nat→Nat→Prop}:qs Tryz.prog [(0,2),(1,3),(2,4),(3,6)] 1 K=K 1 1:=qq (tf:=ti3) (fo:=(1,3)) (fs:=[(0,2),(1,3),(2,4),(3,6)]) rfl tf3
theorem aRz{K:Nat→TI→Prop}:@qA Tryz.prog 8 2 ⟨K⟩=K 2 ti4:=qr (ti:=ti8) (tf:=ti4) (fo:=(2,4)) (fs:=[(0,2),(1,3),(2,4),(3,6)]) tf8 rfl rfl tf4
theorem aXU{K:Nat→Nat→Prop}:qs Tryz.prog [(0,2),(1,3),(2,4),(3,6)] 2 K=K 2 1:=qq (tf:=ti4) (fo:=(2,4)) (fs:=[(0,2),(1,3),(2,4),(3,6)]) rfl tf4
theorem aRy{K:Nat→TI→Prop}:@qA Tryz.prog 8 3 ⟨K⟩=K 3 ti6:=qr (ti:=ti8) (tf:=ti6) (fo:=(3,6)) (fs:=[(0,2),(1,3),(2,4),(3,6)]) tf8 rfl rfl tf6
theorem aXT{K:Nat→Nat→Prop}:qs Tryz.prog [(0,2),(1,3),(2,4),(3,6)] 3 K=K 3 1:=qq (tf:=ti6) (fo:=(3,6)) (fs:=[(0,2),(1,3),(2,4),(3,6)]) rfl tf6
theorem aYh:∀f∈([(0,2),(1,3),(2,4),(3,6)]:List (Nat×Nat)),(qn Tryz.prog f.2).isSome=true:=by
 intro f hf
 simp only[List.mem_cons,List.not_mem_nil,or_false]at hf
 rcases hf with rfl|rfl|rfl|rfl
 ·rw[tf2];rfl
 ·rw[tf3];rfl
 ·rw[tf4];rfl
 ·rw[tf6];rfl
theorem bcM{ps:List (Nat×AV)}{K:AV→Prop}:@q9 Tryz.prog 8 ps ⟨K⟩=@za (qs Tryz.prog [(0,2),(1,3),(2,4),(3,6)]) (zc ti8) ps ⟨fun cs=>K (.ag cs)⟩:=qI tf8 rfl aYh
theorem ty9{K:TI→Prop}:@tyW Tryz.prog 9 ⟨K⟩=K ti9:=qh tf9
theorem aLU:ti9.kd=Kd.str:=ID rfl
theorem aD1:ti9.kd.agg=false:=ID rfl
theorem aqJ:ti9.size=1:=ID rfl
theorem ajy:ti9.bytes=16:=ID rfl
theorem aLS:qw ti9=True:=eq_true rfl
theorem aLT:zc ti9=[.v (Value.string {data:=⟨[]⟩})]:=ID rfl
theorem bbv{K:TI→Prop}:@tyW Tryz.prog 10 ⟨K⟩=K aC9:=qh bcl
theorem aHr:aC9.kd=Kd.str:=ID rfl
theorem ayZ:aC9.kd.agg=false:=ID rfl
theorem ang:aC9.size=1:=ID rfl
theorem ahT:aC9.bytes=16:=ID rfl
theorem aHp:qw aC9=True:=eq_true rfl
theorem aHq:zc aC9=[.v (Value.string {data:=⟨[]⟩})]:=ID rfl
theorem bbu{K:TI→Prop}:@tyW Tryz.prog 11 ⟨K⟩=K aC8:=qh bck
theorem aHo:aC8.kd=Kd.str:=ID rfl
theorem ayx:aC8.kd.agg=false:=ID rfl
theorem am5:aC8.size=1:=ID rfl
theorem ahJ:aC8.bytes=16:=ID rfl
theorem aHm:qw aC8=True:=eq_true rfl
theorem aHn:zc aC8=[.v (Value.string {data:=⟨[]⟩})]:=ID rfl
theorem bbt{K:TI→Prop}:@tyW Tryz.prog 12 ⟨K⟩=K aC7:=qh bcj
theorem aHl:aC7.kd=Kd.int IntKind.u64:=ID rfl
theorem ax2:aC7.kd.agg=false:=ID rfl
theorem amU:aC7.size=1:=ID rfl
theorem ahy:aC7.bytes=8:=ID rfl
theorem aHj:qw aC7=True:=eq_true rfl
theorem aHk:zc aC7=[.v (Value.int IntKind.u64 0)]:=ID rfl
theorem bbs{K:TI→Prop}:@tyW Tryz.prog 21 ⟨K⟩=K aC6:=qh bci
theorem aHh:aC6.kd=Kd.int IntKind.i32:=ID rfl
theorem at3:aC6.kd.agg=false:=ID rfl
theorem alw:aC6.size=1:=ID rfl
theorem agd:aC6.bytes=4:=ID rfl
theorem aHf:qw aC6=True:=eq_true rfl
theorem aHg:zc aC6=[.v (Value.int IntKind.i32 0)]:=ID rfl
theorem bbr{K:TI→Prop}:@tyW Tryz.prog 22 ⟨K⟩=K adR:=qh aDb
theorem aHe:adR.kd=Kd.sli 5:=ID rfl
theorem aty:adR.kd.agg=false:=ID rfl
theorem alk:adR.size=1:=ID rfl
theorem af2:adR.bytes=24:=ID rfl
theorem aHc:qw adR=True:=eq_true rfl
theorem aHd:zc adR=[.v (Value.slice none 0 0)]:=ID rfl
theorem aXJ{K:TI→Prop}:@yu Tryz.prog 22 ⟨K⟩=K ti5:=QC aDb rfl tf5
theorem bbq{K:TI→Prop}:@tyW Tryz.prog 23 ⟨K⟩=K Jd:=qh adT
theorem aHb:Jd.kd=Kd.sli 3:=ID rfl
theorem as9:Jd.kd.agg=false:=ID rfl
theorem alb:Jd.size=1:=ID rfl
theorem afT:Jd.bytes=24:=ID rfl
theorem aG9:qw Jd=True:=eq_true rfl
theorem aHa:zc Jd=[.v (Value.slice none 0 0)]:=ID rfl
theorem aXI{K:TI→Prop}:@yu Tryz.prog 23 ⟨K⟩=K ti3:=QC adT rfl tf3
theorem bbp{K:TI→Prop}:@tyW Tryz.prog 24 ⟨K⟩=K aqr:=qh aVP
theorem aG8:aqr.kd=Kd.stru [(0,23)]:=ID rfl
theorem asH:aqr.kd.agg=true:=ID rfl
theorem ak1:aqr.size=1:=ID rfl
theorem afJ:aqr.bytes=24:=ID rfl
theorem aG6:qw aqr=True:=eq_true rfl
theorem aG7:zc aqr=[.v (Value.slice none 0 0)]:=ID rfl
theorem aKk{K:Nat→TI→Prop}:@qA Tryz.prog 24 0 ⟨K⟩=K 0 Jd:=qr (ti:=aqr) (tf:=Jd) (fo:=(0,23)) (fs:=[(0,23)]) aVP rfl rfl adT
theorem aNp{K:Nat→Nat→Prop}:qs Tryz.prog [(0,23)] 0 K=K 0 1:=qq (tf:=Jd) (fo:=(0,23)) (fs:=[(0,23)]) rfl adT
theorem aOb:∀f∈([(0,23)]:List (Nat×Nat)),(qn Tryz.prog f.2).isSome=true:=by
 intro f hf
 simp only[List.mem_cons,List.not_mem_nil,or_false]at hf
 subst hf;rw[adT];rfl
theorem aZ7{ps:List (Nat×AV)}{K:AV→Prop}:@q9 Tryz.prog 24 ps ⟨K⟩=@za (qs Tryz.prog [(0,23)]) (zc aqr) ps ⟨fun cs=>K (.ag cs)⟩:=qI aVP rfl aOb
theorem bbo{K:TI→Prop}:@tyW Tryz.prog 25 ⟨K⟩=K K9:=qh azw
theorem aG5:K9.kd=Kd.stru [(0,23)]:=ID rfl
theorem asl:K9.kd.agg=true:=ID rfl
theorem akT:K9.size=1:=ID rfl
theorem afB:K9.bytes=24:=ID rfl
theorem aG3:qw K9=True:=eq_true rfl
theorem aG4:zc K9=[.v (Value.slice none 0 0)]:=ID rfl
theorem aKj{K:Nat→TI→Prop}:@qA Tryz.prog 25 0 ⟨K⟩=K 0 Jd:=qr (ti:=K9) (tf:=Jd) (fo:=(0,23)) (fs:=[(0,23)]) azw rfl rfl adT
theorem aNo{K:Nat→Nat→Prop}:qs Tryz.prog [(0,23)] 0 K=K 0 1:=qq (tf:=Jd) (fo:=(0,23)) (fs:=[(0,23)]) rfl adT
theorem aOa:∀f∈([(0,23)]:List (Nat×Nat)),(qn Tryz.prog f.2).isSome=true:=by
 intro f hf
 simp only[List.mem_cons,List.not_mem_nil,or_false]at hf
 subst hf;rw[adT];rfl
theorem aZ6{ps:List (Nat×AV)}{K:AV→Prop}:@q9 Tryz.prog 25 ps ⟨K⟩=@za (qs Tryz.prog [(0,23)]) (zc K9) ps ⟨fun cs=>K (.ag cs)⟩:=qI azw rfl aOa
theorem bbn{K:TI→Prop}:@tyW Tryz.prog 26 ⟨K⟩=K akS:=qh aSQ
theorem aG2:akS.kd=Kd.stru [(0,4),(1,25)]:=ID rfl
theorem arZ:akS.kd.agg=true:=ID rfl
theorem akK:akS.size=2:=ID rfl
theorem aft:akS.bytes=32:=ID rfl
theorem aG0:qw akS=True:=eq_true rfl
theorem aG1:zc akS=[.v (Value.bool false),.v (Value.slice none 0 0)]:=ID rfl
theorem aKi{K:Nat→TI→Prop}:@qA Tryz.prog 26 0 ⟨K⟩=K 0 ti4:=qr (ti:=akS) (tf:=ti4) (fo:=(0,4)) (fs:=[(0,4),(1,25)]) aSQ rfl rfl tf4
theorem aNn{K:Nat→Nat→Prop}:qs Tryz.prog [(0,4),(1,25)] 0 K=K 0 1:=qq (tf:=ti4) (fo:=(0,4)) (fs:=[(0,4),(1,25)]) rfl tf4
theorem aKh{K:Nat→TI→Prop}:@qA Tryz.prog 26 1 ⟨K⟩=K 1 K9:=qr (ti:=akS) (tf:=K9) (fo:=(1,25)) (fs:=[(0,4),(1,25)]) aSQ rfl rfl azw
theorem aNm{K:Nat→Nat→Prop}:qs Tryz.prog [(0,4),(1,25)] 1 K=K 1 1:=qq (tf:=K9) (fo:=(1,25)) (fs:=[(0,4),(1,25)]) rfl azw
theorem aN9:∀f∈([(0,4),(1,25)]:List (Nat×Nat)),(qn Tryz.prog f.2).isSome=true:=by
 intro f hf
 simp only[List.mem_cons,List.not_mem_nil,or_false]at hf
 rcases hf with rfl|rfl
 ·rw[tf4];rfl
 ·rw[azw];rfl
theorem aZ5{ps:List (Nat×AV)}{K:AV→Prop}:@q9 Tryz.prog 26 ps ⟨K⟩=@za (qs Tryz.prog [(0,4),(1,25)]) (zc akS) ps ⟨fun cs=>K (.ag cs)⟩:=qI aSQ rfl aN9
theorem bbm{K:TI→Prop}:@tyW Tryz.prog 27 ⟨K⟩=K YL:=qh aqs
theorem aGZ:YL.kd=Kd.stru [(0,4),(1,25)]:=ID rfl
theorem arP:YL.kd.agg=true:=ID rfl
theorem akG:YL.size=2:=ID rfl
theorem afp:YL.bytes=32:=ID rfl
theorem aGX:qw YL=True:=eq_true rfl
theorem aGY:zc YL=[.v (Value.bool false),.v (Value.slice none 0 0)]:=ID rfl
theorem aKg{K:Nat→TI→Prop}:@qA Tryz.prog 27 0 ⟨K⟩=K 0 ti4:=qr (ti:=YL) (tf:=ti4) (fo:=(0,4)) (fs:=[(0,4),(1,25)]) aqs rfl rfl tf4
theorem aNl{K:Nat→Nat→Prop}:qs Tryz.prog [(0,4),(1,25)] 0 K=K 0 1:=qq (tf:=ti4) (fo:=(0,4)) (fs:=[(0,4),(1,25)]) rfl tf4
theorem aKf{K:Nat→TI→Prop}:@qA Tryz.prog 27 1 ⟨K⟩=K 1 K9:=qr (ti:=YL) (tf:=K9) (fo:=(1,25)) (fs:=[(0,4),(1,25)]) aqs rfl rfl azw
theorem aNk{K:Nat→Nat→Prop}:qs Tryz.prog [(0,4),(1,25)] 1 K=K 1 1:=qq (tf:=K9) (fo:=(1,25)) (fs:=[(0,4),(1,25)]) rfl azw
theorem aN8:∀f∈([(0,4),(1,25)]:List (Nat×Nat)),(qn Tryz.prog f.2).isSome=true:=by
 intro f hf
 simp only[List.mem_cons,List.not_mem_nil,or_false]at hf
 rcases hf with rfl|rfl
 ·rw[tf4];rfl
 ·rw[azw];rfl
theorem aZ4{ps:List (Nat×AV)}{K:AV→Prop}:@q9 Tryz.prog 27 ps ⟨K⟩=@za (qs Tryz.prog [(0,4),(1,25)]) (zc YL) ps ⟨fun cs=>K (.ag cs)⟩:=qI aqs rfl aN8
theorem bbl{K:TI→Prop}:@tyW Tryz.prog 28 ⟨K⟩=K akF:=qh aSP
theorem aGW:akF.kd=Kd.stru [(0,27),(2,3)]:=ID rfl
theorem arO:akF.kd.agg=true:=ID rfl
theorem akE:akF.size=3:=ID rfl
theorem afo:akF.bytes=40:=ID rfl
theorem aGU:qw akF=True:=eq_true rfl
theorem aGV:zc akF=[.v (Value.bool false),.v (Value.slice none 0 0),.v (Value.int IntKind.i64 0)]:=ID rfl
theorem aKe{K:Nat→TI→Prop}:@qA Tryz.prog 28 0 ⟨K⟩=K 0 YL:=qr (ti:=akF) (tf:=YL) (fo:=(0,27)) (fs:=[(0,27),(2,3)]) aSP rfl rfl aqs
theorem aNj{K:Nat→Nat→Prop}:qs Tryz.prog [(0,27),(2,3)] 0 K=K 0 2:=qq (tf:=YL) (fo:=(0,27)) (fs:=[(0,27),(2,3)]) rfl aqs
theorem aKd{K:Nat→TI→Prop}:@qA Tryz.prog 28 1 ⟨K⟩=K 2 ti3:=qr (ti:=akF) (tf:=ti3) (fo:=(2,3)) (fs:=[(0,27),(2,3)]) aSP rfl rfl tf3
theorem aNi{K:Nat→Nat→Prop}:qs Tryz.prog [(0,27),(2,3)] 1 K=K 2 1:=qq (tf:=ti3) (fo:=(2,3)) (fs:=[(0,27),(2,3)]) rfl tf3
theorem aN7:∀f∈([(0,27),(2,3)]:List (Nat×Nat)),(qn Tryz.prog f.2).isSome=true:=by
 intro f hf
 simp only[List.mem_cons,List.not_mem_nil,or_false]at hf
 rcases hf with rfl|rfl
 ·rw[aqs];rfl
 ·rw[tf3];rfl
theorem aZ3{ps:List (Nat×AV)}{K:AV→Prop}:@q9 Tryz.prog 28 ps ⟨K⟩=@za (qs Tryz.prog [(0,27),(2,3)]) (zc akF) ps ⟨fun cs=>K (.ag cs)⟩:=qI aSP rfl aN7
theorem bbk{K:TI→Prop}:@tyW Tryz.prog 29 ⟨K⟩=K QW:=qh V0
theorem aGT:QW.kd=Kd.stru [(0,27),(2,3)]:=ID rfl
theorem arN:QW.kd.agg=true:=ID rfl
theorem akD:QW.size=3:=ID rfl
theorem afn:QW.bytes=40:=ID rfl
theorem aGR:qw QW=True:=eq_true rfl
theorem aGS:zc QW=[.v (Value.bool false),.v (Value.slice none 0 0),.v (Value.int IntKind.i64 0)]:=ID rfl
theorem aKc{K:Nat→TI→Prop}:@qA Tryz.prog 29 0 ⟨K⟩=K 0 YL:=qr (ti:=QW) (tf:=YL) (fo:=(0,27)) (fs:=[(0,27),(2,3)]) V0 rfl rfl aqs
theorem aNh{K:Nat→Nat→Prop}:qs Tryz.prog [(0,27),(2,3)] 0 K=K 0 2:=qq (tf:=YL) (fo:=(0,27)) (fs:=[(0,27),(2,3)]) rfl aqs
theorem aKb{K:Nat→TI→Prop}:@qA Tryz.prog 29 1 ⟨K⟩=K 2 ti3:=qr (ti:=QW) (tf:=ti3) (fo:=(2,3)) (fs:=[(0,27),(2,3)]) V0 rfl rfl tf3
theorem aNg{K:Nat→Nat→Prop}:qs Tryz.prog [(0,27),(2,3)] 1 K=K 2 1:=qq (tf:=ti3) (fo:=(2,3)) (fs:=[(0,27),(2,3)]) rfl tf3
theorem aN6:∀f∈([(0,27),(2,3)]:List (Nat×Nat)),(qn Tryz.prog f.2).isSome=true:=by
 intro f hf
 simp only[List.mem_cons,List.not_mem_nil,or_false]at hf
 rcases hf with rfl|rfl
 ·rw[aqs];rfl
 ·rw[tf3];rfl
theorem aZ2{ps:List (Nat×AV)}{K:AV→Prop}:@q9 Tryz.prog 29 ps ⟨K⟩=@za (qs Tryz.prog [(0,27),(2,3)]) (zc QW) ps ⟨fun cs=>K (.ag cs)⟩:=qI V0 rfl aN6
theorem bbj{K:TI→Prop}:@tyW Tryz.prog 31 ⟨K⟩=K aC5:=qh bch
theorem aGP:aC5.kd=Kd.oth:=ID rfl
theorem arL:aC5.kd.agg=false:=ID rfl
theorem akB:aC5.size=1:=ID rfl
theorem afm:aC5.bytes=8:=ID rfl
theorem aGN:qw aC5=True:=eq_true rfl
theorem aGO:zc aC5=[.v Value.nilFunc]:=ID rfl
theorem bbi{K:TI→Prop}:@tyW Tryz.prog 33 ⟨K⟩=K aC4:=qh bcg
theorem aGM:aC4.kd=Kd.oth:=ID rfl
theorem arK:aC4.kd.agg=false:=ID rfl
theorem akA:aC4.size=1:=ID rfl
theorem afl:aC4.bytes=8:=ID rfl
theorem aGK:qw aC4=True:=eq_true rfl
theorem aGL:zc aC4=[.v Value.nilFunc]:=ID rfl
theorem bbh{K:TI→Prop}:@tyW Tryz.prog 34 ⟨K⟩=K aC3:=qh bcf
theorem aGJ:aC3.kd=Kd.oth:=ID rfl
theorem arJ:aC3.kd.agg=false:=ID rfl
theorem akz:aC3.size=1:=ID rfl
theorem afk:aC3.bytes=8:=ID rfl
theorem aGH:qw aC3=True:=eq_true rfl
theorem aGI:zc aC3=[.v Value.nilFunc]:=ID rfl
theorem bbg{K:TI→Prop}:@tyW Tryz.prog 35 ⟨K⟩=K aC2:=qh bce
theorem aGG:aC2.kd=Kd.oth:=ID rfl
theorem arI:aC2.kd.agg=false:=ID rfl
theorem aky:aC2.size=1:=ID rfl
theorem afj:aC2.bytes=8:=ID rfl
theorem aGE:qw aC2=True:=eq_true rfl
theorem aGF:zc aC2=[.v Value.nilFunc]:=ID rfl
theorem bbf{K:TI→Prop}:@tyW Tryz.prog 36 ⟨K⟩=K aC1:=qh bcd
theorem aGD:aC1.kd=Kd.oth:=ID rfl
theorem arH:aC1.kd.agg=false:=ID rfl
theorem akx:aC1.size=1:=ID rfl
theorem afi:aC1.bytes=8:=ID rfl
theorem aGB:qw aC1=True:=eq_true rfl
theorem aGC:zc aC1=[.v Value.nilFunc]:=ID rfl
theorem bbe{K:TI→Prop}:@tyW Tryz.prog 37 ⟨K⟩=K aC0:=qh bcc
theorem aGA:aC0.kd=Kd.oth:=ID rfl
theorem arG:aC0.kd.agg=false:=ID rfl
theorem akw:aC0.size=1:=ID rfl
theorem afh:aC0.bytes=8:=ID rfl
theorem aGy:qw aC0=True:=eq_true rfl
theorem aGz:zc aC0=[.v Value.nilFunc]:=ID rfl
theorem bbd{K:TI→Prop}:@tyW Tryz.prog 38 ⟨K⟩=K aCZ:=qh bcb
theorem aGx:aCZ.kd=Kd.oth:=ID rfl
theorem arF:aCZ.kd.agg=false:=ID rfl
theorem akv:aCZ.size=1:=ID rfl
theorem afg:aCZ.bytes=8:=ID rfl
theorem aGv:qw aCZ=True:=eq_true rfl
theorem aGw:zc aCZ=[.v Value.nilFunc]:=ID rfl
theorem bbc{K:TI→Prop}:@tyW Tryz.prog 39 ⟨K⟩=K aCY:=qh bca
theorem aGu:aCY.kd=Kd.oth:=ID rfl
theorem arE:aCY.kd.agg=false:=ID rfl
theorem aku:aCY.size=1:=ID rfl
theorem aff:aCY.bytes=8:=ID rfl
theorem aGs:qw aCY=True:=eq_true rfl
theorem aGt:zc aCY=[.v Value.nilFunc]:=ID rfl
theorem bbb{K:TI→Prop}:@tyW Tryz.prog 40 ⟨K⟩=K adQ:=qh aDa
theorem aGq:adQ.kd=Kd.sli 29:=ID rfl
theorem arC:adQ.kd.agg=false:=ID rfl
theorem aks:adQ.size=1:=ID rfl
theorem afe:adQ.bytes=24:=ID rfl
theorem aGo:qw adQ=True:=eq_true rfl
theorem aGp:zc adQ=[.v (Value.slice none 0 0)]:=ID rfl
theorem aXH{K:TI→Prop}:@yu Tryz.prog 40 ⟨K⟩=K QW:=QC aDa rfl V0
theorem bba{K:TI→Prop}:@tyW Tryz.prog 41 ⟨K⟩=K akr:=qh aSO
theorem aGn:akr.kd=Kd.stru [(0,3),(1,40)]:=ID rfl
theorem arB:akr.kd.agg=true:=ID rfl
theorem akq:akr.size=2:=ID rfl
theorem afd:akr.bytes=32:=ID rfl
theorem aGl:qw akr=True:=eq_true rfl
theorem aGm:zc akr=[.v (Value.int IntKind.i64 0),.v (Value.slice none 0 0)]:=ID rfl
theorem aKa{K:Nat→TI→Prop}:@qA Tryz.prog 41 0 ⟨K⟩=K 0 ti3:=qr (ti:=akr) (tf:=ti3) (fo:=(0,3)) (fs:=[(0,3),(1,40)]) aSO rfl rfl tf3
theorem aNf{K:Nat→Nat→Prop}:qs Tryz.prog [(0,3),(1,40)] 0 K=K 0 1:=qq (tf:=ti3) (fo:=(0,3)) (fs:=[(0,3),(1,40)]) rfl tf3
theorem aJ9{K:Nat→TI→Prop}:@qA Tryz.prog 41 1 ⟨K⟩=K 1 adQ:=qr (ti:=akr) (tf:=adQ) (fo:=(1,40)) (fs:=[(0,3),(1,40)]) aSO rfl rfl aDa
theorem aNe{K:Nat→Nat→Prop}:qs Tryz.prog [(0,3),(1,40)] 1 K=K 1 1:=qq (tf:=adQ) (fo:=(1,40)) (fs:=[(0,3),(1,40)]) rfl aDa
theorem aN5:∀f∈([(0,3),(1,40)]:List (Nat×Nat)),(qn Tryz.prog f.2).isSome=true:=by
 intro f hf
 simp only[List.mem_cons,List.not_mem_nil,or_false]at hf
 rcases hf with rfl|rfl
 ·rw[tf3];rfl
 ·rw[aDa];rfl
theorem aZ1{ps:List (Nat×AV)}{K:AV→Prop}:@q9 Tryz.prog 41 ps ⟨K⟩=@za (qs Tryz.prog [(0,3),(1,40)]) (zc akr) ps ⟨fun cs=>K (.ag cs)⟩:=qI aSO rfl aN5
theorem ba9{K:TI→Prop}:@tyW Tryz.prog 42 ⟨K⟩=K akp:=qh aSN
theorem aGk:akp.kd=Kd.stru [(0,3),(1,40)]:=ID rfl
theorem arA:akp.kd.agg=true:=ID rfl
theorem ako:akp.size=2:=ID rfl
theorem afc:akp.bytes=32:=ID rfl
theorem aGi:qw akp=True:=eq_true rfl
theorem aGj:zc akp=[.v (Value.int IntKind.i64 0),.v (Value.slice none 0 0)]:=ID rfl
theorem aJ8{K:Nat→TI→Prop}:@qA Tryz.prog 42 0 ⟨K⟩=K 0 ti3:=qr (ti:=akp) (tf:=ti3) (fo:=(0,3)) (fs:=[(0,3),(1,40)]) aSN rfl rfl tf3
theorem aNd{K:Nat→Nat→Prop}:qs Tryz.prog [(0,3),(1,40)] 0 K=K 0 1:=qq (tf:=ti3) (fo:=(0,3)) (fs:=[(0,3),(1,40)]) rfl tf3
theorem aJ7{K:Nat→TI→Prop}:@qA Tryz.prog 42 1 ⟨K⟩=K 1 adQ:=qr (ti:=akp) (tf:=adQ) (fo:=(1,40)) (fs:=[(0,3),(1,40)]) aSN rfl rfl aDa
theorem aNc{K:Nat→Nat→Prop}:qs Tryz.prog [(0,3),(1,40)] 1 K=K 1 1:=qq (tf:=adQ) (fo:=(1,40)) (fs:=[(0,3),(1,40)]) rfl aDa
theorem aN4:∀f∈([(0,3),(1,40)]:List (Nat×Nat)),(qn Tryz.prog f.2).isSome=true:=by
 intro f hf
 simp only[List.mem_cons,List.not_mem_nil,or_false]at hf
 rcases hf with rfl|rfl
 ·rw[tf3];rfl
 ·rw[aDa];rfl
theorem aZ0{ps:List (Nat×AV)}{K:AV→Prop}:@q9 Tryz.prog 42 ps ⟨K⟩=@za (qs Tryz.prog [(0,3),(1,40)]) (zc akp) ps ⟨fun cs=>K (.ag cs)⟩:=qI aSN rfl aN4
theorem ba8{K:TI→Prop}:@tyW Tryz.prog 44 ⟨K⟩=K aCX:=qh bb9
theorem aGh:aCX.kd=Kd.oth:=ID rfl
theorem arz:aCX.kd.agg=false:=ID rfl
theorem akn:aCX.size=1:=ID rfl
theorem afb:aCX.bytes=8:=ID rfl
theorem aGf:qw aCX=True:=eq_true rfl
theorem aGg:zc aCX=[.v Value.nilFunc]:=ID rfl
theorem ba7{K:TI→Prop}:@tyW Tryz.prog 45 ⟨K⟩=K aCW:=qh bb8
theorem aGe:aCW.kd=Kd.oth:=ID rfl
theorem ary:aCW.kd.agg=false:=ID rfl
theorem akm:aCW.size=1:=ID rfl
theorem afa:aCW.bytes=8:=ID rfl
theorem aGc:qw aCW=True:=eq_true rfl
theorem aGd:zc aCW=[.v Value.nilFunc]:=ID rfl
theorem ba6{K:TI→Prop}:@tyW Tryz.prog 47 ⟨K⟩=K aCV:=qh bb7
theorem aGb:aCV.kd=Kd.oth:=ID rfl
theorem arx:aCV.kd.agg=false:=ID rfl
theorem akl:aCV.size=1:=ID rfl
theorem ae9:aCV.bytes=8:=ID rfl
theorem aF9:qw aCV=True:=eq_true rfl
theorem aGa:zc aCV=[.v Value.nilFunc]:=ID rfl
theorem ba5{K:TI→Prop}:@tyW Tryz.prog 48 ⟨K⟩=K aCU:=qh bb6
theorem aF8:aCU.kd=Kd.oth:=ID rfl
theorem arw:aCU.kd.agg=false:=ID rfl
theorem akk:aCU.size=1:=ID rfl
theorem ae8:aCU.bytes=8:=ID rfl
theorem aF6:qw aCU=True:=eq_true rfl
theorem aF7:zc aCU=[.v Value.nilFunc]:=ID rfl
theorem ba4{K:TI→Prop}:@tyW Tryz.prog 49 ⟨K⟩=K akj:=qh aSM
theorem aF5:akj.kd=Kd.stru [(0,29),(3,29)]:=ID rfl
theorem arv:akj.kd.agg=true:=ID rfl
theorem aki:akj.size=6:=ID rfl
theorem ae7:akj.bytes=80:=ID rfl
theorem aF3:qw akj=True:=eq_true rfl
theorem aF4:zc akj=[.v (Value.bool false),.v (Value.slice none 0 0),.v (Value.int IntKind.i64 0),.v (Value.bool false),.v (Value.slice none 0 0),.v (Value.int IntKind.i64 0)]:=ID rfl
theorem aJ6{K:Nat→TI→Prop}:@qA Tryz.prog 49 0 ⟨K⟩=K 0 QW:=qr (ti:=akj) (tf:=QW) (fo:=(0,29)) (fs:=[(0,29),(3,29)]) aSM rfl rfl V0
theorem aNb{K:Nat→Nat→Prop}:qs Tryz.prog [(0,29),(3,29)] 0 K=K 0 3:=qq (tf:=QW) (fo:=(0,29)) (fs:=[(0,29),(3,29)]) rfl V0
theorem aJ5{K:Nat→TI→Prop}:@qA Tryz.prog 49 1 ⟨K⟩=K 3 QW:=qr (ti:=akj) (tf:=QW) (fo:=(3,29)) (fs:=[(0,29),(3,29)]) aSM rfl rfl V0
theorem aNa{K:Nat→Nat→Prop}:qs Tryz.prog [(0,29),(3,29)] 1 K=K 3 3:=qq (tf:=QW) (fo:=(3,29)) (fs:=[(0,29),(3,29)]) rfl V0
theorem aN3:∀f∈([(0,29),(3,29)]:List (Nat×Nat)),(qn Tryz.prog f.2).isSome=true:=by
 intro f hf
 simp only[List.mem_cons,List.not_mem_nil,or_false]at hf
 rcases hf with rfl|rfl
 ·rw[V0];rfl
 ·rw[V0];rfl
theorem aZZ{ps:List (Nat×AV)}{K:AV→Prop}:@q9 Tryz.prog 49 ps ⟨K⟩=@za (qs Tryz.prog [(0,29),(3,29)]) (zc akj) ps ⟨fun cs=>K (.ag cs)⟩:=qI aSM rfl aN3
theorem ba3{K:TI→Prop}:@tyW Tryz.prog 50 ⟨K⟩=K ajn:=qh aMk
theorem aF1:ajn.kd=Kd.stru [(0,29),(3,29)]:=ID rfl
theorem art:ajn.kd.agg=true:=ID rfl
theorem akg:ajn.size=6:=ID rfl
theorem ae6:ajn.bytes=80:=ID rfl
theorem aFZ:qw ajn=True:=eq_true rfl
theorem aF0:zc ajn=[.v (Value.bool false),.v (Value.slice none 0 0),.v (Value.int IntKind.i64 0),.v (Value.bool false),.v (Value.slice none 0 0),.v (Value.int IntKind.i64 0)]:=ID rfl
theorem aJ4{K:Nat→TI→Prop}:@qA Tryz.prog 50 0 ⟨K⟩=K 0 QW:=qr (ti:=ajn) (tf:=QW) (fo:=(0,29)) (fs:=[(0,29),(3,29)]) aMk rfl rfl V0
theorem aM9{K:Nat→Nat→Prop}:qs Tryz.prog [(0,29),(3,29)] 0 K=K 0 3:=qq (tf:=QW) (fo:=(0,29)) (fs:=[(0,29),(3,29)]) rfl V0
theorem aJ3{K:Nat→TI→Prop}:@qA Tryz.prog 50 1 ⟨K⟩=K 3 QW:=qr (ti:=ajn) (tf:=QW) (fo:=(3,29)) (fs:=[(0,29),(3,29)]) aMk rfl rfl V0
theorem aM8{K:Nat→Nat→Prop}:qs Tryz.prog [(0,29),(3,29)] 1 K=K 3 3:=qq (tf:=QW) (fo:=(3,29)) (fs:=[(0,29),(3,29)]) rfl V0
theorem aN2:∀f∈([(0,29),(3,29)]:List (Nat×Nat)),(qn Tryz.prog f.2).isSome=true:=by
 intro f hf
 simp only[List.mem_cons,List.not_mem_nil,or_false]at hf
 rcases hf with rfl|rfl
 ·rw[V0];rfl
 ·rw[V0];rfl
theorem aZY{ps:List (Nat×AV)}{K:AV→Prop}:@q9 Tryz.prog 50 ps ⟨K⟩=@za (qs Tryz.prog [(0,29),(3,29)]) (zc ajn) ps ⟨fun cs=>K (.ag cs)⟩:=qI aMk rfl aN2
theorem ba2{K:TI→Prop}:@tyW Tryz.prog 52 ⟨K⟩=K aCT:=qh bb5
theorem aFY:aCT.kd=Kd.oth:=ID rfl
theorem ars:aCT.kd.agg=false:=ID rfl
theorem akf:aCT.size=1:=ID rfl
theorem ae5:aCT.bytes=8:=ID rfl
theorem aFW:qw aCT=True:=eq_true rfl
theorem aFX:zc aCT=[.v Value.nilFunc]:=ID rfl
theorem ba1{K:TI→Prop}:@tyW Tryz.prog 54 ⟨K⟩=K aCS:=qh bb4
theorem aFV:aCS.kd=Kd.oth:=ID rfl
theorem arq:aCS.kd.agg=false:=ID rfl
theorem ake:aCS.size=1:=ID rfl
theorem ae4:aCS.bytes=8:=ID rfl
theorem aFT:qw aCS=True:=eq_true rfl
theorem aFU:zc aCS=[.v Value.nilFunc]:=ID rfl
theorem ba0{K:TI→Prop}:@tyW Tryz.prog 55 ⟨K⟩=K aCR:=qh bb3
theorem aFS:aCR.kd=Kd.oth:=ID rfl
theorem arp:aCR.kd.agg=false:=ID rfl
theorem akd:aCR.size=1:=ID rfl
theorem ae3:aCR.bytes=8:=ID rfl
theorem aFQ:qw aCR=True:=eq_true rfl
theorem aFR:zc aCR=[.v Value.nilFunc]:=ID rfl
theorem baZ{K:TI→Prop}:@tyW Tryz.prog 56 ⟨K⟩=K aCQ:=qh bb2
theorem aFP:aCQ.kd=Kd.oth:=ID rfl
theorem aro:aCQ.kd.agg=false:=ID rfl
theorem akc:aCQ.size=1:=ID rfl
theorem ae2:aCQ.bytes=8:=ID rfl
theorem aFN:qw aCQ=True:=eq_true rfl
theorem aFO:zc aCQ=[.v Value.nilFunc]:=ID rfl
theorem baY{K:TI→Prop}:@tyW Tryz.prog 57 ⟨K⟩=K aCP:=qh bb1
theorem aFM:aCP.kd=Kd.oth:=ID rfl
theorem arn:aCP.kd.agg=false:=ID rfl
theorem akb:aCP.size=1:=ID rfl
theorem ae1:aCP.bytes=8:=ID rfl
theorem aFK:qw aCP=True:=eq_true rfl
theorem aFL:zc aCP=[.v Value.nilFunc]:=ID rfl
theorem baX{K:TI→Prop}:@tyW Tryz.prog 58 ⟨K⟩=K aCO:=qh bb0
theorem aFJ:aCO.kd=Kd.oth:=ID rfl
theorem arm:aCO.kd.agg=false:=ID rfl
theorem aka:aCO.size=1:=ID rfl
theorem ae0:aCO.bytes=8:=ID rfl
theorem aFH:qw aCO=True:=eq_true rfl
theorem aFI:zc aCO=[.v Value.nilFunc]:=ID rfl
theorem baW{K:TI→Prop}:@tyW Tryz.prog 59 ⟨K⟩=K aCN:=qh bbZ
theorem aFG:aCN.kd=Kd.oth:=ID rfl
theorem arl:aCN.kd.agg=false:=ID rfl
theorem aj9:aCN.size=1:=ID rfl
theorem aeZ:aCN.bytes=8:=ID rfl
theorem aFE:qw aCN=True:=eq_true rfl
theorem aFF:zc aCN=[.v Value.nilFunc]:=ID rfl
theorem baV{K:TI→Prop}:@tyW Tryz.prog 60 ⟨K⟩=K aCM:=qh bbY
theorem aFC:aCM.kd=Kd.oth:=ID rfl
theorem arj:aCM.kd.agg=false:=ID rfl
theorem aj7:aCM.size=1:=ID rfl
theorem aeY:aCM.bytes=8:=ID rfl
theorem aFA:qw aCM=True:=eq_true rfl
theorem aFB:zc aCM=[.v Value.nilFunc]:=ID rfl
theorem baU{K:TI→Prop}:@tyW Tryz.prog 61 ⟨K⟩=K aCL:=qh bbX
theorem aFz:aCL.kd=Kd.oth:=ID rfl
theorem ari:aCL.kd.agg=false:=ID rfl
theorem aj6:aCL.size=1:=ID rfl
theorem aeX:aCL.bytes=8:=ID rfl
theorem aFx:qw aCL=True:=eq_true rfl
theorem aFy:zc aCL=[.v Value.nilFunc]:=ID rfl
theorem baT{K:TI→Prop}:@tyW Tryz.prog 62 ⟨K⟩=K aeW:=qh aLz
theorem aFw:aeW.kd=Kd.stru [(0,3),(1,4),(2,3),(3,3)]:=ID rfl
theorem arh:aeW.kd.agg=true:=ID rfl
theorem aj5:aeW.size=4:=ID rfl
theorem aeV:aeW.bytes=32:=ID rfl
theorem aFu:qw aeW=True:=eq_true rfl
theorem aFv:zc aeW=[.v (Value.int IntKind.i64 0),.v (Value.bool false),.v (Value.int IntKind.i64 0),.v (Value.int IntKind.i64 0)]:=ID rfl
theorem aJ2{K:Nat→TI→Prop}:@qA Tryz.prog 62 0 ⟨K⟩=K 0 ti3:=qr (ti:=aeW) (tf:=ti3) (fo:=(0,3)) (fs:=[(0,3),(1,4),(2,3),(3,3)]) aLz rfl rfl tf3
theorem aM7{K:Nat→Nat→Prop}:qs Tryz.prog [(0,3),(1,4),(2,3),(3,3)] 0 K=K 0 1:=qq (tf:=ti3) (fo:=(0,3)) (fs:=[(0,3),(1,4),(2,3),(3,3)]) rfl tf3
theorem aJ1{K:Nat→TI→Prop}:@qA Tryz.prog 62 1 ⟨K⟩=K 1 ti4:=qr (ti:=aeW) (tf:=ti4) (fo:=(1,4)) (fs:=[(0,3),(1,4),(2,3),(3,3)]) aLz rfl rfl tf4
theorem aM6{K:Nat→Nat→Prop}:qs Tryz.prog [(0,3),(1,4),(2,3),(3,3)] 1 K=K 1 1:=qq (tf:=ti4) (fo:=(1,4)) (fs:=[(0,3),(1,4),(2,3),(3,3)]) rfl tf4
theorem aJ0{K:Nat→TI→Prop}:@qA Tryz.prog 62 2 ⟨K⟩=K 2 ti3:=qr (ti:=aeW) (tf:=ti3) (fo:=(2,3)) (fs:=[(0,3),(1,4),(2,3),(3,3)]) aLz rfl rfl tf3
theorem aM5{K:Nat→Nat→Prop}:qs Tryz.prog [(0,3),(1,4),(2,3),(3,3)] 2 K=K 2 1:=qq (tf:=ti3) (fo:=(2,3)) (fs:=[(0,3),(1,4),(2,3),(3,3)]) rfl tf3
theorem aJZ{K:Nat→TI→Prop}:@qA Tryz.prog 62 3 ⟨K⟩=K 3 ti3:=qr (ti:=aeW) (tf:=ti3) (fo:=(3,3)) (fs:=[(0,3),(1,4),(2,3),(3,3)]) aLz rfl rfl tf3
theorem aM4{K:Nat→Nat→Prop}:qs Tryz.prog [(0,3),(1,4),(2,3),(3,3)] 3 K=K 3 1:=qq (tf:=ti3) (fo:=(3,3)) (fs:=[(0,3),(1,4),(2,3),(3,3)]) rfl tf3
theorem aN1:∀f∈([(0,3),(1,4),(2,3),(3,3)]:List (Nat×Nat)),(qn Tryz.prog f.2).isSome=true:=by
 intro f hf
 simp only[List.mem_cons,List.not_mem_nil,or_false]at hf
 rcases hf with rfl|rfl|rfl|rfl
 ·rw[tf3];rfl
 ·rw[tf4];rfl
 ·rw[tf3];rfl
 ·rw[tf3];rfl
theorem aZX{ps:List (Nat×AV)}{K:AV→Prop}:@q9 Tryz.prog 62 ps ⟨K⟩=@za (qs Tryz.prog [(0,3),(1,4),(2,3),(3,3)]) (zc aeW) ps ⟨fun cs=>K (.ag cs)⟩:=qI aLz rfl aN1
theorem baS{K:TI→Prop}:@tyW Tryz.prog 63 ⟨K⟩=K adP:=qh aHs
theorem aFt:adP.kd=Kd.stru [(0,3),(1,4),(2,3),(3,3)]:=ID rfl
theorem arg:adP.kd.agg=true:=ID rfl
theorem aj4:adP.size=4:=ID rfl
theorem aeU:adP.bytes=32:=ID rfl
theorem aFr:qw adP=True:=eq_true rfl
theorem aFs:zc adP=[.v (Value.int IntKind.i64 0),.v (Value.bool false),.v (Value.int IntKind.i64 0),.v (Value.int IntKind.i64 0)]:=ID rfl
theorem aJY{K:Nat→TI→Prop}:@qA Tryz.prog 63 0 ⟨K⟩=K 0 ti3:=qr (ti:=adP) (tf:=ti3) (fo:=(0,3)) (fs:=[(0,3),(1,4),(2,3),(3,3)]) aHs rfl rfl tf3
theorem aM3{K:Nat→Nat→Prop}:qs Tryz.prog [(0,3),(1,4),(2,3),(3,3)] 0 K=K 0 1:=qq (tf:=ti3) (fo:=(0,3)) (fs:=[(0,3),(1,4),(2,3),(3,3)]) rfl tf3
theorem aJX{K:Nat→TI→Prop}:@qA Tryz.prog 63 1 ⟨K⟩=K 1 ti4:=qr (ti:=adP) (tf:=ti4) (fo:=(1,4)) (fs:=[(0,3),(1,4),(2,3),(3,3)]) aHs rfl rfl tf4
theorem aM2{K:Nat→Nat→Prop}:qs Tryz.prog [(0,3),(1,4),(2,3),(3,3)] 1 K=K 1 1:=qq (tf:=ti4) (fo:=(1,4)) (fs:=[(0,3),(1,4),(2,3),(3,3)]) rfl tf4
theorem aJW{K:Nat→TI→Prop}:@qA Tryz.prog 63 2 ⟨K⟩=K 2 ti3:=qr (ti:=adP) (tf:=ti3) (fo:=(2,3)) (fs:=[(0,3),(1,4),(2,3),(3,3)]) aHs rfl rfl tf3
theorem aM1{K:Nat→Nat→Prop}:qs Tryz.prog [(0,3),(1,4),(2,3),(3,3)] 2 K=K 2 1:=qq (tf:=ti3) (fo:=(2,3)) (fs:=[(0,3),(1,4),(2,3),(3,3)]) rfl tf3
theorem aJV{K:Nat→TI→Prop}:@qA Tryz.prog 63 3 ⟨K⟩=K 3 ti3:=qr (ti:=adP) (tf:=ti3) (fo:=(3,3)) (fs:=[(0,3),(1,4),(2,3),(3,3)]) aHs rfl rfl tf3
theorem aM0{K:Nat→Nat→Prop}:qs Tryz.prog [(0,3),(1,4),(2,3),(3,3)] 3 K=K 3 1:=qq (tf:=ti3) (fo:=(3,3)) (fs:=[(0,3),(1,4),(2,3),(3,3)]) rfl tf3
theorem aN0:∀f∈([(0,3),(1,4),(2,3),(3,3)]:List (Nat×Nat)),(qn Tryz.prog f.2).isSome=true:=by
 intro f hf
 simp only[List.mem_cons,List.not_mem_nil,or_false]at hf
 rcases hf with rfl|rfl|rfl|rfl
 ·rw[tf3];rfl
 ·rw[tf4];rfl
 ·rw[tf3];rfl
 ·rw[tf3];rfl
theorem aZW{ps:List (Nat×AV)}{K:AV→Prop}:@q9 Tryz.prog 63 ps ⟨K⟩=@za (qs Tryz.prog [(0,3),(1,4),(2,3),(3,3)]) (zc adP) ps ⟨fun cs=>K (.ag cs)⟩:=qI aHs rfl aN0
theorem baR{K:TI→Prop}:@tyW Tryz.prog 65 ⟨K⟩=K aCK:=qh bbW
theorem aFq:aCK.kd=Kd.oth:=ID rfl
theorem arf:aCK.kd.agg=false:=ID rfl
theorem aj3:aCK.size=1:=ID rfl
theorem aeT:aCK.bytes=8:=ID rfl
theorem aFo:qw aCK=True:=eq_true rfl
theorem aFp:zc aCK=[.v Value.nilFunc]:=ID rfl
theorem baQ{K:TI→Prop}:@tyW Tryz.prog 67 ⟨K⟩=K aCJ:=qh bbV
theorem aFn:aCJ.kd=Kd.oth:=ID rfl
theorem ard:aCJ.kd.agg=false:=ID rfl
theorem aj2:aCJ.size=1:=ID rfl
theorem aeS:aCJ.bytes=8:=ID rfl
theorem aFl:qw aCJ=True:=eq_true rfl
theorem aFm:zc aCJ=[.v Value.nilFunc]:=ID rfl
theorem baP{K:TI→Prop}:@tyW Tryz.prog 68 ⟨K⟩=K aCI:=qh bbU
theorem aFk:aCI.kd=Kd.oth:=ID rfl
theorem arc:aCI.kd.agg=false:=ID rfl
theorem aj1:aCI.size=1:=ID rfl
theorem aeR:aCI.bytes=8:=ID rfl
theorem aFi:qw aCI=True:=eq_true rfl
theorem aFj:zc aCI=[.v Value.nilFunc]:=ID rfl
theorem baO{K:TI→Prop}:@tyW Tryz.prog 69 ⟨K⟩=K aCH:=qh bbT
theorem aFh:aCH.kd=Kd.oth:=ID rfl
theorem arb:aCH.kd.agg=false:=ID rfl
theorem aj0:aCH.size=1:=ID rfl
theorem aeQ:aCH.bytes=8:=ID rfl
theorem aFf:qw aCH=True:=eq_true rfl
theorem aFg:zc aCH=[.v Value.nilFunc]:=ID rfl
theorem baN{K:TI→Prop}:@tyW Tryz.prog 70 ⟨K⟩=K aCG:=qh bbS
theorem aFd:aCG.kd=Kd.oth:=ID rfl
theorem aq9:aCG.kd.agg=false:=ID rfl
theorem ajY:aCG.size=1:=ID rfl
theorem aeP:aCG.bytes=8:=ID rfl
theorem aFb:qw aCG=True:=eq_true rfl
theorem aFc:zc aCG=[.v Value.nilFunc]:=ID rfl
theorem baM{K:TI→Prop}:@tyW Tryz.prog 71 ⟨K⟩=K aCF:=qh bbR
theorem aFa:aCF.kd=Kd.oth:=ID rfl
theorem aq8:aCF.kd.agg=false:=ID rfl
theorem ajX:aCF.size=1:=ID rfl
theorem aeO:aCF.bytes=8:=ID rfl
theorem aE8:qw aCF=True:=eq_true rfl
theorem aE9:zc aCF=[.v Value.nilFunc]:=ID rfl
theorem baL{K:TI→Prop}:@tyW Tryz.prog 72 ⟨K⟩=K aCE:=qh bbQ
theorem aE7:aCE.kd=Kd.oth:=ID rfl
theorem aq7:aCE.kd.agg=false:=ID rfl
theorem ajW:aCE.size=1:=ID rfl
theorem aeN:aCE.bytes=8:=ID rfl
theorem aE5:qw aCE=True:=eq_true rfl
theorem aE6:zc aCE=[.v Value.nilFunc]:=ID rfl
theorem baK{K:TI→Prop}:@tyW Tryz.prog 74 ⟨K⟩=K aCD:=qh bbP
theorem aE4:aCD.kd=Kd.oth:=ID rfl
theorem aq6:aCD.kd.agg=false:=ID rfl
theorem ajV:aCD.size=1:=ID rfl
theorem aeM:aCD.bytes=8:=ID rfl
theorem aE2:qw aCD=True:=eq_true rfl
theorem aE3:zc aCD=[.v Value.nilFunc]:=ID rfl
theorem baJ{K:TI→Prop}:@tyW Tryz.prog 76 ⟨K⟩=K aCC:=qh bbO
theorem aE1:aCC.kd=Kd.oth:=ID rfl
theorem aq5:aCC.kd.agg=false:=ID rfl
theorem ajU:aCC.size=1:=ID rfl
theorem aeL:aCC.bytes=8:=ID rfl
theorem aEZ:qw aCC=True:=eq_true rfl
theorem aE0:zc aCC=[.v Value.nilFunc]:=ID rfl
theorem baI{K:TI→Prop}:@tyW Tryz.prog 77 ⟨K⟩=K aCB:=qh bbN
theorem aEY:aCB.kd=Kd.oth:=ID rfl
theorem aq4:aCB.kd.agg=false:=ID rfl
theorem ajT:aCB.size=1:=ID rfl
theorem aeK:aCB.bytes=8:=ID rfl
theorem aEW:qw aCB=True:=eq_true rfl
theorem aEX:zc aCB=[.v Value.nilFunc]:=ID rfl
theorem baH{K:TI→Prop}:@tyW Tryz.prog 79 ⟨K⟩=K aCA:=qh bbM
theorem aEV:aCA.kd=Kd.oth:=ID rfl
theorem aq3:aCA.kd.agg=false:=ID rfl
theorem ajS:aCA.size=1:=ID rfl
theorem aeJ:aCA.bytes=8:=ID rfl
theorem aET:qw aCA=True:=eq_true rfl
theorem aEU:zc aCA=[.v Value.nilFunc]:=ID rfl
theorem baG{K:TI→Prop}:@tyW Tryz.prog 80 ⟨K⟩=K aCz:=qh bbL
theorem aER:aCz.kd=Kd.oth:=ID rfl
theorem aq1:aCz.kd.agg=false:=ID rfl
theorem ajQ:aCz.size=1:=ID rfl
theorem aeI:aCz.bytes=8:=ID rfl
theorem aEP:qw aCz=True:=eq_true rfl
theorem aEQ:zc aCz=[.v Value.nilFunc]:=ID rfl
theorem baF{K:TI→Prop}:@tyW Tryz.prog 82 ⟨K⟩=K aCy:=qh bbK
theorem aEO:aCy.kd=Kd.oth:=ID rfl
theorem aq0:aCy.kd.agg=false:=ID rfl
theorem ajP:aCy.size=1:=ID rfl
theorem aeH:aCy.bytes=8:=ID rfl
theorem aEM:qw aCy=True:=eq_true rfl
theorem aEN:zc aCy=[.v Value.nilFunc]:=ID rfl
theorem baE{K:TI→Prop}:@tyW Tryz.prog 83 ⟨K⟩=K aCx:=qh bbJ
theorem aEL:aCx.kd=Kd.oth:=ID rfl
theorem aqZ:aCx.kd.agg=false:=ID rfl
theorem ajO:aCx.size=1:=ID rfl
theorem aeG:aCx.bytes=8:=ID rfl
theorem aEJ:qw aCx=True:=eq_true rfl
theorem aEK:zc aCx=[.v Value.nilFunc]:=ID rfl
theorem baD{K:TI→Prop}:@tyW Tryz.prog 84 ⟨K⟩=K aCw:=qh bbI
theorem aEI:aCw.kd=Kd.oth:=ID rfl
theorem aqY:aCw.kd.agg=false:=ID rfl
theorem ajN:aCw.size=1:=ID rfl
theorem aeF:aCw.bytes=8:=ID rfl
theorem aEG:qw aCw=True:=eq_true rfl
theorem aEH:zc aCw=[.v Value.nilFunc]:=ID rfl
theorem baC{K:TI→Prop}:@tyW Tryz.prog 85 ⟨K⟩=K aCv:=qh bbH
theorem aEF:aCv.kd=Kd.oth:=ID rfl
theorem aqX:aCv.kd.agg=false:=ID rfl
theorem ajM:aCv.size=1:=ID rfl
theorem aeE:aCv.bytes=8:=ID rfl
theorem aED:qw aCv=True:=eq_true rfl
theorem aEE:zc aCv=[.v Value.nilFunc]:=ID rfl
theorem baB{K:TI→Prop}:@tyW Tryz.prog 86 ⟨K⟩=K aCu:=qh bbG
theorem aEC:aCu.kd=Kd.oth:=ID rfl
theorem aqW:aCu.kd.agg=false:=ID rfl
theorem ajL:aCu.size=1:=ID rfl
theorem aeD:aCu.bytes=8:=ID rfl
theorem aEA:qw aCu=True:=eq_true rfl
theorem aEB:zc aCu=[.v Value.nilFunc]:=ID rfl
theorem baA{K:TI→Prop}:@tyW Tryz.prog 87 ⟨K⟩=K aCt:=qh bbF
theorem aEz:aCt.kd=Kd.oth:=ID rfl
theorem aqV:aCt.kd.agg=false:=ID rfl
theorem ajK:aCt.size=1:=ID rfl
theorem aeC:aCt.bytes=8:=ID rfl
theorem aEx:qw aCt=True:=eq_true rfl
theorem aEy:zc aCt=[.v Value.nilFunc]:=ID rfl
theorem baz{K:TI→Prop}:@tyW Tryz.prog 88 ⟨K⟩=K aCs:=qh bbE
theorem aEw:aCs.kd=Kd.oth:=ID rfl
theorem aqU:aCs.kd.agg=false:=ID rfl
theorem ajJ:aCs.size=1:=ID rfl
theorem aeB:aCs.bytes=8:=ID rfl
theorem aEu:qw aCs=True:=eq_true rfl
theorem aEv:zc aCs=[.v Value.nilFunc]:=ID rfl
theorem bay{K:TI→Prop}:@tyW Tryz.prog 89 ⟨K⟩=K ajm:=qh aMj
theorem aEt:ajm.kd=Kd.stru [(0,4),(1,23),(2,3)]:=ID rfl
theorem aqT:ajm.kd.agg=true:=ID rfl
theorem ajI:ajm.size=3:=ID rfl
theorem aeA:ajm.bytes=40:=ID rfl
theorem aEr:qw ajm=True:=eq_true rfl
theorem aEs:zc ajm=[.v (Value.bool false),.v (Value.slice none 0 0),.v (Value.int IntKind.i64 0)]:=ID rfl
theorem aJU{K:Nat→TI→Prop}:@qA Tryz.prog 89 0 ⟨K⟩=K 0 ti4:=qr (ti:=ajm) (tf:=ti4) (fo:=(0,4)) (fs:=[(0,4),(1,23),(2,3)]) aMj rfl rfl tf4
theorem aMZ{K:Nat→Nat→Prop}:qs Tryz.prog [(0,4),(1,23),(2,3)] 0 K=K 0 1:=qq (tf:=ti4) (fo:=(0,4)) (fs:=[(0,4),(1,23),(2,3)]) rfl tf4
theorem aJT{K:Nat→TI→Prop}:@qA Tryz.prog 89 1 ⟨K⟩=K 1 Jd:=qr (ti:=ajm) (tf:=Jd) (fo:=(1,23)) (fs:=[(0,4),(1,23),(2,3)]) aMj rfl rfl adT
theorem aMY{K:Nat→Nat→Prop}:qs Tryz.prog [(0,4),(1,23),(2,3)] 1 K=K 1 1:=qq (tf:=Jd) (fo:=(1,23)) (fs:=[(0,4),(1,23),(2,3)]) rfl adT
theorem aJS{K:Nat→TI→Prop}:@qA Tryz.prog 89 2 ⟨K⟩=K 2 ti3:=qr (ti:=ajm) (tf:=ti3) (fo:=(2,3)) (fs:=[(0,4),(1,23),(2,3)]) aMj rfl rfl tf3
theorem aMX{K:Nat→Nat→Prop}:qs Tryz.prog [(0,4),(1,23),(2,3)] 2 K=K 2 1:=qq (tf:=ti3) (fo:=(2,3)) (fs:=[(0,4),(1,23),(2,3)]) rfl tf3
theorem aNZ:∀f∈([(0,4),(1,23),(2,3)]:List (Nat×Nat)),(qn Tryz.prog f.2).isSome=true:=by
 intro f hf
 simp only[List.mem_cons,List.not_mem_nil,or_false]at hf
 rcases hf with rfl|rfl|rfl
 ·rw[tf4];rfl
 ·rw[adT];rfl
 ·rw[tf3];rfl
theorem aZV{ps:List (Nat×AV)}{K:AV→Prop}:@q9 Tryz.prog 89 ps ⟨K⟩=@za (qs Tryz.prog [(0,4),(1,23),(2,3)]) (zc ajm) ps ⟨fun cs=>K (.ag cs)⟩:=qI aMj rfl aNZ
theorem bax{K:TI→Prop}:@tyW Tryz.prog 90 ⟨K⟩=K QL:=qh YG
theorem aEp:QL.kd=Kd.stru [(0,4),(1,23),(2,3)]:=ID rfl
theorem aqR:QL.kd.agg=true:=ID rfl
theorem ajG:QL.size=3:=ID rfl
theorem aez:QL.bytes=40:=ID rfl
theorem aEn:qw QL=True:=eq_true rfl
theorem aEo:zc QL=[.v (Value.bool false),.v (Value.slice none 0 0),.v (Value.int IntKind.i64 0)]:=ID rfl
theorem aJR{K:Nat→TI→Prop}:@qA Tryz.prog 90 0 ⟨K⟩=K 0 ti4:=qr (ti:=QL) (tf:=ti4) (fo:=(0,4)) (fs:=[(0,4),(1,23),(2,3)]) YG rfl rfl tf4
theorem aMW{K:Nat→Nat→Prop}:qs Tryz.prog [(0,4),(1,23),(2,3)] 0 K=K 0 1:=qq (tf:=ti4) (fo:=(0,4)) (fs:=[(0,4),(1,23),(2,3)]) rfl tf4
theorem aJQ{K:Nat→TI→Prop}:@qA Tryz.prog 90 1 ⟨K⟩=K 1 Jd:=qr (ti:=QL) (tf:=Jd) (fo:=(1,23)) (fs:=[(0,4),(1,23),(2,3)]) YG rfl rfl adT
theorem aMV{K:Nat→Nat→Prop}:qs Tryz.prog [(0,4),(1,23),(2,3)] 1 K=K 1 1:=qq (tf:=Jd) (fo:=(1,23)) (fs:=[(0,4),(1,23),(2,3)]) rfl adT
theorem aJP{K:Nat→TI→Prop}:@qA Tryz.prog 90 2 ⟨K⟩=K 2 ti3:=qr (ti:=QL) (tf:=ti3) (fo:=(2,3)) (fs:=[(0,4),(1,23),(2,3)]) YG rfl rfl tf3
theorem aMU{K:Nat→Nat→Prop}:qs Tryz.prog [(0,4),(1,23),(2,3)] 2 K=K 2 1:=qq (tf:=ti3) (fo:=(2,3)) (fs:=[(0,4),(1,23),(2,3)]) rfl tf3
theorem aNY:∀f∈([(0,4),(1,23),(2,3)]:List (Nat×Nat)),(qn Tryz.prog f.2).isSome=true:=by
 intro f hf
 simp only[List.mem_cons,List.not_mem_nil,or_false]at hf
 rcases hf with rfl|rfl|rfl
 ·rw[tf4];rfl
 ·rw[adT];rfl
 ·rw[tf3];rfl
theorem aZU{ps:List (Nat×AV)}{K:AV→Prop}:@q9 Tryz.prog 90 ps ⟨K⟩=@za (qs Tryz.prog [(0,4),(1,23),(2,3)]) (zc QL) ps ⟨fun cs=>K (.ag cs)⟩:=qI YG rfl aNY
theorem baw{K:TI→Prop}:@tyW Tryz.prog 92 ⟨K⟩=K aCr:=qh bbD
theorem aEm:aCr.kd=Kd.oth:=ID rfl
theorem aqQ:aCr.kd.agg=false:=ID rfl
theorem ajF:aCr.size=1:=ID rfl
theorem aey:aCr.bytes=8:=ID rfl
theorem aEk:qw aCr=True:=eq_true rfl
theorem aEl:zc aCr=[.v Value.nilFunc]:=ID rfl
theorem bav{K:TI→Prop}:@tyW Tryz.prog 93 ⟨K⟩=K aCq:=qh bbC
theorem aEj:aCq.kd=Kd.oth:=ID rfl
theorem aqP:aCq.kd.agg=false:=ID rfl
theorem ajE:aCq.size=1:=ID rfl
theorem aex:aCq.bytes=8:=ID rfl
theorem aEh:qw aCq=True:=eq_true rfl
theorem aEi:zc aCq=[.v Value.nilFunc]:=ID rfl
theorem bau{K:TI→Prop}:@tyW Tryz.prog 94 ⟨K⟩=K aCp:=qh bbB
theorem aEg:aCp.kd=Kd.oth:=ID rfl
theorem aqO:aCp.kd.agg=false:=ID rfl
theorem ajD:aCp.size=1:=ID rfl
theorem aew:aCp.bytes=8:=ID rfl
theorem aEe:qw aCp=True:=eq_true rfl
theorem aEf:zc aCp=[.v Value.nilFunc]:=ID rfl
theorem bat{K:TI→Prop}:@tyW Tryz.prog 95 ⟨K⟩=K aCo:=qh bbA
theorem aEd:aCo.kd=Kd.oth:=ID rfl
theorem aqN:aCo.kd.agg=false:=ID rfl
theorem ajC:aCo.size=1:=ID rfl
theorem aev:aCo.bytes=8:=ID rfl
theorem aEb:qw aCo=True:=eq_true rfl
theorem aEc:zc aCo=[.v Value.nilFunc]:=ID rfl
theorem bas{K:TI→Prop}:@tyW Tryz.prog 97 ⟨K⟩=K aCn:=qh bbz
theorem aEa:aCn.kd=Kd.oth:=ID rfl
theorem aqM:aCn.kd.agg=false:=ID rfl
theorem ajB:aCn.size=1:=ID rfl
theorem aeu:aCn.bytes=8:=ID rfl
theorem aD8:qw aCn=True:=eq_true rfl
theorem aD9:zc aCn=[.v Value.nilFunc]:=ID rfl
theorem bar{K:TI→Prop}:@tyW Tryz.prog 98 ⟨K⟩=K aCm:=qh bby
theorem aD7:aCm.kd=Kd.oth:=ID rfl
theorem aqL:aCm.kd.agg=false:=ID rfl
theorem ajA:aCm.size=1:=ID rfl
theorem aet:aCm.bytes=8:=ID rfl
theorem aD5:qw aCm=True:=eq_true rfl
theorem aD6:zc aCm=[.v Value.nilFunc]:=ID rfl
theorem baq{K:TI→Prop}:@tyW Tryz.prog 99 ⟨K⟩=K aCl:=qh bbx
theorem aD4:aCl.kd=Kd.oth:=ID rfl
theorem aqK:aCl.kd.agg=false:=ID rfl
theorem ajz:aCl.size=1:=ID rfl
theorem aes:aCl.bytes=8:=ID rfl
theorem aD2:qw aCl=True:=eq_true rfl
theorem aD3:zc aCl=[.v Value.nilFunc]:=ID rfl
theorem aVo{K:TI→Prop}:@tyW Tryz.prog 100 ⟨K⟩=K yC:=qh JP
theorem azt:yC.kd=Kd.sli 90:=ID rfl
theorem anq:yC.kd.agg=false:=ID rfl
theorem ah3:yC.size=1:=ID rfl
theorem acL:yC.bytes=24:=ID rfl
theorem azr:qw yC=True:=eq_true rfl
theorem azs:zc yC=[.v (Value.slice none 0 0)]:=ID rfl
theorem aME{K:TI→Prop}:@yu Tryz.prog 100 ⟨K⟩=K QL:=QC JP rfl YG
theorem aVn{K:TI→Prop}:@tyW Tryz.prog 101 ⟨K⟩=K Zc:=qh azD
theorem azq:Zc.kd=Kd.stru [(0,3),(1,100)]:=ID rfl
theorem anp:Zc.kd.agg=true:=ID rfl
theorem ah2:Zc.size=2:=ID rfl
theorem acK:Zc.bytes=32:=ID rfl
theorem azo:qw Zc=True:=eq_true rfl
theorem azp:zc Zc=[.v (Value.int IntKind.i64 0),.v (Value.slice none 0 0)]:=ID rfl
theorem aBn{K:Nat→TI→Prop}:@qA Tryz.prog 101 0 ⟨K⟩=K 0 ti3:=qr (ti:=Zc) (tf:=ti3) (fo:=(0,3)) (fs:=[(0,3),(1,100)]) azD rfl rfl tf3
theorem aIn{K:Nat→Nat→Prop}:qs Tryz.prog [(0,3),(1,100)] 0 K=K 0 1:=qq (tf:=ti3) (fo:=(0,3)) (fs:=[(0,3),(1,100)]) rfl tf3
theorem aBm{K:Nat→TI→Prop}:@qA Tryz.prog 101 1 ⟨K⟩=K 1 yC:=qr (ti:=Zc) (tf:=yC) (fo:=(1,100)) (fs:=[(0,3),(1,100)]) azD rfl rfl JP
theorem aIm{K:Nat→Nat→Prop}:qs Tryz.prog [(0,3),(1,100)] 1 K=K 1 1:=qq (tf:=yC) (fo:=(1,100)) (fs:=[(0,3),(1,100)]) rfl JP
theorem aJJ:∀f∈([(0,3),(1,100)]:List (Nat×Nat)),(qn Tryz.prog f.2).isSome=true:=by
 intro f hf
 simp only[List.mem_cons,List.not_mem_nil,or_false]at hf
 rcases hf with rfl|rfl
 ·rw[tf3];rfl
 ·rw[JP];rfl
theorem aSj{ps:List (Nat×AV)}{K:AV→Prop}:@q9 Tryz.prog 101 ps ⟨K⟩=@za (qs Tryz.prog [(0,3),(1,100)]) (zc Zc) ps ⟨fun cs=>K (.ag cs)⟩:=qI azD rfl aJJ
theorem aVm{K:TI→Prop}:@tyW Tryz.prog 102 ⟨K⟩=K Zb:=qh azC
theorem azn:Zb.kd=Kd.stru [(0,3),(1,100)]:=ID rfl
theorem ano:Zb.kd.agg=true:=ID rfl
theorem ah1:Zb.size=2:=ID rfl
theorem acJ:Zb.bytes=32:=ID rfl
theorem azl:qw Zb=True:=eq_true rfl
theorem azm:zc Zb=[.v (Value.int IntKind.i64 0),.v (Value.slice none 0 0)]:=ID rfl
theorem aBl{K:Nat→TI→Prop}:@qA Tryz.prog 102 0 ⟨K⟩=K 0 ti3:=qr (ti:=Zb) (tf:=ti3) (fo:=(0,3)) (fs:=[(0,3),(1,100)]) azC rfl rfl tf3
theorem aIl{K:Nat→Nat→Prop}:qs Tryz.prog [(0,3),(1,100)] 0 K=K 0 1:=qq (tf:=ti3) (fo:=(0,3)) (fs:=[(0,3),(1,100)]) rfl tf3
theorem aBk{K:Nat→TI→Prop}:@qA Tryz.prog 102 1 ⟨K⟩=K 1 yC:=qr (ti:=Zb) (tf:=yC) (fo:=(1,100)) (fs:=[(0,3),(1,100)]) azC rfl rfl JP
theorem aIk{K:Nat→Nat→Prop}:qs Tryz.prog [(0,3),(1,100)] 1 K=K 1 1:=qq (tf:=yC) (fo:=(1,100)) (fs:=[(0,3),(1,100)]) rfl JP
theorem aJI:∀f∈([(0,3),(1,100)]:List (Nat×Nat)),(qn Tryz.prog f.2).isSome=true:=by
 intro f hf
 simp only[List.mem_cons,List.not_mem_nil,or_false]at hf
 rcases hf with rfl|rfl
 ·rw[tf3];rfl
 ·rw[JP];rfl
theorem aSi{ps:List (Nat×AV)}{K:AV→Prop}:@q9 Tryz.prog 102 ps ⟨K⟩=@za (qs Tryz.prog [(0,3),(1,100)]) (zc Zb) ps ⟨fun cs=>K (.ag cs)⟩:=qI azC rfl aJI
theorem aVl{K:TI→Prop}:@tyW Tryz.prog 103 ⟨K⟩=K VZ:=qh aXE
theorem azk:VZ.kd=Kd.oth:=ID rfl
theorem ann:VZ.kd.agg=false:=ID rfl
theorem ah0:VZ.size=1:=ID rfl
theorem acI:VZ.bytes=8:=ID rfl
theorem azi:qw VZ=True:=eq_true rfl
theorem azj:zc VZ=[.v Value.nilFunc]:=ID rfl
theorem aVk{K:TI→Prop}:@tyW Tryz.prog 104 ⟨K⟩=K VY:=qh aXD
theorem azh:VY.kd=Kd.oth:=ID rfl
theorem anm:VY.kd.agg=false:=ID rfl
theorem ahZ:VY.size=1:=ID rfl
theorem acH:VY.bytes=8:=ID rfl
theorem azf:qw VY=True:=eq_true rfl
theorem azg:zc VY=[.v Value.nilFunc]:=ID rfl
theorem aVj{K:TI→Prop}:@tyW Tryz.prog 105 ⟨K⟩=K VX:=qh aXC
theorem aze:VX.kd=Kd.oth:=ID rfl
theorem anl:VX.kd.agg=false:=ID rfl
theorem ahY:VX.size=1:=ID rfl
theorem acG:VX.bytes=8:=ID rfl
theorem azc:qw VX=True:=eq_true rfl
theorem azd:zc VX=[.v Value.nilFunc]:=ID rfl
theorem aVi{K:TI→Prop}:@tyW Tryz.prog 106 ⟨K⟩=K VW:=qh aXB
theorem azb:VW.kd=Kd.oth:=ID rfl
theorem ank:VW.kd.agg=false:=ID rfl
theorem ahX:VW.size=1:=ID rfl
theorem acF:VW.bytes=8:=ID rfl
theorem ay9:qw VW=True:=eq_true rfl
theorem aza:zc VW=[.v Value.nilFunc]:=ID rfl
theorem aVh{K:TI→Prop}:@tyW Tryz.prog 107 ⟨K⟩=K VV:=qh aXA
theorem ay8:VV.kd=Kd.oth:=ID rfl
theorem anj:VV.kd.agg=false:=ID rfl
theorem ahW:VV.size=1:=ID rfl
theorem acE:VV.bytes=8:=ID rfl
theorem ay6:qw VV=True:=eq_true rfl
theorem ay7:zc VV=[.v Value.nilFunc]:=ID rfl
theorem aVg{K:TI→Prop}:@tyW Tryz.prog 108 ⟨K⟩=K VU:=qh aXz
theorem ay5:VU.kd=Kd.oth:=ID rfl
theorem ani:VU.kd.agg=false:=ID rfl
theorem ahV:VU.size=1:=ID rfl
theorem acD:VU.bytes=8:=ID rfl
theorem ay3:qw VU=True:=eq_true rfl
theorem ay4:zc VU=[.v Value.nilFunc]:=ID rfl
theorem aVf{K:TI→Prop}:@tyW Tryz.prog 109 ⟨K⟩=K VT:=qh aXy
theorem ay2:VT.kd=Kd.oth:=ID rfl
theorem anh:VT.kd.agg=false:=ID rfl
theorem ahU:VT.size=1:=ID rfl
theorem acC:VT.bytes=8:=ID rfl
theorem ay0:qw VT=True:=eq_true rfl
theorem ay1:zc VT=[.v Value.nilFunc]:=ID rfl
theorem aVe{K:TI→Prop}:@tyW Tryz.prog 110 ⟨K⟩=K Za:=qh azB
theorem ayY:Za.kd=Kd.stru [(0,90),(3,90)]:=ID rfl
theorem anf:Za.kd.agg=true:=ID rfl
theorem ahS:Za.size=6:=ID rfl
theorem acB:Za.bytes=80:=ID rfl
theorem ayW:qw Za=True:=eq_true rfl
theorem ayX:zc Za=[.v (Value.bool false),.v (Value.slice none 0 0),.v (Value.int IntKind.i64 0),.v (Value.bool false),.v (Value.slice none 0 0),.v (Value.int IntKind.i64 0)]:=ID rfl
theorem aBj{K:Nat→TI→Prop}:@qA Tryz.prog 110 0 ⟨K⟩=K 0 QL:=qr (ti:=Za) (tf:=QL) (fo:=(0,90)) (fs:=[(0,90),(3,90)]) azB rfl rfl YG
theorem aIj{K:Nat→Nat→Prop}:qs Tryz.prog [(0,90),(3,90)] 0 K=K 0 3:=qq (tf:=QL) (fo:=(0,90)) (fs:=[(0,90),(3,90)]) rfl YG
theorem aBi{K:Nat→TI→Prop}:@qA Tryz.prog 110 1 ⟨K⟩=K 3 QL:=qr (ti:=Za) (tf:=QL) (fo:=(3,90)) (fs:=[(0,90),(3,90)]) azB rfl rfl YG
theorem aIi{K:Nat→Nat→Prop}:qs Tryz.prog [(0,90),(3,90)] 1 K=K 3 3:=qq (tf:=QL) (fo:=(3,90)) (fs:=[(0,90),(3,90)]) rfl YG
theorem aJH:∀f∈([(0,90),(3,90)]:List (Nat×Nat)),(qn Tryz.prog f.2).isSome=true:=by
 intro f hf
 simp only[List.mem_cons,List.not_mem_nil,or_false]at hf
 rcases hf with rfl|rfl
 ·rw[YG];rfl
 ·rw[YG];rfl
theorem aSh{ps:List (Nat×AV)}{K:AV→Prop}:@q9 Tryz.prog 110 ps ⟨K⟩=@za (qs Tryz.prog [(0,90),(3,90)]) (zc Za) ps ⟨fun cs=>K (.ag cs)⟩:=qI azB rfl aJH
theorem aVd{K:TI→Prop}:@tyW Tryz.prog 111 ⟨K⟩=K QO:=qh anu
theorem ayV:QO.kd=Kd.stru [(0,90),(3,90)]:=ID rfl
theorem ane:QO.kd.agg=true:=ID rfl
theorem ahR:QO.size=6:=ID rfl
theorem acA:QO.bytes=80:=ID rfl
theorem ayT:qw QO=True:=eq_true rfl
theorem ayU:zc QO=[.v (Value.bool false),.v (Value.slice none 0 0),.v (Value.int IntKind.i64 0),.v (Value.bool false),.v (Value.slice none 0 0),.v (Value.int IntKind.i64 0)]:=ID rfl
theorem aBh{K:Nat→TI→Prop}:@qA Tryz.prog 111 0 ⟨K⟩=K 0 QL:=qr (ti:=QO) (tf:=QL) (fo:=(0,90)) (fs:=[(0,90),(3,90)]) anu rfl rfl YG
theorem aIh{K:Nat→Nat→Prop}:qs Tryz.prog [(0,90),(3,90)] 0 K=K 0 3:=qq (tf:=QL) (fo:=(0,90)) (fs:=[(0,90),(3,90)]) rfl YG
theorem aBg{K:Nat→TI→Prop}:@qA Tryz.prog 111 1 ⟨K⟩=K 3 QL:=qr (ti:=QO) (tf:=QL) (fo:=(3,90)) (fs:=[(0,90),(3,90)]) anu rfl rfl YG
theorem aIg{K:Nat→Nat→Prop}:qs Tryz.prog [(0,90),(3,90)] 1 K=K 3 3:=qq (tf:=QL) (fo:=(3,90)) (fs:=[(0,90),(3,90)]) rfl YG
theorem aJG:∀f∈([(0,90),(3,90)]:List (Nat×Nat)),(qn Tryz.prog f.2).isSome=true:=by
 intro f hf
 simp only[List.mem_cons,List.not_mem_nil,or_false]at hf
 rcases hf with rfl|rfl
 ·rw[YG];rfl
 ·rw[YG];rfl
theorem aSg{ps:List (Nat×AV)}{K:AV→Prop}:@q9 Tryz.prog 111 ps ⟨K⟩=@za (qs Tryz.prog [(0,90),(3,90)]) (zc QO) ps ⟨fun cs=>K (.ag cs)⟩:=qI anu rfl aJG
theorem aVc{K:TI→Prop}:@tyW Tryz.prog 113 ⟨K⟩=K VS:=qh aXx
theorem ayS:VS.kd=Kd.oth:=ID rfl
theorem anc:VS.kd.agg=false:=ID rfl
theorem ahQ:VS.size=1:=ID rfl
theorem acz:VS.bytes=8:=ID rfl
theorem ayQ:qw VS=True:=eq_true rfl
theorem ayR:zc VS=[.v Value.nilFunc]:=ID rfl
theorem aVb{K:TI→Prop}:@tyW Tryz.prog 114 ⟨K⟩=K VR:=qh aXw
theorem ayP:VR.kd=Kd.oth:=ID rfl
theorem anb:VR.kd.agg=false:=ID rfl
theorem ahP:VR.size=1:=ID rfl
theorem acy:VR.bytes=8:=ID rfl
theorem ayN:qw VR=True:=eq_true rfl
theorem ayO:zc VR=[.v Value.nilFunc]:=ID rfl
theorem aVa{K:TI→Prop}:@tyW Tryz.prog 115 ⟨K⟩=K VQ:=qh aXv
theorem ayM:VQ.kd=Kd.oth:=ID rfl
theorem ana:VQ.kd.agg=false:=ID rfl
theorem ahO:VQ.size=1:=ID rfl
theorem acx:VQ.bytes=8:=ID rfl
theorem ayK:qw VQ=True:=eq_true rfl
theorem ayL:zc VQ=[.v Value.nilFunc]:=ID rfl
theorem aU9{K:TI→Prop}:@tyW Tryz.prog 116 ⟨K⟩=K VP:=qh aXu
theorem ayJ:VP.kd=Kd.oth:=ID rfl
theorem am9:VP.kd.agg=false:=ID rfl
theorem ahN:VP.size=1:=ID rfl
theorem acw:VP.bytes=8:=ID rfl
theorem ayH:qw VP=True:=eq_true rfl
theorem ayI:zc VP=[.v Value.nilFunc]:=ID rfl
theorem aU8{K:TI→Prop}:@tyW Tryz.prog 117 ⟨K⟩=K VO:=qh aXt
theorem ayG:VO.kd=Kd.oth:=ID rfl
theorem am8:VO.kd.agg=false:=ID rfl
theorem ahM:VO.size=1:=ID rfl
theorem acv:VO.bytes=8:=ID rfl
theorem ayE:qw VO=True:=eq_true rfl
theorem ayF:zc VO=[.v Value.nilFunc]:=ID rfl
theorem aU7{K:TI→Prop}:@tyW Tryz.prog 118 ⟨K⟩=K VN:=qh aXs
theorem ayD:VN.kd=Kd.oth:=ID rfl
theorem am7:VN.kd.agg=false:=ID rfl
theorem ahL:VN.size=1:=ID rfl
theorem acu:VN.bytes=8:=ID rfl
theorem ayB:qw VN=True:=eq_true rfl
theorem ayC:zc VN=[.v Value.nilFunc]:=ID rfl
theorem aU6{K:TI→Prop}:@tyW Tryz.prog 119 ⟨K⟩=K VM:=qh aXr
theorem ayA:VM.kd=Kd.oth:=ID rfl
theorem am6:VM.kd.agg=false:=ID rfl
theorem ahK:VM.size=1:=ID rfl
theorem act:VM.bytes=8:=ID rfl
theorem ayy:qw VM=True:=eq_true rfl
theorem ayz:zc VM=[.v Value.nilFunc]:=ID rfl
theorem aU5{K:TI→Prop}:@tyW Tryz.prog 120 ⟨K⟩=K VL:=qh aXq
theorem ayw:VL.kd=Kd.oth:=ID rfl
theorem am4:VL.kd.agg=false:=ID rfl
theorem ahI:VL.size=1:=ID rfl
theorem acs:VL.bytes=8:=ID rfl
theorem ayu:qw VL=True:=eq_true rfl
theorem ayv:zc VL=[.v Value.nilFunc]:=ID rfl
theorem aU4{K:TI→Prop}:@tyW Tryz.prog 121 ⟨K⟩=K VK:=qh aXp
theorem ayt:VK.kd=Kd.oth:=ID rfl
theorem am3:VK.kd.agg=false:=ID rfl
theorem ahH:VK.size=1:=ID rfl
theorem acr:VK.bytes=8:=ID rfl
theorem ayr:qw VK=True:=eq_true rfl
theorem ays:zc VK=[.v Value.nilFunc]:=ID rfl
theorem aU3{K:TI→Prop}:@tyW Tryz.prog 122 ⟨K⟩=K VJ:=qh aXo
theorem ayq:VJ.kd=Kd.oth:=ID rfl
theorem am2:VJ.kd.agg=false:=ID rfl
theorem ahG:VJ.size=1:=ID rfl
theorem acq:VJ.bytes=8:=ID rfl
theorem ayo:qw VJ=True:=eq_true rfl
theorem ayp:zc VJ=[.v Value.nilFunc]:=ID rfl
theorem aU2{K:TI→Prop}:@tyW Tryz.prog 123 ⟨K⟩=K VI:=qh aXn
theorem ayn:VI.kd=Kd.oth:=ID rfl
theorem am1:VI.kd.agg=false:=ID rfl
theorem ahF:VI.size=1:=ID rfl
theorem acp:VI.bytes=8:=ID rfl
theorem ayl:qw VI=True:=eq_true rfl
theorem aym:zc VI=[.v Value.nilFunc]:=ID rfl
theorem aU1{K:TI→Prop}:@tyW Tryz.prog 124 ⟨K⟩=K VH:=qh aXm
theorem ayk:VH.kd=Kd.oth:=ID rfl
theorem am0:VH.kd.agg=false:=ID rfl
theorem ahE:VH.size=1:=ID rfl
theorem aco:VH.bytes=8:=ID rfl
theorem ayi:qw VH=True:=eq_true rfl
theorem ayj:zc VH=[.v Value.nilFunc]:=ID rfl
theorem aU0{K:TI→Prop}:@tyW Tryz.prog 125 ⟨K⟩=K VG:=qh aXl
theorem ayh:VG.kd=Kd.oth:=ID rfl
theorem amZ:VG.kd.agg=false:=ID rfl
theorem ahD:VG.size=1:=ID rfl
theorem acn:VG.bytes=8:=ID rfl
theorem ayf:qw VG=True:=eq_true rfl
theorem ayg:zc VG=[.v Value.nilFunc]:=ID rfl
theorem aUZ{K:TI→Prop}:@tyW Tryz.prog 126 ⟨K⟩=K VF:=qh aXk
theorem aye:VF.kd=Kd.oth:=ID rfl
theorem amY:VF.kd.agg=false:=ID rfl
theorem ahC:VF.size=1:=ID rfl
theorem acm:VF.bytes=8:=ID rfl
theorem ayc:qw VF=True:=eq_true rfl
theorem ayd:zc VF=[.v Value.nilFunc]:=ID rfl
theorem aUY{K:TI→Prop}:@tyW Tryz.prog 127 ⟨K⟩=K VE:=qh aXj
theorem ayb:VE.kd=Kd.oth:=ID rfl
theorem amX:VE.kd.agg=false:=ID rfl
theorem ahB:VE.size=1:=ID rfl
theorem acl:VE.bytes=8:=ID rfl
theorem ax9:qw VE=True:=eq_true rfl
theorem aya:zc VE=[.v Value.nilFunc]:=ID rfl
theorem aUX{K:TI→Prop}:@tyW Tryz.prog 128 ⟨K⟩=K VD:=qh aXi
theorem ax8:VD.kd=Kd.oth:=ID rfl
theorem amW:VD.kd.agg=false:=ID rfl
theorem ahA:VD.size=1:=ID rfl
theorem ack:VD.bytes=8:=ID rfl
theorem ax6:qw VD=True:=eq_true rfl
theorem ax7:zc VD=[.v Value.nilFunc]:=ID rfl
theorem aUW{K:TI→Prop}:@tyW Tryz.prog 129 ⟨K⟩=K VC:=qh aXh
theorem ax5:VC.kd=Kd.oth:=ID rfl
theorem amV:VC.kd.agg=false:=ID rfl
theorem ahz:VC.size=1:=ID rfl
theorem acj:VC.bytes=8:=ID rfl
theorem ax3:qw VC=True:=eq_true rfl
theorem ax4:zc VC=[.v Value.nilFunc]:=ID rfl
theorem aUV{K:TI→Prop}:@tyW Tryz.prog 130 ⟨K⟩=K VB:=qh aXg
theorem ax1:VB.kd=Kd.oth:=ID rfl
theorem amT:VB.kd.agg=false:=ID rfl
theorem ahx:VB.size=1:=ID rfl
theorem aci:VB.bytes=8:=ID rfl
theorem axZ:qw VB=True:=eq_true rfl
theorem ax0:zc VB=[.v Value.nilFunc]:=ID rfl
theorem aUU{K:TI→Prop}:@tyW Tryz.prog 131 ⟨K⟩=K VA:=qh aXf
theorem axY:VA.kd=Kd.oth:=ID rfl
theorem amS:VA.kd.agg=false:=ID rfl
theorem ahw:VA.size=1:=ID rfl
theorem ach:VA.bytes=8:=ID rfl
theorem axW:qw VA=True:=eq_true rfl
theorem axX:zc VA=[.v Value.nilFunc]:=ID rfl
theorem aUT{K:TI→Prop}:@tyW Tryz.prog 132 ⟨K⟩=K Vz:=qh aXe
theorem axV:Vz.kd=Kd.int IntKind.u64:=ID rfl
theorem amR:Vz.kd.agg=false:=ID rfl
theorem ahv:Vz.size=1:=ID rfl
theorem acg:Vz.bytes=8:=ID rfl
theorem axT:qw Vz=True:=eq_true rfl
theorem axU:zc Vz=[.v (Value.int IntKind.u64 0)]:=ID rfl
theorem aUS{K:TI→Prop}:@tyW Tryz.prog 133 ⟨K⟩=K Vy:=qh aXd
theorem axS:Vy.kd=Kd.oth:=ID rfl
theorem amQ:Vy.kd.agg=false:=ID rfl
theorem ahu:Vy.size=1:=ID rfl
theorem acf:Vy.bytes=8:=ID rfl
theorem axQ:qw Vy=True:=eq_true rfl
theorem axR:zc Vy=[.v Value.nilFunc]:=ID rfl
theorem aUR{K:TI→Prop}:@tyW Tryz.prog 135 ⟨K⟩=K Vx:=qh aXc
theorem axP:Vx.kd=Kd.oth:=ID rfl
theorem amP:Vx.kd.agg=false:=ID rfl
theorem aht:Vx.size=1:=ID rfl
theorem ace:Vx.bytes=8:=ID rfl
theorem axN:qw Vx=True:=eq_true rfl
theorem axO:zc Vx=[.v Value.nilFunc]:=ID rfl
theorem aUQ{K:TI→Prop}:@tyW Tryz.prog 136 ⟨K⟩=K Vw:=qh aXb
theorem axM:Vw.kd=Kd.oth:=ID rfl
theorem amO:Vw.kd.agg=false:=ID rfl
theorem ahs:Vw.size=1:=ID rfl
theorem acd:Vw.bytes=8:=ID rfl
theorem axK:qw Vw=True:=eq_true rfl
theorem axL:zc Vw=[.v Value.nilFunc]:=ID rfl
theorem aUP{K:TI→Prop}:@tyW Tryz.prog 137 ⟨K⟩=K Vv:=qh aXa
theorem axJ:Vv.kd=Kd.oth:=ID rfl
theorem amN:Vv.kd.agg=false:=ID rfl
theorem ahr:Vv.size=1:=ID rfl
theorem acb:Vv.bytes=8:=ID rfl
theorem axH:qw Vv=True:=eq_true rfl
theorem axI:zc Vv=[.v Value.nilFunc]:=ID rfl
theorem aUO{K:TI→Prop}:@tyW Tryz.prog 138 ⟨K⟩=K Vu:=qh aW9
theorem axG:Vu.kd=Kd.oth:=ID rfl
theorem amM:Vu.kd.agg=false:=ID rfl
theorem ahq:Vu.size=1:=ID rfl
theorem aca:Vu.bytes=8:=ID rfl
theorem axE:qw Vu=True:=eq_true rfl
theorem axF:zc Vu=[.v Value.nilFunc]:=ID rfl
theorem aUN{K:TI→Prop}:@tyW Tryz.prog 139 ⟨K⟩=K Vt:=qh aW8
theorem axD:Vt.kd=Kd.oth:=ID rfl
theorem amL:Vt.kd.agg=false:=ID rfl
theorem ahp:Vt.size=1:=ID rfl
theorem ab9:Vt.bytes=8:=ID rfl
theorem axB:qw Vt=True:=eq_true rfl
theorem axC:zc Vt=[.v Value.nilFunc]:=ID rfl
theorem aUM{K:TI→Prop}:@tyW Tryz.prog 140 ⟨K⟩=K Vs:=qh aW7
theorem axA:Vs.kd=Kd.oth:=ID rfl
theorem amK:Vs.kd.agg=false:=ID rfl
theorem aho:Vs.size=1:=ID rfl
theorem ab8:Vs.bytes=8:=ID rfl
theorem axy:qw Vs=True:=eq_true rfl
theorem axz:zc Vs=[.v Value.nilFunc]:=ID rfl
theorem aUL{K:TI→Prop}:@tyW Tryz.prog 141 ⟨K⟩=K Vr:=qh aW6
theorem axx:Vr.kd=Kd.oth:=ID rfl
theorem amJ:Vr.kd.agg=false:=ID rfl
theorem ahn:Vr.size=1:=ID rfl
theorem ab7:Vr.bytes=8:=ID rfl
theorem axv:qw Vr=True:=eq_true rfl
theorem axw:zc Vr=[.v Value.nilFunc]:=ID rfl
theorem aUK{K:TI→Prop}:@tyW Tryz.prog 142 ⟨K⟩=K QN:=qh ant
theorem axu:QN.kd=Kd.stru [(0,22),(1,3),(2,3)]:=ID rfl
theorem amI:QN.kd.agg=true:=ID rfl
theorem ahm:QN.size=3:=ID rfl
theorem ab6:QN.bytes=40:=ID rfl
theorem axs:qw QN=True:=eq_true rfl
theorem axt:zc QN=[.v (Value.slice none 0 0),.v (Value.int IntKind.i64 0),.v (Value.int IntKind.i64 0)]:=ID rfl
theorem aBf{K:Nat→TI→Prop}:@qA Tryz.prog 142 0 ⟨K⟩=K 0 adR:=qr (ti:=QN) (tf:=adR) (fo:=(0,22)) (fs:=[(0,22),(1,3),(2,3)]) ant rfl rfl aDb
theorem aIf{K:Nat→Nat→Prop}:qs Tryz.prog [(0,22),(1,3),(2,3)] 0 K=K 0 1:=qq (tf:=adR) (fo:=(0,22)) (fs:=[(0,22),(1,3),(2,3)]) rfl aDb
theorem aBe{K:Nat→TI→Prop}:@qA Tryz.prog 142 1 ⟨K⟩=K 1 ti3:=qr (ti:=QN) (tf:=ti3) (fo:=(1,3)) (fs:=[(0,22),(1,3),(2,3)]) ant rfl rfl tf3
theorem aIe{K:Nat→Nat→Prop}:qs Tryz.prog [(0,22),(1,3),(2,3)] 1 K=K 1 1:=qq (tf:=ti3) (fo:=(1,3)) (fs:=[(0,22),(1,3),(2,3)]) rfl tf3
theorem aBd{K:Nat→TI→Prop}:@qA Tryz.prog 142 2 ⟨K⟩=K 2 ti3:=qr (ti:=QN) (tf:=ti3) (fo:=(2,3)) (fs:=[(0,22),(1,3),(2,3)]) ant rfl rfl tf3
theorem aId{K:Nat→Nat→Prop}:qs Tryz.prog [(0,22),(1,3),(2,3)] 2 K=K 2 1:=qq (tf:=ti3) (fo:=(2,3)) (fs:=[(0,22),(1,3),(2,3)]) rfl tf3
theorem aJF:∀f∈([(0,22),(1,3),(2,3)]:List (Nat×Nat)),(qn Tryz.prog f.2).isSome=true:=by
 intro f hf
 simp only[List.mem_cons,List.not_mem_nil,or_false]at hf
 rcases hf with rfl|rfl|rfl
 ·rw[aDb];rfl
 ·rw[tf3];rfl
 ·rw[tf3];rfl
theorem aSf{ps:List (Nat×AV)}{K:AV→Prop}:@q9 Tryz.prog 142 ps ⟨K⟩=@za (qs Tryz.prog [(0,22),(1,3),(2,3)]) (zc QN) ps ⟨fun cs=>K (.ag cs)⟩:=qI ant rfl aJF
theorem aUJ{K:TI→Prop}:@tyW Tryz.prog 143 ⟨K⟩=K QM:=qh ans
theorem axr:QM.kd=Kd.stru [(0,22),(1,3),(2,3)]:=ID rfl
theorem amH:QM.kd.agg=true:=ID rfl
theorem ahl:QM.size=3:=ID rfl
theorem ab5:QM.bytes=40:=ID rfl
theorem axp:qw QM=True:=eq_true rfl
theorem axq:zc QM=[.v (Value.slice none 0 0),.v (Value.int IntKind.i64 0),.v (Value.int IntKind.i64 0)]:=ID rfl
theorem aBc{K:Nat→TI→Prop}:@qA Tryz.prog 143 0 ⟨K⟩=K 0 adR:=qr (ti:=QM) (tf:=adR) (fo:=(0,22)) (fs:=[(0,22),(1,3),(2,3)]) ans rfl rfl aDb
theorem aIc{K:Nat→Nat→Prop}:qs Tryz.prog [(0,22),(1,3),(2,3)] 0 K=K 0 1:=qq (tf:=adR) (fo:=(0,22)) (fs:=[(0,22),(1,3),(2,3)]) rfl aDb
theorem aBb{K:Nat→TI→Prop}:@qA Tryz.prog 143 1 ⟨K⟩=K 1 ti3:=qr (ti:=QM) (tf:=ti3) (fo:=(1,3)) (fs:=[(0,22),(1,3),(2,3)]) ans rfl rfl tf3
theorem aIb{K:Nat→Nat→Prop}:qs Tryz.prog [(0,22),(1,3),(2,3)] 1 K=K 1 1:=qq (tf:=ti3) (fo:=(1,3)) (fs:=[(0,22),(1,3),(2,3)]) rfl tf3
theorem aBa{K:Nat→TI→Prop}:@qA Tryz.prog 143 2 ⟨K⟩=K 2 ti3:=qr (ti:=QM) (tf:=ti3) (fo:=(2,3)) (fs:=[(0,22),(1,3),(2,3)]) ans rfl rfl tf3
theorem aIa{K:Nat→Nat→Prop}:qs Tryz.prog [(0,22),(1,3),(2,3)] 2 K=K 2 1:=qq (tf:=ti3) (fo:=(2,3)) (fs:=[(0,22),(1,3),(2,3)]) rfl tf3
theorem aJE:∀f∈([(0,22),(1,3),(2,3)]:List (Nat×Nat)),(qn Tryz.prog f.2).isSome=true:=by
 intro f hf
 simp only[List.mem_cons,List.not_mem_nil,or_false]at hf
 rcases hf with rfl|rfl|rfl
 ·rw[aDb];rfl
 ·rw[tf3];rfl
 ·rw[tf3];rfl
theorem aSe{ps:List (Nat×AV)}{K:AV→Prop}:@q9 Tryz.prog 143 ps ⟨K⟩=@za (qs Tryz.prog [(0,22),(1,3),(2,3)]) (zc QM) ps ⟨fun cs=>K (.ag cs)⟩:=qI ans rfl aJE
theorem aUI{K:TI→Prop}:@tyW Tryz.prog 144 ⟨K⟩=K Vq:=qh aW5
theorem axo:Vq.kd=Kd.oth:=ID rfl
theorem amG:Vq.kd.agg=false:=ID rfl
theorem ahk:Vq.size=1:=ID rfl
theorem ab4:Vq.bytes=8:=ID rfl
theorem axm:qw Vq=True:=eq_true rfl
theorem axn:zc Vq=[.v Value.nilFunc]:=ID rfl
theorem aUH{K:TI→Prop}:@tyW Tryz.prog 145 ⟨K⟩=K Vp:=qh aW4
theorem axl:Vp.kd=Kd.oth:=ID rfl
theorem amF:Vp.kd.agg=false:=ID rfl
theorem ahj:Vp.size=1:=ID rfl
theorem ab3:Vp.bytes=8:=ID rfl
theorem axj:qw Vp=True:=eq_true rfl
theorem axk:zc Vp=[.v Value.nilFunc]:=ID rfl
theorem aUG{K:TI→Prop}:@tyW Tryz.prog 146 ⟨K⟩=K Vo:=qh aW3
theorem axi:Vo.kd=Kd.oth:=ID rfl
theorem amE:Vo.kd.agg=false:=ID rfl
theorem ahi:Vo.size=1:=ID rfl
theorem ab2:Vo.bytes=8:=ID rfl
theorem axg:qw Vo=True:=eq_true rfl
theorem axh:zc Vo=[.v Value.nilFunc]:=ID rfl
theorem aUF{K:TI→Prop}:@tyW Tryz.prog 147 ⟨K⟩=K Vn:=qh aW2
theorem axf:Vn.kd=Kd.oth:=ID rfl
theorem amD:Vn.kd.agg=false:=ID rfl
theorem ahh:Vn.size=1:=ID rfl
theorem ab1:Vn.bytes=8:=ID rfl
theorem axd:qw Vn=True:=eq_true rfl
theorem axe:zc Vn=[.v Value.nilFunc]:=ID rfl
theorem aUE{K:TI→Prop}:@tyW Tryz.prog 148 ⟨K⟩=K Vm:=qh aW1
theorem axc:Vm.kd=Kd.oth:=ID rfl
theorem amC:Vm.kd.agg=false:=ID rfl
theorem ahg:Vm.size=1:=ID rfl
theorem ab0:Vm.bytes=8:=ID rfl
theorem axa:qw Vm=True:=eq_true rfl
theorem axb:zc Vm=[.v Value.nilFunc]:=ID rfl
theorem aUD{K:TI→Prop}:@tyW Tryz.prog 150 ⟨K⟩=K Vl:=qh aW0
theorem aw9:Vl.kd=Kd.oth:=ID rfl
theorem amB:Vl.kd.agg=false:=ID rfl
theorem ahf:Vl.size=1:=ID rfl
theorem abZ:Vl.bytes=8:=ID rfl
theorem aw7:qw Vl=True:=eq_true rfl
theorem aw8:zc Vl=[.v Value.nilFunc]:=ID rfl
theorem aUC{K:TI→Prop}:@tyW Tryz.prog 152 ⟨K⟩=K Vk:=qh aWZ
theorem aw6:Vk.kd=Kd.oth:=ID rfl
theorem amA:Vk.kd.agg=false:=ID rfl
theorem ahe:Vk.size=1:=ID rfl
theorem abY:Vk.bytes=8:=ID rfl
theorem aw4:qw Vk=True:=eq_true rfl
theorem aw5:zc Vk=[.v Value.nilFunc]:=ID rfl
theorem aUB{K:TI→Prop}:@tyW Tryz.prog 153 ⟨K⟩=K Vj:=qh aWY
theorem aw3:Vj.kd=Kd.oth:=ID rfl
theorem amz:Vj.kd.agg=false:=ID rfl
theorem ahd:Vj.size=1:=ID rfl
theorem abX:Vj.bytes=8:=ID rfl
theorem aw1:qw Vj=True:=eq_true rfl
theorem aw2:zc Vj=[.v Value.nilFunc]:=ID rfl
theorem aUA{K:TI→Prop}:@tyW Tryz.prog 154 ⟨K⟩=K Vi:=qh aWX
theorem aw0:Vi.kd=Kd.oth:=ID rfl
theorem amy:Vi.kd.agg=false:=ID rfl
theorem ahc:Vi.size=1:=ID rfl
theorem abW:Vi.bytes=8:=ID rfl
theorem awY:qw Vi=True:=eq_true rfl
theorem awZ:zc Vi=[.v Value.nilFunc]:=ID rfl
theorem aUz{K:TI→Prop}:@tyW Tryz.prog 155 ⟨K⟩=K yQ:=qh V2
theorem awX:yQ.kd=Kd.sli 111:=ID rfl
theorem amx:yQ.kd.agg=false:=ID rfl
theorem ahb:yQ.size=1:=ID rfl
theorem abV:yQ.bytes=24:=ID rfl
theorem awU:qw yQ=True:=eq_true rfl
theorem awW:zc yQ=[.v (Value.slice none 0 0)]:=ID rfl
theorem aMD{K:TI→Prop}:@yu Tryz.prog 155 ⟨K⟩=K QO:=QC V2 rfl anu
theorem aUy{K:TI→Prop}:@tyW Tryz.prog 156 ⟨K⟩=K Q9:=qh azA
theorem awT:Q9.kd=Kd.stru [(0,3),(1,155)]:=ID rfl
theorem amw:Q9.kd.agg=true:=ID rfl
theorem aha:Q9.size=2:=ID rfl
theorem abU:Q9.bytes=32:=ID rfl
theorem awR:qw Q9=True:=eq_true rfl
theorem awS:zc Q9=[.v (Value.int IntKind.i64 0),.v (Value.slice none 0 0)]:=ID rfl
theorem aA9{K:Nat→TI→Prop}:@qA Tryz.prog 156 0 ⟨K⟩=K 0 ti3:=qr (ti:=Q9) (tf:=ti3) (fo:=(0,3)) (fs:=[(0,3),(1,155)]) azA rfl rfl tf3
theorem aH9{K:Nat→Nat→Prop}:qs Tryz.prog [(0,3),(1,155)] 0 K=K 0 1:=qq (tf:=ti3) (fo:=(0,3)) (fs:=[(0,3),(1,155)]) rfl tf3
theorem aA8{K:Nat→TI→Prop}:@qA Tryz.prog 156 1 ⟨K⟩=K 1 yQ:=qr (ti:=Q9) (tf:=yQ) (fo:=(1,155)) (fs:=[(0,3),(1,155)]) azA rfl rfl V2
theorem aH8{K:Nat→Nat→Prop}:qs Tryz.prog [(0,3),(1,155)] 1 K=K 1 1:=qq (tf:=yQ) (fo:=(1,155)) (fs:=[(0,3),(1,155)]) rfl V2
theorem aJD:∀f∈([(0,3),(1,155)]:List (Nat×Nat)),(qn Tryz.prog f.2).isSome=true:=by
 intro f hf
 simp only[List.mem_cons,List.not_mem_nil,or_false]at hf
 rcases hf with rfl|rfl
 ·rw[tf3];rfl
 ·rw[V2];rfl
theorem aSd{ps:List (Nat×AV)}{K:AV→Prop}:@q9 Tryz.prog 156 ps ⟨K⟩=@za (qs Tryz.prog [(0,3),(1,155)]) (zc Q9) ps ⟨fun cs=>K (.ag cs)⟩:=qI azA rfl aJD
theorem aUx{K:TI→Prop}:@tyW Tryz.prog 157 ⟨K⟩=K Q8:=qh azz
theorem awQ:Q8.kd=Kd.stru [(0,3),(1,155)]:=ID rfl
theorem amv:Q8.kd.agg=true:=ID rfl
theorem ag9:Q8.size=2:=ID rfl
theorem abT:Q8.bytes=32:=ID rfl
theorem awO:qw Q8=True:=eq_true rfl
theorem awP:zc Q8=[.v (Value.int IntKind.i64 0),.v (Value.slice none 0 0)]:=ID rfl
theorem aA7{K:Nat→TI→Prop}:@qA Tryz.prog 157 0 ⟨K⟩=K 0 ti3:=qr (ti:=Q8) (tf:=ti3) (fo:=(0,3)) (fs:=[(0,3),(1,155)]) azz rfl rfl tf3
theorem aH7{K:Nat→Nat→Prop}:qs Tryz.prog [(0,3),(1,155)] 0 K=K 0 1:=qq (tf:=ti3) (fo:=(0,3)) (fs:=[(0,3),(1,155)]) rfl tf3
theorem aA6{K:Nat→TI→Prop}:@qA Tryz.prog 157 1 ⟨K⟩=K 1 yQ:=qr (ti:=Q8) (tf:=yQ) (fo:=(1,155)) (fs:=[(0,3),(1,155)]) azz rfl rfl V2
theorem aH6{K:Nat→Nat→Prop}:qs Tryz.prog [(0,3),(1,155)] 1 K=K 1 1:=qq (tf:=yQ) (fo:=(1,155)) (fs:=[(0,3),(1,155)]) rfl V2
theorem aJC:∀f∈([(0,3),(1,155)]:List (Nat×Nat)),(qn Tryz.prog f.2).isSome=true:=by
 intro f hf
 simp only[List.mem_cons,List.not_mem_nil,or_false]at hf
 rcases hf with rfl|rfl
 ·rw[tf3];rfl
 ·rw[V2];rfl
theorem aSc{ps:List (Nat×AV)}{K:AV→Prop}:@q9 Tryz.prog 157 ps ⟨K⟩=@za (qs Tryz.prog [(0,3),(1,155)]) (zc Q8) ps ⟨fun cs=>K (.ag cs)⟩:=qI azz rfl aJC
theorem aUw{K:TI→Prop}:@tyW Tryz.prog 158 ⟨K⟩=K Vh:=qh aWW
theorem awN:Vh.kd=Kd.oth:=ID rfl
theorem amu:Vh.kd.agg=false:=ID rfl
theorem ag8:Vh.size=1:=ID rfl
theorem abS:Vh.bytes=8:=ID rfl
theorem awL:qw Vh=True:=eq_true rfl
theorem awM:zc Vh=[.v Value.nilFunc]:=ID rfl
theorem aUv{K:TI→Prop}:@tyW Tryz.prog 159 ⟨K⟩=K yP:=qh V1
theorem awK:yP.kd=Kd.sli 50:=ID rfl
theorem amt:yP.kd.agg=false:=ID rfl
theorem ag7:yP.size=1:=ID rfl
theorem abR:yP.bytes=24:=ID rfl
theorem awI:qw yP=True:=eq_true rfl
theorem awJ:zc yP=[.v (Value.slice none 0 0)]:=ID rfl
theorem aMC{K:TI→Prop}:@yu Tryz.prog 159 ⟨K⟩=K ajn:=QC V1 rfl aMk
theorem aUu{K:TI→Prop}:@tyW Tryz.prog 160 ⟨K⟩=K Q7:=qh azy
theorem awH:Q7.kd=Kd.stru [(0,3),(1,159)]:=ID rfl
theorem ams:Q7.kd.agg=true:=ID rfl
theorem ag6:Q7.size=2:=ID rfl
theorem abQ:Q7.bytes=32:=ID rfl
theorem awF:qw Q7=True:=eq_true rfl
theorem awG:zc Q7=[.v (Value.int IntKind.i64 0),.v (Value.slice none 0 0)]:=ID rfl
theorem aA5{K:Nat→TI→Prop}:@qA Tryz.prog 160 0 ⟨K⟩=K 0 ti3:=qr (ti:=Q7) (tf:=ti3) (fo:=(0,3)) (fs:=[(0,3),(1,159)]) azy rfl rfl tf3
theorem aH5{K:Nat→Nat→Prop}:qs Tryz.prog [(0,3),(1,159)] 0 K=K 0 1:=qq (tf:=ti3) (fo:=(0,3)) (fs:=[(0,3),(1,159)]) rfl tf3
theorem aA4{K:Nat→TI→Prop}:@qA Tryz.prog 160 1 ⟨K⟩=K 1 yP:=qr (ti:=Q7) (tf:=yP) (fo:=(1,159)) (fs:=[(0,3),(1,159)]) azy rfl rfl V1
theorem aH4{K:Nat→Nat→Prop}:qs Tryz.prog [(0,3),(1,159)] 1 K=K 1 1:=qq (tf:=yP) (fo:=(1,159)) (fs:=[(0,3),(1,159)]) rfl V1
theorem aJB:∀f∈([(0,3),(1,159)]:List (Nat×Nat)),(qn Tryz.prog f.2).isSome=true:=by
 intro f hf
 simp only[List.mem_cons,List.not_mem_nil,or_false]at hf
 rcases hf with rfl|rfl
 ·rw[tf3];rfl
 ·rw[V1];rfl
theorem aSb{ps:List (Nat×AV)}{K:AV→Prop}:@q9 Tryz.prog 160 ps ⟨K⟩=@za (qs Tryz.prog [(0,3),(1,159)]) (zc Q7) ps ⟨fun cs=>K (.ag cs)⟩:=qI azy rfl aJB
theorem aUt{K:TI→Prop}:@tyW Tryz.prog 161 ⟨K⟩=K Q6:=qh azx
theorem awE:Q6.kd=Kd.stru [(0,3),(1,159)]:=ID rfl
theorem amr:Q6.kd.agg=true:=ID rfl
theorem ag5:Q6.size=2:=ID rfl
theorem abP:Q6.bytes=32:=ID rfl
theorem awC:qw Q6=True:=eq_true rfl
theorem awD:zc Q6=[.v (Value.int IntKind.i64 0),.v (Value.slice none 0 0)]:=ID rfl
theorem aA3{K:Nat→TI→Prop}:@qA Tryz.prog 161 0 ⟨K⟩=K 0 ti3:=qr (ti:=Q6) (tf:=ti3) (fo:=(0,3)) (fs:=[(0,3),(1,159)]) azx rfl rfl tf3
theorem aH3{K:Nat→Nat→Prop}:qs Tryz.prog [(0,3),(1,159)] 0 K=K 0 1:=qq (tf:=ti3) (fo:=(0,3)) (fs:=[(0,3),(1,159)]) rfl tf3
theorem aA2{K:Nat→TI→Prop}:@qA Tryz.prog 161 1 ⟨K⟩=K 1 yP:=qr (ti:=Q6) (tf:=yP) (fo:=(1,159)) (fs:=[(0,3),(1,159)]) azx rfl rfl V1
theorem aH2{K:Nat→Nat→Prop}:qs Tryz.prog [(0,3),(1,159)] 1 K=K 1 1:=qq (tf:=yP) (fo:=(1,159)) (fs:=[(0,3),(1,159)]) rfl V1
theorem aJA:∀f∈([(0,3),(1,159)]:List (Nat×Nat)),(qn Tryz.prog f.2).isSome=true:=by
 intro f hf
 simp only[List.mem_cons,List.not_mem_nil,or_false]at hf
 rcases hf with rfl|rfl
 ·rw[tf3];rfl
 ·rw[V1];rfl
theorem aSa{ps:List (Nat×AV)}{K:AV→Prop}:@q9 Tryz.prog 161 ps ⟨K⟩=@za (qs Tryz.prog [(0,3),(1,159)]) (zc Q6) ps ⟨fun cs=>K (.ag cs)⟩:=qI azx rfl aJA
theorem aUs{K:TI→Prop}:@tyW Tryz.prog 163 ⟨K⟩=K Vg:=qh aWV
theorem awB:Vg.kd=Kd.oth:=ID rfl
theorem amq:Vg.kd.agg=false:=ID rfl
theorem ag4:Vg.size=1:=ID rfl
theorem abO:Vg.bytes=8:=ID rfl
theorem awz:qw Vg=True:=eq_true rfl
theorem awA:zc Vg=[.v Value.nilFunc]:=ID rfl
theorem aUr{K:TI→Prop}:@tyW Tryz.prog 164 ⟨K⟩=K Vf:=qh aWU
theorem awy:Vf.kd=Kd.oth:=ID rfl
theorem amp:Vf.kd.agg=false:=ID rfl
theorem ag3:Vf.size=1:=ID rfl
theorem abN:Vf.bytes=8:=ID rfl
theorem aww:qw Vf=True:=eq_true rfl
theorem awx:zc Vf=[.v Value.nilFunc]:=ID rfl
theorem aUq{K:TI→Prop}:@tyW Tryz.prog 165 ⟨K⟩=K Ve:=qh aWT
theorem awv:Ve.kd=Kd.oth:=ID rfl
theorem amo:Ve.kd.agg=false:=ID rfl
theorem ag2:Ve.size=1:=ID rfl
theorem abM:Ve.bytes=8:=ID rfl
theorem awt:qw Ve=True:=eq_true rfl
theorem awu:zc Ve=[.v Value.nilFunc]:=ID rfl
theorem aUp{K:TI→Prop}:@tyW Tryz.prog 166 ⟨K⟩=K Vd:=qh aWS
theorem aws:Vd.kd=Kd.oth:=ID rfl
theorem amn:Vd.kd.agg=false:=ID rfl
theorem ag1:Vd.size=1:=ID rfl
theorem abL:Vd.bytes=8:=ID rfl
theorem awq:qw Vd=True:=eq_true rfl
theorem awr:zc Vd=[.v Value.nilFunc]:=ID rfl
theorem aUo{K:TI→Prop}:@tyW Tryz.prog 167 ⟨K⟩=K Vc:=qh aWR
theorem awo:Vc.kd=Kd.oth:=ID rfl
theorem amm:Vc.kd.agg=false:=ID rfl
theorem ag0:Vc.size=1:=ID rfl
theorem abK:Vc.bytes=8:=ID rfl
theorem awm:qw Vc=True:=eq_true rfl
theorem awn:zc Vc=[.v Value.nilFunc]:=ID rfl
theorem aUn{K:TI→Prop}:@tyW Tryz.prog 169 ⟨K⟩=K Vb:=qh aWQ
theorem awl:Vb.kd=Kd.oth:=ID rfl
theorem aml:Vb.kd.agg=false:=ID rfl
theorem agZ:Vb.size=1:=ID rfl
theorem abJ:Vb.bytes=8:=ID rfl
theorem awj:qw Vb=True:=eq_true rfl
theorem awk:zc Vb=[.v Value.nilFunc]:=ID rfl
theorem aUm{K:TI→Prop}:@tyW Tryz.prog 170 ⟨K⟩=K Va:=qh aWP
theorem awi:Va.kd=Kd.oth:=ID rfl
theorem amk:Va.kd.agg=false:=ID rfl
theorem agY:Va.size=1:=ID rfl
theorem abI:Va.bytes=8:=ID rfl
theorem awg:qw Va=True:=eq_true rfl
theorem awh:zc Va=[.v Value.nilFunc]:=ID rfl
theorem aUl{K:TI→Prop}:@tyW Tryz.prog 171 ⟨K⟩=K X9:=qh aWO
theorem awf:X9.kd=Kd.oth:=ID rfl
theorem amj:X9.kd.agg=false:=ID rfl
theorem agX:X9.size=1:=ID rfl
theorem abH:X9.bytes=8:=ID rfl
theorem awd:qw X9=True:=eq_true rfl
theorem awe:zc X9=[.v Value.nilFunc]:=ID rfl
theorem aUk{K:TI→Prop}:@tyW Tryz.prog 172 ⟨K⟩=K X8:=qh aWN
theorem awc:X8.kd=Kd.oth:=ID rfl
theorem ami:X8.kd.agg=false:=ID rfl
theorem agW:X8.size=1:=ID rfl
theorem abG:X8.bytes=8:=ID rfl
theorem awa:qw X8=True:=eq_true rfl
theorem awb:zc X8=[.v Value.nilFunc]:=ID rfl
theorem aUj{K:TI→Prop}:@tyW Tryz.prog 173 ⟨K⟩=K X7:=qh aWM
theorem av9:X7.kd=Kd.oth:=ID rfl
theorem amh:X7.kd.agg=false:=ID rfl
theorem agV:X7.size=1:=ID rfl
theorem abF:X7.bytes=8:=ID rfl
theorem av7:qw X7=True:=eq_true rfl
theorem av8:zc X7=[.v Value.nilFunc]:=ID rfl
theorem aUi{K:TI→Prop}:@tyW Tryz.prog 174 ⟨K⟩=K X6:=qh aWL
theorem av6:X6.kd=Kd.oth:=ID rfl
theorem amg:X6.kd.agg=false:=ID rfl
theorem agU:X6.size=1:=ID rfl
theorem abE:X6.bytes=8:=ID rfl
theorem av4:qw X6=True:=eq_true rfl
theorem av5:zc X6=[.v Value.nilFunc]:=ID rfl
theorem aUh{K:TI→Prop}:@tyW Tryz.prog 176 ⟨K⟩=K X5:=qh aWK
theorem av3:X5.kd=Kd.oth:=ID rfl
theorem amf:X5.kd.agg=false:=ID rfl
theorem agT:X5.size=1:=ID rfl
theorem abD:X5.bytes=8:=ID rfl
theorem av1:qw X5=True:=eq_true rfl
theorem av2:zc X5=[.v Value.nilFunc]:=ID rfl
theorem aUg{K:TI→Prop}:@tyW Tryz.prog 177 ⟨K⟩=K X4:=qh aWJ
theorem av0:X4.kd=Kd.oth:=ID rfl
theorem ame:X4.kd.agg=false:=ID rfl
theorem agS:X4.size=1:=ID rfl
theorem abC:X4.bytes=8:=ID rfl
theorem avY:qw X4=True:=eq_true rfl
theorem avZ:zc X4=[.v Value.nilFunc]:=ID rfl
theorem aUf{K:TI→Prop}:@tyW Tryz.prog 178 ⟨K⟩=K X3:=qh aWI
theorem avX:X3.kd=Kd.oth:=ID rfl
theorem amd:X3.kd.agg=false:=ID rfl
theorem agR:X3.size=1:=ID rfl
theorem abB:X3.bytes=8:=ID rfl
theorem avV:qw X3=True:=eq_true rfl
theorem avW:zc X3=[.v Value.nilFunc]:=ID rfl
theorem aUe{K:TI→Prop}:@tyW Tryz.prog 179 ⟨K⟩=K X2:=qh aWH
theorem avU:X2.kd=Kd.oth:=ID rfl
theorem amc:X2.kd.agg=false:=ID rfl
theorem agQ:X2.size=1:=ID rfl
theorem abA:X2.bytes=8:=ID rfl
theorem avS:qw X2=True:=eq_true rfl
theorem avT:zc X2=[.v Value.nilFunc]:=ID rfl
theorem aUd{K:TI→Prop}:@tyW Tryz.prog 180 ⟨K⟩=K X1:=qh aWG
theorem avR:X1.kd=Kd.oth:=ID rfl
theorem amb:X1.kd.agg=false:=ID rfl
theorem agP:X1.size=1:=ID rfl
theorem abz:X1.bytes=8:=ID rfl
theorem avP:qw X1=True:=eq_true rfl
theorem avQ:zc X1=[.v Value.nilFunc]:=ID rfl
theorem aUc{K:TI→Prop}:@tyW Tryz.prog 181 ⟨K⟩=K X0:=qh aWF
theorem avO:X0.kd=Kd.oth:=ID rfl
theorem ama:X0.kd.agg=false:=ID rfl
theorem agO:X0.size=1:=ID rfl
theorem aby:X0.bytes=8:=ID rfl
theorem avM:qw X0=True:=eq_true rfl
theorem avN:zc X0=[.v Value.nilFunc]:=ID rfl
theorem aUb{K:TI→Prop}:@tyW Tryz.prog 183 ⟨K⟩=K XZ:=qh aWE
theorem avL:XZ.kd=Kd.oth:=ID rfl
theorem al9:XZ.kd.agg=false:=ID rfl
theorem agN:XZ.size=1:=ID rfl
theorem abx:XZ.bytes=8:=ID rfl
theorem avJ:qw XZ=True:=eq_true rfl
theorem avK:zc XZ=[.v Value.nilFunc]:=ID rfl
theorem aUa{K:TI→Prop}:@tyW Tryz.prog 184 ⟨K⟩=K XY:=qh aWD
theorem avI:XY.kd=Kd.oth:=ID rfl
theorem al8:XY.kd.agg=false:=ID rfl
theorem agM:XY.size=1:=ID rfl
theorem abw:XY.bytes=8:=ID rfl
theorem avG:qw XY=True:=eq_true rfl
theorem avH:zc XY=[.v Value.nilFunc]:=ID rfl
theorem aT9{K:TI→Prop}:@tyW Tryz.prog 185 ⟨K⟩=K XX:=qh aMm
theorem avF:XX.kd=Kd.sli 63:=ID rfl
theorem al7:XX.kd.agg=false:=ID rfl
theorem agL:XX.size=1:=ID rfl
theorem abv:XX.bytes=24:=ID rfl
theorem avD:qw XX=True:=eq_true rfl
theorem avE:zc XX=[.v (Value.slice none 0 0)]:=ID rfl
theorem aMB{K:TI→Prop}:@yu Tryz.prog 185 ⟨K⟩=K adP:=QC aMm rfl aHs
theorem aT8{K:TI→Prop}:@tyW Tryz.prog 186 ⟨K⟩=K XW:=qh aWC
theorem avC:XW.kd=Kd.oth:=ID rfl
theorem al6:XW.kd.agg=false:=ID rfl
theorem agK:XW.size=1:=ID rfl
theorem abu:XW.bytes=8:=ID rfl
theorem avA:qw XW=True:=eq_true rfl
theorem avB:zc XW=[.v Value.nilFunc]:=ID rfl
theorem aT7{K:TI→Prop}:@tyW Tryz.prog 187 ⟨K⟩=K XV:=qh aWB
theorem avz:XV.kd=Kd.oth:=ID rfl
theorem al5:XV.kd.agg=false:=ID rfl
theorem agJ:XV.size=1:=ID rfl
theorem abt:XV.bytes=8:=ID rfl
theorem avx:qw XV=True:=eq_true rfl
theorem avy:zc XV=[.v Value.nilFunc]:=ID rfl
theorem aT6{K:TI→Prop}:@tyW Tryz.prog 188 ⟨K⟩=K XU:=qh aWA
theorem avw:XU.kd=Kd.oth:=ID rfl
theorem al4:XU.kd.agg=false:=ID rfl
theorem agI:XU.size=1:=ID rfl
theorem abr:XU.bytes=8:=ID rfl
theorem avu:qw XU=True:=eq_true rfl
theorem avv:zc XU=[.v Value.nilFunc]:=ID rfl
theorem aT5{K:TI→Prop}:@tyW Tryz.prog 189 ⟨K⟩=K XT:=qh aWz
theorem avt:XT.kd=Kd.oth:=ID rfl
theorem al3:XT.kd.agg=false:=ID rfl
theorem agH:XT.size=1:=ID rfl
theorem abq:XT.bytes=8:=ID rfl
theorem avr:qw XT=True:=eq_true rfl
theorem avs:zc XT=[.v Value.nilFunc]:=ID rfl
theorem aT4{K:TI→Prop}:@tyW Tryz.prog 190 ⟨K⟩=K XS:=qh aWy
theorem avq:XS.kd=Kd.oth:=ID rfl
theorem al2:XS.kd.agg=false:=ID rfl
theorem agG:XS.size=1:=ID rfl
theorem abp:XS.bytes=8:=ID rfl
theorem avo:qw XS=True:=eq_true rfl
theorem avp:zc XS=[.v Value.nilFunc]:=ID rfl
theorem aT3{K:TI→Prop}:@tyW Tryz.prog 191 ⟨K⟩=K XR:=qh aWx
theorem avn:XR.kd=Kd.oth:=ID rfl
theorem al1:XR.kd.agg=false:=ID rfl
theorem agF:XR.size=1:=ID rfl
theorem abo:XR.bytes=8:=ID rfl
theorem avl:qw XR=True:=eq_true rfl
theorem avm:zc XR=[.v Value.nilFunc]:=ID rfl
theorem aT2{K:TI→Prop}:@tyW Tryz.prog 192 ⟨K⟩=K XQ:=qh aWw
theorem avk:XQ.kd=Kd.oth:=ID rfl
theorem al0:XQ.kd.agg=false:=ID rfl
theorem agE:XQ.size=1:=ID rfl
theorem abn:XQ.bytes=8:=ID rfl
theorem avi:qw XQ=True:=eq_true rfl
theorem avj:zc XQ=[.v Value.nilFunc]:=ID rfl
theorem aT1{K:TI→Prop}:@tyW Tryz.prog 193 ⟨K⟩=K XP:=qh aWv
theorem avh:XP.kd=Kd.oth:=ID rfl
theorem alZ:XP.kd.agg=false:=ID rfl
theorem agD:XP.size=1:=ID rfl
theorem abm:XP.bytes=8:=ID rfl
theorem avf:qw XP=True:=eq_true rfl
theorem avg:zc XP=[.v Value.nilFunc]:=ID rfl
theorem aT0{K:TI→Prop}:@tyW Tryz.prog 194 ⟨K⟩=K XO:=qh aWu
theorem ave:XO.kd=Kd.oth:=ID rfl
theorem alY:XO.kd.agg=false:=ID rfl
theorem agC:XO.size=1:=ID rfl
theorem abl:XO.bytes=8:=ID rfl
theorem avc:qw XO=True:=eq_true rfl
theorem avd:zc XO=[.v Value.nilFunc]:=ID rfl
theorem aTZ{K:TI→Prop}:@tyW Tryz.prog 195 ⟨K⟩=K XN:=qh aWt
theorem avb:XN.kd=Kd.oth:=ID rfl
theorem alX:XN.kd.agg=false:=ID rfl
theorem agB:XN.size=1:=ID rfl
theorem abk:XN.bytes=8:=ID rfl
theorem au9:qw XN=True:=eq_true rfl
theorem ava:zc XN=[.v Value.nilFunc]:=ID rfl
theorem aTY{K:TI→Prop}:@tyW Tryz.prog 196 ⟨K⟩=K XM:=qh aWs
theorem au8:XM.kd=Kd.oth:=ID rfl
theorem alW:XM.kd.agg=false:=ID rfl
theorem agA:XM.size=1:=ID rfl
theorem abj:XM.bytes=8:=ID rfl
theorem au6:qw XM=True:=eq_true rfl
theorem au7:zc XM=[.v Value.nilFunc]:=ID rfl
theorem aTX{K:TI→Prop}:@tyW Tryz.prog 197 ⟨K⟩=K XL:=qh aWr
theorem au5:XL.kd=Kd.oth:=ID rfl
theorem alV:XL.kd.agg=false:=ID rfl
theorem agz:XL.size=1:=ID rfl
theorem abi:XL.bytes=8:=ID rfl
theorem au3:qw XL=True:=eq_true rfl
theorem au4:zc XL=[.v Value.nilFunc]:=ID rfl
theorem aTW{K:TI→Prop}:@tyW Tryz.prog 198 ⟨K⟩=K XK:=qh aWq
theorem au2:XK.kd=Kd.oth:=ID rfl
theorem alU:XK.kd.agg=false:=ID rfl
theorem agy:XK.size=1:=ID rfl
theorem abh:XK.bytes=8:=ID rfl
theorem au0:qw XK=True:=eq_true rfl
theorem au1:zc XK=[.v Value.nilFunc]:=ID rfl
theorem aTV{K:TI→Prop}:@tyW Tryz.prog 199 ⟨K⟩=K XJ:=qh aWp
theorem auZ:XJ.kd=Kd.oth:=ID rfl
theorem alT:XJ.kd.agg=false:=ID rfl
theorem agx:XJ.size=1:=ID rfl
theorem abg:XJ.bytes=8:=ID rfl
theorem auX:qw XJ=True:=eq_true rfl
theorem auY:zc XJ=[.v Value.nilFunc]:=ID rfl
theorem aTU{K:TI→Prop}:@tyW Tryz.prog 200 ⟨K⟩=K XI:=qh aWo
theorem auV:XI.kd=Kd.oth:=ID rfl
theorem alR:XI.kd.agg=false:=ID rfl
theorem agw:XI.size=1:=ID rfl
theorem abf:XI.bytes=8:=ID rfl
theorem auT:qw XI=True:=eq_true rfl
theorem auU:zc XI=[.v Value.nilFunc]:=ID rfl
theorem aTT{K:TI→Prop}:@tyW Tryz.prog 201 ⟨K⟩=K XH:=qh aWn
theorem auS:XH.kd=Kd.oth:=ID rfl
theorem alQ:XH.kd.agg=false:=ID rfl
theorem agv:XH.size=1:=ID rfl
theorem abe:XH.bytes=8:=ID rfl
theorem auQ:qw XH=True:=eq_true rfl
theorem auR:zc XH=[.v Value.nilFunc]:=ID rfl
theorem aTS{K:TI→Prop}:@tyW Tryz.prog 202 ⟨K⟩=K XG:=qh aWm
theorem auP:XG.kd=Kd.oth:=ID rfl
theorem alP:XG.kd.agg=false:=ID rfl
theorem agu:XG.size=1:=ID rfl
theorem abd:XG.bytes=8:=ID rfl
theorem auN:qw XG=True:=eq_true rfl
theorem auO:zc XG=[.v Value.nilFunc]:=ID rfl
theorem aTR{K:TI→Prop}:@tyW Tryz.prog 203 ⟨K⟩=K XF:=qh aWl
theorem auM:XF.kd=Kd.oth:=ID rfl
theorem alO:XF.kd.agg=false:=ID rfl
theorem agt:XF.size=1:=ID rfl
theorem abc:XF.bytes=8:=ID rfl
theorem auK:qw XF=True:=eq_true rfl
theorem auL:zc XF=[.v Value.nilFunc]:=ID rfl
theorem aTQ{K:TI→Prop}:@tyW Tryz.prog 204 ⟨K⟩=K XE:=qh aWk
theorem auJ:XE.kd=Kd.oth:=ID rfl
theorem alN:XE.kd.agg=false:=ID rfl
theorem ags:XE.size=1:=ID rfl
theorem abb:XE.bytes=8:=ID rfl
theorem auH:qw XE=True:=eq_true rfl
theorem auI:zc XE=[.v Value.nilFunc]:=ID rfl
theorem aTP{K:TI→Prop}:@tyW Tryz.prog 205 ⟨K⟩=K XD:=qh aWj
theorem auG:XD.kd=Kd.oth:=ID rfl
theorem alM:XD.kd.agg=false:=ID rfl
theorem agr:XD.size=1:=ID rfl
theorem aba:XD.bytes=8:=ID rfl
theorem auE:qw XD=True:=eq_true rfl
theorem auF:zc XD=[.v Value.nilFunc]:=ID rfl
theorem aTO{K:TI→Prop}:@tyW Tryz.prog 206 ⟨K⟩=K XC:=qh aWi
theorem auD:XC.kd=Kd.oth:=ID rfl
theorem alL:XC.kd.agg=false:=ID rfl
theorem agq:XC.size=1:=ID rfl
theorem aa9:XC.bytes=8:=ID rfl
theorem auB:qw XC=True:=eq_true rfl
theorem auC:zc XC=[.v Value.nilFunc]:=ID rfl
theorem aTN{K:TI→Prop}:@tyW Tryz.prog 208 ⟨K⟩=K XB:=qh aWh
theorem auA:XB.kd=Kd.oth:=ID rfl
theorem alK:XB.kd.agg=false:=ID rfl
theorem agp:XB.size=1:=ID rfl
theorem aa8:XB.bytes=8:=ID rfl
theorem auy:qw XB=True:=eq_true rfl
theorem auz:zc XB=[.v Value.nilFunc]:=ID rfl
theorem aTM{K:TI→Prop}:@tyW Tryz.prog 209 ⟨K⟩=K XA:=qh aWg
theorem aux:XA.kd=Kd.oth:=ID rfl
theorem alJ:XA.kd.agg=false:=ID rfl
theorem ago:XA.size=1:=ID rfl
theorem aa7:XA.bytes=8:=ID rfl
theorem auv:qw XA=True:=eq_true rfl
theorem auw:zc XA=[.v Value.nilFunc]:=ID rfl
theorem aTL{K:TI→Prop}:@tyW Tryz.prog 210 ⟨K⟩=K Xz:=qh aWf
theorem auu:Xz.kd=Kd.oth:=ID rfl
theorem alI:Xz.kd.agg=false:=ID rfl
theorem agn:Xz.size=1:=ID rfl
theorem aa6:Xz.bytes=8:=ID rfl
theorem aus:qw Xz=True:=eq_true rfl
theorem aut:zc Xz=[.v Value.nilFunc]:=ID rfl
theorem aTK{K:TI→Prop}:@tyW Tryz.prog 211 ⟨K⟩=K Xy:=qh aWe
theorem aur:Xy.kd=Kd.oth:=ID rfl
theorem alH:Xy.kd.agg=false:=ID rfl
theorem agm:Xy.size=1:=ID rfl
theorem aa5:Xy.bytes=8:=ID rfl
theorem aup:qw Xy=True:=eq_true rfl
theorem auq:zc Xy=[.v Value.nilFunc]:=ID rfl
theorem aTJ{K:TI→Prop}:@tyW Tryz.prog 212 ⟨K⟩=K Xx:=qh aWd
theorem auo:Xx.kd=Kd.oth:=ID rfl
theorem alG:Xx.kd.agg=false:=ID rfl
theorem agl:Xx.size=1:=ID rfl
theorem aa4:Xx.bytes=8:=ID rfl
theorem aum:qw Xx=True:=eq_true rfl
theorem aun:zc Xx=[.v Value.nilFunc]:=ID rfl
theorem aTI{K:TI→Prop}:@tyW Tryz.prog 213 ⟨K⟩=K Xw:=qh aWc
theorem aul:Xw.kd=Kd.oth:=ID rfl
theorem alD:Xw.kd.agg=false:=ID rfl
theorem agk:Xw.size=1:=ID rfl
theorem aa3:Xw.bytes=8:=ID rfl
theorem auj:qw Xw=True:=eq_true rfl
theorem auk:zc Xw=[.v Value.nilFunc]:=ID rfl
theorem aTH{K:TI→Prop}:@tyW Tryz.prog 214 ⟨K⟩=K Xv:=qh aWb
theorem aui:Xv.kd=Kd.oth:=ID rfl
theorem alC:Xv.kd.agg=false:=ID rfl
theorem agj:Xv.size=1:=ID rfl
theorem aa2:Xv.bytes=8:=ID rfl
theorem aug:qw Xv=True:=eq_true rfl
theorem auh:zc Xv=[.v Value.nilFunc]:=ID rfl
theorem aTG{K:TI→Prop}:@tyW Tryz.prog 215 ⟨K⟩=K Xu:=qh aWa
theorem auf:Xu.kd=Kd.oth:=ID rfl
theorem alB:Xu.kd.agg=false:=ID rfl
theorem agi:Xu.size=1:=ID rfl
theorem aa1:Xu.bytes=8:=ID rfl
theorem aud:qw Xu=True:=eq_true rfl
theorem aue:zc Xu=[.v Value.nilFunc]:=ID rfl
theorem aTF{K:TI→Prop}:@tyW Tryz.prog 216 ⟨K⟩=K Xt:=qh aV9
theorem auc:Xt.kd=Kd.oth:=ID rfl
theorem alz:Xt.kd.agg=false:=ID rfl
theorem agh:Xt.size=1:=ID rfl
theorem aaZ:Xt.bytes=8:=ID rfl
theorem aua:qw Xt=True:=eq_true rfl
theorem aub:zc Xt=[.v Value.nilFunc]:=ID rfl
theorem aTE{K:TI→Prop}:@tyW Tryz.prog 217 ⟨K⟩=K Xs:=qh aV8
theorem at9:Xs.kd=Kd.oth:=ID rfl
theorem aly:Xs.kd.agg=false:=ID rfl
theorem agf:Xs.size=1:=ID rfl
theorem aaY:Xs.bytes=8:=ID rfl
theorem at7:qw Xs=True:=eq_true rfl
theorem at8:zc Xs=[.v Value.nilFunc]:=ID rfl
theorem aTD{K:TI→Prop}:@tyW Tryz.prog 218 ⟨K⟩=K Xr:=qh aV7
theorem at6:Xr.kd=Kd.oth:=ID rfl
theorem alx:Xr.kd.agg=false:=ID rfl
theorem age:Xr.size=1:=ID rfl
theorem aaX:Xr.bytes=8:=ID rfl
theorem at4:qw Xr=True:=eq_true rfl
theorem at5:zc Xr=[.v Value.nilFunc]:=ID rfl
theorem aTC{K:TI→Prop}:@tyW Tryz.prog 220 ⟨K⟩=K Xq:=qh aV6
theorem at2:Xq.kd=Kd.oth:=ID rfl
theorem alv:Xq.kd.agg=false:=ID rfl
theorem agc:Xq.size=1:=ID rfl
theorem aaW:Xq.bytes=8:=ID rfl
theorem at0:qw Xq=True:=eq_true rfl
theorem at1:zc Xq=[.v Value.nilFunc]:=ID rfl
theorem aTB{K:TI→Prop}:@tyW Tryz.prog 221 ⟨K⟩=K Xp:=qh aV5
theorem atZ:Xp.kd=Kd.oth:=ID rfl
theorem alu:Xp.kd.agg=false:=ID rfl
theorem agb:Xp.size=1:=ID rfl
theorem aaV:Xp.bytes=8:=ID rfl
theorem atX:qw Xp=True:=eq_true rfl
theorem atY:zc Xp=[.v Value.nilFunc]:=ID rfl
theorem aTA{K:TI→Prop}:@tyW Tryz.prog 222 ⟨K⟩=K Xo:=qh aMl
theorem atW:Xo.kd=Kd.sli 100:=ID rfl
theorem alt:Xo.kd.agg=false:=ID rfl
theorem aga:Xo.size=1:=ID rfl
theorem aaU:Xo.bytes=24:=ID rfl
theorem atU:qw Xo=True:=eq_true rfl
theorem atV:zc Xo=[.v (Value.slice none 0 0)]:=ID rfl
theorem aMA{K:TI→Prop}:@yu Tryz.prog 222 ⟨K⟩=K yC:=QC aMl rfl JP
theorem aTz{K:TI→Prop}:@tyW Tryz.prog 223 ⟨K⟩=K Xn:=qh aV4
theorem atT:Xn.kd=Kd.oth:=ID rfl
theorem als:Xn.kd.agg=false:=ID rfl
theorem af9:Xn.size=1:=ID rfl
theorem aaT:Xn.bytes=8:=ID rfl
theorem atR:qw Xn=True:=eq_true rfl
theorem atS:zc Xn=[.v Value.nilFunc]:=ID rfl
theorem aTy{K:TI→Prop}:@tyW Tryz.prog 224 ⟨K⟩=K Xm:=qh aV3
theorem atQ:Xm.kd=Kd.oth:=ID rfl
theorem alr:Xm.kd.agg=false:=ID rfl
theorem af8:Xm.size=1:=ID rfl
theorem aaS:Xm.bytes=8:=ID rfl
theorem atO:qw Xm=True:=eq_true rfl
theorem atP:zc Xm=[.v Value.nilFunc]:=ID rfl
theorem aTx{K:TI→Prop}:@tyW Tryz.prog 225 ⟨K⟩=K Xl:=qh aV2
theorem atN:Xl.kd=Kd.oth:=ID rfl
theorem alq:Xl.kd.agg=false:=ID rfl
theorem af7:Xl.size=1:=ID rfl
theorem aaR:Xl.bytes=8:=ID rfl
theorem atL:qw Xl=True:=eq_true rfl
theorem atM:zc Xl=[.v Value.nilFunc]:=ID rfl
theorem aTw{K:TI→Prop}:@tyW Tryz.prog 226 ⟨K⟩=K Xk:=qh aV1
theorem atK:Xk.kd=Kd.oth:=ID rfl
theorem alp:Xk.kd.agg=false:=ID rfl
theorem af6:Xk.size=1:=ID rfl
theorem aaQ:Xk.bytes=8:=ID rfl
theorem atI:qw Xk=True:=eq_true rfl
theorem atJ:zc Xk=[.v Value.nilFunc]:=ID rfl
theorem aTv{K:TI→Prop}:@tyW Tryz.prog 227 ⟨K⟩=K Xj:=qh aV0
theorem atH:Xj.kd=Kd.oth:=ID rfl
theorem alo:Xj.kd.agg=false:=ID rfl
theorem af5:Xj.size=1:=ID rfl
theorem aaP:Xj.bytes=8:=ID rfl
theorem atF:qw Xj=True:=eq_true rfl
theorem atG:zc Xj=[.v Value.nilFunc]:=ID rfl
theorem aTu{K:TI→Prop}:@tyW Tryz.prog 228 ⟨K⟩=K Xi:=qh aVZ
theorem atE:Xi.kd=Kd.oth:=ID rfl
theorem aln:Xi.kd.agg=false:=ID rfl
theorem af4:Xi.size=1:=ID rfl
theorem aaO:Xi.bytes=8:=ID rfl
theorem atC:qw Xi=True:=eq_true rfl
theorem atD:zc Xi=[.v Value.nilFunc]:=ID rfl
theorem aTt{K:TI→Prop}:@tyW Tryz.prog 229 ⟨K⟩=K Xh:=qh aVY
theorem atB:Xh.kd=Kd.oth:=ID rfl
theorem alm:Xh.kd.agg=false:=ID rfl
theorem af3:Xh.size=1:=ID rfl
theorem aaN:Xh.bytes=8:=ID rfl
theorem atz:qw Xh=True:=eq_true rfl
theorem atA:zc Xh=[.v Value.nilFunc]:=ID rfl
theorem aTs{K:TI→Prop}:@tyW Tryz.prog 230 ⟨K⟩=K Xg:=qh aVX
theorem atx:Xg.kd=Kd.oth:=ID rfl
theorem alj:Xg.kd.agg=false:=ID rfl
theorem af1:Xg.size=1:=ID rfl
theorem aaM:Xg.bytes=8:=ID rfl
theorem atv:qw Xg=True:=eq_true rfl
theorem atw:zc Xg=[.v Value.nilFunc]:=ID rfl
theorem aTr{K:TI→Prop}:@tyW Tryz.prog 232 ⟨K⟩=K Xf:=qh aVW
theorem atu:Xf.kd=Kd.oth:=ID rfl
theorem ali:Xf.kd.agg=false:=ID rfl
theorem af0:Xf.size=1:=ID rfl
theorem aaL:Xf.bytes=8:=ID rfl
theorem ats:qw Xf=True:=eq_true rfl
theorem att:zc Xf=[.v Value.nilFunc]:=ID rfl
theorem aTq{K:TI→Prop}:@tyW Tryz.prog 233 ⟨K⟩=K Xe:=qh aVV
theorem atr:Xe.kd=Kd.oth:=ID rfl
theorem alh:Xe.kd.agg=false:=ID rfl
theorem afZ:Xe.size=1:=ID rfl
theorem aaK:Xe.bytes=8:=ID rfl
theorem atp:qw Xe=True:=eq_true rfl
theorem atq:zc Xe=[.v Value.nilFunc]:=ID rfl
theorem aTp{K:TI→Prop}:@tyW Tryz.prog 234 ⟨K⟩=K Xd:=qh aVU
theorem ato:Xd.kd=Kd.oth:=ID rfl
theorem alg:Xd.kd.agg=false:=ID rfl
theorem afY:Xd.size=1:=ID rfl
theorem aaJ:Xd.bytes=8:=ID rfl
theorem atm:qw Xd=True:=eq_true rfl
theorem atn:zc Xd=[.v Value.nilFunc]:=ID rfl
theorem aTo{K:TI→Prop}:@tyW Tryz.prog 235 ⟨K⟩=K Xc:=qh aVT
theorem atl:Xc.kd=Kd.oth:=ID rfl
theorem alf:Xc.kd.agg=false:=ID rfl
theorem afX:Xc.size=1:=ID rfl
theorem aaI:Xc.bytes=8:=ID rfl
theorem atj:qw Xc=True:=eq_true rfl
theorem atk:zc Xc=[.v Value.nilFunc]:=ID rfl
theorem aTn{K:TI→Prop}:@tyW Tryz.prog 237 ⟨K⟩=K Xb:=qh aVS
theorem ati:Xb.kd=Kd.oth:=ID rfl
theorem ale:Xb.kd.agg=false:=ID rfl
theorem afW:Xb.size=1:=ID rfl
theorem aaH:Xb.bytes=8:=ID rfl
theorem atg:qw Xb=True:=eq_true rfl
theorem ath:zc Xb=[.v Value.nilFunc]:=ID rfl
theorem aTm{K:TI→Prop}:@tyW Tryz.prog 238 ⟨K⟩=K Xa:=qh aVR
theorem atf:Xa.kd=Kd.oth:=ID rfl
theorem ald:Xa.kd.agg=false:=ID rfl
theorem afV:Xa.size=1:=ID rfl
theorem aaG:Xa.bytes=8:=ID rfl
theorem atd:qw Xa=True:=eq_true rfl
theorem ate:zc Xa=[.v Value.nilFunc]:=ID rfl
theorem aTl{K:TI→Prop}:@tyW Tryz.prog 239 ⟨K⟩=K Y9:=qh aVQ
theorem atc:Y9.kd=Kd.oth:=ID rfl
theorem alc:Y9.kd.agg=false:=ID rfl
theorem afU:Y9.size=1:=ID rfl
theorem aaF:Y9.bytes=8:=ID rfl
theorem ata:qw Y9=True:=eq_true rfl
theorem atb:zc Y9=[.v Value.nilFunc]:=ID rfl
theorem aTk{K:TI→Prop}:@tyW Tryz.prog 240 ⟨K⟩=K Y8:=qh aVO
theorem as8:Y8.kd=Kd.oth:=ID rfl
theorem ala:Y8.kd.agg=false:=ID rfl
theorem afS:Y8.size=1:=ID rfl
theorem aaE:Y8.bytes=8:=ID rfl
theorem as6:qw Y8=True:=eq_true rfl
theorem as7:zc Y8=[.v Value.nilFunc]:=ID rfl
theorem aTj{K:TI→Prop}:@tyW Tryz.prog 241 ⟨K⟩=K Y7:=qh aVN
theorem as5:Y7.kd=Kd.oth:=ID rfl
theorem ak9:Y7.kd.agg=false:=ID rfl
theorem afR:Y7.size=1:=ID rfl
theorem aaD:Y7.bytes=8:=ID rfl
theorem as3:qw Y7=True:=eq_true rfl
theorem as4:zc Y7=[.v Value.nilFunc]:=ID rfl
theorem aTi{K:TI→Prop}:@tyW Tryz.prog 242 ⟨K⟩=K Y6:=qh aVM
theorem as2:Y6.kd=Kd.int IntKind.u32:=ID rfl
theorem ak8:Y6.kd.agg=false:=ID rfl
theorem afQ:Y6.size=1:=ID rfl
theorem aaC:Y6.bytes=4:=ID rfl
theorem as0:qw Y6=True:=eq_true rfl
theorem as1:zc Y6=[.v (Value.int IntKind.u32 0)]:=ID rfl
theorem aTh{K:TI→Prop}:@tyW Tryz.prog 243 ⟨K⟩=K Y5:=qh aVL
theorem asZ:Y5.kd=Kd.oth:=ID rfl
theorem ak7:Y5.kd.agg=false:=ID rfl
theorem afP:Y5.size=1:=ID rfl
theorem aaB:Y5.bytes=8:=ID rfl
theorem asX:qw Y5=True:=eq_true rfl
theorem asY:zc Y5=[.v Value.nilFunc]:=ID rfl
theorem aTg{K:TI→Prop}:@tyW Tryz.prog 244 ⟨K⟩=K Y4:=qh aVK
theorem asW:Y4.kd=Kd.int IntKind.u64:=ID rfl
theorem ak6:Y4.kd.agg=false:=ID rfl
theorem afO:Y4.size=1:=ID rfl
theorem aaA:Y4.bytes=8:=ID rfl
theorem asU:qw Y4=True:=eq_true rfl
theorem asV:zc Y4=[.v (Value.int IntKind.u64 0)]:=ID rfl
theorem aTf{K:TI→Prop}:@tyW Tryz.prog 245 ⟨K⟩=K Y3:=qh aVJ
theorem asT:Y3.kd=Kd.oth:=ID rfl
theorem ak5:Y3.kd.agg=false:=ID rfl
theorem afN:Y3.size=1:=ID rfl
theorem aaz:Y3.bytes=8:=ID rfl
theorem asR:qw Y3=True:=eq_true rfl
theorem asS:zc Y3=[.v Value.nilFunc]:=ID rfl
theorem aTe{K:TI→Prop}:@tyW Tryz.prog 247 ⟨K⟩=K Y2:=qh aVI
theorem asQ:Y2.kd=Kd.oth:=ID rfl
theorem ak4:Y2.kd.agg=false:=ID rfl
theorem afM:Y2.size=1:=ID rfl
theorem aay:Y2.bytes=8:=ID rfl
theorem asO:qw Y2=True:=eq_true rfl
theorem asP:zc Y2=[.v Value.nilFunc]:=ID rfl
theorem aTd{K:TI→Prop}:@tyW Tryz.prog 248 ⟨K⟩=K Y1:=qh aVH
theorem asN:Y1.kd=Kd.oth:=ID rfl
theorem ak3:Y1.kd.agg=false:=ID rfl
theorem afL:Y1.size=1:=ID rfl
theorem aax:Y1.bytes=8:=ID rfl
theorem asL:qw Y1=True:=eq_true rfl
theorem asM:zc Y1=[.v Value.nilFunc]:=ID rfl
theorem aTc{K:TI→Prop}:@tyW Tryz.prog 249 ⟨K⟩=K Y0:=qh aVG
theorem asK:Y0.kd=Kd.oth:=ID rfl
theorem ak2:Y0.kd.agg=false:=ID rfl
theorem afK:Y0.size=1:=ID rfl
theorem aaw:Y0.bytes=8:=ID rfl
theorem asI:qw Y0=True:=eq_true rfl
theorem asJ:zc Y0=[.v Value.nilFunc]:=ID rfl
theorem aTb{K:TI→Prop}:@tyW Tryz.prog 250 ⟨K⟩=K YZ:=qh aVF
theorem asG:YZ.kd=Kd.oth:=ID rfl
theorem ak0:YZ.kd.agg=false:=ID rfl
theorem afI:YZ.size=1:=ID rfl
theorem aav:YZ.bytes=8:=ID rfl
theorem asE:qw YZ=True:=eq_true rfl
theorem asF:zc YZ=[.v Value.nilFunc]:=ID rfl
theorem aTa{K:TI→Prop}:@tyW Tryz.prog 251 ⟨K⟩=K YY:=qh aVE
theorem asD:YY.kd=Kd.oth:=ID rfl
theorem akZ:YY.kd.agg=false:=ID rfl
theorem afH:YY.size=1:=ID rfl
theorem aau:YY.bytes=8:=ID rfl
theorem asB:qw YY=True:=eq_true rfl
theorem asC:zc YY=[.v Value.nilFunc]:=ID rfl
theorem aS9{K:TI→Prop}:@tyW Tryz.prog 252 ⟨K⟩=K YX:=qh aVD
theorem asA:YX.kd=Kd.oth:=ID rfl
theorem akY:YX.kd.agg=false:=ID rfl
theorem afG:YX.size=1:=ID rfl
theorem aat:YX.bytes=8:=ID rfl
theorem asy:qw YX=True:=eq_true rfl
theorem asz:zc YX=[.v Value.nilFunc]:=ID rfl
theorem aS8{K:TI→Prop}:@tyW Tryz.prog 253 ⟨K⟩=K YW:=qh aVC
theorem asx:YW.kd=Kd.oth:=ID rfl
theorem akX:YW.kd.agg=false:=ID rfl
theorem afF:YW.size=1:=ID rfl
theorem aas:YW.bytes=8:=ID rfl
theorem asv:qw YW=True:=eq_true rfl
theorem asw:zc YW=[.v Value.nilFunc]:=ID rfl
theorem aS7{K:TI→Prop}:@tyW Tryz.prog 254 ⟨K⟩=K YV:=qh aVB
theorem asu:YV.kd=Kd.oth:=ID rfl
theorem akW:YV.kd.agg=false:=ID rfl
theorem afE:YV.size=1:=ID rfl
theorem aar:YV.bytes=8:=ID rfl
theorem ass:qw YV=True:=eq_true rfl
theorem ast:zc YV=[.v Value.nilFunc]:=ID rfl
theorem aS6{K:TI→Prop}:@tyW Tryz.prog 255 ⟨K⟩=K YU:=qh aVA
theorem asr:YU.kd=Kd.oth:=ID rfl
theorem akV:YU.kd.agg=false:=ID rfl
theorem afD:YU.size=1:=ID rfl
theorem aaq:YU.bytes=8:=ID rfl
theorem asp:qw YU=True:=eq_true rfl
theorem asq:zc YU=[.v Value.nilFunc]:=ID rfl
theorem aS5{K:TI→Prop}:@tyW Tryz.prog 258 ⟨K⟩=K YT:=qh aVz
theorem aso:YT.kd=Kd.oth:=ID rfl
theorem akU:YT.kd.agg=false:=ID rfl
theorem afC:YT.size=1:=ID rfl
theorem aap:YT.bytes=8:=ID rfl
theorem asm:qw YT=True:=eq_true rfl
theorem asn:zc YT=[.v Value.nilFunc]:=ID rfl
theorem aS4{K:TI→Prop}:@tyW Tryz.prog 262 ⟨K⟩=K YS:=qh aVy
theorem ask:YS.kd=Kd.stru [(0,261)]:=ID rfl
theorem akR:YS.kd.agg=true:=ID rfl
theorem afA:YS.size=0:=ID rfl
theorem aao:YS.bytes=0:=ID rfl
theorem asi:qw YS=True:=eq_true rfl
theorem asj:zc YS=[]:=ID rfl
theorem aS3{K:TI→Prop}:@tyW Tryz.prog 263 ⟨K⟩=K YR:=qh aVx
theorem ash:YR.kd=Kd.stru [(0,261)]:=ID rfl
theorem akQ:YR.kd.agg=true:=ID rfl
theorem afz:YR.size=0:=ID rfl
theorem aan:YR.bytes=0:=ID rfl
theorem asf:qw YR=True:=eq_true rfl
theorem asg:zc YR=[]:=ID rfl
theorem aS2{K:TI→Prop}:@tyW Tryz.prog 264 ⟨K⟩=K YQ:=qh aVw
theorem ase:YQ.kd=Kd.int IntKind.u8:=ID rfl
theorem akP:YQ.kd.agg=false:=ID rfl
theorem afy:YQ.size=1:=ID rfl
theorem aam:YQ.bytes=1:=ID rfl
theorem asc:qw YQ=True:=eq_true rfl
theorem asd:zc YQ=[.v (Value.int IntKind.u8 0)]:=ID rfl
theorem aS1{K:TI→Prop}:@tyW Tryz.prog 265 ⟨K⟩=K YP:=qh aVv
theorem asb:YP.kd=Kd.int IntKind.u8:=ID rfl
theorem akO:YP.kd.agg=false:=ID rfl
theorem afx:YP.size=1:=ID rfl
theorem aal:YP.bytes=1:=ID rfl
theorem ar9:qw YP=True:=eq_true rfl
theorem asa:zc YP=[.v (Value.int IntKind.u8 0)]:=ID rfl
theorem aS0{K:TI→Prop}:@tyW Tryz.prog 266 ⟨K⟩=K YO:=qh aVu
theorem ar8:YO.kd=Kd.oth:=ID rfl
theorem akN:YO.kd.agg=false:=ID rfl
theorem afw:YO.size=1:=ID rfl
theorem aak:YO.bytes=8:=ID rfl
theorem ar6:qw YO=True:=eq_true rfl
theorem ar7:zc YO=[.v Value.nilFunc]:=ID rfl
theorem aSZ{K:TI→Prop}:@tyW Tryz.prog 268 ⟨K⟩=K YN:=qh aVt
theorem ar5:YN.kd=Kd.int IntKind.i32:=ID rfl
theorem akM:YN.kd.agg=false:=ID rfl
theorem afv:YN.size=1:=ID rfl
theorem aaj:YN.bytes=4:=ID rfl
theorem ar3:qw YN=True:=eq_true rfl
theorem ar4:zc YN=[.v (Value.int IntKind.i32 0)]:=ID rfl
theorem aSY{K:TI→Prop}:@tyW Tryz.prog 269 ⟨K⟩=K YM:=qh aVs
theorem ar2:YM.kd=Kd.int IntKind.i32:=ID rfl
theorem akL:YM.kd.agg=false:=ID rfl
theorem afu:YM.size=1:=ID rfl
theorem aai:YM.bytes=4:=ID rfl
theorem ar0:qw YM=True:=eq_true rfl
theorem ar1:zc YM=[.v (Value.int IntKind.i32 0)]:=ID rfl
theorem aSX{K:TI→Prop}:@tyW Tryz.prog 272 ⟨K⟩=K YK:=qh aVr
theorem arY:YK.kd=Kd.oth:=ID rfl
theorem akJ:YK.kd.agg=false:=ID rfl
theorem afs:YK.size=1:=ID rfl
theorem aah:YK.bytes=8:=ID rfl
theorem arW:qw YK=True:=eq_true rfl
theorem arX:zc YK=[.v Value.nilFunc]:=ID rfl
theorem aSW{K:TI→Prop}:@tyW Tryz.prog 273 ⟨K⟩=K YJ:=qh aVq
theorem arV:YJ.kd=Kd.oth:=ID rfl
theorem akI:YJ.kd.agg=false:=ID rfl
theorem afr:YJ.size=1:=ID rfl
theorem aag:YJ.bytes=8:=ID rfl
theorem arT:qw YJ=True:=eq_true rfl
theorem arU:zc YJ=[.v Value.nilFunc]:=ID rfl
theorem aSV{K:TI→Prop}:@tyW Tryz.prog 274 ⟨K⟩=K YI:=qh aVp
theorem arS:YI.kd=Kd.oth:=ID rfl
theorem akH:YI.kd.agg=false:=ID rfl
theorem afq:YI.size=1:=ID rfl
theorem aaf:YI.bytes=8:=ID rfl
theorem arQ:qw YI=True:=eq_true rfl
theorem arR:zc YI=[.v Value.nilFunc]:=ID rfl
theorem bcJ:qo Tryz.prog 2=True:=eq_true ⟨_,Tryz.func2,of_decide_eq_false (by kernel_rfl),rfl⟩
theorem bcI:qo Tryz.prog 3=True:=eq_true ⟨_,Tryz.func3,of_decide_eq_false (by kernel_rfl),rfl⟩
theorem bcH:qo Tryz.prog 4=True:=eq_true ⟨_,Tryz.func4,of_decide_eq_false (by kernel_rfl),rfl⟩
theorem bcG:qo Tryz.prog 5=True:=eq_true ⟨_,Tryz.func5,of_decide_eq_false (by kernel_rfl),rfl⟩
theorem bcF:qo Tryz.prog 6=True:=eq_true ⟨_,Tryz.func6,of_decide_eq_false (by kernel_rfl),rfl⟩
theorem bcE:qo Tryz.prog 7=True:=eq_true ⟨_,Tryz.func7,of_decide_eq_false (by kernel_rfl),rfl⟩
theorem bcD:qo Tryz.prog 8=True:=eq_true ⟨_,Tryz.func8,of_decide_eq_false (by kernel_rfl),rfl⟩
theorem bcC:qo Tryz.prog 9=True:=eq_true ⟨_,Tryz.func9,of_decide_eq_false (by kernel_rfl),rfl⟩
theorem aZL:qo Tryz.prog 10=True:=eq_true ⟨_,Tryz.func10,of_decide_eq_false (by kernel_rfl),rfl⟩
theorem aZK:qo Tryz.prog 11=True:=eq_true ⟨_,Tryz.func11,of_decide_eq_false (by kernel_rfl),rfl⟩
theorem aZJ:qo Tryz.prog 12=True:=eq_true ⟨_,Tryz.func12,of_decide_eq_false (by kernel_rfl),rfl⟩
theorem aZI:qo Tryz.prog 13=True:=eq_true ⟨_,Tryz.func13,of_decide_eq_false (by kernel_rfl),rfl⟩
theorem aZH:qo Tryz.prog 14=True:=eq_true ⟨_,Tryz.func14,of_decide_eq_false (by kernel_rfl),rfl⟩
theorem aZG:qo Tryz.prog 15=True:=eq_true ⟨_,Tryz.func15,of_decide_eq_false (by kernel_rfl),rfl⟩
theorem aZF:qo Tryz.prog 16=True:=eq_true ⟨_,Tryz.func16,of_decide_eq_false (by kernel_rfl),rfl⟩
theorem aZE:qo Tryz.prog 17=True:=eq_true ⟨_,Tryz.func17,of_decide_eq_false (by kernel_rfl),rfl⟩
theorem aZD:qo Tryz.prog 18=True:=eq_true ⟨_,Tryz.func18,of_decide_eq_false (by kernel_rfl),rfl⟩
theorem aZC:qo Tryz.prog 19=True:=eq_true ⟨_,Tryz.func19,of_decide_eq_false (by kernel_rfl),rfl⟩
theorem aZB:qo Tryz.prog 20=True:=eq_true ⟨_,Tryz.func20,of_decide_eq_false (by kernel_rfl),rfl⟩
theorem aZA:qo Tryz.prog 21=True:=eq_true ⟨_,Tryz.func21,of_decide_eq_false (by kernel_rfl),rfl⟩
theorem aZz:qo Tryz.prog 22=True:=eq_true ⟨_,Tryz.func22,of_decide_eq_false (by kernel_rfl),rfl⟩
theorem aZy:qo Tryz.prog 23=True:=eq_true ⟨_,Tryz.func23,of_decide_eq_false (by kernel_rfl),rfl⟩
theorem aZx:qo Tryz.prog 24=True:=eq_true ⟨_,Tryz.func24,of_decide_eq_false (by kernel_rfl),rfl⟩
theorem aZw:qo Tryz.prog 25=True:=eq_true ⟨_,Tryz.func25,of_decide_eq_false (by kernel_rfl),rfl⟩
theorem aZv:qo Tryz.prog 26=True:=eq_true ⟨_,Tryz.func26,of_decide_eq_false (by kernel_rfl),rfl⟩
theorem aZu:qo Tryz.prog 27=True:=eq_true ⟨_,Tryz.func27,of_decide_eq_false (by kernel_rfl),rfl⟩
theorem aZt:qo Tryz.prog 28=True:=eq_true ⟨_,Tryz.func28,of_decide_eq_false (by kernel_rfl),rfl⟩
theorem aZs:qo Tryz.prog 29=True:=eq_true ⟨_,Tryz.func29,of_decide_eq_false (by kernel_rfl),rfl⟩
theorem aZr:qo Tryz.prog 30=True:=eq_true ⟨_,Tryz.func30,of_decide_eq_false (by kernel_rfl),rfl⟩
theorem aZq:qo Tryz.prog 31=True:=eq_true ⟨_,Tryz.func31,of_decide_eq_false (by kernel_rfl),rfl⟩
theorem aZp:qo Tryz.prog 32=True:=eq_true ⟨_,Tryz.func32,of_decide_eq_false (by kernel_rfl),rfl⟩
theorem aZo:qo Tryz.prog 33=True:=eq_true ⟨_,Tryz.func33,of_decide_eq_false (by kernel_rfl),rfl⟩
theorem aZn:qo Tryz.prog 34=True:=eq_true ⟨_,Tryz.func34,of_decide_eq_false (by kernel_rfl),rfl⟩
theorem aZm:qo Tryz.prog 35=True:=eq_true ⟨_,Tryz.func35,of_decide_eq_false (by kernel_rfl),rfl⟩
theorem aZl:qo Tryz.prog 36=True:=eq_true ⟨_,Tryz.func36,of_decide_eq_false (by kernel_rfl),rfl⟩
theorem aZk:qo Tryz.prog 37=True:=eq_true ⟨_,Tryz.func37,of_decide_eq_false (by kernel_rfl),rfl⟩
theorem aZj:qo Tryz.prog 38=True:=eq_true ⟨_,Tryz.func38,of_decide_eq_false (by kernel_rfl),rfl⟩
theorem aZi:qo Tryz.prog 39=True:=eq_true ⟨_,Tryz.func39,of_decide_eq_false (by kernel_rfl),rfl⟩
theorem aZh:qo Tryz.prog 40=True:=eq_true ⟨_,Tryz.func40,of_decide_eq_false (by kernel_rfl),rfl⟩
theorem aZg:qo Tryz.prog 41=True:=eq_true ⟨_,Tryz.func41,of_decide_eq_false (by kernel_rfl),rfl⟩
theorem aZf:qo Tryz.prog 42=True:=eq_true ⟨_,Tryz.func42,of_decide_eq_false (by kernel_rfl),rfl⟩
theorem aZe:qo Tryz.prog 43=True:=eq_true ⟨_,Tryz.func43,of_decide_eq_false (by kernel_rfl),rfl⟩
theorem aZd:qo Tryz.prog 44=True:=eq_true ⟨_,Tryz.func44,of_decide_eq_false (by kernel_rfl),rfl⟩
theorem aZc:qo Tryz.prog 45=True:=eq_true ⟨_,Tryz.func45,of_decide_eq_false (by kernel_rfl),rfl⟩
theorem aZb:qo Tryz.prog 46=True:=eq_true ⟨_,Tryz.func46,of_decide_eq_false (by kernel_rfl),rfl⟩
theorem aZa:qo Tryz.prog 47=True:=eq_true ⟨_,Tryz.func47,of_decide_eq_false (by kernel_rfl),rfl⟩
theorem aY9:qo Tryz.prog 48=True:=eq_true ⟨_,Tryz.func48,of_decide_eq_false (by kernel_rfl),rfl⟩
theorem aY8:qo Tryz.prog 49=True:=eq_true ⟨_,Tryz.func49,of_decide_eq_false (by kernel_rfl),rfl⟩
theorem aY7:qo Tryz.prog 50=True:=eq_true ⟨_,Tryz.func50,of_decide_eq_false (by kernel_rfl),rfl⟩
theorem aY6:qo Tryz.prog 51=True:=eq_true ⟨_,Tryz.func51,of_decide_eq_false (by kernel_rfl),rfl⟩
theorem aY5:qo Tryz.prog 52=True:=eq_true ⟨_,Tryz.func52,of_decide_eq_false (by kernel_rfl),rfl⟩
theorem aY4:qo Tryz.prog 53=True:=eq_true ⟨_,Tryz.func53,of_decide_eq_false (by kernel_rfl),rfl⟩
theorem aY3:qo Tryz.prog 54=True:=eq_true ⟨_,Tryz.func54,of_decide_eq_false (by kernel_rfl),rfl⟩
theorem aY2:qo Tryz.prog 55=True:=eq_true ⟨_,Tryz.func55,of_decide_eq_false (by kernel_rfl),rfl⟩
theorem aY1:qo Tryz.prog 56=True:=eq_true ⟨_,Tryz.func56,of_decide_eq_false (by kernel_rfl),rfl⟩
theorem aY0:qo Tryz.prog 57=True:=eq_true ⟨_,Tryz.func57,of_decide_eq_false (by kernel_rfl),rfl⟩
theorem aYZ:qo Tryz.prog 58=True:=eq_true ⟨_,Tryz.func58,of_decide_eq_false (by kernel_rfl),rfl⟩
theorem aYY:qo Tryz.prog 59=True:=eq_true ⟨_,Tryz.func59,of_decide_eq_false (by kernel_rfl),rfl⟩
theorem aYX:qo Tryz.prog 60=True:=eq_true ⟨_,Tryz.func60,of_decide_eq_false (by kernel_rfl),rfl⟩
theorem aYW:qo Tryz.prog 61=True:=eq_true ⟨_,Tryz.func61,of_decide_eq_false (by kernel_rfl),rfl⟩
theorem aYV:qo Tryz.prog 62=True:=eq_true ⟨_,Tryz.func62,of_decide_eq_false (by kernel_rfl),rfl⟩
theorem aYU:qo Tryz.prog 63=True:=eq_true ⟨_,Tryz.func63,of_decide_eq_false (by kernel_rfl),rfl⟩
theorem aYT:qo Tryz.prog 64=True:=eq_true ⟨_,Tryz.func64,of_decide_eq_false (by kernel_rfl),rfl⟩
theorem aYS:qo Tryz.prog 65=True:=eq_true ⟨_,Tryz.func65,of_decide_eq_false (by kernel_rfl),rfl⟩
theorem aYR:qo Tryz.prog 66=True:=eq_true ⟨_,Tryz.func66,of_decide_eq_false (by kernel_rfl),rfl⟩
theorem aYQ:qo Tryz.prog 67=True:=eq_true ⟨_,Tryz.func67,of_decide_eq_false (by kernel_rfl),rfl⟩
theorem aYP:qo Tryz.prog 68=True:=eq_true ⟨_,Tryz.func68,of_decide_eq_false (by kernel_rfl),rfl⟩
theorem aYO:qo Tryz.prog 69=True:=eq_true ⟨_,Tryz.func69,of_decide_eq_false (by kernel_rfl),rfl⟩
theorem aYN:qo Tryz.prog 70=True:=eq_true ⟨_,Tryz.func70,of_decide_eq_false (by kernel_rfl),rfl⟩
theorem aYM:qo Tryz.prog 71=True:=eq_true ⟨_,Tryz.func71,of_decide_eq_false (by kernel_rfl),rfl⟩
theorem aYL:qo Tryz.prog 72=True:=eq_true ⟨_,Tryz.func72,of_decide_eq_false (by kernel_rfl),rfl⟩
theorem aYK:qo Tryz.prog 73=True:=eq_true ⟨_,Tryz.func73,of_decide_eq_false (by kernel_rfl),rfl⟩
theorem aYJ:qo Tryz.prog 74=True:=eq_true ⟨_,Tryz.func74,of_decide_eq_false (by kernel_rfl),rfl⟩
theorem aYI:qo Tryz.prog 75=True:=eq_true ⟨_,Tryz.func75,of_decide_eq_false (by kernel_rfl),rfl⟩
theorem aYH:qo Tryz.prog 76=True:=eq_true ⟨_,Tryz.func76,of_decide_eq_false (by kernel_rfl),rfl⟩
theorem aYG:qo Tryz.prog 77=True:=eq_true ⟨_,Tryz.func77,of_decide_eq_false (by kernel_rfl),rfl⟩
theorem aYF:qo Tryz.prog 78=True:=eq_true ⟨_,Tryz.func78,of_decide_eq_false (by kernel_rfl),rfl⟩
theorem aYE:qo Tryz.prog 79=True:=eq_true ⟨_,Tryz.func79,of_decide_eq_false (by kernel_rfl),rfl⟩
theorem aYD:qo Tryz.prog 80=True:=eq_true ⟨_,Tryz.func80,of_decide_eq_false (by kernel_rfl),rfl⟩
theorem aYC:qo Tryz.prog 81=True:=eq_true ⟨_,Tryz.func81,of_decide_eq_false (by kernel_rfl),rfl⟩
theorem aYB:qo Tryz.prog 82=True:=eq_true ⟨_,Tryz.func82,of_decide_eq_false (by kernel_rfl),rfl⟩
theorem aYA:qo Tryz.prog 83=True:=eq_true ⟨_,Tryz.func83,of_decide_eq_false (by kernel_rfl),rfl⟩
theorem aYz:qo Tryz.prog 84=True:=eq_true ⟨_,Tryz.func84,of_decide_eq_false (by kernel_rfl),rfl⟩
theorem aYy:qo Tryz.prog 85=True:=eq_true ⟨_,Tryz.func85,of_decide_eq_false (by kernel_rfl),rfl⟩
theorem aYx:qo Tryz.prog 86=True:=eq_true ⟨_,Tryz.func86,of_decide_eq_false (by kernel_rfl),rfl⟩
theorem aYw:qo Tryz.prog 87=True:=eq_true ⟨_,Tryz.func87,of_decide_eq_false (by kernel_rfl),rfl⟩
theorem aYv:qo Tryz.prog 88=True:=eq_true ⟨_,Tryz.func88,of_decide_eq_false (by kernel_rfl),rfl⟩
theorem aYu:qo Tryz.prog 89=True:=eq_true ⟨_,Tryz.func89,of_decide_eq_false (by kernel_rfl),rfl⟩
theorem aYt:qo Tryz.prog 90=True:=eq_true ⟨_,Tryz.func90,of_decide_eq_false (by kernel_rfl),rfl⟩
theorem aYs:qo Tryz.prog 91=True:=eq_true ⟨_,Tryz.func91,of_decide_eq_false (by kernel_rfl),rfl⟩
theorem aYr:qo Tryz.prog 92=True:=eq_true ⟨_,Tryz.func92,of_decide_eq_false (by kernel_rfl),rfl⟩
theorem aYq:qo Tryz.prog 93=True:=eq_true ⟨_,Tryz.func93,of_decide_eq_false (by kernel_rfl),rfl⟩
theorem aYp:qo Tryz.prog 94=True:=eq_true ⟨_,Tryz.func94,of_decide_eq_false (by kernel_rfl),rfl⟩
theorem aYo:qo Tryz.prog 95=True:=eq_true ⟨_,Tryz.func95,of_decide_eq_false (by kernel_rfl),rfl⟩
theorem aYn:qo Tryz.prog 96=True:=eq_true ⟨_,Tryz.func96,of_decide_eq_false (by kernel_rfl),rfl⟩
theorem aYm:qo Tryz.prog 97=True:=eq_true ⟨_,Tryz.func97,of_decide_eq_false (by kernel_rfl),rfl⟩
theorem aYl:qo Tryz.prog 98=True:=eq_true ⟨_,Tryz.func98,of_decide_eq_false (by kernel_rfl),rfl⟩
theorem aYk:qo Tryz.prog 99=True:=eq_true ⟨_,Tryz.func99,of_decide_eq_false (by kernel_rfl),rfl⟩
theorem aRw:qo Tryz.prog 100=True:=eq_true ⟨_,Tryz.func100,of_decide_eq_false (by kernel_rfl),rfl⟩
theorem aRv:qo Tryz.prog 101=True:=eq_true ⟨_,Tryz.func101,of_decide_eq_false (by kernel_rfl),rfl⟩
theorem aRu:qo Tryz.prog 102=True:=eq_true ⟨_,Tryz.func102,of_decide_eq_false (by kernel_rfl),rfl⟩
theorem aRt:qo Tryz.prog 103=True:=eq_true ⟨_,Tryz.func103,of_decide_eq_false (by kernel_rfl),rfl⟩
theorem aRs:qo Tryz.prog 104=True:=eq_true ⟨_,Tryz.func104,of_decide_eq_false (by kernel_rfl),rfl⟩
theorem aRr:qo Tryz.prog 105=True:=eq_true ⟨_,Tryz.func105,of_decide_eq_false (by kernel_rfl),rfl⟩
theorem aRq:qo Tryz.prog 106=True:=eq_true ⟨_,Tryz.func106,of_decide_eq_false (by kernel_rfl),rfl⟩
theorem aRp:qo Tryz.prog 107=True:=eq_true ⟨_,Tryz.func107,of_decide_eq_false (by kernel_rfl),rfl⟩
theorem aRo:qo Tryz.prog 108=True:=eq_true ⟨_,Tryz.func108,of_decide_eq_false (by kernel_rfl),rfl⟩
theorem aRn:qo Tryz.prog 109=True:=eq_true ⟨_,Tryz.func109,of_decide_eq_false (by kernel_rfl),rfl⟩
theorem aRm:qo Tryz.prog 110=True:=eq_true ⟨_,Tryz.func110,of_decide_eq_false (by kernel_rfl),rfl⟩
theorem aRl:qo Tryz.prog 111=True:=eq_true ⟨_,Tryz.func111,of_decide_eq_false (by kernel_rfl),rfl⟩
theorem aRk:qo Tryz.prog 112=True:=eq_true ⟨_,Tryz.func112,of_decide_eq_false (by kernel_rfl),rfl⟩
theorem aRj:qo Tryz.prog 113=True:=eq_true ⟨_,Tryz.func113,of_decide_eq_false (by kernel_rfl),rfl⟩
theorem aRi:qo Tryz.prog 114=True:=eq_true ⟨_,Tryz.func114,of_decide_eq_false (by kernel_rfl),rfl⟩
theorem aRh:qo Tryz.prog 115=True:=eq_true ⟨_,Tryz.func115,of_decide_eq_false (by kernel_rfl),rfl⟩
theorem aRg:qo Tryz.prog 116=True:=eq_true ⟨_,Tryz.func116,of_decide_eq_false (by kernel_rfl),rfl⟩
theorem aRf:qo Tryz.prog 117=True:=eq_true ⟨_,Tryz.func117,of_decide_eq_false (by kernel_rfl),rfl⟩
theorem aRe:qo Tryz.prog 118=True:=eq_true ⟨_,Tryz.func118,of_decide_eq_false (by kernel_rfl),rfl⟩
theorem aRd:qo Tryz.prog 119=True:=eq_true ⟨_,Tryz.func119,of_decide_eq_false (by kernel_rfl),rfl⟩
theorem aRc:qo Tryz.prog 120=True:=eq_true ⟨_,Tryz.func120,of_decide_eq_false (by kernel_rfl),rfl⟩
theorem aRb:qo Tryz.prog 121=True:=eq_true ⟨_,Tryz.func121,of_decide_eq_false (by kernel_rfl),rfl⟩
theorem aRa:qo Tryz.prog 122=True:=eq_true ⟨_,Tryz.func122,of_decide_eq_false (by kernel_rfl),rfl⟩
theorem aQ9:qo Tryz.prog 123=True:=eq_true ⟨_,Tryz.func123,of_decide_eq_false (by kernel_rfl),rfl⟩
theorem aQ8:qo Tryz.prog 124=True:=eq_true ⟨_,Tryz.func124,of_decide_eq_false (by kernel_rfl),rfl⟩
theorem aQ7:qo Tryz.prog 125=True:=eq_true ⟨_,Tryz.func125,of_decide_eq_false (by kernel_rfl),rfl⟩
theorem aQ6:qo Tryz.prog 126=True:=eq_true ⟨_,Tryz.func126,of_decide_eq_false (by kernel_rfl),rfl⟩
theorem aQ5:qo Tryz.prog 127=True:=eq_true ⟨_,Tryz.func127,of_decide_eq_false (by kernel_rfl),rfl⟩
theorem aQ4:qo Tryz.prog 128=True:=eq_true ⟨_,Tryz.func128,of_decide_eq_false (by kernel_rfl),rfl⟩
theorem aQ3:qo Tryz.prog 129=True:=eq_true ⟨_,Tryz.func129,of_decide_eq_false (by kernel_rfl),rfl⟩
theorem aQ2:qo Tryz.prog 130=True:=eq_true ⟨_,Tryz.func130,of_decide_eq_false (by kernel_rfl),rfl⟩
theorem aQ1:qo Tryz.prog 131=True:=eq_true ⟨_,Tryz.func131,of_decide_eq_false (by kernel_rfl),rfl⟩
theorem aQ0:qo Tryz.prog 132=True:=eq_true ⟨_,Tryz.func132,of_decide_eq_false (by kernel_rfl),rfl⟩
theorem aQZ:qo Tryz.prog 133=True:=eq_true ⟨_,Tryz.func133,of_decide_eq_false (by kernel_rfl),rfl⟩
theorem aQY:qo Tryz.prog 134=True:=eq_true ⟨_,Tryz.func134,of_decide_eq_false (by kernel_rfl),rfl⟩
theorem aQX:qo Tryz.prog 135=True:=eq_true ⟨_,Tryz.func135,of_decide_eq_false (by kernel_rfl),rfl⟩
theorem aQW:qo Tryz.prog 136=True:=eq_true ⟨_,Tryz.func136,of_decide_eq_false (by kernel_rfl),rfl⟩
theorem aQV:qo Tryz.prog 137=True:=eq_true ⟨_,Tryz.func137,of_decide_eq_false (by kernel_rfl),rfl⟩
theorem aQU:qo Tryz.prog 138=True:=eq_true ⟨_,Tryz.func138,of_decide_eq_false (by kernel_rfl),rfl⟩
theorem aQT:qo Tryz.prog 139=True:=eq_true ⟨_,Tryz.func139,of_decide_eq_false (by kernel_rfl),rfl⟩
theorem aQS:qo Tryz.prog 140=True:=eq_true ⟨_,Tryz.func140,of_decide_eq_false (by kernel_rfl),rfl⟩
theorem aQR:qo Tryz.prog 141=True:=eq_true ⟨_,Tryz.func141,of_decide_eq_false (by kernel_rfl),rfl⟩
theorem aQQ:qo Tryz.prog 142=True:=eq_true ⟨_,Tryz.func142,of_decide_eq_false (by kernel_rfl),rfl⟩
theorem aQP:qo Tryz.prog 143=True:=eq_true ⟨_,Tryz.func143,of_decide_eq_false (by kernel_rfl),rfl⟩
theorem aQO:qo Tryz.prog 144=True:=eq_true ⟨_,Tryz.func144,of_decide_eq_false (by kernel_rfl),rfl⟩
theorem aQN:qo Tryz.prog 145=True:=eq_true ⟨_,Tryz.func145,of_decide_eq_false (by kernel_rfl),rfl⟩
theorem aQM:qo Tryz.prog 146=True:=eq_true ⟨_,Tryz.func146,of_decide_eq_false (by kernel_rfl),rfl⟩
theorem aQL:qo Tryz.prog 147=True:=eq_true ⟨_,Tryz.func147,of_decide_eq_false (by kernel_rfl),rfl⟩
theorem aQK:qo Tryz.prog 148=True:=eq_true ⟨_,Tryz.func148,of_decide_eq_false (by kernel_rfl),rfl⟩
theorem aQJ:qo Tryz.prog 149=True:=eq_true ⟨_,Tryz.func149,of_decide_eq_false (by kernel_rfl),rfl⟩
theorem aQI:qo Tryz.prog 150=True:=eq_true ⟨_,Tryz.func150,of_decide_eq_false (by kernel_rfl),rfl⟩
theorem aQH:qo Tryz.prog 151=True:=eq_true ⟨_,Tryz.func151,of_decide_eq_false (by kernel_rfl),rfl⟩
theorem aQG:qo Tryz.prog 152=True:=eq_true ⟨_,Tryz.func152,of_decide_eq_false (by kernel_rfl),rfl⟩
theorem aQF:qo Tryz.prog 153=True:=eq_true ⟨_,Tryz.func153,of_decide_eq_false (by kernel_rfl),rfl⟩
theorem aQE:qo Tryz.prog 154=True:=eq_true ⟨_,Tryz.func154,of_decide_eq_false (by kernel_rfl),rfl⟩
theorem aQD:qo Tryz.prog 155=True:=eq_true ⟨_,Tryz.func155,of_decide_eq_false (by kernel_rfl),rfl⟩
theorem aQC:qo Tryz.prog 156=True:=eq_true ⟨_,Tryz.func156,of_decide_eq_false (by kernel_rfl),rfl⟩
theorem aQB:qo Tryz.prog 157=True:=eq_true ⟨_,Tryz.func157,of_decide_eq_false (by kernel_rfl),rfl⟩
theorem aQA:qo Tryz.prog 158=True:=eq_true ⟨_,Tryz.func158,of_decide_eq_false (by kernel_rfl),rfl⟩
theorem aQz:qo Tryz.prog 159=True:=eq_true ⟨_,Tryz.func159,of_decide_eq_false (by kernel_rfl),rfl⟩
theorem aQy:qo Tryz.prog 160=True:=eq_true ⟨_,Tryz.func160,of_decide_eq_false (by kernel_rfl),rfl⟩
theorem aQx:qo Tryz.prog 161=True:=eq_true ⟨_,Tryz.func161,of_decide_eq_false (by kernel_rfl),rfl⟩
theorem aQw:qo Tryz.prog 162=True:=eq_true ⟨_,Tryz.func162,of_decide_eq_false (by kernel_rfl),rfl⟩
theorem aQv:qo Tryz.prog 163=True:=eq_true ⟨_,Tryz.func163,of_decide_eq_false (by kernel_rfl),rfl⟩
theorem aQu:qo Tryz.prog 164=True:=eq_true ⟨_,Tryz.func164,of_decide_eq_false (by kernel_rfl),rfl⟩
theorem aQt:qo Tryz.prog 165=True:=eq_true ⟨_,Tryz.func165,of_decide_eq_false (by kernel_rfl),rfl⟩
theorem aQs:qo Tryz.prog 166=True:=eq_true ⟨_,Tryz.func166,of_decide_eq_false (by kernel_rfl),rfl⟩
theorem aQr:qo Tryz.prog 167=True:=eq_true ⟨_,Tryz.func167,of_decide_eq_false (by kernel_rfl),rfl⟩
theorem aQq:qo Tryz.prog 168=True:=eq_true ⟨_,Tryz.func168,of_decide_eq_false (by kernel_rfl),rfl⟩
theorem aQp:qo Tryz.prog 169=True:=eq_true ⟨_,Tryz.func169,of_decide_eq_false (by kernel_rfl),rfl⟩
theorem aQo:qo Tryz.prog 170=True:=eq_true ⟨_,Tryz.func170,of_decide_eq_false (by kernel_rfl),rfl⟩
theorem aQn:qo Tryz.prog 171=True:=eq_true ⟨_,Tryz.func171,of_decide_eq_false (by kernel_rfl),rfl⟩
theorem aQm:qo Tryz.prog 172=True:=eq_true ⟨_,Tryz.func172,of_decide_eq_false (by kernel_rfl),rfl⟩
theorem aQl:qo Tryz.prog 173=True:=eq_true ⟨_,Tryz.func173,of_decide_eq_false (by kernel_rfl),rfl⟩
theorem aQk:qo Tryz.prog 174=True:=eq_true ⟨_,Tryz.func174,of_decide_eq_false (by kernel_rfl),rfl⟩
theorem aQj:qo Tryz.prog 175=True:=eq_true ⟨_,Tryz.func175,of_decide_eq_false (by kernel_rfl),rfl⟩
theorem aQi:qo Tryz.prog 176=True:=eq_true ⟨_,Tryz.func176,of_decide_eq_false (by kernel_rfl),rfl⟩
theorem aQh:qo Tryz.prog 177=True:=eq_true ⟨_,Tryz.func177,of_decide_eq_false (by kernel_rfl),rfl⟩
theorem aQg:qo Tryz.prog 178=True:=eq_true ⟨_,Tryz.func178,of_decide_eq_false (by kernel_rfl),rfl⟩
theorem aQf:qo Tryz.prog 179=True:=eq_true ⟨_,Tryz.func179,of_decide_eq_false (by kernel_rfl),rfl⟩
theorem aQe:qo Tryz.prog 180=True:=eq_true ⟨_,Tryz.func180,of_decide_eq_false (by kernel_rfl),rfl⟩
theorem aQd:qo Tryz.prog 181=True:=eq_true ⟨_,Tryz.func181,of_decide_eq_false (by kernel_rfl),rfl⟩
theorem aQc:qo Tryz.prog 182=True:=eq_true ⟨_,Tryz.func182,of_decide_eq_false (by kernel_rfl),rfl⟩
theorem aQb:qo Tryz.prog 183=True:=eq_true ⟨_,Tryz.func183,of_decide_eq_false (by kernel_rfl),rfl⟩
theorem aQa:qo Tryz.prog 184=True:=eq_true ⟨_,Tryz.func184,of_decide_eq_false (by kernel_rfl),rfl⟩
theorem aP9:qo Tryz.prog 185=True:=eq_true ⟨_,Tryz.func185,of_decide_eq_false (by kernel_rfl),rfl⟩
theorem aP8:qo Tryz.prog 186=True:=eq_true ⟨_,Tryz.func186,of_decide_eq_false (by kernel_rfl),rfl⟩
theorem aP7:qo Tryz.prog 187=True:=eq_true ⟨_,Tryz.func187,of_decide_eq_false (by kernel_rfl),rfl⟩
theorem aP6:qo Tryz.prog 188=True:=eq_true ⟨_,Tryz.func188,of_decide_eq_false (by kernel_rfl),rfl⟩
theorem aP5:qo Tryz.prog 189=True:=eq_true ⟨_,Tryz.func189,of_decide_eq_false (by kernel_rfl),rfl⟩
theorem aP4:qo Tryz.prog 190=True:=eq_true ⟨_,Tryz.func190,of_decide_eq_false (by kernel_rfl),rfl⟩
theorem aP3:qo Tryz.prog 191=True:=eq_true ⟨_,Tryz.func191,of_decide_eq_false (by kernel_rfl),rfl⟩
theorem aP2:qo Tryz.prog 192=True:=eq_true ⟨_,Tryz.func192,of_decide_eq_false (by kernel_rfl),rfl⟩
theorem aP1:qo Tryz.prog 193=True:=eq_true ⟨_,Tryz.func193,of_decide_eq_false (by kernel_rfl),rfl⟩
theorem aP0:qo Tryz.prog 194=True:=eq_true ⟨_,Tryz.func194,of_decide_eq_false (by kernel_rfl),rfl⟩
theorem aPZ:qo Tryz.prog 195=True:=eq_true ⟨_,Tryz.func195,of_decide_eq_false (by kernel_rfl),rfl⟩
theorem aPY:qo Tryz.prog 196=True:=eq_true ⟨_,Tryz.func196,of_decide_eq_false (by kernel_rfl),rfl⟩
theorem aPX:qo Tryz.prog 197=True:=eq_true ⟨_,Tryz.func197,of_decide_eq_false (by kernel_rfl),rfl⟩
theorem aPW:qo Tryz.prog 198=True:=eq_true ⟨_,Tryz.func198,of_decide_eq_false (by kernel_rfl),rfl⟩
theorem aPV:qo Tryz.prog 199=True:=eq_true ⟨_,Tryz.func199,of_decide_eq_false (by kernel_rfl),rfl⟩
theorem aPU:qo Tryz.prog 200=True:=eq_true ⟨_,Tryz.func200,of_decide_eq_false (by kernel_rfl),rfl⟩
theorem aPT:qo Tryz.prog 201=True:=eq_true ⟨_,Tryz.func201,of_decide_eq_false (by kernel_rfl),rfl⟩
theorem aPS:qo Tryz.prog 202=True:=eq_true ⟨_,Tryz.func202,of_decide_eq_false (by kernel_rfl),rfl⟩
theorem aPR:qo Tryz.prog 203=True:=eq_true ⟨_,Tryz.func203,of_decide_eq_false (by kernel_rfl),rfl⟩
theorem aPQ:qo Tryz.prog 204=True:=eq_true ⟨_,Tryz.func204,of_decide_eq_false (by kernel_rfl),rfl⟩
theorem aPP:qo Tryz.prog 205=True:=eq_true ⟨_,Tryz.func205,of_decide_eq_false (by kernel_rfl),rfl⟩
theorem aPO:qo Tryz.prog 206=True:=eq_true ⟨_,Tryz.func206,of_decide_eq_false (by kernel_rfl),rfl⟩
theorem aPN:qo Tryz.prog 207=True:=eq_true ⟨_,Tryz.func207,of_decide_eq_false (by kernel_rfl),rfl⟩
theorem aPM:qo Tryz.prog 208=True:=eq_true ⟨_,Tryz.func208,of_decide_eq_false (by kernel_rfl),rfl⟩
theorem aPL:qo Tryz.prog 209=True:=eq_true ⟨_,Tryz.func209,of_decide_eq_false (by kernel_rfl),rfl⟩
theorem aPK:qo Tryz.prog 210=True:=eq_true ⟨_,Tryz.func210,of_decide_eq_false (by kernel_rfl),rfl⟩
theorem aPJ:qo Tryz.prog 211=True:=eq_true ⟨_,Tryz.func211,of_decide_eq_false (by kernel_rfl),rfl⟩
theorem aPI:qo Tryz.prog 212=True:=eq_true ⟨_,Tryz.func212,of_decide_eq_false (by kernel_rfl),rfl⟩
theorem aPH:qo Tryz.prog 213=True:=eq_true ⟨_,Tryz.func213,of_decide_eq_false (by kernel_rfl),rfl⟩
theorem aPG:qo Tryz.prog 214=True:=eq_true ⟨_,Tryz.func214,of_decide_eq_false (by kernel_rfl),rfl⟩
theorem aPF:qo Tryz.prog 215=True:=eq_true ⟨_,Tryz.func215,of_decide_eq_false (by kernel_rfl),rfl⟩
theorem aPE:qo Tryz.prog 216=True:=eq_true ⟨_,Tryz.func216,of_decide_eq_false (by kernel_rfl),rfl⟩
theorem aPD:qo Tryz.prog 217=True:=eq_true ⟨_,Tryz.func217,of_decide_eq_false (by kernel_rfl),rfl⟩
theorem aPC:qo Tryz.prog 218=True:=eq_true ⟨_,Tryz.func218,of_decide_eq_false (by kernel_rfl),rfl⟩
theorem aPB:qo Tryz.prog 219=True:=eq_true ⟨_,Tryz.func219,of_decide_eq_false (by kernel_rfl),rfl⟩
theorem aPA:qo Tryz.prog 220=True:=eq_true ⟨_,Tryz.func220,of_decide_eq_false (by kernel_rfl),rfl⟩
theorem aPz:qo Tryz.prog 221=True:=eq_true ⟨_,Tryz.func221,of_decide_eq_false (by kernel_rfl),rfl⟩
theorem aPy:qo Tryz.prog 222=True:=eq_true ⟨_,Tryz.func222,of_decide_eq_false (by kernel_rfl),rfl⟩
theorem aPx:qo Tryz.prog 223=True:=eq_true ⟨_,Tryz.func223,of_decide_eq_false (by kernel_rfl),rfl⟩
theorem aPw:qo Tryz.prog 224=True:=eq_true ⟨_,Tryz.func224,of_decide_eq_false (by kernel_rfl),rfl⟩
theorem aPv:qo Tryz.prog 225=True:=eq_true ⟨_,Tryz.func225,of_decide_eq_false (by kernel_rfl),rfl⟩
theorem aPu:qo Tryz.prog 226=True:=eq_true ⟨_,Tryz.func226,of_decide_eq_false (by kernel_rfl),rfl⟩
theorem aPt:qo Tryz.prog 227=True:=eq_true ⟨_,Tryz.func227,of_decide_eq_false (by kernel_rfl),rfl⟩
theorem aPs:qo Tryz.prog 228=True:=eq_true ⟨_,Tryz.func228,of_decide_eq_false (by kernel_rfl),rfl⟩
theorem aPr:qo Tryz.prog 229=True:=eq_true ⟨_,Tryz.func229,of_decide_eq_false (by kernel_rfl),rfl⟩
theorem aPq:qo Tryz.prog 230=True:=eq_true ⟨_,Tryz.func230,of_decide_eq_false (by kernel_rfl),rfl⟩
theorem aPp:qo Tryz.prog 231=True:=eq_true ⟨_,Tryz.func231,of_decide_eq_false (by kernel_rfl),rfl⟩
theorem aPo:qo Tryz.prog 232=True:=eq_true ⟨_,Tryz.func232,of_decide_eq_false (by kernel_rfl),rfl⟩
theorem aPn:qo Tryz.prog 233=True:=eq_true ⟨_,Tryz.func233,of_decide_eq_false (by kernel_rfl),rfl⟩
theorem aPm:qo Tryz.prog 234=True:=eq_true ⟨_,Tryz.func234,of_decide_eq_false (by kernel_rfl),rfl⟩
theorem aPl:qo Tryz.prog 235=True:=eq_true ⟨_,Tryz.func235,of_decide_eq_false (by kernel_rfl),rfl⟩
theorem aPk:qo Tryz.prog 236=True:=eq_true ⟨_,Tryz.func236,of_decide_eq_false (by kernel_rfl),rfl⟩
theorem aPj:qo Tryz.prog 237=True:=eq_true ⟨_,Tryz.func237,of_decide_eq_false (by kernel_rfl),rfl⟩
theorem aPi:qo Tryz.prog 238=True:=eq_true ⟨_,Tryz.func238,of_decide_eq_false (by kernel_rfl),rfl⟩
theorem aPh:qo Tryz.prog 239=True:=eq_true ⟨_,Tryz.func239,of_decide_eq_false (by kernel_rfl),rfl⟩
theorem aPg:qo Tryz.prog 240=True:=eq_true ⟨_,Tryz.func240,of_decide_eq_false (by kernel_rfl),rfl⟩
theorem aPf:qo Tryz.prog 241=True:=eq_true ⟨_,Tryz.func241,of_decide_eq_false (by kernel_rfl),rfl⟩
theorem aPe:qo Tryz.prog 242=True:=eq_true ⟨_,Tryz.func242,of_decide_eq_false (by kernel_rfl),rfl⟩
theorem aPd:qo Tryz.prog 243=True:=eq_true ⟨_,Tryz.func243,of_decide_eq_false (by kernel_rfl),rfl⟩
theorem aPc:qo Tryz.prog 244=True:=eq_true ⟨_,Tryz.func244,of_decide_eq_false (by kernel_rfl),rfl⟩
theorem aPb:qo Tryz.prog 245=True:=eq_true ⟨_,Tryz.func245,of_decide_eq_false (by kernel_rfl),rfl⟩
theorem aPa:qo Tryz.prog 246=True:=eq_true ⟨_,Tryz.func246,of_decide_eq_false (by kernel_rfl),rfl⟩
theorem aO9:qo Tryz.prog 247=True:=eq_true ⟨_,Tryz.func247,of_decide_eq_false (by kernel_rfl),rfl⟩
theorem aO8:qo Tryz.prog 248=True:=eq_true ⟨_,Tryz.func248,of_decide_eq_false (by kernel_rfl),rfl⟩
theorem aO7:qo Tryz.prog 249=True:=eq_true ⟨_,Tryz.func249,of_decide_eq_false (by kernel_rfl),rfl⟩
theorem aO6:qo Tryz.prog 250=True:=eq_true ⟨_,Tryz.func250,of_decide_eq_false (by kernel_rfl),rfl⟩
theorem aO5:qo Tryz.prog 251=True:=eq_true ⟨_,Tryz.func251,of_decide_eq_false (by kernel_rfl),rfl⟩
theorem aO4:qo Tryz.prog 252=True:=eq_true ⟨_,Tryz.func252,of_decide_eq_false (by kernel_rfl),rfl⟩
theorem aO3:qo Tryz.prog 253=True:=eq_true ⟨_,Tryz.func253,of_decide_eq_false (by kernel_rfl),rfl⟩
theorem aO2:qo Tryz.prog 254=True:=eq_true ⟨_,Tryz.func254,of_decide_eq_false (by kernel_rfl),rfl⟩
theorem aO1:qo Tryz.prog 255=True:=eq_true ⟨_,Tryz.func255,of_decide_eq_false (by kernel_rfl),rfl⟩
theorem aO0:qo Tryz.prog 256=True:=eq_true ⟨_,Tryz.func256,of_decide_eq_false (by kernel_rfl),rfl⟩
theorem aOZ:qo Tryz.prog 257=True:=eq_true ⟨_,Tryz.func257,of_decide_eq_false (by kernel_rfl),rfl⟩
theorem aOY:qo Tryz.prog 258=True:=eq_true ⟨_,Tryz.func258,of_decide_eq_false (by kernel_rfl),rfl⟩
theorem aOX:qo Tryz.prog 259=True:=eq_true ⟨_,Tryz.func259,of_decide_eq_false (by kernel_rfl),rfl⟩
theorem aOW:qo Tryz.prog 260=True:=eq_true ⟨_,Tryz.func260,of_decide_eq_false (by kernel_rfl),rfl⟩
theorem aOV:qo Tryz.prog 261=True:=eq_true ⟨_,Tryz.func261,of_decide_eq_false (by kernel_rfl),rfl⟩
theorem aOU:qo Tryz.prog 262=True:=eq_true ⟨_,Tryz.func262,of_decide_eq_false (by kernel_rfl),rfl⟩
theorem aOT:qo Tryz.prog 263=True:=eq_true ⟨_,Tryz.func263,of_decide_eq_false (by kernel_rfl),rfl⟩
theorem aOS:qo Tryz.prog 264=True:=eq_true ⟨_,Tryz.func264,of_decide_eq_false (by kernel_rfl),rfl⟩
theorem aOR:qo Tryz.prog 265=True:=eq_true ⟨_,Tryz.func265,of_decide_eq_false (by kernel_rfl),rfl⟩
theorem aOQ:qo Tryz.prog 266=True:=eq_true ⟨_,Tryz.func266,of_decide_eq_false (by kernel_rfl),rfl⟩
theorem aOP:qo Tryz.prog 267=True:=eq_true ⟨_,Tryz.func267,of_decide_eq_false (by kernel_rfl),rfl⟩
theorem aOO:qo Tryz.prog 268=True:=eq_true ⟨_,Tryz.func268,of_decide_eq_false (by kernel_rfl),rfl⟩
theorem aON:qo Tryz.prog 269=True:=eq_true ⟨_,Tryz.func269,of_decide_eq_false (by kernel_rfl),rfl⟩
theorem aOM:qo Tryz.prog 270=True:=eq_true ⟨_,Tryz.func270,of_decide_eq_false (by kernel_rfl),rfl⟩
theorem aOL:qo Tryz.prog 271=True:=eq_true ⟨_,Tryz.func271,of_decide_eq_false (by kernel_rfl),rfl⟩
theorem aOK:qo Tryz.prog 272=True:=eq_true ⟨_,Tryz.func272,of_decide_eq_false (by kernel_rfl),rfl⟩
theorem aOJ:qo Tryz.prog 273=True:=eq_true ⟨_,Tryz.func273,of_decide_eq_false (by kernel_rfl),rfl⟩
theorem aOI:qo Tryz.prog 274=True:=eq_true ⟨_,Tryz.func274,of_decide_eq_false (by kernel_rfl),rfl⟩
theorem aOH:qo Tryz.prog 275=True:=eq_true ⟨_,Tryz.func275,of_decide_eq_false (by kernel_rfl),rfl⟩
theorem aOG:qo Tryz.prog 276=True:=eq_true ⟨_,Tryz.func276,of_decide_eq_false (by kernel_rfl),rfl⟩
theorem aOF:qo Tryz.prog 277=True:=eq_true ⟨_,Tryz.func277,of_decide_eq_false (by kernel_rfl),rfl⟩
theorem aOE:qo Tryz.prog 278=True:=eq_true ⟨_,Tryz.func278,of_decide_eq_false (by kernel_rfl),rfl⟩
theorem aOD:qo Tryz.prog 279=True:=eq_true ⟨_,Tryz.func279,of_decide_eq_false (by kernel_rfl),rfl⟩
theorem aOC:qo Tryz.prog 280=True:=eq_true ⟨_,Tryz.func280,of_decide_eq_false (by kernel_rfl),rfl⟩
theorem aOB:qo Tryz.prog 281=True:=eq_true ⟨_,Tryz.func281,of_decide_eq_false (by kernel_rfl),rfl⟩
theorem aOA:qo Tryz.prog 282=True:=eq_true ⟨_,Tryz.func282,of_decide_eq_false (by kernel_rfl),rfl⟩
theorem aOz:qo Tryz.prog 283=True:=eq_true ⟨_,Tryz.func283,of_decide_eq_false (by kernel_rfl),rfl⟩
theorem aOy:qo Tryz.prog 284=True:=eq_true ⟨_,Tryz.func284,of_decide_eq_false (by kernel_rfl),rfl⟩
theorem aOx:qo Tryz.prog 285=True:=eq_true ⟨_,Tryz.func285,of_decide_eq_false (by kernel_rfl),rfl⟩
theorem aOw:qo Tryz.prog 286=True:=eq_true ⟨_,Tryz.func286,of_decide_eq_false (by kernel_rfl),rfl⟩
theorem aOv:qo Tryz.prog 287=True:=eq_true ⟨_,Tryz.func287,of_decide_eq_false (by kernel_rfl),rfl⟩
theorem aOu:qo Tryz.prog 288=True:=eq_true ⟨_,Tryz.func288,of_decide_eq_false (by kernel_rfl),rfl⟩
theorem aOt:qo Tryz.prog 289=True:=eq_true ⟨_,Tryz.func289,of_decide_eq_false (by kernel_rfl),rfl⟩
theorem aOs:qo Tryz.prog 290=True:=eq_true ⟨_,Tryz.func290,of_decide_eq_false (by kernel_rfl),rfl⟩
theorem aOr:qo Tryz.prog 291=True:=eq_true ⟨_,Tryz.func291,of_decide_eq_false (by kernel_rfl),rfl⟩
theorem aOq:qo Tryz.prog 292=True:=eq_true ⟨_,Tryz.func292,of_decide_eq_false (by kernel_rfl),rfl⟩
theorem aOp:qo Tryz.prog 293=True:=eq_true ⟨_,Tryz.func293,of_decide_eq_false (by kernel_rfl),rfl⟩
theorem aOo:qo Tryz.prog 294=True:=eq_true ⟨_,Tryz.func294,of_decide_eq_false (by kernel_rfl),rfl⟩
theorem aOn:qo Tryz.prog 295=True:=eq_true ⟨_,Tryz.func295,of_decide_eq_false (by kernel_rfl),rfl⟩
theorem aOm:qo Tryz.prog 296=True:=eq_true ⟨_,Tryz.func296,of_decide_eq_false (by kernel_rfl),rfl⟩
theorem aOl:qo Tryz.prog 297=True:=eq_true ⟨_,Tryz.func297,of_decide_eq_false (by kernel_rfl),rfl⟩
theorem aOk:qo Tryz.prog 298=True:=eq_true ⟨_,Tryz.func298,of_decide_eq_false (by kernel_rfl),rfl⟩
theorem aOj:qo Tryz.prog 299=True:=eq_true ⟨_,Tryz.func299,of_decide_eq_false (by kernel_rfl),rfl⟩
theorem aOi:qo Tryz.prog 300=True:=eq_true ⟨_,Tryz.func300,of_decide_eq_false (by kernel_rfl),rfl⟩
theorem aOh:qo Tryz.prog 301=True:=eq_true ⟨_,Tryz.func301,of_decide_eq_false (by kernel_rfl),rfl⟩
theorem aOg:qo Tryz.prog 302=True:=eq_true ⟨_,Tryz.func302,of_decide_eq_false (by kernel_rfl),rfl⟩
theorem aOf:qo Tryz.prog 303=True:=eq_true ⟨_,Tryz.func303,of_decide_eq_false (by kernel_rfl),rfl⟩
theorem aOe:qo Tryz.prog 304=True:=eq_true ⟨_,Tryz.func304,of_decide_eq_false (by kernel_rfl),rfl⟩
theorem aOd:qo Tryz.prog 305=True:=eq_true ⟨_,Tryz.func305,of_decide_eq_false (by kernel_rfl),rfl⟩
theorem aOc:qo Tryz.prog 330=True:=eq_true ⟨_,Tryz.func330,of_decide_eq_false (by kernel_rfl),rfl⟩
attribute [go_sem] ty1 aMi aHi auW alS aMg aMh ty2 aMf aGQ
attribute [go_sem] arM akC aMd aMe ty3 aMc aGr arD akt aMa
attribute [go_sem] aMb ty4 aL9 aF2 aru akh aL7 aL8 ty5 aL6
attribute [go_sem] aFD ark aj8 aL4 aL5 ty6 aL3 aFe ara ajZ
attribute [go_sem] aL1 aL2 ty7 aL0 aES aq2 ajR aLY aLZ aRF
attribute [go_sem] aX0 aRE aXZ aRD aXY aRC aXX bcN ty8 aLX
attribute [go_sem] aEq aqS ajH aLV aLW aRB aXW aRA aXV aRz
attribute [go_sem] aXU aRy aXT bcM ty9 aLU aD1 aqJ ajy aLS
attribute [go_sem] aLT bbv aHr ayZ ang ahT aHp aHq bbu aHo
attribute [go_sem] ayx am5 ahJ aHm aHn bbt aHl ax2 amU ahy
attribute [go_sem] aHj aHk bbs aHh at3 alw agd aHf aHg bbr
attribute [go_sem] aHe aty alk af2 aHc aHd aXJ bbq aHb as9
attribute [go_sem] alb afT aG9 aHa aXI bbp aG8 asH ak1 afJ
attribute [go_sem] aG6 aG7 aKk aNp aZ7 bbo aG5 asl akT afB
attribute [go_sem] aG3 aG4 aKj aNo aZ6 bbn aG2 arZ akK aft
attribute [go_sem] aG0 aG1 aKi aNn aKh aNm aZ5 bbm aGZ arP
attribute [go_sem] akG afp aGX aGY aKg aNl aKf aNk aZ4 bbl
attribute [go_sem] aGW arO akE afo aGU aGV aKe aNj aKd aNi
attribute [go_sem] aZ3 bbk aGT arN akD afn aGR aGS aKc aNh
attribute [go_sem] aKb aNg aZ2 bbj aGP arL akB afm aGN aGO
attribute [go_sem] bbi aGM arK akA afl aGK aGL bbh aGJ arJ
attribute [go_sem] akz afk aGH aGI bbg aGG arI aky afj aGE
attribute [go_sem] aGF bbf aGD arH akx afi aGB aGC bbe aGA
attribute [go_sem] arG akw afh aGy aGz bbd aGx arF akv afg
attribute [go_sem] aGv aGw bbc aGu arE aku aff aGs aGt bbb
attribute [go_sem] aGq arC aks afe aGo aGp aXH bba aGn arB
attribute [go_sem] akq afd aGl aGm aKa aNf aJ9 aNe aZ1 ba9
attribute [go_sem] aGk arA ako afc aGi aGj aJ8 aNd aJ7 aNc
attribute [go_sem] aZ0 ba8 aGh arz akn afb aGf aGg ba7 aGe
attribute [go_sem] ary akm afa aGc aGd ba6 aGb arx akl ae9
attribute [go_sem] aF9 aGa ba5 aF8 arw akk ae8 aF6 aF7 ba4
attribute [go_sem] aF5 arv aki ae7 aF3 aF4 aJ6 aNb aJ5 aNa
attribute [go_sem] aZZ ba3 aF1 art akg ae6 aFZ aF0 aJ4 aM9
attribute [go_sem] aJ3 aM8 aZY ba2 aFY ars akf ae5 aFW aFX
attribute [go_sem] ba1 aFV arq ake ae4 aFT aFU ba0 aFS arp
attribute [go_sem] akd ae3 aFQ aFR baZ aFP aro akc ae2 aFN
attribute [go_sem] aFO baY aFM arn akb ae1 aFK aFL baX aFJ
attribute [go_sem] arm aka ae0 aFH aFI baW aFG arl aj9 aeZ
attribute [go_sem] aFE aFF baV aFC arj aj7 aeY aFA aFB baU
attribute [go_sem] aFz ari aj6 aeX aFx aFy baT aFw arh aj5
attribute [go_sem] aeV aFu aFv aJ2 aM7 aJ1 aM6 aJ0 aM5 aJZ
attribute [go_sem] aM4 aZX baS aFt arg aj4 aeU aFr aFs aJY
attribute [go_sem] aM3 aJX aM2 aJW aM1 aJV aM0 aZW baR aFq
attribute [go_sem] arf aj3 aeT aFo aFp baQ aFn ard aj2 aeS
attribute [go_sem] aFl aFm baP aFk arc aj1 aeR aFi aFj baO
attribute [go_sem] aFh arb aj0 aeQ aFf aFg baN aFd aq9 ajY
attribute [go_sem] aeP aFb aFc baM aFa aq8 ajX aeO aE8 aE9
attribute [go_sem] baL aE7 aq7 ajW aeN aE5 aE6 baK aE4 aq6
attribute [go_sem] ajV aeM aE2 aE3 baJ aE1 aq5 ajU aeL aEZ
attribute [go_sem] aE0 baI aEY aq4 ajT aeK aEW aEX baH aEV
attribute [go_sem] aq3 ajS aeJ aET aEU baG aER aq1 ajQ aeI
attribute [go_sem] aEP aEQ baF aEO aq0 ajP aeH aEM aEN baE
attribute [go_sem] aEL aqZ ajO aeG aEJ aEK baD aEI aqY ajN
attribute [go_sem] aeF aEG aEH baC aEF aqX ajM aeE aED aEE
attribute [go_sem] baB aEC aqW ajL aeD aEA aEB baA aEz aqV
attribute [go_sem] ajK aeC aEx aEy baz aEw aqU ajJ aeB aEu
attribute [go_sem] aEv bay aEt aqT ajI aeA aEr aEs aJU aMZ
attribute [go_sem] aJT aMY aJS aMX aZV bax aEp aqR ajG aez
attribute [go_sem] aEn aEo aJR aMW aJQ aMV aJP aMU aZU baw
attribute [go_sem] aEm aqQ ajF aey aEk aEl bav aEj aqP ajE
attribute [go_sem] aex aEh aEi bau aEg aqO ajD aew aEe aEf
attribute [go_sem] bat aEd aqN ajC aev aEb aEc bas aEa aqM
attribute [go_sem] ajB aeu aD8 aD9 bar aD7 aqL ajA aet aD5
attribute [go_sem] aD6 baq aD4 aqK ajz aes aD2 aD3 aVo azt
attribute [go_sem] anq ah3 acL azr azs aME aVn azq anp ah2
attribute [go_sem] acK azo azp aBn aIn aBm aIm aSj aVm azn
attribute [go_sem] ano ah1 acJ azl azm aBl aIl aBk aIk aSi
attribute [go_sem] aVl azk ann ah0 acI azi azj aVk azh anm
attribute [go_sem] ahZ acH azf azg aVj aze anl ahY acG azc
attribute [go_sem] azd aVi azb ank ahX acF ay9 aza aVh ay8
attribute [go_sem] anj ahW acE ay6 ay7 aVg ay5 ani ahV acD
attribute [go_sem] ay3 ay4 aVf ay2 anh ahU acC ay0 ay1 aVe
attribute [go_sem] ayY anf ahS acB ayW ayX aBj aIj aBi aIi
attribute [go_sem] aSh aVd ayV ane ahR acA ayT ayU aBh aIh
attribute [go_sem] aBg aIg aSg aVc ayS anc ahQ acz ayQ ayR
attribute [go_sem] aVb ayP anb ahP acy ayN ayO aVa ayM ana
attribute [go_sem] ahO acx ayK ayL aU9 ayJ am9 ahN acw ayH
attribute [go_sem] ayI aU8 ayG am8 ahM acv ayE ayF aU7 ayD
attribute [go_sem] am7 ahL acu ayB ayC aU6 ayA am6 ahK act
attribute [go_sem] ayy ayz aU5 ayw am4 ahI acs ayu ayv aU4
attribute [go_sem] ayt am3 ahH acr ayr ays aU3 ayq am2 ahG
attribute [go_sem] acq ayo ayp aU2 ayn am1 ahF acp ayl aym
attribute [go_sem] aU1 ayk am0 ahE aco ayi ayj aU0 ayh amZ
attribute [go_sem] ahD acn ayf ayg aUZ aye amY ahC acm ayc
attribute [go_sem] ayd aUY ayb amX ahB acl ax9 aya aUX ax8
attribute [go_sem] amW ahA ack ax6 ax7 aUW ax5 amV ahz acj
attribute [go_sem] ax3 ax4 aUV ax1 amT ahx aci axZ ax0 aUU
attribute [go_sem] axY amS ahw ach axW axX aUT axV amR ahv
attribute [go_sem] acg axT axU aUS axS amQ ahu acf axQ axR
attribute [go_sem] aUR axP amP aht ace axN axO aUQ axM amO
attribute [go_sem] ahs acd axK axL aUP axJ amN ahr acb axH
attribute [go_sem] axI aUO axG amM ahq aca axE axF aUN axD
attribute [go_sem] amL ahp ab9 axB axC aUM axA amK aho ab8
attribute [go_sem] axy axz aUL axx amJ ahn ab7 axv axw aUK
attribute [go_sem] axu amI ahm ab6 axs axt aBf aIf aBe aIe
attribute [go_sem] aBd aId aSf aUJ axr amH ahl ab5 axp axq
attribute [go_sem] aBc aIc aBb aIb aBa aIa aSe aUI axo amG
attribute [go_sem] ahk ab4 axm axn aUH axl amF ahj ab3 axj
attribute [go_sem] axk aUG axi amE ahi ab2 axg axh aUF axf
attribute [go_sem] amD ahh ab1 axd axe aUE axc amC ahg ab0
attribute [go_sem] axa axb aUD aw9 amB ahf abZ aw7 aw8 aUC
attribute [go_sem] aw6 amA ahe abY aw4 aw5 aUB aw3 amz ahd
attribute [go_sem] abX aw1 aw2 aUA aw0 amy ahc abW awY awZ
attribute [go_sem] aUz awX amx ahb abV awU awW aMD aUy awT
attribute [go_sem] amw aha abU awR awS aA9 aH9 aA8 aH8 aSd
attribute [go_sem] aUx awQ amv ag9 abT awO awP aA7 aH7 aA6
attribute [go_sem] aH6 aSc aUw awN amu ag8 abS awL awM aUv
attribute [go_sem] awK amt ag7 abR awI awJ aMC aUu awH ams
attribute [go_sem] ag6 abQ awF awG aA5 aH5 aA4 aH4 aSb aUt
attribute [go_sem] awE amr ag5 abP awC awD aA3 aH3 aA2 aH2
attribute [go_sem] aSa aUs awB amq ag4 abO awz awA aUr awy
attribute [go_sem] amp ag3 abN aww awx aUq awv amo ag2 abM
attribute [go_sem] awt awu aUp aws amn ag1 abL awq awr aUo
attribute [go_sem] awo amm ag0 abK awm awn aUn awl aml agZ
attribute [go_sem] abJ awj awk aUm awi amk agY abI awg awh
attribute [go_sem] aUl awf amj agX abH awd awe aUk awc ami
attribute [go_sem] agW abG awa awb aUj av9 amh agV abF av7
attribute [go_sem] av8 aUi av6 amg agU abE av4 av5 aUh av3
attribute [go_sem] amf agT abD av1 av2 aUg av0 ame agS abC
attribute [go_sem] avY avZ aUf avX amd agR abB avV avW aUe
attribute [go_sem] avU amc agQ abA avS avT aUd avR amb agP
attribute [go_sem] abz avP avQ aUc avO ama agO aby avM avN
attribute [go_sem] aUb avL al9 agN abx avJ avK aUa avI al8
attribute [go_sem] agM abw avG avH aT9 avF al7 agL abv avD
attribute [go_sem] avE aMB aT8 avC al6 agK abu avA avB aT7
attribute [go_sem] avz al5 agJ abt avx avy aT6 avw al4 agI
attribute [go_sem] abr avu avv aT5 avt al3 agH abq avr avs
attribute [go_sem] aT4 avq al2 agG abp avo avp aT3 avn al1
attribute [go_sem] agF abo avl avm aT2 avk al0 agE abn avi
attribute [go_sem] avj aT1 avh alZ agD abm avf avg aT0 ave
attribute [go_sem] alY agC abl avc avd aTZ avb alX agB abk
attribute [go_sem] au9 ava aTY au8 alW agA abj au6 au7 aTX
attribute [go_sem] au5 alV agz abi au3 au4 aTW au2 alU agy
attribute [go_sem] abh au0 au1 aTV auZ alT agx abg auX auY
attribute [go_sem] aTU auV alR agw abf auT auU aTT auS alQ
attribute [go_sem] agv abe auQ auR aTS auP alP agu abd auN
attribute [go_sem] auO aTR auM alO agt abc auK auL aTQ auJ
attribute [go_sem] alN ags abb auH auI aTP auG alM agr aba
attribute [go_sem] auE auF aTO auD alL agq aa9 auB auC aTN
attribute [go_sem] auA alK agp aa8 auy auz aTM aux alJ ago
attribute [go_sem] aa7 auv auw aTL auu alI agn aa6 aus aut
attribute [go_sem] aTK aur alH agm aa5 aup auq aTJ auo alG
attribute [go_sem] agl aa4 aum aun aTI aul alD agk aa3 auj
attribute [go_sem] auk aTH aui alC agj aa2 aug auh aTG auf
attribute [go_sem] alB agi aa1 aud aue aTF auc alz agh aaZ
attribute [go_sem] aua aub aTE at9 aly agf aaY at7 at8 aTD
attribute [go_sem] at6 alx age aaX at4 at5 aTC at2 alv agc
attribute [go_sem] aaW at0 at1 aTB atZ alu agb aaV atX atY
attribute [go_sem] aTA atW alt aga aaU atU atV aMA aTz atT
attribute [go_sem] als af9 aaT atR atS aTy atQ alr af8 aaS
attribute [go_sem] atO atP aTx atN alq af7 aaR atL atM aTw
attribute [go_sem] atK alp af6 aaQ atI atJ aTv atH alo af5
attribute [go_sem] aaP atF atG aTu atE aln af4 aaO atC atD
attribute [go_sem] aTt atB alm af3 aaN atz atA aTs atx alj
attribute [go_sem] af1 aaM atv atw aTr atu ali af0 aaL ats
attribute [go_sem] att aTq atr alh afZ aaK atp atq aTp ato
attribute [go_sem] alg afY aaJ atm atn aTo atl alf afX aaI
attribute [go_sem] atj atk aTn ati ale afW aaH atg ath aTm
attribute [go_sem] atf ald afV aaG atd ate aTl atc alc afU
attribute [go_sem] aaF ata atb aTk as8 ala afS aaE as6 as7
attribute [go_sem] aTj as5 ak9 afR aaD as3 as4 aTi as2 ak8
attribute [go_sem] afQ aaC as0 as1 aTh asZ ak7 afP aaB asX
attribute [go_sem] asY aTg asW ak6 afO aaA asU asV aTf asT
attribute [go_sem] ak5 afN aaz asR asS aTe asQ ak4 afM aay
attribute [go_sem] asO asP aTd asN ak3 afL aax asL asM aTc
attribute [go_sem] asK ak2 afK aaw asI asJ aTb asG ak0 afI
attribute [go_sem] aav asE asF aTa asD akZ afH aau asB asC
attribute [go_sem] aS9 asA akY afG aat asy asz aS8 asx akX
attribute [go_sem] afF aas asv asw aS7 asu akW afE aar ass
attribute [go_sem] ast aS6 asr akV afD aaq asp asq aS5 aso
attribute [go_sem] akU afC aap asm asn aS4 ask akR afA aao
attribute [go_sem] asi asj aS3 ash akQ afz aan asf asg aS2
attribute [go_sem] ase akP afy aam asc asd aS1 asb akO afx
attribute [go_sem] aal ar9 asa aS0 ar8 akN afw aak ar6 ar7
attribute [go_sem] aSZ ar5 akM afv aaj ar3 ar4 aSY ar2 akL
attribute [go_sem] afu aai ar0 ar1 aSX arY akJ afs aah arW
attribute [go_sem] arX aSW arV akI afr aag arT arU aSV arS
attribute [go_sem] akH afq aaf arQ arR bcJ bcI bcH bcG bcF
attribute [go_sem] bcE bcD bcC aZL aZK aZJ aZI aZH aZG aZF
attribute [go_sem] aZE aZD aZC aZB aZA aZz aZy aZx aZw aZv
attribute [go_sem] aZu aZt aZs aZr aZq aZp aZo aZn aZm aZl
attribute [go_sem] aZk aZj aZi aZh aZg aZf aZe aZd aZc aZb
attribute [go_sem] aZa aY9 aY8 aY7 aY6 aY5 aY4 aY3 aY2 aY1
attribute [go_sem] aY0 aYZ aYY aYX aYW aYV aYU aYT aYS aYR
attribute [go_sem] aYQ aYP aYO aYN aYM aYL aYK aYJ aYI aYH
attribute [go_sem] aYG aYF aYE aYD aYC aYB aYA aYz aYy aYx
attribute [go_sem] aYw aYv aYu aYt aYs aYr aYq aYp aYo aYn
attribute [go_sem] aYm aYl aYk aRw aRv aRu aRt aRs aRr aRq
attribute [go_sem] aRp aRo aRn aRm aRl aRk aRj aRi aRh aRg
attribute [go_sem] aRf aRe aRd aRc aRb aRa aQ9 aQ8 aQ7 aQ6
attribute [go_sem] aQ5 aQ4 aQ3 aQ2 aQ1 aQ0 aQZ aQY aQX aQW
attribute [go_sem] aQV aQU aQT aQS aQR aQQ aQP aQO aQN aQM
attribute [go_sem] aQL aQK aQJ aQI aQH aQG aQF aQE aQD aQC
attribute [go_sem] aQB aQA aQz aQy aQx aQw aQv aQu aQt aQs
attribute [go_sem] aQr aQq aQp aQo aQn aQm aQl aQk aQj aQi
attribute [go_sem] aQh aQg aQf aQe aQd aQc aQb aQa aP9 aP8
attribute [go_sem] aP7 aP6 aP5 aP4 aP3 aP2 aP1 aP0 aPZ aPY
attribute [go_sem] aPX aPW aPV aPU aPT aPS aPR aPQ aPP aPO
attribute [go_sem] aPN aPM aPL aPK aPJ aPI aPH aPG aPF aPE
attribute [go_sem] aPD aPC aPB aPA aPz aPy aPx aPw aPv aPu
attribute [go_sem] aPt aPs aPr aPq aPp aPo aPn aPm aPl aPk
attribute [go_sem] aPj aPi aPh aPg aPf aPe aPd aPc aPb aPa
attribute [go_sem] aO9 aO8 aO7 aO6 aO5 aO4 aO3 aO2 aO1 aO0
attribute [go_sem] aOZ aOY aOX aOW aOV aOU aOT aOS aOR aOQ
attribute [go_sem] aOP aOO aON aOM aOL aOK aOJ aOI aOH aOG
attribute [go_sem] aOF aOE aOD aOC aOB aOA aOz aOy aOx aOw
attribute [go_sem] aOv aOu aOt aOs aOr aOq aOp aOo aOn aOm
attribute [go_sem] aOl aOk aOj aOi aOh aOg aOf aOe aOd aOc
end Go.Ab
namespace Go.Ab
open Go Go.Proofs
set_option maxRecDepth 100000 in
theorem ads(U V:List Int)(j:Nat)(hU:gd U)(hV:gd V)(lU:U.length≤2000000)(h2:2≤V.length)(hj:j+V.length<U.length)(hv1:32768≤V.getD (V.length-1) 0)(hW:vl (U.drop j)<65536*vl V):
  Con Tryz.prog 296 true [.sl U.length (qb U),.sl V.length (qb V),.v (.int .i64 j)] [] (fun r hs bs=>∃q:Int,r=.v (.int .i64 q)∧hs=[]∧bs=[]∧(0≤q∧q<65536)∧vl (U.drop j)<(q+1)*vl V∧q*vl V<vl (U.drop j)+vl V):=by
 refine Con.of_aw Tryz.func296 rfl Tryz.ntmps296 (by simp) (by simp) (by simp) (W.sound ?_)
 show @W Tryz.prog 76 ⟨_⟩ ⟨fun x σ=>@qU _ _ _ ⟨_⟩ _ ⟨_⟩ x σ⟩ _ _
 have hDl:V.length<(U.drop j).length:=by simp;omega
 have hz:=adL (j4 hU j) hV hDl hW
 have hw:=aLK hDl h2 hz
 have hvv:=aDS h2
 rw[zN,zN,zN]at hw
 have hx0:=qQ (jP (j4 hU j) (V.length-2))
 have hx1:=Qe (jP (j4 hU j) (V.length-2))
 have hy0:=qQ (jP hV (V.length-2))
 have hy1:=Qe (jP hV (V.length-2))
 rw[List.length_take,Nat.min_eq_left (by omega)]at hx1 hy1
 have gu0:=qH hU (j+V.length)
 have gu1:=qH hU (j+(V.length-1))
 have gu2:=qH hU (j+(V.length-2))
 have gv1:=qH hV (V.length-1)
 have gv2:=qH hV (V.length-2)
 have htop:=aNT hw hvv ⟨hx0,hx1⟩ ⟨hy0,hy1⟩ gu2.1 gu1.1 gv2.2 hW
 have e0:((j:Int)+(V.length:Int)).toNat=j+V.length:=by omega
 have e1:((j:Int)+(V.length:Int)-1).toNat=j+(V.length-1):=by omega
 have e2:((j:Int)+(V.length:Int)-2).toNat=j+(V.length-2):=by omega
 have f1:((V.length:Int)-1).toNat=V.length-1:=by omega
 have f2:((V.length:Int)-2).toNat=V.length-2:=by omega
 simp(disch:=omega)only[go_sem]
 refine qp rfl [⟨0,[],[]⟩,⟨1,[],[]⟩,⟨2,[],[]⟩,⟨3,[],[]⟩,⟨4,[],[]⟩,⟨5,[],[]⟩,⟨6,[],[]⟩,⟨7,[5],[]⟩,⟨8,[5],[]⟩,⟨9,[5],[]⟩,⟨10,[5],[]⟩,⟨11,[5],[]⟩,⟨12,[5],[]⟩,⟨13,[5],[]⟩,⟨14,[],[]⟩,⟨15,[],[]⟩] (by kernel_rfl) ?_
 simp(disch:=omega)only[go_sem,e0,e1]
 generalize hu0:U.getD (j+V.length) 0=u0 at*
 generalize hu1:U.getD (j+(V.length-1)) 0=u1 at*
 generalize hu2:U.getD (j+(V.length-2)) 0=u2 at*
 refine⟨by omega,by omega,by omega,by omega,?_⟩
 refine qp rfl [⟨0,[],[]⟩,⟨1,[],[]⟩,⟨2,[],[]⟩,⟨3,[],[]⟩,⟨4,[],[]⟩,⟨5,[],[]⟩,⟨6,[],[]⟩,⟨7,[5],[]⟩,⟨8,[5],[]⟩,⟨9,[5],[]⟩,⟨10,[5],[]⟩,⟨11,[5],[]⟩,⟨12,[5],[]⟩,⟨13,[5],[]⟩,⟨14,[12],[]⟩,⟨15,[],[]⟩] (by kernel_rfl) ?_
 simp(disch:=omega)only[go_sem,f1]
 generalize hvv1:V.getD (V.length-1) 0=v1 at*
 generalize hvv2:V.getD (V.length-2) 0=v2 at*
 generalize htt:u0*65536+u1=top at*
 refine⟨by omega,by omega,by omega,by omega,by omega,by omega,?_⟩
 have hq0:0≤top/v1:=Int.ediv_nonneg (by omega) (by omega)
 have hq1:top/v1≤65537:=by
  have:top/v1<65538:=Int.ediv_lt_of_lt_mul (by omega) (by omega)
  omega
 have hr0:=Int.emod_nonneg top (show v1≠0 by omega)
 have hr1:=Int.emod_lt_of_pos top (show 0<v1 by omega)
 have hqr:=Int.emod_add_mul_ediv top v1
 have hini:=aJg hw hvv ⟨hx0,hx1⟩ ⟨hy0,hy1⟩ gu2 gv2.1 hq0 (show top<(top/v1+1)*v1 by rw[Int.add_mul,Int.mul_comm (top/v1)];omega)
 have hqr':top/v1*v1+top % v1=top:=by rw[Int.mul_comm];omega
 generalize top/v1=q0 at*
 generalize top % v1=r0 at*
 refine qj (fun x:Int×Int=>[(0,.sl U.length (qb U)),(1,.sl V.length (qb V)),(2,.v (.int .i64 j)),(7,.v (.int .i64 V.length)),(9,.v (.int .i64 x.1)),(10,.v (.int .i64 x.2))])
  (fun _=>[]) (fun x=>(0≤x.1∧x.1≤65537)∧(0≤x.2∧x.2<65536)∧x.1*v1+x.2=top∧vl (U.drop j)<(x.1+1)*vl V) (fun x=>x.1.toNat) (q0,r0) ⟨⟨hq0,hq1⟩,⟨hr0,by omega⟩,hqr',hini⟩
  (Le.lst [] _ _ rfl (by simp(disch:=omega)only[go_sem];try omega) (by simp(disch:=omega)only[go_sem])) ?_
 rintro⟨q,r⟩ ⟨hq,hr,hqr2,hlt⟩
 dsimp only at hq hr hqr2 hlt ⊢
 have hqv:0≤q*v2∧q*v2≤65537*65535:=⟨Int.mul_nonneg hq.1 gv2.1,Int.mul_le_mul hq.2 (by omega) gv2.1 (by omega)⟩
 simp(disch:=omega)only[go_sem]
 refine qp rfl [⟨0,[],[]⟩,⟨1,[],[]⟩,⟨2,[],[]⟩,⟨3,[],[]⟩,⟨4,[],[]⟩,⟨5,[],[]⟩,⟨6,[],[]⟩,⟨7,[],[]⟩,⟨8,[],[]⟩,⟨9,[],[]⟩,⟨10,[8],[]⟩,⟨11,[8],[]⟩,⟨12,[8],[]⟩,⟨13,[8],[]⟩,⟨14,[8],[]⟩,⟨15,[8],[]⟩,⟨16,[8],[]⟩,⟨17,[8],[]⟩,⟨18,[8],[]⟩,⟨19,[8],[]⟩,⟨20,[],[]⟩,⟨21,[],[]⟩] (by kernel_rfl) ?_
 simp(disch:=omega)only[go_sem]
 refine zt (fun h1=>?_) (fun h1=>?_)
 ·simp(disch:=omega)only[go_sem,h1,e2,f2,hu2,hvv2]
  refine⟨by omega,by omega,by omega,by omega,qg (fun h2=>?_) (fun h2=>?_)⟩
  ·simp(disch:=omega)only[go_sem,h2,f1,hvv1]
   have hst:=aos hw hvv ⟨hx0,hx1⟩ ⟨hy0,hy1⟩ hW gv2.1 (by omega) hq.1 hqr2 (.inr h2)
   have hqp:0<q:=by
    rcases(by omega:0<q∨q=0)with h|h
    ·exact h
    ·subst h;omega
   have hm:(q-1)*v1+(r+v1)=top:=by rw[Int.sub_mul];omega
   refine⟨by omega,by omega,qg (fun h3=>?_) (fun h3=>?_)⟩
   ·simp(disch:=omega)only[go_sem,h3]
    have h4:q-1<65536:=by
     rcases(by omega:q-1<65536∨65536≤q-1)with h|h
     ·exact h
     ·have:=Int.mul_le_mul_of_nonneg_right h (show 0≤v1 by omega)
      omega
    have h5:(q-1)*v2≤(r+v1)*65536+u2:=by
     have:(q-1)*v2≤65535*65535:=Int.mul_le_mul (by omega) (by omega) gv2.1 (by omega)
     omega
    have h6:=acZ hw hvv ⟨hx0,hx1⟩ ⟨hy0,hy1⟩ gv2.1 (by omega) ⟨by omega,h4⟩ hm h5
    exact qx (by simp(disch:=omega)only[go_sem]) (by simp(disch:=omega)only[go_sem]) ⟨q-1,rfl,rfl,rfl,⟨by omega,h4⟩,by rw[show q-1+1=q by omega];exact hst,h6⟩
   ·simp(disch:=omega)only[go_sem,h3]
    refine qc (q-1,r+v1) [] ⟨by show 0≤q-1∧q-1≤65537;omega,by show 0≤r+v1∧r+v1<65536;omega,hm,by show _<(q-1+1)*vl V;rw[show q-1+1=q by omega];exact hst⟩ (by show(q-1).toNat<q.toNat;omega) rfl (by simp(disch:=omega)only[go_sem];try omega) (by simp(disch:=omega)only[go_sem])
  ·simp(disch:=omega)only[go_sem,h2]
   have h6:=acZ hw hvv ⟨hx0,hx1⟩ ⟨hy0,hy1⟩ gv2.1 (by omega) ⟨hq.1,by omega⟩ hqr2 (by omega)
   exact qx (by simp(disch:=omega)only[go_sem]) (by simp(disch:=omega)only[go_sem]) ⟨q,rfl,rfl,rfl,⟨hq.1,by omega⟩,hlt,h6⟩
 ·simp(disch:=omega)only[go_sem,h1,f1,hvv1]
  have hst:=aos hw hvv ⟨hx0,hx1⟩ ⟨hy0,hy1⟩ hW gv2.1 (by omega) hq.1 hqr2 (.inl h1)
  have hqp:0<q:=by omega
  have hm:(q-1)*v1+(r+v1)=top:=by rw[Int.sub_mul];omega
  refine⟨by omega,by omega,qg (fun h3=>?_) (fun h3=>?_)⟩
  ·simp(disch:=omega)only[go_sem,h3]
   have h4:q-1<65536:=by
    rcases(by omega:q-1<65536∨65536≤q-1)with h|h
    ·exact h
    ·have:=Int.mul_le_mul_of_nonneg_right h (show 0≤v1 by omega)
     omega
   have h5:(q-1)*v2≤(r+v1)*65536+u2:=by
    have:(q-1)*v2≤65535*65535:=Int.mul_le_mul (by omega) (by omega) gv2.1 (by omega)
    omega
   have h6:=acZ hw hvv ⟨hx0,hx1⟩ ⟨hy0,hy1⟩ gv2.1 (by omega) ⟨by omega,h4⟩ hm h5
   exact qx (by simp(disch:=omega)only[go_sem]) (by simp(disch:=omega)only[go_sem]) ⟨q-1,rfl,rfl,rfl,⟨by omega,h4⟩,by rw[show q-1+1=q by omega];exact hst,h6⟩
  ·simp(disch:=omega)only[go_sem,h3]
   refine qc (q-1,r+v1) [] ⟨by show 0≤q-1∧q-1≤65537;omega,by show 0≤r+v1∧r+v1<65536;omega,hm,by show _<(q-1+1)*vl V;rw[show q-1+1=q by omega];exact hst⟩ (by show(q-1).toNat<q.toNat;omega) rfl (by simp(disch:=omega)only[go_sem];try omega) (by simp(disch:=omega)only[go_sem])
end Go.Ab
namespace Go.Ab
open Go Go.Proofs
theorem KE(U V:List Int)(j:Nat)(q:Int)(hU:gd U)(hV:gd V)(lU:U.length≤2000000)(hj:j+V.length<U.length)(hq:0≤q∧q<65536):
  Con Tryz.prog 297 false [.rf 10000000 0 U.length,.sl V.length (qb V),.v (.int .i64 j),.v (.int .i64 q)] [.own 1 (qb U)]
   (fun r hs bs=>∃(U':List Int) (bo:Int),r=.v (.bool (decide (U.getD (j+V.length) 0-bo<0)))∧hs=[]∧bs=[.own 1 (qb (U'.set (j+V.length) (U.getD (j+V.length) 0-bo)))]∧
    U'.length=U.length∧gd U'∧(0≤bo∧bo<65536)∧(∀t,t<j∨j+V.length≤t→U'.getD t 0=U.getD t 0)∧vl U'-65536^(j+V.length)*bo=vl U-65536^j*(q*vl V)):=by
 refine Con.of_aw Tryz.func297 rfl Tryz.ntmps297 (by simp) (by simp) (by simp) (W.sound ?_)
 show @W Tryz.prog 68 ⟨_⟩ ⟨fun x σ=>@qU _ _ _ ⟨_⟩ _ ⟨_⟩ x σ⟩ _ _
 simp(disch:=omega)only[go_sem]
 refine qj (fun x:Nat×List Int×Int=>[(0,.rf 10000000 0 U.length),(1,.sl V.length (qb V)),(2,.v (.int .i64 j)),(3,.v (.int .i64 q)),(9,.v (.int .i64 x.2.2)),(13,.sl V.length (qb V)),(14,.v (.int .i64 V.length)),(15,.v (.int .i64 x.1))])
  (fun x=>[(10000000,.own 1 (qb x.2.1))])
  (fun x=>x.1≤V.length∧x.2.1.length=U.length∧gd x.2.1∧(0≤x.2.2∧x.2.2<65536)∧(∀t,t<j∨j+x.1≤t→x.2.1.getD t 0=U.getD t 0)∧vl x.2.1-65536^(j+x.1)*x.2.2=vl U-65536^j*(q*vl (V.take x.1)))
  (fun x=>V.length-x.1) (0,U,0) ⟨by simp,rfl,hU,by simp,fun _ _=>rfl,by simp[vl]⟩
  (Le.lst [] _ _ rfl (by simp(disch:=omega)only[go_sem];try omega) (by simp(disch:=omega)only[go_sem])) ?_
 rintro⟨i,U1,bo⟩ ⟨hi,hl1,hg1,hbo,hsame,hval⟩
 dsimp only at hi hl1 hg1 hbo hsame hval ⊢
 simp(disch:=omega)only[go_sem]
 refine qg (fun h1=>?_) (fun h1=>?_)
 ·have hx:=qH hV i
  have hu:=qH hg1 (j+i)
  have hqx:0≤q*V.getD i 0∧q*V.getD i 0≤65535*65535:=⟨Int.mul_nonneg hq.1 hx.1,Int.mul_le_mul (by omega) (by omega) hx.1 (by omega)⟩
  have e1:((j:Int)+(i:Int)).toNat=j+i:=by omega
  have hstep:∀d b:Int,d-65536*b=U1.getD (j+i) 0-q*V.getD i 0-bo→vl (U1.set (j+i) d)-65536^(j+(i+1))*b=vl U-65536^j*(q*vl (V.take (i+1))):=by
   intro d b hd
   rw[QA (by omega),qO,←Nat.add_assoc,Int.pow_succ]
   have e3:(65536:Int)^(j+i)=65536^j*65536^i:=Int.pow_add _ _ _
   rw[e3]at hval ⊢
   generalize (65536:Int)^i=Pi at*
   generalize (65536:Int)^j=Pj at*
   grind
  have hsm:∀d:Int,∀t,t<j∨j+(i+1)≤t→(U1.set (j+i) d).getD t 0=U.getD t 0:=fun d t ht=>by
   rw[jf (by omega),if_neg (by omega)];exact hsame t (by omega)
  simp(disch:=omega)only[go_sem,h1,e1]
  refine⟨by omega,by omega,by omega,by omega,qg (fun h2=>?_) (fun h2=>?_)⟩
  ·simp(disch:=omega)only[go_sem,h2,e1]
   generalize hb:(0-(U1.getD (j+i) 0-q*V.getD i 0-bo)+65536-1)/65536=b
   refine⟨by omega,by omega,qc (i+1,U1.set (j+i) (U1.getD (j+i) 0-q*V.getD i 0-bo+b*65536),b) [] ⟨by show i+1≤_;omega,by simp[hl1],yA hg1 (by omega),by show 0≤b∧b<65536;omega,hsm _,hstep (U1.getD (j+i) 0-q*V.getD i 0-bo+b*65536) b (by omega)⟩
    (by show V.length-(i+1)<V.length-i;omega) rfl (by simp(disch:=omega)only[go_sem];try omega) (by simp(disch:=omega)only[go_sem])⟩
  ·simp(disch:=omega)only[go_sem,h2,e1]
   refine⟨by omega,by omega,qc (i+1,U1.set (j+i) (U1.getD (j+i) 0-q*V.getD i 0-bo),0) [] ⟨by show i+1≤_;omega,by simp[hl1],yA hg1 (by omega),by simp,hsm _,hstep (U1.getD (j+i) 0-q*V.getD i 0-bo) 0 (by omega)⟩
    (by show V.length-(i+1)<V.length-i;omega) rfl (by simp(disch:=omega)only[go_sem];try omega) (by simp(disch:=omega)only[go_sem])⟩
 ·have hiA:i=V.length:=by omega
  subst hiA
  rw[List.take_length]at hval
  have e1:((j:Int)+(V.length:Int)).toNat=j+V.length:=by omega
  have hu:=qH hg1 (j+V.length)
  have es:=hsame (j+V.length) (by omega)
  have eg:(U1.set (j+V.length) (U.getD (j+V.length) 0-bo)).getD (j+V.length) 0=U.getD (j+V.length) 0-bo:=by rw[jf (by omega),if_pos rfl]
  simp(disch:=omega)only[go_sem,h1,e1,es]
  refine⟨by omega,by omega,by omega,by omega,by omega,by simp;omega,?_⟩
  simp(disch:=omega)only[go_sem,eg]
  refine qi [] [] [.own 1 (qb (U1.set (j+V.length) (U.getD (j+V.length) 0-bo)))] [.v (.bool (decide (U.getD (j+V.length) 0-bo<0)))] rfl (by simp(disch:=omega)only[go_sem]) (by simp(disch:=omega)only[go_sem]) (by simp) (by simp) ⟨U1,bo,rfl,rfl,rfl,hl1,hg1,hbo,hsame,hval⟩
theorem adv(U V:List Int)(j:Nat)(hU:∀t,t≠j+V.length→0≤U.getD t 0∧U.getD t 0<65536)(hUt: -65536≤U.getD (j+V.length) 0∧U.getD (j+V.length) 0<65536)(hV:gd V)(lU:U.length≤2000000)(hj:j+V.length<U.length):
  Con Tryz.prog 298 false [.rf 10000000 0 U.length,.sl V.length (qb V),.v (.int .i64 j)] [.own 1 (qb U)]
   (fun r hs bs=>∃(U':List Int),r=.tu []∧hs=[]∧bs=[.own 1 (qb U')]∧
    U'.length=U.length∧(∀t,t≠j+V.length→0≤U'.getD t 0∧U'.getD t 0<65536)∧(∀t,t<j∨j+V.length<t→U'.getD t 0=U.getD t 0)∧vl U'=vl U+65536^j*vl V):=by
 refine Con.of_aw Tryz.func298 rfl Tryz.ntmps298 (by simp) (by simp) (by simp) (W.sound ?_)
 show @W Tryz.prog 46 ⟨_⟩ ⟨fun x σ=>@qU _ _ _ ⟨_⟩ _ ⟨_⟩ x σ⟩ _ _
 simp(disch:=omega)only[go_sem]
 refine qj (fun x:Nat×List Int×Int=>[(0,.rf 10000000 0 U.length),(1,.sl V.length (qb V)),(2,.v (.int .i64 j)),(6,.v (.int .i64 x.2.2)),(9,.sl V.length (qb V)),(10,.v (.int .i64 V.length)),(11,.v (.int .i64 x.1))])
  (fun x=>[(10000000,.own 1 (qb x.2.1))])
  (fun x=>x.1≤V.length∧x.2.1.length=U.length∧(∀t,t≠j+V.length→0≤x.2.1.getD t 0∧x.2.1.getD t 0<65536)∧(0≤x.2.2∧x.2.2≤1)∧(∀t,t<j∨j+x.1≤t→x.2.1.getD t 0=U.getD t 0)∧vl x.2.1+65536^(j+x.1)*x.2.2=vl U+65536^j*vl (V.take x.1))
  (fun x=>V.length-x.1) (0,U,0) ⟨by simp,rfl,hU,by simp,fun _ _=>rfl,by simp[vl]⟩
  (Le.lst [] _ _ rfl (by simp(disch:=omega)only[go_sem];try omega) (by simp(disch:=omega)only[go_sem])) ?_
 rintro⟨i,U1,cy⟩ ⟨hi,hl1,hg1,hcy,hsame,hval⟩
 dsimp only at hi hl1 hg1 hcy hsame hval ⊢
 simp(disch:=omega)only[go_sem]
 refine qg (fun h1=>?_) (fun h1=>?_)
 ·have hx:=qH hV i
  have hu:=hg1 (j+i) (by omega)
  have e1:((j:Int)+(i:Int)).toNat=j+i:=by omega
  simp(disch:=omega)only[go_sem,h1,e1]
  generalize hb:cy+(U1.getD (j+i) 0+V.getD i 0)=b
  have hg2:∀t,t≠j+V.length→0≤(U1.set (j+i) (b % 65536)).getD t 0∧(U1.set (j+i) (b % 65536)).getD t 0<65536:=fun t ht=>by
   rw[jf (by omega)]
   split
   ·omega
   ·exact hg1 t ht
  refine⟨by omega,by omega,by omega,by omega,by omega,by omega,qc (i+1,U1.set (j+i) (b % 65536),b/65536) [] ⟨by show i+1≤_;omega,by simp[hl1],hg2,by show 0≤b/65536∧b/65536≤1;omega,fun t ht=>?_,?_⟩
   (by show V.length-(i+1)<V.length-i;omega) rfl (by simp(disch:=omega)only[go_sem];try omega) (by simp(disch:=omega)only[go_sem])⟩
  ·show(U1.set (j+i) (b % 65536)).getD t 0=_
   have ht:t<j∨j+(i+1)≤t:=ht
   rw[jf (by omega),if_neg (by omega)];exact hsame t (by omega)
  ·show vl (U1.set (j+i) (b % 65536))+65536^(j+(i+1))*(b/65536)=vl U+65536^j*vl (V.take (i+1))
   rw[QA (by omega),qO,←Nat.add_assoc,Int.pow_succ]
   have e3:(65536:Int)^(j+i)=65536^j*65536^i:=Int.pow_add _ _ _
   have e4:b % 65536+65536*(b/65536)=b:=Int.emod_add_mul_ediv b 65536
   rw[e3]at hval ⊢
   generalize (65536:Int)^i=Pi at*
   generalize (65536:Int)^j=Pj at*
   grind
 ·have hiA:i=V.length:=by omega
  subst hiA
  rw[List.take_length]at hval
  have e1:((j:Int)+(V.length:Int)).toNat=j+V.length:=by omega
  have es:=hsame (j+V.length) (by omega)
  simp(disch:=omega)only[go_sem,h1,e1,es]
  refine⟨by omega,by omega,by omega,by omega,?_⟩
  refine qi [] [] [.own 1 (qb (U1.set (j+V.length) (U.getD (j+V.length) 0+cy)))] [] rfl (by simp(disch:=omega)only[go_sem]) (by simp(disch:=omega)only[go_sem]) (by simp) (by simp) ⟨_,rfl,rfl,rfl,by simp[hl1],fun t ht=>?_,fun t ht=>?_,?_⟩
  ·rw[jf (by omega),if_neg ht];exact hg1 t ht
  ·rw[jf (by omega),if_neg (by omega)];exact hsame t (by omega)
  ·rw[QA (by omega),es]
   generalize (65536:Int)^(j+V.length)=Pj at*
   grind
end Go.Ab
namespace Go.Ab
open Go Go.Proofs
theorem jg(xs:List Int)(hl:xs.length≤2^40):Con Tryz.prog 254 false [.rf 10000000 0 xs.length] [.own 1 (qb xs)] (fun r hs bs=>r=.rf 10000000 0 (ZI xs).length∧hs=[]∧bs=[.own 1 (qb xs)]):=by
 refine Con.of_aw Tryz.func254 rfl Tryz.ntmps254 (by simp) (by simp) (by simp) (W.sound ?_)
 show @W Tryz.prog 21 ⟨_⟩ ⟨fun x σ=>@qU _ _ _ ⟨_⟩ _ ⟨_⟩ x σ⟩ _ _
 simp(disch:=omega)only[go_sem]
 refine qj (fun m:Nat=>[(0,.rf 10000000 0 m)]) (fun _=>[(10000000,.own 1 (qb xs))]) (fun m=>m≤xs.length∧ZI (xs.take m)=ZI xs) id xs.length ⟨Nat.le_refl _,by simp⟩
  (Le.lst [] _ _ rfl (by simp(disch:=omega)only[go_sem];try omega) (by simp(disch:=omega)only[go_sem])) ?_
 intro m ⟨hm,hx⟩
 have hmx:∀k,k+1=m→xs.take m=xs.take k++[xs.getD k 0]:=fun k hk=>by rw[←hk];exact jz (by omega)
 simp(disch:=omega)only[go_sem]
 refine qg (fun h1=>?_) (fun h1=>?_)
 ·obtain⟨k,rfl⟩:∃k,m=k+1:=⟨m-1,by omega⟩
  have e1:((k+1:Nat):Int)-1=(k:Nat):=by omega
  rw[hmx k rfl]at hx
  simp(disch:=omega)only[go_sem,h1,e1]
  refine⟨by omega,by omega,qg (fun h2=>?_) (fun h2=>?_)⟩
  ·simp(disch:=omega)only[go_sem,h2,e1]
   rw[h2,y8]at hx
   refine⟨by omega,qc k [] ⟨by omega,hx⟩ (by show k<k+1;omega) rfl (by simp(disch:=omega)only[go_sem];try omega) (by simp(disch:=omega)only[go_sem])⟩
  ·simp(disch:=omega)only[go_sem,h2]
   refine qi [] [] [.own 1 (qb xs)] [.rf 10000000 0 (k+1)] rfl (by simp(disch:=omega)only[go_sem]) (by simp(disch:=omega)only[go_sem]) (by simp) (by simp) ⟨?_,rfl,rfl⟩
   rw[Yj _ h2,←hmx k rfl]at hx
   rw[←hx,List.length_take,Nat.min_eq_left hm];rfl
 ·simp(disch:=omega)only[go_sem,h1]
  refine qi [] [] [.own 1 (qb xs)] [.rf 10000000 0 m] rfl (by simp(disch:=omega)only[go_sem]) (by simp(disch:=omega)only[go_sem]) (by simp) (by simp) ⟨?_,rfl,rfl⟩
  have:m=0:=by omega
  subst this
  rw[←hx];rfl
end Go.Ab
namespace Go.Ab
open Go Go.Proofs
theorem aof{x y:Int}(hx:0≤x∧x<65536)(hy:0≤y∧y<65536):0≤x*y∧x*y≤4294836225:=by
 have h1:=Int.mul_nonneg hx.1 hy.1
 have h2:x*y≤65535*65535:=Int.mul_le_mul (by omega) (by omega) hy.1 (by omega)
 omega
theorem ao8(cl:Bool)(A B:List Int)(hA:gd A)(hB:gd B)(lA:A.length≤1000000)(lB:B.length≤1000000):
  Con Tryz.prog 218 cl [.sl A.length (qb A),.sl B.length (qb B)] [] (aqu (lim (vl A*vl B).toNat)):=by
 refine Con.of_aw Tryz.func218 rfl Tryz.ntmps218 (by simp) (by simp) (by simp) (W.sound ?_)
 show @W Tryz.prog 63 ⟨_⟩ ⟨fun x σ=>@qU _ _ _ ⟨_⟩ _ ⟨_⟩ x σ⟩ _ _
 simp(disch:=omega)only[go_sem]
 refine⟨⟨by omega,by omega,by omega⟩,?_⟩
 refine qj (fun x:Nat×List Int=>[(1,.sl B.length (qb B)),(5,.rf 180000000 0 (A.length+B.length)),(17,.sl A.length (qb A)),(18,.v (.int .i64 A.length)),(19,.v (.int .i64 x.1))])
  (fun x=>[(180000000,.own 1 (qb x.2))])
  (fun x=>x.1≤A.length∧x.2.length=A.length+B.length∧gd x.2∧vl x.2=vl (A.take x.1)*vl B∧∀j,x.1+B.length≤j→x.2.getD j 0=0)
  (fun x=>A.length-x.1) (0,List.replicate (A.length+B.length) 0) ⟨by simp,by simp,zi _,by simp[zE,vl],fun j _=>by
   rw[List.getD_eq_getElem?_getD,List.getElem?_replicate];split<;>rfl⟩
  (Le.lst [] _ _ rfl (by simp(disch:=omega)only[go_sem];try omega) (by simp(disch:=omega)only[go_sem,show((A.length:Int)+(B.length:Int)).toNat=A.length+B.length by omega])) ?_
 rintro⟨i,out⟩ ⟨hi,hol,hog,hov,hoz⟩
 dsimp only at hi hol hog hov hoz ⊢
 simp(disch:=omega)only[go_sem]
 refine qg (fun h1=>?_) (fun h1=>?_)
 ·have hx:=qH hA i
  simp(disch:=omega)only[go_sem,h1]
  refine⟨by omega,by omega,?_⟩
  refine qj (fun x:Nat×List Int×Int=>[(1,.sl B.length (qb B)),(5,.rf 180000000 0 (A.length+B.length)),(17,.sl A.length (qb A)),(18,.v (.int .i64 A.length)),(19,.v (.int .i64 i)),(6,.v (.int .i64 i)),
    (7,.v (.int .i64 (A.getD i 0))),(8,.v (.int .i64 x.2.2)),(24,.sl B.length (qb B)),(25,.v (.int .i64 B.length)),(26,.v (.int .i64 x.1))])
   (fun x=>[(180000000,.own 1 (qb x.2.1))])
   (fun x=>x.1≤B.length∧x.2.1.length=A.length+B.length∧gd x.2.1∧(0≤x.2.2∧x.2.2<65536)∧vl x.2.1+65536^(i+x.1)*x.2.2=vl out+65536^i*(A.getD i 0*vl (B.take x.1))∧∀j,i+B.length≤j→x.2.1.getD j 0=0)
   (fun x=>B.length-x.1) (0,out,0) ⟨by simp,hol,hog,by simp,by simp[vl],hoz⟩
   (Le.lst [] _ _ rfl (by simp(disch:=omega)only[go_sem];try omega) (by simp(disch:=omega)only[go_sem])) ?_
  rintro⟨j,o2,cy⟩ ⟨hj,hol2,hog2,hcy,hov2,hoz2⟩
  dsimp only at hj hol2 hog2 hcy hov2 hoz2 ⊢
  simp(disch:=omega)only[go_sem]
  refine qg (fun h2=>?_) (fun h2=>?_)
  ·have hy:=qH hB j
   have ho:=qH hog2 (i+j)
   have hxy:=aof hx hy
   have e1:((i:Int)+(j:Int)).toNat=i+j:=by omega
   simp(disch:=omega)only[go_sem,h2,e1]
   generalize hq:cy+(o2.getD (i+j) 0+A.getD i 0*B.getD j 0)=q
   refine⟨by omega,by omega,by omega,by omega,by omega,by omega,qc (j+1,o2.set (i+j) (q % 65536),q/65536) [] ⟨by show j+1≤_;omega,by simp[hol2],yA hog2 (by omega),by show 0≤q/65536∧q/65536<65536;omega,?_,fun k hk=>?_⟩
    (by show B.length-(j+1)<B.length-j;omega) rfl (by simp(disch:=omega)only[go_sem];try omega) (by simp(disch:=omega)only[go_sem])⟩
   ·show vl (o2.set (i+j) (q % 65536))+65536^(i+(j+1))*(q/65536)=vl out+65536^i*(A.getD i 0*vl (B.take (j+1)))
    rw[QA (by omega),zW (by omega),←Nat.add_assoc,Int.pow_succ]
    have e2:(65536:Int)^(i+j)=65536^i*65536^j:=Int.pow_add _ _ _
    have e3:q % 65536+65536*(q/65536)=q:=Int.emod_add_mul_ediv q 65536
    rw[e2]at hov2 ⊢
    generalize (65536:Int)^i=Pi at*
    generalize (65536:Int)^j=Pj at*
    grind
   ·show(o2.set (i+j) (q % 65536)).getD k 0=0
    rw[List.getD_eq_getElem?_getD,List.getElem?_set_ne (by omega),←List.getD_eq_getElem?_getD]
    exact hoz2 k hk
  ·simp(disch:=omega)only[go_sem,h2]
   have e1:((i:Int)+(B.length:Int)).toNat=i+B.length:=by omega
   have hjB:j=B.length:=by omega
   subst hjB
   rw[List.take_length]at hov2
   simp(disch:=omega)only[go_sem,e1]
   refine⟨by omega,by omega,qc (i+1,o2.set (i+B.length) cy) [] ⟨by show i+1≤_;omega,by simp[hol2],yA hog2 hcy,?_,fun k hk=>?_⟩ (by show A.length-(i+1)<A.length-i;omega) rfl (by simp(disch:=omega)only[go_sem];try omega) (by simp(disch:=omega)only[go_sem])⟩
   ·show vl (o2.set (i+B.length) cy)=vl (A.take (i+1))*vl B
    rw[QA (by omega),hoz2 _ (Nat.le_refl _),zW (by omega)]
    generalize (65536:Int)^i=Pi at*
    grind
   ·show(o2.set (i+B.length) cy).getD k 0=0
    rw[List.getD_eq_getElem?_getD,List.getElem?_set_ne (by show i+B.length≠k;omega),←List.getD_eq_getElem?_getD]
    exact hoz2 k (by omega)
 ·simp(disch:=omega)only[go_sem,h1]
  have hiA:i=A.length:=by omega
  subst hiA
  rw[List.take_length]at hov
  refine qW false [180000000] (jg out (by omega)) (by rw[←hol];simp(disch:=omega)only[go_sem]) (by simp(disch:=omega)only[go_sem]) rfl (qM (z:=1) (cs:=qb out) (by simp(disch:=omega)only[go_sem]) (by simp(disch:=omega)only[go_sem])) (by intro n hn;exact⟨_,List.mem_singleton.2 rfl,by rw[List.mem_singleton.1 hn];rfl⟩) ?_
  rintro r hs bs ⟨rfl,rfl,rfl⟩ _
  refine⟨by simp[qN],?_⟩
  simp(disch:=omega)only[go_sem]
  obtain⟨z,hz⟩:=zA out
  have hc:=zU hog
  rw[hov]at hc
  rw[hc]at hz ⊢
  refine qi [(0,180000000)] [.own 1 (qb out)] [] [.rf 0 0 (lim (vl A*vl B).toNat).length] rfl (by simp(disch:=omega)only[go_sem]) (by simp(disch:=omega)only[go_sem]) (by simp) (by intro _;simp[zd,AV.pu,AV.pu.puL,Ob.pu,qS]) (.inr ⟨List.replicate z 0,rfl,by rw[←hz]⟩)
end Go.Ab
namespace Go.Ab
open Go Go.Proofs
theorem apa(cl:Bool)(n:Nat)(hn:n<2^63):Con Tryz.prog 189 cl [.v (.int .i64 n)] [] (aqu (lim n)):=by
 refine Con.of_aw Tryz.func189 rfl Tryz.ntmps189 (by simp) (by simp) (by simp) (W.sound ?_)
 show @W Tryz.prog 14 ⟨_⟩ ⟨fun x σ=>@qU _ _ _ ⟨_⟩ _ ⟨_⟩ x σ⟩ _ _
 simp(disch:=omega)only[go_sem]
 refine qj (fun x:Nat×List Int=>[(0,.v (.int .i64 x.1)),(3,.rf 1 0 x.2.length)]) (fun x=>[(1,.own 1 (qb x.2))]) (fun x=>x.1<2^63∧x.2++lim x.1=lim n) (fun x=>x.1) (n,[]) ⟨hn,rfl⟩
  ((Le.ghost 3 1 1 (by simp(disch:=omega)only[go_sem]) (by simp(disch:=omega)only[go_sem])).trans (Le.lst [] _ _ rfl (by simp(disch:=omega)only[go_sem]) (by simp(disch:=omega)only[go_sem]))) ?_
 rintro⟨k,l⟩ ⟨hk,hl⟩
 dsimp only at hk hl ⊢
 have hlen:l.length≤4:=by
  have h1:=congrArg List.length hl
  have h2:=jw (n:=n) (k:=4) |>.2 (by omega)
  rw[List.length_append]at h1;omega
 simp(disch:=omega)only[go_sem]
 refine qg (fun h1=>?_) (fun h1=>?_)
 ·simp(disch:=omega)only[go_sem,h1]
  have hk0:k≠0:=by omega
  refine⟨by omega,qc (k/65536,l++[(k:Int) % 65536]) [(1,140000000)] ⟨by show k/65536<2^63;omega,?_⟩ (by show k/65536<k;omega) rfl (by simp(disch:=omega)only[go_sem,List.length_append];omega) (by simp(disch:=omega)only[go_sem])⟩
  rw[jO hk0]at hl
  rw[←hl,List.append_assoc];rfl
 ·simp(disch:=omega)only[go_sem,h1]
  have hk0:k=0:=by omega
  subst hk0
  rw[qm,List.append_nil]at hl
  subst hl
  refine qi [(0,1)] [.own 1 (qb (lim n++[]))] [] [.rf 0 0 (lim n).length] rfl (by simp(disch:=omega)only[go_sem]) (by simp(disch:=omega)only[go_sem]) (by simp) (by intro _;simp[zd,AV.pu,AV.pu.puL,Ob.pu,qS]) (.inr ⟨[],rfl,rfl⟩)
end Go.Ab
namespace Go.Ab
open Go Go.Proofs
theorem jX(k:Nat)(h:k<16):(0:Int)<2^k∧(2:Int)^k≤32768:=by
 have:∀k,k<16→(0:Int)<2^k∧(2:Int)^k≤32768:=by decide
 exact this k h
theorem aoe{x:Int}(hx:0≤x∧x<65536){k:Nat}(hk:k<16):0≤x*2^k∧x*2^k≤2147450880:=by
 obtain⟨h1,h2⟩:=jX k hk
 have h3:=Int.mul_nonneg hx.1 (Int.le_of_lt h1)
 have h4:x*2^k≤65535*32768:=Int.mul_le_mul (by omega) h2 (by omega) (by omega)
 omega
theorem Ka(k:Nat):(65536:Int)^(k/16)*2^(k % 16)=2^k:=by
 have e:(65536:Int)=2^16:=by decide
 rw[e,←Int.pow_mul,←Int.pow_add,Nat.div_add_mod]
theorem aR0(cl:Bool)(A:List Int)(k:Nat)(hA:gd A)(lA:A.length≤1000000)(hk:k≤100000000):
  Con Tryz.prog 195 cl [.sl A.length (qb A),.v (.int .i64 k)] [] (aqu (lim (vl A*2^k).toNat)):=by
 refine Con.of_aw Tryz.func195 rfl Tryz.ntmps195 (by simp) (by simp) (by simp) (W.sound ?_)
 show @W Tryz.prog 46 ⟨_⟩ ⟨fun x σ=>@qU _ _ _ ⟨_⟩ _ ⟨_⟩ x σ⟩ _ _
 simp(disch:=omega)only[go_sem]
 refine qg (fun h0=>?_) (fun h0=>?_)
 ·simp(disch:=omega)only[go_sem,h0]
  have:A=[]:=List.length_eq_zero_iff.1 (by omega)
  subst this
  refine qi [] [] [] [.v (.slice none 0 0)] rfl (by simp(disch:=omega)only[go_sem]) (by simp(disch:=omega)only[go_sem]) (by simp) (by intro _;simp[zd,AV.pu,AV.pu.puL,Ob.pu,qS]) (.inl ⟨by simp[vl,qm],rfl,rfl⟩)
 ·simp(disch:=omega)only[go_sem,h0]
  refine⟨by omega,?_⟩
  have e16:((k:Int)/16).toNat=k/16:=by omega
  refine qj (fun x:Nat×List Int×Int=>[(1,.v (.int .i64 k)),(5,.rf 1 0 x.2.1.length),(6,.v (.int .i64 x.2.2)),(21,.sl A.length (qb A)),(22,.v (.int .i64 A.length)),(23,.v (.int .i64 x.1))])
   (fun x=>[(1,.own 1 (qb x.2.1))])
   (fun x=>x.1≤A.length∧x.2.1.length=k/16+x.1∧gd x.2.1∧(0≤x.2.2∧x.2.2<65536)∧vl x.2.1+65536^(k/16+x.1)*x.2.2=65536^(k/16)*2^(k % 16)*vl (A.take x.1))
   (fun x=>A.length-x.1) (0,List.replicate (k/16) 0,0) ⟨by simp,by simp,zi _,by simp,by simp[vl,zE]⟩
   (Le.lst [(1,220000000)] _ _ rfl (by simp(disch:=omega)only[go_sem,List.length_replicate,e16]) (by simp(disch:=omega)only[go_sem,e16])) ?_
  rintro⟨i,out,cy⟩ ⟨hi,hol,hog,hcy,hov⟩
  dsimp only at hi hol hog hcy hov ⊢
  simp(disch:=omega)only[go_sem]
  refine qg (fun h1=>?_) (fun h1=>?_)
  ·have hx:=qH hA i
   have hxs:=aoe hx (show k % 16<16 by omega)
   have em:min ((k:Int) % 16).toNat 64=k % 16:=by omega
   simp(disch:=omega)only[go_sem,h1,em]
   generalize hq:cy+A.getD i 0*2^(k % 16)=q
   refine⟨by omega,by omega,by omega,by omega,qc (i+1,out++[q % 65536],q/65536) [(1,390000000)] ⟨by show i+1≤_;omega,by simp[hol];omega,qD.2 ⟨hog,zH.2 (by omega)⟩,by show 0≤q/65536∧q/65536<65536;omega,?_⟩ (by show A.length-(i+1)<A.length-i;omega) rfl (by simp(disch:=omega)only[go_sem,List.length_append];try omega) (by simp(disch:=omega)only[go_sem])⟩
   show vl (out++[q % 65536])+65536^(k/16+(i+1))*(q/65536)=65536^(k/16)*2^(k % 16)*vl (A.take (i+1))
   rw[jk,qO,hol,←Nat.add_assoc,Int.pow_succ]
   have e3:q % 65536+65536*(q/65536)=q:=Int.emod_add_mul_ediv q 65536
   rw[Int.pow_add]at hov ⊢
   generalize (65536:Int)^i=Pi at*
   generalize (65536:Int)^(k/16)=Pk at*
   generalize (2:Int)^(k % 16)=Pm at*
   grind
  ·simp(disch:=omega)only[go_sem,h1]
   have hiA:i=A.length:=by omega
   subst hiA
   rw[List.take_length,Ka]at hov
   have hov2:vl (out++[cy])=vl A*2^k:=by rw[jk,hol,hov];grind
   have hog2:gd (out++[cy]):=qD.2 ⟨hog,zH.2 hcy⟩
   refine⟨by omega,?_⟩
   have hl2:out.length+1=(out++[cy]).length:=by simp
   rw[hl2]
   refine qW false [460000000] (jg (out++[cy]) (by simp;omega)) (by simp(disch:=omega)only[go_sem]) (by simp(disch:=omega)only[go_sem]) rfl (qM (z:=1) (cs:=qb (out++[cy])) (by simp(disch:=omega)only[go_sem]) (by simp(disch:=omega)only[go_sem])) (by intro n hn;exact⟨_,List.mem_singleton.2 rfl,by rw[List.mem_singleton.1 hn];rfl⟩) ?_
   rintro r hs bs ⟨rfl,rfl,rfl⟩ _
   refine⟨by simp[qN],?_⟩
   simp(disch:=omega)only[go_sem]
   obtain⟨z,hz⟩:=zA (out++[cy])
   have hc:=zU hog2
   rw[hov2]at hc
   rw[hc]at hz ⊢
   refine qi [(0,460000000)] [.own 1 (qb (out++[cy]))] [] [.rf 0 0 (lim (vl A*2^k).toNat).length] rfl (by simp(disch:=omega)only[go_sem]) (by simp(disch:=omega)only[go_sem]) (by simp) (by intro _;simp[zd,AV.pu,AV.pu.puL,Ob.pu,qS]) (.inr ⟨List.replicate z 0,rfl,by rw[←hz]⟩)
end Go.Ab
namespace Go.Ab
open Go Go.Proofs
theorem aAy(V P:Int)(hP:0<P):V % (P*65536)=V % P+P*(V/P % 65536):=by
 rw[Int.emod_def,Int.emod_def,Int.emod_def,←Int.ediv_ediv_of_nonneg (Int.le_of_lt hP)]
 grind
theorem az2{s:Nat}(hs:s<16):(65536:Int)=2^s*2^(16-s):=by
 rw[←Int.pow_add,show s+(16-s)=16 by omega];decide
theorem aiG{D:List Int}(hD:gd D){i s:Nat}(hi:i<D.length)(hs:s<16):
  (vl D/2^s)/65536^i % 65536=(D.getD i 0+D.getD (i+1) 0*65536)/2^s % 65536:=by
 have h2:=(jX s hs).1
 rw[Int.ediv_ediv_of_nonneg (Int.le_of_lt h2),Int.mul_comm,←Int.ediv_ediv_of_nonneg (Int.le_of_lt (Int.pow_pos (by omega))),adK hD (by omega),zr hi]
 have h3:vl (D.drop (i+1))=D.getD (i+1) 0+65536*vl (D.drop (i+2)):=by
  rcases Nat.lt_or_ge (i+1) D.length with h|h
  ·exact zr h
  ·rw[List.drop_of_length_le h,List.drop_of_length_le (by omega),List.getD_eq_getElem?_getD,List.getElem?_eq_none h];simp[vl]
 rw[h3]
 have e:D.getD i 0+65536*(D.getD (i+1) 0+65536*vl (D.drop (i+2)))=(D.getD i 0+D.getD (i+1) 0*65536)+2^s*(65536*(2^(16-s)*vl (D.drop (i+2)))):=by
  have:=az2 hs
  generalize (2:Int)^s=a at*
  generalize (2:Int)^(16-s)=b at*
  grind
 rw[e,Int.add_mul_ediv_left _ _ (by omega),Int.add_mul_emod_self_left]
theorem anZ{a b:Nat}(h:a≤b):(65536:Int)^a≤65536^b:=by
 obtain⟨d,rfl⟩:=Nat.exists_eq_add_of_le h
 have h1:(0:Int)<65536^a:=Int.pow_pos (by omega)
 have h2:(0:Int)<65536^d:=Int.pow_pos (by omega)
 have h3:=Int.mul_le_mul_of_nonneg_left (show(1:Int)≤65536^d by omega) (Int.le_of_lt h1)
 rw[Int.mul_one,←Int.pow_add]at h3
 exact h3
theorem aBO(cl:Bool)(A:List Int)(k:Nat)(hA:gd A)(lA:A.length≤1000000)(hk:k≤100000000):
  Con Tryz.prog 216 cl [.sl A.length (qb A),.v (.int .i64 k)] [] (aqu (lim (vl A/2^k).toNat)):=by
 refine Con.of_aw Tryz.func216 rfl Tryz.ntmps216 (by simp) (by simp) (by simp) (W.sound ?_)
 show @W Tryz.prog 52 ⟨_⟩ ⟨fun x σ=>@qU _ _ _ ⟨_⟩ _ ⟨_⟩ x σ⟩ _ _
 have hvk:vl A/2^k=vl A/65536^(k/16)/2^(k % 16):=by
  rw[Int.ediv_ediv_of_nonneg (Int.le_of_lt (Int.pow_pos (by omega))),Ka]
 simp(disch:=omega)only[go_sem]
 refine qg (fun h0=>?_) (fun h0=>?_)
 ·simp(disch:=omega)only[go_sem,h0]
  have hz:vl A/2^k=0:=by
   rw[hvk,Int.ediv_eq_zero_of_lt (qQ hA)]
   ·simp
   ·refine Int.lt_of_lt_of_le (Qe hA) ?_
    exact anZ (by omega)
  rw[hz]
  refine qi [] [] [] [.v (.slice none 0 0)] rfl (by simp(disch:=omega)only[go_sem]) (by simp(disch:=omega)only[go_sem]) (by simp) (by intro _;simp[zd,AV.pu,AV.pu.puL,Ob.pu,qS]) (.inl ⟨by simp[qm],rfl,rfl⟩)
 ·have e16:((k:Int)/16).toNat=k/16:=by omega
  have e17:((A.length:Int)-(k:Int)/16).toNat=(A.drop (k/16)).length:=by simp;omega
  have e18:(A.drop (k/16)).take (A.drop (k/16)).length=A.drop (k/16):=List.take_length
  have hvD:=adK hA (i:=k/16) (by omega)
  have hlD:(A.drop (k/16)).length≤1000000:=by simp;omega
  have hD:=j4 hA (k/16)
  simp(disch:=omega)only[go_sem,h0,e16,e17,e18]
  generalize A.drop (k/16)=D at*
  refine⟨by omega,by omega,?_⟩
  refine qj (fun x:Nat×List Int=>[(1,.v (.int .i64 k)),(5,.sl D.length (qb D)),(6,.rf 1 0 x.2.length),(21,.sl D.length (qb D)),(22,.v (.int .i64 D.length)),(23,.v (.int .i64 x.1))])
   (fun x=>[(1,.own 1 (qb x.2))])
   (fun x=>x.1≤D.length∧x.2.length=x.1∧gd x.2∧vl x.2=vl D/2^(k % 16) % 65536^x.1)
   (fun x=>D.length-x.1) (0,[]) ⟨by simp,rfl,ZC,by simp[vl]⟩
   (Le.lst [(1,220000000)] _ _ rfl (by simp(disch:=omega)only[go_sem]) (by simp(disch:=omega)only[go_sem])) ?_
  rintro⟨i,out⟩ ⟨hi,hol,hog,hov⟩
  dsimp only at hi hol hog hov ⊢
  simp(disch:=omega)only[go_sem]
  refine qg (fun h1=>?_) (fun h1=>?_)
  ·have hx:=qH hD i
   have hy:=qH hD (i+1)
   have em:min ((k:Int) % 16).toNat 64=k % 16:=by omega
   have hm:=jX (k % 16) (by omega)
   have efd:∀x:Int,x.fdiv (2^(k % 16))=x/2^(k % 16):=fun x=>Int.fdiv_eq_ediv_of_nonneg _ (Int.le_of_lt hm.1)
   have hdig:=aiG hD (i:=i) (s:=k % 16) (by omega) (by omega)
   have hnn:∀x:Int,0≤x→0≤x/2^(k % 16):=fun x hx=>Int.ediv_nonneg hx (Int.le_of_lt hm.1)
   have ei:((i:Int)+1).toNat=i+1:=by omega
   have hstep:∀z:Int,z=(D.getD i 0+D.getD (i+1) 0*65536)/2^(k % 16) % 65536→vl (out++[z])=vl D/2^(k % 16) % 65536^(i+1):=by
    intro z hz
    rw[jk,hov,hol,Int.pow_succ,aAy _ _ (Int.pow_pos (by omega)),hdig,hz]
   simp(disch:=omega)only[go_sem,h1]
   refine⟨by omega,by omega,qg (fun h2=>?_) (fun h2=>?_)⟩
   ·have hn1:=hnn (D.getD i 0+D.getD (i+1) 0*65536) (by omega)
    simp(disch:=omega)only[go_sem,h2,em,efd,ei]
    refine⟨by omega,by omega,by omega,by omega,qc (i+1,out++[(D.getD i 0+D.getD (i+1) 0*65536)/2^(k % 16) % 65536]) [(1,500000000)] ⟨by show i+1≤_;omega,by simp[hol],qD.2 ⟨hog,zH.2 (by omega)⟩,hstep _ rfl⟩ (by show D.length-(i+1)<D.length-i;omega) rfl (by simp(disch:=omega)only[go_sem,List.length_append];try omega) (by simp(disch:=omega)only[go_sem])⟩
   ·have hn1:=hnn (D.getD i 0) (by omega)
    simp(disch:=omega)only[go_sem,h2,em,efd]
    have hy0:D.getD (i+1) 0=0:=by rw[List.getD_eq_getElem?_getD,List.getElem?_eq_none (by omega)];rfl
    refine⟨by omega,by omega,qc (i+1,out++[D.getD i 0/2^(k % 16) % 65536]) [(1,500000000)] ⟨by show i+1≤_;omega,by simp[hol],qD.2 ⟨hog,zH.2 (by omega)⟩,hstep _ (by rw[hy0];simp)⟩ (by show D.length-(i+1)<D.length-i;omega) rfl (by simp(disch:=omega)only[go_sem,List.length_append];try omega) (by simp(disch:=omega)only[go_sem])⟩
  ·simp(disch:=omega)only[go_sem,h1]
   have hiD:i=D.length:=by omega
   subst hiD
   have hV:vl out=vl A/2^k:=by
    rw[hov,hvk,hvD]
    refine Int.emod_eq_of_lt (Int.ediv_nonneg (qQ hD) (Int.le_of_lt (jX (k % 16) (by omega)).1)) ?_
    exact Int.lt_of_le_of_lt (Int.ediv_le_self _ (qQ hD)) (Qe hD)
   refine qW false [1] (jg out (by omega)) (by simp(disch:=omega)only[go_sem]) (by simp(disch:=omega)only[go_sem]) rfl (qM (z:=1) (cs:=qb out) (by simp(disch:=omega)only[go_sem]) (by simp(disch:=omega)only[go_sem])) (by intro n hn;exact⟨_,List.mem_singleton.2 rfl,by rw[List.mem_singleton.1 hn];rfl⟩) ?_
   rintro r hs bs ⟨rfl,rfl,rfl⟩ _
   refine⟨by simp[qN],?_⟩
   simp(disch:=omega)only[go_sem]
   obtain⟨z,hz⟩:=zA out
   have hc:=zU hog
   rw[hV]at hc
   rw[hc]at hz ⊢
   refine qi [(0,1)] [.own 1 (qb out)] [] [.rf 0 0 (lim (vl A/2^k).toNat).length] rfl (by simp(disch:=omega)only[go_sem]) (by simp(disch:=omega)only[go_sem]) (by simp) (by intro _;simp[zd,AV.pu,AV.pu.puL,Ob.pu,qS]) (.inr ⟨List.replicate z 0,rfl,by rw[←hz]⟩)
end Go.Ab
namespace Go.Ab
open Go Go.Proofs
theorem drop_set{l:List Int}{i:Nat}(h:i<l.length)(z:Int):(l.set i z).drop i=z::l.drop (i+1):=by
 rw[List.drop_eq_getElem_cons (by simpa using h)]
 simp[List.drop_set]
theorem aBP(cl:Bool)(A:List Int)(d:Nat)(hA:gd A)(lA:A.length≤1000000)(hd:0<d)(hd2:d<65536):
  Con Tryz.prog 295 cl [.sl A.length (qb A),.v (.int .i64 d)] [] (fun r hs bs=>∃zs,r=.tu [.rf 0 0 (lim (vl A/d).toNat).length,.v (.int .i64 (vl A % d))]∧hs=[.own 1 (qb (lim (vl A/d).toNat++zs))]):=by
 refine Con.of_aw Tryz.func295 rfl Tryz.ntmps295 (by simp) (by simp) (by simp) (W.sound ?_)
 show @W Tryz.prog 38 ⟨_⟩ ⟨fun x σ=>@qU _ _ _ ⟨_⟩ _ ⟨_⟩ x σ⟩ _ _
 simp(disch:=omega)only[go_sem]
 refine⟨by omega,?_⟩
 refine qj (fun x:Nat×List Int×Int=>[(0,.sl A.length (qb A)),(1,.v (.int .i64 d)),(6,.rf 130000000 0 A.length),(7,.v (.int .i64 x.2.2)),(8,.v (.int .i64 ((x.1:Int)-1)))])
  (fun x=>[(130000000,.own 1 (qb x.2.1))])
  (fun x=>x.1≤A.length∧x.2.1.length=A.length∧gd x.2.1∧x.2.2=vl (A.drop x.1) % d∧vl (x.2.1.drop x.1)=vl (A.drop x.1)/d)
  (fun x=>x.1) (A.length,List.replicate A.length 0,0) ⟨by simp,by simp,zi _,by simp[vl],by simp[vl]⟩
  (Le.lst [] _ _ rfl (by simp(disch:=omega)only[go_sem];try omega) (by simp(disch:=omega)only[go_sem])) ?_
 rintro⟨m,out,rest⟩ ⟨hm,hol,hog,hr,hov⟩
 dsimp only at hm hol hog hr hov ⊢
 simp(disch:=omega)only[go_sem]
 refine qg (fun h1=>?_) (fun h1=>?_)
 ·obtain⟨i,rfl⟩:∃i,m=i+1:=⟨m-1,by omega⟩
  have e1:((i+1:Nat):Int)-1=(i:Nat):=by omega
  have hx:=qH hA i
  have hr2:0≤rest∧rest<d:=by rw[hr];exact⟨Int.emod_nonneg _ (by omega),Int.emod_lt_of_pos _ (by omega)⟩
  generalize hq:rest*65536+A.getD i 0=q
  have hq0:0≤q:=by omega
  have hqd:0≤q/d∧q/d<65536:=⟨Int.ediv_nonneg hq0 (by omega),Int.ediv_lt_of_lt_mul (by omega) (by omega)⟩
  have hqm:0≤q % d∧q % d<d:=⟨Int.emod_nonneg _ (by omega),Int.emod_lt_of_pos _ (by omega)⟩
  simp(disch:=omega)only[go_sem,h1,e1,hq]
  refine⟨by omega,by omega,by omega,by omega,by omega,by omega,qc (i,out.set i (q/d),q % d) [] ⟨by show i≤_;omega,by simp[hol],yA hog hqd,?_,?_⟩ (by show i<i+1;omega) rfl (by simp(disch:=omega)only[go_sem]) (by simp(disch:=omega)only[go_sem])⟩
  ·show q % d=vl (A.drop i) % d
   rw[zr (l:=A) (i:=i) (by omega),←hq,hr]
   have h3:=Int.emod_add_mul_ediv (vl (A.drop (i+1))) d
   rw[show A.getD i 0+65536*vl (A.drop (i+1))=vl (A.drop (i+1)) % d*65536+A.getD i 0+d*(65536*(vl (A.drop (i+1))/d)) by grind,Int.add_mul_emod_self_left]
  ·show vl ((out.set i (q/d)).drop i)=vl (A.drop i)/d
   rw[drop_set (by omega),vl,hov,zr (l:=A) (i:=i) (by omega),←hq,hr]
   have h3:=Int.emod_add_mul_ediv (vl (A.drop (i+1))) d
   rw[show A.getD i 0+65536*vl (A.drop (i+1))=vl (A.drop (i+1)) % d*65536+A.getD i 0+d*(65536*(vl (A.drop (i+1))/d)) by grind,Int.add_mul_ediv_left _ _ (by omega)]
 ·simp(disch:=omega)only[go_sem,h1]
  have:m=0:=by omega
  subst this
  rw[List.drop_zero,List.drop_zero]at hov
  rw[List.drop_zero]at hr
  rw[←hol]
  refine qW false [130000000] (jg out (by omega)) (by simp(disch:=omega)only[go_sem]) (by simp(disch:=omega)only[go_sem]) rfl (qM (z:=1) (cs:=qb out) (by simp(disch:=omega)only[go_sem]) (by simp(disch:=omega)only[go_sem])) (by intro n hn;exact⟨_,List.mem_singleton.2 rfl,by rw[List.mem_singleton.1 hn];rfl⟩) ?_
  rintro r hs bs ⟨rfl,rfl,rfl⟩ _
  refine⟨by simp[qN],?_⟩
  simp(disch:=omega)only[go_sem]
  obtain⟨z,hz⟩:=zA out
  have hc:=zU hog
  rw[hov]at hc
  rw[hc]at hz ⊢
  rw[hr]
  refine qi [(0,130000000)] [.own 1 (qb out)] [] [.rf 0 0 (lim (vl A/d).toNat).length,.v (.int .i64 (vl A % d))] rfl (by simp(disch:=omega)only[go_sem]) (by simp(disch:=omega)only[go_sem]) (by simp) (by intro _;simp[zd,AV.pu,AV.pu.puL,Ob.pu,qS]) ⟨List.replicate z 0,rfl,by rw[←hz]⟩
end Go.Ab
namespace Go.Ab
open Go Go.Proofs
theorem aBF(cl:Bool)(A B:List Int)(hA:gd A)(hB:gd B)(lA:A.length≤2000000)(lB:B.length≤2000000):
  Con Tryz.prog 219 cl [.sl A.length (qb A),.sl B.length (qb B)] [] (aqu (lim (vl A+vl B).toNat)):=by
 refine Con.of_aw Tryz.func219 rfl Tryz.ntmps219 (by simp) (by simp) (by simp) (W.sound ?_)
 show @W Tryz.prog 53 ⟨_⟩ ⟨fun x σ=>@qU _ _ _ ⟨_⟩ _ ⟨_⟩ x σ⟩ _ _
 simp(disch:=omega)only[go_sem]
 refine qg (fun h0=>?_) (fun h0=>?_)
 all_goals simp(disch:=omega)only[go_sem,h0]
 ·revert A B
  intro Y X hY hX lY lX h0'
  have h00:Y.length≤X.length:=by omega
  have hcm:vl Y+vl X=vl X+vl Y:=Int.add_comm _ _
  refine⟨by omega,?_⟩
  refine qj (fun x:Nat×List Int×Int=>[(1,.sl Y.length (qb Y)),(5,.rf 1 0 x.2.1.length),(6,.v (.int .i64 x.2.2)),(20,.sl X.length (qb X)),(21,.v (.int .i64 X.length)),(22,.v (.int .i64 x.1))])
   (fun x=>[(1,.own 1 (qb x.2.1))])
   (fun x=>x.1≤X.length∧x.2.1.length=x.1∧gd x.2.1∧(0≤x.2.2∧x.2.2≤1)∧vl x.2.1+65536^x.1*x.2.2=vl (X.take x.1)+vl (Y.take x.1))
   (fun x=>X.length-x.1) (0,[],0) ⟨by simp,rfl,ZC,by simp,by simp[vl]⟩
   (Le.lst [(1,210000000)] _ _ rfl (by simp(disch:=omega)only[go_sem]) (by simp(disch:=omega)only[go_sem])) ?_
  rintro⟨i,out,cy⟩ ⟨hi,hol,hog,hcy,hov⟩
  dsimp only at hi hol hog hcy hov ⊢
  simp(disch:=omega)only[go_sem]
  refine qg (fun h1=>?_) (fun h1=>?_)
  ·have hx:=qH hX i
   have hy:=qH hY i
   have hstep:∀q:Int,q=cy+X.getD i 0+Y.getD i 0→vl (out++[q % 65536])+65536^(i+1)*(q/65536)=vl (X.take (i+1))+vl (Y.take (i+1)):=by
    intro q hq
    rw[jk,qO,qO,hol,Int.pow_succ]
    have e3:q % 65536+65536*(q/65536)=q:=Int.emod_add_mul_ediv q 65536
    generalize (65536:Int)^i=Pi at*
    grind
   have hyz:¬i<Y.length→Y.getD i 0=0:=fun h=>by rw[List.getD_eq_getElem?_getD,List.getElem?_eq_none (by omega)];rfl
   simp(disch:=omega)only[go_sem,h1]
   refine⟨by omega,by omega,qg (fun h2=>?_) (fun h2=>?_)⟩
   ·simp(disch:=omega)only[go_sem,h2]
    generalize hq:cy+X.getD i 0+Y.getD i 0=q
    refine⟨by omega,by omega,by omega,qc (i+1,out++[q % 65536],q/65536) [(1,460000000)] ⟨by show i+1≤_;omega,by simp[hol],qD.2 ⟨hog,zH.2 (by omega)⟩,by show 0≤q/65536∧q/65536≤1;omega,hstep q hq.symm⟩ (by show X.length-(i+1)<X.length-i;omega) rfl (by simp(disch:=omega)only[go_sem,List.length_append];try omega) (by simp(disch:=omega)only[go_sem])⟩
   ·simp(disch:=omega)only[go_sem,h2]
    have hy0:=hyz (by omega)
    generalize hq:cy+X.getD i 0=q
    refine⟨by omega,qc (i+1,out++[q % 65536],q/65536) [(1,460000000)] ⟨by show i+1≤_;omega,by simp[hol],qD.2 ⟨hog,zH.2 (by omega)⟩,by show 0≤q/65536∧q/65536≤1;omega,hstep q (by omega)⟩ (by show X.length-(i+1)<X.length-i;omega) rfl (by simp(disch:=omega)only[go_sem,List.length_append];try omega) (by simp(disch:=omega)only[go_sem])⟩
  ·simp(disch:=omega)only[go_sem,h1]
   have hiA:i=X.length:=by omega
   subst hiA
   rw[List.take_length,List.take_of_length_le h00]at hov
   have hov2:vl (out++[cy])=vl X+vl Y:=by rw[jk,hol];exact hov
   have hog2:gd (out++[cy]):=qD.2 ⟨hog,zH.2 (by omega)⟩
   refine⟨by omega,?_⟩
   have hl2:out.length+1=(out++[cy]).length:=by simp
   rw[hl2]
   refine qW false [530000000] (jg (out++[cy]) (by simp;omega)) (by simp(disch:=omega)only[go_sem]) (by simp(disch:=omega)only[go_sem]) rfl (qM (z:=1) (cs:=qb (out++[cy])) (by simp(disch:=omega)only[go_sem]) (by simp(disch:=omega)only[go_sem])) (by intro n hn;exact⟨_,List.mem_singleton.2 rfl,by rw[List.mem_singleton.1 hn];rfl⟩) ?_
   rintro r hs bs ⟨rfl,rfl,rfl⟩ _
   refine⟨by simp[qN],?_⟩
   simp(disch:=omega)only[go_sem]
   obtain⟨z,hz⟩:=zA (out++[cy])
   have hc:=zU hog2
   rw[hov2]at hc
   rw[hc]at hz ⊢
   refine qi [(0,530000000)] [.own 1 (qb (out++[cy]))] [] [.rf 0 0 (lim (vl X+vl Y).toNat).length] rfl (by simp(disch:=omega)only[go_sem]) (by simp(disch:=omega)only[go_sem]) (by simp) (by intro _;simp[zd,AV.pu,AV.pu.puL,Ob.pu,qS]) (.inr ⟨List.replicate z 0,by rw[hcm];rfl,by rw[hcm,←hz]⟩)
 ·revert A B
  intro X Y hX hY lX lY h0'
  have h00:Y.length≤X.length:=by omega
  have hcm:vl X+vl Y=vl X+vl Y:=rfl
  refine⟨by omega,?_⟩
  refine qj (fun x:Nat×List Int×Int=>[(1,.sl Y.length (qb Y)),(5,.rf 1 0 x.2.1.length),(6,.v (.int .i64 x.2.2)),(20,.sl X.length (qb X)),(21,.v (.int .i64 X.length)),(22,.v (.int .i64 x.1))])
   (fun x=>[(1,.own 1 (qb x.2.1))])
   (fun x=>x.1≤X.length∧x.2.1.length=x.1∧gd x.2.1∧(0≤x.2.2∧x.2.2≤1)∧vl x.2.1+65536^x.1*x.2.2=vl (X.take x.1)+vl (Y.take x.1))
   (fun x=>X.length-x.1) (0,[],0) ⟨by simp,rfl,ZC,by simp,by simp[vl]⟩
   (Le.lst [(1,210000000)] _ _ rfl (by simp(disch:=omega)only[go_sem]) (by simp(disch:=omega)only[go_sem])) ?_
  rintro⟨i,out,cy⟩ ⟨hi,hol,hog,hcy,hov⟩
  dsimp only at hi hol hog hcy hov ⊢
  simp(disch:=omega)only[go_sem]
  refine qg (fun h1=>?_) (fun h1=>?_)
  ·have hx:=qH hX i
   have hy:=qH hY i
   have hstep:∀q:Int,q=cy+X.getD i 0+Y.getD i 0→vl (out++[q % 65536])+65536^(i+1)*(q/65536)=vl (X.take (i+1))+vl (Y.take (i+1)):=by
    intro q hq
    rw[jk,qO,qO,hol,Int.pow_succ]
    have e3:q % 65536+65536*(q/65536)=q:=Int.emod_add_mul_ediv q 65536
    generalize (65536:Int)^i=Pi at*
    grind
   have hyz:¬i<Y.length→Y.getD i 0=0:=fun h=>by rw[List.getD_eq_getElem?_getD,List.getElem?_eq_none (by omega)];rfl
   simp(disch:=omega)only[go_sem,h1]
   refine⟨by omega,by omega,qg (fun h2=>?_) (fun h2=>?_)⟩
   ·simp(disch:=omega)only[go_sem,h2]
    generalize hq:cy+X.getD i 0+Y.getD i 0=q
    refine⟨by omega,by omega,by omega,qc (i+1,out++[q % 65536],q/65536) [(1,460000000)] ⟨by show i+1≤_;omega,by simp[hol],qD.2 ⟨hog,zH.2 (by omega)⟩,by show 0≤q/65536∧q/65536≤1;omega,hstep q hq.symm⟩ (by show X.length-(i+1)<X.length-i;omega) rfl (by simp(disch:=omega)only[go_sem,List.length_append];try omega) (by simp(disch:=omega)only[go_sem])⟩
   ·simp(disch:=omega)only[go_sem,h2]
    have hy0:=hyz (by omega)
    generalize hq:cy+X.getD i 0=q
    refine⟨by omega,qc (i+1,out++[q % 65536],q/65536) [(1,460000000)] ⟨by show i+1≤_;omega,by simp[hol],qD.2 ⟨hog,zH.2 (by omega)⟩,by show 0≤q/65536∧q/65536≤1;omega,hstep q (by omega)⟩ (by show X.length-(i+1)<X.length-i;omega) rfl (by simp(disch:=omega)only[go_sem,List.length_append];try omega) (by simp(disch:=omega)only[go_sem])⟩
  ·simp(disch:=omega)only[go_sem,h1]
   have hiA:i=X.length:=by omega
   subst hiA
   rw[List.take_length,List.take_of_length_le h00]at hov
   have hov2:vl (out++[cy])=vl X+vl Y:=by rw[jk,hol];exact hov
   have hog2:gd (out++[cy]):=qD.2 ⟨hog,zH.2 (by omega)⟩
   refine⟨by omega,?_⟩
   have hl2:out.length+1=(out++[cy]).length:=by simp
   rw[hl2]
   refine qW false [530000000] (jg (out++[cy]) (by simp;omega)) (by simp(disch:=omega)only[go_sem]) (by simp(disch:=omega)only[go_sem]) rfl (qM (z:=1) (cs:=qb (out++[cy])) (by simp(disch:=omega)only[go_sem]) (by simp(disch:=omega)only[go_sem])) (by intro n hn;exact⟨_,List.mem_singleton.2 rfl,by rw[List.mem_singleton.1 hn];rfl⟩) ?_
   rintro r hs bs ⟨rfl,rfl,rfl⟩ _
   refine⟨by simp[qN],?_⟩
   simp(disch:=omega)only[go_sem]
   obtain⟨z,hz⟩:=zA (out++[cy])
   have hc:=zU hog2
   rw[hov2]at hc
   rw[hc]at hz ⊢
   refine qi [(0,530000000)] [.own 1 (qb (out++[cy]))] [] [.rf 0 0 (lim (vl X+vl Y).toNat).length] rfl (by simp(disch:=omega)only[go_sem]) (by simp(disch:=omega)only[go_sem]) (by simp) (by intro _;simp[zd,AV.pu,AV.pu.puL,Ob.pu,qS]) (.inr ⟨List.replicate z 0,by rw[hcm];rfl,by rw[hcm,←hz]⟩)
end Go.Ab
namespace Go.Ab
open Go Go.Proofs
theorem KX(cl:Bool)(xs:List Int)(hl:xs.length≤2^39):Con Tryz.prog 270 cl [.sl xs.length (qb xs)] [] (aqu xs):=by
 refine Con.of_aw Tryz.func270 rfl Tryz.ntmps270 (by simp) (by simp) (by simp) (W.sound ?_)
 show @W Tryz.prog 8 ⟨_⟩ ⟨fun x σ=>@qU _ _ _ ⟨_⟩ _ ⟨_⟩ x σ⟩ _ _
 simp(disch:=omega)only[go_sem]
 refine⟨fun h0=>?_,?_⟩
 ·have:xs=[]:=by cases xs with|nil=>rfl|cons a r=>cases h0
  subst this
  refine qi [] [] [] [.v (.slice none 0 0)] rfl (by simp(disch:=omega)only[go_sem]) (by simp(disch:=omega)only[go_sem]) (by simp) (by intro _;simp[zd,AV.pu]) (.inl ⟨rfl,rfl,rfl⟩)
 ·refine⟨by omega,?_⟩
  refine qi [(0,90000000)] [.own 1 (qb xs)] [] [.rf 0 0 xs.length] rfl (by simp(disch:=omega)only[go_sem]) (by simp(disch:=omega)only[go_sem]) (by simp) (by intro _;simp[zd,AV.pu,Ob.pu,qS]) (.inr ⟨[],rfl,by rw[List.append_nil]⟩)
end Go.Ab
namespace Go.Ab
open Go Go.Proofs
theorem KP(x:Int):Con Tryz.prog 263 true [.v (.int .i64 x)] [] (isA (.v (.bool false))):=by
 refine Con.of_w (rs:=[.tmp 2]) Tryz.func263 rfl Tryz.ntmps263 rfl ?_
 simp(disch:=omega)only[go_sem]
 exact qy
theorem apD(x y:Int):Con Tryz.prog 209 true [.v (.int .i64 x),.v (.int .i64 y)] [] (isA (.v (.int .i64 (zg x y)))):=by
 refine Con.of_w (rs:=[.tmp 4]) Tryz.func209 rfl Tryz.ntmps209 rfl ?_
 simp(disch:=omega)only[go_sem]
 refine qe (KP x) ?_
 simp(disch:=omega)only[go_sem]
 refine qe (KP y) ?_
 simp(disch:=omega)only[go_sem]
 refine qg (fun h1=>?_) (fun h1=>?_)
 ·simp(disch:=omega)only[go_sem,h1]
  rw[show zg x y= -1 by simp[zg,h1]]
  exact qy
 ·simp(disch:=omega)only[go_sem,h1]
  refine qg (fun h2=>?_) (fun h2=>?_)
  ·simp(disch:=omega)only[go_sem,h2]
   rw[show zg x y=1 by simp[zg,h1,h2]]
   exact qy
  ·simp(disch:=omega)only[go_sem,h2]
   rw[show zg x y=0 by simp[zg,h1,h2]]
   exact qy
theorem zP(a b:Nat)(la:(lim a).length≤2^40)(lb:(lim b).length≤2^40):
  Con Tryz.prog 217 true [.sl (lim (a)).length (qb (lim (a))),.sl (lim (b)).length (qb (lim (b)))] [] (isA (.v (.int .i64 (zg a b)))):=by
 refine Con.of_w (rs:=[.tmp 4]) Tryz.func217 rfl Tryz.ntmps217 rfl ?_
 simp(disch:=omega)only[go_sem]
 refine zt (fun h1=>?_) (fun h1=>?_)
 ·simp(disch:=omega)only[go_sem,h1]
  refine qe (apD (lim a).length (lim b).length) ?_
  simp(disch:=omega)only[go_sem]
  have:zg ((lim a).length:Int) ((lim b).length:Int)=zg a b:=by
   unfold zg
   rcases(by omega:(lim a).length<(lim b).length∨(lim b).length<(lim a).length)with h|h
   ·have:=yZ h
    rw[if_pos (by omega),if_pos (by omega)]
   ·have:=yZ h
    rw[if_neg (by omega),if_pos (by omega),if_neg (by omega),if_pos (by omega)]
  rw[this]
  exact qy
 ·simp(disch:=omega)only[go_sem,h1]
  have hl:(lim a).length=(lim b).length:=by omega
  refine qj (fun k:Nat=>[(0,.sl (lim (a)).length (qb (lim (a)))),(1,.sl (lim (b)).length (qb (lim (b)))),(5,.v (.int .i64 ((k:Int)-1)))])
   (fun _=>[]) (fun k=>k≤(lim a).length∧(lim a).drop k=(lim b).drop k) (fun k=>k) (lim a).length ⟨Nat.le_refl _,by rw[List.drop_length,hl,List.drop_length]⟩ (Le.lst [] _ _ rfl (by simp(disch:=omega)only[go_sem];try omega) (by simp(disch:=omega)only[go_sem])) ?_
  rintro k ⟨hk,hd⟩
  simp(disch:=omega)only[go_sem]
  refine qg (fun h2=>?_) (fun h2=>?_)
  ·obtain⟨i,rfl⟩:∃i,k=i+1:=⟨k-1,by omega⟩
   have ei:((i+1:Nat):Int)-1=(i:Nat):=by omega
   simp(disch:=omega)only[go_sem,h2,ei]
   refine qp rfl [⟨0,[],[]⟩,⟨1,[],[]⟩,⟨2,[],[]⟩,⟨3,[],[]⟩,⟨4,[3],[]⟩,⟨5,[3],[]⟩,⟨6,[3],[]⟩,⟨7,[3],[]⟩,⟨8,[],[]⟩] (by kernel_rfl) ?_
   simp(disch:=omega)only[go_sem,ei]
   refine⟨by omega,by omega,by omega,by omega,?_⟩
   refine zt (fun h3=>?_) (fun h3=>?_)
   ·simp(disch:=omega)only[go_sem,h3]
    refine qp rfl [⟨0,[],[]⟩,⟨1,[],[]⟩,⟨2,[],[]⟩,⟨3,[],[]⟩,⟨4,[3],[]⟩,⟨5,[3],[]⟩,⟨6,[3],[]⟩,⟨7,[3],[]⟩,⟨8,[],[]⟩,⟨9,[],[]⟩] (by kernel_rfl) ?_
    simp(disch:=omega)only[go_sem,ei]
    refine⟨by omega,by omega,by omega,by omega,?_⟩
    refine qe (apD ((lim a).getD i 0) ((lim b).getD i 0)) ?_
    simp(disch:=omega)only[go_sem]
    have hva:=qZ a
    have hvb:=qZ b
    have:zg ((lim a).getD i 0) ((lim b).getD i 0)=zg a b:=by
     unfold zg
     rcases(by omega:(lim a).getD i 0<(lim b).getD i 0∨(lim b).getD i 0<(lim a).getD i 0)with h|h
     ·have:=QU (q4 a) (q4 b) (by omega) hl hd h
      rw[if_pos (by omega),if_pos (by omega)]
     ·have:=QU (q4 b) (q4 a) (by omega) hl.symm hd.symm h
      rw[if_neg (by omega),if_pos (by omega),if_neg (by omega),if_pos (by omega)]
    rw[this]
    exact qy
   ·simp(disch:=omega)only[go_sem,h3]
    refine qc i [] ⟨by omega,?_⟩ (by show i<i+1;omega) rfl (by simp(disch:=omega)only[go_sem];try omega) (by simp(disch:=omega)only[go_sem])
    rw[j8 (l:=lim a) (by omega),j8 (l:=lim b) (by omega),h3,hd]
  ·simp(disch:=omega)only[go_sem,h2]
   have:k=0:=by omega
   subst this
   rw[List.drop_zero,List.drop_zero]at hd
   have:=j1 hd
   subst this
   rw[show zg (a:Int) (a:Int)=0 by simp[zg]]
   exact qy
end Go.Ab
namespace Go.Proofs
open Go.Shelf
def Tryz.lays29_ren:Go.Shelf.Ren:=⟨fun|29=>300|n=>n,fun|0=>0|3=>3|4=>4|5=>5|22=>244|25=>132|54=>257|n=>n,fun|1=>1|n=>n⟩
theorem Tryz.lays29:Go.Proofs.Lays7.n29 Tryz.prog Tryz.lays29_ren:={
 mixed:=by kernel_rfl
 f29:=Tryz.func300.trans (congrArg some (by kernel_rfl))
 t0:=Tryz.underlying0
 a0:=Tryz.isAgg0
 z0:=Tryz.sizeOf0
 v0:=Tryz.zeroValue0
 i0:=by kernel_rfl
 t3:=Tryz.underlying3
 a3:=Tryz.isAgg3
 z3:=Tryz.sizeOf3
 v3:=Tryz.zeroValue3
 i3:=by kernel_rfl
 t4:=Tryz.underlying4
 a4:=Tryz.isAgg4
 z4:=Tryz.sizeOf4
 v4:=Tryz.zeroValue4
 i4:=by kernel_rfl
 t5:=Tryz.underlying5
 a5:=Tryz.isAgg5
 z5:=Tryz.sizeOf5
 v5:=Tryz.zeroValue5
 i5:=by kernel_rfl
 t22:=Tryz.underlying244
 a22:=Tryz.isAgg244
 z22:=Tryz.sizeOf244
 v22:=Tryz.zeroValue244
 i22:=by kernel_rfl
 t25:=Tryz.underlying132
 a25:=Tryz.isAgg132
 z25:=Tryz.sizeOf132
 v25:=Tryz.zeroValue132
 i25:=by kernel_rfl
 t54:=Tryz.underlying257
 a54:=Tryz.isAgg257
 z54:=Tryz.sizeOf257
 g1:=by kernel_rfl}
def Tryz.lays129_ren:Go.Shelf.Ren:=⟨fun|129=>289|n=>n,fun|53=>244|46=>132|3=>3|4=>4|5=>5|9=>9|n=>n,fun|n=>n⟩
theorem Tryz.lays129:Go.Proofs.Lays.n129 Tryz.prog Tryz.lays129_ren:={
 mixed:=by kernel_rfl
 f129:=Tryz.func289.trans (congrArg some (by kernel_rfl))
 t3:=Tryz.underlying3
 a3:=Tryz.isAgg3
 z3:=Tryz.sizeOf3
 v3:=Tryz.zeroValue3
 t4:=Tryz.underlying4
 a4:=Tryz.isAgg4
 z4:=Tryz.sizeOf4
 v4:=Tryz.zeroValue4
 t5:=Tryz.underlying5
 a5:=Tryz.isAgg5
 z5:=Tryz.sizeOf5
 v5:=Tryz.zeroValue5
 t9:=Tryz.underlying9
 a9:=Tryz.isAgg9
 z9:=Tryz.sizeOf9
 v9:=Tryz.zeroValue9
 t46:=Tryz.underlying132
 a46:=Tryz.isAgg132
 z46:=Tryz.sizeOf132
 v46:=Tryz.zeroValue132
 t53:=Tryz.underlying244
 a53:=Tryz.isAgg244
 z53:=Tryz.sizeOf244
 v53:=Tryz.zeroValue244}
end Go.Proofs
namespace Go.Ab
open Go Go.Proofs
theorem aRU(x:Nat)(h0:x≠0)(h:x<2^64):Lib.ctz 64 x=tz x:=by
 unfold Lib.ctz
 rw[if_neg h0]
 obtain⟨m,hm,_⟩:=Lib.ctzFrom_spec 64 x (by omega) h
 exact(Q5 hm).symm
theorem ap5(x:Nat)(h:x<2^64):Lib.bitLen x=bl x:=by
 induction x using Nat.strongRecOn with
 |_ x ih=>
  by_cases h0:x=0
  ·subst h0;rfl
  ·rw[Lib.bitLen_half x h0 h,ih (x/2) (by omega) (by omega),aDM h0,Nat.add_comm]
theorem aBE(x:Nat)(h0:x≠0)(h:x<2^64):Con Tryz.prog 300 true [.v (.int .u64 x)] [] (isA (.v (.int .i64 (tz x)))):=
 Con.scalar (xs:=[.int .u64 x]) fun w hg=>by
  rw[←aRU x h0 h]
  exact Any7.bits_TrailingZeros64 Tryz.lays29 x h w fun _ j hj=>(hg 1 Lib.deBruijn64tab rfl).2 j hj
theorem apj(x:Nat)(h:x<2^64):Con Tryz.prog 289 true [.v (.int .u64 x)] [] (isA (.v (.int .i64 (bl x)))):=
 Con.scalar (xs:=[.int .u64 x]) fun w hg=>by
  rw[←ap5 x h]
  exact Any.bits_Len64 Tryz.lays129 x w (by omega) (by omega)
theorem aR1(x:Nat)(h0:x≠0)(h:x<2^64):Con Tryz.prog 269 true [.v (.int .u64 x)] [] (isA (.v (.int .i64 (tz x)))):=by
 refine Con.of_w (rs:=[.tmp 2]) Tryz.func269 rfl Tryz.ntmps269 rfl ?_
 simp(disch:=omega)only[go_sem]
 refine qe (aBE x h0 h) ?_
 simp(disch:=omega)only[go_sem]
 exact qy
theorem apk(x:Nat)(h:x<2^64):Con Tryz.prog 255 true [.v (.int .u64 x)] [] (isA (.v (.int .i64 (bl x)))):=by
 refine Con.of_w (rs:=[.tmp 2]) Tryz.func255 rfl Tryz.ntmps255 rfl ?_
 simp(disch:=omega)only[go_sem]
 refine qe (apj x h) ?_
 simp(disch:=omega)only[go_sem]
 exact qy
theorem ajr{x:Int}(h1:0≤x)(h2:x<9223372036854775808):IntKind.u64.wrap x=x:=by
 simp only[IntKind.wrap,IntKind.signed,IntKind.bits]
 simp only[Bool.false_and,Bool.false_eq_true,if_false]
 omega
theorem ai1(m:Nat)(hl:(lim m).length≤2^40):Con Tryz.prog 196 true [.sl (lim (m)).length (qb (lim (m)))] [] (isA (.v (.int .i64 (bl m)))):=by
 refine Con.of_w (rs:=[.tmp 2]) Tryz.func196 rfl Tryz.ntmps196 rfl ?_
 simp(disch:=omega)only[go_sem]
 refine qg (fun h1=>?_) (fun h1=>?_)
 ·simp(disch:=omega)only[go_sem,h1]
  have:m=0:=qF.1 (List.length_eq_zero_iff.1 (by omega))
  subst this
  rw[yM]
  exact qy
 ·have hm:m≠0:=fun e=>by rw[e,qm]at h1;simp at h1
  have e1:((lim m).length:Int).toNat-1=(lim m).length-1:=by omega
  have e2:(((lim m).length:Int)-1).toNat=(lim m).length-1:=by omega
  have ht:=Zt hm
  have hb:=ap3 hm
  simp(disch:=omega)only[go_sem,h1,e2,zF]
  generalize m/65536^((lim m).length-1)=q at*
  have e3:((q % 65536:Nat):Int)=(q:Int):=by omega
  simp(disch:=omega)only[go_sem,e3,ajr]
  refine⟨by omega,by omega,?_⟩
  refine qe (apk q (by omega)) ?_
  simp(disch:=omega)only[go_sem]
  have hq:bl q≤16:=zq.2 (by omega)
  have e4:(16:Int)*(((lim m).length:Int)-1)+(bl q:Int)=(bl m:Int):=by omega
  simp(disch:=omega)only[go_sem,e4]
  exact qy
theorem aDV{m i:Nat}(hz:∀j,j<i→(lim m).getD j 0=0)(hx:(lim m).getD i 0≠0):tz m=16*i+tz (m/65536^i % 65536):=by
 rw[zF]at hx
 have hx':m/65536^i % 65536≠0:=fun e=>hx (by rw[e];rfl)
 obtain⟨a,ha⟩:=aab hx'
 have hlow:65536^i*(m/65536^i)=m:=by
  have key:∀k,k≤i→m % 65536^k=0:=by
   intro k
   induction k with
   |zero=>intro _;simp[Nat.mod_one]
   |succ k ih=>
    intro hk
    have h1:=ih (by omega)
    have h2:=hz k (by omega)
    rw[zF]at h2
    have h3:m/65536^k % 65536=0:=by omega
    rw[Nat.pow_succ,Nat.mod_mul,h1,h3];omega
  have:=Nat.div_add_mod m (65536^i)
  rw[key i (Nat.le_refl _)]at this
  omega
 generalize hq:m/65536^i=q at*
 have ht:tz (q % 65536)<16:=by
  have h1:=yO hx'
  have:bl (q % 65536)≤16:=zq.2 (by omega)
  omega
 generalize hk:tz (q % 65536)=k at*
 have e16:(65536:Nat)=2^k*(2*2^(15-k)):=by rw[Nat.mul_left_comm,←Nat.pow_add,show k+(15-k)=15 by omega]
 refine Q5 (a:=a+2^(15-k)*(q/65536)) ?_
 have hd:=Nat.div_add_mod q 65536
 rw[←hlow,Nat.pow_add,←Zm]
 have h5:q=2^k*(2*(a+2^(15-k)*(q/65536))+1):=by
  have:q=2^k*(2*2^(15-k))*(q/65536)+2^k*(2*a+1):=by rw[←e16,←ha];omega
  generalize q/65536=y at*
  generalize 2^(15-k)=z at*
  grind
 generalize q/65536=y at*
 rw[Nat.mul_assoc,←h5]
theorem ade(m:Nat)(hl:(lim m).length≤2^40):Con Tryz.prog 221 true [.sl (lim (m)).length (qb (lim (m)))] [] (isA (.v (.int .i64 (tz m)))):=by
 refine Con.of_w (rs:=[.tmp 2]) Tryz.func221 rfl Tryz.ntmps221 rfl ?_
 simp(disch:=omega)only[go_sem]
 refine qj (fun i:Nat=>[(0,.sl (lim (m)).length (qb (lim (m)))),(5,.sl (lim (m)).length (qb (lim (m)))),(6,.v (.int .i64 (lim m).length)),(7,.v (.int .i64 i))])
  (fun _=>[]) (fun i=>i≤(lim m).length∧∀j,j<i→(lim m).getD j 0=0) (fun i=>(lim m).length-i) 0 ⟨by omega,fun j hj=>by omega⟩ (Le.lst [] _ _ rfl (by simp(disch:=omega)only[go_sem];try omega) (by simp(disch:=omega)only[go_sem])) ?_
 rintro i ⟨hi,hz⟩
 simp(disch:=omega)only[go_sem]
 refine qg (fun h1=>?_) (fun h1=>?_)
 ·simp(disch:=omega)only[go_sem,h1]
  refine⟨by omega,by omega,zt (fun h2=>?_) (fun h2=>?_)⟩
  ·have ht:=aDV hz h2
   have hx:m/65536^i % 65536≠0:=fun e=>h2 (by rw[zF,e];rfl)
   have ht16:tz (m/65536^i % 65536)<16:=by
    have h1:=yO hx
    have:bl (m/65536^i % 65536)≤16:=zq.2 (by omega)
    omega
   simp(disch:=omega)only[go_sem,h2,zF]
   generalize hq:m/65536^i % 65536=q at*
   have hq6:q<65536:=by omega
   simp(disch:=omega)only[go_sem,ajr]
   refine qe (aR1 q hx (by omega)) ?_
   simp(disch:=omega)only[go_sem]
   have e4:(16:Int)*(i:Int)+(tz q:Int)=(tz m:Int):=by omega
   simp(disch:=omega)only[go_sem,e4]
   exact qy
  ·simp(disch:=omega)only[go_sem,h2]
   refine qc (i+1) [] ⟨by omega,fun j hj=>?_⟩ (by show(lim m).length-(i+1)<(lim m).length-i;omega) rfl (by simp(disch:=omega)only[go_sem];try omega) (by simp(disch:=omega)only[go_sem])
   rcases(by omega:j<i∨j=i)with h|h
   ·exact hz j h
   ·subst h;exact h2
 ·simp(disch:=omega)only[go_sem,h1]
  have hm:m=0:=by
   have:=qZ m
   have h3:lim m=List.replicate (lim m).length 0:=by
    apply List.ext_getElem
    ·simp
    ·intro j h1 h2
     have:=hz j (by omega)
     rw[List.getD_eq_getElem?_getD,List.getElem?_eq_getElem h1]at this
     simpa using this
   rw[h3,zE]at this
   omega
  subst hm
  rw[ajw]
  exact qy
theorem KY(m:Nat)(i:Int)(hl:(lim m).length≤2^40)(hi:0≤i)(hi2:i<2^62):Con Tryz.prog 142 true [.sl (lim (m)).length (qb (lim (m))),.v (.int .i64 i)] [] (isA (.v (.int .i64 ((m/2^i.toNat % 2:Nat):Int)))):=by
 refine Con.of_w (rs:=[.tmp 4]) Tryz.func142 rfl Tryz.ntmps142 rfl ?_
 obtain⟨k,rfl⟩:=Int.eq_ofNat_of_zero_le hi
 rw[Int.toNat_natCast]
 have h0:¬((k:Int)<0):=by omega
 have e16:((k:Int)/16).toNat=k/16:=by omega
 have em:min ((k:Int) % 16).toNat 64=k % 16:=by omega
 have hb:=ap4 m k
 simp(disch:=omega)only[go_sem,h0]
 refine qg (fun h1=>?_) (fun h1=>?_)
 ·simp(disch:=omega)only[go_sem,h1]
  have:m/2^k % 2=0:=by
   rw[←hb]
   have h2:=zF m (k/16)
   rw[List.getD_eq_getElem?_getD,List.getElem?_eq_none (by omega)]at h2
   have h3:m/65536^(k/16) % 65536=0:=by simp only[Option.getD_none]at h2;omega
   rw[h3];simp
  rw[this]
  exact qy
 ·have hx:=qH (q4 m) (k/16)
  have hp:(0:Int)<2^(k % 16):=Int.pow_pos (by omega)
  have efd:∀x:Int,x.fdiv (2^(k % 16))=x/2^(k % 16):=fun x=>Int.fdiv_eq_ediv_of_nonneg _ (Int.le_of_lt hp)
  have hq:0≤(lim m).getD (k/16) 0/2^(k % 16)∧(lim m).getD (k/16) 0/2^(k % 16)<65536:=by
   refine⟨Int.ediv_nonneg hx.1 (Int.le_of_lt hp),Int.lt_of_le_of_lt (Int.ediv_le_self _ hx.1) hx.2⟩
  have hr:(lim m).getD (k/16) 0/2^(k % 16) % 2=((m/2^k % 2:Nat):Int):=by
   rw[←hb,zF]
   generalize m/65536^(k/16) % 65536=x
   rw[Int.natCast_emod,Int.natCast_ediv,Int.natCast_pow];rfl
  simp(disch:=omega)only[go_sem,h1,e16,em,efd,hr]
  refine⟨by omega,by omega,by omega,?_⟩
  exact qy
end Go.Ab
namespace Go.Ab
open Go Go.Proofs
theorem aad(a k:Nat):(vl (lim a)*2^k).toNat=a*2^k:=by
 rw[qZ]
 have:((a:Int)*2^k)=((a*2^k:Nat):Int):=by rw[Int.natCast_mul,Int.natCast_pow];rfl
 rw[this,Int.toNat_natCast]
theorem aae(a k:Nat):(vl (lim a)/2^k).toNat=a/2^k:=by
 rw[qZ]
 have:((a:Int)/2^k)=((a/2^k:Nat):Int):=by rw[Int.natCast_ediv,Int.natCast_pow];rfl
 rw[this,Int.toNat_natCast]
theorem aDZ(a b:Nat):(vl (lim a)*vl (lim b)).toNat=a*b:=by rw[qZ,qZ,←Int.natCast_mul,Int.toNat_natCast]
theorem aD0(a b:Nat):(vl (lim a)+vl (lim b)).toNat=a+b:=by rw[qZ,qZ];omega
theorem aDY(a b:Nat):(vl (lim a)-vl (lim b)).toNat=a-b:=by rw[qZ,qZ];omega
theorem zp(n:Nat)(hn:n<2^63):Con Tryz.prog 189 false [.v (.int .i64 n)] [] (aIE (lim n)):=(apa false n hn).num
theorem ao7(cl:Bool)(a k:Nat)(la:(lim a).length≤1000000)(hk:k≤100000000):Con Tryz.prog 195 cl [.sl (lim (a)).length (qb (lim (a))),.v (.int .i64 k)] [] (aqu (lim (a*2^k))):=by
 have:=aR0 cl (lim a) k (q4 a) la hk
 rwa[aad]at this
theorem zI(a k:Nat)(la:(lim a).length≤1000000)(hk:k≤100000000):Con Tryz.prog 195 false [.sl (lim (a)).length (qb (lim (a))),.v (.int .i64 k)] [] (aIE (lim (a*2^k))):=(ao7 false a k la hk).num
theorem KT(cl:Bool)(a k:Nat)(la:(lim a).length≤1000000)(hk:k≤100000000):Con Tryz.prog 216 cl [.sl (lim (a)).length (qb (lim (a))),.v (.int .i64 k)] [] (aqu (lim (a/2^k))):=by
 have:=aBO cl (lim a) k (q4 a) la hk
 rwa[aae]at this
theorem apB(a k:Nat)(la:(lim a).length≤1000000)(hk:k≤100000000):Con Tryz.prog 216 false [.sl (lim (a)).length (qb (lim (a))),.v (.int .i64 k)] [] (aIE (lim (a/2^k))):=(KT false a k la hk).num
theorem Jt(a b:Nat)(la:(lim a).length≤1000000)(lb:(lim b).length≤1000000):Con Tryz.prog 218 false [.sl (lim (a)).length (qb (lim (a))),.sl (lim (b)).length (qb (lim (b)))] [] (aIE (lim (a*b))):=by
 have:=(ao8 false (lim a) (lim b) (q4 a) (q4 b) la lb).num
 rwa[aDZ]at this
theorem KH(a b:Nat)(la:(lim a).length≤2000000)(lb:(lim b).length≤2000000):Con Tryz.prog 219 false [.sl (lim (a)).length (qb (lim (a))),.sl (lim (b)).length (qb (lim (b)))] [] (aIE (lim (a+b))):=by
 have:=(aBF false (lim a) (lim b) (q4 a) (q4 b) la lb).num
 rwa[aD0]at this
theorem apC(a d:Nat)(la:(lim a).length≤1000000)(hd:0<d)(hd2:d<65536):
  Con Tryz.prog 295 false [.sl (lim (a)).length (qb (lim (a))),.v (.int .i64 d)] [] (isA (.tu [.sl (lim (a/d)).length (qb (lim (a/d))),.v (.int .i64 ((a % d:Nat):Int))])):=
 Con.frzA <| (aBP false (lim a) d (q4 a) la hd hd2).mono fun r hs bs ⟨zs,h1,h2⟩=>by
  rw[qZ]at h1 h2
  rw[h1,h2]
  have e:((a:Int)/(d:Int)).toNat=a/d:=by
   rw[←Int.natCast_ediv,Int.toNat_natCast]
  rw[e]
  show qE _ 6 _=_
  unfold qE
  simp only[List.map_cons,List.map_nil]
  rw[jJ (k:=3) (l:=lim (a/d)) (zs:=zs) ze rfl]
  rw[Int.natCast_emod];rfl
end Go.Ab
