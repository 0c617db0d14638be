/- What the proof of this claim stands on: the walks of the functions and the plain laws, part 4. -/
import Derived.Test.YtjkhfpjccemboaaGreatDoorFnFlDivsLib3
import Derived.Test.YtjkhfpjccemboaaGreatDoorProg
import Derived.KernelRfl
namespace Go.Ab
open Go Go.Proofs
def ti1 : TI := ⟨Kd.oth, 1, 8, Value.nilFunc⟩
theorem tf1 : tyOf Tryz.prog 1 = some ti1 := by kernel_rfl
def ti2 : TI := ⟨Kd.int IntKind.i64, 1, 8, Value.int IntKind.i64 0⟩
theorem tf2 : tyOf Tryz.prog 2 = some ti2 := by kernel_rfl
def ti3 : TI := ⟨Kd.int IntKind.i64, 1, 8, Value.int IntKind.i64 0⟩
theorem tf3 : tyOf Tryz.prog 3 = some ti3 := by kernel_rfl
def ti4 : TI := ⟨Kd.bool, 1, 1, Value.bool false⟩
theorem tf4 : tyOf Tryz.prog 4 = some ti4 := by kernel_rfl
def ti5 : TI := ⟨Kd.int IntKind.u8, 1, 1, Value.int IntKind.u8 0⟩
theorem tf5 : tyOf Tryz.prog 5 = some ti5 := by kernel_rfl
def ti6 : TI := ⟨Kd.int IntKind.u8, 1, 1, Value.int IntKind.u8 0⟩
theorem tf6 : tyOf Tryz.prog 6 = some ti6 := by kernel_rfl
def ti7 : TI := ⟨Kd.stru [(0, 2), (1, 3), (2, 4), (3, 6)], 4, 24, Value.agg ⟨[Value.int IntKind.i64 0, Value.int IntKind.i64 0, Value.bool false, Value.int IntKind.u8 0]⟩⟩
theorem tf7 : tyOf Tryz.prog 7 = some ti7 := by kernel_rfl
def ti8 : TI := ⟨Kd.stru [(0, 2), (1, 3), (2, 4), (3, 6)], 4, 24, Value.agg ⟨[Value.int IntKind.i64 0, Value.int IntKind.i64 0, Value.bool false, Value.int IntKind.u8 0]⟩⟩
theorem tf8 : tyOf Tryz.prog 8 = some ti8 := by kernel_rfl
def ti9 : TI := ⟨Kd.str, 1, 16, Value.string { data := ⟨[]⟩ }⟩
theorem tf9 : tyOf Tryz.prog 9 = some ti9 := by kernel_rfl
def ti10 : TI := ⟨Kd.str, 1, 16, Value.string { data := ⟨[]⟩ }⟩
theorem tf10 : tyOf Tryz.prog 10 = some ti10 := by kernel_rfl
def ti11 : TI := ⟨Kd.str, 1, 16, Value.string { data := ⟨[]⟩ }⟩
theorem tf11 : tyOf Tryz.prog 11 = some ti11 := by kernel_rfl
def ti12 : TI := ⟨Kd.int IntKind.u64, 1, 8, Value.int IntKind.u64 0⟩
theorem tf12 : tyOf Tryz.prog 12 = some ti12 := by kernel_rfl
def ti21 : TI := ⟨Kd.int IntKind.i32, 1, 4, Value.int IntKind.i32 0⟩
theorem tf21 : tyOf Tryz.prog 21 = some ti21 := by kernel_rfl
def ti22 : TI := ⟨Kd.sli 5, 1, 24, Value.slice none 0 0⟩
theorem tf22 : tyOf Tryz.prog 22 = some ti22 := by kernel_rfl
def ti23 : TI := ⟨Kd.sli 3, 1, 24, Value.slice none 0 0⟩
theorem tf23 : tyOf Tryz.prog 23 = some ti23 := by kernel_rfl
def ti24 : TI := ⟨Kd.stru [(0, 23)], 1, 24, Value.agg ⟨[Value.slice none 0 0]⟩⟩
theorem tf24 : tyOf Tryz.prog 24 = some ti24 := by kernel_rfl
def ti25 : TI := ⟨Kd.stru [(0, 23)], 1, 24, Value.agg ⟨[Value.slice none 0 0]⟩⟩
theorem tf25 : tyOf Tryz.prog 25 = some ti25 := by kernel_rfl
def ti26 : TI := ⟨Kd.stru [(0, 4), (1, 25)], 2, 32, Value.agg ⟨[Value.bool false, Value.slice none 0 0]⟩⟩
theorem tf26 : tyOf Tryz.prog 26 = some ti26 := by kernel_rfl
def ti27 : TI := ⟨Kd.stru [(0, 4), (1, 25)], 2, 32, Value.agg ⟨[Value.bool false, Value.slice none 0 0]⟩⟩
theorem tf27 : tyOf Tryz.prog 27 = some ti27 := by kernel_rfl
def ti28 : TI := ⟨Kd.stru [(0, 27), (2, 3)], 3, 40, Value.agg ⟨[Value.bool false, Value.slice none 0 0, Value.int IntKind.i64 0]⟩⟩
theorem tf28 : tyOf Tryz.prog 28 = some ti28 := by kernel_rfl
def ti29 : TI := ⟨Kd.stru [(0, 27), (2, 3)], 3, 40, Value.agg ⟨[Value.bool false, Value.slice none 0 0, Value.int IntKind.i64 0]⟩⟩
theorem tf29 : tyOf Tryz.prog 29 = some ti29 := by kernel_rfl
def ti31 : TI := ⟨Kd.oth, 1, 8, Value.nilFunc⟩
theorem tf31 : tyOf Tryz.prog 31 = some ti31 := by kernel_rfl
def ti33 : TI := ⟨Kd.oth, 1, 8, Value.nilFunc⟩
theorem tf33 : tyOf Tryz.prog 33 = some ti33 := by kernel_rfl
def ti34 : TI := ⟨Kd.oth, 1, 8, Value.nilFunc⟩
theorem tf34 : tyOf Tryz.prog 34 = some ti34 := by kernel_rfl
def ti35 : TI := ⟨Kd.oth, 1, 8, Value.nilFunc⟩
theorem tf35 : tyOf Tryz.prog 35 = some ti35 := by kernel_rfl
def ti36 : TI := ⟨Kd.oth, 1, 8, Value.nilFunc⟩
theorem tf36 : tyOf Tryz.prog 36 = some ti36 := by kernel_rfl
def ti37 : TI := ⟨Kd.oth, 1, 8, Value.nilFunc⟩
theorem tf37 : tyOf Tryz.prog 37 = some ti37 := by kernel_rfl
def ti38 : TI := ⟨Kd.oth, 1, 8, Value.nilFunc⟩
theorem tf38 : tyOf Tryz.prog 38 = some ti38 := by kernel_rfl
def ti39 : TI := ⟨Kd.oth, 1, 8, Value.nilFunc⟩
theorem tf39 : tyOf Tryz.prog 39 = some ti39 := by kernel_rfl
def ti40 : TI := ⟨Kd.sli 29, 1, 24, Value.slice none 0 0⟩
theorem tf40 : tyOf Tryz.prog 40 = some ti40 := by kernel_rfl
def ti41 : TI := ⟨Kd.stru [(0, 3), (1, 40)], 2, 32, Value.agg ⟨[Value.int IntKind.i64 0, Value.slice none 0 0]⟩⟩
theorem tf41 : tyOf Tryz.prog 41 = some ti41 := by kernel_rfl
def ti42 : TI := ⟨Kd.stru [(0, 3), (1, 40)], 2, 32, Value.agg ⟨[Value.int IntKind.i64 0, Value.slice none 0 0]⟩⟩
theorem tf42 : tyOf Tryz.prog 42 = some ti42 := by kernel_rfl
def ti44 : TI := ⟨Kd.oth, 1, 8, Value.nilFunc⟩
theorem tf44 : tyOf Tryz.prog 44 = some ti44 := by kernel_rfl
def ti45 : TI := ⟨Kd.oth, 1, 8, Value.nilFunc⟩
theorem tf45 : tyOf Tryz.prog 45 = some ti45 := by kernel_rfl
def ti47 : TI := ⟨Kd.oth, 1, 8, Value.nilFunc⟩
theorem tf47 : tyOf Tryz.prog 47 = some ti47 := by kernel_rfl
def ti48 : TI := ⟨Kd.oth, 1, 8, Value.nilFunc⟩
theorem tf48 : tyOf Tryz.prog 48 = some ti48 := by kernel_rfl
def ti49 : TI := ⟨Kd.stru [(0, 29), (3, 29)], 6, 80, Value.agg ⟨[Value.bool false, Value.slice none 0 0, Value.int IntKind.i64 0, Value.bool false, Value.slice none 0 0, Value.int IntKind.i64 0]⟩⟩
theorem tf49 : tyOf Tryz.prog 49 = some ti49 := by kernel_rfl
def ti50 : TI := ⟨Kd.stru [(0, 29), (3, 29)], 6, 80, Value.agg ⟨[Value.bool false, Value.slice none 0 0, Value.int IntKind.i64 0, Value.bool false, Value.slice none 0 0, Value.int IntKind.i64 0]⟩⟩
theorem tf50 : tyOf Tryz.prog 50 = some ti50 := by kernel_rfl
def ti52 : TI := ⟨Kd.oth, 1, 8, Value.nilFunc⟩
theorem tf52 : tyOf Tryz.prog 52 = some ti52 := by kernel_rfl
def ti54 : TI := ⟨Kd.oth, 1, 8, Value.nilFunc⟩
theorem tf54 : tyOf Tryz.prog 54 = some ti54 := by kernel_rfl
def ti55 : TI := ⟨Kd.oth, 1, 8, Value.nilFunc⟩
theorem tf55 : tyOf Tryz.prog 55 = some ti55 := by kernel_rfl
def ti56 : TI := ⟨Kd.oth, 1, 8, Value.nilFunc⟩
theorem tf56 : tyOf Tryz.prog 56 = some ti56 := by kernel_rfl
def ti57 : TI := ⟨Kd.oth, 1, 8, Value.nilFunc⟩
theorem tf57 : tyOf Tryz.prog 57 = some ti57 := by kernel_rfl
def ti58 : TI := ⟨Kd.oth, 1, 8, Value.nilFunc⟩
theorem tf58 : tyOf Tryz.prog 58 = some ti58 := by kernel_rfl
def ti59 : TI := ⟨Kd.oth, 1, 8, Value.nilFunc⟩
theorem tf59 : tyOf Tryz.prog 59 = some ti59 := by kernel_rfl
def ti60 : TI := ⟨Kd.oth, 1, 8, Value.nilFunc⟩
theorem tf60 : tyOf Tryz.prog 60 = some ti60 := by kernel_rfl
def ti61 : TI := ⟨Kd.oth, 1, 8, Value.nilFunc⟩
theorem tf61 : tyOf Tryz.prog 61 = some ti61 := by kernel_rfl
def ti62 : TI := ⟨Kd.stru [(0, 3), (1, 4), (2, 3), (3, 3)], 4, 32, Value.agg ⟨[Value.int IntKind.i64 0, Value.bool false, Value.int IntKind.i64 0, Value.int IntKind.i64 0]⟩⟩
theorem tf62 : tyOf Tryz.prog 62 = some ti62 := by kernel_rfl
def ti63 : TI := ⟨Kd.stru [(0, 3), (1, 4), (2, 3), (3, 3)], 4, 32, Value.agg ⟨[Value.int IntKind.i64 0, Value.bool false, Value.int IntKind.i64 0, Value.int IntKind.i64 0]⟩⟩
theorem tf63 : tyOf Tryz.prog 63 = some ti63 := by kernel_rfl
def ti65 : TI := ⟨Kd.oth, 1, 8, Value.nilFunc⟩
theorem tf65 : tyOf Tryz.prog 65 = some ti65 := by kernel_rfl
def ti67 : TI := ⟨Kd.oth, 1, 8, Value.nilFunc⟩
theorem tf67 : tyOf Tryz.prog 67 = some ti67 := by kernel_rfl
def ti68 : TI := ⟨Kd.oth, 1, 8, Value.nilFunc⟩
theorem tf68 : tyOf Tryz.prog 68 = some ti68 := by kernel_rfl
def ti69 : TI := ⟨Kd.oth, 1, 8, Value.nilFunc⟩
theorem tf69 : tyOf Tryz.prog 69 = some ti69 := by kernel_rfl
def ti70 : TI := ⟨Kd.oth, 1, 8, Value.nilFunc⟩
theorem tf70 : tyOf Tryz.prog 70 = some ti70 := by kernel_rfl
def ti71 : TI := ⟨Kd.oth, 1, 8, Value.nilFunc⟩
theorem tf71 : tyOf Tryz.prog 71 = some ti71 := by kernel_rfl
def ti72 : TI := ⟨Kd.oth, 1, 8, Value.nilFunc⟩
theorem tf72 : tyOf Tryz.prog 72 = some ti72 := by kernel_rfl
def ti74 : TI := ⟨Kd.oth, 1, 8, Value.nilFunc⟩
theorem tf74 : tyOf Tryz.prog 74 = some ti74 := by kernel_rfl
def ti76 : TI := ⟨Kd.oth, 1, 8, Value.nilFunc⟩
theorem tf76 : tyOf Tryz.prog 76 = some ti76 := by kernel_rfl
def ti77 : TI := ⟨Kd.oth, 1, 8, Value.nilFunc⟩
theorem tf77 : tyOf Tryz.prog 77 = some ti77 := by kernel_rfl
def ti79 : TI := ⟨Kd.oth, 1, 8, Value.nilFunc⟩
theorem tf79 : tyOf Tryz.prog 79 = some ti79 := by kernel_rfl
def ti80 : TI := ⟨Kd.oth, 1, 8, Value.nilFunc⟩
theorem tf80 : tyOf Tryz.prog 80 = some ti80 := by kernel_rfl
def ti82 : TI := ⟨Kd.oth, 1, 8, Value.nilFunc⟩
theorem tf82 : tyOf Tryz.prog 82 = some ti82 := by kernel_rfl
def ti83 : TI := ⟨Kd.oth, 1, 8, Value.nilFunc⟩
theorem tf83 : tyOf Tryz.prog 83 = some ti83 := by kernel_rfl
def ti84 : TI := ⟨Kd.oth, 1, 8, Value.nilFunc⟩
theorem tf84 : tyOf Tryz.prog 84 = some ti84 := by kernel_rfl
def ti85 : TI := ⟨Kd.oth, 1, 8, Value.nilFunc⟩
theorem tf85 : tyOf Tryz.prog 85 = some ti85 := by kernel_rfl
def ti86 : TI := ⟨Kd.oth, 1, 8, Value.nilFunc⟩
theorem tf86 : tyOf Tryz.prog 86 = some ti86 := by kernel_rfl
def ti87 : TI := ⟨Kd.oth, 1, 8, Value.nilFunc⟩
theorem tf87 : tyOf Tryz.prog 87 = some ti87 := by kernel_rfl
def ti88 : TI := ⟨Kd.oth, 1, 8, Value.nilFunc⟩
theorem tf88 : tyOf Tryz.prog 88 = some ti88 := by kernel_rfl
def ti89 : TI := ⟨Kd.stru [(0, 4), (1, 23), (2, 3)], 3, 40, Value.agg ⟨[Value.bool false, Value.slice none 0 0, Value.int IntKind.i64 0]⟩⟩
theorem tf89 : tyOf Tryz.prog 89 = some ti89 := by kernel_rfl
def ti90 : TI := ⟨Kd.stru [(0, 4), (1, 23), (2, 3)], 3, 40, Value.agg ⟨[Value.bool false, Value.slice none 0 0, Value.int IntKind.i64 0]⟩⟩
theorem tf90 : tyOf Tryz.prog 90 = some ti90 := by kernel_rfl
def ti92 : TI := ⟨Kd.oth, 1, 8, Value.nilFunc⟩
theorem tf92 : tyOf Tryz.prog 92 = some ti92 := by kernel_rfl
def ti93 : TI := ⟨Kd.oth, 1, 8, Value.nilFunc⟩
theorem tf93 : tyOf Tryz.prog 93 = some ti93 := by kernel_rfl
def ti94 : TI := ⟨Kd.oth, 1, 8, Value.nilFunc⟩
theorem tf94 : tyOf Tryz.prog 94 = some ti94 := by kernel_rfl
def ti95 : TI := ⟨Kd.oth, 1, 8, Value.nilFunc⟩
theorem tf95 : tyOf Tryz.prog 95 = some ti95 := by kernel_rfl
def ti97 : TI := ⟨Kd.oth, 1, 8, Value.nilFunc⟩
theorem tf97 : tyOf Tryz.prog 97 = some ti97 := by kernel_rfl
def ti98 : TI := ⟨Kd.oth, 1, 8, Value.nilFunc⟩
theorem tf98 : tyOf Tryz.prog 98 = some ti98 := by kernel_rfl
def ti99 : TI := ⟨Kd.oth, 1, 8, Value.nilFunc⟩
theorem tf99 : tyOf Tryz.prog 99 = some ti99 := by kernel_rfl
def ti100 : TI := ⟨Kd.sli 90, 1, 24, Value.slice none 0 0⟩
theorem tf100 : tyOf Tryz.prog 100 = some ti100 := by kernel_rfl
def ti101 : TI := ⟨Kd.stru [(0, 3), (1, 100)], 2, 32, Value.agg ⟨[Value.int IntKind.i64 0, Value.slice none 0 0]⟩⟩
theorem tf101 : tyOf Tryz.prog 101 = some ti101 := by kernel_rfl
def ti102 : TI := ⟨Kd.stru [(0, 3), (1, 100)], 2, 32, Value.agg ⟨[Value.int IntKind.i64 0, Value.slice none 0 0]⟩⟩
theorem tf102 : tyOf Tryz.prog 102 = some ti102 := by kernel_rfl
def ti103 : TI := ⟨Kd.oth, 1, 8, Value.nilFunc⟩
theorem tf103 : tyOf Tryz.prog 103 = some ti103 := by kernel_rfl
def ti104 : TI := ⟨Kd.oth, 1, 8, Value.nilFunc⟩
theorem tf104 : tyOf Tryz.prog 104 = some ti104 := by kernel_rfl
def ti105 : TI := ⟨Kd.oth, 1, 8, Value.nilFunc⟩
theorem tf105 : tyOf Tryz.prog 105 = some ti105 := by kernel_rfl
def ti106 : TI := ⟨Kd.oth, 1, 8, Value.nilFunc⟩
theorem tf106 : tyOf Tryz.prog 106 = some ti106 := by kernel_rfl
def ti107 : TI := ⟨Kd.oth, 1, 8, Value.nilFunc⟩
theorem tf107 : tyOf Tryz.prog 107 = some ti107 := by kernel_rfl
def ti108 : TI := ⟨Kd.oth, 1, 8, Value.nilFunc⟩
theorem tf108 : tyOf Tryz.prog 108 = some ti108 := by kernel_rfl
def ti109 : TI := ⟨Kd.oth, 1, 8, Value.nilFunc⟩
theorem tf109 : tyOf Tryz.prog 109 = some ti109 := by kernel_rfl
def ti110 : TI := ⟨Kd.stru [(0, 90), (3, 90)], 6, 80, Value.agg ⟨[Value.bool false, Value.slice none 0 0, Value.int IntKind.i64 0, Value.bool false, Value.slice none 0 0, Value.int IntKind.i64 0]⟩⟩
theorem tf110 : tyOf Tryz.prog 110 = some ti110 := by kernel_rfl
def ti111 : TI := ⟨Kd.stru [(0, 90), (3, 90)], 6, 80, Value.agg ⟨[Value.bool false, Value.slice none 0 0, Value.int IntKind.i64 0, Value.bool false, Value.slice none 0 0, Value.int IntKind.i64 0]⟩⟩
theorem tf111 : tyOf Tryz.prog 111 = some ti111 := by kernel_rfl
def ti113 : TI := ⟨Kd.oth, 1, 8, Value.nilFunc⟩
theorem tf113 : tyOf Tryz.prog 113 = some ti113 := by kernel_rfl
def ti114 : TI := ⟨Kd.oth, 1, 8, Value.nilFunc⟩
theorem tf114 : tyOf Tryz.prog 114 = some ti114 := by kernel_rfl
def ti115 : TI := ⟨Kd.oth, 1, 8, Value.nilFunc⟩
theorem tf115 : tyOf Tryz.prog 115 = some ti115 := by kernel_rfl
def ti116 : TI := ⟨Kd.oth, 1, 8, Value.nilFunc⟩
theorem tf116 : tyOf Tryz.prog 116 = some ti116 := by kernel_rfl
def ti117 : TI := ⟨Kd.oth, 1, 8, Value.nilFunc⟩
theorem tf117 : tyOf Tryz.prog 117 = some ti117 := by kernel_rfl
def ti118 : TI := ⟨Kd.oth, 1, 8, Value.nilFunc⟩
theorem tf118 : tyOf Tryz.prog 118 = some ti118 := by kernel_rfl
def ti119 : TI := ⟨Kd.oth, 1, 8, Value.nilFunc⟩
theorem tf119 : tyOf Tryz.prog 119 = some ti119 := by kernel_rfl
def ti120 : TI := ⟨Kd.oth, 1, 8, Value.nilFunc⟩
theorem tf120 : tyOf Tryz.prog 120 = some ti120 := by kernel_rfl
def ti121 : TI := ⟨Kd.oth, 1, 8, Value.nilFunc⟩
theorem tf121 : tyOf Tryz.prog 121 = some ti121 := by kernel_rfl
def ti122 : TI := ⟨Kd.oth, 1, 8, Value.nilFunc⟩
theorem tf122 : tyOf Tryz.prog 122 = some ti122 := by kernel_rfl
def ti123 : TI := ⟨Kd.oth, 1, 8, Value.nilFunc⟩
theorem tf123 : tyOf Tryz.prog 123 = some ti123 := by kernel_rfl
def ti124 : TI := ⟨Kd.oth, 1, 8, Value.nilFunc⟩
theorem tf124 : tyOf Tryz.prog 124 = some ti124 := by kernel_rfl
def ti125 : TI := ⟨Kd.oth, 1, 8, Value.nilFunc⟩
theorem tf125 : tyOf Tryz.prog 125 = some ti125 := by kernel_rfl
def ti126 : TI := ⟨Kd.oth, 1, 8, Value.nilFunc⟩
theorem tf126 : tyOf Tryz.prog 126 = some ti126 := by kernel_rfl
def ti127 : TI := ⟨Kd.oth, 1, 8, Value.nilFunc⟩
theorem tf127 : tyOf Tryz.prog 127 = some ti127 := by kernel_rfl
def ti128 : TI := ⟨Kd.oth, 1, 8, Value.nilFunc⟩
theorem tf128 : tyOf Tryz.prog 128 = some ti128 := by kernel_rfl
def ti129 : TI := ⟨Kd.oth, 1, 8, Value.nilFunc⟩
theorem tf129 : tyOf Tryz.prog 129 = some ti129 := by kernel_rfl
def ti130 : TI := ⟨Kd.oth, 1, 8, Value.nilFunc⟩
theorem tf130 : tyOf Tryz.prog 130 = some ti130 := by kernel_rfl
def ti131 : TI := ⟨Kd.oth, 1, 8, Value.nilFunc⟩
theorem tf131 : tyOf Tryz.prog 131 = some ti131 := by kernel_rfl
def ti132 : TI := ⟨Kd.int IntKind.u64, 1, 8, Value.int IntKind.u64 0⟩
theorem tf132 : tyOf Tryz.prog 132 = some ti132 := by kernel_rfl
def ti133 : TI := ⟨Kd.oth, 1, 8, Value.nilFunc⟩
theorem tf133 : tyOf Tryz.prog 133 = some ti133 := by kernel_rfl
def ti135 : TI := ⟨Kd.oth, 1, 8, Value.nilFunc⟩
theorem tf135 : tyOf Tryz.prog 135 = some ti135 := by kernel_rfl
def ti136 : TI := ⟨Kd.oth, 1, 8, Value.nilFunc⟩
theorem tf136 : tyOf Tryz.prog 136 = some ti136 := by kernel_rfl
def ti137 : TI := ⟨Kd.oth, 1, 8, Value.nilFunc⟩
theorem tf137 : tyOf Tryz.prog 137 = some ti137 := by kernel_rfl
def ti138 : TI := ⟨Kd.oth, 1, 8, Value.nilFunc⟩
theorem tf138 : tyOf Tryz.prog 138 = some ti138 := by kernel_rfl
def ti139 : TI := ⟨Kd.oth, 1, 8, Value.nilFunc⟩
theorem tf139 : tyOf Tryz.prog 139 = some ti139 := by kernel_rfl
def ti140 : TI := ⟨Kd.oth, 1, 8, Value.nilFunc⟩
theorem tf140 : tyOf Tryz.prog 140 = some ti140 := by kernel_rfl
def ti141 : TI := ⟨Kd.oth, 1, 8, Value.nilFunc⟩
theorem tf141 : tyOf Tryz.prog 141 = some ti141 := by kernel_rfl
def ti142 : TI := ⟨Kd.stru [(0, 22), (1, 3), (2, 3)], 3, 40, Value.agg ⟨[Value.slice none 0 0, Value.int IntKind.i64 0, Value.int IntKind.i64 0]⟩⟩
theorem tf142 : tyOf Tryz.prog 142 = some ti142 := by kernel_rfl
def ti143 : TI := ⟨Kd.stru [(0, 22), (1, 3), (2, 3)], 3, 40, Value.agg ⟨[Value.slice none 0 0, Value.int IntKind.i64 0, Value.int IntKind.i64 0]⟩⟩
theorem tf143 : tyOf Tryz.prog 143 = some ti143 := by kernel_rfl
def ti144 : TI := ⟨Kd.oth, 1, 8, Value.nilFunc⟩
theorem tf144 : tyOf Tryz.prog 144 = some ti144 := by kernel_rfl
def ti145 : TI := ⟨Kd.oth, 1, 8, Value.nilFunc⟩
theorem tf145 : tyOf Tryz.prog 145 = some ti145 := by kernel_rfl
def ti146 : TI := ⟨Kd.oth, 1, 8, Value.nilFunc⟩
theorem tf146 : tyOf Tryz.prog 146 = some ti146 := by kernel_rfl
def ti147 : TI := ⟨Kd.oth, 1, 8, Value.nilFunc⟩
theorem tf147 : tyOf Tryz.prog 147 = some ti147 := by kernel_rfl
def ti148 : TI := ⟨Kd.oth, 1, 8, Value.nilFunc⟩
theorem tf148 : tyOf Tryz.prog 148 = some ti148 := by kernel_rfl
def ti150 : TI := ⟨Kd.oth, 1, 8, Value.nilFunc⟩
theorem tf150 : tyOf Tryz.prog 150 = some ti150 := by kernel_rfl
def ti152 : TI := ⟨Kd.oth, 1, 8, Value.nilFunc⟩
theorem tf152 : tyOf Tryz.prog 152 = some ti152 := by kernel_rfl
def ti153 : TI := ⟨Kd.oth, 1, 8, Value.nilFunc⟩
theorem tf153 : tyOf Tryz.prog 153 = some ti153 := by kernel_rfl
def ti154 : TI := ⟨Kd.oth, 1, 8, Value.nilFunc⟩
theorem tf154 : tyOf Tryz.prog 154 = some ti154 := by kernel_rfl
def ti155 : TI := ⟨Kd.sli 111, 1, 24, Value.slice none 0 0⟩
theorem tf155 : tyOf Tryz.prog 155 = some ti155 := by kernel_rfl
def ti156 : TI := ⟨Kd.stru [(0, 3), (1, 155)], 2, 32, Value.agg ⟨[Value.int IntKind.i64 0, Value.slice none 0 0]⟩⟩
theorem tf156 : tyOf Tryz.prog 156 = some ti156 := by kernel_rfl
def ti157 : TI := ⟨Kd.stru [(0, 3), (1, 155)], 2, 32, Value.agg ⟨[Value.int IntKind.i64 0, Value.slice none 0 0]⟩⟩
theorem tf157 : tyOf Tryz.prog 157 = some ti157 := by kernel_rfl
def ti158 : TI := ⟨Kd.oth, 1, 8, Value.nilFunc⟩
theorem tf158 : tyOf Tryz.prog 158 = some ti158 := by kernel_rfl
def ti159 : TI := ⟨Kd.sli 50, 1, 24, Value.slice none 0 0⟩
theorem tf159 : tyOf Tryz.prog 159 = some ti159 := by kernel_rfl
def ti160 : TI := ⟨Kd.stru [(0, 3), (1, 159)], 2, 32, Value.agg ⟨[Value.int IntKind.i64 0, Value.slice none 0 0]⟩⟩
theorem tf160 : tyOf Tryz.prog 160 = some ti160 := by kernel_rfl
def ti161 : TI := ⟨Kd.stru [(0, 3), (1, 159)], 2, 32, Value.agg ⟨[Value.int IntKind.i64 0, Value.slice none 0 0]⟩⟩
theorem tf161 : tyOf Tryz.prog 161 = some ti161 := by kernel_rfl
def ti163 : TI := ⟨Kd.oth, 1, 8, Value.nilFunc⟩
theorem tf163 : tyOf Tryz.prog 163 = some ti163 := by kernel_rfl
def ti164 : TI := ⟨Kd.oth, 1, 8, Value.nilFunc⟩
theorem tf164 : tyOf Tryz.prog 164 = some ti164 := by kernel_rfl
def ti165 : TI := ⟨Kd.oth, 1, 8, Value.nilFunc⟩
theorem tf165 : tyOf Tryz.prog 165 = some ti165 := by kernel_rfl
def ti166 : TI := ⟨Kd.oth, 1, 8, Value.nilFunc⟩
theorem tf166 : tyOf Tryz.prog 166 = some ti166 := by kernel_rfl
def ti167 : TI := ⟨Kd.oth, 1, 8, Value.nilFunc⟩
theorem tf167 : tyOf Tryz.prog 167 = some ti167 := by kernel_rfl
def ti169 : TI := ⟨Kd.oth, 1, 8, Value.nilFunc⟩
theorem tf169 : tyOf Tryz.prog 169 = some ti169 := by kernel_rfl
def ti170 : TI := ⟨Kd.oth, 1, 8, Value.nilFunc⟩
theorem tf170 : tyOf Tryz.prog 170 = some ti170 := by kernel_rfl
def ti171 : TI := ⟨Kd.oth, 1, 8, Value.nilFunc⟩
theorem tf171 : tyOf Tryz.prog 171 = some ti171 := by kernel_rfl
def ti172 : TI := ⟨Kd.oth, 1, 8, Value.nilFunc⟩
theorem tf172 : tyOf Tryz.prog 172 = some ti172 := by kernel_rfl
def ti173 : TI := ⟨Kd.oth, 1, 8, Value.nilFunc⟩
theorem tf173 : tyOf Tryz.prog 173 = some ti173 := by kernel_rfl
def ti174 : TI := ⟨Kd.oth, 1, 8, Value.nilFunc⟩
theorem tf174 : tyOf Tryz.prog 174 = some ti174 := by kernel_rfl
def ti176 : TI := ⟨Kd.oth, 1, 8, Value.nilFunc⟩
theorem tf176 : tyOf Tryz.prog 176 = some ti176 := by kernel_rfl
def ti177 : TI := ⟨Kd.oth, 1, 8, Value.nilFunc⟩
theorem tf177 : tyOf Tryz.prog 177 = some ti177 := by kernel_rfl
def ti178 : TI := ⟨Kd.oth, 1, 8, Value.nilFunc⟩
theorem tf178 : tyOf Tryz.prog 178 = some ti178 := by kernel_rfl
def ti179 : TI := ⟨Kd.oth, 1, 8, Value.nilFunc⟩
theorem tf179 : tyOf Tryz.prog 179 = some ti179 := by kernel_rfl
def ti180 : TI := ⟨Kd.oth, 1, 8, Value.nilFunc⟩
theorem tf180 : tyOf Tryz.prog 180 = some ti180 := by kernel_rfl
def ti181 : TI := ⟨Kd.oth, 1, 8, Value.nilFunc⟩
theorem tf181 : tyOf Tryz.prog 181 = some ti181 := by kernel_rfl
def ti183 : TI := ⟨Kd.oth, 1, 8, Value.nilFunc⟩
theorem tf183 : tyOf Tryz.prog 183 = some ti183 := by kernel_rfl
def ti184 : TI := ⟨Kd.oth, 1, 8, Value.nilFunc⟩
theorem tf184 : tyOf Tryz.prog 184 = some ti184 := by kernel_rfl
def ti185 : TI := ⟨Kd.sli 63, 1, 24, Value.slice none 0 0⟩
theorem tf185 : tyOf Tryz.prog 185 = some ti185 := by kernel_rfl
def ti186 : TI := ⟨Kd.oth, 1, 8, Value.nilFunc⟩
theorem tf186 : tyOf Tryz.prog 186 = some ti186 := by kernel_rfl
def ti187 : TI := ⟨Kd.oth, 1, 8, Value.nilFunc⟩
theorem tf187 : tyOf Tryz.prog 187 = some ti187 := by kernel_rfl
def ti188 : TI := ⟨Kd.oth, 1, 8, Value.nilFunc⟩
theorem tf188 : tyOf Tryz.prog 188 = some ti188 := by kernel_rfl
def ti189 : TI := ⟨Kd.oth, 1, 8, Value.nilFunc⟩
theorem tf189 : tyOf Tryz.prog 189 = some ti189 := by kernel_rfl
def ti190 : TI := ⟨Kd.oth, 1, 8, Value.nilFunc⟩
theorem tf190 : tyOf Tryz.prog 190 = some ti190 := by kernel_rfl
def ti191 : TI := ⟨Kd.oth, 1, 8, Value.nilFunc⟩
theorem tf191 : tyOf Tryz.prog 191 = some ti191 := by kernel_rfl
def ti192 : TI := ⟨Kd.oth, 1, 8, Value.nilFunc⟩
theorem tf192 : tyOf Tryz.prog 192 = some ti192 := by kernel_rfl
def ti193 : TI := ⟨Kd.oth, 1, 8, Value.nilFunc⟩
theorem tf193 : tyOf Tryz.prog 193 = some ti193 := by kernel_rfl
def ti194 : TI := ⟨Kd.oth, 1, 8, Value.nilFunc⟩
theorem tf194 : tyOf Tryz.prog 194 = some ti194 := by kernel_rfl
def ti195 : TI := ⟨Kd.oth, 1, 8, Value.nilFunc⟩
theorem tf195 : tyOf Tryz.prog 195 = some ti195 := by kernel_rfl
def ti196 : TI := ⟨Kd.oth, 1, 8, Value.nilFunc⟩
theorem tf196 : tyOf Tryz.prog 196 = some ti196 := by kernel_rfl
def ti197 : TI := ⟨Kd.oth, 1, 8, Value.nilFunc⟩
theorem tf197 : tyOf Tryz.prog 197 = some ti197 := by kernel_rfl
def ti198 : TI := ⟨Kd.oth, 1, 8, Value.nilFunc⟩
theorem tf198 : tyOf Tryz.prog 198 = some ti198 := by kernel_rfl
def ti199 : TI := ⟨Kd.oth, 1, 8, Value.nilFunc⟩
theorem tf199 : tyOf Tryz.prog 199 = some ti199 := by kernel_rfl
def ti200 : TI := ⟨Kd.oth, 1, 8, Value.nilFunc⟩
theorem tf200 : tyOf Tryz.prog 200 = some ti200 := by kernel_rfl
def ti201 : TI := ⟨Kd.oth, 1, 8, Value.nilFunc⟩
theorem tf201 : tyOf Tryz.prog 201 = some ti201 := by kernel_rfl
def ti202 : TI := ⟨Kd.oth, 1, 8, Value.nilFunc⟩
theorem tf202 : tyOf Tryz.prog 202 = some ti202 := by kernel_rfl
def ti203 : TI := ⟨Kd.oth, 1, 8, Value.nilFunc⟩
theorem tf203 : tyOf Tryz.prog 203 = some ti203 := by kernel_rfl
def ti204 : TI := ⟨Kd.oth, 1, 8, Value.nilFunc⟩
theorem tf204 : tyOf Tryz.prog 204 = some ti204 := by kernel_rfl
def ti205 : TI := ⟨Kd.oth, 1, 8, Value.nilFunc⟩
theorem tf205 : tyOf Tryz.prog 205 = some ti205 := by kernel_rfl
def ti206 : TI := ⟨Kd.oth, 1, 8, Value.nilFunc⟩
theorem tf206 : tyOf Tryz.prog 206 = some ti206 := by kernel_rfl
def ti208 : TI := ⟨Kd.oth, 1, 8, Value.nilFunc⟩
theorem tf208 : tyOf Tryz.prog 208 = some ti208 := by kernel_rfl
def ti209 : TI := ⟨Kd.oth, 1, 8, Value.nilFunc⟩
theorem tf209 : tyOf Tryz.prog 209 = some ti209 := by kernel_rfl
def ti210 : TI := ⟨Kd.oth, 1, 8, Value.nilFunc⟩
theorem tf210 : tyOf Tryz.prog 210 = some ti210 := by kernel_rfl
def ti211 : TI := ⟨Kd.oth, 1, 8, Value.nilFunc⟩
theorem tf211 : tyOf Tryz.prog 211 = some ti211 := by kernel_rfl
def ti212 : TI := ⟨Kd.oth, 1, 8, Value.nilFunc⟩
theorem tf212 : tyOf Tryz.prog 212 = some ti212 := by kernel_rfl
def ti213 : TI := ⟨Kd.oth, 1, 8, Value.nilFunc⟩
theorem tf213 : tyOf Tryz.prog 213 = some ti213 := by kernel_rfl
def ti214 : TI := ⟨Kd.oth, 1, 8, Value.nilFunc⟩
theorem tf214 : tyOf Tryz.prog 214 = some ti214 := by kernel_rfl
def ti215 : TI := ⟨Kd.oth, 1, 8, Value.nilFunc⟩
theorem tf215 : tyOf Tryz.prog 215 = some ti215 := by kernel_rfl
def ti216 : TI := ⟨Kd.oth, 1, 8, Value.nilFunc⟩
theorem tf216 : tyOf Tryz.prog 216 = some ti216 := by kernel_rfl
def ti217 : TI := ⟨Kd.oth, 1, 8, Value.nilFunc⟩
theorem tf217 : tyOf Tryz.prog 217 = some ti217 := by kernel_rfl
def ti218 : TI := ⟨Kd.oth, 1, 8, Value.nilFunc⟩
theorem tf218 : tyOf Tryz.prog 218 = some ti218 := by kernel_rfl
def ti220 : TI := ⟨Kd.oth, 1, 8, Value.nilFunc⟩
theorem tf220 : tyOf Tryz.prog 220 = some ti220 := by kernel_rfl
def ti221 : TI := ⟨Kd.oth, 1, 8, Value.nilFunc⟩
theorem tf221 : tyOf Tryz.prog 221 = some ti221 := by kernel_rfl
def ti222 : TI := ⟨Kd.sli 100, 1, 24, Value.slice none 0 0⟩
theorem tf222 : tyOf Tryz.prog 222 = some ti222 := by kernel_rfl
def ti223 : TI := ⟨Kd.oth, 1, 8, Value.nilFunc⟩
theorem tf223 : tyOf Tryz.prog 223 = some ti223 := by kernel_rfl
def ti224 : TI := ⟨Kd.oth, 1, 8, Value.nilFunc⟩
theorem tf224 : tyOf Tryz.prog 224 = some ti224 := by kernel_rfl
def ti225 : TI := ⟨Kd.oth, 1, 8, Value.nilFunc⟩
theorem tf225 : tyOf Tryz.prog 225 = some ti225 := by kernel_rfl
def ti226 : TI := ⟨Kd.oth, 1, 8, Value.nilFunc⟩
theorem tf226 : tyOf Tryz.prog 226 = some ti226 := by kernel_rfl
def ti227 : TI := ⟨Kd.oth, 1, 8, Value.nilFunc⟩
theorem tf227 : tyOf Tryz.prog 227 = some ti227 := by kernel_rfl
def ti228 : TI := ⟨Kd.oth, 1, 8, Value.nilFunc⟩
theorem tf228 : tyOf Tryz.prog 228 = some ti228 := by kernel_rfl
def ti229 : TI := ⟨Kd.oth, 1, 8, Value.nilFunc⟩
theorem tf229 : tyOf Tryz.prog 229 = some ti229 := by kernel_rfl
def ti230 : TI := ⟨Kd.oth, 1, 8, Value.nilFunc⟩
theorem tf230 : tyOf Tryz.prog 230 = some ti230 := by kernel_rfl
def ti232 : TI := ⟨Kd.oth, 1, 8, Value.nilFunc⟩
theorem tf232 : tyOf Tryz.prog 232 = some ti232 := by kernel_rfl
def ti233 : TI := ⟨Kd.oth, 1, 8, Value.nilFunc⟩
theorem tf233 : tyOf Tryz.prog 233 = some ti233 := by kernel_rfl
def ti234 : TI := ⟨Kd.oth, 1, 8, Value.nilFunc⟩
theorem tf234 : tyOf Tryz.prog 234 = some ti234 := by kernel_rfl
def ti235 : TI := ⟨Kd.oth, 1, 8, Value.nilFunc⟩
theorem tf235 : tyOf Tryz.prog 235 = some ti235 := by kernel_rfl
def ti237 : TI := ⟨Kd.oth, 1, 8, Value.nilFunc⟩
theorem tf237 : tyOf Tryz.prog 237 = some ti237 := by kernel_rfl
def ti238 : TI := ⟨Kd.oth, 1, 8, Value.nilFunc⟩
theorem tf238 : tyOf Tryz.prog 238 = some ti238 := by kernel_rfl
def ti239 : TI := ⟨Kd.oth, 1, 8, Value.nilFunc⟩
theorem tf239 : tyOf Tryz.prog 239 = some ti239 := by kernel_rfl
def ti240 : TI := ⟨Kd.oth, 1, 8, Value.nilFunc⟩
theorem tf240 : tyOf Tryz.prog 240 = some ti240 := by kernel_rfl
def ti241 : TI := ⟨Kd.oth, 1, 8, Value.nilFunc⟩
theorem tf241 : tyOf Tryz.prog 241 = some ti241 := by kernel_rfl
def ti242 : TI := ⟨Kd.int IntKind.u32, 1, 4, Value.int IntKind.u32 0⟩
theorem tf242 : tyOf Tryz.prog 242 = some ti242 := by kernel_rfl
def ti243 : TI := ⟨Kd.oth, 1, 8, Value.nilFunc⟩
theorem tf243 : tyOf Tryz.prog 243 = some ti243 := by kernel_rfl
def ti244 : TI := ⟨Kd.int IntKind.u64, 1, 8, Value.int IntKind.u64 0⟩
theorem tf244 : tyOf Tryz.prog 244 = some ti244 := by kernel_rfl
def ti245 : TI := ⟨Kd.oth, 1, 8, Value.nilFunc⟩
theorem tf245 : tyOf Tryz.prog 245 = some ti245 := by kernel_rfl
def ti247 : TI := ⟨Kd.oth, 1, 8, Value.nilFunc⟩
theorem tf247 : tyOf Tryz.prog 247 = some ti247 := by kernel_rfl
def ti248 : TI := ⟨Kd.oth, 1, 8, Value.nilFunc⟩
theorem tf248 : tyOf Tryz.prog 248 = some ti248 := by kernel_rfl
def ti249 : TI := ⟨Kd.oth, 1, 8, Value.nilFunc⟩
theorem tf249 : tyOf Tryz.prog 249 = some ti249 := by kernel_rfl
def ti250 : TI := ⟨Kd.oth, 1, 8, Value.nilFunc⟩
theorem tf250 : tyOf Tryz.prog 250 = some ti250 := by kernel_rfl
def ti251 : TI := ⟨Kd.oth, 1, 8, Value.nilFunc⟩
theorem tf251 : tyOf Tryz.prog 251 = some ti251 := by kernel_rfl
def ti252 : TI := ⟨Kd.oth, 1, 8, Value.nilFunc⟩
theorem tf252 : tyOf Tryz.prog 252 = some ti252 := by kernel_rfl
def ti253 : TI := ⟨Kd.oth, 1, 8, Value.nilFunc⟩
theorem tf253 : tyOf Tryz.prog 253 = some ti253 := by kernel_rfl
def ti254 : TI := ⟨Kd.oth, 1, 8, Value.nilFunc⟩
theorem tf254 : tyOf Tryz.prog 254 = some ti254 := by kernel_rfl
def ti255 : TI := ⟨Kd.oth, 1, 8, Value.nilFunc⟩
theorem tf255 : tyOf Tryz.prog 255 = some ti255 := by kernel_rfl
def ti258 : TI := ⟨Kd.oth, 1, 8, Value.nilFunc⟩
theorem tf258 : tyOf Tryz.prog 258 = some ti258 := by kernel_rfl
def ti262 : TI := ⟨Kd.stru [(0, 261)], 0, 0, Value.agg ⟨[]⟩⟩
theorem tf262 : tyOf Tryz.prog 262 = some ti262 := by kernel_rfl
def ti263 : TI := ⟨Kd.stru [(0, 261)], 0, 0, Value.agg ⟨[]⟩⟩
theorem tf263 : tyOf Tryz.prog 263 = some ti263 := by kernel_rfl
def ti264 : TI := ⟨Kd.int IntKind.u8, 1, 1, Value.int IntKind.u8 0⟩
theorem tf264 : tyOf Tryz.prog 264 = some ti264 := by kernel_rfl
def ti265 : TI := ⟨Kd.int IntKind.u8, 1, 1, Value.int IntKind.u8 0⟩
theorem tf265 : tyOf Tryz.prog 265 = some ti265 := by kernel_rfl
def ti266 : TI := ⟨Kd.oth, 1, 8, Value.nilFunc⟩
theorem tf266 : tyOf Tryz.prog 266 = some ti266 := by kernel_rfl
def ti268 : TI := ⟨Kd.int IntKind.i32, 1, 4, Value.int IntKind.i32 0⟩
theorem tf268 : tyOf Tryz.prog 268 = some ti268 := by kernel_rfl
def ti269 : TI := ⟨Kd.int IntKind.i32, 1, 4, Value.int IntKind.i32 0⟩
theorem tf269 : tyOf Tryz.prog 269 = some ti269 := by kernel_rfl
def ti272 : TI := ⟨Kd.oth, 1, 8, Value.nilFunc⟩
theorem tf272 : tyOf Tryz.prog 272 = some ti272 := by kernel_rfl
def ti273 : TI := ⟨Kd.oth, 1, 8, Value.nilFunc⟩
theorem tf273 : tyOf Tryz.prog 273 = some ti273 := by kernel_rfl
def ti274 : TI := ⟨Kd.oth, 1, 8, Value.nilFunc⟩
theorem tf274 : tyOf Tryz.prog 274 = some ti274 := by kernel_rfl
theorem ty1 {K : TI → Prop} : @tyW Tryz.prog 1 ⟨K⟩ = K ti1 := ty_of tf1
theorem ti1_kd : ti1.kd = Kd.oth := _root_.id rfl
theorem ti1_agg : ti1.kd.agg = false := _root_.id rfl
theorem ti1_size : ti1.size = 1 := _root_.id rfl
theorem ti1_bytes : ti1.bytes = 8 := _root_.id rfl
theorem ti1_zs : zszW ti1 = True := eq_true rfl
theorem ti1_zc : zc ti1 = [.v Value.nilFunc] := _root_.id rfl
theorem ty2 {K : TI → Prop} : @tyW Tryz.prog 2 ⟨K⟩ = K ti2 := ty_of tf2
theorem ti2_kd : ti2.kd = Kd.int IntKind.i64 := _root_.id rfl
theorem ti2_agg : ti2.kd.agg = false := _root_.id rfl
theorem ti2_size : ti2.size = 1 := _root_.id rfl
theorem ti2_bytes : ti2.bytes = 8 := _root_.id rfl
theorem ti2_zs : zszW ti2 = True := eq_true rfl
theorem ti2_zc : zc ti2 = [.v (Value.int IntKind.i64 0)] := _root_.id rfl
theorem ty3 {K : TI → Prop} : @tyW Tryz.prog 3 ⟨K⟩ = K ti3 := ty_of tf3
theorem ti3_kd : ti3.kd = Kd.int IntKind.i64 := _root_.id rfl
theorem ti3_agg : ti3.kd.agg = false := _root_.id rfl
theorem ti3_size : ti3.size = 1 := _root_.id rfl
theorem ti3_bytes : ti3.bytes = 8 := _root_.id rfl
theorem ti3_zs : zszW ti3 = True := eq_true rfl
theorem ti3_zc : zc ti3 = [.v (Value.int IntKind.i64 0)] := _root_.id rfl
theorem ty4 {K : TI → Prop} : @tyW Tryz.prog 4 ⟨K⟩ = K ti4 := ty_of tf4
theorem ti4_kd : ti4.kd = Kd.bool := _root_.id rfl
theorem ti4_agg : ti4.kd.agg = false := _root_.id rfl
theorem ti4_size : ti4.size = 1 := _root_.id rfl
theorem ti4_bytes : ti4.bytes = 1 := _root_.id rfl
theorem ti4_zs : zszW ti4 = True := eq_true rfl
theorem ti4_zc : zc ti4 = [.v (Value.bool false)] := _root_.id rfl
theorem ty5 {K : TI → Prop} : @tyW Tryz.prog 5 ⟨K⟩ = K ti5 := ty_of tf5
theorem ti5_kd : ti5.kd = Kd.int IntKind.u8 := _root_.id rfl
theorem ti5_agg : ti5.kd.agg = false := _root_.id rfl
theorem ti5_size : ti5.size = 1 := _root_.id rfl
theorem ti5_bytes : ti5.bytes = 1 := _root_.id rfl
theorem ti5_zs : zszW ti5 = True := eq_true rfl
theorem ti5_zc : zc ti5 = [.v (Value.int IntKind.u8 0)] := _root_.id rfl
theorem ty6 {K : TI → Prop} : @tyW Tryz.prog 6 ⟨K⟩ = K ti6 := ty_of tf6
theorem ti6_kd : ti6.kd = Kd.int IntKind.u8 := _root_.id rfl
theorem ti6_agg : ti6.kd.agg = false := _root_.id rfl
theorem ti6_size : ti6.size = 1 := _root_.id rfl
theorem ti6_bytes : ti6.bytes = 1 := _root_.id rfl
theorem ti6_zs : zszW ti6 = True := eq_true rfl
theorem ti6_zc : zc ti6 = [.v (Value.int IntKind.u8 0)] := _root_.id rfl
theorem ty7 {K : TI → Prop} : @tyW Tryz.prog 7 ⟨K⟩ = K ti7 := ty_of tf7
theorem ti7_kd : ti7.kd = Kd.stru [(0, 2), (1, 3), (2, 4), (3, 6)] := _root_.id rfl
theorem ti7_agg : ti7.kd.agg = true := _root_.id rfl
theorem ti7_size : ti7.size = 4 := _root_.id rfl
theorem ti7_bytes : ti7.bytes = 24 := _root_.id rfl
theorem ti7_zs : zszW ti7 = True := eq_true rfl
theorem ti7_zc : zc ti7 = [.v (Value.int IntKind.i64 0), .v (Value.int IntKind.i64 0), .v (Value.bool false), .v (Value.int IntKind.u8 0)] := _root_.id rfl
theorem fld7_0 {K : Nat → TI → Prop} : @fieldW Tryz.prog 7 0 ⟨K⟩ = K 0 ti2 := field_of (ti := ti7) (tf := ti2) (fo := (0, 2)) (fs := [(0, 2), (1, 3), (2, 4), (3, 6)]) tf7 rfl rfl tf2
theorem pl7_0 {K : Nat → Nat → Prop} : placeF Tryz.prog [(0, 2), (1, 3), (2, 4), (3, 6)] 0 K = K 0 1 := place_of (tf := ti2) (fo := (0, 2)) (fs := [(0, 2), (1, 3), (2, 4), (3, 6)]) rfl tf2
theorem fld7_1 {K : Nat → TI → Prop} : @fieldW Tryz.prog 7 1 ⟨K⟩ = K 1 ti3 := field_of (ti := ti7) (tf := ti3) (fo := (1, 3)) (fs := [(0, 2), (1, 3), (2, 4), (3, 6)]) tf7 rfl rfl tf3
theorem pl7_1 {K : Nat → Nat → Prop} : placeF Tryz.prog [(0, 2), (1, 3), (2, 4), (3, 6)] 1 K = K 1 1 := place_of (tf := ti3) (fo := (1, 3)) (fs := [(0, 2), (1, 3), (2, 4), (3, 6)]) rfl tf3
theorem fld7_2 {K : Nat → TI → Prop} : @fieldW Tryz.prog 7 2 ⟨K⟩ = K 2 ti4 := field_of (ti := ti7) (tf := ti4) (fo := (2, 4)) (fs := [(0, 2), (1, 3), (2, 4), (3, 6)]) tf7 rfl rfl tf4
theorem pl7_2 {K : Nat → Nat → Prop} : placeF Tryz.prog [(0, 2), (1, 3), (2, 4), (3, 6)] 2 K = K 2 1 := place_of (tf := ti4) (fo := (2, 4)) (fs := [(0, 2), (1, 3), (2, 4), (3, 6)]) rfl tf4
theorem fld7_3 {K : Nat → TI → Prop} : @fieldW Tryz.prog 7 3 ⟨K⟩ = K 3 ti6 := field_of (ti := ti7) (tf := ti6) (fo := (3, 6)) (fs := [(0, 2), (1, 3), (2, 4), (3, 6)]) tf7 rfl rfl tf6
theorem pl7_3 {K : Nat → Nat → Prop} : placeF Tryz.prog [(0, 2), (1, 3), (2, 4), (3, 6)] 3 K = K 3 1 := place_of (tf := ti6) (fo := (3, 6)) (fs := [(0, 2), (1, 3), (2, 4), (3, 6)]) rfl tf6
theorem fsok7 : ∀ f ∈ ([(0, 2), (1, 3), (2, 4), (3, 6)] : List (Nat × Nat)), (tyOf Tryz.prog f.2).isSome = true := by
 intro f hf
 simp only [List.mem_cons, List.not_mem_nil, or_false] at hf
 rcases hf with rfl | rfl | rfl | rfl
 ·rw [tf2]; rfl
 ·rw [tf3]; rfl
 ·rw [tf4]; rfl
 ·rw [tf6]; rfl
theorem bld7 {ps : List (Nat × AV)} {K : AV → Prop} : @buildW Tryz.prog 7 ps ⟨K⟩ = @fillW (placeF Tryz.prog [(0, 2), (1, 3), (2, 4), (3, 6)]) (zc ti7) ps ⟨fun cs => K (.ag cs)⟩ := build_of tf7 rfl fsok7
theorem ty8 {K : TI → Prop} : @tyW Tryz.prog 8 ⟨K⟩ = K ti8 := ty_of tf8
theorem ti8_kd : ti8.kd = Kd.stru [(0, 2), (1, 3), (2, 4), (3, 6)] := _root_.id rfl
theorem ti8_agg : ti8.kd.agg = true := _root_.id rfl
theorem ti8_size : ti8.size = 4 := _root_.id rfl
theorem ti8_bytes : ti8.bytes = 24 := _root_.id rfl
theorem ti8_zs : zszW ti8 = True := eq_true rfl
theorem ti8_zc : zc ti8 = [.v (Value.int IntKind.i64 0), .v (Value.int IntKind.i64 0), .v (Value.bool false), .v (Value.int IntKind.u8 0)] := _root_.id rfl
theorem fld8_0 {K : Nat → TI → Prop} : @fieldW Tryz.prog 8 0 ⟨K⟩ = K 0 ti2 := field_of (ti := ti8) (tf := ti2) (fo := (0, 2)) (fs := [(0, 2), (1, 3), (2, 4), (3, 6)]) tf8 rfl rfl tf2
theorem pl8_0 {K : Nat → Nat → Prop} : placeF Tryz.prog [(0, 2), (1, 3), (2, 4), (3, 6)] 0 K = K 0 1 := place_of (tf := ti2) (fo := (0, 2)) (fs := [(0, 2), (1, 3), (2, 4), (3, 6)]) rfl tf2
theorem fld8_1 {K : Nat → TI → Prop} : @fieldW Tryz.prog 8 1 ⟨K⟩ = K 1 ti3 := field_of (ti := ti8) (tf := ti3) (fo := (1, 3)) (fs := [(0, 2), (1, 3), (2, 4), (3, 6)]) tf8 rfl rfl tf3
theorem pl8_1 {K : Nat → Nat → Prop} : placeF Tryz.prog [(0, 2), (1, 3), (2, 4), (3, 6)] 1 K = K 1 1 := place_of (tf := ti3) (fo := (1, 3)) (fs := [(0, 2), (1, 3), (2, 4), (3, 6)]) rfl tf3
theorem fld8_2 {K : Nat → TI → Prop} : @fieldW Tryz.prog 8 2 ⟨K⟩ = K 2 ti4 := field_of (ti := ti8) (tf := ti4) (fo := (2, 4)) (fs := [(0, 2), (1, 3), (2, 4), (3, 6)]) tf8 rfl rfl tf4
theorem pl8_2 {K : Nat → Nat → Prop} : placeF Tryz.prog [(0, 2), (1, 3), (2, 4), (3, 6)] 2 K = K 2 1 := place_of (tf := ti4) (fo := (2, 4)) (fs := [(0, 2), (1, 3), (2, 4), (3, 6)]) rfl tf4
theorem fld8_3 {K : Nat → TI → Prop} : @fieldW Tryz.prog 8 3 ⟨K⟩ = K 3 ti6 := field_of (ti := ti8) (tf := ti6) (fo := (3, 6)) (fs := [(0, 2), (1, 3), (2, 4), (3, 6)]) tf8 rfl rfl tf6
theorem pl8_3 {K : Nat → Nat → Prop} : placeF Tryz.prog [(0, 2), (1, 3), (2, 4), (3, 6)] 3 K = K 3 1 := place_of (tf := ti6) (fo := (3, 6)) (fs := [(0, 2), (1, 3), (2, 4), (3, 6)]) rfl tf6
theorem fsok8 : ∀ f ∈ ([(0, 2), (1, 3), (2, 4), (3, 6)] : List (Nat × Nat)), (tyOf Tryz.prog f.2).isSome = true := by
 intro f hf
 simp only [List.mem_cons, List.not_mem_nil, or_false] at hf
 rcases hf with rfl | rfl | rfl | rfl
 ·rw [tf2]; rfl
 ·rw [tf3]; rfl
 ·rw [tf4]; rfl
 ·rw [tf6]; rfl
theorem bld8 {ps : List (Nat × AV)} {K : AV → Prop} : @buildW Tryz.prog 8 ps ⟨K⟩ = @fillW (placeF Tryz.prog [(0, 2), (1, 3), (2, 4), (3, 6)]) (zc ti8) ps ⟨fun cs => K (.ag cs)⟩ := build_of tf8 rfl fsok8
theorem ty9 {K : TI → Prop} : @tyW Tryz.prog 9 ⟨K⟩ = K ti9 := ty_of tf9
theorem ti9_kd : ti9.kd = Kd.str := _root_.id rfl
theorem ti9_agg : ti9.kd.agg = false := _root_.id rfl
theorem ti9_size : ti9.size = 1 := _root_.id rfl
theorem ti9_bytes : ti9.bytes = 16 := _root_.id rfl
theorem ti9_zs : zszW ti9 = True := eq_true rfl
theorem ti9_zc : zc ti9 = [.v (Value.string { data := ⟨[]⟩ })] := _root_.id rfl
theorem ty10 {K : TI → Prop} : @tyW Tryz.prog 10 ⟨K⟩ = K ti10 := ty_of tf10
theorem ti10_kd : ti10.kd = Kd.str := _root_.id rfl
theorem ti10_agg : ti10.kd.agg = false := _root_.id rfl
theorem ti10_size : ti10.size = 1 := _root_.id rfl
theorem ti10_bytes : ti10.bytes = 16 := _root_.id rfl
theorem ti10_zs : zszW ti10 = True := eq_true rfl
theorem ti10_zc : zc ti10 = [.v (Value.string { data := ⟨[]⟩ })] := _root_.id rfl
theorem ty11 {K : TI → Prop} : @tyW Tryz.prog 11 ⟨K⟩ = K ti11 := ty_of tf11
theorem ti11_kd : ti11.kd = Kd.str := _root_.id rfl
theorem ti11_agg : ti11.kd.agg = false := _root_.id rfl
theorem ti11_size : ti11.size = 1 := _root_.id rfl
theorem ti11_bytes : ti11.bytes = 16 := _root_.id rfl
theorem ti11_zs : zszW ti11 = True := eq_true rfl
theorem ti11_zc : zc ti11 = [.v (Value.string { data := ⟨[]⟩ })] := _root_.id rfl
theorem ty12 {K : TI → Prop} : @tyW Tryz.prog 12 ⟨K⟩ = K ti12 := ty_of tf12
theorem ti12_kd : ti12.kd = Kd.int IntKind.u64 := _root_.id rfl
theorem ti12_agg : ti12.kd.agg = false := _root_.id rfl
theorem ti12_size : ti12.size = 1 := _root_.id rfl
theorem ti12_bytes : ti12.bytes = 8 := _root_.id rfl
theorem ti12_zs : zszW ti12 = True := eq_true rfl
theorem ti12_zc : zc ti12 = [.v (Value.int IntKind.u64 0)] := _root_.id rfl
theorem ty21 {K : TI → Prop} : @tyW Tryz.prog 21 ⟨K⟩ = K ti21 := ty_of tf21
theorem ti21_kd : ti21.kd = Kd.int IntKind.i32 := _root_.id rfl
theorem ti21_agg : ti21.kd.agg = false := _root_.id rfl
theorem ti21_size : ti21.size = 1 := _root_.id rfl
theorem ti21_bytes : ti21.bytes = 4 := _root_.id rfl
theorem ti21_zs : zszW ti21 = True := eq_true rfl
theorem ti21_zc : zc ti21 = [.v (Value.int IntKind.i32 0)] := _root_.id rfl
theorem ty22 {K : TI → Prop} : @tyW Tryz.prog 22 ⟨K⟩ = K ti22 := ty_of tf22
theorem ti22_kd : ti22.kd = Kd.sli 5 := _root_.id rfl
theorem ti22_agg : ti22.kd.agg = false := _root_.id rfl
theorem ti22_size : ti22.size = 1 := _root_.id rfl
theorem ti22_bytes : ti22.bytes = 24 := _root_.id rfl
theorem ti22_zs : zszW ti22 = True := eq_true rfl
theorem ti22_zc : zc ti22 = [.v (Value.slice none 0 0)] := _root_.id rfl
theorem sli22 {K : TI → Prop} : @sliW Tryz.prog 22 ⟨K⟩ = K ti5 := sli_of tf22 rfl tf5
theorem ty23 {K : TI → Prop} : @tyW Tryz.prog 23 ⟨K⟩ = K ti23 := ty_of tf23
theorem ti23_kd : ti23.kd = Kd.sli 3 := _root_.id rfl
theorem ti23_agg : ti23.kd.agg = false := _root_.id rfl
theorem ti23_size : ti23.size = 1 := _root_.id rfl
theorem ti23_bytes : ti23.bytes = 24 := _root_.id rfl
theorem ti23_zs : zszW ti23 = True := eq_true rfl
theorem ti23_zc : zc ti23 = [.v (Value.slice none 0 0)] := _root_.id rfl
theorem sli23 {K : TI → Prop} : @sliW Tryz.prog 23 ⟨K⟩ = K ti3 := sli_of tf23 rfl tf3
theorem ty24 {K : TI → Prop} : @tyW Tryz.prog 24 ⟨K⟩ = K ti24 := ty_of tf24
theorem ti24_kd : ti24.kd = Kd.stru [(0, 23)] := _root_.id rfl
theorem ti24_agg : ti24.kd.agg = true := _root_.id rfl
theorem ti24_size : ti24.size = 1 := _root_.id rfl
theorem ti24_bytes : ti24.bytes = 24 := _root_.id rfl
theorem ti24_zs : zszW ti24 = True := eq_true rfl
theorem ti24_zc : zc ti24 = [.v (Value.slice none 0 0)] := _root_.id rfl
theorem fld24_0 {K : Nat → TI → Prop} : @fieldW Tryz.prog 24 0 ⟨K⟩ = K 0 ti23 := field_of (ti := ti24) (tf := ti23) (fo := (0, 23)) (fs := [(0, 23)]) tf24 rfl rfl tf23
theorem pl24_0 {K : Nat → Nat → Prop} : placeF Tryz.prog [(0, 23)] 0 K = K 0 1 := place_of (tf := ti23) (fo := (0, 23)) (fs := [(0, 23)]) rfl tf23
theorem fsok24 : ∀ f ∈ ([(0, 23)] : List (Nat × Nat)), (tyOf Tryz.prog f.2).isSome = true := by
 intro f hf
 simp only [List.mem_cons, List.not_mem_nil, or_false] at hf
 subst hf; rw [tf23]; rfl
theorem bld24 {ps : List (Nat × AV)} {K : AV → Prop} : @buildW Tryz.prog 24 ps ⟨K⟩ = @fillW (placeF Tryz.prog [(0, 23)]) (zc ti24) ps ⟨fun cs => K (.ag cs)⟩ := build_of tf24 rfl fsok24
theorem ty25 {K : TI → Prop} : @tyW Tryz.prog 25 ⟨K⟩ = K ti25 := ty_of tf25
theorem ti25_kd : ti25.kd = Kd.stru [(0, 23)] := _root_.id rfl
theorem ti25_agg : ti25.kd.agg = true := _root_.id rfl
theorem ti25_size : ti25.size = 1 := _root_.id rfl
theorem ti25_bytes : ti25.bytes = 24 := _root_.id rfl
theorem ti25_zs : zszW ti25 = True := eq_true rfl
theorem ti25_zc : zc ti25 = [.v (Value.slice none 0 0)] := _root_.id rfl
theorem fld25_0 {K : Nat → TI → Prop} : @fieldW Tryz.prog 25 0 ⟨K⟩ = K 0 ti23 := field_of (ti := ti25) (tf := ti23) (fo := (0, 23)) (fs := [(0, 23)]) tf25 rfl rfl tf23
theorem pl25_0 {K : Nat → Nat → Prop} : placeF Tryz.prog [(0, 23)] 0 K = K 0 1 := place_of (tf := ti23) (fo := (0, 23)) (fs := [(0, 23)]) rfl tf23
theorem fsok25 : ∀ f ∈ ([(0, 23)] : List (Nat × Nat)), (tyOf Tryz.prog f.2).isSome = true := by
 intro f hf
 simp only [List.mem_cons, List.not_mem_nil, or_false] at hf
 subst hf; rw [tf23]; rfl
theorem bld25 {ps : List (Nat × AV)} {K : AV → Prop} : @buildW Tryz.prog 25 ps ⟨K⟩ = @fillW (placeF Tryz.prog [(0, 23)]) (zc ti25) ps ⟨fun cs => K (.ag cs)⟩ := build_of tf25 rfl fsok25
theorem ty26 {K : TI → Prop} : @tyW Tryz.prog 26 ⟨K⟩ = K ti26 := ty_of tf26
theorem ti26_kd : ti26.kd = Kd.stru [(0, 4), (1, 25)] := _root_.id rfl
theorem ti26_agg : ti26.kd.agg = true := _root_.id rfl
theorem ti26_size : ti26.size = 2 := _root_.id rfl
theorem ti26_bytes : ti26.bytes = 32 := _root_.id rfl
theorem ti26_zs : zszW ti26 = True := eq_true rfl
theorem ti26_zc : zc ti26 = [.v (Value.bool false), .v (Value.slice none 0 0)] := _root_.id rfl
theorem fld26_0 {K : Nat → TI → Prop} : @fieldW Tryz.prog 26 0 ⟨K⟩ = K 0 ti4 := field_of (ti := ti26) (tf := ti4) (fo := (0, 4)) (fs := [(0, 4), (1, 25)]) tf26 rfl rfl tf4
theorem pl26_0 {K : Nat → Nat → Prop} : placeF Tryz.prog [(0, 4), (1, 25)] 0 K = K 0 1 := place_of (tf := ti4) (fo := (0, 4)) (fs := [(0, 4), (1, 25)]) rfl tf4
theorem fld26_1 {K : Nat → TI → Prop} : @fieldW Tryz.prog 26 1 ⟨K⟩ = K 1 ti25 := field_of (ti := ti26) (tf := ti25) (fo := (1, 25)) (fs := [(0, 4), (1, 25)]) tf26 rfl rfl tf25
theorem pl26_1 {K : Nat → Nat → Prop} : placeF Tryz.prog [(0, 4), (1, 25)] 1 K = K 1 1 := place_of (tf := ti25) (fo := (1, 25)) (fs := [(0, 4), (1, 25)]) rfl tf25
theorem fsok26 : ∀ f ∈ ([(0, 4), (1, 25)] : List (Nat × Nat)), (tyOf Tryz.prog f.2).isSome = true := by
 intro f hf
 simp only [List.mem_cons, List.not_mem_nil, or_false] at hf
 rcases hf with rfl | rfl
 ·rw [tf4]; rfl
 ·rw [tf25]; rfl
theorem bld26 {ps : List (Nat × AV)} {K : AV → Prop} : @buildW Tryz.prog 26 ps ⟨K⟩ = @fillW (placeF Tryz.prog [(0, 4), (1, 25)]) (zc ti26) ps ⟨fun cs => K (.ag cs)⟩ := build_of tf26 rfl fsok26
theorem ty27 {K : TI → Prop} : @tyW Tryz.prog 27 ⟨K⟩ = K ti27 := ty_of tf27
theorem ti27_kd : ti27.kd = Kd.stru [(0, 4), (1, 25)] := _root_.id rfl
theorem ti27_agg : ti27.kd.agg = true := _root_.id rfl
theorem ti27_size : ti27.size = 2 := _root_.id rfl
theorem ti27_bytes : ti27.bytes = 32 := _root_.id rfl
theorem ti27_zs : zszW ti27 = True := eq_true rfl
theorem ti27_zc : zc ti27 = [.v (Value.bool false), .v (Value.slice none 0 0)] := _root_.id rfl
theorem fld27_0 {K : Nat → TI → Prop} : @fieldW Tryz.prog 27 0 ⟨K⟩ = K 0 ti4 := field_of (ti := ti27) (tf := ti4) (fo := (0, 4)) (fs := [(0, 4), (1, 25)]) tf27 rfl rfl tf4
theorem pl27_0 {K : Nat → Nat → Prop} : placeF Tryz.prog [(0, 4), (1, 25)] 0 K = K 0 1 := place_of (tf := ti4) (fo := (0, 4)) (fs := [(0, 4), (1, 25)]) rfl tf4
theorem fld27_1 {K : Nat → TI → Prop} : @fieldW Tryz.prog 27 1 ⟨K⟩ = K 1 ti25 := field_of (ti := ti27) (tf := ti25) (fo := (1, 25)) (fs := [(0, 4), (1, 25)]) tf27 rfl rfl tf25
theorem pl27_1 {K : Nat → Nat → Prop} : placeF Tryz.prog [(0, 4), (1, 25)] 1 K = K 1 1 := place_of (tf := ti25) (fo := (1, 25)) (fs := [(0, 4), (1, 25)]) rfl tf25
theorem fsok27 : ∀ f ∈ ([(0, 4), (1, 25)] : List (Nat × Nat)), (tyOf Tryz.prog f.2).isSome = true := by
 intro f hf
 simp only [List.mem_cons, List.not_mem_nil, or_false] at hf
 rcases hf with rfl | rfl
 ·rw [tf4]; rfl
 ·rw [tf25]; rfl
theorem bld27 {ps : List (Nat × AV)} {K : AV → Prop} : @buildW Tryz.prog 27 ps ⟨K⟩ = @fillW (placeF Tryz.prog [(0, 4), (1, 25)]) (zc ti27) ps ⟨fun cs => K (.ag cs)⟩ := build_of tf27 rfl fsok27
theorem ty28 {K : TI → Prop} : @tyW Tryz.prog 28 ⟨K⟩ = K ti28 := ty_of tf28
theorem ti28_kd : ti28.kd = Kd.stru [(0, 27), (2, 3)] := _root_.id rfl
theorem ti28_agg : ti28.kd.agg = true := _root_.id rfl
theorem ti28_size : ti28.size = 3 := _root_.id rfl
theorem ti28_bytes : ti28.bytes = 40 := _root_.id rfl
theorem ti28_zs : zszW ti28 = True := eq_true rfl
theorem ti28_zc : zc ti28 = [.v (Value.bool false), .v (Value.slice none 0 0), .v (Value.int IntKind.i64 0)] := _root_.id rfl
theorem fld28_0 {K : Nat → TI → Prop} : @fieldW Tryz.prog 28 0 ⟨K⟩ = K 0 ti27 := field_of (ti := ti28) (tf := ti27) (fo := (0, 27)) (fs := [(0, 27), (2, 3)]) tf28 rfl rfl tf27
theorem pl28_0 {K : Nat → Nat → Prop} : placeF Tryz.prog [(0, 27), (2, 3)] 0 K = K 0 2 := place_of (tf := ti27) (fo := (0, 27)) (fs := [(0, 27), (2, 3)]) rfl tf27
theorem fld28_1 {K : Nat → TI → Prop} : @fieldW Tryz.prog 28 1 ⟨K⟩ = K 2 ti3 := field_of (ti := ti28) (tf := ti3) (fo := (2, 3)) (fs := [(0, 27), (2, 3)]) tf28 rfl rfl tf3
theorem pl28_1 {K : Nat → Nat → Prop} : placeF Tryz.prog [(0, 27), (2, 3)] 1 K = K 2 1 := place_of (tf := ti3) (fo := (2, 3)) (fs := [(0, 27), (2, 3)]) rfl tf3
theorem fsok28 : ∀ f ∈ ([(0, 27), (2, 3)] : List (Nat × Nat)), (tyOf Tryz.prog f.2).isSome = true := by
 intro f hf
 simp only [List.mem_cons, List.not_mem_nil, or_false] at hf
 rcases hf with rfl | rfl
 ·rw [tf27]; rfl
 ·rw [tf3]; rfl
theorem bld28 {ps : List (Nat × AV)} {K : AV → Prop} : @buildW Tryz.prog 28 ps ⟨K⟩ = @fillW (placeF Tryz.prog [(0, 27), (2, 3)]) (zc ti28) ps ⟨fun cs => K (.ag cs)⟩ := build_of tf28 rfl fsok28
theorem ty29 {K : TI → Prop} : @tyW Tryz.prog 29 ⟨K⟩ = K ti29 := ty_of tf29
theorem ti29_kd : ti29.kd = Kd.stru [(0, 27), (2, 3)] := _root_.id rfl
theorem ti29_agg : ti29.kd.agg = true := _root_.id rfl
theorem ti29_size : ti29.size = 3 := _root_.id rfl
theorem ti29_bytes : ti29.bytes = 40 := _root_.id rfl
theorem ti29_zs : zszW ti29 = True := eq_true rfl
theorem ti29_zc : zc ti29 = [.v (Value.bool false), .v (Value.slice none 0 0), .v (Value.int IntKind.i64 0)] := _root_.id rfl
theorem fld29_0 {K : Nat → TI → Prop} : @fieldW Tryz.prog 29 0 ⟨K⟩ = K 0 ti27 := field_of (ti := ti29) (tf := ti27) (fo := (0, 27)) (fs := [(0, 27), (2, 3)]) tf29 rfl rfl tf27
theorem pl29_0 {K : Nat → Nat → Prop} : placeF Tryz.prog [(0, 27), (2, 3)] 0 K = K 0 2 := place_of (tf := ti27) (fo := (0, 27)) (fs := [(0, 27), (2, 3)]) rfl tf27
theorem fld29_1 {K : Nat → TI → Prop} : @fieldW Tryz.prog 29 1 ⟨K⟩ = K 2 ti3 := field_of (ti := ti29) (tf := ti3) (fo := (2, 3)) (fs := [(0, 27), (2, 3)]) tf29 rfl rfl tf3
theorem pl29_1 {K : Nat → Nat → Prop} : placeF Tryz.prog [(0, 27), (2, 3)] 1 K = K 2 1 := place_of (tf := ti3) (fo := (2, 3)) (fs := [(0, 27), (2, 3)]) rfl tf3
theorem fsok29 : ∀ f ∈ ([(0, 27), (2, 3)] : List (Nat × Nat)), (tyOf Tryz.prog f.2).isSome = true := by
 intro f hf
 simp only [List.mem_cons, List.not_mem_nil, or_false] at hf
 rcases hf with rfl | rfl
 ·rw [tf27]; rfl
 ·rw [tf3]; rfl
theorem bld29 {ps : List (Nat × AV)} {K : AV → Prop} : @buildW Tryz.prog 29 ps ⟨K⟩ = @fillW (placeF Tryz.prog [(0, 27), (2, 3)]) (zc ti29) ps ⟨fun cs => K (.ag cs)⟩ := build_of tf29 rfl fsok29
theorem ty31 {K : TI → Prop} : @tyW Tryz.prog 31 ⟨K⟩ = K ti31 := ty_of tf31
theorem ti31_kd : ti31.kd = Kd.oth := _root_.id rfl
theorem ti31_agg : ti31.kd.agg = false := _root_.id rfl
theorem ti31_size : ti31.size = 1 := _root_.id rfl
theorem ti31_bytes : ti31.bytes = 8 := _root_.id rfl
theorem ti31_zs : zszW ti31 = True := eq_true rfl
theorem ti31_zc : zc ti31 = [.v Value.nilFunc] := _root_.id rfl
theorem ty33 {K : TI → Prop} : @tyW Tryz.prog 33 ⟨K⟩ = K ti33 := ty_of tf33
theorem ti33_kd : ti33.kd = Kd.oth := _root_.id rfl
theorem ti33_agg : ti33.kd.agg = false := _root_.id rfl
theorem ti33_size : ti33.size = 1 := _root_.id rfl
theorem ti33_bytes : ti33.bytes = 8 := _root_.id rfl
theorem ti33_zs : zszW ti33 = True := eq_true rfl
theorem ti33_zc : zc ti33 = [.v Value.nilFunc] := _root_.id rfl
theorem ty34 {K : TI → Prop} : @tyW Tryz.prog 34 ⟨K⟩ = K ti34 := ty_of tf34
theorem ti34_kd : ti34.kd = Kd.oth := _root_.id rfl
theorem ti34_agg : ti34.kd.agg = false := _root_.id rfl
theorem ti34_size : ti34.size = 1 := _root_.id rfl
theorem ti34_bytes : ti34.bytes = 8 := _root_.id rfl
theorem ti34_zs : zszW ti34 = True := eq_true rfl
theorem ti34_zc : zc ti34 = [.v Value.nilFunc] := _root_.id rfl
theorem ty35 {K : TI → Prop} : @tyW Tryz.prog 35 ⟨K⟩ = K ti35 := ty_of tf35
theorem ti35_kd : ti35.kd = Kd.oth := _root_.id rfl
theorem ti35_agg : ti35.kd.agg = false := _root_.id rfl
theorem ti35_size : ti35.size = 1 := _root_.id rfl
theorem ti35_bytes : ti35.bytes = 8 := _root_.id rfl
theorem ti35_zs : zszW ti35 = True := eq_true rfl
theorem ti35_zc : zc ti35 = [.v Value.nilFunc] := _root_.id rfl
theorem ty36 {K : TI → Prop} : @tyW Tryz.prog 36 ⟨K⟩ = K ti36 := ty_of tf36
theorem ti36_kd : ti36.kd = Kd.oth := _root_.id rfl
theorem ti36_agg : ti36.kd.agg = false := _root_.id rfl
theorem ti36_size : ti36.size = 1 := _root_.id rfl
theorem ti36_bytes : ti36.bytes = 8 := _root_.id rfl
theorem ti36_zs : zszW ti36 = True := eq_true rfl
theorem ti36_zc : zc ti36 = [.v Value.nilFunc] := _root_.id rfl
theorem ty37 {K : TI → Prop} : @tyW Tryz.prog 37 ⟨K⟩ = K ti37 := ty_of tf37
theorem ti37_kd : ti37.kd = Kd.oth := _root_.id rfl
theorem ti37_agg : ti37.kd.agg = false := _root_.id rfl
theorem ti37_size : ti37.size = 1 := _root_.id rfl
theorem ti37_bytes : ti37.bytes = 8 := _root_.id rfl
theorem ti37_zs : zszW ti37 = True := eq_true rfl
theorem ti37_zc : zc ti37 = [.v Value.nilFunc] := _root_.id rfl
theorem ty38 {K : TI → Prop} : @tyW Tryz.prog 38 ⟨K⟩ = K ti38 := ty_of tf38
theorem ti38_kd : ti38.kd = Kd.oth := _root_.id rfl
theorem ti38_agg : ti38.kd.agg = false := _root_.id rfl
theorem ti38_size : ti38.size = 1 := _root_.id rfl
theorem ti38_bytes : ti38.bytes = 8 := _root_.id rfl
theorem ti38_zs : zszW ti38 = True := eq_true rfl
theorem ti38_zc : zc ti38 = [.v Value.nilFunc] := _root_.id rfl
theorem ty39 {K : TI → Prop} : @tyW Tryz.prog 39 ⟨K⟩ = K ti39 := ty_of tf39
theorem ti39_kd : ti39.kd = Kd.oth := _root_.id rfl
theorem ti39_agg : ti39.kd.agg = false := _root_.id rfl
theorem ti39_size : ti39.size = 1 := _root_.id rfl
theorem ti39_bytes : ti39.bytes = 8 := _root_.id rfl
theorem ti39_zs : zszW ti39 = True := eq_true rfl
theorem ti39_zc : zc ti39 = [.v Value.nilFunc] := _root_.id rfl
theorem ty40 {K : TI → Prop} : @tyW Tryz.prog 40 ⟨K⟩ = K ti40 := ty_of tf40
theorem ti40_kd : ti40.kd = Kd.sli 29 := _root_.id rfl
theorem ti40_agg : ti40.kd.agg = false := _root_.id rfl
theorem ti40_size : ti40.size = 1 := _root_.id rfl
theorem ti40_bytes : ti40.bytes = 24 := _root_.id rfl
theorem ti40_zs : zszW ti40 = True := eq_true rfl
theorem ti40_zc : zc ti40 = [.v (Value.slice none 0 0)] := _root_.id rfl
theorem sli40 {K : TI → Prop} : @sliW Tryz.prog 40 ⟨K⟩ = K ti29 := sli_of tf40 rfl tf29
theorem ty41 {K : TI → Prop} : @tyW Tryz.prog 41 ⟨K⟩ = K ti41 := ty_of tf41
theorem ti41_kd : ti41.kd = Kd.stru [(0, 3), (1, 40)] := _root_.id rfl
theorem ti41_agg : ti41.kd.agg = true := _root_.id rfl
theorem ti41_size : ti41.size = 2 := _root_.id rfl
theorem ti41_bytes : ti41.bytes = 32 := _root_.id rfl
theorem ti41_zs : zszW ti41 = True := eq_true rfl
theorem ti41_zc : zc ti41 = [.v (Value.int IntKind.i64 0), .v (Value.slice none 0 0)] := _root_.id rfl
theorem fld41_0 {K : Nat → TI → Prop} : @fieldW Tryz.prog 41 0 ⟨K⟩ = K 0 ti3 := field_of (ti := ti41) (tf := ti3) (fo := (0, 3)) (fs := [(0, 3), (1, 40)]) tf41 rfl rfl tf3
theorem pl41_0 {K : Nat → Nat → Prop} : placeF Tryz.prog [(0, 3), (1, 40)] 0 K = K 0 1 := place_of (tf := ti3) (fo := (0, 3)) (fs := [(0, 3), (1, 40)]) rfl tf3
theorem fld41_1 {K : Nat → TI → Prop} : @fieldW Tryz.prog 41 1 ⟨K⟩ = K 1 ti40 := field_of (ti := ti41) (tf := ti40) (fo := (1, 40)) (fs := [(0, 3), (1, 40)]) tf41 rfl rfl tf40
theorem pl41_1 {K : Nat → Nat → Prop} : placeF Tryz.prog [(0, 3), (1, 40)] 1 K = K 1 1 := place_of (tf := ti40) (fo := (1, 40)) (fs := [(0, 3), (1, 40)]) rfl tf40
theorem fsok41 : ∀ f ∈ ([(0, 3), (1, 40)] : List (Nat × Nat)), (tyOf Tryz.prog f.2).isSome = true := by
 intro f hf
 simp only [List.mem_cons, List.not_mem_nil, or_false] at hf
 rcases hf with rfl | rfl
 ·rw [tf3]; rfl
 ·rw [tf40]; rfl
theorem bld41 {ps : List (Nat × AV)} {K : AV → Prop} : @buildW Tryz.prog 41 ps ⟨K⟩ = @fillW (placeF Tryz.prog [(0, 3), (1, 40)]) (zc ti41) ps ⟨fun cs => K (.ag cs)⟩ := build_of tf41 rfl fsok41
theorem ty42 {K : TI → Prop} : @tyW Tryz.prog 42 ⟨K⟩ = K ti42 := ty_of tf42
theorem ti42_kd : ti42.kd = Kd.stru [(0, 3), (1, 40)] := _root_.id rfl
theorem ti42_agg : ti42.kd.agg = true := _root_.id rfl
theorem ti42_size : ti42.size = 2 := _root_.id rfl
theorem ti42_bytes : ti42.bytes = 32 := _root_.id rfl
theorem ti42_zs : zszW ti42 = True := eq_true rfl
theorem ti42_zc : zc ti42 = [.v (Value.int IntKind.i64 0), .v (Value.slice none 0 0)] := _root_.id rfl
theorem fld42_0 {K : Nat → TI → Prop} : @fieldW Tryz.prog 42 0 ⟨K⟩ = K 0 ti3 := field_of (ti := ti42) (tf := ti3) (fo := (0, 3)) (fs := [(0, 3), (1, 40)]) tf42 rfl rfl tf3
theorem pl42_0 {K : Nat → Nat → Prop} : placeF Tryz.prog [(0, 3), (1, 40)] 0 K = K 0 1 := place_of (tf := ti3) (fo := (0, 3)) (fs := [(0, 3), (1, 40)]) rfl tf3
theorem fld42_1 {K : Nat → TI → Prop} : @fieldW Tryz.prog 42 1 ⟨K⟩ = K 1 ti40 := field_of (ti := ti42) (tf := ti40) (fo := (1, 40)) (fs := [(0, 3), (1, 40)]) tf42 rfl rfl tf40
theorem pl42_1 {K : Nat → Nat → Prop} : placeF Tryz.prog [(0, 3), (1, 40)] 1 K = K 1 1 := place_of (tf := ti40) (fo := (1, 40)) (fs := [(0, 3), (1, 40)]) rfl tf40
theorem fsok42 : ∀ f ∈ ([(0, 3), (1, 40)] : List (Nat × Nat)), (tyOf Tryz.prog f.2).isSome = true := by
 intro f hf
 simp only [List.mem_cons, List.not_mem_nil, or_false] at hf
 rcases hf with rfl | rfl
 ·rw [tf3]; rfl
 ·rw [tf40]; rfl
theorem bld42 {ps : List (Nat × AV)} {K : AV → Prop} : @buildW Tryz.prog 42 ps ⟨K⟩ = @fillW (placeF Tryz.prog [(0, 3), (1, 40)]) (zc ti42) ps ⟨fun cs => K (.ag cs)⟩ := build_of tf42 rfl fsok42
theorem ty44 {K : TI → Prop} : @tyW Tryz.prog 44 ⟨K⟩ = K ti44 := ty_of tf44
theorem ti44_kd : ti44.kd = Kd.oth := _root_.id rfl
theorem ti44_agg : ti44.kd.agg = false := _root_.id rfl
theorem ti44_size : ti44.size = 1 := _root_.id rfl
theorem ti44_bytes : ti44.bytes = 8 := _root_.id rfl
theorem ti44_zs : zszW ti44 = True := eq_true rfl
theorem ti44_zc : zc ti44 = [.v Value.nilFunc] := _root_.id rfl
theorem ty45 {K : TI → Prop} : @tyW Tryz.prog 45 ⟨K⟩ = K ti45 := ty_of tf45
theorem ti45_kd : ti45.kd = Kd.oth := _root_.id rfl
theorem ti45_agg : ti45.kd.agg = false := _root_.id rfl
theorem ti45_size : ti45.size = 1 := _root_.id rfl
theorem ti45_bytes : ti45.bytes = 8 := _root_.id rfl
theorem ti45_zs : zszW ti45 = True := eq_true rfl
theorem ti45_zc : zc ti45 = [.v Value.nilFunc] := _root_.id rfl
theorem ty47 {K : TI → Prop} : @tyW Tryz.prog 47 ⟨K⟩ = K ti47 := ty_of tf47
theorem ti47_kd : ti47.kd = Kd.oth := _root_.id rfl
theorem ti47_agg : ti47.kd.agg = false := _root_.id rfl
theorem ti47_size : ti47.size = 1 := _root_.id rfl
theorem ti47_bytes : ti47.bytes = 8 := _root_.id rfl
theorem ti47_zs : zszW ti47 = True := eq_true rfl
theorem ti47_zc : zc ti47 = [.v Value.nilFunc] := _root_.id rfl
theorem ty48 {K : TI → Prop} : @tyW Tryz.prog 48 ⟨K⟩ = K ti48 := ty_of tf48
theorem ti48_kd : ti48.kd = Kd.oth := _root_.id rfl
theorem ti48_agg : ti48.kd.agg = false := _root_.id rfl
theorem ti48_size : ti48.size = 1 := _root_.id rfl
theorem ti48_bytes : ti48.bytes = 8 := _root_.id rfl
theorem ti48_zs : zszW ti48 = True := eq_true rfl
theorem ti48_zc : zc ti48 = [.v Value.nilFunc] := _root_.id rfl
theorem ty49 {K : TI → Prop} : @tyW Tryz.prog 49 ⟨K⟩ = K ti49 := ty_of tf49
theorem ti49_kd : ti49.kd = Kd.stru [(0, 29), (3, 29)] := _root_.id rfl
theorem ti49_agg : ti49.kd.agg = true := _root_.id rfl
theorem ti49_size : ti49.size = 6 := _root_.id rfl
theorem ti49_bytes : ti49.bytes = 80 := _root_.id rfl
theorem ti49_zs : zszW ti49 = True := eq_true rfl
theorem ti49_zc : zc ti49 = [.v (Value.bool false), .v (Value.slice none 0 0), .v (Value.int IntKind.i64 0), .v (Value.bool false), .v (Value.slice none 0 0), .v (Value.int IntKind.i64 0)] := _root_.id rfl
theorem fld49_0 {K : Nat → TI → Prop} : @fieldW Tryz.prog 49 0 ⟨K⟩ = K 0 ti29 := field_of (ti := ti49) (tf := ti29) (fo := (0, 29)) (fs := [(0, 29), (3, 29)]) tf49 rfl rfl tf29
theorem pl49_0 {K : Nat → Nat → Prop} : placeF Tryz.prog [(0, 29), (3, 29)] 0 K = K 0 3 := place_of (tf := ti29) (fo := (0, 29)) (fs := [(0, 29), (3, 29)]) rfl tf29
theorem fld49_1 {K : Nat → TI → Prop} : @fieldW Tryz.prog 49 1 ⟨K⟩ = K 3 ti29 := field_of (ti := ti49) (tf := ti29) (fo := (3, 29)) (fs := [(0, 29), (3, 29)]) tf49 rfl rfl tf29
theorem pl49_1 {K : Nat → Nat → Prop} : placeF Tryz.prog [(0, 29), (3, 29)] 1 K = K 3 3 := place_of (tf := ti29) (fo := (3, 29)) (fs := [(0, 29), (3, 29)]) rfl tf29
theorem fsok49 : ∀ f ∈ ([(0, 29), (3, 29)] : List (Nat × Nat)), (tyOf Tryz.prog f.2).isSome = true := by
 intro f hf
 simp only [List.mem_cons, List.not_mem_nil, or_false] at hf
 rcases hf with rfl | rfl
 ·rw [tf29]; rfl
 ·rw [tf29]; rfl
theorem bld49 {ps : List (Nat × AV)} {K : AV → Prop} : @buildW Tryz.prog 49 ps ⟨K⟩ = @fillW (placeF Tryz.prog [(0, 29), (3, 29)]) (zc ti49) ps ⟨fun cs => K (.ag cs)⟩ := build_of tf49 rfl fsok49
theorem ty50 {K : TI → Prop} : @tyW Tryz.prog 50 ⟨K⟩ = K ti50 := ty_of tf50
theorem ti50_kd : ti50.kd = Kd.stru [(0, 29), (3, 29)] := _root_.id rfl
theorem ti50_agg : ti50.kd.agg = true := _root_.id rfl
theorem ti50_size : ti50.size = 6 := _root_.id rfl
theorem ti50_bytes : ti50.bytes = 80 := _root_.id rfl
theorem ti50_zs : zszW ti50 = True := eq_true rfl
theorem ti50_zc : zc ti50 = [.v (Value.bool false), .v (Value.slice none 0 0), .v (Value.int IntKind.i64 0), .v (Value.bool false), .v (Value.slice none 0 0), .v (Value.int IntKind.i64 0)] := _root_.id rfl
theorem fld50_0 {K : Nat → TI → Prop} : @fieldW Tryz.prog 50 0 ⟨K⟩ = K 0 ti29 := field_of (ti := ti50) (tf := ti29) (fo := (0, 29)) (fs := [(0, 29), (3, 29)]) tf50 rfl rfl tf29
theorem pl50_0 {K : Nat → Nat → Prop} : placeF Tryz.prog [(0, 29), (3, 29)] 0 K = K 0 3 := place_of (tf := ti29) (fo := (0, 29)) (fs := [(0, 29), (3, 29)]) rfl tf29
theorem fld50_1 {K : Nat → TI → Prop} : @fieldW Tryz.prog 50 1 ⟨K⟩ = K 3 ti29 := field_of (ti := ti50) (tf := ti29) (fo := (3, 29)) (fs := [(0, 29), (3, 29)]) tf50 rfl rfl tf29
theorem pl50_1 {K : Nat → Nat → Prop} : placeF Tryz.prog [(0, 29), (3, 29)] 1 K = K 3 3 := place_of (tf := ti29) (fo := (3, 29)) (fs := [(0, 29), (3, 29)]) rfl tf29
theorem fsok50 : ∀ f ∈ ([(0, 29), (3, 29)] : List (Nat × Nat)), (tyOf Tryz.prog f.2).isSome = true := by
 intro f hf
 simp only [List.mem_cons, List.not_mem_nil, or_false] at hf
 rcases hf with rfl | rfl
 ·rw [tf29]; rfl
 ·rw [tf29]; rfl
theorem bld50 {ps : List (Nat × AV)} {K : AV → Prop} : @buildW Tryz.prog 50 ps ⟨K⟩ = @fillW (placeF Tryz.prog [(0, 29), (3, 29)]) (zc ti50) ps ⟨fun cs => K (.ag cs)⟩ := build_of tf50 rfl fsok50
theorem ty52 {K : TI → Prop} : @tyW Tryz.prog 52 ⟨K⟩ = K ti52 := ty_of tf52
theorem ti52_kd : ti52.kd = Kd.oth := _root_.id rfl
theorem ti52_agg : ti52.kd.agg = false := _root_.id rfl
theorem ti52_size : ti52.size = 1 := _root_.id rfl
theorem ti52_bytes : ti52.bytes = 8 := _root_.id rfl
theorem ti52_zs : zszW ti52 = True := eq_true rfl
theorem ti52_zc : zc ti52 = [.v Value.nilFunc] := _root_.id rfl
theorem ty54 {K : TI → Prop} : @tyW Tryz.prog 54 ⟨K⟩ = K ti54 := ty_of tf54
theorem ti54_kd : ti54.kd = Kd.oth := _root_.id rfl
theorem ti54_agg : ti54.kd.agg = false := _root_.id rfl
theorem ti54_size : ti54.size = 1 := _root_.id rfl
theorem ti54_bytes : ti54.bytes = 8 := _root_.id rfl
theorem ti54_zs : zszW ti54 = True := eq_true rfl
theorem ti54_zc : zc ti54 = [.v Value.nilFunc] := _root_.id rfl
theorem ty55 {K : TI → Prop} : @tyW Tryz.prog 55 ⟨K⟩ = K ti55 := ty_of tf55
theorem ti55_kd : ti55.kd = Kd.oth := _root_.id rfl
theorem ti55_agg : ti55.kd.agg = false := _root_.id rfl
theorem ti55_size : ti55.size = 1 := _root_.id rfl
theorem ti55_bytes : ti55.bytes = 8 := _root_.id rfl
theorem ti55_zs : zszW ti55 = True := eq_true rfl
theorem ti55_zc : zc ti55 = [.v Value.nilFunc] := _root_.id rfl
theorem ty56 {K : TI → Prop} : @tyW Tryz.prog 56 ⟨K⟩ = K ti56 := ty_of tf56
theorem ti56_kd : ti56.kd = Kd.oth := _root_.id rfl
theorem ti56_agg : ti56.kd.agg = false := _root_.id rfl
theorem ti56_size : ti56.size = 1 := _root_.id rfl
theorem ti56_bytes : ti56.bytes = 8 := _root_.id rfl
theorem ti56_zs : zszW ti56 = True := eq_true rfl
theorem ti56_zc : zc ti56 = [.v Value.nilFunc] := _root_.id rfl
theorem ty57 {K : TI → Prop} : @tyW Tryz.prog 57 ⟨K⟩ = K ti57 := ty_of tf57
theorem ti57_kd : ti57.kd = Kd.oth := _root_.id rfl
theorem ti57_agg : ti57.kd.agg = false := _root_.id rfl
theorem ti57_size : ti57.size = 1 := _root_.id rfl
theorem ti57_bytes : ti57.bytes = 8 := _root_.id rfl
theorem ti57_zs : zszW ti57 = True := eq_true rfl
theorem ti57_zc : zc ti57 = [.v Value.nilFunc] := _root_.id rfl
theorem ty58 {K : TI → Prop} : @tyW Tryz.prog 58 ⟨K⟩ = K ti58 := ty_of tf58
theorem ti58_kd : ti58.kd = Kd.oth := _root_.id rfl
theorem ti58_agg : ti58.kd.agg = false := _root_.id rfl
theorem ti58_size : ti58.size = 1 := _root_.id rfl
theorem ti58_bytes : ti58.bytes = 8 := _root_.id rfl
theorem ti58_zs : zszW ti58 = True := eq_true rfl
theorem ti58_zc : zc ti58 = [.v Value.nilFunc] := _root_.id rfl
theorem ty59 {K : TI → Prop} : @tyW Tryz.prog 59 ⟨K⟩ = K ti59 := ty_of tf59
theorem ti59_kd : ti59.kd = Kd.oth := _root_.id rfl
theorem ti59_agg : ti59.kd.agg = false := _root_.id rfl
theorem ti59_size : ti59.size = 1 := _root_.id rfl
theorem ti59_bytes : ti59.bytes = 8 := _root_.id rfl
theorem ti59_zs : zszW ti59 = True := eq_true rfl
theorem ti59_zc : zc ti59 = [.v Value.nilFunc] := _root_.id rfl
theorem ty60 {K : TI → Prop} : @tyW Tryz.prog 60 ⟨K⟩ = K ti60 := ty_of tf60
theorem ti60_kd : ti60.kd = Kd.oth := _root_.id rfl
theorem ti60_agg : ti60.kd.agg = false := _root_.id rfl
theorem ti60_size : ti60.size = 1 := _root_.id rfl
theorem ti60_bytes : ti60.bytes = 8 := _root_.id rfl
theorem ti60_zs : zszW ti60 = True := eq_true rfl
theorem ti60_zc : zc ti60 = [.v Value.nilFunc] := _root_.id rfl
theorem ty61 {K : TI → Prop} : @tyW Tryz.prog 61 ⟨K⟩ = K ti61 := ty_of tf61
theorem ti61_kd : ti61.kd = Kd.oth := _root_.id rfl
theorem ti61_agg : ti61.kd.agg = false := _root_.id rfl
theorem ti61_size : ti61.size = 1 := _root_.id rfl
theorem ti61_bytes : ti61.bytes = 8 := _root_.id rfl
theorem ti61_zs : zszW ti61 = True := eq_true rfl
theorem ti61_zc : zc ti61 = [.v Value.nilFunc] := _root_.id rfl
theorem ty62 {K : TI → Prop} : @tyW Tryz.prog 62 ⟨K⟩ = K ti62 := ty_of tf62
theorem ti62_kd : ti62.kd = Kd.stru [(0, 3), (1, 4), (2, 3), (3, 3)] := _root_.id rfl
theorem ti62_agg : ti62.kd.agg = true := _root_.id rfl
theorem ti62_size : ti62.size = 4 := _root_.id rfl
theorem ti62_bytes : ti62.bytes = 32 := _root_.id rfl
theorem ti62_zs : zszW ti62 = True := eq_true rfl
theorem ti62_zc : zc ti62 = [.v (Value.int IntKind.i64 0), .v (Value.bool false), .v (Value.int IntKind.i64 0), .v (Value.int IntKind.i64 0)] := _root_.id rfl
theorem fld62_0 {K : Nat → TI → Prop} : @fieldW Tryz.prog 62 0 ⟨K⟩ = K 0 ti3 := field_of (ti := ti62) (tf := ti3) (fo := (0, 3)) (fs := [(0, 3), (1, 4), (2, 3), (3, 3)]) tf62 rfl rfl tf3
theorem pl62_0 {K : Nat → Nat → Prop} : placeF Tryz.prog [(0, 3), (1, 4), (2, 3), (3, 3)] 0 K = K 0 1 := place_of (tf := ti3) (fo := (0, 3)) (fs := [(0, 3), (1, 4), (2, 3), (3, 3)]) rfl tf3
theorem fld62_1 {K : Nat → TI → Prop} : @fieldW Tryz.prog 62 1 ⟨K⟩ = K 1 ti4 := field_of (ti := ti62) (tf := ti4) (fo := (1, 4)) (fs := [(0, 3), (1, 4), (2, 3), (3, 3)]) tf62 rfl rfl tf4
theorem pl62_1 {K : Nat → Nat → Prop} : placeF Tryz.prog [(0, 3), (1, 4), (2, 3), (3, 3)] 1 K = K 1 1 := place_of (tf := ti4) (fo := (1, 4)) (fs := [(0, 3), (1, 4), (2, 3), (3, 3)]) rfl tf4
theorem fld62_2 {K : Nat → TI → Prop} : @fieldW Tryz.prog 62 2 ⟨K⟩ = K 2 ti3 := field_of (ti := ti62) (tf := ti3) (fo := (2, 3)) (fs := [(0, 3), (1, 4), (2, 3), (3, 3)]) tf62 rfl rfl tf3
theorem pl62_2 {K : Nat → Nat → Prop} : placeF Tryz.prog [(0, 3), (1, 4), (2, 3), (3, 3)] 2 K = K 2 1 := place_of (tf := ti3) (fo := (2, 3)) (fs := [(0, 3), (1, 4), (2, 3), (3, 3)]) rfl tf3
theorem fld62_3 {K : Nat → TI → Prop} : @fieldW Tryz.prog 62 3 ⟨K⟩ = K 3 ti3 := field_of (ti := ti62) (tf := ti3) (fo := (3, 3)) (fs := [(0, 3), (1, 4), (2, 3), (3, 3)]) tf62 rfl rfl tf3
theorem pl62_3 {K : Nat → Nat → Prop} : placeF Tryz.prog [(0, 3), (1, 4), (2, 3), (3, 3)] 3 K = K 3 1 := place_of (tf := ti3) (fo := (3, 3)) (fs := [(0, 3), (1, 4), (2, 3), (3, 3)]) rfl tf3
theorem fsok62 : ∀ f ∈ ([(0, 3), (1, 4), (2, 3), (3, 3)] : List (Nat × Nat)), (tyOf Tryz.prog f.2).isSome = true := by
 intro f hf
 simp only [List.mem_cons, List.not_mem_nil, or_false] at hf
 rcases hf with rfl | rfl | rfl | rfl
 ·rw [tf3]; rfl
 ·rw [tf4]; rfl
 ·rw [tf3]; rfl
 ·rw [tf3]; rfl
theorem bld62 {ps : List (Nat × AV)} {K : AV → Prop} : @buildW Tryz.prog 62 ps ⟨K⟩ = @fillW (placeF Tryz.prog [(0, 3), (1, 4), (2, 3), (3, 3)]) (zc ti62) ps ⟨fun cs => K (.ag cs)⟩ := build_of tf62 rfl fsok62
theorem ty63 {K : TI → Prop} : @tyW Tryz.prog 63 ⟨K⟩ = K ti63 := ty_of tf63
theorem ti63_kd : ti63.kd = Kd.stru [(0, 3), (1, 4), (2, 3), (3, 3)] := _root_.id rfl
theorem ti63_agg : ti63.kd.agg = true := _root_.id rfl
theorem ti63_size : ti63.size = 4 := _root_.id rfl
theorem ti63_bytes : ti63.bytes = 32 := _root_.id rfl
theorem ti63_zs : zszW ti63 = True := eq_true rfl
theorem ti63_zc : zc ti63 = [.v (Value.int IntKind.i64 0), .v (Value.bool false), .v (Value.int IntKind.i64 0), .v (Value.int IntKind.i64 0)] := _root_.id rfl
theorem fld63_0 {K : Nat → TI → Prop} : @fieldW Tryz.prog 63 0 ⟨K⟩ = K 0 ti3 := field_of (ti := ti63) (tf := ti3) (fo := (0, 3)) (fs := [(0, 3), (1, 4), (2, 3), (3, 3)]) tf63 rfl rfl tf3
theorem pl63_0 {K : Nat → Nat → Prop} : placeF Tryz.prog [(0, 3), (1, 4), (2, 3), (3, 3)] 0 K = K 0 1 := place_of (tf := ti3) (fo := (0, 3)) (fs := [(0, 3), (1, 4), (2, 3), (3, 3)]) rfl tf3
theorem fld63_1 {K : Nat → TI → Prop} : @fieldW Tryz.prog 63 1 ⟨K⟩ = K 1 ti4 := field_of (ti := ti63) (tf := ti4) (fo := (1, 4)) (fs := [(0, 3), (1, 4), (2, 3), (3, 3)]) tf63 rfl rfl tf4
theorem pl63_1 {K : Nat → Nat → Prop} : placeF Tryz.prog [(0, 3), (1, 4), (2, 3), (3, 3)] 1 K = K 1 1 := place_of (tf := ti4) (fo := (1, 4)) (fs := [(0, 3), (1, 4), (2, 3), (3, 3)]) rfl tf4
theorem fld63_2 {K : Nat → TI → Prop} : @fieldW Tryz.prog 63 2 ⟨K⟩ = K 2 ti3 := field_of (ti := ti63) (tf := ti3) (fo := (2, 3)) (fs := [(0, 3), (1, 4), (2, 3), (3, 3)]) tf63 rfl rfl tf3
theorem pl63_2 {K : Nat → Nat → Prop} : placeF Tryz.prog [(0, 3), (1, 4), (2, 3), (3, 3)] 2 K = K 2 1 := place_of (tf := ti3) (fo := (2, 3)) (fs := [(0, 3), (1, 4), (2, 3), (3, 3)]) rfl tf3
theorem fld63_3 {K : Nat → TI → Prop} : @fieldW Tryz.prog 63 3 ⟨K⟩ = K 3 ti3 := field_of (ti := ti63) (tf := ti3) (fo := (3, 3)) (fs := [(0, 3), (1, 4), (2, 3), (3, 3)]) tf63 rfl rfl tf3
theorem pl63_3 {K : Nat → Nat → Prop} : placeF Tryz.prog [(0, 3), (1, 4), (2, 3), (3, 3)] 3 K = K 3 1 := place_of (tf := ti3) (fo := (3, 3)) (fs := [(0, 3), (1, 4), (2, 3), (3, 3)]) rfl tf3
theorem fsok63 : ∀ f ∈ ([(0, 3), (1, 4), (2, 3), (3, 3)] : List (Nat × Nat)), (tyOf Tryz.prog f.2).isSome = true := by
 intro f hf
 simp only [List.mem_cons, List.not_mem_nil, or_false] at hf
 rcases hf with rfl | rfl | rfl | rfl
 ·rw [tf3]; rfl
 ·rw [tf4]; rfl
 ·rw [tf3]; rfl
 ·rw [tf3]; rfl
theorem bld63 {ps : List (Nat × AV)} {K : AV → Prop} : @buildW Tryz.prog 63 ps ⟨K⟩ = @fillW (placeF Tryz.prog [(0, 3), (1, 4), (2, 3), (3, 3)]) (zc ti63) ps ⟨fun cs => K (.ag cs)⟩ := build_of tf63 rfl fsok63
theorem ty65 {K : TI → Prop} : @tyW Tryz.prog 65 ⟨K⟩ = K ti65 := ty_of tf65
theorem ti65_kd : ti65.kd = Kd.oth := _root_.id rfl
theorem ti65_agg : ti65.kd.agg = false := _root_.id rfl
theorem ti65_size : ti65.size = 1 := _root_.id rfl
theorem ti65_bytes : ti65.bytes = 8 := _root_.id rfl
theorem ti65_zs : zszW ti65 = True := eq_true rfl
theorem ti65_zc : zc ti65 = [.v Value.nilFunc] := _root_.id rfl
theorem ty67 {K : TI → Prop} : @tyW Tryz.prog 67 ⟨K⟩ = K ti67 := ty_of tf67
theorem ti67_kd : ti67.kd = Kd.oth := _root_.id rfl
theorem ti67_agg : ti67.kd.agg = false := _root_.id rfl
theorem ti67_size : ti67.size = 1 := _root_.id rfl
theorem ti67_bytes : ti67.bytes = 8 := _root_.id rfl
theorem ti67_zs : zszW ti67 = True := eq_true rfl
theorem ti67_zc : zc ti67 = [.v Value.nilFunc] := _root_.id rfl
theorem ty68 {K : TI → Prop} : @tyW Tryz.prog 68 ⟨K⟩ = K ti68 := ty_of tf68
theorem ti68_kd : ti68.kd = Kd.oth := _root_.id rfl
theorem ti68_agg : ti68.kd.agg = false := _root_.id rfl
theorem ti68_size : ti68.size = 1 := _root_.id rfl
theorem ti68_bytes : ti68.bytes = 8 := _root_.id rfl
theorem ti68_zs : zszW ti68 = True := eq_true rfl
theorem ti68_zc : zc ti68 = [.v Value.nilFunc] := _root_.id rfl
theorem ty69 {K : TI → Prop} : @tyW Tryz.prog 69 ⟨K⟩ = K ti69 := ty_of tf69
theorem ti69_kd : ti69.kd = Kd.oth := _root_.id rfl
theorem ti69_agg : ti69.kd.agg = false := _root_.id rfl
theorem ti69_size : ti69.size = 1 := _root_.id rfl
theorem ti69_bytes : ti69.bytes = 8 := _root_.id rfl
theorem ti69_zs : zszW ti69 = True := eq_true rfl
theorem ti69_zc : zc ti69 = [.v Value.nilFunc] := _root_.id rfl
theorem ty70 {K : TI → Prop} : @tyW Tryz.prog 70 ⟨K⟩ = K ti70 := ty_of tf70
theorem ti70_kd : ti70.kd = Kd.oth := _root_.id rfl
theorem ti70_agg : ti70.kd.agg = false := _root_.id rfl
theorem ti70_size : ti70.size = 1 := _root_.id rfl
theorem ti70_bytes : ti70.bytes = 8 := _root_.id rfl
theorem ti70_zs : zszW ti70 = True := eq_true rfl
theorem ti70_zc : zc ti70 = [.v Value.nilFunc] := _root_.id rfl
theorem ty71 {K : TI → Prop} : @tyW Tryz.prog 71 ⟨K⟩ = K ti71 := ty_of tf71
theorem ti71_kd : ti71.kd = Kd.oth := _root_.id rfl
theorem ti71_agg : ti71.kd.agg = false := _root_.id rfl
theorem ti71_size : ti71.size = 1 := _root_.id rfl
theorem ti71_bytes : ti71.bytes = 8 := _root_.id rfl
theorem ti71_zs : zszW ti71 = True := eq_true rfl
theorem ti71_zc : zc ti71 = [.v Value.nilFunc] := _root_.id rfl
theorem ty72 {K : TI → Prop} : @tyW Tryz.prog 72 ⟨K⟩ = K ti72 := ty_of tf72
theorem ti72_kd : ti72.kd = Kd.oth := _root_.id rfl
theorem ti72_agg : ti72.kd.agg = false := _root_.id rfl
theorem ti72_size : ti72.size = 1 := _root_.id rfl
theorem ti72_bytes : ti72.bytes = 8 := _root_.id rfl
theorem ti72_zs : zszW ti72 = True := eq_true rfl
theorem ti72_zc : zc ti72 = [.v Value.nilFunc] := _root_.id rfl
theorem ty74 {K : TI → Prop} : @tyW Tryz.prog 74 ⟨K⟩ = K ti74 := ty_of tf74
theorem ti74_kd : ti74.kd = Kd.oth := _root_.id rfl
theorem ti74_agg : ti74.kd.agg = false := _root_.id rfl
theorem ti74_size : ti74.size = 1 := _root_.id rfl
theorem ti74_bytes : ti74.bytes = 8 := _root_.id rfl
theorem ti74_zs : zszW ti74 = True := eq_true rfl
theorem ti74_zc : zc ti74 = [.v Value.nilFunc] := _root_.id rfl
theorem ty76 {K : TI → Prop} : @tyW Tryz.prog 76 ⟨K⟩ = K ti76 := ty_of tf76
theorem ti76_kd : ti76.kd = Kd.oth := _root_.id rfl
theorem ti76_agg : ti76.kd.agg = false := _root_.id rfl
theorem ti76_size : ti76.size = 1 := _root_.id rfl
theorem ti76_bytes : ti76.bytes = 8 := _root_.id rfl
theorem ti76_zs : zszW ti76 = True := eq_true rfl
theorem ti76_zc : zc ti76 = [.v Value.nilFunc] := _root_.id rfl
theorem ty77 {K : TI → Prop} : @tyW Tryz.prog 77 ⟨K⟩ = K ti77 := ty_of tf77
theorem ti77_kd : ti77.kd = Kd.oth := _root_.id rfl
theorem ti77_agg : ti77.kd.agg = false := _root_.id rfl
theorem ti77_size : ti77.size = 1 := _root_.id rfl
theorem ti77_bytes : ti77.bytes = 8 := _root_.id rfl
theorem ti77_zs : zszW ti77 = True := eq_true rfl
theorem ti77_zc : zc ti77 = [.v Value.nilFunc] := _root_.id rfl
theorem ty79 {K : TI → Prop} : @tyW Tryz.prog 79 ⟨K⟩ = K ti79 := ty_of tf79
theorem ti79_kd : ti79.kd = Kd.oth := _root_.id rfl
theorem ti79_agg : ti79.kd.agg = false := _root_.id rfl
theorem ti79_size : ti79.size = 1 := _root_.id rfl
theorem ti79_bytes : ti79.bytes = 8 := _root_.id rfl
theorem ti79_zs : zszW ti79 = True := eq_true rfl
theorem ti79_zc : zc ti79 = [.v Value.nilFunc] := _root_.id rfl
theorem ty80 {K : TI → Prop} : @tyW Tryz.prog 80 ⟨K⟩ = K ti80 := ty_of tf80
theorem ti80_kd : ti80.kd = Kd.oth := _root_.id rfl
theorem ti80_agg : ti80.kd.agg = false := _root_.id rfl
theorem ti80_size : ti80.size = 1 := _root_.id rfl
theorem ti80_bytes : ti80.bytes = 8 := _root_.id rfl
theorem ti80_zs : zszW ti80 = True := eq_true rfl
theorem ti80_zc : zc ti80 = [.v Value.nilFunc] := _root_.id rfl
theorem ty82 {K : TI → Prop} : @tyW Tryz.prog 82 ⟨K⟩ = K ti82 := ty_of tf82
theorem ti82_kd : ti82.kd = Kd.oth := _root_.id rfl
theorem ti82_agg : ti82.kd.agg = false := _root_.id rfl
theorem ti82_size : ti82.size = 1 := _root_.id rfl
theorem ti82_bytes : ti82.bytes = 8 := _root_.id rfl
theorem ti82_zs : zszW ti82 = True := eq_true rfl
theorem ti82_zc : zc ti82 = [.v Value.nilFunc] := _root_.id rfl
theorem ty83 {K : TI → Prop} : @tyW Tryz.prog 83 ⟨K⟩ = K ti83 := ty_of tf83
theorem ti83_kd : ti83.kd = Kd.oth := _root_.id rfl
theorem ti83_agg : ti83.kd.agg = false := _root_.id rfl
theorem ti83_size : ti83.size = 1 := _root_.id rfl
theorem ti83_bytes : ti83.bytes = 8 := _root_.id rfl
theorem ti83_zs : zszW ti83 = True := eq_true rfl
theorem ti83_zc : zc ti83 = [.v Value.nilFunc] := _root_.id rfl
theorem ty84 {K : TI → Prop} : @tyW Tryz.prog 84 ⟨K⟩ = K ti84 := ty_of tf84
theorem ti84_kd : ti84.kd = Kd.oth := _root_.id rfl
theorem ti84_agg : ti84.kd.agg = false := _root_.id rfl
theorem ti84_size : ti84.size = 1 := _root_.id rfl
theorem ti84_bytes : ti84.bytes = 8 := _root_.id rfl
theorem ti84_zs : zszW ti84 = True := eq_true rfl
theorem ti84_zc : zc ti84 = [.v Value.nilFunc] := _root_.id rfl
theorem ty85 {K : TI → Prop} : @tyW Tryz.prog 85 ⟨K⟩ = K ti85 := ty_of tf85
theorem ti85_kd : ti85.kd = Kd.oth := _root_.id rfl
theorem ti85_agg : ti85.kd.agg = false := _root_.id rfl
theorem ti85_size : ti85.size = 1 := _root_.id rfl
theorem ti85_bytes : ti85.bytes = 8 := _root_.id rfl
theorem ti85_zs : zszW ti85 = True := eq_true rfl
theorem ti85_zc : zc ti85 = [.v Value.nilFunc] := _root_.id rfl
theorem ty86 {K : TI → Prop} : @tyW Tryz.prog 86 ⟨K⟩ = K ti86 := ty_of tf86
theorem ti86_kd : ti86.kd = Kd.oth := _root_.id rfl
theorem ti86_agg : ti86.kd.agg = false := _root_.id rfl
theorem ti86_size : ti86.size = 1 := _root_.id rfl
theorem ti86_bytes : ti86.bytes = 8 := _root_.id rfl
theorem ti86_zs : zszW ti86 = True := eq_true rfl
theorem ti86_zc : zc ti86 = [.v Value.nilFunc] := _root_.id rfl
theorem ty87 {K : TI → Prop} : @tyW Tryz.prog 87 ⟨K⟩ = K ti87 := ty_of tf87
theorem ti87_kd : ti87.kd = Kd.oth := _root_.id rfl
theorem ti87_agg : ti87.kd.agg = false := _root_.id rfl
theorem ti87_size : ti87.size = 1 := _root_.id rfl
theorem ti87_bytes : ti87.bytes = 8 := _root_.id rfl
theorem ti87_zs : zszW ti87 = True := eq_true rfl
theorem ti87_zc : zc ti87 = [.v Value.nilFunc] := _root_.id rfl
theorem ty88 {K : TI → Prop} : @tyW Tryz.prog 88 ⟨K⟩ = K ti88 := ty_of tf88
theorem ti88_kd : ti88.kd = Kd.oth := _root_.id rfl
theorem ti88_agg : ti88.kd.agg = false := _root_.id rfl
theorem ti88_size : ti88.size = 1 := _root_.id rfl
theorem ti88_bytes : ti88.bytes = 8 := _root_.id rfl
theorem ti88_zs : zszW ti88 = True := eq_true rfl
theorem ti88_zc : zc ti88 = [.v Value.nilFunc] := _root_.id rfl
theorem ty89 {K : TI → Prop} : @tyW Tryz.prog 89 ⟨K⟩ = K ti89 := ty_of tf89
theorem ti89_kd : ti89.kd = Kd.stru [(0, 4), (1, 23), (2, 3)] := _root_.id rfl
theorem ti89_agg : ti89.kd.agg = true := _root_.id rfl
theorem ti89_size : ti89.size = 3 := _root_.id rfl
theorem ti89_bytes : ti89.bytes = 40 := _root_.id rfl
theorem ti89_zs : zszW ti89 = True := eq_true rfl
theorem ti89_zc : zc ti89 = [.v (Value.bool false), .v (Value.slice none 0 0), .v (Value.int IntKind.i64 0)] := _root_.id rfl
theorem fld89_0 {K : Nat → TI → Prop} : @fieldW Tryz.prog 89 0 ⟨K⟩ = K 0 ti4 := field_of (ti := ti89) (tf := ti4) (fo := (0, 4)) (fs := [(0, 4), (1, 23), (2, 3)]) tf89 rfl rfl tf4
theorem pl89_0 {K : Nat → Nat → Prop} : placeF Tryz.prog [(0, 4), (1, 23), (2, 3)] 0 K = K 0 1 := place_of (tf := ti4) (fo := (0, 4)) (fs := [(0, 4), (1, 23), (2, 3)]) rfl tf4
theorem fld89_1 {K : Nat → TI → Prop} : @fieldW Tryz.prog 89 1 ⟨K⟩ = K 1 ti23 := field_of (ti := ti89) (tf := ti23) (fo := (1, 23)) (fs := [(0, 4), (1, 23), (2, 3)]) tf89 rfl rfl tf23
theorem pl89_1 {K : Nat → Nat → Prop} : placeF Tryz.prog [(0, 4), (1, 23), (2, 3)] 1 K = K 1 1 := place_of (tf := ti23) (fo := (1, 23)) (fs := [(0, 4), (1, 23), (2, 3)]) rfl tf23
theorem fld89_2 {K : Nat → TI → Prop} : @fieldW Tryz.prog 89 2 ⟨K⟩ = K 2 ti3 := field_of (ti := ti89) (tf := ti3) (fo := (2, 3)) (fs := [(0, 4), (1, 23), (2, 3)]) tf89 rfl rfl tf3
theorem pl89_2 {K : Nat → Nat → Prop} : placeF Tryz.prog [(0, 4), (1, 23), (2, 3)] 2 K = K 2 1 := place_of (tf := ti3) (fo := (2, 3)) (fs := [(0, 4), (1, 23), (2, 3)]) rfl tf3
theorem fsok89 : ∀ f ∈ ([(0, 4), (1, 23), (2, 3)] : List (Nat × Nat)), (tyOf Tryz.prog f.2).isSome = true := by
 intro f hf
 simp only [List.mem_cons, List.not_mem_nil, or_false] at hf
 rcases hf with rfl | rfl | rfl
 ·rw [tf4]; rfl
 ·rw [tf23]; rfl
 ·rw [tf3]; rfl
theorem bld89 {ps : List (Nat × AV)} {K : AV → Prop} : @buildW Tryz.prog 89 ps ⟨K⟩ = @fillW (placeF Tryz.prog [(0, 4), (1, 23), (2, 3)]) (zc ti89) ps ⟨fun cs => K (.ag cs)⟩ := build_of tf89 rfl fsok89
theorem ty90 {K : TI → Prop} : @tyW Tryz.prog 90 ⟨K⟩ = K ti90 := ty_of tf90
theorem ti90_kd : ti90.kd = Kd.stru [(0, 4), (1, 23), (2, 3)] := _root_.id rfl
theorem ti90_agg : ti90.kd.agg = true := _root_.id rfl
theorem ti90_size : ti90.size = 3 := _root_.id rfl
theorem ti90_bytes : ti90.bytes = 40 := _root_.id rfl
theorem ti90_zs : zszW ti90 = True := eq_true rfl
theorem ti90_zc : zc ti90 = [.v (Value.bool false), .v (Value.slice none 0 0), .v (Value.int IntKind.i64 0)] := _root_.id rfl
theorem fld90_0 {K : Nat → TI → Prop} : @fieldW Tryz.prog 90 0 ⟨K⟩ = K 0 ti4 := field_of (ti := ti90) (tf := ti4) (fo := (0, 4)) (fs := [(0, 4), (1, 23), (2, 3)]) tf90 rfl rfl tf4
theorem pl90_0 {K : Nat → Nat → Prop} : placeF Tryz.prog [(0, 4), (1, 23), (2, 3)] 0 K = K 0 1 := place_of (tf := ti4) (fo := (0, 4)) (fs := [(0, 4), (1, 23), (2, 3)]) rfl tf4
theorem fld90_1 {K : Nat → TI → Prop} : @fieldW Tryz.prog 90 1 ⟨K⟩ = K 1 ti23 := field_of (ti := ti90) (tf := ti23) (fo := (1, 23)) (fs := [(0, 4), (1, 23), (2, 3)]) tf90 rfl rfl tf23
theorem pl90_1 {K : Nat → Nat → Prop} : placeF Tryz.prog [(0, 4), (1, 23), (2, 3)] 1 K = K 1 1 := place_of (tf := ti23) (fo := (1, 23)) (fs := [(0, 4), (1, 23), (2, 3)]) rfl tf23
theorem fld90_2 {K : Nat → TI → Prop} : @fieldW Tryz.prog 90 2 ⟨K⟩ = K 2 ti3 := field_of (ti := ti90) (tf := ti3) (fo := (2, 3)) (fs := [(0, 4), (1, 23), (2, 3)]) tf90 rfl rfl tf3
theorem pl90_2 {K : Nat → Nat → Prop} : placeF Tryz.prog [(0, 4), (1, 23), (2, 3)] 2 K = K 2 1 := place_of (tf := ti3) (fo := (2, 3)) (fs := [(0, 4), (1, 23), (2, 3)]) rfl tf3
theorem fsok90 : ∀ f ∈ ([(0, 4), (1, 23), (2, 3)] : List (Nat × Nat)), (tyOf Tryz.prog f.2).isSome = true := by
 intro f hf
 simp only [List.mem_cons, List.not_mem_nil, or_false] at hf
 rcases hf with rfl | rfl | rfl
 ·rw [tf4]; rfl
 ·rw [tf23]; rfl
 ·rw [tf3]; rfl
theorem bld90 {ps : List (Nat × AV)} {K : AV → Prop} : @buildW Tryz.prog 90 ps ⟨K⟩ = @fillW (placeF Tryz.prog [(0, 4), (1, 23), (2, 3)]) (zc ti90) ps ⟨fun cs => K (.ag cs)⟩ := build_of tf90 rfl fsok90
theorem ty92 {K : TI → Prop} : @tyW Tryz.prog 92 ⟨K⟩ = K ti92 := ty_of tf92
theorem ti92_kd : ti92.kd = Kd.oth := _root_.id rfl
theorem ti92_agg : ti92.kd.agg = false := _root_.id rfl
theorem ti92_size : ti92.size = 1 := _root_.id rfl
theorem ti92_bytes : ti92.bytes = 8 := _root_.id rfl
theorem ti92_zs : zszW ti92 = True := eq_true rfl
theorem ti92_zc : zc ti92 = [.v Value.nilFunc] := _root_.id rfl
theorem ty93 {K : TI → Prop} : @tyW Tryz.prog 93 ⟨K⟩ = K ti93 := ty_of tf93
theorem ti93_kd : ti93.kd = Kd.oth := _root_.id rfl
theorem ti93_agg : ti93.kd.agg = false := _root_.id rfl
theorem ti93_size : ti93.size = 1 := _root_.id rfl
theorem ti93_bytes : ti93.bytes = 8 := _root_.id rfl
theorem ti93_zs : zszW ti93 = True := eq_true rfl
theorem ti93_zc : zc ti93 = [.v Value.nilFunc] := _root_.id rfl
theorem ty94 {K : TI → Prop} : @tyW Tryz.prog 94 ⟨K⟩ = K ti94 := ty_of tf94
theorem ti94_kd : ti94.kd = Kd.oth := _root_.id rfl
theorem ti94_agg : ti94.kd.agg = false := _root_.id rfl
theorem ti94_size : ti94.size = 1 := _root_.id rfl
theorem ti94_bytes : ti94.bytes = 8 := _root_.id rfl
theorem ti94_zs : zszW ti94 = True := eq_true rfl
theorem ti94_zc : zc ti94 = [.v Value.nilFunc] := _root_.id rfl
theorem ty95 {K : TI → Prop} : @tyW Tryz.prog 95 ⟨K⟩ = K ti95 := ty_of tf95
theorem ti95_kd : ti95.kd = Kd.oth := _root_.id rfl
theorem ti95_agg : ti95.kd.agg = false := _root_.id rfl
theorem ti95_size : ti95.size = 1 := _root_.id rfl
theorem ti95_bytes : ti95.bytes = 8 := _root_.id rfl
theorem ti95_zs : zszW ti95 = True := eq_true rfl
theorem ti95_zc : zc ti95 = [.v Value.nilFunc] := _root_.id rfl
theorem ty97 {K : TI → Prop} : @tyW Tryz.prog 97 ⟨K⟩ = K ti97 := ty_of tf97
theorem ti97_kd : ti97.kd = Kd.oth := _root_.id rfl
theorem ti97_agg : ti97.kd.agg = false := _root_.id rfl
theorem ti97_size : ti97.size = 1 := _root_.id rfl
theorem ti97_bytes : ti97.bytes = 8 := _root_.id rfl
theorem ti97_zs : zszW ti97 = True := eq_true rfl
theorem ti97_zc : zc ti97 = [.v Value.nilFunc] := _root_.id rfl
theorem ty98 {K : TI → Prop} : @tyW Tryz.prog 98 ⟨K⟩ = K ti98 := ty_of tf98
theorem ti98_kd : ti98.kd = Kd.oth := _root_.id rfl
theorem ti98_agg : ti98.kd.agg = false := _root_.id rfl
theorem ti98_size : ti98.size = 1 := _root_.id rfl
theorem ti98_bytes : ti98.bytes = 8 := _root_.id rfl
theorem ti98_zs : zszW ti98 = True := eq_true rfl
theorem ti98_zc : zc ti98 = [.v Value.nilFunc] := _root_.id rfl
theorem ty99 {K : TI → Prop} : @tyW Tryz.prog 99 ⟨K⟩ = K ti99 := ty_of tf99
theorem ti99_kd : ti99.kd = Kd.oth := _root_.id rfl
theorem ti99_agg : ti99.kd.agg = false := _root_.id rfl
theorem ti99_size : ti99.size = 1 := _root_.id rfl
theorem ti99_bytes : ti99.bytes = 8 := _root_.id rfl
theorem ti99_zs : zszW ti99 = True := eq_true rfl
theorem ti99_zc : zc ti99 = [.v Value.nilFunc] := _root_.id rfl
theorem ty100 {K : TI → Prop} : @tyW Tryz.prog 100 ⟨K⟩ = K ti100 := ty_of tf100
theorem ti100_kd : ti100.kd = Kd.sli 90 := _root_.id rfl
theorem ti100_agg : ti100.kd.agg = false := _root_.id rfl
theorem ti100_size : ti100.size = 1 := _root_.id rfl
theorem ti100_bytes : ti100.bytes = 24 := _root_.id rfl
theorem ti100_zs : zszW ti100 = True := eq_true rfl
theorem ti100_zc : zc ti100 = [.v (Value.slice none 0 0)] := _root_.id rfl
theorem sli100 {K : TI → Prop} : @sliW Tryz.prog 100 ⟨K⟩ = K ti90 := sli_of tf100 rfl tf90
theorem ty101 {K : TI → Prop} : @tyW Tryz.prog 101 ⟨K⟩ = K ti101 := ty_of tf101
theorem ti101_kd : ti101.kd = Kd.stru [(0, 3), (1, 100)] := _root_.id rfl
theorem ti101_agg : ti101.kd.agg = true := _root_.id rfl
theorem ti101_size : ti101.size = 2 := _root_.id rfl
theorem ti101_bytes : ti101.bytes = 32 := _root_.id rfl
theorem ti101_zs : zszW ti101 = True := eq_true rfl
theorem ti101_zc : zc ti101 = [.v (Value.int IntKind.i64 0), .v (Value.slice none 0 0)] := _root_.id rfl
theorem fld101_0 {K : Nat → TI → Prop} : @fieldW Tryz.prog 101 0 ⟨K⟩ = K 0 ti3 := field_of (ti := ti101) (tf := ti3) (fo := (0, 3)) (fs := [(0, 3), (1, 100)]) tf101 rfl rfl tf3
theorem pl101_0 {K : Nat → Nat → Prop} : placeF Tryz.prog [(0, 3), (1, 100)] 0 K = K 0 1 := place_of (tf := ti3) (fo := (0, 3)) (fs := [(0, 3), (1, 100)]) rfl tf3
theorem fld101_1 {K : Nat → TI → Prop} : @fieldW Tryz.prog 101 1 ⟨K⟩ = K 1 ti100 := field_of (ti := ti101) (tf := ti100) (fo := (1, 100)) (fs := [(0, 3), (1, 100)]) tf101 rfl rfl tf100
theorem pl101_1 {K : Nat → Nat → Prop} : placeF Tryz.prog [(0, 3), (1, 100)] 1 K = K 1 1 := place_of (tf := ti100) (fo := (1, 100)) (fs := [(0, 3), (1, 100)]) rfl tf100
theorem fsok101 : ∀ f ∈ ([(0, 3), (1, 100)] : List (Nat × Nat)), (tyOf Tryz.prog f.2).isSome = true := by
 intro f hf
 simp only [List.mem_cons, List.not_mem_nil, or_false] at hf
 rcases hf with rfl | rfl
 ·rw [tf3]; rfl
 ·rw [tf100]; rfl
theorem bld101 {ps : List (Nat × AV)} {K : AV → Prop} : @buildW Tryz.prog 101 ps ⟨K⟩ = @fillW (placeF Tryz.prog [(0, 3), (1, 100)]) (zc ti101) ps ⟨fun cs => K (.ag cs)⟩ := build_of tf101 rfl fsok101
theorem ty102 {K : TI → Prop} : @tyW Tryz.prog 102 ⟨K⟩ = K ti102 := ty_of tf102
theorem ti102_kd : ti102.kd = Kd.stru [(0, 3), (1, 100)] := _root_.id rfl
theorem ti102_agg : ti102.kd.agg = true := _root_.id rfl
theorem ti102_size : ti102.size = 2 := _root_.id rfl
theorem ti102_bytes : ti102.bytes = 32 := _root_.id rfl
theorem ti102_zs : zszW ti102 = True := eq_true rfl
theorem ti102_zc : zc ti102 = [.v (Value.int IntKind.i64 0), .v (Value.slice none 0 0)] := _root_.id rfl
theorem fld102_0 {K : Nat → TI → Prop} : @fieldW Tryz.prog 102 0 ⟨K⟩ = K 0 ti3 := field_of (ti := ti102) (tf := ti3) (fo := (0, 3)) (fs := [(0, 3), (1, 100)]) tf102 rfl rfl tf3
theorem pl102_0 {K : Nat → Nat → Prop} : placeF Tryz.prog [(0, 3), (1, 100)] 0 K = K 0 1 := place_of (tf := ti3) (fo := (0, 3)) (fs := [(0, 3), (1, 100)]) rfl tf3
theorem fld102_1 {K : Nat → TI → Prop} : @fieldW Tryz.prog 102 1 ⟨K⟩ = K 1 ti100 := field_of (ti := ti102) (tf := ti100) (fo := (1, 100)) (fs := [(0, 3), (1, 100)]) tf102 rfl rfl tf100
theorem pl102_1 {K : Nat → Nat → Prop} : placeF Tryz.prog [(0, 3), (1, 100)] 1 K = K 1 1 := place_of (tf := ti100) (fo := (1, 100)) (fs := [(0, 3), (1, 100)]) rfl tf100
theorem fsok102 : ∀ f ∈ ([(0, 3), (1, 100)] : List (Nat × Nat)), (tyOf Tryz.prog f.2).isSome = true := by
 intro f hf
 simp only [List.mem_cons, List.not_mem_nil, or_false] at hf
 rcases hf with rfl | rfl
 ·rw [tf3]; rfl
 ·rw [tf100]; rfl
theorem bld102 {ps : List (Nat × AV)} {K : AV → Prop} : @buildW Tryz.prog 102 ps ⟨K⟩ = @fillW (placeF Tryz.prog [(0, 3), (1, 100)]) (zc ti102) ps ⟨fun cs => K (.ag cs)⟩ := build_of tf102 rfl fsok102
theorem ty103 {K : TI → Prop} : @tyW Tryz.prog 103 ⟨K⟩ = K ti103 := ty_of tf103
theorem ti103_kd : ti103.kd = Kd.oth := _root_.id rfl
theorem ti103_agg : ti103.kd.agg = false := _root_.id rfl
theorem ti103_size : ti103.size = 1 := _root_.id rfl
theorem ti103_bytes : ti103.bytes = 8 := _root_.id rfl
theorem ti103_zs : zszW ti103 = True := eq_true rfl
theorem ti103_zc : zc ti103 = [.v Value.nilFunc] := _root_.id rfl
theorem ty104 {K : TI → Prop} : @tyW Tryz.prog 104 ⟨K⟩ = K ti104 := ty_of tf104
theorem ti104_kd : ti104.kd = Kd.oth := _root_.id rfl
theorem ti104_agg : ti104.kd.agg = false := _root_.id rfl
theorem ti104_size : ti104.size = 1 := _root_.id rfl
theorem ti104_bytes : ti104.bytes = 8 := _root_.id rfl
theorem ti104_zs : zszW ti104 = True := eq_true rfl
theorem ti104_zc : zc ti104 = [.v Value.nilFunc] := _root_.id rfl
theorem ty105 {K : TI → Prop} : @tyW Tryz.prog 105 ⟨K⟩ = K ti105 := ty_of tf105
theorem ti105_kd : ti105.kd = Kd.oth := _root_.id rfl
theorem ti105_agg : ti105.kd.agg = false := _root_.id rfl
theorem ti105_size : ti105.size = 1 := _root_.id rfl
theorem ti105_bytes : ti105.bytes = 8 := _root_.id rfl
theorem ti105_zs : zszW ti105 = True := eq_true rfl
theorem ti105_zc : zc ti105 = [.v Value.nilFunc] := _root_.id rfl
theorem ty106 {K : TI → Prop} : @tyW Tryz.prog 106 ⟨K⟩ = K ti106 := ty_of tf106
theorem ti106_kd : ti106.kd = Kd.oth := _root_.id rfl
theorem ti106_agg : ti106.kd.agg = false := _root_.id rfl
theorem ti106_size : ti106.size = 1 := _root_.id rfl
theorem ti106_bytes : ti106.bytes = 8 := _root_.id rfl
theorem ti106_zs : zszW ti106 = True := eq_true rfl
theorem ti106_zc : zc ti106 = [.v Value.nilFunc] := _root_.id rfl
theorem ty107 {K : TI → Prop} : @tyW Tryz.prog 107 ⟨K⟩ = K ti107 := ty_of tf107
theorem ti107_kd : ti107.kd = Kd.oth := _root_.id rfl
theorem ti107_agg : ti107.kd.agg = false := _root_.id rfl
theorem ti107_size : ti107.size = 1 := _root_.id rfl
theorem ti107_bytes : ti107.bytes = 8 := _root_.id rfl
theorem ti107_zs : zszW ti107 = True := eq_true rfl
theorem ti107_zc : zc ti107 = [.v Value.nilFunc] := _root_.id rfl
theorem ty108 {K : TI → Prop} : @tyW Tryz.prog 108 ⟨K⟩ = K ti108 := ty_of tf108
theorem ti108_kd : ti108.kd = Kd.oth := _root_.id rfl
theorem ti108_agg : ti108.kd.agg = false := _root_.id rfl
theorem ti108_size : ti108.size = 1 := _root_.id rfl
theorem ti108_bytes : ti108.bytes = 8 := _root_.id rfl
theorem ti108_zs : zszW ti108 = True := eq_true rfl
theorem ti108_zc : zc ti108 = [.v Value.nilFunc] := _root_.id rfl
theorem ty109 {K : TI → Prop} : @tyW Tryz.prog 109 ⟨K⟩ = K ti109 := ty_of tf109
theorem ti109_kd : ti109.kd = Kd.oth := _root_.id rfl
theorem ti109_agg : ti109.kd.agg = false := _root_.id rfl
theorem ti109_size : ti109.size = 1 := _root_.id rfl
theorem ti109_bytes : ti109.bytes = 8 := _root_.id rfl
theorem ti109_zs : zszW ti109 = True := eq_true rfl
theorem ti109_zc : zc ti109 = [.v Value.nilFunc] := _root_.id rfl
theorem ty110 {K : TI → Prop} : @tyW Tryz.prog 110 ⟨K⟩ = K ti110 := ty_of tf110
theorem ti110_kd : ti110.kd = Kd.stru [(0, 90), (3, 90)] := _root_.id rfl
theorem ti110_agg : ti110.kd.agg = true := _root_.id rfl
theorem ti110_size : ti110.size = 6 := _root_.id rfl
theorem ti110_bytes : ti110.bytes = 80 := _root_.id rfl
theorem ti110_zs : zszW ti110 = True := eq_true rfl
theorem ti110_zc : zc ti110 = [.v (Value.bool false), .v (Value.slice none 0 0), .v (Value.int IntKind.i64 0), .v (Value.bool false), .v (Value.slice none 0 0), .v (Value.int IntKind.i64 0)] := _root_.id rfl
theorem fld110_0 {K : Nat → TI → Prop} : @fieldW Tryz.prog 110 0 ⟨K⟩ = K 0 ti90 := field_of (ti := ti110) (tf := ti90) (fo := (0, 90)) (fs := [(0, 90), (3, 90)]) tf110 rfl rfl tf90
theorem pl110_0 {K : Nat → Nat → Prop} : placeF Tryz.prog [(0, 90), (3, 90)] 0 K = K 0 3 := place_of (tf := ti90) (fo := (0, 90)) (fs := [(0, 90), (3, 90)]) rfl tf90
theorem fld110_1 {K : Nat → TI → Prop} : @fieldW Tryz.prog 110 1 ⟨K⟩ = K 3 ti90 := field_of (ti := ti110) (tf := ti90) (fo := (3, 90)) (fs := [(0, 90), (3, 90)]) tf110 rfl rfl tf90
theorem pl110_1 {K : Nat → Nat → Prop} : placeF Tryz.prog [(0, 90), (3, 90)] 1 K = K 3 3 := place_of (tf := ti90) (fo := (3, 90)) (fs := [(0, 90), (3, 90)]) rfl tf90
theorem fsok110 : ∀ f ∈ ([(0, 90), (3, 90)] : List (Nat × Nat)), (tyOf Tryz.prog f.2).isSome = true := by
 intro f hf
 simp only [List.mem_cons, List.not_mem_nil, or_false] at hf
 rcases hf with rfl | rfl
 ·rw [tf90]; rfl
 ·rw [tf90]; rfl
theorem bld110 {ps : List (Nat × AV)} {K : AV → Prop} : @buildW Tryz.prog 110 ps ⟨K⟩ = @fillW (placeF Tryz.prog [(0, 90), (3, 90)]) (zc ti110) ps ⟨fun cs => K (.ag cs)⟩ := build_of tf110 rfl fsok110
theorem ty111 {K : TI → Prop} : @tyW Tryz.prog 111 ⟨K⟩ = K ti111 := ty_of tf111
theorem ti111_kd : ti111.kd = Kd.stru [(0, 90), (3, 90)] := _root_.id rfl
theorem ti111_agg : ti111.kd.agg = true := _root_.id rfl
theorem ti111_size : ti111.size = 6 := _root_.id rfl
theorem ti111_bytes : ti111.bytes = 80 := _root_.id rfl
theorem ti111_zs : zszW ti111 = True := eq_true rfl
theorem ti111_zc : zc ti111 = [.v (Value.bool false), .v (Value.slice none 0 0), .v (Value.int IntKind.i64 0), .v (Value.bool false), .v (Value.slice none 0 0), .v (Value.int IntKind.i64 0)] := _root_.id rfl
theorem fld111_0 {K : Nat → TI → Prop} : @fieldW Tryz.prog 111 0 ⟨K⟩ = K 0 ti90 := field_of (ti := ti111) (tf := ti90) (fo := (0, 90)) (fs := [(0, 90), (3, 90)]) tf111 rfl rfl tf90
theorem pl111_0 {K : Nat → Nat → Prop} : placeF Tryz.prog [(0, 90), (3, 90)] 0 K = K 0 3 := place_of (tf := ti90) (fo := (0, 90)) (fs := [(0, 90), (3, 90)]) rfl tf90
theorem fld111_1 {K : Nat → TI → Prop} : @fieldW Tryz.prog 111 1 ⟨K⟩ = K 3 ti90 := field_of (ti := ti111) (tf := ti90) (fo := (3, 90)) (fs := [(0, 90), (3, 90)]) tf111 rfl rfl tf90
theorem pl111_1 {K : Nat → Nat → Prop} : placeF Tryz.prog [(0, 90), (3, 90)] 1 K = K 3 3 := place_of (tf := ti90) (fo := (3, 90)) (fs := [(0, 90), (3, 90)]) rfl tf90
theorem fsok111 : ∀ f ∈ ([(0, 90), (3, 90)] : List (Nat × Nat)), (tyOf Tryz.prog f.2).isSome = true := by
 intro f hf
 simp only [List.mem_cons, List.not_mem_nil, or_false] at hf
 rcases hf with rfl | rfl
 ·rw [tf90]; rfl
 ·rw [tf90]; rfl
theorem bld111 {ps : List (Nat × AV)} {K : AV → Prop} : @buildW Tryz.prog 111 ps ⟨K⟩ = @fillW (placeF Tryz.prog [(0, 90), (3, 90)]) (zc ti111) ps ⟨fun cs => K (.ag cs)⟩ := build_of tf111 rfl fsok111
theorem ty113 {K : TI → Prop} : @tyW Tryz.prog 113 ⟨K⟩ = K ti113 := ty_of tf113
theorem ti113_kd : ti113.kd = Kd.oth := _root_.id rfl
theorem ti113_agg : ti113.kd.agg = false := _root_.id rfl
theorem ti113_size : ti113.size = 1 := _root_.id rfl
theorem ti113_bytes : ti113.bytes = 8 := _root_.id rfl
theorem ti113_zs : zszW ti113 = True := eq_true rfl
theorem ti113_zc : zc ti113 = [.v Value.nilFunc] := _root_.id rfl
theorem ty114 {K : TI → Prop} : @tyW Tryz.prog 114 ⟨K⟩ = K ti114 := ty_of tf114
theorem ti114_kd : ti114.kd = Kd.oth := _root_.id rfl
theorem ti114_agg : ti114.kd.agg = false := _root_.id rfl
theorem ti114_size : ti114.size = 1 := _root_.id rfl
theorem ti114_bytes : ti114.bytes = 8 := _root_.id rfl
theorem ti114_zs : zszW ti114 = True := eq_true rfl
theorem ti114_zc : zc ti114 = [.v Value.nilFunc] := _root_.id rfl
theorem ty115 {K : TI → Prop} : @tyW Tryz.prog 115 ⟨K⟩ = K ti115 := ty_of tf115
theorem ti115_kd : ti115.kd = Kd.oth := _root_.id rfl
theorem ti115_agg : ti115.kd.agg = false := _root_.id rfl
theorem ti115_size : ti115.size = 1 := _root_.id rfl
theorem ti115_bytes : ti115.bytes = 8 := _root_.id rfl
theorem ti115_zs : zszW ti115 = True := eq_true rfl
theorem ti115_zc : zc ti115 = [.v Value.nilFunc] := _root_.id rfl
theorem ty116 {K : TI → Prop} : @tyW Tryz.prog 116 ⟨K⟩ = K ti116 := ty_of tf116
theorem ti116_kd : ti116.kd = Kd.oth := _root_.id rfl
theorem ti116_agg : ti116.kd.agg = false := _root_.id rfl
theorem ti116_size : ti116.size = 1 := _root_.id rfl
theorem ti116_bytes : ti116.bytes = 8 := _root_.id rfl
theorem ti116_zs : zszW ti116 = True := eq_true rfl
theorem ti116_zc : zc ti116 = [.v Value.nilFunc] := _root_.id rfl
theorem ty117 {K : TI → Prop} : @tyW Tryz.prog 117 ⟨K⟩ = K ti117 := ty_of tf117
theorem ti117_kd : ti117.kd = Kd.oth := _root_.id rfl
theorem ti117_agg : ti117.kd.agg = false := _root_.id rfl
theorem ti117_size : ti117.size = 1 := _root_.id rfl
theorem ti117_bytes : ti117.bytes = 8 := _root_.id rfl
theorem ti117_zs : zszW ti117 = True := eq_true rfl
theorem ti117_zc : zc ti117 = [.v Value.nilFunc] := _root_.id rfl
theorem ty118 {K : TI → Prop} : @tyW Tryz.prog 118 ⟨K⟩ = K ti118 := ty_of tf118
theorem ti118_kd : ti118.kd = Kd.oth := _root_.id rfl
theorem ti118_agg : ti118.kd.agg = false := _root_.id rfl
theorem ti118_size : ti118.size = 1 := _root_.id rfl
theorem ti118_bytes : ti118.bytes = 8 := _root_.id rfl
theorem ti118_zs : zszW ti118 = True := eq_true rfl
theorem ti118_zc : zc ti118 = [.v Value.nilFunc] := _root_.id rfl
theorem ty119 {K : TI → Prop} : @tyW Tryz.prog 119 ⟨K⟩ = K ti119 := ty_of tf119
theorem ti119_kd : ti119.kd = Kd.oth := _root_.id rfl
theorem ti119_agg : ti119.kd.agg = false := _root_.id rfl
theorem ti119_size : ti119.size = 1 := _root_.id rfl
theorem ti119_bytes : ti119.bytes = 8 := _root_.id rfl
theorem ti119_zs : zszW ti119 = True := eq_true rfl
theorem ti119_zc : zc ti119 = [.v Value.nilFunc] := _root_.id rfl
theorem ty120 {K : TI → Prop} : @tyW Tryz.prog 120 ⟨K⟩ = K ti120 := ty_of tf120
theorem ti120_kd : ti120.kd = Kd.oth := _root_.id rfl
theorem ti120_agg : ti120.kd.agg = false := _root_.id rfl
theorem ti120_size : ti120.size = 1 := _root_.id rfl
theorem ti120_bytes : ti120.bytes = 8 := _root_.id rfl
theorem ti120_zs : zszW ti120 = True := eq_true rfl
theorem ti120_zc : zc ti120 = [.v Value.nilFunc] := _root_.id rfl
theorem ty121 {K : TI → Prop} : @tyW Tryz.prog 121 ⟨K⟩ = K ti121 := ty_of tf121
theorem ti121_kd : ti121.kd = Kd.oth := _root_.id rfl
theorem ti121_agg : ti121.kd.agg = false := _root_.id rfl
theorem ti121_size : ti121.size = 1 := _root_.id rfl
theorem ti121_bytes : ti121.bytes = 8 := _root_.id rfl
theorem ti121_zs : zszW ti121 = True := eq_true rfl
theorem ti121_zc : zc ti121 = [.v Value.nilFunc] := _root_.id rfl
theorem ty122 {K : TI → Prop} : @tyW Tryz.prog 122 ⟨K⟩ = K ti122 := ty_of tf122
theorem ti122_kd : ti122.kd = Kd.oth := _root_.id rfl
theorem ti122_agg : ti122.kd.agg = false := _root_.id rfl
theorem ti122_size : ti122.size = 1 := _root_.id rfl
theorem ti122_bytes : ti122.bytes = 8 := _root_.id rfl
theorem ti122_zs : zszW ti122 = True := eq_true rfl
theorem ti122_zc : zc ti122 = [.v Value.nilFunc] := _root_.id rfl
theorem ty123 {K : TI → Prop} : @tyW Tryz.prog 123 ⟨K⟩ = K ti123 := ty_of tf123
theorem ti123_kd : ti123.kd = Kd.oth := _root_.id rfl
theorem ti123_agg : ti123.kd.agg = false := _root_.id rfl
theorem ti123_size : ti123.size = 1 := _root_.id rfl
theorem ti123_bytes : ti123.bytes = 8 := _root_.id rfl
theorem ti123_zs : zszW ti123 = True := eq_true rfl
theorem ti123_zc : zc ti123 = [.v Value.nilFunc] := _root_.id rfl
theorem ty124 {K : TI → Prop} : @tyW Tryz.prog 124 ⟨K⟩ = K ti124 := ty_of tf124
theorem ti124_kd : ti124.kd = Kd.oth := _root_.id rfl
theorem ti124_agg : ti124.kd.agg = false := _root_.id rfl
theorem ti124_size : ti124.size = 1 := _root_.id rfl
theorem ti124_bytes : ti124.bytes = 8 := _root_.id rfl
theorem ti124_zs : zszW ti124 = True := eq_true rfl
theorem ti124_zc : zc ti124 = [.v Value.nilFunc] := _root_.id rfl
theorem ty125 {K : TI → Prop} : @tyW Tryz.prog 125 ⟨K⟩ = K ti125 := ty_of tf125
theorem ti125_kd : ti125.kd = Kd.oth := _root_.id rfl
theorem ti125_agg : ti125.kd.agg = false := _root_.id rfl
theorem ti125_size : ti125.size = 1 := _root_.id rfl
theorem ti125_bytes : ti125.bytes = 8 := _root_.id rfl
theorem ti125_zs : zszW ti125 = True := eq_true rfl
theorem ti125_zc : zc ti125 = [.v Value.nilFunc] := _root_.id rfl
theorem ty126 {K : TI → Prop} : @tyW Tryz.prog 126 ⟨K⟩ = K ti126 := ty_of tf126
theorem ti126_kd : ti126.kd = Kd.oth := _root_.id rfl
theorem ti126_agg : ti126.kd.agg = false := _root_.id rfl
theorem ti126_size : ti126.size = 1 := _root_.id rfl
theorem ti126_bytes : ti126.bytes = 8 := _root_.id rfl
theorem ti126_zs : zszW ti126 = True := eq_true rfl
theorem ti126_zc : zc ti126 = [.v Value.nilFunc] := _root_.id rfl
theorem ty127 {K : TI → Prop} : @tyW Tryz.prog 127 ⟨K⟩ = K ti127 := ty_of tf127
theorem ti127_kd : ti127.kd = Kd.oth := _root_.id rfl
theorem ti127_agg : ti127.kd.agg = false := _root_.id rfl
theorem ti127_size : ti127.size = 1 := _root_.id rfl
theorem ti127_bytes : ti127.bytes = 8 := _root_.id rfl
theorem ti127_zs : zszW ti127 = True := eq_true rfl
theorem ti127_zc : zc ti127 = [.v Value.nilFunc] := _root_.id rfl
theorem ty128 {K : TI → Prop} : @tyW Tryz.prog 128 ⟨K⟩ = K ti128 := ty_of tf128
theorem ti128_kd : ti128.kd = Kd.oth := _root_.id rfl
theorem ti128_agg : ti128.kd.agg = false := _root_.id rfl
theorem ti128_size : ti128.size = 1 := _root_.id rfl
theorem ti128_bytes : ti128.bytes = 8 := _root_.id rfl
theorem ti128_zs : zszW ti128 = True := eq_true rfl
theorem ti128_zc : zc ti128 = [.v Value.nilFunc] := _root_.id rfl
theorem ty129 {K : TI → Prop} : @tyW Tryz.prog 129 ⟨K⟩ = K ti129 := ty_of tf129
theorem ti129_kd : ti129.kd = Kd.oth := _root_.id rfl
theorem ti129_agg : ti129.kd.agg = false := _root_.id rfl
theorem ti129_size : ti129.size = 1 := _root_.id rfl
theorem ti129_bytes : ti129.bytes = 8 := _root_.id rfl
theorem ti129_zs : zszW ti129 = True := eq_true rfl
theorem ti129_zc : zc ti129 = [.v Value.nilFunc] := _root_.id rfl
theorem ty130 {K : TI → Prop} : @tyW Tryz.prog 130 ⟨K⟩ = K ti130 := ty_of tf130
theorem ti130_kd : ti130.kd = Kd.oth := _root_.id rfl
theorem ti130_agg : ti130.kd.agg = false := _root_.id rfl
theorem ti130_size : ti130.size = 1 := _root_.id rfl
theorem ti130_bytes : ti130.bytes = 8 := _root_.id rfl
theorem ti130_zs : zszW ti130 = True := eq_true rfl
theorem ti130_zc : zc ti130 = [.v Value.nilFunc] := _root_.id rfl
theorem ty131 {K : TI → Prop} : @tyW Tryz.prog 131 ⟨K⟩ = K ti131 := ty_of tf131
theorem ti131_kd : ti131.kd = Kd.oth := _root_.id rfl
theorem ti131_agg : ti131.kd.agg = false := _root_.id rfl
theorem ti131_size : ti131.size = 1 := _root_.id rfl
theorem ti131_bytes : ti131.bytes = 8 := _root_.id rfl
theorem ti131_zs : zszW ti131 = True := eq_true rfl
theorem ti131_zc : zc ti131 = [.v Value.nilFunc] := _root_.id rfl
theorem ty132 {K : TI → Prop} : @tyW Tryz.prog 132 ⟨K⟩ = K ti132 := ty_of tf132
theorem ti132_kd : ti132.kd = Kd.int IntKind.u64 := _root_.id rfl
theorem ti132_agg : ti132.kd.agg = false := _root_.id rfl
theorem ti132_size : ti132.size = 1 := _root_.id rfl
theorem ti132_bytes : ti132.bytes = 8 := _root_.id rfl
theorem ti132_zs : zszW ti132 = True := eq_true rfl
theorem ti132_zc : zc ti132 = [.v (Value.int IntKind.u64 0)] := _root_.id rfl
theorem ty133 {K : TI → Prop} : @tyW Tryz.prog 133 ⟨K⟩ = K ti133 := ty_of tf133
theorem ti133_kd : ti133.kd = Kd.oth := _root_.id rfl
theorem ti133_agg : ti133.kd.agg = false := _root_.id rfl
theorem ti133_size : ti133.size = 1 := _root_.id rfl
theorem ti133_bytes : ti133.bytes = 8 := _root_.id rfl
theorem ti133_zs : zszW ti133 = True := eq_true rfl
theorem ti133_zc : zc ti133 = [.v Value.nilFunc] := _root_.id rfl
theorem ty135 {K : TI → Prop} : @tyW Tryz.prog 135 ⟨K⟩ = K ti135 := ty_of tf135
theorem ti135_kd : ti135.kd = Kd.oth := _root_.id rfl
theorem ti135_agg : ti135.kd.agg = false := _root_.id rfl
theorem ti135_size : ti135.size = 1 := _root_.id rfl
theorem ti135_bytes : ti135.bytes = 8 := _root_.id rfl
theorem ti135_zs : zszW ti135 = True := eq_true rfl
theorem ti135_zc : zc ti135 = [.v Value.nilFunc] := _root_.id rfl
theorem ty136 {K : TI → Prop} : @tyW Tryz.prog 136 ⟨K⟩ = K ti136 := ty_of tf136
theorem ti136_kd : ti136.kd = Kd.oth := _root_.id rfl
theorem ti136_agg : ti136.kd.agg = false := _root_.id rfl
theorem ti136_size : ti136.size = 1 := _root_.id rfl
theorem ti136_bytes : ti136.bytes = 8 := _root_.id rfl
theorem ti136_zs : zszW ti136 = True := eq_true rfl
theorem ti136_zc : zc ti136 = [.v Value.nilFunc] := _root_.id rfl
theorem ty137 {K : TI → Prop} : @tyW Tryz.prog 137 ⟨K⟩ = K ti137 := ty_of tf137
theorem ti137_kd : ti137.kd = Kd.oth := _root_.id rfl
theorem ti137_agg : ti137.kd.agg = false := _root_.id rfl
theorem ti137_size : ti137.size = 1 := _root_.id rfl
theorem ti137_bytes : ti137.bytes = 8 := _root_.id rfl
theorem ti137_zs : zszW ti137 = True := eq_true rfl
theorem ti137_zc : zc ti137 = [.v Value.nilFunc] := _root_.id rfl
theorem ty138 {K : TI → Prop} : @tyW Tryz.prog 138 ⟨K⟩ = K ti138 := ty_of tf138
theorem ti138_kd : ti138.kd = Kd.oth := _root_.id rfl
theorem ti138_agg : ti138.kd.agg = false := _root_.id rfl
theorem ti138_size : ti138.size = 1 := _root_.id rfl
theorem ti138_bytes : ti138.bytes = 8 := _root_.id rfl
theorem ti138_zs : zszW ti138 = True := eq_true rfl
theorem ti138_zc : zc ti138 = [.v Value.nilFunc] := _root_.id rfl
theorem ty139 {K : TI → Prop} : @tyW Tryz.prog 139 ⟨K⟩ = K ti139 := ty_of tf139
theorem ti139_kd : ti139.kd = Kd.oth := _root_.id rfl
theorem ti139_agg : ti139.kd.agg = false := _root_.id rfl
theorem ti139_size : ti139.size = 1 := _root_.id rfl
theorem ti139_bytes : ti139.bytes = 8 := _root_.id rfl
theorem ti139_zs : zszW ti139 = True := eq_true rfl
theorem ti139_zc : zc ti139 = [.v Value.nilFunc] := _root_.id rfl
theorem ty140 {K : TI → Prop} : @tyW Tryz.prog 140 ⟨K⟩ = K ti140 := ty_of tf140
theorem ti140_kd : ti140.kd = Kd.oth := _root_.id rfl
theorem ti140_agg : ti140.kd.agg = false := _root_.id rfl
theorem ti140_size : ti140.size = 1 := _root_.id rfl
theorem ti140_bytes : ti140.bytes = 8 := _root_.id rfl
theorem ti140_zs : zszW ti140 = True := eq_true rfl
theorem ti140_zc : zc ti140 = [.v Value.nilFunc] := _root_.id rfl
theorem ty141 {K : TI → Prop} : @tyW Tryz.prog 141 ⟨K⟩ = K ti141 := ty_of tf141
theorem ti141_kd : ti141.kd = Kd.oth := _root_.id rfl
theorem ti141_agg : ti141.kd.agg = false := _root_.id rfl
theorem ti141_size : ti141.size = 1 := _root_.id rfl
theorem ti141_bytes : ti141.bytes = 8 := _root_.id rfl
theorem ti141_zs : zszW ti141 = True := eq_true rfl
theorem ti141_zc : zc ti141 = [.v Value.nilFunc] := _root_.id rfl
theorem ty142 {K : TI → Prop} : @tyW Tryz.prog 142 ⟨K⟩ = K ti142 := ty_of tf142
theorem ti142_kd : ti142.kd = Kd.stru [(0, 22), (1, 3), (2, 3)] := _root_.id rfl
theorem ti142_agg : ti142.kd.agg = true := _root_.id rfl
theorem ti142_size : ti142.size = 3 := _root_.id rfl
theorem ti142_bytes : ti142.bytes = 40 := _root_.id rfl
theorem ti142_zs : zszW ti142 = True := eq_true rfl
theorem ti142_zc : zc ti142 = [.v (Value.slice none 0 0), .v (Value.int IntKind.i64 0), .v (Value.int IntKind.i64 0)] := _root_.id rfl
theorem fld142_0 {K : Nat → TI → Prop} : @fieldW Tryz.prog 142 0 ⟨K⟩ = K 0 ti22 := field_of (ti := ti142) (tf := ti22) (fo := (0, 22)) (fs := [(0, 22), (1, 3), (2, 3)]) tf142 rfl rfl tf22
theorem pl142_0 {K : Nat → Nat → Prop} : placeF Tryz.prog [(0, 22), (1, 3), (2, 3)] 0 K = K 0 1 := place_of (tf := ti22) (fo := (0, 22)) (fs := [(0, 22), (1, 3), (2, 3)]) rfl tf22
theorem fld142_1 {K : Nat → TI → Prop} : @fieldW Tryz.prog 142 1 ⟨K⟩ = K 1 ti3 := field_of (ti := ti142) (tf := ti3) (fo := (1, 3)) (fs := [(0, 22), (1, 3), (2, 3)]) tf142 rfl rfl tf3
theorem pl142_1 {K : Nat → Nat → Prop} : placeF Tryz.prog [(0, 22), (1, 3), (2, 3)] 1 K = K 1 1 := place_of (tf := ti3) (fo := (1, 3)) (fs := [(0, 22), (1, 3), (2, 3)]) rfl tf3
theorem fld142_2 {K : Nat → TI → Prop} : @fieldW Tryz.prog 142 2 ⟨K⟩ = K 2 ti3 := field_of (ti := ti142) (tf := ti3) (fo := (2, 3)) (fs := [(0, 22), (1, 3), (2, 3)]) tf142 rfl rfl tf3
theorem pl142_2 {K : Nat → Nat → Prop} : placeF Tryz.prog [(0, 22), (1, 3), (2, 3)] 2 K = K 2 1 := place_of (tf := ti3) (fo := (2, 3)) (fs := [(0, 22), (1, 3), (2, 3)]) rfl tf3
theorem fsok142 : ∀ f ∈ ([(0, 22), (1, 3), (2, 3)] : List (Nat × Nat)), (tyOf Tryz.prog f.2).isSome = true := by
 intro f hf
 simp only [List.mem_cons, List.not_mem_nil, or_false] at hf
 rcases hf with rfl | rfl | rfl
 ·rw [tf22]; rfl
 ·rw [tf3]; rfl
 ·rw [tf3]; rfl
theorem bld142 {ps : List (Nat × AV)} {K : AV → Prop} : @buildW Tryz.prog 142 ps ⟨K⟩ = @fillW (placeF Tryz.prog [(0, 22), (1, 3), (2, 3)]) (zc ti142) ps ⟨fun cs => K (.ag cs)⟩ := build_of tf142 rfl fsok142
theorem ty143 {K : TI → Prop} : @tyW Tryz.prog 143 ⟨K⟩ = K ti143 := ty_of tf143
theorem ti143_kd : ti143.kd = Kd.stru [(0, 22), (1, 3), (2, 3)] := _root_.id rfl
theorem ti143_agg : ti143.kd.agg = true := _root_.id rfl
theorem ti143_size : ti143.size = 3 := _root_.id rfl
theorem ti143_bytes : ti143.bytes = 40 := _root_.id rfl
theorem ti143_zs : zszW ti143 = True := eq_true rfl
theorem ti143_zc : zc ti143 = [.v (Value.slice none 0 0), .v (Value.int IntKind.i64 0), .v (Value.int IntKind.i64 0)] := _root_.id rfl
theorem fld143_0 {K : Nat → TI → Prop} : @fieldW Tryz.prog 143 0 ⟨K⟩ = K 0 ti22 := field_of (ti := ti143) (tf := ti22) (fo := (0, 22)) (fs := [(0, 22), (1, 3), (2, 3)]) tf143 rfl rfl tf22
theorem pl143_0 {K : Nat → Nat → Prop} : placeF Tryz.prog [(0, 22), (1, 3), (2, 3)] 0 K = K 0 1 := place_of (tf := ti22) (fo := (0, 22)) (fs := [(0, 22), (1, 3), (2, 3)]) rfl tf22
theorem fld143_1 {K : Nat → TI → Prop} : @fieldW Tryz.prog 143 1 ⟨K⟩ = K 1 ti3 := field_of (ti := ti143) (tf := ti3) (fo := (1, 3)) (fs := [(0, 22), (1, 3), (2, 3)]) tf143 rfl rfl tf3
theorem pl143_1 {K : Nat → Nat → Prop} : placeF Tryz.prog [(0, 22), (1, 3), (2, 3)] 1 K = K 1 1 := place_of (tf := ti3) (fo := (1, 3)) (fs := [(0, 22), (1, 3), (2, 3)]) rfl tf3
theorem fld143_2 {K : Nat → TI → Prop} : @fieldW Tryz.prog 143 2 ⟨K⟩ = K 2 ti3 := field_of (ti := ti143) (tf := ti3) (fo := (2, 3)) (fs := [(0, 22), (1, 3), (2, 3)]) tf143 rfl rfl tf3
theorem pl143_2 {K : Nat → Nat → Prop} : placeF Tryz.prog [(0, 22), (1, 3), (2, 3)] 2 K = K 2 1 := place_of (tf := ti3) (fo := (2, 3)) (fs := [(0, 22), (1, 3), (2, 3)]) rfl tf3
theorem fsok143 : ∀ f ∈ ([(0, 22), (1, 3), (2, 3)] : List (Nat × Nat)), (tyOf Tryz.prog f.2).isSome = true := by
 intro f hf
 simp only [List.mem_cons, List.not_mem_nil, or_false] at hf
 rcases hf with rfl | rfl | rfl
 ·rw [tf22]; rfl
 ·rw [tf3]; rfl
 ·rw [tf3]; rfl
theorem bld143 {ps : List (Nat × AV)} {K : AV → Prop} : @buildW Tryz.prog 143 ps ⟨K⟩ = @fillW (placeF Tryz.prog [(0, 22), (1, 3), (2, 3)]) (zc ti143) ps ⟨fun cs => K (.ag cs)⟩ := build_of tf143 rfl fsok143
theorem ty144 {K : TI → Prop} : @tyW Tryz.prog 144 ⟨K⟩ = K ti144 := ty_of tf144
theorem ti144_kd : ti144.kd = Kd.oth := _root_.id rfl
theorem ti144_agg : ti144.kd.agg = false := _root_.id rfl
theorem ti144_size : ti144.size = 1 := _root_.id rfl
theorem ti144_bytes : ti144.bytes = 8 := _root_.id rfl
theorem ti144_zs : zszW ti144 = True := eq_true rfl
theorem ti144_zc : zc ti144 = [.v Value.nilFunc] := _root_.id rfl
theorem ty145 {K : TI → Prop} : @tyW Tryz.prog 145 ⟨K⟩ = K ti145 := ty_of tf145
theorem ti145_kd : ti145.kd = Kd.oth := _root_.id rfl
theorem ti145_agg : ti145.kd.agg = false := _root_.id rfl
theorem ti145_size : ti145.size = 1 := _root_.id rfl
theorem ti145_bytes : ti145.bytes = 8 := _root_.id rfl
theorem ti145_zs : zszW ti145 = True := eq_true rfl
theorem ti145_zc : zc ti145 = [.v Value.nilFunc] := _root_.id rfl
theorem ty146 {K : TI → Prop} : @tyW Tryz.prog 146 ⟨K⟩ = K ti146 := ty_of tf146
theorem ti146_kd : ti146.kd = Kd.oth := _root_.id rfl
theorem ti146_agg : ti146.kd.agg = false := _root_.id rfl
theorem ti146_size : ti146.size = 1 := _root_.id rfl
theorem ti146_bytes : ti146.bytes = 8 := _root_.id rfl
theorem ti146_zs : zszW ti146 = True := eq_true rfl
theorem ti146_zc : zc ti146 = [.v Value.nilFunc] := _root_.id rfl
theorem ty147 {K : TI → Prop} : @tyW Tryz.prog 147 ⟨K⟩ = K ti147 := ty_of tf147
theorem ti147_kd : ti147.kd = Kd.oth := _root_.id rfl
theorem ti147_agg : ti147.kd.agg = false := _root_.id rfl
theorem ti147_size : ti147.size = 1 := _root_.id rfl
theorem ti147_bytes : ti147.bytes = 8 := _root_.id rfl
theorem ti147_zs : zszW ti147 = True := eq_true rfl
theorem ti147_zc : zc ti147 = [.v Value.nilFunc] := _root_.id rfl
theorem ty148 {K : TI → Prop} : @tyW Tryz.prog 148 ⟨K⟩ = K ti148 := ty_of tf148
theorem ti148_kd : ti148.kd = Kd.oth := _root_.id rfl
theorem ti148_agg : ti148.kd.agg = false := _root_.id rfl
theorem ti148_size : ti148.size = 1 := _root_.id rfl
theorem ti148_bytes : ti148.bytes = 8 := _root_.id rfl
theorem ti148_zs : zszW ti148 = True := eq_true rfl
theorem ti148_zc : zc ti148 = [.v Value.nilFunc] := _root_.id rfl
theorem ty150 {K : TI → Prop} : @tyW Tryz.prog 150 ⟨K⟩ = K ti150 := ty_of tf150
theorem ti150_kd : ti150.kd = Kd.oth := _root_.id rfl
theorem ti150_agg : ti150.kd.agg = false := _root_.id rfl
theorem ti150_size : ti150.size = 1 := _root_.id rfl
theorem ti150_bytes : ti150.bytes = 8 := _root_.id rfl
theorem ti150_zs : zszW ti150 = True := eq_true rfl
theorem ti150_zc : zc ti150 = [.v Value.nilFunc] := _root_.id rfl
theorem ty152 {K : TI → Prop} : @tyW Tryz.prog 152 ⟨K⟩ = K ti152 := ty_of tf152
theorem ti152_kd : ti152.kd = Kd.oth := _root_.id rfl
theorem ti152_agg : ti152.kd.agg = false := _root_.id rfl
theorem ti152_size : ti152.size = 1 := _root_.id rfl
theorem ti152_bytes : ti152.bytes = 8 := _root_.id rfl
theorem ti152_zs : zszW ti152 = True := eq_true rfl
theorem ti152_zc : zc ti152 = [.v Value.nilFunc] := _root_.id rfl
theorem ty153 {K : TI → Prop} : @tyW Tryz.prog 153 ⟨K⟩ = K ti153 := ty_of tf153
theorem ti153_kd : ti153.kd = Kd.oth := _root_.id rfl
theorem ti153_agg : ti153.kd.agg = false := _root_.id rfl
theorem ti153_size : ti153.size = 1 := _root_.id rfl
theorem ti153_bytes : ti153.bytes = 8 := _root_.id rfl
theorem ti153_zs : zszW ti153 = True := eq_true rfl
theorem ti153_zc : zc ti153 = [.v Value.nilFunc] := _root_.id rfl
theorem ty154 {K : TI → Prop} : @tyW Tryz.prog 154 ⟨K⟩ = K ti154 := ty_of tf154
theorem ti154_kd : ti154.kd = Kd.oth := _root_.id rfl
theorem ti154_agg : ti154.kd.agg = false := _root_.id rfl
theorem ti154_size : ti154.size = 1 := _root_.id rfl
theorem ti154_bytes : ti154.bytes = 8 := _root_.id rfl
theorem ti154_zs : zszW ti154 = True := eq_true rfl
theorem ti154_zc : zc ti154 = [.v Value.nilFunc] := _root_.id rfl
theorem ty155 {K : TI → Prop} : @tyW Tryz.prog 155 ⟨K⟩ = K ti155 := ty_of tf155
theorem ti155_kd : ti155.kd = Kd.sli 111 := _root_.id rfl
theorem ti155_agg : ti155.kd.agg = false := _root_.id rfl
theorem ti155_size : ti155.size = 1 := _root_.id rfl
theorem ti155_bytes : ti155.bytes = 24 := _root_.id rfl
theorem ti155_zs : zszW ti155 = True := eq_true rfl
theorem ti155_zc : zc ti155 = [.v (Value.slice none 0 0)] := _root_.id rfl
theorem sli155 {K : TI → Prop} : @sliW Tryz.prog 155 ⟨K⟩ = K ti111 := sli_of tf155 rfl tf111
theorem ty156 {K : TI → Prop} : @tyW Tryz.prog 156 ⟨K⟩ = K ti156 := ty_of tf156
theorem ti156_kd : ti156.kd = Kd.stru [(0, 3), (1, 155)] := _root_.id rfl
theorem ti156_agg : ti156.kd.agg = true := _root_.id rfl
theorem ti156_size : ti156.size = 2 := _root_.id rfl
theorem ti156_bytes : ti156.bytes = 32 := _root_.id rfl
theorem ti156_zs : zszW ti156 = True := eq_true rfl
theorem ti156_zc : zc ti156 = [.v (Value.int IntKind.i64 0), .v (Value.slice none 0 0)] := _root_.id rfl
theorem fld156_0 {K : Nat → TI → Prop} : @fieldW Tryz.prog 156 0 ⟨K⟩ = K 0 ti3 := field_of (ti := ti156) (tf := ti3) (fo := (0, 3)) (fs := [(0, 3), (1, 155)]) tf156 rfl rfl tf3
theorem pl156_0 {K : Nat → Nat → Prop} : placeF Tryz.prog [(0, 3), (1, 155)] 0 K = K 0 1 := place_of (tf := ti3) (fo := (0, 3)) (fs := [(0, 3), (1, 155)]) rfl tf3
theorem fld156_1 {K : Nat → TI → Prop} : @fieldW Tryz.prog 156 1 ⟨K⟩ = K 1 ti155 := field_of (ti := ti156) (tf := ti155) (fo := (1, 155)) (fs := [(0, 3), (1, 155)]) tf156 rfl rfl tf155
theorem pl156_1 {K : Nat → Nat → Prop} : placeF Tryz.prog [(0, 3), (1, 155)] 1 K = K 1 1 := place_of (tf := ti155) (fo := (1, 155)) (fs := [(0, 3), (1, 155)]) rfl tf155
theorem fsok156 : ∀ f ∈ ([(0, 3), (1, 155)] : List (Nat × Nat)), (tyOf Tryz.prog f.2).isSome = true := by
 intro f hf
 simp only [List.mem_cons, List.not_mem_nil, or_false] at hf
 rcases hf with rfl | rfl
 ·rw [tf3]; rfl
 ·rw [tf155]; rfl
theorem bld156 {ps : List (Nat × AV)} {K : AV → Prop} : @buildW Tryz.prog 156 ps ⟨K⟩ = @fillW (placeF Tryz.prog [(0, 3), (1, 155)]) (zc ti156) ps ⟨fun cs => K (.ag cs)⟩ := build_of tf156 rfl fsok156
theorem ty157 {K : TI → Prop} : @tyW Tryz.prog 157 ⟨K⟩ = K ti157 := ty_of tf157
theorem ti157_kd : ti157.kd = Kd.stru [(0, 3), (1, 155)] := _root_.id rfl
theorem ti157_agg : ti157.kd.agg = true := _root_.id rfl
theorem ti157_size : ti157.size = 2 := _root_.id rfl
theorem ti157_bytes : ti157.bytes = 32 := _root_.id rfl
theorem ti157_zs : zszW ti157 = True := eq_true rfl
theorem ti157_zc : zc ti157 = [.v (Value.int IntKind.i64 0), .v (Value.slice none 0 0)] := _root_.id rfl
theorem fld157_0 {K : Nat → TI → Prop} : @fieldW Tryz.prog 157 0 ⟨K⟩ = K 0 ti3 := field_of (ti := ti157) (tf := ti3) (fo := (0, 3)) (fs := [(0, 3), (1, 155)]) tf157 rfl rfl tf3
theorem pl157_0 {K : Nat → Nat → Prop} : placeF Tryz.prog [(0, 3), (1, 155)] 0 K = K 0 1 := place_of (tf := ti3) (fo := (0, 3)) (fs := [(0, 3), (1, 155)]) rfl tf3
theorem fld157_1 {K : Nat → TI → Prop} : @fieldW Tryz.prog 157 1 ⟨K⟩ = K 1 ti155 := field_of (ti := ti157) (tf := ti155) (fo := (1, 155)) (fs := [(0, 3), (1, 155)]) tf157 rfl rfl tf155
theorem pl157_1 {K : Nat → Nat → Prop} : placeF Tryz.prog [(0, 3), (1, 155)] 1 K = K 1 1 := place_of (tf := ti155) (fo := (1, 155)) (fs := [(0, 3), (1, 155)]) rfl tf155
theorem fsok157 : ∀ f ∈ ([(0, 3), (1, 155)] : List (Nat × Nat)), (tyOf Tryz.prog f.2).isSome = true := by
 intro f hf
 simp only [List.mem_cons, List.not_mem_nil, or_false] at hf
 rcases hf with rfl | rfl
 ·rw [tf3]; rfl
 ·rw [tf155]; rfl
theorem bld157 {ps : List (Nat × AV)} {K : AV → Prop} : @buildW Tryz.prog 157 ps ⟨K⟩ = @fillW (placeF Tryz.prog [(0, 3), (1, 155)]) (zc ti157) ps ⟨fun cs => K (.ag cs)⟩ := build_of tf157 rfl fsok157
theorem ty158 {K : TI → Prop} : @tyW Tryz.prog 158 ⟨K⟩ = K ti158 := ty_of tf158
theorem ti158_kd : ti158.kd = Kd.oth := _root_.id rfl
theorem ti158_agg : ti158.kd.agg = false := _root_.id rfl
theorem ti158_size : ti158.size = 1 := _root_.id rfl
theorem ti158_bytes : ti158.bytes = 8 := _root_.id rfl
theorem ti158_zs : zszW ti158 = True := eq_true rfl
theorem ti158_zc : zc ti158 = [.v Value.nilFunc] := _root_.id rfl
theorem ty159 {K : TI → Prop} : @tyW Tryz.prog 159 ⟨K⟩ = K ti159 := ty_of tf159
theorem ti159_kd : ti159.kd = Kd.sli 50 := _root_.id rfl
theorem ti159_agg : ti159.kd.agg = false := _root_.id rfl
theorem ti159_size : ti159.size = 1 := _root_.id rfl
theorem ti159_bytes : ti159.bytes = 24 := _root_.id rfl
theorem ti159_zs : zszW ti159 = True := eq_true rfl
theorem ti159_zc : zc ti159 = [.v (Value.slice none 0 0)] := _root_.id rfl
theorem sli159 {K : TI → Prop} : @sliW Tryz.prog 159 ⟨K⟩ = K ti50 := sli_of tf159 rfl tf50
theorem ty160 {K : TI → Prop} : @tyW Tryz.prog 160 ⟨K⟩ = K ti160 := ty_of tf160
theorem ti160_kd : ti160.kd = Kd.stru [(0, 3), (1, 159)] := _root_.id rfl
theorem ti160_agg : ti160.kd.agg = true := _root_.id rfl
theorem ti160_size : ti160.size = 2 := _root_.id rfl
theorem ti160_bytes : ti160.bytes = 32 := _root_.id rfl
theorem ti160_zs : zszW ti160 = True := eq_true rfl
theorem ti160_zc : zc ti160 = [.v (Value.int IntKind.i64 0), .v (Value.slice none 0 0)] := _root_.id rfl
theorem fld160_0 {K : Nat → TI → Prop} : @fieldW Tryz.prog 160 0 ⟨K⟩ = K 0 ti3 := field_of (ti := ti160) (tf := ti3) (fo := (0, 3)) (fs := [(0, 3), (1, 159)]) tf160 rfl rfl tf3
theorem pl160_0 {K : Nat → Nat → Prop} : placeF Tryz.prog [(0, 3), (1, 159)] 0 K = K 0 1 := place_of (tf := ti3) (fo := (0, 3)) (fs := [(0, 3), (1, 159)]) rfl tf3
theorem fld160_1 {K : Nat → TI → Prop} : @fieldW Tryz.prog 160 1 ⟨K⟩ = K 1 ti159 := field_of (ti := ti160) (tf := ti159) (fo := (1, 159)) (fs := [(0, 3), (1, 159)]) tf160 rfl rfl tf159
theorem pl160_1 {K : Nat → Nat → Prop} : placeF Tryz.prog [(0, 3), (1, 159)] 1 K = K 1 1 := place_of (tf := ti159) (fo := (1, 159)) (fs := [(0, 3), (1, 159)]) rfl tf159
theorem fsok160 : ∀ f ∈ ([(0, 3), (1, 159)] : List (Nat × Nat)), (tyOf Tryz.prog f.2).isSome = true := by
 intro f hf
 simp only [List.mem_cons, List.not_mem_nil, or_false] at hf
 rcases hf with rfl | rfl
 ·rw [tf3]; rfl
 ·rw [tf159]; rfl
theorem bld160 {ps : List (Nat × AV)} {K : AV → Prop} : @buildW Tryz.prog 160 ps ⟨K⟩ = @fillW (placeF Tryz.prog [(0, 3), (1, 159)]) (zc ti160) ps ⟨fun cs => K (.ag cs)⟩ := build_of tf160 rfl fsok160
theorem ty161 {K : TI → Prop} : @tyW Tryz.prog 161 ⟨K⟩ = K ti161 := ty_of tf161
theorem ti161_kd : ti161.kd = Kd.stru [(0, 3), (1, 159)] := _root_.id rfl
theorem ti161_agg : ti161.kd.agg = true := _root_.id rfl
theorem ti161_size : ti161.size = 2 := _root_.id rfl
theorem ti161_bytes : ti161.bytes = 32 := _root_.id rfl
theorem ti161_zs : zszW ti161 = True := eq_true rfl
theorem ti161_zc : zc ti161 = [.v (Value.int IntKind.i64 0), .v (Value.slice none 0 0)] := _root_.id rfl
theorem fld161_0 {K : Nat → TI → Prop} : @fieldW Tryz.prog 161 0 ⟨K⟩ = K 0 ti3 := field_of (ti := ti161) (tf := ti3) (fo := (0, 3)) (fs := [(0, 3), (1, 159)]) tf161 rfl rfl tf3
theorem pl161_0 {K : Nat → Nat → Prop} : placeF Tryz.prog [(0, 3), (1, 159)] 0 K = K 0 1 := place_of (tf := ti3) (fo := (0, 3)) (fs := [(0, 3), (1, 159)]) rfl tf3
theorem fld161_1 {K : Nat → TI → Prop} : @fieldW Tryz.prog 161 1 ⟨K⟩ = K 1 ti159 := field_of (ti := ti161) (tf := ti159) (fo := (1, 159)) (fs := [(0, 3), (1, 159)]) tf161 rfl rfl tf159
theorem pl161_1 {K : Nat → Nat → Prop} : placeF Tryz.prog [(0, 3), (1, 159)] 1 K = K 1 1 := place_of (tf := ti159) (fo := (1, 159)) (fs := [(0, 3), (1, 159)]) rfl tf159
theorem fsok161 : ∀ f ∈ ([(0, 3), (1, 159)] : List (Nat × Nat)), (tyOf Tryz.prog f.2).isSome = true := by
 intro f hf
 simp only [List.mem_cons, List.not_mem_nil, or_false] at hf
 rcases hf with rfl | rfl
 ·rw [tf3]; rfl
 ·rw [tf159]; rfl
theorem bld161 {ps : List (Nat × AV)} {K : AV → Prop} : @buildW Tryz.prog 161 ps ⟨K⟩ = @fillW (placeF Tryz.prog [(0, 3), (1, 159)]) (zc ti161) ps ⟨fun cs => K (.ag cs)⟩ := build_of tf161 rfl fsok161
theorem ty163 {K : TI → Prop} : @tyW Tryz.prog 163 ⟨K⟩ = K ti163 := ty_of tf163
theorem ti163_kd : ti163.kd = Kd.oth := _root_.id rfl
theorem ti163_agg : ti163.kd.agg = false := _root_.id rfl
theorem ti163_size : ti163.size = 1 := _root_.id rfl
theorem ti163_bytes : ti163.bytes = 8 := _root_.id rfl
theorem ti163_zs : zszW ti163 = True := eq_true rfl
theorem ti163_zc : zc ti163 = [.v Value.nilFunc] := _root_.id rfl
theorem ty164 {K : TI → Prop} : @tyW Tryz.prog 164 ⟨K⟩ = K ti164 := ty_of tf164
theorem ti164_kd : ti164.kd = Kd.oth := _root_.id rfl
theorem ti164_agg : ti164.kd.agg = false := _root_.id rfl
theorem ti164_size : ti164.size = 1 := _root_.id rfl
theorem ti164_bytes : ti164.bytes = 8 := _root_.id rfl
theorem ti164_zs : zszW ti164 = True := eq_true rfl
theorem ti164_zc : zc ti164 = [.v Value.nilFunc] := _root_.id rfl
theorem ty165 {K : TI → Prop} : @tyW Tryz.prog 165 ⟨K⟩ = K ti165 := ty_of tf165
theorem ti165_kd : ti165.kd = Kd.oth := _root_.id rfl
theorem ti165_agg : ti165.kd.agg = false := _root_.id rfl
theorem ti165_size : ti165.size = 1 := _root_.id rfl
theorem ti165_bytes : ti165.bytes = 8 := _root_.id rfl
theorem ti165_zs : zszW ti165 = True := eq_true rfl
theorem ti165_zc : zc ti165 = [.v Value.nilFunc] := _root_.id rfl
theorem ty166 {K : TI → Prop} : @tyW Tryz.prog 166 ⟨K⟩ = K ti166 := ty_of tf166
theorem ti166_kd : ti166.kd = Kd.oth := _root_.id rfl
theorem ti166_agg : ti166.kd.agg = false := _root_.id rfl
theorem ti166_size : ti166.size = 1 := _root_.id rfl
theorem ti166_bytes : ti166.bytes = 8 := _root_.id rfl
theorem ti166_zs : zszW ti166 = True := eq_true rfl
theorem ti166_zc : zc ti166 = [.v Value.nilFunc] := _root_.id rfl
theorem ty167 {K : TI → Prop} : @tyW Tryz.prog 167 ⟨K⟩ = K ti167 := ty_of tf167
theorem ti167_kd : ti167.kd = Kd.oth := _root_.id rfl
theorem ti167_agg : ti167.kd.agg = false := _root_.id rfl
theorem ti167_size : ti167.size = 1 := _root_.id rfl
theorem ti167_bytes : ti167.bytes = 8 := _root_.id rfl
theorem ti167_zs : zszW ti167 = True := eq_true rfl
theorem ti167_zc : zc ti167 = [.v Value.nilFunc] := _root_.id rfl
theorem ty169 {K : TI → Prop} : @tyW Tryz.prog 169 ⟨K⟩ = K ti169 := ty_of tf169
theorem ti169_kd : ti169.kd = Kd.oth := _root_.id rfl
theorem ti169_agg : ti169.kd.agg = false := _root_.id rfl
theorem ti169_size : ti169.size = 1 := _root_.id rfl
theorem ti169_bytes : ti169.bytes = 8 := _root_.id rfl
theorem ti169_zs : zszW ti169 = True := eq_true rfl
theorem ti169_zc : zc ti169 = [.v Value.nilFunc] := _root_.id rfl
theorem ty170 {K : TI → Prop} : @tyW Tryz.prog 170 ⟨K⟩ = K ti170 := ty_of tf170
theorem ti170_kd : ti170.kd = Kd.oth := _root_.id rfl
theorem ti170_agg : ti170.kd.agg = false := _root_.id rfl
theorem ti170_size : ti170.size = 1 := _root_.id rfl
theorem ti170_bytes : ti170.bytes = 8 := _root_.id rfl
theorem ti170_zs : zszW ti170 = True := eq_true rfl
theorem ti170_zc : zc ti170 = [.v Value.nilFunc] := _root_.id rfl
theorem ty171 {K : TI → Prop} : @tyW Tryz.prog 171 ⟨K⟩ = K ti171 := ty_of tf171
theorem ti171_kd : ti171.kd = Kd.oth := _root_.id rfl
theorem ti171_agg : ti171.kd.agg = false := _root_.id rfl
theorem ti171_size : ti171.size = 1 := _root_.id rfl
theorem ti171_bytes : ti171.bytes = 8 := _root_.id rfl
theorem ti171_zs : zszW ti171 = True := eq_true rfl
theorem ti171_zc : zc ti171 = [.v Value.nilFunc] := _root_.id rfl
theorem ty172 {K : TI → Prop} : @tyW Tryz.prog 172 ⟨K⟩ = K ti172 := ty_of tf172
theorem ti172_kd : ti172.kd = Kd.oth := _root_.id rfl
theorem ti172_agg : ti172.kd.agg = false := _root_.id rfl
theorem ti172_size : ti172.size = 1 := _root_.id rfl
theorem ti172_bytes : ti172.bytes = 8 := _root_.id rfl
theorem ti172_zs : zszW ti172 = True := eq_true rfl
theorem ti172_zc : zc ti172 = [.v Value.nilFunc] := _root_.id rfl
theorem ty173 {K : TI → Prop} : @tyW Tryz.prog 173 ⟨K⟩ = K ti173 := ty_of tf173
theorem ti173_kd : ti173.kd = Kd.oth := _root_.id rfl
theorem ti173_agg : ti173.kd.agg = false := _root_.id rfl
theorem ti173_size : ti173.size = 1 := _root_.id rfl
theorem ti173_bytes : ti173.bytes = 8 := _root_.id rfl
theorem ti173_zs : zszW ti173 = True := eq_true rfl
theorem ti173_zc : zc ti173 = [.v Value.nilFunc] := _root_.id rfl
theorem ty174 {K : TI → Prop} : @tyW Tryz.prog 174 ⟨K⟩ = K ti174 := ty_of tf174
theorem ti174_kd : ti174.kd = Kd.oth := _root_.id rfl
theorem ti174_agg : ti174.kd.agg = false := _root_.id rfl
theorem ti174_size : ti174.size = 1 := _root_.id rfl
theorem ti174_bytes : ti174.bytes = 8 := _root_.id rfl
theorem ti174_zs : zszW ti174 = True := eq_true rfl
theorem ti174_zc : zc ti174 = [.v Value.nilFunc] := _root_.id rfl
theorem ty176 {K : TI → Prop} : @tyW Tryz.prog 176 ⟨K⟩ = K ti176 := ty_of tf176
theorem ti176_kd : ti176.kd = Kd.oth := _root_.id rfl
theorem ti176_agg : ti176.kd.agg = false := _root_.id rfl
theorem ti176_size : ti176.size = 1 := _root_.id rfl
theorem ti176_bytes : ti176.bytes = 8 := _root_.id rfl
theorem ti176_zs : zszW ti176 = True := eq_true rfl
theorem ti176_zc : zc ti176 = [.v Value.nilFunc] := _root_.id rfl
theorem ty177 {K : TI → Prop} : @tyW Tryz.prog 177 ⟨K⟩ = K ti177 := ty_of tf177
theorem ti177_kd : ti177.kd = Kd.oth := _root_.id rfl
theorem ti177_agg : ti177.kd.agg = false := _root_.id rfl
theorem ti177_size : ti177.size = 1 := _root_.id rfl
theorem ti177_bytes : ti177.bytes = 8 := _root_.id rfl
theorem ti177_zs : zszW ti177 = True := eq_true rfl
theorem ti177_zc : zc ti177 = [.v Value.nilFunc] := _root_.id rfl
theorem ty178 {K : TI → Prop} : @tyW Tryz.prog 178 ⟨K⟩ = K ti178 := ty_of tf178
theorem ti178_kd : ti178.kd = Kd.oth := _root_.id rfl
theorem ti178_agg : ti178.kd.agg = false := _root_.id rfl
theorem ti178_size : ti178.size = 1 := _root_.id rfl
theorem ti178_bytes : ti178.bytes = 8 := _root_.id rfl
theorem ti178_zs : zszW ti178 = True := eq_true rfl
theorem ti178_zc : zc ti178 = [.v Value.nilFunc] := _root_.id rfl
theorem ty179 {K : TI → Prop} : @tyW Tryz.prog 179 ⟨K⟩ = K ti179 := ty_of tf179
theorem ti179_kd : ti179.kd = Kd.oth := _root_.id rfl
theorem ti179_agg : ti179.kd.agg = false := _root_.id rfl
theorem ti179_size : ti179.size = 1 := _root_.id rfl
theorem ti179_bytes : ti179.bytes = 8 := _root_.id rfl
theorem ti179_zs : zszW ti179 = True := eq_true rfl
theorem ti179_zc : zc ti179 = [.v Value.nilFunc] := _root_.id rfl
theorem ty180 {K : TI → Prop} : @tyW Tryz.prog 180 ⟨K⟩ = K ti180 := ty_of tf180
theorem ti180_kd : ti180.kd = Kd.oth := _root_.id rfl
theorem ti180_agg : ti180.kd.agg = false := _root_.id rfl
theorem ti180_size : ti180.size = 1 := _root_.id rfl
theorem ti180_bytes : ti180.bytes = 8 := _root_.id rfl
theorem ti180_zs : zszW ti180 = True := eq_true rfl
theorem ti180_zc : zc ti180 = [.v Value.nilFunc] := _root_.id rfl
theorem ty181 {K : TI → Prop} : @tyW Tryz.prog 181 ⟨K⟩ = K ti181 := ty_of tf181
theorem ti181_kd : ti181.kd = Kd.oth := _root_.id rfl
theorem ti181_agg : ti181.kd.agg = false := _root_.id rfl
theorem ti181_size : ti181.size = 1 := _root_.id rfl
theorem ti181_bytes : ti181.bytes = 8 := _root_.id rfl
theorem ti181_zs : zszW ti181 = True := eq_true rfl
theorem ti181_zc : zc ti181 = [.v Value.nilFunc] := _root_.id rfl
theorem ty183 {K : TI → Prop} : @tyW Tryz.prog 183 ⟨K⟩ = K ti183 := ty_of tf183
theorem ti183_kd : ti183.kd = Kd.oth := _root_.id rfl
theorem ti183_agg : ti183.kd.agg = false := _root_.id rfl
theorem ti183_size : ti183.size = 1 := _root_.id rfl
theorem ti183_bytes : ti183.bytes = 8 := _root_.id rfl
theorem ti183_zs : zszW ti183 = True := eq_true rfl
theorem ti183_zc : zc ti183 = [.v Value.nilFunc] := _root_.id rfl
theorem ty184 {K : TI → Prop} : @tyW Tryz.prog 184 ⟨K⟩ = K ti184 := ty_of tf184
theorem ti184_kd : ti184.kd = Kd.oth := _root_.id rfl
theorem ti184_agg : ti184.kd.agg = false := _root_.id rfl
theorem ti184_size : ti184.size = 1 := _root_.id rfl
theorem ti184_bytes : ti184.bytes = 8 := _root_.id rfl
theorem ti184_zs : zszW ti184 = True := eq_true rfl
theorem ti184_zc : zc ti184 = [.v Value.nilFunc] := _root_.id rfl
theorem ty185 {K : TI → Prop} : @tyW Tryz.prog 185 ⟨K⟩ = K ti185 := ty_of tf185
theorem ti185_kd : ti185.kd = Kd.sli 63 := _root_.id rfl
theorem ti185_agg : ti185.kd.agg = false := _root_.id rfl
theorem ti185_size : ti185.size = 1 := _root_.id rfl
theorem ti185_bytes : ti185.bytes = 24 := _root_.id rfl
theorem ti185_zs : zszW ti185 = True := eq_true rfl
theorem ti185_zc : zc ti185 = [.v (Value.slice none 0 0)] := _root_.id rfl
theorem sli185 {K : TI → Prop} : @sliW Tryz.prog 185 ⟨K⟩ = K ti63 := sli_of tf185 rfl tf63
theorem ty186 {K : TI → Prop} : @tyW Tryz.prog 186 ⟨K⟩ = K ti186 := ty_of tf186
theorem ti186_kd : ti186.kd = Kd.oth := _root_.id rfl
theorem ti186_agg : ti186.kd.agg = false := _root_.id rfl
theorem ti186_size : ti186.size = 1 := _root_.id rfl
theorem ti186_bytes : ti186.bytes = 8 := _root_.id rfl
theorem ti186_zs : zszW ti186 = True := eq_true rfl
theorem ti186_zc : zc ti186 = [.v Value.nilFunc] := _root_.id rfl
theorem ty187 {K : TI → Prop} : @tyW Tryz.prog 187 ⟨K⟩ = K ti187 := ty_of tf187
theorem ti187_kd : ti187.kd = Kd.oth := _root_.id rfl
theorem ti187_agg : ti187.kd.agg = false := _root_.id rfl
theorem ti187_size : ti187.size = 1 := _root_.id rfl
theorem ti187_bytes : ti187.bytes = 8 := _root_.id rfl
theorem ti187_zs : zszW ti187 = True := eq_true rfl
theorem ti187_zc : zc ti187 = [.v Value.nilFunc] := _root_.id rfl
theorem ty188 {K : TI → Prop} : @tyW Tryz.prog 188 ⟨K⟩ = K ti188 := ty_of tf188
theorem ti188_kd : ti188.kd = Kd.oth := _root_.id rfl
theorem ti188_agg : ti188.kd.agg = false := _root_.id rfl
theorem ti188_size : ti188.size = 1 := _root_.id rfl
theorem ti188_bytes : ti188.bytes = 8 := _root_.id rfl
theorem ti188_zs : zszW ti188 = True := eq_true rfl
theorem ti188_zc : zc ti188 = [.v Value.nilFunc] := _root_.id rfl
theorem ty189 {K : TI → Prop} : @tyW Tryz.prog 189 ⟨K⟩ = K ti189 := ty_of tf189
theorem ti189_kd : ti189.kd = Kd.oth := _root_.id rfl
theorem ti189_agg : ti189.kd.agg = false := _root_.id rfl
theorem ti189_size : ti189.size = 1 := _root_.id rfl
theorem ti189_bytes : ti189.bytes = 8 := _root_.id rfl
theorem ti189_zs : zszW ti189 = True := eq_true rfl
theorem ti189_zc : zc ti189 = [.v Value.nilFunc] := _root_.id rfl
theorem ty190 {K : TI → Prop} : @tyW Tryz.prog 190 ⟨K⟩ = K ti190 := ty_of tf190
theorem ti190_kd : ti190.kd = Kd.oth := _root_.id rfl
theorem ti190_agg : ti190.kd.agg = false := _root_.id rfl
theorem ti190_size : ti190.size = 1 := _root_.id rfl
theorem ti190_bytes : ti190.bytes = 8 := _root_.id rfl
theorem ti190_zs : zszW ti190 = True := eq_true rfl
theorem ti190_zc : zc ti190 = [.v Value.nilFunc] := _root_.id rfl
theorem ty191 {K : TI → Prop} : @tyW Tryz.prog 191 ⟨K⟩ = K ti191 := ty_of tf191
theorem ti191_kd : ti191.kd = Kd.oth := _root_.id rfl
theorem ti191_agg : ti191.kd.agg = false := _root_.id rfl
theorem ti191_size : ti191.size = 1 := _root_.id rfl
theorem ti191_bytes : ti191.bytes = 8 := _root_.id rfl
theorem ti191_zs : zszW ti191 = True := eq_true rfl
theorem ti191_zc : zc ti191 = [.v Value.nilFunc] := _root_.id rfl
theorem ty192 {K : TI → Prop} : @tyW Tryz.prog 192 ⟨K⟩ = K ti192 := ty_of tf192
theorem ti192_kd : ti192.kd = Kd.oth := _root_.id rfl
theorem ti192_agg : ti192.kd.agg = false := _root_.id rfl
theorem ti192_size : ti192.size = 1 := _root_.id rfl
theorem ti192_bytes : ti192.bytes = 8 := _root_.id rfl
theorem ti192_zs : zszW ti192 = True := eq_true rfl
theorem ti192_zc : zc ti192 = [.v Value.nilFunc] := _root_.id rfl
theorem ty193 {K : TI → Prop} : @tyW Tryz.prog 193 ⟨K⟩ = K ti193 := ty_of tf193
theorem ti193_kd : ti193.kd = Kd.oth := _root_.id rfl
theorem ti193_agg : ti193.kd.agg = false := _root_.id rfl
theorem ti193_size : ti193.size = 1 := _root_.id rfl
theorem ti193_bytes : ti193.bytes = 8 := _root_.id rfl
theorem ti193_zs : zszW ti193 = True := eq_true rfl
theorem ti193_zc : zc ti193 = [.v Value.nilFunc] := _root_.id rfl
theorem ty194 {K : TI → Prop} : @tyW Tryz.prog 194 ⟨K⟩ = K ti194 := ty_of tf194
theorem ti194_kd : ti194.kd = Kd.oth := _root_.id rfl
theorem ti194_agg : ti194.kd.agg = false := _root_.id rfl
theorem ti194_size : ti194.size = 1 := _root_.id rfl
theorem ti194_bytes : ti194.bytes = 8 := _root_.id rfl
theorem ti194_zs : zszW ti194 = True := eq_true rfl
theorem ti194_zc : zc ti194 = [.v Value.nilFunc] := _root_.id rfl
theorem ty195 {K : TI → Prop} : @tyW Tryz.prog 195 ⟨K⟩ = K ti195 := ty_of tf195
theorem ti195_kd : ti195.kd = Kd.oth := _root_.id rfl
theorem ti195_agg : ti195.kd.agg = false := _root_.id rfl
theorem ti195_size : ti195.size = 1 := _root_.id rfl
theorem ti195_bytes : ti195.bytes = 8 := _root_.id rfl
theorem ti195_zs : zszW ti195 = True := eq_true rfl
theorem ti195_zc : zc ti195 = [.v Value.nilFunc] := _root_.id rfl
theorem ty196 {K : TI → Prop} : @tyW Tryz.prog 196 ⟨K⟩ = K ti196 := ty_of tf196
theorem ti196_kd : ti196.kd = Kd.oth := _root_.id rfl
theorem ti196_agg : ti196.kd.agg = false := _root_.id rfl
theorem ti196_size : ti196.size = 1 := _root_.id rfl
theorem ti196_bytes : ti196.bytes = 8 := _root_.id rfl
theorem ti196_zs : zszW ti196 = True := eq_true rfl
theorem ti196_zc : zc ti196 = [.v Value.nilFunc] := _root_.id rfl
theorem ty197 {K : TI → Prop} : @tyW Tryz.prog 197 ⟨K⟩ = K ti197 := ty_of tf197
theorem ti197_kd : ti197.kd = Kd.oth := _root_.id rfl
theorem ti197_agg : ti197.kd.agg = false := _root_.id rfl
theorem ti197_size : ti197.size = 1 := _root_.id rfl
theorem ti197_bytes : ti197.bytes = 8 := _root_.id rfl
theorem ti197_zs : zszW ti197 = True := eq_true rfl
theorem ti197_zc : zc ti197 = [.v Value.nilFunc] := _root_.id rfl
theorem ty198 {K : TI → Prop} : @tyW Tryz.prog 198 ⟨K⟩ = K ti198 := ty_of tf198
theorem ti198_kd : ti198.kd = Kd.oth := _root_.id rfl
theorem ti198_agg : ti198.kd.agg = false := _root_.id rfl
theorem ti198_size : ti198.size = 1 := _root_.id rfl
theorem ti198_bytes : ti198.bytes = 8 := _root_.id rfl
theorem ti198_zs : zszW ti198 = True := eq_true rfl
theorem ti198_zc : zc ti198 = [.v Value.nilFunc] := _root_.id rfl
theorem ty199 {K : TI → Prop} : @tyW Tryz.prog 199 ⟨K⟩ = K ti199 := ty_of tf199
theorem ti199_kd : ti199.kd = Kd.oth := _root_.id rfl
theorem ti199_agg : ti199.kd.agg = false := _root_.id rfl
theorem ti199_size : ti199.size = 1 := _root_.id rfl
theorem ti199_bytes : ti199.bytes = 8 := _root_.id rfl
theorem ti199_zs : zszW ti199 = True := eq_true rfl
theorem ti199_zc : zc ti199 = [.v Value.nilFunc] := _root_.id rfl
theorem ty200 {K : TI → Prop} : @tyW Tryz.prog 200 ⟨K⟩ = K ti200 := ty_of tf200
theorem ti200_kd : ti200.kd = Kd.oth := _root_.id rfl
theorem ti200_agg : ti200.kd.agg = false := _root_.id rfl
theorem ti200_size : ti200.size = 1 := _root_.id rfl
theorem ti200_bytes : ti200.bytes = 8 := _root_.id rfl
theorem ti200_zs : zszW ti200 = True := eq_true rfl
theorem ti200_zc : zc ti200 = [.v Value.nilFunc] := _root_.id rfl
theorem ty201 {K : TI → Prop} : @tyW Tryz.prog 201 ⟨K⟩ = K ti201 := ty_of tf201
theorem ti201_kd : ti201.kd = Kd.oth := _root_.id rfl
theorem ti201_agg : ti201.kd.agg = false := _root_.id rfl
theorem ti201_size : ti201.size = 1 := _root_.id rfl
theorem ti201_bytes : ti201.bytes = 8 := _root_.id rfl
theorem ti201_zs : zszW ti201 = True := eq_true rfl
theorem ti201_zc : zc ti201 = [.v Value.nilFunc] := _root_.id rfl
theorem ty202 {K : TI → Prop} : @tyW Tryz.prog 202 ⟨K⟩ = K ti202 := ty_of tf202
theorem ti202_kd : ti202.kd = Kd.oth := _root_.id rfl
theorem ti202_agg : ti202.kd.agg = false := _root_.id rfl
theorem ti202_size : ti202.size = 1 := _root_.id rfl
theorem ti202_bytes : ti202.bytes = 8 := _root_.id rfl
theorem ti202_zs : zszW ti202 = True := eq_true rfl
theorem ti202_zc : zc ti202 = [.v Value.nilFunc] := _root_.id rfl
theorem ty203 {K : TI → Prop} : @tyW Tryz.prog 203 ⟨K⟩ = K ti203 := ty_of tf203
theorem ti203_kd : ti203.kd = Kd.oth := _root_.id rfl
theorem ti203_agg : ti203.kd.agg = false := _root_.id rfl
theorem ti203_size : ti203.size = 1 := _root_.id rfl
theorem ti203_bytes : ti203.bytes = 8 := _root_.id rfl
theorem ti203_zs : zszW ti203 = True := eq_true rfl
theorem ti203_zc : zc ti203 = [.v Value.nilFunc] := _root_.id rfl
theorem ty204 {K : TI → Prop} : @tyW Tryz.prog 204 ⟨K⟩ = K ti204 := ty_of tf204
theorem ti204_kd : ti204.kd = Kd.oth := _root_.id rfl
theorem ti204_agg : ti204.kd.agg = false := _root_.id rfl
theorem ti204_size : ti204.size = 1 := _root_.id rfl
theorem ti204_bytes : ti204.bytes = 8 := _root_.id rfl
theorem ti204_zs : zszW ti204 = True := eq_true rfl
theorem ti204_zc : zc ti204 = [.v Value.nilFunc] := _root_.id rfl
theorem ty205 {K : TI → Prop} : @tyW Tryz.prog 205 ⟨K⟩ = K ti205 := ty_of tf205
theorem ti205_kd : ti205.kd = Kd.oth := _root_.id rfl
theorem ti205_agg : ti205.kd.agg = false := _root_.id rfl
theorem ti205_size : ti205.size = 1 := _root_.id rfl
theorem ti205_bytes : ti205.bytes = 8 := _root_.id rfl
theorem ti205_zs : zszW ti205 = True := eq_true rfl
theorem ti205_zc : zc ti205 = [.v Value.nilFunc] := _root_.id rfl
theorem ty206 {K : TI → Prop} : @tyW Tryz.prog 206 ⟨K⟩ = K ti206 := ty_of tf206
theorem ti206_kd : ti206.kd = Kd.oth := _root_.id rfl
theorem ti206_agg : ti206.kd.agg = false := _root_.id rfl
theorem ti206_size : ti206.size = 1 := _root_.id rfl
theorem ti206_bytes : ti206.bytes = 8 := _root_.id rfl
theorem ti206_zs : zszW ti206 = True := eq_true rfl
theorem ti206_zc : zc ti206 = [.v Value.nilFunc] := _root_.id rfl
theorem ty208 {K : TI → Prop} : @tyW Tryz.prog 208 ⟨K⟩ = K ti208 := ty_of tf208
theorem ti208_kd : ti208.kd = Kd.oth := _root_.id rfl
theorem ti208_agg : ti208.kd.agg = false := _root_.id rfl
theorem ti208_size : ti208.size = 1 := _root_.id rfl
theorem ti208_bytes : ti208.bytes = 8 := _root_.id rfl
theorem ti208_zs : zszW ti208 = True := eq_true rfl
theorem ti208_zc : zc ti208 = [.v Value.nilFunc] := _root_.id rfl
theorem ty209 {K : TI → Prop} : @tyW Tryz.prog 209 ⟨K⟩ = K ti209 := ty_of tf209
theorem ti209_kd : ti209.kd = Kd.oth := _root_.id rfl
theorem ti209_agg : ti209.kd.agg = false := _root_.id rfl
theorem ti209_size : ti209.size = 1 := _root_.id rfl
theorem ti209_bytes : ti209.bytes = 8 := _root_.id rfl
theorem ti209_zs : zszW ti209 = True := eq_true rfl
theorem ti209_zc : zc ti209 = [.v Value.nilFunc] := _root_.id rfl
theorem ty210 {K : TI → Prop} : @tyW Tryz.prog 210 ⟨K⟩ = K ti210 := ty_of tf210
theorem ti210_kd : ti210.kd = Kd.oth := _root_.id rfl
theorem ti210_agg : ti210.kd.agg = false := _root_.id rfl
theorem ti210_size : ti210.size = 1 := _root_.id rfl
theorem ti210_bytes : ti210.bytes = 8 := _root_.id rfl
theorem ti210_zs : zszW ti210 = True := eq_true rfl
theorem ti210_zc : zc ti210 = [.v Value.nilFunc] := _root_.id rfl
theorem ty211 {K : TI → Prop} : @tyW Tryz.prog 211 ⟨K⟩ = K ti211 := ty_of tf211
theorem ti211_kd : ti211.kd = Kd.oth := _root_.id rfl
theorem ti211_agg : ti211.kd.agg = false := _root_.id rfl
theorem ti211_size : ti211.size = 1 := _root_.id rfl
theorem ti211_bytes : ti211.bytes = 8 := _root_.id rfl
theorem ti211_zs : zszW ti211 = True := eq_true rfl
theorem ti211_zc : zc ti211 = [.v Value.nilFunc] := _root_.id rfl
theorem ty212 {K : TI → Prop} : @tyW Tryz.prog 212 ⟨K⟩ = K ti212 := ty_of tf212
theorem ti212_kd : ti212.kd = Kd.oth := _root_.id rfl
theorem ti212_agg : ti212.kd.agg = false := _root_.id rfl
theorem ti212_size : ti212.size = 1 := _root_.id rfl
theorem ti212_bytes : ti212.bytes = 8 := _root_.id rfl
theorem ti212_zs : zszW ti212 = True := eq_true rfl
theorem ti212_zc : zc ti212 = [.v Value.nilFunc] := _root_.id rfl
theorem ty213 {K : TI → Prop} : @tyW Tryz.prog 213 ⟨K⟩ = K ti213 := ty_of tf213
theorem ti213_kd : ti213.kd = Kd.oth := _root_.id rfl
theorem ti213_agg : ti213.kd.agg = false := _root_.id rfl
theorem ti213_size : ti213.size = 1 := _root_.id rfl
theorem ti213_bytes : ti213.bytes = 8 := _root_.id rfl
theorem ti213_zs : zszW ti213 = True := eq_true rfl
theorem ti213_zc : zc ti213 = [.v Value.nilFunc] := _root_.id rfl
theorem ty214 {K : TI → Prop} : @tyW Tryz.prog 214 ⟨K⟩ = K ti214 := ty_of tf214
theorem ti214_kd : ti214.kd = Kd.oth := _root_.id rfl
theorem ti214_agg : ti214.kd.agg = false := _root_.id rfl
theorem ti214_size : ti214.size = 1 := _root_.id rfl
theorem ti214_bytes : ti214.bytes = 8 := _root_.id rfl
theorem ti214_zs : zszW ti214 = True := eq_true rfl
theorem ti214_zc : zc ti214 = [.v Value.nilFunc] := _root_.id rfl
theorem ty215 {K : TI → Prop} : @tyW Tryz.prog 215 ⟨K⟩ = K ti215 := ty_of tf215
theorem ti215_kd : ti215.kd = Kd.oth := _root_.id rfl
theorem ti215_agg : ti215.kd.agg = false := _root_.id rfl
theorem ti215_size : ti215.size = 1 := _root_.id rfl
theorem ti215_bytes : ti215.bytes = 8 := _root_.id rfl
theorem ti215_zs : zszW ti215 = True := eq_true rfl
theorem ti215_zc : zc ti215 = [.v Value.nilFunc] := _root_.id rfl
theorem ty216 {K : TI → Prop} : @tyW Tryz.prog 216 ⟨K⟩ = K ti216 := ty_of tf216
theorem ti216_kd : ti216.kd = Kd.oth := _root_.id rfl
theorem ti216_agg : ti216.kd.agg = false := _root_.id rfl
theorem ti216_size : ti216.size = 1 := _root_.id rfl
theorem ti216_bytes : ti216.bytes = 8 := _root_.id rfl
theorem ti216_zs : zszW ti216 = True := eq_true rfl
theorem ti216_zc : zc ti216 = [.v Value.nilFunc] := _root_.id rfl
theorem ty217 {K : TI → Prop} : @tyW Tryz.prog 217 ⟨K⟩ = K ti217 := ty_of tf217
theorem ti217_kd : ti217.kd = Kd.oth := _root_.id rfl
theorem ti217_agg : ti217.kd.agg = false := _root_.id rfl
theorem ti217_size : ti217.size = 1 := _root_.id rfl
theorem ti217_bytes : ti217.bytes = 8 := _root_.id rfl
theorem ti217_zs : zszW ti217 = True := eq_true rfl
theorem ti217_zc : zc ti217 = [.v Value.nilFunc] := _root_.id rfl
theorem ty218 {K : TI → Prop} : @tyW Tryz.prog 218 ⟨K⟩ = K ti218 := ty_of tf218
theorem ti218_kd : ti218.kd = Kd.oth := _root_.id rfl
theorem ti218_agg : ti218.kd.agg = false := _root_.id rfl
theorem ti218_size : ti218.size = 1 := _root_.id rfl
theorem ti218_bytes : ti218.bytes = 8 := _root_.id rfl
theorem ti218_zs : zszW ti218 = True := eq_true rfl
theorem ti218_zc : zc ti218 = [.v Value.nilFunc] := _root_.id rfl
theorem ty220 {K : TI → Prop} : @tyW Tryz.prog 220 ⟨K⟩ = K ti220 := ty_of tf220
theorem ti220_kd : ti220.kd = Kd.oth := _root_.id rfl
theorem ti220_agg : ti220.kd.agg = false := _root_.id rfl
theorem ti220_size : ti220.size = 1 := _root_.id rfl
theorem ti220_bytes : ti220.bytes = 8 := _root_.id rfl
theorem ti220_zs : zszW ti220 = True := eq_true rfl
theorem ti220_zc : zc ti220 = [.v Value.nilFunc] := _root_.id rfl
theorem ty221 {K : TI → Prop} : @tyW Tryz.prog 221 ⟨K⟩ = K ti221 := ty_of tf221
theorem ti221_kd : ti221.kd = Kd.oth := _root_.id rfl
theorem ti221_agg : ti221.kd.agg = false := _root_.id rfl
theorem ti221_size : ti221.size = 1 := _root_.id rfl
theorem ti221_bytes : ti221.bytes = 8 := _root_.id rfl
theorem ti221_zs : zszW ti221 = True := eq_true rfl
theorem ti221_zc : zc ti221 = [.v Value.nilFunc] := _root_.id rfl
theorem ty222 {K : TI → Prop} : @tyW Tryz.prog 222 ⟨K⟩ = K ti222 := ty_of tf222
theorem ti222_kd : ti222.kd = Kd.sli 100 := _root_.id rfl
theorem ti222_agg : ti222.kd.agg = false := _root_.id rfl
theorem ti222_size : ti222.size = 1 := _root_.id rfl
theorem ti222_bytes : ti222.bytes = 24 := _root_.id rfl
theorem ti222_zs : zszW ti222 = True := eq_true rfl
theorem ti222_zc : zc ti222 = [.v (Value.slice none 0 0)] := _root_.id rfl
theorem sli222 {K : TI → Prop} : @sliW Tryz.prog 222 ⟨K⟩ = K ti100 := sli_of tf222 rfl tf100
theorem ty223 {K : TI → Prop} : @tyW Tryz.prog 223 ⟨K⟩ = K ti223 := ty_of tf223
theorem ti223_kd : ti223.kd = Kd.oth := _root_.id rfl
theorem ti223_agg : ti223.kd.agg = false := _root_.id rfl
theorem ti223_size : ti223.size = 1 := _root_.id rfl
theorem ti223_bytes : ti223.bytes = 8 := _root_.id rfl
theorem ti223_zs : zszW ti223 = True := eq_true rfl
theorem ti223_zc : zc ti223 = [.v Value.nilFunc] := _root_.id rfl
theorem ty224 {K : TI → Prop} : @tyW Tryz.prog 224 ⟨K⟩ = K ti224 := ty_of tf224
theorem ti224_kd : ti224.kd = Kd.oth := _root_.id rfl
theorem ti224_agg : ti224.kd.agg = false := _root_.id rfl
theorem ti224_size : ti224.size = 1 := _root_.id rfl
theorem ti224_bytes : ti224.bytes = 8 := _root_.id rfl
theorem ti224_zs : zszW ti224 = True := eq_true rfl
theorem ti224_zc : zc ti224 = [.v Value.nilFunc] := _root_.id rfl
theorem ty225 {K : TI → Prop} : @tyW Tryz.prog 225 ⟨K⟩ = K ti225 := ty_of tf225
theorem ti225_kd : ti225.kd = Kd.oth := _root_.id rfl
theorem ti225_agg : ti225.kd.agg = false := _root_.id rfl
theorem ti225_size : ti225.size = 1 := _root_.id rfl
theorem ti225_bytes : ti225.bytes = 8 := _root_.id rfl
theorem ti225_zs : zszW ti225 = True := eq_true rfl
theorem ti225_zc : zc ti225 = [.v Value.nilFunc] := _root_.id rfl
theorem ty226 {K : TI → Prop} : @tyW Tryz.prog 226 ⟨K⟩ = K ti226 := ty_of tf226
theorem ti226_kd : ti226.kd = Kd.oth := _root_.id rfl
theorem ti226_agg : ti226.kd.agg = false := _root_.id rfl
theorem ti226_size : ti226.size = 1 := _root_.id rfl
theorem ti226_bytes : ti226.bytes = 8 := _root_.id rfl
theorem ti226_zs : zszW ti226 = True := eq_true rfl
theorem ti226_zc : zc ti226 = [.v Value.nilFunc] := _root_.id rfl
theorem ty227 {K : TI → Prop} : @tyW Tryz.prog 227 ⟨K⟩ = K ti227 := ty_of tf227
theorem ti227_kd : ti227.kd = Kd.oth := _root_.id rfl
theorem ti227_agg : ti227.kd.agg = false := _root_.id rfl
theorem ti227_size : ti227.size = 1 := _root_.id rfl
theorem ti227_bytes : ti227.bytes = 8 := _root_.id rfl
theorem ti227_zs : zszW ti227 = True := eq_true rfl
theorem ti227_zc : zc ti227 = [.v Value.nilFunc] := _root_.id rfl
theorem ty228 {K : TI → Prop} : @tyW Tryz.prog 228 ⟨K⟩ = K ti228 := ty_of tf228
theorem ti228_kd : ti228.kd = Kd.oth := _root_.id rfl
theorem ti228_agg : ti228.kd.agg = false := _root_.id rfl
theorem ti228_size : ti228.size = 1 := _root_.id rfl
theorem ti228_bytes : ti228.bytes = 8 := _root_.id rfl
theorem ti228_zs : zszW ti228 = True := eq_true rfl
theorem ti228_zc : zc ti228 = [.v Value.nilFunc] := _root_.id rfl
theorem ty229 {K : TI → Prop} : @tyW Tryz.prog 229 ⟨K⟩ = K ti229 := ty_of tf229
theorem ti229_kd : ti229.kd = Kd.oth := _root_.id rfl
theorem ti229_agg : ti229.kd.agg = false := _root_.id rfl
theorem ti229_size : ti229.size = 1 := _root_.id rfl
theorem ti229_bytes : ti229.bytes = 8 := _root_.id rfl
theorem ti229_zs : zszW ti229 = True := eq_true rfl
theorem ti229_zc : zc ti229 = [.v Value.nilFunc] := _root_.id rfl
theorem ty230 {K : TI → Prop} : @tyW Tryz.prog 230 ⟨K⟩ = K ti230 := ty_of tf230
theorem ti230_kd : ti230.kd = Kd.oth := _root_.id rfl
theorem ti230_agg : ti230.kd.agg = false := _root_.id rfl
theorem ti230_size : ti230.size = 1 := _root_.id rfl
theorem ti230_bytes : ti230.bytes = 8 := _root_.id rfl
theorem ti230_zs : zszW ti230 = True := eq_true rfl
theorem ti230_zc : zc ti230 = [.v Value.nilFunc] := _root_.id rfl
theorem ty232 {K : TI → Prop} : @tyW Tryz.prog 232 ⟨K⟩ = K ti232 := ty_of tf232
theorem ti232_kd : ti232.kd = Kd.oth := _root_.id rfl
theorem ti232_agg : ti232.kd.agg = false := _root_.id rfl
theorem ti232_size : ti232.size = 1 := _root_.id rfl
theorem ti232_bytes : ti232.bytes = 8 := _root_.id rfl
theorem ti232_zs : zszW ti232 = True := eq_true rfl
theorem ti232_zc : zc ti232 = [.v Value.nilFunc] := _root_.id rfl
theorem ty233 {K : TI → Prop} : @tyW Tryz.prog 233 ⟨K⟩ = K ti233 := ty_of tf233
theorem ti233_kd : ti233.kd = Kd.oth := _root_.id rfl
theorem ti233_agg : ti233.kd.agg = false := _root_.id rfl
theorem ti233_size : ti233.size = 1 := _root_.id rfl
theorem ti233_bytes : ti233.bytes = 8 := _root_.id rfl
theorem ti233_zs : zszW ti233 = True := eq_true rfl
theorem ti233_zc : zc ti233 = [.v Value.nilFunc] := _root_.id rfl
theorem ty234 {K : TI → Prop} : @tyW Tryz.prog 234 ⟨K⟩ = K ti234 := ty_of tf234
theorem ti234_kd : ti234.kd = Kd.oth := _root_.id rfl
theorem ti234_agg : ti234.kd.agg = false := _root_.id rfl
theorem ti234_size : ti234.size = 1 := _root_.id rfl
theorem ti234_bytes : ti234.bytes = 8 := _root_.id rfl
theorem ti234_zs : zszW ti234 = True := eq_true rfl
theorem ti234_zc : zc ti234 = [.v Value.nilFunc] := _root_.id rfl
theorem ty235 {K : TI → Prop} : @tyW Tryz.prog 235 ⟨K⟩ = K ti235 := ty_of tf235
theorem ti235_kd : ti235.kd = Kd.oth := _root_.id rfl
theorem ti235_agg : ti235.kd.agg = false := _root_.id rfl
theorem ti235_size : ti235.size = 1 := _root_.id rfl
theorem ti235_bytes : ti235.bytes = 8 := _root_.id rfl
theorem ti235_zs : zszW ti235 = True := eq_true rfl
theorem ti235_zc : zc ti235 = [.v Value.nilFunc] := _root_.id rfl
theorem ty237 {K : TI → Prop} : @tyW Tryz.prog 237 ⟨K⟩ = K ti237 := ty_of tf237
theorem ti237_kd : ti237.kd = Kd.oth := _root_.id rfl
theorem ti237_agg : ti237.kd.agg = false := _root_.id rfl
theorem ti237_size : ti237.size = 1 := _root_.id rfl
theorem ti237_bytes : ti237.bytes = 8 := _root_.id rfl
theorem ti237_zs : zszW ti237 = True := eq_true rfl
theorem ti237_zc : zc ti237 = [.v Value.nilFunc] := _root_.id rfl
theorem ty238 {K : TI → Prop} : @tyW Tryz.prog 238 ⟨K⟩ = K ti238 := ty_of tf238
theorem ti238_kd : ti238.kd = Kd.oth := _root_.id rfl
theorem ti238_agg : ti238.kd.agg = false := _root_.id rfl
theorem ti238_size : ti238.size = 1 := _root_.id rfl
theorem ti238_bytes : ti238.bytes = 8 := _root_.id rfl
theorem ti238_zs : zszW ti238 = True := eq_true rfl
theorem ti238_zc : zc ti238 = [.v Value.nilFunc] := _root_.id rfl
theorem ty239 {K : TI → Prop} : @tyW Tryz.prog 239 ⟨K⟩ = K ti239 := ty_of tf239
theorem ti239_kd : ti239.kd = Kd.oth := _root_.id rfl
theorem ti239_agg : ti239.kd.agg = false := _root_.id rfl
theorem ti239_size : ti239.size = 1 := _root_.id rfl
theorem ti239_bytes : ti239.bytes = 8 := _root_.id rfl
theorem ti239_zs : zszW ti239 = True := eq_true rfl
theorem ti239_zc : zc ti239 = [.v Value.nilFunc] := _root_.id rfl
theorem ty240 {K : TI → Prop} : @tyW Tryz.prog 240 ⟨K⟩ = K ti240 := ty_of tf240
theorem ti240_kd : ti240.kd = Kd.oth := _root_.id rfl
theorem ti240_agg : ti240.kd.agg = false := _root_.id rfl
theorem ti240_size : ti240.size = 1 := _root_.id rfl
theorem ti240_bytes : ti240.bytes = 8 := _root_.id rfl
theorem ti240_zs : zszW ti240 = True := eq_true rfl
theorem ti240_zc : zc ti240 = [.v Value.nilFunc] := _root_.id rfl
theorem ty241 {K : TI → Prop} : @tyW Tryz.prog 241 ⟨K⟩ = K ti241 := ty_of tf241
theorem ti241_kd : ti241.kd = Kd.oth := _root_.id rfl
theorem ti241_agg : ti241.kd.agg = false := _root_.id rfl
theorem ti241_size : ti241.size = 1 := _root_.id rfl
theorem ti241_bytes : ti241.bytes = 8 := _root_.id rfl
theorem ti241_zs : zszW ti241 = True := eq_true rfl
theorem ti241_zc : zc ti241 = [.v Value.nilFunc] := _root_.id rfl
theorem ty242 {K : TI → Prop} : @tyW Tryz.prog 242 ⟨K⟩ = K ti242 := ty_of tf242
theorem ti242_kd : ti242.kd = Kd.int IntKind.u32 := _root_.id rfl
theorem ti242_agg : ti242.kd.agg = false := _root_.id rfl
theorem ti242_size : ti242.size = 1 := _root_.id rfl
theorem ti242_bytes : ti242.bytes = 4 := _root_.id rfl
theorem ti242_zs : zszW ti242 = True := eq_true rfl
theorem ti242_zc : zc ti242 = [.v (Value.int IntKind.u32 0)] := _root_.id rfl
theorem ty243 {K : TI → Prop} : @tyW Tryz.prog 243 ⟨K⟩ = K ti243 := ty_of tf243
theorem ti243_kd : ti243.kd = Kd.oth := _root_.id rfl
theorem ti243_agg : ti243.kd.agg = false := _root_.id rfl
theorem ti243_size : ti243.size = 1 := _root_.id rfl
theorem ti243_bytes : ti243.bytes = 8 := _root_.id rfl
theorem ti243_zs : zszW ti243 = True := eq_true rfl
theorem ti243_zc : zc ti243 = [.v Value.nilFunc] := _root_.id rfl
theorem ty244 {K : TI → Prop} : @tyW Tryz.prog 244 ⟨K⟩ = K ti244 := ty_of tf244
theorem ti244_kd : ti244.kd = Kd.int IntKind.u64 := _root_.id rfl
theorem ti244_agg : ti244.kd.agg = false := _root_.id rfl
theorem ti244_size : ti244.size = 1 := _root_.id rfl
theorem ti244_bytes : ti244.bytes = 8 := _root_.id rfl
theorem ti244_zs : zszW ti244 = True := eq_true rfl
theorem ti244_zc : zc ti244 = [.v (Value.int IntKind.u64 0)] := _root_.id rfl
theorem ty245 {K : TI → Prop} : @tyW Tryz.prog 245 ⟨K⟩ = K ti245 := ty_of tf245
theorem ti245_kd : ti245.kd = Kd.oth := _root_.id rfl
theorem ti245_agg : ti245.kd.agg = false := _root_.id rfl
theorem ti245_size : ti245.size = 1 := _root_.id rfl
theorem ti245_bytes : ti245.bytes = 8 := _root_.id rfl
theorem ti245_zs : zszW ti245 = True := eq_true rfl
theorem ti245_zc : zc ti245 = [.v Value.nilFunc] := _root_.id rfl
theorem ty247 {K : TI → Prop} : @tyW Tryz.prog 247 ⟨K⟩ = K ti247 := ty_of tf247
theorem ti247_kd : ti247.kd = Kd.oth := _root_.id rfl
theorem ti247_agg : ti247.kd.agg = false := _root_.id rfl
theorem ti247_size : ti247.size = 1 := _root_.id rfl
theorem ti247_bytes : ti247.bytes = 8 := _root_.id rfl
theorem ti247_zs : zszW ti247 = True := eq_true rfl
theorem ti247_zc : zc ti247 = [.v Value.nilFunc] := _root_.id rfl
theorem ty248 {K : TI → Prop} : @tyW Tryz.prog 248 ⟨K⟩ = K ti248 := ty_of tf248
theorem ti248_kd : ti248.kd = Kd.oth := _root_.id rfl
theorem ti248_agg : ti248.kd.agg = false := _root_.id rfl
theorem ti248_size : ti248.size = 1 := _root_.id rfl
theorem ti248_bytes : ti248.bytes = 8 := _root_.id rfl
theorem ti248_zs : zszW ti248 = True := eq_true rfl
theorem ti248_zc : zc ti248 = [.v Value.nilFunc] := _root_.id rfl
theorem ty249 {K : TI → Prop} : @tyW Tryz.prog 249 ⟨K⟩ = K ti249 := ty_of tf249
theorem ti249_kd : ti249.kd = Kd.oth := _root_.id rfl
theorem ti249_agg : ti249.kd.agg = false := _root_.id rfl
theorem ti249_size : ti249.size = 1 := _root_.id rfl
theorem ti249_bytes : ti249.bytes = 8 := _root_.id rfl
theorem ti249_zs : zszW ti249 = True := eq_true rfl
theorem ti249_zc : zc ti249 = [.v Value.nilFunc] := _root_.id rfl
theorem ty250 {K : TI → Prop} : @tyW Tryz.prog 250 ⟨K⟩ = K ti250 := ty_of tf250
theorem ti250_kd : ti250.kd = Kd.oth := _root_.id rfl
theorem ti250_agg : ti250.kd.agg = false := _root_.id rfl
theorem ti250_size : ti250.size = 1 := _root_.id rfl
theorem ti250_bytes : ti250.bytes = 8 := _root_.id rfl
theorem ti250_zs : zszW ti250 = True := eq_true rfl
theorem ti250_zc : zc ti250 = [.v Value.nilFunc] := _root_.id rfl
theorem ty251 {K : TI → Prop} : @tyW Tryz.prog 251 ⟨K⟩ = K ti251 := ty_of tf251
theorem ti251_kd : ti251.kd = Kd.oth := _root_.id rfl
theorem ti251_agg : ti251.kd.agg = false := _root_.id rfl
theorem ti251_size : ti251.size = 1 := _root_.id rfl
theorem ti251_bytes : ti251.bytes = 8 := _root_.id rfl
theorem ti251_zs : zszW ti251 = True := eq_true rfl
theorem ti251_zc : zc ti251 = [.v Value.nilFunc] := _root_.id rfl
theorem ty252 {K : TI → Prop} : @tyW Tryz.prog 252 ⟨K⟩ = K ti252 := ty_of tf252
theorem ti252_kd : ti252.kd = Kd.oth := _root_.id rfl
theorem ti252_agg : ti252.kd.agg = false := _root_.id rfl
theorem ti252_size : ti252.size = 1 := _root_.id rfl
theorem ti252_bytes : ti252.bytes = 8 := _root_.id rfl
theorem ti252_zs : zszW ti252 = True := eq_true rfl
theorem ti252_zc : zc ti252 = [.v Value.nilFunc] := _root_.id rfl
theorem ty253 {K : TI → Prop} : @tyW Tryz.prog 253 ⟨K⟩ = K ti253 := ty_of tf253
theorem ti253_kd : ti253.kd = Kd.oth := _root_.id rfl
theorem ti253_agg : ti253.kd.agg = false := _root_.id rfl
theorem ti253_size : ti253.size = 1 := _root_.id rfl
theorem ti253_bytes : ti253.bytes = 8 := _root_.id rfl
theorem ti253_zs : zszW ti253 = True := eq_true rfl
theorem ti253_zc : zc ti253 = [.v Value.nilFunc] := _root_.id rfl
theorem ty254 {K : TI → Prop} : @tyW Tryz.prog 254 ⟨K⟩ = K ti254 := ty_of tf254
theorem ti254_kd : ti254.kd = Kd.oth := _root_.id rfl
theorem ti254_agg : ti254.kd.agg = false := _root_.id rfl
theorem ti254_size : ti254.size = 1 := _root_.id rfl
theorem ti254_bytes : ti254.bytes = 8 := _root_.id rfl
theorem ti254_zs : zszW ti254 = True := eq_true rfl
theorem ti254_zc : zc ti254 = [.v Value.nilFunc] := _root_.id rfl
theorem ty255 {K : TI → Prop} : @tyW Tryz.prog 255 ⟨K⟩ = K ti255 := ty_of tf255
theorem ti255_kd : ti255.kd = Kd.oth := _root_.id rfl
theorem ti255_agg : ti255.kd.agg = false := _root_.id rfl
theorem ti255_size : ti255.size = 1 := _root_.id rfl
theorem ti255_bytes : ti255.bytes = 8 := _root_.id rfl
theorem ti255_zs : zszW ti255 = True := eq_true rfl
theorem ti255_zc : zc ti255 = [.v Value.nilFunc] := _root_.id rfl
theorem ty258 {K : TI → Prop} : @tyW Tryz.prog 258 ⟨K⟩ = K ti258 := ty_of tf258
theorem ti258_kd : ti258.kd = Kd.oth := _root_.id rfl
theorem ti258_agg : ti258.kd.agg = false := _root_.id rfl
theorem ti258_size : ti258.size = 1 := _root_.id rfl
theorem ti258_bytes : ti258.bytes = 8 := _root_.id rfl
theorem ti258_zs : zszW ti258 = True := eq_true rfl
theorem ti258_zc : zc ti258 = [.v Value.nilFunc] := _root_.id rfl
theorem ty262 {K : TI → Prop} : @tyW Tryz.prog 262 ⟨K⟩ = K ti262 := ty_of tf262
theorem ti262_kd : ti262.kd = Kd.stru [(0, 261)] := _root_.id rfl
theorem ti262_agg : ti262.kd.agg = true := _root_.id rfl
theorem ti262_size : ti262.size = 0 := _root_.id rfl
theorem ti262_bytes : ti262.bytes = 0 := _root_.id rfl
theorem ti262_zs : zszW ti262 = True := eq_true rfl
theorem ti262_zc : zc ti262 = [] := _root_.id rfl
theorem ty263 {K : TI → Prop} : @tyW Tryz.prog 263 ⟨K⟩ = K ti263 := ty_of tf263
theorem ti263_kd : ti263.kd = Kd.stru [(0, 261)] := _root_.id rfl
theorem ti263_agg : ti263.kd.agg = true := _root_.id rfl
theorem ti263_size : ti263.size = 0 := _root_.id rfl
theorem ti263_bytes : ti263.bytes = 0 := _root_.id rfl
theorem ti263_zs : zszW ti263 = True := eq_true rfl
theorem ti263_zc : zc ti263 = [] := _root_.id rfl
theorem ty264 {K : TI → Prop} : @tyW Tryz.prog 264 ⟨K⟩ = K ti264 := ty_of tf264
theorem ti264_kd : ti264.kd = Kd.int IntKind.u8 := _root_.id rfl
theorem ti264_agg : ti264.kd.agg = false := _root_.id rfl
theorem ti264_size : ti264.size = 1 := _root_.id rfl
theorem ti264_bytes : ti264.bytes = 1 := _root_.id rfl
theorem ti264_zs : zszW ti264 = True := eq_true rfl
theorem ti264_zc : zc ti264 = [.v (Value.int IntKind.u8 0)] := _root_.id rfl
theorem ty265 {K : TI → Prop} : @tyW Tryz.prog 265 ⟨K⟩ = K ti265 := ty_of tf265
theorem ti265_kd : ti265.kd = Kd.int IntKind.u8 := _root_.id rfl
theorem ti265_agg : ti265.kd.agg = false := _root_.id rfl
theorem ti265_size : ti265.size = 1 := _root_.id rfl
theorem ti265_bytes : ti265.bytes = 1 := _root_.id rfl
theorem ti265_zs : zszW ti265 = True := eq_true rfl
theorem ti265_zc : zc ti265 = [.v (Value.int IntKind.u8 0)] := _root_.id rfl
theorem ty266 {K : TI → Prop} : @tyW Tryz.prog 266 ⟨K⟩ = K ti266 := ty_of tf266
theorem ti266_kd : ti266.kd = Kd.oth := _root_.id rfl
theorem ti266_agg : ti266.kd.agg = false := _root_.id rfl
theorem ti266_size : ti266.size = 1 := _root_.id rfl
theorem ti266_bytes : ti266.bytes = 8 := _root_.id rfl
theorem ti266_zs : zszW ti266 = True := eq_true rfl
theorem ti266_zc : zc ti266 = [.v Value.nilFunc] := _root_.id rfl
theorem ty268 {K : TI → Prop} : @tyW Tryz.prog 268 ⟨K⟩ = K ti268 := ty_of tf268
theorem ti268_kd : ti268.kd = Kd.int IntKind.i32 := _root_.id rfl
theorem ti268_agg : ti268.kd.agg = false := _root_.id rfl
theorem ti268_size : ti268.size = 1 := _root_.id rfl
theorem ti268_bytes : ti268.bytes = 4 := _root_.id rfl
theorem ti268_zs : zszW ti268 = True := eq_true rfl
theorem ti268_zc : zc ti268 = [.v (Value.int IntKind.i32 0)] := _root_.id rfl
theorem ty269 {K : TI → Prop} : @tyW Tryz.prog 269 ⟨K⟩ = K ti269 := ty_of tf269
theorem ti269_kd : ti269.kd = Kd.int IntKind.i32 := _root_.id rfl
theorem ti269_agg : ti269.kd.agg = false := _root_.id rfl
theorem ti269_size : ti269.size = 1 := _root_.id rfl
theorem ti269_bytes : ti269.bytes = 4 := _root_.id rfl
theorem ti269_zs : zszW ti269 = True := eq_true rfl
theorem ti269_zc : zc ti269 = [.v (Value.int IntKind.i32 0)] := _root_.id rfl
theorem ty272 {K : TI → Prop} : @tyW Tryz.prog 272 ⟨K⟩ = K ti272 := ty_of tf272
theorem ti272_kd : ti272.kd = Kd.oth := _root_.id rfl
theorem ti272_agg : ti272.kd.agg = false := _root_.id rfl
theorem ti272_size : ti272.size = 1 := _root_.id rfl
theorem ti272_bytes : ti272.bytes = 8 := _root_.id rfl
theorem ti272_zs : zszW ti272 = True := eq_true rfl
theorem ti272_zc : zc ti272 = [.v Value.nilFunc] := _root_.id rfl
theorem ty273 {K : TI → Prop} : @tyW Tryz.prog 273 ⟨K⟩ = K ti273 := ty_of tf273
theorem ti273_kd : ti273.kd = Kd.oth := _root_.id rfl
theorem ti273_agg : ti273.kd.agg = false := _root_.id rfl
theorem ti273_size : ti273.size = 1 := _root_.id rfl
theorem ti273_bytes : ti273.bytes = 8 := _root_.id rfl
theorem ti273_zs : zszW ti273 = True := eq_true rfl
theorem ti273_zc : zc ti273 = [.v Value.nilFunc] := _root_.id rfl
theorem ty274 {K : TI → Prop} : @tyW Tryz.prog 274 ⟨K⟩ = K ti274 := ty_of tf274
theorem ti274_kd : ti274.kd = Kd.oth := _root_.id rfl
theorem ti274_agg : ti274.kd.agg = false := _root_.id rfl
theorem ti274_size : ti274.size = 1 := _root_.id rfl
theorem ti274_bytes : ti274.bytes = 8 := _root_.id rfl
theorem ti274_zs : zszW ti274 = True := eq_true rfl
theorem ti274_zc : zc ti274 = [.v Value.nilFunc] := _root_.id rfl
theorem fok2 : fnOk Tryz.prog 2 = True := eq_true ⟨_, Tryz.func2, of_decide_eq_false (by kernel_rfl), rfl⟩
theorem fok3 : fnOk Tryz.prog 3 = True := eq_true ⟨_, Tryz.func3, of_decide_eq_false (by kernel_rfl), rfl⟩
theorem fok4 : fnOk Tryz.prog 4 = True := eq_true ⟨_, Tryz.func4, of_decide_eq_false (by kernel_rfl), rfl⟩
theorem fok5 : fnOk Tryz.prog 5 = True := eq_true ⟨_, Tryz.func5, of_decide_eq_false (by kernel_rfl), rfl⟩
theorem fok6 : fnOk Tryz.prog 6 = True := eq_true ⟨_, Tryz.func6, of_decide_eq_false (by kernel_rfl), rfl⟩
theorem fok7 : fnOk Tryz.prog 7 = True := eq_true ⟨_, Tryz.func7, of_decide_eq_false (by kernel_rfl), rfl⟩
theorem fok8 : fnOk Tryz.prog 8 = True := eq_true ⟨_, Tryz.func8, of_decide_eq_false (by kernel_rfl), rfl⟩
theorem fok9 : fnOk Tryz.prog 9 = True := eq_true ⟨_, Tryz.func9, of_decide_eq_false (by kernel_rfl), rfl⟩
theorem fok10 : fnOk Tryz.prog 10 = True := eq_true ⟨_, Tryz.func10, of_decide_eq_false (by kernel_rfl), rfl⟩
theorem fok11 : fnOk Tryz.prog 11 = True := eq_true ⟨_, Tryz.func11, of_decide_eq_false (by kernel_rfl), rfl⟩
theorem fok12 : fnOk Tryz.prog 12 = True := eq_true ⟨_, Tryz.func12, of_decide_eq_false (by kernel_rfl), rfl⟩
theorem fok13 : fnOk Tryz.prog 13 = True := eq_true ⟨_, Tryz.func13, of_decide_eq_false (by kernel_rfl), rfl⟩
theorem fok14 : fnOk Tryz.prog 14 = True := eq_true ⟨_, Tryz.func14, of_decide_eq_false (by kernel_rfl), rfl⟩
theorem fok15 : fnOk Tryz.prog 15 = True := eq_true ⟨_, Tryz.func15, of_decide_eq_false (by kernel_rfl), rfl⟩
theorem fok16 : fnOk Tryz.prog 16 = True := eq_true ⟨_, Tryz.func16, of_decide_eq_false (by kernel_rfl), rfl⟩
theorem fok17 : fnOk Tryz.prog 17 = True := eq_true ⟨_, Tryz.func17, of_decide_eq_false (by kernel_rfl), rfl⟩
theorem fok18 : fnOk Tryz.prog 18 = True := eq_true ⟨_, Tryz.func18, of_decide_eq_false (by kernel_rfl), rfl⟩
theorem fok19 : fnOk Tryz.prog 19 = True := eq_true ⟨_, Tryz.func19, of_decide_eq_false (by kernel_rfl), rfl⟩
theorem fok20 : fnOk Tryz.prog 20 = True := eq_true ⟨_, Tryz.func20, of_decide_eq_false (by kernel_rfl), rfl⟩
theorem fok21 : fnOk Tryz.prog 21 = True := eq_true ⟨_, Tryz.func21, of_decide_eq_false (by kernel_rfl), rfl⟩
theorem fok22 : fnOk Tryz.prog 22 = True := eq_true ⟨_, Tryz.func22, of_decide_eq_false (by kernel_rfl), rfl⟩
theorem fok23 : fnOk Tryz.prog 23 = True := eq_true ⟨_, Tryz.func23, of_decide_eq_false (by kernel_rfl), rfl⟩
theorem fok24 : fnOk Tryz.prog 24 = True := eq_true ⟨_, Tryz.func24, of_decide_eq_false (by kernel_rfl), rfl⟩
theorem fok25 : fnOk Tryz.prog 25 = True := eq_true ⟨_, Tryz.func25, of_decide_eq_false (by kernel_rfl), rfl⟩
theorem fok26 : fnOk Tryz.prog 26 = True := eq_true ⟨_, Tryz.func26, of_decide_eq_false (by kernel_rfl), rfl⟩
theorem fok27 : fnOk Tryz.prog 27 = True := eq_true ⟨_, Tryz.func27, of_decide_eq_false (by kernel_rfl), rfl⟩
theorem fok28 : fnOk Tryz.prog 28 = True := eq_true ⟨_, Tryz.func28, of_decide_eq_false (by kernel_rfl), rfl⟩
theorem fok29 : fnOk Tryz.prog 29 = True := eq_true ⟨_, Tryz.func29, of_decide_eq_false (by kernel_rfl), rfl⟩
theorem fok30 : fnOk Tryz.prog 30 = True := eq_true ⟨_, Tryz.func30, of_decide_eq_false (by kernel_rfl), rfl⟩
theorem fok31 : fnOk Tryz.prog 31 = True := eq_true ⟨_, Tryz.func31, of_decide_eq_false (by kernel_rfl), rfl⟩
theorem fok32 : fnOk Tryz.prog 32 = True := eq_true ⟨_, Tryz.func32, of_decide_eq_false (by kernel_rfl), rfl⟩
theorem fok33 : fnOk Tryz.prog 33 = True := eq_true ⟨_, Tryz.func33, of_decide_eq_false (by kernel_rfl), rfl⟩
theorem fok34 : fnOk Tryz.prog 34 = True := eq_true ⟨_, Tryz.func34, of_decide_eq_false (by kernel_rfl), rfl⟩
theorem fok35 : fnOk Tryz.prog 35 = True := eq_true ⟨_, Tryz.func35, of_decide_eq_false (by kernel_rfl), rfl⟩
theorem fok36 : fnOk Tryz.prog 36 = True := eq_true ⟨_, Tryz.func36, of_decide_eq_false (by kernel_rfl), rfl⟩
theorem fok37 : fnOk Tryz.prog 37 = True := eq_true ⟨_, Tryz.func37, of_decide_eq_false (by kernel_rfl), rfl⟩
theorem fok38 : fnOk Tryz.prog 38 = True := eq_true ⟨_, Tryz.func38, of_decide_eq_false (by kernel_rfl), rfl⟩
theorem fok39 : fnOk Tryz.prog 39 = True := eq_true ⟨_, Tryz.func39, of_decide_eq_false (by kernel_rfl), rfl⟩
theorem fok40 : fnOk Tryz.prog 40 = True := eq_true ⟨_, Tryz.func40, of_decide_eq_false (by kernel_rfl), rfl⟩
theorem fok41 : fnOk Tryz.prog 41 = True := eq_true ⟨_, Tryz.func41, of_decide_eq_false (by kernel_rfl), rfl⟩
theorem fok42 : fnOk Tryz.prog 42 = True := eq_true ⟨_, Tryz.func42, of_decide_eq_false (by kernel_rfl), rfl⟩
theorem fok43 : fnOk Tryz.prog 43 = True := eq_true ⟨_, Tryz.func43, of_decide_eq_false (by kernel_rfl), rfl⟩
theorem fok44 : fnOk Tryz.prog 44 = True := eq_true ⟨_, Tryz.func44, of_decide_eq_false (by kernel_rfl), rfl⟩
theorem fok45 : fnOk Tryz.prog 45 = True := eq_true ⟨_, Tryz.func45, of_decide_eq_false (by kernel_rfl), rfl⟩
theorem fok46 : fnOk Tryz.prog 46 = True := eq_true ⟨_, Tryz.func46, of_decide_eq_false (by kernel_rfl), rfl⟩
theorem fok47 : fnOk Tryz.prog 47 = True := eq_true ⟨_, Tryz.func47, of_decide_eq_false (by kernel_rfl), rfl⟩
theorem fok48 : fnOk Tryz.prog 48 = True := eq_true ⟨_, Tryz.func48, of_decide_eq_false (by kernel_rfl), rfl⟩
theorem fok49 : fnOk Tryz.prog 49 = True := eq_true ⟨_, Tryz.func49, of_decide_eq_false (by kernel_rfl), rfl⟩
theorem fok50 : fnOk Tryz.prog 50 = True := eq_true ⟨_, Tryz.func50, of_decide_eq_false (by kernel_rfl), rfl⟩
theorem fok51 : fnOk Tryz.prog 51 = True := eq_true ⟨_, Tryz.func51, of_decide_eq_false (by kernel_rfl), rfl⟩
theorem fok52 : fnOk Tryz.prog 52 = True := eq_true ⟨_, Tryz.func52, of_decide_eq_false (by kernel_rfl), rfl⟩
theorem fok53 : fnOk Tryz.prog 53 = True := eq_true ⟨_, Tryz.func53, of_decide_eq_false (by kernel_rfl), rfl⟩
theorem fok54 : fnOk Tryz.prog 54 = True := eq_true ⟨_, Tryz.func54, of_decide_eq_false (by kernel_rfl), rfl⟩
theorem fok55 : fnOk Tryz.prog 55 = True := eq_true ⟨_, Tryz.func55, of_decide_eq_false (by kernel_rfl), rfl⟩
theorem fok56 : fnOk Tryz.prog 56 = True := eq_true ⟨_, Tryz.func56, of_decide_eq_false (by kernel_rfl), rfl⟩
theorem fok57 : fnOk Tryz.prog 57 = True := eq_true ⟨_, Tryz.func57, of_decide_eq_false (by kernel_rfl), rfl⟩
theorem fok58 : fnOk Tryz.prog 58 = True := eq_true ⟨_, Tryz.func58, of_decide_eq_false (by kernel_rfl), rfl⟩
theorem fok59 : fnOk Tryz.prog 59 = True := eq_true ⟨_, Tryz.func59, of_decide_eq_false (by kernel_rfl), rfl⟩
theorem fok60 : fnOk Tryz.prog 60 = True := eq_true ⟨_, Tryz.func60, of_decide_eq_false (by kernel_rfl), rfl⟩
theorem fok61 : fnOk Tryz.prog 61 = True := eq_true ⟨_, Tryz.func61, of_decide_eq_false (by kernel_rfl), rfl⟩
theorem fok62 : fnOk Tryz.prog 62 = True := eq_true ⟨_, Tryz.func62, of_decide_eq_false (by kernel_rfl), rfl⟩
theorem fok63 : fnOk Tryz.prog 63 = True := eq_true ⟨_, Tryz.func63, of_decide_eq_false (by kernel_rfl), rfl⟩
theorem fok64 : fnOk Tryz.prog 64 = True := eq_true ⟨_, Tryz.func64, of_decide_eq_false (by kernel_rfl), rfl⟩
theorem fok65 : fnOk Tryz.prog 65 = True := eq_true ⟨_, Tryz.func65, of_decide_eq_false (by kernel_rfl), rfl⟩
theorem fok66 : fnOk Tryz.prog 66 = True := eq_true ⟨_, Tryz.func66, of_decide_eq_false (by kernel_rfl), rfl⟩
theorem fok67 : fnOk Tryz.prog 67 = True := eq_true ⟨_, Tryz.func67, of_decide_eq_false (by kernel_rfl), rfl⟩
theorem fok68 : fnOk Tryz.prog 68 = True := eq_true ⟨_, Tryz.func68, of_decide_eq_false (by kernel_rfl), rfl⟩
theorem fok69 : fnOk Tryz.prog 69 = True := eq_true ⟨_, Tryz.func69, of_decide_eq_false (by kernel_rfl), rfl⟩
theorem fok70 : fnOk Tryz.prog 70 = True := eq_true ⟨_, Tryz.func70, of_decide_eq_false (by kernel_rfl), rfl⟩
theorem fok71 : fnOk Tryz.prog 71 = True := eq_true ⟨_, Tryz.func71, of_decide_eq_false (by kernel_rfl), rfl⟩
theorem fok72 : fnOk Tryz.prog 72 = True := eq_true ⟨_, Tryz.func72, of_decide_eq_false (by kernel_rfl), rfl⟩
theorem fok73 : fnOk Tryz.prog 73 = True := eq_true ⟨_, Tryz.func73, of_decide_eq_false (by kernel_rfl), rfl⟩
theorem fok74 : fnOk Tryz.prog 74 = True := eq_true ⟨_, Tryz.func74, of_decide_eq_false (by kernel_rfl), rfl⟩
theorem fok75 : fnOk Tryz.prog 75 = True := eq_true ⟨_, Tryz.func75, of_decide_eq_false (by kernel_rfl), rfl⟩
theorem fok76 : fnOk Tryz.prog 76 = True := eq_true ⟨_, Tryz.func76, of_decide_eq_false (by kernel_rfl), rfl⟩
theorem fok77 : fnOk Tryz.prog 77 = True := eq_true ⟨_, Tryz.func77, of_decide_eq_false (by kernel_rfl), rfl⟩
theorem fok78 : fnOk Tryz.prog 78 = True := eq_true ⟨_, Tryz.func78, of_decide_eq_false (by kernel_rfl), rfl⟩
theorem fok79 : fnOk Tryz.prog 79 = True := eq_true ⟨_, Tryz.func79, of_decide_eq_false (by kernel_rfl), rfl⟩
theorem fok80 : fnOk Tryz.prog 80 = True := eq_true ⟨_, Tryz.func80, of_decide_eq_false (by kernel_rfl), rfl⟩
theorem fok81 : fnOk Tryz.prog 81 = True := eq_true ⟨_, Tryz.func81, of_decide_eq_false (by kernel_rfl), rfl⟩
theorem fok82 : fnOk Tryz.prog 82 = True := eq_true ⟨_, Tryz.func82, of_decide_eq_false (by kernel_rfl), rfl⟩
theorem fok83 : fnOk Tryz.prog 83 = True := eq_true ⟨_, Tryz.func83, of_decide_eq_false (by kernel_rfl), rfl⟩
theorem fok84 : fnOk Tryz.prog 84 = True := eq_true ⟨_, Tryz.func84, of_decide_eq_false (by kernel_rfl), rfl⟩
theorem fok85 : fnOk Tryz.prog 85 = True := eq_true ⟨_, Tryz.func85, of_decide_eq_false (by kernel_rfl), rfl⟩
theorem fok86 : fnOk Tryz.prog 86 = True := eq_true ⟨_, Tryz.func86, of_decide_eq_false (by kernel_rfl), rfl⟩
theorem fok87 : fnOk Tryz.prog 87 = True := eq_true ⟨_, Tryz.func87, of_decide_eq_false (by kernel_rfl), rfl⟩
theorem fok88 : fnOk Tryz.prog 88 = True := eq_true ⟨_, Tryz.func88, of_decide_eq_false (by kernel_rfl), rfl⟩
theorem fok89 : fnOk Tryz.prog 89 = True := eq_true ⟨_, Tryz.func89, of_decide_eq_false (by kernel_rfl), rfl⟩
theorem fok90 : fnOk Tryz.prog 90 = True := eq_true ⟨_, Tryz.func90, of_decide_eq_false (by kernel_rfl), rfl⟩
theorem fok91 : fnOk Tryz.prog 91 = True := eq_true ⟨_, Tryz.func91, of_decide_eq_false (by kernel_rfl), rfl⟩
theorem fok92 : fnOk Tryz.prog 92 = True := eq_true ⟨_, Tryz.func92, of_decide_eq_false (by kernel_rfl), rfl⟩
theorem fok93 : fnOk Tryz.prog 93 = True := eq_true ⟨_, Tryz.func93, of_decide_eq_false (by kernel_rfl), rfl⟩
theorem fok94 : fnOk Tryz.prog 94 = True := eq_true ⟨_, Tryz.func94, of_decide_eq_false (by kernel_rfl), rfl⟩
theorem fok95 : fnOk Tryz.prog 95 = True := eq_true ⟨_, Tryz.func95, of_decide_eq_false (by kernel_rfl), rfl⟩
theorem fok96 : fnOk Tryz.prog 96 = True := eq_true ⟨_, Tryz.func96, of_decide_eq_false (by kernel_rfl), rfl⟩
theorem fok97 : fnOk Tryz.prog 97 = True := eq_true ⟨_, Tryz.func97, of_decide_eq_false (by kernel_rfl), rfl⟩
theorem fok98 : fnOk Tryz.prog 98 = True := eq_true ⟨_, Tryz.func98, of_decide_eq_false (by kernel_rfl), rfl⟩
theorem fok99 : fnOk Tryz.prog 99 = True := eq_true ⟨_, Tryz.func99, of_decide_eq_false (by kernel_rfl), rfl⟩
theorem fok100 : fnOk Tryz.prog 100 = True := eq_true ⟨_, Tryz.func100, of_decide_eq_false (by kernel_rfl), rfl⟩
theorem fok101 : fnOk Tryz.prog 101 = True := eq_true ⟨_, Tryz.func101, of_decide_eq_false (by kernel_rfl), rfl⟩
theorem fok102 : fnOk Tryz.prog 102 = True := eq_true ⟨_, Tryz.func102, of_decide_eq_false (by kernel_rfl), rfl⟩
theorem fok103 : fnOk Tryz.prog 103 = True := eq_true ⟨_, Tryz.func103, of_decide_eq_false (by kernel_rfl), rfl⟩
theorem fok104 : fnOk Tryz.prog 104 = True := eq_true ⟨_, Tryz.func104, of_decide_eq_false (by kernel_rfl), rfl⟩
theorem fok105 : fnOk Tryz.prog 105 = True := eq_true ⟨_, Tryz.func105, of_decide_eq_false (by kernel_rfl), rfl⟩
theorem fok106 : fnOk Tryz.prog 106 = True := eq_true ⟨_, Tryz.func106, of_decide_eq_false (by kernel_rfl), rfl⟩
theorem fok107 : fnOk Tryz.prog 107 = True := eq_true ⟨_, Tryz.func107, of_decide_eq_false (by kernel_rfl), rfl⟩
theorem fok108 : fnOk Tryz.prog 108 = True := eq_true ⟨_, Tryz.func108, of_decide_eq_false (by kernel_rfl), rfl⟩
theorem fok109 : fnOk Tryz.prog 109 = True := eq_true ⟨_, Tryz.func109, of_decide_eq_false (by kernel_rfl), rfl⟩
theorem fok110 : fnOk Tryz.prog 110 = True := eq_true ⟨_, Tryz.func110, of_decide_eq_false (by kernel_rfl), rfl⟩
theorem fok111 : fnOk Tryz.prog 111 = True := eq_true ⟨_, Tryz.func111, of_decide_eq_false (by kernel_rfl), rfl⟩
theorem fok112 : fnOk Tryz.prog 112 = True := eq_true ⟨_, Tryz.func112, of_decide_eq_false (by kernel_rfl), rfl⟩
theorem fok113 : fnOk Tryz.prog 113 = True := eq_true ⟨_, Tryz.func113, of_decide_eq_false (by kernel_rfl), rfl⟩
theorem fok114 : fnOk Tryz.prog 114 = True := eq_true ⟨_, Tryz.func114, of_decide_eq_false (by kernel_rfl), rfl⟩
theorem fok115 : fnOk Tryz.prog 115 = True := eq_true ⟨_, Tryz.func115, of_decide_eq_false (by kernel_rfl), rfl⟩
theorem fok116 : fnOk Tryz.prog 116 = True := eq_true ⟨_, Tryz.func116, of_decide_eq_false (by kernel_rfl), rfl⟩
theorem fok117 : fnOk Tryz.prog 117 = True := eq_true ⟨_, Tryz.func117, of_decide_eq_false (by kernel_rfl), rfl⟩
theorem fok118 : fnOk Tryz.prog 118 = True := eq_true ⟨_, Tryz.func118, of_decide_eq_false (by kernel_rfl), rfl⟩
theorem fok119 : fnOk Tryz.prog 119 = True := eq_true ⟨_, Tryz.func119, of_decide_eq_false (by kernel_rfl), rfl⟩
theorem fok120 : fnOk Tryz.prog 120 = True := eq_true ⟨_, Tryz.func120, of_decide_eq_false (by kernel_rfl), rfl⟩
theorem fok121 : fnOk Tryz.prog 121 = True := eq_true ⟨_, Tryz.func121, of_decide_eq_false (by kernel_rfl), rfl⟩
theorem fok122 : fnOk Tryz.prog 122 = True := eq_true ⟨_, Tryz.func122, of_decide_eq_false (by kernel_rfl), rfl⟩
theorem fok123 : fnOk Tryz.prog 123 = True := eq_true ⟨_, Tryz.func123, of_decide_eq_false (by kernel_rfl), rfl⟩
theorem fok124 : fnOk Tryz.prog 124 = True := eq_true ⟨_, Tryz.func124, of_decide_eq_false (by kernel_rfl), rfl⟩
theorem fok125 : fnOk Tryz.prog 125 = True := eq_true ⟨_, Tryz.func125, of_decide_eq_false (by kernel_rfl), rfl⟩
theorem fok126 : fnOk Tryz.prog 126 = True := eq_true ⟨_, Tryz.func126, of_decide_eq_false (by kernel_rfl), rfl⟩
theorem fok127 : fnOk Tryz.prog 127 = True := eq_true ⟨_, Tryz.func127, of_decide_eq_false (by kernel_rfl), rfl⟩
theorem fok128 : fnOk Tryz.prog 128 = True := eq_true ⟨_, Tryz.func128, of_decide_eq_false (by kernel_rfl), rfl⟩
theorem fok129 : fnOk Tryz.prog 129 = True := eq_true ⟨_, Tryz.func129, of_decide_eq_false (by kernel_rfl), rfl⟩
theorem fok130 : fnOk Tryz.prog 130 = True := eq_true ⟨_, Tryz.func130, of_decide_eq_false (by kernel_rfl), rfl⟩
theorem fok131 : fnOk Tryz.prog 131 = True := eq_true ⟨_, Tryz.func131, of_decide_eq_false (by kernel_rfl), rfl⟩
theorem fok132 : fnOk Tryz.prog 132 = True := eq_true ⟨_, Tryz.func132, of_decide_eq_false (by kernel_rfl), rfl⟩
theorem fok133 : fnOk Tryz.prog 133 = True := eq_true ⟨_, Tryz.func133, of_decide_eq_false (by kernel_rfl), rfl⟩
theorem fok134 : fnOk Tryz.prog 134 = True := eq_true ⟨_, Tryz.func134, of_decide_eq_false (by kernel_rfl), rfl⟩
theorem fok135 : fnOk Tryz.prog 135 = True := eq_true ⟨_, Tryz.func135, of_decide_eq_false (by kernel_rfl), rfl⟩
theorem fok136 : fnOk Tryz.prog 136 = True := eq_true ⟨_, Tryz.func136, of_decide_eq_false (by kernel_rfl), rfl⟩
theorem fok137 : fnOk Tryz.prog 137 = True := eq_true ⟨_, Tryz.func137, of_decide_eq_false (by kernel_rfl), rfl⟩
theorem fok138 : fnOk Tryz.prog 138 = True := eq_true ⟨_, Tryz.func138, of_decide_eq_false (by kernel_rfl), rfl⟩
theorem fok139 : fnOk Tryz.prog 139 = True := eq_true ⟨_, Tryz.func139, of_decide_eq_false (by kernel_rfl), rfl⟩
theorem fok140 : fnOk Tryz.prog 140 = True := eq_true ⟨_, Tryz.func140, of_decide_eq_false (by kernel_rfl), rfl⟩
theorem fok141 : fnOk Tryz.prog 141 = True := eq_true ⟨_, Tryz.func141, of_decide_eq_false (by kernel_rfl), rfl⟩
theorem fok142 : fnOk Tryz.prog 142 = True := eq_true ⟨_, Tryz.func142, of_decide_eq_false (by kernel_rfl), rfl⟩
theorem fok143 : fnOk Tryz.prog 143 = True := eq_true ⟨_, Tryz.func143, of_decide_eq_false (by kernel_rfl), rfl⟩
theorem fok144 : fnOk Tryz.prog 144 = True := eq_true ⟨_, Tryz.func144, of_decide_eq_false (by kernel_rfl), rfl⟩
theorem fok145 : fnOk Tryz.prog 145 = True := eq_true ⟨_, Tryz.func145, of_decide_eq_false (by kernel_rfl), rfl⟩
theorem fok146 : fnOk Tryz.prog 146 = True := eq_true ⟨_, Tryz.func146, of_decide_eq_false (by kernel_rfl), rfl⟩
theorem fok147 : fnOk Tryz.prog 147 = True := eq_true ⟨_, Tryz.func147, of_decide_eq_false (by kernel_rfl), rfl⟩
theorem fok148 : fnOk Tryz.prog 148 = True := eq_true ⟨_, Tryz.func148, of_decide_eq_false (by kernel_rfl), rfl⟩
theorem fok149 : fnOk Tryz.prog 149 = True := eq_true ⟨_, Tryz.func149, of_decide_eq_false (by kernel_rfl), rfl⟩
theorem fok150 : fnOk Tryz.prog 150 = True := eq_true ⟨_, Tryz.func150, of_decide_eq_false (by kernel_rfl), rfl⟩
theorem fok151 : fnOk Tryz.prog 151 = True := eq_true ⟨_, Tryz.func151, of_decide_eq_false (by kernel_rfl), rfl⟩
theorem fok152 : fnOk Tryz.prog 152 = True := eq_true ⟨_, Tryz.func152, of_decide_eq_false (by kernel_rfl), rfl⟩
theorem fok153 : fnOk Tryz.prog 153 = True := eq_true ⟨_, Tryz.func153, of_decide_eq_false (by kernel_rfl), rfl⟩
theorem fok154 : fnOk Tryz.prog 154 = True := eq_true ⟨_, Tryz.func154, of_decide_eq_false (by kernel_rfl), rfl⟩
theorem fok155 : fnOk Tryz.prog 155 = True := eq_true ⟨_, Tryz.func155, of_decide_eq_false (by kernel_rfl), rfl⟩
theorem fok156 : fnOk Tryz.prog 156 = True := eq_true ⟨_, Tryz.func156, of_decide_eq_false (by kernel_rfl), rfl⟩
theorem fok157 : fnOk Tryz.prog 157 = True := eq_true ⟨_, Tryz.func157, of_decide_eq_false (by kernel_rfl), rfl⟩
theorem fok158 : fnOk Tryz.prog 158 = True := eq_true ⟨_, Tryz.func158, of_decide_eq_false (by kernel_rfl), rfl⟩
theorem fok159 : fnOk Tryz.prog 159 = True := eq_true ⟨_, Tryz.func159, of_decide_eq_false (by kernel_rfl), rfl⟩
theorem fok160 : fnOk Tryz.prog 160 = True := eq_true ⟨_, Tryz.func160, of_decide_eq_false (by kernel_rfl), rfl⟩
theorem fok161 : fnOk Tryz.prog 161 = True := eq_true ⟨_, Tryz.func161, of_decide_eq_false (by kernel_rfl), rfl⟩
theorem fok162 : fnOk Tryz.prog 162 = True := eq_true ⟨_, Tryz.func162, of_decide_eq_false (by kernel_rfl), rfl⟩
theorem fok163 : fnOk Tryz.prog 163 = True := eq_true ⟨_, Tryz.func163, of_decide_eq_false (by kernel_rfl), rfl⟩
theorem fok164 : fnOk Tryz.prog 164 = True := eq_true ⟨_, Tryz.func164, of_decide_eq_false (by kernel_rfl), rfl⟩
theorem fok165 : fnOk Tryz.prog 165 = True := eq_true ⟨_, Tryz.func165, of_decide_eq_false (by kernel_rfl), rfl⟩
theorem fok166 : fnOk Tryz.prog 166 = True := eq_true ⟨_, Tryz.func166, of_decide_eq_false (by kernel_rfl), rfl⟩
theorem fok167 : fnOk Tryz.prog 167 = True := eq_true ⟨_, Tryz.func167, of_decide_eq_false (by kernel_rfl), rfl⟩
theorem fok168 : fnOk Tryz.prog 168 = True := eq_true ⟨_, Tryz.func168, of_decide_eq_false (by kernel_rfl), rfl⟩
theorem fok169 : fnOk Tryz.prog 169 = True := eq_true ⟨_, Tryz.func169, of_decide_eq_false (by kernel_rfl), rfl⟩
theorem fok170 : fnOk Tryz.prog 170 = True := eq_true ⟨_, Tryz.func170, of_decide_eq_false (by kernel_rfl), rfl⟩
theorem fok171 : fnOk Tryz.prog 171 = True := eq_true ⟨_, Tryz.func171, of_decide_eq_false (by kernel_rfl), rfl⟩
theorem fok172 : fnOk Tryz.prog 172 = True := eq_true ⟨_, Tryz.func172, of_decide_eq_false (by kernel_rfl), rfl⟩
theorem fok173 : fnOk Tryz.prog 173 = True := eq_true ⟨_, Tryz.func173, of_decide_eq_false (by kernel_rfl), rfl⟩
theorem fok174 : fnOk Tryz.prog 174 = True := eq_true ⟨_, Tryz.func174, of_decide_eq_false (by kernel_rfl), rfl⟩
theorem fok175 : fnOk Tryz.prog 175 = True := eq_true ⟨_, Tryz.func175, of_decide_eq_false (by kernel_rfl), rfl⟩
theorem fok176 : fnOk Tryz.prog 176 = True := eq_true ⟨_, Tryz.func176, of_decide_eq_false (by kernel_rfl), rfl⟩
theorem fok177 : fnOk Tryz.prog 177 = True := eq_true ⟨_, Tryz.func177, of_decide_eq_false (by kernel_rfl), rfl⟩
theorem fok178 : fnOk Tryz.prog 178 = True := eq_true ⟨_, Tryz.func178, of_decide_eq_false (by kernel_rfl), rfl⟩
theorem fok179 : fnOk Tryz.prog 179 = True := eq_true ⟨_, Tryz.func179, of_decide_eq_false (by kernel_rfl), rfl⟩
theorem fok180 : fnOk Tryz.prog 180 = True := eq_true ⟨_, Tryz.func180, of_decide_eq_false (by kernel_rfl), rfl⟩
theorem fok181 : fnOk Tryz.prog 181 = True := eq_true ⟨_, Tryz.func181, of_decide_eq_false (by kernel_rfl), rfl⟩
theorem fok182 : fnOk Tryz.prog 182 = True := eq_true ⟨_, Tryz.func182, of_decide_eq_false (by kernel_rfl), rfl⟩
theorem fok183 : fnOk Tryz.prog 183 = True := eq_true ⟨_, Tryz.func183, of_decide_eq_false (by kernel_rfl), rfl⟩
theorem fok184 : fnOk Tryz.prog 184 = True := eq_true ⟨_, Tryz.func184, of_decide_eq_false (by kernel_rfl), rfl⟩
theorem fok185 : fnOk Tryz.prog 185 = True := eq_true ⟨_, Tryz.func185, of_decide_eq_false (by kernel_rfl), rfl⟩
theorem fok186 : fnOk Tryz.prog 186 = True := eq_true ⟨_, Tryz.func186, of_decide_eq_false (by kernel_rfl), rfl⟩
theorem fok187 : fnOk Tryz.prog 187 = True := eq_true ⟨_, Tryz.func187, of_decide_eq_false (by kernel_rfl), rfl⟩
theorem fok188 : fnOk Tryz.prog 188 = True := eq_true ⟨_, Tryz.func188, of_decide_eq_false (by kernel_rfl), rfl⟩
theorem fok189 : fnOk Tryz.prog 189 = True := eq_true ⟨_, Tryz.func189, of_decide_eq_false (by kernel_rfl), rfl⟩
theorem fok190 : fnOk Tryz.prog 190 = True := eq_true ⟨_, Tryz.func190, of_decide_eq_false (by kernel_rfl), rfl⟩
theorem fok191 : fnOk Tryz.prog 191 = True := eq_true ⟨_, Tryz.func191, of_decide_eq_false (by kernel_rfl), rfl⟩
theorem fok192 : fnOk Tryz.prog 192 = True := eq_true ⟨_, Tryz.func192, of_decide_eq_false (by kernel_rfl), rfl⟩
theorem fok193 : fnOk Tryz.prog 193 = True := eq_true ⟨_, Tryz.func193, of_decide_eq_false (by kernel_rfl), rfl⟩
theorem fok194 : fnOk Tryz.prog 194 = True := eq_true ⟨_, Tryz.func194, of_decide_eq_false (by kernel_rfl), rfl⟩
theorem fok195 : fnOk Tryz.prog 195 = True := eq_true ⟨_, Tryz.func195, of_decide_eq_false (by kernel_rfl), rfl⟩
theorem fok196 : fnOk Tryz.prog 196 = True := eq_true ⟨_, Tryz.func196, of_decide_eq_false (by kernel_rfl), rfl⟩
theorem fok197 : fnOk Tryz.prog 197 = True := eq_true ⟨_, Tryz.func197, of_decide_eq_false (by kernel_rfl), rfl⟩
theorem fok198 : fnOk Tryz.prog 198 = True := eq_true ⟨_, Tryz.func198, of_decide_eq_false (by kernel_rfl), rfl⟩
theorem fok199 : fnOk Tryz.prog 199 = True := eq_true ⟨_, Tryz.func199, of_decide_eq_false (by kernel_rfl), rfl⟩
theorem fok200 : fnOk Tryz.prog 200 = True := eq_true ⟨_, Tryz.func200, of_decide_eq_false (by kernel_rfl), rfl⟩
theorem fok201 : fnOk Tryz.prog 201 = True := eq_true ⟨_, Tryz.func201, of_decide_eq_false (by kernel_rfl), rfl⟩
theorem fok202 : fnOk Tryz.prog 202 = True := eq_true ⟨_, Tryz.func202, of_decide_eq_false (by kernel_rfl), rfl⟩
theorem fok203 : fnOk Tryz.prog 203 = True := eq_true ⟨_, Tryz.func203, of_decide_eq_false (by kernel_rfl), rfl⟩
theorem fok204 : fnOk Tryz.prog 204 = True := eq_true ⟨_, Tryz.func204, of_decide_eq_false (by kernel_rfl), rfl⟩
theorem fok205 : fnOk Tryz.prog 205 = True := eq_true ⟨_, Tryz.func205, of_decide_eq_false (by kernel_rfl), rfl⟩
theorem fok206 : fnOk Tryz.prog 206 = True := eq_true ⟨_, Tryz.func206, of_decide_eq_false (by kernel_rfl), rfl⟩
theorem fok207 : fnOk Tryz.prog 207 = True := eq_true ⟨_, Tryz.func207, of_decide_eq_false (by kernel_rfl), rfl⟩
theorem fok208 : fnOk Tryz.prog 208 = True := eq_true ⟨_, Tryz.func208, of_decide_eq_false (by kernel_rfl), rfl⟩
theorem fok209 : fnOk Tryz.prog 209 = True := eq_true ⟨_, Tryz.func209, of_decide_eq_false (by kernel_rfl), rfl⟩
theorem fok210 : fnOk Tryz.prog 210 = True := eq_true ⟨_, Tryz.func210, of_decide_eq_false (by kernel_rfl), rfl⟩
theorem fok211 : fnOk Tryz.prog 211 = True := eq_true ⟨_, Tryz.func211, of_decide_eq_false (by kernel_rfl), rfl⟩
theorem fok212 : fnOk Tryz.prog 212 = True := eq_true ⟨_, Tryz.func212, of_decide_eq_false (by kernel_rfl), rfl⟩
theorem fok213 : fnOk Tryz.prog 213 = True := eq_true ⟨_, Tryz.func213, of_decide_eq_false (by kernel_rfl), rfl⟩
theorem fok214 : fnOk Tryz.prog 214 = True := eq_true ⟨_, Tryz.func214, of_decide_eq_false (by kernel_rfl), rfl⟩
theorem fok215 : fnOk Tryz.prog 215 = True := eq_true ⟨_, Tryz.func215, of_decide_eq_false (by kernel_rfl), rfl⟩
theorem fok216 : fnOk Tryz.prog 216 = True := eq_true ⟨_, Tryz.func216, of_decide_eq_false (by kernel_rfl), rfl⟩
theorem fok217 : fnOk Tryz.prog 217 = True := eq_true ⟨_, Tryz.func217, of_decide_eq_false (by kernel_rfl), rfl⟩
theorem fok218 : fnOk Tryz.prog 218 = True := eq_true ⟨_, Tryz.func218, of_decide_eq_false (by kernel_rfl), rfl⟩
theorem fok219 : fnOk Tryz.prog 219 = True := eq_true ⟨_, Tryz.func219, of_decide_eq_false (by kernel_rfl), rfl⟩
theorem fok220 : fnOk Tryz.prog 220 = True := eq_true ⟨_, Tryz.func220, of_decide_eq_false (by kernel_rfl), rfl⟩
theorem fok221 : fnOk Tryz.prog 221 = True := eq_true ⟨_, Tryz.func221, of_decide_eq_false (by kernel_rfl), rfl⟩
theorem fok222 : fnOk Tryz.prog 222 = True := eq_true ⟨_, Tryz.func222, of_decide_eq_false (by kernel_rfl), rfl⟩
theorem fok223 : fnOk Tryz.prog 223 = True := eq_true ⟨_, Tryz.func223, of_decide_eq_false (by kernel_rfl), rfl⟩
theorem fok224 : fnOk Tryz.prog 224 = True := eq_true ⟨_, Tryz.func224, of_decide_eq_false (by kernel_rfl), rfl⟩
theorem fok225 : fnOk Tryz.prog 225 = True := eq_true ⟨_, Tryz.func225, of_decide_eq_false (by kernel_rfl), rfl⟩
theorem fok226 : fnOk Tryz.prog 226 = True := eq_true ⟨_, Tryz.func226, of_decide_eq_false (by kernel_rfl), rfl⟩
theorem fok227 : fnOk Tryz.prog 227 = True := eq_true ⟨_, Tryz.func227, of_decide_eq_false (by kernel_rfl), rfl⟩
theorem fok228 : fnOk Tryz.prog 228 = True := eq_true ⟨_, Tryz.func228, of_decide_eq_false (by kernel_rfl), rfl⟩
theorem fok229 : fnOk Tryz.prog 229 = True := eq_true ⟨_, Tryz.func229, of_decide_eq_false (by kernel_rfl), rfl⟩
theorem fok230 : fnOk Tryz.prog 230 = True := eq_true ⟨_, Tryz.func230, of_decide_eq_false (by kernel_rfl), rfl⟩
theorem fok231 : fnOk Tryz.prog 231 = True := eq_true ⟨_, Tryz.func231, of_decide_eq_false (by kernel_rfl), rfl⟩
theorem fok232 : fnOk Tryz.prog 232 = True := eq_true ⟨_, Tryz.func232, of_decide_eq_false (by kernel_rfl), rfl⟩
theorem fok233 : fnOk Tryz.prog 233 = True := eq_true ⟨_, Tryz.func233, of_decide_eq_false (by kernel_rfl), rfl⟩
theorem fok234 : fnOk Tryz.prog 234 = True := eq_true ⟨_, Tryz.func234, of_decide_eq_false (by kernel_rfl), rfl⟩
theorem fok235 : fnOk Tryz.prog 235 = True := eq_true ⟨_, Tryz.func235, of_decide_eq_false (by kernel_rfl), rfl⟩
theorem fok236 : fnOk Tryz.prog 236 = True := eq_true ⟨_, Tryz.func236, of_decide_eq_false (by kernel_rfl), rfl⟩
theorem fok237 : fnOk Tryz.prog 237 = True := eq_true ⟨_, Tryz.func237, of_decide_eq_false (by kernel_rfl), rfl⟩
theorem fok238 : fnOk Tryz.prog 238 = True := eq_true ⟨_, Tryz.func238, of_decide_eq_false (by kernel_rfl), rfl⟩
theorem fok239 : fnOk Tryz.prog 239 = True := eq_true ⟨_, Tryz.func239, of_decide_eq_false (by kernel_rfl), rfl⟩
theorem fok240 : fnOk Tryz.prog 240 = True := eq_true ⟨_, Tryz.func240, of_decide_eq_false (by kernel_rfl), rfl⟩
theorem fok241 : fnOk Tryz.prog 241 = True := eq_true ⟨_, Tryz.func241, of_decide_eq_false (by kernel_rfl), rfl⟩
theorem fok242 : fnOk Tryz.prog 242 = True := eq_true ⟨_, Tryz.func242, of_decide_eq_false (by kernel_rfl), rfl⟩
theorem fok243 : fnOk Tryz.prog 243 = True := eq_true ⟨_, Tryz.func243, of_decide_eq_false (by kernel_rfl), rfl⟩
theorem fok244 : fnOk Tryz.prog 244 = True := eq_true ⟨_, Tryz.func244, of_decide_eq_false (by kernel_rfl), rfl⟩
theorem fok245 : fnOk Tryz.prog 245 = True := eq_true ⟨_, Tryz.func245, of_decide_eq_false (by kernel_rfl), rfl⟩
theorem fok246 : fnOk Tryz.prog 246 = True := eq_true ⟨_, Tryz.func246, of_decide_eq_false (by kernel_rfl), rfl⟩
theorem fok247 : fnOk Tryz.prog 247 = True := eq_true ⟨_, Tryz.func247, of_decide_eq_false (by kernel_rfl), rfl⟩
theorem fok248 : fnOk Tryz.prog 248 = True := eq_true ⟨_, Tryz.func248, of_decide_eq_false (by kernel_rfl), rfl⟩
theorem fok249 : fnOk Tryz.prog 249 = True := eq_true ⟨_, Tryz.func249, of_decide_eq_false (by kernel_rfl), rfl⟩
theorem fok250 : fnOk Tryz.prog 250 = True := eq_true ⟨_, Tryz.func250, of_decide_eq_false (by kernel_rfl), rfl⟩
theorem fok251 : fnOk Tryz.prog 251 = True := eq_true ⟨_, Tryz.func251, of_decide_eq_false (by kernel_rfl), rfl⟩
theorem fok252 : fnOk Tryz.prog 252 = True := eq_true ⟨_, Tryz.func252, of_decide_eq_false (by kernel_rfl), rfl⟩
theorem fok253 : fnOk Tryz.prog 253 = True := eq_true ⟨_, Tryz.func253, of_decide_eq_false (by kernel_rfl), rfl⟩
theorem fok254 : fnOk Tryz.prog 254 = True := eq_true ⟨_, Tryz.func254, of_decide_eq_false (by kernel_rfl), rfl⟩
theorem fok255 : fnOk Tryz.prog 255 = True := eq_true ⟨_, Tryz.func255, of_decide_eq_false (by kernel_rfl), rfl⟩
theorem fok256 : fnOk Tryz.prog 256 = True := eq_true ⟨_, Tryz.func256, of_decide_eq_false (by kernel_rfl), rfl⟩
theorem fok257 : fnOk Tryz.prog 257 = True := eq_true ⟨_, Tryz.func257, of_decide_eq_false (by kernel_rfl), rfl⟩
theorem fok258 : fnOk Tryz.prog 258 = True := eq_true ⟨_, Tryz.func258, of_decide_eq_false (by kernel_rfl), rfl⟩
theorem fok259 : fnOk Tryz.prog 259 = True := eq_true ⟨_, Tryz.func259, of_decide_eq_false (by kernel_rfl), rfl⟩
theorem fok260 : fnOk Tryz.prog 260 = True := eq_true ⟨_, Tryz.func260, of_decide_eq_false (by kernel_rfl), rfl⟩
theorem fok261 : fnOk Tryz.prog 261 = True := eq_true ⟨_, Tryz.func261, of_decide_eq_false (by kernel_rfl), rfl⟩
theorem fok262 : fnOk Tryz.prog 262 = True := eq_true ⟨_, Tryz.func262, of_decide_eq_false (by kernel_rfl), rfl⟩
theorem fok263 : fnOk Tryz.prog 263 = True := eq_true ⟨_, Tryz.func263, of_decide_eq_false (by kernel_rfl), rfl⟩
theorem fok264 : fnOk Tryz.prog 264 = True := eq_true ⟨_, Tryz.func264, of_decide_eq_false (by kernel_rfl), rfl⟩
theorem fok265 : fnOk Tryz.prog 265 = True := eq_true ⟨_, Tryz.func265, of_decide_eq_false (by kernel_rfl), rfl⟩
theorem fok266 : fnOk Tryz.prog 266 = True := eq_true ⟨_, Tryz.func266, of_decide_eq_false (by kernel_rfl), rfl⟩
theorem fok267 : fnOk Tryz.prog 267 = True := eq_true ⟨_, Tryz.func267, of_decide_eq_false (by kernel_rfl), rfl⟩
theorem fok268 : fnOk Tryz.prog 268 = True := eq_true ⟨_, Tryz.func268, of_decide_eq_false (by kernel_rfl), rfl⟩
theorem fok269 : fnOk Tryz.prog 269 = True := eq_true ⟨_, Tryz.func269, of_decide_eq_false (by kernel_rfl), rfl⟩
theorem fok270 : fnOk Tryz.prog 270 = True := eq_true ⟨_, Tryz.func270, of_decide_eq_false (by kernel_rfl), rfl⟩
theorem fok271 : fnOk Tryz.prog 271 = True := eq_true ⟨_, Tryz.func271, of_decide_eq_false (by kernel_rfl), rfl⟩
theorem fok272 : fnOk Tryz.prog 272 = True := eq_true ⟨_, Tryz.func272, of_decide_eq_false (by kernel_rfl), rfl⟩
theorem fok273 : fnOk Tryz.prog 273 = True := eq_true ⟨_, Tryz.func273, of_decide_eq_false (by kernel_rfl), rfl⟩
theorem fok274 : fnOk Tryz.prog 274 = True := eq_true ⟨_, Tryz.func274, of_decide_eq_false (by kernel_rfl), rfl⟩
theorem fok275 : fnOk Tryz.prog 275 = True := eq_true ⟨_, Tryz.func275, of_decide_eq_false (by kernel_rfl), rfl⟩
theorem fok276 : fnOk Tryz.prog 276 = True := eq_true ⟨_, Tryz.func276, of_decide_eq_false (by kernel_rfl), rfl⟩
theorem fok277 : fnOk Tryz.prog 277 = True := eq_true ⟨_, Tryz.func277, of_decide_eq_false (by kernel_rfl), rfl⟩
theorem fok278 : fnOk Tryz.prog 278 = True := eq_true ⟨_, Tryz.func278, of_decide_eq_false (by kernel_rfl), rfl⟩
theorem fok279 : fnOk Tryz.prog 279 = True := eq_true ⟨_, Tryz.func279, of_decide_eq_false (by kernel_rfl), rfl⟩
theorem fok280 : fnOk Tryz.prog 280 = True := eq_true ⟨_, Tryz.func280, of_decide_eq_false (by kernel_rfl), rfl⟩
theorem fok281 : fnOk Tryz.prog 281 = True := eq_true ⟨_, Tryz.func281, of_decide_eq_false (by kernel_rfl), rfl⟩
theorem fok282 : fnOk Tryz.prog 282 = True := eq_true ⟨_, Tryz.func282, of_decide_eq_false (by kernel_rfl), rfl⟩
theorem fok283 : fnOk Tryz.prog 283 = True := eq_true ⟨_, Tryz.func283, of_decide_eq_false (by kernel_rfl), rfl⟩
theorem fok284 : fnOk Tryz.prog 284 = True := eq_true ⟨_, Tryz.func284, of_decide_eq_false (by kernel_rfl), rfl⟩
theorem fok285 : fnOk Tryz.prog 285 = True := eq_true ⟨_, Tryz.func285, of_decide_eq_false (by kernel_rfl), rfl⟩
theorem fok286 : fnOk Tryz.prog 286 = True := eq_true ⟨_, Tryz.func286, of_decide_eq_false (by kernel_rfl), rfl⟩
theorem fok287 : fnOk Tryz.prog 287 = True := eq_true ⟨_, Tryz.func287, of_decide_eq_false (by kernel_rfl), rfl⟩
theorem fok288 : fnOk Tryz.prog 288 = True := eq_true ⟨_, Tryz.func288, of_decide_eq_false (by kernel_rfl), rfl⟩
theorem fok289 : fnOk Tryz.prog 289 = True := eq_true ⟨_, Tryz.func289, of_decide_eq_false (by kernel_rfl), rfl⟩
theorem fok290 : fnOk Tryz.prog 290 = True := eq_true ⟨_, Tryz.func290, of_decide_eq_false (by kernel_rfl), rfl⟩
theorem fok291 : fnOk Tryz.prog 291 = True := eq_true ⟨_, Tryz.func291, of_decide_eq_false (by kernel_rfl), rfl⟩
theorem fok292 : fnOk Tryz.prog 292 = True := eq_true ⟨_, Tryz.func292, of_decide_eq_false (by kernel_rfl), rfl⟩
theorem fok293 : fnOk Tryz.prog 293 = True := eq_true ⟨_, Tryz.func293, of_decide_eq_false (by kernel_rfl), rfl⟩
theorem fok294 : fnOk Tryz.prog 294 = True := eq_true ⟨_, Tryz.func294, of_decide_eq_false (by kernel_rfl), rfl⟩
theorem fok295 : fnOk Tryz.prog 295 = True := eq_true ⟨_, Tryz.func295, of_decide_eq_false (by kernel_rfl), rfl⟩
theorem fok296 : fnOk Tryz.prog 296 = True := eq_true ⟨_, Tryz.func296, of_decide_eq_false (by kernel_rfl), rfl⟩
theorem fok297 : fnOk Tryz.prog 297 = True := eq_true ⟨_, Tryz.func297, of_decide_eq_false (by kernel_rfl), rfl⟩
theorem fok298 : fnOk Tryz.prog 298 = True := eq_true ⟨_, Tryz.func298, of_decide_eq_false (by kernel_rfl), rfl⟩
theorem fok299 : fnOk Tryz.prog 299 = True := eq_true ⟨_, Tryz.func299, of_decide_eq_false (by kernel_rfl), rfl⟩
theorem fok300 : fnOk Tryz.prog 300 = True := eq_true ⟨_, Tryz.func300, of_decide_eq_false (by kernel_rfl), rfl⟩
theorem fok301 : fnOk Tryz.prog 301 = True := eq_true ⟨_, Tryz.func301, of_decide_eq_false (by kernel_rfl), rfl⟩
theorem fok302 : fnOk Tryz.prog 302 = True := eq_true ⟨_, Tryz.func302, of_decide_eq_false (by kernel_rfl), rfl⟩
theorem fok303 : fnOk Tryz.prog 303 = True := eq_true ⟨_, Tryz.func303, of_decide_eq_false (by kernel_rfl), rfl⟩
theorem fok304 : fnOk Tryz.prog 304 = True := eq_true ⟨_, Tryz.func304, of_decide_eq_false (by kernel_rfl), rfl⟩
theorem fok305 : fnOk Tryz.prog 305 = True := eq_true ⟨_, Tryz.func305, of_decide_eq_false (by kernel_rfl), rfl⟩
theorem fok330 : fnOk Tryz.prog 330 = True := eq_true ⟨_, Tryz.func330, of_decide_eq_false (by kernel_rfl), rfl⟩
attribute [go_sem] ty1 ti1_kd ti1_agg ti1_size ti1_bytes ti1_zs ti1_zc ty2 ti2_kd ti2_agg
attribute [go_sem] ti2_size ti2_bytes ti2_zs ti2_zc ty3 ti3_kd ti3_agg ti3_size ti3_bytes ti3_zs
attribute [go_sem] ti3_zc ty4 ti4_kd ti4_agg ti4_size ti4_bytes ti4_zs ti4_zc ty5 ti5_kd
attribute [go_sem] ti5_agg ti5_size ti5_bytes ti5_zs ti5_zc ty6 ti6_kd ti6_agg ti6_size ti6_bytes
attribute [go_sem] ti6_zs ti6_zc ty7 ti7_kd ti7_agg ti7_size ti7_bytes ti7_zs ti7_zc fld7_0
attribute [go_sem] pl7_0 fld7_1 pl7_1 fld7_2 pl7_2 fld7_3 pl7_3 bld7 ty8 ti8_kd
attribute [go_sem] ti8_agg ti8_size ti8_bytes ti8_zs ti8_zc fld8_0 pl8_0 fld8_1 pl8_1 fld8_2
attribute [go_sem] pl8_2 fld8_3 pl8_3 bld8 ty9 ti9_kd ti9_agg ti9_size ti9_bytes ti9_zs
attribute [go_sem] ti9_zc ty10 ti10_kd ti10_agg ti10_size ti10_bytes ti10_zs ti10_zc ty11 ti11_kd
attribute [go_sem] ti11_agg ti11_size ti11_bytes ti11_zs ti11_zc ty12 ti12_kd ti12_agg ti12_size ti12_bytes
attribute [go_sem] ti12_zs ti12_zc ty21 ti21_kd ti21_agg ti21_size ti21_bytes ti21_zs ti21_zc ty22
attribute [go_sem] ti22_kd ti22_agg ti22_size ti22_bytes ti22_zs ti22_zc sli22 ty23 ti23_kd ti23_agg
attribute [go_sem] ti23_size ti23_bytes ti23_zs ti23_zc sli23 ty24 ti24_kd ti24_agg ti24_size ti24_bytes
attribute [go_sem] ti24_zs ti24_zc fld24_0 pl24_0 bld24 ty25 ti25_kd ti25_agg ti25_size ti25_bytes
attribute [go_sem] ti25_zs ti25_zc fld25_0 pl25_0 bld25 ty26 ti26_kd ti26_agg ti26_size ti26_bytes
attribute [go_sem] ti26_zs ti26_zc fld26_0 pl26_0 fld26_1 pl26_1 bld26 ty27 ti27_kd ti27_agg
attribute [go_sem] ti27_size ti27_bytes ti27_zs ti27_zc fld27_0 pl27_0 fld27_1 pl27_1 bld27 ty28
attribute [go_sem] ti28_kd ti28_agg ti28_size ti28_bytes ti28_zs ti28_zc fld28_0 pl28_0 fld28_1 pl28_1
attribute [go_sem] bld28 ty29 ti29_kd ti29_agg ti29_size ti29_bytes ti29_zs ti29_zc fld29_0 pl29_0
attribute [go_sem] fld29_1 pl29_1 bld29 ty31 ti31_kd ti31_agg ti31_size ti31_bytes ti31_zs ti31_zc
attribute [go_sem] ty33 ti33_kd ti33_agg ti33_size ti33_bytes ti33_zs ti33_zc ty34 ti34_kd ti34_agg
attribute [go_sem] ti34_size ti34_bytes ti34_zs ti34_zc ty35 ti35_kd ti35_agg ti35_size ti35_bytes ti35_zs
attribute [go_sem] ti35_zc ty36 ti36_kd ti36_agg ti36_size ti36_bytes ti36_zs ti36_zc ty37 ti37_kd
attribute [go_sem] ti37_agg ti37_size ti37_bytes ti37_zs ti37_zc ty38 ti38_kd ti38_agg ti38_size ti38_bytes
attribute [go_sem] ti38_zs ti38_zc ty39 ti39_kd ti39_agg ti39_size ti39_bytes ti39_zs ti39_zc ty40
attribute [go_sem] ti40_kd ti40_agg ti40_size ti40_bytes ti40_zs ti40_zc sli40 ty41 ti41_kd ti41_agg
attribute [go_sem] ti41_size ti41_bytes ti41_zs ti41_zc fld41_0 pl41_0 fld41_1 pl41_1 bld41 ty42
attribute [go_sem] ti42_kd ti42_agg ti42_size ti42_bytes ti42_zs ti42_zc fld42_0 pl42_0 fld42_1 pl42_1
attribute [go_sem] bld42 ty44 ti44_kd ti44_agg ti44_size ti44_bytes ti44_zs ti44_zc ty45 ti45_kd
attribute [go_sem] ti45_agg ti45_size ti45_bytes ti45_zs ti45_zc ty47 ti47_kd ti47_agg ti47_size ti47_bytes
attribute [go_sem] ti47_zs ti47_zc ty48 ti48_kd ti48_agg ti48_size ti48_bytes ti48_zs ti48_zc ty49
attribute [go_sem] ti49_kd ti49_agg ti49_size ti49_bytes ti49_zs ti49_zc fld49_0 pl49_0 fld49_1 pl49_1
attribute [go_sem] bld49 ty50 ti50_kd ti50_agg ti50_size ti50_bytes ti50_zs ti50_zc fld50_0 pl50_0
attribute [go_sem] fld50_1 pl50_1 bld50 ty52 ti52_kd ti52_agg ti52_size ti52_bytes ti52_zs ti52_zc
attribute [go_sem] ty54 ti54_kd ti54_agg ti54_size ti54_bytes ti54_zs ti54_zc ty55 ti55_kd ti55_agg
attribute [go_sem] ti55_size ti55_bytes ti55_zs ti55_zc ty56 ti56_kd ti56_agg ti56_size ti56_bytes ti56_zs
attribute [go_sem] ti56_zc ty57 ti57_kd ti57_agg ti57_size ti57_bytes ti57_zs ti57_zc ty58 ti58_kd
attribute [go_sem] ti58_agg ti58_size ti58_bytes ti58_zs ti58_zc ty59 ti59_kd ti59_agg ti59_size ti59_bytes
attribute [go_sem] ti59_zs ti59_zc ty60 ti60_kd ti60_agg ti60_size ti60_bytes ti60_zs ti60_zc ty61
attribute [go_sem] ti61_kd ti61_agg ti61_size ti61_bytes ti61_zs ti61_zc ty62 ti62_kd ti62_agg ti62_size
attribute [go_sem] ti62_bytes ti62_zs ti62_zc fld62_0 pl62_0 fld62_1 pl62_1 fld62_2 pl62_2 fld62_3
attribute [go_sem] pl62_3 bld62 ty63 ti63_kd ti63_agg ti63_size ti63_bytes ti63_zs ti63_zc fld63_0
attribute [go_sem] pl63_0 fld63_1 pl63_1 fld63_2 pl63_2 fld63_3 pl63_3 bld63 ty65 ti65_kd
attribute [go_sem] ti65_agg ti65_size ti65_bytes ti65_zs ti65_zc ty67 ti67_kd ti67_agg ti67_size ti67_bytes
attribute [go_sem] ti67_zs ti67_zc ty68 ti68_kd ti68_agg ti68_size ti68_bytes ti68_zs ti68_zc ty69
attribute [go_sem] ti69_kd ti69_agg ti69_size ti69_bytes ti69_zs ti69_zc ty70 ti70_kd ti70_agg ti70_size
attribute [go_sem] ti70_bytes ti70_zs ti70_zc ty71 ti71_kd ti71_agg ti71_size ti71_bytes ti71_zs ti71_zc
attribute [go_sem] ty72 ti72_kd ti72_agg ti72_size ti72_bytes ti72_zs ti72_zc ty74 ti74_kd ti74_agg
attribute [go_sem] ti74_size ti74_bytes ti74_zs ti74_zc ty76 ti76_kd ti76_agg ti76_size ti76_bytes ti76_zs
attribute [go_sem] ti76_zc ty77 ti77_kd ti77_agg ti77_size ti77_bytes ti77_zs ti77_zc ty79 ti79_kd
attribute [go_sem] ti79_agg ti79_size ti79_bytes ti79_zs ti79_zc ty80 ti80_kd ti80_agg ti80_size ti80_bytes
attribute [go_sem] ti80_zs ti80_zc ty82 ti82_kd ti82_agg ti82_size ti82_bytes ti82_zs ti82_zc ty83
attribute [go_sem] ti83_kd ti83_agg ti83_size ti83_bytes ti83_zs ti83_zc ty84 ti84_kd ti84_agg ti84_size
attribute [go_sem] ti84_bytes ti84_zs ti84_zc ty85 ti85_kd ti85_agg ti85_size ti85_bytes ti85_zs ti85_zc
attribute [go_sem] ty86 ti86_kd ti86_agg ti86_size ti86_bytes ti86_zs ti86_zc ty87 ti87_kd ti87_agg
attribute [go_sem] ti87_size ti87_bytes ti87_zs ti87_zc ty88 ti88_kd ti88_agg ti88_size ti88_bytes ti88_zs
attribute [go_sem] ti88_zc ty89 ti89_kd ti89_agg ti89_size ti89_bytes ti89_zs ti89_zc fld89_0 pl89_0
attribute [go_sem] fld89_1 pl89_1 fld89_2 pl89_2 bld89 ty90 ti90_kd ti90_agg ti90_size ti90_bytes
attribute [go_sem] ti90_zs ti90_zc fld90_0 pl90_0 fld90_1 pl90_1 fld90_2 pl90_2 bld90 ty92
attribute [go_sem] ti92_kd ti92_agg ti92_size ti92_bytes ti92_zs ti92_zc ty93 ti93_kd ti93_agg ti93_size
attribute [go_sem] ti93_bytes ti93_zs ti93_zc ty94 ti94_kd ti94_agg ti94_size ti94_bytes ti94_zs ti94_zc
attribute [go_sem] ty95 ti95_kd ti95_agg ti95_size ti95_bytes ti95_zs ti95_zc ty97 ti97_kd ti97_agg
attribute [go_sem] ti97_size ti97_bytes ti97_zs ti97_zc ty98 ti98_kd ti98_agg ti98_size ti98_bytes ti98_zs
attribute [go_sem] ti98_zc ty99 ti99_kd ti99_agg ti99_size ti99_bytes ti99_zs ti99_zc ty100 ti100_kd
attribute [go_sem] ti100_agg ti100_size ti100_bytes ti100_zs ti100_zc sli100 ty101 ti101_kd ti101_agg ti101_size
attribute [go_sem] ti101_bytes ti101_zs ti101_zc fld101_0 pl101_0 fld101_1 pl101_1 bld101 ty102 ti102_kd
attribute [go_sem] ti102_agg ti102_size ti102_bytes ti102_zs ti102_zc fld102_0 pl102_0 fld102_1 pl102_1 bld102
attribute [go_sem] ty103 ti103_kd ti103_agg ti103_size ti103_bytes ti103_zs ti103_zc ty104 ti104_kd ti104_agg
attribute [go_sem] ti104_size ti104_bytes ti104_zs ti104_zc ty105 ti105_kd ti105_agg ti105_size ti105_bytes ti105_zs
attribute [go_sem] ti105_zc ty106 ti106_kd ti106_agg ti106_size ti106_bytes ti106_zs ti106_zc ty107 ti107_kd
attribute [go_sem] ti107_agg ti107_size ti107_bytes ti107_zs ti107_zc ty108 ti108_kd ti108_agg ti108_size ti108_bytes
attribute [go_sem] ti108_zs ti108_zc ty109 ti109_kd ti109_agg ti109_size ti109_bytes ti109_zs ti109_zc ty110
attribute [go_sem] ti110_kd ti110_agg ti110_size ti110_bytes ti110_zs ti110_zc fld110_0 pl110_0 fld110_1 pl110_1
attribute [go_sem] bld110 ty111 ti111_kd ti111_agg ti111_size ti111_bytes ti111_zs ti111_zc fld111_0 pl111_0
attribute [go_sem] fld111_1 pl111_1 bld111 ty113 ti113_kd ti113_agg ti113_size ti113_bytes ti113_zs ti113_zc
attribute [go_sem] ty114 ti114_kd ti114_agg ti114_size ti114_bytes ti114_zs ti114_zc ty115 ti115_kd ti115_agg
attribute [go_sem] ti115_size ti115_bytes ti115_zs ti115_zc ty116 ti116_kd ti116_agg ti116_size ti116_bytes ti116_zs
attribute [go_sem] ti116_zc ty117 ti117_kd ti117_agg ti117_size ti117_bytes ti117_zs ti117_zc ty118 ti118_kd
attribute [go_sem] ti118_agg ti118_size ti118_bytes ti118_zs ti118_zc ty119 ti119_kd ti119_agg ti119_size ti119_bytes
attribute [go_sem] ti119_zs ti119_zc ty120 ti120_kd ti120_agg ti120_size ti120_bytes ti120_zs ti120_zc ty121
attribute [go_sem] ti121_kd ti121_agg ti121_size ti121_bytes ti121_zs ti121_zc ty122 ti122_kd ti122_agg ti122_size
attribute [go_sem] ti122_bytes ti122_zs ti122_zc ty123 ti123_kd ti123_agg ti123_size ti123_bytes ti123_zs ti123_zc
attribute [go_sem] ty124 ti124_kd ti124_agg ti124_size ti124_bytes ti124_zs ti124_zc ty125 ti125_kd ti125_agg
attribute [go_sem] ti125_size ti125_bytes ti125_zs ti125_zc ty126 ti126_kd ti126_agg ti126_size ti126_bytes ti126_zs
attribute [go_sem] ti126_zc ty127 ti127_kd ti127_agg ti127_size ti127_bytes ti127_zs ti127_zc ty128 ti128_kd
attribute [go_sem] ti128_agg ti128_size ti128_bytes ti128_zs ti128_zc ty129 ti129_kd ti129_agg ti129_size ti129_bytes
attribute [go_sem] ti129_zs ti129_zc ty130 ti130_kd ti130_agg ti130_size ti130_bytes ti130_zs ti130_zc ty131
attribute [go_sem] ti131_kd ti131_agg ti131_size ti131_bytes ti131_zs ti131_zc ty132 ti132_kd ti132_agg ti132_size
attribute [go_sem] ti132_bytes ti132_zs ti132_zc ty133 ti133_kd ti133_agg ti133_size ti133_bytes ti133_zs ti133_zc
attribute [go_sem] ty135 ti135_kd ti135_agg ti135_size ti135_bytes ti135_zs ti135_zc ty136 ti136_kd ti136_agg
attribute [go_sem] ti136_size ti136_bytes ti136_zs ti136_zc ty137 ti137_kd ti137_agg ti137_size ti137_bytes ti137_zs
attribute [go_sem] ti137_zc ty138 ti138_kd ti138_agg ti138_size ti138_bytes ti138_zs ti138_zc ty139 ti139_kd
attribute [go_sem] ti139_agg ti139_size ti139_bytes ti139_zs ti139_zc ty140 ti140_kd ti140_agg ti140_size ti140_bytes
attribute [go_sem] ti140_zs ti140_zc ty141 ti141_kd ti141_agg ti141_size ti141_bytes ti141_zs ti141_zc ty142
attribute [go_sem] ti142_kd ti142_agg ti142_size ti142_bytes ti142_zs ti142_zc fld142_0 pl142_0 fld142_1 pl142_1
attribute [go_sem] fld142_2 pl142_2 bld142 ty143 ti143_kd ti143_agg ti143_size ti143_bytes ti143_zs ti143_zc
attribute [go_sem] fld143_0 pl143_0 fld143_1 pl143_1 fld143_2 pl143_2 bld143 ty144 ti144_kd ti144_agg
attribute [go_sem] ti144_size ti144_bytes ti144_zs ti144_zc ty145 ti145_kd ti145_agg ti145_size ti145_bytes ti145_zs
attribute [go_sem] ti145_zc ty146 ti146_kd ti146_agg ti146_size ti146_bytes ti146_zs ti146_zc ty147 ti147_kd
attribute [go_sem] ti147_agg ti147_size ti147_bytes ti147_zs ti147_zc ty148 ti148_kd ti148_agg ti148_size ti148_bytes
attribute [go_sem] ti148_zs ti148_zc ty150 ti150_kd ti150_agg ti150_size ti150_bytes ti150_zs ti150_zc ty152
attribute [go_sem] ti152_kd ti152_agg ti152_size ti152_bytes ti152_zs ti152_zc ty153 ti153_kd ti153_agg ti153_size
attribute [go_sem] ti153_bytes ti153_zs ti153_zc ty154 ti154_kd ti154_agg ti154_size ti154_bytes ti154_zs ti154_zc
attribute [go_sem] ty155 ti155_kd ti155_agg ti155_size ti155_bytes ti155_zs ti155_zc sli155 ty156 ti156_kd
attribute [go_sem] ti156_agg ti156_size ti156_bytes ti156_zs ti156_zc fld156_0 pl156_0 fld156_1 pl156_1 bld156
attribute [go_sem] ty157 ti157_kd ti157_agg ti157_size ti157_bytes ti157_zs ti157_zc fld157_0 pl157_0 fld157_1
attribute [go_sem] pl157_1 bld157 ty158 ti158_kd ti158_agg ti158_size ti158_bytes ti158_zs ti158_zc ty159
attribute [go_sem] ti159_kd ti159_agg ti159_size ti159_bytes ti159_zs ti159_zc sli159 ty160 ti160_kd ti160_agg
attribute [go_sem] ti160_size ti160_bytes ti160_zs ti160_zc fld160_0 pl160_0 fld160_1 pl160_1 bld160 ty161
attribute [go_sem] ti161_kd ti161_agg ti161_size ti161_bytes ti161_zs ti161_zc fld161_0 pl161_0 fld161_1 pl161_1
attribute [go_sem] bld161 ty163 ti163_kd ti163_agg ti163_size ti163_bytes ti163_zs ti163_zc ty164 ti164_kd
attribute [go_sem] ti164_agg ti164_size ti164_bytes ti164_zs ti164_zc ty165 ti165_kd ti165_agg ti165_size ti165_bytes
attribute [go_sem] ti165_zs ti165_zc ty166 ti166_kd ti166_agg ti166_size ti166_bytes ti166_zs ti166_zc ty167
attribute [go_sem] ti167_kd ti167_agg ti167_size ti167_bytes ti167_zs ti167_zc ty169 ti169_kd ti169_agg ti169_size
attribute [go_sem] ti169_bytes ti169_zs ti169_zc ty170 ti170_kd ti170_agg ti170_size ti170_bytes ti170_zs ti170_zc
attribute [go_sem] ty171 ti171_kd ti171_agg ti171_size ti171_bytes ti171_zs ti171_zc ty172 ti172_kd ti172_agg
attribute [go_sem] ti172_size ti172_bytes ti172_zs ti172_zc ty173 ti173_kd ti173_agg ti173_size ti173_bytes ti173_zs
attribute [go_sem] ti173_zc ty174 ti174_kd ti174_agg ti174_size ti174_bytes ti174_zs ti174_zc ty176 ti176_kd
attribute [go_sem] ti176_agg ti176_size ti176_bytes ti176_zs ti176_zc ty177 ti177_kd ti177_agg ti177_size ti177_bytes
attribute [go_sem] ti177_zs ti177_zc ty178 ti178_kd ti178_agg ti178_size ti178_bytes ti178_zs ti178_zc ty179
attribute [go_sem] ti179_kd ti179_agg ti179_size ti179_bytes ti179_zs ti179_zc ty180 ti180_kd ti180_agg ti180_size
attribute [go_sem] ti180_bytes ti180_zs ti180_zc ty181 ti181_kd ti181_agg ti181_size ti181_bytes ti181_zs ti181_zc
attribute [go_sem] ty183 ti183_kd ti183_agg ti183_size ti183_bytes ti183_zs ti183_zc ty184 ti184_kd ti184_agg
attribute [go_sem] ti184_size ti184_bytes ti184_zs ti184_zc ty185 ti185_kd ti185_agg ti185_size ti185_bytes ti185_zs
attribute [go_sem] ti185_zc sli185 ty186 ti186_kd ti186_agg ti186_size ti186_bytes ti186_zs ti186_zc ty187
attribute [go_sem] ti187_kd ti187_agg ti187_size ti187_bytes ti187_zs ti187_zc ty188 ti188_kd ti188_agg ti188_size
attribute [go_sem] ti188_bytes ti188_zs ti188_zc ty189 ti189_kd ti189_agg ti189_size ti189_bytes ti189_zs ti189_zc
attribute [go_sem] ty190 ti190_kd ti190_agg ti190_size ti190_bytes ti190_zs ti190_zc ty191 ti191_kd ti191_agg
attribute [go_sem] ti191_size ti191_bytes ti191_zs ti191_zc ty192 ti192_kd ti192_agg ti192_size ti192_bytes ti192_zs
attribute [go_sem] ti192_zc ty193 ti193_kd ti193_agg ti193_size ti193_bytes ti193_zs ti193_zc ty194 ti194_kd
attribute [go_sem] ti194_agg ti194_size ti194_bytes ti194_zs ti194_zc ty195 ti195_kd ti195_agg ti195_size ti195_bytes
attribute [go_sem] ti195_zs ti195_zc ty196 ti196_kd ti196_agg ti196_size ti196_bytes ti196_zs ti196_zc ty197
attribute [go_sem] ti197_kd ti197_agg ti197_size ti197_bytes ti197_zs ti197_zc ty198 ti198_kd ti198_agg ti198_size
attribute [go_sem] ti198_bytes ti198_zs ti198_zc ty199 ti199_kd ti199_agg ti199_size ti199_bytes ti199_zs ti199_zc
attribute [go_sem] ty200 ti200_kd ti200_agg ti200_size ti200_bytes ti200_zs ti200_zc ty201 ti201_kd ti201_agg
attribute [go_sem] ti201_size ti201_bytes ti201_zs ti201_zc ty202 ti202_kd ti202_agg ti202_size ti202_bytes ti202_zs
attribute [go_sem] ti202_zc ty203 ti203_kd ti203_agg ti203_size ti203_bytes ti203_zs ti203_zc ty204 ti204_kd
attribute [go_sem] ti204_agg ti204_size ti204_bytes ti204_zs ti204_zc ty205 ti205_kd ti205_agg ti205_size ti205_bytes
attribute [go_sem] ti205_zs ti205_zc ty206 ti206_kd ti206_agg ti206_size ti206_bytes ti206_zs ti206_zc ty208
attribute [go_sem] ti208_kd ti208_agg ti208_size ti208_bytes ti208_zs ti208_zc ty209 ti209_kd ti209_agg ti209_size
attribute [go_sem] ti209_bytes ti209_zs ti209_zc ty210 ti210_kd ti210_agg ti210_size ti210_bytes ti210_zs ti210_zc
attribute [go_sem] ty211 ti211_kd ti211_agg ti211_size ti211_bytes ti211_zs ti211_zc ty212 ti212_kd ti212_agg
attribute [go_sem] ti212_size ti212_bytes ti212_zs ti212_zc ty213 ti213_kd ti213_agg ti213_size ti213_bytes ti213_zs
attribute [go_sem] ti213_zc ty214 ti214_kd ti214_agg ti214_size ti214_bytes ti214_zs ti214_zc ty215 ti215_kd
attribute [go_sem] ti215_agg ti215_size ti215_bytes ti215_zs ti215_zc ty216 ti216_kd ti216_agg ti216_size ti216_bytes
attribute [go_sem] ti216_zs ti216_zc ty217 ti217_kd ti217_agg ti217_size ti217_bytes ti217_zs ti217_zc ty218
attribute [go_sem] ti218_kd ti218_agg ti218_size ti218_bytes ti218_zs ti218_zc ty220 ti220_kd ti220_agg ti220_size
attribute [go_sem] ti220_bytes ti220_zs ti220_zc ty221 ti221_kd ti221_agg ti221_size ti221_bytes ti221_zs ti221_zc
attribute [go_sem] ty222 ti222_kd ti222_agg ti222_size ti222_bytes ti222_zs ti222_zc sli222 ty223 ti223_kd
attribute [go_sem] ti223_agg ti223_size ti223_bytes ti223_zs ti223_zc ty224 ti224_kd ti224_agg ti224_size ti224_bytes
attribute [go_sem] ti224_zs ti224_zc ty225 ti225_kd ti225_agg ti225_size ti225_bytes ti225_zs ti225_zc ty226
attribute [go_sem] ti226_kd ti226_agg ti226_size ti226_bytes ti226_zs ti226_zc ty227 ti227_kd ti227_agg ti227_size
attribute [go_sem] ti227_bytes ti227_zs ti227_zc ty228 ti228_kd ti228_agg ti228_size ti228_bytes ti228_zs ti228_zc
attribute [go_sem] ty229 ti229_kd ti229_agg ti229_size ti229_bytes ti229_zs ti229_zc ty230 ti230_kd ti230_agg
attribute [go_sem] ti230_size ti230_bytes ti230_zs ti230_zc ty232 ti232_kd ti232_agg ti232_size ti232_bytes ti232_zs
attribute [go_sem] ti232_zc ty233 ti233_kd ti233_agg ti233_size ti233_bytes ti233_zs ti233_zc ty234 ti234_kd
attribute [go_sem] ti234_agg ti234_size ti234_bytes ti234_zs ti234_zc ty235 ti235_kd ti235_agg ti235_size ti235_bytes
attribute [go_sem] ti235_zs ti235_zc ty237 ti237_kd ti237_agg ti237_size ti237_bytes ti237_zs ti237_zc ty238
attribute [go_sem] ti238_kd ti238_agg ti238_size ti238_bytes ti238_zs ti238_zc ty239 ti239_kd ti239_agg ti239_size
attribute [go_sem] ti239_bytes ti239_zs ti239_zc ty240 ti240_kd ti240_agg ti240_size ti240_bytes ti240_zs ti240_zc
attribute [go_sem] ty241 ti241_kd ti241_agg ti241_size ti241_bytes ti241_zs ti241_zc ty242 ti242_kd ti242_agg
attribute [go_sem] ti242_size ti242_bytes ti242_zs ti242_zc ty243 ti243_kd ti243_agg ti243_size ti243_bytes ti243_zs
attribute [go_sem] ti243_zc ty244 ti244_kd ti244_agg ti244_size ti244_bytes ti244_zs ti244_zc ty245 ti245_kd
attribute [go_sem] ti245_agg ti245_size ti245_bytes ti245_zs ti245_zc ty247 ti247_kd ti247_agg ti247_size ti247_bytes
attribute [go_sem] ti247_zs ti247_zc ty248 ti248_kd ti248_agg ti248_size ti248_bytes ti248_zs ti248_zc ty249
attribute [go_sem] ti249_kd ti249_agg ti249_size ti249_bytes ti249_zs ti249_zc ty250 ti250_kd ti250_agg ti250_size
attribute [go_sem] ti250_bytes ti250_zs ti250_zc ty251 ti251_kd ti251_agg ti251_size ti251_bytes ti251_zs ti251_zc
attribute [go_sem] ty252 ti252_kd ti252_agg ti252_size ti252_bytes ti252_zs ti252_zc ty253 ti253_kd ti253_agg
attribute [go_sem] ti253_size ti253_bytes ti253_zs ti253_zc ty254 ti254_kd ti254_agg ti254_size ti254_bytes ti254_zs
attribute [go_sem] ti254_zc ty255 ti255_kd ti255_agg ti255_size ti255_bytes ti255_zs ti255_zc ty258 ti258_kd
attribute [go_sem] ti258_agg ti258_size ti258_bytes ti258_zs ti258_zc ty262 ti262_kd ti262_agg ti262_size ti262_bytes
attribute [go_sem] ti262_zs ti262_zc ty263 ti263_kd ti263_agg ti263_size ti263_bytes ti263_zs ti263_zc ty264
attribute [go_sem] ti264_kd ti264_agg ti264_size ti264_bytes ti264_zs ti264_zc ty265 ti265_kd ti265_agg ti265_size
attribute [go_sem] ti265_bytes ti265_zs ti265_zc ty266 ti266_kd ti266_agg ti266_size ti266_bytes ti266_zs ti266_zc
attribute [go_sem] ty268 ti268_kd ti268_agg ti268_size ti268_bytes ti268_zs ti268_zc ty269 ti269_kd ti269_agg
attribute [go_sem] ti269_size ti269_bytes ti269_zs ti269_zc ty272 ti272_kd ti272_agg ti272_size ti272_bytes ti272_zs
attribute [go_sem] ti272_zc ty273 ti273_kd ti273_agg ti273_size ti273_bytes ti273_zs ti273_zc ty274 ti274_kd
attribute [go_sem] ti274_agg ti274_size ti274_bytes ti274_zs ti274_zc fok2 fok3 fok4 fok5 fok6
attribute [go_sem] fok7 fok8 fok9 fok10 fok11 fok12 fok13 fok14 fok15 fok16
attribute [go_sem] fok17 fok18 fok19 fok20 fok21 fok22 fok23 fok24 fok25 fok26
attribute [go_sem] fok27 fok28 fok29 fok30 fok31 fok32 fok33 fok34 fok35 fok36
attribute [go_sem] fok37 fok38 fok39 fok40 fok41 fok42 fok43 fok44 fok45 fok46
attribute [go_sem] fok47 fok48 fok49 fok50 fok51 fok52 fok53 fok54 fok55 fok56
attribute [go_sem] fok57 fok58 fok59 fok60 fok61 fok62 fok63 fok64 fok65 fok66
attribute [go_sem] fok67 fok68 fok69 fok70 fok71 fok72 fok73 fok74 fok75 fok76
attribute [go_sem] fok77 fok78 fok79 fok80 fok81 fok82 fok83 fok84 fok85 fok86
attribute [go_sem] fok87 fok88 fok89 fok90 fok91 fok92 fok93 fok94 fok95 fok96
attribute [go_sem] fok97 fok98 fok99 fok100 fok101 fok102 fok103 fok104 fok105 fok106
attribute [go_sem] fok107 fok108 fok109 fok110 fok111 fok112 fok113 fok114 fok115 fok116
attribute [go_sem] fok117 fok118 fok119 fok120 fok121 fok122 fok123 fok124 fok125 fok126
attribute [go_sem] fok127 fok128 fok129 fok130 fok131 fok132 fok133 fok134 fok135 fok136
attribute [go_sem] fok137 fok138 fok139 fok140 fok141 fok142 fok143 fok144 fok145 fok146
attribute [go_sem] fok147 fok148 fok149 fok150 fok151 fok152 fok153 fok154 fok155 fok156
attribute [go_sem] fok157 fok158 fok159 fok160 fok161 fok162 fok163 fok164 fok165 fok166
attribute [go_sem] fok167 fok168 fok169 fok170 fok171 fok172 fok173 fok174 fok175 fok176
attribute [go_sem] fok177 fok178 fok179 fok180 fok181 fok182 fok183 fok184 fok185 fok186
attribute [go_sem] fok187 fok188 fok189 fok190 fok191 fok192 fok193 fok194 fok195 fok196
attribute [go_sem] fok197 fok198 fok199 fok200 fok201 fok202 fok203 fok204 fok205 fok206
attribute [go_sem] fok207 fok208 fok209 fok210 fok211 fok212 fok213 fok214 fok215 fok216
attribute [go_sem] fok217 fok218 fok219 fok220 fok221 fok222 fok223 fok224 fok225 fok226
attribute [go_sem] fok227 fok228 fok229 fok230 fok231 fok232 fok233 fok234 fok235 fok236
attribute [go_sem] fok237 fok238 fok239 fok240 fok241 fok242 fok243 fok244 fok245 fok246
attribute [go_sem] fok247 fok248 fok249 fok250 fok251 fok252 fok253 fok254 fok255 fok256
attribute [go_sem] fok257 fok258 fok259 fok260 fok261 fok262 fok263 fok264 fok265 fok266
attribute [go_sem] fok267 fok268 fok269 fok270 fok271 fok272 fok273 fok274 fok275 fok276
attribute [go_sem] fok277 fok278 fok279 fok280 fok281 fok282 fok283 fok284 fok285 fok286
attribute [go_sem] fok287 fok288 fok289 fok290 fok291 fok292 fok293 fok294 fok295 fok296
attribute [go_sem] fok297 fok298 fok299 fok300 fok301 fok302 fok303 fok304 fok305 fok330
end Go.Ab
