/- The program's types, as a table. Written by a program of mine (tab.py) off the loaded program. -/
import Derived.Test.YtmahldelmbhjfaaGreatSyF
import Derived.Test.YtmahldelmbhjfaaGreatRows
namespace Go.Proofs.YtmahldelmbhjfaaGreat.Sy
open Go
set_option maxRecDepth 100000
def ti1 : TI := ⟨(TypeDesc.func #[] #[] false), 1, 8, Value.nilFunc, false⟩
def ti2 : TI := ⟨(TypeDesc.int IntKind.i64), 1, 8, (Value.int IntKind.i64 0), false⟩
def ti3 : TI := ⟨(TypeDesc.int IntKind.i64), 1, 8, (Value.int IntKind.i64 0), false⟩
def ti4 : TI := ⟨TypeDesc.bool, 1, 1, (Value.bool false), false⟩
def ti5 : TI := ⟨(TypeDesc.int IntKind.u8), 1, 1, (Value.int IntKind.u8 0), false⟩
def ti7 : TI := ⟨(TypeDesc.struct #[{ name := "x", type := 2, offset := 0, embedded := false, tag := "", pkgPath := "runtime", byteOffset := 0 }, { name := "y", type := 3, offset := 1, embedded := false, tag := "", pkgPath := "runtime", byteOffset := 8 }, { name := "signed", type := 4, offset := 2, embedded := false, tag := "", pkgPath := "runtime", byteOffset := 16 }, { name := "code", type := 6, offset := 3, embedded := false, tag := "", pkgPath := "runtime", byteOffset := 17 }]), 4, 24, (Value.agg #[Value.int IntKind.i64 0, Value.int IntKind.i64 0, Value.bool false, Value.int IntKind.u8 0]), false⟩
def ti8 : TI := ⟨(TypeDesc.struct #[{ name := "x", type := 2, offset := 0, embedded := false, tag := "", pkgPath := "runtime", byteOffset := 0 }, { name := "y", type := 3, offset := 1, embedded := false, tag := "", pkgPath := "runtime", byteOffset := 8 }, { name := "signed", type := 4, offset := 2, embedded := false, tag := "", pkgPath := "runtime", byteOffset := 16 }, { name := "code", type := 6, offset := 3, embedded := false, tag := "", pkgPath := "runtime", byteOffset := 17 }]), 4, 24, (Value.agg #[Value.int IntKind.i64 0, Value.int IntKind.i64 0, Value.bool false, Value.int IntKind.u8 0]), false⟩
def ti9 : TI := ⟨TypeDesc.string, 1, 16, (Value.string { data := #[] }), false⟩
def ti10 : TI := ⟨TypeDesc.string, 1, 16, (Value.string { data := #[] }), false⟩
def ti11 : TI := ⟨TypeDesc.string, 1, 16, (Value.string { data := #[] }), false⟩
def ti12 : TI := ⟨(TypeDesc.int IntKind.u64), 1, 8, (Value.int IntKind.u64 0), false⟩
def ti13 : TI := ⟨(TypeDesc.struct #[{ name := "msg", type := 9, offset := 0, embedded := false, tag := "", pkgPath := "runtime", byteOffset := 0 }, { name := "addr", type := 12, offset := 1, embedded := false, tag := "", pkgPath := "runtime", byteOffset := 16 }]), 2, 24, (Value.agg #[Value.string { data := #[] }, Value.int IntKind.u64 0]), false⟩
def ti14 : TI := ⟨(TypeDesc.struct #[{ name := "msg", type := 9, offset := 0, embedded := false, tag := "", pkgPath := "runtime", byteOffset := 0 }, { name := "addr", type := 12, offset := 1, embedded := false, tag := "", pkgPath := "runtime", byteOffset := 16 }]), 2, 24, (Value.agg #[Value.string { data := #[] }, Value.int IntKind.u64 0]), false⟩
def ti15 : TI := ⟨(TypeDesc.pointer 167), 1, 8, (Value.pointer none), false⟩
def ti16 : TI := ⟨(TypeDesc.pointer 170), 1, 8, (Value.pointer none), false⟩
def ti17 : TI := ⟨(TypeDesc.pointer 179), 1, 8, (Value.pointer none), false⟩
noncomputable def ti18 : TI := ⟨Tryz.t18.desc, 1, 8, (Value.agg #[Value.pointer none]), false⟩
noncomputable def ti19 : TI := ⟨Tryz.t18.desc, 1, 8, (Value.agg #[Value.pointer none]), false⟩
def ti21 : TI := ⟨(TypeDesc.int IntKind.i32), 1, 4, (Value.int IntKind.i32 0), false⟩
def ti22 : TI := ⟨(TypeDesc.slice 55), 1, 24, (Value.slice none 0 0), false⟩
def ti23 : TI := ⟨(TypeDesc.struct #[{ name := "Ops", type := 22, offset := 0, embedded := false, tag := "", pkgPath := "", byteOffset := 0 }]), 1, 24, (Value.agg #[Value.slice none 0 0]), false⟩
def ti24 : TI := ⟨(TypeDesc.struct #[{ name := "Ops", type := 22, offset := 0, embedded := false, tag := "", pkgPath := "", byteOffset := 0 }]), 1, 24, (Value.agg #[Value.slice none 0 0]), false⟩
def ti25 : TI := ⟨(TypeDesc.slice 35), 1, 24, (Value.slice none 0 0), false⟩
def ti26 : TI := ⟨(TypeDesc.func #[] #[4] false), 1, 8, Value.nilFunc, false⟩
def ti27 : TI := ⟨(TypeDesc.func #[24] #[24] false), 1, 8, Value.nilFunc, false⟩
def ti28 : TI := ⟨(TypeDesc.slice 46), 1, 24, (Value.slice none 0 0), false⟩
def ti29 : TI := ⟨(TypeDesc.struct #[{ name := "Rows", type := 28, offset := 0, embedded := false, tag := "", pkgPath := "", byteOffset := 0 }]), 1, 24, (Value.agg #[Value.slice none 0 0]), false⟩
def ti30 : TI := ⟨(TypeDesc.struct #[{ name := "Rows", type := 28, offset := 0, embedded := false, tag := "", pkgPath := "", byteOffset := 0 }]), 1, 24, (Value.agg #[Value.slice none 0 0]), false⟩
def ti31 : TI := ⟨(TypeDesc.array 8 3), 8, 64, (Value.agg #[Value.int IntKind.i64 0, Value.int IntKind.i64 0, Value.int IntKind.i64 0, Value.int IntKind.i64 0, Value.int IntKind.i64 0, Value.int IntKind.i64 0, Value.int IntKind.i64 0, Value.int IntKind.i64 0]), true⟩
def ti32 : TI := ⟨(TypeDesc.array 8 3), 8, 64, (Value.agg #[Value.int IntKind.i64 0, Value.int IntKind.i64 0, Value.int IntKind.i64 0, Value.int IntKind.i64 0, Value.int IntKind.i64 0, Value.int IntKind.i64 0, Value.int IntKind.i64 0, Value.int IntKind.i64 0]), true⟩
def ti33 : TI := ⟨(TypeDesc.slice 80), 1, 24, (Value.slice none 0 0), false⟩
def ti34 : TI := ⟨(TypeDesc.struct #[{ name := "Op", type := 3, offset := 0, embedded := false, tag := "", pkgPath := "", byteOffset := 0 }, { name := "Index", type := 3, offset := 1, embedded := false, tag := "", pkgPath := "", byteOffset := 8 }, { name := "Width", type := 3, offset := 2, embedded := false, tag := "", pkgPath := "", byteOffset := 16 }, { name := "Ended", type := 4, offset := 3, embedded := false, tag := "", pkgPath := "", byteOffset := 24 }, { name := "Table", type := 30, offset := 4, embedded := false, tag := "", pkgPath := "", byteOffset := 32 }, { name := "Offsets", type := 32, offset := 5, embedded := false, tag := "", pkgPath := "", byteOffset := 56 }, { name := "Txs", type := 33, offset := 13, embedded := false, tag := "", pkgPath := "", byteOffset := 120 }]), 14, 144, (Value.agg #[Value.int IntKind.i64 0, Value.int IntKind.i64 0, Value.int IntKind.i64 0, Value.bool false, Value.slice none 0 0, Value.int IntKind.i64 0, Value.int IntKind.i64 0, Value.int IntKind.i64 0, Value.int IntKind.i64 0, Value.int IntKind.i64 0, Value.int IntKind.i64 0, Value.int IntKind.i64 0, Value.int IntKind.i64 0, Value.slice none 0 0]), false⟩
def ti35 : TI := ⟨(TypeDesc.struct #[{ name := "Op", type := 3, offset := 0, embedded := false, tag := "", pkgPath := "", byteOffset := 0 }, { name := "Index", type := 3, offset := 1, embedded := false, tag := "", pkgPath := "", byteOffset := 8 }, { name := "Width", type := 3, offset := 2, embedded := false, tag := "", pkgPath := "", byteOffset := 16 }, { name := "Ended", type := 4, offset := 3, embedded := false, tag := "", pkgPath := "", byteOffset := 24 }, { name := "Table", type := 30, offset := 4, embedded := false, tag := "", pkgPath := "", byteOffset := 32 }, { name := "Offsets", type := 32, offset := 5, embedded := false, tag := "", pkgPath := "", byteOffset := 56 }, { name := "Txs", type := 33, offset := 13, embedded := false, tag := "", pkgPath := "", byteOffset := 120 }]), 14, 144, (Value.agg #[Value.int IntKind.i64 0, Value.int IntKind.i64 0, Value.int IntKind.i64 0, Value.bool false, Value.slice none 0 0, Value.int IntKind.i64 0, Value.int IntKind.i64 0, Value.int IntKind.i64 0, Value.int IntKind.i64 0, Value.int IntKind.i64 0, Value.int IntKind.i64 0, Value.int IntKind.i64 0, Value.int IntKind.i64 0, Value.slice none 0 0]), false⟩
def ti36 : TI := ⟨(TypeDesc.func #[35] #[35] false), 1, 8, Value.nilFunc, false⟩
def ti37 : TI := ⟨(TypeDesc.func #[35] #[4] false), 1, 8, Value.nilFunc, false⟩
def ti38 : TI := ⟨(TypeDesc.int IntKind.i64), 1, 8, (Value.int IntKind.i64 0), false⟩
def ti39 : TI := ⟨(TypeDesc.func #[35] #[38] false), 1, 8, Value.nilFunc, false⟩
def ti40 : TI := ⟨(TypeDesc.func #[24, 35] #[4] false), 1, 8, Value.nilFunc, false⟩
def ti41 : TI := ⟨(TypeDesc.func #[35, 35] #[4] false), 1, 8, Value.nilFunc, false⟩
def ti42 : TI := ⟨(TypeDesc.func #[24, 25] #[4] false), 1, 8, Value.nilFunc, false⟩
def ti43 : TI := ⟨(TypeDesc.struct #[{ name := "Count", type := 2, offset := 0, embedded := false, tag := "", pkgPath := "", byteOffset := 0 }, { name := "Sum", type := 2, offset := 1, embedded := false, tag := "", pkgPath := "", byteOffset := 8 }]), 2, 16, (Value.agg #[Value.int IntKind.i64 0, Value.int IntKind.i64 0]), true⟩
def ti44 : TI := ⟨(TypeDesc.struct #[{ name := "Count", type := 2, offset := 0, embedded := false, tag := "", pkgPath := "", byteOffset := 0 }, { name := "Sum", type := 2, offset := 1, embedded := false, tag := "", pkgPath := "", byteOffset := 8 }]), 2, 16, (Value.agg #[Value.int IntKind.i64 0, Value.int IntKind.i64 0]), true⟩
def ti45 : TI := ⟨(TypeDesc.struct #[{ name := "Source", type := 3, offset := 0, embedded := false, tag := "", pkgPath := "", byteOffset := 0 }, { name := "Key", type := 3, offset := 1, embedded := false, tag := "", pkgPath := "", byteOffset := 8 }, { name := "Cell", type := 44, offset := 2, embedded := false, tag := "", pkgPath := "", byteOffset := 16 }]), 4, 32, (Value.agg #[Value.int IntKind.i64 0, Value.int IntKind.i64 0, Value.int IntKind.i64 0, Value.int IntKind.i64 0]), true⟩
def ti46 : TI := ⟨(TypeDesc.struct #[{ name := "Source", type := 3, offset := 0, embedded := false, tag := "", pkgPath := "", byteOffset := 0 }, { name := "Key", type := 3, offset := 1, embedded := false, tag := "", pkgPath := "", byteOffset := 8 }, { name := "Cell", type := 44, offset := 2, embedded := false, tag := "", pkgPath := "", byteOffset := 16 }]), 4, 32, (Value.agg #[Value.int IntKind.i64 0, Value.int IntKind.i64 0, Value.int IntKind.i64 0, Value.int IntKind.i64 0]), true⟩
def ti47 : TI := ⟨(TypeDesc.func #[3] #[30] false), 1, 8, Value.nilFunc, false⟩
def ti49 : TI := ⟨(TypeDesc.func #[25] #[35, 38] false), 1, 8, Value.nilFunc, false⟩
def ti50 : TI := ⟨(TypeDesc.slice 5), 1, 24, (Value.slice none 0 0), false⟩
def ti52 : TI := ⟨(TypeDesc.func #[35] #[50, 38] false), 1, 8, Value.nilFunc, false⟩
def ti53 : TI := ⟨(TypeDesc.slice 3), 1, 24, (Value.slice none 0 0), false⟩
def ti54 : TI := ⟨(TypeDesc.struct #[{ name := "Tag", type := 3, offset := 0, embedded := false, tag := "", pkgPath := "", byteOffset := 0 }, { name := "Width", type := 3, offset := 1, embedded := false, tag := "", pkgPath := "", byteOffset := 8 }, { name := "Inputs", type := 53, offset := 2, embedded := false, tag := "", pkgPath := "", byteOffset := 16 }, { name := "A", type := 2, offset := 3, embedded := false, tag := "", pkgPath := "", byteOffset := 40 }, { name := "B", type := 2, offset := 4, embedded := false, tag := "", pkgPath := "", byteOffset := 48 }]), 5, 56, (Value.agg #[Value.int IntKind.i64 0, Value.int IntKind.i64 0, Value.slice none 0 0, Value.int IntKind.i64 0, Value.int IntKind.i64 0]), false⟩
def ti55 : TI := ⟨(TypeDesc.struct #[{ name := "Tag", type := 3, offset := 0, embedded := false, tag := "", pkgPath := "", byteOffset := 0 }, { name := "Width", type := 3, offset := 1, embedded := false, tag := "", pkgPath := "", byteOffset := 8 }, { name := "Inputs", type := 53, offset := 2, embedded := false, tag := "", pkgPath := "", byteOffset := 16 }, { name := "A", type := 2, offset := 3, embedded := false, tag := "", pkgPath := "", byteOffset := 40 }, { name := "B", type := 2, offset := 4, embedded := false, tag := "", pkgPath := "", byteOffset := 48 }]), 5, 56, (Value.agg #[Value.int IntKind.i64 0, Value.int IntKind.i64 0, Value.slice none 0 0, Value.int IntKind.i64 0, Value.int IntKind.i64 0]), false⟩
def ti56 : TI := ⟨(TypeDesc.func #[3, 3, 3] #[4] false), 1, 8, Value.nilFunc, false⟩
def ti57 : TI := ⟨(TypeDesc.func #[30] #[4] false), 1, 8, Value.nilFunc, false⟩
def ti58 : TI := ⟨(TypeDesc.func #[33] #[4] false), 1, 8, Value.nilFunc, false⟩
def ti59 : TI := ⟨(TypeDesc.func #[3] #[3] false), 1, 8, Value.nilFunc, false⟩
def ti61 : TI := ⟨(TypeDesc.func #[3, 3] #[53, 38] false), 1, 8, Value.nilFunc, false⟩
def ti62 : TI := ⟨(TypeDesc.func #[30] #[38] false), 1, 8, Value.nilFunc, false⟩
def ti63 : TI := ⟨(TypeDesc.func #[33] #[4] true), 1, 8, Value.nilFunc, false⟩
def ti64 : TI := ⟨(TypeDesc.func #[66, 3, 3] #[4] false), 1, 8, Value.nilFunc, false⟩
def ti65 : TI := ⟨(TypeDesc.struct #[{ name := "Source", type := 3, offset := 0, embedded := false, tag := "", pkgPath := "", byteOffset := 0 }, { name := "Key", type := 3, offset := 1, embedded := false, tag := "", pkgPath := "", byteOffset := 8 }, { name := "Value", type := 2, offset := 2, embedded := false, tag := "", pkgPath := "", byteOffset := 16 }]), 3, 24, (Value.agg #[Value.int IntKind.i64 0, Value.int IntKind.i64 0, Value.int IntKind.i64 0]), true⟩
def ti66 : TI := ⟨(TypeDesc.struct #[{ name := "Source", type := 3, offset := 0, embedded := false, tag := "", pkgPath := "", byteOffset := 0 }, { name := "Key", type := 3, offset := 1, embedded := false, tag := "", pkgPath := "", byteOffset := 8 }, { name := "Value", type := 2, offset := 2, embedded := false, tag := "", pkgPath := "", byteOffset := 16 }]), 3, 24, (Value.agg #[Value.int IntKind.i64 0, Value.int IntKind.i64 0, Value.int IntKind.i64 0]), true⟩
def ti67 : TI := ⟨(TypeDesc.func #[46] #[4] false), 1, 8, Value.nilFunc, false⟩
def ti68 : TI := ⟨(TypeDesc.func #[118] #[] false), 1, 8, Value.nilFunc, false⟩
def ti69 : TI := ⟨(TypeDesc.func #[118] #[] false), 1, 8, Value.nilFunc, false⟩
def ti70 : TI := ⟨(TypeDesc.func #[3, 3] #[69] false), 1, 8, Value.nilFunc, false⟩
def ti71 : TI := ⟨(TypeDesc.func #[28, 67] #[4] false), 1, 8, Value.nilFunc, false⟩
def ti73 : TI := ⟨(TypeDesc.func #[24] #[3, 38] false), 1, 8, Value.nilFunc, false⟩
def ti74 : TI := ⟨(TypeDesc.func #[55] #[4] false), 1, 8, Value.nilFunc, false⟩
def ti75 : TI := ⟨(TypeDesc.func #[55, 44] #[4] false), 1, 8, Value.nilFunc, false⟩
def ti76 : TI := ⟨(TypeDesc.func #[24] #[4] false), 1, 8, Value.nilFunc, false⟩
def ti77 : TI := ⟨(TypeDesc.func #[30, 30] #[4] false), 1, 8, Value.nilFunc, false⟩
def ti78 : TI := ⟨(TypeDesc.func #[33, 33] #[4] false), 1, 8, Value.nilFunc, false⟩
def ti79 : TI := ⟨(TypeDesc.struct #[{ name := "Sink", type := 3, offset := 0, embedded := false, tag := "", pkgPath := "", byteOffset := 0 }, { name := "Attempt", type := 3, offset := 1, embedded := false, tag := "", pkgPath := "", byteOffset := 8 }, { name := "Serial", type := 3, offset := 2, embedded := false, tag := "", pkgPath := "", byteOffset := 16 }]), 3, 24, (Value.agg #[Value.int IntKind.i64 0, Value.int IntKind.i64 0, Value.int IntKind.i64 0]), true⟩
def ti80 : TI := ⟨(TypeDesc.struct #[{ name := "Sink", type := 3, offset := 0, embedded := false, tag := "", pkgPath := "", byteOffset := 0 }, { name := "Attempt", type := 3, offset := 1, embedded := false, tag := "", pkgPath := "", byteOffset := 8 }, { name := "Serial", type := 3, offset := 2, embedded := false, tag := "", pkgPath := "", byteOffset := 16 }]), 3, 24, (Value.agg #[Value.int IntKind.i64 0, Value.int IntKind.i64 0, Value.int IntKind.i64 0]), true⟩
def ti81 : TI := ⟨(TypeDesc.func #[25, 37] #[4] false), 1, 8, Value.nilFunc, false⟩
def ti83 : TI := ⟨(TypeDesc.func #[30, 30] #[30, 38] false), 1, 8, Value.nilFunc, false⟩
def ti84 : TI := ⟨(TypeDesc.func #[30] #[50, 38] false), 1, 8, Value.nilFunc, false⟩
def ti85 : TI := ⟨(TypeDesc.func #[50, 86] #[50] false), 1, 8, Value.nilFunc, false⟩
def ti86 : TI := ⟨(TypeDesc.int IntKind.u32), 1, 4, (Value.int IntKind.u32 0), false⟩
def ti87 : TI := ⟨(TypeDesc.func #[30] #[30] false), 1, 8, Value.nilFunc, false⟩
def ti88 : TI := ⟨(TypeDesc.func #[3, 3] #[4] false), 1, 8, Value.nilFunc, false⟩
def ti89 : TI := ⟨(TypeDesc.func #[66] #[4] false), 1, 8, Value.nilFunc, false⟩
def ti90 : TI := ⟨(TypeDesc.func #[46] #[66] false), 1, 8, Value.nilFunc, false⟩
def ti91 : TI := ⟨(TypeDesc.func #[66, 66] #[3] false), 1, 8, Value.nilFunc, false⟩
def ti92 : TI := ⟨(TypeDesc.func #[80] #[4] false), 1, 8, Value.nilFunc, false⟩
def ti93 : TI := ⟨(TypeDesc.func #[80, 80] #[4] false), 1, 8, Value.nilFunc, false⟩
def ti94 : TI := ⟨(TypeDesc.func #[3, 3] #[3] false), 1, 8, Value.nilFunc, false⟩
def ti95 : TI := ⟨(TypeDesc.func #[69] #[53] false), 1, 8, Value.nilFunc, false⟩
def ti96 : TI := ⟨(TypeDesc.func #[66] #[38] false), 1, 8, Value.nilFunc, false⟩
def ti97 : TI := ⟨(TypeDesc.func #[80] #[38] false), 1, 8, Value.nilFunc, false⟩
def ti98 : TI := ⟨(TypeDesc.func #[80, 80] #[3] false), 1, 8, Value.nilFunc, false⟩
def ti99 : TI := ⟨(TypeDesc.func #[66] #[3, 38] false), 1, 8, Value.nilFunc, false⟩
def ti100 : TI := ⟨(TypeDesc.func #[53] #[69] false), 1, 8, Value.nilFunc, false⟩
def ti101 : TI := ⟨(TypeDesc.func #[28, 67] #[3] false), 1, 8, Value.nilFunc, false⟩
def ti102 : TI := ⟨(TypeDesc.func #[24, 3, 3] #[38] false), 1, 8, Value.nilFunc, false⟩
def ti103 : TI := ⟨(TypeDesc.map 3 4), 1, 8, (Value.map none), false⟩
def ti104 : TI := ⟨(TypeDesc.func #[55, 44] #[38] false), 1, 8, Value.nilFunc, false⟩
def ti105 : TI := ⟨(TypeDesc.func #[28, 28] #[4] false), 1, 8, Value.nilFunc, false⟩
def ti106 : TI := ⟨(TypeDesc.func #[25, 37] #[3] false), 1, 8, Value.nilFunc, false⟩
def ti107 : TI := ⟨(TypeDesc.func #[30, 112] #[30, 38] false), 1, 8, Value.nilFunc, false⟩
def ti108 : TI := ⟨(TypeDesc.pointer 30), 1, 8, (Value.pointer none), false⟩
def ti110 : TI := ⟨(TypeDesc.func #[28, 66] #[3, 4] false), 1, 8, Value.nilFunc, false⟩
def ti111 : TI := ⟨(TypeDesc.func #[108, 66, 44] #[] false), 1, 8, Value.nilFunc, false⟩
def ti112 : TI := ⟨(TypeDesc.func #[108] #[38] false), 1, 8, Value.nilFunc, false⟩
def ti113 : TI := ⟨(TypeDesc.func #[50, 114] #[50] false), 1, 8, Value.nilFunc, false⟩
def ti114 : TI := ⟨(TypeDesc.int IntKind.u16), 1, 2, (Value.int IntKind.u16 0), false⟩
def ti115 : TI := ⟨(TypeDesc.func #[50, 116] #[50] false), 1, 8, Value.nilFunc, false⟩
def ti116 : TI := ⟨(TypeDesc.int IntKind.u64), 1, 8, (Value.int IntKind.u64 0), false⟩
def ti117 : TI := ⟨(TypeDesc.func #[50, 116, 3] #[50] false), 1, 8, Value.nilFunc, false⟩
def ti118 : TI := ⟨(TypeDesc.func #[3] #[4] false), 1, 8, Value.nilFunc, false⟩
def ti119 : TI := ⟨(TypeDesc.func #[53, 69] #[53] false), 1, 8, Value.nilFunc, false⟩
def ti120 : TI := ⟨(TypeDesc.func #[53] #[3] true), 1, 8, Value.nilFunc, false⟩
def ti121 : TI := ⟨(TypeDesc.func #[55, 3] #[4] false), 1, 8, Value.nilFunc, false⟩
def ti122 : TI := ⟨(TypeDesc.func #[53, 118] #[4] false), 1, 8, Value.nilFunc, false⟩
def ti123 : TI := ⟨(TypeDesc.func #[22, 74] #[4] false), 1, 8, Value.nilFunc, false⟩
def ti124 : TI := ⟨(TypeDesc.func #[24, 3] #[53] false), 1, 8, Value.nilFunc, false⟩
def ti125 : TI := ⟨(TypeDesc.func #[24, 3] #[38] false), 1, 8, Value.nilFunc, false⟩
def ti126 : TI := ⟨(TypeDesc.func #[28] #[28] false), 1, 8, Value.nilFunc, false⟩
def ti127 : TI := ⟨(TypeDesc.func #[28, 66, 128] #[3, 4] false), 1, 8, Value.nilFunc, false⟩
def ti128 : TI := ⟨(TypeDesc.func #[46, 66] #[3] false), 1, 8, Value.nilFunc, false⟩
def ti129 : TI := ⟨(TypeDesc.func #[28, 3, 3] #[28] false), 1, 8, Value.nilFunc, false⟩
def ti130 : TI := ⟨(TypeDesc.func #[28, 3, 28] #[28] true), 1, 8, Value.nilFunc, false⟩
def ti131 : TI := ⟨(TypeDesc.func #[50] #[50] false), 1, 8, Value.nilFunc, false⟩
def ti132 : TI := ⟨(TypeDesc.func #[53, 3] #[4] false), 1, 8, Value.nilFunc, false⟩
def ti133 : TI := ⟨(TypeDesc.func #[53, 118] #[3] false), 1, 8, Value.nilFunc, false⟩
def ti134 : TI := ⟨(TypeDesc.func #[22, 74] #[3] false), 1, 8, Value.nilFunc, false⟩
def ti135 : TI := ⟨(TypeDesc.func #[3] #[53] false), 1, 8, Value.nilFunc, false⟩
def ti136 : TI := ⟨(TypeDesc.slice 53), 1, 24, (Value.slice none 0 0), false⟩
def ti137 : TI := ⟨(TypeDesc.func #[136] #[53] true), 1, 8, Value.nilFunc, false⟩
def ti138 : TI := ⟨(TypeDesc.func #[24, 3] #[4] false), 1, 8, Value.nilFunc, false⟩
def ti139 : TI := ⟨(TypeDesc.int IntKind.u64), 1, 8, (Value.int IntKind.u64 0), false⟩
def ti140 : TI := ⟨(TypeDesc.func #[28, 3] #[] false), 1, 8, Value.nilFunc, false⟩
def ti141 : TI := ⟨(TypeDesc.func #[53] #[] false), 1, 8, Value.nilFunc, false⟩
def ti142 : TI := ⟨(TypeDesc.func #[53] #[53] false), 1, 8, Value.nilFunc, false⟩
def ti143 : TI := ⟨(TypeDesc.func #[53, 3] #[53] false), 1, 8, Value.nilFunc, false⟩
def ti144 : TI := ⟨(TypeDesc.func #[53, 3, 3, 3] #[] false), 1, 8, Value.nilFunc, false⟩
def ti145 : TI := ⟨(TypeDesc.func #[139] #[3] false), 1, 8, Value.nilFunc, false⟩
def ti146 : TI := ⟨(TypeDesc.func #[28] #[] false), 1, 8, Value.nilFunc, false⟩
def ti147 : TI := ⟨(TypeDesc.func #[53, 3, 3] #[] false), 1, 8, Value.nilFunc, false⟩
def ti148 : TI := ⟨(TypeDesc.int IntKind.i64), 1, 8, (Value.int IntKind.i64 0), false⟩
def ti150 : TI := ⟨(TypeDesc.func #[53, 3, 3] #[3, 148] false), 1, 8, Value.nilFunc, false⟩
def ti151 : TI := ⟨(TypeDesc.func #[53, 3, 3] #[4] false), 1, 8, Value.nilFunc, false⟩
def ti152 : TI := ⟨(TypeDesc.func #[53, 3, 3, 3] #[3] false), 1, 8, Value.nilFunc, false⟩
def ti153 : TI := ⟨(TypeDesc.func #[53, 3, 3, 3] #[3, 4] false), 1, 8, Value.nilFunc, false⟩
def ti154 : TI := ⟨(TypeDesc.func #[86] #[3] false), 1, 8, Value.nilFunc, false⟩
def ti155 : TI := ⟨(TypeDesc.func #[116] #[3] false), 1, 8, Value.nilFunc, false⟩
def ti156 : TI := ⟨(TypeDesc.int IntKind.u64), 1, 8, (Value.int IntKind.u64 0), false⟩
def ti157 : TI := ⟨(TypeDesc.func #[3] #[139] false), 1, 8, Value.nilFunc, false⟩
def ti158 : TI := ⟨(TypeDesc.func #[] #[116] false), 1, 8, Value.nilFunc, false⟩
def ti159 : TI := ⟨(TypeDesc.func #[53, 3, 160] #[3] false), 1, 8, Value.nilFunc, false⟩
def ti160 : TI := ⟨(TypeDesc.pointer 3), 1, 8, (Value.pointer none), false⟩
def ti161 : TI := ⟨(TypeDesc.func #[53, 3, 3, 3, 160] #[3] false), 1, 8, Value.nilFunc, false⟩
def ti162 : TI := ⟨(TypeDesc.pointer 156), 1, 8, (Value.pointer none), false⟩
def ti164 : TI := ⟨(TypeDesc.func #[53, 3, 3, 160] #[3, 3] false), 1, 8, Value.nilFunc, false⟩
def ti165 : TI := ⟨(TypeDesc.func #[] #[9] false), 1, 8, Value.nilFunc, false⟩
def ti168 : TI := ⟨(TypeDesc.array 0 16), 0, 0, (Value.agg #[]), false⟩
def ti169 : TI := ⟨(TypeDesc.struct #[{ name := "_", type := 168, offset := 0, embedded := false, tag := "", pkgPath := "runtime", byteOffset := 0 }]), 0, 0, (Value.agg #[]), false⟩
def ti170 : TI := ⟨(TypeDesc.struct #[{ name := "_", type := 168, offset := 0, embedded := false, tag := "", pkgPath := "runtime", byteOffset := 0 }]), 0, 0, (Value.agg #[]), false⟩
def ti171 : TI := ⟨(TypeDesc.func #[] #[3] false), 1, 8, Value.nilFunc, false⟩
def ti174 : TI := ⟨(TypeDesc.func #[180, 180] #[4] false), 1, 8, Value.nilFunc, false⟩
def ti175 : TI := ⟨(TypeDesc.pointer 5), 1, 8, (Value.pointer none), false⟩
def ti178 : TI := ⟨(TypeDesc.struct #[{ name := "Size_", type := 12, offset := 0, embedded := false, tag := "", pkgPath := "", byteOffset := 0 }, { name := "PtrBytes", type := 12, offset := 1, embedded := false, tag := "", pkgPath := "", byteOffset := 8 }, { name := "Hash", type := 86, offset := 2, embedded := false, tag := "", pkgPath := "", byteOffset := 16 }, { name := "TFlag", type := 172, offset := 3, embedded := false, tag := "", pkgPath := "", byteOffset := 20 }, { name := "Align_", type := 5, offset := 4, embedded := false, tag := "", pkgPath := "", byteOffset := 21 }, { name := "FieldAlign_", type := 5, offset := 5, embedded := false, tag := "", pkgPath := "", byteOffset := 22 }, { name := "Kind_", type := 173, offset := 6, embedded := false, tag := "", pkgPath := "", byteOffset := 23 }, { name := "Equal", type := 174, offset := 7, embedded := false, tag := "", pkgPath := "", byteOffset := 24 }, { name := "GCData", type := 175, offset := 8, embedded := false, tag := "", pkgPath := "", byteOffset := 32 }, { name := "Str", type := 176, offset := 9, embedded := false, tag := "", pkgPath := "", byteOffset := 40 }, { name := "PtrToThis", type := 177, offset := 10, embedded := false, tag := "", pkgPath := "", byteOffset := 44 }]), 11, 48, (Value.agg #[Value.int IntKind.u64 0, Value.int IntKind.u64 0, Value.int IntKind.u32 0, Value.int IntKind.u8 0, Value.int IntKind.u8 0, Value.int IntKind.u8 0, Value.int IntKind.u8 0, Value.nilFunc, Value.pointer none, Value.int IntKind.i32 0, Value.int IntKind.i32 0]), false⟩
noncomputable def tab : Tab := [(1, ti1), (2, ti2), (3, ti3), (4, ti4), (5, ti5), (7, ti7), (8, ti8), (9, ti9), (10, ti10), (11, ti11), (12, ti12), (13, ti13), (14, ti14), (15, ti15), (16, ti16), (17, ti17), (18, ti18), (19, ti19), (21, ti21), (22, ti22), (23, ti23), (24, ti24), (25, ti25), (26, ti26), (27, ti27), (28, ti28), (29, ti29), (30, ti30), (31, ti31), (32, ti32), (33, ti33), (34, ti34), (35, ti35), (36, ti36), (37, ti37), (38, ti38), (39, ti39), (40, ti40), (41, ti41), (42, ti42), (43, ti43), (44, ti44), (45, ti45), (46, ti46), (47, ti47), (49, ti49), (50, ti50), (52, ti52), (53, ti53), (54, ti54), (55, ti55), (56, ti56), (57, ti57), (58, ti58), (59, ti59), (61, ti61), (62, ti62), (63, ti63), (64, ti64), (65, ti65), (66, ti66), (67, ti67), (68, ti68), (69, ti69), (70, ti70), (71, ti71), (73, ti73), (74, ti74), (75, ti75), (76, ti76), (77, ti77), (78, ti78), (79, ti79), (80, ti80), (81, ti81), (83, ti83), (84, ti84), (85, ti85), (86, ti86), (87, ti87), (88, ti88), (89, ti89), (90, ti90), (91, ti91), (92, ti92), (93, ti93), (94, ti94), (95, ti95), (96, ti96), (97, ti97), (98, ti98), (99, ti99), (100, ti100), (101, ti101), (102, ti102), (103, ti103), (104, ti104), (105, ti105), (106, ti106), (107, ti107), (108, ti108), (110, ti110), (111, ti111), (112, ti112), (113, ti113), (114, ti114), (115, ti115), (116, ti116), (117, ti117), (118, ti118), (119, ti119), (120, ti120), (121, ti121), (122, ti122), (123, ti123), (124, ti124), (125, ti125), (126, ti126), (127, ti127), (128, ti128), (129, ti129), (130, ti130), (131, ti131), (132, ti132), (133, ti133), (134, ti134), (135, ti135), (136, ti136), (137, ti137), (138, ti138), (139, ti139), (140, ti140), (141, ti141), (142, ti142), (143, ti143), (144, ti144), (145, ti145), (146, ti146), (147, ti147), (148, ti148), (150, ti150), (151, ti151), (152, ti152), (153, ti153), (154, ti154), (155, ti155), (156, ti156), (157, ti157), (158, ti158), (159, ti159), (160, ti160), (161, ti161), (162, ti162), (164, ti164), (165, ti165), (168, ti168), (169, ti169), (170, ti170), (171, ti171), (174, ti174), (175, ti175), (178, ti178)]
theorem ti1_in : (Tryz.prog.info? 1).map (fun j => (j.zero, j.size, j.bytes)) = some (some ti1.zero, ti1.size, ti1.bytes) := congrArg (Option.map fun j => (j.zero, j.size, j.bytes)) Tryz.type1
theorem ti1_ok : TIok Tryz.prog 1 ti1 := tiok Tryz.underlying1 ti1_in (fun h => by cases h) (fun _ => rfl)
theorem ti2_in : (Tryz.prog.info? 2).map (fun j => (j.zero, j.size, j.bytes)) = some (some ti2.zero, ti2.size, ti2.bytes) := congrArg (Option.map fun j => (j.zero, j.size, j.bytes)) Tryz.type2
theorem ti2_ok : TIok Tryz.prog 2 ti2 := tiok Tryz.underlying2 ti2_in (fun h => by cases h) (fun _ => rfl)
theorem ti3_in : (Tryz.prog.info? 3).map (fun j => (j.zero, j.size, j.bytes)) = some (some ti3.zero, ti3.size, ti3.bytes) := congrArg (Option.map fun j => (j.zero, j.size, j.bytes)) Tryz.type3
theorem ti3_ok : TIok Tryz.prog 3 ti3 := tiok Tryz.underlying3 ti3_in (fun h => by cases h) (fun _ => rfl)
theorem ti4_in : (Tryz.prog.info? 4).map (fun j => (j.zero, j.size, j.bytes)) = some (some ti4.zero, ti4.size, ti4.bytes) := congrArg (Option.map fun j => (j.zero, j.size, j.bytes)) Tryz.type4
theorem ti4_ok : TIok Tryz.prog 4 ti4 := tiok Tryz.underlying4 ti4_in (fun h => by cases h) (fun _ => rfl)
theorem ti5_in : (Tryz.prog.info? 5).map (fun j => (j.zero, j.size, j.bytes)) = some (some ti5.zero, ti5.size, ti5.bytes) := congrArg (Option.map fun j => (j.zero, j.size, j.bytes)) Tryz.type5
theorem ti5_ok : TIok Tryz.prog 5 ti5 := tiok Tryz.underlying5 ti5_in (fun h => by cases h) (fun _ => rfl)
theorem ti7_in : (Tryz.prog.info? 7).map (fun j => (j.zero, j.size, j.bytes)) = some (some ti7.zero, ti7.size, ti7.bytes) := congrArg (Option.map fun j => (j.zero, j.size, j.bytes)) Tryz.type7
theorem ti7_ok : TIok Tryz.prog 7 ti7 := tiok Tryz.underlying7 ti7_in (fun h => by cases h) (fun h => by cases h)
theorem ti8_in : (Tryz.prog.info? 8).map (fun j => (j.zero, j.size, j.bytes)) = some (some ti8.zero, ti8.size, ti8.bytes) := congrArg (Option.map fun j => (j.zero, j.size, j.bytes)) Tryz.type8
theorem ti8_ok : TIok Tryz.prog 8 ti8 := tiok Tryz.underlying8 ti8_in (fun h => by cases h) (fun h => by cases h)
theorem ti9_in : (Tryz.prog.info? 9).map (fun j => (j.zero, j.size, j.bytes)) = some (some ti9.zero, ti9.size, ti9.bytes) := congrArg (Option.map fun j => (j.zero, j.size, j.bytes)) Tryz.type9
theorem ti9_ok : TIok Tryz.prog 9 ti9 := tiok Tryz.underlying9 ti9_in (fun h => by cases h) (fun _ => rfl)
theorem ti10_in : (Tryz.prog.info? 10).map (fun j => (j.zero, j.size, j.bytes)) = some (some ti10.zero, ti10.size, ti10.bytes) := congrArg (Option.map fun j => (j.zero, j.size, j.bytes)) Tryz.type10
theorem ti10_ok : TIok Tryz.prog 10 ti10 := tiok Tryz.underlying10 ti10_in (fun h => by cases h) (fun _ => rfl)
theorem ti11_in : (Tryz.prog.info? 11).map (fun j => (j.zero, j.size, j.bytes)) = some (some ti11.zero, ti11.size, ti11.bytes) := congrArg (Option.map fun j => (j.zero, j.size, j.bytes)) Tryz.type11
theorem ti11_ok : TIok Tryz.prog 11 ti11 := tiok Tryz.underlying11 ti11_in (fun h => by cases h) (fun _ => rfl)
theorem ti12_in : (Tryz.prog.info? 12).map (fun j => (j.zero, j.size, j.bytes)) = some (some ti12.zero, ti12.size, ti12.bytes) := congrArg (Option.map fun j => (j.zero, j.size, j.bytes)) Tryz.type12
theorem ti12_ok : TIok Tryz.prog 12 ti12 := tiok Tryz.underlying12 ti12_in (fun h => by cases h) (fun _ => rfl)
theorem ti13_in : (Tryz.prog.info? 13).map (fun j => (j.zero, j.size, j.bytes)) = some (some ti13.zero, ti13.size, ti13.bytes) := congrArg (Option.map fun j => (j.zero, j.size, j.bytes)) Tryz.type13
theorem ti13_ok : TIok Tryz.prog 13 ti13 := tiok Tryz.underlying13 ti13_in (fun h => by cases h) (fun h => by cases h)
theorem ti14_in : (Tryz.prog.info? 14).map (fun j => (j.zero, j.size, j.bytes)) = some (some ti14.zero, ti14.size, ti14.bytes) := congrArg (Option.map fun j => (j.zero, j.size, j.bytes)) Tryz.type14
theorem ti14_ok : TIok Tryz.prog 14 ti14 := tiok Tryz.underlying14 ti14_in (fun h => by cases h) (fun h => by cases h)
theorem ti15_in : (Tryz.prog.info? 15).map (fun j => (j.zero, j.size, j.bytes)) = some (some ti15.zero, ti15.size, ti15.bytes) := congrArg (Option.map fun j => (j.zero, j.size, j.bytes)) Tryz.type15
theorem ti15_ok : TIok Tryz.prog 15 ti15 := tiok Tryz.underlying15 ti15_in (fun h => by cases h) (fun _ => rfl)
theorem ti16_in : (Tryz.prog.info? 16).map (fun j => (j.zero, j.size, j.bytes)) = some (some ti16.zero, ti16.size, ti16.bytes) := congrArg (Option.map fun j => (j.zero, j.size, j.bytes)) Tryz.type16
theorem ti16_ok : TIok Tryz.prog 16 ti16 := tiok Tryz.underlying16 ti16_in (fun h => by cases h) (fun _ => rfl)
theorem ti17_in : (Tryz.prog.info? 17).map (fun j => (j.zero, j.size, j.bytes)) = some (some ti17.zero, ti17.size, ti17.bytes) := congrArg (Option.map fun j => (j.zero, j.size, j.bytes)) Tryz.type17
theorem ti17_ok : TIok Tryz.prog 17 ti17 := tiok Tryz.underlying17 ti17_in (fun h => by cases h) (fun _ => rfl)
theorem ti18_in : (Tryz.prog.info? 18).map (fun j => (j.zero, j.size, j.bytes)) = some (some ti18.zero, ti18.size, ti18.bytes) := congrArg (Option.map fun j => (j.zero, j.size, j.bytes)) Tryz.type18
theorem ti18_ok : TIok Tryz.prog 18 ti18 := tiok Tryz.underlying18 ti18_in (fun h => by cases h) (fun h => by cases h)
theorem ti19_in : (Tryz.prog.info? 19).map (fun j => (j.zero, j.size, j.bytes)) = some (some ti19.zero, ti19.size, ti19.bytes) := congrArg (Option.map fun j => (j.zero, j.size, j.bytes)) Tryz.type19
theorem ti19_ok : TIok Tryz.prog 19 ti19 := tiok Tryz.underlying19 ti19_in (fun h => by cases h) (fun h => by cases h)
theorem ti21_in : (Tryz.prog.info? 21).map (fun j => (j.zero, j.size, j.bytes)) = some (some ti21.zero, ti21.size, ti21.bytes) := congrArg (Option.map fun j => (j.zero, j.size, j.bytes)) Tryz.type21
theorem ti21_ok : TIok Tryz.prog 21 ti21 := tiok Tryz.underlying21 ti21_in (fun h => by cases h) (fun _ => rfl)
theorem ti22_in : (Tryz.prog.info? 22).map (fun j => (j.zero, j.size, j.bytes)) = some (some ti22.zero, ti22.size, ti22.bytes) := congrArg (Option.map fun j => (j.zero, j.size, j.bytes)) Tryz.type22
theorem ti22_ok : TIok Tryz.prog 22 ti22 := tiok Tryz.underlying22 ti22_in (fun h => by cases h) (fun _ => rfl)
theorem ti23_in : (Tryz.prog.info? 23).map (fun j => (j.zero, j.size, j.bytes)) = some (some ti23.zero, ti23.size, ti23.bytes) := congrArg (Option.map fun j => (j.zero, j.size, j.bytes)) Tryz.type23
theorem ti23_ok : TIok Tryz.prog 23 ti23 := tiok Tryz.underlying23 ti23_in (fun h => by cases h) (fun h => by cases h)
theorem ti24_in : (Tryz.prog.info? 24).map (fun j => (j.zero, j.size, j.bytes)) = some (some ti24.zero, ti24.size, ti24.bytes) := congrArg (Option.map fun j => (j.zero, j.size, j.bytes)) Tryz.type24
theorem ti24_ok : TIok Tryz.prog 24 ti24 := tiok Tryz.underlying24 ti24_in (fun h => by cases h) (fun h => by cases h)
theorem ti25_in : (Tryz.prog.info? 25).map (fun j => (j.zero, j.size, j.bytes)) = some (some ti25.zero, ti25.size, ti25.bytes) := congrArg (Option.map fun j => (j.zero, j.size, j.bytes)) Tryz.type25
theorem ti25_ok : TIok Tryz.prog 25 ti25 := tiok Tryz.underlying25 ti25_in (fun h => by cases h) (fun _ => rfl)
theorem ti26_in : (Tryz.prog.info? 26).map (fun j => (j.zero, j.size, j.bytes)) = some (some ti26.zero, ti26.size, ti26.bytes) := congrArg (Option.map fun j => (j.zero, j.size, j.bytes)) Tryz.type26
theorem ti26_ok : TIok Tryz.prog 26 ti26 := tiok Tryz.underlying26 ti26_in (fun h => by cases h) (fun _ => rfl)
theorem ti27_in : (Tryz.prog.info? 27).map (fun j => (j.zero, j.size, j.bytes)) = some (some ti27.zero, ti27.size, ti27.bytes) := congrArg (Option.map fun j => (j.zero, j.size, j.bytes)) Tryz.type27
theorem ti27_ok : TIok Tryz.prog 27 ti27 := tiok Tryz.underlying27 ti27_in (fun h => by cases h) (fun _ => rfl)
theorem ti28_in : (Tryz.prog.info? 28).map (fun j => (j.zero, j.size, j.bytes)) = some (some ti28.zero, ti28.size, ti28.bytes) := congrArg (Option.map fun j => (j.zero, j.size, j.bytes)) Tryz.type28
theorem ti28_ok : TIok Tryz.prog 28 ti28 := tiok Tryz.underlying28 ti28_in (fun h => by cases h) (fun _ => rfl)
theorem ti29_in : (Tryz.prog.info? 29).map (fun j => (j.zero, j.size, j.bytes)) = some (some ti29.zero, ti29.size, ti29.bytes) := congrArg (Option.map fun j => (j.zero, j.size, j.bytes)) Tryz.type29
theorem ti29_ok : TIok Tryz.prog 29 ti29 := tiok Tryz.underlying29 ti29_in (fun h => by cases h) (fun h => by cases h)
theorem ti30_in : (Tryz.prog.info? 30).map (fun j => (j.zero, j.size, j.bytes)) = some (some ti30.zero, ti30.size, ti30.bytes) := congrArg (Option.map fun j => (j.zero, j.size, j.bytes)) Tryz.type30
theorem ti30_ok : TIok Tryz.prog 30 ti30 := tiok Tryz.underlying30 ti30_in (fun h => by cases h) (fun h => by cases h)
theorem ti31_in : (Tryz.prog.info? 31).map (fun j => (j.zero, j.size, j.bytes)) = some (some ti31.zero, ti31.size, ti31.bytes) := congrArg (Option.map fun j => (j.zero, j.size, j.bytes)) Tryz.type31
theorem ti31_ok : TIok Tryz.prog 31 ti31 := tiok Tryz.underlying31 ti31_in (fun _ => ⟨by kernel_rfl, by kernel_rfl, by kernel_rfl⟩) (fun h => by cases h)
theorem ti32_in : (Tryz.prog.info? 32).map (fun j => (j.zero, j.size, j.bytes)) = some (some ti32.zero, ti32.size, ti32.bytes) := congrArg (Option.map fun j => (j.zero, j.size, j.bytes)) Tryz.type32
theorem ti32_ok : TIok Tryz.prog 32 ti32 := tiok Tryz.underlying32 ti32_in (fun _ => ⟨by kernel_rfl, by kernel_rfl, by kernel_rfl⟩) (fun h => by cases h)
theorem ti33_in : (Tryz.prog.info? 33).map (fun j => (j.zero, j.size, j.bytes)) = some (some ti33.zero, ti33.size, ti33.bytes) := congrArg (Option.map fun j => (j.zero, j.size, j.bytes)) Tryz.type33
theorem ti33_ok : TIok Tryz.prog 33 ti33 := tiok Tryz.underlying33 ti33_in (fun h => by cases h) (fun _ => rfl)
theorem ti34_in : (Tryz.prog.info? 34).map (fun j => (j.zero, j.size, j.bytes)) = some (some ti34.zero, ti34.size, ti34.bytes) := congrArg (Option.map fun j => (j.zero, j.size, j.bytes)) Tryz.type34
theorem ti34_ok : TIok Tryz.prog 34 ti34 := tiok Tryz.underlying34 ti34_in (fun h => by cases h) (fun h => by cases h)
theorem ti35_in : (Tryz.prog.info? 35).map (fun j => (j.zero, j.size, j.bytes)) = some (some ti35.zero, ti35.size, ti35.bytes) := congrArg (Option.map fun j => (j.zero, j.size, j.bytes)) Tryz.type35
theorem ti35_ok : TIok Tryz.prog 35 ti35 := tiok Tryz.underlying35 ti35_in (fun h => by cases h) (fun h => by cases h)
theorem ti36_in : (Tryz.prog.info? 36).map (fun j => (j.zero, j.size, j.bytes)) = some (some ti36.zero, ti36.size, ti36.bytes) := congrArg (Option.map fun j => (j.zero, j.size, j.bytes)) Tryz.type36
theorem ti36_ok : TIok Tryz.prog 36 ti36 := tiok Tryz.underlying36 ti36_in (fun h => by cases h) (fun _ => rfl)
theorem ti37_in : (Tryz.prog.info? 37).map (fun j => (j.zero, j.size, j.bytes)) = some (some ti37.zero, ti37.size, ti37.bytes) := congrArg (Option.map fun j => (j.zero, j.size, j.bytes)) Tryz.type37
theorem ti37_ok : TIok Tryz.prog 37 ti37 := tiok Tryz.underlying37 ti37_in (fun h => by cases h) (fun _ => rfl)
theorem ti38_in : (Tryz.prog.info? 38).map (fun j => (j.zero, j.size, j.bytes)) = some (some ti38.zero, ti38.size, ti38.bytes) := congrArg (Option.map fun j => (j.zero, j.size, j.bytes)) Tryz.type38
theorem ti38_ok : TIok Tryz.prog 38 ti38 := tiok Tryz.underlying38 ti38_in (fun h => by cases h) (fun _ => rfl)
theorem ti39_in : (Tryz.prog.info? 39).map (fun j => (j.zero, j.size, j.bytes)) = some (some ti39.zero, ti39.size, ti39.bytes) := congrArg (Option.map fun j => (j.zero, j.size, j.bytes)) Tryz.type39
theorem ti39_ok : TIok Tryz.prog 39 ti39 := tiok Tryz.underlying39 ti39_in (fun h => by cases h) (fun _ => rfl)
theorem ti40_in : (Tryz.prog.info? 40).map (fun j => (j.zero, j.size, j.bytes)) = some (some ti40.zero, ti40.size, ti40.bytes) := congrArg (Option.map fun j => (j.zero, j.size, j.bytes)) Tryz.type40
theorem ti40_ok : TIok Tryz.prog 40 ti40 := tiok Tryz.underlying40 ti40_in (fun h => by cases h) (fun _ => rfl)
theorem ti41_in : (Tryz.prog.info? 41).map (fun j => (j.zero, j.size, j.bytes)) = some (some ti41.zero, ti41.size, ti41.bytes) := congrArg (Option.map fun j => (j.zero, j.size, j.bytes)) Tryz.type41
theorem ti41_ok : TIok Tryz.prog 41 ti41 := tiok Tryz.underlying41 ti41_in (fun h => by cases h) (fun _ => rfl)
theorem ti42_in : (Tryz.prog.info? 42).map (fun j => (j.zero, j.size, j.bytes)) = some (some ti42.zero, ti42.size, ti42.bytes) := congrArg (Option.map fun j => (j.zero, j.size, j.bytes)) Tryz.type42
theorem ti42_ok : TIok Tryz.prog 42 ti42 := tiok Tryz.underlying42 ti42_in (fun h => by cases h) (fun _ => rfl)
theorem ti43_in : (Tryz.prog.info? 43).map (fun j => (j.zero, j.size, j.bytes)) = some (some ti43.zero, ti43.size, ti43.bytes) := congrArg (Option.map fun j => (j.zero, j.size, j.bytes)) Tryz.type43
theorem ti43_ok : TIok Tryz.prog 43 ti43 := tiok Tryz.underlying43 ti43_in (fun _ => ⟨by kernel_rfl, by kernel_rfl, by kernel_rfl⟩) (fun h => by cases h)
theorem ti44_in : (Tryz.prog.info? 44).map (fun j => (j.zero, j.size, j.bytes)) = some (some ti44.zero, ti44.size, ti44.bytes) := congrArg (Option.map fun j => (j.zero, j.size, j.bytes)) Tryz.type44
theorem ti44_ok : TIok Tryz.prog 44 ti44 := tiok Tryz.underlying44 ti44_in (fun _ => ⟨by kernel_rfl, by kernel_rfl, by kernel_rfl⟩) (fun h => by cases h)
theorem ti45_in : (Tryz.prog.info? 45).map (fun j => (j.zero, j.size, j.bytes)) = some (some ti45.zero, ti45.size, ti45.bytes) := congrArg (Option.map fun j => (j.zero, j.size, j.bytes)) Tryz.type45
theorem ti45_ok : TIok Tryz.prog 45 ti45 := tiok Tryz.underlying45 ti45_in (fun _ => ⟨by kernel_rfl, by kernel_rfl, by kernel_rfl⟩) (fun h => by cases h)
theorem ti46_in : (Tryz.prog.info? 46).map (fun j => (j.zero, j.size, j.bytes)) = some (some ti46.zero, ti46.size, ti46.bytes) := congrArg (Option.map fun j => (j.zero, j.size, j.bytes)) Tryz.type46
theorem ti46_ok : TIok Tryz.prog 46 ti46 := tiok Tryz.underlying46 ti46_in (fun _ => ⟨by kernel_rfl, by kernel_rfl, by kernel_rfl⟩) (fun h => by cases h)
theorem ti47_in : (Tryz.prog.info? 47).map (fun j => (j.zero, j.size, j.bytes)) = some (some ti47.zero, ti47.size, ti47.bytes) := congrArg (Option.map fun j => (j.zero, j.size, j.bytes)) Tryz.type47
theorem ti47_ok : TIok Tryz.prog 47 ti47 := tiok Tryz.underlying47 ti47_in (fun h => by cases h) (fun _ => rfl)
theorem ti49_in : (Tryz.prog.info? 49).map (fun j => (j.zero, j.size, j.bytes)) = some (some ti49.zero, ti49.size, ti49.bytes) := congrArg (Option.map fun j => (j.zero, j.size, j.bytes)) Tryz.type49
theorem ti49_ok : TIok Tryz.prog 49 ti49 := tiok Tryz.underlying49 ti49_in (fun h => by cases h) (fun _ => rfl)
theorem ti50_in : (Tryz.prog.info? 50).map (fun j => (j.zero, j.size, j.bytes)) = some (some ti50.zero, ti50.size, ti50.bytes) := congrArg (Option.map fun j => (j.zero, j.size, j.bytes)) Tryz.type50
theorem ti50_ok : TIok Tryz.prog 50 ti50 := tiok Tryz.underlying50 ti50_in (fun h => by cases h) (fun _ => rfl)
theorem ti52_in : (Tryz.prog.info? 52).map (fun j => (j.zero, j.size, j.bytes)) = some (some ti52.zero, ti52.size, ti52.bytes) := congrArg (Option.map fun j => (j.zero, j.size, j.bytes)) Tryz.type52
theorem ti52_ok : TIok Tryz.prog 52 ti52 := tiok Tryz.underlying52 ti52_in (fun h => by cases h) (fun _ => rfl)
theorem ti53_in : (Tryz.prog.info? 53).map (fun j => (j.zero, j.size, j.bytes)) = some (some ti53.zero, ti53.size, ti53.bytes) := congrArg (Option.map fun j => (j.zero, j.size, j.bytes)) Tryz.type53
theorem ti53_ok : TIok Tryz.prog 53 ti53 := tiok Tryz.underlying53 ti53_in (fun h => by cases h) (fun _ => rfl)
theorem ti54_in : (Tryz.prog.info? 54).map (fun j => (j.zero, j.size, j.bytes)) = some (some ti54.zero, ti54.size, ti54.bytes) := congrArg (Option.map fun j => (j.zero, j.size, j.bytes)) Tryz.type54
theorem ti54_ok : TIok Tryz.prog 54 ti54 := tiok Tryz.underlying54 ti54_in (fun h => by cases h) (fun h => by cases h)
theorem ti55_in : (Tryz.prog.info? 55).map (fun j => (j.zero, j.size, j.bytes)) = some (some ti55.zero, ti55.size, ti55.bytes) := congrArg (Option.map fun j => (j.zero, j.size, j.bytes)) Tryz.type55
theorem ti55_ok : TIok Tryz.prog 55 ti55 := tiok Tryz.underlying55 ti55_in (fun h => by cases h) (fun h => by cases h)
theorem ti56_in : (Tryz.prog.info? 56).map (fun j => (j.zero, j.size, j.bytes)) = some (some ti56.zero, ti56.size, ti56.bytes) := congrArg (Option.map fun j => (j.zero, j.size, j.bytes)) Tryz.type56
theorem ti56_ok : TIok Tryz.prog 56 ti56 := tiok Tryz.underlying56 ti56_in (fun h => by cases h) (fun _ => rfl)
theorem ti57_in : (Tryz.prog.info? 57).map (fun j => (j.zero, j.size, j.bytes)) = some (some ti57.zero, ti57.size, ti57.bytes) := congrArg (Option.map fun j => (j.zero, j.size, j.bytes)) Tryz.type57
theorem ti57_ok : TIok Tryz.prog 57 ti57 := tiok Tryz.underlying57 ti57_in (fun h => by cases h) (fun _ => rfl)
theorem ti58_in : (Tryz.prog.info? 58).map (fun j => (j.zero, j.size, j.bytes)) = some (some ti58.zero, ti58.size, ti58.bytes) := congrArg (Option.map fun j => (j.zero, j.size, j.bytes)) Tryz.type58
theorem ti58_ok : TIok Tryz.prog 58 ti58 := tiok Tryz.underlying58 ti58_in (fun h => by cases h) (fun _ => rfl)
theorem ti59_in : (Tryz.prog.info? 59).map (fun j => (j.zero, j.size, j.bytes)) = some (some ti59.zero, ti59.size, ti59.bytes) := congrArg (Option.map fun j => (j.zero, j.size, j.bytes)) Tryz.type59
theorem ti59_ok : TIok Tryz.prog 59 ti59 := tiok Tryz.underlying59 ti59_in (fun h => by cases h) (fun _ => rfl)
theorem ti61_in : (Tryz.prog.info? 61).map (fun j => (j.zero, j.size, j.bytes)) = some (some ti61.zero, ti61.size, ti61.bytes) := congrArg (Option.map fun j => (j.zero, j.size, j.bytes)) Tryz.type61
theorem ti61_ok : TIok Tryz.prog 61 ti61 := tiok Tryz.underlying61 ti61_in (fun h => by cases h) (fun _ => rfl)
theorem ti62_in : (Tryz.prog.info? 62).map (fun j => (j.zero, j.size, j.bytes)) = some (some ti62.zero, ti62.size, ti62.bytes) := congrArg (Option.map fun j => (j.zero, j.size, j.bytes)) Tryz.type62
theorem ti62_ok : TIok Tryz.prog 62 ti62 := tiok Tryz.underlying62 ti62_in (fun h => by cases h) (fun _ => rfl)
theorem ti63_in : (Tryz.prog.info? 63).map (fun j => (j.zero, j.size, j.bytes)) = some (some ti63.zero, ti63.size, ti63.bytes) := congrArg (Option.map fun j => (j.zero, j.size, j.bytes)) Tryz.type63
theorem ti63_ok : TIok Tryz.prog 63 ti63 := tiok Tryz.underlying63 ti63_in (fun h => by cases h) (fun _ => rfl)
theorem ti64_in : (Tryz.prog.info? 64).map (fun j => (j.zero, j.size, j.bytes)) = some (some ti64.zero, ti64.size, ti64.bytes) := congrArg (Option.map fun j => (j.zero, j.size, j.bytes)) Tryz.type64
theorem ti64_ok : TIok Tryz.prog 64 ti64 := tiok Tryz.underlying64 ti64_in (fun h => by cases h) (fun _ => rfl)
theorem ti65_in : (Tryz.prog.info? 65).map (fun j => (j.zero, j.size, j.bytes)) = some (some ti65.zero, ti65.size, ti65.bytes) := congrArg (Option.map fun j => (j.zero, j.size, j.bytes)) Tryz.type65
theorem ti65_ok : TIok Tryz.prog 65 ti65 := tiok Tryz.underlying65 ti65_in (fun _ => ⟨by kernel_rfl, by kernel_rfl, by kernel_rfl⟩) (fun h => by cases h)
theorem ti66_in : (Tryz.prog.info? 66).map (fun j => (j.zero, j.size, j.bytes)) = some (some ti66.zero, ti66.size, ti66.bytes) := congrArg (Option.map fun j => (j.zero, j.size, j.bytes)) Tryz.type66
theorem ti66_ok : TIok Tryz.prog 66 ti66 := tiok Tryz.underlying66 ti66_in (fun _ => ⟨by kernel_rfl, by kernel_rfl, by kernel_rfl⟩) (fun h => by cases h)
theorem ti67_in : (Tryz.prog.info? 67).map (fun j => (j.zero, j.size, j.bytes)) = some (some ti67.zero, ti67.size, ti67.bytes) := congrArg (Option.map fun j => (j.zero, j.size, j.bytes)) Tryz.type67
theorem ti67_ok : TIok Tryz.prog 67 ti67 := tiok Tryz.underlying67 ti67_in (fun h => by cases h) (fun _ => rfl)
theorem ti68_in : (Tryz.prog.info? 68).map (fun j => (j.zero, j.size, j.bytes)) = some (some ti68.zero, ti68.size, ti68.bytes) := congrArg (Option.map fun j => (j.zero, j.size, j.bytes)) Tryz.type68
theorem ti68_ok : TIok Tryz.prog 68 ti68 := tiok Tryz.underlying68 ti68_in (fun h => by cases h) (fun _ => rfl)
theorem ti69_in : (Tryz.prog.info? 69).map (fun j => (j.zero, j.size, j.bytes)) = some (some ti69.zero, ti69.size, ti69.bytes) := congrArg (Option.map fun j => (j.zero, j.size, j.bytes)) Tryz.type69
theorem ti69_ok : TIok Tryz.prog 69 ti69 := tiok Tryz.underlying69 ti69_in (fun h => by cases h) (fun _ => rfl)
theorem ti70_in : (Tryz.prog.info? 70).map (fun j => (j.zero, j.size, j.bytes)) = some (some ti70.zero, ti70.size, ti70.bytes) := congrArg (Option.map fun j => (j.zero, j.size, j.bytes)) Tryz.type70
theorem ti70_ok : TIok Tryz.prog 70 ti70 := tiok Tryz.underlying70 ti70_in (fun h => by cases h) (fun _ => rfl)
theorem ti71_in : (Tryz.prog.info? 71).map (fun j => (j.zero, j.size, j.bytes)) = some (some ti71.zero, ti71.size, ti71.bytes) := congrArg (Option.map fun j => (j.zero, j.size, j.bytes)) Tryz.type71
theorem ti71_ok : TIok Tryz.prog 71 ti71 := tiok Tryz.underlying71 ti71_in (fun h => by cases h) (fun _ => rfl)
theorem ti73_in : (Tryz.prog.info? 73).map (fun j => (j.zero, j.size, j.bytes)) = some (some ti73.zero, ti73.size, ti73.bytes) := congrArg (Option.map fun j => (j.zero, j.size, j.bytes)) Tryz.type73
theorem ti73_ok : TIok Tryz.prog 73 ti73 := tiok Tryz.underlying73 ti73_in (fun h => by cases h) (fun _ => rfl)
theorem ti74_in : (Tryz.prog.info? 74).map (fun j => (j.zero, j.size, j.bytes)) = some (some ti74.zero, ti74.size, ti74.bytes) := congrArg (Option.map fun j => (j.zero, j.size, j.bytes)) Tryz.type74
theorem ti74_ok : TIok Tryz.prog 74 ti74 := tiok Tryz.underlying74 ti74_in (fun h => by cases h) (fun _ => rfl)
theorem ti75_in : (Tryz.prog.info? 75).map (fun j => (j.zero, j.size, j.bytes)) = some (some ti75.zero, ti75.size, ti75.bytes) := congrArg (Option.map fun j => (j.zero, j.size, j.bytes)) Tryz.type75
theorem ti75_ok : TIok Tryz.prog 75 ti75 := tiok Tryz.underlying75 ti75_in (fun h => by cases h) (fun _ => rfl)
theorem ti76_in : (Tryz.prog.info? 76).map (fun j => (j.zero, j.size, j.bytes)) = some (some ti76.zero, ti76.size, ti76.bytes) := congrArg (Option.map fun j => (j.zero, j.size, j.bytes)) Tryz.type76
theorem ti76_ok : TIok Tryz.prog 76 ti76 := tiok Tryz.underlying76 ti76_in (fun h => by cases h) (fun _ => rfl)
theorem ti77_in : (Tryz.prog.info? 77).map (fun j => (j.zero, j.size, j.bytes)) = some (some ti77.zero, ti77.size, ti77.bytes) := congrArg (Option.map fun j => (j.zero, j.size, j.bytes)) Tryz.type77
theorem ti77_ok : TIok Tryz.prog 77 ti77 := tiok Tryz.underlying77 ti77_in (fun h => by cases h) (fun _ => rfl)
theorem ti78_in : (Tryz.prog.info? 78).map (fun j => (j.zero, j.size, j.bytes)) = some (some ti78.zero, ti78.size, ti78.bytes) := congrArg (Option.map fun j => (j.zero, j.size, j.bytes)) Tryz.type78
theorem ti78_ok : TIok Tryz.prog 78 ti78 := tiok Tryz.underlying78 ti78_in (fun h => by cases h) (fun _ => rfl)
theorem ti79_in : (Tryz.prog.info? 79).map (fun j => (j.zero, j.size, j.bytes)) = some (some ti79.zero, ti79.size, ti79.bytes) := congrArg (Option.map fun j => (j.zero, j.size, j.bytes)) Tryz.type79
theorem ti79_ok : TIok Tryz.prog 79 ti79 := tiok Tryz.underlying79 ti79_in (fun _ => ⟨by kernel_rfl, by kernel_rfl, by kernel_rfl⟩) (fun h => by cases h)
theorem ti80_in : (Tryz.prog.info? 80).map (fun j => (j.zero, j.size, j.bytes)) = some (some ti80.zero, ti80.size, ti80.bytes) := congrArg (Option.map fun j => (j.zero, j.size, j.bytes)) Tryz.type80
theorem ti80_ok : TIok Tryz.prog 80 ti80 := tiok Tryz.underlying80 ti80_in (fun _ => ⟨by kernel_rfl, by kernel_rfl, by kernel_rfl⟩) (fun h => by cases h)
theorem ti81_in : (Tryz.prog.info? 81).map (fun j => (j.zero, j.size, j.bytes)) = some (some ti81.zero, ti81.size, ti81.bytes) := congrArg (Option.map fun j => (j.zero, j.size, j.bytes)) Tryz.type81
theorem ti81_ok : TIok Tryz.prog 81 ti81 := tiok Tryz.underlying81 ti81_in (fun h => by cases h) (fun _ => rfl)
theorem ti83_in : (Tryz.prog.info? 83).map (fun j => (j.zero, j.size, j.bytes)) = some (some ti83.zero, ti83.size, ti83.bytes) := congrArg (Option.map fun j => (j.zero, j.size, j.bytes)) Tryz.type83
theorem ti83_ok : TIok Tryz.prog 83 ti83 := tiok Tryz.underlying83 ti83_in (fun h => by cases h) (fun _ => rfl)
theorem ti84_in : (Tryz.prog.info? 84).map (fun j => (j.zero, j.size, j.bytes)) = some (some ti84.zero, ti84.size, ti84.bytes) := congrArg (Option.map fun j => (j.zero, j.size, j.bytes)) Tryz.type84
theorem ti84_ok : TIok Tryz.prog 84 ti84 := tiok Tryz.underlying84 ti84_in (fun h => by cases h) (fun _ => rfl)
theorem ti85_in : (Tryz.prog.info? 85).map (fun j => (j.zero, j.size, j.bytes)) = some (some ti85.zero, ti85.size, ti85.bytes) := congrArg (Option.map fun j => (j.zero, j.size, j.bytes)) Tryz.type85
theorem ti85_ok : TIok Tryz.prog 85 ti85 := tiok Tryz.underlying85 ti85_in (fun h => by cases h) (fun _ => rfl)
theorem ti86_in : (Tryz.prog.info? 86).map (fun j => (j.zero, j.size, j.bytes)) = some (some ti86.zero, ti86.size, ti86.bytes) := congrArg (Option.map fun j => (j.zero, j.size, j.bytes)) Tryz.type86
theorem ti86_ok : TIok Tryz.prog 86 ti86 := tiok Tryz.underlying86 ti86_in (fun h => by cases h) (fun _ => rfl)
theorem ti87_in : (Tryz.prog.info? 87).map (fun j => (j.zero, j.size, j.bytes)) = some (some ti87.zero, ti87.size, ti87.bytes) := congrArg (Option.map fun j => (j.zero, j.size, j.bytes)) Tryz.type87
theorem ti87_ok : TIok Tryz.prog 87 ti87 := tiok Tryz.underlying87 ti87_in (fun h => by cases h) (fun _ => rfl)
theorem ti88_in : (Tryz.prog.info? 88).map (fun j => (j.zero, j.size, j.bytes)) = some (some ti88.zero, ti88.size, ti88.bytes) := congrArg (Option.map fun j => (j.zero, j.size, j.bytes)) Tryz.type88
theorem ti88_ok : TIok Tryz.prog 88 ti88 := tiok Tryz.underlying88 ti88_in (fun h => by cases h) (fun _ => rfl)
theorem ti89_in : (Tryz.prog.info? 89).map (fun j => (j.zero, j.size, j.bytes)) = some (some ti89.zero, ti89.size, ti89.bytes) := congrArg (Option.map fun j => (j.zero, j.size, j.bytes)) Tryz.type89
theorem ti89_ok : TIok Tryz.prog 89 ti89 := tiok Tryz.underlying89 ti89_in (fun h => by cases h) (fun _ => rfl)
theorem ti90_in : (Tryz.prog.info? 90).map (fun j => (j.zero, j.size, j.bytes)) = some (some ti90.zero, ti90.size, ti90.bytes) := congrArg (Option.map fun j => (j.zero, j.size, j.bytes)) Tryz.type90
theorem ti90_ok : TIok Tryz.prog 90 ti90 := tiok Tryz.underlying90 ti90_in (fun h => by cases h) (fun _ => rfl)
theorem ti91_in : (Tryz.prog.info? 91).map (fun j => (j.zero, j.size, j.bytes)) = some (some ti91.zero, ti91.size, ti91.bytes) := congrArg (Option.map fun j => (j.zero, j.size, j.bytes)) Tryz.type91
theorem ti91_ok : TIok Tryz.prog 91 ti91 := tiok Tryz.underlying91 ti91_in (fun h => by cases h) (fun _ => rfl)
theorem ti92_in : (Tryz.prog.info? 92).map (fun j => (j.zero, j.size, j.bytes)) = some (some ti92.zero, ti92.size, ti92.bytes) := congrArg (Option.map fun j => (j.zero, j.size, j.bytes)) Tryz.type92
theorem ti92_ok : TIok Tryz.prog 92 ti92 := tiok Tryz.underlying92 ti92_in (fun h => by cases h) (fun _ => rfl)
theorem ti93_in : (Tryz.prog.info? 93).map (fun j => (j.zero, j.size, j.bytes)) = some (some ti93.zero, ti93.size, ti93.bytes) := congrArg (Option.map fun j => (j.zero, j.size, j.bytes)) Tryz.type93
theorem ti93_ok : TIok Tryz.prog 93 ti93 := tiok Tryz.underlying93 ti93_in (fun h => by cases h) (fun _ => rfl)
theorem ti94_in : (Tryz.prog.info? 94).map (fun j => (j.zero, j.size, j.bytes)) = some (some ti94.zero, ti94.size, ti94.bytes) := congrArg (Option.map fun j => (j.zero, j.size, j.bytes)) Tryz.type94
theorem ti94_ok : TIok Tryz.prog 94 ti94 := tiok Tryz.underlying94 ti94_in (fun h => by cases h) (fun _ => rfl)
theorem ti95_in : (Tryz.prog.info? 95).map (fun j => (j.zero, j.size, j.bytes)) = some (some ti95.zero, ti95.size, ti95.bytes) := congrArg (Option.map fun j => (j.zero, j.size, j.bytes)) Tryz.type95
theorem ti95_ok : TIok Tryz.prog 95 ti95 := tiok Tryz.underlying95 ti95_in (fun h => by cases h) (fun _ => rfl)
theorem ti96_in : (Tryz.prog.info? 96).map (fun j => (j.zero, j.size, j.bytes)) = some (some ti96.zero, ti96.size, ti96.bytes) := congrArg (Option.map fun j => (j.zero, j.size, j.bytes)) Tryz.type96
theorem ti96_ok : TIok Tryz.prog 96 ti96 := tiok Tryz.underlying96 ti96_in (fun h => by cases h) (fun _ => rfl)
theorem ti97_in : (Tryz.prog.info? 97).map (fun j => (j.zero, j.size, j.bytes)) = some (some ti97.zero, ti97.size, ti97.bytes) := congrArg (Option.map fun j => (j.zero, j.size, j.bytes)) Tryz.type97
theorem ti97_ok : TIok Tryz.prog 97 ti97 := tiok Tryz.underlying97 ti97_in (fun h => by cases h) (fun _ => rfl)
theorem ti98_in : (Tryz.prog.info? 98).map (fun j => (j.zero, j.size, j.bytes)) = some (some ti98.zero, ti98.size, ti98.bytes) := congrArg (Option.map fun j => (j.zero, j.size, j.bytes)) Tryz.type98
theorem ti98_ok : TIok Tryz.prog 98 ti98 := tiok Tryz.underlying98 ti98_in (fun h => by cases h) (fun _ => rfl)
theorem ti99_in : (Tryz.prog.info? 99).map (fun j => (j.zero, j.size, j.bytes)) = some (some ti99.zero, ti99.size, ti99.bytes) := congrArg (Option.map fun j => (j.zero, j.size, j.bytes)) Tryz.type99
theorem ti99_ok : TIok Tryz.prog 99 ti99 := tiok Tryz.underlying99 ti99_in (fun h => by cases h) (fun _ => rfl)
theorem ti100_in : (Tryz.prog.info? 100).map (fun j => (j.zero, j.size, j.bytes)) = some (some ti100.zero, ti100.size, ti100.bytes) := congrArg (Option.map fun j => (j.zero, j.size, j.bytes)) Tryz.type100
theorem ti100_ok : TIok Tryz.prog 100 ti100 := tiok Tryz.underlying100 ti100_in (fun h => by cases h) (fun _ => rfl)
theorem ti101_in : (Tryz.prog.info? 101).map (fun j => (j.zero, j.size, j.bytes)) = some (some ti101.zero, ti101.size, ti101.bytes) := congrArg (Option.map fun j => (j.zero, j.size, j.bytes)) Tryz.type101
theorem ti101_ok : TIok Tryz.prog 101 ti101 := tiok Tryz.underlying101 ti101_in (fun h => by cases h) (fun _ => rfl)
theorem ti102_in : (Tryz.prog.info? 102).map (fun j => (j.zero, j.size, j.bytes)) = some (some ti102.zero, ti102.size, ti102.bytes) := congrArg (Option.map fun j => (j.zero, j.size, j.bytes)) Tryz.type102
theorem ti102_ok : TIok Tryz.prog 102 ti102 := tiok Tryz.underlying102 ti102_in (fun h => by cases h) (fun _ => rfl)
theorem ti103_in : (Tryz.prog.info? 103).map (fun j => (j.zero, j.size, j.bytes)) = some (some ti103.zero, ti103.size, ti103.bytes) := congrArg (Option.map fun j => (j.zero, j.size, j.bytes)) Tryz.type103
theorem ti103_ok : TIok Tryz.prog 103 ti103 := tiok Tryz.underlying103 ti103_in (fun h => by cases h) (fun _ => rfl)
theorem ti104_in : (Tryz.prog.info? 104).map (fun j => (j.zero, j.size, j.bytes)) = some (some ti104.zero, ti104.size, ti104.bytes) := congrArg (Option.map fun j => (j.zero, j.size, j.bytes)) Tryz.type104
theorem ti104_ok : TIok Tryz.prog 104 ti104 := tiok Tryz.underlying104 ti104_in (fun h => by cases h) (fun _ => rfl)
theorem ti105_in : (Tryz.prog.info? 105).map (fun j => (j.zero, j.size, j.bytes)) = some (some ti105.zero, ti105.size, ti105.bytes) := congrArg (Option.map fun j => (j.zero, j.size, j.bytes)) Tryz.type105
theorem ti105_ok : TIok Tryz.prog 105 ti105 := tiok Tryz.underlying105 ti105_in (fun h => by cases h) (fun _ => rfl)
theorem ti106_in : (Tryz.prog.info? 106).map (fun j => (j.zero, j.size, j.bytes)) = some (some ti106.zero, ti106.size, ti106.bytes) := congrArg (Option.map fun j => (j.zero, j.size, j.bytes)) Tryz.type106
theorem ti106_ok : TIok Tryz.prog 106 ti106 := tiok Tryz.underlying106 ti106_in (fun h => by cases h) (fun _ => rfl)
theorem ti107_in : (Tryz.prog.info? 107).map (fun j => (j.zero, j.size, j.bytes)) = some (some ti107.zero, ti107.size, ti107.bytes) := congrArg (Option.map fun j => (j.zero, j.size, j.bytes)) Tryz.type107
theorem ti107_ok : TIok Tryz.prog 107 ti107 := tiok Tryz.underlying107 ti107_in (fun h => by cases h) (fun _ => rfl)
theorem ti108_in : (Tryz.prog.info? 108).map (fun j => (j.zero, j.size, j.bytes)) = some (some ti108.zero, ti108.size, ti108.bytes) := congrArg (Option.map fun j => (j.zero, j.size, j.bytes)) Tryz.type108
theorem ti108_ok : TIok Tryz.prog 108 ti108 := tiok Tryz.underlying108 ti108_in (fun h => by cases h) (fun _ => rfl)
theorem ti110_in : (Tryz.prog.info? 110).map (fun j => (j.zero, j.size, j.bytes)) = some (some ti110.zero, ti110.size, ti110.bytes) := congrArg (Option.map fun j => (j.zero, j.size, j.bytes)) Tryz.type110
theorem ti110_ok : TIok Tryz.prog 110 ti110 := tiok Tryz.underlying110 ti110_in (fun h => by cases h) (fun _ => rfl)
theorem ti111_in : (Tryz.prog.info? 111).map (fun j => (j.zero, j.size, j.bytes)) = some (some ti111.zero, ti111.size, ti111.bytes) := congrArg (Option.map fun j => (j.zero, j.size, j.bytes)) Tryz.type111
theorem ti111_ok : TIok Tryz.prog 111 ti111 := tiok Tryz.underlying111 ti111_in (fun h => by cases h) (fun _ => rfl)
theorem ti112_in : (Tryz.prog.info? 112).map (fun j => (j.zero, j.size, j.bytes)) = some (some ti112.zero, ti112.size, ti112.bytes) := congrArg (Option.map fun j => (j.zero, j.size, j.bytes)) Tryz.type112
theorem ti112_ok : TIok Tryz.prog 112 ti112 := tiok Tryz.underlying112 ti112_in (fun h => by cases h) (fun _ => rfl)
theorem ti113_in : (Tryz.prog.info? 113).map (fun j => (j.zero, j.size, j.bytes)) = some (some ti113.zero, ti113.size, ti113.bytes) := congrArg (Option.map fun j => (j.zero, j.size, j.bytes)) Tryz.type113
theorem ti113_ok : TIok Tryz.prog 113 ti113 := tiok Tryz.underlying113 ti113_in (fun h => by cases h) (fun _ => rfl)
theorem ti114_in : (Tryz.prog.info? 114).map (fun j => (j.zero, j.size, j.bytes)) = some (some ti114.zero, ti114.size, ti114.bytes) := congrArg (Option.map fun j => (j.zero, j.size, j.bytes)) Tryz.type114
theorem ti114_ok : TIok Tryz.prog 114 ti114 := tiok Tryz.underlying114 ti114_in (fun h => by cases h) (fun _ => rfl)
theorem ti115_in : (Tryz.prog.info? 115).map (fun j => (j.zero, j.size, j.bytes)) = some (some ti115.zero, ti115.size, ti115.bytes) := congrArg (Option.map fun j => (j.zero, j.size, j.bytes)) Tryz.type115
theorem ti115_ok : TIok Tryz.prog 115 ti115 := tiok Tryz.underlying115 ti115_in (fun h => by cases h) (fun _ => rfl)
theorem ti116_in : (Tryz.prog.info? 116).map (fun j => (j.zero, j.size, j.bytes)) = some (some ti116.zero, ti116.size, ti116.bytes) := congrArg (Option.map fun j => (j.zero, j.size, j.bytes)) Tryz.type116
theorem ti116_ok : TIok Tryz.prog 116 ti116 := tiok Tryz.underlying116 ti116_in (fun h => by cases h) (fun _ => rfl)
theorem ti117_in : (Tryz.prog.info? 117).map (fun j => (j.zero, j.size, j.bytes)) = some (some ti117.zero, ti117.size, ti117.bytes) := congrArg (Option.map fun j => (j.zero, j.size, j.bytes)) Tryz.type117
theorem ti117_ok : TIok Tryz.prog 117 ti117 := tiok Tryz.underlying117 ti117_in (fun h => by cases h) (fun _ => rfl)
theorem ti118_in : (Tryz.prog.info? 118).map (fun j => (j.zero, j.size, j.bytes)) = some (some ti118.zero, ti118.size, ti118.bytes) := congrArg (Option.map fun j => (j.zero, j.size, j.bytes)) Tryz.type118
theorem ti118_ok : TIok Tryz.prog 118 ti118 := tiok Tryz.underlying118 ti118_in (fun h => by cases h) (fun _ => rfl)
theorem ti119_in : (Tryz.prog.info? 119).map (fun j => (j.zero, j.size, j.bytes)) = some (some ti119.zero, ti119.size, ti119.bytes) := congrArg (Option.map fun j => (j.zero, j.size, j.bytes)) Tryz.type119
theorem ti119_ok : TIok Tryz.prog 119 ti119 := tiok Tryz.underlying119 ti119_in (fun h => by cases h) (fun _ => rfl)
theorem ti120_in : (Tryz.prog.info? 120).map (fun j => (j.zero, j.size, j.bytes)) = some (some ti120.zero, ti120.size, ti120.bytes) := congrArg (Option.map fun j => (j.zero, j.size, j.bytes)) Tryz.type120
theorem ti120_ok : TIok Tryz.prog 120 ti120 := tiok Tryz.underlying120 ti120_in (fun h => by cases h) (fun _ => rfl)
theorem ti121_in : (Tryz.prog.info? 121).map (fun j => (j.zero, j.size, j.bytes)) = some (some ti121.zero, ti121.size, ti121.bytes) := congrArg (Option.map fun j => (j.zero, j.size, j.bytes)) Tryz.type121
theorem ti121_ok : TIok Tryz.prog 121 ti121 := tiok Tryz.underlying121 ti121_in (fun h => by cases h) (fun _ => rfl)
theorem ti122_in : (Tryz.prog.info? 122).map (fun j => (j.zero, j.size, j.bytes)) = some (some ti122.zero, ti122.size, ti122.bytes) := congrArg (Option.map fun j => (j.zero, j.size, j.bytes)) Tryz.type122
theorem ti122_ok : TIok Tryz.prog 122 ti122 := tiok Tryz.underlying122 ti122_in (fun h => by cases h) (fun _ => rfl)
theorem ti123_in : (Tryz.prog.info? 123).map (fun j => (j.zero, j.size, j.bytes)) = some (some ti123.zero, ti123.size, ti123.bytes) := congrArg (Option.map fun j => (j.zero, j.size, j.bytes)) Tryz.type123
theorem ti123_ok : TIok Tryz.prog 123 ti123 := tiok Tryz.underlying123 ti123_in (fun h => by cases h) (fun _ => rfl)
theorem ti124_in : (Tryz.prog.info? 124).map (fun j => (j.zero, j.size, j.bytes)) = some (some ti124.zero, ti124.size, ti124.bytes) := congrArg (Option.map fun j => (j.zero, j.size, j.bytes)) Tryz.type124
theorem ti124_ok : TIok Tryz.prog 124 ti124 := tiok Tryz.underlying124 ti124_in (fun h => by cases h) (fun _ => rfl)
theorem ti125_in : (Tryz.prog.info? 125).map (fun j => (j.zero, j.size, j.bytes)) = some (some ti125.zero, ti125.size, ti125.bytes) := congrArg (Option.map fun j => (j.zero, j.size, j.bytes)) Tryz.type125
theorem ti125_ok : TIok Tryz.prog 125 ti125 := tiok Tryz.underlying125 ti125_in (fun h => by cases h) (fun _ => rfl)
theorem ti126_in : (Tryz.prog.info? 126).map (fun j => (j.zero, j.size, j.bytes)) = some (some ti126.zero, ti126.size, ti126.bytes) := congrArg (Option.map fun j => (j.zero, j.size, j.bytes)) Tryz.type126
theorem ti126_ok : TIok Tryz.prog 126 ti126 := tiok Tryz.underlying126 ti126_in (fun h => by cases h) (fun _ => rfl)
theorem ti127_in : (Tryz.prog.info? 127).map (fun j => (j.zero, j.size, j.bytes)) = some (some ti127.zero, ti127.size, ti127.bytes) := congrArg (Option.map fun j => (j.zero, j.size, j.bytes)) Tryz.type127
theorem ti127_ok : TIok Tryz.prog 127 ti127 := tiok Tryz.underlying127 ti127_in (fun h => by cases h) (fun _ => rfl)
theorem ti128_in : (Tryz.prog.info? 128).map (fun j => (j.zero, j.size, j.bytes)) = some (some ti128.zero, ti128.size, ti128.bytes) := congrArg (Option.map fun j => (j.zero, j.size, j.bytes)) Tryz.type128
theorem ti128_ok : TIok Tryz.prog 128 ti128 := tiok Tryz.underlying128 ti128_in (fun h => by cases h) (fun _ => rfl)
theorem ti129_in : (Tryz.prog.info? 129).map (fun j => (j.zero, j.size, j.bytes)) = some (some ti129.zero, ti129.size, ti129.bytes) := congrArg (Option.map fun j => (j.zero, j.size, j.bytes)) Tryz.type129
theorem ti129_ok : TIok Tryz.prog 129 ti129 := tiok Tryz.underlying129 ti129_in (fun h => by cases h) (fun _ => rfl)
theorem ti130_in : (Tryz.prog.info? 130).map (fun j => (j.zero, j.size, j.bytes)) = some (some ti130.zero, ti130.size, ti130.bytes) := congrArg (Option.map fun j => (j.zero, j.size, j.bytes)) Tryz.type130
theorem ti130_ok : TIok Tryz.prog 130 ti130 := tiok Tryz.underlying130 ti130_in (fun h => by cases h) (fun _ => rfl)
theorem ti131_in : (Tryz.prog.info? 131).map (fun j => (j.zero, j.size, j.bytes)) = some (some ti131.zero, ti131.size, ti131.bytes) := congrArg (Option.map fun j => (j.zero, j.size, j.bytes)) Tryz.type131
theorem ti131_ok : TIok Tryz.prog 131 ti131 := tiok Tryz.underlying131 ti131_in (fun h => by cases h) (fun _ => rfl)
theorem ti132_in : (Tryz.prog.info? 132).map (fun j => (j.zero, j.size, j.bytes)) = some (some ti132.zero, ti132.size, ti132.bytes) := congrArg (Option.map fun j => (j.zero, j.size, j.bytes)) Tryz.type132
theorem ti132_ok : TIok Tryz.prog 132 ti132 := tiok Tryz.underlying132 ti132_in (fun h => by cases h) (fun _ => rfl)
theorem ti133_in : (Tryz.prog.info? 133).map (fun j => (j.zero, j.size, j.bytes)) = some (some ti133.zero, ti133.size, ti133.bytes) := congrArg (Option.map fun j => (j.zero, j.size, j.bytes)) Tryz.type133
theorem ti133_ok : TIok Tryz.prog 133 ti133 := tiok Tryz.underlying133 ti133_in (fun h => by cases h) (fun _ => rfl)
theorem ti134_in : (Tryz.prog.info? 134).map (fun j => (j.zero, j.size, j.bytes)) = some (some ti134.zero, ti134.size, ti134.bytes) := congrArg (Option.map fun j => (j.zero, j.size, j.bytes)) Tryz.type134
theorem ti134_ok : TIok Tryz.prog 134 ti134 := tiok Tryz.underlying134 ti134_in (fun h => by cases h) (fun _ => rfl)
theorem ti135_in : (Tryz.prog.info? 135).map (fun j => (j.zero, j.size, j.bytes)) = some (some ti135.zero, ti135.size, ti135.bytes) := congrArg (Option.map fun j => (j.zero, j.size, j.bytes)) Tryz.type135
theorem ti135_ok : TIok Tryz.prog 135 ti135 := tiok Tryz.underlying135 ti135_in (fun h => by cases h) (fun _ => rfl)
theorem ti136_in : (Tryz.prog.info? 136).map (fun j => (j.zero, j.size, j.bytes)) = some (some ti136.zero, ti136.size, ti136.bytes) := congrArg (Option.map fun j => (j.zero, j.size, j.bytes)) Tryz.type136
theorem ti136_ok : TIok Tryz.prog 136 ti136 := tiok Tryz.underlying136 ti136_in (fun h => by cases h) (fun _ => rfl)
theorem ti137_in : (Tryz.prog.info? 137).map (fun j => (j.zero, j.size, j.bytes)) = some (some ti137.zero, ti137.size, ti137.bytes) := congrArg (Option.map fun j => (j.zero, j.size, j.bytes)) Tryz.type137
theorem ti137_ok : TIok Tryz.prog 137 ti137 := tiok Tryz.underlying137 ti137_in (fun h => by cases h) (fun _ => rfl)
theorem ti138_in : (Tryz.prog.info? 138).map (fun j => (j.zero, j.size, j.bytes)) = some (some ti138.zero, ti138.size, ti138.bytes) := congrArg (Option.map fun j => (j.zero, j.size, j.bytes)) Tryz.type138
theorem ti138_ok : TIok Tryz.prog 138 ti138 := tiok Tryz.underlying138 ti138_in (fun h => by cases h) (fun _ => rfl)
theorem ti139_in : (Tryz.prog.info? 139).map (fun j => (j.zero, j.size, j.bytes)) = some (some ti139.zero, ti139.size, ti139.bytes) := congrArg (Option.map fun j => (j.zero, j.size, j.bytes)) Tryz.type139
theorem ti139_ok : TIok Tryz.prog 139 ti139 := tiok Tryz.underlying139 ti139_in (fun h => by cases h) (fun _ => rfl)
theorem ti140_in : (Tryz.prog.info? 140).map (fun j => (j.zero, j.size, j.bytes)) = some (some ti140.zero, ti140.size, ti140.bytes) := congrArg (Option.map fun j => (j.zero, j.size, j.bytes)) Tryz.type140
theorem ti140_ok : TIok Tryz.prog 140 ti140 := tiok Tryz.underlying140 ti140_in (fun h => by cases h) (fun _ => rfl)
theorem ti141_in : (Tryz.prog.info? 141).map (fun j => (j.zero, j.size, j.bytes)) = some (some ti141.zero, ti141.size, ti141.bytes) := congrArg (Option.map fun j => (j.zero, j.size, j.bytes)) Tryz.type141
theorem ti141_ok : TIok Tryz.prog 141 ti141 := tiok Tryz.underlying141 ti141_in (fun h => by cases h) (fun _ => rfl)
theorem ti142_in : (Tryz.prog.info? 142).map (fun j => (j.zero, j.size, j.bytes)) = some (some ti142.zero, ti142.size, ti142.bytes) := congrArg (Option.map fun j => (j.zero, j.size, j.bytes)) Tryz.type142
theorem ti142_ok : TIok Tryz.prog 142 ti142 := tiok Tryz.underlying142 ti142_in (fun h => by cases h) (fun _ => rfl)
theorem ti143_in : (Tryz.prog.info? 143).map (fun j => (j.zero, j.size, j.bytes)) = some (some ti143.zero, ti143.size, ti143.bytes) := congrArg (Option.map fun j => (j.zero, j.size, j.bytes)) Tryz.type143
theorem ti143_ok : TIok Tryz.prog 143 ti143 := tiok Tryz.underlying143 ti143_in (fun h => by cases h) (fun _ => rfl)
theorem ti144_in : (Tryz.prog.info? 144).map (fun j => (j.zero, j.size, j.bytes)) = some (some ti144.zero, ti144.size, ti144.bytes) := congrArg (Option.map fun j => (j.zero, j.size, j.bytes)) Tryz.type144
theorem ti144_ok : TIok Tryz.prog 144 ti144 := tiok Tryz.underlying144 ti144_in (fun h => by cases h) (fun _ => rfl)
theorem ti145_in : (Tryz.prog.info? 145).map (fun j => (j.zero, j.size, j.bytes)) = some (some ti145.zero, ti145.size, ti145.bytes) := congrArg (Option.map fun j => (j.zero, j.size, j.bytes)) Tryz.type145
theorem ti145_ok : TIok Tryz.prog 145 ti145 := tiok Tryz.underlying145 ti145_in (fun h => by cases h) (fun _ => rfl)
theorem ti146_in : (Tryz.prog.info? 146).map (fun j => (j.zero, j.size, j.bytes)) = some (some ti146.zero, ti146.size, ti146.bytes) := congrArg (Option.map fun j => (j.zero, j.size, j.bytes)) Tryz.type146
theorem ti146_ok : TIok Tryz.prog 146 ti146 := tiok Tryz.underlying146 ti146_in (fun h => by cases h) (fun _ => rfl)
theorem ti147_in : (Tryz.prog.info? 147).map (fun j => (j.zero, j.size, j.bytes)) = some (some ti147.zero, ti147.size, ti147.bytes) := congrArg (Option.map fun j => (j.zero, j.size, j.bytes)) Tryz.type147
theorem ti147_ok : TIok Tryz.prog 147 ti147 := tiok Tryz.underlying147 ti147_in (fun h => by cases h) (fun _ => rfl)
theorem ti148_in : (Tryz.prog.info? 148).map (fun j => (j.zero, j.size, j.bytes)) = some (some ti148.zero, ti148.size, ti148.bytes) := congrArg (Option.map fun j => (j.zero, j.size, j.bytes)) Tryz.type148
theorem ti148_ok : TIok Tryz.prog 148 ti148 := tiok Tryz.underlying148 ti148_in (fun h => by cases h) (fun _ => rfl)
theorem ti150_in : (Tryz.prog.info? 150).map (fun j => (j.zero, j.size, j.bytes)) = some (some ti150.zero, ti150.size, ti150.bytes) := congrArg (Option.map fun j => (j.zero, j.size, j.bytes)) Tryz.type150
theorem ti150_ok : TIok Tryz.prog 150 ti150 := tiok Tryz.underlying150 ti150_in (fun h => by cases h) (fun _ => rfl)
theorem ti151_in : (Tryz.prog.info? 151).map (fun j => (j.zero, j.size, j.bytes)) = some (some ti151.zero, ti151.size, ti151.bytes) := congrArg (Option.map fun j => (j.zero, j.size, j.bytes)) Tryz.type151
theorem ti151_ok : TIok Tryz.prog 151 ti151 := tiok Tryz.underlying151 ti151_in (fun h => by cases h) (fun _ => rfl)
theorem ti152_in : (Tryz.prog.info? 152).map (fun j => (j.zero, j.size, j.bytes)) = some (some ti152.zero, ti152.size, ti152.bytes) := congrArg (Option.map fun j => (j.zero, j.size, j.bytes)) Tryz.type152
theorem ti152_ok : TIok Tryz.prog 152 ti152 := tiok Tryz.underlying152 ti152_in (fun h => by cases h) (fun _ => rfl)
theorem ti153_in : (Tryz.prog.info? 153).map (fun j => (j.zero, j.size, j.bytes)) = some (some ti153.zero, ti153.size, ti153.bytes) := congrArg (Option.map fun j => (j.zero, j.size, j.bytes)) Tryz.type153
theorem ti153_ok : TIok Tryz.prog 153 ti153 := tiok Tryz.underlying153 ti153_in (fun h => by cases h) (fun _ => rfl)
theorem ti154_in : (Tryz.prog.info? 154).map (fun j => (j.zero, j.size, j.bytes)) = some (some ti154.zero, ti154.size, ti154.bytes) := congrArg (Option.map fun j => (j.zero, j.size, j.bytes)) Tryz.type154
theorem ti154_ok : TIok Tryz.prog 154 ti154 := tiok Tryz.underlying154 ti154_in (fun h => by cases h) (fun _ => rfl)
theorem ti155_in : (Tryz.prog.info? 155).map (fun j => (j.zero, j.size, j.bytes)) = some (some ti155.zero, ti155.size, ti155.bytes) := congrArg (Option.map fun j => (j.zero, j.size, j.bytes)) Tryz.type155
theorem ti155_ok : TIok Tryz.prog 155 ti155 := tiok Tryz.underlying155 ti155_in (fun h => by cases h) (fun _ => rfl)
theorem ti156_in : (Tryz.prog.info? 156).map (fun j => (j.zero, j.size, j.bytes)) = some (some ti156.zero, ti156.size, ti156.bytes) := congrArg (Option.map fun j => (j.zero, j.size, j.bytes)) Tryz.type156
theorem ti156_ok : TIok Tryz.prog 156 ti156 := tiok Tryz.underlying156 ti156_in (fun h => by cases h) (fun _ => rfl)
theorem ti157_in : (Tryz.prog.info? 157).map (fun j => (j.zero, j.size, j.bytes)) = some (some ti157.zero, ti157.size, ti157.bytes) := congrArg (Option.map fun j => (j.zero, j.size, j.bytes)) Tryz.type157
theorem ti157_ok : TIok Tryz.prog 157 ti157 := tiok Tryz.underlying157 ti157_in (fun h => by cases h) (fun _ => rfl)
theorem ti158_in : (Tryz.prog.info? 158).map (fun j => (j.zero, j.size, j.bytes)) = some (some ti158.zero, ti158.size, ti158.bytes) := congrArg (Option.map fun j => (j.zero, j.size, j.bytes)) Tryz.type158
theorem ti158_ok : TIok Tryz.prog 158 ti158 := tiok Tryz.underlying158 ti158_in (fun h => by cases h) (fun _ => rfl)
theorem ti159_in : (Tryz.prog.info? 159).map (fun j => (j.zero, j.size, j.bytes)) = some (some ti159.zero, ti159.size, ti159.bytes) := congrArg (Option.map fun j => (j.zero, j.size, j.bytes)) Tryz.type159
theorem ti159_ok : TIok Tryz.prog 159 ti159 := tiok Tryz.underlying159 ti159_in (fun h => by cases h) (fun _ => rfl)
theorem ti160_in : (Tryz.prog.info? 160).map (fun j => (j.zero, j.size, j.bytes)) = some (some ti160.zero, ti160.size, ti160.bytes) := congrArg (Option.map fun j => (j.zero, j.size, j.bytes)) Tryz.type160
theorem ti160_ok : TIok Tryz.prog 160 ti160 := tiok Tryz.underlying160 ti160_in (fun h => by cases h) (fun _ => rfl)
theorem ti161_in : (Tryz.prog.info? 161).map (fun j => (j.zero, j.size, j.bytes)) = some (some ti161.zero, ti161.size, ti161.bytes) := congrArg (Option.map fun j => (j.zero, j.size, j.bytes)) Tryz.type161
theorem ti161_ok : TIok Tryz.prog 161 ti161 := tiok Tryz.underlying161 ti161_in (fun h => by cases h) (fun _ => rfl)
theorem ti162_in : (Tryz.prog.info? 162).map (fun j => (j.zero, j.size, j.bytes)) = some (some ti162.zero, ti162.size, ti162.bytes) := congrArg (Option.map fun j => (j.zero, j.size, j.bytes)) Tryz.type162
theorem ti162_ok : TIok Tryz.prog 162 ti162 := tiok Tryz.underlying162 ti162_in (fun h => by cases h) (fun _ => rfl)
theorem ti164_in : (Tryz.prog.info? 164).map (fun j => (j.zero, j.size, j.bytes)) = some (some ti164.zero, ti164.size, ti164.bytes) := congrArg (Option.map fun j => (j.zero, j.size, j.bytes)) Tryz.type164
theorem ti164_ok : TIok Tryz.prog 164 ti164 := tiok Tryz.underlying164 ti164_in (fun h => by cases h) (fun _ => rfl)
theorem ti165_in : (Tryz.prog.info? 165).map (fun j => (j.zero, j.size, j.bytes)) = some (some ti165.zero, ti165.size, ti165.bytes) := congrArg (Option.map fun j => (j.zero, j.size, j.bytes)) Tryz.type165
theorem ti165_ok : TIok Tryz.prog 165 ti165 := tiok Tryz.underlying165 ti165_in (fun h => by cases h) (fun _ => rfl)
theorem ti168_in : (Tryz.prog.info? 168).map (fun j => (j.zero, j.size, j.bytes)) = some (some ti168.zero, ti168.size, ti168.bytes) := congrArg (Option.map fun j => (j.zero, j.size, j.bytes)) Tryz.type168
theorem ti168_ok : TIok Tryz.prog 168 ti168 := tiok Tryz.underlying168 ti168_in (fun h => by cases h) (fun h => by cases h)
theorem ti169_in : (Tryz.prog.info? 169).map (fun j => (j.zero, j.size, j.bytes)) = some (some ti169.zero, ti169.size, ti169.bytes) := congrArg (Option.map fun j => (j.zero, j.size, j.bytes)) Tryz.type169
theorem ti169_ok : TIok Tryz.prog 169 ti169 := tiok Tryz.underlying169 ti169_in (fun h => by cases h) (fun h => by cases h)
theorem ti170_in : (Tryz.prog.info? 170).map (fun j => (j.zero, j.size, j.bytes)) = some (some ti170.zero, ti170.size, ti170.bytes) := congrArg (Option.map fun j => (j.zero, j.size, j.bytes)) Tryz.type170
theorem ti170_ok : TIok Tryz.prog 170 ti170 := tiok Tryz.underlying170 ti170_in (fun h => by cases h) (fun h => by cases h)
theorem ti171_in : (Tryz.prog.info? 171).map (fun j => (j.zero, j.size, j.bytes)) = some (some ti171.zero, ti171.size, ti171.bytes) := congrArg (Option.map fun j => (j.zero, j.size, j.bytes)) Tryz.type171
theorem ti171_ok : TIok Tryz.prog 171 ti171 := tiok Tryz.underlying171 ti171_in (fun h => by cases h) (fun _ => rfl)
theorem ti174_in : (Tryz.prog.info? 174).map (fun j => (j.zero, j.size, j.bytes)) = some (some ti174.zero, ti174.size, ti174.bytes) := congrArg (Option.map fun j => (j.zero, j.size, j.bytes)) Tryz.type174
theorem ti174_ok : TIok Tryz.prog 174 ti174 := tiok Tryz.underlying174 ti174_in (fun h => by cases h) (fun _ => rfl)
theorem ti175_in : (Tryz.prog.info? 175).map (fun j => (j.zero, j.size, j.bytes)) = some (some ti175.zero, ti175.size, ti175.bytes) := congrArg (Option.map fun j => (j.zero, j.size, j.bytes)) Tryz.type175
theorem ti175_ok : TIok Tryz.prog 175 ti175 := tiok Tryz.underlying175 ti175_in (fun h => by cases h) (fun _ => rfl)
theorem ti178_in : (Tryz.prog.info? 178).map (fun j => (j.zero, j.size, j.bytes)) = some (some ti178.zero, ti178.size, ti178.bytes) := congrArg (Option.map fun j => (j.zero, j.size, j.bytes)) Tryz.type178
theorem ti178_ok : TIok Tryz.prog 178 ti178 := tiok Tryz.underlying178 ti178_in (fun h => by cases h) (fun h => by cases h)
theorem tab_ok : TabOk Tryz.prog tab := ⟨ti1_ok, ti2_ok, ti3_ok, ti4_ok, ti5_ok, ti7_ok, ti8_ok, ti9_ok, ti10_ok, ti11_ok, ti12_ok, ti13_ok, ti14_ok, ti15_ok, ti16_ok, ti17_ok, ti18_ok, ti19_ok, ti21_ok, ti22_ok, ti23_ok, ti24_ok, ti25_ok, ti26_ok, ti27_ok, ti28_ok, ti29_ok, ti30_ok, ti31_ok, ti32_ok, ti33_ok, ti34_ok, ti35_ok, ti36_ok, ti37_ok, ti38_ok, ti39_ok, ti40_ok, ti41_ok, ti42_ok, ti43_ok, ti44_ok, ti45_ok, ti46_ok, ti47_ok, ti49_ok, ti50_ok, ti52_ok, ti53_ok, ti54_ok, ti55_ok, ti56_ok, ti57_ok, ti58_ok, ti59_ok, ti61_ok, ti62_ok, ti63_ok, ti64_ok, ti65_ok, ti66_ok, ti67_ok, ti68_ok, ti69_ok, ti70_ok, ti71_ok, ti73_ok, ti74_ok, ti75_ok, ti76_ok, ti77_ok, ti78_ok, ti79_ok, ti80_ok, ti81_ok, ti83_ok, ti84_ok, ti85_ok, ti86_ok, ti87_ok, ti88_ok, ti89_ok, ti90_ok, ti91_ok, ti92_ok, ti93_ok, ti94_ok, ti95_ok, ti96_ok, ti97_ok, ti98_ok, ti99_ok, ti100_ok, ti101_ok, ti102_ok, ti103_ok, ti104_ok, ti105_ok, ti106_ok, ti107_ok, ti108_ok, ti110_ok, ti111_ok, ti112_ok, ti113_ok, ti114_ok, ti115_ok, ti116_ok, ti117_ok, ti118_ok, ti119_ok, ti120_ok, ti121_ok, ti122_ok, ti123_ok, ti124_ok, ti125_ok, ti126_ok, ti127_ok, ti128_ok, ti129_ok, ti130_ok, ti131_ok, ti132_ok, ti133_ok, ti134_ok, ti135_ok, ti136_ok, ti137_ok, ti138_ok, ti139_ok, ti140_ok, ti141_ok, ti142_ok, ti143_ok, ti144_ok, ti145_ok, ti146_ok, ti147_ok, ti148_ok, ti150_ok, ti151_ok, ti152_ok, ti153_ok, ti154_ok, ti155_ok, ti156_ok, ti157_ok, ti158_ok, ti159_ok, ti160_ok, ti161_ok, ti162_ok, ti164_ok, ti165_ok, ti168_ok, ti169_ok, ti170_ok, ti171_ok, ti174_ok, ti175_ok, ti178_ok, trivial⟩
end Go.Proofs.YtmahldelmbhjfaaGreat.Sy
