/- The program's types, as a table. Written by a program of mine (tab.py) off the loaded program. -/
import Derived.Test.YtcjiaiojkciheaaSyF
import Derived.Test.YtcjiaiojkciheaaRows
namespace Go.Proofs.Ytcjiaiojkciheaa.Sy
open Go
set_option maxRecDepth 100000
def ti1 : TI := ⟨(TypeDesc.func #[] #[] false), 1, 8, Value.nilFunc, false⟩
def ti2 : TI := ⟨(TypeDesc.int IntKind.i64), 1, 8, (Value.int IntKind.i64 0), false⟩
def ti3 : TI := ⟨(TypeDesc.int IntKind.i64), 1, 8, (Value.int IntKind.i64 0), false⟩
def ti4 : TI := ⟨TypeDesc.bool, 1, 1, (Value.bool false), false⟩
def ti5 : TI := ⟨(TypeDesc.int IntKind.u8), 1, 1, (Value.int IntKind.u8 0), false⟩
def ti7 : TI := ⟨(TypeDesc.struct #[{ name := "x", type := 2, offset := 0, embedded := false, tag := "", pkgPath := "runtime", byteOffset := 0 }, { name := "y", type := 3, offset := 1, embedded := false, tag := "", pkgPath := "runtime", byteOffset := 8 }, { name := "signed", type := 4, offset := 2, embedded := false, tag := "", pkgPath := "runtime", byteOffset := 16 }, { name := "code", type := 6, offset := 3, embedded := false, tag := "", pkgPath := "runtime", byteOffset := 17 }]), 4, 24, (Value.agg #[Value.int IntKind.i64 0, Value.int IntKind.i64 0, Value.bool false, Value.int IntKind.u8 0]), false⟩
def ti8 : TI := ⟨(TypeDesc.struct #[{ name := "x", type := 2, offset := 0, embedded := false, tag := "", pkgPath := "runtime", byteOffset := 0 }, { name := "y", type := 3, offset := 1, embedded := false, tag := "", pkgPath := "runtime", byteOffset := 8 }, { name := "signed", type := 4, offset := 2, embedded := false, tag := "", pkgPath := "runtime", byteOffset := 16 }, { name := "code", type := 6, offset := 3, embedded := false, tag := "", pkgPath := "runtime", byteOffset := 17 }]), 4, 24, (Value.agg #[Value.int IntKind.i64 0, Value.int IntKind.i64 0, Value.bool false, Value.int IntKind.u8 0]), false⟩
def ti9 : TI := ⟨TypeDesc.string, 1, 16, (Value.string { data := #[] }), false⟩
def ti10 : TI := ⟨TypeDesc.string, 1, 16, (Value.string { data := #[] }), false⟩
def ti11 : TI := ⟨TypeDesc.string, 1, 16, (Value.string { data := #[] }), false⟩
def ti12 : TI := ⟨(TypeDesc.int IntKind.u64), 1, 8, (Value.int IntKind.u64 0), false⟩
def ti13 : TI := ⟨(TypeDesc.struct #[{ name := "msg", type := 9, offset := 0, embedded := false, tag := "", pkgPath := "runtime", byteOffset := 0 }, { name := "addr", type := 12, offset := 1, embedded := false, tag := "", pkgPath := "runtime", byteOffset := 16 }]), 2, 24, (Value.agg #[Value.string { data := #[] }, Value.int IntKind.u64 0]), false⟩
def ti14 : TI := ⟨(TypeDesc.struct #[{ name := "msg", type := 9, offset := 0, embedded := false, tag := "", pkgPath := "runtime", byteOffset := 0 }, { name := "addr", type := 12, offset := 1, embedded := false, tag := "", pkgPath := "runtime", byteOffset := 16 }]), 2, 24, (Value.agg #[Value.string { data := #[] }, Value.int IntKind.u64 0]), false⟩
def ti15 : TI := ⟨(TypeDesc.pointer 151), 1, 8, (Value.pointer none), false⟩
def ti16 : TI := ⟨(TypeDesc.pointer 154), 1, 8, (Value.pointer none), false⟩
def ti17 : TI := ⟨(TypeDesc.pointer 163), 1, 8, (Value.pointer none), false⟩
noncomputable def ti18 : TI := ⟨Try.t18.desc, 1, 8, (Value.agg #[Value.pointer none]), false⟩
noncomputable def ti19 : TI := ⟨Try.t18.desc, 1, 8, (Value.agg #[Value.pointer none]), false⟩
def ti21 : TI := ⟨(TypeDesc.int IntKind.i32), 1, 4, (Value.int IntKind.i32 0), false⟩
def ti22 : TI := ⟨(TypeDesc.slice 56), 1, 24, (Value.slice none 0 0), false⟩
def ti23 : TI := ⟨(TypeDesc.struct #[{ name := "Ops", type := 22, offset := 0, embedded := false, tag := "", pkgPath := "", byteOffset := 0 }]), 1, 24, (Value.agg #[Value.slice none 0 0]), false⟩
def ti24 : TI := ⟨(TypeDesc.struct #[{ name := "Ops", type := 22, offset := 0, embedded := false, tag := "", pkgPath := "", byteOffset := 0 }]), 1, 24, (Value.agg #[Value.slice none 0 0]), false⟩
def ti25 : TI := ⟨(TypeDesc.struct #[{ name := "Source", type := 3, offset := 0, embedded := false, tag := "", pkgPath := "", byteOffset := 0 }, { name := "Key", type := 3, offset := 1, embedded := false, tag := "", pkgPath := "", byteOffset := 8 }, { name := "Value", type := 2, offset := 2, embedded := false, tag := "", pkgPath := "", byteOffset := 16 }]), 3, 24, (Value.agg #[Value.int IntKind.i64 0, Value.int IntKind.i64 0, Value.int IntKind.i64 0]), true⟩
def ti26 : TI := ⟨(TypeDesc.struct #[{ name := "Source", type := 3, offset := 0, embedded := false, tag := "", pkgPath := "", byteOffset := 0 }, { name := "Key", type := 3, offset := 1, embedded := false, tag := "", pkgPath := "", byteOffset := 8 }, { name := "Value", type := 2, offset := 2, embedded := false, tag := "", pkgPath := "", byteOffset := 16 }]), 3, 24, (Value.agg #[Value.int IntKind.i64 0, Value.int IntKind.i64 0, Value.int IntKind.i64 0]), true⟩
def ti27 : TI := ⟨(TypeDesc.func #[] #[4] false), 1, 8, Value.nilFunc, false⟩
def ti28 : TI := ⟨(TypeDesc.func #[24] #[4] false), 1, 8, Value.nilFunc, false⟩
def ti29 : TI := ⟨(TypeDesc.func #[24] #[24] false), 1, 8, Value.nilFunc, false⟩
def ti30 : TI := ⟨(TypeDesc.int IntKind.i64), 1, 8, (Value.int IntKind.i64 0), false⟩
def ti32 : TI := ⟨(TypeDesc.func #[24, 3, 26] #[4, 30] false), 1, 8, Value.nilFunc, false⟩
def ti33 : TI := ⟨(TypeDesc.slice 3), 1, 24, (Value.slice none 0 0), false⟩
def ti35 : TI := ⟨(TypeDesc.func #[24, 3, 26] #[33, 30] false), 1, 8, Value.nilFunc, false⟩
def ti37 : TI := ⟨(TypeDesc.func #[24] #[3, 30] false), 1, 8, Value.nilFunc, false⟩
def ti38 : TI := ⟨(TypeDesc.slice 43), 1, 24, (Value.slice none 0 0), false⟩
def ti39 : TI := ⟨(TypeDesc.func #[24] #[38] false), 1, 8, Value.nilFunc, false⟩
def ti40 : TI := ⟨(TypeDesc.func #[26] #[4] false), 1, 8, Value.nilFunc, false⟩
def ti41 : TI := ⟨(TypeDesc.func #[24, 43, 3] #[4] false), 1, 8, Value.nilFunc, false⟩
def ti42 : TI := ⟨(TypeDesc.struct #[{ name := "Op", type := 3, offset := 0, embedded := false, tag := "", pkgPath := "", byteOffset := 0 }, { name := "Index", type := 3, offset := 1, embedded := false, tag := "", pkgPath := "", byteOffset := 8 }]), 2, 16, (Value.agg #[Value.int IntKind.i64 0, Value.int IntKind.i64 0]), true⟩
def ti43 : TI := ⟨(TypeDesc.struct #[{ name := "Op", type := 3, offset := 0, embedded := false, tag := "", pkgPath := "", byteOffset := 0 }, { name := "Index", type := 3, offset := 1, embedded := false, tag := "", pkgPath := "", byteOffset := 8 }]), 2, 16, (Value.agg #[Value.int IntKind.i64 0, Value.int IntKind.i64 0]), true⟩
def ti44 : TI := ⟨(TypeDesc.func #[3] #[3] false), 1, 8, Value.nilFunc, false⟩
def ti45 : TI := ⟨(TypeDesc.func #[33, 33] #[4] false), 1, 8, Value.nilFunc, false⟩
def ti46 : TI := ⟨(TypeDesc.func #[24, 3, 26] #[33] false), 1, 8, Value.nilFunc, false⟩
def ti47 : TI := ⟨(TypeDesc.func #[24, 3, 26] #[4] false), 1, 8, Value.nilFunc, false⟩
def ti48 : TI := ⟨(TypeDesc.slice 58), 1, 24, (Value.slice none 0 0), false⟩
def ti50 : TI := ⟨(TypeDesc.func #[24] #[48, 30] false), 1, 8, Value.nilFunc, false⟩
def ti52 : TI := ⟨(TypeDesc.func #[24] #[38, 30] false), 1, 8, Value.nilFunc, false⟩
def ti53 : TI := ⟨(TypeDesc.map 3 4), 1, 8, (Value.map none), false⟩
def ti54 : TI := ⟨(TypeDesc.func #[24, 3] #[33, 30] false), 1, 8, Value.nilFunc, false⟩
def ti55 : TI := ⟨(TypeDesc.struct #[{ name := "Tag", type := 3, offset := 0, embedded := false, tag := "", pkgPath := "", byteOffset := 0 }, { name := "Width", type := 3, offset := 1, embedded := false, tag := "", pkgPath := "", byteOffset := 8 }, { name := "Inputs", type := 33, offset := 2, embedded := false, tag := "", pkgPath := "", byteOffset := 16 }, { name := "A", type := 2, offset := 3, embedded := false, tag := "", pkgPath := "", byteOffset := 40 }, { name := "B", type := 2, offset := 4, embedded := false, tag := "", pkgPath := "", byteOffset := 48 }]), 5, 56, (Value.agg #[Value.int IntKind.i64 0, Value.int IntKind.i64 0, Value.slice none 0 0, Value.int IntKind.i64 0, Value.int IntKind.i64 0]), false⟩
def ti56 : TI := ⟨(TypeDesc.struct #[{ name := "Tag", type := 3, offset := 0, embedded := false, tag := "", pkgPath := "", byteOffset := 0 }, { name := "Width", type := 3, offset := 1, embedded := false, tag := "", pkgPath := "", byteOffset := 8 }, { name := "Inputs", type := 33, offset := 2, embedded := false, tag := "", pkgPath := "", byteOffset := 16 }, { name := "A", type := 2, offset := 3, embedded := false, tag := "", pkgPath := "", byteOffset := 40 }, { name := "B", type := 2, offset := 4, embedded := false, tag := "", pkgPath := "", byteOffset := 48 }]), 5, 56, (Value.agg #[Value.int IntKind.i64 0, Value.int IntKind.i64 0, Value.slice none 0 0, Value.int IntKind.i64 0, Value.int IntKind.i64 0]), false⟩
def ti57 : TI := ⟨(TypeDesc.struct #[{ name := "From", type := 3, offset := 0, embedded := false, tag := "", pkgPath := "", byteOffset := 0 }, { name := "To", type := 3, offset := 1, embedded := false, tag := "", pkgPath := "", byteOffset := 8 }]), 2, 16, (Value.agg #[Value.int IntKind.i64 0, Value.int IntKind.i64 0]), true⟩
def ti58 : TI := ⟨(TypeDesc.struct #[{ name := "From", type := 3, offset := 0, embedded := false, tag := "", pkgPath := "", byteOffset := 0 }, { name := "To", type := 3, offset := 1, embedded := false, tag := "", pkgPath := "", byteOffset := 8 }]), 2, 16, (Value.agg #[Value.int IntKind.i64 0, Value.int IntKind.i64 0]), true⟩
def ti59 : TI := ⟨(TypeDesc.func #[24, 43] #[3, 30] false), 1, 8, Value.nilFunc, false⟩
def ti60 : TI := ⟨(TypeDesc.func #[24] #[33, 30] false), 1, 8, Value.nilFunc, false⟩
def ti61 : TI := ⟨(TypeDesc.func #[24] #[48] false), 1, 8, Value.nilFunc, false⟩
def ti62 : TI := ⟨(TypeDesc.func #[24, 3] #[33] false), 1, 8, Value.nilFunc, false⟩
def ti63 : TI := ⟨(TypeDesc.func #[24, 43] #[4] false), 1, 8, Value.nilFunc, false⟩
def ti64 : TI := ⟨(TypeDesc.func #[24, 43, 43] #[33] false), 1, 8, Value.nilFunc, false⟩
def ti65 : TI := ⟨(TypeDesc.func #[24, 3] #[4] false), 1, 8, Value.nilFunc, false⟩
def ti66 : TI := ⟨(TypeDesc.map 3 3), 1, 8, (Value.map none), false⟩
def ti67 : TI := ⟨(TypeDesc.func #[24, 26] #[4] false), 1, 8, Value.nilFunc, false⟩
def ti68 : TI := ⟨(TypeDesc.func #[24, 69] #[4, 30] false), 1, 8, Value.nilFunc, false⟩
def ti69 : TI := ⟨(TypeDesc.func #[] #[4, 30] false), 1, 8, Value.nilFunc, false⟩
def ti70 : TI := ⟨(TypeDesc.func #[24, 79] #[33, 30] false), 1, 8, Value.nilFunc, false⟩
def ti71 : TI := ⟨(TypeDesc.func #[26] #[3, 30] false), 1, 8, Value.nilFunc, false⟩
def ti72 : TI := ⟨(TypeDesc.func #[24, 78] #[33] false), 1, 8, Value.nilFunc, false⟩
def ti73 : TI := ⟨(TypeDesc.int IntKind.u64), 1, 8, (Value.int IntKind.u64 0), false⟩
def ti74 : TI := ⟨(TypeDesc.int IntKind.u64), 1, 8, (Value.int IntKind.u64 0), false⟩
noncomputable def ti75 : TI := ⟨Try.t75.desc, 3, 24, (Value.agg #[Value.int IntKind.i64 0, Value.int IntKind.i64 0, Value.int IntKind.u64 0]), true⟩
noncomputable def ti76 : TI := ⟨Try.t75.desc, 3, 24, (Value.agg #[Value.int IntKind.i64 0, Value.int IntKind.i64 0, Value.int IntKind.u64 0]), true⟩
def ti77 : TI := ⟨(TypeDesc.func #[3] #[4] false), 1, 8, Value.nilFunc, false⟩
def ti78 : TI := ⟨(TypeDesc.func #[76] #[4] false), 1, 8, Value.nilFunc, false⟩
def ti79 : TI := ⟨(TypeDesc.func #[] #[33, 30] false), 1, 8, Value.nilFunc, false⟩
def ti80 : TI := ⟨(TypeDesc.func #[24, 3] #[30] false), 1, 8, Value.nilFunc, false⟩
def ti81 : TI := ⟨(TypeDesc.func #[3, 3] #[3] false), 1, 8, Value.nilFunc, false⟩
def ti82 : TI := ⟨(TypeDesc.func #[24, 86] #[48, 30] false), 1, 8, Value.nilFunc, false⟩
def ti83 : TI := ⟨(TypeDesc.func #[107] #[] false), 1, 8, Value.nilFunc, false⟩
def ti84 : TI := ⟨(TypeDesc.func #[107] #[] false), 1, 8, Value.nilFunc, false⟩
def ti85 : TI := ⟨(TypeDesc.func #[24] #[84] false), 1, 8, Value.nilFunc, false⟩
def ti86 : TI := ⟨(TypeDesc.func #[] #[48, 30] false), 1, 8, Value.nilFunc, false⟩
def ti87 : TI := ⟨(TypeDesc.func #[24, 88] #[38, 30] false), 1, 8, Value.nilFunc, false⟩
def ti88 : TI := ⟨(TypeDesc.func #[] #[38, 30] false), 1, 8, Value.nilFunc, false⟩
def ti89 : TI := ⟨(TypeDesc.func #[24, 3, 90] #[33, 30] false), 1, 8, Value.nilFunc, false⟩
def ti90 : TI := ⟨(TypeDesc.func #[76] #[3] false), 1, 8, Value.nilFunc, false⟩
def ti91 : TI := ⟨(TypeDesc.func #[24, 95] #[3, 30] false), 1, 8, Value.nilFunc, false⟩
def ti92 : TI := ⟨(TypeDesc.func #[110] #[] false), 1, 8, Value.nilFunc, false⟩
def ti93 : TI := ⟨(TypeDesc.func #[110] #[] false), 1, 8, Value.nilFunc, false⟩
def ti94 : TI := ⟨(TypeDesc.func #[24] #[93] false), 1, 8, Value.nilFunc, false⟩
def ti95 : TI := ⟨(TypeDesc.func #[] #[3, 30] false), 1, 8, Value.nilFunc, false⟩
def ti96 : TI := ⟨(TypeDesc.func #[24, 3, 3] #[4] false), 1, 8, Value.nilFunc, false⟩
def ti97 : TI := ⟨(TypeDesc.func #[99] #[33] false), 1, 8, Value.nilFunc, false⟩
def ti98 : TI := ⟨(TypeDesc.func #[77] #[] false), 1, 8, Value.nilFunc, false⟩
def ti99 : TI := ⟨(TypeDesc.func #[77] #[] false), 1, 8, Value.nilFunc, false⟩
def ti100 : TI := ⟨(TypeDesc.func #[24, 3] #[99] false), 1, 8, Value.nilFunc, false⟩
def ti102 : TI := ⟨(TypeDesc.func #[24, 3] #[43, 30] false), 1, 8, Value.nilFunc, false⟩
def ti103 : TI := ⟨(TypeDesc.func #[26] #[30] false), 1, 8, Value.nilFunc, false⟩
def ti104 : TI := ⟨(TypeDesc.func #[26, 3, 3] #[4] false), 1, 8, Value.nilFunc, false⟩
def ti105 : TI := ⟨(TypeDesc.func #[56, 3] #[4] false), 1, 8, Value.nilFunc, false⟩
def ti106 : TI := ⟨(TypeDesc.func #[33, 3] #[4] false), 1, 8, Value.nilFunc, false⟩
def ti107 : TI := ⟨(TypeDesc.func #[3, 76] #[4] false), 1, 8, Value.nilFunc, false⟩
def ti108 : TI := ⟨(TypeDesc.slice 74), 1, 24, (Value.slice none 0 0), false⟩
def ti109 : TI := ⟨(TypeDesc.func #[24, 43] #[74] false), 1, 8, Value.nilFunc, false⟩
def ti110 : TI := ⟨(TypeDesc.func #[3, 43] #[4] false), 1, 8, Value.nilFunc, false⟩
def ti111 : TI := ⟨(TypeDesc.func #[24, 3, 3] #[30] false), 1, 8, Value.nilFunc, false⟩
def ti112 : TI := ⟨(TypeDesc.func #[3, 3] #[4] false), 1, 8, Value.nilFunc, false⟩
def ti113 : TI := ⟨(TypeDesc.func #[3, 3] #[3, 30] false), 1, 8, Value.nilFunc, false⟩
def ti114 : TI := ⟨(TypeDesc.func #[33, 3] #[3] false), 1, 8, Value.nilFunc, false⟩
def ti115 : TI := ⟨(TypeDesc.func #[56] #[4] false), 1, 8, Value.nilFunc, false⟩
def ti116 : TI := ⟨(TypeDesc.func #[33, 77] #[4] false), 1, 8, Value.nilFunc, false⟩
def ti117 : TI := ⟨(TypeDesc.func #[22, 115] #[4] false), 1, 8, Value.nilFunc, false⟩
def ti118 : TI := ⟨(TypeDesc.func #[33, 3] #[33] false), 1, 8, Value.nilFunc, false⟩
def ti119 : TI := ⟨(TypeDesc.func #[33, 77] #[3] false), 1, 8, Value.nilFunc, false⟩
def ti120 : TI := ⟨(TypeDesc.func #[22, 115] #[3] false), 1, 8, Value.nilFunc, false⟩
def ti121 : TI := ⟨(TypeDesc.func #[3] #[33] false), 1, 8, Value.nilFunc, false⟩
def ti122 : TI := ⟨(TypeDesc.slice 33), 1, 24, (Value.slice none 0 0), false⟩
def ti123 : TI := ⟨(TypeDesc.func #[122] #[33] true), 1, 8, Value.nilFunc, false⟩
def ti124 : TI := ⟨(TypeDesc.func #[33] #[] false), 1, 8, Value.nilFunc, false⟩
def ti125 : TI := ⟨(TypeDesc.func #[33] #[33] false), 1, 8, Value.nilFunc, false⟩
def ti126 : TI := ⟨(TypeDesc.func #[33, 3, 3, 3] #[] false), 1, 8, Value.nilFunc, false⟩
def ti127 : TI := ⟨(TypeDesc.func #[73] #[3] false), 1, 8, Value.nilFunc, false⟩
def ti128 : TI := ⟨(TypeDesc.func #[33, 3, 3] #[] false), 1, 8, Value.nilFunc, false⟩
def ti129 : TI := ⟨(TypeDesc.int IntKind.i64), 1, 8, (Value.int IntKind.i64 0), false⟩
def ti131 : TI := ⟨(TypeDesc.func #[33, 3, 3] #[3, 129] false), 1, 8, Value.nilFunc, false⟩
def ti132 : TI := ⟨(TypeDesc.func #[33, 3, 3] #[4] false), 1, 8, Value.nilFunc, false⟩
def ti133 : TI := ⟨(TypeDesc.func #[33, 3, 3, 3] #[3] false), 1, 8, Value.nilFunc, false⟩
def ti135 : TI := ⟨(TypeDesc.func #[33, 3, 3, 3] #[3, 4] false), 1, 8, Value.nilFunc, false⟩
def ti136 : TI := ⟨(TypeDesc.func #[137] #[3] false), 1, 8, Value.nilFunc, false⟩
def ti137 : TI := ⟨(TypeDesc.int IntKind.u32), 1, 4, (Value.int IntKind.u32 0), false⟩
def ti138 : TI := ⟨(TypeDesc.func #[139] #[3] false), 1, 8, Value.nilFunc, false⟩
def ti139 : TI := ⟨(TypeDesc.int IntKind.u64), 1, 8, (Value.int IntKind.u64 0), false⟩
def ti140 : TI := ⟨(TypeDesc.int IntKind.u64), 1, 8, (Value.int IntKind.u64 0), false⟩
def ti141 : TI := ⟨(TypeDesc.func #[3] #[73] false), 1, 8, Value.nilFunc, false⟩
def ti142 : TI := ⟨(TypeDesc.func #[] #[139] false), 1, 8, Value.nilFunc, false⟩
def ti143 : TI := ⟨(TypeDesc.func #[33, 3, 144] #[3] false), 1, 8, Value.nilFunc, false⟩
def ti144 : TI := ⟨(TypeDesc.pointer 3), 1, 8, (Value.pointer none), false⟩
def ti145 : TI := ⟨(TypeDesc.func #[33, 3, 3, 3, 144] #[3] false), 1, 8, Value.nilFunc, false⟩
def ti146 : TI := ⟨(TypeDesc.pointer 140), 1, 8, (Value.pointer none), false⟩
def ti148 : TI := ⟨(TypeDesc.func #[33, 3, 3, 144] #[3, 3] false), 1, 8, Value.nilFunc, false⟩
def ti149 : TI := ⟨(TypeDesc.func #[] #[9] false), 1, 8, Value.nilFunc, false⟩
def ti152 : TI := ⟨(TypeDesc.array 0 16), 0, 0, (Value.agg #[]), false⟩
def ti153 : TI := ⟨(TypeDesc.struct #[{ name := "_", type := 152, offset := 0, embedded := false, tag := "", pkgPath := "runtime", byteOffset := 0 }]), 0, 0, (Value.agg #[]), false⟩
def ti154 : TI := ⟨(TypeDesc.struct #[{ name := "_", type := 152, offset := 0, embedded := false, tag := "", pkgPath := "runtime", byteOffset := 0 }]), 0, 0, (Value.agg #[]), false⟩
def ti155 : TI := ⟨(TypeDesc.func #[] #[3] false), 1, 8, Value.nilFunc, false⟩
def ti158 : TI := ⟨(TypeDesc.func #[164, 164] #[4] false), 1, 8, Value.nilFunc, false⟩
def ti159 : TI := ⟨(TypeDesc.pointer 5), 1, 8, (Value.pointer none), false⟩
def ti162 : TI := ⟨(TypeDesc.struct #[{ name := "Size_", type := 12, offset := 0, embedded := false, tag := "", pkgPath := "", byteOffset := 0 }, { name := "PtrBytes", type := 12, offset := 1, embedded := false, tag := "", pkgPath := "", byteOffset := 8 }, { name := "Hash", type := 137, offset := 2, embedded := false, tag := "", pkgPath := "", byteOffset := 16 }, { name := "TFlag", type := 156, offset := 3, embedded := false, tag := "", pkgPath := "", byteOffset := 20 }, { name := "Align_", type := 5, offset := 4, embedded := false, tag := "", pkgPath := "", byteOffset := 21 }, { name := "FieldAlign_", type := 5, offset := 5, embedded := false, tag := "", pkgPath := "", byteOffset := 22 }, { name := "Kind_", type := 157, offset := 6, embedded := false, tag := "", pkgPath := "", byteOffset := 23 }, { name := "Equal", type := 158, offset := 7, embedded := false, tag := "", pkgPath := "", byteOffset := 24 }, { name := "GCData", type := 159, offset := 8, embedded := false, tag := "", pkgPath := "", byteOffset := 32 }, { name := "Str", type := 160, offset := 9, embedded := false, tag := "", pkgPath := "", byteOffset := 40 }, { name := "PtrToThis", type := 161, offset := 10, embedded := false, tag := "", pkgPath := "", byteOffset := 44 }]), 11, 48, (Value.agg #[Value.int IntKind.u64 0, Value.int IntKind.u64 0, Value.int IntKind.u32 0, Value.int IntKind.u8 0, Value.int IntKind.u8 0, Value.int IntKind.u8 0, Value.int IntKind.u8 0, Value.nilFunc, Value.pointer none, Value.int IntKind.i32 0, Value.int IntKind.i32 0]), false⟩
noncomputable def tab : Tab := [(1, ti1), (2, ti2), (3, ti3), (4, ti4), (5, ti5), (7, ti7), (8, ti8), (9, ti9), (10, ti10), (11, ti11), (12, ti12), (13, ti13), (14, ti14), (15, ti15), (16, ti16), (17, ti17), (18, ti18), (19, ti19), (21, ti21), (22, ti22), (23, ti23), (24, ti24), (25, ti25), (26, ti26), (27, ti27), (28, ti28), (29, ti29), (30, ti30), (32, ti32), (33, ti33), (35, ti35), (37, ti37), (38, ti38), (39, ti39), (40, ti40), (41, ti41), (42, ti42), (43, ti43), (44, ti44), (45, ti45), (46, ti46), (47, ti47), (48, ti48), (50, ti50), (52, ti52), (53, ti53), (54, ti54), (55, ti55), (56, ti56), (57, ti57), (58, ti58), (59, ti59), (60, ti60), (61, ti61), (62, ti62), (63, ti63), (64, ti64), (65, ti65), (66, ti66), (67, ti67), (68, ti68), (69, ti69), (70, ti70), (71, ti71), (72, ti72), (73, ti73), (74, ti74), (75, ti75), (76, ti76), (77, ti77), (78, ti78), (79, ti79), (80, ti80), (81, ti81), (82, ti82), (83, ti83), (84, ti84), (85, ti85), (86, ti86), (87, ti87), (88, ti88), (89, ti89), (90, ti90), (91, ti91), (92, ti92), (93, ti93), (94, ti94), (95, ti95), (96, ti96), (97, ti97), (98, ti98), (99, ti99), (100, ti100), (102, ti102), (103, ti103), (104, ti104), (105, ti105), (106, ti106), (107, ti107), (108, ti108), (109, ti109), (110, ti110), (111, ti111), (112, ti112), (113, ti113), (114, ti114), (115, ti115), (116, ti116), (117, ti117), (118, ti118), (119, ti119), (120, ti120), (121, ti121), (122, ti122), (123, ti123), (124, ti124), (125, ti125), (126, ti126), (127, ti127), (128, ti128), (129, ti129), (131, ti131), (132, ti132), (133, ti133), (135, ti135), (136, ti136), (137, ti137), (138, ti138), (139, ti139), (140, ti140), (141, ti141), (142, ti142), (143, ti143), (144, ti144), (145, ti145), (146, ti146), (148, ti148), (149, ti149), (152, ti152), (153, ti153), (154, ti154), (155, ti155), (158, ti158), (159, ti159), (162, ti162)]
theorem ti1_in : (Try.prog.info? 1).map (fun j => (j.zero, j.size, j.bytes)) = some (some ti1.zero, ti1.size, ti1.bytes) := congrArg (Option.map fun j => (j.zero, j.size, j.bytes)) Try.type1
theorem ti1_ok : TIok Try.prog 1 ti1 := tiok Try.underlying1 ti1_in (fun h => by cases h) (fun _ => rfl)
theorem ti2_in : (Try.prog.info? 2).map (fun j => (j.zero, j.size, j.bytes)) = some (some ti2.zero, ti2.size, ti2.bytes) := congrArg (Option.map fun j => (j.zero, j.size, j.bytes)) Try.type2
theorem ti2_ok : TIok Try.prog 2 ti2 := tiok Try.underlying2 ti2_in (fun h => by cases h) (fun _ => rfl)
theorem ti3_in : (Try.prog.info? 3).map (fun j => (j.zero, j.size, j.bytes)) = some (some ti3.zero, ti3.size, ti3.bytes) := congrArg (Option.map fun j => (j.zero, j.size, j.bytes)) Try.type3
theorem ti3_ok : TIok Try.prog 3 ti3 := tiok Try.underlying3 ti3_in (fun h => by cases h) (fun _ => rfl)
theorem ti4_in : (Try.prog.info? 4).map (fun j => (j.zero, j.size, j.bytes)) = some (some ti4.zero, ti4.size, ti4.bytes) := congrArg (Option.map fun j => (j.zero, j.size, j.bytes)) Try.type4
theorem ti4_ok : TIok Try.prog 4 ti4 := tiok Try.underlying4 ti4_in (fun h => by cases h) (fun _ => rfl)
theorem ti5_in : (Try.prog.info? 5).map (fun j => (j.zero, j.size, j.bytes)) = some (some ti5.zero, ti5.size, ti5.bytes) := congrArg (Option.map fun j => (j.zero, j.size, j.bytes)) Try.type5
theorem ti5_ok : TIok Try.prog 5 ti5 := tiok Try.underlying5 ti5_in (fun h => by cases h) (fun _ => rfl)
theorem ti7_in : (Try.prog.info? 7).map (fun j => (j.zero, j.size, j.bytes)) = some (some ti7.zero, ti7.size, ti7.bytes) := congrArg (Option.map fun j => (j.zero, j.size, j.bytes)) Try.type7
theorem ti7_ok : TIok Try.prog 7 ti7 := tiok Try.underlying7 ti7_in (fun h => by cases h) (fun h => by cases h)
theorem ti8_in : (Try.prog.info? 8).map (fun j => (j.zero, j.size, j.bytes)) = some (some ti8.zero, ti8.size, ti8.bytes) := congrArg (Option.map fun j => (j.zero, j.size, j.bytes)) Try.type8
theorem ti8_ok : TIok Try.prog 8 ti8 := tiok Try.underlying8 ti8_in (fun h => by cases h) (fun h => by cases h)
theorem ti9_in : (Try.prog.info? 9).map (fun j => (j.zero, j.size, j.bytes)) = some (some ti9.zero, ti9.size, ti9.bytes) := congrArg (Option.map fun j => (j.zero, j.size, j.bytes)) Try.type9
theorem ti9_ok : TIok Try.prog 9 ti9 := tiok Try.underlying9 ti9_in (fun h => by cases h) (fun _ => rfl)
theorem ti10_in : (Try.prog.info? 10).map (fun j => (j.zero, j.size, j.bytes)) = some (some ti10.zero, ti10.size, ti10.bytes) := congrArg (Option.map fun j => (j.zero, j.size, j.bytes)) Try.type10
theorem ti10_ok : TIok Try.prog 10 ti10 := tiok Try.underlying10 ti10_in (fun h => by cases h) (fun _ => rfl)
theorem ti11_in : (Try.prog.info? 11).map (fun j => (j.zero, j.size, j.bytes)) = some (some ti11.zero, ti11.size, ti11.bytes) := congrArg (Option.map fun j => (j.zero, j.size, j.bytes)) Try.type11
theorem ti11_ok : TIok Try.prog 11 ti11 := tiok Try.underlying11 ti11_in (fun h => by cases h) (fun _ => rfl)
theorem ti12_in : (Try.prog.info? 12).map (fun j => (j.zero, j.size, j.bytes)) = some (some ti12.zero, ti12.size, ti12.bytes) := congrArg (Option.map fun j => (j.zero, j.size, j.bytes)) Try.type12
theorem ti12_ok : TIok Try.prog 12 ti12 := tiok Try.underlying12 ti12_in (fun h => by cases h) (fun _ => rfl)
theorem ti13_in : (Try.prog.info? 13).map (fun j => (j.zero, j.size, j.bytes)) = some (some ti13.zero, ti13.size, ti13.bytes) := congrArg (Option.map fun j => (j.zero, j.size, j.bytes)) Try.type13
theorem ti13_ok : TIok Try.prog 13 ti13 := tiok Try.underlying13 ti13_in (fun h => by cases h) (fun h => by cases h)
theorem ti14_in : (Try.prog.info? 14).map (fun j => (j.zero, j.size, j.bytes)) = some (some ti14.zero, ti14.size, ti14.bytes) := congrArg (Option.map fun j => (j.zero, j.size, j.bytes)) Try.type14
theorem ti14_ok : TIok Try.prog 14 ti14 := tiok Try.underlying14 ti14_in (fun h => by cases h) (fun h => by cases h)
theorem ti15_in : (Try.prog.info? 15).map (fun j => (j.zero, j.size, j.bytes)) = some (some ti15.zero, ti15.size, ti15.bytes) := congrArg (Option.map fun j => (j.zero, j.size, j.bytes)) Try.type15
theorem ti15_ok : TIok Try.prog 15 ti15 := tiok Try.underlying15 ti15_in (fun h => by cases h) (fun _ => rfl)
theorem ti16_in : (Try.prog.info? 16).map (fun j => (j.zero, j.size, j.bytes)) = some (some ti16.zero, ti16.size, ti16.bytes) := congrArg (Option.map fun j => (j.zero, j.size, j.bytes)) Try.type16
theorem ti16_ok : TIok Try.prog 16 ti16 := tiok Try.underlying16 ti16_in (fun h => by cases h) (fun _ => rfl)
theorem ti17_in : (Try.prog.info? 17).map (fun j => (j.zero, j.size, j.bytes)) = some (some ti17.zero, ti17.size, ti17.bytes) := congrArg (Option.map fun j => (j.zero, j.size, j.bytes)) Try.type17
theorem ti17_ok : TIok Try.prog 17 ti17 := tiok Try.underlying17 ti17_in (fun h => by cases h) (fun _ => rfl)
theorem ti18_in : (Try.prog.info? 18).map (fun j => (j.zero, j.size, j.bytes)) = some (some ti18.zero, ti18.size, ti18.bytes) := congrArg (Option.map fun j => (j.zero, j.size, j.bytes)) Try.type18
theorem ti18_ok : TIok Try.prog 18 ti18 := tiok Try.underlying18 ti18_in (fun h => by cases h) (fun h => by cases h)
theorem ti19_in : (Try.prog.info? 19).map (fun j => (j.zero, j.size, j.bytes)) = some (some ti19.zero, ti19.size, ti19.bytes) := congrArg (Option.map fun j => (j.zero, j.size, j.bytes)) Try.type19
theorem ti19_ok : TIok Try.prog 19 ti19 := tiok Try.underlying19 ti19_in (fun h => by cases h) (fun h => by cases h)
theorem ti21_in : (Try.prog.info? 21).map (fun j => (j.zero, j.size, j.bytes)) = some (some ti21.zero, ti21.size, ti21.bytes) := congrArg (Option.map fun j => (j.zero, j.size, j.bytes)) Try.type21
theorem ti21_ok : TIok Try.prog 21 ti21 := tiok Try.underlying21 ti21_in (fun h => by cases h) (fun _ => rfl)
theorem ti22_in : (Try.prog.info? 22).map (fun j => (j.zero, j.size, j.bytes)) = some (some ti22.zero, ti22.size, ti22.bytes) := congrArg (Option.map fun j => (j.zero, j.size, j.bytes)) Try.type22
theorem ti22_ok : TIok Try.prog 22 ti22 := tiok Try.underlying22 ti22_in (fun h => by cases h) (fun _ => rfl)
theorem ti23_in : (Try.prog.info? 23).map (fun j => (j.zero, j.size, j.bytes)) = some (some ti23.zero, ti23.size, ti23.bytes) := congrArg (Option.map fun j => (j.zero, j.size, j.bytes)) Try.type23
theorem ti23_ok : TIok Try.prog 23 ti23 := tiok Try.underlying23 ti23_in (fun h => by cases h) (fun h => by cases h)
theorem ti24_in : (Try.prog.info? 24).map (fun j => (j.zero, j.size, j.bytes)) = some (some ti24.zero, ti24.size, ti24.bytes) := congrArg (Option.map fun j => (j.zero, j.size, j.bytes)) Try.type24
theorem ti24_ok : TIok Try.prog 24 ti24 := tiok Try.underlying24 ti24_in (fun h => by cases h) (fun h => by cases h)
theorem ti25_in : (Try.prog.info? 25).map (fun j => (j.zero, j.size, j.bytes)) = some (some ti25.zero, ti25.size, ti25.bytes) := congrArg (Option.map fun j => (j.zero, j.size, j.bytes)) Try.type25
theorem ti25_ok : TIok Try.prog 25 ti25 := tiok Try.underlying25 ti25_in (fun _ => ⟨by kernel_rfl, by kernel_rfl, by kernel_rfl⟩) (fun h => by cases h)
theorem ti26_in : (Try.prog.info? 26).map (fun j => (j.zero, j.size, j.bytes)) = some (some ti26.zero, ti26.size, ti26.bytes) := congrArg (Option.map fun j => (j.zero, j.size, j.bytes)) Try.type26
theorem ti26_ok : TIok Try.prog 26 ti26 := tiok Try.underlying26 ti26_in (fun _ => ⟨by kernel_rfl, by kernel_rfl, by kernel_rfl⟩) (fun h => by cases h)
theorem ti27_in : (Try.prog.info? 27).map (fun j => (j.zero, j.size, j.bytes)) = some (some ti27.zero, ti27.size, ti27.bytes) := congrArg (Option.map fun j => (j.zero, j.size, j.bytes)) Try.type27
theorem ti27_ok : TIok Try.prog 27 ti27 := tiok Try.underlying27 ti27_in (fun h => by cases h) (fun _ => rfl)
theorem ti28_in : (Try.prog.info? 28).map (fun j => (j.zero, j.size, j.bytes)) = some (some ti28.zero, ti28.size, ti28.bytes) := congrArg (Option.map fun j => (j.zero, j.size, j.bytes)) Try.type28
theorem ti28_ok : TIok Try.prog 28 ti28 := tiok Try.underlying28 ti28_in (fun h => by cases h) (fun _ => rfl)
theorem ti29_in : (Try.prog.info? 29).map (fun j => (j.zero, j.size, j.bytes)) = some (some ti29.zero, ti29.size, ti29.bytes) := congrArg (Option.map fun j => (j.zero, j.size, j.bytes)) Try.type29
theorem ti29_ok : TIok Try.prog 29 ti29 := tiok Try.underlying29 ti29_in (fun h => by cases h) (fun _ => rfl)
theorem ti30_in : (Try.prog.info? 30).map (fun j => (j.zero, j.size, j.bytes)) = some (some ti30.zero, ti30.size, ti30.bytes) := congrArg (Option.map fun j => (j.zero, j.size, j.bytes)) Try.type30
theorem ti30_ok : TIok Try.prog 30 ti30 := tiok Try.underlying30 ti30_in (fun h => by cases h) (fun _ => rfl)
theorem ti32_in : (Try.prog.info? 32).map (fun j => (j.zero, j.size, j.bytes)) = some (some ti32.zero, ti32.size, ti32.bytes) := congrArg (Option.map fun j => (j.zero, j.size, j.bytes)) Try.type32
theorem ti32_ok : TIok Try.prog 32 ti32 := tiok Try.underlying32 ti32_in (fun h => by cases h) (fun _ => rfl)
theorem ti33_in : (Try.prog.info? 33).map (fun j => (j.zero, j.size, j.bytes)) = some (some ti33.zero, ti33.size, ti33.bytes) := congrArg (Option.map fun j => (j.zero, j.size, j.bytes)) Try.type33
theorem ti33_ok : TIok Try.prog 33 ti33 := tiok Try.underlying33 ti33_in (fun h => by cases h) (fun _ => rfl)
theorem ti35_in : (Try.prog.info? 35).map (fun j => (j.zero, j.size, j.bytes)) = some (some ti35.zero, ti35.size, ti35.bytes) := congrArg (Option.map fun j => (j.zero, j.size, j.bytes)) Try.type35
theorem ti35_ok : TIok Try.prog 35 ti35 := tiok Try.underlying35 ti35_in (fun h => by cases h) (fun _ => rfl)
theorem ti37_in : (Try.prog.info? 37).map (fun j => (j.zero, j.size, j.bytes)) = some (some ti37.zero, ti37.size, ti37.bytes) := congrArg (Option.map fun j => (j.zero, j.size, j.bytes)) Try.type37
theorem ti37_ok : TIok Try.prog 37 ti37 := tiok Try.underlying37 ti37_in (fun h => by cases h) (fun _ => rfl)
theorem ti38_in : (Try.prog.info? 38).map (fun j => (j.zero, j.size, j.bytes)) = some (some ti38.zero, ti38.size, ti38.bytes) := congrArg (Option.map fun j => (j.zero, j.size, j.bytes)) Try.type38
theorem ti38_ok : TIok Try.prog 38 ti38 := tiok Try.underlying38 ti38_in (fun h => by cases h) (fun _ => rfl)
theorem ti39_in : (Try.prog.info? 39).map (fun j => (j.zero, j.size, j.bytes)) = some (some ti39.zero, ti39.size, ti39.bytes) := congrArg (Option.map fun j => (j.zero, j.size, j.bytes)) Try.type39
theorem ti39_ok : TIok Try.prog 39 ti39 := tiok Try.underlying39 ti39_in (fun h => by cases h) (fun _ => rfl)
theorem ti40_in : (Try.prog.info? 40).map (fun j => (j.zero, j.size, j.bytes)) = some (some ti40.zero, ti40.size, ti40.bytes) := congrArg (Option.map fun j => (j.zero, j.size, j.bytes)) Try.type40
theorem ti40_ok : TIok Try.prog 40 ti40 := tiok Try.underlying40 ti40_in (fun h => by cases h) (fun _ => rfl)
theorem ti41_in : (Try.prog.info? 41).map (fun j => (j.zero, j.size, j.bytes)) = some (some ti41.zero, ti41.size, ti41.bytes) := congrArg (Option.map fun j => (j.zero, j.size, j.bytes)) Try.type41
theorem ti41_ok : TIok Try.prog 41 ti41 := tiok Try.underlying41 ti41_in (fun h => by cases h) (fun _ => rfl)
theorem ti42_in : (Try.prog.info? 42).map (fun j => (j.zero, j.size, j.bytes)) = some (some ti42.zero, ti42.size, ti42.bytes) := congrArg (Option.map fun j => (j.zero, j.size, j.bytes)) Try.type42
theorem ti42_ok : TIok Try.prog 42 ti42 := tiok Try.underlying42 ti42_in (fun _ => ⟨by kernel_rfl, by kernel_rfl, by kernel_rfl⟩) (fun h => by cases h)
theorem ti43_in : (Try.prog.info? 43).map (fun j => (j.zero, j.size, j.bytes)) = some (some ti43.zero, ti43.size, ti43.bytes) := congrArg (Option.map fun j => (j.zero, j.size, j.bytes)) Try.type43
theorem ti43_ok : TIok Try.prog 43 ti43 := tiok Try.underlying43 ti43_in (fun _ => ⟨by kernel_rfl, by kernel_rfl, by kernel_rfl⟩) (fun h => by cases h)
theorem ti44_in : (Try.prog.info? 44).map (fun j => (j.zero, j.size, j.bytes)) = some (some ti44.zero, ti44.size, ti44.bytes) := congrArg (Option.map fun j => (j.zero, j.size, j.bytes)) Try.type44
theorem ti44_ok : TIok Try.prog 44 ti44 := tiok Try.underlying44 ti44_in (fun h => by cases h) (fun _ => rfl)
theorem ti45_in : (Try.prog.info? 45).map (fun j => (j.zero, j.size, j.bytes)) = some (some ti45.zero, ti45.size, ti45.bytes) := congrArg (Option.map fun j => (j.zero, j.size, j.bytes)) Try.type45
theorem ti45_ok : TIok Try.prog 45 ti45 := tiok Try.underlying45 ti45_in (fun h => by cases h) (fun _ => rfl)
theorem ti46_in : (Try.prog.info? 46).map (fun j => (j.zero, j.size, j.bytes)) = some (some ti46.zero, ti46.size, ti46.bytes) := congrArg (Option.map fun j => (j.zero, j.size, j.bytes)) Try.type46
theorem ti46_ok : TIok Try.prog 46 ti46 := tiok Try.underlying46 ti46_in (fun h => by cases h) (fun _ => rfl)
theorem ti47_in : (Try.prog.info? 47).map (fun j => (j.zero, j.size, j.bytes)) = some (some ti47.zero, ti47.size, ti47.bytes) := congrArg (Option.map fun j => (j.zero, j.size, j.bytes)) Try.type47
theorem ti47_ok : TIok Try.prog 47 ti47 := tiok Try.underlying47 ti47_in (fun h => by cases h) (fun _ => rfl)
theorem ti48_in : (Try.prog.info? 48).map (fun j => (j.zero, j.size, j.bytes)) = some (some ti48.zero, ti48.size, ti48.bytes) := congrArg (Option.map fun j => (j.zero, j.size, j.bytes)) Try.type48
theorem ti48_ok : TIok Try.prog 48 ti48 := tiok Try.underlying48 ti48_in (fun h => by cases h) (fun _ => rfl)
theorem ti50_in : (Try.prog.info? 50).map (fun j => (j.zero, j.size, j.bytes)) = some (some ti50.zero, ti50.size, ti50.bytes) := congrArg (Option.map fun j => (j.zero, j.size, j.bytes)) Try.type50
theorem ti50_ok : TIok Try.prog 50 ti50 := tiok Try.underlying50 ti50_in (fun h => by cases h) (fun _ => rfl)
theorem ti52_in : (Try.prog.info? 52).map (fun j => (j.zero, j.size, j.bytes)) = some (some ti52.zero, ti52.size, ti52.bytes) := congrArg (Option.map fun j => (j.zero, j.size, j.bytes)) Try.type52
theorem ti52_ok : TIok Try.prog 52 ti52 := tiok Try.underlying52 ti52_in (fun h => by cases h) (fun _ => rfl)
theorem ti53_in : (Try.prog.info? 53).map (fun j => (j.zero, j.size, j.bytes)) = some (some ti53.zero, ti53.size, ti53.bytes) := congrArg (Option.map fun j => (j.zero, j.size, j.bytes)) Try.type53
theorem ti53_ok : TIok Try.prog 53 ti53 := tiok Try.underlying53 ti53_in (fun h => by cases h) (fun _ => rfl)
theorem ti54_in : (Try.prog.info? 54).map (fun j => (j.zero, j.size, j.bytes)) = some (some ti54.zero, ti54.size, ti54.bytes) := congrArg (Option.map fun j => (j.zero, j.size, j.bytes)) Try.type54
theorem ti54_ok : TIok Try.prog 54 ti54 := tiok Try.underlying54 ti54_in (fun h => by cases h) (fun _ => rfl)
theorem ti55_in : (Try.prog.info? 55).map (fun j => (j.zero, j.size, j.bytes)) = some (some ti55.zero, ti55.size, ti55.bytes) := congrArg (Option.map fun j => (j.zero, j.size, j.bytes)) Try.type55
theorem ti55_ok : TIok Try.prog 55 ti55 := tiok Try.underlying55 ti55_in (fun h => by cases h) (fun h => by cases h)
theorem ti56_in : (Try.prog.info? 56).map (fun j => (j.zero, j.size, j.bytes)) = some (some ti56.zero, ti56.size, ti56.bytes) := congrArg (Option.map fun j => (j.zero, j.size, j.bytes)) Try.type56
theorem ti56_ok : TIok Try.prog 56 ti56 := tiok Try.underlying56 ti56_in (fun h => by cases h) (fun h => by cases h)
theorem ti57_in : (Try.prog.info? 57).map (fun j => (j.zero, j.size, j.bytes)) = some (some ti57.zero, ti57.size, ti57.bytes) := congrArg (Option.map fun j => (j.zero, j.size, j.bytes)) Try.type57
theorem ti57_ok : TIok Try.prog 57 ti57 := tiok Try.underlying57 ti57_in (fun _ => ⟨by kernel_rfl, by kernel_rfl, by kernel_rfl⟩) (fun h => by cases h)
theorem ti58_in : (Try.prog.info? 58).map (fun j => (j.zero, j.size, j.bytes)) = some (some ti58.zero, ti58.size, ti58.bytes) := congrArg (Option.map fun j => (j.zero, j.size, j.bytes)) Try.type58
theorem ti58_ok : TIok Try.prog 58 ti58 := tiok Try.underlying58 ti58_in (fun _ => ⟨by kernel_rfl, by kernel_rfl, by kernel_rfl⟩) (fun h => by cases h)
theorem ti59_in : (Try.prog.info? 59).map (fun j => (j.zero, j.size, j.bytes)) = some (some ti59.zero, ti59.size, ti59.bytes) := congrArg (Option.map fun j => (j.zero, j.size, j.bytes)) Try.type59
theorem ti59_ok : TIok Try.prog 59 ti59 := tiok Try.underlying59 ti59_in (fun h => by cases h) (fun _ => rfl)
theorem ti60_in : (Try.prog.info? 60).map (fun j => (j.zero, j.size, j.bytes)) = some (some ti60.zero, ti60.size, ti60.bytes) := congrArg (Option.map fun j => (j.zero, j.size, j.bytes)) Try.type60
theorem ti60_ok : TIok Try.prog 60 ti60 := tiok Try.underlying60 ti60_in (fun h => by cases h) (fun _ => rfl)
theorem ti61_in : (Try.prog.info? 61).map (fun j => (j.zero, j.size, j.bytes)) = some (some ti61.zero, ti61.size, ti61.bytes) := congrArg (Option.map fun j => (j.zero, j.size, j.bytes)) Try.type61
theorem ti61_ok : TIok Try.prog 61 ti61 := tiok Try.underlying61 ti61_in (fun h => by cases h) (fun _ => rfl)
theorem ti62_in : (Try.prog.info? 62).map (fun j => (j.zero, j.size, j.bytes)) = some (some ti62.zero, ti62.size, ti62.bytes) := congrArg (Option.map fun j => (j.zero, j.size, j.bytes)) Try.type62
theorem ti62_ok : TIok Try.prog 62 ti62 := tiok Try.underlying62 ti62_in (fun h => by cases h) (fun _ => rfl)
theorem ti63_in : (Try.prog.info? 63).map (fun j => (j.zero, j.size, j.bytes)) = some (some ti63.zero, ti63.size, ti63.bytes) := congrArg (Option.map fun j => (j.zero, j.size, j.bytes)) Try.type63
theorem ti63_ok : TIok Try.prog 63 ti63 := tiok Try.underlying63 ti63_in (fun h => by cases h) (fun _ => rfl)
theorem ti64_in : (Try.prog.info? 64).map (fun j => (j.zero, j.size, j.bytes)) = some (some ti64.zero, ti64.size, ti64.bytes) := congrArg (Option.map fun j => (j.zero, j.size, j.bytes)) Try.type64
theorem ti64_ok : TIok Try.prog 64 ti64 := tiok Try.underlying64 ti64_in (fun h => by cases h) (fun _ => rfl)
theorem ti65_in : (Try.prog.info? 65).map (fun j => (j.zero, j.size, j.bytes)) = some (some ti65.zero, ti65.size, ti65.bytes) := congrArg (Option.map fun j => (j.zero, j.size, j.bytes)) Try.type65
theorem ti65_ok : TIok Try.prog 65 ti65 := tiok Try.underlying65 ti65_in (fun h => by cases h) (fun _ => rfl)
theorem ti66_in : (Try.prog.info? 66).map (fun j => (j.zero, j.size, j.bytes)) = some (some ti66.zero, ti66.size, ti66.bytes) := congrArg (Option.map fun j => (j.zero, j.size, j.bytes)) Try.type66
theorem ti66_ok : TIok Try.prog 66 ti66 := tiok Try.underlying66 ti66_in (fun h => by cases h) (fun _ => rfl)
theorem ti67_in : (Try.prog.info? 67).map (fun j => (j.zero, j.size, j.bytes)) = some (some ti67.zero, ti67.size, ti67.bytes) := congrArg (Option.map fun j => (j.zero, j.size, j.bytes)) Try.type67
theorem ti67_ok : TIok Try.prog 67 ti67 := tiok Try.underlying67 ti67_in (fun h => by cases h) (fun _ => rfl)
theorem ti68_in : (Try.prog.info? 68).map (fun j => (j.zero, j.size, j.bytes)) = some (some ti68.zero, ti68.size, ti68.bytes) := congrArg (Option.map fun j => (j.zero, j.size, j.bytes)) Try.type68
theorem ti68_ok : TIok Try.prog 68 ti68 := tiok Try.underlying68 ti68_in (fun h => by cases h) (fun _ => rfl)
theorem ti69_in : (Try.prog.info? 69).map (fun j => (j.zero, j.size, j.bytes)) = some (some ti69.zero, ti69.size, ti69.bytes) := congrArg (Option.map fun j => (j.zero, j.size, j.bytes)) Try.type69
theorem ti69_ok : TIok Try.prog 69 ti69 := tiok Try.underlying69 ti69_in (fun h => by cases h) (fun _ => rfl)
theorem ti70_in : (Try.prog.info? 70).map (fun j => (j.zero, j.size, j.bytes)) = some (some ti70.zero, ti70.size, ti70.bytes) := congrArg (Option.map fun j => (j.zero, j.size, j.bytes)) Try.type70
theorem ti70_ok : TIok Try.prog 70 ti70 := tiok Try.underlying70 ti70_in (fun h => by cases h) (fun _ => rfl)
theorem ti71_in : (Try.prog.info? 71).map (fun j => (j.zero, j.size, j.bytes)) = some (some ti71.zero, ti71.size, ti71.bytes) := congrArg (Option.map fun j => (j.zero, j.size, j.bytes)) Try.type71
theorem ti71_ok : TIok Try.prog 71 ti71 := tiok Try.underlying71 ti71_in (fun h => by cases h) (fun _ => rfl)
theorem ti72_in : (Try.prog.info? 72).map (fun j => (j.zero, j.size, j.bytes)) = some (some ti72.zero, ti72.size, ti72.bytes) := congrArg (Option.map fun j => (j.zero, j.size, j.bytes)) Try.type72
theorem ti72_ok : TIok Try.prog 72 ti72 := tiok Try.underlying72 ti72_in (fun h => by cases h) (fun _ => rfl)
theorem ti73_in : (Try.prog.info? 73).map (fun j => (j.zero, j.size, j.bytes)) = some (some ti73.zero, ti73.size, ti73.bytes) := congrArg (Option.map fun j => (j.zero, j.size, j.bytes)) Try.type73
theorem ti73_ok : TIok Try.prog 73 ti73 := tiok Try.underlying73 ti73_in (fun h => by cases h) (fun _ => rfl)
theorem ti74_in : (Try.prog.info? 74).map (fun j => (j.zero, j.size, j.bytes)) = some (some ti74.zero, ti74.size, ti74.bytes) := congrArg (Option.map fun j => (j.zero, j.size, j.bytes)) Try.type74
theorem ti74_ok : TIok Try.prog 74 ti74 := tiok Try.underlying74 ti74_in (fun h => by cases h) (fun _ => rfl)
theorem ti75_in : (Try.prog.info? 75).map (fun j => (j.zero, j.size, j.bytes)) = some (some ti75.zero, ti75.size, ti75.bytes) := congrArg (Option.map fun j => (j.zero, j.size, j.bytes)) Try.type75
theorem ti75_ok : TIok Try.prog 75 ti75 := tiok Try.underlying75 ti75_in (fun _ => ⟨by kernel_rfl, by kernel_rfl, by kernel_rfl⟩) (fun h => by cases h)
theorem ti76_in : (Try.prog.info? 76).map (fun j => (j.zero, j.size, j.bytes)) = some (some ti76.zero, ti76.size, ti76.bytes) := congrArg (Option.map fun j => (j.zero, j.size, j.bytes)) Try.type76
theorem ti76_ok : TIok Try.prog 76 ti76 := tiok Try.underlying76 ti76_in (fun _ => ⟨by kernel_rfl, by kernel_rfl, by kernel_rfl⟩) (fun h => by cases h)
theorem ti77_in : (Try.prog.info? 77).map (fun j => (j.zero, j.size, j.bytes)) = some (some ti77.zero, ti77.size, ti77.bytes) := congrArg (Option.map fun j => (j.zero, j.size, j.bytes)) Try.type77
theorem ti77_ok : TIok Try.prog 77 ti77 := tiok Try.underlying77 ti77_in (fun h => by cases h) (fun _ => rfl)
theorem ti78_in : (Try.prog.info? 78).map (fun j => (j.zero, j.size, j.bytes)) = some (some ti78.zero, ti78.size, ti78.bytes) := congrArg (Option.map fun j => (j.zero, j.size, j.bytes)) Try.type78
theorem ti78_ok : TIok Try.prog 78 ti78 := tiok Try.underlying78 ti78_in (fun h => by cases h) (fun _ => rfl)
theorem ti79_in : (Try.prog.info? 79).map (fun j => (j.zero, j.size, j.bytes)) = some (some ti79.zero, ti79.size, ti79.bytes) := congrArg (Option.map fun j => (j.zero, j.size, j.bytes)) Try.type79
theorem ti79_ok : TIok Try.prog 79 ti79 := tiok Try.underlying79 ti79_in (fun h => by cases h) (fun _ => rfl)
theorem ti80_in : (Try.prog.info? 80).map (fun j => (j.zero, j.size, j.bytes)) = some (some ti80.zero, ti80.size, ti80.bytes) := congrArg (Option.map fun j => (j.zero, j.size, j.bytes)) Try.type80
theorem ti80_ok : TIok Try.prog 80 ti80 := tiok Try.underlying80 ti80_in (fun h => by cases h) (fun _ => rfl)
theorem ti81_in : (Try.prog.info? 81).map (fun j => (j.zero, j.size, j.bytes)) = some (some ti81.zero, ti81.size, ti81.bytes) := congrArg (Option.map fun j => (j.zero, j.size, j.bytes)) Try.type81
theorem ti81_ok : TIok Try.prog 81 ti81 := tiok Try.underlying81 ti81_in (fun h => by cases h) (fun _ => rfl)
theorem ti82_in : (Try.prog.info? 82).map (fun j => (j.zero, j.size, j.bytes)) = some (some ti82.zero, ti82.size, ti82.bytes) := congrArg (Option.map fun j => (j.zero, j.size, j.bytes)) Try.type82
theorem ti82_ok : TIok Try.prog 82 ti82 := tiok Try.underlying82 ti82_in (fun h => by cases h) (fun _ => rfl)
theorem ti83_in : (Try.prog.info? 83).map (fun j => (j.zero, j.size, j.bytes)) = some (some ti83.zero, ti83.size, ti83.bytes) := congrArg (Option.map fun j => (j.zero, j.size, j.bytes)) Try.type83
theorem ti83_ok : TIok Try.prog 83 ti83 := tiok Try.underlying83 ti83_in (fun h => by cases h) (fun _ => rfl)
theorem ti84_in : (Try.prog.info? 84).map (fun j => (j.zero, j.size, j.bytes)) = some (some ti84.zero, ti84.size, ti84.bytes) := congrArg (Option.map fun j => (j.zero, j.size, j.bytes)) Try.type84
theorem ti84_ok : TIok Try.prog 84 ti84 := tiok Try.underlying84 ti84_in (fun h => by cases h) (fun _ => rfl)
theorem ti85_in : (Try.prog.info? 85).map (fun j => (j.zero, j.size, j.bytes)) = some (some ti85.zero, ti85.size, ti85.bytes) := congrArg (Option.map fun j => (j.zero, j.size, j.bytes)) Try.type85
theorem ti85_ok : TIok Try.prog 85 ti85 := tiok Try.underlying85 ti85_in (fun h => by cases h) (fun _ => rfl)
theorem ti86_in : (Try.prog.info? 86).map (fun j => (j.zero, j.size, j.bytes)) = some (some ti86.zero, ti86.size, ti86.bytes) := congrArg (Option.map fun j => (j.zero, j.size, j.bytes)) Try.type86
theorem ti86_ok : TIok Try.prog 86 ti86 := tiok Try.underlying86 ti86_in (fun h => by cases h) (fun _ => rfl)
theorem ti87_in : (Try.prog.info? 87).map (fun j => (j.zero, j.size, j.bytes)) = some (some ti87.zero, ti87.size, ti87.bytes) := congrArg (Option.map fun j => (j.zero, j.size, j.bytes)) Try.type87
theorem ti87_ok : TIok Try.prog 87 ti87 := tiok Try.underlying87 ti87_in (fun h => by cases h) (fun _ => rfl)
theorem ti88_in : (Try.prog.info? 88).map (fun j => (j.zero, j.size, j.bytes)) = some (some ti88.zero, ti88.size, ti88.bytes) := congrArg (Option.map fun j => (j.zero, j.size, j.bytes)) Try.type88
theorem ti88_ok : TIok Try.prog 88 ti88 := tiok Try.underlying88 ti88_in (fun h => by cases h) (fun _ => rfl)
theorem ti89_in : (Try.prog.info? 89).map (fun j => (j.zero, j.size, j.bytes)) = some (some ti89.zero, ti89.size, ti89.bytes) := congrArg (Option.map fun j => (j.zero, j.size, j.bytes)) Try.type89
theorem ti89_ok : TIok Try.prog 89 ti89 := tiok Try.underlying89 ti89_in (fun h => by cases h) (fun _ => rfl)
theorem ti90_in : (Try.prog.info? 90).map (fun j => (j.zero, j.size, j.bytes)) = some (some ti90.zero, ti90.size, ti90.bytes) := congrArg (Option.map fun j => (j.zero, j.size, j.bytes)) Try.type90
theorem ti90_ok : TIok Try.prog 90 ti90 := tiok Try.underlying90 ti90_in (fun h => by cases h) (fun _ => rfl)
theorem ti91_in : (Try.prog.info? 91).map (fun j => (j.zero, j.size, j.bytes)) = some (some ti91.zero, ti91.size, ti91.bytes) := congrArg (Option.map fun j => (j.zero, j.size, j.bytes)) Try.type91
theorem ti91_ok : TIok Try.prog 91 ti91 := tiok Try.underlying91 ti91_in (fun h => by cases h) (fun _ => rfl)
theorem ti92_in : (Try.prog.info? 92).map (fun j => (j.zero, j.size, j.bytes)) = some (some ti92.zero, ti92.size, ti92.bytes) := congrArg (Option.map fun j => (j.zero, j.size, j.bytes)) Try.type92
theorem ti92_ok : TIok Try.prog 92 ti92 := tiok Try.underlying92 ti92_in (fun h => by cases h) (fun _ => rfl)
theorem ti93_in : (Try.prog.info? 93).map (fun j => (j.zero, j.size, j.bytes)) = some (some ti93.zero, ti93.size, ti93.bytes) := congrArg (Option.map fun j => (j.zero, j.size, j.bytes)) Try.type93
theorem ti93_ok : TIok Try.prog 93 ti93 := tiok Try.underlying93 ti93_in (fun h => by cases h) (fun _ => rfl)
theorem ti94_in : (Try.prog.info? 94).map (fun j => (j.zero, j.size, j.bytes)) = some (some ti94.zero, ti94.size, ti94.bytes) := congrArg (Option.map fun j => (j.zero, j.size, j.bytes)) Try.type94
theorem ti94_ok : TIok Try.prog 94 ti94 := tiok Try.underlying94 ti94_in (fun h => by cases h) (fun _ => rfl)
theorem ti95_in : (Try.prog.info? 95).map (fun j => (j.zero, j.size, j.bytes)) = some (some ti95.zero, ti95.size, ti95.bytes) := congrArg (Option.map fun j => (j.zero, j.size, j.bytes)) Try.type95
theorem ti95_ok : TIok Try.prog 95 ti95 := tiok Try.underlying95 ti95_in (fun h => by cases h) (fun _ => rfl)
theorem ti96_in : (Try.prog.info? 96).map (fun j => (j.zero, j.size, j.bytes)) = some (some ti96.zero, ti96.size, ti96.bytes) := congrArg (Option.map fun j => (j.zero, j.size, j.bytes)) Try.type96
theorem ti96_ok : TIok Try.prog 96 ti96 := tiok Try.underlying96 ti96_in (fun h => by cases h) (fun _ => rfl)
theorem ti97_in : (Try.prog.info? 97).map (fun j => (j.zero, j.size, j.bytes)) = some (some ti97.zero, ti97.size, ti97.bytes) := congrArg (Option.map fun j => (j.zero, j.size, j.bytes)) Try.type97
theorem ti97_ok : TIok Try.prog 97 ti97 := tiok Try.underlying97 ti97_in (fun h => by cases h) (fun _ => rfl)
theorem ti98_in : (Try.prog.info? 98).map (fun j => (j.zero, j.size, j.bytes)) = some (some ti98.zero, ti98.size, ti98.bytes) := congrArg (Option.map fun j => (j.zero, j.size, j.bytes)) Try.type98
theorem ti98_ok : TIok Try.prog 98 ti98 := tiok Try.underlying98 ti98_in (fun h => by cases h) (fun _ => rfl)
theorem ti99_in : (Try.prog.info? 99).map (fun j => (j.zero, j.size, j.bytes)) = some (some ti99.zero, ti99.size, ti99.bytes) := congrArg (Option.map fun j => (j.zero, j.size, j.bytes)) Try.type99
theorem ti99_ok : TIok Try.prog 99 ti99 := tiok Try.underlying99 ti99_in (fun h => by cases h) (fun _ => rfl)
theorem ti100_in : (Try.prog.info? 100).map (fun j => (j.zero, j.size, j.bytes)) = some (some ti100.zero, ti100.size, ti100.bytes) := congrArg (Option.map fun j => (j.zero, j.size, j.bytes)) Try.type100
theorem ti100_ok : TIok Try.prog 100 ti100 := tiok Try.underlying100 ti100_in (fun h => by cases h) (fun _ => rfl)
theorem ti102_in : (Try.prog.info? 102).map (fun j => (j.zero, j.size, j.bytes)) = some (some ti102.zero, ti102.size, ti102.bytes) := congrArg (Option.map fun j => (j.zero, j.size, j.bytes)) Try.type102
theorem ti102_ok : TIok Try.prog 102 ti102 := tiok Try.underlying102 ti102_in (fun h => by cases h) (fun _ => rfl)
theorem ti103_in : (Try.prog.info? 103).map (fun j => (j.zero, j.size, j.bytes)) = some (some ti103.zero, ti103.size, ti103.bytes) := congrArg (Option.map fun j => (j.zero, j.size, j.bytes)) Try.type103
theorem ti103_ok : TIok Try.prog 103 ti103 := tiok Try.underlying103 ti103_in (fun h => by cases h) (fun _ => rfl)
theorem ti104_in : (Try.prog.info? 104).map (fun j => (j.zero, j.size, j.bytes)) = some (some ti104.zero, ti104.size, ti104.bytes) := congrArg (Option.map fun j => (j.zero, j.size, j.bytes)) Try.type104
theorem ti104_ok : TIok Try.prog 104 ti104 := tiok Try.underlying104 ti104_in (fun h => by cases h) (fun _ => rfl)
theorem ti105_in : (Try.prog.info? 105).map (fun j => (j.zero, j.size, j.bytes)) = some (some ti105.zero, ti105.size, ti105.bytes) := congrArg (Option.map fun j => (j.zero, j.size, j.bytes)) Try.type105
theorem ti105_ok : TIok Try.prog 105 ti105 := tiok Try.underlying105 ti105_in (fun h => by cases h) (fun _ => rfl)
theorem ti106_in : (Try.prog.info? 106).map (fun j => (j.zero, j.size, j.bytes)) = some (some ti106.zero, ti106.size, ti106.bytes) := congrArg (Option.map fun j => (j.zero, j.size, j.bytes)) Try.type106
theorem ti106_ok : TIok Try.prog 106 ti106 := tiok Try.underlying106 ti106_in (fun h => by cases h) (fun _ => rfl)
theorem ti107_in : (Try.prog.info? 107).map (fun j => (j.zero, j.size, j.bytes)) = some (some ti107.zero, ti107.size, ti107.bytes) := congrArg (Option.map fun j => (j.zero, j.size, j.bytes)) Try.type107
theorem ti107_ok : TIok Try.prog 107 ti107 := tiok Try.underlying107 ti107_in (fun h => by cases h) (fun _ => rfl)
theorem ti108_in : (Try.prog.info? 108).map (fun j => (j.zero, j.size, j.bytes)) = some (some ti108.zero, ti108.size, ti108.bytes) := congrArg (Option.map fun j => (j.zero, j.size, j.bytes)) Try.type108
theorem ti108_ok : TIok Try.prog 108 ti108 := tiok Try.underlying108 ti108_in (fun h => by cases h) (fun _ => rfl)
theorem ti109_in : (Try.prog.info? 109).map (fun j => (j.zero, j.size, j.bytes)) = some (some ti109.zero, ti109.size, ti109.bytes) := congrArg (Option.map fun j => (j.zero, j.size, j.bytes)) Try.type109
theorem ti109_ok : TIok Try.prog 109 ti109 := tiok Try.underlying109 ti109_in (fun h => by cases h) (fun _ => rfl)
theorem ti110_in : (Try.prog.info? 110).map (fun j => (j.zero, j.size, j.bytes)) = some (some ti110.zero, ti110.size, ti110.bytes) := congrArg (Option.map fun j => (j.zero, j.size, j.bytes)) Try.type110
theorem ti110_ok : TIok Try.prog 110 ti110 := tiok Try.underlying110 ti110_in (fun h => by cases h) (fun _ => rfl)
theorem ti111_in : (Try.prog.info? 111).map (fun j => (j.zero, j.size, j.bytes)) = some (some ti111.zero, ti111.size, ti111.bytes) := congrArg (Option.map fun j => (j.zero, j.size, j.bytes)) Try.type111
theorem ti111_ok : TIok Try.prog 111 ti111 := tiok Try.underlying111 ti111_in (fun h => by cases h) (fun _ => rfl)
theorem ti112_in : (Try.prog.info? 112).map (fun j => (j.zero, j.size, j.bytes)) = some (some ti112.zero, ti112.size, ti112.bytes) := congrArg (Option.map fun j => (j.zero, j.size, j.bytes)) Try.type112
theorem ti112_ok : TIok Try.prog 112 ti112 := tiok Try.underlying112 ti112_in (fun h => by cases h) (fun _ => rfl)
theorem ti113_in : (Try.prog.info? 113).map (fun j => (j.zero, j.size, j.bytes)) = some (some ti113.zero, ti113.size, ti113.bytes) := congrArg (Option.map fun j => (j.zero, j.size, j.bytes)) Try.type113
theorem ti113_ok : TIok Try.prog 113 ti113 := tiok Try.underlying113 ti113_in (fun h => by cases h) (fun _ => rfl)
theorem ti114_in : (Try.prog.info? 114).map (fun j => (j.zero, j.size, j.bytes)) = some (some ti114.zero, ti114.size, ti114.bytes) := congrArg (Option.map fun j => (j.zero, j.size, j.bytes)) Try.type114
theorem ti114_ok : TIok Try.prog 114 ti114 := tiok Try.underlying114 ti114_in (fun h => by cases h) (fun _ => rfl)
theorem ti115_in : (Try.prog.info? 115).map (fun j => (j.zero, j.size, j.bytes)) = some (some ti115.zero, ti115.size, ti115.bytes) := congrArg (Option.map fun j => (j.zero, j.size, j.bytes)) Try.type115
theorem ti115_ok : TIok Try.prog 115 ti115 := tiok Try.underlying115 ti115_in (fun h => by cases h) (fun _ => rfl)
theorem ti116_in : (Try.prog.info? 116).map (fun j => (j.zero, j.size, j.bytes)) = some (some ti116.zero, ti116.size, ti116.bytes) := congrArg (Option.map fun j => (j.zero, j.size, j.bytes)) Try.type116
theorem ti116_ok : TIok Try.prog 116 ti116 := tiok Try.underlying116 ti116_in (fun h => by cases h) (fun _ => rfl)
theorem ti117_in : (Try.prog.info? 117).map (fun j => (j.zero, j.size, j.bytes)) = some (some ti117.zero, ti117.size, ti117.bytes) := congrArg (Option.map fun j => (j.zero, j.size, j.bytes)) Try.type117
theorem ti117_ok : TIok Try.prog 117 ti117 := tiok Try.underlying117 ti117_in (fun h => by cases h) (fun _ => rfl)
theorem ti118_in : (Try.prog.info? 118).map (fun j => (j.zero, j.size, j.bytes)) = some (some ti118.zero, ti118.size, ti118.bytes) := congrArg (Option.map fun j => (j.zero, j.size, j.bytes)) Try.type118
theorem ti118_ok : TIok Try.prog 118 ti118 := tiok Try.underlying118 ti118_in (fun h => by cases h) (fun _ => rfl)
theorem ti119_in : (Try.prog.info? 119).map (fun j => (j.zero, j.size, j.bytes)) = some (some ti119.zero, ti119.size, ti119.bytes) := congrArg (Option.map fun j => (j.zero, j.size, j.bytes)) Try.type119
theorem ti119_ok : TIok Try.prog 119 ti119 := tiok Try.underlying119 ti119_in (fun h => by cases h) (fun _ => rfl)
theorem ti120_in : (Try.prog.info? 120).map (fun j => (j.zero, j.size, j.bytes)) = some (some ti120.zero, ti120.size, ti120.bytes) := congrArg (Option.map fun j => (j.zero, j.size, j.bytes)) Try.type120
theorem ti120_ok : TIok Try.prog 120 ti120 := tiok Try.underlying120 ti120_in (fun h => by cases h) (fun _ => rfl)
theorem ti121_in : (Try.prog.info? 121).map (fun j => (j.zero, j.size, j.bytes)) = some (some ti121.zero, ti121.size, ti121.bytes) := congrArg (Option.map fun j => (j.zero, j.size, j.bytes)) Try.type121
theorem ti121_ok : TIok Try.prog 121 ti121 := tiok Try.underlying121 ti121_in (fun h => by cases h) (fun _ => rfl)
theorem ti122_in : (Try.prog.info? 122).map (fun j => (j.zero, j.size, j.bytes)) = some (some ti122.zero, ti122.size, ti122.bytes) := congrArg (Option.map fun j => (j.zero, j.size, j.bytes)) Try.type122
theorem ti122_ok : TIok Try.prog 122 ti122 := tiok Try.underlying122 ti122_in (fun h => by cases h) (fun _ => rfl)
theorem ti123_in : (Try.prog.info? 123).map (fun j => (j.zero, j.size, j.bytes)) = some (some ti123.zero, ti123.size, ti123.bytes) := congrArg (Option.map fun j => (j.zero, j.size, j.bytes)) Try.type123
theorem ti123_ok : TIok Try.prog 123 ti123 := tiok Try.underlying123 ti123_in (fun h => by cases h) (fun _ => rfl)
theorem ti124_in : (Try.prog.info? 124).map (fun j => (j.zero, j.size, j.bytes)) = some (some ti124.zero, ti124.size, ti124.bytes) := congrArg (Option.map fun j => (j.zero, j.size, j.bytes)) Try.type124
theorem ti124_ok : TIok Try.prog 124 ti124 := tiok Try.underlying124 ti124_in (fun h => by cases h) (fun _ => rfl)
theorem ti125_in : (Try.prog.info? 125).map (fun j => (j.zero, j.size, j.bytes)) = some (some ti125.zero, ti125.size, ti125.bytes) := congrArg (Option.map fun j => (j.zero, j.size, j.bytes)) Try.type125
theorem ti125_ok : TIok Try.prog 125 ti125 := tiok Try.underlying125 ti125_in (fun h => by cases h) (fun _ => rfl)
theorem ti126_in : (Try.prog.info? 126).map (fun j => (j.zero, j.size, j.bytes)) = some (some ti126.zero, ti126.size, ti126.bytes) := congrArg (Option.map fun j => (j.zero, j.size, j.bytes)) Try.type126
theorem ti126_ok : TIok Try.prog 126 ti126 := tiok Try.underlying126 ti126_in (fun h => by cases h) (fun _ => rfl)
theorem ti127_in : (Try.prog.info? 127).map (fun j => (j.zero, j.size, j.bytes)) = some (some ti127.zero, ti127.size, ti127.bytes) := congrArg (Option.map fun j => (j.zero, j.size, j.bytes)) Try.type127
theorem ti127_ok : TIok Try.prog 127 ti127 := tiok Try.underlying127 ti127_in (fun h => by cases h) (fun _ => rfl)
theorem ti128_in : (Try.prog.info? 128).map (fun j => (j.zero, j.size, j.bytes)) = some (some ti128.zero, ti128.size, ti128.bytes) := congrArg (Option.map fun j => (j.zero, j.size, j.bytes)) Try.type128
theorem ti128_ok : TIok Try.prog 128 ti128 := tiok Try.underlying128 ti128_in (fun h => by cases h) (fun _ => rfl)
theorem ti129_in : (Try.prog.info? 129).map (fun j => (j.zero, j.size, j.bytes)) = some (some ti129.zero, ti129.size, ti129.bytes) := congrArg (Option.map fun j => (j.zero, j.size, j.bytes)) Try.type129
theorem ti129_ok : TIok Try.prog 129 ti129 := tiok Try.underlying129 ti129_in (fun h => by cases h) (fun _ => rfl)
theorem ti131_in : (Try.prog.info? 131).map (fun j => (j.zero, j.size, j.bytes)) = some (some ti131.zero, ti131.size, ti131.bytes) := congrArg (Option.map fun j => (j.zero, j.size, j.bytes)) Try.type131
theorem ti131_ok : TIok Try.prog 131 ti131 := tiok Try.underlying131 ti131_in (fun h => by cases h) (fun _ => rfl)
theorem ti132_in : (Try.prog.info? 132).map (fun j => (j.zero, j.size, j.bytes)) = some (some ti132.zero, ti132.size, ti132.bytes) := congrArg (Option.map fun j => (j.zero, j.size, j.bytes)) Try.type132
theorem ti132_ok : TIok Try.prog 132 ti132 := tiok Try.underlying132 ti132_in (fun h => by cases h) (fun _ => rfl)
theorem ti133_in : (Try.prog.info? 133).map (fun j => (j.zero, j.size, j.bytes)) = some (some ti133.zero, ti133.size, ti133.bytes) := congrArg (Option.map fun j => (j.zero, j.size, j.bytes)) Try.type133
theorem ti133_ok : TIok Try.prog 133 ti133 := tiok Try.underlying133 ti133_in (fun h => by cases h) (fun _ => rfl)
theorem ti135_in : (Try.prog.info? 135).map (fun j => (j.zero, j.size, j.bytes)) = some (some ti135.zero, ti135.size, ti135.bytes) := congrArg (Option.map fun j => (j.zero, j.size, j.bytes)) Try.type135
theorem ti135_ok : TIok Try.prog 135 ti135 := tiok Try.underlying135 ti135_in (fun h => by cases h) (fun _ => rfl)
theorem ti136_in : (Try.prog.info? 136).map (fun j => (j.zero, j.size, j.bytes)) = some (some ti136.zero, ti136.size, ti136.bytes) := congrArg (Option.map fun j => (j.zero, j.size, j.bytes)) Try.type136
theorem ti136_ok : TIok Try.prog 136 ti136 := tiok Try.underlying136 ti136_in (fun h => by cases h) (fun _ => rfl)
theorem ti137_in : (Try.prog.info? 137).map (fun j => (j.zero, j.size, j.bytes)) = some (some ti137.zero, ti137.size, ti137.bytes) := congrArg (Option.map fun j => (j.zero, j.size, j.bytes)) Try.type137
theorem ti137_ok : TIok Try.prog 137 ti137 := tiok Try.underlying137 ti137_in (fun h => by cases h) (fun _ => rfl)
theorem ti138_in : (Try.prog.info? 138).map (fun j => (j.zero, j.size, j.bytes)) = some (some ti138.zero, ti138.size, ti138.bytes) := congrArg (Option.map fun j => (j.zero, j.size, j.bytes)) Try.type138
theorem ti138_ok : TIok Try.prog 138 ti138 := tiok Try.underlying138 ti138_in (fun h => by cases h) (fun _ => rfl)
theorem ti139_in : (Try.prog.info? 139).map (fun j => (j.zero, j.size, j.bytes)) = some (some ti139.zero, ti139.size, ti139.bytes) := congrArg (Option.map fun j => (j.zero, j.size, j.bytes)) Try.type139
theorem ti139_ok : TIok Try.prog 139 ti139 := tiok Try.underlying139 ti139_in (fun h => by cases h) (fun _ => rfl)
theorem ti140_in : (Try.prog.info? 140).map (fun j => (j.zero, j.size, j.bytes)) = some (some ti140.zero, ti140.size, ti140.bytes) := congrArg (Option.map fun j => (j.zero, j.size, j.bytes)) Try.type140
theorem ti140_ok : TIok Try.prog 140 ti140 := tiok Try.underlying140 ti140_in (fun h => by cases h) (fun _ => rfl)
theorem ti141_in : (Try.prog.info? 141).map (fun j => (j.zero, j.size, j.bytes)) = some (some ti141.zero, ti141.size, ti141.bytes) := congrArg (Option.map fun j => (j.zero, j.size, j.bytes)) Try.type141
theorem ti141_ok : TIok Try.prog 141 ti141 := tiok Try.underlying141 ti141_in (fun h => by cases h) (fun _ => rfl)
theorem ti142_in : (Try.prog.info? 142).map (fun j => (j.zero, j.size, j.bytes)) = some (some ti142.zero, ti142.size, ti142.bytes) := congrArg (Option.map fun j => (j.zero, j.size, j.bytes)) Try.type142
theorem ti142_ok : TIok Try.prog 142 ti142 := tiok Try.underlying142 ti142_in (fun h => by cases h) (fun _ => rfl)
theorem ti143_in : (Try.prog.info? 143).map (fun j => (j.zero, j.size, j.bytes)) = some (some ti143.zero, ti143.size, ti143.bytes) := congrArg (Option.map fun j => (j.zero, j.size, j.bytes)) Try.type143
theorem ti143_ok : TIok Try.prog 143 ti143 := tiok Try.underlying143 ti143_in (fun h => by cases h) (fun _ => rfl)
theorem ti144_in : (Try.prog.info? 144).map (fun j => (j.zero, j.size, j.bytes)) = some (some ti144.zero, ti144.size, ti144.bytes) := congrArg (Option.map fun j => (j.zero, j.size, j.bytes)) Try.type144
theorem ti144_ok : TIok Try.prog 144 ti144 := tiok Try.underlying144 ti144_in (fun h => by cases h) (fun _ => rfl)
theorem ti145_in : (Try.prog.info? 145).map (fun j => (j.zero, j.size, j.bytes)) = some (some ti145.zero, ti145.size, ti145.bytes) := congrArg (Option.map fun j => (j.zero, j.size, j.bytes)) Try.type145
theorem ti145_ok : TIok Try.prog 145 ti145 := tiok Try.underlying145 ti145_in (fun h => by cases h) (fun _ => rfl)
theorem ti146_in : (Try.prog.info? 146).map (fun j => (j.zero, j.size, j.bytes)) = some (some ti146.zero, ti146.size, ti146.bytes) := congrArg (Option.map fun j => (j.zero, j.size, j.bytes)) Try.type146
theorem ti146_ok : TIok Try.prog 146 ti146 := tiok Try.underlying146 ti146_in (fun h => by cases h) (fun _ => rfl)
theorem ti148_in : (Try.prog.info? 148).map (fun j => (j.zero, j.size, j.bytes)) = some (some ti148.zero, ti148.size, ti148.bytes) := congrArg (Option.map fun j => (j.zero, j.size, j.bytes)) Try.type148
theorem ti148_ok : TIok Try.prog 148 ti148 := tiok Try.underlying148 ti148_in (fun h => by cases h) (fun _ => rfl)
theorem ti149_in : (Try.prog.info? 149).map (fun j => (j.zero, j.size, j.bytes)) = some (some ti149.zero, ti149.size, ti149.bytes) := congrArg (Option.map fun j => (j.zero, j.size, j.bytes)) Try.type149
theorem ti149_ok : TIok Try.prog 149 ti149 := tiok Try.underlying149 ti149_in (fun h => by cases h) (fun _ => rfl)
theorem ti152_in : (Try.prog.info? 152).map (fun j => (j.zero, j.size, j.bytes)) = some (some ti152.zero, ti152.size, ti152.bytes) := congrArg (Option.map fun j => (j.zero, j.size, j.bytes)) Try.type152
theorem ti152_ok : TIok Try.prog 152 ti152 := tiok Try.underlying152 ti152_in (fun h => by cases h) (fun h => by cases h)
theorem ti153_in : (Try.prog.info? 153).map (fun j => (j.zero, j.size, j.bytes)) = some (some ti153.zero, ti153.size, ti153.bytes) := congrArg (Option.map fun j => (j.zero, j.size, j.bytes)) Try.type153
theorem ti153_ok : TIok Try.prog 153 ti153 := tiok Try.underlying153 ti153_in (fun h => by cases h) (fun h => by cases h)
theorem ti154_in : (Try.prog.info? 154).map (fun j => (j.zero, j.size, j.bytes)) = some (some ti154.zero, ti154.size, ti154.bytes) := congrArg (Option.map fun j => (j.zero, j.size, j.bytes)) Try.type154
theorem ti154_ok : TIok Try.prog 154 ti154 := tiok Try.underlying154 ti154_in (fun h => by cases h) (fun h => by cases h)
theorem ti155_in : (Try.prog.info? 155).map (fun j => (j.zero, j.size, j.bytes)) = some (some ti155.zero, ti155.size, ti155.bytes) := congrArg (Option.map fun j => (j.zero, j.size, j.bytes)) Try.type155
theorem ti155_ok : TIok Try.prog 155 ti155 := tiok Try.underlying155 ti155_in (fun h => by cases h) (fun _ => rfl)
theorem ti158_in : (Try.prog.info? 158).map (fun j => (j.zero, j.size, j.bytes)) = some (some ti158.zero, ti158.size, ti158.bytes) := congrArg (Option.map fun j => (j.zero, j.size, j.bytes)) Try.type158
theorem ti158_ok : TIok Try.prog 158 ti158 := tiok Try.underlying158 ti158_in (fun h => by cases h) (fun _ => rfl)
theorem ti159_in : (Try.prog.info? 159).map (fun j => (j.zero, j.size, j.bytes)) = some (some ti159.zero, ti159.size, ti159.bytes) := congrArg (Option.map fun j => (j.zero, j.size, j.bytes)) Try.type159
theorem ti159_ok : TIok Try.prog 159 ti159 := tiok Try.underlying159 ti159_in (fun h => by cases h) (fun _ => rfl)
theorem ti162_in : (Try.prog.info? 162).map (fun j => (j.zero, j.size, j.bytes)) = some (some ti162.zero, ti162.size, ti162.bytes) := congrArg (Option.map fun j => (j.zero, j.size, j.bytes)) Try.type162
theorem ti162_ok : TIok Try.prog 162 ti162 := tiok Try.underlying162 ti162_in (fun h => by cases h) (fun h => by cases h)
theorem tab_ok : TabOk Try.prog tab := ⟨ti1_ok, ti2_ok, ti3_ok, ti4_ok, ti5_ok, ti7_ok, ti8_ok, ti9_ok, ti10_ok, ti11_ok, ti12_ok, ti13_ok, ti14_ok, ti15_ok, ti16_ok, ti17_ok, ti18_ok, ti19_ok, ti21_ok, ti22_ok, ti23_ok, ti24_ok, ti25_ok, ti26_ok, ti27_ok, ti28_ok, ti29_ok, ti30_ok, ti32_ok, ti33_ok, ti35_ok, ti37_ok, ti38_ok, ti39_ok, ti40_ok, ti41_ok, ti42_ok, ti43_ok, ti44_ok, ti45_ok, ti46_ok, ti47_ok, ti48_ok, ti50_ok, ti52_ok, ti53_ok, ti54_ok, ti55_ok, ti56_ok, ti57_ok, ti58_ok, ti59_ok, ti60_ok, ti61_ok, ti62_ok, ti63_ok, ti64_ok, ti65_ok, ti66_ok, ti67_ok, ti68_ok, ti69_ok, ti70_ok, ti71_ok, ti72_ok, ti73_ok, ti74_ok, ti75_ok, ti76_ok, ti77_ok, ti78_ok, ti79_ok, ti80_ok, ti81_ok, ti82_ok, ti83_ok, ti84_ok, ti85_ok, ti86_ok, ti87_ok, ti88_ok, ti89_ok, ti90_ok, ti91_ok, ti92_ok, ti93_ok, ti94_ok, ti95_ok, ti96_ok, ti97_ok, ti98_ok, ti99_ok, ti100_ok, ti102_ok, ti103_ok, ti104_ok, ti105_ok, ti106_ok, ti107_ok, ti108_ok, ti109_ok, ti110_ok, ti111_ok, ti112_ok, ti113_ok, ti114_ok, ti115_ok, ti116_ok, ti117_ok, ti118_ok, ti119_ok, ti120_ok, ti121_ok, ti122_ok, ti123_ok, ti124_ok, ti125_ok, ti126_ok, ti127_ok, ti128_ok, ti129_ok, ti131_ok, ti132_ok, ti133_ok, ti135_ok, ti136_ok, ti137_ok, ti138_ok, ti139_ok, ti140_ok, ti141_ok, ti142_ok, ti143_ok, ti144_ok, ti145_ok, ti146_ok, ti148_ok, ti149_ok, ti152_ok, ti153_ok, ti154_ok, ti155_ok, ti158_ok, ti159_ok, ti162_ok, trivial⟩
end Go.Proofs.Ytcjiaiojkciheaa.Sy
