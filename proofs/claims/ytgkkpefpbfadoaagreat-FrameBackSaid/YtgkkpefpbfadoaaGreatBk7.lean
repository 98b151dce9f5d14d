/- The program's types, as a table. Written by a program of mine (tab.py) off the loaded program. -/
import Derived.Test.YtgkkpefpbfadoaaGreatBk6
import Derived.Test.YtgkkpefpbfadoaaGreatRows
namespace Go.Proofs.YtgkkpefpbfadoaaGreat.Sy
open Go
set_option maxRecDepth 100000
def fd (n : String) (t o b : Nat) : Field := { name := n, type := t, offset := o, embedded := false, tag := "", pkgPath := "", byteOffset := b }
theorem tk {P : Program} {t : Nat} {i : TI} {k : TypeInfo} (h1 : P.underlying t = some i.d) (h2 : P.info? t = some k) (h3 : i.eqok = true → P.eqGuardType P.depth t = false ∧ P.stoodInHeld t = false ∧ (P.fieldsOf t).toList.all (fun f => !(f.name == "_")) = true) (h4 : rowB i.d = false → i.size = 1) (e : (k.zero, k.size, k.bytes) = (some i.zero, i.size, i.bytes) := by rfl) : TIok P t i := tiok h1 (by rw [h2]; exact congrArg some e) h3 h4
def ti1 : TI := ⟨(TypeDesc.func #[] #[] false), 1, 8, Value.nilFunc, false⟩
def ti2 : TI := ⟨(TypeDesc.int IntKind.i64), 1, 8, (Value.int IntKind.i64 0), false⟩
def ti3 : TI := ⟨(TypeDesc.int IntKind.i64), 1, 8, (Value.int IntKind.i64 0), false⟩
def ti4 : TI := ⟨TypeDesc.bool, 1, 1, (Value.bool false), false⟩
def ti5 : TI := ⟨(TypeDesc.int IntKind.u8), 1, 1, (Value.int IntKind.u8 0), false⟩
def ti9 : TI := ⟨TypeDesc.string, 1, 16, (Value.string { data := #[] }), false⟩
def ti10 : TI := ⟨TypeDesc.string, 1, 16, (Value.string { data := #[] }), false⟩
def ti11 : TI := ⟨TypeDesc.string, 1, 16, (Value.string { data := #[] }), false⟩
def ti12 : TI := ⟨(TypeDesc.int IntKind.u64), 1, 8, (Value.int IntKind.u64 0), false⟩
def ti15 : TI := ⟨(TypeDesc.pointer 273), 1, 8, (Value.pointer none), false⟩
def ti16 : TI := ⟨(TypeDesc.pointer 276), 1, 8, (Value.pointer none), false⟩
def ti17 : TI := ⟨(TypeDesc.pointer 284), 1, 8, (Value.pointer none), false⟩
def ti21 : TI := ⟨(TypeDesc.int IntKind.i32), 1, 4, (Value.int IntKind.i32 0), false⟩
def ti22 : TI := ⟨(TypeDesc.int IntKind.u64), 1, 8, (Value.int IntKind.u64 0), false⟩
def ti23 : TI := ⟨(TypeDesc.slice 65), 1, 24, (Value.slice none 0 0), false⟩
def ti24 : TI := ⟨(TypeDesc.struct #[fd "Ops" 23 0 0]), 1, 24, (Value.agg #[Value.slice none 0 0]), false⟩
def ti25 : TI := ⟨(TypeDesc.struct #[fd "Ops" 23 0 0]), 1, 24, (Value.agg #[Value.slice none 0 0]), false⟩
def ti26 : TI := ⟨(TypeDesc.slice 68), 1, 24, (Value.slice none 0 0), false⟩
def ti27 : TI := ⟨(TypeDesc.struct #[fd "Graph" 25 0 0, fd "Inputs" 26 1 24]), 2, 48, (Value.agg #[Value.slice none 0 0, Value.slice none 0 0]), false⟩
def ti28 : TI := ⟨(TypeDesc.struct #[fd "Graph" 25 0 0, fd "Inputs" 26 1 24]), 2, 48, (Value.agg #[Value.slice none 0 0, Value.slice none 0 0]), false⟩
def ti29 : TI := ⟨(TypeDesc.slice 84), 1, 24, (Value.slice none 0 0), false⟩
def ti30 : TI := ⟨(TypeDesc.struct #[fd "Work" 28 0 0, fd "Places" 29 2 48]), 3, 72, (Value.agg #[Value.slice none 0 0, Value.slice none 0 0, Value.slice none 0 0]), false⟩
def ti31 : TI := ⟨(TypeDesc.struct #[fd "Work" 28 0 0, fd "Places" 29 2 48]), 3, 72, (Value.agg #[Value.slice none 0 0, Value.slice none 0 0, Value.slice none 0 0]), false⟩
def ti32 : TI := ⟨(TypeDesc.slice 122), 1, 24, (Value.slice none 0 0), false⟩
def ti33 : TI := ⟨(TypeDesc.struct #[fd "Rows" 32 0 0]), 1, 24, (Value.agg #[Value.slice none 0 0]), false⟩
def ti34 : TI := ⟨(TypeDesc.struct #[fd "Rows" 32 0 0]), 1, 24, (Value.agg #[Value.slice none 0 0]), false⟩
def ti35 : TI := ⟨(TypeDesc.array 8 3), 8, 64, (Value.agg #[Value.int IntKind.i64 0, Value.int IntKind.i64 0, Value.int IntKind.i64 0, Value.int IntKind.i64 0, Value.int IntKind.i64 0, Value.int IntKind.i64 0, Value.int IntKind.i64 0, Value.int IntKind.i64 0]), true⟩
def ti36 : TI := ⟨(TypeDesc.array 8 3), 8, 64, (Value.agg #[Value.int IntKind.i64 0, Value.int IntKind.i64 0, Value.int IntKind.i64 0, Value.int IntKind.i64 0, Value.int IntKind.i64 0, Value.int IntKind.i64 0, Value.int IntKind.i64 0, Value.int IntKind.i64 0]), true⟩
def ti37 : TI := ⟨(TypeDesc.slice 88), 1, 24, (Value.slice none 0 0), false⟩
def ti38 : TI := ⟨(TypeDesc.struct #[fd "Op" 3 0 0, fd "Index" 3 1 8, fd "Width" 3 2 16, fd "Ended" 4 3 24, fd "Table" 34 4 32, fd "Offsets" 36 5 56, fd "Txs" 37 13 120]), 14, 144, (Value.agg #[Value.int IntKind.i64 0, Value.int IntKind.i64 0, Value.int IntKind.i64 0, Value.bool false, Value.slice none 0 0, Value.int IntKind.i64 0, Value.int IntKind.i64 0, Value.int IntKind.i64 0, Value.int IntKind.i64 0, Value.int IntKind.i64 0, Value.int IntKind.i64 0, Value.int IntKind.i64 0, Value.int IntKind.i64 0, Value.slice none 0 0]), false⟩
def ti39 : TI := ⟨(TypeDesc.struct #[fd "Op" 3 0 0, fd "Index" 3 1 8, fd "Width" 3 2 16, fd "Ended" 4 3 24, fd "Table" 34 4 32, fd "Offsets" 36 5 56, fd "Txs" 37 13 120]), 14, 144, (Value.agg #[Value.int IntKind.i64 0, Value.int IntKind.i64 0, Value.int IntKind.i64 0, Value.bool false, Value.slice none 0 0, Value.int IntKind.i64 0, Value.int IntKind.i64 0, Value.int IntKind.i64 0, Value.int IntKind.i64 0, Value.int IntKind.i64 0, Value.int IntKind.i64 0, Value.int IntKind.i64 0, Value.int IntKind.i64 0, Value.slice none 0 0]), false⟩
def ti40 : TI := ⟨(TypeDesc.slice 3), 1, 24, (Value.slice none 0 0), false⟩
def ti41 : TI := ⟨(TypeDesc.int IntKind.u32), 1, 4, (Value.int IntKind.u32 0), false⟩
def ti42 : TI := ⟨(TypeDesc.struct #[fd "Source" 3 0 0, fd "Key" 3 1 8, fd "Value" 2 2 16]), 3, 24, (Value.agg #[Value.int IntKind.i64 0, Value.int IntKind.i64 0, Value.int IntKind.i64 0]), true⟩
def ti43 : TI := ⟨(TypeDesc.struct #[fd "Source" 3 0 0, fd "Key" 3 1 8, fd "Value" 2 2 16]), 3, 24, (Value.agg #[Value.int IntKind.i64 0, Value.int IntKind.i64 0, Value.int IntKind.i64 0]), true⟩
def ti44 : TI := ⟨(TypeDesc.struct #[fd "Kind" 3 0 0, fd "Record" 43 1 8, fd "Number" 22 4 32]), 5, 40, (Value.agg #[Value.int IntKind.i64 0, Value.int IntKind.i64 0, Value.int IntKind.i64 0, Value.int IntKind.i64 0, Value.int IntKind.u64 0]), true⟩
def ti45 : TI := ⟨(TypeDesc.struct #[fd "Kind" 3 0 0, fd "Record" 43 1 8, fd "Number" 22 4 32]), 5, 40, (Value.agg #[Value.int IntKind.i64 0, Value.int IntKind.i64 0, Value.int IntKind.i64 0, Value.int IntKind.i64 0, Value.int IntKind.u64 0]), true⟩
def ti46 : TI := ⟨(TypeDesc.struct #[fd "Kind" 3 0 0, fd "Session" 41 1 8, fd "Seq" 22 2 16, fd "Limit" 22 3 24, fd "Elem" 45 4 32]), 9, 72, (Value.agg #[Value.int IntKind.i64 0, Value.int IntKind.u32 0, Value.int IntKind.u64 0, Value.int IntKind.u64 0, Value.int IntKind.i64 0, Value.int IntKind.i64 0, Value.int IntKind.i64 0, Value.int IntKind.i64 0, Value.int IntKind.u64 0]), true⟩
def ti47 : TI := ⟨(TypeDesc.struct #[fd "Kind" 3 0 0, fd "Session" 41 1 8, fd "Seq" 22 2 16, fd "Limit" 22 3 24, fd "Elem" 45 4 32]), 9, 72, (Value.agg #[Value.int IntKind.i64 0, Value.int IntKind.u32 0, Value.int IntKind.u64 0, Value.int IntKind.u64 0, Value.int IntKind.i64 0, Value.int IntKind.i64 0, Value.int IntKind.i64 0, Value.int IntKind.i64 0, Value.int IntKind.u64 0]), true⟩
def ti48 : TI := ⟨(TypeDesc.struct #[fd "Kind" 3 0 0, fd "From" 3 1 8, fd "To" 3 2 16, fd "Epoch" 22 3 24, fd "Attempt" 3 4 32, fd "Task" 3 5 40, fd "Number" 22 6 48, fd "Laid" 31 7 56, fd "Snap" 39 10 128, fd "Names" 37 24 272, fd "Up" 40 25 296, fd "Ended" 40 26 320, fd "Packet" 47 27 344]), 36, 416, (Value.agg #[Value.int IntKind.i64 0, Value.int IntKind.i64 0, Value.int IntKind.i64 0, Value.int IntKind.u64 0, Value.int IntKind.i64 0, Value.int IntKind.i64 0, Value.int IntKind.u64 0, Value.slice none 0 0, Value.slice none 0 0, Value.slice none 0 0, Value.int IntKind.i64 0, Value.int IntKind.i64 0, Value.int IntKind.i64 0, Value.bool false, Value.slice none 0 0, Value.int IntKind.i64 0, Value.int IntKind.i64 0, Value.int IntKind.i64 0, Value.int IntKind.i64 0, Value.int IntKind.i64 0, Value.int IntKind.i64 0, Value.int IntKind.i64 0, Value.int IntKind.i64 0, Value.slice none 0 0, Value.slice none 0 0, Value.slice none 0 0, Value.slice none 0 0, Value.int IntKind.i64 0, Value.int IntKind.u32 0, Value.int IntKind.u64 0, Value.int IntKind.u64 0, Value.int IntKind.i64 0, Value.int IntKind.i64 0, Value.int IntKind.i64 0, Value.int IntKind.i64 0, Value.int IntKind.u64 0]), false⟩
def ti49 : TI := ⟨(TypeDesc.struct #[fd "Kind" 3 0 0, fd "From" 3 1 8, fd "To" 3 2 16, fd "Epoch" 22 3 24, fd "Attempt" 3 4 32, fd "Task" 3 5 40, fd "Number" 22 6 48, fd "Laid" 31 7 56, fd "Snap" 39 10 128, fd "Names" 37 24 272, fd "Up" 40 25 296, fd "Ended" 40 26 320, fd "Packet" 47 27 344]), 36, 416, (Value.agg #[Value.int IntKind.i64 0, Value.int IntKind.i64 0, Value.int IntKind.i64 0, Value.int IntKind.u64 0, Value.int IntKind.i64 0, Value.int IntKind.i64 0, Value.int IntKind.u64 0, Value.slice none 0 0, Value.slice none 0 0, Value.slice none 0 0, Value.int IntKind.i64 0, Value.int IntKind.i64 0, Value.int IntKind.i64 0, Value.bool false, Value.slice none 0 0, Value.int IntKind.i64 0, Value.int IntKind.i64 0, Value.int IntKind.i64 0, Value.int IntKind.i64 0, Value.int IntKind.i64 0, Value.int IntKind.i64 0, Value.int IntKind.i64 0, Value.int IntKind.i64 0, Value.slice none 0 0, Value.slice none 0 0, Value.slice none 0 0, Value.slice none 0 0, Value.int IntKind.i64 0, Value.int IntKind.u32 0, Value.int IntKind.u64 0, Value.int IntKind.u64 0, Value.int IntKind.i64 0, Value.int IntKind.i64 0, Value.int IntKind.i64 0, Value.int IntKind.i64 0, Value.int IntKind.u64 0]), false⟩
def ti50 : TI := ⟨(TypeDesc.func #[] #[4] false), 1, 8, Value.nilFunc, false⟩
def ti51 : TI := ⟨(TypeDesc.func #[49] #[4] false), 1, 8, Value.nilFunc, false⟩
def ti52 : TI := ⟨(TypeDesc.slice 5), 1, 24, (Value.slice none 0 0), false⟩
def ti53 : TI := ⟨(TypeDesc.int IntKind.i64), 1, 8, (Value.int IntKind.i64 0), false⟩
def ti55 : TI := ⟨(TypeDesc.func #[49] #[52, 53] false), 1, 8, Value.nilFunc, false⟩
def ti56 : TI := ⟨(TypeDesc.func #[52, 52] #[4] false), 1, 8, Value.nilFunc, false⟩
def ti57 : TI := ⟨(TypeDesc.func #[49] #[52] false), 1, 8, Value.nilFunc, false⟩
def ti59 : TI := ⟨(TypeDesc.func #[52] #[49, 53] false), 1, 8, Value.nilFunc, false⟩
def ti60 : TI := ⟨(TypeDesc.func #[49, 49] #[4] false), 1, 8, Value.nilFunc, false⟩
def ti61 : TI := ⟨(TypeDesc.func #[52] #[52] false), 1, 8, Value.nilFunc, false⟩
def ti62 : TI := ⟨(TypeDesc.func #[52, 49, 3] #[4] false), 1, 8, Value.nilFunc, false⟩
def ti63 : TI := ⟨(TypeDesc.func #[49, 52] #[4] false), 1, 8, Value.nilFunc, false⟩
def ti64 : TI := ⟨(TypeDesc.struct #[fd "Tag" 3 0 0, fd "Width" 3 1 8, fd "Inputs" 40 2 16, fd "A" 2 3 40, fd "B" 2 4 48]), 5, 56, (Value.agg #[Value.int IntKind.i64 0, Value.int IntKind.i64 0, Value.slice none 0 0, Value.int IntKind.i64 0, Value.int IntKind.i64 0]), false⟩
def ti65 : TI := ⟨(TypeDesc.struct #[fd "Tag" 3 0 0, fd "Width" 3 1 8, fd "Inputs" 40 2 16, fd "A" 2 3 40, fd "B" 2 4 48]), 5, 56, (Value.agg #[Value.int IntKind.i64 0, Value.int IntKind.i64 0, Value.slice none 0 0, Value.int IntKind.i64 0, Value.int IntKind.i64 0]), false⟩
def ti66 : TI := ⟨(TypeDesc.slice 43), 1, 24, (Value.slice none 0 0), false⟩
def ti67 : TI := ⟨(TypeDesc.struct #[fd "Source" 3 0 0, fd "Records" 66 1 8]), 2, 32, (Value.agg #[Value.int IntKind.i64 0, Value.slice none 0 0]), false⟩
def ti68 : TI := ⟨(TypeDesc.struct #[fd "Source" 3 0 0, fd "Records" 66 1 8]), 2, 32, (Value.agg #[Value.int IntKind.i64 0, Value.slice none 0 0]), false⟩
def ti69 : TI := ⟨(TypeDesc.func #[49] #[53] false), 1, 8, Value.nilFunc, false⟩
def ti70 : TI := ⟨(TypeDesc.func #[22] #[4] false), 1, 8, Value.nilFunc, false⟩
def ti71 : TI := ⟨(TypeDesc.func #[37] #[4] false), 1, 8, Value.nilFunc, false⟩
def ti72 : TI := ⟨(TypeDesc.func #[39] #[4] false), 1, 8, Value.nilFunc, false⟩
def ti73 : TI := ⟨(TypeDesc.func #[40] #[4] false), 1, 8, Value.nilFunc, false⟩
def ti74 : TI := ⟨(TypeDesc.func #[47] #[4] false), 1, 8, Value.nilFunc, false⟩
def ti75 : TI := ⟨(TypeDesc.func #[3] #[4] false), 1, 8, Value.nilFunc, false⟩
def ti76 : TI := ⟨(TypeDesc.func #[3] #[3] false), 1, 8, Value.nilFunc, false⟩
def ti77 : TI := ⟨(TypeDesc.func #[52] #[52, 53] false), 1, 8, Value.nilFunc, false⟩
def ti78 : TI := ⟨(TypeDesc.func #[52] #[49] false), 1, 8, Value.nilFunc, false⟩
def ti79 : TI := ⟨(TypeDesc.func #[25, 25] #[4] false), 1, 8, Value.nilFunc, false⟩
def ti80 : TI := ⟨(TypeDesc.func #[26, 26, 81] #[4] false), 1, 8, Value.nilFunc, false⟩
def ti81 : TI := ⟨(TypeDesc.func #[68, 68] #[4] false), 1, 8, Value.nilFunc, false⟩
def ti82 : TI := ⟨(TypeDesc.func #[29, 29] #[4] false), 1, 8, Value.nilFunc, false⟩
def ti83 : TI := ⟨(TypeDesc.struct #[fd "Task" 3 0 0, fd "Worker" 3 1 8]), 2, 16, (Value.agg #[Value.int IntKind.i64 0, Value.int IntKind.i64 0]), true⟩
def ti84 : TI := ⟨(TypeDesc.struct #[fd "Task" 3 0 0, fd "Worker" 3 1 8]), 2, 16, (Value.agg #[Value.int IntKind.i64 0, Value.int IntKind.i64 0]), true⟩
def ti85 : TI := ⟨(TypeDesc.func #[39, 39] #[4] false), 1, 8, Value.nilFunc, false⟩
def ti86 : TI := ⟨(TypeDesc.func #[37, 37] #[4] false), 1, 8, Value.nilFunc, false⟩
def ti87 : TI := ⟨(TypeDesc.struct #[fd "Sink" 3 0 0, fd "Attempt" 3 1 8, fd "Serial" 3 2 16]), 3, 24, (Value.agg #[Value.int IntKind.i64 0, Value.int IntKind.i64 0, Value.int IntKind.i64 0]), true⟩
def ti88 : TI := ⟨(TypeDesc.struct #[fd "Sink" 3 0 0, fd "Attempt" 3 1 8, fd "Serial" 3 2 16]), 3, 24, (Value.agg #[Value.int IntKind.i64 0, Value.int IntKind.i64 0, Value.int IntKind.i64 0]), true⟩
def ti89 : TI := ⟨(TypeDesc.func #[40, 40] #[4] false), 1, 8, Value.nilFunc, false⟩
def ti90 : TI := ⟨(TypeDesc.func #[52, 52] #[52] false), 1, 8, Value.nilFunc, false⟩
def ti91 : TI := ⟨(TypeDesc.func #[22, 3] #[52] false), 1, 8, Value.nilFunc, false⟩
def ti92 : TI := ⟨(TypeDesc.func #[25] #[52] false), 1, 8, Value.nilFunc, false⟩
def ti93 : TI := ⟨(TypeDesc.func #[66] #[52] false), 1, 8, Value.nilFunc, false⟩
def ti94 : TI := ⟨(TypeDesc.func #[39] #[52] false), 1, 8, Value.nilFunc, false⟩
def ti95 : TI := ⟨(TypeDesc.func #[96] #[52] false), 1, 8, Value.nilFunc, false⟩
def ti96 : TI := ⟨(TypeDesc.slice 45), 1, 24, (Value.slice none 0 0), false⟩
def ti97 : TI := ⟨(TypeDesc.func #[52] #[41] false), 1, 8, Value.nilFunc, false⟩
def ti98 : TI := ⟨(TypeDesc.func #[26, 26] #[4] false), 1, 8, Value.nilFunc, false⟩
def ti100 : TI := ⟨(TypeDesc.func #[49] #[49, 4] false), 1, 8, Value.nilFunc, false⟩
def ti101 : TI := ⟨(TypeDesc.func #[31] #[4] false), 1, 8, Value.nilFunc, false⟩
def ti102 : TI := ⟨(TypeDesc.func #[52, 41] #[52] false), 1, 8, Value.nilFunc, false⟩
def ti103 : TI := ⟨(TypeDesc.pointer 105), 1, 8, (Value.pointer none), false⟩
noncomputable def ti104 : TI := ⟨Tryz.t104.desc, 37, 440, (Value.agg #[Value.int IntKind.i64 0, Value.int IntKind.i64 0, Value.int IntKind.i64 0, Value.int IntKind.u64 0, Value.int IntKind.i64 0, Value.int IntKind.i64 0, Value.int IntKind.u64 0, Value.slice none 0 0, Value.slice none 0 0, Value.slice none 0 0, Value.int IntKind.i64 0, Value.int IntKind.i64 0, Value.int IntKind.i64 0, Value.bool false, Value.slice none 0 0, Value.int IntKind.i64 0, Value.int IntKind.i64 0, Value.int IntKind.i64 0, Value.int IntKind.i64 0, Value.int IntKind.i64 0, Value.int IntKind.i64 0, Value.int IntKind.i64 0, Value.int IntKind.i64 0, Value.slice none 0 0, Value.slice none 0 0, Value.slice none 0 0, Value.slice none 0 0, Value.int IntKind.i64 0, Value.int IntKind.u32 0, Value.int IntKind.u64 0, Value.int IntKind.u64 0, Value.int IntKind.i64 0, Value.int IntKind.i64 0, Value.int IntKind.i64 0, Value.int IntKind.i64 0, Value.int IntKind.u64 0, Value.slice none 0 0]), false⟩
noncomputable def ti105 : TI := ⟨Tryz.t104.desc, 37, 440, (Value.agg #[Value.int IntKind.i64 0, Value.int IntKind.i64 0, Value.int IntKind.i64 0, Value.int IntKind.u64 0, Value.int IntKind.i64 0, Value.int IntKind.i64 0, Value.int IntKind.u64 0, Value.slice none 0 0, Value.slice none 0 0, Value.slice none 0 0, Value.int IntKind.i64 0, Value.int IntKind.i64 0, Value.int IntKind.i64 0, Value.bool false, Value.slice none 0 0, Value.int IntKind.i64 0, Value.int IntKind.i64 0, Value.int IntKind.i64 0, Value.int IntKind.i64 0, Value.int IntKind.i64 0, Value.int IntKind.i64 0, Value.int IntKind.i64 0, Value.int IntKind.i64 0, Value.slice none 0 0, Value.slice none 0 0, Value.slice none 0 0, Value.slice none 0 0, Value.int IntKind.i64 0, Value.int IntKind.u32 0, Value.int IntKind.u64 0, Value.int IntKind.u64 0, Value.int IntKind.i64 0, Value.int IntKind.i64 0, Value.int IntKind.i64 0, Value.int IntKind.i64 0, Value.int IntKind.u64 0, Value.slice none 0 0]), false⟩
def ti106 : TI := ⟨(TypeDesc.func #[52, 22] #[52] false), 1, 8, Value.nilFunc, false⟩
def ti107 : TI := ⟨(TypeDesc.map 3 1), 1, 8, (Value.map none), false⟩
def ti109 : TI := ⟨(TypeDesc.func #[31] #[53] false), 1, 8, Value.nilFunc, false⟩
def ti110 : TI := ⟨(TypeDesc.func #[25, 39] #[4] false), 1, 8, Value.nilFunc, false⟩
def ti111 : TI := ⟨(TypeDesc.struct #[fd "Op" 3 0 0, fd "Index" 3 1 8]), 2, 16, (Value.agg #[Value.int IntKind.i64 0, Value.int IntKind.i64 0]), true⟩
def ti112 : TI := ⟨(TypeDesc.struct #[fd "Op" 3 0 0, fd "Index" 3 1 8]), 2, 16, (Value.agg #[Value.int IntKind.i64 0, Value.int IntKind.i64 0]), true⟩
def ti113 : TI := ⟨(TypeDesc.slice 112), 1, 24, (Value.slice none 0 0), false⟩
def ti114 : TI := ⟨(TypeDesc.func #[25] #[113] false), 1, 8, Value.nilFunc, false⟩
def ti115 : TI := ⟨(TypeDesc.func #[88] #[4] false), 1, 8, Value.nilFunc, false⟩
def ti116 : TI := ⟨(TypeDesc.func #[88, 88] #[4] false), 1, 8, Value.nilFunc, false⟩
def ti117 : TI := ⟨(TypeDesc.func #[3, 3, 3] #[4] false), 1, 8, Value.nilFunc, false⟩
def ti118 : TI := ⟨(TypeDesc.func #[34] #[4] false), 1, 8, Value.nilFunc, false⟩
def ti119 : TI := ⟨(TypeDesc.struct #[fd "Count" 2 0 0, fd "Sum" 2 1 8]), 2, 16, (Value.agg #[Value.int IntKind.i64 0, Value.int IntKind.i64 0]), true⟩
def ti120 : TI := ⟨(TypeDesc.struct #[fd "Count" 2 0 0, fd "Sum" 2 1 8]), 2, 16, (Value.agg #[Value.int IntKind.i64 0, Value.int IntKind.i64 0]), true⟩
def ti121 : TI := ⟨(TypeDesc.struct #[fd "Source" 3 0 0, fd "Key" 3 1 8, fd "Cell" 120 2 16]), 4, 32, (Value.agg #[Value.int IntKind.i64 0, Value.int IntKind.i64 0, Value.int IntKind.i64 0, Value.int IntKind.i64 0]), true⟩
def ti122 : TI := ⟨(TypeDesc.struct #[fd "Source" 3 0 0, fd "Key" 3 1 8, fd "Cell" 120 2 16]), 4, 32, (Value.agg #[Value.int IntKind.i64 0, Value.int IntKind.i64 0, Value.int IntKind.i64 0, Value.int IntKind.i64 0]), true⟩
def ti123 : TI := ⟨(TypeDesc.func #[45] #[4] false), 1, 8, Value.nilFunc, false⟩
def ti124 : TI := ⟨(TypeDesc.pointer 161), 1, 8, (Value.pointer none), false⟩
def ti125 : TI := ⟨(TypeDesc.func #[52] #[124] false), 1, 8, Value.nilFunc, false⟩
def ti126 : TI := ⟨(TypeDesc.func #[] #[41] false), 1, 8, Value.nilFunc, false⟩
def ti127 : TI := ⟨(TypeDesc.pointer 129), 1, 8, (Value.pointer none), false⟩
def ti128 : TI := ⟨(TypeDesc.struct #[{ name := "Reader", type := 124, offset := 0, embedded := true, tag := "", pkgPath := "", byteOffset := 0 }, { name := "Msg", type := 49, offset := 1, embedded := true, tag := "", pkgPath := "", byteOffset := 8 }]), 37, 424, (Value.agg #[Value.pointer none, Value.int IntKind.i64 0, Value.int IntKind.i64 0, Value.int IntKind.i64 0, Value.int IntKind.u64 0, Value.int IntKind.i64 0, Value.int IntKind.i64 0, Value.int IntKind.u64 0, Value.slice none 0 0, Value.slice none 0 0, Value.slice none 0 0, Value.int IntKind.i64 0, Value.int IntKind.i64 0, Value.int IntKind.i64 0, Value.bool false, Value.slice none 0 0, Value.int IntKind.i64 0, Value.int IntKind.i64 0, Value.int IntKind.i64 0, Value.int IntKind.i64 0, Value.int IntKind.i64 0, Value.int IntKind.i64 0, Value.int IntKind.i64 0, Value.int IntKind.i64 0, Value.slice none 0 0, Value.slice none 0 0, Value.slice none 0 0, Value.slice none 0 0, Value.int IntKind.i64 0, Value.int IntKind.u32 0, Value.int IntKind.u64 0, Value.int IntKind.u64 0, Value.int IntKind.i64 0, Value.int IntKind.i64 0, Value.int IntKind.i64 0, Value.int IntKind.i64 0, Value.int IntKind.u64 0]), false⟩
def ti129 : TI := ⟨(TypeDesc.struct #[{ name := "Reader", type := 124, offset := 0, embedded := true, tag := "", pkgPath := "", byteOffset := 0 }, { name := "Msg", type := 49, offset := 1, embedded := true, tag := "", pkgPath := "", byteOffset := 8 }]), 37, 424, (Value.agg #[Value.pointer none, Value.int IntKind.i64 0, Value.int IntKind.i64 0, Value.int IntKind.i64 0, Value.int IntKind.u64 0, Value.int IntKind.i64 0, Value.int IntKind.i64 0, Value.int IntKind.u64 0, Value.slice none 0 0, Value.slice none 0 0, Value.slice none 0 0, Value.int IntKind.i64 0, Value.int IntKind.i64 0, Value.int IntKind.i64 0, Value.bool false, Value.slice none 0 0, Value.int IntKind.i64 0, Value.int IntKind.i64 0, Value.int IntKind.i64 0, Value.int IntKind.i64 0, Value.int IntKind.i64 0, Value.int IntKind.i64 0, Value.int IntKind.i64 0, Value.int IntKind.i64 0, Value.slice none 0 0, Value.slice none 0 0, Value.slice none 0 0, Value.slice none 0 0, Value.int IntKind.i64 0, Value.int IntKind.u32 0, Value.int IntKind.u64 0, Value.int IntKind.u64 0, Value.int IntKind.i64 0, Value.int IntKind.i64 0, Value.int IntKind.i64 0, Value.int IntKind.i64 0, Value.int IntKind.u64 0]), false⟩
def ti130 : TI := ⟨(TypeDesc.func #[] #[3] false), 1, 8, Value.nilFunc, false⟩
def ti131 : TI := ⟨(TypeDesc.func #[] #[22] false), 1, 8, Value.nilFunc, false⟩
def ti132 : TI := ⟨(TypeDesc.func #[23, 23, 133] #[4] false), 1, 8, Value.nilFunc, false⟩
def ti133 : TI := ⟨(TypeDesc.func #[65, 65] #[4] false), 1, 8, Value.nilFunc, false⟩
def ti134 : TI := ⟨(TypeDesc.func #[66, 66] #[4] false), 1, 8, Value.nilFunc, false⟩
def ti135 : TI := ⟨(TypeDesc.func #[34, 34] #[4] false), 1, 8, Value.nilFunc, false⟩
def ti136 : TI := ⟨(TypeDesc.int IntKind.u64), 1, 8, (Value.int IntKind.u64 0), false⟩
def ti137 : TI := ⟨(TypeDesc.func #[34] #[52] false), 1, 8, Value.nilFunc, false⟩
def ti138 : TI := ⟨(TypeDesc.func #[52] #[22] false), 1, 8, Value.nilFunc, false⟩
def ti139 : TI := ⟨(TypeDesc.func #[88, 88] #[3] false), 1, 8, Value.nilFunc, false⟩
def ti140 : TI := ⟨(TypeDesc.func #[88] #[53] false), 1, 8, Value.nilFunc, false⟩
noncomputable def ti141 : TI := ⟨Tryz.t141.desc, 2, 16, (Value.agg #[Value.nilFunc, Value.nilFunc]), false⟩
noncomputable def ti142 : TI := ⟨Tryz.t141.desc, 2, 16, (Value.agg #[Value.nilFunc, Value.nilFunc]), false⟩
def ti143 : TI := ⟨(TypeDesc.func #[39] #[53] false), 1, 8, Value.nilFunc, false⟩
def ti144 : TI := ⟨(TypeDesc.func #[52, 22, 3] #[52] false), 1, 8, Value.nilFunc, false⟩
def ti145 : TI := ⟨(TypeDesc.func #[5] #[] false), 1, 8, Value.nilFunc, false⟩
def ti146 : TI := ⟨(TypeDesc.func #[25] #[52, 53] false), 1, 8, Value.nilFunc, false⟩
def ti147 : TI := ⟨(TypeDesc.func #[52] #[] false), 1, 8, Value.nilFunc, false⟩
def ti148 : TI := ⟨(TypeDesc.func #[96] #[52, 53] false), 1, 8, Value.nilFunc, false⟩
def ti149 : TI := ⟨(TypeDesc.array 2 40), 2, 48, (Value.agg #[Value.slice none 0 0, Value.slice none 0 0]), false⟩
def ti150 : TI := ⟨(TypeDesc.func #[28] #[53] false), 1, 8, Value.nilFunc, false⟩
def ti151 : TI := ⟨(TypeDesc.func #[25] #[4] false), 1, 8, Value.nilFunc, false⟩
def ti152 : TI := ⟨(TypeDesc.func #[65, 120] #[4] false), 1, 8, Value.nilFunc, false⟩
def ti153 : TI := ⟨(TypeDesc.func #[3, 3] #[4] false), 1, 8, Value.nilFunc, false⟩
def ti154 : TI := ⟨(TypeDesc.func #[43] #[4] false), 1, 8, Value.nilFunc, false⟩
def ti155 : TI := ⟨(TypeDesc.func #[122] #[43] false), 1, 8, Value.nilFunc, false⟩
def ti156 : TI := ⟨(TypeDesc.func #[43, 43] #[3] false), 1, 8, Value.nilFunc, false⟩
def ti157 : TI := ⟨(TypeDesc.func #[3, 3] #[3] false), 1, 8, Value.nilFunc, false⟩
noncomputable def ti158 : TI := ⟨Tryz.t158.desc, 2, 32, (Value.agg #[Value.slice none 0 0, Value.int IntKind.i64 0]), false⟩
noncomputable def ti159 : TI := ⟨Tryz.t158.desc, 2, 32, (Value.agg #[Value.slice none 0 0, Value.int IntKind.i64 0]), false⟩
noncomputable def ti160 : TI := ⟨Tryz.t160.desc, 2, 32, (Value.agg #[Value.slice none 0 0, Value.int IntKind.i64 0]), false⟩
noncomputable def ti161 : TI := ⟨Tryz.t160.desc, 2, 32, (Value.agg #[Value.slice none 0 0, Value.int IntKind.i64 0]), false⟩
def ti162 : TI := ⟨(TypeDesc.func #[3] #[22] false), 1, 8, Value.nilFunc, false⟩
def ti163 : TI := ⟨(TypeDesc.func #[] #[5] false), 1, 8, Value.nilFunc, false⟩
def ti165 : TI := ⟨(TypeDesc.func #[52] #[25, 53] false), 1, 8, Value.nilFunc, false⟩
def ti166 : TI := ⟨(TypeDesc.func #[] #[52] false), 1, 8, Value.nilFunc, false⟩
def ti167 : TI := ⟨(TypeDesc.func #[127, 168] #[26] false), 1, 8, Value.nilFunc, false⟩
def ti168 : TI := ⟨(TypeDesc.func #[] #[68] false), 1, 8, Value.nilFunc, false⟩
def ti169 : TI := ⟨(TypeDesc.func #[127, 170] #[29] false), 1, 8, Value.nilFunc, false⟩
def ti170 : TI := ⟨(TypeDesc.func #[] #[84] false), 1, 8, Value.nilFunc, false⟩
def ti171 : TI := ⟨(TypeDesc.func #[127, 172] #[37] false), 1, 8, Value.nilFunc, false⟩
def ti172 : TI := ⟨(TypeDesc.func #[] #[88] false), 1, 8, Value.nilFunc, false⟩
def ti173 : TI := ⟨(TypeDesc.func #[127, 130] #[40] false), 1, 8, Value.nilFunc, false⟩
def ti175 : TI := ⟨(TypeDesc.func #[52] #[96, 53] false), 1, 8, Value.nilFunc, false⟩
def ti176 : TI := ⟨(TypeDesc.func #[32, 32] #[4] false), 1, 8, Value.nilFunc, false⟩
def ti178 : TI := ⟨(TypeDesc.func #[3] #[3, 4] false), 1, 8, Value.nilFunc, false⟩
def ti179 : TI := ⟨(TypeDesc.func #[40] #[3] true), 1, 8, Value.nilFunc, false⟩
def ti181 : TI := ⟨(TypeDesc.func #[3, 3] #[40, 53] false), 1, 8, Value.nilFunc, false⟩
def ti182 : TI := ⟨(TypeDesc.func #[34] #[53] false), 1, 8, Value.nilFunc, false⟩
def ti183 : TI := ⟨(TypeDesc.func #[37] #[4] true), 1, 8, Value.nilFunc, false⟩
def ti184 : TI := ⟨(TypeDesc.func #[43, 3, 3] #[4] false), 1, 8, Value.nilFunc, false⟩
def ti185 : TI := ⟨(TypeDesc.func #[122] #[4] false), 1, 8, Value.nilFunc, false⟩
def ti186 : TI := ⟨(TypeDesc.func #[75] #[] false), 1, 8, Value.nilFunc, false⟩
def ti187 : TI := ⟨(TypeDesc.func #[75] #[] false), 1, 8, Value.nilFunc, false⟩
def ti188 : TI := ⟨(TypeDesc.func #[3, 3] #[187] false), 1, 8, Value.nilFunc, false⟩
def ti189 : TI := ⟨(TypeDesc.func #[32, 185] #[4] false), 1, 8, Value.nilFunc, false⟩
noncomputable def ti190 : TI := ⟨Tryz.t190.desc, 2, 16, (Value.agg #[Value.nilFunc, Value.nilFunc]), false⟩
noncomputable def ti191 : TI := ⟨Tryz.t190.desc, 2, 16, (Value.agg #[Value.nilFunc, Value.nilFunc]), false⟩
def ti192 : TI := ⟨(TypeDesc.func #[45] #[53] false), 1, 8, Value.nilFunc, false⟩
def ti194 : TI := ⟨(TypeDesc.func #[25] #[3, 53] false), 1, 8, Value.nilFunc, false⟩
def ti195 : TI := ⟨(TypeDesc.func #[52, 196] #[52] false), 1, 8, Value.nilFunc, false⟩
def ti196 : TI := ⟨(TypeDesc.int IntKind.u16), 1, 2, (Value.int IntKind.u16 0), false⟩
def ti197 : TI := ⟨(TypeDesc.func #[96, 123] #[4] false), 1, 8, Value.nilFunc, false⟩
def ti198 : TI := ⟨(TypeDesc.func #[39] #[52, 53] false), 1, 8, Value.nilFunc, false⟩
def ti199 : TI := ⟨(TypeDesc.func #[68] #[4] false), 1, 8, Value.nilFunc, false⟩
def ti200 : TI := ⟨(TypeDesc.func #[3, 147] #[] false), 1, 8, Value.nilFunc, false⟩
def ti202 : TI := ⟨(TypeDesc.func #[203, 3] #[52, 4] false), 1, 8, Value.nilFunc, false⟩
def ti203 : TI := ⟨(TypeDesc.pointer 52), 1, 8, (Value.pointer none), false⟩
def ti204 : TI := ⟨(TypeDesc.func #[52] #[2] false), 1, 8, Value.nilFunc, false⟩
def ti205 : TI := ⟨(TypeDesc.func #[3] #[52] false), 1, 8, Value.nilFunc, false⟩
def ti206 : TI := ⟨(TypeDesc.func #[] #[196] false), 1, 8, Value.nilFunc, false⟩
def ti207 : TI := ⟨(TypeDesc.func #[] #[53] false), 1, 8, Value.nilFunc, false⟩
def ti209 : TI := ⟨(TypeDesc.func #[52] #[39, 53] false), 1, 8, Value.nilFunc, false⟩
def ti210 : TI := ⟨(TypeDesc.pointer 212), 1, 8, (Value.pointer none), false⟩
noncomputable def ti211 : TI := ⟨Tryz.t211.desc, 2, 16, (Value.agg #[Value.pointer none, Value.int IntKind.i64 0]), false⟩
noncomputable def ti212 : TI := ⟨Tryz.t211.desc, 2, 16, (Value.agg #[Value.pointer none, Value.int IntKind.i64 0]), false⟩
def ti213 : TI := ⟨(TypeDesc.func #[4] #[] false), 1, 8, Value.nilFunc, false⟩
def ti214 : TI := ⟨(TypeDesc.func #[] #[45] false), 1, 8, Value.nilFunc, false⟩
def ti215 : TI := ⟨(TypeDesc.map 3 214), 1, 8, (Value.map none), false⟩
def ti217 : TI := ⟨(TypeDesc.func #[25] #[3] false), 1, 8, Value.nilFunc, false⟩
def ti218 : TI := ⟨(TypeDesc.func #[3] #[3, 53] false), 1, 8, Value.nilFunc, false⟩
def ti219 : TI := ⟨(TypeDesc.func #[65] #[4] false), 1, 8, Value.nilFunc, false⟩
def ti220 : TI := ⟨(TypeDesc.func #[187] #[40] false), 1, 8, Value.nilFunc, false⟩
def ti221 : TI := ⟨(TypeDesc.func #[43] #[53] false), 1, 8, Value.nilFunc, false⟩
def ti222 : TI := ⟨(TypeDesc.func #[43] #[3, 53] false), 1, 8, Value.nilFunc, false⟩
def ti223 : TI := ⟨(TypeDesc.func #[40] #[187] false), 1, 8, Value.nilFunc, false⟩
def ti224 : TI := ⟨(TypeDesc.func #[32, 185] #[3] false), 1, 8, Value.nilFunc, false⟩
def ti225 : TI := ⟨(TypeDesc.func #[25, 3, 3] #[53] false), 1, 8, Value.nilFunc, false⟩
def ti226 : TI := ⟨(TypeDesc.map 3 4), 1, 8, (Value.map none), false⟩
def ti227 : TI := ⟨(TypeDesc.func #[96, 123] #[3] false), 1, 8, Value.nilFunc, false⟩
def ti228 : TI := ⟨(TypeDesc.func #[34] #[52, 53] false), 1, 8, Value.nilFunc, false⟩
def ti229 : TI := ⟨(TypeDesc.func #[25, 3] #[53] false), 1, 8, Value.nilFunc, false⟩
def ti230 : TI := ⟨(TypeDesc.func #[25, 3] #[40] false), 1, 8, Value.nilFunc, false⟩
def ti231 : TI := ⟨(TypeDesc.pointer 159), 1, 8, (Value.pointer none), false⟩
def ti233 : TI := ⟨(TypeDesc.func #[52] #[34, 53] false), 1, 8, Value.nilFunc, false⟩
def ti234 : TI := ⟨(TypeDesc.func #[68] #[53] false), 1, 8, Value.nilFunc, false⟩
def ti235 : TI := ⟨(TypeDesc.func #[40] #[] false), 1, 8, Value.nilFunc, false⟩
def ti236 : TI := ⟨(TypeDesc.func #[65, 120] #[53] false), 1, 8, Value.nilFunc, false⟩
def ti237 : TI := ⟨(TypeDesc.func #[40, 187] #[40] false), 1, 8, Value.nilFunc, false⟩
def ti238 : TI := ⟨(TypeDesc.func #[65, 3] #[4] false), 1, 8, Value.nilFunc, false⟩
def ti239 : TI := ⟨(TypeDesc.func #[40, 75] #[4] false), 1, 8, Value.nilFunc, false⟩
def ti240 : TI := ⟨(TypeDesc.func #[23, 219] #[4] false), 1, 8, Value.nilFunc, false⟩
def ti241 : TI := ⟨(TypeDesc.func #[25, 3] #[4] false), 1, 8, Value.nilFunc, false⟩
def ti242 : TI := ⟨(TypeDesc.func #[40, 3] #[4] false), 1, 8, Value.nilFunc, false⟩
def ti243 : TI := ⟨(TypeDesc.func #[66, 154] #[4] false), 1, 8, Value.nilFunc, false⟩
def ti244 : TI := ⟨(TypeDesc.func #[40, 3, 3, 3] #[] false), 1, 8, Value.nilFunc, false⟩
def ti245 : TI := ⟨(TypeDesc.func #[136] #[3] false), 1, 8, Value.nilFunc, false⟩
def ti246 : TI := ⟨(TypeDesc.func #[40, 75] #[3] false), 1, 8, Value.nilFunc, false⟩
def ti247 : TI := ⟨(TypeDesc.func #[23, 219] #[3] false), 1, 8, Value.nilFunc, false⟩
def ti248 : TI := ⟨(TypeDesc.func #[3] #[40] false), 1, 8, Value.nilFunc, false⟩
def ti249 : TI := ⟨(TypeDesc.slice 40), 1, 24, (Value.slice none 0 0), false⟩
def ti250 : TI := ⟨(TypeDesc.func #[249] #[40] true), 1, 8, Value.nilFunc, false⟩
def ti251 : TI := ⟨(TypeDesc.func #[66, 154] #[3] false), 1, 8, Value.nilFunc, false⟩
def ti252 : TI := ⟨(TypeDesc.func #[40, 3, 3] #[] false), 1, 8, Value.nilFunc, false⟩
def ti253 : TI := ⟨(TypeDesc.int IntKind.i64), 1, 8, (Value.int IntKind.i64 0), false⟩
def ti255 : TI := ⟨(TypeDesc.func #[40, 3, 3] #[3, 253] false), 1, 8, Value.nilFunc, false⟩
def ti256 : TI := ⟨(TypeDesc.func #[40, 3, 3] #[4] false), 1, 8, Value.nilFunc, false⟩
def ti257 : TI := ⟨(TypeDesc.func #[40, 3, 3, 3] #[3] false), 1, 8, Value.nilFunc, false⟩
def ti258 : TI := ⟨(TypeDesc.func #[40, 3, 3, 3] #[3, 4] false), 1, 8, Value.nilFunc, false⟩
def ti259 : TI := ⟨(TypeDesc.func #[41] #[3] false), 1, 8, Value.nilFunc, false⟩
def ti260 : TI := ⟨(TypeDesc.func #[22] #[3] false), 1, 8, Value.nilFunc, false⟩
def ti261 : TI := ⟨(TypeDesc.func #[40] #[40] false), 1, 8, Value.nilFunc, false⟩
def ti262 : TI := ⟨(TypeDesc.func #[40, 3] #[40] false), 1, 8, Value.nilFunc, false⟩
def ti263 : TI := ⟨(TypeDesc.int IntKind.u64), 1, 8, (Value.int IntKind.u64 0), false⟩
def ti264 : TI := ⟨(TypeDesc.func #[3] #[136] false), 1, 8, Value.nilFunc, false⟩
def ti265 : TI := ⟨(TypeDesc.func #[40, 3, 266] #[3] false), 1, 8, Value.nilFunc, false⟩
def ti266 : TI := ⟨(TypeDesc.pointer 3), 1, 8, (Value.pointer none), false⟩
def ti267 : TI := ⟨(TypeDesc.func #[40, 3, 3, 3, 266] #[3] false), 1, 8, Value.nilFunc, false⟩
def ti268 : TI := ⟨(TypeDesc.pointer 263), 1, 8, (Value.pointer none), false⟩
def ti270 : TI := ⟨(TypeDesc.func #[40, 3, 3, 266] #[3, 3] false), 1, 8, Value.nilFunc, false⟩
def ti271 : TI := ⟨(TypeDesc.func #[] #[9] false), 1, 8, Value.nilFunc, false⟩
def ti274 : TI := ⟨(TypeDesc.array 0 16), 0, 0, (Value.agg #[]), false⟩
def ti279 : TI := ⟨(TypeDesc.func #[285, 285] #[4] false), 1, 8, Value.nilFunc, false⟩
def ti280 : TI := ⟨(TypeDesc.pointer 5), 1, 8, (Value.pointer none), false⟩
noncomputable def tab : Tab := [(1, ti1), (2, ti2), (3, ti3), (4, ti4), (5, ti5), (9, ti9), (10, ti10), (11, ti11), (12, ti12), (15, ti15), (16, ti16), (17, ti17), (21, ti21), (22, ti22), (23, ti23), (24, ti24), (25, ti25), (26, ti26), (27, ti27), (28, ti28), (29, ti29), (30, ti30), (31, ti31), (32, ti32), (33, ti33), (34, ti34), (35, ti35), (36, ti36), (37, ti37), (38, ti38), (39, ti39), (40, ti40), (41, ti41), (42, ti42), (43, ti43), (44, ti44), (45, ti45), (46, ti46), (47, ti47), (48, ti48), (49, ti49), (50, ti50), (51, ti51), (52, ti52), (53, ti53), (55, ti55), (56, ti56), (57, ti57), (59, ti59), (60, ti60), (61, ti61), (62, ti62), (63, ti63), (64, ti64), (65, ti65), (66, ti66), (67, ti67), (68, ti68), (69, ti69), (70, ti70), (71, ti71), (72, ti72), (73, ti73), (74, ti74), (75, ti75), (76, ti76), (77, ti77), (78, ti78), (79, ti79), (80, ti80), (81, ti81), (82, ti82), (83, ti83), (84, ti84), (85, ti85), (86, ti86), (87, ti87), (88, ti88), (89, ti89), (90, ti90), (91, ti91), (92, ti92), (93, ti93), (94, ti94), (95, ti95), (96, ti96), (97, ti97), (98, ti98), (100, ti100), (101, ti101), (102, ti102), (103, ti103), (104, ti104), (105, ti105), (106, ti106), (107, ti107), (109, ti109), (110, ti110), (111, ti111), (112, ti112), (113, ti113), (114, ti114), (115, ti115), (116, ti116), (117, ti117), (118, ti118), (119, ti119), (120, ti120), (121, ti121), (122, ti122), (123, ti123), (124, ti124), (125, ti125), (126, ti126), (127, ti127), (128, ti128), (129, ti129), (130, ti130), (131, ti131), (132, ti132), (133, ti133), (134, ti134), (135, ti135), (136, ti136), (137, ti137), (138, ti138), (139, ti139), (140, ti140), (141, ti141), (142, ti142), (143, ti143), (144, ti144), (145, ti145), (146, ti146), (147, ti147), (148, ti148), (149, ti149), (150, ti150), (151, ti151), (152, ti152), (153, ti153), (154, ti154), (155, ti155), (156, ti156), (157, ti157), (158, ti158), (159, ti159), (160, ti160), (161, ti161), (162, ti162), (163, ti163), (165, ti165), (166, ti166), (167, ti167), (168, ti168), (169, ti169), (170, ti170), (171, ti171), (172, ti172), (173, ti173), (175, ti175), (176, ti176), (178, ti178), (179, ti179), (181, ti181), (182, ti182), (183, ti183), (184, ti184), (185, ti185), (186, ti186), (187, ti187), (188, ti188), (189, ti189), (190, ti190), (191, ti191), (192, ti192), (194, ti194), (195, ti195), (196, ti196), (197, ti197), (198, ti198), (199, ti199), (200, ti200), (202, ti202), (203, ti203), (204, ti204), (205, ti205), (206, ti206), (207, ti207), (209, ti209), (210, ti210), (211, ti211), (212, ti212), (213, ti213), (214, ti214), (215, ti215), (217, ti217), (218, ti218), (219, ti219), (220, ti220), (221, ti221), (222, ti222), (223, ti223), (224, ti224), (225, ti225), (226, ti226), (227, ti227), (228, ti228), (229, ti229), (230, ti230), (231, ti231), (233, ti233), (234, ti234), (235, ti235), (236, ti236), (237, ti237), (238, ti238), (239, ti239), (240, ti240), (241, ti241), (242, ti242), (243, ti243), (244, ti244), (245, ti245), (246, ti246), (247, ti247), (248, ti248), (249, ti249), (250, ti250), (251, ti251), (252, ti252), (253, ti253), (255, ti255), (256, ti256), (257, ti257), (258, ti258), (259, ti259), (260, ti260), (261, ti261), (262, ti262), (263, ti263), (264, ti264), (265, ti265), (266, ti266), (267, ti267), (268, ti268), (270, ti270), (271, ti271), (274, ti274), (279, ti279), (280, ti280)]
theorem ti1_ok : TIok Tryz.prog 1 ti1 := tk Tryz.underlying1 Tryz.type1 (fun h => by cases h) (fun _ => rfl)
theorem ti2_ok : TIok Tryz.prog 2 ti2 := tk Tryz.underlying2 Tryz.type2 (fun h => by cases h) (fun _ => rfl)
theorem ti3_ok : TIok Tryz.prog 3 ti3 := tk Tryz.underlying3 Tryz.type3 (fun h => by cases h) (fun _ => rfl)
theorem ti4_ok : TIok Tryz.prog 4 ti4 := tk Tryz.underlying4 Tryz.type4 (fun h => by cases h) (fun _ => rfl)
theorem ti5_ok : TIok Tryz.prog 5 ti5 := tk Tryz.underlying5 Tryz.type5 (fun h => by cases h) (fun _ => rfl)
theorem ti9_ok : TIok Tryz.prog 9 ti9 := tk Tryz.underlying9 Tryz.type9 (fun h => by cases h) (fun _ => rfl)
theorem ti10_ok : TIok Tryz.prog 10 ti10 := tk Tryz.underlying10 Tryz.type10 (fun h => by cases h) (fun _ => rfl)
theorem ti11_ok : TIok Tryz.prog 11 ti11 := tk Tryz.underlying11 Tryz.type11 (fun h => by cases h) (fun _ => rfl)
theorem ti12_ok : TIok Tryz.prog 12 ti12 := tk Tryz.underlying12 Tryz.type12 (fun h => by cases h) (fun _ => rfl)
theorem ti15_ok : TIok Tryz.prog 15 ti15 := tk Tryz.underlying15 Tryz.type15 (fun h => by cases h) (fun _ => rfl)
theorem ti16_ok : TIok Tryz.prog 16 ti16 := tk Tryz.underlying16 Tryz.type16 (fun h => by cases h) (fun _ => rfl)
theorem ti17_ok : TIok Tryz.prog 17 ti17 := tk Tryz.underlying17 Tryz.type17 (fun h => by cases h) (fun _ => rfl)
theorem ti21_ok : TIok Tryz.prog 21 ti21 := tk Tryz.underlying21 Tryz.type21 (fun h => by cases h) (fun _ => rfl)
theorem ti22_ok : TIok Tryz.prog 22 ti22 := tk Tryz.underlying22 Tryz.type22 (fun h => by cases h) (fun _ => rfl)
theorem ti23_ok : TIok Tryz.prog 23 ti23 := tk Tryz.underlying23 Tryz.type23 (fun h => by cases h) (fun _ => rfl)
theorem ti24_ok : TIok Tryz.prog 24 ti24 := tk Tryz.underlying24 Tryz.type24 (fun h => by cases h) (fun h => by cases h)
theorem ti25_ok : TIok Tryz.prog 25 ti25 := tk Tryz.underlying25 Tryz.type25 (fun h => by cases h) (fun h => by cases h)
theorem ti26_ok : TIok Tryz.prog 26 ti26 := tk Tryz.underlying26 Tryz.type26 (fun h => by cases h) (fun _ => rfl)
theorem ti27_ok : TIok Tryz.prog 27 ti27 := tk Tryz.underlying27 Tryz.type27 (fun h => by cases h) (fun h => by cases h)
theorem ti28_ok : TIok Tryz.prog 28 ti28 := tk Tryz.underlying28 Tryz.type28 (fun h => by cases h) (fun h => by cases h)
theorem ti29_ok : TIok Tryz.prog 29 ti29 := tk Tryz.underlying29 Tryz.type29 (fun h => by cases h) (fun _ => rfl)
theorem ti30_ok : TIok Tryz.prog 30 ti30 := tk Tryz.underlying30 Tryz.type30 (fun h => by cases h) (fun h => by cases h)
theorem ti31_ok : TIok Tryz.prog 31 ti31 := tk Tryz.underlying31 Tryz.type31 (fun h => by cases h) (fun h => by cases h)
theorem ti32_ok : TIok Tryz.prog 32 ti32 := tk Tryz.underlying32 Tryz.type32 (fun h => by cases h) (fun _ => rfl)
theorem ti33_ok : TIok Tryz.prog 33 ti33 := tk Tryz.underlying33 Tryz.type33 (fun h => by cases h) (fun h => by cases h)
theorem ti34_ok : TIok Tryz.prog 34 ti34 := tk Tryz.underlying34 Tryz.type34 (fun h => by cases h) (fun h => by cases h)
theorem ti35_ok : TIok Tryz.prog 35 ti35 := tk Tryz.underlying35 Tryz.type35 (fun _ => ⟨by kernel_rfl, by kernel_rfl, by kernel_rfl⟩) (fun h => by cases h)
theorem ti36_ok : TIok Tryz.prog 36 ti36 := tk Tryz.underlying36 Tryz.type36 (fun _ => ⟨by kernel_rfl, by kernel_rfl, by kernel_rfl⟩) (fun h => by cases h)
theorem ti37_ok : TIok Tryz.prog 37 ti37 := tk Tryz.underlying37 Tryz.type37 (fun h => by cases h) (fun _ => rfl)
theorem ti38_ok : TIok Tryz.prog 38 ti38 := tk Tryz.underlying38 Tryz.type38 (fun h => by cases h) (fun h => by cases h)
theorem ti39_ok : TIok Tryz.prog 39 ti39 := tk Tryz.underlying39 Tryz.type39 (fun h => by cases h) (fun h => by cases h)
theorem ti40_ok : TIok Tryz.prog 40 ti40 := tk Tryz.underlying40 Tryz.type40 (fun h => by cases h) (fun _ => rfl)
theorem ti41_ok : TIok Tryz.prog 41 ti41 := tk Tryz.underlying41 Tryz.type41 (fun h => by cases h) (fun _ => rfl)
theorem ti42_ok : TIok Tryz.prog 42 ti42 := tk Tryz.underlying42 Tryz.type42 (fun _ => ⟨by kernel_rfl, by kernel_rfl, by kernel_rfl⟩) (fun h => by cases h)
theorem ti43_ok : TIok Tryz.prog 43 ti43 := tk Tryz.underlying43 Tryz.type43 (fun _ => ⟨by kernel_rfl, by kernel_rfl, by kernel_rfl⟩) (fun h => by cases h)
theorem ti44_ok : TIok Tryz.prog 44 ti44 := tk Tryz.underlying44 Tryz.type44 (fun _ => ⟨by kernel_rfl, by kernel_rfl, by kernel_rfl⟩) (fun h => by cases h)
theorem ti45_ok : TIok Tryz.prog 45 ti45 := tk Tryz.underlying45 Tryz.type45 (fun _ => ⟨by kernel_rfl, by kernel_rfl, by kernel_rfl⟩) (fun h => by cases h)
theorem ti46_ok : TIok Tryz.prog 46 ti46 := tk Tryz.underlying46 Tryz.type46 (fun _ => ⟨by kernel_rfl, by kernel_rfl, by kernel_rfl⟩) (fun h => by cases h)
theorem ti47_ok : TIok Tryz.prog 47 ti47 := tk Tryz.underlying47 Tryz.type47 (fun _ => ⟨by kernel_rfl, by kernel_rfl, by kernel_rfl⟩) (fun h => by cases h)
theorem ti48_ok : TIok Tryz.prog 48 ti48 := tk Tryz.underlying48 Tryz.type48 (fun h => by cases h) (fun h => by cases h)
theorem ti49_ok : TIok Tryz.prog 49 ti49 := tk Tryz.underlying49 Tryz.type49 (fun h => by cases h) (fun h => by cases h)
theorem ti50_ok : TIok Tryz.prog 50 ti50 := tk Tryz.underlying50 Tryz.type50 (fun h => by cases h) (fun _ => rfl)
theorem ti51_ok : TIok Tryz.prog 51 ti51 := tk Tryz.underlying51 Tryz.type51 (fun h => by cases h) (fun _ => rfl)
theorem ti52_ok : TIok Tryz.prog 52 ti52 := tk Tryz.underlying52 Tryz.type52 (fun h => by cases h) (fun _ => rfl)
theorem ti53_ok : TIok Tryz.prog 53 ti53 := tk Tryz.underlying53 Tryz.type53 (fun h => by cases h) (fun _ => rfl)
theorem ti55_ok : TIok Tryz.prog 55 ti55 := tk Tryz.underlying55 Tryz.type55 (fun h => by cases h) (fun _ => rfl)
theorem ti56_ok : TIok Tryz.prog 56 ti56 := tk Tryz.underlying56 Tryz.type56 (fun h => by cases h) (fun _ => rfl)
theorem ti57_ok : TIok Tryz.prog 57 ti57 := tk Tryz.underlying57 Tryz.type57 (fun h => by cases h) (fun _ => rfl)
theorem ti59_ok : TIok Tryz.prog 59 ti59 := tk Tryz.underlying59 Tryz.type59 (fun h => by cases h) (fun _ => rfl)
theorem ti60_ok : TIok Tryz.prog 60 ti60 := tk Tryz.underlying60 Tryz.type60 (fun h => by cases h) (fun _ => rfl)
theorem ti61_ok : TIok Tryz.prog 61 ti61 := tk Tryz.underlying61 Tryz.type61 (fun h => by cases h) (fun _ => rfl)
theorem ti62_ok : TIok Tryz.prog 62 ti62 := tk Tryz.underlying62 Tryz.type62 (fun h => by cases h) (fun _ => rfl)
theorem ti63_ok : TIok Tryz.prog 63 ti63 := tk Tryz.underlying63 Tryz.type63 (fun h => by cases h) (fun _ => rfl)
theorem ti64_ok : TIok Tryz.prog 64 ti64 := tk Tryz.underlying64 Tryz.type64 (fun h => by cases h) (fun h => by cases h)
theorem ti65_ok : TIok Tryz.prog 65 ti65 := tk Tryz.underlying65 Tryz.type65 (fun h => by cases h) (fun h => by cases h)
theorem ti66_ok : TIok Tryz.prog 66 ti66 := tk Tryz.underlying66 Tryz.type66 (fun h => by cases h) (fun _ => rfl)
theorem ti67_ok : TIok Tryz.prog 67 ti67 := tk Tryz.underlying67 Tryz.type67 (fun h => by cases h) (fun h => by cases h)
theorem ti68_ok : TIok Tryz.prog 68 ti68 := tk Tryz.underlying68 Tryz.type68 (fun h => by cases h) (fun h => by cases h)
theorem ti69_ok : TIok Tryz.prog 69 ti69 := tk Tryz.underlying69 Tryz.type69 (fun h => by cases h) (fun _ => rfl)
theorem ti70_ok : TIok Tryz.prog 70 ti70 := tk Tryz.underlying70 Tryz.type70 (fun h => by cases h) (fun _ => rfl)
theorem ti71_ok : TIok Tryz.prog 71 ti71 := tk Tryz.underlying71 Tryz.type71 (fun h => by cases h) (fun _ => rfl)
theorem ti72_ok : TIok Tryz.prog 72 ti72 := tk Tryz.underlying72 Tryz.type72 (fun h => by cases h) (fun _ => rfl)
theorem ti73_ok : TIok Tryz.prog 73 ti73 := tk Tryz.underlying73 Tryz.type73 (fun h => by cases h) (fun _ => rfl)
theorem ti74_ok : TIok Tryz.prog 74 ti74 := tk Tryz.underlying74 Tryz.type74 (fun h => by cases h) (fun _ => rfl)
theorem ti75_ok : TIok Tryz.prog 75 ti75 := tk Tryz.underlying75 Tryz.type75 (fun h => by cases h) (fun _ => rfl)
theorem ti76_ok : TIok Tryz.prog 76 ti76 := tk Tryz.underlying76 Tryz.type76 (fun h => by cases h) (fun _ => rfl)
theorem ti77_ok : TIok Tryz.prog 77 ti77 := tk Tryz.underlying77 Tryz.type77 (fun h => by cases h) (fun _ => rfl)
theorem ti78_ok : TIok Tryz.prog 78 ti78 := tk Tryz.underlying78 Tryz.type78 (fun h => by cases h) (fun _ => rfl)
theorem ti79_ok : TIok Tryz.prog 79 ti79 := tk Tryz.underlying79 Tryz.type79 (fun h => by cases h) (fun _ => rfl)
theorem ti80_ok : TIok Tryz.prog 80 ti80 := tk Tryz.underlying80 Tryz.type80 (fun h => by cases h) (fun _ => rfl)
theorem ti81_ok : TIok Tryz.prog 81 ti81 := tk Tryz.underlying81 Tryz.type81 (fun h => by cases h) (fun _ => rfl)
theorem ti82_ok : TIok Tryz.prog 82 ti82 := tk Tryz.underlying82 Tryz.type82 (fun h => by cases h) (fun _ => rfl)
theorem ti83_ok : TIok Tryz.prog 83 ti83 := tk Tryz.underlying83 Tryz.type83 (fun _ => ⟨by kernel_rfl, by kernel_rfl, by kernel_rfl⟩) (fun h => by cases h)
theorem ti84_ok : TIok Tryz.prog 84 ti84 := tk Tryz.underlying84 Tryz.type84 (fun _ => ⟨by kernel_rfl, by kernel_rfl, by kernel_rfl⟩) (fun h => by cases h)
theorem ti85_ok : TIok Tryz.prog 85 ti85 := tk Tryz.underlying85 Tryz.type85 (fun h => by cases h) (fun _ => rfl)
theorem ti86_ok : TIok Tryz.prog 86 ti86 := tk Tryz.underlying86 Tryz.type86 (fun h => by cases h) (fun _ => rfl)
theorem ti87_ok : TIok Tryz.prog 87 ti87 := tk Tryz.underlying87 Tryz.type87 (fun _ => ⟨by kernel_rfl, by kernel_rfl, by kernel_rfl⟩) (fun h => by cases h)
theorem ti88_ok : TIok Tryz.prog 88 ti88 := tk Tryz.underlying88 Tryz.type88 (fun _ => ⟨by kernel_rfl, by kernel_rfl, by kernel_rfl⟩) (fun h => by cases h)
theorem ti89_ok : TIok Tryz.prog 89 ti89 := tk Tryz.underlying89 Tryz.type89 (fun h => by cases h) (fun _ => rfl)
theorem ti90_ok : TIok Tryz.prog 90 ti90 := tk Tryz.underlying90 Tryz.type90 (fun h => by cases h) (fun _ => rfl)
theorem ti91_ok : TIok Tryz.prog 91 ti91 := tk Tryz.underlying91 Tryz.type91 (fun h => by cases h) (fun _ => rfl)
theorem ti92_ok : TIok Tryz.prog 92 ti92 := tk Tryz.underlying92 Tryz.type92 (fun h => by cases h) (fun _ => rfl)
theorem ti93_ok : TIok Tryz.prog 93 ti93 := tk Tryz.underlying93 Tryz.type93 (fun h => by cases h) (fun _ => rfl)
theorem ti94_ok : TIok Tryz.prog 94 ti94 := tk Tryz.underlying94 Tryz.type94 (fun h => by cases h) (fun _ => rfl)
theorem ti95_ok : TIok Tryz.prog 95 ti95 := tk Tryz.underlying95 Tryz.type95 (fun h => by cases h) (fun _ => rfl)
theorem ti96_ok : TIok Tryz.prog 96 ti96 := tk Tryz.underlying96 Tryz.type96 (fun h => by cases h) (fun _ => rfl)
theorem ti97_ok : TIok Tryz.prog 97 ti97 := tk Tryz.underlying97 Tryz.type97 (fun h => by cases h) (fun _ => rfl)
theorem ti98_ok : TIok Tryz.prog 98 ti98 := tk Tryz.underlying98 Tryz.type98 (fun h => by cases h) (fun _ => rfl)
theorem ti100_ok : TIok Tryz.prog 100 ti100 := tk Tryz.underlying100 Tryz.type100 (fun h => by cases h) (fun _ => rfl)
theorem ti101_ok : TIok Tryz.prog 101 ti101 := tk Tryz.underlying101 Tryz.type101 (fun h => by cases h) (fun _ => rfl)
theorem ti102_ok : TIok Tryz.prog 102 ti102 := tk Tryz.underlying102 Tryz.type102 (fun h => by cases h) (fun _ => rfl)
theorem ti103_ok : TIok Tryz.prog 103 ti103 := tk Tryz.underlying103 Tryz.type103 (fun h => by cases h) (fun _ => rfl)
theorem ti104_ok : TIok Tryz.prog 104 ti104 := tk Tryz.underlying104 Tryz.type104 (fun h => by cases h) (fun h => by cases h)
theorem ti105_ok : TIok Tryz.prog 105 ti105 := tk Tryz.underlying105 Tryz.type105 (fun h => by cases h) (fun h => by cases h)
theorem ti106_ok : TIok Tryz.prog 106 ti106 := tk Tryz.underlying106 Tryz.type106 (fun h => by cases h) (fun _ => rfl)
theorem ti107_ok : TIok Tryz.prog 107 ti107 := tk Tryz.underlying107 Tryz.type107 (fun h => by cases h) (fun _ => rfl)
theorem ti109_ok : TIok Tryz.prog 109 ti109 := tk Tryz.underlying109 Tryz.type109 (fun h => by cases h) (fun _ => rfl)
theorem ti110_ok : TIok Tryz.prog 110 ti110 := tk Tryz.underlying110 Tryz.type110 (fun h => by cases h) (fun _ => rfl)
theorem ti111_ok : TIok Tryz.prog 111 ti111 := tk Tryz.underlying111 Tryz.type111 (fun _ => ⟨by kernel_rfl, by kernel_rfl, by kernel_rfl⟩) (fun h => by cases h)
theorem ti112_ok : TIok Tryz.prog 112 ti112 := tk Tryz.underlying112 Tryz.type112 (fun _ => ⟨by kernel_rfl, by kernel_rfl, by kernel_rfl⟩) (fun h => by cases h)
theorem ti113_ok : TIok Tryz.prog 113 ti113 := tk Tryz.underlying113 Tryz.type113 (fun h => by cases h) (fun _ => rfl)
theorem ti114_ok : TIok Tryz.prog 114 ti114 := tk Tryz.underlying114 Tryz.type114 (fun h => by cases h) (fun _ => rfl)
theorem ti115_ok : TIok Tryz.prog 115 ti115 := tk Tryz.underlying115 Tryz.type115 (fun h => by cases h) (fun _ => rfl)
theorem ti116_ok : TIok Tryz.prog 116 ti116 := tk Tryz.underlying116 Tryz.type116 (fun h => by cases h) (fun _ => rfl)
theorem ti117_ok : TIok Tryz.prog 117 ti117 := tk Tryz.underlying117 Tryz.type117 (fun h => by cases h) (fun _ => rfl)
theorem ti118_ok : TIok Tryz.prog 118 ti118 := tk Tryz.underlying118 Tryz.type118 (fun h => by cases h) (fun _ => rfl)
theorem ti119_ok : TIok Tryz.prog 119 ti119 := tk Tryz.underlying119 Tryz.type119 (fun _ => ⟨by kernel_rfl, by kernel_rfl, by kernel_rfl⟩) (fun h => by cases h)
theorem ti120_ok : TIok Tryz.prog 120 ti120 := tk Tryz.underlying120 Tryz.type120 (fun _ => ⟨by kernel_rfl, by kernel_rfl, by kernel_rfl⟩) (fun h => by cases h)
theorem ti121_ok : TIok Tryz.prog 121 ti121 := tk Tryz.underlying121 Tryz.type121 (fun _ => ⟨by kernel_rfl, by kernel_rfl, by kernel_rfl⟩) (fun h => by cases h)
theorem ti122_ok : TIok Tryz.prog 122 ti122 := tk Tryz.underlying122 Tryz.type122 (fun _ => ⟨by kernel_rfl, by kernel_rfl, by kernel_rfl⟩) (fun h => by cases h)
theorem ti123_ok : TIok Tryz.prog 123 ti123 := tk Tryz.underlying123 Tryz.type123 (fun h => by cases h) (fun _ => rfl)
theorem ti124_ok : TIok Tryz.prog 124 ti124 := tk Tryz.underlying124 Tryz.type124 (fun h => by cases h) (fun _ => rfl)
theorem ti125_ok : TIok Tryz.prog 125 ti125 := tk Tryz.underlying125 Tryz.type125 (fun h => by cases h) (fun _ => rfl)
theorem ti126_ok : TIok Tryz.prog 126 ti126 := tk Tryz.underlying126 Tryz.type126 (fun h => by cases h) (fun _ => rfl)
theorem ti127_ok : TIok Tryz.prog 127 ti127 := tk Tryz.underlying127 Tryz.type127 (fun h => by cases h) (fun _ => rfl)
theorem ti128_ok : TIok Tryz.prog 128 ti128 := tk Tryz.underlying128 Tryz.type128 (fun h => by cases h) (fun h => by cases h)
theorem ti129_ok : TIok Tryz.prog 129 ti129 := tk Tryz.underlying129 Tryz.type129 (fun h => by cases h) (fun h => by cases h)
theorem ti130_ok : TIok Tryz.prog 130 ti130 := tk Tryz.underlying130 Tryz.type130 (fun h => by cases h) (fun _ => rfl)
theorem ti131_ok : TIok Tryz.prog 131 ti131 := tk Tryz.underlying131 Tryz.type131 (fun h => by cases h) (fun _ => rfl)
theorem ti132_ok : TIok Tryz.prog 132 ti132 := tk Tryz.underlying132 Tryz.type132 (fun h => by cases h) (fun _ => rfl)
theorem ti133_ok : TIok Tryz.prog 133 ti133 := tk Tryz.underlying133 Tryz.type133 (fun h => by cases h) (fun _ => rfl)
theorem ti134_ok : TIok Tryz.prog 134 ti134 := tk Tryz.underlying134 Tryz.type134 (fun h => by cases h) (fun _ => rfl)
theorem ti135_ok : TIok Tryz.prog 135 ti135 := tk Tryz.underlying135 Tryz.type135 (fun h => by cases h) (fun _ => rfl)
theorem ti136_ok : TIok Tryz.prog 136 ti136 := tk Tryz.underlying136 Tryz.type136 (fun h => by cases h) (fun _ => rfl)
theorem ti137_ok : TIok Tryz.prog 137 ti137 := tk Tryz.underlying137 Tryz.type137 (fun h => by cases h) (fun _ => rfl)
theorem ti138_ok : TIok Tryz.prog 138 ti138 := tk Tryz.underlying138 Tryz.type138 (fun h => by cases h) (fun _ => rfl)
theorem ti139_ok : TIok Tryz.prog 139 ti139 := tk Tryz.underlying139 Tryz.type139 (fun h => by cases h) (fun _ => rfl)
theorem ti140_ok : TIok Tryz.prog 140 ti140 := tk Tryz.underlying140 Tryz.type140 (fun h => by cases h) (fun _ => rfl)
theorem ti141_ok : TIok Tryz.prog 141 ti141 := tk Tryz.underlying141 Tryz.type141 (fun h => by cases h) (fun h => by cases h)
theorem ti142_ok : TIok Tryz.prog 142 ti142 := tk Tryz.underlying142 Tryz.type142 (fun h => by cases h) (fun h => by cases h)
theorem ti143_ok : TIok Tryz.prog 143 ti143 := tk Tryz.underlying143 Tryz.type143 (fun h => by cases h) (fun _ => rfl)
theorem ti144_ok : TIok Tryz.prog 144 ti144 := tk Tryz.underlying144 Tryz.type144 (fun h => by cases h) (fun _ => rfl)
theorem ti145_ok : TIok Tryz.prog 145 ti145 := tk Tryz.underlying145 Tryz.type145 (fun h => by cases h) (fun _ => rfl)
theorem ti146_ok : TIok Tryz.prog 146 ti146 := tk Tryz.underlying146 Tryz.type146 (fun h => by cases h) (fun _ => rfl)
theorem ti147_ok : TIok Tryz.prog 147 ti147 := tk Tryz.underlying147 Tryz.type147 (fun h => by cases h) (fun _ => rfl)
theorem ti148_ok : TIok Tryz.prog 148 ti148 := tk Tryz.underlying148 Tryz.type148 (fun h => by cases h) (fun _ => rfl)
theorem ti149_ok : TIok Tryz.prog 149 ti149 := tk Tryz.underlying149 Tryz.type149 (fun h => by cases h) (fun h => by cases h)
theorem ti150_ok : TIok Tryz.prog 150 ti150 := tk Tryz.underlying150 Tryz.type150 (fun h => by cases h) (fun _ => rfl)
theorem ti151_ok : TIok Tryz.prog 151 ti151 := tk Tryz.underlying151 Tryz.type151 (fun h => by cases h) (fun _ => rfl)
theorem ti152_ok : TIok Tryz.prog 152 ti152 := tk Tryz.underlying152 Tryz.type152 (fun h => by cases h) (fun _ => rfl)
theorem ti153_ok : TIok Tryz.prog 153 ti153 := tk Tryz.underlying153 Tryz.type153 (fun h => by cases h) (fun _ => rfl)
theorem ti154_ok : TIok Tryz.prog 154 ti154 := tk Tryz.underlying154 Tryz.type154 (fun h => by cases h) (fun _ => rfl)
theorem ti155_ok : TIok Tryz.prog 155 ti155 := tk Tryz.underlying155 Tryz.type155 (fun h => by cases h) (fun _ => rfl)
theorem ti156_ok : TIok Tryz.prog 156 ti156 := tk Tryz.underlying156 Tryz.type156 (fun h => by cases h) (fun _ => rfl)
theorem ti157_ok : TIok Tryz.prog 157 ti157 := tk Tryz.underlying157 Tryz.type157 (fun h => by cases h) (fun _ => rfl)
theorem ti158_ok : TIok Tryz.prog 158 ti158 := tk Tryz.underlying158 Tryz.type158 (fun h => by cases h) (fun h => by cases h)
theorem ti159_ok : TIok Tryz.prog 159 ti159 := tk Tryz.underlying159 Tryz.type159 (fun h => by cases h) (fun h => by cases h)
theorem ti160_ok : TIok Tryz.prog 160 ti160 := tk Tryz.underlying160 Tryz.type160 (fun h => by cases h) (fun h => by cases h)
theorem ti161_ok : TIok Tryz.prog 161 ti161 := tk Tryz.underlying161 Tryz.type161 (fun h => by cases h) (fun h => by cases h)
theorem ti162_ok : TIok Tryz.prog 162 ti162 := tk Tryz.underlying162 Tryz.type162 (fun h => by cases h) (fun _ => rfl)
theorem ti163_ok : TIok Tryz.prog 163 ti163 := tk Tryz.underlying163 Tryz.type163 (fun h => by cases h) (fun _ => rfl)
theorem ti165_ok : TIok Tryz.prog 165 ti165 := tk Tryz.underlying165 Tryz.type165 (fun h => by cases h) (fun _ => rfl)
theorem ti166_ok : TIok Tryz.prog 166 ti166 := tk Tryz.underlying166 Tryz.type166 (fun h => by cases h) (fun _ => rfl)
theorem ti167_ok : TIok Tryz.prog 167 ti167 := tk Tryz.underlying167 Tryz.type167 (fun h => by cases h) (fun _ => rfl)
theorem ti168_ok : TIok Tryz.prog 168 ti168 := tk Tryz.underlying168 Tryz.type168 (fun h => by cases h) (fun _ => rfl)
theorem ti169_ok : TIok Tryz.prog 169 ti169 := tk Tryz.underlying169 Tryz.type169 (fun h => by cases h) (fun _ => rfl)
theorem ti170_ok : TIok Tryz.prog 170 ti170 := tk Tryz.underlying170 Tryz.type170 (fun h => by cases h) (fun _ => rfl)
theorem ti171_ok : TIok Tryz.prog 171 ti171 := tk Tryz.underlying171 Tryz.type171 (fun h => by cases h) (fun _ => rfl)
theorem ti172_ok : TIok Tryz.prog 172 ti172 := tk Tryz.underlying172 Tryz.type172 (fun h => by cases h) (fun _ => rfl)
theorem ti173_ok : TIok Tryz.prog 173 ti173 := tk Tryz.underlying173 Tryz.type173 (fun h => by cases h) (fun _ => rfl)
theorem ti175_ok : TIok Tryz.prog 175 ti175 := tk Tryz.underlying175 Tryz.type175 (fun h => by cases h) (fun _ => rfl)
theorem ti176_ok : TIok Tryz.prog 176 ti176 := tk Tryz.underlying176 Tryz.type176 (fun h => by cases h) (fun _ => rfl)
theorem ti178_ok : TIok Tryz.prog 178 ti178 := tk Tryz.underlying178 Tryz.type178 (fun h => by cases h) (fun _ => rfl)
theorem ti179_ok : TIok Tryz.prog 179 ti179 := tk Tryz.underlying179 Tryz.type179 (fun h => by cases h) (fun _ => rfl)
theorem ti181_ok : TIok Tryz.prog 181 ti181 := tk Tryz.underlying181 Tryz.type181 (fun h => by cases h) (fun _ => rfl)
theorem ti182_ok : TIok Tryz.prog 182 ti182 := tk Tryz.underlying182 Tryz.type182 (fun h => by cases h) (fun _ => rfl)
theorem ti183_ok : TIok Tryz.prog 183 ti183 := tk Tryz.underlying183 Tryz.type183 (fun h => by cases h) (fun _ => rfl)
theorem ti184_ok : TIok Tryz.prog 184 ti184 := tk Tryz.underlying184 Tryz.type184 (fun h => by cases h) (fun _ => rfl)
theorem ti185_ok : TIok Tryz.prog 185 ti185 := tk Tryz.underlying185 Tryz.type185 (fun h => by cases h) (fun _ => rfl)
theorem ti186_ok : TIok Tryz.prog 186 ti186 := tk Tryz.underlying186 Tryz.type186 (fun h => by cases h) (fun _ => rfl)
theorem ti187_ok : TIok Tryz.prog 187 ti187 := tk Tryz.underlying187 Tryz.type187 (fun h => by cases h) (fun _ => rfl)
theorem ti188_ok : TIok Tryz.prog 188 ti188 := tk Tryz.underlying188 Tryz.type188 (fun h => by cases h) (fun _ => rfl)
theorem ti189_ok : TIok Tryz.prog 189 ti189 := tk Tryz.underlying189 Tryz.type189 (fun h => by cases h) (fun _ => rfl)
theorem ti190_ok : TIok Tryz.prog 190 ti190 := tk Tryz.underlying190 Tryz.type190 (fun h => by cases h) (fun h => by cases h)
theorem ti191_ok : TIok Tryz.prog 191 ti191 := tk Tryz.underlying191 Tryz.type191 (fun h => by cases h) (fun h => by cases h)
theorem ti192_ok : TIok Tryz.prog 192 ti192 := tk Tryz.underlying192 Tryz.type192 (fun h => by cases h) (fun _ => rfl)
theorem ti194_ok : TIok Tryz.prog 194 ti194 := tk Tryz.underlying194 Tryz.type194 (fun h => by cases h) (fun _ => rfl)
theorem ti195_ok : TIok Tryz.prog 195 ti195 := tk Tryz.underlying195 Tryz.type195 (fun h => by cases h) (fun _ => rfl)
theorem ti196_ok : TIok Tryz.prog 196 ti196 := tk Tryz.underlying196 Tryz.type196 (fun h => by cases h) (fun _ => rfl)
theorem ti197_ok : TIok Tryz.prog 197 ti197 := tk Tryz.underlying197 Tryz.type197 (fun h => by cases h) (fun _ => rfl)
theorem ti198_ok : TIok Tryz.prog 198 ti198 := tk Tryz.underlying198 Tryz.type198 (fun h => by cases h) (fun _ => rfl)
theorem ti199_ok : TIok Tryz.prog 199 ti199 := tk Tryz.underlying199 Tryz.type199 (fun h => by cases h) (fun _ => rfl)
theorem ti200_ok : TIok Tryz.prog 200 ti200 := tk Tryz.underlying200 Tryz.type200 (fun h => by cases h) (fun _ => rfl)
theorem ti202_ok : TIok Tryz.prog 202 ti202 := tk Tryz.underlying202 Tryz.type202 (fun h => by cases h) (fun _ => rfl)
theorem ti203_ok : TIok Tryz.prog 203 ti203 := tk Tryz.underlying203 Tryz.type203 (fun h => by cases h) (fun _ => rfl)
theorem ti204_ok : TIok Tryz.prog 204 ti204 := tk Tryz.underlying204 Tryz.type204 (fun h => by cases h) (fun _ => rfl)
theorem ti205_ok : TIok Tryz.prog 205 ti205 := tk Tryz.underlying205 Tryz.type205 (fun h => by cases h) (fun _ => rfl)
theorem ti206_ok : TIok Tryz.prog 206 ti206 := tk Tryz.underlying206 Tryz.type206 (fun h => by cases h) (fun _ => rfl)
theorem ti207_ok : TIok Tryz.prog 207 ti207 := tk Tryz.underlying207 Tryz.type207 (fun h => by cases h) (fun _ => rfl)
theorem ti209_ok : TIok Tryz.prog 209 ti209 := tk Tryz.underlying209 Tryz.type209 (fun h => by cases h) (fun _ => rfl)
theorem ti210_ok : TIok Tryz.prog 210 ti210 := tk Tryz.underlying210 Tryz.type210 (fun h => by cases h) (fun _ => rfl)
theorem ti211_ok : TIok Tryz.prog 211 ti211 := tk Tryz.underlying211 Tryz.type211 (fun h => by cases h) (fun h => by cases h)
theorem ti212_ok : TIok Tryz.prog 212 ti212 := tk Tryz.underlying212 Tryz.type212 (fun h => by cases h) (fun h => by cases h)
theorem ti213_ok : TIok Tryz.prog 213 ti213 := tk Tryz.underlying213 Tryz.type213 (fun h => by cases h) (fun _ => rfl)
theorem ti214_ok : TIok Tryz.prog 214 ti214 := tk Tryz.underlying214 Tryz.type214 (fun h => by cases h) (fun _ => rfl)
theorem ti215_ok : TIok Tryz.prog 215 ti215 := tk Tryz.underlying215 Tryz.type215 (fun h => by cases h) (fun _ => rfl)
theorem ti217_ok : TIok Tryz.prog 217 ti217 := tk Tryz.underlying217 Tryz.type217 (fun h => by cases h) (fun _ => rfl)
theorem ti218_ok : TIok Tryz.prog 218 ti218 := tk Tryz.underlying218 Tryz.type218 (fun h => by cases h) (fun _ => rfl)
theorem ti219_ok : TIok Tryz.prog 219 ti219 := tk Tryz.underlying219 Tryz.type219 (fun h => by cases h) (fun _ => rfl)
theorem ti220_ok : TIok Tryz.prog 220 ti220 := tk Tryz.underlying220 Tryz.type220 (fun h => by cases h) (fun _ => rfl)
theorem ti221_ok : TIok Tryz.prog 221 ti221 := tk Tryz.underlying221 Tryz.type221 (fun h => by cases h) (fun _ => rfl)
theorem ti222_ok : TIok Tryz.prog 222 ti222 := tk Tryz.underlying222 Tryz.type222 (fun h => by cases h) (fun _ => rfl)
theorem ti223_ok : TIok Tryz.prog 223 ti223 := tk Tryz.underlying223 Tryz.type223 (fun h => by cases h) (fun _ => rfl)
theorem ti224_ok : TIok Tryz.prog 224 ti224 := tk Tryz.underlying224 Tryz.type224 (fun h => by cases h) (fun _ => rfl)
theorem ti225_ok : TIok Tryz.prog 225 ti225 := tk Tryz.underlying225 Tryz.type225 (fun h => by cases h) (fun _ => rfl)
theorem ti226_ok : TIok Tryz.prog 226 ti226 := tk Tryz.underlying226 Tryz.type226 (fun h => by cases h) (fun _ => rfl)
theorem ti227_ok : TIok Tryz.prog 227 ti227 := tk Tryz.underlying227 Tryz.type227 (fun h => by cases h) (fun _ => rfl)
theorem ti228_ok : TIok Tryz.prog 228 ti228 := tk Tryz.underlying228 Tryz.type228 (fun h => by cases h) (fun _ => rfl)
theorem ti229_ok : TIok Tryz.prog 229 ti229 := tk Tryz.underlying229 Tryz.type229 (fun h => by cases h) (fun _ => rfl)
theorem ti230_ok : TIok Tryz.prog 230 ti230 := tk Tryz.underlying230 Tryz.type230 (fun h => by cases h) (fun _ => rfl)
theorem ti231_ok : TIok Tryz.prog 231 ti231 := tk Tryz.underlying231 Tryz.type231 (fun h => by cases h) (fun _ => rfl)
theorem ti233_ok : TIok Tryz.prog 233 ti233 := tk Tryz.underlying233 Tryz.type233 (fun h => by cases h) (fun _ => rfl)
theorem ti234_ok : TIok Tryz.prog 234 ti234 := tk Tryz.underlying234 Tryz.type234 (fun h => by cases h) (fun _ => rfl)
theorem ti235_ok : TIok Tryz.prog 235 ti235 := tk Tryz.underlying235 Tryz.type235 (fun h => by cases h) (fun _ => rfl)
theorem ti236_ok : TIok Tryz.prog 236 ti236 := tk Tryz.underlying236 Tryz.type236 (fun h => by cases h) (fun _ => rfl)
theorem ti237_ok : TIok Tryz.prog 237 ti237 := tk Tryz.underlying237 Tryz.type237 (fun h => by cases h) (fun _ => rfl)
theorem ti238_ok : TIok Tryz.prog 238 ti238 := tk Tryz.underlying238 Tryz.type238 (fun h => by cases h) (fun _ => rfl)
theorem ti239_ok : TIok Tryz.prog 239 ti239 := tk Tryz.underlying239 Tryz.type239 (fun h => by cases h) (fun _ => rfl)
theorem ti240_ok : TIok Tryz.prog 240 ti240 := tk Tryz.underlying240 Tryz.type240 (fun h => by cases h) (fun _ => rfl)
theorem ti241_ok : TIok Tryz.prog 241 ti241 := tk Tryz.underlying241 Tryz.type241 (fun h => by cases h) (fun _ => rfl)
theorem ti242_ok : TIok Tryz.prog 242 ti242 := tk Tryz.underlying242 Tryz.type242 (fun h => by cases h) (fun _ => rfl)
theorem ti243_ok : TIok Tryz.prog 243 ti243 := tk Tryz.underlying243 Tryz.type243 (fun h => by cases h) (fun _ => rfl)
theorem ti244_ok : TIok Tryz.prog 244 ti244 := tk Tryz.underlying244 Tryz.type244 (fun h => by cases h) (fun _ => rfl)
theorem ti245_ok : TIok Tryz.prog 245 ti245 := tk Tryz.underlying245 Tryz.type245 (fun h => by cases h) (fun _ => rfl)
theorem ti246_ok : TIok Tryz.prog 246 ti246 := tk Tryz.underlying246 Tryz.type246 (fun h => by cases h) (fun _ => rfl)
theorem ti247_ok : TIok Tryz.prog 247 ti247 := tk Tryz.underlying247 Tryz.type247 (fun h => by cases h) (fun _ => rfl)
theorem ti248_ok : TIok Tryz.prog 248 ti248 := tk Tryz.underlying248 Tryz.type248 (fun h => by cases h) (fun _ => rfl)
theorem ti249_ok : TIok Tryz.prog 249 ti249 := tk Tryz.underlying249 Tryz.type249 (fun h => by cases h) (fun _ => rfl)
theorem ti250_ok : TIok Tryz.prog 250 ti250 := tk Tryz.underlying250 Tryz.type250 (fun h => by cases h) (fun _ => rfl)
theorem ti251_ok : TIok Tryz.prog 251 ti251 := tk Tryz.underlying251 Tryz.type251 (fun h => by cases h) (fun _ => rfl)
theorem ti252_ok : TIok Tryz.prog 252 ti252 := tk Tryz.underlying252 Tryz.type252 (fun h => by cases h) (fun _ => rfl)
theorem ti253_ok : TIok Tryz.prog 253 ti253 := tk Tryz.underlying253 Tryz.type253 (fun h => by cases h) (fun _ => rfl)
theorem ti255_ok : TIok Tryz.prog 255 ti255 := tk Tryz.underlying255 Tryz.type255 (fun h => by cases h) (fun _ => rfl)
theorem ti256_ok : TIok Tryz.prog 256 ti256 := tk Tryz.underlying256 Tryz.type256 (fun h => by cases h) (fun _ => rfl)
theorem ti257_ok : TIok Tryz.prog 257 ti257 := tk Tryz.underlying257 Tryz.type257 (fun h => by cases h) (fun _ => rfl)
theorem ti258_ok : TIok Tryz.prog 258 ti258 := tk Tryz.underlying258 Tryz.type258 (fun h => by cases h) (fun _ => rfl)
theorem ti259_ok : TIok Tryz.prog 259 ti259 := tk Tryz.underlying259 Tryz.type259 (fun h => by cases h) (fun _ => rfl)
theorem ti260_ok : TIok Tryz.prog 260 ti260 := tk Tryz.underlying260 Tryz.type260 (fun h => by cases h) (fun _ => rfl)
theorem ti261_ok : TIok Tryz.prog 261 ti261 := tk Tryz.underlying261 Tryz.type261 (fun h => by cases h) (fun _ => rfl)
theorem ti262_ok : TIok Tryz.prog 262 ti262 := tk Tryz.underlying262 Tryz.type262 (fun h => by cases h) (fun _ => rfl)
theorem ti263_ok : TIok Tryz.prog 263 ti263 := tk Tryz.underlying263 Tryz.type263 (fun h => by cases h) (fun _ => rfl)
theorem ti264_ok : TIok Tryz.prog 264 ti264 := tk Tryz.underlying264 Tryz.type264 (fun h => by cases h) (fun _ => rfl)
theorem ti265_ok : TIok Tryz.prog 265 ti265 := tk Tryz.underlying265 Tryz.type265 (fun h => by cases h) (fun _ => rfl)
theorem ti266_ok : TIok Tryz.prog 266 ti266 := tk Tryz.underlying266 Tryz.type266 (fun h => by cases h) (fun _ => rfl)
theorem ti267_ok : TIok Tryz.prog 267 ti267 := tk Tryz.underlying267 Tryz.type267 (fun h => by cases h) (fun _ => rfl)
theorem ti268_ok : TIok Tryz.prog 268 ti268 := tk Tryz.underlying268 Tryz.type268 (fun h => by cases h) (fun _ => rfl)
theorem ti270_ok : TIok Tryz.prog 270 ti270 := tk Tryz.underlying270 Tryz.type270 (fun h => by cases h) (fun _ => rfl)
theorem ti271_ok : TIok Tryz.prog 271 ti271 := tk Tryz.underlying271 Tryz.type271 (fun h => by cases h) (fun _ => rfl)
theorem ti274_ok : TIok Tryz.prog 274 ti274 := tk Tryz.underlying274 Tryz.type274 (fun h => by cases h) (fun h => by cases h)
theorem ti279_ok : TIok Tryz.prog 279 ti279 := tk Tryz.underlying279 Tryz.type279 (fun h => by cases h) (fun _ => rfl)
theorem ti280_ok : TIok Tryz.prog 280 ti280 := tk Tryz.underlying280 Tryz.type280 (fun h => by cases h) (fun _ => rfl)
theorem tab_ok : TabOk Tryz.prog tab := ⟨ti1_ok, ti2_ok, ti3_ok, ti4_ok, ti5_ok, ti9_ok, ti10_ok, ti11_ok, ti12_ok, ti15_ok, ti16_ok, ti17_ok, ti21_ok, ti22_ok, ti23_ok, ti24_ok, ti25_ok, ti26_ok, ti27_ok, ti28_ok, ti29_ok, ti30_ok, ti31_ok, ti32_ok, ti33_ok, ti34_ok, ti35_ok, ti36_ok, ti37_ok, ti38_ok, ti39_ok, ti40_ok, ti41_ok, ti42_ok, ti43_ok, ti44_ok, ti45_ok, ti46_ok, ti47_ok, ti48_ok, ti49_ok, ti50_ok, ti51_ok, ti52_ok, ti53_ok, ti55_ok, ti56_ok, ti57_ok, ti59_ok, ti60_ok, ti61_ok, ti62_ok, ti63_ok, ti64_ok, ti65_ok, ti66_ok, ti67_ok, ti68_ok, ti69_ok, ti70_ok, ti71_ok, ti72_ok, ti73_ok, ti74_ok, ti75_ok, ti76_ok, ti77_ok, ti78_ok, ti79_ok, ti80_ok, ti81_ok, ti82_ok, ti83_ok, ti84_ok, ti85_ok, ti86_ok, ti87_ok, ti88_ok, ti89_ok, ti90_ok, ti91_ok, ti92_ok, ti93_ok, ti94_ok, ti95_ok, ti96_ok, ti97_ok, ti98_ok, ti100_ok, ti101_ok, ti102_ok, ti103_ok, ti104_ok, ti105_ok, ti106_ok, ti107_ok, ti109_ok, ti110_ok, ti111_ok, ti112_ok, ti113_ok, ti114_ok, ti115_ok, ti116_ok, ti117_ok, ti118_ok, ti119_ok, ti120_ok, ti121_ok, ti122_ok, ti123_ok, ti124_ok, ti125_ok, ti126_ok, ti127_ok, ti128_ok, ti129_ok, ti130_ok, ti131_ok, ti132_ok, ti133_ok, ti134_ok, ti135_ok, ti136_ok, ti137_ok, ti138_ok, ti139_ok, ti140_ok, ti141_ok, ti142_ok, ti143_ok, ti144_ok, ti145_ok, ti146_ok, ti147_ok, ti148_ok, ti149_ok, ti150_ok, ti151_ok, ti152_ok, ti153_ok, ti154_ok, ti155_ok, ti156_ok, ti157_ok, ti158_ok, ti159_ok, ti160_ok, ti161_ok, ti162_ok, ti163_ok, ti165_ok, ti166_ok, ti167_ok, ti168_ok, ti169_ok, ti170_ok, ti171_ok, ti172_ok, ti173_ok, ti175_ok, ti176_ok, ti178_ok, ti179_ok, ti181_ok, ti182_ok, ti183_ok, ti184_ok, ti185_ok, ti186_ok, ti187_ok, ti188_ok, ti189_ok, ti190_ok, ti191_ok, ti192_ok, ti194_ok, ti195_ok, ti196_ok, ti197_ok, ti198_ok, ti199_ok, ti200_ok, ti202_ok, ti203_ok, ti204_ok, ti205_ok, ti206_ok, ti207_ok, ti209_ok, ti210_ok, ti211_ok, ti212_ok, ti213_ok, ti214_ok, ti215_ok, ti217_ok, ti218_ok, ti219_ok, ti220_ok, ti221_ok, ti222_ok, ti223_ok, ti224_ok, ti225_ok, ti226_ok, ti227_ok, ti228_ok, ti229_ok, ti230_ok, ti231_ok, ti233_ok, ti234_ok, ti235_ok, ti236_ok, ti237_ok, ti238_ok, ti239_ok, ti240_ok, ti241_ok, ti242_ok, ti243_ok, ti244_ok, ti245_ok, ti246_ok, ti247_ok, ti248_ok, ti249_ok, ti250_ok, ti251_ok, ti252_ok, ti253_ok, ti255_ok, ti256_ok, ti257_ok, ti258_ok, ti259_ok, ti260_ok, ti261_ok, ti262_ok, ti263_ok, ti264_ok, ti265_ok, ti266_ok, ti267_ok, ti268_ok, ti270_ok, ti271_ok, ti274_ok, ti279_ok, ti280_ok, trivial⟩
end Go.Proofs.YtgkkpefpbfadoaaGreat.Sy
