/-
  The table of this seat's types, by program (tt.py), each row against the loaded program.
-/
import Derived.Test.YtlnbmocgnkjlfaaLa
import Derived.Test.YtlnbmocgnkjlfaaChecked
namespace Go.Proofs.Ytlnbmocgnkjlfaa
open Go Go.Tp
set_option maxRecDepth 100000
set_option linter.unusedSimpArgs false
def ty0 : TI := ⟨(TypeDesc.tuple #[]), 1, 0, [(Value.tuple #[])], false⟩
theorem ty0_ok : TI.Ok Try.prog 0 ty0 := TI.mk_ok (by kernel_rfl) (by kernel_rfl) rfl rfl
def ty1 : TI := ⟨(TypeDesc.func #[] #[] false), 1, 8, [Value.nilFunc], false⟩
theorem ty1_ok : TI.Ok Try.prog 1 ty1 := TI.mk_ok (by kernel_rfl) (by kernel_rfl) rfl rfl
def ty2 : TI := ⟨(TypeDesc.int IntKind.i64), 1, 8, [(Value.int IntKind.i64 0)], false⟩
theorem ty2_ok : TI.Ok Try.prog 2 ty2 := TI.mk_ok (by kernel_rfl) (by kernel_rfl) rfl rfl
def ty3 : TI := ⟨(TypeDesc.int IntKind.i64), 1, 8, [(Value.int IntKind.i64 0)], false⟩
theorem ty3_ok : TI.Ok Try.prog 3 ty3 := TI.mk_ok (by kernel_rfl) (by kernel_rfl) rfl rfl
def ty4 : TI := ⟨TypeDesc.bool, 1, 1, [(Value.bool false)], false⟩
theorem ty4_ok : TI.Ok Try.prog 4 ty4 := TI.mk_ok (by kernel_rfl) (by kernel_rfl) rfl rfl
def ty5 : TI := ⟨(TypeDesc.int IntKind.u8), 1, 1, [(Value.int IntKind.u8 0)], false⟩
theorem ty5_ok : TI.Ok Try.prog 5 ty5 := TI.mk_ok (by kernel_rfl) (by kernel_rfl) rfl rfl
def ty9 : TI := ⟨TypeDesc.string, 1, 16, [(Value.string { data := #[] })], false⟩
theorem ty9_ok : TI.Ok Try.prog 9 ty9 := TI.mk_ok (by kernel_rfl) (by kernel_rfl) rfl rfl
def ty12 : TI := ⟨(TypeDesc.int IntKind.u64), 1, 8, [(Value.int IntKind.u64 0)], false⟩
theorem ty12_ok : TI.Ok Try.prog 12 ty12 := TI.mk_ok (by kernel_rfl) (by kernel_rfl) rfl rfl
def ty13 : TI := ⟨(TypeDesc.struct #[{ name := "msg", type := 9, offset := 0, embedded := false, tag := "", pkgPath := "runtime", byteOffset := 0 }, { name := "addr", type := 12, offset := 1, embedded := false, tag := "", pkgPath := "runtime", byteOffset := 16 }]), 2, 24, [(Value.string { data := #[] }), (Value.int IntKind.u64 0)], true⟩
theorem ty13_ok : TI.Ok Try.prog 13 ty13 := TI.mk_ok (by kernel_rfl) (by kernel_rfl) rfl rfl
def ty20 : TI := ⟨(TypeDesc.interface #[]), 1, 16, [Value.nilIface], false⟩
theorem ty20_ok : TI.Ok Try.prog 20 ty20 := TI.mk_ok (by kernel_rfl) (by kernel_rfl) rfl rfl
def ty21 : TI := ⟨(TypeDesc.int IntKind.i32), 1, 4, [(Value.int IntKind.i32 0)], false⟩
theorem ty21_ok : TI.Ok Try.prog 21 ty21 := TI.mk_ok (by kernel_rfl) (by kernel_rfl) rfl rfl
def ty22 : TI := ⟨(TypeDesc.tuple #[21, 4]), 1, 0, [(Value.tuple #[(Value.int IntKind.i32 0), (Value.bool false)])], false⟩
theorem ty22_ok : TI.Ok Try.prog 22 ty22 := TI.mk_ok (by kernel_rfl) (by kernel_rfl) rfl rfl
def ty23 : TI := ⟨(TypeDesc.func #[24, 21, 21] #[21, 4] false), 1, 8, [Value.nilFunc], false⟩
theorem ty23_ok : TI.Ok Try.prog 23 ty23 := TI.mk_ok (by kernel_rfl) (by kernel_rfl) rfl rfl
def ty24 : TI := ⟨(TypeDesc.int IntKind.u8), 1, 1, [(Value.int IntKind.u8 0)], false⟩
theorem ty24_ok : TI.Ok Try.prog 24 ty24 := TI.mk_ok (by kernel_rfl) (by kernel_rfl) rfl rfl
def ty25 : TI := ⟨(TypeDesc.func #[] #[4] false), 1, 8, [Value.nilFunc], false⟩
theorem ty25_ok : TI.Ok Try.prog 25 ty25 := TI.mk_ok (by kernel_rfl) (by kernel_rfl) rfl rfl
def ty26 : TI := ⟨(TypeDesc.func #[5, 21, 21] #[4] false), 1, 8, [Value.nilFunc], false⟩
theorem ty26_ok : TI.Ok Try.prog 26 ty26 := TI.mk_ok (by kernel_rfl) (by kernel_rfl) rfl rfl
def ty27 : TI := ⟨(TypeDesc.int IntKind.u8), 1, 1, [(Value.int IntKind.u8 0)], false⟩
theorem ty27_ok : TI.Ok Try.prog 27 ty27 := TI.mk_ok (by kernel_rfl) (by kernel_rfl) rfl rfl
def ty28 : TI := ⟨(TypeDesc.int IntKind.u8), 1, 1, [(Value.int IntKind.u8 0)], false⟩
theorem ty28_ok : TI.Ok Try.prog 28 ty28 := TI.mk_ok (by kernel_rfl) (by kernel_rfl) rfl rfl
def ty29 : TI := ⟨(TypeDesc.slice 31), 1, 24, [(Value.slice none 0 0)], false⟩
theorem ty29_ok : TI.Ok Try.prog 29 ty29 := TI.mk_ok (by kernel_rfl) (by kernel_rfl) rfl rfl
def ty30 : TI := ⟨(TypeDesc.struct #[{ name := "Kind", type := 27, offset := 0, embedded := false, tag := "", pkgPath := "", byteOffset := 0 }, { name := "Oper", type := 24, offset := 1, embedded := false, tag := "", pkgPath := "", byteOffset := 1 }, { name := "To", type := 28, offset := 2, embedded := false, tag := "", pkgPath := "", byteOffset := 2 }, { name := "N", type := 21, offset := 3, embedded := false, tag := "", pkgPath := "", byteOffset := 4 }, { name := "S", type := 9, offset := 4, embedded := false, tag := "", pkgPath := "", byteOffset := 8 }, { name := "L", type := 29, offset := 5, embedded := false, tag := "", pkgPath := "", byteOffset := 24 }]), 6, 48, [(Value.int IntKind.u8 0), (Value.int IntKind.u8 0), (Value.int IntKind.u8 0), (Value.int IntKind.i32 0), (Value.string { data := #[] }), (Value.slice none 0 0)], true⟩
theorem ty30_ok : TI.Ok Try.prog 30 ty30 := TI.mk_ok (by kernel_rfl) (by kernel_rfl) rfl rfl
def ty31 : TI := ⟨(TypeDesc.struct #[{ name := "Kind", type := 27, offset := 0, embedded := false, tag := "", pkgPath := "", byteOffset := 0 }, { name := "Oper", type := 24, offset := 1, embedded := false, tag := "", pkgPath := "", byteOffset := 1 }, { name := "To", type := 28, offset := 2, embedded := false, tag := "", pkgPath := "", byteOffset := 2 }, { name := "N", type := 21, offset := 3, embedded := false, tag := "", pkgPath := "", byteOffset := 4 }, { name := "S", type := 9, offset := 4, embedded := false, tag := "", pkgPath := "", byteOffset := 8 }, { name := "L", type := 29, offset := 5, embedded := false, tag := "", pkgPath := "", byteOffset := 24 }]), 6, 48, [(Value.int IntKind.u8 0), (Value.int IntKind.u8 0), (Value.int IntKind.u8 0), (Value.int IntKind.i32 0), (Value.string { data := #[] }), (Value.slice none 0 0)], true⟩
theorem ty31_ok : TI.Ok Try.prog 31 ty31 := TI.mk_ok (by kernel_rfl) (by kernel_rfl) rfl rfl
def ty32 : TI := ⟨(TypeDesc.slice 58), 1, 24, [(Value.slice none 0 0)], false⟩
theorem ty32_ok : TI.Ok Try.prog 32 ty32 := TI.mk_ok (by kernel_rfl) (by kernel_rfl) rfl rfl
def ty33 : TI := ⟨(TypeDesc.func #[32] #[4] false), 1, 8, [Value.nilFunc], false⟩
theorem ty33_ok : TI.Ok Try.prog 33 ty33 := TI.mk_ok (by kernel_rfl) (by kernel_rfl) rfl rfl
def ty34 : TI := ⟨(TypeDesc.int IntKind.i64), 1, 8, [(Value.int IntKind.i64 0)], false⟩
theorem ty34_ok : TI.Ok Try.prog 34 ty34 := TI.mk_ok (by kernel_rfl) (by kernel_rfl) rfl rfl
def ty35 : TI := ⟨(TypeDesc.tuple #[31, 34]), 1, 0, [(Value.tuple #[(Value.agg #[(Value.int IntKind.u8 0), (Value.int IntKind.u8 0), (Value.int IntKind.u8 0), (Value.int IntKind.i32 0), (Value.string { data := #[] }), (Value.slice none 0 0)]), (Value.int IntKind.i64 0)])], false⟩
theorem ty35_ok : TI.Ok Try.prog 35 ty35 := TI.mk_ok (by kernel_rfl) (by kernel_rfl) rfl rfl
def ty36 : TI := ⟨(TypeDesc.func #[31, 32] #[31, 34] false), 1, 8, [Value.nilFunc], false⟩
theorem ty36_ok : TI.Ok Try.prog 36 ty36 := TI.mk_ok (by kernel_rfl) (by kernel_rfl) rfl rfl
def ty37 : TI := ⟨(TypeDesc.tuple #[21, 34]), 1, 0, [(Value.tuple #[(Value.int IntKind.i32 0), (Value.int IntKind.i64 0)])], false⟩
theorem ty37_ok : TI.Ok Try.prog 37 ty37 := TI.mk_ok (by kernel_rfl) (by kernel_rfl) rfl rfl
def ty38 : TI := ⟨(TypeDesc.func #[31, 32] #[21, 34] false), 1, 8, [Value.nilFunc], false⟩
theorem ty38_ok : TI.Ok Try.prog 38 ty38 := TI.mk_ok (by kernel_rfl) (by kernel_rfl) rfl rfl
def ty39 : TI := ⟨(TypeDesc.func #[31, 31] #[4] false), 1, 8, [Value.nilFunc], false⟩
theorem ty39_ok : TI.Ok Try.prog 39 ty39 := TI.mk_ok (by kernel_rfl) (by kernel_rfl) rfl rfl
def ty40 : TI := ⟨(TypeDesc.func #[31, 32] #[4] false), 1, 8, [Value.nilFunc], false⟩
theorem ty40_ok : TI.Ok Try.prog 40 ty40 := TI.mk_ok (by kernel_rfl) (by kernel_rfl) rfl rfl
def ty41 : TI := ⟨(TypeDesc.array 2 24), 2, 2, [(Value.int IntKind.u8 0), (Value.int IntKind.u8 0)], true⟩
theorem ty41_ok : TI.Ok Try.prog 41 ty41 := TI.mk_ok (by kernel_rfl) (by kernel_rfl) rfl rfl
def ty42 : TI := ⟨(TypeDesc.slice 41), 1, 24, [(Value.slice none 0 0)], false⟩
theorem ty42_ok : TI.Ok Try.prog 42 ty42 := TI.mk_ok (by kernel_rfl) (by kernel_rfl) rfl rfl
def ty43 : TI := ⟨(TypeDesc.func #[24, 21, 21] #[21] false), 1, 8, [Value.nilFunc], false⟩
theorem ty43_ok : TI.Ok Try.prog 43 ty43 := TI.mk_ok (by kernel_rfl) (by kernel_rfl) rfl rfl
def ty44 : TI := ⟨(TypeDesc.func #[21] #[21] false), 1, 8, [Value.nilFunc], false⟩
theorem ty44_ok : TI.Ok Try.prog 44 ty44 := TI.mk_ok (by kernel_rfl) (by kernel_rfl) rfl rfl
def ty45 : TI := ⟨(TypeDesc.func #[21, 21] #[4] false), 1, 8, [Value.nilFunc], false⟩
theorem ty45_ok : TI.Ok Try.prog 45 ty45 := TI.mk_ok (by kernel_rfl) (by kernel_rfl) rfl rfl
def ty46 : TI := ⟨(TypeDesc.func #[21] #[31] false), 1, 8, [Value.nilFunc], false⟩
theorem ty46_ok : TI.Ok Try.prog 46 ty46 := TI.mk_ok (by kernel_rfl) (by kernel_rfl) rfl rfl
def ty47 : TI := ⟨(TypeDesc.slice 5), 1, 24, [(Value.slice none 0 0)], false⟩
theorem ty47_ok : TI.Ok Try.prog 47 ty47 := TI.mk_ok (by kernel_rfl) (by kernel_rfl) rfl rfl
def ty48 : TI := ⟨(TypeDesc.int IntKind.u8), 1, 1, [(Value.int IntKind.u8 0)], false⟩
theorem ty48_ok : TI.Ok Try.prog 48 ty48 := TI.mk_ok (by kernel_rfl) (by kernel_rfl) rfl rfl
def ty49 : TI := ⟨(TypeDesc.struct #[{ name := "Kind", type := 28, offset := 0, embedded := false, tag := "", pkgPath := "", byteOffset := 0 }, { name := "Dim", type := 3, offset := 1, embedded := false, tag := "", pkgPath := "", byteOffset := 8 }, { name := "Item", type := 28, offset := 2, embedded := false, tag := "", pkgPath := "", byteOffset := 16 }, { name := "Proto", type := 9, offset := 3, embedded := false, tag := "", pkgPath := "", byteOffset := 24 }]), 4, 40, [(Value.int IntKind.u8 0), (Value.int IntKind.i64 0), (Value.int IntKind.u8 0), (Value.string { data := #[] })], true⟩
theorem ty49_ok : TI.Ok Try.prog 49 ty49 := TI.mk_ok (by kernel_rfl) (by kernel_rfl) rfl rfl
def ty50 : TI := ⟨(TypeDesc.struct #[{ name := "Kind", type := 28, offset := 0, embedded := false, tag := "", pkgPath := "", byteOffset := 0 }, { name := "Dim", type := 3, offset := 1, embedded := false, tag := "", pkgPath := "", byteOffset := 8 }, { name := "Item", type := 28, offset := 2, embedded := false, tag := "", pkgPath := "", byteOffset := 16 }, { name := "Proto", type := 9, offset := 3, embedded := false, tag := "", pkgPath := "", byteOffset := 24 }]), 4, 40, [(Value.int IntKind.u8 0), (Value.int IntKind.i64 0), (Value.int IntKind.u8 0), (Value.string { data := #[] })], true⟩
theorem ty50_ok : TI.Ok Try.prog 50 ty50 := TI.mk_ok (by kernel_rfl) (by kernel_rfl) rfl rfl
def ty51 : TI := ⟨(TypeDesc.slice 9), 1, 24, [(Value.slice none 0 0)], false⟩
theorem ty51_ok : TI.Ok Try.prog 51 ty51 := TI.mk_ok (by kernel_rfl) (by kernel_rfl) rfl rfl
def ty52 : TI := ⟨(TypeDesc.slice 136), 1, 24, [(Value.slice none 0 0)], false⟩
theorem ty52_ok : TI.Ok Try.prog 52 ty52 := TI.mk_ok (by kernel_rfl) (by kernel_rfl) rfl rfl
def ty53 : TI := ⟨(TypeDesc.struct #[{ name := "Cases", type := 4, offset := 0, embedded := false, tag := "", pkgPath := "", byteOffset := 0 }, { name := "L", type := 52, offset := 1, embedded := false, tag := "", pkgPath := "", byteOffset := 8 }]), 2, 32, [(Value.bool false), (Value.slice none 0 0)], true⟩
theorem ty53_ok : TI.Ok Try.prog 53 ty53 := TI.mk_ok (by kernel_rfl) (by kernel_rfl) rfl rfl
def ty54 : TI := ⟨(TypeDesc.struct #[{ name := "Cases", type := 4, offset := 0, embedded := false, tag := "", pkgPath := "", byteOffset := 0 }, { name := "L", type := 52, offset := 1, embedded := false, tag := "", pkgPath := "", byteOffset := 8 }]), 2, 32, [(Value.bool false), (Value.slice none 0 0)], true⟩
theorem ty54_ok : TI.Ok Try.prog 54 ty54 := TI.mk_ok (by kernel_rfl) (by kernel_rfl) rfl rfl
def ty55 : TI := ⟨(TypeDesc.slice 138), 1, 24, [(Value.slice none 0 0)], false⟩
theorem ty55_ok : TI.Ok Try.prog 55 ty55 := TI.mk_ok (by kernel_rfl) (by kernel_rfl) rfl rfl
def ty56 : TI := ⟨(TypeDesc.slice 145), 1, 24, [(Value.slice none 0 0)], false⟩
theorem ty56_ok : TI.Ok Try.prog 56 ty56 := TI.mk_ok (by kernel_rfl) (by kernel_rfl) rfl rfl
def ty57 : TI := ⟨(TypeDesc.struct #[{ name := "Kind", type := 48, offset := 0, embedded := false, tag := "", pkgPath := "", byteOffset := 0 }, { name := "Type", type := 50, offset := 1, embedded := false, tag := "", pkgPath := "", byteOffset := 8 }, { name := "Names", type := 51, offset := 5, embedded := false, tag := "", pkgPath := "", byteOffset := 48 }, { name := "E", type := 31, offset := 6, embedded := false, tag := "", pkgPath := "", byteOffset := 72 }, { name := "Proto", type := 54, offset := 12, embedded := false, tag := "", pkgPath := "", byteOffset := 120 }, { name := "Formals", type := 55, offset := 14, embedded := false, tag := "", pkgPath := "", byteOffset := 152 }, { name := "Body", type := 56, offset := 15, embedded := false, tag := "", pkgPath := "", byteOffset := 176 }]), 16, 200, [(Value.int IntKind.u8 0), (Value.int IntKind.u8 0), (Value.int IntKind.i64 0), (Value.int IntKind.u8 0), (Value.string { data := #[] }), (Value.slice none 0 0), (Value.int IntKind.u8 0), (Value.int IntKind.u8 0), (Value.int IntKind.u8 0), (Value.int IntKind.i32 0), (Value.string { data := #[] }), (Value.slice none 0 0), (Value.bool false), (Value.slice none 0 0), (Value.slice none 0 0), (Value.slice none 0 0)], true⟩
theorem ty57_ok : TI.Ok Try.prog 57 ty57 := TI.mk_ok (by kernel_rfl) (by kernel_rfl) rfl rfl
def ty58 : TI := ⟨(TypeDesc.struct #[{ name := "Kind", type := 48, offset := 0, embedded := false, tag := "", pkgPath := "", byteOffset := 0 }, { name := "Type", type := 50, offset := 1, embedded := false, tag := "", pkgPath := "", byteOffset := 8 }, { name := "Names", type := 51, offset := 5, embedded := false, tag := "", pkgPath := "", byteOffset := 48 }, { name := "E", type := 31, offset := 6, embedded := false, tag := "", pkgPath := "", byteOffset := 72 }, { name := "Proto", type := 54, offset := 12, embedded := false, tag := "", pkgPath := "", byteOffset := 120 }, { name := "Formals", type := 55, offset := 14, embedded := false, tag := "", pkgPath := "", byteOffset := 152 }, { name := "Body", type := 56, offset := 15, embedded := false, tag := "", pkgPath := "", byteOffset := 176 }]), 16, 200, [(Value.int IntKind.u8 0), (Value.int IntKind.u8 0), (Value.int IntKind.i64 0), (Value.int IntKind.u8 0), (Value.string { data := #[] }), (Value.slice none 0 0), (Value.int IntKind.u8 0), (Value.int IntKind.u8 0), (Value.int IntKind.u8 0), (Value.int IntKind.i32 0), (Value.string { data := #[] }), (Value.slice none 0 0), (Value.bool false), (Value.slice none 0 0), (Value.slice none 0 0), (Value.slice none 0 0)], true⟩
theorem ty58_ok : TI.Ok Try.prog 58 ty58 := TI.mk_ok (by kernel_rfl) (by kernel_rfl) rfl rfl
def ty59 : TI := ⟨(TypeDesc.func #[9, 31] #[58] false), 1, 8, [Value.nilFunc], false⟩
theorem ty59_ok : TI.Ok Try.prog 59 ty59 := TI.mk_ok (by kernel_rfl) (by kernel_rfl) rfl rfl
def ty60 : TI := ⟨(TypeDesc.func #[24, 31, 31] #[31] false), 1, 8, [Value.nilFunc], false⟩
theorem ty60_ok : TI.Ok Try.prog 60 ty60 := TI.mk_ok (by kernel_rfl) (by kernel_rfl) rfl rfl
def ty61 : TI := ⟨(TypeDesc.func #[9] #[31] false), 1, 8, [Value.nilFunc], false⟩
theorem ty61_ok : TI.Ok Try.prog 61 ty61 := TI.mk_ok (by kernel_rfl) (by kernel_rfl) rfl rfl
def ty62 : TI := ⟨(TypeDesc.func #[31, 32, 21] #[4] false), 1, 8, [Value.nilFunc], false⟩
theorem ty62_ok : TI.Ok Try.prog 62 ty62 := TI.mk_ok (by kernel_rfl) (by kernel_rfl) rfl rfl
def ty63 : TI := ⟨(TypeDesc.func #[21, 5] #[4] false), 1, 8, [Value.nilFunc], false⟩
theorem ty63_ok : TI.Ok Try.prog 63 ty63 := TI.mk_ok (by kernel_rfl) (by kernel_rfl) rfl rfl
def ty64 : TI := ⟨(TypeDesc.func #[21, 21, 5, 3] #[4] false), 1, 8, [Value.nilFunc], false⟩
theorem ty64_ok : TI.Ok Try.prog 64 ty64 := TI.mk_ok (by kernel_rfl) (by kernel_rfl) rfl rfl
def ty65 : TI := ⟨(TypeDesc.slice 21), 1, 24, [(Value.slice none 0 0)], false⟩
theorem ty65_ok : TI.Ok Try.prog 65 ty65 := TI.mk_ok (by kernel_rfl) (by kernel_rfl) rfl rfl
def ty66 : TI := ⟨(TypeDesc.func #[31] #[4] false), 1, 8, [Value.nilFunc], false⟩
theorem ty66_ok : TI.Ok Try.prog 66 ty66 := TI.mk_ok (by kernel_rfl) (by kernel_rfl) rfl rfl
def ty67 : TI := ⟨(TypeDesc.func #[31] #[51] false), 1, 8, [Value.nilFunc], false⟩
theorem ty67_ok : TI.Ok Try.prog 67 ty67 := TI.mk_ok (by kernel_rfl) (by kernel_rfl) rfl rfl
def ty68 : TI := ⟨(TypeDesc.func #[32, 9] #[4] false), 1, 8, [Value.nilFunc], false⟩
theorem ty68_ok : TI.Ok Try.prog 68 ty68 := TI.mk_ok (by kernel_rfl) (by kernel_rfl) rfl rfl
def ty69 : TI := ⟨(TypeDesc.func #[31, 32, 65] #[4] false), 1, 8, [Value.nilFunc], false⟩
theorem ty69_ok : TI.Ok Try.prog 69 ty69 := TI.mk_ok (by kernel_rfl) (by kernel_rfl) rfl rfl
def ty70 : TI := ⟨(TypeDesc.func #[21, 21] #[21] false), 1, 8, [Value.nilFunc], false⟩
theorem ty70_ok : TI.Ok Try.prog 70 ty70 := TI.mk_ok (by kernel_rfl) (by kernel_rfl) rfl rfl
def ty71 : TI := ⟨(TypeDesc.func #[24] #[70] false), 1, 8, [Value.nilFunc], false⟩
theorem ty71_ok : TI.Ok Try.prog 71 ty71 := TI.mk_ok (by kernel_rfl) (by kernel_rfl) rfl rfl
def ty72 : TI := ⟨(TypeDesc.func #[2] #[21, 4] false), 1, 8, [Value.nilFunc], false⟩
theorem ty72_ok : TI.Ok Try.prog 72 ty72 := TI.mk_ok (by kernel_rfl) (by kernel_rfl) rfl rfl
def ty73 : TI := ⟨(TypeDesc.func #[21, 4] #[21, 4] false), 1, 8, [Value.nilFunc], false⟩
theorem ty73_ok : TI.Ok Try.prog 73 ty73 := TI.mk_ok (by kernel_rfl) (by kernel_rfl) rfl rfl
def ty74 : TI := ⟨(TypeDesc.func #[21, 21] #[21, 4] false), 1, 8, [Value.nilFunc], false⟩
theorem ty74_ok : TI.Ok Try.prog 74 ty74 := TI.mk_ok (by kernel_rfl) (by kernel_rfl) rfl rfl
def ty75 : TI := ⟨(TypeDesc.func #[2] #[21] false), 1, 8, [Value.nilFunc], false⟩
theorem ty75_ok : TI.Ok Try.prog 75 ty75 := TI.mk_ok (by kernel_rfl) (by kernel_rfl) rfl rfl
def ty76 : TI := ⟨(TypeDesc.func #[4] #[21, 4] false), 1, 8, [Value.nilFunc], false⟩
theorem ty76_ok : TI.Ok Try.prog 76 ty76 := TI.mk_ok (by kernel_rfl) (by kernel_rfl) rfl rfl
def ty77 : TI := ⟨(TypeDesc.func #[9, 3] #[58] false), 1, 8, [Value.nilFunc], false⟩
theorem ty77_ok : TI.Ok Try.prog 77 ty77 := TI.mk_ok (by kernel_rfl) (by kernel_rfl) rfl rfl
def ty78 : TI := ⟨(TypeDesc.slice 84), 1, 24, [(Value.slice none 0 0)], false⟩
theorem ty78_ok : TI.Ok Try.prog 78 ty78 := TI.mk_ok (by kernel_rfl) (by kernel_rfl) rfl rfl
def ty79 : TI := ⟨(TypeDesc.struct #[{ name := "env", type := 32, offset := 0, embedded := false, tag := "", pkgPath := "transputer/fold", byteOffset := 0 }, { name := "values", type := 78, offset := 1, embedded := false, tag := "", pkgPath := "transputer/fold", byteOffset := 24 }]), 2, 48, [(Value.slice none 0 0), (Value.slice none 0 0)], true⟩
theorem ty79_ok : TI.Ok Try.prog 79 ty79 := TI.mk_ok (by kernel_rfl) (by kernel_rfl) rfl rfl
def ty80 : TI := ⟨(TypeDesc.struct #[{ name := "env", type := 32, offset := 0, embedded := false, tag := "", pkgPath := "transputer/fold", byteOffset := 0 }, { name := "values", type := 78, offset := 1, embedded := false, tag := "", pkgPath := "transputer/fold", byteOffset := 24 }]), 2, 48, [(Value.slice none 0 0), (Value.slice none 0 0)], true⟩
theorem ty80_ok : TI.Ok Try.prog 80 ty80 := TI.mk_ok (by kernel_rfl) (by kernel_rfl) rfl rfl
def ty81 : TI := ⟨(TypeDesc.func #[32] #[80] false), 1, 8, [Value.nilFunc], false⟩
theorem ty81_ok : TI.Ok Try.prog 81 ty81 := TI.mk_ok (by kernel_rfl) (by kernel_rfl) rfl rfl
def ty82 : TI := ⟨(TypeDesc.func #[31] #[31] false), 1, 8, [Value.nilFunc], false⟩
theorem ty82_ok : TI.Ok Try.prog 82 ty82 := TI.mk_ok (by kernel_rfl) (by kernel_rfl) rfl rfl
def ty83 : TI := ⟨(TypeDesc.struct #[{ name := "v", type := 21, offset := 0, embedded := false, tag := "", pkgPath := "transputer/fold", byteOffset := 0 }, { name := "ok", type := 4, offset := 1, embedded := false, tag := "", pkgPath := "transputer/fold", byteOffset := 4 }]), 2, 8, [(Value.int IntKind.i32 0), (Value.bool false)], true⟩
theorem ty83_ok : TI.Ok Try.prog 83 ty83 := TI.mk_ok (by kernel_rfl) (by kernel_rfl) rfl rfl
def ty84 : TI := ⟨(TypeDesc.struct #[{ name := "v", type := 21, offset := 0, embedded := false, tag := "", pkgPath := "transputer/fold", byteOffset := 0 }, { name := "ok", type := 4, offset := 1, embedded := false, tag := "", pkgPath := "transputer/fold", byteOffset := 4 }]), 2, 8, [(Value.int IntKind.i32 0), (Value.bool false)], true⟩
theorem ty84_ok : TI.Ok Try.prog 84 ty84 := TI.mk_ok (by kernel_rfl) (by kernel_rfl) rfl rfl
def ty85 : TI := ⟨(TypeDesc.func #[31] #[84] false), 1, 8, [Value.nilFunc], false⟩
theorem ty85_ok : TI.Ok Try.prog 85 ty85 := TI.mk_ok (by kernel_rfl) (by kernel_rfl) rfl rfl
def ty86 : TI := ⟨(TypeDesc.func #[31, 3] #[4] false), 1, 8, [Value.nilFunc], false⟩
theorem ty86_ok : TI.Ok Try.prog 86 ty86 := TI.mk_ok (by kernel_rfl) (by kernel_rfl) rfl rfl
def ty87 : TI := ⟨(TypeDesc.tuple #[3, 4]), 1, 0, [(Value.tuple #[(Value.int IntKind.i64 0), (Value.bool false)])], false⟩
theorem ty87_ok : TI.Ok Try.prog 87 ty87 := TI.mk_ok (by kernel_rfl) (by kernel_rfl) rfl rfl
def ty88 : TI := ⟨(TypeDesc.func #[31] #[3, 4] false), 1, 8, [Value.nilFunc], false⟩
theorem ty88_ok : TI.Ok Try.prog 88 ty88 := TI.mk_ok (by kernel_rfl) (by kernel_rfl) rfl rfl
def ty89 : TI := ⟨(TypeDesc.func #[24] #[45] false), 1, 8, [Value.nilFunc], false⟩
theorem ty89_ok : TI.Ok Try.prog 89 ty89 := TI.mk_ok (by kernel_rfl) (by kernel_rfl) rfl rfl
def ty90 : TI := ⟨(TypeDesc.func #[4] #[21] false), 1, 8, [Value.nilFunc], false⟩
theorem ty90_ok : TI.Ok Try.prog 90 ty90 := TI.mk_ok (by kernel_rfl) (by kernel_rfl) rfl rfl
def ty91 : TI := ⟨(TypeDesc.func #[2] #[4] false), 1, 8, [Value.nilFunc], false⟩
theorem ty91_ok : TI.Ok Try.prog 91 ty91 := TI.mk_ok (by kernel_rfl) (by kernel_rfl) rfl rfl
def ty92 : TI := ⟨(TypeDesc.func #[21] #[2] false), 1, 8, [Value.nilFunc], false⟩
theorem ty92_ok : TI.Ok Try.prog 92 ty92 := TI.mk_ok (by kernel_rfl) (by kernel_rfl) rfl rfl
def ty93 : TI := ⟨(TypeDesc.func #[24, 2, 2] #[2] false), 1, 8, [Value.nilFunc], false⟩
theorem ty93_ok : TI.Ok Try.prog 93 ty93 := TI.mk_ok (by kernel_rfl) (by kernel_rfl) rfl rfl
def ty94 : TI := ⟨(TypeDesc.func #[3] #[80] false), 1, 8, [Value.nilFunc], false⟩
theorem ty94_ok : TI.Ok Try.prog 94 ty94 := TI.mk_ok (by kernel_rfl) (by kernel_rfl) rfl rfl
def ty95 : TI := ⟨(TypeDesc.func #[31] #[27] false), 1, 8, [Value.nilFunc], false⟩
theorem ty95_ok : TI.Ok Try.prog 95 ty95 := TI.mk_ok (by kernel_rfl) (by kernel_rfl) rfl rfl
def ty96 : TI := ⟨(TypeDesc.func #[9] #[3] false), 1, 8, [Value.nilFunc], false⟩
theorem ty96_ok : TI.Ok Try.prog 96 ty96 := TI.mk_ok (by kernel_rfl) (by kernel_rfl) rfl rfl
def ty97 : TI := ⟨(TypeDesc.func #[] #[84] false), 1, 8, [Value.nilFunc], false⟩
theorem ty97_ok : TI.Ok Try.prog 97 ty97 := TI.mk_ok (by kernel_rfl) (by kernel_rfl) rfl rfl
def ty98 : TI := ⟨(TypeDesc.func #[28, 84] #[84] false), 1, 8, [Value.nilFunc], false⟩
theorem ty98_ok : TI.Ok Try.prog 98 ty98 := TI.mk_ok (by kernel_rfl) (by kernel_rfl) rfl rfl
def ty99 : TI := ⟨(TypeDesc.array 2 21), 2, 8, [(Value.int IntKind.i32 0), (Value.int IntKind.i32 0)], true⟩
theorem ty99_ok : TI.Ok Try.prog 99 ty99 := TI.mk_ok (by kernel_rfl) (by kernel_rfl) rfl rfl
def ty100 : TI := ⟨(TypeDesc.int IntKind.u64), 1, 8, [(Value.int IntKind.u64 0)], false⟩
theorem ty100_ok : TI.Ok Try.prog 100 ty100 := TI.mk_ok (by kernel_rfl) (by kernel_rfl) rfl rfl
def ty101 : TI := ⟨(TypeDesc.func #[9] #[4] false), 1, 8, [Value.nilFunc], false⟩
theorem ty101_ok : TI.Ok Try.prog 101 ty101 := TI.mk_ok (by kernel_rfl) (by kernel_rfl) rfl rfl
def ty102 : TI := ⟨(TypeDesc.func #[28] #[9] false), 1, 8, [Value.nilFunc], false⟩
theorem ty102_ok : TI.Ok Try.prog 102 ty102 := TI.mk_ok (by kernel_rfl) (by kernel_rfl) rfl rfl
def ty103 : TI := ⟨(TypeDesc.int IntKind.u32), 1, 4, [(Value.int IntKind.u32 0)], false⟩
theorem ty103_ok : TI.Ok Try.prog 103 ty103 := TI.mk_ok (by kernel_rfl) (by kernel_rfl) rfl rfl
def ty104 : TI := ⟨(TypeDesc.func #[105] #[21, 4] false), 1, 8, [Value.nilFunc], false⟩
theorem ty104_ok : TI.Ok Try.prog 104 ty104 := TI.mk_ok (by kernel_rfl) (by kernel_rfl) rfl rfl
def ty105 : TI := ⟨(TypeDesc.int IntKind.u64), 1, 8, [(Value.int IntKind.u64 0)], false⟩
theorem ty105_ok : TI.Ok Try.prog 105 ty105 := TI.mk_ok (by kernel_rfl) (by kernel_rfl) rfl rfl
def ty106 : TI := ⟨(TypeDesc.func #[111] #[] false), 1, 8, [Value.nilFunc], false⟩
theorem ty106_ok : TI.Ok Try.prog 106 ty106 := TI.mk_ok (by kernel_rfl) (by kernel_rfl) rfl rfl
def ty107 : TI := ⟨(TypeDesc.func #[111] #[] false), 1, 8, [Value.nilFunc], false⟩
theorem ty107_ok : TI.Ok Try.prog 107 ty107 := TI.mk_ok (by kernel_rfl) (by kernel_rfl) rfl rfl
def ty108 : TI := ⟨(TypeDesc.func #[32] #[107] false), 1, 8, [Value.nilFunc], false⟩
theorem ty108_ok : TI.Ok Try.prog 108 ty108 := TI.mk_ok (by kernel_rfl) (by kernel_rfl) rfl rfl
def ty109 : TI := ⟨(TypeDesc.func #[51, 9] #[4] false), 1, 8, [Value.nilFunc], false⟩
theorem ty109_ok : TI.Ok Try.prog 109 ty109 := TI.mk_ok (by kernel_rfl) (by kernel_rfl) rfl rfl
def ty110 : TI := ⟨(TypeDesc.func #[5] #[4] false), 1, 8, [Value.nilFunc], false⟩
theorem ty110_ok : TI.Ok Try.prog 110 ty110 := TI.mk_ok (by kernel_rfl) (by kernel_rfl) rfl rfl
def ty111 : TI := ⟨(TypeDesc.func #[3, 58] #[4] false), 1, 8, [Value.nilFunc], false⟩
theorem ty111_ok : TI.Ok Try.prog 111 ty111 := TI.mk_ok (by kernel_rfl) (by kernel_rfl) rfl rfl
def ty112 : TI := ⟨(TypeDesc.func #[51, 9] #[3] false), 1, 8, [Value.nilFunc], false⟩
theorem ty112_ok : TI.Ok Try.prog 112 ty112 := TI.mk_ok (by kernel_rfl) (by kernel_rfl) rfl rfl
def ty113 : TI := ⟨(TypeDesc.func #[9, 9] #[4] false), 1, 8, [Value.nilFunc], false⟩
theorem ty113_ok : TI.Ok Try.prog 113 ty113 := TI.mk_ok (by kernel_rfl) (by kernel_rfl) rfl rfl
def ty114 : TI := ⟨(TypeDesc.func #[9, 9] #[3] false), 1, 8, [Value.nilFunc], false⟩
theorem ty114_ok : TI.Ok Try.prog 114 ty114 := TI.mk_ok (by kernel_rfl) (by kernel_rfl) rfl rfl
def ty115 : TI := ⟨(TypeDesc.func #[9, 5] #[3] false), 1, 8, [Value.nilFunc], false⟩
theorem ty115_ok : TI.Ok Try.prog 115 ty115 := TI.mk_ok (by kernel_rfl) (by kernel_rfl) rfl rfl
def ty116 : TI := ⟨(TypeDesc.func #[3] #[3] false), 1, 8, [Value.nilFunc], false⟩
theorem ty116_ok : TI.Ok Try.prog 116 ty116 := TI.mk_ok (by kernel_rfl) (by kernel_rfl) rfl rfl
def ty117 : TI := ⟨(TypeDesc.tuple #[103, 103]), 1, 0, [(Value.tuple #[(Value.int IntKind.u32 0), (Value.int IntKind.u32 0)])], false⟩
theorem ty117_ok : TI.Ok Try.prog 117 ty117 := TI.mk_ok (by kernel_rfl) (by kernel_rfl) rfl rfl
def ty118 : TI := ⟨(TypeDesc.func #[9] #[103, 103] false), 1, 8, [Value.nilFunc], false⟩
theorem ty118_ok : TI.Ok Try.prog 118 ty118 := TI.mk_ok (by kernel_rfl) (by kernel_rfl) rfl rfl
def ty119 : TI := ⟨(TypeDesc.func #[] #[9] false), 1, 8, [Value.nilFunc], false⟩
theorem ty119_ok : TI.Ok Try.prog 119 ty119 := TI.mk_ok (by kernel_rfl) (by kernel_rfl) rfl rfl
def ty125 : TI := ⟨(TypeDesc.func #[] #[3] false), 1, 8, [Value.nilFunc], false⟩
theorem ty125_ok : TI.Ok Try.prog 125 ty125 := TI.mk_ok (by kernel_rfl) (by kernel_rfl) rfl rfl
def ty129 : TI := ⟨(TypeDesc.pointer 5), 1, 8, [(Value.pointer none)], false⟩
theorem ty129_ok : TI.Ok Try.prog 129 ty129 := TI.mk_ok (by kernel_rfl) (by kernel_rfl) rfl rfl
def ty134 : TI := ⟨(TypeDesc.slice 28), 1, 24, [(Value.slice none 0 0)], false⟩
theorem ty134_ok : TI.Ok Try.prog 134 ty134 := TI.mk_ok (by kernel_rfl) (by kernel_rfl) rfl rfl
def ty135 : TI := ⟨(TypeDesc.struct #[{ name := "Tag", type := 9, offset := 0, embedded := false, tag := "", pkgPath := "", byteOffset := 0 }, { name := "Items", type := 134, offset := 1, embedded := false, tag := "", pkgPath := "", byteOffset := 16 }]), 2, 40, [(Value.string { data := #[] }), (Value.slice none 0 0)], true⟩
theorem ty135_ok : TI.Ok Try.prog 135 ty135 := TI.mk_ok (by kernel_rfl) (by kernel_rfl) rfl rfl
def ty136 : TI := ⟨(TypeDesc.struct #[{ name := "Tag", type := 9, offset := 0, embedded := false, tag := "", pkgPath := "", byteOffset := 0 }, { name := "Items", type := 134, offset := 1, embedded := false, tag := "", pkgPath := "", byteOffset := 16 }]), 2, 40, [(Value.string { data := #[] }), (Value.slice none 0 0)], true⟩
theorem ty136_ok : TI.Ok Try.prog 136 ty136 := TI.mk_ok (by kernel_rfl) (by kernel_rfl) rfl rfl
def ty137 : TI := ⟨(TypeDesc.struct #[{ name := "Val", type := 4, offset := 0, embedded := false, tag := "", pkgPath := "", byteOffset := 0 }, { name := "Type", type := 50, offset := 1, embedded := false, tag := "", pkgPath := "", byteOffset := 8 }, { name := "Name", type := 9, offset := 5, embedded := false, tag := "", pkgPath := "", byteOffset := 48 }]), 6, 64, [(Value.bool false), (Value.int IntKind.u8 0), (Value.int IntKind.i64 0), (Value.int IntKind.u8 0), (Value.string { data := #[] }), (Value.string { data := #[] })], true⟩
theorem ty137_ok : TI.Ok Try.prog 137 ty137 := TI.mk_ok (by kernel_rfl) (by kernel_rfl) rfl rfl
def ty138 : TI := ⟨(TypeDesc.struct #[{ name := "Val", type := 4, offset := 0, embedded := false, tag := "", pkgPath := "", byteOffset := 0 }, { name := "Type", type := 50, offset := 1, embedded := false, tag := "", pkgPath := "", byteOffset := 8 }, { name := "Name", type := 9, offset := 5, embedded := false, tag := "", pkgPath := "", byteOffset := 48 }]), 6, 64, [(Value.bool false), (Value.int IntKind.u8 0), (Value.int IntKind.i64 0), (Value.int IntKind.u8 0), (Value.string { data := #[] }), (Value.string { data := #[] })], true⟩
theorem ty138_ok : TI.Ok Try.prog 138 ty138 := TI.mk_ok (by kernel_rfl) (by kernel_rfl) rfl rfl
def ty139 : TI := ⟨(TypeDesc.int IntKind.u8), 1, 1, [(Value.int IntKind.u8 0)], false⟩
theorem ty139_ok : TI.Ok Try.prog 139 ty139 := TI.mk_ok (by kernel_rfl) (by kernel_rfl) rfl rfl
def ty140 : TI := ⟨(TypeDesc.struct #[{ name := "Name", type := 9, offset := 0, embedded := false, tag := "", pkgPath := "", byteOffset := 0 }, { name := "Base", type := 31, offset := 1, embedded := false, tag := "", pkgPath := "", byteOffset := 16 }, { name := "Count", type := 31, offset := 7, embedded := false, tag := "", pkgPath := "", byteOffset := 64 }]), 13, 112, [(Value.string { data := #[] }), (Value.int IntKind.u8 0), (Value.int IntKind.u8 0), (Value.int IntKind.u8 0), (Value.int IntKind.i32 0), (Value.string { data := #[] }), (Value.slice none 0 0), (Value.int IntKind.u8 0), (Value.int IntKind.u8 0), (Value.int IntKind.u8 0), (Value.int IntKind.i32 0), (Value.string { data := #[] }), (Value.slice none 0 0)], true⟩
theorem ty140_ok : TI.Ok Try.prog 140 ty140 := TI.mk_ok (by kernel_rfl) (by kernel_rfl) rfl rfl
def ty141 : TI := ⟨(TypeDesc.struct #[{ name := "Name", type := 9, offset := 0, embedded := false, tag := "", pkgPath := "", byteOffset := 0 }, { name := "Base", type := 31, offset := 1, embedded := false, tag := "", pkgPath := "", byteOffset := 16 }, { name := "Count", type := 31, offset := 7, embedded := false, tag := "", pkgPath := "", byteOffset := 64 }]), 13, 112, [(Value.string { data := #[] }), (Value.int IntKind.u8 0), (Value.int IntKind.u8 0), (Value.int IntKind.u8 0), (Value.int IntKind.i32 0), (Value.string { data := #[] }), (Value.slice none 0 0), (Value.int IntKind.u8 0), (Value.int IntKind.u8 0), (Value.int IntKind.u8 0), (Value.int IntKind.i32 0), (Value.string { data := #[] }), (Value.slice none 0 0)], true⟩
theorem ty141_ok : TI.Ok Try.prog 141 ty141 := TI.mk_ok (by kernel_rfl) (by kernel_rfl) rfl rfl
def ty142 : TI := ⟨(TypeDesc.slice 149), 1, 24, [(Value.slice none 0 0)], false⟩
theorem ty142_ok : TI.Ok Try.prog 142 ty142 := TI.mk_ok (by kernel_rfl) (by kernel_rfl) rfl rfl
def ty143 : TI := ⟨(TypeDesc.slice 3), 1, 24, [(Value.slice none 0 0)], false⟩
theorem ty143_ok : TI.Ok Try.prog 143 ty143 := TI.mk_ok (by kernel_rfl) (by kernel_rfl) rfl rfl
def ty144 : TI := ⟨(TypeDesc.struct #[{ name := "Kind", type := 139, offset := 0, embedded := false, tag := "", pkgPath := "", byteOffset := 0 }, { name := "Name", type := 9, offset := 1, embedded := false, tag := "", pkgPath := "", byteOffset := 8 }, { name := "Chan", type := 31, offset := 2, embedded := false, tag := "", pkgPath := "", byteOffset := 24 }, { name := "Targets", type := 29, offset := 8, embedded := false, tag := "", pkgPath := "", byteOffset := 72 }, { name := "Exprs", type := 29, offset := 9, embedded := false, tag := "", pkgPath := "", byteOffset := 96 }, { name := "Rep", type := 141, offset := 10, embedded := false, tag := "", pkgPath := "", byteOffset := 120 }, { name := "Guards", type := 142, offset := 23, embedded := false, tag := "", pkgPath := "", byteOffset := 232 }, { name := "L", type := 56, offset := 24, embedded := false, tag := "", pkgPath := "", byteOffset := 256 }, { name := "Procs", type := 143, offset := 25, embedded := false, tag := "", pkgPath := "", byteOffset := 280 }, { name := "Spec", type := 58, offset := 26, embedded := false, tag := "", pkgPath := "", byteOffset := 304 }]), 42, 504, [(Value.int IntKind.u8 0), (Value.string { data := #[] }), (Value.int IntKind.u8 0), (Value.int IntKind.u8 0), (Value.int IntKind.u8 0), (Value.int IntKind.i32 0), (Value.string { data := #[] }), (Value.slice none 0 0), (Value.slice none 0 0), (Value.slice none 0 0), (Value.string { data := #[] }), (Value.int IntKind.u8 0), (Value.int IntKind.u8 0), (Value.int IntKind.u8 0), (Value.int IntKind.i32 0), (Value.string { data := #[] }), (Value.slice none 0 0), (Value.int IntKind.u8 0), (Value.int IntKind.u8 0), (Value.int IntKind.u8 0), (Value.int IntKind.i32 0), (Value.string { data := #[] }), (Value.slice none 0 0), (Value.slice none 0 0), (Value.slice none 0 0), (Value.slice none 0 0), (Value.int IntKind.u8 0), (Value.int IntKind.u8 0), (Value.int IntKind.i64 0), (Value.int IntKind.u8 0), (Value.string { data := #[] }), (Value.slice none 0 0), (Value.int IntKind.u8 0), (Value.int IntKind.u8 0), (Value.int IntKind.u8 0), (Value.int IntKind.i32 0), (Value.string { data := #[] }), (Value.slice none 0 0), (Value.bool false), (Value.slice none 0 0), (Value.slice none 0 0), (Value.slice none 0 0)], true⟩
theorem ty144_ok : TI.Ok Try.prog 144 ty144 := TI.mk_ok (by kernel_rfl) (by kernel_rfl) rfl rfl
def ty145 : TI := ⟨(TypeDesc.struct #[{ name := "Kind", type := 139, offset := 0, embedded := false, tag := "", pkgPath := "", byteOffset := 0 }, { name := "Name", type := 9, offset := 1, embedded := false, tag := "", pkgPath := "", byteOffset := 8 }, { name := "Chan", type := 31, offset := 2, embedded := false, tag := "", pkgPath := "", byteOffset := 24 }, { name := "Targets", type := 29, offset := 8, embedded := false, tag := "", pkgPath := "", byteOffset := 72 }, { name := "Exprs", type := 29, offset := 9, embedded := false, tag := "", pkgPath := "", byteOffset := 96 }, { name := "Rep", type := 141, offset := 10, embedded := false, tag := "", pkgPath := "", byteOffset := 120 }, { name := "Guards", type := 142, offset := 23, embedded := false, tag := "", pkgPath := "", byteOffset := 232 }, { name := "L", type := 56, offset := 24, embedded := false, tag := "", pkgPath := "", byteOffset := 256 }, { name := "Procs", type := 143, offset := 25, embedded := false, tag := "", pkgPath := "", byteOffset := 280 }, { name := "Spec", type := 58, offset := 26, embedded := false, tag := "", pkgPath := "", byteOffset := 304 }]), 42, 504, [(Value.int IntKind.u8 0), (Value.string { data := #[] }), (Value.int IntKind.u8 0), (Value.int IntKind.u8 0), (Value.int IntKind.u8 0), (Value.int IntKind.i32 0), (Value.string { data := #[] }), (Value.slice none 0 0), (Value.slice none 0 0), (Value.slice none 0 0), (Value.string { data := #[] }), (Value.int IntKind.u8 0), (Value.int IntKind.u8 0), (Value.int IntKind.u8 0), (Value.int IntKind.i32 0), (Value.string { data := #[] }), (Value.slice none 0 0), (Value.int IntKind.u8 0), (Value.int IntKind.u8 0), (Value.int IntKind.u8 0), (Value.int IntKind.i32 0), (Value.string { data := #[] }), (Value.slice none 0 0), (Value.slice none 0 0), (Value.slice none 0 0), (Value.slice none 0 0), (Value.int IntKind.u8 0), (Value.int IntKind.u8 0), (Value.int IntKind.i64 0), (Value.int IntKind.u8 0), (Value.string { data := #[] }), (Value.slice none 0 0), (Value.int IntKind.u8 0), (Value.int IntKind.u8 0), (Value.int IntKind.u8 0), (Value.int IntKind.i32 0), (Value.string { data := #[] }), (Value.slice none 0 0), (Value.bool false), (Value.slice none 0 0), (Value.slice none 0 0), (Value.slice none 0 0)], true⟩
theorem ty145_ok : TI.Ok Try.prog 145 ty145 := TI.mk_ok (by kernel_rfl) (by kernel_rfl) rfl rfl
def ty147 : TI := ⟨(TypeDesc.int IntKind.u8), 1, 1, [(Value.int IntKind.u8 0)], false⟩
theorem ty147_ok : TI.Ok Try.prog 147 ty147 := TI.mk_ok (by kernel_rfl) (by kernel_rfl) rfl rfl
def ty148 : TI := ⟨(TypeDesc.struct #[{ name := "Kind", type := 147, offset := 0, embedded := false, tag := "", pkgPath := "", byteOffset := 0 }, { name := "Name", type := 9, offset := 1, embedded := false, tag := "", pkgPath := "", byteOffset := 8 }, { name := "Cond", type := 31, offset := 2, embedded := false, tag := "", pkgPath := "", byteOffset := 24 }, { name := "Chan", type := 31, offset := 8, embedded := false, tag := "", pkgPath := "", byteOffset := 72 }, { name := "Targets", type := 29, offset := 14, embedded := false, tag := "", pkgPath := "", byteOffset := 120 }, { name := "Values", type := 29, offset := 15, embedded := false, tag := "", pkgPath := "", byteOffset := 144 }, { name := "Time", type := 31, offset := 16, embedded := false, tag := "", pkgPath := "", byteOffset := 168 }, { name := "Body", type := 56, offset := 22, embedded := false, tag := "", pkgPath := "", byteOffset := 216 }]), 23, 240, [(Value.int IntKind.u8 0), (Value.string { data := #[] }), (Value.int IntKind.u8 0), (Value.int IntKind.u8 0), (Value.int IntKind.u8 0), (Value.int IntKind.i32 0), (Value.string { data := #[] }), (Value.slice none 0 0), (Value.int IntKind.u8 0), (Value.int IntKind.u8 0), (Value.int IntKind.u8 0), (Value.int IntKind.i32 0), (Value.string { data := #[] }), (Value.slice none 0 0), (Value.slice none 0 0), (Value.slice none 0 0), (Value.int IntKind.u8 0), (Value.int IntKind.u8 0), (Value.int IntKind.u8 0), (Value.int IntKind.i32 0), (Value.string { data := #[] }), (Value.slice none 0 0), (Value.slice none 0 0)], true⟩
theorem ty148_ok : TI.Ok Try.prog 148 ty148 := TI.mk_ok (by kernel_rfl) (by kernel_rfl) rfl rfl
def ty149 : TI := ⟨(TypeDesc.struct #[{ name := "Kind", type := 147, offset := 0, embedded := false, tag := "", pkgPath := "", byteOffset := 0 }, { name := "Name", type := 9, offset := 1, embedded := false, tag := "", pkgPath := "", byteOffset := 8 }, { name := "Cond", type := 31, offset := 2, embedded := false, tag := "", pkgPath := "", byteOffset := 24 }, { name := "Chan", type := 31, offset := 8, embedded := false, tag := "", pkgPath := "", byteOffset := 72 }, { name := "Targets", type := 29, offset := 14, embedded := false, tag := "", pkgPath := "", byteOffset := 120 }, { name := "Values", type := 29, offset := 15, embedded := false, tag := "", pkgPath := "", byteOffset := 144 }, { name := "Time", type := 31, offset := 16, embedded := false, tag := "", pkgPath := "", byteOffset := 168 }, { name := "Body", type := 56, offset := 22, embedded := false, tag := "", pkgPath := "", byteOffset := 216 }]), 23, 240, [(Value.int IntKind.u8 0), (Value.string { data := #[] }), (Value.int IntKind.u8 0), (Value.int IntKind.u8 0), (Value.int IntKind.u8 0), (Value.int IntKind.i32 0), (Value.string { data := #[] }), (Value.slice none 0 0), (Value.int IntKind.u8 0), (Value.int IntKind.u8 0), (Value.int IntKind.u8 0), (Value.int IntKind.i32 0), (Value.string { data := #[] }), (Value.slice none 0 0), (Value.slice none 0 0), (Value.slice none 0 0), (Value.int IntKind.u8 0), (Value.int IntKind.u8 0), (Value.int IntKind.u8 0), (Value.int IntKind.i32 0), (Value.string { data := #[] }), (Value.slice none 0 0), (Value.slice none 0 0)], true⟩
theorem ty149_ok : TI.Ok Try.prog 149 ty149 := TI.mk_ok (by kernel_rfl) (by kernel_rfl) rfl rfl
def tt : TT := (.node 74 ty74 (.node 42 ty42 (.node 26 ty26 (.node 12 ty12 (.node 3 ty3 (.node 1 ty1 (.node 0 ty0 .leaf .leaf) (.node 2 ty2 .leaf .leaf)) (.node 5 ty5 (.node 4 ty4 .leaf .leaf) (.node 9 ty9 .leaf .leaf))) (.node 22 ty22 (.node 20 ty20 (.node 13 ty13 .leaf .leaf) (.node 21 ty21 .leaf .leaf)) (.node 24 ty24 (.node 23 ty23 .leaf .leaf) (.node 25 ty25 .leaf .leaf)))) (.node 34 ty34 (.node 30 ty30 (.node 28 ty28 (.node 27 ty27 .leaf .leaf) (.node 29 ty29 .leaf .leaf)) (.node 32 ty32 (.node 31 ty31 .leaf .leaf) (.node 33 ty33 .leaf .leaf))) (.node 38 ty38 (.node 36 ty36 (.node 35 ty35 .leaf .leaf) (.node 37 ty37 .leaf .leaf)) (.node 40 ty40 (.node 39 ty39 .leaf .leaf) (.node 41 ty41 .leaf .leaf))))) (.node 58 ty58 (.node 50 ty50 (.node 46 ty46 (.node 44 ty44 (.node 43 ty43 .leaf .leaf) (.node 45 ty45 .leaf .leaf)) (.node 48 ty48 (.node 47 ty47 .leaf .leaf) (.node 49 ty49 .leaf .leaf))) (.node 54 ty54 (.node 52 ty52 (.node 51 ty51 .leaf .leaf) (.node 53 ty53 .leaf .leaf)) (.node 56 ty56 (.node 55 ty55 .leaf .leaf) (.node 57 ty57 .leaf .leaf)))) (.node 66 ty66 (.node 62 ty62 (.node 60 ty60 (.node 59 ty59 .leaf .leaf) (.node 61 ty61 .leaf .leaf)) (.node 64 ty64 (.node 63 ty63 .leaf .leaf) (.node 65 ty65 .leaf .leaf))) (.node 70 ty70 (.node 68 ty68 (.node 67 ty67 .leaf .leaf) (.node 69 ty69 .leaf .leaf)) (.node 72 ty72 (.node 71 ty71 .leaf .leaf) (.node 73 ty73 .leaf .leaf)))))) (.node 106 ty106 (.node 90 ty90 (.node 82 ty82 (.node 78 ty78 (.node 76 ty76 (.node 75 ty75 .leaf .leaf) (.node 77 ty77 .leaf .leaf)) (.node 80 ty80 (.node 79 ty79 .leaf .leaf) (.node 81 ty81 .leaf .leaf))) (.node 86 ty86 (.node 84 ty84 (.node 83 ty83 .leaf .leaf) (.node 85 ty85 .leaf .leaf)) (.node 88 ty88 (.node 87 ty87 .leaf .leaf) (.node 89 ty89 .leaf .leaf)))) (.node 98 ty98 (.node 94 ty94 (.node 92 ty92 (.node 91 ty91 .leaf .leaf) (.node 93 ty93 .leaf .leaf)) (.node 96 ty96 (.node 95 ty95 .leaf .leaf) (.node 97 ty97 .leaf .leaf))) (.node 102 ty102 (.node 100 ty100 (.node 99 ty99 .leaf .leaf) (.node 101 ty101 .leaf .leaf)) (.node 104 ty104 (.node 103 ty103 .leaf .leaf) (.node 105 ty105 .leaf .leaf))))) (.node 134 ty134 (.node 114 ty114 (.node 110 ty110 (.node 108 ty108 (.node 107 ty107 .leaf .leaf) (.node 109 ty109 .leaf .leaf)) (.node 112 ty112 (.node 111 ty111 .leaf .leaf) (.node 113 ty113 .leaf .leaf))) (.node 118 ty118 (.node 116 ty116 (.node 115 ty115 .leaf .leaf) (.node 117 ty117 .leaf .leaf)) (.node 125 ty125 (.node 119 ty119 .leaf .leaf) (.node 129 ty129 .leaf .leaf)))) (.node 142 ty142 (.node 138 ty138 (.node 136 ty136 (.node 135 ty135 .leaf .leaf) (.node 137 ty137 .leaf .leaf)) (.node 140 ty140 (.node 139 ty139 .leaf .leaf) (.node 141 ty141 .leaf .leaf))) (.node 147 ty147 (.node 144 ty144 (.node 143 ty143 .leaf .leaf) (.node 145 ty145 .leaf .leaf)) (.node 149 ty149 (.node 148 ty148 .leaf .leaf) .leaf))))))
theorem tt_ok : tt.Ok Try.prog := ⟨ty74_ok, ⟨ty42_ok, ⟨ty26_ok, ⟨ty12_ok, ⟨ty3_ok, ⟨ty1_ok, ⟨ty0_ok, trivial, trivial⟩, ⟨ty2_ok, trivial, trivial⟩⟩, ⟨ty5_ok, ⟨ty4_ok, trivial, trivial⟩, ⟨ty9_ok, trivial, trivial⟩⟩⟩, ⟨ty22_ok, ⟨ty20_ok, ⟨ty13_ok, trivial, trivial⟩, ⟨ty21_ok, trivial, trivial⟩⟩, ⟨ty24_ok, ⟨ty23_ok, trivial, trivial⟩, ⟨ty25_ok, trivial, trivial⟩⟩⟩⟩, ⟨ty34_ok, ⟨ty30_ok, ⟨ty28_ok, ⟨ty27_ok, trivial, trivial⟩, ⟨ty29_ok, trivial, trivial⟩⟩, ⟨ty32_ok, ⟨ty31_ok, trivial, trivial⟩, ⟨ty33_ok, trivial, trivial⟩⟩⟩, ⟨ty38_ok, ⟨ty36_ok, ⟨ty35_ok, trivial, trivial⟩, ⟨ty37_ok, trivial, trivial⟩⟩, ⟨ty40_ok, ⟨ty39_ok, trivial, trivial⟩, ⟨ty41_ok, trivial, trivial⟩⟩⟩⟩⟩, ⟨ty58_ok, ⟨ty50_ok, ⟨ty46_ok, ⟨ty44_ok, ⟨ty43_ok, trivial, trivial⟩, ⟨ty45_ok, trivial, trivial⟩⟩, ⟨ty48_ok, ⟨ty47_ok, trivial, trivial⟩, ⟨ty49_ok, trivial, trivial⟩⟩⟩, ⟨ty54_ok, ⟨ty52_ok, ⟨ty51_ok, trivial, trivial⟩, ⟨ty53_ok, trivial, trivial⟩⟩, ⟨ty56_ok, ⟨ty55_ok, trivial, trivial⟩, ⟨ty57_ok, trivial, trivial⟩⟩⟩⟩, ⟨ty66_ok, ⟨ty62_ok, ⟨ty60_ok, ⟨ty59_ok, trivial, trivial⟩, ⟨ty61_ok, trivial, trivial⟩⟩, ⟨ty64_ok, ⟨ty63_ok, trivial, trivial⟩, ⟨ty65_ok, trivial, trivial⟩⟩⟩, ⟨ty70_ok, ⟨ty68_ok, ⟨ty67_ok, trivial, trivial⟩, ⟨ty69_ok, trivial, trivial⟩⟩, ⟨ty72_ok, ⟨ty71_ok, trivial, trivial⟩, ⟨ty73_ok, trivial, trivial⟩⟩⟩⟩⟩⟩, ⟨ty106_ok, ⟨ty90_ok, ⟨ty82_ok, ⟨ty78_ok, ⟨ty76_ok, ⟨ty75_ok, trivial, trivial⟩, ⟨ty77_ok, trivial, trivial⟩⟩, ⟨ty80_ok, ⟨ty79_ok, trivial, trivial⟩, ⟨ty81_ok, trivial, trivial⟩⟩⟩, ⟨ty86_ok, ⟨ty84_ok, ⟨ty83_ok, trivial, trivial⟩, ⟨ty85_ok, trivial, trivial⟩⟩, ⟨ty88_ok, ⟨ty87_ok, trivial, trivial⟩, ⟨ty89_ok, trivial, trivial⟩⟩⟩⟩, ⟨ty98_ok, ⟨ty94_ok, ⟨ty92_ok, ⟨ty91_ok, trivial, trivial⟩, ⟨ty93_ok, trivial, trivial⟩⟩, ⟨ty96_ok, ⟨ty95_ok, trivial, trivial⟩, ⟨ty97_ok, trivial, trivial⟩⟩⟩, ⟨ty102_ok, ⟨ty100_ok, ⟨ty99_ok, trivial, trivial⟩, ⟨ty101_ok, trivial, trivial⟩⟩, ⟨ty104_ok, ⟨ty103_ok, trivial, trivial⟩, ⟨ty105_ok, trivial, trivial⟩⟩⟩⟩⟩, ⟨ty134_ok, ⟨ty114_ok, ⟨ty110_ok, ⟨ty108_ok, ⟨ty107_ok, trivial, trivial⟩, ⟨ty109_ok, trivial, trivial⟩⟩, ⟨ty112_ok, ⟨ty111_ok, trivial, trivial⟩, ⟨ty113_ok, trivial, trivial⟩⟩⟩, ⟨ty118_ok, ⟨ty116_ok, ⟨ty115_ok, trivial, trivial⟩, ⟨ty117_ok, trivial, trivial⟩⟩, ⟨ty125_ok, ⟨ty119_ok, trivial, trivial⟩, ⟨ty129_ok, trivial, trivial⟩⟩⟩⟩, ⟨ty142_ok, ⟨ty138_ok, ⟨ty136_ok, ⟨ty135_ok, trivial, trivial⟩, ⟨ty137_ok, trivial, trivial⟩⟩, ⟨ty140_ok, ⟨ty139_ok, trivial, trivial⟩, ⟨ty141_ok, trivial, trivial⟩⟩⟩, ⟨ty147_ok, ⟨ty144_ok, ⟨ty143_ok, trivial, trivial⟩, ⟨ty145_ok, trivial, trivial⟩⟩, ⟨ty149_ok, ⟨ty148_ok, trivial, trivial⟩, trivial⟩⟩⟩⟩⟩⟩
end Go.Proofs.Ytlnbmocgnkjlfaa
