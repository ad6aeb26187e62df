/-
  The table of this seat's types, by program (tt.py), each row against the loaded program.
-/
import Derived.Test.YtbbainjecjdkmaaTpD
import Derived.Test.YtbbainjecjdkmaaChecked
namespace Go.Proofs.Ytbbainjecjdkmaa
open Go Go.Tp
set_option maxRecDepth 100000
set_option linter.unusedSimpArgs false
def ty0 : TI := ⟨(TypeDesc.tuple #[]), 1, 0, [(Value.tuple #[])], false⟩
theorem ty0_ok : TI.Ok Try.prog 0 ty0 := TI.mk_ok (by kernel_rfl) (by kernel_rfl) rfl rfl
def ty1 : TI := ⟨(TypeDesc.func #[] #[] false), 1, 8, [Value.nilFunc], false⟩
theorem ty1_ok : TI.Ok Try.prog 1 ty1 := TI.mk_ok (by kernel_rfl) (by kernel_rfl) rfl rfl
def ty2 : TI := ⟨(TypeDesc.int IntKind.i64), 1, 8, [(Value.int IntKind.i64 0)], false⟩
theorem ty2_ok : TI.Ok Try.prog 2 ty2 := TI.mk_ok (by kernel_rfl) (by kernel_rfl) rfl rfl
def ty3 : TI := ⟨(TypeDesc.int IntKind.i64), 1, 8, [(Value.int IntKind.i64 0)], false⟩
theorem ty3_ok : TI.Ok Try.prog 3 ty3 := TI.mk_ok (by kernel_rfl) (by kernel_rfl) rfl rfl
def ty4 : TI := ⟨TypeDesc.bool, 1, 1, [(Value.bool false)], false⟩
theorem ty4_ok : TI.Ok Try.prog 4 ty4 := TI.mk_ok (by kernel_rfl) (by kernel_rfl) rfl rfl
def ty5 : TI := ⟨(TypeDesc.int IntKind.u8), 1, 1, [(Value.int IntKind.u8 0)], false⟩
theorem ty5_ok : TI.Ok Try.prog 5 ty5 := TI.mk_ok (by kernel_rfl) (by kernel_rfl) rfl rfl
def ty9 : TI := ⟨TypeDesc.string, 1, 16, [(Value.string { data := #[] })], false⟩
theorem ty9_ok : TI.Ok Try.prog 9 ty9 := TI.mk_ok (by kernel_rfl) (by kernel_rfl) rfl rfl
def ty12 : TI := ⟨(TypeDesc.int IntKind.u64), 1, 8, [(Value.int IntKind.u64 0)], false⟩
theorem ty12_ok : TI.Ok Try.prog 12 ty12 := TI.mk_ok (by kernel_rfl) (by kernel_rfl) rfl rfl
def ty13 : TI := ⟨(TypeDesc.struct #[{ name := "msg", type := 9, offset := 0, embedded := false, tag := "", pkgPath := "runtime", byteOffset := 0 }, { name := "addr", type := 12, offset := 1, embedded := false, tag := "", pkgPath := "runtime", byteOffset := 16 }]), 2, 24, [(Value.string { data := #[] }), (Value.int IntKind.u64 0)], true⟩
theorem ty13_ok : TI.Ok Try.prog 13 ty13 := TI.mk_ok (by kernel_rfl) (by kernel_rfl) rfl rfl
def ty20 : TI := ⟨(TypeDesc.interface #[]), 1, 16, [Value.nilIface], false⟩
theorem ty20_ok : TI.Ok Try.prog 20 ty20 := TI.mk_ok (by kernel_rfl) (by kernel_rfl) rfl rfl
def ty21 : TI := ⟨(TypeDesc.int IntKind.i32), 1, 4, [(Value.int IntKind.i32 0)], false⟩
theorem ty21_ok : TI.Ok Try.prog 21 ty21 := TI.mk_ok (by kernel_rfl) (by kernel_rfl) rfl rfl
def ty22 : TI := ⟨(TypeDesc.slice 69), 1, 24, [(Value.slice none 0 0)], false⟩
theorem ty22_ok : TI.Ok Try.prog 22 ty22 := TI.mk_ok (by kernel_rfl) (by kernel_rfl) rfl rfl
def ty23 : TI := ⟨(TypeDesc.slice 54), 1, 24, [(Value.slice none 0 0)], false⟩
theorem ty23_ok : TI.Ok Try.prog 23 ty23 := TI.mk_ok (by kernel_rfl) (by kernel_rfl) rfl rfl
def ty24 : TI := ⟨(TypeDesc.func #[23] #[4] false), 1, 8, [Value.nilFunc], false⟩
theorem ty24_ok : TI.Ok Try.prog 24 ty24 := TI.mk_ok (by kernel_rfl) (by kernel_rfl) rfl rfl
def ty25 : TI := ⟨(TypeDesc.func #[] #[4] false), 1, 8, [Value.nilFunc], false⟩
theorem ty25_ok : TI.Ok Try.prog 25 ty25 := TI.mk_ok (by kernel_rfl) (by kernel_rfl) rfl rfl
def ty26 : TI := ⟨(TypeDesc.slice 179), 1, 24, [(Value.slice none 0 0)], false⟩
theorem ty26_ok : TI.Ok Try.prog 26 ty26 := TI.mk_ok (by kernel_rfl) (by kernel_rfl) rfl rfl
def ty27 : TI := ⟨(TypeDesc.int IntKind.u8), 1, 1, [(Value.int IntKind.u8 0)], false⟩
theorem ty27_ok : TI.Ok Try.prog 27 ty27 := TI.mk_ok (by kernel_rfl) (by kernel_rfl) rfl rfl
def ty28 : TI := ⟨(TypeDesc.int IntKind.u8), 1, 1, [(Value.int IntKind.u8 0)], false⟩
theorem ty28_ok : TI.Ok Try.prog 28 ty28 := TI.mk_ok (by kernel_rfl) (by kernel_rfl) rfl rfl
def ty29 : TI := ⟨(TypeDesc.slice 50), 1, 24, [(Value.slice none 0 0)], false⟩
theorem ty29_ok : TI.Ok Try.prog 29 ty29 := TI.mk_ok (by kernel_rfl) (by kernel_rfl) rfl rfl
def ty30 : TI := ⟨(TypeDesc.slice 45), 1, 24, [(Value.slice none 0 0)], false⟩
theorem ty30_ok : TI.Ok Try.prog 30 ty30 := TI.mk_ok (by kernel_rfl) (by kernel_rfl) rfl rfl
def ty31 : TI := ⟨(TypeDesc.slice 182), 1, 24, [(Value.slice none 0 0)], false⟩
theorem ty31_ok : TI.Ok Try.prog 31 ty31 := TI.mk_ok (by kernel_rfl) (by kernel_rfl) rfl rfl
def ty32 : TI := ⟨(TypeDesc.slice 34), 1, 24, [(Value.slice none 0 0)], false⟩
theorem ty32_ok : TI.Ok Try.prog 32 ty32 := TI.mk_ok (by kernel_rfl) (by kernel_rfl) rfl rfl
def ty33 : TI := ⟨(TypeDesc.struct #[{ name := "Kind", type := 27, offset := 0, embedded := false, tag := "", pkgPath := "", byteOffset := 0 }, { name := "C", type := 3, offset := 1, embedded := false, tag := "", pkgPath := "", byteOffset := 8 }, { name := "V", type := 3, offset := 2, embedded := false, tag := "", pkgPath := "", byteOffset := 16 }, { name := "Item", type := 28, offset := 3, embedded := false, tag := "", pkgPath := "", byteOffset := 24 }, { name := "To", type := 29, offset := 4, embedded := false, tag := "", pkgPath := "", byteOffset := 32 }, { name := "E", type := 30, offset := 5, embedded := false, tag := "", pkgPath := "", byteOffset := 56 }, { name := "Guards", type := 31, offset := 6, embedded := false, tag := "", pkgPath := "", byteOffset := 80 }, { name := "L", type := 32, offset := 7, embedded := false, tag := "", pkgPath := "", byteOffset := 104 }]), 8, 128, [(Value.int IntKind.u8 0), (Value.int IntKind.i64 0), (Value.int IntKind.i64 0), (Value.int IntKind.u8 0), (Value.slice none 0 0), (Value.slice none 0 0), (Value.slice none 0 0), (Value.slice none 0 0)], true⟩
theorem ty33_ok : TI.Ok Try.prog 33 ty33 := TI.mk_ok (by kernel_rfl) (by kernel_rfl) rfl rfl
def ty34 : TI := ⟨(TypeDesc.struct #[{ name := "Kind", type := 27, offset := 0, embedded := false, tag := "", pkgPath := "", byteOffset := 0 }, { name := "C", type := 3, offset := 1, embedded := false, tag := "", pkgPath := "", byteOffset := 8 }, { name := "V", type := 3, offset := 2, embedded := false, tag := "", pkgPath := "", byteOffset := 16 }, { name := "Item", type := 28, offset := 3, embedded := false, tag := "", pkgPath := "", byteOffset := 24 }, { name := "To", type := 29, offset := 4, embedded := false, tag := "", pkgPath := "", byteOffset := 32 }, { name := "E", type := 30, offset := 5, embedded := false, tag := "", pkgPath := "", byteOffset := 56 }, { name := "Guards", type := 31, offset := 6, embedded := false, tag := "", pkgPath := "", byteOffset := 80 }, { name := "L", type := 32, offset := 7, embedded := false, tag := "", pkgPath := "", byteOffset := 104 }]), 8, 128, [(Value.int IntKind.u8 0), (Value.int IntKind.i64 0), (Value.int IntKind.i64 0), (Value.int IntKind.u8 0), (Value.slice none 0 0), (Value.slice none 0 0), (Value.slice none 0 0), (Value.slice none 0 0)], true⟩
theorem ty34_ok : TI.Ok Try.prog 34 ty34 := TI.mk_ok (by kernel_rfl) (by kernel_rfl) rfl rfl
def ty35 : TI := ⟨(TypeDesc.slice 3), 1, 24, [(Value.slice none 0 0)], false⟩
theorem ty35_ok : TI.Ok Try.prog 35 ty35 := TI.mk_ok (by kernel_rfl) (by kernel_rfl) rfl rfl
def ty36 : TI := ⟨(TypeDesc.struct #[{ name := "Vars", type := 22, offset := 0, embedded := false, tag := "", pkgPath := "", byteOffset := 0 }, { name := "Chans", type := 26, offset := 1, embedded := false, tag := "", pkgPath := "", byteOffset := 24 }, { name := "Root", type := 34, offset := 2, embedded := false, tag := "", pkgPath := "", byteOffset := 48 }, { name := "Procs", type := 35, offset := 10, embedded := false, tag := "", pkgPath := "", byteOffset := 176 }]), 11, 200, [(Value.slice none 0 0), (Value.slice none 0 0), (Value.int IntKind.u8 0), (Value.int IntKind.i64 0), (Value.int IntKind.i64 0), (Value.int IntKind.u8 0), (Value.slice none 0 0), (Value.slice none 0 0), (Value.slice none 0 0), (Value.slice none 0 0), (Value.slice none 0 0)], true⟩
theorem ty36_ok : TI.Ok Try.prog 36 ty36 := TI.mk_ok (by kernel_rfl) (by kernel_rfl) rfl rfl
def ty37 : TI := ⟨(TypeDesc.struct #[{ name := "Vars", type := 22, offset := 0, embedded := false, tag := "", pkgPath := "", byteOffset := 0 }, { name := "Chans", type := 26, offset := 1, embedded := false, tag := "", pkgPath := "", byteOffset := 24 }, { name := "Root", type := 34, offset := 2, embedded := false, tag := "", pkgPath := "", byteOffset := 48 }, { name := "Procs", type := 35, offset := 10, embedded := false, tag := "", pkgPath := "", byteOffset := 176 }]), 11, 200, [(Value.slice none 0 0), (Value.slice none 0 0), (Value.int IntKind.u8 0), (Value.int IntKind.i64 0), (Value.int IntKind.i64 0), (Value.int IntKind.u8 0), (Value.slice none 0 0), (Value.slice none 0 0), (Value.slice none 0 0), (Value.slice none 0 0), (Value.slice none 0 0)], true⟩
theorem ty37_ok : TI.Ok Try.prog 37 ty37 := TI.mk_ok (by kernel_rfl) (by kernel_rfl) rfl rfl
def ty38 : TI := ⟨(TypeDesc.func #[37] #[23] false), 1, 8, [Value.nilFunc], false⟩
theorem ty38_ok : TI.Ok Try.prog 38 ty38 := TI.mk_ok (by kernel_rfl) (by kernel_rfl) rfl rfl
def ty39 : TI := ⟨(TypeDesc.func #[23, 23] #[4] false), 1, 8, [Value.nilFunc], false⟩
theorem ty39_ok : TI.Ok Try.prog 39 ty39 := TI.mk_ok (by kernel_rfl) (by kernel_rfl) rfl rfl
def ty40 : TI := ⟨(TypeDesc.func #[37, 23] #[4] false), 1, 8, [Value.nilFunc], false⟩
theorem ty40_ok : TI.Ok Try.prog 40 ty40 := TI.mk_ok (by kernel_rfl) (by kernel_rfl) rfl rfl
def ty41 : TI := ⟨(TypeDesc.func #[22, 23, 23] #[4] false), 1, 8, [Value.nilFunc], false⟩
theorem ty41_ok : TI.Ok Try.prog 41 ty41 := TI.mk_ok (by kernel_rfl) (by kernel_rfl) rfl rfl
def ty42 : TI := ⟨(TypeDesc.int IntKind.u8), 1, 1, [(Value.int IntKind.u8 0)], false⟩
theorem ty42_ok : TI.Ok Try.prog 42 ty42 := TI.mk_ok (by kernel_rfl) (by kernel_rfl) rfl rfl
def ty43 : TI := ⟨(TypeDesc.int IntKind.u8), 1, 1, [(Value.int IntKind.u8 0)], false⟩
theorem ty43_ok : TI.Ok Try.prog 43 ty43 := TI.mk_ok (by kernel_rfl) (by kernel_rfl) rfl rfl
def ty44 : TI := ⟨(TypeDesc.struct #[{ name := "Kind", type := 42, offset := 0, embedded := false, tag := "", pkgPath := "", byteOffset := 0 }, { name := "Oper", type := 43, offset := 1, embedded := false, tag := "", pkgPath := "", byteOffset := 1 }, { name := "To", type := 28, offset := 2, embedded := false, tag := "", pkgPath := "", byteOffset := 2 }, { name := "N", type := 21, offset := 3, embedded := false, tag := "", pkgPath := "", byteOffset := 4 }, { name := "V", type := 3, offset := 4, embedded := false, tag := "", pkgPath := "", byteOffset := 8 }, { name := "L", type := 30, offset := 5, embedded := false, tag := "", pkgPath := "", byteOffset := 16 }]), 6, 40, [(Value.int IntKind.u8 0), (Value.int IntKind.u8 0), (Value.int IntKind.u8 0), (Value.int IntKind.i32 0), (Value.int IntKind.i64 0), (Value.slice none 0 0)], true⟩
theorem ty44_ok : TI.Ok Try.prog 44 ty44 := TI.mk_ok (by kernel_rfl) (by kernel_rfl) rfl rfl
def ty45 : TI := ⟨(TypeDesc.struct #[{ name := "Kind", type := 42, offset := 0, embedded := false, tag := "", pkgPath := "", byteOffset := 0 }, { name := "Oper", type := 43, offset := 1, embedded := false, tag := "", pkgPath := "", byteOffset := 1 }, { name := "To", type := 28, offset := 2, embedded := false, tag := "", pkgPath := "", byteOffset := 2 }, { name := "N", type := 21, offset := 3, embedded := false, tag := "", pkgPath := "", byteOffset := 4 }, { name := "V", type := 3, offset := 4, embedded := false, tag := "", pkgPath := "", byteOffset := 8 }, { name := "L", type := 30, offset := 5, embedded := false, tag := "", pkgPath := "", byteOffset := 16 }]), 6, 40, [(Value.int IntKind.u8 0), (Value.int IntKind.u8 0), (Value.int IntKind.u8 0), (Value.int IntKind.i32 0), (Value.int IntKind.i64 0), (Value.slice none 0 0)], true⟩
theorem ty45_ok : TI.Ok Try.prog 45 ty45 := TI.mk_ok (by kernel_rfl) (by kernel_rfl) rfl rfl
def ty46 : TI := ⟨(TypeDesc.tuple #[21, 4]), 1, 0, [(Value.tuple #[(Value.int IntKind.i32 0), (Value.bool false)])], false⟩
theorem ty46_ok : TI.Ok Try.prog 46 ty46 := TI.mk_ok (by kernel_rfl) (by kernel_rfl) rfl rfl
def ty47 : TI := ⟨(TypeDesc.func #[23, 45] #[21, 4] false), 1, 8, [Value.nilFunc], false⟩
theorem ty47_ok : TI.Ok Try.prog 47 ty47 := TI.mk_ok (by kernel_rfl) (by kernel_rfl) rfl rfl
def ty48 : TI := ⟨(TypeDesc.func #[23, 45] #[4] false), 1, 8, [Value.nilFunc], false⟩
theorem ty48_ok : TI.Ok Try.prog 48 ty48 := TI.mk_ok (by kernel_rfl) (by kernel_rfl) rfl rfl
def ty49 : TI := ⟨(TypeDesc.struct #[{ name := "V", type := 3, offset := 0, embedded := false, tag := "", pkgPath := "", byteOffset := 0 }, { name := "Index", type := 30, offset := 1, embedded := false, tag := "", pkgPath := "", byteOffset := 8 }]), 2, 32, [(Value.int IntKind.i64 0), (Value.slice none 0 0)], true⟩
theorem ty49_ok : TI.Ok Try.prog 49 ty49 := TI.mk_ok (by kernel_rfl) (by kernel_rfl) rfl rfl
def ty50 : TI := ⟨(TypeDesc.struct #[{ name := "V", type := 3, offset := 0, embedded := false, tag := "", pkgPath := "", byteOffset := 0 }, { name := "Index", type := 30, offset := 1, embedded := false, tag := "", pkgPath := "", byteOffset := 8 }]), 2, 32, [(Value.int IntKind.i64 0), (Value.slice none 0 0)], true⟩
theorem ty50_ok : TI.Ok Try.prog 50 ty50 := TI.mk_ok (by kernel_rfl) (by kernel_rfl) rfl rfl
def ty51 : TI := ⟨(TypeDesc.tuple #[3, 3, 4]), 1, 0, [(Value.tuple #[(Value.int IntKind.i64 0), (Value.int IntKind.i64 0), (Value.bool false)])], false⟩
theorem ty51_ok : TI.Ok Try.prog 51 ty51 := TI.mk_ok (by kernel_rfl) (by kernel_rfl) rfl rfl
def ty52 : TI := ⟨(TypeDesc.func #[23, 50] #[3, 3, 4] false), 1, 8, [Value.nilFunc], false⟩
theorem ty52_ok : TI.Ok Try.prog 52 ty52 := TI.mk_ok (by kernel_rfl) (by kernel_rfl) rfl rfl
def ty53 : TI := ⟨(TypeDesc.func #[23, 3, 3, 21] #[23] false), 1, 8, [Value.nilFunc], false⟩
theorem ty53_ok : TI.Ok Try.prog 53 ty53 := TI.mk_ok (by kernel_rfl) (by kernel_rfl) rfl rfl
def ty54 : TI := ⟨(TypeDesc.slice 21), 1, 24, [(Value.slice none 0 0)], false⟩
theorem ty54_ok : TI.Ok Try.prog 54 ty54 := TI.mk_ok (by kernel_rfl) (by kernel_rfl) rfl rfl
def ty55 : TI := ⟨(TypeDesc.func #[23, 50, 3, 3, 21] #[4] false), 1, 8, [Value.nilFunc], false⟩
theorem ty55_ok : TI.Ok Try.prog 55 ty55 := TI.mk_ok (by kernel_rfl) (by kernel_rfl) rfl rfl
def ty56 : TI := ⟨(TypeDesc.func #[45] #[4] false), 1, 8, [Value.nilFunc], false⟩
theorem ty56_ok : TI.Ok Try.prog 56 ty56 := TI.mk_ok (by kernel_rfl) (by kernel_rfl) rfl rfl
def ty57 : TI := ⟨(TypeDesc.func #[45, 3, 3] #[4] false), 1, 8, [Value.nilFunc], false⟩
theorem ty57_ok : TI.Ok Try.prog 57 ty57 := TI.mk_ok (by kernel_rfl) (by kernel_rfl) rfl rfl
def ty58 : TI := ⟨(TypeDesc.func #[23, 45, 5, 54] #[4] false), 1, 8, [Value.nilFunc], false⟩
theorem ty58_ok : TI.Ok Try.prog 58 ty58 := TI.mk_ok (by kernel_rfl) (by kernel_rfl) rfl rfl
def ty59 : TI := ⟨(TypeDesc.func #[23, 45, 21] #[4] false), 1, 8, [Value.nilFunc], false⟩
theorem ty59_ok : TI.Ok Try.prog 59 ty59 := TI.mk_ok (by kernel_rfl) (by kernel_rfl) rfl rfl
def ty60 : TI := ⟨(TypeDesc.func #[3, 45] #[45] false), 1, 8, [Value.nilFunc], false⟩
theorem ty60_ok : TI.Ok Try.prog 60 ty60 := TI.mk_ok (by kernel_rfl) (by kernel_rfl) rfl rfl
def ty61 : TI := ⟨(TypeDesc.func #[21] #[45] false), 1, 8, [Value.nilFunc], false⟩
theorem ty61_ok : TI.Ok Try.prog 61 ty61 := TI.mk_ok (by kernel_rfl) (by kernel_rfl) rfl rfl
def ty62 : TI := ⟨(TypeDesc.func #[23, 5, 5, 21] #[4] false), 1, 8, [Value.nilFunc], false⟩
theorem ty62_ok : TI.Ok Try.prog 62 ty62 := TI.mk_ok (by kernel_rfl) (by kernel_rfl) rfl rfl
def ty63 : TI := ⟨(TypeDesc.func #[43, 45, 45] #[45] false), 1, 8, [Value.nilFunc], false⟩
theorem ty63_ok : TI.Ok Try.prog 63 ty63 := TI.mk_ok (by kernel_rfl) (by kernel_rfl) rfl rfl
def ty64 : TI := ⟨(TypeDesc.func #[45] #[45] false), 1, 8, [Value.nilFunc], false⟩
theorem ty64_ok : TI.Ok Try.prog 64 ty64 := TI.mk_ok (by kernel_rfl) (by kernel_rfl) rfl rfl
def ty65 : TI := ⟨(TypeDesc.array 2 45), 12, 80, [(Value.int IntKind.u8 0), (Value.int IntKind.u8 0), (Value.int IntKind.u8 0), (Value.int IntKind.i32 0), (Value.int IntKind.i64 0), (Value.slice none 0 0), (Value.int IntKind.u8 0), (Value.int IntKind.u8 0), (Value.int IntKind.u8 0), (Value.int IntKind.i32 0), (Value.int IntKind.i64 0), (Value.slice none 0 0)], true⟩
theorem ty65_ok : TI.Ok Try.prog 65 ty65 := TI.mk_ok (by kernel_rfl) (by kernel_rfl) rfl rfl
def ty66 : TI := ⟨(TypeDesc.slice 65), 1, 24, [(Value.slice none 0 0)], false⟩
theorem ty66_ok : TI.Ok Try.prog 66 ty66 := TI.mk_ok (by kernel_rfl) (by kernel_rfl) rfl rfl
def ty67 : TI := ⟨(TypeDesc.func #[23, 45, 45] #[4] false), 1, 8, [Value.nilFunc], false⟩
theorem ty67_ok : TI.Ok Try.prog 67 ty67 := TI.mk_ok (by kernel_rfl) (by kernel_rfl) rfl rfl
def ty68 : TI := ⟨(TypeDesc.struct #[{ name := "Kind", type := 28, offset := 0, embedded := false, tag := "", pkgPath := "", byteOffset := 0 }, { name := "Dim", type := 3, offset := 1, embedded := false, tag := "", pkgPath := "", byteOffset := 8 }]), 2, 16, [(Value.int IntKind.u8 0), (Value.int IntKind.i64 0)], true⟩
theorem ty68_ok : TI.Ok Try.prog 68 ty68 := TI.mk_ok (by kernel_rfl) (by kernel_rfl) rfl rfl
def ty69 : TI := ⟨(TypeDesc.struct #[{ name := "Kind", type := 28, offset := 0, embedded := false, tag := "", pkgPath := "", byteOffset := 0 }, { name := "Dim", type := 3, offset := 1, embedded := false, tag := "", pkgPath := "", byteOffset := 8 }]), 2, 16, [(Value.int IntKind.u8 0), (Value.int IntKind.i64 0)], true⟩
theorem ty69_ok : TI.Ok Try.prog 69 ty69 := TI.mk_ok (by kernel_rfl) (by kernel_rfl) rfl rfl
def ty70 : TI := ⟨(TypeDesc.func #[22, 45, 28] #[4] false), 1, 8, [Value.nilFunc], false⟩
theorem ty70_ok : TI.Ok Try.prog 70 ty70 := TI.mk_ok (by kernel_rfl) (by kernel_rfl) rfl rfl
def ty71 : TI := ⟨(TypeDesc.func #[22, 54, 45] #[4] false), 1, 8, [Value.nilFunc], false⟩
theorem ty71_ok : TI.Ok Try.prog 71 ty71 := TI.mk_ok (by kernel_rfl) (by kernel_rfl) rfl rfl
def ty72 : TI := ⟨(TypeDesc.int IntKind.u8), 1, 1, [(Value.int IntKind.u8 0)], false⟩
theorem ty72_ok : TI.Ok Try.prog 72 ty72 := TI.mk_ok (by kernel_rfl) (by kernel_rfl) rfl rfl
def ty73 : TI := ⟨(TypeDesc.slice 75), 1, 24, [(Value.slice none 0 0)], false⟩
theorem ty73_ok : TI.Ok Try.prog 73 ty73 := TI.mk_ok (by kernel_rfl) (by kernel_rfl) rfl rfl
def ty74 : TI := ⟨(TypeDesc.struct #[{ name := "Kind", type := 72, offset := 0, embedded := false, tag := "", pkgPath := "", byteOffset := 0 }, { name := "Oper", type := 43, offset := 1, embedded := false, tag := "", pkgPath := "", byteOffset := 1 }, { name := "To", type := 28, offset := 2, embedded := false, tag := "", pkgPath := "", byteOffset := 2 }, { name := "N", type := 21, offset := 3, embedded := false, tag := "", pkgPath := "", byteOffset := 4 }, { name := "S", type := 9, offset := 4, embedded := false, tag := "", pkgPath := "", byteOffset := 8 }, { name := "L", type := 73, offset := 5, embedded := false, tag := "", pkgPath := "", byteOffset := 24 }]), 6, 48, [(Value.int IntKind.u8 0), (Value.int IntKind.u8 0), (Value.int IntKind.u8 0), (Value.int IntKind.i32 0), (Value.string { data := #[] }), (Value.slice none 0 0)], true⟩
theorem ty74_ok : TI.Ok Try.prog 74 ty74 := TI.mk_ok (by kernel_rfl) (by kernel_rfl) rfl rfl
def ty75 : TI := ⟨(TypeDesc.struct #[{ name := "Kind", type := 72, offset := 0, embedded := false, tag := "", pkgPath := "", byteOffset := 0 }, { name := "Oper", type := 43, offset := 1, embedded := false, tag := "", pkgPath := "", byteOffset := 1 }, { name := "To", type := 28, offset := 2, embedded := false, tag := "", pkgPath := "", byteOffset := 2 }, { name := "N", type := 21, offset := 3, embedded := false, tag := "", pkgPath := "", byteOffset := 4 }, { name := "S", type := 9, offset := 4, embedded := false, tag := "", pkgPath := "", byteOffset := 8 }, { name := "L", type := 73, offset := 5, embedded := false, tag := "", pkgPath := "", byteOffset := 24 }]), 6, 48, [(Value.int IntKind.u8 0), (Value.int IntKind.u8 0), (Value.int IntKind.u8 0), (Value.int IntKind.i32 0), (Value.string { data := #[] }), (Value.slice none 0 0)], true⟩
theorem ty75_ok : TI.Ok Try.prog 75 ty75 := TI.mk_ok (by kernel_rfl) (by kernel_rfl) rfl rfl
def ty76 : TI := ⟨(TypeDesc.int IntKind.i64), 1, 8, [(Value.int IntKind.i64 0)], false⟩
theorem ty76_ok : TI.Ok Try.prog 76 ty76 := TI.mk_ok (by kernel_rfl) (by kernel_rfl) rfl rfl
def ty77 : TI := ⟨(TypeDesc.tuple #[21, 76]), 1, 0, [(Value.tuple #[(Value.int IntKind.i32 0), (Value.int IntKind.i64 0)])], false⟩
theorem ty77_ok : TI.Ok Try.prog 77 ty77 := TI.mk_ok (by kernel_rfl) (by kernel_rfl) rfl rfl
def ty78 : TI := ⟨(TypeDesc.func #[75, 97] #[21, 76] false), 1, 8, [Value.nilFunc], false⟩
theorem ty78_ok : TI.Ok Try.prog 78 ty78 := TI.mk_ok (by kernel_rfl) (by kernel_rfl) rfl rfl
def ty79 : TI := ⟨(TypeDesc.tuple #[45, 4]), 1, 0, [(Value.tuple #[(Value.agg #[(Value.int IntKind.u8 0), (Value.int IntKind.u8 0), (Value.int IntKind.u8 0), (Value.int IntKind.i32 0), (Value.int IntKind.i64 0), (Value.slice none 0 0)]), (Value.bool false)])], false⟩
theorem ty79_ok : TI.Ok Try.prog 79 ty79 := TI.mk_ok (by kernel_rfl) (by kernel_rfl) rfl rfl
def ty80 : TI := ⟨(TypeDesc.func #[75] #[45, 4] false), 1, 8, [Value.nilFunc], false⟩
theorem ty80_ok : TI.Ok Try.prog 80 ty80 := TI.mk_ok (by kernel_rfl) (by kernel_rfl) rfl rfl
def ty81 : TI := ⟨(TypeDesc.func #[23, 75] #[4] false), 1, 8, [Value.nilFunc], false⟩
theorem ty81_ok : TI.Ok Try.prog 81 ty81 := TI.mk_ok (by kernel_rfl) (by kernel_rfl) rfl rfl
def ty82 : TI := ⟨(TypeDesc.func #[3] #[45] false), 1, 8, [Value.nilFunc], false⟩
theorem ty82_ok : TI.Ok Try.prog 82 ty82 := TI.mk_ok (by kernel_rfl) (by kernel_rfl) rfl rfl
def ty83 : TI := ⟨(TypeDesc.func #[22] #[4] false), 1, 8, [Value.nilFunc], false⟩
theorem ty83_ok : TI.Ok Try.prog 83 ty83 := TI.mk_ok (by kernel_rfl) (by kernel_rfl) rfl rfl
def ty84 : TI := ⟨(TypeDesc.func #[69] #[3] false), 1, 8, [Value.nilFunc], false⟩
theorem ty84_ok : TI.Ok Try.prog 84 ty84 := TI.mk_ok (by kernel_rfl) (by kernel_rfl) rfl rfl
def ty85 : TI := ⟨(TypeDesc.func #[54, 87] #[4] false), 1, 8, [Value.nilFunc], false⟩
theorem ty85_ok : TI.Ok Try.prog 85 ty85 := TI.mk_ok (by kernel_rfl) (by kernel_rfl) rfl rfl
def ty86 : TI := ⟨(TypeDesc.func #[28, 21] #[4] false), 1, 8, [Value.nilFunc], false⟩
theorem ty86_ok : TI.Ok Try.prog 86 ty86 := TI.mk_ok (by kernel_rfl) (by kernel_rfl) rfl rfl
def ty87 : TI := ⟨(TypeDesc.func #[21] #[4] false), 1, 8, [Value.nilFunc], false⟩
theorem ty87_ok : TI.Ok Try.prog 87 ty87 := TI.mk_ok (by kernel_rfl) (by kernel_rfl) rfl rfl
def ty88 : TI := ⟨(TypeDesc.func #[28, 21] #[21, 4] false), 1, 8, [Value.nilFunc], false⟩
theorem ty88_ok : TI.Ok Try.prog 88 ty88 := TI.mk_ok (by kernel_rfl) (by kernel_rfl) rfl rfl
def ty89 : TI := ⟨(TypeDesc.func #[21, 21] #[4] false), 1, 8, [Value.nilFunc], false⟩
theorem ty89_ok : TI.Ok Try.prog 89 ty89 := TI.mk_ok (by kernel_rfl) (by kernel_rfl) rfl rfl
def ty90 : TI := ⟨(TypeDesc.func #[23, 23, 92] #[4] false), 1, 8, [Value.nilFunc], false⟩
theorem ty90_ok : TI.Ok Try.prog 90 ty90 := TI.mk_ok (by kernel_rfl) (by kernel_rfl) rfl rfl
def ty91 : TI := ⟨(TypeDesc.func #[54, 54, 89] #[4] false), 1, 8, [Value.nilFunc], false⟩
theorem ty91_ok : TI.Ok Try.prog 91 ty91 := TI.mk_ok (by kernel_rfl) (by kernel_rfl) rfl rfl
def ty92 : TI := ⟨(TypeDesc.func #[54, 54] #[4] false), 1, 8, [Value.nilFunc], false⟩
theorem ty92_ok : TI.Ok Try.prog 92 ty92 := TI.mk_ok (by kernel_rfl) (by kernel_rfl) rfl rfl
def ty93 : TI := ⟨(TypeDesc.func #[23, 3, 3] #[21, 4] false), 1, 8, [Value.nilFunc], false⟩
theorem ty93_ok : TI.Ok Try.prog 93 ty93 := TI.mk_ok (by kernel_rfl) (by kernel_rfl) rfl rfl
def ty94 : TI := ⟨(TypeDesc.func #[23, 3, 2] #[21, 4] false), 1, 8, [Value.nilFunc], false⟩
theorem ty94_ok : TI.Ok Try.prog 94 ty94 := TI.mk_ok (by kernel_rfl) (by kernel_rfl) rfl rfl
def ty95 : TI := ⟨(TypeDesc.func #[54] #[54] false), 1, 8, [Value.nilFunc], false⟩
theorem ty95_ok : TI.Ok Try.prog 95 ty95 := TI.mk_ok (by kernel_rfl) (by kernel_rfl) rfl rfl
def ty96 : TI := ⟨(TypeDesc.func #[45, 3, 3] #[3] false), 1, 8, [Value.nilFunc], false⟩
theorem ty96_ok : TI.Ok Try.prog 96 ty96 := TI.mk_ok (by kernel_rfl) (by kernel_rfl) rfl rfl
def ty97 : TI := ⟨(TypeDesc.slice 125), 1, 24, [(Value.slice none 0 0)], false⟩
theorem ty97_ok : TI.Ok Try.prog 97 ty97 := TI.mk_ok (by kernel_rfl) (by kernel_rfl) rfl rfl
def ty98 : TI := ⟨(TypeDesc.func #[75] #[4] false), 1, 8, [Value.nilFunc], false⟩
theorem ty98_ok : TI.Ok Try.prog 98 ty98 := TI.mk_ok (by kernel_rfl) (by kernel_rfl) rfl rfl
def ty99 : TI := ⟨(TypeDesc.struct #[{ name := "v", type := 21, offset := 0, embedded := false, tag := "", pkgPath := "transputer/fold", byteOffset := 0 }, { name := "ok", type := 4, offset := 1, embedded := false, tag := "", pkgPath := "transputer/fold", byteOffset := 4 }]), 2, 8, [(Value.int IntKind.i32 0), (Value.bool false)], true⟩
theorem ty99_ok : TI.Ok Try.prog 99 ty99 := TI.mk_ok (by kernel_rfl) (by kernel_rfl) rfl rfl
def ty100 : TI := ⟨(TypeDesc.struct #[{ name := "v", type := 21, offset := 0, embedded := false, tag := "", pkgPath := "transputer/fold", byteOffset := 0 }, { name := "ok", type := 4, offset := 1, embedded := false, tag := "", pkgPath := "transputer/fold", byteOffset := 4 }]), 2, 8, [(Value.int IntKind.i32 0), (Value.bool false)], true⟩
theorem ty100_ok : TI.Ok Try.prog 100 ty100 := TI.mk_ok (by kernel_rfl) (by kernel_rfl) rfl rfl
def ty101 : TI := ⟨(TypeDesc.slice 100), 1, 24, [(Value.slice none 0 0)], false⟩
theorem ty101_ok : TI.Ok Try.prog 101 ty101 := TI.mk_ok (by kernel_rfl) (by kernel_rfl) rfl rfl
def ty102 : TI := ⟨(TypeDesc.struct #[{ name := "env", type := 97, offset := 0, embedded := false, tag := "", pkgPath := "transputer/fold", byteOffset := 0 }, { name := "values", type := 101, offset := 1, embedded := false, tag := "", pkgPath := "transputer/fold", byteOffset := 24 }]), 2, 48, [(Value.slice none 0 0), (Value.slice none 0 0)], true⟩
theorem ty102_ok : TI.Ok Try.prog 102 ty102 := TI.mk_ok (by kernel_rfl) (by kernel_rfl) rfl rfl
def ty103 : TI := ⟨(TypeDesc.struct #[{ name := "env", type := 97, offset := 0, embedded := false, tag := "", pkgPath := "transputer/fold", byteOffset := 0 }, { name := "values", type := 101, offset := 1, embedded := false, tag := "", pkgPath := "transputer/fold", byteOffset := 24 }]), 2, 48, [(Value.slice none 0 0), (Value.slice none 0 0)], true⟩
theorem ty103_ok : TI.Ok Try.prog 103 ty103 := TI.mk_ok (by kernel_rfl) (by kernel_rfl) rfl rfl
def ty104 : TI := ⟨(TypeDesc.func #[97] #[103] false), 1, 8, [Value.nilFunc], false⟩
theorem ty104_ok : TI.Ok Try.prog 104 ty104 := TI.mk_ok (by kernel_rfl) (by kernel_rfl) rfl rfl
def ty105 : TI := ⟨(TypeDesc.func #[75] #[100] false), 1, 8, [Value.nilFunc], false⟩
theorem ty105_ok : TI.Ok Try.prog 105 ty105 := TI.mk_ok (by kernel_rfl) (by kernel_rfl) rfl rfl
def ty106 : TI := ⟨(TypeDesc.func #[22, 107] #[4] false), 1, 8, [Value.nilFunc], false⟩
theorem ty106_ok : TI.Ok Try.prog 106 ty106 := TI.mk_ok (by kernel_rfl) (by kernel_rfl) rfl rfl
def ty107 : TI := ⟨(TypeDesc.func #[69] #[4] false), 1, 8, [Value.nilFunc], false⟩
theorem ty107_ok : TI.Ok Try.prog 107 ty107 := TI.mk_ok (by kernel_rfl) (by kernel_rfl) rfl rfl
def ty108 : TI := ⟨(TypeDesc.func #[54, 87] #[3] false), 1, 8, [Value.nilFunc], false⟩
theorem ty108_ok : TI.Ok Try.prog 108 ty108 := TI.mk_ok (by kernel_rfl) (by kernel_rfl) rfl rfl
def ty109 : TI := ⟨(TypeDesc.func #[21, 4] #[21, 4] false), 1, 8, [Value.nilFunc], false⟩
theorem ty109_ok : TI.Ok Try.prog 109 ty109 := TI.mk_ok (by kernel_rfl) (by kernel_rfl) rfl rfl
def ty110 : TI := ⟨(TypeDesc.func #[45, 3] #[4] false), 1, 8, [Value.nilFunc], false⟩
theorem ty110_ok : TI.Ok Try.prog 110 ty110 := TI.mk_ok (by kernel_rfl) (by kernel_rfl) rfl rfl
def ty111 : TI := ⟨(TypeDesc.func #[43, 21, 21] #[21, 4] false), 1, 8, [Value.nilFunc], false⟩
theorem ty111_ok : TI.Ok Try.prog 111 ty111 := TI.mk_ok (by kernel_rfl) (by kernel_rfl) rfl rfl
def ty112 : TI := ⟨(TypeDesc.func #[75, 3] #[4] false), 1, 8, [Value.nilFunc], false⟩
theorem ty112_ok : TI.Ok Try.prog 112 ty112 := TI.mk_ok (by kernel_rfl) (by kernel_rfl) rfl rfl
def ty113 : TI := ⟨(TypeDesc.tuple #[3, 4]), 1, 0, [(Value.tuple #[(Value.int IntKind.i64 0), (Value.bool false)])], false⟩
theorem ty113_ok : TI.Ok Try.prog 113 ty113 := TI.mk_ok (by kernel_rfl) (by kernel_rfl) rfl rfl
def ty114 : TI := ⟨(TypeDesc.func #[75] #[3, 4] false), 1, 8, [Value.nilFunc], false⟩
theorem ty114_ok : TI.Ok Try.prog 114 ty114 := TI.mk_ok (by kernel_rfl) (by kernel_rfl) rfl rfl
def ty115 : TI := ⟨(TypeDesc.int IntKind.u8), 1, 1, [(Value.int IntKind.u8 0)], false⟩
theorem ty115_ok : TI.Ok Try.prog 115 ty115 := TI.mk_ok (by kernel_rfl) (by kernel_rfl) rfl rfl
def ty116 : TI := ⟨(TypeDesc.struct #[{ name := "Kind", type := 28, offset := 0, embedded := false, tag := "", pkgPath := "", byteOffset := 0 }, { name := "Dim", type := 3, offset := 1, embedded := false, tag := "", pkgPath := "", byteOffset := 8 }, { name := "Item", type := 28, offset := 2, embedded := false, tag := "", pkgPath := "", byteOffset := 16 }, { name := "Proto", type := 9, offset := 3, embedded := false, tag := "", pkgPath := "", byteOffset := 24 }]), 4, 40, [(Value.int IntKind.u8 0), (Value.int IntKind.i64 0), (Value.int IntKind.u8 0), (Value.string { data := #[] })], true⟩
theorem ty116_ok : TI.Ok Try.prog 116 ty116 := TI.mk_ok (by kernel_rfl) (by kernel_rfl) rfl rfl
def ty117 : TI := ⟨(TypeDesc.struct #[{ name := "Kind", type := 28, offset := 0, embedded := false, tag := "", pkgPath := "", byteOffset := 0 }, { name := "Dim", type := 3, offset := 1, embedded := false, tag := "", pkgPath := "", byteOffset := 8 }, { name := "Item", type := 28, offset := 2, embedded := false, tag := "", pkgPath := "", byteOffset := 16 }, { name := "Proto", type := 9, offset := 3, embedded := false, tag := "", pkgPath := "", byteOffset := 24 }]), 4, 40, [(Value.int IntKind.u8 0), (Value.int IntKind.i64 0), (Value.int IntKind.u8 0), (Value.string { data := #[] })], true⟩
theorem ty117_ok : TI.Ok Try.prog 117 ty117 := TI.mk_ok (by kernel_rfl) (by kernel_rfl) rfl rfl
def ty118 : TI := ⟨(TypeDesc.slice 9), 1, 24, [(Value.slice none 0 0)], false⟩
theorem ty118_ok : TI.Ok Try.prog 118 ty118 := TI.mk_ok (by kernel_rfl) (by kernel_rfl) rfl rfl
def ty119 : TI := ⟨(TypeDesc.slice 185), 1, 24, [(Value.slice none 0 0)], false⟩
theorem ty119_ok : TI.Ok Try.prog 119 ty119 := TI.mk_ok (by kernel_rfl) (by kernel_rfl) rfl rfl
def ty120 : TI := ⟨(TypeDesc.struct #[{ name := "Cases", type := 4, offset := 0, embedded := false, tag := "", pkgPath := "", byteOffset := 0 }, { name := "L", type := 119, offset := 1, embedded := false, tag := "", pkgPath := "", byteOffset := 8 }]), 2, 32, [(Value.bool false), (Value.slice none 0 0)], true⟩
theorem ty120_ok : TI.Ok Try.prog 120 ty120 := TI.mk_ok (by kernel_rfl) (by kernel_rfl) rfl rfl
def ty121 : TI := ⟨(TypeDesc.struct #[{ name := "Cases", type := 4, offset := 0, embedded := false, tag := "", pkgPath := "", byteOffset := 0 }, { name := "L", type := 119, offset := 1, embedded := false, tag := "", pkgPath := "", byteOffset := 8 }]), 2, 32, [(Value.bool false), (Value.slice none 0 0)], true⟩
theorem ty121_ok : TI.Ok Try.prog 121 ty121 := TI.mk_ok (by kernel_rfl) (by kernel_rfl) rfl rfl
def ty122 : TI := ⟨(TypeDesc.slice 187), 1, 24, [(Value.slice none 0 0)], false⟩
theorem ty122_ok : TI.Ok Try.prog 122 ty122 := TI.mk_ok (by kernel_rfl) (by kernel_rfl) rfl rfl
def ty123 : TI := ⟨(TypeDesc.slice 193), 1, 24, [(Value.slice none 0 0)], false⟩
theorem ty123_ok : TI.Ok Try.prog 123 ty123 := TI.mk_ok (by kernel_rfl) (by kernel_rfl) rfl rfl
def ty124 : TI := ⟨(TypeDesc.struct #[{ name := "Kind", type := 115, offset := 0, embedded := false, tag := "", pkgPath := "", byteOffset := 0 }, { name := "Type", type := 117, offset := 1, embedded := false, tag := "", pkgPath := "", byteOffset := 8 }, { name := "Names", type := 118, offset := 5, embedded := false, tag := "", pkgPath := "", byteOffset := 48 }, { name := "E", type := 75, offset := 6, embedded := false, tag := "", pkgPath := "", byteOffset := 72 }, { name := "Proto", type := 121, offset := 12, embedded := false, tag := "", pkgPath := "", byteOffset := 120 }, { name := "Formals", type := 122, offset := 14, embedded := false, tag := "", pkgPath := "", byteOffset := 152 }, { name := "Body", type := 123, offset := 15, embedded := false, tag := "", pkgPath := "", byteOffset := 176 }]), 16, 200, [(Value.int IntKind.u8 0), (Value.int IntKind.u8 0), (Value.int IntKind.i64 0), (Value.int IntKind.u8 0), (Value.string { data := #[] }), (Value.slice none 0 0), (Value.int IntKind.u8 0), (Value.int IntKind.u8 0), (Value.int IntKind.u8 0), (Value.int IntKind.i32 0), (Value.string { data := #[] }), (Value.slice none 0 0), (Value.bool false), (Value.slice none 0 0), (Value.slice none 0 0), (Value.slice none 0 0)], true⟩
theorem ty124_ok : TI.Ok Try.prog 124 ty124 := TI.mk_ok (by kernel_rfl) (by kernel_rfl) rfl rfl
def ty125 : TI := ⟨(TypeDesc.struct #[{ name := "Kind", type := 115, offset := 0, embedded := false, tag := "", pkgPath := "", byteOffset := 0 }, { name := "Type", type := 117, offset := 1, embedded := false, tag := "", pkgPath := "", byteOffset := 8 }, { name := "Names", type := 118, offset := 5, embedded := false, tag := "", pkgPath := "", byteOffset := 48 }, { name := "E", type := 75, offset := 6, embedded := false, tag := "", pkgPath := "", byteOffset := 72 }, { name := "Proto", type := 121, offset := 12, embedded := false, tag := "", pkgPath := "", byteOffset := 120 }, { name := "Formals", type := 122, offset := 14, embedded := false, tag := "", pkgPath := "", byteOffset := 152 }, { name := "Body", type := 123, offset := 15, embedded := false, tag := "", pkgPath := "", byteOffset := 176 }]), 16, 200, [(Value.int IntKind.u8 0), (Value.int IntKind.u8 0), (Value.int IntKind.i64 0), (Value.int IntKind.u8 0), (Value.string { data := #[] }), (Value.slice none 0 0), (Value.int IntKind.u8 0), (Value.int IntKind.u8 0), (Value.int IntKind.u8 0), (Value.int IntKind.i32 0), (Value.string { data := #[] }), (Value.slice none 0 0), (Value.bool false), (Value.slice none 0 0), (Value.slice none 0 0), (Value.slice none 0 0)], true⟩
theorem ty125_ok : TI.Ok Try.prog 125 ty125 := TI.mk_ok (by kernel_rfl) (by kernel_rfl) rfl rfl
def ty126 : TI := ⟨(TypeDesc.func #[3] #[103] false), 1, 8, [Value.nilFunc], false⟩
theorem ty126_ok : TI.Ok Try.prog 126 ty126 := TI.mk_ok (by kernel_rfl) (by kernel_rfl) rfl rfl
def ty127 : TI := ⟨(TypeDesc.func #[9] #[3] false), 1, 8, [Value.nilFunc], false⟩
theorem ty127_ok : TI.Ok Try.prog 127 ty127 := TI.mk_ok (by kernel_rfl) (by kernel_rfl) rfl rfl
def ty128 : TI := ⟨(TypeDesc.func #[] #[100] false), 1, 8, [Value.nilFunc], false⟩
theorem ty128_ok : TI.Ok Try.prog 128 ty128 := TI.mk_ok (by kernel_rfl) (by kernel_rfl) rfl rfl
def ty129 : TI := ⟨(TypeDesc.func #[28, 100] #[100] false), 1, 8, [Value.nilFunc], false⟩
theorem ty129_ok : TI.Ok Try.prog 129 ty129 := TI.mk_ok (by kernel_rfl) (by kernel_rfl) rfl rfl
def ty130 : TI := ⟨(TypeDesc.array 2 21), 2, 8, [(Value.int IntKind.i32 0), (Value.int IntKind.i32 0)], true⟩
theorem ty130_ok : TI.Ok Try.prog 130 ty130 := TI.mk_ok (by kernel_rfl) (by kernel_rfl) rfl rfl
def ty131 : TI := ⟨(TypeDesc.func #[22, 107] #[3] false), 1, 8, [Value.nilFunc], false⟩
theorem ty131_ok : TI.Ok Try.prog 131 ty131 := TI.mk_ok (by kernel_rfl) (by kernel_rfl) rfl rfl
def ty132 : TI := ⟨(TypeDesc.func #[21, 21] #[21] false), 1, 8, [Value.nilFunc], false⟩
theorem ty132_ok : TI.Ok Try.prog 132 ty132 := TI.mk_ok (by kernel_rfl) (by kernel_rfl) rfl rfl
def ty133 : TI := ⟨(TypeDesc.func #[43] #[132] false), 1, 8, [Value.nilFunc], false⟩
theorem ty133_ok : TI.Ok Try.prog 133 ty133 := TI.mk_ok (by kernel_rfl) (by kernel_rfl) rfl rfl
def ty134 : TI := ⟨(TypeDesc.func #[2] #[21, 4] false), 1, 8, [Value.nilFunc], false⟩
theorem ty134_ok : TI.Ok Try.prog 134 ty134 := TI.mk_ok (by kernel_rfl) (by kernel_rfl) rfl rfl
def ty135 : TI := ⟨(TypeDesc.func #[21, 21] #[21, 4] false), 1, 8, [Value.nilFunc], false⟩
theorem ty135_ok : TI.Ok Try.prog 135 ty135 := TI.mk_ok (by kernel_rfl) (by kernel_rfl) rfl rfl
def ty136 : TI := ⟨(TypeDesc.func #[2] #[21] false), 1, 8, [Value.nilFunc], false⟩
theorem ty136_ok : TI.Ok Try.prog 136 ty136 := TI.mk_ok (by kernel_rfl) (by kernel_rfl) rfl rfl
def ty137 : TI := ⟨(TypeDesc.func #[43, 21, 21] #[21] false), 1, 8, [Value.nilFunc], false⟩
theorem ty137_ok : TI.Ok Try.prog 137 ty137 := TI.mk_ok (by kernel_rfl) (by kernel_rfl) rfl rfl
def ty138 : TI := ⟨(TypeDesc.func #[4] #[21, 4] false), 1, 8, [Value.nilFunc], false⟩
theorem ty138_ok : TI.Ok Try.prog 138 ty138 := TI.mk_ok (by kernel_rfl) (by kernel_rfl) rfl rfl
def ty139 : TI := ⟨(TypeDesc.func #[28] #[4] false), 1, 8, [Value.nilFunc], false⟩
theorem ty139_ok : TI.Ok Try.prog 139 ty139 := TI.mk_ok (by kernel_rfl) (by kernel_rfl) rfl rfl
def ty140 : TI := ⟨(TypeDesc.int IntKind.u64), 1, 8, [(Value.int IntKind.u64 0)], false⟩
theorem ty140_ok : TI.Ok Try.prog 140 ty140 := TI.mk_ok (by kernel_rfl) (by kernel_rfl) rfl rfl
def ty141 : TI := ⟨(TypeDesc.func #[9] #[4] false), 1, 8, [Value.nilFunc], false⟩
theorem ty141_ok : TI.Ok Try.prog 141 ty141 := TI.mk_ok (by kernel_rfl) (by kernel_rfl) rfl rfl
def ty142 : TI := ⟨(TypeDesc.func #[28] #[9] false), 1, 8, [Value.nilFunc], false⟩
theorem ty142_ok : TI.Ok Try.prog 142 ty142 := TI.mk_ok (by kernel_rfl) (by kernel_rfl) rfl rfl
def ty143 : TI := ⟨(TypeDesc.func #[153] #[] false), 1, 8, [Value.nilFunc], false⟩
theorem ty143_ok : TI.Ok Try.prog 143 ty143 := TI.mk_ok (by kernel_rfl) (by kernel_rfl) rfl rfl
def ty144 : TI := ⟨(TypeDesc.func #[153] #[] false), 1, 8, [Value.nilFunc], false⟩
theorem ty144_ok : TI.Ok Try.prog 144 ty144 := TI.mk_ok (by kernel_rfl) (by kernel_rfl) rfl rfl
def ty145 : TI := ⟨(TypeDesc.func #[97] #[144] false), 1, 8, [Value.nilFunc], false⟩
theorem ty145_ok : TI.Ok Try.prog 145 ty145 := TI.mk_ok (by kernel_rfl) (by kernel_rfl) rfl rfl
def ty146 : TI := ⟨(TypeDesc.func #[118, 9] #[4] false), 1, 8, [Value.nilFunc], false⟩
theorem ty146_ok : TI.Ok Try.prog 146 ty146 := TI.mk_ok (by kernel_rfl) (by kernel_rfl) rfl rfl
def ty147 : TI := ⟨(TypeDesc.func #[43] #[89] false), 1, 8, [Value.nilFunc], false⟩
theorem ty147_ok : TI.Ok Try.prog 147 ty147 := TI.mk_ok (by kernel_rfl) (by kernel_rfl) rfl rfl
def ty148 : TI := ⟨(TypeDesc.func #[4] #[21] false), 1, 8, [Value.nilFunc], false⟩
theorem ty148_ok : TI.Ok Try.prog 148 ty148 := TI.mk_ok (by kernel_rfl) (by kernel_rfl) rfl rfl
def ty149 : TI := ⟨(TypeDesc.func #[2] #[4] false), 1, 8, [Value.nilFunc], false⟩
theorem ty149_ok : TI.Ok Try.prog 149 ty149 := TI.mk_ok (by kernel_rfl) (by kernel_rfl) rfl rfl
def ty150 : TI := ⟨(TypeDesc.func #[21] #[2] false), 1, 8, [Value.nilFunc], false⟩
theorem ty150_ok : TI.Ok Try.prog 150 ty150 := TI.mk_ok (by kernel_rfl) (by kernel_rfl) rfl rfl
def ty151 : TI := ⟨(TypeDesc.func #[43, 2, 2] #[2] false), 1, 8, [Value.nilFunc], false⟩
theorem ty151_ok : TI.Ok Try.prog 151 ty151 := TI.mk_ok (by kernel_rfl) (by kernel_rfl) rfl rfl
def ty152 : TI := ⟨(TypeDesc.func #[5] #[4] false), 1, 8, [Value.nilFunc], false⟩
theorem ty152_ok : TI.Ok Try.prog 152 ty152 := TI.mk_ok (by kernel_rfl) (by kernel_rfl) rfl rfl
def ty153 : TI := ⟨(TypeDesc.func #[3, 125] #[4] false), 1, 8, [Value.nilFunc], false⟩
theorem ty153_ok : TI.Ok Try.prog 153 ty153 := TI.mk_ok (by kernel_rfl) (by kernel_rfl) rfl rfl
def ty154 : TI := ⟨(TypeDesc.func #[118, 9] #[3] false), 1, 8, [Value.nilFunc], false⟩
theorem ty154_ok : TI.Ok Try.prog 154 ty154 := TI.mk_ok (by kernel_rfl) (by kernel_rfl) rfl rfl
def ty155 : TI := ⟨(TypeDesc.int IntKind.u32), 1, 4, [(Value.int IntKind.u32 0)], false⟩
theorem ty155_ok : TI.Ok Try.prog 155 ty155 := TI.mk_ok (by kernel_rfl) (by kernel_rfl) rfl rfl
def ty156 : TI := ⟨(TypeDesc.func #[157] #[21, 4] false), 1, 8, [Value.nilFunc], false⟩
theorem ty156_ok : TI.Ok Try.prog 156 ty156 := TI.mk_ok (by kernel_rfl) (by kernel_rfl) rfl rfl
def ty157 : TI := ⟨(TypeDesc.int IntKind.u64), 1, 8, [(Value.int IntKind.u64 0)], false⟩
theorem ty157_ok : TI.Ok Try.prog 157 ty157 := TI.mk_ok (by kernel_rfl) (by kernel_rfl) rfl rfl
def ty158 : TI := ⟨(TypeDesc.func #[9, 9] #[4] false), 1, 8, [Value.nilFunc], false⟩
theorem ty158_ok : TI.Ok Try.prog 158 ty158 := TI.mk_ok (by kernel_rfl) (by kernel_rfl) rfl rfl
def ty159 : TI := ⟨(TypeDesc.func #[9, 9] #[3] false), 1, 8, [Value.nilFunc], false⟩
theorem ty159_ok : TI.Ok Try.prog 159 ty159 := TI.mk_ok (by kernel_rfl) (by kernel_rfl) rfl rfl
def ty160 : TI := ⟨(TypeDesc.func #[9, 5] #[3] false), 1, 8, [Value.nilFunc], false⟩
theorem ty160_ok : TI.Ok Try.prog 160 ty160 := TI.mk_ok (by kernel_rfl) (by kernel_rfl) rfl rfl
def ty161 : TI := ⟨(TypeDesc.func #[3] #[3] false), 1, 8, [Value.nilFunc], false⟩
theorem ty161_ok : TI.Ok Try.prog 161 ty161 := TI.mk_ok (by kernel_rfl) (by kernel_rfl) rfl rfl
def ty162 : TI := ⟨(TypeDesc.tuple #[155, 155]), 1, 0, [(Value.tuple #[(Value.int IntKind.u32 0), (Value.int IntKind.u32 0)])], false⟩
theorem ty162_ok : TI.Ok Try.prog 162 ty162 := TI.mk_ok (by kernel_rfl) (by kernel_rfl) rfl rfl
def ty163 : TI := ⟨(TypeDesc.func #[9] #[155, 155] false), 1, 8, [Value.nilFunc], false⟩
theorem ty163_ok : TI.Ok Try.prog 163 ty163 := TI.mk_ok (by kernel_rfl) (by kernel_rfl) rfl rfl
def ty164 : TI := ⟨(TypeDesc.func #[] #[9] false), 1, 8, [Value.nilFunc], false⟩
theorem ty164_ok : TI.Ok Try.prog 164 ty164 := TI.mk_ok (by kernel_rfl) (by kernel_rfl) rfl rfl
def ty170 : TI := ⟨(TypeDesc.func #[] #[3] false), 1, 8, [Value.nilFunc], false⟩
theorem ty170_ok : TI.Ok Try.prog 170 ty170 := TI.mk_ok (by kernel_rfl) (by kernel_rfl) rfl rfl
def ty174 : TI := ⟨(TypeDesc.pointer 5), 1, 8, [(Value.pointer none)], false⟩
theorem ty174_ok : TI.Ok Try.prog 174 ty174 := TI.mk_ok (by kernel_rfl) (by kernel_rfl) rfl rfl
def ty179 : TI := ⟨(TypeDesc.int IntKind.u8), 1, 1, [(Value.int IntKind.u8 0)], false⟩
theorem ty179_ok : TI.Ok Try.prog 179 ty179 := TI.mk_ok (by kernel_rfl) (by kernel_rfl) rfl rfl
def ty180 : TI := ⟨(TypeDesc.int IntKind.u8), 1, 1, [(Value.int IntKind.u8 0)], false⟩
theorem ty180_ok : TI.Ok Try.prog 180 ty180 := TI.mk_ok (by kernel_rfl) (by kernel_rfl) rfl rfl
def ty181 : TI := ⟨(TypeDesc.struct #[{ name := "Kind", type := 180, offset := 0, embedded := false, tag := "", pkgPath := "", byteOffset := 0 }, { name := "Cond", type := 45, offset := 1, embedded := false, tag := "", pkgPath := "", byteOffset := 8 }, { name := "C", type := 3, offset := 7, embedded := false, tag := "", pkgPath := "", byteOffset := 48 }, { name := "Item", type := 28, offset := 8, embedded := false, tag := "", pkgPath := "", byteOffset := 56 }, { name := "To", type := 50, offset := 9, embedded := false, tag := "", pkgPath := "", byteOffset := 64 }, { name := "Time", type := 45, offset := 11, embedded := false, tag := "", pkgPath := "", byteOffset := 96 }, { name := "Body", type := 32, offset := 17, embedded := false, tag := "", pkgPath := "", byteOffset := 136 }]), 18, 160, [(Value.int IntKind.u8 0), (Value.int IntKind.u8 0), (Value.int IntKind.u8 0), (Value.int IntKind.u8 0), (Value.int IntKind.i32 0), (Value.int IntKind.i64 0), (Value.slice none 0 0), (Value.int IntKind.i64 0), (Value.int IntKind.u8 0), (Value.int IntKind.i64 0), (Value.slice none 0 0), (Value.int IntKind.u8 0), (Value.int IntKind.u8 0), (Value.int IntKind.u8 0), (Value.int IntKind.i32 0), (Value.int IntKind.i64 0), (Value.slice none 0 0), (Value.slice none 0 0)], true⟩
theorem ty181_ok : TI.Ok Try.prog 181 ty181 := TI.mk_ok (by kernel_rfl) (by kernel_rfl) rfl rfl
def ty182 : TI := ⟨(TypeDesc.struct #[{ name := "Kind", type := 180, offset := 0, embedded := false, tag := "", pkgPath := "", byteOffset := 0 }, { name := "Cond", type := 45, offset := 1, embedded := false, tag := "", pkgPath := "", byteOffset := 8 }, { name := "C", type := 3, offset := 7, embedded := false, tag := "", pkgPath := "", byteOffset := 48 }, { name := "Item", type := 28, offset := 8, embedded := false, tag := "", pkgPath := "", byteOffset := 56 }, { name := "To", type := 50, offset := 9, embedded := false, tag := "", pkgPath := "", byteOffset := 64 }, { name := "Time", type := 45, offset := 11, embedded := false, tag := "", pkgPath := "", byteOffset := 96 }, { name := "Body", type := 32, offset := 17, embedded := false, tag := "", pkgPath := "", byteOffset := 136 }]), 18, 160, [(Value.int IntKind.u8 0), (Value.int IntKind.u8 0), (Value.int IntKind.u8 0), (Value.int IntKind.u8 0), (Value.int IntKind.i32 0), (Value.int IntKind.i64 0), (Value.slice none 0 0), (Value.int IntKind.i64 0), (Value.int IntKind.u8 0), (Value.int IntKind.i64 0), (Value.slice none 0 0), (Value.int IntKind.u8 0), (Value.int IntKind.u8 0), (Value.int IntKind.u8 0), (Value.int IntKind.i32 0), (Value.int IntKind.i64 0), (Value.slice none 0 0), (Value.slice none 0 0)], true⟩
theorem ty182_ok : TI.Ok Try.prog 182 ty182 := TI.mk_ok (by kernel_rfl) (by kernel_rfl) rfl rfl
def ty183 : TI := ⟨(TypeDesc.slice 28), 1, 24, [(Value.slice none 0 0)], false⟩
theorem ty183_ok : TI.Ok Try.prog 183 ty183 := TI.mk_ok (by kernel_rfl) (by kernel_rfl) rfl rfl
def ty184 : TI := ⟨(TypeDesc.struct #[{ name := "Tag", type := 9, offset := 0, embedded := false, tag := "", pkgPath := "", byteOffset := 0 }, { name := "Items", type := 183, offset := 1, embedded := false, tag := "", pkgPath := "", byteOffset := 16 }]), 2, 40, [(Value.string { data := #[] }), (Value.slice none 0 0)], true⟩
theorem ty184_ok : TI.Ok Try.prog 184 ty184 := TI.mk_ok (by kernel_rfl) (by kernel_rfl) rfl rfl
def ty185 : TI := ⟨(TypeDesc.struct #[{ name := "Tag", type := 9, offset := 0, embedded := false, tag := "", pkgPath := "", byteOffset := 0 }, { name := "Items", type := 183, offset := 1, embedded := false, tag := "", pkgPath := "", byteOffset := 16 }]), 2, 40, [(Value.string { data := #[] }), (Value.slice none 0 0)], true⟩
theorem ty185_ok : TI.Ok Try.prog 185 ty185 := TI.mk_ok (by kernel_rfl) (by kernel_rfl) rfl rfl
def ty186 : TI := ⟨(TypeDesc.struct #[{ name := "Val", type := 4, offset := 0, embedded := false, tag := "", pkgPath := "", byteOffset := 0 }, { name := "Type", type := 117, offset := 1, embedded := false, tag := "", pkgPath := "", byteOffset := 8 }, { name := "Name", type := 9, offset := 5, embedded := false, tag := "", pkgPath := "", byteOffset := 48 }]), 6, 64, [(Value.bool false), (Value.int IntKind.u8 0), (Value.int IntKind.i64 0), (Value.int IntKind.u8 0), (Value.string { data := #[] }), (Value.string { data := #[] })], true⟩
theorem ty186_ok : TI.Ok Try.prog 186 ty186 := TI.mk_ok (by kernel_rfl) (by kernel_rfl) rfl rfl
def ty187 : TI := ⟨(TypeDesc.struct #[{ name := "Val", type := 4, offset := 0, embedded := false, tag := "", pkgPath := "", byteOffset := 0 }, { name := "Type", type := 117, offset := 1, embedded := false, tag := "", pkgPath := "", byteOffset := 8 }, { name := "Name", type := 9, offset := 5, embedded := false, tag := "", pkgPath := "", byteOffset := 48 }]), 6, 64, [(Value.bool false), (Value.int IntKind.u8 0), (Value.int IntKind.i64 0), (Value.int IntKind.u8 0), (Value.string { data := #[] }), (Value.string { data := #[] })], true⟩
theorem ty187_ok : TI.Ok Try.prog 187 ty187 := TI.mk_ok (by kernel_rfl) (by kernel_rfl) rfl rfl
def ty188 : TI := ⟨(TypeDesc.int IntKind.u8), 1, 1, [(Value.int IntKind.u8 0)], false⟩
theorem ty188_ok : TI.Ok Try.prog 188 ty188 := TI.mk_ok (by kernel_rfl) (by kernel_rfl) rfl rfl
def ty189 : TI := ⟨(TypeDesc.struct #[{ name := "Name", type := 9, offset := 0, embedded := false, tag := "", pkgPath := "", byteOffset := 0 }, { name := "Base", type := 75, offset := 1, embedded := false, tag := "", pkgPath := "", byteOffset := 16 }, { name := "Count", type := 75, offset := 7, embedded := false, tag := "", pkgPath := "", byteOffset := 64 }]), 13, 112, [(Value.string { data := #[] }), (Value.int IntKind.u8 0), (Value.int IntKind.u8 0), (Value.int IntKind.u8 0), (Value.int IntKind.i32 0), (Value.string { data := #[] }), (Value.slice none 0 0), (Value.int IntKind.u8 0), (Value.int IntKind.u8 0), (Value.int IntKind.u8 0), (Value.int IntKind.i32 0), (Value.string { data := #[] }), (Value.slice none 0 0)], true⟩
theorem ty189_ok : TI.Ok Try.prog 189 ty189 := TI.mk_ok (by kernel_rfl) (by kernel_rfl) rfl rfl
def ty190 : TI := ⟨(TypeDesc.struct #[{ name := "Name", type := 9, offset := 0, embedded := false, tag := "", pkgPath := "", byteOffset := 0 }, { name := "Base", type := 75, offset := 1, embedded := false, tag := "", pkgPath := "", byteOffset := 16 }, { name := "Count", type := 75, offset := 7, embedded := false, tag := "", pkgPath := "", byteOffset := 64 }]), 13, 112, [(Value.string { data := #[] }), (Value.int IntKind.u8 0), (Value.int IntKind.u8 0), (Value.int IntKind.u8 0), (Value.int IntKind.i32 0), (Value.string { data := #[] }), (Value.slice none 0 0), (Value.int IntKind.u8 0), (Value.int IntKind.u8 0), (Value.int IntKind.u8 0), (Value.int IntKind.i32 0), (Value.string { data := #[] }), (Value.slice none 0 0)], true⟩
theorem ty190_ok : TI.Ok Try.prog 190 ty190 := TI.mk_ok (by kernel_rfl) (by kernel_rfl) rfl rfl
def ty191 : TI := ⟨(TypeDesc.slice 196), 1, 24, [(Value.slice none 0 0)], false⟩
theorem ty191_ok : TI.Ok Try.prog 191 ty191 := TI.mk_ok (by kernel_rfl) (by kernel_rfl) rfl rfl
def ty192 : TI := ⟨(TypeDesc.struct #[{ name := "Kind", type := 188, offset := 0, embedded := false, tag := "", pkgPath := "", byteOffset := 0 }, { name := "Name", type := 9, offset := 1, embedded := false, tag := "", pkgPath := "", byteOffset := 8 }, { name := "Chan", type := 75, offset := 2, embedded := false, tag := "", pkgPath := "", byteOffset := 24 }, { name := "Targets", type := 73, offset := 8, embedded := false, tag := "", pkgPath := "", byteOffset := 72 }, { name := "Exprs", type := 73, offset := 9, embedded := false, tag := "", pkgPath := "", byteOffset := 96 }, { name := "Rep", type := 190, offset := 10, embedded := false, tag := "", pkgPath := "", byteOffset := 120 }, { name := "Guards", type := 191, offset := 23, embedded := false, tag := "", pkgPath := "", byteOffset := 232 }, { name := "L", type := 123, offset := 24, embedded := false, tag := "", pkgPath := "", byteOffset := 256 }, { name := "Procs", type := 35, offset := 25, embedded := false, tag := "", pkgPath := "", byteOffset := 280 }, { name := "Spec", type := 125, offset := 26, embedded := false, tag := "", pkgPath := "", byteOffset := 304 }]), 42, 504, [(Value.int IntKind.u8 0), (Value.string { data := #[] }), (Value.int IntKind.u8 0), (Value.int IntKind.u8 0), (Value.int IntKind.u8 0), (Value.int IntKind.i32 0), (Value.string { data := #[] }), (Value.slice none 0 0), (Value.slice none 0 0), (Value.slice none 0 0), (Value.string { data := #[] }), (Value.int IntKind.u8 0), (Value.int IntKind.u8 0), (Value.int IntKind.u8 0), (Value.int IntKind.i32 0), (Value.string { data := #[] }), (Value.slice none 0 0), (Value.int IntKind.u8 0), (Value.int IntKind.u8 0), (Value.int IntKind.u8 0), (Value.int IntKind.i32 0), (Value.string { data := #[] }), (Value.slice none 0 0), (Value.slice none 0 0), (Value.slice none 0 0), (Value.slice none 0 0), (Value.int IntKind.u8 0), (Value.int IntKind.u8 0), (Value.int IntKind.i64 0), (Value.int IntKind.u8 0), (Value.string { data := #[] }), (Value.slice none 0 0), (Value.int IntKind.u8 0), (Value.int IntKind.u8 0), (Value.int IntKind.u8 0), (Value.int IntKind.i32 0), (Value.string { data := #[] }), (Value.slice none 0 0), (Value.bool false), (Value.slice none 0 0), (Value.slice none 0 0), (Value.slice none 0 0)], true⟩
theorem ty192_ok : TI.Ok Try.prog 192 ty192 := TI.mk_ok (by kernel_rfl) (by kernel_rfl) rfl rfl
def ty193 : TI := ⟨(TypeDesc.struct #[{ name := "Kind", type := 188, offset := 0, embedded := false, tag := "", pkgPath := "", byteOffset := 0 }, { name := "Name", type := 9, offset := 1, embedded := false, tag := "", pkgPath := "", byteOffset := 8 }, { name := "Chan", type := 75, offset := 2, embedded := false, tag := "", pkgPath := "", byteOffset := 24 }, { name := "Targets", type := 73, offset := 8, embedded := false, tag := "", pkgPath := "", byteOffset := 72 }, { name := "Exprs", type := 73, offset := 9, embedded := false, tag := "", pkgPath := "", byteOffset := 96 }, { name := "Rep", type := 190, offset := 10, embedded := false, tag := "", pkgPath := "", byteOffset := 120 }, { name := "Guards", type := 191, offset := 23, embedded := false, tag := "", pkgPath := "", byteOffset := 232 }, { name := "L", type := 123, offset := 24, embedded := false, tag := "", pkgPath := "", byteOffset := 256 }, { name := "Procs", type := 35, offset := 25, embedded := false, tag := "", pkgPath := "", byteOffset := 280 }, { name := "Spec", type := 125, offset := 26, embedded := false, tag := "", pkgPath := "", byteOffset := 304 }]), 42, 504, [(Value.int IntKind.u8 0), (Value.string { data := #[] }), (Value.int IntKind.u8 0), (Value.int IntKind.u8 0), (Value.int IntKind.u8 0), (Value.int IntKind.i32 0), (Value.string { data := #[] }), (Value.slice none 0 0), (Value.slice none 0 0), (Value.slice none 0 0), (Value.string { data := #[] }), (Value.int IntKind.u8 0), (Value.int IntKind.u8 0), (Value.int IntKind.u8 0), (Value.int IntKind.i32 0), (Value.string { data := #[] }), (Value.slice none 0 0), (Value.int IntKind.u8 0), (Value.int IntKind.u8 0), (Value.int IntKind.u8 0), (Value.int IntKind.i32 0), (Value.string { data := #[] }), (Value.slice none 0 0), (Value.slice none 0 0), (Value.slice none 0 0), (Value.slice none 0 0), (Value.int IntKind.u8 0), (Value.int IntKind.u8 0), (Value.int IntKind.i64 0), (Value.int IntKind.u8 0), (Value.string { data := #[] }), (Value.slice none 0 0), (Value.int IntKind.u8 0), (Value.int IntKind.u8 0), (Value.int IntKind.u8 0), (Value.int IntKind.i32 0), (Value.string { data := #[] }), (Value.slice none 0 0), (Value.bool false), (Value.slice none 0 0), (Value.slice none 0 0), (Value.slice none 0 0)], true⟩
theorem ty193_ok : TI.Ok Try.prog 193 ty193 := TI.mk_ok (by kernel_rfl) (by kernel_rfl) rfl rfl
def ty195 : TI := ⟨(TypeDesc.struct #[{ name := "Kind", type := 180, offset := 0, embedded := false, tag := "", pkgPath := "", byteOffset := 0 }, { name := "Name", type := 9, offset := 1, embedded := false, tag := "", pkgPath := "", byteOffset := 8 }, { name := "Cond", type := 75, offset := 2, embedded := false, tag := "", pkgPath := "", byteOffset := 24 }, { name := "Chan", type := 75, offset := 8, embedded := false, tag := "", pkgPath := "", byteOffset := 72 }, { name := "Targets", type := 73, offset := 14, embedded := false, tag := "", pkgPath := "", byteOffset := 120 }, { name := "Values", type := 73, offset := 15, embedded := false, tag := "", pkgPath := "", byteOffset := 144 }, { name := "Time", type := 75, offset := 16, embedded := false, tag := "", pkgPath := "", byteOffset := 168 }, { name := "Body", type := 123, offset := 22, embedded := false, tag := "", pkgPath := "", byteOffset := 216 }]), 23, 240, [(Value.int IntKind.u8 0), (Value.string { data := #[] }), (Value.int IntKind.u8 0), (Value.int IntKind.u8 0), (Value.int IntKind.u8 0), (Value.int IntKind.i32 0), (Value.string { data := #[] }), (Value.slice none 0 0), (Value.int IntKind.u8 0), (Value.int IntKind.u8 0), (Value.int IntKind.u8 0), (Value.int IntKind.i32 0), (Value.string { data := #[] }), (Value.slice none 0 0), (Value.slice none 0 0), (Value.slice none 0 0), (Value.int IntKind.u8 0), (Value.int IntKind.u8 0), (Value.int IntKind.u8 0), (Value.int IntKind.i32 0), (Value.string { data := #[] }), (Value.slice none 0 0), (Value.slice none 0 0)], true⟩
theorem ty195_ok : TI.Ok Try.prog 195 ty195 := TI.mk_ok (by kernel_rfl) (by kernel_rfl) rfl rfl
def ty196 : TI := ⟨(TypeDesc.struct #[{ name := "Kind", type := 180, offset := 0, embedded := false, tag := "", pkgPath := "", byteOffset := 0 }, { name := "Name", type := 9, offset := 1, embedded := false, tag := "", pkgPath := "", byteOffset := 8 }, { name := "Cond", type := 75, offset := 2, embedded := false, tag := "", pkgPath := "", byteOffset := 24 }, { name := "Chan", type := 75, offset := 8, embedded := false, tag := "", pkgPath := "", byteOffset := 72 }, { name := "Targets", type := 73, offset := 14, embedded := false, tag := "", pkgPath := "", byteOffset := 120 }, { name := "Values", type := 73, offset := 15, embedded := false, tag := "", pkgPath := "", byteOffset := 144 }, { name := "Time", type := 75, offset := 16, embedded := false, tag := "", pkgPath := "", byteOffset := 168 }, { name := "Body", type := 123, offset := 22, embedded := false, tag := "", pkgPath := "", byteOffset := 216 }]), 23, 240, [(Value.int IntKind.u8 0), (Value.string { data := #[] }), (Value.int IntKind.u8 0), (Value.int IntKind.u8 0), (Value.int IntKind.u8 0), (Value.int IntKind.i32 0), (Value.string { data := #[] }), (Value.slice none 0 0), (Value.int IntKind.u8 0), (Value.int IntKind.u8 0), (Value.int IntKind.u8 0), (Value.int IntKind.i32 0), (Value.string { data := #[] }), (Value.slice none 0 0), (Value.slice none 0 0), (Value.slice none 0 0), (Value.int IntKind.u8 0), (Value.int IntKind.u8 0), (Value.int IntKind.u8 0), (Value.int IntKind.i32 0), (Value.string { data := #[] }), (Value.slice none 0 0), (Value.slice none 0 0)], true⟩
theorem ty196_ok : TI.Ok Try.prog 196 ty196 := TI.mk_ok (by kernel_rfl) (by kernel_rfl) rfl rfl
def tt : TT := (.node 97 ty97 (.node 54 ty54 (.node 32 ty32 (.node 21 ty21 (.node 5 ty5 (.node 2 ty2 (.node 1 ty1 (.node 0 ty0 .leaf .leaf) .leaf) (.node 4 ty4 (.node 3 ty3 .leaf .leaf) .leaf)) (.node 13 ty13 (.node 12 ty12 (.node 9 ty9 .leaf .leaf) .leaf) (.node 20 ty20 .leaf .leaf))) (.node 27 ty27 (.node 24 ty24 (.node 23 ty23 (.node 22 ty22 .leaf .leaf) .leaf) (.node 26 ty26 (.node 25 ty25 .leaf .leaf) .leaf)) (.node 30 ty30 (.node 29 ty29 (.node 28 ty28 .leaf .leaf) .leaf) (.node 31 ty31 .leaf .leaf)))) (.node 43 ty43 (.node 38 ty38 (.node 35 ty35 (.node 34 ty34 (.node 33 ty33 .leaf .leaf) .leaf) (.node 37 ty37 (.node 36 ty36 .leaf .leaf) .leaf)) (.node 41 ty41 (.node 40 ty40 (.node 39 ty39 .leaf .leaf) .leaf) (.node 42 ty42 .leaf .leaf))) (.node 49 ty49 (.node 46 ty46 (.node 45 ty45 (.node 44 ty44 .leaf .leaf) .leaf) (.node 48 ty48 (.node 47 ty47 .leaf .leaf) .leaf)) (.node 52 ty52 (.node 51 ty51 (.node 50 ty50 .leaf .leaf) .leaf) (.node 53 ty53 .leaf .leaf))))) (.node 76 ty76 (.node 65 ty65 (.node 60 ty60 (.node 57 ty57 (.node 56 ty56 (.node 55 ty55 .leaf .leaf) .leaf) (.node 59 ty59 (.node 58 ty58 .leaf .leaf) .leaf)) (.node 63 ty63 (.node 62 ty62 (.node 61 ty61 .leaf .leaf) .leaf) (.node 64 ty64 .leaf .leaf))) (.node 71 ty71 (.node 68 ty68 (.node 67 ty67 (.node 66 ty66 .leaf .leaf) .leaf) (.node 70 ty70 (.node 69 ty69 .leaf .leaf) .leaf)) (.node 74 ty74 (.node 73 ty73 (.node 72 ty72 .leaf .leaf) .leaf) (.node 75 ty75 .leaf .leaf)))) (.node 87 ty87 (.node 82 ty82 (.node 79 ty79 (.node 78 ty78 (.node 77 ty77 .leaf .leaf) .leaf) (.node 81 ty81 (.node 80 ty80 .leaf .leaf) .leaf)) (.node 85 ty85 (.node 84 ty84 (.node 83 ty83 .leaf .leaf) .leaf) (.node 86 ty86 .leaf .leaf))) (.node 92 ty92 (.node 90 ty90 (.node 89 ty89 (.node 88 ty88 .leaf .leaf) .leaf) (.node 91 ty91 .leaf .leaf)) (.node 95 ty95 (.node 94 ty94 (.node 93 ty93 .leaf .leaf) .leaf) (.node 96 ty96 .leaf .leaf)))))) (.node 141 ty141 (.node 119 ty119 (.node 108 ty108 (.node 103 ty103 (.node 100 ty100 (.node 99 ty99 (.node 98 ty98 .leaf .leaf) .leaf) (.node 102 ty102 (.node 101 ty101 .leaf .leaf) .leaf)) (.node 106 ty106 (.node 105 ty105 (.node 104 ty104 .leaf .leaf) .leaf) (.node 107 ty107 .leaf .leaf))) (.node 114 ty114 (.node 111 ty111 (.node 110 ty110 (.node 109 ty109 .leaf .leaf) .leaf) (.node 113 ty113 (.node 112 ty112 .leaf .leaf) .leaf)) (.node 117 ty117 (.node 116 ty116 (.node 115 ty115 .leaf .leaf) .leaf) (.node 118 ty118 .leaf .leaf)))) (.node 130 ty130 (.node 125 ty125 (.node 122 ty122 (.node 121 ty121 (.node 120 ty120 .leaf .leaf) .leaf) (.node 124 ty124 (.node 123 ty123 .leaf .leaf) .leaf)) (.node 128 ty128 (.node 127 ty127 (.node 126 ty126 .leaf .leaf) .leaf) (.node 129 ty129 .leaf .leaf))) (.node 136 ty136 (.node 133 ty133 (.node 132 ty132 (.node 131 ty131 .leaf .leaf) .leaf) (.node 135 ty135 (.node 134 ty134 .leaf .leaf) .leaf)) (.node 139 ty139 (.node 138 ty138 (.node 137 ty137 .leaf .leaf) .leaf) (.node 140 ty140 .leaf .leaf))))) (.node 163 ty163 (.node 152 ty152 (.node 147 ty147 (.node 144 ty144 (.node 143 ty143 (.node 142 ty142 .leaf .leaf) .leaf) (.node 146 ty146 (.node 145 ty145 .leaf .leaf) .leaf)) (.node 150 ty150 (.node 149 ty149 (.node 148 ty148 .leaf .leaf) .leaf) (.node 151 ty151 .leaf .leaf))) (.node 158 ty158 (.node 155 ty155 (.node 154 ty154 (.node 153 ty153 .leaf .leaf) .leaf) (.node 157 ty157 (.node 156 ty156 .leaf .leaf) .leaf)) (.node 161 ty161 (.node 160 ty160 (.node 159 ty159 .leaf .leaf) .leaf) (.node 162 ty162 .leaf .leaf)))) (.node 186 ty186 (.node 181 ty181 (.node 174 ty174 (.node 170 ty170 (.node 164 ty164 .leaf .leaf) .leaf) (.node 180 ty180 (.node 179 ty179 .leaf .leaf) .leaf)) (.node 184 ty184 (.node 183 ty183 (.node 182 ty182 .leaf .leaf) .leaf) (.node 185 ty185 .leaf .leaf))) (.node 191 ty191 (.node 189 ty189 (.node 188 ty188 (.node 187 ty187 .leaf .leaf) .leaf) (.node 190 ty190 .leaf .leaf)) (.node 195 ty195 (.node 193 ty193 (.node 192 ty192 .leaf .leaf) .leaf) (.node 196 ty196 .leaf .leaf)))))))
theorem tt_ok : tt.Ok Try.prog := ⟨ty97_ok, ⟨ty54_ok, ⟨ty32_ok, ⟨ty21_ok, ⟨ty5_ok, ⟨ty2_ok, ⟨ty1_ok, ⟨ty0_ok, trivial, trivial⟩, trivial⟩, ⟨ty4_ok, ⟨ty3_ok, trivial, trivial⟩, trivial⟩⟩, ⟨ty13_ok, ⟨ty12_ok, ⟨ty9_ok, trivial, trivial⟩, trivial⟩, ⟨ty20_ok, trivial, trivial⟩⟩⟩, ⟨ty27_ok, ⟨ty24_ok, ⟨ty23_ok, ⟨ty22_ok, trivial, trivial⟩, trivial⟩, ⟨ty26_ok, ⟨ty25_ok, trivial, trivial⟩, trivial⟩⟩, ⟨ty30_ok, ⟨ty29_ok, ⟨ty28_ok, trivial, trivial⟩, trivial⟩, ⟨ty31_ok, trivial, trivial⟩⟩⟩⟩, ⟨ty43_ok, ⟨ty38_ok, ⟨ty35_ok, ⟨ty34_ok, ⟨ty33_ok, trivial, trivial⟩, trivial⟩, ⟨ty37_ok, ⟨ty36_ok, trivial, trivial⟩, trivial⟩⟩, ⟨ty41_ok, ⟨ty40_ok, ⟨ty39_ok, trivial, trivial⟩, trivial⟩, ⟨ty42_ok, trivial, trivial⟩⟩⟩, ⟨ty49_ok, ⟨ty46_ok, ⟨ty45_ok, ⟨ty44_ok, trivial, trivial⟩, trivial⟩, ⟨ty48_ok, ⟨ty47_ok, trivial, trivial⟩, trivial⟩⟩, ⟨ty52_ok, ⟨ty51_ok, ⟨ty50_ok, trivial, trivial⟩, trivial⟩, ⟨ty53_ok, trivial, trivial⟩⟩⟩⟩⟩, ⟨ty76_ok, ⟨ty65_ok, ⟨ty60_ok, ⟨ty57_ok, ⟨ty56_ok, ⟨ty55_ok, trivial, trivial⟩, trivial⟩, ⟨ty59_ok, ⟨ty58_ok, trivial, trivial⟩, trivial⟩⟩, ⟨ty63_ok, ⟨ty62_ok, ⟨ty61_ok, trivial, trivial⟩, trivial⟩, ⟨ty64_ok, trivial, trivial⟩⟩⟩, ⟨ty71_ok, ⟨ty68_ok, ⟨ty67_ok, ⟨ty66_ok, trivial, trivial⟩, trivial⟩, ⟨ty70_ok, ⟨ty69_ok, trivial, trivial⟩, trivial⟩⟩, ⟨ty74_ok, ⟨ty73_ok, ⟨ty72_ok, trivial, trivial⟩, trivial⟩, ⟨ty75_ok, trivial, trivial⟩⟩⟩⟩, ⟨ty87_ok, ⟨ty82_ok, ⟨ty79_ok, ⟨ty78_ok, ⟨ty77_ok, trivial, trivial⟩, trivial⟩, ⟨ty81_ok, ⟨ty80_ok, trivial, trivial⟩, trivial⟩⟩, ⟨ty85_ok, ⟨ty84_ok, ⟨ty83_ok, trivial, trivial⟩, trivial⟩, ⟨ty86_ok, trivial, trivial⟩⟩⟩, ⟨ty92_ok, ⟨ty90_ok, ⟨ty89_ok, ⟨ty88_ok, trivial, trivial⟩, trivial⟩, ⟨ty91_ok, trivial, trivial⟩⟩, ⟨ty95_ok, ⟨ty94_ok, ⟨ty93_ok, trivial, trivial⟩, trivial⟩, ⟨ty96_ok, trivial, trivial⟩⟩⟩⟩⟩⟩, ⟨ty141_ok, ⟨ty119_ok, ⟨ty108_ok, ⟨ty103_ok, ⟨ty100_ok, ⟨ty99_ok, ⟨ty98_ok, trivial, trivial⟩, trivial⟩, ⟨ty102_ok, ⟨ty101_ok, trivial, trivial⟩, trivial⟩⟩, ⟨ty106_ok, ⟨ty105_ok, ⟨ty104_ok, trivial, trivial⟩, trivial⟩, ⟨ty107_ok, trivial, trivial⟩⟩⟩, ⟨ty114_ok, ⟨ty111_ok, ⟨ty110_ok, ⟨ty109_ok, trivial, trivial⟩, trivial⟩, ⟨ty113_ok, ⟨ty112_ok, trivial, trivial⟩, trivial⟩⟩, ⟨ty117_ok, ⟨ty116_ok, ⟨ty115_ok, trivial, trivial⟩, trivial⟩, ⟨ty118_ok, trivial, trivial⟩⟩⟩⟩, ⟨ty130_ok, ⟨ty125_ok, ⟨ty122_ok, ⟨ty121_ok, ⟨ty120_ok, trivial, trivial⟩, trivial⟩, ⟨ty124_ok, ⟨ty123_ok, trivial, trivial⟩, trivial⟩⟩, ⟨ty128_ok, ⟨ty127_ok, ⟨ty126_ok, trivial, trivial⟩, trivial⟩, ⟨ty129_ok, trivial, trivial⟩⟩⟩, ⟨ty136_ok, ⟨ty133_ok, ⟨ty132_ok, ⟨ty131_ok, trivial, trivial⟩, trivial⟩, ⟨ty135_ok, ⟨ty134_ok, trivial, trivial⟩, trivial⟩⟩, ⟨ty139_ok, ⟨ty138_ok, ⟨ty137_ok, trivial, trivial⟩, trivial⟩, ⟨ty140_ok, trivial, trivial⟩⟩⟩⟩⟩, ⟨ty163_ok, ⟨ty152_ok, ⟨ty147_ok, ⟨ty144_ok, ⟨ty143_ok, ⟨ty142_ok, trivial, trivial⟩, trivial⟩, ⟨ty146_ok, ⟨ty145_ok, trivial, trivial⟩, trivial⟩⟩, ⟨ty150_ok, ⟨ty149_ok, ⟨ty148_ok, trivial, trivial⟩, trivial⟩, ⟨ty151_ok, trivial, trivial⟩⟩⟩, ⟨ty158_ok, ⟨ty155_ok, ⟨ty154_ok, ⟨ty153_ok, trivial, trivial⟩, trivial⟩, ⟨ty157_ok, ⟨ty156_ok, trivial, trivial⟩, trivial⟩⟩, ⟨ty161_ok, ⟨ty160_ok, ⟨ty159_ok, trivial, trivial⟩, trivial⟩, ⟨ty162_ok, trivial, trivial⟩⟩⟩⟩, ⟨ty186_ok, ⟨ty181_ok, ⟨ty174_ok, ⟨ty170_ok, ⟨ty164_ok, trivial, trivial⟩, trivial⟩, ⟨ty180_ok, ⟨ty179_ok, trivial, trivial⟩, trivial⟩⟩, ⟨ty184_ok, ⟨ty183_ok, ⟨ty182_ok, trivial, trivial⟩, trivial⟩, ⟨ty185_ok, trivial, trivial⟩⟩⟩, ⟨ty191_ok, ⟨ty189_ok, ⟨ty188_ok, ⟨ty187_ok, trivial, trivial⟩, trivial⟩, ⟨ty190_ok, trivial, trivial⟩⟩, ⟨ty195_ok, ⟨ty193_ok, ⟨ty192_ok, trivial, trivial⟩, trivial⟩, ⟨ty196_ok, trivial, trivial⟩⟩⟩⟩⟩⟩⟩
end Go.Proofs.Ytbbainjecjdkmaa
