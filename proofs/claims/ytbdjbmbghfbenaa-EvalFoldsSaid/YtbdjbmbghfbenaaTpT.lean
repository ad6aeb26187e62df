/-
  The table of this seat's types, by program (tt.py), each row against the loaded program.
-/
import Derived.Test.YtbdjbmbghfbenaaLa
import Derived.Test.YtbdjbmbghfbenaaChecked
namespace Go.Proofs.Ytbdjbmbghfbenaa
open Go Go.Tp
set_option maxRecDepth 100000
set_option linter.unusedSimpArgs false
def ty0 : TI := ⟨(TypeDesc.tuple #[]), 1, 0, [(Value.tuple #[])], false⟩
theorem ty0_ok : TI.Ok Try.prog 0 ty0 := TI.mk_ok (by kernel_rfl) (by kernel_rfl) rfl rfl
def ty1 : TI := ⟨(TypeDesc.func #[] #[] false), 1, 8, [Value.nilFunc], false⟩
theorem ty1_ok : TI.Ok Try.prog 1 ty1 := TI.mk_ok (by kernel_rfl) (by kernel_rfl) rfl rfl
def ty2 : TI := ⟨(TypeDesc.int IntKind.i64), 1, 8, [(Value.int IntKind.i64 0)], false⟩
theorem ty2_ok : TI.Ok Try.prog 2 ty2 := TI.mk_ok (by kernel_rfl) (by kernel_rfl) rfl rfl
def ty3 : TI := ⟨(TypeDesc.int IntKind.i64), 1, 8, [(Value.int IntKind.i64 0)], false⟩
theorem ty3_ok : TI.Ok Try.prog 3 ty3 := TI.mk_ok (by kernel_rfl) (by kernel_rfl) rfl rfl
def ty4 : TI := ⟨TypeDesc.bool, 1, 1, [(Value.bool false)], false⟩
theorem ty4_ok : TI.Ok Try.prog 4 ty4 := TI.mk_ok (by kernel_rfl) (by kernel_rfl) rfl rfl
def ty5 : TI := ⟨(TypeDesc.int IntKind.u8), 1, 1, [(Value.int IntKind.u8 0)], false⟩
theorem ty5_ok : TI.Ok Try.prog 5 ty5 := TI.mk_ok (by kernel_rfl) (by kernel_rfl) rfl rfl
def ty9 : TI := ⟨TypeDesc.string, 1, 16, [(Value.string { data := #[] })], false⟩
theorem ty9_ok : TI.Ok Try.prog 9 ty9 := TI.mk_ok (by kernel_rfl) (by kernel_rfl) rfl rfl
def ty12 : TI := ⟨(TypeDesc.int IntKind.u64), 1, 8, [(Value.int IntKind.u64 0)], false⟩
theorem ty12_ok : TI.Ok Try.prog 12 ty12 := TI.mk_ok (by kernel_rfl) (by kernel_rfl) rfl rfl
def ty13 : TI := ⟨(TypeDesc.struct #[{ name := "msg", type := 9, offset := 0, embedded := false, tag := "", pkgPath := "runtime", byteOffset := 0 }, { name := "addr", type := 12, offset := 1, embedded := false, tag := "", pkgPath := "runtime", byteOffset := 16 }]), 2, 24, [(Value.string { data := #[] }), (Value.int IntKind.u64 0)], true⟩
theorem ty13_ok : TI.Ok Try.prog 13 ty13 := TI.mk_ok (by kernel_rfl) (by kernel_rfl) rfl rfl
def ty20 : TI := ⟨(TypeDesc.interface #[]), 1, 16, [Value.nilIface], false⟩
theorem ty20_ok : TI.Ok Try.prog 20 ty20 := TI.mk_ok (by kernel_rfl) (by kernel_rfl) rfl rfl
def ty21 : TI := ⟨(TypeDesc.int IntKind.i32), 1, 4, [(Value.int IntKind.i32 0)], false⟩
theorem ty21_ok : TI.Ok Try.prog 21 ty21 := TI.mk_ok (by kernel_rfl) (by kernel_rfl) rfl rfl
def ty22 : TI := ⟨(TypeDesc.slice 42), 1, 24, [(Value.slice none 0 0)], false⟩
theorem ty22_ok : TI.Ok Try.prog 22 ty22 := TI.mk_ok (by kernel_rfl) (by kernel_rfl) rfl rfl
def ty23 : TI := ⟨(TypeDesc.int IntKind.u8), 1, 1, [(Value.int IntKind.u8 0)], false⟩
theorem ty23_ok : TI.Ok Try.prog 23 ty23 := TI.mk_ok (by kernel_rfl) (by kernel_rfl) rfl rfl
def ty24 : TI := ⟨(TypeDesc.int IntKind.u8), 1, 1, [(Value.int IntKind.u8 0)], false⟩
theorem ty24_ok : TI.Ok Try.prog 24 ty24 := TI.mk_ok (by kernel_rfl) (by kernel_rfl) rfl rfl
def ty25 : TI := ⟨(TypeDesc.int IntKind.u8), 1, 1, [(Value.int IntKind.u8 0)], false⟩
theorem ty25_ok : TI.Ok Try.prog 25 ty25 := TI.mk_ok (by kernel_rfl) (by kernel_rfl) rfl rfl
def ty26 : TI := ⟨(TypeDesc.slice 28), 1, 24, [(Value.slice none 0 0)], false⟩
theorem ty26_ok : TI.Ok Try.prog 26 ty26 := TI.mk_ok (by kernel_rfl) (by kernel_rfl) rfl rfl
def ty27 : TI := ⟨(TypeDesc.struct #[{ name := "Kind", type := 23, offset := 0, embedded := false, tag := "", pkgPath := "", byteOffset := 0 }, { name := "Oper", type := 24, offset := 1, embedded := false, tag := "", pkgPath := "", byteOffset := 1 }, { name := "To", type := 25, offset := 2, embedded := false, tag := "", pkgPath := "", byteOffset := 2 }, { name := "N", type := 21, offset := 3, embedded := false, tag := "", pkgPath := "", byteOffset := 4 }, { name := "S", type := 9, offset := 4, embedded := false, tag := "", pkgPath := "", byteOffset := 8 }, { name := "L", type := 26, offset := 5, embedded := false, tag := "", pkgPath := "", byteOffset := 24 }]), 6, 48, [(Value.int IntKind.u8 0), (Value.int IntKind.u8 0), (Value.int IntKind.u8 0), (Value.int IntKind.i32 0), (Value.string { data := #[] }), (Value.slice none 0 0)], true⟩
theorem ty27_ok : TI.Ok Try.prog 27 ty27 := TI.mk_ok (by kernel_rfl) (by kernel_rfl) rfl rfl
def ty28 : TI := ⟨(TypeDesc.struct #[{ name := "Kind", type := 23, offset := 0, embedded := false, tag := "", pkgPath := "", byteOffset := 0 }, { name := "Oper", type := 24, offset := 1, embedded := false, tag := "", pkgPath := "", byteOffset := 1 }, { name := "To", type := 25, offset := 2, embedded := false, tag := "", pkgPath := "", byteOffset := 2 }, { name := "N", type := 21, offset := 3, embedded := false, tag := "", pkgPath := "", byteOffset := 4 }, { name := "S", type := 9, offset := 4, embedded := false, tag := "", pkgPath := "", byteOffset := 8 }, { name := "L", type := 26, offset := 5, embedded := false, tag := "", pkgPath := "", byteOffset := 24 }]), 6, 48, [(Value.int IntKind.u8 0), (Value.int IntKind.u8 0), (Value.int IntKind.u8 0), (Value.int IntKind.i32 0), (Value.string { data := #[] }), (Value.slice none 0 0)], true⟩
theorem ty28_ok : TI.Ok Try.prog 28 ty28 := TI.mk_ok (by kernel_rfl) (by kernel_rfl) rfl rfl
def ty29 : TI := ⟨(TypeDesc.func #[22] #[4] false), 1, 8, [Value.nilFunc], false⟩
theorem ty29_ok : TI.Ok Try.prog 29 ty29 := TI.mk_ok (by kernel_rfl) (by kernel_rfl) rfl rfl
def ty30 : TI := ⟨(TypeDesc.func #[] #[4] false), 1, 8, [Value.nilFunc], false⟩
theorem ty30_ok : TI.Ok Try.prog 30 ty30 := TI.mk_ok (by kernel_rfl) (by kernel_rfl) rfl rfl
def ty31 : TI := ⟨(TypeDesc.int IntKind.i64), 1, 8, [(Value.int IntKind.i64 0)], false⟩
theorem ty31_ok : TI.Ok Try.prog 31 ty31 := TI.mk_ok (by kernel_rfl) (by kernel_rfl) rfl rfl
def ty32 : TI := ⟨(TypeDesc.tuple #[21, 31]), 1, 0, [(Value.tuple #[(Value.int IntKind.i32 0), (Value.int IntKind.i64 0)])], false⟩
theorem ty32_ok : TI.Ok Try.prog 32 ty32 := TI.mk_ok (by kernel_rfl) (by kernel_rfl) rfl rfl
def ty33 : TI := ⟨(TypeDesc.func #[28, 69] #[21, 31] false), 1, 8, [Value.nilFunc], false⟩
theorem ty33_ok : TI.Ok Try.prog 33 ty33 := TI.mk_ok (by kernel_rfl) (by kernel_rfl) rfl rfl
def ty34 : TI := ⟨(TypeDesc.int IntKind.u8), 1, 1, [(Value.int IntKind.u8 0)], false⟩
theorem ty34_ok : TI.Ok Try.prog 34 ty34 := TI.mk_ok (by kernel_rfl) (by kernel_rfl) rfl rfl
def ty35 : TI := ⟨(TypeDesc.slice 37), 1, 24, [(Value.slice none 0 0)], false⟩
theorem ty35_ok : TI.Ok Try.prog 35 ty35 := TI.mk_ok (by kernel_rfl) (by kernel_rfl) rfl rfl
def ty36 : TI := ⟨(TypeDesc.struct #[{ name := "Kind", type := 34, offset := 0, embedded := false, tag := "", pkgPath := "", byteOffset := 0 }, { name := "Oper", type := 24, offset := 1, embedded := false, tag := "", pkgPath := "", byteOffset := 1 }, { name := "To", type := 25, offset := 2, embedded := false, tag := "", pkgPath := "", byteOffset := 2 }, { name := "N", type := 21, offset := 3, embedded := false, tag := "", pkgPath := "", byteOffset := 4 }, { name := "V", type := 3, offset := 4, embedded := false, tag := "", pkgPath := "", byteOffset := 8 }, { name := "L", type := 35, offset := 5, embedded := false, tag := "", pkgPath := "", byteOffset := 16 }]), 6, 40, [(Value.int IntKind.u8 0), (Value.int IntKind.u8 0), (Value.int IntKind.u8 0), (Value.int IntKind.i32 0), (Value.int IntKind.i64 0), (Value.slice none 0 0)], true⟩
theorem ty36_ok : TI.Ok Try.prog 36 ty36 := TI.mk_ok (by kernel_rfl) (by kernel_rfl) rfl rfl
def ty37 : TI := ⟨(TypeDesc.struct #[{ name := "Kind", type := 34, offset := 0, embedded := false, tag := "", pkgPath := "", byteOffset := 0 }, { name := "Oper", type := 24, offset := 1, embedded := false, tag := "", pkgPath := "", byteOffset := 1 }, { name := "To", type := 25, offset := 2, embedded := false, tag := "", pkgPath := "", byteOffset := 2 }, { name := "N", type := 21, offset := 3, embedded := false, tag := "", pkgPath := "", byteOffset := 4 }, { name := "V", type := 3, offset := 4, embedded := false, tag := "", pkgPath := "", byteOffset := 8 }, { name := "L", type := 35, offset := 5, embedded := false, tag := "", pkgPath := "", byteOffset := 16 }]), 6, 40, [(Value.int IntKind.u8 0), (Value.int IntKind.u8 0), (Value.int IntKind.u8 0), (Value.int IntKind.i32 0), (Value.int IntKind.i64 0), (Value.slice none 0 0)], true⟩
theorem ty37_ok : TI.Ok Try.prog 37 ty37 := TI.mk_ok (by kernel_rfl) (by kernel_rfl) rfl rfl
def ty38 : TI := ⟨(TypeDesc.tuple #[37, 4]), 1, 0, [(Value.tuple #[(Value.agg #[(Value.int IntKind.u8 0), (Value.int IntKind.u8 0), (Value.int IntKind.u8 0), (Value.int IntKind.i32 0), (Value.int IntKind.i64 0), (Value.slice none 0 0)]), (Value.bool false)])], false⟩
theorem ty38_ok : TI.Ok Try.prog 38 ty38 := TI.mk_ok (by kernel_rfl) (by kernel_rfl) rfl rfl
def ty39 : TI := ⟨(TypeDesc.func #[28] #[37, 4] false), 1, 8, [Value.nilFunc], false⟩
theorem ty39_ok : TI.Ok Try.prog 39 ty39 := TI.mk_ok (by kernel_rfl) (by kernel_rfl) rfl rfl
def ty40 : TI := ⟨(TypeDesc.func #[22, 37, 21] #[4] false), 1, 8, [Value.nilFunc], false⟩
theorem ty40_ok : TI.Ok Try.prog 40 ty40 := TI.mk_ok (by kernel_rfl) (by kernel_rfl) rfl rfl
def ty41 : TI := ⟨(TypeDesc.func #[22, 28] #[4] false), 1, 8, [Value.nilFunc], false⟩
theorem ty41_ok : TI.Ok Try.prog 41 ty41 := TI.mk_ok (by kernel_rfl) (by kernel_rfl) rfl rfl
def ty42 : TI := ⟨(TypeDesc.slice 21), 1, 24, [(Value.slice none 0 0)], false⟩
theorem ty42_ok : TI.Ok Try.prog 42 ty42 := TI.mk_ok (by kernel_rfl) (by kernel_rfl) rfl rfl
def ty43 : TI := ⟨(TypeDesc.func #[3] #[37] false), 1, 8, [Value.nilFunc], false⟩
theorem ty43_ok : TI.Ok Try.prog 43 ty43 := TI.mk_ok (by kernel_rfl) (by kernel_rfl) rfl rfl
def ty44 : TI := ⟨(TypeDesc.func #[24, 37, 37] #[37] false), 1, 8, [Value.nilFunc], false⟩
theorem ty44_ok : TI.Ok Try.prog 44 ty44 := TI.mk_ok (by kernel_rfl) (by kernel_rfl) rfl rfl
def ty45 : TI := ⟨(TypeDesc.func #[21] #[37] false), 1, 8, [Value.nilFunc], false⟩
theorem ty45_ok : TI.Ok Try.prog 45 ty45 := TI.mk_ok (by kernel_rfl) (by kernel_rfl) rfl rfl
def ty46 : TI := ⟨(TypeDesc.tuple #[3, 3, 4]), 1, 0, [(Value.tuple #[(Value.int IntKind.i64 0), (Value.int IntKind.i64 0), (Value.bool false)])], false⟩
theorem ty46_ok : TI.Ok Try.prog 46 ty46 := TI.mk_ok (by kernel_rfl) (by kernel_rfl) rfl rfl
def ty47 : TI := ⟨(TypeDesc.func #[22, 49] #[3, 3, 4] false), 1, 8, [Value.nilFunc], false⟩
theorem ty47_ok : TI.Ok Try.prog 47 ty47 := TI.mk_ok (by kernel_rfl) (by kernel_rfl) rfl rfl
def ty48 : TI := ⟨(TypeDesc.struct #[{ name := "V", type := 3, offset := 0, embedded := false, tag := "", pkgPath := "", byteOffset := 0 }, { name := "Index", type := 35, offset := 1, embedded := false, tag := "", pkgPath := "", byteOffset := 8 }]), 2, 32, [(Value.int IntKind.i64 0), (Value.slice none 0 0)], true⟩
theorem ty48_ok : TI.Ok Try.prog 48 ty48 := TI.mk_ok (by kernel_rfl) (by kernel_rfl) rfl rfl
def ty49 : TI := ⟨(TypeDesc.struct #[{ name := "V", type := 3, offset := 0, embedded := false, tag := "", pkgPath := "", byteOffset := 0 }, { name := "Index", type := 35, offset := 1, embedded := false, tag := "", pkgPath := "", byteOffset := 8 }]), 2, 32, [(Value.int IntKind.i64 0), (Value.slice none 0 0)], true⟩
theorem ty49_ok : TI.Ok Try.prog 49 ty49 := TI.mk_ok (by kernel_rfl) (by kernel_rfl) rfl rfl
def ty50 : TI := ⟨(TypeDesc.func #[22, 3, 3, 21] #[22] false), 1, 8, [Value.nilFunc], false⟩
theorem ty50_ok : TI.Ok Try.prog 50 ty50 := TI.mk_ok (by kernel_rfl) (by kernel_rfl) rfl rfl
def ty51 : TI := ⟨(TypeDesc.struct #[{ name := "Kind", type := 25, offset := 0, embedded := false, tag := "", pkgPath := "", byteOffset := 0 }, { name := "Dim", type := 3, offset := 1, embedded := false, tag := "", pkgPath := "", byteOffset := 8 }]), 2, 16, [(Value.int IntKind.u8 0), (Value.int IntKind.i64 0)], true⟩
theorem ty51_ok : TI.Ok Try.prog 51 ty51 := TI.mk_ok (by kernel_rfl) (by kernel_rfl) rfl rfl
def ty52 : TI := ⟨(TypeDesc.struct #[{ name := "Kind", type := 25, offset := 0, embedded := false, tag := "", pkgPath := "", byteOffset := 0 }, { name := "Dim", type := 3, offset := 1, embedded := false, tag := "", pkgPath := "", byteOffset := 8 }]), 2, 16, [(Value.int IntKind.u8 0), (Value.int IntKind.i64 0)], true⟩
theorem ty52_ok : TI.Ok Try.prog 52 ty52 := TI.mk_ok (by kernel_rfl) (by kernel_rfl) rfl rfl
def ty53 : TI := ⟨(TypeDesc.slice 52), 1, 24, [(Value.slice none 0 0)], false⟩
theorem ty53_ok : TI.Ok Try.prog 53 ty53 := TI.mk_ok (by kernel_rfl) (by kernel_rfl) rfl rfl
def ty54 : TI := ⟨(TypeDesc.slice 157), 1, 24, [(Value.slice none 0 0)], false⟩
theorem ty54_ok : TI.Ok Try.prog 54 ty54 := TI.mk_ok (by kernel_rfl) (by kernel_rfl) rfl rfl
def ty55 : TI := ⟨(TypeDesc.int IntKind.u8), 1, 1, [(Value.int IntKind.u8 0)], false⟩
theorem ty55_ok : TI.Ok Try.prog 55 ty55 := TI.mk_ok (by kernel_rfl) (by kernel_rfl) rfl rfl
def ty56 : TI := ⟨(TypeDesc.slice 49), 1, 24, [(Value.slice none 0 0)], false⟩
theorem ty56_ok : TI.Ok Try.prog 56 ty56 := TI.mk_ok (by kernel_rfl) (by kernel_rfl) rfl rfl
def ty57 : TI := ⟨(TypeDesc.slice 160), 1, 24, [(Value.slice none 0 0)], false⟩
theorem ty57_ok : TI.Ok Try.prog 57 ty57 := TI.mk_ok (by kernel_rfl) (by kernel_rfl) rfl rfl
def ty58 : TI := ⟨(TypeDesc.slice 60), 1, 24, [(Value.slice none 0 0)], false⟩
theorem ty58_ok : TI.Ok Try.prog 58 ty58 := TI.mk_ok (by kernel_rfl) (by kernel_rfl) rfl rfl
def ty59 : TI := ⟨(TypeDesc.struct #[{ name := "Kind", type := 55, offset := 0, embedded := false, tag := "", pkgPath := "", byteOffset := 0 }, { name := "C", type := 3, offset := 1, embedded := false, tag := "", pkgPath := "", byteOffset := 8 }, { name := "V", type := 3, offset := 2, embedded := false, tag := "", pkgPath := "", byteOffset := 16 }, { name := "Item", type := 25, offset := 3, embedded := false, tag := "", pkgPath := "", byteOffset := 24 }, { name := "To", type := 56, offset := 4, embedded := false, tag := "", pkgPath := "", byteOffset := 32 }, { name := "E", type := 35, offset := 5, embedded := false, tag := "", pkgPath := "", byteOffset := 56 }, { name := "Guards", type := 57, offset := 6, embedded := false, tag := "", pkgPath := "", byteOffset := 80 }, { name := "L", type := 58, offset := 7, embedded := false, tag := "", pkgPath := "", byteOffset := 104 }]), 8, 128, [(Value.int IntKind.u8 0), (Value.int IntKind.i64 0), (Value.int IntKind.i64 0), (Value.int IntKind.u8 0), (Value.slice none 0 0), (Value.slice none 0 0), (Value.slice none 0 0), (Value.slice none 0 0)], true⟩
theorem ty59_ok : TI.Ok Try.prog 59 ty59 := TI.mk_ok (by kernel_rfl) (by kernel_rfl) rfl rfl
def ty60 : TI := ⟨(TypeDesc.struct #[{ name := "Kind", type := 55, offset := 0, embedded := false, tag := "", pkgPath := "", byteOffset := 0 }, { name := "C", type := 3, offset := 1, embedded := false, tag := "", pkgPath := "", byteOffset := 8 }, { name := "V", type := 3, offset := 2, embedded := false, tag := "", pkgPath := "", byteOffset := 16 }, { name := "Item", type := 25, offset := 3, embedded := false, tag := "", pkgPath := "", byteOffset := 24 }, { name := "To", type := 56, offset := 4, embedded := false, tag := "", pkgPath := "", byteOffset := 32 }, { name := "E", type := 35, offset := 5, embedded := false, tag := "", pkgPath := "", byteOffset := 56 }, { name := "Guards", type := 57, offset := 6, embedded := false, tag := "", pkgPath := "", byteOffset := 80 }, { name := "L", type := 58, offset := 7, embedded := false, tag := "", pkgPath := "", byteOffset := 104 }]), 8, 128, [(Value.int IntKind.u8 0), (Value.int IntKind.i64 0), (Value.int IntKind.i64 0), (Value.int IntKind.u8 0), (Value.slice none 0 0), (Value.slice none 0 0), (Value.slice none 0 0), (Value.slice none 0 0)], true⟩
theorem ty60_ok : TI.Ok Try.prog 60 ty60 := TI.mk_ok (by kernel_rfl) (by kernel_rfl) rfl rfl
def ty61 : TI := ⟨(TypeDesc.slice 3), 1, 24, [(Value.slice none 0 0)], false⟩
theorem ty61_ok : TI.Ok Try.prog 61 ty61 := TI.mk_ok (by kernel_rfl) (by kernel_rfl) rfl rfl
def ty62 : TI := ⟨(TypeDesc.struct #[{ name := "Vars", type := 53, offset := 0, embedded := false, tag := "", pkgPath := "", byteOffset := 0 }, { name := "Chans", type := 54, offset := 1, embedded := false, tag := "", pkgPath := "", byteOffset := 24 }, { name := "Root", type := 60, offset := 2, embedded := false, tag := "", pkgPath := "", byteOffset := 48 }, { name := "Procs", type := 61, offset := 10, embedded := false, tag := "", pkgPath := "", byteOffset := 176 }]), 11, 200, [(Value.slice none 0 0), (Value.slice none 0 0), (Value.int IntKind.u8 0), (Value.int IntKind.i64 0), (Value.int IntKind.i64 0), (Value.int IntKind.u8 0), (Value.slice none 0 0), (Value.slice none 0 0), (Value.slice none 0 0), (Value.slice none 0 0), (Value.slice none 0 0)], true⟩
theorem ty62_ok : TI.Ok Try.prog 62 ty62 := TI.mk_ok (by kernel_rfl) (by kernel_rfl) rfl rfl
def ty63 : TI := ⟨(TypeDesc.struct #[{ name := "Vars", type := 53, offset := 0, embedded := false, tag := "", pkgPath := "", byteOffset := 0 }, { name := "Chans", type := 54, offset := 1, embedded := false, tag := "", pkgPath := "", byteOffset := 24 }, { name := "Root", type := 60, offset := 2, embedded := false, tag := "", pkgPath := "", byteOffset := 48 }, { name := "Procs", type := 61, offset := 10, embedded := false, tag := "", pkgPath := "", byteOffset := 176 }]), 11, 200, [(Value.slice none 0 0), (Value.slice none 0 0), (Value.int IntKind.u8 0), (Value.int IntKind.i64 0), (Value.int IntKind.i64 0), (Value.int IntKind.u8 0), (Value.slice none 0 0), (Value.slice none 0 0), (Value.slice none 0 0), (Value.slice none 0 0), (Value.slice none 0 0)], true⟩
theorem ty63_ok : TI.Ok Try.prog 63 ty63 := TI.mk_ok (by kernel_rfl) (by kernel_rfl) rfl rfl
def ty64 : TI := ⟨(TypeDesc.func #[3, 37] #[37] false), 1, 8, [Value.nilFunc], false⟩
theorem ty64_ok : TI.Ok Try.prog 64 ty64 := TI.mk_ok (by kernel_rfl) (by kernel_rfl) rfl rfl
def ty65 : TI := ⟨(TypeDesc.func #[22, 37] #[4] false), 1, 8, [Value.nilFunc], false⟩
theorem ty65_ok : TI.Ok Try.prog 65 ty65 := TI.mk_ok (by kernel_rfl) (by kernel_rfl) rfl rfl
def ty66 : TI := ⟨(TypeDesc.func #[22, 22] #[4] false), 1, 8, [Value.nilFunc], false⟩
theorem ty66_ok : TI.Ok Try.prog 66 ty66 := TI.mk_ok (by kernel_rfl) (by kernel_rfl) rfl rfl
def ty67 : TI := ⟨(TypeDesc.func #[63] #[22] false), 1, 8, [Value.nilFunc], false⟩
theorem ty67_ok : TI.Ok Try.prog 67 ty67 := TI.mk_ok (by kernel_rfl) (by kernel_rfl) rfl rfl
def ty68 : TI := ⟨(TypeDesc.func #[63, 22] #[4] false), 1, 8, [Value.nilFunc], false⟩
theorem ty68_ok : TI.Ok Try.prog 68 ty68 := TI.mk_ok (by kernel_rfl) (by kernel_rfl) rfl rfl
def ty69 : TI := ⟨(TypeDesc.slice 103), 1, 24, [(Value.slice none 0 0)], false⟩
theorem ty69_ok : TI.Ok Try.prog 69 ty69 := TI.mk_ok (by kernel_rfl) (by kernel_rfl) rfl rfl
def ty70 : TI := ⟨(TypeDesc.func #[28] #[4] false), 1, 8, [Value.nilFunc], false⟩
theorem ty70_ok : TI.Ok Try.prog 70 ty70 := TI.mk_ok (by kernel_rfl) (by kernel_rfl) rfl rfl
def ty71 : TI := ⟨(TypeDesc.struct #[{ name := "v", type := 21, offset := 0, embedded := false, tag := "", pkgPath := "transputer/fold", byteOffset := 0 }, { name := "ok", type := 4, offset := 1, embedded := false, tag := "", pkgPath := "transputer/fold", byteOffset := 4 }]), 2, 8, [(Value.int IntKind.i32 0), (Value.bool false)], true⟩
theorem ty71_ok : TI.Ok Try.prog 71 ty71 := TI.mk_ok (by kernel_rfl) (by kernel_rfl) rfl rfl
def ty72 : TI := ⟨(TypeDesc.struct #[{ name := "v", type := 21, offset := 0, embedded := false, tag := "", pkgPath := "transputer/fold", byteOffset := 0 }, { name := "ok", type := 4, offset := 1, embedded := false, tag := "", pkgPath := "transputer/fold", byteOffset := 4 }]), 2, 8, [(Value.int IntKind.i32 0), (Value.bool false)], true⟩
theorem ty72_ok : TI.Ok Try.prog 72 ty72 := TI.mk_ok (by kernel_rfl) (by kernel_rfl) rfl rfl
def ty73 : TI := ⟨(TypeDesc.slice 72), 1, 24, [(Value.slice none 0 0)], false⟩
theorem ty73_ok : TI.Ok Try.prog 73 ty73 := TI.mk_ok (by kernel_rfl) (by kernel_rfl) rfl rfl
def ty74 : TI := ⟨(TypeDesc.struct #[{ name := "env", type := 69, offset := 0, embedded := false, tag := "", pkgPath := "transputer/fold", byteOffset := 0 }, { name := "values", type := 73, offset := 1, embedded := false, tag := "", pkgPath := "transputer/fold", byteOffset := 24 }]), 2, 48, [(Value.slice none 0 0), (Value.slice none 0 0)], true⟩
theorem ty74_ok : TI.Ok Try.prog 74 ty74 := TI.mk_ok (by kernel_rfl) (by kernel_rfl) rfl rfl
def ty75 : TI := ⟨(TypeDesc.struct #[{ name := "env", type := 69, offset := 0, embedded := false, tag := "", pkgPath := "transputer/fold", byteOffset := 0 }, { name := "values", type := 73, offset := 1, embedded := false, tag := "", pkgPath := "transputer/fold", byteOffset := 24 }]), 2, 48, [(Value.slice none 0 0), (Value.slice none 0 0)], true⟩
theorem ty75_ok : TI.Ok Try.prog 75 ty75 := TI.mk_ok (by kernel_rfl) (by kernel_rfl) rfl rfl
def ty76 : TI := ⟨(TypeDesc.func #[69] #[75] false), 1, 8, [Value.nilFunc], false⟩
theorem ty76_ok : TI.Ok Try.prog 76 ty76 := TI.mk_ok (by kernel_rfl) (by kernel_rfl) rfl rfl
def ty77 : TI := ⟨(TypeDesc.func #[28] #[72] false), 1, 8, [Value.nilFunc], false⟩
theorem ty77_ok : TI.Ok Try.prog 77 ty77 := TI.mk_ok (by kernel_rfl) (by kernel_rfl) rfl rfl
def ty78 : TI := ⟨(TypeDesc.tuple #[21, 4]), 1, 0, [(Value.tuple #[(Value.int IntKind.i32 0), (Value.bool false)])], false⟩
theorem ty78_ok : TI.Ok Try.prog 78 ty78 := TI.mk_ok (by kernel_rfl) (by kernel_rfl) rfl rfl
def ty79 : TI := ⟨(TypeDesc.func #[22, 37] #[21, 4] false), 1, 8, [Value.nilFunc], false⟩
theorem ty79_ok : TI.Ok Try.prog 79 ty79 := TI.mk_ok (by kernel_rfl) (by kernel_rfl) rfl rfl
def ty80 : TI := ⟨(TypeDesc.func #[22, 3, 3] #[21, 4] false), 1, 8, [Value.nilFunc], false⟩
theorem ty80_ok : TI.Ok Try.prog 80 ty80 := TI.mk_ok (by kernel_rfl) (by kernel_rfl) rfl rfl
def ty81 : TI := ⟨(TypeDesc.func #[42] #[42] false), 1, 8, [Value.nilFunc], false⟩
theorem ty81_ok : TI.Ok Try.prog 81 ty81 := TI.mk_ok (by kernel_rfl) (by kernel_rfl) rfl rfl
def ty82 : TI := ⟨(TypeDesc.func #[21, 21] #[4] false), 1, 8, [Value.nilFunc], false⟩
theorem ty82_ok : TI.Ok Try.prog 82 ty82 := TI.mk_ok (by kernel_rfl) (by kernel_rfl) rfl rfl
def ty83 : TI := ⟨(TypeDesc.func #[22, 22, 85] #[4] false), 1, 8, [Value.nilFunc], false⟩
theorem ty83_ok : TI.Ok Try.prog 83 ty83 := TI.mk_ok (by kernel_rfl) (by kernel_rfl) rfl rfl
def ty84 : TI := ⟨(TypeDesc.func #[42, 42, 82] #[4] false), 1, 8, [Value.nilFunc], false⟩
theorem ty84_ok : TI.Ok Try.prog 84 ty84 := TI.mk_ok (by kernel_rfl) (by kernel_rfl) rfl rfl
def ty85 : TI := ⟨(TypeDesc.func #[42, 42] #[4] false), 1, 8, [Value.nilFunc], false⟩
theorem ty85_ok : TI.Ok Try.prog 85 ty85 := TI.mk_ok (by kernel_rfl) (by kernel_rfl) rfl rfl
def ty86 : TI := ⟨(TypeDesc.func #[53] #[4] false), 1, 8, [Value.nilFunc], false⟩
theorem ty86_ok : TI.Ok Try.prog 86 ty86 := TI.mk_ok (by kernel_rfl) (by kernel_rfl) rfl rfl
def ty87 : TI := ⟨(TypeDesc.func #[42, 89] #[4] false), 1, 8, [Value.nilFunc], false⟩
theorem ty87_ok : TI.Ok Try.prog 87 ty87 := TI.mk_ok (by kernel_rfl) (by kernel_rfl) rfl rfl
def ty88 : TI := ⟨(TypeDesc.func #[25, 21] #[4] false), 1, 8, [Value.nilFunc], false⟩
theorem ty88_ok : TI.Ok Try.prog 88 ty88 := TI.mk_ok (by kernel_rfl) (by kernel_rfl) rfl rfl
def ty89 : TI := ⟨(TypeDesc.func #[21] #[4] false), 1, 8, [Value.nilFunc], false⟩
theorem ty89_ok : TI.Ok Try.prog 89 ty89 := TI.mk_ok (by kernel_rfl) (by kernel_rfl) rfl rfl
def ty90 : TI := ⟨(TypeDesc.func #[28, 3] #[4] false), 1, 8, [Value.nilFunc], false⟩
theorem ty90_ok : TI.Ok Try.prog 90 ty90 := TI.mk_ok (by kernel_rfl) (by kernel_rfl) rfl rfl
def ty91 : TI := ⟨(TypeDesc.tuple #[3, 4]), 1, 0, [(Value.tuple #[(Value.int IntKind.i64 0), (Value.bool false)])], false⟩
theorem ty91_ok : TI.Ok Try.prog 91 ty91 := TI.mk_ok (by kernel_rfl) (by kernel_rfl) rfl rfl
def ty92 : TI := ⟨(TypeDesc.func #[28] #[3, 4] false), 1, 8, [Value.nilFunc], false⟩
theorem ty92_ok : TI.Ok Try.prog 92 ty92 := TI.mk_ok (by kernel_rfl) (by kernel_rfl) rfl rfl
def ty93 : TI := ⟨(TypeDesc.int IntKind.u8), 1, 1, [(Value.int IntKind.u8 0)], false⟩
theorem ty93_ok : TI.Ok Try.prog 93 ty93 := TI.mk_ok (by kernel_rfl) (by kernel_rfl) rfl rfl
def ty94 : TI := ⟨(TypeDesc.struct #[{ name := "Kind", type := 25, offset := 0, embedded := false, tag := "", pkgPath := "", byteOffset := 0 }, { name := "Dim", type := 3, offset := 1, embedded := false, tag := "", pkgPath := "", byteOffset := 8 }, { name := "Item", type := 25, offset := 2, embedded := false, tag := "", pkgPath := "", byteOffset := 16 }, { name := "Proto", type := 9, offset := 3, embedded := false, tag := "", pkgPath := "", byteOffset := 24 }]), 4, 40, [(Value.int IntKind.u8 0), (Value.int IntKind.i64 0), (Value.int IntKind.u8 0), (Value.string { data := #[] })], true⟩
theorem ty94_ok : TI.Ok Try.prog 94 ty94 := TI.mk_ok (by kernel_rfl) (by kernel_rfl) rfl rfl
def ty95 : TI := ⟨(TypeDesc.struct #[{ name := "Kind", type := 25, offset := 0, embedded := false, tag := "", pkgPath := "", byteOffset := 0 }, { name := "Dim", type := 3, offset := 1, embedded := false, tag := "", pkgPath := "", byteOffset := 8 }, { name := "Item", type := 25, offset := 2, embedded := false, tag := "", pkgPath := "", byteOffset := 16 }, { name := "Proto", type := 9, offset := 3, embedded := false, tag := "", pkgPath := "", byteOffset := 24 }]), 4, 40, [(Value.int IntKind.u8 0), (Value.int IntKind.i64 0), (Value.int IntKind.u8 0), (Value.string { data := #[] })], true⟩
theorem ty95_ok : TI.Ok Try.prog 95 ty95 := TI.mk_ok (by kernel_rfl) (by kernel_rfl) rfl rfl
def ty96 : TI := ⟨(TypeDesc.slice 9), 1, 24, [(Value.slice none 0 0)], false⟩
theorem ty96_ok : TI.Ok Try.prog 96 ty96 := TI.mk_ok (by kernel_rfl) (by kernel_rfl) rfl rfl
def ty97 : TI := ⟨(TypeDesc.slice 163), 1, 24, [(Value.slice none 0 0)], false⟩
theorem ty97_ok : TI.Ok Try.prog 97 ty97 := TI.mk_ok (by kernel_rfl) (by kernel_rfl) rfl rfl
def ty98 : TI := ⟨(TypeDesc.struct #[{ name := "Cases", type := 4, offset := 0, embedded := false, tag := "", pkgPath := "", byteOffset := 0 }, { name := "L", type := 97, offset := 1, embedded := false, tag := "", pkgPath := "", byteOffset := 8 }]), 2, 32, [(Value.bool false), (Value.slice none 0 0)], true⟩
theorem ty98_ok : TI.Ok Try.prog 98 ty98 := TI.mk_ok (by kernel_rfl) (by kernel_rfl) rfl rfl
def ty99 : TI := ⟨(TypeDesc.struct #[{ name := "Cases", type := 4, offset := 0, embedded := false, tag := "", pkgPath := "", byteOffset := 0 }, { name := "L", type := 97, offset := 1, embedded := false, tag := "", pkgPath := "", byteOffset := 8 }]), 2, 32, [(Value.bool false), (Value.slice none 0 0)], true⟩
theorem ty99_ok : TI.Ok Try.prog 99 ty99 := TI.mk_ok (by kernel_rfl) (by kernel_rfl) rfl rfl
def ty100 : TI := ⟨(TypeDesc.slice 165), 1, 24, [(Value.slice none 0 0)], false⟩
theorem ty100_ok : TI.Ok Try.prog 100 ty100 := TI.mk_ok (by kernel_rfl) (by kernel_rfl) rfl rfl
def ty101 : TI := ⟨(TypeDesc.slice 171), 1, 24, [(Value.slice none 0 0)], false⟩
theorem ty101_ok : TI.Ok Try.prog 101 ty101 := TI.mk_ok (by kernel_rfl) (by kernel_rfl) rfl rfl
def ty102 : TI := ⟨(TypeDesc.struct #[{ name := "Kind", type := 93, offset := 0, embedded := false, tag := "", pkgPath := "", byteOffset := 0 }, { name := "Type", type := 95, offset := 1, embedded := false, tag := "", pkgPath := "", byteOffset := 8 }, { name := "Names", type := 96, offset := 5, embedded := false, tag := "", pkgPath := "", byteOffset := 48 }, { name := "E", type := 28, offset := 6, embedded := false, tag := "", pkgPath := "", byteOffset := 72 }, { name := "Proto", type := 99, offset := 12, embedded := false, tag := "", pkgPath := "", byteOffset := 120 }, { name := "Formals", type := 100, offset := 14, embedded := false, tag := "", pkgPath := "", byteOffset := 152 }, { name := "Body", type := 101, offset := 15, embedded := false, tag := "", pkgPath := "", byteOffset := 176 }]), 16, 200, [(Value.int IntKind.u8 0), (Value.int IntKind.u8 0), (Value.int IntKind.i64 0), (Value.int IntKind.u8 0), (Value.string { data := #[] }), (Value.slice none 0 0), (Value.int IntKind.u8 0), (Value.int IntKind.u8 0), (Value.int IntKind.u8 0), (Value.int IntKind.i32 0), (Value.string { data := #[] }), (Value.slice none 0 0), (Value.bool false), (Value.slice none 0 0), (Value.slice none 0 0), (Value.slice none 0 0)], true⟩
theorem ty102_ok : TI.Ok Try.prog 102 ty102 := TI.mk_ok (by kernel_rfl) (by kernel_rfl) rfl rfl
def ty103 : TI := ⟨(TypeDesc.struct #[{ name := "Kind", type := 93, offset := 0, embedded := false, tag := "", pkgPath := "", byteOffset := 0 }, { name := "Type", type := 95, offset := 1, embedded := false, tag := "", pkgPath := "", byteOffset := 8 }, { name := "Names", type := 96, offset := 5, embedded := false, tag := "", pkgPath := "", byteOffset := 48 }, { name := "E", type := 28, offset := 6, embedded := false, tag := "", pkgPath := "", byteOffset := 72 }, { name := "Proto", type := 99, offset := 12, embedded := false, tag := "", pkgPath := "", byteOffset := 120 }, { name := "Formals", type := 100, offset := 14, embedded := false, tag := "", pkgPath := "", byteOffset := 152 }, { name := "Body", type := 101, offset := 15, embedded := false, tag := "", pkgPath := "", byteOffset := 176 }]), 16, 200, [(Value.int IntKind.u8 0), (Value.int IntKind.u8 0), (Value.int IntKind.i64 0), (Value.int IntKind.u8 0), (Value.string { data := #[] }), (Value.slice none 0 0), (Value.int IntKind.u8 0), (Value.int IntKind.u8 0), (Value.int IntKind.u8 0), (Value.int IntKind.i32 0), (Value.string { data := #[] }), (Value.slice none 0 0), (Value.bool false), (Value.slice none 0 0), (Value.slice none 0 0), (Value.slice none 0 0)], true⟩
theorem ty103_ok : TI.Ok Try.prog 103 ty103 := TI.mk_ok (by kernel_rfl) (by kernel_rfl) rfl rfl
def ty104 : TI := ⟨(TypeDesc.func #[3] #[75] false), 1, 8, [Value.nilFunc], false⟩
theorem ty104_ok : TI.Ok Try.prog 104 ty104 := TI.mk_ok (by kernel_rfl) (by kernel_rfl) rfl rfl
def ty105 : TI := ⟨(TypeDesc.func #[9] #[3] false), 1, 8, [Value.nilFunc], false⟩
theorem ty105_ok : TI.Ok Try.prog 105 ty105 := TI.mk_ok (by kernel_rfl) (by kernel_rfl) rfl rfl
def ty106 : TI := ⟨(TypeDesc.func #[] #[72] false), 1, 8, [Value.nilFunc], false⟩
theorem ty106_ok : TI.Ok Try.prog 106 ty106 := TI.mk_ok (by kernel_rfl) (by kernel_rfl) rfl rfl
def ty107 : TI := ⟨(TypeDesc.func #[25, 72] #[72] false), 1, 8, [Value.nilFunc], false⟩
theorem ty107_ok : TI.Ok Try.prog 107 ty107 := TI.mk_ok (by kernel_rfl) (by kernel_rfl) rfl rfl
def ty108 : TI := ⟨(TypeDesc.array 2 21), 2, 8, [(Value.int IntKind.i32 0), (Value.int IntKind.i32 0)], true⟩
theorem ty108_ok : TI.Ok Try.prog 108 ty108 := TI.mk_ok (by kernel_rfl) (by kernel_rfl) rfl rfl
def ty109 : TI := ⟨(TypeDesc.func #[24, 21, 21] #[21, 4] false), 1, 8, [Value.nilFunc], false⟩
theorem ty109_ok : TI.Ok Try.prog 109 ty109 := TI.mk_ok (by kernel_rfl) (by kernel_rfl) rfl rfl
def ty110 : TI := ⟨(TypeDesc.func #[37] #[4] false), 1, 8, [Value.nilFunc], false⟩
theorem ty110_ok : TI.Ok Try.prog 110 ty110 := TI.mk_ok (by kernel_rfl) (by kernel_rfl) rfl rfl
def ty111 : TI := ⟨(TypeDesc.func #[53, 112] #[4] false), 1, 8, [Value.nilFunc], false⟩
theorem ty111_ok : TI.Ok Try.prog 111 ty111 := TI.mk_ok (by kernel_rfl) (by kernel_rfl) rfl rfl
def ty112 : TI := ⟨(TypeDesc.func #[52] #[4] false), 1, 8, [Value.nilFunc], false⟩
theorem ty112_ok : TI.Ok Try.prog 112 ty112 := TI.mk_ok (by kernel_rfl) (by kernel_rfl) rfl rfl
def ty113 : TI := ⟨(TypeDesc.func #[42, 89] #[3] false), 1, 8, [Value.nilFunc], false⟩
theorem ty113_ok : TI.Ok Try.prog 113 ty113 := TI.mk_ok (by kernel_rfl) (by kernel_rfl) rfl rfl
def ty114 : TI := ⟨(TypeDesc.int IntKind.u64), 1, 8, [(Value.int IntKind.u64 0)], false⟩
theorem ty114_ok : TI.Ok Try.prog 114 ty114 := TI.mk_ok (by kernel_rfl) (by kernel_rfl) rfl rfl
def ty115 : TI := ⟨(TypeDesc.func #[9] #[4] false), 1, 8, [Value.nilFunc], false⟩
theorem ty115_ok : TI.Ok Try.prog 115 ty115 := TI.mk_ok (by kernel_rfl) (by kernel_rfl) rfl rfl
def ty116 : TI := ⟨(TypeDesc.func #[25] #[9] false), 1, 8, [Value.nilFunc], false⟩
theorem ty116_ok : TI.Ok Try.prog 116 ty116 := TI.mk_ok (by kernel_rfl) (by kernel_rfl) rfl rfl
def ty117 : TI := ⟨(TypeDesc.func #[127] #[] false), 1, 8, [Value.nilFunc], false⟩
theorem ty117_ok : TI.Ok Try.prog 117 ty117 := TI.mk_ok (by kernel_rfl) (by kernel_rfl) rfl rfl
def ty118 : TI := ⟨(TypeDesc.func #[127] #[] false), 1, 8, [Value.nilFunc], false⟩
theorem ty118_ok : TI.Ok Try.prog 118 ty118 := TI.mk_ok (by kernel_rfl) (by kernel_rfl) rfl rfl
def ty119 : TI := ⟨(TypeDesc.func #[69] #[118] false), 1, 8, [Value.nilFunc], false⟩
theorem ty119_ok : TI.Ok Try.prog 119 ty119 := TI.mk_ok (by kernel_rfl) (by kernel_rfl) rfl rfl
def ty120 : TI := ⟨(TypeDesc.func #[96, 9] #[4] false), 1, 8, [Value.nilFunc], false⟩
theorem ty120_ok : TI.Ok Try.prog 120 ty120 := TI.mk_ok (by kernel_rfl) (by kernel_rfl) rfl rfl
def ty121 : TI := ⟨(TypeDesc.func #[21, 21] #[21] false), 1, 8, [Value.nilFunc], false⟩
theorem ty121_ok : TI.Ok Try.prog 121 ty121 := TI.mk_ok (by kernel_rfl) (by kernel_rfl) rfl rfl
def ty122 : TI := ⟨(TypeDesc.func #[24] #[121] false), 1, 8, [Value.nilFunc], false⟩
theorem ty122_ok : TI.Ok Try.prog 122 ty122 := TI.mk_ok (by kernel_rfl) (by kernel_rfl) rfl rfl
def ty123 : TI := ⟨(TypeDesc.func #[37, 3] #[4] false), 1, 8, [Value.nilFunc], false⟩
theorem ty123_ok : TI.Ok Try.prog 123 ty123 := TI.mk_ok (by kernel_rfl) (by kernel_rfl) rfl rfl
def ty124 : TI := ⟨(TypeDesc.func #[21, 4] #[21, 4] false), 1, 8, [Value.nilFunc], false⟩
theorem ty124_ok : TI.Ok Try.prog 124 ty124 := TI.mk_ok (by kernel_rfl) (by kernel_rfl) rfl rfl
def ty125 : TI := ⟨(TypeDesc.func #[53, 112] #[3] false), 1, 8, [Value.nilFunc], false⟩
theorem ty125_ok : TI.Ok Try.prog 125 ty125 := TI.mk_ok (by kernel_rfl) (by kernel_rfl) rfl rfl
def ty126 : TI := ⟨(TypeDesc.func #[5] #[4] false), 1, 8, [Value.nilFunc], false⟩
theorem ty126_ok : TI.Ok Try.prog 126 ty126 := TI.mk_ok (by kernel_rfl) (by kernel_rfl) rfl rfl
def ty127 : TI := ⟨(TypeDesc.func #[3, 103] #[4] false), 1, 8, [Value.nilFunc], false⟩
theorem ty127_ok : TI.Ok Try.prog 127 ty127 := TI.mk_ok (by kernel_rfl) (by kernel_rfl) rfl rfl
def ty128 : TI := ⟨(TypeDesc.func #[96, 9] #[3] false), 1, 8, [Value.nilFunc], false⟩
theorem ty128_ok : TI.Ok Try.prog 128 ty128 := TI.mk_ok (by kernel_rfl) (by kernel_rfl) rfl rfl
def ty129 : TI := ⟨(TypeDesc.func #[24] #[82] false), 1, 8, [Value.nilFunc], false⟩
theorem ty129_ok : TI.Ok Try.prog 129 ty129 := TI.mk_ok (by kernel_rfl) (by kernel_rfl) rfl rfl
def ty130 : TI := ⟨(TypeDesc.func #[4] #[21] false), 1, 8, [Value.nilFunc], false⟩
theorem ty130_ok : TI.Ok Try.prog 130 ty130 := TI.mk_ok (by kernel_rfl) (by kernel_rfl) rfl rfl
def ty131 : TI := ⟨(TypeDesc.func #[21, 21] #[21, 4] false), 1, 8, [Value.nilFunc], false⟩
theorem ty131_ok : TI.Ok Try.prog 131 ty131 := TI.mk_ok (by kernel_rfl) (by kernel_rfl) rfl rfl
def ty132 : TI := ⟨(TypeDesc.func #[9, 9] #[4] false), 1, 8, [Value.nilFunc], false⟩
theorem ty132_ok : TI.Ok Try.prog 132 ty132 := TI.mk_ok (by kernel_rfl) (by kernel_rfl) rfl rfl
def ty133 : TI := ⟨(TypeDesc.int IntKind.u32), 1, 4, [(Value.int IntKind.u32 0)], false⟩
theorem ty133_ok : TI.Ok Try.prog 133 ty133 := TI.mk_ok (by kernel_rfl) (by kernel_rfl) rfl rfl
def ty134 : TI := ⟨(TypeDesc.func #[135] #[21, 4] false), 1, 8, [Value.nilFunc], false⟩
theorem ty134_ok : TI.Ok Try.prog 134 ty134 := TI.mk_ok (by kernel_rfl) (by kernel_rfl) rfl rfl
def ty135 : TI := ⟨(TypeDesc.int IntKind.u64), 1, 8, [(Value.int IntKind.u64 0)], false⟩
theorem ty135_ok : TI.Ok Try.prog 135 ty135 := TI.mk_ok (by kernel_rfl) (by kernel_rfl) rfl rfl
def ty136 : TI := ⟨(TypeDesc.func #[2] #[21, 4] false), 1, 8, [Value.nilFunc], false⟩
theorem ty136_ok : TI.Ok Try.prog 136 ty136 := TI.mk_ok (by kernel_rfl) (by kernel_rfl) rfl rfl
def ty137 : TI := ⟨(TypeDesc.func #[9, 9] #[3] false), 1, 8, [Value.nilFunc], false⟩
theorem ty137_ok : TI.Ok Try.prog 137 ty137 := TI.mk_ok (by kernel_rfl) (by kernel_rfl) rfl rfl
def ty138 : TI := ⟨(TypeDesc.func #[9, 5] #[3] false), 1, 8, [Value.nilFunc], false⟩
theorem ty138_ok : TI.Ok Try.prog 138 ty138 := TI.mk_ok (by kernel_rfl) (by kernel_rfl) rfl rfl
def ty139 : TI := ⟨(TypeDesc.func #[3] #[3] false), 1, 8, [Value.nilFunc], false⟩
theorem ty139_ok : TI.Ok Try.prog 139 ty139 := TI.mk_ok (by kernel_rfl) (by kernel_rfl) rfl rfl
def ty140 : TI := ⟨(TypeDesc.tuple #[133, 133]), 1, 0, [(Value.tuple #[(Value.int IntKind.u32 0), (Value.int IntKind.u32 0)])], false⟩
theorem ty140_ok : TI.Ok Try.prog 140 ty140 := TI.mk_ok (by kernel_rfl) (by kernel_rfl) rfl rfl
def ty141 : TI := ⟨(TypeDesc.func #[9] #[133, 133] false), 1, 8, [Value.nilFunc], false⟩
theorem ty141_ok : TI.Ok Try.prog 141 ty141 := TI.mk_ok (by kernel_rfl) (by kernel_rfl) rfl rfl
def ty142 : TI := ⟨(TypeDesc.func #[] #[9] false), 1, 8, [Value.nilFunc], false⟩
theorem ty142_ok : TI.Ok Try.prog 142 ty142 := TI.mk_ok (by kernel_rfl) (by kernel_rfl) rfl rfl
def ty148 : TI := ⟨(TypeDesc.func #[] #[3] false), 1, 8, [Value.nilFunc], false⟩
theorem ty148_ok : TI.Ok Try.prog 148 ty148 := TI.mk_ok (by kernel_rfl) (by kernel_rfl) rfl rfl
def ty152 : TI := ⟨(TypeDesc.pointer 5), 1, 8, [(Value.pointer none)], false⟩
theorem ty152_ok : TI.Ok Try.prog 152 ty152 := TI.mk_ok (by kernel_rfl) (by kernel_rfl) rfl rfl
def ty157 : TI := ⟨(TypeDesc.int IntKind.u8), 1, 1, [(Value.int IntKind.u8 0)], false⟩
theorem ty157_ok : TI.Ok Try.prog 157 ty157 := TI.mk_ok (by kernel_rfl) (by kernel_rfl) rfl rfl
def ty158 : TI := ⟨(TypeDesc.int IntKind.u8), 1, 1, [(Value.int IntKind.u8 0)], false⟩
theorem ty158_ok : TI.Ok Try.prog 158 ty158 := TI.mk_ok (by kernel_rfl) (by kernel_rfl) rfl rfl
def ty159 : TI := ⟨(TypeDesc.struct #[{ name := "Kind", type := 158, offset := 0, embedded := false, tag := "", pkgPath := "", byteOffset := 0 }, { name := "Cond", type := 37, offset := 1, embedded := false, tag := "", pkgPath := "", byteOffset := 8 }, { name := "C", type := 3, offset := 7, embedded := false, tag := "", pkgPath := "", byteOffset := 48 }, { name := "Item", type := 25, offset := 8, embedded := false, tag := "", pkgPath := "", byteOffset := 56 }, { name := "To", type := 49, offset := 9, embedded := false, tag := "", pkgPath := "", byteOffset := 64 }, { name := "Time", type := 37, offset := 11, embedded := false, tag := "", pkgPath := "", byteOffset := 96 }, { name := "Body", type := 58, offset := 17, embedded := false, tag := "", pkgPath := "", byteOffset := 136 }]), 18, 160, [(Value.int IntKind.u8 0), (Value.int IntKind.u8 0), (Value.int IntKind.u8 0), (Value.int IntKind.u8 0), (Value.int IntKind.i32 0), (Value.int IntKind.i64 0), (Value.slice none 0 0), (Value.int IntKind.i64 0), (Value.int IntKind.u8 0), (Value.int IntKind.i64 0), (Value.slice none 0 0), (Value.int IntKind.u8 0), (Value.int IntKind.u8 0), (Value.int IntKind.u8 0), (Value.int IntKind.i32 0), (Value.int IntKind.i64 0), (Value.slice none 0 0), (Value.slice none 0 0)], true⟩
theorem ty159_ok : TI.Ok Try.prog 159 ty159 := TI.mk_ok (by kernel_rfl) (by kernel_rfl) rfl rfl
def ty160 : TI := ⟨(TypeDesc.struct #[{ name := "Kind", type := 158, offset := 0, embedded := false, tag := "", pkgPath := "", byteOffset := 0 }, { name := "Cond", type := 37, offset := 1, embedded := false, tag := "", pkgPath := "", byteOffset := 8 }, { name := "C", type := 3, offset := 7, embedded := false, tag := "", pkgPath := "", byteOffset := 48 }, { name := "Item", type := 25, offset := 8, embedded := false, tag := "", pkgPath := "", byteOffset := 56 }, { name := "To", type := 49, offset := 9, embedded := false, tag := "", pkgPath := "", byteOffset := 64 }, { name := "Time", type := 37, offset := 11, embedded := false, tag := "", pkgPath := "", byteOffset := 96 }, { name := "Body", type := 58, offset := 17, embedded := false, tag := "", pkgPath := "", byteOffset := 136 }]), 18, 160, [(Value.int IntKind.u8 0), (Value.int IntKind.u8 0), (Value.int IntKind.u8 0), (Value.int IntKind.u8 0), (Value.int IntKind.i32 0), (Value.int IntKind.i64 0), (Value.slice none 0 0), (Value.int IntKind.i64 0), (Value.int IntKind.u8 0), (Value.int IntKind.i64 0), (Value.slice none 0 0), (Value.int IntKind.u8 0), (Value.int IntKind.u8 0), (Value.int IntKind.u8 0), (Value.int IntKind.i32 0), (Value.int IntKind.i64 0), (Value.slice none 0 0), (Value.slice none 0 0)], true⟩
theorem ty160_ok : TI.Ok Try.prog 160 ty160 := TI.mk_ok (by kernel_rfl) (by kernel_rfl) rfl rfl
def ty161 : TI := ⟨(TypeDesc.slice 25), 1, 24, [(Value.slice none 0 0)], false⟩
theorem ty161_ok : TI.Ok Try.prog 161 ty161 := TI.mk_ok (by kernel_rfl) (by kernel_rfl) rfl rfl
def ty162 : TI := ⟨(TypeDesc.struct #[{ name := "Tag", type := 9, offset := 0, embedded := false, tag := "", pkgPath := "", byteOffset := 0 }, { name := "Items", type := 161, offset := 1, embedded := false, tag := "", pkgPath := "", byteOffset := 16 }]), 2, 40, [(Value.string { data := #[] }), (Value.slice none 0 0)], true⟩
theorem ty162_ok : TI.Ok Try.prog 162 ty162 := TI.mk_ok (by kernel_rfl) (by kernel_rfl) rfl rfl
def ty163 : TI := ⟨(TypeDesc.struct #[{ name := "Tag", type := 9, offset := 0, embedded := false, tag := "", pkgPath := "", byteOffset := 0 }, { name := "Items", type := 161, offset := 1, embedded := false, tag := "", pkgPath := "", byteOffset := 16 }]), 2, 40, [(Value.string { data := #[] }), (Value.slice none 0 0)], true⟩
theorem ty163_ok : TI.Ok Try.prog 163 ty163 := TI.mk_ok (by kernel_rfl) (by kernel_rfl) rfl rfl
def ty164 : TI := ⟨(TypeDesc.struct #[{ name := "Val", type := 4, offset := 0, embedded := false, tag := "", pkgPath := "", byteOffset := 0 }, { name := "Type", type := 95, offset := 1, embedded := false, tag := "", pkgPath := "", byteOffset := 8 }, { name := "Name", type := 9, offset := 5, embedded := false, tag := "", pkgPath := "", byteOffset := 48 }]), 6, 64, [(Value.bool false), (Value.int IntKind.u8 0), (Value.int IntKind.i64 0), (Value.int IntKind.u8 0), (Value.string { data := #[] }), (Value.string { data := #[] })], true⟩
theorem ty164_ok : TI.Ok Try.prog 164 ty164 := TI.mk_ok (by kernel_rfl) (by kernel_rfl) rfl rfl
def ty165 : TI := ⟨(TypeDesc.struct #[{ name := "Val", type := 4, offset := 0, embedded := false, tag := "", pkgPath := "", byteOffset := 0 }, { name := "Type", type := 95, offset := 1, embedded := false, tag := "", pkgPath := "", byteOffset := 8 }, { name := "Name", type := 9, offset := 5, embedded := false, tag := "", pkgPath := "", byteOffset := 48 }]), 6, 64, [(Value.bool false), (Value.int IntKind.u8 0), (Value.int IntKind.i64 0), (Value.int IntKind.u8 0), (Value.string { data := #[] }), (Value.string { data := #[] })], true⟩
theorem ty165_ok : TI.Ok Try.prog 165 ty165 := TI.mk_ok (by kernel_rfl) (by kernel_rfl) rfl rfl
def ty166 : TI := ⟨(TypeDesc.int IntKind.u8), 1, 1, [(Value.int IntKind.u8 0)], false⟩
theorem ty166_ok : TI.Ok Try.prog 166 ty166 := TI.mk_ok (by kernel_rfl) (by kernel_rfl) rfl rfl
def ty167 : TI := ⟨(TypeDesc.struct #[{ name := "Name", type := 9, offset := 0, embedded := false, tag := "", pkgPath := "", byteOffset := 0 }, { name := "Base", type := 28, offset := 1, embedded := false, tag := "", pkgPath := "", byteOffset := 16 }, { name := "Count", type := 28, offset := 7, embedded := false, tag := "", pkgPath := "", byteOffset := 64 }]), 13, 112, [(Value.string { data := #[] }), (Value.int IntKind.u8 0), (Value.int IntKind.u8 0), (Value.int IntKind.u8 0), (Value.int IntKind.i32 0), (Value.string { data := #[] }), (Value.slice none 0 0), (Value.int IntKind.u8 0), (Value.int IntKind.u8 0), (Value.int IntKind.u8 0), (Value.int IntKind.i32 0), (Value.string { data := #[] }), (Value.slice none 0 0)], true⟩
theorem ty167_ok : TI.Ok Try.prog 167 ty167 := TI.mk_ok (by kernel_rfl) (by kernel_rfl) rfl rfl
def ty168 : TI := ⟨(TypeDesc.struct #[{ name := "Name", type := 9, offset := 0, embedded := false, tag := "", pkgPath := "", byteOffset := 0 }, { name := "Base", type := 28, offset := 1, embedded := false, tag := "", pkgPath := "", byteOffset := 16 }, { name := "Count", type := 28, offset := 7, embedded := false, tag := "", pkgPath := "", byteOffset := 64 }]), 13, 112, [(Value.string { data := #[] }), (Value.int IntKind.u8 0), (Value.int IntKind.u8 0), (Value.int IntKind.u8 0), (Value.int IntKind.i32 0), (Value.string { data := #[] }), (Value.slice none 0 0), (Value.int IntKind.u8 0), (Value.int IntKind.u8 0), (Value.int IntKind.u8 0), (Value.int IntKind.i32 0), (Value.string { data := #[] }), (Value.slice none 0 0)], true⟩
theorem ty168_ok : TI.Ok Try.prog 168 ty168 := TI.mk_ok (by kernel_rfl) (by kernel_rfl) rfl rfl
def ty169 : TI := ⟨(TypeDesc.slice 174), 1, 24, [(Value.slice none 0 0)], false⟩
theorem ty169_ok : TI.Ok Try.prog 169 ty169 := TI.mk_ok (by kernel_rfl) (by kernel_rfl) rfl rfl
def ty170 : TI := ⟨(TypeDesc.struct #[{ name := "Kind", type := 166, offset := 0, embedded := false, tag := "", pkgPath := "", byteOffset := 0 }, { name := "Name", type := 9, offset := 1, embedded := false, tag := "", pkgPath := "", byteOffset := 8 }, { name := "Chan", type := 28, offset := 2, embedded := false, tag := "", pkgPath := "", byteOffset := 24 }, { name := "Targets", type := 26, offset := 8, embedded := false, tag := "", pkgPath := "", byteOffset := 72 }, { name := "Exprs", type := 26, offset := 9, embedded := false, tag := "", pkgPath := "", byteOffset := 96 }, { name := "Rep", type := 168, offset := 10, embedded := false, tag := "", pkgPath := "", byteOffset := 120 }, { name := "Guards", type := 169, offset := 23, embedded := false, tag := "", pkgPath := "", byteOffset := 232 }, { name := "L", type := 101, offset := 24, embedded := false, tag := "", pkgPath := "", byteOffset := 256 }, { name := "Procs", type := 61, offset := 25, embedded := false, tag := "", pkgPath := "", byteOffset := 280 }, { name := "Spec", type := 103, offset := 26, embedded := false, tag := "", pkgPath := "", byteOffset := 304 }]), 42, 504, [(Value.int IntKind.u8 0), (Value.string { data := #[] }), (Value.int IntKind.u8 0), (Value.int IntKind.u8 0), (Value.int IntKind.u8 0), (Value.int IntKind.i32 0), (Value.string { data := #[] }), (Value.slice none 0 0), (Value.slice none 0 0), (Value.slice none 0 0), (Value.string { data := #[] }), (Value.int IntKind.u8 0), (Value.int IntKind.u8 0), (Value.int IntKind.u8 0), (Value.int IntKind.i32 0), (Value.string { data := #[] }), (Value.slice none 0 0), (Value.int IntKind.u8 0), (Value.int IntKind.u8 0), (Value.int IntKind.u8 0), (Value.int IntKind.i32 0), (Value.string { data := #[] }), (Value.slice none 0 0), (Value.slice none 0 0), (Value.slice none 0 0), (Value.slice none 0 0), (Value.int IntKind.u8 0), (Value.int IntKind.u8 0), (Value.int IntKind.i64 0), (Value.int IntKind.u8 0), (Value.string { data := #[] }), (Value.slice none 0 0), (Value.int IntKind.u8 0), (Value.int IntKind.u8 0), (Value.int IntKind.u8 0), (Value.int IntKind.i32 0), (Value.string { data := #[] }), (Value.slice none 0 0), (Value.bool false), (Value.slice none 0 0), (Value.slice none 0 0), (Value.slice none 0 0)], true⟩
theorem ty170_ok : TI.Ok Try.prog 170 ty170 := TI.mk_ok (by kernel_rfl) (by kernel_rfl) rfl rfl
def ty171 : TI := ⟨(TypeDesc.struct #[{ name := "Kind", type := 166, offset := 0, embedded := false, tag := "", pkgPath := "", byteOffset := 0 }, { name := "Name", type := 9, offset := 1, embedded := false, tag := "", pkgPath := "", byteOffset := 8 }, { name := "Chan", type := 28, offset := 2, embedded := false, tag := "", pkgPath := "", byteOffset := 24 }, { name := "Targets", type := 26, offset := 8, embedded := false, tag := "", pkgPath := "", byteOffset := 72 }, { name := "Exprs", type := 26, offset := 9, embedded := false, tag := "", pkgPath := "", byteOffset := 96 }, { name := "Rep", type := 168, offset := 10, embedded := false, tag := "", pkgPath := "", byteOffset := 120 }, { name := "Guards", type := 169, offset := 23, embedded := false, tag := "", pkgPath := "", byteOffset := 232 }, { name := "L", type := 101, offset := 24, embedded := false, tag := "", pkgPath := "", byteOffset := 256 }, { name := "Procs", type := 61, offset := 25, embedded := false, tag := "", pkgPath := "", byteOffset := 280 }, { name := "Spec", type := 103, offset := 26, embedded := false, tag := "", pkgPath := "", byteOffset := 304 }]), 42, 504, [(Value.int IntKind.u8 0), (Value.string { data := #[] }), (Value.int IntKind.u8 0), (Value.int IntKind.u8 0), (Value.int IntKind.u8 0), (Value.int IntKind.i32 0), (Value.string { data := #[] }), (Value.slice none 0 0), (Value.slice none 0 0), (Value.slice none 0 0), (Value.string { data := #[] }), (Value.int IntKind.u8 0), (Value.int IntKind.u8 0), (Value.int IntKind.u8 0), (Value.int IntKind.i32 0), (Value.string { data := #[] }), (Value.slice none 0 0), (Value.int IntKind.u8 0), (Value.int IntKind.u8 0), (Value.int IntKind.u8 0), (Value.int IntKind.i32 0), (Value.string { data := #[] }), (Value.slice none 0 0), (Value.slice none 0 0), (Value.slice none 0 0), (Value.slice none 0 0), (Value.int IntKind.u8 0), (Value.int IntKind.u8 0), (Value.int IntKind.i64 0), (Value.int IntKind.u8 0), (Value.string { data := #[] }), (Value.slice none 0 0), (Value.int IntKind.u8 0), (Value.int IntKind.u8 0), (Value.int IntKind.u8 0), (Value.int IntKind.i32 0), (Value.string { data := #[] }), (Value.slice none 0 0), (Value.bool false), (Value.slice none 0 0), (Value.slice none 0 0), (Value.slice none 0 0)], true⟩
theorem ty171_ok : TI.Ok Try.prog 171 ty171 := TI.mk_ok (by kernel_rfl) (by kernel_rfl) rfl rfl
def ty173 : TI := ⟨(TypeDesc.struct #[{ name := "Kind", type := 158, offset := 0, embedded := false, tag := "", pkgPath := "", byteOffset := 0 }, { name := "Name", type := 9, offset := 1, embedded := false, tag := "", pkgPath := "", byteOffset := 8 }, { name := "Cond", type := 28, offset := 2, embedded := false, tag := "", pkgPath := "", byteOffset := 24 }, { name := "Chan", type := 28, offset := 8, embedded := false, tag := "", pkgPath := "", byteOffset := 72 }, { name := "Targets", type := 26, offset := 14, embedded := false, tag := "", pkgPath := "", byteOffset := 120 }, { name := "Values", type := 26, offset := 15, embedded := false, tag := "", pkgPath := "", byteOffset := 144 }, { name := "Time", type := 28, offset := 16, embedded := false, tag := "", pkgPath := "", byteOffset := 168 }, { name := "Body", type := 101, offset := 22, embedded := false, tag := "", pkgPath := "", byteOffset := 216 }]), 23, 240, [(Value.int IntKind.u8 0), (Value.string { data := #[] }), (Value.int IntKind.u8 0), (Value.int IntKind.u8 0), (Value.int IntKind.u8 0), (Value.int IntKind.i32 0), (Value.string { data := #[] }), (Value.slice none 0 0), (Value.int IntKind.u8 0), (Value.int IntKind.u8 0), (Value.int IntKind.u8 0), (Value.int IntKind.i32 0), (Value.string { data := #[] }), (Value.slice none 0 0), (Value.slice none 0 0), (Value.slice none 0 0), (Value.int IntKind.u8 0), (Value.int IntKind.u8 0), (Value.int IntKind.u8 0), (Value.int IntKind.i32 0), (Value.string { data := #[] }), (Value.slice none 0 0), (Value.slice none 0 0)], true⟩
theorem ty173_ok : TI.Ok Try.prog 173 ty173 := TI.mk_ok (by kernel_rfl) (by kernel_rfl) rfl rfl
def ty174 : TI := ⟨(TypeDesc.struct #[{ name := "Kind", type := 158, offset := 0, embedded := false, tag := "", pkgPath := "", byteOffset := 0 }, { name := "Name", type := 9, offset := 1, embedded := false, tag := "", pkgPath := "", byteOffset := 8 }, { name := "Cond", type := 28, offset := 2, embedded := false, tag := "", pkgPath := "", byteOffset := 24 }, { name := "Chan", type := 28, offset := 8, embedded := false, tag := "", pkgPath := "", byteOffset := 72 }, { name := "Targets", type := 26, offset := 14, embedded := false, tag := "", pkgPath := "", byteOffset := 120 }, { name := "Values", type := 26, offset := 15, embedded := false, tag := "", pkgPath := "", byteOffset := 144 }, { name := "Time", type := 28, offset := 16, embedded := false, tag := "", pkgPath := "", byteOffset := 168 }, { name := "Body", type := 101, offset := 22, embedded := false, tag := "", pkgPath := "", byteOffset := 216 }]), 23, 240, [(Value.int IntKind.u8 0), (Value.string { data := #[] }), (Value.int IntKind.u8 0), (Value.int IntKind.u8 0), (Value.int IntKind.u8 0), (Value.int IntKind.i32 0), (Value.string { data := #[] }), (Value.slice none 0 0), (Value.int IntKind.u8 0), (Value.int IntKind.u8 0), (Value.int IntKind.u8 0), (Value.int IntKind.i32 0), (Value.string { data := #[] }), (Value.slice none 0 0), (Value.slice none 0 0), (Value.slice none 0 0), (Value.int IntKind.u8 0), (Value.int IntKind.u8 0), (Value.int IntKind.u8 0), (Value.int IntKind.i32 0), (Value.string { data := #[] }), (Value.slice none 0 0), (Value.slice none 0 0)], true⟩
theorem ty174_ok : TI.Ok Try.prog 174 ty174 := TI.mk_ok (by kernel_rfl) (by kernel_rfl) rfl rfl
def tt : TT := (.node 86 ty86 (.node 48 ty48 (.node 29 ty29 (.node 20 ty20 (.node 4 ty4 (.node 2 ty2 (.node 1 ty1 (.node 0 ty0 .leaf .leaf) .leaf) (.node 3 ty3 .leaf .leaf)) (.node 12 ty12 (.node 9 ty9 (.node 5 ty5 .leaf .leaf) .leaf) (.node 13 ty13 .leaf .leaf))) (.node 25 ty25 (.node 23 ty23 (.node 22 ty22 (.node 21 ty21 .leaf .leaf) .leaf) (.node 24 ty24 .leaf .leaf)) (.node 27 ty27 (.node 26 ty26 .leaf .leaf) (.node 28 ty28 .leaf .leaf)))) (.node 39 ty39 (.node 34 ty34 (.node 32 ty32 (.node 31 ty31 (.node 30 ty30 .leaf .leaf) .leaf) (.node 33 ty33 .leaf .leaf)) (.node 37 ty37 (.node 36 ty36 (.node 35 ty35 .leaf .leaf) .leaf) (.node 38 ty38 .leaf .leaf))) (.node 44 ty44 (.node 42 ty42 (.node 41 ty41 (.node 40 ty40 .leaf .leaf) .leaf) (.node 43 ty43 .leaf .leaf)) (.node 46 ty46 (.node 45 ty45 .leaf .leaf) (.node 47 ty47 .leaf .leaf))))) (.node 67 ty67 (.node 58 ty58 (.node 53 ty53 (.node 51 ty51 (.node 50 ty50 (.node 49 ty49 .leaf .leaf) .leaf) (.node 52 ty52 .leaf .leaf)) (.node 56 ty56 (.node 55 ty55 (.node 54 ty54 .leaf .leaf) .leaf) (.node 57 ty57 .leaf .leaf))) (.node 63 ty63 (.node 61 ty61 (.node 60 ty60 (.node 59 ty59 .leaf .leaf) .leaf) (.node 62 ty62 .leaf .leaf)) (.node 65 ty65 (.node 64 ty64 .leaf .leaf) (.node 66 ty66 .leaf .leaf)))) (.node 77 ty77 (.node 72 ty72 (.node 70 ty70 (.node 69 ty69 (.node 68 ty68 .leaf .leaf) .leaf) (.node 71 ty71 .leaf .leaf)) (.node 75 ty75 (.node 74 ty74 (.node 73 ty73 .leaf .leaf) .leaf) (.node 76 ty76 .leaf .leaf))) (.node 82 ty82 (.node 80 ty80 (.node 79 ty79 (.node 78 ty78 .leaf .leaf) .leaf) (.node 81 ty81 .leaf .leaf)) (.node 84 ty84 (.node 83 ty83 .leaf .leaf) (.node 85 ty85 .leaf .leaf)))))) (.node 124 ty124 (.node 105 ty105 (.node 96 ty96 (.node 91 ty91 (.node 89 ty89 (.node 88 ty88 (.node 87 ty87 .leaf .leaf) .leaf) (.node 90 ty90 .leaf .leaf)) (.node 94 ty94 (.node 93 ty93 (.node 92 ty92 .leaf .leaf) .leaf) (.node 95 ty95 .leaf .leaf))) (.node 101 ty101 (.node 99 ty99 (.node 98 ty98 (.node 97 ty97 .leaf .leaf) .leaf) (.node 100 ty100 .leaf .leaf)) (.node 103 ty103 (.node 102 ty102 .leaf .leaf) (.node 104 ty104 .leaf .leaf)))) (.node 115 ty115 (.node 110 ty110 (.node 108 ty108 (.node 107 ty107 (.node 106 ty106 .leaf .leaf) .leaf) (.node 109 ty109 .leaf .leaf)) (.node 113 ty113 (.node 112 ty112 (.node 111 ty111 .leaf .leaf) .leaf) (.node 114 ty114 .leaf .leaf))) (.node 120 ty120 (.node 118 ty118 (.node 117 ty117 (.node 116 ty116 .leaf .leaf) .leaf) (.node 119 ty119 .leaf .leaf)) (.node 122 ty122 (.node 121 ty121 .leaf .leaf) (.node 123 ty123 .leaf .leaf))))) (.node 148 ty148 (.node 134 ty134 (.node 129 ty129 (.node 127 ty127 (.node 126 ty126 (.node 125 ty125 .leaf .leaf) .leaf) (.node 128 ty128 .leaf .leaf)) (.node 132 ty132 (.node 131 ty131 (.node 130 ty130 .leaf .leaf) .leaf) (.node 133 ty133 .leaf .leaf))) (.node 139 ty139 (.node 137 ty137 (.node 136 ty136 (.node 135 ty135 .leaf .leaf) .leaf) (.node 138 ty138 .leaf .leaf)) (.node 141 ty141 (.node 140 ty140 .leaf .leaf) (.node 142 ty142 .leaf .leaf)))) (.node 165 ty165 (.node 160 ty160 (.node 158 ty158 (.node 157 ty157 (.node 152 ty152 .leaf .leaf) .leaf) (.node 159 ty159 .leaf .leaf)) (.node 163 ty163 (.node 162 ty162 (.node 161 ty161 .leaf .leaf) .leaf) (.node 164 ty164 .leaf .leaf))) (.node 170 ty170 (.node 168 ty168 (.node 167 ty167 (.node 166 ty166 .leaf .leaf) .leaf) (.node 169 ty169 .leaf .leaf)) (.node 173 ty173 (.node 171 ty171 .leaf .leaf) (.node 174 ty174 .leaf .leaf)))))))
theorem tt_ok : tt.Ok Try.prog := ⟨ty86_ok, ⟨ty48_ok, ⟨ty29_ok, ⟨ty20_ok, ⟨ty4_ok, ⟨ty2_ok, ⟨ty1_ok, ⟨ty0_ok, trivial, trivial⟩, trivial⟩, ⟨ty3_ok, trivial, trivial⟩⟩, ⟨ty12_ok, ⟨ty9_ok, ⟨ty5_ok, trivial, trivial⟩, trivial⟩, ⟨ty13_ok, trivial, trivial⟩⟩⟩, ⟨ty25_ok, ⟨ty23_ok, ⟨ty22_ok, ⟨ty21_ok, trivial, trivial⟩, trivial⟩, ⟨ty24_ok, trivial, trivial⟩⟩, ⟨ty27_ok, ⟨ty26_ok, trivial, trivial⟩, ⟨ty28_ok, trivial, trivial⟩⟩⟩⟩, ⟨ty39_ok, ⟨ty34_ok, ⟨ty32_ok, ⟨ty31_ok, ⟨ty30_ok, trivial, trivial⟩, trivial⟩, ⟨ty33_ok, trivial, trivial⟩⟩, ⟨ty37_ok, ⟨ty36_ok, ⟨ty35_ok, trivial, trivial⟩, trivial⟩, ⟨ty38_ok, trivial, trivial⟩⟩⟩, ⟨ty44_ok, ⟨ty42_ok, ⟨ty41_ok, ⟨ty40_ok, trivial, trivial⟩, trivial⟩, ⟨ty43_ok, trivial, trivial⟩⟩, ⟨ty46_ok, ⟨ty45_ok, trivial, trivial⟩, ⟨ty47_ok, trivial, trivial⟩⟩⟩⟩⟩, ⟨ty67_ok, ⟨ty58_ok, ⟨ty53_ok, ⟨ty51_ok, ⟨ty50_ok, ⟨ty49_ok, trivial, trivial⟩, trivial⟩, ⟨ty52_ok, trivial, trivial⟩⟩, ⟨ty56_ok, ⟨ty55_ok, ⟨ty54_ok, trivial, trivial⟩, trivial⟩, ⟨ty57_ok, trivial, trivial⟩⟩⟩, ⟨ty63_ok, ⟨ty61_ok, ⟨ty60_ok, ⟨ty59_ok, trivial, trivial⟩, trivial⟩, ⟨ty62_ok, trivial, trivial⟩⟩, ⟨ty65_ok, ⟨ty64_ok, trivial, trivial⟩, ⟨ty66_ok, trivial, trivial⟩⟩⟩⟩, ⟨ty77_ok, ⟨ty72_ok, ⟨ty70_ok, ⟨ty69_ok, ⟨ty68_ok, trivial, trivial⟩, trivial⟩, ⟨ty71_ok, trivial, trivial⟩⟩, ⟨ty75_ok, ⟨ty74_ok, ⟨ty73_ok, trivial, trivial⟩, trivial⟩, ⟨ty76_ok, trivial, trivial⟩⟩⟩, ⟨ty82_ok, ⟨ty80_ok, ⟨ty79_ok, ⟨ty78_ok, trivial, trivial⟩, trivial⟩, ⟨ty81_ok, trivial, trivial⟩⟩, ⟨ty84_ok, ⟨ty83_ok, trivial, trivial⟩, ⟨ty85_ok, trivial, trivial⟩⟩⟩⟩⟩⟩, ⟨ty124_ok, ⟨ty105_ok, ⟨ty96_ok, ⟨ty91_ok, ⟨ty89_ok, ⟨ty88_ok, ⟨ty87_ok, trivial, trivial⟩, trivial⟩, ⟨ty90_ok, trivial, trivial⟩⟩, ⟨ty94_ok, ⟨ty93_ok, ⟨ty92_ok, trivial, trivial⟩, trivial⟩, ⟨ty95_ok, trivial, trivial⟩⟩⟩, ⟨ty101_ok, ⟨ty99_ok, ⟨ty98_ok, ⟨ty97_ok, trivial, trivial⟩, trivial⟩, ⟨ty100_ok, trivial, trivial⟩⟩, ⟨ty103_ok, ⟨ty102_ok, trivial, trivial⟩, ⟨ty104_ok, trivial, trivial⟩⟩⟩⟩, ⟨ty115_ok, ⟨ty110_ok, ⟨ty108_ok, ⟨ty107_ok, ⟨ty106_ok, trivial, trivial⟩, trivial⟩, ⟨ty109_ok, trivial, trivial⟩⟩, ⟨ty113_ok, ⟨ty112_ok, ⟨ty111_ok, trivial, trivial⟩, trivial⟩, ⟨ty114_ok, trivial, trivial⟩⟩⟩, ⟨ty120_ok, ⟨ty118_ok, ⟨ty117_ok, ⟨ty116_ok, trivial, trivial⟩, trivial⟩, ⟨ty119_ok, trivial, trivial⟩⟩, ⟨ty122_ok, ⟨ty121_ok, trivial, trivial⟩, ⟨ty123_ok, trivial, trivial⟩⟩⟩⟩⟩, ⟨ty148_ok, ⟨ty134_ok, ⟨ty129_ok, ⟨ty127_ok, ⟨ty126_ok, ⟨ty125_ok, trivial, trivial⟩, trivial⟩, ⟨ty128_ok, trivial, trivial⟩⟩, ⟨ty132_ok, ⟨ty131_ok, ⟨ty130_ok, trivial, trivial⟩, trivial⟩, ⟨ty133_ok, trivial, trivial⟩⟩⟩, ⟨ty139_ok, ⟨ty137_ok, ⟨ty136_ok, ⟨ty135_ok, trivial, trivial⟩, trivial⟩, ⟨ty138_ok, trivial, trivial⟩⟩, ⟨ty141_ok, ⟨ty140_ok, trivial, trivial⟩, ⟨ty142_ok, trivial, trivial⟩⟩⟩⟩, ⟨ty165_ok, ⟨ty160_ok, ⟨ty158_ok, ⟨ty157_ok, ⟨ty152_ok, trivial, trivial⟩, trivial⟩, ⟨ty159_ok, trivial, trivial⟩⟩, ⟨ty163_ok, ⟨ty162_ok, ⟨ty161_ok, trivial, trivial⟩, trivial⟩, ⟨ty164_ok, trivial, trivial⟩⟩⟩, ⟨ty170_ok, ⟨ty168_ok, ⟨ty167_ok, ⟨ty166_ok, trivial, trivial⟩, trivial⟩, ⟨ty169_ok, trivial, trivial⟩⟩, ⟨ty173_ok, ⟨ty171_ok, trivial, trivial⟩, ⟨ty174_ok, trivial, trivial⟩⟩⟩⟩⟩⟩⟩
end Go.Proofs.Ytbdjbmbghfbenaa
