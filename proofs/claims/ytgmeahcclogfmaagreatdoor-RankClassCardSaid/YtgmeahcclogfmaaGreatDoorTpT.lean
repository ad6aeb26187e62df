/-
  The table of this seat's types, by program (tt.py), each row against the loaded program.
-/
import Derived.Test.YtgmeahcclogfmaaGreatDoorLa
import Derived.Test.YtgmeahcclogfmaaGreatDoorChecked
namespace Go.Proofs.YtgmeahcclogfmaaGreatDoor
open Go Go.Tp
set_option maxRecDepth 100000
set_option linter.unusedSimpArgs false
def ty0 : TI := ⟨(TypeDesc.tuple #[]), 1, 0, [(Value.tuple #[])], false⟩
theorem ty0_ok : TI.Ok Tryz.prog 0 ty0 := TI.mk_ok (by kernel_rfl) (by kernel_rfl) rfl rfl
def ty1 : TI := ⟨(TypeDesc.func #[] #[] false), 1, 8, [Value.nilFunc], false⟩
theorem ty1_ok : TI.Ok Tryz.prog 1 ty1 := TI.mk_ok (by kernel_rfl) (by kernel_rfl) rfl rfl
def ty2 : TI := ⟨(TypeDesc.int IntKind.i64), 1, 8, [(Value.int IntKind.i64 0)], false⟩
theorem ty2_ok : TI.Ok Tryz.prog 2 ty2 := TI.mk_ok (by kernel_rfl) (by kernel_rfl) rfl rfl
def ty3 : TI := ⟨(TypeDesc.int IntKind.i64), 1, 8, [(Value.int IntKind.i64 0)], false⟩
theorem ty3_ok : TI.Ok Tryz.prog 3 ty3 := TI.mk_ok (by kernel_rfl) (by kernel_rfl) rfl rfl
def ty4 : TI := ⟨TypeDesc.bool, 1, 1, [(Value.bool false)], false⟩
theorem ty4_ok : TI.Ok Tryz.prog 4 ty4 := TI.mk_ok (by kernel_rfl) (by kernel_rfl) rfl rfl
def ty5 : TI := ⟨(TypeDesc.int IntKind.u8), 1, 1, [(Value.int IntKind.u8 0)], false⟩
theorem ty5_ok : TI.Ok Tryz.prog 5 ty5 := TI.mk_ok (by kernel_rfl) (by kernel_rfl) rfl rfl
def ty9 : TI := ⟨TypeDesc.string, 1, 16, [(Value.string { data := #[] })], false⟩
theorem ty9_ok : TI.Ok Tryz.prog 9 ty9 := TI.mk_ok (by kernel_rfl) (by kernel_rfl) rfl rfl
def ty12 : TI := ⟨(TypeDesc.int IntKind.u64), 1, 8, [(Value.int IntKind.u64 0)], false⟩
theorem ty12_ok : TI.Ok Tryz.prog 12 ty12 := TI.mk_ok (by kernel_rfl) (by kernel_rfl) rfl rfl
def ty13 : TI := ⟨(TypeDesc.struct #[{ name := "msg", type := 9, offset := 0, embedded := false, tag := "", pkgPath := "runtime", byteOffset := 0 }, { name := "addr", type := 12, offset := 1, embedded := false, tag := "", pkgPath := "runtime", byteOffset := 16 }]), 2, 24, [(Value.string { data := #[] }), (Value.int IntKind.u64 0)], true⟩
theorem ty13_ok : TI.Ok Tryz.prog 13 ty13 := TI.mk_ok (by kernel_rfl) (by kernel_rfl) rfl rfl
def ty20 : TI := ⟨(TypeDesc.interface #[]), 1, 16, [Value.nilIface], false⟩
theorem ty20_ok : TI.Ok Tryz.prog 20 ty20 := TI.mk_ok (by kernel_rfl) (by kernel_rfl) rfl rfl
def ty21 : TI := ⟨(TypeDesc.int IntKind.i32), 1, 4, [(Value.int IntKind.i32 0)], false⟩
theorem ty21_ok : TI.Ok Tryz.prog 21 ty21 := TI.mk_ok (by kernel_rfl) (by kernel_rfl) rfl rfl
def ty22 : TI := ⟨(TypeDesc.slice 87), 1, 24, [(Value.slice none 0 0)], false⟩
theorem ty22_ok : TI.Ok Tryz.prog 22 ty22 := TI.mk_ok (by kernel_rfl) (by kernel_rfl) rfl rfl
def ty23 : TI := ⟨(TypeDesc.slice 89), 1, 24, [(Value.slice none 0 0)], false⟩
theorem ty23_ok : TI.Ok Tryz.prog 23 ty23 := TI.mk_ok (by kernel_rfl) (by kernel_rfl) rfl rfl
def ty24 : TI := ⟨(TypeDesc.int IntKind.u8), 1, 1, [(Value.int IntKind.u8 0)], false⟩
theorem ty24_ok : TI.Ok Tryz.prog 24 ty24 := TI.mk_ok (by kernel_rfl) (by kernel_rfl) rfl rfl
def ty25 : TI := ⟨(TypeDesc.int IntKind.u8), 1, 1, [(Value.int IntKind.u8 0)], false⟩
theorem ty25_ok : TI.Ok Tryz.prog 25 ty25 := TI.mk_ok (by kernel_rfl) (by kernel_rfl) rfl rfl
def ty26 : TI := ⟨(TypeDesc.slice 50), 1, 24, [(Value.slice none 0 0)], false⟩
theorem ty26_ok : TI.Ok Tryz.prog 26 ty26 := TI.mk_ok (by kernel_rfl) (by kernel_rfl) rfl rfl
def ty27 : TI := ⟨(TypeDesc.slice 48), 1, 24, [(Value.slice none 0 0)], false⟩
theorem ty27_ok : TI.Ok Tryz.prog 27 ty27 := TI.mk_ok (by kernel_rfl) (by kernel_rfl) rfl rfl
def ty28 : TI := ⟨(TypeDesc.slice 52), 1, 24, [(Value.slice none 0 0)], false⟩
theorem ty28_ok : TI.Ok Tryz.prog 28 ty28 := TI.mk_ok (by kernel_rfl) (by kernel_rfl) rfl rfl
def ty29 : TI := ⟨(TypeDesc.slice 31), 1, 24, [(Value.slice none 0 0)], false⟩
theorem ty29_ok : TI.Ok Tryz.prog 29 ty29 := TI.mk_ok (by kernel_rfl) (by kernel_rfl) rfl rfl
def ty30 : TI := ⟨(TypeDesc.struct #[{ name := "Kind", type := 24, offset := 0, embedded := false, tag := "", pkgPath := "", byteOffset := 0 }, { name := "C", type := 3, offset := 1, embedded := false, tag := "", pkgPath := "", byteOffset := 8 }, { name := "V", type := 3, offset := 2, embedded := false, tag := "", pkgPath := "", byteOffset := 16 }, { name := "Item", type := 25, offset := 3, embedded := false, tag := "", pkgPath := "", byteOffset := 24 }, { name := "To", type := 26, offset := 4, embedded := false, tag := "", pkgPath := "", byteOffset := 32 }, { name := "E", type := 27, offset := 5, embedded := false, tag := "", pkgPath := "", byteOffset := 56 }, { name := "Guards", type := 28, offset := 6, embedded := false, tag := "", pkgPath := "", byteOffset := 80 }, { name := "L", type := 29, offset := 7, embedded := false, tag := "", pkgPath := "", byteOffset := 104 }]), 8, 128, [(Value.int IntKind.u8 0), (Value.int IntKind.i64 0), (Value.int IntKind.i64 0), (Value.int IntKind.u8 0), (Value.slice none 0 0), (Value.slice none 0 0), (Value.slice none 0 0), (Value.slice none 0 0)], true⟩
theorem ty30_ok : TI.Ok Tryz.prog 30 ty30 := TI.mk_ok (by kernel_rfl) (by kernel_rfl) rfl rfl
def ty31 : TI := ⟨(TypeDesc.struct #[{ name := "Kind", type := 24, offset := 0, embedded := false, tag := "", pkgPath := "", byteOffset := 0 }, { name := "C", type := 3, offset := 1, embedded := false, tag := "", pkgPath := "", byteOffset := 8 }, { name := "V", type := 3, offset := 2, embedded := false, tag := "", pkgPath := "", byteOffset := 16 }, { name := "Item", type := 25, offset := 3, embedded := false, tag := "", pkgPath := "", byteOffset := 24 }, { name := "To", type := 26, offset := 4, embedded := false, tag := "", pkgPath := "", byteOffset := 32 }, { name := "E", type := 27, offset := 5, embedded := false, tag := "", pkgPath := "", byteOffset := 56 }, { name := "Guards", type := 28, offset := 6, embedded := false, tag := "", pkgPath := "", byteOffset := 80 }, { name := "L", type := 29, offset := 7, embedded := false, tag := "", pkgPath := "", byteOffset := 104 }]), 8, 128, [(Value.int IntKind.u8 0), (Value.int IntKind.i64 0), (Value.int IntKind.i64 0), (Value.int IntKind.u8 0), (Value.slice none 0 0), (Value.slice none 0 0), (Value.slice none 0 0), (Value.slice none 0 0)], true⟩
theorem ty31_ok : TI.Ok Tryz.prog 31 ty31 := TI.mk_ok (by kernel_rfl) (by kernel_rfl) rfl rfl
def ty32 : TI := ⟨(TypeDesc.slice 3), 1, 24, [(Value.slice none 0 0)], false⟩
theorem ty32_ok : TI.Ok Tryz.prog 32 ty32 := TI.mk_ok (by kernel_rfl) (by kernel_rfl) rfl rfl
def ty33 : TI := ⟨(TypeDesc.struct #[{ name := "Vars", type := 22, offset := 0, embedded := false, tag := "", pkgPath := "", byteOffset := 0 }, { name := "Chans", type := 23, offset := 1, embedded := false, tag := "", pkgPath := "", byteOffset := 24 }, { name := "Root", type := 31, offset := 2, embedded := false, tag := "", pkgPath := "", byteOffset := 48 }, { name := "Procs", type := 32, offset := 10, embedded := false, tag := "", pkgPath := "", byteOffset := 176 }]), 11, 200, [(Value.slice none 0 0), (Value.slice none 0 0), (Value.int IntKind.u8 0), (Value.int IntKind.i64 0), (Value.int IntKind.i64 0), (Value.int IntKind.u8 0), (Value.slice none 0 0), (Value.slice none 0 0), (Value.slice none 0 0), (Value.slice none 0 0), (Value.slice none 0 0)], true⟩
theorem ty33_ok : TI.Ok Tryz.prog 33 ty33 := TI.mk_ok (by kernel_rfl) (by kernel_rfl) rfl rfl
def ty34 : TI := ⟨(TypeDesc.struct #[{ name := "Vars", type := 22, offset := 0, embedded := false, tag := "", pkgPath := "", byteOffset := 0 }, { name := "Chans", type := 23, offset := 1, embedded := false, tag := "", pkgPath := "", byteOffset := 24 }, { name := "Root", type := 31, offset := 2, embedded := false, tag := "", pkgPath := "", byteOffset := 48 }, { name := "Procs", type := 32, offset := 10, embedded := false, tag := "", pkgPath := "", byteOffset := 176 }]), 11, 200, [(Value.slice none 0 0), (Value.slice none 0 0), (Value.int IntKind.u8 0), (Value.int IntKind.i64 0), (Value.int IntKind.i64 0), (Value.int IntKind.u8 0), (Value.slice none 0 0), (Value.slice none 0 0), (Value.slice none 0 0), (Value.slice none 0 0), (Value.slice none 0 0)], true⟩
theorem ty34_ok : TI.Ok Tryz.prog 34 ty34 := TI.mk_ok (by kernel_rfl) (by kernel_rfl) rfl rfl
def ty35 : TI := ⟨(TypeDesc.func #[31] #[3] false), 1, 8, [Value.nilFunc], false⟩
theorem ty35_ok : TI.Ok Tryz.prog 35 ty35 := TI.mk_ok (by kernel_rfl) (by kernel_rfl) rfl rfl
def ty36 : TI := ⟨(TypeDesc.func #[] #[4] false), 1, 8, [Value.nilFunc], false⟩
theorem ty36_ok : TI.Ok Tryz.prog 36 ty36 := TI.mk_ok (by kernel_rfl) (by kernel_rfl) rfl rfl
def ty37 : TI := ⟨(TypeDesc.slice 53), 1, 24, [(Value.slice none 0 0)], false⟩
theorem ty37_ok : TI.Ok Tryz.prog 37 ty37 := TI.mk_ok (by kernel_rfl) (by kernel_rfl) rfl rfl
def ty38 : TI := ⟨(TypeDesc.struct #[{ name := "Chans", type := 3, offset := 0, embedded := false, tag := "", pkgPath := "", byteOffset := 0 }, { name := "Procs", type := 37, offset := 1, embedded := false, tag := "", pkgPath := "", byteOffset := 8 }]), 2, 32, [(Value.int IntKind.i64 0), (Value.slice none 0 0)], true⟩
theorem ty38_ok : TI.Ok Tryz.prog 38 ty38 := TI.mk_ok (by kernel_rfl) (by kernel_rfl) rfl rfl
def ty39 : TI := ⟨(TypeDesc.struct #[{ name := "Chans", type := 3, offset := 0, embedded := false, tag := "", pkgPath := "", byteOffset := 0 }, { name := "Procs", type := 37, offset := 1, embedded := false, tag := "", pkgPath := "", byteOffset := 8 }]), 2, 32, [(Value.int IntKind.i64 0), (Value.slice none 0 0)], true⟩
theorem ty39_ok : TI.Ok Tryz.prog 39 ty39 := TI.mk_ok (by kernel_rfl) (by kernel_rfl) rfl rfl
def ty40 : TI := ⟨(TypeDesc.tuple #[39, 4]), 1, 0, [(Value.tuple #[(Value.agg #[(Value.int IntKind.i64 0), (Value.slice none 0 0)]), (Value.bool false)])], false⟩
theorem ty40_ok : TI.Ok Tryz.prog 40 ty40 := TI.mk_ok (by kernel_rfl) (by kernel_rfl) rfl rfl
def ty41 : TI := ⟨(TypeDesc.func #[34] #[39, 4] false), 1, 8, [Value.nilFunc], false⟩
theorem ty41_ok : TI.Ok Tryz.prog 41 ty41 := TI.mk_ok (by kernel_rfl) (by kernel_rfl) rfl rfl
def ty42 : TI := ⟨(TypeDesc.func #[39, 39] #[4] false), 1, 8, [Value.nilFunc], false⟩
theorem ty42_ok : TI.Ok Tryz.prog 42 ty42 := TI.mk_ok (by kernel_rfl) (by kernel_rfl) rfl rfl
def ty43 : TI := ⟨(TypeDesc.func #[34] #[4] false), 1, 8, [Value.nilFunc], false⟩
theorem ty43_ok : TI.Ok Tryz.prog 43 ty43 := TI.mk_ok (by kernel_rfl) (by kernel_rfl) rfl rfl
def ty44 : TI := ⟨(TypeDesc.int IntKind.u8), 1, 1, [(Value.int IntKind.u8 0)], false⟩
theorem ty44_ok : TI.Ok Tryz.prog 44 ty44 := TI.mk_ok (by kernel_rfl) (by kernel_rfl) rfl rfl
def ty45 : TI := ⟨(TypeDesc.int IntKind.u8), 1, 1, [(Value.int IntKind.u8 0)], false⟩
theorem ty45_ok : TI.Ok Tryz.prog 45 ty45 := TI.mk_ok (by kernel_rfl) (by kernel_rfl) rfl rfl
def ty46 : TI := ⟨(TypeDesc.int IntKind.u8), 1, 1, [(Value.int IntKind.u8 0)], false⟩
theorem ty46_ok : TI.Ok Tryz.prog 46 ty46 := TI.mk_ok (by kernel_rfl) (by kernel_rfl) rfl rfl
def ty47 : TI := ⟨(TypeDesc.struct #[{ name := "Kind", type := 45, offset := 0, embedded := false, tag := "", pkgPath := "", byteOffset := 0 }, { name := "Oper", type := 46, offset := 1, embedded := false, tag := "", pkgPath := "", byteOffset := 1 }, { name := "To", type := 25, offset := 2, embedded := false, tag := "", pkgPath := "", byteOffset := 2 }, { name := "N", type := 21, offset := 3, embedded := false, tag := "", pkgPath := "", byteOffset := 4 }, { name := "V", type := 3, offset := 4, embedded := false, tag := "", pkgPath := "", byteOffset := 8 }, { name := "L", type := 27, offset := 5, embedded := false, tag := "", pkgPath := "", byteOffset := 16 }]), 6, 40, [(Value.int IntKind.u8 0), (Value.int IntKind.u8 0), (Value.int IntKind.u8 0), (Value.int IntKind.i32 0), (Value.int IntKind.i64 0), (Value.slice none 0 0)], true⟩
theorem ty47_ok : TI.Ok Tryz.prog 47 ty47 := TI.mk_ok (by kernel_rfl) (by kernel_rfl) rfl rfl
def ty48 : TI := ⟨(TypeDesc.struct #[{ name := "Kind", type := 45, offset := 0, embedded := false, tag := "", pkgPath := "", byteOffset := 0 }, { name := "Oper", type := 46, offset := 1, embedded := false, tag := "", pkgPath := "", byteOffset := 1 }, { name := "To", type := 25, offset := 2, embedded := false, tag := "", pkgPath := "", byteOffset := 2 }, { name := "N", type := 21, offset := 3, embedded := false, tag := "", pkgPath := "", byteOffset := 4 }, { name := "V", type := 3, offset := 4, embedded := false, tag := "", pkgPath := "", byteOffset := 8 }, { name := "L", type := 27, offset := 5, embedded := false, tag := "", pkgPath := "", byteOffset := 16 }]), 6, 40, [(Value.int IntKind.u8 0), (Value.int IntKind.u8 0), (Value.int IntKind.u8 0), (Value.int IntKind.i32 0), (Value.int IntKind.i64 0), (Value.slice none 0 0)], true⟩
theorem ty48_ok : TI.Ok Tryz.prog 48 ty48 := TI.mk_ok (by kernel_rfl) (by kernel_rfl) rfl rfl
def ty49 : TI := ⟨(TypeDesc.struct #[{ name := "V", type := 3, offset := 0, embedded := false, tag := "", pkgPath := "", byteOffset := 0 }, { name := "Index", type := 27, offset := 1, embedded := false, tag := "", pkgPath := "", byteOffset := 8 }]), 2, 32, [(Value.int IntKind.i64 0), (Value.slice none 0 0)], true⟩
theorem ty49_ok : TI.Ok Tryz.prog 49 ty49 := TI.mk_ok (by kernel_rfl) (by kernel_rfl) rfl rfl
def ty50 : TI := ⟨(TypeDesc.struct #[{ name := "V", type := 3, offset := 0, embedded := false, tag := "", pkgPath := "", byteOffset := 0 }, { name := "Index", type := 27, offset := 1, embedded := false, tag := "", pkgPath := "", byteOffset := 8 }]), 2, 32, [(Value.int IntKind.i64 0), (Value.slice none 0 0)], true⟩
theorem ty50_ok : TI.Ok Tryz.prog 50 ty50 := TI.mk_ok (by kernel_rfl) (by kernel_rfl) rfl rfl
def ty51 : TI := ⟨(TypeDesc.struct #[{ name := "Kind", type := 44, offset := 0, embedded := false, tag := "", pkgPath := "", byteOffset := 0 }, { name := "Cond", type := 48, offset := 1, embedded := false, tag := "", pkgPath := "", byteOffset := 8 }, { name := "C", type := 3, offset := 7, embedded := false, tag := "", pkgPath := "", byteOffset := 48 }, { name := "Item", type := 25, offset := 8, embedded := false, tag := "", pkgPath := "", byteOffset := 56 }, { name := "To", type := 50, offset := 9, embedded := false, tag := "", pkgPath := "", byteOffset := 64 }, { name := "Time", type := 48, offset := 11, embedded := false, tag := "", pkgPath := "", byteOffset := 96 }, { name := "Body", type := 29, offset := 17, embedded := false, tag := "", pkgPath := "", byteOffset := 136 }]), 18, 160, [(Value.int IntKind.u8 0), (Value.int IntKind.u8 0), (Value.int IntKind.u8 0), (Value.int IntKind.u8 0), (Value.int IntKind.i32 0), (Value.int IntKind.i64 0), (Value.slice none 0 0), (Value.int IntKind.i64 0), (Value.int IntKind.u8 0), (Value.int IntKind.i64 0), (Value.slice none 0 0), (Value.int IntKind.u8 0), (Value.int IntKind.u8 0), (Value.int IntKind.u8 0), (Value.int IntKind.i32 0), (Value.int IntKind.i64 0), (Value.slice none 0 0), (Value.slice none 0 0)], true⟩
theorem ty51_ok : TI.Ok Tryz.prog 51 ty51 := TI.mk_ok (by kernel_rfl) (by kernel_rfl) rfl rfl
def ty52 : TI := ⟨(TypeDesc.struct #[{ name := "Kind", type := 44, offset := 0, embedded := false, tag := "", pkgPath := "", byteOffset := 0 }, { name := "Cond", type := 48, offset := 1, embedded := false, tag := "", pkgPath := "", byteOffset := 8 }, { name := "C", type := 3, offset := 7, embedded := false, tag := "", pkgPath := "", byteOffset := 48 }, { name := "Item", type := 25, offset := 8, embedded := false, tag := "", pkgPath := "", byteOffset := 56 }, { name := "To", type := 50, offset := 9, embedded := false, tag := "", pkgPath := "", byteOffset := 64 }, { name := "Time", type := 48, offset := 11, embedded := false, tag := "", pkgPath := "", byteOffset := 96 }, { name := "Body", type := 29, offset := 17, embedded := false, tag := "", pkgPath := "", byteOffset := 136 }]), 18, 160, [(Value.int IntKind.u8 0), (Value.int IntKind.u8 0), (Value.int IntKind.u8 0), (Value.int IntKind.u8 0), (Value.int IntKind.i32 0), (Value.int IntKind.i64 0), (Value.slice none 0 0), (Value.int IntKind.i64 0), (Value.int IntKind.u8 0), (Value.int IntKind.i64 0), (Value.slice none 0 0), (Value.int IntKind.u8 0), (Value.int IntKind.u8 0), (Value.int IntKind.u8 0), (Value.int IntKind.i32 0), (Value.int IntKind.i64 0), (Value.slice none 0 0), (Value.slice none 0 0)], true⟩
theorem ty52_ok : TI.Ok Tryz.prog 52 ty52 := TI.mk_ok (by kernel_rfl) (by kernel_rfl) rfl rfl
def ty53 : TI := ⟨(TypeDesc.slice 32), 1, 24, [(Value.slice none 0 0)], false⟩
theorem ty53_ok : TI.Ok Tryz.prog 53 ty53 := TI.mk_ok (by kernel_rfl) (by kernel_rfl) rfl rfl
def ty54 : TI := ⟨(TypeDesc.int IntKind.i64), 1, 8, [(Value.int IntKind.i64 0)], false⟩
theorem ty54_ok : TI.Ok Tryz.prog 54 ty54 := TI.mk_ok (by kernel_rfl) (by kernel_rfl) rfl rfl
def ty55 : TI := ⟨(TypeDesc.tuple #[32, 54]), 1, 0, [(Value.tuple #[(Value.slice none 0 0), (Value.int IntKind.i64 0)])], false⟩
theorem ty55_ok : TI.Ok Tryz.prog 55 ty55 := TI.mk_ok (by kernel_rfl) (by kernel_rfl) rfl rfl
def ty56 : TI := ⟨(TypeDesc.func #[39] #[32, 54] false), 1, 8, [Value.nilFunc], false⟩
theorem ty56_ok : TI.Ok Tryz.prog 56 ty56 := TI.mk_ok (by kernel_rfl) (by kernel_rfl) rfl rfl
def ty57 : TI := ⟨(TypeDesc.tuple #[32, 4]), 1, 0, [(Value.tuple #[(Value.slice none 0 0), (Value.bool false)])], false⟩
theorem ty57_ok : TI.Ok Tryz.prog 57 ty57 := TI.mk_ok (by kernel_rfl) (by kernel_rfl) rfl rfl
def ty58 : TI := ⟨(TypeDesc.func #[39] #[32, 4] false), 1, 8, [Value.nilFunc], false⟩
theorem ty58_ok : TI.Ok Tryz.prog 58 ty58 := TI.mk_ok (by kernel_rfl) (by kernel_rfl) rfl rfl
def ty59 : TI := ⟨(TypeDesc.func #[32, 32] #[4] false), 1, 8, [Value.nilFunc], false⟩
theorem ty59_ok : TI.Ok Tryz.prog 59 ty59 := TI.mk_ok (by kernel_rfl) (by kernel_rfl) rfl rfl
def ty60 : TI := ⟨(TypeDesc.func #[39, 32] #[4] false), 1, 8, [Value.nilFunc], false⟩
theorem ty60_ok : TI.Ok Tryz.prog 60 ty60 := TI.mk_ok (by kernel_rfl) (by kernel_rfl) rfl rfl
def ty61 : TI := ⟨(TypeDesc.tuple #[31, 4]), 1, 0, [(Value.tuple #[(Value.agg #[(Value.int IntKind.u8 0), (Value.int IntKind.i64 0), (Value.int IntKind.i64 0), (Value.int IntKind.u8 0), (Value.slice none 0 0), (Value.slice none 0 0), (Value.slice none 0 0), (Value.slice none 0 0)]), (Value.bool false)])], false⟩
theorem ty61_ok : TI.Ok Tryz.prog 61 ty61 := TI.mk_ok (by kernel_rfl) (by kernel_rfl) rfl rfl
def ty62 : TI := ⟨(TypeDesc.func #[31, 24] #[31, 4] false), 1, 8, [Value.nilFunc], false⟩
theorem ty62_ok : TI.Ok Tryz.prog 62 ty62 := TI.mk_ok (by kernel_rfl) (by kernel_rfl) rfl rfl
def ty63 : TI := ⟨(TypeDesc.slice 68), 1, 24, [(Value.slice none 0 0)], false⟩
theorem ty63_ok : TI.Ok Tryz.prog 63 ty63 := TI.mk_ok (by kernel_rfl) (by kernel_rfl) rfl rfl
def ty64 : TI := ⟨(TypeDesc.array 64 63), 64, 1536, [(Value.slice none 0 0), (Value.slice none 0 0), (Value.slice none 0 0), (Value.slice none 0 0), (Value.slice none 0 0), (Value.slice none 0 0), (Value.slice none 0 0), (Value.slice none 0 0), (Value.slice none 0 0), (Value.slice none 0 0), (Value.slice none 0 0), (Value.slice none 0 0), (Value.slice none 0 0), (Value.slice none 0 0), (Value.slice none 0 0), (Value.slice none 0 0), (Value.slice none 0 0), (Value.slice none 0 0), (Value.slice none 0 0), (Value.slice none 0 0), (Value.slice none 0 0), (Value.slice none 0 0), (Value.slice none 0 0), (Value.slice none 0 0), (Value.slice none 0 0), (Value.slice none 0 0), (Value.slice none 0 0), (Value.slice none 0 0), (Value.slice none 0 0), (Value.slice none 0 0), (Value.slice none 0 0), (Value.slice none 0 0), (Value.slice none 0 0), (Value.slice none 0 0), (Value.slice none 0 0), (Value.slice none 0 0), (Value.slice none 0 0), (Value.slice none 0 0), (Value.slice none 0 0), (Value.slice none 0 0), (Value.slice none 0 0), (Value.slice none 0 0), (Value.slice none 0 0), (Value.slice none 0 0), (Value.slice none 0 0), (Value.slice none 0 0), (Value.slice none 0 0), (Value.slice none 0 0), (Value.slice none 0 0), (Value.slice none 0 0), (Value.slice none 0 0), (Value.slice none 0 0), (Value.slice none 0 0), (Value.slice none 0 0), (Value.slice none 0 0), (Value.slice none 0 0), (Value.slice none 0 0), (Value.slice none 0 0), (Value.slice none 0 0), (Value.slice none 0 0), (Value.slice none 0 0), (Value.slice none 0 0), (Value.slice none 0 0), (Value.slice none 0 0)], true⟩
theorem ty64_ok : TI.Ok Tryz.prog 64 ty64 := TI.mk_ok (by kernel_rfl) (by kernel_rfl) rfl rfl
def ty65 : TI := ⟨(TypeDesc.slice 29), 1, 24, [(Value.slice none 0 0)], false⟩
theorem ty65_ok : TI.Ok Tryz.prog 65 ty65 := TI.mk_ok (by kernel_rfl) (by kernel_rfl) rfl rfl
def ty66 : TI := ⟨(TypeDesc.func #[34, 31] #[65] false), 1, 8, [Value.nilFunc], false⟩
theorem ty66_ok : TI.Ok Tryz.prog 66 ty66 := TI.mk_ok (by kernel_rfl) (by kernel_rfl) rfl rfl
def ty67 : TI := ⟨(TypeDesc.struct #[{ name := "branch", type := 3, offset := 0, embedded := false, tag := "", pkgPath := "transputer/rank", byteOffset := 0 }, { name := "out", type := 4, offset := 1, embedded := false, tag := "", pkgPath := "transputer/rank", byteOffset := 8 }, { name := "item", type := 25, offset := 2, embedded := false, tag := "", pkgPath := "transputer/rank", byteOffset := 9 }]), 3, 16, [(Value.int IntKind.i64 0), (Value.bool false), (Value.int IntKind.u8 0)], true⟩
theorem ty67_ok : TI.Ok Tryz.prog 67 ty67 := TI.mk_ok (by kernel_rfl) (by kernel_rfl) rfl rfl
def ty68 : TI := ⟨(TypeDesc.struct #[{ name := "branch", type := 3, offset := 0, embedded := false, tag := "", pkgPath := "transputer/rank", byteOffset := 0 }, { name := "out", type := 4, offset := 1, embedded := false, tag := "", pkgPath := "transputer/rank", byteOffset := 8 }, { name := "item", type := 25, offset := 2, embedded := false, tag := "", pkgPath := "transputer/rank", byteOffset := 9 }]), 3, 16, [(Value.int IntKind.i64 0), (Value.bool false), (Value.int IntKind.u8 0)], true⟩
theorem ty68_ok : TI.Ok Tryz.prog 68 ty68 := TI.mk_ok (by kernel_rfl) (by kernel_rfl) rfl rfl
def ty69 : TI := ⟨(TypeDesc.func #[39] #[4] false), 1, 8, [Value.nilFunc], false⟩
theorem ty69_ok : TI.Ok Tryz.prog 69 ty69 := TI.mk_ok (by kernel_rfl) (by kernel_rfl) rfl rfl
def ty70 : TI := ⟨(TypeDesc.slice 75), 1, 24, [(Value.slice none 0 0)], false⟩
theorem ty70_ok : TI.Ok Tryz.prog 70 ty70 := TI.mk_ok (by kernel_rfl) (by kernel_rfl) rfl rfl
def ty71 : TI := ⟨(TypeDesc.tuple #[29, 4]), 1, 0, [(Value.tuple #[(Value.slice none 0 0), (Value.bool false)])], false⟩
theorem ty71_ok : TI.Ok Tryz.prog 71 ty71 := TI.mk_ok (by kernel_rfl) (by kernel_rfl) rfl rfl
def ty72 : TI := ⟨(TypeDesc.func #[31] #[29, 4] false), 1, 8, [Value.nilFunc], false⟩
theorem ty72_ok : TI.Ok Tryz.prog 72 ty72 := TI.mk_ok (by kernel_rfl) (by kernel_rfl) rfl rfl
def ty73 : TI := ⟨(TypeDesc.func #[34, 31] #[4] false), 1, 8, [Value.nilFunc], false⟩
theorem ty73_ok : TI.Ok Tryz.prog 73 ty73 := TI.mk_ok (by kernel_rfl) (by kernel_rfl) rfl rfl
def ty74 : TI := ⟨(TypeDesc.struct #[{ name := "Branch", type := 3, offset := 0, embedded := false, tag := "", pkgPath := "", byteOffset := 0 }, { name := "C", type := 3, offset := 1, embedded := false, tag := "", pkgPath := "", byteOffset := 8 }, { name := "Out", type := 4, offset := 2, embedded := false, tag := "", pkgPath := "", byteOffset := 16 }, { name := "Item", type := 25, offset := 3, embedded := false, tag := "", pkgPath := "", byteOffset := 17 }]), 4, 24, [(Value.int IntKind.i64 0), (Value.int IntKind.i64 0), (Value.bool false), (Value.int IntKind.u8 0)], true⟩
theorem ty74_ok : TI.Ok Tryz.prog 74 ty74 := TI.mk_ok (by kernel_rfl) (by kernel_rfl) rfl rfl
def ty75 : TI := ⟨(TypeDesc.struct #[{ name := "Branch", type := 3, offset := 0, embedded := false, tag := "", pkgPath := "", byteOffset := 0 }, { name := "C", type := 3, offset := 1, embedded := false, tag := "", pkgPath := "", byteOffset := 8 }, { name := "Out", type := 4, offset := 2, embedded := false, tag := "", pkgPath := "", byteOffset := 16 }, { name := "Item", type := 25, offset := 3, embedded := false, tag := "", pkgPath := "", byteOffset := 17 }]), 4, 24, [(Value.int IntKind.i64 0), (Value.int IntKind.i64 0), (Value.bool false), (Value.int IntKind.u8 0)], true⟩
theorem ty75_ok : TI.Ok Tryz.prog 75 ty75 := TI.mk_ok (by kernel_rfl) (by kernel_rfl) rfl rfl
def ty76 : TI := ⟨(TypeDesc.func #[70] #[4] false), 1, 8, [Value.nilFunc], false⟩
theorem ty76_ok : TI.Ok Tryz.prog 76 ty76 := TI.mk_ok (by kernel_rfl) (by kernel_rfl) rfl rfl
def ty77 : TI := ⟨(TypeDesc.int IntKind.u64), 1, 8, [(Value.int IntKind.u64 0)], false⟩
theorem ty77_ok : TI.Ok Tryz.prog 77 ty77 := TI.mk_ok (by kernel_rfl) (by kernel_rfl) rfl rfl
def ty78 : TI := ⟨(TypeDesc.array 64 77), 64, 512, [(Value.int IntKind.u64 0), (Value.int IntKind.u64 0), (Value.int IntKind.u64 0), (Value.int IntKind.u64 0), (Value.int IntKind.u64 0), (Value.int IntKind.u64 0), (Value.int IntKind.u64 0), (Value.int IntKind.u64 0), (Value.int IntKind.u64 0), (Value.int IntKind.u64 0), (Value.int IntKind.u64 0), (Value.int IntKind.u64 0), (Value.int IntKind.u64 0), (Value.int IntKind.u64 0), (Value.int IntKind.u64 0), (Value.int IntKind.u64 0), (Value.int IntKind.u64 0), (Value.int IntKind.u64 0), (Value.int IntKind.u64 0), (Value.int IntKind.u64 0), (Value.int IntKind.u64 0), (Value.int IntKind.u64 0), (Value.int IntKind.u64 0), (Value.int IntKind.u64 0), (Value.int IntKind.u64 0), (Value.int IntKind.u64 0), (Value.int IntKind.u64 0), (Value.int IntKind.u64 0), (Value.int IntKind.u64 0), (Value.int IntKind.u64 0), (Value.int IntKind.u64 0), (Value.int IntKind.u64 0), (Value.int IntKind.u64 0), (Value.int IntKind.u64 0), (Value.int IntKind.u64 0), (Value.int IntKind.u64 0), (Value.int IntKind.u64 0), (Value.int IntKind.u64 0), (Value.int IntKind.u64 0), (Value.int IntKind.u64 0), (Value.int IntKind.u64 0), (Value.int IntKind.u64 0), (Value.int IntKind.u64 0), (Value.int IntKind.u64 0), (Value.int IntKind.u64 0), (Value.int IntKind.u64 0), (Value.int IntKind.u64 0), (Value.int IntKind.u64 0), (Value.int IntKind.u64 0), (Value.int IntKind.u64 0), (Value.int IntKind.u64 0), (Value.int IntKind.u64 0), (Value.int IntKind.u64 0), (Value.int IntKind.u64 0), (Value.int IntKind.u64 0), (Value.int IntKind.u64 0), (Value.int IntKind.u64 0), (Value.int IntKind.u64 0), (Value.int IntKind.u64 0), (Value.int IntKind.u64 0), (Value.int IntKind.u64 0), (Value.int IntKind.u64 0), (Value.int IntKind.u64 0), (Value.int IntKind.u64 0)], true⟩
theorem ty78_ok : TI.Ok Tryz.prog 78 ty78 := TI.mk_ok (by kernel_rfl) (by kernel_rfl) rfl rfl
def ty79 : TI := ⟨(TypeDesc.array 64 77), 64, 512, [(Value.int IntKind.u64 0), (Value.int IntKind.u64 0), (Value.int IntKind.u64 0), (Value.int IntKind.u64 0), (Value.int IntKind.u64 0), (Value.int IntKind.u64 0), (Value.int IntKind.u64 0), (Value.int IntKind.u64 0), (Value.int IntKind.u64 0), (Value.int IntKind.u64 0), (Value.int IntKind.u64 0), (Value.int IntKind.u64 0), (Value.int IntKind.u64 0), (Value.int IntKind.u64 0), (Value.int IntKind.u64 0), (Value.int IntKind.u64 0), (Value.int IntKind.u64 0), (Value.int IntKind.u64 0), (Value.int IntKind.u64 0), (Value.int IntKind.u64 0), (Value.int IntKind.u64 0), (Value.int IntKind.u64 0), (Value.int IntKind.u64 0), (Value.int IntKind.u64 0), (Value.int IntKind.u64 0), (Value.int IntKind.u64 0), (Value.int IntKind.u64 0), (Value.int IntKind.u64 0), (Value.int IntKind.u64 0), (Value.int IntKind.u64 0), (Value.int IntKind.u64 0), (Value.int IntKind.u64 0), (Value.int IntKind.u64 0), (Value.int IntKind.u64 0), (Value.int IntKind.u64 0), (Value.int IntKind.u64 0), (Value.int IntKind.u64 0), (Value.int IntKind.u64 0), (Value.int IntKind.u64 0), (Value.int IntKind.u64 0), (Value.int IntKind.u64 0), (Value.int IntKind.u64 0), (Value.int IntKind.u64 0), (Value.int IntKind.u64 0), (Value.int IntKind.u64 0), (Value.int IntKind.u64 0), (Value.int IntKind.u64 0), (Value.int IntKind.u64 0), (Value.int IntKind.u64 0), (Value.int IntKind.u64 0), (Value.int IntKind.u64 0), (Value.int IntKind.u64 0), (Value.int IntKind.u64 0), (Value.int IntKind.u64 0), (Value.int IntKind.u64 0), (Value.int IntKind.u64 0), (Value.int IntKind.u64 0), (Value.int IntKind.u64 0), (Value.int IntKind.u64 0), (Value.int IntKind.u64 0), (Value.int IntKind.u64 0), (Value.int IntKind.u64 0), (Value.int IntKind.u64 0), (Value.int IntKind.u64 0)], true⟩
theorem ty79_ok : TI.Ok Tryz.prog 79 ty79 := TI.mk_ok (by kernel_rfl) (by kernel_rfl) rfl rfl
def ty80 : TI := ⟨(TypeDesc.func #[39] #[79] false), 1, 8, [Value.nilFunc], false⟩
theorem ty80_ok : TI.Ok Tryz.prog 80 ty80 := TI.mk_ok (by kernel_rfl) (by kernel_rfl) rfl rfl
def ty81 : TI := ⟨(TypeDesc.array 64 3), 64, 512, [(Value.int IntKind.i64 0), (Value.int IntKind.i64 0), (Value.int IntKind.i64 0), (Value.int IntKind.i64 0), (Value.int IntKind.i64 0), (Value.int IntKind.i64 0), (Value.int IntKind.i64 0), (Value.int IntKind.i64 0), (Value.int IntKind.i64 0), (Value.int IntKind.i64 0), (Value.int IntKind.i64 0), (Value.int IntKind.i64 0), (Value.int IntKind.i64 0), (Value.int IntKind.i64 0), (Value.int IntKind.i64 0), (Value.int IntKind.i64 0), (Value.int IntKind.i64 0), (Value.int IntKind.i64 0), (Value.int IntKind.i64 0), (Value.int IntKind.i64 0), (Value.int IntKind.i64 0), (Value.int IntKind.i64 0), (Value.int IntKind.i64 0), (Value.int IntKind.i64 0), (Value.int IntKind.i64 0), (Value.int IntKind.i64 0), (Value.int IntKind.i64 0), (Value.int IntKind.i64 0), (Value.int IntKind.i64 0), (Value.int IntKind.i64 0), (Value.int IntKind.i64 0), (Value.int IntKind.i64 0), (Value.int IntKind.i64 0), (Value.int IntKind.i64 0), (Value.int IntKind.i64 0), (Value.int IntKind.i64 0), (Value.int IntKind.i64 0), (Value.int IntKind.i64 0), (Value.int IntKind.i64 0), (Value.int IntKind.i64 0), (Value.int IntKind.i64 0), (Value.int IntKind.i64 0), (Value.int IntKind.i64 0), (Value.int IntKind.i64 0), (Value.int IntKind.i64 0), (Value.int IntKind.i64 0), (Value.int IntKind.i64 0), (Value.int IntKind.i64 0), (Value.int IntKind.i64 0), (Value.int IntKind.i64 0), (Value.int IntKind.i64 0), (Value.int IntKind.i64 0), (Value.int IntKind.i64 0), (Value.int IntKind.i64 0), (Value.int IntKind.i64 0), (Value.int IntKind.i64 0), (Value.int IntKind.i64 0), (Value.int IntKind.i64 0), (Value.int IntKind.i64 0), (Value.int IntKind.i64 0), (Value.int IntKind.i64 0), (Value.int IntKind.i64 0), (Value.int IntKind.i64 0), (Value.int IntKind.i64 0)], true⟩
theorem ty81_ok : TI.Ok Tryz.prog 81 ty81 := TI.mk_ok (by kernel_rfl) (by kernel_rfl) rfl rfl
def ty82 : TI := ⟨(TypeDesc.func #[79, 3] #[81] false), 1, 8, [Value.nilFunc], false⟩
theorem ty82_ok : TI.Ok Tryz.prog 82 ty82 := TI.mk_ok (by kernel_rfl) (by kernel_rfl) rfl rfl
def ty83 : TI := ⟨(TypeDesc.func #[29, 84] #[4] false), 1, 8, [Value.nilFunc], false⟩
theorem ty83_ok : TI.Ok Tryz.prog 83 ty83 := TI.mk_ok (by kernel_rfl) (by kernel_rfl) rfl rfl
def ty84 : TI := ⟨(TypeDesc.func #[31] #[4] false), 1, 8, [Value.nilFunc], false⟩
theorem ty84_ok : TI.Ok Tryz.prog 84 ty84 := TI.mk_ok (by kernel_rfl) (by kernel_rfl) rfl rfl
def ty85 : TI := ⟨(TypeDesc.func #[32, 3] #[4] false), 1, 8, [Value.nilFunc], false⟩
theorem ty85_ok : TI.Ok Tryz.prog 85 ty85 := TI.mk_ok (by kernel_rfl) (by kernel_rfl) rfl rfl
def ty86 : TI := ⟨(TypeDesc.struct #[{ name := "Kind", type := 25, offset := 0, embedded := false, tag := "", pkgPath := "", byteOffset := 0 }, { name := "Dim", type := 3, offset := 1, embedded := false, tag := "", pkgPath := "", byteOffset := 8 }]), 2, 16, [(Value.int IntKind.u8 0), (Value.int IntKind.i64 0)], true⟩
theorem ty86_ok : TI.Ok Tryz.prog 86 ty86 := TI.mk_ok (by kernel_rfl) (by kernel_rfl) rfl rfl
def ty87 : TI := ⟨(TypeDesc.struct #[{ name := "Kind", type := 25, offset := 0, embedded := false, tag := "", pkgPath := "", byteOffset := 0 }, { name := "Dim", type := 3, offset := 1, embedded := false, tag := "", pkgPath := "", byteOffset := 8 }]), 2, 16, [(Value.int IntKind.u8 0), (Value.int IntKind.i64 0)], true⟩
theorem ty87_ok : TI.Ok Tryz.prog 87 ty87 := TI.mk_ok (by kernel_rfl) (by kernel_rfl) rfl rfl
def ty88 : TI := ⟨(TypeDesc.func #[25] #[4] false), 1, 8, [Value.nilFunc], false⟩
theorem ty88_ok : TI.Ok Tryz.prog 88 ty88 := TI.mk_ok (by kernel_rfl) (by kernel_rfl) rfl rfl
def ty89 : TI := ⟨(TypeDesc.int IntKind.u8), 1, 1, [(Value.int IntKind.u8 0)], false⟩
theorem ty89_ok : TI.Ok Tryz.prog 89 ty89 := TI.mk_ok (by kernel_rfl) (by kernel_rfl) rfl rfl
def ty90 : TI := ⟨(TypeDesc.pointer 92), 1, 8, [(Value.pointer none)], false⟩
theorem ty90_ok : TI.Ok Tryz.prog 90 ty90 := TI.mk_ok (by kernel_rfl) (by kernel_rfl) rfl rfl
def ty91 : TI := ⟨(TypeDesc.struct #[{ name := "Kernel", type := 34, offset := 0, embedded := true, tag := "", pkgPath := "", byteOffset := 0 }, { name := "left", type := 3, offset := 11, embedded := false, tag := "", pkgPath := "transputer/kernel", byteOffset := 200 }]), 12, 208, [(Value.slice none 0 0), (Value.slice none 0 0), (Value.int IntKind.u8 0), (Value.int IntKind.i64 0), (Value.int IntKind.i64 0), (Value.int IntKind.u8 0), (Value.slice none 0 0), (Value.slice none 0 0), (Value.slice none 0 0), (Value.slice none 0 0), (Value.slice none 0 0), (Value.int IntKind.i64 0)], true⟩
theorem ty91_ok : TI.Ok Tryz.prog 91 ty91 := TI.mk_ok (by kernel_rfl) (by kernel_rfl) rfl rfl
def ty92 : TI := ⟨(TypeDesc.struct #[{ name := "Kernel", type := 34, offset := 0, embedded := true, tag := "", pkgPath := "", byteOffset := 0 }, { name := "left", type := 3, offset := 11, embedded := false, tag := "", pkgPath := "transputer/kernel", byteOffset := 200 }]), 12, 208, [(Value.slice none 0 0), (Value.slice none 0 0), (Value.int IntKind.u8 0), (Value.int IntKind.i64 0), (Value.int IntKind.i64 0), (Value.int IntKind.u8 0), (Value.slice none 0 0), (Value.slice none 0 0), (Value.slice none 0 0), (Value.slice none 0 0), (Value.slice none 0 0), (Value.int IntKind.i64 0)], true⟩
theorem ty92_ok : TI.Ok Tryz.prog 92 ty92 := TI.mk_ok (by kernel_rfl) (by kernel_rfl) rfl rfl
def ty93 : TI := ⟨(TypeDesc.func #[31, 3, 4] #[4] false), 1, 8, [Value.nilFunc], false⟩
theorem ty93_ok : TI.Ok Tryz.prog 93 ty93 := TI.mk_ok (by kernel_rfl) (by kernel_rfl) rfl rfl
def ty94 : TI := ⟨(TypeDesc.func #[31] #[29] false), 1, 8, [Value.nilFunc], false⟩
theorem ty94_ok : TI.Ok Tryz.prog 94 ty94 := TI.mk_ok (by kernel_rfl) (by kernel_rfl) rfl rfl
def ty95 : TI := ⟨(TypeDesc.func #[32, 96] #[4] false), 1, 8, [Value.nilFunc], false⟩
theorem ty95_ok : TI.Ok Tryz.prog 95 ty95 := TI.mk_ok (by kernel_rfl) (by kernel_rfl) rfl rfl
def ty96 : TI := ⟨(TypeDesc.func #[3] #[4] false), 1, 8, [Value.nilFunc], false⟩
theorem ty96_ok : TI.Ok Tryz.prog 96 ty96 := TI.mk_ok (by kernel_rfl) (by kernel_rfl) rfl rfl
def ty97 : TI := ⟨(TypeDesc.func #[99, 31, 3] #[3] false), 1, 8, [Value.nilFunc], false⟩
theorem ty97_ok : TI.Ok Tryz.prog 97 ty97 := TI.mk_ok (by kernel_rfl) (by kernel_rfl) rfl rfl
def ty98 : TI := ⟨(TypeDesc.struct #[{ name := "k", type := 34, offset := 0, embedded := false, tag := "", pkgPath := "transputer/transputerref16", byteOffset := 0 }, { name := "deep", type := 3, offset := 11, embedded := false, tag := "", pkgPath := "transputer/transputerref16", byteOffset := 200 }, { name := "high", type := 4, offset := 12, embedded := false, tag := "", pkgPath := "transputer/transputerref16", byteOffset := 208 }]), 13, 216, [(Value.slice none 0 0), (Value.slice none 0 0), (Value.int IntKind.u8 0), (Value.int IntKind.i64 0), (Value.int IntKind.i64 0), (Value.int IntKind.u8 0), (Value.slice none 0 0), (Value.slice none 0 0), (Value.slice none 0 0), (Value.slice none 0 0), (Value.slice none 0 0), (Value.int IntKind.i64 0), (Value.bool false)], true⟩
theorem ty98_ok : TI.Ok Tryz.prog 98 ty98 := TI.mk_ok (by kernel_rfl) (by kernel_rfl) rfl rfl
def ty99 : TI := ⟨(TypeDesc.struct #[{ name := "k", type := 34, offset := 0, embedded := false, tag := "", pkgPath := "transputer/transputerref16", byteOffset := 0 }, { name := "deep", type := 3, offset := 11, embedded := false, tag := "", pkgPath := "transputer/transputerref16", byteOffset := 200 }, { name := "high", type := 4, offset := 12, embedded := false, tag := "", pkgPath := "transputer/transputerref16", byteOffset := 208 }]), 13, 216, [(Value.slice none 0 0), (Value.slice none 0 0), (Value.int IntKind.u8 0), (Value.int IntKind.i64 0), (Value.int IntKind.i64 0), (Value.int IntKind.u8 0), (Value.slice none 0 0), (Value.slice none 0 0), (Value.slice none 0 0), (Value.slice none 0 0), (Value.slice none 0 0), (Value.int IntKind.i64 0), (Value.bool false)], true⟩
theorem ty99_ok : TI.Ok Tryz.prog 99 ty99 := TI.mk_ok (by kernel_rfl) (by kernel_rfl) rfl rfl
def ty100 : TI := ⟨(TypeDesc.func #[48] #[4] false), 1, 8, [Value.nilFunc], false⟩
theorem ty100_ok : TI.Ok Tryz.prog 100 ty100 := TI.mk_ok (by kernel_rfl) (by kernel_rfl) rfl rfl
def ty101 : TI := ⟨(TypeDesc.func #[53, 3] #[3] false), 1, 8, [Value.nilFunc], false⟩
theorem ty101_ok : TI.Ok Tryz.prog 101 ty101 := TI.mk_ok (by kernel_rfl) (by kernel_rfl) rfl rfl
def ty102 : TI := ⟨(TypeDesc.func #[29, 84] #[3] false), 1, 8, [Value.nilFunc], false⟩
theorem ty102_ok : TI.Ok Tryz.prog 102 ty102 := TI.mk_ok (by kernel_rfl) (by kernel_rfl) rfl rfl
def ty103 : TI := ⟨(TypeDesc.func #[32, 3] #[3] false), 1, 8, [Value.nilFunc], false⟩
theorem ty103_ok : TI.Ok Tryz.prog 103 ty103 := TI.mk_ok (by kernel_rfl) (by kernel_rfl) rfl rfl
def ty104 : TI := ⟨(TypeDesc.func #[24] #[84] false), 1, 8, [Value.nilFunc], false⟩
theorem ty104_ok : TI.Ok Tryz.prog 104 ty104 := TI.mk_ok (by kernel_rfl) (by kernel_rfl) rfl rfl
def ty105 : TI := ⟨(TypeDesc.func #[32, 96] #[3] false), 1, 8, [Value.nilFunc], false⟩
theorem ty105_ok : TI.Ok Tryz.prog 105 ty105 := TI.mk_ok (by kernel_rfl) (by kernel_rfl) rfl rfl
def ty106 : TI := ⟨(TypeDesc.map 24 84), 1, 8, [(Value.map none)], false⟩
theorem ty106_ok : TI.Ok Tryz.prog 106 ty106 := TI.mk_ok (by kernel_rfl) (by kernel_rfl) rfl rfl
def ty107 : TI := ⟨(TypeDesc.struct #[{ name := "ok", type := 4, offset := 0, embedded := false, tag := "", pkgPath := "transputer/depth", byteOffset := 0 }, { name := "safe", type := 4, offset := 1, embedded := false, tag := "", pkgPath := "transputer/depth", byteOffset := 1 }, { name := "regs", type := 3, offset := 2, embedded := false, tag := "", pkgPath := "transputer/depth", byteOffset := 8 }, { name := "temps", type := 3, offset := 3, embedded := false, tag := "", pkgPath := "transputer/depth", byteOffset := 16 }]), 4, 24, [(Value.bool false), (Value.bool false), (Value.int IntKind.i64 0), (Value.int IntKind.i64 0)], true⟩
theorem ty107_ok : TI.Ok Tryz.prog 107 ty107 := TI.mk_ok (by kernel_rfl) (by kernel_rfl) rfl rfl
def ty108 : TI := ⟨(TypeDesc.struct #[{ name := "ok", type := 4, offset := 0, embedded := false, tag := "", pkgPath := "transputer/depth", byteOffset := 0 }, { name := "safe", type := 4, offset := 1, embedded := false, tag := "", pkgPath := "transputer/depth", byteOffset := 1 }, { name := "regs", type := 3, offset := 2, embedded := false, tag := "", pkgPath := "transputer/depth", byteOffset := 8 }, { name := "temps", type := 3, offset := 3, embedded := false, tag := "", pkgPath := "transputer/depth", byteOffset := 16 }]), 4, 24, [(Value.bool false), (Value.bool false), (Value.int IntKind.i64 0), (Value.int IntKind.i64 0)], true⟩
theorem ty108_ok : TI.Ok Tryz.prog 108 ty108 := TI.mk_ok (by kernel_rfl) (by kernel_rfl) rfl rfl
def ty109 : TI := ⟨(TypeDesc.func #[48] #[108] false), 1, 8, [Value.nilFunc], false⟩
theorem ty109_ok : TI.Ok Tryz.prog 109 ty109 := TI.mk_ok (by kernel_rfl) (by kernel_rfl) rfl rfl
def ty110 : TI := ⟨(TypeDesc.array 2 3), 2, 16, [(Value.int IntKind.i64 0), (Value.int IntKind.i64 0)], true⟩
theorem ty110_ok : TI.Ok Tryz.prog 110 ty110 := TI.mk_ok (by kernel_rfl) (by kernel_rfl) rfl rfl
def ty111 : TI := ⟨(TypeDesc.struct #[{ name := "c", type := 4, offset := 0, embedded := false, tag := "", pkgPath := "transputer/transputerref16", byteOffset := 0 }, { name := "v", type := 4, offset := 1, embedded := false, tag := "", pkgPath := "transputer/transputerref16", byteOffset := 1 }, { name := "item", type := 4, offset := 2, embedded := false, tag := "", pkgPath := "transputer/transputerref16", byteOffset := 2 }, { name := "to", type := 110, offset := 3, embedded := false, tag := "", pkgPath := "transputer/transputerref16", byteOffset := 8 }, { name := "e", type := 110, offset := 5, embedded := false, tag := "", pkgPath := "transputer/transputerref16", byteOffset := 24 }, { name := "guards", type := 110, offset := 7, embedded := false, tag := "", pkgPath := "transputer/transputerref16", byteOffset := 40 }, { name := "seq", type := 110, offset := 9, embedded := false, tag := "", pkgPath := "transputer/transputerref16", byteOffset := 56 }]), 11, 72, [(Value.bool false), (Value.bool false), (Value.bool false), (Value.int IntKind.i64 0), (Value.int IntKind.i64 0), (Value.int IntKind.i64 0), (Value.int IntKind.i64 0), (Value.int IntKind.i64 0), (Value.int IntKind.i64 0), (Value.int IntKind.i64 0), (Value.int IntKind.i64 0)], true⟩
theorem ty111_ok : TI.Ok Tryz.prog 111 ty111 := TI.mk_ok (by kernel_rfl) (by kernel_rfl) rfl rfl
def ty112 : TI := ⟨(TypeDesc.struct #[{ name := "c", type := 4, offset := 0, embedded := false, tag := "", pkgPath := "transputer/transputerref16", byteOffset := 0 }, { name := "v", type := 4, offset := 1, embedded := false, tag := "", pkgPath := "transputer/transputerref16", byteOffset := 1 }, { name := "item", type := 4, offset := 2, embedded := false, tag := "", pkgPath := "transputer/transputerref16", byteOffset := 2 }, { name := "to", type := 110, offset := 3, embedded := false, tag := "", pkgPath := "transputer/transputerref16", byteOffset := 8 }, { name := "e", type := 110, offset := 5, embedded := false, tag := "", pkgPath := "transputer/transputerref16", byteOffset := 24 }, { name := "guards", type := 110, offset := 7, embedded := false, tag := "", pkgPath := "transputer/transputerref16", byteOffset := 40 }, { name := "seq", type := 110, offset := 9, embedded := false, tag := "", pkgPath := "transputer/transputerref16", byteOffset := 56 }]), 11, 72, [(Value.bool false), (Value.bool false), (Value.bool false), (Value.int IntKind.i64 0), (Value.int IntKind.i64 0), (Value.int IntKind.i64 0), (Value.int IntKind.i64 0), (Value.int IntKind.i64 0), (Value.int IntKind.i64 0), (Value.int IntKind.i64 0), (Value.int IntKind.i64 0)], true⟩
theorem ty112_ok : TI.Ok Tryz.prog 112 ty112 := TI.mk_ok (by kernel_rfl) (by kernel_rfl) rfl rfl
def ty113 : TI := ⟨(TypeDesc.tuple #[112, 4]), 1, 0, [(Value.tuple #[(Value.agg #[(Value.bool false), (Value.bool false), (Value.bool false), (Value.int IntKind.i64 0), (Value.int IntKind.i64 0), (Value.int IntKind.i64 0), (Value.int IntKind.i64 0), (Value.int IntKind.i64 0), (Value.int IntKind.i64 0), (Value.int IntKind.i64 0), (Value.int IntKind.i64 0)]), (Value.bool false)])], false⟩
theorem ty113_ok : TI.Ok Tryz.prog 113 ty113 := TI.mk_ok (by kernel_rfl) (by kernel_rfl) rfl rfl
def ty114 : TI := ⟨(TypeDesc.func #[24] #[112, 4] false), 1, 8, [Value.nilFunc], false⟩
theorem ty114_ok : TI.Ok Tryz.prog 114 ty114 := TI.mk_ok (by kernel_rfl) (by kernel_rfl) rfl rfl
def ty115 : TI := ⟨(TypeDesc.func #[3, 110] #[4] false), 1, 8, [Value.nilFunc], false⟩
theorem ty115_ok : TI.Ok Tryz.prog 115 ty115 := TI.mk_ok (by kernel_rfl) (by kernel_rfl) rfl rfl
def ty116 : TI := ⟨(TypeDesc.func #[22, 50, 25] #[4] false), 1, 8, [Value.nilFunc], false⟩
theorem ty116_ok : TI.Ok Tryz.prog 116 ty116 := TI.mk_ok (by kernel_rfl) (by kernel_rfl) rfl rfl
def ty117 : TI := ⟨(TypeDesc.func #[22, 48, 25] #[4] false), 1, 8, [Value.nilFunc], false⟩
theorem ty117_ok : TI.Ok Tryz.prog 117 ty117 := TI.mk_ok (by kernel_rfl) (by kernel_rfl) rfl rfl
def ty118 : TI := ⟨(TypeDesc.func #[34, 3, 25, 50] #[4] false), 1, 8, [Value.nilFunc], false⟩
theorem ty118_ok : TI.Ok Tryz.prog 118 ty118 := TI.mk_ok (by kernel_rfl) (by kernel_rfl) rfl rfl
def ty119 : TI := ⟨(TypeDesc.func #[34, 3, 25, 48] #[4] false), 1, 8, [Value.nilFunc], false⟩
theorem ty119_ok : TI.Ok Tryz.prog 119 ty119 := TI.mk_ok (by kernel_rfl) (by kernel_rfl) rfl rfl
def ty120 : TI := ⟨(TypeDesc.func #[34, 24, 52] #[4] false), 1, 8, [Value.nilFunc], false⟩
theorem ty120_ok : TI.Ok Tryz.prog 120 ty120 := TI.mk_ok (by kernel_rfl) (by kernel_rfl) rfl rfl
def ty121 : TI := ⟨(TypeDesc.func #[48, 3, 3] #[3] false), 1, 8, [Value.nilFunc], false⟩
theorem ty121_ok : TI.Ok Tryz.prog 121 ty121 := TI.mk_ok (by kernel_rfl) (by kernel_rfl) rfl rfl
def ty122 : TI := ⟨(TypeDesc.func #[31, 4, 4, 110, 110, 110, 110] #[4] false), 1, 8, [Value.nilFunc], false⟩
theorem ty122_ok : TI.Ok Tryz.prog 122 ty122 := TI.mk_ok (by kernel_rfl) (by kernel_rfl) rfl rfl
def ty123 : TI := ⟨(TypeDesc.func #[50, 25] #[4] false), 1, 8, [Value.nilFunc], false⟩
theorem ty123_ok : TI.Ok Tryz.prog 123 ty123 := TI.mk_ok (by kernel_rfl) (by kernel_rfl) rfl rfl
def ty124 : TI := ⟨(TypeDesc.func #[48, 25] #[4] false), 1, 8, [Value.nilFunc], false⟩
theorem ty124_ok : TI.Ok Tryz.prog 124 ty124 := TI.mk_ok (by kernel_rfl) (by kernel_rfl) rfl rfl
def ty125 : TI := ⟨(TypeDesc.func #[3, 25, 50] #[4] false), 1, 8, [Value.nilFunc], false⟩
theorem ty125_ok : TI.Ok Tryz.prog 125 ty125 := TI.mk_ok (by kernel_rfl) (by kernel_rfl) rfl rfl
def ty126 : TI := ⟨(TypeDesc.func #[3, 25, 3] #[4] false), 1, 8, [Value.nilFunc], false⟩
theorem ty126_ok : TI.Ok Tryz.prog 126 ty126 := TI.mk_ok (by kernel_rfl) (by kernel_rfl) rfl rfl
def ty127 : TI := ⟨(TypeDesc.func #[28, 129] #[4] false), 1, 8, [Value.nilFunc], false⟩
theorem ty127_ok : TI.Ok Tryz.prog 127 ty127 := TI.mk_ok (by kernel_rfl) (by kernel_rfl) rfl rfl
def ty128 : TI := ⟨(TypeDesc.func #[52, 4] #[4] false), 1, 8, [Value.nilFunc], false⟩
theorem ty128_ok : TI.Ok Tryz.prog 128 ty128 := TI.mk_ok (by kernel_rfl) (by kernel_rfl) rfl rfl
def ty129 : TI := ⟨(TypeDesc.func #[52] #[4] false), 1, 8, [Value.nilFunc], false⟩
theorem ty129_ok : TI.Ok Tryz.prog 129 ty129 := TI.mk_ok (by kernel_rfl) (by kernel_rfl) rfl rfl
def ty130 : TI := ⟨(TypeDesc.func #[48, 3] #[108] false), 1, 8, [Value.nilFunc], false⟩
theorem ty130_ok : TI.Ok Tryz.prog 130 ty130 := TI.mk_ok (by kernel_rfl) (by kernel_rfl) rfl rfl
def ty131 : TI := ⟨(TypeDesc.slice 108), 1, 24, [(Value.slice none 0 0)], false⟩
theorem ty131_ok : TI.Ok Tryz.prog 131 ty131 := TI.mk_ok (by kernel_rfl) (by kernel_rfl) rfl rfl
def ty132 : TI := ⟨(TypeDesc.func #[48, 131] #[108] false), 1, 8, [Value.nilFunc], false⟩
theorem ty132_ok : TI.Ok Tryz.prog 132 ty132 := TI.mk_ok (by kernel_rfl) (by kernel_rfl) rfl rfl
def ty133 : TI := ⟨(TypeDesc.int IntKind.u64), 1, 8, [(Value.int IntKind.u64 0)], false⟩
theorem ty133_ok : TI.Ok Tryz.prog 133 ty133 := TI.mk_ok (by kernel_rfl) (by kernel_rfl) rfl rfl
def ty134 : TI := ⟨(TypeDesc.int IntKind.u64), 1, 8, [(Value.int IntKind.u64 0)], false⟩
theorem ty134_ok : TI.Ok Tryz.prog 134 ty134 := TI.mk_ok (by kernel_rfl) (by kernel_rfl) rfl rfl
def ty135 : TI := ⟨(TypeDesc.func #[48] #[134] false), 1, 8, [Value.nilFunc], false⟩
theorem ty135_ok : TI.Ok Tryz.prog 135 ty135 := TI.mk_ok (by kernel_rfl) (by kernel_rfl) rfl rfl
def ty136 : TI := ⟨(TypeDesc.func #[28, 129] #[3] false), 1, 8, [Value.nilFunc], false⟩
theorem ty136_ok : TI.Ok Tryz.prog 136 ty136 := TI.mk_ok (by kernel_rfl) (by kernel_rfl) rfl rfl
def ty137 : TI := ⟨(TypeDesc.func #[52, 4, 4] #[4] false), 1, 8, [Value.nilFunc], false⟩
theorem ty137_ok : TI.Ok Tryz.prog 137 ty137 := TI.mk_ok (by kernel_rfl) (by kernel_rfl) rfl rfl
def ty138 : TI := ⟨(TypeDesc.func #[3, 32] #[3] true), 1, 8, [Value.nilFunc], false⟩
theorem ty138_ok : TI.Ok Tryz.prog 138 ty138 := TI.mk_ok (by kernel_rfl) (by kernel_rfl) rfl rfl
def ty139 : TI := ⟨(TypeDesc.array 27 4), 27, 27, [(Value.bool false), (Value.bool false), (Value.bool false), (Value.bool false), (Value.bool false), (Value.bool false), (Value.bool false), (Value.bool false), (Value.bool false), (Value.bool false), (Value.bool false), (Value.bool false), (Value.bool false), (Value.bool false), (Value.bool false), (Value.bool false), (Value.bool false), (Value.bool false), (Value.bool false), (Value.bool false), (Value.bool false), (Value.bool false), (Value.bool false), (Value.bool false), (Value.bool false), (Value.bool false), (Value.bool false)], true⟩
theorem ty139_ok : TI.Ok Tryz.prog 139 ty139 := TI.mk_ok (by kernel_rfl) (by kernel_rfl) rfl rfl
def ty140 : TI := ⟨(TypeDesc.func #[48, 3] #[4] false), 1, 8, [Value.nilFunc], false⟩
theorem ty140_ok : TI.Ok Tryz.prog 140 ty140 := TI.mk_ok (by kernel_rfl) (by kernel_rfl) rfl rfl
def ty141 : TI := ⟨(TypeDesc.func #[27, 100] #[4] false), 1, 8, [Value.nilFunc], false⟩
theorem ty141_ok : TI.Ok Tryz.prog 141 ty141 := TI.mk_ok (by kernel_rfl) (by kernel_rfl) rfl rfl
def ty142 : TI := ⟨(TypeDesc.slice 134), 1, 24, [(Value.slice none 0 0)], false⟩
theorem ty142_ok : TI.Ok Tryz.prog 142 ty142 := TI.mk_ok (by kernel_rfl) (by kernel_rfl) rfl rfl
def ty143 : TI := ⟨(TypeDesc.func #[147] #[134] true), 1, 8, [Value.nilFunc], false⟩
theorem ty143_ok : TI.Ok Tryz.prog 143 ty143 := TI.mk_ok (by kernel_rfl) (by kernel_rfl) rfl rfl
def ty144 : TI := ⟨(TypeDesc.func #[4, 25] #[134] false), 1, 8, [Value.nilFunc], false⟩
theorem ty144_ok : TI.Ok Tryz.prog 144 ty144 := TI.mk_ok (by kernel_rfl) (by kernel_rfl) rfl rfl
def ty145 : TI := ⟨(TypeDesc.func #[21] #[134] false), 1, 8, [Value.nilFunc], false⟩
theorem ty145_ok : TI.Ok Tryz.prog 145 ty145 := TI.mk_ok (by kernel_rfl) (by kernel_rfl) rfl rfl
def ty146 : TI := ⟨(TypeDesc.func #[27, 100] #[3] false), 1, 8, [Value.nilFunc], false⟩
theorem ty146_ok : TI.Ok Tryz.prog 146 ty146 := TI.mk_ok (by kernel_rfl) (by kernel_rfl) rfl rfl
def ty147 : TI := ⟨(TypeDesc.slice 25), 1, 24, [(Value.slice none 0 0)], false⟩
theorem ty147_ok : TI.Ok Tryz.prog 147 ty147 := TI.mk_ok (by kernel_rfl) (by kernel_rfl) rfl rfl
def ty148 : TI := ⟨(TypeDesc.func #[] #[9] false), 1, 8, [Value.nilFunc], false⟩
theorem ty148_ok : TI.Ok Tryz.prog 148 ty148 := TI.mk_ok (by kernel_rfl) (by kernel_rfl) rfl rfl
def ty154 : TI := ⟨(TypeDesc.func #[] #[3] false), 1, 8, [Value.nilFunc], false⟩
theorem ty154_ok : TI.Ok Tryz.prog 154 ty154 := TI.mk_ok (by kernel_rfl) (by kernel_rfl) rfl rfl
def ty155 : TI := ⟨(TypeDesc.int IntKind.u32), 1, 4, [(Value.int IntKind.u32 0)], false⟩
theorem ty155_ok : TI.Ok Tryz.prog 155 ty155 := TI.mk_ok (by kernel_rfl) (by kernel_rfl) rfl rfl
def ty159 : TI := ⟨(TypeDesc.pointer 5), 1, 8, [(Value.pointer none)], false⟩
theorem ty159_ok : TI.Ok Tryz.prog 159 ty159 := TI.mk_ok (by kernel_rfl) (by kernel_rfl) rfl rfl
def tt : TT := (.node 81 ty81 (.node 46 ty46 (.node 28 ty28 (.node 13 ty13 (.node 4 ty4 (.node 2 ty2 (.node 1 ty1 (.node 0 ty0 .leaf .leaf) .leaf) (.node 3 ty3 .leaf .leaf)) (.node 9 ty9 (.node 5 ty5 .leaf .leaf) (.node 12 ty12 .leaf .leaf))) (.node 24 ty24 (.node 22 ty22 (.node 21 ty21 (.node 20 ty20 .leaf .leaf) .leaf) (.node 23 ty23 .leaf .leaf)) (.node 26 ty26 (.node 25 ty25 .leaf .leaf) (.node 27 ty27 .leaf .leaf)))) (.node 37 ty37 (.node 33 ty33 (.node 31 ty31 (.node 30 ty30 (.node 29 ty29 .leaf .leaf) .leaf) (.node 32 ty32 .leaf .leaf)) (.node 35 ty35 (.node 34 ty34 .leaf .leaf) (.node 36 ty36 .leaf .leaf))) (.node 42 ty42 (.node 40 ty40 (.node 39 ty39 (.node 38 ty38 .leaf .leaf) .leaf) (.node 41 ty41 .leaf .leaf)) (.node 44 ty44 (.node 43 ty43 .leaf .leaf) (.node 45 ty45 .leaf .leaf))))) (.node 64 ty64 (.node 55 ty55 (.node 51 ty51 (.node 49 ty49 (.node 48 ty48 (.node 47 ty47 .leaf .leaf) .leaf) (.node 50 ty50 .leaf .leaf)) (.node 53 ty53 (.node 52 ty52 .leaf .leaf) (.node 54 ty54 .leaf .leaf))) (.node 60 ty60 (.node 58 ty58 (.node 57 ty57 (.node 56 ty56 .leaf .leaf) .leaf) (.node 59 ty59 .leaf .leaf)) (.node 62 ty62 (.node 61 ty61 .leaf .leaf) (.node 63 ty63 .leaf .leaf)))) (.node 73 ty73 (.node 69 ty69 (.node 67 ty67 (.node 66 ty66 (.node 65 ty65 .leaf .leaf) .leaf) (.node 68 ty68 .leaf .leaf)) (.node 71 ty71 (.node 70 ty70 .leaf .leaf) (.node 72 ty72 .leaf .leaf))) (.node 77 ty77 (.node 75 ty75 (.node 74 ty74 .leaf .leaf) (.node 76 ty76 .leaf .leaf)) (.node 79 ty79 (.node 78 ty78 .leaf .leaf) (.node 80 ty80 .leaf .leaf)))))) (.node 117 ty117 (.node 99 ty99 (.node 90 ty90 (.node 86 ty86 (.node 84 ty84 (.node 83 ty83 (.node 82 ty82 .leaf .leaf) .leaf) (.node 85 ty85 .leaf .leaf)) (.node 88 ty88 (.node 87 ty87 .leaf .leaf) (.node 89 ty89 .leaf .leaf))) (.node 95 ty95 (.node 93 ty93 (.node 92 ty92 (.node 91 ty91 .leaf .leaf) .leaf) (.node 94 ty94 .leaf .leaf)) (.node 97 ty97 (.node 96 ty96 .leaf .leaf) (.node 98 ty98 .leaf .leaf)))) (.node 108 ty108 (.node 104 ty104 (.node 102 ty102 (.node 101 ty101 (.node 100 ty100 .leaf .leaf) .leaf) (.node 103 ty103 .leaf .leaf)) (.node 106 ty106 (.node 105 ty105 .leaf .leaf) (.node 107 ty107 .leaf .leaf))) (.node 113 ty113 (.node 111 ty111 (.node 110 ty110 (.node 109 ty109 .leaf .leaf) .leaf) (.node 112 ty112 .leaf .leaf)) (.node 115 ty115 (.node 114 ty114 .leaf .leaf) (.node 116 ty116 .leaf .leaf))))) (.node 135 ty135 (.node 126 ty126 (.node 122 ty122 (.node 120 ty120 (.node 119 ty119 (.node 118 ty118 .leaf .leaf) .leaf) (.node 121 ty121 .leaf .leaf)) (.node 124 ty124 (.node 123 ty123 .leaf .leaf) (.node 125 ty125 .leaf .leaf))) (.node 131 ty131 (.node 129 ty129 (.node 128 ty128 (.node 127 ty127 .leaf .leaf) .leaf) (.node 130 ty130 .leaf .leaf)) (.node 133 ty133 (.node 132 ty132 .leaf .leaf) (.node 134 ty134 .leaf .leaf)))) (.node 144 ty144 (.node 140 ty140 (.node 138 ty138 (.node 137 ty137 (.node 136 ty136 .leaf .leaf) .leaf) (.node 139 ty139 .leaf .leaf)) (.node 142 ty142 (.node 141 ty141 .leaf .leaf) (.node 143 ty143 .leaf .leaf))) (.node 148 ty148 (.node 146 ty146 (.node 145 ty145 .leaf .leaf) (.node 147 ty147 .leaf .leaf)) (.node 155 ty155 (.node 154 ty154 .leaf .leaf) (.node 159 ty159 .leaf .leaf)))))))
theorem tt_ok : tt.Ok Tryz.prog := ⟨ty81_ok, ⟨ty46_ok, ⟨ty28_ok, ⟨ty13_ok, ⟨ty4_ok, ⟨ty2_ok, ⟨ty1_ok, ⟨ty0_ok, trivial, trivial⟩, trivial⟩, ⟨ty3_ok, trivial, trivial⟩⟩, ⟨ty9_ok, ⟨ty5_ok, trivial, trivial⟩, ⟨ty12_ok, trivial, trivial⟩⟩⟩, ⟨ty24_ok, ⟨ty22_ok, ⟨ty21_ok, ⟨ty20_ok, trivial, trivial⟩, trivial⟩, ⟨ty23_ok, trivial, trivial⟩⟩, ⟨ty26_ok, ⟨ty25_ok, trivial, trivial⟩, ⟨ty27_ok, trivial, trivial⟩⟩⟩⟩, ⟨ty37_ok, ⟨ty33_ok, ⟨ty31_ok, ⟨ty30_ok, ⟨ty29_ok, trivial, trivial⟩, trivial⟩, ⟨ty32_ok, trivial, trivial⟩⟩, ⟨ty35_ok, ⟨ty34_ok, trivial, trivial⟩, ⟨ty36_ok, trivial, trivial⟩⟩⟩, ⟨ty42_ok, ⟨ty40_ok, ⟨ty39_ok, ⟨ty38_ok, trivial, trivial⟩, trivial⟩, ⟨ty41_ok, trivial, trivial⟩⟩, ⟨ty44_ok, ⟨ty43_ok, trivial, trivial⟩, ⟨ty45_ok, trivial, trivial⟩⟩⟩⟩⟩, ⟨ty64_ok, ⟨ty55_ok, ⟨ty51_ok, ⟨ty49_ok, ⟨ty48_ok, ⟨ty47_ok, trivial, trivial⟩, trivial⟩, ⟨ty50_ok, trivial, trivial⟩⟩, ⟨ty53_ok, ⟨ty52_ok, trivial, trivial⟩, ⟨ty54_ok, trivial, trivial⟩⟩⟩, ⟨ty60_ok, ⟨ty58_ok, ⟨ty57_ok, ⟨ty56_ok, trivial, trivial⟩, trivial⟩, ⟨ty59_ok, trivial, trivial⟩⟩, ⟨ty62_ok, ⟨ty61_ok, trivial, trivial⟩, ⟨ty63_ok, trivial, trivial⟩⟩⟩⟩, ⟨ty73_ok, ⟨ty69_ok, ⟨ty67_ok, ⟨ty66_ok, ⟨ty65_ok, trivial, trivial⟩, trivial⟩, ⟨ty68_ok, trivial, trivial⟩⟩, ⟨ty71_ok, ⟨ty70_ok, trivial, trivial⟩, ⟨ty72_ok, trivial, trivial⟩⟩⟩, ⟨ty77_ok, ⟨ty75_ok, ⟨ty74_ok, trivial, trivial⟩, ⟨ty76_ok, trivial, trivial⟩⟩, ⟨ty79_ok, ⟨ty78_ok, trivial, trivial⟩, ⟨ty80_ok, trivial, trivial⟩⟩⟩⟩⟩⟩, ⟨ty117_ok, ⟨ty99_ok, ⟨ty90_ok, ⟨ty86_ok, ⟨ty84_ok, ⟨ty83_ok, ⟨ty82_ok, trivial, trivial⟩, trivial⟩, ⟨ty85_ok, trivial, trivial⟩⟩, ⟨ty88_ok, ⟨ty87_ok, trivial, trivial⟩, ⟨ty89_ok, trivial, trivial⟩⟩⟩, ⟨ty95_ok, ⟨ty93_ok, ⟨ty92_ok, ⟨ty91_ok, trivial, trivial⟩, trivial⟩, ⟨ty94_ok, trivial, trivial⟩⟩, ⟨ty97_ok, ⟨ty96_ok, trivial, trivial⟩, ⟨ty98_ok, trivial, trivial⟩⟩⟩⟩, ⟨ty108_ok, ⟨ty104_ok, ⟨ty102_ok, ⟨ty101_ok, ⟨ty100_ok, trivial, trivial⟩, trivial⟩, ⟨ty103_ok, trivial, trivial⟩⟩, ⟨ty106_ok, ⟨ty105_ok, trivial, trivial⟩, ⟨ty107_ok, trivial, trivial⟩⟩⟩, ⟨ty113_ok, ⟨ty111_ok, ⟨ty110_ok, ⟨ty109_ok, trivial, trivial⟩, trivial⟩, ⟨ty112_ok, trivial, trivial⟩⟩, ⟨ty115_ok, ⟨ty114_ok, trivial, trivial⟩, ⟨ty116_ok, trivial, trivial⟩⟩⟩⟩⟩, ⟨ty135_ok, ⟨ty126_ok, ⟨ty122_ok, ⟨ty120_ok, ⟨ty119_ok, ⟨ty118_ok, trivial, trivial⟩, trivial⟩, ⟨ty121_ok, trivial, trivial⟩⟩, ⟨ty124_ok, ⟨ty123_ok, trivial, trivial⟩, ⟨ty125_ok, trivial, trivial⟩⟩⟩, ⟨ty131_ok, ⟨ty129_ok, ⟨ty128_ok, ⟨ty127_ok, trivial, trivial⟩, trivial⟩, ⟨ty130_ok, trivial, trivial⟩⟩, ⟨ty133_ok, ⟨ty132_ok, trivial, trivial⟩, ⟨ty134_ok, trivial, trivial⟩⟩⟩⟩, ⟨ty144_ok, ⟨ty140_ok, ⟨ty138_ok, ⟨ty137_ok, ⟨ty136_ok, trivial, trivial⟩, trivial⟩, ⟨ty139_ok, trivial, trivial⟩⟩, ⟨ty142_ok, ⟨ty141_ok, trivial, trivial⟩, ⟨ty143_ok, trivial, trivial⟩⟩⟩, ⟨ty148_ok, ⟨ty146_ok, ⟨ty145_ok, trivial, trivial⟩, ⟨ty147_ok, trivial, trivial⟩⟩, ⟨ty155_ok, ⟨ty154_ok, trivial, trivial⟩, ⟨ty159_ok, trivial, trivial⟩⟩⟩⟩⟩⟩⟩
end Go.Proofs.YtgmeahcclogfmaaGreatDoor
