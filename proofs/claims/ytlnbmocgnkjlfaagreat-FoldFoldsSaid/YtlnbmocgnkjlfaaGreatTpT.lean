/-
  The table of this seat's types, by program (tt.py), each row against the loaded program.
-/
import Derived.Test.YtlnbmocgnkjlfaaGreatLa
import Derived.Test.YtlnbmocgnkjlfaaGreatChecked
namespace Go.Proofs.YtlnbmocgnkjlfaaGreat
open Go Go.Tp
set_option maxRecDepth 100000
set_option linter.unusedSimpArgs false
def ty0 : TI := ⟨(TypeDesc.tuple #[]), 1, 0, [(Value.tuple #[])], false⟩
theorem ty0_ok : TI.Ok Tryz.prog 0 ty0 := TI.mk_ok (by kernel_rfl) (by kernel_rfl) rfl rfl
def ty1 : TI := ⟨(TypeDesc.func #[] #[] false), 1, 8, [Value.nilFunc], false⟩
theorem ty1_ok : TI.Ok Tryz.prog 1 ty1 := TI.mk_ok (by kernel_rfl) (by kernel_rfl) rfl rfl
def ty2 : TI := ⟨(TypeDesc.int IntKind.i64), 1, 8, [(Value.int IntKind.i64 0)], false⟩
theorem ty2_ok : TI.Ok Tryz.prog 2 ty2 := TI.mk_ok (by kernel_rfl) (by kernel_rfl) rfl rfl
def ty3 : TI := ⟨(TypeDesc.int IntKind.i64), 1, 8, [(Value.int IntKind.i64 0)], false⟩
theorem ty3_ok : TI.Ok Tryz.prog 3 ty3 := TI.mk_ok (by kernel_rfl) (by kernel_rfl) rfl rfl
def ty4 : TI := ⟨TypeDesc.bool, 1, 1, [(Value.bool false)], false⟩
theorem ty4_ok : TI.Ok Tryz.prog 4 ty4 := TI.mk_ok (by kernel_rfl) (by kernel_rfl) rfl rfl
def ty5 : TI := ⟨(TypeDesc.int IntKind.u8), 1, 1, [(Value.int IntKind.u8 0)], false⟩
theorem ty5_ok : TI.Ok Tryz.prog 5 ty5 := TI.mk_ok (by kernel_rfl) (by kernel_rfl) rfl rfl
def ty9 : TI := ⟨TypeDesc.string, 1, 16, [(Value.string { data := #[] })], false⟩
theorem ty9_ok : TI.Ok Tryz.prog 9 ty9 := TI.mk_ok (by kernel_rfl) (by kernel_rfl) rfl rfl
def ty12 : TI := ⟨(TypeDesc.int IntKind.u64), 1, 8, [(Value.int IntKind.u64 0)], false⟩
theorem ty12_ok : TI.Ok Tryz.prog 12 ty12 := TI.mk_ok (by kernel_rfl) (by kernel_rfl) rfl rfl
def ty13 : TI := ⟨(TypeDesc.struct #[{ name := "msg", type := 9, offset := 0, embedded := false, tag := "", pkgPath := "runtime", byteOffset := 0 }, { name := "addr", type := 12, offset := 1, embedded := false, tag := "", pkgPath := "runtime", byteOffset := 16 }]), 2, 24, [(Value.string { data := #[] }), (Value.int IntKind.u64 0)], true⟩
theorem ty13_ok : TI.Ok Tryz.prog 13 ty13 := TI.mk_ok (by kernel_rfl) (by kernel_rfl) rfl rfl
def ty20 : TI := ⟨(TypeDesc.interface #[]), 1, 16, [Value.nilIface], false⟩
theorem ty20_ok : TI.Ok Tryz.prog 20 ty20 := TI.mk_ok (by kernel_rfl) (by kernel_rfl) rfl rfl
def ty21 : TI := ⟨(TypeDesc.int IntKind.i32), 1, 4, [(Value.int IntKind.i32 0)], false⟩
theorem ty21_ok : TI.Ok Tryz.prog 21 ty21 := TI.mk_ok (by kernel_rfl) (by kernel_rfl) rfl rfl
def ty22 : TI := ⟨(TypeDesc.int IntKind.u8), 1, 1, [(Value.int IntKind.u8 0)], false⟩
theorem ty22_ok : TI.Ok Tryz.prog 22 ty22 := TI.mk_ok (by kernel_rfl) (by kernel_rfl) rfl rfl
def ty23 : TI := ⟨(TypeDesc.int IntKind.u8), 1, 1, [(Value.int IntKind.u8 0)], false⟩
theorem ty23_ok : TI.Ok Tryz.prog 23 ty23 := TI.mk_ok (by kernel_rfl) (by kernel_rfl) rfl rfl
def ty24 : TI := ⟨(TypeDesc.int IntKind.u8), 1, 1, [(Value.int IntKind.u8 0)], false⟩
theorem ty24_ok : TI.Ok Tryz.prog 24 ty24 := TI.mk_ok (by kernel_rfl) (by kernel_rfl) rfl rfl
def ty25 : TI := ⟨(TypeDesc.slice 27), 1, 24, [(Value.slice none 0 0)], false⟩
theorem ty25_ok : TI.Ok Tryz.prog 25 ty25 := TI.mk_ok (by kernel_rfl) (by kernel_rfl) rfl rfl
def ty26 : TI := ⟨(TypeDesc.struct #[{ name := "Kind", type := 22, offset := 0, embedded := false, tag := "", pkgPath := "", byteOffset := 0 }, { name := "Oper", type := 23, offset := 1, embedded := false, tag := "", pkgPath := "", byteOffset := 1 }, { name := "To", type := 24, offset := 2, embedded := false, tag := "", pkgPath := "", byteOffset := 2 }, { name := "N", type := 21, offset := 3, embedded := false, tag := "", pkgPath := "", byteOffset := 4 }, { name := "S", type := 9, offset := 4, embedded := false, tag := "", pkgPath := "", byteOffset := 8 }, { name := "L", type := 25, offset := 5, embedded := false, tag := "", pkgPath := "", byteOffset := 24 }]), 6, 48, [(Value.int IntKind.u8 0), (Value.int IntKind.u8 0), (Value.int IntKind.u8 0), (Value.int IntKind.i32 0), (Value.string { data := #[] }), (Value.slice none 0 0)], true⟩
theorem ty26_ok : TI.Ok Tryz.prog 26 ty26 := TI.mk_ok (by kernel_rfl) (by kernel_rfl) rfl rfl
def ty27 : TI := ⟨(TypeDesc.struct #[{ name := "Kind", type := 22, offset := 0, embedded := false, tag := "", pkgPath := "", byteOffset := 0 }, { name := "Oper", type := 23, offset := 1, embedded := false, tag := "", pkgPath := "", byteOffset := 1 }, { name := "To", type := 24, offset := 2, embedded := false, tag := "", pkgPath := "", byteOffset := 2 }, { name := "N", type := 21, offset := 3, embedded := false, tag := "", pkgPath := "", byteOffset := 4 }, { name := "S", type := 9, offset := 4, embedded := false, tag := "", pkgPath := "", byteOffset := 8 }, { name := "L", type := 25, offset := 5, embedded := false, tag := "", pkgPath := "", byteOffset := 24 }]), 6, 48, [(Value.int IntKind.u8 0), (Value.int IntKind.u8 0), (Value.int IntKind.u8 0), (Value.int IntKind.i32 0), (Value.string { data := #[] }), (Value.slice none 0 0)], true⟩
theorem ty27_ok : TI.Ok Tryz.prog 27 ty27 := TI.mk_ok (by kernel_rfl) (by kernel_rfl) rfl rfl
def ty28 : TI := ⟨(TypeDesc.slice 48), 1, 24, [(Value.slice none 0 0)], false⟩
theorem ty28_ok : TI.Ok Tryz.prog 28 ty28 := TI.mk_ok (by kernel_rfl) (by kernel_rfl) rfl rfl
def ty29 : TI := ⟨(TypeDesc.func #[28] #[4] false), 1, 8, [Value.nilFunc], false⟩
theorem ty29_ok : TI.Ok Tryz.prog 29 ty29 := TI.mk_ok (by kernel_rfl) (by kernel_rfl) rfl rfl
def ty30 : TI := ⟨(TypeDesc.func #[] #[4] false), 1, 8, [Value.nilFunc], false⟩
theorem ty30_ok : TI.Ok Tryz.prog 30 ty30 := TI.mk_ok (by kernel_rfl) (by kernel_rfl) rfl rfl
def ty31 : TI := ⟨(TypeDesc.int IntKind.i64), 1, 8, [(Value.int IntKind.i64 0)], false⟩
theorem ty31_ok : TI.Ok Tryz.prog 31 ty31 := TI.mk_ok (by kernel_rfl) (by kernel_rfl) rfl rfl
def ty32 : TI := ⟨(TypeDesc.tuple #[21, 31]), 1, 0, [(Value.tuple #[(Value.int IntKind.i32 0), (Value.int IntKind.i64 0)])], false⟩
theorem ty32_ok : TI.Ok Tryz.prog 32 ty32 := TI.mk_ok (by kernel_rfl) (by kernel_rfl) rfl rfl
def ty33 : TI := ⟨(TypeDesc.func #[27, 28] #[21, 31] false), 1, 8, [Value.nilFunc], false⟩
theorem ty33_ok : TI.Ok Tryz.prog 33 ty33 := TI.mk_ok (by kernel_rfl) (by kernel_rfl) rfl rfl
def ty34 : TI := ⟨(TypeDesc.func #[27, 28] #[4] false), 1, 8, [Value.nilFunc], false⟩
theorem ty34_ok : TI.Ok Tryz.prog 34 ty34 := TI.mk_ok (by kernel_rfl) (by kernel_rfl) rfl rfl
def ty35 : TI := ⟨(TypeDesc.tuple #[27, 31]), 1, 0, [(Value.tuple #[(Value.agg #[(Value.int IntKind.u8 0), (Value.int IntKind.u8 0), (Value.int IntKind.u8 0), (Value.int IntKind.i32 0), (Value.string { data := #[] }), (Value.slice none 0 0)]), (Value.int IntKind.i64 0)])], false⟩
theorem ty35_ok : TI.Ok Tryz.prog 35 ty35 := TI.mk_ok (by kernel_rfl) (by kernel_rfl) rfl rfl
def ty36 : TI := ⟨(TypeDesc.func #[27, 28] #[27, 31] false), 1, 8, [Value.nilFunc], false⟩
theorem ty36_ok : TI.Ok Tryz.prog 36 ty36 := TI.mk_ok (by kernel_rfl) (by kernel_rfl) rfl rfl
def ty37 : TI := ⟨(TypeDesc.func #[27, 27] #[4] false), 1, 8, [Value.nilFunc], false⟩
theorem ty37_ok : TI.Ok Tryz.prog 37 ty37 := TI.mk_ok (by kernel_rfl) (by kernel_rfl) rfl rfl
def ty38 : TI := ⟨(TypeDesc.int IntKind.u8), 1, 1, [(Value.int IntKind.u8 0)], false⟩
theorem ty38_ok : TI.Ok Tryz.prog 38 ty38 := TI.mk_ok (by kernel_rfl) (by kernel_rfl) rfl rfl
def ty39 : TI := ⟨(TypeDesc.struct #[{ name := "Kind", type := 24, offset := 0, embedded := false, tag := "", pkgPath := "", byteOffset := 0 }, { name := "Dim", type := 3, offset := 1, embedded := false, tag := "", pkgPath := "", byteOffset := 8 }, { name := "Item", type := 24, offset := 2, embedded := false, tag := "", pkgPath := "", byteOffset := 16 }, { name := "Proto", type := 9, offset := 3, embedded := false, tag := "", pkgPath := "", byteOffset := 24 }]), 4, 40, [(Value.int IntKind.u8 0), (Value.int IntKind.i64 0), (Value.int IntKind.u8 0), (Value.string { data := #[] })], true⟩
theorem ty39_ok : TI.Ok Tryz.prog 39 ty39 := TI.mk_ok (by kernel_rfl) (by kernel_rfl) rfl rfl
def ty40 : TI := ⟨(TypeDesc.struct #[{ name := "Kind", type := 24, offset := 0, embedded := false, tag := "", pkgPath := "", byteOffset := 0 }, { name := "Dim", type := 3, offset := 1, embedded := false, tag := "", pkgPath := "", byteOffset := 8 }, { name := "Item", type := 24, offset := 2, embedded := false, tag := "", pkgPath := "", byteOffset := 16 }, { name := "Proto", type := 9, offset := 3, embedded := false, tag := "", pkgPath := "", byteOffset := 24 }]), 4, 40, [(Value.int IntKind.u8 0), (Value.int IntKind.i64 0), (Value.int IntKind.u8 0), (Value.string { data := #[] })], true⟩
theorem ty40_ok : TI.Ok Tryz.prog 40 ty40 := TI.mk_ok (by kernel_rfl) (by kernel_rfl) rfl rfl
def ty41 : TI := ⟨(TypeDesc.slice 9), 1, 24, [(Value.slice none 0 0)], false⟩
theorem ty41_ok : TI.Ok Tryz.prog 41 ty41 := TI.mk_ok (by kernel_rfl) (by kernel_rfl) rfl rfl
def ty42 : TI := ⟨(TypeDesc.slice 138), 1, 24, [(Value.slice none 0 0)], false⟩
theorem ty42_ok : TI.Ok Tryz.prog 42 ty42 := TI.mk_ok (by kernel_rfl) (by kernel_rfl) rfl rfl
def ty43 : TI := ⟨(TypeDesc.struct #[{ name := "Cases", type := 4, offset := 0, embedded := false, tag := "", pkgPath := "", byteOffset := 0 }, { name := "L", type := 42, offset := 1, embedded := false, tag := "", pkgPath := "", byteOffset := 8 }]), 2, 32, [(Value.bool false), (Value.slice none 0 0)], true⟩
theorem ty43_ok : TI.Ok Tryz.prog 43 ty43 := TI.mk_ok (by kernel_rfl) (by kernel_rfl) rfl rfl
def ty44 : TI := ⟨(TypeDesc.struct #[{ name := "Cases", type := 4, offset := 0, embedded := false, tag := "", pkgPath := "", byteOffset := 0 }, { name := "L", type := 42, offset := 1, embedded := false, tag := "", pkgPath := "", byteOffset := 8 }]), 2, 32, [(Value.bool false), (Value.slice none 0 0)], true⟩
theorem ty44_ok : TI.Ok Tryz.prog 44 ty44 := TI.mk_ok (by kernel_rfl) (by kernel_rfl) rfl rfl
def ty45 : TI := ⟨(TypeDesc.slice 140), 1, 24, [(Value.slice none 0 0)], false⟩
theorem ty45_ok : TI.Ok Tryz.prog 45 ty45 := TI.mk_ok (by kernel_rfl) (by kernel_rfl) rfl rfl
def ty46 : TI := ⟨(TypeDesc.slice 147), 1, 24, [(Value.slice none 0 0)], false⟩
theorem ty46_ok : TI.Ok Tryz.prog 46 ty46 := TI.mk_ok (by kernel_rfl) (by kernel_rfl) rfl rfl
def ty47 : TI := ⟨(TypeDesc.struct #[{ name := "Kind", type := 38, offset := 0, embedded := false, tag := "", pkgPath := "", byteOffset := 0 }, { name := "Type", type := 40, offset := 1, embedded := false, tag := "", pkgPath := "", byteOffset := 8 }, { name := "Names", type := 41, offset := 5, embedded := false, tag := "", pkgPath := "", byteOffset := 48 }, { name := "E", type := 27, offset := 6, embedded := false, tag := "", pkgPath := "", byteOffset := 72 }, { name := "Proto", type := 44, offset := 12, embedded := false, tag := "", pkgPath := "", byteOffset := 120 }, { name := "Formals", type := 45, offset := 14, embedded := false, tag := "", pkgPath := "", byteOffset := 152 }, { name := "Body", type := 46, offset := 15, embedded := false, tag := "", pkgPath := "", byteOffset := 176 }]), 16, 200, [(Value.int IntKind.u8 0), (Value.int IntKind.u8 0), (Value.int IntKind.i64 0), (Value.int IntKind.u8 0), (Value.string { data := #[] }), (Value.slice none 0 0), (Value.int IntKind.u8 0), (Value.int IntKind.u8 0), (Value.int IntKind.u8 0), (Value.int IntKind.i32 0), (Value.string { data := #[] }), (Value.slice none 0 0), (Value.bool false), (Value.slice none 0 0), (Value.slice none 0 0), (Value.slice none 0 0)], true⟩
theorem ty47_ok : TI.Ok Tryz.prog 47 ty47 := TI.mk_ok (by kernel_rfl) (by kernel_rfl) rfl rfl
def ty48 : TI := ⟨(TypeDesc.struct #[{ name := "Kind", type := 38, offset := 0, embedded := false, tag := "", pkgPath := "", byteOffset := 0 }, { name := "Type", type := 40, offset := 1, embedded := false, tag := "", pkgPath := "", byteOffset := 8 }, { name := "Names", type := 41, offset := 5, embedded := false, tag := "", pkgPath := "", byteOffset := 48 }, { name := "E", type := 27, offset := 6, embedded := false, tag := "", pkgPath := "", byteOffset := 72 }, { name := "Proto", type := 44, offset := 12, embedded := false, tag := "", pkgPath := "", byteOffset := 120 }, { name := "Formals", type := 45, offset := 14, embedded := false, tag := "", pkgPath := "", byteOffset := 152 }, { name := "Body", type := 46, offset := 15, embedded := false, tag := "", pkgPath := "", byteOffset := 176 }]), 16, 200, [(Value.int IntKind.u8 0), (Value.int IntKind.u8 0), (Value.int IntKind.i64 0), (Value.int IntKind.u8 0), (Value.string { data := #[] }), (Value.slice none 0 0), (Value.int IntKind.u8 0), (Value.int IntKind.u8 0), (Value.int IntKind.u8 0), (Value.int IntKind.i32 0), (Value.string { data := #[] }), (Value.slice none 0 0), (Value.bool false), (Value.slice none 0 0), (Value.slice none 0 0), (Value.slice none 0 0)], true⟩
theorem ty48_ok : TI.Ok Tryz.prog 48 ty48 := TI.mk_ok (by kernel_rfl) (by kernel_rfl) rfl rfl
def ty49 : TI := ⟨(TypeDesc.tuple #[21, 4]), 1, 0, [(Value.tuple #[(Value.int IntKind.i32 0), (Value.bool false)])], false⟩
theorem ty49_ok : TI.Ok Tryz.prog 49 ty49 := TI.mk_ok (by kernel_rfl) (by kernel_rfl) rfl rfl
def ty50 : TI := ⟨(TypeDesc.func #[23, 21, 21] #[21, 4] false), 1, 8, [Value.nilFunc], false⟩
theorem ty50_ok : TI.Ok Tryz.prog 50 ty50 := TI.mk_ok (by kernel_rfl) (by kernel_rfl) rfl rfl
def ty51 : TI := ⟨(TypeDesc.func #[9] #[27] false), 1, 8, [Value.nilFunc], false⟩
theorem ty51_ok : TI.Ok Tryz.prog 51 ty51 := TI.mk_ok (by kernel_rfl) (by kernel_rfl) rfl rfl
def ty52 : TI := ⟨(TypeDesc.func #[9, 27] #[48] false), 1, 8, [Value.nilFunc], false⟩
theorem ty52_ok : TI.Ok Tryz.prog 52 ty52 := TI.mk_ok (by kernel_rfl) (by kernel_rfl) rfl rfl
def ty53 : TI := ⟨(TypeDesc.func #[21] #[27] false), 1, 8, [Value.nilFunc], false⟩
theorem ty53_ok : TI.Ok Tryz.prog 53 ty53 := TI.mk_ok (by kernel_rfl) (by kernel_rfl) rfl rfl
def ty54 : TI := ⟨(TypeDesc.func #[23, 27, 27] #[27] false), 1, 8, [Value.nilFunc], false⟩
theorem ty54_ok : TI.Ok Tryz.prog 54 ty54 := TI.mk_ok (by kernel_rfl) (by kernel_rfl) rfl rfl
def ty55 : TI := ⟨(TypeDesc.func #[27, 28, 21] #[4] false), 1, 8, [Value.nilFunc], false⟩
theorem ty55_ok : TI.Ok Tryz.prog 55 ty55 := TI.mk_ok (by kernel_rfl) (by kernel_rfl) rfl rfl
def ty56 : TI := ⟨(TypeDesc.func #[9, 3] #[48] false), 1, 8, [Value.nilFunc], false⟩
theorem ty56_ok : TI.Ok Tryz.prog 56 ty56 := TI.mk_ok (by kernel_rfl) (by kernel_rfl) rfl rfl
def ty57 : TI := ⟨(TypeDesc.func #[27] #[4] false), 1, 8, [Value.nilFunc], false⟩
theorem ty57_ok : TI.Ok Tryz.prog 57 ty57 := TI.mk_ok (by kernel_rfl) (by kernel_rfl) rfl rfl
def ty58 : TI := ⟨(TypeDesc.struct #[{ name := "v", type := 21, offset := 0, embedded := false, tag := "", pkgPath := "transputer/fold", byteOffset := 0 }, { name := "ok", type := 4, offset := 1, embedded := false, tag := "", pkgPath := "transputer/fold", byteOffset := 4 }]), 2, 8, [(Value.int IntKind.i32 0), (Value.bool false)], true⟩
theorem ty58_ok : TI.Ok Tryz.prog 58 ty58 := TI.mk_ok (by kernel_rfl) (by kernel_rfl) rfl rfl
def ty59 : TI := ⟨(TypeDesc.struct #[{ name := "v", type := 21, offset := 0, embedded := false, tag := "", pkgPath := "transputer/fold", byteOffset := 0 }, { name := "ok", type := 4, offset := 1, embedded := false, tag := "", pkgPath := "transputer/fold", byteOffset := 4 }]), 2, 8, [(Value.int IntKind.i32 0), (Value.bool false)], true⟩
theorem ty59_ok : TI.Ok Tryz.prog 59 ty59 := TI.mk_ok (by kernel_rfl) (by kernel_rfl) rfl rfl
def ty60 : TI := ⟨(TypeDesc.slice 59), 1, 24, [(Value.slice none 0 0)], false⟩
theorem ty60_ok : TI.Ok Tryz.prog 60 ty60 := TI.mk_ok (by kernel_rfl) (by kernel_rfl) rfl rfl
def ty61 : TI := ⟨(TypeDesc.struct #[{ name := "env", type := 28, offset := 0, embedded := false, tag := "", pkgPath := "transputer/fold", byteOffset := 0 }, { name := "values", type := 60, offset := 1, embedded := false, tag := "", pkgPath := "transputer/fold", byteOffset := 24 }]), 2, 48, [(Value.slice none 0 0), (Value.slice none 0 0)], true⟩
theorem ty61_ok : TI.Ok Tryz.prog 61 ty61 := TI.mk_ok (by kernel_rfl) (by kernel_rfl) rfl rfl
def ty62 : TI := ⟨(TypeDesc.struct #[{ name := "env", type := 28, offset := 0, embedded := false, tag := "", pkgPath := "transputer/fold", byteOffset := 0 }, { name := "values", type := 60, offset := 1, embedded := false, tag := "", pkgPath := "transputer/fold", byteOffset := 24 }]), 2, 48, [(Value.slice none 0 0), (Value.slice none 0 0)], true⟩
theorem ty62_ok : TI.Ok Tryz.prog 62 ty62 := TI.mk_ok (by kernel_rfl) (by kernel_rfl) rfl rfl
def ty63 : TI := ⟨(TypeDesc.func #[28] #[62] false), 1, 8, [Value.nilFunc], false⟩
theorem ty63_ok : TI.Ok Tryz.prog 63 ty63 := TI.mk_ok (by kernel_rfl) (by kernel_rfl) rfl rfl
def ty64 : TI := ⟨(TypeDesc.func #[27] #[59] false), 1, 8, [Value.nilFunc], false⟩
theorem ty64_ok : TI.Ok Tryz.prog 64 ty64 := TI.mk_ok (by kernel_rfl) (by kernel_rfl) rfl rfl
def ty65 : TI := ⟨(TypeDesc.func #[27, 28, 3, 66] #[21, 4] false), 1, 8, [Value.nilFunc], false⟩
theorem ty65_ok : TI.Ok Tryz.prog 65 ty65 := TI.mk_ok (by kernel_rfl) (by kernel_rfl) rfl rfl
def ty66 : TI := ⟨(TypeDesc.slice 83), 1, 24, [(Value.slice none 0 0)], false⟩
theorem ty66_ok : TI.Ok Tryz.prog 66 ty66 := TI.mk_ok (by kernel_rfl) (by kernel_rfl) rfl rfl
def ty67 : TI := ⟨(TypeDesc.func #[28] #[66] false), 1, 8, [Value.nilFunc], false⟩
theorem ty67_ok : TI.Ok Tryz.prog 67 ty67 := TI.mk_ok (by kernel_rfl) (by kernel_rfl) rfl rfl
def ty68 : TI := ⟨(TypeDesc.func #[27] #[27] false), 1, 8, [Value.nilFunc], false⟩
theorem ty68_ok : TI.Ok Tryz.prog 68 ty68 := TI.mk_ok (by kernel_rfl) (by kernel_rfl) rfl rfl
def ty69 : TI := ⟨(TypeDesc.func #[27, 28, 66] #[27] false), 1, 8, [Value.nilFunc], false⟩
theorem ty69_ok : TI.Ok Tryz.prog 69 ty69 := TI.mk_ok (by kernel_rfl) (by kernel_rfl) rfl rfl
def ty70 : TI := ⟨(TypeDesc.func #[21, 21] #[21] false), 1, 8, [Value.nilFunc], false⟩
theorem ty70_ok : TI.Ok Tryz.prog 70 ty70 := TI.mk_ok (by kernel_rfl) (by kernel_rfl) rfl rfl
def ty71 : TI := ⟨(TypeDesc.func #[23] #[70] false), 1, 8, [Value.nilFunc], false⟩
theorem ty71_ok : TI.Ok Tryz.prog 71 ty71 := TI.mk_ok (by kernel_rfl) (by kernel_rfl) rfl rfl
def ty72 : TI := ⟨(TypeDesc.func #[27, 3] #[4] false), 1, 8, [Value.nilFunc], false⟩
theorem ty72_ok : TI.Ok Tryz.prog 72 ty72 := TI.mk_ok (by kernel_rfl) (by kernel_rfl) rfl rfl
def ty73 : TI := ⟨(TypeDesc.tuple #[3, 4]), 1, 0, [(Value.tuple #[(Value.int IntKind.i64 0), (Value.bool false)])], false⟩
theorem ty73_ok : TI.Ok Tryz.prog 73 ty73 := TI.mk_ok (by kernel_rfl) (by kernel_rfl) rfl rfl
def ty74 : TI := ⟨(TypeDesc.func #[27] #[3, 4] false), 1, 8, [Value.nilFunc], false⟩
theorem ty74_ok : TI.Ok Tryz.prog 74 ty74 := TI.mk_ok (by kernel_rfl) (by kernel_rfl) rfl rfl
def ty75 : TI := ⟨(TypeDesc.func #[3] #[62] false), 1, 8, [Value.nilFunc], false⟩
theorem ty75_ok : TI.Ok Tryz.prog 75 ty75 := TI.mk_ok (by kernel_rfl) (by kernel_rfl) rfl rfl
def ty76 : TI := ⟨(TypeDesc.func #[9] #[3] false), 1, 8, [Value.nilFunc], false⟩
theorem ty76_ok : TI.Ok Tryz.prog 76 ty76 := TI.mk_ok (by kernel_rfl) (by kernel_rfl) rfl rfl
def ty77 : TI := ⟨(TypeDesc.func #[] #[59] false), 1, 8, [Value.nilFunc], false⟩
theorem ty77_ok : TI.Ok Tryz.prog 77 ty77 := TI.mk_ok (by kernel_rfl) (by kernel_rfl) rfl rfl
def ty78 : TI := ⟨(TypeDesc.func #[24, 59] #[59] false), 1, 8, [Value.nilFunc], false⟩
theorem ty78_ok : TI.Ok Tryz.prog 78 ty78 := TI.mk_ok (by kernel_rfl) (by kernel_rfl) rfl rfl
def ty79 : TI := ⟨(TypeDesc.array 2 21), 2, 8, [(Value.int IntKind.i32 0), (Value.int IntKind.i32 0)], true⟩
theorem ty79_ok : TI.Ok Tryz.prog 79 ty79 := TI.mk_ok (by kernel_rfl) (by kernel_rfl) rfl rfl
def ty80 : TI := ⟨(TypeDesc.func #[27, 3, 3] #[3] false), 1, 8, [Value.nilFunc], false⟩
theorem ty80_ok : TI.Ok Tryz.prog 80 ty80 := TI.mk_ok (by kernel_rfl) (by kernel_rfl) rfl rfl
def ty81 : TI := ⟨(TypeDesc.func #[9, 28, 3] #[3] false), 1, 8, [Value.nilFunc], false⟩
theorem ty81_ok : TI.Ok Tryz.prog 81 ty81 := TI.mk_ok (by kernel_rfl) (by kernel_rfl) rfl rfl
def ty82 : TI := ⟨(TypeDesc.struct #[{ name := "v", type := 21, offset := 0, embedded := false, tag := "", pkgPath := "transputer/transputerref14", byteOffset := 0 }, { name := "ok", type := 4, offset := 1, embedded := false, tag := "", pkgPath := "transputer/transputerref14", byteOffset := 4 }]), 2, 8, [(Value.int IntKind.i32 0), (Value.bool false)], true⟩
theorem ty82_ok : TI.Ok Tryz.prog 82 ty82 := TI.mk_ok (by kernel_rfl) (by kernel_rfl) rfl rfl
def ty83 : TI := ⟨(TypeDesc.struct #[{ name := "v", type := 21, offset := 0, embedded := false, tag := "", pkgPath := "transputer/transputerref14", byteOffset := 0 }, { name := "ok", type := 4, offset := 1, embedded := false, tag := "", pkgPath := "transputer/transputerref14", byteOffset := 4 }]), 2, 8, [(Value.int IntKind.i32 0), (Value.bool false)], true⟩
theorem ty83_ok : TI.Ok Tryz.prog 83 ty83 := TI.mk_ok (by kernel_rfl) (by kernel_rfl) rfl rfl
def ty84 : TI := ⟨(TypeDesc.func #[24, 21] #[21, 4] false), 1, 8, [Value.nilFunc], false⟩
theorem ty84_ok : TI.Ok Tryz.prog 84 ty84 := TI.mk_ok (by kernel_rfl) (by kernel_rfl) rfl rfl
def ty85 : TI := ⟨(TypeDesc.func #[27] #[22] false), 1, 8, [Value.nilFunc], false⟩
theorem ty85_ok : TI.Ok Tryz.prog 85 ty85 := TI.mk_ok (by kernel_rfl) (by kernel_rfl) rfl rfl
def ty86 : TI := ⟨(TypeDesc.func #[27, 28] #[22] false), 1, 8, [Value.nilFunc], false⟩
theorem ty86_ok : TI.Ok Tryz.prog 86 ty86 := TI.mk_ok (by kernel_rfl) (by kernel_rfl) rfl rfl
def ty87 : TI := ⟨(TypeDesc.func #[21, 21] #[4] false), 1, 8, [Value.nilFunc], false⟩
theorem ty87_ok : TI.Ok Tryz.prog 87 ty87 := TI.mk_ok (by kernel_rfl) (by kernel_rfl) rfl rfl
def ty88 : TI := ⟨(TypeDesc.func #[23] #[87] false), 1, 8, [Value.nilFunc], false⟩
theorem ty88_ok : TI.Ok Tryz.prog 88 ty88 := TI.mk_ok (by kernel_rfl) (by kernel_rfl) rfl rfl
def ty89 : TI := ⟨(TypeDesc.func #[4] #[21] false), 1, 8, [Value.nilFunc], false⟩
theorem ty89_ok : TI.Ok Tryz.prog 89 ty89 := TI.mk_ok (by kernel_rfl) (by kernel_rfl) rfl rfl
def ty90 : TI := ⟨(TypeDesc.func #[21, 21] #[21, 4] false), 1, 8, [Value.nilFunc], false⟩
theorem ty90_ok : TI.Ok Tryz.prog 90 ty90 := TI.mk_ok (by kernel_rfl) (by kernel_rfl) rfl rfl
def ty91 : TI := ⟨(TypeDesc.int IntKind.u64), 1, 8, [(Value.int IntKind.u64 0)], false⟩
theorem ty91_ok : TI.Ok Tryz.prog 91 ty91 := TI.mk_ok (by kernel_rfl) (by kernel_rfl) rfl rfl
def ty92 : TI := ⟨(TypeDesc.func #[9] #[4] false), 1, 8, [Value.nilFunc], false⟩
theorem ty92_ok : TI.Ok Tryz.prog 92 ty92 := TI.mk_ok (by kernel_rfl) (by kernel_rfl) rfl rfl
def ty93 : TI := ⟨(TypeDesc.func #[24] #[9] false), 1, 8, [Value.nilFunc], false⟩
theorem ty93_ok : TI.Ok Tryz.prog 93 ty93 := TI.mk_ok (by kernel_rfl) (by kernel_rfl) rfl rfl
def ty94 : TI := ⟨(TypeDesc.func #[107] #[] false), 1, 8, [Value.nilFunc], false⟩
theorem ty94_ok : TI.Ok Tryz.prog 94 ty94 := TI.mk_ok (by kernel_rfl) (by kernel_rfl) rfl rfl
def ty95 : TI := ⟨(TypeDesc.func #[107] #[] false), 1, 8, [Value.nilFunc], false⟩
theorem ty95_ok : TI.Ok Tryz.prog 95 ty95 := TI.mk_ok (by kernel_rfl) (by kernel_rfl) rfl rfl
def ty96 : TI := ⟨(TypeDesc.func #[28] #[95] false), 1, 8, [Value.nilFunc], false⟩
theorem ty96_ok : TI.Ok Tryz.prog 96 ty96 := TI.mk_ok (by kernel_rfl) (by kernel_rfl) rfl rfl
def ty97 : TI := ⟨(TypeDesc.func #[41, 9] #[4] false), 1, 8, [Value.nilFunc], false⟩
theorem ty97_ok : TI.Ok Tryz.prog 97 ty97 := TI.mk_ok (by kernel_rfl) (by kernel_rfl) rfl rfl
def ty98 : TI := ⟨(TypeDesc.func #[21, 4] #[21, 4] false), 1, 8, [Value.nilFunc], false⟩
theorem ty98_ok : TI.Ok Tryz.prog 98 ty98 := TI.mk_ok (by kernel_rfl) (by kernel_rfl) rfl rfl
def ty99 : TI := ⟨(TypeDesc.func #[2] #[21, 4] false), 1, 8, [Value.nilFunc], false⟩
theorem ty99_ok : TI.Ok Tryz.prog 99 ty99 := TI.mk_ok (by kernel_rfl) (by kernel_rfl) rfl rfl
def ty100 : TI := ⟨(TypeDesc.func #[2] #[21] false), 1, 8, [Value.nilFunc], false⟩
theorem ty100_ok : TI.Ok Tryz.prog 100 ty100 := TI.mk_ok (by kernel_rfl) (by kernel_rfl) rfl rfl
def ty101 : TI := ⟨(TypeDesc.func #[23, 21, 21] #[21] false), 1, 8, [Value.nilFunc], false⟩
theorem ty101_ok : TI.Ok Tryz.prog 101 ty101 := TI.mk_ok (by kernel_rfl) (by kernel_rfl) rfl rfl
def ty102 : TI := ⟨(TypeDesc.func #[4] #[21, 4] false), 1, 8, [Value.nilFunc], false⟩
theorem ty102_ok : TI.Ok Tryz.prog 102 ty102 := TI.mk_ok (by kernel_rfl) (by kernel_rfl) rfl rfl
def ty103 : TI := ⟨(TypeDesc.int IntKind.u32), 1, 4, [(Value.int IntKind.u32 0)], false⟩
theorem ty103_ok : TI.Ok Tryz.prog 103 ty103 := TI.mk_ok (by kernel_rfl) (by kernel_rfl) rfl rfl
def ty104 : TI := ⟨(TypeDesc.func #[105] #[21, 4] false), 1, 8, [Value.nilFunc], false⟩
theorem ty104_ok : TI.Ok Tryz.prog 104 ty104 := TI.mk_ok (by kernel_rfl) (by kernel_rfl) rfl rfl
def ty105 : TI := ⟨(TypeDesc.int IntKind.u64), 1, 8, [(Value.int IntKind.u64 0)], false⟩
theorem ty105_ok : TI.Ok Tryz.prog 105 ty105 := TI.mk_ok (by kernel_rfl) (by kernel_rfl) rfl rfl
def ty106 : TI := ⟨(TypeDesc.func #[5] #[4] false), 1, 8, [Value.nilFunc], false⟩
theorem ty106_ok : TI.Ok Tryz.prog 106 ty106 := TI.mk_ok (by kernel_rfl) (by kernel_rfl) rfl rfl
def ty107 : TI := ⟨(TypeDesc.func #[3, 48] #[4] false), 1, 8, [Value.nilFunc], false⟩
theorem ty107_ok : TI.Ok Tryz.prog 107 ty107 := TI.mk_ok (by kernel_rfl) (by kernel_rfl) rfl rfl
def ty108 : TI := ⟨(TypeDesc.func #[41, 9] #[3] false), 1, 8, [Value.nilFunc], false⟩
theorem ty108_ok : TI.Ok Tryz.prog 108 ty108 := TI.mk_ok (by kernel_rfl) (by kernel_rfl) rfl rfl
def ty109 : TI := ⟨(TypeDesc.func #[24] #[4] false), 1, 8, [Value.nilFunc], false⟩
theorem ty109_ok : TI.Ok Tryz.prog 109 ty109 := TI.mk_ok (by kernel_rfl) (by kernel_rfl) rfl rfl
def ty110 : TI := ⟨(TypeDesc.func #[2] #[4] false), 1, 8, [Value.nilFunc], false⟩
theorem ty110_ok : TI.Ok Tryz.prog 110 ty110 := TI.mk_ok (by kernel_rfl) (by kernel_rfl) rfl rfl
def ty111 : TI := ⟨(TypeDesc.func #[21] #[2] false), 1, 8, [Value.nilFunc], false⟩
theorem ty111_ok : TI.Ok Tryz.prog 111 ty111 := TI.mk_ok (by kernel_rfl) (by kernel_rfl) rfl rfl
def ty112 : TI := ⟨(TypeDesc.func #[23, 2, 2] #[2] false), 1, 8, [Value.nilFunc], false⟩
theorem ty112_ok : TI.Ok Tryz.prog 112 ty112 := TI.mk_ok (by kernel_rfl) (by kernel_rfl) rfl rfl
def ty113 : TI := ⟨(TypeDesc.func #[9, 9] #[4] false), 1, 8, [Value.nilFunc], false⟩
theorem ty113_ok : TI.Ok Tryz.prog 113 ty113 := TI.mk_ok (by kernel_rfl) (by kernel_rfl) rfl rfl
def ty114 : TI := ⟨(TypeDesc.func #[9, 9] #[3] false), 1, 8, [Value.nilFunc], false⟩
theorem ty114_ok : TI.Ok Tryz.prog 114 ty114 := TI.mk_ok (by kernel_rfl) (by kernel_rfl) rfl rfl
def ty115 : TI := ⟨(TypeDesc.func #[9, 41] #[4] false), 1, 8, [Value.nilFunc], false⟩
theorem ty115_ok : TI.Ok Tryz.prog 115 ty115 := TI.mk_ok (by kernel_rfl) (by kernel_rfl) rfl rfl
def ty116 : TI := ⟨(TypeDesc.func #[] #[41] false), 1, 8, [Value.nilFunc], false⟩
theorem ty116_ok : TI.Ok Tryz.prog 116 ty116 := TI.mk_ok (by kernel_rfl) (by kernel_rfl) rfl rfl
def ty117 : TI := ⟨(TypeDesc.func #[9, 5] #[3] false), 1, 8, [Value.nilFunc], false⟩
theorem ty117_ok : TI.Ok Tryz.prog 117 ty117 := TI.mk_ok (by kernel_rfl) (by kernel_rfl) rfl rfl
def ty118 : TI := ⟨(TypeDesc.func #[3] #[3] false), 1, 8, [Value.nilFunc], false⟩
theorem ty118_ok : TI.Ok Tryz.prog 118 ty118 := TI.mk_ok (by kernel_rfl) (by kernel_rfl) rfl rfl
def ty119 : TI := ⟨(TypeDesc.tuple #[103, 103]), 1, 0, [(Value.tuple #[(Value.int IntKind.u32 0), (Value.int IntKind.u32 0)])], false⟩
theorem ty119_ok : TI.Ok Tryz.prog 119 ty119 := TI.mk_ok (by kernel_rfl) (by kernel_rfl) rfl rfl
def ty120 : TI := ⟨(TypeDesc.func #[9] #[103, 103] false), 1, 8, [Value.nilFunc], false⟩
theorem ty120_ok : TI.Ok Tryz.prog 120 ty120 := TI.mk_ok (by kernel_rfl) (by kernel_rfl) rfl rfl
def ty121 : TI := ⟨(TypeDesc.func #[] #[9] false), 1, 8, [Value.nilFunc], false⟩
theorem ty121_ok : TI.Ok Tryz.prog 121 ty121 := TI.mk_ok (by kernel_rfl) (by kernel_rfl) rfl rfl
def ty127 : TI := ⟨(TypeDesc.func #[] #[3] false), 1, 8, [Value.nilFunc], false⟩
theorem ty127_ok : TI.Ok Tryz.prog 127 ty127 := TI.mk_ok (by kernel_rfl) (by kernel_rfl) rfl rfl
def ty131 : TI := ⟨(TypeDesc.pointer 5), 1, 8, [(Value.pointer none)], false⟩
theorem ty131_ok : TI.Ok Tryz.prog 131 ty131 := TI.mk_ok (by kernel_rfl) (by kernel_rfl) rfl rfl
def ty136 : TI := ⟨(TypeDesc.slice 24), 1, 24, [(Value.slice none 0 0)], false⟩
theorem ty136_ok : TI.Ok Tryz.prog 136 ty136 := TI.mk_ok (by kernel_rfl) (by kernel_rfl) rfl rfl
def ty137 : TI := ⟨(TypeDesc.struct #[{ name := "Tag", type := 9, offset := 0, embedded := false, tag := "", pkgPath := "", byteOffset := 0 }, { name := "Items", type := 136, offset := 1, embedded := false, tag := "", pkgPath := "", byteOffset := 16 }]), 2, 40, [(Value.string { data := #[] }), (Value.slice none 0 0)], true⟩
theorem ty137_ok : TI.Ok Tryz.prog 137 ty137 := TI.mk_ok (by kernel_rfl) (by kernel_rfl) rfl rfl
def ty138 : TI := ⟨(TypeDesc.struct #[{ name := "Tag", type := 9, offset := 0, embedded := false, tag := "", pkgPath := "", byteOffset := 0 }, { name := "Items", type := 136, offset := 1, embedded := false, tag := "", pkgPath := "", byteOffset := 16 }]), 2, 40, [(Value.string { data := #[] }), (Value.slice none 0 0)], true⟩
theorem ty138_ok : TI.Ok Tryz.prog 138 ty138 := TI.mk_ok (by kernel_rfl) (by kernel_rfl) rfl rfl
def ty139 : TI := ⟨(TypeDesc.struct #[{ name := "Val", type := 4, offset := 0, embedded := false, tag := "", pkgPath := "", byteOffset := 0 }, { name := "Type", type := 40, offset := 1, embedded := false, tag := "", pkgPath := "", byteOffset := 8 }, { name := "Name", type := 9, offset := 5, embedded := false, tag := "", pkgPath := "", byteOffset := 48 }]), 6, 64, [(Value.bool false), (Value.int IntKind.u8 0), (Value.int IntKind.i64 0), (Value.int IntKind.u8 0), (Value.string { data := #[] }), (Value.string { data := #[] })], true⟩
theorem ty139_ok : TI.Ok Tryz.prog 139 ty139 := TI.mk_ok (by kernel_rfl) (by kernel_rfl) rfl rfl
def ty140 : TI := ⟨(TypeDesc.struct #[{ name := "Val", type := 4, offset := 0, embedded := false, tag := "", pkgPath := "", byteOffset := 0 }, { name := "Type", type := 40, offset := 1, embedded := false, tag := "", pkgPath := "", byteOffset := 8 }, { name := "Name", type := 9, offset := 5, embedded := false, tag := "", pkgPath := "", byteOffset := 48 }]), 6, 64, [(Value.bool false), (Value.int IntKind.u8 0), (Value.int IntKind.i64 0), (Value.int IntKind.u8 0), (Value.string { data := #[] }), (Value.string { data := #[] })], true⟩
theorem ty140_ok : TI.Ok Tryz.prog 140 ty140 := TI.mk_ok (by kernel_rfl) (by kernel_rfl) rfl rfl
def ty141 : TI := ⟨(TypeDesc.int IntKind.u8), 1, 1, [(Value.int IntKind.u8 0)], false⟩
theorem ty141_ok : TI.Ok Tryz.prog 141 ty141 := TI.mk_ok (by kernel_rfl) (by kernel_rfl) rfl rfl
def ty142 : TI := ⟨(TypeDesc.struct #[{ name := "Name", type := 9, offset := 0, embedded := false, tag := "", pkgPath := "", byteOffset := 0 }, { name := "Base", type := 27, offset := 1, embedded := false, tag := "", pkgPath := "", byteOffset := 16 }, { name := "Count", type := 27, offset := 7, embedded := false, tag := "", pkgPath := "", byteOffset := 64 }]), 13, 112, [(Value.string { data := #[] }), (Value.int IntKind.u8 0), (Value.int IntKind.u8 0), (Value.int IntKind.u8 0), (Value.int IntKind.i32 0), (Value.string { data := #[] }), (Value.slice none 0 0), (Value.int IntKind.u8 0), (Value.int IntKind.u8 0), (Value.int IntKind.u8 0), (Value.int IntKind.i32 0), (Value.string { data := #[] }), (Value.slice none 0 0)], true⟩
theorem ty142_ok : TI.Ok Tryz.prog 142 ty142 := TI.mk_ok (by kernel_rfl) (by kernel_rfl) rfl rfl
def ty143 : TI := ⟨(TypeDesc.struct #[{ name := "Name", type := 9, offset := 0, embedded := false, tag := "", pkgPath := "", byteOffset := 0 }, { name := "Base", type := 27, offset := 1, embedded := false, tag := "", pkgPath := "", byteOffset := 16 }, { name := "Count", type := 27, offset := 7, embedded := false, tag := "", pkgPath := "", byteOffset := 64 }]), 13, 112, [(Value.string { data := #[] }), (Value.int IntKind.u8 0), (Value.int IntKind.u8 0), (Value.int IntKind.u8 0), (Value.int IntKind.i32 0), (Value.string { data := #[] }), (Value.slice none 0 0), (Value.int IntKind.u8 0), (Value.int IntKind.u8 0), (Value.int IntKind.u8 0), (Value.int IntKind.i32 0), (Value.string { data := #[] }), (Value.slice none 0 0)], true⟩
theorem ty143_ok : TI.Ok Tryz.prog 143 ty143 := TI.mk_ok (by kernel_rfl) (by kernel_rfl) rfl rfl
def ty144 : TI := ⟨(TypeDesc.slice 151), 1, 24, [(Value.slice none 0 0)], false⟩
theorem ty144_ok : TI.Ok Tryz.prog 144 ty144 := TI.mk_ok (by kernel_rfl) (by kernel_rfl) rfl rfl
def ty145 : TI := ⟨(TypeDesc.slice 3), 1, 24, [(Value.slice none 0 0)], false⟩
theorem ty145_ok : TI.Ok Tryz.prog 145 ty145 := TI.mk_ok (by kernel_rfl) (by kernel_rfl) rfl rfl
def ty146 : TI := ⟨(TypeDesc.struct #[{ name := "Kind", type := 141, offset := 0, embedded := false, tag := "", pkgPath := "", byteOffset := 0 }, { name := "Name", type := 9, offset := 1, embedded := false, tag := "", pkgPath := "", byteOffset := 8 }, { name := "Chan", type := 27, offset := 2, embedded := false, tag := "", pkgPath := "", byteOffset := 24 }, { name := "Targets", type := 25, offset := 8, embedded := false, tag := "", pkgPath := "", byteOffset := 72 }, { name := "Exprs", type := 25, offset := 9, embedded := false, tag := "", pkgPath := "", byteOffset := 96 }, { name := "Rep", type := 143, offset := 10, embedded := false, tag := "", pkgPath := "", byteOffset := 120 }, { name := "Guards", type := 144, offset := 23, embedded := false, tag := "", pkgPath := "", byteOffset := 232 }, { name := "L", type := 46, offset := 24, embedded := false, tag := "", pkgPath := "", byteOffset := 256 }, { name := "Procs", type := 145, offset := 25, embedded := false, tag := "", pkgPath := "", byteOffset := 280 }, { name := "Spec", type := 48, offset := 26, embedded := false, tag := "", pkgPath := "", byteOffset := 304 }]), 42, 504, [(Value.int IntKind.u8 0), (Value.string { data := #[] }), (Value.int IntKind.u8 0), (Value.int IntKind.u8 0), (Value.int IntKind.u8 0), (Value.int IntKind.i32 0), (Value.string { data := #[] }), (Value.slice none 0 0), (Value.slice none 0 0), (Value.slice none 0 0), (Value.string { data := #[] }), (Value.int IntKind.u8 0), (Value.int IntKind.u8 0), (Value.int IntKind.u8 0), (Value.int IntKind.i32 0), (Value.string { data := #[] }), (Value.slice none 0 0), (Value.int IntKind.u8 0), (Value.int IntKind.u8 0), (Value.int IntKind.u8 0), (Value.int IntKind.i32 0), (Value.string { data := #[] }), (Value.slice none 0 0), (Value.slice none 0 0), (Value.slice none 0 0), (Value.slice none 0 0), (Value.int IntKind.u8 0), (Value.int IntKind.u8 0), (Value.int IntKind.i64 0), (Value.int IntKind.u8 0), (Value.string { data := #[] }), (Value.slice none 0 0), (Value.int IntKind.u8 0), (Value.int IntKind.u8 0), (Value.int IntKind.u8 0), (Value.int IntKind.i32 0), (Value.string { data := #[] }), (Value.slice none 0 0), (Value.bool false), (Value.slice none 0 0), (Value.slice none 0 0), (Value.slice none 0 0)], true⟩
theorem ty146_ok : TI.Ok Tryz.prog 146 ty146 := TI.mk_ok (by kernel_rfl) (by kernel_rfl) rfl rfl
def ty147 : TI := ⟨(TypeDesc.struct #[{ name := "Kind", type := 141, offset := 0, embedded := false, tag := "", pkgPath := "", byteOffset := 0 }, { name := "Name", type := 9, offset := 1, embedded := false, tag := "", pkgPath := "", byteOffset := 8 }, { name := "Chan", type := 27, offset := 2, embedded := false, tag := "", pkgPath := "", byteOffset := 24 }, { name := "Targets", type := 25, offset := 8, embedded := false, tag := "", pkgPath := "", byteOffset := 72 }, { name := "Exprs", type := 25, offset := 9, embedded := false, tag := "", pkgPath := "", byteOffset := 96 }, { name := "Rep", type := 143, offset := 10, embedded := false, tag := "", pkgPath := "", byteOffset := 120 }, { name := "Guards", type := 144, offset := 23, embedded := false, tag := "", pkgPath := "", byteOffset := 232 }, { name := "L", type := 46, offset := 24, embedded := false, tag := "", pkgPath := "", byteOffset := 256 }, { name := "Procs", type := 145, offset := 25, embedded := false, tag := "", pkgPath := "", byteOffset := 280 }, { name := "Spec", type := 48, offset := 26, embedded := false, tag := "", pkgPath := "", byteOffset := 304 }]), 42, 504, [(Value.int IntKind.u8 0), (Value.string { data := #[] }), (Value.int IntKind.u8 0), (Value.int IntKind.u8 0), (Value.int IntKind.u8 0), (Value.int IntKind.i32 0), (Value.string { data := #[] }), (Value.slice none 0 0), (Value.slice none 0 0), (Value.slice none 0 0), (Value.string { data := #[] }), (Value.int IntKind.u8 0), (Value.int IntKind.u8 0), (Value.int IntKind.u8 0), (Value.int IntKind.i32 0), (Value.string { data := #[] }), (Value.slice none 0 0), (Value.int IntKind.u8 0), (Value.int IntKind.u8 0), (Value.int IntKind.u8 0), (Value.int IntKind.i32 0), (Value.string { data := #[] }), (Value.slice none 0 0), (Value.slice none 0 0), (Value.slice none 0 0), (Value.slice none 0 0), (Value.int IntKind.u8 0), (Value.int IntKind.u8 0), (Value.int IntKind.i64 0), (Value.int IntKind.u8 0), (Value.string { data := #[] }), (Value.slice none 0 0), (Value.int IntKind.u8 0), (Value.int IntKind.u8 0), (Value.int IntKind.u8 0), (Value.int IntKind.i32 0), (Value.string { data := #[] }), (Value.slice none 0 0), (Value.bool false), (Value.slice none 0 0), (Value.slice none 0 0), (Value.slice none 0 0)], true⟩
theorem ty147_ok : TI.Ok Tryz.prog 147 ty147 := TI.mk_ok (by kernel_rfl) (by kernel_rfl) rfl rfl
def ty149 : TI := ⟨(TypeDesc.int IntKind.u8), 1, 1, [(Value.int IntKind.u8 0)], false⟩
theorem ty149_ok : TI.Ok Tryz.prog 149 ty149 := TI.mk_ok (by kernel_rfl) (by kernel_rfl) rfl rfl
def ty150 : TI := ⟨(TypeDesc.struct #[{ name := "Kind", type := 149, offset := 0, embedded := false, tag := "", pkgPath := "", byteOffset := 0 }, { name := "Name", type := 9, offset := 1, embedded := false, tag := "", pkgPath := "", byteOffset := 8 }, { name := "Cond", type := 27, offset := 2, embedded := false, tag := "", pkgPath := "", byteOffset := 24 }, { name := "Chan", type := 27, offset := 8, embedded := false, tag := "", pkgPath := "", byteOffset := 72 }, { name := "Targets", type := 25, offset := 14, embedded := false, tag := "", pkgPath := "", byteOffset := 120 }, { name := "Values", type := 25, offset := 15, embedded := false, tag := "", pkgPath := "", byteOffset := 144 }, { name := "Time", type := 27, offset := 16, embedded := false, tag := "", pkgPath := "", byteOffset := 168 }, { name := "Body", type := 46, offset := 22, embedded := false, tag := "", pkgPath := "", byteOffset := 216 }]), 23, 240, [(Value.int IntKind.u8 0), (Value.string { data := #[] }), (Value.int IntKind.u8 0), (Value.int IntKind.u8 0), (Value.int IntKind.u8 0), (Value.int IntKind.i32 0), (Value.string { data := #[] }), (Value.slice none 0 0), (Value.int IntKind.u8 0), (Value.int IntKind.u8 0), (Value.int IntKind.u8 0), (Value.int IntKind.i32 0), (Value.string { data := #[] }), (Value.slice none 0 0), (Value.slice none 0 0), (Value.slice none 0 0), (Value.int IntKind.u8 0), (Value.int IntKind.u8 0), (Value.int IntKind.u8 0), (Value.int IntKind.i32 0), (Value.string { data := #[] }), (Value.slice none 0 0), (Value.slice none 0 0)], true⟩
theorem ty150_ok : TI.Ok Tryz.prog 150 ty150 := TI.mk_ok (by kernel_rfl) (by kernel_rfl) rfl rfl
def ty151 : TI := ⟨(TypeDesc.struct #[{ name := "Kind", type := 149, offset := 0, embedded := false, tag := "", pkgPath := "", byteOffset := 0 }, { name := "Name", type := 9, offset := 1, embedded := false, tag := "", pkgPath := "", byteOffset := 8 }, { name := "Cond", type := 27, offset := 2, embedded := false, tag := "", pkgPath := "", byteOffset := 24 }, { name := "Chan", type := 27, offset := 8, embedded := false, tag := "", pkgPath := "", byteOffset := 72 }, { name := "Targets", type := 25, offset := 14, embedded := false, tag := "", pkgPath := "", byteOffset := 120 }, { name := "Values", type := 25, offset := 15, embedded := false, tag := "", pkgPath := "", byteOffset := 144 }, { name := "Time", type := 27, offset := 16, embedded := false, tag := "", pkgPath := "", byteOffset := 168 }, { name := "Body", type := 46, offset := 22, embedded := false, tag := "", pkgPath := "", byteOffset := 216 }]), 23, 240, [(Value.int IntKind.u8 0), (Value.string { data := #[] }), (Value.int IntKind.u8 0), (Value.int IntKind.u8 0), (Value.int IntKind.u8 0), (Value.int IntKind.i32 0), (Value.string { data := #[] }), (Value.slice none 0 0), (Value.int IntKind.u8 0), (Value.int IntKind.u8 0), (Value.int IntKind.u8 0), (Value.int IntKind.i32 0), (Value.string { data := #[] }), (Value.slice none 0 0), (Value.slice none 0 0), (Value.slice none 0 0), (Value.int IntKind.u8 0), (Value.int IntKind.u8 0), (Value.int IntKind.u8 0), (Value.int IntKind.i32 0), (Value.string { data := #[] }), (Value.slice none 0 0), (Value.slice none 0 0)], true⟩
theorem ty151_ok : TI.Ok Tryz.prog 151 ty151 := TI.mk_ok (by kernel_rfl) (by kernel_rfl) rfl rfl
def tt : TT := (.node 75 ty75 (.node 43 ty43 (.node 27 ty27 (.node 13 ty13 (.node 4 ty4 (.node 2 ty2 (.node 1 ty1 (.node 0 ty0 .leaf .leaf) .leaf) (.node 3 ty3 .leaf .leaf)) (.node 9 ty9 (.node 5 ty5 .leaf .leaf) (.node 12 ty12 .leaf .leaf))) (.node 23 ty23 (.node 21 ty21 (.node 20 ty20 .leaf .leaf) (.node 22 ty22 .leaf .leaf)) (.node 25 ty25 (.node 24 ty24 .leaf .leaf) (.node 26 ty26 .leaf .leaf)))) (.node 35 ty35 (.node 31 ty31 (.node 29 ty29 (.node 28 ty28 .leaf .leaf) (.node 30 ty30 .leaf .leaf)) (.node 33 ty33 (.node 32 ty32 .leaf .leaf) (.node 34 ty34 .leaf .leaf))) (.node 39 ty39 (.node 37 ty37 (.node 36 ty36 .leaf .leaf) (.node 38 ty38 .leaf .leaf)) (.node 41 ty41 (.node 40 ty40 .leaf .leaf) (.node 42 ty42 .leaf .leaf))))) (.node 59 ty59 (.node 51 ty51 (.node 47 ty47 (.node 45 ty45 (.node 44 ty44 .leaf .leaf) (.node 46 ty46 .leaf .leaf)) (.node 49 ty49 (.node 48 ty48 .leaf .leaf) (.node 50 ty50 .leaf .leaf))) (.node 55 ty55 (.node 53 ty53 (.node 52 ty52 .leaf .leaf) (.node 54 ty54 .leaf .leaf)) (.node 57 ty57 (.node 56 ty56 .leaf .leaf) (.node 58 ty58 .leaf .leaf)))) (.node 67 ty67 (.node 63 ty63 (.node 61 ty61 (.node 60 ty60 .leaf .leaf) (.node 62 ty62 .leaf .leaf)) (.node 65 ty65 (.node 64 ty64 .leaf .leaf) (.node 66 ty66 .leaf .leaf))) (.node 71 ty71 (.node 69 ty69 (.node 68 ty68 .leaf .leaf) (.node 70 ty70 .leaf .leaf)) (.node 73 ty73 (.node 72 ty72 .leaf .leaf) (.node 74 ty74 .leaf .leaf)))))) (.node 107 ty107 (.node 91 ty91 (.node 83 ty83 (.node 79 ty79 (.node 77 ty77 (.node 76 ty76 .leaf .leaf) (.node 78 ty78 .leaf .leaf)) (.node 81 ty81 (.node 80 ty80 .leaf .leaf) (.node 82 ty82 .leaf .leaf))) (.node 87 ty87 (.node 85 ty85 (.node 84 ty84 .leaf .leaf) (.node 86 ty86 .leaf .leaf)) (.node 89 ty89 (.node 88 ty88 .leaf .leaf) (.node 90 ty90 .leaf .leaf)))) (.node 99 ty99 (.node 95 ty95 (.node 93 ty93 (.node 92 ty92 .leaf .leaf) (.node 94 ty94 .leaf .leaf)) (.node 97 ty97 (.node 96 ty96 .leaf .leaf) (.node 98 ty98 .leaf .leaf))) (.node 103 ty103 (.node 101 ty101 (.node 100 ty100 .leaf .leaf) (.node 102 ty102 .leaf .leaf)) (.node 105 ty105 (.node 104 ty104 .leaf .leaf) (.node 106 ty106 .leaf .leaf))))) (.node 131 ty131 (.node 115 ty115 (.node 111 ty111 (.node 109 ty109 (.node 108 ty108 .leaf .leaf) (.node 110 ty110 .leaf .leaf)) (.node 113 ty113 (.node 112 ty112 .leaf .leaf) (.node 114 ty114 .leaf .leaf))) (.node 119 ty119 (.node 117 ty117 (.node 116 ty116 .leaf .leaf) (.node 118 ty118 .leaf .leaf)) (.node 121 ty121 (.node 120 ty120 .leaf .leaf) (.node 127 ty127 .leaf .leaf)))) (.node 143 ty143 (.node 139 ty139 (.node 137 ty137 (.node 136 ty136 .leaf .leaf) (.node 138 ty138 .leaf .leaf)) (.node 141 ty141 (.node 140 ty140 .leaf .leaf) (.node 142 ty142 .leaf .leaf))) (.node 147 ty147 (.node 145 ty145 (.node 144 ty144 .leaf .leaf) (.node 146 ty146 .leaf .leaf)) (.node 150 ty150 (.node 149 ty149 .leaf .leaf) (.node 151 ty151 .leaf .leaf)))))))
theorem tt_ok : tt.Ok Tryz.prog := ⟨ty75_ok, ⟨ty43_ok, ⟨ty27_ok, ⟨ty13_ok, ⟨ty4_ok, ⟨ty2_ok, ⟨ty1_ok, ⟨ty0_ok, trivial, trivial⟩, trivial⟩, ⟨ty3_ok, trivial, trivial⟩⟩, ⟨ty9_ok, ⟨ty5_ok, trivial, trivial⟩, ⟨ty12_ok, trivial, trivial⟩⟩⟩, ⟨ty23_ok, ⟨ty21_ok, ⟨ty20_ok, trivial, trivial⟩, ⟨ty22_ok, trivial, trivial⟩⟩, ⟨ty25_ok, ⟨ty24_ok, trivial, trivial⟩, ⟨ty26_ok, trivial, trivial⟩⟩⟩⟩, ⟨ty35_ok, ⟨ty31_ok, ⟨ty29_ok, ⟨ty28_ok, trivial, trivial⟩, ⟨ty30_ok, trivial, trivial⟩⟩, ⟨ty33_ok, ⟨ty32_ok, trivial, trivial⟩, ⟨ty34_ok, trivial, trivial⟩⟩⟩, ⟨ty39_ok, ⟨ty37_ok, ⟨ty36_ok, trivial, trivial⟩, ⟨ty38_ok, trivial, trivial⟩⟩, ⟨ty41_ok, ⟨ty40_ok, trivial, trivial⟩, ⟨ty42_ok, trivial, trivial⟩⟩⟩⟩⟩, ⟨ty59_ok, ⟨ty51_ok, ⟨ty47_ok, ⟨ty45_ok, ⟨ty44_ok, trivial, trivial⟩, ⟨ty46_ok, trivial, trivial⟩⟩, ⟨ty49_ok, ⟨ty48_ok, trivial, trivial⟩, ⟨ty50_ok, trivial, trivial⟩⟩⟩, ⟨ty55_ok, ⟨ty53_ok, ⟨ty52_ok, trivial, trivial⟩, ⟨ty54_ok, trivial, trivial⟩⟩, ⟨ty57_ok, ⟨ty56_ok, trivial, trivial⟩, ⟨ty58_ok, trivial, trivial⟩⟩⟩⟩, ⟨ty67_ok, ⟨ty63_ok, ⟨ty61_ok, ⟨ty60_ok, trivial, trivial⟩, ⟨ty62_ok, trivial, trivial⟩⟩, ⟨ty65_ok, ⟨ty64_ok, trivial, trivial⟩, ⟨ty66_ok, trivial, trivial⟩⟩⟩, ⟨ty71_ok, ⟨ty69_ok, ⟨ty68_ok, trivial, trivial⟩, ⟨ty70_ok, trivial, trivial⟩⟩, ⟨ty73_ok, ⟨ty72_ok, trivial, trivial⟩, ⟨ty74_ok, trivial, trivial⟩⟩⟩⟩⟩⟩, ⟨ty107_ok, ⟨ty91_ok, ⟨ty83_ok, ⟨ty79_ok, ⟨ty77_ok, ⟨ty76_ok, trivial, trivial⟩, ⟨ty78_ok, trivial, trivial⟩⟩, ⟨ty81_ok, ⟨ty80_ok, trivial, trivial⟩, ⟨ty82_ok, trivial, trivial⟩⟩⟩, ⟨ty87_ok, ⟨ty85_ok, ⟨ty84_ok, trivial, trivial⟩, ⟨ty86_ok, trivial, trivial⟩⟩, ⟨ty89_ok, ⟨ty88_ok, trivial, trivial⟩, ⟨ty90_ok, trivial, trivial⟩⟩⟩⟩, ⟨ty99_ok, ⟨ty95_ok, ⟨ty93_ok, ⟨ty92_ok, trivial, trivial⟩, ⟨ty94_ok, trivial, trivial⟩⟩, ⟨ty97_ok, ⟨ty96_ok, trivial, trivial⟩, ⟨ty98_ok, trivial, trivial⟩⟩⟩, ⟨ty103_ok, ⟨ty101_ok, ⟨ty100_ok, trivial, trivial⟩, ⟨ty102_ok, trivial, trivial⟩⟩, ⟨ty105_ok, ⟨ty104_ok, trivial, trivial⟩, ⟨ty106_ok, trivial, trivial⟩⟩⟩⟩⟩, ⟨ty131_ok, ⟨ty115_ok, ⟨ty111_ok, ⟨ty109_ok, ⟨ty108_ok, trivial, trivial⟩, ⟨ty110_ok, trivial, trivial⟩⟩, ⟨ty113_ok, ⟨ty112_ok, trivial, trivial⟩, ⟨ty114_ok, trivial, trivial⟩⟩⟩, ⟨ty119_ok, ⟨ty117_ok, ⟨ty116_ok, trivial, trivial⟩, ⟨ty118_ok, trivial, trivial⟩⟩, ⟨ty121_ok, ⟨ty120_ok, trivial, trivial⟩, ⟨ty127_ok, trivial, trivial⟩⟩⟩⟩, ⟨ty143_ok, ⟨ty139_ok, ⟨ty137_ok, ⟨ty136_ok, trivial, trivial⟩, ⟨ty138_ok, trivial, trivial⟩⟩, ⟨ty141_ok, ⟨ty140_ok, trivial, trivial⟩, ⟨ty142_ok, trivial, trivial⟩⟩⟩, ⟨ty147_ok, ⟨ty145_ok, ⟨ty144_ok, trivial, trivial⟩, ⟨ty146_ok, trivial, trivial⟩⟩, ⟨ty150_ok, ⟨ty149_ok, trivial, trivial⟩, ⟨ty151_ok, trivial, trivial⟩⟩⟩⟩⟩⟩⟩
end Go.Proofs.YtlnbmocgnkjlfaaGreat
