/-
  The table of this seat's types, by program (tt.py), each row against the loaded program.
-/
import Derived.Test.YtgmeahcclogfmaaDoorLa
import Derived.Test.YtgmeahcclogfmaaDoorChecked
namespace Go.Proofs.YtgmeahcclogfmaaDoor
open Go Go.Tp
set_option maxRecDepth 100000
set_option linter.unusedSimpArgs false
def ty0 : TI := ⟨(TypeDesc.tuple #[]), 1, 0, [(Value.tuple #[])], false⟩
theorem ty0_ok : TI.Ok Tryd.prog 0 ty0 := TI.mk_ok (by kernel_rfl) (by kernel_rfl) rfl rfl
def ty1 : TI := ⟨(TypeDesc.func #[] #[] false), 1, 8, [Value.nilFunc], false⟩
theorem ty1_ok : TI.Ok Tryd.prog 1 ty1 := TI.mk_ok (by kernel_rfl) (by kernel_rfl) rfl rfl
def ty2 : TI := ⟨(TypeDesc.int IntKind.i64), 1, 8, [(Value.int IntKind.i64 0)], false⟩
theorem ty2_ok : TI.Ok Tryd.prog 2 ty2 := TI.mk_ok (by kernel_rfl) (by kernel_rfl) rfl rfl
def ty3 : TI := ⟨(TypeDesc.int IntKind.i64), 1, 8, [(Value.int IntKind.i64 0)], false⟩
theorem ty3_ok : TI.Ok Tryd.prog 3 ty3 := TI.mk_ok (by kernel_rfl) (by kernel_rfl) rfl rfl
def ty4 : TI := ⟨TypeDesc.bool, 1, 1, [(Value.bool false)], false⟩
theorem ty4_ok : TI.Ok Tryd.prog 4 ty4 := TI.mk_ok (by kernel_rfl) (by kernel_rfl) rfl rfl
def ty5 : TI := ⟨(TypeDesc.int IntKind.u8), 1, 1, [(Value.int IntKind.u8 0)], false⟩
theorem ty5_ok : TI.Ok Tryd.prog 5 ty5 := TI.mk_ok (by kernel_rfl) (by kernel_rfl) rfl rfl
def ty9 : TI := ⟨TypeDesc.string, 1, 16, [(Value.string { data := #[] })], false⟩
theorem ty9_ok : TI.Ok Tryd.prog 9 ty9 := TI.mk_ok (by kernel_rfl) (by kernel_rfl) rfl rfl
def ty12 : TI := ⟨(TypeDesc.int IntKind.u64), 1, 8, [(Value.int IntKind.u64 0)], false⟩
theorem ty12_ok : TI.Ok Tryd.prog 12 ty12 := TI.mk_ok (by kernel_rfl) (by kernel_rfl) rfl rfl
def ty13 : TI := ⟨(TypeDesc.struct #[{ name := "msg", type := 9, offset := 0, embedded := false, tag := "", pkgPath := "runtime", byteOffset := 0 }, { name := "addr", type := 12, offset := 1, embedded := false, tag := "", pkgPath := "runtime", byteOffset := 16 }]), 2, 24, [(Value.string { data := #[] }), (Value.int IntKind.u64 0)], true⟩
theorem ty13_ok : TI.Ok Tryd.prog 13 ty13 := TI.mk_ok (by kernel_rfl) (by kernel_rfl) rfl rfl
def ty20 : TI := ⟨(TypeDesc.interface #[]), 1, 16, [Value.nilIface], false⟩
theorem ty20_ok : TI.Ok Tryd.prog 20 ty20 := TI.mk_ok (by kernel_rfl) (by kernel_rfl) rfl rfl
def ty21 : TI := ⟨(TypeDesc.int IntKind.i32), 1, 4, [(Value.int IntKind.i32 0)], false⟩
theorem ty21_ok : TI.Ok Tryd.prog 21 ty21 := TI.mk_ok (by kernel_rfl) (by kernel_rfl) rfl rfl
def ty22 : TI := ⟨(TypeDesc.slice 27), 1, 24, [(Value.slice none 0 0)], false⟩
theorem ty22_ok : TI.Ok Tryd.prog 22 ty22 := TI.mk_ok (by kernel_rfl) (by kernel_rfl) rfl rfl
def ty23 : TI := ⟨(TypeDesc.struct #[{ name := "Chans", type := 3, offset := 0, embedded := false, tag := "", pkgPath := "", byteOffset := 0 }, { name := "Procs", type := 22, offset := 1, embedded := false, tag := "", pkgPath := "", byteOffset := 8 }]), 2, 32, [(Value.int IntKind.i64 0), (Value.slice none 0 0)], true⟩
theorem ty23_ok : TI.Ok Tryd.prog 23 ty23 := TI.mk_ok (by kernel_rfl) (by kernel_rfl) rfl rfl
def ty24 : TI := ⟨(TypeDesc.struct #[{ name := "Chans", type := 3, offset := 0, embedded := false, tag := "", pkgPath := "", byteOffset := 0 }, { name := "Procs", type := 22, offset := 1, embedded := false, tag := "", pkgPath := "", byteOffset := 8 }]), 2, 32, [(Value.int IntKind.i64 0), (Value.slice none 0 0)], true⟩
theorem ty24_ok : TI.Ok Tryd.prog 24 ty24 := TI.mk_ok (by kernel_rfl) (by kernel_rfl) rfl rfl
def ty25 : TI := ⟨(TypeDesc.func #[24] #[4] false), 1, 8, [Value.nilFunc], false⟩
theorem ty25_ok : TI.Ok Tryd.prog 25 ty25 := TI.mk_ok (by kernel_rfl) (by kernel_rfl) rfl rfl
def ty26 : TI := ⟨(TypeDesc.func #[] #[4] false), 1, 8, [Value.nilFunc], false⟩
theorem ty26_ok : TI.Ok Tryd.prog 26 ty26 := TI.mk_ok (by kernel_rfl) (by kernel_rfl) rfl rfl
def ty27 : TI := ⟨(TypeDesc.slice 28), 1, 24, [(Value.slice none 0 0)], false⟩
theorem ty27_ok : TI.Ok Tryd.prog 27 ty27 := TI.mk_ok (by kernel_rfl) (by kernel_rfl) rfl rfl
def ty28 : TI := ⟨(TypeDesc.slice 3), 1, 24, [(Value.slice none 0 0)], false⟩
theorem ty28_ok : TI.Ok Tryd.prog 28 ty28 := TI.mk_ok (by kernel_rfl) (by kernel_rfl) rfl rfl
def ty29 : TI := ⟨(TypeDesc.tuple #[24, 4]), 1, 0, [(Value.tuple #[(Value.agg #[(Value.int IntKind.i64 0), (Value.slice none 0 0)]), (Value.bool false)])], false⟩
theorem ty29_ok : TI.Ok Tryd.prog 29 ty29 := TI.mk_ok (by kernel_rfl) (by kernel_rfl) rfl rfl
def ty30 : TI := ⟨(TypeDesc.func #[42] #[24, 4] false), 1, 8, [Value.nilFunc], false⟩
theorem ty30_ok : TI.Ok Tryd.prog 30 ty30 := TI.mk_ok (by kernel_rfl) (by kernel_rfl) rfl rfl
def ty31 : TI := ⟨(TypeDesc.slice 64), 1, 24, [(Value.slice none 0 0)], false⟩
theorem ty31_ok : TI.Ok Tryd.prog 31 ty31 := TI.mk_ok (by kernel_rfl) (by kernel_rfl) rfl rfl
def ty32 : TI := ⟨(TypeDesc.slice 65), 1, 24, [(Value.slice none 0 0)], false⟩
theorem ty32_ok : TI.Ok Tryd.prog 32 ty32 := TI.mk_ok (by kernel_rfl) (by kernel_rfl) rfl rfl
def ty33 : TI := ⟨(TypeDesc.int IntKind.u8), 1, 1, [(Value.int IntKind.u8 0)], false⟩
theorem ty33_ok : TI.Ok Tryd.prog 33 ty33 := TI.mk_ok (by kernel_rfl) (by kernel_rfl) rfl rfl
def ty34 : TI := ⟨(TypeDesc.int IntKind.u8), 1, 1, [(Value.int IntKind.u8 0)], false⟩
theorem ty34_ok : TI.Ok Tryd.prog 34 ty34 := TI.mk_ok (by kernel_rfl) (by kernel_rfl) rfl rfl
def ty35 : TI := ⟨(TypeDesc.slice 91), 1, 24, [(Value.slice none 0 0)], false⟩
theorem ty35_ok : TI.Ok Tryd.prog 35 ty35 := TI.mk_ok (by kernel_rfl) (by kernel_rfl) rfl rfl
def ty36 : TI := ⟨(TypeDesc.slice 71), 1, 24, [(Value.slice none 0 0)], false⟩
theorem ty36_ok : TI.Ok Tryd.prog 36 ty36 := TI.mk_ok (by kernel_rfl) (by kernel_rfl) rfl rfl
def ty37 : TI := ⟨(TypeDesc.slice 97), 1, 24, [(Value.slice none 0 0)], false⟩
theorem ty37_ok : TI.Ok Tryd.prog 37 ty37 := TI.mk_ok (by kernel_rfl) (by kernel_rfl) rfl rfl
def ty38 : TI := ⟨(TypeDesc.slice 40), 1, 24, [(Value.slice none 0 0)], false⟩
theorem ty38_ok : TI.Ok Tryd.prog 38 ty38 := TI.mk_ok (by kernel_rfl) (by kernel_rfl) rfl rfl
def ty39 : TI := ⟨(TypeDesc.struct #[{ name := "Kind", type := 33, offset := 0, embedded := false, tag := "", pkgPath := "", byteOffset := 0 }, { name := "C", type := 3, offset := 1, embedded := false, tag := "", pkgPath := "", byteOffset := 8 }, { name := "V", type := 3, offset := 2, embedded := false, tag := "", pkgPath := "", byteOffset := 16 }, { name := "Item", type := 34, offset := 3, embedded := false, tag := "", pkgPath := "", byteOffset := 24 }, { name := "To", type := 35, offset := 4, embedded := false, tag := "", pkgPath := "", byteOffset := 32 }, { name := "E", type := 36, offset := 5, embedded := false, tag := "", pkgPath := "", byteOffset := 56 }, { name := "Guards", type := 37, offset := 6, embedded := false, tag := "", pkgPath := "", byteOffset := 80 }, { name := "L", type := 38, offset := 7, embedded := false, tag := "", pkgPath := "", byteOffset := 104 }]), 8, 128, [(Value.int IntKind.u8 0), (Value.int IntKind.i64 0), (Value.int IntKind.i64 0), (Value.int IntKind.u8 0), (Value.slice none 0 0), (Value.slice none 0 0), (Value.slice none 0 0), (Value.slice none 0 0)], true⟩
theorem ty39_ok : TI.Ok Tryd.prog 39 ty39 := TI.mk_ok (by kernel_rfl) (by kernel_rfl) rfl rfl
def ty40 : TI := ⟨(TypeDesc.struct #[{ name := "Kind", type := 33, offset := 0, embedded := false, tag := "", pkgPath := "", byteOffset := 0 }, { name := "C", type := 3, offset := 1, embedded := false, tag := "", pkgPath := "", byteOffset := 8 }, { name := "V", type := 3, offset := 2, embedded := false, tag := "", pkgPath := "", byteOffset := 16 }, { name := "Item", type := 34, offset := 3, embedded := false, tag := "", pkgPath := "", byteOffset := 24 }, { name := "To", type := 35, offset := 4, embedded := false, tag := "", pkgPath := "", byteOffset := 32 }, { name := "E", type := 36, offset := 5, embedded := false, tag := "", pkgPath := "", byteOffset := 56 }, { name := "Guards", type := 37, offset := 6, embedded := false, tag := "", pkgPath := "", byteOffset := 80 }, { name := "L", type := 38, offset := 7, embedded := false, tag := "", pkgPath := "", byteOffset := 104 }]), 8, 128, [(Value.int IntKind.u8 0), (Value.int IntKind.i64 0), (Value.int IntKind.i64 0), (Value.int IntKind.u8 0), (Value.slice none 0 0), (Value.slice none 0 0), (Value.slice none 0 0), (Value.slice none 0 0)], true⟩
theorem ty40_ok : TI.Ok Tryd.prog 40 ty40 := TI.mk_ok (by kernel_rfl) (by kernel_rfl) rfl rfl
def ty41 : TI := ⟨(TypeDesc.struct #[{ name := "Vars", type := 31, offset := 0, embedded := false, tag := "", pkgPath := "", byteOffset := 0 }, { name := "Chans", type := 32, offset := 1, embedded := false, tag := "", pkgPath := "", byteOffset := 24 }, { name := "Root", type := 40, offset := 2, embedded := false, tag := "", pkgPath := "", byteOffset := 48 }, { name := "Procs", type := 28, offset := 10, embedded := false, tag := "", pkgPath := "", byteOffset := 176 }]), 11, 200, [(Value.slice none 0 0), (Value.slice none 0 0), (Value.int IntKind.u8 0), (Value.int IntKind.i64 0), (Value.int IntKind.i64 0), (Value.int IntKind.u8 0), (Value.slice none 0 0), (Value.slice none 0 0), (Value.slice none 0 0), (Value.slice none 0 0), (Value.slice none 0 0)], true⟩
theorem ty41_ok : TI.Ok Tryd.prog 41 ty41 := TI.mk_ok (by kernel_rfl) (by kernel_rfl) rfl rfl
def ty42 : TI := ⟨(TypeDesc.struct #[{ name := "Vars", type := 31, offset := 0, embedded := false, tag := "", pkgPath := "", byteOffset := 0 }, { name := "Chans", type := 32, offset := 1, embedded := false, tag := "", pkgPath := "", byteOffset := 24 }, { name := "Root", type := 40, offset := 2, embedded := false, tag := "", pkgPath := "", byteOffset := 48 }, { name := "Procs", type := 28, offset := 10, embedded := false, tag := "", pkgPath := "", byteOffset := 176 }]), 11, 200, [(Value.slice none 0 0), (Value.slice none 0 0), (Value.int IntKind.u8 0), (Value.int IntKind.i64 0), (Value.int IntKind.i64 0), (Value.int IntKind.u8 0), (Value.slice none 0 0), (Value.slice none 0 0), (Value.slice none 0 0), (Value.slice none 0 0), (Value.slice none 0 0)], true⟩
theorem ty42_ok : TI.Ok Tryd.prog 42 ty42 := TI.mk_ok (by kernel_rfl) (by kernel_rfl) rfl rfl
def ty43 : TI := ⟨(TypeDesc.func #[24] #[42] false), 1, 8, [Value.nilFunc], false⟩
theorem ty43_ok : TI.Ok Tryd.prog 43 ty43 := TI.mk_ok (by kernel_rfl) (by kernel_rfl) rfl rfl
def ty44 : TI := ⟨(TypeDesc.func #[24, 24] #[4] false), 1, 8, [Value.nilFunc], false⟩
theorem ty44_ok : TI.Ok Tryd.prog 44 ty44 := TI.mk_ok (by kernel_rfl) (by kernel_rfl) rfl rfl
def ty45 : TI := ⟨(TypeDesc.func #[24] #[24] false), 1, 8, [Value.nilFunc], false⟩
theorem ty45_ok : TI.Ok Tryd.prog 45 ty45 := TI.mk_ok (by kernel_rfl) (by kernel_rfl) rfl rfl
def ty46 : TI := ⟨(TypeDesc.func #[27, 3] #[3] false), 1, 8, [Value.nilFunc], false⟩
theorem ty46_ok : TI.Ok Tryd.prog 46 ty46 := TI.mk_ok (by kernel_rfl) (by kernel_rfl) rfl rfl
def ty47 : TI := ⟨(TypeDesc.int IntKind.i64), 1, 8, [(Value.int IntKind.i64 0)], false⟩
theorem ty47_ok : TI.Ok Tryd.prog 47 ty47 := TI.mk_ok (by kernel_rfl) (by kernel_rfl) rfl rfl
def ty48 : TI := ⟨(TypeDesc.tuple #[28, 47]), 1, 0, [(Value.tuple #[(Value.slice none 0 0), (Value.int IntKind.i64 0)])], false⟩
theorem ty48_ok : TI.Ok Tryd.prog 48 ty48 := TI.mk_ok (by kernel_rfl) (by kernel_rfl) rfl rfl
def ty49 : TI := ⟨(TypeDesc.func #[24] #[28, 47] false), 1, 8, [Value.nilFunc], false⟩
theorem ty49_ok : TI.Ok Tryd.prog 49 ty49 := TI.mk_ok (by kernel_rfl) (by kernel_rfl) rfl rfl
def ty50 : TI := ⟨(TypeDesc.tuple #[28, 4]), 1, 0, [(Value.tuple #[(Value.slice none 0 0), (Value.bool false)])], false⟩
theorem ty50_ok : TI.Ok Tryd.prog 50 ty50 := TI.mk_ok (by kernel_rfl) (by kernel_rfl) rfl rfl
def ty51 : TI := ⟨(TypeDesc.func #[24] #[28, 4] false), 1, 8, [Value.nilFunc], false⟩
theorem ty51_ok : TI.Ok Tryd.prog 51 ty51 := TI.mk_ok (by kernel_rfl) (by kernel_rfl) rfl rfl
def ty52 : TI := ⟨(TypeDesc.func #[28, 28] #[4] false), 1, 8, [Value.nilFunc], false⟩
theorem ty52_ok : TI.Ok Tryd.prog 52 ty52 := TI.mk_ok (by kernel_rfl) (by kernel_rfl) rfl rfl
def ty53 : TI := ⟨(TypeDesc.func #[24, 28] #[4] false), 1, 8, [Value.nilFunc], false⟩
theorem ty53_ok : TI.Ok Tryd.prog 53 ty53 := TI.mk_ok (by kernel_rfl) (by kernel_rfl) rfl rfl
def ty54 : TI := ⟨(TypeDesc.tuple #[40, 4]), 1, 0, [(Value.tuple #[(Value.agg #[(Value.int IntKind.u8 0), (Value.int IntKind.i64 0), (Value.int IntKind.i64 0), (Value.int IntKind.u8 0), (Value.slice none 0 0), (Value.slice none 0 0), (Value.slice none 0 0), (Value.slice none 0 0)]), (Value.bool false)])], false⟩
theorem ty54_ok : TI.Ok Tryd.prog 54 ty54 := TI.mk_ok (by kernel_rfl) (by kernel_rfl) rfl rfl
def ty55 : TI := ⟨(TypeDesc.func #[40, 33] #[40, 4] false), 1, 8, [Value.nilFunc], false⟩
theorem ty55_ok : TI.Ok Tryd.prog 55 ty55 := TI.mk_ok (by kernel_rfl) (by kernel_rfl) rfl rfl
def ty56 : TI := ⟨(TypeDesc.func #[42] #[4] false), 1, 8, [Value.nilFunc], false⟩
theorem ty56_ok : TI.Ok Tryd.prog 56 ty56 := TI.mk_ok (by kernel_rfl) (by kernel_rfl) rfl rfl
def ty57 : TI := ⟨(TypeDesc.slice 62), 1, 24, [(Value.slice none 0 0)], false⟩
theorem ty57_ok : TI.Ok Tryd.prog 57 ty57 := TI.mk_ok (by kernel_rfl) (by kernel_rfl) rfl rfl
def ty58 : TI := ⟨(TypeDesc.array 64 57), 64, 1536, [(Value.slice none 0 0), (Value.slice none 0 0), (Value.slice none 0 0), (Value.slice none 0 0), (Value.slice none 0 0), (Value.slice none 0 0), (Value.slice none 0 0), (Value.slice none 0 0), (Value.slice none 0 0), (Value.slice none 0 0), (Value.slice none 0 0), (Value.slice none 0 0), (Value.slice none 0 0), (Value.slice none 0 0), (Value.slice none 0 0), (Value.slice none 0 0), (Value.slice none 0 0), (Value.slice none 0 0), (Value.slice none 0 0), (Value.slice none 0 0), (Value.slice none 0 0), (Value.slice none 0 0), (Value.slice none 0 0), (Value.slice none 0 0), (Value.slice none 0 0), (Value.slice none 0 0), (Value.slice none 0 0), (Value.slice none 0 0), (Value.slice none 0 0), (Value.slice none 0 0), (Value.slice none 0 0), (Value.slice none 0 0), (Value.slice none 0 0), (Value.slice none 0 0), (Value.slice none 0 0), (Value.slice none 0 0), (Value.slice none 0 0), (Value.slice none 0 0), (Value.slice none 0 0), (Value.slice none 0 0), (Value.slice none 0 0), (Value.slice none 0 0), (Value.slice none 0 0), (Value.slice none 0 0), (Value.slice none 0 0), (Value.slice none 0 0), (Value.slice none 0 0), (Value.slice none 0 0), (Value.slice none 0 0), (Value.slice none 0 0), (Value.slice none 0 0), (Value.slice none 0 0), (Value.slice none 0 0), (Value.slice none 0 0), (Value.slice none 0 0), (Value.slice none 0 0), (Value.slice none 0 0), (Value.slice none 0 0), (Value.slice none 0 0), (Value.slice none 0 0), (Value.slice none 0 0), (Value.slice none 0 0), (Value.slice none 0 0), (Value.slice none 0 0)], true⟩
theorem ty58_ok : TI.Ok Tryd.prog 58 ty58 := TI.mk_ok (by kernel_rfl) (by kernel_rfl) rfl rfl
def ty59 : TI := ⟨(TypeDesc.slice 38), 1, 24, [(Value.slice none 0 0)], false⟩
theorem ty59_ok : TI.Ok Tryd.prog 59 ty59 := TI.mk_ok (by kernel_rfl) (by kernel_rfl) rfl rfl
def ty60 : TI := ⟨(TypeDesc.func #[42, 40] #[59] false), 1, 8, [Value.nilFunc], false⟩
theorem ty60_ok : TI.Ok Tryd.prog 60 ty60 := TI.mk_ok (by kernel_rfl) (by kernel_rfl) rfl rfl
def ty61 : TI := ⟨(TypeDesc.struct #[{ name := "branch", type := 3, offset := 0, embedded := false, tag := "", pkgPath := "transputer/rank", byteOffset := 0 }, { name := "out", type := 4, offset := 1, embedded := false, tag := "", pkgPath := "transputer/rank", byteOffset := 8 }, { name := "item", type := 34, offset := 2, embedded := false, tag := "", pkgPath := "transputer/rank", byteOffset := 9 }]), 3, 16, [(Value.int IntKind.i64 0), (Value.bool false), (Value.int IntKind.u8 0)], true⟩
theorem ty61_ok : TI.Ok Tryd.prog 61 ty61 := TI.mk_ok (by kernel_rfl) (by kernel_rfl) rfl rfl
def ty62 : TI := ⟨(TypeDesc.struct #[{ name := "branch", type := 3, offset := 0, embedded := false, tag := "", pkgPath := "transputer/rank", byteOffset := 0 }, { name := "out", type := 4, offset := 1, embedded := false, tag := "", pkgPath := "transputer/rank", byteOffset := 8 }, { name := "item", type := 34, offset := 2, embedded := false, tag := "", pkgPath := "transputer/rank", byteOffset := 9 }]), 3, 16, [(Value.int IntKind.i64 0), (Value.bool false), (Value.int IntKind.u8 0)], true⟩
theorem ty62_ok : TI.Ok Tryd.prog 62 ty62 := TI.mk_ok (by kernel_rfl) (by kernel_rfl) rfl rfl
def ty63 : TI := ⟨(TypeDesc.struct #[{ name := "Kind", type := 34, offset := 0, embedded := false, tag := "", pkgPath := "", byteOffset := 0 }, { name := "Dim", type := 3, offset := 1, embedded := false, tag := "", pkgPath := "", byteOffset := 8 }]), 2, 16, [(Value.int IntKind.u8 0), (Value.int IntKind.i64 0)], true⟩
theorem ty63_ok : TI.Ok Tryd.prog 63 ty63 := TI.mk_ok (by kernel_rfl) (by kernel_rfl) rfl rfl
def ty64 : TI := ⟨(TypeDesc.struct #[{ name := "Kind", type := 34, offset := 0, embedded := false, tag := "", pkgPath := "", byteOffset := 0 }, { name := "Dim", type := 3, offset := 1, embedded := false, tag := "", pkgPath := "", byteOffset := 8 }]), 2, 16, [(Value.int IntKind.u8 0), (Value.int IntKind.i64 0)], true⟩
theorem ty64_ok : TI.Ok Tryd.prog 64 ty64 := TI.mk_ok (by kernel_rfl) (by kernel_rfl) rfl rfl
def ty65 : TI := ⟨(TypeDesc.int IntKind.u8), 1, 1, [(Value.int IntKind.u8 0)], false⟩
theorem ty65_ok : TI.Ok Tryd.prog 65 ty65 := TI.mk_ok (by kernel_rfl) (by kernel_rfl) rfl rfl
def ty66 : TI := ⟨(TypeDesc.slice 4), 1, 24, [(Value.slice none 0 0)], false⟩
theorem ty66_ok : TI.Ok Tryd.prog 66 ty66 := TI.mk_ok (by kernel_rfl) (by kernel_rfl) rfl rfl
def ty67 : TI := ⟨(TypeDesc.func #[3, 4] #[40] false), 1, 8, [Value.nilFunc], false⟩
theorem ty67_ok : TI.Ok Tryd.prog 67 ty67 := TI.mk_ok (by kernel_rfl) (by kernel_rfl) rfl rfl
def ty68 : TI := ⟨(TypeDesc.int IntKind.u8), 1, 1, [(Value.int IntKind.u8 0)], false⟩
theorem ty68_ok : TI.Ok Tryd.prog 68 ty68 := TI.mk_ok (by kernel_rfl) (by kernel_rfl) rfl rfl
def ty69 : TI := ⟨(TypeDesc.int IntKind.u8), 1, 1, [(Value.int IntKind.u8 0)], false⟩
theorem ty69_ok : TI.Ok Tryd.prog 69 ty69 := TI.mk_ok (by kernel_rfl) (by kernel_rfl) rfl rfl
def ty70 : TI := ⟨(TypeDesc.struct #[{ name := "Kind", type := 68, offset := 0, embedded := false, tag := "", pkgPath := "", byteOffset := 0 }, { name := "Oper", type := 69, offset := 1, embedded := false, tag := "", pkgPath := "", byteOffset := 1 }, { name := "To", type := 34, offset := 2, embedded := false, tag := "", pkgPath := "", byteOffset := 2 }, { name := "N", type := 21, offset := 3, embedded := false, tag := "", pkgPath := "", byteOffset := 4 }, { name := "V", type := 3, offset := 4, embedded := false, tag := "", pkgPath := "", byteOffset := 8 }, { name := "L", type := 36, offset := 5, embedded := false, tag := "", pkgPath := "", byteOffset := 16 }]), 6, 40, [(Value.int IntKind.u8 0), (Value.int IntKind.u8 0), (Value.int IntKind.u8 0), (Value.int IntKind.i32 0), (Value.int IntKind.i64 0), (Value.slice none 0 0)], true⟩
theorem ty70_ok : TI.Ok Tryd.prog 70 ty70 := TI.mk_ok (by kernel_rfl) (by kernel_rfl) rfl rfl
def ty71 : TI := ⟨(TypeDesc.struct #[{ name := "Kind", type := 68, offset := 0, embedded := false, tag := "", pkgPath := "", byteOffset := 0 }, { name := "Oper", type := 69, offset := 1, embedded := false, tag := "", pkgPath := "", byteOffset := 1 }, { name := "To", type := 34, offset := 2, embedded := false, tag := "", pkgPath := "", byteOffset := 2 }, { name := "N", type := 21, offset := 3, embedded := false, tag := "", pkgPath := "", byteOffset := 4 }, { name := "V", type := 3, offset := 4, embedded := false, tag := "", pkgPath := "", byteOffset := 8 }, { name := "L", type := 36, offset := 5, embedded := false, tag := "", pkgPath := "", byteOffset := 16 }]), 6, 40, [(Value.int IntKind.u8 0), (Value.int IntKind.u8 0), (Value.int IntKind.u8 0), (Value.int IntKind.i32 0), (Value.int IntKind.i64 0), (Value.slice none 0 0)], true⟩
theorem ty71_ok : TI.Ok Tryd.prog 71 ty71 := TI.mk_ok (by kernel_rfl) (by kernel_rfl) rfl rfl
def ty72 : TI := ⟨(TypeDesc.int IntKind.u64), 1, 8, [(Value.int IntKind.u64 0)], false⟩
theorem ty72_ok : TI.Ok Tryd.prog 72 ty72 := TI.mk_ok (by kernel_rfl) (by kernel_rfl) rfl rfl
def ty73 : TI := ⟨(TypeDesc.array 64 72), 64, 512, [(Value.int IntKind.u64 0), (Value.int IntKind.u64 0), (Value.int IntKind.u64 0), (Value.int IntKind.u64 0), (Value.int IntKind.u64 0), (Value.int IntKind.u64 0), (Value.int IntKind.u64 0), (Value.int IntKind.u64 0), (Value.int IntKind.u64 0), (Value.int IntKind.u64 0), (Value.int IntKind.u64 0), (Value.int IntKind.u64 0), (Value.int IntKind.u64 0), (Value.int IntKind.u64 0), (Value.int IntKind.u64 0), (Value.int IntKind.u64 0), (Value.int IntKind.u64 0), (Value.int IntKind.u64 0), (Value.int IntKind.u64 0), (Value.int IntKind.u64 0), (Value.int IntKind.u64 0), (Value.int IntKind.u64 0), (Value.int IntKind.u64 0), (Value.int IntKind.u64 0), (Value.int IntKind.u64 0), (Value.int IntKind.u64 0), (Value.int IntKind.u64 0), (Value.int IntKind.u64 0), (Value.int IntKind.u64 0), (Value.int IntKind.u64 0), (Value.int IntKind.u64 0), (Value.int IntKind.u64 0), (Value.int IntKind.u64 0), (Value.int IntKind.u64 0), (Value.int IntKind.u64 0), (Value.int IntKind.u64 0), (Value.int IntKind.u64 0), (Value.int IntKind.u64 0), (Value.int IntKind.u64 0), (Value.int IntKind.u64 0), (Value.int IntKind.u64 0), (Value.int IntKind.u64 0), (Value.int IntKind.u64 0), (Value.int IntKind.u64 0), (Value.int IntKind.u64 0), (Value.int IntKind.u64 0), (Value.int IntKind.u64 0), (Value.int IntKind.u64 0), (Value.int IntKind.u64 0), (Value.int IntKind.u64 0), (Value.int IntKind.u64 0), (Value.int IntKind.u64 0), (Value.int IntKind.u64 0), (Value.int IntKind.u64 0), (Value.int IntKind.u64 0), (Value.int IntKind.u64 0), (Value.int IntKind.u64 0), (Value.int IntKind.u64 0), (Value.int IntKind.u64 0), (Value.int IntKind.u64 0), (Value.int IntKind.u64 0), (Value.int IntKind.u64 0), (Value.int IntKind.u64 0), (Value.int IntKind.u64 0)], true⟩
theorem ty73_ok : TI.Ok Tryd.prog 73 ty73 := TI.mk_ok (by kernel_rfl) (by kernel_rfl) rfl rfl
def ty74 : TI := ⟨(TypeDesc.array 64 72), 64, 512, [(Value.int IntKind.u64 0), (Value.int IntKind.u64 0), (Value.int IntKind.u64 0), (Value.int IntKind.u64 0), (Value.int IntKind.u64 0), (Value.int IntKind.u64 0), (Value.int IntKind.u64 0), (Value.int IntKind.u64 0), (Value.int IntKind.u64 0), (Value.int IntKind.u64 0), (Value.int IntKind.u64 0), (Value.int IntKind.u64 0), (Value.int IntKind.u64 0), (Value.int IntKind.u64 0), (Value.int IntKind.u64 0), (Value.int IntKind.u64 0), (Value.int IntKind.u64 0), (Value.int IntKind.u64 0), (Value.int IntKind.u64 0), (Value.int IntKind.u64 0), (Value.int IntKind.u64 0), (Value.int IntKind.u64 0), (Value.int IntKind.u64 0), (Value.int IntKind.u64 0), (Value.int IntKind.u64 0), (Value.int IntKind.u64 0), (Value.int IntKind.u64 0), (Value.int IntKind.u64 0), (Value.int IntKind.u64 0), (Value.int IntKind.u64 0), (Value.int IntKind.u64 0), (Value.int IntKind.u64 0), (Value.int IntKind.u64 0), (Value.int IntKind.u64 0), (Value.int IntKind.u64 0), (Value.int IntKind.u64 0), (Value.int IntKind.u64 0), (Value.int IntKind.u64 0), (Value.int IntKind.u64 0), (Value.int IntKind.u64 0), (Value.int IntKind.u64 0), (Value.int IntKind.u64 0), (Value.int IntKind.u64 0), (Value.int IntKind.u64 0), (Value.int IntKind.u64 0), (Value.int IntKind.u64 0), (Value.int IntKind.u64 0), (Value.int IntKind.u64 0), (Value.int IntKind.u64 0), (Value.int IntKind.u64 0), (Value.int IntKind.u64 0), (Value.int IntKind.u64 0), (Value.int IntKind.u64 0), (Value.int IntKind.u64 0), (Value.int IntKind.u64 0), (Value.int IntKind.u64 0), (Value.int IntKind.u64 0), (Value.int IntKind.u64 0), (Value.int IntKind.u64 0), (Value.int IntKind.u64 0), (Value.int IntKind.u64 0), (Value.int IntKind.u64 0), (Value.int IntKind.u64 0), (Value.int IntKind.u64 0)], true⟩
theorem ty74_ok : TI.Ok Tryd.prog 74 ty74 := TI.mk_ok (by kernel_rfl) (by kernel_rfl) rfl rfl
def ty75 : TI := ⟨(TypeDesc.func #[24] #[74] false), 1, 8, [Value.nilFunc], false⟩
theorem ty75_ok : TI.Ok Tryd.prog 75 ty75 := TI.mk_ok (by kernel_rfl) (by kernel_rfl) rfl rfl
def ty76 : TI := ⟨(TypeDesc.array 64 3), 64, 512, [(Value.int IntKind.i64 0), (Value.int IntKind.i64 0), (Value.int IntKind.i64 0), (Value.int IntKind.i64 0), (Value.int IntKind.i64 0), (Value.int IntKind.i64 0), (Value.int IntKind.i64 0), (Value.int IntKind.i64 0), (Value.int IntKind.i64 0), (Value.int IntKind.i64 0), (Value.int IntKind.i64 0), (Value.int IntKind.i64 0), (Value.int IntKind.i64 0), (Value.int IntKind.i64 0), (Value.int IntKind.i64 0), (Value.int IntKind.i64 0), (Value.int IntKind.i64 0), (Value.int IntKind.i64 0), (Value.int IntKind.i64 0), (Value.int IntKind.i64 0), (Value.int IntKind.i64 0), (Value.int IntKind.i64 0), (Value.int IntKind.i64 0), (Value.int IntKind.i64 0), (Value.int IntKind.i64 0), (Value.int IntKind.i64 0), (Value.int IntKind.i64 0), (Value.int IntKind.i64 0), (Value.int IntKind.i64 0), (Value.int IntKind.i64 0), (Value.int IntKind.i64 0), (Value.int IntKind.i64 0), (Value.int IntKind.i64 0), (Value.int IntKind.i64 0), (Value.int IntKind.i64 0), (Value.int IntKind.i64 0), (Value.int IntKind.i64 0), (Value.int IntKind.i64 0), (Value.int IntKind.i64 0), (Value.int IntKind.i64 0), (Value.int IntKind.i64 0), (Value.int IntKind.i64 0), (Value.int IntKind.i64 0), (Value.int IntKind.i64 0), (Value.int IntKind.i64 0), (Value.int IntKind.i64 0), (Value.int IntKind.i64 0), (Value.int IntKind.i64 0), (Value.int IntKind.i64 0), (Value.int IntKind.i64 0), (Value.int IntKind.i64 0), (Value.int IntKind.i64 0), (Value.int IntKind.i64 0), (Value.int IntKind.i64 0), (Value.int IntKind.i64 0), (Value.int IntKind.i64 0), (Value.int IntKind.i64 0), (Value.int IntKind.i64 0), (Value.int IntKind.i64 0), (Value.int IntKind.i64 0), (Value.int IntKind.i64 0), (Value.int IntKind.i64 0), (Value.int IntKind.i64 0), (Value.int IntKind.i64 0)], true⟩
theorem ty76_ok : TI.Ok Tryd.prog 76 ty76 := TI.mk_ok (by kernel_rfl) (by kernel_rfl) rfl rfl
def ty77 : TI := ⟨(TypeDesc.func #[74, 3] #[76] false), 1, 8, [Value.nilFunc], false⟩
theorem ty77_ok : TI.Ok Tryd.prog 77 ty77 := TI.mk_ok (by kernel_rfl) (by kernel_rfl) rfl rfl
def ty78 : TI := ⟨(TypeDesc.func #[38, 79] #[4] false), 1, 8, [Value.nilFunc], false⟩
theorem ty78_ok : TI.Ok Tryd.prog 78 ty78 := TI.mk_ok (by kernel_rfl) (by kernel_rfl) rfl rfl
def ty79 : TI := ⟨(TypeDesc.func #[40] #[4] false), 1, 8, [Value.nilFunc], false⟩
theorem ty79_ok : TI.Ok Tryd.prog 79 ty79 := TI.mk_ok (by kernel_rfl) (by kernel_rfl) rfl rfl
def ty80 : TI := ⟨(TypeDesc.func #[28, 3] #[4] false), 1, 8, [Value.nilFunc], false⟩
theorem ty80_ok : TI.Ok Tryd.prog 80 ty80 := TI.mk_ok (by kernel_rfl) (by kernel_rfl) rfl rfl
def ty81 : TI := ⟨(TypeDesc.func #[34] #[4] false), 1, 8, [Value.nilFunc], false⟩
theorem ty81_ok : TI.Ok Tryd.prog 81 ty81 := TI.mk_ok (by kernel_rfl) (by kernel_rfl) rfl rfl
def ty82 : TI := ⟨(TypeDesc.pointer 84), 1, 8, [(Value.pointer none)], false⟩
theorem ty82_ok : TI.Ok Tryd.prog 82 ty82 := TI.mk_ok (by kernel_rfl) (by kernel_rfl) rfl rfl
def ty83 : TI := ⟨(TypeDesc.struct #[{ name := "Kernel", type := 42, offset := 0, embedded := true, tag := "", pkgPath := "", byteOffset := 0 }, { name := "left", type := 3, offset := 11, embedded := false, tag := "", pkgPath := "transputer/kernel", byteOffset := 200 }]), 12, 208, [(Value.slice none 0 0), (Value.slice none 0 0), (Value.int IntKind.u8 0), (Value.int IntKind.i64 0), (Value.int IntKind.i64 0), (Value.int IntKind.u8 0), (Value.slice none 0 0), (Value.slice none 0 0), (Value.slice none 0 0), (Value.slice none 0 0), (Value.slice none 0 0), (Value.int IntKind.i64 0)], true⟩
theorem ty83_ok : TI.Ok Tryd.prog 83 ty83 := TI.mk_ok (by kernel_rfl) (by kernel_rfl) rfl rfl
def ty84 : TI := ⟨(TypeDesc.struct #[{ name := "Kernel", type := 42, offset := 0, embedded := true, tag := "", pkgPath := "", byteOffset := 0 }, { name := "left", type := 3, offset := 11, embedded := false, tag := "", pkgPath := "transputer/kernel", byteOffset := 200 }]), 12, 208, [(Value.slice none 0 0), (Value.slice none 0 0), (Value.int IntKind.u8 0), (Value.int IntKind.i64 0), (Value.int IntKind.i64 0), (Value.int IntKind.u8 0), (Value.slice none 0 0), (Value.slice none 0 0), (Value.slice none 0 0), (Value.slice none 0 0), (Value.slice none 0 0), (Value.int IntKind.i64 0)], true⟩
theorem ty84_ok : TI.Ok Tryd.prog 84 ty84 := TI.mk_ok (by kernel_rfl) (by kernel_rfl) rfl rfl
def ty85 : TI := ⟨(TypeDesc.func #[40, 3, 4] #[4] false), 1, 8, [Value.nilFunc], false⟩
theorem ty85_ok : TI.Ok Tryd.prog 85 ty85 := TI.mk_ok (by kernel_rfl) (by kernel_rfl) rfl rfl
def ty86 : TI := ⟨(TypeDesc.func #[40] #[38] false), 1, 8, [Value.nilFunc], false⟩
theorem ty86_ok : TI.Ok Tryd.prog 86 ty86 := TI.mk_ok (by kernel_rfl) (by kernel_rfl) rfl rfl
def ty87 : TI := ⟨(TypeDesc.func #[42, 40] #[4] false), 1, 8, [Value.nilFunc], false⟩
theorem ty87_ok : TI.Ok Tryd.prog 87 ty87 := TI.mk_ok (by kernel_rfl) (by kernel_rfl) rfl rfl
def ty88 : TI := ⟨(TypeDesc.func #[28, 89] #[4] false), 1, 8, [Value.nilFunc], false⟩
theorem ty88_ok : TI.Ok Tryd.prog 88 ty88 := TI.mk_ok (by kernel_rfl) (by kernel_rfl) rfl rfl
def ty89 : TI := ⟨(TypeDesc.func #[3] #[4] false), 1, 8, [Value.nilFunc], false⟩
theorem ty89_ok : TI.Ok Tryd.prog 89 ty89 := TI.mk_ok (by kernel_rfl) (by kernel_rfl) rfl rfl
def ty90 : TI := ⟨(TypeDesc.struct #[{ name := "V", type := 3, offset := 0, embedded := false, tag := "", pkgPath := "", byteOffset := 0 }, { name := "Index", type := 36, offset := 1, embedded := false, tag := "", pkgPath := "", byteOffset := 8 }]), 2, 32, [(Value.int IntKind.i64 0), (Value.slice none 0 0)], true⟩
theorem ty90_ok : TI.Ok Tryd.prog 90 ty90 := TI.mk_ok (by kernel_rfl) (by kernel_rfl) rfl rfl
def ty91 : TI := ⟨(TypeDesc.struct #[{ name := "V", type := 3, offset := 0, embedded := false, tag := "", pkgPath := "", byteOffset := 0 }, { name := "Index", type := 36, offset := 1, embedded := false, tag := "", pkgPath := "", byteOffset := 8 }]), 2, 32, [(Value.int IntKind.i64 0), (Value.slice none 0 0)], true⟩
theorem ty91_ok : TI.Ok Tryd.prog 91 ty91 := TI.mk_ok (by kernel_rfl) (by kernel_rfl) rfl rfl
def ty92 : TI := ⟨(TypeDesc.func #[38, 79] #[3] false), 1, 8, [Value.nilFunc], false⟩
theorem ty92_ok : TI.Ok Tryd.prog 92 ty92 := TI.mk_ok (by kernel_rfl) (by kernel_rfl) rfl rfl
def ty93 : TI := ⟨(TypeDesc.func #[28, 3] #[3] false), 1, 8, [Value.nilFunc], false⟩
theorem ty93_ok : TI.Ok Tryd.prog 93 ty93 := TI.mk_ok (by kernel_rfl) (by kernel_rfl) rfl rfl
def ty94 : TI := ⟨(TypeDesc.func #[33] #[79] false), 1, 8, [Value.nilFunc], false⟩
theorem ty94_ok : TI.Ok Tryd.prog 94 ty94 := TI.mk_ok (by kernel_rfl) (by kernel_rfl) rfl rfl
def ty95 : TI := ⟨(TypeDesc.int IntKind.u8), 1, 1, [(Value.int IntKind.u8 0)], false⟩
theorem ty95_ok : TI.Ok Tryd.prog 95 ty95 := TI.mk_ok (by kernel_rfl) (by kernel_rfl) rfl rfl
def ty96 : TI := ⟨(TypeDesc.struct #[{ name := "Kind", type := 95, offset := 0, embedded := false, tag := "", pkgPath := "", byteOffset := 0 }, { name := "Cond", type := 71, offset := 1, embedded := false, tag := "", pkgPath := "", byteOffset := 8 }, { name := "C", type := 3, offset := 7, embedded := false, tag := "", pkgPath := "", byteOffset := 48 }, { name := "Item", type := 34, offset := 8, embedded := false, tag := "", pkgPath := "", byteOffset := 56 }, { name := "To", type := 91, offset := 9, embedded := false, tag := "", pkgPath := "", byteOffset := 64 }, { name := "Time", type := 71, offset := 11, embedded := false, tag := "", pkgPath := "", byteOffset := 96 }, { name := "Body", type := 38, offset := 17, embedded := false, tag := "", pkgPath := "", byteOffset := 136 }]), 18, 160, [(Value.int IntKind.u8 0), (Value.int IntKind.u8 0), (Value.int IntKind.u8 0), (Value.int IntKind.u8 0), (Value.int IntKind.i32 0), (Value.int IntKind.i64 0), (Value.slice none 0 0), (Value.int IntKind.i64 0), (Value.int IntKind.u8 0), (Value.int IntKind.i64 0), (Value.slice none 0 0), (Value.int IntKind.u8 0), (Value.int IntKind.u8 0), (Value.int IntKind.u8 0), (Value.int IntKind.i32 0), (Value.int IntKind.i64 0), (Value.slice none 0 0), (Value.slice none 0 0)], true⟩
theorem ty96_ok : TI.Ok Tryd.prog 96 ty96 := TI.mk_ok (by kernel_rfl) (by kernel_rfl) rfl rfl
def ty97 : TI := ⟨(TypeDesc.struct #[{ name := "Kind", type := 95, offset := 0, embedded := false, tag := "", pkgPath := "", byteOffset := 0 }, { name := "Cond", type := 71, offset := 1, embedded := false, tag := "", pkgPath := "", byteOffset := 8 }, { name := "C", type := 3, offset := 7, embedded := false, tag := "", pkgPath := "", byteOffset := 48 }, { name := "Item", type := 34, offset := 8, embedded := false, tag := "", pkgPath := "", byteOffset := 56 }, { name := "To", type := 91, offset := 9, embedded := false, tag := "", pkgPath := "", byteOffset := 64 }, { name := "Time", type := 71, offset := 11, embedded := false, tag := "", pkgPath := "", byteOffset := 96 }, { name := "Body", type := 38, offset := 17, embedded := false, tag := "", pkgPath := "", byteOffset := 136 }]), 18, 160, [(Value.int IntKind.u8 0), (Value.int IntKind.u8 0), (Value.int IntKind.u8 0), (Value.int IntKind.u8 0), (Value.int IntKind.i32 0), (Value.int IntKind.i64 0), (Value.slice none 0 0), (Value.int IntKind.i64 0), (Value.int IntKind.u8 0), (Value.int IntKind.i64 0), (Value.slice none 0 0), (Value.int IntKind.u8 0), (Value.int IntKind.u8 0), (Value.int IntKind.u8 0), (Value.int IntKind.i32 0), (Value.int IntKind.i64 0), (Value.slice none 0 0), (Value.slice none 0 0)], true⟩
theorem ty97_ok : TI.Ok Tryd.prog 97 ty97 := TI.mk_ok (by kernel_rfl) (by kernel_rfl) rfl rfl
def ty98 : TI := ⟨(TypeDesc.func #[71] #[4] false), 1, 8, [Value.nilFunc], false⟩
theorem ty98_ok : TI.Ok Tryd.prog 98 ty98 := TI.mk_ok (by kernel_rfl) (by kernel_rfl) rfl rfl
def ty99 : TI := ⟨(TypeDesc.func #[28, 89] #[3] false), 1, 8, [Value.nilFunc], false⟩
theorem ty99_ok : TI.Ok Tryd.prog 99 ty99 := TI.mk_ok (by kernel_rfl) (by kernel_rfl) rfl rfl
def ty100 : TI := ⟨(TypeDesc.map 33 79), 1, 8, [(Value.map none)], false⟩
theorem ty100_ok : TI.Ok Tryd.prog 100 ty100 := TI.mk_ok (by kernel_rfl) (by kernel_rfl) rfl rfl
def ty101 : TI := ⟨(TypeDesc.struct #[{ name := "ok", type := 4, offset := 0, embedded := false, tag := "", pkgPath := "transputer/depth", byteOffset := 0 }, { name := "safe", type := 4, offset := 1, embedded := false, tag := "", pkgPath := "transputer/depth", byteOffset := 1 }, { name := "regs", type := 3, offset := 2, embedded := false, tag := "", pkgPath := "transputer/depth", byteOffset := 8 }, { name := "temps", type := 3, offset := 3, embedded := false, tag := "", pkgPath := "transputer/depth", byteOffset := 16 }]), 4, 24, [(Value.bool false), (Value.bool false), (Value.int IntKind.i64 0), (Value.int IntKind.i64 0)], true⟩
theorem ty101_ok : TI.Ok Tryd.prog 101 ty101 := TI.mk_ok (by kernel_rfl) (by kernel_rfl) rfl rfl
def ty102 : TI := ⟨(TypeDesc.struct #[{ name := "ok", type := 4, offset := 0, embedded := false, tag := "", pkgPath := "transputer/depth", byteOffset := 0 }, { name := "safe", type := 4, offset := 1, embedded := false, tag := "", pkgPath := "transputer/depth", byteOffset := 1 }, { name := "regs", type := 3, offset := 2, embedded := false, tag := "", pkgPath := "transputer/depth", byteOffset := 8 }, { name := "temps", type := 3, offset := 3, embedded := false, tag := "", pkgPath := "transputer/depth", byteOffset := 16 }]), 4, 24, [(Value.bool false), (Value.bool false), (Value.int IntKind.i64 0), (Value.int IntKind.i64 0)], true⟩
theorem ty102_ok : TI.Ok Tryd.prog 102 ty102 := TI.mk_ok (by kernel_rfl) (by kernel_rfl) rfl rfl
def ty103 : TI := ⟨(TypeDesc.func #[71] #[102] false), 1, 8, [Value.nilFunc], false⟩
theorem ty103_ok : TI.Ok Tryd.prog 103 ty103 := TI.mk_ok (by kernel_rfl) (by kernel_rfl) rfl rfl
def ty104 : TI := ⟨(TypeDesc.func #[40, 4, 4, 105, 105, 105, 105] #[4] false), 1, 8, [Value.nilFunc], false⟩
theorem ty104_ok : TI.Ok Tryd.prog 104 ty104 := TI.mk_ok (by kernel_rfl) (by kernel_rfl) rfl rfl
def ty105 : TI := ⟨(TypeDesc.array 2 3), 2, 16, [(Value.int IntKind.i64 0), (Value.int IntKind.i64 0)], true⟩
theorem ty105_ok : TI.Ok Tryd.prog 105 ty105 := TI.mk_ok (by kernel_rfl) (by kernel_rfl) rfl rfl
def ty106 : TI := ⟨(TypeDesc.func #[91, 34] #[4] false), 1, 8, [Value.nilFunc], false⟩
theorem ty106_ok : TI.Ok Tryd.prog 106 ty106 := TI.mk_ok (by kernel_rfl) (by kernel_rfl) rfl rfl
def ty107 : TI := ⟨(TypeDesc.func #[71, 34] #[4] false), 1, 8, [Value.nilFunc], false⟩
theorem ty107_ok : TI.Ok Tryd.prog 107 ty107 := TI.mk_ok (by kernel_rfl) (by kernel_rfl) rfl rfl
def ty108 : TI := ⟨(TypeDesc.func #[3, 34, 91] #[4] false), 1, 8, [Value.nilFunc], false⟩
theorem ty108_ok : TI.Ok Tryd.prog 108 ty108 := TI.mk_ok (by kernel_rfl) (by kernel_rfl) rfl rfl
def ty109 : TI := ⟨(TypeDesc.func #[3, 34, 3] #[4] false), 1, 8, [Value.nilFunc], false⟩
theorem ty109_ok : TI.Ok Tryd.prog 109 ty109 := TI.mk_ok (by kernel_rfl) (by kernel_rfl) rfl rfl
def ty110 : TI := ⟨(TypeDesc.func #[37, 112] #[4] false), 1, 8, [Value.nilFunc], false⟩
theorem ty110_ok : TI.Ok Tryd.prog 110 ty110 := TI.mk_ok (by kernel_rfl) (by kernel_rfl) rfl rfl
def ty111 : TI := ⟨(TypeDesc.func #[97, 4] #[4] false), 1, 8, [Value.nilFunc], false⟩
theorem ty111_ok : TI.Ok Tryd.prog 111 ty111 := TI.mk_ok (by kernel_rfl) (by kernel_rfl) rfl rfl
def ty112 : TI := ⟨(TypeDesc.func #[97] #[4] false), 1, 8, [Value.nilFunc], false⟩
theorem ty112_ok : TI.Ok Tryd.prog 112 ty112 := TI.mk_ok (by kernel_rfl) (by kernel_rfl) rfl rfl
def ty113 : TI := ⟨(TypeDesc.func #[71, 3] #[102] false), 1, 8, [Value.nilFunc], false⟩
theorem ty113_ok : TI.Ok Tryd.prog 113 ty113 := TI.mk_ok (by kernel_rfl) (by kernel_rfl) rfl rfl
def ty114 : TI := ⟨(TypeDesc.slice 102), 1, 24, [(Value.slice none 0 0)], false⟩
theorem ty114_ok : TI.Ok Tryd.prog 114 ty114 := TI.mk_ok (by kernel_rfl) (by kernel_rfl) rfl rfl
def ty115 : TI := ⟨(TypeDesc.func #[71, 114] #[102] false), 1, 8, [Value.nilFunc], false⟩
theorem ty115_ok : TI.Ok Tryd.prog 115 ty115 := TI.mk_ok (by kernel_rfl) (by kernel_rfl) rfl rfl
def ty116 : TI := ⟨(TypeDesc.func #[3, 105] #[4] false), 1, 8, [Value.nilFunc], false⟩
theorem ty116_ok : TI.Ok Tryd.prog 116 ty116 := TI.mk_ok (by kernel_rfl) (by kernel_rfl) rfl rfl
def ty117 : TI := ⟨(TypeDesc.int IntKind.u64), 1, 8, [(Value.int IntKind.u64 0)], false⟩
theorem ty117_ok : TI.Ok Tryd.prog 117 ty117 := TI.mk_ok (by kernel_rfl) (by kernel_rfl) rfl rfl
def ty118 : TI := ⟨(TypeDesc.int IntKind.u64), 1, 8, [(Value.int IntKind.u64 0)], false⟩
theorem ty118_ok : TI.Ok Tryd.prog 118 ty118 := TI.mk_ok (by kernel_rfl) (by kernel_rfl) rfl rfl
def ty119 : TI := ⟨(TypeDesc.func #[71] #[118] false), 1, 8, [Value.nilFunc], false⟩
theorem ty119_ok : TI.Ok Tryd.prog 119 ty119 := TI.mk_ok (by kernel_rfl) (by kernel_rfl) rfl rfl
def ty120 : TI := ⟨(TypeDesc.func #[37, 112] #[3] false), 1, 8, [Value.nilFunc], false⟩
theorem ty120_ok : TI.Ok Tryd.prog 120 ty120 := TI.mk_ok (by kernel_rfl) (by kernel_rfl) rfl rfl
def ty121 : TI := ⟨(TypeDesc.func #[97, 4, 4] #[4] false), 1, 8, [Value.nilFunc], false⟩
theorem ty121_ok : TI.Ok Tryd.prog 121 ty121 := TI.mk_ok (by kernel_rfl) (by kernel_rfl) rfl rfl
def ty122 : TI := ⟨(TypeDesc.func #[3, 28] #[3] true), 1, 8, [Value.nilFunc], false⟩
theorem ty122_ok : TI.Ok Tryd.prog 122 ty122 := TI.mk_ok (by kernel_rfl) (by kernel_rfl) rfl rfl
def ty123 : TI := ⟨(TypeDesc.array 27 4), 27, 27, [(Value.bool false), (Value.bool false), (Value.bool false), (Value.bool false), (Value.bool false), (Value.bool false), (Value.bool false), (Value.bool false), (Value.bool false), (Value.bool false), (Value.bool false), (Value.bool false), (Value.bool false), (Value.bool false), (Value.bool false), (Value.bool false), (Value.bool false), (Value.bool false), (Value.bool false), (Value.bool false), (Value.bool false), (Value.bool false), (Value.bool false), (Value.bool false), (Value.bool false), (Value.bool false), (Value.bool false)], true⟩
theorem ty123_ok : TI.Ok Tryd.prog 123 ty123 := TI.mk_ok (by kernel_rfl) (by kernel_rfl) rfl rfl
def ty124 : TI := ⟨(TypeDesc.func #[71, 3] #[4] false), 1, 8, [Value.nilFunc], false⟩
theorem ty124_ok : TI.Ok Tryd.prog 124 ty124 := TI.mk_ok (by kernel_rfl) (by kernel_rfl) rfl rfl
def ty125 : TI := ⟨(TypeDesc.func #[36, 98] #[4] false), 1, 8, [Value.nilFunc], false⟩
theorem ty125_ok : TI.Ok Tryd.prog 125 ty125 := TI.mk_ok (by kernel_rfl) (by kernel_rfl) rfl rfl
def ty126 : TI := ⟨(TypeDesc.slice 118), 1, 24, [(Value.slice none 0 0)], false⟩
theorem ty126_ok : TI.Ok Tryd.prog 126 ty126 := TI.mk_ok (by kernel_rfl) (by kernel_rfl) rfl rfl
def ty127 : TI := ⟨(TypeDesc.func #[131] #[118] true), 1, 8, [Value.nilFunc], false⟩
theorem ty127_ok : TI.Ok Tryd.prog 127 ty127 := TI.mk_ok (by kernel_rfl) (by kernel_rfl) rfl rfl
def ty128 : TI := ⟨(TypeDesc.func #[4, 34] #[118] false), 1, 8, [Value.nilFunc], false⟩
theorem ty128_ok : TI.Ok Tryd.prog 128 ty128 := TI.mk_ok (by kernel_rfl) (by kernel_rfl) rfl rfl
def ty129 : TI := ⟨(TypeDesc.func #[21] #[118] false), 1, 8, [Value.nilFunc], false⟩
theorem ty129_ok : TI.Ok Tryd.prog 129 ty129 := TI.mk_ok (by kernel_rfl) (by kernel_rfl) rfl rfl
def ty130 : TI := ⟨(TypeDesc.func #[36, 98] #[3] false), 1, 8, [Value.nilFunc], false⟩
theorem ty130_ok : TI.Ok Tryd.prog 130 ty130 := TI.mk_ok (by kernel_rfl) (by kernel_rfl) rfl rfl
def ty131 : TI := ⟨(TypeDesc.slice 34), 1, 24, [(Value.slice none 0 0)], false⟩
theorem ty131_ok : TI.Ok Tryd.prog 131 ty131 := TI.mk_ok (by kernel_rfl) (by kernel_rfl) rfl rfl
def ty132 : TI := ⟨(TypeDesc.func #[] #[9] false), 1, 8, [Value.nilFunc], false⟩
theorem ty132_ok : TI.Ok Tryd.prog 132 ty132 := TI.mk_ok (by kernel_rfl) (by kernel_rfl) rfl rfl
def ty138 : TI := ⟨(TypeDesc.func #[] #[3] false), 1, 8, [Value.nilFunc], false⟩
theorem ty138_ok : TI.Ok Tryd.prog 138 ty138 := TI.mk_ok (by kernel_rfl) (by kernel_rfl) rfl rfl
def ty139 : TI := ⟨(TypeDesc.int IntKind.u32), 1, 4, [(Value.int IntKind.u32 0)], false⟩
theorem ty139_ok : TI.Ok Tryd.prog 139 ty139 := TI.mk_ok (by kernel_rfl) (by kernel_rfl) rfl rfl
def ty143 : TI := ⟨(TypeDesc.pointer 5), 1, 8, [(Value.pointer none)], false⟩
theorem ty143_ok : TI.Ok Tryd.prog 143 ty143 := TI.mk_ok (by kernel_rfl) (by kernel_rfl) rfl rfl
def tt : TT := (.node 73 ty73 (.node 42 ty42 (.node 26 ty26 (.node 12 ty12 (.node 3 ty3 (.node 1 ty1 (.node 0 ty0 .leaf .leaf) (.node 2 ty2 .leaf .leaf)) (.node 5 ty5 (.node 4 ty4 .leaf .leaf) (.node 9 ty9 .leaf .leaf))) (.node 22 ty22 (.node 20 ty20 (.node 13 ty13 .leaf .leaf) (.node 21 ty21 .leaf .leaf)) (.node 24 ty24 (.node 23 ty23 .leaf .leaf) (.node 25 ty25 .leaf .leaf)))) (.node 34 ty34 (.node 30 ty30 (.node 28 ty28 (.node 27 ty27 .leaf .leaf) (.node 29 ty29 .leaf .leaf)) (.node 32 ty32 (.node 31 ty31 .leaf .leaf) (.node 33 ty33 .leaf .leaf))) (.node 38 ty38 (.node 36 ty36 (.node 35 ty35 .leaf .leaf) (.node 37 ty37 .leaf .leaf)) (.node 40 ty40 (.node 39 ty39 .leaf .leaf) (.node 41 ty41 .leaf .leaf))))) (.node 58 ty58 (.node 50 ty50 (.node 46 ty46 (.node 44 ty44 (.node 43 ty43 .leaf .leaf) (.node 45 ty45 .leaf .leaf)) (.node 48 ty48 (.node 47 ty47 .leaf .leaf) (.node 49 ty49 .leaf .leaf))) (.node 54 ty54 (.node 52 ty52 (.node 51 ty51 .leaf .leaf) (.node 53 ty53 .leaf .leaf)) (.node 56 ty56 (.node 55 ty55 .leaf .leaf) (.node 57 ty57 .leaf .leaf)))) (.node 66 ty66 (.node 62 ty62 (.node 60 ty60 (.node 59 ty59 .leaf .leaf) (.node 61 ty61 .leaf .leaf)) (.node 64 ty64 (.node 63 ty63 .leaf .leaf) (.node 65 ty65 .leaf .leaf))) (.node 70 ty70 (.node 68 ty68 (.node 67 ty67 .leaf .leaf) (.node 69 ty69 .leaf .leaf)) (.node 72 ty72 (.node 71 ty71 .leaf .leaf) .leaf))))) (.node 105 ty105 (.node 89 ty89 (.node 81 ty81 (.node 77 ty77 (.node 75 ty75 (.node 74 ty74 .leaf .leaf) (.node 76 ty76 .leaf .leaf)) (.node 79 ty79 (.node 78 ty78 .leaf .leaf) (.node 80 ty80 .leaf .leaf))) (.node 85 ty85 (.node 83 ty83 (.node 82 ty82 .leaf .leaf) (.node 84 ty84 .leaf .leaf)) (.node 87 ty87 (.node 86 ty86 .leaf .leaf) (.node 88 ty88 .leaf .leaf)))) (.node 97 ty97 (.node 93 ty93 (.node 91 ty91 (.node 90 ty90 .leaf .leaf) (.node 92 ty92 .leaf .leaf)) (.node 95 ty95 (.node 94 ty94 .leaf .leaf) (.node 96 ty96 .leaf .leaf))) (.node 101 ty101 (.node 99 ty99 (.node 98 ty98 .leaf .leaf) (.node 100 ty100 .leaf .leaf)) (.node 103 ty103 (.node 102 ty102 .leaf .leaf) (.node 104 ty104 .leaf .leaf))))) (.node 121 ty121 (.node 113 ty113 (.node 109 ty109 (.node 107 ty107 (.node 106 ty106 .leaf .leaf) (.node 108 ty108 .leaf .leaf)) (.node 111 ty111 (.node 110 ty110 .leaf .leaf) (.node 112 ty112 .leaf .leaf))) (.node 117 ty117 (.node 115 ty115 (.node 114 ty114 .leaf .leaf) (.node 116 ty116 .leaf .leaf)) (.node 119 ty119 (.node 118 ty118 .leaf .leaf) (.node 120 ty120 .leaf .leaf)))) (.node 129 ty129 (.node 125 ty125 (.node 123 ty123 (.node 122 ty122 .leaf .leaf) (.node 124 ty124 .leaf .leaf)) (.node 127 ty127 (.node 126 ty126 .leaf .leaf) (.node 128 ty128 .leaf .leaf))) (.node 138 ty138 (.node 131 ty131 (.node 130 ty130 .leaf .leaf) (.node 132 ty132 .leaf .leaf)) (.node 143 ty143 (.node 139 ty139 .leaf .leaf) .leaf))))))
theorem tt_ok : tt.Ok Tryd.prog := ⟨ty73_ok, ⟨ty42_ok, ⟨ty26_ok, ⟨ty12_ok, ⟨ty3_ok, ⟨ty1_ok, ⟨ty0_ok, trivial, trivial⟩, ⟨ty2_ok, trivial, trivial⟩⟩, ⟨ty5_ok, ⟨ty4_ok, trivial, trivial⟩, ⟨ty9_ok, trivial, trivial⟩⟩⟩, ⟨ty22_ok, ⟨ty20_ok, ⟨ty13_ok, trivial, trivial⟩, ⟨ty21_ok, trivial, trivial⟩⟩, ⟨ty24_ok, ⟨ty23_ok, trivial, trivial⟩, ⟨ty25_ok, trivial, trivial⟩⟩⟩⟩, ⟨ty34_ok, ⟨ty30_ok, ⟨ty28_ok, ⟨ty27_ok, trivial, trivial⟩, ⟨ty29_ok, trivial, trivial⟩⟩, ⟨ty32_ok, ⟨ty31_ok, trivial, trivial⟩, ⟨ty33_ok, trivial, trivial⟩⟩⟩, ⟨ty38_ok, ⟨ty36_ok, ⟨ty35_ok, trivial, trivial⟩, ⟨ty37_ok, trivial, trivial⟩⟩, ⟨ty40_ok, ⟨ty39_ok, trivial, trivial⟩, ⟨ty41_ok, trivial, trivial⟩⟩⟩⟩⟩, ⟨ty58_ok, ⟨ty50_ok, ⟨ty46_ok, ⟨ty44_ok, ⟨ty43_ok, trivial, trivial⟩, ⟨ty45_ok, trivial, trivial⟩⟩, ⟨ty48_ok, ⟨ty47_ok, trivial, trivial⟩, ⟨ty49_ok, trivial, trivial⟩⟩⟩, ⟨ty54_ok, ⟨ty52_ok, ⟨ty51_ok, trivial, trivial⟩, ⟨ty53_ok, trivial, trivial⟩⟩, ⟨ty56_ok, ⟨ty55_ok, trivial, trivial⟩, ⟨ty57_ok, trivial, trivial⟩⟩⟩⟩, ⟨ty66_ok, ⟨ty62_ok, ⟨ty60_ok, ⟨ty59_ok, trivial, trivial⟩, ⟨ty61_ok, trivial, trivial⟩⟩, ⟨ty64_ok, ⟨ty63_ok, trivial, trivial⟩, ⟨ty65_ok, trivial, trivial⟩⟩⟩, ⟨ty70_ok, ⟨ty68_ok, ⟨ty67_ok, trivial, trivial⟩, ⟨ty69_ok, trivial, trivial⟩⟩, ⟨ty72_ok, ⟨ty71_ok, trivial, trivial⟩, trivial⟩⟩⟩⟩⟩, ⟨ty105_ok, ⟨ty89_ok, ⟨ty81_ok, ⟨ty77_ok, ⟨ty75_ok, ⟨ty74_ok, trivial, trivial⟩, ⟨ty76_ok, trivial, trivial⟩⟩, ⟨ty79_ok, ⟨ty78_ok, trivial, trivial⟩, ⟨ty80_ok, trivial, trivial⟩⟩⟩, ⟨ty85_ok, ⟨ty83_ok, ⟨ty82_ok, trivial, trivial⟩, ⟨ty84_ok, trivial, trivial⟩⟩, ⟨ty87_ok, ⟨ty86_ok, trivial, trivial⟩, ⟨ty88_ok, trivial, trivial⟩⟩⟩⟩, ⟨ty97_ok, ⟨ty93_ok, ⟨ty91_ok, ⟨ty90_ok, trivial, trivial⟩, ⟨ty92_ok, trivial, trivial⟩⟩, ⟨ty95_ok, ⟨ty94_ok, trivial, trivial⟩, ⟨ty96_ok, trivial, trivial⟩⟩⟩, ⟨ty101_ok, ⟨ty99_ok, ⟨ty98_ok, trivial, trivial⟩, ⟨ty100_ok, trivial, trivial⟩⟩, ⟨ty103_ok, ⟨ty102_ok, trivial, trivial⟩, ⟨ty104_ok, trivial, trivial⟩⟩⟩⟩⟩, ⟨ty121_ok, ⟨ty113_ok, ⟨ty109_ok, ⟨ty107_ok, ⟨ty106_ok, trivial, trivial⟩, ⟨ty108_ok, trivial, trivial⟩⟩, ⟨ty111_ok, ⟨ty110_ok, trivial, trivial⟩, ⟨ty112_ok, trivial, trivial⟩⟩⟩, ⟨ty117_ok, ⟨ty115_ok, ⟨ty114_ok, trivial, trivial⟩, ⟨ty116_ok, trivial, trivial⟩⟩, ⟨ty119_ok, ⟨ty118_ok, trivial, trivial⟩, ⟨ty120_ok, trivial, trivial⟩⟩⟩⟩, ⟨ty129_ok, ⟨ty125_ok, ⟨ty123_ok, ⟨ty122_ok, trivial, trivial⟩, ⟨ty124_ok, trivial, trivial⟩⟩, ⟨ty127_ok, ⟨ty126_ok, trivial, trivial⟩, ⟨ty128_ok, trivial, trivial⟩⟩⟩, ⟨ty138_ok, ⟨ty131_ok, ⟨ty130_ok, trivial, trivial⟩, ⟨ty132_ok, trivial, trivial⟩⟩, ⟨ty143_ok, ⟨ty139_ok, trivial, trivial⟩, trivial⟩⟩⟩⟩⟩⟩
end Go.Proofs.YtgmeahcclogfmaaDoor
