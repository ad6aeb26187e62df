/-
  The table of this seat's types, by program (tt.py), each row against the loaded program.
-/
import Derived.Test.YtppapfhfkkafdaaDoorTpD
import Derived.Test.YtppapfhfkkafdaaDoorChecked
namespace Go.Proofs.YtppapfhfkkafdaaDoor
open Go Go.Tp
set_option maxRecDepth 100000
set_option linter.unusedSimpArgs false
def ty0 : TI := ⟨(TypeDesc.tuple #[]), 1, 0, [(Value.tuple #[])], false⟩
theorem ty0_ok : TI.Ok Tryd.prog 0 ty0 := TI.mk_ok (by kernel_rfl) (by kernel_rfl) rfl rfl
def ty1 : TI := ⟨(TypeDesc.func #[] #[] false), 1, 8, [Value.nilFunc], false⟩
theorem ty1_ok : TI.Ok Tryd.prog 1 ty1 := TI.mk_ok (by kernel_rfl) (by kernel_rfl) rfl rfl
def ty2 : TI := ⟨(TypeDesc.int IntKind.i64), 1, 8, [(Value.int IntKind.i64 0)], false⟩
theorem ty2_ok : TI.Ok Tryd.prog 2 ty2 := TI.mk_ok (by kernel_rfl) (by kernel_rfl) rfl rfl
def ty3 : TI := ⟨(TypeDesc.int IntKind.i64), 1, 8, [(Value.int IntKind.i64 0)], false⟩
theorem ty3_ok : TI.Ok Tryd.prog 3 ty3 := TI.mk_ok (by kernel_rfl) (by kernel_rfl) rfl rfl
def ty4 : TI := ⟨TypeDesc.bool, 1, 1, [(Value.bool false)], false⟩
theorem ty4_ok : TI.Ok Tryd.prog 4 ty4 := TI.mk_ok (by kernel_rfl) (by kernel_rfl) rfl rfl
def ty5 : TI := ⟨(TypeDesc.int IntKind.u8), 1, 1, [(Value.int IntKind.u8 0)], false⟩
theorem ty5_ok : TI.Ok Tryd.prog 5 ty5 := TI.mk_ok (by kernel_rfl) (by kernel_rfl) rfl rfl
def ty9 : TI := ⟨TypeDesc.string, 1, 16, [(Value.string { data := #[] })], false⟩
theorem ty9_ok : TI.Ok Tryd.prog 9 ty9 := TI.mk_ok (by kernel_rfl) (by kernel_rfl) rfl rfl
def ty12 : TI := ⟨(TypeDesc.int IntKind.u64), 1, 8, [(Value.int IntKind.u64 0)], false⟩
theorem ty12_ok : TI.Ok Tryd.prog 12 ty12 := TI.mk_ok (by kernel_rfl) (by kernel_rfl) rfl rfl
def ty13 : TI := ⟨(TypeDesc.struct #[{ name := "msg", type := 9, offset := 0, embedded := false, tag := "", pkgPath := "runtime", byteOffset := 0 }, { name := "addr", type := 12, offset := 1, embedded := false, tag := "", pkgPath := "runtime", byteOffset := 16 }]), 2, 24, [(Value.string { data := #[] }), (Value.int IntKind.u64 0)], true⟩
theorem ty13_ok : TI.Ok Tryd.prog 13 ty13 := TI.mk_ok (by kernel_rfl) (by kernel_rfl) rfl rfl
def ty20 : TI := ⟨(TypeDesc.interface #[]), 1, 16, [Value.nilIface], false⟩
theorem ty20_ok : TI.Ok Tryd.prog 20 ty20 := TI.mk_ok (by kernel_rfl) (by kernel_rfl) rfl rfl
def ty21 : TI := ⟨(TypeDesc.int IntKind.i32), 1, 4, [(Value.int IntKind.i32 0)], false⟩
theorem ty21_ok : TI.Ok Tryd.prog 21 ty21 := TI.mk_ok (by kernel_rfl) (by kernel_rfl) rfl rfl
def ty22 : TI := ⟨(TypeDesc.int IntKind.u8), 1, 1, [(Value.int IntKind.u8 0)], false⟩
theorem ty22_ok : TI.Ok Tryd.prog 22 ty22 := TI.mk_ok (by kernel_rfl) (by kernel_rfl) rfl rfl
def ty23 : TI := ⟨(TypeDesc.int IntKind.u8), 1, 1, [(Value.int IntKind.u8 0)], false⟩
theorem ty23_ok : TI.Ok Tryd.prog 23 ty23 := TI.mk_ok (by kernel_rfl) (by kernel_rfl) rfl rfl
def ty24 : TI := ⟨(TypeDesc.int IntKind.u8), 1, 1, [(Value.int IntKind.u8 0)], false⟩
theorem ty24_ok : TI.Ok Tryd.prog 24 ty24 := TI.mk_ok (by kernel_rfl) (by kernel_rfl) rfl rfl
def ty25 : TI := ⟨(TypeDesc.slice 27), 1, 24, [(Value.slice none 0 0)], false⟩
theorem ty25_ok : TI.Ok Tryd.prog 25 ty25 := TI.mk_ok (by kernel_rfl) (by kernel_rfl) rfl rfl
def ty26 : TI := ⟨(TypeDesc.struct #[{ name := "Kind", type := 22, offset := 0, embedded := false, tag := "", pkgPath := "", byteOffset := 0 }, { name := "Oper", type := 23, offset := 1, embedded := false, tag := "", pkgPath := "", byteOffset := 1 }, { name := "To", type := 24, offset := 2, embedded := false, tag := "", pkgPath := "", byteOffset := 2 }, { name := "N", type := 21, offset := 3, embedded := false, tag := "", pkgPath := "", byteOffset := 4 }, { name := "V", type := 3, offset := 4, embedded := false, tag := "", pkgPath := "", byteOffset := 8 }, { name := "L", type := 25, offset := 5, embedded := false, tag := "", pkgPath := "", byteOffset := 16 }]), 6, 40, [(Value.int IntKind.u8 0), (Value.int IntKind.u8 0), (Value.int IntKind.u8 0), (Value.int IntKind.i32 0), (Value.int IntKind.i64 0), (Value.slice none 0 0)], true⟩
theorem ty26_ok : TI.Ok Tryd.prog 26 ty26 := TI.mk_ok (by kernel_rfl) (by kernel_rfl) rfl rfl
def ty27 : TI := ⟨(TypeDesc.struct #[{ name := "Kind", type := 22, offset := 0, embedded := false, tag := "", pkgPath := "", byteOffset := 0 }, { name := "Oper", type := 23, offset := 1, embedded := false, tag := "", pkgPath := "", byteOffset := 1 }, { name := "To", type := 24, offset := 2, embedded := false, tag := "", pkgPath := "", byteOffset := 2 }, { name := "N", type := 21, offset := 3, embedded := false, tag := "", pkgPath := "", byteOffset := 4 }, { name := "V", type := 3, offset := 4, embedded := false, tag := "", pkgPath := "", byteOffset := 8 }, { name := "L", type := 25, offset := 5, embedded := false, tag := "", pkgPath := "", byteOffset := 16 }]), 6, 40, [(Value.int IntKind.u8 0), (Value.int IntKind.u8 0), (Value.int IntKind.u8 0), (Value.int IntKind.i32 0), (Value.int IntKind.i64 0), (Value.slice none 0 0)], true⟩
theorem ty27_ok : TI.Ok Tryd.prog 27 ty27 := TI.mk_ok (by kernel_rfl) (by kernel_rfl) rfl rfl
def ty28 : TI := ⟨(TypeDesc.func #[27] #[3] false), 1, 8, [Value.nilFunc], false⟩
theorem ty28_ok : TI.Ok Tryd.prog 28 ty28 := TI.mk_ok (by kernel_rfl) (by kernel_rfl) rfl rfl
def ty29 : TI := ⟨(TypeDesc.func #[27] #[4] false), 1, 8, [Value.nilFunc], false⟩
theorem ty29_ok : TI.Ok Tryd.prog 29 ty29 := TI.mk_ok (by kernel_rfl) (by kernel_rfl) rfl rfl
def ty30 : TI := ⟨(TypeDesc.func #[] #[4] false), 1, 8, [Value.nilFunc], false⟩
theorem ty30_ok : TI.Ok Tryd.prog 30 ty30 := TI.mk_ok (by kernel_rfl) (by kernel_rfl) rfl rfl
def ty31 : TI := ⟨(TypeDesc.func #[27] #[27] false), 1, 8, [Value.nilFunc], false⟩
theorem ty31_ok : TI.Ok Tryd.prog 31 ty31 := TI.mk_ok (by kernel_rfl) (by kernel_rfl) rfl rfl
def ty32 : TI := ⟨(TypeDesc.func #[23, 27, 27] #[27] false), 1, 8, [Value.nilFunc], false⟩
theorem ty32_ok : TI.Ok Tryd.prog 32 ty32 := TI.mk_ok (by kernel_rfl) (by kernel_rfl) rfl rfl
def ty33 : TI := ⟨(TypeDesc.func #[27, 23] #[4] false), 1, 8, [Value.nilFunc], false⟩
theorem ty33_ok : TI.Ok Tryd.prog 33 ty33 := TI.mk_ok (by kernel_rfl) (by kernel_rfl) rfl rfl
def ty34 : TI := ⟨(TypeDesc.struct #[{ name := "ok", type := 4, offset := 0, embedded := false, tag := "", pkgPath := "transputer/depth", byteOffset := 0 }, { name := "safe", type := 4, offset := 1, embedded := false, tag := "", pkgPath := "transputer/depth", byteOffset := 1 }, { name := "regs", type := 3, offset := 2, embedded := false, tag := "", pkgPath := "transputer/depth", byteOffset := 8 }, { name := "temps", type := 3, offset := 3, embedded := false, tag := "", pkgPath := "transputer/depth", byteOffset := 16 }]), 4, 24, [(Value.bool false), (Value.bool false), (Value.int IntKind.i64 0), (Value.int IntKind.i64 0)], true⟩
theorem ty34_ok : TI.Ok Tryd.prog 34 ty34 := TI.mk_ok (by kernel_rfl) (by kernel_rfl) rfl rfl
def ty35 : TI := ⟨(TypeDesc.struct #[{ name := "ok", type := 4, offset := 0, embedded := false, tag := "", pkgPath := "transputer/depth", byteOffset := 0 }, { name := "safe", type := 4, offset := 1, embedded := false, tag := "", pkgPath := "transputer/depth", byteOffset := 1 }, { name := "regs", type := 3, offset := 2, embedded := false, tag := "", pkgPath := "transputer/depth", byteOffset := 8 }, { name := "temps", type := 3, offset := 3, embedded := false, tag := "", pkgPath := "transputer/depth", byteOffset := 16 }]), 4, 24, [(Value.bool false), (Value.bool false), (Value.int IntKind.i64 0), (Value.int IntKind.i64 0)], true⟩
theorem ty35_ok : TI.Ok Tryd.prog 35 ty35 := TI.mk_ok (by kernel_rfl) (by kernel_rfl) rfl rfl
def ty36 : TI := ⟨(TypeDesc.func #[27] #[35] false), 1, 8, [Value.nilFunc], false⟩
theorem ty36_ok : TI.Ok Tryd.prog 36 ty36 := TI.mk_ok (by kernel_rfl) (by kernel_rfl) rfl rfl
def ty37 : TI := ⟨(TypeDesc.func #[21] #[27] false), 1, 8, [Value.nilFunc], false⟩
theorem ty37_ok : TI.Ok Tryd.prog 37 ty37 := TI.mk_ok (by kernel_rfl) (by kernel_rfl) rfl rfl
def ty38 : TI := ⟨(TypeDesc.func #[27, 3, 3] #[3] false), 1, 8, [Value.nilFunc], false⟩
theorem ty38_ok : TI.Ok Tryd.prog 38 ty38 := TI.mk_ok (by kernel_rfl) (by kernel_rfl) rfl rfl
def ty39 : TI := ⟨(TypeDesc.func #[27, 3] #[35] false), 1, 8, [Value.nilFunc], false⟩
theorem ty39_ok : TI.Ok Tryd.prog 39 ty39 := TI.mk_ok (by kernel_rfl) (by kernel_rfl) rfl rfl
def ty40 : TI := ⟨(TypeDesc.slice 35), 1, 24, [(Value.slice none 0 0)], false⟩
theorem ty40_ok : TI.Ok Tryd.prog 40 ty40 := TI.mk_ok (by kernel_rfl) (by kernel_rfl) rfl rfl
def ty41 : TI := ⟨(TypeDesc.func #[27, 40] #[35] false), 1, 8, [Value.nilFunc], false⟩
theorem ty41_ok : TI.Ok Tryd.prog 41 ty41 := TI.mk_ok (by kernel_rfl) (by kernel_rfl) rfl rfl
def ty42 : TI := ⟨(TypeDesc.func #[3, 44] #[3] true), 1, 8, [Value.nilFunc], false⟩
theorem ty42_ok : TI.Ok Tryd.prog 42 ty42 := TI.mk_ok (by kernel_rfl) (by kernel_rfl) rfl rfl
def ty43 : TI := ⟨(TypeDesc.array 27 4), 27, 27, [(Value.bool false), (Value.bool false), (Value.bool false), (Value.bool false), (Value.bool false), (Value.bool false), (Value.bool false), (Value.bool false), (Value.bool false), (Value.bool false), (Value.bool false), (Value.bool false), (Value.bool false), (Value.bool false), (Value.bool false), (Value.bool false), (Value.bool false), (Value.bool false), (Value.bool false), (Value.bool false), (Value.bool false), (Value.bool false), (Value.bool false), (Value.bool false), (Value.bool false), (Value.bool false), (Value.bool false)], true⟩
theorem ty43_ok : TI.Ok Tryd.prog 43 ty43 := TI.mk_ok (by kernel_rfl) (by kernel_rfl) rfl rfl
def ty44 : TI := ⟨(TypeDesc.slice 3), 1, 24, [(Value.slice none 0 0)], false⟩
theorem ty44_ok : TI.Ok Tryd.prog 44 ty44 := TI.mk_ok (by kernel_rfl) (by kernel_rfl) rfl rfl
def ty45 : TI := ⟨(TypeDesc.func #[] #[9] false), 1, 8, [Value.nilFunc], false⟩
theorem ty45_ok : TI.Ok Tryd.prog 45 ty45 := TI.mk_ok (by kernel_rfl) (by kernel_rfl) rfl rfl
def ty51 : TI := ⟨(TypeDesc.func #[] #[3] false), 1, 8, [Value.nilFunc], false⟩
theorem ty51_ok : TI.Ok Tryd.prog 51 ty51 := TI.mk_ok (by kernel_rfl) (by kernel_rfl) rfl rfl
def ty52 : TI := ⟨(TypeDesc.int IntKind.u32), 1, 4, [(Value.int IntKind.u32 0)], false⟩
theorem ty52_ok : TI.Ok Tryd.prog 52 ty52 := TI.mk_ok (by kernel_rfl) (by kernel_rfl) rfl rfl
def ty56 : TI := ⟨(TypeDesc.pointer 5), 1, 8, [(Value.pointer none)], false⟩
theorem ty56_ok : TI.Ok Tryd.prog 56 ty56 := TI.mk_ok (by kernel_rfl) (by kernel_rfl) rfl rfl
def tt : TT := (.node 30 ty30 (.node 20 ty20 (.node 4 ty4 (.node 2 ty2 (.node 1 ty1 (.node 0 ty0 .leaf .leaf) .leaf) (.node 3 ty3 .leaf .leaf)) (.node 12 ty12 (.node 9 ty9 (.node 5 ty5 .leaf .leaf) .leaf) (.node 13 ty13 .leaf .leaf))) (.node 25 ty25 (.node 23 ty23 (.node 22 ty22 (.node 21 ty21 .leaf .leaf) .leaf) (.node 24 ty24 .leaf .leaf)) (.node 28 ty28 (.node 27 ty27 (.node 26 ty26 .leaf .leaf) .leaf) (.node 29 ty29 .leaf .leaf)))) (.node 40 ty40 (.node 35 ty35 (.node 33 ty33 (.node 32 ty32 (.node 31 ty31 .leaf .leaf) .leaf) (.node 34 ty34 .leaf .leaf)) (.node 38 ty38 (.node 37 ty37 (.node 36 ty36 .leaf .leaf) .leaf) (.node 39 ty39 .leaf .leaf))) (.node 45 ty45 (.node 43 ty43 (.node 42 ty42 (.node 41 ty41 .leaf .leaf) .leaf) (.node 44 ty44 .leaf .leaf)) (.node 52 ty52 (.node 51 ty51 .leaf .leaf) (.node 56 ty56 .leaf .leaf)))))
theorem tt_ok : tt.Ok Tryd.prog := ⟨ty30_ok, ⟨ty20_ok, ⟨ty4_ok, ⟨ty2_ok, ⟨ty1_ok, ⟨ty0_ok, trivial, trivial⟩, trivial⟩, ⟨ty3_ok, trivial, trivial⟩⟩, ⟨ty12_ok, ⟨ty9_ok, ⟨ty5_ok, trivial, trivial⟩, trivial⟩, ⟨ty13_ok, trivial, trivial⟩⟩⟩, ⟨ty25_ok, ⟨ty23_ok, ⟨ty22_ok, ⟨ty21_ok, trivial, trivial⟩, trivial⟩, ⟨ty24_ok, trivial, trivial⟩⟩, ⟨ty28_ok, ⟨ty27_ok, ⟨ty26_ok, trivial, trivial⟩, trivial⟩, ⟨ty29_ok, trivial, trivial⟩⟩⟩⟩, ⟨ty40_ok, ⟨ty35_ok, ⟨ty33_ok, ⟨ty32_ok, ⟨ty31_ok, trivial, trivial⟩, trivial⟩, ⟨ty34_ok, trivial, trivial⟩⟩, ⟨ty38_ok, ⟨ty37_ok, ⟨ty36_ok, trivial, trivial⟩, trivial⟩, ⟨ty39_ok, trivial, trivial⟩⟩⟩, ⟨ty45_ok, ⟨ty43_ok, ⟨ty42_ok, ⟨ty41_ok, trivial, trivial⟩, trivial⟩, ⟨ty44_ok, trivial, trivial⟩⟩, ⟨ty52_ok, ⟨ty51_ok, trivial, trivial⟩, ⟨ty56_ok, trivial, trivial⟩⟩⟩⟩⟩
end Go.Proofs.YtppapfhfkkafdaaDoor
