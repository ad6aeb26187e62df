/-
  Data: short words, and small facts on numbers.
-/
import Derived.Test.YtbdjbmbghfbenaaLc
import Derived.Test.YtbdjbmbghfbenaaTpT
namespace Go.Proofs.Ytbdjbmbghfbenaa
open Go Go.Tp
set_option linter.unusedVariables false
set_option linter.unusedSimpArgs false

abbrev gs0 : Ua := []
abbrev AI32 (n : Int) : AV := .v (.int .i32 n)
abbrev AI (n : Int) : AV := .v (.int .i64 n)
abbrev AU8 (n : Int) : AV := .v (.int .u8 n)
abbrev AB (b : Bool) : AV := .v (.bool b)
abbrev optA (x : Option Int) : AV := .tp [AI32 (x.getD 0), AB x.isSome]
theorem Sb.eq {x y : AV} (h : x = y) : Sb x y := by subst h; exact .refl
theorem ai32_eq {a b : Int} (h : a = b) : AI32 a = AI32 b := by rw [h]
theorem ai_eq {a b : Int} (h : a = b) : AI a = AI b := by rw [h]
theorem ab_eq {a b : Bool} (h : a = b) : AB a = AB b := by rw [h]
theorem ab_iff {a b : Bool} (h : a = true ↔ b = true) : AB a = AB b := by rw [Bool.eq_iff_iff.2 h]
theorem map_at {α β : Type} {f : α → β} {l : List α} {i : Nat} {x : α} (h : l[i]? = some x) : (l.map f)[i]? = some (f x) := by rw [List.getElem?_map, h]; rfl
theorem at_ex {α : Type} {l : List α} {i : Int} (h0 : 0 ≤ i) (h1 : i < l.length) : ∃ x, l[i.toNat]? = some x := ⟨l[i.toNat]'(by omega), List.getElem?_eq_getElem _⟩
theorem at_exN {α : Type} {l : List α} {i : Nat} (h1 : i < l.length) : ∃ x, l[i]? = some x := ⟨l[i]'h1, List.getElem?_eq_getElem _⟩
theorem at_none {α : Type} {l : List α} {i : Int} (h1 : (l.length : Int) ≤ i) : l[i.toNat]? = none := List.getElem?_eq_none (by omega)

def w32 (n : Int) : Int := IntKind.i32.wrap n
def w64 (n : Int) : Int := IntKind.i64.wrap n
def wu32 (n : Int) : Int := IntKind.u32.wrap n
def wu64 (n : Int) : Int := IntKind.u64.wrap n
theorem w32_eq (n : Int) : IntKind.i32.wrap n = (n + 2147483648) % 4294967296 - 2147483648 := IntKind.wrap_i32 n
theorem w64_eq (n : Int) : IntKind.i64.wrap n = (n + 9223372036854775808) % 18446744073709551616 - 9223372036854775808 := IntKind.wrap_i64 n
theorem wu32_eq (n : Int) : IntKind.u32.wrap n = n % 4294967296 := by
  simp [IntKind.wrap, IntKind.signed, IntKind.bits]
theorem wu64_eq (n : Int) : IntKind.u64.wrap n = n % 18446744073709551616 := by
  simp [IntKind.wrap, IntKind.signed, IntKind.bits]
theorem w32_id {n : Int} (h : i32 n) : IntKind.i32.wrap n = n := wr32 n h
theorem w64_id {n : Int} (h : i64 n) : IntKind.i64.wrap n = n := wr64 n h
theorem w64_32 {n : Int} (h : i32 n) : IntKind.i64.wrap n = n := wr64 n (by unfold i32 at h; omega)
theorem w32_in (n : Int) : i32 (IntKind.i32.wrap n) := by unfold i32; rw [w32_eq]; omega
theorem inc_eq (i : Nat) (h : i < 4611686018427387904) : AV.v (.int .i64 (IntKind.i64.wrap ((i : Int) + 1))) = AI ((i + 1 : Nat) : Int) := by
  rw [wr64 _ (by omega)]; rfl
end Go.Proofs.Ytbdjbmbghfbenaa
