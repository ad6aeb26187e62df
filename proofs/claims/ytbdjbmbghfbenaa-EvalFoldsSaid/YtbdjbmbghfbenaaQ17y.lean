/-
  Chapter 17: what a store reads as.
-/
import Derived.Test.YtbdjbmbghfbenaaQ14x
import Derived.Test.YtbdjbmbghfbenaaQ17h

namespace Go.Proofs.Ytbdjbmbghfbenaa
open Go Go.Tp Go.ChangeShapes Go.WideShapes Go.ChangeAt Go.RowKit
set_option linter.unusedVariables false
set_option linter.unusedSimpArgs false
set_option maxRecDepth 100000
section
variable {H : Type} {enc : TypeId × Value → H} {W : World} {base : Nat} {sp : Nat → Bool} {hd : Bool}
theorem op_srow (n : Nat) : Opn enc Try.prog W base sp hd (n + 1) 42 (fun l => [rowA l]) (fun l => (∀ x, x ∈ l → i32 x) ∧ l.length * 4 ≤ reachBytes) :=
  Opn.slice1 (bt := 4) (by kernel_rfl) (by kernel_rfl) (by kernel_rfl) (Opn.i32 (t := 21) (by kernel_rfl) n)
theorem op_store (n : Nat) : Opn enc Try.prog W base sp hd (n + 2) 22 (fun s => [rowsA s]) (fun s => (∀ l, l ∈ s → (∀ x, x ∈ l → i32 x) ∧ l.length * 4 ≤ reachBytes) ∧ s.length * 24 ≤ reachBytes) :=
  Opn.slice1 (bt := 24) (by kernel_rfl) (by kernel_rfl) (by kernel_rfl) (op_srow n)
theorem argStore {v : Value} {d : DataW H} {p : List MemPlace} (hval : Value.okWide Try.prog W .any base 22 v) (h : DataW.Trod enc Try.prog W 0 (fun _ => true) true 22 v d p) (hw : Wt Try.prog 22 d) :
    ∃ s, wfS s ∧ short s ∧ Rp (hOf W) (rowsA s) v := by
  obtain ⟨s, ⟨h1, h2⟩, h3⟩ := arg_slice (e := 42) (t := 22) (en := fun s => rowsA s) (by kernel_rfl) (fun n => (op_store n).mono (by omega)) hval h hw
  unfold reachBytes at h2
  refine ⟨s, fun r hr => (h1 r hr).1, ⟨by omega, fun r hr => ?_⟩, h3⟩
  have := (h1 r hr).2
  unfold reachBytes at this
  omega
end
end Go.Proofs.Ytbdjbmbghfbenaa
