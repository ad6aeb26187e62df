/-
  Layer 14: an operator's result is a word.
-/
import Derived.Test.YtbdjbmbghfbenaaQ14b

namespace Go.Proofs.Ytbdjbmbghfbenaa
open Go Go.Tp
set_option linter.unusedVariables false
set_option linter.unusedSimpArgs false
set_option maxRecDepth 100000

/-! ### the plain law -/
def okI (x : Option Int) : Prop := ∀ r, x = some r → i32 r
theorem ok_ite {p : Prop} [Decidable p] {x y : Option Int} (hx : okI x) (hy : okI y) : okI (if p then x else y) := by split <;> assumption
theorem ok_none : okI none := fun r h => by cases h
theorem ok_some {x : Int} (h : i32 x) : okI (some x) := fun r e => by injection e with e; subst e; exact h
theorem ok_wrap (n : Int) : okI (some (w32 n)) := ok_some (w32_in n)
theorem ok_fit (n : Int) : okI (fit32 n) := by
  unfold fit32; split
  · rename_i h; simp [fitB] at h; exact ok_some (by unfold i32; omega)
  · exact ok_none
theorem i32_0 : i32 0 := by unfold i32; decide
theorem ok_truth (b : Bool) : okI (some (truthI b)) := ok_some (by cases b <;> simp [truthI, i32])
theorem tmod_in {a b : Int} (ha : i32 a) (hb : i32 b) (h : ¬ b = 0) : i32 (a.tmod b) := by
  have h1 := Int.natAbs_tmod a b
  have h2 : a.natAbs % b.natAbs < b.natAbs := Nat.mod_lt _ (by omega)
  unfold i32 at *; omega
theorem applyC_in {o a b : Int} (ha : i32 a) (hb : i32 b) : okI (applyC o a b) := by
  unfold applyC
  refine ok_ite (ok_fit _) <| ok_ite (ok_fit _) <| ok_ite (ok_fit _) <| ok_ite ?_ <| ok_ite ?_ <| ok_ite (ok_wrap _) <| ok_ite (ok_wrap _) <| ok_ite (ok_wrap _) <|
    ok_ite (ok_some (w32_in _)) <| ok_ite (ok_some (w32_in _)) <| ok_ite (ok_some (w32_in _)) <| ok_ite (ok_some ?_) <| ok_ite (ok_some ?_) <| ok_ite (ok_truth _) <| ok_ite (ok_truth _) <| ok_ite (ok_truth _) <|
    ok_ite (ok_truth _) <| ok_ite (ok_truth _) <| ok_ite (ok_truth _) <| ok_ite (ok_ite (ok_truth _) ok_none) <| ok_ite (ok_ite (ok_truth _) ok_none) <| ok_ite (ok_truth _) <| ok_ite (ok_fit _) <| ok_ite (ok_wrap _) <| ok_ite (ok_some (w32_in _)) <| ok_ite (ok_ite (ok_truth _) ok_none) ok_none
  · split
    · exact ok_none
    · rename_i h; exact ok_some (tdiv_in ha (by simpa using h))
  · split
    · exact ok_none
    · rename_i h; exact ok_some (tmod_in ha hb h)
  · unfold shlM; split
    · exact i32_0
    · exact w32_in _
  · unfold shrM; split
    · exact i32_0
    · exact w32_in _
end Go.Proofs.Ytbdjbmbghfbenaa
