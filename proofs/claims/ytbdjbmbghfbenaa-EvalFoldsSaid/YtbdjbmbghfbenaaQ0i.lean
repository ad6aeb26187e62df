/-
  The first of a list's elements that are such.
-/
import Derived.Test.YtbdjbmbghfbenaaQ0

namespace Go.Proofs.Ytbdjbmbghfbenaa
open Go Go.Tp

/-- the first of a list's elements that are such -/
def idxF {α : Type} (p : α → Bool) : List α → Nat → Int
  | [], _ => -1
  | x :: r, i => if p x then (i : Int) else idxF p r (i + 1)
theorem idxF_any {α : Type} (p : α → Bool) : ∀ (l : List α) (i : Nat), decide (0 ≤ idxF p l i) = l.any p
  | [], _ => rfl
  | x :: r, i => by
    rw [idxF, List.any_cons]
    cases h : p x
    · simp; exact idxF_any p r (i + 1)
    · simp
theorem drop_at {α : Type} {l : List α} {i : Nat} {x : α} (h : l[i]? = some x) : l.drop i = x :: l.drop (i + 1) := by
  obtain ⟨h1, h2⟩ := List.getElem?_eq_some_iff.1 h
  rw [← h2, List.getElem_cons_drop]

end Go.Proofs.Ytbdjbmbghfbenaa
