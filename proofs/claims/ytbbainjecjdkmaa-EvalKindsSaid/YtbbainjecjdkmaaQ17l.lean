/-
  Chapter 17: EvalPut: the plain law.
-/
import Derived.Test.YtbbainjecjdkmaaQ17k

namespace Go.Proofs.Ytbbainjecjdkmaa
open Go Go.Tp
set_option linter.unusedVariables false
set_option linter.unusedSimpArgs false
set_option maxRecDepth 100000
set_option maxHeartbeats 4000000

theorem list_set_self {α : Type} {l : List α} {i : Nat} {x : α} (h : l[i]? = some x) : l.set i x = l := by
  apply List.ext_getElem?
  intro m
  rw [List.getElem?_set]
  split
  · rename_i e; subst e; rw [h]; simp [(List.getElem?_eq_some_iff.1 h).1]
  · rfl
theorem value_elem (s : List (List Int)) (k j : Int) (h0 : 0 ≤ k) (h1 : k ≤ 255) : valueM s (elemE k (numE j)) = atM s k j := by
  have hv : valid (elemE k (numE j)) := by
    refine ⟨?_, by simp [sz, szl], by simp [ht, htl]⟩
    simp only [fine, finel, shapeB, List.length_cons, List.length_nil]; simp [h0, h1]; exact ⟨(by show ¬(3 : Int) = 1; decide), (by show ¬(3 : Int) = 2; decide)⟩
  rw [valueM, if_pos hv]
  rfl
theorem tmod_nat {v : Int} (n : Nat) (h : 0 ≤ v) : v.tmod n = ((v.toNat % n : Nat) : Int) := by
  rw [Int.tmod_eq_emod_of_nonneg h, Int.natCast_emod, Int.toNat_of_nonneg h]
theorem atM_nat (s : List (List Int)) (k j : Nat) : atM s k j = (s[k]?).bind (·[j]?) := by
  unfold atM; rw [if_neg (by omega)]; simp
theorem putM_at {s : List (List Int)} {k j : Nat} {r : List Int} {y : Int} (hr : s[k]? = some r) (hy : r[j]? = some y) (x : Int) : putM s k j x = s.set k (r.set j x) := by
  rw [putM, atM_nat, hr]; simp [hy, hr]
theorem putM_no {s : List (List Int)} {k j : Int} (h : atM s k j = none) (x : Int) : putM s k j x = s := by
  rw [putM, h]; simp
theorem alike_iff {α : Type} {f : α → α → Bool} (hf : ∀ x y, f x y = true ↔ x = y) (a b : List α) : alikeB f a b = true ↔ a = b := by
  constructor
  · intro h
    simp only [alikeB, allEq, Bool.and_eq_true, decide_eq_true_eq, List.all_eq_true, List.mem_range] at h
    obtain ⟨h1, h2⟩ := h
    apply List.ext_getElem?
    intro i
    rcases Nat.lt_or_ge i a.length with hi | hi
    · have h3 := h2 i hi
      have hi2 : i < b.length := by omega
      rw [List.getElem?_eq_getElem hi, List.getElem?_eq_getElem hi2] at h3 ⊢
      simp only [hf] at h3
      rw [h3]
    · rw [List.getElem?_eq_none hi, List.getElem?_eq_none (by omega)]
  · rintro rfl; exact alike_refl (fun x => (hf x x).2 rfl) a
theorem same_iff (a b : List (List Int)) : sameB a b = true ↔ a = b := alike_iff (fun x y => alike_iff (fun u v => by simp) x y) a b
theorem set_at {s : List (List Int)} {k j : Nat} {r : List Int} (hr : s[k]? = some r) (hj : j < r.length) (x : Int) (a b : Nat) : atM (s.set k (r.set j x)) a b = if a = k ∧ b = j then some x else atM s a b := by
  have hk := (List.getElem?_eq_some_iff.1 hr).1
  rw [atM_nat, atM_nat, List.getElem?_set]
  by_cases h1 : k = a
  · subst h1
    rw [if_pos rfl, if_pos hk, hr]
    simp only [Option.bind_some, List.getElem?_set]
    by_cases h2 : j = b
    · subst h2; simp [hj]
    · simp [h2, Ne.symm h2]
  · simp [h1, Ne.symm h1]
theorem set_back {s : List (List Int)} {k j : Nat} {r : List Int} {y : Int} (hr : s[k]? = some r) (hy : r[j]? = some y) (x : Int) : (s.set k (r.set j x)).set k ((r.set j x).set j y) = s := by
  rw [List.set_set, List.set_set, list_set_self hy, list_set_self hr]
theorem wfS_set {s : List (List Int)} (hs : wfS s) {k j : Nat} {r : List Int} (hr : s[k]? = some r) {x : Int} (hx : i32 x) : wfS (s.set k (r.set j x)) := by
  intro q hq y hy
  rcases List.mem_or_eq_of_mem_set hq with hq | rfl
  · exact hs q hq y hy
  · rcases List.mem_or_eq_of_mem_set hy with hy | rfl
    · exact hs r (List.mem_of_getElem? hr) y hy
    · exact hx
theorem short_set {s : List (List Int)} (hb : short s) {k j : Nat} {r : List Int} (hr : s[k]? = some r) {x : Int} : short (s.set k (r.set j x)) :=
  ⟨by rw [List.length_set]; exact hb.1, fun q hq => (List.mem_or_eq_of_mem_set hq).elim (hb.2 q) fun h => by rw [h, List.length_set]; exact hb.2 r (List.mem_of_getElem? hr)⟩
theorem lens_mem {s : List (List Int)} {r : List Int} (h : r ∈ s) : r.length ≤ lens s := by
  unfold lens
  induction s with
  | nil => cases h
  | cons q s ih =>
    rw [List.map_cons, List.sum_cons]
    rcases List.mem_cons.1 h with rfl | h
    · omega
    · have := ih h; omega
theorem great_row {s : List (List Int)} (hg : greatB s = false) {a : Nat} {r : List Int} (ha : s[a]? = some r) : a < 300 → r.length ≤ 600 := fun h => by
  have h1 := of_decide_eq_false hg
  have h2 : r ∈ s.take 300 := by
    refine List.mem_of_getElem? (i := a) ?_
    rw [List.getElem?_take, if_pos h]; exact ha
  have h3 := lens_mem h2
  unfold greatN at h1
  omega
end Go.Proofs.Ytbbainjecjdkmaa
