/-
  Chapter 14: the reference's words and its Apply.
-/
import Derived.Test.YtbdjbmbghfbenaaQ14b

namespace Go.Proofs.Ytbdjbmbghfbenaa
open Go Go.Tp
set_option linter.unusedVariables false
set_option linter.unusedSimpArgs false
set_option maxRecDepth 100000
set_option maxHeartbeats 4000000

theorem tdiv_abs (a b : Int) : a.tdiv b = if decide (a < 0) != decide (b < 0) then -((a.natAbs / b.natAbs : Nat) : Int) else ((a.natAbs / b.natAbs : Nat) : Int) := by
  rcases Int.natAbs_eq a with ha | ha <;> rcases Int.natAbs_eq b with hb | hb
  · have h1 : ¬ a < 0 := by omega
    have h2 : ¬ b < 0 := by omega
    simp only [h1, h2, decide_false, bne_self_eq_false, Bool.false_eq_true, if_false]
    conv => lhs; rw [ha, hb]
    rfl
  · have h1 : ¬ a < 0 := by omega
    conv => lhs; rw [ha, hb, Int.tdiv_neg]
    by_cases h2 : b < 0
    · simp [h1, h2] <;> rfl
    · have : b.natAbs = 0 := by omega
      simp [this]
  · have h2 : ¬ b < 0 := by omega
    conv => lhs; rw [ha, hb, Int.neg_tdiv]
    by_cases h1 : a < 0
    · simp [h1, h2] <;> rfl
    · have : a.natAbs = 0 := by omega
      simp [this]
  · conv => lhs; rw [ha, hb, Int.neg_tdiv, Int.tdiv_neg, Int.neg_neg]
    by_cases h1 : a < 0
    · by_cases h2 : b < 0
      · simp [h1, h2] <;> rfl
      · have : b.natAbs = 0 := by omega
        simp [this]
    · have : a.natAbs = 0 := by omega
      simp [this]
theorem tmod_abs (a b : Int) : a.tmod b = if a < 0 then -((a.natAbs % b.natAbs : Nat) : Int) else ((a.natAbs % b.natAbs : Nat) : Int) := by
  have hb : a.tmod b = a.tmod b.natAbs := by rcases Int.natAbs_eq b with hb | hb <;> (conv => lhs; rw [hb]) <;> simp [Int.tmod_neg]
  rw [hb]
  split
  · have ha : a = -(a.natAbs : Int) := by omega
    conv => lhs; rw [ha, Int.neg_tmod]
    rfl
  · have ha : a = (a.natAbs : Int) := by omega
    conv => lhs; rw [ha]
    rfl
theorem q_le {a : Int} (ha : i32 a) (n : Nat) : a.natAbs / n ≤ 2147483648 := Nat.le_trans (Nat.div_le_self _ _) (by unfold i32 at ha; omega)
theorem div_canon {a b : Int} (ha : i32 a) (hb : b ≠ 0) : fitB (a.tdiv b) = !divB a b ∧ (divB a b = false → IntKind.i32.wrap (a.tdiv b) = a.tdiv b) := by
  by_cases h : divB a b = true
  · rw [h]; simp [divB, hb] at h
    obtain ⟨rfl, rfl⟩ := h
    exact ⟨by decide, fun h => by cases h⟩
  · have h : divB a b = false := by simpa using h
    have hi := tdiv_in ha h
    rw [h]
    refine ⟨?_, fun _ => w32_id hi⟩
    unfold i32 at hi; simp [fitB]; omega
/-! ### the shifts, place by place -/
theorem w64_w32 (n : Int) : IntKind.i64.wrap (w32 n) = w32 n := w64_32 (w32_in n)
theorem w32_mul (x y : Int) : w32 (w32 x * y) = w32 (x * y) := by
  unfold w32
  have h : IntKind.i32.wrap x = x - 4294967296 * ((x + 2147483648) / 4294967296) := by rw [w32_eq]; omega
  rw [h, Int.sub_mul, Int.mul_assoc, w32_eq, w32_eq]
  generalize (x + 2147483648) / 4294967296 * y = z
  omega
end Go.Proofs.Ytbdjbmbghfbenaa
