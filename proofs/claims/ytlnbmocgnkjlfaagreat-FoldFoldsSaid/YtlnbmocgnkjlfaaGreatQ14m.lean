/-
  Layer 14: what Fold makes; its plain laws.
-/
import Derived.Test.YtlnbmocgnkjlfaaGreatQ14k
import Derived.Test.YtlnbmocgnkjlfaaGreatQ10c

namespace Go.Proofs.YtlnbmocgnkjlfaaGreat
open Go Go.Tp
set_option linter.unusedVariables false
set_option linter.unusedSimpArgs false
set_option maxRecDepth 100000
set_option maxHeartbeats 4000000

/-- the literal of a constant expression -/
def litX (env : List SP) (vals : List (Int × Bool)) (e : XE) : XE := ⟨litK env e, 0, 0, (valX env vals e).1, [], []⟩
def litOk (env : List SP) (vals : List (Int × Bool)) (e : XE) : Prop := (valX env vals e).2 = true ∧ validX (litX env vals e)
instance (env : List SP) (vals : List (Int × Bool)) (e : XE) : Decidable (litOk env vals e) := by unfold litOk; infer_instance
section
variable (env : List SP) (vals : List (Int × Bool))
mutual
def foldX : XE → XE
  | ⟨k, o, t, n, s, l⟩ => if litOk env vals ⟨k, o, t, n, s, l⟩ then litX env vals ⟨k, o, t, n, s, l⟩ else ⟨k, o, t, n, s, foldXl l⟩
def foldXl : List XE → List XE
  | [] => []
  | e :: r => foldX e :: foldXl r
end
theorem foldX_eq (e : XE) : foldX env vals e = if litOk env vals e then litX env vals e else ⟨e.kind, e.oper, e.to, e.n, e.s, foldXl env vals e.l⟩ := by obtain ⟨k, o, t, n, s, l⟩ := e; rw [foldX]
theorem foldXl_map (l : List XE) : foldXl env vals l = l.map (foldX env vals) := by
  induction l with
  | nil => rw [foldXl]; rfl
  | cons x r ih => rw [foldXl, ih]; rfl
theorem foldXl_len (l : List XE) : (foldXl env vals l).length = l.length := by rw [foldXl_map, List.length_map]
end
theorem litK_in (env : List SP) (e : XE) : 1 ≤ litK env e ∧ litK env e ≤ 3 := by
  have hk : ∀ t, 1 ≤ kindOf t ∧ kindOf t ≤ 3 := fun t => by unfold kindOf; split <;> (try split) <;> omega
  unfold litK
  split
  · rename_i h; omega
  · split
    · exact hk _
    · split
      · omega
      · exact hk _
theorem litX_wf {env : List SP} {vals : List (Int × Bool)} {e : XE} (h : i32 (valX env vals e).1) : wfX (litX env vals e) := by
  have := litK_in env e
  unfold litX
  rw [wfX]
  exact ⟨⟨by unfold u8; omega, by unfold u8; omega, by unfold u8; omega, h, by simp, by simp⟩, by rw [wfXl]; trivial⟩
mutual
theorem foldX_wf (env : List SP) (vals : List (Int × Bool)) (ok : EnvOk env vals) : ∀ e : XE, wfX e → wfX (foldX env vals e)
  | ⟨k, o, t, n, s, l⟩, hw => by
    rw [foldX]
    split
    · exact litX_wf (valX_in env vals ok _ hw)
    · rw [wfX] at hw ⊢
      have := foldXl_wf env vals ok l hw.2
      exact ⟨by rw [foldXl_len]; exact hw.1, this⟩
theorem foldXl_wf (env : List SP) (vals : List (Int × Bool)) (ok : EnvOk env vals) : ∀ l : List XE, wfXl l → wfXl (foldXl env vals l)
  | [], _ => by rw [foldXl, wfXl]; trivial
  | x :: l, hw => by
    rw [wfXl] at hw
    rw [foldXl, wfXl]
    exact ⟨foldX_wf env vals ok x hw.1, foldXl_wf env vals ok l hw.2⟩
end
/-- a literal is folded to itself -/
theorem lit_val (env env' : List SP) (vals vals' : List (Int × Bool)) (e : XE) : valX env' vals' (litX env vals e) = ((valX env vals e).1, true) := by
  have := litK_in env e
  unfold litX
  rw [valX, if_pos (by omega)]
theorem litK_lit (env env' : List SP) (vals : List (Int × Bool)) (e : XE) : litK env' (litX env vals e) = litK env e := by
  have := litK_in env e
  have hk : (litX env vals e).kind = litK env e := rfl
  have ht : (litX env vals e).to = 0 := rfl
  rw [litK, hk, ht]
  split
  · rfl
  · rw [if_neg (by omega), if_neg (by omega)]
    have : kindOf 0 = 1 := by decide
    omega
theorem lit_lit (env env' : List SP) (vals vals' : List (Int × Bool)) (e : XE) : litX env' vals' (litX env vals e) = litX env vals e := by
  rw [litX, lit_val, litK_lit]; rfl
/-- the parts do not matter for the kind of a literal -/
theorem litK_parts (env : List SP) (k o t n : Int) (s : List UInt8) (l l' : List XE) : litK env ⟨k, o, t, n, s, l⟩ = litK env ⟨k, o, t, n, s, l'⟩ := rfl
theorem valX_parts (env : List SP) (vals : List (Int × Bool)) (k o t n : Int) (s : List UInt8) (l l' : List XE) (h : valXl env vals l = valXl env vals l') : valX env vals ⟨k, o, t, n, s, l⟩ = valX env vals ⟨k, o, t, n, s, l'⟩ := by
  rw [valX, valX, h]
mutual
/-- a folded expression has the expression's value wherever what has a value keeps it -/
theorem foldX_val (env env' : List SP) (vals vals' : List (Int × Bool)) (hk : ∀ e : XE, (valX env vals e).2 = true → valX env' vals' e = valX env vals e) : ∀ e : XE, valX env' vals' (foldX env vals e) = valX env' vals' e
  | ⟨k, o, t, n, s, l⟩ => by
    rw [foldX]
    split
    · rename_i h
      rw [lit_val, hk _ h.1]
      exact Prod.ext rfl h.1.symm
    · exact valX_parts env' vals' k o t n s _ _ (foldXl_val env env' vals vals' hk l)
theorem foldXl_val (env env' : List SP) (vals vals' : List (Int × Bool)) (hk : ∀ e : XE, (valX env vals e).2 = true → valX env' vals' e = valX env vals e) : ∀ l : List XE, valXl env' vals' (foldXl env vals l) = valXl env' vals' l
  | [] => by rw [foldXl]
  | x :: l => by rw [foldXl, valXl, valXl, foldX_val env env' vals vals' hk x, foldXl_val env env' vals vals' hk l]
end
mutual
/-- a folded expression is folded to itself -/
theorem foldX_again (env : List SP) (vals : List (Int × Bool)) : ∀ e : XE, foldX env vals (foldX env vals e) = foldX env vals e
  | ⟨k, o, t, n, s, l⟩ => by
    rw [foldX]
    split
    · rename_i h
      rw [foldX_eq, if_pos ⟨by rw [lit_val], by rw [lit_lit]; exact h.2⟩, lit_lit]
    · rename_i h
      have hv : valX env vals ⟨k, o, t, n, s, foldXl env vals l⟩ = valX env vals ⟨k, o, t, n, s, l⟩ := valX_parts env vals k o t n s _ _ (foldXl_val env env vals vals (fun _ _ => rfl) l)
      have hl : litX env vals ⟨k, o, t, n, s, foldXl env vals l⟩ = litX env vals ⟨k, o, t, n, s, l⟩ := by unfold litX; rw [hv, litK_parts env k o t n s _ l]
      rw [foldX, if_neg (by unfold litOk; rw [hv, hl]; exact h), foldXl_again env vals l]
theorem foldXl_again (env : List SP) (vals : List (Int × Bool)) : ∀ l : List XE, foldXl env vals (foldXl env vals l) = foldXl env vals l
  | [] => by rw [foldXl, foldXl]
  | x :: l => by rw [foldXl, foldXl, foldX_again env vals x, foldXl_again env vals l]
end
/-! ### a folded expression is valid -/
theorem litX_sz (env : List SP) (vals : List (Int × Bool)) (e : XE) : szX (litX env vals e) = 1 := by unfold litX; rw [szX, szXl]
theorem litX_ht (env : List SP) (vals : List (Int × Bool)) (e : XE) : htX (litX env vals e) = 1 := by unfold litX; rw [htX, htXl]
mutual
theorem foldX_sz (env : List SP) (vals : List (Int × Bool)) : ∀ e : XE, szX (foldX env vals e) ≤ szX e
  | ⟨k, o, t, n, s, l⟩ => by
    rw [foldX]
    split
    · rw [litX_sz]; exact szX_pos _
    · have := foldXl_sz env vals l
      rw [szX, szX]; omega
theorem foldXl_sz (env : List SP) (vals : List (Int × Bool)) : ∀ l : List XE, szXl (foldXl env vals l) ≤ szXl l
  | [] => by rw [foldXl]; exact Nat.le_refl _
  | x :: l => by
    have h1 := foldX_sz env vals x
    have h2 := foldXl_sz env vals l
    rw [foldXl, szXl, szXl]; omega
end
mutual
theorem foldX_ht (env : List SP) (vals : List (Int × Bool)) : ∀ e : XE, htX (foldX env vals e) ≤ htX e
  | ⟨k, o, t, n, s, l⟩ => by
    rw [foldX]
    split
    · rw [litX_ht]; exact htX_pos _
    · have := foldXl_ht env vals l
      rw [htX, htX]; omega
theorem foldXl_ht (env : List SP) (vals : List (Int × Bool)) : ∀ l : List XE, htXl (foldXl env vals l) ≤ htXl l
  | [] => by rw [foldXl]; exact Nat.le_refl _
  | x :: l => by
    have h1 := foldX_ht env vals x
    have h2 := foldXl_ht env vals l
    rw [foldXl, htXl, htXl]; omega
end
mutual
theorem foldX_fine (env : List SP) (vals : List (Int × Bool)) : ∀ e : XE, fineX e = true → fineX (foldX env vals e) = true
  | ⟨k, o, t, n, s, l⟩, h => by
    rw [foldX]
    split
    · rename_i h1; exact h1.2.1
    · rw [fineX, Bool.and_eq_true] at h ⊢
      refine ⟨?_, foldXl_fine env vals l h.2⟩
      have h1 := h.1
      unfold shapeX at h1 ⊢
      rw [show (XE.l ⟨k, o, t, n, s, foldXl env vals l⟩).length = (XE.l ⟨k, o, t, n, s, l⟩).length from foldXl_len env vals l]
      exact h1
theorem foldXl_fine (env : List SP) (vals : List (Int × Bool)) : ∀ l : List XE, fineXl l = true → fineXl (foldXl env vals l) = true
  | [], _ => by rw [foldXl, fineXl]
  | x :: l, h => by
    rw [fineXl, Bool.and_eq_true] at h
    rw [foldXl, fineXl, foldX_fine env vals x h.1, foldXl_fine env vals l h.2]; rfl
end
theorem foldX_valid (env : List SP) (vals : List (Int × Bool)) {e : XE} (h : validX e) : validX (foldX env vals e) := by
  have h1 := foldX_sz env vals e
  have h2 := foldX_ht env vals e
  have := h.2.1
  have := h.2.2
  exact ⟨foldX_fine env vals e h.1, by omega, by omega⟩
end Go.Proofs.YtlnbmocgnkjlfaaGreat
