/-
  Expressions of a kernel as data: what is valid.
-/
import Derived.Test.YtbdjbmbghfbenaaQ0

namespace Go.Proofs.Ytbdjbmbghfbenaa
open Go Go.Tp
set_option linter.unusedVariables false
set_option linter.unusedSimpArgs false
set_option maxRecDepth 100000
set_option maxHeartbeats 4000000

mutual
def encK : KE → AV
  | ⟨k, o, t, n, v, l⟩ => .ag [AU8 k, AU8 o, AU8 t, AI32 n, AI v, .sl 6 (encKl l) none]
def encKl : List KE → List AV
  | [] => []
  | e :: r => encK e :: encKl r
end
theorem encK_eq (e : KE) : encK e = .ag [AU8 e.kind, AU8 e.oper, AU8 e.to, AI32 e.n, AI e.v, .sl 6 (encKl e.l) none] := by obtain ⟨k, o, t, n, v, l⟩ := e; rw [encK]
theorem encKl_map (l : List KE) : encKl l = l.map encK := by
  induction l with
  | nil => rw [encKl]; rfl
  | cons x r ih => rw [encKl, ih]; rfl
mutual
/-- its numbers are such of their kinds -/
def wfK : KE → Prop
  | ⟨k, o, t, n, v, l⟩ => (u8 k ∧ u8 o ∧ u8 t ∧ i32 n ∧ i64 v) ∧ wfKl l
def wfKl : List KE → Prop
  | [] => True
  | e :: r => wfK e ∧ wfKl r
end

/-- an expression's fields are as its kind says -/
def shapeB (e : KE) : Bool :=
  if e.kind = 1 then e.oper == 0 && e.to == 0 && e.v == 0 && e.l.length == 0
  else if e.kind = 2 then e.oper == 0 && e.to == 0 && e.n == 0 && decide (0 ≤ e.v) && decide (e.v ≤ 255) && e.l.length == 0
  else if e.kind = 3 then e.oper == 0 && e.to == 0 && e.n == 0 && decide (0 ≤ e.v) && decide (e.v ≤ 255) && e.l.length == 1
  else if e.kind = 4 then decide (23 ≤ e.oper) && decide (e.oper ≤ 26) && e.to == 0 && e.n == 0 && e.v == 0 && e.l.length == 1
  else if e.kind = 5 then decide (1 ≤ e.oper) && decide (e.oper ≤ 22) && e.to == 0 && e.n == 0 && e.v == 0 && e.l.length == 2
  else if e.kind = 6 then e.oper == 0 && decide (1 ≤ e.to) && decide (e.to ≤ 3) && e.n == 0 && e.v == 0 && e.l.length == 1
  else false
mutual
def sz : KE → Nat
  | ⟨_, _, _, _, _, l⟩ => 1 + szl l
def szl : List KE → Nat
  | [] => 0
  | e :: r => sz e + szl r
end
mutual
def ht : KE → Nat
  | ⟨_, _, _, _, _, l⟩ => 1 + htl l
def htl : List KE → Nat
  | [] => 0
  | e :: r => max (ht e) (htl r)
end
mutual
def fine : KE → Bool
  | ⟨k, o, t, n, v, l⟩ => shapeB ⟨k, o, t, n, v, l⟩ && finel l
def finel : List KE → Bool
  | [] => true
  | e :: r => fine e && finel r
end
theorem shape_cases {e : KE} (h : shapeB e = true) : (∃ k o t n v, e = ⟨k, o, t, n, v, []⟩) ∨ (∃ k o t n v a, e = ⟨k, o, t, n, v, [a]⟩) ∨ (∃ k o t n v a b, e = ⟨k, o, t, n, v, [a, b]⟩) := by
  obtain ⟨k, o, t, n, v, l⟩ := e
  match l with
  | [] => exact .inl ⟨k, o, t, n, v, rfl⟩
  | [a] => exact .inr (.inl ⟨k, o, t, n, v, a, rfl⟩)
  | [a, b] => exact .inr (.inr ⟨k, o, t, n, v, a, b, rfl⟩)
  | a :: b :: c :: r =>
    simp only [shapeB, KE.kind, KE.oper, KE.to, KE.n, KE.v, KE.l, List.length_cons] at h
    exfalso
    revert h
    (repeat' split) <;> simp <;> omega
theorem shape_full {e : KE} (h : shapeB e = true) : (∃ n, e = ⟨1, 0, 0, n, 0, []⟩) ∨ (∃ v, 0 ≤ v ∧ v ≤ 255 ∧ e = ⟨2, 0, 0, 0, v, []⟩) ∨ (∃ v a, 0 ≤ v ∧ v ≤ 255 ∧ e = ⟨3, 0, 0, 0, v, [a]⟩) ∨
    (∃ o a, 23 ≤ o ∧ o ≤ 26 ∧ e = ⟨4, o, 0, 0, 0, [a]⟩) ∨ (∃ o a b, 1 ≤ o ∧ o ≤ 22 ∧ e = ⟨5, o, 0, 0, 0, [a, b]⟩) ∨ (∃ t a, 1 ≤ t ∧ t ≤ 3 ∧ e = ⟨6, 0, t, 0, 0, [a]⟩) := by
  obtain ⟨k, o, t, n, v, l⟩ := e
  have h1 := h
  simp only [shapeB, KE.kind, KE.oper, KE.to, KE.n, KE.v, KE.l] at h1
  have l0 : l.length = 0 → l = [] := fun h => List.length_eq_zero_iff.1 h
  have l1 : l.length = 1 → ∃ a, l = [a] := fun h => by
    match l, h with
    | [a], _ => exact ⟨a, rfl⟩
  have l2 : l.length = 2 → ∃ a b, l = [a, b] := fun h => by
    match l, h with
    | [a, b], _ => exact ⟨a, b, rfl⟩
  split at h1
  · subst_vars; simp at h1; obtain ⟨⟨⟨rfl, rfl⟩, rfl⟩, rfl⟩ := h1; exact .inl ⟨n, rfl⟩
  split at h1
  · subst_vars; simp at h1; obtain ⟨⟨⟨⟨⟨rfl, rfl⟩, rfl⟩, h3⟩, h4⟩, rfl⟩ := h1; exact .inr (.inl ⟨v, h3, h4, rfl⟩)
  split at h1
  · subst_vars; simp at h1; obtain ⟨⟨⟨⟨⟨rfl, rfl⟩, rfl⟩, h3⟩, h4⟩, hl⟩ := h1; obtain ⟨a, rfl⟩ := l1 hl; exact .inr (.inr (.inl ⟨v, a, h3, h4, rfl⟩))
  split at h1
  · subst_vars; simp at h1; obtain ⟨⟨⟨⟨⟨h3, h4⟩, rfl⟩, rfl⟩, rfl⟩, hl⟩ := h1; obtain ⟨a, rfl⟩ := l1 hl; exact .inr (.inr (.inr (.inl ⟨o, a, h3, h4, rfl⟩)))
  split at h1
  · subst_vars; simp at h1; obtain ⟨⟨⟨⟨⟨h3, h4⟩, rfl⟩, rfl⟩, rfl⟩, hl⟩ := h1; obtain ⟨a, b, rfl⟩ := l2 hl; exact .inr (.inr (.inr (.inr (.inl ⟨o, a, b, h3, h4, rfl⟩))))
  split at h1
  · subst_vars; simp at h1; obtain ⟨⟨⟨⟨⟨rfl, h3⟩, h4⟩, rfl⟩, rfl⟩, hl⟩ := h1; obtain ⟨a, rfl⟩ := l1 hl; exact .inr (.inr (.inr (.inr (.inr ⟨t, a, h3, h4, rfl⟩))))
  · cases h1
theorem fine_shape {e : KE} (h : fine e = true) : shapeB e = true := by obtain ⟨k, o, t, n, v, l⟩ := e; simp only [fine, Bool.and_eq_true] at h; exact h.1
theorem fine_cases {e : KE} (h : fine e = true) : (∃ n, e = ⟨1, 0, 0, n, 0, []⟩) ∨ (∃ v, 0 ≤ v ∧ v ≤ 255 ∧ e = ⟨2, 0, 0, 0, v, []⟩) ∨ (∃ v a, 0 ≤ v ∧ v ≤ 255 ∧ fine a = true ∧ e = ⟨3, 0, 0, 0, v, [a]⟩) ∨
    (∃ o a, 23 ≤ o ∧ o ≤ 26 ∧ fine a = true ∧ e = ⟨4, o, 0, 0, 0, [a]⟩) ∨ (∃ o a b, 1 ≤ o ∧ o ≤ 22 ∧ fine a = true ∧ fine b = true ∧ e = ⟨5, o, 0, 0, 0, [a, b]⟩) ∨ (∃ t a, 1 ≤ t ∧ t ≤ 3 ∧ fine a = true ∧ e = ⟨6, 0, t, 0, 0, [a]⟩) := by
  rcases shape_full (fine_shape h) with ⟨n, rfl⟩ | ⟨v, h1, h2, rfl⟩ | ⟨v, a, h1, h2, rfl⟩ | ⟨o, a, h1, h2, rfl⟩ | ⟨o, a, b, h1, h2, rfl⟩ | ⟨t, a, h1, h2, rfl⟩
  · exact .inl ⟨n, rfl⟩
  · exact .inr (.inl ⟨v, h1, h2, rfl⟩)
  · simp [fine, finel] at h; exact .inr (.inr (.inl ⟨v, a, h1, h2, h.2, rfl⟩))
  · simp [fine, finel] at h; exact .inr (.inr (.inr (.inl ⟨o, a, h1, h2, h.2, rfl⟩)))
  · simp [fine, finel] at h; exact .inr (.inr (.inr (.inr (.inl ⟨o, a, b, h1, h2, h.2.1, h.2.2, rfl⟩))))
  · simp [fine, finel] at h; exact .inr (.inr (.inr (.inr (.inr ⟨t, a, h1, h2, h.2, rfl⟩))))
theorem sz_pos (e : KE) : 1 ≤ sz e := by obtain ⟨k, o, t, n, v, l⟩ := e; simp only [sz]; omega
theorem ht_pos (e : KE) : 1 ≤ ht e := by obtain ⟨k, o, t, n, v, l⟩ := e; simp only [ht]; omega
/-- valid, in such room -/
def fits (e : KE) (room deep : Int) : Prop := fine e = true ∧ (sz e : Int) ≤ room ∧ (ht e : Int) ≤ deep
instance (e : KE) (room deep : Int) : Decidable (fits e room deep) := by unfold fits; infer_instance
abbrev valid (e : KE) : Prop := fits e 256 32
theorem fits_not {e : KE} {r d : Int} (h : r < 1 ∨ d < 1 ∨ shapeB e = false) : ¬ fits e r d := by
  rintro ⟨h1, h2, h3⟩
  have := sz_pos e
  have := ht_pos e
  rcases h with h | h | h
  · omega
  · omega
  · rw [fine_shape h1] at h; cases h
theorem fits0 {k o t n v : Int} {room deep : Int} (hs : shapeB ⟨k, o, t, n, v, []⟩ = true) : fits ⟨k, o, t, n, v, []⟩ room deep ↔ 1 ≤ room ∧ 1 ≤ deep := by
  simp only [fits, fine, finel, hs, sz, szl, ht, htl, Bool.true_and, true_and]; omega
theorem fits1 {k o t n v : Int} {a : KE} {room deep : Int} (hs : shapeB ⟨k, o, t, n, v, [a]⟩ = true) : fits ⟨k, o, t, n, v, [a]⟩ room deep ↔ fits a (room - 1) (deep - 1) := by
  simp only [fits, fine, finel, hs, sz, szl, ht, htl, Bool.true_and, Bool.and_true]
  constructor
  · rintro ⟨h1, h2, h3⟩; exact ⟨h1, by omega, by omega⟩
  · rintro ⟨h1, h2, h3⟩; exact ⟨h1, by omega, by omega⟩
theorem fits2 {k o t n v : Int} {a b : KE} {room deep : Int} (hs : shapeB ⟨k, o, t, n, v, [a, b]⟩ = true) : fits ⟨k, o, t, n, v, [a, b]⟩ room deep ↔ fits a (room - 1) (deep - 1) ∧ fits b (room - (1 + sz a)) (deep - 1) := by
  simp only [fits, fine, finel, hs, sz, szl, ht, htl, Bool.true_and, Bool.and_true, Bool.and_eq_true]
  have := sz_pos b
  constructor
  · rintro ⟨h1, h2, h3⟩; exact ⟨⟨h1.1, by omega, by omega⟩, ⟨h1.2, by omega, by omega⟩⟩
  · rintro ⟨⟨h1, h2, h3⟩, ⟨h4, h5, h6⟩⟩; exact ⟨⟨h1, h4⟩, by omega, by omega⟩
theorem wfK1 {k o t n v : Int} {a : KE} (h : wfK ⟨k, o, t, n, v, [a]⟩) : wfK a := by simp only [wfK, wfKl] at h; exact h.2.1
theorem wfK2 {k o t n v : Int} {a b : KE} (h : wfK ⟨k, o, t, n, v, [a, b]⟩) : wfK a ∧ wfK b := by simp only [wfK, wfKl] at h; exact ⟨h.2.1, h.2.2.1⟩
end Go.Proofs.Ytbdjbmbghfbenaa
