/-
  Texts Q0 Q16a Q14a Q14b Q14c Q14d Q14v Q17a Q17e Q17f Q0i Q17g Q17b Q16b Q16c Q16d Q16e Q16f Q16g Q16h, in one. Conditions: as each theorem says.
-/
import Derived.Test.YtgmeahcclogfmaaDoorLc
import Derived.Test.YtgmeahcclogfmaaDoorTpT
import Derived.Test.YtgmeahcclogfmaaDoorLb
import Derived.Test.YtgmeahcclogfmaaDoorLf
/-!
  Data: short words, and small facts on numbers.
-/
namespace Go.Proofs.YtgmeahcclogfmaaDoor
open Go Go.Tp
set_option linter.unusedVariables false
set_option linter.unusedSimpArgs false
abbrev gs0 : Ua := []
abbrev AI32 (n : Int) : AV := .v (.int .i32 n)
abbrev AI (n : Int) : AV := .v (.int .i64 n)
abbrev AU8 (n : Int) : AV := .v (.int .u8 n)
abbrev AB (b : Bool) : AV := .v (.bool b)
abbrev optA (x : Option Int) : AV := .tp [AI32 (x.getD 0), AB x.isSome]
theorem Sb.eq {x y : AV} (h : x = y) : Sb x y := by subst h; exact .refl
theorem ai_eq {a b : Int} (h : a = b) : AI a = AI b := by rw [h]
theorem ab_eq {a b : Bool} (h : a = b) : AB a = AB b := by rw [h]
theorem ab_iff {a b : Bool} (h : a = true ↔ b = true) : AB a = AB b := by rw [Bool.eq_iff_iff.2 h]
theorem map_at {α β : Type} {f : α → β} {l : List α} {i : Nat} {x : α} (h : l[i]? = some x) : (l.map f)[i]? = some (f x) := by rw [List.getElem?_map, h]; rfl
theorem at_ex {α : Type} {l : List α} {i : Int} (h0 : 0 ≤ i) (h1 : i < l.length) : ∃ x, l[i.toNat]? = some x := ⟨l[i.toNat]'(by omega), List.getElem?_eq_getElem _⟩
theorem at_exN {α : Type} {l : List α} {i : Nat} (h1 : i < l.length) : ∃ x, l[i]? = some x := ⟨l[i]'h1, List.getElem?_eq_getElem _⟩
theorem at_none {α : Type} {l : List α} {i : Int} (h1 : (l.length : Int) ≤ i) : l[i.toNat]? = none := List.getElem?_eq_none (by omega)
def w32 (n : Int) : Int := IntKind.i32.wrap n
def w64 (n : Int) : Int := IntKind.i64.wrap n
def wu32 (n : Int) : Int := IntKind.u32.wrap n
def wu64 (n : Int) : Int := IntKind.u64.wrap n
theorem wu64_eq (n : Int) : IntKind.u64.wrap n = n % 18446744073709551616 := by
  simp [IntKind.wrap, IntKind.signed, IntKind.bits]
theorem w64_id {n : Int} (h : i64 n) : IntKind.i64.wrap n = n := wr64 n h
theorem inc_eq (i : Nat) (h : i < 4611686018427387904) : AV.v (.int .i64 (IntKind.i64.wrap ((i : Int) + 1))) = AI ((i + 1 : Nat) : Int) := by
  rw [wr64 _ (by omega)]; rfl
end Go.Proofs.YtgmeahcclogfmaaDoor
/-!
  Expressions of a kernel as data: what is valid.
-/
namespace Go.Proofs.YtgmeahcclogfmaaDoor
open Go Go.Tp
set_option linter.unusedVariables false
set_option linter.unusedSimpArgs false
set_option maxRecDepth 100000
set_option maxHeartbeats 4000000
mutual
def encK : KE → AV
  | ⟨k, o, t, n, v, l⟩ => .ag [AU8 k, AU8 o, AU8 t, AI32 n, AI v, .sl 6 (encKl l) none]
def encKl : List KE → List AV
  | [] => []
  | e :: r => encK e :: encKl r
end
theorem encK_eq (e : KE) : encK e = .ag [AU8 e.kind, AU8 e.oper, AU8 e.to, AI32 e.n, AI e.v, .sl 6 (encKl e.l) none] := by obtain ⟨k, o, t, n, v, l⟩ := e; rw [encK]
theorem encKl_map (l : List KE) : encKl l = l.map encK := by
  induction l with
  | nil => rw [encKl]; rfl
  | cons x r ih => rw [encKl, ih]; rfl
mutual
/-- its numbers are such of their kinds -/
def wfK : KE → Prop
  | ⟨k, o, t, n, v, l⟩ => (u8 k ∧ u8 o ∧ u8 t ∧ i32 n ∧ i64 v) ∧ wfKl l
def wfKl : List KE → Prop
  | [] => True
  | e :: r => wfK e ∧ wfKl r
end
def shapeB (e : KE) : Bool :=
  if e.kind = 1 then e.oper == 0 && e.to == 0 && e.v == 0 && e.l.length == 0
  else if e.kind = 2 then e.oper == 0 && e.to == 0 && e.n == 0 && decide (0 ≤ e.v) && decide (e.v ≤ 255) && e.l.length == 0
  else if e.kind = 3 then e.oper == 0 && e.to == 0 && e.n == 0 && decide (0 ≤ e.v) && decide (e.v ≤ 255) && e.l.length == 1
  else if e.kind = 4 then decide (23 ≤ e.oper) && decide (e.oper ≤ 26) && e.to == 0 && e.n == 0 && e.v == 0 && e.l.length == 1
  else if e.kind = 5 then decide (1 ≤ e.oper) && decide (e.oper ≤ 22) && e.to == 0 && e.n == 0 && e.v == 0 && e.l.length == 2
  else if e.kind = 6 then e.oper == 0 && decide (1 ≤ e.to) && decide (e.to ≤ 3) && e.n == 0 && e.v == 0 && e.l.length == 1
  else false
mutual
def sz : KE → Nat
  | ⟨_, _, _, _, _, l⟩ => 1 + szl l
def szl : List KE → Nat
  | [] => 0
  | e :: r => sz e + szl r
end
mutual
def ht : KE → Nat
  | ⟨_, _, _, _, _, l⟩ => 1 + htl l
def htl : List KE → Nat
  | [] => 0
  | e :: r => max (ht e) (htl r)
end
mutual
def fine : KE → Bool
  | ⟨k, o, t, n, v, l⟩ => shapeB ⟨k, o, t, n, v, l⟩ && finel l
def finel : List KE → Bool
  | [] => true
  | e :: r => fine e && finel r
end
theorem shape_cases {e : KE} (h : shapeB e = true) : (∃ k o t n v, e = ⟨k, o, t, n, v, []⟩) ∨ (∃ k o t n v a, e = ⟨k, o, t, n, v, [a]⟩) ∨ (∃ k o t n v a b, e = ⟨k, o, t, n, v, [a, b]⟩) := by
  obtain ⟨k, o, t, n, v, l⟩ := e
  match l with
  | [] => exact .inl ⟨k, o, t, n, v, rfl⟩
  | [a] => exact .inr (.inl ⟨k, o, t, n, v, a, rfl⟩)
  | [a, b] => exact .inr (.inr ⟨k, o, t, n, v, a, b, rfl⟩)
  | a :: b :: c :: r =>
    simp only [shapeB, KE.kind, KE.oper, KE.to, KE.n, KE.v, KE.l, List.length_cons] at h
    exfalso
    revert h
    (repeat' split) <;> simp <;> omega
theorem shape_full {e : KE} (h : shapeB e = true) : (∃ n, e = ⟨1, 0, 0, n, 0, []⟩) ∨ (∃ v, 0 ≤ v ∧ v ≤ 255 ∧ e = ⟨2, 0, 0, 0, v, []⟩) ∨ (∃ v a, 0 ≤ v ∧ v ≤ 255 ∧ e = ⟨3, 0, 0, 0, v, [a]⟩) ∨
    (∃ o a, 23 ≤ o ∧ o ≤ 26 ∧ e = ⟨4, o, 0, 0, 0, [a]⟩) ∨ (∃ o a b, 1 ≤ o ∧ o ≤ 22 ∧ e = ⟨5, o, 0, 0, 0, [a, b]⟩) ∨ (∃ t a, 1 ≤ t ∧ t ≤ 3 ∧ e = ⟨6, 0, t, 0, 0, [a]⟩) := by
  obtain ⟨k, o, t, n, v, l⟩ := e
  have h1 := h
  simp only [shapeB, KE.kind, KE.oper, KE.to, KE.n, KE.v, KE.l] at h1
  have l0 : l.length = 0 → l = [] := fun h => List.length_eq_zero_iff.1 h
  have l1 : l.length = 1 → ∃ a, l = [a] := fun h => by
    match l, h with
    | [a], _ => exact ⟨a, rfl⟩
  have l2 : l.length = 2 → ∃ a b, l = [a, b] := fun h => by
    match l, h with
    | [a, b], _ => exact ⟨a, b, rfl⟩
  split at h1
  · subst_vars; simp at h1; obtain ⟨⟨⟨rfl, rfl⟩, rfl⟩, rfl⟩ := h1; exact .inl ⟨n, rfl⟩
  split at h1
  · subst_vars; simp at h1; obtain ⟨⟨⟨⟨⟨rfl, rfl⟩, rfl⟩, h3⟩, h4⟩, rfl⟩ := h1; exact .inr (.inl ⟨v, h3, h4, rfl⟩)
  split at h1
  · subst_vars; simp at h1; obtain ⟨⟨⟨⟨⟨rfl, rfl⟩, rfl⟩, h3⟩, h4⟩, hl⟩ := h1; obtain ⟨a, rfl⟩ := l1 hl; exact .inr (.inr (.inl ⟨v, a, h3, h4, rfl⟩))
  split at h1
  · subst_vars; simp at h1; obtain ⟨⟨⟨⟨⟨h3, h4⟩, rfl⟩, rfl⟩, rfl⟩, hl⟩ := h1; obtain ⟨a, rfl⟩ := l1 hl; exact .inr (.inr (.inr (.inl ⟨o, a, h3, h4, rfl⟩)))
  split at h1
  · subst_vars; simp at h1; obtain ⟨⟨⟨⟨⟨h3, h4⟩, rfl⟩, rfl⟩, rfl⟩, hl⟩ := h1; obtain ⟨a, b, rfl⟩ := l2 hl; exact .inr (.inr (.inr (.inr (.inl ⟨o, a, b, h3, h4, rfl⟩))))
  split at h1
  · subst_vars; simp at h1; obtain ⟨⟨⟨⟨⟨rfl, h3⟩, h4⟩, rfl⟩, rfl⟩, hl⟩ := h1; obtain ⟨a, rfl⟩ := l1 hl; exact .inr (.inr (.inr (.inr (.inr ⟨t, a, h3, h4, rfl⟩))))
  · cases h1
theorem fine_shape {e : KE} (h : fine e = true) : shapeB e = true := by obtain ⟨k, o, t, n, v, l⟩ := e; simp only [fine, Bool.and_eq_true] at h; exact h.1
theorem fine_cases {e : KE} (h : fine e = true) : (∃ n, e = ⟨1, 0, 0, n, 0, []⟩) ∨ (∃ v, 0 ≤ v ∧ v ≤ 255 ∧ e = ⟨2, 0, 0, 0, v, []⟩) ∨ (∃ v a, 0 ≤ v ∧ v ≤ 255 ∧ fine a = true ∧ e = ⟨3, 0, 0, 0, v, [a]⟩) ∨
    (∃ o a, 23 ≤ o ∧ o ≤ 26 ∧ fine a = true ∧ e = ⟨4, o, 0, 0, 0, [a]⟩) ∨ (∃ o a b, 1 ≤ o ∧ o ≤ 22 ∧ fine a = true ∧ fine b = true ∧ e = ⟨5, o, 0, 0, 0, [a, b]⟩) ∨ (∃ t a, 1 ≤ t ∧ t ≤ 3 ∧ fine a = true ∧ e = ⟨6, 0, t, 0, 0, [a]⟩) := by
  rcases shape_full (fine_shape h) with ⟨n, rfl⟩ | ⟨v, h1, h2, rfl⟩ | ⟨v, a, h1, h2, rfl⟩ | ⟨o, a, h1, h2, rfl⟩ | ⟨o, a, b, h1, h2, rfl⟩ | ⟨t, a, h1, h2, rfl⟩
  · exact .inl ⟨n, rfl⟩
  · exact .inr (.inl ⟨v, h1, h2, rfl⟩)
  · simp [fine, finel] at h; exact .inr (.inr (.inl ⟨v, a, h1, h2, h.2, rfl⟩))
  · simp [fine, finel] at h; exact .inr (.inr (.inr (.inl ⟨o, a, h1, h2, h.2, rfl⟩)))
  · simp [fine, finel] at h; exact .inr (.inr (.inr (.inr (.inl ⟨o, a, b, h1, h2, h.2.1, h.2.2, rfl⟩))))
  · simp [fine, finel] at h; exact .inr (.inr (.inr (.inr (.inr ⟨t, a, h1, h2, h.2, rfl⟩))))
theorem sz_pos (e : KE) : 1 ≤ sz e := by obtain ⟨k, o, t, n, v, l⟩ := e; simp only [sz]; omega
theorem ht_pos (e : KE) : 1 ≤ ht e := by obtain ⟨k, o, t, n, v, l⟩ := e; simp only [ht]; omega
def fits (e : KE) (room deep : Int) : Prop := fine e = true ∧ (sz e : Int) ≤ room ∧ (ht e : Int) ≤ deep
instance (e : KE) (room deep : Int) : Decidable (fits e room deep) := by unfold fits; infer_instance
abbrev valid (e : KE) : Prop := fits e 256 32
theorem fits_not {e : KE} {r d : Int} (h : r < 1 ∨ d < 1 ∨ shapeB e = false) : ¬ fits e r d := by
  rintro ⟨h1, h2, h3⟩
  have := sz_pos e
  have := ht_pos e
  rcases h with h | h | h
  · omega
  · omega
  · rw [fine_shape h1] at h; cases h
theorem fits1 {k o t n v : Int} {a : KE} {room deep : Int} (hs : shapeB ⟨k, o, t, n, v, [a]⟩ = true) : fits ⟨k, o, t, n, v, [a]⟩ room deep ↔ fits a (room - 1) (deep - 1) := by
  simp only [fits, fine, finel, hs, sz, szl, ht, htl, Bool.true_and, Bool.and_true]
  constructor
  · rintro ⟨h1, h2, h3⟩; exact ⟨h1, by omega, by omega⟩
  · rintro ⟨h1, h2, h3⟩; exact ⟨h1, by omega, by omega⟩
theorem fits2 {k o t n v : Int} {a b : KE} {room deep : Int} (hs : shapeB ⟨k, o, t, n, v, [a, b]⟩ = true) : fits ⟨k, o, t, n, v, [a, b]⟩ room deep ↔ fits a (room - 1) (deep - 1) ∧ fits b (room - (1 + sz a)) (deep - 1) := by
  simp only [fits, fine, finel, hs, sz, szl, ht, htl, Bool.true_and, Bool.and_true, Bool.and_eq_true]
  have := sz_pos b
  constructor
  · rintro ⟨h1, h2, h3⟩; exact ⟨⟨h1.1, by omega, by omega⟩, ⟨h1.2, by omega, by omega⟩⟩
  · rintro ⟨⟨h1, h2, h3⟩, ⟨h4, h5, h6⟩⟩; exact ⟨⟨h1, h4⟩, by omega, by omega⟩
theorem ht_eq (e : KE) : ht e = 1 + htl e.l := by obtain ⟨k, o, t, n, v, l⟩ := e; rw [ht]
end Go.Proofs.YtgmeahcclogfmaaDoor
/-!
  Chapter 14: words: walks of word, of the reference's words.
-/
namespace Go.Proofs.YtgmeahcclogfmaaDoor
open Go Go.Tp
set_option linter.unusedVariables false
set_option linter.unusedSimpArgs false
set_option maxRecDepth 100000
set_option maxHeartbeats 4000000
def fitB (n : Int) : Bool := decide (-2147483648 ≤ n) && decide (n < 2147483648)
def fit32 (n : Int) : Option Int := if fitB n then some n else none
def tsum (a b : Int) : Int := IntKind.i32.wrap (a + b)
/-! ### word -/
def divB (a b : Int) : Bool := b == 0 || (a == -2147483648 && b == -1)
def divM (a b : Int) : Int := if divB a b then 0 else a.tdiv b
def remM (a b : Int) : Int := if b = 0 then 0 else a.tmod b
def uns (a : Int) : Int := if a < 0 then a + 4294967296 else a
def shlM (a n : Int) : Int := if uns n > 31 then 0 else w32 (a * 2 ^ n.toNat)
def shrM (a n : Int) : Int := if uns n > 31 then 0 else w32 (uns a / 2 ^ n.toNat)
/-! ### the operators of fold that have no name -/
def band (a b : Int) : Int := bitsOf .and .i32 a b
def bor (a b : Int) : Int := bitsOf .or .i32 a b
def bxor (a b : Int) : Int := bitsOf .xor .i32 a b
def bnot (a : Int) : Int := bitsOf .xor .i32 (-1) a
def truthI (b : Bool) : Int := if b then 1 else 0
end Go.Proofs.YtgmeahcclogfmaaDoor
/-!
  Chapter 14: fold.Apply, and what it answers.
-/
namespace Go.Proofs.YtgmeahcclogfmaaDoor
open Go Go.Tp
set_option linter.unusedVariables false
set_option linter.unusedSimpArgs false
set_option maxRecDepth 100000
set_option maxHeartbeats 4000000
def isT (a : Int) : Bool := a == 0 || a == 1
def applyC (o a b : Int) : Option Int :=
  if o = 1 then fit32 (a + b) else if o = 2 then fit32 (a - b) else if o = 3 then fit32 (a * b)
  else if o = 4 then (if divB a b then none else some (a.tdiv b)) else if o = 5 then (if b = 0 then none else some (a.tmod b))
  else if o = 6 then some (w32 (a + b)) else if o = 7 then some (w32 (a - b)) else if o = 8 then some (w32 (a * b))
  else if o = 9 then some (band a b) else if o = 10 then some (bor a b) else if o = 11 then some (bxor a b)
  else if o = 12 then some (shlM a b) else if o = 13 then some (shrM a b)
  else if o = 14 then some (truthI (a == b)) else if o = 15 then some (truthI (a != b)) else if o = 16 then some (truthI (decide (a < b)))
  else if o = 17 then some (truthI (decide (b < a))) else if o = 18 then some (truthI (decide (a ≤ b))) else if o = 19 then some (truthI (decide (b ≤ a)))
  else if o = 20 then (if isT a && isT b then some (truthI (a == 1 && b == 1)) else none)
  else if o = 21 then (if isT a && isT b then some (truthI (a == 1 || b == 1)) else none)
  else if o = 22 then some (truthI (decide (0 < w32 (a - b)))) else if o = 23 then fit32 (0 - a) else if o = 24 then some (w32 (0 - a))
  else if o = 25 then some (bnot a) else if o = 26 then (if isT a then some (truthI (a == 0)) else none) else none
/-! ### partial -/
def overT (a : Int) : Bool := bitsOf .andNot .i32 a 1 != 0
def partR (o a b : Int) : Int × Bool :=
  if o = 1 then (w32 (a + b), fitB (a + b)) else if o = 2 then (w32 (a - b), fitB (a - b)) else if o = 3 then (w32 (a * b), fitB (a * b))
  else if o = 4 then (divM a b, !divB a b) else if o = 5 then (remM a b, !(b == 0)) else if o = 23 then (w32 (0 - a), fitB (0 - a))
  else if o = 20 then (band a b, !overT (bor a b)) else if o = 21 then (bor a b, !overT (bor a b)) else if o = 26 then (w32 (1 - a), !overT a) else (0, false)
/-! ### bits of truth values -/
end Go.Proofs.YtgmeahcclogfmaaDoor
/-!
  Chapter 14: the reference's words and its Apply.
-/
namespace Go.Proofs.YtgmeahcclogfmaaDoor
open Go Go.Tp
set_option linter.unusedVariables false
set_option linter.unusedSimpArgs false
set_option maxRecDepth 100000
set_option maxHeartbeats 4000000
/-! ### the shifts, place by place -/
end Go.Proofs.YtgmeahcclogfmaaDoor
/-!
  Chapter 14: the reference's bits, its Apply and Convert.
-/
namespace Go.Proofs.YtgmeahcclogfmaaDoor
open Go Go.Tp
set_option linter.unusedVariables false
set_option linter.unusedSimpArgs false
set_option maxRecDepth 100000
set_option maxHeartbeats 4000000
def bitM (o x y : Int) : Int := if o = 9 then x * y else if o = 10 then x + y - x * y else if o = 11 then (x + y) % 2 else 1 - x
def bit01 (x : Int) : Prop := x = 0 ∨ x = 1
def bat (a : Int) (i : Nat) : Int := uns a / 2 ^ i % 2
def bsum (o a b : Int) : Nat → Int
  | 0 => 0
  | i + 1 => bsum o a b i + bitM o (bat a i) (bat b i) * 2 ^ i
/-! ### bits, all at once -/
def b2i (b : Bool) : Int := if b then 1 else 0
def convC (t v : Int) : Option Int := if t = 1 ∨ t = 2 ∧ 0 ≤ v ∧ v ≤ 255 ∨ t = 3 ∧ 0 ≤ v ∧ v ≤ 1 then some v else none
end Go.Proofs.YtgmeahcclogfmaaDoor
/-!
  Layer 14: the reference's Convert; layer 10: primitive kinds.
-/
namespace Go.Proofs.YtgmeahcclogfmaaDoor
open Go Go.Tp
set_option linter.unusedVariables false
set_option linter.unusedSimpArgs false
set_option maxRecDepth 100000
set_option maxHeartbeats 4000000
end Go.Proofs.YtgmeahcclogfmaaDoor
/-!
  Chapter 17: walks: valid expressions, by both texts.
-/
namespace Go.Proofs.YtgmeahcclogfmaaDoor
open Go Go.Tp
set_option linter.unusedVariables false
set_option linter.unusedSimpArgs false
set_option maxRecDepth 100000
set_option maxHeartbeats 4000000
theorem encKl_len (l : List KE) : (encKl l).length = l.length := by rw [encKl_map, List.length_map]
abbrev rowA (r : List Int) : AV := .sl 1 (r.map AI32) none
abbrev rowsA (s : List (List Int)) : AV := .sl 1 (s.map rowA) none
def fitsB (k v : Int) : Bool := if k = 2 then decide (0 ≤ v) && decide (v ≤ 255) else if k = 3 then v == 0 || v == 1 else k == 1
def atM (s : List (List Int)) (v i : Int) : Option Int := if v < 0 ∨ i < 0 then none else (s[v.toNat]?).bind (·[i.toNat]?)
end Go.Proofs.YtgmeahcclogfmaaDoor
/-!
  Chapter 17: equal stores, stores of kernels.
-/
namespace Go.Proofs.YtgmeahcclogfmaaDoor
open Go Go.Tp
set_option linter.unusedVariables false
set_option linter.unusedSimpArgs false
set_option maxRecDepth 100000
set_option maxHeartbeats 4000000
/-! ### Same -/
def allEq {α β : Type} (f : α → β → Bool) (a : List α) (b : List β) (i : Nat) : Bool := (List.range i).all fun k => match a[k]?, b[k]? with
  | some x, some y => f x y
  | _, _ => true
def alikeB {α : Type} (f : α → α → Bool) (a b : List α) : Bool := decide (a.length = b.length) && allEq f a b a.length
def short (s : List (List Int)) : Prop := s.length ≤ 281474976710656 ∧ ∀ r, r ∈ s → r.length ≤ 281474976710656
def sameB (a b : List (List Int)) : Bool := alikeB (alikeB (· == ·)) a b
/-! ### May -/
structure KV where
  kind : Int
  dim : Int
abbrev encV (v : KV) : AV := .ag [AU8 v.kind, AI v.dim]
def wfV (v : KV) : Prop := i64 v.dim
def soundB (v : KV) : Bool := (v.kind == 1 || v.kind == 2 || v.kind == 3) && decide (0 ≤ v.dim) && decide (v.dim ≤ 64)
end Go.Proofs.YtgmeahcclogfmaaDoor
/-!
  Chapter 17: Clone, Put.
-/
namespace Go.Proofs.YtgmeahcclogfmaaDoor
open Go Go.Tp
set_option linter.unusedVariables false
set_option linter.unusedSimpArgs false
set_option maxRecDepth 100000
set_option maxHeartbeats 4000000
/-! ### Clone -/
/-! ### Put -/
abbrev rowsH (hs : List (Value × List Int)) : List (Value × List AV) := hs.map fun p => (p.1, p.2.map AI32)
def putM (s : List (List Int)) (v i x : Int) : List (List Int) := if (atM s v i).isSome then (match s[v.toNat]? with | some r => s.set v.toNat (r.set i.toNat x) | none => s) else s
abbrev nilV : AV := .v (.slice none 0 0)
end Go.Proofs.YtgmeahcclogfmaaDoor
/-!
  The first of a list's elements that are such.
-/
namespace Go.Proofs.YtgmeahcclogfmaaDoor
open Go Go.Tp
def idxF {α : Type} (p : α → Bool) : List α → Nat → Int
  | [], _ => -1
  | x :: r, i => if p x then (i : Int) else idxF p r (i + 1)
theorem idxF_any {α : Type} (p : α → Bool) : ∀ (l : List α) (i : Nat), decide (0 ≤ idxF p l i) = l.any p
  | [], _ => rfl
  | x :: r, i => by
    rw [idxF, List.any_cons]
    cases h : p x
    · simp; exact idxF_any p r (i + 1)
    · simp
theorem drop_at {α : Type} {l : List α} {i : Nat} {x : α} (h : l[i]? = some x) : l.drop i = x :: l.drop (i + 1) := by
  obtain ⟨h1, h2⟩ := List.getElem?_eq_some_iff.1 h
  rw [← h2, List.getElem_cons_drop]
end Go.Proofs.YtgmeahcclogfmaaDoor
/-!
  Chapter 17: sound variables, May, Store.
-/
namespace Go.Proofs.YtgmeahcclogfmaaDoor
open Go Go.Tp
set_option linter.unusedVariables false
set_option linter.unusedSimpArgs false
set_option maxRecDepth 100000
set_option maxHeartbeats 4000000
abbrev varsA (l : List KV) : AV := .sl 2 (l.map encV) none
def soundsB (l : List KV) : Bool := decide (l.length ≤ 256) && !l.any (fun v => !soundB v)
/-! ### May -/
def longI (v : KV) : Int := if v.dim < 1 then 1 else v.dim
def mayRow (v : KV) (r : List Int) : Bool := (r.length : Int) == longI v && !r.any (fun x => !fitsB v.kind x)
def mayB (l : List KV) (s : List (List Int)) : Bool := decide (s.length = l.length) && soundsB l && allEq mayRow l s l.length
abbrev kernA (l : List KV) : AV := .ag [varsA l, .v (.slice none 0 0), AU8 0, AI 0, AI 0, AU8 0, .v (.slice none 0 0), .v (.slice none 0 0), .v (.slice none 0 0), .v (.slice none 0 0), .v (.slice none 0 0)]
/-! ### Store -/
def storeM (l : List KV) : List (List Int) := l.map fun v => List.replicate (longI v).toNat 0
end Go.Proofs.YtgmeahcclogfmaaDoor
/-!
  Chapter 17: walks: the measure of an expression, by both texts.
-/
namespace Go.Proofs.YtgmeahcclogfmaaDoor
open Go Go.Tp
set_option linter.unusedVariables false
set_option linter.unusedSimpArgs false
set_option maxRecDepth 100000
set_option maxHeartbeats 4000000
/-! ### eval.valid -/
abbrev walkX (e : KE) (left deep : Int) : Int → AV := fun _ => AB (decide (fits e left (33 - deep)))
abbrev walkP (e : KE) (left deep : Int) : Int → Prop := fun i => fits e left (33 - deep) → i = left - sz e
/-! ### ref16.Valid -/
def roomI (e : KE) (inside left : Int) : Int := if fits e left (32 - inside) then left - sz e else -1
end Go.Proofs.YtgmeahcclogfmaaDoor
/-!
  Expressions that fit a kind, by the reference.
-/
namespace Go.Proofs.YtgmeahcclogfmaaDoor
open Go Go.Tp
set_option linter.unusedVariables false
set_option linter.unusedSimpArgs false
set_option maxRecDepth 100000
set_option maxHeartbeats 4000000
abbrev FK := Int → Bool
def fitC (l : List KV) (k o t n v : Int) (fs : List FK) (kind : Int) : Bool :=
  if k = 1 then (kind == 1 || (kind == 2 && decide (0 ≤ n) && decide (n ≤ 255)) || (kind == 3 && (n == 0 || n == 1)))
  else if k = 2 then (match l[v.toNat]? with | some x => x.dim == 0 && x.kind == kind | none => false)
  else if k = 3 then (match l[v.toNat]?, fs with | some x, f :: _ => decide (0 < x.dim) && x.kind == kind && f 1 | _, _ => false)
  else match fs with
  | [] => false
  | f :: r => if k = 6 then t == kind && (f 1 || f 2 || f 3)
    else if k = 4 then (if o = 26 then kind == 3 && f 3 else kind == 1 && f 1)
    else match r with
    | [] => false
    | g :: _ => if o ≤ 13 then kind == 1 && (f 1 && g 1) else if kind ≠ 3 then false
      else if o = 14 ∨ o = 15 then (f 1 && g 1) || (f 2 && g 2) || (f 3 && g 3)
      else if o ≤ 19 then (f 1 && g 1) || (f 2 && g 2)
      else if o = 22 then f 1 && g 1 else f 3 && g 3
mutual
def fitsM (l : List KV) : KE → FK
  | ⟨k, o, t, n, v, a⟩ => fitC l k o t n v (fitsL l a)
def fitsL (l : List KV) : List KE → List FK
  | [] => []
  | e :: r => fitsM l e :: fitsL l r
end
end Go.Proofs.YtgmeahcclogfmaaDoor
/-!
  Layer 16: valid expressions by the program.
-/
namespace Go.Proofs.YtgmeahcclogfmaaDoor
open Go Go.Tp
set_option linter.unusedVariables false
set_option linter.unusedSimpArgs false
set_option maxRecDepth 100000
set_option maxHeartbeats 4000000
def primB (k : Int) : Bool := decide (1 ≤ k) && decide (k ≤ 3)
theorem kprim_p (k : Int) : Pure Tryd.prog gs0 26 [AU8 k] (AB (primB k)) := by
  refine Pure.of (S := tt) (fn := Tryd.f26) (n := 9) tt_ok Tryd.func26 rfl rfl rfl rfl fun w0 h0 F hgs => ?_
  (repeat refine A.s rfl ?_)
  ((fail_if_success (refine A.lit? rfl ?_)); refine A.gS rfl (fun hc => ?_) (fun hc => ?_))
  · (repeat refine A.s rfl ?_); refine A.ret1 (Λ' := []) rfl rfl rfl (List.nil_sublist _) ⟨?_, rfl⟩; refine Sb.eq (ab_eq ?_); rw [primB, hc]; rfl
  · (repeat refine A.s rfl ?_); refine A.ret1 (Λ' := []) rfl rfl rfl (List.nil_sublist _) ⟨?_, rfl⟩; refine Sb.eq (ab_eq ?_); rw [primB, hc]; rfl
theorem fields_p (e : KE) (hw : wfK e) : Pure Tryd.prog gs0 71 [encK e] (AB (shapeB e)) := by
  obtain ⟨k, o, t, n, v, l⟩ := e
  simp only [wfK, u8, i32, i64] at hw
  obtain ⟨hw, _⟩ := hw
  rw [encK]
  by_cases h1 : k = 1
  · subst h1; refine Pure.of (S := tt) (fn := Tryd.f71) (n := 87) tt_ok Tryd.func71 rfl rfl rfl rfl fun w0 h0 F hgs => ?_
    (repeat first|refine A.s rfl ?_|refine A.r rfl rfl ?_|refine A.w rfl rfl ?_|refine A.b rfl fun bx=>?_|refine A.step rfl ?_|refine A.v rfl rfl ?_); refine A.ret1 (Λ' := []) rfl rfl rfl (List.nil_sublist _) ⟨?_, rfl⟩; (refine Sb.eq (ab_iff ?_); simp only [shapeB, KE.kind, KE.oper, KE.to, KE.n, KE.v, KE.l, encKl_len]; generalize l.length = len at *; (try simp at hc); (try simp at hd); simp; omega)
  by_cases h2 : k = 2
  · subst h2; refine Pure.of (S := tt) (fn := Tryd.f71) (n := 87) tt_ok Tryd.func71 rfl rfl rfl rfl fun w0 h0 F hgs => ?_
    (repeat first|refine A.s rfl ?_|refine A.r rfl rfl ?_|refine A.w rfl rfl ?_|refine A.b rfl fun bx=>?_|refine A.step rfl ?_|refine A.v rfl rfl ?_); refine A.ret1 (Λ' := []) rfl rfl rfl (List.nil_sublist _) ⟨?_, rfl⟩; (refine Sb.eq (ab_iff ?_); simp only [shapeB, KE.kind, KE.oper, KE.to, KE.n, KE.v, KE.l, encKl_len]; generalize l.length = len at *; (try simp at hc); (try simp at hd); simp; omega)
  by_cases h3 : k = 3
  · subst h3; refine Pure.of (S := tt) (fn := Tryd.f71) (n := 87) tt_ok Tryd.func71 rfl rfl rfl rfl fun w0 h0 F hgs => ?_
    (repeat first|refine A.s rfl ?_|refine A.r rfl rfl ?_|refine A.w rfl rfl ?_|refine A.b rfl fun bx=>?_|refine A.step rfl ?_|refine A.v rfl rfl ?_); refine A.ret1 (Λ' := []) rfl rfl rfl (List.nil_sublist _) ⟨?_, rfl⟩; (refine Sb.eq (ab_iff ?_); simp only [shapeB, KE.kind, KE.oper, KE.to, KE.n, KE.v, KE.l, encKl_len]; generalize l.length = len at *; (try simp at hc); (try simp at hd); simp; omega)
  by_cases h4 : k = 4
  · subst h4; refine Pure.of (S := tt) (fn := Tryd.f71) (n := 87) tt_ok Tryd.func71 rfl rfl rfl rfl fun w0 h0 F hgs => ?_
    (repeat first|refine A.s rfl ?_|refine A.r rfl rfl ?_|refine A.w rfl rfl ?_|refine A.b rfl fun bx=>?_|refine A.step rfl ?_|refine A.v rfl rfl ?_); refine A.ret1 (Λ' := []) rfl rfl rfl (List.nil_sublist _) ⟨?_, rfl⟩; (refine Sb.eq (ab_iff ?_); simp only [shapeB, KE.kind, KE.oper, KE.to, KE.n, KE.v, KE.l, encKl_len]; generalize l.length = len at *; (try simp at hc); (try simp at hd); simp; omega)
  by_cases h5 : k = 5
  · subst h5; refine Pure.of (S := tt) (fn := Tryd.f71) (n := 87) tt_ok Tryd.func71 rfl rfl rfl rfl fun w0 h0 F hgs => ?_
    (repeat first|refine A.s rfl ?_|refine A.r rfl rfl ?_|refine A.w rfl rfl ?_|refine A.b rfl fun bx=>?_|refine A.step rfl ?_|refine A.v rfl rfl ?_); refine A.ret1 (Λ' := []) rfl rfl rfl (List.nil_sublist _) ⟨?_, rfl⟩; (refine Sb.eq (ab_iff ?_); simp only [shapeB, KE.kind, KE.oper, KE.to, KE.n, KE.v, KE.l, encKl_len]; generalize l.length = len at *; (try simp at hc); (try simp at hd); simp; omega)
  by_cases h6 : k = 6
  · subst h6; refine Pure.of (S := tt) (fn := Tryd.f71) (n := 87) tt_ok Tryd.func71 rfl rfl rfl rfl fun w0 h0 F hgs => ?_
    (repeat first|refine A.s rfl ?_|refine A.r rfl rfl ?_|refine A.w rfl rfl ?_|refine A.b rfl fun bx=>?_|refine A.step rfl ?_|refine A.v rfl rfl ?_); refine A.c rfl (kprim_p _) .refl ?_; (repeat first|refine A.s rfl ?_|refine A.w rfl rfl ?_|refine A.step rfl ?_|refine A.v rfl rfl ?_); refine A.ret1 (Λ' := []) rfl rfl rfl (List.nil_sublist _) ⟨?_, rfl⟩
    refine Sb.eq (ab_iff ?_); simp only [shapeB, primB, KE.kind, KE.oper, KE.to, KE.n, KE.v, KE.l, encKl_len]; generalize l.length = len at *; simp; omega
  refine Pure.of (S := tt) (fn := Tryd.f71) (n := 87) tt_ok Tryd.func71 rfl rfl rfl rfl fun w0 h0 F hgs => ?_
  (repeat (first | first|refine A.s rfl ?_|refine A.r rfl rfl ?_|refine A.w rfl rfl ?_|refine A.p rfl ?_|refine A.b rfl fun bx=>?_|refine A.t rfl fun bl=>?_ | refine A.cond rfl (fun h => (by simp at h; omega)) (fun _ => ?_) | first|refine A.step rfl ?_|refine A.v rfl rfl ?_)); refine A.ret1 (Λ' := []) rfl rfl rfl (List.nil_sublist _) ⟨?_, rfl⟩; refine Sb.eq ?_; simp [shapeB, *]
/-! ### rooms -/
def fitsKl (l : List KE) (room deep : Int) : Prop := finel l = true ∧ (szl l : Int) ≤ room ∧ (htl l : Int) ≤ deep
instance (l : List KE) (room deep : Int) : Decidable (fitsKl l room deep) := by unfold fitsKl; infer_instance
theorem sz_eq (e : KE) : sz e = 1 + szl e.l := by obtain ⟨k, o, t, n, v, l⟩ := e; rw [sz]
theorem fine_eq (e : KE) : fine e = (shapeB e && finel e.l) := by obtain ⟨k, o, t, n, v, l⟩ := e; rw [fine]
theorem fits_l {e : KE} {room deep : Int} (hr : 1 ≤ room) (hd : 1 ≤ deep) (hs : shapeB e = true) : fits e room deep ↔ fitsKl e.l (room - 1) (deep - 1) := by
  unfold fits fitsKl
  rw [fine_eq, hs, Bool.true_and, sz_eq, ht_eq]
  constructor
  · rintro ⟨h1, h2, h3⟩; exact ⟨h1, by omega, by omega⟩
  · rintro ⟨h1, h2, h3⟩; exact ⟨h1, by omega, by omega⟩
theorem szl_append (a b : List KE) : szl (a ++ b) = szl a + szl b := by
  induction a with
  | nil => simp [szl]
  | cons x r ih => rw [List.cons_append, szl, szl, ih]; omega
theorem htl_append (a b : List KE) : htl (a ++ b) = max (htl a) (htl b) := by
  induction a with
  | nil => simp [htl]
  | cons x r ih => rw [List.cons_append, htl, htl, ih]; omega
theorem finel_append (a b : List KE) : finel (a ++ b) = (finel a && finel b) := by
  induction a with
  | nil => simp [finel]
  | cons x r ih => rw [List.cons_append, finel, finel, ih, Bool.and_assoc]
theorem fitsKl_snoc {a : List KE} {x : KE} {room deep : Int} (ha : fitsKl a room deep) : fitsKl (a ++ [x]) room deep ↔ fits x (room - szl a) deep := by
  obtain ⟨h1, h2, h3⟩ := ha
  unfold fitsKl fits
  rw [finel_append, szl_append, htl_append, h1, Bool.true_and]
  simp only [finel, szl, htl, Bool.and_true]
  constructor
  · rintro ⟨g1, g2, g3⟩; exact ⟨g1, by omega, by omega⟩
  · rintro ⟨g1, g2, g3⟩; exact ⟨g1, by omega, by omega⟩
theorem fitsKl_take {l : List KE} {room deep : Int} (h : fitsKl l room deep) (i : Nat) : fitsKl (l.take i) room deep := by
  obtain ⟨h1, h2, h3⟩ := h
  rw [← List.take_append_drop i l] at h1 h2 h3
  rw [finel_append, Bool.and_eq_true] at h1
  rw [szl_append] at h2
  rw [htl_append] at h3
  exact ⟨h1.1, by omega, by omega⟩
theorem szl_le : ∀ {l : List KE} {x : KE}, x ∈ l → sz x ≤ szl l
  | [], _, h => by cases h
  | y :: r, x, h => by
    rw [szl]
    rcases List.mem_cons.1 h with rfl | h
    · omega
    · have := szl_le h; omega
theorem wfKl_mem : ∀ {l : List KE}, wfKl l → ∀ x, x ∈ l → wfK x
  | [], _, x, h => by cases h
  | y :: r, hw, x, h => by
    rw [wfKl] at hw
    rcases List.mem_cons.1 h with rfl | h
    · exact hw.1
    · exact wfKl_mem hw.2 x h
theorem wfK_l {e : KE} (h : wfK e) : wfKl e.l := by obtain ⟨k, o, t, n, v, l⟩ := e; rw [wfK] at h; exact h.2
theorem encKl_at {l : List KE} {i : Nat} {x : KE} (h : l[i]? = some x) : (encKl l)[i]? = some (encK x) := by rw [encKl_map]; exact map_at h
abbrev cellsK (e : KE) : AV := .ag [AU8 e.kind, AU8 e.oper, AU8 e.to, AI32 e.n, AI e.v, .sl 6 (encKl e.l) none]
/-! ### the closure that counts -/
abbrev ptrA (b : Nat) : AV := .v (.pointer (some ⟨b, 0, none⟩))
def closK (b1 b2 : Nat) : AV := .fn 70 [] [ptrA b1, ptrA b2]
abbrev visKX (e : KE) (left deep : Int) : Int → AV := fun _ => AB (decide (fits e left (33 - deep)))
abbrev visKL (b1 b2 : Nat) : Int → List AEnt := fun i => [.box b1 (AI i), .box b2 (closK b1 b2)]
abbrev visKP (e : KE) (left deep : Int) : Int → Prop := fun i => fits e left (33 - deep) → i = left - sz e
def VisK (b1 b2 : Nat) (x : KE) (left deep : Int) : Prop := FunE Tryd.prog gs0 70 [cellsK x, AI deep, ptrA b1, ptrA b2] [.box b1 (AI left), .box b2 (closK b1 b2)] (visKX x left deep) (visKL b1 b2) (visKP x left deep)
theorem cloK_p (b1 b2 b3 : Nat) (x : KE) (left deep : Int) (hd : IntKind.i64.wrap (deep + 1) = deep + 1) (hcb : VisK b1 b2 x left (deep + 1)) :
    FunE Tryd.prog gs0 73 [cellsK x, ptrA b2, ptrA b3] [.box b1 (AI left), .box b2 (closK b1 b2), .box b3 (AI deep)] (fun _ : Int => AB (!decide (fits x left (33 - (deep + 1))))) (fun i => [.box b1 (AI i), .box b2 (closK b1 b2), .box b3 (AI deep)]) (visKP x left (deep + 1)) := by
  unfold FunE
  refine Fun.of (S := tt) (fn := Tryd.f73) (n := 11) tt_ok Tryd.func73 rfl rfl rfl rfl fun w0 h0 F hgs => ?_
  (repeat first|refine A.s rfl ?_|refine A.r rfl rfl ?_|refine A.b rfl fun bx=>?_)
  refine A.valE 8 rfl (x' := AI (deep + 1)) (ai_eq hd) ?_
  refine A.e rfl hcb .refl (List.perm_middle (a := _) (l₁ := [_, _]) (l₂ := [_])).symm fun lf hlf => ?_
  (repeat refine A.s rfl ?_)
  refine A.ret1 (Λ' := [.box b1 _, .box b2 _, .box b3 _]) rfl rfl rfl (by repeat (first | exact List.Sublist.refl _ | apply List.Sublist.cons_cons | apply List.Sublist.cons)) ⟨lf, .refl, rfl, hlf⟩
abbrev idxKP (l : List KE) (left D : Int) : Int × Int → Prop := fun p => (p.1 = -1 ∨ 0 ≤ p.1) ∧ (p.1 = -1 ↔ fitsKl l left D) ∧ (p.1 = -1 → p.2 = left - szl l)
theorem idxK_p (b1 b2 b3 : Nat) (l : List KE) (left deep : Int) (hd : IntKind.i64.wrap (deep + 1) = deep + 1) (hl : l.length ≤ 2) (h0 : 0 ≤ left) (h33 : 0 ≤ 33 - (deep + 1))
    (hcb : ∀ x, x ∈ l → ∀ lf, 0 ≤ lf → lf ≤ left → VisK b1 b2 x lf (deep + 1)) :
    FunE Tryd.prog gs0 77 [.sl 6 (encKl l) none, .fn 73 [] [ptrA b2, ptrA b3]] [.box b1 (AI left), .box b2 (closK b1 b2), .box b3 (AI deep)]
      (fun p : Int × Int => AI p.1) (fun p => [.box b1 (AI p.2), .box b2 (closK b1 b2), .box b3 (AI deep)]) (idxKP l left (33 - (deep + 1))) := by
  unfold FunE
  refine Fun.of (S := tt) (fn := Tryd.f77) (n := 19) tt_ok Tryd.func77 rfl rfl rfl rfl fun w0 h0 F hgs => ?_
  (repeat refine A.s rfl ?_)
  refine A.valE 7 rfl (x' := AI (l.length : Nat)) (ai_eq (by rw [encKl_len])) ?_
  refine A.entsEq (Λ' := [.box b1 (AI (left - (szl (l.take 0) : Nat))), .box b2 (closK b1 b2), .box b3 (AI deep)]) (by simp [szl]) ?_
  refine A.keep [0, 1, 7, 8] rfl ?_
  refine A.loopP (ι := Nat × Int) (fun p => (⟨[(0, .sl 6 (encKl l) none), (1, .fn 73 [] [ptrA b2, ptrA b3]), (7, AI (l.length : Nat)), (8, AI (p.1 : Nat))], []⟩, [.box b1 (AI p.2), .box b2 (closK b1 b2), .box b3 (AI deep)]))
    (fun p => p.1 ≤ l.length ∧ fitsKl (l.take p.1) left (33 - (deep + 1)) ∧ p.2 = left - (szl (l.take p.1) : Nat)) (fun p => l.length - p.1) (0, left - (szl (l.take 0) : Nat)) ⟨Nat.zero_le _, ⟨by simp [finel], by simp [szl]; omega, by simp [htl]; omega⟩, rfl⟩ rfl fun p hi ih => ?_
  obtain ⟨i, lf⟩ := p
  obtain ⟨hi1, hi2, hi3⟩ := hi
  simp only at hi1 hi2 hi3
  have hsz2 := hi2.2.1
  (repeat refine A.s rfl ?_)
  refine A.cond rfl (fun hc => ?_) (fun hc => ?_)
  · simp at hc
    refine Exists.elim (at_exN (l := l) (i := i) (by omega)) fun x hx => ?_
    have hxm := List.mem_of_getElem? hx
    have htk : l.take (i + 1) = l.take i ++ [x] := by rw [List.take_add_one, hx]; rfl
    have hsn := fitsKl_snoc (x := x) hi2
    rw [← htk, ← hi3] at hsn
    have hcx := cloK_p b1 b2 b3 x lf deep hd (hcb x hxm lf (by omega) (by omega))
    (repeat refine A.s rfl ?_)
    refine A.x rfl (by show (0 : Int) ≤ (i : Nat); omega) (encKl_at hx) (encK_eq x) rfl ?_
    (repeat refine A.s rfl ?_)
    refine A.e rfl hcx .refl (by exact List.Perm.refl _) fun lf2 hlf2 => ?_
    by_cases hfx : fits x lf (33 - (deep + 1))
    · refine A.valE 16 rfl (x' := AB false) (ab_eq (by simp [hfx])) ?_
      (repeat refine A.s rfl ?_)
      refine A.valE 8 rfl (x' := AI ((i + 1 : Nat) : Int)) (inc_eq i (by omega)) ?_
      refine A.sub (by repeat (first | exact trivial | refine ⟨⟨_, rfl, .refl⟩, ?_⟩)) (ih (i + 1, lf2) ⟨by show i + 1 ≤ _; omega, hsn.2 hfx, ?_⟩ (by show _ - (i + 1) < _ - i; omega))
      show lf2 = left - (szl (l.take (i + 1)) : Nat)
      rw [hlf2 hfx, htk, szl_append, hi3]; simp [szl]; omega
    · have hnf : ¬ fitsKl l left (33 - (deep + 1)) := fun hf => hfx (hsn.1 (fitsKl_take hf (i + 1)))
      refine A.valE 16 rfl (x' := AB true) (ab_eq (by simp [hfx])) ?_
      (repeat refine A.s rfl ?_)
      refine A.ret1 (Λ' := [.box b1 _, .box b2 _, .box b3 _]) rfl rfl rfl (by repeat (first | exact List.Sublist.refl _ | apply List.Sublist.cons_cons | apply List.Sublist.cons)) ⟨((i : Int), lf2), .refl, rfl, .inr (by simp only; omega), ⟨fun h => by simp only at h; omega, fun h => absurd h hnf⟩, fun h => by simp only at h; omega⟩
  · simp at hc
    have hil : i = l.length := by omega
    rw [hil, List.take_length] at hi2 hi3
    (repeat refine A.s rfl ?_)
    refine A.ret1 (Λ' := [.box b1 _, .box b2 _, .box b3 _]) rfl rfl rfl (by repeat (first | exact List.Sublist.refl _ | apply List.Sublist.cons_cons | apply List.Sublist.cons)) ⟨((-1 : Int), lf), .refl, rfl, .inl rfl, ⟨fun _ => hi2, fun _ => rfl⟩, fun _ => hi3⟩
theorem hasK_p (b1 b2 b3 : Nat) (l : List KE) (left deep : Int) (hd : IntKind.i64.wrap (deep + 1) = deep + 1) (hl : l.length ≤ 2) (h0 : 0 ≤ left) (h33 : 0 ≤ 33 - (deep + 1))
    (hcb : ∀ x, x ∈ l → ∀ lf, 0 ≤ lf → lf ≤ left → VisK b1 b2 x lf (deep + 1)) :
    FunE Tryd.prog gs0 72 [.sl 6 (encKl l) none, .fn 73 [] [ptrA b2, ptrA b3]] [.box b1 (AI left), .box b2 (closK b1 b2), .box b3 (AI deep)]
      (fun p : Int × Int => AB (decide (0 ≤ p.1))) (fun p => [.box b1 (AI p.2), .box b2 (closK b1 b2), .box b3 (AI deep)]) (idxKP l left (33 - (deep + 1))) := by
  have hi := idxK_p b1 b2 b3 l left deep hd hl h0 h33 hcb
  unfold FunE
  refine Fun.of (S := tt) (fn := Tryd.f72) (n := 9) tt_ok Tryd.func72 rfl rfl rfl rfl fun w0 h0 F hgs => ?_
  (repeat refine A.s rfl ?_)
  refine A.e rfl hi .refl (by exact List.Perm.refl _) fun p hp => ?_
  (repeat refine A.s rfl ?_)
  refine A.ret1 (Λ' := [.box b1 _, .box b2 _, .box b3 _]) rfl rfl rfl (by repeat (first | exact List.Sublist.refl _ | apply List.Sublist.cons_cons | apply List.Sublist.cons)) ⟨p, .refl, rfl, hp⟩
theorem visK_p (b1 b2 : Nat) : ∀ (N : Nat) (e : KE) (left deep : Int), sz e ≤ N → wfK e → 0 ≤ left → left ≤ 256 → 1 ≤ deep → deep ≤ 33 → VisK b1 b2 e left deep
  | 0, e, left, deep, hn, _, _, _, _, _ => by have := sz_pos e; omega
  | N + 1, e, left, deep, hn, hw, r0, r1, d0, d1 => by
    have hw1 : IntKind.i64.wrap (left - 1) = left - 1 := wr64 _ (by omega)
    have hw2 : IntKind.i64.wrap (deep + 1) = deep + 1 := wr64 _ (by omega)
    have hp := fields_p e hw
    rw [encK_eq] at hp
    unfold VisK FunE
    by_cases hz : left = 0
    · have hnf : ¬ fits e left (33 - deep) := fits_not (by omega)
      refine Fun.of (S := tt) (fn := Tryd.f70) (n := 25) tt_ok Tryd.func70 rfl rfl rfl rfl fun w0 h0 F hgs => ?_
      (repeat first|refine A.s rfl ?_|refine A.r rfl rfl ?_|refine A.w rfl rfl ?_|refine A.b rfl fun bx=>?_)
      refine A.valE 10 rfl (x' := AB true) (ab_eq (by rw [hw1]; simp; omega)) ?_
      refine A.valE 11 rfl (x' := AB true) (ab_eq (by rw [hw1]; simp; omega)) ?_
      (repeat refine A.s rfl ?_); (refine A.ret1 (Λ' := [.box b1 _, .box b2 _]) rfl rfl rfl (by repeat (first | exact List.Sublist.refl _ | apply List.Sublist.cons_cons | apply List.Sublist.cons)) ⟨_, Sb.eq (ab_eq ?_), rfl, ?_⟩; exact (decide_eq_false hnf).symm; exact fun h => absurd h hnf)
    by_cases hd33 : deep = 33
    · have hnf : ¬ fits e left (33 - deep) := fits_not (by omega)
      refine Fun.of (S := tt) (fn := Tryd.f70) (n := 25) tt_ok Tryd.func70 rfl rfl rfl rfl fun w0 h0 F hgs => ?_
      (repeat first|refine A.s rfl ?_|refine A.r rfl rfl ?_|refine A.w rfl rfl ?_|refine A.b rfl fun bx=>?_)
      refine A.valE 11 rfl (x' := AB false) (ab_eq (by rw [hw1]; simp; omega)) ?_
      (repeat first|refine A.s rfl ?_|refine A.r rfl rfl ?_)
      refine A.valE 15 rfl (x' := AB true) (ab_eq (by simp; omega)) ?_
      (repeat refine A.s rfl ?_); (refine A.ret1 (Λ' := [.box b1 _, .box b2 _]) rfl rfl rfl (by repeat (first | exact List.Sublist.refl _ | apply List.Sublist.cons_cons | apply List.Sublist.cons)) ⟨_, Sb.eq (ab_eq ?_), rfl, ?_⟩; exact (decide_eq_false hnf).symm; exact fun h => absurd h hnf)
    by_cases hs : shapeB e = true
    case neg =>
      have hs : shapeB e = false := by simpa using hs
      have hnf : ¬ fits e left (33 - deep) := fits_not (by simp [hs])
      rw [hs] at hp
      refine Fun.of (S := tt) (fn := Tryd.f70) (n := 25) tt_ok Tryd.func70 rfl rfl rfl rfl fun w0 h0 F hgs => ?_
      (repeat first|refine A.s rfl ?_|refine A.r rfl rfl ?_|refine A.w rfl rfl ?_|refine A.b rfl fun bx=>?_)
      refine A.valE 11 rfl (x' := AB false) (ab_eq (by rw [hw1]; simp; omega)) ?_
      (repeat first|refine A.s rfl ?_|refine A.r rfl rfl ?_)
      refine A.valE 15 rfl (x' := AB false) (ab_eq (by simp; omega)) ?_
      (repeat refine A.r rfl rfl ?_); refine A.c rfl hp .refl ?_
      (repeat refine A.s rfl ?_); (refine A.ret1 (Λ' := [.box b1 _, .box b2 _]) rfl rfl rfl (by repeat (first | exact List.Sublist.refl _ | apply List.Sublist.cons_cons | apply List.Sublist.cons)) ⟨_, Sb.eq (ab_eq ?_), rfl, ?_⟩; exact (decide_eq_false hnf).symm; exact fun h => absurd h hnf)
    rw [hs] at hp
    have hfl := fits_l (e := e) (room := left) (deep := 33 - deep) (by omega) (by omega) hs
    rw [show 33 - deep - 1 = 33 - (deep + 1) by omega] at hfl
    have hll : e.l.length ≤ 2 := by rcases shape_cases hs with ⟨k, o, t, n, v, rfl⟩ | ⟨k, o, t, n, v, a, rfl⟩ | ⟨k, o, t, n, v, a, b, rfl⟩ <;> simp
    have hse := sz_eq e
    have hhas := fun b3 => hasK_p b1 b2 b3 e.l (left - 1) deep hw2 hll (by omega) (by omega) fun x hx lf l0 l1 => visK_p b1 b2 N x lf (deep + 1) (by have := szl_le hx; omega) (wfKl_mem (wfK_l hw) x hx) l0 (by omega) (by omega) (by omega)
    refine Fun.of (S := tt) (fn := Tryd.f70) (n := 25) tt_ok Tryd.func70 rfl rfl rfl rfl fun w0 h0 F hgs => ?_
    (repeat first|refine A.s rfl ?_|refine A.r rfl rfl ?_|refine A.w rfl rfl ?_|refine A.b rfl fun bx=>?_)
    refine A.valE 11 rfl (x' := AB false) (ab_eq (by rw [hw1]; simp; omega)) ?_
    (repeat first|refine A.s rfl ?_|refine A.r rfl rfl ?_)
    refine A.valE 15 rfl (x' := AB false) (ab_eq (by simp; omega)) ?_
    (repeat refine A.r rfl rfl ?_); refine A.c rfl hp .refl ?_
    (repeat first|refine A.s rfl ?_|refine A.r rfl rfl ?_)
    refine A.entsEq (Λ' := [.box _ (AI deep), .box _ (cellsK e), .box b1 (AI (left - 1)), .box b2 (closK b1 b2)]) (by rw [hw1]) ?_
    refine A.e (Λ2 := [.box _ (cellsK e)]) rfl (hhas _) .refl (List.perm_append_comm (l₁ := [_, _]) (l₂ := [_, _])) fun p hpp => ?_
    refine A.valE 23 rfl (x' := AB (decide (¬ fits e left (33 - deep)))) (ab_eq ?_) ?_
    · rw [Bool.eq_iff_iff]
      simp only [decide_eq_true_eq, hfl, ← hpp.2.1]
      have := hpp.1
      constructor
      · intro h; omega
      · intro h; omega
    (repeat refine A.s rfl ?_)
    refine A.ret1 (Λ' := [.box b1 _, .box b2 _]) rfl rfl rfl (by repeat (first | exact List.Sublist.refl _ | apply List.Sublist.cons_cons | apply List.Sublist.cons)) ⟨p.2, Sb.eq (ab_eq (by simp)), rfl, fun h => ?_⟩
    have := hpp.2.2 (hpp.2.1.2 (hfl.1 h))
    omega
theorem kvalid_p (e : KE) (hw : wfK e) : Pure Tryd.prog gs0 64 [encK e] (AB (decide (valid e))) := by
  have hp := fun b1 b2 => visK_p b1 b2 (sz e) e 256 1 (Nat.le_refl _) hw (by decide) (by decide) (by decide) (by decide)
  rw [encK_eq]
  refine Pure.of (S := tt) (fn := Tryd.f64) (n := 9) tt_ok Tryd.func64 rfl rfl rfl rfl fun w0 h0 F hgs => ?_
  (repeat first|refine A.s rfl ?_|refine A.r rfl rfl ?_|refine A.w rfl rfl ?_|refine A.b rfl fun bx=>?_)
  refine A.e rfl (hp _ _) .refl (List.Perm.swap _ _ _) fun lf _ => ?_
  (repeat refine A.s rfl ?_)
  refine A.ret1 (Λ' := []) rfl rfl rfl (List.nil_sublist _) ⟨?_, rfl⟩
  exact .refl
end Go.Proofs.YtgmeahcclogfmaaDoor
/-!
  Layer 16: the kinds that an expression fits, by the program.
-/
namespace Go.Proofs.YtgmeahcclogfmaaDoor
open Go Go.Tp
set_option linter.unusedVariables false
set_option linter.unusedSimpArgs false
set_option maxRecDepth 100000
set_option maxHeartbeats 4000000
abbrev AU64 (n : Int) : AV := .v (.int .u64 n)
theorem au64_eq {a b : Int} (h : a = b) : AU64 a = AU64 b := by rw [h]
def kS (a b c : Bool) : Int := (if a then 2 else 0) + (if b then 4 else 0) + (if c then 8 else 0)
abbrev kF (f : FK) : Int := kS (f 1) (f 2) (f 3)
theorem kS_ones (a b c : Bool) : bitsOf .and .u64 18446744073709551615 (kS a b c) = kS a b c := by cases a <;> cases b <;> cases c <;> kernel_rfl
theorem kS_and (a b c a' b' c' : Bool) : bitsOf .and .u64 (kS a b c) (kS a' b' c') = kS (a && a') (b && b') (c && c') := by cases a <;> cases b <;> cases c <;> cases a' <;> cases b' <;> cases c' <;> kernel_rfl
def hasB (n k : Int) : Bool := bitsOf .and .u64 (arV .shr .u64 n k) 1 == 1
theorem has_1 (a b c : Bool) : hasB (kS a b c) 1 = a := by cases a <;> cases b <;> cases c <;> kernel_rfl
theorem has_2 (a b c : Bool) : hasB (kS a b c) 2 = b := by cases a <;> cases b <;> cases c <;> kernel_rfl
theorem has_3 (a b c : Bool) : hasB (kS a b c) 3 = c := by cases a <;> cases b <;> cases c <;> kernel_rfl
theorem kS_ne (a b c : Bool) : (kS a b c != 0) = (a || b || c) := by cases a <;> cases b <;> cases c <;> rfl
theorem kS_6 (a b c : Bool) : (bitsOf .and .u64 (kS a b c) 6 != 0) = (a || b) := by cases a <;> cases b <;> cases c <;> kernel_rfl
def ofI (l : List Int) : Int := l.foldl (fun s k => bitsOf .or .u64 s (arV .shl .u64 1 k)) 0
theorem has_p (n k : Int) (hk : 0 ≤ k ∧ k < 64) : Pure Tryd.prog gs0 66 [AU64 n, AU8 k] (AB (hasB n k)) := by
  refine Pure.of (S := tt) (fn := Tryd.f66) (n := 10) tt_ok Tryd.func66 rfl rfl rfl rfl fun w0 h0 F hgs => ?_
  (repeat refine A.s rfl ?_)
  refine A.shift rfl rfl rfl rfl rfl rfl (by omega) ?_
  (repeat refine A.s rfl ?_); refine A.ret1 (Λ' := []) rfl rfl rfl (List.nil_sublist _) ⟨?_, rfl⟩; exact .refl
theorem of_p (l : List Int) (hl : ∀ k, k ∈ l → 0 ≤ k ∧ k < 64) (hb : l.length ≤ 10) : Pure Tryd.prog gs0 75 [.sl 1 (l.map AU8) none] (AU64 (ofI l)) := by
  refine Pure.of (S := tt) (fn := Tryd.f75) (n := 17) tt_ok Tryd.func75 rfl rfl rfl rfl fun w0 h0 F hgs => ?_
  (repeat refine A.s rfl ?_)
  refine A.valE 6 rfl (x' := AI (l.length : Nat)) (ai_eq (by rw [List.length_map])) ?_
  refine A.keep [2, 5, 6, 7] rfl ?_
  refine A.loopP (ι := Nat × Int) (fun p => (⟨[(2, AU64 p.2), (5, .sl 1 (l.map AU8) none), (6, AI (l.length : Nat)), (7, AI (p.1 : Nat))], []⟩, [])) (fun p => p.1 ≤ l.length ∧ (l.drop p.1).foldl (fun s k => bitsOf .or .u64 s (arV .shl .u64 1 k)) p.2 = ofI l) (fun p => l.length - p.1) (0, 0) ⟨by simp, rfl⟩ rfl fun p hi ih => ?_
  obtain ⟨i, s⟩ := p
  simp only at hi ih ⊢
  (repeat refine A.s rfl ?_)
  refine A.cond rfl (fun hc => ?_) (fun hc => ?_)
  · simp at hc
    refine Exists.elim (at_exN (l := l) (i := i) (by omega)) fun k hk => ?_
    have hkb := hl k (List.mem_of_getElem? hk)
    have h1 := hi.2
    rw [drop_at hk, List.foldl_cons] at h1
    (repeat refine A.s rfl ?_)
    refine A.x rfl (by omega) (map_at hk) rfl rfl ?_
    (repeat refine A.s rfl ?_)
    refine A.shift rfl rfl rfl rfl rfl rfl (by omega) ?_
    (repeat refine A.s rfl ?_)
    refine A.valE 7 rfl (x' := AI ((i + 1 : Nat) : Int)) (inc_eq i (by omega)) ?_
    refine A.sub (by repeat (first | exact trivial | refine ⟨⟨_, rfl, .refl⟩, ?_⟩)) (ih (i + 1, bitsOf .or .u64 s (arV .shl .u64 1 k)) ⟨by simp only; omega, h1⟩ (by simp only; omega))
  · simp at hc
    have hil : i = l.length := by omega
    have h1 := hi.2
    rw [hil, List.drop_length, List.foldl_nil] at h1
    (repeat refine A.s rfl ?_); refine A.ret1 (Λ' := []) rfl rfl rfl (List.nil_sublist _) ⟨?_, rfl⟩; rw [h1]; exact .refl
abbrev isF (b : Bool) (k : Int) : FK := fun j => b && j == k
theorem when_p (b : Bool) (k : Int) (hk : 1 ≤ k ∧ k ≤ 3) : Pure Tryd.prog gs0 74 [AB b, AU8 k] (AU64 (kF (isF b k))) := by
  have ho := of_p [k] (fun x hx => by rw [List.mem_singleton.1 hx]; omega) (by simp)
  cases b with
  | false =>
    refine Pure.of (S := tt) (fn := Tryd.f74) (n := 9) tt_ok Tryd.func74 rfl rfl rfl rfl fun w0 h0 F hgs => ?_
    (repeat refine A.s rfl ?_); refine A.ret1 (Λ' := []) rfl rfl rfl (List.nil_sublist _) ⟨?_, rfl⟩; exact .refl
  | true =>
    have he : ofI [k] = kF (isF true k) := by
      have : k = 1 ∨ k = 2 ∨ k = 3 := by omega
      rcases this with rfl | rfl | rfl
      · exact (show ofI [1] = kF (isF true 1) by kernel_rfl)
      · exact (show ofI [2] = kF (isF true 2) by kernel_rfl)
      · exact (show ofI [3] = kF (isF true 3) by kernel_rfl)
    rw [he] at ho
    refine Pure.of (S := tt) (fn := Tryd.f74) (n := 9) tt_ok Tryd.func74 rfl rfl rfl rfl fun w0 h0 F hgs => ?_
    (repeat first|refine A.s rfl ?_|refine A.t rfl fun bl=>?_); refine A.c rfl ho (by repeat (first | exact Sb.refl | exact SbL.refl | refine SbL.cons ?_ ?_ | exact Sb.nil | exact Sb.own1 | refine Sb.own ?_ | refine Sb.ag ?_ | refine Sb.tp ?_)) ?_; (repeat refine A.s rfl ?_); refine A.ret1 (Λ' := []) rfl rfl rfl (List.nil_sublist _) ⟨?_, rfl⟩; exact .refl
theorem shr_0 (n : Int) (d : Nat) (hd : d < 32) : (arV .shr .i32 n (d : Int) == 0) = decide (0 ≤ n ∧ n < 2 ^ d) := by
  simp only [arV, show IntKind.i32.bits = 32 from rfl, Int.toNat_natCast, Nat.min_eq_left (Nat.le_of_lt hd)]
  have h2 : (0 : Int) < 2 ^ d := Int.pow_pos (by omega)
  rw [Int.fdiv_eq_ediv_of_nonneg _ (Int.le_of_lt h2), Bool.eq_iff_iff]
  simp only [beq_iff_eq, decide_eq_true_eq]
  constructor
  · intro h
    have h3 := Int.emod_add_mul_ediv n (2 ^ d)
    rw [h] at h3
    have h4 := Int.emod_nonneg n (Int.ne_of_gt h2)
    have h5 := Int.emod_lt_of_pos n h2
    omega
  · rintro ⟨h3, h4⟩; exact Int.ediv_eq_zero_of_lt h3 h4
def numF (n : Int) : FK := fun k => k == 1 || (k == 2 && decide (0 ≤ n) && decide (n ≤ 255)) || (k == 3 && (n == 0 || n == 1))
theorem knumber_p (n : Int) : Pure Tryd.prog gs0 76 [AI32 n] (AU64 (kF (numF n))) := by
  have o3 := of_p [1, 2, 3] (by decide) (by decide)
  have o2 := of_p [1, 2] (by decide) (by decide)
  have o1 := of_p [1] (by decide) (by decide)
  have e1 := shr_0 n 1 (by decide)
  have e8 := shr_0 n 8 (by decide)
  by_cases h1 : 0 ≤ n ∧ n < 2
  · have hk : ofI [1, 2, 3] = kF (numF n) := by
      have : n = 0 ∨ n = 1 := by omega
      rcases this with rfl | rfl
      · exact (show ofI [1, 2, 3] = kF (numF 0) by kernel_rfl)
      · exact (show ofI [1, 2, 3] = kF (numF 1) by kernel_rfl)
    rw [hk] at o3
    refine Pure.of (S := tt) (fn := Tryd.f76) (n := 17) tt_ok Tryd.func76 rfl rfl rfl rfl fun w0 h0 F hgs => ?_
    (repeat refine A.s rfl ?_)
    refine A.shift rfl rfl rfl rfl rfl rfl (by omega) ?_
    (repeat refine A.s rfl ?_)
    refine A.valE 3 rfl (x' := AB true) (ab_eq (e1.trans (decide_eq_true h1))) ?_
    (repeat first|refine A.s rfl ?_|refine A.t rfl fun bl=>?_); refine A.c rfl o3 (by repeat (first | exact Sb.refl | exact SbL.refl | refine SbL.cons ?_ ?_ | exact Sb.nil | exact Sb.own1 | refine Sb.own ?_ | refine Sb.ag ?_ | refine Sb.tp ?_)) ?_; (repeat refine A.s rfl ?_); refine A.ret1 (Λ' := []) rfl rfl rfl (List.nil_sublist _) ⟨?_, rfl⟩; exact .refl
  by_cases h2 : 0 ≤ n ∧ n < 256
  · have hk : ofI [1, 2] = kF (numF n) := by
      have : numF n 3 = false := by simp [numF]; omega
      have h3 : numF n 2 = true := by simp [numF]; omega
      show _ = kS (numF n 1) (numF n 2) (numF n 3)
      rw [this, h3]; kernel_rfl
    rw [hk] at o2
    refine Pure.of (S := tt) (fn := Tryd.f76) (n := 17) tt_ok Tryd.func76 rfl rfl rfl rfl fun w0 h0 F hgs => ?_
    (repeat refine A.s rfl ?_)
    refine A.shift rfl rfl rfl rfl rfl rfl (by omega) ?_
    (repeat refine A.s rfl ?_)
    refine A.valE 3 rfl (x' := AB false) (ab_eq (e1.trans (decide_eq_false (fun h => h1 h)))) ?_
    (repeat refine A.s rfl ?_)
    refine A.shift rfl rfl rfl rfl rfl rfl (by omega) ?_
    (repeat refine A.s rfl ?_)
    refine A.valE 9 rfl (x' := AB true) (ab_eq (e8.trans (decide_eq_true h2))) ?_
    (repeat first|refine A.s rfl ?_|refine A.t rfl fun bl=>?_); refine A.c rfl o2 (by repeat (first | exact Sb.refl | exact SbL.refl | refine SbL.cons ?_ ?_ | exact Sb.nil | exact Sb.own1 | refine Sb.own ?_ | refine Sb.ag ?_ | refine Sb.tp ?_)) ?_; (repeat refine A.s rfl ?_); refine A.ret1 (Λ' := []) rfl rfl rfl (List.nil_sublist _) ⟨?_, rfl⟩; exact .refl
  · have hk : ofI [1] = kF (numF n) := by
      have : numF n 3 = false := by simp [numF]; omega
      have h3 : numF n 2 = false := by simp [numF]; omega
      show _ = kS (numF n 1) (numF n 2) (numF n 3)
      rw [this, h3]; kernel_rfl
    rw [hk] at o1
    refine Pure.of (S := tt) (fn := Tryd.f76) (n := 17) tt_ok Tryd.func76 rfl rfl rfl rfl fun w0 h0 F hgs => ?_
    (repeat refine A.s rfl ?_)
    refine A.shift rfl rfl rfl rfl rfl rfl (by omega) ?_
    (repeat refine A.s rfl ?_)
    refine A.valE 3 rfl (x' := AB false) (ab_eq (e1.trans (decide_eq_false (fun h => h1 h)))) ?_
    (repeat refine A.s rfl ?_)
    refine A.shift rfl rfl rfl rfl rfl rfl (by omega) ?_
    (repeat refine A.s rfl ?_)
    refine A.valE 9 rfl (x' := AB false) (ab_eq (e8.trans (decide_eq_false (fun h => h2 h)))) ?_
    (repeat first|refine A.s rfl ?_|refine A.t rfl fun bl=>?_); refine A.c rfl o1 (by repeat (first | exact Sb.refl | exact SbL.refl | refine SbL.cons ?_ ?_ | exact Sb.nil | exact Sb.own1 | refine Sb.own ?_ | refine Sb.ag ?_ | refine Sb.tp ?_)) ?_; (repeat refine A.s rfl ?_); refine A.ret1 (Λ' := []) rfl rfl rfl (List.nil_sublist _) ⟨?_, rfl⟩; exact .refl
end Go.Proofs.YtgmeahcclogfmaaDoor
/-!
  Layer 16: what an expression fits, by the program.
-/
namespace Go.Proofs.YtgmeahcclogfmaaDoor
open Go Go.Tp
set_option linter.unusedVariables false
set_option linter.unusedSimpArgs false
set_option maxRecDepth 100000
set_option maxHeartbeats 4000000
abbrev chsA (ch : List Int) : AV := .sl 1 (ch.map AU8) none
abbrev ckA (l : List KV) (ch : List Int) (x : Nat → AV) (lf : Int) : AV := .ag [varsA l, chsA ch, x 0, x 1, x 2, x 3, x 4, x 5, x 6, x 7, x 8, AI lf]
abbrev ckP (l : List KV) (ch : List Int) (x : Nat → AV) (lf : Int) : AV := .pe 12 (ckA l ch x lf)
def VarsOk (l : List KV) : Prop := ∀ y, y ∈ l → 1 ≤ y.kind ∧ y.kind ≤ 3
theorem kF_eq {f g : FK} (h : ∀ k, f k = g k) : kF f = kF g := by rw [show f = g from funext h]
theorem kF_none : kF (fun _ => false) = 0 := rfl
theorem beq_c (a b : Int) : (a == b) = (b == a) := by rw [Bool.eq_iff_iff]; simp; exact eq_comm
theorem of12 : ofI [1, 2] = 6 := by kernel_rfl
theorem kinds_p (l : List KV) (ch : List Int) (x : Nat → AV) (lf : Int) (hl : l.length ≤ 281474976710656) (hv : VarsOk l) : ∀ (N : Nat) (e : KE), ht e ≤ N → fine e = true → Pure Tryd.prog gs0 65 [ckP l ch x lf, encK e] (AU64 (kF (fitsM l e)))
  | 0, e, hn, _ => by rw [ht_eq] at hn; omega
  | N + 1, e, hn, hf => by
    have hlen : ((l.map encV).length : Int) = l.length := by rw [List.length_map]
    rcases fine_cases hf with ⟨n, rfl⟩ | ⟨v, h1, h2, rfl⟩ | ⟨v, a, h1, h2, h3, rfl⟩ | ⟨o, a, h1, h2, h3, rfl⟩ | ⟨o, a, b, h1, h2, h3, h4, rfl⟩ | ⟨t, a, h1, h2, h3, rfl⟩
    · have hk := knumber_p n
      simp only [encK, encKl]
      refine Pure.of (S := tt) (fn := Tryd.f65) (n := 160) tt_ok Tryd.func65 rfl rfl rfl rfl fun w0 h0 F hgs => ?_
      (repeat first|refine A.s rfl ?_|refine A.r rfl rfl ?_|refine A.b rfl fun bx=>?_)
      refine A.loop1 ?_
      (repeat first|refine A.s rfl ?_|refine A.r rfl rfl ?_); refine A.c rfl hk .refl ?_; (repeat refine A.s rfl ?_); refine A.ret1 (Λ' := []) rfl rfl rfl (List.nil_sublist _) ⟨?_, rfl⟩
      refine Sb.eq (au64_eq (kF_eq fun k => ?_))
      simp [numF, fitsM, fitsL, fitC]
    · simp only [encK, encKl]
      by_cases hvl : v < l.length
      · refine Exists.elim (at_ex h1 hvl) fun y hy => ?_
        have hyk := hv y (List.mem_of_getElem? hy)
        have hw := when_p (y.dim == 0) y.kind hyk
        refine Pure.of (S := tt) (fn := Tryd.f65) (n := 160) tt_ok Tryd.func65 rfl rfl rfl rfl fun w0 h0 F hgs => ?_
        (repeat first|refine A.s rfl ?_|refine A.r rfl rfl ?_|refine A.b rfl fun bx=>?_)
        refine A.loop1 ?_
        (repeat first|refine A.s rfl ?_|refine A.r rfl rfl ?_)
        refine A.draw 8 [0, 1, 2, 3, 4, 5, 6, 7] noPubs [] (by kernel_rfl) (by kernel_rfl) ?_
        (repeat first|refine WA.s rfl ?_|refine WA.r rfl rfl ?_)
        refine WA.nil (l := []) rfl ?_
        (repeat refine A.s rfl ?_)
        refine A.valE 49 rfl (x' := AB true) (ab_eq (by rw [hlen]; simp [hvl])) ?_
        (repeat refine A.s rfl ?_)
        refine A.draw 22 [0, 1, 2, 3, 4, 5, 6, 7, 8, 9, 10, 11, 12, 13, 14, 15, 16, 17, 18, 19, 20, 21] noPubs [] (by kernel_rfl) (by kernel_rfl) ?_
        (repeat first|refine WA.s rfl ?_|refine WA.r rfl rfl ?_)
        refine WA.x rfl h1 (map_at hy) rfl rfl ?_
        (repeat first|refine WA.s rfl ?_|refine WA.r rfl rfl ?_)
        refine WA.x rfl h1 (map_at hy) rfl rfl ?_
        (repeat refine WA.s rfl ?_)
        refine WA.nil (l := []) rfl ?_
        skip
        refine A.c rfl hw .refl ?_
        (repeat refine A.s rfl ?_); refine A.ret1 (Λ' := []) rfl rfl rfl (List.nil_sublist _) ⟨?_, rfl⟩; refine Sb.eq (au64_eq (kF_eq fun k => ?_)); simp [isF, fitsM, fitsL, fitC, hy, beq_c k]
      · refine Pure.of (S := tt) (fn := Tryd.f65) (n := 160) tt_ok Tryd.func65 rfl rfl rfl rfl fun w0 h0 F hgs => ?_
        (repeat first|refine A.s rfl ?_|refine A.r rfl rfl ?_|refine A.b rfl fun bx=>?_)
        refine A.loop1 ?_
        (repeat first|refine A.s rfl ?_|refine A.r rfl rfl ?_)
        refine A.draw 8 [0, 1, 2, 3, 4, 5, 6, 7] noPubs [] (by kernel_rfl) (by kernel_rfl) ?_
        (repeat first|refine WA.s rfl ?_|refine WA.r rfl rfl ?_)
        refine WA.nil (l := []) rfl ?_
        (repeat refine A.s rfl ?_)
        refine A.valE 49 rfl (x' := AB false) (ab_eq (by rw [hlen]; simp; omega)) ?_
        (repeat refine A.s rfl ?_); refine A.ret1 (Λ' := []) rfl rfl rfl (List.nil_sublist _) ⟨?_, rfl⟩; refine Sb.eq (au64_eq ?_); rw [← kF_none]; exact kF_eq fun k => by simp [fitsM, fitsL, fitC, at_none (l := l) (i := v) (by omega)]
    · rw [ht, htl, htl] at hn
      have ea := encK_eq a
      have iha := kinds_p l ch x lf hl hv N a (by omega) h3
      rw [ea] at iha
      simp only [encK, encKl]
      by_cases hvl : v < l.length
      · refine Exists.elim (at_ex h1 hvl) fun y hy => ?_
        have hyk := hv y (List.mem_of_getElem? hy)
        by_cases hd : 0 < y.dim
        · have hw := when_p (fitsM l a 1) y.kind hyk
          have hh := has_p (kF (fitsM l a)) 1 (by decide)
          rw [has_1] at hh
          refine Pure.of (S := tt) (fn := Tryd.f65) (n := 160) tt_ok Tryd.func65 rfl rfl rfl rfl fun w0 h0 F hgs => ?_
          (repeat first|refine A.s rfl ?_|refine A.r rfl rfl ?_|refine A.b rfl fun bx=>?_)
          refine A.loop1 ?_
          (repeat refine A.s rfl ?_)
          refine A.x rfl (by decide) rfl ea rfl ?_
          (repeat first|refine A.s rfl ?_|refine A.r rfl rfl ?_|refine A.w rfl rfl ?_|refine A.b rfl fun bx=>?_)
          refine A.c rfl iha .refl ?_
          (repeat refine A.t rfl fun bl=>?_)
          refine A.append0 rfl rfl rfl rfl rfl rfl rfl rfl rfl rfl rfl rfl rfl rfl (by show (0 + 1) * 1 ≤ _; decide) fun z => ?_
          (repeat refine A.s rfl ?_)
          refine A.valE 27 rfl (x' := AI 0) rfl ?_
          refine A.x rfl (by decide) rfl rfl rfl ?_
          (repeat refine A.s rfl ?_)
          refine A.valE 6 rfl (x' := AU64 (kF (fitsM l a))) (au64_eq (kS_ones _ _ _)) ?_
          skip
          refine A.again ?_
          (repeat first|refine A.s rfl ?_|refine A.r rfl rfl ?_)
          refine A.draw 8 [0, 1, 2, 3, 4, 5, 6, 7] noPubs [] (by kernel_rfl) (by kernel_rfl) ?_
          (repeat first|refine WA.s rfl ?_|refine WA.r rfl rfl ?_)
          refine WA.nil (l := []) rfl ?_
          (repeat refine A.s rfl ?_)
          refine A.valE 83 rfl (x' := AB true) (ab_eq (by rw [hlen]; simp [hvl])) ?_
          (repeat refine A.s rfl ?_)
          refine A.draw 26 [0, 1, 2, 3, 4, 5, 6, 7, 8, 9, 10, 11, 12, 13, 16, 17, 18, 19, 20, 21, 22, 23, 24, 25, 14, 15] noPubs [(14, AB (fitsM l a 1))] (by kernel_rfl) (by kernel_rfl) ?_
          (repeat first|refine WA.s rfl ?_|refine WA.r rfl rfl ?_)
          refine WA.x rfl h1 (map_at hy) rfl rfl ?_
          (repeat refine WA.s rfl ?_)
          refine WA.valE 96 rfl (x' := AB true) (ab_eq (by simpa using hd)) ?_
          (repeat first|refine WA.s rfl ?_|refine WA.r rfl rfl ?_)
          refine WA.x rfl h1 (map_at hy) rfl rfl ?_
          (repeat refine WA.s rfl ?_)
          refine WA.c rfl rfl hh (.sub .refl) ?_
          (repeat refine WA.s rfl ?_)
          refine WA.nil (l := []) rfl ?_
          skip
          refine A.c rfl hw .refl ?_
          (repeat refine A.s rfl ?_); refine A.ret1 (Λ' := []) rfl rfl rfl (List.nil_sublist _) ⟨?_, rfl⟩; refine Sb.eq (au64_eq (kF_eq fun k => ?_)); simp [isF, fitsM, fitsL, fitC, hy, beq_c k, hd]; exact Bool.and_comm _ _
        · have hw := when_p false y.kind hyk
          refine Pure.of (S := tt) (fn := Tryd.f65) (n := 160) tt_ok Tryd.func65 rfl rfl rfl rfl fun w0 h0 F hgs => ?_
          (repeat first|refine A.s rfl ?_|refine A.r rfl rfl ?_|refine A.b rfl fun bx=>?_)
          refine A.loop1 ?_
          (repeat refine A.s rfl ?_)
          refine A.x rfl (by decide) rfl ea rfl ?_
          (repeat first|refine A.s rfl ?_|refine A.r rfl rfl ?_|refine A.w rfl rfl ?_|refine A.b rfl fun bx=>?_)
          refine A.c rfl iha .refl ?_
          (repeat refine A.t rfl fun bl=>?_)
          refine A.append0 rfl rfl rfl rfl rfl rfl rfl rfl rfl rfl rfl rfl rfl rfl (by show (0 + 1) * 1 ≤ _; decide) fun z => ?_
          (repeat refine A.s rfl ?_)
          refine A.valE 27 rfl (x' := AI 0) rfl ?_
          refine A.x rfl (by decide) rfl rfl rfl ?_
          (repeat refine A.s rfl ?_)
          refine A.valE 6 rfl (x' := AU64 (kF (fitsM l a))) (au64_eq (kS_ones _ _ _)) ?_
          skip
          refine A.again ?_
          (repeat first|refine A.s rfl ?_|refine A.r rfl rfl ?_)
          refine A.draw 8 [0, 1, 2, 3, 4, 5, 6, 7] noPubs [] (by kernel_rfl) (by kernel_rfl) ?_
          (repeat first|refine WA.s rfl ?_|refine WA.r rfl rfl ?_)
          refine WA.nil (l := []) rfl ?_
          (repeat refine A.s rfl ?_)
          refine A.valE 83 rfl (x' := AB true) (ab_eq (by rw [hlen]; simp [hvl])) ?_
          (repeat refine A.s rfl ?_)
          refine A.draw 26 [0, 1, 2, 3, 4, 5, 6, 7, 8, 9, 10, 11, 12, 13, 16, 17, 18, 19, 20, 21, 22, 23, 24, 25, 14, 15] noPubs [(14, AB false)] (by kernel_rfl) (by kernel_rfl) ?_
          (repeat first|refine WA.s rfl ?_|refine WA.r rfl rfl ?_)
          refine WA.x rfl h1 (map_at hy) rfl rfl ?_
          (repeat refine WA.s rfl ?_)
          refine WA.valE 96 rfl (x' := AB false) (ab_eq (by simpa using hd)) ?_
          (repeat first|refine WA.s rfl ?_|refine WA.r rfl rfl ?_)
          refine WA.x rfl h1 (map_at hy) rfl rfl ?_
          (repeat refine WA.s rfl ?_)
          refine WA.nil (l := []) rfl ?_
          skip
          refine A.c rfl hw .refl ?_
          (repeat refine A.s rfl ?_); refine A.ret1 (Λ' := []) rfl rfl rfl (List.nil_sublist _) ⟨?_, rfl⟩; refine Sb.eq (au64_eq (kF_eq fun k => ?_)); simp [isF, fitsM, fitsL, fitC, hy, hd]
      · refine Pure.of (S := tt) (fn := Tryd.f65) (n := 160) tt_ok Tryd.func65 rfl rfl rfl rfl fun w0 h0 F hgs => ?_
        (repeat first|refine A.s rfl ?_|refine A.r rfl rfl ?_|refine A.b rfl fun bx=>?_)
        refine A.loop1 ?_
        (repeat refine A.s rfl ?_)
        refine A.x rfl (by decide) rfl ea rfl ?_
        (repeat first|refine A.s rfl ?_|refine A.r rfl rfl ?_|refine A.w rfl rfl ?_|refine A.b rfl fun bx=>?_)
        refine A.c rfl iha .refl ?_
        (repeat refine A.t rfl fun bl=>?_)
        refine A.append0 rfl rfl rfl rfl rfl rfl rfl rfl rfl rfl rfl rfl rfl rfl (by show (0 + 1) * 1 ≤ _; decide) fun z => ?_
        (repeat refine A.s rfl ?_)
        refine A.valE 27 rfl (x' := AI 0) rfl ?_
        refine A.x rfl (by decide) rfl rfl rfl ?_
        (repeat refine A.s rfl ?_)
        refine A.valE 6 rfl (x' := AU64 (kF (fitsM l a))) (au64_eq (kS_ones _ _ _)) ?_
        skip
        refine A.again ?_
        (repeat first|refine A.s rfl ?_|refine A.r rfl rfl ?_)
        refine A.draw 8 [0, 1, 2, 3, 4, 5, 6, 7] noPubs [] (by kernel_rfl) (by kernel_rfl) ?_
        (repeat first|refine WA.s rfl ?_|refine WA.r rfl rfl ?_)
        refine WA.nil (l := []) rfl ?_
        (repeat refine A.s rfl ?_)
        refine A.valE 83 rfl (x' := AB false) (ab_eq (by rw [hlen]; simp; omega)) ?_
        (repeat refine A.s rfl ?_); refine A.ret1 (Λ' := []) rfl rfl rfl (List.nil_sublist _) ⟨?_, rfl⟩; refine Sb.eq (au64_eq ?_); rw [← kF_none]; exact kF_eq fun k => by simp [fitsM, fitsL, fitC, at_none (l := l) (i := v) (by omega)]
    · rw [ht, htl, htl] at hn
      have ea := encK_eq a
      have iha := kinds_p l ch x lf hl hv N a (by omega) h3
      rw [ea] at iha
      simp only [encK, encKl]
      by_cases ho : o = 26
      · subst ho
        have hw := when_p (fitsM l a 3) 3 (by decide)
        have hh := has_p (kF (fitsM l a)) 3 (by decide)
        rw [has_3] at hh
        refine Pure.of (S := tt) (fn := Tryd.f65) (n := 160) tt_ok Tryd.func65 rfl rfl rfl rfl fun w0 h0 F hgs => ?_
        (repeat first|refine A.s rfl ?_|refine A.r rfl rfl ?_|refine A.b rfl fun bx=>?_)
        refine A.loop1 ?_
        (repeat refine A.s rfl ?_)
        refine A.x rfl (by decide) rfl ea rfl ?_
        (repeat first|refine A.s rfl ?_|refine A.r rfl rfl ?_|refine A.w rfl rfl ?_|refine A.b rfl fun bx=>?_)
        refine A.c rfl iha .refl ?_
        (repeat refine A.t rfl fun bl=>?_)
        refine A.append0 rfl rfl rfl rfl rfl rfl rfl rfl rfl rfl rfl rfl rfl rfl (by show (0 + 1) * 1 ≤ _; decide) fun z => ?_
        (repeat refine A.s rfl ?_)
        refine A.valE 27 rfl (x' := AI 0) rfl ?_
        refine A.x rfl (by decide) rfl rfl rfl ?_
        (repeat refine A.s rfl ?_)
        refine A.valE 6 rfl (x' := AU64 (kF (fitsM l a))) (au64_eq (kS_ones _ _ _)) ?_
        skip
        refine A.again ?_
        (repeat first|refine A.s rfl ?_|refine A.r rfl rfl ?_); refine A.c rfl hh .refl ?_
        skip; refine A.c rfl hw .refl ?_
        (repeat refine A.s rfl ?_); refine A.ret1 (Λ' := []) rfl rfl rfl (List.nil_sublist _) ⟨?_, rfl⟩; refine Sb.eq (au64_eq (kF_eq fun k => ?_)); simp [isF, fitsM, fitsL, fitC]; exact Bool.and_comm _ _
      · have hw := when_p (fitsM l a 1) 1 (by decide)
        have hh := has_p (kF (fitsM l a)) 1 (by decide)
        rw [has_1] at hh
        refine Pure.of (S := tt) (fn := Tryd.f65) (n := 160) tt_ok Tryd.func65 rfl rfl rfl rfl fun w0 h0 F hgs => ?_
        (repeat first|refine A.s rfl ?_|refine A.r rfl rfl ?_|refine A.b rfl fun bx=>?_)
        refine A.loop1 ?_
        (repeat refine A.s rfl ?_)
        refine A.x rfl (by decide) rfl ea rfl ?_
        (repeat first|refine A.s rfl ?_|refine A.r rfl rfl ?_|refine A.w rfl rfl ?_|refine A.b rfl fun bx=>?_)
        refine A.c rfl iha .refl ?_
        (repeat refine A.t rfl fun bl=>?_)
        refine A.append0 rfl rfl rfl rfl rfl rfl rfl rfl rfl rfl rfl rfl rfl rfl (by show (0 + 1) * 1 ≤ _; decide) fun z => ?_
        (repeat refine A.s rfl ?_)
        refine A.valE 27 rfl (x' := AI 0) rfl ?_
        refine A.x rfl (by decide) rfl rfl rfl ?_
        (repeat refine A.s rfl ?_)
        refine A.valE 6 rfl (x' := AU64 (kF (fitsM l a))) (au64_eq (kS_ones _ _ _)) ?_
        skip
        refine A.again ?_
        (repeat (first | first|refine A.s rfl ?_|refine A.r rfl rfl ?_|refine A.w rfl rfl ?_|refine A.p rfl ?_|refine A.b rfl fun bx=>?_|refine A.t rfl fun bl=>?_ | refine A.cond rfl (fun h => (by simp at h; omega)) (fun _ => ?_) | first|refine A.step rfl ?_|refine A.v rfl rfl ?_))
        refine A.c rfl hh .refl ?_
        skip; refine A.c rfl hw .refl ?_
        (repeat refine A.s rfl ?_); refine A.ret1 (Λ' := []) rfl rfl rfl (List.nil_sublist _) ⟨?_, rfl⟩; refine Sb.eq (au64_eq (kF_eq fun k => ?_)); simp [isF, fitsM, fitsL, fitC, ho]; exact Bool.and_comm _ _
    · rw [ht, htl, htl, htl] at hn
      have ea := encK_eq a
      have eb := encK_eq b
      have iha := kinds_p l ch x lf hl hv N a (by omega) h3
      have ihb := kinds_p l ch x lf hl hv N b (by omega) h4
      rw [ea] at iha
      rw [eb] at ihb
      simp only [encK, encKl]
      by_cases o14 : o = 14
      · subst o14
        have hw := when_p ((fitsM l a 1 && fitsM l b 1) || (fitsM l a 2 && fitsM l b 2) || (fitsM l a 3 && fitsM l b 3)) 3 (by decide)
        refine Pure.of (S := tt) (fn := Tryd.f65) (n := 160) tt_ok Tryd.func65 rfl rfl rfl rfl fun w0 h0 F hgs => ?_
        (repeat first|refine A.s rfl ?_|refine A.r rfl rfl ?_|refine A.b rfl fun bx=>?_)
        refine A.loop1 ?_
        (repeat refine A.s rfl ?_)
        refine A.x rfl (by decide) rfl ea rfl ?_
        (repeat first|refine A.s rfl ?_|refine A.r rfl rfl ?_|refine A.w rfl rfl ?_|refine A.b rfl fun bx=>?_)
        refine A.c rfl iha .refl ?_
        (repeat refine A.t rfl fun bl=>?_)
        refine A.append0 rfl rfl rfl rfl rfl rfl rfl rfl rfl rfl rfl rfl rfl rfl (by show (0 + 1) * 1 ≤ _; decide) fun z => ?_
        (repeat refine A.s rfl ?_)
        refine A.valE 27 rfl (x' := AI 0) rfl ?_
        refine A.x rfl (by decide) rfl rfl rfl ?_
        (repeat refine A.s rfl ?_)
        refine A.valE 6 rfl (x' := AU64 (kF (fitsM l a))) (au64_eq (kS_ones _ _ _)) ?_
        skip
        refine A.again ?_
        (repeat refine A.s rfl ?_)
        refine A.x rfl (by decide) rfl eb rfl ?_
        (repeat first|refine A.s rfl ?_|refine A.r rfl rfl ?_|refine A.w rfl rfl ?_|refine A.b rfl fun bx=>?_)
        refine A.c rfl ihb .refl ?_
        (repeat refine A.t rfl fun bl=>?_)
        refine A.append rfl rfl rfl rfl rfl rfl rfl rfl rfl rfl rfl rfl rfl rfl (by show (1 + 1) * 1 ≤ _; decide) fun z' => ?_
        (repeat refine A.s rfl ?_)
        refine A.valE 27 rfl (x' := AI 1) rfl ?_
        refine A.x rfl (by decide) rfl rfl rfl ?_
        (repeat refine A.s rfl ?_)
        refine A.valE 6 rfl (x' := AU64 (kS (fitsM l a 1 && fitsM l b 1) (fitsM l a 2 && fitsM l b 2) (fitsM l a 3 && fitsM l b 3))) (au64_eq (kS_and _ _ _ _ _ _)) ?_
        skip
        refine A.again ?_
        (repeat first|refine A.s rfl ?_|refine A.r rfl rfl ?_)
        refine A.valE 128 rfl (x' := AB ((fitsM l a 1 && fitsM l b 1) || (fitsM l a 2 && fitsM l b 2) || (fitsM l a 3 && fitsM l b 3))) (ab_eq (kS_ne _ _ _)) ?_
        refine A.c rfl hw .refl ?_
        (repeat refine A.s rfl ?_); refine A.ret1 (Λ' := []) rfl rfl rfl (List.nil_sublist _) ⟨?_, rfl⟩; refine Sb.eq (au64_eq (kF_eq fun k => ?_)); simp only [isF, fitsM, fitsL, fitC]; by_cases hk : k = 3 <;> simp [hk]
      by_cases o15 : o = 15
      · subst o15
        have hw := when_p ((fitsM l a 1 && fitsM l b 1) || (fitsM l a 2 && fitsM l b 2) || (fitsM l a 3 && fitsM l b 3)) 3 (by decide)
        refine Pure.of (S := tt) (fn := Tryd.f65) (n := 160) tt_ok Tryd.func65 rfl rfl rfl rfl fun w0 h0 F hgs => ?_
        (repeat first|refine A.s rfl ?_|refine A.r rfl rfl ?_|refine A.b rfl fun bx=>?_)
        refine A.loop1 ?_
        (repeat refine A.s rfl ?_)
        refine A.x rfl (by decide) rfl ea rfl ?_
        (repeat first|refine A.s rfl ?_|refine A.r rfl rfl ?_|refine A.w rfl rfl ?_|refine A.b rfl fun bx=>?_)
        refine A.c rfl iha .refl ?_
        (repeat refine A.t rfl fun bl=>?_)
        refine A.append0 rfl rfl rfl rfl rfl rfl rfl rfl rfl rfl rfl rfl rfl rfl (by show (0 + 1) * 1 ≤ _; decide) fun z => ?_
        (repeat refine A.s rfl ?_)
        refine A.valE 27 rfl (x' := AI 0) rfl ?_
        refine A.x rfl (by decide) rfl rfl rfl ?_
        (repeat refine A.s rfl ?_)
        refine A.valE 6 rfl (x' := AU64 (kF (fitsM l a))) (au64_eq (kS_ones _ _ _)) ?_
        skip
        refine A.again ?_
        (repeat refine A.s rfl ?_)
        refine A.x rfl (by decide) rfl eb rfl ?_
        (repeat first|refine A.s rfl ?_|refine A.r rfl rfl ?_|refine A.w rfl rfl ?_|refine A.b rfl fun bx=>?_)
        refine A.c rfl ihb .refl ?_
        (repeat refine A.t rfl fun bl=>?_)
        refine A.append rfl rfl rfl rfl rfl rfl rfl rfl rfl rfl rfl rfl rfl rfl (by show (1 + 1) * 1 ≤ _; decide) fun z' => ?_
        (repeat refine A.s rfl ?_)
        refine A.valE 27 rfl (x' := AI 1) rfl ?_
        refine A.x rfl (by decide) rfl rfl rfl ?_
        (repeat refine A.s rfl ?_)
        refine A.valE 6 rfl (x' := AU64 (kS (fitsM l a 1 && fitsM l b 1) (fitsM l a 2 && fitsM l b 2) (fitsM l a 3 && fitsM l b 3))) (au64_eq (kS_and _ _ _ _ _ _)) ?_
        skip
        refine A.again ?_
        (repeat first|refine A.s rfl ?_|refine A.r rfl rfl ?_)
        refine A.valE 128 rfl (x' := AB ((fitsM l a 1 && fitsM l b 1) || (fitsM l a 2 && fitsM l b 2) || (fitsM l a 3 && fitsM l b 3))) (ab_eq (kS_ne _ _ _)) ?_
        refine A.c rfl hw .refl ?_
        (repeat refine A.s rfl ?_); refine A.ret1 (Λ' := []) rfl rfl rfl (List.nil_sublist _) ⟨?_, rfl⟩; refine Sb.eq (au64_eq (kF_eq fun k => ?_)); simp only [isF, fitsM, fitsL, fitC]; by_cases hk : k = 3 <;> simp [hk]
      by_cases o16 : o = 16
      · subst o16
        have hw := when_p ((fitsM l a 1 && fitsM l b 1) || (fitsM l a 2 && fitsM l b 2)) 3 (by decide)
        have ho2 := of_p [1, 2] (by decide) (by decide)
        rw [of12] at ho2
        refine Pure.of (S := tt) (fn := Tryd.f65) (n := 160) tt_ok Tryd.func65 rfl rfl rfl rfl fun w0 h0 F hgs => ?_
        (repeat first|refine A.s rfl ?_|refine A.r rfl rfl ?_|refine A.b rfl fun bx=>?_)
        refine A.loop1 ?_
        (repeat refine A.s rfl ?_)
        refine A.x rfl (by decide) rfl ea rfl ?_
        (repeat first|refine A.s rfl ?_|refine A.r rfl rfl ?_|refine A.w rfl rfl ?_|refine A.b rfl fun bx=>?_)
        refine A.c rfl iha .refl ?_
        (repeat refine A.t rfl fun bl=>?_)
        refine A.append0 rfl rfl rfl rfl rfl rfl rfl rfl rfl rfl rfl rfl rfl rfl (by show (0 + 1) * 1 ≤ _; decide) fun z => ?_
        (repeat refine A.s rfl ?_)
        refine A.valE 27 rfl (x' := AI 0) rfl ?_
        refine A.x rfl (by decide) rfl rfl rfl ?_
        (repeat refine A.s rfl ?_)
        refine A.valE 6 rfl (x' := AU64 (kF (fitsM l a))) (au64_eq (kS_ones _ _ _)) ?_
        skip
        refine A.again ?_
        (repeat refine A.s rfl ?_)
        refine A.x rfl (by decide) rfl eb rfl ?_
        (repeat first|refine A.s rfl ?_|refine A.r rfl rfl ?_|refine A.w rfl rfl ?_|refine A.b rfl fun bx=>?_)
        refine A.c rfl ihb .refl ?_
        (repeat refine A.t rfl fun bl=>?_)
        refine A.append rfl rfl rfl rfl rfl rfl rfl rfl rfl rfl rfl rfl rfl rfl (by show (1 + 1) * 1 ≤ _; decide) fun z' => ?_
        (repeat refine A.s rfl ?_)
        refine A.valE 27 rfl (x' := AI 1) rfl ?_
        refine A.x rfl (by decide) rfl rfl rfl ?_
        (repeat refine A.s rfl ?_)
        refine A.valE 6 rfl (x' := AU64 (kS (fitsM l a 1 && fitsM l b 1) (fitsM l a 2 && fitsM l b 2) (fitsM l a 3 && fitsM l b 3))) (au64_eq (kS_and _ _ _ _ _ _)) ?_
        skip
        refine A.again ?_
        (repeat first|refine A.s rfl ?_|refine A.r rfl rfl ?_|refine A.t rfl fun bl=>?_)
        refine A.c rfl ho2 (by repeat (first | exact Sb.refl | exact SbL.refl | refine SbL.cons ?_ ?_ | exact Sb.nil | exact Sb.own1 | refine Sb.own ?_ | refine Sb.ag ?_ | refine Sb.tp ?_)) ?_
        (repeat refine A.s rfl ?_)
        refine A.valE 140 rfl (x' := AB ((fitsM l a 1 && fitsM l b 1) || (fitsM l a 2 && fitsM l b 2))) (ab_eq (kS_6 _ _ _)) ?_
        refine A.c rfl hw .refl ?_
        (repeat refine A.s rfl ?_); refine A.ret1 (Λ' := []) rfl rfl rfl (List.nil_sublist _) ⟨?_, rfl⟩; refine Sb.eq (au64_eq (kF_eq fun k => ?_)); simp only [isF, fitsM, fitsL, fitC]; by_cases hk : k = 3 <;> simp [hk]
      by_cases o17 : o = 17
      · subst o17
        have hw := when_p ((fitsM l a 1 && fitsM l b 1) || (fitsM l a 2 && fitsM l b 2)) 3 (by decide)
        have ho2 := of_p [1, 2] (by decide) (by decide)
        rw [of12] at ho2
        refine Pure.of (S := tt) (fn := Tryd.f65) (n := 160) tt_ok Tryd.func65 rfl rfl rfl rfl fun w0 h0 F hgs => ?_
        (repeat first|refine A.s rfl ?_|refine A.r rfl rfl ?_|refine A.b rfl fun bx=>?_)
        refine A.loop1 ?_
        (repeat refine A.s rfl ?_)
        refine A.x rfl (by decide) rfl ea rfl ?_
        (repeat first|refine A.s rfl ?_|refine A.r rfl rfl ?_|refine A.w rfl rfl ?_|refine A.b rfl fun bx=>?_)
        refine A.c rfl iha .refl ?_
        (repeat refine A.t rfl fun bl=>?_)
        refine A.append0 rfl rfl rfl rfl rfl rfl rfl rfl rfl rfl rfl rfl rfl rfl (by show (0 + 1) * 1 ≤ _; decide) fun z => ?_
        (repeat refine A.s rfl ?_)
        refine A.valE 27 rfl (x' := AI 0) rfl ?_
        refine A.x rfl (by decide) rfl rfl rfl ?_
        (repeat refine A.s rfl ?_)
        refine A.valE 6 rfl (x' := AU64 (kF (fitsM l a))) (au64_eq (kS_ones _ _ _)) ?_
        skip
        refine A.again ?_
        (repeat refine A.s rfl ?_)
        refine A.x rfl (by decide) rfl eb rfl ?_
        (repeat first|refine A.s rfl ?_|refine A.r rfl rfl ?_|refine A.w rfl rfl ?_|refine A.b rfl fun bx=>?_)
        refine A.c rfl ihb .refl ?_
        (repeat refine A.t rfl fun bl=>?_)
        refine A.append rfl rfl rfl rfl rfl rfl rfl rfl rfl rfl rfl rfl rfl rfl (by show (1 + 1) * 1 ≤ _; decide) fun z' => ?_
        (repeat refine A.s rfl ?_)
        refine A.valE 27 rfl (x' := AI 1) rfl ?_
        refine A.x rfl (by decide) rfl rfl rfl ?_
        (repeat refine A.s rfl ?_)
        refine A.valE 6 rfl (x' := AU64 (kS (fitsM l a 1 && fitsM l b 1) (fitsM l a 2 && fitsM l b 2) (fitsM l a 3 && fitsM l b 3))) (au64_eq (kS_and _ _ _ _ _ _)) ?_
        skip
        refine A.again ?_
        (repeat first|refine A.s rfl ?_|refine A.r rfl rfl ?_|refine A.t rfl fun bl=>?_)
        refine A.c rfl ho2 (by repeat (first | exact Sb.refl | exact SbL.refl | refine SbL.cons ?_ ?_ | exact Sb.nil | exact Sb.own1 | refine Sb.own ?_ | refine Sb.ag ?_ | refine Sb.tp ?_)) ?_
        (repeat refine A.s rfl ?_)
        refine A.valE 140 rfl (x' := AB ((fitsM l a 1 && fitsM l b 1) || (fitsM l a 2 && fitsM l b 2))) (ab_eq (kS_6 _ _ _)) ?_
        refine A.c rfl hw .refl ?_
        (repeat refine A.s rfl ?_); refine A.ret1 (Λ' := []) rfl rfl rfl (List.nil_sublist _) ⟨?_, rfl⟩; refine Sb.eq (au64_eq (kF_eq fun k => ?_)); simp only [isF, fitsM, fitsL, fitC]; by_cases hk : k = 3 <;> simp [hk]
      by_cases o18 : o = 18
      · subst o18
        have hw := when_p ((fitsM l a 1 && fitsM l b 1) || (fitsM l a 2 && fitsM l b 2)) 3 (by decide)
        have ho2 := of_p [1, 2] (by decide) (by decide)
        rw [of12] at ho2
        refine Pure.of (S := tt) (fn := Tryd.f65) (n := 160) tt_ok Tryd.func65 rfl rfl rfl rfl fun w0 h0 F hgs => ?_
        (repeat first|refine A.s rfl ?_|refine A.r rfl rfl ?_|refine A.b rfl fun bx=>?_)
        refine A.loop1 ?_
        (repeat refine A.s rfl ?_)
        refine A.x rfl (by decide) rfl ea rfl ?_
        (repeat first|refine A.s rfl ?_|refine A.r rfl rfl ?_|refine A.w rfl rfl ?_|refine A.b rfl fun bx=>?_)
        refine A.c rfl iha .refl ?_
        (repeat refine A.t rfl fun bl=>?_)
        refine A.append0 rfl rfl rfl rfl rfl rfl rfl rfl rfl rfl rfl rfl rfl rfl (by show (0 + 1) * 1 ≤ _; decide) fun z => ?_
        (repeat refine A.s rfl ?_)
        refine A.valE 27 rfl (x' := AI 0) rfl ?_
        refine A.x rfl (by decide) rfl rfl rfl ?_
        (repeat refine A.s rfl ?_)
        refine A.valE 6 rfl (x' := AU64 (kF (fitsM l a))) (au64_eq (kS_ones _ _ _)) ?_
        skip
        refine A.again ?_
        (repeat refine A.s rfl ?_)
        refine A.x rfl (by decide) rfl eb rfl ?_
        (repeat first|refine A.s rfl ?_|refine A.r rfl rfl ?_|refine A.w rfl rfl ?_|refine A.b rfl fun bx=>?_)
        refine A.c rfl ihb .refl ?_
        (repeat refine A.t rfl fun bl=>?_)
        refine A.append rfl rfl rfl rfl rfl rfl rfl rfl rfl rfl rfl rfl rfl rfl (by show (1 + 1) * 1 ≤ _; decide) fun z' => ?_
        (repeat refine A.s rfl ?_)
        refine A.valE 27 rfl (x' := AI 1) rfl ?_
        refine A.x rfl (by decide) rfl rfl rfl ?_
        (repeat refine A.s rfl ?_)
        refine A.valE 6 rfl (x' := AU64 (kS (fitsM l a 1 && fitsM l b 1) (fitsM l a 2 && fitsM l b 2) (fitsM l a 3 && fitsM l b 3))) (au64_eq (kS_and _ _ _ _ _ _)) ?_
        skip
        refine A.again ?_
        (repeat first|refine A.s rfl ?_|refine A.r rfl rfl ?_|refine A.t rfl fun bl=>?_)
        refine A.c rfl ho2 (by repeat (first | exact Sb.refl | exact SbL.refl | refine SbL.cons ?_ ?_ | exact Sb.nil | exact Sb.own1 | refine Sb.own ?_ | refine Sb.ag ?_ | refine Sb.tp ?_)) ?_
        (repeat refine A.s rfl ?_)
        refine A.valE 140 rfl (x' := AB ((fitsM l a 1 && fitsM l b 1) || (fitsM l a 2 && fitsM l b 2))) (ab_eq (kS_6 _ _ _)) ?_
        refine A.c rfl hw .refl ?_
        (repeat refine A.s rfl ?_); refine A.ret1 (Λ' := []) rfl rfl rfl (List.nil_sublist _) ⟨?_, rfl⟩; refine Sb.eq (au64_eq (kF_eq fun k => ?_)); simp only [isF, fitsM, fitsL, fitC]; by_cases hk : k = 3 <;> simp [hk]
      by_cases o19 : o = 19
      · subst o19
        have hw := when_p ((fitsM l a 1 && fitsM l b 1) || (fitsM l a 2 && fitsM l b 2)) 3 (by decide)
        have ho2 := of_p [1, 2] (by decide) (by decide)
        rw [of12] at ho2
        refine Pure.of (S := tt) (fn := Tryd.f65) (n := 160) tt_ok Tryd.func65 rfl rfl rfl rfl fun w0 h0 F hgs => ?_
        (repeat first|refine A.s rfl ?_|refine A.r rfl rfl ?_|refine A.b rfl fun bx=>?_)
        refine A.loop1 ?_
        (repeat refine A.s rfl ?_)
        refine A.x rfl (by decide) rfl ea rfl ?_
        (repeat first|refine A.s rfl ?_|refine A.r rfl rfl ?_|refine A.w rfl rfl ?_|refine A.b rfl fun bx=>?_)
        refine A.c rfl iha .refl ?_
        (repeat refine A.t rfl fun bl=>?_)
        refine A.append0 rfl rfl rfl rfl rfl rfl rfl rfl rfl rfl rfl rfl rfl rfl (by show (0 + 1) * 1 ≤ _; decide) fun z => ?_
        (repeat refine A.s rfl ?_)
        refine A.valE 27 rfl (x' := AI 0) rfl ?_
        refine A.x rfl (by decide) rfl rfl rfl ?_
        (repeat refine A.s rfl ?_)
        refine A.valE 6 rfl (x' := AU64 (kF (fitsM l a))) (au64_eq (kS_ones _ _ _)) ?_
        skip
        refine A.again ?_
        (repeat refine A.s rfl ?_)
        refine A.x rfl (by decide) rfl eb rfl ?_
        (repeat first|refine A.s rfl ?_|refine A.r rfl rfl ?_|refine A.w rfl rfl ?_|refine A.b rfl fun bx=>?_)
        refine A.c rfl ihb .refl ?_
        (repeat refine A.t rfl fun bl=>?_)
        refine A.append rfl rfl rfl rfl rfl rfl rfl rfl rfl rfl rfl rfl rfl rfl (by show (1 + 1) * 1 ≤ _; decide) fun z' => ?_
        (repeat refine A.s rfl ?_)
        refine A.valE 27 rfl (x' := AI 1) rfl ?_
        refine A.x rfl (by decide) rfl rfl rfl ?_
        (repeat refine A.s rfl ?_)
        refine A.valE 6 rfl (x' := AU64 (kS (fitsM l a 1 && fitsM l b 1) (fitsM l a 2 && fitsM l b 2) (fitsM l a 3 && fitsM l b 3))) (au64_eq (kS_and _ _ _ _ _ _)) ?_
        skip
        refine A.again ?_
        (repeat first|refine A.s rfl ?_|refine A.r rfl rfl ?_|refine A.t rfl fun bl=>?_)
        refine A.c rfl ho2 (by repeat (first | exact Sb.refl | exact SbL.refl | refine SbL.cons ?_ ?_ | exact Sb.nil | exact Sb.own1 | refine Sb.own ?_ | refine Sb.ag ?_ | refine Sb.tp ?_)) ?_
        (repeat refine A.s rfl ?_)
        refine A.valE 140 rfl (x' := AB ((fitsM l a 1 && fitsM l b 1) || (fitsM l a 2 && fitsM l b 2))) (ab_eq (kS_6 _ _ _)) ?_
        refine A.c rfl hw .refl ?_
        (repeat refine A.s rfl ?_); refine A.ret1 (Λ' := []) rfl rfl rfl (List.nil_sublist _) ⟨?_, rfl⟩; refine Sb.eq (au64_eq (kF_eq fun k => ?_)); simp only [isF, fitsM, fitsL, fitC]; by_cases hk : k = 3 <;> simp [hk]
      by_cases o20 : o = 20
      · subst o20
        have hw := when_p (fitsM l a 3 && fitsM l b 3) 3 (by decide)
        have hh := has_p (kS (fitsM l a 1 && fitsM l b 1) (fitsM l a 2 && fitsM l b 2) (fitsM l a 3 && fitsM l b 3)) 3 (by decide)
        rw [has_3] at hh
        refine Pure.of (S := tt) (fn := Tryd.f65) (n := 160) tt_ok Tryd.func65 rfl rfl rfl rfl fun w0 h0 F hgs => ?_
        (repeat first|refine A.s rfl ?_|refine A.r rfl rfl ?_|refine A.b rfl fun bx=>?_)
        refine A.loop1 ?_
        (repeat refine A.s rfl ?_)
        refine A.x rfl (by decide) rfl ea rfl ?_
        (repeat first|refine A.s rfl ?_|refine A.r rfl rfl ?_|refine A.w rfl rfl ?_|refine A.b rfl fun bx=>?_)
        refine A.c rfl iha .refl ?_
        (repeat refine A.t rfl fun bl=>?_)
        refine A.append0 rfl rfl rfl rfl rfl rfl rfl rfl rfl rfl rfl rfl rfl rfl (by show (0 + 1) * 1 ≤ _; decide) fun z => ?_
        (repeat refine A.s rfl ?_)
        refine A.valE 27 rfl (x' := AI 0) rfl ?_
        refine A.x rfl (by decide) rfl rfl rfl ?_
        (repeat refine A.s rfl ?_)
        refine A.valE 6 rfl (x' := AU64 (kF (fitsM l a))) (au64_eq (kS_ones _ _ _)) ?_
        skip
        refine A.again ?_
        (repeat refine A.s rfl ?_)
        refine A.x rfl (by decide) rfl eb rfl ?_
        (repeat first|refine A.s rfl ?_|refine A.r rfl rfl ?_|refine A.w rfl rfl ?_|refine A.b rfl fun bx=>?_)
        refine A.c rfl ihb .refl ?_
        (repeat refine A.t rfl fun bl=>?_)
        refine A.append rfl rfl rfl rfl rfl rfl rfl rfl rfl rfl rfl rfl rfl rfl (by show (1 + 1) * 1 ≤ _; decide) fun z' => ?_
        (repeat refine A.s rfl ?_)
        refine A.valE 27 rfl (x' := AI 1) rfl ?_
        refine A.x rfl (by decide) rfl rfl rfl ?_
        (repeat refine A.s rfl ?_)
        refine A.valE 6 rfl (x' := AU64 (kS (fitsM l a 1 && fitsM l b 1) (fitsM l a 2 && fitsM l b 2) (fitsM l a 3 && fitsM l b 3))) (au64_eq (kS_and _ _ _ _ _ _)) ?_
        skip
        refine A.again ?_
        (repeat first|refine A.s rfl ?_|refine A.r rfl rfl ?_)
        refine A.c rfl hh .refl ?_
        skip
        refine A.c rfl hw .refl ?_
        (repeat refine A.s rfl ?_); refine A.ret1 (Λ' := []) rfl rfl rfl (List.nil_sublist _) ⟨?_, rfl⟩; refine Sb.eq (au64_eq (kF_eq fun k => ?_)); simp only [isF, fitsM, fitsL, fitC]; by_cases hk : k = 3 <;> simp [hk]
      by_cases o21 : o = 21
      · subst o21
        have hw := when_p (fitsM l a 3 && fitsM l b 3) 3 (by decide)
        have hh := has_p (kS (fitsM l a 1 && fitsM l b 1) (fitsM l a 2 && fitsM l b 2) (fitsM l a 3 && fitsM l b 3)) 3 (by decide)
        rw [has_3] at hh
        refine Pure.of (S := tt) (fn := Tryd.f65) (n := 160) tt_ok Tryd.func65 rfl rfl rfl rfl fun w0 h0 F hgs => ?_
        (repeat first|refine A.s rfl ?_|refine A.r rfl rfl ?_|refine A.b rfl fun bx=>?_)
        refine A.loop1 ?_
        (repeat refine A.s rfl ?_)
        refine A.x rfl (by decide) rfl ea rfl ?_
        (repeat first|refine A.s rfl ?_|refine A.r rfl rfl ?_|refine A.w rfl rfl ?_|refine A.b rfl fun bx=>?_)
        refine A.c rfl iha .refl ?_
        (repeat refine A.t rfl fun bl=>?_)
        refine A.append0 rfl rfl rfl rfl rfl rfl rfl rfl rfl rfl rfl rfl rfl rfl (by show (0 + 1) * 1 ≤ _; decide) fun z => ?_
        (repeat refine A.s rfl ?_)
        refine A.valE 27 rfl (x' := AI 0) rfl ?_
        refine A.x rfl (by decide) rfl rfl rfl ?_
        (repeat refine A.s rfl ?_)
        refine A.valE 6 rfl (x' := AU64 (kF (fitsM l a))) (au64_eq (kS_ones _ _ _)) ?_
        skip
        refine A.again ?_
        (repeat refine A.s rfl ?_)
        refine A.x rfl (by decide) rfl eb rfl ?_
        (repeat first|refine A.s rfl ?_|refine A.r rfl rfl ?_|refine A.w rfl rfl ?_|refine A.b rfl fun bx=>?_)
        refine A.c rfl ihb .refl ?_
        (repeat refine A.t rfl fun bl=>?_)
        refine A.append rfl rfl rfl rfl rfl rfl rfl rfl rfl rfl rfl rfl rfl rfl (by show (1 + 1) * 1 ≤ _; decide) fun z' => ?_
        (repeat refine A.s rfl ?_)
        refine A.valE 27 rfl (x' := AI 1) rfl ?_
        refine A.x rfl (by decide) rfl rfl rfl ?_
        (repeat refine A.s rfl ?_)
        refine A.valE 6 rfl (x' := AU64 (kS (fitsM l a 1 && fitsM l b 1) (fitsM l a 2 && fitsM l b 2) (fitsM l a 3 && fitsM l b 3))) (au64_eq (kS_and _ _ _ _ _ _)) ?_
        skip
        refine A.again ?_
        (repeat first|refine A.s rfl ?_|refine A.r rfl rfl ?_)
        refine A.c rfl hh .refl ?_
        skip
        refine A.c rfl hw .refl ?_
        (repeat refine A.s rfl ?_); refine A.ret1 (Λ' := []) rfl rfl rfl (List.nil_sublist _) ⟨?_, rfl⟩; refine Sb.eq (au64_eq (kF_eq fun k => ?_)); simp only [isF, fitsM, fitsL, fitC]; by_cases hk : k = 3 <;> simp [hk]
      by_cases o22 : o = 22
      · subst o22
        have hw := when_p (fitsM l a 1 && fitsM l b 1) 3 (by decide)
        have hh := has_p (kS (fitsM l a 1 && fitsM l b 1) (fitsM l a 2 && fitsM l b 2) (fitsM l a 3 && fitsM l b 3)) 1 (by decide)
        rw [has_1] at hh
        refine Pure.of (S := tt) (fn := Tryd.f65) (n := 160) tt_ok Tryd.func65 rfl rfl rfl rfl fun w0 h0 F hgs => ?_
        (repeat first|refine A.s rfl ?_|refine A.r rfl rfl ?_|refine A.b rfl fun bx=>?_)
        refine A.loop1 ?_
        (repeat refine A.s rfl ?_)
        refine A.x rfl (by decide) rfl ea rfl ?_
        (repeat first|refine A.s rfl ?_|refine A.r rfl rfl ?_|refine A.w rfl rfl ?_|refine A.b rfl fun bx=>?_)
        refine A.c rfl iha .refl ?_
        (repeat refine A.t rfl fun bl=>?_)
        refine A.append0 rfl rfl rfl rfl rfl rfl rfl rfl rfl rfl rfl rfl rfl rfl (by show (0 + 1) * 1 ≤ _; decide) fun z => ?_
        (repeat refine A.s rfl ?_)
        refine A.valE 27 rfl (x' := AI 0) rfl ?_
        refine A.x rfl (by decide) rfl rfl rfl ?_
        (repeat refine A.s rfl ?_)
        refine A.valE 6 rfl (x' := AU64 (kF (fitsM l a))) (au64_eq (kS_ones _ _ _)) ?_
        skip
        refine A.again ?_
        (repeat refine A.s rfl ?_)
        refine A.x rfl (by decide) rfl eb rfl ?_
        (repeat first|refine A.s rfl ?_|refine A.r rfl rfl ?_|refine A.w rfl rfl ?_|refine A.b rfl fun bx=>?_)
        refine A.c rfl ihb .refl ?_
        (repeat refine A.t rfl fun bl=>?_)
        refine A.append rfl rfl rfl rfl rfl rfl rfl rfl rfl rfl rfl rfl rfl rfl (by show (1 + 1) * 1 ≤ _; decide) fun z' => ?_
        (repeat refine A.s rfl ?_)
        refine A.valE 27 rfl (x' := AI 1) rfl ?_
        refine A.x rfl (by decide) rfl rfl rfl ?_
        (repeat refine A.s rfl ?_)
        refine A.valE 6 rfl (x' := AU64 (kS (fitsM l a 1 && fitsM l b 1) (fitsM l a 2 && fitsM l b 2) (fitsM l a 3 && fitsM l b 3))) (au64_eq (kS_and _ _ _ _ _ _)) ?_
        skip
        refine A.again ?_
        (repeat first|refine A.s rfl ?_|refine A.r rfl rfl ?_)
        refine A.c rfl hh .refl ?_
        skip
        refine A.c rfl hw .refl ?_
        (repeat refine A.s rfl ?_); refine A.ret1 (Λ' := []) rfl rfl rfl (List.nil_sublist _) ⟨?_, rfl⟩; refine Sb.eq (au64_eq (kF_eq fun k => ?_)); simp only [isF, fitsM, fitsL, fitC]; by_cases hk : k = 3 <;> simp [hk]
      have hw := when_p (fitsM l a 1 && fitsM l b 1) 1 (by decide)
      have hh := has_p (kS (fitsM l a 1 && fitsM l b 1) (fitsM l a 2 && fitsM l b 2) (fitsM l a 3 && fitsM l b 3)) 1 (by decide)
      rw [has_1] at hh
      have ho13 : o ≤ 13 := by omega
      refine Pure.of (S := tt) (fn := Tryd.f65) (n := 160) tt_ok Tryd.func65 rfl rfl rfl rfl fun w0 h0 F hgs => ?_
      (repeat first|refine A.s rfl ?_|refine A.r rfl rfl ?_|refine A.b rfl fun bx=>?_)
      refine A.loop1 ?_
      (repeat refine A.s rfl ?_)
      refine A.x rfl (by decide) rfl ea rfl ?_
      (repeat first|refine A.s rfl ?_|refine A.r rfl rfl ?_|refine A.w rfl rfl ?_|refine A.b rfl fun bx=>?_)
      refine A.c rfl iha .refl ?_
      (repeat refine A.t rfl fun bl=>?_)
      refine A.append0 rfl rfl rfl rfl rfl rfl rfl rfl rfl rfl rfl rfl rfl rfl (by show (0 + 1) * 1 ≤ _; decide) fun z => ?_
      (repeat refine A.s rfl ?_)
      refine A.valE 27 rfl (x' := AI 0) rfl ?_
      refine A.x rfl (by decide) rfl rfl rfl ?_
      (repeat refine A.s rfl ?_)
      refine A.valE 6 rfl (x' := AU64 (kF (fitsM l a))) (au64_eq (kS_ones _ _ _)) ?_
      skip
      refine A.again ?_
      (repeat refine A.s rfl ?_)
      refine A.x rfl (by decide) rfl eb rfl ?_
      (repeat first|refine A.s rfl ?_|refine A.r rfl rfl ?_|refine A.w rfl rfl ?_|refine A.b rfl fun bx=>?_)
      refine A.c rfl ihb .refl ?_
      (repeat refine A.t rfl fun bl=>?_)
      refine A.append rfl rfl rfl rfl rfl rfl rfl rfl rfl rfl rfl rfl rfl rfl (by show (1 + 1) * 1 ≤ _; decide) fun z' => ?_
      (repeat refine A.s rfl ?_)
      refine A.valE 27 rfl (x' := AI 1) rfl ?_
      refine A.x rfl (by decide) rfl rfl rfl ?_
      (repeat refine A.s rfl ?_)
      refine A.valE 6 rfl (x' := AU64 (kS (fitsM l a 1 && fitsM l b 1) (fitsM l a 2 && fitsM l b 2) (fitsM l a 3 && fitsM l b 3))) (au64_eq (kS_and _ _ _ _ _ _)) ?_
      skip
      refine A.again ?_
      (repeat (first | first|refine A.s rfl ?_|refine A.r rfl rfl ?_|refine A.w rfl rfl ?_|refine A.p rfl ?_|refine A.b rfl fun bx=>?_|refine A.t rfl fun bl=>?_ | refine A.cond rfl (fun h => (by simp at h; omega)) (fun _ => ?_) | first|refine A.step rfl ?_|refine A.v rfl rfl ?_))
      refine A.c rfl hh .refl ?_
      skip
      refine A.c rfl hw .refl ?_
      (repeat refine A.s rfl ?_); refine A.ret1 (Λ' := []) rfl rfl rfl (List.nil_sublist _) ⟨?_, rfl⟩; refine Sb.eq (au64_eq (kF_eq fun k => ?_)); simp only [isF, fitsM, fitsL, fitC, if_pos ho13]; simp; exact Bool.and_comm _ _
    · rw [ht, htl, htl] at hn
      have ea := encK_eq a
      have iha := kinds_p l ch x lf hl hv N a (by omega) h3
      rw [ea] at iha
      simp only [encK, encKl]
      have hw := when_p (fitsM l a 1 || fitsM l a 2 || fitsM l a 3) t ⟨h1, h2⟩
      refine Pure.of (S := tt) (fn := Tryd.f65) (n := 160) tt_ok Tryd.func65 rfl rfl rfl rfl fun w0 h0 F hgs => ?_
      (repeat first|refine A.s rfl ?_|refine A.r rfl rfl ?_|refine A.b rfl fun bx=>?_)
      refine A.loop1 ?_
      (repeat refine A.s rfl ?_)
      refine A.x rfl (by decide) rfl ea rfl ?_
      (repeat first|refine A.s rfl ?_|refine A.r rfl rfl ?_|refine A.w rfl rfl ?_|refine A.b rfl fun bx=>?_)
      refine A.c rfl iha .refl ?_
      (repeat refine A.t rfl fun bl=>?_)
      refine A.append0 rfl rfl rfl rfl rfl rfl rfl rfl rfl rfl rfl rfl rfl rfl (by show (0 + 1) * 1 ≤ _; decide) fun z => ?_
      (repeat refine A.s rfl ?_)
      refine A.valE 27 rfl (x' := AI 0) rfl ?_
      refine A.x rfl (by decide) rfl rfl rfl ?_
      (repeat refine A.s rfl ?_)
      refine A.valE 6 rfl (x' := AU64 (kF (fitsM l a))) (au64_eq (kS_ones _ _ _)) ?_
      skip
      refine A.again ?_
      (repeat first|refine A.s rfl ?_|refine A.r rfl rfl ?_)
      refine A.draw 7 [0, 1, 2, 3, 4, 5, 6] noPubs [] (by kernel_rfl) (by kernel_rfl) ?_
      (repeat refine WA.s rfl ?_)
      refine WA.x rfl (by decide) rfl rfl rfl ?_
      (repeat first|refine WA.s rfl ?_|refine WA.r rfl rfl ?_)
      refine WA.valE 117 rfl (x' := AB (fitsM l a 1 || fitsM l a 2 || fitsM l a 3)) (ab_eq (kS_ne _ _ _)) ?_
      refine WA.nil (l := []) rfl ?_
      skip
      refine A.c rfl hw .refl ?_
      (repeat refine A.s rfl ?_); refine A.ret1 (Λ' := []) rfl rfl rfl (List.nil_sublist _) ⟨?_, rfl⟩; refine Sb.eq (au64_eq (kF_eq fun k => ?_)); simp [isF, fitsM, fitsL, fitC, beq_c k]; exact Bool.and_comm _ _
theorem kfits_p (l : List KV) (ch : List Int) (x : Nat → AV) (lf : Int) (hl : l.length ≤ 281474976710656) (hv : VarsOk l) (e : KE) (hw : wfK e) (kind : Int) (hk : 1 ≤ kind ∧ kind ≤ 3) : Pure Tryd.prog gs0 54 [ckP l ch x lf, encK e, AU8 kind] (AB (decide (valid e) && fitsM l e kind)) := by
  have hva := kvalid_p e hw
  rw [encK_eq] at hva ⊢
  by_cases hve : valid e
  · have hkd := kinds_p l ch x lf hl hv (ht e) e (Nat.le_refl _) hve.1
    have hh := has_p (kF (fitsM l e)) kind (by omega)
    have he : hasB (kF (fitsM l e)) kind = fitsM l e kind := by
      have : kind = 1 ∨ kind = 2 ∨ kind = 3 := by omega
      rcases this with rfl | rfl | rfl
      · exact has_1 _ _ _
      · exact has_2 _ _ _
      · exact has_3 _ _ _
    rw [he] at hh
    rw [encK_eq] at hkd
    rw [decide_eq_true hve] at hva ⊢
    refine Pure.of (S := tt) (fn := Tryd.f54) (n := 16) tt_ok Tryd.func54 rfl rfl rfl rfl fun w0 h0 F hgs => ?_
    (repeat first|refine A.s rfl ?_|refine A.r rfl rfl ?_|refine A.b rfl fun bx=>?_)
    refine A.c rfl hva .refl ?_
    (repeat first|refine A.s rfl ?_|refine A.r rfl rfl ?_)
    refine A.c rfl hkd .refl ?_
    (repeat refine A.s rfl ?_)
    refine A.c rfl hh .refl ?_
    (repeat refine A.s rfl ?_); refine A.ret1 (Λ' := []) rfl rfl rfl (List.nil_sublist _) ⟨?_, rfl⟩; exact .refl
  · rw [decide_eq_false hve] at hva ⊢
    refine Pure.of (S := tt) (fn := Tryd.f54) (n := 16) tt_ok Tryd.func54 rfl rfl rfl rfl fun w0 h0 F hgs => ?_
    (repeat first|refine A.s rfl ?_|refine A.r rfl rfl ?_|refine A.b rfl fun bx=>?_)
    refine A.c rfl hva .refl ?_
    (repeat refine A.s rfl ?_); refine A.ret1 (Λ' := []) rfl rfl rfl (List.nil_sublist _) ⟨?_, rfl⟩; exact .refl
end Go.Proofs.YtgmeahcclogfmaaDoor
/-!
  Layer 16: processes of a kernel as data; what may be said of one by itself.
-/
namespace Go.Proofs.YtgmeahcclogfmaaDoor
open Go Go.Tp
set_option linter.unusedVariables false
set_option linter.unusedSimpArgs false
set_option maxRecDepth 100000
set_option maxHeartbeats 4000000
structure PL where
  v : Int
  ix : List KE
mutual
inductive PR where
  | mk (kind c v item : Int) (to : List PL) (e : List KE) (gs : List GD) (l : List PR)
inductive GD where
  | mk (kind : Int) (cond : KE) (c item : Int) (to : PL) (time : KE) (body : List PR)
end
abbrev PR.kind : PR → Int | ⟨k, _, _, _, _, _, _, _⟩ => k
abbrev PR.c : PR → Int | ⟨_, c, _, _, _, _, _, _⟩ => c
abbrev PR.v : PR → Int | ⟨_, _, v, _, _, _, _, _⟩ => v
abbrev PR.item : PR → Int | ⟨_, _, _, i, _, _, _, _⟩ => i
abbrev PR.to : PR → List PL | ⟨_, _, _, _, t, _, _, _⟩ => t
abbrev PR.e : PR → List KE | ⟨_, _, _, _, _, e, _, _⟩ => e
abbrev PR.gs : PR → List GD | ⟨_, _, _, _, _, _, g, _⟩ => g
abbrev PR.l : PR → List PR | ⟨_, _, _, _, _, _, _, l⟩ => l
abbrev GD.kind : GD → Int | ⟨k, _, _, _, _, _, _⟩ => k
abbrev GD.cond : GD → KE | ⟨_, e, _, _, _, _, _⟩ => e
abbrev GD.c : GD → Int | ⟨_, _, c, _, _, _, _⟩ => c
abbrev GD.item : GD → Int | ⟨_, _, _, i, _, _, _⟩ => i
abbrev GD.to : GD → PL | ⟨_, _, _, _, t, _, _⟩ => t
abbrev GD.time : GD → KE | ⟨_, _, _, _, _, t, _⟩ => t
abbrev GD.body : GD → List PR | ⟨_, _, _, _, _, _, b⟩ => b
abbrev encPl (p : PL) : AV := .ag [AI p.v, .sl 6 (encKl p.ix) none]
abbrev plsA (l : List PL) : AV := .sl 2 (l.map encPl) none
abbrev kesA (l : List KE) : AV := .sl 6 (encKl l) none
mutual
def encR : PR → AV
  | ⟨k, c, v, i, to, e, gs, l⟩ => .ag [AU8 k, AI c, AI v, AU8 i, plsA to, kesA e, .sl 18 (encGl gs) none, .sl 8 (encRl l) none]
def encRl : List PR → List AV
  | [] => []
  | p :: r => encR p :: encRl r
def encG : GD → AV
  | ⟨k, e, c, i, to, t, b⟩ => .ag [AU8 k, AU8 e.kind, AU8 e.oper, AU8 e.to, AI32 e.n, AI e.v, kesA e.l, AI c, AU8 i, AI to.v, kesA to.ix, AU8 t.kind, AU8 t.oper, AU8 t.to, AI32 t.n, AI t.v, kesA t.l, .sl 8 (encRl b) none]
def encGl : List GD → List AV
  | [] => []
  | g :: r => encG g :: encGl r
end
abbrev rsA (l : List PR) : AV := .sl 8 (encRl l) none
abbrev gsA (l : List GD) : AV := .sl 18 (encGl l) none
abbrev cellsR (p : PR) : AV := .ag [AU8 p.kind, AI p.c, AI p.v, AU8 p.item, plsA p.to, kesA p.e, gsA p.gs, rsA p.l]
abbrev cellsG (g : GD) : AV := .ag [AU8 g.kind, AU8 g.cond.kind, AU8 g.cond.oper, AU8 g.cond.to, AI32 g.cond.n, AI g.cond.v, kesA g.cond.l, AI g.c, AU8 g.item, AI g.to.v, kesA g.to.ix, AU8 g.time.kind, AU8 g.time.oper, AU8 g.time.to, AI32 g.time.n, AI g.time.v, kesA g.time.l, rsA g.body]
theorem encR_eq (p : PR) : encR p = cellsR p := by obtain ⟨k, c, v, i, to, e, gs, l⟩ := p; rw [encR]
theorem encG_eq (g : GD) : encG g = cellsG g := by obtain ⟨k, e, c, i, to, t, b⟩ := g; rw [encG]
theorem encRl_map (l : List PR) : encRl l = l.map encR := by
  induction l with
  | nil => rw [encRl]; rfl
  | cons x r ih => rw [encRl, ih]; rfl
theorem encGl_map (l : List GD) : encGl l = l.map encG := by
  induction l with
  | nil => rw [encGl]; rfl
  | cons x r ih => rw [encGl, ih]; rfl
theorem encRl_len (l : List PR) : (encRl l).length = l.length := by rw [encRl_map, List.length_map]
theorem encGl_len (l : List GD) : (encGl l).length = l.length := by rw [encGl_map, List.length_map]
theorem encRl_at {l : List PR} {i : Nat} {x : PR} (h : l[i]? = some x) : (encRl l)[i]? = some (encR x) := by rw [encRl_map]; exact map_at h
theorem encGl_at {l : List GD} {i : Nat} {x : GD} (h : l[i]? = some x) : (encGl l)[i]? = some (encG x) := by rw [encGl_map]; exact map_at h
def wfPl (p : PL) : Prop := wfKl p.ix
mutual
/-- its expressions' numbers are such of their kinds; its lists are not longer than memory bears -/
def wfR : PR → Prop
  | ⟨k, c, v, i, to, e, gs, l⟩ => ((∀ t, t ∈ to → wfPl t) ∧ wfKl e ∧ to.length ≤ 281474976710656 ∧ gs.length ≤ 281474976710656 ∧ l.length ≤ 281474976710656) ∧ wfGl gs ∧ wfRl l
def wfRl : List PR → Prop
  | [] => True
  | p :: r => wfR p ∧ wfRl r
def wfG : GD → Prop
  | ⟨k, e, c, i, to, t, b⟩ => (wfK e ∧ wfK t ∧ wfPl to) ∧ wfRl b
def wfGl : List GD → Prop
  | [] => True
  | g :: r => wfG g ∧ wfGl r
end
theorem wfRl_mem : ∀ {l : List PR}, wfRl l → ∀ x, x ∈ l → wfR x
  | [], _, x, h => by cases h
  | y :: r, hw, x, h => by
    rw [wfRl] at hw
    rcases List.mem_cons.1 h with rfl | h
    · exact hw.1
    · exact wfRl_mem hw.2 x h
theorem wfGl_mem : ∀ {l : List GD}, wfGl l → ∀ x, x ∈ l → wfG x
  | [], _, x, h => by cases h
  | y :: r, hw, x, h => by
    rw [wfGl] at hw
    rcases List.mem_cons.1 h with rfl | h
    · exact hw.1
    · exact wfGl_mem hw.2 x h
structure WfR (p : PR) : Prop where
  to : ∀ t, t ∈ p.to → wfPl t
  e : ∀ x, x ∈ p.e → wfK x
  tol : p.to.length ≤ 281474976710656
  gl : p.gs.length ≤ 281474976710656
  ll : p.l.length ≤ 281474976710656
  g : ∀ g, g ∈ p.gs → wfG g
  l : ∀ x, x ∈ p.l → wfR x
theorem wfR_all {p : PR} (h : wfR p) : WfR p := by
  obtain ⟨k, c, v, i, to, e, gs, l⟩ := p
  rw [wfR] at h
  exact ⟨h.1.1, wfKl_mem h.1.2.1, h.1.2.2.1, h.1.2.2.2.1, h.1.2.2.2.2, wfGl_mem h.2.1, wfRl_mem h.2.2⟩
structure WfG (g : GD) : Prop where
  cond : wfK g.cond
  time : wfK g.time
  to : wfPl g.to
  body : ∀ x, x ∈ g.body → wfR x
theorem wfG_all {g : GD} (h : wfG g) : WfG g := by
  obtain ⟨k, e, c, i, to, t, b⟩ := g
  rw [wfG] at h
  exact ⟨h.1.1, h.1.2.1, h.1.2.2, wfRl_mem h.2⟩
/-! ### what may be said of one by itself -/
def fitV (l : List KV) (e : KE) (k : Int) : Bool := decide (valid e) && fitsM l e k
def fit1 (l : List KV) (es : List KE) (k : Int) : Bool := match es with
  | e :: _ => fitV l e k
  | [] => false
def placeB (l : List KV) (p : PL) (k : Int) : Bool := if p.v < 0 ∨ (l.length : Int) ≤ p.v then false else match l[p.v.toNat]? with
  | some x => x.kind == k && (if x.dim = 0 then p.ix.length == 0 else p.ix.length == 1 && fit1 l p.ix 1)
  | none => false
def chanB (n : Nat) (ch item no : Int) : Bool := decide (0 ≤ ch) && decide (ch < n) && (ch != no) && primB item && (decide (1 < ch) || item == 1)
def inputB (l : List KV) (n : Nat) (ch item : Int) (to : PL) : Bool := chanB n ch item 1 && placeB l to item
def zeroE (e : KE) : Bool := e.kind == 0 && e.oper == 0 && e.to == 0 && e.n == 0 && e.v == 0 && decide (e.l.length ≤ 0)
def plainGB (g : GD) (input timed : Bool) : Bool := (input || (g.c == 0 && g.item == 0 && g.to.v == 0 && g.to.ix.length == 0)) && (timed || zeroE g.time)
def guardB (l : List KV) (n : Nat) (g : GD) (choice : Bool) : Bool := (g.body.length == 1) && fitV l g.cond 3 && ((g.kind == 1) == choice) &&
  (if g.kind = 1 ∨ g.kind = 2 then plainGB g false false else if g.kind = 3 then plainGB g true false && inputB l n g.c g.item g.to
   else if g.kind = 4 then plainGB g false true && fitV l g.time 1 else false)
def inB (n : Nat) (a b : Int) : Bool := decide (a ≤ (n : Int)) && decide ((n : Int) ≤ b)
def shapeR (p : PR) (ch v : Bool) (t1 t2 e1 e2 g1 g2 l1 l2 : Int) : Bool := (ch || (p.c == 0 && p.item == 0)) && (v || p.v == 0) && inB p.to.length t1 t2 && inB p.e.length e1 e2 && inB p.gs.length g1 g2 && inB p.l.length l1 l2
def assignB (l : List KV) (t : PL) (e : KE) : Bool := if t.v < 0 ∨ (l.length : Int) ≤ t.v then false else match l[t.v.toNat]? with
  | some x => placeB l t x.kind && fitV l e x.kind
  | none => false
def to1 (f : PL → Bool) (ts : List PL) : Bool := match ts with
  | t :: _ => f t
  | [] => false
def kindB (l : List KV) (n : Nat) (p : PR) : Bool :=
  if p.kind = 1 ∨ p.kind = 2 then shapeR p false false 0 0 0 0 0 0 0 0
  else if p.kind = 3 then shapeR p false true 0 0 0 0 0 0 0 0 && decide (0 ≤ p.v) && decide (p.v < l.length)
  else if p.kind = 4 then shapeR p false false 1 8 1 8 0 0 0 0 && (p.to.length == p.e.length) && (p.to.zip p.e).all fun te => assignB l te.1 te.2
  else if p.kind = 5 then shapeR p true false 1 1 0 0 0 0 0 0 && to1 (inputB l n p.c p.item) p.to
  else if p.kind = 6 then shapeR p true false 0 0 1 1 0 0 0 0 && chanB n p.c p.item 0 && fit1 l p.e p.item
  else if p.kind = 7 then shapeR p false false 1 1 0 0 0 0 0 0 && to1 (fun t => placeB l t 1) p.to
  else if p.kind = 8 then shapeR p false false 0 0 1 1 0 0 0 0 && fit1 l p.e 1
  else if p.kind = 9 then shapeR p false false 0 0 0 0 0 0 0 2048
  else if p.kind = 10 then shapeR p false false 0 0 0 0 0 0 0 16
  else if p.kind = 11 then shapeR p false false 0 0 0 0 0 0 2 2
  else if p.kind = 12 ∨ p.kind = 14 ∨ p.kind = 15 then shapeR p false false 0 0 0 0 0 16 0 0 && p.gs.all fun g => guardB l n g (p.kind == 12)
  else if p.kind = 13 then shapeR p false false 0 0 1 1 0 0 1 1 && fit1 l p.e 3
  else false
end Go.Proofs.YtgmeahcclogfmaaDoor
/-!
  Layer 16: shapes, places, channels, guards, by the program.
-/
namespace Go.Proofs.YtgmeahcclogfmaaDoor
open Go Go.Tp
set_option linter.unusedVariables false
set_option linter.unusedSimpArgs false
set_option maxRecDepth 100000
set_option maxHeartbeats 4000000
abbrev twoA (a b : Int) : AV := .ag [AI a, AI b]
theorem shape1_p (n : Nat) (a b : Int) : Pure Tryd.prog gs0 63 [AI (n : Int), twoA a b] (AB (inB n a b)) := by
  refine Pure.of (S := tt) (fn := Tryd.f63) (n := 15) tt_ok Tryd.func63 rfl rfl rfl rfl fun w0 h0 F hgs => ?_
  (repeat first|refine A.s rfl ?_|refine A.b rfl fun bx=>?_)
  refine A.indexArr rfl rfl rfl rfl rfl rfl rfl rfl (by decide) (by decide) ?_
  (repeat first|refine A.s rfl ?_|refine A.r rfl rfl ?_)
  ((fail_if_success (refine A.lit? rfl ?_)); refine A.gS rfl (fun hc => ?_) (fun hc => ?_))
  · (repeat refine A.s rfl ?_)
    refine A.indexArr rfl rfl rfl rfl rfl rfl rfl rfl (by decide) (by decide) ?_
    (repeat first|refine A.s rfl ?_|refine A.r rfl rfl ?_); refine A.ret1 (Λ' := []) rfl rfl rfl (List.nil_sublist _) ⟨?_, rfl⟩; refine Sb.eq (ab_eq ?_); rw [inB, hc]; rfl
  · (repeat refine A.s rfl ?_); refine A.ret1 (Λ' := []) rfl rfl rfl (List.nil_sublist _) ⟨?_, rfl⟩; refine Sb.eq (ab_eq ?_); rw [inB, hc]; rfl
theorem shape_p (p : PR) (ch v : Bool) (t1 t2 e1 e2 g1 g2 l1 l2 : Int) : Pure Tryd.prog gs0 52 [cellsR p, AB ch, AB v, twoA t1 t2, twoA e1 e2, twoA g1 g2, twoA l1 l2] (AB (shapeR p ch v t1 t2 e1 e2 g1 g2 l1 l2)) := by
  have s1 := shape1_p p.to.length t1 t2
  have s2 := shape1_p p.e.length e1 e2
  have s3 := shape1_p p.gs.length g1 g2
  have s4 := shape1_p p.l.length l1 l2
  have n1 : ((p.to.map encPl).length : Int) = p.to.length := by rw [List.length_map]
  have n2 : ((encKl p.e).length : Int) = p.e.length := by rw [encKl_len]
  have n3 : ((encGl p.gs).length : Int) = p.gs.length := by rw [encGl_len]
  have n4 : ((encRl p.l).length : Int) = p.l.length := by rw [encRl_len]
  rw [← n1] at s1
  rw [← n2] at s2
  rw [← n3] at s3
  rw [← n4] at s4
  unfold shapeR
  generalize inB p.to.length t1 t2 = b1 at s1 ⊢
  generalize inB p.e.length e1 e2 = b2 at s2 ⊢
  generalize inB p.gs.length g1 g2 = b3 at s3 ⊢
  generalize inB p.l.length l1 l2 = b4 at s4 ⊢
  cases ch <;> cases v
  all_goals refine Pure.of (S := tt) (fn := Tryd.f52) (n := 67) tt_ok Tryd.func52 rfl rfl rfl rfl fun w0 h0 F hgs => ?_
  all_goals (repeat' first|first|refine A.s rfl ?_|refine A.r rfl rfl ?_|refine A.w rfl rfl ?_|refine A.p rfl ?_|refine A.b rfl fun bx=>?_|refine A.t rfl fun bl=>?_|refine A.c rfl s1 .refl ?_|refine A.c rfl s2 .refl ?_|refine A.c rfl s3 .refl ?_|refine A.c rfl s4 .refl ?_|((fail_if_success (refine A.lit? rfl ?_)); refine A.gS rfl (fun hc => ?_) (fun hc => ?_))|((fail_if_success (refine A.litP? rfl ?_)); refine A.gSP rfl (fun hc => ?_) (fun hc => ?_)))
  (all_goals (refine A.ret1 (Λ' := []) rfl rfl rfl (List.nil_sublist _) ⟨?_, rfl⟩; refine Sb.eq (ab_eq ?_)))
  all_goals simp_all
theorem chan_p (l : List KV) (ch : List Int) (x : Nat → AV) (lf : Int) (c item no : Int) : Pure Tryd.prog gs0 56 [ckP l ch x lf, AI c, AU8 item, AI no] (AB (chanB ch.length c item no)) := by
  have hp := kprim_p item
  have hn : ((ch.map AU8).length : Int) = ch.length := by rw [List.length_map]
  unfold chanB
  generalize primB item = b at hp ⊢
  refine Pure.of (S := tt) (fn := Tryd.f56) (n := 38) tt_ok Tryd.func56 rfl rfl rfl rfl fun w0 h0 F hgs => ?_
  (repeat' first|first|refine A.s rfl ?_|refine A.r rfl rfl ?_|refine A.w rfl rfl ?_|refine A.p rfl ?_|refine A.b rfl fun bx=>?_|refine A.t rfl fun bl=>?_|refine A.c rfl hp .refl ?_|((fail_if_success (refine A.lit? rfl ?_)); refine A.gS rfl (fun hc => ?_) (fun hc => ?_))|((fail_if_success (refine A.litP? rfl ?_)); refine A.gSP rfl (fun hc => ?_) (fun hc => ?_)))
  (all_goals (refine A.ret1 (Λ' := []) rfl rfl rfl (List.nil_sublist _) ⟨?_, rfl⟩; refine Sb.eq (ab_eq ?_)))
  all_goals (rw [Bool.eq_iff_iff]; simp_all)
  all_goals (try intros)
  all_goals omega
theorem place_p (l : List KV) (ch : List Int) (x : Nat → AV) (lf : Int) (hl : l.length ≤ 281474976710656) (hv : VarsOk l) (p : PL) (hw : wfPl p) (k : Int) : Pure Tryd.prog gs0 53 [ckP l ch x lf, encPl p, AU8 k] (AB (placeB l p k)) := by
  have hlen : ((l.map encV).length : Int) = l.length := by rw [List.length_map]
  have hxl : ((encKl p.ix).length : Int) = p.ix.length := by rw [encKl_len]
  by_cases hneg : p.v < 0
  · refine Pure.of (S := tt) (fn := Tryd.f53) (n := 62) tt_ok Tryd.func53 rfl rfl rfl rfl fun w0 h0 F hgs => ?_
    (repeat first|refine A.s rfl ?_|refine A.b rfl fun bx=>?_)
    refine A.draw 26 [0, 1, 2, 3, 4, 5, 6, 7, 8, 9, 10, 11, 12, 13, 14, 15, 16, 17, 18, 19, 20, 21, 22, 23, 24, 25] noPubs [] (by kernel_rfl) (by kernel_rfl) ?_
    (repeat first|refine WA.s rfl ?_|refine WA.r rfl rfl ?_)
    refine WA.valE 10 rfl (x' := AB true) (ab_eq (by simpa using hneg)) ?_
    (repeat refine WA.s rfl ?_)
    refine WA.nil (l := []) rfl ?_
    (repeat refine A.s rfl ?_); refine A.ret1 (Λ' := []) rfl rfl rfl (List.nil_sublist _) ⟨?_, rfl⟩; refine Sb.eq (ab_eq ?_); rw [placeB, if_pos (.inl hneg)]
  by_cases h1 : (l.length : Int) ≤ p.v
  · refine Pure.of (S := tt) (fn := Tryd.f53) (n := 62) tt_ok Tryd.func53 rfl rfl rfl rfl fun w0 h0 F hgs => ?_
    (repeat first|refine A.s rfl ?_|refine A.b rfl fun bx=>?_)
    refine A.draw 26 [0, 1, 2, 3, 4, 5, 6, 7, 8, 9, 10, 11, 12, 13, 14, 15, 16, 17, 18, 19, 20, 21, 22, 23, 24, 25] noPubs [] (by kernel_rfl) (by kernel_rfl) ?_
    (repeat first|refine WA.s rfl ?_|refine WA.r rfl rfl ?_)
    refine WA.valE 10 rfl (x' := AB false) (ab_eq (by simp; omega)) ?_
    (repeat first|refine WA.s rfl ?_|refine WA.r rfl rfl ?_)
    refine WA.valE 21 rfl (x' := AB true) (ab_eq (by rw [hlen]; simpa using h1)) ?_
    (repeat refine WA.s rfl ?_)
    refine WA.nil (l := []) rfl ?_
    (repeat refine A.s rfl ?_); refine A.ret1 (Λ' := []) rfl rfl rfl (List.nil_sublist _) ⟨?_, rfl⟩; refine Sb.eq (ab_eq ?_); rw [placeB, if_pos (.inr h1)]
  refine Exists.elim (at_ex (l := l) (i := p.v) (by omega) (by omega)) fun y hy => ?_
  have hyk := hv y (List.mem_of_getElem? hy)
  have hpb : placeB l p k = (y.kind == k && (if y.dim = 0 then p.ix.length == 0 else p.ix.length == 1 && fit1 l p.ix 1)) := by rw [placeB, if_neg (by omega), hy]
  rw [hpb]
  clear hpb
  have hv0 : (0 : Int) ≤ p.v := by omega
  by_cases hk : y.kind = k
  case neg =>
    refine Pure.of (S := tt) (fn := Tryd.f53) (n := 62) tt_ok Tryd.func53 rfl rfl rfl rfl fun w0 h0 F hgs => ?_
    (repeat first|refine A.s rfl ?_|refine A.b rfl fun bx=>?_)
    refine A.draw 26 [0, 1, 2, 3, 4, 5, 6, 7, 8, 9, 10, 11, 12, 13, 14, 15, 16, 17, 18, 19, 20, 21, 22, 23, 24, 25] noPubs [] (by kernel_rfl) (by kernel_rfl) ?_
    (repeat first|refine WA.s rfl ?_|refine WA.r rfl rfl ?_)
    refine WA.valE 10 rfl (x' := AB false) (ab_eq (by simp; omega)) ?_
    (repeat first|refine WA.s rfl ?_|refine WA.r rfl rfl ?_)
    refine WA.valE 21 rfl (x' := AB false) (ab_eq (by rw [hlen]; simp; omega)) ?_
    (repeat first|refine WA.s rfl ?_|refine WA.r rfl rfl ?_)
    refine WA.x rfl hv0 (map_at hy) rfl rfl ?_
    (repeat refine WA.s rfl ?_)
    refine WA.nil (l := []) rfl ?_
    (repeat refine A.s rfl ?_)
    refine A.valE 34 rfl (x' := AB true) (ab_eq (by simpa using hk)) ?_
    (repeat refine A.s rfl ?_); refine A.ret1 (Λ' := []) rfl rfl rfl (List.nil_sublist _) ⟨?_, rfl⟩; refine Sb.eq (ab_eq ?_); simp [hk]
  subst hk
  by_cases hd : y.dim = 0
  · refine Pure.of (S := tt) (fn := Tryd.f53) (n := 62) tt_ok Tryd.func53 rfl rfl rfl rfl fun w0 h0 F hgs => ?_
    (repeat first|refine A.s rfl ?_|refine A.b rfl fun bx=>?_)
    refine A.draw 26 [0, 1, 2, 3, 4, 5, 6, 7, 8, 9, 10, 11, 12, 13, 14, 15, 16, 17, 18, 19, 20, 21, 22, 23, 24, 25] noPubs [] (by kernel_rfl) (by kernel_rfl) ?_
    (repeat first|refine WA.s rfl ?_|refine WA.r rfl rfl ?_)
    refine WA.valE 10 rfl (x' := AB false) (ab_eq (by simp; omega)) ?_
    (repeat first|refine WA.s rfl ?_|refine WA.r rfl rfl ?_)
    refine WA.valE 21 rfl (x' := AB false) (ab_eq (by rw [hlen]; simp; omega)) ?_
    (repeat first|refine WA.s rfl ?_|refine WA.r rfl rfl ?_)
    refine WA.x rfl hv0 (map_at hy) rfl rfl ?_
    (repeat refine WA.s rfl ?_)
    refine WA.nil (l := []) rfl ?_
    (repeat refine A.s rfl ?_)
    refine A.valE 34 rfl (x' := AB false) (ab_eq (by simp)) ?_
    (repeat refine A.s rfl ?_)
    refine A.draw 7 [0, 1, 2, 3, 4, 5, 6] noPubs [] (by kernel_rfl) (by kernel_rfl) ?_
    (repeat first|refine WA.s rfl ?_|refine WA.r rfl rfl ?_)
    refine WA.nil (l := []) rfl ?_
    skip
    refine A.x rfl hv0 (map_at hy) rfl rfl ?_
    (repeat refine A.s rfl ?_)
    refine A.valE 45 rfl (x' := AB true) (ab_eq (by simpa using hd)) ?_
    (repeat first|refine A.s rfl ?_|refine A.r rfl rfl ?_); refine A.ret1 (Λ' := []) rfl rfl rfl (List.nil_sublist _) ⟨?_, rfl⟩; refine Sb.eq (ab_eq ?_); rw [hxl, if_pos hd, Bool.eq_iff_iff]; simp
  · have hfin : ∀ e, p.ix = [e] → Pure Tryd.prog gs0 54 [ckP l ch x lf, encK e, AU8 1] (AB (fit1 l p.ix 1)) := fun e he => by
      have := kfits_p l ch x lf hl hv e (wfKl_mem hw e (by rw [he]; exact List.mem_cons_self ..)) 1 (by decide)
      rw [he]; exact this
    by_cases hx1 : p.ix.length = 1
    · obtain ⟨e, he⟩ : ∃ e, p.ix = [e] := by
        match h : p.ix, hx1 with
        | [e], _ => exact ⟨e, rfl⟩
      have hf := hfin e he
      rw [encK_eq] at hf
      generalize hfb : fit1 l p.ix 1 = fb at hf ⊢
      refine Pure.of (S := tt) (fn := Tryd.f53) (n := 62) tt_ok Tryd.func53 rfl rfl rfl rfl fun w0 h0 F hgs => ?_
      (repeat first|refine A.s rfl ?_|refine A.b rfl fun bx=>?_)
      refine A.draw 26 [0, 1, 2, 3, 4, 5, 6, 7, 8, 9, 10, 11, 12, 13, 14, 15, 16, 17, 18, 19, 20, 21, 22, 23, 24, 25] noPubs [] (by kernel_rfl) (by kernel_rfl) ?_
      (repeat first|refine WA.s rfl ?_|refine WA.r rfl rfl ?_)
      refine WA.valE 10 rfl (x' := AB false) (ab_eq (by simp; omega)) ?_
      (repeat first|refine WA.s rfl ?_|refine WA.r rfl rfl ?_)
      refine WA.valE 21 rfl (x' := AB false) (ab_eq (by rw [hlen]; simp; omega)) ?_
      (repeat first|refine WA.s rfl ?_|refine WA.r rfl rfl ?_)
      refine WA.x rfl hv0 (map_at hy) rfl rfl ?_
      (repeat refine WA.s rfl ?_)
      refine WA.nil (l := []) rfl ?_
      (repeat refine A.s rfl ?_)
      refine A.valE 34 rfl (x' := AB false) (ab_eq (by simp)) ?_
      (repeat refine A.s rfl ?_)
      refine A.draw 7 [0, 1, 2, 3, 4, 5, 6] noPubs [] (by kernel_rfl) (by kernel_rfl) ?_
      (repeat first|refine WA.s rfl ?_|refine WA.r rfl rfl ?_)
      refine WA.nil (l := []) rfl ?_
      skip
      refine A.x rfl hv0 (map_at hy) rfl rfl ?_
      (repeat refine A.s rfl ?_)
      refine A.valE 45 rfl (x' := AB false) (ab_eq (by simpa using hd)) ?_
      (repeat first|refine A.s rfl ?_|refine A.r rfl rfl ?_)
      refine A.valE 54 rfl (x' := AB true) (ab_eq (by rw [hxl]; simp [hx1])) ?_
      (repeat first|refine A.s rfl ?_|refine A.r rfl rfl ?_)
      refine A.x rfl (by decide) (show (encKl p.ix)[(0 : Int).toNat]? = some (encK e) from encKl_at (by rw [he]; rfl)) (encK_eq e) rfl ?_
      (repeat refine A.s rfl ?_)
      refine A.c rfl hf .refl ?_
      (repeat refine A.s rfl ?_); refine A.ret1 (Λ' := []) rfl rfl rfl (List.nil_sublist _) ⟨?_, rfl⟩; refine Sb.eq (ab_eq ?_); rw [if_neg hd, hx1]; simp
    · refine Pure.of (S := tt) (fn := Tryd.f53) (n := 62) tt_ok Tryd.func53 rfl rfl rfl rfl fun w0 h0 F hgs => ?_
      (repeat first|refine A.s rfl ?_|refine A.b rfl fun bx=>?_)
      refine A.draw 26 [0, 1, 2, 3, 4, 5, 6, 7, 8, 9, 10, 11, 12, 13, 14, 15, 16, 17, 18, 19, 20, 21, 22, 23, 24, 25] noPubs [] (by kernel_rfl) (by kernel_rfl) ?_
      (repeat first|refine WA.s rfl ?_|refine WA.r rfl rfl ?_)
      refine WA.valE 10 rfl (x' := AB false) (ab_eq (by simp; omega)) ?_
      (repeat first|refine WA.s rfl ?_|refine WA.r rfl rfl ?_)
      refine WA.valE 21 rfl (x' := AB false) (ab_eq (by rw [hlen]; simp; omega)) ?_
      (repeat first|refine WA.s rfl ?_|refine WA.r rfl rfl ?_)
      refine WA.x rfl hv0 (map_at hy) rfl rfl ?_
      (repeat refine WA.s rfl ?_)
      refine WA.nil (l := []) rfl ?_
      (repeat refine A.s rfl ?_)
      refine A.valE 34 rfl (x' := AB false) (ab_eq (by simp)) ?_
      (repeat refine A.s rfl ?_)
      refine A.draw 7 [0, 1, 2, 3, 4, 5, 6] noPubs [] (by kernel_rfl) (by kernel_rfl) ?_
      (repeat first|refine WA.s rfl ?_|refine WA.r rfl rfl ?_)
      refine WA.nil (l := []) rfl ?_
      skip
      refine A.x rfl hv0 (map_at hy) rfl rfl ?_
      (repeat refine A.s rfl ?_)
      refine A.valE 45 rfl (x' := AB false) (ab_eq (by simpa using hd)) ?_
      (repeat first|refine A.s rfl ?_|refine A.r rfl rfl ?_)
      refine A.valE 54 rfl (x' := AB false) (ab_eq (by rw [hxl]; simp; omega)) ?_
      (repeat refine A.s rfl ?_); refine A.ret1 (Λ' := []) rfl rfl rfl (List.nil_sublist _) ⟨?_, rfl⟩; refine Sb.eq (ab_eq ?_); rw [if_neg hd]; simp [hx1]
theorem input_p (l : List KV) (ch : List Int) (x : Nat → AV) (lf : Int) (hl : l.length ≤ 281474976710656) (hv : VarsOk l) (c item : Int) (to : PL) (hw : wfPl to) : Pure Tryd.prog gs0 55 [ckP l ch x lf, AI c, AU8 item, encPl to] (AB (inputB l ch.length c item to)) := by
  have hc := chan_p l ch x lf c item 1
  have hp := place_p l ch x lf hl hv to hw item
  unfold inputB
  generalize chanB ch.length c item 1 = b1 at hc ⊢
  generalize placeB l to item = b2 at hp ⊢
  cases b1
  all_goals refine Pure.of (S := tt) (fn := Tryd.f55) (n := 19) tt_ok Tryd.func55 rfl rfl rfl rfl fun w0 h0 F hgs => ?_
  all_goals (repeat' first|first|refine A.s rfl ?_|refine A.r rfl rfl ?_|refine A.w rfl rfl ?_|refine A.p rfl ?_|refine A.b rfl fun bx=>?_|refine A.t rfl fun bl=>?_|refine A.c rfl hc .refl ?_|refine A.c rfl hp .refl ?_)
  (all_goals (refine A.ret1 (Λ' := []) rfl rfl rfl (List.nil_sublist _) ⟨?_, rfl⟩; refine Sb.eq (ab_eq ?_)))
  all_goals simp_all
theorem plain16_p (g : GD) (input timed : Bool) : Pure Tryd.prog gs0 68 [cellsG g, AB input, AB timed] (AB (plainGB g input timed)) := by
  have n1 : ((encKl g.time.l).length : Int) = g.time.l.length := by rw [encKl_len]
  have n2 : ((encKl g.to.ix).length : Int) = g.to.ix.length := by rw [encKl_len]
  have hn : decide (g.time.l.length ≤ 0) = !decide (0 < ((encKl g.time.l).length : Int)) := by rw [n1, Bool.eq_iff_iff]; simp
  have hm : (g.to.ix.length == 0) = (((encKl g.to.ix).length : Int) == 0) := by rw [n2, Bool.eq_iff_iff]; simp
  unfold plainGB zeroE
  rw [hn, hm]
  cases input <;> cases timed
  all_goals refine Pure.of (S := tt) (fn := Tryd.f68) (n := 71) tt_ok Tryd.func68 rfl rfl rfl rfl fun w0 h0 F hgs => ?_
  all_goals (repeat' first|first|refine A.s rfl ?_|refine A.r rfl rfl ?_|refine A.w rfl rfl ?_|refine A.p rfl ?_|refine A.b rfl fun bx=>?_|refine A.t rfl fun bl=>?_|((fail_if_success (refine A.lit? rfl ?_)); refine A.gS rfl (fun hc => ?_) (fun hc => ?_))|((fail_if_success (refine A.litP? rfl ?_)); refine A.gSP rfl (fun hc => ?_) (fun hc => ?_)))
  (all_goals (refine A.ret1 (Λ' := []) rfl rfl rfl (List.nil_sublist _) ⟨?_, rfl⟩; refine Sb.eq (ab_eq ?_)))
  all_goals simp_all
end Go.Proofs.YtgmeahcclogfmaaDoor
/-!
  Layer 16: guards and the checks of the kinds, by the program.
-/
namespace Go.Proofs.YtgmeahcclogfmaaDoor
open Go Go.Tp
set_option linter.unusedVariables false
set_option linter.unusedSimpArgs false
set_option maxRecDepth 100000
set_option maxHeartbeats 4000000
theorem idxG_p (f : FuncId) (c : List AV) (p : GD → Bool) (l : List GD) (hcb : ∀ g, g ∈ l → Pure Tryd.prog gs0 f (cellsG g :: c) (AB (p g))) (hb : l.length ≤ 281474976710656) :
    Pure Tryd.prog gs0 67 [gsA l, .fn f [] c] (AI (idxF p l 0)) := by
  refine Pure.of (S := tt) (fn := Tryd.f67) (n := 19) tt_ok Tryd.func67 rfl rfl rfl rfl fun w0 h0 F hgs => ?_
  (repeat refine A.s rfl ?_)
  refine A.valE 7 rfl (x' := AI (l.length : Nat)) (ai_eq (by rw [encGl_len])) ?_
  refine A.keep [0, 1, 7, 8] rfl ?_
  refine A.loopP (ι := Nat) (fun i => (⟨[(0, gsA l), (1, .fn f [] c), (7, AI (l.length : Nat)), (8, AI (i : Int))], []⟩, [])) (fun i => i ≤ l.length ∧ idxF p l 0 = idxF p (l.drop i) i) (fun i => l.length - i) 0 ⟨by omega, rfl⟩ rfl fun i hi ih => ?_
  (repeat refine A.s rfl ?_)
  refine A.cond rfl (fun hc => ?_) (fun hc => ?_)
  · simp at hc
    refine Exists.elim (at_exN (l := l) (i := i) hc) fun x hx => ?_
    have hx1 := hcb x (List.mem_of_getElem? hx)
    (repeat refine A.s rfl ?_)
    refine A.x rfl (by omega) (encGl_at hx) (encG_eq x) rfl ?_
    (repeat refine A.s rfl ?_)
    refine A.c rfl hx1 SbL.refl ?_
    have h1 := hi.2
    rw [drop_at hx, idxF] at h1
    cases hp : p x with
    | true =>
      rw [hp] at h1
      (repeat refine A.s rfl ?_); refine A.ret1 (Λ' := []) rfl rfl rfl (List.nil_sublist _) ⟨?_, rfl⟩; rw [h1]; exact .refl
    | false =>
      rw [hp] at h1
      (repeat refine A.s rfl ?_)
      refine A.valE 8 rfl (x' := AI ((i + 1 : Nat) : Int)) (inc_eq i (by omega)) ?_
      refine A.sub (by repeat (first | exact trivial | refine ⟨⟨_, rfl, .refl⟩, ?_⟩)) (ih (i + 1) ⟨by omega, h1⟩ (by omega))
  · simp at hc
    have : i = l.length := by omega
    subst this
    (repeat refine A.s rfl ?_); refine A.ret1 (Λ' := []) rfl rfl rfl (List.nil_sublist _) ⟨?_, rfl⟩; rw [hi.2, List.drop_length]; exact .refl
theorem hasG_p (f : FuncId) (c : List AV) (p : GD → Bool) (l : List GD) (hcb : ∀ g, g ∈ l → Pure Tryd.prog gs0 f (cellsG g :: c) (AB (p g))) (hb : l.length ≤ 281474976710656) :
    Pure Tryd.prog gs0 57 [gsA l, .fn f [] c] (AB (l.any p)) := by
  refine Pure.of (S := tt) (fn := Tryd.f57) (n := 9) tt_ok Tryd.func57 rfl rfl rfl rfl fun w0 h0 F hgs => ?_
  (repeat refine A.s rfl ?_)
  refine A.c rfl (idxG_p f c p l hcb hb) .refl ?_
  (repeat refine A.s rfl ?_); refine A.ret1 (Λ' := []) rfl rfl rfl (List.nil_sublist _) ⟨?_, rfl⟩; refine Sb.eq (ab_eq ?_); exact idxF_any p l 0
theorem kfit_p (l : List KV) (ch : List Int) (x : Nat → AV) (lf : Int) (hl : l.length ≤ 281474976710656) (hv : VarsOk l) (e : KE) (hw : wfK e) (kind : Int) (hk : 1 ≤ kind ∧ kind ≤ 3) : Pure Tryd.prog gs0 54 [ckP l ch x lf, cellsK e, AU8 kind] (AB (fitV l e kind)) := by
  have := kfits_p l ch x lf hl hv e hw kind hk
  rw [encK_eq] at this
  exact this
theorem guard_p (l : List KV) (ch : List Int) (x : Nat → AV) (lf : Int) (hl : l.length ≤ 281474976710656) (hv : VarsOk l) (g : GD) (hw : WfG g) (choice : Bool) : Pure Tryd.prog gs0 59 [ckP l ch x lf, cellsG g, AB choice] (AB (guardB l ch.length g choice)) := by
  have hfc := kfit_p l ch x lf hl hv g.cond hw.cond 3 (by decide)
  have hft := kfit_p l ch x lf hl hv g.time hw.time 1 (by decide)
  have hin := input_p l ch x lf hl hv g.c g.item g.to hw.to
  have p1 := plain16_p g false false
  have p2 := plain16_p g true false
  have p3 := plain16_p g false true
  have hbl : (g.body.length == 1) = !(((encRl g.body).length : Int) != 1) := by rw [encRl_len, Bool.eq_iff_iff]; simp; omega
  unfold guardB
  rw [hbl]
  generalize fitV l g.cond 3 = b1 at hfc ⊢
  generalize fitV l g.time 1 = b2 at hft ⊢
  generalize inputB l ch.length g.c g.item g.to = b3 at hin ⊢
  generalize plainGB g false false = q1 at p1 ⊢
  generalize plainGB g true false = q2 at p2 ⊢
  generalize plainGB g false true = q3 at p3 ⊢
  clear hw hl hv
  obtain ⟨k, e, c, i, to, t, b⟩ := g
  by_cases k1 : k = 1
  · subst k1
    clear hft hin p2 p3
    simp only [true_or, if_true]
    cases choice
    all_goals refine Pure.of (S := tt) (fn := Tryd.f59) (n := 56) tt_ok Tryd.func59 rfl rfl rfl rfl fun w0 h0 F hgs => ?_
    all_goals (repeat' first|first|refine A.s rfl ?_|refine A.r rfl rfl ?_|refine A.w rfl rfl ?_|refine A.p rfl ?_|refine A.b rfl fun bx=>?_|refine A.t rfl fun bl=>?_|refine A.c rfl hfc .refl ?_|refine A.c rfl p1 .refl ?_|((fail_if_success (refine A.lit? rfl ?_)); refine A.gS rfl (fun hc => ?_) (fun hc => ?_))|((fail_if_success (refine A.litP? rfl ?_)); refine A.gSP rfl (fun hc => ?_) (fun hc => ?_)))
    (all_goals (refine A.ret1 (Λ' := []) rfl rfl rfl (List.nil_sublist _) ⟨?_, rfl⟩; refine Sb.eq (ab_eq ?_)))
    all_goals simp_all [GD.kind]
  by_cases k2 : k = 2
  · subst k2
    clear hft hin p2 p3
    simp only [or_true, if_true]
    cases choice
    all_goals refine Pure.of (S := tt) (fn := Tryd.f59) (n := 56) tt_ok Tryd.func59 rfl rfl rfl rfl fun w0 h0 F hgs => ?_
    all_goals (repeat' first|first|refine A.s rfl ?_|refine A.r rfl rfl ?_|refine A.w rfl rfl ?_|refine A.p rfl ?_|refine A.b rfl fun bx=>?_|refine A.t rfl fun bl=>?_|refine A.c rfl hfc .refl ?_|refine A.c rfl p1 .refl ?_|((fail_if_success (refine A.lit? rfl ?_)); refine A.gS rfl (fun hc => ?_) (fun hc => ?_))|((fail_if_success (refine A.litP? rfl ?_)); refine A.gSP rfl (fun hc => ?_) (fun hc => ?_)))
    (all_goals (refine A.ret1 (Λ' := []) rfl rfl rfl (List.nil_sublist _) ⟨?_, rfl⟩; refine Sb.eq (ab_eq ?_)))
    all_goals simp_all [GD.kind]
  rw [if_neg (fun h => h.elim k1 k2)]
  by_cases k3 : k = 3
  · subst k3
    clear hft p1 p3
    rw [if_pos rfl]
    cases choice
    all_goals refine Pure.of (S := tt) (fn := Tryd.f59) (n := 56) tt_ok Tryd.func59 rfl rfl rfl rfl fun w0 h0 F hgs => ?_
    all_goals (repeat' first|first|refine A.s rfl ?_|refine A.r rfl rfl ?_|refine A.w rfl rfl ?_|refine A.p rfl ?_|refine A.b rfl fun bx=>?_|refine A.t rfl fun bl=>?_|refine A.c rfl hfc .refl ?_|refine A.c rfl hin .refl ?_|refine A.c rfl p2 .refl ?_|((fail_if_success (refine A.lit? rfl ?_)); refine A.gS rfl (fun hc => ?_) (fun hc => ?_))|((fail_if_success (refine A.litP? rfl ?_)); refine A.gSP rfl (fun hc => ?_) (fun hc => ?_)))
    (all_goals (refine A.ret1 (Λ' := []) rfl rfl rfl (List.nil_sublist _) ⟨?_, rfl⟩; refine Sb.eq (ab_eq ?_)))
    all_goals simp_all [GD.kind]
  rw [if_neg k3]
  by_cases k4 : k = 4
  · subst k4
    clear hin p1 p2
    rw [if_pos rfl]
    cases choice
    all_goals refine Pure.of (S := tt) (fn := Tryd.f59) (n := 56) tt_ok Tryd.func59 rfl rfl rfl rfl fun w0 h0 F hgs => ?_
    all_goals (repeat' first|first|refine A.s rfl ?_|refine A.r rfl rfl ?_|refine A.w rfl rfl ?_|refine A.p rfl ?_|refine A.b rfl fun bx=>?_|refine A.t rfl fun bl=>?_|refine A.c rfl hfc .refl ?_|refine A.c rfl hft .refl ?_|refine A.c rfl p3 .refl ?_|((fail_if_success (refine A.lit? rfl ?_)); refine A.gS rfl (fun hc => ?_) (fun hc => ?_))|((fail_if_success (refine A.litP? rfl ?_)); refine A.gSP rfl (fun hc => ?_) (fun hc => ?_)))
    (all_goals (refine A.ret1 (Λ' := []) rfl rfl rfl (List.nil_sublist _) ⟨?_, rfl⟩; refine Sb.eq (ab_eq ?_)))
    all_goals simp_all [GD.kind]
  rw [if_neg k4, Bool.and_false]
  clear hft hin p1 p2 p3
  refine Pure.of (S := tt) (fn := Tryd.f59) (n := 56) tt_ok Tryd.func59 rfl rfl rfl rfl fun w0 h0 F hgs => ?_
  (repeat' first|first|refine A.s rfl ?_|refine A.r rfl rfl ?_|refine A.w rfl rfl ?_|refine A.p rfl ?_|refine A.b rfl fun bx=>?_|refine A.t rfl fun bl=>?_|refine A.c rfl hfc .refl ?_|refine A.cond rfl (fun h => (by simp [GD.kind] at h; omega)) (fun _ => ?_)|((fail_if_success (refine A.lit? rfl ?_)); refine A.gS rfl (fun hc => ?_) (fun hc => ?_))|((fail_if_success (refine A.litP? rfl ?_)); refine A.gSP rfl (fun hc => ?_) (fun hc => ?_)))
  (all_goals (refine A.ret1 (Λ' := []) rfl rfl rfl (List.nil_sublist _) ⟨?_, rfl⟩; refine Sb.eq (ab_eq ?_)))
  all_goals rfl
end Go.Proofs.YtgmeahcclogfmaaDoor
