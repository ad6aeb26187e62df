/-
  Texts Q0 Q16a Q14a Q14b Q14c Q14d Q14v Q17a Q17e Q17f Q0i Q17g Q17b Q16b Q16c Q16d, in one. Conditions: as each theorem says.
-/
import Derived.Test.YtgmeahcclogfmaaGreatDoorLc
import Derived.Test.YtgmeahcclogfmaaGreatDoorTpT
import Derived.Test.YtgmeahcclogfmaaGreatDoorLb
import Derived.Test.YtgmeahcclogfmaaGreatDoorLf
/-!
  Data: short words, and small facts on numbers.
-/
namespace Go.Proofs.YtgmeahcclogfmaaGreatDoor
open Go Go.Tp
set_option linter.unusedVariables false
set_option linter.unusedSimpArgs false
abbrev gs0 : Ua := []
abbrev AI32 (n : Int) : AV := .v (.int .i32 n)
abbrev AI (n : Int) : AV := .v (.int .i64 n)
abbrev AU8 (n : Int) : AV := .v (.int .u8 n)
abbrev AB (b : Bool) : AV := .v (.bool b)
abbrev optA (x : Option Int) : AV := .tp [AI32 (x.getD 0), AB x.isSome]
theorem Sb.eq {x y : AV} (h : x = y) : Sb x y := by subst h; exact .refl
theorem ai_eq {a b : Int} (h : a = b) : AI a = AI b := by rw [h]
theorem ab_eq {a b : Bool} (h : a = b) : AB a = AB b := by rw [h]
theorem ab_iff {a b : Bool} (h : a = true ↔ b = true) : AB a = AB b := by rw [Bool.eq_iff_iff.2 h]
theorem map_at {α β : Type} {f : α → β} {l : List α} {i : Nat} {x : α} (h : l[i]? = some x) : (l.map f)[i]? = some (f x) := by rw [List.getElem?_map, h]; rfl
theorem at_ex {α : Type} {l : List α} {i : Int} (h0 : 0 ≤ i) (h1 : i < l.length) : ∃ x, l[i.toNat]? = some x := ⟨l[i.toNat]'(by omega), List.getElem?_eq_getElem _⟩
theorem at_exN {α : Type} {l : List α} {i : Nat} (h1 : i < l.length) : ∃ x, l[i]? = some x := ⟨l[i]'h1, List.getElem?_eq_getElem _⟩
theorem at_none {α : Type} {l : List α} {i : Int} (h1 : (l.length : Int) ≤ i) : l[i.toNat]? = none := List.getElem?_eq_none (by omega)
def w32 (n : Int) : Int := IntKind.i32.wrap n
def w64 (n : Int) : Int := IntKind.i64.wrap n
def wu32 (n : Int) : Int := IntKind.u32.wrap n
def wu64 (n : Int) : Int := IntKind.u64.wrap n
theorem wu64_eq (n : Int) : IntKind.u64.wrap n = n % 18446744073709551616 := by
  simp [IntKind.wrap, IntKind.signed, IntKind.bits]
theorem w64_id {n : Int} (h : i64 n) : IntKind.i64.wrap n = n := wr64 n h
theorem inc_eq (i : Nat) (h : i < 4611686018427387904) : AV.v (.int .i64 (IntKind.i64.wrap ((i : Int) + 1))) = AI ((i + 1 : Nat) : Int) := by
  rw [wr64 _ (by omega)]; rfl
end Go.Proofs.YtgmeahcclogfmaaGreatDoor
/-!
  Expressions of a kernel as data: what is valid.
-/
namespace Go.Proofs.YtgmeahcclogfmaaGreatDoor
open Go Go.Tp
set_option linter.unusedVariables false
set_option linter.unusedSimpArgs false
set_option maxRecDepth 100000
set_option maxHeartbeats 4000000
mutual
def encK : KE → AV
  | ⟨k, o, t, n, v, l⟩ => .ag [AU8 k, AU8 o, AU8 t, AI32 n, AI v, .sl 6 (encKl l) none]
def encKl : List KE → List AV
  | [] => []
  | e :: r => encK e :: encKl r
end
theorem encK_eq (e : KE) : encK e = .ag [AU8 e.kind, AU8 e.oper, AU8 e.to, AI32 e.n, AI e.v, .sl 6 (encKl e.l) none] := by obtain ⟨k, o, t, n, v, l⟩ := e; rw [encK]
theorem encKl_map (l : List KE) : encKl l = l.map encK := by
  induction l with
  | nil => rw [encKl]; rfl
  | cons x r ih => rw [encKl, ih]; rfl
mutual
/-- its numbers are such of their kinds -/
def wfK : KE → Prop
  | ⟨k, o, t, n, v, l⟩ => (u8 k ∧ u8 o ∧ u8 t ∧ i32 n ∧ i64 v) ∧ wfKl l
def wfKl : List KE → Prop
  | [] => True
  | e :: r => wfK e ∧ wfKl r
end
def shapeB (e : KE) : Bool :=
  if e.kind = 1 then e.oper == 0 && e.to == 0 && e.v == 0 && e.l.length == 0
  else if e.kind = 2 then e.oper == 0 && e.to == 0 && e.n == 0 && decide (0 ≤ e.v) && decide (e.v ≤ 255) && e.l.length == 0
  else if e.kind = 3 then e.oper == 0 && e.to == 0 && e.n == 0 && decide (0 ≤ e.v) && decide (e.v ≤ 255) && e.l.length == 1
  else if e.kind = 4 then decide (23 ≤ e.oper) && decide (e.oper ≤ 26) && e.to == 0 && e.n == 0 && e.v == 0 && e.l.length == 1
  else if e.kind = 5 then decide (1 ≤ e.oper) && decide (e.oper ≤ 22) && e.to == 0 && e.n == 0 && e.v == 0 && e.l.length == 2
  else if e.kind = 6 then e.oper == 0 && decide (1 ≤ e.to) && decide (e.to ≤ 3) && e.n == 0 && e.v == 0 && e.l.length == 1
  else false
mutual
def sz : KE → Nat
  | ⟨_, _, _, _, _, l⟩ => 1 + szl l
def szl : List KE → Nat
  | [] => 0
  | e :: r => sz e + szl r
end
mutual
def ht : KE → Nat
  | ⟨_, _, _, _, _, l⟩ => 1 + htl l
def htl : List KE → Nat
  | [] => 0
  | e :: r => max (ht e) (htl r)
end
mutual
def fine : KE → Bool
  | ⟨k, o, t, n, v, l⟩ => shapeB ⟨k, o, t, n, v, l⟩ && finel l
def finel : List KE → Bool
  | [] => true
  | e :: r => fine e && finel r
end
theorem shape_cases {e : KE} (h : shapeB e = true) : (∃ k o t n v, e = ⟨k, o, t, n, v, []⟩) ∨ (∃ k o t n v a, e = ⟨k, o, t, n, v, [a]⟩) ∨ (∃ k o t n v a b, e = ⟨k, o, t, n, v, [a, b]⟩) := by
  obtain ⟨k, o, t, n, v, l⟩ := e
  match l with
  | [] => exact .inl ⟨k, o, t, n, v, rfl⟩
  | [a] => exact .inr (.inl ⟨k, o, t, n, v, a, rfl⟩)
  | [a, b] => exact .inr (.inr ⟨k, o, t, n, v, a, b, rfl⟩)
  | a :: b :: c :: r =>
    simp only [shapeB, KE.kind, KE.oper, KE.to, KE.n, KE.v, KE.l, List.length_cons] at h
    exfalso
    revert h
    (repeat' split) <;> simp <;> omega
theorem shape_full {e : KE} (h : shapeB e = true) : (∃ n, e = ⟨1, 0, 0, n, 0, []⟩) ∨ (∃ v, 0 ≤ v ∧ v ≤ 255 ∧ e = ⟨2, 0, 0, 0, v, []⟩) ∨ (∃ v a, 0 ≤ v ∧ v ≤ 255 ∧ e = ⟨3, 0, 0, 0, v, [a]⟩) ∨
    (∃ o a, 23 ≤ o ∧ o ≤ 26 ∧ e = ⟨4, o, 0, 0, 0, [a]⟩) ∨ (∃ o a b, 1 ≤ o ∧ o ≤ 22 ∧ e = ⟨5, o, 0, 0, 0, [a, b]⟩) ∨ (∃ t a, 1 ≤ t ∧ t ≤ 3 ∧ e = ⟨6, 0, t, 0, 0, [a]⟩) := by
  obtain ⟨k, o, t, n, v, l⟩ := e
  have h1 := h
  simp only [shapeB, KE.kind, KE.oper, KE.to, KE.n, KE.v, KE.l] at h1
  have l0 : l.length = 0 → l = [] := fun h => List.length_eq_zero_iff.1 h
  have l1 : l.length = 1 → ∃ a, l = [a] := fun h => by
    match l, h with
    | [a], _ => exact ⟨a, rfl⟩
  have l2 : l.length = 2 → ∃ a b, l = [a, b] := fun h => by
    match l, h with
    | [a, b], _ => exact ⟨a, b, rfl⟩
  split at h1
  · subst_vars; simp at h1; obtain ⟨⟨⟨rfl, rfl⟩, rfl⟩, rfl⟩ := h1; exact .inl ⟨n, rfl⟩
  split at h1
  · subst_vars; simp at h1; obtain ⟨⟨⟨⟨⟨rfl, rfl⟩, rfl⟩, h3⟩, h4⟩, rfl⟩ := h1; exact .inr (.inl ⟨v, h3, h4, rfl⟩)
  split at h1
  · subst_vars; simp at h1; obtain ⟨⟨⟨⟨⟨rfl, rfl⟩, rfl⟩, h3⟩, h4⟩, hl⟩ := h1; obtain ⟨a, rfl⟩ := l1 hl; exact .inr (.inr (.inl ⟨v, a, h3, h4, rfl⟩))
  split at h1
  · subst_vars; simp at h1; obtain ⟨⟨⟨⟨⟨h3, h4⟩, rfl⟩, rfl⟩, rfl⟩, hl⟩ := h1; obtain ⟨a, rfl⟩ := l1 hl; exact .inr (.inr (.inr (.inl ⟨o, a, h3, h4, rfl⟩)))
  split at h1
  · subst_vars; simp at h1; obtain ⟨⟨⟨⟨⟨h3, h4⟩, rfl⟩, rfl⟩, rfl⟩, hl⟩ := h1; obtain ⟨a, b, rfl⟩ := l2 hl; exact .inr (.inr (.inr (.inr (.inl ⟨o, a, b, h3, h4, rfl⟩))))
  split at h1
  · subst_vars; simp at h1; obtain ⟨⟨⟨⟨⟨rfl, h3⟩, h4⟩, rfl⟩, rfl⟩, hl⟩ := h1; obtain ⟨a, rfl⟩ := l1 hl; exact .inr (.inr (.inr (.inr (.inr ⟨t, a, h3, h4, rfl⟩))))
  · cases h1
theorem fine_shape {e : KE} (h : fine e = true) : shapeB e = true := by obtain ⟨k, o, t, n, v, l⟩ := e; simp only [fine, Bool.and_eq_true] at h; exact h.1
theorem fine_cases {e : KE} (h : fine e = true) : (∃ n, e = ⟨1, 0, 0, n, 0, []⟩) ∨ (∃ v, 0 ≤ v ∧ v ≤ 255 ∧ e = ⟨2, 0, 0, 0, v, []⟩) ∨ (∃ v a, 0 ≤ v ∧ v ≤ 255 ∧ fine a = true ∧ e = ⟨3, 0, 0, 0, v, [a]⟩) ∨
    (∃ o a, 23 ≤ o ∧ o ≤ 26 ∧ fine a = true ∧ e = ⟨4, o, 0, 0, 0, [a]⟩) ∨ (∃ o a b, 1 ≤ o ∧ o ≤ 22 ∧ fine a = true ∧ fine b = true ∧ e = ⟨5, o, 0, 0, 0, [a, b]⟩) ∨ (∃ t a, 1 ≤ t ∧ t ≤ 3 ∧ fine a = true ∧ e = ⟨6, 0, t, 0, 0, [a]⟩) := by
  rcases shape_full (fine_shape h) with ⟨n, rfl⟩ | ⟨v, h1, h2, rfl⟩ | ⟨v, a, h1, h2, rfl⟩ | ⟨o, a, h1, h2, rfl⟩ | ⟨o, a, b, h1, h2, rfl⟩ | ⟨t, a, h1, h2, rfl⟩
  · exact .inl ⟨n, rfl⟩
  · exact .inr (.inl ⟨v, h1, h2, rfl⟩)
  · simp [fine, finel] at h; exact .inr (.inr (.inl ⟨v, a, h1, h2, h.2, rfl⟩))
  · simp [fine, finel] at h; exact .inr (.inr (.inr (.inl ⟨o, a, h1, h2, h.2, rfl⟩)))
  · simp [fine, finel] at h; exact .inr (.inr (.inr (.inr (.inl ⟨o, a, b, h1, h2, h.2.1, h.2.2, rfl⟩))))
  · simp [fine, finel] at h; exact .inr (.inr (.inr (.inr (.inr ⟨t, a, h1, h2, h.2, rfl⟩))))
theorem sz_pos (e : KE) : 1 ≤ sz e := by obtain ⟨k, o, t, n, v, l⟩ := e; simp only [sz]; omega
theorem ht_pos (e : KE) : 1 ≤ ht e := by obtain ⟨k, o, t, n, v, l⟩ := e; simp only [ht]; omega
def fits (e : KE) (room deep : Int) : Prop := fine e = true ∧ (sz e : Int) ≤ room ∧ (ht e : Int) ≤ deep
instance (e : KE) (room deep : Int) : Decidable (fits e room deep) := by unfold fits; infer_instance
abbrev valid (e : KE) : Prop := fits e 256 32
theorem fits_not {e : KE} {r d : Int} (h : r < 1 ∨ d < 1 ∨ shapeB e = false) : ¬ fits e r d := by
  rintro ⟨h1, h2, h3⟩
  have := sz_pos e
  have := ht_pos e
  rcases h with h | h | h
  · omega
  · omega
  · rw [fine_shape h1] at h; cases h
theorem fits0 {k o t n v : Int} {room deep : Int} (hs : shapeB ⟨k, o, t, n, v, []⟩ = true) : fits ⟨k, o, t, n, v, []⟩ room deep ↔ 1 ≤ room ∧ 1 ≤ deep := by
  simp only [fits, fine, finel, hs, sz, szl, ht, htl, Bool.true_and, true_and]; omega
theorem fits1 {k o t n v : Int} {a : KE} {room deep : Int} (hs : shapeB ⟨k, o, t, n, v, [a]⟩ = true) : fits ⟨k, o, t, n, v, [a]⟩ room deep ↔ fits a (room - 1) (deep - 1) := by
  simp only [fits, fine, finel, hs, sz, szl, ht, htl, Bool.true_and, Bool.and_true]
  constructor
  · rintro ⟨h1, h2, h3⟩; exact ⟨h1, by omega, by omega⟩
  · rintro ⟨h1, h2, h3⟩; exact ⟨h1, by omega, by omega⟩
theorem fits2 {k o t n v : Int} {a b : KE} {room deep : Int} (hs : shapeB ⟨k, o, t, n, v, [a, b]⟩ = true) : fits ⟨k, o, t, n, v, [a, b]⟩ room deep ↔ fits a (room - 1) (deep - 1) ∧ fits b (room - (1 + sz a)) (deep - 1) := by
  simp only [fits, fine, finel, hs, sz, szl, ht, htl, Bool.true_and, Bool.and_true, Bool.and_eq_true]
  have := sz_pos b
  constructor
  · rintro ⟨h1, h2, h3⟩; exact ⟨⟨h1.1, by omega, by omega⟩, ⟨h1.2, by omega, by omega⟩⟩
  · rintro ⟨⟨h1, h2, h3⟩, ⟨h4, h5, h6⟩⟩; exact ⟨⟨h1, h4⟩, by omega, by omega⟩
theorem wfK1 {k o t n v : Int} {a : KE} (h : wfK ⟨k, o, t, n, v, [a]⟩) : wfK a := by simp only [wfK, wfKl] at h; exact h.2.1
theorem wfK2 {k o t n v : Int} {a b : KE} (h : wfK ⟨k, o, t, n, v, [a, b]⟩) : wfK a ∧ wfK b := by simp only [wfK, wfKl] at h; exact ⟨h.2.1, h.2.2.1⟩
theorem ht_eq (e : KE) : ht e = 1 + htl e.l := by obtain ⟨k, o, t, n, v, l⟩ := e; rw [ht]
end Go.Proofs.YtgmeahcclogfmaaGreatDoor
/-!
  Chapter 14: words: walks of word, of the reference's words.
-/
namespace Go.Proofs.YtgmeahcclogfmaaGreatDoor
open Go Go.Tp
set_option linter.unusedVariables false
set_option linter.unusedSimpArgs false
set_option maxRecDepth 100000
set_option maxHeartbeats 4000000
def fitB (n : Int) : Bool := decide (-2147483648 ≤ n) && decide (n < 2147483648)
def fit32 (n : Int) : Option Int := if fitB n then some n else none
def tsum (a b : Int) : Int := IntKind.i32.wrap (a + b)
/-! ### word -/
def divB (a b : Int) : Bool := b == 0 || (a == -2147483648 && b == -1)
def divM (a b : Int) : Int := if divB a b then 0 else a.tdiv b
def remM (a b : Int) : Int := if b = 0 then 0 else a.tmod b
def uns (a : Int) : Int := if a < 0 then a + 4294967296 else a
def shlM (a n : Int) : Int := if uns n > 31 then 0 else w32 (a * 2 ^ n.toNat)
def shrM (a n : Int) : Int := if uns n > 31 then 0 else w32 (uns a / 2 ^ n.toNat)
/-! ### the operators of fold that have no name -/
def band (a b : Int) : Int := bitsOf .and .i32 a b
def bor (a b : Int) : Int := bitsOf .or .i32 a b
def bxor (a b : Int) : Int := bitsOf .xor .i32 a b
def bnot (a : Int) : Int := bitsOf .xor .i32 (-1) a
def truthI (b : Bool) : Int := if b then 1 else 0
end Go.Proofs.YtgmeahcclogfmaaGreatDoor
/-!
  Chapter 14: fold.Apply, and what it answers.
-/
namespace Go.Proofs.YtgmeahcclogfmaaGreatDoor
open Go Go.Tp
set_option linter.unusedVariables false
set_option linter.unusedSimpArgs false
set_option maxRecDepth 100000
set_option maxHeartbeats 4000000
def isT (a : Int) : Bool := a == 0 || a == 1
def applyC (o a b : Int) : Option Int :=
  if o = 1 then fit32 (a + b) else if o = 2 then fit32 (a - b) else if o = 3 then fit32 (a * b)
  else if o = 4 then (if divB a b then none else some (a.tdiv b)) else if o = 5 then (if b = 0 then none else some (a.tmod b))
  else if o = 6 then some (w32 (a + b)) else if o = 7 then some (w32 (a - b)) else if o = 8 then some (w32 (a * b))
  else if o = 9 then some (band a b) else if o = 10 then some (bor a b) else if o = 11 then some (bxor a b)
  else if o = 12 then some (shlM a b) else if o = 13 then some (shrM a b)
  else if o = 14 then some (truthI (a == b)) else if o = 15 then some (truthI (a != b)) else if o = 16 then some (truthI (decide (a < b)))
  else if o = 17 then some (truthI (decide (b < a))) else if o = 18 then some (truthI (decide (a ≤ b))) else if o = 19 then some (truthI (decide (b ≤ a)))
  else if o = 20 then (if isT a && isT b then some (truthI (a == 1 && b == 1)) else none)
  else if o = 21 then (if isT a && isT b then some (truthI (a == 1 || b == 1)) else none)
  else if o = 22 then some (truthI (decide (0 < w32 (a - b)))) else if o = 23 then fit32 (0 - a) else if o = 24 then some (w32 (0 - a))
  else if o = 25 then some (bnot a) else if o = 26 then (if isT a then some (truthI (a == 0)) else none) else none
/-! ### partial -/
def overT (a : Int) : Bool := bitsOf .andNot .i32 a 1 != 0
def partR (o a b : Int) : Int × Bool :=
  if o = 1 then (w32 (a + b), fitB (a + b)) else if o = 2 then (w32 (a - b), fitB (a - b)) else if o = 3 then (w32 (a * b), fitB (a * b))
  else if o = 4 then (divM a b, !divB a b) else if o = 5 then (remM a b, !(b == 0)) else if o = 23 then (w32 (0 - a), fitB (0 - a))
  else if o = 20 then (band a b, !overT (bor a b)) else if o = 21 then (bor a b, !overT (bor a b)) else if o = 26 then (w32 (1 - a), !overT a) else (0, false)
/-! ### bits of truth values -/
end Go.Proofs.YtgmeahcclogfmaaGreatDoor
/-!
  Chapter 14: the reference's words and its Apply.
-/
namespace Go.Proofs.YtgmeahcclogfmaaGreatDoor
open Go Go.Tp
set_option linter.unusedVariables false
set_option linter.unusedSimpArgs false
set_option maxRecDepth 100000
set_option maxHeartbeats 4000000
/-! ### the shifts, place by place -/
end Go.Proofs.YtgmeahcclogfmaaGreatDoor
/-!
  Chapter 14: the reference's bits, its Apply and Convert.
-/
namespace Go.Proofs.YtgmeahcclogfmaaGreatDoor
open Go Go.Tp
set_option linter.unusedVariables false
set_option linter.unusedSimpArgs false
set_option maxRecDepth 100000
set_option maxHeartbeats 4000000
def bitM (o x y : Int) : Int := if o = 9 then x * y else if o = 10 then x + y - x * y else if o = 11 then (x + y) % 2 else 1 - x
def bit01 (x : Int) : Prop := x = 0 ∨ x = 1
def bat (a : Int) (i : Nat) : Int := uns a / 2 ^ i % 2
def bsum (o a b : Int) : Nat → Int
  | 0 => 0
  | i + 1 => bsum o a b i + bitM o (bat a i) (bat b i) * 2 ^ i
/-! ### bits, all at once -/
def b2i (b : Bool) : Int := if b then 1 else 0
def convC (t v : Int) : Option Int := if t = 1 ∨ t = 2 ∧ 0 ≤ v ∧ v ≤ 255 ∨ t = 3 ∧ 0 ≤ v ∧ v ≤ 1 then some v else none
end Go.Proofs.YtgmeahcclogfmaaGreatDoor
/-!
  Layer 14: the reference's Convert; layer 10: primitive kinds.
-/
namespace Go.Proofs.YtgmeahcclogfmaaGreatDoor
open Go Go.Tp
set_option linter.unusedVariables false
set_option linter.unusedSimpArgs false
set_option maxRecDepth 100000
set_option maxHeartbeats 4000000
theorem prim_p (t : Int) : Pure Tryz.prog gs0 36 [AU8 t] (AB (t == 1 || t == 2 || t == 3)) := by
  refine Pure.of (S := tt) (fn := Tryz.f36) (n := 13) tt_ok Tryz.func36 rfl rfl rfl rfl fun w0 h0 F hgs => ?_
  (repeat first|refine A.s rfl ?_|refine A.step rfl ?_); refine A.ret1 (Λ' := []) rfl rfl rfl (List.nil_sublist _) ⟨?_, rfl⟩; refine Sb.eq (ab_eq ?_); cases (t == 1) <;> cases (t == 2) <;> rfl
end Go.Proofs.YtgmeahcclogfmaaGreatDoor
/-!
  Chapter 17: walks: valid expressions, by both texts.
-/
namespace Go.Proofs.YtgmeahcclogfmaaGreatDoor
open Go Go.Tp
set_option linter.unusedVariables false
set_option linter.unusedSimpArgs false
set_option maxRecDepth 100000
set_option maxHeartbeats 4000000
theorem encKl_len (l : List KE) : (encKl l).length = l.length := by rw [encKl_map, List.length_map]
theorem own_p (e : KE) (hw : wfK e) : Pure Tryz.prog gs0 102 [encK e] (AB (shapeB e)) := by
  obtain ⟨k, o, t, n, v, l⟩ := e
  simp only [wfK, u8, i32, i64] at hw
  obtain ⟨hw, _⟩ := hw
  rw [encK]
  by_cases h1 : k = 1
  · subst h1; refine Pure.of (S := tt) (fn := Tryz.f102) (n := 112) tt_ok Tryz.func102 rfl rfl rfl rfl fun w0 h0 F hgs => ?_
    (repeat first|refine A.s rfl ?_|refine A.r rfl rfl ?_|refine A.w rfl rfl ?_|refine A.b rfl fun bx=>?_|refine A.step rfl ?_|refine A.v rfl rfl ?_); refine A.ret1 (Λ' := []) rfl rfl rfl (List.nil_sublist _) ⟨?_, rfl⟩; (refine Sb.eq (ab_iff ?_); simp only [shapeB, KE.kind, KE.oper, KE.to, KE.n, KE.v, KE.l, encKl_len]; generalize l.length = len at *; (try simp at hc); (try simp at hd); simp; omega)
  by_cases h2 : k = 2
  · subst h2; refine Pure.of (S := tt) (fn := Tryz.f102) (n := 112) tt_ok Tryz.func102 rfl rfl rfl rfl fun w0 h0 F hgs => ?_
    (repeat first|refine A.s rfl ?_|refine A.r rfl rfl ?_|refine A.w rfl rfl ?_|refine A.b rfl fun bx=>?_|refine A.step rfl ?_|refine A.v rfl rfl ?_); refine A.ret1 (Λ' := []) rfl rfl rfl (List.nil_sublist _) ⟨?_, rfl⟩; (refine Sb.eq (ab_iff ?_); simp only [shapeB, KE.kind, KE.oper, KE.to, KE.n, KE.v, KE.l, encKl_len]; generalize l.length = len at *; (try simp at hc); (try simp at hd); simp; omega)
  by_cases h3 : k = 3
  · subst h3; refine Pure.of (S := tt) (fn := Tryz.f102) (n := 112) tt_ok Tryz.func102 rfl rfl rfl rfl fun w0 h0 F hgs => ?_
    (repeat first|refine A.s rfl ?_|refine A.r rfl rfl ?_|refine A.w rfl rfl ?_|refine A.b rfl fun bx=>?_|refine A.step rfl ?_|refine A.v rfl rfl ?_); refine A.ret1 (Λ' := []) rfl rfl rfl (List.nil_sublist _) ⟨?_, rfl⟩; (refine Sb.eq (ab_iff ?_); simp only [shapeB, KE.kind, KE.oper, KE.to, KE.n, KE.v, KE.l, encKl_len]; generalize l.length = len at *; (try simp at hc); (try simp at hd); simp; omega)
  by_cases h4 : k = 4
  · subst h4; refine Pure.of (S := tt) (fn := Tryz.f102) (n := 112) tt_ok Tryz.func102 rfl rfl rfl rfl fun w0 h0 F hgs => ?_
    (repeat first|refine A.s rfl ?_|refine A.r rfl rfl ?_|refine A.w rfl rfl ?_|refine A.b rfl fun bx=>?_|refine A.step rfl ?_|refine A.v rfl rfl ?_); refine A.ret1 (Λ' := []) rfl rfl rfl (List.nil_sublist _) ⟨?_, rfl⟩; (refine Sb.eq (ab_iff ?_); simp only [shapeB, KE.kind, KE.oper, KE.to, KE.n, KE.v, KE.l, encKl_len]; generalize l.length = len at *; (try simp at hc); (try simp at hd); simp; omega)
  by_cases h5 : k = 5
  · subst h5; refine Pure.of (S := tt) (fn := Tryz.f102) (n := 112) tt_ok Tryz.func102 rfl rfl rfl rfl fun w0 h0 F hgs => ?_
    (repeat first|refine A.s rfl ?_|refine A.r rfl rfl ?_|refine A.w rfl rfl ?_|refine A.b rfl fun bx=>?_|refine A.step rfl ?_|refine A.v rfl rfl ?_); refine A.ret1 (Λ' := []) rfl rfl rfl (List.nil_sublist _) ⟨?_, rfl⟩; (refine Sb.eq (ab_iff ?_); simp only [shapeB, KE.kind, KE.oper, KE.to, KE.n, KE.v, KE.l, encKl_len]; generalize l.length = len at *; (try simp at hc); (try simp at hd); simp; omega)
  by_cases h6 : k = 6
  · subst h6; refine Pure.of (S := tt) (fn := Tryz.f102) (n := 112) tt_ok Tryz.func102 rfl rfl rfl rfl fun w0 h0 F hgs => ?_
    (repeat first|refine A.s rfl ?_|refine A.r rfl rfl ?_|refine A.w rfl rfl ?_|refine A.b rfl fun bx=>?_); refine A.c rfl (prim_p _) .refl ?_; (repeat first|refine A.s rfl ?_|refine A.step rfl ?_|refine A.v rfl rfl ?_); refine A.ret1 (Λ' := []) rfl rfl rfl (List.nil_sublist _) ⟨?_, rfl⟩; (refine Sb.eq (ab_iff ?_); simp only [shapeB, KE.kind, KE.oper, KE.to, KE.n, KE.v, KE.l, encKl_len]; generalize l.length = len at *; (try simp at hc); (try simp at hd); simp; omega)
  refine Pure.of (S := tt) (fn := Tryz.f102) (n := 112) tt_ok Tryz.func102 rfl rfl rfl rfl fun w0 h0 F hgs => ?_
  (repeat (first | first|refine A.s rfl ?_|refine A.r rfl rfl ?_|refine A.w rfl rfl ?_|refine A.p rfl ?_|refine A.b rfl fun bx=>?_|refine A.t rfl fun bl=>?_ | refine A.cond rfl (fun h => (by simp at h; omega)) (fun _ => ?_) | first|refine A.step rfl ?_|refine A.v rfl rfl ?_)); refine A.ret1 (Λ' := []) rfl rfl rfl (List.nil_sublist _) ⟨?_, rfl⟩; refine Sb.eq ?_; simp [shapeB, *]
abbrev rowA (r : List Int) : AV := .sl 1 (r.map AI32) none
abbrev rowsA (s : List (List Int)) : AV := .sl 1 (s.map rowA) none
def fitsB (k v : Int) : Bool := if k = 2 then decide (0 ≤ v) && decide (v ≤ 255) else if k = 3 then v == 0 || v == 1 else k == 1
def atM (s : List (List Int)) (v i : Int) : Option Int := if v < 0 ∨ i < 0 then none else (s[v.toNat]?).bind (·[i.toNat]?)
end Go.Proofs.YtgmeahcclogfmaaGreatDoor
/-!
  Chapter 17: equal stores, stores of kernels.
-/
namespace Go.Proofs.YtgmeahcclogfmaaGreatDoor
open Go Go.Tp
set_option linter.unusedVariables false
set_option linter.unusedSimpArgs false
set_option maxRecDepth 100000
set_option maxHeartbeats 4000000
/-! ### Same -/
def allEq {α β : Type} (f : α → β → Bool) (a : List α) (b : List β) (i : Nat) : Bool := (List.range i).all fun k => match a[k]?, b[k]? with
  | some x, some y => f x y
  | _, _ => true
def alikeB {α : Type} (f : α → α → Bool) (a b : List α) : Bool := decide (a.length = b.length) && allEq f a b a.length
def short (s : List (List Int)) : Prop := s.length ≤ 281474976710656 ∧ ∀ r, r ∈ s → r.length ≤ 281474976710656
def sameB (a b : List (List Int)) : Bool := alikeB (alikeB (· == ·)) a b
/-! ### May -/
structure KV where
  kind : Int
  dim : Int
abbrev encV (v : KV) : AV := .ag [AU8 v.kind, AI v.dim]
def wfV (v : KV) : Prop := i64 v.dim
def soundB (v : KV) : Bool := (v.kind == 1 || v.kind == 2 || v.kind == 3) && decide (0 ≤ v.dim) && decide (v.dim ≤ 64)
end Go.Proofs.YtgmeahcclogfmaaGreatDoor
/-!
  Chapter 17: Clone, Put.
-/
namespace Go.Proofs.YtgmeahcclogfmaaGreatDoor
open Go Go.Tp
set_option linter.unusedVariables false
set_option linter.unusedSimpArgs false
set_option maxRecDepth 100000
set_option maxHeartbeats 4000000
/-! ### Clone -/
/-! ### Put -/
abbrev rowsH (hs : List (Value × List Int)) : List (Value × List AV) := hs.map fun p => (p.1, p.2.map AI32)
def putM (s : List (List Int)) (v i x : Int) : List (List Int) := if (atM s v i).isSome then (match s[v.toNat]? with | some r => s.set v.toNat (r.set i.toNat x) | none => s) else s
abbrev nilV : AV := .v (.slice none 0 0)
end Go.Proofs.YtgmeahcclogfmaaGreatDoor
/-!
  The first of a list's elements that are such.
-/
namespace Go.Proofs.YtgmeahcclogfmaaGreatDoor
open Go Go.Tp
def idxF {α : Type} (p : α → Bool) : List α → Nat → Int
  | [], _ => -1
  | x :: r, i => if p x then (i : Int) else idxF p r (i + 1)
theorem idxF_any {α : Type} (p : α → Bool) : ∀ (l : List α) (i : Nat), decide (0 ≤ idxF p l i) = l.any p
  | [], _ => rfl
  | x :: r, i => by
    rw [idxF, List.any_cons]
    cases h : p x
    · simp; exact idxF_any p r (i + 1)
    · simp
theorem drop_at {α : Type} {l : List α} {i : Nat} {x : α} (h : l[i]? = some x) : l.drop i = x :: l.drop (i + 1) := by
  obtain ⟨h1, h2⟩ := List.getElem?_eq_some_iff.1 h
  rw [← h2, List.getElem_cons_drop]
end Go.Proofs.YtgmeahcclogfmaaGreatDoor
/-!
  Chapter 17: sound variables, May, Store.
-/
namespace Go.Proofs.YtgmeahcclogfmaaGreatDoor
open Go Go.Tp
set_option linter.unusedVariables false
set_option linter.unusedSimpArgs false
set_option maxRecDepth 100000
set_option maxHeartbeats 4000000
abbrev varsA (l : List KV) : AV := .sl 2 (l.map encV) none
def soundsB (l : List KV) : Bool := decide (l.length ≤ 256) && !l.any (fun v => !soundB v)
/-! ### May -/
def longI (v : KV) : Int := if v.dim < 1 then 1 else v.dim
def mayRow (v : KV) (r : List Int) : Bool := (r.length : Int) == longI v && !r.any (fun x => !fitsB v.kind x)
def mayB (l : List KV) (s : List (List Int)) : Bool := decide (s.length = l.length) && soundsB l && allEq mayRow l s l.length
abbrev kernA (l : List KV) : AV := .ag [varsA l, .v (.slice none 0 0), AU8 0, AI 0, AI 0, AU8 0, .v (.slice none 0 0), .v (.slice none 0 0), .v (.slice none 0 0), .v (.slice none 0 0), .v (.slice none 0 0)]
/-! ### Store -/
def storeM (l : List KV) : List (List Int) := l.map fun v => List.replicate (longI v).toNat 0
end Go.Proofs.YtgmeahcclogfmaaGreatDoor
/-!
  Chapter 17: walks: the measure of an expression, by both texts.
-/
namespace Go.Proofs.YtgmeahcclogfmaaGreatDoor
open Go Go.Tp
set_option linter.unusedVariables false
set_option linter.unusedSimpArgs false
set_option maxRecDepth 100000
set_option maxHeartbeats 4000000
/-! ### eval.valid -/
abbrev walkX (e : KE) (left deep : Int) : Int → AV := fun _ => AB (decide (fits e left (33 - deep)))
abbrev walkP (e : KE) (left deep : Int) : Int → Prop := fun i => fits e left (33 - deep) → i = left - sz e
theorem pe_enc {z : Nat} (a : KE) : AV.pe z (encK a) = .pe z (.ag [AU8 a.kind, AU8 a.oper, AU8 a.to, AI32 a.n, AI a.v, .sl 6 (encKl a.l) none]) := by rw [encK_eq]
/-! ### ref16.Valid -/
def roomI (e : KE) (inside left : Int) : Int := if fits e left (32 - inside) then left - sz e else -1
theorem room_p : ∀ (N : Nat) (e : KE) (inside left : Int), sz e ≤ N → wfK e → 0 ≤ left → left ≤ 256 → 0 ≤ inside → inside ≤ 32 →
    Pure Tryz.prog gs0 93 [encK e, AI inside, AI left] (AI (roomI e inside left))
  | 0, e, left, deep, hn, _, _, _, _, _ => by have := sz_pos e; omega
  | N + 1, e, inside, left, hn, hw, r0, r1, d0, d1 => by
    have hw1 : IntKind.i64.wrap (left - 1) = left - 1 := wr64 _ (by omega)
    have hp := own_p e hw
    rw [encK_eq] at hp ⊢
    by_cases hz : left = 0 ∨ inside = 32
    · have hnf : ¬ fits e left (32 - inside) := fits_not (by omega)
      refine Pure.of (S := tt) (fn := Tryz.f93) (n := 40) tt_ok Tryz.func93 rfl rfl rfl rfl fun w0 h0 F hgs => ?_
      (repeat first|refine A.s rfl ?_|refine A.b rfl fun bx=>?_|refine A.step rfl ?_|refine A.v rfl rfl ?_)
      refine A.valE 14 rfl (x' := AB true) (ab_eq (by simp; omega)) ?_
      (repeat refine A.s rfl ?_); refine A.ret1 (Λ' := []) rfl rfl rfl (List.nil_sublist _) ⟨?_, rfl⟩; exact Sb.eq (ai_eq (if_neg hnf).symm)
    have hw2 : IntKind.i64.wrap (inside + 1) = inside + 1 := wr64 _ (by omega)
    have h14 : ∀ b : Bool, (bif inside == 32 then true else left == 0) = b → b = false := by intro b hb; subst hb; simp; omega
    by_cases hs : shapeB e = true
    case neg =>
      have hs : shapeB e = false := by simpa using hs
      have hnf : ¬ fits e left (32 - inside) := fits_not (by simp [hs])
      refine Pure.of (S := tt) (fn := Tryz.f93) (n := 40) tt_ok Tryz.func93 rfl rfl rfl rfl fun w0 h0 F hgs => ?_
      (repeat first|refine A.s rfl ?_|refine A.b rfl fun bx=>?_|refine A.step rfl ?_|refine A.v rfl rfl ?_)
      refine A.valE 14 rfl (x' := AB false) (ab_eq (h14 _ rfl)) ?_
      skip
      refine A.c rfl (hp) .refl ?_
      refine A.valE 16 rfl (x' := AB false) (ab_eq hs) ?_
      (repeat refine A.s rfl ?_); refine A.ret1 (Λ' := []) rfl rfl rfl (List.nil_sublist _) ⟨?_, rfl⟩; exact Sb.eq (ai_eq (if_neg hnf).symm)
    rcases shape_cases hs with ⟨k, o, t, n, v, rfl⟩ | ⟨k, o, t, n, v, a, rfl⟩ | ⟨k, o, t, n, v, a, b, rfl⟩
    · simp only [encKl] at hp ⊢
      have hf := (fits0 (room := left) (deep := 32 - inside) hs).2 (by omega)
      refine Pure.of (S := tt) (fn := Tryz.f93) (n := 40) tt_ok Tryz.func93 rfl rfl rfl rfl fun w0 h0 F hgs => ?_
      (repeat first|refine A.s rfl ?_|refine A.b rfl fun bx=>?_|refine A.step rfl ?_|refine A.v rfl rfl ?_)
      refine A.valE 14 rfl (x' := AB false) (ab_eq (h14 _ rfl)) ?_
      skip
      refine A.c rfl (hp) .refl ?_
      refine A.valE 16 rfl (x' := AB true) (ab_eq hs) ?_
      (repeat refine A.s rfl ?_)
      refine A.loop1 ?_
      (repeat first|refine A.s rfl ?_|refine A.r rfl rfl ?_); refine A.ret1 (Λ' := []) rfl rfl rfl (List.nil_sublist _) ⟨?_, rfl⟩
      refine Sb.eq (ai_eq ?_); rw [roomI, if_pos hf, hw1]; simp [sz, szl]
    · simp only [encKl] at hp ⊢
      simp only [sz, szl] at hn
      have hf := fits1 (room := left) (deep := 32 - inside) hs
      have e3 : 32 - inside - 1 = 32 - (inside + 1) := by omega
      rw [e3] at hf
      have ih := room_p N a (inside + 1) (left - 1) (by omega) (wfK1 hw) (by omega) (by omega) (by omega) (by omega)
      rw [encK_eq] at ih
      refine Pure.of (S := tt) (fn := Tryz.f93) (n := 40) tt_ok Tryz.func93 rfl rfl rfl rfl fun w0 h0 F hgs => ?_
      (repeat first|refine A.s rfl ?_|refine A.b rfl fun bx=>?_|refine A.step rfl ?_|refine A.v rfl rfl ?_)
      refine A.valE 14 rfl (x' := AB false) (ab_eq (h14 _ rfl)) ?_
      skip
      refine A.c rfl (hp) .refl ?_
      refine A.valE 16 rfl (x' := AB true) (ab_eq hs) ?_
      (repeat refine A.s rfl ?_)
      refine A.loop1 ?_
      (repeat first|refine A.s rfl ?_|refine A.r rfl rfl ?_)
      refine A.x rfl (by decide) rfl rfl rfl ?_
      refine A.valE 31 rfl (pe_enc a) ?_
      (repeat refine A.s rfl ?_)
      refine A.valE 34 rfl (x' := AI (inside + 1)) (ai_eq hw2) ?_
      refine A.valE 35 rfl (x' := AI (left - 1)) (ai_eq hw1) ?_
      refine A.c rfl (ih) .refl ?_
      (repeat refine A.s rfl ?_)
      by_cases hfa : fits a (left - 1) (32 - (inside + 1))
      case neg =>
        have e5 : roomI a (inside + 1) (left - 1) = -1 := if_neg hfa
        have hnf : ¬ fits ⟨k, o, t, n, v, [a]⟩ left (32 - inside) := fun h => hfa (hf.1 h)
        refine A.valE 38 rfl (x' := AB true) (ab_eq (by simp [e5])) ?_
        (repeat refine A.s rfl ?_); refine A.ret1 (Λ' := []) rfl rfl rfl (List.nil_sublist _) ⟨?_, rfl⟩; exact Sb.eq (ai_eq (if_neg hnf).symm)
      have e5 : roomI a (inside + 1) (left - 1) = left - 1 - sz a := if_pos hfa
      have h5 := hfa.2.1
      refine A.valE 38 rfl (x' := AB false) (ab_eq (by simp [e5]; omega)) ?_
      refine A.valE 2 rfl (x' := AI (left - 1 - sz a)) (ai_eq e5) ?_
      (repeat refine A.s rfl ?_); refine A.again ?_; (repeat first|refine A.s rfl ?_|refine A.r rfl rfl ?_)
      refine A.ret1 (Λ' := []) rfl rfl rfl (List.nil_sublist _) ⟨?_, rfl⟩
      refine Sb.eq (ai_eq ?_); rw [roomI, if_pos (hf.2 hfa)]; simp [sz, szl]; omega
    · simp only [encKl] at hp ⊢
      simp only [sz, szl] at hn
      have hf := fits2 (room := left) (deep := 32 - inside) hs
      have e3 : 32 - inside - 1 = 32 - (inside + 1) := by omega
      have e4 : left - (1 + (sz a : Int)) = left - 1 - sz a := by omega
      rw [e3, e4] at hf
      have ha := sz_pos a
      have hb := sz_pos b
      have ih := room_p N a (inside + 1) (left - 1) (by omega) (wfK2 hw).1 (by omega) (by omega) (by omega) (by omega)
      rw [encK_eq] at ih
      refine Pure.of (S := tt) (fn := Tryz.f93) (n := 40) tt_ok Tryz.func93 rfl rfl rfl rfl fun w0 h0 F hgs => ?_
      (repeat first|refine A.s rfl ?_|refine A.b rfl fun bx=>?_|refine A.step rfl ?_|refine A.v rfl rfl ?_)
      refine A.valE 14 rfl (x' := AB false) (ab_eq (h14 _ rfl)) ?_
      skip
      refine A.c rfl (hp) .refl ?_
      refine A.valE 16 rfl (x' := AB true) (ab_eq hs) ?_
      (repeat refine A.s rfl ?_)
      refine A.loop1 ?_
      (repeat first|refine A.s rfl ?_|refine A.r rfl rfl ?_)
      refine A.x rfl (by decide) rfl rfl rfl ?_
      refine A.valE 31 rfl (pe_enc a) ?_
      (repeat refine A.s rfl ?_)
      refine A.valE 34 rfl (x' := AI (inside + 1)) (ai_eq hw2) ?_
      refine A.valE 35 rfl (x' := AI (left - 1)) (ai_eq hw1) ?_
      refine A.c rfl (ih) .refl ?_
      (repeat refine A.s rfl ?_)
      by_cases hfa : fits a (left - 1) (32 - (inside + 1))
      case neg =>
        have e5 : roomI a (inside + 1) (left - 1) = -1 := if_neg hfa
        have hnf : ¬ fits ⟨k, o, t, n, v, [a, b]⟩ left (32 - inside) := fun h => hfa ((hf.1 h).1)
        refine A.valE 38 rfl (x' := AB true) (ab_eq (by simp [e5])) ?_
        (repeat refine A.s rfl ?_); refine A.ret1 (Λ' := []) rfl rfl rfl (List.nil_sublist _) ⟨?_, rfl⟩; exact Sb.eq (ai_eq (if_neg hnf).symm)
      have e5 : roomI a (inside + 1) (left - 1) = left - 1 - sz a := if_pos hfa
      have h5 := hfa.2.1
      refine A.valE 38 rfl (x' := AB false) (ab_eq (by simp [e5]; omega)) ?_
      refine A.valE 2 rfl (x' := AI (left - 1 - sz a)) (ai_eq e5) ?_
      (repeat refine A.s rfl ?_); refine A.again ?_; (repeat first|refine A.s rfl ?_|refine A.r rfl rfl ?_)
      have ih2 := room_p N b (inside + 1) (left - 1 - sz a) (by omega) (wfK2 hw).2 (by omega) (by omega) (by omega) (by omega)
      rw [encK_eq] at ih2
      refine A.x rfl (by decide) rfl rfl rfl ?_
      refine A.valE 31 rfl (pe_enc b) ?_
      (repeat refine A.s rfl ?_)
      refine A.valE 34 rfl (x' := AI (inside + 1)) (ai_eq hw2) ?_
      refine A.valE 35 rfl (x' := AI (left - 1 - sz a)) (ai_eq rfl) ?_
      refine A.c rfl (ih2) .refl ?_
      (repeat refine A.s rfl ?_)
      by_cases hfb : fits b (left - 1 - sz a) (32 - (inside + 1))
      case neg =>
        have e6 : roomI b (inside + 1) (left - 1 - sz a) = -1 := if_neg hfb
        have hnf : ¬ fits ⟨k, o, t, n, v, [a, b]⟩ left (32 - inside) := fun h => hfb (hf.1 h).2
        refine A.valE 38 rfl (x' := AB true) (ab_eq (by simp [e6])) ?_
        (repeat refine A.s rfl ?_); refine A.ret1 (Λ' := []) rfl rfl rfl (List.nil_sublist _) ⟨?_, rfl⟩; exact Sb.eq (ai_eq (if_neg hnf).symm)
      have e6 : roomI b (inside + 1) (left - 1 - sz a) = left - 1 - sz a - sz b := if_pos hfb
      have h6 := hfb.2.1
      refine A.valE 38 rfl (x' := AB false) (ab_eq (by simp [e6]; omega)) ?_
      refine A.valE 2 rfl (x' := AI (left - 1 - sz a - sz b)) (ai_eq e6) ?_
      (repeat refine A.s rfl ?_); refine A.again ?_; (repeat first|refine A.s rfl ?_|refine A.r rfl rfl ?_)
      refine A.ret1 (Λ' := []) rfl rfl rfl (List.nil_sublist _) ⟨?_, rfl⟩
      refine Sb.eq (ai_eq ?_); rw [roomI, if_pos (hf.2 ⟨hfa, hfb⟩)]; simp [sz, szl]; omega
theorem rvalid_p (e : KE) (hw : wfK e) : Pure Tryz.prog gs0 83 [encK e] (AB (decide (valid e))) := by
  have hp := room_p (sz e) e 0 256 (Nat.le_refl _) hw (by decide) (by decide) (by decide) (by decide)
  rw [encK_eq] at hp ⊢
  refine Pure.of (S := tt) (fn := Tryz.f83) (n := 6) tt_ok Tryz.func83 rfl rfl rfl rfl fun w0 h0 F hgs => ?_
  (repeat first|refine A.s rfl ?_|refine A.r rfl rfl ?_|refine A.b rfl fun bx=>?_)
  refine A.c rfl (hp) .refl ?_
  (repeat refine A.s rfl ?_); refine A.ret1 (Λ' := []) rfl rfl rfl (List.nil_sublist _) ⟨?_, rfl⟩
  refine Sb.eq (ab_eq ?_)
  rw [roomI]
  by_cases h : fits e 256 32
  · have h2 := h.2.1
    rw [show (32 : Int) - 0 = 32 from rfl, if_pos h, decide_eq_true h]; simp; omega
  · rw [show (32 : Int) - 0 = 32 from rfl, if_neg h, decide_eq_false h]; rfl
end Go.Proofs.YtgmeahcclogfmaaGreatDoor
/-!
  Expressions that fit a kind, by the reference.
-/
namespace Go.Proofs.YtgmeahcclogfmaaGreatDoor
open Go Go.Tp
set_option linter.unusedVariables false
set_option linter.unusedSimpArgs false
set_option maxRecDepth 100000
set_option maxHeartbeats 4000000
abbrev FK := Int → Bool
def fitC (l : List KV) (k o t n v : Int) (fs : List FK) (kind : Int) : Bool :=
  if k = 1 then (kind == 1 || (kind == 2 && decide (0 ≤ n) && decide (n ≤ 255)) || (kind == 3 && (n == 0 || n == 1)))
  else if k = 2 then (match l[v.toNat]? with | some x => x.dim == 0 && x.kind == kind | none => false)
  else if k = 3 then (match l[v.toNat]?, fs with | some x, f :: _ => decide (0 < x.dim) && x.kind == kind && f 1 | _, _ => false)
  else match fs with
  | [] => false
  | f :: r => if k = 6 then t == kind && (f 1 || f 2 || f 3)
    else if k = 4 then (if o = 26 then kind == 3 && f 3 else kind == 1 && f 1)
    else match r with
    | [] => false
    | g :: _ => if o ≤ 13 then kind == 1 && (f 1 && g 1) else if kind ≠ 3 then false
      else if o = 14 ∨ o = 15 then (f 1 && g 1) || (f 2 && g 2) || (f 3 && g 3)
      else if o ≤ 19 then (f 1 && g 1) || (f 2 && g 2)
      else if o = 22 then f 1 && g 1 else f 3 && g 3
mutual
def fitsM (l : List KV) : KE → FK
  | ⟨k, o, t, n, v, a⟩ => fitC l k o t n v (fitsL l a)
def fitsL (l : List KV) : List KE → List FK
  | [] => []
  | e :: r => fitsM l e :: fitsL l r
end
theorem both_p (l : List KV) (k o t n v : Int) (a b : KE) (kind : Int) (ha : Pure Tryz.prog gs0 84 [varsA l, encK a, AU8 kind] (AB (fitsM l a kind))) (hb : Pure Tryz.prog gs0 84 [varsA l, encK b, AU8 kind] (AB (fitsM l b kind))) :
    Pure Tryz.prog gs0 94 [varsA l, encK ⟨k, o, t, n, v, [a, b]⟩, AU8 kind] (AB (fitsM l a kind && fitsM l b kind)) := by
  have ea := encK_eq a
  have eb := encK_eq b
  rw [ea] at ha; rw [eb] at hb
  simp only [encK, encKl]
  cases hfa : fitsM l a kind with
  | false =>
    rw [hfa] at ha
    refine Pure.of (S := tt) (fn := Tryz.f94) (n := 23) tt_ok Tryz.func94 rfl rfl rfl rfl fun w0 h0 F hgs => ?_
    (repeat first|refine A.s rfl ?_|refine A.r rfl rfl ?_|refine A.b rfl fun bx=>?_); refine A.x rfl (by decide) (by rfl) ea rfl ?_
    (repeat refine A.s rfl ?_); refine A.c rfl ha .refl ?_; (repeat refine A.s rfl ?_); refine A.ret1 (Λ' := []) rfl rfl rfl (List.nil_sublist _) ⟨?_, rfl⟩; exact .refl
  | true =>
    rw [hfa] at ha
    refine Pure.of (S := tt) (fn := Tryz.f94) (n := 23) tt_ok Tryz.func94 rfl rfl rfl rfl fun w0 h0 F hgs => ?_
    (repeat first|refine A.s rfl ?_|refine A.r rfl rfl ?_|refine A.b rfl fun bx=>?_); refine A.x rfl (by decide) (by rfl) ea rfl ?_
    (repeat refine A.s rfl ?_); refine A.c rfl ha .refl ?_; (repeat first|refine A.s rfl ?_|refine A.r rfl rfl ?_); refine A.x rfl (by decide) (by rfl) eb rfl ?_
    (repeat refine A.s rfl ?_); refine A.c rfl hb .refl ?_; (repeat refine A.s rfl ?_); refine A.ret1 (Λ' := []) rfl rfl rfl (List.nil_sublist _) ⟨?_, rfl⟩; exact .refl
theorem fits16_p (l : List KV) : ∀ (N : Nat) (e : KE) (kind : Int), ht e ≤ N → fine e = true → Pure Tryz.prog gs0 84 [varsA l, encK e, AU8 kind] (AB (fitsM l e kind))
  | 0, e, _, hn, _ => by rw [ht_eq] at hn; omega
  | N + 1, e, kind, hn, hf => by
    have hlen : ((l.map encV).length : Int) = l.length := by rw [List.length_map]
    rcases fine_cases hf with ⟨n, rfl⟩ | ⟨v, h1, h2, rfl⟩ | ⟨v, a, h1, h2, h3, rfl⟩ | ⟨o, a, h1, h2, h3, rfl⟩ | ⟨o, a, b, h1, h2, h3, h4, rfl⟩ | ⟨t, a, h1, h2, h3, rfl⟩
    · simp only [encK, encKl]
      refine Pure.of (S := tt) (fn := Tryz.f84) (n := 214) tt_ok Tryz.func84 rfl rfl rfl rfl fun w0 h0 F hgs => ?_
      (repeat first|refine A.s rfl ?_|refine A.r rfl rfl ?_|refine A.b rfl fun bx=>?_|refine A.step rfl ?_|refine A.v rfl rfl ?_); refine A.ret1 (Λ' := []) rfl rfl rfl (List.nil_sublist _) ⟨?_, rfl⟩; refine Sb.eq (ab_eq ?_)
      simp only [fitsM, fitsL, fitC, if_pos]
      cases (kind == 1) <;> cases (kind == 2) <;> cases (kind == 3) <;> cases (n == 0) <;> cases (n == 1) <;> simp
    · simp only [encK, encKl]
      by_cases hv : v < l.length
      · refine Exists.elim (at_ex h1 hv) fun x hx => ?_
        refine Pure.of (S := tt) (fn := Tryz.f84) (n := 214) tt_ok Tryz.func84 rfl rfl rfl rfl fun w0 h0 F hgs => ?_
        (repeat first|refine A.s rfl ?_|refine A.r rfl rfl ?_|refine A.b rfl fun bx=>?_)
        refine A.valE 48 rfl (x' := AB true) (ab_eq (by rw [hlen]; simp [hv])) ?_
        (repeat first|refine A.s rfl ?_|refine A.r rfl rfl ?_); refine A.x rfl h1 (map_at hx) rfl rfl ?_; (repeat refine A.s rfl ?_)
        refine A.split 57 rfl (fun h => ?_) (fun h => ?_)
        · (repeat first|refine A.s rfl ?_|refine A.r rfl rfl ?_); refine A.x rfl h1 (map_at hx) rfl rfl ?_; (repeat refine A.s rfl ?_); refine A.ret1 (Λ' := []) rfl rfl rfl (List.nil_sublist _) ⟨?_, rfl⟩; refine Sb.eq (ab_eq ?_); (try simp only [cond_true, cond_false] at h); (try simp only [cond_true, cond_false] at h'); simp [fitsM, fitsL, fitC, hx, h]
        · (repeat refine A.s rfl ?_); refine A.ret1 (Λ' := []) rfl rfl rfl (List.nil_sublist _) ⟨?_, rfl⟩; refine Sb.eq (ab_eq ?_); (try simp only [cond_true, cond_false] at h); (try simp only [cond_true, cond_false] at h'); simp [fitsM, fitsL, fitC, hx, h]
      · refine Pure.of (S := tt) (fn := Tryz.f84) (n := 214) tt_ok Tryz.func84 rfl rfl rfl rfl fun w0 h0 F hgs => ?_
        (repeat first|refine A.s rfl ?_|refine A.r rfl rfl ?_|refine A.b rfl fun bx=>?_)
        refine A.valE 48 rfl (x' := AB false) (ab_eq (by rw [hlen]; simp; omega)) ?_
        (repeat refine A.s rfl ?_); refine A.ret1 (Λ' := []) rfl rfl rfl (List.nil_sublist _) ⟨?_, rfl⟩; refine Sb.eq (ab_eq ?_); simp [fitsM, fitsL, fitC, at_none (l := l) (i := v) (by omega)]
    · rw [ht, htl, htl] at hn
      have ea := encK_eq a
      have ih := fits16_p l N a 1 (by omega) h3
      rw [ea] at ih
      simp only [encK, encKl]
      by_cases hv : v < l.length
      · refine Exists.elim (at_ex h1 hv) fun x hx => ?_
        refine Pure.of (S := tt) (fn := Tryz.f84) (n := 214) tt_ok Tryz.func84 rfl rfl rfl rfl fun w0 h0 F hgs => ?_
        (repeat first|refine A.s rfl ?_|refine A.r rfl rfl ?_|refine A.b rfl fun bx=>?_)
        refine A.valE 74 rfl (x' := AB true) (ab_eq (by rw [hlen]; simp [hv])) ?_
        (repeat first|refine A.s rfl ?_|refine A.r rfl rfl ?_); refine A.x rfl h1 (map_at hx) rfl rfl ?_; (repeat refine A.s rfl ?_)
        refine A.split 83 rfl (fun h => ?_) (fun h => ?_)
        · (repeat first|refine A.s rfl ?_|refine A.r rfl rfl ?_); refine A.x rfl h1 (map_at hx) rfl rfl ?_; (repeat refine A.s rfl ?_)
          refine A.split 93 rfl (fun h' => ?_) (fun h' => ?_)
          · (repeat first|refine A.s rfl ?_|refine A.r rfl rfl ?_); refine A.x rfl (by decide) (by rfl) ea rfl ?_
            (repeat refine A.s rfl ?_); refine A.c rfl ih .refl ?_; (repeat refine A.s rfl ?_); refine A.ret1 (Λ' := []) rfl rfl rfl (List.nil_sublist _) ⟨?_, rfl⟩; refine Sb.eq (ab_eq ?_); (try simp only [cond_true, cond_false] at h); (try simp only [cond_true, cond_false] at h'); simp [fitsM, fitsL, fitC, hx, h, h']
          · (repeat refine A.s rfl ?_); refine A.ret1 (Λ' := []) rfl rfl rfl (List.nil_sublist _) ⟨?_, rfl⟩; refine Sb.eq (ab_eq ?_); (try simp only [cond_true, cond_false] at h); (try simp only [cond_true, cond_false] at h'); simp [fitsM, fitsL, fitC, hx, h, h']
        · (repeat refine A.s rfl ?_); refine A.ret1 (Λ' := []) rfl rfl rfl (List.nil_sublist _) ⟨?_, rfl⟩; refine Sb.eq (ab_eq ?_); (try simp only [cond_true, cond_false] at h); (try simp only [cond_true, cond_false] at h'); simp [fitsM, fitsL, fitC, hx, h]
      · refine Pure.of (S := tt) (fn := Tryz.f84) (n := 214) tt_ok Tryz.func84 rfl rfl rfl rfl fun w0 h0 F hgs => ?_
        (repeat first|refine A.s rfl ?_|refine A.r rfl rfl ?_|refine A.b rfl fun bx=>?_)
        refine A.valE 74 rfl (x' := AB false) (ab_eq (by rw [hlen]; simp; omega)) ?_
        (repeat refine A.s rfl ?_); refine A.ret1 (Λ' := []) rfl rfl rfl (List.nil_sublist _) ⟨?_, rfl⟩; refine Sb.eq (ab_eq ?_); simp [fitsM, fitsL, fitC, at_none (l := l) (i := v) (by omega)]
    · rw [ht, htl, htl] at hn
      have ea := encK_eq a
      have ih1 := fits16_p l N a 1 (by omega) h3
      have ih3 := fits16_p l N a 3 (by omega) h3
      rw [ea] at ih1 ih3
      simp only [encK, encKl]
      by_cases ho : o = 26
      · refine Pure.of (S := tt) (fn := Tryz.f84) (n := 214) tt_ok Tryz.func84 rfl rfl rfl rfl fun w0 h0 F hgs => ?_
        (repeat first|refine A.s rfl ?_|refine A.r rfl rfl ?_|refine A.b rfl fun bx=>?_)
        refine A.valE 135 rfl (x' := AB true) (ab_eq (by simp [ho])) ?_
        (repeat refine A.s rfl ?_)
        refine A.split 138 rfl (fun h => ?_) (fun h => ?_)
        · (repeat first|refine A.s rfl ?_|refine A.r rfl rfl ?_); refine A.x rfl (by decide) (by rfl) ea rfl ?_
          (repeat refine A.s rfl ?_); refine A.c rfl ih3 .refl ?_; (repeat refine A.s rfl ?_); refine A.ret1 (Λ' := []) rfl rfl rfl (List.nil_sublist _) ⟨?_, rfl⟩; refine Sb.eq (ab_eq ?_); (try simp only [cond_true, cond_false] at h); (try simp only [cond_true, cond_false] at h'); simp [fitsM, fitsL, fitC, ho, h]
        · (repeat refine A.s rfl ?_); refine A.ret1 (Λ' := []) rfl rfl rfl (List.nil_sublist _) ⟨?_, rfl⟩; refine Sb.eq (ab_eq ?_); (try simp only [cond_true, cond_false] at h); (try simp only [cond_true, cond_false] at h'); simp [fitsM, fitsL, fitC, ho, h]
      · refine Pure.of (S := tt) (fn := Tryz.f84) (n := 214) tt_ok Tryz.func84 rfl rfl rfl rfl fun w0 h0 F hgs => ?_
        (repeat first|refine A.s rfl ?_|refine A.r rfl rfl ?_|refine A.b rfl fun bx=>?_)
        refine A.valE 135 rfl (x' := AB false) (ab_eq (by simp [ho])) ?_
        (repeat refine A.s rfl ?_)
        refine A.split 148 rfl (fun h => ?_) (fun h => ?_)
        · (repeat first|refine A.s rfl ?_|refine A.r rfl rfl ?_); refine A.x rfl (by decide) (by rfl) ea rfl ?_
          (repeat refine A.s rfl ?_); refine A.c rfl ih1 .refl ?_; (repeat refine A.s rfl ?_); refine A.ret1 (Λ' := []) rfl rfl rfl (List.nil_sublist _) ⟨?_, rfl⟩; refine Sb.eq (ab_eq ?_); (try simp only [cond_true, cond_false] at h); (try simp only [cond_true, cond_false] at h'); simp [fitsM, fitsL, fitC, ho, h]
        · (repeat refine A.s rfl ?_); refine A.ret1 (Λ' := []) rfl rfl rfl (List.nil_sublist _) ⟨?_, rfl⟩; refine Sb.eq (ab_eq ?_); (try simp only [cond_true, cond_false] at h); (try simp only [cond_true, cond_false] at h'); simp [fitsM, fitsL, fitC, ho, h]
    · rw [ht, htl, htl, htl] at hn
      have hB : ∀ j, Pure Tryz.prog gs0 94 [varsA l, encK ⟨5, o, 0, 0, 0, [a, b]⟩, AU8 j] (AB (fitsM l a j && fitsM l b j)) := fun j => both_p l 5 o 0 0 0 a b j (fits16_p l N a j (by omega) h3) (fits16_p l N b j (by omega) h4)
      have hB1 := hB 1
      have hB2 := hB 2
      have hB3 := hB 3
      simp only [encK, encKl] at hB1 hB2 hB3 ⊢
      by_cases g1 : o ≤ 13
      · refine Pure.of (S := tt) (fn := Tryz.f84) (n := 214) tt_ok Tryz.func84 rfl rfl rfl rfl fun w0 h0 F hgs => ?_
        (repeat first|refine A.s rfl ?_|refine A.r rfl rfl ?_|refine A.b rfl fun bx=>?_)
        refine A.valE 156 rfl (x' := AB true) (ab_eq (by simp [g1])) ?_
        (repeat refine A.s rfl ?_)
        refine A.split 162 rfl (fun h => ?_) (fun h => ?_)
        · (repeat first|refine A.s rfl ?_|refine A.r rfl rfl ?_); refine A.c rfl hB1 .refl ?_; (repeat refine A.s rfl ?_); refine A.ret1 (Λ' := []) rfl rfl rfl (List.nil_sublist _) ⟨?_, rfl⟩; refine Sb.eq (ab_eq ?_); (try simp only [cond_true, cond_false] at h); (try simp only [cond_true, cond_false] at h'); simp [fitsM, fitsL, fitC, g1, h]
        · (repeat refine A.s rfl ?_); refine A.ret1 (Λ' := []) rfl rfl rfl (List.nil_sublist _) ⟨?_, rfl⟩; refine Sb.eq (ab_eq ?_); (try simp only [cond_true, cond_false] at h); (try simp only [cond_true, cond_false] at h'); simp [fitsM, fitsL, fitC, g1, h]
      by_cases g2 : kind = 3
      case neg =>
        refine Pure.of (S := tt) (fn := Tryz.f84) (n := 214) tt_ok Tryz.func84 rfl rfl rfl rfl fun w0 h0 F hgs => ?_
        (repeat first|refine A.s rfl ?_|refine A.r rfl rfl ?_|refine A.b rfl fun bx=>?_)
        refine A.valE 156 rfl (x' := AB false) (ab_eq (by simp; omega)) ?_
        (repeat refine A.s rfl ?_)
        refine A.valE 167 rfl (x' := AB true) (ab_eq (by simp [g2])) ?_
        (repeat refine A.s rfl ?_); refine A.ret1 (Λ' := []) rfl rfl rfl (List.nil_sublist _) ⟨?_, rfl⟩; refine Sb.eq (ab_eq ?_); simp [fitsM, fitsL, fitC, g1, g2]
      by_cases g3 : o = 14
      · refine Pure.of (S := tt) (fn := Tryz.f84) (n := 214) tt_ok Tryz.func84 rfl rfl rfl rfl fun w0 h0 F hgs => ?_
        (repeat first|refine A.s rfl ?_|refine A.r rfl rfl ?_|refine A.b rfl fun bx=>?_)
        refine A.valE 156 rfl (x' := AB false) (ab_eq (by simp; omega)) ?_
        (repeat refine A.s rfl ?_)
        refine A.valE 167 rfl (x' := AB false) (ab_eq (by simp [g2])) ?_
        (repeat first|refine A.s rfl ?_|refine A.r rfl rfl ?_)
        refine A.valE 174 rfl (x' := AB true) (ab_eq (by simp [g3])) ?_
        ((repeat first|refine A.s rfl ?_|refine A.r rfl rfl ?_); refine A.c rfl hB1 .refl ?_; (repeat refine A.s rfl ?_); refine A.split 182 rfl (fun h => ?_) (fun h => ?_); ((repeat refine A.s rfl ?_); refine A.ret1 (Λ' := []) rfl rfl rfl (List.nil_sublist _) ⟨?_, rfl⟩; refine Sb.eq (ab_eq ?_); simp only [cond_true, cond_false, Bool.and_eq_true] at h; simp [fitsM, fitsL, fitC, g2, h.1, h.2, *]); ((repeat first|refine A.s rfl ?_|refine A.r rfl rfl ?_); refine A.c rfl hB2 .refl ?_; (repeat refine A.s rfl ?_); refine A.split 187 rfl (fun h' => ?_) (fun h' => ?_); ((repeat refine A.s rfl ?_); refine A.ret1 (Λ' := []) rfl rfl rfl (List.nil_sublist _) ⟨?_, rfl⟩; refine Sb.eq (ab_eq ?_); simp only [cond_true, cond_false, Bool.and_eq_true] at h'; simp [fitsM, fitsL, fitC, g2, h, h'.1, h'.2, *]); ((repeat first|refine A.s rfl ?_|refine A.r rfl rfl ?_); refine A.c rfl hB3 .refl ?_; (repeat refine A.s rfl ?_); refine A.ret1 (Λ' := []) rfl rfl rfl (List.nil_sublist _) ⟨?_, rfl⟩; refine Sb.eq (ab_eq ?_); (try simp only [cond_true, cond_false] at h'); simp [fitsM, fitsL, fitC, g2, h, h', *])))
      by_cases g4 : o = 15
      · refine Pure.of (S := tt) (fn := Tryz.f84) (n := 214) tt_ok Tryz.func84 rfl rfl rfl rfl fun w0 h0 F hgs => ?_
        (repeat first|refine A.s rfl ?_|refine A.r rfl rfl ?_|refine A.b rfl fun bx=>?_)
        refine A.valE 156 rfl (x' := AB false) (ab_eq (by simp; omega)) ?_
        (repeat refine A.s rfl ?_)
        refine A.valE 167 rfl (x' := AB false) (ab_eq (by simp [g2])) ?_
        (repeat first|refine A.s rfl ?_|refine A.r rfl rfl ?_)
        refine A.valE 174 rfl (x' := AB false) (ab_eq (by simp [g3])) ?_
        (repeat first|refine A.s rfl ?_|refine A.r rfl rfl ?_)
        refine A.valE 170 rfl (x' := AB true) (ab_eq (by simp [g4])) ?_
        ((repeat first|refine A.s rfl ?_|refine A.r rfl rfl ?_); refine A.c rfl hB1 .refl ?_; (repeat refine A.s rfl ?_); refine A.split 182 rfl (fun h => ?_) (fun h => ?_); ((repeat refine A.s rfl ?_); refine A.ret1 (Λ' := []) rfl rfl rfl (List.nil_sublist _) ⟨?_, rfl⟩; refine Sb.eq (ab_eq ?_); simp only [cond_true, cond_false, Bool.and_eq_true] at h; simp [fitsM, fitsL, fitC, g2, h.1, h.2, *]); ((repeat first|refine A.s rfl ?_|refine A.r rfl rfl ?_); refine A.c rfl hB2 .refl ?_; (repeat refine A.s rfl ?_); refine A.split 187 rfl (fun h' => ?_) (fun h' => ?_); ((repeat refine A.s rfl ?_); refine A.ret1 (Λ' := []) rfl rfl rfl (List.nil_sublist _) ⟨?_, rfl⟩; refine Sb.eq (ab_eq ?_); simp only [cond_true, cond_false, Bool.and_eq_true] at h'; simp [fitsM, fitsL, fitC, g2, h, h'.1, h'.2, *]); ((repeat first|refine A.s rfl ?_|refine A.r rfl rfl ?_); refine A.c rfl hB3 .refl ?_; (repeat refine A.s rfl ?_); refine A.ret1 (Λ' := []) rfl rfl rfl (List.nil_sublist _) ⟨?_, rfl⟩; refine Sb.eq (ab_eq ?_); (try simp only [cond_true, cond_false] at h'); simp [fitsM, fitsL, fitC, g2, h, h', *])))
      by_cases g5 : o ≤ 19
      · refine Pure.of (S := tt) (fn := Tryz.f84) (n := 214) tt_ok Tryz.func84 rfl rfl rfl rfl fun w0 h0 F hgs => ?_
        (repeat first|refine A.s rfl ?_|refine A.r rfl rfl ?_|refine A.b rfl fun bx=>?_)
        refine A.valE 156 rfl (x' := AB false) (ab_eq (by simp; omega)) ?_
        (repeat refine A.s rfl ?_)
        refine A.valE 167 rfl (x' := AB false) (ab_eq (by simp [g2])) ?_
        (repeat first|refine A.s rfl ?_|refine A.r rfl rfl ?_)
        refine A.valE 174 rfl (x' := AB false) (ab_eq (by simp [g3])) ?_
        (repeat first|refine A.s rfl ?_|refine A.r rfl rfl ?_)
        refine A.valE 170 rfl (x' := AB false) (ab_eq (by simp [g4])) ?_
        (repeat first|refine A.s rfl ?_|refine A.r rfl rfl ?_)
        refine A.valE 192 rfl (x' := AB true) (ab_eq (by simp [g5])) ?_
        (repeat first|refine A.s rfl ?_|refine A.r rfl rfl ?_); refine A.c rfl hB1 .refl ?_
        (repeat refine A.s rfl ?_)
        refine A.split 199 rfl (fun h => ?_) (fun h => ?_)
        · (repeat refine A.s rfl ?_); refine A.ret1 (Λ' := []) rfl rfl rfl (List.nil_sublist _) ⟨?_, rfl⟩; refine Sb.eq (ab_eq ?_); simp only [cond_true, cond_false, Bool.and_eq_true] at h; simp [fitsM, fitsL, fitC, g1, g2, g3, g4, g5, h.1, h.2]
        · (repeat first|refine A.s rfl ?_|refine A.r rfl rfl ?_); refine A.c rfl hB2 .refl ?_; (repeat refine A.s rfl ?_); refine A.ret1 (Λ' := []) rfl rfl rfl (List.nil_sublist _) ⟨?_, rfl⟩; refine Sb.eq (ab_eq ?_); (try simp only [cond_true, cond_false] at h); (try simp only [cond_true, cond_false] at h'); simp [fitsM, fitsL, fitC, g1, g2, g3, g4, g5, h]
      by_cases g6 : o = 22
      · refine Pure.of (S := tt) (fn := Tryz.f84) (n := 214) tt_ok Tryz.func84 rfl rfl rfl rfl fun w0 h0 F hgs => ?_
        (repeat first|refine A.s rfl ?_|refine A.r rfl rfl ?_|refine A.b rfl fun bx=>?_)
        refine A.valE 156 rfl (x' := AB false) (ab_eq (by simp; omega)) ?_
        (repeat refine A.s rfl ?_)
        refine A.valE 167 rfl (x' := AB false) (ab_eq (by simp [g2])) ?_
        (repeat first|refine A.s rfl ?_|refine A.r rfl rfl ?_)
        refine A.valE 174 rfl (x' := AB false) (ab_eq (by simp [g3])) ?_
        (repeat first|refine A.s rfl ?_|refine A.r rfl rfl ?_)
        refine A.valE 170 rfl (x' := AB false) (ab_eq (by simp [g4])) ?_
        (repeat first|refine A.s rfl ?_|refine A.r rfl rfl ?_)
        refine A.valE 192 rfl (x' := AB false) (ab_eq (by simp; omega)) ?_
        (repeat first|refine A.s rfl ?_|refine A.r rfl rfl ?_)
        refine A.valE 204 rfl (x' := AB true) (ab_eq (by simp [g6])) ?_
        (repeat first|refine A.s rfl ?_|refine A.r rfl rfl ?_); refine A.c rfl hB1 .refl ?_
        (repeat refine A.s rfl ?_); refine A.ret1 (Λ' := []) rfl rfl rfl (List.nil_sublist _) ⟨?_, rfl⟩; refine Sb.eq (ab_eq ?_); simp [fitsM, fitsL, fitC, g2, g6]
      · refine Pure.of (S := tt) (fn := Tryz.f84) (n := 214) tt_ok Tryz.func84 rfl rfl rfl rfl fun w0 h0 F hgs => ?_
        (repeat first|refine A.s rfl ?_|refine A.r rfl rfl ?_|refine A.b rfl fun bx=>?_)
        refine A.valE 156 rfl (x' := AB false) (ab_eq (by simp; omega)) ?_
        (repeat refine A.s rfl ?_)
        refine A.valE 167 rfl (x' := AB false) (ab_eq (by simp [g2])) ?_
        (repeat first|refine A.s rfl ?_|refine A.r rfl rfl ?_)
        refine A.valE 174 rfl (x' := AB false) (ab_eq (by simp [g3])) ?_
        (repeat first|refine A.s rfl ?_|refine A.r rfl rfl ?_)
        refine A.valE 170 rfl (x' := AB false) (ab_eq (by simp [g4])) ?_
        (repeat first|refine A.s rfl ?_|refine A.r rfl rfl ?_)
        refine A.valE 192 rfl (x' := AB false) (ab_eq (by simp; omega)) ?_
        (repeat first|refine A.s rfl ?_|refine A.r rfl rfl ?_)
        refine A.valE 204 rfl (x' := AB false) (ab_eq (by simp [g6])) ?_
        (repeat first|refine A.s rfl ?_|refine A.r rfl rfl ?_); refine A.c rfl hB3 .refl ?_
        (repeat refine A.s rfl ?_); refine A.ret1 (Λ' := []) rfl rfl rfl (List.nil_sublist _) ⟨?_, rfl⟩; refine Sb.eq (ab_eq ?_); simp [fitsM, fitsL, fitC, g1, g2, g3, g4, g5, g6]
    · rw [ht, htl, htl] at hn
      have ea := encK_eq a
      have ih1 := fits16_p l N a 1 (by omega) h3
      have ih2 := fits16_p l N a 2 (by omega) h3
      have ih3 := fits16_p l N a 3 (by omega) h3
      rw [ea] at ih1 ih2 ih3
      simp only [encK, encKl]
      by_cases ho : t = kind
      · refine Pure.of (S := tt) (fn := Tryz.f84) (n := 214) tt_ok Tryz.func84 rfl rfl rfl rfl fun w0 h0 F hgs => ?_
        (repeat first|refine A.s rfl ?_|refine A.r rfl rfl ?_|refine A.b rfl fun bx=>?_)
        refine A.valE 107 rfl (x' := AB true) (ab_eq (by simp [ho])) ?_
        (repeat first|refine A.s rfl ?_|refine A.r rfl rfl ?_); refine A.x rfl (by decide) (by rfl) ea rfl ?_
        (repeat refine A.s rfl ?_); refine A.c rfl ih1 .refl ?_; (repeat refine A.s rfl ?_)
        refine A.split 114 rfl (fun h => ?_) (fun h => ?_)
        · (repeat refine A.s rfl ?_); refine A.ret1 (Λ' := []) rfl rfl rfl (List.nil_sublist _) ⟨?_, rfl⟩; refine Sb.eq (ab_eq ?_); (try simp only [cond_true, cond_false] at h); (try simp only [cond_true, cond_false] at h'); simp [fitsM, fitsL, fitC, ho, h]
        · (repeat first|refine A.s rfl ?_|refine A.r rfl rfl ?_); refine A.x rfl (by decide) (by rfl) ea rfl ?_
          (repeat refine A.s rfl ?_); refine A.c rfl ih2 .refl ?_; (repeat refine A.s rfl ?_)
          refine A.split 122 rfl (fun h' => ?_) (fun h' => ?_)
          · (repeat refine A.s rfl ?_); refine A.ret1 (Λ' := []) rfl rfl rfl (List.nil_sublist _) ⟨?_, rfl⟩; refine Sb.eq (ab_eq ?_); (try simp only [cond_true, cond_false] at h); (try simp only [cond_true, cond_false] at h'); simp [fitsM, fitsL, fitC, ho, h, h']
          · (repeat first|refine A.s rfl ?_|refine A.r rfl rfl ?_); refine A.x rfl (by decide) (by rfl) ea rfl ?_
            (repeat refine A.s rfl ?_); refine A.c rfl ih3 .refl ?_; (repeat refine A.s rfl ?_); refine A.ret1 (Λ' := []) rfl rfl rfl (List.nil_sublist _) ⟨?_, rfl⟩; refine Sb.eq (ab_eq ?_); (try simp only [cond_true, cond_false] at h); (try simp only [cond_true, cond_false] at h'); simp [fitsM, fitsL, fitC, ho, h, h']
      · refine Pure.of (S := tt) (fn := Tryz.f84) (n := 214) tt_ok Tryz.func84 rfl rfl rfl rfl fun w0 h0 F hgs => ?_
        (repeat first|refine A.s rfl ?_|refine A.r rfl rfl ?_|refine A.b rfl fun bx=>?_)
        refine A.valE 107 rfl (x' := AB false) (ab_eq (by simp [ho])) ?_
        (repeat refine A.s rfl ?_); refine A.ret1 (Λ' := []) rfl rfl rfl (List.nil_sublist _) ⟨?_, rfl⟩; refine Sb.eq (ab_eq ?_); simp [fitsM, fitsL, fitC, ho]
end Go.Proofs.YtgmeahcclogfmaaGreatDoor
/-!
  Layer 16: valid expressions by the program.
-/
namespace Go.Proofs.YtgmeahcclogfmaaGreatDoor
open Go Go.Tp
set_option linter.unusedVariables false
set_option linter.unusedSimpArgs false
set_option maxRecDepth 100000
set_option maxHeartbeats 4000000
def primB (k : Int) : Bool := decide (1 ≤ k) && decide (k ≤ 3)
theorem kprim_p (k : Int) : Pure Tryz.prog gs0 28 [AU8 k] (AB (primB k)) := by
  refine Pure.of (S := tt) (fn := Tryz.f28) (n := 9) tt_ok Tryz.func28 rfl rfl rfl rfl fun w0 h0 F hgs => ?_
  (repeat refine A.s rfl ?_)
  ((fail_if_success (refine A.lit? rfl ?_)); refine A.gS rfl (fun hc => ?_) (fun hc => ?_))
  · (repeat refine A.s rfl ?_); refine A.ret1 (Λ' := []) rfl rfl rfl (List.nil_sublist _) ⟨?_, rfl⟩; refine Sb.eq (ab_eq ?_); rw [primB, hc]; rfl
  · (repeat refine A.s rfl ?_); refine A.ret1 (Λ' := []) rfl rfl rfl (List.nil_sublist _) ⟨?_, rfl⟩; refine Sb.eq (ab_eq ?_); rw [primB, hc]; rfl
theorem fields_p (e : KE) (hw : wfK e) : Pure Tryz.prog gs0 96 [encK e] (AB (shapeB e)) := by
  obtain ⟨k, o, t, n, v, l⟩ := e
  simp only [wfK, u8, i32, i64] at hw
  obtain ⟨hw, _⟩ := hw
  rw [encK]
  by_cases h1 : k = 1
  · subst h1; refine Pure.of (S := tt) (fn := Tryz.f96) (n := 87) tt_ok Tryz.func96 rfl rfl rfl rfl fun w0 h0 F hgs => ?_
    (repeat first|refine A.s rfl ?_|refine A.r rfl rfl ?_|refine A.w rfl rfl ?_|refine A.b rfl fun bx=>?_|refine A.step rfl ?_|refine A.v rfl rfl ?_); refine A.ret1 (Λ' := []) rfl rfl rfl (List.nil_sublist _) ⟨?_, rfl⟩; (refine Sb.eq (ab_iff ?_); simp only [shapeB, KE.kind, KE.oper, KE.to, KE.n, KE.v, KE.l, encKl_len]; generalize l.length = len at *; (try simp at hc); (try simp at hd); simp; omega)
  by_cases h2 : k = 2
  · subst h2; refine Pure.of (S := tt) (fn := Tryz.f96) (n := 87) tt_ok Tryz.func96 rfl rfl rfl rfl fun w0 h0 F hgs => ?_
    (repeat first|refine A.s rfl ?_|refine A.r rfl rfl ?_|refine A.w rfl rfl ?_|refine A.b rfl fun bx=>?_|refine A.step rfl ?_|refine A.v rfl rfl ?_); refine A.ret1 (Λ' := []) rfl rfl rfl (List.nil_sublist _) ⟨?_, rfl⟩; (refine Sb.eq (ab_iff ?_); simp only [shapeB, KE.kind, KE.oper, KE.to, KE.n, KE.v, KE.l, encKl_len]; generalize l.length = len at *; (try simp at hc); (try simp at hd); simp; omega)
  by_cases h3 : k = 3
  · subst h3; refine Pure.of (S := tt) (fn := Tryz.f96) (n := 87) tt_ok Tryz.func96 rfl rfl rfl rfl fun w0 h0 F hgs => ?_
    (repeat first|refine A.s rfl ?_|refine A.r rfl rfl ?_|refine A.w rfl rfl ?_|refine A.b rfl fun bx=>?_|refine A.step rfl ?_|refine A.v rfl rfl ?_); refine A.ret1 (Λ' := []) rfl rfl rfl (List.nil_sublist _) ⟨?_, rfl⟩; (refine Sb.eq (ab_iff ?_); simp only [shapeB, KE.kind, KE.oper, KE.to, KE.n, KE.v, KE.l, encKl_len]; generalize l.length = len at *; (try simp at hc); (try simp at hd); simp; omega)
  by_cases h4 : k = 4
  · subst h4; refine Pure.of (S := tt) (fn := Tryz.f96) (n := 87) tt_ok Tryz.func96 rfl rfl rfl rfl fun w0 h0 F hgs => ?_
    (repeat first|refine A.s rfl ?_|refine A.r rfl rfl ?_|refine A.w rfl rfl ?_|refine A.b rfl fun bx=>?_|refine A.step rfl ?_|refine A.v rfl rfl ?_); refine A.ret1 (Λ' := []) rfl rfl rfl (List.nil_sublist _) ⟨?_, rfl⟩; (refine Sb.eq (ab_iff ?_); simp only [shapeB, KE.kind, KE.oper, KE.to, KE.n, KE.v, KE.l, encKl_len]; generalize l.length = len at *; (try simp at hc); (try simp at hd); simp; omega)
  by_cases h5 : k = 5
  · subst h5; refine Pure.of (S := tt) (fn := Tryz.f96) (n := 87) tt_ok Tryz.func96 rfl rfl rfl rfl fun w0 h0 F hgs => ?_
    (repeat first|refine A.s rfl ?_|refine A.r rfl rfl ?_|refine A.w rfl rfl ?_|refine A.b rfl fun bx=>?_|refine A.step rfl ?_|refine A.v rfl rfl ?_); refine A.ret1 (Λ' := []) rfl rfl rfl (List.nil_sublist _) ⟨?_, rfl⟩; (refine Sb.eq (ab_iff ?_); simp only [shapeB, KE.kind, KE.oper, KE.to, KE.n, KE.v, KE.l, encKl_len]; generalize l.length = len at *; (try simp at hc); (try simp at hd); simp; omega)
  by_cases h6 : k = 6
  · subst h6; refine Pure.of (S := tt) (fn := Tryz.f96) (n := 87) tt_ok Tryz.func96 rfl rfl rfl rfl fun w0 h0 F hgs => ?_
    (repeat first|refine A.s rfl ?_|refine A.r rfl rfl ?_|refine A.w rfl rfl ?_|refine A.b rfl fun bx=>?_|refine A.step rfl ?_|refine A.v rfl rfl ?_); refine A.c rfl (kprim_p _) .refl ?_; (repeat first|refine A.s rfl ?_|refine A.w rfl rfl ?_|refine A.step rfl ?_|refine A.v rfl rfl ?_); refine A.ret1 (Λ' := []) rfl rfl rfl (List.nil_sublist _) ⟨?_, rfl⟩
    refine Sb.eq (ab_iff ?_); simp only [shapeB, primB, KE.kind, KE.oper, KE.to, KE.n, KE.v, KE.l, encKl_len]; generalize l.length = len at *; simp; omega
  refine Pure.of (S := tt) (fn := Tryz.f96) (n := 87) tt_ok Tryz.func96 rfl rfl rfl rfl fun w0 h0 F hgs => ?_
  (repeat (first | first|refine A.s rfl ?_|refine A.r rfl rfl ?_|refine A.w rfl rfl ?_|refine A.p rfl ?_|refine A.b rfl fun bx=>?_|refine A.t rfl fun bl=>?_ | refine A.cond rfl (fun h => (by simp at h; omega)) (fun _ => ?_) | first|refine A.step rfl ?_|refine A.v rfl rfl ?_)); refine A.ret1 (Λ' := []) rfl rfl rfl (List.nil_sublist _) ⟨?_, rfl⟩; refine Sb.eq ?_; simp [shapeB, *]
/-! ### rooms -/
def fitsKl (l : List KE) (room deep : Int) : Prop := finel l = true ∧ (szl l : Int) ≤ room ∧ (htl l : Int) ≤ deep
instance (l : List KE) (room deep : Int) : Decidable (fitsKl l room deep) := by unfold fitsKl; infer_instance
theorem sz_eq (e : KE) : sz e = 1 + szl e.l := by obtain ⟨k, o, t, n, v, l⟩ := e; rw [sz]
theorem fine_eq (e : KE) : fine e = (shapeB e && finel e.l) := by obtain ⟨k, o, t, n, v, l⟩ := e; rw [fine]
theorem fits_l {e : KE} {room deep : Int} (hr : 1 ≤ room) (hd : 1 ≤ deep) (hs : shapeB e = true) : fits e room deep ↔ fitsKl e.l (room - 1) (deep - 1) := by
  unfold fits fitsKl
  rw [fine_eq, hs, Bool.true_and, sz_eq, ht_eq]
  constructor
  · rintro ⟨h1, h2, h3⟩; exact ⟨h1, by omega, by omega⟩
  · rintro ⟨h1, h2, h3⟩; exact ⟨h1, by omega, by omega⟩
theorem szl_append (a b : List KE) : szl (a ++ b) = szl a + szl b := by
  induction a with
  | nil => simp [szl]
  | cons x r ih => rw [List.cons_append, szl, szl, ih]; omega
theorem htl_append (a b : List KE) : htl (a ++ b) = max (htl a) (htl b) := by
  induction a with
  | nil => simp [htl]
  | cons x r ih => rw [List.cons_append, htl, htl, ih]; omega
theorem finel_append (a b : List KE) : finel (a ++ b) = (finel a && finel b) := by
  induction a with
  | nil => simp [finel]
  | cons x r ih => rw [List.cons_append, finel, finel, ih, Bool.and_assoc]
theorem fitsKl_snoc {a : List KE} {x : KE} {room deep : Int} (ha : fitsKl a room deep) : fitsKl (a ++ [x]) room deep ↔ fits x (room - szl a) deep := by
  obtain ⟨h1, h2, h3⟩ := ha
  unfold fitsKl fits
  rw [finel_append, szl_append, htl_append, h1, Bool.true_and]
  simp only [finel, szl, htl, Bool.and_true]
  constructor
  · rintro ⟨g1, g2, g3⟩; exact ⟨g1, by omega, by omega⟩
  · rintro ⟨g1, g2, g3⟩; exact ⟨g1, by omega, by omega⟩
theorem fitsKl_take {l : List KE} {room deep : Int} (h : fitsKl l room deep) (i : Nat) : fitsKl (l.take i) room deep := by
  obtain ⟨h1, h2, h3⟩ := h
  rw [← List.take_append_drop i l] at h1 h2 h3
  rw [finel_append, Bool.and_eq_true] at h1
  rw [szl_append] at h2
  rw [htl_append] at h3
  exact ⟨h1.1, by omega, by omega⟩
theorem szl_le : ∀ {l : List KE} {x : KE}, x ∈ l → sz x ≤ szl l
  | [], _, h => by cases h
  | y :: r, x, h => by
    rw [szl]
    rcases List.mem_cons.1 h with rfl | h
    · omega
    · have := szl_le h; omega
theorem wfKl_mem : ∀ {l : List KE}, wfKl l → ∀ x, x ∈ l → wfK x
  | [], _, x, h => by cases h
  | y :: r, hw, x, h => by
    rw [wfKl] at hw
    rcases List.mem_cons.1 h with rfl | h
    · exact hw.1
    · exact wfKl_mem hw.2 x h
theorem wfK_l {e : KE} (h : wfK e) : wfKl e.l := by obtain ⟨k, o, t, n, v, l⟩ := e; rw [wfK] at h; exact h.2
theorem encKl_at {l : List KE} {i : Nat} {x : KE} (h : l[i]? = some x) : (encKl l)[i]? = some (encK x) := by rw [encKl_map]; exact map_at h
abbrev cellsK (e : KE) : AV := .ag [AU8 e.kind, AU8 e.oper, AU8 e.to, AI32 e.n, AI e.v, .sl 6 (encKl e.l) none]
/-! ### the closure that counts -/
abbrev ptrA (b : Nat) : AV := .v (.pointer (some ⟨b, 0, none⟩))
def closK (b1 b2 : Nat) : AV := .fn 95 [] [ptrA b1, ptrA b2]
abbrev visKX (e : KE) (left deep : Int) : Int → AV := fun _ => AB (decide (fits e left (33 - deep)))
abbrev visKL (b1 b2 : Nat) : Int → List AEnt := fun i => [.box b1 (AI i), .box b2 (closK b1 b2)]
abbrev visKP (e : KE) (left deep : Int) : Int → Prop := fun i => fits e left (33 - deep) → i = left - sz e
def VisK (b1 b2 : Nat) (x : KE) (left deep : Int) : Prop := FunE Tryz.prog gs0 95 [cellsK x, AI deep, ptrA b1, ptrA b2] [.box b1 (AI left), .box b2 (closK b1 b2)] (visKX x left deep) (visKL b1 b2) (visKP x left deep)
theorem cloK_p (b1 b2 b3 : Nat) (x : KE) (left deep : Int) (hd : IntKind.i64.wrap (deep + 1) = deep + 1) (hcb : VisK b1 b2 x left (deep + 1)) :
    FunE Tryz.prog gs0 98 [cellsK x, ptrA b2, ptrA b3] [.box b1 (AI left), .box b2 (closK b1 b2), .box b3 (AI deep)] (fun _ : Int => AB (!decide (fits x left (33 - (deep + 1))))) (fun i => [.box b1 (AI i), .box b2 (closK b1 b2), .box b3 (AI deep)]) (visKP x left (deep + 1)) := by
  unfold FunE
  refine Fun.of (S := tt) (fn := Tryz.f98) (n := 11) tt_ok Tryz.func98 rfl rfl rfl rfl fun w0 h0 F hgs => ?_
  (repeat first|refine A.s rfl ?_|refine A.r rfl rfl ?_|refine A.b rfl fun bx=>?_)
  refine A.valE 8 rfl (x' := AI (deep + 1)) (ai_eq hd) ?_
  refine A.e rfl hcb .refl (List.perm_middle (a := _) (l₁ := [_, _]) (l₂ := [_])).symm fun lf hlf => ?_
  (repeat refine A.s rfl ?_)
  refine A.ret1 (Λ' := [.box b1 _, .box b2 _, .box b3 _]) rfl rfl rfl (by repeat (first | exact List.Sublist.refl _ | apply List.Sublist.cons_cons | apply List.Sublist.cons)) ⟨lf, .refl, rfl, hlf⟩
abbrev idxKP (l : List KE) (left D : Int) : Int × Int → Prop := fun p => (p.1 = -1 ∨ 0 ≤ p.1) ∧ (p.1 = -1 ↔ fitsKl l left D) ∧ (p.1 = -1 → p.2 = left - szl l)
theorem idxK_p (b1 b2 b3 : Nat) (l : List KE) (left deep : Int) (hd : IntKind.i64.wrap (deep + 1) = deep + 1) (hl : l.length ≤ 2) (h0 : 0 ≤ left) (h33 : 0 ≤ 33 - (deep + 1))
    (hcb : ∀ x, x ∈ l → ∀ lf, 0 ≤ lf → lf ≤ left → VisK b1 b2 x lf (deep + 1)) :
    FunE Tryz.prog gs0 103 [.sl 6 (encKl l) none, .fn 98 [] [ptrA b2, ptrA b3]] [.box b1 (AI left), .box b2 (closK b1 b2), .box b3 (AI deep)]
      (fun p : Int × Int => AI p.1) (fun p => [.box b1 (AI p.2), .box b2 (closK b1 b2), .box b3 (AI deep)]) (idxKP l left (33 - (deep + 1))) := by
  unfold FunE
  refine Fun.of (S := tt) (fn := Tryz.f103) (n := 19) tt_ok Tryz.func103 rfl rfl rfl rfl fun w0 h0 F hgs => ?_
  (repeat refine A.s rfl ?_)
  refine A.valE 7 rfl (x' := AI (l.length : Nat)) (ai_eq (by rw [encKl_len])) ?_
  refine A.entsEq (Λ' := [.box b1 (AI (left - (szl (l.take 0) : Nat))), .box b2 (closK b1 b2), .box b3 (AI deep)]) (by simp [szl]) ?_
  refine A.keep [0, 1, 7, 8] rfl ?_
  refine A.loopP (ι := Nat × Int) (fun p => (⟨[(0, .sl 6 (encKl l) none), (1, .fn 98 [] [ptrA b2, ptrA b3]), (7, AI (l.length : Nat)), (8, AI (p.1 : Nat))], []⟩, [.box b1 (AI p.2), .box b2 (closK b1 b2), .box b3 (AI deep)]))
    (fun p => p.1 ≤ l.length ∧ fitsKl (l.take p.1) left (33 - (deep + 1)) ∧ p.2 = left - (szl (l.take p.1) : Nat)) (fun p => l.length - p.1) (0, left - (szl (l.take 0) : Nat)) ⟨Nat.zero_le _, ⟨by simp [finel], by simp [szl]; omega, by simp [htl]; omega⟩, rfl⟩ rfl fun p hi ih => ?_
  obtain ⟨i, lf⟩ := p
  obtain ⟨hi1, hi2, hi3⟩ := hi
  simp only at hi1 hi2 hi3
  have hsz2 := hi2.2.1
  (repeat refine A.s rfl ?_)
  refine A.cond rfl (fun hc => ?_) (fun hc => ?_)
  · simp at hc
    refine Exists.elim (at_exN (l := l) (i := i) (by omega)) fun x hx => ?_
    have hxm := List.mem_of_getElem? hx
    have htk : l.take (i + 1) = l.take i ++ [x] := by rw [List.take_add_one, hx]; rfl
    have hsn := fitsKl_snoc (x := x) hi2
    rw [← htk, ← hi3] at hsn
    have hcx := cloK_p b1 b2 b3 x lf deep hd (hcb x hxm lf (by omega) (by omega))
    (repeat refine A.s rfl ?_)
    refine A.x rfl (by show (0 : Int) ≤ (i : Nat); omega) (encKl_at hx) (encK_eq x) rfl ?_
    (repeat refine A.s rfl ?_)
    refine A.e rfl hcx .refl (by exact List.Perm.refl _) fun lf2 hlf2 => ?_
    by_cases hfx : fits x lf (33 - (deep + 1))
    · refine A.valE 16 rfl (x' := AB false) (ab_eq (by simp [hfx])) ?_
      (repeat refine A.s rfl ?_)
      refine A.valE 8 rfl (x' := AI ((i + 1 : Nat) : Int)) (inc_eq i (by omega)) ?_
      refine A.sub (by repeat (first | exact trivial | refine ⟨⟨_, rfl, .refl⟩, ?_⟩)) (ih (i + 1, lf2) ⟨by show i + 1 ≤ _; omega, hsn.2 hfx, ?_⟩ (by show _ - (i + 1) < _ - i; omega))
      show lf2 = left - (szl (l.take (i + 1)) : Nat)
      rw [hlf2 hfx, htk, szl_append, hi3]; simp [szl]; omega
    · have hnf : ¬ fitsKl l left (33 - (deep + 1)) := fun hf => hfx (hsn.1 (fitsKl_take hf (i + 1)))
      refine A.valE 16 rfl (x' := AB true) (ab_eq (by simp [hfx])) ?_
      (repeat refine A.s rfl ?_)
      refine A.ret1 (Λ' := [.box b1 _, .box b2 _, .box b3 _]) rfl rfl rfl (by repeat (first | exact List.Sublist.refl _ | apply List.Sublist.cons_cons | apply List.Sublist.cons)) ⟨((i : Int), lf2), .refl, rfl, .inr (by simp only; omega), ⟨fun h => by simp only at h; omega, fun h => absurd h hnf⟩, fun h => by simp only at h; omega⟩
  · simp at hc
    have hil : i = l.length := by omega
    rw [hil, List.take_length] at hi2 hi3
    (repeat refine A.s rfl ?_)
    refine A.ret1 (Λ' := [.box b1 _, .box b2 _, .box b3 _]) rfl rfl rfl (by repeat (first | exact List.Sublist.refl _ | apply List.Sublist.cons_cons | apply List.Sublist.cons)) ⟨((-1 : Int), lf), .refl, rfl, .inl rfl, ⟨fun _ => hi2, fun _ => rfl⟩, fun _ => hi3⟩
theorem hasK_p (b1 b2 b3 : Nat) (l : List KE) (left deep : Int) (hd : IntKind.i64.wrap (deep + 1) = deep + 1) (hl : l.length ≤ 2) (h0 : 0 ≤ left) (h33 : 0 ≤ 33 - (deep + 1))
    (hcb : ∀ x, x ∈ l → ∀ lf, 0 ≤ lf → lf ≤ left → VisK b1 b2 x lf (deep + 1)) :
    FunE Tryz.prog gs0 97 [.sl 6 (encKl l) none, .fn 98 [] [ptrA b2, ptrA b3]] [.box b1 (AI left), .box b2 (closK b1 b2), .box b3 (AI deep)]
      (fun p : Int × Int => AB (decide (0 ≤ p.1))) (fun p => [.box b1 (AI p.2), .box b2 (closK b1 b2), .box b3 (AI deep)]) (idxKP l left (33 - (deep + 1))) := by
  have hi := idxK_p b1 b2 b3 l left deep hd hl h0 h33 hcb
  unfold FunE
  refine Fun.of (S := tt) (fn := Tryz.f97) (n := 9) tt_ok Tryz.func97 rfl rfl rfl rfl fun w0 h0 F hgs => ?_
  (repeat refine A.s rfl ?_)
  refine A.e rfl hi .refl (by exact List.Perm.refl _) fun p hp => ?_
  (repeat refine A.s rfl ?_)
  refine A.ret1 (Λ' := [.box b1 _, .box b2 _, .box b3 _]) rfl rfl rfl (by repeat (first | exact List.Sublist.refl _ | apply List.Sublist.cons_cons | apply List.Sublist.cons)) ⟨p, .refl, rfl, hp⟩
theorem visK_p (b1 b2 : Nat) : ∀ (N : Nat) (e : KE) (left deep : Int), sz e ≤ N → wfK e → 0 ≤ left → left ≤ 256 → 1 ≤ deep → deep ≤ 33 → VisK b1 b2 e left deep
  | 0, e, left, deep, hn, _, _, _, _, _ => by have := sz_pos e; omega
  | N + 1, e, left, deep, hn, hw, r0, r1, d0, d1 => by
    have hw1 : IntKind.i64.wrap (left - 1) = left - 1 := wr64 _ (by omega)
    have hw2 : IntKind.i64.wrap (deep + 1) = deep + 1 := wr64 _ (by omega)
    have hp := fields_p e hw
    rw [encK_eq] at hp
    unfold VisK FunE
    by_cases hz : left = 0
    · have hnf : ¬ fits e left (33 - deep) := fits_not (by omega)
      refine Fun.of (S := tt) (fn := Tryz.f95) (n := 25) tt_ok Tryz.func95 rfl rfl rfl rfl fun w0 h0 F hgs => ?_
      (repeat first|refine A.s rfl ?_|refine A.r rfl rfl ?_|refine A.w rfl rfl ?_|refine A.b rfl fun bx=>?_)
      refine A.valE 10 rfl (x' := AB true) (ab_eq (by rw [hw1]; simp; omega)) ?_
      refine A.valE 11 rfl (x' := AB true) (ab_eq (by rw [hw1]; simp; omega)) ?_
      (repeat refine A.s rfl ?_); (refine A.ret1 (Λ' := [.box b1 _, .box b2 _]) rfl rfl rfl (by repeat (first | exact List.Sublist.refl _ | apply List.Sublist.cons_cons | apply List.Sublist.cons)) ⟨_, Sb.eq (ab_eq ?_), rfl, ?_⟩; exact (decide_eq_false hnf).symm; exact fun h => absurd h hnf)
    by_cases hd33 : deep = 33
    · have hnf : ¬ fits e left (33 - deep) := fits_not (by omega)
      refine Fun.of (S := tt) (fn := Tryz.f95) (n := 25) tt_ok Tryz.func95 rfl rfl rfl rfl fun w0 h0 F hgs => ?_
      (repeat first|refine A.s rfl ?_|refine A.r rfl rfl ?_|refine A.w rfl rfl ?_|refine A.b rfl fun bx=>?_)
      refine A.valE 11 rfl (x' := AB false) (ab_eq (by rw [hw1]; simp; omega)) ?_
      (repeat first|refine A.s rfl ?_|refine A.r rfl rfl ?_)
      refine A.valE 15 rfl (x' := AB true) (ab_eq (by simp; omega)) ?_
      (repeat refine A.s rfl ?_); (refine A.ret1 (Λ' := [.box b1 _, .box b2 _]) rfl rfl rfl (by repeat (first | exact List.Sublist.refl _ | apply List.Sublist.cons_cons | apply List.Sublist.cons)) ⟨_, Sb.eq (ab_eq ?_), rfl, ?_⟩; exact (decide_eq_false hnf).symm; exact fun h => absurd h hnf)
    by_cases hs : shapeB e = true
    case neg =>
      have hs : shapeB e = false := by simpa using hs
      have hnf : ¬ fits e left (33 - deep) := fits_not (by simp [hs])
      rw [hs] at hp
      refine Fun.of (S := tt) (fn := Tryz.f95) (n := 25) tt_ok Tryz.func95 rfl rfl rfl rfl fun w0 h0 F hgs => ?_
      (repeat first|refine A.s rfl ?_|refine A.r rfl rfl ?_|refine A.w rfl rfl ?_|refine A.b rfl fun bx=>?_)
      refine A.valE 11 rfl (x' := AB false) (ab_eq (by rw [hw1]; simp; omega)) ?_
      (repeat first|refine A.s rfl ?_|refine A.r rfl rfl ?_)
      refine A.valE 15 rfl (x' := AB false) (ab_eq (by simp; omega)) ?_
      (repeat refine A.r rfl rfl ?_); refine A.c rfl hp .refl ?_
      (repeat refine A.s rfl ?_); (refine A.ret1 (Λ' := [.box b1 _, .box b2 _]) rfl rfl rfl (by repeat (first | exact List.Sublist.refl _ | apply List.Sublist.cons_cons | apply List.Sublist.cons)) ⟨_, Sb.eq (ab_eq ?_), rfl, ?_⟩; exact (decide_eq_false hnf).symm; exact fun h => absurd h hnf)
    rw [hs] at hp
    have hfl := fits_l (e := e) (room := left) (deep := 33 - deep) (by omega) (by omega) hs
    rw [show 33 - deep - 1 = 33 - (deep + 1) by omega] at hfl
    have hll : e.l.length ≤ 2 := by rcases shape_cases hs with ⟨k, o, t, n, v, rfl⟩ | ⟨k, o, t, n, v, a, rfl⟩ | ⟨k, o, t, n, v, a, b, rfl⟩ <;> simp
    have hse := sz_eq e
    have hhas := fun b3 => hasK_p b1 b2 b3 e.l (left - 1) deep hw2 hll (by omega) (by omega) fun x hx lf l0 l1 => visK_p b1 b2 N x lf (deep + 1) (by have := szl_le hx; omega) (wfKl_mem (wfK_l hw) x hx) l0 (by omega) (by omega) (by omega)
    refine Fun.of (S := tt) (fn := Tryz.f95) (n := 25) tt_ok Tryz.func95 rfl rfl rfl rfl fun w0 h0 F hgs => ?_
    (repeat first|refine A.s rfl ?_|refine A.r rfl rfl ?_|refine A.w rfl rfl ?_|refine A.b rfl fun bx=>?_)
    refine A.valE 11 rfl (x' := AB false) (ab_eq (by rw [hw1]; simp; omega)) ?_
    (repeat first|refine A.s rfl ?_|refine A.r rfl rfl ?_)
    refine A.valE 15 rfl (x' := AB false) (ab_eq (by simp; omega)) ?_
    (repeat refine A.r rfl rfl ?_); refine A.c rfl hp .refl ?_
    (repeat first|refine A.s rfl ?_|refine A.r rfl rfl ?_)
    refine A.entsEq (Λ' := [.box _ (AI deep), .box _ (cellsK e), .box b1 (AI (left - 1)), .box b2 (closK b1 b2)]) (by rw [hw1]) ?_
    refine A.e (Λ2 := [.box _ (cellsK e)]) rfl (hhas _) .refl (List.perm_append_comm (l₁ := [_, _]) (l₂ := [_, _])) fun p hpp => ?_
    refine A.valE 23 rfl (x' := AB (decide (¬ fits e left (33 - deep)))) (ab_eq ?_) ?_
    · rw [Bool.eq_iff_iff]
      simp only [decide_eq_true_eq, hfl, ← hpp.2.1]
      have := hpp.1
      constructor
      · intro h; omega
      · intro h; omega
    (repeat refine A.s rfl ?_)
    refine A.ret1 (Λ' := [.box b1 _, .box b2 _]) rfl rfl rfl (by repeat (first | exact List.Sublist.refl _ | apply List.Sublist.cons_cons | apply List.Sublist.cons)) ⟨p.2, Sb.eq (ab_eq (by simp)), rfl, fun h => ?_⟩
    have := hpp.2.2 (hpp.2.1.2 (hfl.1 h))
    omega
theorem kvalid_p (e : KE) (hw : wfK e) : Pure Tryz.prog gs0 87 [encK e] (AB (decide (valid e))) := by
  have hp := fun b1 b2 => visK_p b1 b2 (sz e) e 256 1 (Nat.le_refl _) hw (by decide) (by decide) (by decide) (by decide)
  rw [encK_eq]
  refine Pure.of (S := tt) (fn := Tryz.f87) (n := 9) tt_ok Tryz.func87 rfl rfl rfl rfl fun w0 h0 F hgs => ?_
  (repeat first|refine A.s rfl ?_|refine A.r rfl rfl ?_|refine A.w rfl rfl ?_|refine A.b rfl fun bx=>?_)
  refine A.e rfl (hp _ _) .refl (List.Perm.swap _ _ _) fun lf _ => ?_
  (repeat refine A.s rfl ?_)
  refine A.ret1 (Λ' := []) rfl rfl rfl (List.nil_sublist _) ⟨?_, rfl⟩
  exact .refl
end Go.Proofs.YtgmeahcclogfmaaGreatDoor
/-!
  Layer 16: the kinds that an expression fits, by the program.
-/
namespace Go.Proofs.YtgmeahcclogfmaaGreatDoor
open Go Go.Tp
set_option linter.unusedVariables false
set_option linter.unusedSimpArgs false
set_option maxRecDepth 100000
set_option maxHeartbeats 4000000
abbrev AU64 (n : Int) : AV := .v (.int .u64 n)
theorem au64_eq {a b : Int} (h : a = b) : AU64 a = AU64 b := by rw [h]
def kS (a b c : Bool) : Int := (if a then 2 else 0) + (if b then 4 else 0) + (if c then 8 else 0)
abbrev kF (f : FK) : Int := kS (f 1) (f 2) (f 3)
theorem kS_ones (a b c : Bool) : bitsOf .and .u64 18446744073709551615 (kS a b c) = kS a b c := by cases a <;> cases b <;> cases c <;> kernel_rfl
theorem kS_and (a b c a' b' c' : Bool) : bitsOf .and .u64 (kS a b c) (kS a' b' c') = kS (a && a') (b && b') (c && c') := by cases a <;> cases b <;> cases c <;> cases a' <;> cases b' <;> cases c' <;> kernel_rfl
def hasB (n k : Int) : Bool := bitsOf .and .u64 (arV .shr .u64 n k) 1 == 1
theorem has_1 (a b c : Bool) : hasB (kS a b c) 1 = a := by cases a <;> cases b <;> cases c <;> kernel_rfl
theorem has_2 (a b c : Bool) : hasB (kS a b c) 2 = b := by cases a <;> cases b <;> cases c <;> kernel_rfl
theorem has_3 (a b c : Bool) : hasB (kS a b c) 3 = c := by cases a <;> cases b <;> cases c <;> kernel_rfl
theorem kS_ne (a b c : Bool) : (kS a b c != 0) = (a || b || c) := by cases a <;> cases b <;> cases c <;> rfl
theorem kS_6 (a b c : Bool) : (bitsOf .and .u64 (kS a b c) 6 != 0) = (a || b) := by cases a <;> cases b <;> cases c <;> kernel_rfl
def ofI (l : List Int) : Int := l.foldl (fun s k => bitsOf .or .u64 s (arV .shl .u64 1 k)) 0
theorem has_p (n k : Int) (hk : 0 ≤ k ∧ k < 64) : Pure Tryz.prog gs0 89 [AU64 n, AU8 k] (AB (hasB n k)) := by
  refine Pure.of (S := tt) (fn := Tryz.f89) (n := 10) tt_ok Tryz.func89 rfl rfl rfl rfl fun w0 h0 F hgs => ?_
  (repeat refine A.s rfl ?_)
  refine A.shift rfl rfl rfl rfl rfl rfl (by omega) ?_
  (repeat refine A.s rfl ?_); refine A.ret1 (Λ' := []) rfl rfl rfl (List.nil_sublist _) ⟨?_, rfl⟩; exact .refl
theorem of_p (l : List Int) (hl : ∀ k, k ∈ l → 0 ≤ k ∧ k < 64) (hb : l.length ≤ 10) : Pure Tryz.prog gs0 100 [.sl 1 (l.map AU8) none] (AU64 (ofI l)) := by
  refine Pure.of (S := tt) (fn := Tryz.f100) (n := 17) tt_ok Tryz.func100 rfl rfl rfl rfl fun w0 h0 F hgs => ?_
  (repeat refine A.s rfl ?_)
  refine A.valE 6 rfl (x' := AI (l.length : Nat)) (ai_eq (by rw [List.length_map])) ?_
  refine A.keep [2, 5, 6, 7] rfl ?_
  refine A.loopP (ι := Nat × Int) (fun p => (⟨[(2, AU64 p.2), (5, .sl 1 (l.map AU8) none), (6, AI (l.length : Nat)), (7, AI (p.1 : Nat))], []⟩, [])) (fun p => p.1 ≤ l.length ∧ (l.drop p.1).foldl (fun s k => bitsOf .or .u64 s (arV .shl .u64 1 k)) p.2 = ofI l) (fun p => l.length - p.1) (0, 0) ⟨by simp, rfl⟩ rfl fun p hi ih => ?_
  obtain ⟨i, s⟩ := p
  simp only at hi ih ⊢
  (repeat refine A.s rfl ?_)
  refine A.cond rfl (fun hc => ?_) (fun hc => ?_)
  · simp at hc
    refine Exists.elim (at_exN (l := l) (i := i) (by omega)) fun k hk => ?_
    have hkb := hl k (List.mem_of_getElem? hk)
    have h1 := hi.2
    rw [drop_at hk, List.foldl_cons] at h1
    (repeat refine A.s rfl ?_)
    refine A.x rfl (by omega) (map_at hk) rfl rfl ?_
    (repeat refine A.s rfl ?_)
    refine A.shift rfl rfl rfl rfl rfl rfl (by omega) ?_
    (repeat refine A.s rfl ?_)
    refine A.valE 7 rfl (x' := AI ((i + 1 : Nat) : Int)) (inc_eq i (by omega)) ?_
    refine A.sub (by repeat (first | exact trivial | refine ⟨⟨_, rfl, .refl⟩, ?_⟩)) (ih (i + 1, bitsOf .or .u64 s (arV .shl .u64 1 k)) ⟨by simp only; omega, h1⟩ (by simp only; omega))
  · simp at hc
    have hil : i = l.length := by omega
    have h1 := hi.2
    rw [hil, List.drop_length, List.foldl_nil] at h1
    (repeat refine A.s rfl ?_); refine A.ret1 (Λ' := []) rfl rfl rfl (List.nil_sublist _) ⟨?_, rfl⟩; rw [h1]; exact .refl
abbrev isF (b : Bool) (k : Int) : FK := fun j => b && j == k
theorem when_p (b : Bool) (k : Int) (hk : 1 ≤ k ∧ k ≤ 3) : Pure Tryz.prog gs0 99 [AB b, AU8 k] (AU64 (kF (isF b k))) := by
  have ho := of_p [k] (fun x hx => by rw [List.mem_singleton.1 hx]; omega) (by simp)
  cases b with
  | false =>
    refine Pure.of (S := tt) (fn := Tryz.f99) (n := 9) tt_ok Tryz.func99 rfl rfl rfl rfl fun w0 h0 F hgs => ?_
    (repeat refine A.s rfl ?_); refine A.ret1 (Λ' := []) rfl rfl rfl (List.nil_sublist _) ⟨?_, rfl⟩; exact .refl
  | true =>
    have he : ofI [k] = kF (isF true k) := by
      have : k = 1 ∨ k = 2 ∨ k = 3 := by omega
      rcases this with rfl | rfl | rfl
      · exact (show ofI [1] = kF (isF true 1) by kernel_rfl)
      · exact (show ofI [2] = kF (isF true 2) by kernel_rfl)
      · exact (show ofI [3] = kF (isF true 3) by kernel_rfl)
    rw [he] at ho
    refine Pure.of (S := tt) (fn := Tryz.f99) (n := 9) tt_ok Tryz.func99 rfl rfl rfl rfl fun w0 h0 F hgs => ?_
    (repeat first|refine A.s rfl ?_|refine A.t rfl fun bl=>?_); refine A.c rfl ho (by repeat (first | exact Sb.refl | exact SbL.refl | refine SbL.cons ?_ ?_ | exact Sb.nil | exact Sb.own1 | refine Sb.own ?_ | refine Sb.ag ?_ | refine Sb.tp ?_)) ?_; (repeat refine A.s rfl ?_); refine A.ret1 (Λ' := []) rfl rfl rfl (List.nil_sublist _) ⟨?_, rfl⟩; exact .refl
theorem shr_0 (n : Int) (d : Nat) (hd : d < 32) : (arV .shr .i32 n (d : Int) == 0) = decide (0 ≤ n ∧ n < 2 ^ d) := by
  simp only [arV, show IntKind.i32.bits = 32 from rfl, Int.toNat_natCast, Nat.min_eq_left (Nat.le_of_lt hd)]
  have h2 : (0 : Int) < 2 ^ d := Int.pow_pos (by omega)
  rw [Int.fdiv_eq_ediv_of_nonneg _ (Int.le_of_lt h2), Bool.eq_iff_iff]
  simp only [beq_iff_eq, decide_eq_true_eq]
  constructor
  · intro h
    have h3 := Int.emod_add_mul_ediv n (2 ^ d)
    rw [h] at h3
    have h4 := Int.emod_nonneg n (Int.ne_of_gt h2)
    have h5 := Int.emod_lt_of_pos n h2
    omega
  · rintro ⟨h3, h4⟩; exact Int.ediv_eq_zero_of_lt h3 h4
def numF (n : Int) : FK := fun k => k == 1 || (k == 2 && decide (0 ≤ n) && decide (n ≤ 255)) || (k == 3 && (n == 0 || n == 1))
theorem knumber_p (n : Int) : Pure Tryz.prog gs0 101 [AI32 n] (AU64 (kF (numF n))) := by
  have o3 := of_p [1, 2, 3] (by decide) (by decide)
  have o2 := of_p [1, 2] (by decide) (by decide)
  have o1 := of_p [1] (by decide) (by decide)
  have e1 := shr_0 n 1 (by decide)
  have e8 := shr_0 n 8 (by decide)
  by_cases h1 : 0 ≤ n ∧ n < 2
  · have hk : ofI [1, 2, 3] = kF (numF n) := by
      have : n = 0 ∨ n = 1 := by omega
      rcases this with rfl | rfl
      · exact (show ofI [1, 2, 3] = kF (numF 0) by kernel_rfl)
      · exact (show ofI [1, 2, 3] = kF (numF 1) by kernel_rfl)
    rw [hk] at o3
    refine Pure.of (S := tt) (fn := Tryz.f101) (n := 17) tt_ok Tryz.func101 rfl rfl rfl rfl fun w0 h0 F hgs => ?_
    (repeat refine A.s rfl ?_)
    refine A.shift rfl rfl rfl rfl rfl rfl (by omega) ?_
    (repeat refine A.s rfl ?_)
    refine A.valE 3 rfl (x' := AB true) (ab_eq (e1.trans (decide_eq_true h1))) ?_
    (repeat first|refine A.s rfl ?_|refine A.t rfl fun bl=>?_); refine A.c rfl o3 (by repeat (first | exact Sb.refl | exact SbL.refl | refine SbL.cons ?_ ?_ | exact Sb.nil | exact Sb.own1 | refine Sb.own ?_ | refine Sb.ag ?_ | refine Sb.tp ?_)) ?_; (repeat refine A.s rfl ?_); refine A.ret1 (Λ' := []) rfl rfl rfl (List.nil_sublist _) ⟨?_, rfl⟩; exact .refl
  by_cases h2 : 0 ≤ n ∧ n < 256
  · have hk : ofI [1, 2] = kF (numF n) := by
      have : numF n 3 = false := by simp [numF]; omega
      have h3 : numF n 2 = true := by simp [numF]; omega
      show _ = kS (numF n 1) (numF n 2) (numF n 3)
      rw [this, h3]; kernel_rfl
    rw [hk] at o2
    refine Pure.of (S := tt) (fn := Tryz.f101) (n := 17) tt_ok Tryz.func101 rfl rfl rfl rfl fun w0 h0 F hgs => ?_
    (repeat refine A.s rfl ?_)
    refine A.shift rfl rfl rfl rfl rfl rfl (by omega) ?_
    (repeat refine A.s rfl ?_)
    refine A.valE 3 rfl (x' := AB false) (ab_eq (e1.trans (decide_eq_false (fun h => h1 h)))) ?_
    (repeat refine A.s rfl ?_)
    refine A.shift rfl rfl rfl rfl rfl rfl (by omega) ?_
    (repeat refine A.s rfl ?_)
    refine A.valE 9 rfl (x' := AB true) (ab_eq (e8.trans (decide_eq_true h2))) ?_
    (repeat first|refine A.s rfl ?_|refine A.t rfl fun bl=>?_); refine A.c rfl o2 (by repeat (first | exact Sb.refl | exact SbL.refl | refine SbL.cons ?_ ?_ | exact Sb.nil | exact Sb.own1 | refine Sb.own ?_ | refine Sb.ag ?_ | refine Sb.tp ?_)) ?_; (repeat refine A.s rfl ?_); refine A.ret1 (Λ' := []) rfl rfl rfl (List.nil_sublist _) ⟨?_, rfl⟩; exact .refl
  · have hk : ofI [1] = kF (numF n) := by
      have : numF n 3 = false := by simp [numF]; omega
      have h3 : numF n 2 = false := by simp [numF]; omega
      show _ = kS (numF n 1) (numF n 2) (numF n 3)
      rw [this, h3]; kernel_rfl
    rw [hk] at o1
    refine Pure.of (S := tt) (fn := Tryz.f101) (n := 17) tt_ok Tryz.func101 rfl rfl rfl rfl fun w0 h0 F hgs => ?_
    (repeat refine A.s rfl ?_)
    refine A.shift rfl rfl rfl rfl rfl rfl (by omega) ?_
    (repeat refine A.s rfl ?_)
    refine A.valE 3 rfl (x' := AB false) (ab_eq (e1.trans (decide_eq_false (fun h => h1 h)))) ?_
    (repeat refine A.s rfl ?_)
    refine A.shift rfl rfl rfl rfl rfl rfl (by omega) ?_
    (repeat refine A.s rfl ?_)
    refine A.valE 9 rfl (x' := AB false) (ab_eq (e8.trans (decide_eq_false (fun h => h2 h)))) ?_
    (repeat first|refine A.s rfl ?_|refine A.t rfl fun bl=>?_); refine A.c rfl o1 (by repeat (first | exact Sb.refl | exact SbL.refl | refine SbL.cons ?_ ?_ | exact Sb.nil | exact Sb.own1 | refine Sb.own ?_ | refine Sb.ag ?_ | refine Sb.tp ?_)) ?_; (repeat refine A.s rfl ?_); refine A.ret1 (Λ' := []) rfl rfl rfl (List.nil_sublist _) ⟨?_, rfl⟩; exact .refl
end Go.Proofs.YtgmeahcclogfmaaGreatDoor
