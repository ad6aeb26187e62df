/-
  Chapter 14: fold.Apply, and what it answers.
-/
import Derived.Test.YtbdjbmbghfbenaaQ14a

namespace Go.Proofs.Ytbdjbmbghfbenaa
open Go Go.Tp
set_option linter.unusedVariables false
set_option linter.unusedSimpArgs false
set_option maxRecDepth 100000
set_option maxHeartbeats 4000000

def isT (a : Int) : Bool := a == 0 || a == 1
/-- what an operator makes -/
def applyC (o a b : Int) : Option Int :=
  if o = 1 then fit32 (a + b) else if o = 2 then fit32 (a - b) else if o = 3 then fit32 (a * b)
  else if o = 4 then (if divB a b then none else some (a.tdiv b)) else if o = 5 then (if b = 0 then none else some (a.tmod b))
  else if o = 6 then some (w32 (a + b)) else if o = 7 then some (w32 (a - b)) else if o = 8 then some (w32 (a * b))
  else if o = 9 then some (band a b) else if o = 10 then some (bor a b) else if o = 11 then some (bxor a b)
  else if o = 12 then some (shlM a b) else if o = 13 then some (shrM a b)
  else if o = 14 then some (truthI (a == b)) else if o = 15 then some (truthI (a != b)) else if o = 16 then some (truthI (decide (a < b)))
  else if o = 17 then some (truthI (decide (b < a))) else if o = 18 then some (truthI (decide (a ≤ b))) else if o = 19 then some (truthI (decide (b ≤ a)))
  else if o = 20 then (if isT a && isT b then some (truthI (a == 1 && b == 1)) else none)
  else if o = 21 then (if isT a && isT b then some (truthI (a == 1 || b == 1)) else none)
  else if o = 22 then some (truthI (decide (0 < w32 (a - b)))) else if o = 23 then fit32 (0 - a) else if o = 24 then some (w32 (0 - a))
  else if o = 25 then some (bnot a) else if o = 26 then (if isT a then some (truthI (a == 0)) else none) else none

theorem total_cases (o a b : Int) (ha : i32 a) (hb : i32 b) :
    (∃ f caps r, totalF o = .fn f [] caps ∧ applyC o a b = some r ∧ Pure Try.prog gs0 f ([AI32 a, AI32 b] ++ caps) (AI32 r)) ∨
    (totalF o = .v .nilFunc ∧ (o < 6 ∨ 19 < o ∧ o ≠ 22 ∧ o ≠ 24 ∧ o ≠ 25)) := by
  by_cases h : o = 6
  · subst h; exact .inl ⟨_, [], _, rfl, rfl, wsum_p a b⟩
  by_cases h : o = 7
  · subst h; exact .inl ⟨_, [], _, rfl, rfl, wdiff_p a b⟩
  by_cases h : o = 8
  · subst h; exact .inl ⟨_, [], _, rfl, rfl, wprod_p a b⟩
  by_cases h : o = 9
  · subst h; exact .inl ⟨_, [], _, rfl, rfl, t1_p a b⟩
  by_cases h : o = 10
  · subst h; exact .inl ⟨_, [], _, rfl, rfl, t2_p a b⟩
  by_cases h : o = 11
  · subst h; exact .inl ⟨_, [], _, rfl, rfl, t3_p a b⟩
  by_cases h : o = 12
  · subst h; exact .inl ⟨_, [], _, rfl, rfl, wshl_p a b ha hb⟩
  by_cases h : o = 13
  · subst h; exact .inl ⟨_, [], _, rfl, rfl, wshr_p a b ha hb⟩
  by_cases h : o = 24
  · subst h; exact .inl ⟨_, [], _, rfl, rfl, t4_p a b⟩
  by_cases h : o = 25
  · subst h; exact .inl ⟨_, [], _, rfl, rfl, t5_p a b⟩
  by_cases h : o = 14
  · subst h; exact .inl ⟨_, _, _, rfl, rfl, t6_p _ a b _ (te1_p a b)⟩
  by_cases h : o = 15
  · subst h; exact .inl ⟨_, _, _, rfl, rfl, t6_p _ a b _ (te2_p a b)⟩
  by_cases h : o = 16
  · subst h; exact .inl ⟨_, _, _, rfl, rfl, t6_p _ a b _ (te3_p a b)⟩
  by_cases h : o = 17
  · subst h; exact .inl ⟨_, _, _, rfl, rfl, t6_p _ a b _ (te4_p a b)⟩
  by_cases h : o = 18
  · subst h; exact .inl ⟨_, _, _, rfl, rfl, t6_p _ a b _ (te5_p a b)⟩
  by_cases h : o = 19
  · subst h; exact .inl ⟨_, _, _, rfl, rfl, t6_p _ a b _ (te6_p a b)⟩
  by_cases h : o = 22
  · subst h; exact .inl ⟨_, _, _, rfl, rfl, t6_p _ a b _ (wafter_p a b)⟩
  refine .inr ⟨?_, by omega⟩
  have ht : testsF o = .v .nilFunc := by unfold testsF; repeat rw [if_neg (by assumption)]
  unfold totalF; rw [ht]; repeat rw [if_neg (by assumption)]

/-! ### partial -/
def overT (a : Int) : Bool := bitsOf .andNot .i32 a 1 != 0
def partR (o a b : Int) : Int × Bool :=
  if o = 1 then (w32 (a + b), fitB (a + b)) else if o = 2 then (w32 (a - b), fitB (a - b)) else if o = 3 then (w32 (a * b), fitB (a * b))
  else if o = 4 then (divM a b, !divB a b) else if o = 5 then (remM a b, !(b == 0)) else if o = 23 then (w32 (0 - a), fitB (0 - a))
  else if o = 20 then (band a b, !overT (bor a b)) else if o = 21 then (bor a b, !overT (bor a b)) else if o = 26 then (w32 (1 - a), !overT a) else (0, false)
theorem partial_p (o a b : Int) (ha : i32 a) (hb : i32 b) : Pure Try.prog gs0 51 [AU8 o, AI32 a, AI32 b] (.tp [AI32 (partR o a b).1, AB (partR o a b).2]) := by
  have z0 : i32 0 := ⟨by decide, by decide⟩
  refine Pure.of (S := tt) (fn := Try.f51) (n := 87) tt_ok Try.func51 rfl rfl rfl rfl fun w0 h0 F hgs => ?_
  (repeat first|refine A.s rfl ?_|refine A.r rfl rfl ?_|refine A.w rfl rfl ?_|refine A.p rfl ?_|refine A.b rfl fun bx=>?_|refine A.t rfl fun bl=>?_|refine A.step rfl ?_|refine A.v rfl rfl ?_); refine A.cond rfl (fun h1 => ?_) (fun h1 => ?_)
  · (repeat first|refine A.s rfl ?_|refine A.r rfl rfl ?_|refine A.w rfl rfl ?_|refine A.p rfl ?_|refine A.b rfl fun bx=>?_|refine A.t rfl fun bl=>?_|refine A.step rfl ?_|refine A.v rfl rfl ?_); refine A.c rfl (wadd_p a b ha hb) .refl ?_; ((repeat first|refine A.s rfl ?_|refine A.r rfl rfl ?_|refine A.w rfl rfl ?_|refine A.p rfl ?_|refine A.b rfl fun bx=>?_|refine A.t rfl fun bl=>?_|refine A.step rfl ?_|refine A.v rfl rfl ?_); refine A.ret2 (Λ' := []) rfl rfl rfl rfl (List.nil_sublist _) ⟨?_, rfl⟩; refine Sb.eq ?_; simp at *; simp [partR, *])
  (repeat first|refine A.s rfl ?_|refine A.r rfl rfl ?_|refine A.w rfl rfl ?_|refine A.p rfl ?_|refine A.b rfl fun bx=>?_|refine A.t rfl fun bl=>?_|refine A.step rfl ?_|refine A.v rfl rfl ?_); refine A.cond rfl (fun h2 => ?_) (fun h2 => ?_)
  · (repeat first|refine A.s rfl ?_|refine A.r rfl rfl ?_|refine A.w rfl rfl ?_|refine A.p rfl ?_|refine A.b rfl fun bx=>?_|refine A.t rfl fun bl=>?_|refine A.step rfl ?_|refine A.v rfl rfl ?_); refine A.c rfl (wsub_p a b ha hb) .refl ?_; ((repeat first|refine A.s rfl ?_|refine A.r rfl rfl ?_|refine A.w rfl rfl ?_|refine A.p rfl ?_|refine A.b rfl fun bx=>?_|refine A.t rfl fun bl=>?_|refine A.step rfl ?_|refine A.v rfl rfl ?_); refine A.ret2 (Λ' := []) rfl rfl rfl rfl (List.nil_sublist _) ⟨?_, rfl⟩; refine Sb.eq ?_; simp at *; simp [partR, *])
  (repeat first|refine A.s rfl ?_|refine A.r rfl rfl ?_|refine A.w rfl rfl ?_|refine A.p rfl ?_|refine A.b rfl fun bx=>?_|refine A.t rfl fun bl=>?_|refine A.step rfl ?_|refine A.v rfl rfl ?_); refine A.cond rfl (fun h3 => ?_) (fun h3 => ?_)
  · (repeat first|refine A.s rfl ?_|refine A.r rfl rfl ?_|refine A.w rfl rfl ?_|refine A.p rfl ?_|refine A.b rfl fun bx=>?_|refine A.t rfl fun bl=>?_|refine A.step rfl ?_|refine A.v rfl rfl ?_); refine A.c rfl (wmul_p a b ha hb) .refl ?_; ((repeat first|refine A.s rfl ?_|refine A.r rfl rfl ?_|refine A.w rfl rfl ?_|refine A.p rfl ?_|refine A.b rfl fun bx=>?_|refine A.t rfl fun bl=>?_|refine A.step rfl ?_|refine A.v rfl rfl ?_); refine A.ret2 (Λ' := []) rfl rfl rfl rfl (List.nil_sublist _) ⟨?_, rfl⟩; refine Sb.eq ?_; simp at *; simp [partR, *])
  (repeat first|refine A.s rfl ?_|refine A.r rfl rfl ?_|refine A.w rfl rfl ?_|refine A.p rfl ?_|refine A.b rfl fun bx=>?_|refine A.t rfl fun bl=>?_|refine A.step rfl ?_|refine A.v rfl rfl ?_); refine A.cond rfl (fun h4 => ?_) (fun h4 => ?_)
  · (repeat first|refine A.s rfl ?_|refine A.r rfl rfl ?_|refine A.w rfl rfl ?_|refine A.p rfl ?_|refine A.b rfl fun bx=>?_|refine A.t rfl fun bl=>?_|refine A.step rfl ?_|refine A.v rfl rfl ?_); refine A.c rfl (wdiv_p a b ha hb) .refl ?_; ((repeat first|refine A.s rfl ?_|refine A.r rfl rfl ?_|refine A.w rfl rfl ?_|refine A.p rfl ?_|refine A.b rfl fun bx=>?_|refine A.t rfl fun bl=>?_|refine A.step rfl ?_|refine A.v rfl rfl ?_); refine A.ret2 (Λ' := []) rfl rfl rfl rfl (List.nil_sublist _) ⟨?_, rfl⟩; refine Sb.eq ?_; simp at *; simp [partR, *])
  (repeat first|refine A.s rfl ?_|refine A.r rfl rfl ?_|refine A.w rfl rfl ?_|refine A.p rfl ?_|refine A.b rfl fun bx=>?_|refine A.t rfl fun bl=>?_|refine A.step rfl ?_|refine A.v rfl rfl ?_); refine A.cond rfl (fun h5 => ?_) (fun h5 => ?_)
  · (repeat first|refine A.s rfl ?_|refine A.r rfl rfl ?_|refine A.w rfl rfl ?_|refine A.p rfl ?_|refine A.b rfl fun bx=>?_|refine A.t rfl fun bl=>?_|refine A.step rfl ?_|refine A.v rfl rfl ?_); refine A.c rfl (wrem_p a b ha hb) .refl ?_; ((repeat first|refine A.s rfl ?_|refine A.r rfl rfl ?_|refine A.w rfl rfl ?_|refine A.p rfl ?_|refine A.b rfl fun bx=>?_|refine A.t rfl fun bl=>?_|refine A.step rfl ?_|refine A.v rfl rfl ?_); refine A.ret2 (Λ' := []) rfl rfl rfl rfl (List.nil_sublist _) ⟨?_, rfl⟩; refine Sb.eq ?_; simp at *; simp [partR, *])
  (repeat first|refine A.s rfl ?_|refine A.r rfl rfl ?_|refine A.w rfl rfl ?_|refine A.p rfl ?_|refine A.b rfl fun bx=>?_|refine A.t rfl fun bl=>?_|refine A.step rfl ?_|refine A.v rfl rfl ?_); refine A.cond rfl (fun h6 => ?_) (fun h6 => ?_)
  · (repeat first|refine A.s rfl ?_|refine A.r rfl rfl ?_|refine A.w rfl rfl ?_|refine A.p rfl ?_|refine A.b rfl fun bx=>?_|refine A.t rfl fun bl=>?_|refine A.step rfl ?_|refine A.v rfl rfl ?_); refine A.c rfl (wsub_p 0 a z0 ha) .refl ?_; ((repeat first|refine A.s rfl ?_|refine A.r rfl rfl ?_|refine A.w rfl rfl ?_|refine A.p rfl ?_|refine A.b rfl fun bx=>?_|refine A.t rfl fun bl=>?_|refine A.step rfl ?_|refine A.v rfl rfl ?_); refine A.ret2 (Λ' := []) rfl rfl rfl rfl (List.nil_sublist _) ⟨?_, rfl⟩; refine Sb.eq ?_; simp at *; simp [partR, *])
  (repeat first|refine A.s rfl ?_|refine A.r rfl rfl ?_|refine A.w rfl rfl ?_|refine A.p rfl ?_|refine A.b rfl fun bx=>?_|refine A.t rfl fun bl=>?_|refine A.step rfl ?_|refine A.v rfl rfl ?_); refine A.cond rfl (fun h7 => ?_) (fun h7 => ?_)
  · (repeat first|refine A.s rfl ?_|refine A.r rfl rfl ?_|refine A.w rfl rfl ?_|refine A.p rfl ?_|refine A.b rfl fun bx=>?_|refine A.t rfl fun bl=>?_|refine A.step rfl ?_|refine A.v rfl rfl ?_); refine A.ret2 (Λ' := []) rfl rfl rfl rfl (List.nil_sublist _) ⟨?_, rfl⟩; refine Sb.eq ?_; simp at h1 h2 h3 h4 h5 h6 h7; subst h7; rfl
  (repeat first|refine A.s rfl ?_|refine A.r rfl rfl ?_|refine A.w rfl rfl ?_|refine A.p rfl ?_|refine A.b rfl fun bx=>?_|refine A.t rfl fun bl=>?_|refine A.step rfl ?_|refine A.v rfl rfl ?_); refine A.cond rfl (fun h8 => ?_) (fun h8 => ?_)
  · (repeat first|refine A.s rfl ?_|refine A.r rfl rfl ?_|refine A.w rfl rfl ?_|refine A.p rfl ?_|refine A.b rfl fun bx=>?_|refine A.t rfl fun bl=>?_|refine A.step rfl ?_|refine A.v rfl rfl ?_); refine A.ret2 (Λ' := []) rfl rfl rfl rfl (List.nil_sublist _) ⟨?_, rfl⟩; refine Sb.eq ?_; simp at h8; subst h8; rfl
  (repeat first|refine A.s rfl ?_|refine A.r rfl rfl ?_|refine A.w rfl rfl ?_|refine A.p rfl ?_|refine A.b rfl fun bx=>?_|refine A.t rfl fun bl=>?_|refine A.step rfl ?_|refine A.v rfl rfl ?_); refine A.cond rfl (fun h9 => ?_) (fun h9 => ?_)
  · (repeat first|refine A.s rfl ?_|refine A.r rfl rfl ?_|refine A.w rfl rfl ?_|refine A.p rfl ?_|refine A.b rfl fun bx=>?_|refine A.t rfl fun bl=>?_|refine A.step rfl ?_|refine A.v rfl rfl ?_); refine A.ret2 (Λ' := []) rfl rfl rfl rfl (List.nil_sublist _) ⟨?_, rfl⟩; refine Sb.eq ?_; simp at h9; subst h9; rfl
  ((repeat first|refine A.s rfl ?_|refine A.r rfl rfl ?_|refine A.w rfl rfl ?_|refine A.p rfl ?_|refine A.b rfl fun bx=>?_|refine A.t rfl fun bl=>?_|refine A.step rfl ?_|refine A.v rfl rfl ?_); refine A.ret2 (Λ' := []) rfl rfl rfl rfl (List.nil_sublist _) ⟨?_, rfl⟩; refine Sb.eq ?_; simp at *; simp [partR, *])

/-! ### bits of truth values -/
theorem ofInt_wrap32 (n : Nat) : BitVec.ofInt 32 (IntKind.i32.wrap (n : Int)) = BitVec.ofNat 32 n := by
  apply BitVec.eq_of_toInt_eq
  rw [BitVec.toInt_ofInt, BitVec.toInt_ofNat', w32_eq]
  rw [Int.bmod_def, Int.bmod_def]
  simp only [show ((2 ^ 32 : Nat) : Int) = 4294967296 by decide]
  split <;> split <;> omega
theorem wrap32_zero {x : BitVec 32} (h : IntKind.i32.wrap (x.toNat : Int) = 0) : x = 0 := by
  have hx := x.isLt
  rw [w32_eq] at h
  apply BitVec.eq_of_toNat_eq
  simp only [BitVec.ofNat_eq_ofNat, BitVec.toNat_ofNat]
  omega
theorem andNot_one {x : BitVec 32} (h : x &&& ~~~(1#32) = 0) : x.toNat < 2 := by
  have key : x >>> 1 = 0#32 := by
    apply BitVec.eq_of_getLsbD_eq
    intro i hi
    have h1 : (x &&& ~~~(1#32)).getLsbD (1 + i) = false := by rw [h]; simp
    rw [BitVec.getLsbD_and, BitVec.getLsbD_not] at h1
    rw [BitVec.getLsbD_ushiftRight]
    by_cases h32 : 1 + i < 32
    · have h2 : (1#32).getLsbD (1 + i) = false := by
        rw [BitVec.getLsbD_ofNat]
        have : (1 : Nat).testBit (1 + i) = false := by rw [Nat.testBit_eq_decide_div_mod_eq]; simp; rw [Nat.div_eq_of_lt (Nat.one_lt_two_pow (by omega))]
        simp [this]
      simp [h2, h32] at h1
      rw [BitVec.getLsbD_eq_getElem h32, h1]; simp
    · have := BitVec.getLsbD_of_ge x (1 + i) (by omega)
      simp [this]
  have h2 := congrArg BitVec.toNat key
  simp [BitVec.toNat_ushiftRight, Nat.shiftRight_eq_div_pow] at h2
  omega
theorem or_zero {x y z : BitVec 32} (h : (x ||| y) &&& z = 0) : x &&& z = 0 ∧ y &&& z = 0 := by
  have key : ∀ i, ((x ||| y) &&& z).getLsbD i = false := fun i => by rw [h]; simp
  constructor <;> (apply BitVec.eq_of_getLsbD_eq; intro i hi; have := key i; simp only [BitVec.getLsbD_and, BitVec.getLsbD_or] at this ⊢; revert this; cases x.getLsbD i <;> cases y.getLsbD i <;> cases z.getLsbD i <;> simp)
theorem isT_of {a : Int} (ha : i32 a) (h : (BitVec.ofInt 32 a).toNat < 2) : isT a = true := by
  unfold i32 at ha
  rw [BitVec.toNat_ofInt] at h
  simp only [show ((2 ^ 32 : Nat) : Int) = 4294967296 by decide] at h
  simp [isT]; omega
theorem overT_or {a b : Int} (ha : i32 a) (hb : i32 b) : overT (bor a b) = !(isT a && isT b) := by
  by_cases h : (isT a && isT b) = true
  · simp [isT] at h
    obtain ⟨h1 | h1, h2 | h2⟩ := h <;> subst h1 <;> subst h2 <;> decide
  · have h' : (isT a && isT b) = false := by simpa using h
    rw [h']
    simp only [Bool.not_false]
    unfold overT
    rw [bne_iff_ne]
    intro hz
    apply h
    unfold bor at hz
    simp only [bitsOf] at hz
    have hz := wrap32_zero hz
    simp only [IntKind.bits] at hz
    rw [ofInt_wrap32] at hz
    rw [BitVec.ofNat_toNat, BitVec.setWidth_eq] at hz
    have hone : BitVec.ofInt 32 1 = 1#32 := by decide
    rw [hone] at hz
    obtain ⟨hA, hB⟩ := or_zero hz
    simp [isT_of ha (andNot_one hA), isT_of hb (andNot_one hB)]
theorem overT_one {a : Int} (ha : i32 a) : overT a = !isT a := by
  by_cases h : isT a = true
  · simp [isT] at h
    rcases h with h | h <;> subst h <;> decide
  · have h' : isT a = false := by simpa using h
    rw [h']
    simp only [Bool.not_false]
    unfold overT
    rw [bne_iff_ne]
    intro hz
    apply h
    simp only [bitsOf] at hz
    have hz := wrap32_zero hz
    simp only [IntKind.bits] at hz
    have hone : BitVec.ofInt 32 1 = 1#32 := by decide
    rw [hone] at hz
    exact isT_of ha (andNot_one hz)
theorem fit_w32 {n : Int} (h : fitB n = true) : w32 n = n := by simp [fitB] at h; unfold w32; rw [w32_eq]; omega
theorem part_apply {o a b : Int} (ha : i32 a) (hb : i32 b) (h : o < 6 ∨ 19 < o ∧ o ≠ 22 ∧ o ≠ 24 ∧ o ≠ 25) : applyC o a b = if (partR o a b).2 then some (partR o a b).1 else none := by
  have fx : ∀ n, fit32 n = if fitB n then some (w32 n) else none := fun n => by
    unfold fit32; split
    · rename_i h; rw [fit_w32 h]
    · rfl
  by_cases h1 : o = 1
  · subst h1; exact fx _
  by_cases h2 : o = 2
  · subst h2; exact fx _
  by_cases h3 : o = 3
  · subst h3; exact fx _
  by_cases h4 : o = 4
  · subst h4; show (if divB a b then none else some (a.tdiv b)) = if (!divB a b) then some (divM a b) else none
    unfold divM; cases divB a b <;> rfl
  by_cases h5 : o = 5
  · subst h5; show (if b = 0 then none else some (a.tmod b)) = if (!(b == 0)) then some (remM a b) else none
    unfold remM; by_cases hb : b = 0 <;> simp [hb]
  by_cases h6 : o = 20
  · subst h6; show (if isT a && isT b then some (truthI (a == 1 && b == 1)) else none) = if (!overT (bor a b)) then some (band a b) else none
    rw [overT_or ha hb, Bool.not_not]
    split
    · rename_i h; simp [isT] at h
      obtain ⟨q1 | q1, q2 | q2⟩ := h <;> subst q1 <;> subst q2 <;> decide
    · rfl
  by_cases h7 : o = 21
  · subst h7; show (if isT a && isT b then some (truthI (a == 1 || b == 1)) else none) = if (!overT (bor a b)) then some (bor a b) else none
    rw [overT_or ha hb, Bool.not_not]
    split
    · rename_i h; simp [isT] at h
      obtain ⟨q1 | q1, q2 | q2⟩ := h <;> subst q1 <;> subst q2 <;> decide
    · rfl
  by_cases h8 : o = 23
  · subst h8; exact fx _
  by_cases h9 : o = 26
  · subst h9; show (if isT a then some (truthI (a == 0)) else none) = if (!overT a) then some (w32 (1 - a)) else none
    rw [overT_one ha, Bool.not_not]
    split
    · rename_i h; simp [isT] at h
      rcases h with q1 | q1 <;> subst q1 <;> decide
    · rfl
  have e1 : applyC o a b = none := by unfold applyC; repeat rw [if_neg (by omega)]
  have e2 : partR o a b = (0, false) := by unfold partR; repeat rw [if_neg (by omega)]
  rw [e1, e2]; rfl
theorem apply_p (o a b : Int) (ha : i32 a) (hb : i32 b) : Pure Try.prog gs0 39 [AU8 o, AI32 a, AI32 b] (optA (applyC o a b)) := by
  rcases total_cases o a b ha hb with ⟨f, caps, r, h1, h2, h3⟩ | ⟨h1, h2⟩
  · refine Pure.of (S := tt) (fn := Try.f39) (n := 29) tt_ok Try.func39 rfl rfl rfl rfl fun w0 h0 F hgs => ?_
    (repeat first|refine A.s rfl ?_|refine A.r rfl rfl ?_|refine A.w rfl rfl ?_|refine A.p rfl ?_|refine A.b rfl fun bx=>?_|refine A.t rfl fun bl=>?_|refine A.step rfl ?_|refine A.v rfl rfl ?_)
    refine A.c rfl (h1 ▸ total_p o) .refl ?_
    (repeat first|refine A.s rfl ?_|refine A.r rfl rfl ?_|refine A.w rfl rfl ?_|refine A.p rfl ?_|refine A.b rfl fun bx=>?_|refine A.t rfl fun bl=>?_|refine A.step rfl ?_|refine A.v rfl rfl ?_)
    refine A.c rfl h3 .refl ?_
    (repeat first|refine A.s rfl ?_|refine A.r rfl rfl ?_|refine A.w rfl rfl ?_|refine A.p rfl ?_|refine A.b rfl fun bx=>?_|refine A.t rfl fun bl=>?_|refine A.step rfl ?_|refine A.v rfl rfl ?_); refine A.ret2 (Λ' := []) rfl rfl rfl rfl (List.nil_sublist _) ⟨?_, rfl⟩; rw [h2]; exact .refl
  · have e := part_apply ha hb h2
    refine Pure.of (S := tt) (fn := Try.f39) (n := 29) tt_ok Try.func39 rfl rfl rfl rfl fun w0 h0 F hgs => ?_
    (repeat first|refine A.s rfl ?_|refine A.r rfl rfl ?_|refine A.w rfl rfl ?_|refine A.p rfl ?_|refine A.b rfl fun bx=>?_|refine A.t rfl fun bl=>?_|refine A.step rfl ?_|refine A.v rfl rfl ?_)
    refine A.c rfl (h1 ▸ total_p o) .refl ?_
    (repeat first|refine A.s rfl ?_|refine A.r rfl rfl ?_|refine A.w rfl rfl ?_|refine A.p rfl ?_|refine A.b rfl fun bx=>?_|refine A.t rfl fun bl=>?_|refine A.step rfl ?_|refine A.v rfl rfl ?_)
    refine A.c rfl (partial_p o a b ha hb) .refl ?_
    (repeat first|refine A.s rfl ?_|refine A.r rfl rfl ?_|refine A.w rfl rfl ?_|refine A.p rfl ?_|refine A.b rfl fun bx=>?_|refine A.t rfl fun bl=>?_|refine A.step rfl ?_|refine A.v rfl rfl ?_)
    refine A.cond rfl (fun hc => ?_) (fun hc => ?_)
    · (repeat first|refine A.s rfl ?_|refine A.r rfl rfl ?_|refine A.w rfl rfl ?_|refine A.p rfl ?_|refine A.b rfl fun bx=>?_|refine A.t rfl fun bl=>?_|refine A.step rfl ?_|refine A.v rfl rfl ?_); refine A.ret2 (Λ' := []) rfl rfl rfl rfl (List.nil_sublist _) ⟨?_, rfl⟩; simp at hc; rw [e, hc]; exact .refl
    · (repeat first|refine A.s rfl ?_|refine A.r rfl rfl ?_|refine A.w rfl rfl ?_|refine A.p rfl ?_|refine A.b rfl fun bx=>?_|refine A.t rfl fun bl=>?_|refine A.step rfl ?_|refine A.v rfl rfl ?_); refine A.ret2 (Λ' := []) rfl rfl rfl rfl (List.nil_sublist _) ⟨?_, rfl⟩; simp at hc; rw [e, hc]; exact .refl
end Go.Proofs.Ytbdjbmbghfbenaa
