/-
  Chapter 17: values of expressions, by both texts.
-/
import Derived.Test.YtbdjbmbghfbenaaQ17b
import Derived.Test.YtbdjbmbghfbenaaQ14i

namespace Go.Proofs.Ytbdjbmbghfbenaa
open Go Go.Tp
set_option linter.unusedVariables false
set_option linter.unusedSimpArgs false
set_option maxRecDepth 100000
set_option maxHeartbeats 4000000

def wfS (s : List (List Int)) : Prop := ∀ r, r ∈ s → ∀ x, x ∈ r → i32 x
theorem atM_in {s : List (List Int)} (hs : wfS s) (v i : Int) : okI (atM s v i) := by
  unfold atM; split
  · exact ok_none
  · intro r h
    cases h1 : s[v.toNat]? with
    | none => rw [h1] at h; cases h
    | some l => rw [h1] at h; exact hs l (List.mem_of_getElem? h1) r (List.mem_of_getElem? h)
theorem convC_in {t v : Int} (h : i32 v) : okI (convC t v) := by
  unfold convC; split
  · exact ok_some h
  · exact ok_none
def isSh (o a : Int) : Bool := (o == 20 && a == 0) || (o == 21 && a == 1)
def combM (s : List (List Int)) (k o t n v : Int) (vs : List (Option Int)) : Option Int :=
  if k = 1 then some n else if k = 2 then atM s v 0 else match vs with
  | some a :: r => if k = 3 then atM s v a else if k = 4 then applyC o a 0 else if k = 6 then convC t a else if isSh o a then some a else match r with
    | some b :: _ => applyC o a b
    | _ => none
  | _ => none
theorem isSh_eq (o a : Int) : (bif bif o == 20 then a == 0 else false then true else bif o == 21 then a == 1 else false) = isSh o a := by unfold isSh; cases (o == 20) <;> cases (a == 0) <;> cases (o == 21) <;> rfl
mutual
def valM (s : List (List Int)) : KE → Option Int
  | ⟨k, o, t, n, v, l⟩ => combM s k o t n v (valMl s l)
def valMl (s : List (List Int)) : List KE → List (Option Int)
  | [] => []
  | e :: r => valM s e :: valMl s r
end
theorem valM_in {s : List (List Int)} (hs : wfS s) : ∀ (N : Nat) (e : KE), sz e ≤ N → wfK e → fine e = true → okI (valM s e)
  | 0, e, hn, _, _ => by have := sz_pos e; omega
  | N + 1, e, hn, hw, hf => by
    have hb0 := i32_0
    rcases fine_cases hf with ⟨n, rfl⟩ | ⟨v, h1, h2, rfl⟩ | ⟨v, a, h1, h2, h3, rfl⟩ | ⟨o, a, h1, h2, h3, rfl⟩ | ⟨o, a, b, h1, h2, h3, h4, rfl⟩ | ⟨t, a, h1, h2, h3, rfl⟩
    · simp [valM, valMl, combM]; simp only [wfK] at hw; exact ok_some hw.1.2.2.2.1
    · simp [valM, valMl, combM]; exact atM_in hs _ _
    · cases ha : valM s a <;> simp [valM, valMl, combM, ha]
      · exact ok_none
      · exact atM_in hs _ _
    · simp only [sz, szl] at hn
      have ih := valM_in hs N a (by omega) (wfK1 hw) h3
      cases ha : valM s a <;> simp [valM, valMl, combM, ha]
      · exact ok_none
      · exact applyC_in (ih _ ha) hb0
    · simp only [sz, szl] at hn
      have := sz_pos a
      have := sz_pos b
      have ih := valM_in hs N a (by omega) (wfK2 hw).1 h3
      have ih2 := valM_in hs N b (by omega) (wfK2 hw).2 h4
      cases ha : valM s a <;> simp [valM, valMl, combM, ha]
      · exact ok_none
      · split
        · exact ok_some (ih _ ha)
        · cases hb : valM s b
          · exact ok_none
          · exact applyC_in (ih _ ha) (ih2 _ hb)
    · simp only [sz, szl] at hn
      have ih := valM_in hs N a (by omega) (wfK1 hw) h3
      cases ha : valM s a <;> simp [valM, valMl, combM, ha]
      · exact ok_none
      · exact convC_in (ih _ ha)
/-- the value of an expression; none: a fault -/
def valueM (s : List (List Int)) (e : KE) : Option Int := if valid e then valM s e else none
theorem valueM_in {s : List (List Int)} (hs : wfS s) {e : KE} (hw : wfK e) : okI (valueM s e) := by
  unfold valueM; split
  · rename_i h; exact valM_in hs _ e (Nat.le_refl _) hw h.1
  · exact ok_none

/-! ### eval.value -/
theorem value_p (s : List (List Int)) (hs : wfS s) : ∀ (N : Nat) (e : KE), sz e ≤ N → wfK e → fine e = true → Pure Try.prog gs0 41 [rowsA s, encK e] (optA (valM s e))
  | 0, e, hn, _, _ => by have := sz_pos e; omega
  | N + 1, e, hn, hw, hf => by
    have hb0 := i32_0
    rcases fine_cases hf with ⟨n, rfl⟩ | ⟨v, h1, h2, rfl⟩ | ⟨v, a, h1, h2, h3, rfl⟩ | ⟨o, a, h1, h2, h3, rfl⟩ | ⟨o, a, b, h1, h2, h3, h4, rfl⟩ | ⟨t, a, h1, h2, h3, rfl⟩
    · simp only [encK, encKl]
      refine Pure.of (S := tt) (fn := Try.f41) (n := 105) tt_ok Try.func41 rfl rfl rfl rfl fun w0 h0 F hgs => ?_
      (repeat first|refine A.s rfl ?_|refine A.r rfl rfl ?_|refine A.w rfl rfl ?_|refine A.p rfl ?_|refine A.b rfl fun bx=>?_|refine A.t rfl fun bl=>?_|refine A.step rfl ?_|refine A.v rfl rfl ?_); refine A.ret2 (Λ' := []) rfl rfl rfl rfl (List.nil_sublist _) ⟨?_, rfl⟩; exact .refl
    · simp only [encK, encKl]
      refine Pure.of (S := tt) (fn := Try.f41) (n := 105) tt_ok Try.func41 rfl rfl rfl rfl fun w0 h0 F hgs => ?_
      (repeat first|refine A.s rfl ?_|refine A.r rfl rfl ?_|refine A.w rfl rfl ?_|refine A.p rfl ?_|refine A.b rfl fun bx=>?_|refine A.t rfl fun bl=>?_|refine A.step rfl ?_|refine A.v rfl rfl ?_); refine A.c rfl (at_p _ _ _) .refl ?_; (repeat first|refine A.s rfl ?_|refine A.r rfl rfl ?_|refine A.w rfl rfl ?_|refine A.p rfl ?_|refine A.b rfl fun bx=>?_|refine A.t rfl fun bl=>?_|refine A.step rfl ?_|refine A.v rfl rfl ?_); refine A.ret2 (Λ' := []) rfl rfl rfl rfl (List.nil_sublist _) ⟨?_, rfl⟩; exact .refl
    · simp only [sz, szl] at hn
      have ih := value_p s hs N a (by omega) (wfK1 hw) h3
      have hi := valM_in hs N a (by omega) (wfK1 hw) h3
      rw [encK_eq] at ih
      simp only [encK, encKl]
      cases ha : valM s a with
      | none =>
        rw [ha] at ih
        have e : valM s ⟨3, 0, 0, 0, v, [a]⟩ = none := by simp [valM, valMl, combM, ha]
        rw [e]
        refine Pure.of (S := tt) (fn := Try.f41) (n := 105) tt_ok Try.func41 rfl rfl rfl rfl fun w0 h0 F hgs => ?_
        (repeat first|refine A.s rfl ?_|refine A.r rfl rfl ?_|refine A.w rfl rfl ?_|refine A.p rfl ?_|refine A.b rfl fun bx=>?_|refine A.t rfl fun bl=>?_|refine A.step rfl ?_|refine A.v rfl rfl ?_)
        refine A.x rfl (by decide) rfl rfl rfl ?_
        refine A.valE 27 rfl (pe_enc a) ?_
        (repeat first|refine A.s rfl ?_|refine A.r rfl rfl ?_|refine A.w rfl rfl ?_|refine A.p rfl ?_|refine A.b rfl fun bx=>?_|refine A.t rfl fun bl=>?_|refine A.step rfl ?_|refine A.v rfl rfl ?_)
        refine A.c rfl (ih) .refl ?_
        (repeat first|refine A.s rfl ?_|refine A.r rfl rfl ?_|refine A.w rfl rfl ?_|refine A.p rfl ?_|refine A.b rfl fun bx=>?_|refine A.t rfl fun bl=>?_|refine A.step rfl ?_|refine A.v rfl rfl ?_); refine A.ret2 (Λ' := []) rfl rfl rfl rfl (List.nil_sublist _) ⟨?_, rfl⟩; exact .refl
      | some x =>
        rw [ha] at ih
        have hx := hi x ha
        have e : valM s ⟨3, 0, 0, 0, v, [a]⟩ = atM s v x := by simp [valM, valMl, combM, ha]
        rw [e]
        refine Pure.of (S := tt) (fn := Try.f41) (n := 105) tt_ok Try.func41 rfl rfl rfl rfl fun w0 h0 F hgs => ?_
        (repeat first|refine A.s rfl ?_|refine A.r rfl rfl ?_|refine A.w rfl rfl ?_|refine A.p rfl ?_|refine A.b rfl fun bx=>?_|refine A.t rfl fun bl=>?_|refine A.step rfl ?_|refine A.v rfl rfl ?_)
        refine A.x rfl (by decide) rfl rfl rfl ?_
        refine A.valE 27 rfl (pe_enc a) ?_
        (repeat first|refine A.s rfl ?_|refine A.r rfl rfl ?_|refine A.w rfl rfl ?_|refine A.p rfl ?_|refine A.b rfl fun bx=>?_|refine A.t rfl fun bl=>?_|refine A.step rfl ?_|refine A.v rfl rfl ?_)
        refine A.c rfl (ih) .refl ?_
        (repeat first|refine A.s rfl ?_|refine A.r rfl rfl ?_|refine A.w rfl rfl ?_|refine A.p rfl ?_|refine A.b rfl fun bx=>?_|refine A.t rfl fun bl=>?_|refine A.step rfl ?_|refine A.v rfl rfl ?_)
        refine A.valE 42 rfl (x' := AI x) (ai_eq (w64_32 hx)) ?_
        refine A.c rfl (at_p _ _ _) .refl ?_; (repeat first|refine A.s rfl ?_|refine A.r rfl rfl ?_|refine A.w rfl rfl ?_|refine A.p rfl ?_|refine A.b rfl fun bx=>?_|refine A.t rfl fun bl=>?_|refine A.step rfl ?_|refine A.v rfl rfl ?_); refine A.ret2 (Λ' := []) rfl rfl rfl rfl (List.nil_sublist _) ⟨?_, rfl⟩; exact .refl
    · simp only [sz, szl] at hn
      have ih := value_p s hs N a (by omega) (wfK1 hw) h3
      have hi := valM_in hs N a (by omega) (wfK1 hw) h3
      rw [encK_eq] at ih
      simp only [encK, encKl]
      cases ha : valM s a with
      | none =>
        rw [ha] at ih
        have e : valM s ⟨4, o, 0, 0, 0, [a]⟩ = none := by simp [valM, valMl, combM, ha]
        rw [e]
        refine Pure.of (S := tt) (fn := Try.f41) (n := 105) tt_ok Try.func41 rfl rfl rfl rfl fun w0 h0 F hgs => ?_
        (repeat first|refine A.s rfl ?_|refine A.r rfl rfl ?_|refine A.w rfl rfl ?_|refine A.p rfl ?_|refine A.b rfl fun bx=>?_|refine A.t rfl fun bl=>?_|refine A.step rfl ?_|refine A.v rfl rfl ?_)
        refine A.x rfl (by decide) rfl rfl rfl ?_
        refine A.valE 27 rfl (pe_enc a) ?_
        (repeat first|refine A.s rfl ?_|refine A.r rfl rfl ?_|refine A.w rfl rfl ?_|refine A.p rfl ?_|refine A.b rfl fun bx=>?_|refine A.t rfl fun bl=>?_|refine A.step rfl ?_|refine A.v rfl rfl ?_)
        refine A.c rfl (ih) .refl ?_
        (repeat first|refine A.s rfl ?_|refine A.r rfl rfl ?_|refine A.w rfl rfl ?_|refine A.p rfl ?_|refine A.b rfl fun bx=>?_|refine A.t rfl fun bl=>?_|refine A.step rfl ?_|refine A.v rfl rfl ?_); refine A.ret2 (Λ' := []) rfl rfl rfl rfl (List.nil_sublist _) ⟨?_, rfl⟩; exact .refl
      | some x =>
        rw [ha] at ih
        have hx := hi x ha
        have e : valM s ⟨4, o, 0, 0, 0, [a]⟩ = applyC o x 0 := by simp [valM, valMl, combM, ha]
        rw [e]
        refine Pure.of (S := tt) (fn := Try.f41) (n := 105) tt_ok Try.func41 rfl rfl rfl rfl fun w0 h0 F hgs => ?_
        (repeat first|refine A.s rfl ?_|refine A.r rfl rfl ?_|refine A.w rfl rfl ?_|refine A.p rfl ?_|refine A.b rfl fun bx=>?_|refine A.t rfl fun bl=>?_|refine A.step rfl ?_|refine A.v rfl rfl ?_)
        refine A.x rfl (by decide) rfl rfl rfl ?_
        refine A.valE 27 rfl (pe_enc a) ?_
        (repeat first|refine A.s rfl ?_|refine A.r rfl rfl ?_|refine A.w rfl rfl ?_|refine A.p rfl ?_|refine A.b rfl fun bx=>?_|refine A.t rfl fun bl=>?_|refine A.step rfl ?_|refine A.v rfl rfl ?_)
        refine A.c rfl (ih) .refl ?_
        (repeat first|refine A.s rfl ?_|refine A.r rfl rfl ?_|refine A.w rfl rfl ?_|refine A.p rfl ?_|refine A.b rfl fun bx=>?_|refine A.t rfl fun bl=>?_|refine A.step rfl ?_|refine A.v rfl rfl ?_)
        refine A.c rfl (apply_p o x 0 hx hb0) .refl ?_
        (repeat first|refine A.s rfl ?_|refine A.r rfl rfl ?_|refine A.w rfl rfl ?_|refine A.p rfl ?_|refine A.b rfl fun bx=>?_|refine A.t rfl fun bl=>?_|refine A.step rfl ?_|refine A.v rfl rfl ?_)
        refine A.c rfl (some_p _ _) .refl ?_
        (repeat first|refine A.s rfl ?_|refine A.r rfl rfl ?_|refine A.w rfl rfl ?_|refine A.p rfl ?_|refine A.b rfl fun bx=>?_|refine A.t rfl fun bl=>?_|refine A.step rfl ?_|refine A.v rfl rfl ?_); refine A.ret2 (Λ' := []) rfl rfl rfl rfl (List.nil_sublist _) ⟨?_, rfl⟩; cases applyC o x 0 <;> exact .refl
    · simp only [sz, szl] at hn
      have := sz_pos a
      have := sz_pos b
      have ih := value_p s hs N a (by omega) (wfK2 hw).1 h3
      have ih2 := value_p s hs N b (by omega) (wfK2 hw).2 h4
      have hi := valM_in hs N a (by omega) (wfK2 hw).1 h3
      have hi2 := valM_in hs N b (by omega) (wfK2 hw).2 h4
      rw [encK_eq] at ih ih2
      simp only [encK, encKl]
      cases ha : valM s a with
      | none =>
        rw [ha] at ih
        have e : valM s ⟨5, o, 0, 0, 0, [a, b]⟩ = none := by simp [valM, valMl, combM, ha]
        rw [e]
        refine Pure.of (S := tt) (fn := Try.f41) (n := 105) tt_ok Try.func41 rfl rfl rfl rfl fun w0 h0 F hgs => ?_
        (repeat first|refine A.s rfl ?_|refine A.r rfl rfl ?_|refine A.w rfl rfl ?_|refine A.p rfl ?_|refine A.b rfl fun bx=>?_|refine A.t rfl fun bl=>?_|refine A.step rfl ?_|refine A.v rfl rfl ?_)
        refine A.x rfl (by decide) rfl rfl rfl ?_
        refine A.valE 27 rfl (pe_enc a) ?_
        (repeat first|refine A.s rfl ?_|refine A.r rfl rfl ?_|refine A.w rfl rfl ?_|refine A.p rfl ?_|refine A.b rfl fun bx=>?_|refine A.t rfl fun bl=>?_|refine A.step rfl ?_|refine A.v rfl rfl ?_)
        refine A.c rfl (ih) .refl ?_
        (repeat first|refine A.s rfl ?_|refine A.r rfl rfl ?_|refine A.w rfl rfl ?_|refine A.p rfl ?_|refine A.b rfl fun bx=>?_|refine A.t rfl fun bl=>?_|refine A.step rfl ?_|refine A.v rfl rfl ?_); refine A.ret2 (Λ' := []) rfl rfl rfl rfl (List.nil_sublist _) ⟨?_, rfl⟩; exact .refl
      | some x =>
        rw [ha] at ih
        have hx := hi x ha
        by_cases hsh : isSh o x = true
        · have e : valM s ⟨5, o, 0, 0, 0, [a, b]⟩ = some x := by simp [valM, valMl, combM, ha, hsh]
          rw [e]
          refine Pure.of (S := tt) (fn := Try.f41) (n := 105) tt_ok Try.func41 rfl rfl rfl rfl fun w0 h0 F hgs => ?_
          (repeat first|refine A.s rfl ?_|refine A.r rfl rfl ?_|refine A.w rfl rfl ?_|refine A.p rfl ?_|refine A.b rfl fun bx=>?_|refine A.t rfl fun bl=>?_|refine A.step rfl ?_|refine A.v rfl rfl ?_)
          refine A.x rfl (by decide) rfl rfl rfl ?_
          refine A.valE 27 rfl (pe_enc a) ?_
          (repeat first|refine A.s rfl ?_|refine A.r rfl rfl ?_|refine A.w rfl rfl ?_|refine A.p rfl ?_|refine A.b rfl fun bx=>?_|refine A.t rfl fun bl=>?_|refine A.step rfl ?_|refine A.v rfl rfl ?_)
          refine A.c rfl (ih) .refl ?_
          (repeat first|refine A.s rfl ?_|refine A.r rfl rfl ?_|refine A.w rfl rfl ?_|refine A.p rfl ?_|refine A.b rfl fun bx=>?_|refine A.t rfl fun bl=>?_|refine A.step rfl ?_|refine A.v rfl rfl ?_)
          refine A.valE 82 rfl (x' := AB true) (ab_eq ((isSh_eq o x).trans hsh)) ?_
          (repeat first|refine A.s rfl ?_|refine A.r rfl rfl ?_|refine A.w rfl rfl ?_|refine A.p rfl ?_|refine A.b rfl fun bx=>?_|refine A.t rfl fun bl=>?_|refine A.step rfl ?_|refine A.v rfl rfl ?_); refine A.ret2 (Λ' := []) rfl rfl rfl rfl (List.nil_sublist _) ⟨?_, rfl⟩; exact .refl
        · have hsf : isSh o x = false := by simpa using hsh
          cases hb : valM s b with
          | none =>
            rw [hb] at ih2
            have e : valM s ⟨5, o, 0, 0, 0, [a, b]⟩ = none := by simp [valM, valMl, combM, ha, hb, hsf]
            rw [e]
            refine Pure.of (S := tt) (fn := Try.f41) (n := 105) tt_ok Try.func41 rfl rfl rfl rfl fun w0 h0 F hgs => ?_
            (repeat first|refine A.s rfl ?_|refine A.r rfl rfl ?_|refine A.w rfl rfl ?_|refine A.p rfl ?_|refine A.b rfl fun bx=>?_|refine A.t rfl fun bl=>?_|refine A.step rfl ?_|refine A.v rfl rfl ?_)
            refine A.x rfl (by decide) rfl rfl rfl ?_
            refine A.valE 27 rfl (pe_enc a) ?_
            (repeat first|refine A.s rfl ?_|refine A.r rfl rfl ?_|refine A.w rfl rfl ?_|refine A.p rfl ?_|refine A.b rfl fun bx=>?_|refine A.t rfl fun bl=>?_|refine A.step rfl ?_|refine A.v rfl rfl ?_)
            refine A.c rfl (ih) .refl ?_
            (repeat first|refine A.s rfl ?_|refine A.r rfl rfl ?_|refine A.w rfl rfl ?_|refine A.p rfl ?_|refine A.b rfl fun bx=>?_|refine A.t rfl fun bl=>?_|refine A.step rfl ?_|refine A.v rfl rfl ?_)
            refine A.valE 82 rfl (x' := AB false) (ab_eq ((isSh_eq o x).trans hsf)) ?_
            (repeat first|refine A.s rfl ?_|refine A.r rfl rfl ?_|refine A.w rfl rfl ?_|refine A.p rfl ?_|refine A.b rfl fun bx=>?_|refine A.t rfl fun bl=>?_|refine A.step rfl ?_|refine A.v rfl rfl ?_)
            refine A.x rfl (by decide) rfl rfl rfl ?_
            refine A.valE 88 rfl (pe_enc b) ?_
            (repeat first|refine A.s rfl ?_|refine A.r rfl rfl ?_|refine A.w rfl rfl ?_|refine A.p rfl ?_|refine A.b rfl fun bx=>?_|refine A.t rfl fun bl=>?_|refine A.step rfl ?_|refine A.v rfl rfl ?_)
            refine A.c rfl (ih2) .refl ?_
            (repeat first|refine A.s rfl ?_|refine A.r rfl rfl ?_|refine A.w rfl rfl ?_|refine A.p rfl ?_|refine A.b rfl fun bx=>?_|refine A.t rfl fun bl=>?_|refine A.step rfl ?_|refine A.v rfl rfl ?_); refine A.ret2 (Λ' := []) rfl rfl rfl rfl (List.nil_sublist _) ⟨?_, rfl⟩; exact .refl
          | some y =>
            rw [hb] at ih2
            have hy := hi2 y hb
            have e : valM s ⟨5, o, 0, 0, 0, [a, b]⟩ = applyC o x y := by simp [valM, valMl, combM, ha, hb, hsf]
            rw [e]
            refine Pure.of (S := tt) (fn := Try.f41) (n := 105) tt_ok Try.func41 rfl rfl rfl rfl fun w0 h0 F hgs => ?_
            (repeat first|refine A.s rfl ?_|refine A.r rfl rfl ?_|refine A.w rfl rfl ?_|refine A.p rfl ?_|refine A.b rfl fun bx=>?_|refine A.t rfl fun bl=>?_|refine A.step rfl ?_|refine A.v rfl rfl ?_)
            refine A.x rfl (by decide) rfl rfl rfl ?_
            refine A.valE 27 rfl (pe_enc a) ?_
            (repeat first|refine A.s rfl ?_|refine A.r rfl rfl ?_|refine A.w rfl rfl ?_|refine A.p rfl ?_|refine A.b rfl fun bx=>?_|refine A.t rfl fun bl=>?_|refine A.step rfl ?_|refine A.v rfl rfl ?_)
            refine A.c rfl (ih) .refl ?_
            (repeat first|refine A.s rfl ?_|refine A.r rfl rfl ?_|refine A.w rfl rfl ?_|refine A.p rfl ?_|refine A.b rfl fun bx=>?_|refine A.t rfl fun bl=>?_|refine A.step rfl ?_|refine A.v rfl rfl ?_)
            refine A.valE 82 rfl (x' := AB false) (ab_eq ((isSh_eq o x).trans hsf)) ?_
            (repeat first|refine A.s rfl ?_|refine A.r rfl rfl ?_|refine A.w rfl rfl ?_|refine A.p rfl ?_|refine A.b rfl fun bx=>?_|refine A.t rfl fun bl=>?_|refine A.step rfl ?_|refine A.v rfl rfl ?_)
            refine A.x rfl (by decide) rfl rfl rfl ?_
            refine A.valE 88 rfl (pe_enc b) ?_
            (repeat first|refine A.s rfl ?_|refine A.r rfl rfl ?_|refine A.w rfl rfl ?_|refine A.p rfl ?_|refine A.b rfl fun bx=>?_|refine A.t rfl fun bl=>?_|refine A.step rfl ?_|refine A.v rfl rfl ?_)
            refine A.c rfl (ih2) .refl ?_
            (repeat first|refine A.s rfl ?_|refine A.r rfl rfl ?_|refine A.w rfl rfl ?_|refine A.p rfl ?_|refine A.b rfl fun bx=>?_|refine A.t rfl fun bl=>?_|refine A.step rfl ?_|refine A.v rfl rfl ?_)
            refine A.c rfl (apply_p o x y hx hy) .refl ?_
            (repeat first|refine A.s rfl ?_|refine A.r rfl rfl ?_|refine A.w rfl rfl ?_|refine A.p rfl ?_|refine A.b rfl fun bx=>?_|refine A.t rfl fun bl=>?_|refine A.step rfl ?_|refine A.v rfl rfl ?_)
            refine A.c rfl (some_p _ _) .refl ?_
            (repeat first|refine A.s rfl ?_|refine A.r rfl rfl ?_|refine A.w rfl rfl ?_|refine A.p rfl ?_|refine A.b rfl fun bx=>?_|refine A.t rfl fun bl=>?_|refine A.step rfl ?_|refine A.v rfl rfl ?_); refine A.ret2 (Λ' := []) rfl rfl rfl rfl (List.nil_sublist _) ⟨?_, rfl⟩; cases applyC o x y <;> exact .refl
    · simp only [sz, szl] at hn
      have ih := value_p s hs N a (by omega) (wfK1 hw) h3
      rw [encK_eq] at ih
      simp only [encK, encKl]
      cases ha : valM s a with
      | none =>
        rw [ha] at ih
        have e : valM s ⟨6, 0, t, 0, 0, [a]⟩ = none := by simp [valM, valMl, combM, ha]
        rw [e]
        refine Pure.of (S := tt) (fn := Try.f41) (n := 105) tt_ok Try.func41 rfl rfl rfl rfl fun w0 h0 F hgs => ?_
        (repeat first|refine A.s rfl ?_|refine A.r rfl rfl ?_|refine A.w rfl rfl ?_|refine A.p rfl ?_|refine A.b rfl fun bx=>?_|refine A.t rfl fun bl=>?_|refine A.step rfl ?_|refine A.v rfl rfl ?_)
        refine A.x rfl (by decide) rfl rfl rfl ?_
        refine A.valE 27 rfl (pe_enc a) ?_
        (repeat first|refine A.s rfl ?_|refine A.r rfl rfl ?_|refine A.w rfl rfl ?_|refine A.p rfl ?_|refine A.b rfl fun bx=>?_|refine A.t rfl fun bl=>?_|refine A.step rfl ?_|refine A.v rfl rfl ?_)
        refine A.c rfl (ih) .refl ?_
        (repeat first|refine A.s rfl ?_|refine A.r rfl rfl ?_|refine A.w rfl rfl ?_|refine A.p rfl ?_|refine A.b rfl fun bx=>?_|refine A.t rfl fun bl=>?_|refine A.step rfl ?_|refine A.v rfl rfl ?_); refine A.ret2 (Λ' := []) rfl rfl rfl rfl (List.nil_sublist _) ⟨?_, rfl⟩; exact .refl
      | some x =>
        rw [ha] at ih
        have e : valM s ⟨6, 0, t, 0, 0, [a]⟩ = convC t x := by simp [valM, valMl, combM, ha]
        rw [e, conv_fits]
        refine Pure.of (S := tt) (fn := Try.f41) (n := 105) tt_ok Try.func41 rfl rfl rfl rfl fun w0 h0 F hgs => ?_
        (repeat first|refine A.s rfl ?_|refine A.r rfl rfl ?_|refine A.w rfl rfl ?_|refine A.p rfl ?_|refine A.b rfl fun bx=>?_|refine A.t rfl fun bl=>?_|refine A.step rfl ?_|refine A.v rfl rfl ?_)
        refine A.x rfl (by decide) rfl rfl rfl ?_
        refine A.valE 27 rfl (pe_enc a) ?_
        (repeat first|refine A.s rfl ?_|refine A.r rfl rfl ?_|refine A.w rfl rfl ?_|refine A.p rfl ?_|refine A.b rfl fun bx=>?_|refine A.t rfl fun bl=>?_|refine A.step rfl ?_|refine A.v rfl rfl ?_)
        refine A.c rfl (ih) .refl ?_
        (repeat first|refine A.s rfl ?_|refine A.r rfl rfl ?_|refine A.w rfl rfl ?_|refine A.p rfl ?_|refine A.b rfl fun bx=>?_|refine A.t rfl fun bl=>?_|refine A.step rfl ?_|refine A.v rfl rfl ?_)
        refine A.c rfl (fits_p _ _) .refl ?_
        (repeat first|refine A.s rfl ?_|refine A.r rfl rfl ?_|refine A.w rfl rfl ?_|refine A.p rfl ?_|refine A.b rfl fun bx=>?_|refine A.t rfl fun bl=>?_|refine A.step rfl ?_|refine A.v rfl rfl ?_)
        refine A.c rfl (some_p _ _) .refl ?_
        (repeat first|refine A.s rfl ?_|refine A.r rfl rfl ?_|refine A.w rfl rfl ?_|refine A.p rfl ?_|refine A.b rfl fun bx=>?_|refine A.t rfl fun bl=>?_|refine A.step rfl ?_|refine A.v rfl rfl ?_); refine A.ret2 (Λ' := []) rfl rfl rfl rfl (List.nil_sublist _) ⟨?_, rfl⟩; exact .refl

/-! ### ref17.value -/
/-! ### Value -/
theorem Value_p (s : List (List Int)) (hs : wfS s) (e : KE) (hw : wfK e) : Pure Try.prog gs0 22 [rowsA s, encK e] (optA (valueM s e)) := by
  have hp := evalid_p e hw
  have hv := fun h => value_p s hs _ e (Nat.le_refl _) hw h
  rw [encK_eq] at hp ⊢
  simp only [encK_eq] at hv
  by_cases h : valid e
  · have hv := hv h.1
    rw [valueM, if_pos h]; rw [decide_eq_true h] at hp
    refine Pure.of (S := tt) (fn := Try.f22) (n := 14) tt_ok Try.func22 rfl rfl rfl rfl fun w0 h0 F hgs => ?_
    (repeat first|refine A.s rfl ?_|refine A.r rfl rfl ?_|refine A.w rfl rfl ?_|refine A.p rfl ?_|refine A.b rfl fun bx=>?_|refine A.t rfl fun bl=>?_|refine A.step rfl ?_|refine A.v rfl rfl ?_); refine A.c rfl (hp) .refl ?_; (repeat first|refine A.s rfl ?_|refine A.r rfl rfl ?_|refine A.w rfl rfl ?_|refine A.p rfl ?_|refine A.b rfl fun bx=>?_|refine A.t rfl fun bl=>?_|refine A.step rfl ?_|refine A.v rfl rfl ?_); refine A.c rfl (hv) .refl ?_; (repeat first|refine A.s rfl ?_|refine A.r rfl rfl ?_|refine A.w rfl rfl ?_|refine A.p rfl ?_|refine A.b rfl fun bx=>?_|refine A.t rfl fun bl=>?_|refine A.step rfl ?_|refine A.v rfl rfl ?_); refine A.ret2 (Λ' := []) rfl rfl rfl rfl (List.nil_sublist _) ⟨?_, rfl⟩; exact .refl
  · rw [valueM, if_neg h]; rw [decide_eq_false h] at hp
    refine Pure.of (S := tt) (fn := Try.f22) (n := 14) tt_ok Try.func22 rfl rfl rfl rfl fun w0 h0 F hgs => ?_
    (repeat first|refine A.s rfl ?_|refine A.r rfl rfl ?_|refine A.w rfl rfl ?_|refine A.p rfl ?_|refine A.b rfl fun bx=>?_|refine A.t rfl fun bl=>?_|refine A.step rfl ?_|refine A.v rfl rfl ?_); refine A.c rfl (hp) .refl ?_; (repeat first|refine A.s rfl ?_|refine A.r rfl rfl ?_|refine A.w rfl rfl ?_|refine A.p rfl ?_|refine A.b rfl fun bx=>?_|refine A.t rfl fun bl=>?_|refine A.step rfl ?_|refine A.v rfl rfl ?_); refine A.ret2 (Λ' := []) rfl rfl rfl rfl (List.nil_sublist _) ⟨?_, rfl⟩; exact .refl
end Go.Proofs.Ytbdjbmbghfbenaa
