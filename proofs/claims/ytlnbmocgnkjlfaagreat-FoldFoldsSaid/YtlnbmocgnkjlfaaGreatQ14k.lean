/-
  Layer 14: literals, Fold.
-/
import Derived.Test.YtlnbmocgnkjlfaaGreatQ14j

namespace Go.Proofs.YtlnbmocgnkjlfaaGreat
open Go Go.Tp
set_option linter.unusedVariables false
set_option linter.unusedSimpArgs false
set_option maxRecDepth 100000
set_option maxHeartbeats 4000000

/-- an operator that gives a truth value -/
def boolO (o : Int) : Bool := decide (14 ≤ o ∧ o ≤ 22 ∨ o = 26)
def kindOf (t : Int) : Int := if t = 2 then 2 else if t = 3 then 3 else 1
/-- the kind of a literal -/
def litK (env : List SP) (e : XE) : Int :=
  if e.kind = 2 ∨ e.kind = 3 then e.kind
  else if e.kind = 4 then kindOf ((env[(findB env e.s env.length).toNat]?.map (·.tk)).getD 0)
  else if (e.kind = 6 ∨ e.kind = 7) ∧ boolO e.oper = true then 3 else kindOf e.to
theorem au8_eq {a b : Int} (h : a = b) : AU8 a = AU8 b := by rw [h]
theorem literal_p (env : List SP) (vals : List (Int × Bool)) (e : XE) (hb : env.length ≤ 281474976710656) (hn : ∀ x, x ∈ env → x.names.length ≤ 281474976710656) (hf : e.kind = 4 → 0 ≤ findB env e.s env.length) :
    Pure Tryz.prog gs0 40 [scopeA env vals, encX e] (AU8 (litK env e)) := by
  rw [encX_eq]
  have hfd := find_p env vals e.s hb hn
  have hlt := findB_lt env e.s env.length
  by_cases h2 : e.kind = 2
  · have hc : litK env e = 2 := by rw [litK, if_pos (.inl h2), h2]
    rw [hc, h2]
    refine Pure.of (S := tt) (fn := Tryz.f40) (n := 54) tt_ok Tryz.func40 rfl rfl rfl rfl fun w0 h0 F hgs => ?_
    (repeat first|refine A.s rfl ?_|refine A.r rfl rfl ?_|refine A.w rfl rfl ?_|refine A.p rfl ?_|refine A.b rfl fun bx=>?_|refine A.t rfl fun bl=>?_|refine A.step rfl ?_|refine A.v rfl rfl ?_); refine A.ret1 (Λ' := []) rfl rfl rfl (List.nil_sublist _) ⟨?_, rfl⟩; exact .refl
  by_cases h3 : e.kind = 3
  · have hc : litK env e = 3 := by rw [litK, if_pos (.inr h3), h3]
    rw [hc, h3]
    refine Pure.of (S := tt) (fn := Tryz.f40) (n := 54) tt_ok Tryz.func40 rfl rfl rfl rfl fun w0 h0 F hgs => ?_
    (repeat first|refine A.s rfl ?_|refine A.r rfl rfl ?_|refine A.w rfl rfl ?_|refine A.p rfl ?_|refine A.b rfl fun bx=>?_|refine A.t rfl fun bl=>?_|refine A.step rfl ?_|refine A.v rfl rfl ?_); refine A.ret1 (Λ' := []) rfl rfl rfl (List.nil_sublist _) ⟨?_, rfl⟩; exact .refl
  have key : ∀ t : Int, t ≠ 2 → t ≠ 3 → kindOf t = 1 := fun t a b => by simp [kindOf, a, b]
  by_cases h4 : e.kind = 4
  · have hp := hf h4
    refine Exists.elim (at_ex (l := env) hp hlt.2) fun x hx => ?_
    have hc : litK env e = kindOf x.tk := by rw [litK, if_neg (by omega), if_pos h4, hx]; rfl
    rw [hc, h4]
    refine Pure.of (S := tt) (fn := Tryz.f40) (n := 54) tt_ok Tryz.func40 rfl rfl rfl rfl fun w0 h0 F hgs => ?_
    (repeat first|refine A.s rfl ?_|refine A.r rfl rfl ?_|refine A.w rfl rfl ?_|refine A.p rfl ?_|refine A.b rfl fun bx=>?_|refine A.t rfl fun bl=>?_|refine A.step rfl ?_|refine A.v rfl rfl ?_)
    refine A.draw 10 [0, 1, 2, 3, 4, 5, 6, 7, 8, 9] noPubs [(5, AI (findB env e.s env.length))] (by kernel_rfl) (by kernel_rfl) ?_
    (repeat first|refine WA.s rfl ?_|refine WA.r rfl rfl ?_|refine WA.p rfl ?_|refine WA.step rfl ?_|refine WA.v rfl rfl ?_)
    refine WA.c rfl rfl hfd (.sub .refl) ?_
    refine WA.x rfl hp (map_at hx) rfl rfl ?_
    (repeat first|refine WA.s rfl ?_|refine WA.r rfl rfl ?_|refine WA.p rfl ?_|refine WA.step rfl ?_|refine WA.v rfl rfl ?_)
    refine WA.nil (l := []) rfl ?_
    (repeat first|refine A.s rfl ?_|refine A.r rfl rfl ?_|refine A.w rfl rfl ?_|refine A.p rfl ?_|refine A.b rfl fun bx=>?_|refine A.t rfl fun bl=>?_|refine A.step rfl ?_|refine A.v rfl rfl ?_)
    refine A.cond rfl (fun c1 => ?_) (fun c1 => ?_)
    · simp at c1; (repeat first|refine A.s rfl ?_|refine A.r rfl rfl ?_|refine A.w rfl rfl ?_|refine A.p rfl ?_|refine A.b rfl fun bx=>?_|refine A.t rfl fun bl=>?_|refine A.step rfl ?_|refine A.v rfl rfl ?_); refine A.ret1 (Λ' := []) rfl rfl rfl (List.nil_sublist _) ⟨?_, rfl⟩; rw [c1]; exact .refl
    · (repeat first|refine A.s rfl ?_|refine A.r rfl rfl ?_|refine A.w rfl rfl ?_|refine A.p rfl ?_|refine A.b rfl fun bx=>?_|refine A.t rfl fun bl=>?_|refine A.step rfl ?_|refine A.v rfl rfl ?_)
      refine A.cond rfl (fun c2 => ?_) (fun c2 => ?_)
      · simp at c2; (repeat first|refine A.s rfl ?_|refine A.r rfl rfl ?_|refine A.w rfl rfl ?_|refine A.p rfl ?_|refine A.b rfl fun bx=>?_|refine A.t rfl fun bl=>?_|refine A.step rfl ?_|refine A.v rfl rfl ?_); refine A.ret1 (Λ' := []) rfl rfl rfl (List.nil_sublist _) ⟨?_, rfl⟩; rw [c2]; exact .refl
      · simp at c1 c2; (repeat first|refine A.s rfl ?_|refine A.r rfl rfl ?_|refine A.w rfl rfl ?_|refine A.p rfl ?_|refine A.b rfl fun bx=>?_|refine A.t rfl fun bl=>?_|refine A.step rfl ?_|refine A.v rfl rfl ?_); refine A.ret1 (Λ' := []) rfl rfl rfl (List.nil_sublist _) ⟨?_, rfl⟩; refine Sb.eq (au8_eq (key _ c1 c2).symm)
  have tail : ∀ c : Bool, (e.kind = 6 ∨ e.kind = 7 → boolO e.oper = false) → litK env e = kindOf e.to := fun _ h => by
    rw [litK, if_neg (by omega), if_neg h4, if_neg (by rintro ⟨a, b⟩; rw [h a] at b; cases b)]
  by_cases h67 : e.kind = 6 ∨ e.kind = 7
  · have htp := tests_p e.oper
    by_cases hbo : boolO e.oper = true
    · have hc : litK env e = 3 := by rw [litK, if_neg (by omega), if_neg h4, if_pos ⟨h67, hbo⟩]
      rw [hc]
      simp only [boolO, decide_eq_true_eq] at hbo
      rcases testsF_cases e.oper with ⟨f, hf1, hf2⟩ | ⟨hf1, hf2⟩
      · rw [hf1] at htp
        rcases h67 with h | h
        · rw [h]
          refine Pure.of (S := tt) (fn := Tryz.f40) (n := 54) tt_ok Tryz.func40 rfl rfl rfl rfl fun w0 h0 F hgs => ?_
          (repeat first|refine A.s rfl ?_|refine A.r rfl rfl ?_|refine A.w rfl rfl ?_|refine A.p rfl ?_|refine A.b rfl fun bx=>?_|refine A.t rfl fun bl=>?_|refine A.step rfl ?_|refine A.v rfl rfl ?_)
          refine A.c rfl htp .refl ?_
          (repeat first|refine A.s rfl ?_|refine A.r rfl rfl ?_|refine A.w rfl rfl ?_|refine A.p rfl ?_|refine A.b rfl fun bx=>?_|refine A.t rfl fun bl=>?_|refine A.step rfl ?_|refine A.v rfl rfl ?_); refine A.ret1 (Λ' := []) rfl rfl rfl (List.nil_sublist _) ⟨?_, rfl⟩; exact .refl
        · rw [h]
          refine Pure.of (S := tt) (fn := Tryz.f40) (n := 54) tt_ok Tryz.func40 rfl rfl rfl rfl fun w0 h0 F hgs => ?_
          (repeat first|refine A.s rfl ?_|refine A.r rfl rfl ?_|refine A.w rfl rfl ?_|refine A.p rfl ?_|refine A.b rfl fun bx=>?_|refine A.t rfl fun bl=>?_|refine A.step rfl ?_|refine A.v rfl rfl ?_)
          refine A.c rfl htp .refl ?_
          (repeat first|refine A.s rfl ?_|refine A.r rfl rfl ?_|refine A.w rfl rfl ?_|refine A.p rfl ?_|refine A.b rfl fun bx=>?_|refine A.t rfl fun bl=>?_|refine A.step rfl ?_|refine A.v rfl rfl ?_); refine A.ret1 (Λ' := []) rfl rfl rfl (List.nil_sublist _) ⟨?_, rfl⟩; exact .refl
      · rw [hf1] at htp
        have ho : e.oper = 20 ∨ e.oper = 21 ∨ e.oper = 26 := by omega
        rcases h67 with h | h <;> rcases ho with ho | ho | ho
        all_goals (rw [h]; rw [ho] at htp ⊢; refine Pure.of (S := tt) (fn := Tryz.f40) (n := 54) tt_ok Tryz.func40 rfl rfl rfl rfl fun w0 h0 F hgs => ?_; (repeat first|refine A.s rfl ?_|refine A.r rfl rfl ?_|refine A.w rfl rfl ?_|refine A.p rfl ?_|refine A.b rfl fun bx=>?_|refine A.t rfl fun bl=>?_|refine A.step rfl ?_|refine A.v rfl rfl ?_); refine A.c rfl htp .refl ?_; (repeat first|refine A.s rfl ?_|refine A.r rfl rfl ?_|refine A.w rfl rfl ?_|refine A.p rfl ?_|refine A.b rfl fun bx=>?_|refine A.t rfl fun bl=>?_|refine A.step rfl ?_|refine A.v rfl rfl ?_); refine A.ret1 (Λ' := []) rfl rfl rfl (List.nil_sublist _) ⟨?_, rfl⟩; exact .refl)
    · have hbf : boolO e.oper = false := by simpa using hbo
      rw [tail true (fun _ => hbf)]
      simp only [boolO, decide_eq_false_iff_not] at hbf
      rcases testsF_cases e.oper with ⟨f, hf1, hf2⟩ | ⟨hf1, hf2⟩
      · omega
      rw [hf1] at htp
      rcases h67 with h | h
      all_goals (rw [h]; refine Pure.of (S := tt) (fn := Tryz.f40) (n := 54) tt_ok Tryz.func40 rfl rfl rfl rfl fun w0 h0 F hgs => ?_; (repeat first|refine A.s rfl ?_|refine A.r rfl rfl ?_|refine A.w rfl rfl ?_|refine A.p rfl ?_|refine A.b rfl fun bx=>?_|refine A.t rfl fun bl=>?_|refine A.step rfl ?_|refine A.v rfl rfl ?_); refine A.c rfl htp .refl ?_; (repeat first|refine A.s rfl ?_|refine A.r rfl rfl ?_|refine A.w rfl rfl ?_|refine A.p rfl ?_|refine A.b rfl fun bx=>?_|refine A.t rfl fun bl=>?_|refine A.step rfl ?_|refine A.v rfl rfl ?_); refine A.valE 48 rfl (x' := AB false) (ab_eq (by simp; omega)) ?_; (repeat first|refine A.s rfl ?_|refine A.r rfl rfl ?_|refine A.w rfl rfl ?_|refine A.p rfl ?_|refine A.b rfl fun bx=>?_|refine A.t rfl fun bl=>?_|refine A.step rfl ?_|refine A.v rfl rfl ?_); (refine A.cond rfl (fun c1 => ?_) (fun c1 => ?_); (simp at c1; (repeat first|refine A.s rfl ?_|refine A.r rfl rfl ?_|refine A.w rfl rfl ?_|refine A.p rfl ?_|refine A.b rfl fun bx=>?_|refine A.t rfl fun bl=>?_|refine A.step rfl ?_|refine A.v rfl rfl ?_); refine A.ret1 (Λ' := []) rfl rfl rfl (List.nil_sublist _) ⟨?_, rfl⟩; rw [c1]; exact .refl); (repeat first|refine A.s rfl ?_|refine A.r rfl rfl ?_|refine A.w rfl rfl ?_|refine A.p rfl ?_|refine A.b rfl fun bx=>?_|refine A.t rfl fun bl=>?_|refine A.step rfl ?_|refine A.v rfl rfl ?_); refine A.cond rfl (fun c2 => ?_) (fun c2 => ?_); (simp at c2; (repeat first|refine A.s rfl ?_|refine A.r rfl rfl ?_|refine A.w rfl rfl ?_|refine A.p rfl ?_|refine A.b rfl fun bx=>?_|refine A.t rfl fun bl=>?_|refine A.step rfl ?_|refine A.v rfl rfl ?_); refine A.ret1 (Λ' := []) rfl rfl rfl (List.nil_sublist _) ⟨?_, rfl⟩; rw [c2]; exact .refl); simp at c1 c2; (repeat first|refine A.s rfl ?_|refine A.r rfl rfl ?_|refine A.w rfl rfl ?_|refine A.p rfl ?_|refine A.b rfl fun bx=>?_|refine A.t rfl fun bl=>?_|refine A.step rfl ?_|refine A.v rfl rfl ?_); refine A.ret1 (Λ' := []) rfl rfl rfl (List.nil_sublist _) ⟨?_, rfl⟩; refine Sb.eq (au8_eq (key _ c1 c2).symm)))
  · rw [tail true (fun h => (h67 h).elim)]
    refine Pure.of (S := tt) (fn := Tryz.f40) (n := 54) tt_ok Tryz.func40 rfl rfl rfl rfl fun w0 h0 F hgs => ?_
    (repeat first|refine A.s rfl ?_|refine A.r rfl rfl ?_|refine A.w rfl rfl ?_|refine A.p rfl ?_|refine A.b rfl fun bx=>?_|refine A.t rfl fun bl=>?_|refine A.step rfl ?_|refine A.v rfl rfl ?_); refine A.valE 10 rfl (x' := AB false) (ab_eq (by simp [h2])) ?_
    (repeat first|refine A.s rfl ?_|refine A.r rfl rfl ?_|refine A.w rfl rfl ?_|refine A.p rfl ?_|refine A.b rfl fun bx=>?_|refine A.t rfl fun bl=>?_|refine A.step rfl ?_|refine A.v rfl rfl ?_); refine A.valE 10 rfl (x' := AB false) (ab_eq (by simp [h3])) ?_
    (repeat first|refine A.s rfl ?_|refine A.r rfl rfl ?_|refine A.w rfl rfl ?_|refine A.p rfl ?_|refine A.b rfl fun bx=>?_|refine A.t rfl fun bl=>?_|refine A.step rfl ?_|refine A.v rfl rfl ?_); refine A.valE 15 rfl (x' := AB false) (ab_eq (by simp [h4])) ?_
    (repeat first|refine A.s rfl ?_|refine A.r rfl rfl ?_|refine A.w rfl rfl ?_|refine A.p rfl ?_|refine A.b rfl fun bx=>?_|refine A.t rfl fun bl=>?_|refine A.step rfl ?_|refine A.v rfl rfl ?_); refine A.valE 27 rfl (x' := AB false) (ab_eq (by simp; omega)) ?_
    (repeat first|refine A.s rfl ?_|refine A.r rfl rfl ?_|refine A.w rfl rfl ?_|refine A.p rfl ?_|refine A.b rfl fun bx=>?_|refine A.t rfl fun bl=>?_|refine A.step rfl ?_|refine A.v rfl rfl ?_); refine A.valE 27 rfl (x' := AB false) (ab_eq (by simp; omega)) ?_
    (repeat first|refine A.s rfl ?_|refine A.r rfl rfl ?_|refine A.w rfl rfl ?_|refine A.p rfl ?_|refine A.b rfl fun bx=>?_|refine A.t rfl fun bl=>?_|refine A.step rfl ?_|refine A.v rfl rfl ?_); (refine A.cond rfl (fun c1 => ?_) (fun c1 => ?_); (simp at c1; (repeat first|refine A.s rfl ?_|refine A.r rfl rfl ?_|refine A.w rfl rfl ?_|refine A.p rfl ?_|refine A.b rfl fun bx=>?_|refine A.t rfl fun bl=>?_|refine A.step rfl ?_|refine A.v rfl rfl ?_); refine A.ret1 (Λ' := []) rfl rfl rfl (List.nil_sublist _) ⟨?_, rfl⟩; rw [c1]; exact .refl); (repeat first|refine A.s rfl ?_|refine A.r rfl rfl ?_|refine A.w rfl rfl ?_|refine A.p rfl ?_|refine A.b rfl fun bx=>?_|refine A.t rfl fun bl=>?_|refine A.step rfl ?_|refine A.v rfl rfl ?_); refine A.cond rfl (fun c2 => ?_) (fun c2 => ?_); (simp at c2; (repeat first|refine A.s rfl ?_|refine A.r rfl rfl ?_|refine A.w rfl rfl ?_|refine A.p rfl ?_|refine A.b rfl fun bx=>?_|refine A.t rfl fun bl=>?_|refine A.step rfl ?_|refine A.v rfl rfl ?_); refine A.ret1 (Λ' := []) rfl rfl rfl (List.nil_sublist _) ⟨?_, rfl⟩; rw [c2]; exact .refl); simp at c1 c2; (repeat first|refine A.s rfl ?_|refine A.r rfl rfl ?_|refine A.w rfl rfl ?_|refine A.p rfl ?_|refine A.b rfl fun bx=>?_|refine A.t rfl fun bl=>?_|refine A.step rfl ?_|refine A.v rfl rfl ?_); refine A.ret1 (Λ' := []) rfl rfl rfl (List.nil_sublist _) ⟨?_, rfl⟩; refine Sb.eq (au8_eq (key _ c1 c2).symm))
end Go.Proofs.YtlnbmocgnkjlfaaGreat
