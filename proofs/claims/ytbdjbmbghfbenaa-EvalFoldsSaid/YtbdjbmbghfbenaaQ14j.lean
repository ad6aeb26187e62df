/-
  Layer 14: Const.
-/
import Derived.Test.YtbdjbmbghfbenaaQ14h

namespace Go.Proofs.Ytbdjbmbghfbenaa
open Go Go.Tp
set_option linter.unusedVariables false
set_option linter.unusedSimpArgs false
set_option maxRecDepth 100000
set_option maxHeartbeats 4000000

/-- the value of an expression in an environment -/
def valE (env : List SP) (e : XE) : Int × Bool := valX env (valsP env env.length) e
def constE (env : List SP) (e : XE) : Int × Int := if validX e then (if (valE env e).2 then ((valE env e).1, 0) else (0, 140)) else (0, 2)
theorem const_p (m : Int) (env : List SP) (ok : SpecsOk env) (e : XE) (hw : wfX e) : Pure Try.prog (gsM m) 6 [encX e, specsA env] (.tp [AI32 (constE env e).1, AI (constE env e).2]) := by
  have hmy := emay_p m e hw
  have hwi := within_p m env ok
  rw [encX_eq] at hmy ⊢
  by_cases hv : validX e
  · have hok := valsP_ok env ok env.length (Nat.le_refl _)
    rw [List.take_length] at hok
    have hvp := (fvalue_p env (valsP env env.length) hok (htX e) e (Nat.le_refl _) hw hv.1).any (gs := gsM m)
    rw [encX_eq] at hvp
    have hc : constE env e = if (valE env e).2 then ((valE env e).1, 0) else (0, 140) := if_pos hv
    rw [hc]
    refine Pure.of (S := tt) (fn := Try.f6) (n := 19) tt_ok Try.func6 rfl rfl rfl rfl fun w0 h0 F hgs => ?_
    (repeat first|refine A.s rfl ?_|refine A.r rfl rfl ?_|refine A.w rfl rfl ?_|refine A.p rfl ?_|refine A.b rfl fun bx=>?_|refine A.t rfl fun bl=>?_|refine A.step rfl ?_|refine A.v rfl rfl ?_)
    refine A.c rfl hmy .refl ?_
    refine A.valE 8 rfl (x' := AB true) (ab_eq (by simp [hv])) ?_
    (repeat first|refine A.s rfl ?_|refine A.r rfl rfl ?_|refine A.w rfl rfl ?_|refine A.p rfl ?_|refine A.b rfl fun bx=>?_|refine A.t rfl fun bl=>?_|refine A.step rfl ?_|refine A.v rfl rfl ?_)
    cases hb : (valE env e).2 with
    | true =>
      rw [show valX env (valsP env env.length) e = ((valE env e).1, true) by rw [← hb]; rfl] at hvp
      refine A.draw 5 [0, 2, 4, 1, 3] noPubs [(1, scopeA env (valsP env env.length)), (3, valA ((valE env e).1, true))] (by kernel_rfl) (by kernel_rfl) ?_
      (repeat first|refine WA.s rfl ?_|refine WA.r rfl rfl ?_|refine WA.p rfl ?_|refine WA.step rfl ?_|refine WA.v rfl rfl ?_)
      refine WA.alloc rfl rfl rfl rfl rfl rfl rfl rfl fun b6 => ?_
      (repeat first|refine WA.s rfl ?_|refine WA.r rfl rfl ?_|refine WA.p rfl ?_|refine WA.step rfl ?_|refine WA.v rfl rfl ?_)
      refine WA.c rfl rfl hwi (.sub .refl) ?_
      refine WA.c rfl rfl hvp (.sub .refl) ?_
      refine WA.nil (l := [.box b6 (.ag [AI32 0, AB false])]) rfl ?_
      (repeat first|refine A.s rfl ?_|refine A.r rfl rfl ?_|refine A.w rfl rfl ?_|refine A.p rfl ?_|refine A.b rfl fun bx=>?_|refine A.t rfl fun bl=>?_|refine A.step rfl ?_|refine A.v rfl rfl ?_); refine A.ret2 (Λ' := []) rfl rfl rfl rfl (List.nil_sublist _) ⟨?_, rfl⟩; exact .refl
    | false =>
      rw [show valX env (valsP env env.length) e = ((valE env e).1, false) by rw [← hb]; rfl] at hvp
      refine A.draw 5 [0, 2, 4, 1, 3] noPubs [(1, scopeA env (valsP env env.length)), (3, valA ((valE env e).1, false))] (by kernel_rfl) (by kernel_rfl) ?_
      (repeat first|refine WA.s rfl ?_|refine WA.r rfl rfl ?_|refine WA.p rfl ?_|refine WA.step rfl ?_|refine WA.v rfl rfl ?_)
      refine WA.alloc rfl rfl rfl rfl rfl rfl rfl rfl fun b6 => ?_
      (repeat first|refine WA.s rfl ?_|refine WA.r rfl rfl ?_|refine WA.p rfl ?_|refine WA.step rfl ?_|refine WA.v rfl rfl ?_)
      refine WA.c rfl rfl hwi (.sub .refl) ?_
      refine WA.c rfl rfl hvp (.sub .refl) ?_
      refine WA.nil (l := [.box b6 (.ag [AI32 0, AB false])]) rfl ?_
      (repeat first|refine A.s rfl ?_|refine A.r rfl rfl ?_|refine A.w rfl rfl ?_|refine A.p rfl ?_|refine A.b rfl fun bx=>?_|refine A.t rfl fun bl=>?_|refine A.step rfl ?_|refine A.v rfl rfl ?_); refine A.ret2 (Λ' := []) rfl rfl rfl rfl (List.nil_sublist _) ⟨?_, rfl⟩; exact .refl
  · have hc : constE env e = (0, 2) := if_neg hv
    rw [hc]
    refine Pure.of (S := tt) (fn := Try.f6) (n := 19) tt_ok Try.func6 rfl rfl rfl rfl fun w0 h0 F hgs => ?_
    (repeat first|refine A.s rfl ?_|refine A.r rfl rfl ?_|refine A.w rfl rfl ?_|refine A.p rfl ?_|refine A.b rfl fun bx=>?_|refine A.t rfl fun bl=>?_|refine A.step rfl ?_|refine A.v rfl rfl ?_)
    refine A.c rfl hmy .refl ?_
    refine A.valE 8 rfl (x' := AB false) (ab_eq (by simp [hv])) ?_
    (repeat first|refine A.s rfl ?_|refine A.r rfl rfl ?_|refine A.w rfl rfl ?_|refine A.p rfl ?_|refine A.b rfl fun bx=>?_|refine A.t rfl fun bl=>?_|refine A.step rfl ?_|refine A.v rfl rfl ?_); refine A.ret2 (Λ' := []) rfl rfl rfl rfl (List.nil_sublist _) ⟨?_, rfl⟩; exact .refl
end Go.Proofs.Ytbdjbmbghfbenaa
