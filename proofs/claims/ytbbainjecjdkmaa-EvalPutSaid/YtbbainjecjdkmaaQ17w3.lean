/-
  transputerlaw17.EvalPut: true for every store, variable, element and value. Conditions: none beyond the row's own cells.
-/
import Derived.Test.YtbbainjecjdkmaaRows
import Derived.Test.YtbbainjecjdkmaaQ17m
import Derived.Test.YtbbainjecjdkmaaQ17o
namespace Go.Proofs.Ytbbainjecjdkmaa
open Go Go.Tp Go.ChangeShapes Go.WideShapes Go.ChangeAt Go.RowKit
set_option linter.unusedVariables false
set_option linter.unusedSimpArgs false
set_option maxRecDepth 100000

theorem evalPut_contract (H : Type) (enc : TypeId × Value → H) (W : World) (base : Nat) (args : Array Value) (ds gs : List (DataW H)) (before : List MemPlace)
    (hval : ∀ (j : Nat) t v, Try.f7.params[j]? = some t → args[j]? = some v → Value.okWide Try.prog W .any base t v)
    (hW : DataW.Whole enc Try.prog Try.f7.params.toList Rows.evalPutSpec.vars false W args.toList ds gs before)
    (hwt : (DataW.weightsEach Try.prog (Try.f7.params.toList ++ []) (ds ++ gs)).all (· ≤ reachBytes) = true) :
    Calls Try.prog 7 args W fun e W' => ∃ v, e = .returned v ∧ Rows.evalPutSpec.post enc Try.prog Try.f7 false true false false W args v W' := by
  have hW' := hW
  obtain ⟨p, q, hA0, hV, rfl, hfz, hnd⟩ := hW
  have hA : DataW.TrodAll enc Try.prog W 0 (fun _ => true) true [23, 5, 5, 21] args.toList ds p := hA0
  obtain ⟨v0, v1, v2, v3, d0, d1, d2, d3, p0, p1, p2, p3, rfl, rfl, rfl, h0, h1, h2, h3⟩ := trodAll_four hA
  obtain ⟨rfl, rfl⟩ := trodVars_none hV
  obtain ⟨s, a1, a2, a3, a4⟩ := arg23 (hval 0 23 v0 rfl rfl) h0 (Wt_each hwt 0 23 d0 rfl rfl)
  obtain ⟨v, b1, b2⟩ := arg5 (hval 1 5 v1 rfl rfl) h1 (Wt_each hwt 1 5 d1 rfl rfl)
  obtain ⟨i, c1, c2⟩ := arg5 (hval 2 5 v2 rfl rfl) h2 (Wt_each hwt 2 5 d2 rfl rfl)
  obtain ⟨x, e1, e2⟩ := arg21 (hval 3 21 v3 rfl rfl) h3 (Wt_each hwt 3 21 d3 rfl rfl)
  exact pure_true laidOut (by kernel_rfl) (rfl : Try.f7.resultTypes = #[4]) (by kernel_rfl) rfl rfl hW' (fun _ _ h => by cases h) (RpC_cons.2 ⟨_, _, rfl, a3, RpC_cons.2 ⟨_, _, rfl, b2, RpC_cons.2 ⟨_, _, rfl, c2, RpC_cons.2 ⟨_, _, rfl, e2, by rw [RpC_nil]⟩⟩⟩⟩) (put_law s v i x a1 a2 a4 b1 c1 e1)
def evalPutArgs : Array Value := #[.slice none 0 0, .int .u8 0, .int .u8 0, .int .i32 0]
theorem evalPut_reads (os : Os) {H : Type} (enc : TypeId × Value → H) : ∃ places, DataW.whole enc Try.prog ((World.holding Try.prog os ⟨#[], #[], []⟩).forCall (fun _ _ => 0) ⟨#[], evalPutArgs, []⟩).memory Try.f7.params.toList Rows.evalPutSpec.vars false evalPutArgs.toList 8 = some ([.nil, .lit (.int .u8 0), .lit (.int .u8 0), .lit (.int .i32 0)], [], places) :=
  ⟨[], by kernel_rfl⟩
theorem evalPut_laid (os : Os) : laidMet Try.prog Rows.evalPutRow.laid ((World.holding Try.prog os ⟨#[], #[], []⟩).forCall (fun _ _ => 0) ⟨#[], evalPutArgs, []⟩).memory :=
  laidMet_of_run' 8 (by kernel_rfl) (by kernel_rfl)
theorem evalPut_lifted (os : Os) (started : os.Started) (H : Type) (enc : TypeId × Value → H) (F : Stop.Interp) :
    ReturnsInHanded {} Try.checked os 7 .any ((OpenSpec.ofChange Rows.evalPutSpec).preRow enc Try.prog Try.f7 Rows.evalPutRow.domain false Rows.evalPutRow.laid) (((OpenSpec.ofChange Rows.evalPutSpec).at F).post enc Try.prog Try.f7 false true false false) := by
  obtain ⟨places, hx⟩ := evalPut_reads os enc
  refine returnsInHanded_of_row (C := Try.checked) (s := OpenSpec.ofChange Rows.evalPutSpec) own started (by kernel_rfl) Try.func7
    (witness_row_at (enc := enc) (C := Try.checked) false (World.holding Try.prog os ⟨#[], #[], []⟩) evalPutArgs rfl (by kernel_rfl) (by kernel_rfl) (by kernel_rfl)
      (OpenSpec.preRow_of_cond 8 hx (by kernel_rfl) (fun k hk => by cases hk) (by kernel_rfl) (evalPut_laid os))) ?_
  intro W base args ds gs before hval hW _ _ hwt _ _ _
  exact evalPut_contract H enc W base args ds gs before hval hW hwt
/-- transputerlaw17.EvalPut: the law returns true for every input, and what came in reads as it did. -/
theorem evalPut_holds : Rows.EvalPutSaid :=
  OpenClaim.holds_of_cond 7 Try.f7 rfl rfl rfl rfl rfl rfl rfl ⟨rfl, rfl, rfl, rfl, rfl⟩ rfl rfl rfl rfl rfl (by kernel_rfl) Try.func7 (by kernel_rfl)
    (of_decide_eq_true (by kernel_rfl)) (by unfold Func.isWrapper; first | (rw [if_pos (by decide +kernel)]; kernel_rfl) | (rw [if_neg (by decide +kernel)]; exact ⟨rfl, rfl⟩))
    (fun os started H enc _ F => by rw [OpenClaim.pre_eq_preRow]; exact evalPut_lifted os started H enc F)
#print axioms evalPut_holds
end Go.Proofs.Ytbbainjecjdkmaa
