/-
  transputerlaw17.EvalFolds: a constant expression without names that has a value in layer 14 has the same value in every store; true. Conditions: none beyond the row's own cells.
-/
import Derived.Test.YtbdjbmbghfbenaaRows
import Derived.Test.YtbdjbmbghfbenaaQ17t
import Derived.Test.YtbdjbmbghfbenaaQ17y
namespace Go.Proofs.Ytbdjbmbghfbenaa
open Go Go.Tp Go.ChangeShapes Go.WideShapes Go.ChangeAt Go.RowKit
set_option linter.unusedVariables false
set_option linter.unusedSimpArgs false
set_option maxRecDepth 100000

theorem evalFolds_contract (H : Type) (enc : TypeId × Value → H) (W : World) (base : Nat) (args : Array Value) (ds gs : List (DataW H)) (before : List MemPlace)
    (hval : ∀ (j : Nat) t v, Try.f3.params[j]? = some t → args[j]? = some v → Value.okWide Try.prog W .any base t v)
    (hW : DataW.Whole enc Try.prog Try.f3.params.toList Rows.evalFoldsSpec.vars false W args.toList ds gs before)
    (hwt : (DataW.weightsEach Try.prog (Try.f3.params.toList ++ []) (ds ++ gs)).all (· ≤ reachBytes) = true) (hL : laidMetH Try.prog Rows.evalFoldsRow.laid W) (hsh : W.ShapedOpen Try.prog) :
    Calls Try.prog 3 args W fun e W' => ∃ v, e = .returned v ∧ Rows.evalFoldsSpec.post enc Try.prog Try.f3 false true false false W args v W' := by
  have hW' := hW
  obtain ⟨p, q, hA0, hV, rfl, hfz, hnd⟩ := hW
  have hA : DataW.TrodAll enc Try.prog W 0 (fun _ => true) true [22, 28] args.toList ds p := hA0
  obtain ⟨v0, v1, d0, d1, p0, p1, rfl, rfl, rfl, h0, h1⟩ := trodAll_two hA
  obtain ⟨rfl, rfl⟩ := trodVars_none hV
  obtain ⟨m, hgm⟩ := max_of W hsh
  obtain ⟨s, us1, us2, rs⟩ := argStore (hval 0 22 v0 rfl rfl) h0 (Wt_each hwt 0 22 d0 rfl rfl)
  obtain ⟨e, ue, re⟩ := argX (hval 1 28 v1 rfl rfl) h1 (Wt_each hwt 1 28 d1 rfl rfl)
  exact pure_true laidOut (by kernel_rfl) (rfl : Try.f3.resultTypes = #[4]) (by kernel_rfl) rfl rfl hW' hgm (RpC_cons.2 ⟨_, _, rfl, rs, RpC_cons.2 ⟨_, _, rfl, re, by rw [RpC_nil]⟩⟩) ((folds_law m s us1 us2 e ue))
def evalFoldsArgs : Array Value := #[.slice none 0 0, .agg #[.int .u8 0, .int .u8 0, .int .u8 0, .int .i32 0, .string ⟨#[]⟩, .slice none 0 0]]
theorem evalFolds_reads (os : Os) {H : Type} (enc : TypeId × Value → H) : ∃ places, DataW.whole enc Try.prog ((World.holding Try.prog os ⟨#[], #[], []⟩).forCall (fun _ _ => 0) ⟨#[], evalFoldsArgs, []⟩).memory Try.f3.params.toList Rows.evalFoldsSpec.vars false evalFoldsArgs.toList 8 = some ([.nil, .agg [.lit (.int .u8 0), .lit (.int .u8 0), .lit (.int .u8 0), .lit (.int .i32 0), .lit (.string []), .nil]], [], places) :=
  ⟨[], by kernel_rfl⟩
theorem evalFolds_laid (os : Os) : laidMet Try.prog Rows.evalFoldsRow.laid ((World.holding Try.prog os ⟨#[], #[], []⟩).forCall (fun _ _ => 0) ⟨#[], evalFoldsArgs, []⟩).memory :=
  laidMet_of_run' 8 (by kernel_rfl) (by kernel_rfl)
theorem evalFolds_lifted (os : Os) (started : os.Started) (H : Type) (enc : TypeId × Value → H) (F : Stop.Interp) :
    ReturnsInHanded {} Try.checked os 3 .any ((OpenSpec.ofChange Rows.evalFoldsSpec).preRow enc Try.prog Try.f3 Rows.evalFoldsRow.domain false Rows.evalFoldsRow.laid) (((OpenSpec.ofChange Rows.evalFoldsSpec).at F).post enc Try.prog Try.f3 false true false false) := by
  obtain ⟨places, hx⟩ := evalFolds_reads os enc
  refine returnsInHanded_of_row (C := Try.checked) (s := OpenSpec.ofChange Rows.evalFoldsSpec) own started (by kernel_rfl) Try.func3
    (witness_row_at (enc := enc) (C := Try.checked) false (World.holding Try.prog os ⟨#[], #[], []⟩) evalFoldsArgs rfl (by kernel_rfl) (by kernel_rfl) (by kernel_rfl)
      (OpenSpec.preRow_of_cond 8 hx (by kernel_rfl) (fun k hk => by cases hk) (by kernel_rfl) (evalFolds_laid os))) ?_
  intro W base args ds gs before hval hW _ _ hwt hL hsh _
  exact evalFolds_contract H enc W base args ds gs before hval hW hwt hL hsh
/-- transputerlaw17.EvalFolds: the law returns true for every input, and what came in reads as it did. -/
theorem evalFolds_holds : Rows.EvalFoldsSaid :=
  OpenClaim.holds_of_cond 3 Try.f3 rfl rfl rfl rfl rfl rfl rfl ⟨rfl, rfl, rfl, rfl, rfl⟩ rfl rfl rfl rfl rfl (by kernel_rfl) Try.func3 (by kernel_rfl)
    (of_decide_eq_true (by kernel_rfl)) (by unfold Func.isWrapper; first | (rw [if_pos (by decide +kernel)]; kernel_rfl) | (rw [if_neg (by decide +kernel)]; exact ⟨rfl, rfl⟩))
    (fun os started H enc _ F => by rw [OpenClaim.pre_eq_preRow]; exact evalFolds_lifted os started H enc F)

#print axioms evalFolds_holds
end Go.Proofs.Ytbdjbmbghfbenaa
