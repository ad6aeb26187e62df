/-
  transputerlaw17.EvalValues answers true for every store and every expression, and leaves them alone. Conditions: none beyond the row's own cells.
-/
import Derived.Test.YtbbainjecjdkmaaRows
import Derived.Test.YtbbainjecjdkmaaQ17i
import Derived.Test.YtbbainjecjdkmaaQ17o
namespace Go.Proofs.Ytbbainjecjdkmaa
open Go Go.Tp Go.ChangeShapes Go.WideShapes Go.ChangeAt Go.RowKit
set_option linter.unusedVariables false
set_option maxRecDepth 100000

theorem ev_contract (H : Type) (enc : TypeId × Value → H) (W : World) (base : Nat) (args : Array Value) (ds gs : List (DataW H)) (before : List MemPlace)
    (hval : ∀ (j : Nat) t v, Try.f4.params[j]? = some t → args[j]? = some v → Value.okWide Try.prog W .any base t v)
    (hW : DataW.Whole enc Try.prog Try.f4.params.toList Rows.evalValuesSpec.vars false W args.toList ds gs before)
    (hwt : (DataW.weightsEach Try.prog (Try.f4.params.toList ++ []) (ds ++ gs)).all (· ≤ reachBytes) = true) :
    Calls Try.prog 4 args W fun e W' => ∃ v, e = .returned v ∧ Rows.evalValuesSpec.post enc Try.prog Try.f4 false true false false W args v W' := by
  have hW' := hW
  obtain ⟨p, q, hA0, hV, rfl, hfz, hnd⟩ := hW
  have hA : DataW.TrodAll enc Try.prog W 0 (fun _ => true) true [23, 45] args.toList ds p := hA0
  obtain ⟨v0, v1, d0, d1, p0, p1, rfl, rfl, rfl, h0, h1⟩ := trodAll_two hA
  obtain ⟨rfl, rfl⟩ := trodVars_none hV
  obtain ⟨s, a1, a2, a3⟩ := arg23 (hval 0 23 v0 rfl rfl) h0 (Wt_each hwt 0 23 d0 rfl rfl)
  obtain ⟨e, b1, b2⟩ := arg45 (hval 1 45 v1 rfl rfl) h1 (Wt_each hwt 1 45 d1 rfl rfl)
  exact pure_true laidOut (by kernel_rfl) (rfl : Try.f4.resultTypes = #[4]) (by kernel_rfl) rfl rfl hW' (fun _ _ h => by cases h) (RpC_cons.2 ⟨_, _, rfl, a3, RpC_cons.2 ⟨_, _, rfl, b2, by rw [RpC_nil]⟩⟩) (values_law s e a1 a2 b1)

def zeroE : Value := .agg #[.int .u8 0, .int .u8 0, .int .u8 0, .int .i32 0, .int .i64 0, .slice none 0 0]
def zeroD {H : Type} : DataW H := .agg [.lit (.int .u8 0), .lit (.int .u8 0), .lit (.int .u8 0), .lit (.int .i32 0), .lit (.int .i64 0), .nil]
def evArgs : Array Value := #[.slice none 0 0, zeroE]
theorem ev_reads (os : Os) {H : Type} (enc : TypeId × Value → H) : ∃ places, DataW.whole enc Try.prog ((World.holding Try.prog os ⟨#[], #[], []⟩).forCall (fun _ _ => 0) ⟨#[], evArgs, []⟩).memory Try.f4.params.toList Rows.evalValuesSpec.vars false evArgs.toList 8 = some ([.nil, zeroD], [], places) :=
  ⟨[], by kernel_rfl⟩
theorem ev_laid (os : Os) : laidMet Try.prog Rows.evalValuesRow.laid ((World.holding Try.prog os ⟨#[], #[], []⟩).forCall (fun _ _ => 0) ⟨#[], evArgs, []⟩).memory :=
  laidMet_of_run' 8 (by kernel_rfl) (by kernel_rfl)
theorem ev_lifted (os : Os) (started : os.Started) (H : Type) (enc : TypeId × Value → H) (F : Stop.Interp) :
    ReturnsInHanded {} Try.checked os 4 .any ((OpenSpec.ofChange Rows.evalValuesSpec).preRow enc Try.prog Try.f4 Rows.evalValuesRow.domain false Rows.evalValuesRow.laid) (((OpenSpec.ofChange Rows.evalValuesSpec).at F).post enc Try.prog Try.f4 false true false false) := by
  obtain ⟨places, hx⟩ := ev_reads os enc
  refine returnsInHanded_of_row (C := Try.checked) (s := OpenSpec.ofChange Rows.evalValuesSpec) own started (by kernel_rfl) Try.func4
    (witness_row_at (enc := enc) (C := Try.checked) false (World.holding Try.prog os ⟨#[], #[], []⟩) evArgs rfl (by kernel_rfl) (by kernel_rfl) (by kernel_rfl)
      (OpenSpec.preRow_of_cond 8 hx (by kernel_rfl) (fun k hk => by cases hk) (by kernel_rfl) (ev_laid os))) ?_
  intro W base args ds gs before hval hW _ _ hwt _ _ _
  exact ev_contract H enc W base args ds gs before hval hW hwt
/-- transputerlaw17.EvalValues: for every store and every expression the law returns true, and they read as they did. -/
theorem evalValues_holds : Rows.EvalValuesSaid :=
  OpenClaim.holds_of_cond 4 Try.f4 rfl rfl rfl rfl rfl rfl rfl ⟨rfl, rfl, rfl, rfl, rfl⟩ rfl rfl rfl rfl rfl (by kernel_rfl) Try.func4 (by kernel_rfl)
    (of_decide_eq_true (by kernel_rfl)) (by unfold Func.isWrapper; first | (rw [if_pos (by decide +kernel)]; kernel_rfl) | (rw [if_neg (by decide +kernel)]; exact ⟨rfl, rfl⟩))
    (fun os started H enc _ F => by rw [OpenClaim.pre_eq_preRow]; exact ev_lifted os started H enc F)
#print axioms evalValues_holds
end Go.Proofs.Ytbbainjecjdkmaa
