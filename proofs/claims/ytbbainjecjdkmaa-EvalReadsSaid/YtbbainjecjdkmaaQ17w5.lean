/-
  transputerlaw17.EvalReads: true for every store, expression, variable and list. Conditions: none beyond the row's own cells.
-/
import Derived.Test.YtbbainjecjdkmaaRows
import Derived.Test.YtbbainjecjdkmaaQ17q
import Derived.Test.YtbbainjecjdkmaaQ17o
namespace Go.Proofs.Ytbbainjecjdkmaa
open Go Go.Tp Go.ChangeShapes Go.WideShapes Go.ChangeAt Go.RowKit
set_option linter.unusedVariables false
set_option linter.unusedSimpArgs false
set_option maxRecDepth 100000

theorem evalReads_contract (H : Type) (enc : TypeId × Value → H) (W : World) (base : Nat) (args : Array Value) (ds gs : List (DataW H)) (before : List MemPlace)
    (hval : ∀ (j : Nat) t v, Try.f6.params[j]? = some t → args[j]? = some v → Value.okWide Try.prog W .any base t v)
    (hW : DataW.Whole enc Try.prog Try.f6.params.toList Rows.evalReadsSpec.vars false W args.toList ds gs before)
    (hwt : (DataW.weightsEach Try.prog (Try.f6.params.toList ++ []) (ds ++ gs)).all (· ≤ reachBytes) = true) (hL : laidMetH Try.prog Rows.evalReadsRow.laid W) :
    Calls Try.prog 6 args W fun e W' => ∃ v, e = .returned v ∧ Rows.evalReadsSpec.post enc Try.prog Try.f6 false true false false W args v W' := by
  have hW' := hW
  obtain ⟨p, q, hA0, hV, rfl, hfz, hnd⟩ := hW
  have hA : DataW.TrodAll enc Try.prog W 0 (fun _ => true) true [23, 45, 5, 54] args.toList ds p := hA0
  obtain ⟨v0, v1, v2, v3, d0, d1, d2, d3, p0, p1, p2, p3, rfl, rfl, rfl, h0, h1, h2, h3⟩ := trodAll_four hA
  obtain ⟨rfl, rfl⟩ := trodVars_none hV
  obtain ⟨s, a1, a2, a3, a4⟩ := arg23 (hval 0 23 v0 rfl rfl) h0 (Wt_each hwt 0 23 d0 rfl rfl)
  obtain ⟨e, b1, b2⟩ := arg45 (hval 1 45 v1 rfl rfl) h1 (Wt_each hwt 1 45 d1 rfl rfl)
  obtain ⟨v, c1, c2⟩ := arg5 (hval 2 5 v2 rfl rfl) h2 (Wt_each hwt 2 5 d2 rfl rfl)
  obtain ⟨l, l1, l2, l3⟩ := arg54 (hval 3 54 v3 rfl rfl) h3 (Wt_each hwt 3 54 d3 rfl rfl)
  exact pure_true laidOut (by kernel_rfl) (rfl : Try.f6.resultTypes = #[4]) (by kernel_rfl) rfl rfl hW' (fun _ _ h => by cases h) (RpC_cons.2 ⟨_, _, rfl, a3, RpC_cons.2 ⟨_, _, rfl, b2, RpC_cons.2 ⟨_, _, rfl, c2, RpC_cons.2 ⟨_, _, rfl, l3, by rw [RpC_nil]⟩⟩⟩⟩) (reads_law s e v l a1 a2 a4 b1 c1 l1 l2)
def evalReadsArgs : Array Value := #[.slice none 0 0, .agg #[.int .u8 0, .int .u8 0, .int .u8 0, .int .i32 0, .int .i64 0, .slice none 0 0], .int .u8 0, .slice none 0 0]
theorem evalReads_reads (os : Os) {H : Type} (enc : TypeId × Value → H) : ∃ places, DataW.whole enc Try.prog ((World.holding Try.prog os ⟨#[], #[], []⟩).forCall (fun _ _ => 0) ⟨#[], evalReadsArgs, []⟩).memory Try.f6.params.toList Rows.evalReadsSpec.vars false evalReadsArgs.toList 8 = some ([.nil, .agg [.lit (.int .u8 0), .lit (.int .u8 0), .lit (.int .u8 0), .lit (.int .i32 0), .lit (.int .i64 0), .nil], .lit (.int .u8 0), .nil], [], places) :=
  ⟨[], by kernel_rfl⟩
theorem evalReads_laid (os : Os) : laidMet Try.prog Rows.evalReadsRow.laid ((World.holding Try.prog os ⟨#[], #[], []⟩).forCall (fun _ _ => 0) ⟨#[], evalReadsArgs, []⟩).memory :=
  laidMet_of_run' 8 (by kernel_rfl) (by kernel_rfl)
theorem evalReads_lifted (os : Os) (started : os.Started) (H : Type) (enc : TypeId × Value → H) (F : Stop.Interp) :
    ReturnsInHanded {} Try.checked os 6 .any ((OpenSpec.ofChange Rows.evalReadsSpec).preRow enc Try.prog Try.f6 Rows.evalReadsRow.domain false Rows.evalReadsRow.laid) (((OpenSpec.ofChange Rows.evalReadsSpec).at F).post enc Try.prog Try.f6 false true false false) := by
  obtain ⟨places, hx⟩ := evalReads_reads os enc
  refine returnsInHanded_of_row (C := Try.checked) (s := OpenSpec.ofChange Rows.evalReadsSpec) own started (by kernel_rfl) Try.func6
    (witness_row_at (enc := enc) (C := Try.checked) false (World.holding Try.prog os ⟨#[], #[], []⟩) evalReadsArgs rfl (by kernel_rfl) (by kernel_rfl) (by kernel_rfl)
      (OpenSpec.preRow_of_cond 8 hx (by kernel_rfl) (fun k hk => by cases hk) (by kernel_rfl) (evalReads_laid os))) ?_
  intro W base args ds gs before hval hW _ _ hwt hL _ _
  exact evalReads_contract H enc W base args ds gs before hval hW hwt hL
/-- transputerlaw17.EvalReads: the law returns true for every input, and what came in reads as it did. -/
theorem evalReads_holds : Rows.EvalReadsSaid :=
  OpenClaim.holds_of_cond 6 Try.f6 rfl rfl rfl rfl rfl rfl rfl ⟨rfl, rfl, rfl, rfl, rfl⟩ rfl rfl rfl rfl rfl (by kernel_rfl) Try.func6 (by kernel_rfl)
    (of_decide_eq_true (by kernel_rfl)) (by unfold Func.isWrapper; first | (rw [if_pos (by decide +kernel)]; kernel_rfl) | (rw [if_neg (by decide +kernel)]; exact ⟨rfl, rfl⟩))
    (fun os started H enc _ F => by rw [OpenClaim.pre_eq_preRow]; exact evalReads_lifted os started H enc F)

#print axioms evalReads_holds
end Go.Proofs.Ytbbainjecjdkmaa
