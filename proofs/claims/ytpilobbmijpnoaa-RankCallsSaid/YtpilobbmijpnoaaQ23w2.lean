/-
  transputerlaw23.RankCalls: whether a network is valid, its ranks, whether ranks rise, and its waiting cycle are those of the document; true. Conditions: none beyond the row's own cells.
-/
import Derived.Test.YtpilobbmijpnoaaRows
import Derived.Test.YtpilobbmijpnoaaQ23u
import Derived.Test.YtpilobbmijpnoaaQ23o
namespace Go.Proofs.Ytpilobbmijpnoaa
open Go Go.Tp Go.ChangeShapes Go.WideShapes Go.ChangeAt Go.RowKit
set_option linter.unusedVariables false
set_option linter.unusedSimpArgs false
set_option maxRecDepth 100000

theorem rankCalls_contract (H : Type) (enc : TypeId × Value → H) (W : World) (base : Nat) (args : Array Value) (ds gs : List (DataW H)) (before : List MemPlace)
    (hval : ∀ (j : Nat) t v, Try.f3.params[j]? = some t → args[j]? = some v → Value.okWide Try.prog W .any base t v)
    (hW : DataW.Whole enc Try.prog Try.f3.params.toList Rows.rankCallsSpec.vars false W args.toList ds gs before)
    (hwt : (DataW.weightsEach Try.prog (Try.f3.params.toList ++ []) (ds ++ gs)).all (· ≤ reachBytes) = true) (hL : laidMetH Try.prog Rows.rankCallsRow.laid W) (hsh : W.ShapedOpen Try.prog) :
    Calls Try.prog 3 args W fun e W' => ∃ v, e = .returned v ∧ Rows.rankCallsSpec.post enc Try.prog Try.f3 false true false false W args v W' := by
  have hW' := hW
  obtain ⟨p, q, hA0, hV, rfl, hfz, hnd⟩ := hW
  have hA : DataW.TrodAll enc Try.prog W 0 (fun _ => true) true [24, 25] args.toList ds p := hA0
  obtain ⟨v0, v1, d0, d1, p0, p1, rfl, rfl, rfl, h0, h1⟩ := trodAll_two hA
  obtain ⟨rfl, rfl⟩ := trodVars_none hV
  obtain ⟨n, c, un, hc, rc⟩ := argNet (hval 0 24 v0 rfl rfl) h0 (Wt_each hwt 0 24 d0 rfl rfl)
  obtain ⟨r, ur, rr⟩ := argRow (hval 1 25 v1 rfl rfl) h1 (Wt_each hwt 1 25 d1 rfl rfl)
  exact pure_true laidOut (by kernel_rfl) (rfl : Try.f3.resultTypes = #[4]) (by kernel_rfl) rfl rfl hW' (fun _ _ h => by cases h) (RpC_cons.2 ⟨_, _, rfl, rc, RpC_cons.2 ⟨_, _, rfl, rr, by rw [RpC_nil]⟩⟩) ((calls_p n c r hc ur.2))
def rankCallsArgs : Array Value := #[.agg #[.int .i64 0, .slice none 0 0], .slice none 0 0]
theorem rankCalls_reads (os : Os) {H : Type} (enc : TypeId × Value → H) : ∃ places, DataW.whole enc Try.prog ((World.holding Try.prog os ⟨#[], #[], []⟩).forCall (fun _ _ => 0) ⟨#[], rankCallsArgs, []⟩).memory Try.f3.params.toList Rows.rankCallsSpec.vars false rankCallsArgs.toList 8 = some ([.agg [.lit (.int .i64 0), .nil], .nil], [], places) :=
  ⟨[], by kernel_rfl⟩
theorem rankCalls_laid (os : Os) : laidMet Try.prog Rows.rankCallsRow.laid ((World.holding Try.prog os ⟨#[], #[], []⟩).forCall (fun _ _ => 0) ⟨#[], rankCallsArgs, []⟩).memory :=
  laidMet_of_run' 8 (by kernel_rfl) (by kernel_rfl)
theorem rankCalls_lifted (os : Os) (started : os.Started) (H : Type) (enc : TypeId × Value → H) (F : Stop.Interp) :
    ReturnsInHanded {} Try.checked os 3 .any ((OpenSpec.ofChange Rows.rankCallsSpec).preRow enc Try.prog Try.f3 Rows.rankCallsRow.domain false Rows.rankCallsRow.laid) (((OpenSpec.ofChange Rows.rankCallsSpec).at F).post enc Try.prog Try.f3 false true false false) := by
  obtain ⟨places, hx⟩ := rankCalls_reads os enc
  refine returnsInHanded_of_row (C := Try.checked) (s := OpenSpec.ofChange Rows.rankCallsSpec) own started (by kernel_rfl) Try.func3
    (witness_row_at (enc := enc) (C := Try.checked) false (World.holding Try.prog os ⟨#[], #[], []⟩) rankCallsArgs rfl (by kernel_rfl) (by kernel_rfl) (by kernel_rfl)
      (OpenSpec.preRow_of_cond 8 hx (by kernel_rfl) (fun k hk => by cases hk) (by kernel_rfl) (rankCalls_laid os))) ?_
  intro W base args ds gs before hval hW _ _ hwt hL hsh _
  exact rankCalls_contract H enc W base args ds gs before hval hW hwt hL hsh
/-- transputerlaw23.RankCalls: the law returns true for every input, and what came in reads as it did. -/
theorem rankCalls_holds : Rows.RankCallsSaid :=
  OpenClaim.holds_of_cond 3 Try.f3 rfl rfl rfl rfl rfl rfl rfl ⟨rfl, rfl, rfl, rfl, rfl⟩ rfl rfl rfl rfl rfl (by kernel_rfl) Try.func3 (by kernel_rfl)
    (of_decide_eq_true (by kernel_rfl)) (by unfold Func.isWrapper; first | (rw [if_pos (by decide +kernel)]; kernel_rfl) | (rw [if_neg (by decide +kernel)]; exact ⟨rfl, rfl⟩))
    (fun os started H enc _ F => by rw [OpenClaim.pre_eq_preRow]; exact rankCalls_lifted os started H enc F)

#print axioms rankCalls_holds
end Go.Proofs.Ytpilobbmijpnoaa
