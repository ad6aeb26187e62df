/-
  transputerlaw23.RankTurned: the ranks and the waiting cycle of a network are those of the network with its processes turned round; true. Conditions: none beyond the row's own cells.
-/
import Derived.Test.YtpilobbmijpnoaaRows
import Derived.Test.YtpilobbmijpnoaaQ23i
import Derived.Test.YtpilobbmijpnoaaQ23o
namespace Go.Proofs.Ytpilobbmijpnoaa
open Go Go.Tp Go.ChangeShapes Go.WideShapes Go.ChangeAt Go.RowKit
set_option linter.unusedVariables false
set_option linter.unusedSimpArgs false
set_option maxRecDepth 100000

theorem rankTurned_contract (H : Type) (enc : TypeId × Value → H) (W : World) (base : Nat) (args : Array Value) (ds gs : List (DataW H)) (before : List MemPlace)
    (hval : ∀ (j : Nat) t v, Try.f4.params[j]? = some t → args[j]? = some v → Value.okWide Try.prog W .any base t v)
    (hW : DataW.Whole enc Try.prog Try.f4.params.toList Rows.rankTurnedSpec.vars false W args.toList ds gs before)
    (hwt : (DataW.weightsEach Try.prog (Try.f4.params.toList ++ []) (ds ++ gs)).all (· ≤ reachBytes) = true) (hL : laidMetH Try.prog Rows.rankTurnedRow.laid W) (hsh : W.ShapedOpen Try.prog) :
    Calls Try.prog 4 args W fun e W' => ∃ v, e = .returned v ∧ Rows.rankTurnedSpec.post enc Try.prog Try.f4 false true false false W args v W' := by
  have hW' := hW
  obtain ⟨p, q, hA0, hV, rfl, hfz, hnd⟩ := hW
  have hA : DataW.TrodAll enc Try.prog W 0 (fun _ => true) true [24] args.toList ds p := hA0
  obtain ⟨v0, d0, rfl, rfl, h0⟩ := trodAll_one hA
  obtain ⟨rfl, rfl⟩ := trodVars_none hV
  obtain ⟨n, c, un, hc, rc⟩ := argNet (hval 0 24 v0 rfl rfl) h0 (Wt_each hwt 0 24 d0 rfl rfl)
  exact pure_true laidOut (by kernel_rfl) (rfl : Try.f4.resultTypes = #[4]) (by kernel_rfl) rfl rfl hW' (fun _ _ h => by cases h) (RpC_cons.2 ⟨_, _, rfl, rc, by rw [RpC_nil]⟩) ((turned_p n c hc))
def rankTurnedArgs : Array Value := #[.agg #[.int .i64 0, .slice none 0 0]]
theorem rankTurned_reads (os : Os) {H : Type} (enc : TypeId × Value → H) : ∃ places, DataW.whole enc Try.prog ((World.holding Try.prog os ⟨#[], #[], []⟩).forCall (fun _ _ => 0) ⟨#[], rankTurnedArgs, []⟩).memory Try.f4.params.toList Rows.rankTurnedSpec.vars false rankTurnedArgs.toList 8 = some ([.agg [.lit (.int .i64 0), .nil]], [], places) :=
  ⟨[], by kernel_rfl⟩
theorem rankTurned_laid (os : Os) : laidMet Try.prog Rows.rankTurnedRow.laid ((World.holding Try.prog os ⟨#[], #[], []⟩).forCall (fun _ _ => 0) ⟨#[], rankTurnedArgs, []⟩).memory :=
  laidMet_of_run' 8 (by kernel_rfl) (by kernel_rfl)
theorem rankTurned_lifted (os : Os) (started : os.Started) (H : Type) (enc : TypeId × Value → H) (F : Stop.Interp) :
    ReturnsInHanded {} Try.checked os 4 .any ((OpenSpec.ofChange Rows.rankTurnedSpec).preRow enc Try.prog Try.f4 Rows.rankTurnedRow.domain false Rows.rankTurnedRow.laid) (((OpenSpec.ofChange Rows.rankTurnedSpec).at F).post enc Try.prog Try.f4 false true false false) := by
  obtain ⟨places, hx⟩ := rankTurned_reads os enc
  refine returnsInHanded_of_row (C := Try.checked) (s := OpenSpec.ofChange Rows.rankTurnedSpec) own started (by kernel_rfl) Try.func4
    (witness_row_at (enc := enc) (C := Try.checked) false (World.holding Try.prog os ⟨#[], #[], []⟩) rankTurnedArgs rfl (by kernel_rfl) (by kernel_rfl) (by kernel_rfl)
      (OpenSpec.preRow_of_cond 8 hx (by kernel_rfl) (fun k hk => by cases hk) (by kernel_rfl) (rankTurned_laid os))) ?_
  intro W base args ds gs before hval hW _ _ hwt hL hsh _
  exact rankTurned_contract H enc W base args ds gs before hval hW hwt hL hsh
/-- transputerlaw23.RankTurned: the law returns true for every input, and what came in reads as it did. -/
theorem rankTurned_holds : Rows.RankTurnedSaid :=
  OpenClaim.holds_of_cond 4 Try.f4 rfl rfl rfl rfl rfl rfl rfl ⟨rfl, rfl, rfl, rfl, rfl⟩ rfl rfl rfl rfl rfl (by kernel_rfl) Try.func4 (by kernel_rfl)
    (of_decide_eq_true (by kernel_rfl)) (by unfold Func.isWrapper; first | (rw [if_pos (by decide +kernel)]; kernel_rfl) | (rw [if_neg (by decide +kernel)]; exact ⟨rfl, rfl⟩))
    (fun os started H enc _ F => by rw [OpenClaim.pre_eq_preRow]; exact rankTurned_lifted os started H enc F)

#print axioms rankTurned_holds
end Go.Proofs.Ytpilobbmijpnoaa
