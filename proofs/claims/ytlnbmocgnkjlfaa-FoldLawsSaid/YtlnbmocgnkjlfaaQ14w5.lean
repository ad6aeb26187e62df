/-
  transputerlaw14.FoldLaws: the operators obey the laws; true for every two words. Conditions: none beyond the row's own cells.
-/
import Derived.Test.YtlnbmocgnkjlfaaRows
import Derived.Test.YtlnbmocgnkjlfaaQ14u
import Derived.Test.YtlnbmocgnkjlfaaQ14x
namespace Go.Proofs.Ytlnbmocgnkjlfaa
open Go Go.Tp Go.ChangeShapes Go.WideShapes Go.ChangeAt Go.RowKit
set_option linter.unusedVariables false
set_option linter.unusedSimpArgs false
set_option maxRecDepth 100000

theorem foldLaws_contract (H : Type) (enc : TypeId × Value → H) (W : World) (base : Nat) (args : Array Value) (ds gs : List (DataW H)) (before : List MemPlace)
    (hval : ∀ (j : Nat) t v, Try.f5.params[j]? = some t → args[j]? = some v → Value.okWide Try.prog W .any base t v)
    (hW : DataW.Whole enc Try.prog Try.f5.params.toList Rows.foldLawsSpec.vars false W args.toList ds gs before)
    (hwt : (DataW.weightsEach Try.prog (Try.f5.params.toList ++ []) (ds ++ gs)).all (· ≤ reachBytes) = true) (hL : laidMetH Try.prog Rows.foldLawsRow.laid W) (hsh : W.ShapedOpen Try.prog) :
    Calls Try.prog 5 args W fun e W' => ∃ v, e = .returned v ∧ Rows.foldLawsSpec.post enc Try.prog Try.f5 false true false false W args v W' := by
  have hW' := hW
  obtain ⟨p, q, hA0, hV, rfl, hfz, hnd⟩ := hW
  have hA : DataW.TrodAll enc Try.prog W 0 (fun _ => true) true [21, 21] args.toList ds p := hA0
  obtain ⟨v0, v1, d0, d1, p0, p1, rfl, rfl, rfl, h0, h1⟩ := trodAll_two hA
  obtain ⟨rfl, rfl⟩ := trodVars_none hV
  obtain ⟨m, hgm⟩ := max_of W hsh
  obtain ⟨a, ua, ra⟩ := argI32 (hval 0 21 v0 rfl rfl) h0 (Wt_each hwt 0 21 d0 rfl rfl)
  obtain ⟨b, ub, rb⟩ := argI32 (hval 1 21 v1 rfl rfl) h1 (Wt_each hwt 1 21 d1 rfl rfl)
  exact pure_true laidOut (by kernel_rfl) (rfl : Try.f5.resultTypes = #[4]) (by kernel_rfl) rfl rfl hW' hgm (RpC_cons.2 ⟨_, _, rfl, ra, RpC_cons.2 ⟨_, _, rfl, rb, by rw [RpC_nil]⟩⟩) (laws_law m a b ua ub)
def foldLawsArgs : Array Value := #[.int .i32 0, .int .i32 0]
theorem foldLaws_reads (os : Os) {H : Type} (enc : TypeId × Value → H) : ∃ places, DataW.whole enc Try.prog ((World.holding Try.prog os ⟨#[], #[], []⟩).forCall (fun _ _ => 0) ⟨#[], foldLawsArgs, []⟩).memory Try.f5.params.toList Rows.foldLawsSpec.vars false foldLawsArgs.toList 8 = some ([.lit (.int .i32 0), .lit (.int .i32 0)], [], places) :=
  ⟨[], by kernel_rfl⟩
theorem foldLaws_laid (os : Os) : laidMet Try.prog Rows.foldLawsRow.laid ((World.holding Try.prog os ⟨#[], #[], []⟩).forCall (fun _ _ => 0) ⟨#[], foldLawsArgs, []⟩).memory :=
  laidMet_of_run' 8 (by kernel_rfl) (by kernel_rfl)
theorem foldLaws_lifted (os : Os) (started : os.Started) (H : Type) (enc : TypeId × Value → H) (F : Stop.Interp) :
    ReturnsInHanded {} Try.checked os 5 .any ((OpenSpec.ofChange Rows.foldLawsSpec).preRow enc Try.prog Try.f5 Rows.foldLawsRow.domain false Rows.foldLawsRow.laid) (((OpenSpec.ofChange Rows.foldLawsSpec).at F).post enc Try.prog Try.f5 false true false false) := by
  obtain ⟨places, hx⟩ := foldLaws_reads os enc
  refine returnsInHanded_of_row (C := Try.checked) (s := OpenSpec.ofChange Rows.foldLawsSpec) own started (by kernel_rfl) Try.func5
    (witness_row_at (enc := enc) (C := Try.checked) false (World.holding Try.prog os ⟨#[], #[], []⟩) foldLawsArgs rfl (by kernel_rfl) (by kernel_rfl) (by kernel_rfl)
      (OpenSpec.preRow_of_cond 8 hx (by kernel_rfl) (fun k hk => by cases hk) (by kernel_rfl) (foldLaws_laid os))) ?_
  intro W base args ds gs before hval hW _ _ hwt hL hsh _
  exact foldLaws_contract H enc W base args ds gs before hval hW hwt hL hsh
/-- transputerlaw14.FoldLaws: the law returns true for every input, and what came in reads as it did. -/
theorem foldLaws_holds : Rows.FoldLawsSaid :=
  OpenClaim.holds_of_cond 5 Try.f5 rfl rfl rfl rfl rfl rfl rfl ⟨rfl, rfl, rfl, rfl, rfl⟩ rfl rfl rfl rfl rfl (by kernel_rfl) Try.func5 (by kernel_rfl)
    (of_decide_eq_true (by kernel_rfl)) (by unfold Func.isWrapper; first | (rw [if_pos (by decide +kernel)]; kernel_rfl) | (rw [if_neg (by decide +kernel)]; exact ⟨rfl, rfl⟩))
    (fun os started H enc _ F => by rw [OpenClaim.pre_eq_preRow]; exact foldLaws_lifted os started H enc F)

#print axioms foldLaws_holds
end Go.Proofs.Ytlnbmocgnkjlfaa
