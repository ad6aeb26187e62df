/-
  transputerlaw14.FoldFolds: Fold answers as the reference does; true for every expression and environment. Conditions: none beyond the row's own cells.
-/
import Derived.Test.YtlnbmocgnkjlfaaGreatRows
import Derived.Test.YtlnbmocgnkjlfaaGreatQ14c4
import Derived.Test.YtlnbmocgnkjlfaaGreatQ14x
namespace Go.Proofs.YtlnbmocgnkjlfaaGreat
open Go Go.Tp Go.ChangeShapes Go.WideShapes Go.ChangeAt Go.RowKit
set_option linter.unusedVariables false
set_option linter.unusedSimpArgs false
set_option maxRecDepth 100000

theorem foldFolds_contract (H : Type) (enc : TypeId × Value → H) (W : World) (base : Nat) (args : Array Value) (ds gs : List (DataW H)) (before : List MemPlace)
    (hval : ∀ (j : Nat) t v, Tryz.f4.params[j]? = some t → args[j]? = some v → Value.okWide Tryz.prog W .any base t v)
    (hW : DataW.Whole enc Tryz.prog Tryz.f4.params.toList Rows.foldFoldsSpec.vars false W args.toList ds gs before)
    (hwt : (DataW.weightsEach Tryz.prog (Tryz.f4.params.toList ++ []) (ds ++ gs)).all (· ≤ reachBytes) = true) (hL : laidMetH Tryz.prog Rows.foldFoldsRow.laid W) (hsh : W.ShapedOpen Tryz.prog) :
    Calls Tryz.prog 4 args W fun e W' => ∃ v, e = .returned v ∧ Rows.foldFoldsSpec.post enc Tryz.prog Tryz.f4 false true false false W args v W' := by
  have hW' := hW
  obtain ⟨p, q, hA0, hV, rfl, hfz, hnd⟩ := hW
  have hA : DataW.TrodAll enc Tryz.prog W 0 (fun _ => true) true [27, 28] args.toList ds p := hA0
  obtain ⟨v0, v1, d0, d1, p0, p1, rfl, rfl, rfl, h0, h1⟩ := trodAll_two hA
  obtain ⟨rfl, rfl⟩ := trodVars_none hV
  obtain ⟨m, hgm⟩ := max_of W hsh
  obtain ⟨e, ue, re⟩ := argX (hval 0 27 v0 rfl rfl) h0 (Wt_each hwt 0 27 d0 rfl rfl)
  obtain ⟨env, a1, ra⟩ := argSs (hval 1 28 v1 rfl rfl) h1 (Wt_each hwt 1 28 d1 rfl rfl)
  exact pure_true laidOut (by kernel_rfl) (rfl : Tryz.f4.resultTypes = #[4]) (by kernel_rfl) rfl rfl hW' hgm (RpC_cons.2 ⟨_, _, rfl, re, RpC_cons.2 ⟨_, _, rfl, ra, by rw [RpC_nil]⟩⟩) (folds_law m env a1.2 (fun x hx => (a1.1 x hx).1) (fun x hx => (a1.1 x hx).2.2) e ue)
def foldFoldsArgs : Array Value := #[.agg #[.int .u8 0, .int .u8 0, .int .u8 0, .int .i32 0, .string ⟨#[]⟩, .slice none 0 0], .slice none 0 0]
theorem foldFolds_reads (os : Os) {H : Type} (enc : TypeId × Value → H) : ∃ places, DataW.whole enc Tryz.prog ((World.holding Tryz.prog os ⟨#[], #[], []⟩).forCall (fun _ _ => 0) ⟨#[], foldFoldsArgs, []⟩).memory Tryz.f4.params.toList Rows.foldFoldsSpec.vars false foldFoldsArgs.toList 8 = some ([.agg [.lit (.int .u8 0), .lit (.int .u8 0), .lit (.int .u8 0), .lit (.int .i32 0), .lit (.string []), .nil], .nil], [], places) :=
  ⟨[], by kernel_rfl⟩
theorem foldFolds_laid (os : Os) : laidMet Tryz.prog Rows.foldFoldsRow.laid ((World.holding Tryz.prog os ⟨#[], #[], []⟩).forCall (fun _ _ => 0) ⟨#[], foldFoldsArgs, []⟩).memory :=
  laidMet_of_run' 8 (by kernel_rfl) (by kernel_rfl)
theorem foldFolds_lifted (os : Os) (started : os.Started) (H : Type) (enc : TypeId × Value → H) (F : Stop.Interp) :
    ReturnsInHanded {} Tryz.checked os 4 .any ((OpenSpec.ofChange Rows.foldFoldsSpec).preRow enc Tryz.prog Tryz.f4 Rows.foldFoldsRow.domain false Rows.foldFoldsRow.laid) (((OpenSpec.ofChange Rows.foldFoldsSpec).at F).post enc Tryz.prog Tryz.f4 false true false false) := by
  obtain ⟨places, hx⟩ := foldFolds_reads os enc
  refine returnsInHanded_of_row (C := Tryz.checked) (s := OpenSpec.ofChange Rows.foldFoldsSpec) own started (by kernel_rfl) Tryz.func4
    (witness_row_at (enc := enc) (C := Tryz.checked) false (World.holding Tryz.prog os ⟨#[], #[], []⟩) foldFoldsArgs rfl (by kernel_rfl) (by kernel_rfl) (by kernel_rfl)
      (OpenSpec.preRow_of_cond 8 hx (by kernel_rfl) (fun k hk => by cases hk) (by kernel_rfl) (foldFolds_laid os))) ?_
  intro W base args ds gs before hval hW _ _ hwt hL hsh _
  exact foldFolds_contract H enc W base args ds gs before hval hW hwt hL hsh
/-- transputerlaw14.FoldFolds: the law returns true for every input, and what came in reads as it did. -/
theorem foldFolds_holds : Rows.FoldFoldsSaid :=
  OpenClaim.holds_of_cond 4 Tryz.f4 rfl rfl rfl rfl rfl rfl rfl ⟨rfl, rfl, rfl, rfl, rfl⟩ rfl rfl rfl rfl rfl (by kernel_rfl) Tryz.func4 (by kernel_rfl)
    (of_decide_eq_true (by kernel_rfl)) (by unfold Func.isWrapper; first | (rw [if_pos (by decide +kernel)]; kernel_rfl) | (rw [if_neg (by decide +kernel)]; exact ⟨rfl, rfl⟩))
    (fun os started H enc _ F => by rw [OpenClaim.pre_eq_preRow]; exact foldFolds_lifted os started H enc F)

#print axioms foldFolds_holds
end Go.Proofs.YtlnbmocgnkjlfaaGreat
