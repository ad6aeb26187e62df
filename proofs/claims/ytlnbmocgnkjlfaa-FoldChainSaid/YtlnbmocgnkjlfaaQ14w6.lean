/-
  transputerlaw14.FoldChain: constants that double the one before them, and such as count, have their values; true for every first value and every length. Conditions: none beyond the row's own cells.
-/
import Derived.Test.YtlnbmocgnkjlfaaRows
import Derived.Test.YtlnbmocgnkjlfaaQ14y
import Derived.Test.YtlnbmocgnkjlfaaQ14x
namespace Go.Proofs.Ytlnbmocgnkjlfaa
open Go Go.Tp Go.ChangeShapes Go.WideShapes Go.ChangeAt Go.RowKit
set_option linter.unusedVariables false
set_option linter.unusedSimpArgs false
set_option maxRecDepth 100000

theorem foldChain_contract (H : Type) (enc : TypeId × Value → H) (W : World) (base : Nat) (args : Array Value) (ds gs : List (DataW H)) (before : List MemPlace)
    (hval : ∀ (j : Nat) t v, Try.f6.params[j]? = some t → args[j]? = some v → Value.okWide Try.prog W .any base t v)
    (hW : DataW.Whole enc Try.prog Try.f6.params.toList Rows.foldChainSpec.vars false W args.toList ds gs before)
    (hwt : (DataW.weightsEach Try.prog (Try.f6.params.toList ++ []) (ds ++ gs)).all (· ≤ reachBytes) = true) (hL : laidMetH Try.prog Rows.foldChainRow.laid W) (hsh : W.ShapedOpen Try.prog) :
    Calls Try.prog 6 args W fun e W' => ∃ v, e = .returned v ∧ Rows.foldChainSpec.post enc Try.prog Try.f6 false true false false W args v W' := by
  have hW' := hW
  obtain ⟨p, q, hA0, hV, rfl, hfz, hnd⟩ := hW
  have hA : DataW.TrodAll enc Try.prog W 0 (fun _ => true) true [21, 5] args.toList ds p := hA0
  obtain ⟨v0, v1, d0, d1, p0, p1, rfl, rfl, rfl, h0, h1⟩ := trodAll_two hA
  obtain ⟨rfl, rfl⟩ := trodVars_none hV
  obtain ⟨m, hgm⟩ := max_of W hsh
  obtain ⟨v, uv, rv⟩ := argI32 (hval 0 21 v0 rfl rfl) h0 (Wt_each hwt 0 21 d0 rfl rfl)
  obtain ⟨n, un, rn⟩ := argU8 (hval 1 5 v1 rfl rfl) h1 (Wt_each hwt 1 5 d1 rfl rfl)
  exact pure_true laidOut (by kernel_rfl) (rfl : Try.f6.resultTypes = #[4]) (by kernel_rfl) rfl rfl hW' hgm (RpC_cons.2 ⟨_, _, rfl, rv, RpC_cons.2 ⟨_, _, rfl, rn, by rw [RpC_nil]⟩⟩) (chain_law m v n uv un)
def foldChainArgs : Array Value := #[.int .i32 0, .int .u8 0]
theorem foldChain_reads (os : Os) {H : Type} (enc : TypeId × Value → H) : ∃ places, DataW.whole enc Try.prog ((World.holding Try.prog os ⟨#[], #[], []⟩).forCall (fun _ _ => 0) ⟨#[], foldChainArgs, []⟩).memory Try.f6.params.toList Rows.foldChainSpec.vars false foldChainArgs.toList 8 = some ([.lit (.int .i32 0), .lit (.int .u8 0)], [], places) :=
  ⟨[], by kernel_rfl⟩
theorem foldChain_laid (os : Os) : laidMet Try.prog Rows.foldChainRow.laid ((World.holding Try.prog os ⟨#[], #[], []⟩).forCall (fun _ _ => 0) ⟨#[], foldChainArgs, []⟩).memory :=
  laidMet_of_run' 8 (by kernel_rfl) (by kernel_rfl)
theorem foldChain_lifted (os : Os) (started : os.Started) (H : Type) (enc : TypeId × Value → H) (F : Stop.Interp) :
    ReturnsInHanded {} Try.checked os 6 .any ((OpenSpec.ofChange Rows.foldChainSpec).preRow enc Try.prog Try.f6 Rows.foldChainRow.domain false Rows.foldChainRow.laid) (((OpenSpec.ofChange Rows.foldChainSpec).at F).post enc Try.prog Try.f6 false true false false) := by
  obtain ⟨places, hx⟩ := foldChain_reads os enc
  refine returnsInHanded_of_row (C := Try.checked) (s := OpenSpec.ofChange Rows.foldChainSpec) own started (by kernel_rfl) Try.func6
    (witness_row_at (enc := enc) (C := Try.checked) false (World.holding Try.prog os ⟨#[], #[], []⟩) foldChainArgs rfl (by kernel_rfl) (by kernel_rfl) (by kernel_rfl)
      (OpenSpec.preRow_of_cond 8 hx (by kernel_rfl) (fun k hk => by cases hk) (by kernel_rfl) (foldChain_laid os))) ?_
  intro W base args ds gs before hval hW _ _ hwt hL hsh _
  exact foldChain_contract H enc W base args ds gs before hval hW hwt hL hsh
/-- transputerlaw14.FoldChain: the law returns true for every input, and what came in reads as it did. -/
theorem foldChain_holds : Rows.FoldChainSaid :=
  OpenClaim.holds_of_cond 6 Try.f6 rfl rfl rfl rfl rfl rfl rfl ⟨rfl, rfl, rfl, rfl, rfl⟩ rfl rfl rfl rfl rfl (by kernel_rfl) Try.func6 (by kernel_rfl)
    (of_decide_eq_true (by kernel_rfl)) (by unfold Func.isWrapper; first | (rw [if_pos (by decide +kernel)]; kernel_rfl) | (rw [if_neg (by decide +kernel)]; exact ⟨rfl, rfl⟩))
    (fun os started H enc _ F => by rw [OpenClaim.pre_eq_preRow]; exact foldChain_lifted os started H enc F)

#print axioms foldChain_holds
end Go.Proofs.Ytlnbmocgnkjlfaa
