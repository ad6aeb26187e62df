/-
  transputerlaw14.FoldAgain: a folded expression is folded to itself and has its value; true for every expression and environment. Conditions: none beyond the row's own cells.
-/
import Derived.Test.YtlnbmocgnkjlfaaRows
import Derived.Test.YtlnbmocgnkjlfaaQ14q
import Derived.Test.YtlnbmocgnkjlfaaQ14x
namespace Go.Proofs.Ytlnbmocgnkjlfaa
open Go Go.Tp Go.ChangeShapes Go.WideShapes Go.ChangeAt Go.RowKit
set_option linter.unusedVariables false
set_option linter.unusedSimpArgs false
set_option maxRecDepth 100000

theorem foldAgain_contract (H : Type) (enc : TypeId × Value → H) (W : World) (base : Nat) (args : Array Value) (ds gs : List (DataW H)) (before : List MemPlace)
    (hval : ∀ (j : Nat) t v, Try.f4.params[j]? = some t → args[j]? = some v → Value.okWide Try.prog W .any base t v)
    (hW : DataW.Whole enc Try.prog Try.f4.params.toList Rows.foldAgainSpec.vars false W args.toList ds gs before)
    (hwt : (DataW.weightsEach Try.prog (Try.f4.params.toList ++ []) (ds ++ gs)).all (· ≤ reachBytes) = true) (hL : laidMetH Try.prog Rows.foldAgainRow.laid W) (hsh : W.ShapedOpen Try.prog) :
    Calls Try.prog 4 args W fun e W' => ∃ v, e = .returned v ∧ Rows.foldAgainSpec.post enc Try.prog Try.f4 false true false false W args v W' := by
  have hW' := hW
  obtain ⟨p, q, hA0, hV, rfl, hfz, hnd⟩ := hW
  have hA : DataW.TrodAll enc Try.prog W 0 (fun _ => true) true [31, 32] args.toList ds p := hA0
  obtain ⟨v0, v1, d0, d1, p0, p1, rfl, rfl, rfl, h0, h1⟩ := trodAll_two hA
  obtain ⟨rfl, rfl⟩ := trodVars_none hV
  obtain ⟨m, hgm⟩ := max_of W hsh
  obtain ⟨e, ue, re⟩ := argX (hval 0 31 v0 rfl rfl) h0 (Wt_each hwt 0 31 d0 rfl rfl)
  obtain ⟨env, a1, ra⟩ := argSs (hval 1 32 v1 rfl rfl) h1 (Wt_each hwt 1 32 d1 rfl rfl)
  exact pure_true laidOut (by kernel_rfl) (rfl : Try.f4.resultTypes = #[4]) (by kernel_rfl) rfl rfl hW' hgm (RpC_cons.2 ⟨_, _, rfl, re, RpC_cons.2 ⟨_, _, rfl, ra, by rw [RpC_nil]⟩⟩) (again_law m env a1.2 (fun x hx => (a1.1 x hx).1) (fun x hx => (a1.1 x hx).2.2) e ue)
def foldAgainArgs : Array Value := #[.agg #[.int .u8 0, .int .u8 0, .int .u8 0, .int .i32 0, .string ⟨#[]⟩, .slice none 0 0], .slice none 0 0]
theorem foldAgain_reads (os : Os) {H : Type} (enc : TypeId × Value → H) : ∃ places, DataW.whole enc Try.prog ((World.holding Try.prog os ⟨#[], #[], []⟩).forCall (fun _ _ => 0) ⟨#[], foldAgainArgs, []⟩).memory Try.f4.params.toList Rows.foldAgainSpec.vars false foldAgainArgs.toList 8 = some ([.agg [.lit (.int .u8 0), .lit (.int .u8 0), .lit (.int .u8 0), .lit (.int .i32 0), .lit (.string []), .nil], .nil], [], places) :=
  ⟨[], by kernel_rfl⟩
theorem foldAgain_laid (os : Os) : laidMet Try.prog Rows.foldAgainRow.laid ((World.holding Try.prog os ⟨#[], #[], []⟩).forCall (fun _ _ => 0) ⟨#[], foldAgainArgs, []⟩).memory :=
  laidMet_of_run' 8 (by kernel_rfl) (by kernel_rfl)
theorem foldAgain_lifted (os : Os) (started : os.Started) (H : Type) (enc : TypeId × Value → H) (F : Stop.Interp) :
    ReturnsInHanded {} Try.checked os 4 .any ((OpenSpec.ofChange Rows.foldAgainSpec).preRow enc Try.prog Try.f4 Rows.foldAgainRow.domain false Rows.foldAgainRow.laid) (((OpenSpec.ofChange Rows.foldAgainSpec).at F).post enc Try.prog Try.f4 false true false false) := by
  obtain ⟨places, hx⟩ := foldAgain_reads os enc
  refine returnsInHanded_of_row (C := Try.checked) (s := OpenSpec.ofChange Rows.foldAgainSpec) own started (by kernel_rfl) Try.func4
    (witness_row_at (enc := enc) (C := Try.checked) false (World.holding Try.prog os ⟨#[], #[], []⟩) foldAgainArgs rfl (by kernel_rfl) (by kernel_rfl) (by kernel_rfl)
      (OpenSpec.preRow_of_cond 8 hx (by kernel_rfl) (fun k hk => by cases hk) (by kernel_rfl) (foldAgain_laid os))) ?_
  intro W base args ds gs before hval hW _ _ hwt hL hsh _
  exact foldAgain_contract H enc W base args ds gs before hval hW hwt hL hsh
/-- transputerlaw14.FoldAgain: the law returns true for every input, and what came in reads as it did. -/
theorem foldAgain_holds : Rows.FoldAgainSaid :=
  OpenClaim.holds_of_cond 4 Try.f4 rfl rfl rfl rfl rfl rfl rfl ⟨rfl, rfl, rfl, rfl, rfl⟩ rfl rfl rfl rfl rfl (by kernel_rfl) Try.func4 (by kernel_rfl)
    (of_decide_eq_true (by kernel_rfl)) (by unfold Func.isWrapper; first | (rw [if_pos (by decide +kernel)]; kernel_rfl) | (rw [if_neg (by decide +kernel)]; exact ⟨rfl, rfl⟩))
    (fun os started H enc _ F => by rw [OpenClaim.pre_eq_preRow]; exact foldAgain_lifted os started H enc F)

#print axioms foldAgain_holds
end Go.Proofs.Ytlnbmocgnkjlfaa
