/-
  transputerlaw14.FoldShadows: the innermost specification of a name counts; true for all arguments. Conditions: none beyond the row's own cells.
-/
import Derived.Test.YtlnbmocgnkjlfaaRows
import Derived.Test.YtlnbmocgnkjlfaaQ14r
import Derived.Test.YtlnbmocgnkjlfaaQ14x
namespace Go.Proofs.Ytlnbmocgnkjlfaa
open Go Go.Tp Go.ChangeShapes Go.WideShapes Go.ChangeAt Go.RowKit
set_option linter.unusedVariables false
set_option linter.unusedSimpArgs false
set_option maxRecDepth 100000

theorem foldShadows_contract (H : Type) (enc : TypeId × Value → H) (W : World) (base : Nat) (args : Array Value) (ds gs : List (DataW H)) (before : List MemPlace)
    (hval : ∀ (j : Nat) t v, Try.f7.params[j]? = some t → args[j]? = some v → Value.okWide Try.prog W .any base t v)
    (hW : DataW.Whole enc Try.prog Try.f7.params.toList Rows.foldShadowsSpec.vars false W args.toList ds gs before)
    (hwt : (DataW.weightsEach Try.prog (Try.f7.params.toList ++ []) (ds ++ gs)).all (· ≤ reachBytes) = true) (hL : laidMetH Try.prog Rows.foldShadowsRow.laid W) (hsh : W.ShapedOpen Try.prog) :
    Calls Try.prog 7 args W fun e W' => ∃ v, e = .returned v ∧ Rows.foldShadowsSpec.post enc Try.prog Try.f7 false true false false W args v W' := by
  have hW' := hW
  obtain ⟨p, q, hA0, hV, rfl, hfz, hnd⟩ := hW
  have hA : DataW.TrodAll enc Try.prog W 0 (fun _ => true) true [21, 21, 5, 3] args.toList ds p := hA0
  obtain ⟨v0, v1, v2, v3, d0, d1, d2, d3, p0, p1, p2, p3, rfl, rfl, rfl, h0, h1, h2, h3⟩ := trodAll_four hA
  obtain ⟨rfl, rfl⟩ := trodVars_none hV
  obtain ⟨m, hgm⟩ := max_of W hsh
  obtain ⟨v, uv, rv⟩ := argI32 (hval 0 21 v0 rfl rfl) h0 (Wt_each hwt 0 21 d0 rfl rfl)
  obtain ⟨w, uw, rw⟩ := argI32 (hval 1 21 v1 rfl rfl) h1 (Wt_each hwt 1 21 d1 rfl rfl)
  obtain ⟨k, uk, rk⟩ := argU8 (hval 2 5 v2 rfl rfl) h2 (Wt_each hwt 2 5 d2 rfl rfl)
  obtain ⟨d, ud, rd⟩ := argI64 (hval 3 3 v3 rfl rfl) h3 (Wt_each hwt 3 3 d3 rfl rfl)
  exact pure_true laidOut (by kernel_rfl) (rfl : Try.f7.resultTypes = #[4]) (by kernel_rfl) rfl rfl hW' hgm (RpC_cons.2 ⟨_, _, rfl, rv, RpC_cons.2 ⟨_, _, rfl, rw, RpC_cons.2 ⟨_, _, rfl, rk, RpC_cons.2 ⟨_, _, rfl, rd, by rw [RpC_nil]⟩⟩⟩⟩) (shadows_law v w k d m uv uw uk ud)
def foldShadowsArgs : Array Value := #[.int .i32 0, .int .i32 0, .int .u8 0, .int .i64 0]
theorem foldShadows_reads (os : Os) {H : Type} (enc : TypeId × Value → H) : ∃ places, DataW.whole enc Try.prog ((World.holding Try.prog os ⟨#[], #[], []⟩).forCall (fun _ _ => 0) ⟨#[], foldShadowsArgs, []⟩).memory Try.f7.params.toList Rows.foldShadowsSpec.vars false foldShadowsArgs.toList 8 = some ([.lit (.int .i32 0), .lit (.int .i32 0), .lit (.int .u8 0), .lit (.int .i64 0)], [], places) :=
  ⟨[], by kernel_rfl⟩
theorem foldShadows_laid (os : Os) : laidMet Try.prog Rows.foldShadowsRow.laid ((World.holding Try.prog os ⟨#[], #[], []⟩).forCall (fun _ _ => 0) ⟨#[], foldShadowsArgs, []⟩).memory :=
  laidMet_of_run' 8 (by kernel_rfl) (by kernel_rfl)
theorem foldShadows_lifted (os : Os) (started : os.Started) (H : Type) (enc : TypeId × Value → H) (F : Stop.Interp) :
    ReturnsInHanded {} Try.checked os 7 .any ((OpenSpec.ofChange Rows.foldShadowsSpec).preRow enc Try.prog Try.f7 Rows.foldShadowsRow.domain false Rows.foldShadowsRow.laid) (((OpenSpec.ofChange Rows.foldShadowsSpec).at F).post enc Try.prog Try.f7 false true false false) := by
  obtain ⟨places, hx⟩ := foldShadows_reads os enc
  refine returnsInHanded_of_row (C := Try.checked) (s := OpenSpec.ofChange Rows.foldShadowsSpec) own started (by kernel_rfl) Try.func7
    (witness_row_at (enc := enc) (C := Try.checked) false (World.holding Try.prog os ⟨#[], #[], []⟩) foldShadowsArgs rfl (by kernel_rfl) (by kernel_rfl) (by kernel_rfl)
      (OpenSpec.preRow_of_cond 8 hx (by kernel_rfl) (fun k hk => by cases hk) (by kernel_rfl) (foldShadows_laid os))) ?_
  intro W base args ds gs before hval hW _ _ hwt hL hsh _
  exact foldShadows_contract H enc W base args ds gs before hval hW hwt hL hsh
/-- transputerlaw14.FoldShadows: the law returns true for every input, and what came in reads as it did. -/
theorem foldShadows_holds : Rows.FoldShadowsSaid :=
  OpenClaim.holds_of_cond 7 Try.f7 rfl rfl rfl rfl rfl rfl rfl ⟨rfl, rfl, rfl, rfl, rfl⟩ rfl rfl rfl rfl rfl (by kernel_rfl) Try.func7 (by kernel_rfl)
    (of_decide_eq_true (by kernel_rfl)) (by unfold Func.isWrapper; first | (rw [if_pos (by decide +kernel)]; kernel_rfl) | (rw [if_neg (by decide +kernel)]; exact ⟨rfl, rfl⟩))
    (fun os started H enc _ F => by rw [OpenClaim.pre_eq_preRow]; exact foldShadows_lifted os started H enc F)

#print axioms foldShadows_holds
end Go.Proofs.Ytlnbmocgnkjlfaa
