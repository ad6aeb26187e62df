/-
  transputerlaw17.EvalPlaces: true for every store, place, variable, element and value. Conditions: none beyond the row's own cells.
-/
import Derived.Test.YtbbainjecjdkmaaRows
import Derived.Test.YtbbainjecjdkmaaQ17p
import Derived.Test.YtbbainjecjdkmaaQ17o
namespace Go.Proofs.Ytbbainjecjdkmaa
open Go Go.Tp Go.ChangeShapes Go.WideShapes Go.ChangeAt Go.RowKit
set_option linter.unusedVariables false
set_option linter.unusedSimpArgs false
set_option maxRecDepth 100000

theorem evalPlaces_contract (H : Type) (enc : TypeId × Value → H) (W : World) (base : Nat) (args : Array Value) (ds gs : List (DataW H)) (before : List MemPlace)
    (hval : ∀ (j : Nat) t v, Try.f5.params[j]? = some t → args[j]? = some v → Value.okWide Try.prog W .any base t v)
    (hW : DataW.Whole enc Try.prog Try.f5.params.toList Rows.evalPlacesSpec.vars false W args.toList ds gs before)
    (hwt : (DataW.weightsEach Try.prog (Try.f5.params.toList ++ []) (ds ++ gs)).all (· ≤ reachBytes) = true) (hL : laidMetH Try.prog Rows.evalPlacesRow.laid W) :
    Calls Try.prog 5 args W fun e W' => ∃ v, e = .returned v ∧ Rows.evalPlacesSpec.post enc Try.prog Try.f5 false true false false W args v W' := by
  have hW' := hW
  obtain ⟨p, q, hA0, hV, rfl, hfz, hnd⟩ := hW
  have hA : DataW.TrodAll enc Try.prog W 0 (fun _ => true) true [23, 50, 3, 3, 21] args.toList ds p := hA0
  obtain ⟨v0, v1, v2, v3, v4, d0, d1, d2, d3, d4, p0, p1, p2, p3, p4, rfl, rfl, rfl, h0, h1, h2, h3, h4⟩ := trodAll_five hA
  obtain ⟨rfl, rfl⟩ := trodVars_none hV
  obtain ⟨s, a1, a2, a3, a4⟩ := arg23 (hval 0 23 v0 rfl rfl) h0 (Wt_each hwt 0 23 d0 rfl rfl)
  obtain ⟨pv, pl, b1, b2, b3⟩ := arg50 (hval 1 50 v1 rfl rfl) h1 (Wt_each hwt 1 50 d1 rfl rfl)
  obtain ⟨v, c1, c2⟩ := arg3 (hval 2 3 v2 rfl rfl) h2 (Wt_each hwt 2 3 d2 rfl rfl)
  obtain ⟨i, e1, e2⟩ := arg3 (hval 3 3 v3 rfl rfl) h3 (Wt_each hwt 3 3 d3 rfl rfl)
  obtain ⟨x, x1, x2⟩ := arg21 (hval 4 21 v4 rfl rfl) h4 (Wt_each hwt 4 21 d4 rfl rfl)
  exact pure_true laidOut (by kernel_rfl) (rfl : Try.f5.resultTypes = #[4]) (by kernel_rfl) rfl rfl hW' (fun _ _ h => by cases h) (RpC_cons.2 ⟨_, _, rfl, a3, RpC_cons.2 ⟨_, _, rfl, b3, RpC_cons.2 ⟨_, _, rfl, c2, RpC_cons.2 ⟨_, _, rfl, e2, RpC_cons.2 ⟨_, _, rfl, x2, by rw [RpC_nil]⟩⟩⟩⟩⟩) (places_law s pv pl v i x a1 a2 a4 b1 b2 x1)
def evalPlacesArgs : Array Value := #[.slice none 0 0, .agg #[.int .i64 0, .slice none 0 0], .int .i64 0, .int .i64 0, .int .i32 0]
theorem evalPlaces_reads (os : Os) {H : Type} (enc : TypeId × Value → H) : ∃ places, DataW.whole enc Try.prog ((World.holding Try.prog os ⟨#[], #[], []⟩).forCall (fun _ _ => 0) ⟨#[], evalPlacesArgs, []⟩).memory Try.f5.params.toList Rows.evalPlacesSpec.vars false evalPlacesArgs.toList 8 = some ([.nil, .agg [.lit (.int .i64 0), .nil], .lit (.int .i64 0), .lit (.int .i64 0), .lit (.int .i32 0)], [], places) :=
  ⟨[], by kernel_rfl⟩
theorem evalPlaces_laid (os : Os) : laidMet Try.prog Rows.evalPlacesRow.laid ((World.holding Try.prog os ⟨#[], #[], []⟩).forCall (fun _ _ => 0) ⟨#[], evalPlacesArgs, []⟩).memory :=
  laidMet_of_run' 8 (by kernel_rfl) (by kernel_rfl)
theorem evalPlaces_lifted (os : Os) (started : os.Started) (H : Type) (enc : TypeId × Value → H) (F : Stop.Interp) :
    ReturnsInHanded {} Try.checked os 5 .any ((OpenSpec.ofChange Rows.evalPlacesSpec).preRow enc Try.prog Try.f5 Rows.evalPlacesRow.domain false Rows.evalPlacesRow.laid) (((OpenSpec.ofChange Rows.evalPlacesSpec).at F).post enc Try.prog Try.f5 false true false false) := by
  obtain ⟨places, hx⟩ := evalPlaces_reads os enc
  refine returnsInHanded_of_row (C := Try.checked) (s := OpenSpec.ofChange Rows.evalPlacesSpec) own started (by kernel_rfl) Try.func5
    (witness_row_at (enc := enc) (C := Try.checked) false (World.holding Try.prog os ⟨#[], #[], []⟩) evalPlacesArgs rfl (by kernel_rfl) (by kernel_rfl) (by kernel_rfl)
      (OpenSpec.preRow_of_cond 8 hx (by kernel_rfl) (fun k hk => by cases hk) (by kernel_rfl) (evalPlaces_laid os))) ?_
  intro W base args ds gs before hval hW _ _ hwt hL _ _
  exact evalPlaces_contract H enc W base args ds gs before hval hW hwt hL
/-- transputerlaw17.EvalPlaces: the law returns true for every input, and what came in reads as it did. -/
theorem evalPlaces_holds : Rows.EvalPlacesSaid :=
  OpenClaim.holds_of_cond 5 Try.f5 rfl rfl rfl rfl rfl rfl rfl ⟨rfl, rfl, rfl, rfl, rfl⟩ rfl rfl rfl rfl rfl (by kernel_rfl) Try.func5 (by kernel_rfl)
    (of_decide_eq_true (by kernel_rfl)) (by unfold Func.isWrapper; first | (rw [if_pos (by decide +kernel)]; kernel_rfl) | (rw [if_neg (by decide +kernel)]; exact ⟨rfl, rfl⟩))
    (fun os started H enc _ F => by rw [OpenClaim.pre_eq_preRow]; exact evalPlaces_lifted os started H enc F)

#print axioms evalPlaces_holds
end Go.Proofs.Ytbbainjecjdkmaa
