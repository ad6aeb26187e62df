/-
  transputerlaw17.EvalMorgan: true for every store and every two expressions. Conditions: none beyond the row's own cells.
-/
import Derived.Test.YtbbainjecjdkmaaRows
import Derived.Test.YtbbainjecjdkmaaQ17r
import Derived.Test.YtbbainjecjdkmaaQ17o
namespace Go.Proofs.Ytbbainjecjdkmaa
open Go Go.Tp Go.ChangeShapes Go.WideShapes Go.ChangeAt Go.RowKit
set_option linter.unusedVariables false
set_option linter.unusedSimpArgs false
set_option maxRecDepth 100000

theorem evalMorgan_contract (H : Type) (enc : TypeId × Value → H) (W : World) (base : Nat) (args : Array Value) (ds gs : List (DataW H)) (before : List MemPlace)
    (hval : ∀ (j : Nat) t v, Try.f8.params[j]? = some t → args[j]? = some v → Value.okWide Try.prog W .any base t v)
    (hW : DataW.Whole enc Try.prog Try.f8.params.toList Rows.evalMorganSpec.vars false W args.toList ds gs before)
    (hwt : (DataW.weightsEach Try.prog (Try.f8.params.toList ++ []) (ds ++ gs)).all (· ≤ reachBytes) = true) (hL : laidMetH Try.prog Rows.evalMorganRow.laid W) :
    Calls Try.prog 8 args W fun e W' => ∃ v, e = .returned v ∧ Rows.evalMorganSpec.post enc Try.prog Try.f8 false true false false W args v W' := by
  have hW' := hW
  obtain ⟨p, q, hA0, hV, rfl, hfz, hnd⟩ := hW
  have hA : DataW.TrodAll enc Try.prog W 0 (fun _ => true) true [23, 45, 45] args.toList ds p := hA0
  obtain ⟨v0, v1, v2, d0, d1, d2, p0, p1, p2, rfl, rfl, rfl, h0, h1, h2⟩ := trodAll_three hA
  obtain ⟨rfl, rfl⟩ := trodVars_none hV
  obtain ⟨s, a1, a2, a3, a4⟩ := arg23 (hval 0 23 v0 rfl rfl) h0 (Wt_each hwt 0 23 d0 rfl rfl)
  obtain ⟨a, b1, b2⟩ := arg45 (hval 1 45 v1 rfl rfl) h1 (Wt_each hwt 1 45 d1 rfl rfl)
  obtain ⟨b, c1, c2⟩ := arg45 (hval 2 45 v2 rfl rfl) h2 (Wt_each hwt 2 45 d2 rfl rfl)
  exact pure_true laidOut (by kernel_rfl) (rfl : Try.f8.resultTypes = #[4]) (by kernel_rfl) rfl rfl hW' (fun _ _ h => by cases h) (RpC_cons.2 ⟨_, _, rfl, a3, RpC_cons.2 ⟨_, _, rfl, b2, RpC_cons.2 ⟨_, _, rfl, c2, by rw [RpC_nil]⟩⟩⟩) (morgan_law s a b a1 a2 b1 c1)
def evalMorganArgs : Array Value := #[.slice none 0 0, .agg #[.int .u8 0, .int .u8 0, .int .u8 0, .int .i32 0, .int .i64 0, .slice none 0 0], .agg #[.int .u8 0, .int .u8 0, .int .u8 0, .int .i32 0, .int .i64 0, .slice none 0 0]]
theorem evalMorgan_reads (os : Os) {H : Type} (enc : TypeId × Value → H) : ∃ places, DataW.whole enc Try.prog ((World.holding Try.prog os ⟨#[], #[], []⟩).forCall (fun _ _ => 0) ⟨#[], evalMorganArgs, []⟩).memory Try.f8.params.toList Rows.evalMorganSpec.vars false evalMorganArgs.toList 8 = some ([.nil, .agg [.lit (.int .u8 0), .lit (.int .u8 0), .lit (.int .u8 0), .lit (.int .i32 0), .lit (.int .i64 0), .nil], .agg [.lit (.int .u8 0), .lit (.int .u8 0), .lit (.int .u8 0), .lit (.int .i32 0), .lit (.int .i64 0), .nil]], [], places) :=
  ⟨[], by kernel_rfl⟩
theorem evalMorgan_laid (os : Os) : laidMet Try.prog Rows.evalMorganRow.laid ((World.holding Try.prog os ⟨#[], #[], []⟩).forCall (fun _ _ => 0) ⟨#[], evalMorganArgs, []⟩).memory :=
  laidMet_of_run' 8 (by kernel_rfl) (by kernel_rfl)
theorem evalMorgan_lifted (os : Os) (started : os.Started) (H : Type) (enc : TypeId × Value → H) (F : Stop.Interp) :
    ReturnsInHanded {} Try.checked os 8 .any ((OpenSpec.ofChange Rows.evalMorganSpec).preRow enc Try.prog Try.f8 Rows.evalMorganRow.domain false Rows.evalMorganRow.laid) (((OpenSpec.ofChange Rows.evalMorganSpec).at F).post enc Try.prog Try.f8 false true false false) := by
  obtain ⟨places, hx⟩ := evalMorgan_reads os enc
  refine returnsInHanded_of_row (C := Try.checked) (s := OpenSpec.ofChange Rows.evalMorganSpec) own started (by kernel_rfl) Try.func8
    (witness_row_at (enc := enc) (C := Try.checked) false (World.holding Try.prog os ⟨#[], #[], []⟩) evalMorganArgs rfl (by kernel_rfl) (by kernel_rfl) (by kernel_rfl)
      (OpenSpec.preRow_of_cond 8 hx (by kernel_rfl) (fun k hk => by cases hk) (by kernel_rfl) (evalMorgan_laid os))) ?_
  intro W base args ds gs before hval hW _ _ hwt hL _ _
  exact evalMorgan_contract H enc W base args ds gs before hval hW hwt hL
/-- transputerlaw17.EvalMorgan: the law returns true for every input, and what came in reads as it did. -/
theorem evalMorgan_holds : Rows.EvalMorganSaid :=
  OpenClaim.holds_of_cond 8 Try.f8 rfl rfl rfl rfl rfl rfl rfl ⟨rfl, rfl, rfl, rfl, rfl⟩ rfl rfl rfl rfl rfl (by kernel_rfl) Try.func8 (by kernel_rfl)
    (of_decide_eq_true (by kernel_rfl)) (by unfold Func.isWrapper; first | (rw [if_pos (by decide +kernel)]; kernel_rfl) | (rw [if_neg (by decide +kernel)]; exact ⟨rfl, rfl⟩))
    (fun os started H enc _ F => by rw [OpenClaim.pre_eq_preRow]; exact evalMorgan_lifted os started H enc F)

#print axioms evalMorgan_holds
end Go.Proofs.Ytbbainjecjdkmaa
