/-
  transputerlaw18.StepStart: the first state of a kernel is that of the reference, and shares no words; true. Conditions: none beyond the row's own cells.
-/
import Derived.Test.YthdgpbgjmbkleaaGreatRows
import Derived.Test.YthdgpbgjmbkleaaGreatU8
import Derived.Test.YthdgpbgjmbkleaaGreatU7
namespace Go.Proofs.YthdgpbgjmbkleaaGreat
open Go Go.Tp Go.ChangeShapes Go.WideShapes Go.ChangeAt Go.RowKit
set_option linter.unusedVariables false
set_option linter.unusedSimpArgs false
set_option maxRecDepth 100000

theorem stepStart_contract (H : Type) (enc : TypeId × Value → H) (W : World) (base : Nat) (args : Array Value) (ds gs : List (DataW H)) (before : List MemPlace)
    (hval : ∀ (j : Nat) t v, Tryz.f3.params[j]? = some t → args[j]? = some v → Value.okWide Tryz.prog W .any base t v)
    (hW : DataW.Whole enc Tryz.prog Tryz.f3.params.toList Rows.stepStartSpec.vars false W args.toList ds gs before)
    (hwt : (DataW.weightsEach Tryz.prog (Tryz.f3.params.toList ++ []) (ds ++ gs)).all (· ≤ reachBytes) = true) (hL : laidMetH Tryz.prog Rows.stepStartRow.laid W) (hsh : W.ShapedOpen Tryz.prog) :
    Calls Tryz.prog 3 args W fun e W' => ∃ v, e = .returned v ∧ Rows.stepStartSpec.post enc Tryz.prog Tryz.f3 false true false false W args v W' := by
  have hW' := hW
  obtain ⟨p, q, hA0, hV, rfl, hfz, hnd⟩ := hW
  have hA : DataW.TrodAll enc Tryz.prog W 0 (fun _ => true) true [34, 35] args.toList ds p := hA0
  obtain ⟨v0, v1, d0, d1, p0, p1, rfl, rfl, rfl, h0, h1⟩ := trodAll_two hA
  obtain ⟨rfl, rfl⟩ := trodVars_none hV
  obtain ⟨k, hk, rk⟩ := argKern (hval 0 34 v0 rfl rfl) h0 (Wt_each hwt 0 34 d0 rfl rfl)
  obtain ⟨inn, ⟨hi, hil⟩, ri⟩ := argRow (hval 1 35 v1 rfl rfl) h1 (Wt_each hwt 1 35 d1 rfl rfl)
  exact pure_true laidOut (by kernel_rfl) (rfl : Tryz.f3.resultTypes = #[4]) (by kernel_rfl) rfl rfl hW' (fun _ _ h => by cases h) (RpC_cons.2 ⟨_, _, rfl, rk, RpC_cons.2 ⟨_, _, rfl, ri, by rw [RpC_nil]⟩⟩) (start_law k hk inn hil)
def stepStartArgs : Array Value := #[.agg #[.slice none 0 0, .slice none 0 0, .int .u8 0, .int .i64 0, .int .i64 0, .int .u8 0, .slice none 0 0, .slice none 0 0, .slice none 0 0, .slice none 0 0, .slice none 0 0], .slice none 0 0]
theorem stepStart_reads (os : Os) {H : Type} (enc : TypeId × Value → H) : ∃ places, DataW.whole enc Tryz.prog ((World.holding Tryz.prog os ⟨#[], #[], []⟩).forCall (fun _ _ => 0) ⟨#[], stepStartArgs, []⟩).memory Tryz.f3.params.toList Rows.stepStartSpec.vars false stepStartArgs.toList 8 = some ([.agg [.nil, .nil, .agg [.lit (.int .u8 0), .lit (.int .i64 0), .lit (.int .i64 0), .lit (.int .u8 0), .nil, .nil, .nil, .nil], .nil], .nil], [], places) :=
  ⟨[], by kernel_rfl⟩
theorem stepStart_laid (os : Os) : laidMet Tryz.prog Rows.stepStartRow.laid ((World.holding Tryz.prog os ⟨#[], #[], []⟩).forCall (fun _ _ => 0) ⟨#[], stepStartArgs, []⟩).memory :=
  laidMet_of_run' 8 (by kernel_rfl) (by kernel_rfl)
theorem stepStart_lifted (os : Os) (started : os.Started) (H : Type) (enc : TypeId × Value → H) (F : Stop.Interp) :
    ReturnsInHanded {} Tryz.checked os 3 .any ((OpenSpec.ofChange Rows.stepStartSpec).preRow enc Tryz.prog Tryz.f3 Rows.stepStartRow.domain false Rows.stepStartRow.laid) (((OpenSpec.ofChange Rows.stepStartSpec).at F).post enc Tryz.prog Tryz.f3 false true false false) := by
  obtain ⟨places, hx⟩ := stepStart_reads os enc
  refine returnsInHanded_of_row (C := Tryz.checked) (s := OpenSpec.ofChange Rows.stepStartSpec) own started (by kernel_rfl) Tryz.func3
    (witness_row_at (enc := enc) (C := Tryz.checked) false (World.holding Tryz.prog os ⟨#[], #[], []⟩) stepStartArgs rfl (by kernel_rfl) (by kernel_rfl) (by kernel_rfl)
      (OpenSpec.preRow_of_cond 8 hx (by kernel_rfl) (fun k hk => by cases hk) (by kernel_rfl) (stepStart_laid os))) ?_
  intro W base args ds gs before hval hW _ _ hwt hL hsh _
  exact stepStart_contract H enc W base args ds gs before hval hW hwt hL hsh
/-- transputerlaw18.StepStart: the law returns true for every input, and what came in reads as it did. -/
theorem stepStart_holds : Rows.StepStartSaid :=
  OpenClaim.holds_of_cond 3 Tryz.f3 rfl rfl rfl rfl rfl rfl rfl ⟨rfl, rfl, rfl, rfl, rfl⟩ rfl rfl rfl rfl rfl (by kernel_rfl) Tryz.func3 (by kernel_rfl)
    (of_decide_eq_true (by kernel_rfl)) (by unfold Func.isWrapper; first | (rw [if_pos (by decide +kernel)]; kernel_rfl) | (rw [if_neg (by decide +kernel)]; exact ⟨rfl, rfl⟩))
    (fun os started H enc _ F => by rw [OpenClaim.pre_eq_preRow]; exact stepStart_lifted os started H enc F)

#print axioms stepStart_holds
end Go.Proofs.YthdgpbgjmbkleaaGreat
