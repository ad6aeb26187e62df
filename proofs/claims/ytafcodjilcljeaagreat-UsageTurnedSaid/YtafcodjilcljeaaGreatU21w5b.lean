/-
  transputerlaw21.UsageTurned: exchanging the two branches of a parallel process leaves its own clashes as they are, and a sequence around it puts a 0 in front of each path; true. Conditions: none beyond the row's own cells.
-/
import Derived.Test.YtafcodjilcljeaaGreatRows
import Derived.Test.YtafcodjilcljeaaGreatV13
import Derived.Test.YtafcodjilcljeaaGreatV8
namespace Go.Proofs.YtafcodjilcljeaaGreat
open Go Go.Tp Go.ChangeShapes Go.WideShapes Go.ChangeAt Go.RowKit
set_option linter.unusedVariables false
set_option linter.unusedSimpArgs false
set_option maxRecDepth 100000

theorem usageTurned_contract (H : Type) (enc : TypeId × Value → H) (W : World) (base : Nat) (args : Array Value) (ds gs : List (DataW H)) (before : List MemPlace)
    (hval : ∀ (j : Nat) t v, Tryz.f7.params[j]? = some t → args[j]? = some v → Value.okWide Tryz.prog W .any base t v)
    (hW : DataW.Whole enc Tryz.prog Tryz.f7.params.toList Rows.usageTurnedSpec.vars false W args.toList ds gs before)
    (hwt : (DataW.weightsEach Tryz.prog (Tryz.f7.params.toList ++ []) (ds ++ gs)).all (· ≤ reachBytes) = true) (hL : laidMetH Tryz.prog Rows.usageTurnedRow.laid W) (hsh : W.ShapedOpen Tryz.prog) :
    Calls Tryz.prog 7 args W fun e W' => ∃ v, e = .returned v ∧ Rows.usageTurnedSpec.post enc Tryz.prog Tryz.f7 false true false false W args v W' := by
  have hW' := hW
  obtain ⟨p, q, hA0, hV, rfl, hfz, hnd⟩ := hW
  have hA : DataW.TrodAll enc Tryz.prog W 0 (fun _ => true) true [34, 31, 31] args.toList ds p := hA0
  obtain ⟨v0, v1, v2, d0, d1, d2, p0, p1, p2, rfl, rfl, rfl, h0, h1, h2⟩ := trodAll_three hA
  obtain ⟨rfl, rfl⟩ := trodVars_none hV
  obtain ⟨k, hk, rk⟩ := argKern (hval 0 34 v0 rfl rfl) h0 (Wt_each hwt 0 34 d0 rfl rfl)
  obtain ⟨p1, hp1, rp1⟩ := argProc (hval 1 31 v1 rfl rfl) h1 (Wt_each hwt 1 31 d1 rfl rfl)
  obtain ⟨p2, hp2, rp2⟩ := argProc (hval 2 31 v2 rfl rfl) h2 (Wt_each hwt 2 31 d2 rfl rfl)
  exact pure_true laidOut (by kernel_rfl) (rfl : Tryz.f7.resultTypes = #[4]) (by kernel_rfl) rfl rfl hW' (fun _ _ h => by cases h) (RpC_cons.2 ⟨_, _, rfl, rk, RpC_cons.2 ⟨_, _, rfl, rp1, RpC_cons.2 ⟨_, _, rfl, rp2, by rw [RpC_nil]⟩⟩⟩) ((turned_law k p1 p2 hk hp1 hp2))
def usageTurnedArgs : Array Value := #[.agg #[.slice none 0 0, .slice none 0 0, .int .u8 0, .int .i64 0, .int .i64 0, .int .u8 0, .slice none 0 0, .slice none 0 0, .slice none 0 0, .slice none 0 0, .slice none 0 0], .agg #[.int .u8 0, .int .i64 0, .int .i64 0, .int .u8 0, .slice none 0 0, .slice none 0 0, .slice none 0 0, .slice none 0 0], .agg #[.int .u8 0, .int .i64 0, .int .i64 0, .int .u8 0, .slice none 0 0, .slice none 0 0, .slice none 0 0, .slice none 0 0]]
theorem usageTurned_reads (os : Os) {H : Type} (enc : TypeId × Value → H) : ∃ places, DataW.whole enc Tryz.prog ((World.holding Tryz.prog os ⟨#[], #[], []⟩).forCall (fun _ _ => 0) ⟨#[], usageTurnedArgs, []⟩).memory Tryz.f7.params.toList Rows.usageTurnedSpec.vars false usageTurnedArgs.toList 8 = some ([.agg [.nil, .nil, .agg [.lit (.int .u8 0), .lit (.int .i64 0), .lit (.int .i64 0), .lit (.int .u8 0), .nil, .nil, .nil, .nil], .nil], .agg [.lit (.int .u8 0), .lit (.int .i64 0), .lit (.int .i64 0), .lit (.int .u8 0), .nil, .nil, .nil, .nil], .agg [.lit (.int .u8 0), .lit (.int .i64 0), .lit (.int .i64 0), .lit (.int .u8 0), .nil, .nil, .nil, .nil]], [], places) :=
  ⟨[], by kernel_rfl⟩
theorem usageTurned_laid (os : Os) : laidMet Tryz.prog Rows.usageTurnedRow.laid ((World.holding Tryz.prog os ⟨#[], #[], []⟩).forCall (fun _ _ => 0) ⟨#[], usageTurnedArgs, []⟩).memory :=
  laidMet_of_run' 8 (by kernel_rfl) (by kernel_rfl)
theorem usageTurned_lifted (os : Os) (started : os.Started) (H : Type) (enc : TypeId × Value → H) (F : Stop.Interp) :
    ReturnsInHanded {} Tryz.checked os 7 .any ((OpenSpec.ofChange Rows.usageTurnedSpec).preRow enc Tryz.prog Tryz.f7 Rows.usageTurnedRow.domain false Rows.usageTurnedRow.laid) (((OpenSpec.ofChange Rows.usageTurnedSpec).at F).post enc Tryz.prog Tryz.f7 false true false false) := by
  obtain ⟨places, hx⟩ := usageTurned_reads os enc
  refine returnsInHanded_of_row (C := Tryz.checked) (s := OpenSpec.ofChange Rows.usageTurnedSpec) own started (by kernel_rfl) Tryz.func7
    (witness_row_at (enc := enc) (C := Tryz.checked) false (World.holding Tryz.prog os ⟨#[], #[], []⟩) usageTurnedArgs rfl (by kernel_rfl) (by kernel_rfl) (by kernel_rfl)
      (OpenSpec.preRow_of_cond 8 hx (by kernel_rfl) (fun k hk => by cases hk) (by kernel_rfl) (usageTurned_laid os))) ?_
  intro W base args ds gs before hval hW _ _ hwt hL hsh _
  exact usageTurned_contract H enc W base args ds gs before hval hW hwt hL hsh
/-- transputerlaw21.UsageTurned: the law returns true for every input, and what came in reads as it did. -/
theorem usageTurned_holds : Rows.UsageTurnedSaid :=
  OpenClaim.holds_of_cond 7 Tryz.f7 rfl rfl rfl rfl rfl rfl rfl ⟨rfl, rfl, rfl, rfl, rfl⟩ rfl rfl rfl rfl rfl (by kernel_rfl) Tryz.func7 (by kernel_rfl)
    (of_decide_eq_true (by kernel_rfl)) (by unfold Func.isWrapper; first | (rw [if_pos (by decide +kernel)]; kernel_rfl) | (rw [if_neg (by decide +kernel)]; exact ⟨rfl, rfl⟩))
    (fun os started H enc _ F => by rw [OpenClaim.pre_eq_preRow]; exact usageTurned_lifted os started H enc F)

#print axioms usageTurned_holds
end Go.Proofs.YtafcodjilcljeaaGreat
