/-
  transputerlaw21.UsageReads: the value of an expression does not change if an element that it does not read is changed; true. Conditions: none beyond the row's own cells.
-/
import Derived.Test.YtafcodjilcljeaaGreatRows
import Derived.Test.YtafcodjilcljeaaGreatV12
namespace Go.Proofs.YtafcodjilcljeaaGreat
open Go Go.Tp Go.ChangeShapes Go.WideShapes Go.ChangeAt Go.RowKit
set_option linter.unusedVariables false
set_option linter.unusedSimpArgs false
set_option maxRecDepth 100000

theorem usageReads_contract (H : Type) (enc : TypeId × Value → H) (W : World) (base : Nat) (args : Array Value) (ds gs : List (DataW H)) (before : List MemPlace)
    (hval : ∀ (j : Nat) t v, Tryz.f8.params[j]? = some t → args[j]? = some v → Value.okWide Tryz.prog W .any base t v)
    (hW : DataW.Whole enc Tryz.prog Tryz.f8.params.toList Rows.usageReadsSpec.vars false W args.toList ds gs before)
    (hwt : (DataW.weightsEach Tryz.prog (Tryz.f8.params.toList ++ []) (ds ++ gs)).all (· ≤ reachBytes) = true) (hL : laidMetH Tryz.prog Rows.usageReadsRow.laid W) (hsh : W.ShapedOpen Tryz.prog) :
    Calls Tryz.prog 8 args W fun e W' => ∃ v, e = .returned v ∧ Rows.usageReadsSpec.post enc Tryz.prog Tryz.f8 false true false false W args v W' := by
  have hW' := hW
  obtain ⟨p, q, hA0, hV, rfl, hfz, hnd⟩ := hW
  have hA : DataW.TrodAll enc Tryz.prog W 0 (fun _ => true) true [34, 69, 5, 5, 21] args.toList ds p := hA0
  obtain ⟨v0, v1, v2, v3, v4, d0, d1, d2, d3, d4, p0, p1, p2, p3, p4, rfl, rfl, rfl, h0, h1, h2, h3, h4⟩ := trodAll_five hA
  obtain ⟨rfl, rfl⟩ := trodVars_none hV
  obtain ⟨k, hk, rk⟩ := argKern (hval 0 34 v0 rfl rfl) h0 (Wt_each hwt 0 34 d0 rfl rfl)
  obtain ⟨e, he, re⟩ := argKE (hval 1 69 v1 rfl rfl) h1 (Wt_each hwt 1 69 d1 rfl rfl)
  obtain ⟨v, hv, rv⟩ := argU8 (hval 2 5 v2 rfl rfl) h2 (Wt_each hwt 2 5 d2 rfl rfl)
  obtain ⟨i, hi, ri⟩ := argU8 (hval 3 5 v3 rfl rfl) h3 (Wt_each hwt 3 5 d3 rfl rfl)
  obtain ⟨x, hx, rx⟩ := argI32 (hval 4 21 v4 rfl rfl) h4 (Wt_each hwt 4 21 d4 rfl rfl)
  exact pure_true laidOut (by kernel_rfl) (rfl : Tryz.f8.resultTypes = #[4]) (by kernel_rfl) rfl rfl hW' (fun _ _ h => by cases h) (RpC_cons.2 ⟨_, _, rfl, rk, RpC_cons.2 ⟨_, _, rfl, re, RpC_cons.2 ⟨_, _, rfl, rv, RpC_cons.2 ⟨_, _, rfl, ri, RpC_cons.2 ⟨_, _, rfl, rx, by rw [RpC_nil]⟩⟩⟩⟩⟩) ((reads21_law k e v i x hk he hv hi hx))
def usageReadsArgs : Array Value := #[.agg #[.slice none 0 0, .slice none 0 0, .int .u8 0, .int .i64 0, .int .i64 0, .int .u8 0, .slice none 0 0, .slice none 0 0, .slice none 0 0, .slice none 0 0, .slice none 0 0], .agg #[.int .u8 0, .int .u8 0, .int .u8 0, .int .i32 0, .int .i64 0, .slice none 0 0], .int .u8 0, .int .u8 0, .int .i32 0]
theorem usageReads_reads (os : Os) {H : Type} (enc : TypeId × Value → H) : ∃ places, DataW.whole enc Tryz.prog ((World.holding Tryz.prog os ⟨#[], #[], []⟩).forCall (fun _ _ => 0) ⟨#[], usageReadsArgs, []⟩).memory Tryz.f8.params.toList Rows.usageReadsSpec.vars false usageReadsArgs.toList 8 = some ([.agg [.nil, .nil, .agg [.lit (.int .u8 0), .lit (.int .i64 0), .lit (.int .i64 0), .lit (.int .u8 0), .nil, .nil, .nil, .nil], .nil], .agg [.lit (.int .u8 0), .lit (.int .u8 0), .lit (.int .u8 0), .lit (.int .i32 0), .lit (.int .i64 0), .nil], .lit (.int .u8 0), .lit (.int .u8 0), .lit (.int .i32 0)], [], places) :=
  ⟨[], by kernel_rfl⟩
theorem usageReads_laid (os : Os) : laidMet Tryz.prog Rows.usageReadsRow.laid ((World.holding Tryz.prog os ⟨#[], #[], []⟩).forCall (fun _ _ => 0) ⟨#[], usageReadsArgs, []⟩).memory :=
  laidMet_of_run' 8 (by kernel_rfl) (by kernel_rfl)
theorem usageReads_lifted (os : Os) (started : os.Started) (H : Type) (enc : TypeId × Value → H) (F : Stop.Interp) :
    ReturnsInHanded {} Tryz.checked os 8 .any ((OpenSpec.ofChange Rows.usageReadsSpec).preRow enc Tryz.prog Tryz.f8 Rows.usageReadsRow.domain false Rows.usageReadsRow.laid) (((OpenSpec.ofChange Rows.usageReadsSpec).at F).post enc Tryz.prog Tryz.f8 false true false false) := by
  obtain ⟨places, hx⟩ := usageReads_reads os enc
  refine returnsInHanded_of_row (C := Tryz.checked) (s := OpenSpec.ofChange Rows.usageReadsSpec) own started (by kernel_rfl) Tryz.func8
    (witness_row_at (enc := enc) (C := Tryz.checked) false (World.holding Tryz.prog os ⟨#[], #[], []⟩) usageReadsArgs rfl (by kernel_rfl) (by kernel_rfl) (by kernel_rfl)
      (OpenSpec.preRow_of_cond 8 hx (by kernel_rfl) (fun k hk => by cases hk) (by kernel_rfl) (usageReads_laid os))) ?_
  intro W base args ds gs before hval hW _ _ hwt hL hsh _
  exact usageReads_contract H enc W base args ds gs before hval hW hwt hL hsh
/-- transputerlaw21.UsageReads: the law returns true for every input, and what came in reads as it did. -/
theorem usageReads_holds : Rows.UsageReadsSaid :=
  OpenClaim.holds_of_cond 8 Tryz.f8 rfl rfl rfl rfl rfl rfl rfl ⟨rfl, rfl, rfl, rfl, rfl⟩ rfl rfl rfl rfl rfl (by kernel_rfl) Tryz.func8 (by kernel_rfl)
    (of_decide_eq_true (by kernel_rfl)) (by unfold Func.isWrapper; first | (rw [if_pos (by decide +kernel)]; kernel_rfl) | (rw [if_neg (by decide +kernel)]; exact ⟨rfl, rfl⟩))
    (fun os started H enc _ F => by rw [OpenClaim.pre_eq_preRow]; exact usageReads_lifted os started H enc F)

#print axioms usageReads_holds
end Go.Proofs.YtafcodjilcljeaaGreat
