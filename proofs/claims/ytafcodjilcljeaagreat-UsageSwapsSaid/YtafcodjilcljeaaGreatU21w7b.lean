/-
  transputerlaw21.UsageSwaps: two sequences of assignments that are branches of a parallel process without clashes have the same result in either order; true. Conditions: none beyond the row's own cells.
-/
import Derived.Test.YtafcodjilcljeaaGreatRows
import Derived.Test.YtafcodjilcljeaaGreatV14
import Derived.Test.YtafcodjilcljeaaGreatV12
namespace Go.Proofs.YtafcodjilcljeaaGreat
open Go Go.Tp Go.ChangeShapes Go.WideShapes Go.ChangeAt Go.RowKit
set_option linter.unusedVariables false
set_option linter.unusedSimpArgs false
set_option maxRecDepth 100000

theorem usageSwaps_contract (H : Type) (enc : TypeId × Value → H) (W : World) (base : Nat) (args : Array Value) (ds gs : List (DataW H)) (before : List MemPlace)
    (hval : ∀ (j : Nat) t v, Tryz.f9.params[j]? = some t → args[j]? = some v → Value.okWide Tryz.prog W .any base t v)
    (hW : DataW.Whole enc Tryz.prog Tryz.f9.params.toList Rows.usageSwapsSpec.vars false W args.toList ds gs before)
    (hwt : (DataW.weightsEach Tryz.prog (Tryz.f9.params.toList ++ []) (ds ++ gs)).all (· ≤ reachBytes) = true) (hL : laidMetH Tryz.prog Rows.usageSwapsRow.laid W) (hsh : W.ShapedOpen Tryz.prog) :
    Calls Tryz.prog 9 args W fun e W' => ∃ v, e = .returned v ∧ Rows.usageSwapsSpec.post enc Tryz.prog Tryz.f9 false true false false W args v W' := by
  have hW' := hW
  obtain ⟨p, q, hA0, hV, rfl, hfz, hnd⟩ := hW
  have hA : DataW.TrodAll enc Tryz.prog W 0 (fun _ => true) true [22, 29, 29, 72] args.toList ds p := hA0
  obtain ⟨v0, v1, v2, v3, d0, d1, d2, d3, p0, p1, p2, p3, rfl, rfl, rfl, h0, h1, h2, h3⟩ := trodAll_four hA
  obtain ⟨rfl, rfl⟩ := trodVars_none hV
  obtain ⟨vs, hvs, rvs⟩ := argVars (hval 0 22 v0 rfl rfl) h0 (Wt_each hwt 0 22 d0 rfl rfl)
  obtain ⟨a, ha, ra⟩ := argProcs (hval 1 29 v1 rfl rfl) h1 (Wt_each hwt 1 29 d1 rfl rfl)
  obtain ⟨b, hb, rb⟩ := argProcs (hval 2 29 v2 rfl rfl) h2 (Wt_each hwt 2 29 d2 rfl rfl)
  obtain ⟨val, hvl, rvl⟩ := argI32s (hval 3 72 v3 rfl rfl) h3 (Wt_each hwt 3 72 d3 rfl rfl)
  exact pure_true laidOut (by kernel_rfl) (rfl : Tryz.f9.resultTypes = #[4]) (by kernel_rfl) rfl rfl hW' (fun _ _ h => by cases h) (RpC_cons.2 ⟨_, _, rfl, rvs, RpC_cons.2 ⟨_, _, rfl, ra, RpC_cons.2 ⟨_, _, rfl, rb, RpC_cons.2 ⟨_, _, rfl, rvl, by rw [RpC_nil]⟩⟩⟩⟩) ((swaps_law vs a b val hvs ha.1 ha.2 hb.1 hb.2 hvl.1 hvl.2))
def usageSwapsArgs : Array Value := #[.slice none 0 0, .slice none 0 0, .slice none 0 0, .slice none 0 0]
theorem usageSwaps_reads (os : Os) {H : Type} (enc : TypeId × Value → H) : ∃ places, DataW.whole enc Tryz.prog ((World.holding Tryz.prog os ⟨#[], #[], []⟩).forCall (fun _ _ => 0) ⟨#[], usageSwapsArgs, []⟩).memory Tryz.f9.params.toList Rows.usageSwapsSpec.vars false usageSwapsArgs.toList 8 = some ([.nil, .nil, .nil, .nil], [], places) :=
  ⟨[], by kernel_rfl⟩
theorem usageSwaps_laid (os : Os) : laidMet Tryz.prog Rows.usageSwapsRow.laid ((World.holding Tryz.prog os ⟨#[], #[], []⟩).forCall (fun _ _ => 0) ⟨#[], usageSwapsArgs, []⟩).memory :=
  laidMet_of_run' 8 (by kernel_rfl) (by kernel_rfl)
theorem usageSwaps_lifted (os : Os) (started : os.Started) (H : Type) (enc : TypeId × Value → H) (F : Stop.Interp) :
    ReturnsInHanded {} Tryz.checked os 9 .any ((OpenSpec.ofChange Rows.usageSwapsSpec).preRow enc Tryz.prog Tryz.f9 Rows.usageSwapsRow.domain false Rows.usageSwapsRow.laid) (((OpenSpec.ofChange Rows.usageSwapsSpec).at F).post enc Tryz.prog Tryz.f9 false true false false) := by
  obtain ⟨places, hx⟩ := usageSwaps_reads os enc
  refine returnsInHanded_of_row (C := Tryz.checked) (s := OpenSpec.ofChange Rows.usageSwapsSpec) own started (by kernel_rfl) Tryz.func9
    (witness_row_at (enc := enc) (C := Tryz.checked) false (World.holding Tryz.prog os ⟨#[], #[], []⟩) usageSwapsArgs rfl (by kernel_rfl) (by kernel_rfl) (by kernel_rfl)
      (OpenSpec.preRow_of_cond 8 hx (by kernel_rfl) (fun k hk => by cases hk) (by kernel_rfl) (usageSwaps_laid os))) ?_
  intro W base args ds gs before hval hW _ _ hwt hL hsh _
  exact usageSwaps_contract H enc W base args ds gs before hval hW hwt hL hsh
/-- transputerlaw21.UsageSwaps: the law returns true for every input, and what came in reads as it did. -/
theorem usageSwaps_holds : Rows.UsageSwapsSaid :=
  OpenClaim.holds_of_cond 9 Tryz.f9 rfl rfl rfl rfl rfl rfl rfl ⟨rfl, rfl, rfl, rfl, rfl⟩ rfl rfl rfl rfl rfl (by kernel_rfl) Tryz.func9 (by kernel_rfl)
    (of_decide_eq_true (by kernel_rfl)) (by unfold Func.isWrapper; first | (rw [if_pos (by decide +kernel)]; kernel_rfl) | (rw [if_neg (by decide +kernel)]; exact ⟨rfl, rfl⟩))
    (fun os started H enc _ F => by rw [OpenClaim.pre_eq_preRow]; exact usageSwaps_lifted os started H enc F)

#print axioms usageSwaps_holds
end Go.Proofs.YtafcodjilcljeaaGreat
