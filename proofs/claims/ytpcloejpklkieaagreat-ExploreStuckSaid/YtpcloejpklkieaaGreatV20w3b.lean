/-
  transputerlaw20.ExploreStuck: if no stuck state can be reached, every walk can be continued until the state is done; the trace of a stuck state is one of the traces. Conditions: none beyond the row's own cells.
-/
import Derived.Test.YtpcloejpklkieaaGreatRows
import Derived.Test.YtpcloejpklkieaaGreatV11
import Derived.Test.YtpcloejpklkieaaGreatV9
namespace Go.Proofs.YtpcloejpklkieaaGreat
open Go Go.Tp Go.ChangeShapes Go.WideShapes Go.ChangeAt Go.RowKit
set_option linter.unusedVariables false
set_option linter.unusedSimpArgs false
set_option maxRecDepth 100000

theorem exploreStuck_contract (H : Type) (enc : TypeId × Value → H) (W : World) (base : Nat) (args : Array Value) (ds gs : List (DataW H)) (before : List MemPlace)
    (hval : ∀ (j : Nat) t v, Tryz.f5.params[j]? = some t → args[j]? = some v → Value.okWide Tryz.prog W .any base t v)
    (hW : DataW.Whole enc Tryz.prog Tryz.f5.params.toList Rows.exploreStuckSpec.vars false W args.toList ds gs before)
    (hwt : (DataW.weightsEach Tryz.prog (Tryz.f5.params.toList ++ []) (ds ++ gs)).all (· ≤ reachBytes) = true) (hL : laidMetH Tryz.prog Rows.exploreStuckRow.laid W) (hsh : W.ShapedOpen Tryz.prog) :
    Calls Tryz.prog 5 args W fun e W' => ∃ v, e = .returned v ∧ Rows.exploreStuckSpec.post enc Tryz.prog Tryz.f5 false true false false W args v W' := by
  have hW' := hW
  obtain ⟨p, q, hA0, hV, rfl, hfz, hnd⟩ := hW
  have hA : DataW.TrodAll enc Tryz.prog W 0 (fun _ => true) true [34, 35, 36] args.toList ds p := hA0
  obtain ⟨v0, v1, v2, d0, d1, d2, p0, p1, p2, rfl, rfl, rfl, h0, h1, h2⟩ := trodAll_three hA
  obtain ⟨rfl, rfl⟩ := trodVars_none hV
  obtain ⟨k, hk, rk⟩ := argKern (hval 0 34 v0 rfl rfl) h0 (Wt_each hwt 0 34 d0 rfl rfl)
  obtain ⟨inn, ⟨hi, hil⟩, ri⟩ := argRow (hval 1 35 v1 rfl rfl) h1 (Wt_each hwt 1 35 d1 rfl rfl)
  obtain ⟨pk, ⟨hp, hpl⟩, rp⟩ := argBytes (hval 2 36 v2 rfl rfl) h2 (Wt_each hwt 2 36 d2 rfl rfl)
  exact pure_true laidOut (by kernel_rfl) (rfl : Tryz.f5.resultTypes = #[4]) (by kernel_rfl) rfl rfl hW' (fun _ _ h => by cases h) (RpC_cons.2 ⟨_, _, rfl, rk, RpC_cons.2 ⟨_, _, rfl, ri, RpC_cons.2 ⟨_, _, rfl, rp, by rw [RpC_nil]⟩⟩⟩) (stuck_law k hk inn hi hil pk hp hpl)
def exploreStuckArgs : Array Value := #[.agg #[.slice none 0 0, .slice none 0 0, .int .u8 0, .int .i64 0, .int .i64 0, .int .u8 0, .slice none 0 0, .slice none 0 0, .slice none 0 0, .slice none 0 0, .slice none 0 0], .slice none 0 0, .slice none 0 0]
theorem exploreStuck_reads (os : Os) {H : Type} (enc : TypeId × Value → H) : ∃ places, DataW.whole enc Tryz.prog ((World.holding Tryz.prog os ⟨#[], #[], []⟩).forCall (fun _ _ => 0) ⟨#[], exploreStuckArgs, []⟩).memory Tryz.f5.params.toList Rows.exploreStuckSpec.vars false exploreStuckArgs.toList 8 = some ([.agg [.nil, .nil, .agg [.lit (.int .u8 0), .lit (.int .i64 0), .lit (.int .i64 0), .lit (.int .u8 0), .nil, .nil, .nil, .nil], .nil], .nil, .nil], [], places) :=
  ⟨[], by kernel_rfl⟩
theorem exploreStuck_laid (os : Os) : laidMet Tryz.prog Rows.exploreStuckRow.laid ((World.holding Tryz.prog os ⟨#[], #[], []⟩).forCall (fun _ _ => 0) ⟨#[], exploreStuckArgs, []⟩).memory :=
  laidMet_of_run' 8 (by kernel_rfl) (by kernel_rfl)
theorem exploreStuck_lifted (os : Os) (started : os.Started) (H : Type) (enc : TypeId × Value → H) (F : Stop.Interp) :
    ReturnsInHanded {} Tryz.checked os 5 .any ((OpenSpec.ofChange Rows.exploreStuckSpec).preRow enc Tryz.prog Tryz.f5 Rows.exploreStuckRow.domain false Rows.exploreStuckRow.laid) (((OpenSpec.ofChange Rows.exploreStuckSpec).at F).post enc Tryz.prog Tryz.f5 false true false false) := by
  obtain ⟨places, hx⟩ := exploreStuck_reads os enc
  refine returnsInHanded_of_row (C := Tryz.checked) (s := OpenSpec.ofChange Rows.exploreStuckSpec) own started (by kernel_rfl) Tryz.func5
    (witness_row_at (enc := enc) (C := Tryz.checked) false (World.holding Tryz.prog os ⟨#[], #[], []⟩) exploreStuckArgs rfl (by kernel_rfl) (by kernel_rfl) (by kernel_rfl)
      (OpenSpec.preRow_of_cond 8 hx (by kernel_rfl) (fun k hk => by cases hk) (by kernel_rfl) (exploreStuck_laid os))) ?_
  intro W base args ds gs before hval hW _ _ hwt hL hsh _
  exact exploreStuck_contract H enc W base args ds gs before hval hW hwt hL hsh
/-- transputerlaw20.ExploreStuck: the law returns true for every input, and what came in reads as it did. -/
theorem exploreStuck_holds : Rows.ExploreStuckSaid :=
  OpenClaim.holds_of_cond 5 Tryz.f5 rfl rfl rfl rfl rfl rfl rfl ⟨rfl, rfl, rfl, rfl, rfl⟩ rfl rfl rfl rfl rfl (by kernel_rfl) Tryz.func5 (by kernel_rfl)
    (of_decide_eq_true (by kernel_rfl)) (by unfold Func.isWrapper; first | (rw [if_pos (by decide +kernel)]; kernel_rfl) | (rw [if_neg (by decide +kernel)]; exact ⟨rfl, rfl⟩))
    (fun os started H enc _ F => by rw [OpenClaim.pre_eq_preRow]; exact exploreStuck_lifted os started H enc F)

#print axioms exploreStuck_holds
end Go.Proofs.YtpcloejpklkieaaGreat
