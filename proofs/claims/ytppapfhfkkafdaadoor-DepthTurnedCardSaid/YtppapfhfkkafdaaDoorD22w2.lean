/-
  transputerlaw22.DepthTurned: true for every expression. Conditions: none beyond the row's own cells.
-/
import Derived.Test.YtppapfhfkkafdaaDoorRows
import Derived.Test.YtppapfhfkkafdaaDoorCards
import Derived.Test.YtppapfhfkkafdaaDoorTie
import Derived.Test.YtppapfhfkkafdaaDoorD22v
namespace Go.Proofs.YtppapfhfkkafdaaDoor
open Go Go.Tp Go.ChangeShapes Go.WideShapes Go.ChangeAt Go.RowKit
set_option linter.unusedVariables false
set_option linter.unusedSimpArgs false
set_option maxRecDepth 100000

theorem depthTurned_contract (H : Type) (enc : TypeId × Value → H) (W : World) (base : Nat) (args : Array Value) (ds gs : List (DataW H)) (before : List MemPlace)
    (hval : ∀ (j : Nat) t v, Tryd.f5.params[j]? = some t → args[j]? = some v → Value.okWide Tryd.prog W .any base t v)
    (hW : DataW.Whole enc Tryd.prog Tryd.f5.params.toList Rows.depthTurnedSpec.vars false W args.toList ds gs before)
    (hwt : (DataW.weightsEach Tryd.prog (Tryd.f5.params.toList ++ []) (ds ++ gs)).all (· ≤ reachBytes) = true) (hL : laidMetH Tryd.prog Rows.depthTurnedRow.laid W) :
    Calls Tryd.prog 5 args W fun e W' => ∃ v, e = .returned v ∧ Rows.depthTurnedSpec.post enc Tryd.prog Tryd.f5 false true false false W args v W' := by
  have hW' := hW
  obtain ⟨p, q, hA0, hV, rfl, hfz, hnd⟩ := hW
  have hA : DataW.TrodAll enc Tryd.prog W 0 (fun _ => true) true [27] args.toList ds p := hA0
  obtain ⟨v0, d0, rfl, rfl, h0⟩ := trodAll_one hA
  obtain ⟨rfl, rfl⟩ := trodVars_none hV
  obtain ⟨e, a1, a2⟩ := arg27 (hval 0 27 v0 rfl rfl) h0 (Wt_each hwt 0 27 d0 rfl rfl)
  exact pure_true laidOut (by kernel_rfl) (rfl : Tryd.f5.resultTypes = #[4]) (by kernel_rfl) rfl rfl hW' (gs_of hL) (RpC_cons.2 ⟨_, _, rfl, a2, by rw [RpC_nil]⟩) (turned_law e a1)
def depthTurnedArgs : Array Value := #[.agg #[.int .u8 0, .int .u8 0, .int .u8 0, .int .i32 0, .int .i64 0, .slice none 0 0]]
theorem depthTurned_reads (os : Os) {H : Type} (enc : TypeId × Value → H) : ∃ places, DataW.whole enc Tryd.prog ((laidWorld os).forCall (fun _ _ => 0) ⟨#[], depthTurnedArgs, []⟩).memory Tryd.f5.params.toList Rows.depthTurnedSpec.vars false depthTurnedArgs.toList 8 = some ([.agg [.lit (.int .u8 0), .lit (.int .u8 0), .lit (.int .u8 0), .lit (.int .i32 0), .lit (.int .i64 0), .nil]], [], places) :=
  ⟨[], by kernel_rfl⟩
theorem depthTurned_laid (os : Os) : laidMet Tryd.prog Rows.depthTurnedRow.laid ((laidWorld os).forCall (fun _ _ => 0) ⟨#[], depthTurnedArgs, []⟩).memory :=
  laidMet_of_run' 8 (by kernel_rfl) (by kernel_rfl)
theorem depthTurned_lifted (os : Os) (started : os.Started) (H : Type) (enc : TypeId × Value → H) (F : Stop.Interp) :
    ReturnsInHanded {} Tryd.checked os 5 .any ((OpenSpec.ofChange Rows.depthTurnedSpec).preRow enc Tryd.prog Tryd.f5 Rows.depthTurnedRow.domain false Rows.depthTurnedRow.laid) (((OpenSpec.ofChange Rows.depthTurnedSpec).at F).post enc Tryd.prog Tryd.f5 false true false false) := by
  obtain ⟨places, hx⟩ := depthTurned_reads os enc
  refine returnsInHanded_of_row (C := Tryd.checked) (s := OpenSpec.ofChange Rows.depthTurnedSpec) own started (by kernel_rfl) Tryd.func5
    (witness_row_at (enc := enc) (C := Tryd.checked) false (laidWorld os) depthTurnedArgs rfl (by kernel_rfl) (by kernel_rfl) (by kernel_rfl)
      (OpenSpec.preRow_of_cond 8 hx (by kernel_rfl) (fun k hk => by cases hk) (by kernel_rfl) (depthTurned_laid os))) ?_
  intro W base args ds gs before hval hW _ _ hwt hL _ _
  exact depthTurned_contract H enc W base args ds gs before hval hW hwt hL
/-- transputerlaw22.DepthTurned: the law returns true for every input, and what came in reads as it did. -/
theorem depthTurned_said : Rows.DepthTurnedSaid :=
  OpenClaim.holds_of_cond 5 Tryd.f5 rfl rfl rfl rfl rfl rfl rfl ⟨rfl, rfl, rfl, rfl, rfl⟩ rfl rfl rfl rfl rfl (by kernel_rfl) Tryd.func5 (by kernel_rfl)
    (of_decide_eq_true (by kernel_rfl)) (by unfold Func.isWrapper; first | (rw [if_pos (by decide +kernel)]; kernel_rfl) | (rw [if_neg (by decide +kernel)]; exact ⟨rfl, rfl⟩))
    (fun os started H enc _ F => by rw [OpenClaim.pre_eq_preRow]; exact depthTurned_lifted os started H enc F)

theorem depthTurned_plain (f : FuncId) (fn : Func) (hf : Tryd.pinned.checked.prog.funcNamed "transputer/transputerlaw22.DepthTurned" = some f) (hfn : Tryd.pinned.checked.prog.funcs[f]? = some fn) :
    false = Tryd.pinned.checked.prog.looks [] ∧ ∀ (j : Nat) t, fn.params[j]? = some t → Tryd.pinned.checked.prog.wantsStandIn t = false := by
  obtain rfl : f = 5 := Option.some.inj ((show Tryd.prog.funcNamed "transputer/transputerlaw22.DepthTurned" = some 5 by kernel_rfl).symm.trans hf) |>.symm
  obtain rfl : fn = Tryd.f5 := (Option.some.inj (Tryd.func5.symm.trans hfn)).symm
  refine ⟨by kernel_rfl, fun j t ht => ?_⟩
  have ht : #[27][j]? = some t := ht
  have hm : t = 27 := by simpa using Array.mem_of_getElem? ht
  subst hm
  exact (show Tryd.prog.wantsStandIn 27 = false by kernel_rfl)
/-- transputerlaw22.DepthTurned: the law returns true for every input, and what came in reads as it did. -/
theorem depthTurned_holds : Rows.DepthTurnedCardSaid :=
  Claim7.holds_tied_plain_at .later [] _ _ _ _ depthTurned_said (fun _ h => by cases h) (by kernel_rfl) (fun _ h => by cases h) depthTurned_row_tie rfl ⟨rfl, rfl⟩ (by kernel_rfl) rfl depthTurned_plain (by kernel_rfl)
#print axioms depthTurned_holds
end Go.Proofs.YtppapfhfkkafdaaDoor
