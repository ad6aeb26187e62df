/-
  transputerlaw22.DepthGrows: true for every expression and every number of an operator. Conditions: none beyond the row's own cells.
-/
import Derived.Test.YtppapfhfkkafdaaDoorRows
import Derived.Test.YtppapfhfkkafdaaDoorCards
import Derived.Test.YtppapfhfkkafdaaDoorTie
import Derived.Test.YtppapfhfkkafdaaDoorD22v
namespace Go.Proofs.YtppapfhfkkafdaaDoor
open Go Go.Tp Go.ChangeShapes Go.WideShapes Go.ChangeAt Go.RowKit
set_option linter.unusedVariables false
set_option linter.unusedSimpArgs false
set_option maxRecDepth 100000

theorem depthGrows_contract (H : Type) (enc : TypeId × Value → H) (W : World) (base : Nat) (args : Array Value) (ds gs : List (DataW H)) (before : List MemPlace)
    (hval : ∀ (j : Nat) t v, Tryd.f6.params[j]? = some t → args[j]? = some v → Value.okWide Tryd.prog W .any base t v)
    (hW : DataW.Whole enc Tryd.prog Tryd.f6.params.toList Rows.depthGrowsSpec.vars false W args.toList ds gs before)
    (hwt : (DataW.weightsEach Tryd.prog (Tryd.f6.params.toList ++ []) (ds ++ gs)).all (· ≤ reachBytes) = true) (hL : laidMetH Tryd.prog Rows.depthGrowsRow.laid W) :
    Calls Tryd.prog 6 args W fun e W' => ∃ v, e = .returned v ∧ Rows.depthGrowsSpec.post enc Tryd.prog Tryd.f6 false true false false W args v W' := by
  have hW' := hW
  obtain ⟨p, q, hA0, hV, rfl, hfz, hnd⟩ := hW
  have hA : DataW.TrodAll enc Tryd.prog W 0 (fun _ => true) true [27, 23] args.toList ds p := hA0
  obtain ⟨v0, v1, d0, d1, p0, p1, rfl, rfl, rfl, h0, h1⟩ := trodAll_two hA
  obtain ⟨rfl, rfl⟩ := trodVars_none hV
  obtain ⟨e, a1, a2⟩ := arg27 (hval 0 27 v0 rfl rfl) h0 (Wt_each hwt 0 27 d0 rfl rfl)
  obtain ⟨o, b1, b2⟩ := arg23 (hval 1 23 v1 rfl rfl) h1 (Wt_each hwt 1 23 d1 rfl rfl)
  exact pure_true laidOut (by kernel_rfl) (rfl : Tryd.f6.resultTypes = #[4]) (by kernel_rfl) rfl rfl hW' (gs_of hL) (RpC_cons.2 ⟨_, _, rfl, a2, RpC_cons.2 ⟨_, _, rfl, b2, by rw [RpC_nil]⟩⟩) (grows_law e a1 o b1)
def depthGrowsArgs : Array Value := #[.agg #[.int .u8 0, .int .u8 0, .int .u8 0, .int .i32 0, .int .i64 0, .slice none 0 0], .int .u8 0]
theorem depthGrows_reads (os : Os) {H : Type} (enc : TypeId × Value → H) : ∃ places, DataW.whole enc Tryd.prog ((laidWorld os).forCall (fun _ _ => 0) ⟨#[], depthGrowsArgs, []⟩).memory Tryd.f6.params.toList Rows.depthGrowsSpec.vars false depthGrowsArgs.toList 8 = some ([.agg [.lit (.int .u8 0), .lit (.int .u8 0), .lit (.int .u8 0), .lit (.int .i32 0), .lit (.int .i64 0), .nil], .lit (.int .u8 0)], [], places) :=
  ⟨[], by kernel_rfl⟩
theorem depthGrows_laid (os : Os) : laidMet Tryd.prog Rows.depthGrowsRow.laid ((laidWorld os).forCall (fun _ _ => 0) ⟨#[], depthGrowsArgs, []⟩).memory :=
  laidMet_of_run' 8 (by kernel_rfl) (by kernel_rfl)
theorem depthGrows_lifted (os : Os) (started : os.Started) (H : Type) (enc : TypeId × Value → H) (F : Stop.Interp) :
    ReturnsInHanded {} Tryd.checked os 6 .any ((OpenSpec.ofChange Rows.depthGrowsSpec).preRow enc Tryd.prog Tryd.f6 Rows.depthGrowsRow.domain false Rows.depthGrowsRow.laid) (((OpenSpec.ofChange Rows.depthGrowsSpec).at F).post enc Tryd.prog Tryd.f6 false true false false) := by
  obtain ⟨places, hx⟩ := depthGrows_reads os enc
  refine returnsInHanded_of_row (C := Tryd.checked) (s := OpenSpec.ofChange Rows.depthGrowsSpec) own started (by kernel_rfl) Tryd.func6
    (witness_row_at (enc := enc) (C := Tryd.checked) false (laidWorld os) depthGrowsArgs rfl (by kernel_rfl) (by kernel_rfl) (by kernel_rfl)
      (OpenSpec.preRow_of_cond 8 hx (by kernel_rfl) (fun k hk => by cases hk) (by kernel_rfl) (depthGrows_laid os))) ?_
  intro W base args ds gs before hval hW _ _ hwt hL _ _
  exact depthGrows_contract H enc W base args ds gs before hval hW hwt hL
/-- transputerlaw22.DepthGrows: the law returns true for every input, and what came in reads as it did. -/
theorem depthGrows_said : Rows.DepthGrowsSaid :=
  OpenClaim.holds_of_cond 6 Tryd.f6 rfl rfl rfl rfl rfl rfl rfl ⟨rfl, rfl, rfl, rfl, rfl⟩ rfl rfl rfl rfl rfl (by kernel_rfl) Tryd.func6 (by kernel_rfl)
    (of_decide_eq_true (by kernel_rfl)) (by unfold Func.isWrapper; first | (rw [if_pos (by decide +kernel)]; kernel_rfl) | (rw [if_neg (by decide +kernel)]; exact ⟨rfl, rfl⟩))
    (fun os started H enc _ F => by rw [OpenClaim.pre_eq_preRow]; exact depthGrows_lifted os started H enc F)

theorem depthGrows_plain (f : FuncId) (fn : Func) (hf : Tryd.pinned.checked.prog.funcNamed "transputer/transputerlaw22.DepthGrows" = some f) (hfn : Tryd.pinned.checked.prog.funcs[f]? = some fn) :
    false = Tryd.pinned.checked.prog.looks [] ∧ ∀ (j : Nat) t, fn.params[j]? = some t → Tryd.pinned.checked.prog.wantsStandIn t = false := by
  obtain rfl : f = 6 := Option.some.inj ((show Tryd.prog.funcNamed "transputer/transputerlaw22.DepthGrows" = some 6 by kernel_rfl).symm.trans hf) |>.symm
  obtain rfl : fn = Tryd.f6 := (Option.some.inj (Tryd.func6.symm.trans hfn)).symm
  refine ⟨by kernel_rfl, fun j t ht => ?_⟩
  have ht : #[27, 23][j]? = some t := ht
  have hm : t = 27 ∨ t = 23 := by simpa using Array.mem_of_getElem? ht
  rcases hm with hm | hm <;> subst hm
  · exact (show Tryd.prog.wantsStandIn 27 = false by kernel_rfl)
  · exact (show Tryd.prog.wantsStandIn 23 = false by kernel_rfl)
/-- transputerlaw22.DepthGrows: the law returns true for every input, and what came in reads as it did. -/
theorem depthGrows_holds : Rows.DepthGrowsCardSaid :=
  Claim7.holds_tied_plain_at .later [] _ _ _ _ depthGrows_said (fun _ h => by cases h) (by kernel_rfl) (fun _ h => by cases h) depthGrows_row_tie rfl ⟨rfl, rfl⟩ (by kernel_rfl) rfl depthGrows_plain (by kernel_rfl)
#print axioms depthGrows_holds
end Go.Proofs.YtppapfhfkkafdaaDoor
