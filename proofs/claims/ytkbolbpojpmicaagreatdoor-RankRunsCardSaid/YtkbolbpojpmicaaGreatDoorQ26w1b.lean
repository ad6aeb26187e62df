/-
  transputerlaw23.RankRuns: a kernel that is a network of cyclic processes can always move if it has ranks that rise; if it has not, the channels of its waiting cycle never communicate. Conditions: none beyond the row's own cells.
-/
import Derived.Test.YtkbolbpojpmicaaGreatDoorRows
import Derived.Test.YtkbolbpojpmicaaGreatDoorCards
import Derived.Test.YtkbolbpojpmicaaGreatDoorTie
import Derived.Test.YtkbolbpojpmicaaGreatDoorWe10
namespace Go.Proofs.YtkbolbpojpmicaaGreatDoor
open Go Go.Tp Go.ChangeShapes Go.WideShapes Go.ChangeAt Go.RowKit
set_option linter.unusedVariables false
set_option linter.unusedSimpArgs false
set_option maxRecDepth 100000

theorem rankRuns_contract (H : Type) (enc : TypeId × Value → H) (W : World) (base : Nat) (args : Array Value) (ds gs : List (DataW H)) (before : List MemPlace)
    (hval : ∀ (j : Nat) t v, Tryz.f3.params[j]? = some t → args[j]? = some v → Value.okWide Tryz.prog W .any base t v)
    (hW : DataW.Whole enc Tryz.prog Tryz.f3.params.toList Rows.rankRunsSpec.vars false W args.toList ds gs before)
    (hwt : (DataW.weightsEach Tryz.prog (Tryz.f3.params.toList ++ []) (ds ++ gs)).all (· ≤ reachBytes) = true) (hL : laidMetH Tryz.prog Rows.rankRunsRow.laid W) (hsh : W.ShapedOpen Tryz.prog) :
    Calls Tryz.prog 3 args W fun e W' => ∃ v, e = .returned v ∧ Rows.rankRunsSpec.post enc Tryz.prog Tryz.f3 false true false false W args v W' := by
  have hW' := hW;obtain ⟨p, q, hA0, hV, rfl, hfz, hnd⟩ := hW;have hA : DataW.TrodAll enc Tryz.prog W 0 (fun _ => true) true [34, 35] args.toList ds p := hA0;obtain ⟨v0, v1, d0, d1, p0, p1, rfl, rfl, rfl, h0, h1⟩ := trodAll_two hA;obtain ⟨rfl, rfl⟩ := trodVars_none hV;obtain ⟨k, hk, rk⟩ := argKern (hval 0 34 v0 rfl rfl) h0 (A4 hwt 0 34 d0 rfl rfl);obtain ⟨pk, ⟨hp, hpl⟩, rpk⟩ := XH (hval 1 35 v1 rfl rfl) h1 (A4 hwt 1 35 d1 rfl rfl);exact pure_true laidOut (by kernel_rfl) (rfl : Tryz.f3.resultTypes = #[4]) (by kernel_rfl) rfl rfl hW' (gs_of hL) (aG.2 ⟨_, _, rfl, rk, aG.2 ⟨_, _, rfl, rpk, by rw [aQ]⟩⟩) ((runs_law k hk pk hp hpl))
def rankRunsArgs : Array Value := #[.agg #[.slice none 0 0, .slice none 0 0, .int .u8 0, .int .i64 0, .int .i64 0, .int .u8 0, .slice none 0 0, .slice none 0 0, .slice none 0 0, .slice none 0 0, .slice none 0 0], .slice none 0 0]
theorem rankRuns_reads (os : Os) {H : Type} (enc : TypeId × Value → H) : ∃ places, DataW.whole enc Tryz.prog ((laidWorld os).forCall (fun _ _ => 0) ⟨#[], rankRunsArgs, []⟩).memory Tryz.f3.params.toList Rows.rankRunsSpec.vars false rankRunsArgs.toList 8 = some ([.agg [.nil, .nil, .agg [.lit (.int .u8 0), .lit (.int .i64 0), .lit (.int .i64 0), .lit (.int .u8 0), .nil, .nil, .nil, .nil], .nil], .nil], [], places) :=
  ⟨[], by kernel_rfl⟩
theorem rankRuns_laid (os : Os) : laidMet Tryz.prog Rows.rankRunsRow.laid ((laidWorld os).forCall (fun _ _ => 0) ⟨#[], rankRunsArgs, []⟩).memory :=
  laidMet_of_run' 8 (by kernel_rfl) (by kernel_rfl)
theorem rankRuns_lifted (os : Os) (started : os.Started) (H : Type) (enc : TypeId × Value → H) (F : Stop.Interp) :
    ReturnsInHanded {} Tryz.checked os 3 .any ((OpenSpec.ofChange Rows.rankRunsSpec).preRow enc Tryz.prog Tryz.f3 Rows.rankRunsRow.domain false Rows.rankRunsRow.laid) (((OpenSpec.ofChange Rows.rankRunsSpec).at F).post enc Tryz.prog Tryz.f3 false true false false) := by
  obtain ⟨places, hx⟩ := rankRuns_reads os enc
  refine returnsInHanded_of_row (C := Tryz.checked) (s := OpenSpec.ofChange Rows.rankRunsSpec) own started (by kernel_rfl) Tryz.func3
    (witness_row_at (enc := enc) (C := Tryz.checked) false (laidWorld os) rankRunsArgs rfl (by kernel_rfl) (by kernel_rfl) (by kernel_rfl)
      (OpenSpec.preRow_of_cond 8 hx (by kernel_rfl) (fun k hk => by cases hk) (by kernel_rfl) (rankRuns_laid os))) ?_
  intro W base args ds gs before hval hW _ _ hwt hL hsh _;exact rankRuns_contract H enc W base args ds gs before hval hW hwt hL hsh
/-- transputerlaw23.RankRuns: the law returns true for every input, and what came in reads as it did. -/
theorem rankRuns_said : Rows.RankRunsSaid :=
  OpenClaim.holds_of_cond 3 Tryz.f3 rfl rfl rfl rfl rfl rfl rfl ⟨rfl, rfl, rfl, rfl, rfl⟩ rfl rfl rfl rfl rfl (by kernel_rfl) Tryz.func3 (by kernel_rfl)
    (of_decide_eq_true (by kernel_rfl)) (by unfold Func.isWrapper; first | (rw [if_pos (by decide +kernel)]; kernel_rfl) | (rw [if_neg (by decide +kernel)]; exact ⟨rfl, rfl⟩))
    (fun os started H enc _ F => by rw [OpenClaim.pre_eq_preRow]; exact rankRuns_lifted os started H enc F)

theorem rankRuns_plain (f : FuncId) (fn : Func) (hf : Tryz.pinned.checked.prog.funcNamed "transputer/transputerlaw23.RankRuns" = some f) (hfn : Tryz.pinned.checked.prog.funcs[f]? = some fn) :
    false = Tryz.pinned.checked.prog.looks [] ∧ ∀ (j : Nat) t, fn.params[j]? = some t → Tryz.pinned.checked.prog.wantsStandIn t = false := by
  obtain rfl : f = 3 := Option.some.inj ((show Tryz.prog.funcNamed "transputer/transputerlaw23.RankRuns" = some 3 by kernel_rfl).symm.trans hf) |>.symm
  obtain rfl : fn = Tryz.f3 := (Option.some.inj (Tryz.func3.symm.trans hfn)).symm;refine ⟨by kernel_rfl, fun j t ht => ?_⟩;have ht : #[34, 35][j]? = some t := ht;have hm : t = 34 ∨ t = 35 := by simpa using Array.mem_of_getElem? ht
  rcases hm with hm | hm <;> subst hm
  · exact (show Tryz.prog.wantsStandIn 34 = false by kernel_rfl)
  · exact (show Tryz.prog.wantsStandIn 35 = false by kernel_rfl)
/-- transputerlaw23.RankRuns: the law returns true for every input, and what came in reads as it did. -/
theorem rankRuns_holds : Rows.RankRunsCardSaid :=
  Claim7.holds_tied_plain_at .later [] _ _ _ _ rankRuns_said (fun _ h => by cases h) (by kernel_rfl) (fun _ h => by cases h) rankRuns_row_tie rfl ⟨rfl, rfl⟩ (by kernel_rfl) rfl rankRuns_plain (by kernel_rfl)
#print axioms rankRuns_holds
end Go.Proofs.YtkbolbpojpmicaaGreatDoor
