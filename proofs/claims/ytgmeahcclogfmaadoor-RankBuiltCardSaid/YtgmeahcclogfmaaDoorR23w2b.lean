/-
  transputerlaw23.RankBuilt: the kernel of a valid network is that network, its channels two higher; true. Conditions: none beyond the row's own cells.
-/
import Derived.Test.YtgmeahcclogfmaaDoorRows
import Derived.Test.YtgmeahcclogfmaaDoorCards
import Derived.Test.YtgmeahcclogfmaaDoorTie
import Derived.Test.YtgmeahcclogfmaaDoorM5
namespace Go.Proofs.YtgmeahcclogfmaaDoor
open Go Go.Tp Go.ChangeShapes Go.WideShapes Go.ChangeAt Go.RowKit
set_option linter.unusedVariables false
set_option linter.unusedSimpArgs false
set_option maxRecDepth 100000

theorem rankBuilt_contract (H : Type) (enc : TypeId × Value → H) (W : World) (base : Nat) (args : Array Value) (ds gs : List (DataW H)) (before : List MemPlace)
    (hval : ∀ (j : Nat) t v, Tryd.f3.params[j]? = some t → args[j]? = some v → Value.okWide Tryd.prog W .any base t v)
    (hW : DataW.Whole enc Tryd.prog Tryd.f3.params.toList Rows.rankBuiltSpec.vars false W args.toList ds gs before)
    (hwt : (DataW.weightsEach Tryd.prog (Tryd.f3.params.toList ++ []) (ds ++ gs)).all (· ≤ reachBytes) = true) (hL : laidMetH Tryd.prog Rows.rankBuiltRow.laid W) (hsh : W.ShapedOpen Tryd.prog) :
    Calls Tryd.prog 3 args W fun e W' => ∃ v, e = .returned v ∧ Rows.rankBuiltSpec.post enc Tryd.prog Tryd.f3 false true false false W args v W' := by
  have hW' := hW
  obtain ⟨p, q, hA0, hV, rfl, hfz, hnd⟩ := hW
  have hA : DataW.TrodAll enc Tryd.prog W 0 (fun _ => true) true [24] args.toList ds p := hA0
  obtain ⟨v0, d0, rfl, rfl, h0⟩ := trodAll_one hA
  obtain ⟨rfl, rfl⟩ := trodVars_none hV
  obtain ⟨n, c, un, hc, rc⟩ := argNet (hval 0 24 v0 rfl rfl) h0 (Wt_each hwt 0 24 d0 rfl rfl)
  exact pure_true laidOut (by kernel_rfl) (rfl : Tryd.f3.resultTypes = #[4]) (by kernel_rfl) rfl rfl hW' (gs_of hL) (RpC_cons.2 ⟨_, _, rfl, rc, by rw [RpC_nil]⟩) (built_law n c hc)
def rankBuiltArgs : Array Value := #[.agg #[.int .i64 0, .slice none 0 0]]
theorem rankBuilt_reads (os : Os) {H : Type} (enc : TypeId × Value → H) : ∃ places, DataW.whole enc Tryd.prog ((laidWorld os).forCall (fun _ _ => 0) ⟨#[], rankBuiltArgs, []⟩).memory Tryd.f3.params.toList Rows.rankBuiltSpec.vars false rankBuiltArgs.toList 8 = some ([.agg [.lit (.int .i64 0), .nil]], [], places) :=
  ⟨[], by kernel_rfl⟩
theorem rankBuilt_laid (os : Os) : laidMet Tryd.prog Rows.rankBuiltRow.laid ((laidWorld os).forCall (fun _ _ => 0) ⟨#[], rankBuiltArgs, []⟩).memory :=
  laidMet_of_run' 8 (by kernel_rfl) (by kernel_rfl)
theorem rankBuilt_lifted (os : Os) (started : os.Started) (H : Type) (enc : TypeId × Value → H) (F : Stop.Interp) :
    ReturnsInHanded {} Tryd.checked os 3 .any ((OpenSpec.ofChange Rows.rankBuiltSpec).preRow enc Tryd.prog Tryd.f3 Rows.rankBuiltRow.domain false Rows.rankBuiltRow.laid) (((OpenSpec.ofChange Rows.rankBuiltSpec).at F).post enc Tryd.prog Tryd.f3 false true false false) := by
  obtain ⟨places, hx⟩ := rankBuilt_reads os enc
  refine returnsInHanded_of_row (C := Tryd.checked) (s := OpenSpec.ofChange Rows.rankBuiltSpec) own started (by kernel_rfl) Tryd.func3
    (witness_row_at (enc := enc) (C := Tryd.checked) false (laidWorld os) rankBuiltArgs rfl (by kernel_rfl) (by kernel_rfl) (by kernel_rfl)
      (OpenSpec.preRow_of_cond 8 hx (by kernel_rfl) (fun k hk => by cases hk) (by kernel_rfl) (rankBuilt_laid os))) ?_
  intro W base args ds gs before hval hW _ _ hwt hL hsh _
  exact rankBuilt_contract H enc W base args ds gs before hval hW hwt hL hsh
/-- transputerlaw23.RankBuilt: the law returns true for every input, and what came in reads as it did. -/
theorem rankBuilt_said : Rows.RankBuiltSaid :=
  OpenClaim.holds_of_cond 3 Tryd.f3 rfl rfl rfl rfl rfl rfl rfl ⟨rfl, rfl, rfl, rfl, rfl⟩ rfl rfl rfl rfl rfl (by kernel_rfl) Tryd.func3 (by kernel_rfl)
    (of_decide_eq_true (by kernel_rfl)) (by unfold Func.isWrapper; first | (rw [if_pos (by decide +kernel)]; kernel_rfl) | (rw [if_neg (by decide +kernel)]; exact ⟨rfl, rfl⟩))
    (fun os started H enc _ F => by rw [OpenClaim.pre_eq_preRow]; exact rankBuilt_lifted os started H enc F)

theorem rankBuilt_plain (f : FuncId) (fn : Func) (hf : Tryd.pinned.checked.prog.funcNamed "transputer/transputerlaw23.RankBuilt" = some f) (hfn : Tryd.pinned.checked.prog.funcs[f]? = some fn) :
    false = Tryd.pinned.checked.prog.looks [] ∧ ∀ (j : Nat) t, fn.params[j]? = some t → Tryd.pinned.checked.prog.wantsStandIn t = false := by
  obtain rfl : f = 3 := Option.some.inj ((show Tryd.prog.funcNamed "transputer/transputerlaw23.RankBuilt" = some 3 by kernel_rfl).symm.trans hf) |>.symm
  obtain rfl : fn = Tryd.f3 := (Option.some.inj (Tryd.func3.symm.trans hfn)).symm
  refine ⟨by kernel_rfl, fun j t ht => ?_⟩
  have ht : #[24][j]? = some t := ht
  have hm : t = 24 := by simpa using Array.mem_of_getElem? ht
  subst hm
  exact (show Tryd.prog.wantsStandIn 24 = false by kernel_rfl)
/-- transputerlaw23.RankBuilt: the law returns true for every input, and what came in reads as it did. -/
theorem rankBuilt_holds : Rows.RankBuiltCardSaid :=
  Claim7.holds_tied_plain_at .later [] _ _ _ _ rankBuilt_said (fun _ h => by cases h) (by kernel_rfl) (fun _ h => by cases h) rankBuilt_row_tie rfl ⟨rfl, rfl⟩ (by kernel_rfl) rfl rankBuilt_plain (by kernel_rfl)
#print axioms rankBuilt_holds
end Go.Proofs.YtgmeahcclogfmaaDoor
