/-
  transputerlaw23.RankClass: which kernels are networks of cyclic processes is by the program as by the reference; true. Conditions: none beyond the row's own cells.
-/
import Derived.Test.YtgmeahcclogfmaaGreatDoorRows
import Derived.Test.YtgmeahcclogfmaaGreatDoorCards
import Derived.Test.YtgmeahcclogfmaaGreatDoorTie
import Derived.Test.YtgmeahcclogfmaaGreatDoorM9
namespace Go.Proofs.YtgmeahcclogfmaaGreatDoor
open Go Go.Tp Go.ChangeShapes Go.WideShapes Go.ChangeAt Go.RowKit
set_option linter.unusedVariables false
set_option linter.unusedSimpArgs false
set_option maxRecDepth 100000

theorem rankClass_contract (H : Type) (enc : TypeId × Value → H) (W : World) (base : Nat) (args : Array Value) (ds gs : List (DataW H)) (before : List MemPlace)
    (hval : ∀ (j : Nat) t v, Tryz.f3.params[j]? = some t → args[j]? = some v → Value.okWide Tryz.prog W .any base t v)
    (hW : DataW.Whole enc Tryz.prog Tryz.f3.params.toList Rows.rankClassSpec.vars false W args.toList ds gs before)
    (hwt : (DataW.weightsEach Tryz.prog (Tryz.f3.params.toList ++ []) (ds ++ gs)).all (· ≤ reachBytes) = true) (hL : laidMetH Tryz.prog Rows.rankClassRow.laid W) (hsh : W.ShapedOpen Tryz.prog) :
    Calls Tryz.prog 3 args W fun e W' => ∃ v, e = .returned v ∧ Rows.rankClassSpec.post enc Tryz.prog Tryz.f3 false true false false W args v W' := by
  have hW' := hW
  obtain ⟨p, q, hA0, hV, rfl, hfz, hnd⟩ := hW
  have hA : DataW.TrodAll enc Tryz.prog W 0 (fun _ => true) true [34] args.toList ds p := hA0
  obtain ⟨v0, d0, rfl, rfl, h0⟩ := trodAll_one hA
  obtain ⟨rfl, rfl⟩ := trodVars_none hV
  obtain ⟨k, ⟨hk, hb⟩, rk⟩ := argKern (hval 0 34 v0 rfl rfl) h0 (Wt_each hwt 0 34 d0 rfl rfl)
  exact pure_true laidOut (by kernel_rfl) (rfl : Tryz.f3.resultTypes = #[4]) (by kernel_rfl) rfl rfl hW' (gs_of hL) (RpC_cons.2 ⟨_, _, rfl, rk, by rw [RpC_nil]⟩) (class_law k hk hb)
def rankClassArgs : Array Value := #[.agg #[.slice none 0 0, .slice none 0 0, .int .u8 0, .int .i64 0, .int .i64 0, .int .u8 0, .slice none 0 0, .slice none 0 0, .slice none 0 0, .slice none 0 0, .slice none 0 0]]
theorem rankClass_reads (os : Os) {H : Type} (enc : TypeId × Value → H) : ∃ places, DataW.whole enc Tryz.prog ((laidWorld os).forCall (fun _ _ => 0) ⟨#[], rankClassArgs, []⟩).memory Tryz.f3.params.toList Rows.rankClassSpec.vars false rankClassArgs.toList 8 = some ([.agg [.nil, .nil, .agg [.lit (.int .u8 0), .lit (.int .i64 0), .lit (.int .i64 0), .lit (.int .u8 0), .nil, .nil, .nil, .nil], .nil]], [], places) :=
  ⟨[], by kernel_rfl⟩
theorem rankClass_laid (os : Os) : laidMet Tryz.prog Rows.rankClassRow.laid ((laidWorld os).forCall (fun _ _ => 0) ⟨#[], rankClassArgs, []⟩).memory :=
  laidMet_of_run' 8 (by kernel_rfl) (by kernel_rfl)
theorem rankClass_lifted (os : Os) (started : os.Started) (H : Type) (enc : TypeId × Value → H) (F : Stop.Interp) :
    ReturnsInHanded {} Tryz.checked os 3 .any ((OpenSpec.ofChange Rows.rankClassSpec).preRow enc Tryz.prog Tryz.f3 Rows.rankClassRow.domain false Rows.rankClassRow.laid) (((OpenSpec.ofChange Rows.rankClassSpec).at F).post enc Tryz.prog Tryz.f3 false true false false) := by
  obtain ⟨places, hx⟩ := rankClass_reads os enc
  refine returnsInHanded_of_row (C := Tryz.checked) (s := OpenSpec.ofChange Rows.rankClassSpec) own started (by kernel_rfl) Tryz.func3
    (witness_row_at (enc := enc) (C := Tryz.checked) false (laidWorld os) rankClassArgs rfl (by kernel_rfl) (by kernel_rfl) (by kernel_rfl)
      (OpenSpec.preRow_of_cond 8 hx (by kernel_rfl) (fun k hk => by cases hk) (by kernel_rfl) (rankClass_laid os))) ?_
  intro W base args ds gs before hval hW _ _ hwt hL hsh _
  exact rankClass_contract H enc W base args ds gs before hval hW hwt hL hsh
/-- transputerlaw23.RankClass: the law returns true for every input, and what came in reads as it did. -/
theorem rankClass_said : Rows.RankClassSaid :=
  OpenClaim.holds_of_cond 3 Tryz.f3 rfl rfl rfl rfl rfl rfl rfl ⟨rfl, rfl, rfl, rfl, rfl⟩ rfl rfl rfl rfl rfl (by kernel_rfl) Tryz.func3 (by kernel_rfl)
    (of_decide_eq_true (by kernel_rfl)) (by unfold Func.isWrapper; first | (rw [if_pos (by decide +kernel)]; kernel_rfl) | (rw [if_neg (by decide +kernel)]; exact ⟨rfl, rfl⟩))
    (fun os started H enc _ F => by rw [OpenClaim.pre_eq_preRow]; exact rankClass_lifted os started H enc F)

theorem rankClass_plain (f : FuncId) (fn : Func) (hf : Tryz.pinned.checked.prog.funcNamed "transputer/transputerlaw23.RankClass" = some f) (hfn : Tryz.pinned.checked.prog.funcs[f]? = some fn) :
    false = Tryz.pinned.checked.prog.looks [] ∧ ∀ (j : Nat) t, fn.params[j]? = some t → Tryz.pinned.checked.prog.wantsStandIn t = false := by
  obtain rfl : f = 3 := Option.some.inj ((show Tryz.prog.funcNamed "transputer/transputerlaw23.RankClass" = some 3 by kernel_rfl).symm.trans hf) |>.symm
  obtain rfl : fn = Tryz.f3 := (Option.some.inj (Tryz.func3.symm.trans hfn)).symm
  refine ⟨by kernel_rfl, fun j t ht => ?_⟩
  have ht : #[34][j]? = some t := ht
  have hm : t = 34 := by simpa using Array.mem_of_getElem? ht
  subst hm
  exact (show Tryz.prog.wantsStandIn 34 = false by kernel_rfl)
/-- transputerlaw23.RankClass: the law returns true for every input, and what came in reads as it did. -/
theorem rankClass_holds : Rows.RankClassCardSaid :=
  Claim7.holds_tied_plain_at .later [] _ _ _ _ rankClass_said (fun _ h => by cases h) (by kernel_rfl) (fun _ h => by cases h) rankClass_row_tie rfl ⟨rfl, rfl⟩ (by kernel_rfl) rfl rankClass_plain (by kernel_rfl)
#print axioms rankClass_holds
end Go.Proofs.YtgmeahcclogfmaaGreatDoor
