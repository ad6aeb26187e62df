/-
  transputerlaw22.DepthParts: true for every expression. Conditions: none beyond the row's own cells.
-/
import Derived.Test.YtppapfhfkkafdaaDoorRows
import Derived.Test.YtppapfhfkkafdaaDoorCards
import Derived.Test.YtppapfhfkkafdaaDoorTie
import Derived.Test.YtppapfhfkkafdaaDoorD22v
namespace Go.Proofs.YtppapfhfkkafdaaDoor
open Go Go.Tp Go.ChangeShapes Go.WideShapes Go.ChangeAt Go.RowKit
set_option linter.unusedVariables false
set_option linter.unusedSimpArgs false
set_option maxRecDepth 100000

theorem depthParts_contract (H : Type) (enc : TypeId × Value → H) (W : World) (base : Nat) (args : Array Value) (ds gs : List (DataW H)) (before : List MemPlace)
    (hval : ∀ (j : Nat) t v, Tryd.f4.params[j]? = some t → args[j]? = some v → Value.okWide Tryd.prog W .any base t v)
    (hW : DataW.Whole enc Tryd.prog Tryd.f4.params.toList Rows.depthPartsSpec.vars false W args.toList ds gs before)
    (hwt : (DataW.weightsEach Tryd.prog (Tryd.f4.params.toList ++ []) (ds ++ gs)).all (· ≤ reachBytes) = true) (hL : laidMetH Tryd.prog Rows.depthPartsRow.laid W) :
    Calls Tryd.prog 4 args W fun e W' => ∃ v, e = .returned v ∧ Rows.depthPartsSpec.post enc Tryd.prog Tryd.f4 false true false false W args v W' := by
  have hW' := hW
  obtain ⟨p, q, hA0, hV, rfl, hfz, hnd⟩ := hW
  have hA : DataW.TrodAll enc Tryd.prog W 0 (fun _ => true) true [27] args.toList ds p := hA0
  obtain ⟨v0, d0, rfl, rfl, h0⟩ := trodAll_one hA
  obtain ⟨rfl, rfl⟩ := trodVars_none hV
  obtain ⟨e, a1, a2⟩ := arg27 (hval 0 27 v0 rfl rfl) h0 (Wt_each hwt 0 27 d0 rfl rfl)
  exact pure_true laidOut (by kernel_rfl) (rfl : Tryd.f4.resultTypes = #[4]) (by kernel_rfl) rfl rfl hW' (gs_of hL) (RpC_cons.2 ⟨_, _, rfl, a2, by rw [RpC_nil]⟩) (parts_law e a1)
def depthPartsArgs : Array Value := #[.agg #[.int .u8 0, .int .u8 0, .int .u8 0, .int .i32 0, .int .i64 0, .slice none 0 0]]
theorem depthParts_reads (os : Os) {H : Type} (enc : TypeId × Value → H) : ∃ places, DataW.whole enc Tryd.prog ((laidWorld os).forCall (fun _ _ => 0) ⟨#[], depthPartsArgs, []⟩).memory Tryd.f4.params.toList Rows.depthPartsSpec.vars false depthPartsArgs.toList 8 = some ([.agg [.lit (.int .u8 0), .lit (.int .u8 0), .lit (.int .u8 0), .lit (.int .i32 0), .lit (.int .i64 0), .nil]], [], places) :=
  ⟨[], by kernel_rfl⟩
theorem depthParts_laid (os : Os) : laidMet Tryd.prog Rows.depthPartsRow.laid ((laidWorld os).forCall (fun _ _ => 0) ⟨#[], depthPartsArgs, []⟩).memory :=
  laidMet_of_run' 8 (by kernel_rfl) (by kernel_rfl)
theorem depthParts_lifted (os : Os) (started : os.Started) (H : Type) (enc : TypeId × Value → H) (F : Stop.Interp) :
    ReturnsInHanded {} Tryd.checked os 4 .any ((OpenSpec.ofChange Rows.depthPartsSpec).preRow enc Tryd.prog Tryd.f4 Rows.depthPartsRow.domain false Rows.depthPartsRow.laid) (((OpenSpec.ofChange Rows.depthPartsSpec).at F).post enc Tryd.prog Tryd.f4 false true false false) := by
  obtain ⟨places, hx⟩ := depthParts_reads os enc
  refine returnsInHanded_of_row (C := Tryd.checked) (s := OpenSpec.ofChange Rows.depthPartsSpec) own started (by kernel_rfl) Tryd.func4
    (witness_row_at (enc := enc) (C := Tryd.checked) false (laidWorld os) depthPartsArgs rfl (by kernel_rfl) (by kernel_rfl) (by kernel_rfl)
      (OpenSpec.preRow_of_cond 8 hx (by kernel_rfl) (fun k hk => by cases hk) (by kernel_rfl) (depthParts_laid os))) ?_
  intro W base args ds gs before hval hW _ _ hwt hL _ _
  exact depthParts_contract H enc W base args ds gs before hval hW hwt hL
/-- transputerlaw22.DepthParts: the law returns true for every input, and what came in reads as it did. -/
theorem depthParts_said : Rows.DepthPartsSaid :=
  OpenClaim.holds_of_cond 4 Tryd.f4 rfl rfl rfl rfl rfl rfl rfl ⟨rfl, rfl, rfl, rfl, rfl⟩ rfl rfl rfl rfl rfl (by kernel_rfl) Tryd.func4 (by kernel_rfl)
    (of_decide_eq_true (by kernel_rfl)) (by unfold Func.isWrapper; first | (rw [if_pos (by decide +kernel)]; kernel_rfl) | (rw [if_neg (by decide +kernel)]; exact ⟨rfl, rfl⟩))
    (fun os started H enc _ F => by rw [OpenClaim.pre_eq_preRow]; exact depthParts_lifted os started H enc F)

theorem depthParts_plain (f : FuncId) (fn : Func) (hf : Tryd.pinned.checked.prog.funcNamed "transputer/transputerlaw22.DepthParts" = some f) (hfn : Tryd.pinned.checked.prog.funcs[f]? = some fn) :
    false = Tryd.pinned.checked.prog.looks [] ∧ ∀ (j : Nat) t, fn.params[j]? = some t → Tryd.pinned.checked.prog.wantsStandIn t = false := by
  obtain rfl : f = 4 := Option.some.inj ((show Tryd.prog.funcNamed "transputer/transputerlaw22.DepthParts" = some 4 by kernel_rfl).symm.trans hf) |>.symm
  obtain rfl : fn = Tryd.f4 := (Option.some.inj (Tryd.func4.symm.trans hfn)).symm
  refine ⟨by kernel_rfl, fun j t ht => ?_⟩
  have ht : #[27][j]? = some t := ht
  have hm : t = 27 := by simpa using Array.mem_of_getElem? ht
  subst hm
  exact (show Tryd.prog.wantsStandIn 27 = false by kernel_rfl)
/-- transputerlaw22.DepthParts: the law returns true for every input, and what came in reads as it did. -/
theorem depthParts_holds : Rows.DepthPartsCardSaid :=
  Claim7.holds_tied_plain_at .later [] _ _ _ _ depthParts_said (fun _ h => by cases h) (by kernel_rfl) (fun _ h => by cases h) depthParts_row_tie rfl ⟨rfl, rfl⟩ (by kernel_rfl) rfl depthParts_plain (by kernel_rfl)
#print axioms depthParts_holds
end Go.Proofs.YtppapfhfkkafdaaDoor
