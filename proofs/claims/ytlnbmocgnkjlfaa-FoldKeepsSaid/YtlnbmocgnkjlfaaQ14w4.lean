/-
  transputerlaw14.FoldKeeps: folding keeps the value in an environment that goes on; true for every expression, environment and list. Conditions: none beyond the row's own cells.
-/
import Derived.Test.YtlnbmocgnkjlfaaRows
import Derived.Test.YtlnbmocgnkjlfaaQ14t
import Derived.Test.YtlnbmocgnkjlfaaQ14x
namespace Go.Proofs.Ytlnbmocgnkjlfaa
open Go Go.Tp Go.ChangeShapes Go.WideShapes Go.ChangeAt Go.RowKit
set_option linter.unusedVariables false
set_option linter.unusedSimpArgs false
set_option maxRecDepth 100000

theorem foldKeeps_contract (H : Type) (enc : TypeId × Value → H) (W : World) (base : Nat) (args : Array Value) (ds gs : List (DataW H)) (before : List MemPlace)
    (hval : ∀ (j : Nat) t v, Try.f8.params[j]? = some t → args[j]? = some v → Value.okWide Try.prog W .any base t v)
    (hW : DataW.Whole enc Try.prog Try.f8.params.toList Rows.foldKeepsSpec.vars false W args.toList ds gs before)
    (hwt : (DataW.weightsEach Try.prog (Try.f8.params.toList ++ []) (ds ++ gs)).all (· ≤ reachBytes) = true) (hL : laidMetH Try.prog Rows.foldKeepsRow.laid W) (hsh : W.ShapedOpen Try.prog) :
    Calls Try.prog 8 args W fun e W' => ∃ v, e = .returned v ∧ Rows.foldKeepsSpec.post enc Try.prog Try.f8 false true false false W args v W' := by
  have hW' := hW
  obtain ⟨p, q, hA0, hV, rfl, hfz, hnd⟩ := hW
  have hA : DataW.TrodAll enc Try.prog W 0 (fun _ => true) true [31, 32, 65] args.toList ds p := hA0
  obtain ⟨v0, v1, v2, d0, d1, d2, p0, p1, p2, rfl, rfl, rfl, h0, h1, h2⟩ := trodAll_three hA
  obtain ⟨rfl, rfl⟩ := trodVars_none hV
  obtain ⟨m, hgm⟩ := max_of W hsh
  obtain ⟨e, ue, re⟩ := argX (hval 0 31 v0 rfl rfl) h0 (Wt_each hwt 0 31 d0 rfl rfl)
  obtain ⟨env, a1, ra⟩ := argSs (hval 1 32 v1 rfl rfl) h1 (Wt_each hwt 1 32 d1 rfl rfl)
  obtain ⟨l, b1, rb⟩ := argI32s (hval 2 65 v2 rfl rfl) h2 (Wt_each hwt 2 65 d2 rfl rfl)
  exact pure_true laidOut (by kernel_rfl) (rfl : Try.f8.resultTypes = #[4]) (by kernel_rfl) rfl rfl hW' hgm (RpC_cons.2 ⟨_, _, rfl, re, RpC_cons.2 ⟨_, _, rfl, ra, RpC_cons.2 ⟨_, _, rfl, rb, by rw [RpC_nil]⟩⟩⟩) (keeps_law m env a1.2 (fun x hx => (a1.1 x hx).1) (fun x hx => (a1.1 x hx).2.2) e ue l b1.1 b1.2)
def foldKeepsArgs : Array Value := #[.agg #[.int .u8 0, .int .u8 0, .int .u8 0, .int .i32 0, .string ⟨#[]⟩, .slice none 0 0], .slice none 0 0, .slice none 0 0]
theorem foldKeeps_reads (os : Os) {H : Type} (enc : TypeId × Value → H) : ∃ places, DataW.whole enc Try.prog ((World.holding Try.prog os ⟨#[], #[], []⟩).forCall (fun _ _ => 0) ⟨#[], foldKeepsArgs, []⟩).memory Try.f8.params.toList Rows.foldKeepsSpec.vars false foldKeepsArgs.toList 8 = some ([.agg [.lit (.int .u8 0), .lit (.int .u8 0), .lit (.int .u8 0), .lit (.int .i32 0), .lit (.string []), .nil], .nil, .nil], [], places) :=
  ⟨[], by kernel_rfl⟩
theorem foldKeeps_laid (os : Os) : laidMet Try.prog Rows.foldKeepsRow.laid ((World.holding Try.prog os ⟨#[], #[], []⟩).forCall (fun _ _ => 0) ⟨#[], foldKeepsArgs, []⟩).memory :=
  laidMet_of_run' 8 (by kernel_rfl) (by kernel_rfl)
theorem foldKeeps_lifted (os : Os) (started : os.Started) (H : Type) (enc : TypeId × Value → H) (F : Stop.Interp) :
    ReturnsInHanded {} Try.checked os 8 .any ((OpenSpec.ofChange Rows.foldKeepsSpec).preRow enc Try.prog Try.f8 Rows.foldKeepsRow.domain false Rows.foldKeepsRow.laid) (((OpenSpec.ofChange Rows.foldKeepsSpec).at F).post enc Try.prog Try.f8 false true false false) := by
  obtain ⟨places, hx⟩ := foldKeeps_reads os enc
  refine returnsInHanded_of_row (C := Try.checked) (s := OpenSpec.ofChange Rows.foldKeepsSpec) own started (by kernel_rfl) Try.func8
    (witness_row_at (enc := enc) (C := Try.checked) false (World.holding Try.prog os ⟨#[], #[], []⟩) foldKeepsArgs rfl (by kernel_rfl) (by kernel_rfl) (by kernel_rfl)
      (OpenSpec.preRow_of_cond 8 hx (by kernel_rfl) (fun k hk => by cases hk) (by kernel_rfl) (foldKeeps_laid os))) ?_
  intro W base args ds gs before hval hW _ _ hwt hL hsh _
  exact foldKeeps_contract H enc W base args ds gs before hval hW hwt hL hsh
/-- transputerlaw14.FoldKeeps: the law returns true for every input, and what came in reads as it did. -/
theorem foldKeeps_holds : Rows.FoldKeepsSaid :=
  OpenClaim.holds_of_cond 8 Try.f8 rfl rfl rfl rfl rfl rfl rfl ⟨rfl, rfl, rfl, rfl, rfl⟩ rfl rfl rfl rfl rfl (by kernel_rfl) Try.func8 (by kernel_rfl)
    (of_decide_eq_true (by kernel_rfl)) (by unfold Func.isWrapper; first | (rw [if_pos (by decide +kernel)]; kernel_rfl) | (rw [if_neg (by decide +kernel)]; exact ⟨rfl, rfl⟩))
    (fun os started H enc _ F => by rw [OpenClaim.pre_eq_preRow]; exact foldKeeps_lifted os started H enc F)

#print axioms foldKeeps_holds
end Go.Proofs.Ytlnbmocgnkjlfaa
