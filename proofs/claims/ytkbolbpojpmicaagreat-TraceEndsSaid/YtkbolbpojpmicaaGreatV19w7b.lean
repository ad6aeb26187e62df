/-
  transputerlaw19.TraceEnds: the stores of Ends are stores of the kernel, ascending, without repetition. Conditions: none beyond the row's own cells.
-/
import Derived.Test.YtkbolbpojpmicaaGreatRows
import Derived.Test.YtkbolbpojpmicaaGreatWa9
namespace Go.Proofs.YtkbolbpojpmicaaGreat
open Go Go.Tp Go.ChangeShapes Go.WideShapes Go.ChangeAt Go.RowKit
set_option linter.unusedVariables false
set_option linter.unusedSimpArgs false
set_option maxRecDepth 100000

theorem traceEnds_contract (H : Type) (enc : TypeId × Value → H) (W : World) (base : Nat) (args : Array Value) (ds gs : List (DataW H)) (before : List MemPlace)
    (hval : ∀ (j : Nat) t v, Tryz.f9.params[j]? = some t → args[j]? = some v → Value.okWide Tryz.prog W .any base t v)
    (hW : DataW.Whole enc Tryz.prog Tryz.f9.params.toList Rows.traceEndsSpec.vars false W args.toList ds gs before)
    (hwt : (DataW.weightsEach Tryz.prog (Tryz.f9.params.toList ++ []) (ds ++ gs)).all (· ≤ reachBytes) = true) (hL : laidMetH Tryz.prog Rows.traceEndsRow.laid W) (hsh : W.ShapedOpen Tryz.prog) :
    Calls Tryz.prog 9 args W fun e W' => ∃ v, e = .returned v ∧ Rows.traceEndsSpec.post enc Tryz.prog Tryz.f9 false true false false W args v W' := by
  have hW' := hW
  obtain ⟨p, q, hA0, hV, rfl, hfz, hnd⟩ := hW
  have hA : DataW.TrodAll enc Tryz.prog W 0 (fun _ => true) true [34, 35, 3] args.toList ds p := hA0
  obtain ⟨v0, v1, v2, d0, d1, d2, p0, p1, p2, rfl, rfl, rfl, h0, h1, h2⟩ := trodAll_three hA
  obtain ⟨rfl, rfl⟩ := trodVars_none hV
  obtain ⟨k, hk, rk⟩ := argKern (hval 0 34 v0 rfl rfl) h0 (Wt_each hwt 0 34 d0 rfl rfl)
  obtain ⟨t, ⟨ht, htl⟩, rt⟩ := argTr (hval 1 35 v1 rfl rfl) h1 (Wt_each hwt 1 35 d1 rfl rfl)
  obtain ⟨f, hf, rf⟩ := argI (hval 2 3 v2 rfl rfl) h2 (Wt_each hwt 2 3 d2 rfl rfl)
  exact pure_true laidOut (by kernel_rfl) (rfl : Tryz.f9.resultTypes = #[4]) (by kernel_rfl) rfl rfl hW' (fun _ _ h => by cases h) (RpC_cons.2 ⟨_, _, rfl, rk, RpC_cons.2 ⟨_, _, rfl, rt, RpC_cons.2 ⟨_, _, rfl, rf, by rw [RpC_nil]⟩⟩⟩) (ends19_law k hk t ht f)
def traceEndsArgs : Array Value := #[.agg #[.slice none 0 0, .slice none 0 0, .int .u8 0, .int .i64 0, .int .i64 0, .int .u8 0, .slice none 0 0, .slice none 0 0, .slice none 0 0, .slice none 0 0, .slice none 0 0], .slice none 0 0, .int .i64 0]
theorem traceEnds_reads (os : Os) {H : Type} (enc : TypeId × Value → H) : ∃ places, DataW.whole enc Tryz.prog ((World.holding Tryz.prog os ⟨#[], #[], []⟩).forCall (fun _ _ => 0) ⟨#[], traceEndsArgs, []⟩).memory Tryz.f9.params.toList Rows.traceEndsSpec.vars false traceEndsArgs.toList 8 = some ([.agg [.nil, .nil, .agg [.lit (.int .u8 0), .lit (.int .i64 0), .lit (.int .i64 0), .lit (.int .u8 0), .nil, .nil, .nil, .nil], .nil], .nil, .lit (.int .i64 0)], [], places) :=
  ⟨[], by kernel_rfl⟩
theorem traceEnds_laid (os : Os) : laidMet Tryz.prog Rows.traceEndsRow.laid ((World.holding Tryz.prog os ⟨#[], #[], []⟩).forCall (fun _ _ => 0) ⟨#[], traceEndsArgs, []⟩).memory :=
  laidMet_of_run' 8 (by kernel_rfl) (by kernel_rfl)
theorem traceEnds_lifted (os : Os) (started : os.Started) (H : Type) (enc : TypeId × Value → H) (F : Stop.Interp) :
    ReturnsInHanded {} Tryz.checked os 9 .any ((OpenSpec.ofChange Rows.traceEndsSpec).preRow enc Tryz.prog Tryz.f9 Rows.traceEndsRow.domain false Rows.traceEndsRow.laid) (((OpenSpec.ofChange Rows.traceEndsSpec).at F).post enc Tryz.prog Tryz.f9 false true false false) := by
  obtain ⟨places, hx⟩ := traceEnds_reads os enc
  refine returnsInHanded_of_row (C := Tryz.checked) (s := OpenSpec.ofChange Rows.traceEndsSpec) own started (by kernel_rfl) Tryz.func9
    (witness_row_at (enc := enc) (C := Tryz.checked) false (World.holding Tryz.prog os ⟨#[], #[], []⟩) traceEndsArgs rfl (by kernel_rfl) (by kernel_rfl) (by kernel_rfl)
      (OpenSpec.preRow_of_cond 8 hx (by kernel_rfl) (fun k hk => by cases hk) (by kernel_rfl) (traceEnds_laid os))) ?_
  intro W base args ds gs before hval hW _ _ hwt hL hsh _
  exact traceEnds_contract H enc W base args ds gs before hval hW hwt hL hsh
theorem traceEnds_named : Tryz.pinned.checked.prog.funcNamed Rows.traceEndsRow.func = some 9 := by kernel_rfl
theorem traceEnds_k9 : (Rows.traceEndsRow.inPlace == Tryz.pinned.checked.prog.inPlace 9) = true := by kernel_rfl
theorem traceEnds_k10 : (Rows.traceEndsRow.unfollowed == Tryz.pinned.checked.prog.unfollowed 9) = true := by kernel_rfl
theorem traceEnds_k11 : (Rows.traceEndsRow.recurses == Tryz.pinned.checked.prog.recurses 9) = true := by kernel_rfl
theorem traceEnds_k12 : (Rows.traceEndsRow.named == Tryz.pinned.checked.prog.varsNamed 9) = true := by kernel_rfl
theorem traceEnds_k16 : (Rows.traceEndsRow.loops == (Tryz.f9.params.toList ++ (OpenSpec.ofChange Rows.traceEndsSpec).bare.plain.varTypes Tryz.pinned.checked.prog).any (Tryz.pinned.checked.prog.loopsFrom ·)) = true := by kernel_rfl
theorem traceEnds_closed : joinedFacts Tryz.pinned.checked.prog 9 Tryz.f9 (OpenSpec.ofChange Rows.traceEndsSpec).bare Rows.traceEndsRow = true := by
  unfold joinedFacts
  exact Bool.and_eq_true_iff.2 ⟨Bool.and_eq_true_iff.2 ⟨Bool.and_eq_true_iff.2 ⟨Bool.and_eq_true_iff.2 ⟨Bool.and_eq_true_iff.2 ⟨Bool.and_eq_true_iff.2 ⟨Bool.and_eq_true_iff.2 ⟨Bool.and_eq_true_iff.2 ⟨Bool.and_eq_true_iff.2 ⟨Bool.and_eq_true_iff.2 ⟨Bool.and_eq_true_iff.2 ⟨Bool.and_eq_true_iff.2 ⟨Bool.and_eq_true_iff.2 ⟨Bool.and_eq_true_iff.2 ⟨Bool.and_eq_true_iff.2 ⟨Bool.and_eq_true_iff.2 ⟨Bool.and_eq_true_iff.2 ⟨Bool.and_eq_true_iff.2 ⟨Bool.and_eq_true_iff.2 ⟨Bool.and_eq_true_iff.2 ⟨Bool.and_eq_true_iff.2 ⟨Bool.and_eq_true_iff.2 ⟨Bool.and_eq_true_iff.2 ⟨Bool.and_eq_true_iff.2 ⟨Bool.and_eq_true_iff.2 ⟨Bool.and_eq_true_iff.2 ⟨Bool.and_eq_true_iff.2 ⟨Bool.and_eq_true_iff.2 ⟨Bool.and_eq_true_iff.2 ⟨Bool.and_eq_true_iff.2 ⟨Bool.and_eq_true_iff.2 ⟨(by kernel_rfl), laidOut⟩, big_k2⟩, (by kernel_rfl)⟩, (by kernel_rfl)⟩, (by kernel_rfl)⟩, (by kernel_rfl)⟩, (by kernel_rfl)⟩, (by kernel_rfl)⟩, traceEnds_k9⟩, traceEnds_k10⟩, traceEnds_k11⟩, traceEnds_k12⟩, (by kernel_rfl)⟩, (by kernel_rfl)⟩, (by kernel_rfl)⟩, traceEnds_k16⟩, (by kernel_rfl)⟩, (by kernel_rfl)⟩, (by kernel_rfl)⟩, (by kernel_rfl)⟩, (by kernel_rfl)⟩, (by rw [big_k22]; kernel_rfl)⟩, (by kernel_rfl)⟩, big_k24⟩, big_k25⟩, (by rw [big_k26]; kernel_rfl)⟩, (by rw [big_k27]; kernel_rfl)⟩, (by kernel_rfl)⟩, (by kernel_rfl)⟩, (by kernel_rfl)⟩, (by kernel_rfl)⟩
/-- transputerlaw19.TraceEnds: the law returns true for every input, and what came in reads as it did. -/
theorem traceEnds_holds : Rows.TraceEndsSaid :=
  OpenClaim.holds_of_cond 9 Tryz.f9 rfl rfl rfl rfl rfl rfl rfl ⟨rfl, rfl, rfl, rfl, rfl⟩ rfl rfl rfl rfl rfl traceEnds_named Tryz.func9 traceEnds_closed
    (of_decide_eq_true (by kernel_rfl)) (by unfold Func.isWrapper; first | (rw [if_pos (by decide +kernel)]; kernel_rfl) | (rw [if_neg (by decide +kernel)]; exact ⟨rfl, rfl⟩))
    (fun os started H enc _ F => by rw [OpenClaim.pre_eq_preRow]; exact traceEnds_lifted os started H enc F)

#print axioms traceEnds_holds
end Go.Proofs.YtkbolbpojpmicaaGreat
