/-
  transputerlaw19.TraceTurned: the order of the branches of a parallel Root does not matter. Conditions: none beyond the row's own cells.
-/
import Derived.Test.YtkbolbpojpmicaaGreatRows
import Derived.Test.YtkbolbpojpmicaaGreatWb11
import Derived.Test.YtkbolbpojpmicaaGreatWb9
namespace Go.Proofs.YtkbolbpojpmicaaGreat
open Go Go.Tp Go.ChangeShapes Go.WideShapes Go.ChangeAt Go.RowKit
set_option linter.unusedVariables false
set_option linter.unusedSimpArgs false
set_option maxRecDepth 100000

theorem traceTurned_contract (H : Type) (enc : TypeId × Value → H) (W : World) (base : Nat) (args : Array Value) (ds gs : List (DataW H)) (before : List MemPlace)
    (hval : ∀ (j : Nat) t v, Tryz.f7.params[j]? = some t → args[j]? = some v → Value.okWide Tryz.prog W .any base t v)
    (hW : DataW.Whole enc Tryz.prog Tryz.f7.params.toList Rows.traceTurnedSpec.vars false W args.toList ds gs before)
    (hwt : (DataW.weightsEach Tryz.prog (Tryz.f7.params.toList ++ []) (ds ++ gs)).all (· ≤ reachBytes) = true) (hL : laidMetH Tryz.prog Rows.traceTurnedRow.laid W) (hsh : W.ShapedOpen Tryz.prog) :
    Calls Tryz.prog 7 args W fun e W' => ∃ v, e = .returned v ∧ Rows.traceTurnedSpec.post enc Tryz.prog Tryz.f7 false true false false W args v W' := by
  have hW' := hW
  obtain ⟨p, q, hA0, hV, rfl, hfz, hnd⟩ := hW
  have hA : DataW.TrodAll enc Tryz.prog W 0 (fun _ => true) true [34, 35, 3] args.toList ds p := hA0
  obtain ⟨v0, v1, v2, d0, d1, d2, p0, p1, p2, rfl, rfl, rfl, h0, h1, h2⟩ := trodAll_three hA
  obtain ⟨rfl, rfl⟩ := trodVars_none hV
  obtain ⟨k, hk, rk⟩ := argKern (hval 0 34 v0 rfl rfl) h0 (Wt_each hwt 0 34 d0 rfl rfl)
  obtain ⟨t, ⟨ht, htl⟩, rt⟩ := argTr (hval 1 35 v1 rfl rfl) h1 (Wt_each hwt 1 35 d1 rfl rfl)
  obtain ⟨f, hf, rf⟩ := argI (hval 2 3 v2 rfl rfl) h2 (Wt_each hwt 2 3 d2 rfl rfl)
  exact pure_true laidOut (by kernel_rfl) (rfl : Tryz.f7.resultTypes = #[4]) (by kernel_rfl) rfl rfl hW' (fun _ _ h => by cases h) (RpC_cons.2 ⟨_, _, rfl, rk, RpC_cons.2 ⟨_, _, rfl, rt, RpC_cons.2 ⟨_, _, rfl, rf, by rw [RpC_nil]⟩⟩⟩) (turned19_law k hk t ht f)
def traceTurnedArgs : Array Value := #[.agg #[.slice none 0 0, .slice none 0 0, .int .u8 0, .int .i64 0, .int .i64 0, .int .u8 0, .slice none 0 0, .slice none 0 0, .slice none 0 0, .slice none 0 0, .slice none 0 0], .slice none 0 0, .int .i64 0]
theorem traceTurned_reads (os : Os) {H : Type} (enc : TypeId × Value → H) : ∃ places, DataW.whole enc Tryz.prog ((World.holding Tryz.prog os ⟨#[], #[], []⟩).forCall (fun _ _ => 0) ⟨#[], traceTurnedArgs, []⟩).memory Tryz.f7.params.toList Rows.traceTurnedSpec.vars false traceTurnedArgs.toList 8 = some ([.agg [.nil, .nil, .agg [.lit (.int .u8 0), .lit (.int .i64 0), .lit (.int .i64 0), .lit (.int .u8 0), .nil, .nil, .nil, .nil], .nil], .nil, .lit (.int .i64 0)], [], places) :=
  ⟨[], by kernel_rfl⟩
theorem traceTurned_laid (os : Os) : laidMet Tryz.prog Rows.traceTurnedRow.laid ((World.holding Tryz.prog os ⟨#[], #[], []⟩).forCall (fun _ _ => 0) ⟨#[], traceTurnedArgs, []⟩).memory :=
  laidMet_of_run' 8 (by kernel_rfl) (by kernel_rfl)
theorem traceTurned_lifted (os : Os) (started : os.Started) (H : Type) (enc : TypeId × Value → H) (F : Stop.Interp) :
    ReturnsInHanded {} Tryz.checked os 7 .any ((OpenSpec.ofChange Rows.traceTurnedSpec).preRow enc Tryz.prog Tryz.f7 Rows.traceTurnedRow.domain false Rows.traceTurnedRow.laid) (((OpenSpec.ofChange Rows.traceTurnedSpec).at F).post enc Tryz.prog Tryz.f7 false true false false) := by
  obtain ⟨places, hx⟩ := traceTurned_reads os enc
  refine returnsInHanded_of_row (C := Tryz.checked) (s := OpenSpec.ofChange Rows.traceTurnedSpec) own started (by kernel_rfl) Tryz.func7
    (witness_row_at (enc := enc) (C := Tryz.checked) false (World.holding Tryz.prog os ⟨#[], #[], []⟩) traceTurnedArgs rfl (by kernel_rfl) (by kernel_rfl) (by kernel_rfl)
      (OpenSpec.preRow_of_cond 8 hx (by kernel_rfl) (fun k hk => by cases hk) (by kernel_rfl) (traceTurned_laid os))) ?_
  intro W base args ds gs before hval hW _ _ hwt hL hsh _
  exact traceTurned_contract H enc W base args ds gs before hval hW hwt hL hsh
theorem traceTurned_named : Tryz.pinned.checked.prog.funcNamed Rows.traceTurnedRow.func = some 7 := by kernel_rfl
theorem traceTurned_k9 : (Rows.traceTurnedRow.inPlace == Tryz.pinned.checked.prog.inPlace 7) = true := by kernel_rfl
theorem traceTurned_k10 : (Rows.traceTurnedRow.unfollowed == Tryz.pinned.checked.prog.unfollowed 7) = true := by kernel_rfl
theorem traceTurned_k11 : (Rows.traceTurnedRow.recurses == Tryz.pinned.checked.prog.recurses 7) = true := by kernel_rfl
theorem traceTurned_k12 : (Rows.traceTurnedRow.named == Tryz.pinned.checked.prog.varsNamed 7) = true := by kernel_rfl
theorem traceTurned_k16 : (Rows.traceTurnedRow.loops == (Tryz.f7.params.toList ++ (OpenSpec.ofChange Rows.traceTurnedSpec).bare.plain.varTypes Tryz.pinned.checked.prog).any (Tryz.pinned.checked.prog.loopsFrom ·)) = true := by kernel_rfl
theorem traceTurned_closed : joinedFacts Tryz.pinned.checked.prog 7 Tryz.f7 (OpenSpec.ofChange Rows.traceTurnedSpec).bare Rows.traceTurnedRow = true := by
  unfold joinedFacts
  exact Bool.and_eq_true_iff.2 ⟨Bool.and_eq_true_iff.2 ⟨Bool.and_eq_true_iff.2 ⟨Bool.and_eq_true_iff.2 ⟨Bool.and_eq_true_iff.2 ⟨Bool.and_eq_true_iff.2 ⟨Bool.and_eq_true_iff.2 ⟨Bool.and_eq_true_iff.2 ⟨Bool.and_eq_true_iff.2 ⟨Bool.and_eq_true_iff.2 ⟨Bool.and_eq_true_iff.2 ⟨Bool.and_eq_true_iff.2 ⟨Bool.and_eq_true_iff.2 ⟨Bool.and_eq_true_iff.2 ⟨Bool.and_eq_true_iff.2 ⟨Bool.and_eq_true_iff.2 ⟨Bool.and_eq_true_iff.2 ⟨Bool.and_eq_true_iff.2 ⟨Bool.and_eq_true_iff.2 ⟨Bool.and_eq_true_iff.2 ⟨Bool.and_eq_true_iff.2 ⟨Bool.and_eq_true_iff.2 ⟨Bool.and_eq_true_iff.2 ⟨Bool.and_eq_true_iff.2 ⟨Bool.and_eq_true_iff.2 ⟨Bool.and_eq_true_iff.2 ⟨Bool.and_eq_true_iff.2 ⟨Bool.and_eq_true_iff.2 ⟨Bool.and_eq_true_iff.2 ⟨Bool.and_eq_true_iff.2 ⟨Bool.and_eq_true_iff.2 ⟨(by kernel_rfl), laidOut⟩, big_k2⟩, (by kernel_rfl)⟩, (by kernel_rfl)⟩, (by kernel_rfl)⟩, (by kernel_rfl)⟩, (by kernel_rfl)⟩, (by kernel_rfl)⟩, traceTurned_k9⟩, traceTurned_k10⟩, traceTurned_k11⟩, traceTurned_k12⟩, (by kernel_rfl)⟩, (by kernel_rfl)⟩, (by kernel_rfl)⟩, traceTurned_k16⟩, (by kernel_rfl)⟩, (by kernel_rfl)⟩, (by kernel_rfl)⟩, (by kernel_rfl)⟩, (by kernel_rfl)⟩, (by rw [big_k22]; kernel_rfl)⟩, (by kernel_rfl)⟩, big_k24⟩, big_k25⟩, (by rw [big_k26]; kernel_rfl)⟩, (by rw [big_k27]; kernel_rfl)⟩, (by kernel_rfl)⟩, (by kernel_rfl)⟩, (by kernel_rfl)⟩, (by kernel_rfl)⟩
/-- transputerlaw19.TraceTurned: the law returns true for every input, and what came in reads as it did. -/
theorem traceTurned_holds : Rows.TraceTurnedSaid :=
  OpenClaim.holds_of_cond 7 Tryz.f7 rfl rfl rfl rfl rfl rfl rfl ⟨rfl, rfl, rfl, rfl, rfl⟩ rfl rfl rfl rfl rfl traceTurned_named Tryz.func7 traceTurned_closed
    (of_decide_eq_true (by kernel_rfl)) (by unfold Func.isWrapper; first | (rw [if_pos (by decide +kernel)]; kernel_rfl) | (rw [if_neg (by decide +kernel)]; exact ⟨rfl, rfl⟩))
    (fun os started H enc _ F => by rw [OpenClaim.pre_eq_preRow]; exact traceTurned_lifted os started H enc F)

#print axioms traceTurned_holds
end Go.Proofs.YtkbolbpojpmicaaGreat
