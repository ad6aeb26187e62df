/-
  transputerlaw19.TraceExact: Has and Ends return what the document defines. Conditions: none beyond the row's own cells.
-/
import Derived.Test.YtenkjmjejhhdjaaGreatRows
import Derived.Test.YtenkjmjejhhdjaaGreatWc11
open Bool renaming and_eq_true_iff→ad0
namespace Go.Proofs.YtenkjmjejhhdjaaGreat
open Go Go.Tp Go.ChangeShapes Go.WideShapes Go.ChangeAt Go.RowKit
set_option linter.unusedVariables false
set_option linter.unusedSimpArgs false
set_option maxRecDepth 100000

theorem traceExact_contract (H : Type) (enc : TypeId × Value → H) (W : World) (base : Nat) (args : Array Value) (ds gs : List (DataW H)) (before : List MemPlace)
    (hval : ∀ (j : Nat) t v, Tryz.f3.params[j]? = some t → args[j]? = some v → Value.okWide Tryz.prog W .any base t v)
    (hW : DataW.Whole enc Tryz.prog Tryz.f3.params.toList Rows.traceExactSpec.vars false W args.toList ds gs before)
    (hwt : (DataW.weightsEach Tryz.prog (Tryz.f3.params.toList ++ []) (ds ++ gs)).all (· ≤ reachBytes) = true) (hL : laidMetH Tryz.prog Rows.traceExactRow.laid W) (hsh : W.ShapedOpen Tryz.prog) :
    Calls Tryz.prog 3 args W fun e W' => ∃ v, e = .returned v ∧ Rows.traceExactSpec.post enc Tryz.prog Tryz.f3 false true false false W args v W' := by
  have hW' := hW;obtain ⟨p, q, hA0, hV, rfl, hfz, hnd⟩ := hW;have hA : DataW.TrodAll enc Tryz.prog W 0 (fun _ => true) true [34, 35, 3] args.toList ds p := hA0;obtain ⟨v0, v1, v2, d0, d1, d2, p0, p1, p2, rfl, rfl, rfl, h0, h1, h2⟩ := trodAll_three hA;obtain ⟨rfl, rfl⟩ := trodVars_none hV;obtain ⟨k, hk, rk⟩ := ZM (hval 0 34 v0 rfl rfl) h0 (vT hwt 0 34 d0 rfl rfl);obtain ⟨t, ⟨ht, fN⟩, rt⟩ := argTr (hval 1 35 v1 rfl rfl) h1 (vT hwt 1 35 d1 rfl rfl);obtain ⟨f, hf, rf⟩ := argI (hval 2 3 v2 rfl rfl) h2 (vT hwt 2 3 d2 rfl rfl);exact pure_true laidOut (by kernel_rfl) (rfl : Tryz.f3.resultTypes = #[4]) (by kernel_rfl) rfl rfl hW' (fun _ _ h => by cases h) (aJ.2 ⟨_, _, rfl, rk, aJ.2 ⟨_, _, rfl, rt, aJ.2 ⟨_, _, rfl, rf, by rw [aP]⟩⟩⟩) (JK k hk t ht f)
def traceExactArgs : Array Value := #[.agg #[.slice none 0 0, .slice none 0 0, .int .u8 0, .int .i64 0, .int .i64 0, .int .u8 0, .slice none 0 0, .slice none 0 0, .slice none 0 0, .slice none 0 0, .slice none 0 0], .slice none 0 0, .int .i64 0]
theorem traceExact_reads (os : Os) {H : Type} (enc : TypeId × Value → H) : ∃ places, DataW.whole enc Tryz.prog ((World.holding Tryz.prog os ⟨#[], #[], []⟩).forCall (fun _ _ => 0) ⟨#[], traceExactArgs, []⟩).memory Tryz.f3.params.toList Rows.traceExactSpec.vars false traceExactArgs.toList 8 = some ([.agg [.nil, .nil, .agg [.lit (.int .u8 0), .lit (.int .i64 0), .lit (.int .i64 0), .lit (.int .u8 0), .nil, .nil, .nil, .nil], .nil], .nil, .lit (.int .i64 0)], [], places) :=
  ⟨[], by kernel_rfl⟩
theorem traceExact_laid (os : Os) : laidMet Tryz.prog Rows.traceExactRow.laid ((World.holding Tryz.prog os ⟨#[], #[], []⟩).forCall (fun _ _ => 0) ⟨#[], traceExactArgs, []⟩).memory :=
  laidMet_of_run' 8 (by kernel_rfl) (by kernel_rfl)
theorem traceExact_lifted (os : Os) (started : os.Started) (H : Type) (enc : TypeId × Value → H) (F : Stop.Interp) :
    ReturnsInHanded {} Tryz.checked os 3 .any ((OpenSpec.ofChange Rows.traceExactSpec).preRow enc Tryz.prog Tryz.f3 Rows.traceExactRow.domain false Rows.traceExactRow.laid) (((OpenSpec.ofChange Rows.traceExactSpec).at F).post enc Tryz.prog Tryz.f3 false true false false) := by
  obtain ⟨places, hx⟩ := traceExact_reads os enc
  refine returnsInHanded_of_row (C := Tryz.checked) (s := OpenSpec.ofChange Rows.traceExactSpec) own started (by kernel_rfl) Tryz.func3
    (witness_row_at (enc := enc) (C := Tryz.checked) false (World.holding Tryz.prog os ⟨#[], #[], []⟩) traceExactArgs rfl (by kernel_rfl) (by kernel_rfl) (by kernel_rfl)
      (OpenSpec.preRow_of_cond 8 hx (by kernel_rfl) (fun k hk => by cases hk) (by kernel_rfl) (traceExact_laid os))) ?_
  intro W base args ds gs before hval hW _ _ hwt hL hsh _;exact traceExact_contract H enc W base args ds gs before hval hW hwt hL hsh
theorem traceExact_named : Tryz.pinned.checked.prog.funcNamed Rows.traceExactRow.func = some 3 := by kernel_rfl
theorem traceExact_k9 : (Rows.traceExactRow.inPlace == Tryz.pinned.checked.prog.inPlace 3) = true := by kernel_rfl
theorem traceExact_k10 : (Rows.traceExactRow.unfollowed == Tryz.pinned.checked.prog.unfollowed 3) = true := by kernel_rfl
theorem traceExact_k11 : (Rows.traceExactRow.recurses == Tryz.pinned.checked.prog.recurses 3) = true := by kernel_rfl
theorem traceExact_k12 : (Rows.traceExactRow.named == Tryz.pinned.checked.prog.varsNamed 3) = true := by kernel_rfl
theorem traceExact_k16 : (Rows.traceExactRow.loops == (Tryz.f3.params.toList ++ (OpenSpec.ofChange Rows.traceExactSpec).bare.plain.varTypes Tryz.pinned.checked.prog).any (Tryz.pinned.checked.prog.loopsFrom ·)) = true := by kernel_rfl
theorem traceExact_closed : joinedFacts Tryz.pinned.checked.prog 3 Tryz.f3 (OpenSpec.ofChange Rows.traceExactSpec).bare Rows.traceExactRow = true := by
  unfold joinedFacts;exact ad0.2 ⟨ad0.2 ⟨ad0.2 ⟨ad0.2 ⟨ad0.2 ⟨ad0.2 ⟨ad0.2 ⟨ad0.2 ⟨ad0.2 ⟨ad0.2 ⟨ad0.2 ⟨ad0.2 ⟨ad0.2 ⟨ad0.2 ⟨ad0.2 ⟨ad0.2 ⟨ad0.2 ⟨ad0.2 ⟨ad0.2 ⟨ad0.2 ⟨ad0.2 ⟨ad0.2 ⟨ad0.2 ⟨ad0.2 ⟨ad0.2 ⟨ad0.2 ⟨ad0.2 ⟨ad0.2 ⟨ad0.2 ⟨ad0.2 ⟨ad0.2 ⟨(by kernel_rfl), laidOut⟩, big_k2⟩, (by kernel_rfl)⟩, (by kernel_rfl)⟩, (by kernel_rfl)⟩, (by kernel_rfl)⟩, (by kernel_rfl)⟩, (by kernel_rfl)⟩, traceExact_k9⟩, traceExact_k10⟩, traceExact_k11⟩, traceExact_k12⟩, (by kernel_rfl)⟩, (by kernel_rfl)⟩, (by kernel_rfl)⟩, traceExact_k16⟩, (by kernel_rfl)⟩, (by kernel_rfl)⟩, (by kernel_rfl)⟩, (by kernel_rfl)⟩, (by kernel_rfl)⟩, (by rw [ZP]; kernel_rfl)⟩, (by kernel_rfl)⟩, ZQ⟩, ZR⟩, (by rw [ZS]; kernel_rfl)⟩, (by rw [ZT]; kernel_rfl)⟩, (by kernel_rfl)⟩, (by kernel_rfl)⟩, (by kernel_rfl)⟩, (by kernel_rfl)⟩
/-- transputerlaw19.TraceExact: the law returns true for every input, and what came in reads as it did. -/
theorem traceExact_holds : Rows.TraceExactSaid :=
  OpenClaim.holds_of_cond 3 Tryz.f3 rfl rfl rfl rfl rfl rfl rfl ⟨rfl, rfl, rfl, rfl, rfl⟩ rfl rfl rfl rfl rfl traceExact_named Tryz.func3 traceExact_closed
    (of_decide_eq_true (by kernel_rfl)) (by unfold Func.isWrapper; first | (rw [if_pos (by decide +kernel)]; kernel_rfl) | (rw [if_neg (by decide +kernel)]; exact ⟨rfl, rfl⟩))
    (fun os started H enc _ F => by rw [OpenClaim.pre_eq_preRow]; exact traceExact_lifted os started H enc F)

#print axioms traceExact_holds
end Go.Proofs.YtenkjmjejhhdjaaGreat
