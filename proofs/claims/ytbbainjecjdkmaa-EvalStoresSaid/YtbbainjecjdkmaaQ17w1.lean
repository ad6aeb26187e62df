/-
  transputerlaw17.EvalStores answers true for every list of variables and every two stores, and leaves them alone. Conditions: none beyond the row's own cells.
-/
import Derived.Test.YtbbainjecjdkmaaRows
import Derived.Test.YtbbainjecjdkmaaQ17k
import Derived.Test.YtbbainjecjdkmaaQ17o
namespace Go.Proofs.Ytbbainjecjdkmaa
open Go Go.Tp Go.ChangeShapes Go.WideShapes Go.ChangeAt Go.RowKit
set_option linter.unusedVariables false
set_option linter.unusedSimpArgs false
set_option maxRecDepth 100000

section
variable {H : Type} {enc : TypeId × Value → H} {W : World} {base : Nat} {sp : Nat → Bool} {hd : Bool}
def vFields : Array Field := #[⟨"Kind", 28, 0, false, "", "", 0⟩, ⟨"Dim", 3, 1, false, "", "", 8⟩]
theorem arg22 {v : Value} {d : DataW H} {p : List MemPlace} (hval : Value.okWide Try.prog W .any base 22 v) (h : DataW.Trod enc Try.prog W 0 (fun _ => true) true 22 v d p) (hw : Wt Try.prog 22 d) :
    ∃ l : List KV, l.length ≤ 281474976710656 ∧ Rp (hOf W) (varsA l) v := by
  obtain ⟨a, len, cap, rfl⟩ := okWide_slice (e := 69) (by kernel_rfl) hval
  obtain ⟨fuel, hf⟩ := h
  obtain ⟨v', l, h1, h2, h3, h4⟩ := open_sl (e := 69) (sz := 2) (bt := 16) encV (fun _ => True) (by kernel_rfl) (by kernel_rfl) (by kernel_rfl) (by decide) (fun m' hm' cs y hcs hy hwy => by
    obtain ⟨m, hm, hlen, hf⟩ := open_st (fs := vFields) (n := 2) (by kernel_rfl) (by kernel_rfl) hy hwy
    match cs, hlen with
    | [c0, c1], _ =>
    obtain ⟨y0, h0, w0⟩ := hf 0 _ rfl
    obtain ⟨y1, h1, w1⟩ := hf 1 _ rfl
    have e0 : Try.prog.cellsOf 28 = 1 := by kernel_rfl
    have e1 : Try.prog.cellsOf 3 = 1 := by kernel_rfl
    simp only [vFields, e0, e1, List.drop_succ_cons, List.drop_zero, List.take_succ_cons, List.take_zero] at h0 h1
    obtain ⟨k, a0, u0⟩ := open_u8 (by kernel_rfl) h0
    obtain ⟨n, a1, u1⟩ := open_i64 (by kernel_rfl) h1
    injection a0 with a0; injection a1 with a1
    subst a0; subst a1
    refine ⟨⟨k, n⟩, .agg ⟨[_, _]⟩, trivial, ?_, by rw [cellsL_eq]; rfl, rfl⟩
    rw [Rp_ag]
    refine ⟨_, rfl, ?_⟩
    rw [RpC_cons]; refine ⟨_, _, rfl, Rp_v.2 ⟨rfl, rfl⟩, ?_⟩
    rw [RpC_cons]; exact ⟨_, _, rfl, Rp_v.2 ⟨rfl, rfl⟩, by rw [RpC_nil]⟩) hf hw
  unfold reachBytes at h4
  have h1 : [Value.slice a len cap] = [v'] := h1
  injection h1 with h1
  subst h1
  exact ⟨l, by omega, h3⟩
end
theorem es_contract (H : Type) (enc : TypeId × Value → H) (W : World) (base : Nat) (args : Array Value) (ds gs : List (DataW H)) (before : List MemPlace)
    (hval : ∀ (j : Nat) t v, Try.f3.params[j]? = some t → args[j]? = some v → Value.okWide Try.prog W .any base t v)
    (hW : DataW.Whole enc Try.prog Try.f3.params.toList Rows.evalStoresSpec.vars false W args.toList ds gs before)
    (hwt : (DataW.weightsEach Try.prog (Try.f3.params.toList ++ []) (ds ++ gs)).all (· ≤ reachBytes) = true) :
    Calls Try.prog 3 args W fun e W' => ∃ v, e = .returned v ∧ Rows.evalStoresSpec.post enc Try.prog Try.f3 false true false false W args v W' := by
  have hW' := hW
  obtain ⟨p, q, hA0, hV, rfl, hfz, hnd⟩ := hW
  have hA : DataW.TrodAll enc Try.prog W 0 (fun _ => true) true [22, 23, 23] args.toList ds p := hA0
  obtain ⟨v0, v1, v2, d0, d1, d2, p0, p1, p2, rfl, rfl, rfl, h0, h1, h2⟩ := trodAll_three hA
  obtain ⟨rfl, rfl⟩ := trodVars_none hV
  obtain ⟨l, a1, a2⟩ := arg22 (hval 0 22 v0 rfl rfl) h0 (Wt_each hwt 0 22 d0 rfl rfl)
  obtain ⟨s, b1, b2, b3⟩ := arg23 (hval 1 23 v1 rfl rfl) h1 (Wt_each hwt 1 23 d1 rfl rfl)
  obtain ⟨t, c1, c2, c3⟩ := arg23 (hval 2 23 v2 rfl rfl) h2 (Wt_each hwt 2 23 d2 rfl rfl)
  exact pure_true laidOut (by kernel_rfl) (rfl : Try.f3.resultTypes = #[4]) (by kernel_rfl) rfl rfl hW' (fun _ _ h => by cases h) (RpC_cons.2 ⟨_, _, rfl, a2, RpC_cons.2 ⟨_, _, rfl, b3, RpC_cons.2 ⟨_, _, rfl, c3, by rw [RpC_nil]⟩⟩⟩) (stores_law l s t a1 b2 c2)

def esArgs : Array Value := #[.slice none 0 0, .slice none 0 0, .slice none 0 0]
theorem es_reads (os : Os) {H : Type} (enc : TypeId × Value → H) : ∃ places, DataW.whole enc Try.prog ((World.holding Try.prog os ⟨#[], #[], []⟩).forCall (fun _ _ => 0) ⟨#[], esArgs, []⟩).memory Try.f3.params.toList Rows.evalStoresSpec.vars false esArgs.toList 8 = some ([.nil, .nil, .nil], [], places) :=
  ⟨[], by kernel_rfl⟩
theorem es_laid (os : Os) : laidMet Try.prog Rows.evalStoresRow.laid ((World.holding Try.prog os ⟨#[], #[], []⟩).forCall (fun _ _ => 0) ⟨#[], esArgs, []⟩).memory :=
  laidMet_of_run' 8 (by kernel_rfl) (by kernel_rfl)
theorem es_lifted (os : Os) (started : os.Started) (H : Type) (enc : TypeId × Value → H) (F : Stop.Interp) :
    ReturnsInHanded {} Try.checked os 3 .any ((OpenSpec.ofChange Rows.evalStoresSpec).preRow enc Try.prog Try.f3 Rows.evalStoresRow.domain false Rows.evalStoresRow.laid) (((OpenSpec.ofChange Rows.evalStoresSpec).at F).post enc Try.prog Try.f3 false true false false) := by
  obtain ⟨places, hx⟩ := es_reads os enc
  refine returnsInHanded_of_row (C := Try.checked) (s := OpenSpec.ofChange Rows.evalStoresSpec) own started (by kernel_rfl) Try.func3
    (witness_row_at (enc := enc) (C := Try.checked) false (World.holding Try.prog os ⟨#[], #[], []⟩) esArgs rfl (by kernel_rfl) (by kernel_rfl) (by kernel_rfl)
      (OpenSpec.preRow_of_cond 8 hx (by kernel_rfl) (fun k hk => by cases hk) (by kernel_rfl) (es_laid os))) ?_
  intro W base args ds gs before hval hW _ _ hwt _ _ _
  exact es_contract H enc W base args ds gs before hval hW hwt
/-- transputerlaw17.EvalStores: for every list of variables and every two stores the law returns true, and they read as they did. -/
theorem evalStores_holds : Rows.EvalStoresSaid :=
  OpenClaim.holds_of_cond 3 Try.f3 rfl rfl rfl rfl rfl rfl rfl ⟨rfl, rfl, rfl, rfl, rfl⟩ rfl rfl rfl rfl rfl (by kernel_rfl) Try.func3 (by kernel_rfl)
    (of_decide_eq_true (by kernel_rfl)) (by unfold Func.isWrapper; first | (rw [if_pos (by decide +kernel)]; kernel_rfl) | (rw [if_neg (by decide +kernel)]; exact ⟨rfl, rfl⟩))
    (fun os started H enc _ F => by rw [OpenClaim.pre_eq_preRow]; exact es_lifted os started H enc F)
#print axioms evalStores_holds
end Go.Proofs.Ytbbainjecjdkmaa
