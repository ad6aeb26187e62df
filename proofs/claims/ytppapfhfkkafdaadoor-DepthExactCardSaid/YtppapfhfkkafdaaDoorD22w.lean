/-
  transputerlaw22.DepthExact answers true for every expression, and leaves it alone. Conditions: none beyond the row's own cells (the table quiet as the program's text lays it).
-/
import Derived.Test.YtppapfhfkkafdaaDoorCards
import Derived.Test.YtppapfhfkkafdaaDoorTie
import Derived.Test.YtppapfhfkkafdaaDoorD22i
import Derived.Test.YtppapfhfkkafdaaDoorTpW
namespace Go.Proofs.YtppapfhfkkafdaaDoor
open Go Go.Tp Go.ChangeShapes Go.WideShapes Go.ChangeAt Go.RowKit
set_option linter.unusedVariables false
set_option maxRecDepth 100000

theorem own : ownKnob Tryd.prog.godebug = none := by kernel_rfl
theorem laidOut : laidOutB Tryd.prog = true := by kernel_rfl
def kFields : Array Field := #[⟨"Kind", 22, 0, false, "", "", 0⟩, ⟨"Oper", 23, 1, false, "", "", 1⟩, ⟨"To", 24, 2, false, "", "", 2⟩, ⟨"N", 21, 3, false, "", "", 4⟩, ⟨"V", 3, 4, false, "", "", 8⟩, ⟨"L", 25, 5, false, "", "", 16⟩]
theorem kTypes : KTypes Tryd.prog 27 25 kFields :=
  { und := by kernel_rfl
    fs6 := ⟨22, 23, 24, 21, 3, by simp [kFields], by kernel_rfl, by kernel_rfl, by kernel_rfl, by kernel_rfl, by kernel_rfl, by kernel_rfl, by kernel_rfl, by kernel_rfl, by kernel_rfl, by kernel_rfl⟩
    lst := by kernel_rfl
    lst1 := by kernel_rfl
    six := by kernel_rfl }
theorem gQ : Tryd.prog.globalNamed "transputer/depth.quiet" = some 0 := by kernel_rfl
theorem gQt : (Tryd.prog.globals[0]?).map (·.type) = some 43 := by kernel_rfl
theorem laid_eq : (Rows.laid_transputer_depth_quiet : DataW Unit) = .agg (((List.range 27).map fun (i : Nat) => quietB i).map fun z => .lit (.bool z)) := rfl
theorem quiet_of {W : World} (h : laidMetH Tryd.prog [("transputer/depth.quiet", Rows.laid_transputer_depth_quiet)] W) : atH (hOf W) 0 0 quietL := by
  have h : laidMet Tryd.prog [("transputer/depth.quiet", Rows.laid_transputer_depth_quiet)] W := h
  obtain ⟨cs, fuel, p, _, hd, hc⟩ := laid_head gQ gQt h
  rw [laid_eq] at hd
  have hcs := cells_of_bools (by kernel_rfl : Tryd.prog.underlying 43 = some (.array 27 4)) (by kernel_rfl) (by kernel_rfl) (by kernel_rfl) hd
  have hq : cs.toList = quietL := by rw [hcs]; rfl
  refine hOf_at (fun i _ => ?_) (allOne_mem (by rfl))
  rw [Nat.zero_add, hc i, ← Array.getElem?_toList, hq]

theorem open_arg {H : Type} {enc : TypeId × Value → H} {W : World} {base : Nat} {v : Value} {d : DataW H} {p : List MemPlace} (hval : Value.okWide Tryd.prog W .any base 27 v)
    (h : DataW.Trod enc Tryd.prog W 0 (fun _ => true) true 27 v d p) : ∃ e cs, v = .agg ⟨cs⟩ ∧ RK (hOf W) e cs := by
  obtain ⟨cs, rfl, _⟩ := okWide_struct kTypes.und hval
  obtain ⟨fuel, hf⟩ := h
  obtain ⟨e, he⟩ := open_ke kTypes fuel _ _ hf
  exact ⟨e, cs.toList, rfl, by simpa [Value.cells] using he⟩

noncomputable def laidWorld (os : Os) : World :=
  { World.holding Tryd.prog os ⟨#[], #[], []⟩ with heap := (World.holding Tryd.prog os ⟨#[], #[], []⟩).heap.modify 0 fun
      | .cells _ t frozen => .cells ⟨quietL⟩ t frozen
      | o => o }
def zeroE : Value := .agg #[.int .u8 0, .int .u8 0, .int .u8 0, .int .i32 0, .int .i64 0, .slice none 0 0]
def zeroD {H : Type} : DataW H := .agg [.lit (.int .u8 0), .lit (.int .u8 0), .lit (.int .u8 0), .lit (.int .i32 0), .lit (.int .i64 0), .nil]

/-! ### the statement of DepthExact -/
theorem exact_contract (H : Type) (enc : TypeId × Value → H) (W : World) (base : Nat) (args : Array Value) (ds gs : List (DataW H)) (before : List MemPlace)
    (hval : ∀ (j : Nat) t v, Tryd.f3.params[j]? = some t → args[j]? = some v → Value.okWide Tryd.prog W .any base t v)
    (hW : DataW.Whole enc Tryd.prog Tryd.f3.params.toList Rows.depthExactSpec.vars false W args.toList ds gs before) (hL : laidMetH Tryd.prog Rows.depthExactRow.laid W) :
    Calls Tryd.prog 3 args W fun e W' => ∃ v, e = .returned v ∧ Rows.depthExactSpec.post enc Tryd.prog Tryd.f3 false true false false W args v W' := by
  have hW' := hW
  obtain ⟨p, q, hA0, hV, rfl, hfz, hnd⟩ := hW
  have hA : DataW.TrodAll enc Tryd.prog W 0 (fun _ => true) true [27] args.toList ds p := hA0
  obtain ⟨v0, d0, rfl, rfl, h0⟩ := trodAll_one hA
  obtain ⟨rfl, rfl⟩ := trodVars_none hV
  obtain ⟨e, cs, rfl, he⟩ := open_arg (hval 0 27 v0 rfl rfl) h0
  exact calls_true laidOut (by kernel_rfl) (rfl : Tryd.f3.resultTypes = #[4]) (by kernel_rfl) rfl rfl hW' (hOf_st W) (exact_does W (hOf W) (quiet_of hL) [] e cs he)

theorem exact_laid (os : Os) : laidMet Tryd.prog Rows.depthExactRow.laid ((laidWorld os).forCall (fun _ _ => 0) ⟨#[], #[zeroE], []⟩).memory :=
  laidMet_of_run' 8 (by kernel_rfl) (by kernel_rfl)
theorem exact_reads (os : Os) {H : Type} (enc : TypeId × Value → H) : ∃ places, DataW.whole enc Tryd.prog ((laidWorld os).forCall (fun _ _ => 0) ⟨#[], #[zeroE], []⟩).memory Tryd.f3.params.toList Rows.depthExactSpec.vars false #[zeroE].toList 8 = some ([zeroD], [], places) :=
  ⟨[], by kernel_rfl⟩
theorem exact_lifted (os : Os) (started : os.Started) (H : Type) (enc : TypeId × Value → H) (F : Stop.Interp) :
    ReturnsInHanded {} Tryd.checked os 3 .any ((OpenSpec.ofChange Rows.depthExactSpec).preRow enc Tryd.prog Tryd.f3 Rows.depthExactRow.domain false Rows.depthExactRow.laid) (((OpenSpec.ofChange Rows.depthExactSpec).at F).post enc Tryd.prog Tryd.f3 false true false false) := by
  obtain ⟨places, hx⟩ := exact_reads os enc
  refine returnsInHanded_of_row (C := Tryd.checked) (s := OpenSpec.ofChange Rows.depthExactSpec) own started (by kernel_rfl) Tryd.func3
    (witness_row_at (enc := enc) (C := Tryd.checked) false (laidWorld os) #[zeroE] rfl (by kernel_rfl) (by kernel_rfl) (by kernel_rfl)
      (OpenSpec.preRow_of_cond 8 hx (by kernel_rfl) (fun k hk => by cases hk) (by kernel_rfl) (exact_laid os))) ?_
  intro W base args ds gs before hval hW _ _ _ hL _ _
  exact exact_contract H enc W base args ds gs before hval hW hL
theorem exact_said : Rows.DepthExactSaid :=
  OpenClaim.holds_of_cond 3 Tryd.f3 rfl rfl rfl rfl rfl rfl rfl ⟨rfl, rfl, rfl, rfl, rfl⟩ rfl rfl rfl rfl rfl (by kernel_rfl) Tryd.func3 (by kernel_rfl)
    (of_decide_eq_true (by kernel_rfl)) (by unfold Func.isWrapper; first | (rw [if_pos (by decide +kernel)]; kernel_rfl) | (rw [if_neg (by decide +kernel)]; exact ⟨rfl, rfl⟩))
    (fun os started H enc _ F => by rw [OpenClaim.pre_eq_preRow]; exact exact_lifted os started H enc F)
theorem exact_plain (f : FuncId) (fn : Func) (hf : Tryd.pinned.checked.prog.funcNamed "transputer/transputerlaw22.DepthExact" = some f) (hfn : Tryd.pinned.checked.prog.funcs[f]? = some fn) :
    false = Tryd.pinned.checked.prog.looks [] ∧ ∀ (j : Nat) t, fn.params[j]? = some t → Tryd.pinned.checked.prog.wantsStandIn t = false := by
  obtain rfl : f = 3 := Option.some.inj ((show Tryd.prog.funcNamed "transputer/transputerlaw22.DepthExact" = some 3 by kernel_rfl).symm.trans hf) |>.symm
  obtain rfl : fn = Tryd.f3 := (Option.some.inj (Tryd.func3.symm.trans hfn)).symm
  refine ⟨by kernel_rfl, fun j t ht => ?_⟩
  have ht : #[27][j]? = some t := ht
  obtain rfl : t = 27 := by simpa using Array.mem_of_getElem? ht
  exact (show Tryd.prog.wantsStandIn 27 = false by kernel_rfl)
/-- transputerlaw22.DepthExact: for every expression the law returns true, and the expression reads as it did. -/
theorem depthExact_holds : Rows.DepthExactCardSaid :=
  Claim7.holds_tied_plain_at .later [] _ _ _ _ exact_said (fun _ h => by cases h) (by kernel_rfl) (fun _ h => by cases h) depthExact_row_tie rfl ⟨rfl, rfl⟩ (by kernel_rfl) rfl exact_plain (by kernel_rfl)
#print axioms depthExact_holds
end Go.Proofs.YtppapfhfkkafdaaDoor
