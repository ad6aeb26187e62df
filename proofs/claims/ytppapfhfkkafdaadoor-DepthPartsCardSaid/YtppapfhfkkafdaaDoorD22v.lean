/-
  Chapter 22: what the arguments and the laid table read as, over data.
-/
import Derived.Test.YtppapfhfkkafdaaDoorCards
import Derived.Test.YtppapfhfkkafdaaDoorTie
import Derived.Test.YtppapfhfkkafdaaDoorD22u
import Derived.Test.YtppapfhfkkafdaaDoorTqO

namespace Go.Proofs.YtppapfhfkkafdaaDoor
open Go Go.Tp Go.ChangeShapes Go.WideShapes Go.ChangeAt Go.RowKit
set_option linter.unusedVariables false
set_option linter.unusedSimpArgs false
set_option maxRecDepth 100000

theorem own : ownKnob Tryd.prog.godebug = none := by kernel_rfl
theorem laidOut : laidOutB Tryd.prog = true := by kernel_rfl
def kFields : Array Field := #[⟨"Kind", 22, 0, false, "", "", 0⟩, ⟨"Oper", 23, 1, false, "", "", 1⟩, ⟨"To", 24, 2, false, "", "", 2⟩, ⟨"N", 21, 3, false, "", "", 4⟩, ⟨"V", 3, 4, false, "", "", 8⟩, ⟨"L", 25, 5, false, "", "", 16⟩]
theorem gQ : Tryd.prog.globalNamed "transputer/depth.quiet" = some 0 := by kernel_rfl
theorem gQt : (Tryd.prog.globals[0]?).map (·.type) = some 43 := by kernel_rfl
theorem laid_eq : (Rows.laid_transputer_depth_quiet : DataW Unit) = .agg (((List.range 27).map fun (i : Nat) => quietB i).map fun z => .lit (.bool z)) := rfl
theorem quiet_of {W : World} (h : laidMetH Tryd.prog [("transputer/depth.quiet", Rows.laid_transputer_depth_quiet)] W) : atH (hOf W) 0 0 quietL := by
  have h : laidMet Tryd.prog [("transputer/depth.quiet", Rows.laid_transputer_depth_quiet)] W := h
  obtain ⟨cs, fuel, p, _, hd, hc⟩ := laid_head gQ gQt h
  rw [laid_eq] at hd
  have hcs := cells_of_bools (by kernel_rfl : Tryd.prog.underlying 43 = some (.array 27 4)) (by kernel_rfl) (by kernel_rfl) (by kernel_rfl) hd
  have hq : cs.toList = quietL := by rw [hcs]; rfl
  refine hOf_at (fun i _ => ?_) (allOne_mem (by rfl))
  rw [Nat.zero_add, hc i, ← Array.getElem?_toList, hq]
theorem gs_of {W : World} (h : laidMetH Tryd.prog [("transputer/depth.quiet", Rows.laid_transputer_depth_quiet)] W) : GsOk (hOf W) gsQ := fun g x hx => by
  have hq := quiet_of h
  simp only [gsQ, lookA] at hx
  split at hx
  · rename_i hb
    have hg := Nat.eq_of_beq_eq_true hb
    subst hg
    injection hx with hx
    subst hx
    rw [Rp_pe]
    exact ⟨0, 0, .agg ⟨quietL⟩, rfl, Rp_ag.2 ⟨quietL, rfl, RpC_v (by rfl)⟩, rfl, hq⟩
  · cases hx
noncomputable def laidWorld (os : Os) : World :=
  { World.holding Tryd.prog os ⟨#[], #[], []⟩ with heap := (World.holding Tryd.prog os ⟨#[], #[], []⟩).heap.modify 0 fun
      | .cells _ t frozen => .cells ⟨quietL⟩ t frozen
      | o => o }
section
variable {H : Type} {enc : TypeId × Value → H} {W : World} {base : Nat} {sp : Nat → Bool} {hd : Bool}
theorem wfKl_of : ∀ {l : List KE}, (∀ a, a ∈ l → wfK a) → wfKl l
  | [], _ => by rw [wfKl]; trivial
  | x :: r, h => by rw [wfKl]; exact ⟨h x (List.mem_cons_self ..), wfKl_of fun a ha => h a (List.mem_cons_of_mem _ ha)⟩
theorem open_kx (fuel : Nat) : ∀ (cs : List Value) (x : DataW H × List MemPlace), DataW.trod enc Tryd.prog W base sp hd fuel 27 cs = some x → Wt Tryd.prog 27 x.1 → ∃ e, wfK e ∧ Rp (hOf W) (encK e) (.agg ⟨cs⟩) ∧ allOne cs = true := by
  induction fuel using Nat.strongRecOn with
  | _ fuel ih =>
  intro cs x h hw
  obtain ⟨m, hm, hlen, hf⟩ := open_st (fs := kFields) (n := 6) (by kernel_rfl) (by kernel_rfl) h hw
  match cs, hlen with
  | [c0, c1, c2, c3, c4, c5], _ =>
  obtain ⟨y0, h0, w0⟩ := hf 0 _ rfl
  obtain ⟨y1, h1, w1⟩ := hf 1 _ rfl
  obtain ⟨y2, h2, w2⟩ := hf 2 _ rfl
  obtain ⟨y3, h3, w3⟩ := hf 3 _ rfl
  obtain ⟨y4, h4, w4⟩ := hf 4 _ rfl
  obtain ⟨y5, h5, w5⟩ := hf 5 _ rfl
  have e0 : Tryd.prog.cellsOf 22 = 1 := by kernel_rfl
  have e1 : Tryd.prog.cellsOf 23 = 1 := by kernel_rfl
  have e2 : Tryd.prog.cellsOf 24 = 1 := by kernel_rfl
  have e3 : Tryd.prog.cellsOf 21 = 1 := by kernel_rfl
  have e4 : Tryd.prog.cellsOf 3 = 1 := by kernel_rfl
  have e5 : Tryd.prog.cellsOf 25 = 1 := by kernel_rfl
  simp only [kFields, e0, e1, e2, e3, e4, e5, List.drop_succ_cons, List.drop_zero, List.take_succ_cons, List.take_zero] at h0 h1 h2 h3 h4 h5
  obtain ⟨k, a0, u0⟩ := open_u8 (by kernel_rfl) h0
  obtain ⟨o, a1, u1⟩ := open_u8 (by kernel_rfl) h1
  obtain ⟨t, a2, u2⟩ := open_u8 (by kernel_rfl) h2
  obtain ⟨n, a3, u3⟩ := open_i32 (by kernel_rfl) h3
  obtain ⟨v, a4, u4⟩ := open_i64 (by kernel_rfl) h4
  obtain ⟨c, l, a5, q5, r5, _⟩ := open_sl (e := 27) (sz := 6) (bt := 40) encK wfK (by kernel_rfl) (by kernel_rfl) (by kernel_rfl) (by decide)
    (fun m' hm' cs y hcs hy hwy => by
      obtain ⟨e, g1, g2, g3⟩ := ih m' (by omega) cs y hy hwy
      exact ⟨e, .agg ⟨cs⟩, g1, g2, by rw [cellsL_eq]; rfl, g3⟩) h5 w5
  injection a0 with a0; injection a1 with a1; injection a2 with a2; injection a3 with a3; injection a4 with a4; injection a5 with a5
  subst a0; subst a1; subst a2; subst a3; subst a4; subst a5
  refine ⟨⟨k, o, t, n, v, l⟩, by rw [wfK]; exact ⟨⟨u0, u1, u2, u3, u4⟩, wfKl_of q5⟩, ?_, ?_⟩
  · rw [encK, encKl_map, Rp_ag]
    refine ⟨_, rfl, ?_⟩
    rw [RpC_cons]; refine ⟨_, _, rfl, Rp_v.2 ⟨rfl, rfl⟩, ?_⟩
    rw [RpC_cons]; refine ⟨_, _, rfl, Rp_v.2 ⟨rfl, rfl⟩, ?_⟩
    rw [RpC_cons]; refine ⟨_, _, rfl, Rp_v.2 ⟨rfl, rfl⟩, ?_⟩
    rw [RpC_cons]; refine ⟨_, _, rfl, Rp_v.2 ⟨rfl, rfl⟩, ?_⟩
    rw [RpC_cons]; refine ⟨_, _, rfl, Rp_v.2 ⟨rfl, rfl⟩, ?_⟩
    rw [RpC_cons]; exact ⟨_, _, rfl, r5, by rw [RpC_nil]⟩
  · have := (Rp_sl.1 r5).choose_spec.choose_spec.1
    rw [this]; rfl
theorem arg27 {v : Value} {d : DataW H} {p : List MemPlace} (hval : Value.okWide Tryd.prog W .any base 27 v) (h : DataW.Trod enc Tryd.prog W 0 (fun _ => true) true 27 v d p) (hw : Wt Tryd.prog 27 d) :
    ∃ e, wfK e ∧ Rp (hOf W) (encK e) v := by
  obtain ⟨cs, rfl, _⟩ := okWide_struct (fs := kFields) (by kernel_rfl) hval
  obtain ⟨fuel, hf⟩ := h
  obtain ⟨e, h1, h2, _⟩ := open_kx fuel _ _ hf hw
  exact ⟨e, h1, h2⟩
theorem arg23 {v : Value} {d : DataW H} {p : List MemPlace} (hval : Value.okWide Tryd.prog W .any base 23 v) (h : DataW.Trod enc Tryd.prog W 0 (fun _ => true) true 23 v d p) (hw : Wt Tryd.prog 23 d) : ∃ n, u8 n ∧ Rp (hOf W) (AU8 n) v := by
  obtain ⟨m, rfl⟩ := okWide_int (k := .u8) (by kernel_rfl) hval
  obtain ⟨fuel, hf⟩ := h
  obtain ⟨n, h1, h2⟩ := open_u8 (by kernel_rfl) hf
  have h1 : [Value.int .u8 m] = [.int .u8 n] := h1
  injection h1 with h1
  rw [h1]
  exact ⟨n, h2, Rp_v.2 ⟨rfl, rfl⟩⟩
end
end Go.Proofs.YtppapfhfkkafdaaDoor
