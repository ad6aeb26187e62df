/-
  (TpO: the first world's cells, and what an argument reads as.)
-/
import Derived.Test.YtbbainjecjdkmaaTpK
import Derived.WalkKit
import Derived.OpenShut
import Derived.Deep.Slices
import Derived.ChangeArms
namespace Go.Tp
open Go Go.RowKit
set_option linter.unusedVariables false
set_option linter.unusedSimpArgs false

/-- all cells of a world, as they stand -/
def hOf (W : World) : GH := fun b o => match W.cell? ⟨b, o, none⟩ with
  | some v => if oneC v then some v else none
  | none => none
theorem hOf_eq {W : World} {b o : Nat} {v : Value} (hc : W.cell? ⟨b, o, none⟩ = some v) (h1 : oneC v = true) : hOf W b o = some v := by
  unfold hOf; rw [hc]; simp [h1]
theorem hOf_st (W : World) : St W (hOf W) [] W where
  below := Below.refl _ _
  imm b o v h := by
    unfold hOf at h
    split at h
    · rename_i u hu
      split at h
      · injection h with h; subst h; exact hu
      · cases h
    · cases h
  imm1 b o v h := by
    unfold hOf at h
    split at h
    · split at h
      · rename_i h1; injection h with h; subst h; exact h1
      · cases h
    · cases h
  own := by simp
  dis := List.Pairwise.nil
  frz := fun _ => rfl
theorem hOf_at {W : World} {b o : Nat} {cs : List Value} (hc : ∀ i, i < cs.length → W.cell? ⟨b, o + i, none⟩ = cs[i]?) (h1 : ∀ v, v ∈ cs → oneC v = true) : atH (hOf W) b o cs := fun i v hv => by
  have hi : i < cs.length := by
    rcases Nat.lt_or_ge i cs.length with h | h
    · exact h
    · rw [List.getElem?_eq_none h] at hv; cases hv
  exact hOf_eq ((hc i hi).trans hv) (h1 v (List.mem_of_getElem? hv))

/-! ### an expression, read -/
structure KTypes (P : Program) (tE tL : TypeId) (fs : Array Field) : Prop where
  und : P.underlying tE = some (.struct fs)
  fs6 : ∃ t0 t1 t2 t3 t4, (fs.map fun f => (f.type, f.offset)).toList = [(t0, 0), (t1, 1), (t2, 2), (t3, 3), (t4, 4), (tL, 5)] ∧
    P.underlying t0 = some (.int .u8) ∧ P.underlying t1 = some (.int .u8) ∧ P.underlying t2 = some (.int .u8) ∧ P.underlying t3 = some (.int .i32) ∧ P.underlying t4 = some (.int .i64) ∧
    P.cellsOf t0 = 1 ∧ P.cellsOf t1 = 1 ∧ P.cellsOf t2 = 1 ∧ P.cellsOf t3 = 1 ∧ P.cellsOf t4 = 1
  lst : P.underlying tL = some (.slice tE)
  lst1 : P.cellsOf tL = 1
  six : P.cellsOf tE = 6

section
variable {H : Type} {enc : TypeId × Value → H} {P : Program} {W : World} {base : Nat} {sp : Nat → Bool} {hd : Bool} {tE tL : TypeId} {fs : Array Field}
theorem wf_u8 {n : Int} (h : (Lit.int .u8 n).wf = true) : u8 n := by
  have e1 : IntKind.u8.min = 0 := by decide
  have e2 : IntKind.u8.max = 255 := by decide
  simp only [Lit.wf, e1, e2, Bool.and_eq_true, decide_eq_true_eq] at h; exact h
theorem wf_i32 {n : Int} (h : (Lit.int .i32 n).wf = true) : i32 n := by
  have e1 : IntKind.i32.min = -2147483648 := by decide
  have e2 : IntKind.i32.max = 2147483647 := by decide
  simp only [Lit.wf, e1, e2, Bool.and_eq_true, decide_eq_true_eq] at h; exact h
theorem wf_i64 {n : Int} (h : (Lit.int .i64 n).wf = true) : i64 n := by
  have e1 : IntKind.i64.min = -9223372036854775808 := by decide
  have e2 : IntKind.i64.max = 9223372036854775807 := by decide
  simp only [Lit.wf, e1, e2, Bool.and_eq_true, decide_eq_true_eq] at h; exact h

theorem RKl_of {h : GH} {b : Nat} : ∀ (m o : Nat), (∀ i, i < m → ∃ cs e, atH h b (o + i * 6) cs ∧ RK h e cs) → ∃ l : List KE, l.length = m ∧ RKl h l b o
  | 0, o, _ => ⟨[], rfl, trivial⟩
  | m + 1, o, hx => by
    obtain ⟨cs, e, h1, h2⟩ := hx 0 (by omega)
    obtain ⟨l, hl, hr⟩ := RKl_of m (o + 6) (fun i hi => by
      obtain ⟨cs, e, h1, h2⟩ := hx (i + 1) (by omega)
      exact ⟨cs, e, by rw [show o + 6 + i * 6 = o + (i + 1) * 6 by omega]; exact h1, h2⟩)
    refine ⟨e :: l, by simp [hl], ?_⟩
    simp only [RKl]
    exact ⟨⟨cs, by simpa using h1, h2⟩, hr⟩

theorem RK.one {h : GH} {e : KE} {cs : List Value} (r : RK h e cs) : ∀ v, v ∈ cs → oneC v = true := by
  obtain ⟨k, o, t, n, v, l⟩ := e
  simp only [RK] at r
  obtain ⟨_, a, cap, rfl, _⟩ := r
  intro v hv
  simp at hv
  rcases hv with rfl | rfl | rfl | rfl | rfl | rfl <;> rfl

theorem field_of {g : Field → TypeId × Nat} {l : List (TypeId × Nat)} (h : (fs.map g).toList = l) (i : Nat) {q : TypeId × Nat} (hq : l[i]? = some q) : ∃ f, fs[i]? = some f ∧ g f = q := by
  rw [← h, Array.getElem?_toList, Array.getElem?_map] at hq
  cases hf : fs[i]? with
  | none => rw [hf] at hq; cases hq
  | some f => rw [hf] at hq; exact ⟨f, rfl, Option.some.inj hq⟩

theorem open_ke (K : KTypes P tE tL fs) : ∀ (fuel : Nat) (cs : List Value) (x : DataW H × List MemPlace), DataW.trod enc P W base sp hd fuel tE cs = some x → ∃ e, RK (hOf W) e cs := by
  intro fuel
  induction fuel using Nat.strongRecOn with
  | _ fuel ih =>
    intro cs x h
    obtain ⟨xs, n, rfl, _, hlen, hxs, hf⟩ := DataW.trod_struct K.und h
    obtain ⟨t0, t1, t2, t3, t4, hfs, u0, u1, u2, u3, u4, c0, c1, c2, c3, c4⟩ := K.fs6
    rw [K.six] at hlen
    have hsz : fs.size = 6 := by
      have := congrArg List.length hfs
      simpa using this
    rw [hsz] at hxs
    match cs, hlen with
    | [v0, v1, v2, v3, v4, v5], _ =>
      have get : ∀ i, i < 6 → ∃ y, xs[i]? = some y := fun i hi => ⟨_, List.getElem?_eq_getElem (by omega)⟩
      obtain ⟨f0, e0, g0⟩ := field_of hfs 0 rfl
      obtain ⟨f1, e1, g1⟩ := field_of hfs 1 rfl
      obtain ⟨f2, e2, g2⟩ := field_of hfs 2 rfl
      obtain ⟨f3, e3, g3⟩ := field_of hfs 3 rfl
      obtain ⟨f4, e4, g4⟩ := field_of hfs 4 rfl
      obtain ⟨f5, e5, g5⟩ := field_of hfs 5 rfl
      injection g0 with g0 o0; injection g1 with g1 o1; injection g2 with g2 o2; injection g3 with g3 o3; injection g4 with g4 o4; injection g5 with g5 o5
      have h0 := hf 0 f0 e0; have h1 := hf 1 f1 e1; have h2 := hf 2 f2 e2; have h3 := hf 3 f3 e3; have h4 := hf 4 f4 e4; have h5 := hf 5 f5 e5
      rw [g0, o0, c0] at h0; rw [g1, o1, c1] at h1; rw [g2, o2, c2] at h2; rw [g3, o3, c3] at h3; rw [g4, o4, c4] at h4; rw [g5, o5, K.lst1] at h5
      obtain ⟨y0, q0⟩ := get 0 (by omega); obtain ⟨y1, q1⟩ := get 1 (by omega); obtain ⟨y2, q2⟩ := get 2 (by omega); obtain ⟨y3, q3⟩ := get 3 (by omega); obtain ⟨y4, q4⟩ := get 4 (by omega); obtain ⟨y5, q5⟩ := get 5 (by omega)
      rw [q0] at h0; rw [q1] at h1; rw [q2] at h2; rw [q3] at h3; rw [q4] at h4; rw [q5] at h5
      obtain ⟨n0, z0, _, w0⟩ := DataW.trod_int u0 h0
      obtain ⟨n1, z1, _, w1⟩ := DataW.trod_int u1 h1
      obtain ⟨n2, z2, _, w2⟩ := DataW.trod_int u2 h2
      obtain ⟨n3, z3, _, w3⟩ := DataW.trod_int u3 h3
      obtain ⟨n4, z4, _, w4⟩ := DataW.trod_int u4 h4
      simp at z0 z1 z2 z3 z4
      subst z0; subst z1; subst z2; subst z3; subst z4
      have hr : (u8 n0 ∧ u8 n1 ∧ u8 n2 ∧ i32 n3 ∧ i64 n4) := ⟨wf_u8 w0, wf_u8 w1, wf_u8 w2, wf_i32 w3, wf_i64 w4⟩
      rcases DataW.trod_slice K.lst h5 with ⟨z5, _⟩ | ⟨a, len, cap, elems, rest, m, hm, z5, _, hb, hl, hc, hel, hall, _⟩
      · simp at z5; subst z5
        refine ⟨⟨n0, n1, n2, n3, n4, []⟩, ?_⟩
        simp only [RK]
        exact ⟨hr, none, 0, rfl, Nat.le_refl _, fun g => (g rfl).elim⟩
      · simp at z5; subst z5
        have key : ∀ i, i < len → ∃ cs e, (∀ j, j < 6 → W.cell? ((a.add (i * 6)).add j) = cs[j]?) ∧ cs.length = 6 ∧ RK (hOf W) e cs := fun i hi => by
          have := hall i hi
          rw [K.six, List.getElem?_eq_getElem (by omega)] at this
          obtain ⟨cs', k1, k2⟩ := Option.bind_eq_some_iff.1 this
          obtain ⟨_, k3, k4⟩ := World.cells?_some k1
          obtain ⟨e, he⟩ := ih m (by omega) cs' _ k2
          exact ⟨cs', e, k4, k3, he⟩
        by_cases hz : len = 0
        · subst hz
          refine ⟨⟨n0, n1, n2, n3, n4, []⟩, ?_⟩
          simp only [RK]
          exact ⟨hr, some a, cap, rfl, hl, fun g => (g rfl).elim⟩
        · obtain ⟨b, off, spot⟩ := a
          have hspot : spot = none := by
            obtain ⟨cs', e, k1, k2, _⟩ := key 0 (by omega)
            have := k1 0 (by omega)
            rw [List.getElem?_eq_getElem (by omega)] at this
            simpa [Addr.add] using World.cell?_spot this
          subst hspot
          obtain ⟨l, hl1, hl2⟩ := RKl_of (h := hOf W) (b := b) len off (fun i hi => by
            obtain ⟨cs', e, k1, k2, k3⟩ := key i hi
            refine ⟨cs', e, hOf_at (fun j hj => ?_) k3.one, k3⟩
            have := k1 j (by omega)
            rwa [add_norm, add_norm] at this)
          refine ⟨⟨n0, n1, n2, n3, n4, l⟩, ?_⟩
          simp only [RK]
          exact ⟨hr, some ⟨b, off, none⟩, cap, by rw [hl1], by rw [hl1]; exact hl, fun _ => ⟨b, off, rfl, hl2⟩⟩
end
end Go.Tp
