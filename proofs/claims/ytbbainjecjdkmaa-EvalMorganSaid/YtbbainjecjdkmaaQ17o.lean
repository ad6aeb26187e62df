/-
  Chapter 17: what the arguments read as.
-/
import Derived.Test.YtbbainjecjdkmaaQ17d
import Derived.Test.YtbbainjecjdkmaaQ17g
import Derived.Test.YtbbainjecjdkmaaTqO

namespace Go.Proofs.Ytbbainjecjdkmaa
open Go Go.Tp Go.ChangeShapes Go.WideShapes Go.ChangeAt Go.RowKit
set_option linter.unusedVariables false
set_option linter.unusedSimpArgs false
set_option maxRecDepth 100000

theorem own : ownKnob Try.prog.godebug = none := by kernel_rfl
theorem laidOut : laidOutB Try.prog = true := by kernel_rfl
section
variable {H : Type} {enc : TypeId × Value → H} {W : World} {base : Nat} {sp : Nat → Bool} {hd : Bool}
def kFields : Array Field := #[⟨"Kind", 42, 0, false, "", "", 0⟩, ⟨"Oper", 43, 1, false, "", "", 1⟩, ⟨"To", 28, 2, false, "", "", 2⟩, ⟨"N", 21, 3, false, "", "", 4⟩, ⟨"V", 3, 4, false, "", "", 8⟩, ⟨"L", 30, 5, false, "", "", 16⟩]
theorem wfKl_of : ∀ {l : List KE}, (∀ a, a ∈ l → wfK a) → wfKl l
  | [], _ => trivial
  | x :: r, h => ⟨h x (List.mem_cons_self ..), wfKl_of fun a ha => h a (List.mem_cons_of_mem _ ha)⟩
theorem open_kx (fuel : Nat) : ∀ (cs : List Value) (x : DataW H × List MemPlace), DataW.trod enc Try.prog W base sp hd fuel 45 cs = some x → Wt Try.prog 45 x.1 → ∃ e, wfK e ∧ Rp (hOf W) (encK e) (.agg ⟨cs⟩) ∧ allOne cs = true := by
  induction fuel using Nat.strongRecOn with
  | _ fuel ih =>
  intro cs x h hw
  obtain ⟨m, hm, hlen, hf⟩ := open_st (fs := kFields) (n := 6) (by kernel_rfl) (by kernel_rfl) h hw
  match cs, hlen with
  | [c0, c1, c2, c3, c4, c5], _ =>
  obtain ⟨y0, h0, w0⟩ := hf 0 _ rfl
  obtain ⟨y1, h1, w1⟩ := hf 1 _ rfl
  obtain ⟨y2, h2, w2⟩ := hf 2 _ rfl
  obtain ⟨y3, h3, w3⟩ := hf 3 _ rfl
  obtain ⟨y4, h4, w4⟩ := hf 4 _ rfl
  obtain ⟨y5, h5, w5⟩ := hf 5 _ rfl
  have e0 : Try.prog.cellsOf 42 = 1 := by kernel_rfl
  have e1 : Try.prog.cellsOf 43 = 1 := by kernel_rfl
  have e2 : Try.prog.cellsOf 28 = 1 := by kernel_rfl
  have e3 : Try.prog.cellsOf 21 = 1 := by kernel_rfl
  have e4 : Try.prog.cellsOf 3 = 1 := by kernel_rfl
  have e5 : Try.prog.cellsOf 30 = 1 := by kernel_rfl
  simp only [kFields, e0, e1, e2, e3, e4, e5, List.drop_succ_cons, List.drop_zero, List.take_succ_cons, List.take_zero] at h0 h1 h2 h3 h4 h5
  obtain ⟨k, a0, u0⟩ := open_u8 (by kernel_rfl) h0
  obtain ⟨o, a1, u1⟩ := open_u8 (by kernel_rfl) h1
  obtain ⟨t, a2, u2⟩ := open_u8 (by kernel_rfl) h2
  obtain ⟨n, a3, u3⟩ := open_i32 (by kernel_rfl) h3
  obtain ⟨v, a4, u4⟩ := open_i64 (by kernel_rfl) h4
  obtain ⟨c, l, a5, q5, r5, _⟩ := open_sl (e := 45) (sz := 6) (bt := 40) encK wfK (by kernel_rfl) (by kernel_rfl) (by kernel_rfl) (by decide)
    (fun m' hm' cs y hcs hy hwy => by
      obtain ⟨e, g1, g2, g3⟩ := ih m' (by omega) cs y hy hwy
      exact ⟨e, .agg ⟨cs⟩, g1, g2, by rw [cellsL_eq]; rfl, g3⟩) h5 w5
  injection a0 with a0; injection a1 with a1; injection a2 with a2; injection a3 with a3; injection a4 with a4; injection a5 with a5
  subst a0; subst a1; subst a2; subst a3; subst a4; subst a5
  refine ⟨⟨k, o, t, n, v, l⟩, ⟨⟨u0, u1, u2, u3, u4⟩, wfKl_of q5⟩, ?_, ?_⟩
  · rw [encK, encKl_map, Rp_ag]
    refine ⟨_, rfl, ?_⟩
    rw [RpC_cons]; refine ⟨_, _, rfl, Rp_v.2 ⟨rfl, rfl⟩, ?_⟩
    rw [RpC_cons]; refine ⟨_, _, rfl, Rp_v.2 ⟨rfl, rfl⟩, ?_⟩
    rw [RpC_cons]; refine ⟨_, _, rfl, Rp_v.2 ⟨rfl, rfl⟩, ?_⟩
    rw [RpC_cons]; refine ⟨_, _, rfl, Rp_v.2 ⟨rfl, rfl⟩, ?_⟩
    rw [RpC_cons]; refine ⟨_, _, rfl, Rp_v.2 ⟨rfl, rfl⟩, ?_⟩
    rw [RpC_cons]; exact ⟨_, _, rfl, r5, by rw [RpC_nil]⟩
  · have := (Rp_sl.1 r5).choose_spec.choose_spec.1
    rw [this]; rfl
theorem open_row {fuel : Nat} {cs : List Value} {x : DataW H × List MemPlace} (h : DataW.trod enc Try.prog W base sp hd fuel 54 cs = some x) (hw : Wt Try.prog 54 x.1) :
    ∃ (v : Value) (r : List Int), cs = [v] ∧ (∀ a, a ∈ r → i32 a) ∧ Rp (hOf W) (rowA r) v ∧ r.length * 4 ≤ reachBytes :=
  open_sl (e := 21) (sz := 1) (bt := 4) AI32 i32 (by kernel_rfl) (by kernel_rfl) (by kernel_rfl) (by decide) (fun m' hm' cs y hcs hy hwy => by
    obtain ⟨n, rfl, hn⟩ := open_i32 (by kernel_rfl) hy
    exact ⟨n, .int .i32 n, hn, Rp_v.2 ⟨rfl, rfl⟩, by rw [cellsL_eq]; rfl, rfl⟩) h hw
theorem open_rows {fuel : Nat} {cs : List Value} {x : DataW H × List MemPlace} (h : DataW.trod enc Try.prog W base sp hd fuel 23 cs = some x) (hw : Wt Try.prog 23 x.1) :
    ∃ (v : Value) (s : List (List Int)), cs = [v] ∧ wfS s ∧ short s ∧ Rp (hOf W) (rowsA s) v ∧ ∀ r, r ∈ s → r.length ≤ 35184372088832 := by
  obtain ⟨v, s, h1, h2, h3, h4⟩ := open_sl (e := 54) (sz := 1) (bt := 24) rowA (fun r => (∀ a, a ∈ r → i32 a) ∧ r.length * 4 ≤ reachBytes) (by kernel_rfl) (by kernel_rfl) (by kernel_rfl) (by decide) (fun m' hm' cs y hcs hy hwy => by
    obtain ⟨v, r, rfl, g1, g2, g3⟩ := open_row hy hwy
    obtain ⟨a, cap, rfl, _⟩ := Rp_sl.1 g2
    exact ⟨r, _, ⟨g1, g3⟩, g2, by rw [cellsL_eq]; rfl, rfl⟩) h hw
  unfold reachBytes at h4 h2
  exact ⟨v, s, h1, fun r hr => (h2 r hr).1, ⟨by omega, fun r hr => by have := (h2 r hr).2; omega⟩, h3, fun r hr => by have := (h2 r hr).2; omega⟩
/-- the arguments of types 23 and 45 -/
theorem arg23 {v : Value} {d : DataW H} {p : List MemPlace} (hval : Value.okWide Try.prog W .any base 23 v) (h : DataW.Trod enc Try.prog W 0 (fun _ => true) true 23 v d p) (hw : Wt Try.prog 23 d) :
    ∃ s, wfS s ∧ short s ∧ Rp (hOf W) (rowsA s) v ∧ ∀ r, r ∈ s → r.length ≤ 35184372088832 := by
  obtain ⟨a, len, cap, rfl⟩ := okWide_slice (e := 54) (by kernel_rfl) hval
  obtain ⟨fuel, hf⟩ := h
  obtain ⟨v', s, h1, h2, h3, h4, h5⟩ := open_rows hf hw
  have h1 : [Value.slice a len cap] = [v'] := h1
  injection h1 with h1
  subst h1
  exact ⟨s, h2, h3, h4, h5⟩
theorem trodAll_five {t0 t1 t2 t3 t4 : TypeId} {P : Program} {w : World} {args : Array Value} {ds : List (DataW H)} {ps : List MemPlace} (h : DataW.TrodAll enc P w base sp hd [t0, t1, t2, t3, t4] args.toList ds ps) :
    ∃ v0 v1 v2 v3 v4 d0 d1 d2 d3 d4 p0 p1 p2 p3 p4, args = #[v0, v1, v2, v3, v4] ∧ ds = [d0, d1, d2, d3, d4] ∧ ps = p0 ++ (p1 ++ (p2 ++ (p3 ++ p4))) ∧ DataW.Trod enc P w base sp hd t0 v0 d0 p0 ∧ DataW.Trod enc P w base sp hd t1 v1 d1 p1 ∧
      DataW.Trod enc P w base sp hd t2 v2 d2 p2 ∧ DataW.Trod enc P w base sp hd t3 v3 d3 p3 ∧ DataW.Trod enc P w base sp hd t4 v4 d4 p4 := by
  obtain ⟨v0, vs, d0, ds1, p0, q0, e1, rfl, rfl, h0, hr⟩ := trodAll_cons h
  obtain ⟨v1, vs, d1, ds1, p1, q0, rfl, rfl, rfl, h1, hr⟩ := trodAll_cons hr
  obtain ⟨v2, vs, d2, ds1, p2, q0, rfl, rfl, rfl, h2, hr⟩ := trodAll_cons hr
  obtain ⟨v3, vs, d3, ds1, p3, q0, rfl, rfl, rfl, h3, hr⟩ := trodAll_cons hr
  obtain ⟨v4, vs, d4, ds1, p4, q0, rfl, rfl, rfl, h4, hr⟩ := trodAll_cons hr
  obtain ⟨rfl, rfl, rfl⟩ := trodAll_nil hr
  refine ⟨v0, v1, v2, v3, v4, d0, d1, d2, d3, d4, p0, p1, p2, p3, p4, ?_, rfl, by rw [List.append_nil], h0, h1, h2, h3, h4⟩
  cases args; simp only at e1; rw [e1]
theorem open_kxl {fuel : Nat} {cs : List Value} {x : DataW H × List MemPlace} (h : DataW.trod enc Try.prog W base sp hd fuel 30 cs = some x) (hw : Wt Try.prog 30 x.1) :
    ∃ (v : Value) (l : List KE), cs = [v] ∧ wfKl l ∧ Rp (hOf W) (.sl 6 (encKl l) none) v ∧ l.length ≤ 281474976710656 := by
  obtain ⟨v, l, h1, h2, h3, h4⟩ := open_sl (e := 45) (sz := 6) (bt := 40) encK wfK (by kernel_rfl) (by kernel_rfl) (by kernel_rfl) (by decide)
    (fun m' hm' cs y hcs hy hwy => by
      obtain ⟨e, g1, g2, g3⟩ := open_kx m' cs y hy hwy
      exact ⟨e, .agg ⟨cs⟩, g1, g2, by rw [cellsL_eq]; rfl, g3⟩) h hw
  unfold reachBytes at h4
  exact ⟨v, l, h1, wfKl_of h2, by rw [encKl_map]; exact h3, by omega⟩
def pFields : Array Field := #[⟨"V", 3, 0, false, "", "", 0⟩, ⟨"Index", 30, 1, false, "", "", 8⟩]
theorem arg50 {v : Value} {d : DataW H} {p : List MemPlace} (hval : Value.okWide Try.prog W .any base 50 v) (h : DataW.Trod enc Try.prog W 0 (fun _ => true) true 50 v d p) (hw : Wt Try.prog 50 d) :
    ∃ n l, wfKl l ∧ l.length ≤ 281474976710656 ∧ Rp (hOf W) (encP n l) v := by
  obtain ⟨cs, rfl, _⟩ := okWide_struct (fs := pFields) (by kernel_rfl) hval
  obtain ⟨fuel, hfu⟩ := h
  obtain ⟨m, hm, hlen, hf⟩ := open_st (fs := pFields) (n := 2) (by kernel_rfl) (by kernel_rfl) hfu hw
  obtain ⟨cs⟩ := cs
  match cs, hlen with
  | [c0, c1], _ =>
  obtain ⟨y0, h0, w0⟩ := hf 0 _ rfl
  obtain ⟨y1, h1, w1⟩ := hf 1 _ rfl
  have e0 : Try.prog.cellsOf 3 = 1 := by kernel_rfl
  have e1 : Try.prog.cellsOf 30 = 1 := by kernel_rfl
  simp only [Value.cells, pFields, e0, e1, List.drop_succ_cons, List.drop_zero, List.take_succ_cons, List.take_zero] at h0 h1
  obtain ⟨n, a0, u0⟩ := open_i64 (by kernel_rfl) h0
  obtain ⟨c, l, a1, q1, r1, b1⟩ := open_kxl h1 w1
  injection a0 with a0; injection a1 with a1
  subst a0; subst a1
  refine ⟨n, l, q1, b1, Rp_ag.2 ⟨_, rfl, ?_⟩⟩
  rw [RpC_cons]; refine ⟨_, _, rfl, Rp_v.2 ⟨rfl, rfl⟩, ?_⟩
  rw [RpC_cons]; exact ⟨_, _, rfl, r1, by rw [RpC_nil]⟩
theorem arg54 {v : Value} {d : DataW H} {p : List MemPlace} (hval : Value.okWide Try.prog W .any base 54 v) (h : DataW.Trod enc Try.prog W 0 (fun _ => true) true 54 v d p) (hw : Wt Try.prog 54 d) :
    ∃ l : List Int, (∀ a, a ∈ l → i32 a) ∧ l.length ≤ 35184372088832 ∧ Rp (hOf W) (rowA l) v := by
  obtain ⟨a, len, cap, rfl⟩ := okWide_slice (e := 21) (by kernel_rfl) hval
  obtain ⟨fuel, hf⟩ := h
  obtain ⟨v', s, h1, h2, h3, h4⟩ := open_row hf hw
  have h1 : [Value.slice a len cap] = [v'] := h1
  injection h1 with h1
  subst h1
  unfold reachBytes at h4
  exact ⟨s, h2, by omega, h3⟩
theorem arg5 {v : Value} {d : DataW H} {p : List MemPlace} (hval : Value.okWide Try.prog W .any base 5 v) (h : DataW.Trod enc Try.prog W 0 (fun _ => true) true 5 v d p) (hw : Wt Try.prog 5 d) : ∃ n, u8 n ∧ Rp (hOf W) (AU8 n) v := by
  obtain ⟨m, rfl⟩ := okWide_int (k := .u8) (by kernel_rfl) hval
  obtain ⟨fuel, hf⟩ := h
  obtain ⟨n, h1, h2⟩ := open_u8 (by kernel_rfl) hf
  have h1 : [Value.int .u8 m] = [.int .u8 n] := h1
  injection h1 with h1
  rw [h1]
  exact ⟨n, h2, Rp_v.2 ⟨rfl, rfl⟩⟩
theorem arg21 {v : Value} {d : DataW H} {p : List MemPlace} (hval : Value.okWide Try.prog W .any base 21 v) (h : DataW.Trod enc Try.prog W 0 (fun _ => true) true 21 v d p) (hw : Wt Try.prog 21 d) : ∃ n, i32 n ∧ Rp (hOf W) (AI32 n) v := by
  obtain ⟨m, rfl⟩ := okWide_int (k := .i32) (by kernel_rfl) hval
  obtain ⟨fuel, hf⟩ := h
  obtain ⟨n, h1, h2⟩ := open_i32 (by kernel_rfl) hf
  have h1 : [Value.int .i32 m] = [.int .i32 n] := h1
  injection h1 with h1
  rw [h1]
  exact ⟨n, h2, Rp_v.2 ⟨rfl, rfl⟩⟩
theorem arg3 {v : Value} {d : DataW H} {p : List MemPlace} (hval : Value.okWide Try.prog W .any base 3 v) (h : DataW.Trod enc Try.prog W 0 (fun _ => true) true 3 v d p) (hw : Wt Try.prog 3 d) : ∃ n, i64 n ∧ Rp (hOf W) (AI n) v := by
  obtain ⟨m, rfl⟩ := okWide_int (k := .i64) (by kernel_rfl) hval
  obtain ⟨fuel, hf⟩ := h
  obtain ⟨n, h1, h2⟩ := open_i64 (by kernel_rfl) hf
  have h1 : [Value.int .i64 m] = [.int .i64 n] := h1
  injection h1 with h1
  rw [h1]
  exact ⟨n, h2, Rp_v.2 ⟨rfl, rfl⟩⟩
def vFields : Array Field := #[⟨"Kind", 28, 0, false, "", "", 0⟩, ⟨"Dim", 3, 1, false, "", "", 8⟩]
theorem arg22 {v : Value} {d : DataW H} {p : List MemPlace} (hval : Value.okWide Try.prog W .any base 22 v) (h : DataW.Trod enc Try.prog W 0 (fun _ => true) true 22 v d p) (hw : Wt Try.prog 22 d) :
    ∃ l : List KV, l.length ≤ 281474976710656 ∧ Rp (hOf W) (varsA l) v := by
  obtain ⟨a, len, cap, rfl⟩ := okWide_slice (e := 69) (by kernel_rfl) hval
  obtain ⟨fuel, hf⟩ := h
  obtain ⟨v', l, h1, h2, h3, h4⟩ := open_sl (e := 69) (sz := 2) (bt := 16) encV (fun _ => True) (by kernel_rfl) (by kernel_rfl) (by kernel_rfl) (by decide) (fun m' hm' cs y hcs hy hwy => by
    obtain ⟨m, hm, hlen, hf⟩ := open_st (fs := vFields) (n := 2) (by kernel_rfl) (by kernel_rfl) hy hwy
    match cs, hlen with
    | [c0, c1], _ =>
    obtain ⟨y0, h0, w0⟩ := hf 0 _ rfl
    obtain ⟨y1, h1, w1⟩ := hf 1 _ rfl
    have e0 : Try.prog.cellsOf 28 = 1 := by kernel_rfl
    have e1 : Try.prog.cellsOf 3 = 1 := by kernel_rfl
    simp only [vFields, e0, e1, List.drop_succ_cons, List.drop_zero, List.take_succ_cons, List.take_zero] at h0 h1
    obtain ⟨k, a0, u0⟩ := open_u8 (by kernel_rfl) h0
    obtain ⟨n, a1, u1⟩ := open_i64 (by kernel_rfl) h1
    injection a0 with a0; injection a1 with a1
    subst a0; subst a1
    refine ⟨⟨k, n⟩, .agg ⟨[_, _]⟩, trivial, ?_, by rw [cellsL_eq]; rfl, rfl⟩
    rw [Rp_ag]
    refine ⟨_, rfl, ?_⟩
    rw [RpC_cons]; refine ⟨_, _, rfl, Rp_v.2 ⟨rfl, rfl⟩, ?_⟩
    rw [RpC_cons]; exact ⟨_, _, rfl, Rp_v.2 ⟨rfl, rfl⟩, by rw [RpC_nil]⟩) hf hw
  unfold reachBytes at h4
  have h1 : [Value.slice a len cap] = [v'] := h1
  injection h1 with h1
  subst h1
  exact ⟨l, by omega, h3⟩
theorem arg45 {v : Value} {d : DataW H} {p : List MemPlace} (hval : Value.okWide Try.prog W .any base 45 v) (h : DataW.Trod enc Try.prog W 0 (fun _ => true) true 45 v d p) (hw : Wt Try.prog 45 d) :
    ∃ e, wfK e ∧ Rp (hOf W) (encK e) v := by
  obtain ⟨cs, rfl, _⟩ := okWide_struct (fs := kFields) (by kernel_rfl) hval
  obtain ⟨fuel, hf⟩ := h
  obtain ⟨e, h1, h2, _⟩ := open_kx fuel _ _ hf hw
  exact ⟨e, h1, h2⟩
end
end Go.Proofs.Ytbbainjecjdkmaa
