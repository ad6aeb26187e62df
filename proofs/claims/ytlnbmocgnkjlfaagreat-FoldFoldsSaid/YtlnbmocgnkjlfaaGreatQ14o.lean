/-
  Layer 14: the law's small functions, its examples.
-/
import Derived.Test.YtlnbmocgnkjlfaaGreatQ14l
import Derived.Test.YtlnbmocgnkjlfaaGreatQ14n

namespace Go.Proofs.YtlnbmocgnkjlfaaGreat
open Go Go.Tp
set_option linter.unusedVariables false
set_option linter.unusedSimpArgs false
set_option maxRecDepth 100000
set_option maxHeartbeats 4000000

/-! ### expressions and specifications -/
abbrev numX (n : Int) : XE := ⟨1, 0, 0, n, [], []⟩
abbrev nameX (s : List UInt8) : XE := ⟨4, 0, 0, 0, s, []⟩
abbrev twoX (o : Int) (a b : XE) : XE := ⟨7, o, 0, 0, [], [a, b]⟩
abbrev sizeX (s : List UInt8) : XE := ⟨9, 0, 0, 0, s, []⟩
abbrev nilV : Value := .slice none 0 0
abbrev emptyV : Value := .string ⟨#[]⟩
/-- the fields of a specification that stay at zero -/
abbrev mkS (kind tk dim : Int) (names : List (List UInt8)) (e : XE) : SP := ⟨kind, tk, dim, 0, [], names, e, .bool false, nilV, nilV, nilV⟩
abbrev valS (s : List UInt8) (e : XE) : SP := mkS 2 1 0 [s] e
abbrev declS (s : List UInt8) (dim : Int) : SP := mkS 1 1 dim [s] ⟨0, 0, 0, 0, [], []⟩
theorem number_p (n : Int) : Pure Tryz.prog gs0 15 [AI32 n] (cellsX (numX n)) := by
  refine Pure.of (S := tt) (fn := Tryz.f15) (n := 5) tt_ok Tryz.func15 rfl rfl rfl rfl fun w0 h0 F hgs => ?_
  (repeat first|refine A.s rfl ?_|refine A.r rfl rfl ?_|refine A.w rfl rfl ?_|refine A.p rfl ?_|refine A.b rfl fun bx=>?_|refine A.t rfl fun bl=>?_); refine A.retC (Λ' := []) rfl rfl rfl rfl rfl (List.nil_sublist _) ⟨?_, rfl⟩; exact (by repeat (first | exact Sb.refl | exact SbL.refl | refine SbL.cons ?_ ?_ | exact Sb.nil | exact Sb.own1 | refine Sb.own ?_ | refine Sb.ag ?_ | refine Sb.tp ?_))
theorem nameX_p (s : List UInt8) : Pure Tryz.prog gs0 13 [AS s] (cellsX (nameX s)) := by
  refine Pure.of (S := tt) (fn := Tryz.f13) (n := 5) tt_ok Tryz.func13 rfl rfl rfl rfl fun w0 h0 F hgs => ?_
  (repeat first|refine A.s rfl ?_|refine A.r rfl rfl ?_|refine A.w rfl rfl ?_|refine A.p rfl ?_|refine A.b rfl fun bx=>?_|refine A.t rfl fun bl=>?_); refine A.retC (Λ' := []) rfl rfl rfl rfl rfl (List.nil_sublist _) ⟨?_, rfl⟩; exact (by repeat (first | exact Sb.refl | exact SbL.refl | refine SbL.cons ?_ ?_ | exact Sb.nil | exact Sb.own1 | refine Sb.own ?_ | refine Sb.ag ?_ | refine Sb.tp ?_))
theorem two_p (o : Int) (a b : XE) : Pure Tryz.prog gs0 16 [AU8 o, cellsX a, cellsX b] (cellsX (twoX o a b)) := by
  have h : encXl [a, b] = [cellsX a, cellsX b] := by rw [encXl, encXl, encXl, encX_eq a, encX_eq b]
  show Pure _ _ _ _ (.ag [AU8 7, AU8 o, AU8 0, AI32 0, AS [], .sl 6 (encXl [a, b]) none])
  rw [h]
  refine Pure.of (S := tt) (fn := Tryz.f16) (n := 12) tt_ok Tryz.func16 rfl rfl rfl rfl fun w0 h0 F hgs => ?_
  (repeat first|refine A.s rfl ?_|refine A.r rfl rfl ?_|refine A.w rfl rfl ?_|refine A.p rfl ?_|refine A.b rfl fun bx=>?_|refine A.t rfl fun bl=>?_); refine A.retC (Λ' := []) rfl rfl rfl rfl rfl (List.nil_sublist _) ⟨?_, rfl⟩; exact (by repeat (first | exact Sb.refl | exact SbL.refl | refine SbL.cons ?_ ?_ | exact Sb.nil | exact Sb.own1 | refine Sb.own ?_ | refine Sb.ag ?_ | refine Sb.tp ?_))
theorem valS_p (s : List UInt8) (e : XE) : Pure Tryz.prog gs0 14 [AS s, cellsX e] (encS (valS s e)) := by
  refine Pure.of (S := tt) (fn := Tryz.f14) (n := 10) tt_ok Tryz.func14 rfl rfl rfl rfl fun w0 h0 F hgs => ?_
  (repeat first|refine A.s rfl ?_|refine A.r rfl rfl ?_|refine A.w rfl rfl ?_|refine A.p rfl ?_|refine A.b rfl fun bx=>?_|refine A.t rfl fun bl=>?_)
  refine A.retC (Λ' := []) rfl rfl rfl rfl rfl (List.nil_sublist _) ⟨?_, rfl⟩; exact (by repeat (first | exact Sb.refl | exact SbL.refl | refine SbL.cons ?_ ?_ | exact Sb.nil | exact Sb.own1 | refine Sb.own ?_ | refine Sb.ag ?_ | refine Sb.tp ?_))
theorem declS_p (s : List UInt8) (d : Int) : Pure Tryz.prog gs0 19 [AS s, AI d] (encS (declS s d)) := by
  refine Pure.of (S := tt) (fn := Tryz.f19) (n := 10) tt_ok Tryz.func19 rfl rfl rfl rfl fun w0 h0 F hgs => ?_
  (repeat first|refine A.s rfl ?_|refine A.r rfl rfl ?_|refine A.w rfl rfl ?_|refine A.p rfl ?_|refine A.b rfl fun bx=>?_|refine A.t rfl fun bl=>?_); refine A.retC (Λ' := []) rfl rfl rfl rfl rfl (List.nil_sublist _) ⟨?_, rfl⟩; exact (by repeat (first | exact Sb.refl | exact SbL.refl | refine SbL.cons ?_ ?_ | exact Sb.nil | exact Sb.own1 | refine Sb.own ?_ | refine Sb.ag ?_ | refine Sb.tp ?_))
/-! ### a constant's value -/
def comesM (env : List SP) (e : XE) (w : Int) : Bool := (constE env e).1 == w && (constE env e).2 == 0
def failsM (env : List SP) (e : XE) : Bool := (constE env e).1 == 0 && (constE env e).2 == 140
theorem comes_p (m : Int) (env : List SP) (ok : SpecsOk env) (e : XE) (hw : wfX e) (w : Int) : Pure Tryz.prog (gsM m) 17 [cellsX e, specsA env, AI32 w] (AB (comesM env e w)) := by
  have hc := const_p m env ok e hw
  rw [encX_eq e] at hc
  refine Pure.of (S := tt) (fn := Tryz.f17) (n := 22) tt_ok Tryz.func17 rfl rfl rfl rfl fun w0 h0 F hgs => ?_
  (repeat first|refine A.s rfl ?_|refine A.r rfl rfl ?_|refine A.w rfl rfl ?_|refine A.p rfl ?_|refine A.b rfl fun bx=>?_|refine A.t rfl fun bl=>?_); refine A.c rfl hc .refl ?_
  (repeat' first|refine A.s rfl ?_|refine A.r rfl rfl ?_|refine A.w rfl rfl ?_|refine A.p rfl ?_|refine A.b rfl fun bx=>?_|refine A.t rfl fun bl=>?_|((fail_if_success (refine A.lit? rfl ?_)); refine A.gS rfl (fun hc => ?_) (fun hc => ?_))|((fail_if_success (refine A.litP? rfl ?_)); refine A.gSP rfl (fun hc => ?_) (fun hc => ?_)))
  all_goals (refine A.ret1 (Λ' := []) rfl rfl rfl (List.nil_sublist _) ⟨?_, rfl⟩; refine Sb.eq (ab_eq ?_); simp_all [comesM])
theorem fails_p (m : Int) (env : List SP) (ok : SpecsOk env) (e : XE) (hw : wfX e) : Pure Tryz.prog (gsM m) 18 [cellsX e, specsA env] (AB (failsM env e)) := by
  have hc := const_p m env ok e hw
  rw [encX_eq e] at hc
  refine Pure.of (S := tt) (fn := Tryz.f18) (n := 19) tt_ok Tryz.func18 rfl rfl rfl rfl fun w0 h0 F hgs => ?_
  (repeat first|refine A.s rfl ?_|refine A.r rfl rfl ?_|refine A.w rfl rfl ?_|refine A.p rfl ?_|refine A.b rfl fun bx=>?_|refine A.t rfl fun bl=>?_); refine A.c rfl hc .refl ?_
  (repeat' first|refine A.s rfl ?_|refine A.r rfl rfl ?_|refine A.w rfl rfl ?_|refine A.p rfl ?_|refine A.b rfl fun bx=>?_|refine A.t rfl fun bl=>?_|((fail_if_success (refine A.lit? rfl ?_)); refine A.gS rfl (fun hc => ?_) (fun hc => ?_))|((fail_if_success (refine A.litP? rfl ?_)); refine A.gSP rfl (fun hc => ?_) (fun hc => ?_)))
  all_goals (refine A.ret1 (Λ' := []) rfl rfl rfl (List.nil_sublist _) ⟨?_, rfl⟩; refine Sb.eq (ab_eq ?_); simp_all [failsM])
/-! ### how great an environment is -/
def great14 (env : List SP) : Bool := (env.take 200).any (fun x => decide (8 < x.names.length)) || decide (200 < env.length)
theorem great14_p (env : List SP) (hb : env.length ≤ 281474976710656) : Pure Tryz.prog gs0 5 [specsA env] (AB (great14 env)) := by
  have hle : (((env.map encS).length : Nat) : Int) = env.length := by rw [List.length_map]
  refine Pure.of (S := tt) (fn := Tryz.f5) (n := 21) tt_ok Tryz.func5 rfl rfl rfl rfl fun w0 h0 F hgs => ?_
  (repeat first|refine A.s rfl ?_|refine A.r rfl rfl ?_|refine A.w rfl rfl ?_|refine A.p rfl ?_|refine A.b rfl fun bx=>?_|refine A.t rfl fun bl=>?_)
  refine A.valE 6 rfl (x' := AI (((env.take 200).length : Nat) : Int)) (ai_eq ?_) ?_
  · rw [List.length_take]; show _ = ((min 200 env.length : Nat) : Int); simp; omega
  (repeat first|refine A.s rfl ?_|refine A.r rfl rfl ?_|refine A.w rfl rfl ?_|refine A.p rfl ?_|refine A.b rfl fun bx=>?_|refine A.t rfl fun bl=>?_)
  refine A.keep [0, 6, 7, 2] rfl ?_
  refine A.loopP (ι := Nat) (fun i => (⟨[(0, specsA env), (6, AI (((env.take 200).length : Nat) : Int)), (7, AI (i : Int)), (2, AB false)], []⟩, []))
    (fun i => i ≤ (env.take 200).length ∧ (env.take 200).any (fun x => decide (8 < x.names.length)) = ((env.take 200).drop i).any (fun x => decide (8 < x.names.length))) (fun i => (env.take 200).length - i) 0 ⟨Nat.zero_le _, rfl⟩ rfl fun i hi ih => ?_
  (repeat first|refine A.s rfl ?_|refine A.r rfl rfl ?_|refine A.w rfl rfl ?_|refine A.p rfl ?_|refine A.b rfl fun bx=>?_|refine A.t rfl fun bl=>?_)
  refine A.cond rfl (fun hc => ?_) (fun hc => ?_)
  · simp only [decide_eq_true_eq] at hc
    have hc : i < (env.take 200).length := by omega
    refine Exists.elim (at_exN (l := env.take 200) (i := i) hc) fun x hx => ?_
    have hx2 : env[i]? = some x := by
      rw [List.getElem?_take] at hx
      split at hx
      · exact hx
      · cases hx
    have h1 := hi.2
    rw [drop_at hx, List.any_cons] at h1
    (repeat first|refine A.s rfl ?_|refine A.r rfl rfl ?_|refine A.w rfl rfl ?_|refine A.p rfl ?_|refine A.b rfl fun bx=>?_|refine A.t rfl fun bl=>?_)
    refine A.x rfl (by omega) (map_at hx2) rfl rfl ?_
    (repeat first|refine A.s rfl ?_|refine A.r rfl rfl ?_|refine A.w rfl rfl ?_|refine A.p rfl ?_|refine A.b rfl fun bx=>?_|refine A.t rfl fun bl=>?_)
    ((fail_if_success (refine A.lit? rfl ?_)); refine A.gS rfl (fun hc => ?_) (fun hc => ?_))
    · have h8 : decide (8 < x.names.length) = true := by simp at hc; simp; omega
      rw [h8, Bool.true_or] at h1
      (repeat first|refine A.s rfl ?_|refine A.r rfl rfl ?_|refine A.w rfl rfl ?_|refine A.p rfl ?_|refine A.b rfl fun bx=>?_|refine A.t rfl fun bl=>?_); refine A.ret1 (Λ' := []) rfl rfl rfl (List.nil_sublist _) ⟨?_, rfl⟩; exact Sb.eq (ab_eq (by rw [great14, h1]; rfl))
    · have h8 : decide (8 < x.names.length) = false := by simp at hc; simp; omega
      rw [h8, Bool.false_or] at h1
      (repeat first|refine A.s rfl ?_|refine A.r rfl rfl ?_|refine A.w rfl rfl ?_|refine A.p rfl ?_|refine A.b rfl fun bx=>?_|refine A.t rfl fun bl=>?_)
      refine A.valE 7 rfl (x' := AI ((i + 1 : Nat) : Int)) (inc_eq i (by rw [List.length_take] at *; omega)) ?_
      refine A.sub (by repeat (first | exact trivial | refine ⟨⟨_, rfl, .refl⟩, ?_⟩)) (ih (i + 1) ⟨by omega, h1⟩ (by omega))
  · simp only [decide_eq_false_iff_not] at hc
    have h1 := hi.2
    rw [List.drop_eq_nil_of_le (by omega)] at h1
    (repeat first|refine A.s rfl ?_|refine A.r rfl rfl ?_|refine A.w rfl rfl ?_|refine A.p rfl ?_|refine A.b rfl fun bx=>?_|refine A.t rfl fun bl=>?_); refine A.ret1 (Λ' := []) rfl rfl rfl (List.nil_sublist _) ⟨?_, rfl⟩; refine Sb.eq (ab_eq ?_); rw [great14, h1, hle]; simp; omega
theorem great_ok {env : List SP} (h : great14 env = false) (hd : ∀ x, x ∈ env → i64 x.dim) (he : ∀ x, x ∈ env → wfX x.e) : SpecsOk env ∧ env.length ≤ 200 := by
  simp only [great14, Bool.or_eq_false_iff, decide_eq_false_iff_not] at h
  have hl : env.length ≤ 200 := by omega
  rw [List.take_of_length_le hl] at h
  refine ⟨⟨by omega, fun x hx => ?_, hd, he⟩, hl⟩
  have := List.any_eq_false.1 h.1 x hx
  simp at this; omega
end Go.Proofs.YtlnbmocgnkjlfaaGreat
