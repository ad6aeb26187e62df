/-
  Chapter 14: FoldShadows.
-/
import Derived.Test.YtlnbmocgnkjlfaaQ14p

namespace Go.Proofs.Ytlnbmocgnkjlfaa
open Go Go.Tp
set_option linter.unusedVariables false
set_option linter.unusedSimpArgs false
set_option maxRecDepth 100000
set_option maxHeartbeats 4000000

abbrev overS (kind dim w : Int) : SP := mkS kind 1 dim [[97], [120]] (numX w)
abbrev envS (v w kind dim : Int) : List SP := [valS [120] (numX v), valS [121] (numX w), overS kind dim w]
theorem num_valid (v : Int) : validX (numX v) := by
  refine ⟨?_, ?_, ?_⟩
  · simp [fineX, shapeX, partsM, fineXl]
  · simp [szX, szXl]
  · simp [htX, htXl]
theorem valX_num (env : List SP) (vals : List (Int × Bool)) (n : Int) : valX env vals (numX n) = (n, true) := by rw [valX_eq]; exact if_pos (.inl rfl)
theorem valX_name (env : List SP) (vals : List (Int × Bool)) (s : List UInt8) : valX env vals (nameX s) = if 0 ≤ findB env s env.length then vals[(findB env s env.length).toNat]?.getD (0, false) else (0, false) := by
  rw [valX]; rfl
theorem vals_S (v w kind dim : Int) : valsP (envS v w kind dim) 3 = [(v, true), (w, true), if kind = 2 then (w, true) else (0, false)] := by
  simp only [valsP, stepV, envS, List.getElem?_cons_zero, List.getElem?_cons_succ, valX_num, List.nil_append, List.cons_append, List.append_assoc]
  have h1 := num_valid v
  have h2 := num_valid w
  simp [h1, h2]
theorem name_valid {s : List UInt8} (h : nameB s = true) : validX (nameX s) := by
  refine ⟨?_, ?_, ?_⟩
  · simp only [fineX, fineXl, shapeX, Bool.and_true, Bool.and_eq_true]
    refine ⟨?_, ?_⟩
    · show (partsM 4 0 0 0 s).2 = true
      simp [partsM, h]
    · show decide (((0 : Nat) : Int) = (partsM 4 0 0 0 s).1) = true
      simp [partsM, h]
  · simp [szX, szXl]
  · simp [htX, htXl]
theorem size_valid {s : List UInt8} (h : nameB s = true) : validX (sizeX s) := by
  refine ⟨?_, ?_, ?_⟩
  · simp only [fineX, fineXl, shapeX, Bool.and_true, Bool.and_eq_true]
    refine ⟨?_, ?_⟩
    · show (partsM 9 0 0 0 s).2 = true
      simp [partsM, h]
    · show decide (((0 : Nat) : Int) = (partsM 9 0 0 0 s).1) = true
      simp [partsM, h]
  · simp [szX, szXl]
  · simp [htX, htXl]
section
variable (v w kind dim : Int)
theorem S_x : constE (envS v w kind dim) (nameX [120]) = if kind = 2 then (w, 0) else (0, 140) := by
  rw [constE, if_pos (name_valid (by decide +kernel)), valE, valX_name, show findB (envS v w kind dim) [120] (envS v w kind dim).length = 2 from rfl, show (envS v w kind dim).length = 3 from rfl, vals_S]
  by_cases h : kind = 2 <;> simp [h]
theorem S_a : constE (envS v w kind dim) (nameX [97]) = if kind = 2 then (w, 0) else (0, 140) := by
  rw [constE, if_pos (name_valid (by decide +kernel)), valE, valX_name, show findB (envS v w kind dim) [97] (envS v w kind dim).length = 2 from rfl, show (envS v w kind dim).length = 3 from rfl, vals_S]
  by_cases h : kind = 2 <;> simp [h]
theorem S_y : constE (envS v w kind dim) (nameX [121]) = (w, 0) := by
  rw [constE, if_pos (name_valid (by decide +kernel)), valE, valX_name, show findB (envS v w kind dim) [121] (envS v w kind dim).length = 1 from rfl, show (envS v w kind dim).length = 3 from rfl, vals_S]
  simp
theorem S_z : constE (envS v w kind dim) (nameX [122]) = (0, 140) := by
  rw [constE, if_pos (name_valid (by decide +kernel)), valE, valX_name, show findB (envS v w kind dim) [122] (envS v w kind dim).length = -1 from rfl]
  simp
theorem S_s (hd : i64 dim) : constE (envS v w kind dim) (sizeX [120]) = if kind = 1 ∧ 0 < dim ∧ dim ≤ 2147483647 then (dim, 0) else (0, 140) := by
  rw [constE, if_pos (size_valid (by decide +kernel)), valE]
  have hx : valX (envS v w kind dim) (valsP (envS v w kind dim) (envS v w kind dim).length) (sizeX [120]) = dimV (overS kind dim w) := by
    rw [valX]; rfl
  have hdv : dimV (overS kind dim w) = if kind = 1 ∧ 0 < dim ∧ dim ≤ 2147483647 then (dim, true) else (0, false) := by
    unfold dimV
    show (if kind = 1 then knownM (w32 dim, decide (0 < w32 dim) && w32 dim == dim) else (0, false)) = _
    by_cases h1 : kind = 1
    · rw [if_pos h1]
      unfold knownM
      by_cases h2 : 0 < dim ∧ dim ≤ 2147483647
      · have e : w32 dim = dim := w32_id (by unfold i32; omega)
        rw [if_pos (show kind = 1 ∧ 0 < dim ∧ dim ≤ 2147483647 from ⟨h1, h2⟩)]
        simp [e, h2]
      · rw [if_neg (show ¬ (kind = 1 ∧ 0 < dim ∧ dim ≤ 2147483647) from fun h => h2 h.2)]
        have hf : (decide (0 < w32 dim) && w32 dim == dim) = false := by
          have := w32_in dim
          unfold i32 at this
          rw [Bool.and_eq_false_iff]
          by_cases h3 : w32 dim = dim
          · left; simp; have h3' : IntKind.i32.wrap dim = dim := h3; omega
          · right; simpa using h3
        simp [hf]
    · rw [if_neg h1, if_neg (fun h => h1 h.1)]
  rw [hx, hdv]
  by_cases hc : kind = 1 ∧ 0 < dim ∧ dim ≤ 2147483647
  · rw [if_pos hc, if_pos hc]; rfl
  · rw [if_neg hc, if_neg hc]; rfl
theorem S_ok (hv : i32 v) (hw : i32 w) (hd : i64 dim) : SpecsOk (envS v w kind dim) := env_ok (by show 3 ≤ 200; decide) (by
  intro x hx
  simp only [envS, List.mem_cons, List.not_mem_nil, or_false] at hx
  have h0 : i64 (0 : Int) := by unfold i64; omega
  rcases hx with rfl | rfl | rfl
  · exact ⟨by show 1 ≤ 8; decide, h0, by simp [wfX, wfXl, u8, hv]⟩
  · exact ⟨by show 1 ≤ 8; decide, h0, by simp [wfX, wfXl, u8, hw]⟩
  · exact ⟨by show 2 ≤ 8; decide, hd, by simp [wfX, wfXl, u8, hw]⟩)
theorem shadows_law (m : Int) (hv : i32 v) (hw : i32 w) (hk : u8 kind) (hd : i64 dim) : Pure Try.prog (gsM m) 7 [AI32 v, AI32 w, AU8 kind, AI dim] (AB true) := by
  have ok := S_ok v w kind dim hv hw hd
  have aw := awake_p m
  have nm := fun n => (number_p n).any (gs := gsM m)
  have na := fun s => (nameX_p s).any (gs := gsM m)
  have vl := fun s e => (valS_p s e).any (gs := gsM m)
  have cs := const_p m _ ok (sizeX [120]) (by simp [wfX, wfXl, u8, i32])
  have cx := comes_p m _ ok (nameX [120]) (by simp [wfX, wfXl, u8, i32]) w
  have ca := comes_p m _ ok (nameX [97]) (by simp [wfX, wfXl, u8, i32]) w
  have cy := comes_p m _ ok (nameX [121]) (by simp [wfX, wfXl, u8, i32]) w
  have fx := fails_p m _ ok (nameX [120]) (by simp [wfX, wfXl, u8, i32])
  have fa := fails_p m _ ok (nameX [97]) (by simp [wfX, wfXl, u8, i32])
  have fz := fails_p m _ ok (nameX [122]) (by simp [wfX, wfXl, u8, i32])
  rw [S_s v w kind dim hd, encX_eq] at cs
  rw [show comesM (envS v w kind dim) (nameX [121]) w = true by simp [comesM, S_y]] at cy
  rw [show failsM (envS v w kind dim) (nameX [122]) = true by simp [failsM, S_z]] at fz
  by_cases h2 : kind = 2
  · rw [show comesM (envS v w kind dim) (nameX [120]) w = true by simp [comesM, S_x, h2]] at cx
    rw [show comesM (envS v w kind dim) (nameX [97]) w = true by simp [comesM, S_a, h2]] at ca
    rw [if_neg (by omega)] at cs
    clear fx fa
    refine Pure.of (S := tt) (fn := Try.f7) (n := 107) tt_ok Try.func7 rfl rfl rfl rfl fun w0 h0 F hgs => ?_
    (repeat first|refine A.s rfl ?_|refine A.r rfl rfl ?_|refine A.w rfl rfl ?_|refine A.p rfl ?_|refine A.b rfl fun bx=>?_|refine A.t rfl fun bl=>?_); refine A.c rfl (nm v) .refl ?_
    refine A.c rfl (vl [120] (numX v)) .refl ?_
    (repeat first|refine A.s rfl ?_|refine A.r rfl rfl ?_|refine A.w rfl rfl ?_|refine A.p rfl ?_|refine A.b rfl fun bx=>?_|refine A.t rfl fun bl=>?_); refine A.c rfl (nm w) .refl ?_
    refine A.c rfl (vl [121] (numX w)) .refl ?_
    (repeat first|refine A.s rfl ?_|refine A.r rfl rfl ?_|refine A.w rfl rfl ?_|refine A.p rfl ?_|refine A.b rfl fun bx=>?_|refine A.t rfl fun bl=>?_); refine A.c rfl (nm w) .refl ?_
    (repeat first|refine A.s rfl ?_|refine A.r rfl rfl ?_|refine A.w rfl rfl ?_|refine A.p rfl ?_|refine A.b rfl fun bx=>?_|refine A.t rfl fun bl=>?_); refine A.c rfl cs (by repeat (first | exact Sb.refl | exact SbL.refl | refine SbL.cons ?_ ?_ | exact Sb.nil | exact Sb.own1 | refine Sb.own ?_ | refine Sb.ag ?_ | refine Sb.tp ?_)) ?_
    (repeat first|refine A.s rfl ?_|refine A.r rfl rfl ?_|refine A.w rfl rfl ?_|refine A.p rfl ?_|refine A.b rfl fun bx=>?_|refine A.t rfl fun bl=>?_); refine A.gF rfl (by simp [h2]) ?_
    (repeat first|refine A.s rfl ?_|refine A.r rfl rfl ?_|refine A.w rfl rfl ?_|refine A.p rfl ?_|refine A.b rfl fun bx=>?_|refine A.t rfl fun bl=>?_); refine A.gT rfl (by simp [h2]) ?_
    (repeat first|refine A.s rfl ?_|refine A.r rfl rfl ?_|refine A.w rfl rfl ?_|refine A.p rfl ?_|refine A.b rfl fun bx=>?_|refine A.t rfl fun bl=>?_); refine A.c rfl (na [120]) .refl ?_
    (repeat first|refine A.s rfl ?_|refine A.r rfl rfl ?_|refine A.w rfl rfl ?_|refine A.p rfl ?_|refine A.b rfl fun bx=>?_|refine A.t rfl fun bl=>?_); refine A.c rfl cx (by repeat (first | exact Sb.refl | exact SbL.refl | refine SbL.cons ?_ ?_ | exact Sb.nil | exact Sb.own1 | refine Sb.own ?_ | refine Sb.ag ?_ | refine Sb.tp ?_)) ?_
    (repeat first|refine A.s rfl ?_|refine A.r rfl rfl ?_|refine A.w rfl rfl ?_|refine A.p rfl ?_|refine A.b rfl fun bx=>?_|refine A.t rfl fun bl=>?_); refine A.c rfl (na [97]) .refl ?_
    (repeat first|refine A.s rfl ?_|refine A.r rfl rfl ?_|refine A.w rfl rfl ?_|refine A.p rfl ?_|refine A.b rfl fun bx=>?_|refine A.t rfl fun bl=>?_); refine A.c rfl ca (by repeat (first | exact Sb.refl | exact SbL.refl | refine SbL.cons ?_ ?_ | exact Sb.nil | exact Sb.own1 | refine Sb.own ?_ | refine Sb.ag ?_ | refine Sb.tp ?_)) ?_
    (repeat first|refine A.s rfl ?_|refine A.r rfl rfl ?_|refine A.w rfl rfl ?_|refine A.p rfl ?_|refine A.b rfl fun bx=>?_|refine A.t rfl fun bl=>?_); refine A.c rfl (na [121]) .refl ?_
    (repeat first|refine A.s rfl ?_|refine A.r rfl rfl ?_|refine A.w rfl rfl ?_|refine A.p rfl ?_|refine A.b rfl fun bx=>?_|refine A.t rfl fun bl=>?_); refine A.c rfl cy (by repeat (first | exact Sb.refl | exact SbL.refl | refine SbL.cons ?_ ?_ | exact Sb.nil | exact Sb.own1 | refine Sb.own ?_ | refine Sb.ag ?_ | refine Sb.tp ?_)) ?_
    (repeat first|refine A.s rfl ?_|refine A.r rfl rfl ?_|refine A.w rfl rfl ?_|refine A.p rfl ?_|refine A.b rfl fun bx=>?_|refine A.t rfl fun bl=>?_); refine A.c rfl aw (by repeat (first | exact Sb.refl | exact SbL.refl | refine SbL.cons ?_ ?_ | exact Sb.nil | exact Sb.own1 | refine Sb.own ?_ | refine Sb.ag ?_ | refine Sb.tp ?_)) ?_
    (repeat first|refine A.s rfl ?_|refine A.r rfl rfl ?_|refine A.w rfl rfl ?_|refine A.p rfl ?_|refine A.b rfl fun bx=>?_|refine A.t rfl fun bl=>?_); refine A.ret1 (Λ' := []) rfl rfl rfl (List.nil_sublist _) ⟨?_, rfl⟩; exact .refl
  · rw [show failsM (envS v w kind dim) (nameX [120]) = true by simp [failsM, S_x, h2]] at fx
    rw [show failsM (envS v w kind dim) (nameX [97]) = true by simp [failsM, S_a, h2]] at fa
    by_cases h1 : kind = 1 ∧ 0 < dim ∧ dim ≤ 2147483647
    · rw [if_pos h1] at cs
      have e : IntKind.i32.wrap dim = dim := w32_id (by unfold i32; omega)
      refine Pure.of (S := tt) (fn := Try.f7) (n := 107) tt_ok Try.func7 rfl rfl rfl rfl fun w0 h0 F hgs => ?_
      (repeat first|refine A.s rfl ?_|refine A.r rfl rfl ?_|refine A.w rfl rfl ?_|refine A.p rfl ?_|refine A.b rfl fun bx=>?_|refine A.t rfl fun bl=>?_); refine A.c rfl (nm v) .refl ?_
      refine A.c rfl (vl [120] (numX v)) .refl ?_
      (repeat first|refine A.s rfl ?_|refine A.r rfl rfl ?_|refine A.w rfl rfl ?_|refine A.p rfl ?_|refine A.b rfl fun bx=>?_|refine A.t rfl fun bl=>?_); refine A.c rfl (nm w) .refl ?_
      refine A.c rfl (vl [121] (numX w)) .refl ?_
      (repeat first|refine A.s rfl ?_|refine A.r rfl rfl ?_|refine A.w rfl rfl ?_|refine A.p rfl ?_|refine A.b rfl fun bx=>?_|refine A.t rfl fun bl=>?_); refine A.c rfl (nm w) .refl ?_
      (repeat first|refine A.s rfl ?_|refine A.r rfl rfl ?_|refine A.w rfl rfl ?_|refine A.p rfl ?_|refine A.b rfl fun bx=>?_|refine A.t rfl fun bl=>?_); refine A.c rfl cs (by repeat (first | exact Sb.refl | exact SbL.refl | refine SbL.cons ?_ ?_ | exact Sb.nil | exact Sb.own1 | refine Sb.own ?_ | refine Sb.ag ?_ | refine Sb.tp ?_)) ?_
      (repeat first|refine A.s rfl ?_|refine A.r rfl rfl ?_|refine A.w rfl rfl ?_|refine A.p rfl ?_|refine A.b rfl fun bx=>?_|refine A.t rfl fun bl=>?_); refine A.gT rfl (by simp [h1.1]) ?_
      (repeat first|refine A.s rfl ?_|refine A.r rfl rfl ?_|refine A.w rfl rfl ?_|refine A.p rfl ?_|refine A.b rfl fun bx=>?_|refine A.t rfl fun bl=>?_); refine A.gT rfl (by simp [h1.2.1]) ?_
      (repeat first|refine A.s rfl ?_|refine A.r rfl rfl ?_|refine A.w rfl rfl ?_|refine A.p rfl ?_|refine A.b rfl fun bx=>?_|refine A.t rfl fun bl=>?_); refine A.gT rfl (by simp [h1.2.2]) ?_
      (repeat first|refine A.s rfl ?_|refine A.r rfl rfl ?_|refine A.w rfl rfl ?_|refine A.p rfl ?_|refine A.b rfl fun bx=>?_|refine A.t rfl fun bl=>?_); refine A.gF rfl (by show (dim != IntKind.i32.wrap dim) = false; rw [e]; simp) ?_
      (repeat first|refine A.s rfl ?_|refine A.r rfl rfl ?_|refine A.w rfl rfl ?_|refine A.p rfl ?_|refine A.b rfl fun bx=>?_|refine A.t rfl fun bl=>?_); refine A.gF rfl (by simp [h2]) ?_
      (repeat first|refine A.s rfl ?_|refine A.r rfl rfl ?_|refine A.w rfl rfl ?_|refine A.p rfl ?_|refine A.b rfl fun bx=>?_|refine A.t rfl fun bl=>?_); refine A.c rfl (na [120]) .refl ?_
      (repeat first|refine A.s rfl ?_|refine A.r rfl rfl ?_|refine A.w rfl rfl ?_|refine A.p rfl ?_|refine A.b rfl fun bx=>?_|refine A.t rfl fun bl=>?_); refine A.c rfl fx (by repeat (first | exact Sb.refl | exact SbL.refl | refine SbL.cons ?_ ?_ | exact Sb.nil | exact Sb.own1 | refine Sb.own ?_ | refine Sb.ag ?_ | refine Sb.tp ?_)) ?_
      (repeat first|refine A.s rfl ?_|refine A.r rfl rfl ?_|refine A.w rfl rfl ?_|refine A.p rfl ?_|refine A.b rfl fun bx=>?_|refine A.t rfl fun bl=>?_); refine A.c rfl (na [97]) .refl ?_
      (repeat first|refine A.s rfl ?_|refine A.r rfl rfl ?_|refine A.w rfl rfl ?_|refine A.p rfl ?_|refine A.b rfl fun bx=>?_|refine A.t rfl fun bl=>?_); refine A.c rfl fa (by repeat (first | exact Sb.refl | exact SbL.refl | refine SbL.cons ?_ ?_ | exact Sb.nil | exact Sb.own1 | refine Sb.own ?_ | refine Sb.ag ?_ | refine Sb.tp ?_)) ?_
      (repeat first|refine A.s rfl ?_|refine A.r rfl rfl ?_|refine A.w rfl rfl ?_|refine A.p rfl ?_|refine A.b rfl fun bx=>?_|refine A.t rfl fun bl=>?_); refine A.c rfl (na [121]) .refl ?_
      (repeat first|refine A.s rfl ?_|refine A.r rfl rfl ?_|refine A.w rfl rfl ?_|refine A.p rfl ?_|refine A.b rfl fun bx=>?_|refine A.t rfl fun bl=>?_); refine A.c rfl cy (by repeat (first | exact Sb.refl | exact SbL.refl | refine SbL.cons ?_ ?_ | exact Sb.nil | exact Sb.own1 | refine Sb.own ?_ | refine Sb.ag ?_ | refine Sb.tp ?_)) ?_
      (repeat first|refine A.s rfl ?_|refine A.r rfl rfl ?_|refine A.w rfl rfl ?_|refine A.p rfl ?_|refine A.b rfl fun bx=>?_|refine A.t rfl fun bl=>?_); refine A.c rfl (na [122]) .refl ?_
      (repeat first|refine A.s rfl ?_|refine A.r rfl rfl ?_|refine A.w rfl rfl ?_|refine A.p rfl ?_|refine A.b rfl fun bx=>?_|refine A.t rfl fun bl=>?_); refine A.c rfl fz (by repeat (first | exact Sb.refl | exact SbL.refl | refine SbL.cons ?_ ?_ | exact Sb.nil | exact Sb.own1 | refine Sb.own ?_ | refine Sb.ag ?_ | refine Sb.tp ?_)) ?_
      (repeat first|refine A.s rfl ?_|refine A.r rfl rfl ?_|refine A.w rfl rfl ?_|refine A.p rfl ?_|refine A.b rfl fun bx=>?_|refine A.t rfl fun bl=>?_); refine A.c rfl aw (by repeat (first | exact Sb.refl | exact SbL.refl | refine SbL.cons ?_ ?_ | exact Sb.nil | exact Sb.own1 | refine Sb.own ?_ | refine Sb.ag ?_ | refine Sb.tp ?_)) ?_
      (repeat first|refine A.s rfl ?_|refine A.r rfl rfl ?_|refine A.w rfl rfl ?_|refine A.p rfl ?_|refine A.b rfl fun bx=>?_|refine A.t rfl fun bl=>?_); refine A.ret1 (Λ' := []) rfl rfl rfl (List.nil_sublist _) ⟨?_, rfl⟩; exact .refl
    · rw [if_neg h1] at cs
      refine Pure.of (S := tt) (fn := Try.f7) (n := 107) tt_ok Try.func7 rfl rfl rfl rfl fun w0 h0 F hgs => ?_
      (repeat first|refine A.s rfl ?_|refine A.r rfl rfl ?_|refine A.w rfl rfl ?_|refine A.p rfl ?_|refine A.b rfl fun bx=>?_|refine A.t rfl fun bl=>?_); refine A.c rfl (nm v) .refl ?_
      refine A.c rfl (vl [120] (numX v)) .refl ?_
      (repeat first|refine A.s rfl ?_|refine A.r rfl rfl ?_|refine A.w rfl rfl ?_|refine A.p rfl ?_|refine A.b rfl fun bx=>?_|refine A.t rfl fun bl=>?_); refine A.c rfl (nm w) .refl ?_
      refine A.c rfl (vl [121] (numX w)) .refl ?_
      (repeat first|refine A.s rfl ?_|refine A.r rfl rfl ?_|refine A.w rfl rfl ?_|refine A.p rfl ?_|refine A.b rfl fun bx=>?_|refine A.t rfl fun bl=>?_); refine A.c rfl (nm w) .refl ?_
      (repeat first|refine A.s rfl ?_|refine A.r rfl rfl ?_|refine A.w rfl rfl ?_|refine A.p rfl ?_|refine A.b rfl fun bx=>?_|refine A.t rfl fun bl=>?_); refine A.c rfl cs (by repeat (first | exact Sb.refl | exact SbL.refl | refine SbL.cons ?_ ?_ | exact Sb.nil | exact Sb.own1 | refine Sb.own ?_ | refine Sb.ag ?_ | refine Sb.tp ?_)) ?_
      (repeat' first|refine A.s rfl ?_|refine A.r rfl rfl ?_|refine A.w rfl rfl ?_|refine A.p rfl ?_|refine A.b rfl fun bx=>?_|refine A.t rfl fun bl=>?_|((fail_if_success (refine A.lit? rfl ?_)); refine A.gS rfl (fun hc => ?_) (fun hc => ?_))|((fail_if_success (refine A.litP? rfl ?_)); refine A.gSP rfl (fun hc => ?_) (fun hc => ?_)))
      all_goals try (exfalso; clear nm na vl cs cx ca cy fx fa fz aw ok hgs; simp at *; omega)
      all_goals (refine A.c rfl (na [120]) .refl ?_; (repeat first|refine A.s rfl ?_|refine A.r rfl rfl ?_|refine A.w rfl rfl ?_|refine A.p rfl ?_|refine A.b rfl fun bx=>?_|refine A.t rfl fun bl=>?_); refine A.c rfl fx (by repeat (first | exact Sb.refl | exact SbL.refl | refine SbL.cons ?_ ?_ | exact Sb.nil | exact Sb.own1 | refine Sb.own ?_ | refine Sb.ag ?_ | refine Sb.tp ?_)) ?_; (repeat first|refine A.s rfl ?_|refine A.r rfl rfl ?_|refine A.w rfl rfl ?_|refine A.p rfl ?_|refine A.b rfl fun bx=>?_|refine A.t rfl fun bl=>?_); refine A.c rfl (na [97]) .refl ?_; (repeat first|refine A.s rfl ?_|refine A.r rfl rfl ?_|refine A.w rfl rfl ?_|refine A.p rfl ?_|refine A.b rfl fun bx=>?_|refine A.t rfl fun bl=>?_); refine A.c rfl fa (by repeat (first | exact Sb.refl | exact SbL.refl | refine SbL.cons ?_ ?_ | exact Sb.nil | exact Sb.own1 | refine Sb.own ?_ | refine Sb.ag ?_ | refine Sb.tp ?_)) ?_; (repeat first|refine A.s rfl ?_|refine A.r rfl rfl ?_|refine A.w rfl rfl ?_|refine A.p rfl ?_|refine A.b rfl fun bx=>?_|refine A.t rfl fun bl=>?_); refine A.c rfl (na [121]) .refl ?_; (repeat first|refine A.s rfl ?_|refine A.r rfl rfl ?_|refine A.w rfl rfl ?_|refine A.p rfl ?_|refine A.b rfl fun bx=>?_|refine A.t rfl fun bl=>?_); refine A.c rfl cy (by repeat (first | exact Sb.refl | exact SbL.refl | refine SbL.cons ?_ ?_ | exact Sb.nil | exact Sb.own1 | refine Sb.own ?_ | refine Sb.ag ?_ | refine Sb.tp ?_)) ?_; (repeat first|refine A.s rfl ?_|refine A.r rfl rfl ?_|refine A.w rfl rfl ?_|refine A.p rfl ?_|refine A.b rfl fun bx=>?_|refine A.t rfl fun bl=>?_); refine A.c rfl (na [122]) .refl ?_; (repeat first|refine A.s rfl ?_|refine A.r rfl rfl ?_|refine A.w rfl rfl ?_|refine A.p rfl ?_|refine A.b rfl fun bx=>?_|refine A.t rfl fun bl=>?_); refine A.c rfl fz (by repeat (first | exact Sb.refl | exact SbL.refl | refine SbL.cons ?_ ?_ | exact Sb.nil | exact Sb.own1 | refine Sb.own ?_ | refine Sb.ag ?_ | refine Sb.tp ?_)) ?_; (repeat first|refine A.s rfl ?_|refine A.r rfl rfl ?_|refine A.w rfl rfl ?_|refine A.p rfl ?_|refine A.b rfl fun bx=>?_|refine A.t rfl fun bl=>?_); refine A.c rfl aw (by repeat (first | exact Sb.refl | exact SbL.refl | refine SbL.cons ?_ ?_ | exact Sb.nil | exact Sb.own1 | refine Sb.own ?_ | refine Sb.ag ?_ | refine Sb.tp ?_)) ?_; (repeat first|refine A.s rfl ?_|refine A.r rfl rfl ?_|refine A.w rfl rfl ?_|refine A.p rfl ?_|refine A.b rfl fun bx=>?_|refine A.t rfl fun bl=>?_); refine A.ret1 (Λ' := []) rfl rfl rfl (List.nil_sublist _) ⟨?_, rfl⟩; exact .refl)
end
end Go.Proofs.Ytlnbmocgnkjlfaa
