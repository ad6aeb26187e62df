/-
  Layer 14 by the document: the value of an expression, of the specifications; Const.
-/
import Derived.Test.YtlnbmocgnkjlfaaGreatQ14c1

namespace Go.Proofs.YtlnbmocgnkjlfaaGreat
open Go Go.Tp
set_option linter.unusedVariables false
set_option linter.unusedSimpArgs false
set_option maxRecDepth 100000
set_option maxHeartbeats 4000000

theorem convert14_p (t v : Int) : Pure Tryz.prog gs0 38 [AU8 t, AI32 v] (optA (convC t v)) := by
  have h1 := some14_p v true
  have h2 := some14_p v false
  by_cases hf : t = 1 ∨ t = 2 ∧ 0 ≤ v ∧ v ≤ 255 ∨ t = 3 ∧ 0 ≤ v ∧ v ≤ 1
  · have hc : convC t v = some v := if_pos hf
    rw [hc]
    refine Pure.of (S := tt) (fn := Tryz.f38) (n := 39) tt_ok Tryz.func38 rfl rfl rfl rfl fun w0 h0 F hgs => ?_
    (repeat first|refine A.s rfl ?_|refine A.r rfl rfl ?_|refine A.w rfl rfl ?_|refine A.p rfl ?_|refine A.b rfl fun bx=>?_|refine A.t rfl fun bl=>?_)
    iterate 24 (first|refine A.s rfl ?_|refine A.r rfl rfl ?_|refine A.w rfl rfl ?_|refine A.p rfl ?_|refine A.b rfl fun bx=>?_|refine A.t rfl fun bl=>?_|refine A.step rfl ?_|refine A.v rfl rfl ?_)
    refine A.valE 6 rfl (x' := AB true) (ab_eq (by rw [Bool.eq_iff_iff]; simp; omega)) ?_
    (repeat first|refine A.s rfl ?_|refine A.r rfl rfl ?_|refine A.w rfl rfl ?_|refine A.p rfl ?_|refine A.b rfl fun bx=>?_|refine A.t rfl fun bl=>?_); refine A.c rfl h2 .refl ?_
    (repeat first|refine A.s rfl ?_|refine A.r rfl rfl ?_|refine A.w rfl rfl ?_|refine A.p rfl ?_|refine A.b rfl fun bx=>?_|refine A.t rfl fun bl=>?_); refine A.ret2 (Λ' := []) rfl rfl rfl rfl (List.nil_sublist _) ⟨?_, rfl⟩; exact .refl
  · have hc : convC t v = none := if_neg hf
    rw [hc]
    refine Pure.of (S := tt) (fn := Tryz.f38) (n := 39) tt_ok Tryz.func38 rfl rfl rfl rfl fun w0 h0 F hgs => ?_
    (repeat first|refine A.s rfl ?_|refine A.r rfl rfl ?_|refine A.w rfl rfl ?_|refine A.p rfl ?_|refine A.b rfl fun bx=>?_|refine A.t rfl fun bl=>?_)
    iterate 24 (first|refine A.s rfl ?_|refine A.r rfl rfl ?_|refine A.w rfl rfl ?_|refine A.p rfl ?_|refine A.b rfl fun bx=>?_|refine A.t rfl fun bl=>?_|refine A.step rfl ?_|refine A.v rfl rfl ?_)
    refine A.valE 6 rfl (x' := AB false) (ab_eq (by rw [← Bool.not_eq_true]; simp; omega)) ?_
    (repeat first|refine A.s rfl ?_|refine A.r rfl rfl ?_|refine A.w rfl rfl ?_|refine A.p rfl ?_|refine A.b rfl fun bx=>?_|refine A.t rfl fun bl=>?_); refine A.c rfl h1 .refl ?_
    (repeat first|refine A.s rfl ?_|refine A.r rfl rfl ?_|refine A.w rfl rfl ?_|refine A.p rfl ?_|refine A.b rfl fun bx=>?_|refine A.t rfl fun bl=>?_); refine A.ret2 (Λ' := []) rfl rfl rfl rfl (List.nil_sublist _) ⟨?_, rfl⟩; exact .refl
theorem conv_pair (t : Int) (x : Int) : conv14 t (x, true) = if t = 1 ∨ t = 2 ∨ t = 3 then pairV (convC t x) else conv14 t (x, true) := by
  split
  · rename_i h
    unfold conv14 convC pairV
    rcases h with rfl | rfl | rfl
    · simp
    · simp
      by_cases h2 : 0 ≤ x ∧ x ≤ 255
      · simp [h2]
      · simp [h2]
    · simp
      by_cases h2 : 0 ≤ x ∧ x ≤ 1
      · simp [h2]
      · simp [h2]
  · rfl
theorem dim_ref (x : SP) (hd : i64 x.dim) : dimV x = if x.kind = 1 ∧ 1 ≤ x.dim ∧ x.dim ≤ 2147483647 then (IntKind.i32.wrap x.dim, true) else (0, false) := by
  unfold dimV
  by_cases h1 : x.kind = 1
  · rw [if_pos h1]
    unfold knownM
    by_cases h2 : 1 ≤ x.dim ∧ x.dim ≤ 2147483647
    · have e : w32 x.dim = x.dim := w32_id (by unfold i32; omega)
      have h3 : 0 < x.dim := by omega
      rw [if_pos (show x.kind = 1 ∧ 1 ≤ x.dim ∧ x.dim ≤ 2147483647 from ⟨h1, h2⟩)]
      rw [show IntKind.i32.wrap x.dim = x.dim from e]
      simp [e, h3]
    · rw [if_neg (show ¬ (x.kind = 1 ∧ 1 ≤ x.dim ∧ x.dim ≤ 2147483647) from fun h => h2 h.2)]
      have hf : (decide (0 < w32 x.dim) && w32 x.dim == x.dim) = false := by
        have := w32_in x.dim
        unfold i32 at this
        rw [Bool.and_eq_false_iff]
        by_cases h3 : w32 x.dim = x.dim
        · left; simp; have h3' : IntKind.i32.wrap x.dim = x.dim := h3; omega
        · right; simpa using h3
      simp [hf]
  · rw [if_neg h1, if_neg (fun h => h1 h.1)]
abbrev tpV (x : Int × Bool) : AV := .tp [AI32 x.1, AB x.2]
theorem value14_p (env : List SP) (n : Nat) (hn : n ≤ env.length) (vals : List (Int × Bool)) (ok : EnvOk (env.take n) vals) (hz : zeroV vals) (hb : env.length ≤ 281474976710656) (hm : ∀ x, x ∈ env → x.names.length ≤ 281474976710656) :
    ∀ (N : Nat) (e : XE), htX e ≤ N → wfX e → fineX e = true → Pure Tryz.prog gs0 24 [encX e, specsA env, AI (n : Nat), valsA vals] (tpV (valX (env.take n) vals e))
  | 0, e, hN, _, _ => by have := htX_pos e; omega
  | N + 1, e, hN, hw, hfx => by
    have hlt : (env.take n).length = n := by rw [List.length_take]; omega
    have hfd := find14_p env e.s n hn hb hm
    have hfe : findB (env.take n) e.s (env.take n).length = findB env e.s n := by rw [hlt]; exact findB_take env e.s n n (Nat.le_refl _) hn
    have hfl := findB_lt env e.s n
    have heq := valX_eq (env.take n) vals e
    have hsh : shapeX e = true := by rw [fineX_eq, Bool.and_eq_true] at hfx; exact hfx.1
    have hlen := shape_l e hsh
    have hk9 := shape_k e hsh
    have hfl2 : fineXl e.l = true := by rw [fineX_eq, Bool.and_eq_true] at hfx; exact hfx.2
    have hwl := wfX_l hw
    have ih := fun x (hx : x ∈ e.l) => value14_p env n hn vals ok hz hb hm N x (by have := htXl_le hx; have := htX_eq e; omega) (wfXl_mem hwl x hx) (fineXl_mem hfl2 x hx)
    have vz := fun x => valX_zero (env.take n) vals hz x
    have vi := fun x hx => valX_in (env.take n) vals ok x (wfXl_mem hwl x hx)
    rw [encX_eq]
    rw [hfe] at heq
    by_cases h1 : e.kind = 1 ∨ e.kind = 2 ∨ e.kind = 3
    · rw [heq, if_pos h1]
      rcases h1 with h1 | h1 | h1
      all_goals (rw [h1]; refine Pure.of (S := tt) (fn := Tryz.f24) (n := 131) tt_ok Tryz.func24 rfl rfl rfl rfl fun w0 h0 F hgs => ?_; (repeat first|refine A.s rfl ?_|refine A.r rfl rfl ?_|refine A.w rfl rfl ?_|refine A.p rfl ?_|refine A.b rfl fun bx=>?_|refine A.t rfl fun bl=>?_); refine A.ret2 (Λ' := []) rfl rfl rfl rfl (List.nil_sublist _) ⟨?_, rfl⟩; exact .refl)
    rw [if_neg h1] at heq
    by_cases h4 : e.kind = 4
    · rw [if_pos h4] at heq
      rw [heq, h4]
      by_cases hp : 0 ≤ findB env e.s n
      · rw [if_pos hp]
        refine Exists.elim (at_ex (l := vals) hp (by rw [ok.len, hlt]; exact hfl.2)) fun x hx => ?_
        rw [hx]
        refine Pure.of (S := tt) (fn := Tryz.f24) (n := 131) tt_ok Tryz.func24 rfl rfl rfl rfl fun w0 h0 F hgs => ?_
        (repeat first|refine A.s rfl ?_|refine A.r rfl rfl ?_|refine A.w rfl rfl ?_|refine A.p rfl ?_|refine A.b rfl fun bx=>?_|refine A.t rfl fun bl=>?_); refine A.c rfl hfd .refl ?_
        (repeat first|refine A.s rfl ?_|refine A.r rfl rfl ?_|refine A.w rfl rfl ?_|refine A.p rfl ?_|refine A.b rfl fun bx=>?_|refine A.t rfl fun bl=>?_)
        refine A.gF rfl (by simp; omega) ?_
        (repeat first|refine A.s rfl ?_|refine A.r rfl rfl ?_|refine A.w rfl rfl ?_|refine A.p rfl ?_|refine A.b rfl fun bx=>?_|refine A.t rfl fun bl=>?_)
        refine A.draw 12 [0, 1, 2, 3, 4, 5, 6, 7, 8, 9, 10, 11] noPubs [] (by kernel_rfl) (by kernel_rfl) ?_
        (repeat first|refine WA.s rfl ?_|refine WA.r rfl rfl ?_|refine WA.p rfl ?_)
        refine WA.x rfl hp (map_at hx) rfl rfl ?_
        (repeat first|refine WA.s rfl ?_|refine WA.r rfl rfl ?_|refine WA.p rfl ?_)
        refine WA.x rfl hp (map_at hx) rfl rfl ?_
        (repeat first|refine WA.s rfl ?_|refine WA.r rfl rfl ?_|refine WA.p rfl ?_)
        refine WA.nil (l := []) rfl ?_
        (repeat first|refine A.s rfl ?_|refine A.r rfl rfl ?_|refine A.w rfl rfl ?_|refine A.p rfl ?_|refine A.b rfl fun bx=>?_|refine A.t rfl fun bl=>?_); refine A.ret2 (Λ' := []) rfl rfl rfl rfl (List.nil_sublist _) ⟨?_, rfl⟩; exact .refl
      · rw [if_neg hp]
        refine Pure.of (S := tt) (fn := Tryz.f24) (n := 131) tt_ok Tryz.func24 rfl rfl rfl rfl fun w0 h0 F hgs => ?_
        (repeat first|refine A.s rfl ?_|refine A.r rfl rfl ?_|refine A.w rfl rfl ?_|refine A.p rfl ?_|refine A.b rfl fun bx=>?_|refine A.t rfl fun bl=>?_); refine A.c rfl hfd .refl ?_
        (repeat first|refine A.s rfl ?_|refine A.r rfl rfl ?_|refine A.w rfl rfl ?_|refine A.p rfl ?_|refine A.b rfl fun bx=>?_|refine A.t rfl fun bl=>?_)
        refine A.gT rfl (by simp; omega) ?_
        (repeat first|refine A.s rfl ?_|refine A.r rfl rfl ?_|refine A.w rfl rfl ?_|refine A.p rfl ?_|refine A.b rfl fun bx=>?_|refine A.t rfl fun bl=>?_); refine A.ret2 (Λ' := []) rfl rfl rfl rfl (List.nil_sublist _) ⟨?_, rfl⟩; exact .refl
    rw [if_neg h4] at heq
    by_cases h9 : e.kind = 9
    · rw [if_pos h9] at heq
      by_cases hp : 0 ≤ findB env e.s n
      · refine Exists.elim (at_ex (l := env) hp (by omega)) fun x hx => ?_
        have hxt : (env.take n)[(findB env e.s n).toNat]? = some x := by rw [List.getElem?_take, if_pos (by omega), hx]
        have hxd : i64 x.dim := ok.dims x (List.mem_of_getElem? hxt)
        rw [hxt] at heq
        simp only [if_pos hp] at heq
        rw [dim_ref x hxd] at heq
        rw [heq, h9]
        generalize hdv : (if x.kind = 1 ∧ 1 ≤ x.dim ∧ x.dim ≤ 2147483647 then (IntKind.i32.wrap x.dim, true) else ((0, false) : Int × Bool)) = dv
        refine Pure.of (S := tt) (fn := Tryz.f24) (n := 131) tt_ok Tryz.func24 rfl rfl rfl rfl fun w0 h0 F hgs => ?_
        (repeat first|refine A.s rfl ?_|refine A.r rfl rfl ?_|refine A.w rfl rfl ?_|refine A.p rfl ?_|refine A.b rfl fun bx=>?_|refine A.t rfl fun bl=>?_); refine A.c rfl hfd .refl ?_
        (repeat first|refine A.s rfl ?_|refine A.r rfl rfl ?_|refine A.w rfl rfl ?_|refine A.p rfl ?_|refine A.b rfl fun bx=>?_|refine A.t rfl fun bl=>?_)
        refine A.gF rfl (by simp; omega) ?_
        (repeat first|refine A.s rfl ?_|refine A.r rfl rfl ?_|refine A.w rfl rfl ?_|refine A.p rfl ?_|refine A.b rfl fun bx=>?_|refine A.t rfl fun bl=>?_)
        refine A.x rfl hp (map_at hx) rfl rfl ?_
        (repeat first|refine A.s rfl ?_|refine A.r rfl rfl ?_|refine A.w rfl rfl ?_|refine A.p rfl ?_|refine A.b rfl fun bx=>?_|refine A.t rfl fun bl=>?_)
        ((fail_if_success (refine A.lit? rfl ?_)); refine A.gS rfl (fun hc => ?_) (fun hc => ?_))
        · have h5 : ¬ x.kind = 1 := by simpa using hc
          (repeat first|refine A.s rfl ?_|refine A.r rfl rfl ?_|refine A.w rfl rfl ?_|refine A.p rfl ?_|refine A.b rfl fun bx=>?_|refine A.t rfl fun bl=>?_); (refine A.ret2 (Λ' := []) rfl rfl rfl rfl (List.nil_sublist _) ⟨?_, rfl⟩; refine Sb.eq ?_)
          rw [← hdv, if_neg (fun h => h5 h.1)]
        · have h5 : x.kind = 1 := by simpa using hc
          (repeat first|refine A.s rfl ?_|refine A.r rfl rfl ?_|refine A.w rfl rfl ?_|refine A.p rfl ?_|refine A.b rfl fun bx=>?_|refine A.t rfl fun bl=>?_)
          refine A.x rfl hp (map_at hx) rfl rfl ?_
          (repeat first|refine A.s rfl ?_|refine A.r rfl rfl ?_|refine A.w rfl rfl ?_|refine A.p rfl ?_|refine A.b rfl fun bx=>?_|refine A.t rfl fun bl=>?_)
          ((fail_if_success (refine A.lit? rfl ?_)); refine A.gS rfl (fun hc => ?_) (fun hc => ?_))
          · (repeat first|refine A.s rfl ?_|refine A.r rfl rfl ?_|refine A.w rfl rfl ?_|refine A.p rfl ?_|refine A.b rfl fun bx=>?_|refine A.t rfl fun bl=>?_); (refine A.ret2 (Λ' := []) rfl rfl rfl rfl (List.nil_sublist _) ⟨?_, rfl⟩; refine Sb.eq ?_)
            rw [← hdv, if_neg (fun h => by simp at hc; omega)]
          · have h6 : 1 ≤ x.dim := by simp at hc; omega
            (repeat first|refine A.s rfl ?_|refine A.r rfl rfl ?_|refine A.w rfl rfl ?_|refine A.p rfl ?_|refine A.b rfl fun bx=>?_|refine A.t rfl fun bl=>?_)
            refine A.x rfl hp (map_at hx) rfl rfl ?_
            (repeat first|refine A.s rfl ?_|refine A.r rfl rfl ?_|refine A.w rfl rfl ?_|refine A.p rfl ?_|refine A.b rfl fun bx=>?_|refine A.t rfl fun bl=>?_)
            ((fail_if_success (refine A.lit? rfl ?_)); refine A.gS rfl (fun hc => ?_) (fun hc => ?_))
            · (repeat first|refine A.s rfl ?_|refine A.r rfl rfl ?_|refine A.w rfl rfl ?_|refine A.p rfl ?_|refine A.b rfl fun bx=>?_|refine A.t rfl fun bl=>?_); (refine A.ret2 (Λ' := []) rfl rfl rfl rfl (List.nil_sublist _) ⟨?_, rfl⟩; refine Sb.eq ?_)
              rw [← hdv, if_neg (fun h => by simp at hc; omega)]
            · have h7 : x.dim ≤ 2147483647 := by simp at hc; omega
              (repeat first|refine A.s rfl ?_|refine A.r rfl rfl ?_|refine A.w rfl rfl ?_|refine A.p rfl ?_|refine A.b rfl fun bx=>?_|refine A.t rfl fun bl=>?_)
              refine A.x rfl hp (map_at hx) rfl rfl ?_
              (repeat first|refine A.s rfl ?_|refine A.r rfl rfl ?_|refine A.w rfl rfl ?_|refine A.p rfl ?_|refine A.b rfl fun bx=>?_|refine A.t rfl fun bl=>?_); (refine A.ret2 (Λ' := []) rfl rfl rfl rfl (List.nil_sublist _) ⟨?_, rfl⟩; refine Sb.eq ?_)
              rw [← hdv, if_pos ⟨h5, h6, h7⟩]
      · have h0 : valX (env.take n) vals e = (0, false) := by
          rw [heq]
          split
          · rw [if_neg hp]
          · rfl
        rw [h0, h9]
        refine Pure.of (S := tt) (fn := Tryz.f24) (n := 131) tt_ok Tryz.func24 rfl rfl rfl rfl fun w0 h0 F hgs => ?_
        (repeat first|refine A.s rfl ?_|refine A.r rfl rfl ?_|refine A.w rfl rfl ?_|refine A.p rfl ?_|refine A.b rfl fun bx=>?_|refine A.t rfl fun bl=>?_); refine A.c rfl hfd .refl ?_
        (repeat first|refine A.s rfl ?_|refine A.r rfl rfl ?_|refine A.w rfl rfl ?_|refine A.p rfl ?_|refine A.b rfl fun bx=>?_|refine A.t rfl fun bl=>?_)
        refine A.gT rfl (by simp; omega) ?_
        (repeat first|refine A.s rfl ?_|refine A.r rfl rfl ?_|refine A.w rfl rfl ?_|refine A.p rfl ?_|refine A.b rfl fun bx=>?_|refine A.t rfl fun bl=>?_); refine A.ret2 (Λ' := []) rfl rfl rfl rfl (List.nil_sublist _) ⟨?_, rfl⟩; exact .refl
    rw [if_neg h9] at heq
    by_cases h5 : e.kind = 5
    · rw [heq, if_pos h5, h5]
      refine Pure.of (S := tt) (fn := Tryz.f24) (n := 131) tt_ok Tryz.func24 rfl rfl rfl rfl fun w0 h0 F hgs => ?_
      (repeat first|refine A.s rfl ?_|refine A.r rfl rfl ?_|refine A.w rfl rfl ?_|refine A.p rfl ?_|refine A.b rfl fun bx=>?_|refine A.t rfl fun bl=>?_); refine A.ret2 (Λ' := []) rfl rfl rfl rfl (List.nil_sublist _) ⟨?_, rfl⟩; exact .refl
    rw [if_neg h5] at heq
    have pr : ∀ x, valX (env.take n) vals x = ((valX (env.take n) vals x).1, (valX (env.take n) vals x).2) := fun _ => rfl
    by_cases h8 : e.kind = 8
    · rw [if_pos h8] at heq
      rw [heq, h8]
      rw [if_pos (.inr (.inr h8))] at hlen
      rcases hl : e.l with _ | ⟨x, _ | ⟨y, r⟩⟩
      · rw [hl] at hlen; simp at hlen
      · have hx := ih x (by rw [hl]; exact List.mem_singleton.2 rfl)
        rw [valXl, encXl]
        simp only [List.headD_cons]
        rw [encX_eq x] at hx
        have hto : e.to = 1 ∨ e.to = 2 ∨ e.to = 3 := by
          simp only [shapeX, Bool.and_eq_true] at hsh
          have h6 := hsh.1
          unfold partsM at h6
          rw [if_neg (by omega), if_neg (by omega), if_neg (by omega), if_neg (by omega), if_neg (by omega), if_neg (by omega), if_pos h8] at h6
          split at h6
          · omega
          · cases h6
        cases hb2 : (valX (env.take n) vals x).2 with
        | false =>
          have hv0 := vz x hb2
          rw [pr x, hb2, hv0] at hx ⊢
          have hc0 : conv14 e.to (0, false) = (0, false) := by unfold conv14; split <;> simp
          rw [hc0]
          refine Pure.of (S := tt) (fn := Tryz.f24) (n := 131) tt_ok Tryz.func24 rfl rfl rfl rfl fun w0 h0 F hgs => ?_
          (repeat first|refine A.s rfl ?_|refine A.r rfl rfl ?_|refine A.w rfl rfl ?_|refine A.p rfl ?_|refine A.b rfl fun bx=>?_|refine A.t rfl fun bl=>?_)
          refine A.x rfl (by decide) rfl (encX_eq x) rfl ?_
          (repeat first|refine A.s rfl ?_|refine A.r rfl rfl ?_|refine A.w rfl rfl ?_|refine A.p rfl ?_|refine A.b rfl fun bx=>?_|refine A.t rfl fun bl=>?_); refine A.c rfl hx .refl ?_
          (repeat first|refine A.s rfl ?_|refine A.r rfl rfl ?_|refine A.w rfl rfl ?_|refine A.p rfl ?_|refine A.b rfl fun bx=>?_|refine A.t rfl fun bl=>?_); refine A.ret2 (Λ' := []) rfl rfl rfl rfl (List.nil_sublist _) ⟨?_, rfl⟩; exact .refl
        | true =>
          have hcv := convert14_p e.to (valX (env.take n) vals x).1
          rw [pr x, hb2] at hx ⊢
          rw [conv_pair, if_pos hto]
          refine Pure.of (S := tt) (fn := Tryz.f24) (n := 131) tt_ok Tryz.func24 rfl rfl rfl rfl fun w0 h0 F hgs => ?_
          (repeat first|refine A.s rfl ?_|refine A.r rfl rfl ?_|refine A.w rfl rfl ?_|refine A.p rfl ?_|refine A.b rfl fun bx=>?_|refine A.t rfl fun bl=>?_)
          refine A.x rfl (by decide) rfl (encX_eq x) rfl ?_
          (repeat first|refine A.s rfl ?_|refine A.r rfl rfl ?_|refine A.w rfl rfl ?_|refine A.p rfl ?_|refine A.b rfl fun bx=>?_|refine A.t rfl fun bl=>?_); refine A.c rfl hx .refl ?_
          (repeat first|refine A.s rfl ?_|refine A.r rfl rfl ?_|refine A.w rfl rfl ?_|refine A.p rfl ?_|refine A.b rfl fun bx=>?_|refine A.t rfl fun bl=>?_); refine A.c rfl hcv .refl ?_
          (repeat first|refine A.s rfl ?_|refine A.r rfl rfl ?_|refine A.w rfl rfl ?_|refine A.p rfl ?_|refine A.b rfl fun bx=>?_|refine A.t rfl fun bl=>?_); refine A.ret2 (Λ' := []) rfl rfl rfl rfl (List.nil_sublist _) ⟨?_, rfl⟩; exact .refl
      · rw [hl] at hlen; simp at hlen; omega
    rw [if_neg h8] at heq
    by_cases h6 : e.kind = 6
    · rw [heq, h6]
      rw [if_pos (.inr (.inl h6))] at hlen
      rcases hl : e.l with _ | ⟨x, _ | ⟨y, r⟩⟩
      · rw [hl] at hlen; simp at hlen
      · have hxm : x ∈ e.l := by rw [hl]; exact List.mem_singleton.2 rfl
        have hx := ih x hxm
        have hxi := vi x hxm
        rw [encX_eq x] at hx
        simp only [valXl, encXl, opV]
        cases hb2 : (valX (env.take n) vals x).2 with
        | false =>
          rw [pr x, hb2] at hx
          refine Pure.of (S := tt) (fn := Tryz.f24) (n := 131) tt_ok Tryz.func24 rfl rfl rfl rfl fun w0 h0 F hgs => ?_
          (repeat first|refine A.s rfl ?_|refine A.r rfl rfl ?_|refine A.w rfl rfl ?_|refine A.p rfl ?_|refine A.b rfl fun bx=>?_|refine A.t rfl fun bl=>?_)
          refine A.x rfl (by decide) rfl (encX_eq x) rfl ?_
          (repeat first|refine A.s rfl ?_|refine A.r rfl rfl ?_|refine A.w rfl rfl ?_|refine A.p rfl ?_|refine A.b rfl fun bx=>?_|refine A.t rfl fun bl=>?_); refine A.c rfl hx .refl ?_
          (repeat first|refine A.s rfl ?_|refine A.r rfl rfl ?_|refine A.w rfl rfl ?_|refine A.p rfl ?_|refine A.b rfl fun bx=>?_|refine A.t rfl fun bl=>?_); refine A.ret2 (Λ' := []) rfl rfl rfl rfl (List.nil_sublist _) ⟨?_, rfl⟩; exact .refl
        | true =>
          have hap := rapply_p e.oper (valX (env.take n) vals x).1 0 hxi i32_0
          rw [pr x, hb2] at hx
          refine Pure.of (S := tt) (fn := Tryz.f24) (n := 131) tt_ok Tryz.func24 rfl rfl rfl rfl fun w0 h0 F hgs => ?_
          (repeat first|refine A.s rfl ?_|refine A.r rfl rfl ?_|refine A.w rfl rfl ?_|refine A.p rfl ?_|refine A.b rfl fun bx=>?_|refine A.t rfl fun bl=>?_)
          refine A.x rfl (by decide) rfl (encX_eq x) rfl ?_
          (repeat first|refine A.s rfl ?_|refine A.r rfl rfl ?_|refine A.w rfl rfl ?_|refine A.p rfl ?_|refine A.b rfl fun bx=>?_|refine A.t rfl fun bl=>?_); refine A.c rfl hx .refl ?_
          (repeat first|refine A.s rfl ?_|refine A.r rfl rfl ?_|refine A.w rfl rfl ?_|refine A.p rfl ?_|refine A.b rfl fun bx=>?_|refine A.t rfl fun bl=>?_); refine A.c rfl hap .refl ?_
          (repeat first|refine A.s rfl ?_|refine A.r rfl rfl ?_|refine A.w rfl rfl ?_|refine A.p rfl ?_|refine A.b rfl fun bx=>?_|refine A.t rfl fun bl=>?_); refine A.ret2 (Λ' := []) rfl rfl rfl rfl (List.nil_sublist _) ⟨?_, rfl⟩; exact .refl
      · rw [hl] at hlen; simp at hlen; omega
    have h7 : e.kind = 7 := by omega
    · rw [heq, h7]
      rw [if_neg (by omega), if_pos h7] at hlen
      rcases hl : e.l with _ | ⟨x, _ | ⟨y, _ | ⟨z, r⟩⟩⟩
      · rw [hl] at hlen; simp at hlen
      · rw [hl] at hlen; simp at hlen
      · have hxm : x ∈ e.l := by rw [hl]; exact List.mem_cons_self ..
        have hym : y ∈ e.l := by rw [hl]; exact List.mem_cons_of_mem _ (List.mem_cons_self ..)
        have hx := ih x hxm
        have hy := ih y hym
        have hxi := vi x hxm
        have hyi := vi y hym
        rw [encX_eq x] at hx
        rw [encX_eq y] at hy
        simp only [valXl, encXl, opV]
        cases hb2 : (valX (env.take n) vals x).2 with
        | false =>
          rw [pr x, hb2] at hx
          refine Pure.of (S := tt) (fn := Tryz.f24) (n := 131) tt_ok Tryz.func24 rfl rfl rfl rfl fun w0 h0 F hgs => ?_
          (repeat first|refine A.s rfl ?_|refine A.r rfl rfl ?_|refine A.w rfl rfl ?_|refine A.p rfl ?_|refine A.b rfl fun bx=>?_|refine A.t rfl fun bl=>?_)
          refine A.x rfl (by decide) rfl (encX_eq x) rfl ?_
          (repeat first|refine A.s rfl ?_|refine A.r rfl rfl ?_|refine A.w rfl rfl ?_|refine A.p rfl ?_|refine A.b rfl fun bx=>?_|refine A.t rfl fun bl=>?_); refine A.c rfl hx .refl ?_
          (repeat first|refine A.s rfl ?_|refine A.r rfl rfl ?_|refine A.w rfl rfl ?_|refine A.p rfl ?_|refine A.b rfl fun bx=>?_|refine A.t rfl fun bl=>?_); refine A.ret2 (Λ' := []) rfl rfl rfl rfl (List.nil_sublist _) ⟨?_, rfl⟩; exact .refl
        | true =>
          rw [pr x, hb2] at hx
          cases hb3 : (valX (env.take n) vals y).2 with
          | false =>
            rw [pr y, hb3] at hy
            refine Pure.of (S := tt) (fn := Tryz.f24) (n := 131) tt_ok Tryz.func24 rfl rfl rfl rfl fun w0 h0 F hgs => ?_
            (repeat first|refine A.s rfl ?_|refine A.r rfl rfl ?_|refine A.w rfl rfl ?_|refine A.p rfl ?_|refine A.b rfl fun bx=>?_|refine A.t rfl fun bl=>?_)
            refine A.x rfl (by decide) rfl (encX_eq x) rfl ?_
            (repeat first|refine A.s rfl ?_|refine A.r rfl rfl ?_|refine A.w rfl rfl ?_|refine A.p rfl ?_|refine A.b rfl fun bx=>?_|refine A.t rfl fun bl=>?_); refine A.c rfl hx .refl ?_
            (repeat first|refine A.s rfl ?_|refine A.r rfl rfl ?_|refine A.w rfl rfl ?_|refine A.p rfl ?_|refine A.b rfl fun bx=>?_|refine A.t rfl fun bl=>?_)
            refine A.x rfl (by decide) rfl (encX_eq y) rfl ?_
            (repeat first|refine A.s rfl ?_|refine A.r rfl rfl ?_|refine A.w rfl rfl ?_|refine A.p rfl ?_|refine A.b rfl fun bx=>?_|refine A.t rfl fun bl=>?_); refine A.c rfl hy .refl ?_
            (repeat first|refine A.s rfl ?_|refine A.r rfl rfl ?_|refine A.w rfl rfl ?_|refine A.p rfl ?_|refine A.b rfl fun bx=>?_|refine A.t rfl fun bl=>?_); refine A.ret2 (Λ' := []) rfl rfl rfl rfl (List.nil_sublist _) ⟨?_, rfl⟩; exact .refl
          | true =>
            have hap := rapply_p e.oper (valX (env.take n) vals x).1 (valX (env.take n) vals y).1 hxi hyi
            rw [pr y, hb3] at hy
            refine Pure.of (S := tt) (fn := Tryz.f24) (n := 131) tt_ok Tryz.func24 rfl rfl rfl rfl fun w0 h0 F hgs => ?_
            (repeat first|refine A.s rfl ?_|refine A.r rfl rfl ?_|refine A.w rfl rfl ?_|refine A.p rfl ?_|refine A.b rfl fun bx=>?_|refine A.t rfl fun bl=>?_)
            refine A.x rfl (by decide) rfl (encX_eq x) rfl ?_
            (repeat first|refine A.s rfl ?_|refine A.r rfl rfl ?_|refine A.w rfl rfl ?_|refine A.p rfl ?_|refine A.b rfl fun bx=>?_|refine A.t rfl fun bl=>?_); refine A.c rfl hx .refl ?_
            (repeat first|refine A.s rfl ?_|refine A.r rfl rfl ?_|refine A.w rfl rfl ?_|refine A.p rfl ?_|refine A.b rfl fun bx=>?_|refine A.t rfl fun bl=>?_)
            refine A.x rfl (by decide) rfl (encX_eq y) rfl ?_
            (repeat first|refine A.s rfl ?_|refine A.r rfl rfl ?_|refine A.w rfl rfl ?_|refine A.p rfl ?_|refine A.b rfl fun bx=>?_|refine A.t rfl fun bl=>?_); refine A.c rfl hy .refl ?_
            (repeat first|refine A.s rfl ?_|refine A.r rfl rfl ?_|refine A.w rfl rfl ?_|refine A.p rfl ?_|refine A.b rfl fun bx=>?_|refine A.t rfl fun bl=>?_); refine A.c rfl hap .refl ?_
            (repeat first|refine A.s rfl ?_|refine A.r rfl rfl ?_|refine A.w rfl rfl ?_|refine A.p rfl ?_|refine A.b rfl fun bx=>?_|refine A.t rfl fun bl=>?_); refine A.ret2 (Λ' := []) rfl rfl rfl rfl (List.nil_sublist _) ⟨?_, rfl⟩; exact .refl
      · rw [hl] at hlen; simp at hlen; omega
end Go.Proofs.YtlnbmocgnkjlfaaGreat
