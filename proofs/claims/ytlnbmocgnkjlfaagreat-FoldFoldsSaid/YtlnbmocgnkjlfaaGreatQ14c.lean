/-
  Chapter 14: the reference's words and its Apply.
-/
import Derived.Test.YtlnbmocgnkjlfaaGreatQ14b

namespace Go.Proofs.YtlnbmocgnkjlfaaGreat
open Go Go.Tp
set_option linter.unusedVariables false
set_option linter.unusedSimpArgs false
set_option maxRecDepth 100000
set_option maxHeartbeats 4000000

theorem rwrap_p (t : Int) (ht : i64 t) : Pure Tryz.prog gs0 69 [AI t] (AI32 (w32 t)) := by
  unfold i64 at ht
  have hm : t.tmod 4294967296 = if 0 ≤ t then t % 4294967296 else -((-t) % 4294967296) := by
    split
    · rename_i h; exact Int.tmod_eq_emod_of_nonneg h
    · rename_i h
      have : t = -(-t) := by omega
      rw [this, Int.neg_tmod, Int.tmod_eq_emod_of_nonneg (by omega)]; simp
  refine Pure.of (S := tt) (fn := Tryz.f69) (n := 15) tt_ok Tryz.func69 rfl rfl rfl rfl fun w0 h0 F hgs => ?_
  (repeat first|refine A.s rfl ?_|refine A.r rfl rfl ?_|refine A.w rfl rfl ?_|refine A.p rfl ?_|refine A.b rfl fun bx=>?_|refine A.t rfl fun bl=>?_|refine A.step rfl ?_|refine A.v rfl rfl ?_)
  refine A.divrem rfl rfl rfl rfl rfl rfl rfl (by decide) ?_
  (repeat first|refine A.s rfl ?_|refine A.r rfl rfl ?_|refine A.w rfl rfl ?_|refine A.p rfl ?_|refine A.b rfl fun bx=>?_|refine A.t rfl fun bl=>?_|refine A.step rfl ?_|refine A.v rfl rfl ?_)
  have hv : -4294967296 < t.tmod 4294967296 ∧ t.tmod 4294967296 < 4294967296 := by rw [hm]; split <;> omega
  have e1 : IntKind.i64.wrap (t.tmod 4294967296 + 4294967296) = t.tmod 4294967296 + 4294967296 := wr64 _ (by omega)
  refine A.cond rfl (fun hc => ?_) (fun hc => ?_)
  · simp [arV] at hc
    (repeat first|refine A.s rfl ?_|refine A.r rfl rfl ?_|refine A.w rfl rfl ?_|refine A.p rfl ?_|refine A.b rfl fun bx=>?_|refine A.t rfl fun bl=>?_|refine A.step rfl ?_|refine A.v rfl rfl ?_)
    refine A.cond rfl (fun hd => ?_) (fun hd => ?_)
    · simp [arV] at hd; (repeat first|refine A.s rfl ?_|refine A.r rfl rfl ?_|refine A.w rfl rfl ?_|refine A.p rfl ?_|refine A.b rfl fun bx=>?_|refine A.t rfl fun bl=>?_|refine A.step rfl ?_|refine A.v rfl rfl ?_); refine A.ret1 (Λ' := []) rfl rfl rfl (List.nil_sublist _) ⟨?_, rfl⟩; refine Sb.eq (ai32_eq ?_)
      show IntKind.i32.wrap (IntKind.i64.wrap (IntKind.i64.wrap (t.tmod 4294967296 + 4294967296) - 4294967296)) = w32 t
      rw [e1, wr64 _ (by omega)]; unfold w32; rw [w32_eq, w32_eq, hm]; split <;> omega
    · (repeat first|refine A.s rfl ?_|refine A.r rfl rfl ?_|refine A.w rfl rfl ?_|refine A.p rfl ?_|refine A.b rfl fun bx=>?_|refine A.t rfl fun bl=>?_|refine A.step rfl ?_|refine A.v rfl rfl ?_); refine A.ret1 (Λ' := []) rfl rfl rfl (List.nil_sublist _) ⟨?_, rfl⟩; refine Sb.eq (ai32_eq ?_)
      show IntKind.i32.wrap (IntKind.i64.wrap (t.tmod 4294967296 + 4294967296)) = w32 t
      rw [e1]; unfold w32; rw [w32_eq, w32_eq, hm]; split <;> omega
  · simp [arV] at hc
    (repeat first|refine A.s rfl ?_|refine A.r rfl rfl ?_|refine A.w rfl rfl ?_|refine A.p rfl ?_|refine A.b rfl fun bx=>?_|refine A.t rfl fun bl=>?_|refine A.step rfl ?_|refine A.v rfl rfl ?_)
    refine A.cond rfl (fun hd => ?_) (fun hd => ?_)
    · simp [arV] at hd; (repeat first|refine A.s rfl ?_|refine A.r rfl rfl ?_|refine A.w rfl rfl ?_|refine A.p rfl ?_|refine A.b rfl fun bx=>?_|refine A.t rfl fun bl=>?_|refine A.step rfl ?_|refine A.v rfl rfl ?_); refine A.ret1 (Λ' := []) rfl rfl rfl (List.nil_sublist _) ⟨?_, rfl⟩; refine Sb.eq (ai32_eq ?_)
      show IntKind.i32.wrap (IntKind.i64.wrap (t.tmod 4294967296 - 4294967296)) = w32 t
      rw [wr64 _ (by omega)]; unfold w32; rw [w32_eq, w32_eq, hm]; split <;> omega
    · (repeat first|refine A.s rfl ?_|refine A.r rfl rfl ?_|refine A.w rfl rfl ?_|refine A.p rfl ?_|refine A.b rfl fun bx=>?_|refine A.t rfl fun bl=>?_|refine A.step rfl ?_|refine A.v rfl rfl ?_); refine A.ret1 (Λ' := []) rfl rfl rfl (List.nil_sublist _) ⟨?_, rfl⟩; refine Sb.eq (ai32_eq ?_)
      show IntKind.i32.wrap (t.tmod 4294967296) = w32 t
      unfold w32; rw [w32_eq, w32_eq, hm]; split <;> omega
theorem rfits_p (t : Int) : Pure Tryz.prog gs0 92 [AI t] (AB (fitB t)) := by
  refine Pure.of (S := tt) (fn := Tryz.f92) (n := 9) tt_ok Tryz.func92 rfl rfl rfl rfl fun w0 h0 F hgs => ?_
  (repeat first|refine A.s rfl ?_|refine A.r rfl rfl ?_|refine A.w rfl rfl ?_|refine A.p rfl ?_|refine A.b rfl fun bx=>?_|refine A.t rfl fun bl=>?_|refine A.step rfl ?_|refine A.v rfl rfl ?_); refine A.ret1 (Λ' := []) rfl rfl rfl (List.nil_sublist _) ⟨?_, rfl⟩; refine Sb.eq (ab_iff ?_); simp [fitB]
theorem rsize_p (v : Int) (hv : i32 v) : Pure Tryz.prog gs0 93 [AI32 v] (AI v.natAbs) := by
  refine Pure.of (S := tt) (fn := Tryz.f93) (n := 10) tt_ok Tryz.func93 rfl rfl rfl rfl fun w0 h0 F hgs => ?_
  (repeat first|refine A.s rfl ?_|refine A.r rfl rfl ?_|refine A.w rfl rfl ?_|refine A.p rfl ?_|refine A.b rfl fun bx=>?_|refine A.t rfl fun bl=>?_|refine A.step rfl ?_|refine A.v rfl rfl ?_)
  refine A.cond rfl (fun hc => ?_) (fun hc => ?_)
  · simp at hc; (repeat first|refine A.s rfl ?_|refine A.r rfl rfl ?_|refine A.w rfl rfl ?_|refine A.p rfl ?_|refine A.b rfl fun bx=>?_|refine A.t rfl fun bl=>?_|refine A.step rfl ?_|refine A.v rfl rfl ?_); refine A.ret1 (Λ' := []) rfl rfl rfl (List.nil_sublist _) ⟨?_, rfl⟩; refine Sb.eq (ai_eq ?_); rw [w64_32 hv, wr64 _ (by unfold i32 at hv; omega)]; omega
  · simp at hc; (repeat first|refine A.s rfl ?_|refine A.r rfl rfl ?_|refine A.w rfl rfl ?_|refine A.p rfl ?_|refine A.b rfl fun bx=>?_|refine A.t rfl fun bl=>?_|refine A.step rfl ?_|refine A.v rfl rfl ?_); refine A.ret1 (Λ' := []) rfl rfl rfl (List.nil_sublist _) ⟨?_, rfl⟩; refine Sb.eq (ai_eq ?_); rw [w64_32 hv]; omega
theorem runs_p (v : Int) (hv : i32 v) : Pure Tryz.prog gs0 94 [AI32 v] (AI (uns v)) := by
  refine Pure.of (S := tt) (fn := Tryz.f94) (n := 10) tt_ok Tryz.func94 rfl rfl rfl rfl fun w0 h0 F hgs => ?_
  (repeat first|refine A.s rfl ?_|refine A.r rfl rfl ?_|refine A.w rfl rfl ?_|refine A.p rfl ?_|refine A.b rfl fun bx=>?_|refine A.t rfl fun bl=>?_|refine A.step rfl ?_|refine A.v rfl rfl ?_)
  refine A.cond rfl (fun hc => ?_) (fun hc => ?_)
  · simp at hc; (repeat first|refine A.s rfl ?_|refine A.r rfl rfl ?_|refine A.w rfl rfl ?_|refine A.p rfl ?_|refine A.b rfl fun bx=>?_|refine A.t rfl fun bl=>?_|refine A.step rfl ?_|refine A.v rfl rfl ?_); refine A.ret1 (Λ' := []) rfl rfl rfl (List.nil_sublist _) ⟨?_, rfl⟩; refine Sb.eq (ai_eq ?_); rw [w64_32 hv, wr64 _ (by unfold i32 at hv; omega)]; simp [uns, hc]
  · simp at hc; (repeat first|refine A.s rfl ?_|refine A.r rfl rfl ?_|refine A.w rfl rfl ?_|refine A.p rfl ?_|refine A.b rfl fun bx=>?_|refine A.t rfl fun bl=>?_|refine A.step rfl ?_|refine A.v rfl rfl ?_); refine A.ret1 (Λ' := []) rfl rfl rfl (List.nil_sublist _) ⟨?_, rfl⟩; refine Sb.eq (ai_eq ?_); rw [w64_32 hv]; simp [uns]; omega
theorem tdiv_abs (a b : Int) : a.tdiv b = if decide (a < 0) != decide (b < 0) then -((a.natAbs / b.natAbs : Nat) : Int) else ((a.natAbs / b.natAbs : Nat) : Int) := by
  rcases Int.natAbs_eq a with ha | ha <;> rcases Int.natAbs_eq b with hb | hb
  · have h1 : ¬ a < 0 := by omega
    have h2 : ¬ b < 0 := by omega
    simp only [h1, h2, decide_false, bne_self_eq_false, Bool.false_eq_true, if_false]
    conv => lhs; rw [ha, hb]
    rfl
  · have h1 : ¬ a < 0 := by omega
    conv => lhs; rw [ha, hb, Int.tdiv_neg]
    by_cases h2 : b < 0
    · simp [h1, h2] <;> rfl
    · have : b.natAbs = 0 := by omega
      simp [this]
  · have h2 : ¬ b < 0 := by omega
    conv => lhs; rw [ha, hb, Int.neg_tdiv]
    by_cases h1 : a < 0
    · simp [h1, h2] <;> rfl
    · have : a.natAbs = 0 := by omega
      simp [this]
  · conv => lhs; rw [ha, hb, Int.neg_tdiv, Int.tdiv_neg, Int.neg_neg]
    by_cases h1 : a < 0
    · by_cases h2 : b < 0
      · simp [h1, h2] <;> rfl
      · have : b.natAbs = 0 := by omega
        simp [this]
    · have : a.natAbs = 0 := by omega
      simp [this]
theorem tmod_abs (a b : Int) : a.tmod b = if a < 0 then -((a.natAbs % b.natAbs : Nat) : Int) else ((a.natAbs % b.natAbs : Nat) : Int) := by
  have hb : a.tmod b = a.tmod b.natAbs := by rcases Int.natAbs_eq b with hb | hb <;> (conv => lhs; rw [hb]) <;> simp [Int.tmod_neg]
  rw [hb]
  split
  · have ha : a = -(a.natAbs : Int) := by omega
    conv => lhs; rw [ha, Int.neg_tmod]
    rfl
  · have ha : a = (a.natAbs : Int) := by omega
    conv => lhs; rw [ha]
    rfl
theorem q_le {a : Int} (ha : i32 a) (n : Nat) : a.natAbs / n ≤ 2147483648 := Nat.le_trans (Nat.div_le_self _ _) (by unfold i32 at ha; omega)
theorem div_canon {a b : Int} (ha : i32 a) (hb : b ≠ 0) : fitB (a.tdiv b) = !divB a b ∧ (divB a b = false → IntKind.i32.wrap (a.tdiv b) = a.tdiv b) := by
  by_cases h : divB a b = true
  · rw [h]; simp [divB, hb] at h
    obtain ⟨rfl, rfl⟩ := h
    exact ⟨by decide, fun h => by cases h⟩
  · have h : divB a b = false := by simpa using h
    have hi := tdiv_in ha h
    rw [h]
    refine ⟨?_, fun _ => w32_id hi⟩
    unfold i32 at hi; simp [fitB]; omega
theorem rdiv_p (a b : Int) (ha : i32 a) (hb : i32 b) : Pure Tryz.prog gs0 67 [AI32 a, AI32 b] (.tp [AI32 (divM a b), AB (divB a b)]) := by
  refine Pure.of (S := tt) (fn := Tryz.f67) (n := 26) tt_ok Tryz.func67 rfl rfl rfl rfl fun w0 h0 F hgs => ?_
  (repeat first|refine A.s rfl ?_|refine A.r rfl rfl ?_|refine A.w rfl rfl ?_|refine A.p rfl ?_|refine A.b rfl fun bx=>?_|refine A.t rfl fun bl=>?_|refine A.step rfl ?_|refine A.v rfl rfl ?_)
  refine A.cond rfl (fun hc => ?_) (fun hc => ?_)
  · simp at hc; (repeat first|refine A.s rfl ?_|refine A.r rfl rfl ?_|refine A.w rfl rfl ?_|refine A.p rfl ?_|refine A.b rfl fun bx=>?_|refine A.t rfl fun bl=>?_|refine A.step rfl ?_|refine A.v rfl rfl ?_); refine A.ret2 (Λ' := []) rfl rfl rfl rfl (List.nil_sublist _) ⟨?_, rfl⟩; refine Sb.eq ?_; simp [divM, divB, hc]
  · simp at hc
    obtain ⟨q, hqq⟩ : ∃ q, q = a.natAbs / b.natAbs := ⟨_, rfl⟩
    have hq : q ≤ 2147483648 := by rw [hqq]; exact q_le ha b.natAbs
    have hab : ((a.natAbs : Int).tdiv (b.natAbs : Int)) = (q : Int) := by rw [hqq]; rfl
    have hT : a.tdiv b = if decide (a < 0) != decide (b < 0) then -(q : Int) else (q : Int) := by rw [hqq]; exact tdiv_abs a b
    have hd := div_canon ha hc
    (repeat first|refine A.s rfl ?_|refine A.r rfl rfl ?_|refine A.w rfl rfl ?_|refine A.p rfl ?_|refine A.b rfl fun bx=>?_|refine A.t rfl fun bl=>?_|refine A.step rfl ?_|refine A.v rfl rfl ?_)
    refine A.c rfl (rsize_p a ha) .refl ?_
    (repeat first|refine A.s rfl ?_|refine A.r rfl rfl ?_|refine A.w rfl rfl ?_|refine A.p rfl ?_|refine A.b rfl fun bx=>?_|refine A.t rfl fun bl=>?_|refine A.step rfl ?_|refine A.v rfl rfl ?_)
    refine A.c rfl (rsize_p b hb) .refl ?_
    (repeat first|refine A.s rfl ?_|refine A.r rfl rfl ?_|refine A.w rfl rfl ?_|refine A.p rfl ?_|refine A.b rfl fun bx=>?_|refine A.t rfl fun bl=>?_|refine A.step rfl ?_|refine A.v rfl rfl ?_)
    refine A.divrem rfl rfl rfl rfl rfl rfl rfl (by omega) ?_
    (repeat first|refine A.s rfl ?_|refine A.r rfl rfl ?_|refine A.w rfl rfl ?_|refine A.p rfl ?_|refine A.b rfl fun bx=>?_|refine A.t rfl fun bl=>?_|refine A.step rfl ?_|refine A.v rfl rfl ?_)
    have e1 : arV .quo .i64 (a.natAbs : Int) (b.natAbs : Int) = (q : Int) := by
      show IntKind.i64.wrap ((a.natAbs : Int).tdiv (b.natAbs : Int)) = _
      rw [hab, wr64 _ (by omega)]
    refine A.cond rfl (fun h1 => ?_) (fun h1 => ?_)
    · have e2 : IntKind.i64.wrap (0 - arV .quo .i64 (a.natAbs : Int) (b.natAbs : Int)) = a.tdiv b := by
        rw [e1, wr64 _ (by omega), hT, if_pos (by simpa using h1)]; omega
      (repeat first|refine A.s rfl ?_|refine A.r rfl rfl ?_|refine A.w rfl rfl ?_|refine A.p rfl ?_|refine A.b rfl fun bx=>?_|refine A.t rfl fun bl=>?_|refine A.step rfl ?_|refine A.v rfl rfl ?_)
      refine A.c rfl (rfits_p _) .refl ?_
      (repeat first|refine A.s rfl ?_|refine A.r rfl rfl ?_|refine A.w rfl rfl ?_|refine A.p rfl ?_|refine A.b rfl fun bx=>?_|refine A.t rfl fun bl=>?_|refine A.step rfl ?_|refine A.v rfl rfl ?_)
      refine A.cond rfl (fun h2 => ?_) (fun h2 => ?_)
      · rw [e2, hd.1] at h2; simp at h2
        (repeat first|refine A.s rfl ?_|refine A.r rfl rfl ?_|refine A.w rfl rfl ?_|refine A.p rfl ?_|refine A.b rfl fun bx=>?_|refine A.t rfl fun bl=>?_|refine A.step rfl ?_|refine A.v rfl rfl ?_); refine A.ret2 (Λ' := []) rfl rfl rfl rfl (List.nil_sublist _) ⟨?_, rfl⟩; refine Sb.eq ?_; simp [divM, h2]
      · rw [e2, hd.1] at h2; simp at h2
        (repeat first|refine A.s rfl ?_|refine A.r rfl rfl ?_|refine A.w rfl rfl ?_|refine A.p rfl ?_|refine A.b rfl fun bx=>?_|refine A.t rfl fun bl=>?_|refine A.step rfl ?_|refine A.v rfl rfl ?_); refine A.ret2 (Λ' := []) rfl rfl rfl rfl (List.nil_sublist _) ⟨?_, rfl⟩; refine Sb.eq ?_
        show AV.tp [AI32 (IntKind.i32.wrap (IntKind.i64.wrap (0 - arV .quo .i64 (a.natAbs : Int) (b.natAbs : Int)))), AB false] = _
        rw [e2, hd.2 h2]; simp [divM, h2]
    · have e2 : arV .quo .i64 (a.natAbs : Int) (b.natAbs : Int) = a.tdiv b := by
        rw [e1, hT, if_neg (by simpa using h1)]
      (repeat first|refine A.s rfl ?_|refine A.r rfl rfl ?_|refine A.w rfl rfl ?_|refine A.p rfl ?_|refine A.b rfl fun bx=>?_|refine A.t rfl fun bl=>?_|refine A.step rfl ?_|refine A.v rfl rfl ?_)
      refine A.c rfl (rfits_p _) .refl ?_
      (repeat first|refine A.s rfl ?_|refine A.r rfl rfl ?_|refine A.w rfl rfl ?_|refine A.p rfl ?_|refine A.b rfl fun bx=>?_|refine A.t rfl fun bl=>?_|refine A.step rfl ?_|refine A.v rfl rfl ?_)
      refine A.cond rfl (fun h2 => ?_) (fun h2 => ?_)
      · rw [e2, hd.1] at h2; simp at h2
        (repeat first|refine A.s rfl ?_|refine A.r rfl rfl ?_|refine A.w rfl rfl ?_|refine A.p rfl ?_|refine A.b rfl fun bx=>?_|refine A.t rfl fun bl=>?_|refine A.step rfl ?_|refine A.v rfl rfl ?_); refine A.ret2 (Λ' := []) rfl rfl rfl rfl (List.nil_sublist _) ⟨?_, rfl⟩; refine Sb.eq ?_; simp [divM, h2]
      · rw [e2, hd.1] at h2; simp at h2
        (repeat first|refine A.s rfl ?_|refine A.r rfl rfl ?_|refine A.w rfl rfl ?_|refine A.p rfl ?_|refine A.b rfl fun bx=>?_|refine A.t rfl fun bl=>?_|refine A.step rfl ?_|refine A.v rfl rfl ?_); refine A.ret2 (Λ' := []) rfl rfl rfl rfl (List.nil_sublist _) ⟨?_, rfl⟩; refine Sb.eq ?_
        show AV.tp [AI32 (IntKind.i32.wrap (arV .quo .i64 (a.natAbs : Int) (b.natAbs : Int))), AB false] = _
        rw [e2, hd.2 h2]; simp [divM, h2]
theorem rrem_p (a b : Int) (ha : i32 a) (hb : i32 b) : Pure Tryz.prog gs0 68 [AI32 a, AI32 b] (.tp [AI32 (remM a b), AB (b == 0)]) := by
  refine Pure.of (S := tt) (fn := Tryz.f68) (n := 20) tt_ok Tryz.func68 rfl rfl rfl rfl fun w0 h0 F hgs => ?_
  (repeat first|refine A.s rfl ?_|refine A.r rfl rfl ?_|refine A.w rfl rfl ?_|refine A.p rfl ?_|refine A.b rfl fun bx=>?_|refine A.t rfl fun bl=>?_|refine A.step rfl ?_|refine A.v rfl rfl ?_)
  refine A.cond rfl (fun hc => ?_) (fun hc => ?_)
  · simp at hc; (repeat first|refine A.s rfl ?_|refine A.r rfl rfl ?_|refine A.w rfl rfl ?_|refine A.p rfl ?_|refine A.b rfl fun bx=>?_|refine A.t rfl fun bl=>?_|refine A.step rfl ?_|refine A.v rfl rfl ?_); refine A.ret2 (Λ' := []) rfl rfl rfl rfl (List.nil_sublist _) ⟨?_, rfl⟩; refine Sb.eq ?_; simp [remM, hc]
  · simp at hc
    obtain ⟨q, hqq⟩ : ∃ q, q = a.natAbs % b.natAbs := ⟨_, rfl⟩
    have hr : q ≤ 2147483648 := by rw [hqq]; exact Nat.le_trans (Nat.mod_le _ _) (by unfold i32 at ha; omega)
    have hlt : q < b.natAbs := by rw [hqq]; exact Nat.mod_lt _ (by omega)
    have hab : ((a.natAbs : Int).tmod (b.natAbs : Int)) = (q : Int) := by rw [hqq]; rfl
    have hT : a.tmod b = if a < 0 then -(q : Int) else (q : Int) := by rw [hqq]; exact tmod_abs a b
    have hin : i32 (a.tmod b) := by unfold i32 at hb ⊢; rw [hT]; split <;> omega
    (repeat first|refine A.s rfl ?_|refine A.r rfl rfl ?_|refine A.w rfl rfl ?_|refine A.p rfl ?_|refine A.b rfl fun bx=>?_|refine A.t rfl fun bl=>?_|refine A.step rfl ?_|refine A.v rfl rfl ?_)
    refine A.c rfl (rsize_p a ha) .refl ?_
    (repeat first|refine A.s rfl ?_|refine A.r rfl rfl ?_|refine A.w rfl rfl ?_|refine A.p rfl ?_|refine A.b rfl fun bx=>?_|refine A.t rfl fun bl=>?_|refine A.step rfl ?_|refine A.v rfl rfl ?_)
    refine A.c rfl (rsize_p b hb) .refl ?_
    (repeat first|refine A.s rfl ?_|refine A.r rfl rfl ?_|refine A.w rfl rfl ?_|refine A.p rfl ?_|refine A.b rfl fun bx=>?_|refine A.t rfl fun bl=>?_|refine A.step rfl ?_|refine A.v rfl rfl ?_)
    refine A.divrem rfl rfl rfl rfl rfl rfl rfl (by omega) ?_
    (repeat first|refine A.s rfl ?_|refine A.r rfl rfl ?_|refine A.w rfl rfl ?_|refine A.p rfl ?_|refine A.b rfl fun bx=>?_|refine A.t rfl fun bl=>?_|refine A.step rfl ?_|refine A.v rfl rfl ?_)
    refine A.cond rfl (fun h1 => ?_) (fun h1 => ?_)
    · simp at h1
      (repeat first|refine A.s rfl ?_|refine A.r rfl rfl ?_|refine A.w rfl rfl ?_|refine A.p rfl ?_|refine A.b rfl fun bx=>?_|refine A.t rfl fun bl=>?_|refine A.step rfl ?_|refine A.v rfl rfl ?_); refine A.ret2 (Λ' := []) rfl rfl rfl rfl (List.nil_sublist _) ⟨?_, rfl⟩; refine Sb.eq ?_
      show AV.tp [AI32 (IntKind.i32.wrap (IntKind.i64.wrap (0 - (a.natAbs : Int).tmod (b.natAbs : Int)))), AB false] = _
      have : IntKind.i64.wrap (0 - (a.natAbs : Int).tmod (b.natAbs : Int)) = a.tmod b := by rw [hab, wr64 _ (by omega), hT, if_pos h1]; omega
      rw [this, w32_id hin]; simp [remM, hc]
    · simp at h1
      (repeat first|refine A.s rfl ?_|refine A.r rfl rfl ?_|refine A.w rfl rfl ?_|refine A.p rfl ?_|refine A.b rfl fun bx=>?_|refine A.t rfl fun bl=>?_|refine A.step rfl ?_|refine A.v rfl rfl ?_); refine A.ret2 (Λ' := []) rfl rfl rfl rfl (List.nil_sublist _) ⟨?_, rfl⟩; refine Sb.eq ?_
      show AV.tp [AI32 (IntKind.i32.wrap ((a.natAbs : Int).tmod (b.natAbs : Int))), AB false] = _
      have : (a.natAbs : Int).tmod (b.natAbs : Int) = a.tmod b := by rw [hab, hT, if_neg (by omega)]
      rw [this, w32_id hin]; simp [remM, hc]
theorem rmul_p (a b : Int) (ha : i32 a) (hb : i32 b) : Pure Tryz.prog gs0 70 [AI32 a, AI32 b] (.tp [AI32 (w32 (a * b)), AB (!fitB (a * b))]) := by
  have h := mul_bound ha hb
  refine Pure.of (S := tt) (fn := Tryz.f70) (n := 17) tt_ok Tryz.func70 rfl rfl rfl rfl fun w0 h0 F hgs => ?_
  (repeat first|refine A.s rfl ?_|refine A.r rfl rfl ?_|refine A.w rfl rfl ?_|refine A.p rfl ?_|refine A.b rfl fun bx=>?_|refine A.t rfl fun bl=>?_|refine A.step rfl ?_|refine A.v rfl rfl ?_)
  have e1 : IntKind.i64.wrap (IntKind.i64.wrap a * IntKind.i64.wrap b) = a * b := by rw [w64_32 ha, w64_32 hb, w64_id h]
  refine A.valE 12 rfl (x' := AI (a * b)) (ai_eq e1) ?_
  refine A.c rfl (rwrap_p _ h) .refl ?_
  (repeat first|refine A.s rfl ?_|refine A.r rfl rfl ?_|refine A.w rfl rfl ?_|refine A.p rfl ?_|refine A.b rfl fun bx=>?_|refine A.t rfl fun bl=>?_|refine A.step rfl ?_|refine A.v rfl rfl ?_)
  refine A.valE 14 rfl (x' := AI (a * b)) (ai_eq e1) ?_
  refine A.c rfl (rfits_p _) .refl ?_
  (repeat first|refine A.s rfl ?_|refine A.r rfl rfl ?_|refine A.w rfl rfl ?_|refine A.p rfl ?_|refine A.b rfl fun bx=>?_|refine A.t rfl fun bl=>?_|refine A.step rfl ?_|refine A.v rfl rfl ?_); refine A.ret2 (Λ' := []) rfl rfl rfl rfl (List.nil_sublist _) ⟨?_, rfl⟩; exact .refl
theorem rsub_p (a b : Int) (ha : i32 a) (hb : i32 b) : Pure Tryz.prog gs0 96 [AI32 a, AI32 b] (.tp [AI32 (w32 (a - b)), AB (!fitB (a - b))]) := by
  have h : i64 (a - b) := by unfold i32 at ha hb; unfold i64; omega
  refine Pure.of (S := tt) (fn := Tryz.f96) (n := 17) tt_ok Tryz.func96 rfl rfl rfl rfl fun w0 h0 F hgs => ?_
  have e1 : IntKind.i64.wrap (IntKind.i64.wrap a - IntKind.i64.wrap b) = a - b := by rw [w64_32 ha, w64_32 hb, w64_id h]
  (repeat first|refine A.s rfl ?_|refine A.r rfl rfl ?_|refine A.w rfl rfl ?_|refine A.p rfl ?_|refine A.b rfl fun bx=>?_|refine A.t rfl fun bl=>?_|refine A.step rfl ?_|refine A.v rfl rfl ?_)
  refine A.valE 12 rfl (x' := AI (a - b)) (ai_eq e1) ?_
  refine A.c rfl (rwrap_p _ h) .refl ?_
  (repeat first|refine A.s rfl ?_|refine A.r rfl rfl ?_|refine A.w rfl rfl ?_|refine A.p rfl ?_|refine A.b rfl fun bx=>?_|refine A.t rfl fun bl=>?_|refine A.step rfl ?_|refine A.v rfl rfl ?_)
  refine A.valE 14 rfl (x' := AI (a - b)) (ai_eq e1) ?_
  refine A.c rfl (rfits_p _) .refl ?_
  (repeat first|refine A.s rfl ?_|refine A.r rfl rfl ?_|refine A.w rfl rfl ?_|refine A.p rfl ?_|refine A.b rfl fun bx=>?_|refine A.t rfl fun bl=>?_|refine A.step rfl ?_|refine A.v rfl rfl ?_); refine A.ret2 (Λ' := []) rfl rfl rfl rfl (List.nil_sublist _) ⟨?_, rfl⟩; exact .refl
theorem rafter_p (a b : Int) (ha : i32 a) (hb : i32 b) : Pure Tryz.prog gs0 75 [AI32 a, AI32 b] (AB (decide (0 < w32 (a - b)))) := by
  refine Pure.of (S := tt) (fn := Tryz.f75) (n := 15) tt_ok Tryz.func75 rfl rfl rfl rfl fun w0 h0 F hgs => ?_
  (repeat first|refine A.s rfl ?_|refine A.r rfl rfl ?_|refine A.w rfl rfl ?_|refine A.p rfl ?_|refine A.b rfl fun bx=>?_|refine A.t rfl fun bl=>?_|refine A.step rfl ?_|refine A.v rfl rfl ?_)
  refine A.c rfl (rsub_p a b ha hb) .refl ?_
  (repeat first|refine A.s rfl ?_|refine A.r rfl rfl ?_|refine A.w rfl rfl ?_|refine A.p rfl ?_|refine A.b rfl fun bx=>?_|refine A.t rfl fun bl=>?_|refine A.step rfl ?_|refine A.v rfl rfl ?_); refine A.ret1 (Λ' := []) rfl rfl rfl (List.nil_sublist _) ⟨?_, rfl⟩; exact .refl

/-! ### the shifts, place by place -/
theorem w64_w32 (n : Int) : IntKind.i64.wrap (w32 n) = w32 n := w64_32 (w32_in n)
theorem w32_mul (x y : Int) : w32 (w32 x * y) = w32 (x * y) := by
  unfold w32
  have h : IntKind.i32.wrap x = x - 4294967296 * ((x + 2147483648) / 4294967296) := by rw [w32_eq]; omega
  rw [h, Int.sub_mul, Int.mul_assoc, w32_eq, w32_eq]
  generalize (x + 2147483648) / 4294967296 * y = z
  omega
theorem rshl_p (a n : Int) (ha : i32 a) (hn : i32 n) : Pure Tryz.prog gs0 72 [AI32 a, AI32 n] (AI32 (shlM a n)) := by
  have hun := uns_in hn
  refine Pure.of (S := tt) (fn := Tryz.f72) (n := 23) tt_ok Tryz.func72 rfl rfl rfl rfl fun w0 h0 F hgs => ?_
  (repeat first|refine A.s rfl ?_|refine A.r rfl rfl ?_|refine A.w rfl rfl ?_|refine A.p rfl ?_|refine A.b rfl fun bx=>?_|refine A.t rfl fun bl=>?_|refine A.step rfl ?_|refine A.v rfl rfl ?_)
  refine A.valE 5 rfl (x' := AI32 (w32 (a * 2 ^ 0))) (by rw [show a * 2 ^ 0 = a by simp]; unfold w32; rw [w32_id ha]) ?_
  refine A.keep [1, 5, 6] rfl ?_
  refine A.loopP (ι := Nat) (fun i => (⟨[(1, AI32 n), (5, AI32 (w32 (a * 2 ^ i))), (6, AI (i : Int))], []⟩, [])) (fun i => i ≤ 32 ∧ (i : Int) ≤ uns n) (fun i => 32 - i) 0 ⟨by omega, by simpa using hun.1⟩ rfl fun i hi ih => ?_
  (repeat first|refine A.s rfl ?_|refine A.r rfl rfl ?_|refine A.w rfl rfl ?_|refine A.p rfl ?_|refine A.b rfl fun bx=>?_|refine A.t rfl fun bl=>?_|refine A.step rfl ?_|refine A.v rfl rfl ?_)
  refine A.c rfl (runs_p n hn) .refl ?_
  (repeat first|refine A.s rfl ?_|refine A.r rfl rfl ?_|refine A.w rfl rfl ?_|refine A.p rfl ?_|refine A.b rfl fun bx=>?_|refine A.t rfl fun bl=>?_|refine A.step rfl ?_|refine A.v rfl rfl ?_)
  refine A.cond rfl (fun hc => ?_) (fun hc => ?_)
  · simp at hc
    (repeat first|refine A.s rfl ?_|refine A.r rfl rfl ?_|refine A.w rfl rfl ?_|refine A.p rfl ?_|refine A.b rfl fun bx=>?_|refine A.t rfl fun bl=>?_|refine A.step rfl ?_|refine A.v rfl rfl ?_)
    have hw : i64 (2 * w32 (a * 2 ^ i)) := by have := w32_in (a * 2 ^ i); unfold i32 at this; unfold w32 i64; omega
    have e1 : IntKind.i64.wrap (2 * IntKind.i64.wrap (w32 (a * 2 ^ i))) = 2 * w32 (a * 2 ^ i) := by rw [w64_w32, w64_id hw]
    refine A.valE 20 rfl (x' := AI (2 * w32 (a * 2 ^ i))) (ai_eq e1) ?_
    refine A.c rfl (rwrap_p _ hw) .refl ?_
    (repeat first|refine A.s rfl ?_|refine A.r rfl rfl ?_|refine A.w rfl rfl ?_|refine A.p rfl ?_|refine A.b rfl fun bx=>?_|refine A.t rfl fun bl=>?_|refine A.step rfl ?_|refine A.v rfl rfl ?_)
    refine A.valE 5 rfl (x' := AI32 (w32 (a * 2 ^ (i + 1)))) (ai32_eq ?_) ?_
    · rw [Int.mul_comm, w32_mul]; congr 1; rw [Int.pow_succ, Int.mul_assoc]
    refine A.valE 6 rfl (x' := AI ((i + 1 : Nat) : Int)) (inc_eq i (by omega)) ?_
    refine A.sub (by repeat (first | exact trivial | refine ⟨⟨_, rfl, .refl⟩, ?_⟩)) (ih (i + 1) ⟨by omega, by omega⟩ (by omega))
  · simp at hc
    (repeat first|refine A.s rfl ?_|refine A.r rfl rfl ?_|refine A.w rfl rfl ?_|refine A.p rfl ?_|refine A.b rfl fun bx=>?_|refine A.t rfl fun bl=>?_|refine A.step rfl ?_|refine A.v rfl rfl ?_); refine A.ret1 (Λ' := []) rfl rfl rfl (List.nil_sublist _) ⟨?_, rfl⟩; refine Sb.eq (ai32_eq ?_)
    unfold shlM
    split
    · rename_i h
      have hi32 : i = 32 := by omega
      subst hi32
      unfold w32; rw [w32_eq, show (2 : Int) ^ 32 = 4294967296 by decide]; omega
    · rename_i h
      obtain ⟨h1, h2, h3⟩ := uns_small hn h
      have : i = n.toNat := by omega
      rw [this]
theorem rshr_p (a n : Int) (ha : i32 a) (hn : i32 n) : Pure Tryz.prog gs0 73 [AI32 a, AI32 n] (AI32 (shrM a n)) := by
  have hun := uns_in hn
  have hua := uns_in ha
  have hdiv : ∀ i : Nat, 0 ≤ uns a / 2 ^ i ∧ uns a / 2 ^ i < 4294967296 := fun i => by
    have hp : (0 : Int) < 2 ^ i := Int.pow_pos (by decide)
    refine ⟨Int.ediv_nonneg hua.1 (Int.le_of_lt hp), ?_⟩
    have : uns a / 2 ^ i ≤ uns a := Int.ediv_le_self _ hua.1
    omega
  refine Pure.of (S := tt) (fn := Tryz.f73) (n := 23) tt_ok Tryz.func73 rfl rfl rfl rfl fun w0 h0 F hgs => ?_
  (repeat first|refine A.s rfl ?_|refine A.r rfl rfl ?_|refine A.w rfl rfl ?_|refine A.p rfl ?_|refine A.b rfl fun bx=>?_|refine A.t rfl fun bl=>?_|refine A.step rfl ?_|refine A.v rfl rfl ?_)
  refine A.c rfl (runs_p a ha) .refl ?_
  (repeat first|refine A.s rfl ?_|refine A.r rfl rfl ?_|refine A.w rfl rfl ?_|refine A.p rfl ?_|refine A.b rfl fun bx=>?_|refine A.t rfl fun bl=>?_|refine A.step rfl ?_|refine A.v rfl rfl ?_)
  refine A.valE 5 rfl (x' := AI (uns a / 2 ^ 0)) (by simp) ?_
  refine A.keep [1, 5, 6] rfl ?_
  refine A.loopP (ι := Nat) (fun i => (⟨[(1, AI32 n), (5, AI (uns a / 2 ^ i)), (6, AI (i : Int))], []⟩, [])) (fun i => i ≤ 32 ∧ (i : Int) ≤ uns n) (fun i => 32 - i) 0 ⟨by omega, by simpa using hun.1⟩ rfl fun i hi ih => ?_
  (repeat first|refine A.s rfl ?_|refine A.r rfl rfl ?_|refine A.w rfl rfl ?_|refine A.p rfl ?_|refine A.b rfl fun bx=>?_|refine A.t rfl fun bl=>?_|refine A.step rfl ?_|refine A.v rfl rfl ?_)
  refine A.c rfl (runs_p n hn) .refl ?_
  (repeat first|refine A.s rfl ?_|refine A.r rfl rfl ?_|refine A.w rfl rfl ?_|refine A.p rfl ?_|refine A.b rfl fun bx=>?_|refine A.t rfl fun bl=>?_|refine A.step rfl ?_|refine A.v rfl rfl ?_)
  have hdi := hdiv i
  refine A.cond rfl (fun hc => ?_) (fun hc => ?_)
  · simp at hc
    (repeat first|refine A.s rfl ?_|refine A.r rfl rfl ?_|refine A.w rfl rfl ?_|refine A.p rfl ?_|refine A.b rfl fun bx=>?_|refine A.t rfl fun bl=>?_|refine A.step rfl ?_|refine A.v rfl rfl ?_)
    refine A.divrem rfl rfl rfl rfl rfl rfl rfl (by decide) ?_
    (repeat first|refine A.s rfl ?_|refine A.r rfl rfl ?_|refine A.w rfl rfl ?_|refine A.p rfl ?_|refine A.b rfl fun bx=>?_|refine A.t rfl fun bl=>?_|refine A.step rfl ?_|refine A.v rfl rfl ?_)
    refine A.valE 5 rfl (x' := AI (uns a / 2 ^ (i + 1))) (ai_eq ?_) ?_
    · show IntKind.i64.wrap ((uns a / 2 ^ i).tdiv 2) = _
      rw [Int.tdiv_eq_ediv_of_nonneg hdi.1, wr64 _ (by omega), Int.ediv_ediv_of_nonneg (Int.le_of_lt (Int.pow_pos (by decide))), Int.pow_succ]
    refine A.valE 6 rfl (x' := AI ((i + 1 : Nat) : Int)) (inc_eq i (by omega)) ?_
    refine A.sub (by repeat (first | exact trivial | refine ⟨⟨_, rfl, .refl⟩, ?_⟩)) (ih (i + 1) ⟨by omega, by omega⟩ (by omega))
  · simp at hc
    (repeat first|refine A.s rfl ?_|refine A.r rfl rfl ?_|refine A.w rfl rfl ?_|refine A.p rfl ?_|refine A.b rfl fun bx=>?_|refine A.t rfl fun bl=>?_|refine A.step rfl ?_|refine A.v rfl rfl ?_)
    refine A.c rfl (rwrap_p (uns a / 2 ^ i) (by unfold i64; omega)) .refl ?_
    (repeat first|refine A.s rfl ?_|refine A.r rfl rfl ?_|refine A.w rfl rfl ?_|refine A.p rfl ?_|refine A.b rfl fun bx=>?_|refine A.t rfl fun bl=>?_|refine A.step rfl ?_|refine A.v rfl rfl ?_); refine A.ret1 (Λ' := []) rfl rfl rfl (List.nil_sublist _) ⟨?_, rfl⟩; refine Sb.eq (ai32_eq ?_)
    unfold shrM
    split
    · rename_i h
      have hi32 : i = 32 := by omega
      subst hi32
      have : uns a / 2 ^ 32 = 0 := by rw [show (2 : Int) ^ 32 = 4294967296 by decide]; omega
      rw [this]; decide
    · rename_i h
      obtain ⟨h1, h2, h3⟩ := uns_small hn h
      have : i = n.toNat := by omega
      rw [this]
end Go.Proofs.YtlnbmocgnkjlfaaGreat
