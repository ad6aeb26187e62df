/-
  Chapter 23: large, Same.
-/
import Derived.Test.YtpilobbmijpnoaaQ23a

namespace Go.Proofs.Ytpilobbmijpnoaa
open Go Go.Tp
set_option linter.unusedVariables false
set_option linter.unusedSimpArgs false
set_option maxRecDepth 100000
set_option maxHeartbeats 4000000

/-! ### large -/
structure ShortN (c : Procs) : Prop where
  procs : c.length ≤ 281474976710656
  steps : ∀ p, p ∈ c → p.length ≤ 281474976710656
  uses : ∀ p, p ∈ c → ∀ s, s ∈ p → s.length ≤ 281474976710656
def largeB (c : Procs) : Bool := decide (20 < c.length) || (c.any fun p => decide (70 < p.length)) || decide (200 < sizeN c)
theorem small_of {c : Procs} (h : largeB c = false) : Small c := by
  simp only [largeB, Bool.or_eq_false_iff, decide_eq_false_iff_not, List.any_eq_false, decide_eq_true_eq] at h
  exact ⟨by omega, fun p hp => by have := h.1.2 p hp; omega, by omega⟩
/-- what is still to be counted -/
def restB (c : Procs) (acc : Nat) : Bool := (c.any fun p => decide (70 < p.length)) || decide (200 < acc + sizeN c)
theorem large_p (n : Int) (c : Procs) (hs : ShortN c) : Pure Try.prog gs0 5 [netA n c] (AB (largeB c)) := by
  have hcl : ((c.map procA).length : Int) = c.length := by rw [List.length_map]
  by_cases h20 : 20 < c.length
  · refine Pure.of (S := tt) (fn := Try.f5) (n := 48) tt_ok Try.func5 rfl rfl rfl rfl fun w0 h0 F hgs => ?_
    (repeat first|refine A.s rfl ?_|refine A.r rfl rfl ?_|refine A.w rfl rfl ?_|refine A.p rfl ?_|refine A.b rfl fun bx=>?_|refine A.t rfl fun bl=>?_|refine A.step rfl ?_|refine A.v rfl rfl ?_)
    refine A.valE 9 rfl (x' := AB true) (ab_eq (by simp; omega)) ?_
    (repeat first|refine A.s rfl ?_|refine A.r rfl rfl ?_|refine A.w rfl rfl ?_|refine A.p rfl ?_|refine A.b rfl fun bx=>?_|refine A.t rfl fun bl=>?_|refine A.step rfl ?_|refine A.v rfl rfl ?_); refine A.ret1 (Λ' := []) rfl rfl rfl (List.nil_sublist _) ⟨?_, rfl⟩; exact Sb.eq (ab_eq (by simp [largeB, h20]))
  refine Pure.of (S := tt) (fn := Try.f5) (n := 48) tt_ok Try.func5 rfl rfl rfl rfl fun w0 h0 F hgs => ?_
  (repeat first|refine A.s rfl ?_|refine A.r rfl rfl ?_|refine A.w rfl rfl ?_|refine A.p rfl ?_|refine A.b rfl fun bx=>?_|refine A.t rfl fun bl=>?_|refine A.step rfl ?_|refine A.v rfl rfl ?_)
  refine A.valE 9 rfl (x' := AB false) (ab_eq (by simp; omega)) ?_
  (repeat first|refine A.s rfl ?_|refine A.r rfl rfl ?_|refine A.w rfl rfl ?_|refine A.p rfl ?_|refine A.b rfl fun bx=>?_|refine A.t rfl fun bl=>?_|refine A.step rfl ?_|refine A.v rfl rfl ?_)
  refine A.keep [1, 3, 4] rfl ?_
  refine A.loopP (ι := Nat × Nat) (fun p => (⟨[(1, .v (.pointer (some ⟨_, 0, none⟩))), (3, AI (p.2 : Nat)), (4, AI (p.1 : Nat))], []⟩, [.box _ (.ag [AI n, procsA c])]))
    (fun p => p.1 ≤ c.length ∧ p.2 ≤ p.1 * (71 * 281474976710657) ∧ restB (c.drop p.1) p.2 = largeB c) (fun p => c.length - p.1) (0, 0) ⟨by omega, by omega, by simp [restB, largeB, h20]⟩ rfl fun p hi ih => ?_
  obtain ⟨i, acc⟩ := p
  simp only at hi ih ⊢
  (repeat first|refine A.s rfl ?_|refine A.r rfl rfl ?_|refine A.w rfl rfl ?_|refine A.p rfl ?_|refine A.b rfl fun bx=>?_|refine A.t rfl fun bl=>?_|refine A.step rfl ?_|refine A.v rfl rfl ?_)
  refine A.cond rfl (fun hc => ?_) (fun hc => ?_)
  · simp at hc
    refine Exists.elim (at_exN (l := c) (i := i) hc) fun p hp => ?_
    have hpm : p ∈ c := List.mem_of_getElem? hp
    have hpl : ((p.map rowA).length : Int) = p.length := by rw [List.length_map]
    (repeat first|refine A.s rfl ?_|refine A.r rfl rfl ?_|refine A.w rfl rfl ?_|refine A.p rfl ?_|refine A.b rfl fun bx=>?_|refine A.t rfl fun bl=>?_|refine A.step rfl ?_|refine A.v rfl rfl ?_)
    refine A.x rfl (by omega) (map_at hp) rfl rfl ?_
    (repeat first|refine A.s rfl ?_|refine A.r rfl rfl ?_|refine A.w rfl rfl ?_|refine A.p rfl ?_|refine A.b rfl fun bx=>?_|refine A.t rfl fun bl=>?_|refine A.step rfl ?_|refine A.v rfl rfl ?_)
    by_cases h70 : 70 < p.length
    · refine A.valE 23 rfl (x' := AB true) (ab_eq (by simp; omega)) ?_
      (repeat first|refine A.s rfl ?_|refine A.r rfl rfl ?_|refine A.w rfl rfl ?_|refine A.p rfl ?_|refine A.b rfl fun bx=>?_|refine A.t rfl fun bl=>?_|refine A.step rfl ?_|refine A.v rfl rfl ?_); refine A.ret1 (Λ' := []) rfl rfl rfl (List.nil_sublist _) ⟨?_, rfl⟩; refine Sb.eq (ab_eq ?_)
      rw [← hi.2.2, drop_at hp, restB]; simp [h70]
    refine A.valE 23 rfl (x' := AB false) (ab_eq (by simp; omega)) ?_
    (repeat first|refine A.s rfl ?_|refine A.r rfl rfl ?_|refine A.w rfl rfl ?_|refine A.p rfl ?_|refine A.b rfl fun bx=>?_|refine A.t rfl fun bl=>?_|refine A.step rfl ?_|refine A.v rfl rfl ?_)
    refine A.keep [1, 3, 4, 5] rfl ?_
    refine A.loopP (ι := Nat × Nat) (fun q => (⟨[(1, .v (.pointer (some ⟨_, 0, none⟩))), (3, AI (q.2 : Nat)), (4, AI (i : Nat)), (5, AI (q.1 : Nat))], []⟩, [.box _ (.ag [AI n, procsA c])]))
      (fun q => q.1 ≤ p.length ∧ q.2 ≤ acc + q.1 * 281474976710657 ∧ q.2 + sizeP (p.drop q.1) = acc + sizeP p) (fun q => p.length - q.1) (0, acc) ⟨by omega, by omega, by simp⟩ rfl fun q hj jh => ?_
    obtain ⟨j, acc'⟩ := q
    simp only at hj jh ⊢
    (repeat first|refine A.s rfl ?_|refine A.r rfl rfl ?_|refine A.w rfl rfl ?_|refine A.p rfl ?_|refine A.b rfl fun bx=>?_|refine A.t rfl fun bl=>?_|refine A.step rfl ?_|refine A.v rfl rfl ?_)
    refine A.x rfl (by omega) (map_at hp) rfl rfl ?_
    (repeat first|refine A.s rfl ?_|refine A.r rfl rfl ?_|refine A.w rfl rfl ?_|refine A.p rfl ?_|refine A.b rfl fun bx=>?_|refine A.t rfl fun bl=>?_|refine A.step rfl ?_|refine A.v rfl rfl ?_)
    refine A.cond rfl (fun hc => ?_) (fun hc => ?_)
    · simp at hc
      refine Exists.elim (at_exN (l := p) (i := j) hc) fun s hs' => ?_
      have hsm : s ∈ p := List.mem_of_getElem? hs'
      have hsl : ((s.map AI).length : Int) = s.length := by rw [List.length_map]
      have hu := hs.uses p hpm s hsm
      (repeat first|refine A.s rfl ?_|refine A.r rfl rfl ?_|refine A.w rfl rfl ?_|refine A.p rfl ?_|refine A.b rfl fun bx=>?_|refine A.t rfl fun bl=>?_|refine A.step rfl ?_|refine A.v rfl rfl ?_)
      refine A.x rfl (by omega) (map_at hp) rfl rfl ?_
      (repeat first|refine A.s rfl ?_|refine A.r rfl rfl ?_|refine A.w rfl rfl ?_|refine A.p rfl ?_|refine A.b rfl fun bx=>?_|refine A.t rfl fun bl=>?_|refine A.step rfl ?_|refine A.v rfl rfl ?_)
      refine A.x rfl (by omega) (map_at hs') rfl rfl ?_
      (repeat first|refine A.s rfl ?_|refine A.r rfl rfl ?_|refine A.w rfl rfl ?_|refine A.p rfl ?_|refine A.b rfl fun bx=>?_|refine A.t rfl fun bl=>?_|refine A.step rfl ?_|refine A.v rfl rfl ?_)
      refine A.valE 3 rfl (x' := AI ((acc' + 1 + s.length : Nat) : Int)) (ai_eq ?_) ?_
      · rw [List.length_map, w64_id (n := (acc' : Int) + 1) (by unfold i64; omega), w64_id (by unfold i64; omega)]; push_cast; omega
      refine A.valE 5 rfl (x' := AI ((j + 1 : Nat) : Int)) (inc_eq j (by omega)) ?_
      refine A.sub (by repeat (first | exact trivial | refine ⟨⟨_, rfl, .refl⟩, ?_⟩)) (jh (j + 1, acc' + 1 + s.length) ⟨by omega, by simp only; omega, ?_⟩ (by simp only; omega))
      have h3 := hj.2.2
      rw [drop_at hs', sizeP_cons] at h3
      simp only
      omega
    · simp at hc
      (repeat first|refine A.s rfl ?_|refine A.r rfl rfl ?_|refine A.w rfl rfl ?_|refine A.p rfl ?_|refine A.b rfl fun bx=>?_|refine A.t rfl fun bl=>?_|refine A.step rfl ?_|refine A.v rfl rfl ?_)
      refine A.valE 4 rfl (x' := AI ((i + 1 : Nat) : Int)) (inc_eq i (by omega)) ?_
      refine A.sub (by repeat (first | exact trivial | refine ⟨⟨_, rfl, .refl⟩, ?_⟩)) (ih (i + 1, acc') ⟨by omega, by simp only; omega, ?_⟩ (by simp only; omega))
      have h3 := hj.2.2
      have h4 := hi.2.2
      have hjl : j = p.length := by omega
      rw [hjl, List.drop_length] at h3
      rw [drop_at hp] at h4
      simp only [sizeP, List.map_nil, List.sum_nil, Nat.add_zero] at h3
      rw [← h4]
      simp only [restB, List.any_cons, sizeN_cons, h3, sizeP, decide_eq_false h70, Bool.false_or, Nat.add_assoc]
  · simp at hc
    have hil : i = c.length := by omega
    subst hil
    (repeat first|refine A.s rfl ?_|refine A.r rfl rfl ?_|refine A.w rfl rfl ?_|refine A.p rfl ?_|refine A.b rfl fun bx=>?_|refine A.t rfl fun bl=>?_|refine A.step rfl ?_|refine A.v rfl rfl ?_); refine A.ret1 (Λ' := []) rfl rfl rfl (List.nil_sublist _) ⟨?_, rfl⟩; refine Sb.eq (ab_eq ?_)
    rw [← hi.2.2, List.drop_length]
    simp [restB, sizeN]
    omega

/-! ### Same -/
def sameL (a b : List Int) : Bool := decide (a = b)
theorem same_p (a b : List Int) (ha : a.length ≤ 281474976710656) : Pure Try.prog gs0 13 [rowA a, rowA b] (AB (sameL a b)) := by
  have hal : ((a.map AI).length : Int) = a.length := by rw [List.length_map]
  have hbl : ((b.map AI).length : Int) = b.length := by rw [List.length_map]
  by_cases hl : a.length = b.length
  case neg =>
    refine Pure.of (S := tt) (fn := Try.f13) (n := 26) tt_ok Try.func13 rfl rfl rfl rfl fun w0 h0 F hgs => ?_
    (repeat first|refine A.s rfl ?_|refine A.r rfl rfl ?_|refine A.w rfl rfl ?_|refine A.p rfl ?_|refine A.b rfl fun bx=>?_|refine A.t rfl fun bl=>?_|refine A.step rfl ?_|refine A.v rfl rfl ?_)
    refine A.valE 10 rfl (x' := AB true) (ab_eq (by simp; omega)) ?_
    (repeat first|refine A.s rfl ?_|refine A.r rfl rfl ?_|refine A.w rfl rfl ?_|refine A.p rfl ?_|refine A.b rfl fun bx=>?_|refine A.t rfl fun bl=>?_|refine A.step rfl ?_|refine A.v rfl rfl ?_); refine A.ret1 (Λ' := []) rfl rfl rfl (List.nil_sublist _) ⟨?_, rfl⟩; refine Sb.eq (ab_eq ?_); simp [sameL]; rintro rfl; exact hl rfl
  refine Pure.of (S := tt) (fn := Try.f13) (n := 26) tt_ok Try.func13 rfl rfl rfl rfl fun w0 h0 F hgs => ?_
  (repeat first|refine A.s rfl ?_|refine A.r rfl rfl ?_|refine A.w rfl rfl ?_|refine A.p rfl ?_|refine A.b rfl fun bx=>?_|refine A.t rfl fun bl=>?_|refine A.step rfl ?_|refine A.v rfl rfl ?_)
  refine A.valE 10 rfl (x' := AB false) (ab_eq (by simp; omega)) ?_
  (repeat first|refine A.s rfl ?_|refine A.r rfl rfl ?_|refine A.w rfl rfl ?_|refine A.p rfl ?_|refine A.b rfl fun bx=>?_|refine A.t rfl fun bl=>?_|refine A.step rfl ?_|refine A.v rfl rfl ?_)
  refine A.keep [0, 1, 5] rfl ?_
  refine A.loopP (ι := Nat) (fun i => (⟨[(0, rowA a), (1, rowA b), (5, AI (i : Nat))], []⟩, [])) (fun i => i ≤ a.length ∧ a.take i = b.take i) (fun i => a.length - i) 0 ⟨by omega, by simp⟩ rfl fun i hi ih => ?_
  (repeat first|refine A.s rfl ?_|refine A.r rfl rfl ?_|refine A.w rfl rfl ?_|refine A.p rfl ?_|refine A.b rfl fun bx=>?_|refine A.t rfl fun bl=>?_|refine A.step rfl ?_|refine A.v rfl rfl ?_)
  refine A.cond rfl (fun hc => ?_) (fun hc => ?_)
  · simp at hc
    refine Exists.elim (at_exN (l := a) (i := i) hc) fun x hx => ?_
    refine Exists.elim (at_exN (l := b) (i := i) (by omega)) fun y hy => ?_
    (repeat first|refine A.s rfl ?_|refine A.r rfl rfl ?_|refine A.w rfl rfl ?_|refine A.p rfl ?_|refine A.b rfl fun bx=>?_|refine A.t rfl fun bl=>?_|refine A.step rfl ?_|refine A.v rfl rfl ?_)
    refine A.draw 8 [0, 1, 2, 3, 4, 5, 6, 7] noPubs [] (by kernel_rfl) (by kernel_rfl) ?_
    (repeat first|refine WA.s rfl ?_|refine WA.r rfl rfl ?_|refine WA.p rfl ?_|refine WA.step rfl ?_|refine WA.v rfl rfl ?_)
    refine WA.x rfl (by omega) (map_at hx) rfl rfl ?_
    (repeat first|refine WA.s rfl ?_|refine WA.r rfl rfl ?_|refine WA.p rfl ?_|refine WA.step rfl ?_|refine WA.v rfl rfl ?_)
    refine WA.x rfl (by omega) (map_at hy) rfl rfl ?_
    (repeat first|refine WA.s rfl ?_|refine WA.r rfl rfl ?_|refine WA.p rfl ?_|refine WA.step rfl ?_|refine WA.v rfl rfl ?_)
    refine WA.nil (l := []) rfl ?_
    (repeat first|refine A.s rfl ?_|refine A.r rfl rfl ?_|refine A.w rfl rfl ?_|refine A.p rfl ?_|refine A.b rfl fun bx=>?_|refine A.t rfl fun bl=>?_|refine A.step rfl ?_|refine A.v rfl rfl ?_)
    refine A.cond rfl (fun hc => ?_) (fun hc => ?_)
    · simp at hc
      (repeat first|refine A.s rfl ?_|refine A.r rfl rfl ?_|refine A.w rfl rfl ?_|refine A.p rfl ?_|refine A.b rfl fun bx=>?_|refine A.t rfl fun bl=>?_|refine A.step rfl ?_|refine A.v rfl rfl ?_); refine A.ret1 (Λ' := []) rfl rfl rfl (List.nil_sublist _) ⟨?_, rfl⟩; refine Sb.eq (ab_eq ?_); simp [sameL]; rintro rfl
      rw [hx] at hy; injection hy with hy; exact hc hy
    · simp at hc
      (repeat first|refine A.s rfl ?_|refine A.r rfl rfl ?_|refine A.w rfl rfl ?_|refine A.p rfl ?_|refine A.b rfl fun bx=>?_|refine A.t rfl fun bl=>?_|refine A.step rfl ?_|refine A.v rfl rfl ?_)
      refine A.valE 5 rfl (x' := AI ((i + 1 : Nat) : Int)) (inc_eq i (by omega)) ?_
      refine A.sub (by repeat (first | exact trivial | refine ⟨⟨_, rfl, .refl⟩, ?_⟩)) (ih (i + 1) ⟨by omega, ?_⟩ (by omega))
      rw [List.take_add_one, List.take_add_one, hi.2, hx, hy, hc]
  · simp at hc
    have : i = a.length := by omega
    subst this
    have h2 := hi.2
    rw [List.take_length, hl, List.take_length] at h2
    (repeat first|refine A.s rfl ?_|refine A.r rfl rfl ?_|refine A.w rfl rfl ?_|refine A.p rfl ?_|refine A.b rfl fun bx=>?_|refine A.t rfl fun bl=>?_|refine A.step rfl ?_|refine A.v rfl rfl ?_); refine A.ret1 (Λ' := []) rfl rfl rfl (List.nil_sublist _) ⟨?_, rfl⟩; refine Sb.eq (ab_eq ?_); simp [sameL, h2]
end Go.Proofs.Ytpilobbmijpnoaa
