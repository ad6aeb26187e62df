/-
  Chapter 23: In, Precedes and uses of the reference.
-/
import Derived.Test.YtpilobbmijpnoaaQ23m

namespace Go.Proofs.Ytpilobbmijpnoaa
open Go Go.Tp
set_option linter.unusedVariables false
set_option linter.unusedSimpArgs false
set_option maxRecDepth 100000
set_option maxHeartbeats 4000000

theorem in_p (l : List Int) (x : Int) (hb : l.length ≤ 281474976710656) : Pure Try.prog gs0 23 [rowA l, AI x] (AB (l.contains x)) := by
  refine Pure.of (S := tt) (fn := Try.f23) (n := 18) tt_ok Try.func23 rfl rfl rfl rfl fun w0 h0 F hgs => ?_
  (repeat first|refine A.s rfl ?_|refine A.r rfl rfl ?_|refine A.w rfl rfl ?_|refine A.p rfl ?_|refine A.b rfl fun bx=>?_|refine A.t rfl fun bl=>?_|refine A.step rfl ?_|refine A.v rfl rfl ?_)
  refine A.keep [0, 1, 5] rfl ?_
  refine A.loopP (ι := Nat) (fun i => (⟨[(0, rowA l), (1, AI x), (5, AI (i : Nat))], []⟩, [])) (fun i => i ≤ l.length ∧ (l.drop i).contains x = l.contains x) (fun i => l.length - i) 0 ⟨by omega, rfl⟩ rfl fun i hi ih => ?_
  have hll : ((l.map AI).length : Int) = l.length := by rw [List.length_map]
  (repeat first|refine A.s rfl ?_|refine A.r rfl rfl ?_|refine A.w rfl rfl ?_|refine A.p rfl ?_|refine A.b rfl fun bx=>?_|refine A.t rfl fun bl=>?_|refine A.step rfl ?_|refine A.v rfl rfl ?_)
  refine A.cond rfl (fun hc => ?_) (fun hc => ?_)
  · simp at hc
    refine Exists.elim (at_exN (l := l) (i := i) hc) fun y hy => ?_
    have h1 := hi.2
    rw [drop_at hy, List.contains_cons] at h1
    (repeat first|refine A.s rfl ?_|refine A.r rfl rfl ?_|refine A.w rfl rfl ?_|refine A.p rfl ?_|refine A.b rfl fun bx=>?_|refine A.t rfl fun bl=>?_|refine A.step rfl ?_|refine A.v rfl rfl ?_)
    refine A.x rfl (by omega) (map_at hy) rfl rfl ?_
    (repeat first|refine A.s rfl ?_|refine A.r rfl rfl ?_|refine A.w rfl rfl ?_|refine A.p rfl ?_|refine A.b rfl fun bx=>?_|refine A.t rfl fun bl=>?_|refine A.step rfl ?_|refine A.v rfl rfl ?_)
    refine A.cond rfl (fun hc => ?_) (fun hc => ?_)
    · simp at hc
      have : (x == y) = true := by simp [hc]
      rw [this, Bool.true_or] at h1
      (repeat first|refine A.s rfl ?_|refine A.r rfl rfl ?_|refine A.w rfl rfl ?_|refine A.p rfl ?_|refine A.b rfl fun bx=>?_|refine A.t rfl fun bl=>?_|refine A.step rfl ?_|refine A.v rfl rfl ?_); refine A.ret1 (Λ' := []) rfl rfl rfl (List.nil_sublist _) ⟨?_, rfl⟩; rw [← h1]; exact .refl
    · simp at hc
      have : (x == y) = false := by simp; exact fun e => hc e.symm
      rw [this, Bool.false_or] at h1
      (repeat first|refine A.s rfl ?_|refine A.r rfl rfl ?_|refine A.w rfl rfl ?_|refine A.p rfl ?_|refine A.b rfl fun bx=>?_|refine A.t rfl fun bl=>?_|refine A.step rfl ?_|refine A.v rfl rfl ?_)
      refine A.valE 5 rfl (x' := AI ((i + 1 : Nat) : Int)) (inc_eq i (by omega)) ?_
      refine A.sub (by repeat (first | exact trivial | refine ⟨⟨_, rfl, .refl⟩, ?_⟩)) (ih (i + 1) ⟨by omega, h1⟩ (by omega))
  · simp at hc
    have hil : i = l.length := by omega
    have h1 := hi.2
    rw [hil, List.drop_length] at h1
    (repeat first|refine A.s rfl ?_|refine A.r rfl rfl ?_|refine A.w rfl rfl ?_|refine A.p rfl ?_|refine A.b rfl fun bx=>?_|refine A.t rfl fun bl=>?_|refine A.step rfl ?_|refine A.v rfl rfl ?_); refine A.ret1 (Λ' := []) rfl rfl rfl (List.nil_sublist _) ⟨?_, rfl⟩; rw [← h1]; exact .refl
abbrev prePair (d x : Int) (ab : List Int × List Int) : Bool := ab.1.contains d && ab.2.contains x
abbrev preProc (d x : Int) (p : List (List Int)) : Bool := (p.zip p.tail).any (prePair d x)
theorem prec_p (n : Int) (c : Procs) (d x : Int) (hs : ShortN c) : Pure Try.prog gs0 17 [netA n c, AI d, AI x] (AB (preB c d x)) := by
  have hcl : ((c.map procA).length : Int) = c.length := by rw [List.length_map]
  have hcb := hs.procs
  refine Pure.of (S := tt) (fn := Try.f17) (n := 49) tt_ok Try.func17 rfl rfl rfl rfl fun w0 h0 F hgs => ?_
  (repeat first|refine A.s rfl ?_|refine A.r rfl rfl ?_|refine A.w rfl rfl ?_|refine A.p rfl ?_|refine A.b rfl fun bx=>?_|refine A.t rfl fun bl=>?_|refine A.step rfl ?_|refine A.v rfl rfl ?_)
  refine A.keep [1, 2, 3, 7] rfl ?_
  refine A.loopP (ι := Nat) (fun i => (⟨[(1, AI d), (2, AI x), (3, .v (.pointer (some ⟨_, 0, none⟩))), (7, AI (i : Nat))], []⟩, [.box _ (.ag [AI n, procsA c])])) (fun i => i ≤ c.length ∧ (c.drop i).any (preProc d x) = preB c d x) (fun i => c.length - i) 0 ⟨by omega, rfl⟩ rfl fun i hi ih => ?_
  (repeat first|refine A.s rfl ?_|refine A.r rfl rfl ?_|refine A.w rfl rfl ?_|refine A.p rfl ?_|refine A.b rfl fun bx=>?_|refine A.t rfl fun bl=>?_|refine A.step rfl ?_|refine A.v rfl rfl ?_)
  refine A.cond rfl (fun hc => ?_) (fun hc => ?_)
  · simp at hc
    refine Exists.elim (at_exN (l := c) (i := i) hc) fun p hp => ?_
    have hpm : p ∈ c := List.mem_of_getElem? hp
    have hpl : ((p.map rowA).length : Int) = p.length := by rw [List.length_map]
    have hpb := hs.steps p hpm
    have h1 := hi.2
    rw [drop_at hp, List.any_cons] at h1
    (repeat first|refine A.s rfl ?_|refine A.r rfl rfl ?_|refine A.w rfl rfl ?_|refine A.p rfl ?_|refine A.b rfl fun bx=>?_|refine A.t rfl fun bl=>?_|refine A.step rfl ?_|refine A.v rfl rfl ?_)
    refine A.keep [1, 2, 3, 7, 8] rfl ?_
    refine A.loopP (ι := Nat) (fun j => (⟨[(1, AI d), (2, AI x), (3, .v (.pointer (some ⟨_, 0, none⟩))), (7, AI (i : Nat)), (8, AI ((j + 1 : Nat) : Int))], []⟩, [.box _ (.ag [AI n, procsA c])])) (fun j => j ≤ p.length ∧ ((p.zip p.tail).drop j).any (prePair d x) = preProc d x p) (fun j => p.length - j) 0 ⟨by omega, rfl⟩ rfl fun j hj jh => ?_
    (repeat first|refine A.s rfl ?_|refine A.r rfl rfl ?_|refine A.w rfl rfl ?_|refine A.p rfl ?_|refine A.b rfl fun bx=>?_|refine A.t rfl fun bl=>?_|refine A.step rfl ?_|refine A.v rfl rfl ?_)
    refine A.x rfl (by omega) (map_at hp) rfl rfl ?_
    (repeat first|refine A.s rfl ?_|refine A.r rfl rfl ?_|refine A.w rfl rfl ?_|refine A.p rfl ?_|refine A.b rfl fun bx=>?_|refine A.t rfl fun bl=>?_|refine A.step rfl ?_|refine A.v rfl rfl ?_)
    refine A.cond rfl (fun hc => ?_) (fun hc => ?_)
    · simp at hc
      refine Exists.elim (at_exN (l := p) (i := j + 1) (by omega)) fun b hb1 => ?_
      refine Exists.elim (at_exN (l := p) (i := j) (by omega)) fun a ha1 => ?_
      have hab := hs.uses p hpm a (List.mem_of_getElem? ha1)
      have hbb := hs.uses p hpm b (List.mem_of_getElem? hb1)
      have h2 := hj.2
      rw [drop_at (zip_at ha1 hb1), List.any_cons, prePair] at h2
      (repeat first|refine A.s rfl ?_|refine A.r rfl rfl ?_|refine A.w rfl rfl ?_|refine A.p rfl ?_|refine A.b rfl fun bx=>?_|refine A.t rfl fun bl=>?_|refine A.step rfl ?_|refine A.v rfl rfl ?_)
      refine A.x rfl (by omega) (map_at hp) rfl rfl ?_
      (repeat first|refine A.s rfl ?_|refine A.r rfl rfl ?_|refine A.w rfl rfl ?_|refine A.p rfl ?_|refine A.b rfl fun bx=>?_|refine A.t rfl fun bl=>?_|refine A.step rfl ?_|refine A.v rfl rfl ?_)
      refine A.valE 32 rfl (x' := AI (j : Nat)) (ai_eq (by rw [w64_id (by unfold i64; omega)]; omega)) ?_
      refine A.x rfl (by omega) (map_at ha1) rfl rfl ?_
      (repeat first|refine A.s rfl ?_|refine A.r rfl rfl ?_|refine A.w rfl rfl ?_|refine A.p rfl ?_|refine A.b rfl fun bx=>?_|refine A.t rfl fun bl=>?_|refine A.step rfl ?_|refine A.v rfl rfl ?_)
      refine A.c rfl (in_p a d hab) .refl ?_
      (repeat first|refine A.s rfl ?_|refine A.r rfl rfl ?_|refine A.w rfl rfl ?_|refine A.p rfl ?_|refine A.b rfl fun bx=>?_|refine A.t rfl fun bl=>?_)
      ((fail_if_success (refine A.lit? rfl ?_)); refine A.gS rfl (fun hc => ?_) (fun hc => ?_))
      · rw [hc, Bool.true_and] at h2
        (repeat first|refine A.s rfl ?_|refine A.r rfl rfl ?_|refine A.w rfl rfl ?_|refine A.p rfl ?_|refine A.b rfl fun bx=>?_|refine A.t rfl fun bl=>?_)
        refine A.x rfl (by omega) (map_at hp) rfl rfl ?_
        (repeat first|refine A.s rfl ?_|refine A.r rfl rfl ?_|refine A.w rfl rfl ?_|refine A.p rfl ?_|refine A.b rfl fun bx=>?_|refine A.t rfl fun bl=>?_)
        refine A.x rfl (by omega) (map_at hb1) rfl rfl ?_
        (repeat first|refine A.s rfl ?_|refine A.r rfl rfl ?_|refine A.w rfl rfl ?_|refine A.p rfl ?_|refine A.b rfl fun bx=>?_|refine A.t rfl fun bl=>?_)
        refine A.c rfl (in_p b x hbb) .refl ?_
        (repeat first|refine A.s rfl ?_|refine A.r rfl rfl ?_|refine A.w rfl rfl ?_|refine A.p rfl ?_|refine A.b rfl fun bx=>?_|refine A.t rfl fun bl=>?_|refine A.step rfl ?_|refine A.v rfl rfl ?_)
        refine A.cond rfl (fun hc => ?_) (fun hc => ?_)
        · have hc : b.contains x = true := hc
          rw [hc, Bool.true_or] at h2
          rw [← h2, Bool.true_or] at h1
          (repeat first|refine A.s rfl ?_|refine A.r rfl rfl ?_|refine A.w rfl rfl ?_|refine A.p rfl ?_|refine A.b rfl fun bx=>?_|refine A.t rfl fun bl=>?_|refine A.step rfl ?_|refine A.v rfl rfl ?_); refine A.ret1 (Λ' := []) rfl rfl rfl (List.nil_sublist _) ⟨?_, rfl⟩; rw [← h1]; exact .refl
        · have hc : b.contains x = false := hc
          rw [hc, Bool.false_or] at h2
          (repeat first|refine A.s rfl ?_|refine A.r rfl rfl ?_|refine A.w rfl rfl ?_|refine A.p rfl ?_|refine A.b rfl fun bx=>?_|refine A.t rfl fun bl=>?_|refine A.step rfl ?_|refine A.v rfl rfl ?_)
          refine A.valE 8 rfl (x' := AI ((j + 1 + 1 : Nat) : Int)) (inc_eq (j + 1) (by omega)) ?_
          refine A.sub (by repeat (first | exact trivial | refine ⟨⟨_, rfl, .refl⟩, ?_⟩)) (jh (j + 1) ⟨by omega, h2⟩ (by omega))
      · rw [hc, Bool.false_and, Bool.false_or] at h2
        (repeat first|refine A.s rfl ?_|refine A.r rfl rfl ?_|refine A.w rfl rfl ?_|refine A.p rfl ?_|refine A.b rfl fun bx=>?_|refine A.t rfl fun bl=>?_|refine A.step rfl ?_|refine A.v rfl rfl ?_)
        refine A.valE 8 rfl (x' := AI ((j + 1 + 1 : Nat) : Int)) (inc_eq (j + 1) (by omega)) ?_
        refine A.sub (by repeat (first | exact trivial | refine ⟨⟨_, rfl, .refl⟩, ?_⟩)) (jh (j + 1) ⟨by omega, h2⟩ (by omega))
    · simp at hc
      have hzl : (p.zip p.tail).drop j = [] := List.drop_eq_nil_of_le (by rw [List.length_zip, List.length_tail]; omega)
      have h2 := hj.2
      rw [hzl, List.any_nil] at h2
      rw [← h2, Bool.false_or] at h1
      (repeat first|refine A.s rfl ?_|refine A.r rfl rfl ?_|refine A.w rfl rfl ?_|refine A.p rfl ?_|refine A.b rfl fun bx=>?_|refine A.t rfl fun bl=>?_|refine A.step rfl ?_|refine A.v rfl rfl ?_)
      refine A.valE 7 rfl (x' := AI ((i + 1 : Nat) : Int)) (inc_eq i (by omega)) ?_
      refine A.sub (by repeat (first | exact trivial | refine ⟨⟨_, rfl, .refl⟩, ?_⟩)) (ih (i + 1) ⟨by omega, h1⟩ (by omega))
  · simp at hc
    have hil : i = c.length := by omega
    have h1 := hi.2
    rw [hil, List.drop_length, List.any_nil] at h1
    (repeat first|refine A.s rfl ?_|refine A.r rfl rfl ?_|refine A.w rfl rfl ?_|refine A.p rfl ?_|refine A.b rfl fun bx=>?_|refine A.t rfl fun bl=>?_|refine A.step rfl ?_|refine A.v rfl rfl ?_); refine A.ret1 (Λ' := []) rfl rfl rfl (List.nil_sublist _) ⟨?_, rfl⟩; rw [← h1]; exact .refl
theorem uses_p (p : List (List Int)) (x : Int) (hz : sizeP p ≤ 1000) : Pure Try.prog gs0 22 [procA p, AI x] (AI (p.flatten.count x : Nat)) := by
  have hpl : ((p.map rowA).length : Int) = p.length := by rw [List.length_map]
  have hpb : p.length ≤ sizeP p := by
    clear hpl
    induction p with
    | nil => simp [sizeP]
    | cons s p ih => rw [sizeP_cons] at hz ⊢; have := ih (by omega); rw [List.length_cons]; omega
  have htot : p.flatten.count x ≤ 1000 := by have := List.count_le_length (a := x) (l := p.flatten); have := sizeP_flat p; omega
  refine Pure.of (S := tt) (fn := Try.f22) (n := 35) tt_ok Try.func22 rfl rfl rfl rfl fun w0 h0 F hgs => ?_
  (repeat first|refine A.s rfl ?_|refine A.r rfl rfl ?_|refine A.w rfl rfl ?_|refine A.p rfl ?_|refine A.b rfl fun bx=>?_|refine A.t rfl fun bl=>?_|refine A.step rfl ?_|refine A.v rfl rfl ?_)
  refine A.keep [0, 1, 5, 6] rfl ?_
  refine A.loopP (ι := Nat × Nat) (fun q => (⟨[(0, procA p), (1, AI x), (5, AI (q.2 : Nat)), (6, AI (q.1 : Nat))], []⟩, [])) (fun q => q.1 ≤ p.length ∧ q.2 + (p.drop q.1).flatten.count x = p.flatten.count x) (fun q => p.length - q.1) (0, 0) ⟨by simp, by simp⟩ rfl fun q hi ih => ?_
  obtain ⟨i, acc⟩ := q
  simp only at hi ih ⊢
  (repeat first|refine A.s rfl ?_|refine A.r rfl rfl ?_|refine A.w rfl rfl ?_|refine A.p rfl ?_|refine A.b rfl fun bx=>?_|refine A.t rfl fun bl=>?_|refine A.step rfl ?_|refine A.v rfl rfl ?_)
  refine A.cond rfl (fun hc => ?_) (fun hc => ?_)
  · simp at hc
    refine Exists.elim (at_exN (l := p) (i := i) hc) fun s hs => ?_
    have hsl : ((s.map AI).length : Int) = s.length := by rw [List.length_map]
    have hsb := sizeP_mem (List.mem_of_getElem? hs)
    have h1 := hi.2
    rw [drop_at hs, List.flatten_cons, List.count_append] at h1
    (repeat first|refine A.s rfl ?_|refine A.r rfl rfl ?_|refine A.w rfl rfl ?_|refine A.p rfl ?_|refine A.b rfl fun bx=>?_|refine A.t rfl fun bl=>?_|refine A.step rfl ?_|refine A.v rfl rfl ?_)
    refine A.keep [0, 1, 5, 6, 7] rfl ?_
    refine A.loopP (ι := Nat × Nat) (fun q => (⟨[(0, procA p), (1, AI x), (5, AI (q.2 : Nat)), (6, AI (i : Nat)), (7, AI (q.1 : Nat))], []⟩, [])) (fun q => q.1 ≤ s.length ∧ q.2 + (s.drop q.1).count x = acc + s.count x) (fun q => s.length - q.1) (0, acc) ⟨by simp, by simp⟩ rfl fun q hj jh => ?_
    obtain ⟨j, acc'⟩ := q
    simp only at hj jh ⊢
    (repeat first|refine A.s rfl ?_|refine A.r rfl rfl ?_|refine A.w rfl rfl ?_|refine A.p rfl ?_|refine A.b rfl fun bx=>?_|refine A.t rfl fun bl=>?_|refine A.step rfl ?_|refine A.v rfl rfl ?_)
    refine A.x rfl (by omega) (map_at hs) rfl rfl ?_
    (repeat first|refine A.s rfl ?_|refine A.r rfl rfl ?_|refine A.w rfl rfl ?_|refine A.p rfl ?_|refine A.b rfl fun bx=>?_|refine A.t rfl fun bl=>?_|refine A.step rfl ?_|refine A.v rfl rfl ?_)
    refine A.cond rfl (fun hc => ?_) (fun hc => ?_)
    · simp at hc
      refine Exists.elim (at_exN (l := s) (i := j) hc) fun y hy => ?_
      have h2 := hj.2
      rw [drop_at hy] at h2
      (repeat first|refine A.s rfl ?_|refine A.r rfl rfl ?_|refine A.w rfl rfl ?_|refine A.p rfl ?_|refine A.b rfl fun bx=>?_|refine A.t rfl fun bl=>?_|refine A.step rfl ?_|refine A.v rfl rfl ?_)
      refine A.x rfl (by omega) (map_at hs) rfl rfl ?_
      (repeat first|refine A.s rfl ?_|refine A.r rfl rfl ?_|refine A.w rfl rfl ?_|refine A.p rfl ?_|refine A.b rfl fun bx=>?_|refine A.t rfl fun bl=>?_|refine A.step rfl ?_|refine A.v rfl rfl ?_)
      refine A.x rfl (by omega) (map_at hy) rfl rfl ?_
      (repeat first|refine A.s rfl ?_|refine A.r rfl rfl ?_|refine A.w rfl rfl ?_|refine A.p rfl ?_|refine A.b rfl fun bx=>?_|refine A.t rfl fun bl=>?_|refine A.step rfl ?_|refine A.v rfl rfl ?_)
      refine A.cond rfl (fun hc => ?_) (fun hc => ?_)
      · simp at hc
        subst hc
        rw [List.count_cons_self] at h2
        (repeat first|refine A.s rfl ?_|refine A.r rfl rfl ?_|refine A.w rfl rfl ?_|refine A.p rfl ?_|refine A.b rfl fun bx=>?_|refine A.t rfl fun bl=>?_|refine A.step rfl ?_|refine A.v rfl rfl ?_)
        refine A.valE 5 rfl (x' := AI ((acc' + 1 : Nat) : Int)) (inc_eq acc' (by omega)) ?_
        refine A.valE 7 rfl (x' := AI ((j + 1 : Nat) : Int)) (inc_eq j (by omega)) ?_
        refine A.sub (by repeat (first | exact trivial | refine ⟨⟨_, rfl, .refl⟩, ?_⟩)) (jh (j + 1, acc' + 1) ⟨by simp only; omega, by simp only; omega⟩ (by simp only; omega))
      · simp at hc
        rw [List.count_cons_of_ne hc] at h2
        (repeat first|refine A.s rfl ?_|refine A.r rfl rfl ?_|refine A.w rfl rfl ?_|refine A.p rfl ?_|refine A.b rfl fun bx=>?_|refine A.t rfl fun bl=>?_|refine A.step rfl ?_|refine A.v rfl rfl ?_)
        refine A.valE 7 rfl (x' := AI ((j + 1 : Nat) : Int)) (inc_eq j (by omega)) ?_
        refine A.sub (by repeat (first | exact trivial | refine ⟨⟨_, rfl, .refl⟩, ?_⟩)) (jh (j + 1, acc') ⟨by simp only; omega, by simp only; omega⟩ (by simp only; omega))
    · simp at hc
      have hjl : j = s.length := by omega
      have h2 := hj.2
      rw [hjl, List.drop_length, List.count_nil] at h2
      (repeat first|refine A.s rfl ?_|refine A.r rfl rfl ?_|refine A.w rfl rfl ?_|refine A.p rfl ?_|refine A.b rfl fun bx=>?_|refine A.t rfl fun bl=>?_|refine A.step rfl ?_|refine A.v rfl rfl ?_)
      refine A.valE 6 rfl (x' := AI ((i + 1 : Nat) : Int)) (inc_eq i (by omega)) ?_
      refine A.sub (by repeat (first | exact trivial | refine ⟨⟨_, rfl, .refl⟩, ?_⟩)) (ih (i + 1, acc') ⟨by simp only; omega, by simp only; omega⟩ (by simp only; omega))
  · simp at hc
    have hil : i = p.length := by omega
    have h1 := hi.2
    rw [hil, List.drop_length] at h1
    simp only [List.flatten_nil, List.count_nil, Nat.add_zero] at h1
    (repeat first|refine A.s rfl ?_|refine A.r rfl rfl ?_|refine A.w rfl rfl ?_|refine A.p rfl ?_|refine A.b rfl fun bx=>?_|refine A.t rfl fun bl=>?_|refine A.step rfl ?_|refine A.v rfl rfl ?_); refine A.ret1 (Λ' := []) rfl rfl rfl (List.nil_sublist _) ⟨?_, rfl⟩; rw [← h1]; exact .refl
end Go.Proofs.Ytpilobbmijpnoaa
