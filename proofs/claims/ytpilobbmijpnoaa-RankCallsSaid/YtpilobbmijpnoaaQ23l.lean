/-
  Chapter 23: Check of the reference.
-/
import Derived.Test.YtpilobbmijpnoaaQ23k

namespace Go.Proofs.Ytpilobbmijpnoaa
open Go Go.Tp
set_option linter.unusedVariables false
set_option linter.unusedSimpArgs false
set_option maxRecDepth 100000
set_option maxHeartbeats 4000000

theorem rises_no {s : Nat → W64} {r : List Int} {m x d : Nat} (hx : x < m) (hd : d < m) (h : badB s r x d = true) : risesB s r m = false := by
  rw [Bool.eq_false_iff]
  intro h1
  simp only [risesB, List.all_eq_true, List.mem_range] at h1
  have := h1 x hx d hd
  rw [h] at this; cases this
theorem rises_yes {s : Nat → W64} {r : List Int} {m : Nat} (h : ∀ d, d < m → ∀ x, x < m → badB s r x d = false) : risesB s r m = true := by
  simp only [risesB, List.all_eq_true, List.mem_range]
  intro x hx d hd
  rw [h d hd x hx]; rfl
theorem rcheck_p (n : Int) (c : Procs) (r : List Int) (hs : ShortN c) (hz : sizeN c ≤ 1000) (hr : r.length ≤ 281474976710656) : Pure Try.prog gs0 15 [netA n c, rowA r] (AB (checkB n c r)) := by
  have hmay := rmay_p n c hs hz
  have hrl : ((r.map AI).length : Int) = r.length := by rw [List.length_map]
  cases hm : mayB n c with
  | false =>
    rw [hm] at hmay
    refine Pure.of (S := tt) (fn := Try.f15) (n := 44) tt_ok Try.func15 rfl rfl rfl rfl fun w0 h0 F hgs => ?_
    (repeat first|refine A.s rfl ?_|refine A.r rfl rfl ?_|refine A.w rfl rfl ?_|refine A.p rfl ?_|refine A.b rfl fun bx=>?_|refine A.t rfl fun bl=>?_|refine A.step rfl ?_|refine A.v rfl rfl ?_)
    refine A.c rfl hmay .refl ?_
    (repeat first|refine A.s rfl ?_|refine A.r rfl rfl ?_|refine A.w rfl rfl ?_|refine A.p rfl ?_|refine A.b rfl fun bx=>?_|refine A.t rfl fun bl=>?_|refine A.step rfl ?_|refine A.v rfl rfl ?_); refine A.ret1 (Λ' := []) rfl rfl rfl (List.nil_sublist _) ⟨?_, rfl⟩; refine Sb.eq (ab_eq ?_); rw [checkB, hm]; rfl
  | true =>
  rw [hm] at hmay
  have hv := (mayB_iff hz).1 hm
  have hin := hv.inB
  have hn := mayG_n hv.g
  have hprec := fun d x => prec_p n c d x hs
  have hbit := fun d x => before_bits hin d x
  refine Pure.of (S := tt) (fn := Try.f15) (n := 44) tt_ok Try.func15 rfl rfl rfl rfl fun w0 h0 F hgs => ?_
  (repeat first|refine A.s rfl ?_|refine A.r rfl rfl ?_|refine A.w rfl rfl ?_|refine A.p rfl ?_|refine A.b rfl fun bx=>?_|refine A.t rfl fun bl=>?_|refine A.step rfl ?_|refine A.v rfl rfl ?_)
  refine A.c rfl hmay .refl ?_
  (repeat first|refine A.s rfl ?_|refine A.r rfl rfl ?_|refine A.w rfl rfl ?_|refine A.p rfl ?_|refine A.b rfl fun bx=>?_|refine A.t rfl fun bl=>?_|refine A.step rfl ?_|refine A.v rfl rfl ?_)
  refine A.valE 16 rfl (x' := AB (!decide ((r.length : Int) = n))) (ab_eq (by rw [hrl, Bool.eq_iff_iff]; simp)) ?_
  refine A.cond rfl (fun hc => ?_) (fun hc => ?_)
  · simp at hc
    (repeat first|refine A.s rfl ?_|refine A.r rfl rfl ?_|refine A.w rfl rfl ?_|refine A.p rfl ?_|refine A.b rfl fun bx=>?_|refine A.t rfl fun bl=>?_|refine A.step rfl ?_|refine A.v rfl rfl ?_); refine A.ret1 (Λ' := []) rfl rfl rfl (List.nil_sublist _) ⟨?_, rfl⟩; refine Sb.eq (ab_eq ?_); rw [checkB, show decide ((r.length : Int) = n) = false from decide_eq_false hc]; simp
  simp at hc
  have hrn : (r.length : Int) = n := hc
  have hr64 : r.length ≤ 64 := by omega
  (repeat first|refine A.s rfl ?_|refine A.r rfl rfl ?_|refine A.w rfl rfl ?_|refine A.p rfl ?_|refine A.b rfl fun bx=>?_|refine A.t rfl fun bl=>?_|refine A.step rfl ?_|refine A.v rfl rfl ?_)
  refine A.keep [1, 2, 5] rfl ?_
  refine A.loopP (ι := Nat) (fun d => (⟨[(1, rowA r), (2, .v (.pointer (some ⟨_, 0, none⟩))), (5, AI (d : Nat))], []⟩, [.box _ (.ag [AI n, procsA c])]))
    (fun d => d ≤ r.length ∧ ∀ d', d' < d → ∀ x, x < r.length → badB (beforeF c) r x d' = false) (fun d => r.length - d) 0 ⟨by omega, fun d' h => by omega⟩ rfl fun d hi ih => ?_
  (repeat first|refine A.s rfl ?_|refine A.r rfl rfl ?_|refine A.w rfl rfl ?_|refine A.p rfl ?_|refine A.b rfl fun bx=>?_|refine A.t rfl fun bl=>?_|refine A.step rfl ?_|refine A.v rfl rfl ?_)
  refine A.cond rfl (fun hc => ?_) (fun hc => ?_)
  · simp at hc
    have hd : d < r.length := by omega
    refine Exists.elim (at_exN (l := r) (i := d) hd) fun vd hvd => ?_
    (repeat first|refine A.s rfl ?_|refine A.r rfl rfl ?_|refine A.w rfl rfl ?_|refine A.p rfl ?_|refine A.b rfl fun bx=>?_|refine A.t rfl fun bl=>?_|refine A.step rfl ?_|refine A.v rfl rfl ?_)
    refine A.keep [1, 2, 5, 6] rfl ?_
    refine A.loopP (ι := Nat) (fun x => (⟨[(1, rowA r), (2, .v (.pointer (some ⟨_, 0, none⟩))), (5, AI (d : Nat)), (6, AI (x : Nat))], []⟩, [.box _ (.ag [AI n, procsA c])]))
      (fun x => x ≤ r.length ∧ ∀ x', x' < x → badB (beforeF c) r x' d = false) (fun x => r.length - x) 0 ⟨by omega, fun x' h => by omega⟩ rfl fun x hj jh => ?_
    (repeat first|refine A.s rfl ?_|refine A.r rfl rfl ?_|refine A.w rfl rfl ?_|refine A.p rfl ?_|refine A.b rfl fun bx=>?_|refine A.t rfl fun bl=>?_|refine A.step rfl ?_|refine A.v rfl rfl ?_)
    refine A.cond rfl (fun hc => ?_) (fun hc => ?_)
    · simp at hc
      have hx : x < r.length := by omega
      refine Exists.elim (at_exN (l := r) (i := x) hx) fun vx hvx => ?_
      have hb := hbit d x (by omega)
      (repeat first|refine A.s rfl ?_|refine A.r rfl rfl ?_|refine A.w rfl rfl ?_|refine A.p rfl ?_|refine A.b rfl fun bx=>?_|refine A.t rfl fun bl=>?_)
      refine A.draw 13 [0, 1, 2, 3, 4, 5, 6, 7, 8, 9, 10, 11, 12] noPubs [(3, AB (preB c (d : Nat) (x : Nat)))] (by kernel_rfl) (by kernel_rfl) ?_
      (repeat first|refine WA.s rfl ?_|refine WA.r rfl rfl ?_|refine WA.p rfl ?_)
      refine WA.c rfl rfl (hprec (d : Nat) (x : Nat)) (.sub .refl) ?_
      (repeat first|refine WA.s rfl ?_|refine WA.r rfl rfl ?_|refine WA.p rfl ?_)
      refine WA.gS rfl (fun hc => ?_) (fun hc => ?_)
      · rw [hc] at hb
        (repeat first|refine WA.s rfl ?_|refine WA.r rfl rfl ?_|refine WA.p rfl ?_)
        refine WA.x rfl (by omega) (map_at hvd) rfl rfl ?_
        (repeat first|refine WA.s rfl ?_|refine WA.r rfl rfl ?_|refine WA.p rfl ?_)
        refine WA.x rfl (by omega) (map_at hvx) rfl rfl ?_
        (repeat first|refine WA.s rfl ?_|refine WA.r rfl rfl ?_|refine WA.p rfl ?_)
        refine WA.nil (l := []) rfl ?_
        (repeat first|refine A.s rfl ?_|refine A.r rfl rfl ?_|refine A.w rfl rfl ?_|refine A.p rfl ?_|refine A.b rfl fun bx=>?_|refine A.t rfl fun bl=>?_|refine A.step rfl ?_|refine A.v rfl rfl ?_)
        refine A.valE 43 rfl (x' := AB (badB (beforeF c) r x d)) (ab_eq (by rw [badB, hb, rkL_at hvx, rkL_at hvd]; rfl)) ?_
        refine A.cond rfl (fun hc => ?_) (fun hc => ?_)
        · (repeat first|refine A.s rfl ?_|refine A.r rfl rfl ?_|refine A.w rfl rfl ?_|refine A.p rfl ?_|refine A.b rfl fun bx=>?_|refine A.t rfl fun bl=>?_|refine A.step rfl ?_|refine A.v rfl rfl ?_); refine A.ret1 (Λ' := []) rfl rfl rfl (List.nil_sublist _) ⟨?_, rfl⟩; refine Sb.eq (ab_eq ?_); rw [checkB, rises_no hx hd hc]; simp
        · have hbad := hc
          (repeat first|refine A.s rfl ?_|refine A.r rfl rfl ?_|refine A.w rfl rfl ?_|refine A.p rfl ?_|refine A.b rfl fun bx=>?_|refine A.t rfl fun bl=>?_|refine A.step rfl ?_|refine A.v rfl rfl ?_)
          refine A.valE 6 rfl (x' := AI ((x + 1 : Nat) : Int)) (inc_eq x (by omega)) ?_
          refine A.sub (by repeat (first | exact trivial | refine ⟨⟨_, rfl, .refl⟩, ?_⟩)) (jh (x + 1) ⟨by omega, fun x' h => ?_⟩ (by omega))
          by_cases hxx : x' = x
          · subst hxx; exact hbad
          · exact hj.2 x' (by omega)
      · rw [hc] at hb
        (repeat first|refine WA.s rfl ?_|refine WA.r rfl rfl ?_|refine WA.p rfl ?_)
        refine WA.nil (l := []) rfl ?_
        (repeat first|refine A.s rfl ?_|refine A.r rfl rfl ?_|refine A.w rfl rfl ?_|refine A.p rfl ?_|refine A.b rfl fun bx=>?_|refine A.t rfl fun bl=>?_|refine A.step rfl ?_|refine A.v rfl rfl ?_)
        refine A.valE 6 rfl (x' := AI ((x + 1 : Nat) : Int)) (inc_eq x (by omega)) ?_
        refine A.sub (by repeat (first | exact trivial | refine ⟨⟨_, rfl, .refl⟩, ?_⟩)) (jh (x + 1) ⟨by omega, fun x' h => ?_⟩ (by omega))
        by_cases hxx : x' = x
        · subst hxx; rw [badB, hb]; rfl
        · exact hj.2 x' (by omega)
    · simp at hc
      have hxl : x = r.length := by omega
      have h2 := hj.2
      rw [hxl] at h2
      (repeat first|refine A.s rfl ?_|refine A.r rfl rfl ?_|refine A.w rfl rfl ?_|refine A.p rfl ?_|refine A.b rfl fun bx=>?_|refine A.t rfl fun bl=>?_|refine A.step rfl ?_|refine A.v rfl rfl ?_)
      refine A.valE 5 rfl (x' := AI ((d + 1 : Nat) : Int)) (inc_eq d (by omega)) ?_
      refine A.sub (by repeat (first | exact trivial | refine ⟨⟨_, rfl, .refl⟩, ?_⟩)) (ih (d + 1) ⟨by omega, fun d' h => ?_⟩ (by omega))
      by_cases hdd : d' = d
      · subst hdd; exact h2
      · exact hi.2 d' (by omega)
  · simp at hc
    have hdl : d = r.length := by omega
    have h1 := hi.2
    rw [hdl] at h1
    (repeat first|refine A.s rfl ?_|refine A.r rfl rfl ?_|refine A.w rfl rfl ?_|refine A.p rfl ?_|refine A.b rfl fun bx=>?_|refine A.t rfl fun bl=>?_|refine A.step rfl ?_|refine A.v rfl rfl ?_); refine A.ret1 (Λ' := []) rfl rfl rfl (List.nil_sublist _) ⟨?_, rfl⟩; refine Sb.eq (ab_eq ?_); rw [checkB, rises_yes h1, hm]; simp; exact hrn
end Go.Proofs.Ytpilobbmijpnoaa
