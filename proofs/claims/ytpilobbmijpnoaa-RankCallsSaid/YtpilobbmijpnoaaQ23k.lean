/-
  Chapter 23: May of the reference.
-/
import Derived.Test.YtpilobbmijpnoaaQ23j
import Derived.Test.YtpilobbmijpnoaaQ23f

namespace Go.Proofs.Ytpilobbmijpnoaa
open Go Go.Tp
set_option linter.unusedVariables false
set_option linter.unusedSimpArgs false
set_option maxRecDepth 100000
set_option maxHeartbeats 4000000

theorem no_may {n : Int} {c : Procs} (hz : sizeN c ≤ 1000) (h : ¬ Valid n c) : mayB n c = false := Bool.eq_false_iff.2 fun e => h ((mayB_iff hz).1 e)
theorem useN_cons (p : List (List Int)) (c : Procs) (x : Int) : useN (p :: c) x = p.flatten.count x + useN c x := by simp [useN]
theorem useN_le (c : Procs) (x : Int) : useN c x ≤ flatL c := by
  induction c with
  | nil => simp [useN, flatL]
  | cons p c ih =>
    have h1 := List.count_le_length (a := x) (l := p.flatten)
    have h2 : flatL (p :: c) = p.flatten.length + flatL c := by simp [flatL]
    rw [useN_cons]; omega
theorem useN_none {n : Int} {c : Procs} (h : ∀ p, p ∈ c → FineP n p) {x : Int} (hx : n ≤ x) : useN c x = 0 := by
  induction c with
  | nil => simp [useN]
  | cons p c ih =>
    rw [useN_cons, ih (fun q hq => h q (List.mem_cons_of_mem _ hq)), List.count_eq_zero.2]
    intro hm
    have := ((h p (List.mem_cons_self ..)).rng x hm).2
    omega
def okX (n : Int) (p : List (List Int)) (x : Int) : Prop := 0 ≤ x ∧ x < n ∧ p.flatten.count x ≤ 1
theorem fine_of {n : Int} {p : List (List Int)} (h0 : p ≠ []) (h : ∀ s, s ∈ p → s ≠ [] ∧ ∀ x, x ∈ s → okX n p x) : FineP n p where
  ne := h0
  nes := fun s hs => (h s hs).1
  rng := fun x hx => by
    obtain ⟨s, hs, hx⟩ := List.mem_flatten.1 hx
    exact ⟨((h s hs).2 x hx).1, ((h s hs).2 x hx).2.1⟩
  nd := fun x hx => by
    obtain ⟨s, hs, hx⟩ := List.mem_flatten.1 hx
    exact ((h s hs).2 x hx).2.2
theorem fine_ok {n : Int} {p : List (List Int)} (h : FineP n p) {s : List Int} (hs : s ∈ p) {x : Int} (hx : x ∈ s) : okX n p x := by
  have hm := List.mem_flatten.2 ⟨s, hs, hx⟩
  exact ⟨(h.rng x hm).1, (h.rng x hm).2, h.nd x hm⟩
theorem mem_upto {α : Type} {l : List α} {Q : α → Prop} (h : ∀ k x, k < l.length → l[k]? = some x → Q x) : ∀ x, x ∈ l → Q x := fun x hx => by
  obtain ⟨k, hk, e⟩ := List.mem_iff_getElem.1 hx
  exact h k x hk (by rw [List.getElem?_eq_getElem hk, e])
theorem upto_next {α : Type} {l : List α} {Q : α → Prop} {i : Nat} {y : α} (h : ∀ k x, k < i → l[k]? = some x → Q x) (hy : l[i]? = some y) (q : Q y) : ∀ k x, k < i + 1 → l[k]? = some x → Q x := fun k x hk hx => by
  by_cases hki : k = i
  · subst hki; rw [hy] at hx; injection hx with hx; subst hx; exact q
  · exact h k x (by omega) hx
theorem rmay_p (n : Int) (c : Procs) (hs : ShortN c) (hz : sizeN c ≤ 1000) : Pure Try.prog gs0 12 [netA n c] (AB (mayB n c)) := by
  have hcl : ((c.map procA).length : Int) = c.length := by rw [List.length_map]
  by_cases hn0 : n < 0
  · have hno : ¬ Valid n c := fun h => by have := mayG_n h.g; omega
    refine Pure.of (S := tt) (fn := Try.f12) (n := 126) tt_ok Try.func12 rfl rfl rfl rfl fun w0 h0 F hgs => ?_
    (repeat first|refine A.s rfl ?_|refine A.r rfl rfl ?_|refine A.w rfl rfl ?_|refine A.p rfl ?_|refine A.b rfl fun bx=>?_|refine A.t rfl fun bl=>?_)
    refine A.valE 13 rfl (x' := AB true) (ab_eq (by simpa using hn0)) ?_
    ((repeat first|refine A.s rfl ?_|refine A.r rfl rfl ?_|refine A.w rfl rfl ?_|refine A.p rfl ?_|refine A.b rfl fun bx=>?_|refine A.t rfl fun bl=>?_|refine A.step rfl ?_|refine A.v rfl rfl ?_); refine A.ret1 (Λ' := []) rfl rfl rfl (List.nil_sublist _) ⟨?_, rfl⟩; exact Sb.eq (ab_eq (no_may hz hno).symm))
  obtain ⟨m, rfl⟩ : ∃ m : Nat, n = m := ⟨n.toNat, by omega⟩
  by_cases g2 : (m : Int) ≤ 64
  case neg =>
    have hno : ¬ Valid m c := fun h => by have := mayG_n h.g; omega
    refine Pure.of (S := tt) (fn := Try.f12) (n := 126) tt_ok Try.func12 rfl rfl rfl rfl fun w0 h0 F hgs => ?_
    (repeat first|refine A.s rfl ?_|refine A.r rfl rfl ?_|refine A.w rfl rfl ?_|refine A.p rfl ?_|refine A.b rfl fun bx=>?_|refine A.t rfl fun bl=>?_)
    refine A.valE 13 rfl (x' := AB false) (ab_eq (by simp)) ?_
    (repeat first|refine A.s rfl ?_|refine A.r rfl rfl ?_|refine A.w rfl rfl ?_|refine A.p rfl ?_|refine A.b rfl fun bx=>?_|refine A.t rfl fun bl=>?_)
    refine A.valE 18 rfl (x' := AB true) (ab_eq (by simp; omega)) ?_
    ((repeat first|refine A.s rfl ?_|refine A.r rfl rfl ?_|refine A.w rfl rfl ?_|refine A.p rfl ?_|refine A.b rfl fun bx=>?_|refine A.t rfl fun bl=>?_|refine A.step rfl ?_|refine A.v rfl rfl ?_); refine A.ret1 (Λ' := []) rfl rfl rfl (List.nil_sublist _) ⟨?_, rfl⟩; exact Sb.eq (ab_eq (no_may hz hno).symm))
  by_cases g3 : 1 ≤ c.length
  case neg =>
    have hno : ¬ Valid m c := fun h => by have := h.g; simp only [mayG, Bool.and_eq_true, decide_eq_true_eq] at this; omega
    refine Pure.of (S := tt) (fn := Try.f12) (n := 126) tt_ok Try.func12 rfl rfl rfl rfl fun w0 h0 F hgs => ?_
    (repeat first|refine A.s rfl ?_|refine A.r rfl rfl ?_|refine A.w rfl rfl ?_|refine A.p rfl ?_|refine A.b rfl fun bx=>?_|refine A.t rfl fun bl=>?_)
    refine A.valE 13 rfl (x' := AB false) (ab_eq (by simp)) ?_
    (repeat first|refine A.s rfl ?_|refine A.r rfl rfl ?_|refine A.w rfl rfl ?_|refine A.p rfl ?_|refine A.b rfl fun bx=>?_|refine A.t rfl fun bl=>?_)
    refine A.valE 18 rfl (x' := AB false) (ab_eq (by simp; omega)) ?_
    (repeat first|refine A.s rfl ?_|refine A.r rfl rfl ?_|refine A.w rfl rfl ?_|refine A.p rfl ?_|refine A.b rfl fun bx=>?_|refine A.t rfl fun bl=>?_)
    refine A.valE 24 rfl (x' := AB true) (ab_eq (by simp; omega)) ?_
    ((repeat first|refine A.s rfl ?_|refine A.r rfl rfl ?_|refine A.w rfl rfl ?_|refine A.p rfl ?_|refine A.b rfl fun bx=>?_|refine A.t rfl fun bl=>?_|refine A.step rfl ?_|refine A.v rfl rfl ?_); refine A.ret1 (Λ' := []) rfl rfl rfl (List.nil_sublist _) ⟨?_, rfl⟩; exact Sb.eq (ab_eq (no_may hz hno).symm))
  by_cases g4 : c.length ≤ 16
  case neg =>
    have hno : ¬ Valid m c := fun h => by have := h.g; simp only [mayG, Bool.and_eq_true, decide_eq_true_eq] at this; omega
    refine Pure.of (S := tt) (fn := Try.f12) (n := 126) tt_ok Try.func12 rfl rfl rfl rfl fun w0 h0 F hgs => ?_
    (repeat first|refine A.s rfl ?_|refine A.r rfl rfl ?_|refine A.w rfl rfl ?_|refine A.p rfl ?_|refine A.b rfl fun bx=>?_|refine A.t rfl fun bl=>?_)
    refine A.valE 13 rfl (x' := AB false) (ab_eq (by simp)) ?_
    (repeat first|refine A.s rfl ?_|refine A.r rfl rfl ?_|refine A.w rfl rfl ?_|refine A.p rfl ?_|refine A.b rfl fun bx=>?_|refine A.t rfl fun bl=>?_)
    refine A.valE 18 rfl (x' := AB false) (ab_eq (by simp; omega)) ?_
    (repeat first|refine A.s rfl ?_|refine A.r rfl rfl ?_|refine A.w rfl rfl ?_|refine A.p rfl ?_|refine A.b rfl fun bx=>?_|refine A.t rfl fun bl=>?_)
    refine A.valE 24 rfl (x' := AB false) (ab_eq (by simp; omega)) ?_
    (repeat first|refine A.s rfl ?_|refine A.r rfl rfl ?_|refine A.w rfl rfl ?_|refine A.p rfl ?_|refine A.b rfl fun bx=>?_|refine A.t rfl fun bl=>?_)
    refine A.valE 29 rfl (x' := AB true) (ab_eq (by simp; omega)) ?_
    ((repeat first|refine A.s rfl ?_|refine A.r rfl rfl ?_|refine A.w rfl rfl ?_|refine A.p rfl ?_|refine A.b rfl fun bx=>?_|refine A.t rfl fun bl=>?_|refine A.step rfl ?_|refine A.v rfl rfl ?_); refine A.ret1 (Λ' := []) rfl rfl rfl (List.nil_sublist _) ⟨?_, rfl⟩; exact Sb.eq (ab_eq (no_may hz hno).symm))
  have hg : mayG m c = true := by simp only [mayG, Bool.and_eq_true, decide_eq_true_eq]; omega
  have hm64 : m ≤ 64 := by omega
  refine Pure.of (S := tt) (fn := Try.f12) (n := 126) tt_ok Try.func12 rfl rfl rfl rfl fun w0 h0 F hgs => ?_
  (repeat first|refine A.s rfl ?_|refine A.r rfl rfl ?_|refine A.w rfl rfl ?_|refine A.p rfl ?_|refine A.b rfl fun bx=>?_|refine A.t rfl fun bl=>?_)
  refine A.valE 13 rfl (x' := AB false) (ab_eq (by simp)) ?_
  (repeat first|refine A.s rfl ?_|refine A.r rfl rfl ?_|refine A.w rfl rfl ?_|refine A.p rfl ?_|refine A.b rfl fun bx=>?_|refine A.t rfl fun bl=>?_)
  refine A.valE 18 rfl (x' := AB false) (ab_eq (by simp; omega)) ?_
  (repeat first|refine A.s rfl ?_|refine A.r rfl rfl ?_|refine A.w rfl rfl ?_|refine A.p rfl ?_|refine A.b rfl fun bx=>?_|refine A.t rfl fun bl=>?_)
  refine A.valE 24 rfl (x' := AB false) (ab_eq (by simp; omega)) ?_
  (repeat first|refine A.s rfl ?_|refine A.r rfl rfl ?_|refine A.w rfl rfl ?_|refine A.p rfl ?_|refine A.b rfl fun bx=>?_|refine A.t rfl fun bl=>?_)
  refine A.valE 29 rfl (x' := AB false) (ab_eq (by simp; omega)) ?_
  (repeat first|refine A.s rfl ?_|refine A.r rfl rfl ?_|refine A.w rfl rfl ?_|refine A.p rfl ?_|refine A.b rfl fun bx=>?_|refine A.t rfl fun bl=>?_|refine A.step rfl ?_|refine A.v rfl rfl ?_)
  refine A.keep [1, 3] rfl ?_
  refine A.loopP (ι := Nat) (fun i => (⟨[(1, .v (.pointer (some ⟨_, 0, none⟩))), (3, AI (i : Nat))], []⟩, [.box _ (.ag [AI m, procsA c])]))
    (fun i => i ≤ c.length ∧ ∀ k p, k < i → c[k]? = some p → FineP m p) (fun i => c.length - i) 0 ⟨by omega, fun k p hk => by omega⟩ rfl fun i hi ih => ?_
  (repeat first|refine A.s rfl ?_|refine A.r rfl rfl ?_|refine A.w rfl rfl ?_|refine A.p rfl ?_|refine A.b rfl fun bx=>?_|refine A.t rfl fun bl=>?_|refine A.step rfl ?_|refine A.v rfl rfl ?_)
  refine A.cond rfl (fun hc => ?_) (fun hc => ?_)
  · simp at hc
    refine Exists.elim (at_exN (l := c) (i := i) hc) fun p hp => ?_
    have hpm : p ∈ c := List.mem_of_getElem? hp
    have hpl : ((p.map rowA).length : Int) = p.length := by rw [List.length_map]
    have hpb := hs.steps p hpm
    have hpz : sizeP p ≤ 1000 := by have := sizeN_mem hpm; omega
    (repeat first|refine A.s rfl ?_|refine A.r rfl rfl ?_|refine A.w rfl rfl ?_|refine A.p rfl ?_|refine A.b rfl fun bx=>?_|refine A.t rfl fun bl=>?_|refine A.step rfl ?_|refine A.v rfl rfl ?_)
    refine A.x rfl (by omega) (map_at hp) rfl rfl ?_
    (repeat first|refine A.s rfl ?_|refine A.r rfl rfl ?_|refine A.w rfl rfl ?_|refine A.p rfl ?_|refine A.b rfl fun bx=>?_|refine A.t rfl fun bl=>?_|refine A.step rfl ?_|refine A.v rfl rfl ?_)
    refine A.cond rfl (fun hc => ?_) (fun hc => ?_)
    · simp at hc
      have hno : ¬ Valid m c := fun h => (h.fine p hpm).ne (List.eq_nil_of_length_eq_zero (by omega))
      ((repeat first|refine A.s rfl ?_|refine A.r rfl rfl ?_|refine A.w rfl rfl ?_|refine A.p rfl ?_|refine A.b rfl fun bx=>?_|refine A.t rfl fun bl=>?_|refine A.step rfl ?_|refine A.v rfl rfl ?_); refine A.ret1 (Λ' := []) rfl rfl rfl (List.nil_sublist _) ⟨?_, rfl⟩; exact Sb.eq (ab_eq (no_may hz hno).symm))
    simp at hc
    have hpn : p ≠ [] := fun e => by rw [e] at hc; simp at hc
    (repeat first|refine A.s rfl ?_|refine A.r rfl rfl ?_|refine A.w rfl rfl ?_|refine A.p rfl ?_|refine A.b rfl fun bx=>?_|refine A.t rfl fun bl=>?_|refine A.step rfl ?_|refine A.v rfl rfl ?_)
    refine A.keep [1, 3, 4] rfl ?_
    refine A.loopP (ι := Nat) (fun j => (⟨[(1, .v (.pointer (some ⟨_, 0, none⟩))), (3, AI (i : Nat)), (4, AI (j : Nat))], []⟩, [.box _ (.ag [AI m, procsA c])]))
      (fun j => j ≤ p.length ∧ ∀ k s, k < j → p[k]? = some s → s ≠ [] ∧ ∀ x, x ∈ s → okX m p x) (fun j => p.length - j) 0 ⟨by omega, fun k s hk => by omega⟩ rfl fun j hj jh => ?_
    (repeat first|refine A.s rfl ?_|refine A.r rfl rfl ?_|refine A.w rfl rfl ?_|refine A.p rfl ?_|refine A.b rfl fun bx=>?_|refine A.t rfl fun bl=>?_|refine A.step rfl ?_|refine A.v rfl rfl ?_)
    refine A.x rfl (by omega) (map_at hp) rfl rfl ?_
    (repeat first|refine A.s rfl ?_|refine A.r rfl rfl ?_|refine A.w rfl rfl ?_|refine A.p rfl ?_|refine A.b rfl fun bx=>?_|refine A.t rfl fun bl=>?_|refine A.step rfl ?_|refine A.v rfl rfl ?_)
    refine A.cond rfl (fun hc => ?_) (fun hc => ?_)
    · simp at hc
      refine Exists.elim (at_exN (l := p) (i := j) hc) fun s hst => ?_
      have hsm : s ∈ p := List.mem_of_getElem? hst
      have hsl : ((s.map AI).length : Int) = s.length := by rw [List.length_map]
      have hsb := hs.uses p hpm s hsm
      (repeat first|refine A.s rfl ?_|refine A.r rfl rfl ?_|refine A.w rfl rfl ?_|refine A.p rfl ?_|refine A.b rfl fun bx=>?_|refine A.t rfl fun bl=>?_|refine A.step rfl ?_|refine A.v rfl rfl ?_)
      refine A.x rfl (by omega) (map_at hp) rfl rfl ?_
      (repeat first|refine A.s rfl ?_|refine A.r rfl rfl ?_|refine A.w rfl rfl ?_|refine A.p rfl ?_|refine A.b rfl fun bx=>?_|refine A.t rfl fun bl=>?_|refine A.step rfl ?_|refine A.v rfl rfl ?_)
      refine A.x rfl (by omega) (map_at hst) rfl rfl ?_
      (repeat first|refine A.s rfl ?_|refine A.r rfl rfl ?_|refine A.w rfl rfl ?_|refine A.p rfl ?_|refine A.b rfl fun bx=>?_|refine A.t rfl fun bl=>?_|refine A.step rfl ?_|refine A.v rfl rfl ?_)
      refine A.cond rfl (fun hc => ?_) (fun hc => ?_)
      · simp at hc
        have hno : ¬ Valid m c := fun h => (h.fine p hpm).nes s hsm (List.eq_nil_of_length_eq_zero (by omega))
        ((repeat first|refine A.s rfl ?_|refine A.r rfl rfl ?_|refine A.w rfl rfl ?_|refine A.p rfl ?_|refine A.b rfl fun bx=>?_|refine A.t rfl fun bl=>?_|refine A.step rfl ?_|refine A.v rfl rfl ?_); refine A.ret1 (Λ' := []) rfl rfl rfl (List.nil_sublist _) ⟨?_, rfl⟩; exact Sb.eq (ab_eq (no_may hz hno).symm))
      simp at hc
      have hsn : s ≠ [] := fun e => by rw [e] at hc; simp at hc
      (repeat first|refine A.s rfl ?_|refine A.r rfl rfl ?_|refine A.w rfl rfl ?_|refine A.p rfl ?_|refine A.b rfl fun bx=>?_|refine A.t rfl fun bl=>?_|refine A.step rfl ?_|refine A.v rfl rfl ?_)
      refine A.keep [1, 3, 4, 5, 6] rfl ?_
      refine A.loopP (ι := Nat) (fun k => (⟨[(1, .v (.pointer (some ⟨_, 0, none⟩))), (3, AI (i : Nat)), (4, AI (j : Nat)), (5, rowA s), (6, AI (k : Nat))], []⟩, [.box _ (.ag [AI m, procsA c])]))
        (fun k => k ≤ s.length ∧ ∀ k' x, k' < k → s[k']? = some x → okX m p x) (fun k => s.length - k) 0 ⟨by omega, fun k x hk => by omega⟩ rfl fun k hk kh => ?_
      (repeat first|refine A.s rfl ?_|refine A.r rfl rfl ?_|refine A.w rfl rfl ?_|refine A.p rfl ?_|refine A.b rfl fun bx=>?_|refine A.t rfl fun bl=>?_|refine A.step rfl ?_|refine A.v rfl rfl ?_)
      refine A.cond rfl (fun hc => ?_) (fun hc => ?_)
      · simp at hc
        refine Exists.elim (at_exN (l := s) (i := k) hc) fun x hx => ?_
        have hxm : x ∈ s := List.mem_of_getElem? hx
        (repeat first|refine A.s rfl ?_|refine A.r rfl rfl ?_|refine A.w rfl rfl ?_|refine A.p rfl ?_|refine A.b rfl fun bx=>?_|refine A.t rfl fun bl=>?_)
        refine A.draw 24 [0, 1, 2, 3, 4, 5, 6, 7, 8, 9, 10, 11, 12, 13, 14, 15, 16, 17, 18, 19, 20, 21, 22, 23] noPubs [] (by kernel_rfl) (by kernel_rfl) ?_
        (repeat first|refine WA.s rfl ?_|refine WA.r rfl rfl ?_|refine WA.p rfl ?_)
        refine WA.x rfl (by omega) (map_at hx) rfl rfl ?_
        (repeat first|refine WA.s rfl ?_|refine WA.r rfl rfl ?_|refine WA.p rfl ?_)
        refine WA.gS rfl (fun hc => ?_) (fun hc => ?_)
        · simp at hc
          have hno : ¬ Valid m c := fun h => by have := (fine_ok (h.fine p hpm) hsm hxm).1; omega
          (repeat first|refine WA.s rfl ?_|refine WA.r rfl rfl ?_|refine WA.p rfl ?_)
          refine WA.nil (l := []) rfl ?_
          ((repeat first|refine A.s rfl ?_|refine A.r rfl rfl ?_|refine A.w rfl rfl ?_|refine A.p rfl ?_|refine A.b rfl fun bx=>?_|refine A.t rfl fun bl=>?_|refine A.step rfl ?_|refine A.v rfl rfl ?_); refine A.ret1 (Λ' := []) rfl rfl rfl (List.nil_sublist _) ⟨?_, rfl⟩; exact Sb.eq (ab_eq (no_may hz hno).symm))
        simp at hc
        have x0 := hc
        (repeat first|refine WA.s rfl ?_|refine WA.r rfl rfl ?_|refine WA.p rfl ?_)
        refine WA.x rfl (by omega) (map_at hx) rfl rfl ?_
        (repeat first|refine WA.s rfl ?_|refine WA.r rfl rfl ?_|refine WA.p rfl ?_)
        refine WA.gS rfl (fun hc => ?_) (fun hc => ?_)
        · simp at hc
          have hno : ¬ Valid m c := fun h => by have := (fine_ok (h.fine p hpm) hsm hxm).2.1; omega
          (repeat first|refine WA.s rfl ?_|refine WA.r rfl rfl ?_|refine WA.p rfl ?_)
          refine WA.nil (l := []) rfl ?_
          ((repeat first|refine A.s rfl ?_|refine A.r rfl rfl ?_|refine A.w rfl rfl ?_|refine A.p rfl ?_|refine A.b rfl fun bx=>?_|refine A.t rfl fun bl=>?_|refine A.step rfl ?_|refine A.v rfl rfl ?_); refine A.ret1 (Λ' := []) rfl rfl rfl (List.nil_sublist _) ⟨?_, rfl⟩; exact Sb.eq (ab_eq (no_may hz hno).symm))
        simp at hc
        have x1 := hc
        (repeat first|refine WA.s rfl ?_|refine WA.r rfl rfl ?_|refine WA.p rfl ?_)
        refine WA.x rfl (by omega) (map_at hp) rfl rfl ?_
        (repeat first|refine WA.s rfl ?_|refine WA.r rfl rfl ?_|refine WA.p rfl ?_)
        refine WA.x rfl (by omega) (map_at hx) rfl rfl ?_
        (repeat first|refine WA.s rfl ?_|refine WA.r rfl rfl ?_|refine WA.p rfl ?_)
        refine WA.nil (l := []) rfl ?_
        (repeat first|refine A.s rfl ?_|refine A.r rfl rfl ?_|refine A.w rfl rfl ?_|refine A.p rfl ?_|refine A.b rfl fun bx=>?_|refine A.t rfl fun bl=>?_)
        refine A.c rfl (uses_p p x hpz) .refl ?_
        (repeat first|refine A.s rfl ?_|refine A.r rfl rfl ?_|refine A.w rfl rfl ?_|refine A.p rfl ?_|refine A.b rfl fun bx=>?_|refine A.t rfl fun bl=>?_|refine A.step rfl ?_|refine A.v rfl rfl ?_)
        refine A.cond rfl (fun hc => ?_) (fun hc => ?_)
        · simp at hc
          have hno : ¬ Valid m c := fun h => by have := (fine_ok (h.fine p hpm) hsm hxm).2.2; omega
          ((repeat first|refine A.s rfl ?_|refine A.r rfl rfl ?_|refine A.w rfl rfl ?_|refine A.p rfl ?_|refine A.b rfl fun bx=>?_|refine A.t rfl fun bl=>?_|refine A.step rfl ?_|refine A.v rfl rfl ?_); refine A.ret1 (Λ' := []) rfl rfl rfl (List.nil_sublist _) ⟨?_, rfl⟩; exact Sb.eq (ab_eq (no_may hz hno).symm))
        · simp at hc
          (repeat first|refine A.s rfl ?_|refine A.r rfl rfl ?_|refine A.w rfl rfl ?_|refine A.p rfl ?_|refine A.b rfl fun bx=>?_|refine A.t rfl fun bl=>?_|refine A.step rfl ?_|refine A.v rfl rfl ?_)
          refine A.valE 6 rfl (x' := AI ((k + 1 : Nat) : Int)) (inc_eq k (by omega)) ?_
          refine A.sub (by repeat (first | exact trivial | refine ⟨⟨_, rfl, .refl⟩, ?_⟩)) (kh (k + 1) ⟨by omega, upto_next hk.2 hx ⟨x0, x1, by omega⟩⟩ (by omega))
      · simp at hc
        have hkl : k = s.length := by omega
        have h3 := hk.2
        rw [hkl] at h3
        (repeat first|refine A.s rfl ?_|refine A.r rfl rfl ?_|refine A.w rfl rfl ?_|refine A.p rfl ?_|refine A.b rfl fun bx=>?_|refine A.t rfl fun bl=>?_|refine A.step rfl ?_|refine A.v rfl rfl ?_)
        refine A.valE 4 rfl (x' := AI ((j + 1 : Nat) : Int)) (inc_eq j (by omega)) ?_
        refine A.sub (by repeat (first | exact trivial | refine ⟨⟨_, rfl, .refl⟩, ?_⟩)) (jh (j + 1) ⟨by omega, upto_next hj.2 hst ⟨hsn, mem_upto h3⟩⟩ (by omega))
    · simp at hc
      have hjl : j = p.length := by omega
      have h2 := hj.2
      rw [hjl] at h2
      (repeat first|refine A.s rfl ?_|refine A.r rfl rfl ?_|refine A.w rfl rfl ?_|refine A.p rfl ?_|refine A.b rfl fun bx=>?_|refine A.t rfl fun bl=>?_|refine A.step rfl ?_|refine A.v rfl rfl ?_)
      refine A.valE 3 rfl (x' := AI ((i + 1 : Nat) : Int)) (inc_eq i (by omega)) ?_
      refine A.sub (by repeat (first | exact trivial | refine ⟨⟨_, rfl, .refl⟩, ?_⟩)) (ih (i + 1) ⟨by omega, upto_next hi.2 hp (fine_of hpn (mem_upto h2))⟩ (by omega))
  simp at hc
  have hil : i = c.length := by omega
  have h1 := hi.2
  rw [hil] at h1
  have hfine : ∀ p, p ∈ c → FineP m p := mem_upto h1
  (repeat first|refine A.s rfl ?_|refine A.r rfl rfl ?_|refine A.w rfl rfl ?_|refine A.p rfl ?_|refine A.b rfl fun bx=>?_|refine A.t rfl fun bl=>?_|refine A.step rfl ?_|refine A.v rfl rfl ?_)
  refine A.keep [1, 7] rfl ?_
  refine A.loopP (ι := Nat) (fun h => (⟨[(1, .v (.pointer (some ⟨_, 0, none⟩))), (7, AI (h : Nat))], []⟩, [.box _ (.ag [AI m, procsA c])]))
    (fun h => h ≤ m ∧ ∀ k : Nat, k < h → useN c (k : Int) = 0 ∨ useN c (k : Int) = 2) (fun h => m - h) 0 ⟨by omega, fun k hk => by omega⟩ rfl fun h hh hr => ?_
  (repeat first|refine A.s rfl ?_|refine A.r rfl rfl ?_|refine A.w rfl rfl ?_|refine A.p rfl ?_|refine A.b rfl fun bx=>?_|refine A.t rfl fun bl=>?_|refine A.step rfl ?_|refine A.v rfl rfl ?_)
  refine A.cond rfl (fun hc => ?_) (fun hc => ?_)
  · simp at hc
    (repeat first|refine A.s rfl ?_|refine A.r rfl rfl ?_|refine A.w rfl rfl ?_|refine A.p rfl ?_|refine A.b rfl fun bx=>?_|refine A.t rfl fun bl=>?_|refine A.step rfl ?_|refine A.v rfl rfl ?_)
    refine A.keep [1, 7, 8, 9] rfl ?_
    refine A.loopP (ι := Nat × Nat) (fun q => (⟨[(1, .v (.pointer (some ⟨_, 0, none⟩))), (7, AI (h : Nat)), (8, AI (q.2 : Nat)), (9, AI (q.1 : Nat))], []⟩, [.box _ (.ag [AI m, procsA c])]))
      (fun q => q.1 ≤ c.length ∧ q.2 + useN (c.drop q.1) (h : Nat) = useN c (h : Nat)) (fun q => c.length - q.1) (0, 0) ⟨by simp, by simp⟩ rfl fun q hq qh => ?_
    obtain ⟨i2, acc⟩ := q
    simp only at hq qh ⊢
    (repeat first|refine A.s rfl ?_|refine A.r rfl rfl ?_|refine A.w rfl rfl ?_|refine A.p rfl ?_|refine A.b rfl fun bx=>?_|refine A.t rfl fun bl=>?_|refine A.step rfl ?_|refine A.v rfl rfl ?_)
    refine A.cond rfl (fun hc => ?_) (fun hc => ?_)
    · simp at hc
      refine Exists.elim (at_exN (l := c) (i := i2) hc) fun p hp => ?_
      have hpm : p ∈ c := List.mem_of_getElem? hp
      have hpz : sizeP p ≤ 1000 := by have := sizeN_mem hpm; omega
      have h2 := hq.2
      rw [drop_at hp, useN_cons] at h2
      have h3 := useN_le c (h : Nat)
      have h4 := flatL_le c
      (repeat first|refine A.s rfl ?_|refine A.r rfl rfl ?_|refine A.w rfl rfl ?_|refine A.p rfl ?_|refine A.b rfl fun bx=>?_|refine A.t rfl fun bl=>?_|refine A.step rfl ?_|refine A.v rfl rfl ?_)
      refine A.x rfl (by omega) (map_at hp) rfl rfl ?_
      (repeat first|refine A.s rfl ?_|refine A.r rfl rfl ?_|refine A.w rfl rfl ?_|refine A.p rfl ?_|refine A.b rfl fun bx=>?_|refine A.t rfl fun bl=>?_|refine A.step rfl ?_|refine A.v rfl rfl ?_)
      refine A.c rfl (uses_p p (h : Nat) hpz) .refl ?_
      (repeat first|refine A.s rfl ?_|refine A.r rfl rfl ?_|refine A.w rfl rfl ?_|refine A.p rfl ?_|refine A.b rfl fun bx=>?_|refine A.t rfl fun bl=>?_|refine A.step rfl ?_|refine A.v rfl rfl ?_)
      refine A.valE 8 rfl (x' := AI ((acc + p.flatten.count (h : Int) : Nat) : Int)) (ai_eq (by rw [w64_id (by unfold i64; omega)]; push_cast; rfl)) ?_
      refine A.valE 9 rfl (x' := AI ((i2 + 1 : Nat) : Int)) (inc_eq i2 (by omega)) ?_
      refine A.sub (by repeat (first | exact trivial | refine ⟨⟨_, rfl, .refl⟩, ?_⟩)) (qh (i2 + 1, acc + p.flatten.count (h : Int)) ⟨by simp only; omega, by simp only; omega⟩ (by simp only; omega))
    · simp at hc
      have hil2 : i2 = c.length := by omega
      have h2 := hq.2
      rw [hil2, List.drop_length] at h2
      have h2 : acc = useN c (h : Nat) := by rw [← h2]; simp [useN]
      (repeat first|refine A.s rfl ?_|refine A.r rfl rfl ?_|refine A.w rfl rfl ?_|refine A.p rfl ?_|refine A.b rfl fun bx=>?_|refine A.t rfl fun bl=>?_)
      ((fail_if_success (refine A.lit? rfl ?_)); refine A.gS rfl (fun hc => ?_) (fun hc => ?_))
      · simp at hc
        have a0 := hc
        (repeat first|refine A.s rfl ?_|refine A.r rfl rfl ?_|refine A.w rfl rfl ?_|refine A.p rfl ?_|refine A.b rfl fun bx=>?_|refine A.t rfl fun bl=>?_|refine A.step rfl ?_|refine A.v rfl rfl ?_)
        refine A.cond rfl (fun hc => ?_) (fun hc => ?_)
        · simp at hc
          have hno : ¬ Valid m c := fun v => by have := v.two h (by omega); omega
          ((repeat first|refine A.s rfl ?_|refine A.r rfl rfl ?_|refine A.w rfl rfl ?_|refine A.p rfl ?_|refine A.b rfl fun bx=>?_|refine A.t rfl fun bl=>?_|refine A.step rfl ?_|refine A.v rfl rfl ?_); refine A.ret1 (Λ' := []) rfl rfl rfl (List.nil_sublist _) ⟨?_, rfl⟩; exact Sb.eq (ab_eq (no_may hz hno).symm))
        · simp at hc
          (repeat first|refine A.s rfl ?_|refine A.r rfl rfl ?_|refine A.w rfl rfl ?_|refine A.p rfl ?_|refine A.b rfl fun bx=>?_|refine A.t rfl fun bl=>?_|refine A.step rfl ?_|refine A.v rfl rfl ?_)
          refine A.valE 7 rfl (x' := AI ((h + 1 : Nat) : Int)) (inc_eq h (by omega)) ?_
          refine A.sub (by repeat (first | exact trivial | refine ⟨⟨_, rfl, .refl⟩, ?_⟩)) (hr (h + 1) ⟨by omega, fun k hk => ?_⟩ (by omega))
          by_cases hkh : k = h
          · subst hkh; right; omega
          · exact hh.2 k (by omega)
      · simp at hc
        (repeat first|refine A.s rfl ?_|refine A.r rfl rfl ?_|refine A.w rfl rfl ?_|refine A.p rfl ?_|refine A.b rfl fun bx=>?_|refine A.t rfl fun bl=>?_|refine A.step rfl ?_|refine A.v rfl rfl ?_)
        refine A.valE 7 rfl (x' := AI ((h + 1 : Nat) : Int)) (inc_eq h (by omega)) ?_
        refine A.sub (by repeat (first | exact trivial | refine ⟨⟨_, rfl, .refl⟩, ?_⟩)) (hr (h + 1) ⟨by omega, fun k hk => ?_⟩ (by omega))
        by_cases hkh : k = h
        · subst hkh; left; omega
        · exact hh.2 k (by omega)
  · simp at hc
    have hhm : h = m := by omega
    have h2 := hh.2
    rw [hhm] at h2
    have hval : Valid m c := ⟨hg, hfine, fun k hk => by
      by_cases hkm : k < m
      · exact h2 k hkm
      · left; exact useN_none hfine (by omega)⟩
    (repeat first|refine A.s rfl ?_|refine A.r rfl rfl ?_|refine A.w rfl rfl ?_|refine A.p rfl ?_|refine A.b rfl fun bx=>?_|refine A.t rfl fun bl=>?_|refine A.step rfl ?_|refine A.v rfl rfl ?_); refine A.ret1 (Λ' := []) rfl rfl rfl (List.nil_sublist _) ⟨?_, rfl⟩; refine Sb.eq (ab_eq ?_); rw [(mayB_iff hz).2 hval]
end Go.Proofs.Ytpilobbmijpnoaa
