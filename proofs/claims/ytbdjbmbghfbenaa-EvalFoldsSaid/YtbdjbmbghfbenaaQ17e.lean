/-
  Chapter 17: equal stores, stores of kernels.
-/
import Derived.Test.YtbdjbmbghfbenaaQ17a
import Derived.Test.YtbdjbmbghfbenaaLb

namespace Go.Proofs.Ytbdjbmbghfbenaa
open Go Go.Tp
set_option linter.unusedVariables false
set_option linter.unusedSimpArgs false
set_option maxRecDepth 100000
set_option maxHeartbeats 4000000

/-! ### Same -/
def allEq {α β : Type} (f : α → β → Bool) (a : List α) (b : List β) (i : Nat) : Bool := (List.range i).all fun k => match a[k]?, b[k]? with
  | some x, some y => f x y
  | _, _ => true
theorem allEq_succ {α β : Type} (f : α → β → Bool) {a : List α} {b : List β} {i : Nat} {x : α} {y : β} (hx : a[i]? = some x) (hy : b[i]? = some y) : allEq f a b (i + 1) = (allEq f a b i && f x y) := by
  unfold allEq; rw [List.range_succ, List.all_append]; simp [hx, hy]
def alikeB {α : Type} (f : α → α → Bool) (a b : List α) : Bool := decide (a.length = b.length) && allEq f a b a.length
theorem allEq_le {α β : Type} {f : α → β → Bool} {a : List α} {b : List β} {j : Nat} (h : allEq f a b j = false) : ∀ n, j ≤ n → allEq f a b n = false := by
  intro n hn
  unfold allEq at *
  rw [List.all_eq_false] at *
  obtain ⟨k, h1, h2⟩ := h
  exact ⟨k, by simp at *; omega, h2⟩
/-- lengths for which no number wraps -/
def short (s : List (List Int)) : Prop := s.length ≤ 281474976710656 ∧ ∀ r, r ∈ s → r.length ≤ 281474976710656
theorem word_p (x y : Int) : Pure Try.prog gs0 25 [AI32 x, AI32 y] (AB (x == y)) := by
  refine Pure.of (S := tt) (fn := Try.f25) (n := 8) tt_ok Try.func25 rfl rfl rfl rfl fun w0 h0 F hgs => ?_
  (repeat first|refine A.s rfl ?_|refine A.r rfl rfl ?_|refine A.w rfl rfl ?_|refine A.p rfl ?_|refine A.b rfl fun bx=>?_|refine A.t rfl fun bl=>?_|refine A.step rfl ?_|refine A.v rfl rfl ?_); refine A.ret1 (Λ' := []) rfl rfl rfl (List.nil_sublist _) ⟨?_, rfl⟩; exact .refl
theorem alike32_p (a b : List Int) (hb : a.length ≤ 281474976710656) : Pure Try.prog gs0 28 [rowA a, rowA b, .fn 25 [] []] (AB (alikeB (· == ·) a b)) := by
  by_cases hlen : a.length = b.length
  case neg =>
    refine Pure.of (S := tt) (fn := Try.f28) (n := 30) tt_ok Try.func28 rfl rfl rfl rfl fun w0 h0 F hgs => ?_
    (repeat first|refine A.s rfl ?_|refine A.r rfl rfl ?_|refine A.w rfl rfl ?_|refine A.p rfl ?_|refine A.b rfl fun bx=>?_|refine A.t rfl fun bl=>?_|refine A.step rfl ?_|refine A.v rfl rfl ?_)
    refine A.valE 12 rfl (x' := AB true) (ab_eq (by simp; omega)) ?_
    (repeat first|refine A.s rfl ?_|refine A.r rfl rfl ?_|refine A.w rfl rfl ?_|refine A.p rfl ?_|refine A.b rfl fun bx=>?_|refine A.t rfl fun bl=>?_|refine A.step rfl ?_|refine A.v rfl rfl ?_); refine A.ret1 (Λ' := []) rfl rfl rfl (List.nil_sublist _) ⟨?_, rfl⟩; refine Sb.eq (ab_eq ?_); simp [alikeB, hlen]
  refine Pure.of (S := tt) (fn := Try.f28) (n := 30) tt_ok Try.func28 rfl rfl rfl rfl fun w0 h0 F hgs => ?_
  (repeat first|refine A.s rfl ?_|refine A.r rfl rfl ?_|refine A.w rfl rfl ?_|refine A.p rfl ?_|refine A.b rfl fun bx=>?_|refine A.t rfl fun bl=>?_|refine A.step rfl ?_|refine A.v rfl rfl ?_)
  refine A.valE 12 rfl (x' := AB false) (ab_eq (by simp; omega)) ?_
  (repeat first|refine A.s rfl ?_|refine A.r rfl rfl ?_|refine A.w rfl rfl ?_|refine A.p rfl ?_|refine A.b rfl fun bx=>?_|refine A.t rfl fun bl=>?_|refine A.step rfl ?_|refine A.v rfl rfl ?_)
  refine A.valE 14 rfl (x' := AI (a.length : Nat)) (ai_eq (by simp)) ?_
  refine A.keep [0, 1, 2, 14, 15] rfl ?_
  refine A.loopP (ι := Nat) (fun i => (⟨[(0, rowA a), (1, rowA b), (2, .fn 25 [] []), (14, AI (a.length : Nat)), (15, AI (i : Int))], []⟩, [])) (fun i => i ≤ a.length ∧ allEq (· == ·) a b i = true) (fun i => a.length - i) 0 ⟨by omega, rfl⟩ rfl fun i hi ih => ?_
  (repeat first|refine A.s rfl ?_|refine A.r rfl rfl ?_|refine A.w rfl rfl ?_|refine A.p rfl ?_|refine A.b rfl fun bx=>?_|refine A.t rfl fun bl=>?_|refine A.step rfl ?_|refine A.v rfl rfl ?_)
  refine A.cond rfl (fun hc => ?_) (fun hc => ?_)
  · simp at hc
    refine Exists.elim (at_exN (l := a) (i := i) (by omega)) fun x hx => Exists.elim (at_exN (l := b) (i := i) (by omega)) fun y hy => ?_
    (repeat first|refine A.s rfl ?_|refine A.r rfl rfl ?_|refine A.w rfl rfl ?_|refine A.p rfl ?_|refine A.b rfl fun bx=>?_|refine A.t rfl fun bl=>?_|refine A.step rfl ?_|refine A.v rfl rfl ?_)
    refine A.draw 9 [0, 1, 2, 3, 4, 5, 6, 7, 8] noPubs [] (by kernel_rfl) (by kernel_rfl) ?_
    (repeat first|refine WA.s rfl ?_|refine WA.r rfl rfl ?_|refine WA.p rfl ?_|refine WA.step rfl ?_|refine WA.v rfl rfl ?_); refine WA.x rfl (by omega) (map_at hx) rfl rfl ?_
    (repeat first|refine WA.s rfl ?_|refine WA.r rfl rfl ?_|refine WA.p rfl ?_|refine WA.step rfl ?_|refine WA.v rfl rfl ?_); refine WA.x rfl (by omega) (map_at hy) rfl rfl ?_
    (repeat first|refine WA.s rfl ?_|refine WA.r rfl rfl ?_|refine WA.p rfl ?_|refine WA.step rfl ?_|refine WA.v rfl rfl ?_); refine WA.nil rfl ?_
    (repeat first|refine A.s rfl ?_|refine A.r rfl rfl ?_|refine A.w rfl rfl ?_|refine A.p rfl ?_|refine A.b rfl fun bx=>?_|refine A.t rfl fun bl=>?_|refine A.step rfl ?_|refine A.v rfl rfl ?_)
    refine A.c rfl (word_p x y) .refl ?_
    (repeat first|refine A.s rfl ?_|refine A.r rfl rfl ?_|refine A.w rfl rfl ?_|refine A.p rfl ?_|refine A.b rfl fun bx=>?_|refine A.t rfl fun bl=>?_|refine A.step rfl ?_|refine A.v rfl rfl ?_)
    have h1 := allEq_succ (· == ·) hx hy
    refine A.cond rfl (fun hc => ?_) (fun hc => ?_)
    · simp at hc
      (repeat first|refine A.s rfl ?_|refine A.r rfl rfl ?_|refine A.w rfl rfl ?_|refine A.p rfl ?_|refine A.b rfl fun bx=>?_|refine A.t rfl fun bl=>?_|refine A.step rfl ?_|refine A.v rfl rfl ?_); refine A.ret1 (Λ' := []) rfl rfl rfl (List.nil_sublist _) ⟨?_, rfl⟩; refine Sb.eq (ab_eq ?_)
      have h2 := allEq_le (f := (· == ·)) (a := a) (b := b) (j := i + 1) (by rw [h1]; simp [hc]) a.length (by omega)
      simp [alikeB, h2]
    · simp at hc
      (repeat first|refine A.s rfl ?_|refine A.r rfl rfl ?_|refine A.w rfl rfl ?_|refine A.p rfl ?_|refine A.b rfl fun bx=>?_|refine A.t rfl fun bl=>?_|refine A.step rfl ?_|refine A.v rfl rfl ?_)
      refine A.valE 15 rfl (x' := AI ((i + 1 : Nat) : Int)) (inc_eq i (by omega)) ?_
      refine A.sub (by repeat (first | exact trivial | refine ⟨⟨_, rfl, .refl⟩, ?_⟩)) (ih (i + 1) ⟨by omega, by rw [h1]; simp [hi.2, hc]⟩ (by omega))
  · simp at hc
    have : i = a.length := by omega
    subst this
    (repeat first|refine A.s rfl ?_|refine A.r rfl rfl ?_|refine A.w rfl rfl ?_|refine A.p rfl ?_|refine A.b rfl fun bx=>?_|refine A.t rfl fun bl=>?_|refine A.step rfl ?_|refine A.v rfl rfl ?_); refine A.ret1 (Λ' := []) rfl rfl rfl (List.nil_sublist _) ⟨?_, rfl⟩; refine Sb.eq (ab_eq ?_); rw [alikeB, hi.2, decide_eq_true hlen]; rfl
theorem same2_p (a b : List Int) (hb : a.length ≤ 281474976710656) : Pure Try.prog gs0 27 [rowA a, rowA b, .pe 1 (.fn 25 [] [])] (AB (alikeB (· == ·) a b)) := by
  refine Pure.of (S := tt) (fn := Try.f27) (n := 10) tt_ok Try.func27 rfl rfl rfl rfl fun w0 h0 F hgs => ?_
  (repeat first|refine A.s rfl ?_|refine A.r rfl rfl ?_|refine A.w rfl rfl ?_|refine A.p rfl ?_|refine A.b rfl fun bx=>?_|refine A.t rfl fun bl=>?_|refine A.step rfl ?_|refine A.v rfl rfl ?_)
  refine A.c rfl (alike32_p a b hb) .refl ?_
  (repeat first|refine A.s rfl ?_|refine A.r rfl rfl ?_|refine A.w rfl rfl ?_|refine A.p rfl ?_|refine A.b rfl fun bx=>?_|refine A.t rfl fun bl=>?_|refine A.step rfl ?_|refine A.v rfl rfl ?_); refine A.ret1 (Λ' := []) rfl rfl rfl (List.nil_sublist _) ⟨?_, rfl⟩; exact .refl
def sameB (a b : List (List Int)) : Bool := alikeB (alikeB (· == ·)) a b
theorem alikeR_p (a b : List (List Int)) (hb : short a) : Pure Try.prog gs0 26 [rowsA a, rowsA b, .fn 27 [] [.pe 1 (.fn 25 [] [])]] (AB (sameB a b)) := by
  have hb1 := hb.1
  by_cases hlen : a.length = b.length
  case neg =>
    refine Pure.of (S := tt) (fn := Try.f26) (n := 30) tt_ok Try.func26 rfl rfl rfl rfl fun w0 h0 F hgs => ?_
    (repeat first|refine A.s rfl ?_|refine A.r rfl rfl ?_|refine A.w rfl rfl ?_|refine A.p rfl ?_|refine A.b rfl fun bx=>?_|refine A.t rfl fun bl=>?_|refine A.step rfl ?_|refine A.v rfl rfl ?_)
    refine A.valE 12 rfl (x' := AB true) (ab_eq (by simp; omega)) ?_
    (repeat first|refine A.s rfl ?_|refine A.r rfl rfl ?_|refine A.w rfl rfl ?_|refine A.p rfl ?_|refine A.b rfl fun bx=>?_|refine A.t rfl fun bl=>?_|refine A.step rfl ?_|refine A.v rfl rfl ?_); refine A.ret1 (Λ' := []) rfl rfl rfl (List.nil_sublist _) ⟨?_, rfl⟩; refine Sb.eq (ab_eq ?_); simp [sameB, alikeB, hlen]
  refine Pure.of (S := tt) (fn := Try.f26) (n := 30) tt_ok Try.func26 rfl rfl rfl rfl fun w0 h0 F hgs => ?_
  (repeat first|refine A.s rfl ?_|refine A.r rfl rfl ?_|refine A.w rfl rfl ?_|refine A.p rfl ?_|refine A.b rfl fun bx=>?_|refine A.t rfl fun bl=>?_|refine A.step rfl ?_|refine A.v rfl rfl ?_)
  refine A.valE 12 rfl (x' := AB false) (ab_eq (by simp; omega)) ?_
  (repeat first|refine A.s rfl ?_|refine A.r rfl rfl ?_|refine A.w rfl rfl ?_|refine A.p rfl ?_|refine A.b rfl fun bx=>?_|refine A.t rfl fun bl=>?_|refine A.step rfl ?_|refine A.v rfl rfl ?_)
  refine A.valE 14 rfl (x' := AI (a.length : Nat)) (ai_eq (by simp)) ?_
  refine A.keep [0, 1, 2, 14, 15] rfl ?_
  refine A.loopP (ι := Nat) (fun i => (⟨[(0, rowsA a), (1, rowsA b), (2, .fn 27 [] [.pe 1 (.fn 25 [] [])]), (14, AI (a.length : Nat)), (15, AI (i : Int))], []⟩, [])) (fun i => i ≤ a.length ∧ allEq (alikeB (· == ·)) a b i = true) (fun i => a.length - i) 0 ⟨by omega, rfl⟩ rfl fun i hi ih => ?_
  (repeat first|refine A.s rfl ?_|refine A.r rfl rfl ?_|refine A.w rfl rfl ?_|refine A.p rfl ?_|refine A.b rfl fun bx=>?_|refine A.t rfl fun bl=>?_|refine A.step rfl ?_|refine A.v rfl rfl ?_)
  refine A.cond rfl (fun hc => ?_) (fun hc => ?_)
  · simp at hc
    refine Exists.elim (at_exN (l := a) (i := i) (by omega)) fun x hx => Exists.elim (at_exN (l := b) (i := i) (by omega)) fun y hy => ?_
    (repeat first|refine A.s rfl ?_|refine A.r rfl rfl ?_|refine A.w rfl rfl ?_|refine A.p rfl ?_|refine A.b rfl fun bx=>?_|refine A.t rfl fun bl=>?_|refine A.step rfl ?_|refine A.v rfl rfl ?_)
    refine A.draw 9 [0, 1, 2, 3, 4, 5, 6, 7, 8] noPubs [] (by kernel_rfl) (by kernel_rfl) ?_
    (repeat first|refine WA.s rfl ?_|refine WA.r rfl rfl ?_|refine WA.p rfl ?_|refine WA.step rfl ?_|refine WA.v rfl rfl ?_); refine WA.x rfl (by omega) (map_at hx) rfl rfl ?_
    (repeat first|refine WA.s rfl ?_|refine WA.r rfl rfl ?_|refine WA.p rfl ?_|refine WA.step rfl ?_|refine WA.v rfl rfl ?_); refine WA.x rfl (by omega) (map_at hy) rfl rfl ?_
    (repeat first|refine WA.s rfl ?_|refine WA.r rfl rfl ?_|refine WA.p rfl ?_|refine WA.step rfl ?_|refine WA.v rfl rfl ?_); refine WA.nil rfl ?_
    (repeat first|refine A.s rfl ?_|refine A.r rfl rfl ?_|refine A.w rfl rfl ?_|refine A.p rfl ?_|refine A.b rfl fun bx=>?_|refine A.t rfl fun bl=>?_|refine A.step rfl ?_|refine A.v rfl rfl ?_)
    refine A.c rfl (same2_p x y (hb.2 x (List.mem_of_getElem? hx))) .refl ?_
    (repeat first|refine A.s rfl ?_|refine A.r rfl rfl ?_|refine A.w rfl rfl ?_|refine A.p rfl ?_|refine A.b rfl fun bx=>?_|refine A.t rfl fun bl=>?_|refine A.step rfl ?_|refine A.v rfl rfl ?_)
    have h1 := allEq_succ (alikeB (· == ·)) hx hy
    refine A.cond rfl (fun hc => ?_) (fun hc => ?_)
    · simp at hc
      (repeat first|refine A.s rfl ?_|refine A.r rfl rfl ?_|refine A.w rfl rfl ?_|refine A.p rfl ?_|refine A.b rfl fun bx=>?_|refine A.t rfl fun bl=>?_|refine A.step rfl ?_|refine A.v rfl rfl ?_); refine A.ret1 (Λ' := []) rfl rfl rfl (List.nil_sublist _) ⟨?_, rfl⟩; refine Sb.eq (ab_eq ?_)
      have h2 := allEq_le (f := alikeB (· == ·)) (a := a) (b := b) (j := i + 1) (by rw [h1]; simp [hc]) a.length (by omega)
      simp [sameB, alikeB, h2]
    · simp at hc
      (repeat first|refine A.s rfl ?_|refine A.r rfl rfl ?_|refine A.w rfl rfl ?_|refine A.p rfl ?_|refine A.b rfl fun bx=>?_|refine A.t rfl fun bl=>?_|refine A.step rfl ?_|refine A.v rfl rfl ?_)
      refine A.valE 15 rfl (x' := AI ((i + 1 : Nat) : Int)) (inc_eq i (by omega)) ?_
      refine A.sub (by repeat (first | exact trivial | refine ⟨⟨_, rfl, .refl⟩, ?_⟩)) (ih (i + 1) ⟨by omega, by rw [h1]; simp [hi.2, hc]⟩ (by omega))
  · simp at hc
    have : i = a.length := by omega
    subst this
    have h2 := hi.2
    (repeat first|refine A.s rfl ?_|refine A.r rfl rfl ?_|refine A.w rfl rfl ?_|refine A.p rfl ?_|refine A.b rfl fun bx=>?_|refine A.t rfl fun bl=>?_|refine A.step rfl ?_|refine A.v rfl rfl ?_); refine A.ret1 (Λ' := []) rfl rfl rfl (List.nil_sublist _) ⟨?_, rfl⟩; refine Sb.eq (ab_eq ?_); rw [sameB, alikeB, h2, decide_eq_true hlen]; rfl
theorem Same_p (a b : List (List Int)) (hb : short a) : Pure Try.prog gs0 16 [rowsA a, rowsA b] (AB (sameB a b)) := by
  refine Pure.of (S := tt) (fn := Try.f16) (n := 10) tt_ok Try.func16 rfl rfl rfl rfl fun w0 h0 F hgs => ?_
  iterate 8 (first | first|refine A.s rfl ?_|refine A.r rfl rfl ?_|refine A.w rfl rfl ?_|refine A.p rfl ?_|refine A.b rfl fun bx=>?_|refine A.t rfl fun bl=>?_ | first|refine A.step rfl ?_|refine A.v rfl rfl ?_)
  refine A.freeze 5 rfl (sz := 1) rfl rfl ?_
  (repeat first|refine A.s rfl ?_|refine A.r rfl rfl ?_|refine A.w rfl rfl ?_|refine A.p rfl ?_|refine A.b rfl fun bx=>?_|refine A.t rfl fun bl=>?_|refine A.step rfl ?_|refine A.v rfl rfl ?_)
  refine A.c rfl (alikeR_p a b hb) .refl ?_
  (repeat first|refine A.s rfl ?_|refine A.r rfl rfl ?_|refine A.w rfl rfl ?_|refine A.p rfl ?_|refine A.b rfl fun bx=>?_|refine A.t rfl fun bl=>?_|refine A.step rfl ?_|refine A.v rfl rfl ?_); refine A.ret1 (Λ' := []) rfl rfl rfl (List.nil_sublist _) ⟨?_, rfl⟩; exact .refl

/-! ### May -/
structure KV where
  kind : Int
  dim : Int
abbrev encV (v : KV) : AV := .ag [AU8 v.kind, AI v.dim]
def wfV (v : KV) : Prop := i64 v.dim
def soundB (v : KV) : Bool := (v.kind == 1 || v.kind == 2 || v.kind == 3) && decide (0 ≤ v.dim) && decide (v.dim ≤ 64)
theorem sound_p (v : KV) : Pure Try.prog gs0 44 [encV v] (AB (soundB v)) := by
  obtain ⟨k, d⟩ := v
  refine Pure.of (S := tt) (fn := Try.f44) (n := 26) tt_ok Try.func44 rfl rfl rfl rfl fun w0 h0 F hgs => ?_
  (repeat first|refine A.s rfl ?_|refine A.r rfl rfl ?_|refine A.w rfl rfl ?_|refine A.p rfl ?_|refine A.b rfl fun bx=>?_|refine A.t rfl fun bl=>?_|refine A.step rfl ?_|refine A.v rfl rfl ?_); refine A.ret1 (Λ' := []) rfl rfl rfl (List.nil_sublist _) ⟨?_, rfl⟩
  refine Sb.eq (ab_eq ?_)
  simp only [soundB]
  cases (k == 1) <;> cases (k == 2) <;> cases (k == 3) <;> cases decide (0 ≤ d) <;> simp
end Go.Proofs.Ytbdjbmbghfbenaa
