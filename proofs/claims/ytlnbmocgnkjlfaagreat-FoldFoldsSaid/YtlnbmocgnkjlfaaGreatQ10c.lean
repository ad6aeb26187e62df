/-
  Layer 10: equal expressions.
-/
import Derived.Test.YtlnbmocgnkjlfaaGreatQ10b
import Derived.Test.YtlnbmocgnkjlfaaGreatQ0i
import Derived.Test.YtlnbmocgnkjlfaaGreatLd

namespace Go.Proofs.YtlnbmocgnkjlfaaGreat
open Go Go.Tp
set_option linter.unusedVariables false
set_option linter.unusedSimpArgs false
set_option maxRecDepth 100000
set_option maxHeartbeats 4000000

mutual
/-- whether two expressions are equal -/
def eqX : XE → XE → Bool
  | ⟨k, o, t, n, s, l⟩, y => (k == y.kind) && (o == y.oper) && (t == y.to) && (n == y.n) && (s == y.s) && eqXl l y.l
def eqXl : List XE → List XE → Bool
  | [], [] => true
  | x :: l, y :: m => eqX x y && eqXl l m
  | [], _ :: _ => false
  | _ :: _, [] => false
end
mutual
theorem eqX_refl : ∀ e : XE, eqX e e = true
  | ⟨k, o, t, n, s, l⟩ => by rw [eqX, eqXl_refl l]; simp [XE.kind, XE.oper, XE.to, XE.n, XE.s]
theorem eqXl_refl : ∀ l : List XE, eqXl l l = true
  | [] => by rw [eqXl]
  | x :: l => by rw [eqXl, eqX_refl x, eqXl_refl l]; rfl
end
mutual
theorem eqX_eq : ∀ a b : XE, eqX a b = true → a = b
  | ⟨k, o, t, n, s, l⟩, ⟨k', o', t', n', s', l'⟩, h => by
    rw [eqX] at h
    simp only [Bool.and_eq_true, beq_iff_eq, XE.kind, XE.oper, XE.to, XE.n, XE.s, XE.l] at h
    obtain ⟨⟨⟨⟨⟨rfl, rfl⟩, rfl⟩, rfl⟩, rfl⟩, h⟩ := h
    rw [eqXl_eq l l' h]
theorem eqXl_eq : ∀ a b : List XE, eqXl a b = true → a = b
  | [], [], _ => rfl
  | x :: l, y :: m, h => by
    rw [eqXl, Bool.and_eq_true] at h
    rw [eqX_eq x y h.1, eqXl_eq l m h.2]
  | [], _ :: _, h => by rw [eqXl] at h; cases h
  | _ :: _, [], h => by rw [eqXl] at h; cases h
end
theorem eqX_def (a b : XE) : eqX a b = ((a.kind == b.kind) && (a.oper == b.oper) && (a.to == b.to) && (a.n == b.n) && (a.s == b.s) && eqXl a.l b.l) := by obtain ⟨k, o, t, n, s, l⟩ := a; rw [eqX]
theorem eqXl_len : ∀ a b : List XE, eqXl a b = true → a.length = b.length
  | [], [], _ => rfl
  | x :: l, y :: m, h => by rw [eqXl, Bool.and_eq_true] at h; simp [eqXl_len l m h.2]
  | [], _ :: _, h => by rw [eqXl] at h; cases h
  | _ :: _, [], h => by rw [eqXl] at h; cases h
theorem eqXl_drop {l m : List XE} {i : Nat} {x y : XE} (hx : l[i]? = some x) (hy : m[i]? = some y) : eqXl (l.drop i) (m.drop i) = (eqX x y && eqXl (l.drop (i + 1)) (m.drop (i + 1))) := by
  rw [drop_at hx, drop_at hy, eqXl]
theorem same_no {a b : XE} (h : a.kind ≠ b.kind ∨ a.oper ≠ b.oper ∨ a.to ≠ b.to ∨ a.n ≠ b.n ∨ a.s ≠ b.s ∨ a.l.length ≠ b.l.length) : false = eqX a b := by
  symm
  rw [Bool.eq_false_iff]
  intro hh
  have := eqX_eq a b hh
  subst this
  simp at h
theorem same10_p : ∀ (N : Nat) (a b : XE), htX a ≤ N → wfX a → Pure Tryz.prog gs0 11 [encX a, encX b] (AB (eqX a b))
  | 0, a, b, hn, _ => by have := htX_pos a; omega
  | N + 1, a, b, hn, hw => by
    have hla : ((encXl a.l).length : Int) = a.l.length := by rw [encXl_len]
    have hlb : ((encXl b.l).length : Int) = b.l.length := by rw [encXl_len]
    have hll : a.l.length ≤ 281474976710656 := by obtain ⟨k, o, t, n, s, l⟩ := a; rw [wfX] at hw; exact hw.1.2.2.2.2.2
    have ih := fun x y (hx : x ∈ a.l) => same10_p N x y (by have := htXl_le hx; have := htX_eq a; omega) (wfXl_mem (wfX_l hw) x hx)
    rw [encX_eq a, encX_eq b]
    refine Pure.of (S := tt) (fn := Tryz.f11) (n := 67) tt_ok Tryz.func11 rfl rfl rfl rfl fun w0 h0 F hgs => ?_
    (repeat' first|refine A.s rfl ?_|refine A.r rfl rfl ?_|refine A.w rfl rfl ?_|refine A.p rfl ?_|refine A.b rfl fun bx=>?_|refine A.t rfl fun bl=>?_|((fail_if_success (refine A.lit? rfl ?_)); refine A.gS rfl (fun hc => ?_) (fun hc => ?_))|((fail_if_success (refine A.litP? rfl ?_)); refine A.gSP rfl (fun hc => ?_) (fun hc => ?_)))
    all_goals try (refine A.ret1 (Λ' := []) rfl rfl rfl (List.nil_sublist _) ⟨?_, rfl⟩; refine Sb.eq (ab_eq (same_no ?_)); clear ih hla hlb; simp_all [bs_eq, encXl_len]; done)
    all_goals simp [encXl_len] at hc
    · refine A.ret1 (Λ' := []) rfl rfl rfl (List.nil_sublist _) ⟨?_, rfl⟩; refine Sb.eq (ab_eq (same_no (.inr (.inr (.inr (.inr (.inr (by omega))))))))
    rename_i c1 c2 c3 c4 c5
    have hlen : a.l.length = b.l.length := by omega
    have hq : eqX a b = eqXl a.l b.l := by rw [eqX_def]; clear ih; simp_all [bs_eq]
    refine A.keep [2, 3, 5] rfl ?_
    refine A.loopP (ι := Nat) (fun i => (⟨[(2, .v (.pointer (some ⟨_, 0, none⟩))), (3, .v (.pointer (some ⟨_, 0, none⟩))), (5, AI (i : Int))], []⟩, [.box _ (cellsX b), .box _ (cellsX a)]))
      (fun i => i ≤ a.l.length ∧ eqXl a.l b.l = eqXl (a.l.drop i) (b.l.drop i)) (fun i => a.l.length - i) 0 ⟨Nat.zero_le _, rfl⟩ rfl fun i hi ih2 => ?_
    (repeat first|refine A.s rfl ?_|refine A.r rfl rfl ?_|refine A.w rfl rfl ?_|refine A.p rfl ?_|refine A.b rfl fun bx=>?_|refine A.t rfl fun bl=>?_)
    refine A.valE 51 rfl (x' := AI (a.l.length : Nat)) (ai_eq hla) ?_
    (repeat first|refine A.s rfl ?_|refine A.r rfl rfl ?_|refine A.w rfl rfl ?_|refine A.p rfl ?_|refine A.b rfl fun bx=>?_|refine A.t rfl fun bl=>?_)
    refine A.cond rfl (fun hc => ?_) (fun hc => ?_)
    · simp at hc
      refine Exists.elim (at_exN (l := a.l) (i := i) (by omega)) fun x hx => ?_
      refine Exists.elim (at_exN (l := b.l) (i := i) (by omega)) fun y hy => ?_
      have hxy := ih x y (List.mem_of_getElem? hx)
      have h1 := hi.2
      rw [eqXl_drop hx hy] at h1
      rw [encX_eq x, encX_eq y] at hxy
      (repeat first|refine A.s rfl ?_|refine A.r rfl rfl ?_|refine A.w rfl rfl ?_|refine A.p rfl ?_|refine A.b rfl fun bx=>?_|refine A.t rfl fun bl=>?_)
      refine A.draw 10 [0, 1, 2, 3, 4, 5, 6, 7, 8, 9] noPubs [] (by kernel_rfl) (by kernel_rfl) ?_
      (repeat first|refine WA.s rfl ?_|refine WA.r rfl rfl ?_|refine WA.p rfl ?_|refine WA.step rfl ?_|refine WA.v rfl rfl ?_)
      refine WA.x rfl (by omega) (encXl_at hx) (encX_eq x) rfl ?_
      (repeat first|refine WA.s rfl ?_|refine WA.r rfl rfl ?_|refine WA.p rfl ?_|refine WA.step rfl ?_|refine WA.v rfl rfl ?_)
      refine WA.x rfl (by omega) (encXl_at hy) (encX_eq y) rfl ?_
      (repeat first|refine WA.s rfl ?_|refine WA.r rfl rfl ?_|refine WA.p rfl ?_|refine WA.step rfl ?_|refine WA.v rfl rfl ?_)
      refine WA.nil (l := []) rfl ?_
      (repeat first|refine A.s rfl ?_|refine A.r rfl rfl ?_|refine A.w rfl rfl ?_|refine A.p rfl ?_|refine A.b rfl fun bx=>?_|refine A.t rfl fun bl=>?_)
      refine A.c rfl hxy .refl ?_
      (repeat first|refine A.s rfl ?_|refine A.r rfl rfl ?_|refine A.w rfl rfl ?_|refine A.p rfl ?_|refine A.b rfl fun bx=>?_|refine A.t rfl fun bl=>?_)
      ((fail_if_success (refine A.lit? rfl ?_)); refine A.gS rfl (fun hc => ?_) (fun hc => ?_))
      · simp at hc
        rw [hc, Bool.false_and] at h1
        (repeat first|refine A.s rfl ?_|refine A.r rfl rfl ?_|refine A.w rfl rfl ?_|refine A.p rfl ?_|refine A.b rfl fun bx=>?_|refine A.t rfl fun bl=>?_); refine A.ret1 (Λ' := []) rfl rfl rfl (List.nil_sublist _) ⟨?_, rfl⟩; exact Sb.eq (ab_eq (by rw [hq, h1]))
      · simp at hc
        rw [hc, Bool.true_and] at h1
        (repeat first|refine A.s rfl ?_|refine A.r rfl rfl ?_|refine A.w rfl rfl ?_|refine A.p rfl ?_|refine A.b rfl fun bx=>?_|refine A.t rfl fun bl=>?_)
        refine A.valE 5 rfl (x' := AI ((i + 1 : Nat) : Int)) (inc_eq i (by omega)) ?_
        refine A.sub (by repeat (first | exact trivial | refine ⟨⟨_, rfl, .refl⟩, ?_⟩)) (ih2 (i + 1) ⟨by omega, h1⟩ (by omega))
    · simp at hc
      have : i = a.l.length := by omega
      subst this
      have h1 : eqXl a.l b.l = true := by rw [hi.2, List.drop_length, List.drop_eq_nil_of_le (by omega), eqXl]
      (repeat first|refine A.s rfl ?_|refine A.r rfl rfl ?_|refine A.w rfl rfl ?_|refine A.p rfl ?_|refine A.b rfl fun bx=>?_|refine A.t rfl fun bl=>?_); refine A.ret1 (Λ' := []) rfl rfl rfl (List.nil_sublist _) ⟨?_, rfl⟩; exact Sb.eq (ab_eq (by rw [hq, h1]))
end Go.Proofs.YtlnbmocgnkjlfaaGreat
