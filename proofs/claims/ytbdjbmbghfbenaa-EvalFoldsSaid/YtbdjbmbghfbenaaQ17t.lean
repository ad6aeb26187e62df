/-
  Chapter 17: the law EvalFolds: a constant expression without names that has a value has it in every store.
-/
import Derived.Test.YtbdjbmbghfbenaaQ14j
import Derived.Test.YtbdjbmbghfbenaaQ17h
import Derived.Test.YtbdjbmbghfbenaaLf

namespace Go.Proofs.Ytbdjbmbghfbenaa
open Go Go.Tp
set_option linter.unusedVariables false
set_option linter.unusedSimpArgs false
set_option maxRecDepth 100000
set_option maxHeartbeats 4000000

def kindK (k : Int) : Int := if k = 6 then 4 else if k = 7 then 5 else 6
mutual
/-- the expression of a kernel -/
def toK : XE → KE
  | ⟨k, o, t, n, s, l⟩ => if k = 1 ∨ k = 2 ∨ k = 3 then numE n else ⟨kindK k, o, t, 0, 0, toKl l⟩
def toKl : List XE → List KE
  | [] => []
  | e :: r => toK e :: toKl r
end
mutual
/-- no names -/
def plainB : XE → Bool
  | ⟨k, o, t, n, s, l⟩ => (k == 1 || k == 2 || k == 3 || k == 6 || k == 7 || k == 8) && plainBl l
def plainBl : List XE → Bool
  | [] => true
  | e :: r => plainB e && plainBl r
end
theorem toKl_map (l : List XE) : toKl l = l.map toK := by
  induction l with
  | nil => rw [toKl]; rfl
  | cons x r ih => rw [toKl, ih]; rfl
theorem plainBl_mem : ∀ {l : List XE}, plainBl l = true → ∀ x, x ∈ l → plainB x = true
  | [], _, x, h => by cases h
  | y :: r, hl, x, h => by
    rw [plainBl, Bool.and_eq_true] at hl
    rcases List.mem_cons.1 h with rfl | h
    · exact hl.1
    · exact plainBl_mem hl.2 x h
theorem len1 {α : Type} {l : List α} (h : l.length = 1) : ∃ a, l = [a] := by
  match l, h with
  | [a], _ => exact ⟨a, rfl⟩
theorem len2 {α : Type} {l : List α} (h : l.length = 2) : ∃ a b, l = [a, b] := by
  match l, h with
  | [a, b], _ => exact ⟨a, b, rfl⟩
/-- the shapes of valid expressions without names -/
theorem plain_cases {e : XE} (hf : fineX e = true) (hp : plainB e = true) : (∃ k n s, (k = 1 ∨ k = 2 ∨ k = 3) ∧ e = ⟨k, 0, 0, n, s, []⟩) ∨ (∃ o s a, 23 ≤ o ∧ o ≤ 26 ∧ fineX a = true ∧ plainB a = true ∧ e = ⟨6, o, 0, 0, s, [a]⟩)
    ∨ (∃ o s a b, 1 ≤ o ∧ o ≤ 22 ∧ (fineX a = true ∧ plainB a = true) ∧ (fineX b = true ∧ plainB b = true) ∧ e = ⟨7, o, 0, 0, s, [a, b]⟩) ∨ (∃ t s a, 1 ≤ t ∧ t ≤ 3 ∧ fineX a = true ∧ plainB a = true ∧ e = ⟨8, 0, t, 0, s, [a]⟩) := by
  obtain ⟨k, o, t, n, s, l⟩ := e
  rw [fineX_eq, Bool.and_eq_true] at hf
  rw [plainB, Bool.and_eq_true] at hp
  obtain ⟨h1, h2⟩ := hf
  obtain ⟨h3, h4⟩ := hp
  simp only [shapeX, Bool.and_eq_true, decide_eq_true_eq] at h1
  obtain ⟨h5, h6⟩ := h1
  unfold partsM at h5 h6
  simp only [Bool.or_eq_true, beq_iff_eq] at h3
  simp only [XE.kind, XE.oper, XE.to, XE.n, XE.s, XE.l] at *
  by_cases k1 : k = 1
  · subst k1
    simp at h5 h6
    obtain ⟨⟨rfl, rfl⟩, rfl⟩ := h5
    subst h6
    exact .inl ⟨1, n, [], .inl rfl, rfl⟩
  by_cases k2 : k = 2
  · subst k2
    by_cases hn : 0 ≤ n ∧ n ≤ 255
    · simp [hn] at h5 h6
      obtain ⟨⟨rfl, rfl⟩, rfl⟩ := h5
      subst h6
      exact .inl ⟨2, n, [], .inr (.inl rfl), rfl⟩
    · simp [hn] at h5
  by_cases k3 : k = 3
  · subst k3
    by_cases hn : 0 ≤ n ∧ n ≤ 1
    · simp [hn] at h5 h6
      obtain ⟨⟨rfl, rfl⟩, rfl⟩ := h5
      subst h6
      exact .inl ⟨3, n, [], .inr (.inr rfl), rfl⟩
    · simp [hn] at h5
  by_cases k6 : k = 6
  · subst k6
    by_cases hn : 23 ≤ o ∧ o ≤ 26
    · simp [hn] at h5 h6
      obtain ⟨⟨rfl, rfl⟩, rfl⟩ := h5
      obtain ⟨a, rfl⟩ := len1 (l := l) (by omega)
      simp only [fineXl, plainBl, Bool.and_eq_true] at h2 h4
      exact .inr (.inl ⟨o, [], a, hn.1, hn.2, h2.1, h4.1, rfl⟩)
    · simp [hn] at h5
  by_cases k7 : k = 7
  · subst k7
    by_cases hn : 1 ≤ o ∧ o ≤ 22
    · simp [hn] at h5 h6
      obtain ⟨⟨rfl, rfl⟩, rfl⟩ := h5
      obtain ⟨a, b, rfl⟩ := len2 (l := l) (by omega)
      simp only [fineXl, plainBl, Bool.and_eq_true] at h2 h4
      exact .inr (.inr (.inl ⟨o, [], a, b, hn.1, hn.2, ⟨h2.1, h4.1⟩, ⟨h2.2.1, h4.2.1⟩, rfl⟩))
    · simp [hn] at h5
  by_cases k8 : k = 8
  · subst k8
    by_cases hn : 1 ≤ t ∧ t ≤ 3
    · simp [hn] at h5 h6
      obtain ⟨⟨rfl, rfl⟩, rfl⟩ := h5
      obtain ⟨a, rfl⟩ := len1 (l := l) (by omega)
      simp only [fineXl, plainBl, Bool.and_eq_true] at h2 h4
      exact .inr (.inr (.inr ⟨t, [], a, hn.1, hn.2, h2.1, h4.1, rfl⟩))
    · simp [hn] at h5
  omega
theorem toK_fine : ∀ (N : Nat) (e : XE), szX e ≤ N → fineX e = true → plainB e = true → fine (toK e) = true ∧ sz (toK e) = szX e ∧ ht (toK e) = htX e
  | 0, e, hn, _, _ => by have := szX_pos e; omega
  | N + 1, e, hn, hf, hp => by
    rcases plain_cases hf hp with ⟨k, n, s, hk, rfl⟩ | ⟨o, s, a, h1, h2, h3, h4, rfl⟩ | ⟨o, s, a, b, h1, h2, h3, h4, rfl⟩ | ⟨t, s, a, h1, h2, h3, h4, rfl⟩
    · rw [toK, if_pos hk]; simp [numE, fine, finel, sz, szl, ht, htl, szX, szXl, htX, htXl, shapeB]
    · simp only [szX, szXl] at hn
      obtain ⟨q1, q2, q3⟩ := toK_fine N a (by omega) h3 h4
      rw [toK, if_neg (by omega)]
      simp [KE.kind, KE.oper, KE.to, KE.n, KE.v, KE.l, kindK, toKl, fine, finel, sz, szl, ht, htl, szX, szXl, htX, htXl, shapeB, q1, q2, q3, h1, h2]
    · simp only [szX, szXl] at hn
      have := szX_pos a
      have := szX_pos b
      obtain ⟨q1, q2, q3⟩ := toK_fine N a (by omega) h3.1 h3.2
      obtain ⟨r1, r2, r3⟩ := toK_fine N b (by omega) h4.1 h4.2
      rw [toK, if_neg (by omega)]
      simp [KE.kind, KE.oper, KE.to, KE.n, KE.v, KE.l, kindK, toKl, fine, finel, sz, szl, ht, htl, szX, szXl, htX, htXl, shapeB, q1, q2, q3, r1, r2, r3, h1, h2]
    · simp only [szX, szXl] at hn
      obtain ⟨q1, q2, q3⟩ := toK_fine N a (by omega) h3 h4
      rw [toK, if_neg (by omega)]
      simp [KE.kind, KE.oper, KE.to, KE.n, KE.v, KE.l, kindK, toKl, fine, finel, sz, szl, ht, htl, szX, szXl, htX, htXl, shapeB, q1, q2, q3, h1, h2]
theorem toK_wf : ∀ (N : Nat) (e : XE), szX e ≤ N → wfX e → fineX e = true → plainB e = true → wfK (toK e)
  | 0, e, hn, _, _, _ => by have := szX_pos e; omega
  | N + 1, e, hn, hw, hf, hp => by
    rcases plain_cases hf hp with ⟨k, n, s, hk, rfl⟩ | ⟨o, s, a, h1, h2, h3, h4, rfl⟩ | ⟨o, s, a, b, h1, h2, h3, h4, rfl⟩ | ⟨t, s, a, h1, h2, h3, h4, rfl⟩
    · rw [toK, if_pos hk]
      rw [wfX] at hw
      simp only [numE, wfK, wfKl, and_true]
      exact ⟨by unfold u8; omega, by unfold u8; omega, by unfold u8; omega, hw.1.2.2.2.1, by unfold i64; omega⟩
    · simp only [szX, szXl] at hn
      rw [wfX, wfXl] at hw
      have q := toK_wf N a (by omega) hw.2.1 h3 h4
      rw [toK, if_neg (by omega)]
      simp only [kindK, toKl, wfK, wfKl, and_true]
      exact ⟨⟨by unfold u8; simp, by unfold u8; omega, by unfold u8; omega, by unfold i32; omega, by unfold i64; omega⟩, q⟩
    · simp only [szX, szXl] at hn
      have := szX_pos a
      have := szX_pos b
      rw [wfX, wfXl, wfXl] at hw
      have q := toK_wf N a (by omega) hw.2.1 h3.1 h3.2
      have r := toK_wf N b (by omega) hw.2.2.1 h4.1 h4.2
      rw [toK, if_neg (by omega)]
      simp only [kindK, toKl, wfK, wfKl, and_true]
      exact ⟨⟨by unfold u8; simp, by unfold u8; omega, by unfold u8; omega, by unfold i32; omega, by unfold i64; omega⟩, q, r⟩
    · simp only [szX, szXl] at hn
      rw [wfX, wfXl] at hw
      have q := toK_wf N a (by omega) hw.2.1 h3 h4
      rw [toK, if_neg (by omega)]
      simp only [kindK, toKl, wfK, wfKl, and_true]
      exact ⟨⟨by unfold u8; simp, by unfold u8; omega, by unfold u8; omega, by unfold i32; omega, by unfold i64; omega⟩, q⟩
/-! ### values -/
theorem pair_some {r : Option Int} (h : (pairV r).2 = true) : r = some (pairV r).1 := by
  cases r with
  | none => cases h
  | some x => rfl
theorem conv_some {t : Int} (ht : 1 ≤ t ∧ t ≤ 3) {x : Int × Bool} (h : (conv14 t x).2 = true) : x.2 = true ∧ convC t x.1 = some (conv14 t x).1 := by
  unfold conv14 at h ⊢
  unfold convC
  by_cases h1 : t = 1
  · subst h1; simp at h ⊢; exact h
  rw [if_neg h1] at h ⊢
  by_cases h2 : x.2 = false ∨ x.1 < 0 ∨ x.1 > (if t = 3 then 1 else 255)
  · rw [if_pos h2] at h; cases h
  rw [if_neg h2] at h ⊢
  refine ⟨h, ?_⟩
  by_cases h3 : t = 3
  · subst h3; simp [h] at h2; rw [if_pos (by omega)]
  · have : t = 2 := by omega
    subst this; simp [h] at h2; rw [if_pos (by omega)]
theorem short_and {o a b v : Int} (h : isSh o a = true) (hv : applyC o a b = some v) : v = a := by
  simp only [isSh, Bool.or_eq_true, Bool.and_eq_true, beq_iff_eq] at h
  rcases h with ⟨rfl, rfl⟩ | ⟨rfl, rfl⟩
  · simp only [applyC] at hv
    simp at hv
    rw [← hv.2]; rfl
  · simp only [applyC] at hv
    simp at hv
    rw [← hv.2]; rfl
theorem val_plain (s : List (List Int)) : ∀ (N : Nat) (e : XE), szX e ≤ N → fineX e = true → (valX [] [] e).2 = true → plainB e = true ∧ valM s (toK e) = some (valX [] [] e).1
  | 0, e, hn, _, _ => by have := szX_pos e; omega
  | N + 1, e, hn, hf, hv => by
    have hsh : shapeX e = true := by rw [fineX_eq, Bool.and_eq_true] at hf; exact hf.1
    have hfl : fineXl e.l = true := by rw [fineX_eq, Bool.and_eq_true] at hf; exact hf.2
    have hl := shape_l e hsh
    have hk := shape_k e hsh
    obtain ⟨k, o, t, n, w, l⟩ := e
    simp only [XE.kind, XE.oper, XE.to, XE.n, XE.s, XE.l] at hl hk hfl
    by_cases h1 : k = 1 ∨ k = 2 ∨ k = 3
    · rw [if_neg (by omega), if_neg (by omega)] at hl
      have : l = [] := List.eq_nil_of_length_eq_zero (by omega)
      subst this
      rw [valX_eq] at hv ⊢
      simp only [XE.kind, XE.oper, XE.to, XE.n, XE.s, XE.l] at hv ⊢
      rw [if_pos h1]
      refine ⟨?_, ?_⟩
      · rw [plainB, plainBl]; rcases h1 with h | h | h <;> simp [h]
      · rw [toK, if_pos h1]; simp [numE, valM, valMl, combM]
    rw [valX_eq] at hv ⊢
    simp only [XE.kind, XE.oper, XE.to, XE.n, XE.s, XE.l] at hv ⊢
    rw [if_neg h1] at hv ⊢
    by_cases h4 : k = 4
    · rw [if_pos h4] at hv; simp [findB] at hv
    rw [if_neg h4] at hv ⊢
    by_cases h9 : k = 9
    · rw [if_pos h9] at hv; simp at hv
    rw [if_neg h9] at hv ⊢
    by_cases h5 : k = 5
    · rw [if_pos h5] at hv; simp at hv
    rw [if_neg h5] at hv ⊢
    rw [toK, if_neg h1]
    by_cases h8 : k = 8
    · subst h8
      obtain ⟨a, rfl⟩ := len1 (l := l) (by simp at hl; omega)
      rw [if_pos rfl] at hv ⊢
      simp only [szX, szXl] at hn
      simp only [fineXl, Bool.and_eq_true] at hfl
      have e1 : (valXl [] [] [a]).headD (0, false) = valX [] [] a := by simp [valXl]
      rw [e1] at hv ⊢
      have ht : 1 ≤ t ∧ t ≤ 3 := by
        simp only [shapeX, Bool.and_eq_true, XE.kind, XE.oper, XE.to, XE.n, XE.s, XE.l] at hsh
        have := hsh.1
        simp only [partsM] at this
        by_cases q : 1 ≤ t ∧ t ≤ 3
        · exact q
        · simp [q] at this
      obtain ⟨q1, q2⟩ := conv_some ht hv
      obtain ⟨r1, r2⟩ := val_plain s N a (by omega) hfl.1 q1
      refine ⟨by simp [plainB, plainBl, r1], ?_⟩
      simp [kindK, toKl, valM, valMl, combM, r2, q2]
    rw [if_neg h8] at hv ⊢
    by_cases h6 : k = 6
    · subst h6
      obtain ⟨a, rfl⟩ := len1 (l := l) (by simp at hl; omega)
      simp only [szX, szXl] at hn
      simp only [fineXl, Bool.and_eq_true] at hfl
      have e1 : opV o (valXl [] [] [a]) = if (valX [] [] a).2 then pairV (applyC o (valX [] [] a).1 0) else (0, false) := by simp only [valXl]; rfl
      rw [e1] at hv ⊢
      cases q1 : (valX [] [] a).2 with
      | false => rw [q1] at hv; simp at hv
      | true =>
        rw [q1, if_pos rfl] at hv
        rw [if_pos rfl]
        obtain ⟨r1, r2⟩ := val_plain s N a (by omega) hfl.1 q1
        refine ⟨by simp [plainB, plainBl, r1], ?_⟩
        have := pair_some hv
        simp only [kindK, toKl, valM, valMl, combM, r2]
        simp
        exact this
    · have h7 : k = 7 := by omega
      subst h7
      obtain ⟨a, b, rfl⟩ := len2 (l := l) (by simp at hl; omega)
      simp only [szX, szXl] at hn
      have := szX_pos a
      have := szX_pos b
      simp only [fineXl, Bool.and_eq_true] at hfl
      have e1 : opV o (valXl [] [] [a, b]) = if (valX [] [] a).2 then (if (valX [] [] b).2 then pairV (applyC o (valX [] [] a).1 (valX [] [] b).1) else (0, false)) else (0, false) := by simp only [valXl]; rfl
      rw [e1] at hv ⊢
      cases q1 : (valX [] [] a).2 with
      | false => rw [q1] at hv; simp at hv
      | true =>
        cases q2 : (valX [] [] b).2 with
        | false => rw [q1, q2] at hv; simp at hv
        | true =>
          rw [q1, q2, if_pos rfl, if_pos rfl] at hv
          rw [if_pos rfl, if_pos rfl]
          obtain ⟨r1, r2⟩ := val_plain s N a (by omega) hfl.1 q1
          obtain ⟨w1, w2⟩ := val_plain s N b (by omega) hfl.2.1 q2
          refine ⟨by simp [plainB, plainBl, r1, w1], ?_⟩
          have hp := pair_some hv
          simp only [kindK, toKl, valM, valMl, combM, r2, w2]
          simp
          by_cases hs : isSh o (valX [] [] a).1 = true
          · rw [if_pos hs, short_and hs hp]
          · rw [if_neg hs]; exact hp
/-! ### the walk -/
theorem toKl_at {l : List XE} {i : Nat} {x : XE} (h : l[i]? = some x) : encKl (toKl (l.take (i + 1))) = encKl (toKl (l.take i)) ++ [encK (toK x)] := by
  rw [List.take_add_one, h, toKl_map, toKl_map, encKl_map, encKl_map, List.map_append, List.map_append]; rfl
theorem toKl_len (l : List XE) : (encKl (toKl l)).length = l.length := by rw [encKl_len, toKl_map, List.length_map]
abbrev growK (k o t : Int) (l : List AV) (z : Value) : AV := .ag [AU8 k, AU8 o, AU8 t, AI32 0, AI 0, .sl 6 l (some z)]
theorem encX_ag {x : XE} : encX x = .ag [AU8 x.kind, AU8 x.oper, AU8 x.to, AI32 x.n, AS x.s, .sl 6 (encXl x.l) none] := encX_eq x
theorem plain_p17 : ∀ (N : Nat) (e : XE), szX e ≤ N → wfX e → fineX e = true → plainB e = true → Pure Try.prog gs0 7 [encX e] (.tp [encK (toK e), AB true])
  | 0, e, hn, _, _, _ => by have := szX_pos e; omega
  | N + 1, e, hn, hw, hf, hp => by
    have hcs := plain_cases hf hp
    have hfl : fineXl e.l = true := by rw [fineX_eq, Bool.and_eq_true] at hf; exact hf.2
    obtain ⟨k, o, t, n, w, l⟩ := e
    by_cases h1 : k = 1 ∨ k = 2 ∨ k = 3
    · have hnp := number_p n
      rw [encK_eq] at hnp
      rw [encX, toK, if_pos h1, encK_eq (numE n)]
      rcases h1 with rfl | rfl | rfl
      · refine Pure.of (S := tt) (fn := Try.f7) (n := 56) tt_ok Try.func7 rfl rfl rfl rfl fun w0 h0 F hgs => ?_
        (repeat first|refine A.s rfl ?_|refine A.r rfl rfl ?_|refine A.w rfl rfl ?_|refine A.p rfl ?_|refine A.b rfl fun bx=>?_|refine A.t rfl fun bl=>?_|refine A.step rfl ?_|refine A.v rfl rfl ?_); refine A.c rfl hnp .refl ?_; (repeat first|refine A.s rfl ?_|refine A.r rfl rfl ?_|refine A.w rfl rfl ?_|refine A.p rfl ?_|refine A.b rfl fun bx=>?_|refine A.t rfl fun bl=>?_|refine A.step rfl ?_|refine A.v rfl rfl ?_); refine A.retN (Λ' := []) rfl rfl (ResA.cell rfl rfl rfl (ResA.tmp rfl ResA.nil)) (List.nil_sublist _) ⟨?_, rfl⟩; (repeat (first | exact Sb.refl | exact SbL.refl | refine SbL.cons ?_ ?_ | exact Sb.nil | exact Sb.own1 | refine Sb.own ?_ | refine Sb.ag ?_ | refine Sb.tp ?_))
      · refine Pure.of (S := tt) (fn := Try.f7) (n := 56) tt_ok Try.func7 rfl rfl rfl rfl fun w0 h0 F hgs => ?_
        (repeat first|refine A.s rfl ?_|refine A.r rfl rfl ?_|refine A.w rfl rfl ?_|refine A.p rfl ?_|refine A.b rfl fun bx=>?_|refine A.t rfl fun bl=>?_|refine A.step rfl ?_|refine A.v rfl rfl ?_); refine A.c rfl hnp .refl ?_; (repeat first|refine A.s rfl ?_|refine A.r rfl rfl ?_|refine A.w rfl rfl ?_|refine A.p rfl ?_|refine A.b rfl fun bx=>?_|refine A.t rfl fun bl=>?_|refine A.step rfl ?_|refine A.v rfl rfl ?_); refine A.retN (Λ' := []) rfl rfl (ResA.cell rfl rfl rfl (ResA.tmp rfl ResA.nil)) (List.nil_sublist _) ⟨?_, rfl⟩; (repeat (first | exact Sb.refl | exact SbL.refl | refine SbL.cons ?_ ?_ | exact Sb.nil | exact Sb.own1 | refine Sb.own ?_ | refine Sb.ag ?_ | refine Sb.tp ?_))
      · refine Pure.of (S := tt) (fn := Try.f7) (n := 56) tt_ok Try.func7 rfl rfl rfl rfl fun w0 h0 F hgs => ?_
        (repeat first|refine A.s rfl ?_|refine A.r rfl rfl ?_|refine A.w rfl rfl ?_|refine A.p rfl ?_|refine A.b rfl fun bx=>?_|refine A.t rfl fun bl=>?_|refine A.step rfl ?_|refine A.v rfl rfl ?_); refine A.c rfl hnp .refl ?_; (repeat first|refine A.s rfl ?_|refine A.r rfl rfl ?_|refine A.w rfl rfl ?_|refine A.p rfl ?_|refine A.b rfl fun bx=>?_|refine A.t rfl fun bl=>?_|refine A.step rfl ?_|refine A.v rfl rfl ?_); refine A.retN (Λ' := []) rfl rfl (ResA.cell rfl rfl rfl (ResA.tmp rfl ResA.nil)) (List.nil_sublist _) ⟨?_, rfl⟩; (repeat (first | exact Sb.refl | exact SbL.refl | refine SbL.cons ?_ ?_ | exact Sb.nil | exact Sb.own1 | refine Sb.own ?_ | refine Sb.ag ?_ | refine Sb.tp ?_))
    have hl2 : l.length ≤ 2 := by
      rcases hcs with ⟨k, n, s, hk, e⟩ | ⟨o, s, a, h1, h2, h3, h4, e⟩ | ⟨o, s, a, b, h1, h2, h3, h4, e⟩ | ⟨t, s, a, h1, h2, h3, h4, e⟩
      all_goals (injection e with _ _ _ _ _ e; subst e; simp)
    have hk3 : k = 6 ∨ k = 7 ∨ k = 8 := by
      rcases hcs with ⟨k, n, s, hk, e⟩ | ⟨o, s, a, h1, h2, h3, h4, e⟩ | ⟨o, s, a, b, h1, h2, h3, h4, e⟩ | ⟨t, s, a, h1, h2, h3, h4, e⟩
      all_goals (injection e with e; subst e; omega)
    have ih0 : ∀ x, x ∈ l → Pure Try.prog gs0 7 [encX x] (.tp [encK (toK x), AB true]) := fun x hx => by
      refine plain_p17 N x ?_ ?_ (fineXl_mem hfl x hx) ?_
      · have : ∀ l : List XE, x ∈ l → szX x ≤ szXl l := fun l => by
          induction l with
          | nil => intro h; cases h
          | cons y l ih => intro h; rw [szXl]; rcases List.mem_cons.1 h with rfl | h; omega; have := ih h; omega
        have := this l hx
        rw [szX] at hn; omega
      · exact wfXl_mem (wfX_l hw) x hx
      · rw [plainB, Bool.and_eq_true] at hp; exact plainBl_mem hp.2 x hx
    clear hcs
    rw [encX]
    rcases hk3 with rfl | rfl | rfl
    · refine Pure.of (S := tt) (fn := Try.f7) (n := 56) tt_ok Try.func7 rfl rfl rfl rfl fun w0 h0 F hgs => ?_
      (repeat first|refine A.s rfl ?_|refine A.r rfl rfl ?_|refine A.w rfl rfl ?_|refine A.p rfl ?_|refine A.b rfl fun bx=>?_|refine A.t rfl fun bl=>?_|refine A.step rfl ?_|refine A.v rfl rfl ?_)
      refine A.boxAs (x' := growK (kindK 6) o t (encKl (toKl (l.take 0))) (.slice none 0 0)) (.refl _) (fun h => Rp_ag_imp (RpC_imp (fun _ r => r) (RpC_imp (fun _ r => r) (RpC_imp (fun _ r => r) (RpC_imp (fun _ r => r) (RpC_imp (fun _ r => r) (RpC_imp (fun y r => by rw [List.take_zero, toKl, encKl]; exact nil_own 6 r) (fun _ r => r)))))))) ?_
      refine A.fullTail 6 0 none (fun _ => rfl) (fun x hx => by cases hx) ?_
      refine A.valE 35 rfl (x' := AI (l.length : Nat)) (ai_eq (by rw [encXl_len])) ?_
      refine A.keep [1, 2, 4, 34, 35, 36] rfl ?_
      refine A.loopP (ι := Nat × Value) (fun p => (⟨[(1, .v (.pointer (some ⟨_, 0, none⟩))), (2, .v (.pointer (some ⟨_, 0, none⟩))), (4, .v (.pointer (some ⟨_, 0, none⟩))), (34, .sl 6 (encXl l) none), (35, AI (l.length : Nat)), (36, AI (p.1 : Nat))], []⟩, [.tail 6 p.2, .box _ (growK (kindK 6) o t (encKl (toKl (l.take p.1))) p.2), .box _ (.ag [AU8 0, AU8 0, AU8 0, AI32 0, AI 0, .v (.slice none 0 0)]), .box _ (.ag [AU8 6, AU8 o, AU8 t, AI32 n, AS w, .sl 6 (encXl l) none])]))
        (fun p => p.1 ≤ l.length) (fun p => l.length - p.1) (0, .slice none 0 0) (Nat.zero_le _) rfl fun p hi ih => ?_
      obtain ⟨i, z⟩ := p
      have hi : i ≤ l.length := hi
      (repeat first|refine A.s rfl ?_|refine A.r rfl rfl ?_|refine A.w rfl rfl ?_|refine A.p rfl ?_|refine A.b rfl fun bx=>?_|refine A.t rfl fun bl=>?_)
      refine A.cond rfl (fun hc => ?_) (fun hc => ?_)
      · simp at hc
        refine Exists.elim (at_exN (l := l) (i := i) (by omega)) fun x hx => ?_
        have hxm : x ∈ l := List.mem_of_getElem? hx
        have ihx := ih0 x hxm
        have hfa := toKl_at hx
        rw [encX_eq x, encK_eq (toK x)] at ihx
        (repeat first|refine A.s rfl ?_|refine A.r rfl rfl ?_|refine A.w rfl rfl ?_|refine A.p rfl ?_|refine A.b rfl fun bx=>?_|refine A.t rfl fun bl=>?_)
        refine A.x rfl (by show (0 : Int) ≤ (i : Nat); omega) (encXl_at hx) (encX_eq x) rfl ?_
        (repeat first|refine A.s rfl ?_|refine A.r rfl rfl ?_|refine A.w rfl rfl ?_|refine A.p rfl ?_|refine A.b rfl fun bx=>?_|refine A.t rfl fun bl=>?_)
        refine A.c rfl ihx .refl ?_
        (repeat first|refine A.s rfl ?_|refine A.r rfl rfl ?_|refine A.w rfl rfl ?_|refine A.p rfl ?_|refine A.b rfl fun bx=>?_|refine A.t rfl fun bl=>?_)
        refine A.entsEq (Λ' := [.box _ _, .box _ _, .tail ty37.size z, .box _ _, .box _ _, .box _ _]) rfl ?_
        refine A.append rfl rfl rfl rfl rfl rfl rfl rfl rfl rfl rfl rfl rfl rfl (by show ((encKl (toKl (l.take i))).length + 1) * 6 ≤ _; rw [toKl_len, List.length_take]; omega) fun z' => ?_
        refine A.valE 52 rfl (x' := .sl 6 (encKl (toKl (l.take (i + 1)))) (some z')) (by rw [hfa, encK_eq (toK x)]; rfl) ?_
        (repeat first|refine A.s rfl ?_|refine A.r rfl rfl ?_|refine A.w rfl rfl ?_|refine A.p rfl ?_|refine A.b rfl fun bx=>?_|refine A.t rfl fun bl=>?_|refine A.step rfl ?_|refine A.v rfl rfl ?_)
        refine A.valE 36 rfl (x' := AI ((i + 1 : Nat) : Int)) (inc_eq i (by omega)) ?_
        refine A.less (Λ' := [.tail 6 z', .box _ (growK (kindK 6) o t (encKl (toKl (l.take (i + 1)))) z'), .box _ _, .box _ _]) (by repeat (first | exact List.Sublist.refl _ | apply List.Sublist.cons_cons | apply List.Sublist.cons)) ?_
        refine A.sub (by repeat (first | exact trivial | refine ⟨⟨_, rfl, .refl⟩, ?_⟩)) (ih (i + 1, z') (by show i + 1 ≤ _; omega) (by show _ - (i + 1) < _ - i; omega))
      · simp at hc
        have hie : i = l.length := by omega
        subst hie
        (repeat first|refine A.s rfl ?_|refine A.r rfl rfl ?_|refine A.w rfl rfl ?_|refine A.p rfl ?_|refine A.b rfl fun bx=>?_|refine A.t rfl fun bl=>?_)
        refine A.retN (Λ' := []) rfl rfl (ResA.cell rfl rfl rfl (ResA.tmp rfl ResA.nil)) (List.nil_sublist _) ⟨?_, rfl⟩
        rw [List.take_length, toK, if_neg (by omega), encK]
        (repeat (first | exact Sb.refl | exact SbL.refl | refine SbL.cons ?_ ?_ | exact Sb.nil | exact Sb.own1 | refine Sb.own ?_ | refine Sb.ag ?_ | refine Sb.tp ?_))
    · refine Pure.of (S := tt) (fn := Try.f7) (n := 56) tt_ok Try.func7 rfl rfl rfl rfl fun w0 h0 F hgs => ?_
      (repeat first|refine A.s rfl ?_|refine A.r rfl rfl ?_|refine A.w rfl rfl ?_|refine A.p rfl ?_|refine A.b rfl fun bx=>?_|refine A.t rfl fun bl=>?_|refine A.step rfl ?_|refine A.v rfl rfl ?_)
      refine A.boxAs (x' := growK (kindK 7) o t (encKl (toKl (l.take 0))) (.slice none 0 0)) (.refl _) (fun h => Rp_ag_imp (RpC_imp (fun _ r => r) (RpC_imp (fun _ r => r) (RpC_imp (fun _ r => r) (RpC_imp (fun _ r => r) (RpC_imp (fun _ r => r) (RpC_imp (fun y r => by rw [List.take_zero, toKl, encKl]; exact nil_own 6 r) (fun _ r => r)))))))) ?_
      refine A.fullTail 6 0 none (fun _ => rfl) (fun x hx => by cases hx) ?_
      refine A.valE 35 rfl (x' := AI (l.length : Nat)) (ai_eq (by rw [encXl_len])) ?_
      refine A.keep [1, 2, 4, 34, 35, 36] rfl ?_
      refine A.loopP (ι := Nat × Value) (fun p => (⟨[(1, .v (.pointer (some ⟨_, 0, none⟩))), (2, .v (.pointer (some ⟨_, 0, none⟩))), (4, .v (.pointer (some ⟨_, 0, none⟩))), (34, .sl 6 (encXl l) none), (35, AI (l.length : Nat)), (36, AI (p.1 : Nat))], []⟩, [.tail 6 p.2, .box _ (growK (kindK 7) o t (encKl (toKl (l.take p.1))) p.2), .box _ (.ag [AU8 0, AU8 0, AU8 0, AI32 0, AI 0, .v (.slice none 0 0)]), .box _ (.ag [AU8 7, AU8 o, AU8 t, AI32 n, AS w, .sl 6 (encXl l) none])]))
        (fun p => p.1 ≤ l.length) (fun p => l.length - p.1) (0, .slice none 0 0) (Nat.zero_le _) rfl fun p hi ih => ?_
      obtain ⟨i, z⟩ := p
      have hi : i ≤ l.length := hi
      (repeat first|refine A.s rfl ?_|refine A.r rfl rfl ?_|refine A.w rfl rfl ?_|refine A.p rfl ?_|refine A.b rfl fun bx=>?_|refine A.t rfl fun bl=>?_)
      refine A.cond rfl (fun hc => ?_) (fun hc => ?_)
      · simp at hc
        refine Exists.elim (at_exN (l := l) (i := i) (by omega)) fun x hx => ?_
        have hxm : x ∈ l := List.mem_of_getElem? hx
        have ihx := ih0 x hxm
        have hfa := toKl_at hx
        rw [encX_eq x, encK_eq (toK x)] at ihx
        (repeat first|refine A.s rfl ?_|refine A.r rfl rfl ?_|refine A.w rfl rfl ?_|refine A.p rfl ?_|refine A.b rfl fun bx=>?_|refine A.t rfl fun bl=>?_)
        refine A.x rfl (by show (0 : Int) ≤ (i : Nat); omega) (encXl_at hx) (encX_eq x) rfl ?_
        (repeat first|refine A.s rfl ?_|refine A.r rfl rfl ?_|refine A.w rfl rfl ?_|refine A.p rfl ?_|refine A.b rfl fun bx=>?_|refine A.t rfl fun bl=>?_)
        refine A.c rfl ihx .refl ?_
        (repeat first|refine A.s rfl ?_|refine A.r rfl rfl ?_|refine A.w rfl rfl ?_|refine A.p rfl ?_|refine A.b rfl fun bx=>?_|refine A.t rfl fun bl=>?_)
        refine A.entsEq (Λ' := [.box _ _, .box _ _, .tail ty37.size z, .box _ _, .box _ _, .box _ _]) rfl ?_
        refine A.append rfl rfl rfl rfl rfl rfl rfl rfl rfl rfl rfl rfl rfl rfl (by show ((encKl (toKl (l.take i))).length + 1) * 6 ≤ _; rw [toKl_len, List.length_take]; omega) fun z' => ?_
        refine A.valE 52 rfl (x' := .sl 6 (encKl (toKl (l.take (i + 1)))) (some z')) (by rw [hfa, encK_eq (toK x)]; rfl) ?_
        (repeat first|refine A.s rfl ?_|refine A.r rfl rfl ?_|refine A.w rfl rfl ?_|refine A.p rfl ?_|refine A.b rfl fun bx=>?_|refine A.t rfl fun bl=>?_|refine A.step rfl ?_|refine A.v rfl rfl ?_)
        refine A.valE 36 rfl (x' := AI ((i + 1 : Nat) : Int)) (inc_eq i (by omega)) ?_
        refine A.less (Λ' := [.tail 6 z', .box _ (growK (kindK 7) o t (encKl (toKl (l.take (i + 1)))) z'), .box _ _, .box _ _]) (by repeat (first | exact List.Sublist.refl _ | apply List.Sublist.cons_cons | apply List.Sublist.cons)) ?_
        refine A.sub (by repeat (first | exact trivial | refine ⟨⟨_, rfl, .refl⟩, ?_⟩)) (ih (i + 1, z') (by show i + 1 ≤ _; omega) (by show _ - (i + 1) < _ - i; omega))
      · simp at hc
        have hie : i = l.length := by omega
        subst hie
        (repeat first|refine A.s rfl ?_|refine A.r rfl rfl ?_|refine A.w rfl rfl ?_|refine A.p rfl ?_|refine A.b rfl fun bx=>?_|refine A.t rfl fun bl=>?_)
        refine A.retN (Λ' := []) rfl rfl (ResA.cell rfl rfl rfl (ResA.tmp rfl ResA.nil)) (List.nil_sublist _) ⟨?_, rfl⟩
        rw [List.take_length, toK, if_neg (by omega), encK]
        (repeat (first | exact Sb.refl | exact SbL.refl | refine SbL.cons ?_ ?_ | exact Sb.nil | exact Sb.own1 | refine Sb.own ?_ | refine Sb.ag ?_ | refine Sb.tp ?_))
    · refine Pure.of (S := tt) (fn := Try.f7) (n := 56) tt_ok Try.func7 rfl rfl rfl rfl fun w0 h0 F hgs => ?_
      (repeat first|refine A.s rfl ?_|refine A.r rfl rfl ?_|refine A.w rfl rfl ?_|refine A.p rfl ?_|refine A.b rfl fun bx=>?_|refine A.t rfl fun bl=>?_|refine A.step rfl ?_|refine A.v rfl rfl ?_)
      refine A.boxAs (x' := growK (kindK 8) o t (encKl (toKl (l.take 0))) (.slice none 0 0)) (.refl _) (fun h => Rp_ag_imp (RpC_imp (fun _ r => r) (RpC_imp (fun _ r => r) (RpC_imp (fun _ r => r) (RpC_imp (fun _ r => r) (RpC_imp (fun _ r => r) (RpC_imp (fun y r => by rw [List.take_zero, toKl, encKl]; exact nil_own 6 r) (fun _ r => r)))))))) ?_
      refine A.fullTail 6 0 none (fun _ => rfl) (fun x hx => by cases hx) ?_
      refine A.valE 35 rfl (x' := AI (l.length : Nat)) (ai_eq (by rw [encXl_len])) ?_
      refine A.keep [1, 2, 4, 34, 35, 36] rfl ?_
      refine A.loopP (ι := Nat × Value) (fun p => (⟨[(1, .v (.pointer (some ⟨_, 0, none⟩))), (2, .v (.pointer (some ⟨_, 0, none⟩))), (4, .v (.pointer (some ⟨_, 0, none⟩))), (34, .sl 6 (encXl l) none), (35, AI (l.length : Nat)), (36, AI (p.1 : Nat))], []⟩, [.tail 6 p.2, .box _ (growK (kindK 8) o t (encKl (toKl (l.take p.1))) p.2), .box _ (.ag [AU8 0, AU8 0, AU8 0, AI32 0, AI 0, .v (.slice none 0 0)]), .box _ (.ag [AU8 8, AU8 o, AU8 t, AI32 n, AS w, .sl 6 (encXl l) none])]))
        (fun p => p.1 ≤ l.length) (fun p => l.length - p.1) (0, .slice none 0 0) (Nat.zero_le _) rfl fun p hi ih => ?_
      obtain ⟨i, z⟩ := p
      have hi : i ≤ l.length := hi
      (repeat first|refine A.s rfl ?_|refine A.r rfl rfl ?_|refine A.w rfl rfl ?_|refine A.p rfl ?_|refine A.b rfl fun bx=>?_|refine A.t rfl fun bl=>?_)
      refine A.cond rfl (fun hc => ?_) (fun hc => ?_)
      · simp at hc
        refine Exists.elim (at_exN (l := l) (i := i) (by omega)) fun x hx => ?_
        have hxm : x ∈ l := List.mem_of_getElem? hx
        have ihx := ih0 x hxm
        have hfa := toKl_at hx
        rw [encX_eq x, encK_eq (toK x)] at ihx
        (repeat first|refine A.s rfl ?_|refine A.r rfl rfl ?_|refine A.w rfl rfl ?_|refine A.p rfl ?_|refine A.b rfl fun bx=>?_|refine A.t rfl fun bl=>?_)
        refine A.x rfl (by show (0 : Int) ≤ (i : Nat); omega) (encXl_at hx) (encX_eq x) rfl ?_
        (repeat first|refine A.s rfl ?_|refine A.r rfl rfl ?_|refine A.w rfl rfl ?_|refine A.p rfl ?_|refine A.b rfl fun bx=>?_|refine A.t rfl fun bl=>?_)
        refine A.c rfl ihx .refl ?_
        (repeat first|refine A.s rfl ?_|refine A.r rfl rfl ?_|refine A.w rfl rfl ?_|refine A.p rfl ?_|refine A.b rfl fun bx=>?_|refine A.t rfl fun bl=>?_)
        refine A.entsEq (Λ' := [.box _ _, .box _ _, .tail ty37.size z, .box _ _, .box _ _, .box _ _]) rfl ?_
        refine A.append rfl rfl rfl rfl rfl rfl rfl rfl rfl rfl rfl rfl rfl rfl (by show ((encKl (toKl (l.take i))).length + 1) * 6 ≤ _; rw [toKl_len, List.length_take]; omega) fun z' => ?_
        refine A.valE 52 rfl (x' := .sl 6 (encKl (toKl (l.take (i + 1)))) (some z')) (by rw [hfa, encK_eq (toK x)]; rfl) ?_
        (repeat first|refine A.s rfl ?_|refine A.r rfl rfl ?_|refine A.w rfl rfl ?_|refine A.p rfl ?_|refine A.b rfl fun bx=>?_|refine A.t rfl fun bl=>?_|refine A.step rfl ?_|refine A.v rfl rfl ?_)
        refine A.valE 36 rfl (x' := AI ((i + 1 : Nat) : Int)) (inc_eq i (by omega)) ?_
        refine A.less (Λ' := [.tail 6 z', .box _ (growK (kindK 8) o t (encKl (toKl (l.take (i + 1)))) z'), .box _ _, .box _ _]) (by repeat (first | exact List.Sublist.refl _ | apply List.Sublist.cons_cons | apply List.Sublist.cons)) ?_
        refine A.sub (by repeat (first | exact trivial | refine ⟨⟨_, rfl, .refl⟩, ?_⟩)) (ih (i + 1, z') (by show i + 1 ≤ _; omega) (by show _ - (i + 1) < _ - i; omega))
      · simp at hc
        have hie : i = l.length := by omega
        subst hie
        (repeat first|refine A.s rfl ?_|refine A.r rfl rfl ?_|refine A.w rfl rfl ?_|refine A.p rfl ?_|refine A.b rfl fun bx=>?_|refine A.t rfl fun bl=>?_)
        refine A.retN (Λ' := []) rfl rfl (ResA.cell rfl rfl rfl (ResA.tmp rfl ResA.nil)) (List.nil_sublist _) ⟨?_, rfl⟩
        rw [List.take_length, toK, if_neg (by omega), encK]
        (repeat (first | exact Sb.refl | exact SbL.refl | refine SbL.cons ?_ ?_ | exact Sb.nil | exact Sb.own1 | refine Sb.own ?_ | refine Sb.ag ?_ | refine Sb.tp ?_))
/-! ### the law -/
theorem folds_law (m : Int) (s : List (List Int)) (hs : wfS s) (hb : short s) (e : XE) (hw : wfX e) : Pure Try.prog (gsM m) 3 [rowsA s, encX e] (AB true) := by
  have aw := awake_p.any (gs := gsM m)
  have hgr := (great_p s hb).any (gs := gsM m)
  have hcn := const_p m [] ⟨by simp, by simp, by simp, by simp⟩ e hw
  cases hg : greatB s with
  | true =>
    rw [hg] at hgr
    rw [encX_eq] at hcn ⊢
    refine Pure.of (S := tt) (fn := Try.f3) (n := 35) tt_ok Try.func3 rfl rfl rfl rfl fun w0 h0 F hgs => ?_
    (repeat first|refine A.s rfl ?_|refine A.r rfl rfl ?_|refine A.w rfl rfl ?_|refine A.p rfl ?_|refine A.b rfl fun bx=>?_|refine A.t rfl fun bl=>?_|refine A.step rfl ?_|refine A.v rfl rfl ?_)
    refine A.c rfl hgr .refl ?_
    (repeat first|refine A.s rfl ?_|refine A.r rfl rfl ?_|refine A.w rfl rfl ?_|refine A.p rfl ?_|refine A.b rfl fun bx=>?_|refine A.t rfl fun bl=>?_|refine A.step rfl ?_|refine A.v rfl rfl ?_)
    refine A.c rfl aw .refl ?_
    (repeat first|refine A.s rfl ?_|refine A.r rfl rfl ?_|refine A.w rfl rfl ?_|refine A.p rfl ?_|refine A.b rfl fun bx=>?_|refine A.t rfl fun bl=>?_|refine A.step rfl ?_|refine A.v rfl rfl ?_); refine A.ret1 (Λ' := []) rfl rfl rfl (List.nil_sublist _) ⟨?_, rfl⟩; exact .refl
  | false =>
  rw [hg] at hgr
  by_cases hv : validX e ∧ (valE [] e).2 = true
  case neg =>
    have hc2 : (constE [] e).2 ≠ 0 := by
      unfold constE
      by_cases h1 : validX e
      · rw [if_pos h1, if_neg (fun h => hv ⟨h1, h⟩)]; decide
      · rw [if_neg h1]; decide
    rw [encX_eq] at hcn ⊢
    refine Pure.of (S := tt) (fn := Try.f3) (n := 35) tt_ok Try.func3 rfl rfl rfl rfl fun w0 h0 F hgs => ?_
    (repeat first|refine A.s rfl ?_|refine A.r rfl rfl ?_|refine A.w rfl rfl ?_|refine A.p rfl ?_|refine A.b rfl fun bx=>?_|refine A.t rfl fun bl=>?_|refine A.step rfl ?_|refine A.v rfl rfl ?_)
    refine A.c rfl hgr .refl ?_
    (repeat first|refine A.s rfl ?_|refine A.r rfl rfl ?_|refine A.w rfl rfl ?_|refine A.p rfl ?_|refine A.b rfl fun bx=>?_|refine A.t rfl fun bl=>?_|refine A.step rfl ?_|refine A.v rfl rfl ?_)
    refine A.c rfl hcn (.cons .refl (.cons .nil .refl)) ?_
    (repeat first|refine A.s rfl ?_|refine A.r rfl rfl ?_|refine A.w rfl rfl ?_|refine A.p rfl ?_|refine A.b rfl fun bx=>?_|refine A.t rfl fun bl=>?_)
    refine A.gT rfl (by simp [hc2]) ?_
    (repeat first|refine A.s rfl ?_|refine A.r rfl rfl ?_|refine A.w rfl rfl ?_|refine A.p rfl ?_|refine A.b rfl fun bx=>?_|refine A.t rfl fun bl=>?_|refine A.step rfl ?_|refine A.v rfl rfl ?_)
    refine A.c rfl aw .refl ?_
    (repeat first|refine A.s rfl ?_|refine A.r rfl rfl ?_|refine A.w rfl rfl ?_|refine A.p rfl ?_|refine A.b rfl fun bx=>?_|refine A.t rfl fun bl=>?_|refine A.step rfl ?_|refine A.v rfl rfl ?_); refine A.ret1 (Λ' := []) rfl rfl rfl (List.nil_sublist _) ⟨?_, rfl⟩; exact .refl
  obtain ⟨hv1, hv2⟩ := hv
  have hc : constE [] e = ((valE [] e).1, 0) := by rw [constE, if_pos hv1, if_pos hv2]
  rw [hc] at hcn
  have hve : valE [] e = valX [] [] e := rfl
  obtain ⟨hp, hm⟩ := val_plain s (szX e) e (Nat.le_refl _) hv1.1 (by rw [← hve]; exact hv2)
  have hpl := (plain_p17 (szX e) e (Nat.le_refl _) hw hv1.1 hp).any (gs := gsM m)
  obtain ⟨t1, t2, t3⟩ := toK_fine (szX e) e (Nat.le_refl _) hv1.1 hp
  have his := (is_p s hs (toK e) (toK_wf (szX e) e (Nat.le_refl _) hw hv1.1 hp) (valE [] e).1).any (gs := gsM m)
  have hyes : decide (valueM s (toK e) = some (valE [] e).1) = true := by
    rw [decide_eq_true_iff, valueM, if_pos ⟨t1, by rw [t2]; exact hv1.2.1, by rw [t3]; exact hv1.2.2⟩, hve]
    exact hm
  rw [hyes] at his
  rw [encK_eq (toK e)] at hpl his
  rw [encX_eq] at hcn hpl ⊢
  refine Pure.of (S := tt) (fn := Try.f3) (n := 35) tt_ok Try.func3 rfl rfl rfl rfl fun w0 h0 F hgs => ?_
  (repeat first|refine A.s rfl ?_|refine A.r rfl rfl ?_|refine A.w rfl rfl ?_|refine A.p rfl ?_|refine A.b rfl fun bx=>?_|refine A.t rfl fun bl=>?_|refine A.step rfl ?_|refine A.v rfl rfl ?_)
  refine A.c rfl hgr .refl ?_
  (repeat first|refine A.s rfl ?_|refine A.r rfl rfl ?_|refine A.w rfl rfl ?_|refine A.p rfl ?_|refine A.b rfl fun bx=>?_|refine A.t rfl fun bl=>?_|refine A.step rfl ?_|refine A.v rfl rfl ?_)
  refine A.c rfl hcn (.cons .refl (.cons .nil .refl)) ?_
  (repeat first|refine A.s rfl ?_|refine A.r rfl rfl ?_|refine A.w rfl rfl ?_|refine A.p rfl ?_|refine A.b rfl fun bx=>?_|refine A.t rfl fun bl=>?_|refine A.step rfl ?_|refine A.v rfl rfl ?_)
  refine A.c rfl hpl .refl ?_
  (repeat first|refine A.s rfl ?_|refine A.r rfl rfl ?_|refine A.w rfl rfl ?_|refine A.p rfl ?_|refine A.b rfl fun bx=>?_|refine A.t rfl fun bl=>?_|refine A.step rfl ?_|refine A.v rfl rfl ?_)
  refine A.c rfl his .refl ?_
  (repeat first|refine A.s rfl ?_|refine A.r rfl rfl ?_|refine A.w rfl rfl ?_|refine A.p rfl ?_|refine A.b rfl fun bx=>?_|refine A.t rfl fun bl=>?_|refine A.step rfl ?_|refine A.v rfl rfl ?_)
  refine A.c rfl aw .refl ?_
  (repeat first|refine A.s rfl ?_|refine A.r rfl rfl ?_|refine A.w rfl rfl ?_|refine A.p rfl ?_|refine A.b rfl fun bx=>?_|refine A.t rfl fun bl=>?_|refine A.step rfl ?_|refine A.v rfl rfl ?_); refine A.ret1 (Λ' := []) rfl rfl rfl (List.nil_sublist _) ⟨?_, rfl⟩; exact .refl
end Go.Proofs.Ytbdjbmbghfbenaa
