/-
  Layer 14 by the document: names, values of expressions.
-/
import Derived.Test.YtlnbmocgnkjlfaaGreatQ14h
import Derived.Test.YtlnbmocgnkjlfaaGreatQ14n
import Derived.Test.YtlnbmocgnkjlfaaGreatQ10r
import Derived.Test.YtlnbmocgnkjlfaaGreatLd

namespace Go.Proofs.YtlnbmocgnkjlfaaGreat
open Go Go.Tp
set_option linter.unusedVariables false
set_option linter.unusedSimpArgs false
set_option maxRecDepth 100000
set_option maxHeartbeats 4000000

theorem any_comm (l : List (List UInt8)) (s : List UInt8) : l.any (fun y => s == y) = l.any (fun y => y == s) := by
  congr 1; funext y; exact BEq.comm
theorem find14_p (env : List SP) (s : List UInt8) (n : Nat) (hn : n ≤ env.length) (hb : env.length ≤ 281474976710656) (hm : ∀ x, x ∈ env → x.names.length ≤ 281474976710656) :
    Pure Tryz.prog gs0 37 [AS s, specsA env, AI (n : Nat)] (AI (findB env s n)) := by
  refine Pure.of (S := tt) (fn := Tryz.f37) (n := 37) tt_ok Tryz.func37 rfl rfl rfl rfl fun w0 h0 F hgs => ?_
  (repeat first|refine A.s rfl ?_|refine A.r rfl rfl ?_|refine A.w rfl rfl ?_|refine A.p rfl ?_|refine A.b rfl fun bx=>?_|refine A.t rfl fun bl=>?_)
  refine A.keep [0, 1, 2, 6, 7, 8] rfl ?_
  refine A.loopP (ι := Nat) (fun i => (⟨[(0, AS s), (1, specsA env), (2, AI (n : Nat)), (6, AI 0), (7, AI (findB env s i)), (8, AI (i : Int))], []⟩, [])) (fun i => i ≤ n) (fun i => n - i) 0 (Nat.zero_le _) rfl fun i hi ih => ?_
  (repeat first|refine A.s rfl ?_|refine A.r rfl rfl ?_|refine A.w rfl rfl ?_|refine A.p rfl ?_|refine A.b rfl fun bx=>?_|refine A.t rfl fun bl=>?_)
  refine A.cond rfl (fun hc => ?_) (fun hc => ?_)
  · simp at hc
    refine Exists.elim (at_exN (l := env) (i := i) (by omega)) fun x hx => ?_
    have hxn := hm x (List.mem_of_getElem? hx)
    have hlx : ((x.names.map AS).length : Int) = x.names.length := by rw [List.length_map]
    have hfi := findB_at (s := s) hx
    rw [any_comm] at hfi
    (repeat first|refine A.s rfl ?_|refine A.r rfl rfl ?_|refine A.w rfl rfl ?_|refine A.p rfl ?_|refine A.b rfl fun bx=>?_|refine A.t rfl fun bl=>?_)
    refine A.keep [0, 1, 2, 6, 7, 8, 9] rfl ?_
    refine A.loopP (ι := Nat) (fun j => (⟨[(0, AS s), (1, specsA env), (2, AI (n : Nat)), (6, AI 0), (7, AI (if (x.names.take j).any (fun y => y == s) = true then (i : Int) else findB env s i)), (8, AI (i : Int)), (9, AI (j : Int))], []⟩, [])) (fun j => j ≤ x.names.length) (fun j => x.names.length - j) 0 (Nat.zero_le _) rfl fun j hj jh => ?_
    (repeat first|refine A.s rfl ?_|refine A.r rfl rfl ?_|refine A.w rfl rfl ?_|refine A.p rfl ?_|refine A.b rfl fun bx=>?_|refine A.t rfl fun bl=>?_)
    refine A.x rfl (by omega) (map_at hx) rfl rfl ?_
    (repeat first|refine A.s rfl ?_|refine A.r rfl rfl ?_|refine A.w rfl rfl ?_|refine A.p rfl ?_|refine A.b rfl fun bx=>?_|refine A.t rfl fun bl=>?_)
    refine A.valE 21 rfl (x' := AI (x.names.length : Nat)) (ai_eq hlx) ?_
    (repeat first|refine A.s rfl ?_|refine A.r rfl rfl ?_|refine A.w rfl rfl ?_|refine A.p rfl ?_|refine A.b rfl fun bx=>?_|refine A.t rfl fun bl=>?_)
    refine A.cond rfl (fun hc => ?_) (fun hc => ?_)
    · simp at hc
      refine Exists.elim (at_exN (l := x.names) (i := j) hc) fun y hy => ?_
      have htk : x.names.take (j + 1) = x.names.take j ++ [y] := by rw [List.take_add_one, hy]; rfl
      have hevT : (y == s) = true → (if (x.names.take (j + 1)).any (fun y => y == s) = true then (i : Int) else findB env s i) = (i : Int) := fun h => by
        rw [htk, List.any_append, List.any_cons, h]; simp
      have hevF : (y == s) = false → (if (x.names.take (j + 1)).any (fun y => y == s) = true then (i : Int) else findB env s i) = if (x.names.take j).any (fun y => y == s) = true then (i : Int) else findB env s i := fun h => by
        rw [htk, List.any_append, List.any_cons, h, List.any_nil, Bool.or_false, Bool.or_false]
      (repeat first|refine A.s rfl ?_|refine A.r rfl rfl ?_|refine A.w rfl rfl ?_|refine A.p rfl ?_|refine A.b rfl fun bx=>?_|refine A.t rfl fun bl=>?_)
      refine A.x rfl (by omega) (map_at hx) rfl rfl ?_
      (repeat first|refine A.s rfl ?_|refine A.r rfl rfl ?_|refine A.w rfl rfl ?_|refine A.p rfl ?_|refine A.b rfl fun bx=>?_|refine A.t rfl fun bl=>?_)
      refine A.x rfl (by omega) (map_at hy) rfl rfl ?_
      (repeat first|refine A.s rfl ?_|refine A.r rfl rfl ?_|refine A.w rfl rfl ?_|refine A.p rfl ?_|refine A.b rfl fun bx=>?_|refine A.t rfl fun bl=>?_)
      ((fail_if_success (refine A.lit? rfl ?_)); refine A.gS rfl (fun hc => ?_) (fun hc => ?_))
      · have hc : (y == s) = true := by rw [bs_eq] at hc; exact hc
        have hev := hevT hc
        (repeat first|refine A.s rfl ?_|refine A.r rfl rfl ?_|refine A.w rfl rfl ?_|refine A.p rfl ?_|refine A.b rfl fun bx=>?_|refine A.t rfl fun bl=>?_)
        refine A.valE 7 rfl (x' := AI (if (x.names.take (j + 1)).any (fun y => y == s) = true then (i : Int) else findB env s i)) (ai_eq hev.symm) ?_
        refine A.valE 9 rfl (x' := AI ((j + 1 : Nat) : Int)) (inc_eq j (by omega)) ?_
        refine A.sub (by repeat (first | exact trivial | refine ⟨⟨_, rfl, .refl⟩, ?_⟩)) (jh (j + 1) (by omega) (by omega))
      · have hc : (y == s) = false := by rw [bs_eq] at hc; exact hc
        have hev := hevF hc
        (repeat first|refine A.s rfl ?_|refine A.r rfl rfl ?_|refine A.w rfl rfl ?_|refine A.p rfl ?_|refine A.b rfl fun bx=>?_|refine A.t rfl fun bl=>?_)
        refine A.valE 7 rfl (x' := AI (if (x.names.take (j + 1)).any (fun y => y == s) = true then (i : Int) else findB env s i)) (ai_eq hev.symm) ?_
        refine A.valE 9 rfl (x' := AI ((j + 1 : Nat) : Int)) (inc_eq j (by omega)) ?_
        refine A.sub (by repeat (first | exact trivial | refine ⟨⟨_, rfl, .refl⟩, ?_⟩)) (jh (j + 1) (by omega) (by omega))
    · simp at hc
      (repeat first|refine A.s rfl ?_|refine A.r rfl rfl ?_|refine A.w rfl rfl ?_|refine A.p rfl ?_|refine A.b rfl fun bx=>?_|refine A.t rfl fun bl=>?_)
      refine A.valE 7 rfl (x' := AI (findB env s (i + 1))) (ai_eq (by rw [List.take_of_length_le (by omega), hfi])) ?_
      refine A.valE 8 rfl (x' := AI ((i + 1 : Nat) : Int)) (inc_eq i (by omega)) ?_
      refine A.sub (by repeat (first | exact trivial | refine ⟨⟨_, rfl, .refl⟩, ?_⟩)) (ih (i + 1) (by omega) (by omega))
  · simp at hc
    have : i = n := by omega
    subst this
    (repeat first|refine A.s rfl ?_|refine A.r rfl rfl ?_|refine A.w rfl rfl ?_|refine A.p rfl ?_|refine A.b rfl fun bx=>?_|refine A.t rfl fun bl=>?_); refine A.ret1 (Λ' := []) rfl rfl rfl (List.nil_sublist _) ⟨?_, rfl⟩; exact .refl

/-! ### what has no value stands at 0 -/
def zeroV (vals : List (Int × Bool)) : Prop := ∀ x, x ∈ vals → x.2 = false → x.1 = 0
theorem pairV_zero {r : Option Int} (h : (pairV r).2 = false) : (pairV r).1 = 0 := by
  cases r with
  | none => rfl
  | some x => cases h
theorem opV_zero {o : Int} : ∀ {l : List (Int × Bool)}, (opV o l).2 = false → (opV o l).1 = 0
  | [], h => pairV_zero h
  | [a], h => by
    have e : opV o [a] = if a.2 then pairV (applyC o a.1 0) else (0, false) := rfl
    rw [e] at h ⊢
    split at h
    · rename_i ha; rw [if_pos ha]; exact pairV_zero h
    · rename_i ha; rw [if_neg ha]
  | a :: b :: r, h => by
    have e : opV o (a :: b :: r) = if a.2 then (if b.2 then pairV (applyC o a.1 b.1) else (0, false)) else (0, false) := rfl
    rw [e] at h ⊢
    split at h
    · rename_i ha
      rw [if_pos ha]
      split at h
      · rename_i hb; rw [if_pos hb]; exact pairV_zero h
      · rename_i hb; rw [if_neg hb]
    · rename_i ha; rw [if_neg ha]
theorem known_zero {x : Int × Bool} (h : (knownM x).2 = false) : (knownM x).1 = 0 := by
  unfold knownM at h ⊢
  split at h
  · rename_i hx; rw [hx] at h; cases h
  · rename_i hx; rw [if_neg hx]
theorem dim_zero {x : SP} (h : (dimV x).2 = false) : (dimV x).1 = 0 := by
  unfold dimV at h ⊢
  split at h
  · rename_i hx; rw [if_pos hx]; exact known_zero h
  · rename_i hx; rw [if_neg hx]
theorem conv_zero {t : Int} {x : Int × Bool} (hx : x.2 = false → x.1 = 0) (h : (conv14 t x).2 = false) : (conv14 t x).1 = 0 := by
  unfold conv14 at h ⊢
  by_cases h1 : t = 1
  · rw [if_pos h1] at h ⊢; exact hx h
  · rw [if_neg h1] at h ⊢
    by_cases h2 : x.2 = false ∨ x.1 < 0 ∨ x.1 > (if t = 3 then 1 else 255)
    · rw [if_pos h2]
    · rw [if_neg h2] at h
      exact (h2 (.inl h)).elim
mutual
theorem valX_zero (env : List SP) (vals : List (Int × Bool)) (hz : zeroV vals) : ∀ e : XE, (valX env vals e).2 = false → (valX env vals e).1 = 0
  | ⟨k, o, t, n, s, l⟩, h => by
    have ih := valXl_zero env vals hz l
    rw [valX] at h ⊢
    by_cases h1 : k = 1 ∨ k = 2 ∨ k = 3
    · rw [if_pos h1] at h; cases h
    rw [if_neg h1] at h ⊢
    by_cases h4 : k = 4
    · rw [if_pos h4] at h ⊢
      split
      · rename_i hp
        rw [if_pos hp] at h
        cases hv : vals[(findB env s env.length).toNat]? with
        | none => rfl
        | some y =>
          rw [hv] at h
          exact hz y (List.mem_of_getElem? hv) h
      · rfl
    rw [if_neg h4] at h ⊢
    by_cases h9 : k = 9
    · rw [if_pos h9] at h ⊢
      split
      · rename_i x hx
        rw [hx] at h
        simp only at h ⊢
        split
        · rename_i hp; rw [if_pos hp] at h; exact dim_zero h
        · rfl
      · rfl
    rw [if_neg h9] at h ⊢
    by_cases h5 : k = 5
    · rw [if_pos h5]
    rw [if_neg h5] at h ⊢
    by_cases h8 : k = 8
    · rw [if_pos h8] at h ⊢
      refine conv_zero (fun hh => ?_) h
      cases l with
      | nil => rfl
      | cons y r =>
        rw [valXl] at hh ih ⊢
        exact ih _ (List.mem_cons_self ..) hh
    rw [if_neg h8] at h ⊢
    exact opV_zero h
theorem valXl_zero (env : List SP) (vals : List (Int × Bool)) (hz : zeroV vals) : ∀ l : List XE, zeroV (valXl env vals l)
  | [] => fun x hx => by rw [valXl] at hx; cases hx
  | e :: l => fun x hx h => by
    rw [valXl] at hx
    rcases List.mem_cons.1 hx with rfl | hx
    · exact valX_zero env vals hz e h
    · exact valXl_zero env vals hz l x hx h
end
theorem valsP_zero (env : List SP) : ∀ n, zeroV (valsP env n)
  | 0 => fun x hx => by cases hx
  | n + 1 => fun x hx h => by
    have ih := valsP_zero env n
    rw [valsP] at hx
    rcases List.mem_append.1 hx with hx | hx
    · exact ih x hx h
    · rw [List.mem_singleton.1 hx] at h ⊢
      unfold stepV at h ⊢
      split
      · rename_i y hy
        rw [hy] at h
        simp only at h ⊢
        split
        · rename_i hp; rw [if_pos hp] at h; exact valX_zero _ _ ih _ h
        · rfl
      · rfl
end Go.Proofs.YtlnbmocgnkjlfaaGreat
