/-
  Layer 14: the value of an expression.
-/
import Derived.Test.YtbdjbmbghfbenaaQ14f
import Derived.Test.YtbdjbmbghfbenaaQ14i

namespace Go.Proofs.Ytbdjbmbghfbenaa
open Go Go.Tp
set_option linter.unusedVariables false
set_option linter.unusedSimpArgs false
set_option maxRecDepth 100000
set_option maxHeartbeats 4000000

def knownM (x : Int × Bool) : Int × Bool := if x.2 then x else (0, false)
def conv14 (to : Int) (x : Int × Bool) : Int × Bool := if to = 1 then x else if x.2 = false ∨ x.1 < 0 ∨ x.1 > (if to = 3 then 1 else 255) then (0, false) else x
theorem val_eq {a b : Int × Bool} (h : a = b) : valA a = valA b := by rw [h]
theorem known_p (x : Int × Bool) : Pure Try.prog gs0 37 [valA x] (valA (knownM x)) := by
  refine Pure.of (S := tt) (fn := Try.f37) (n := 8) tt_ok Try.func37 rfl rfl rfl rfl fun w0 h0 F hgs => ?_
  (repeat first|refine A.s rfl ?_|refine A.r rfl rfl ?_|refine A.w rfl rfl ?_|refine A.p rfl ?_|refine A.b rfl fun bx=>?_|refine A.t rfl fun bl=>?_|refine A.step rfl ?_|refine A.v rfl rfl ?_)
  refine A.cond rfl (fun hc => ?_) (fun hc => ?_)
  · simp at hc; (repeat first|refine A.s rfl ?_|refine A.r rfl rfl ?_|refine A.w rfl rfl ?_|refine A.p rfl ?_|refine A.b rfl fun bx=>?_|refine A.t rfl fun bl=>?_|refine A.step rfl ?_|refine A.v rfl rfl ?_); refine A.retC (Λ' := []) rfl rfl rfl rfl rfl (List.nil_sublist _) ⟨?_, rfl⟩; refine Sb.eq ?_; simp [knownM, hc]
  · simp at hc; (repeat first|refine A.s rfl ?_|refine A.r rfl rfl ?_|refine A.w rfl rfl ?_|refine A.p rfl ?_|refine A.b rfl fun bx=>?_|refine A.t rfl fun bl=>?_|refine A.step rfl ?_|refine A.v rfl rfl ?_); refine A.retC (Λ' := []) rfl rfl rfl rfl rfl (List.nil_sublist _) ⟨?_, rfl⟩; refine Sb.eq ?_; simp [knownM, hc]
theorem conv14_p (to : Int) (x : Int × Bool) : Pure Try.prog gs0 38 [AU8 to, valA x] (valA (conv14 to x)) := by
  obtain ⟨v, ok⟩ := x
  by_cases h1 : to = 1
  · subst h1; refine Pure.of (S := tt) (fn := Try.f38) (n := 30) tt_ok Try.func38 rfl rfl rfl rfl fun w0 h0 F hgs => ?_
    (repeat first|refine A.s rfl ?_|refine A.r rfl rfl ?_|refine A.w rfl rfl ?_|refine A.p rfl ?_|refine A.b rfl fun bx=>?_|refine A.t rfl fun bl=>?_|refine A.step rfl ?_|refine A.v rfl rfl ?_); refine A.retC (Λ' := []) rfl rfl rfl rfl rfl (List.nil_sublist _) ⟨?_, rfl⟩; refine Sb.eq ?_; simp [conv14]
  by_cases h3 : to = 3
  · subst h3
    cases ok
    · refine Pure.of (S := tt) (fn := Try.f38) (n := 30) tt_ok Try.func38 rfl rfl rfl rfl fun w0 h0 F hgs => ?_
      (repeat first|refine A.s rfl ?_|refine A.r rfl rfl ?_|refine A.w rfl rfl ?_|refine A.p rfl ?_|refine A.b rfl fun bx=>?_|refine A.t rfl fun bl=>?_|refine A.step rfl ?_|refine A.v rfl rfl ?_); refine A.retC (Λ' := []) rfl rfl rfl rfl rfl (List.nil_sublist _) ⟨?_, rfl⟩; refine Sb.eq ?_; simp [conv14]
    · refine Pure.of (S := tt) (fn := Try.f38) (n := 30) tt_ok Try.func38 rfl rfl rfl rfl fun w0 h0 F hgs => ?_
      (repeat first|refine A.s rfl ?_|refine A.r rfl rfl ?_|refine A.w rfl rfl ?_|refine A.p rfl ?_|refine A.b rfl fun bx=>?_|refine A.t rfl fun bl=>?_|refine A.step rfl ?_|refine A.v rfl rfl ?_)
      refine A.cond rfl (fun hc => ?_) (fun hc => ?_)
      · (repeat first|refine A.s rfl ?_|refine A.r rfl rfl ?_|refine A.w rfl rfl ?_|refine A.p rfl ?_|refine A.b rfl fun bx=>?_|refine A.t rfl fun bl=>?_|refine A.step rfl ?_|refine A.v rfl rfl ?_); refine A.retC (Λ' := []) rfl rfl rfl rfl rfl (List.nil_sublist _) ⟨?_, rfl⟩; refine Sb.eq (val_eq (a := (0, false)) ?_); simp at hc; simp only [conv14]; rw [if_neg (by decide), if_pos (by simp; omega)]
      · (repeat first|refine A.s rfl ?_|refine A.r rfl rfl ?_|refine A.w rfl rfl ?_|refine A.p rfl ?_|refine A.b rfl fun bx=>?_|refine A.t rfl fun bl=>?_|refine A.step rfl ?_|refine A.v rfl rfl ?_); refine A.retC (Λ' := []) rfl rfl rfl rfl rfl (List.nil_sublist _) ⟨?_, rfl⟩; refine Sb.eq (val_eq (a := (v, true)) ?_); simp at hc; simp only [conv14]; rw [if_neg (by decide), if_neg (by simp; omega)]
  · cases ok
    · refine Pure.of (S := tt) (fn := Try.f38) (n := 30) tt_ok Try.func38 rfl rfl rfl rfl fun w0 h0 F hgs => ?_
      (repeat first|refine A.s rfl ?_|refine A.r rfl rfl ?_|refine A.w rfl rfl ?_|refine A.p rfl ?_|refine A.b rfl fun bx=>?_|refine A.t rfl fun bl=>?_|refine A.step rfl ?_|refine A.v rfl rfl ?_)
      refine A.valE 8 rfl (x' := AB false) (ab_eq (by simp [h1])) ?_
      (repeat first|refine A.s rfl ?_|refine A.r rfl rfl ?_|refine A.w rfl rfl ?_|refine A.p rfl ?_|refine A.b rfl fun bx=>?_|refine A.t rfl fun bl=>?_|refine A.step rfl ?_|refine A.v rfl rfl ?_)
      refine A.valE 11 rfl (x' := AB false) (ab_eq (by simp [h3])) ?_
      (repeat first|refine A.s rfl ?_|refine A.r rfl rfl ?_|refine A.w rfl rfl ?_|refine A.p rfl ?_|refine A.b rfl fun bx=>?_|refine A.t rfl fun bl=>?_|refine A.step rfl ?_|refine A.v rfl rfl ?_); refine A.retC (Λ' := []) rfl rfl rfl rfl rfl (List.nil_sublist _) ⟨?_, rfl⟩; refine Sb.eq ?_; simp [conv14, h1]
    · refine Pure.of (S := tt) (fn := Try.f38) (n := 30) tt_ok Try.func38 rfl rfl rfl rfl fun w0 h0 F hgs => ?_
      (repeat first|refine A.s rfl ?_|refine A.r rfl rfl ?_|refine A.w rfl rfl ?_|refine A.p rfl ?_|refine A.b rfl fun bx=>?_|refine A.t rfl fun bl=>?_|refine A.step rfl ?_|refine A.v rfl rfl ?_)
      refine A.valE 8 rfl (x' := AB false) (ab_eq (by simp [h1])) ?_
      (repeat first|refine A.s rfl ?_|refine A.r rfl rfl ?_|refine A.w rfl rfl ?_|refine A.p rfl ?_|refine A.b rfl fun bx=>?_|refine A.t rfl fun bl=>?_|refine A.step rfl ?_|refine A.v rfl rfl ?_)
      refine A.valE 11 rfl (x' := AB false) (ab_eq (by simp [h3])) ?_
      (repeat first|refine A.s rfl ?_|refine A.r rfl rfl ?_|refine A.w rfl rfl ?_|refine A.p rfl ?_|refine A.b rfl fun bx=>?_|refine A.t rfl fun bl=>?_|refine A.step rfl ?_|refine A.v rfl rfl ?_)
      refine A.cond rfl (fun hc => ?_) (fun hc => ?_)
      · (repeat first|refine A.s rfl ?_|refine A.r rfl rfl ?_|refine A.w rfl rfl ?_|refine A.p rfl ?_|refine A.b rfl fun bx=>?_|refine A.t rfl fun bl=>?_|refine A.step rfl ?_|refine A.v rfl rfl ?_); refine A.retC (Λ' := []) rfl rfl rfl rfl rfl (List.nil_sublist _) ⟨?_, rfl⟩; refine Sb.eq (val_eq (a := (0, false)) ?_); simp at hc; simp only [conv14]; rw [if_neg h1, if_neg h3, if_pos (by simp; omega)]
      · (repeat first|refine A.s rfl ?_|refine A.r rfl rfl ?_|refine A.w rfl rfl ?_|refine A.p rfl ?_|refine A.b rfl fun bx=>?_|refine A.t rfl fun bl=>?_|refine A.step rfl ?_|refine A.v rfl rfl ?_); refine A.retC (Λ' := []) rfl rfl rfl rfl rfl (List.nil_sublist _) ⟨?_, rfl⟩; refine Sb.eq (val_eq (a := (v, true)) ?_); simp at hc; simp only [conv14]; rw [if_neg h1, if_neg h3, if_neg (by simp; omega)]

theorem findB_lt (env : List SP) (s : List UInt8) : ∀ n, -1 ≤ findB env s n ∧ findB env s n < n
  | 0 => by rw [findB]; omega
  | n + 1 => by
    have ih := findB_lt env s n
    rw [findB]
    split
    · split <;> omega
    · omega
/-- of an array's dimension; of a declaration alone -/
def dimV (x : SP) : Int × Bool := if x.kind = 1 then knownM (w32 x.dim, decide (0 < w32 x.dim) && w32 x.dim == x.dim) else (0, false)
def pairV (r : Option Int) : Int × Bool := (r.getD 0, r.isSome)
def opV (o : Int) : List (Int × Bool) → Int × Bool
  | [] => pairV (applyC o 0 0)
  | [a] => if a.2 then pairV (applyC o a.1 0) else (0, false)
  | a :: b :: _ => if a.2 then (if b.2 then pairV (applyC o a.1 b.1) else (0, false)) else (0, false)
section
variable (env : List SP) (vals : List (Int × Bool))
mutual
/-- the value of an expression -/
def valX : XE → Int × Bool
  | ⟨k, o, t, n, s, l⟩ =>
    if k = 1 ∨ k = 2 ∨ k = 3 then (n, true)
    else if k = 4 then (if 0 ≤ findB env s env.length then vals[(findB env s env.length).toNat]?.getD (0, false) else (0, false))
    else if k = 9 then (match env[(findB env s env.length).toNat]? with
      | some x => if 0 ≤ findB env s env.length then dimV x else (0, false)
      | none => (0, false))
    else if k = 5 then (0, false)
    else if k = 8 then conv14 t ((valXl l).headD (0, false))
    else opV o (valXl l)
def valXl : List XE → List (Int × Bool)
  | [] => []
  | e :: r => valX e :: valXl r
end
end
theorem shape_l (e : XE) (h : shapeX e = true) : (e.l.length : Int) = if e.kind = 5 ∨ e.kind = 6 ∨ e.kind = 8 then 1 else if e.kind = 7 then 2 else 0 := by
  simp only [shapeX, Bool.and_eq_true, decide_eq_true_eq] at h
  obtain ⟨h1, h2⟩ := h
  rw [h2]
  unfold partsM at h1 ⊢
  repeat' split at h1
  all_goals first | (cases h1; done) | skip
  all_goals (first | (simp_all; done) | (simp_all; omega))
theorem valX_eq (env : List SP) (vals : List (Int × Bool)) (e : XE) : valX env vals e =
    (if e.kind = 1 ∨ e.kind = 2 ∨ e.kind = 3 then (e.n, true)
    else if e.kind = 4 then (if 0 ≤ findB env e.s env.length then vals[(findB env e.s env.length).toNat]?.getD (0, false) else (0, false))
    else if e.kind = 9 then (match env[(findB env e.s env.length).toNat]? with
      | some x => if 0 ≤ findB env e.s env.length then dimV x else (0, false)
      | none => (0, false))
    else if e.kind = 5 then (0, false)
    else if e.kind = 8 then conv14 e.to ((valXl env vals e.l).headD (0, false))
    else opV e.oper (valXl env vals e.l)) := by obtain ⟨k, o, t, n, s, l⟩ := e; rw [valX]
theorem valb_eq {n : Int} {a b : Bool} (h : a = b) : AV.ag [AI32 n, AB a] = AV.ag [AI32 n, AB b] := by rw [h]
theorem fineXl_mem : ∀ {l : List XE}, fineXl l = true → ∀ x, x ∈ l → fineX x = true
  | [], _, _, h => by cases h
  | y :: r, hf, x, h => by
    rw [fineXl, Bool.and_eq_true] at hf
    rcases List.mem_cons.1 h with rfl | h
    · exact hf.1
    · exact fineXl_mem hf.2 x h
theorem shape_k (e : XE) (h : shapeX e = true) : 1 ≤ e.kind ∧ e.kind ≤ 9 := by
  simp only [shapeX, Bool.and_eq_true, decide_eq_true_eq] at h
  obtain ⟨h1, h2⟩ := h
  unfold partsM at h1
  repeat' split at h1
  all_goals first | (cases h1; done) | (constructor <;> omega)
structure EnvOk (env : List SP) (vals : List (Int × Bool)) : Prop where
  len : vals.length = env.length
  size : env.length ≤ 281474976710656
  names : ∀ x, x ∈ env → x.names.length ≤ 281474976710656
  vals : ∀ x, x ∈ vals → i32 x.1
  dims : ∀ x, x ∈ env → i64 x.dim
theorem zero_in : i32 (0 : Int) := i32_0
theorem pairV_in {r : Option Int} (h : okI r) : i32 (pairV r).1 := by
  cases r with
  | none => exact zero_in
  | some x => exact h x rfl
theorem conv14_in {t : Int} {x : Int × Bool} (h : i32 x.1) : i32 (conv14 t x).1 := by
  unfold conv14
  split
  · exact h
  · split
    · split
      · exact zero_in
      · exact h
    · split
      · exact zero_in
      · exact h
theorem opV_in (o : Int) : ∀ (l : List (Int × Bool)), (∀ x, x ∈ l → i32 x.1) → i32 (opV o l).1
  | [], _ => pairV_in (applyC_in zero_in zero_in)
  | [a], h => by
    show i32 (if a.2 then pairV (applyC o a.1 0) else (0, false)).1
    split
    · exact pairV_in (applyC_in (h a (List.mem_cons_self ..)) zero_in)
    · exact zero_in
  | a :: b :: r, h => by
    show i32 (if a.2 then (if b.2 then pairV (applyC o a.1 b.1) else (0, false)) else (0, false)).1
    split
    · split
      · exact pairV_in (applyC_in (h a (List.mem_cons_self ..)) (h b (List.mem_cons_of_mem _ (List.mem_cons_self ..))))
      · exact zero_in
    · exact zero_in
mutual
theorem valX_in (env : List SP) (vals : List (Int × Bool)) (ok : EnvOk env vals) : ∀ (e : XE), wfX e → i32 (valX env vals e).1
  | ⟨k, o, t, n, s, l⟩, hw => by
    rw [wfX] at hw
    have hl := valXl_in env vals ok l hw.2
    rw [valX]
    split
    · exact hw.1.2.2.2.1
    split
    · split
      · cases hx : vals[(findB env s env.length).toNat]? with
        | none => exact zero_in
        | some x => exact ok.vals x (List.mem_of_getElem? hx)
      · exact zero_in
    split
    · split
      · split
        · rename_i x hx _
          unfold dimV knownM
          split
          · split
            · exact w32_in _
            · exact zero_in
          · exact zero_in
        · exact zero_in
      · exact zero_in
    split
    · exact zero_in
    split
    · have : i32 ((valXl env vals l).headD (0, false)).1 := by
        cases l with
        | nil => exact zero_in
        | cons x r => exact hl _ (by rw [valXl]; exact List.mem_cons_self ..)
      exact conv14_in this
    · exact opV_in o _ hl
theorem valXl_in (env : List SP) (vals : List (Int × Bool)) (ok : EnvOk env vals) : ∀ (l : List XE), wfXl l → ∀ x, x ∈ valXl env vals l → i32 x.1
  | [], _, _, h => by rw [valXl] at h; cases h
  | e :: r, hw, x, h => by
    rw [wfXl] at hw
    rw [valXl] at h
    rcases List.mem_cons.1 h with rfl | h
    · exact valX_in env vals ok e hw.1
    · exact valXl_in env vals ok r hw.2 x h
end
theorem fvalue_p (env : List SP) (vals : List (Int × Bool)) (ok : EnvOk env vals) : ∀ (N : Nat) (e : XE), htX e ≤ N → wfX e → fineX e = true →
    Pure Try.prog gs0 21 [scopeA env vals, encX e] (valA (valX env vals e))
  | 0, e, h, _, _ => by have := htX_pos e; omega
  | N + 1, e, hN, hw, hf => by
    have hfx := fineX_eq e
    rw [hf] at hfx
    have hsh : shapeX e = true := by cases h : shapeX e <;> simp [h] at hfx <;> rfl
    have hlen := shape_l e hsh
    have hfd := find_p env vals e.s ok.size ok.names
    have hlt := findB_lt env e.s env.length
    have heq := valX_eq env vals e
    rw [encX_eq]
    by_cases h1 : e.kind = 1 ∨ e.kind = 2 ∨ e.kind = 3
    · rw [heq, if_pos h1]
      rcases h1 with h | h | h
      · rw [h]; refine Pure.of (S := tt) (fn := Try.f21) (n := 127) tt_ok Try.func21 rfl rfl rfl rfl fun w0 h0 F hgs => ?_
        (repeat first|refine A.s rfl ?_|refine A.r rfl rfl ?_|refine A.w rfl rfl ?_|refine A.p rfl ?_|refine A.b rfl fun bx=>?_|refine A.t rfl fun bl=>?_|refine A.step rfl ?_|refine A.v rfl rfl ?_); refine A.retC (Λ' := []) rfl rfl rfl rfl rfl (List.nil_sublist _) ⟨?_, rfl⟩; exact .refl
      · rw [h]; refine Pure.of (S := tt) (fn := Try.f21) (n := 127) tt_ok Try.func21 rfl rfl rfl rfl fun w0 h0 F hgs => ?_
        (repeat first|refine A.s rfl ?_|refine A.r rfl rfl ?_|refine A.w rfl rfl ?_|refine A.p rfl ?_|refine A.b rfl fun bx=>?_|refine A.t rfl fun bl=>?_|refine A.step rfl ?_|refine A.v rfl rfl ?_); refine A.retC (Λ' := []) rfl rfl rfl rfl rfl (List.nil_sublist _) ⟨?_, rfl⟩; exact .refl
      · rw [h]; refine Pure.of (S := tt) (fn := Try.f21) (n := 127) tt_ok Try.func21 rfl rfl rfl rfl fun w0 h0 F hgs => ?_
        (repeat first|refine A.s rfl ?_|refine A.r rfl rfl ?_|refine A.w rfl rfl ?_|refine A.p rfl ?_|refine A.b rfl fun bx=>?_|refine A.t rfl fun bl=>?_|refine A.step rfl ?_|refine A.v rfl rfl ?_); refine A.retC (Λ' := []) rfl rfl rfl rfl rfl (List.nil_sublist _) ⟨?_, rfl⟩; exact .refl
    by_cases h4 : e.kind = 4
    · rw [heq, if_neg h1, if_pos h4, h4]
      by_cases hp : 0 ≤ findB env e.s env.length
      · rw [if_pos hp]
        refine Exists.elim (at_ex (l := vals) hp (by rw [ok.len]; exact hlt.2)) fun x hx => ?_
        rw [hx]
        refine Pure.of (S := tt) (fn := Try.f21) (n := 127) tt_ok Try.func21 rfl rfl rfl rfl fun w0 h0 F hgs => ?_
        (repeat first|refine A.s rfl ?_|refine A.r rfl rfl ?_|refine A.w rfl rfl ?_|refine A.p rfl ?_|refine A.b rfl fun bx=>?_|refine A.t rfl fun bl=>?_|refine A.step rfl ?_|refine A.v rfl rfl ?_)
        refine A.c rfl hfd .refl ?_
        (repeat first|refine A.s rfl ?_|refine A.r rfl rfl ?_|refine A.w rfl rfl ?_|refine A.p rfl ?_|refine A.b rfl fun bx=>?_|refine A.t rfl fun bl=>?_|refine A.step rfl ?_|refine A.v rfl rfl ?_)
        refine A.valE 30 rfl (x' := AB true) (ab_eq (by simp [hp])) ?_
        (repeat first|refine A.s rfl ?_|refine A.r rfl rfl ?_|refine A.w rfl rfl ?_|refine A.p rfl ?_|refine A.b rfl fun bx=>?_|refine A.t rfl fun bl=>?_|refine A.step rfl ?_|refine A.v rfl rfl ?_)
        refine A.x rfl hp (map_at hx) rfl rfl ?_
        (repeat first|refine A.s rfl ?_|refine A.r rfl rfl ?_|refine A.w rfl rfl ?_|refine A.p rfl ?_|refine A.b rfl fun bx=>?_|refine A.t rfl fun bl=>?_|refine A.step rfl ?_|refine A.v rfl rfl ?_); refine A.retC (Λ' := []) rfl rfl rfl rfl rfl (List.nil_sublist _) ⟨?_, rfl⟩; exact .refl
      · rw [if_neg hp]
        refine Pure.of (S := tt) (fn := Try.f21) (n := 127) tt_ok Try.func21 rfl rfl rfl rfl fun w0 h0 F hgs => ?_
        (repeat first|refine A.s rfl ?_|refine A.r rfl rfl ?_|refine A.w rfl rfl ?_|refine A.p rfl ?_|refine A.b rfl fun bx=>?_|refine A.t rfl fun bl=>?_|refine A.step rfl ?_|refine A.v rfl rfl ?_)
        refine A.c rfl hfd .refl ?_
        (repeat first|refine A.s rfl ?_|refine A.r rfl rfl ?_|refine A.w rfl rfl ?_|refine A.p rfl ?_|refine A.b rfl fun bx=>?_|refine A.t rfl fun bl=>?_|refine A.step rfl ?_|refine A.v rfl rfl ?_)
        refine A.valE 30 rfl (x' := AB false) (ab_eq (by simp [hp])) ?_
        (repeat first|refine A.s rfl ?_|refine A.r rfl rfl ?_|refine A.w rfl rfl ?_|refine A.p rfl ?_|refine A.b rfl fun bx=>?_|refine A.t rfl fun bl=>?_|refine A.step rfl ?_|refine A.v rfl rfl ?_); refine A.retC (Λ' := []) rfl rfl rfl rfl rfl (List.nil_sublist _) ⟨?_, rfl⟩; exact .refl
    by_cases h9 : e.kind = 9
    · rw [heq, if_neg h1, if_neg h4, if_pos h9, h9]
      by_cases hp : 0 ≤ findB env e.s env.length
      · refine Exists.elim (at_ex (l := env) hp hlt.2) fun x hx => ?_
        rw [hx]
        simp only [if_pos hp]
        have hx64 := ok.dims x (List.mem_of_getElem? hx)
        have hkn := known_p (w32 x.dim, decide (0 < w32 x.dim) && w32 x.dim == x.dim)
        have hw3 : IntKind.i64.wrap (IntKind.i32.wrap x.dim) = IntKind.i32.wrap x.dim := w64_32 (w32_in _)
        by_cases hk1 : x.kind = 1
        · have ed : dimV x = knownM (w32 x.dim, decide (0 < w32 x.dim) && w32 x.dim == x.dim) := if_pos hk1
          rw [ed]
          by_cases hd : 0 < w32 x.dim
          · refine Pure.of (S := tt) (fn := Try.f21) (n := 127) tt_ok Try.func21 rfl rfl rfl rfl fun w0 h0 F hgs => ?_
            (repeat first|refine A.s rfl ?_|refine A.r rfl rfl ?_|refine A.w rfl rfl ?_|refine A.p rfl ?_|refine A.b rfl fun bx=>?_|refine A.t rfl fun bl=>?_|refine A.step rfl ?_|refine A.v rfl rfl ?_)
            refine A.c rfl hfd .refl ?_
            (repeat first|refine A.s rfl ?_|refine A.r rfl rfl ?_|refine A.w rfl rfl ?_|refine A.p rfl ?_|refine A.b rfl fun bx=>?_|refine A.t rfl fun bl=>?_|refine A.step rfl ?_|refine A.v rfl rfl ?_)
            refine A.valE 45 rfl (x' := AB false) (ab_eq (by simp [hp])) ?_
            (repeat first|refine A.s rfl ?_|refine A.r rfl rfl ?_|refine A.w rfl rfl ?_|refine A.p rfl ?_|refine A.b rfl fun bx=>?_|refine A.t rfl fun bl=>?_|refine A.step rfl ?_|refine A.v rfl rfl ?_)
            refine A.x rfl hp (map_at hx) rfl rfl ?_
            (repeat first|refine A.s rfl ?_|refine A.r rfl rfl ?_|refine A.w rfl rfl ?_|refine A.p rfl ?_|refine A.b rfl fun bx=>?_|refine A.t rfl fun bl=>?_|refine A.step rfl ?_|refine A.v rfl rfl ?_)
            refine A.valE 53 rfl (x' := AB false) (ab_eq (by simp [hk1])) ?_
            (repeat first|refine A.s rfl ?_|refine A.r rfl rfl ?_|refine A.w rfl rfl ?_|refine A.p rfl ?_|refine A.b rfl fun bx=>?_|refine A.t rfl fun bl=>?_|refine A.step rfl ?_|refine A.v rfl rfl ?_)
            refine A.x rfl hp (map_at hx) rfl rfl ?_
            (repeat first|refine A.s rfl ?_|refine A.r rfl rfl ?_|refine A.w rfl rfl ?_|refine A.p rfl ?_|refine A.b rfl fun bx=>?_|refine A.t rfl fun bl=>?_)
            refine A.valE 66 rfl (x' := AB true) (ab_eq (decide_eq_true hd)) ?_
            (repeat first|refine A.s rfl ?_|refine A.r rfl rfl ?_|refine A.w rfl rfl ?_|refine A.p rfl ?_|refine A.b rfl fun bx=>?_|refine A.t rfl fun bl=>?_)
            refine A.x rfl hp (map_at hx) rfl rfl ?_
            (repeat first|refine A.s rfl ?_|refine A.r rfl rfl ?_|refine A.w rfl rfl ?_|refine A.p rfl ?_|refine A.b rfl fun bx=>?_|refine A.t rfl fun bl=>?_)
            refine A.valE 78 rfl (x' := valA (w32 x.dim, decide (0 < w32 x.dim) && w32 x.dim == x.dim)) (valb_eq (by show (IntKind.i64.wrap (IntKind.i32.wrap x.dim) == x.dim) = _; rw [hw3, decide_eq_true hd]; rfl)) ?_
            refine A.c rfl hkn .refl ?_
            (repeat first|refine A.s rfl ?_|refine A.r rfl rfl ?_|refine A.w rfl rfl ?_|refine A.p rfl ?_|refine A.b rfl fun bx=>?_|refine A.t rfl fun bl=>?_); refine A.retC (Λ' := []) rfl rfl rfl rfl rfl (List.nil_sublist _) ⟨?_, rfl⟩; exact .refl
          · refine Pure.of (S := tt) (fn := Try.f21) (n := 127) tt_ok Try.func21 rfl rfl rfl rfl fun w0 h0 F hgs => ?_
            (repeat first|refine A.s rfl ?_|refine A.r rfl rfl ?_|refine A.w rfl rfl ?_|refine A.p rfl ?_|refine A.b rfl fun bx=>?_|refine A.t rfl fun bl=>?_|refine A.step rfl ?_|refine A.v rfl rfl ?_)
            refine A.c rfl hfd .refl ?_
            (repeat first|refine A.s rfl ?_|refine A.r rfl rfl ?_|refine A.w rfl rfl ?_|refine A.p rfl ?_|refine A.b rfl fun bx=>?_|refine A.t rfl fun bl=>?_|refine A.step rfl ?_|refine A.v rfl rfl ?_)
            refine A.valE 45 rfl (x' := AB false) (ab_eq (by simp [hp])) ?_
            (repeat first|refine A.s rfl ?_|refine A.r rfl rfl ?_|refine A.w rfl rfl ?_|refine A.p rfl ?_|refine A.b rfl fun bx=>?_|refine A.t rfl fun bl=>?_|refine A.step rfl ?_|refine A.v rfl rfl ?_)
            refine A.x rfl hp (map_at hx) rfl rfl ?_
            (repeat first|refine A.s rfl ?_|refine A.r rfl rfl ?_|refine A.w rfl rfl ?_|refine A.p rfl ?_|refine A.b rfl fun bx=>?_|refine A.t rfl fun bl=>?_|refine A.step rfl ?_|refine A.v rfl rfl ?_)
            refine A.valE 53 rfl (x' := AB false) (ab_eq (by simp [hk1])) ?_
            (repeat first|refine A.s rfl ?_|refine A.r rfl rfl ?_|refine A.w rfl rfl ?_|refine A.p rfl ?_|refine A.b rfl fun bx=>?_|refine A.t rfl fun bl=>?_|refine A.step rfl ?_|refine A.v rfl rfl ?_)
            refine A.x rfl hp (map_at hx) rfl rfl ?_
            (repeat first|refine A.s rfl ?_|refine A.r rfl rfl ?_|refine A.w rfl rfl ?_|refine A.p rfl ?_|refine A.b rfl fun bx=>?_|refine A.t rfl fun bl=>?_)
            refine A.valE 66 rfl (x' := AB false) (ab_eq (decide_eq_false hd)) ?_
            (repeat first|refine A.s rfl ?_|refine A.r rfl rfl ?_|refine A.w rfl rfl ?_|refine A.p rfl ?_|refine A.b rfl fun bx=>?_|refine A.t rfl fun bl=>?_)
            refine A.valE 78 rfl (x' := valA (w32 x.dim, decide (0 < w32 x.dim) && w32 x.dim == x.dim)) (valb_eq (by show false = _; rw [decide_eq_false hd]; rfl)) ?_
            refine A.c rfl hkn .refl ?_
            (repeat first|refine A.s rfl ?_|refine A.r rfl rfl ?_|refine A.w rfl rfl ?_|refine A.p rfl ?_|refine A.b rfl fun bx=>?_|refine A.t rfl fun bl=>?_); refine A.retC (Λ' := []) rfl rfl rfl rfl rfl (List.nil_sublist _) ⟨?_, rfl⟩; exact .refl
        · have ed : dimV x = (0, false) := if_neg hk1
          rw [ed]
          refine Pure.of (S := tt) (fn := Try.f21) (n := 127) tt_ok Try.func21 rfl rfl rfl rfl fun w0 h0 F hgs => ?_
          (repeat first|refine A.s rfl ?_|refine A.r rfl rfl ?_|refine A.w rfl rfl ?_|refine A.p rfl ?_|refine A.b rfl fun bx=>?_|refine A.t rfl fun bl=>?_|refine A.step rfl ?_|refine A.v rfl rfl ?_)
          refine A.c rfl hfd .refl ?_
          (repeat first|refine A.s rfl ?_|refine A.r rfl rfl ?_|refine A.w rfl rfl ?_|refine A.p rfl ?_|refine A.b rfl fun bx=>?_|refine A.t rfl fun bl=>?_|refine A.step rfl ?_|refine A.v rfl rfl ?_)
          refine A.valE 45 rfl (x' := AB false) (ab_eq (by simp [hp])) ?_
          (repeat first|refine A.s rfl ?_|refine A.r rfl rfl ?_|refine A.w rfl rfl ?_|refine A.p rfl ?_|refine A.b rfl fun bx=>?_|refine A.t rfl fun bl=>?_|refine A.step rfl ?_|refine A.v rfl rfl ?_)
          refine A.x rfl hp (map_at hx) rfl rfl ?_
          (repeat first|refine A.s rfl ?_|refine A.r rfl rfl ?_|refine A.w rfl rfl ?_|refine A.p rfl ?_|refine A.b rfl fun bx=>?_|refine A.t rfl fun bl=>?_|refine A.step rfl ?_|refine A.v rfl rfl ?_)
          refine A.valE 53 rfl (x' := AB true) (ab_eq (by simp [hk1])) ?_
          (repeat first|refine A.s rfl ?_|refine A.r rfl rfl ?_|refine A.w rfl rfl ?_|refine A.p rfl ?_|refine A.b rfl fun bx=>?_|refine A.t rfl fun bl=>?_|refine A.step rfl ?_|refine A.v rfl rfl ?_); refine A.retC (Λ' := []) rfl rfl rfl rfl rfl (List.nil_sublist _) ⟨?_, rfl⟩; exact .refl
      · have e0 : (match env[(findB env e.s env.length).toNat]? with
          | some x => if 0 ≤ findB env e.s env.length then dimV x else (0, false)
          | none => (0, false)) = (0, false) := by split <;> simp [hp]
        rw [e0]
        refine Pure.of (S := tt) (fn := Try.f21) (n := 127) tt_ok Try.func21 rfl rfl rfl rfl fun w0 h0 F hgs => ?_
        (repeat first|refine A.s rfl ?_|refine A.r rfl rfl ?_|refine A.w rfl rfl ?_|refine A.p rfl ?_|refine A.b rfl fun bx=>?_|refine A.t rfl fun bl=>?_|refine A.step rfl ?_|refine A.v rfl rfl ?_)
        refine A.c rfl hfd .refl ?_
        (repeat first|refine A.s rfl ?_|refine A.r rfl rfl ?_|refine A.w rfl rfl ?_|refine A.p rfl ?_|refine A.b rfl fun bx=>?_|refine A.t rfl fun bl=>?_|refine A.step rfl ?_|refine A.v rfl rfl ?_)
        refine A.valE 45 rfl (x' := AB true) (ab_eq (by simp; omega)) ?_
        (repeat first|refine A.s rfl ?_|refine A.r rfl rfl ?_|refine A.w rfl rfl ?_|refine A.p rfl ?_|refine A.b rfl fun bx=>?_|refine A.t rfl fun bl=>?_|refine A.step rfl ?_|refine A.v rfl rfl ?_); refine A.retC (Λ' := []) rfl rfl rfl rfl rfl (List.nil_sublist _) ⟨?_, rfl⟩; exact .refl
    by_cases h5 : e.kind = 5
    · rw [heq, if_neg h1, if_neg h4, if_neg h9, if_pos h5, h5]
      refine Pure.of (S := tt) (fn := Try.f21) (n := 127) tt_ok Try.func21 rfl rfl rfl rfl fun w0 h0 F hgs => ?_
      (repeat first|refine A.s rfl ?_|refine A.r rfl rfl ?_|refine A.w rfl rfl ?_|refine A.p rfl ?_|refine A.b rfl fun bx=>?_|refine A.t rfl fun bl=>?_|refine A.step rfl ?_|refine A.v rfl rfl ?_); refine A.retC (Λ' := []) rfl rfl rfl rfl rfl (List.nil_sublist _) ⟨?_, rfl⟩; exact .refl
    have hfl : fineXl e.l = true := by rw [hsh] at hfx; simpa using hfx.symm
    have hwl := wfX_l hw
    have ih := fun x (hx : x ∈ e.l) => fvalue_p env vals ok N x (by have := htXl_le hx; have := htX_eq e; omega) (wfXl_mem hwl x hx) (fineXl_mem hfl x hx)
    by_cases h8 : e.kind = 8
    · rw [heq, if_neg h1, if_neg h4, if_neg h9, if_neg h5, if_pos h8, h8]
      rw [if_pos (.inr (.inr h8))] at hlen
      rcases hl : e.l with _ | ⟨x, _ | ⟨y, r⟩⟩
      · rw [hl] at hlen; simp at hlen
      · have hx := ih x (by rw [hl]; exact List.mem_singleton.2 rfl)
        have hcv := conv14_p e.to (valX env vals x)
        rw [valXl, encXl]
        simp only [List.headD_cons]
        refine Pure.of (S := tt) (fn := Try.f21) (n := 127) tt_ok Try.func21 rfl rfl rfl rfl fun w0 h0 F hgs => ?_
        (repeat first|refine A.s rfl ?_|refine A.r rfl rfl ?_|refine A.w rfl rfl ?_|refine A.p rfl ?_|refine A.b rfl fun bx=>?_|refine A.t rfl fun bl=>?_|refine A.step rfl ?_|refine A.v rfl rfl ?_)
        refine A.draw 9 [0, 1, 2, 3, 4, 5, 6, 7, 8] noPubs [(7, valA (valX env vals x)), (8, valA (conv14 e.to (valX env vals x)))] (by kernel_rfl) (by kernel_rfl) ?_
        (repeat first|refine WA.s rfl ?_|refine WA.r rfl rfl ?_|refine WA.p rfl ?_|refine WA.step rfl ?_|refine WA.v rfl rfl ?_)
        rw [encX_eq] at hx
        refine WA.x rfl (by omega) rfl (encX_eq x) rfl ?_
        (repeat first|refine WA.s rfl ?_|refine WA.r rfl rfl ?_|refine WA.p rfl ?_|refine WA.step rfl ?_|refine WA.v rfl rfl ?_)
        refine WA.c rfl rfl hx (.sub .refl) ?_
        refine WA.c rfl rfl hcv (.sub .refl) ?_
        refine WA.nil (l := []) rfl ?_
        (repeat first|refine A.s rfl ?_|refine A.r rfl rfl ?_|refine A.w rfl rfl ?_|refine A.p rfl ?_|refine A.b rfl fun bx=>?_|refine A.t rfl fun bl=>?_|refine A.step rfl ?_|refine A.v rfl rfl ?_); refine A.retC (Λ' := []) rfl rfl rfl rfl rfl (List.nil_sublist _) ⟨?_, rfl⟩; exact .refl
      · rw [hl] at hlen; simp at hlen; omega
    have h67 : e.kind = 6 ∨ e.kind = 7 := by
      have := shape_k e hsh
      omega
    rw [heq, if_neg h1, if_neg h4, if_neg h9, if_neg h5, if_neg h8]
    have pr : ∀ p : Int × Bool, p = (p.1, p.2) := fun _ => rfl
    rcases h67 with h6 | h7
    · rw [if_pos (.inr (.inl h6))] at hlen
      rw [h6]
      rcases hl : e.l with _ | ⟨x, _ | ⟨y, r⟩⟩
      · rw [hl] at hlen; simp at hlen
      · have hx := ih x (by rw [hl]; exact List.mem_singleton.2 rfl)
        rw [encX_eq] at hx
        have hxi := valX_in env vals ok x (wfXl_mem hwl x (by rw [hl]; exact List.mem_singleton.2 rfl))
        have hap := apply_p e.oper (valX env vals x).1 0 hxi zero_in
        simp only [valXl, encXl, opV]
        cases hb : (valX env vals x).2 with
        | false =>
          rw [pr (valX env vals x), hb] at hx
          refine Pure.of (S := tt) (fn := Try.f21) (n := 127) tt_ok Try.func21 rfl rfl rfl rfl fun w0 h0 F hgs => ?_
          (repeat first|refine A.s rfl ?_|refine A.r rfl rfl ?_|refine A.w rfl rfl ?_|refine A.p rfl ?_|refine A.b rfl fun bx=>?_|refine A.t rfl fun bl=>?_|refine A.step rfl ?_|refine A.v rfl rfl ?_)
          refine A.loop1 ?_
          (repeat first|refine A.s rfl ?_|refine A.r rfl rfl ?_|refine A.w rfl rfl ?_|refine A.p rfl ?_|refine A.b rfl fun bx=>?_|refine A.t rfl fun bl=>?_|refine A.step rfl ?_|refine A.v rfl rfl ?_)
          refine A.x rfl (by decide) rfl (encX_eq x) rfl ?_
          (repeat first|refine A.s rfl ?_|refine A.r rfl rfl ?_|refine A.w rfl rfl ?_|refine A.p rfl ?_|refine A.b rfl fun bx=>?_|refine A.t rfl fun bl=>?_|refine A.step rfl ?_|refine A.v rfl rfl ?_)
          refine A.c rfl hx .refl ?_
          (repeat first|refine A.s rfl ?_|refine A.r rfl rfl ?_|refine A.w rfl rfl ?_|refine A.p rfl ?_|refine A.b rfl fun bx=>?_|refine A.t rfl fun bl=>?_|refine A.step rfl ?_|refine A.v rfl rfl ?_); refine A.retC (Λ' := []) rfl rfl rfl rfl rfl (List.nil_sublist _) ⟨?_, rfl⟩; exact .refl
        | true =>
          rw [pr (valX env vals x), hb] at hx
          refine Pure.of (S := tt) (fn := Try.f21) (n := 127) tt_ok Try.func21 rfl rfl rfl rfl fun w0 h0 F hgs => ?_
          (repeat first|refine A.s rfl ?_|refine A.r rfl rfl ?_|refine A.w rfl rfl ?_|refine A.p rfl ?_|refine A.b rfl fun bx=>?_|refine A.t rfl fun bl=>?_|refine A.step rfl ?_|refine A.v rfl rfl ?_)
          refine A.loop1 ?_
          (repeat first|refine A.s rfl ?_|refine A.r rfl rfl ?_|refine A.w rfl rfl ?_|refine A.p rfl ?_|refine A.b rfl fun bx=>?_|refine A.t rfl fun bl=>?_|refine A.step rfl ?_|refine A.v rfl rfl ?_)
          refine A.x rfl (by decide) rfl (encX_eq x) rfl ?_
          (repeat first|refine A.s rfl ?_|refine A.r rfl rfl ?_|refine A.w rfl rfl ?_|refine A.p rfl ?_|refine A.b rfl fun bx=>?_|refine A.t rfl fun bl=>?_|refine A.step rfl ?_|refine A.v rfl rfl ?_)
          refine A.c rfl hx .refl ?_
          (repeat first|refine A.s rfl ?_|refine A.r rfl rfl ?_|refine A.w rfl rfl ?_|refine A.p rfl ?_|refine A.b rfl fun bx=>?_|refine A.t rfl fun bl=>?_|refine A.step rfl ?_|refine A.v rfl rfl ?_); refine A.indexArr rfl rfl rfl rfl rfl rfl rfl rfl (by decide) (by decide) ?_
          (repeat first|refine A.s rfl ?_|refine A.r rfl rfl ?_|refine A.w rfl rfl ?_|refine A.p rfl ?_|refine A.b rfl fun bx=>?_|refine A.t rfl fun bl=>?_|refine A.step rfl ?_|refine A.v rfl rfl ?_)
          refine A.valE 97 rfl (x' := AI 1) (ai_eq (by decide)) ?_
          refine A.again ?_
          (repeat first|refine A.s rfl ?_|refine A.r rfl rfl ?_|refine A.w rfl rfl ?_|refine A.p rfl ?_|refine A.b rfl fun bx=>?_|refine A.t rfl fun bl=>?_|refine A.step rfl ?_|refine A.v rfl rfl ?_); refine A.indexArr rfl rfl rfl rfl rfl rfl rfl rfl (by decide) (by decide) ?_
          (repeat first|refine A.s rfl ?_|refine A.r rfl rfl ?_|refine A.w rfl rfl ?_|refine A.p rfl ?_|refine A.b rfl fun bx=>?_|refine A.t rfl fun bl=>?_|refine A.step rfl ?_|refine A.v rfl rfl ?_); refine A.indexArr rfl rfl rfl rfl rfl rfl rfl rfl (by decide) (by decide) ?_
          (repeat first|refine A.s rfl ?_|refine A.r rfl rfl ?_|refine A.w rfl rfl ?_|refine A.p rfl ?_|refine A.b rfl fun bx=>?_|refine A.t rfl fun bl=>?_|refine A.step rfl ?_|refine A.v rfl rfl ?_)
          refine A.c rfl hap .refl ?_
          (repeat first|refine A.s rfl ?_|refine A.r rfl rfl ?_|refine A.w rfl rfl ?_|refine A.p rfl ?_|refine A.b rfl fun bx=>?_|refine A.t rfl fun bl=>?_|refine A.step rfl ?_|refine A.v rfl rfl ?_); refine A.retC (Λ' := []) rfl rfl rfl rfl rfl (List.nil_sublist _) ⟨?_, rfl⟩; exact .refl
      · rw [hl] at hlen; simp at hlen; omega
    · have n5 : ¬ (e.kind = 5 ∨ e.kind = 6 ∨ e.kind = 8) := by omega
      rw [if_neg n5, if_pos h7] at hlen
      rw [h7]
      rcases hl : e.l with _ | ⟨x, _ | ⟨y, _ | ⟨z, r⟩⟩⟩
      · rw [hl] at hlen; simp at hlen
      · rw [hl] at hlen; simp at hlen
      · have hx := ih x (by rw [hl]; exact List.mem_cons_self ..)
        have hy := ih y (by rw [hl]; exact List.mem_cons_of_mem _ (List.mem_cons_self ..))
        rw [encX_eq] at hx hy
        have hxi := valX_in env vals ok x (wfXl_mem hwl x (by rw [hl]; exact List.mem_cons_self ..))
        have hyi := valX_in env vals ok y (wfXl_mem hwl y (by rw [hl]; exact List.mem_cons_of_mem _ (List.mem_cons_self ..)))
        have hap := apply_p e.oper (valX env vals x).1 (valX env vals y).1 hxi hyi
        simp only [valXl, encXl, opV]
        cases hb : (valX env vals x).2 with
        | false =>
          rw [pr (valX env vals x), hb] at hx
          refine Pure.of (S := tt) (fn := Try.f21) (n := 127) tt_ok Try.func21 rfl rfl rfl rfl fun w0 h0 F hgs => ?_
          (repeat first|refine A.s rfl ?_|refine A.r rfl rfl ?_|refine A.w rfl rfl ?_|refine A.p rfl ?_|refine A.b rfl fun bx=>?_|refine A.t rfl fun bl=>?_|refine A.step rfl ?_|refine A.v rfl rfl ?_)
          refine A.loop1 ?_
          (repeat first|refine A.s rfl ?_|refine A.r rfl rfl ?_|refine A.w rfl rfl ?_|refine A.p rfl ?_|refine A.b rfl fun bx=>?_|refine A.t rfl fun bl=>?_|refine A.step rfl ?_|refine A.v rfl rfl ?_)
          refine A.x rfl (by decide) rfl (encX_eq x) rfl ?_
          (repeat first|refine A.s rfl ?_|refine A.r rfl rfl ?_|refine A.w rfl rfl ?_|refine A.p rfl ?_|refine A.b rfl fun bx=>?_|refine A.t rfl fun bl=>?_|refine A.step rfl ?_|refine A.v rfl rfl ?_)
          refine A.c rfl hx .refl ?_
          (repeat first|refine A.s rfl ?_|refine A.r rfl rfl ?_|refine A.w rfl rfl ?_|refine A.p rfl ?_|refine A.b rfl fun bx=>?_|refine A.t rfl fun bl=>?_|refine A.step rfl ?_|refine A.v rfl rfl ?_); refine A.retC (Λ' := []) rfl rfl rfl rfl rfl (List.nil_sublist _) ⟨?_, rfl⟩; exact .refl
        | true =>
          rw [pr (valX env vals x), hb] at hx
          cases hc : (valX env vals y).2 with
          | false =>
            rw [pr (valX env vals y), hc] at hy
            refine Pure.of (S := tt) (fn := Try.f21) (n := 127) tt_ok Try.func21 rfl rfl rfl rfl fun w0 h0 F hgs => ?_
            (repeat first|refine A.s rfl ?_|refine A.r rfl rfl ?_|refine A.w rfl rfl ?_|refine A.p rfl ?_|refine A.b rfl fun bx=>?_|refine A.t rfl fun bl=>?_|refine A.step rfl ?_|refine A.v rfl rfl ?_)
            refine A.loop1 ?_
            (repeat first|refine A.s rfl ?_|refine A.r rfl rfl ?_|refine A.w rfl rfl ?_|refine A.p rfl ?_|refine A.b rfl fun bx=>?_|refine A.t rfl fun bl=>?_|refine A.step rfl ?_|refine A.v rfl rfl ?_)
            refine A.x rfl (by decide) rfl (encX_eq x) rfl ?_
            (repeat first|refine A.s rfl ?_|refine A.r rfl rfl ?_|refine A.w rfl rfl ?_|refine A.p rfl ?_|refine A.b rfl fun bx=>?_|refine A.t rfl fun bl=>?_|refine A.step rfl ?_|refine A.v rfl rfl ?_)
            refine A.c rfl hx .refl ?_
            (repeat first|refine A.s rfl ?_|refine A.r rfl rfl ?_|refine A.w rfl rfl ?_|refine A.p rfl ?_|refine A.b rfl fun bx=>?_|refine A.t rfl fun bl=>?_|refine A.step rfl ?_|refine A.v rfl rfl ?_); refine A.indexArr rfl rfl rfl rfl rfl rfl rfl rfl (by decide) (by decide) ?_
            (repeat first|refine A.s rfl ?_|refine A.r rfl rfl ?_|refine A.w rfl rfl ?_|refine A.p rfl ?_|refine A.b rfl fun bx=>?_|refine A.t rfl fun bl=>?_|refine A.step rfl ?_|refine A.v rfl rfl ?_)
            refine A.valE 97 rfl (x' := AI 1) (ai_eq (by decide)) ?_
            refine A.again ?_
            (repeat first|refine A.s rfl ?_|refine A.r rfl rfl ?_|refine A.w rfl rfl ?_|refine A.p rfl ?_|refine A.b rfl fun bx=>?_|refine A.t rfl fun bl=>?_|refine A.step rfl ?_|refine A.v rfl rfl ?_)
            refine A.x rfl (by decide) rfl (encX_eq y) rfl ?_
            (repeat first|refine A.s rfl ?_|refine A.r rfl rfl ?_|refine A.w rfl rfl ?_|refine A.p rfl ?_|refine A.b rfl fun bx=>?_|refine A.t rfl fun bl=>?_|refine A.step rfl ?_|refine A.v rfl rfl ?_)
            refine A.c rfl hy .refl ?_
            (repeat first|refine A.s rfl ?_|refine A.r rfl rfl ?_|refine A.w rfl rfl ?_|refine A.p rfl ?_|refine A.b rfl fun bx=>?_|refine A.t rfl fun bl=>?_|refine A.step rfl ?_|refine A.v rfl rfl ?_); refine A.retC (Λ' := []) rfl rfl rfl rfl rfl (List.nil_sublist _) ⟨?_, rfl⟩; exact .refl
          | true =>
            rw [pr (valX env vals y), hc] at hy
            refine Pure.of (S := tt) (fn := Try.f21) (n := 127) tt_ok Try.func21 rfl rfl rfl rfl fun w0 h0 F hgs => ?_
            (repeat first|refine A.s rfl ?_|refine A.r rfl rfl ?_|refine A.w rfl rfl ?_|refine A.p rfl ?_|refine A.b rfl fun bx=>?_|refine A.t rfl fun bl=>?_|refine A.step rfl ?_|refine A.v rfl rfl ?_)
            refine A.loop1 ?_
            (repeat first|refine A.s rfl ?_|refine A.r rfl rfl ?_|refine A.w rfl rfl ?_|refine A.p rfl ?_|refine A.b rfl fun bx=>?_|refine A.t rfl fun bl=>?_|refine A.step rfl ?_|refine A.v rfl rfl ?_)
            refine A.x rfl (by decide) rfl (encX_eq x) rfl ?_
            (repeat first|refine A.s rfl ?_|refine A.r rfl rfl ?_|refine A.w rfl rfl ?_|refine A.p rfl ?_|refine A.b rfl fun bx=>?_|refine A.t rfl fun bl=>?_|refine A.step rfl ?_|refine A.v rfl rfl ?_)
            refine A.c rfl hx .refl ?_
            (repeat first|refine A.s rfl ?_|refine A.r rfl rfl ?_|refine A.w rfl rfl ?_|refine A.p rfl ?_|refine A.b rfl fun bx=>?_|refine A.t rfl fun bl=>?_|refine A.step rfl ?_|refine A.v rfl rfl ?_); refine A.indexArr rfl rfl rfl rfl rfl rfl rfl rfl (by decide) (by decide) ?_
            (repeat first|refine A.s rfl ?_|refine A.r rfl rfl ?_|refine A.w rfl rfl ?_|refine A.p rfl ?_|refine A.b rfl fun bx=>?_|refine A.t rfl fun bl=>?_|refine A.step rfl ?_|refine A.v rfl rfl ?_)
            refine A.valE 97 rfl (x' := AI 1) (ai_eq (by decide)) ?_
            refine A.again ?_
            (repeat first|refine A.s rfl ?_|refine A.r rfl rfl ?_|refine A.w rfl rfl ?_|refine A.p rfl ?_|refine A.b rfl fun bx=>?_|refine A.t rfl fun bl=>?_|refine A.step rfl ?_|refine A.v rfl rfl ?_)
            refine A.x rfl (by decide) rfl (encX_eq y) rfl ?_
            (repeat first|refine A.s rfl ?_|refine A.r rfl rfl ?_|refine A.w rfl rfl ?_|refine A.p rfl ?_|refine A.b rfl fun bx=>?_|refine A.t rfl fun bl=>?_|refine A.step rfl ?_|refine A.v rfl rfl ?_)
            refine A.c rfl hy .refl ?_
            (repeat first|refine A.s rfl ?_|refine A.r rfl rfl ?_|refine A.w rfl rfl ?_|refine A.p rfl ?_|refine A.b rfl fun bx=>?_|refine A.t rfl fun bl=>?_|refine A.step rfl ?_|refine A.v rfl rfl ?_); refine A.indexArr rfl rfl rfl rfl rfl rfl rfl rfl (by decide) (by decide) ?_
            (repeat first|refine A.s rfl ?_|refine A.r rfl rfl ?_|refine A.w rfl rfl ?_|refine A.p rfl ?_|refine A.b rfl fun bx=>?_|refine A.t rfl fun bl=>?_|refine A.step rfl ?_|refine A.v rfl rfl ?_)
            refine A.valE 97 rfl (x' := AI 2) (ai_eq (by decide)) ?_
            refine A.again ?_
            (repeat first|refine A.s rfl ?_|refine A.r rfl rfl ?_|refine A.w rfl rfl ?_|refine A.p rfl ?_|refine A.b rfl fun bx=>?_|refine A.t rfl fun bl=>?_|refine A.step rfl ?_|refine A.v rfl rfl ?_); refine A.indexArr rfl rfl rfl rfl rfl rfl rfl rfl (by decide) (by decide) ?_
            (repeat first|refine A.s rfl ?_|refine A.r rfl rfl ?_|refine A.w rfl rfl ?_|refine A.p rfl ?_|refine A.b rfl fun bx=>?_|refine A.t rfl fun bl=>?_|refine A.step rfl ?_|refine A.v rfl rfl ?_); refine A.indexArr rfl rfl rfl rfl rfl rfl rfl rfl (by decide) (by decide) ?_
            (repeat first|refine A.s rfl ?_|refine A.r rfl rfl ?_|refine A.w rfl rfl ?_|refine A.p rfl ?_|refine A.b rfl fun bx=>?_|refine A.t rfl fun bl=>?_|refine A.step rfl ?_|refine A.v rfl rfl ?_)
            refine A.c rfl hap .refl ?_
            (repeat first|refine A.s rfl ?_|refine A.r rfl rfl ?_|refine A.w rfl rfl ?_|refine A.p rfl ?_|refine A.b rfl fun bx=>?_|refine A.t rfl fun bl=>?_|refine A.step rfl ?_|refine A.v rfl rfl ?_); refine A.retC (Λ' := []) rfl rfl rfl rfl rfl (List.nil_sublist _) ⟨?_, rfl⟩; exact .refl
      · rw [hl] at hlen; simp at hlen; omega
end Go.Proofs.Ytbdjbmbghfbenaa
